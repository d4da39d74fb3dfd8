/-
  The law TreeOnce is answered with true, whatever its arguments, which stay as they were.
-/
import Derived.Test.YtgcoidbaoigkeaaRows
import Derived.Test.YtgcoidbaoigkeaaFFacts
import Derived.Test.YtgcoidbaoigkeaaQTOnce
set_option linter.unusedVariables false
set_option linter.unusedSimpArgs false
namespace Go.Proofs.Ytgcoidbaoigkeaa.treeOnce
open Go.RowKit Go.ChangeShapes Go.WideShapes Go.ChangeAt Go.Sx fix

noncomputable def G_TreeOnce : List Sum := [s_alive16, s_tbuild, s_tleaves]
def I_TreeOnce : List Inf := [i_alive16, i_tbuild, i_tleaves]
def t_TreeOnce : TX := (.callp 0 [] (.ite (.eq (.v 1) (.c 0)) (.ret [(.c 0)])
(.ite (.lt (.c 256) (.ln (.v 0))) (.ret [(.c 1)])
(.call 1 [(.v 0)] (.ite (.not (.eq (.v 3) (.c 0))) (.ret [(.c 1)])
(.callp 2 [(.v 2)] (.ite (.or (.or (.not (.eq (.v 5) (.c 0))) (.not (.eq (.ln (.v 4)) (.ln (.v 0))))) (.not (.eq (.ln (.v 2)) (.mx (.c 0) (.wr .i64 (.sub (.wr .i64 (.mul (.c 2) (.ln (.v 0)))) (.c 1))))))) (.ret [(.c 0)])
(.loop 3 [none, none, none] [(.c 0), (.l2 .rep (.c 256) (.c 0)), (.c 0)] (.ite (.lt (.v 8) (.ln (.v 4))) (.asrt (.le (.c 0) (.v 8)) (.asrt (.or (.or (.lt (.l2 .at (.v 4) (.v 8)) (.c 0)) (.le (.ln (.v 0)) (.l2 .at (.v 4) (.v 8)))) (.le (.c 0) (.l2 .at (.v 4) (.v 8)))) (.asrt (.or (.or (.lt (.l2 .at (.v 4) (.v 8)) (.c 0)) (.le (.ln (.v 0)) (.l2 .at (.v 4) (.v 8)))) (.lt (.l2 .at (.v 4) (.v 8)) (.ln (.v 7)))) (.asrt (.or (.or (.lt (.l2 .at (.v 4) (.v 8)) (.c 0)) (.le (.ln (.v 0)) (.l2 .at (.v 4) (.v 8)))) (.lt (.l2 .at (.v 4) (.v 8)) (.c 256))) (.asrt (.or (.or (.lt (.l2 .at (.v 4) (.v 8)) (.c 0)) (.le (.ln (.v 0)) (.l2 .at (.v 4) (.v 8)))) (.le (.c 0) (.l2 .at (.v 4) (.v 8)))) (.asrt (.or (.or (.lt (.l2 .at (.v 4) (.v 8)) (.c 0)) (.le (.ln (.v 0)) (.l2 .at (.v 4) (.v 8)))) (.lt (.l2 .at (.v 4) (.v 8)) (.ln (.v 7)))) (.ite (.or (.or (.lt (.l2 .at (.v 4) (.v 8)) (.c 0)) (.le (.ln (.v 0)) (.l2 .at (.v 4) (.v 8)))) (.nz (.l2 .at (.v 7) (.l2 .at (.v 4) (.v 8))))) (.ret [(.c 0)])
(.asrt (.lt (.l2 .at (.v 4) (.v 8)) (.ln (.v 7))) (.asrt (.lt (.l2 .at (.v 4) (.v 8)) (.c 256)) (.back 0 [(.v 6), (.l3 (.v 7) (.l2 .at (.v 4) (.v 8)) (.c 1)), (.wr .i64 (.add (.v 8) (.c 1)))]))))))))))
(.loop 3 [none, none, none] [(.v 6), (.l2 .rep (.c 512) (.c 0)), (.c 0)] (.ite (.le (.ln (.v 2)) (.v 11)) (.ret [(.c 1)])
(.ite (.eq (.v 11) (.c 0)) (.asrt (.lt (.c 0) (.ln (.v 10))) (.asrt (.le (.c 0) (.v 11)) (.ite (.and (.and (.and (.lt (.v 11) (.l2 .at (.l2 .at (.v 2) (.v 11)) (.c 6))) (.lt (.v 11) (.l2 .at (.l2 .at (.v 2) (.v 11)) (.c 7)))) (.lt (.l2 .at (.l2 .at (.v 2) (.v 11)) (.c 6)) (.c 512))) (.lt (.l2 .at (.l2 .at (.v 2) (.v 11)) (.c 7)) (.c 512))) (.asrt (.lt (.v 11) (.ln (.l3 (.v 10) (.c 0) (.c 1)))) (.asrt (.lt (.v 11) (.c 512)) (.asrt (.le (.c 0) (.l2 .at (.l2 .at (.v 2) (.v 11)) (.c 6))) (.asrt (.lt (.l2 .at (.l2 .at (.v 2) (.v 11)) (.c 6)) (.ln (.l3 (.v 10) (.c 0) (.c 1)))) (.asrt (.lt (.v 11) (.ln (.l3 (.l3 (.v 10) (.c 0) (.c 1)) (.l2 .at (.l2 .at (.v 2) (.v 11)) (.c 6)) (.wr .i64 (.add (.l2 .at (.l3 (.v 10) (.c 0) (.c 1)) (.v 11)) (.c 1)))))) (.asrt (.le (.c 0) (.l2 .at (.l2 .at (.v 2) (.v 11)) (.c 7))) (.asrt (.lt (.l2 .at (.l2 .at (.v 2) (.v 11)) (.c 7)) (.ln (.l3 (.l3 (.v 10) (.c 0) (.c 1)) (.l2 .at (.l2 .at (.v 2) (.v 11)) (.c 6)) (.wr .i64 (.add (.l2 .at (.l3 (.v 10) (.c 0) (.c 1)) (.v 11)) (.c 1)))))) (.asrt (.lt (.v 11) (.ln (.l3 (.l3 (.l3 (.v 10) (.c 0) (.c 1)) (.l2 .at (.l2 .at (.v 2) (.v 11)) (.c 6)) (.wr .i64 (.add (.l2 .at (.l3 (.v 10) (.c 0) (.c 1)) (.v 11)) (.c 1)))) (.l2 .at (.l2 .at (.v 2) (.v 11)) (.c 7)) (.wr .i64 (.add (.l2 .at (.l3 (.l3 (.v 10) (.c 0) (.c 1)) (.l2 .at (.l2 .at (.v 2) (.v 11)) (.c 6)) (.wr .i64 (.add (.l2 .at (.l3 (.v 10) (.c 0) (.c 1)) (.v 11)) (.c 1)))) (.v 11)) (.c 1)))))) (.ite (.or (.lt (.l2 .at (.l3 (.l3 (.l3 (.v 10) (.c 0) (.c 1)) (.l2 .at (.l2 .at (.v 2) (.v 11)) (.c 6)) (.wr .i64 (.add (.l2 .at (.l3 (.v 10) (.c 0) (.c 1)) (.v 11)) (.c 1)))) (.l2 .at (.l2 .at (.v 2) (.v 11)) (.c 7)) (.wr .i64 (.add (.l2 .at (.l3 (.l3 (.v 10) (.c 0) (.c 1)) (.l2 .at (.l2 .at (.v 2) (.v 11)) (.c 6)) (.wr .i64 (.add (.l2 .at (.l3 (.v 10) (.c 0) (.c 1)) (.v 11)) (.c 1)))) (.v 11)) (.c 1)))) (.v 11)) (.c 1)) (.lt (.c 9) (.l2 .at (.l3 (.l3 (.l3 (.v 10) (.c 0) (.c 1)) (.l2 .at (.l2 .at (.v 2) (.v 11)) (.c 6)) (.wr .i64 (.add (.l2 .at (.l3 (.v 10) (.c 0) (.c 1)) (.v 11)) (.c 1)))) (.l2 .at (.l2 .at (.v 2) (.v 11)) (.c 7)) (.wr .i64 (.add (.l2 .at (.l3 (.l3 (.v 10) (.c 0) (.c 1)) (.l2 .at (.l2 .at (.v 2) (.v 11)) (.c 6)) (.wr .i64 (.add (.l2 .at (.l3 (.v 10) (.c 0) (.c 1)) (.v 11)) (.c 1)))) (.v 11)) (.c 1)))) (.v 11)))) (.ret [(.c 0)])
(.back 1 [(.v 9), (.l3 (.l3 (.l3 (.v 10) (.c 0) (.c 1)) (.l2 .at (.l2 .at (.v 2) (.v 11)) (.c 6)) (.wr .i64 (.add (.l2 .at (.l3 (.v 10) (.c 0) (.c 1)) (.v 11)) (.c 1)))) (.l2 .at (.l2 .at (.v 2) (.v 11)) (.c 7)) (.wr .i64 (.add (.l2 .at (.l3 (.l3 (.v 10) (.c 0) (.c 1)) (.l2 .at (.l2 .at (.v 2) (.v 11)) (.c 6)) (.wr .i64 (.add (.l2 .at (.l3 (.v 10) (.c 0) (.c 1)) (.v 11)) (.c 1)))) (.v 11)) (.c 1)))), (.wr .i64 (.add (.v 11) (.c 1)))]))))))))))
(.asrt (.lt (.v 11) (.ln (.l3 (.v 10) (.c 0) (.c 1)))) (.asrt (.lt (.v 11) (.c 512)) (.ite (.or (.lt (.l2 .at (.l3 (.v 10) (.c 0) (.c 1)) (.v 11)) (.c 1)) (.lt (.c 9) (.l2 .at (.l3 (.v 10) (.c 0) (.c 1)) (.v 11)))) (.ret [(.c 0)])
(.back 1 [(.v 9), (.l3 (.v 10) (.c 0) (.c 1)), (.wr .i64 (.add (.v 11) (.c 1)))])))))))
(.asrt (.le (.c 0) (.v 11)) (.ite (.and (.and (.and (.lt (.v 11) (.l2 .at (.l2 .at (.v 2) (.v 11)) (.c 6))) (.lt (.v 11) (.l2 .at (.l2 .at (.v 2) (.v 11)) (.c 7)))) (.lt (.l2 .at (.l2 .at (.v 2) (.v 11)) (.c 6)) (.c 512))) (.lt (.l2 .at (.l2 .at (.v 2) (.v 11)) (.c 7)) (.c 512))) (.asrt (.lt (.v 11) (.ln (.v 10))) (.asrt (.lt (.v 11) (.c 512)) (.asrt (.le (.c 0) (.l2 .at (.l2 .at (.v 2) (.v 11)) (.c 6))) (.asrt (.lt (.l2 .at (.l2 .at (.v 2) (.v 11)) (.c 6)) (.ln (.v 10))) (.asrt (.lt (.v 11) (.ln (.l3 (.v 10) (.l2 .at (.l2 .at (.v 2) (.v 11)) (.c 6)) (.wr .i64 (.add (.l2 .at (.v 10) (.v 11)) (.c 1)))))) (.asrt (.le (.c 0) (.l2 .at (.l2 .at (.v 2) (.v 11)) (.c 7))) (.asrt (.lt (.l2 .at (.l2 .at (.v 2) (.v 11)) (.c 7)) (.ln (.l3 (.v 10) (.l2 .at (.l2 .at (.v 2) (.v 11)) (.c 6)) (.wr .i64 (.add (.l2 .at (.v 10) (.v 11)) (.c 1)))))) (.asrt (.lt (.v 11) (.ln (.l3 (.l3 (.v 10) (.l2 .at (.l2 .at (.v 2) (.v 11)) (.c 6)) (.wr .i64 (.add (.l2 .at (.v 10) (.v 11)) (.c 1)))) (.l2 .at (.l2 .at (.v 2) (.v 11)) (.c 7)) (.wr .i64 (.add (.l2 .at (.l3 (.v 10) (.l2 .at (.l2 .at (.v 2) (.v 11)) (.c 6)) (.wr .i64 (.add (.l2 .at (.v 10) (.v 11)) (.c 1)))) (.v 11)) (.c 1)))))) (.ite (.or (.lt (.l2 .at (.l3 (.l3 (.v 10) (.l2 .at (.l2 .at (.v 2) (.v 11)) (.c 6)) (.wr .i64 (.add (.l2 .at (.v 10) (.v 11)) (.c 1)))) (.l2 .at (.l2 .at (.v 2) (.v 11)) (.c 7)) (.wr .i64 (.add (.l2 .at (.l3 (.v 10) (.l2 .at (.l2 .at (.v 2) (.v 11)) (.c 6)) (.wr .i64 (.add (.l2 .at (.v 10) (.v 11)) (.c 1)))) (.v 11)) (.c 1)))) (.v 11)) (.c 1)) (.lt (.c 9) (.l2 .at (.l3 (.l3 (.v 10) (.l2 .at (.l2 .at (.v 2) (.v 11)) (.c 6)) (.wr .i64 (.add (.l2 .at (.v 10) (.v 11)) (.c 1)))) (.l2 .at (.l2 .at (.v 2) (.v 11)) (.c 7)) (.wr .i64 (.add (.l2 .at (.l3 (.v 10) (.l2 .at (.l2 .at (.v 2) (.v 11)) (.c 6)) (.wr .i64 (.add (.l2 .at (.v 10) (.v 11)) (.c 1)))) (.v 11)) (.c 1)))) (.v 11)))) (.ret [(.c 0)])
(.back 1 [(.v 9), (.l3 (.l3 (.v 10) (.l2 .at (.l2 .at (.v 2) (.v 11)) (.c 6)) (.wr .i64 (.add (.l2 .at (.v 10) (.v 11)) (.c 1)))) (.l2 .at (.l2 .at (.v 2) (.v 11)) (.c 7)) (.wr .i64 (.add (.l2 .at (.l3 (.v 10) (.l2 .at (.l2 .at (.v 2) (.v 11)) (.c 6)) (.wr .i64 (.add (.l2 .at (.v 10) (.v 11)) (.c 1)))) (.v 11)) (.c 1)))), (.wr .i64 (.add (.v 11) (.c 1)))]))))))))))
(.asrt (.lt (.v 11) (.ln (.v 10))) (.asrt (.lt (.v 11) (.c 512)) (.ite (.or (.lt (.l2 .at (.v 10) (.v 11)) (.c 1)) (.lt (.c 9) (.l2 .at (.v 10) (.v 11)))) (.ret [(.c 0)])
(.back 1 [(.v 9), (.v 10), (.wr .i64 (.add (.v 11) (.c 1)))]))))))))))))))))))
theorem tree_TreeOnce : merge (optFL [] I_TreeOnce [] ([none]) (symFnL Try.prog (openAt Try.prog [(14, 53), (21, 86)]) gl0 G_TreeOnce 1000 6 [Bs] [Bo])) = t_TreeOnce := by kernel_rfl
theorem g_TreeOnce : Gok Try.prog G_TreeOnce := (more ok_alive16 (more ok_tbuild (fix.one ok_tleaves)))
theorem o_TreeOnce : outsOK G_TreeOnce I_TreeOnce := (outsOK_cons inf_alive16 (outsOK_cons inf_tbuild (outsOK_cons inf_tleaves outsOK_nil)))
theorem idx_nodup (n : Nat) : (idxL n).Nodup := by
  unfold idxL
  exact List.pairwise_map.2 (List.nodup_range.imp fun h => by omega)
/-- What has been seen. -/
def Seen (its seen : List Int) (i : Nat) : Prop := seen.length = 256 ∧ ∀ j : Nat, seen.getD j 0 = if (j : Int) ∈ its.take i then 1 else 0
theorem take_succ_getD {l : List Int} {i : Nat} (h : i < l.length) : l.take (i + 1) = l.take i ++ [l.getD i 0] := by
  rw [List.take_add_one, List.getElem?_eq_getElem h]
  simp [List.getD, h]
theorem not_seen {l : List Int} (hn : l.Nodup) {i : Nat} (h : i < l.length) : l.getD i 0 ∉ l.take i := by
  have h1 := (List.Pairwise.sublist (List.take_sublist (i + 1) l) hn : (l.take (i + 1)).Nodup)
  rw [take_succ_getD h] at h1
  exact fun hm => (List.nodup_append.1 h1).2.2 _ hm _ (by simp) rfl
theorem seen_step {its seen : List Int} {i : Nat} (h : Seen its seen i) (hi : i < its.length) (h0 : 0 ≤ its.getD i 0) (h1 : its.getD i 0 < 256) : Seen its (seen.set (its.getD i 0).toNat 1) (i + 1) := by
  refine ⟨by rw [List.length_set]; exact h.1, fun j => ?_⟩
  rw [getD_set, h.1, take_succ_getD hi]
  simp only [List.mem_append, List.mem_singleton]
  by_cases hj : (its.getD i 0).toNat = j
  · rw [if_pos ⟨hj, by omega⟩, if_pos (.inr (by omega))]
  · rw [if_neg (fun hh => hj hh.1), h.2 j]
    by_cases hm : (j : Int) ∈ its.take i
    · rw [if_pos hm, if_pos (.inl hm)]
    · rw [if_neg hm, if_neg (by
        rintro (hh | hh)
        · exact hm hh
        · omega)]
/-- How deep, so far. -/
noncomputable def D0 : List Int := (List.replicate 512 0).set 0 1
theorem D0_len : D0.length = 512 := by unfold D0; rw [List.length_set, List.length_replicate]
def Deep (t deep : List Int) (i : Nat) : Prop := (i = 0 ∧ deep = List.replicate 512 0) ∨ (0 < i ∧ deep = dRun t D0 0 i)
theorem pins (l0 : List Int) (hr0 : ∀ x ∈ l0, rangeOK Bs_ks (elt Bs_ks x)) : vsOK ([none]) ([cod l0] ++ []) :=
  vsOK_cons trivial vsOK_nil
/-- A branch hands its depth on: what the step is. -/
theorem deep_yes {t D : List Int} {i : Nat} (hD : D.length = 512) (hc : ((i : Int) < co (t.getD i 0) 6 ∧ (i : Int) < co (t.getD i 0) 7) ∧ (co (t.getD i 0) 6 < 512 ∧ co (t.getD i 0) 7 < 512)) (h1 : 1 ≤ D.getD i 0) (h2 : D.getD i 0 ≤ 9) :
    (D.set (co (t.getD i 0) 6).toNat (IntKind.i64.wrap (D.getD i 0 + 1))).getD i 0 = D.getD i 0 ∧
    (D.set (co (t.getD i 0) 6).toNat (IntKind.i64.wrap (D.getD i 0 + 1))).set (co (t.getD i 0) 7).toNat (IntKind.i64.wrap ((D.set (co (t.getD i 0) 6).toNat (IntKind.i64.wrap (D.getD i 0 + 1))).getD i 0 + 1)) = dStep t D i ∧ (dStep t D i).getD i 0 = D.getD i 0 := by
  have hw : IntKind.i64.wrap (D.getD i 0 + 1) = D.getD i 0 + 1 := wrap64 (by omega) (by omega)
  have hg : ∀ x : Int, (D.set (co (t.getD i 0) 6).toNat x).getD i 0 = D.getD i 0 := fun x => by rw [getD_set, if_neg (fun hh => by omega)]
  refine ⟨hg _, ?_, ?_⟩
  · rw [hg, hw]
    unfold dStep
    rw [if_pos hc]
  · unfold dStep
    rw [if_pos hc, getD_set, if_neg (fun hh => by omega), hg]
theorem deep_no {t D : List Int} {i : Nat} (hc : ¬ (((i : Int) < co (t.getD i 0) 6 ∧ (i : Int) < co (t.getD i 0) 7) ∧ (co (t.getD i 0) 6 < 512 ∧ co (t.getD i 0) 7 < 512))) : dStep t D i = D := by
  unfold dStep
  rw [if_neg hc]
theorem plain (l0 : List Int) (hr0 : ∀ x ∈ l0, rangeOK Bs_ks (elt Bs_ks x)) : t_TreeOnce.sat G_TreeOnce [] (fun ys => ys = [1]) [] ([cod l0] ++ []) := by
  have hel0 : ∀ x ∈ l0, rangeOK Bs_ks (dec x) := hr0
  simp only [t_TreeOnce, G_TreeOnce, s_alive16, s_tbuild, s_tleaves, TX.sat, XB.prop, X.den, List.map_cons, List.map_nil, List.getElem?_cons_zero, List.getElem?_cons_succ, List.cons_append, List.nil_append, List.getD_cons_zero, List.getD_cons_succ, mkS, mkP, and_true, true_and, Int.not_lt, Int.not_le, not_or, not_and, Classical.not_not, ne_eq, not_true_eq_false, not_false_eq_true, sem_alive16, sem_tbuild, sem_tleaves, L2.den, dec_cod]
  refine ⟨fun h => by first | exact h.elim | simp at h, fun _ => ⟨fun _ => trivial, fun hbig => ?_⟩⟩
  have hl0 : l0.length ≤ 256 := by omega
  have hp : pre_tbuild [cod l0] := ⟨vs_none (n := 1) rfl, by show ∀ b ∈ dec (cod l0), _; rw [dec_cod]; exact hel0⟩
  refine ⟨hp, fun he => trivial, fun he => ?_⟩
  have hE := tree_leavesE he
  have hTl := tree_len (L := l0)
  have hI := tree_lvs l0
  have hdp : 0 < l0.length → ∀ k, k < (treeL l0).length → 1 ≤ (dRun (treeL l0) D0 0 k).getD k 0 ∧ (dRun (treeL l0) D0 0 k).getD k 0 ≤ 9 := fun h0 => tree_deep h0 hl0
  simp only [he, if_true, dec_cod, hE]
  generalize hits : lvs (treeL l0) (treeL l0).length = its at *
  generalize treeL l0 = T at *
  have hIl : its.length = l0.length := by rw [hI.length_eq, idx_len]
  have hIn : its.Nodup := hI.nodup_iff.2 (idx_nodup _)
  have hIr : ∀ i, i < its.length → 0 ≤ its.getD i 0 ∧ its.getD i 0 < (l0.length : Int) := fun i hi => by
    have hm : its.getD i 0 ∈ its := mem_at hi
    exact idx_mem.1 (hI.mem_iff.1 hm)
  have hco : ∀ x j, (dec x).getD j 0 = co x j := fun _ _ => rfl
  refine ⟨fun hbad => ?_, fun _ => ?_⟩
  · exfalso
    have hw1 : IntKind.i64.wrap (2 * (l0.length : Int)) = 2 * (l0.length : Int) := wrap64 (by omega) (by omega)
    have hw2 : IntKind.i64.wrap (2 * (l0.length : Int) - 1) = 2 * (l0.length : Int) - 1 := wrap64 (by omega) (by omega)
    rw [hw1, hw2] at hbad
    have := hbad
    first | omega | (simp at hbad; omega)
  refine ⟨fun xs => ∃ i : Nat, xs.getD 2 0 = (i : Int) ∧ i ≤ its.length ∧ Seen its (dec (xs.getD 1 0)) i, fun xs => its.length - (xs.getD 2 0).toNat, fun xs hx _ => vs_none (n := 3) hx, ⟨0, rfl, Nat.zero_le _, ?_⟩, ?_⟩
  · simp only [List.getD_cons_zero, List.getD_cons_succ, dec_cod]
    refine ⟨by rw [List.length_replicate]; rfl, fun j => ?_⟩
    rw [List.take_zero, if_neg (by simp)]
    simp only [List.getD, List.getElem?_replicate]
    split <;> rfl
  intro xs hx hInv
  obtain ⟨d0, d1, d2, rfl⟩ := len3 hx
  obtain ⟨i, hi, hil, hseen⟩ := hInv
  simp only [List.getD_cons_zero, List.getD_cons_succ, List.cons_append, List.nil_append] at hi hseen ⊢
  subst hi
  generalize hsd : dec d1 = seen at *
  simp only [Int.toNat_natCast]
  refine ⟨fun hlt => ?_, fun hge => ?_⟩
  · have hlt' : i < its.length := by omega
    have hr := hIr i hlt'
    have hs0 : seen.getD (its.getD i 0).toNat 0 = 0 := by
      rw [hseen.2, if_neg]
      have := not_seen hIn hlt'
      rwa [Int.toNat_of_nonneg hr.1]
    have hsl := hseen.1
    have hw : IntKind.i64.wrap ((i : Int) + 1) = ((i + 1 : Nat) : Int) := by rw [wrap64 (by omega) (by omega)]; omega
    rw [hw, hs0]
    refine ⟨by omega, by omega, by omega, by omega, by omega, by omega, fun hb => by omega, fun _ => ⟨by omega, by omega, ⟨i + 1, rfl, by omega, ?_⟩, by omega⟩⟩
    rw [dec_cod]
    exact seen_step hseen hlt' hr.1 (by omega)
  · refine ⟨fun ys => ∃ k : Nat, ys.getD 2 0 = (k : Int) ∧ k ≤ T.length ∧ Deep T (dec (ys.getD 1 0)) k, fun ys => T.length - (ys.getD 2 0).toNat, fun xs hx _ => vs_none (n := 3) hx, ⟨0, rfl, Nat.zero_le _, .inl ⟨rfl, ?_⟩⟩, ?_⟩
    · simp only [List.getD_cons_zero, List.getD_cons_succ, dec_cod]
      rfl
    intro ys hy hInv2
    obtain ⟨e0, e1, e2, rfl⟩ := len3 hy
    obtain ⟨k, hk, hkl, hdeep⟩ := hInv2
    simp only [List.getD_cons_zero, List.getD_cons_succ, List.cons_append, List.nil_append] at hk hdeep ⊢
    subst hk
    generalize hdd : dec e1 = deep at *
    simp only [hco, Int.toNat_natCast, show Int.toNat 0 = 0 from rfl, show Int.toNat 6 = 6 from rfl, show Int.toNat 7 = 7 from rfl]
    have hw : IntKind.i64.wrap ((k : Int) + 1) = ((k + 1 : Nat) : Int) := by rw [wrap64 (by omega) (by omega)]; omega
    rw [hw]
    refine ⟨fun _ => trivial, fun hlt => ?_⟩
    have hlt' : k < T.length := by omega
    have hn0 : 0 < l0.length := by omega
    obtain ⟨hd1, hd2⟩ := hdp hn0 k hlt'
    have hDl : (dRun T D0 0 k).length = 512 := by rw [dRun_len, D0_len]
    have hnext : dRun T D0 0 (k + 1) = dStep T (dRun T D0 0 k) k := by rw [dRun, Nat.zero_add]
    -- what the two branches come to
    have fin : ∀ X : List Int, X = dRun T D0 0 k → Deep T (dStep T X k) (k + 1) := fun X hX => .inr ⟨Nat.succ_pos _, by rw [hX, hnext]⟩
    have back : ∀ X : List Int, X = dRun T D0 0 (k + 1) → (∃ k' : Nat, ((k + 1 : Nat) : Int) = (k' : Int) ∧ k' ≤ T.length ∧ Deep T (dec (cod X)) k') ∧ T.length - ((k + 1 : Nat) : Int).toNat < T.length - (k : Int).toNat := fun X hX => ⟨⟨k + 1, rfl, by omega, .inr ⟨Nat.succ_pos _, by rw [dec_cod]; exact hX⟩⟩, by omega⟩
    have hDeq : (k = 0 → deep.set 0 1 = dRun T D0 0 k) ∧ (0 < k → deep = dRun T D0 0 k) := by
      rcases hdeep with ⟨h1, h2⟩ | ⟨h1, h2⟩
      · exact ⟨fun _ => by rw [h1, h2]; rfl, fun h => by omega⟩
      · exact ⟨fun h => by omega, fun _ => h2⟩
    refine ⟨fun hz => ?_, fun hz => ?_⟩
    · have hX := hDeq.1 (by omega)
      have hdl : deep.length = 512 := by rw [← hDl, ← hX, List.length_set]
      rw [hX]
      generalize dRun T D0 0 k = D at *
      refine ⟨by omega, by omega, fun hc => ?_, fun hc => ?_⟩
      · obtain ⟨y1, y2, y3⟩ := deep_yes (t := T) (i := k) hDl (by omega) hd1 hd2
        have hsl : (dStep T D k).length = 512 := by rw [dStep_len, hDl]
        rw [y2, y3]
        simp only [List.length_set]
        refine ⟨by omega, by omega, by omega, by omega, by omega, by omega, by omega, by omega, fun hb => by omega, fun _ => back _ (by rw [hnext])⟩
      · have hno := deep_no (t := T) (D := D) (i := k) (by omega)
        refine ⟨by omega, by omega, fun hb => by omega, fun _ => back _ (by rw [hnext, hno])⟩
    · have hX := hDeq.2 (by omega)
      subst hX
      have hee : ∀ P : Int → Prop, dec e1 = dRun T D0 0 k → True := fun _ _ => trivial
      generalize hDD : dRun T D0 0 k = D at *
      refine ⟨by omega, fun hc => ?_, fun hc => ?_⟩
      · obtain ⟨y1, y2, y3⟩ := deep_yes (t := T) (i := k) hDl (by omega) hd1 hd2
        have hsl : (dStep T D k).length = 512 := by rw [dStep_len, hDl]
        rw [y2, y3]
        simp only [List.length_set]
        refine ⟨by omega, by omega, by omega, by omega, by omega, by omega, by omega, by omega, fun hb => by omega, fun _ => back _ (by rw [hnext])⟩
      · have hno := deep_no (t := T) (D := D) (i := k) (by omega)
        refine ⟨by omega, by omega, fun hb => by omega, fun _ => ⟨⟨k + 1, rfl, by omega, .inr ⟨Nat.succ_pos _, ?_⟩⟩, by omega⟩⟩
        rw [hnext, hno]
set_option maxRecDepth 100000 in
theorem lifted (os : Os) (started : os.Started) (H : Type) (enc : TypeId × Value → H) :
    ReturnsInHanded {} Try.checked os 6 .any (Rows.treeOnceSpec.pre6 enc Try.prog Try.f6 Rows.treeOnceRow.domain false) (Rows.treeOnceSpec.post enc Try.prog Try.f6 false true false false) := by
  refine returnsInHanded_of_change (C := Try.checked) facts.own started (by kernel_rfl) Try.func6
    (ChangeSpec.witness6 (enc := enc) (C := Try.checked) false ⟨#[], #[.slice none 0 0], []⟩ 8 (by kernel_rfl) (by kernel_rfl) (by kernel_rfl) (by kernel_rfl)) ?_
  intro W base args ds gs before hval0 hW hcnd _
  have hval : ∀ (j : Nat) t v, Try.f6.params[j]? = some t → args[j]? = some v → Value.okWide Try.prog W .any base t v := hval0
  have hW' := hW
  obtain ⟨p, q, hA0, hV, rfl, hfz, hnd⟩ := hW
  have hA : DataW.TrodAll enc Try.prog W 0 (fun _ => true) true Try.f6.params.toList args.toList ds p := hA0
  rw [Try.params6] at hA hval
  obtain ⟨v0, vs0, d0, ds0, p0, q0, hargs, rfl, rfl, h0, r0⟩ := trodAll_cons hA
  obtain ⟨rfl, rfl, rfl⟩ := trodAll_nil r0
  obtain rfl : args = #[v0] := by cases args; simp_all
  obtain ⟨rfl, rfl⟩ := trodVars_none hV
  have k0 := h0
  have lt0 : ∀ x ∈ p0, x.block < W.heap.size := by obtain ⟨m, hm⟩ := k0; exact DataW.trod_lt m _ _ _ hm
  obtain ⟨l0, hs0, hr0⟩ := open_slT (ks := Bs_ks) Try.underlying50 (by kernel_rfl) (by kernel_rfl) (hval 0 50 v0 rfl rfl) h0
  clear hA0 hval0
  have hx : ShsR (fun _ ks u n => SlN W ks u n) [Bs] [v0] ([cod l0] ++ []) := ⟨_, _, _, _, rfl, rfl, hs0, ⟨rfl, rfl⟩⟩
  have hcalls := lawFL facts.mixed g_TreeOnce o_TreeOnce tree_TreeOnce W hx (pins l0 hr0) (plain l0 hr0) (fun p hp => by cases hp)
  refine hcalls.mono fun e W' ⟨he, bel⟩ => ?_
  subst he
  exact ⟨_, rfl, _, _, _, [], _, [], hW', trodAll_mk1 (shut_bool Try.underlying4 _), (trodAll_cons_mk (Below.trod facts.laidOut (by kernel_rfl) (of_decide_eq_true (by kernel_rfl)) k0 bel lt0) trodAll_mk0), rfl, bel.frame _, fun h => by cases h⟩

theorem over : Rows.treeOnceRow.holds Try.pinned (OpenSpec.ofChange Rows.treeOnceSpec) :=
  OpenClaim.holds_of_wide 6 Try.f6 rfl rfl rfl rfl rfl rfl rfl ⟨rfl, rfl, rfl, rfl, rfl⟩ rfl rfl rfl rfl rfl (by kernel_rfl) Try.func6
    (facts.joined (by kernel_rfl) (by kernel_rfl) (by kernel_rfl) (by kernel_rfl) (by kernel_rfl) (by kernel_rfl) (by kernel_rfl) rfl rfl rfl rfl)
    (of_decide_eq_true (by kernel_rfl)) (by unfold Func.isWrapper; first | (rw [if_pos (by decide +kernel)]; kernel_rfl) | (rw [if_neg (by decide +kernel)]; exact ⟨rfl, rfl⟩))
    (fun os started H enc _ => lifted os started H enc)

/-- THE STATEMENT. -/
theorem proved : Rows.TreeOnceSaid := over
#print axioms proved

end Go.Proofs.Ytgcoidbaoigkeaa.treeOnce
