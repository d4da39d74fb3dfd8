/-
  The law TreeRefits is answered with true, whatever its arguments, which stay as they were.
-/
import Derived.Test.YtgcoidbaoigkeaaRows
import Derived.Test.YtgcoidbaoigkeaaFFacts
import Derived.Test.YtgcoidbaoigkeaaKSame
set_option linter.unusedVariables false
set_option linter.unusedSimpArgs false
namespace Go.Proofs.Ytgcoidbaoigkeaa.treeRefits
open Go.RowKit Go.ChangeShapes Go.WideShapes Go.ChangeAt Go.Sx fix

noncomputable def G_TreeRefits : List Sum := [s_twin, s_refit, s_rrefit, s_tleaves, s_rleaves, s_rsame16, s_tcheck, s_rcheck]
def I_TreeRefits : List Inf := [i_twin, i_refit, i_rrefit, i_tleaves, i_rleaves, i_rsame16, i_tcheck, i_rcheck]
def t_TreeRefits : TX := (.ite (.or (.lt (.c 1000) (.ln (.v 0))) (.lt (.c 400) (.ln (.v 1)))) (.ret [(.c 1)])
(.call 0 [(.v 0)] (.call 1 [(.v 2), (.v 1)] (.call 2 [(.v 0), (.v 1)] (.callp 3 [(.v 2)] (.callp 4 [(.v 0)] (.call 5 [(.v 3), (.v 5)] (.ite (.or (.eq (.v 11) (.c 0)) (.or (.not (.eq (.v 4) (.v 6))) (.or (.not (.eq (.ln (.v 7)) (.ln (.v 9)))) (.not (.eq (.v 8) (.v 10)))))) (.ret [(.c 0)])
(.call 6 [(.v 2), (.v 1)] (.call 7 [(.v 0), (.v 1)] (.ite (.not (.eq (.v 12) (.v 13))) (.ret [(.c 0)])
(.loop 2 [none, none] [(.c 0), (.c 0)] (.ite (.lt (.v 15) (.ln (.v 9))) (.asrt (.le (.c 0) (.v 15)) (.asrt (.lt (.v 15) (.ln (.v 7))) (.ite (.not (.eq (.l2 .at (.v 7) (.v 15)) (.l2 .at (.v 9) (.v 15)))) (.ret [(.c 0)])
(.back 0 [(.v 14), (.wr .i64 (.add (.v 15) (.c 1)))]))))
(.loop 2 [none, none] [(.c 0), (.v 3)] (.ite (.lt (.v 16) (.ln (.v 17))) (.asrt (.le (.c 0) (.v 16)) (.back 1 [(.wr .i64 (.add (.v 16) (.c 1))), (.l3 (.v 17) (.v 16) (.l2 .cons (.l2 .at (.l2 .at (.v 17) (.v 16)) (.c 0)) (.l2 .cons (.l2 .at (.l2 .at (.v 17) (.v 16)) (.c 1)) (.l2 .cons (.l2 .at (.l2 .at (.v 17) (.v 16)) (.c 2)) (.l2 .cons (.l2 .at (.l2 .at (.v 17) (.v 16)) (.c 3)) (.l2 .cons (.l2 .at (.l2 .at (.v 17) (.v 16)) (.c 4)) (.l2 .cons (.l2 .at (.l2 .at (.v 17) (.v 16)) (.c 5)) (.l2 .cons (.l2 .at (.l2 .at (.v 17) (.v 16)) (.c 6)) (.l2 .cons (.l2 .at (.l2 .at (.v 17) (.v 16)) (.c 7)) (.l2 .cons (.c 77) .nl))))))))))]))
(.call 5 [(.v 2), (.v 0)] (.ite (.nz (.v 18)) (.ret [(.c 1)])
(.ret [(.c 0)]))))))))))))))))))
theorem tree_TreeRefits : merge (optFL [] I_TreeRefits [] ([none, none]) (symFnL Try.prog (openAt Try.prog [(11, 79), (16, 94)]) gl0 G_TreeRefits 1000 4 [Tr, Bs] [Bo])) = t_TreeRefits := by kernel_rfl
theorem g_TreeRefits : Gok Try.prog G_TreeRefits := (more ok_twin (more ok_refit (more ok_rrefit (more ok_tleaves (more ok_rleaves (more ok_rsame16 (more ok_tcheck (fix.one ok_rcheck))))))))
theorem o_TreeRefits : outsOK G_TreeRefits I_TreeRefits := (outsOK_cons inf_twin (outsOK_cons inf_refit (outsOK_cons inf_rrefit (outsOK_cons inf_tleaves (outsOK_cons inf_rleaves (outsOK_cons inf_rsame16 (outsOK_cons inf_tcheck (outsOK_cons inf_rcheck outsOK_nil))))))))
theorem sameB_refl (a : List Int) : sameB a a = true := sameB_yes rfl fun _ _ => rfl
theorem pins (l0 : List Int) (hr0 : ∀ x ∈ l0, rangeOK Br_ks (elt Br_ks x)) (l1 : List Int) (hr1 : ∀ x ∈ l1, rangeOK Bs_ks (elt Bs_ks x)) : vsOK ([none, none]) ([cod l0] ++ ([cod l1] ++ [])) :=
  vsOK_cons trivial (vsOK_cons trivial vsOK_nil)
theorem plain (l0 : List Int) (hr0 : ∀ x ∈ l0, rangeOK Br_ks (elt Br_ks x)) (l1 : List Int) (hr1 : ∀ x ∈ l1, rangeOK Bs_ks (elt Bs_ks x)) : t_TreeRefits.sat G_TreeRefits [] (fun ys => ys = [1]) [] ([cod l0] ++ ([cod l1] ++ [])) := by
  have hel0 : ∀ x ∈ l0, rangeOK Br_ks (dec x) := hr0
  have hel1 : ∀ x ∈ l1, rangeOK Bs_ks (dec x) := hr1
  simp only [t_TreeRefits, G_TreeRefits, s_twin, s_refit, s_rrefit, s_tleaves, s_rleaves, s_rsame16, s_tcheck, s_rcheck, TX.sat, XB.prop, X.den, List.map_cons, List.map_nil, List.getElem?_cons_zero, List.getElem?_cons_succ, List.cons_append, List.nil_append, List.getD_cons_zero, List.getD_cons_succ, mkS, mkP, and_true, true_and, Int.not_lt, Int.not_le, not_or, not_and, Classical.not_not, ne_eq, not_true_eq_false, not_false_eq_true, sem_twin, sem_refit, sem_rrefit, sem_tleaves, sem_rleaves, sem_rsame16, sem_tcheck, sem_rcheck, L2.den, dec_cod]
  refine ⟨fun _ => trivial, fun hbig => ?_⟩
  have hl0 : l0.length ≤ 1000 := by omega
  have hl1 : l1.length ≤ 400 := by omega
  have hp : pre_refit [cod l0, cod l1] := ⟨vs_none (n := 2) rfl, ⟨by show (dec (cod l0)).length ≤ 1000; rw [dec_cod]; exact hl0, by show (dec (cod l1)).length ≤ 1000; rw [dec_cod]; omega⟩, by show ∀ b ∈ dec (cod l0), _; rw [dec_cod]; exact hel0, by show ∀ b ∈ dec (cod l1), _; rw [dec_cod]; exact hel1⟩
  have hRl : (refitL l1 l0).length = l0.length := rf_len l1 l0 l0.length
  have hA : ∀ A, A = (if refitE l0 l1 = 0 then cod (refitL l1 l0) else cod []) → (dec A).length ≤ 1000 := by
    intro A hA
    subst hA
    split
    · rw [dec_cod]; omega
    · rw [dec_cod]; simp
  have hAB : dec (if refitE l0 l1 = 0 then (if l0.length = 0 then cod l0 else cod (refitL l1 l0)) else cod []) = dec (if refitE l0 l1 = 0 then cod (refitL l1 l0) else cod []) := by
    split
    · split
      · rename_i h0
        rw [dec_cod, dec_cod, List.eq_nil_of_length_eq_zero (hRl.trans h0)]
        exact List.eq_nil_of_length_eq_zero h0
      · rfl
    · rfl
  refine ⟨⟨vs_none (n := 1) rfl, by show (dec (cod l0)).length ≤ 1000000; rw [dec_cod]; omega⟩, hp, hp, ?_⟩
  rw [hAB]
  have hA' := hA _ rfl
  clear hAB hA
  generalize (if refitE l0 l1 = 0 then cod (refitL l1 l0) else cod []) = A at hA' ⊢
  have hU : (dec (if leavesE l0 = 0 then cod (lvs l0 l0.length) else cod [])).length ≤ 1000 := by
    have := lvs_len l0 l0.length
    split
    · rw [dec_cod]; omega
    · rw [dec_cod]; simp
  generalize dec (if leavesE l0 = 0 then cod (lvs l0 l0.length) else cod []) = U at hU ⊢
  refine ⟨⟨vs_none (n := 2) rfl, by show (dec A).length ≤ 1000000; omega⟩, ?_⟩
  rw [sameB_refl]
  refine ⟨fun h => by simp [b01] at h, fun _ => ⟨hp, hp, fun h => h.elim, fun _ => ?_⟩⟩
  refine ⟨fun xs => ∃ i : Nat, xs.getD 1 0 = (i : Int) ∧ i ≤ U.length, fun xs => U.length - (xs.getD 1 0).toNat, fun xs hx _ => vs_none (n := 2) hx, ⟨0, rfl, by omega⟩, ?_⟩
  intro xs hx hI
  obtain ⟨d0, d1, rfl⟩ := len2 hx
  obtain ⟨i, hi, hil⟩ := hI
  simp only [List.getD_cons_zero, List.getD_cons_succ, List.cons_append, List.nil_append] at hi ⊢
  subst hi
  refine ⟨fun hlt => ⟨by omega, by omega, fun h => h.elim, fun _ => ?_⟩, fun hge => ?_⟩
  · have hw : IntKind.i64.wrap ((i : Int) + 1) = ((i + 1 : Nat) : Int) := by rw [wrap64 (by omega) (by omega)]; omega
    rw [hw]
    exact ⟨⟨i + 1, rfl, by omega⟩, by simp only [Int.toNat_natCast]; omega⟩
  · refine ⟨fun xs => ∃ i : Nat, xs.getD 0 0 = (i : Int) ∧ i ≤ (dec A).length ∧ (dec (xs.getD 1 0)).length = (dec A).length, fun xs => (dec A).length - (xs.getD 0 0).toNat, fun xs hx _ => vs_none (n := 2) hx, ⟨0, rfl, by omega, rfl⟩, ?_⟩
    intro xs hx hI
    obtain ⟨e0, e1, rfl⟩ := len2 hx
    obtain ⟨k, hk, hkl, hkn⟩ := hI
    simp only [List.getD_cons_zero, List.getD_cons_succ, List.cons_append, List.nil_append] at hk hkn ⊢
    subst hk
    refine ⟨fun hlt => ⟨by omega, ?_⟩, fun hge => ?_⟩
    · have hw : IntKind.i64.wrap ((k : Int) + 1) = ((k + 1 : Nat) : Int) := by rw [wrap64 (by omega) (by omega)]; omega
      rw [hw]
      exact ⟨⟨k + 1, rfl, by omega, by rw [dec_cod, List.length_set]; exact hkn⟩, by simp only [Int.toNat_natCast]; omega⟩
    · refine ⟨⟨vs_none (n := 2) rfl, by show (dec (cod l0)).length ≤ 1000000; rw [dec_cod]; omega⟩, ?_⟩
      rw [sameB_refl]; exact ⟨fun _ => trivial, fun h => by simp [b01] at h⟩
set_option maxRecDepth 100000 in
theorem lifted (os : Os) (started : os.Started) (H : Type) (enc : TypeId × Value → H) :
    ReturnsInHanded {} Try.checked os 4 .any (Rows.treeRefitsSpec.pre6 enc Try.prog Try.f4 Rows.treeRefitsRow.domain false) (Rows.treeRefitsSpec.post enc Try.prog Try.f4 false true false false) := by
  refine returnsInHanded_of_change (C := Try.checked) facts.own started (by kernel_rfl) Try.func4
    (ChangeSpec.witness6 (enc := enc) (C := Try.checked) false ⟨#[], #[.agg #[.slice none 0 0], .slice none 0 0], []⟩ 8 (by kernel_rfl) (by kernel_rfl) (by kernel_rfl) (by kernel_rfl)) ?_
  intro W base args ds gs before hval0 hW hcnd _
  have hval : ∀ (j : Nat) t v, Try.f4.params[j]? = some t → args[j]? = some v → Value.okWide Try.prog W .any base t v := hval0
  have hW' := hW
  obtain ⟨p, q, hA0, hV, rfl, hfz, hnd⟩ := hW
  have hA : DataW.TrodAll enc Try.prog W 0 (fun _ => true) true Try.f4.params.toList args.toList ds p := hA0
  rw [Try.params4] at hA hval
  obtain ⟨v0, vs0, d0, ds0, p0, q0, hargs, rfl, rfl, h0, r0⟩ := trodAll_cons hA
  obtain ⟨v1, vs1, d1, ds1, p1, q1, rfl, rfl, rfl, h1, r1⟩ := trodAll_cons r0
  obtain ⟨rfl, rfl, rfl⟩ := trodAll_nil r1
  obtain rfl : args = #[v0, v1] := by cases args; simp_all
  obtain ⟨rfl, rfl⟩ := trodVars_none hV
  have k0 := h0
  have lt0 : ∀ x ∈ p0, x.block < W.heap.size := by obtain ⟨m, hm⟩ := k0; exact DataW.trod_lt m _ _ _ hm
  have k1 := h1
  have lt1 : ∀ x ∈ p1, x.block < W.heap.size := by obtain ⟨m, hm⟩ := k1; exact DataW.trod_lt m _ _ _ hm
  obtain ⟨l0, hs0, hr0⟩ := open_st1 (ks := Br_ks) Try.underlying49 rfl (by kernel_rfl) (by kernel_rfl) (by kernel_rfl) Try.underlying47 (by kernel_rfl) (by kernel_rfl) (hval 0 49 v0 rfl rfl) h0
  obtain ⟨l1, hs1, hr1⟩ := open_slT (ks := Bs_ks) Try.underlying50 (by kernel_rfl) (by kernel_rfl) (hval 1 50 v1 rfl rfl) h1
  clear hA0 hval0
  have hx : ShsR (fun _ ks u n => SlOK W ks u n) [Tr, Bs] [v0, v1] ([cod l0] ++ ([cod l1] ++ [])) := ⟨_, _, _, _, rfl, rfl, hs0, ⟨_, _, _, _, rfl, rfl, hs1, ⟨rfl, rfl⟩⟩⟩
  have hcalls := lawFL facts.mixed g_TreeRefits o_TreeRefits tree_TreeRefits W hx (pins l0 hr0 l1 hr1) (plain l0 hr0 l1 hr1) (fun p hp => by cases hp)
  refine hcalls.mono fun e W' ⟨he, bel⟩ => ?_
  subst he
  exact ⟨_, rfl, _, _, _, [], _, [], hW', trodAll_mk1 (shut_bool Try.underlying4 _), (trodAll_cons_mk (Below.trod facts.laidOut (by kernel_rfl) (of_decide_eq_true (by kernel_rfl)) k0 bel lt0) (trodAll_cons_mk (Below.trod facts.laidOut (by kernel_rfl) (of_decide_eq_true (by kernel_rfl)) k1 bel lt1) trodAll_mk0)), rfl, bel.frame _, fun h => by cases h⟩

theorem over : Rows.treeRefitsRow.holds Try.pinned (OpenSpec.ofChange Rows.treeRefitsSpec) :=
  OpenClaim.holds_of_wide 4 Try.f4 rfl rfl rfl rfl rfl rfl rfl ⟨rfl, rfl, rfl, rfl, rfl⟩ rfl rfl rfl rfl rfl (by kernel_rfl) Try.func4
    (facts.joined (by kernel_rfl) (by kernel_rfl) (by kernel_rfl) (by kernel_rfl) (by kernel_rfl) (by kernel_rfl) (by kernel_rfl) rfl rfl rfl rfl)
    (of_decide_eq_true (by kernel_rfl)) (by unfold Func.isWrapper; first | (rw [if_pos (by decide +kernel)]; kernel_rfl) | (rw [if_neg (by decide +kernel)]; exact ⟨rfl, rfl⟩))
    (fun os started H enc _ => lifted os started H enc)

/-- THE STATEMENT. -/
theorem proved : Rows.TreeRefitsSaid := over
#print axioms proved

end Go.Proofs.Ytgcoidbaoigkeaa.treeRefits
