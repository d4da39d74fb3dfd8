/-
  What tree.boxes and tree.shaped come to.
-/
import Derived.Test.YtgcoidbaoigkeaaFLists
import Derived.Test.YtgcoidbaoigkeaaGDefs
set_option linter.unusedVariables false
set_option linter.unusedSimpArgs false
namespace Go.Proofs.Ytgcoidbaoigkeaa.fix
open Go.RowKit Go.Sx

noncomputable def G_tboxes : List Sum := [s_bcheck]
def I_tboxes : List Inf := [i_bcheck]
def t_tboxes : TX := (.ite (.lt (.c 256) (.ln (.v 0))) (.ret [(.c 4)])
(.loop 2 [none, none] [(.c 0), (.c 0)] (.ite (.le (.ln (.v 0)) (.v 2)) (.ret [(.c 0)])
(.asrt (.le (.c 0) (.v 2)) (.call 0 [(.l2 .at (.l2 .at (.v 0) (.v 2)) (.c 0)), (.l2 .at (.l2 .at (.v 0) (.v 2)) (.c 1)), (.l2 .at (.l2 .at (.v 0) (.v 2)) (.c 2)), (.l2 .at (.l2 .at (.v 0) (.v 2)) (.c 3)), (.l2 .at (.l2 .at (.v 0) (.v 2)) (.c 4)), (.l2 .at (.l2 .at (.v 0) (.v 2)) (.c 5))] (.ite (.not (.eq (.v 3) (.c 0))) (.ret [(.c 8)])
(.back 0 [(.v 1), (.wr .i64 (.add (.v 2) (.c 1)))])))))))
theorem tree_tboxes : merge (optFL [] I_tboxes [] pin_tboxes (symFnL Try.prog (openAt Try.prog [(2, 9)]) gl0 G_tboxes 1000 38 [Bs] [I1])) = t_tboxes := by kernel_rfl
theorem g_tboxes : Gok Try.prog G_tboxes := (fix.one ok_bcheck)
theorem o_tboxes : outsOK G_tboxes I_tboxes := (outsOK_cons inf_bcheck outsOK_nil)
theorem ok_tboxes : s_tboxes.ok Try.prog := Sum.okPF (pin := pin_tboxes) facts.mixed g_tboxes o_tboxes tree_tboxes rfl (fun _ => rfl) (fun xs h => h.1) (by
  intro xs hx hp
  obtain ⟨a, rfl⟩ : ∃ a, xs = [a] := by
    match xs, hx with
    | [a], _ => exact ⟨a, rfl⟩
  have hel : ∀ b ∈ dec a, rangeOK Bs_ks (dec b) := hp.2
  clear hp
  simp only [t_tboxes, G_tboxes, s_bcheck, TX.sat, XB.prop, X.den, List.map_cons, List.map_nil, List.getElem?_cons_zero, List.getElem?_cons_succ, List.cons_append, List.nil_append, List.getD_cons_zero, List.getD_cons_succ, mkS, mkP, and_true, true_and, Int.not_lt, Int.not_le, not_or, not_and, Classical.not_not, ne_eq, not_true_eq_false, not_false_eq_true, sem_tboxes, sem_bcheck, L2.den]
  generalize dec a = l at hel ⊢
  unfold boxesE
  refine ⟨fun h => ?_, fun h => ?_⟩
  · rw [if_neg (by omega)]
  rw [if_pos (by omega)]
  refine ⟨fun xs => ∃ i : Nat, xs.getD 1 0 = (i : Int) ∧ i ≤ l.length ∧ ∀ j, j < i → okBox (l.getD j 0) = true, fun xs => l.length - (xs.getD 1 0).toNat, fun xs hx _ => vs_none (n := 2) hx, ⟨0, rfl, by omega, fun j hj => by omega⟩, ?_⟩
  intro xs hx hI
  obtain ⟨d0, d1, rfl⟩ := len2 hx
  obtain ⟨i, hi, hle, hall⟩ := hI
  simp only [List.getD_cons_zero, List.getD_cons_succ, List.cons_append, List.nil_append] at hi ⊢
  subst hi
  have hco : ∀ x j, (dec x).getD j 0 = co x j := fun _ _ => rfl
  simp only [Int.toNat_natCast, hco, show Int.toNat 0 = 0 from rfl, show Int.toNat 1 = 1 from rfl, show Int.toNat 2 = 2 from rfl, show Int.toNat 3 = 3 from rfl, show Int.toNat 4 = 4 from rfl, show Int.toNat 5 = 5 from rfl]
  refine ⟨fun hge => ?_, fun hlt => ?_⟩
  · rw [if_pos (all_upto hall (by omega))]
  · have hil : i < l.length := by omega
    obtain ⟨e0, e1, e2, e3, e4, e5⟩ := six_in (hel _ (mem_at hil))
    refine ⟨by omega, vsOK_cons e0 (vsOK_cons e1 (vsOK_cons e2 (vsOK_cons e3 (vsOK_cons e4 (vsOK_cons e5 vsOK_nil))))), ?_⟩
    have hok : okBox (l.getD i 0) = boxB [co (l.getD i 0) 0, co (l.getD i 0) 1, co (l.getD i 0) 2, co (l.getD i 0) 3, co (l.getD i 0) 4, co (l.getD i 0) 5] 0 := rfl
    rw [← hok]
    by_cases hb : okBox (l.getD i 0) = true
    · refine ⟨fun h => absurd ((er_zero _ (by decide)).2 hb) h, fun _ => ?_⟩
      have hw : IntKind.i64.wrap ((i : Int) + 1) = ((i + 1 : Nat) : Int) := by rw [wrap64 (by omega) (by omega)]; omega
      rw [hw]
      refine ⟨⟨i + 1, rfl, by omega, fun j hj => ?_⟩, by rw [Int.toNat_natCast]; omega⟩
      rcases Nat.lt_or_ge j i with h1 | h1
      · exact hall j h1
      · have : j = i := by omega
        subst this
        exact hb
    · refine ⟨fun _ => ?_, fun h => ?_⟩
      · rw [if_neg (not_all hil hb)]
      · exact absurd ((er_zero _ (by decide)).1 h) hb)
theorem inf_tboxes : InfOK s_tboxes i_tboxes := ⟨fun xs h => (small_not xs h).elim, fun vs xs h hp => by
  refine vsOK_cons ?_ vsOK_nil
  unfold boxesE
  split
  · split
    · exact ⟨by show (0:Int) ≤ 0; decide, by show (0:Int) ≤ 8; decide⟩
    · exact ⟨by show (0:Int) ≤ 8; decide, by show (8:Int) ≤ 8; decide⟩
  · exact ⟨by show (0:Int) ≤ 4; decide, by show (4:Int) ≤ 8; decide⟩⟩

noncomputable def G_shaped : List Sum := []
def I_shaped : List Inf := []
def t_shaped : TX := (.ite (.not (.eq (.ln (.v 0)) (.mx (.c 0) (.sub (.mul (.c 2) (.v 1)) (.c 1))))) (.ret [(.c 0)])
(.asrt (.eq (.v 1) (.v 1)) (.ite (.lt (.c 0) (.v 1)) (.loop 4 [none, none, none, none] [(.c 0), (.l2 .rep (.v 1) (.c 0)), (.l2 .snoc .nl (.c 0)), (.c 0)] (.ite (.lt (.v 5) (.ln (.v 0))) (.asrt (.le (.c 0) (.v 5)) (.asrt (.or (.eq (.ln (.v 4)) (.c 0)) (.le (.c 0) (.wr .i64 (.sub (.ln (.v 4)) (.c 1))))) (.asrt (.or (.eq (.ln (.v 4)) (.c 0)) (.lt (.wr .i64 (.sub (.ln (.v 4)) (.c 1))) (.ln (.v 4)))) (.asrt (.or (.eq (.ln (.v 4)) (.c 0)) (.le (.c 0) (.wr .i64 (.sub (.ln (.v 4)) (.c 1))))) (.asrt (.or (.eq (.ln (.v 4)) (.c 0)) (.lt (.wr .i64 (.sub (.ln (.v 4)) (.c 1))) (.ln (.v 4)))) (.ite (.or (.eq (.ln (.v 4)) (.c 0)) (.not (.eq (.l2 .at (.v 4) (.wr .i64 (.sub (.ln (.v 4)) (.c 1)))) (.v 5)))) (.ret [(.c 0)])
(.asrt (.le (.c 0) (.wr .i64 (.sub (.ln (.v 4)) (.c 1)))) (.asrt (.le (.wr .i64 (.sub (.ln (.v 4)) (.c 1))) (.ln (.v 4))) (.ite (.or (.not (.eq (.l2 .at (.l2 .at (.v 0) (.v 5)) (.c 6)) (.c (-1)))) (.not (.eq (.l2 .at (.l2 .at (.v 0) (.v 5)) (.c 7)) (.c (-1))))) (.ite (.or (.or (.not (.eq (.l2 .at (.l2 .at (.v 0) (.v 5)) (.c 6)) (.wr .i64 (.add (.v 5) (.c 1))))) (.le (.l2 .at (.l2 .at (.v 0) (.v 5)) (.c 7)) (.l2 .at (.l2 .at (.v 0) (.v 5)) (.c 6)))) (.not (.eq (.l2 .at (.l2 .at (.v 0) (.v 5)) (.c 8)) (.c (-1))))) (.ret [(.c 0)])
(.asrt (.le (.ln (.l2 .snoc (.l2 .snoc (.l2 .take (.v 4) (.wr .i64 (.sub (.ln (.v 4)) (.c 1)))) (.l2 .at (.l2 .at (.v 0) (.v 5)) (.c 7))) (.l2 .at (.l2 .at (.v 0) (.v 5)) (.c 6)))) (.c 1000000)) (.back 0 [(.v 2), (.v 3), (.l2 .snoc (.l2 .snoc (.l2 .take (.v 4) (.wr .i64 (.sub (.ln (.v 4)) (.c 1)))) (.l2 .at (.l2 .at (.v 0) (.v 5)) (.c 7))) (.l2 .at (.l2 .at (.v 0) (.v 5)) (.c 6))), (.wr .i64 (.add (.v 5) (.c 1)))])))
(.asrt (.or (.or (.lt (.l2 .at (.l2 .at (.v 0) (.v 5)) (.c 8)) (.c 0)) (.le (.v 1) (.l2 .at (.l2 .at (.v 0) (.v 5)) (.c 8)))) (.le (.c 0) (.l2 .at (.l2 .at (.v 0) (.v 5)) (.c 8)))) (.asrt (.or (.or (.lt (.l2 .at (.l2 .at (.v 0) (.v 5)) (.c 8)) (.c 0)) (.le (.v 1) (.l2 .at (.l2 .at (.v 0) (.v 5)) (.c 8)))) (.lt (.l2 .at (.l2 .at (.v 0) (.v 5)) (.c 8)) (.ln (.v 3)))) (.asrt (.or (.or (.lt (.l2 .at (.l2 .at (.v 0) (.v 5)) (.c 8)) (.c 0)) (.le (.v 1) (.l2 .at (.l2 .at (.v 0) (.v 5)) (.c 8)))) (.le (.c 0) (.l2 .at (.l2 .at (.v 0) (.v 5)) (.c 8)))) (.asrt (.or (.or (.lt (.l2 .at (.l2 .at (.v 0) (.v 5)) (.c 8)) (.c 0)) (.le (.v 1) (.l2 .at (.l2 .at (.v 0) (.v 5)) (.c 8)))) (.lt (.l2 .at (.l2 .at (.v 0) (.v 5)) (.c 8)) (.ln (.v 3)))) (.ite (.or (.or (.lt (.l2 .at (.l2 .at (.v 0) (.v 5)) (.c 8)) (.c 0)) (.le (.v 1) (.l2 .at (.l2 .at (.v 0) (.v 5)) (.c 8)))) (.nz (.l2 .at (.v 3) (.l2 .at (.l2 .at (.v 0) (.v 5)) (.c 8))))) (.ret [(.c 0)])
(.asrt (.lt (.l2 .at (.l2 .at (.v 0) (.v 5)) (.c 8)) (.ln (.v 3))) (.back 0 [(.v 2), (.l3 (.v 3) (.l2 .at (.l2 .at (.v 0) (.v 5)) (.c 8)) (.c 1)), (.l2 .take (.v 4) (.wr .i64 (.sub (.ln (.v 4)) (.c 1)))), (.wr .i64 (.add (.v 5) (.c 1)))]))))))))))))))))
(.ite (.eq (.ln (.v 4)) (.c 0)) (.ret [(.c 1)])
(.ret [(.c 0)]))))
(.loop 4 [none, none, none, none] [(.c 0), (.l2 .rep (.v 1) (.c 0)), .nl, (.c 0)] (.ite (.lt (.v 5) (.ln (.v 0))) (.asrt (.le (.c 0) (.v 5)) (.asrt (.or (.eq (.ln (.v 4)) (.c 0)) (.le (.c 0) (.wr .i64 (.sub (.ln (.v 4)) (.c 1))))) (.asrt (.or (.eq (.ln (.v 4)) (.c 0)) (.lt (.wr .i64 (.sub (.ln (.v 4)) (.c 1))) (.ln (.v 4)))) (.asrt (.or (.eq (.ln (.v 4)) (.c 0)) (.le (.c 0) (.wr .i64 (.sub (.ln (.v 4)) (.c 1))))) (.asrt (.or (.eq (.ln (.v 4)) (.c 0)) (.lt (.wr .i64 (.sub (.ln (.v 4)) (.c 1))) (.ln (.v 4)))) (.ite (.or (.eq (.ln (.v 4)) (.c 0)) (.not (.eq (.l2 .at (.v 4) (.wr .i64 (.sub (.ln (.v 4)) (.c 1)))) (.v 5)))) (.ret [(.c 0)])
(.asrt (.le (.c 0) (.wr .i64 (.sub (.ln (.v 4)) (.c 1)))) (.asrt (.le (.wr .i64 (.sub (.ln (.v 4)) (.c 1))) (.ln (.v 4))) (.ite (.or (.not (.eq (.l2 .at (.l2 .at (.v 0) (.v 5)) (.c 6)) (.c (-1)))) (.not (.eq (.l2 .at (.l2 .at (.v 0) (.v 5)) (.c 7)) (.c (-1))))) (.ite (.or (.or (.not (.eq (.l2 .at (.l2 .at (.v 0) (.v 5)) (.c 6)) (.wr .i64 (.add (.v 5) (.c 1))))) (.le (.l2 .at (.l2 .at (.v 0) (.v 5)) (.c 7)) (.l2 .at (.l2 .at (.v 0) (.v 5)) (.c 6)))) (.not (.eq (.l2 .at (.l2 .at (.v 0) (.v 5)) (.c 8)) (.c (-1))))) (.ret [(.c 0)])
(.asrt (.le (.ln (.l2 .snoc (.l2 .snoc (.l2 .take (.v 4) (.wr .i64 (.sub (.ln (.v 4)) (.c 1)))) (.l2 .at (.l2 .at (.v 0) (.v 5)) (.c 7))) (.l2 .at (.l2 .at (.v 0) (.v 5)) (.c 6)))) (.c 1000000)) (.back 0 [(.v 2), (.v 3), (.l2 .snoc (.l2 .snoc (.l2 .take (.v 4) (.wr .i64 (.sub (.ln (.v 4)) (.c 1)))) (.l2 .at (.l2 .at (.v 0) (.v 5)) (.c 7))) (.l2 .at (.l2 .at (.v 0) (.v 5)) (.c 6))), (.wr .i64 (.add (.v 5) (.c 1)))])))
(.asrt (.or (.or (.lt (.l2 .at (.l2 .at (.v 0) (.v 5)) (.c 8)) (.c 0)) (.le (.v 1) (.l2 .at (.l2 .at (.v 0) (.v 5)) (.c 8)))) (.le (.c 0) (.l2 .at (.l2 .at (.v 0) (.v 5)) (.c 8)))) (.asrt (.or (.or (.lt (.l2 .at (.l2 .at (.v 0) (.v 5)) (.c 8)) (.c 0)) (.le (.v 1) (.l2 .at (.l2 .at (.v 0) (.v 5)) (.c 8)))) (.lt (.l2 .at (.l2 .at (.v 0) (.v 5)) (.c 8)) (.ln (.v 3)))) (.asrt (.or (.or (.lt (.l2 .at (.l2 .at (.v 0) (.v 5)) (.c 8)) (.c 0)) (.le (.v 1) (.l2 .at (.l2 .at (.v 0) (.v 5)) (.c 8)))) (.le (.c 0) (.l2 .at (.l2 .at (.v 0) (.v 5)) (.c 8)))) (.asrt (.or (.or (.lt (.l2 .at (.l2 .at (.v 0) (.v 5)) (.c 8)) (.c 0)) (.le (.v 1) (.l2 .at (.l2 .at (.v 0) (.v 5)) (.c 8)))) (.lt (.l2 .at (.l2 .at (.v 0) (.v 5)) (.c 8)) (.ln (.v 3)))) (.ite (.or (.or (.lt (.l2 .at (.l2 .at (.v 0) (.v 5)) (.c 8)) (.c 0)) (.le (.v 1) (.l2 .at (.l2 .at (.v 0) (.v 5)) (.c 8)))) (.nz (.l2 .at (.v 3) (.l2 .at (.l2 .at (.v 0) (.v 5)) (.c 8))))) (.ret [(.c 0)])
(.asrt (.lt (.l2 .at (.l2 .at (.v 0) (.v 5)) (.c 8)) (.ln (.v 3))) (.back 0 [(.v 2), (.l3 (.v 3) (.l2 .at (.l2 .at (.v 0) (.v 5)) (.c 8)) (.c 1)), (.l2 .take (.v 4) (.wr .i64 (.sub (.ln (.v 4)) (.c 1)))), (.wr .i64 (.add (.v 5) (.c 1)))]))))))))))))))))
(.ite (.eq (.ln (.v 4)) (.c 0)) (.ret [(.c 1)])
(.ret [(.c 0)])))))))
theorem tree_shaped : merge (optFL [] I_shaped [] pin_shaped (symFnL Try.prog (openAt Try.prog [(8, 28)]) gl0 G_shaped 1000 39 [Tr, I1] [Bo])) = t_shaped := by kernel_rfl
theorem g_shaped : Gok Try.prog G_shaped := noG
theorem o_shaped : outsOK G_shaped I_shaped := outsOK_nil
theorem shRun_succ {l : List Int} {n : Int} {i : Nat} : shRun l n (i + 1) = (shRun l n i).bind (shStep n i (l.getD i 0)) := rfl
theorem shRun_none {l : List Int} {n : Int} {i : Nat} (h : shRun l n i = none) : ∀ k, shRun l n (i + k) = none
  | 0 => h
  | k + 1 => by rw [show i + (k + 1) = (i + k) + 1 by omega, shRun_succ, shRun_none h k]; rfl
theorem shaped_no {l : List Int} {n : Int} {i : Nat} (hi : i ≤ l.length) (h : shRun l n i = none) : shapedB l n = false := by
  unfold shapedB
  have := shRun_none h (l.length - i)
  rw [show i + (l.length - i) = l.length by omega] at this
  rw [this]
  simp [shEnd]
theorem ok_shaped : s_shaped.ok Try.prog := Sum.okF facts.mixed g_shaped o_shaped tree_shaped rfl (fun _ => rfl) (by
  intro xs hx hp
  obtain ⟨a, n, rfl⟩ := len2 hx
  have hn : 0 ≤ n ∧ n ≤ 1000 := hp.2 1
  clear hp
  simp only [t_shaped, G_shaped, TX.sat, XB.prop, X.den, List.map_cons, List.map_nil, List.getElem?_cons_zero, List.getElem?_cons_succ, List.cons_append, List.nil_append, List.getD_cons_zero, List.getD_cons_succ, mkS, mkP, and_true, true_and, Int.not_lt, Int.not_le, not_or, not_and, Classical.not_not, ne_eq, not_true_eq_false, not_false_eq_true, sem_shaped, L2.den]
  generalize dec a = l
  refine ⟨fun h => ?_, fun hlen => ?_⟩
  · unfold shapedB
    rw [decide_eq_false (by simpa using h)]
    rfl
  have hll : l.length ≤ 2000 := by omega
  refine ⟨fun h0 => ?_, fun h0 => ?_⟩
  all_goals
    refine ⟨fun xs => ∃ i : Nat, xs.getD 3 0 = (i : Int) ∧ i ≤ l.length ∧ shRun l n i = some (dec (xs.getD 1 0), dec (xs.getD 2 0)) ∧ (dec (xs.getD 1 0)).length = n.toNat ∧ (dec (xs.getD 2 0)).length ≤ i + 1, fun xs => l.length - (xs.getD 3 0).toNat, fun xs hx _ => vs_none (n := 4) hx, ⟨0, rfl, by omega, by simp [shRun, h0, dec_cod, show ¬ (0 < n) ↔ ¬ 0 < n from Iff.rfl, if_neg], by simp [dec_cod], by simp [dec_cod]⟩, ?_⟩
    intro xs hx hI
    obtain ⟨d0, d1, d2, d3, rfl⟩ := len4 hx
    obtain ⟨i, hi, hle, hrun, hsl, hnl⟩ := hI
    simp only [List.getD_cons_zero, List.getD_cons_succ, List.cons_append, List.nil_append] at hi hrun hsl hnl ⊢
    subst hi
    generalize hse : dec d1 = se at *
    generalize hnx : dec d2 = nx at *
    have hco : ∀ x j, (dec x).getD j 0 = co x j := fun _ _ => rfl
    have hw : IntKind.i64.wrap ((i : Int) + 1) = ((i + 1 : Nat) : Int) := by rw [wrap64 (by omega) (by omega)]; omega
    have hwk : IntKind.i64.wrap ((nx.length : Int) - 1) = (nx.length : Int) - 1 := wrap64 (by omega) (by omega)
    simp only [Int.toNat_natCast, hco, dec_cod, hw, hwk, show Int.toNat 6 = 6 from rfl, show Int.toNat 7 = 7 from rfl, show Int.toNat 8 = 8 from rfl]
    generalize hb : l.getD i 0 = b at *
    have hstep : shRun l n (i + 1) = shStep n i b (se, nx) := by rw [shRun_succ, hrun, hb]; rfl
    have htn : ((nx.length : Int) - 1).toNat = nx.length - 1 := by omega
    refine ⟨fun hlt => ?_, fun hge => ?_⟩
    · refine ⟨by omega, by omega, by omega, by omega, by omega, fun hbad => ?_, fun hok => ?_⟩
      · rw [shaped_no (i := i + 1) (by omega)]
        · rfl
        · rw [hstep]
          unfold shStep
          rw [if_pos]
          show nx = [] ∨ nx.getD (nx.length - 1) 0 ≠ (i : Int)
          rcases hbad with h | h
          · exact .inl (List.eq_nil_of_length_eq_zero (by omega))
          · exact .inr (by rw [htn] at h; exact h)
      · have hno : shapedB l n = false → [(0 : Int)] = [b01 (shapedB l n)] := fun h => by rw [h]; rfl
        have hn0 : ¬ (nx = [] ∨ nx.getD (nx.length - 1) 0 ≠ (i : Int)) := by
          rw [htn] at hok
          rintro (h | h)
          · exact hok.1 (by rw [h]; rfl)
          · exact h hok.2
        have hs1 : shStep n i b (se, nx) = (if co b 6 ≠ -1 ∨ co b 7 ≠ -1 then
            (if co b 6 ≠ (i : Int) + 1 ∨ co b 7 ≤ co b 6 ∨ co b 8 ≠ -1 then none else some (se, nx.take (nx.length - 1) ++ [co b 7] ++ [co b 6]))
          else (if co b 8 < 0 ∨ n ≤ co b 8 ∨ se.getD (co b 8).toNat 0 ≠ 0 then none else some (se.set (co b 8).toNat 1, nx.take (nx.length - 1)))) := by
          unfold shStep
          rw [if_neg hn0]
        rw [hs1] at hstep
        rw [htn]
        have hk : nx.length ≠ 0 := by omega
        refine ⟨by omega, by omega, fun hbr => ?_, fun hlf => ?_⟩
        · rw [if_pos hbr] at hstep
          refine ⟨fun hbad => hno (shaped_no (i := i + 1) (by omega) ?_), fun hgood => ?_⟩
          · rw [hstep, if_pos]
            rcases hbad with (h | h) | h
            · exact .inl (by omega)
            · exact .inr (.inl h)
            · exact .inr (.inr h)
          · rw [if_neg (by omega)] at hstep
            refine ⟨by simp only [List.length_append, List.length_take, List.length_cons, List.length_nil]; omega, ⟨i + 1, rfl, by omega, hstep, hsl, by simp only [List.length_append, List.length_take, List.length_cons, List.length_nil]; omega⟩, by omega⟩
        · rw [if_neg (by omega)] at hstep
          refine ⟨by omega, by omega, by omega, by omega, fun hbad => hno (shaped_no (i := i + 1) (by omega) ?_), fun hgood => ?_⟩
          · rw [hstep, if_pos]
            rcases hbad with (h | h) | h
            · exact .inl h
            · exact .inr (.inl h)
            · exact .inr (.inr h)
          · rw [if_neg (by
              rintro (h | h | h)
              · omega
              · omega
              · exact h hgood.2)] at hstep
            refine ⟨by omega, ⟨i + 1, rfl, by omega, hstep, by rw [List.length_set]; exact hsl, by rw [List.length_take]; omega⟩, by omega⟩
    · have hil : i = l.length := by omega
      subst hil
      refine ⟨fun h => ?_, fun h => ?_⟩
      · unfold shapedB
        rw [decide_eq_true (by omega), hrun, List.eq_nil_of_length_eq_zero (l := nx) (by omega)]
        rfl
      · unfold shapedB
        rw [hrun]
        match nx, h with
        | x :: m, _ => simp [shEnd, b01])
theorem inf_shaped : InfOK s_shaped i_shaped := ⟨fun xs h => h, fun vs xs h hp => vsOK_cons (b01_iv _) vsOK_nil⟩
end Go.Proofs.Ytgcoidbaoigkeaa.fix
set_option linter.unusedVariables false
set_option linter.unusedSimpArgs false
namespace Go.Proofs.Ytgcoidbaoigkeaa.fix
open Go.RowKit Go.Sx

inductive BT where
  | leaf (i : Nat)
  | node (i : Nat) (a b : BT)
def BT.root : BT → Nat
  | .leaf i => i
  | .node i _ _ => i
def BT.size : BT → Nat
  | .leaf _ => 1
  | .node _ a b => a.size + b.size + 1
def BT.leaves : BT → List Nat
  | .leaf i => [i]
  | .node _ a b => a.leaves ++ b.leaves
def BT.At (l : List Int) (n : Int) : BT → Nat → Nat → Prop
  | .leaf i, s, e => s = i ∧ e = i + 1 ∧ i < l.length ∧ co (l.getD i 0) 6 = -1 ∧ co (l.getD i 0) 7 = -1 ∧ 0 ≤ co (l.getD i 0) 8 ∧ co (l.getD i 0) 8 < n
  | .node i a b, s, e => s = i ∧ i < l.length ∧ ∃ m, a.At l n (i + 1) m ∧ b.At l n m e ∧ co (l.getD i 0) 6 = (i : Int) + 1 ∧ co (l.getD i 0) 7 = (m : Int) ∧ co (l.getD i 0) 8 = -1
noncomputable def itm (l : List Int) (i : Nat) : Nat := (co (l.getD i 0) 8).toNat

theorem BT.size_leaves : ∀ t : BT, t.size + 1 = 2 * t.leaves.length
  | .leaf _ => rfl
  | .node _ a b => by
    have h1 := a.size_leaves
    have h2 := b.size_leaves
    simp only [BT.size, BT.leaves, List.length_append]
    omega
theorem BT.At.le {l : List Int} {n : Int} : ∀ {t : BT} {s e : Nat}, t.At l n s e → e = s + t.size ∧ t.root = s ∧ e ≤ l.length
  | .leaf i, s, e, h => by
    obtain ⟨rfl, rfl, h1, _⟩ := h
    exact ⟨rfl, rfl, h1⟩
  | .node i a b, s, e, h => by
    obtain ⟨rfl, h1, m, h2, h3, _⟩ := h
    have e1 := h2.le
    have e2 := h3.le
    exact ⟨by simp only [BT.size]; omega, rfl, e2.2.2⟩
theorem BT.At.leaf_in {l : List Int} {n : Int} : ∀ {t : BT} {s e : Nat}, t.At l n s e → ∀ i ∈ t.leaves, s ≤ i ∧ i < e ∧ 0 ≤ co (l.getD i 0) 8 ∧ co (l.getD i 0) 8 < n ∧ co (l.getD i 0) 6 = -1
  | .leaf i, s, e, h, k, hk => by
    obtain ⟨rfl, rfl, h1, h2, h3, h4, h5⟩ := h
    simp only [BT.leaves, List.mem_singleton] at hk
    subst hk
    exact ⟨by omega, by omega, h4, h5, h2⟩
  | .node i a b, s, e, h, k, hk => by
    obtain ⟨rfl, h1, m, h2, h3, _⟩ := h
    have e1 := h2.le
    have e2 := h3.le
    simp only [BT.leaves, List.mem_append] at hk
    rcases hk with hk | hk
    · have := h2.leaf_in k hk; omega
    · have := h3.leaf_in k hk; omega

structure SeenOK (se se' : List Int) (its : List Nat) : Prop where
  len : se'.length = se.length
  nodup : its.Nodup
  zero : ∀ k ∈ its, se.getD k 0 = 0
  iff : ∀ k, se'.getD k 0 ≠ 0 ↔ se.getD k 0 ≠ 0 ∨ k ∈ its
theorem SeenOK.trans {a b c : List Int} {x y : List Nat} (h : SeenOK a b x) (k : SeenOK b c y) : SeenOK a c (x ++ y) := by
  refine ⟨k.len.trans h.len, ?_, ?_, ?_⟩
  · rw [List.nodup_append]
    refine ⟨h.nodup, k.nodup, fun u hu v hv huv => ?_⟩
    subst huv
    exact (h.iff u).2 (.inr hu) (k.zero u hv)
  · intro u hu
    rcases List.mem_append.1 hu with hu | hu
    · exact h.zero u hu
    · by_cases hz : a.getD u 0 = 0
      · exact hz
      · exact absurd (k.zero u hu) ((h.iff u).2 (.inl hz))
  · intro u
    rw [k.iff, h.iff, List.mem_append]
    exact or_assoc

theorem shRun_some {l : List Int} {n : Int} (hfin : shEnd (shRun l n l.length) = true) {i : Nat} (hi : i ≤ l.length) : ∃ s, shRun l n i = some s := by
  cases h : shRun l n i with
  | some s => exact ⟨s, rfl⟩
  | none =>
    have := shRun_none h (l.length - i)
    rw [show i + (l.length - i) = l.length by omega] at this
    rw [this] at hfin
    cases hfin

theorem shEnd_snoc {se S : List Int} {x : Int} : shEnd (some (se, S ++ [x])) = false := by
  cases S <;> rfl

theorem take_snoc (S : List Int) (x : Int) : (S ++ [x]).take ((S ++ [x]).length - 1) = S := by simp
theorem last_snoc (S : List Int) (x : Int) : (S ++ [x]).getD ((S ++ [x]).length - 1) 0 = x := by simp [List.getD]

theorem parse {l : List Int} {n : Int} (hfin : shEnd (shRun l n l.length) = true) : ∀ (k i : Nat) (se S : List Int), l.length - i ≤ k → i ≤ l.length → se.length = n.toNat → shRun l n i = some (se, S ++ [(i : Int)]) →
    ∃ t e se', BT.At l n t i e ∧ i < e ∧ e ≤ l.length ∧ shRun l n e = some (se', S) ∧ SeenOK se se' (t.leaves.map (itm l)) := by
  intro k
  induction k with
  | zero =>
    intro i se S hk hi hse hrun
    have : i = l.length := by omega
    subst this
    rw [hrun, shEnd_snoc] at hfin
    cases hfin
  | succ k ih =>
    intro i se S hk hi hse hrun
    have hlt : i < l.length := by
      rcases Nat.lt_or_ge i l.length with h | h
      · exact h
      · have : i = l.length := by omega
        subst this
        rw [hrun, shEnd_snoc] at hfin
        cases hfin
    obtain ⟨s1, hs1⟩ := shRun_some hfin (i := i + 1) (by omega)
    have hstep := hs1
    rw [shRun_succ, hrun] at hstep
    simp only [Option.bind_some, shStep, take_snoc, last_snoc] at hstep
    rw [if_neg (by simp)] at hstep
    split at hstep
    · split at hstep
      · cases hstep
      · rename_i hb hg
        simp only [not_or, Int.not_le, ne_eq, Classical.not_not] at hg
        simp only [Option.some.injEq] at hstep
        subst hstep
        rw [hg.1] at hs1
        obtain ⟨t1, m, se1, a1, a2, a3, a4, a5⟩ := ih (i + 1) se (S ++ [co (l.getD i 0) 7]) (by omega) (by omega) hse (by rw [hs1]; simp)
        have hm : m < l.length := by
          rcases Nat.lt_or_ge m l.length with h | h
          · exact h
          · have : m = l.length := by omega
            subst this
            rw [a4, shEnd_snoc] at hfin
            cases hfin
        have h7 : co (l.getD i 0) 7 = (m : Int) := by
          obtain ⟨s2, hs2⟩ := shRun_some hfin (i := m + 1) (by omega)
          rw [shRun_succ, a4] at hs2
          simp only [Option.bind_some, shStep, last_snoc] at hs2
          split at hs2
          · cases hs2
          · rename_i hh
            simp only [not_or, ne_eq, Classical.not_not] at hh
            exact hh.2
        rw [h7] at a4
        obtain ⟨t2, e, se2, b1, b2, b3, b4, b5⟩ := ih m se1 S (by omega) (by omega) (by rw [a5.len]; exact hse) a4
        refine ⟨.node i t1 t2, e, se2, ⟨rfl, hlt, m, a1, b1, hg.1, h7, hg.2.2⟩, by omega, b3, b4, ?_⟩
        rw [BT.leaves, List.map_append]
        exact a5.trans b5
    · split at hstep
      · cases hstep
      · rename_i hb hg
        simp only [not_or, Int.not_lt, Int.not_le, ne_eq, Classical.not_not] at hg hb
        simp only [Option.some.injEq] at hstep
        subst hstep
        refine ⟨.leaf i, i + 1, _, ⟨rfl, rfl, hlt, hb.1, hb.2, hg.1, hg.2.1⟩, by omega, by omega, hs1, ?_⟩
        have hkl : (co (l.getD i 0) 8).toNat < se.length := by omega
        refine ⟨by simp, by simp [BT.leaves], ?_, ?_⟩
        · intro u hu
          simp only [BT.leaves, List.map_cons, List.map_nil, List.mem_singleton, itm] at hu
          subst hu
          exact hg.2.2
        · intro u
          simp only [BT.leaves, List.map_cons, List.map_nil, List.mem_singleton, itm]
          have hz := hg.2.2
          generalize (co (l.getD i 0) 8).toNat = q at hkl hz
          by_cases hu : u = q
          · subst hu
            simp [List.getD, hkl]
          · simp [List.getD, List.getElem?_set_ne (Ne.symm hu), hu]

theorem nodup_len : ∀ (n : Nat) (l : List Nat), l.Nodup → (∀ x ∈ l, x < n) → l.length ≤ n
  | 0, l, _, h => by
    cases l with
    | nil => exact Nat.le_refl _
    | cons x l => exact absurd (h x (by simp)) (by omega)
  | n + 1, l, hn, h => by
    by_cases hm : n ∈ l
    · have := nodup_len n (l.erase n) (hn.erase n) (fun x hx => by
        have h1 := h x (List.mem_of_mem_erase hx)
        have h2 : x ≠ n := fun e => by
          subst e
          exact (List.Nodup.not_mem_erase hn) hx
        omega)
      rw [List.length_erase_of_mem hm] at this
      omega
    · have := nodup_len n l hn (fun x hx => by
        have h1 := h x hx
        have h2 : x ≠ n := fun e => hm (e ▸ hx)
        omega)
      omega
theorem nodup_all : ∀ (n : Nat) (l : List Nat), l.Nodup → (∀ x ∈ l, x < n) → l.length = n → ∀ k, k < n → k ∈ l
  | 0, l, _, _, _, k, hk => by omega
  | n + 1, l, hn, h, hl, k, hk => by
    have hm : n ∈ l := by
      refine Classical.byContradiction fun hm => ?_
      have := nodup_len n l hn (fun x hx => by
        have h1 := h x hx
        have h2 : x ≠ n := fun e => hm (e ▸ hx)
        omega)
      omega
    by_cases hkn : k = n
    · subst hkn; exact hm
    · refine List.mem_of_mem_erase (nodup_all n (l.erase n) (hn.erase n) (fun x hx => ?_) ?_ k (by omega))
      · have h1 := h x (List.mem_of_mem_erase hx)
        have h2 : x ≠ n := fun e => by
          subst e
          exact (List.Nodup.not_mem_erase hn) hx
        omega
      · rw [List.length_erase_of_mem hm]
        omega

theorem shaped_tree {l : List Int} {n : Int} (h : shapedB l n = true) (hn : 0 < n) : ∃ t, BT.At l n t 0 l.length ∧ (t.leaves.map (itm l)).Nodup ∧ (∀ k ∈ t.leaves.map (itm l), k < n.toNat) ∧ ∀ k, k < n.toNat → k ∈ t.leaves.map (itm l) := by
  unfold shapedB at h
  simp only [Bool.and_eq_true, decide_eq_true_eq] at h
  obtain ⟨hlen, hfin⟩ := h
  obtain ⟨t, e, se', h1, h2, h3, h4, h5⟩ := parse hfin l.length 0 (List.replicate n.toNat 0) [] (by omega) (by omega) (by rw [List.length_replicate]) (by simp [shRun, hn])
  have he : e = l.length := by
    rcases Nat.lt_or_ge e l.length with h | h
    · obtain ⟨s2, hs2⟩ := shRun_some hfin (i := e + 1) (by omega)
      rw [shRun_succ, h4] at hs2
      simp [shStep] at hs2
    · omega
  subst he
  have hall : ∀ k ∈ t.leaves.map (itm l), k < n.toNat := by
    intro k hk
    obtain ⟨i, hi, rfl⟩ := List.mem_map.1 hk
    have := h1.leaf_in i hi
    unfold itm
    omega
  refine ⟨t, h1, h5.nodup, hall, nodup_all _ _ h5.nodup hall ?_⟩
  have h6 := h1.le.1
  have h7 := t.size_leaves
  rw [List.length_map]
  omega
theorem shaped_len {l : List Int} {n : Int} (h : shapedB l n = true) : (l.length : Int) = max 0 (2 * n - 1) := by
  unfold shapedB at h
  simp only [Bool.and_eq_true, decide_eq_true_eq] at h
  exact h.1

theorem BT.At.branch {l : List Int} {n : Int} : ∀ {t : BT} {s e : Nat}, t.At l n s e → ∀ i, s ≤ i → i < e →
    (co (l.getD i 0) 6 = -1 ∧ co (l.getD i 0) 7 = -1 ∧ 0 ≤ co (l.getD i 0) 8 ∧ co (l.getD i 0) 8 < n) ∨ (co (l.getD i 0) 6 = (i : Int) + 1 ∧ (i : Int) + 1 < co (l.getD i 0) 7 ∧ co (l.getD i 0) 7 < (e : Int) ∧ co (l.getD i 0) 8 = -1)
  | .leaf j, s, e, h, i, h1, h2 => by
    obtain ⟨rfl, rfl, h3, h4, h5, h6, h7⟩ := h
    have : i = s := by omega
    subst this
    exact .inl ⟨h4, h5, h6, h7⟩
  | .node j a b, s, e, h, i, h1, h2 => by
    obtain ⟨rfl, h3, m, h4, h5, h6, h7, h8⟩ := h
    have e1 := h4.le
    have e2 := h5.le
    have p1 : 0 < a.size := by have := a.size_leaves; omega
    have p2 : 0 < b.size := by have := b.size_leaves; omega
    by_cases hi : i = s
    · subst hi
      exact .inr ⟨h6, by omega, by omega, h8⟩
    · by_cases hm : i < m
      · rcases h4.branch i (by omega) hm with h | h
        · exact .inl h
        · exact .inr (by omega)
      · rcases h5.branch i (by omega) h2 with h | h
        · exact .inl h
        · exact .inr (by omega)
end Go.Proofs.Ytgcoidbaoigkeaa.fix
