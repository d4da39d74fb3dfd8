/-
  What the functions on cameras come to.
-/
import Derived.Test.YtgcoidbaoigkeaaDoorFBoxR
set_option linter.unusedVariables false
set_option linter.unusedSimpArgs false
namespace Go.Proofs.YtgcoidbaoigkeaaDoor.fix
open Go.RowKit Go.Sx

theorem lensB_true {x : List Int} {o : Nat} : lensB x o = true ↔ ((1 ≤ x.getD o 0 ∧ x.getD o 0 ≤ 64) ∧ (256 ≤ x.getD (o + 1) 0 ∧ x.getD (o + 1) 0 ≤ 4096) ∧ (1 ≤ x.getD (o + 2) 0 ∧ x.getD (o + 2) 0 ≤ 64) ∧ (1 ≤ x.getD (o + 3) 0 ∧ x.getD (o + 3) 0 ≤ 64)) := decide_eq_true_iff
theorem winB_true {x : List Int} {o w h : Nat} : winB x o w h = true ↔ ((0 ≤ x.getD o 0 ∧ x.getD o 0 ≤ x.getD (o + 2) 0 ∧ x.getD (o + 2) 0 < x.getD w 0) ∧ (0 ≤ x.getD (o + 1) 0 ∧ x.getD (o + 1) 0 ≤ x.getD (o + 3) 0 ∧ x.getD (o + 3) 0 < x.getD h 0)) := decide_eq_true_iff
noncomputable def G_ccheck : List Sum := []
def I_ccheck : List Inf := []
def t_ccheck : TX := (.ite (.or (.or (.lt (.v 0) (.c (-4096))) (.lt (.c 4096) (.v 0))) (.or (.or (.lt (.v 1) (.c (-4096))) (.lt (.c 4096) (.v 1))) (.or (.or (.lt (.v 2) (.c (-4096))) (.lt (.c 4096) (.v 2))) (.or (.or (.lt (.v 12) (.c 1)) (.lt (.c 64) (.v 12))) (.or (.or (.lt (.v 13) (.c 256)) (.lt (.c 4096) (.v 13))) (.or (.or (.lt (.v 14) (.c 1)) (.lt (.c 64) (.v 14))) (.or (.or (.lt (.v 15) (.c 1)) (.lt (.c 64) (.v 15))) (.or (.or (.lt (.v 3) (.c (-256))) (.lt (.c 256) (.v 3))) (.or (.or (.lt (.v 4) (.c (-256))) (.lt (.c 256) (.v 4))) (.or (.or (.lt (.v 5) (.c (-256))) (.lt (.c 256) (.v 5))) (.or (.or (.lt (.v 6) (.c (-256))) (.lt (.c 256) (.v 6))) (.or (.or (.lt (.v 7) (.c (-256))) (.lt (.c 256) (.v 7))) (.or (.or (.lt (.v 8) (.c (-256))) (.lt (.c 256) (.v 8))) (.or (.or (.lt (.v 9) (.c (-256))) (.lt (.c 256) (.v 9))) (.or (.or (.lt (.v 10) (.c (-256))) (.lt (.c 256) (.v 10))) (.or (.lt (.v 11) (.c (-256))) (.lt (.c 256) (.v 11)))))))))))))))))) (.ret [(.c 150)])
(.ret [(.c 0)]))
theorem tree_ccheck : merge (optFL [] I_ccheck [] pin_ccheck (symFnL Tryd.prog noLp gl0 G_ccheck 1000 30 [An 16] [I1])) = t_ccheck := by kernel_rfl
theorem g_ccheck : Gok Tryd.prog G_ccheck := noG
theorem o_ccheck : outsOK G_ccheck I_ccheck := outsOK_nil
theorem ok_ccheck : s_ccheck.ok Tryd.prog := Sum.okF facts.mixed g_ccheck o_ccheck tree_ccheck rfl (fun _ => rfl) (by
  intro xs hx hp
  obtain ⟨a0, a1, a2, a3, a4, a5, a6, a7, a8, a9, a10, a11, a12, a13, a14, a15, rfl⟩ := len16 hx
  by_cases hc0 : camB [a0, a1, a2, a3, a4, a5, a6, a7, a8, a9, a10, a11, a12, a13, a14, a15] 0 = true
  · have hd0 := hc0
    try simp only [camB, rows9, lensB_true, Bool.and_eq_true, all3_true, TX.sat, XB.prop, X.den, List.map_cons, List.map_nil, List.getElem?_cons_zero, List.getElem?_cons_succ, List.cons_append, List.nil_append, List.getD_cons_zero, List.getD_cons_succ, mkS, mkP, and_true, true_and, Int.not_lt, Int.not_le, not_or, not_and, Classical.not_not, ne_eq, not_true_eq_false, not_false_eq_true, Nat.reduceAdd, Nat.zero_add] at hd0
    simp only [t_ccheck, G_ccheck, TX.sat, XB.prop, X.den, List.map_cons, List.map_nil, List.getElem?_cons_zero, List.getElem?_cons_succ, List.cons_append, List.nil_append, List.getD_cons_zero, List.getD_cons_succ, mkS, mkP, and_true, true_and, Int.not_lt, Int.not_le, not_or, not_and, Classical.not_not, ne_eq, not_true_eq_false, not_false_eq_true, sem_ccheck, hc0, ex3, ex4, ex5, ex6, ex13, ex16, er, b01, dec_true, if_true, if_false, reduceIte, Bool.false_eq_true, Nat.reduceAdd, Nat.zero_add]
    clear hc0
    repeat' first | exact trivial | refine And.intro ?_ ?_ | intro _
    all_goals first | trivial | rfl | omega | (simp [Int.max_comm, Int.min_comm]; done) | (simp only [List.cons.injEq, and_true, true_and]; omega) | (split <;> first | trivial | rfl | omega)
  · have hd0 := hc0
    try simp only [camB, rows9, lensB_true, Bool.and_eq_true, all3_true, TX.sat, XB.prop, X.den, List.map_cons, List.map_nil, List.getElem?_cons_zero, List.getElem?_cons_succ, List.cons_append, List.nil_append, List.getD_cons_zero, List.getD_cons_succ, mkS, mkP, and_true, true_and, Int.not_lt, Int.not_le, not_or, not_and, Classical.not_not, ne_eq, not_true_eq_false, not_false_eq_true, Nat.reduceAdd, Nat.zero_add] at hd0
    simp only [t_ccheck, G_ccheck, TX.sat, XB.prop, X.den, List.map_cons, List.map_nil, List.getElem?_cons_zero, List.getElem?_cons_succ, List.cons_append, List.nil_append, List.getD_cons_zero, List.getD_cons_succ, mkS, mkP, and_true, true_and, Int.not_lt, Int.not_le, not_or, not_and, Classical.not_not, ne_eq, not_true_eq_false, not_false_eq_true, sem_ccheck, hc0, ex3, ex4, ex5, ex6, ex13, ex16, er, b01, dec_true, if_true, if_false, reduceIte, Bool.false_eq_true, Nat.reduceAdd, Nat.zero_add]
    clear hc0
    repeat' first | exact trivial | refine And.intro ?_ ?_ | intro _
    all_goals first | trivial | rfl | omega | (simp [Int.max_comm, Int.min_comm]; done) | (simp only [List.cons.injEq, and_true, true_and]; omega) | (split <;> first | trivial | rfl | omega))
theorem inf_ccheck : InfOK s_ccheck i_ccheck := ⟨fun _ h => h, fun vs xs h hp => vsOK_cons (er_iv _ (by omega)) vsOK_nil⟩
noncomputable def G_window : List Sum := []
def I_window : List Inf := []
def t_window : TX := (.ite (.or (.or (.lt (.v 0) (.c (-4096))) (.lt (.c 4096) (.v 0))) (.or (.or (.lt (.v 1) (.c (-4096))) (.lt (.c 4096) (.v 1))) (.or (.or (.lt (.v 2) (.c (-4096))) (.lt (.c 4096) (.v 2))) (.or (.or (.lt (.v 12) (.c 1)) (.lt (.c 64) (.v 12))) (.or (.or (.lt (.v 13) (.c 256)) (.lt (.c 4096) (.v 13))) (.or (.or (.lt (.v 14) (.c 1)) (.lt (.c 64) (.v 14))) (.or (.or (.lt (.v 15) (.c 1)) (.lt (.c 64) (.v 15))) (.or (.or (.lt (.v 3) (.c (-256))) (.lt (.c 256) (.v 3))) (.or (.or (.lt (.v 4) (.c (-256))) (.lt (.c 256) (.v 4))) (.or (.or (.lt (.v 5) (.c (-256))) (.lt (.c 256) (.v 5))) (.or (.or (.lt (.v 6) (.c (-256))) (.lt (.c 256) (.v 6))) (.or (.or (.lt (.v 7) (.c (-256))) (.lt (.c 256) (.v 7))) (.or (.or (.lt (.v 8) (.c (-256))) (.lt (.c 256) (.v 8))) (.or (.or (.lt (.v 9) (.c (-256))) (.lt (.c 256) (.v 9))) (.or (.or (.lt (.v 10) (.c (-256))) (.lt (.c 256) (.v 10))) (.or (.lt (.v 11) (.c (-256))) (.lt (.c 256) (.v 11)))))))))))))))))) (.ret [(.c 150)])
(.ite (.or (.or (.lt (.v 18) (.mx (.c 0) (.v 16))) (.lt (.sub (.v 14) (.c 1)) (.v 18))) (.or (.or (.lt (.v 19) (.mx (.c 0) (.v 17))) (.lt (.sub (.v 15) (.c 1)) (.v 19))) (.or (.lt (.v 16) (.c 0)) (.lt (.v 17) (.c 0))))) (.ret [(.c 2)])
(.ret [(.c 0)])))
theorem tree_window : merge (optFL [] I_window [] pin_window (symFnL Tryd.prog noLp gl0 G_window 1000 21 [An 16, An 4] [I1])) = t_window := by kernel_rfl
theorem g_window : Gok Tryd.prog G_window := noG
theorem o_window : outsOK G_window I_window := outsOK_nil
theorem ok_window : s_window.ok Tryd.prog := Sum.okF facts.mixed g_window o_window tree_window rfl (fun _ => rfl) (by
  intro xs hx hp
  obtain ⟨a0, a1, a2, a3, a4, a5, a6, a7, a8, a9, a10, a11, a12, a13, a14, a15, a16, a17, a18, a19, rfl⟩ := len20 hx
  by_cases hc0 : camB [a0, a1, a2, a3, a4, a5, a6, a7, a8, a9, a10, a11, a12, a13, a14, a15, a16, a17, a18, a19] 0 = true
  · by_cases hc1 : winB [a0, a1, a2, a3, a4, a5, a6, a7, a8, a9, a10, a11, a12, a13, a14, a15, a16, a17, a18, a19] 16 14 15 = true
    · have hd0 := hc0
      try simp only [camB, rows9, lensB_true, Bool.and_eq_true, all3_true, winB_true, TX.sat, XB.prop, X.den, List.map_cons, List.map_nil, List.getElem?_cons_zero, List.getElem?_cons_succ, List.cons_append, List.nil_append, List.getD_cons_zero, List.getD_cons_succ, mkS, mkP, and_true, true_and, Int.not_lt, Int.not_le, not_or, not_and, Classical.not_not, ne_eq, not_true_eq_false, not_false_eq_true, Nat.reduceAdd, Nat.zero_add] at hd0
      have hd1 := hc1
      try simp only [camB, rows9, lensB_true, Bool.and_eq_true, all3_true, winB_true, TX.sat, XB.prop, X.den, List.map_cons, List.map_nil, List.getElem?_cons_zero, List.getElem?_cons_succ, List.cons_append, List.nil_append, List.getD_cons_zero, List.getD_cons_succ, mkS, mkP, and_true, true_and, Int.not_lt, Int.not_le, not_or, not_and, Classical.not_not, ne_eq, not_true_eq_false, not_false_eq_true, Nat.reduceAdd, Nat.zero_add] at hd1
      simp only [t_window, G_window, TX.sat, XB.prop, X.den, List.map_cons, List.map_nil, List.getElem?_cons_zero, List.getElem?_cons_succ, List.cons_append, List.nil_append, List.getD_cons_zero, List.getD_cons_succ, mkS, mkP, and_true, true_and, Int.not_lt, Int.not_le, not_or, not_and, Classical.not_not, ne_eq, not_true_eq_false, not_false_eq_true, sem_window, windowV, hc0, hc1, ex3, ex4, ex5, ex6, ex13, ex16, er, b01, dec_true, if_true, if_false, reduceIte, Bool.false_eq_true, Nat.reduceAdd, Nat.zero_add]
      clear hc0 hc1
      repeat' first | exact trivial | refine And.intro ?_ ?_ | intro _
      all_goals first | trivial | rfl | omega | (simp [Int.max_comm, Int.min_comm]; done) | (simp only [List.cons.injEq, and_true, true_and]; omega) | (split <;> first | trivial | rfl | omega)
    · have hd0 := hc0
      try simp only [camB, rows9, lensB_true, Bool.and_eq_true, all3_true, winB_true, TX.sat, XB.prop, X.den, List.map_cons, List.map_nil, List.getElem?_cons_zero, List.getElem?_cons_succ, List.cons_append, List.nil_append, List.getD_cons_zero, List.getD_cons_succ, mkS, mkP, and_true, true_and, Int.not_lt, Int.not_le, not_or, not_and, Classical.not_not, ne_eq, not_true_eq_false, not_false_eq_true, Nat.reduceAdd, Nat.zero_add] at hd0
      have hd1 := hc1
      try simp only [camB, rows9, lensB_true, Bool.and_eq_true, all3_true, winB_true, TX.sat, XB.prop, X.den, List.map_cons, List.map_nil, List.getElem?_cons_zero, List.getElem?_cons_succ, List.cons_append, List.nil_append, List.getD_cons_zero, List.getD_cons_succ, mkS, mkP, and_true, true_and, Int.not_lt, Int.not_le, not_or, not_and, Classical.not_not, ne_eq, not_true_eq_false, not_false_eq_true, Nat.reduceAdd, Nat.zero_add] at hd1
      simp only [t_window, G_window, TX.sat, XB.prop, X.den, List.map_cons, List.map_nil, List.getElem?_cons_zero, List.getElem?_cons_succ, List.cons_append, List.nil_append, List.getD_cons_zero, List.getD_cons_succ, mkS, mkP, and_true, true_and, Int.not_lt, Int.not_le, not_or, not_and, Classical.not_not, ne_eq, not_true_eq_false, not_false_eq_true, sem_window, windowV, hc0, hc1, ex3, ex4, ex5, ex6, ex13, ex16, er, b01, dec_true, if_true, if_false, reduceIte, Bool.false_eq_true, Nat.reduceAdd, Nat.zero_add]
      clear hc0 hc1
      repeat' first | exact trivial | refine And.intro ?_ ?_ | intro _
      all_goals first | trivial | rfl | omega | (simp [Int.max_comm, Int.min_comm]; done) | (simp only [List.cons.injEq, and_true, true_and]; omega) | (split <;> first | trivial | rfl | omega)
  · have hd0 := hc0
    try simp only [camB, rows9, lensB_true, Bool.and_eq_true, all3_true, winB_true, TX.sat, XB.prop, X.den, List.map_cons, List.map_nil, List.getElem?_cons_zero, List.getElem?_cons_succ, List.cons_append, List.nil_append, List.getD_cons_zero, List.getD_cons_succ, mkS, mkP, and_true, true_and, Int.not_lt, Int.not_le, not_or, not_and, Classical.not_not, ne_eq, not_true_eq_false, not_false_eq_true, Nat.reduceAdd, Nat.zero_add] at hd0
    simp only [t_window, G_window, TX.sat, XB.prop, X.den, List.map_cons, List.map_nil, List.getElem?_cons_zero, List.getElem?_cons_succ, List.cons_append, List.nil_append, List.getD_cons_zero, List.getD_cons_succ, mkS, mkP, and_true, true_and, Int.not_lt, Int.not_le, not_or, not_and, Classical.not_not, ne_eq, not_true_eq_false, not_false_eq_true, sem_window, windowV, hc0, ex3, ex4, ex5, ex6, ex13, ex16, er, b01, dec_true, if_true, if_false, reduceIte, Bool.false_eq_true, Nat.reduceAdd, Nat.zero_add]
    clear hc0
    repeat' first | exact trivial | refine And.intro ?_ ?_ | intro _
    all_goals first | trivial | rfl | omega | (simp [Int.max_comm, Int.min_comm]; done) | (simp only [List.cons.injEq, and_true, true_and]; omega) | (split <;> first | trivial | rfl | omega))
theorem inf_window : InfOK s_window i_window := ⟨fun _ h => h, fun vs xs h hp => vsOK_cons (iv_def.2 (by unfold windowV; split; split <;> simp; simp)) vsOK_nil⟩
theorem camB_lens {x : List Int} (h : camB x 0 = true) : (1 ≤ x.getD 12 0 ∧ x.getD 12 0 ≤ 64) ∧ (256 ≤ x.getD 13 0 ∧ x.getD 13 0 ≤ 4096) ∧ (1 ≤ x.getD 14 0 ∧ x.getD 14 0 ≤ 64) ∧ (1 ≤ x.getD 15 0 ∧ x.getD 15 0 ≤ 64) := by
  simp only [camB, Bool.and_eq_true, lensB_true, Nat.reduceAdd, Nat.zero_add] at h
  exact h.2.2
theorem grow_near {f n z : Int} (hf : 0 ≤ f ∧ f ≤ 64) (hn : -32768 ≤ n ∧ n ≤ 32768) (hz : 256 ≤ z) : -65536 ≤ 8 * f * n / z ∧ 8 * f * n / z ≤ 65536 := by
  have := mul_abs_le (x := 8 * f) (y := n) (m := 512) (n := 32768) (by omega) hn
  constructor
  · rw [Int.le_ediv_iff_mul_le (by omega)]
    omega
  · apply Int.ediv_le_of_le_mul (by omega)
    omega
theorem tdiv_pos {a b : Int} (hb : 0 < b) (ha : 0 ≤ a) : a.tdiv b = a / b := floor_pos hb (Int.tmod_nonneg b ha)
end Go.Proofs.YtgcoidbaoigkeaaDoor.fix
