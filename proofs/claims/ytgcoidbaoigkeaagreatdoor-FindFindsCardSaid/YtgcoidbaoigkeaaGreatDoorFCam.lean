/-
  What the functions on cameras come to.
-/
import Derived.Test.YtgcoidbaoigkeaaGreatDoorFBoxR
set_option linter.unusedVariables false
set_option linter.unusedSimpArgs false
namespace Go.Proofs.YtgcoidbaoigkeaaGreatDoor.fix
open Go.RowKit Go.Sx

theorem lensB_true {x : List Int} {o : Nat} : lensB x o = true ↔ ((1 ≤ x.getD o 0 ∧ x.getD o 0 ≤ 64) ∧ (256 ≤ x.getD (o + 1) 0 ∧ x.getD (o + 1) 0 ≤ 4096) ∧ (1 ≤ x.getD (o + 2) 0 ∧ x.getD (o + 2) 0 ≤ 64) ∧ (1 ≤ x.getD (o + 3) 0 ∧ x.getD (o + 3) 0 ≤ 64)) := decide_eq_true_iff
theorem winB_true {x : List Int} {o w h : Nat} : winB x o w h = true ↔ ((0 ≤ x.getD o 0 ∧ x.getD o 0 ≤ x.getD (o + 2) 0 ∧ x.getD (o + 2) 0 < x.getD w 0) ∧ (0 ≤ x.getD (o + 1) 0 ∧ x.getD (o + 1) 0 ≤ x.getD (o + 3) 0 ∧ x.getD (o + 3) 0 < x.getD h 0)) := decide_eq_true_iff
noncomputable def G_ccheck : List Sum := []
def I_ccheck : List Inf := []
def t_ccheck : TX := (.ite (.or (.or (.lt (.v 0) (.c (-4096))) (.lt (.c 4096) (.v 0))) (.or (.or (.lt (.v 1) (.c (-4096))) (.lt (.c 4096) (.v 1))) (.or (.or (.lt (.v 2) (.c (-4096))) (.lt (.c 4096) (.v 2))) (.or (.or (.lt (.v 12) (.c 1)) (.lt (.c 64) (.v 12))) (.or (.or (.lt (.v 13) (.c 256)) (.lt (.c 4096) (.v 13))) (.or (.or (.lt (.v 14) (.c 1)) (.lt (.c 64) (.v 14))) (.or (.or (.lt (.v 15) (.c 1)) (.lt (.c 64) (.v 15))) (.or (.or (.lt (.v 3) (.c (-256))) (.lt (.c 256) (.v 3))) (.or (.or (.lt (.v 4) (.c (-256))) (.lt (.c 256) (.v 4))) (.or (.or (.lt (.v 5) (.c (-256))) (.lt (.c 256) (.v 5))) (.or (.or (.lt (.v 6) (.c (-256))) (.lt (.c 256) (.v 6))) (.or (.or (.lt (.v 7) (.c (-256))) (.lt (.c 256) (.v 7))) (.or (.or (.lt (.v 8) (.c (-256))) (.lt (.c 256) (.v 8))) (.or (.or (.lt (.v 9) (.c (-256))) (.lt (.c 256) (.v 9))) (.or (.or (.lt (.v 10) (.c (-256))) (.lt (.c 256) (.v 10))) (.or (.lt (.v 11) (.c (-256))) (.lt (.c 256) (.v 11)))))))))))))))))) (.ret [(.c 150)])
(.ret [(.c 0)]))
theorem tree_ccheck : merge (optFL [] I_ccheck [] pin_ccheck (symFnL Tryz.prog noLp gl0 G_ccheck 1000 29 [An 16] [I1])) = t_ccheck := by kernel_rfl
theorem g_ccheck : Gok Tryz.prog G_ccheck := noG
theorem o_ccheck : outsOK G_ccheck I_ccheck := outsOK_nil
noncomputable def G_rccheck : List Sum := []
def I_rccheck : List Inf := []
def t_rccheck : TX := (.ite (.or (.or (.lt (.v 0) (.c (-4096))) (.lt (.c 4096) (.v 0))) (.or (.or (.lt (.v 1) (.c (-4096))) (.lt (.c 4096) (.v 1))) (.or (.or (.lt (.v 2) (.c (-4096))) (.lt (.c 4096) (.v 2))) (.or (.or (.lt (.v 3) (.c (-256))) (.lt (.c 256) (.v 3))) (.or (.or (.lt (.v 4) (.c (-256))) (.lt (.c 256) (.v 4))) (.or (.or (.lt (.v 5) (.c (-256))) (.lt (.c 256) (.v 5))) (.or (.or (.lt (.v 6) (.c (-256))) (.lt (.c 256) (.v 6))) (.or (.or (.lt (.v 7) (.c (-256))) (.lt (.c 256) (.v 7))) (.or (.or (.lt (.v 8) (.c (-256))) (.lt (.c 256) (.v 8))) (.or (.or (.lt (.v 9) (.c (-256))) (.lt (.c 256) (.v 9))) (.or (.or (.lt (.v 10) (.c (-256))) (.lt (.c 256) (.v 10))) (.or (.or (.lt (.v 11) (.c (-256))) (.lt (.c 256) (.v 11))) (.or (.lt (.v 12) (.c 1)) (.or (.lt (.c 64) (.v 12)) (.or (.lt (.v 13) (.c 256)) (.or (.lt (.c 4096) (.v 13)) (.or (.lt (.v 14) (.c 1)) (.or (.lt (.c 64) (.v 14)) (.or (.lt (.v 15) (.c 1)) (.lt (.c 64) (.v 15))))))))))))))))))))) (.ret [(.c 150)])
(.ret [(.c 0)]))
theorem tree_rccheck : merge (optFL [] I_rccheck [] pin_rccheck (symFnL Tryz.prog noLp gl0 G_rccheck 1000 74 [An 16] [I1])) = t_rccheck := by kernel_rfl
theorem g_rccheck : Gok Tryz.prog G_rccheck := noG
theorem o_rccheck : outsOK G_rccheck I_rccheck := outsOK_nil
theorem ok_ccheck : s_ccheck.ok Tryz.prog := Sum.okF facts.mixed g_ccheck o_ccheck tree_ccheck rfl (fun _ => rfl) (by
  intro xs hx hp
  obtain ⟨a0, a1, a2, a3, a4, a5, a6, a7, a8, a9, a10, a11, a12, a13, a14, a15, rfl⟩ := len16 hx
  by_cases hc0 : camB [a0, a1, a2, a3, a4, a5, a6, a7, a8, a9, a10, a11, a12, a13, a14, a15] 0 = true
  · have hd0 := hc0
    try simp only [camB, rows9, lensB_true, Bool.and_eq_true, all3_true, TX.sat, XB.prop, X.den, List.map_cons, List.map_nil, List.getElem?_cons_zero, List.getElem?_cons_succ, List.cons_append, List.nil_append, List.getD_cons_zero, List.getD_cons_succ, mkS, mkP, and_true, true_and, Int.not_lt, Int.not_le, not_or, not_and, Classical.not_not, ne_eq, not_true_eq_false, not_false_eq_true, Nat.reduceAdd, Nat.zero_add] at hd0
    simp only [t_ccheck, G_ccheck, TX.sat, XB.prop, X.den, List.map_cons, List.map_nil, List.getElem?_cons_zero, List.getElem?_cons_succ, List.cons_append, List.nil_append, List.getD_cons_zero, List.getD_cons_succ, mkS, mkP, and_true, true_and, Int.not_lt, Int.not_le, not_or, not_and, Classical.not_not, ne_eq, not_true_eq_false, not_false_eq_true, sem_ccheck, hc0, ex3, ex4, ex5, ex6, ex13, ex16, er, b01, dec_true, if_true, if_false, reduceIte, Bool.false_eq_true, Nat.reduceAdd, Nat.zero_add]
    clear hc0
    repeat' first | exact trivial | refine And.intro ?_ ?_ | intro _
    all_goals first | trivial | rfl | omega | (simp [Int.max_comm, Int.min_comm]; done) | (simp only [List.cons.injEq, and_true, true_and]; omega) | (split <;> first | trivial | rfl | omega)
  · have hd0 := hc0
    try simp only [camB, rows9, lensB_true, Bool.and_eq_true, all3_true, TX.sat, XB.prop, X.den, List.map_cons, List.map_nil, List.getElem?_cons_zero, List.getElem?_cons_succ, List.cons_append, List.nil_append, List.getD_cons_zero, List.getD_cons_succ, mkS, mkP, and_true, true_and, Int.not_lt, Int.not_le, not_or, not_and, Classical.not_not, ne_eq, not_true_eq_false, not_false_eq_true, Nat.reduceAdd, Nat.zero_add] at hd0
    simp only [t_ccheck, G_ccheck, TX.sat, XB.prop, X.den, List.map_cons, List.map_nil, List.getElem?_cons_zero, List.getElem?_cons_succ, List.cons_append, List.nil_append, List.getD_cons_zero, List.getD_cons_succ, mkS, mkP, and_true, true_and, Int.not_lt, Int.not_le, not_or, not_and, Classical.not_not, ne_eq, not_true_eq_false, not_false_eq_true, sem_ccheck, hc0, ex3, ex4, ex5, ex6, ex13, ex16, er, b01, dec_true, if_true, if_false, reduceIte, Bool.false_eq_true, Nat.reduceAdd, Nat.zero_add]
    clear hc0
    repeat' first | exact trivial | refine And.intro ?_ ?_ | intro _
    all_goals first | trivial | rfl | omega | (simp [Int.max_comm, Int.min_comm]; done) | (simp only [List.cons.injEq, and_true, true_and]; omega) | (split <;> first | trivial | rfl | omega))
theorem ok_rccheck : s_rccheck.ok Tryz.prog := Sum.okF facts.mixed g_rccheck o_rccheck tree_rccheck rfl (fun _ => rfl) (by
  intro xs hx hp
  obtain ⟨a0, a1, a2, a3, a4, a5, a6, a7, a8, a9, a10, a11, a12, a13, a14, a15, rfl⟩ := len16 hx
  by_cases hc0 : camB [a0, a1, a2, a3, a4, a5, a6, a7, a8, a9, a10, a11, a12, a13, a14, a15] 0 = true
  · have hd0 := hc0
    try simp only [camB, rows9, lensB_true, Bool.and_eq_true, all3_true, TX.sat, XB.prop, X.den, List.map_cons, List.map_nil, List.getElem?_cons_zero, List.getElem?_cons_succ, List.cons_append, List.nil_append, List.getD_cons_zero, List.getD_cons_succ, mkS, mkP, and_true, true_and, Int.not_lt, Int.not_le, not_or, not_and, Classical.not_not, ne_eq, not_true_eq_false, not_false_eq_true, Nat.reduceAdd, Nat.zero_add] at hd0
    simp only [t_rccheck, G_rccheck, TX.sat, XB.prop, X.den, List.map_cons, List.map_nil, List.getElem?_cons_zero, List.getElem?_cons_succ, List.cons_append, List.nil_append, List.getD_cons_zero, List.getD_cons_succ, mkS, mkP, and_true, true_and, Int.not_lt, Int.not_le, not_or, not_and, Classical.not_not, ne_eq, not_true_eq_false, not_false_eq_true, sem_ccheck, sem_rccheck, hc0, ex3, ex4, ex5, ex6, ex13, ex16, er, b01, dec_true, if_true, if_false, reduceIte, Bool.false_eq_true, Nat.reduceAdd, Nat.zero_add]
    clear hc0
    repeat' first | exact trivial | refine And.intro ?_ ?_ | intro _
    all_goals first | trivial | rfl | omega | (simp [Int.max_comm, Int.min_comm]; done) | (simp only [List.cons.injEq, and_true, true_and]; omega) | (split <;> first | trivial | rfl | omega)
  · have hd0 := hc0
    try simp only [camB, rows9, lensB_true, Bool.and_eq_true, all3_true, TX.sat, XB.prop, X.den, List.map_cons, List.map_nil, List.getElem?_cons_zero, List.getElem?_cons_succ, List.cons_append, List.nil_append, List.getD_cons_zero, List.getD_cons_succ, mkS, mkP, and_true, true_and, Int.not_lt, Int.not_le, not_or, not_and, Classical.not_not, ne_eq, not_true_eq_false, not_false_eq_true, Nat.reduceAdd, Nat.zero_add] at hd0
    simp only [t_rccheck, G_rccheck, TX.sat, XB.prop, X.den, List.map_cons, List.map_nil, List.getElem?_cons_zero, List.getElem?_cons_succ, List.cons_append, List.nil_append, List.getD_cons_zero, List.getD_cons_succ, mkS, mkP, and_true, true_and, Int.not_lt, Int.not_le, not_or, not_and, Classical.not_not, ne_eq, not_true_eq_false, not_false_eq_true, sem_ccheck, sem_rccheck, hc0, ex3, ex4, ex5, ex6, ex13, ex16, er, b01, dec_true, if_true, if_false, reduceIte, Bool.false_eq_true, Nat.reduceAdd, Nat.zero_add]
    clear hc0
    repeat' first | exact trivial | refine And.intro ?_ ?_ | intro _
    all_goals first | trivial | rfl | omega | (simp [Int.max_comm, Int.min_comm]; done) | (simp only [List.cons.injEq, and_true, true_and]; omega) | (split <;> first | trivial | rfl | omega))
theorem inf_ccheck : InfOK s_ccheck i_ccheck := ⟨fun _ h => h, fun vs xs h hp => vsOK_cons (er_iv _ (by omega)) vsOK_nil⟩
theorem inf_rccheck : InfOK s_rccheck i_rccheck := inf_ccheck
noncomputable def G_view : List Sum := [s_turn0]
def I_view : List Inf := [i_turn0]
def t_view : TX := (.ite (.or (.or (.lt (.v 0) (.c (-4096))) (.lt (.c 4096) (.v 0))) (.or (.or (.lt (.v 1) (.c (-4096))) (.lt (.c 4096) (.v 1))) (.or (.or (.lt (.v 2) (.c (-4096))) (.lt (.c 4096) (.v 2))) (.or (.or (.lt (.v 12) (.c 1)) (.lt (.c 64) (.v 12))) (.or (.or (.lt (.v 13) (.c 256)) (.lt (.c 4096) (.v 13))) (.or (.or (.lt (.v 14) (.c 1)) (.lt (.c 64) (.v 14))) (.or (.or (.lt (.v 15) (.c 1)) (.lt (.c 64) (.v 15))) (.or (.or (.lt (.v 3) (.c (-256))) (.lt (.c 256) (.v 3))) (.or (.or (.lt (.v 4) (.c (-256))) (.lt (.c 256) (.v 4))) (.or (.or (.lt (.v 5) (.c (-256))) (.lt (.c 256) (.v 5))) (.or (.or (.lt (.v 6) (.c (-256))) (.lt (.c 256) (.v 6))) (.or (.or (.lt (.v 7) (.c (-256))) (.lt (.c 256) (.v 7))) (.or (.or (.lt (.v 8) (.c (-256))) (.lt (.c 256) (.v 8))) (.or (.or (.lt (.v 9) (.c (-256))) (.lt (.c 256) (.v 9))) (.or (.or (.lt (.v 10) (.c (-256))) (.lt (.c 256) (.v 10))) (.or (.lt (.v 11) (.c (-256))) (.lt (.c 256) (.v 11)))))))))))))))))) (.ret [(.c 0), (.c 0), (.c 0), (.c 150)])
(.ite (.or (.or (.lt (.v 16) (.c (-4096))) (.lt (.c 4096) (.v 16))) (.or (.or (.lt (.v 17) (.c (-4096))) (.lt (.c 4096) (.v 17))) (.or (.lt (.v 18) (.c (-4096))) (.lt (.c 4096) (.v 18))))) (.ret [(.c 0), (.c 0), (.c 0), (.c 20)])
(.callp 0 [(.v 3), (.v 4), (.v 5), (.v 6), (.v 7), (.v 8), (.v 9), (.v 10), (.v 11), (.sub (.v 16) (.v 0)), (.sub (.v 17) (.v 1)), (.sub (.v 18) (.v 2))] (.ret [(.v 19), (.v 20), (.v 21), (.c 0)]))))
theorem tree_view : merge (optFL [] I_view [] pin_view (symFnL Tryz.prog noLp gl0 G_view 1000 122 [An 16, An 3] [An 3, I1])) = t_view := by kernel_rfl
theorem g_view : Gok Tryz.prog G_view := (fix.one ok_turn0)
theorem o_view : outsOK G_view I_view := (outsOK_cons inf_turn0 outsOK_nil)
theorem ok_view : s_view.ok Tryz.prog := Sum.okF facts.mixed g_view o_view tree_view rfl (fun _ => rfl) (by
  intro xs hx hp
  obtain ⟨a0, a1, a2, a3, a4, a5, a6, a7, a8, a9, a10, a11, a12, a13, a14, a15, a16, a17, a18, rfl⟩ := len19 hx
  by_cases hc0 : camB [a0, a1, a2, a3, a4, a5, a6, a7, a8, a9, a10, a11, a12, a13, a14, a15, a16, a17, a18] 0 = true
  · by_cases hc1 : all3 4096 [a0, a1, a2, a3, a4, a5, a6, a7, a8, a9, a10, a11, a12, a13, a14, a15, a16, a17, a18] 16 = true
    · have hd0 := hc0
      try simp only [camB, rows9, lensB_true, Bool.and_eq_true, all3_true, TX.sat, XB.prop, X.den, List.map_cons, List.map_nil, List.getElem?_cons_zero, List.getElem?_cons_succ, List.cons_append, List.nil_append, List.getD_cons_zero, List.getD_cons_succ, mkS, mkP, and_true, true_and, Int.not_lt, Int.not_le, not_or, not_and, Classical.not_not, ne_eq, not_true_eq_false, not_false_eq_true, Nat.reduceAdd, Nat.zero_add] at hd0
      have hd1 := hc1
      try simp only [camB, rows9, lensB_true, Bool.and_eq_true, all3_true, TX.sat, XB.prop, X.den, List.map_cons, List.map_nil, List.getElem?_cons_zero, List.getElem?_cons_succ, List.cons_append, List.nil_append, List.getD_cons_zero, List.getD_cons_succ, mkS, mkP, and_true, true_and, Int.not_lt, Int.not_le, not_or, not_and, Classical.not_not, ne_eq, not_true_eq_false, not_false_eq_true, Nat.reduceAdd, Nat.zero_add] at hd1
      simp only [t_view, G_view, s_turn0, TX.sat, XB.prop, X.den, List.map_cons, List.map_nil, List.getElem?_cons_zero, List.getElem?_cons_succ, List.cons_append, List.nil_append, List.getD_cons_zero, List.getD_cons_succ, mkS, mkP, and_true, true_and, Int.not_lt, Int.not_le, not_or, not_and, Classical.not_not, ne_eq, not_true_eq_false, not_false_eq_true, sem_turn0, dot, dotS, sem_view, viewL, hc0, hc1, ex3, ex4, ex5, ex6, ex13, ex16, er, b01, dec_true, if_true, if_false, reduceIte, Bool.false_eq_true, Nat.reduceAdd, Nat.zero_add]
      clear hc0 hc1
      repeat' first | exact trivial | refine And.intro ?_ ?_ | intro _
      all_goals first | trivial | rfl | omega | (simp [Int.max_comm, Int.min_comm]; done) | (simp only [List.cons.injEq, and_true, true_and]; omega) | (split <;> first | trivial | rfl | omega)
    · have hd0 := hc0
      try simp only [camB, rows9, lensB_true, Bool.and_eq_true, all3_true, TX.sat, XB.prop, X.den, List.map_cons, List.map_nil, List.getElem?_cons_zero, List.getElem?_cons_succ, List.cons_append, List.nil_append, List.getD_cons_zero, List.getD_cons_succ, mkS, mkP, and_true, true_and, Int.not_lt, Int.not_le, not_or, not_and, Classical.not_not, ne_eq, not_true_eq_false, not_false_eq_true, Nat.reduceAdd, Nat.zero_add] at hd0
      have hd1 := hc1
      try simp only [camB, rows9, lensB_true, Bool.and_eq_true, all3_true, TX.sat, XB.prop, X.den, List.map_cons, List.map_nil, List.getElem?_cons_zero, List.getElem?_cons_succ, List.cons_append, List.nil_append, List.getD_cons_zero, List.getD_cons_succ, mkS, mkP, and_true, true_and, Int.not_lt, Int.not_le, not_or, not_and, Classical.not_not, ne_eq, not_true_eq_false, not_false_eq_true, Nat.reduceAdd, Nat.zero_add] at hd1
      simp only [t_view, G_view, s_turn0, TX.sat, XB.prop, X.den, List.map_cons, List.map_nil, List.getElem?_cons_zero, List.getElem?_cons_succ, List.cons_append, List.nil_append, List.getD_cons_zero, List.getD_cons_succ, mkS, mkP, and_true, true_and, Int.not_lt, Int.not_le, not_or, not_and, Classical.not_not, ne_eq, not_true_eq_false, not_false_eq_true, sem_turn0, dot, dotS, sem_view, viewL, hc0, hc1, ex3, ex4, ex5, ex6, ex13, ex16, er, b01, dec_true, if_true, if_false, reduceIte, Bool.false_eq_true, Nat.reduceAdd, Nat.zero_add]
      clear hc0 hc1
      repeat' first | exact trivial | refine And.intro ?_ ?_ | intro _
      all_goals first | trivial | rfl | omega | (simp [Int.max_comm, Int.min_comm]; done) | (simp only [List.cons.injEq, and_true, true_and]; omega) | (split <;> first | trivial | rfl | omega)
  · have hd0 := hc0
    try simp only [camB, rows9, lensB_true, Bool.and_eq_true, all3_true, TX.sat, XB.prop, X.den, List.map_cons, List.map_nil, List.getElem?_cons_zero, List.getElem?_cons_succ, List.cons_append, List.nil_append, List.getD_cons_zero, List.getD_cons_succ, mkS, mkP, and_true, true_and, Int.not_lt, Int.not_le, not_or, not_and, Classical.not_not, ne_eq, not_true_eq_false, not_false_eq_true, Nat.reduceAdd, Nat.zero_add] at hd0
    simp only [t_view, G_view, s_turn0, TX.sat, XB.prop, X.den, List.map_cons, List.map_nil, List.getElem?_cons_zero, List.getElem?_cons_succ, List.cons_append, List.nil_append, List.getD_cons_zero, List.getD_cons_succ, mkS, mkP, and_true, true_and, Int.not_lt, Int.not_le, not_or, not_and, Classical.not_not, ne_eq, not_true_eq_false, not_false_eq_true, sem_turn0, dot, dotS, sem_view, viewL, hc0, ex3, ex4, ex5, ex6, ex13, ex16, er, b01, dec_true, if_true, if_false, reduceIte, Bool.false_eq_true, Nat.reduceAdd, Nat.zero_add]
    clear hc0
    repeat' first | exact trivial | refine And.intro ?_ ?_ | intro _
    all_goals first | trivial | rfl | omega | (simp [Int.max_comm, Int.min_comm]; done) | (simp only [List.cons.injEq, and_true, true_and]; omega) | (split <;> first | trivial | rfl | omega))
noncomputable def G_window : List Sum := []
def I_window : List Inf := []
def t_window : TX := (.ite (.or (.or (.lt (.v 0) (.c (-4096))) (.lt (.c 4096) (.v 0))) (.or (.or (.lt (.v 1) (.c (-4096))) (.lt (.c 4096) (.v 1))) (.or (.or (.lt (.v 2) (.c (-4096))) (.lt (.c 4096) (.v 2))) (.or (.or (.lt (.v 12) (.c 1)) (.lt (.c 64) (.v 12))) (.or (.or (.lt (.v 13) (.c 256)) (.lt (.c 4096) (.v 13))) (.or (.or (.lt (.v 14) (.c 1)) (.lt (.c 64) (.v 14))) (.or (.or (.lt (.v 15) (.c 1)) (.lt (.c 64) (.v 15))) (.or (.or (.lt (.v 3) (.c (-256))) (.lt (.c 256) (.v 3))) (.or (.or (.lt (.v 4) (.c (-256))) (.lt (.c 256) (.v 4))) (.or (.or (.lt (.v 5) (.c (-256))) (.lt (.c 256) (.v 5))) (.or (.or (.lt (.v 6) (.c (-256))) (.lt (.c 256) (.v 6))) (.or (.or (.lt (.v 7) (.c (-256))) (.lt (.c 256) (.v 7))) (.or (.or (.lt (.v 8) (.c (-256))) (.lt (.c 256) (.v 8))) (.or (.or (.lt (.v 9) (.c (-256))) (.lt (.c 256) (.v 9))) (.or (.or (.lt (.v 10) (.c (-256))) (.lt (.c 256) (.v 10))) (.or (.lt (.v 11) (.c (-256))) (.lt (.c 256) (.v 11)))))))))))))))))) (.ret [(.c 150)])
(.ite (.or (.or (.lt (.v 18) (.mx (.c 0) (.v 16))) (.lt (.sub (.v 14) (.c 1)) (.v 18))) (.or (.or (.lt (.v 19) (.mx (.c 0) (.v 17))) (.lt (.sub (.v 15) (.c 1)) (.v 19))) (.or (.lt (.v 16) (.c 0)) (.lt (.v 17) (.c 0))))) (.ret [(.c 2)])
(.ret [(.c 0)])))
theorem tree_window : merge (optFL [] I_window [] pin_window (symFnL Tryz.prog noLp gl0 G_window 1000 10 [An 16, An 4] [I1])) = t_window := by kernel_rfl
theorem g_window : Gok Tryz.prog G_window := noG
theorem o_window : outsOK G_window I_window := outsOK_nil
noncomputable def G_rwindow : List Sum := []
def I_rwindow : List Inf := []
def t_rwindow : TX := (.ite (.or (.or (.lt (.v 0) (.c (-4096))) (.lt (.c 4096) (.v 0))) (.or (.or (.lt (.v 1) (.c (-4096))) (.lt (.c 4096) (.v 1))) (.or (.or (.lt (.v 2) (.c (-4096))) (.lt (.c 4096) (.v 2))) (.or (.or (.lt (.v 3) (.c (-256))) (.lt (.c 256) (.v 3))) (.or (.or (.lt (.v 4) (.c (-256))) (.lt (.c 256) (.v 4))) (.or (.or (.lt (.v 5) (.c (-256))) (.lt (.c 256) (.v 5))) (.or (.or (.lt (.v 6) (.c (-256))) (.lt (.c 256) (.v 6))) (.or (.or (.lt (.v 7) (.c (-256))) (.lt (.c 256) (.v 7))) (.or (.or (.lt (.v 8) (.c (-256))) (.lt (.c 256) (.v 8))) (.or (.or (.lt (.v 9) (.c (-256))) (.lt (.c 256) (.v 9))) (.or (.or (.lt (.v 10) (.c (-256))) (.lt (.c 256) (.v 10))) (.or (.or (.lt (.v 11) (.c (-256))) (.lt (.c 256) (.v 11))) (.or (.lt (.v 12) (.c 1)) (.or (.lt (.c 64) (.v 12)) (.or (.lt (.v 13) (.c 256)) (.or (.lt (.c 4096) (.v 13)) (.or (.lt (.v 14) (.c 1)) (.or (.lt (.c 64) (.v 14)) (.or (.lt (.v 15) (.c 1)) (.lt (.c 64) (.v 15))))))))))))))))))))) (.ret [(.c 150)])
(.ite (.or (.or (.or (.or (.or (.lt (.v 16) (.c 0)) (.lt (.v 18) (.v 16))) (.le (.v 14) (.v 18))) (.lt (.v 17) (.c 0))) (.lt (.v 19) (.v 17))) (.le (.v 15) (.v 19))) (.ret [(.c 2)])
(.ret [(.c 0)])))
theorem tree_rwindow : merge (optFL [] I_rwindow [] pin_rwindow (symFnL Tryz.prog noLp gl0 G_rwindow 1000 44 [An 16, An 4] [I1])) = t_rwindow := by kernel_rfl
theorem g_rwindow : Gok Tryz.prog G_rwindow := noG
theorem o_rwindow : outsOK G_rwindow I_rwindow := outsOK_nil
theorem ok_window : s_window.ok Tryz.prog := Sum.okF facts.mixed g_window o_window tree_window rfl (fun _ => rfl) (by
  intro xs hx hp
  obtain ⟨a0, a1, a2, a3, a4, a5, a6, a7, a8, a9, a10, a11, a12, a13, a14, a15, a16, a17, a18, a19, rfl⟩ := len20 hx
  by_cases hc0 : camB [a0, a1, a2, a3, a4, a5, a6, a7, a8, a9, a10, a11, a12, a13, a14, a15, a16, a17, a18, a19] 0 = true
  · by_cases hc1 : winB [a0, a1, a2, a3, a4, a5, a6, a7, a8, a9, a10, a11, a12, a13, a14, a15, a16, a17, a18, a19] 16 14 15 = true
    · have hd0 := hc0
      try simp only [camB, rows9, lensB_true, Bool.and_eq_true, all3_true, winB_true, TX.sat, XB.prop, X.den, List.map_cons, List.map_nil, List.getElem?_cons_zero, List.getElem?_cons_succ, List.cons_append, List.nil_append, List.getD_cons_zero, List.getD_cons_succ, mkS, mkP, and_true, true_and, Int.not_lt, Int.not_le, not_or, not_and, Classical.not_not, ne_eq, not_true_eq_false, not_false_eq_true, Nat.reduceAdd, Nat.zero_add] at hd0
      have hd1 := hc1
      try simp only [camB, rows9, lensB_true, Bool.and_eq_true, all3_true, winB_true, TX.sat, XB.prop, X.den, List.map_cons, List.map_nil, List.getElem?_cons_zero, List.getElem?_cons_succ, List.cons_append, List.nil_append, List.getD_cons_zero, List.getD_cons_succ, mkS, mkP, and_true, true_and, Int.not_lt, Int.not_le, not_or, not_and, Classical.not_not, ne_eq, not_true_eq_false, not_false_eq_true, Nat.reduceAdd, Nat.zero_add] at hd1
      simp only [t_window, G_window, TX.sat, XB.prop, X.den, List.map_cons, List.map_nil, List.getElem?_cons_zero, List.getElem?_cons_succ, List.cons_append, List.nil_append, List.getD_cons_zero, List.getD_cons_succ, mkS, mkP, and_true, true_and, Int.not_lt, Int.not_le, not_or, not_and, Classical.not_not, ne_eq, not_true_eq_false, not_false_eq_true, sem_window, windowV, hc0, hc1, ex3, ex4, ex5, ex6, ex13, ex16, er, b01, dec_true, if_true, if_false, reduceIte, Bool.false_eq_true, Nat.reduceAdd, Nat.zero_add]
      clear hc0 hc1
      repeat' first | exact trivial | refine And.intro ?_ ?_ | intro _
      all_goals first | trivial | rfl | omega | (simp [Int.max_comm, Int.min_comm]; done) | (simp only [List.cons.injEq, and_true, true_and]; omega) | (split <;> first | trivial | rfl | omega)
    · have hd0 := hc0
      try simp only [camB, rows9, lensB_true, Bool.and_eq_true, all3_true, winB_true, TX.sat, XB.prop, X.den, List.map_cons, List.map_nil, List.getElem?_cons_zero, List.getElem?_cons_succ, List.cons_append, List.nil_append, List.getD_cons_zero, List.getD_cons_succ, mkS, mkP, and_true, true_and, Int.not_lt, Int.not_le, not_or, not_and, Classical.not_not, ne_eq, not_true_eq_false, not_false_eq_true, Nat.reduceAdd, Nat.zero_add] at hd0
      have hd1 := hc1
      try simp only [camB, rows9, lensB_true, Bool.and_eq_true, all3_true, winB_true, TX.sat, XB.prop, X.den, List.map_cons, List.map_nil, List.getElem?_cons_zero, List.getElem?_cons_succ, List.cons_append, List.nil_append, List.getD_cons_zero, List.getD_cons_succ, mkS, mkP, and_true, true_and, Int.not_lt, Int.not_le, not_or, not_and, Classical.not_not, ne_eq, not_true_eq_false, not_false_eq_true, Nat.reduceAdd, Nat.zero_add] at hd1
      simp only [t_window, G_window, TX.sat, XB.prop, X.den, List.map_cons, List.map_nil, List.getElem?_cons_zero, List.getElem?_cons_succ, List.cons_append, List.nil_append, List.getD_cons_zero, List.getD_cons_succ, mkS, mkP, and_true, true_and, Int.not_lt, Int.not_le, not_or, not_and, Classical.not_not, ne_eq, not_true_eq_false, not_false_eq_true, sem_window, windowV, hc0, hc1, ex3, ex4, ex5, ex6, ex13, ex16, er, b01, dec_true, if_true, if_false, reduceIte, Bool.false_eq_true, Nat.reduceAdd, Nat.zero_add]
      clear hc0 hc1
      repeat' first | exact trivial | refine And.intro ?_ ?_ | intro _
      all_goals first | trivial | rfl | omega | (simp [Int.max_comm, Int.min_comm]; done) | (simp only [List.cons.injEq, and_true, true_and]; omega) | (split <;> first | trivial | rfl | omega)
  · have hd0 := hc0
    try simp only [camB, rows9, lensB_true, Bool.and_eq_true, all3_true, winB_true, TX.sat, XB.prop, X.den, List.map_cons, List.map_nil, List.getElem?_cons_zero, List.getElem?_cons_succ, List.cons_append, List.nil_append, List.getD_cons_zero, List.getD_cons_succ, mkS, mkP, and_true, true_and, Int.not_lt, Int.not_le, not_or, not_and, Classical.not_not, ne_eq, not_true_eq_false, not_false_eq_true, Nat.reduceAdd, Nat.zero_add] at hd0
    simp only [t_window, G_window, TX.sat, XB.prop, X.den, List.map_cons, List.map_nil, List.getElem?_cons_zero, List.getElem?_cons_succ, List.cons_append, List.nil_append, List.getD_cons_zero, List.getD_cons_succ, mkS, mkP, and_true, true_and, Int.not_lt, Int.not_le, not_or, not_and, Classical.not_not, ne_eq, not_true_eq_false, not_false_eq_true, sem_window, windowV, hc0, ex3, ex4, ex5, ex6, ex13, ex16, er, b01, dec_true, if_true, if_false, reduceIte, Bool.false_eq_true, Nat.reduceAdd, Nat.zero_add]
    clear hc0
    repeat' first | exact trivial | refine And.intro ?_ ?_ | intro _
    all_goals first | trivial | rfl | omega | (simp [Int.max_comm, Int.min_comm]; done) | (simp only [List.cons.injEq, and_true, true_and]; omega) | (split <;> first | trivial | rfl | omega))
theorem ok_rwindow : s_rwindow.ok Tryz.prog := Sum.okF facts.mixed g_rwindow o_rwindow tree_rwindow rfl (fun _ => rfl) (by
  intro xs hx hp
  obtain ⟨a0, a1, a2, a3, a4, a5, a6, a7, a8, a9, a10, a11, a12, a13, a14, a15, a16, a17, a18, a19, rfl⟩ := len20 hx
  by_cases hc0 : camB [a0, a1, a2, a3, a4, a5, a6, a7, a8, a9, a10, a11, a12, a13, a14, a15, a16, a17, a18, a19] 0 = true
  · by_cases hc1 : winB [a0, a1, a2, a3, a4, a5, a6, a7, a8, a9, a10, a11, a12, a13, a14, a15, a16, a17, a18, a19] 16 14 15 = true
    · have hd0 := hc0
      try simp only [camB, rows9, lensB_true, Bool.and_eq_true, all3_true, winB_true, TX.sat, XB.prop, X.den, List.map_cons, List.map_nil, List.getElem?_cons_zero, List.getElem?_cons_succ, List.cons_append, List.nil_append, List.getD_cons_zero, List.getD_cons_succ, mkS, mkP, and_true, true_and, Int.not_lt, Int.not_le, not_or, not_and, Classical.not_not, ne_eq, not_true_eq_false, not_false_eq_true, Nat.reduceAdd, Nat.zero_add] at hd0
      have hd1 := hc1
      try simp only [camB, rows9, lensB_true, Bool.and_eq_true, all3_true, winB_true, TX.sat, XB.prop, X.den, List.map_cons, List.map_nil, List.getElem?_cons_zero, List.getElem?_cons_succ, List.cons_append, List.nil_append, List.getD_cons_zero, List.getD_cons_succ, mkS, mkP, and_true, true_and, Int.not_lt, Int.not_le, not_or, not_and, Classical.not_not, ne_eq, not_true_eq_false, not_false_eq_true, Nat.reduceAdd, Nat.zero_add] at hd1
      simp only [t_rwindow, G_rwindow, TX.sat, XB.prop, X.den, List.map_cons, List.map_nil, List.getElem?_cons_zero, List.getElem?_cons_succ, List.cons_append, List.nil_append, List.getD_cons_zero, List.getD_cons_succ, mkS, mkP, and_true, true_and, Int.not_lt, Int.not_le, not_or, not_and, Classical.not_not, ne_eq, not_true_eq_false, not_false_eq_true, sem_window, sem_rwindow, windowV, hc0, hc1, ex3, ex4, ex5, ex6, ex13, ex16, er, b01, dec_true, if_true, if_false, reduceIte, Bool.false_eq_true, Nat.reduceAdd, Nat.zero_add]
      clear hc0 hc1
      repeat' first | exact trivial | refine And.intro ?_ ?_ | intro _
      all_goals first | trivial | rfl | omega | (simp [Int.max_comm, Int.min_comm]; done) | (simp only [List.cons.injEq, and_true, true_and]; omega) | (split <;> first | trivial | rfl | omega)
    · have hd0 := hc0
      try simp only [camB, rows9, lensB_true, Bool.and_eq_true, all3_true, winB_true, TX.sat, XB.prop, X.den, List.map_cons, List.map_nil, List.getElem?_cons_zero, List.getElem?_cons_succ, List.cons_append, List.nil_append, List.getD_cons_zero, List.getD_cons_succ, mkS, mkP, and_true, true_and, Int.not_lt, Int.not_le, not_or, not_and, Classical.not_not, ne_eq, not_true_eq_false, not_false_eq_true, Nat.reduceAdd, Nat.zero_add] at hd0
      have hd1 := hc1
      try simp only [camB, rows9, lensB_true, Bool.and_eq_true, all3_true, winB_true, TX.sat, XB.prop, X.den, List.map_cons, List.map_nil, List.getElem?_cons_zero, List.getElem?_cons_succ, List.cons_append, List.nil_append, List.getD_cons_zero, List.getD_cons_succ, mkS, mkP, and_true, true_and, Int.not_lt, Int.not_le, not_or, not_and, Classical.not_not, ne_eq, not_true_eq_false, not_false_eq_true, Nat.reduceAdd, Nat.zero_add] at hd1
      simp only [t_rwindow, G_rwindow, TX.sat, XB.prop, X.den, List.map_cons, List.map_nil, List.getElem?_cons_zero, List.getElem?_cons_succ, List.cons_append, List.nil_append, List.getD_cons_zero, List.getD_cons_succ, mkS, mkP, and_true, true_and, Int.not_lt, Int.not_le, not_or, not_and, Classical.not_not, ne_eq, not_true_eq_false, not_false_eq_true, sem_window, sem_rwindow, windowV, hc0, hc1, ex3, ex4, ex5, ex6, ex13, ex16, er, b01, dec_true, if_true, if_false, reduceIte, Bool.false_eq_true, Nat.reduceAdd, Nat.zero_add]
      clear hc0 hc1
      repeat' first | exact trivial | refine And.intro ?_ ?_ | intro _
      all_goals first | trivial | rfl | omega | (simp [Int.max_comm, Int.min_comm]; done) | (simp only [List.cons.injEq, and_true, true_and]; omega) | (split <;> first | trivial | rfl | omega)
  · have hd0 := hc0
    try simp only [camB, rows9, lensB_true, Bool.and_eq_true, all3_true, winB_true, TX.sat, XB.prop, X.den, List.map_cons, List.map_nil, List.getElem?_cons_zero, List.getElem?_cons_succ, List.cons_append, List.nil_append, List.getD_cons_zero, List.getD_cons_succ, mkS, mkP, and_true, true_and, Int.not_lt, Int.not_le, not_or, not_and, Classical.not_not, ne_eq, not_true_eq_false, not_false_eq_true, Nat.reduceAdd, Nat.zero_add] at hd0
    simp only [t_rwindow, G_rwindow, TX.sat, XB.prop, X.den, List.map_cons, List.map_nil, List.getElem?_cons_zero, List.getElem?_cons_succ, List.cons_append, List.nil_append, List.getD_cons_zero, List.getD_cons_succ, mkS, mkP, and_true, true_and, Int.not_lt, Int.not_le, not_or, not_and, Classical.not_not, ne_eq, not_true_eq_false, not_false_eq_true, sem_window, sem_rwindow, windowV, hc0, ex3, ex4, ex5, ex6, ex13, ex16, er, b01, dec_true, if_true, if_false, reduceIte, Bool.false_eq_true, Nat.reduceAdd, Nat.zero_add]
    clear hc0
    repeat' first | exact trivial | refine And.intro ?_ ?_ | intro _
    all_goals first | trivial | rfl | omega | (simp [Int.max_comm, Int.min_comm]; done) | (simp only [List.cons.injEq, and_true, true_and]; omega) | (split <;> first | trivial | rfl | omega))
theorem dotS_in {x : List Int} {o p q : Nat} {m n : Int} (hm : 0 ≤ m) (hn : 0 ≤ n) (h1 : all3 m x o = true) (h2 : all3 n x p = true) (h3 : all3 n x q = true) : -(3 * (m * (2 * n))) ≤ dotS x o p q ∧ dotS x o p q ≤ 3 * (m * (2 * n)) := by
  rw [all3_true] at h1 h2 h3
  have k1 := mul_abs_le (n := 2 * n) (y := x.getD p 0 - x.getD q 0) h1.1 (by omega)
  have k2 := mul_abs_le (n := 2 * n) (y := x.getD (p + 1) 0 - x.getD (q + 1) 0) h1.2.1 (by omega)
  have k3 := mul_abs_le (n := 2 * n) (y := x.getD (p + 2) 0 - x.getD (q + 2) 0) h1.2.2 (by omega)
  unfold dotS
  omega
theorem inf_view : InfOK s_view i_view := ⟨fun _ h => h, fun vs xs h hp => by
  show vsOK (ivs 3 (-24576) 24576 ++ [iv 0 150]) (ex4 (viewL xs))
  unfold viewL
  split
  · rename_i hc
    split
    · rename_i hv
      simp only [camB, rows9, Bool.and_eq_true, Nat.reduceAdd] at hc
      obtain ⟨h0, ⟨h1, h2, h3⟩, _⟩ := hc
      have k1 := dotS_in (by omega) (by omega) h1 hv h0
      have k2 := dotS_in (by omega) (by omega) h2 hv h0
      have k3 := dotS_in (by omega) (by omega) h3 hv h0
      exact vsOK_cons (iv_def.2 (by show _ ≤ dotS xs 3 16 0 / 256 ∧ dotS xs 3 16 0 / 256 ≤ _; omega)) (vsOK_cons (iv_def.2 (by show _ ≤ dotS xs 6 16 0 / 256 ∧ dotS xs 6 16 0 / 256 ≤ _; omega)) (vsOK_cons (iv_def.2 (by show _ ≤ dotS xs 9 16 0 / 256 ∧ dotS xs 9 16 0 / 256 ≤ _; omega)) (vsOK_cons (iv_def.2 (by simp)) vsOK_nil)))
    · exact vsOK_cons (iv_def.2 (by simp)) (vsOK_cons (iv_def.2 (by simp)) (vsOK_cons (iv_def.2 (by simp)) (vsOK_cons (iv_def.2 (by simp)) vsOK_nil)))
  · exact vsOK_cons (iv_def.2 (by simp)) (vsOK_cons (iv_def.2 (by simp)) (vsOK_cons (iv_def.2 (by simp)) (vsOK_cons (iv_def.2 (by simp)) vsOK_nil)))⟩
theorem inf_window : InfOK s_window i_window := ⟨fun _ h => h, fun vs xs h hp => vsOK_cons (iv_def.2 (by unfold windowV; split; split <;> simp; simp)) vsOK_nil⟩
theorem inf_rwindow : InfOK s_rwindow i_rwindow := inf_window
theorem camB_lens {x : List Int} (h : camB x 0 = true) : (1 ≤ x.getD 12 0 ∧ x.getD 12 0 ≤ 64) ∧ (256 ≤ x.getD 13 0 ∧ x.getD 13 0 ≤ 4096) ∧ (1 ≤ x.getD 14 0 ∧ x.getD 14 0 ≤ 64) ∧ (1 ≤ x.getD 15 0 ∧ x.getD 15 0 ≤ 64) := by
  simp only [camB, Bool.and_eq_true, lensB_true, Nat.reduceAdd, Nat.zero_add] at h
  exact h.2.2
theorem grow_near {f n z : Int} (hf : 0 ≤ f ∧ f ≤ 64) (hn : -32768 ≤ n ∧ n ≤ 32768) (hz : 256 ≤ z) : -65536 ≤ 8 * f * n / z ∧ 8 * f * n / z ≤ 65536 := by
  have := mul_abs_le (x := 8 * f) (y := n) (m := 512) (n := 32768) (by omega) hn
  constructor
  · rw [Int.le_ediv_iff_mul_le (by omega)]
    omega
  · apply Int.ediv_le_of_le_mul (by omega)
    omega
theorem tdiv_pos {a b : Int} (hb : 0 < b) (ha : 0 ≤ a) : a.tdiv b = a / b := floor_pos hb (Int.tmod_nonneg b ha)
noncomputable def G_across : List Sum := [s_down]
def I_across : List Inf := [i_down]
def t_across : TX := (.callp 0 [(.mul (.mul (.c 8) (.v 12)) (.v 16)), (.v 17)] (.ret [(.add (.v 18) (.mul (.c 4) (.v 14)))]))
theorem tree_across : merge (optFL [] I_across [] pin_across (symFnL Tryz.prog noLp gl0 G_across 1000 76 [An 16, I1, I1] [I1])) = t_across := by kernel_rfl
theorem g_across : Gok Tryz.prog G_across := (fix.one ok_down)
theorem o_across : outsOK G_across I_across := (outsOK_cons inf_down outsOK_nil)
noncomputable def G_adown : List Sum := [s_down]
def I_adown : List Inf := [i_down]
def t_adown : TX := (.callp 0 [(.mul (.mul (.c 8) (.v 12)) (.v 16)), (.v 17)] (.ret [(.sub (.mul (.c 4) (.v 15)) (.v 18))]))
theorem tree_adown : merge (optFL [] I_adown [] pin_adown (symFnL Tryz.prog noLp gl0 G_adown 1000 78 [An 16, I1, I1] [I1])) = t_adown := by kernel_rfl
theorem g_adown : Gok Tryz.prog G_adown := (fix.one ok_down)
theorem o_adown : outsOK G_adown I_adown := (outsOK_cons inf_down outsOK_nil)
theorem ok_across : s_across.ok Tryz.prog := Sum.okF facts.mixed g_across o_across tree_across rfl (fun _ => rfl) (by
  intro xs hx hp
  obtain ⟨a0, a1, a2, a3, a4, a5, a6, a7, a8, a9, a10, a11, a12, a13, a14, a15, a16, a17, rfl⟩ := len18 hx
  simp only [t_across, G_across, s_down, TX.sat, XB.prop, X.den, List.map_cons, List.map_nil, List.getElem?_cons_zero, List.getElem?_cons_succ, List.cons_append, List.nil_append, List.getD_cons_zero, List.getD_cons_succ, mkS, mkP, and_true, true_and, Int.not_lt, Int.not_le, not_or, not_and, Classical.not_not, ne_eq, not_true_eq_false, not_false_eq_true, sem_down, sem_across, ex3, ex4, ex5, ex6, ex13, ex16, er, b01, dec_true, if_true, if_false, reduceIte, Bool.false_eq_true, Nat.reduceAdd, Nat.zero_add]
  repeat' first | exact trivial | refine And.intro ?_ ?_ | intro _
  all_goals first | trivial | rfl | omega | (simp [Int.max_comm, Int.min_comm]; done) | (simp only [List.cons.injEq, and_true, true_and]; omega) | (split <;> first | trivial | rfl | omega))
theorem ok_adown : s_adown.ok Tryz.prog := Sum.okF facts.mixed g_adown o_adown tree_adown rfl (fun _ => rfl) (by
  intro xs hx hp
  obtain ⟨a0, a1, a2, a3, a4, a5, a6, a7, a8, a9, a10, a11, a12, a13, a14, a15, a16, a17, rfl⟩ := len18 hx
  simp only [t_adown, G_adown, s_down, TX.sat, XB.prop, X.den, List.map_cons, List.map_nil, List.getElem?_cons_zero, List.getElem?_cons_succ, List.cons_append, List.nil_append, List.getD_cons_zero, List.getD_cons_succ, mkS, mkP, and_true, true_and, Int.not_lt, Int.not_le, not_or, not_and, Classical.not_not, ne_eq, not_true_eq_false, not_false_eq_true, sem_down, sem_adown, ex3, ex4, ex5, ex6, ex13, ex16, er, b01, dec_true, if_true, if_false, reduceIte, Bool.false_eq_true, Nat.reduceAdd, Nat.zero_add]
  repeat' first | exact trivial | refine And.intro ?_ ?_ | intro _
  all_goals first | trivial | rfl | omega | (simp [Int.max_comm, Int.min_comm]; done) | (simp only [List.cons.injEq, and_true, true_and]; omega) | (split <;> first | trivial | rfl | omega))
/-- How far a number shows from the middle. -/
theorem grow_in {f n z : Int} (hf : 0 ≤ f ∧ f ≤ 64) (hn : -32768 ≤ n ∧ n ≤ 32768) (hz : 1 ≤ z) : -16777216 ≤ 8 * f * n / z ∧ 8 * f * n / z ≤ 16777216 := by
  have := mul_abs_le (x := 8 * f) (y := n) (m := 512) (n := 32768) (by omega) hn
  exact div_range (by omega) (by omega) (by omega) (by omega) (by omega)
theorem inf_across : InfOK s_across i_across := ⟨fun _ h => h, fun vs xs h hp => by
  have h1 : 1 ≤ xs.getD 12 0 ∧ xs.getD 12 0 ≤ 64 := hp.2 12
  have h2 : 1 ≤ xs.getD 14 0 ∧ xs.getD 14 0 ≤ 64 := hp.2 14
  have h3 : -32768 ≤ xs.getD 16 0 ∧ xs.getD 16 0 ≤ 32768 := hp.2 16
  have h4 : 1 ≤ xs.getD 17 0 ∧ xs.getD 17 0 ≤ 32768 := hp.2 17
  have := grow_in (f := xs.getD 12 0) (by omega) h3 h4.1
  exact vsOK_cons (iv_def.2 (by show _ ≤ 8 * xs.getD 12 0 * xs.getD 16 0 / xs.getD 17 0 + 4 * xs.getD 14 0 ∧ _ ≤ _; omega)) vsOK_nil⟩
theorem inf_adown : InfOK s_adown i_adown := ⟨fun _ h => h, fun vs xs h hp => by
  have h1 : 1 ≤ xs.getD 12 0 ∧ xs.getD 12 0 ≤ 64 := hp.2 12
  have h2 : 1 ≤ xs.getD 15 0 ∧ xs.getD 15 0 ≤ 64 := hp.2 15
  have h3 : -32768 ≤ xs.getD 16 0 ∧ xs.getD 16 0 ≤ 32768 := hp.2 16
  have h4 : 1 ≤ xs.getD 17 0 ∧ xs.getD 17 0 ≤ 32768 := hp.2 17
  have := grow_in (f := xs.getD 12 0) (by omega) h3 h4.1
  exact vsOK_cons (iv_def.2 (by show _ ≤ 4 * xs.getD 15 0 - 8 * xs.getD 12 0 * xs.getD 16 0 / xs.getD 17 0 ∧ _ ≤ _; omega)) vsOK_nil⟩

end Go.Proofs.YtgcoidbaoigkeaaGreatDoor.fix
