/-
  What boxes come to.
-/
import Derived.Test.YtgcoidbaoigkeaaFBase
set_option linter.unusedVariables false
set_option linter.unusedSimpArgs false
namespace Go.Proofs.Ytgcoidbaoigkeaa.fix
open Go.RowKit Go.Sx

theorem boxB_true {x : List Int} {o : Nat} : boxB x o = true ↔ (((-32768 ≤ x.getD o 0 ∧ x.getD o 0 ≤ 32768) ∧ (-32768 ≤ x.getD (o + 1) 0 ∧ x.getD (o + 1) 0 ≤ 32768) ∧ (-32768 ≤ x.getD (o + 2) 0 ∧ x.getD (o + 2) 0 ≤ 32768)) ∧
    ((-32768 ≤ x.getD (o + 3) 0 ∧ x.getD (o + 3) 0 ≤ 32768) ∧ (-32768 ≤ x.getD (o + 4) 0 ∧ x.getD (o + 4) 0 ≤ 32768) ∧ (-32768 ≤ x.getD (o + 5) 0 ∧ x.getD (o + 5) 0 ≤ 32768)) ∧
    (x.getD o 0 ≤ x.getD (o + 3) 0 ∧ x.getD (o + 1) 0 ≤ x.getD (o + 4) 0 ∧ x.getD (o + 2) 0 ≤ x.getD (o + 5) 0)) := by
  simp only [boxB, Bool.and_eq_true, all3_true, dec_true, Nat.add_assoc, Nat.reduceAdd]
theorem small_not (xs : List Int) (h : vsOK [some ⟨1, 0⟩] xs) : False := by
  have h1 : 1 ≤ xs.getD 0 0 ∧ xs.getD 0 0 ≤ 0 := h.2 0
  omega

noncomputable def G_bcheck : List Sum := []
def I_bcheck : List Inf := []
def t_bcheck : TX := (.ite (.or (.or (.lt (.v 0) (.c (-32768))) (.lt (.c 32768) (.v 0))) (.or (.or (.lt (.v 3) (.c (-32768))) (.lt (.c 32768) (.v 3))) (.or (.lt (.v 3) (.v 0)) (.or (.or (.lt (.v 1) (.c (-32768))) (.lt (.c 32768) (.v 1))) (.or (.or (.lt (.v 4) (.c (-32768))) (.lt (.c 32768) (.v 4))) (.or (.lt (.v 4) (.v 1)) (.or (.or (.lt (.v 2) (.c (-32768))) (.lt (.c 32768) (.v 2))) (.or (.or (.lt (.v 5) (.c (-32768))) (.lt (.c 32768) (.v 5))) (.lt (.v 5) (.v 2)))))))))) (.ret [(.c 8)])
(.ret [(.c 0)]))
theorem tree_bcheck : merge (optFL [] I_bcheck [] pin_bcheck (symFnL Try.prog noLp gl0 G_bcheck 1000 70 [An 6] [I1])) = t_bcheck := by kernel_rfl
theorem g_bcheck : Gok Try.prog G_bcheck := noG
theorem o_bcheck : outsOK G_bcheck I_bcheck := outsOK_nil
theorem ok_bcheck : s_bcheck.ok Try.prog := Sum.okF facts.mixed g_bcheck o_bcheck tree_bcheck rfl (fun _ => rfl) (by
  intro xs hx hp
  obtain ⟨a0, a1, a2, a3, a4, a5, rfl⟩ := len6 hx
  by_cases hc0 : boxB [a0, a1, a2, a3, a4, a5] 0 = true
  · have hd0 := hc0
    try simp only [boxB_true, TX.sat, XB.prop, X.den, List.map_cons, List.map_nil, List.getElem?_cons_zero, List.getElem?_cons_succ, List.cons_append, List.nil_append, List.getD_cons_zero, List.getD_cons_succ, mkS, mkP, and_true, true_and, Int.not_lt, Int.not_le, not_or, not_and, Classical.not_not, ne_eq, not_true_eq_false, not_false_eq_true, Nat.reduceAdd, Nat.zero_add] at hd0
    simp only [t_bcheck, G_bcheck, TX.sat, XB.prop, X.den, List.map_cons, List.map_nil, List.getElem?_cons_zero, List.getElem?_cons_succ, List.cons_append, List.nil_append, List.getD_cons_zero, List.getD_cons_succ, mkS, mkP, and_true, true_and, Int.not_lt, Int.not_le, not_or, not_and, Classical.not_not, ne_eq, not_true_eq_false, not_false_eq_true, sem_bcheck, hc0, ex3, ex4, ex5, ex6, ex13, ex16, er, b01, dec_true, if_true, if_false, reduceIte, Bool.false_eq_true, Nat.reduceAdd, Nat.zero_add]
    clear hc0
    repeat' first | exact trivial | refine And.intro ?_ ?_ | intro _
    all_goals first | trivial | rfl | omega | (simp [Int.max_comm, Int.min_comm]; done) | (simp only [List.cons.injEq, and_true, true_and]; omega) | (split <;> first | trivial | rfl | omega)
  · have hd0 := hc0
    try simp only [boxB_true, TX.sat, XB.prop, X.den, List.map_cons, List.map_nil, List.getElem?_cons_zero, List.getElem?_cons_succ, List.cons_append, List.nil_append, List.getD_cons_zero, List.getD_cons_succ, mkS, mkP, and_true, true_and, Int.not_lt, Int.not_le, not_or, not_and, Classical.not_not, ne_eq, not_true_eq_false, not_false_eq_true, Nat.reduceAdd, Nat.zero_add] at hd0
    simp only [t_bcheck, G_bcheck, TX.sat, XB.prop, X.den, List.map_cons, List.map_nil, List.getElem?_cons_zero, List.getElem?_cons_succ, List.cons_append, List.nil_append, List.getD_cons_zero, List.getD_cons_succ, mkS, mkP, and_true, true_and, Int.not_lt, Int.not_le, not_or, not_and, Classical.not_not, ne_eq, not_true_eq_false, not_false_eq_true, sem_bcheck, hc0, ex3, ex4, ex5, ex6, ex13, ex16, er, b01, dec_true, if_true, if_false, reduceIte, Bool.false_eq_true, Nat.reduceAdd, Nat.zero_add]
    clear hc0
    repeat' first | exact trivial | refine And.intro ?_ ?_ | intro _
    all_goals first | trivial | rfl | omega | (simp [Int.max_comm, Int.min_comm]; done) | (simp only [List.cons.injEq, and_true, true_and]; omega) | (split <;> first | trivial | rfl | omega))
theorem inf_bcheck : InfOK s_bcheck i_bcheck := ⟨fun _ h => h, fun vs xs h hp => vsOK_cons (er_iv _ (by omega)) vsOK_nil⟩
noncomputable def G_inside : List Sum := []
def I_inside : List Inf := []
def t_inside : TX := (.ite (.or (.lt (.v 0) (.v 6)) (.or (.lt (.v 9) (.v 3)) (.or (.lt (.v 1) (.v 7)) (.or (.lt (.v 10) (.v 4)) (.or (.lt (.v 2) (.v 8)) (.lt (.v 11) (.v 5))))))) (.ret [(.c 0)])
(.ret [(.c 1)]))
theorem tree_inside : merge (optFL [] I_inside [] pin_inside (symFnL Try.prog noLp gl0 G_inside 1000 50 [An 6, An 6] [Bo])) = t_inside := by kernel_rfl
theorem g_inside : Gok Try.prog G_inside := noG
theorem o_inside : outsOK G_inside I_inside := outsOK_nil
theorem ok_inside : s_inside.ok Try.prog := Sum.okF facts.mixed g_inside o_inside tree_inside rfl (fun _ => rfl) (by
  intro xs hx hp
  obtain ⟨a0, a1, a2, a3, a4, a5, a6, a7, a8, a9, a10, a11, rfl⟩ := len12 hx
  by_cases hc0 : insideB [a0, a1, a2, a3, a4, a5, a6, a7, a8, a9, a10, a11] = true
  · have hd0 := hc0
    try simp only [insideB, dec_true, TX.sat, XB.prop, X.den, List.map_cons, List.map_nil, List.getElem?_cons_zero, List.getElem?_cons_succ, List.cons_append, List.nil_append, List.getD_cons_zero, List.getD_cons_succ, mkS, mkP, and_true, true_and, Int.not_lt, Int.not_le, not_or, not_and, Classical.not_not, ne_eq, not_true_eq_false, not_false_eq_true, Nat.reduceAdd, Nat.zero_add] at hd0
    simp only [t_inside, G_inside, TX.sat, XB.prop, X.den, List.map_cons, List.map_nil, List.getElem?_cons_zero, List.getElem?_cons_succ, List.cons_append, List.nil_append, List.getD_cons_zero, List.getD_cons_succ, mkS, mkP, and_true, true_and, Int.not_lt, Int.not_le, not_or, not_and, Classical.not_not, ne_eq, not_true_eq_false, not_false_eq_true, sem_inside, hc0, ex3, ex4, ex5, ex6, ex13, ex16, er, b01, dec_true, if_true, if_false, reduceIte, Bool.false_eq_true, Nat.reduceAdd, Nat.zero_add]
    clear hc0
    repeat' first | exact trivial | refine And.intro ?_ ?_ | intro _
    all_goals first | trivial | rfl | omega | (simp [Int.max_comm, Int.min_comm]; done) | (simp only [List.cons.injEq, and_true, true_and]; omega) | (split <;> first | trivial | rfl | omega)
  · have hd0 := hc0
    try simp only [insideB, dec_true, TX.sat, XB.prop, X.den, List.map_cons, List.map_nil, List.getElem?_cons_zero, List.getElem?_cons_succ, List.cons_append, List.nil_append, List.getD_cons_zero, List.getD_cons_succ, mkS, mkP, and_true, true_and, Int.not_lt, Int.not_le, not_or, not_and, Classical.not_not, ne_eq, not_true_eq_false, not_false_eq_true, Nat.reduceAdd, Nat.zero_add] at hd0
    simp only [t_inside, G_inside, TX.sat, XB.prop, X.den, List.map_cons, List.map_nil, List.getElem?_cons_zero, List.getElem?_cons_succ, List.cons_append, List.nil_append, List.getD_cons_zero, List.getD_cons_succ, mkS, mkP, and_true, true_and, Int.not_lt, Int.not_le, not_or, not_and, Classical.not_not, ne_eq, not_true_eq_false, not_false_eq_true, sem_inside, hc0, ex3, ex4, ex5, ex6, ex13, ex16, er, b01, dec_true, if_true, if_false, reduceIte, Bool.false_eq_true, Nat.reduceAdd, Nat.zero_add]
    clear hc0
    repeat' first | exact trivial | refine And.intro ?_ ?_ | intro _
    all_goals first | trivial | rfl | omega | (simp [Int.max_comm, Int.min_comm]; done) | (simp only [List.cons.injEq, and_true, true_and]; omega) | (split <;> first | trivial | rfl | omega))
theorem inf_inside : InfOK s_inside i_inside := ⟨fun _ h => h, fun vs xs h hp => vsOK_cons (b01_iv _) vsOK_nil⟩
end Go.Proofs.Ytgcoidbaoigkeaa.fix
