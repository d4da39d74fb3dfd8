/-
  What the functions on cameras, corners and spots come to.
-/
import Derived.Test.YtlgcjkolakcfiaaVec
set_option linter.unusedVariables false
set_option linter.unusedSimpArgs false
namespace Go.Proofs.Ytlgcjkolakcfiaa.fix
open Go.RowKit Go.Sx

theorem lensB_true {x : List Int} {o : Nat} : lensB x o = true ↔ ((1 ≤ x.getD o 0 ∧ x.getD o 0 ≤ 64) ∧ (256 ≤ x.getD (o + 1) 0 ∧ x.getD (o + 1) 0 ≤ 4096) ∧ (1 ≤ x.getD (o + 2) 0 ∧ x.getD (o + 2) 0 ≤ 64) ∧ (1 ≤ x.getD (o + 3) 0 ∧ x.getD (o + 3) 0 ≤ 64)) := decide_eq_true_iff
theorem winB_true {x : List Int} {o w h : Nat} : winB x o w h = true ↔ ((0 ≤ x.getD o 0 ∧ x.getD o 0 ≤ x.getD (o + 2) 0 ∧ x.getD (o + 2) 0 < x.getD w 0) ∧ (0 ≤ x.getD (o + 1) 0 ∧ x.getD (o + 1) 0 ≤ x.getD (o + 3) 0 ∧ x.getD (o + 3) 0 < x.getD h 0)) := decide_eq_true_iff
theorem spotB_true {x : List Int} {o : Nat} : spotB x o = true ↔ ((-131072 ≤ x.getD o 0 ∧ x.getD o 0 ≤ 131072) ∧ (-131072 ≤ x.getD (o + 1) 0 ∧ x.getD (o + 1) 0 ≤ 131072) ∧ (1 ≤ x.getD (o + 2) 0 ∧ x.getD (o + 2) 0 ≤ 65536) ∧
  (0 ≤ x.getD (o + 3) 0 ∧ x.getD (o + 3) 0 ≤ 255) ∧ (0 ≤ x.getD (o + 4) 0 ∧ x.getD (o + 4) 0 ≤ 255)) := decide_eq_true_iff

def G_ccheck : List Sum := []
def I_ccheck : List Inf := []
def t_ccheck : TX := (.ite (.or (.or (.lt (.v 0) (.c (-4096))) (.lt (.c 4096) (.v 0))) (.or (.or (.lt (.v 1) (.c (-4096))) (.lt (.c 4096) (.v 1))) (.or (.or (.lt (.v 2) (.c (-4096))) (.lt (.c 4096) (.v 2))) (.or (.or (.lt (.v 12) (.c 1)) (.lt (.c 64) (.v 12))) (.or (.or (.lt (.v 13) (.c 256)) (.lt (.c 4096) (.v 13))) (.or (.or (.lt (.v 14) (.c 1)) (.lt (.c 64) (.v 14))) (.or (.or (.lt (.v 15) (.c 1)) (.lt (.c 64) (.v 15))) (.or (.or (.lt (.v 3) (.c (-256))) (.lt (.c 256) (.v 3))) (.or (.or (.lt (.v 4) (.c (-256))) (.lt (.c 256) (.v 4))) (.or (.or (.lt (.v 5) (.c (-256))) (.lt (.c 256) (.v 5))) (.or (.or (.lt (.v 6) (.c (-256))) (.lt (.c 256) (.v 6))) (.or (.or (.lt (.v 7) (.c (-256))) (.lt (.c 256) (.v 7))) (.or (.or (.lt (.v 8) (.c (-256))) (.lt (.c 256) (.v 8))) (.or (.or (.lt (.v 9) (.c (-256))) (.lt (.c 256) (.v 9))) (.or (.or (.lt (.v 10) (.c (-256))) (.lt (.c 256) (.v 10))) (.or (.lt (.v 11) (.c (-256))) (.lt (.c 256) (.v 11)))))))))))))))))) (.ret [(.c 150)])
(.ret [(.c 0)]))
theorem tree_ccheck : merge (opt I_ccheck pin_ccheck (symFn Try.prog G_ccheck 1000 68 [An 16] [I1])) = t_ccheck := by kernel_rfl
theorem g_ccheck : Gok Try.prog G_ccheck := noG
theorem o_ccheck : outsOK G_ccheck I_ccheck := outsOK_nil
def G_rccheck : List Sum := []
def I_rccheck : List Inf := []
def t_rccheck : TX := (.ite (.or (.or (.lt (.v 0) (.c (-4096))) (.lt (.c 4096) (.v 0))) (.or (.or (.lt (.v 1) (.c (-4096))) (.lt (.c 4096) (.v 1))) (.or (.or (.lt (.v 2) (.c (-4096))) (.lt (.c 4096) (.v 2))) (.or (.or (.lt (.v 3) (.c (-256))) (.lt (.c 256) (.v 3))) (.or (.or (.lt (.v 4) (.c (-256))) (.lt (.c 256) (.v 4))) (.or (.or (.lt (.v 5) (.c (-256))) (.lt (.c 256) (.v 5))) (.or (.or (.lt (.v 6) (.c (-256))) (.lt (.c 256) (.v 6))) (.or (.or (.lt (.v 7) (.c (-256))) (.lt (.c 256) (.v 7))) (.or (.or (.lt (.v 8) (.c (-256))) (.lt (.c 256) (.v 8))) (.or (.or (.lt (.v 9) (.c (-256))) (.lt (.c 256) (.v 9))) (.or (.or (.lt (.v 10) (.c (-256))) (.lt (.c 256) (.v 10))) (.or (.or (.lt (.v 11) (.c (-256))) (.lt (.c 256) (.v 11))) (.or (.lt (.v 12) (.c 1)) (.or (.lt (.c 64) (.v 12)) (.or (.lt (.v 13) (.c 256)) (.or (.lt (.c 4096) (.v 13)) (.or (.lt (.v 14) (.c 1)) (.or (.lt (.c 64) (.v 14)) (.or (.lt (.v 15) (.c 1)) (.lt (.c 64) (.v 15))))))))))))))))))))) (.ret [(.c 150)])
(.ret [(.c 0)]))
theorem tree_rccheck : merge (opt I_rccheck pin_rccheck (symFn Try.prog G_rccheck 1000 89 [An 16] [I1])) = t_rccheck := by kernel_rfl
theorem g_rccheck : Gok Try.prog G_rccheck := noG
theorem o_rccheck : outsOK G_rccheck I_rccheck := outsOK_nil
theorem ok_ccheck : s_ccheck.ok Try.prog := Sum.ok_opt facts.mixed g_ccheck o_ccheck tree_ccheck rfl (fun _ => rfl) (by
  intro xs hx hp
  obtain ⟨a0, a1, a2, a3, a4, a5, a6, a7, a8, a9, a10, a11, a12, a13, a14, a15, rfl⟩ := len16 hx
  by_cases hc0 : camB [a0, a1, a2, a3, a4, a5, a6, a7, a8, a9, a10, a11, a12, a13, a14, a15] 0 = true
  · have hd0 := hc0
    try simp only [camB, rows9, lensB_true, Bool.and_eq_true, all3_true, TX.sat, XB.prop, X.den, List.map_cons, List.map_nil, List.getElem?_cons_zero, List.getElem?_cons_succ, List.cons_append, List.nil_append, List.getD_cons_zero, List.getD_cons_succ, mkS, mkP, and_true, true_and, Int.not_lt, Int.not_le, not_or, not_and, Classical.not_not, ne_eq, not_true_eq_false, not_false_eq_true, Nat.reduceAdd, Nat.zero_add] at hd0
    simp only [t_ccheck, G_ccheck, TX.sat, XB.prop, X.den, List.map_cons, List.map_nil, List.getElem?_cons_zero, List.getElem?_cons_succ, List.cons_append, List.nil_append, List.getD_cons_zero, List.getD_cons_succ, mkS, mkP, and_true, true_and, Int.not_lt, Int.not_le, not_or, not_and, Classical.not_not, ne_eq, not_true_eq_false, not_false_eq_true, sem_ccheck, hc0, ex3, ex4, ex5, ex6, ex13, ex16, er, b01, dec_true, if_true, if_false, reduceIte, Bool.false_eq_true, Nat.reduceAdd, Nat.zero_add]
    clear hc0
    repeat' first | exact trivial | refine And.intro ?_ ?_ | intro _
    all_goals first | trivial | rfl | omega | (simp [Int.max_comm, Int.min_comm]; done) | (split <;> first | trivial | rfl | omega)
  · have hd0 := hc0
    try simp only [camB, rows9, lensB_true, Bool.and_eq_true, all3_true, TX.sat, XB.prop, X.den, List.map_cons, List.map_nil, List.getElem?_cons_zero, List.getElem?_cons_succ, List.cons_append, List.nil_append, List.getD_cons_zero, List.getD_cons_succ, mkS, mkP, and_true, true_and, Int.not_lt, Int.not_le, not_or, not_and, Classical.not_not, ne_eq, not_true_eq_false, not_false_eq_true, Nat.reduceAdd, Nat.zero_add] at hd0
    simp only [t_ccheck, G_ccheck, TX.sat, XB.prop, X.den, List.map_cons, List.map_nil, List.getElem?_cons_zero, List.getElem?_cons_succ, List.cons_append, List.nil_append, List.getD_cons_zero, List.getD_cons_succ, mkS, mkP, and_true, true_and, Int.not_lt, Int.not_le, not_or, not_and, Classical.not_not, ne_eq, not_true_eq_false, not_false_eq_true, sem_ccheck, hc0, ex3, ex4, ex5, ex6, ex13, ex16, er, b01, dec_true, if_true, if_false, reduceIte, Bool.false_eq_true, Nat.reduceAdd, Nat.zero_add]
    clear hc0
    repeat' first | exact trivial | refine And.intro ?_ ?_ | intro _
    all_goals first | trivial | rfl | omega | (simp [Int.max_comm, Int.min_comm]; done) | (split <;> first | trivial | rfl | omega))
theorem ok_rccheck : s_rccheck.ok Try.prog := Sum.ok_opt facts.mixed g_rccheck o_rccheck tree_rccheck rfl (fun _ => rfl) (by
  intro xs hx hp
  obtain ⟨a0, a1, a2, a3, a4, a5, a6, a7, a8, a9, a10, a11, a12, a13, a14, a15, rfl⟩ := len16 hx
  by_cases hc0 : camB [a0, a1, a2, a3, a4, a5, a6, a7, a8, a9, a10, a11, a12, a13, a14, a15] 0 = true
  · have hd0 := hc0
    try simp only [camB, rows9, lensB_true, Bool.and_eq_true, all3_true, TX.sat, XB.prop, X.den, List.map_cons, List.map_nil, List.getElem?_cons_zero, List.getElem?_cons_succ, List.cons_append, List.nil_append, List.getD_cons_zero, List.getD_cons_succ, mkS, mkP, and_true, true_and, Int.not_lt, Int.not_le, not_or, not_and, Classical.not_not, ne_eq, not_true_eq_false, not_false_eq_true, Nat.reduceAdd, Nat.zero_add] at hd0
    simp only [t_rccheck, G_rccheck, TX.sat, XB.prop, X.den, List.map_cons, List.map_nil, List.getElem?_cons_zero, List.getElem?_cons_succ, List.cons_append, List.nil_append, List.getD_cons_zero, List.getD_cons_succ, mkS, mkP, and_true, true_and, Int.not_lt, Int.not_le, not_or, not_and, Classical.not_not, ne_eq, not_true_eq_false, not_false_eq_true, sem_ccheck, sem_rccheck, hc0, ex3, ex4, ex5, ex6, ex13, ex16, er, b01, dec_true, if_true, if_false, reduceIte, Bool.false_eq_true, Nat.reduceAdd, Nat.zero_add]
    clear hc0
    repeat' first | exact trivial | refine And.intro ?_ ?_ | intro _
    all_goals first | trivial | rfl | omega | (simp [Int.max_comm, Int.min_comm]; done) | (split <;> first | trivial | rfl | omega)
  · have hd0 := hc0
    try simp only [camB, rows9, lensB_true, Bool.and_eq_true, all3_true, TX.sat, XB.prop, X.den, List.map_cons, List.map_nil, List.getElem?_cons_zero, List.getElem?_cons_succ, List.cons_append, List.nil_append, List.getD_cons_zero, List.getD_cons_succ, mkS, mkP, and_true, true_and, Int.not_lt, Int.not_le, not_or, not_and, Classical.not_not, ne_eq, not_true_eq_false, not_false_eq_true, Nat.reduceAdd, Nat.zero_add] at hd0
    simp only [t_rccheck, G_rccheck, TX.sat, XB.prop, X.den, List.map_cons, List.map_nil, List.getElem?_cons_zero, List.getElem?_cons_succ, List.cons_append, List.nil_append, List.getD_cons_zero, List.getD_cons_succ, mkS, mkP, and_true, true_and, Int.not_lt, Int.not_le, not_or, not_and, Classical.not_not, ne_eq, not_true_eq_false, not_false_eq_true, sem_ccheck, sem_rccheck, hc0, ex3, ex4, ex5, ex6, ex13, ex16, er, b01, dec_true, if_true, if_false, reduceIte, Bool.false_eq_true, Nat.reduceAdd, Nat.zero_add]
    clear hc0
    repeat' first | exact trivial | refine And.intro ?_ ?_ | intro _
    all_goals first | trivial | rfl | omega | (simp [Int.max_comm, Int.min_comm]; done) | (split <;> first | trivial | rfl | omega))
theorem inf_ccheck : InfOK s_ccheck i_ccheck := ⟨fun _ h => h, fun vs xs h hp => vsOK_cons (er_iv _ (by omega)) vsOK_nil⟩
theorem inf_rccheck : InfOK s_rccheck i_rccheck := inf_ccheck
def G_view : List Sum := [s_turn0]
def I_view : List Inf := [i_turn0]
def t_view : TX := (.ite (.or (.or (.lt (.v 0) (.c (-4096))) (.lt (.c 4096) (.v 0))) (.or (.or (.lt (.v 1) (.c (-4096))) (.lt (.c 4096) (.v 1))) (.or (.or (.lt (.v 2) (.c (-4096))) (.lt (.c 4096) (.v 2))) (.or (.or (.lt (.v 12) (.c 1)) (.lt (.c 64) (.v 12))) (.or (.or (.lt (.v 13) (.c 256)) (.lt (.c 4096) (.v 13))) (.or (.or (.lt (.v 14) (.c 1)) (.lt (.c 64) (.v 14))) (.or (.or (.lt (.v 15) (.c 1)) (.lt (.c 64) (.v 15))) (.or (.or (.lt (.v 3) (.c (-256))) (.lt (.c 256) (.v 3))) (.or (.or (.lt (.v 4) (.c (-256))) (.lt (.c 256) (.v 4))) (.or (.or (.lt (.v 5) (.c (-256))) (.lt (.c 256) (.v 5))) (.or (.or (.lt (.v 6) (.c (-256))) (.lt (.c 256) (.v 6))) (.or (.or (.lt (.v 7) (.c (-256))) (.lt (.c 256) (.v 7))) (.or (.or (.lt (.v 8) (.c (-256))) (.lt (.c 256) (.v 8))) (.or (.or (.lt (.v 9) (.c (-256))) (.lt (.c 256) (.v 9))) (.or (.or (.lt (.v 10) (.c (-256))) (.lt (.c 256) (.v 10))) (.or (.lt (.v 11) (.c (-256))) (.lt (.c 256) (.v 11)))))))))))))))))) (.ret [(.c 0), (.c 0), (.c 0), (.c 150)])
(.ite (.or (.or (.lt (.v 16) (.c (-4096))) (.lt (.c 4096) (.v 16))) (.or (.or (.lt (.v 17) (.c (-4096))) (.lt (.c 4096) (.v 17))) (.or (.lt (.v 18) (.c (-4096))) (.lt (.c 4096) (.v 18))))) (.ret [(.c 0), (.c 0), (.c 0), (.c 20)])
(.callp 0 [(.v 3), (.v 4), (.v 5), (.v 6), (.v 7), (.v 8), (.v 9), (.v 10), (.v 11), (.sub (.v 16) (.v 0)), (.sub (.v 17) (.v 1)), (.sub (.v 18) (.v 2))] (.ret [(.v 19), (.v 20), (.v 21), (.c 0)]))))
theorem tree_view : merge (opt I_view pin_view (symFn Try.prog G_view 1000 67 [An 16, An 3] [An 3, I1])) = t_view := by kernel_rfl
theorem g_view : Gok Try.prog G_view := (one ok_turn0)
theorem o_view : outsOK G_view I_view := (outsOK_cons inf_turn0 outsOK_nil)
def G_rview : List Sum := [s_turned]
def I_rview : List Inf := [i_turned]
def t_rview : TX := (.ite (.or (.or (.lt (.v 0) (.c (-4096))) (.lt (.c 4096) (.v 0))) (.or (.or (.lt (.v 1) (.c (-4096))) (.lt (.c 4096) (.v 1))) (.or (.or (.lt (.v 2) (.c (-4096))) (.lt (.c 4096) (.v 2))) (.or (.or (.lt (.v 3) (.c (-256))) (.lt (.c 256) (.v 3))) (.or (.or (.lt (.v 4) (.c (-256))) (.lt (.c 256) (.v 4))) (.or (.or (.lt (.v 5) (.c (-256))) (.lt (.c 256) (.v 5))) (.or (.or (.lt (.v 6) (.c (-256))) (.lt (.c 256) (.v 6))) (.or (.or (.lt (.v 7) (.c (-256))) (.lt (.c 256) (.v 7))) (.or (.or (.lt (.v 8) (.c (-256))) (.lt (.c 256) (.v 8))) (.or (.or (.lt (.v 9) (.c (-256))) (.lt (.c 256) (.v 9))) (.or (.or (.lt (.v 10) (.c (-256))) (.lt (.c 256) (.v 10))) (.or (.or (.lt (.v 11) (.c (-256))) (.lt (.c 256) (.v 11))) (.or (.lt (.v 12) (.c 1)) (.or (.lt (.c 64) (.v 12)) (.or (.lt (.v 13) (.c 256)) (.or (.lt (.c 4096) (.v 13)) (.or (.lt (.v 14) (.c 1)) (.or (.lt (.c 64) (.v 14)) (.or (.lt (.v 15) (.c 1)) (.lt (.c 64) (.v 15))))))))))))))))))))) (.ret [(.c 0), (.c 0), (.c 0), (.c 150)])
(.ite (.or (.or (.lt (.v 16) (.c (-4096))) (.lt (.c 4096) (.v 16))) (.or (.or (.lt (.v 17) (.c (-4096))) (.lt (.c 4096) (.v 17))) (.or (.lt (.v 18) (.c (-4096))) (.lt (.c 4096) (.v 18))))) (.ret [(.c 0), (.c 0), (.c 0), (.c 20)])
(.callp 0 [(.v 3), (.v 4), (.v 5), (.v 6), (.v 7), (.v 8), (.v 9), (.v 10), (.v 11), (.sub (.v 16) (.v 0)), (.sub (.v 17) (.v 1)), (.sub (.v 18) (.v 2))] (.ret [(.v 19), (.v 20), (.v 21), (.c 0)]))))
theorem tree_rview : merge (opt I_rview pin_rview (symFn Try.prog G_rview 1000 87 [An 16, An 3] [An 3, I1])) = t_rview := by kernel_rfl
theorem g_rview : Gok Try.prog G_rview := (one ok_turned)
theorem o_rview : outsOK G_rview I_rview := (outsOK_cons inf_turned outsOK_nil)
theorem ok_view : s_view.ok Try.prog := Sum.ok_opt facts.mixed g_view o_view tree_view rfl (fun _ => rfl) (by
  intro xs hx hp
  obtain ⟨a0, a1, a2, a3, a4, a5, a6, a7, a8, a9, a10, a11, a12, a13, a14, a15, a16, a17, a18, rfl⟩ := len19 hx
  by_cases hc0 : camB [a0, a1, a2, a3, a4, a5, a6, a7, a8, a9, a10, a11, a12, a13, a14, a15, a16, a17, a18] 0 = true
  · by_cases hc1 : all3 4096 [a0, a1, a2, a3, a4, a5, a6, a7, a8, a9, a10, a11, a12, a13, a14, a15, a16, a17, a18] 16 = true
    · have hd0 := hc0
      try simp only [camB, rows9, lensB_true, Bool.and_eq_true, all3_true, TX.sat, XB.prop, X.den, List.map_cons, List.map_nil, List.getElem?_cons_zero, List.getElem?_cons_succ, List.cons_append, List.nil_append, List.getD_cons_zero, List.getD_cons_succ, mkS, mkP, and_true, true_and, Int.not_lt, Int.not_le, not_or, not_and, Classical.not_not, ne_eq, not_true_eq_false, not_false_eq_true, Nat.reduceAdd, Nat.zero_add] at hd0
      have hd1 := hc1
      try simp only [camB, rows9, lensB_true, Bool.and_eq_true, all3_true, TX.sat, XB.prop, X.den, List.map_cons, List.map_nil, List.getElem?_cons_zero, List.getElem?_cons_succ, List.cons_append, List.nil_append, List.getD_cons_zero, List.getD_cons_succ, mkS, mkP, and_true, true_and, Int.not_lt, Int.not_le, not_or, not_and, Classical.not_not, ne_eq, not_true_eq_false, not_false_eq_true, Nat.reduceAdd, Nat.zero_add] at hd1
      simp only [t_view, G_view, s_turn0, TX.sat, XB.prop, X.den, List.map_cons, List.map_nil, List.getElem?_cons_zero, List.getElem?_cons_succ, List.cons_append, List.nil_append, List.getD_cons_zero, List.getD_cons_succ, mkS, mkP, and_true, true_and, Int.not_lt, Int.not_le, not_or, not_and, Classical.not_not, ne_eq, not_true_eq_false, not_false_eq_true, sem_turn0, dot, dotS, sem_view, viewL, hc0, hc1, ex3, ex4, ex5, ex6, ex13, ex16, er, b01, dec_true, if_true, if_false, reduceIte, Bool.false_eq_true, Nat.reduceAdd, Nat.zero_add]
      clear hc0 hc1
      repeat' first | exact trivial | refine And.intro ?_ ?_ | intro _
      all_goals first | trivial | rfl | omega | (simp [Int.max_comm, Int.min_comm]; done) | (split <;> first | trivial | rfl | omega)
    · have hd0 := hc0
      try simp only [camB, rows9, lensB_true, Bool.and_eq_true, all3_true, TX.sat, XB.prop, X.den, List.map_cons, List.map_nil, List.getElem?_cons_zero, List.getElem?_cons_succ, List.cons_append, List.nil_append, List.getD_cons_zero, List.getD_cons_succ, mkS, mkP, and_true, true_and, Int.not_lt, Int.not_le, not_or, not_and, Classical.not_not, ne_eq, not_true_eq_false, not_false_eq_true, Nat.reduceAdd, Nat.zero_add] at hd0
      have hd1 := hc1
      try simp only [camB, rows9, lensB_true, Bool.and_eq_true, all3_true, TX.sat, XB.prop, X.den, List.map_cons, List.map_nil, List.getElem?_cons_zero, List.getElem?_cons_succ, List.cons_append, List.nil_append, List.getD_cons_zero, List.getD_cons_succ, mkS, mkP, and_true, true_and, Int.not_lt, Int.not_le, not_or, not_and, Classical.not_not, ne_eq, not_true_eq_false, not_false_eq_true, Nat.reduceAdd, Nat.zero_add] at hd1
      simp only [t_view, G_view, s_turn0, TX.sat, XB.prop, X.den, List.map_cons, List.map_nil, List.getElem?_cons_zero, List.getElem?_cons_succ, List.cons_append, List.nil_append, List.getD_cons_zero, List.getD_cons_succ, mkS, mkP, and_true, true_and, Int.not_lt, Int.not_le, not_or, not_and, Classical.not_not, ne_eq, not_true_eq_false, not_false_eq_true, sem_turn0, dot, dotS, sem_view, viewL, hc0, hc1, ex3, ex4, ex5, ex6, ex13, ex16, er, b01, dec_true, if_true, if_false, reduceIte, Bool.false_eq_true, Nat.reduceAdd, Nat.zero_add]
      clear hc0 hc1
      repeat' first | exact trivial | refine And.intro ?_ ?_ | intro _
      all_goals first | trivial | rfl | omega | (simp [Int.max_comm, Int.min_comm]; done) | (split <;> first | trivial | rfl | omega)
  · have hd0 := hc0
    try simp only [camB, rows9, lensB_true, Bool.and_eq_true, all3_true, TX.sat, XB.prop, X.den, List.map_cons, List.map_nil, List.getElem?_cons_zero, List.getElem?_cons_succ, List.cons_append, List.nil_append, List.getD_cons_zero, List.getD_cons_succ, mkS, mkP, and_true, true_and, Int.not_lt, Int.not_le, not_or, not_and, Classical.not_not, ne_eq, not_true_eq_false, not_false_eq_true, Nat.reduceAdd, Nat.zero_add] at hd0
    simp only [t_view, G_view, s_turn0, TX.sat, XB.prop, X.den, List.map_cons, List.map_nil, List.getElem?_cons_zero, List.getElem?_cons_succ, List.cons_append, List.nil_append, List.getD_cons_zero, List.getD_cons_succ, mkS, mkP, and_true, true_and, Int.not_lt, Int.not_le, not_or, not_and, Classical.not_not, ne_eq, not_true_eq_false, not_false_eq_true, sem_turn0, dot, dotS, sem_view, viewL, hc0, ex3, ex4, ex5, ex6, ex13, ex16, er, b01, dec_true, if_true, if_false, reduceIte, Bool.false_eq_true, Nat.reduceAdd, Nat.zero_add]
    clear hc0
    repeat' first | exact trivial | refine And.intro ?_ ?_ | intro _
    all_goals first | trivial | rfl | omega | (simp [Int.max_comm, Int.min_comm]; done) | (split <;> first | trivial | rfl | omega))
theorem ok_rview : s_rview.ok Try.prog := Sum.ok_opt facts.mixed g_rview o_rview tree_rview rfl (fun _ => rfl) (by
  intro xs hx hp
  obtain ⟨a0, a1, a2, a3, a4, a5, a6, a7, a8, a9, a10, a11, a12, a13, a14, a15, a16, a17, a18, rfl⟩ := len19 hx
  by_cases hc0 : camB [a0, a1, a2, a3, a4, a5, a6, a7, a8, a9, a10, a11, a12, a13, a14, a15, a16, a17, a18] 0 = true
  · by_cases hc1 : all3 4096 [a0, a1, a2, a3, a4, a5, a6, a7, a8, a9, a10, a11, a12, a13, a14, a15, a16, a17, a18] 16 = true
    · have hd0 := hc0
      try simp only [camB, rows9, lensB_true, Bool.and_eq_true, all3_true, TX.sat, XB.prop, X.den, List.map_cons, List.map_nil, List.getElem?_cons_zero, List.getElem?_cons_succ, List.cons_append, List.nil_append, List.getD_cons_zero, List.getD_cons_succ, mkS, mkP, and_true, true_and, Int.not_lt, Int.not_le, not_or, not_and, Classical.not_not, ne_eq, not_true_eq_false, not_false_eq_true, Nat.reduceAdd, Nat.zero_add] at hd0
      have hd1 := hc1
      try simp only [camB, rows9, lensB_true, Bool.and_eq_true, all3_true, TX.sat, XB.prop, X.den, List.map_cons, List.map_nil, List.getElem?_cons_zero, List.getElem?_cons_succ, List.cons_append, List.nil_append, List.getD_cons_zero, List.getD_cons_succ, mkS, mkP, and_true, true_and, Int.not_lt, Int.not_le, not_or, not_and, Classical.not_not, ne_eq, not_true_eq_false, not_false_eq_true, Nat.reduceAdd, Nat.zero_add] at hd1
      simp only [t_rview, G_rview, s_turned, TX.sat, XB.prop, X.den, List.map_cons, List.map_nil, List.getElem?_cons_zero, List.getElem?_cons_succ, List.cons_append, List.nil_append, List.getD_cons_zero, List.getD_cons_succ, mkS, mkP, and_true, true_and, Int.not_lt, Int.not_le, not_or, not_and, Classical.not_not, ne_eq, not_true_eq_false, not_false_eq_true, sem_view, sem_turned, sem_turn0, dot, dotS, sem_rview, viewL, hc0, hc1, ex3, ex4, ex5, ex6, ex13, ex16, er, b01, dec_true, if_true, if_false, reduceIte, Bool.false_eq_true, Nat.reduceAdd, Nat.zero_add]
      clear hc0 hc1
      repeat' first | exact trivial | refine And.intro ?_ ?_ | intro _
      all_goals first | trivial | rfl | omega | (simp [Int.max_comm, Int.min_comm]; done) | (split <;> first | trivial | rfl | omega)
    · have hd0 := hc0
      try simp only [camB, rows9, lensB_true, Bool.and_eq_true, all3_true, TX.sat, XB.prop, X.den, List.map_cons, List.map_nil, List.getElem?_cons_zero, List.getElem?_cons_succ, List.cons_append, List.nil_append, List.getD_cons_zero, List.getD_cons_succ, mkS, mkP, and_true, true_and, Int.not_lt, Int.not_le, not_or, not_and, Classical.not_not, ne_eq, not_true_eq_false, not_false_eq_true, Nat.reduceAdd, Nat.zero_add] at hd0
      have hd1 := hc1
      try simp only [camB, rows9, lensB_true, Bool.and_eq_true, all3_true, TX.sat, XB.prop, X.den, List.map_cons, List.map_nil, List.getElem?_cons_zero, List.getElem?_cons_succ, List.cons_append, List.nil_append, List.getD_cons_zero, List.getD_cons_succ, mkS, mkP, and_true, true_and, Int.not_lt, Int.not_le, not_or, not_and, Classical.not_not, ne_eq, not_true_eq_false, not_false_eq_true, Nat.reduceAdd, Nat.zero_add] at hd1
      simp only [t_rview, G_rview, s_turned, TX.sat, XB.prop, X.den, List.map_cons, List.map_nil, List.getElem?_cons_zero, List.getElem?_cons_succ, List.cons_append, List.nil_append, List.getD_cons_zero, List.getD_cons_succ, mkS, mkP, and_true, true_and, Int.not_lt, Int.not_le, not_or, not_and, Classical.not_not, ne_eq, not_true_eq_false, not_false_eq_true, sem_view, sem_turned, sem_turn0, dot, dotS, sem_rview, viewL, hc0, hc1, ex3, ex4, ex5, ex6, ex13, ex16, er, b01, dec_true, if_true, if_false, reduceIte, Bool.false_eq_true, Nat.reduceAdd, Nat.zero_add]
      clear hc0 hc1
      repeat' first | exact trivial | refine And.intro ?_ ?_ | intro _
      all_goals first | trivial | rfl | omega | (simp [Int.max_comm, Int.min_comm]; done) | (split <;> first | trivial | rfl | omega)
  · have hd0 := hc0
    try simp only [camB, rows9, lensB_true, Bool.and_eq_true, all3_true, TX.sat, XB.prop, X.den, List.map_cons, List.map_nil, List.getElem?_cons_zero, List.getElem?_cons_succ, List.cons_append, List.nil_append, List.getD_cons_zero, List.getD_cons_succ, mkS, mkP, and_true, true_and, Int.not_lt, Int.not_le, not_or, not_and, Classical.not_not, ne_eq, not_true_eq_false, not_false_eq_true, Nat.reduceAdd, Nat.zero_add] at hd0
    simp only [t_rview, G_rview, s_turned, TX.sat, XB.prop, X.den, List.map_cons, List.map_nil, List.getElem?_cons_zero, List.getElem?_cons_succ, List.cons_append, List.nil_append, List.getD_cons_zero, List.getD_cons_succ, mkS, mkP, and_true, true_and, Int.not_lt, Int.not_le, not_or, not_and, Classical.not_not, ne_eq, not_true_eq_false, not_false_eq_true, sem_view, sem_turned, sem_turn0, dot, dotS, sem_rview, viewL, hc0, ex3, ex4, ex5, ex6, ex13, ex16, er, b01, dec_true, if_true, if_false, reduceIte, Bool.false_eq_true, Nat.reduceAdd, Nat.zero_add]
    clear hc0
    repeat' first | exact trivial | refine And.intro ?_ ?_ | intro _
    all_goals first | trivial | rfl | omega | (simp [Int.max_comm, Int.min_comm]; done) | (split <;> first | trivial | rfl | omega))
def G_whole : List Sum := []
def I_whole : List Inf := []
def t_whole : TX := (.ite (.or (.or (.lt (.v 0) (.c (-4096))) (.lt (.c 4096) (.v 0))) (.or (.or (.lt (.v 1) (.c (-4096))) (.lt (.c 4096) (.v 1))) (.or (.or (.lt (.v 2) (.c (-4096))) (.lt (.c 4096) (.v 2))) (.or (.or (.lt (.v 12) (.c 1)) (.lt (.c 64) (.v 12))) (.or (.or (.lt (.v 13) (.c 256)) (.lt (.c 4096) (.v 13))) (.or (.or (.lt (.v 14) (.c 1)) (.lt (.c 64) (.v 14))) (.or (.or (.lt (.v 15) (.c 1)) (.lt (.c 64) (.v 15))) (.or (.or (.lt (.v 3) (.c (-256))) (.lt (.c 256) (.v 3))) (.or (.or (.lt (.v 4) (.c (-256))) (.lt (.c 256) (.v 4))) (.or (.or (.lt (.v 5) (.c (-256))) (.lt (.c 256) (.v 5))) (.or (.or (.lt (.v 6) (.c (-256))) (.lt (.c 256) (.v 6))) (.or (.or (.lt (.v 7) (.c (-256))) (.lt (.c 256) (.v 7))) (.or (.or (.lt (.v 8) (.c (-256))) (.lt (.c 256) (.v 8))) (.or (.or (.lt (.v 9) (.c (-256))) (.lt (.c 256) (.v 9))) (.or (.or (.lt (.v 10) (.c (-256))) (.lt (.c 256) (.v 10))) (.or (.lt (.v 11) (.c (-256))) (.lt (.c 256) (.v 11)))))))))))))))))) (.ret [(.c 0), (.c 0), (.c 0), (.c 0), (.c 150)])
(.ret [(.c 0), (.c 0), (.sub (.v 14) (.c 1)), (.sub (.v 15) (.c 1)), (.c 0)]))
theorem tree_whole : merge (opt I_whole pin_whole (symFn Try.prog G_whole 1000 85 [An 16] [An 4, I1])) = t_whole := by kernel_rfl
theorem g_whole : Gok Try.prog G_whole := noG
theorem o_whole : outsOK G_whole I_whole := outsOK_nil
def G_rwhole : List Sum := []
def I_rwhole : List Inf := []
def t_rwhole : TX := (.ite (.or (.or (.lt (.v 0) (.c (-4096))) (.lt (.c 4096) (.v 0))) (.or (.or (.lt (.v 1) (.c (-4096))) (.lt (.c 4096) (.v 1))) (.or (.or (.lt (.v 2) (.c (-4096))) (.lt (.c 4096) (.v 2))) (.or (.or (.lt (.v 3) (.c (-256))) (.lt (.c 256) (.v 3))) (.or (.or (.lt (.v 4) (.c (-256))) (.lt (.c 256) (.v 4))) (.or (.or (.lt (.v 5) (.c (-256))) (.lt (.c 256) (.v 5))) (.or (.or (.lt (.v 6) (.c (-256))) (.lt (.c 256) (.v 6))) (.or (.or (.lt (.v 7) (.c (-256))) (.lt (.c 256) (.v 7))) (.or (.or (.lt (.v 8) (.c (-256))) (.lt (.c 256) (.v 8))) (.or (.or (.lt (.v 9) (.c (-256))) (.lt (.c 256) (.v 9))) (.or (.or (.lt (.v 10) (.c (-256))) (.lt (.c 256) (.v 10))) (.or (.or (.lt (.v 11) (.c (-256))) (.lt (.c 256) (.v 11))) (.or (.lt (.v 12) (.c 1)) (.or (.lt (.c 64) (.v 12)) (.or (.lt (.v 13) (.c 256)) (.or (.lt (.c 4096) (.v 13)) (.or (.lt (.v 14) (.c 1)) (.or (.lt (.c 64) (.v 14)) (.or (.lt (.v 15) (.c 1)) (.lt (.c 64) (.v 15))))))))))))))))))))) (.ret [(.c 0), (.c 0), (.c 0), (.c 0), (.c 150)])
(.ret [(.c 0), (.c 0), (.sub (.v 14) (.c 1)), (.sub (.v 15) (.c 1)), (.c 0)]))
theorem tree_rwhole : merge (opt I_rwhole pin_rwhole (symFn Try.prog G_rwhole 1000 88 [An 16] [An 4, I1])) = t_rwhole := by kernel_rfl
theorem g_rwhole : Gok Try.prog G_rwhole := noG
theorem o_rwhole : outsOK G_rwhole I_rwhole := outsOK_nil
theorem ok_whole : s_whole.ok Try.prog := Sum.ok_opt facts.mixed g_whole o_whole tree_whole rfl (fun _ => rfl) (by
  intro xs hx hp
  obtain ⟨a0, a1, a2, a3, a4, a5, a6, a7, a8, a9, a10, a11, a12, a13, a14, a15, rfl⟩ := len16 hx
  by_cases hc0 : camB [a0, a1, a2, a3, a4, a5, a6, a7, a8, a9, a10, a11, a12, a13, a14, a15] 0 = true
  · have hd0 := hc0
    try simp only [camB, rows9, lensB_true, Bool.and_eq_true, all3_true, TX.sat, XB.prop, X.den, List.map_cons, List.map_nil, List.getElem?_cons_zero, List.getElem?_cons_succ, List.cons_append, List.nil_append, List.getD_cons_zero, List.getD_cons_succ, mkS, mkP, and_true, true_and, Int.not_lt, Int.not_le, not_or, not_and, Classical.not_not, ne_eq, not_true_eq_false, not_false_eq_true, Nat.reduceAdd, Nat.zero_add] at hd0
    simp only [t_whole, G_whole, TX.sat, XB.prop, X.den, List.map_cons, List.map_nil, List.getElem?_cons_zero, List.getElem?_cons_succ, List.cons_append, List.nil_append, List.getD_cons_zero, List.getD_cons_succ, mkS, mkP, and_true, true_and, Int.not_lt, Int.not_le, not_or, not_and, Classical.not_not, ne_eq, not_true_eq_false, not_false_eq_true, sem_whole, wholeL, hc0, ex3, ex4, ex5, ex6, ex13, ex16, er, b01, dec_true, if_true, if_false, reduceIte, Bool.false_eq_true, Nat.reduceAdd, Nat.zero_add]
    clear hc0
    repeat' first | exact trivial | refine And.intro ?_ ?_ | intro _
    all_goals first | trivial | rfl | omega | (simp [Int.max_comm, Int.min_comm]; done) | (split <;> first | trivial | rfl | omega)
  · have hd0 := hc0
    try simp only [camB, rows9, lensB_true, Bool.and_eq_true, all3_true, TX.sat, XB.prop, X.den, List.map_cons, List.map_nil, List.getElem?_cons_zero, List.getElem?_cons_succ, List.cons_append, List.nil_append, List.getD_cons_zero, List.getD_cons_succ, mkS, mkP, and_true, true_and, Int.not_lt, Int.not_le, not_or, not_and, Classical.not_not, ne_eq, not_true_eq_false, not_false_eq_true, Nat.reduceAdd, Nat.zero_add] at hd0
    simp only [t_whole, G_whole, TX.sat, XB.prop, X.den, List.map_cons, List.map_nil, List.getElem?_cons_zero, List.getElem?_cons_succ, List.cons_append, List.nil_append, List.getD_cons_zero, List.getD_cons_succ, mkS, mkP, and_true, true_and, Int.not_lt, Int.not_le, not_or, not_and, Classical.not_not, ne_eq, not_true_eq_false, not_false_eq_true, sem_whole, wholeL, hc0, ex3, ex4, ex5, ex6, ex13, ex16, er, b01, dec_true, if_true, if_false, reduceIte, Bool.false_eq_true, Nat.reduceAdd, Nat.zero_add]
    clear hc0
    repeat' first | exact trivial | refine And.intro ?_ ?_ | intro _
    all_goals first | trivial | rfl | omega | (simp [Int.max_comm, Int.min_comm]; done) | (split <;> first | trivial | rfl | omega))
theorem ok_rwhole : s_rwhole.ok Try.prog := Sum.ok_opt facts.mixed g_rwhole o_rwhole tree_rwhole rfl (fun _ => rfl) (by
  intro xs hx hp
  obtain ⟨a0, a1, a2, a3, a4, a5, a6, a7, a8, a9, a10, a11, a12, a13, a14, a15, rfl⟩ := len16 hx
  by_cases hc0 : camB [a0, a1, a2, a3, a4, a5, a6, a7, a8, a9, a10, a11, a12, a13, a14, a15] 0 = true
  · have hd0 := hc0
    try simp only [camB, rows9, lensB_true, Bool.and_eq_true, all3_true, TX.sat, XB.prop, X.den, List.map_cons, List.map_nil, List.getElem?_cons_zero, List.getElem?_cons_succ, List.cons_append, List.nil_append, List.getD_cons_zero, List.getD_cons_succ, mkS, mkP, and_true, true_and, Int.not_lt, Int.not_le, not_or, not_and, Classical.not_not, ne_eq, not_true_eq_false, not_false_eq_true, Nat.reduceAdd, Nat.zero_add] at hd0
    simp only [t_rwhole, G_rwhole, TX.sat, XB.prop, X.den, List.map_cons, List.map_nil, List.getElem?_cons_zero, List.getElem?_cons_succ, List.cons_append, List.nil_append, List.getD_cons_zero, List.getD_cons_succ, mkS, mkP, and_true, true_and, Int.not_lt, Int.not_le, not_or, not_and, Classical.not_not, ne_eq, not_true_eq_false, not_false_eq_true, sem_whole, sem_rwhole, wholeL, hc0, ex3, ex4, ex5, ex6, ex13, ex16, er, b01, dec_true, if_true, if_false, reduceIte, Bool.false_eq_true, Nat.reduceAdd, Nat.zero_add]
    clear hc0
    repeat' first | exact trivial | refine And.intro ?_ ?_ | intro _
    all_goals first | trivial | rfl | omega | (simp [Int.max_comm, Int.min_comm]; done) | (split <;> first | trivial | rfl | omega)
  · have hd0 := hc0
    try simp only [camB, rows9, lensB_true, Bool.and_eq_true, all3_true, TX.sat, XB.prop, X.den, List.map_cons, List.map_nil, List.getElem?_cons_zero, List.getElem?_cons_succ, List.cons_append, List.nil_append, List.getD_cons_zero, List.getD_cons_succ, mkS, mkP, and_true, true_and, Int.not_lt, Int.not_le, not_or, not_and, Classical.not_not, ne_eq, not_true_eq_false, not_false_eq_true, Nat.reduceAdd, Nat.zero_add] at hd0
    simp only [t_rwhole, G_rwhole, TX.sat, XB.prop, X.den, List.map_cons, List.map_nil, List.getElem?_cons_zero, List.getElem?_cons_succ, List.cons_append, List.nil_append, List.getD_cons_zero, List.getD_cons_succ, mkS, mkP, and_true, true_and, Int.not_lt, Int.not_le, not_or, not_and, Classical.not_not, ne_eq, not_true_eq_false, not_false_eq_true, sem_whole, sem_rwhole, wholeL, hc0, ex3, ex4, ex5, ex6, ex13, ex16, er, b01, dec_true, if_true, if_false, reduceIte, Bool.false_eq_true, Nat.reduceAdd, Nat.zero_add]
    clear hc0
    repeat' first | exact trivial | refine And.intro ?_ ?_ | intro _
    all_goals first | trivial | rfl | omega | (simp [Int.max_comm, Int.min_comm]; done) | (split <;> first | trivial | rfl | omega))
def G_window : List Sum := []
def I_window : List Inf := []
def t_window : TX := (.ite (.or (.or (.lt (.v 0) (.c (-4096))) (.lt (.c 4096) (.v 0))) (.or (.or (.lt (.v 1) (.c (-4096))) (.lt (.c 4096) (.v 1))) (.or (.or (.lt (.v 2) (.c (-4096))) (.lt (.c 4096) (.v 2))) (.or (.or (.lt (.v 12) (.c 1)) (.lt (.c 64) (.v 12))) (.or (.or (.lt (.v 13) (.c 256)) (.lt (.c 4096) (.v 13))) (.or (.or (.lt (.v 14) (.c 1)) (.lt (.c 64) (.v 14))) (.or (.or (.lt (.v 15) (.c 1)) (.lt (.c 64) (.v 15))) (.or (.or (.lt (.v 3) (.c (-256))) (.lt (.c 256) (.v 3))) (.or (.or (.lt (.v 4) (.c (-256))) (.lt (.c 256) (.v 4))) (.or (.or (.lt (.v 5) (.c (-256))) (.lt (.c 256) (.v 5))) (.or (.or (.lt (.v 6) (.c (-256))) (.lt (.c 256) (.v 6))) (.or (.or (.lt (.v 7) (.c (-256))) (.lt (.c 256) (.v 7))) (.or (.or (.lt (.v 8) (.c (-256))) (.lt (.c 256) (.v 8))) (.or (.or (.lt (.v 9) (.c (-256))) (.lt (.c 256) (.v 9))) (.or (.or (.lt (.v 10) (.c (-256))) (.lt (.c 256) (.v 10))) (.or (.lt (.v 11) (.c (-256))) (.lt (.c 256) (.v 11)))))))))))))))))) (.ret [(.c 150)])
(.ite (.or (.or (.lt (.v 18) (.mx (.c 0) (.v 16))) (.lt (.sub (.v 14) (.c 1)) (.v 18))) (.or (.or (.lt (.v 19) (.mx (.c 0) (.v 17))) (.lt (.sub (.v 15) (.c 1)) (.v 19))) (.or (.lt (.v 16) (.c 0)) (.lt (.v 17) (.c 0))))) (.ret [(.c 2)])
(.ret [(.c 0)])))
theorem tree_window : merge (opt I_window pin_window (symFn Try.prog G_window 1000 86 [An 16, An 4] [I1])) = t_window := by kernel_rfl
theorem g_window : Gok Try.prog G_window := noG
theorem o_window : outsOK G_window I_window := outsOK_nil
def G_rwindow : List Sum := []
def I_rwindow : List Inf := []
def t_rwindow : TX := (.ite (.or (.or (.lt (.v 0) (.c (-4096))) (.lt (.c 4096) (.v 0))) (.or (.or (.lt (.v 1) (.c (-4096))) (.lt (.c 4096) (.v 1))) (.or (.or (.lt (.v 2) (.c (-4096))) (.lt (.c 4096) (.v 2))) (.or (.or (.lt (.v 3) (.c (-256))) (.lt (.c 256) (.v 3))) (.or (.or (.lt (.v 4) (.c (-256))) (.lt (.c 256) (.v 4))) (.or (.or (.lt (.v 5) (.c (-256))) (.lt (.c 256) (.v 5))) (.or (.or (.lt (.v 6) (.c (-256))) (.lt (.c 256) (.v 6))) (.or (.or (.lt (.v 7) (.c (-256))) (.lt (.c 256) (.v 7))) (.or (.or (.lt (.v 8) (.c (-256))) (.lt (.c 256) (.v 8))) (.or (.or (.lt (.v 9) (.c (-256))) (.lt (.c 256) (.v 9))) (.or (.or (.lt (.v 10) (.c (-256))) (.lt (.c 256) (.v 10))) (.or (.or (.lt (.v 11) (.c (-256))) (.lt (.c 256) (.v 11))) (.or (.lt (.v 12) (.c 1)) (.or (.lt (.c 64) (.v 12)) (.or (.lt (.v 13) (.c 256)) (.or (.lt (.c 4096) (.v 13)) (.or (.lt (.v 14) (.c 1)) (.or (.lt (.c 64) (.v 14)) (.or (.lt (.v 15) (.c 1)) (.lt (.c 64) (.v 15))))))))))))))))))))) (.ret [(.c 150)])
(.ite (.or (.or (.or (.or (.or (.lt (.v 16) (.c 0)) (.lt (.v 18) (.v 16))) (.le (.v 14) (.v 18))) (.lt (.v 17) (.c 0))) (.lt (.v 19) (.v 17))) (.le (.v 15) (.v 19))) (.ret [(.c 2)])
(.ret [(.c 0)])))
theorem tree_rwindow : merge (opt I_rwindow pin_rwindow (symFn Try.prog G_rwindow 1000 90 [An 16, An 4] [I1])) = t_rwindow := by kernel_rfl
theorem g_rwindow : Gok Try.prog G_rwindow := noG
theorem o_rwindow : outsOK G_rwindow I_rwindow := outsOK_nil
theorem ok_window : s_window.ok Try.prog := Sum.ok_opt facts.mixed g_window o_window tree_window rfl (fun _ => rfl) (by
  intro xs hx hp
  obtain ⟨a0, a1, a2, a3, a4, a5, a6, a7, a8, a9, a10, a11, a12, a13, a14, a15, a16, a17, a18, a19, rfl⟩ := len20 hx
  by_cases hc0 : camB [a0, a1, a2, a3, a4, a5, a6, a7, a8, a9, a10, a11, a12, a13, a14, a15, a16, a17, a18, a19] 0 = true
  · by_cases hc1 : winB [a0, a1, a2, a3, a4, a5, a6, a7, a8, a9, a10, a11, a12, a13, a14, a15, a16, a17, a18, a19] 16 14 15 = true
    · have hd0 := hc0
      try simp only [camB, rows9, lensB_true, Bool.and_eq_true, all3_true, winB_true, TX.sat, XB.prop, X.den, List.map_cons, List.map_nil, List.getElem?_cons_zero, List.getElem?_cons_succ, List.cons_append, List.nil_append, List.getD_cons_zero, List.getD_cons_succ, mkS, mkP, and_true, true_and, Int.not_lt, Int.not_le, not_or, not_and, Classical.not_not, ne_eq, not_true_eq_false, not_false_eq_true, Nat.reduceAdd, Nat.zero_add] at hd0
      have hd1 := hc1
      try simp only [camB, rows9, lensB_true, Bool.and_eq_true, all3_true, winB_true, TX.sat, XB.prop, X.den, List.map_cons, List.map_nil, List.getElem?_cons_zero, List.getElem?_cons_succ, List.cons_append, List.nil_append, List.getD_cons_zero, List.getD_cons_succ, mkS, mkP, and_true, true_and, Int.not_lt, Int.not_le, not_or, not_and, Classical.not_not, ne_eq, not_true_eq_false, not_false_eq_true, Nat.reduceAdd, Nat.zero_add] at hd1
      simp only [t_window, G_window, TX.sat, XB.prop, X.den, List.map_cons, List.map_nil, List.getElem?_cons_zero, List.getElem?_cons_succ, List.cons_append, List.nil_append, List.getD_cons_zero, List.getD_cons_succ, mkS, mkP, and_true, true_and, Int.not_lt, Int.not_le, not_or, not_and, Classical.not_not, ne_eq, not_true_eq_false, not_false_eq_true, sem_window, windowV, hc0, hc1, ex3, ex4, ex5, ex6, ex13, ex16, er, b01, dec_true, if_true, if_false, reduceIte, Bool.false_eq_true, Nat.reduceAdd, Nat.zero_add]
      clear hc0 hc1
      repeat' first | exact trivial | refine And.intro ?_ ?_ | intro _
      all_goals first | trivial | rfl | omega | (simp [Int.max_comm, Int.min_comm]; done) | (split <;> first | trivial | rfl | omega)
    · have hd0 := hc0
      try simp only [camB, rows9, lensB_true, Bool.and_eq_true, all3_true, winB_true, TX.sat, XB.prop, X.den, List.map_cons, List.map_nil, List.getElem?_cons_zero, List.getElem?_cons_succ, List.cons_append, List.nil_append, List.getD_cons_zero, List.getD_cons_succ, mkS, mkP, and_true, true_and, Int.not_lt, Int.not_le, not_or, not_and, Classical.not_not, ne_eq, not_true_eq_false, not_false_eq_true, Nat.reduceAdd, Nat.zero_add] at hd0
      have hd1 := hc1
      try simp only [camB, rows9, lensB_true, Bool.and_eq_true, all3_true, winB_true, TX.sat, XB.prop, X.den, List.map_cons, List.map_nil, List.getElem?_cons_zero, List.getElem?_cons_succ, List.cons_append, List.nil_append, List.getD_cons_zero, List.getD_cons_succ, mkS, mkP, and_true, true_and, Int.not_lt, Int.not_le, not_or, not_and, Classical.not_not, ne_eq, not_true_eq_false, not_false_eq_true, Nat.reduceAdd, Nat.zero_add] at hd1
      simp only [t_window, G_window, TX.sat, XB.prop, X.den, List.map_cons, List.map_nil, List.getElem?_cons_zero, List.getElem?_cons_succ, List.cons_append, List.nil_append, List.getD_cons_zero, List.getD_cons_succ, mkS, mkP, and_true, true_and, Int.not_lt, Int.not_le, not_or, not_and, Classical.not_not, ne_eq, not_true_eq_false, not_false_eq_true, sem_window, windowV, hc0, hc1, ex3, ex4, ex5, ex6, ex13, ex16, er, b01, dec_true, if_true, if_false, reduceIte, Bool.false_eq_true, Nat.reduceAdd, Nat.zero_add]
      clear hc0 hc1
      repeat' first | exact trivial | refine And.intro ?_ ?_ | intro _
      all_goals first | trivial | rfl | omega | (simp [Int.max_comm, Int.min_comm]; done) | (split <;> first | trivial | rfl | omega)
  · have hd0 := hc0
    try simp only [camB, rows9, lensB_true, Bool.and_eq_true, all3_true, winB_true, TX.sat, XB.prop, X.den, List.map_cons, List.map_nil, List.getElem?_cons_zero, List.getElem?_cons_succ, List.cons_append, List.nil_append, List.getD_cons_zero, List.getD_cons_succ, mkS, mkP, and_true, true_and, Int.not_lt, Int.not_le, not_or, not_and, Classical.not_not, ne_eq, not_true_eq_false, not_false_eq_true, Nat.reduceAdd, Nat.zero_add] at hd0
    simp only [t_window, G_window, TX.sat, XB.prop, X.den, List.map_cons, List.map_nil, List.getElem?_cons_zero, List.getElem?_cons_succ, List.cons_append, List.nil_append, List.getD_cons_zero, List.getD_cons_succ, mkS, mkP, and_true, true_and, Int.not_lt, Int.not_le, not_or, not_and, Classical.not_not, ne_eq, not_true_eq_false, not_false_eq_true, sem_window, windowV, hc0, ex3, ex4, ex5, ex6, ex13, ex16, er, b01, dec_true, if_true, if_false, reduceIte, Bool.false_eq_true, Nat.reduceAdd, Nat.zero_add]
    clear hc0
    repeat' first | exact trivial | refine And.intro ?_ ?_ | intro _
    all_goals first | trivial | rfl | omega | (simp [Int.max_comm, Int.min_comm]; done) | (split <;> first | trivial | rfl | omega))
theorem ok_rwindow : s_rwindow.ok Try.prog := Sum.ok_opt facts.mixed g_rwindow o_rwindow tree_rwindow rfl (fun _ => rfl) (by
  intro xs hx hp
  obtain ⟨a0, a1, a2, a3, a4, a5, a6, a7, a8, a9, a10, a11, a12, a13, a14, a15, a16, a17, a18, a19, rfl⟩ := len20 hx
  by_cases hc0 : camB [a0, a1, a2, a3, a4, a5, a6, a7, a8, a9, a10, a11, a12, a13, a14, a15, a16, a17, a18, a19] 0 = true
  · by_cases hc1 : winB [a0, a1, a2, a3, a4, a5, a6, a7, a8, a9, a10, a11, a12, a13, a14, a15, a16, a17, a18, a19] 16 14 15 = true
    · have hd0 := hc0
      try simp only [camB, rows9, lensB_true, Bool.and_eq_true, all3_true, winB_true, TX.sat, XB.prop, X.den, List.map_cons, List.map_nil, List.getElem?_cons_zero, List.getElem?_cons_succ, List.cons_append, List.nil_append, List.getD_cons_zero, List.getD_cons_succ, mkS, mkP, and_true, true_and, Int.not_lt, Int.not_le, not_or, not_and, Classical.not_not, ne_eq, not_true_eq_false, not_false_eq_true, Nat.reduceAdd, Nat.zero_add] at hd0
      have hd1 := hc1
      try simp only [camB, rows9, lensB_true, Bool.and_eq_true, all3_true, winB_true, TX.sat, XB.prop, X.den, List.map_cons, List.map_nil, List.getElem?_cons_zero, List.getElem?_cons_succ, List.cons_append, List.nil_append, List.getD_cons_zero, List.getD_cons_succ, mkS, mkP, and_true, true_and, Int.not_lt, Int.not_le, not_or, not_and, Classical.not_not, ne_eq, not_true_eq_false, not_false_eq_true, Nat.reduceAdd, Nat.zero_add] at hd1
      simp only [t_rwindow, G_rwindow, TX.sat, XB.prop, X.den, List.map_cons, List.map_nil, List.getElem?_cons_zero, List.getElem?_cons_succ, List.cons_append, List.nil_append, List.getD_cons_zero, List.getD_cons_succ, mkS, mkP, and_true, true_and, Int.not_lt, Int.not_le, not_or, not_and, Classical.not_not, ne_eq, not_true_eq_false, not_false_eq_true, sem_window, sem_rwindow, windowV, hc0, hc1, ex3, ex4, ex5, ex6, ex13, ex16, er, b01, dec_true, if_true, if_false, reduceIte, Bool.false_eq_true, Nat.reduceAdd, Nat.zero_add]
      clear hc0 hc1
      repeat' first | exact trivial | refine And.intro ?_ ?_ | intro _
      all_goals first | trivial | rfl | omega | (simp [Int.max_comm, Int.min_comm]; done) | (split <;> first | trivial | rfl | omega)
    · have hd0 := hc0
      try simp only [camB, rows9, lensB_true, Bool.and_eq_true, all3_true, winB_true, TX.sat, XB.prop, X.den, List.map_cons, List.map_nil, List.getElem?_cons_zero, List.getElem?_cons_succ, List.cons_append, List.nil_append, List.getD_cons_zero, List.getD_cons_succ, mkS, mkP, and_true, true_and, Int.not_lt, Int.not_le, not_or, not_and, Classical.not_not, ne_eq, not_true_eq_false, not_false_eq_true, Nat.reduceAdd, Nat.zero_add] at hd0
      have hd1 := hc1
      try simp only [camB, rows9, lensB_true, Bool.and_eq_true, all3_true, winB_true, TX.sat, XB.prop, X.den, List.map_cons, List.map_nil, List.getElem?_cons_zero, List.getElem?_cons_succ, List.cons_append, List.nil_append, List.getD_cons_zero, List.getD_cons_succ, mkS, mkP, and_true, true_and, Int.not_lt, Int.not_le, not_or, not_and, Classical.not_not, ne_eq, not_true_eq_false, not_false_eq_true, Nat.reduceAdd, Nat.zero_add] at hd1
      simp only [t_rwindow, G_rwindow, TX.sat, XB.prop, X.den, List.map_cons, List.map_nil, List.getElem?_cons_zero, List.getElem?_cons_succ, List.cons_append, List.nil_append, List.getD_cons_zero, List.getD_cons_succ, mkS, mkP, and_true, true_and, Int.not_lt, Int.not_le, not_or, not_and, Classical.not_not, ne_eq, not_true_eq_false, not_false_eq_true, sem_window, sem_rwindow, windowV, hc0, hc1, ex3, ex4, ex5, ex6, ex13, ex16, er, b01, dec_true, if_true, if_false, reduceIte, Bool.false_eq_true, Nat.reduceAdd, Nat.zero_add]
      clear hc0 hc1
      repeat' first | exact trivial | refine And.intro ?_ ?_ | intro _
      all_goals first | trivial | rfl | omega | (simp [Int.max_comm, Int.min_comm]; done) | (split <;> first | trivial | rfl | omega)
  · have hd0 := hc0
    try simp only [camB, rows9, lensB_true, Bool.and_eq_true, all3_true, winB_true, TX.sat, XB.prop, X.den, List.map_cons, List.map_nil, List.getElem?_cons_zero, List.getElem?_cons_succ, List.cons_append, List.nil_append, List.getD_cons_zero, List.getD_cons_succ, mkS, mkP, and_true, true_and, Int.not_lt, Int.not_le, not_or, not_and, Classical.not_not, ne_eq, not_true_eq_false, not_false_eq_true, Nat.reduceAdd, Nat.zero_add] at hd0
    simp only [t_rwindow, G_rwindow, TX.sat, XB.prop, X.den, List.map_cons, List.map_nil, List.getElem?_cons_zero, List.getElem?_cons_succ, List.cons_append, List.nil_append, List.getD_cons_zero, List.getD_cons_succ, mkS, mkP, and_true, true_and, Int.not_lt, Int.not_le, not_or, not_and, Classical.not_not, ne_eq, not_true_eq_false, not_false_eq_true, sem_window, sem_rwindow, windowV, hc0, ex3, ex4, ex5, ex6, ex13, ex16, er, b01, dec_true, if_true, if_false, reduceIte, Bool.false_eq_true, Nat.reduceAdd, Nat.zero_add]
    clear hc0
    repeat' first | exact trivial | refine And.intro ?_ ?_ | intro _
    all_goals first | trivial | rfl | omega | (simp [Int.max_comm, Int.min_comm]; done) | (split <;> first | trivial | rfl | omega))
theorem dotS_in {x : List Int} {o p q : Nat} {m n : Int} (hm : 0 ≤ m) (hn : 0 ≤ n) (h1 : all3 m x o = true) (h2 : all3 n x p = true) (h3 : all3 n x q = true) : -(3 * (m * (2 * n))) ≤ dotS x o p q ∧ dotS x o p q ≤ 3 * (m * (2 * n)) := by
  rw [all3_true] at h1 h2 h3
  have k1 := mul_abs_le (n := 2 * n) (y := x.getD p 0 - x.getD q 0) h1.1 (by omega)
  have k2 := mul_abs_le (n := 2 * n) (y := x.getD (p + 1) 0 - x.getD (q + 1) 0) h1.2.1 (by omega)
  have k3 := mul_abs_le (n := 2 * n) (y := x.getD (p + 2) 0 - x.getD (q + 2) 0) h1.2.2 (by omega)
  unfold dotS
  omega
theorem inf_view : InfOK s_view i_view := ⟨fun _ h => h, fun vs xs h hp => by
  show vsOK (ivs 3 (-24576) 24576 ++ [iv 0 150]) (ex4 (viewL xs))
  unfold viewL
  split
  · rename_i hc
    split
    · rename_i hv
      simp only [camB, rows9, Bool.and_eq_true, Nat.reduceAdd] at hc
      obtain ⟨h0, ⟨h1, h2, h3⟩, _⟩ := hc
      have k1 := dotS_in (by omega) (by omega) h1 hv h0
      have k2 := dotS_in (by omega) (by omega) h2 hv h0
      have k3 := dotS_in (by omega) (by omega) h3 hv h0
      exact vsOK_cons (iv_def.2 (by show _ ≤ dotS xs 3 16 0 / 256 ∧ dotS xs 3 16 0 / 256 ≤ _; omega)) (vsOK_cons (iv_def.2 (by show _ ≤ dotS xs 6 16 0 / 256 ∧ dotS xs 6 16 0 / 256 ≤ _; omega)) (vsOK_cons (iv_def.2 (by show _ ≤ dotS xs 9 16 0 / 256 ∧ dotS xs 9 16 0 / 256 ≤ _; omega)) (vsOK_cons (iv_def.2 (by simp)) vsOK_nil)))
    · exact vsOK_cons (iv_def.2 (by simp)) (vsOK_cons (iv_def.2 (by simp)) (vsOK_cons (iv_def.2 (by simp)) (vsOK_cons (iv_def.2 (by simp)) vsOK_nil)))
  · exact vsOK_cons (iv_def.2 (by simp)) (vsOK_cons (iv_def.2 (by simp)) (vsOK_cons (iv_def.2 (by simp)) (vsOK_cons (iv_def.2 (by simp)) vsOK_nil)))⟩
theorem inf_rview : InfOK s_rview i_rview := inf_view
theorem inf_whole : InfOK s_whole i_whole := ⟨fun _ h => h, fun vs xs h hp => by
  show vsOK (ivs 4 0 63 ++ [iv 0 150]) (ex5 (wholeL xs))
  unfold wholeL
  split
  · rename_i hc
    simp only [camB, rows9, Bool.and_eq_true, Nat.reduceAdd, Nat.zero_add, lensB_true] at hc
    exact vsOK_cons (iv_def.2 (by simp)) (vsOK_cons (iv_def.2 (by simp)) (vsOK_cons (iv_def.2 (by show _ ≤ xs.getD 14 0 - 1 ∧ xs.getD 14 0 - 1 ≤ _; omega)) (vsOK_cons (iv_def.2 (by show _ ≤ xs.getD 15 0 - 1 ∧ xs.getD 15 0 - 1 ≤ _; omega)) (vsOK_cons (iv_def.2 (by simp)) vsOK_nil))))
  · exact vsOK_cons (iv_def.2 (by simp)) (vsOK_cons (iv_def.2 (by simp)) (vsOK_cons (iv_def.2 (by simp)) (vsOK_cons (iv_def.2 (by simp)) (vsOK_cons (iv_def.2 (by simp)) vsOK_nil))))⟩
theorem inf_rwhole : InfOK s_rwhole i_rwhole := inf_whole
theorem inf_window : InfOK s_window i_window := ⟨fun _ h => h, fun vs xs h hp => vsOK_cons (iv_def.2 (by unfold windowV; split; split <;> simp; simp)) vsOK_nil⟩
theorem inf_rwindow : InfOK s_rwindow i_rwindow := inf_window
def G_alive15 : List Sum := []
def I_alive15 : List Inf := []
def t_alive15 : TX := (.ret [(.c 1)])
theorem tree_alive15 : merge (opt I_alive15 pin_alive15 (symFn Try.prog G_alive15 1000 66 [] [Bo])) = t_alive15 := by kernel_rfl
theorem g_alive15 : Gok Try.prog G_alive15 := noG
theorem o_alive15 : outsOK G_alive15 I_alive15 := outsOK_nil
theorem ok_alive15 : s_alive15.ok Try.prog := Sum.ok_opt facts.mixed g_alive15 o_alive15 tree_alive15 rfl (fun _ => rfl) (fun xs hx hp => rfl)
theorem inf_alive15 : InfOK s_alive15 i_alive15 := ⟨fun _ h => h, fun _ _ _ _ => vsOK_cons ⟨by decide, by decide⟩ vsOK_nil⟩
end Go.Proofs.Ytlgcjkolakcfiaa.fix
