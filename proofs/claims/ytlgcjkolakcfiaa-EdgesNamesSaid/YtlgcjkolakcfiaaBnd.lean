/-
  What the functions on bounds come to.
-/
import Derived.Test.YtlgcjkolakcfiaaEdges
set_option linter.unusedVariables false
set_option linter.unusedSimpArgs false
namespace Go.Proofs.Ytlgcjkolakcfiaa.fix
open Go.RowKit Go.Sx

def G_bounds : List Sum := [s_floor, s_ceil]
def I_bounds : List Inf := [i_floor, i_ceil]
def t_bounds : TX := (.ite (.or (.or (.lt (.v 0) (.c (-131072))) (.lt (.c 131072) (.v 0))) (.or (.or (.lt (.v 1) (.c (-131072))) (.lt (.c 131072) (.v 1))) (.or (.or (.lt (.v 2) (.c 1)) (.lt (.c 65536) (.v 2))) (.or (.or (.lt (.v 3) (.c 0)) (.lt (.c 255) (.v 3))) (.or (.or (.lt (.v 4) (.c 0)) (.lt (.c 255) (.v 4))) (.or (.or (.lt (.v 5) (.c (-131072))) (.lt (.c 131072) (.v 5))) (.or (.or (.lt (.v 6) (.c (-131072))) (.lt (.c 131072) (.v 6))) (.or (.or (.lt (.v 7) (.c 1)) (.lt (.c 65536) (.v 7))) (.or (.or (.lt (.v 8) (.c 0)) (.lt (.c 255) (.v 8))) (.or (.or (.lt (.v 9) (.c 0)) (.lt (.c 255) (.v 9))) (.or (.or (.lt (.v 10) (.c (-131072))) (.lt (.c 131072) (.v 10))) (.or (.or (.lt (.v 11) (.c (-131072))) (.lt (.c 131072) (.v 11))) (.or (.or (.lt (.v 12) (.c 1)) (.lt (.c 65536) (.v 12))) (.or (.or (.lt (.v 13) (.c 0)) (.lt (.c 255) (.v 13))) (.or (.lt (.v 14) (.c 0)) (.lt (.c 255) (.v 14))))))))))))))))) (.ret [(.c 0), (.c 0), (.c 0), (.c 0), (.c 0), (.c 8)])
(.ite (.le (.sub (.mul (.sub (.v 5) (.v 0)) (.sub (.v 11) (.v 1))) (.mul (.sub (.v 10) (.v 0)) (.sub (.v 6) (.v 1)))) (.c 0)) (.ret [(.c 0), (.c 0), (.c 0), (.c 0), (.c 0), (.c 6)])
(.ite (.or (.or (.lt (.mn (.v 15) (.v 16)) (.c 0)) (.le (.c 64) (.mx (.v 15) (.v 16)))) (.or (.or (.lt (.mn (.v 17) (.v 18)) (.c 0)) (.le (.c 64) (.mx (.v 17) (.v 18)))) (.or (.lt (.v 17) (.v 15)) (.lt (.v 18) (.v 16))))) (.ret [(.c 0), (.c 0), (.c 0), (.c 0), (.c 0), (.c 2)])
(.callp 1 [(.sub (.mn (.mn (.v 0) (.v 5)) (.v 10)) (.c 4)), (.c 8)] (.callp 0 [(.sub (.mx (.mx (.v 0) (.v 5)) (.v 10)) (.c 4)), (.c 8)] (.callp 1 [(.sub (.mn (.mn (.v 1) (.v 6)) (.v 11)) (.c 4)), (.c 8)] (.callp 0 [(.sub (.mx (.mx (.v 1) (.v 6)) (.v 11)) (.c 4)), (.c 8)] (.ite (.or (.lt (.mn (.v 21) (.v 17)) (.mx (.v 19) (.v 15))) (.lt (.mn (.v 25) (.v 18)) (.mx (.v 23) (.v 16)))) (.ret [(.c 0), (.c 0), (.c 0), (.c 0), (.c 0), (.c 0)])
(.ret [(.mx (.v 19) (.v 15)), (.mx (.v 23) (.v 16)), (.mn (.v 21) (.v 17)), (.mn (.v 25) (.v 18)), (.c 1), (.c 0)])))))))))
theorem tree_bounds : merge (opt I_bounds pin_bounds (symFn Try.prog G_bounds 1000 98 [An 15, An 4] [An 4, Bo, I1])) = t_bounds := by kernel_rfl
theorem g_bounds : Gok Try.prog G_bounds := (more ok_floor (one ok_ceil))
theorem o_bounds : outsOK G_bounds I_bounds := (outsOK_cons inf_floor (outsOK_cons inf_ceil outsOK_nil))
def G_rbounds : List Sum := [s_down, s_upw]
def I_rbounds : List Inf := [i_down, i_upw]
def t_rbounds : TX := (.ite (.or (.or (.or (.or (.or (.or (.or (.or (.or (.or (.lt (.v 0) (.c (-131072))) (.lt (.c 131072) (.v 0))) (.lt (.v 1) (.c (-131072)))) (.lt (.c 131072) (.v 1))) (.lt (.v 2) (.c 1))) (.lt (.c 65536) (.v 2))) (.lt (.v 3) (.c 0))) (.lt (.c 255) (.v 3))) (.lt (.v 4) (.c 0))) (.lt (.c 255) (.v 4))) (.or (.or (.or (.or (.or (.or (.or (.or (.or (.or (.lt (.v 5) (.c (-131072))) (.lt (.c 131072) (.v 5))) (.lt (.v 6) (.c (-131072)))) (.lt (.c 131072) (.v 6))) (.lt (.v 7) (.c 1))) (.lt (.c 65536) (.v 7))) (.lt (.v 8) (.c 0))) (.lt (.c 255) (.v 8))) (.lt (.v 9) (.c 0))) (.lt (.c 255) (.v 9))) (.or (.or (.or (.or (.or (.or (.or (.or (.or (.lt (.v 10) (.c (-131072))) (.lt (.c 131072) (.v 10))) (.lt (.v 11) (.c (-131072)))) (.lt (.c 131072) (.v 11))) (.lt (.v 12) (.c 1))) (.lt (.c 65536) (.v 12))) (.lt (.v 13) (.c 0))) (.lt (.c 255) (.v 13))) (.lt (.v 14) (.c 0))) (.lt (.c 255) (.v 14))))) (.ret [(.c 0), (.c 0), (.c 0), (.c 0), (.c 0), (.c 8)])
(.ite (.le (.sub (.mul (.sub (.v 5) (.v 0)) (.sub (.v 11) (.v 1))) (.mul (.sub (.v 10) (.v 0)) (.sub (.v 6) (.v 1)))) (.c 0)) (.ret [(.c 0), (.c 0), (.c 0), (.c 0), (.c 0), (.c 6)])
(.ite (.or (.or (.or (.or (.lt (.v 15) (.c 0)) (.le (.c 64) (.v 15))) (.lt (.v 16) (.c 0))) (.le (.c 64) (.v 16))) (.or (.or (.or (.or (.lt (.v 17) (.c 0)) (.le (.c 64) (.v 17))) (.lt (.v 18) (.c 0))) (.le (.c 64) (.v 18))) (.or (.lt (.v 17) (.v 15)) (.lt (.v 18) (.v 16))))) (.ret [(.c 0), (.c 0), (.c 0), (.c 0), (.c 0), (.c 2)])
(.callp 1 [(.sub (.mn (.mn (.v 0) (.v 5)) (.v 10)) (.c 4)), (.c 8)] (.callp 0 [(.sub (.mx (.mx (.v 0) (.v 5)) (.v 10)) (.c 4)), (.c 8)] (.callp 1 [(.sub (.mn (.mn (.v 1) (.v 6)) (.v 11)) (.c 4)), (.c 8)] (.callp 0 [(.sub (.mx (.mx (.v 1) (.v 6)) (.v 11)) (.c 4)), (.c 8)] (.ite (.or (.lt (.mn (.v 17) (.v 20)) (.mx (.v 15) (.v 19))) (.lt (.mn (.v 18) (.v 22)) (.mx (.v 16) (.v 21)))) (.ret [(.c 0), (.c 0), (.c 0), (.c 0), (.c 0), (.c 0)])
(.ret [(.mx (.v 15) (.v 19)), (.mx (.v 16) (.v 21)), (.mn (.v 17) (.v 20)), (.mn (.v 18) (.v 22)), (.c 1), (.c 0)])))))))))
theorem tree_rbounds : merge (opt I_rbounds pin_rbounds (symFn Try.prog G_rbounds 1000 101 [An 15, An 4] [An 4, Bo, I1])) = t_rbounds := by kernel_rfl
theorem g_rbounds : Gok Try.prog G_rbounds := (more ok_down (one ok_upw))
theorem o_rbounds : outsOK G_rbounds I_rbounds := (outsOK_cons inf_down (outsOK_cons inf_upw outsOK_nil))
set_option maxHeartbeats 4000000 in
theorem ok_bounds : s_bounds.ok Try.prog := Sum.ok_opt facts.mixed g_bounds o_bounds tree_bounds rfl (fun _ => rfl) (by
  intro xs hx hp
  obtain ⟨a0, a1, a2, a3, a4, a5, a6, a7, a8, a9, a10, a11, a12, a13, a14, a15, a16, a17, a18, rfl⟩ := len19 hx
  clear hx hp
  by_cases hc0 : triB [a0, a1, a2, a3, a4, a5, a6, a7, a8, a9, a10, a11, a12, a13, a14, a15, a16, a17, a18] = true
  · have hd0 := hc0
    simp only [triB, Bool.and_eq_true, spotB_true, ewinB, pixB_true, dec_true, TX.sat, XB.prop, X.den, List.map_cons, List.map_nil, List.getElem?_cons_zero, List.getElem?_cons_succ, List.cons_append, List.nil_append, List.getD_cons_zero, List.getD_cons_succ, mkS, mkP, and_true, true_and, Int.not_lt, Int.not_le, not_or, not_and, Classical.not_not, ne_eq, not_true_eq_false, not_false_eq_true, Nat.reduceAdd, Nat.zero_add] at hd0
    by_cases hc1 : 0 < (a5 - a0) * (a11 - a1) - (a10 - a0) * (a6 - a1)
    · by_cases hc2 : ewinB [a0, a1, a2, a3, a4, a5, a6, a7, a8, a9, a10, a11, a12, a13, a14, a15, a16, a17, a18] = true
      · have hd2 := hc2
        simp only [triB, Bool.and_eq_true, spotB_true, ewinB, pixB_true, dec_true, TX.sat, XB.prop, X.den, List.map_cons, List.map_nil, List.getElem?_cons_zero, List.getElem?_cons_succ, List.cons_append, List.nil_append, List.getD_cons_zero, List.getD_cons_succ, mkS, mkP, and_true, true_and, Int.not_lt, Int.not_le, not_or, not_and, Classical.not_not, ne_eq, not_true_eq_false, not_false_eq_true, Nat.reduceAdd, Nat.zero_add] at hd2
        by_cases hc3 : ¬ (min a17 ((max (max a0 a5) a10 - 4) / 8) < max a15 (up (min (min a0 a5) a10 - 4) 8) ∨ min a18 ((max (max a1 a6) a11 - 4) / 8) < max a16 (up (min (min a1 a6) a11 - 4) 8))
        · simp only [t_bounds, G_bounds, s_floor, s_ceil, TX.sat, XB.prop, X.den, List.map_cons, List.map_nil, List.getElem?_cons_zero, List.getElem?_cons_succ, List.cons_append, List.nil_append, List.getD_cons_zero, List.getD_cons_succ, mkS, mkP, and_true, true_and, Int.not_lt, Int.not_le, not_or, not_and, Classical.not_not, ne_eq, not_true_eq_false, not_false_eq_true, sem_floor, sem_ceil, efrontV, twiceV, lowV, highV, sem_bounds, boundsL, hc0, hc1, hc2, hc3, ex6, b01, dec_true, if_true, if_false, reduceIte, Bool.false_eq_true, Nat.reduceAdd, Nat.zero_add]
          refine ⟨fun h => ?_, fun _ => ⟨fun h => ?_, fun _ => ⟨fun h => ?_, fun _ => ?_⟩⟩⟩
          · exfalso; clear hc3 hc1 hd2 hc0 hc2; omega
          · exact absurd hc1 (Int.not_lt.2 h)
          · exfalso; clear hc3 hc1 hd0 hc0 hc2; omega
          · clear hc1 hc0 hc2
            repeat' first | exact trivial | refine And.intro ?_ ?_ | intro _
            all_goals first | trivial | rfl | omega | (simp [Int.max_comm, Int.min_comm]; done) | (simp only [List.cons.injEq, and_true, true_and]; omega) | (split <;> first | trivial | rfl | omega)
        · simp only [t_bounds, G_bounds, s_floor, s_ceil, TX.sat, XB.prop, X.den, List.map_cons, List.map_nil, List.getElem?_cons_zero, List.getElem?_cons_succ, List.cons_append, List.nil_append, List.getD_cons_zero, List.getD_cons_succ, mkS, mkP, and_true, true_and, Int.not_lt, Int.not_le, not_or, not_and, Classical.not_not, ne_eq, not_true_eq_false, not_false_eq_true, sem_floor, sem_ceil, efrontV, twiceV, lowV, highV, sem_bounds, boundsL, hc0, hc1, hc2, hc3, ex6, b01, dec_true, if_true, if_false, reduceIte, Bool.false_eq_true, Nat.reduceAdd, Nat.zero_add]
          refine ⟨fun h => ?_, fun _ => ⟨fun h => ?_, fun _ => ⟨fun h => ?_, fun _ => ?_⟩⟩⟩
          · exfalso; clear hc3 hc1 hd2 hc0 hc2; omega
          · exact absurd hc1 (Int.not_lt.2 h)
          · exfalso; clear hc3 hc1 hd0 hc0 hc2; omega
          · clear hc1 hc0 hc2
            repeat' first | exact trivial | refine And.intro ?_ ?_ | intro _
            all_goals first | trivial | rfl | omega | (simp [Int.max_comm, Int.min_comm]; done) | (simp only [List.cons.injEq, and_true, true_and]; omega) | (split <;> first | trivial | rfl | omega)
      · simp only [t_bounds, G_bounds, s_floor, s_ceil, TX.sat, XB.prop, X.den, List.map_cons, List.map_nil, List.getElem?_cons_zero, List.getElem?_cons_succ, List.cons_append, List.nil_append, List.getD_cons_zero, List.getD_cons_succ, mkS, mkP, and_true, true_and, Int.not_lt, Int.not_le, not_or, not_and, Classical.not_not, ne_eq, not_true_eq_false, not_false_eq_true, sem_floor, sem_ceil, efrontV, twiceV, lowV, highV, sem_bounds, boundsL, hc0, hc1, hc2, ex6, b01, dec_true, if_true, if_false, reduceIte, Bool.false_eq_true, Nat.reduceAdd, Nat.zero_add]
        refine ⟨fun h => ?_, fun _ => ⟨fun h => ?_, fun _ => ⟨fun h => by first | trivial | rfl, fun h => ?_⟩⟩⟩
        · exfalso; clear hc1 hc0 hc2; omega
        · exact absurd hc1 (Int.not_lt.2 h)
        · exfalso
          refine hc2 ?_
          clear hc1 hd0 hc0 hc2
          simp only [triB, Bool.and_eq_true, spotB_true, ewinB, pixB_true, dec_true, TX.sat, XB.prop, X.den, List.map_cons, List.map_nil, List.getElem?_cons_zero, List.getElem?_cons_succ, List.cons_append, List.nil_append, List.getD_cons_zero, List.getD_cons_succ, mkS, mkP, and_true, true_and, Int.not_lt, Int.not_le, not_or, not_and, Classical.not_not, ne_eq, not_true_eq_false, not_false_eq_true, Nat.reduceAdd, Nat.zero_add]
          omega
    · simp only [t_bounds, G_bounds, s_floor, s_ceil, TX.sat, XB.prop, X.den, List.map_cons, List.map_nil, List.getElem?_cons_zero, List.getElem?_cons_succ, List.cons_append, List.nil_append, List.getD_cons_zero, List.getD_cons_succ, mkS, mkP, and_true, true_and, Int.not_lt, Int.not_le, not_or, not_and, Classical.not_not, ne_eq, not_true_eq_false, not_false_eq_true, sem_floor, sem_ceil, efrontV, twiceV, lowV, highV, sem_bounds, boundsL, hc0, hc1, ex6, b01, dec_true, if_true, if_false, reduceIte, Bool.false_eq_true, Nat.reduceAdd, Nat.zero_add]
      refine ⟨fun h => ?_, fun _ => ⟨fun h => by first | trivial | rfl, fun h => ?_⟩⟩
      · exfalso; clear hc1 hc0; omega
      · first | exact h.elim | exact absurd h hc1
  · simp only [t_bounds, G_bounds, s_floor, s_ceil, TX.sat, XB.prop, X.den, List.map_cons, List.map_nil, List.getElem?_cons_zero, List.getElem?_cons_succ, List.cons_append, List.nil_append, List.getD_cons_zero, List.getD_cons_succ, mkS, mkP, and_true, true_and, Int.not_lt, Int.not_le, not_or, not_and, Classical.not_not, ne_eq, not_true_eq_false, not_false_eq_true, sem_floor, sem_ceil, efrontV, twiceV, lowV, highV, sem_bounds, boundsL, hc0, ex6, b01, dec_true, if_true, if_false, reduceIte, Bool.false_eq_true, Nat.reduceAdd, Nat.zero_add]
    refine ⟨fun h => by first | trivial | rfl, fun h => ?_⟩
    exfalso
    refine hc0 ?_
    clear hc0
    simp only [triB, Bool.and_eq_true, spotB_true, ewinB, pixB_true, dec_true, TX.sat, XB.prop, X.den, List.map_cons, List.map_nil, List.getElem?_cons_zero, List.getElem?_cons_succ, List.cons_append, List.nil_append, List.getD_cons_zero, List.getD_cons_succ, mkS, mkP, and_true, true_and, Int.not_lt, Int.not_le, not_or, not_and, Classical.not_not, ne_eq, not_true_eq_false, not_false_eq_true, Nat.reduceAdd, Nat.zero_add]
    omega)
set_option maxHeartbeats 4000000 in
theorem ok_rbounds : s_rbounds.ok Try.prog := Sum.ok_opt facts.mixed g_rbounds o_rbounds tree_rbounds rfl (fun _ => rfl) (by
  intro xs hx hp
  obtain ⟨a0, a1, a2, a3, a4, a5, a6, a7, a8, a9, a10, a11, a12, a13, a14, a15, a16, a17, a18, rfl⟩ := len19 hx
  clear hx hp
  by_cases hc0 : triB [a0, a1, a2, a3, a4, a5, a6, a7, a8, a9, a10, a11, a12, a13, a14, a15, a16, a17, a18] = true
  · have hd0 := hc0
    simp only [triB, Bool.and_eq_true, spotB_true, ewinB, pixB_true, dec_true, TX.sat, XB.prop, X.den, List.map_cons, List.map_nil, List.getElem?_cons_zero, List.getElem?_cons_succ, List.cons_append, List.nil_append, List.getD_cons_zero, List.getD_cons_succ, mkS, mkP, and_true, true_and, Int.not_lt, Int.not_le, not_or, not_and, Classical.not_not, ne_eq, not_true_eq_false, not_false_eq_true, Nat.reduceAdd, Nat.zero_add] at hd0
    by_cases hc1 : 0 < (a5 - a0) * (a11 - a1) - (a10 - a0) * (a6 - a1)
    · by_cases hc2 : ewinB [a0, a1, a2, a3, a4, a5, a6, a7, a8, a9, a10, a11, a12, a13, a14, a15, a16, a17, a18] = true
      · have hd2 := hc2
        simp only [triB, Bool.and_eq_true, spotB_true, ewinB, pixB_true, dec_true, TX.sat, XB.prop, X.den, List.map_cons, List.map_nil, List.getElem?_cons_zero, List.getElem?_cons_succ, List.cons_append, List.nil_append, List.getD_cons_zero, List.getD_cons_succ, mkS, mkP, and_true, true_and, Int.not_lt, Int.not_le, not_or, not_and, Classical.not_not, ne_eq, not_true_eq_false, not_false_eq_true, Nat.reduceAdd, Nat.zero_add] at hd2
        by_cases hc3 : ¬ (min a17 ((max (max a0 a5) a10 - 4) / 8) < max a15 (up (min (min a0 a5) a10 - 4) 8) ∨ min a18 ((max (max a1 a6) a11 - 4) / 8) < max a16 (up (min (min a1 a6) a11 - 4) 8))
        · simp only [t_rbounds, G_rbounds, s_down, s_upw, TX.sat, XB.prop, X.den, List.map_cons, List.map_nil, List.getElem?_cons_zero, List.getElem?_cons_succ, List.cons_append, List.nil_append, List.getD_cons_zero, List.getD_cons_succ, mkS, mkP, and_true, true_and, Int.not_lt, Int.not_le, not_or, not_and, Classical.not_not, ne_eq, not_true_eq_false, not_false_eq_true, sem_down, sem_upw, sem_bounds, efrontV, twiceV, lowV, highV, sem_rbounds, boundsL, hc0, hc1, hc2, hc3, ex6, b01, dec_true, if_true, if_false, reduceIte, Bool.false_eq_true, Nat.reduceAdd, Nat.zero_add]
          refine ⟨fun h => ?_, fun _ => ⟨fun h => ?_, fun _ => ⟨fun h => ?_, fun _ => ?_⟩⟩⟩
          · exfalso; clear hc3 hc1 hd2 hc0 hc2; omega
          · exact absurd hc1 (Int.not_lt.2 h)
          · exfalso; clear hc3 hc1 hd0 hc0 hc2; omega
          · clear hc1 hc0 hc2
            repeat' first | exact trivial | refine And.intro ?_ ?_ | intro _
            all_goals first | trivial | rfl | omega | (simp [Int.max_comm, Int.min_comm]; done) | (simp only [List.cons.injEq, and_true, true_and]; omega) | (split <;> first | trivial | rfl | omega)
        · simp only [t_rbounds, G_rbounds, s_down, s_upw, TX.sat, XB.prop, X.den, List.map_cons, List.map_nil, List.getElem?_cons_zero, List.getElem?_cons_succ, List.cons_append, List.nil_append, List.getD_cons_zero, List.getD_cons_succ, mkS, mkP, and_true, true_and, Int.not_lt, Int.not_le, not_or, not_and, Classical.not_not, ne_eq, not_true_eq_false, not_false_eq_true, sem_down, sem_upw, sem_bounds, efrontV, twiceV, lowV, highV, sem_rbounds, boundsL, hc0, hc1, hc2, hc3, ex6, b01, dec_true, if_true, if_false, reduceIte, Bool.false_eq_true, Nat.reduceAdd, Nat.zero_add]
          refine ⟨fun h => ?_, fun _ => ⟨fun h => ?_, fun _ => ⟨fun h => ?_, fun _ => ?_⟩⟩⟩
          · exfalso; clear hc3 hc1 hd2 hc0 hc2; omega
          · exact absurd hc1 (Int.not_lt.2 h)
          · exfalso; clear hc3 hc1 hd0 hc0 hc2; omega
          · clear hc1 hc0 hc2
            repeat' first | exact trivial | refine And.intro ?_ ?_ | intro _
            all_goals first | trivial | rfl | omega | (simp [Int.max_comm, Int.min_comm]; done) | (simp only [List.cons.injEq, and_true, true_and]; omega) | (split <;> first | trivial | rfl | omega)
      · simp only [t_rbounds, G_rbounds, s_down, s_upw, TX.sat, XB.prop, X.den, List.map_cons, List.map_nil, List.getElem?_cons_zero, List.getElem?_cons_succ, List.cons_append, List.nil_append, List.getD_cons_zero, List.getD_cons_succ, mkS, mkP, and_true, true_and, Int.not_lt, Int.not_le, not_or, not_and, Classical.not_not, ne_eq, not_true_eq_false, not_false_eq_true, sem_down, sem_upw, sem_bounds, efrontV, twiceV, lowV, highV, sem_rbounds, boundsL, hc0, hc1, hc2, ex6, b01, dec_true, if_true, if_false, reduceIte, Bool.false_eq_true, Nat.reduceAdd, Nat.zero_add]
        refine ⟨fun h => ?_, fun _ => ⟨fun h => ?_, fun _ => ⟨fun h => by first | trivial | rfl, fun h => ?_⟩⟩⟩
        · exfalso; clear hc1 hc0 hc2; omega
        · exact absurd hc1 (Int.not_lt.2 h)
        · exfalso
          refine hc2 ?_
          clear hc1 hd0 hc0 hc2
          simp only [triB, Bool.and_eq_true, spotB_true, ewinB, pixB_true, dec_true, TX.sat, XB.prop, X.den, List.map_cons, List.map_nil, List.getElem?_cons_zero, List.getElem?_cons_succ, List.cons_append, List.nil_append, List.getD_cons_zero, List.getD_cons_succ, mkS, mkP, and_true, true_and, Int.not_lt, Int.not_le, not_or, not_and, Classical.not_not, ne_eq, not_true_eq_false, not_false_eq_true, Nat.reduceAdd, Nat.zero_add]
          omega
    · simp only [t_rbounds, G_rbounds, s_down, s_upw, TX.sat, XB.prop, X.den, List.map_cons, List.map_nil, List.getElem?_cons_zero, List.getElem?_cons_succ, List.cons_append, List.nil_append, List.getD_cons_zero, List.getD_cons_succ, mkS, mkP, and_true, true_and, Int.not_lt, Int.not_le, not_or, not_and, Classical.not_not, ne_eq, not_true_eq_false, not_false_eq_true, sem_down, sem_upw, sem_bounds, efrontV, twiceV, lowV, highV, sem_rbounds, boundsL, hc0, hc1, ex6, b01, dec_true, if_true, if_false, reduceIte, Bool.false_eq_true, Nat.reduceAdd, Nat.zero_add]
      refine ⟨fun h => ?_, fun _ => ⟨fun h => by first | trivial | rfl, fun h => ?_⟩⟩
      · exfalso; clear hc1 hc0; omega
      · first | exact h.elim | exact absurd h hc1
  · simp only [t_rbounds, G_rbounds, s_down, s_upw, TX.sat, XB.prop, X.den, List.map_cons, List.map_nil, List.getElem?_cons_zero, List.getElem?_cons_succ, List.cons_append, List.nil_append, List.getD_cons_zero, List.getD_cons_succ, mkS, mkP, and_true, true_and, Int.not_lt, Int.not_le, not_or, not_and, Classical.not_not, ne_eq, not_true_eq_false, not_false_eq_true, sem_down, sem_upw, sem_bounds, efrontV, twiceV, lowV, highV, sem_rbounds, boundsL, hc0, ex6, b01, dec_true, if_true, if_false, reduceIte, Bool.false_eq_true, Nat.reduceAdd, Nat.zero_add]
    refine ⟨fun h => by first | trivial | rfl, fun h => ?_⟩
    exfalso
    refine hc0 ?_
    clear hc0
    simp only [triB, Bool.and_eq_true, spotB_true, ewinB, pixB_true, dec_true, TX.sat, XB.prop, X.den, List.map_cons, List.map_nil, List.getElem?_cons_zero, List.getElem?_cons_succ, List.cons_append, List.nil_append, List.getD_cons_zero, List.getD_cons_succ, mkS, mkP, and_true, true_and, Int.not_lt, Int.not_le, not_or, not_and, Classical.not_not, ne_eq, not_true_eq_false, not_false_eq_true, Nat.reduceAdd, Nat.zero_add]
    omega)
theorem bnd_e {e : Int} (h1 : 0 ≤ e) (h2 : e ≤ 8) : vsOK (out_bounds []) (ex6 [0, 0, 0, 0, 0, e]) :=
  vsOK_cons (iv_def.2 (by simp)) (vsOK_cons (iv_def.2 (by simp)) (vsOK_cons (iv_def.2 (by simp)) (vsOK_cons (iv_def.2 (by simp)) (vsOK_cons (iv_def.2 (by simp)) (vsOK_cons ⟨h1, h2⟩ vsOK_nil)))))
theorem inf_bounds : InfOK s_bounds i_bounds := ⟨fun _ h => h, fun vs xs h hp => by
  show vsOK (out_bounds []) (ex6 (boundsL xs))
  have h8 : 0 ≤ efrontV xs ∧ efrontV xs ≤ 8 := by unfold efrontV; split; split <;> simp; simp
  unfold boundsL
  split
  · split
    · rename_i hw
      simp only [ewinB, Bool.and_eq_true, pixB_true, dec_true, Nat.reduceAdd] at hw
      split
      · exact bnd_e (by omega) (by omega)
      · rename_i hn
        have a1 : xs.getD 15 0 ≤ lowV xs 0 15 := by unfold lowV; omega
        have a2 : xs.getD 16 0 ≤ lowV xs 1 16 := by unfold lowV; omega
        have a3 : highV xs 0 17 ≤ xs.getD 17 0 := by unfold highV; omega
        have a4 : highV xs 1 18 ≤ xs.getD 18 0 := by unfold highV; omega
        exact vsOK_cons ⟨by show 0 ≤ lowV xs 0 15; omega, by show lowV xs 0 15 ≤ 63; omega⟩ (vsOK_cons ⟨by show 0 ≤ lowV xs 1 16; omega, by show lowV xs 1 16 ≤ 63; omega⟩ (vsOK_cons ⟨by show 0 ≤ highV xs 0 17; omega, by show highV xs 0 17 ≤ 63; omega⟩ (vsOK_cons ⟨by show 0 ≤ highV xs 1 18; omega, by show highV xs 1 18 ≤ 63; omega⟩ (vsOK_cons (iv_def.2 (by simp)) (vsOK_cons (iv_def.2 (by simp)) vsOK_nil)))))
    · exact bnd_e (by omega) (by omega)
  · exact bnd_e h8.1 h8.2⟩
theorem inf_rbounds : InfOK s_rbounds i_rbounds := inf_bounds
end Go.Proofs.Ytlgcjkolakcfiaa.fix
