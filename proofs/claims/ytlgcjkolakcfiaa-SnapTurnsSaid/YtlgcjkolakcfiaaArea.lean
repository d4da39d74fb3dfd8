/-
  What the functions on triangles of spots come to.
-/
import Derived.Test.YtlgcjkolakcfiaaSnap
set_option linter.unusedVariables false
set_option linter.unusedSimpArgs false
namespace Go.Proofs.Ytlgcjkolakcfiaa.fix
open Go.RowKit Go.Sx

def G_rall : List Sum := []
def I_rall : List Inf := []
def t_rall : TX := (.ite (.or (.or (.or (.or (.or (.or (.or (.or (.or (.or (.lt (.v 0) (.c (-131072))) (.lt (.c 131072) (.v 0))) (.lt (.v 1) (.c (-131072)))) (.lt (.c 131072) (.v 1))) (.lt (.v 2) (.c 1))) (.lt (.c 65536) (.v 2))) (.lt (.v 3) (.c 0))) (.lt (.c 255) (.v 3))) (.lt (.v 4) (.c 0))) (.lt (.c 255) (.v 4))) (.or (.or (.or (.or (.or (.or (.or (.or (.or (.lt (.v 5) (.c (-131072))) (.lt (.c 131072) (.v 5))) (.lt (.v 6) (.c (-131072)))) (.lt (.c 131072) (.v 6))) (.lt (.v 7) (.c 1))) (.lt (.c 65536) (.v 7))) (.lt (.v 8) (.c 0))) (.lt (.c 255) (.v 8))) (.lt (.v 9) (.c 0))) (.lt (.c 255) (.v 9)))) (.ret [(.c 0)])
(.ite (.and (.and (.and (.and (.and (.and (.and (.and (.and (.le (.c (-131072)) (.v 10)) (.le (.v 10) (.c 131072))) (.le (.c (-131072)) (.v 11))) (.le (.v 11) (.c 131072))) (.le (.c 1) (.v 12))) (.le (.v 12) (.c 65536))) (.le (.c 0) (.v 13))) (.le (.v 13) (.c 255))) (.le (.c 0) (.v 14))) (.le (.v 14) (.c 255))) (.ret [(.c 1)])
(.ret [(.c 0)])))
theorem tree_rall : merge (opt I_rall pin_rall (symFn Try.prog G_rall 1000 105 [An 15] [Bo])) = t_rall := by kernel_rfl
theorem g_rall : Gok Try.prog G_rall := noG
theorem o_rall : outsOK G_rall I_rall := outsOK_nil
theorem ok_rall : s_rall.ok Try.prog := Sum.ok_opt facts.mixed g_rall o_rall tree_rall rfl (fun _ => rfl) (by
  intro xs hx hp
  obtain ⟨a0, a1, a2, a3, a4, a5, a6, a7, a8, a9, a10, a11, a12, a13, a14, rfl⟩ := len15 hx
  by_cases hc0 : triB [a0, a1, a2, a3, a4, a5, a6, a7, a8, a9, a10, a11, a12, a13, a14] = true
  · have hd0 := hc0
    try simp only [triB, Bool.and_eq_true, spotB_true, TX.sat, XB.prop, X.den, List.map_cons, List.map_nil, List.getElem?_cons_zero, List.getElem?_cons_succ, List.cons_append, List.nil_append, List.getD_cons_zero, List.getD_cons_succ, mkS, mkP, and_true, true_and, Int.not_lt, Int.not_le, not_or, not_and, Classical.not_not, ne_eq, not_true_eq_false, not_false_eq_true, Nat.reduceAdd, Nat.zero_add] at hd0
    simp only [t_rall, G_rall, TX.sat, XB.prop, X.den, List.map_cons, List.map_nil, List.getElem?_cons_zero, List.getElem?_cons_succ, List.cons_append, List.nil_append, List.getD_cons_zero, List.getD_cons_succ, mkS, mkP, and_true, true_and, Int.not_lt, Int.not_le, not_or, not_and, Classical.not_not, ne_eq, not_true_eq_false, not_false_eq_true, sem_rall, hc0, ex3, ex4, ex5, ex6, ex13, ex16, er, b01, dec_true, if_true, if_false, reduceIte, Bool.false_eq_true, Nat.reduceAdd, Nat.zero_add]
    clear hc0
    repeat' first | exact trivial | refine And.intro ?_ ?_ | intro _
    all_goals first | trivial | rfl | omega | (simp [Int.max_comm, Int.min_comm]; done) | (simp only [List.cons.injEq, and_true, true_and]; omega) | (split <;> first | trivial | rfl | omega)
  · have hd0 := hc0
    try simp only [triB, Bool.and_eq_true, spotB_true, TX.sat, XB.prop, X.den, List.map_cons, List.map_nil, List.getElem?_cons_zero, List.getElem?_cons_succ, List.cons_append, List.nil_append, List.getD_cons_zero, List.getD_cons_succ, mkS, mkP, and_true, true_and, Int.not_lt, Int.not_le, not_or, not_and, Classical.not_not, ne_eq, not_true_eq_false, not_false_eq_true, Nat.reduceAdd, Nat.zero_add] at hd0
    simp only [t_rall, G_rall, TX.sat, XB.prop, X.den, List.map_cons, List.map_nil, List.getElem?_cons_zero, List.getElem?_cons_succ, List.cons_append, List.nil_append, List.getD_cons_zero, List.getD_cons_succ, mkS, mkP, and_true, true_and, Int.not_lt, Int.not_le, not_or, not_and, Classical.not_not, ne_eq, not_true_eq_false, not_false_eq_true, sem_rall, hc0, ex3, ex4, ex5, ex6, ex13, ex16, er, b01, dec_true, if_true, if_false, reduceIte, Bool.false_eq_true, Nat.reduceAdd, Nat.zero_add]
    clear hc0
    repeat' first | exact trivial | refine And.intro ?_ ?_ | intro _
    all_goals first | trivial | rfl | omega | (simp [Int.max_comm, Int.min_comm]; done) | (simp only [List.cons.injEq, and_true, true_and]; omega) | (split <;> first | trivial | rfl | omega))
theorem inf_rall : InfOK s_rall i_rall := ⟨fun _ h => h, fun vs xs h hp => vsOK_cons (b01_iv _) vsOK_nil⟩
def G_area : List Sum := []
def I_area : List Inf := []
def t_area : TX := (.ite (.or (.or (.lt (.v 0) (.c (-131072))) (.lt (.c 131072) (.v 0))) (.or (.or (.lt (.v 1) (.c (-131072))) (.lt (.c 131072) (.v 1))) (.or (.or (.lt (.v 2) (.c 1)) (.lt (.c 65536) (.v 2))) (.or (.or (.lt (.v 3) (.c 0)) (.lt (.c 255) (.v 3))) (.or (.or (.lt (.v 4) (.c 0)) (.lt (.c 255) (.v 4))) (.or (.or (.lt (.v 5) (.c (-131072))) (.lt (.c 131072) (.v 5))) (.or (.or (.lt (.v 6) (.c (-131072))) (.lt (.c 131072) (.v 6))) (.or (.or (.lt (.v 7) (.c 1)) (.lt (.c 65536) (.v 7))) (.or (.or (.lt (.v 8) (.c 0)) (.lt (.c 255) (.v 8))) (.or (.or (.lt (.v 9) (.c 0)) (.lt (.c 255) (.v 9))) (.or (.or (.lt (.v 10) (.c (-131072))) (.lt (.c 131072) (.v 10))) (.or (.or (.lt (.v 11) (.c (-131072))) (.lt (.c 131072) (.v 11))) (.or (.or (.lt (.v 12) (.c 1)) (.lt (.c 65536) (.v 12))) (.or (.or (.lt (.v 13) (.c 0)) (.lt (.c 255) (.v 13))) (.or (.lt (.v 14) (.c 0)) (.lt (.c 255) (.v 14))))))))))))))))) (.ret [(.c 0), (.c 8)])
(.ret [(.sub (.mul (.sub (.v 5) (.v 0)) (.sub (.v 11) (.v 1))) (.mul (.sub (.v 10) (.v 0)) (.sub (.v 6) (.v 1)))), (.c 0)]))
theorem tree_area : merge (opt I_area pin_area (symFn Try.prog G_area 1000 38 [An 15] [I1, I1])) = t_area := by kernel_rfl
theorem g_area : Gok Try.prog G_area := noG
theorem o_area : outsOK G_area I_area := outsOK_nil
def G_twice : List Sum := []
def I_twice : List Inf := []
def t_twice : TX := (.ret [(.sub (.mul (.sub (.v 5) (.v 0)) (.sub (.v 11) (.v 1))) (.mul (.sub (.v 10) (.v 0)) (.sub (.v 6) (.v 1))))])
theorem tree_twice : merge (opt I_twice pin_twice (symFn Try.prog G_twice 1000 106 [An 15] [I1])) = t_twice := by kernel_rfl
theorem g_twice : Gok Try.prog G_twice := noG
theorem o_twice : outsOK G_twice I_twice := outsOK_nil
theorem ok_area : s_area.ok Try.prog := Sum.ok_opt facts.mixed g_area o_area tree_area rfl (fun _ => rfl) (by
  intro xs hx hp
  obtain ⟨a0, a1, a2, a3, a4, a5, a6, a7, a8, a9, a10, a11, a12, a13, a14, rfl⟩ := len15 hx
  by_cases hc0 : triB [a0, a1, a2, a3, a4, a5, a6, a7, a8, a9, a10, a11, a12, a13, a14] = true
  · have hd0 := hc0
    try simp only [triB, Bool.and_eq_true, spotB_true, TX.sat, XB.prop, X.den, List.map_cons, List.map_nil, List.getElem?_cons_zero, List.getElem?_cons_succ, List.cons_append, List.nil_append, List.getD_cons_zero, List.getD_cons_succ, mkS, mkP, and_true, true_and, Int.not_lt, Int.not_le, not_or, not_and, Classical.not_not, ne_eq, not_true_eq_false, not_false_eq_true, Nat.reduceAdd, Nat.zero_add] at hd0
    simp only [t_area, G_area, TX.sat, XB.prop, X.den, List.map_cons, List.map_nil, List.getElem?_cons_zero, List.getElem?_cons_succ, List.cons_append, List.nil_append, List.getD_cons_zero, List.getD_cons_succ, mkS, mkP, and_true, true_and, Int.not_lt, Int.not_le, not_or, not_and, Classical.not_not, ne_eq, not_true_eq_false, not_false_eq_true, twiceV, sem_area, areaL, hc0, ex3, ex4, ex5, ex6, ex13, ex16, er, b01, dec_true, if_true, if_false, reduceIte, Bool.false_eq_true, Nat.reduceAdd, Nat.zero_add]
    clear hc0
    repeat' first | exact trivial | refine And.intro ?_ ?_ | intro _
    all_goals first | trivial | rfl | omega | (simp [Int.max_comm, Int.min_comm]; done) | (simp only [List.cons.injEq, and_true, true_and]; omega) | (split <;> first | trivial | rfl | omega)
  · have hd0 := hc0
    try simp only [triB, Bool.and_eq_true, spotB_true, TX.sat, XB.prop, X.den, List.map_cons, List.map_nil, List.getElem?_cons_zero, List.getElem?_cons_succ, List.cons_append, List.nil_append, List.getD_cons_zero, List.getD_cons_succ, mkS, mkP, and_true, true_and, Int.not_lt, Int.not_le, not_or, not_and, Classical.not_not, ne_eq, not_true_eq_false, not_false_eq_true, Nat.reduceAdd, Nat.zero_add] at hd0
    simp only [t_area, G_area, TX.sat, XB.prop, X.den, List.map_cons, List.map_nil, List.getElem?_cons_zero, List.getElem?_cons_succ, List.cons_append, List.nil_append, List.getD_cons_zero, List.getD_cons_succ, mkS, mkP, and_true, true_and, Int.not_lt, Int.not_le, not_or, not_and, Classical.not_not, ne_eq, not_true_eq_false, not_false_eq_true, twiceV, sem_area, areaL, hc0, ex3, ex4, ex5, ex6, ex13, ex16, er, b01, dec_true, if_true, if_false, reduceIte, Bool.false_eq_true, Nat.reduceAdd, Nat.zero_add]
    clear hc0
    repeat' first | exact trivial | refine And.intro ?_ ?_ | intro _
    all_goals first | trivial | rfl | omega | (simp [Int.max_comm, Int.min_comm]; done) | (simp only [List.cons.injEq, and_true, true_and]; omega) | (split <;> first | trivial | rfl | omega))
theorem ok_twice : s_twice.ok Try.prog := Sum.ok_opt facts.mixed g_twice o_twice tree_twice rfl (fun _ => rfl) (by
  intro xs hx hp
  obtain ⟨a0, a1, a2, a3, a4, a5, a6, a7, a8, a9, a10, a11, a12, a13, a14, rfl⟩ := len15 hx
  simp only [t_twice, G_twice, TX.sat, XB.prop, X.den, List.map_cons, List.map_nil, List.getElem?_cons_zero, List.getElem?_cons_succ, List.cons_append, List.nil_append, List.getD_cons_zero, List.getD_cons_succ, mkS, mkP, and_true, true_and, Int.not_lt, Int.not_le, not_or, not_and, Classical.not_not, ne_eq, not_true_eq_false, not_false_eq_true, twiceV, sem_twice, ex3, ex4, ex5, ex6, ex13, ex16, er, b01, dec_true, if_true, if_false, reduceIte, Bool.false_eq_true, Nat.reduceAdd, Nat.zero_add]
  repeat' first | exact trivial | refine And.intro ?_ ?_ | intro _
  all_goals first | trivial | rfl | omega | (simp [Int.max_comm, Int.min_comm]; done) | (simp only [List.cons.injEq, and_true, true_and]; omega) | (split <;> first | trivial | rfl | omega))
theorem twice_in {x : List Int} (h : triB x = true) : -137438953472 ≤ twiceV x ∧ twiceV x ≤ 137438953472 := by
  simp only [triB, Bool.and_eq_true, spotB_true, Nat.reduceAdd, Nat.zero_add] at h
  have k1 := mul_abs_le (x := x.getD 5 0 - x.getD 0 0) (y := x.getD 11 0 - x.getD 1 0) (m := 262144) (n := 262144) (by omega) (by omega)
  have k2 := mul_abs_le (x := x.getD 10 0 - x.getD 0 0) (y := x.getD 6 0 - x.getD 1 0) (m := 262144) (n := 262144) (by omega) (by omega)
  unfold twiceV
  omega
theorem inf_area : InfOK s_area i_area := ⟨fun _ h => h, fun vs xs h hp => by
  show vsOK [iv (-137438953472) 137438953472, iv 0 8] [(areaL xs).getD 0 0, (areaL xs).getD 1 0]
  unfold areaL
  split
  · rename_i hc
    exact vsOK_cons (iv_def.2 (twice_in hc)) (vsOK_cons (iv_def.2 (by simp)) vsOK_nil)
  · exact vsOK_cons (iv_def.2 (by simp)) (vsOK_cons (iv_def.2 (by simp)) vsOK_nil)⟩
theorem pin_tri {x : List Int} (h : vsOK pin_twice x) : triB x = true := by
  have g : ∀ i, ivHas (pin_twice.getD i none) (x.getD i 0) := h.2
  simp only [triB, Bool.and_eq_true, spotB_true, Nat.reduceAdd, Nat.zero_add]
  exact ⟨⟨g 0, g 1, g 2, g 3, g 4⟩, ⟨g 5, g 6, g 7, g 8, g 9⟩, ⟨g 10, g 11, g 12, g 13, g 14⟩⟩
theorem tri_pin {a0 a1 a2 a3 a4 a5 a6 a7 a8 a9 a10 a11 a12 a13 a14 : Int} (h : triB [a0, a1, a2, a3, a4, a5, a6, a7, a8, a9, a10, a11, a12, a13, a14] = true) : vsOK pin_twice [a0, a1, a2, a3, a4, a5, a6, a7, a8, a9, a10, a11, a12, a13, a14] := by
  simp only [triB, Bool.and_eq_true, spotB_true, TX.sat, XB.prop, X.den, List.map_cons, List.map_nil, List.getElem?_cons_zero, List.getElem?_cons_succ, List.cons_append, List.nil_append, List.getD_cons_zero, List.getD_cons_succ, mkS, mkP, and_true, true_and, Int.not_lt, Int.not_le, not_or, not_and, Classical.not_not, ne_eq, not_true_eq_false, not_false_eq_true, Nat.reduceAdd, Nat.zero_add] at h
  obtain ⟨⟨h0, h1, h2, h3, h4⟩, ⟨h5, h6, h7, h8, h9⟩, h10, h11, h12, h13, h14⟩ := h
  exact vsOK_cons h0 (vsOK_cons h1 (vsOK_cons h2 (vsOK_cons h3 (vsOK_cons h4 (vsOK_cons h5 (vsOK_cons h6 (vsOK_cons h7 (vsOK_cons h8 (vsOK_cons h9 (vsOK_cons h10 (vsOK_cons h11 (vsOK_cons h12 (vsOK_cons h13 (vsOK_cons h14 vsOK_nil))))))))))))))
theorem inf_twice : InfOK s_twice i_twice := ⟨fun _ h => h, fun vs xs h hp => vsOK_cons (iv_def.2 (twice_in (pin_tri hp))) vsOK_nil⟩
def G_rarea : List Sum := [s_rall, s_twice]
def I_rarea : List Inf := [i_rall, i_twice]
def t_rarea : TX := (.callp 0 [(.v 0), (.v 1), (.v 2), (.v 3), (.v 4), (.v 5), (.v 6), (.v 7), (.v 8), (.v 9), (.v 10), (.v 11), (.v 12), (.v 13), (.v 14)] (.ite (.eq (.v 15) (.c 0)) (.ret [(.c 0), (.c 8)])
(.call 1 [(.v 0), (.v 1), (.v 2), (.v 3), (.v 4), (.v 5), (.v 6), (.v 7), (.v 8), (.v 9), (.v 10), (.v 11), (.v 12), (.v 13), (.v 14)] (.ret [(.v 16), (.c 0)]))))
theorem tree_rarea : merge (opt I_rarea pin_rarea (symFn Try.prog G_rarea 1000 39 [An 15] [I1, I1])) = t_rarea := by kernel_rfl
theorem g_rarea : Gok Try.prog G_rarea := (more ok_rall (one ok_twice))
theorem o_rarea : outsOK G_rarea I_rarea := (outsOK_cons inf_rall (outsOK_cons inf_twice outsOK_nil))
theorem ok_rarea : s_rarea.ok Try.prog := Sum.ok_opt facts.mixed g_rarea o_rarea tree_rarea rfl (fun _ => rfl) (by
  intro xs hx hp
  obtain ⟨a0, a1, a2, a3, a4, a5, a6, a7, a8, a9, a10, a11, a12, a13, a14, rfl⟩ := len15 hx
  cases h : triB [a0, a1, a2, a3, a4, a5, a6, a7, a8, a9, a10, a11, a12, a13, a14] with
  | true =>
    have hq := tri_pin h
    simp only [t_rarea, G_rarea, s_rall, s_twice, TX.sat, XB.prop, X.den, List.map_cons, List.map_nil, List.getElem?_cons_zero, List.getElem?_cons_succ, List.cons_append, List.nil_append, List.getD_cons_zero, List.getD_cons_succ, mkS, mkP, and_true, true_and, Int.not_lt, Int.not_le, not_or, not_and, Classical.not_not, ne_eq, not_true_eq_false, not_false_eq_true, sem_rall, sem_twice, sem_rarea, sem_area, areaL, h]
    simp [hq, b01]
  | false =>
    simp only [t_rarea, G_rarea, s_rall, s_twice, TX.sat, XB.prop, X.den, List.map_cons, List.map_nil, List.getElem?_cons_zero, List.getElem?_cons_succ, List.cons_append, List.nil_append, List.getD_cons_zero, List.getD_cons_succ, mkS, mkP, and_true, true_and, Int.not_lt, Int.not_le, not_or, not_and, Classical.not_not, ne_eq, not_true_eq_false, not_false_eq_true, sem_rall, sem_twice, sem_rarea, sem_area, areaL, h]
    simp [b01])
theorem inf_rarea : InfOK s_rarea i_rarea := inf_area
def G_shows : List Sum := [s_area]
def I_shows : List Inf := [i_area]
def t_shows : TX := (.callp 0 [(.v 0), (.v 1), (.v 2), (.v 3), (.v 4), (.v 5), (.v 6), (.v 7), (.v 8), (.v 9), (.v 10), (.v 11), (.v 12), (.v 13), (.v 14)] (.ite (.not (.eq (.v 17) (.c 0))) (.ret [(.c 0), (.v 17)])
(.ite (.eq (.v 15) (.c 0)) (.ite (.not (.eq (.v 16) (.c 0))) (.ret [(.c 1), (.c 0)])
(.ret [(.c 0), (.c 0)]))
(.ite (.eq (.v 15) (.c 1)) (.ite (.lt (.c 0) (.v 16)) (.ret [(.c 1), (.c 0)])
(.ret [(.c 0), (.c 0)]))
(.ite (.not (.eq (.v 15) (.c 2))) (.ret [(.c 0), (.c 2)])
(.ite (.lt (.v 16) (.c 0)) (.ret [(.c 1), (.c 0)])
(.ret [(.c 0), (.c 0)])))))))
theorem tree_shows : merge (opt I_shows pin_shows (symFn Try.prog G_shows 1000 40 [An 15, U8] [Bo, I1])) = t_shows := by kernel_rfl
theorem g_shows : Gok Try.prog G_shows := (one ok_area)
theorem o_shows : outsOK G_shows I_shows := (outsOK_cons inf_area outsOK_nil)
def G_rshows : List Sum := [s_rall, s_twice]
def I_rshows : List Inf := [i_rall, i_twice]
def t_rshows : TX := (.callp 0 [(.v 0), (.v 1), (.v 2), (.v 3), (.v 4), (.v 5), (.v 6), (.v 7), (.v 8), (.v 9), (.v 10), (.v 11), (.v 12), (.v 13), (.v 14)] (.ite (.eq (.v 16) (.c 0)) (.ret [(.c 0), (.c 8)])
(.ite (.lt (.c 2) (.v 15)) (.ret [(.c 0), (.c 2)])
(.call 1 [(.v 0), (.v 1), (.v 2), (.v 3), (.v 4), (.v 5), (.v 6), (.v 7), (.v 8), (.v 9), (.v 10), (.v 11), (.v 12), (.v 13), (.v 14)] (.ite (.or (.and (.lt (.c 0) (.v 17)) (.not (.eq (.v 15) (.c 2)))) (.and (.lt (.v 17) (.c 0)) (.not (.eq (.v 15) (.c 1))))) (.ret [(.c 1), (.c 0)])
(.ret [(.c 0), (.c 0)]))))))
theorem tree_rshows : merge (opt I_rshows pin_rshows (symFn Try.prog G_rshows 1000 41 [An 15, U8] [Bo, I1])) = t_rshows := by kernel_rfl
theorem g_rshows : Gok Try.prog G_rshows := (more ok_rall (one ok_twice))
theorem o_rshows : outsOK G_rshows I_rshows := (outsOK_cons inf_rall (outsOK_cons inf_twice outsOK_nil))
theorem ok_shows : s_shows.ok Try.prog := Sum.ok_opt facts.mixed g_shows o_shows tree_shows rfl (fun _ => rfl) (by
  intro xs hx hp
  obtain ⟨a0, a1, a2, a3, a4, a5, a6, a7, a8, a9, a10, a11, a12, a13, a14, a15, rfl⟩ := len16 hx
  have e1 : triB [a0, a1, a2, a3, a4, a5, a6, a7, a8, a9, a10, a11, a12, a13, a14, a15] = triB [a0, a1, a2, a3, a4, a5, a6, a7, a8, a9, a10, a11, a12, a13, a14] := rfl
  have e2 : twiceV [a0, a1, a2, a3, a4, a5, a6, a7, a8, a9, a10, a11, a12, a13, a14, a15] = twiceV [a0, a1, a2, a3, a4, a5, a6, a7, a8, a9, a10, a11, a12, a13, a14] := rfl
  simp only [t_shows, G_shows, s_area, TX.sat, XB.prop, X.den, List.map_cons, List.map_nil, List.getElem?_cons_zero, List.getElem?_cons_succ, List.cons_append, List.nil_append, List.getD_cons_zero, List.getD_cons_succ, mkS, mkP, and_true, true_and, Int.not_lt, Int.not_le, not_or, not_and, Classical.not_not, ne_eq, not_true_eq_false, not_false_eq_true, sem_area, areaL, sem_shows, showsL, e1, e2]
  generalize twiceV _ = n
  clear hp hx e1 e2
  cases triB _ with
  | true =>
    rcases (by omega : n < 0 ∨ n = 0 ∨ 0 < n) with hn | hn | hn <;> rcases (by omega : a15 = 0 ∨ a15 = 1 ∨ a15 = 2 ∨ (a15 ≠ 0 ∧ a15 ≠ 1 ∧ a15 ≠ 2)) with hk | hk | hk | ⟨hk0, hk1, hk2⟩ <;> simp [*, b01] <;> omega
  | false => simp)
theorem ok_rshows : s_rshows.ok Try.prog := Sum.ok_opt facts.mixed g_rshows o_rshows tree_rshows rfl (fun _ => rfl) (by
  intro xs hx hp
  obtain ⟨a0, a1, a2, a3, a4, a5, a6, a7, a8, a9, a10, a11, a12, a13, a14, a15, rfl⟩ := len16 hx
  have h15 : 0 ≤ a15 ∧ a15 ≤ 255 := hp.2 15
  have e1 : triB [a0, a1, a2, a3, a4, a5, a6, a7, a8, a9, a10, a11, a12, a13, a14, a15] = triB [a0, a1, a2, a3, a4, a5, a6, a7, a8, a9, a10, a11, a12, a13, a14] := rfl
  have e2 : twiceV [a0, a1, a2, a3, a4, a5, a6, a7, a8, a9, a10, a11, a12, a13, a14, a15] = twiceV [a0, a1, a2, a3, a4, a5, a6, a7, a8, a9, a10, a11, a12, a13, a14] := rfl
  have hq := @tri_pin a0 a1 a2 a3 a4 a5 a6 a7 a8 a9 a10 a11 a12 a13 a14
  simp only [t_rshows, G_rshows, s_rall, s_twice, TX.sat, XB.prop, X.den, List.map_cons, List.map_nil, List.getElem?_cons_zero, List.getElem?_cons_succ, List.cons_append, List.nil_append, List.getD_cons_zero, List.getD_cons_succ, mkS, mkP, and_true, true_and, Int.not_lt, Int.not_le, not_or, not_and, Classical.not_not, ne_eq, not_true_eq_false, not_false_eq_true, sem_rall, sem_twice, sem_rshows, sem_shows, showsL, e1, e2]
  generalize twiceV _ = n
  clear hp hx e1 e2
  cases h : triB [a0, a1, a2, a3, a4, a5, a6, a7, a8, a9, a10, a11, a12, a13, a14] with
  | true =>
    have hq' := hq h
    clear hq
    rcases (by omega : n < 0 ∨ n = 0 ∨ 0 < n) with hn | hn | hn <;> rcases (by omega : a15 = 0 ∨ a15 = 1 ∨ a15 = 2 ∨ (a15 ≠ 0 ∧ a15 ≠ 1 ∧ a15 ≠ 2)) with hk | hk | hk | ⟨hk0, hk1, hk2⟩ <;> simp [*, b01] <;> omega
  | false => simp [b01])
theorem inf_shows : InfOK s_shows i_shows := ⟨fun _ h => h, fun vs xs h hp => by
  show vsOK [iv 0 1, iv 0 8] [(showsL xs).getD 0 0, (showsL xs).getD 1 0]
  unfold showsL
  repeat' split
  · exact vsOK_cons (b01_iv _) (vsOK_cons (iv_def.2 (by simp)) vsOK_nil)
  · exact vsOK_cons (b01_iv _) (vsOK_cons (iv_def.2 (by simp)) vsOK_nil)
  · exact vsOK_cons (b01_iv _) (vsOK_cons (iv_def.2 (by simp)) vsOK_nil)
  · exact vsOK_cons (iv_def.2 (by simp)) (vsOK_cons (iv_def.2 (by simp)) vsOK_nil)
  · exact vsOK_cons (iv_def.2 (by simp)) (vsOK_cons (iv_def.2 (by simp)) vsOK_nil)⟩
theorem inf_rshows : InfOK s_rshows i_rshows := inf_shows
def G_front : List Sum := [s_area]
def I_front : List Inf := [i_area]
def t_front : TX := (.callp 0 [(.v 0), (.v 1), (.v 2), (.v 3), (.v 4), (.v 5), (.v 6), (.v 7), (.v 8), (.v 9), (.v 10), (.v 11), (.v 12), (.v 13), (.v 14)] (.ite (.not (.eq (.v 16) (.c 0))) (.ret [(.c 0), (.c 0), (.c 0), (.c 0), (.c 0), (.c 0), (.c 0), (.c 0), (.c 0), (.c 0), (.c 0), (.c 0), (.c 0), (.c 0), (.c 0), (.v 16)])
(.ite (.eq (.v 15) (.c 0)) (.ret [(.c 0), (.c 0), (.c 0), (.c 0), (.c 0), (.c 0), (.c 0), (.c 0), (.c 0), (.c 0), (.c 0), (.c 0), (.c 0), (.c 0), (.c 0), (.c 6)])
(.ite (.lt (.v 15) (.c 0)) (.ret [(.v 0), (.v 1), (.v 2), (.v 3), (.v 4), (.v 10), (.v 11), (.v 12), (.v 13), (.v 14), (.v 5), (.v 6), (.v 7), (.v 8), (.v 9), (.c 0)])
(.ret [(.v 0), (.v 1), (.v 2), (.v 3), (.v 4), (.v 5), (.v 6), (.v 7), (.v 8), (.v 9), (.v 10), (.v 11), (.v 12), (.v 13), (.v 14), (.c 0)])))))
theorem tree_front : merge (opt I_front pin_front (symFn Try.prog G_front 1000 42 [An 15] [An 15, I1])) = t_front := by kernel_rfl
theorem g_front : Gok Try.prog G_front := (one ok_area)
theorem o_front : outsOK G_front I_front := (outsOK_cons inf_area outsOK_nil)
def G_rfront : List Sum := [s_rall, s_twice]
def I_rfront : List Inf := [i_rall, i_twice]
def t_rfront : TX := (.callp 0 [(.v 0), (.v 1), (.v 2), (.v 3), (.v 4), (.v 5), (.v 6), (.v 7), (.v 8), (.v 9), (.v 10), (.v 11), (.v 12), (.v 13), (.v 14)] (.ite (.eq (.v 15) (.c 0)) (.ret [(.c 0), (.c 0), (.c 0), (.c 0), (.c 0), (.c 0), (.c 0), (.c 0), (.c 0), (.c 0), (.c 0), (.c 0), (.c 0), (.c 0), (.c 0), (.c 8)])
(.call 1 [(.v 0), (.v 1), (.v 2), (.v 3), (.v 4), (.v 5), (.v 6), (.v 7), (.v 8), (.v 9), (.v 10), (.v 11), (.v 12), (.v 13), (.v 14)] (.ite (.eq (.v 16) (.c 0)) (.ret [(.c 0), (.c 0), (.c 0), (.c 0), (.c 0), (.c 0), (.c 0), (.c 0), (.c 0), (.c 0), (.c 0), (.c 0), (.c 0), (.c 0), (.c 0), (.c 6)])
(.call 1 [(.v 0), (.v 1), (.v 2), (.v 3), (.v 4), (.v 5), (.v 6), (.v 7), (.v 8), (.v 9), (.v 10), (.v 11), (.v 12), (.v 13), (.v 14)] (.ite (.lt (.v 17) (.c 0)) (.ret [(.v 0), (.v 1), (.v 2), (.v 3), (.v 4), (.v 10), (.v 11), (.v 12), (.v 13), (.v 14), (.v 5), (.v 6), (.v 7), (.v 8), (.v 9), (.c 0)])
(.ret [(.v 0), (.v 1), (.v 2), (.v 3), (.v 4), (.v 5), (.v 6), (.v 7), (.v 8), (.v 9), (.v 10), (.v 11), (.v 12), (.v 13), (.v 14), (.c 0)])))))))
theorem tree_rfront : merge (opt I_rfront pin_rfront (symFn Try.prog G_rfront 1000 43 [An 15] [An 15, I1])) = t_rfront := by kernel_rfl
theorem g_rfront : Gok Try.prog G_rfront := (more ok_rall (one ok_twice))
theorem o_rfront : outsOK G_rfront I_rfront := (outsOK_cons inf_rall (outsOK_cons inf_twice outsOK_nil))
theorem ok_front : s_front.ok Try.prog := Sum.ok_opt facts.mixed g_front o_front tree_front rfl (fun _ => rfl) (by
  intro xs hx hp
  obtain ⟨a0, a1, a2, a3, a4, a5, a6, a7, a8, a9, a10, a11, a12, a13, a14, rfl⟩ := len15 hx
  simp only [t_front, G_front, s_area, TX.sat, XB.prop, X.den, List.map_cons, List.map_nil, List.getElem?_cons_zero, List.getElem?_cons_succ, List.cons_append, List.nil_append, List.getD_cons_zero, List.getD_cons_succ, mkS, mkP, and_true, true_and, Int.not_lt, Int.not_le, not_or, not_and, Classical.not_not, ne_eq, not_true_eq_false, not_false_eq_true, sem_area, areaL, sem_front, frontL]
  generalize twiceV _ = n
  clear hp hx
  cases triB _ with
  | true =>
    rcases (by omega : n < 0 ∨ n = 0 ∨ 0 < n) with hn | hn | hn
    · have h0 : n ≠ 0 := by omega
      have h1 : ¬ 0 ≤ n := by omega
      simp [hn, h0, h1, z16, idT, turnT, ex16]
    · simp [hn, z16, idT, turnT, ex16]
    · have h0 : n ≠ 0 := by omega
      have h1 : ¬ n < 0 := by omega
      simp [h0, h1, z16, idT, turnT, ex16]
  | false => simp [z16, ex16])
theorem ok_rfront : s_rfront.ok Try.prog := Sum.ok_opt facts.mixed g_rfront o_rfront tree_rfront rfl (fun _ => rfl) (by
  intro xs hx hp
  obtain ⟨a0, a1, a2, a3, a4, a5, a6, a7, a8, a9, a10, a11, a12, a13, a14, rfl⟩ := len15 hx
  have hq := @tri_pin a0 a1 a2 a3 a4 a5 a6 a7 a8 a9 a10 a11 a12 a13 a14
  simp only [t_rfront, G_rfront, s_rall, s_twice, TX.sat, XB.prop, X.den, List.map_cons, List.map_nil, List.getElem?_cons_zero, List.getElem?_cons_succ, List.cons_append, List.nil_append, List.getD_cons_zero, List.getD_cons_succ, mkS, mkP, and_true, true_and, Int.not_lt, Int.not_le, not_or, not_and, Classical.not_not, ne_eq, not_true_eq_false, not_false_eq_true, sem_rall, sem_twice, sem_rfront, sem_front, frontL]
  generalize twiceV _ = n
  clear hp hx
  cases h : triB [a0, a1, a2, a3, a4, a5, a6, a7, a8, a9, a10, a11, a12, a13, a14] with
  | true =>
    have hq' := hq h
    clear hq
    rcases (by omega : n < 0 ∨ n = 0 ∨ 0 < n) with hn | hn | hn
    · have h0 : n ≠ 0 := by omega
      have h2 : ¬ 0 ≤ n := by omega
      simp [hn, h0, h2, hq', b01, z16, idT, turnT, ex16]
    · simp [hn, hq', b01, z16, idT, turnT, ex16]
    · have h0 : n ≠ 0 := by omega
      have h1 : ¬ n < 0 := by omega
      have h2 : 0 ≤ n := by omega
      simp [h0, h1, h2, hq', b01, z16, idT, turnT, ex16]
  | false => simp [b01, z16, ex16])
theorem tri_front {x : List Int} (h : triB x = true) : vsOK (ivs 2 (-131072) 131072 ++ [iv 0 65536] ++ ivs 2 0 255) [x.getD 0 0, x.getD 1 0, x.getD 2 0, x.getD 3 0, x.getD 4 0] ∧
    vsOK (ivs 2 (-131072) 131072 ++ [iv 0 65536] ++ ivs 2 0 255) [x.getD 5 0, x.getD 6 0, x.getD 7 0, x.getD 8 0, x.getD 9 0] ∧
    vsOK (ivs 2 (-131072) 131072 ++ [iv 0 65536] ++ ivs 2 0 255) [x.getD 10 0, x.getD 11 0, x.getD 12 0, x.getD 13 0, x.getD 14 0] := by
  simp only [triB, Bool.and_eq_true, spotB_true, Nat.reduceAdd, Nat.zero_add] at h
  obtain ⟨⟨h0, h1, h2, h3, h4⟩, ⟨h5, h6, h7, h8, h9⟩, h10, h11, h12, h13, h14⟩ := h
  exact ⟨vsOK_cons h0 (vsOK_cons h1 (vsOK_cons ⟨by show 0 ≤ x.getD 2 0; omega, h2.2⟩ (vsOK_cons h3 (vsOK_cons h4 vsOK_nil)))), vsOK_cons h5 (vsOK_cons h6 (vsOK_cons ⟨by show 0 ≤ x.getD 7 0; omega, h7.2⟩ (vsOK_cons h8 (vsOK_cons h9 vsOK_nil)))),
    vsOK_cons h10 (vsOK_cons h11 (vsOK_cons ⟨by show 0 ≤ x.getD 12 0; omega, h12.2⟩ (vsOK_cons h13 (vsOK_cons h14 vsOK_nil))))⟩
theorem z_front (e : Int) (h1 : 0 ≤ e) (h2 : e ≤ 8) : vsOK (out_front []) (ex16 (z16 e)) := by
  refine vsOK_cons (iv_def.2 ?_) (vsOK_cons (iv_def.2 ?_) (vsOK_cons (iv_def.2 ?_) (vsOK_cons (iv_def.2 ?_) (vsOK_cons (iv_def.2 ?_) (vsOK_cons (iv_def.2 ?_) (vsOK_cons (iv_def.2 ?_) (vsOK_cons (iv_def.2 ?_) (vsOK_cons (iv_def.2 ?_) (vsOK_cons (iv_def.2 ?_) (vsOK_cons (iv_def.2 ?_) (vsOK_cons (iv_def.2 ?_) (vsOK_cons (iv_def.2 ?_) (vsOK_cons (iv_def.2 ?_) (vsOK_cons (iv_def.2 ?_) (vsOK_cons ⟨h1, h2⟩ vsOK_nil))))))))))))))) <;> simp [z16]
theorem inf_front : InfOK s_front i_front := ⟨fun _ h => h, fun vs xs h hp => by
  show vsOK (out_front []) (ex16 (frontL xs))
  unfold frontL
  split
  · rename_i hc
    obtain ⟨t1, t2, t3⟩ := tri_front hc
    split
    · exact z_front 6 (by omega) (by omega)
    · split
      · exact vsOK_app (vsOK_app (vsOK_app t1 t3) t2) (vsOK_cons (iv_def.2 (by simp [turnT])) vsOK_nil)
      · exact vsOK_app (vsOK_app (vsOK_app t1 t2) t3) (vsOK_cons (iv_def.2 (by simp [idT])) vsOK_nil)
  · exact z_front 8 (by omega) (by omega)⟩
theorem inf_rfront : InfOK s_rfront i_rfront := inf_front
end Go.Proofs.Ytlgcjkolakcfiaa.fix
