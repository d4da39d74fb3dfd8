/-
  The law BoxCorners is answered with true, whatever its arguments, which stay as they were.
-/
import Derived.Test.YtjbkcjbjllmhfaaRows
import Derived.Test.YtjbkcjbjllmhfaaZFacts
import Derived.Test.YtjbkcjbjllmhfaaZLists
set_option linter.unusedVariables false
set_option linter.unusedSimpArgs false
namespace Go.Proofs.Ytjbkcjbjllmhfaa.boxCorners
open Go.RowKit Go.ChangeShapes Go.WideShapes Go.ChangeAt Go.Sx fix

noncomputable def G_BoxCorners : List Sum := [s_alive03, s_bturned, s_turn, s_bof]
def I_BoxCorners : List Inf := [i_alive03, i_bturned, i_turn, i_bof]
def t_BoxCorners : TX := (.callp 0 [] (.callp 1 [(.v 0), (.v 1), (.v 2), (.v 3), (.v 4), (.v 5), (.v 6), (.v 7), (.v 8), (.v 9), (.v 10), (.v 11), (.v 12), (.v 13), (.v 14)] (.ite (.not (.eq (.v 22) (.c 0))) (.ite (.and (.and (.eq (.v 16) (.c 0)) (.and (.eq (.v 17) (.c 0)) (.eq (.v 18) (.c 0)))) (.and (.eq (.v 19) (.c 0)) (.and (.eq (.v 20) (.c 0)) (.eq (.v 21) (.c 0))))) (.ret [(.c 1)])
(.ret [(.c 0)]))
(.callp 2 [(.v 0), (.v 1), (.v 2), (.v 3), (.v 4), (.v 5), (.v 6), (.v 7), (.v 8), (.v 9), (.v 10), (.v 11)] (.ite (.not (.eq (.v 26) (.c 0))) (.ret [(.c 0)])
(.callp 2 [(.v 0), (.v 1), (.v 2), (.v 3), (.v 4), (.v 5), (.v 6), (.v 7), (.v 8), (.v 12), (.v 10), (.v 11)] (.ite (.not (.eq (.v 30) (.c 0))) (.ret [(.c 0)])
(.callp 2 [(.v 0), (.v 1), (.v 2), (.v 3), (.v 4), (.v 5), (.v 6), (.v 7), (.v 8), (.v 9), (.v 13), (.v 11)] (.ite (.not (.eq (.v 34) (.c 0))) (.ret [(.c 0)])
(.callp 2 [(.v 0), (.v 1), (.v 2), (.v 3), (.v 4), (.v 5), (.v 6), (.v 7), (.v 8), (.v 12), (.v 13), (.v 11)] (.ite (.not (.eq (.v 38) (.c 0))) (.ret [(.c 0)])
(.callp 2 [(.v 0), (.v 1), (.v 2), (.v 3), (.v 4), (.v 5), (.v 6), (.v 7), (.v 8), (.v 9), (.v 10), (.v 14)] (.ite (.not (.eq (.v 42) (.c 0))) (.ret [(.c 0)])
(.callp 2 [(.v 0), (.v 1), (.v 2), (.v 3), (.v 4), (.v 5), (.v 6), (.v 7), (.v 8), (.v 12), (.v 10), (.v 14)] (.ite (.not (.eq (.v 46) (.c 0))) (.ret [(.c 0)])
(.callp 2 [(.v 0), (.v 1), (.v 2), (.v 3), (.v 4), (.v 5), (.v 6), (.v 7), (.v 8), (.v 9), (.v 13), (.v 14)] (.ite (.not (.eq (.v 50) (.c 0))) (.ret [(.c 0)])
(.callp 2 [(.v 0), (.v 1), (.v 2), (.v 3), (.v 4), (.v 5), (.v 6), (.v 7), (.v 8), (.v 12), (.v 13), (.v 14)] (.ite (.not (.eq (.v 54) (.c 0))) (.ret [(.c 0)])
(.callp 3 [(.l2 .snoc (.l2 .snoc (.l2 .snoc (.l2 .snoc (.l2 .snoc (.l2 .snoc (.l2 .snoc (.l2 .snoc .nl (.l2 .cons (.v 23) (.l2 .cons (.v 24) (.l2 .cons (.v 25) .nl)))) (.l2 .cons (.v 27) (.l2 .cons (.v 28) (.l2 .cons (.v 29) .nl)))) (.l2 .cons (.v 31) (.l2 .cons (.v 32) (.l2 .cons (.v 33) .nl)))) (.l2 .cons (.v 35) (.l2 .cons (.v 36) (.l2 .cons (.v 37) .nl)))) (.l2 .cons (.v 39) (.l2 .cons (.v 40) (.l2 .cons (.v 41) .nl)))) (.l2 .cons (.v 43) (.l2 .cons (.v 44) (.l2 .cons (.v 45) .nl)))) (.l2 .cons (.v 47) (.l2 .cons (.v 48) (.l2 .cons (.v 49) .nl)))) (.l2 .cons (.v 51) (.l2 .cons (.v 52) (.l2 .cons (.v 53) .nl))))] (.ite (.and (.and (.nz (.v 15)) (.eq (.v 61) (.c 0))) (.and (.and (.eq (.v 16) (.v 55)) (.and (.eq (.v 17) (.v 56)) (.eq (.v 18) (.v 57)))) (.and (.eq (.v 19) (.v 58)) (.and (.eq (.v 20) (.v 59)) (.eq (.v 21) (.v 60)))))) (.ret [(.c 1)])
(.ret [(.c 0)]))))))))))))))))))))))
theorem tree_BoxCorners : merge (optFL [] I_BoxCorners [] (((An 9).ks ++ ((An 6).ks ++ [])).map ivK) (symFnL Try.prog noLp gl0 G_BoxCorners 1000 12 [An 9, An 6] [Bo])) = t_BoxCorners := by kernel_rfl
theorem g_BoxCorners : Gok Try.prog G_BoxCorners := (more ok_alive03 (more ok_bturned (more ok_turn (one ok_bof))))
theorem o_BoxCorners : outsOK G_BoxCorners I_BoxCorners := (outsOK_cons inf_alive03 (outsOK_cons inf_bturned (outsOK_cons inf_turn (outsOK_cons inf_bof outsOK_nil))))
theorem range_nil : rangeOK [] [] := trivial
/-- A turned box' numbers. -/
theorem turned_ok {x : List Int} (h : (turnedL x).getD 6 0 = 0) : rows9 1024 x 0 = true ∧ boxB x 9 = true ∧ boxB (turnedP x) 0 = true ∧ turnedL x = turnedP x := by
  unfold turnedL at h ⊢
  split
  · rename_i h1
    rw [if_pos h1] at h
    split
    · rename_i h2
      rw [if_pos h2] at h
      split
      · rename_i h3
        exact ⟨h1, h2, h3, rfl⟩
      · rename_i h3
        rw [if_neg h3] at h
        exact absurd h (by decide)
    · rename_i h2
      rw [if_neg h2] at h
      exact absurd h (by decide)
  · rename_i h1
    rw [if_neg h1] at h
    exact absurd h (by decide)
theorem turned_no {x : List Int} (h : ¬ (turnedL x).getD 6 0 = 0) : ∃ e, turnedL x = z7 e := by
  unfold turnedL at h ⊢
  split
  · rename_i h1
    rw [if_pos h1] at h
    split
    · rename_i h2
      rw [if_pos h2] at h
      split
      · rename_i h3
        rw [if_pos h3] at h
        exact absurd rfl h
      · exact ⟨_, rfl⟩
    · exact ⟨_, rfl⟩
  · exact ⟨_, rfl⟩
theorem mid1 {m l h v : Int} (h1 : l ≤ v) (h2 : v ≤ h) : min (m * l) (m * h) ≤ m * v ∧ m * v ≤ max (m * l) (m * h) := by
  have := mul_between (y := m) h1 h2
  rw [Int.mul_comm l, Int.mul_comm h, Int.mul_comm v] at this
  exact this
theorem mid3 {a b c d e f x y z : Int} (h1 : min a b ≤ x ∧ x ≤ max a b) (h2 : min c d ≤ y ∧ y ≤ max c d) (h3 : min e f ≤ z ∧ z ≤ max e f) : (min a b + min c d + min e f) / 256 ≤ (x + y + z) / 256 ∧ (x + y + z) / 256 ≤ (max a b + max c d + max e f) / 256 :=
  ⟨Int.ediv_le_ediv (by omega) (by omega), Int.ediv_le_ediv (by omega) (by omega)⟩
/-- A corner, turned. -/
theorem turn_c {m0 m1 m2 m3 m4 m5 m6 m7 m8 x y z : Int} (hr : rows9 1024 [m0, m1, m2, m3, m4, m5, m6, m7, m8] 0 = true) (hx : -32768 ≤ x ∧ x ≤ 32768) (hy : -32768 ≤ y ∧ y ≤ 32768) (hz : -32768 ≤ z ∧ z ≤ 32768) : turnL [m0, m1, m2, m3, m4, m5, m6, m7, m8, x, y, z] = [(m0 * x + m1 * y + m2 * z) / 256, (m3 * x + m4 * y + m5 * z) / 256, (m6 * x + m7 * y + m8 * z) / 256, 0] := by
  have h1 : rows9 1024 [m0, m1, m2, m3, m4, m5, m6, m7, m8, x, y, z] 0 = true := hr
  have h2 : all3 32768 [m0, m1, m2, m3, m4, m5, m6, m7, m8, x, y, z] 9 = true := by
    rw [all3_true]
    simp only [TX.sat, XB.prop, X.den, List.map_cons, List.map_nil, List.getElem?_cons_zero, List.getElem?_cons_succ, List.cons_append, List.nil_append, List.getD_cons_zero, List.getD_cons_succ, mkS, mkP, and_true, true_and, Int.not_lt, Int.not_le, not_or, not_and, Classical.not_not, ne_eq, not_true_eq_false, not_false_eq_true, Nat.reduceAdd]
    omega
  unfold turnL
  rw [h1, h2]
  simp only [Bool.and_self, if_true, dot, TX.sat, XB.prop, X.den, List.map_cons, List.map_nil, List.getElem?_cons_zero, List.getElem?_cons_succ, List.cons_append, List.nil_append, List.getD_cons_zero, List.getD_cons_succ, mkS, mkP, and_true, true_and, Int.not_lt, Int.not_le, not_or, not_and, Classical.not_not, ne_eq, not_true_eq_false, not_false_eq_true, Nat.reduceAdd]
theorem pins (xs0 : List Int) (hr0 : rangeOK (An 9).ks xs0) (xs1 : List Int) (hr1 : rangeOK (An 6).ks xs1) : vsOK (((An 9).ks ++ ((An 6).ks ++ [])).map ivK) (xs0 ++ (xs1 ++ [])) :=
  range_vs (rangeOK_app hr0 (rangeOK_app hr1 range_nil))
theorem eight {a b c d e f g h : Int} (ha : okP a = true) (hb : okP b = true) (hc : okP c = true) (hd : okP d = true) (he : okP e = true) (hf : okP f = true) (hg : okP g = true) (hh : okP h = true) : ofL [a, b, c, d, e, f, g, h] = leastL [a, b, c, d, e, f, g, h] ++ [0] := by
  unfold ofL
  rw [if_pos (by simp), if_pos (by simp only [List.all_cons, List.all_nil, ha, hb, hc, hd, he, hf, hg, hh, Bool.and_self])]
theorem least8 {m0 m1 m2 m3 m4 m5 m6 m7 m8 b0 b1 b2 b3 b4 b5 : Int} (kb : boxB [m0, m1, m2, m3, m4, m5, m6, m7, m8, b0, b1, b2, b3, b4, b5] 9 = true) (hc : boxB (turnedP [m0, m1, m2, m3, m4, m5, m6, m7, m8, b0, b1, b2, b3, b4, b5]) 0 = true) : ofL [cod [(m0 * b0 + m1 * b1 + m2 * b2) / 256, (m3 * b0 + m4 * b1 + m5 * b2) / 256, (m6 * b0 + m7 * b1 + m8 * b2) / 256], cod [(m0 * b3 + m1 * b1 + m2 * b2) / 256, (m3 * b3 + m4 * b1 + m5 * b2) / 256, (m6 * b3 + m7 * b1 + m8 * b2) / 256], cod [(m0 * b0 + m1 * b4 + m2 * b2) / 256, (m3 * b0 + m4 * b4 + m5 * b2) / 256, (m6 * b0 + m7 * b4 + m8 * b2) / 256], cod [(m0 * b3 + m1 * b4 + m2 * b2) / 256, (m3 * b3 + m4 * b4 + m5 * b2) / 256, (m6 * b3 + m7 * b4 + m8 * b2) / 256], cod [(m0 * b0 + m1 * b1 + m2 * b5) / 256, (m3 * b0 + m4 * b1 + m5 * b5) / 256, (m6 * b0 + m7 * b1 + m8 * b5) / 256], cod [(m0 * b3 + m1 * b1 + m2 * b5) / 256, (m3 * b3 + m4 * b1 + m5 * b5) / 256, (m6 * b3 + m7 * b1 + m8 * b5) / 256], cod [(m0 * b0 + m1 * b4 + m2 * b5) / 256, (m3 * b0 + m4 * b4 + m5 * b5) / 256, (m6 * b0 + m7 * b4 + m8 * b5) / 256], cod [(m0 * b3 + m1 * b4 + m2 * b5) / 256, (m3 * b3 + m4 * b4 + m5 * b5) / 256, (m6 * b3 + m7 * b4 + m8 * b5) / 256]] = turnedP [m0, m1, m2, m3, m4, m5, m6, m7, m8, b0, b1, b2, b3, b4, b5] := by
  have hb := boxB_true.1 kb
  have hd := boxB_true.1 hc
  simp only [turnedP, tLow, tHigh, TX.sat, XB.prop, X.den, List.map_cons, List.map_nil, List.getElem?_cons_zero, List.getElem?_cons_succ, List.cons_append, List.nil_append, List.getD_cons_zero, List.getD_cons_succ, mkS, mkP, and_true, true_and, Int.not_lt, Int.not_le, not_or, not_and, Classical.not_not, ne_eq, not_true_eq_false, not_false_eq_true, Nat.reduceAdd, Nat.zero_add] at hb hd ⊢
  have q00 := mid3 (mid1 (m := m0) (l := b0) (h := b3) (v := b0) (by omega) (by omega)) (mid1 (m := m1) (l := b1) (h := b4) (v := b1) (by omega) (by omega)) (mid1 (m := m2) (l := b2) (h := b5) (v := b2) (by omega) (by omega))
  have q03 := mid3 (mid1 (m := m3) (l := b0) (h := b3) (v := b0) (by omega) (by omega)) (mid1 (m := m4) (l := b1) (h := b4) (v := b1) (by omega) (by omega)) (mid1 (m := m5) (l := b2) (h := b5) (v := b2) (by omega) (by omega))
  have q06 := mid3 (mid1 (m := m6) (l := b0) (h := b3) (v := b0) (by omega) (by omega)) (mid1 (m := m7) (l := b1) (h := b4) (v := b1) (by omega) (by omega)) (mid1 (m := m8) (l := b2) (h := b5) (v := b2) (by omega) (by omega))
  have q10 := mid3 (mid1 (m := m0) (l := b0) (h := b3) (v := b3) (by omega) (by omega)) (mid1 (m := m1) (l := b1) (h := b4) (v := b1) (by omega) (by omega)) (mid1 (m := m2) (l := b2) (h := b5) (v := b2) (by omega) (by omega))
  have q13 := mid3 (mid1 (m := m3) (l := b0) (h := b3) (v := b3) (by omega) (by omega)) (mid1 (m := m4) (l := b1) (h := b4) (v := b1) (by omega) (by omega)) (mid1 (m := m5) (l := b2) (h := b5) (v := b2) (by omega) (by omega))
  have q16 := mid3 (mid1 (m := m6) (l := b0) (h := b3) (v := b3) (by omega) (by omega)) (mid1 (m := m7) (l := b1) (h := b4) (v := b1) (by omega) (by omega)) (mid1 (m := m8) (l := b2) (h := b5) (v := b2) (by omega) (by omega))
  have q20 := mid3 (mid1 (m := m0) (l := b0) (h := b3) (v := b0) (by omega) (by omega)) (mid1 (m := m1) (l := b1) (h := b4) (v := b4) (by omega) (by omega)) (mid1 (m := m2) (l := b2) (h := b5) (v := b2) (by omega) (by omega))
  have q23 := mid3 (mid1 (m := m3) (l := b0) (h := b3) (v := b0) (by omega) (by omega)) (mid1 (m := m4) (l := b1) (h := b4) (v := b4) (by omega) (by omega)) (mid1 (m := m5) (l := b2) (h := b5) (v := b2) (by omega) (by omega))
  have q26 := mid3 (mid1 (m := m6) (l := b0) (h := b3) (v := b0) (by omega) (by omega)) (mid1 (m := m7) (l := b1) (h := b4) (v := b4) (by omega) (by omega)) (mid1 (m := m8) (l := b2) (h := b5) (v := b2) (by omega) (by omega))
  have q30 := mid3 (mid1 (m := m0) (l := b0) (h := b3) (v := b3) (by omega) (by omega)) (mid1 (m := m1) (l := b1) (h := b4) (v := b4) (by omega) (by omega)) (mid1 (m := m2) (l := b2) (h := b5) (v := b2) (by omega) (by omega))
  have q33 := mid3 (mid1 (m := m3) (l := b0) (h := b3) (v := b3) (by omega) (by omega)) (mid1 (m := m4) (l := b1) (h := b4) (v := b4) (by omega) (by omega)) (mid1 (m := m5) (l := b2) (h := b5) (v := b2) (by omega) (by omega))
  have q36 := mid3 (mid1 (m := m6) (l := b0) (h := b3) (v := b3) (by omega) (by omega)) (mid1 (m := m7) (l := b1) (h := b4) (v := b4) (by omega) (by omega)) (mid1 (m := m8) (l := b2) (h := b5) (v := b2) (by omega) (by omega))
  have q40 := mid3 (mid1 (m := m0) (l := b0) (h := b3) (v := b0) (by omega) (by omega)) (mid1 (m := m1) (l := b1) (h := b4) (v := b1) (by omega) (by omega)) (mid1 (m := m2) (l := b2) (h := b5) (v := b5) (by omega) (by omega))
  have q43 := mid3 (mid1 (m := m3) (l := b0) (h := b3) (v := b0) (by omega) (by omega)) (mid1 (m := m4) (l := b1) (h := b4) (v := b1) (by omega) (by omega)) (mid1 (m := m5) (l := b2) (h := b5) (v := b5) (by omega) (by omega))
  have q46 := mid3 (mid1 (m := m6) (l := b0) (h := b3) (v := b0) (by omega) (by omega)) (mid1 (m := m7) (l := b1) (h := b4) (v := b1) (by omega) (by omega)) (mid1 (m := m8) (l := b2) (h := b5) (v := b5) (by omega) (by omega))
  have q50 := mid3 (mid1 (m := m0) (l := b0) (h := b3) (v := b3) (by omega) (by omega)) (mid1 (m := m1) (l := b1) (h := b4) (v := b1) (by omega) (by omega)) (mid1 (m := m2) (l := b2) (h := b5) (v := b5) (by omega) (by omega))
  have q53 := mid3 (mid1 (m := m3) (l := b0) (h := b3) (v := b3) (by omega) (by omega)) (mid1 (m := m4) (l := b1) (h := b4) (v := b1) (by omega) (by omega)) (mid1 (m := m5) (l := b2) (h := b5) (v := b5) (by omega) (by omega))
  have q56 := mid3 (mid1 (m := m6) (l := b0) (h := b3) (v := b3) (by omega) (by omega)) (mid1 (m := m7) (l := b1) (h := b4) (v := b1) (by omega) (by omega)) (mid1 (m := m8) (l := b2) (h := b5) (v := b5) (by omega) (by omega))
  have q60 := mid3 (mid1 (m := m0) (l := b0) (h := b3) (v := b0) (by omega) (by omega)) (mid1 (m := m1) (l := b1) (h := b4) (v := b4) (by omega) (by omega)) (mid1 (m := m2) (l := b2) (h := b5) (v := b5) (by omega) (by omega))
  have q63 := mid3 (mid1 (m := m3) (l := b0) (h := b3) (v := b0) (by omega) (by omega)) (mid1 (m := m4) (l := b1) (h := b4) (v := b4) (by omega) (by omega)) (mid1 (m := m5) (l := b2) (h := b5) (v := b5) (by omega) (by omega))
  have q66 := mid3 (mid1 (m := m6) (l := b0) (h := b3) (v := b0) (by omega) (by omega)) (mid1 (m := m7) (l := b1) (h := b4) (v := b4) (by omega) (by omega)) (mid1 (m := m8) (l := b2) (h := b5) (v := b5) (by omega) (by omega))
  have q70 := mid3 (mid1 (m := m0) (l := b0) (h := b3) (v := b3) (by omega) (by omega)) (mid1 (m := m1) (l := b1) (h := b4) (v := b4) (by omega) (by omega)) (mid1 (m := m2) (l := b2) (h := b5) (v := b5) (by omega) (by omega))
  have q73 := mid3 (mid1 (m := m3) (l := b0) (h := b3) (v := b3) (by omega) (by omega)) (mid1 (m := m4) (l := b1) (h := b4) (v := b4) (by omega) (by omega)) (mid1 (m := m5) (l := b2) (h := b5) (v := b5) (by omega) (by omega))
  have q76 := mid3 (mid1 (m := m6) (l := b0) (h := b3) (v := b3) (by omega) (by omega)) (mid1 (m := m7) (l := b1) (h := b4) (v := b4) (by omega) (by omega)) (mid1 (m := m8) (l := b2) (h := b5) (v := b5) (by omega) (by omega))
  rw [eight (by rw [okP_iff]; simp only [co, dec_cod, TX.sat, XB.prop, X.den, List.map_cons, List.map_nil, List.getElem?_cons_zero, List.getElem?_cons_succ, List.cons_append, List.nil_append, List.getD_cons_zero, List.getD_cons_succ, mkS, mkP, and_true, true_and, Int.not_lt, Int.not_le, not_or, not_and, Classical.not_not, ne_eq, not_true_eq_false, not_false_eq_true]; exact ⟨⟨Int.le_trans hd.1.1.1 q00.1, Int.le_trans q00.2 hd.2.1.1.2⟩, ⟨Int.le_trans hd.1.2.1.1 q03.1, Int.le_trans q03.2 hd.2.1.2.1.2⟩, Int.le_trans hd.1.2.2.1 q06.1, Int.le_trans q06.2 hd.2.1.2.2.2⟩) (by rw [okP_iff]; simp only [co, dec_cod, TX.sat, XB.prop, X.den, List.map_cons, List.map_nil, List.getElem?_cons_zero, List.getElem?_cons_succ, List.cons_append, List.nil_append, List.getD_cons_zero, List.getD_cons_succ, mkS, mkP, and_true, true_and, Int.not_lt, Int.not_le, not_or, not_and, Classical.not_not, ne_eq, not_true_eq_false, not_false_eq_true]; exact ⟨⟨Int.le_trans hd.1.1.1 q10.1, Int.le_trans q10.2 hd.2.1.1.2⟩, ⟨Int.le_trans hd.1.2.1.1 q13.1, Int.le_trans q13.2 hd.2.1.2.1.2⟩, Int.le_trans hd.1.2.2.1 q16.1, Int.le_trans q16.2 hd.2.1.2.2.2⟩) (by rw [okP_iff]; simp only [co, dec_cod, TX.sat, XB.prop, X.den, List.map_cons, List.map_nil, List.getElem?_cons_zero, List.getElem?_cons_succ, List.cons_append, List.nil_append, List.getD_cons_zero, List.getD_cons_succ, mkS, mkP, and_true, true_and, Int.not_lt, Int.not_le, not_or, not_and, Classical.not_not, ne_eq, not_true_eq_false, not_false_eq_true]; exact ⟨⟨Int.le_trans hd.1.1.1 q20.1, Int.le_trans q20.2 hd.2.1.1.2⟩, ⟨Int.le_trans hd.1.2.1.1 q23.1, Int.le_trans q23.2 hd.2.1.2.1.2⟩, Int.le_trans hd.1.2.2.1 q26.1, Int.le_trans q26.2 hd.2.1.2.2.2⟩) (by rw [okP_iff]; simp only [co, dec_cod, TX.sat, XB.prop, X.den, List.map_cons, List.map_nil, List.getElem?_cons_zero, List.getElem?_cons_succ, List.cons_append, List.nil_append, List.getD_cons_zero, List.getD_cons_succ, mkS, mkP, and_true, true_and, Int.not_lt, Int.not_le, not_or, not_and, Classical.not_not, ne_eq, not_true_eq_false, not_false_eq_true]; exact ⟨⟨Int.le_trans hd.1.1.1 q30.1, Int.le_trans q30.2 hd.2.1.1.2⟩, ⟨Int.le_trans hd.1.2.1.1 q33.1, Int.le_trans q33.2 hd.2.1.2.1.2⟩, Int.le_trans hd.1.2.2.1 q36.1, Int.le_trans q36.2 hd.2.1.2.2.2⟩) (by rw [okP_iff]; simp only [co, dec_cod, TX.sat, XB.prop, X.den, List.map_cons, List.map_nil, List.getElem?_cons_zero, List.getElem?_cons_succ, List.cons_append, List.nil_append, List.getD_cons_zero, List.getD_cons_succ, mkS, mkP, and_true, true_and, Int.not_lt, Int.not_le, not_or, not_and, Classical.not_not, ne_eq, not_true_eq_false, not_false_eq_true]; exact ⟨⟨Int.le_trans hd.1.1.1 q40.1, Int.le_trans q40.2 hd.2.1.1.2⟩, ⟨Int.le_trans hd.1.2.1.1 q43.1, Int.le_trans q43.2 hd.2.1.2.1.2⟩, Int.le_trans hd.1.2.2.1 q46.1, Int.le_trans q46.2 hd.2.1.2.2.2⟩) (by rw [okP_iff]; simp only [co, dec_cod, TX.sat, XB.prop, X.den, List.map_cons, List.map_nil, List.getElem?_cons_zero, List.getElem?_cons_succ, List.cons_append, List.nil_append, List.getD_cons_zero, List.getD_cons_succ, mkS, mkP, and_true, true_and, Int.not_lt, Int.not_le, not_or, not_and, Classical.not_not, ne_eq, not_true_eq_false, not_false_eq_true]; exact ⟨⟨Int.le_trans hd.1.1.1 q50.1, Int.le_trans q50.2 hd.2.1.1.2⟩, ⟨Int.le_trans hd.1.2.1.1 q53.1, Int.le_trans q53.2 hd.2.1.2.1.2⟩, Int.le_trans hd.1.2.2.1 q56.1, Int.le_trans q56.2 hd.2.1.2.2.2⟩) (by rw [okP_iff]; simp only [co, dec_cod, TX.sat, XB.prop, X.den, List.map_cons, List.map_nil, List.getElem?_cons_zero, List.getElem?_cons_succ, List.cons_append, List.nil_append, List.getD_cons_zero, List.getD_cons_succ, mkS, mkP, and_true, true_and, Int.not_lt, Int.not_le, not_or, not_and, Classical.not_not, ne_eq, not_true_eq_false, not_false_eq_true]; exact ⟨⟨Int.le_trans hd.1.1.1 q60.1, Int.le_trans q60.2 hd.2.1.1.2⟩, ⟨Int.le_trans hd.1.2.1.1 q63.1, Int.le_trans q63.2 hd.2.1.2.1.2⟩, Int.le_trans hd.1.2.2.1 q66.1, Int.le_trans q66.2 hd.2.1.2.2.2⟩) (by rw [okP_iff]; simp only [co, dec_cod, TX.sat, XB.prop, X.den, List.map_cons, List.map_nil, List.getElem?_cons_zero, List.getElem?_cons_succ, List.cons_append, List.nil_append, List.getD_cons_zero, List.getD_cons_succ, mkS, mkP, and_true, true_and, Int.not_lt, Int.not_le, not_or, not_and, Classical.not_not, ne_eq, not_true_eq_false, not_false_eq_true]; exact ⟨⟨Int.le_trans hd.1.1.1 q70.1, Int.le_trans q70.2 hd.2.1.1.2⟩, ⟨Int.le_trans hd.1.2.1.1 q73.1, Int.le_trans q73.2 hd.2.1.2.1.2⟩, Int.le_trans hd.1.2.2.1 q76.1, Int.le_trans q76.2 hd.2.1.2.2.2⟩)]
  clear q00 q03 q06 q10 q13 q16 q20 q23 q26 q30 q33 q36 q40 q43 q46 q50 q53 q56 q60 q63 q66 q70 q73 q76
  simp only [leastL, boxV, joinV, List.foldl_cons, List.foldl_nil, co, dec_cod, TX.sat, XB.prop, X.den, List.map_cons, List.map_nil, List.getElem?_cons_zero, List.getElem?_cons_succ, List.cons_append, List.nil_append, List.getD_cons_zero, List.getD_cons_succ, mkS, mkP, and_true, true_and, Int.not_lt, Int.not_le, not_or, not_and, Classical.not_not, ne_eq, not_true_eq_false, not_false_eq_true, min8, max8]
theorem plain (xs0 : List Int) (hr0 : rangeOK (An 9).ks xs0) (xs1 : List Int) (hr1 : rangeOK (An 6).ks xs1) : t_BoxCorners.sat G_BoxCorners [] (fun ys => ys = [1]) [] (xs0 ++ (xs1 ++ [])) := by
  obtain ⟨n0, i0⟩ := An_inv hr0
  obtain ⟨m0, m1, m2, m3, m4, m5, m6, m7, m8, rfl⟩ := len9 n0
  obtain ⟨n1, i1⟩ := An_inv hr1
  obtain ⟨b0, b1, b2, b3, b4, b5, rfl⟩ := len6 n1
  clear i0 i1 n0 n1 hr0 hr1
  simp only [t_BoxCorners, G_BoxCorners, s_alive03, s_bturned, s_turn, s_bof, TX.sat, XB.prop, X.den, List.map_cons, List.map_nil, List.getElem?_cons_zero, List.getElem?_cons_succ, List.cons_append, List.nil_append, List.getD_cons_zero, List.getD_cons_succ, mkS, mkP, and_true, true_and, Int.not_lt, Int.not_le, not_or, not_and, Classical.not_not, ne_eq, not_true_eq_false, not_false_eq_true, sem_alive03, sem_alive, sem_bturned, sem_turn, sem_bof, ex7, ex4, L2.den]
  by_cases he : (turnedL [m0, m1, m2, m3, m4, m5, m6, m7, m8, b0, b1, b2, b3, b4, b5]).getD 6 0 = 0
  · obtain ⟨hr, hb, hc, hv⟩ := turned_ok he
    have hr' : rows9 1024 [m0, m1, m2, m3, m4, m5, m6, m7, m8] 0 = true := hr
    have kb := boxB_true.1 hb
    simp only [TX.sat, XB.prop, X.den, List.map_cons, List.map_nil, List.getElem?_cons_zero, List.getElem?_cons_succ, List.cons_append, List.nil_append, List.getD_cons_zero, List.getD_cons_succ, mkS, mkP, and_true, true_and, Int.not_lt, Int.not_le, not_or, not_and, Classical.not_not, ne_eq, not_true_eq_false, not_false_eq_true, Nat.reduceAdd] at kb
    have t0 := turn_c hr' (x := b0) (y := b1) (z := b2) (by omega) (by omega) (by omega)
    have t1 := turn_c hr' (x := b3) (y := b1) (z := b2) (by omega) (by omega) (by omega)
    have t2 := turn_c hr' (x := b0) (y := b4) (z := b2) (by omega) (by omega) (by omega)
    have t3 := turn_c hr' (x := b3) (y := b4) (z := b2) (by omega) (by omega) (by omega)
    have t4 := turn_c hr' (x := b0) (y := b1) (z := b5) (by omega) (by omega) (by omega)
    have t5 := turn_c hr' (x := b3) (y := b1) (z := b5) (by omega) (by omega) (by omega)
    have t6 := turn_c hr' (x := b0) (y := b4) (z := b5) (by omega) (by omega) (by omega)
    have t7 := turn_c hr' (x := b3) (y := b4) (z := b5) (by omega) (by omega) (by omega)
    have l8 := least8 hb hc
    refine ⟨fun h => absurd he h, fun _ => ?_⟩
    simp only [t0, t1, t2, t3, t4, t5, t6, t7, TX.sat, XB.prop, X.den, List.map_cons, List.map_nil, List.getElem?_cons_zero, List.getElem?_cons_succ, List.cons_append, List.nil_append, List.getD_cons_zero, List.getD_cons_succ, mkS, mkP, and_true, true_and, Int.not_lt, Int.not_le, not_or, not_and, Classical.not_not, ne_eq, not_true_eq_false, not_false_eq_true, hv, dec_cod, Nat.reduceAdd, show Int.toNat 0 = 0 from rfl, show dec (cod ([] : List Int)) = [] from dec_cod _]
    simp only [l8]
    simp only [turnedP, TX.sat, XB.prop, X.den, List.map_cons, List.map_nil, List.getElem?_cons_zero, List.getElem?_cons_succ, List.cons_append, List.nil_append, List.getD_cons_zero, List.getD_cons_succ, mkS, mkP, and_true, true_and, Int.not_lt, Int.not_le, not_or, not_and, Classical.not_not, ne_eq, not_true_eq_false, not_false_eq_true]
    simp
  · obtain ⟨e, hz⟩ := turned_no he
    refine ⟨fun _ => ?_, fun h => absurd h he⟩
    rw [hz]
    simp [z7]
set_option maxRecDepth 100000 in
theorem lifted (os : Os) (started : os.Started) (H : Type) (enc : TypeId × Value → H) :
    ReturnsInHanded {} Try.checked os 12 .any (Rows.boxCornersSpec.pre6 enc Try.prog Try.f12 Rows.boxCornersRow.domain false) (Rows.boxCornersSpec.post enc Try.prog Try.f12 false true false false) := by
  refine returnsInHanded_of_change (C := Try.checked) facts.own started (by kernel_rfl) Try.func12
    (ChangeSpec.witness6 (enc := enc) (C := Try.checked) false ⟨#[], #[.agg #[.int .i64 0, .int .i64 0, .int .i64 0, .int .i64 0, .int .i64 0, .int .i64 0, .int .i64 0, .int .i64 0, .int .i64 0], .agg #[.int .i64 0, .int .i64 0, .int .i64 0, .int .i64 0, .int .i64 0, .int .i64 0]], []⟩ 8 (by kernel_rfl) (by kernel_rfl) (by kernel_rfl) (by kernel_rfl)) ?_
  intro W base args ds gs before hval0 hW hcnd _
  have hval : ∀ (j : Nat) t v, Try.f12.params[j]? = some t → args[j]? = some v → Value.okWide Try.prog W .any base t v := hval0
  have hW' := hW
  obtain ⟨p, q, hA0, hV, rfl, hfz, hnd⟩ := hW
  have hA : DataW.TrodAll enc Try.prog W 0 (fun _ => true) true Try.f12.params.toList args.toList ds p := hA0
  rw [Try.params12] at hA hval
  obtain ⟨v0, vs0, d0, ds0, p0, q0, hargs, rfl, rfl, h0, r0⟩ := trodAll_cons hA
  obtain ⟨v1, vs1, d1, ds1, p1, q1, rfl, rfl, rfl, h1, r1⟩ := trodAll_cons r0
  obtain ⟨rfl, rfl, rfl⟩ := trodAll_nil r1
  obtain rfl : args = #[v0, v1] := by cases args; simp_all
  obtain ⟨rfl, rfl⟩ := trodVars_none hV
  have k0 := h0
  have lt0 : ∀ x ∈ p0, x.block < W.heap.size := by obtain ⟨m, hm⟩ := k0; exact DataW.trod_lt m _ _ _ hm
  have k1 := h1
  have lt1 : ∀ x ∈ p1, x.block < W.heap.size := by obtain ⟨m, hm⟩ := k1; exact DataW.trod_lt m _ _ _ hm
  obtain ⟨xs0, hv0, hr0⟩ := open_sh (sh := An 9) (by kernel_rfl) (by kernel_rfl) (hval 0 67 v0 rfl rfl) h0
  have hs0 : ShR (fun _ ks u n => SlOK W ks u n) (An 9) v0 xs0 := by rw [hv0]; exact ShR_mk rfl rfl (rangeOK_len hr0)
  obtain ⟨xs1, hv1, hr1⟩ := open_sh (sh := An 6) (by kernel_rfl) (by kernel_rfl) (hval 1 36 v1 rfl rfl) h1
  have hs1 : ShR (fun _ ks u n => SlOK W ks u n) (An 6) v1 xs1 := by rw [hv1]; exact ShR_mk rfl rfl (rangeOK_len hr1)
  clear hA0 hval0
  have hx : ShsR (fun _ ks u n => SlOK W ks u n) [An 9, An 6] [v0, v1] (xs0 ++ (xs1 ++ [])) := ⟨_, _, _, _, rfl, rfl, hs0, ⟨_, _, _, _, rfl, rfl, hs1, ⟨rfl, rfl⟩⟩⟩
  have hcalls := lawFL facts.mixed g_BoxCorners o_BoxCorners tree_BoxCorners W hx (pins xs0 hr0 xs1 hr1) (plain xs0 hr0 xs1 hr1) (fun p hp => by cases hp)
  refine hcalls.mono fun e W' ⟨he, bel⟩ => ?_
  subst he
  exact ⟨_, rfl, _, _, _, [], _, [], hW', trodAll_mk1 (shut_bool Try.underlying4 _), (trodAll_cons_mk (Below.trod facts.laidOut (by kernel_rfl) (of_decide_eq_true (by kernel_rfl)) k0 bel lt0) (trodAll_cons_mk (Below.trod facts.laidOut (by kernel_rfl) (of_decide_eq_true (by kernel_rfl)) k1 bel lt1) trodAll_mk0)), rfl, bel.frame _, fun h => by cases h⟩

theorem over : Rows.boxCornersRow.holds Try.pinned (OpenSpec.ofChange Rows.boxCornersSpec) :=
  OpenClaim.holds_of_wide 12 Try.f12 rfl rfl rfl rfl rfl rfl rfl ⟨rfl, rfl, rfl, rfl, rfl⟩ rfl rfl rfl rfl rfl (by kernel_rfl) Try.func12
    (facts.joined (by kernel_rfl) (by kernel_rfl) (by kernel_rfl) (by kernel_rfl) (by kernel_rfl) (by kernel_rfl) (by kernel_rfl) rfl rfl rfl rfl)
    (of_decide_eq_true (by kernel_rfl)) (by unfold Func.isWrapper; first | (rw [if_pos (by decide +kernel)]; kernel_rfl) | (rw [if_neg (by decide +kernel)]; exact ⟨rfl, rfl⟩))
    (fun os started H enc _ => lifted os started H enc)

/-- THE STATEMENT. -/
theorem proved : Rows.BoxCornersSaid := over
#print axioms proved

end Go.Proofs.Ytjbkcjbjllmhfaa.boxCorners
