/-
  The law BoxHolds is answered with true, whatever its arguments, which stay as they were.
-/
import Derived.Test.YtjbkcjbjllmhfaaRows
import Derived.Test.YtjbkcjbjllmhfaaFacts
import Derived.Test.YtjbkcjbjllmhfaaBox
set_option linter.unusedVariables false
set_option linter.unusedSimpArgs false
namespace Go.Proofs.Ytjbkcjbjllmhfaa.boxHolds
open Go.RowKit Go.ChangeShapes Go.WideShapes Go.ChangeAt Go.Sx fix

/-- A turned box' numbers. -/
theorem turned_ok {x : List Int} (h : (turnedL x).getD 6 0 = 0) : rows9 1024 x 0 = true ∧ boxB x 9 = true ∧ boxB (turnedP x) 0 = true ∧ turnedL x = turnedP x := by
  unfold turnedL at h ⊢
  split
  · rename_i h1
    rw [if_pos h1] at h
    split
    · rename_i h2
      rw [if_pos h2] at h
      split
      · rename_i h3
        exact ⟨h1, h2, h3, rfl⟩
      · rename_i h3
        rw [if_neg h3] at h
        exact absurd h (by decide)
    · rename_i h2
      rw [if_neg h2] at h
      exact absurd h (by decide)
  · rename_i h1
    rw [if_neg h1] at h
    exact absurd h (by decide)
theorem mid1 {m l h v : Int} (h1 : l ≤ v) (h2 : v ≤ h) : min (m * l) (m * h) ≤ m * v ∧ m * v ≤ max (m * l) (m * h) := by
  have := mul_between (y := m) h1 h2
  rw [Int.mul_comm l, Int.mul_comm h, Int.mul_comm v] at this
  exact this
theorem mid3 {a b c d e f x y z : Int} (h1 : min a b ≤ x ∧ x ≤ max a b) (h2 : min c d ≤ y ∧ y ≤ max c d) (h3 : min e f ≤ z ∧ z ≤ max e f) : (min a b + min c d + min e f) / 256 ≤ (x + y + z) / 256 ∧ (x + y + z) / 256 ≤ (max a b + max c d + max e f) / 256 :=
  ⟨Int.ediv_le_ediv (by omega) (by omega), Int.ediv_le_ediv (by omega) (by omega)⟩
theorem lies1 {m l h l' h' : Int} (h1 : l' ≤ l) (h0 : l ≤ h) (h2 : h ≤ h') : min (m * l') (m * h') ≤ min (m * l) (m * h) ∧ max (m * l) (m * h) ≤ max (m * l') (m * h') := by
  have k1 := mid1 (m := m) (l := l') (h := h') (v := l) (by omega) (by omega)
  have k2 := mid1 (m := m) (l := l') (h := h') (v := h) (by omega) (by omega)
  omega
theorem lies3 {a b c a' b' c' : Int} (h1 : a' ≤ a) (h2 : b' ≤ b) (h3 : c' ≤ c) : (a' + b' + c') / 256 ≤ (a + b + c) / 256 := Int.ediv_le_ediv (by omega) (by omega)
def G_BoxHolds : List Sum := [s_alive03, s_bturned, s_holds, s_turn, s_inside]
def I_BoxHolds : List Inf := [i_alive03, i_bturned, i_holds, i_turn, i_inside]
def t_BoxHolds : TX := (.callp 0 [] (.callp 1 [(.v 0), (.v 1), (.v 2), (.v 3), (.v 4), (.v 5), (.v 6), (.v 7), (.v 8), (.v 9), (.v 10), (.v 11), (.v 12), (.v 13), (.v 14)] (.callp 1 [(.v 0), (.v 1), (.v 2), (.v 3), (.v 4), (.v 5), (.v 6), (.v 7), (.v 8), (.v 15), (.v 16), (.v 17), (.v 18), (.v 19), (.v 20)] (.ite (.not (.eq (.v 31) (.c 0))) (.ret [(.c 1)])
(.callp 2 [(.v 9), (.v 10), (.v 11), (.v 12), (.v 13), (.v 14), (.v 21), (.v 22), (.v 23)] (.ite (.nz (.v 39)) (.callp 3 [(.v 0), (.v 1), (.v 2), (.v 3), (.v 4), (.v 5), (.v 6), (.v 7), (.v 8), (.v 21), (.v 22), (.v 23)] (.ite (.not (.eq (.v 43) (.c 0))) (.ret [(.c 0)])
(.callp 2 [(.v 25), (.v 26), (.v 27), (.v 28), (.v 29), (.v 30), (.v 40), (.v 41), (.v 42)] (.ite (.eq (.v 44) (.c 0)) (.ret [(.c 0)])
(.ite (.not (.eq (.v 38) (.c 0))) (.ret [(.c 1)])
(.callp 4 [(.v 9), (.v 10), (.v 11), (.v 12), (.v 13), (.v 14), (.v 15), (.v 16), (.v 17), (.v 18), (.v 19), (.v 20)] (.ite (.eq (.v 45) (.c 0)) (.ret [(.c 1)])
(.callp 4 [(.v 25), (.v 26), (.v 27), (.v 28), (.v 29), (.v 30), (.v 32), (.v 33), (.v 34), (.v 35), (.v 36), (.v 37)] (.ite (.nz (.v 46)) (.ret [(.c 1)])
(.ret [(.c 0)]))))))))))
(.ite (.not (.eq (.v 38) (.c 0))) (.ret [(.c 1)])
(.callp 4 [(.v 9), (.v 10), (.v 11), (.v 12), (.v 13), (.v 14), (.v 15), (.v 16), (.v 17), (.v 18), (.v 19), (.v 20)] (.ite (.eq (.v 40) (.c 0)) (.ret [(.c 1)])
(.callp 4 [(.v 25), (.v 26), (.v 27), (.v 28), (.v 29), (.v 30), (.v 32), (.v 33), (.v 34), (.v 35), (.v 36), (.v 37)] (.ite (.nz (.v 41)) (.ret [(.c 1)])
(.ret [(.c 0)]))))))))))))
theorem tree_BoxHolds : merge (optF I_BoxHolds [] (((An 9).ks ++ ((An 6).ks ++ ((An 6).ks ++ ((An 3).ks ++ [])))).map ivK) (symFn Try.prog G_BoxHolds 1000 13 [An 9, An 6, An 6, An 3] [Bo])) = t_BoxHolds := by kernel_rfl
theorem g_BoxHolds : Gok Try.prog G_BoxHolds := (more ok_alive03 (more ok_bturned (more ok_holds (more ok_turn (one ok_inside)))))
theorem o_BoxHolds : outsOK G_BoxHolds I_BoxHolds := (outsOK_cons inf_alive03 (outsOK_cons inf_bturned (outsOK_cons inf_holds (outsOK_cons inf_turn (outsOK_cons inf_inside outsOK_nil)))))
theorem plain (xs0 : List Int) (hr0 : rangeOK (An 9).ks xs0) (xs1 : List Int) (hr1 : rangeOK (An 6).ks xs1) (xs2 : List Int) (hr2 : rangeOK (An 6).ks xs2) (xs3 : List Int) (hr3 : rangeOK (An 3).ks xs3) : t_BoxHolds.sat G_BoxHolds [] (fun ys => ys = [1]) (xs0 ++ (xs1 ++ (xs2 ++ (xs3 ++ [])))) := by
  obtain ⟨l0, i0⟩ := An_inv hr0
  obtain ⟨a0, a1, a2, a3, a4, a5, a6, a7, a8, rfl⟩ := len9 l0
  obtain ⟨l1, i1⟩ := An_inv hr1
  obtain ⟨a9, a10, a11, a12, a13, a14, rfl⟩ := len6 l1
  obtain ⟨l2, i2⟩ := An_inv hr2
  obtain ⟨a15, a16, a17, a18, a19, a20, rfl⟩ := len6 l2
  obtain ⟨l3, i3⟩ := An_inv hr3
  obtain ⟨a21, a22, a23, rfl⟩ := len3 l3
  have hA := @turned_ok [a0, a1, a2, a3, a4, a5, a6, a7, a8, a9, a10, a11, a12, a13, a14]
  have hB := @turned_ok [a0, a1, a2, a3, a4, a5, a6, a7, a8, a15, a16, a17, a18, a19, a20]
  have e1 : rows9 1024 [a0, a1, a2, a3, a4, a5, a6, a7, a8, a21, a22, a23] 0 = rows9 1024 [a0, a1, a2, a3, a4, a5, a6, a7, a8, a9, a10, a11, a12, a13, a14] 0 := rfl
  simp only [t_BoxHolds, G_BoxHolds, s_alive03, s_bturned, s_holds, s_turn, s_inside, TX.sat, XB.prop, X.den, List.map_cons, List.map_nil, List.getElem?_cons_zero, List.getElem?_cons_succ, List.cons_append, List.nil_append, List.getD_cons_zero, List.getD_cons_succ, mkS, mkP, and_true, true_and, Int.not_lt, Int.not_le, not_or, not_and, Classical.not_not, ne_eq, not_true_eq_false, not_false_eq_true, sem_alive03, sem_alive, sem_bturned, sem_holds, sem_turn, sem_inside, ex7, ex4, turnL, e1]
  clear i0 i1 i2 i3 l0 l1 l2 l3
  by_cases ha : (turnedL [a0, a1, a2, a3, a4, a5, a6, a7, a8, a9, a10, a11, a12, a13, a14]).getD 6 0 = 0
  · obtain ⟨hr, hb, hc, hv⟩ := hA ha
    have kb := boxB_true.1 hb
    simp only [TX.sat, XB.prop, X.den, List.map_cons, List.map_nil, List.getElem?_cons_zero, List.getElem?_cons_succ, List.cons_append, List.nil_append, List.getD_cons_zero, List.getD_cons_succ, mkS, mkP, and_true, true_and, Int.not_lt, Int.not_le, not_or, not_and, Classical.not_not, ne_eq, not_true_eq_false, not_false_eq_true, Nat.reduceAdd] at kb
    rw [hv]
    have hpt : holdsB [a9, a10, a11, a12, a13, a14, a21, a22, a23] = true → all3 32768 [a0, a1, a2, a3, a4, a5, a6, a7, a8, a21, a22, a23] 9 = true ∧ holdsB (turnedP [a0, a1, a2, a3, a4, a5, a6, a7, a8, a9, a10, a11, a12, a13, a14] ++ [dot [a0, a1, a2, a3, a4, a5, a6, a7, a8, a21, a22, a23] 0 9 / 256, dot [a0, a1, a2, a3, a4, a5, a6, a7, a8, a21, a22, a23] 3 9 / 256, dot [a0, a1, a2, a3, a4, a5, a6, a7, a8, a21, a22, a23] 6 9 / 256]) = holdsB (turnedP [a0, a1, a2, a3, a4, a5, a6, a7, a8, a9, a10, a11, a12, a13, a14] ++ [dot [a0, a1, a2, a3, a4, a5, a6, a7, a8, a21, a22, a23] 0 9 / 256, dot [a0, a1, a2, a3, a4, a5, a6, a7, a8, a21, a22, a23] 3 9 / 256, dot [a0, a1, a2, a3, a4, a5, a6, a7, a8, a21, a22, a23] 6 9 / 256]) ∧
        ((tLow [a0, a1, a2, a3, a4, a5, a6, a7, a8, a9, a10, a11, a12, a13, a14] 0 ≤ dot [a0, a1, a2, a3, a4, a5, a6, a7, a8, a21, a22, a23] 0 9 / 256 ∧ tLow [a0, a1, a2, a3, a4, a5, a6, a7, a8, a9, a10, a11, a12, a13, a14] 3 ≤ dot [a0, a1, a2, a3, a4, a5, a6, a7, a8, a21, a22, a23] 3 9 / 256 ∧ tLow [a0, a1, a2, a3, a4, a5, a6, a7, a8, a9, a10, a11, a12, a13, a14] 6 ≤ dot [a0, a1, a2, a3, a4, a5, a6, a7, a8, a21, a22, a23] 6 9 / 256) ∧ (dot [a0, a1, a2, a3, a4, a5, a6, a7, a8, a21, a22, a23] 0 9 / 256 ≤ tHigh [a0, a1, a2, a3, a4, a5, a6, a7, a8, a9, a10, a11, a12, a13, a14] 0 ∧ dot [a0, a1, a2, a3, a4, a5, a6, a7, a8, a21, a22, a23] 3 9 / 256 ≤ tHigh [a0, a1, a2, a3, a4, a5, a6, a7, a8, a9, a10, a11, a12, a13, a14] 3 ∧ dot [a0, a1, a2, a3, a4, a5, a6, a7, a8, a21, a22, a23] 6 9 / 256 ≤ tHigh [a0, a1, a2, a3, a4, a5, a6, a7, a8, a9, a10, a11, a12, a13, a14] 6)) := by
      intro h
      simp only [holdsB, dec_true, TX.sat, XB.prop, X.den, List.map_cons, List.map_nil, List.getElem?_cons_zero, List.getElem?_cons_succ, List.cons_append, List.nil_append, List.getD_cons_zero, List.getD_cons_succ, mkS, mkP, and_true, true_and, Int.not_lt, Int.not_le, not_or, not_and, Classical.not_not, ne_eq, not_true_eq_false, not_false_eq_true] at h
      have m0 := mid3 (mid1 (m := a0) h.1.1 h.2.1) (mid1 (m := a1) h.1.2.1 h.2.2.1) (mid1 (m := a2) h.1.2.2 h.2.2.2)
      have m3 := mid3 (mid1 (m := a3) h.1.1 h.2.1) (mid1 (m := a4) h.1.2.1 h.2.2.1) (mid1 (m := a5) h.1.2.2 h.2.2.2)
      have m6 := mid3 (mid1 (m := a6) h.1.1 h.2.1) (mid1 (m := a7) h.1.2.1 h.2.2.1) (mid1 (m := a8) h.1.2.2 h.2.2.2)
      refine ⟨?_, rfl, ⟨m0.1, m3.1, m6.1⟩, m0.2, m3.2, m6.2⟩
      rw [all3_true]
      simp only [TX.sat, XB.prop, X.den, List.map_cons, List.map_nil, List.getElem?_cons_zero, List.getElem?_cons_succ, List.cons_append, List.nil_append, List.getD_cons_zero, List.getD_cons_succ, mkS, mkP, and_true, true_and, Int.not_lt, Int.not_le, not_or, not_and, Classical.not_not, ne_eq, not_true_eq_false, not_false_eq_true, Nat.reduceAdd]
      omega
    have hin : boxB [a0, a1, a2, a3, a4, a5, a6, a7, a8, a15, a16, a17, a18, a19, a20] 9 = true → insideB [a9, a10, a11, a12, a13, a14, a15, a16, a17, a18, a19, a20] = true → ((tLow [a0, a1, a2, a3, a4, a5, a6, a7, a8, a15, a16, a17, a18, a19, a20] 0 ≤ tLow [a0, a1, a2, a3, a4, a5, a6, a7, a8, a9, a10, a11, a12, a13, a14] 0 ∧ tLow [a0, a1, a2, a3, a4, a5, a6, a7, a8, a15, a16, a17, a18, a19, a20] 3 ≤ tLow [a0, a1, a2, a3, a4, a5, a6, a7, a8, a9, a10, a11, a12, a13, a14] 3 ∧ tLow [a0, a1, a2, a3, a4, a5, a6, a7, a8, a15, a16, a17, a18, a19, a20] 6 ≤ tLow [a0, a1, a2, a3, a4, a5, a6, a7, a8, a9, a10, a11, a12, a13, a14] 6) ∧ (tHigh [a0, a1, a2, a3, a4, a5, a6, a7, a8, a9, a10, a11, a12, a13, a14] 0 ≤ tHigh [a0, a1, a2, a3, a4, a5, a6, a7, a8, a15, a16, a17, a18, a19, a20] 0 ∧ tHigh [a0, a1, a2, a3, a4, a5, a6, a7, a8, a9, a10, a11, a12, a13, a14] 3 ≤ tHigh [a0, a1, a2, a3, a4, a5, a6, a7, a8, a15, a16, a17, a18, a19, a20] 3 ∧ tHigh [a0, a1, a2, a3, a4, a5, a6, a7, a8, a9, a10, a11, a12, a13, a14] 6 ≤ tHigh [a0, a1, a2, a3, a4, a5, a6, a7, a8, a15, a16, a17, a18, a19, a20] 6)) := by
      intro hb' h
      have kb' := boxB_true.1 hb'
      simp only [TX.sat, XB.prop, X.den, List.map_cons, List.map_nil, List.getElem?_cons_zero, List.getElem?_cons_succ, List.cons_append, List.nil_append, List.getD_cons_zero, List.getD_cons_succ, mkS, mkP, and_true, true_and, Int.not_lt, Int.not_le, not_or, not_and, Classical.not_not, ne_eq, not_true_eq_false, not_false_eq_true, Nat.reduceAdd] at kb'
      simp only [insideB, dec_true, TX.sat, XB.prop, X.den, List.map_cons, List.map_nil, List.getElem?_cons_zero, List.getElem?_cons_succ, List.cons_append, List.nil_append, List.getD_cons_zero, List.getD_cons_succ, mkS, mkP, and_true, true_and, Int.not_lt, Int.not_le, not_or, not_and, Classical.not_not, ne_eq, not_true_eq_false, not_false_eq_true] at h
      have q0 := lies1 (m := a0) h.1.1 kb.2.2.1 h.2.1
      have q1 := lies1 (m := a1) h.1.2.1 kb.2.2.2.1 h.2.2.1
      have q2 := lies1 (m := a2) h.1.2.2 kb.2.2.2.2 h.2.2.2
      have q3 := lies1 (m := a3) h.1.1 kb.2.2.1 h.2.1
      have q4 := lies1 (m := a4) h.1.2.1 kb.2.2.2.1 h.2.2.1
      have q5 := lies1 (m := a5) h.1.2.2 kb.2.2.2.2 h.2.2.2
      have q6 := lies1 (m := a6) h.1.1 kb.2.2.1 h.2.1
      have q7 := lies1 (m := a7) h.1.2.1 kb.2.2.2.1 h.2.2.1
      have q8 := lies1 (m := a8) h.1.2.2 kb.2.2.2.2 h.2.2.2
      exact ⟨⟨lies3 q0.1 q1.1 q2.1, lies3 q3.1 q4.1 q5.1, lies3 q6.1 q7.1 q8.1⟩, lies3 q0.2 q1.2 q2.2, lies3 q3.2 q4.2 q5.2, lies3 q6.2 q7.2 q8.2⟩
    have hin' : (turnedL [a0, a1, a2, a3, a4, a5, a6, a7, a8, a15, a16, a17, a18, a19, a20]).getD 6 0 = 0 → insideB [a9, a10, a11, a12, a13, a14, a15, a16, a17, a18, a19, a20] = true → insideB [tLow [a0, a1, a2, a3, a4, a5, a6, a7, a8, a9, a10, a11, a12, a13, a14] 0, tLow [a0, a1, a2, a3, a4, a5, a6, a7, a8, a9, a10, a11, a12, a13, a14] 3, tLow [a0, a1, a2, a3, a4, a5, a6, a7, a8, a9, a10, a11, a12, a13, a14] 6, tHigh [a0, a1, a2, a3, a4, a5, a6, a7, a8, a9, a10, a11, a12, a13, a14] 0, tHigh [a0, a1, a2, a3, a4, a5, a6, a7, a8, a9, a10, a11, a12, a13, a14] 3, tHigh [a0, a1, a2, a3, a4, a5, a6, a7, a8, a9, a10, a11, a12, a13, a14] 6, (turnedL [a0, a1, a2, a3, a4, a5, a6, a7, a8, a15, a16, a17, a18, a19, a20]).getD 0 0, (turnedL [a0, a1, a2, a3, a4, a5, a6, a7, a8, a15, a16, a17, a18, a19, a20]).getD 1 0, (turnedL [a0, a1, a2, a3, a4, a5, a6, a7, a8, a15, a16, a17, a18, a19, a20]).getD 2 0, (turnedL [a0, a1, a2, a3, a4, a5, a6, a7, a8, a15, a16, a17, a18, a19, a20]).getD 3 0, (turnedL [a0, a1, a2, a3, a4, a5, a6, a7, a8, a15, a16, a17, a18, a19, a20]).getD 4 0, (turnedL [a0, a1, a2, a3, a4, a5, a6, a7, a8, a15, a16, a17, a18, a19, a20]).getD 5 0] = true := by
      intro h1 h2
      obtain ⟨_, hb', _, hw⟩ := hB h1
      have := hin hb' h2
      rw [hw]
      simp only [insideB, dec_true, turnedP, TX.sat, XB.prop, X.den, List.map_cons, List.map_nil, List.getElem?_cons_zero, List.getElem?_cons_succ, List.cons_append, List.nil_append, List.getD_cons_zero, List.getD_cons_succ, mkS, mkP, and_true, true_and, Int.not_lt, Int.not_le, not_or, not_and, Classical.not_not, ne_eq, not_true_eq_false, not_false_eq_true]
      exact this
    simp only [turnedP, TX.sat, XB.prop, X.den, List.map_cons, List.map_nil, List.getElem?_cons_zero, List.getElem?_cons_succ, List.cons_append, List.nil_append, List.getD_cons_zero, List.getD_cons_succ, mkS, mkP, and_true, true_and, Int.not_lt, Int.not_le, not_or, not_and, Classical.not_not, ne_eq, not_true_eq_false, not_false_eq_true]
    clear hA hB hv hin kb e1 hc hb
    have hr' : rows9 1024 [a0, a1, a2, a3, a4, a5, a6, a7, a8, a9, a10, a11, a12, a13, a14] 0 = true := hr
    by_cases hh : holdsB [a9, a10, a11, a12, a13, a14, a21, a22, a23] = true
    · obtain ⟨h32, _, hd⟩ := hpt hh
      have hhd : holdsB [tLow [a0, a1, a2, a3, a4, a5, a6, a7, a8, a9, a10, a11, a12, a13, a14] 0, tLow [a0, a1, a2, a3, a4, a5, a6, a7, a8, a9, a10, a11, a12, a13, a14] 3, tLow [a0, a1, a2, a3, a4, a5, a6, a7, a8, a9, a10, a11, a12, a13, a14] 6, tHigh [a0, a1, a2, a3, a4, a5, a6, a7, a8, a9, a10, a11, a12, a13, a14] 0, tHigh [a0, a1, a2, a3, a4, a5, a6, a7, a8, a9, a10, a11, a12, a13, a14] 3, tHigh [a0, a1, a2, a3, a4, a5, a6, a7, a8, a9, a10, a11, a12, a13, a14] 6, dot [a0, a1, a2, a3, a4, a5, a6, a7, a8, a21, a22, a23] 0 9 / 256, dot [a0, a1, a2, a3, a4, a5, a6, a7, a8, a21, a22, a23] 3 9 / 256, dot [a0, a1, a2, a3, a4, a5, a6, a7, a8, a21, a22, a23] 6 9 / 256] = true := by
        simp only [holdsB, dec_true, TX.sat, XB.prop, X.den, List.map_cons, List.map_nil, List.getElem?_cons_zero, List.getElem?_cons_succ, List.cons_append, List.nil_append, List.getD_cons_zero, List.getD_cons_succ, mkS, mkP, and_true, true_and, Int.not_lt, Int.not_le, not_or, not_and, Classical.not_not, ne_eq, not_true_eq_false, not_false_eq_true]
        exact hd
      simp only [hh, hr', h32, Bool.and_self, b01, if_true, reduceIte, TX.sat, XB.prop, X.den, List.map_cons, List.map_nil, List.getElem?_cons_zero, List.getElem?_cons_succ, List.cons_append, List.nil_append, List.getD_cons_zero, List.getD_cons_succ, mkS, mkP, and_true, true_and, Int.not_lt, Int.not_le, not_or, not_and, Classical.not_not, ne_eq, not_true_eq_false, not_false_eq_true, hhd]
      generalize (turnedL [a0, a1, a2, a3, a4, a5, a6, a7, a8, a15, a16, a17, a18, a19, a20]).getD 6 0 = g at *
      by_cases hi : insideB [a9, a10, a11, a12, a13, a14, a15, a16, a17, a18, a19, a20] = true
      · rw [if_pos hi]
        by_cases hg : g = 0
        · rw [if_pos (hin' hg hi)]; simp
        · simp [hg]
      · rw [if_neg hi]; simp
    · simp only [hh, b01, if_false, reduceIte, Bool.false_eq_true]
      generalize (turnedL [a0, a1, a2, a3, a4, a5, a6, a7, a8, a15, a16, a17, a18, a19, a20]).getD 6 0 = g at *
      by_cases hi : insideB [a9, a10, a11, a12, a13, a14, a15, a16, a17, a18, a19, a20] = true
      · rw [if_pos hi]
        by_cases hg : g = 0
        · rw [if_pos (hin' hg hi)]; simp
        · simp [hg]
      · rw [if_neg hi]; simp
  · exact ⟨fun _ => trivial, fun h => absurd h ha⟩
theorem range_nil : rangeOK [] [] := trivial
set_option maxRecDepth 100000 in
theorem lifted (os : Os) (started : os.Started) (H : Type) (enc : TypeId × Value → H) :
    ReturnsInHanded {} Try.checked os 13 .any (Rows.boxHoldsSpec.pre6 enc Try.prog Try.f13 Rows.boxHoldsRow.domain false) (Rows.boxHoldsSpec.post enc Try.prog Try.f13 false true false false) := by
  refine returnsInHanded_of_change (C := Try.checked) facts.own started (by kernel_rfl) Try.func13
    (ChangeSpec.witness6 (enc := enc) (C := Try.checked) false ⟨#[], #[.agg #[.int .i64 0, .int .i64 0, .int .i64 0, .int .i64 0, .int .i64 0, .int .i64 0, .int .i64 0, .int .i64 0, .int .i64 0], .agg #[.int .i64 0, .int .i64 0, .int .i64 0, .int .i64 0, .int .i64 0, .int .i64 0], .agg #[.int .i64 0, .int .i64 0, .int .i64 0, .int .i64 0, .int .i64 0, .int .i64 0], .agg #[.int .i64 0, .int .i64 0, .int .i64 0]], []⟩ 8 (by kernel_rfl) (by kernel_rfl) (by kernel_rfl) (by kernel_rfl)) ?_
  intro W base args ds gs before hval0 hW hcnd _
  have hval : ∀ (j : Nat) t v, Try.f13.params[j]? = some t → args[j]? = some v → Value.okWide Try.prog W .any base t v := hval0
  have hW' := hW
  obtain ⟨p, q, hA0, hV, rfl, hfz, hnd⟩ := hW
  have hA : DataW.TrodAll enc Try.prog W 0 (fun _ => true) true Try.f13.params.toList args.toList ds p := hA0
  rw [Try.params13] at hA hval
  obtain ⟨v0, vs0, d0, ds0, p0, q0, hargs, rfl, rfl, h0, r0⟩ := trodAll_cons hA
  obtain ⟨v1, vs1, d1, ds1, p1, q1, rfl, rfl, rfl, h1, r1⟩ := trodAll_cons r0
  obtain ⟨v2, vs2, d2, ds2, p2, q2, rfl, rfl, rfl, h2, r2⟩ := trodAll_cons r1
  obtain ⟨v3, vs3, d3, ds3, p3, q3, rfl, rfl, rfl, h3, r3⟩ := trodAll_cons r2
  obtain ⟨rfl, rfl, rfl⟩ := trodAll_nil r3
  obtain rfl : args = #[v0, v1, v2, v3] := by cases args; simp_all
  obtain ⟨rfl, rfl⟩ := trodVars_none hV
  have k0 := h0
  have lt0 : ∀ x ∈ p0, x.block < W.heap.size := by obtain ⟨m, hm⟩ := k0; exact DataW.trod_lt m _ _ _ hm
  have k1 := h1
  have lt1 : ∀ x ∈ p1, x.block < W.heap.size := by obtain ⟨m, hm⟩ := k1; exact DataW.trod_lt m _ _ _ hm
  have k2 := h2
  have lt2 : ∀ x ∈ p2, x.block < W.heap.size := by obtain ⟨m, hm⟩ := k2; exact DataW.trod_lt m _ _ _ hm
  have k3 := h3
  have lt3 : ∀ x ∈ p3, x.block < W.heap.size := by obtain ⟨m, hm⟩ := k3; exact DataW.trod_lt m _ _ _ hm
  obtain ⟨xs0, hv0, hr0⟩ := open_sh (sh := An 9) (by kernel_rfl) (by kernel_rfl) (hval 0 67 v0 rfl rfl) h0
  obtain ⟨xs1, hv1, hr1⟩ := open_sh (sh := An 6) (by kernel_rfl) (by kernel_rfl) (hval 1 36 v1 rfl rfl) h1
  obtain ⟨xs2, hv2, hr2⟩ := open_sh (sh := An 6) (by kernel_rfl) (by kernel_rfl) (hval 2 36 v2 rfl rfl) h2
  obtain ⟨xs3, hv3, hr3⟩ := open_sh (sh := An 3) (by kernel_rfl) (by kernel_rfl) (hval 3 23 v3 rfl rfl) h3
  clear hA0 hval0
  have hl0 := rangeOK_len hr0
  have hl1 := rangeOK_len hr1
  have hl2 := rangeOK_len hr2
  have hl3 := rangeOK_len hr3
  have hxs : #[v0, v1, v2, v3] = (mkShs [An 9, An 6, An 6, An 3] (xs0 ++ (xs1 ++ (xs2 ++ (xs3 ++ []))))).toArray := by
    rw [mkShs_cons hl0, mkShs_cons hl1, mkShs_cons hl2, mkShs_cons hl3]
    simp [mkShs, hv0, hv1, hv2, hv3]
  have hlen : (xs0 ++ (xs1 ++ (xs2 ++ (xs3 ++ [])))).length = total [An 9, An 6, An 6, An 3] := by
    simp only [List.length_append, List.length_nil, hl0, hl1, hl2, hl3]
    rfl
  have hcalls := lawF facts.mixed g_BoxHolds o_BoxHolds tree_BoxHolds hlen (range_vs ((rangeOK_app hr0 (rangeOK_app hr1 (rangeOK_app hr2 (rangeOK_app hr3 range_nil)))) : rangeOK _ _)) (plain xs0 hr0 xs1 hr1 xs2 hr2 xs3 hr3) W
  rw [← hxs] at hcalls
  refine hcalls.mono fun e W' ⟨he, bel⟩ => ?_
  subst he
  exact ⟨_, rfl, _, _, _, [], _, [], hW', trodAll_mk1 (shut_bool Try.underlying4 _), (trodAll_cons_mk (Below.trod facts.laidOut (by kernel_rfl) (of_decide_eq_true (by kernel_rfl)) k0 bel lt0) (trodAll_cons_mk (Below.trod facts.laidOut (by kernel_rfl) (of_decide_eq_true (by kernel_rfl)) k1 bel lt1) (trodAll_cons_mk (Below.trod facts.laidOut (by kernel_rfl) (of_decide_eq_true (by kernel_rfl)) k2 bel lt2) (trodAll_cons_mk (Below.trod facts.laidOut (by kernel_rfl) (of_decide_eq_true (by kernel_rfl)) k3 bel lt3) trodAll_mk0)))), rfl, bel.frame _, fun h => by cases h⟩

theorem over : Rows.boxHoldsRow.holds Try.pinned (OpenSpec.ofChange Rows.boxHoldsSpec) :=
  OpenClaim.holds_of_wide 13 Try.f13 rfl rfl rfl rfl rfl rfl rfl ⟨rfl, rfl, rfl, rfl, rfl⟩ rfl rfl rfl rfl rfl (by kernel_rfl) Try.func13
    (facts.joined (by kernel_rfl) (by kernel_rfl) (by kernel_rfl) (by kernel_rfl) (by kernel_rfl) (by kernel_rfl) (by kernel_rfl) rfl rfl rfl rfl)
    (of_decide_eq_true (by kernel_rfl)) (by unfold Func.isWrapper; first | (rw [if_pos (by decide +kernel)]; kernel_rfl) | (rw [if_neg (by decide +kernel)]; exact ⟨rfl, rfl⟩))
    (fun os started H enc _ => lifted os started H enc)

/-- THE STATEMENT. -/
theorem proved : Rows.BoxHoldsSaid := over
#print axioms proved

end Go.Proofs.Ytjbkcjbjllmhfaa.boxHolds
