/-
  A box turned by its corners.
-/
import Derived.Test.YtgcoidbaoigkeaaGreatDoorFBox
set_option linter.unusedVariables false
set_option linter.unusedSimpArgs false
namespace Go.Proofs.YtgcoidbaoigkeaaGreatDoor.fix
open Go.RowKit Go.Sx

theorem pin_turned_vs {m0 m1 m2 m3 m4 m5 m6 m7 m8 x y z : Int} (h : ((-1024 ≤ m0 ∧ m0 ≤ 1024) ∧ (-1024 ≤ m1 ∧ m1 ≤ 1024) ∧ (-1024 ≤ m2 ∧ m2 ≤ 1024)) ∧ ((-1024 ≤ m3 ∧ m3 ≤ 1024) ∧ (-1024 ≤ m4 ∧ m4 ≤ 1024) ∧ (-1024 ≤ m5 ∧ m5 ≤ 1024)) ∧ ((-1024 ≤ m6 ∧ m6 ≤ 1024) ∧ (-1024 ≤ m7 ∧ m7 ≤ 1024) ∧ (-1024 ≤ m8 ∧ m8 ≤ 1024)))
    (hx : -32768 ≤ x ∧ x ≤ 32768) (hy : -32768 ≤ y ∧ y ≤ 32768) (hz : -32768 ≤ z ∧ z ≤ 32768) : vsOK pin_turned [m0, m1, m2, m3, m4, m5, m6, m7, m8, x, y, z] :=
  vsOK_cons h.1.1 (vsOK_cons h.1.2.1 (vsOK_cons h.1.2.2 (vsOK_cons h.2.1.1 (vsOK_cons h.2.1.2.1 (vsOK_cons h.2.1.2.2 (vsOK_cons h.2.2.1 (vsOK_cons h.2.2.2.1 (vsOK_cons h.2.2.2.2 (vsOK_cons hx (vsOK_cons hy (vsOK_cons hz vsOK_nil)))))))))))
theorem zs6 {a b c d e f : Int} (ha : -9223372036854775808 ≤ a ∧ a ≤ 9223372036854775807) (hb : -9223372036854775808 ≤ b ∧ b ≤ 9223372036854775807) (hc : -9223372036854775808 ≤ c ∧ c ≤ 9223372036854775807) (hd : -9223372036854775808 ≤ d ∧ d ≤ 9223372036854775807) (he : -9223372036854775808 ≤ e ∧ e ≤ 9223372036854775807) (hf : -9223372036854775808 ≤ f ∧ f ≤ 9223372036854775807) : vsOK pin_rbmay [a, b, c, d, e, f] :=
  vsOK_cons ha (vsOK_cons hb (vsOK_cons hc (vsOK_cons hd (vsOK_cons he (vsOK_cons hf vsOK_nil)))))
theorem low_in {p q r s t u : Int} (hp : -33554432 ≤ p ∧ p ≤ 33554432) (hq : -33554432 ≤ q ∧ q ≤ 33554432) (hr : -33554432 ≤ r ∧ r ≤ 33554432) (hs : -33554432 ≤ s ∧ s ≤ 33554432) (ht : -33554432 ≤ t ∧ t ≤ 33554432) (hu : -33554432 ≤ u ∧ u ≤ 33554432) :
    (-9223372036854775808 ≤ (min p q + min r s + min t u) / 256 ∧ (min p q + min r s + min t u) / 256 ≤ 9223372036854775807) ∧ (-9223372036854775808 ≤ (max p q + max r s + max t u) / 256 ∧ (max p q + max r s + max t u) / 256 ≤ 9223372036854775807) := by omega
noncomputable def G_rbturned : List Sum := [s_rrows, s_rbmay, s_turned]
def I_rbturned : List Inf := [i_rrows, i_rbmay, i_turned]
def t_rbturned : TX := (.callp 0 [(.v 0), (.v 1), (.v 2), (.v 3), (.v 4), (.v 5), (.v 6), (.v 7), (.v 8), (.c 1024)] (.ite (.eq (.v 15) (.c 0)) (.ret [(.c 0), (.c 0), (.c 0), (.c 0), (.c 0), (.c 0), (.c 2)])
(.callp 1 [(.v 9), (.v 10), (.v 11), (.v 12), (.v 13), (.v 14)] (.ite (.eq (.v 16) (.c 0)) (.ret [(.c 0), (.c 0), (.c 0), (.c 0), (.c 0), (.c 0), (.c 8)])
(.call 2 [(.v 0), (.v 1), (.v 2), (.v 3), (.v 4), (.v 5), (.v 6), (.v 7), (.v 8), (.v 9), (.v 10), (.v 11)] (.call 2 [(.v 0), (.v 1), (.v 2), (.v 3), (.v 4), (.v 5), (.v 6), (.v 7), (.v 8), (.v 12), (.v 10), (.v 11)] (.call 2 [(.v 0), (.v 1), (.v 2), (.v 3), (.v 4), (.v 5), (.v 6), (.v 7), (.v 8), (.v 9), (.v 13), (.v 11)] (.call 2 [(.v 0), (.v 1), (.v 2), (.v 3), (.v 4), (.v 5), (.v 6), (.v 7), (.v 8), (.v 12), (.v 13), (.v 11)] (.call 2 [(.v 0), (.v 1), (.v 2), (.v 3), (.v 4), (.v 5), (.v 6), (.v 7), (.v 8), (.v 9), (.v 10), (.v 14)] (.call 2 [(.v 0), (.v 1), (.v 2), (.v 3), (.v 4), (.v 5), (.v 6), (.v 7), (.v 8), (.v 12), (.v 10), (.v 14)] (.call 2 [(.v 0), (.v 1), (.v 2), (.v 3), (.v 4), (.v 5), (.v 6), (.v 7), (.v 8), (.v 9), (.v 13), (.v 14)] (.call 2 [(.v 0), (.v 1), (.v 2), (.v 3), (.v 4), (.v 5), (.v 6), (.v 7), (.v 8), (.v 12), (.v 13), (.v 14)] (.call 1 [(.mn (.mn (.mn (.mn (.mn (.mn (.mn (.v 17) (.v 20)) (.v 23)) (.v 26)) (.v 29)) (.v 32)) (.v 35)) (.v 38)), (.mn (.mn (.mn (.mn (.mn (.mn (.mn (.v 18) (.v 21)) (.v 24)) (.v 27)) (.v 30)) (.v 33)) (.v 36)) (.v 39)), (.mn (.mn (.mn (.mn (.mn (.mn (.mn (.v 19) (.v 22)) (.v 25)) (.v 28)) (.v 31)) (.v 34)) (.v 37)) (.v 40)), (.mx (.mx (.mx (.mx (.mx (.mx (.mx (.v 17) (.v 20)) (.v 23)) (.v 26)) (.v 29)) (.v 32)) (.v 35)) (.v 38)), (.mx (.mx (.mx (.mx (.mx (.mx (.mx (.v 18) (.v 21)) (.v 24)) (.v 27)) (.v 30)) (.v 33)) (.v 36)) (.v 39)), (.mx (.mx (.mx (.mx (.mx (.mx (.mx (.v 19) (.v 22)) (.v 25)) (.v 28)) (.v 31)) (.v 34)) (.v 37)) (.v 40))] (.ite (.eq (.v 41) (.c 0)) (.ret [(.c 0), (.c 0), (.c 0), (.c 0), (.c 0), (.c 0), (.c 20)])
(.ret [(.mn (.mn (.mn (.mn (.mn (.mn (.mn (.v 17) (.v 20)) (.v 23)) (.v 26)) (.v 29)) (.v 32)) (.v 35)) (.v 38)), (.mn (.mn (.mn (.mn (.mn (.mn (.mn (.v 18) (.v 21)) (.v 24)) (.v 27)) (.v 30)) (.v 33)) (.v 36)) (.v 39)), (.mn (.mn (.mn (.mn (.mn (.mn (.mn (.v 19) (.v 22)) (.v 25)) (.v 28)) (.v 31)) (.v 34)) (.v 37)) (.v 40)), (.mx (.mx (.mx (.mx (.mx (.mx (.mx (.v 17) (.v 20)) (.v 23)) (.v 26)) (.v 29)) (.v 32)) (.v 35)) (.v 38)), (.mx (.mx (.mx (.mx (.mx (.mx (.mx (.v 18) (.v 21)) (.v 24)) (.v 27)) (.v 30)) (.v 33)) (.v 36)) (.v 39)), (.mx (.mx (.mx (.mx (.mx (.mx (.mx (.v 19) (.v 22)) (.v 25)) (.v 28)) (.v 31)) (.v 34)) (.v 37)) (.v 40)), (.c 0)])))))))))))))))
theorem tree_rbturned : merge (optFL [] I_rbturned [] pin_rbturned (symFnL Tryz.prog noLp gl0 G_rbturned 1000 110 [An 9, An 6] [An 6, I1])) = t_rbturned := by kernel_rfl
theorem g_rbturned : Gok Tryz.prog G_rbturned := (more ok_rrows (more ok_rbmay (fix.one ok_turned)))
theorem o_rbturned : outsOK G_rbturned I_rbturned := (outsOK_cons inf_rrows (outsOK_cons inf_rbmay (outsOK_cons inf_turned outsOK_nil)))
theorem ok_rbturned : s_rbturned.ok Tryz.prog := Sum.okF facts.mixed g_rbturned o_rbturned tree_rbturned rfl (fun _ => rfl) (by
  intro xs hx hp
  obtain ⟨a0, a1, a2, a3, a4, a5, a6, a7, a8, a9, a10, a11, a12, a13, a14, rfl⟩ := len15 hx
  have e0 : rows9 1024 [a0, a1, a2, a3, a4, a5, a6, a7, a8, 1024] 0 = rows9 1024 [a0, a1, a2, a3, a4, a5, a6, a7, a8, a9, a10, a11, a12, a13, a14] 0 := rfl
  have e1 : boxB [a9, a10, a11, a12, a13, a14] 0 = boxB [a0, a1, a2, a3, a4, a5, a6, a7, a8, a9, a10, a11, a12, a13, a14] 9 := rfl
  clear hx hp
  by_cases hr : rows9 1024 [a0, a1, a2, a3, a4, a5, a6, a7, a8, a9, a10, a11, a12, a13, a14] 0 = true
  · have kr := rows_in hr
    simp only [TX.sat, XB.prop, X.den, List.map_cons, List.map_nil, List.getElem?_cons_zero, List.getElem?_cons_succ, List.cons_append, List.nil_append, List.getD_cons_zero, List.getD_cons_succ, mkS, mkP, and_true, true_and, Int.not_lt, Int.not_le, not_or, not_and, Classical.not_not, ne_eq, not_true_eq_false, not_false_eq_true] at kr
    by_cases hb : boxB [a0, a1, a2, a3, a4, a5, a6, a7, a8, a9, a10, a11, a12, a13, a14] 9 = true
    · have kb := boxB_true.1 hb
      simp only [TX.sat, XB.prop, X.den, List.map_cons, List.map_nil, List.getElem?_cons_zero, List.getElem?_cons_succ, List.cons_append, List.nil_append, List.getD_cons_zero, List.getD_cons_succ, mkS, mkP, and_true, true_and, Int.not_lt, Int.not_le, not_or, not_and, Classical.not_not, ne_eq, not_true_eq_false, not_false_eq_true, Nat.reduceAdd] at kb
      have e2 : boxB [tLow [a0, a1, a2, a3, a4, a5, a6, a7, a8, a9, a10, a11, a12, a13, a14] 0, tLow [a0, a1, a2, a3, a4, a5, a6, a7, a8, a9, a10, a11, a12, a13, a14] 3, tLow [a0, a1, a2, a3, a4, a5, a6, a7, a8, a9, a10, a11, a12, a13, a14] 6, tHigh [a0, a1, a2, a3, a4, a5, a6, a7, a8, a9, a10, a11, a12, a13, a14] 0, tHigh [a0, a1, a2, a3, a4, a5, a6, a7, a8, a9, a10, a11, a12, a13, a14] 3, tHigh [a0, a1, a2, a3, a4, a5, a6, a7, a8, a9, a10, a11, a12, a13, a14] 6] 0 = boxB (turnedP [a0, a1, a2, a3, a4, a5, a6, a7, a8, a9, a10, a11, a12, a13, a14]) 0 := rfl
      simp only [tLow, tHigh, TX.sat, XB.prop, X.den, List.map_cons, List.map_nil, List.getElem?_cons_zero, List.getElem?_cons_succ, List.cons_append, List.nil_append, List.getD_cons_zero, List.getD_cons_succ, mkS, mkP, and_true, true_and, Int.not_lt, Int.not_le, not_or, not_and, Classical.not_not, ne_eq, not_true_eq_false, not_false_eq_true, Nat.reduceAdd, Nat.zero_add] at e2
      obtain ⟨l0, u0⟩ := low_in (prod_in kr.1.1 kb.1.1) (prod_in kr.1.1 kb.2.1.1) (prod_in kr.1.2.1 kb.1.2.1) (prod_in kr.1.2.1 kb.2.1.2.1) (prod_in kr.1.2.2 kb.1.2.2) (prod_in kr.1.2.2 kb.2.1.2.2)
      obtain ⟨l3, u3⟩ := low_in (prod_in kr.2.1.1 kb.1.1) (prod_in kr.2.1.1 kb.2.1.1) (prod_in kr.2.1.2.1 kb.1.2.1) (prod_in kr.2.1.2.1 kb.2.1.2.1) (prod_in kr.2.1.2.2 kb.1.2.2) (prod_in kr.2.1.2.2 kb.2.1.2.2)
      obtain ⟨l6, u6⟩ := low_in (prod_in kr.2.2.1 kb.1.1) (prod_in kr.2.2.1 kb.2.1.1) (prod_in kr.2.2.2.1 kb.1.2.1) (prod_in kr.2.2.2.1 kb.2.1.2.1) (prod_in kr.2.2.2.2 kb.1.2.2) (prod_in kr.2.2.2.2 kb.2.1.2.2)
      simp only [t_rbturned, G_rbturned, s_rrows, s_rbmay, s_turned, TX.sat, XB.prop, X.den, List.map_cons, List.map_nil, List.getElem?_cons_zero, List.getElem?_cons_succ, List.cons_append, List.nil_append, List.getD_cons_zero, List.getD_cons_succ, mkS, mkP, and_true, true_and, Int.not_lt, Int.not_le, not_or, not_and, Classical.not_not, ne_eq, not_true_eq_false, not_false_eq_true, sem_rrows, sem_rbmay, sem_turned, sem_turn0, dot, Nat.reduceAdd, Nat.zero_add, e0, e1, hb, b01, if_true, reduceIte, sem_rbturned, sem_bturned, turnedL, hr, min8, max8, e2]
      refine ⟨fun h => absurd h (by decide), fun _ => ⟨fun h => absurd h (by decide), fun _ => ?_⟩⟩
      refine ⟨pin_turned_vs kr kb.1.1 kb.1.2.1 kb.1.2.2, pin_turned_vs kr kb.2.1.1 kb.1.2.1 kb.1.2.2, pin_turned_vs kr kb.1.1 kb.2.1.2.1 kb.1.2.2, pin_turned_vs kr kb.2.1.1 kb.2.1.2.1 kb.1.2.2, pin_turned_vs kr kb.1.1 kb.1.2.1 kb.2.1.2.2, pin_turned_vs kr kb.2.1.1 kb.1.2.1 kb.2.1.2.2, pin_turned_vs kr kb.1.1 kb.2.1.2.1 kb.2.1.2.2, pin_turned_vs kr kb.2.1.1 kb.2.1.2.1 kb.2.1.2.2, zs6 l0 l3 l6 u0 u3 u6, ?_⟩
      clear l0 l3 l6 u0 u3 u6 e0 e1 e2
      refine ⟨fun h => ?_, fun h => ?_⟩
      · have : boxB (turnedP [a0, a1, a2, a3, a4, a5, a6, a7, a8, a9, a10, a11, a12, a13, a14]) 0 = false := by
          cases hh : boxB (turnedP [a0, a1, a2, a3, a4, a5, a6, a7, a8, a9, a10, a11, a12, a13, a14]) 0 with
          | false => rfl
          | true => rw [hh] at h; exact absurd h (by simp)
        rw [this]; rfl
      · have : boxB (turnedP [a0, a1, a2, a3, a4, a5, a6, a7, a8, a9, a10, a11, a12, a13, a14]) 0 = true := by
          cases hh : boxB (turnedP [a0, a1, a2, a3, a4, a5, a6, a7, a8, a9, a10, a11, a12, a13, a14]) 0 with
          | true => rfl
          | false => rw [hh] at h; exact absurd h (by simp)
        rw [this]; rfl
    · simp only [t_rbturned, G_rbturned, s_rrows, s_rbmay, TX.sat, XB.prop, X.den, List.map_cons, List.map_nil, List.getElem?_cons_zero, List.getElem?_cons_succ, List.cons_append, List.nil_append, List.getD_cons_zero, List.getD_cons_succ, mkS, mkP, and_true, true_and, Int.not_lt, Int.not_le, not_or, not_and, Classical.not_not, ne_eq, not_true_eq_false, not_false_eq_true, sem_rrows, sem_rbmay, e0, e1, hb, b01, if_true, if_false, reduceIte, sem_rbturned, sem_bturned, turnedL, hr, Bool.false_eq_true, z7, ex7]
      refine ⟨fun h => absurd h (by decide), fun _ => ⟨fun _ => ?_, fun h => absurd h (by decide)⟩⟩
      trivial
  · simp only [t_rbturned, G_rbturned, s_rrows, TX.sat, XB.prop, X.den, List.map_cons, List.map_nil, List.getElem?_cons_zero, List.getElem?_cons_succ, List.cons_append, List.nil_append, List.getD_cons_zero, List.getD_cons_succ, mkS, mkP, and_true, true_and, Int.not_lt, Int.not_le, not_or, not_and, Classical.not_not, ne_eq, not_true_eq_false, not_false_eq_true, sem_rrows, e0, b01, if_false, reduceIte, sem_rbturned, sem_bturned, turnedL, hr, Bool.false_eq_true, z7, ex7]
    exact ⟨fun _ => trivial, fun h => absurd h (by decide)⟩)
theorem inf_rbturned : InfOK s_rbturned i_rbturned := inf_bturned
end Go.Proofs.YtgcoidbaoigkeaaGreatDoor.fix
