/-
  The law FrustumGrows is answered with true, whatever its arguments, which stay as they were.
-/
import Derived.Test.YtjbkcjbjllmhfaaDoorRows
import Derived.Test.YtjbkcjbjllmhfaaDoorFacts
import Derived.Test.YtjbkcjbjllmhfaaDoorCards
import Derived.Test.YtjbkcjbjllmhfaaDoorTie
import Derived.Test.YtjbkcjbjllmhfaaDoorDoorA
import Derived.SevenTiedAt
import Derived.Test.YtjbkcjbjllmhfaaDoorMid
set_option linter.unusedVariables false
set_option linter.unusedSimpArgs false
namespace Go.Proofs.YtjbkcjbjllmhfaaDoor.frustumGrows
open Go.RowKit Go.ChangeShapes Go.WideShapes Go.ChangeAt Go.Sx fix

def G_FrustumGrows : List Sum := [s_alive17, s_shadow, s_inside]
def I_FrustumGrows : List Inf := [i_alive17, i_shadow, i_inside]
def t_FrustumGrows : TX := (.callp 0 [] (.callp 1 [(.v 0), (.v 1), (.v 2), (.v 3), (.v 4), (.v 5), (.v 6), (.v 7), (.v 8), (.v 9), (.v 10), (.v 11), (.v 12), (.v 13), (.v 14), (.v 15), (.v 16), (.v 17), (.v 18), (.v 19), (.v 20), (.v 21), (.v 28), (.v 29), (.v 30), (.v 31)] (.callp 1 [(.v 0), (.v 1), (.v 2), (.v 3), (.v 4), (.v 5), (.v 6), (.v 7), (.v 8), (.v 9), (.v 10), (.v 11), (.v 12), (.v 13), (.v 14), (.v 15), (.v 22), (.v 23), (.v 24), (.v 25), (.v 26), (.v 27), (.v 28), (.v 29), (.v 30), (.v 31)] (.ite (.or (.not (.eq (.v 39) (.c 0))) (.not (.eq (.v 46) (.c 0)))) (.ret [(.c 1)])
(.callp 2 [(.v 16), (.v 17), (.v 18), (.v 19), (.v 20), (.v 21), (.v 22), (.v 23), (.v 24), (.v 25), (.v 26), (.v 27)] (.ite (.or (.eq (.v 47) (.c 0)) (.eq (.v 38) (.c 0))) (.ret [(.c 1)])
(.ite (.or (.not (.nz (.v 45))) (.or (.or (.or (.or (.lt (.v 33) (.v 40)) (.lt (.v 42) (.v 35))) (.lt (.v 34) (.v 41))) (.lt (.v 43) (.v 36))) (.lt (.v 44) (.v 37)))) (.ret [(.c 0)])
(.ite (.and (.and (.and (.le (.v 28) (.v 33)) (.le (.v 35) (.v 30))) (.le (.v 29) (.v 34))) (.le (.v 36) (.v 31))) (.ret [(.c 1)])
(.ret [(.c 0)])))))))))
theorem tree_FrustumGrows : merge (optF I_FrustumGrows [] (((An 16).ks ++ ((An 6).ks ++ ((An 6).ks ++ ((An 4).ks ++ [])))).map ivK) (symFnG Tryd.prog gl0 G_FrustumGrows 1000 5 [An 16, An 6, An 6, An 4] [Bo])) = t_FrustumGrows := by kernel_rfl
theorem g_FrustumGrows : Gok Tryd.prog G_FrustumGrows := (more ok_alive17 (more ok_shadow (one ok_inside)))
theorem o_FrustumGrows : outsOK G_FrustumGrows I_FrustumGrows := (outsOK_cons inf_alive17 (outsOK_cons inf_shadow (outsOK_cons inf_inside outsOK_nil)))
theorem plain (xs0 : List Int) (hr0 : rangeOK (An 16).ks xs0) (xs1 : List Int) (hr1 : rangeOK (An 6).ks xs1) (xs2 : List Int) (hr2 : rangeOK (An 6).ks xs2) (xs3 : List Int) (hr3 : rangeOK (An 4).ks xs3) : t_FrustumGrows.sat G_FrustumGrows [] (fun ys => ys = [1]) (xs0 ++ (xs1 ++ (xs2 ++ (xs3 ++ [])))) := by
  obtain ⟨l0, i0⟩ := An_inv hr0
  obtain ⟨a0, a1, a2, a3, a4, a5, a6, a7, a8, a9, a10, a11, a12, a13, a14, a15, rfl⟩ := len16 l0
  obtain ⟨l1, i1⟩ := An_inv hr1
  obtain ⟨a16, a17, a18, a19, a20, a21, rfl⟩ := len6 l1
  obtain ⟨l2, i2⟩ := An_inv hr2
  obtain ⟨a22, a23, a24, a25, a26, a27, rfl⟩ := len6 l2
  obtain ⟨l3, i3⟩ := An_inv hr3
  obtain ⟨a28, a29, a30, a31, rfl⟩ := len4 l3
  have hA := @shadow_ok [a0, a1, a2, a3, a4, a5, a6, a7, a8, a9, a10, a11, a12, a13, a14, a15, a16, a17, a18, a19, a20, a21, a28, a29, a30, a31]
  have hB := @shadow_ok [a0, a1, a2, a3, a4, a5, a6, a7, a8, a9, a10, a11, a12, a13, a14, a15, a22, a23, a24, a25, a26, a27, a28, a29, a30, a31]
  simp only [t_FrustumGrows, G_FrustumGrows, s_alive17, s_shadow, s_inside, TX.sat, XB.prop, X.den, List.map_cons, List.map_nil, List.getElem?_cons_zero, List.getElem?_cons_succ, List.cons_append, List.nil_append, List.getD_cons_zero, List.getD_cons_succ, mkS, mkP, and_true, true_and, Int.not_lt, Int.not_le, not_or, not_and, Classical.not_not, ne_eq, not_true_eq_false, not_false_eq_true, sem_alive17, sem_alive, sem_shadow, sem_inside, ex7]
  clear i0 i1 i2 i3 l0 l1 l2 l3
  by_cases ha : (shadowL [a0, a1, a2, a3, a4, a5, a6, a7, a8, a9, a10, a11, a12, a13, a14, a15, a16, a17, a18, a19, a20, a21, a28, a29, a30, a31]).getD 6 0 = 0
  · by_cases hb : (shadowL [a0, a1, a2, a3, a4, a5, a6, a7, a8, a9, a10, a11, a12, a13, a14, a15, a22, a23, a24, a25, a26, a27, a28, a29, a30, a31]).getD 6 0 = 0
    · obtain ⟨hc, hw, hwin, hv⟩ := hA ha
      obtain ⟨_, hw', _, hv'⟩ := hB hb
      rw [hv, hv']
      have key : insideB [a16, a17, a18, a19, a20, a21, a22, a23, a24, a25, a26, a27] = true → showsB [a0, a1, a2, a3, a4, a5, a6, a7, a8, a9, a10, a11, a12, a13, a14, a15, a16, a17, a18, a19, a20, a21, a28, a29, a30, a31] = true → showsB [a0, a1, a2, a3, a4, a5, a6, a7, a8, a9, a10, a11, a12, a13, a14, a15, a22, a23, a24, a25, a26, a27, a28, a29, a30, a31] = true ∧ (shX0 [a0, a1, a2, a3, a4, a5, a6, a7, a8, a9, a10, a11, a12, a13, a14, a15, a22, a23, a24, a25, a26, a27, a28, a29, a30, a31] ≤ shX0 [a0, a1, a2, a3, a4, a5, a6, a7, a8, a9, a10, a11, a12, a13, a14, a15, a16, a17, a18, a19, a20, a21, a28, a29, a30, a31] ∧ shX1 [a0, a1, a2, a3, a4, a5, a6, a7, a8, a9, a10, a11, a12, a13, a14, a15, a16, a17, a18, a19, a20, a21, a28, a29, a30, a31] ≤ shX1 [a0, a1, a2, a3, a4, a5, a6, a7, a8, a9, a10, a11, a12, a13, a14, a15, a22, a23, a24, a25, a26, a27, a28, a29, a30, a31] ∧ shY0 [a0, a1, a2, a3, a4, a5, a6, a7, a8, a9, a10, a11, a12, a13, a14, a15, a22, a23, a24, a25, a26, a27, a28, a29, a30, a31] ≤ shY0 [a0, a1, a2, a3, a4, a5, a6, a7, a8, a9, a10, a11, a12, a13, a14, a15, a16, a17, a18, a19, a20, a21, a28, a29, a30, a31] ∧ shY1 [a0, a1, a2, a3, a4, a5, a6, a7, a8, a9, a10, a11, a12, a13, a14, a15, a16, a17, a18, a19, a20, a21, a28, a29, a30, a31] ≤ shY1 [a0, a1, a2, a3, a4, a5, a6, a7, a8, a9, a10, a11, a12, a13, a14, a15, a22, a23, a24, a25, a26, a27, a28, a29, a30, a31]) ∧ 16777216 / nearV [a0, a1, a2, a3, a4, a5, a6, a7, a8, a9, a10, a11, a12, a13, a14, a15, a16, a17, a18, a19, a20, a21, a28, a29, a30, a31] ≤ 16777216 / nearV [a0, a1, a2, a3, a4, a5, a6, a7, a8, a9, a10, a11, a12, a13, a14, a15, a22, a23, a24, a25, a26, a27, a28, a29, a30, a31] ∧ (a28 ≤ shX0 [a0, a1, a2, a3, a4, a5, a6, a7, a8, a9, a10, a11, a12, a13, a14, a15, a16, a17, a18, a19, a20, a21, a28, a29, a30, a31] ∧ shX1 [a0, a1, a2, a3, a4, a5, a6, a7, a8, a9, a10, a11, a12, a13, a14, a15, a16, a17, a18, a19, a20, a21, a28, a29, a30, a31] ≤ a30 ∧ a29 ≤ shY0 [a0, a1, a2, a3, a4, a5, a6, a7, a8, a9, a10, a11, a12, a13, a14, a15, a16, a17, a18, a19, a20, a21, a28, a29, a30, a31] ∧ shY1 [a0, a1, a2, a3, a4, a5, a6, a7, a8, a9, a10, a11, a12, a13, a14, a15, a16, a17, a18, a19, a20, a21, a28, a29, a30, a31] ≤ a31) := by
        intro hi hs
        have kw := world_true.1 hw
        simp only [TX.sat, XB.prop, X.den, List.map_cons, List.map_nil, List.getElem?_cons_zero, List.getElem?_cons_succ, List.cons_append, List.nil_append, List.getD_cons_zero, List.getD_cons_succ, mkS, mkP, and_true, true_and, Int.not_lt, Int.not_le, not_or, not_and, Classical.not_not, ne_eq, not_true_eq_false, not_false_eq_true, Nat.reduceAdd] at kw
        simp only [insideB, dec_true, TX.sat, XB.prop, X.den, List.map_cons, List.map_nil, List.getElem?_cons_zero, List.getElem?_cons_succ, List.cons_append, List.nil_append, List.getD_cons_zero, List.getD_cons_succ, mkS, mkP, and_true, true_and, Int.not_lt, Int.not_le, not_or, not_and, Classical.not_not, ne_eq, not_true_eq_false, not_false_eq_true] at hi
        have kl := lens_of hc
        simp only [TX.sat, XB.prop, X.den, List.map_cons, List.map_nil, List.getElem?_cons_zero, List.getElem?_cons_succ, List.cons_append, List.nil_append, List.getD_cons_zero, List.getD_cons_succ, mkS, mkP, and_true, true_and, Int.not_lt, Int.not_le, not_or, not_and, Classical.not_not, ne_eq, not_true_eq_false, not_false_eq_true] at kl
        have d0 : a22 - a0 ≤ a16 - a0 ∧ a16 - a0 ≤ a19 - a0 ∧ a19 - a0 ≤ a25 - a0 := by omega
        have d1 : a23 - a1 ≤ a17 - a1 ∧ a17 - a1 ≤ a20 - a1 ∧ a20 - a1 ≤ a26 - a1 := by omega
        have d2 : a24 - a2 ≤ a18 - a2 ∧ a18 - a2 ≤ a21 - a2 ∧ a21 - a2 ≤ a27 - a2 := by omega
        have r0 := fun m => lies1 (m := m) d0.1 d0.2.1 d0.2.2
        have r1 := fun m => lies1 (m := m) d1.1 d1.2.1 d1.2.2
        have r2 := fun m => lies1 (m := m) d2.1 d2.2.1 d2.2.2
        have v0 : vw [a0, a1, a2, a3, a4, a5, a6, a7, a8, a9, a10, a11, a12, a13, a14, a15, a22, a23, a24, a25, a26, a27, a28, a29, a30, a31] 0 ≤ vw [a0, a1, a2, a3, a4, a5, a6, a7, a8, a9, a10, a11, a12, a13, a14, a15, a16, a17, a18, a19, a20, a21, a28, a29, a30, a31] 0 := lies3 (r0 a3).1 (r1 a4).1 (r2 a5).1
        have v1 : vw [a0, a1, a2, a3, a4, a5, a6, a7, a8, a9, a10, a11, a12, a13, a14, a15, a22, a23, a24, a25, a26, a27, a28, a29, a30, a31] 1 ≤ vw [a0, a1, a2, a3, a4, a5, a6, a7, a8, a9, a10, a11, a12, a13, a14, a15, a16, a17, a18, a19, a20, a21, a28, a29, a30, a31] 1 := lies3 (r0 a6).1 (r1 a7).1 (r2 a8).1
        have v2 : vw [a0, a1, a2, a3, a4, a5, a6, a7, a8, a9, a10, a11, a12, a13, a14, a15, a22, a23, a24, a25, a26, a27, a28, a29, a30, a31] 2 ≤ vw [a0, a1, a2, a3, a4, a5, a6, a7, a8, a9, a10, a11, a12, a13, a14, a15, a16, a17, a18, a19, a20, a21, a28, a29, a30, a31] 2 := lies3 (r0 a9).1 (r1 a10).1 (r2 a11).1
        have v3 : vw [a0, a1, a2, a3, a4, a5, a6, a7, a8, a9, a10, a11, a12, a13, a14, a15, a16, a17, a18, a19, a20, a21, a28, a29, a30, a31] 3 ≤ vw [a0, a1, a2, a3, a4, a5, a6, a7, a8, a9, a10, a11, a12, a13, a14, a15, a22, a23, a24, a25, a26, a27, a28, a29, a30, a31] 3 := lies3 (r0 a3).2 (r1 a4).2 (r2 a5).2
        have v4 : vw [a0, a1, a2, a3, a4, a5, a6, a7, a8, a9, a10, a11, a12, a13, a14, a15, a16, a17, a18, a19, a20, a21, a28, a29, a30, a31] 4 ≤ vw [a0, a1, a2, a3, a4, a5, a6, a7, a8, a9, a10, a11, a12, a13, a14, a15, a22, a23, a24, a25, a26, a27, a28, a29, a30, a31] 4 := lies3 (r0 a6).2 (r1 a7).2 (r2 a8).2
        have v5 : vw [a0, a1, a2, a3, a4, a5, a6, a7, a8, a9, a10, a11, a12, a13, a14, a15, a16, a17, a18, a19, a20, a21, a28, a29, a30, a31] 5 ≤ vw [a0, a1, a2, a3, a4, a5, a6, a7, a8, a9, a10, a11, a12, a13, a14, a15, a22, a23, a24, a25, a26, a27, a28, a29, a30, a31] 5 := lies3 (r0 a9).2 (r1 a10).2 (r2 a11).2
        obtain ⟨hz, hx, hy⟩ := showsB_iff.1 hs
        have n1 : nearV [a0, a1, a2, a3, a4, a5, a6, a7, a8, a9, a10, a11, a12, a13, a14, a15, a16, a17, a18, a19, a20, a21, a28, a29, a30, a31] = max (vw [a0, a1, a2, a3, a4, a5, a6, a7, a8, a9, a10, a11, a12, a13, a14, a15, a16, a17, a18, a19, a20, a21, a28, a29, a30, a31] 2) a13 := rfl
        have n2 : nearV [a0, a1, a2, a3, a4, a5, a6, a7, a8, a9, a10, a11, a12, a13, a14, a15, a22, a23, a24, a25, a26, a27, a28, a29, a30, a31] = max (vw [a0, a1, a2, a3, a4, a5, a6, a7, a8, a9, a10, a11, a12, a13, a14, a15, a22, a23, a24, a25, a26, a27, a28, a29, a30, a31] 2) a13 := rfl
        have f1 : farV [a0, a1, a2, a3, a4, a5, a6, a7, a8, a9, a10, a11, a12, a13, a14, a15, a16, a17, a18, a19, a20, a21, a28, a29, a30, a31] = vw [a0, a1, a2, a3, a4, a5, a6, a7, a8, a9, a10, a11, a12, a13, a14, a15, a16, a17, a18, a19, a20, a21, a28, a29, a30, a31] 5 := rfl
        have f2 : farV [a0, a1, a2, a3, a4, a5, a6, a7, a8, a9, a10, a11, a12, a13, a14, a15, a22, a23, a24, a25, a26, a27, a28, a29, a30, a31] = vw [a0, a1, a2, a3, a4, a5, a6, a7, a8, a9, a10, a11, a12, a13, a14, a15, a22, a23, a24, a25, a26, a27, a28, a29, a30, a31] 5 := rfl
        have hn : nearV [a0, a1, a2, a3, a4, a5, a6, a7, a8, a9, a10, a11, a12, a13, a14, a15, a22, a23, a24, a25, a26, a27, a28, a29, a30, a31] ≤ nearV [a0, a1, a2, a3, a4, a5, a6, a7, a8, a9, a10, a11, a12, a13, a14, a15, a16, a17, a18, a19, a20, a21, a28, a29, a30, a31] := by omega
        have hf : farV [a0, a1, a2, a3, a4, a5, a6, a7, a8, a9, a10, a11, a12, a13, a14, a15, a16, a17, a18, a19, a20, a21, a28, a29, a30, a31] ≤ farV [a0, a1, a2, a3, a4, a5, a6, a7, a8, a9, a10, a11, a12, a13, a14, a15, a22, a23, a24, a25, a26, a27, a28, a29, a30, a31] := by omega
        have hp : 0 < nearV [a0, a1, a2, a3, a4, a5, a6, a7, a8, a9, a10, a11, a12, a13, a14, a15, a22, a23, a24, a25, a26, a27, a28, a29, a30, a31] := by omega
        have g0 := goLo_mono (f := a12) (by omega) hp hn hz hf v0
        have g1 := goLo_mono (f := a12) (by omega) hp hn hz hf v1
        have g3 := goHi_mono (f := a12) (by omega) hp hn hz hf v3
        have g4 := goHi_mono (f := a12) (by omega) hp hn hz hf v4
        have L1 : leftV [a0, a1, a2, a3, a4, a5, a6, a7, a8, a9, a10, a11, a12, a13, a14, a15, a16, a17, a18, a19, a20, a21, a28, a29, a30, a31] = goLo a12 (nearV [a0, a1, a2, a3, a4, a5, a6, a7, a8, a9, a10, a11, a12, a13, a14, a15, a16, a17, a18, a19, a20, a21, a28, a29, a30, a31]) (farV [a0, a1, a2, a3, a4, a5, a6, a7, a8, a9, a10, a11, a12, a13, a14, a15, a16, a17, a18, a19, a20, a21, a28, a29, a30, a31]) (vw [a0, a1, a2, a3, a4, a5, a6, a7, a8, a9, a10, a11, a12, a13, a14, a15, a16, a17, a18, a19, a20, a21, a28, a29, a30, a31] 0) + 4 * a14 := rfl
        have L2 : leftV [a0, a1, a2, a3, a4, a5, a6, a7, a8, a9, a10, a11, a12, a13, a14, a15, a22, a23, a24, a25, a26, a27, a28, a29, a30, a31] = goLo a12 (nearV [a0, a1, a2, a3, a4, a5, a6, a7, a8, a9, a10, a11, a12, a13, a14, a15, a22, a23, a24, a25, a26, a27, a28, a29, a30, a31]) (farV [a0, a1, a2, a3, a4, a5, a6, a7, a8, a9, a10, a11, a12, a13, a14, a15, a22, a23, a24, a25, a26, a27, a28, a29, a30, a31]) (vw [a0, a1, a2, a3, a4, a5, a6, a7, a8, a9, a10, a11, a12, a13, a14, a15, a22, a23, a24, a25, a26, a27, a28, a29, a30, a31] 0) + 4 * a14 := rfl
        have R1 : rightV [a0, a1, a2, a3, a4, a5, a6, a7, a8, a9, a10, a11, a12, a13, a14, a15, a16, a17, a18, a19, a20, a21, a28, a29, a30, a31] = goHi a12 (nearV [a0, a1, a2, a3, a4, a5, a6, a7, a8, a9, a10, a11, a12, a13, a14, a15, a16, a17, a18, a19, a20, a21, a28, a29, a30, a31]) (farV [a0, a1, a2, a3, a4, a5, a6, a7, a8, a9, a10, a11, a12, a13, a14, a15, a16, a17, a18, a19, a20, a21, a28, a29, a30, a31]) (vw [a0, a1, a2, a3, a4, a5, a6, a7, a8, a9, a10, a11, a12, a13, a14, a15, a16, a17, a18, a19, a20, a21, a28, a29, a30, a31] 3) + 4 * a14 := rfl
        have R2 : rightV [a0, a1, a2, a3, a4, a5, a6, a7, a8, a9, a10, a11, a12, a13, a14, a15, a22, a23, a24, a25, a26, a27, a28, a29, a30, a31] = goHi a12 (nearV [a0, a1, a2, a3, a4, a5, a6, a7, a8, a9, a10, a11, a12, a13, a14, a15, a22, a23, a24, a25, a26, a27, a28, a29, a30, a31]) (farV [a0, a1, a2, a3, a4, a5, a6, a7, a8, a9, a10, a11, a12, a13, a14, a15, a22, a23, a24, a25, a26, a27, a28, a29, a30, a31]) (vw [a0, a1, a2, a3, a4, a5, a6, a7, a8, a9, a10, a11, a12, a13, a14, a15, a22, a23, a24, a25, a26, a27, a28, a29, a30, a31] 3) + 4 * a14 := rfl
        have T1 : topV [a0, a1, a2, a3, a4, a5, a6, a7, a8, a9, a10, a11, a12, a13, a14, a15, a16, a17, a18, a19, a20, a21, a28, a29, a30, a31] = 4 * a15 - goHi a12 (nearV [a0, a1, a2, a3, a4, a5, a6, a7, a8, a9, a10, a11, a12, a13, a14, a15, a16, a17, a18, a19, a20, a21, a28, a29, a30, a31]) (farV [a0, a1, a2, a3, a4, a5, a6, a7, a8, a9, a10, a11, a12, a13, a14, a15, a16, a17, a18, a19, a20, a21, a28, a29, a30, a31]) (vw [a0, a1, a2, a3, a4, a5, a6, a7, a8, a9, a10, a11, a12, a13, a14, a15, a16, a17, a18, a19, a20, a21, a28, a29, a30, a31] 4) := rfl
        have T2 : topV [a0, a1, a2, a3, a4, a5, a6, a7, a8, a9, a10, a11, a12, a13, a14, a15, a22, a23, a24, a25, a26, a27, a28, a29, a30, a31] = 4 * a15 - goHi a12 (nearV [a0, a1, a2, a3, a4, a5, a6, a7, a8, a9, a10, a11, a12, a13, a14, a15, a22, a23, a24, a25, a26, a27, a28, a29, a30, a31]) (farV [a0, a1, a2, a3, a4, a5, a6, a7, a8, a9, a10, a11, a12, a13, a14, a15, a22, a23, a24, a25, a26, a27, a28, a29, a30, a31]) (vw [a0, a1, a2, a3, a4, a5, a6, a7, a8, a9, a10, a11, a12, a13, a14, a15, a22, a23, a24, a25, a26, a27, a28, a29, a30, a31] 4) := rfl
        have B1 : botV [a0, a1, a2, a3, a4, a5, a6, a7, a8, a9, a10, a11, a12, a13, a14, a15, a16, a17, a18, a19, a20, a21, a28, a29, a30, a31] = 4 * a15 - goLo a12 (nearV [a0, a1, a2, a3, a4, a5, a6, a7, a8, a9, a10, a11, a12, a13, a14, a15, a16, a17, a18, a19, a20, a21, a28, a29, a30, a31]) (farV [a0, a1, a2, a3, a4, a5, a6, a7, a8, a9, a10, a11, a12, a13, a14, a15, a16, a17, a18, a19, a20, a21, a28, a29, a30, a31]) (vw [a0, a1, a2, a3, a4, a5, a6, a7, a8, a9, a10, a11, a12, a13, a14, a15, a16, a17, a18, a19, a20, a21, a28, a29, a30, a31] 1) := rfl
        have B2 : botV [a0, a1, a2, a3, a4, a5, a6, a7, a8, a9, a10, a11, a12, a13, a14, a15, a22, a23, a24, a25, a26, a27, a28, a29, a30, a31] = 4 * a15 - goLo a12 (nearV [a0, a1, a2, a3, a4, a5, a6, a7, a8, a9, a10, a11, a12, a13, a14, a15, a22, a23, a24, a25, a26, a27, a28, a29, a30, a31]) (farV [a0, a1, a2, a3, a4, a5, a6, a7, a8, a9, a10, a11, a12, a13, a14, a15, a22, a23, a24, a25, a26, a27, a28, a29, a30, a31]) (vw [a0, a1, a2, a3, a4, a5, a6, a7, a8, a9, a10, a11, a12, a13, a14, a15, a22, a23, a24, a25, a26, a27, a28, a29, a30, a31] 1) := rfl
        have ux := up_mono (a := leftV [a0, a1, a2, a3, a4, a5, a6, a7, a8, a9, a10, a11, a12, a13, a14, a15, a22, a23, a24, a25, a26, a27, a28, a29, a30, a31] - 4) (b := leftV [a0, a1, a2, a3, a4, a5, a6, a7, a8, a9, a10, a11, a12, a13, a14, a15, a16, a17, a18, a19, a20, a21, a28, a29, a30, a31] - 4) (by omega)
        have uy := up_mono (a := topV [a0, a1, a2, a3, a4, a5, a6, a7, a8, a9, a10, a11, a12, a13, a14, a15, a22, a23, a24, a25, a26, a27, a28, a29, a30, a31] - 4) (b := topV [a0, a1, a2, a3, a4, a5, a6, a7, a8, a9, a10, a11, a12, a13, a14, a15, a16, a17, a18, a19, a20, a21, a28, a29, a30, a31] - 4) (by omega)
        have dx : (rightV [a0, a1, a2, a3, a4, a5, a6, a7, a8, a9, a10, a11, a12, a13, a14, a15, a16, a17, a18, a19, a20, a21, a28, a29, a30, a31] - 4) / 8 ≤ (rightV [a0, a1, a2, a3, a4, a5, a6, a7, a8, a9, a10, a11, a12, a13, a14, a15, a22, a23, a24, a25, a26, a27, a28, a29, a30, a31] - 4) / 8 := by omega
        have dy : (botV [a0, a1, a2, a3, a4, a5, a6, a7, a8, a9, a10, a11, a12, a13, a14, a15, a16, a17, a18, a19, a20, a21, a28, a29, a30, a31] - 4) / 8 ≤ (botV [a0, a1, a2, a3, a4, a5, a6, a7, a8, a9, a10, a11, a12, a13, a14, a15, a22, a23, a24, a25, a26, a27, a28, a29, a30, a31] - 4) / 8 := by omega
        have X0 : shX0 [a0, a1, a2, a3, a4, a5, a6, a7, a8, a9, a10, a11, a12, a13, a14, a15, a16, a17, a18, a19, a20, a21, a28, a29, a30, a31] = max (up (leftV [a0, a1, a2, a3, a4, a5, a6, a7, a8, a9, a10, a11, a12, a13, a14, a15, a16, a17, a18, a19, a20, a21, a28, a29, a30, a31] - 4) 8) a28 := rfl
        have X0' : shX0 [a0, a1, a2, a3, a4, a5, a6, a7, a8, a9, a10, a11, a12, a13, a14, a15, a22, a23, a24, a25, a26, a27, a28, a29, a30, a31] = max (up (leftV [a0, a1, a2, a3, a4, a5, a6, a7, a8, a9, a10, a11, a12, a13, a14, a15, a22, a23, a24, a25, a26, a27, a28, a29, a30, a31] - 4) 8) a28 := rfl
        have Y0 : shY0 [a0, a1, a2, a3, a4, a5, a6, a7, a8, a9, a10, a11, a12, a13, a14, a15, a16, a17, a18, a19, a20, a21, a28, a29, a30, a31] = max (up (topV [a0, a1, a2, a3, a4, a5, a6, a7, a8, a9, a10, a11, a12, a13, a14, a15, a16, a17, a18, a19, a20, a21, a28, a29, a30, a31] - 4) 8) a29 := rfl
        have Y0' : shY0 [a0, a1, a2, a3, a4, a5, a6, a7, a8, a9, a10, a11, a12, a13, a14, a15, a22, a23, a24, a25, a26, a27, a28, a29, a30, a31] = max (up (topV [a0, a1, a2, a3, a4, a5, a6, a7, a8, a9, a10, a11, a12, a13, a14, a15, a22, a23, a24, a25, a26, a27, a28, a29, a30, a31] - 4) 8) a29 := rfl
        have X1 : shX1 [a0, a1, a2, a3, a4, a5, a6, a7, a8, a9, a10, a11, a12, a13, a14, a15, a16, a17, a18, a19, a20, a21, a28, a29, a30, a31] = min ((rightV [a0, a1, a2, a3, a4, a5, a6, a7, a8, a9, a10, a11, a12, a13, a14, a15, a16, a17, a18, a19, a20, a21, a28, a29, a30, a31] - 4) / 8) a30 := rfl
        have X1' : shX1 [a0, a1, a2, a3, a4, a5, a6, a7, a8, a9, a10, a11, a12, a13, a14, a15, a22, a23, a24, a25, a26, a27, a28, a29, a30, a31] = min ((rightV [a0, a1, a2, a3, a4, a5, a6, a7, a8, a9, a10, a11, a12, a13, a14, a15, a22, a23, a24, a25, a26, a27, a28, a29, a30, a31] - 4) / 8) a30 := rfl
        have Y1 : shY1 [a0, a1, a2, a3, a4, a5, a6, a7, a8, a9, a10, a11, a12, a13, a14, a15, a16, a17, a18, a19, a20, a21, a28, a29, a30, a31] = min ((botV [a0, a1, a2, a3, a4, a5, a6, a7, a8, a9, a10, a11, a12, a13, a14, a15, a16, a17, a18, a19, a20, a21, a28, a29, a30, a31] - 4) / 8) a31 := rfl
        have Y1' : shY1 [a0, a1, a2, a3, a4, a5, a6, a7, a8, a9, a10, a11, a12, a13, a14, a15, a22, a23, a24, a25, a26, a27, a28, a29, a30, a31] = min ((botV [a0, a1, a2, a3, a4, a5, a6, a7, a8, a9, a10, a11, a12, a13, a14, a15, a22, a23, a24, a25, a26, a27, a28, a29, a30, a31] - 4) / 8) a31 := rfl
        have hd : 16777216 / nearV [a0, a1, a2, a3, a4, a5, a6, a7, a8, a9, a10, a11, a12, a13, a14, a15, a16, a17, a18, a19, a20, a21, a28, a29, a30, a31] ≤ 16777216 / nearV [a0, a1, a2, a3, a4, a5, a6, a7, a8, a9, a10, a11, a12, a13, a14, a15, a22, a23, a24, a25, a26, a27, a28, a29, a30, a31] := div_anti (by omega) hp hn
        have c1 : shX0 [a0, a1, a2, a3, a4, a5, a6, a7, a8, a9, a10, a11, a12, a13, a14, a15, a22, a23, a24, a25, a26, a27, a28, a29, a30, a31] ≤ shX0 [a0, a1, a2, a3, a4, a5, a6, a7, a8, a9, a10, a11, a12, a13, a14, a15, a16, a17, a18, a19, a20, a21, a28, a29, a30, a31] ∧ shX1 [a0, a1, a2, a3, a4, a5, a6, a7, a8, a9, a10, a11, a12, a13, a14, a15, a16, a17, a18, a19, a20, a21, a28, a29, a30, a31] ≤ shX1 [a0, a1, a2, a3, a4, a5, a6, a7, a8, a9, a10, a11, a12, a13, a14, a15, a22, a23, a24, a25, a26, a27, a28, a29, a30, a31] ∧ shY0 [a0, a1, a2, a3, a4, a5, a6, a7, a8, a9, a10, a11, a12, a13, a14, a15, a22, a23, a24, a25, a26, a27, a28, a29, a30, a31] ≤ shY0 [a0, a1, a2, a3, a4, a5, a6, a7, a8, a9, a10, a11, a12, a13, a14, a15, a16, a17, a18, a19, a20, a21, a28, a29, a30, a31] ∧ shY1 [a0, a1, a2, a3, a4, a5, a6, a7, a8, a9, a10, a11, a12, a13, a14, a15, a16, a17, a18, a19, a20, a21, a28, a29, a30, a31] ≤ shY1 [a0, a1, a2, a3, a4, a5, a6, a7, a8, a9, a10, a11, a12, a13, a14, a15, a22, a23, a24, a25, a26, a27, a28, a29, a30, a31] := by
          rw [X0, X0', X1, X1', Y0, Y0', Y1, Y1']
          clear X0 X0' X1 X1' Y0 Y0' Y1 Y1' L1 L2 R1 R2 T1 T2 B1 B2 g0 g1 g3 g4
          refine ⟨?_, ?_, ?_, ?_⟩ <;> omega
        have c2 : a28 ≤ shX0 [a0, a1, a2, a3, a4, a5, a6, a7, a8, a9, a10, a11, a12, a13, a14, a15, a16, a17, a18, a19, a20, a21, a28, a29, a30, a31] ∧ shX1 [a0, a1, a2, a3, a4, a5, a6, a7, a8, a9, a10, a11, a12, a13, a14, a15, a16, a17, a18, a19, a20, a21, a28, a29, a30, a31] ≤ a30 ∧ a29 ≤ shY0 [a0, a1, a2, a3, a4, a5, a6, a7, a8, a9, a10, a11, a12, a13, a14, a15, a16, a17, a18, a19, a20, a21, a28, a29, a30, a31] ∧ shY1 [a0, a1, a2, a3, a4, a5, a6, a7, a8, a9, a10, a11, a12, a13, a14, a15, a16, a17, a18, a19, a20, a21, a28, a29, a30, a31] ≤ a31 := by
          rw [X0, X1, Y0, Y1]
          refine ⟨?_, ?_, ?_, ?_⟩ <;> omega
        exact ⟨showsB_iff.2 ⟨by omega, by omega, by omega⟩, c1, hd, c2⟩
      have P1 : shadowP [a0, a1, a2, a3, a4, a5, a6, a7, a8, a9, a10, a11, a12, a13, a14, a15, a16, a17, a18, a19, a20, a21, a28, a29, a30, a31] = [shX0 [a0, a1, a2, a3, a4, a5, a6, a7, a8, a9, a10, a11, a12, a13, a14, a15, a16, a17, a18, a19, a20, a21, a28, a29, a30, a31], shY0 [a0, a1, a2, a3, a4, a5, a6, a7, a8, a9, a10, a11, a12, a13, a14, a15, a16, a17, a18, a19, a20, a21, a28, a29, a30, a31], shX1 [a0, a1, a2, a3, a4, a5, a6, a7, a8, a9, a10, a11, a12, a13, a14, a15, a16, a17, a18, a19, a20, a21, a28, a29, a30, a31], shY1 [a0, a1, a2, a3, a4, a5, a6, a7, a8, a9, a10, a11, a12, a13, a14, a15, a16, a17, a18, a19, a20, a21, a28, a29, a30, a31], 16777216 / nearV [a0, a1, a2, a3, a4, a5, a6, a7, a8, a9, a10, a11, a12, a13, a14, a15, a16, a17, a18, a19, a20, a21, a28, a29, a30, a31], 1, 0] := rfl
      have P2 : shadowP [a0, a1, a2, a3, a4, a5, a6, a7, a8, a9, a10, a11, a12, a13, a14, a15, a22, a23, a24, a25, a26, a27, a28, a29, a30, a31] = [shX0 [a0, a1, a2, a3, a4, a5, a6, a7, a8, a9, a10, a11, a12, a13, a14, a15, a22, a23, a24, a25, a26, a27, a28, a29, a30, a31], shY0 [a0, a1, a2, a3, a4, a5, a6, a7, a8, a9, a10, a11, a12, a13, a14, a15, a22, a23, a24, a25, a26, a27, a28, a29, a30, a31], shX1 [a0, a1, a2, a3, a4, a5, a6, a7, a8, a9, a10, a11, a12, a13, a14, a15, a22, a23, a24, a25, a26, a27, a28, a29, a30, a31], shY1 [a0, a1, a2, a3, a4, a5, a6, a7, a8, a9, a10, a11, a12, a13, a14, a15, a22, a23, a24, a25, a26, a27, a28, a29, a30, a31], 16777216 / nearV [a0, a1, a2, a3, a4, a5, a6, a7, a8, a9, a10, a11, a12, a13, a14, a15, a22, a23, a24, a25, a26, a27, a28, a29, a30, a31], 1, 0] := rfl
      clear hA hB ha hb hc hw hwin hv hw' hv'
      by_cases hi : insideB [a16, a17, a18, a19, a20, a21, a22, a23, a24, a25, a26, a27] = true
      · by_cases hs : showsB [a0, a1, a2, a3, a4, a5, a6, a7, a8, a9, a10, a11, a12, a13, a14, a15, a16, a17, a18, a19, a20, a21, a28, a29, a30, a31] = true
        · obtain ⟨k1, k2, k3, k4⟩ := key hi hs
          rw [if_pos hs, if_pos k1, P1, P2]
          simp only [hi, b01, if_true, reduceIte, TX.sat, XB.prop, X.den, List.map_cons, List.map_nil, List.getElem?_cons_zero, List.getElem?_cons_succ, List.cons_append, List.nil_append, List.getD_cons_zero, List.getD_cons_succ, mkS, mkP, and_true, true_and, Int.not_lt, Int.not_le, not_or, not_and, Classical.not_not, ne_eq, not_true_eq_false, not_false_eq_true]
          clear P1 P2 key hs k1 hi
          generalize shX0 [a0, a1, a2, a3, a4, a5, a6, a7, a8, a9, a10, a11, a12, a13, a14, a15, a16, a17, a18, a19, a20, a21, a28, a29, a30, a31] = x0 at *
          generalize shX1 [a0, a1, a2, a3, a4, a5, a6, a7, a8, a9, a10, a11, a12, a13, a14, a15, a16, a17, a18, a19, a20, a21, a28, a29, a30, a31] = x1 at *
          generalize shY0 [a0, a1, a2, a3, a4, a5, a6, a7, a8, a9, a10, a11, a12, a13, a14, a15, a16, a17, a18, a19, a20, a21, a28, a29, a30, a31] = y0 at *
          generalize shY1 [a0, a1, a2, a3, a4, a5, a6, a7, a8, a9, a10, a11, a12, a13, a14, a15, a16, a17, a18, a19, a20, a21, a28, a29, a30, a31] = y1 at *
          generalize shX0 [a0, a1, a2, a3, a4, a5, a6, a7, a8, a9, a10, a11, a12, a13, a14, a15, a22, a23, a24, a25, a26, a27, a28, a29, a30, a31] = u0 at *
          generalize shX1 [a0, a1, a2, a3, a4, a5, a6, a7, a8, a9, a10, a11, a12, a13, a14, a15, a22, a23, a24, a25, a26, a27, a28, a29, a30, a31] = u1 at *
          generalize shY0 [a0, a1, a2, a3, a4, a5, a6, a7, a8, a9, a10, a11, a12, a13, a14, a15, a22, a23, a24, a25, a26, a27, a28, a29, a30, a31] = w0 at *
          generalize shY1 [a0, a1, a2, a3, a4, a5, a6, a7, a8, a9, a10, a11, a12, a13, a14, a15, a22, a23, a24, a25, a26, a27, a28, a29, a30, a31] = w1 at *
          generalize 16777216 / nearV [a0, a1, a2, a3, a4, a5, a6, a7, a8, a9, a10, a11, a12, a13, a14, a15, a16, a17, a18, a19, a20, a21, a28, a29, a30, a31] = da at *
          generalize 16777216 / nearV [a0, a1, a2, a3, a4, a5, a6, a7, a8, a9, a10, a11, a12, a13, a14, a15, a22, a23, a24, a25, a26, a27, a28, a29, a30, a31] = db at *
          refine ⟨fun _ => trivial, fun _ => ⟨fun _ => trivial, fun _ => ⟨fun h => ?_, fun _ => ⟨fun _ => trivial, fun h => ?_⟩⟩⟩⟩
          · exfalso
            omega
          · exfalso
            omega
        · rw [if_neg hs]
          simp only [z7, TX.sat, XB.prop, X.den, List.map_cons, List.map_nil, List.getElem?_cons_zero, List.getElem?_cons_succ, List.cons_append, List.nil_append, List.getD_cons_zero, List.getD_cons_succ, mkS, mkP, and_true, true_and, Int.not_lt, Int.not_le, not_or, not_and, Classical.not_not, ne_eq, not_true_eq_false, not_false_eq_true]
          simp
      · simp only [hi, b01, if_false, reduceIte, Bool.false_eq_true]
        simp
    · exact ⟨fun _ => trivial, fun h => absurd h.2 hb⟩
  · exact ⟨fun _ => trivial, fun h => absurd h.1 ha⟩
theorem range_nil : rangeOK [] [] := trivial
set_option maxRecDepth 100000 in
theorem lifted (os : Os) (started : os.Started) (H : Type) (enc : TypeId × Value → H) :
    ReturnsInHanded {} Tryd.checked os 5 .any (fun w args => (Rows.frustumGrowsSpec.pre enc Tryd.prog Tryd.f5 Rows.frustumGrowsRow.domain false w args ∧ laidMet Tryd.prog [("diorama/frustum.world", Rows.laid_diorama_frustum_world)] w) ∧ sizedMet enc Tryd.prog Tryd.f5 (OpenSpec.ofChange Rows.frustumGrowsSpec) false w args) (Rows.frustumGrowsSpec.post enc Tryd.prog Tryd.f5 false true false false) := by
  refine returnsInHanded_of_change_and (C := Tryd.checked) (X := fun w _ => laidMet Tryd.prog [("diorama/frustum.world", Rows.laid_diorama_frustum_world)] w) (fun _ _ _ hh h => h.of_heap hh) facts.own started (by kernel_rfl) Tryd.func5
    (ChangeSpec.witness_at (enc := enc) (C := Tryd.checked) (os := os) (X := fun w _ => laidMet Tryd.prog [("diorama/frustum.world", Rows.laid_diorama_frustum_world)] w) false (laidWorld os) #[.agg #[.int .i64 0, .int .i64 0, .int .i64 0, .int .i64 0, .int .i64 0, .int .i64 0, .int .i64 0, .int .i64 0, .int .i64 0, .int .i64 0, .int .i64 0, .int .i64 0, .int .i64 0, .int .i64 0, .int .i64 0, .int .i64 0], .agg #[.int .i64 0, .int .i64 0, .int .i64 0, .int .i64 0, .int .i64 0, .int .i64 0], .agg #[.int .i64 0, .int .i64 0, .int .i64 0, .int .i64 0, .int .i64 0, .int .i64 0], .agg #[.int .i64 0, .int .i64 0, .int .i64 0, .int .i64 0]] 8 rfl (by kernel_rfl) (by kernel_rfl) (by kernel_rfl) (by kernel_rfl) (by kernel_rfl) (laidWorld_met os _)) ?_
  intro W base args ds gs before hval0 hW hcnd _ hL _
  have hval : ∀ (j : Nat) t v, Tryd.f5.params[j]? = some t → args[j]? = some v → Value.okWide Tryd.prog W .any base t v := hval0
  have hW' := hW
  obtain ⟨p, q, hA0, hV, rfl, hfz, hnd⟩ := hW
  have hA : DataW.TrodAll enc Tryd.prog W 0 (fun _ => true) true Tryd.f5.params.toList args.toList ds p := hA0
  rw [Tryd.params5] at hA hval
  obtain ⟨v0, vs0, d0, ds0, p0, q0, hargs, rfl, rfl, h0, r0⟩ := trodAll_cons hA
  obtain ⟨v1, vs1, d1, ds1, p1, q1, rfl, rfl, rfl, h1, r1⟩ := trodAll_cons r0
  obtain ⟨v2, vs2, d2, ds2, p2, q2, rfl, rfl, rfl, h2, r2⟩ := trodAll_cons r1
  obtain ⟨v3, vs3, d3, ds3, p3, q3, rfl, rfl, rfl, h3, r3⟩ := trodAll_cons r2
  obtain ⟨rfl, rfl, rfl⟩ := trodAll_nil r3
  obtain rfl : args = #[v0, v1, v2, v3] := by cases args; simp_all
  obtain ⟨rfl, rfl⟩ := trodVars_none hV
  have k0 := h0
  have lt0 : ∀ x ∈ p0, x.block < W.heap.size := by obtain ⟨m, hm⟩ := k0; exact DataW.trod_lt m _ _ _ hm
  have k1 := h1
  have lt1 : ∀ x ∈ p1, x.block < W.heap.size := by obtain ⟨m, hm⟩ := k1; exact DataW.trod_lt m _ _ _ hm
  have k2 := h2
  have lt2 : ∀ x ∈ p2, x.block < W.heap.size := by obtain ⟨m, hm⟩ := k2; exact DataW.trod_lt m _ _ _ hm
  have k3 := h3
  have lt3 : ∀ x ∈ p3, x.block < W.heap.size := by obtain ⟨m, hm⟩ := k3; exact DataW.trod_lt m _ _ _ hm
  obtain ⟨xs0, hv0, hr0⟩ := open_sh (sh := An 16) (by kernel_rfl) (by kernel_rfl) (hval 0 34 v0 rfl rfl) h0
  obtain ⟨xs1, hv1, hr1⟩ := open_sh (sh := An 6) (by kernel_rfl) (by kernel_rfl) (hval 1 37 v1 rfl rfl) h1
  obtain ⟨xs2, hv2, hr2⟩ := open_sh (sh := An 6) (by kernel_rfl) (by kernel_rfl) (hval 2 37 v2 rfl rfl) h2
  obtain ⟨xs3, hv3, hr3⟩ := open_sh (sh := An 4) (by kernel_rfl) (by kernel_rfl) (hval 3 23 v3 rfl rfl) h3
  clear hA0 hval0
  have hl0 := rangeOK_len hr0
  have hl1 := rangeOK_len hr1
  have hl2 := rangeOK_len hr2
  have hl3 := rangeOK_len hr3
  have hxs : #[v0, v1, v2, v3] = (mkShs [An 16, An 6, An 6, An 4] (xs0 ++ (xs1 ++ (xs2 ++ (xs3 ++ []))))).toArray := by
    rw [mkShs_cons hl0, mkShs_cons hl1, mkShs_cons hl2, mkShs_cons hl3]
    simp [mkShs, hv0, hv1, hv2, hv3]
  have hlen : (xs0 ++ (xs1 ++ (xs2 ++ (xs3 ++ [])))).length = total [An 16, An 6, An 6, An 4] := by
    simp only [List.length_append, List.length_nil, hl0, hl1, hl2, hl3]
    rfl
  have hcalls := lawF facts.mixed g_FrustumGrows o_FrustumGrows tree_FrustumGrows hlen (range_vs ((rangeOK_app hr0 (rangeOK_app hr1 (rangeOK_app hr2 (rangeOK_app hr3 range_nil)))) : rangeOK _ _)) (plain xs0 hr0 xs1 hr1 xs2 hr2 xs3 hr3) W (glob_of_laid hL)
  rw [← hxs] at hcalls
  refine hcalls.mono fun e W' ⟨he, bel⟩ => ?_
  subst he
  exact ⟨_, rfl, _, _, _, [], _, [], hW', trodAll_mk1 (shut_bool Tryd.underlying4 _), (trodAll_cons_mk (Below.trod facts.laidOut (by kernel_rfl) (of_decide_eq_true (by kernel_rfl)) k0 bel lt0) (trodAll_cons_mk (Below.trod facts.laidOut (by kernel_rfl) (of_decide_eq_true (by kernel_rfl)) k1 bel lt1) (trodAll_cons_mk (Below.trod facts.laidOut (by kernel_rfl) (of_decide_eq_true (by kernel_rfl)) k2 bel lt2) (trodAll_cons_mk (Below.trod facts.laidOut (by kernel_rfl) (of_decide_eq_true (by kernel_rfl)) k3 bel lt3) trodAll_mk0)))), rfl, bel.frame _, fun h => by cases h⟩

theorem over : Rows.frustumGrowsRow.holds Tryd.pinned (OpenSpec.ofChange Rows.frustumGrowsSpec) :=
  OpenClaim.holds_of_wide 5 Tryd.f5 rfl rfl rfl rfl rfl rfl rfl ⟨rfl, rfl, rfl, rfl, rfl⟩ rfl rfl rfl rfl rfl (by kernel_rfl) Tryd.func5
    (facts.joined (by kernel_rfl) (by kernel_rfl) (by kernel_rfl) (by kernel_rfl) (by kernel_rfl) (by kernel_rfl) (by kernel_rfl) rfl rfl rfl rfl)
    (of_decide_eq_true (by kernel_rfl)) (by unfold Func.isWrapper; first | (rw [if_pos (by decide +kernel)]; kernel_rfl) | (rw [if_neg (by decide +kernel)]; exact ⟨rfl, rfl⟩))
    (fun os started H enc _ => lifted os started H enc)

theorem noStand : (Tryd.f5.params.all fun t => !Tryd.prog.wantsStandIn t) = true := by kernel_rfl
/-- THE STATEMENT: the row, its one listed variable tied to the program's text. -/
theorem proved : Rows.FrustumGrowsCardSaid :=
  Claim7.holds_tied_plain_at .later [] [.data] true (true, "ba5fbdf844d12a9b064d108c88059d5ef4c8b7d3707af7476f83711cd4242958") false over (fun _ h => by cases h) (by kernel_rfl) (fun _ h => by cases h) frustumGrows_row_tie rfl ⟨rfl, rfl⟩ (by kernel_rfl) rfl
    (fun f fn hf hfn => by
      obtain rfl : f = 5 := Option.some.inj ((show Tryd.prog.funcNamed Rows.frustumGrowsRow.func = some 5 by kernel_rfl).symm.trans hf) |>.symm
      obtain rfl : fn = Tryd.f5 := (Option.some.inj (Tryd.func5.symm.trans hfn)).symm
      refine ⟨by kernel_rfl, fun j t ht => ?_⟩
      have := Array.all_eq_true_iff_forall_mem.1 noStand t (Array.mem_of_getElem? ht)
      exact (by simpa using this : Tryd.prog.wantsStandIn t = false))
    (by kernel_rfl)
#print axioms proved

end Go.Proofs.YtjbkcjbjllmhfaaDoor.frustumGrows
