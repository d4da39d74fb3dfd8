/-
  The law VecTwice is answered with true, whatever the two matrices and the point, and its arguments stay as they were.
-/
import Derived.Test.YtlgcjkolakcfiaaRows
import Derived.Test.YtlgcjkolakcfiaaFacts
import Derived.Test.YtlgcjkolakcfiaaVec
set_option linter.unusedVariables false
set_option linter.unusedSimpArgs false
namespace Go.Proofs.Ytlgcjkolakcfiaa.vecTwice
open Go.RowKit Go.ChangeShapes Go.WideShapes Go.ChangeAt Go.Sx fix

theorem d1 (p0 p1 p2 x y z : Int) : (p0 * 256 * x + p1 * 256 * y + p2 * 256 * z) / 256 = p0 * x + p1 * y + p2 * z := by
  have : p0 * 256 * x + p1 * 256 * y + p2 * 256 * z = 256 * (p0 * x + p1 * y + p2 * z) := by grind
  rw [this, Int.mul_ediv_cancel_left _ (by omega)]
theorem d2 (p0 p1 p2 x y z : Int) : (p0 * 256 * (x * 256) + p1 * 256 * (y * 256) + p2 * 256 * (z * 256)) / 256 = (p0 * x + p1 * y + p2 * z) * 256 := by
  rw [d1]; grind
theorem mulP_eq (p0 p1 p2 p3 p4 p5 p6 p7 p8 s0 s1 s2 q0 q1 q2 q3 q4 q5 q6 q7 q8 t0 t1 t2 : Int) : mulP [p0 * 256, p1 * 256, p2 * 256, p3 * 256, p4 * 256, p5 * 256, p6 * 256, p7 * 256, p8 * 256, s0, s1, s2, q0 * 256, q1 * 256, q2 * 256, q3 * 256, q4 * 256, q5 * 256, q6 * 256, q7 * 256, q8 * 256, t0, t1, t2] = [(p0 * q0 + p1 * q3 + p2 * q6) * 256, (p0 * q1 + p1 * q4 + p2 * q7) * 256, (p0 * q2 + p1 * q5 + p2 * q8) * 256, (p3 * q0 + p4 * q3 + p5 * q6) * 256, (p3 * q1 + p4 * q4 + p5 * q7) * 256, (p3 * q2 + p4 * q5 + p5 * q8) * 256, (p6 * q0 + p7 * q3 + p8 * q6) * 256, (p6 * q1 + p7 * q4 + p8 * q7) * 256, (p6 * q2 + p7 * q5 + p8 * q8) * 256, p0 * t0 + p1 * t1 + p2 * t2 + s0, p3 * t0 + p4 * t1 + p5 * t2 + s1, p6 * t0 + p7 * t1 + p8 * t2 + s2, 0] := by
  simp only [mulP, dotC, dot, TX.sat, XB.prop, X.den, List.map_cons, List.map_nil, List.getElem?_cons_zero, List.getElem?_cons_succ, List.cons_append, List.nil_append, List.getD_cons_zero, List.getD_cons_succ, mkS, mkP, and_true, true_and, Int.not_lt, Int.not_le, not_or, not_and, Classical.not_not, ne_eq, not_true_eq_false, not_false_eq_true, Nat.reduceAdd, d1, List.cons.injEq]
  refine ⟨?_, ?_, ?_, ?_, ?_, ?_, ?_, ?_, ?_⟩ <;> grind
theorem imageB (q0 q1 q2 q3 q4 q5 q6 q7 q8 t0 t1 t2 v0 v1 v2 : Int) : imageP [q0 * 256, q1 * 256, q2 * 256, q3 * 256, q4 * 256, q5 * 256, q6 * 256, q7 * 256, q8 * 256, t0, t1, t2, v0, v1, v2] = [q0 * v0 + q1 * v1 + q2 * v2 + t0, q3 * v0 + q4 * v1 + q5 * v2 + t1, q6 * v0 + q7 * v1 + q8 * v2 + t2, 0] := by
  simp only [imageP, dot, TX.sat, XB.prop, X.den, List.map_cons, List.map_nil, List.getElem?_cons_zero, List.getElem?_cons_succ, List.cons_append, List.nil_append, List.getD_cons_zero, List.getD_cons_succ, mkS, mkP, and_true, true_and, Int.not_lt, Int.not_le, not_or, not_and, Classical.not_not, ne_eq, not_true_eq_false, not_false_eq_true, Nat.reduceAdd, d1]
theorem yz (p0 p1 p2 p3 p4 p5 p6 p7 p8 s0 s1 s2 q0 q1 q2 q3 q4 q5 q6 q7 q8 t0 t1 t2 v0 v1 v2 : Int) : imageP [p0 * 256, p1 * 256, p2 * 256, p3 * 256, p4 * 256, p5 * 256, p6 * 256, p7 * 256, p8 * 256, s0, s1, s2, q0 * v0 + q1 * v1 + q2 * v2 + t0, q3 * v0 + q4 * v1 + q5 * v2 + t1, q6 * v0 + q7 * v1 + q8 * v2 + t2] = imageP [(p0 * q0 + p1 * q3 + p2 * q6) * 256, (p0 * q1 + p1 * q4 + p2 * q7) * 256, (p0 * q2 + p1 * q5 + p2 * q8) * 256, (p3 * q0 + p4 * q3 + p5 * q6) * 256, (p3 * q1 + p4 * q4 + p5 * q7) * 256, (p3 * q2 + p4 * q5 + p5 * q8) * 256, (p6 * q0 + p7 * q3 + p8 * q6) * 256, (p6 * q1 + p7 * q4 + p8 * q7) * 256, (p6 * q2 + p7 * q5 + p8 * q8) * 256, p0 * t0 + p1 * t1 + p2 * t2 + s0, p3 * t0 + p4 * t1 + p5 * t2 + s1, p6 * t0 + p7 * t1 + p8 * t2 + s2, v0, v1, v2] := by
  simp only [imageP, dot, TX.sat, XB.prop, X.den, List.map_cons, List.map_nil, List.getElem?_cons_zero, List.getElem?_cons_succ, List.cons_append, List.nil_append, List.getD_cons_zero, List.getD_cons_succ, mkS, mkP, and_true, true_and, Int.not_lt, Int.not_le, not_or, not_and, Classical.not_not, ne_eq, not_true_eq_false, not_false_eq_true, Nat.reduceAdd, d1, List.cons.injEq]
  refine ⟨?_, ?_, ?_⟩ <;> grind

def G_VecTwice : List Sum := [s_alive02, s_image, s_mul]
def I_VecTwice : List Inf := [i_alive02, i_image, i_mul]
def t_VecTwice : TX := (.callp 0 [] (.callp 2 [(.mul (.mn (.mx (.v 0) (.c (-4))) (.c 4)) (.c 256)), (.mul (.mn (.mx (.v 1) (.c (-4))) (.c 4)) (.c 256)), (.mul (.mn (.mx (.v 2) (.c (-4))) (.c 4)) (.c 256)), (.mul (.mn (.mx (.v 3) (.c (-4))) (.c 4)) (.c 256)), (.mul (.mn (.mx (.v 4) (.c (-4))) (.c 4)) (.c 256)), (.mul (.mn (.mx (.v 5) (.c (-4))) (.c 4)) (.c 256)), (.mul (.mn (.mx (.v 6) (.c (-4))) (.c 4)) (.c 256)), (.mul (.mn (.mx (.v 7) (.c (-4))) (.c 4)) (.c 256)), (.mul (.mn (.mx (.v 8) (.c (-4))) (.c 4)) (.c 256)), (.v 9), (.v 10), (.v 11), (.mul (.mn (.mx (.v 12) (.c (-4))) (.c 4)) (.c 256)), (.mul (.mn (.mx (.v 13) (.c (-4))) (.c 4)) (.c 256)), (.mul (.mn (.mx (.v 14) (.c (-4))) (.c 4)) (.c 256)), (.mul (.mn (.mx (.v 15) (.c (-4))) (.c 4)) (.c 256)), (.mul (.mn (.mx (.v 16) (.c (-4))) (.c 4)) (.c 256)), (.mul (.mn (.mx (.v 17) (.c (-4))) (.c 4)) (.c 256)), (.mul (.mn (.mx (.v 18) (.c (-4))) (.c 4)) (.c 256)), (.mul (.mn (.mx (.v 19) (.c (-4))) (.c 4)) (.c 256)), (.mul (.mn (.mx (.v 20) (.c (-4))) (.c 4)) (.c 256)), (.v 21), (.v 22), (.v 23)] (.callp 1 [(.mul (.mn (.mx (.v 12) (.c (-4))) (.c 4)) (.c 256)), (.mul (.mn (.mx (.v 13) (.c (-4))) (.c 4)) (.c 256)), (.mul (.mn (.mx (.v 14) (.c (-4))) (.c 4)) (.c 256)), (.mul (.mn (.mx (.v 15) (.c (-4))) (.c 4)) (.c 256)), (.mul (.mn (.mx (.v 16) (.c (-4))) (.c 4)) (.c 256)), (.mul (.mn (.mx (.v 17) (.c (-4))) (.c 4)) (.c 256)), (.mul (.mn (.mx (.v 18) (.c (-4))) (.c 4)) (.c 256)), (.mul (.mn (.mx (.v 19) (.c (-4))) (.c 4)) (.c 256)), (.mul (.mn (.mx (.v 20) (.c (-4))) (.c 4)) (.c 256)), (.v 21), (.v 22), (.v 23), (.v 24), (.v 25), (.v 26)] (.callp 1 [(.mul (.mn (.mx (.v 0) (.c (-4))) (.c 4)) (.c 256)), (.mul (.mn (.mx (.v 1) (.c (-4))) (.c 4)) (.c 256)), (.mul (.mn (.mx (.v 2) (.c (-4))) (.c 4)) (.c 256)), (.mul (.mn (.mx (.v 3) (.c (-4))) (.c 4)) (.c 256)), (.mul (.mn (.mx (.v 4) (.c (-4))) (.c 4)) (.c 256)), (.mul (.mn (.mx (.v 5) (.c (-4))) (.c 4)) (.c 256)), (.mul (.mn (.mx (.v 6) (.c (-4))) (.c 4)) (.c 256)), (.mul (.mn (.mx (.v 7) (.c (-4))) (.c 4)) (.c 256)), (.mul (.mn (.mx (.v 8) (.c (-4))) (.c 4)) (.c 256)), (.v 9), (.v 10), (.v 11), (.v 41), (.v 42), (.v 43)] (.callp 1 [(.v 28), (.v 29), (.v 30), (.v 31), (.v 32), (.v 33), (.v 34), (.v 35), (.v 36), (.v 37), (.v 38), (.v 39), (.v 24), (.v 25), (.v 26)] (.ite (.or (.or (.not (.eq (.v 40) (.c 0))) (.not (.eq (.v 44) (.c 0)))) (.and (.and (.nz (.v 27)) (.eq (.v 48) (.v 52))) (.and (.eq (.v 45) (.v 49)) (.and (.eq (.v 46) (.v 50)) (.eq (.v 47) (.v 51)))))) (.ret [(.c 1)])
(.ret [(.c 0)])))))))
theorem tree_VecTwice : merge (opt I_VecTwice (((An 12).ks ++ ((An 12).ks ++ ((An 3).ks ++ []))).map ivK) (symFn Try.prog G_VecTwice 1000 20 [An 12, An 12, An 3] [Bo])) = t_VecTwice := by kernel_rfl
theorem g_VecTwice : Gok Try.prog G_VecTwice := (more ok_alive02 (more ok_image (one ok_mul)))
theorem o_VecTwice : outsOK G_VecTwice I_VecTwice := (outsOK_cons inf_alive02 (outsOK_cons inf_image (outsOK_cons inf_mul outsOK_nil)))
theorem plain (xs0 : List Int) (hr0 : rangeOK (An 12).ks xs0) (xs1 : List Int) (hr1 : rangeOK (An 12).ks xs1) (xs2 : List Int) (hr2 : rangeOK (An 3).ks xs2) : t_VecTwice.sat G_VecTwice [] (fun ys => ys = [1]) (xs0 ++ (xs1 ++ (xs2 ++ []))) := by
  obtain ⟨l0, i0⟩ := An_inv hr0
  obtain ⟨a0, a1, a2, a3, a4, a5, a6, a7, a8, a9, a10, a11, rfl⟩ := len12 l0
  obtain ⟨l1, i1⟩ := An_inv hr1
  obtain ⟨a12, a13, a14, a15, a16, a17, a18, a19, a20, a21, a22, a23, rfl⟩ := len12 l1
  obtain ⟨l2, i2⟩ := An_inv hr2
  obtain ⟨a24, a25, a26, rfl⟩ := len3 l2
  simp only [t_VecTwice, G_VecTwice, s_alive02, s_image, s_mul, TX.sat, XB.prop, X.den, List.map_cons, List.map_nil, List.getElem?_cons_zero, List.getElem?_cons_succ, List.cons_append, List.nil_append, List.getD_cons_zero, List.getD_cons_succ, mkS, mkP, and_true, true_and, Int.not_lt, Int.not_le, not_or, not_and, Classical.not_not, ne_eq, not_true_eq_false, not_false_eq_true, sem_alive02, sem_alive, sem_image, sem_mul, ex4, ex13]
  generalize min (max a0 (-4)) 4 = p0
  generalize min (max a1 (-4)) 4 = p1
  generalize min (max a2 (-4)) 4 = p2
  generalize min (max a3 (-4)) 4 = p3
  generalize min (max a4 (-4)) 4 = p4
  generalize min (max a5 (-4)) 4 = p5
  generalize min (max a6 (-4)) 4 = p6
  generalize min (max a7 (-4)) 4 = p7
  generalize min (max a8 (-4)) 4 = p8
  generalize min (max a12 (-4)) 4 = q0
  generalize min (max a13 (-4)) 4 = q1
  generalize min (max a14 (-4)) 4 = q2
  generalize min (max a15 (-4)) 4 = q3
  generalize min (max a16 (-4)) 4 = q4
  generalize min (max a17 (-4)) 4 = q5
  generalize min (max a18 (-4)) 4 = q6
  generalize min (max a19 (-4)) 4 = q7
  generalize min (max a20 (-4)) 4 = q8
  have h1 : mulP [p0 * 256, p1 * 256, p2 * 256, p3 * 256, p4 * 256, p5 * 256, p6 * 256, p7 * 256, p8 * 256, a9, a10, a11, q0 * 256, q1 * 256, q2 * 256, q3 * 256, q4 * 256, q5 * 256, q6 * 256, q7 * 256, q8 * 256, a21, a22, a23] = [(p0 * q0 + p1 * q3 + p2 * q6) * 256, (p0 * q1 + p1 * q4 + p2 * q7) * 256, (p0 * q2 + p1 * q5 + p2 * q8) * 256, (p3 * q0 + p4 * q3 + p5 * q6) * 256, (p3 * q1 + p4 * q4 + p5 * q7) * 256, (p3 * q2 + p4 * q5 + p5 * q8) * 256, (p6 * q0 + p7 * q3 + p8 * q6) * 256, (p6 * q1 + p7 * q4 + p8 * q7) * 256, (p6 * q2 + p7 * q5 + p8 * q8) * 256, p0 * a21 + p1 * a22 + p2 * a23 + a9, p3 * a21 + p4 * a22 + p5 * a23 + a10, p6 * a21 + p7 * a22 + p8 * a23 + a11, 0] := mulP_eq ..
  have h2 : imageP [q0 * 256, q1 * 256, q2 * 256, q3 * 256, q4 * 256, q5 * 256, q6 * 256, q7 * 256, q8 * 256, a21, a22, a23, a24, a25, a26] = [q0 * a24 + q1 * a25 + q2 * a26 + a21, q3 * a24 + q4 * a25 + q5 * a26 + a22, q6 * a24 + q7 * a25 + q8 * a26 + a23, 0] := imageB ..
  have h3 : imageP [p0 * 256, p1 * 256, p2 * 256, p3 * 256, p4 * 256, p5 * 256, p6 * 256, p7 * 256, p8 * 256, a9, a10, a11, q0 * a24 + q1 * a25 + q2 * a26 + a21, q3 * a24 + q4 * a25 + q5 * a26 + a22, q6 * a24 + q7 * a25 + q8 * a26 + a23] = imageP [(p0 * q0 + p1 * q3 + p2 * q6) * 256, (p0 * q1 + p1 * q4 + p2 * q7) * 256, (p0 * q2 + p1 * q5 + p2 * q8) * 256, (p3 * q0 + p4 * q3 + p5 * q6) * 256, (p3 * q1 + p4 * q4 + p5 * q7) * 256, (p3 * q2 + p4 * q5 + p5 * q8) * 256, (p6 * q0 + p7 * q3 + p8 * q6) * 256, (p6 * q1 + p7 * q4 + p8 * q7) * 256, (p6 * q2 + p7 * q5 + p8 * q8) * 256, p0 * a21 + p1 * a22 + p2 * a23 + a9, p3 * a21 + p4 * a22 + p5 * a23 + a10, p6 * a21 + p7 * a22 + p8 * a23 + a11, a24, a25, a26] := yz ..
  by_cases hc : (matB [p0 * 256, p1 * 256, p2 * 256, p3 * 256, p4 * 256, p5 * 256, p6 * 256, p7 * 256, p8 * 256, a9, a10, a11, q0 * 256, q1 * 256, q2 * 256, q3 * 256, q4 * 256, q5 * 256, q6 * 256, q7 * 256, q8 * 256, a21, a22, a23] 0 && matB [p0 * 256, p1 * 256, p2 * 256, p3 * 256, p4 * 256, p5 * 256, p6 * 256, p7 * 256, p8 * 256, a9, a10, a11, q0 * 256, q1 * 256, q2 * 256, q3 * 256, q4 * 256, q5 * 256, q6 * 256, q7 * 256, q8 * 256, a21, a22, a23] 12 && matB (mulP [p0 * 256, p1 * 256, p2 * 256, p3 * 256, p4 * 256, p5 * 256, p6 * 256, p7 * 256, p8 * 256, a9, a10, a11, q0 * 256, q1 * 256, q2 * 256, q3 * 256, q4 * 256, q5 * 256, q6 * 256, q7 * 256, q8 * 256, a21, a22, a23]) 0) = true
  · have hm : mulL [p0 * 256, p1 * 256, p2 * 256, p3 * 256, p4 * 256, p5 * 256, p6 * 256, p7 * 256, p8 * 256, a9, a10, a11, q0 * 256, q1 * 256, q2 * 256, q3 * 256, q4 * 256, q5 * 256, q6 * 256, q7 * 256, q8 * 256, a21, a22, a23] = [(p0 * q0 + p1 * q3 + p2 * q6) * 256, (p0 * q1 + p1 * q4 + p2 * q7) * 256, (p0 * q2 + p1 * q5 + p2 * q8) * 256, (p3 * q0 + p4 * q3 + p5 * q6) * 256, (p3 * q1 + p4 * q4 + p5 * q7) * 256, (p3 * q2 + p4 * q5 + p5 * q8) * 256, (p6 * q0 + p7 * q3 + p8 * q6) * 256, (p6 * q1 + p7 * q4 + p8 * q7) * 256, (p6 * q2 + p7 * q5 + p8 * q8) * 256, p0 * a21 + p1 * a22 + p2 * a23 + a9, p3 * a21 + p4 * a22 + p5 * a23 + a10, p6 * a21 + p7 * a22 + p8 * a23 + a11, 0] := (if_pos hc).trans h1
    by_cases hw : (matB [q0 * 256, q1 * 256, q2 * 256, q3 * 256, q4 * 256, q5 * 256, q6 * 256, q7 * 256, q8 * 256, a21, a22, a23, a24, a25, a26] 0 && all3 4096 [q0 * 256, q1 * 256, q2 * 256, q3 * 256, q4 * 256, q5 * 256, q6 * 256, q7 * 256, q8 * 256, a21, a22, a23, a24, a25, a26] 12 && all3 4096 (imageP [q0 * 256, q1 * 256, q2 * 256, q3 * 256, q4 * 256, q5 * 256, q6 * 256, q7 * 256, q8 * 256, a21, a22, a23, a24, a25, a26]) 0) = true
    · have hx : imageL [q0 * 256, q1 * 256, q2 * 256, q3 * 256, q4 * 256, q5 * 256, q6 * 256, q7 * 256, q8 * 256, a21, a22, a23, a24, a25, a26] = [q0 * a24 + q1 * a25 + q2 * a26 + a21, q3 * a24 + q4 * a25 + q5 * a26 + a22, q6 * a24 + q7 * a25 + q8 * a26 + a23, 0] := (if_pos hw).trans h2
      rw [h1] at hc
      rw [h2] at hw
      simp only [Bool.and_eq_true] at hc hw
      have k1 : matB [p0 * 256, p1 * 256, p2 * 256, p3 * 256, p4 * 256, p5 * 256, p6 * 256, p7 * 256, p8 * 256, a9, a10, a11, q0 * a24 + q1 * a25 + q2 * a26 + a21, q3 * a24 + q4 * a25 + q5 * a26 + a22, q6 * a24 + q7 * a25 + q8 * a26 + a23] 0 = true := hc.1.1
      have k2 : all3 4096 [p0 * 256, p1 * 256, p2 * 256, p3 * 256, p4 * 256, p5 * 256, p6 * 256, p7 * 256, p8 * 256, a9, a10, a11, q0 * a24 + q1 * a25 + q2 * a26 + a21, q3 * a24 + q4 * a25 + q5 * a26 + a22, q6 * a24 + q7 * a25 + q8 * a26 + a23] 12 = true := hw.2
      have k3 : matB [(p0 * q0 + p1 * q3 + p2 * q6) * 256, (p0 * q1 + p1 * q4 + p2 * q7) * 256, (p0 * q2 + p1 * q5 + p2 * q8) * 256, (p3 * q0 + p4 * q3 + p5 * q6) * 256, (p3 * q1 + p4 * q4 + p5 * q7) * 256, (p3 * q2 + p4 * q5 + p5 * q8) * 256, (p6 * q0 + p7 * q3 + p8 * q6) * 256, (p6 * q1 + p7 * q4 + p8 * q7) * 256, (p6 * q2 + p7 * q5 + p8 * q8) * 256, p0 * a21 + p1 * a22 + p2 * a23 + a9, p3 * a21 + p4 * a22 + p5 * a23 + a10, p6 * a21 + p7 * a22 + p8 * a23 + a11, a24, a25, a26] 0 = true := hc.2
      have k4 : all3 4096 [(p0 * q0 + p1 * q3 + p2 * q6) * 256, (p0 * q1 + p1 * q4 + p2 * q7) * 256, (p0 * q2 + p1 * q5 + p2 * q8) * 256, (p3 * q0 + p4 * q3 + p5 * q6) * 256, (p3 * q1 + p4 * q4 + p5 * q7) * 256, (p3 * q2 + p4 * q5 + p5 * q8) * 256, (p6 * q0 + p7 * q3 + p8 * q6) * 256, (p6 * q1 + p7 * q4 + p8 * q7) * 256, (p6 * q2 + p7 * q5 + p8 * q8) * 256, p0 * a21 + p1 * a22 + p2 * a23 + a9, p3 * a21 + p4 * a22 + p5 * a23 + a10, p6 * a21 + p7 * a22 + p8 * a23 + a11, a24, a25, a26] 12 = true := hw.1.2
      have hy : imageL [p0 * 256, p1 * 256, p2 * 256, p3 * 256, p4 * 256, p5 * 256, p6 * 256, p7 * 256, p8 * 256, a9, a10, a11, q0 * a24 + q1 * a25 + q2 * a26 + a21, q3 * a24 + q4 * a25 + q5 * a26 + a22, q6 * a24 + q7 * a25 + q8 * a26 + a23] = imageL [(p0 * q0 + p1 * q3 + p2 * q6) * 256, (p0 * q1 + p1 * q4 + p2 * q7) * 256, (p0 * q2 + p1 * q5 + p2 * q8) * 256, (p3 * q0 + p4 * q3 + p5 * q6) * 256, (p3 * q1 + p4 * q4 + p5 * q7) * 256, (p3 * q2 + p4 * q5 + p5 * q8) * 256, (p6 * q0 + p7 * q3 + p8 * q6) * 256, (p6 * q1 + p7 * q4 + p8 * q7) * 256, (p6 * q2 + p7 * q5 + p8 * q8) * 256, p0 * a21 + p1 * a22 + p2 * a23 + a9, p3 * a21 + p4 * a22 + p5 * a23 + a10, p6 * a21 + p7 * a22 + p8 * a23 + a11, a24, a25, a26] := by
        unfold imageL
        rw [k1, k2, k3, k4, h3]
      rw [hm, hx]
      simp only [TX.sat, XB.prop, X.den, List.map_cons, List.map_nil, List.getElem?_cons_zero, List.getElem?_cons_succ, List.cons_append, List.nil_append, List.getD_cons_zero, List.getD_cons_succ, mkS, mkP, and_true, true_and, Int.not_lt, Int.not_le, not_or, not_and, Classical.not_not, ne_eq, not_true_eq_false, not_false_eq_true]
      rw [hy]
      simp
    · have hx : imageL [q0 * 256, q1 * 256, q2 * 256, q3 * 256, q4 * 256, q5 * 256, q6 * 256, q7 * 256, q8 * 256, a21, a22, a23, a24, a25, a26] = [0, 0, 0, 20] := if_neg hw
      rw [hm, hx]
      simp
  · have hm : mulL [p0 * 256, p1 * 256, p2 * 256, p3 * 256, p4 * 256, p5 * 256, p6 * 256, p7 * 256, p8 * 256, a9, a10, a11, q0 * 256, q1 * 256, q2 * 256, q3 * 256, q4 * 256, q5 * 256, q6 * 256, q7 * 256, q8 * 256, a21, a22, a23] = [0, 0, 0, 0, 0, 0, 0, 0, 0, 0, 0, 0, 20] := if_neg hc
    rw [hm]
    simp

theorem range_nil : rangeOK [] [] := trivial
set_option maxRecDepth 100000 in
theorem lifted (os : Os) (started : os.Started) (H : Type) (enc : TypeId × Value → H) :
    ReturnsInHanded {} Try.checked os 20 .any (Rows.vecTwiceSpec.pre6 enc Try.prog Try.f20 Rows.vecTwiceRow.domain false) (Rows.vecTwiceSpec.post enc Try.prog Try.f20 false true false false) := by
  refine returnsInHanded_of_change (C := Try.checked) facts.own started (by kernel_rfl) Try.func20
    (ChangeSpec.witness6 (enc := enc) (C := Try.checked) false ⟨#[], #[.agg #[.int .i64 0, .int .i64 0, .int .i64 0, .int .i64 0, .int .i64 0, .int .i64 0, .int .i64 0, .int .i64 0, .int .i64 0, .int .i64 0, .int .i64 0, .int .i64 0], .agg #[.int .i64 0, .int .i64 0, .int .i64 0, .int .i64 0, .int .i64 0, .int .i64 0, .int .i64 0, .int .i64 0, .int .i64 0, .int .i64 0, .int .i64 0, .int .i64 0], .agg #[.int .i64 0, .int .i64 0, .int .i64 0]], []⟩ 8 (by kernel_rfl) (by kernel_rfl) (by kernel_rfl) (by kernel_rfl)) ?_
  intro W base args ds gs before hval0 hW hcnd _
  have hval : ∀ (j : Nat) t v, Try.f20.params[j]? = some t → args[j]? = some v → Value.okWide Try.prog W .any base t v := hval0
  have hW' := hW
  obtain ⟨p, q, hA0, hV, rfl, hfz, hnd⟩ := hW
  have hA : DataW.TrodAll enc Try.prog W 0 (fun _ => true) true Try.f20.params.toList args.toList ds p := hA0
  rw [Try.params20] at hA hval
  obtain ⟨v0, vs0, d0, ds0, p0, q0, hargs, rfl, rfl, h0, r0⟩ := trodAll_cons hA
  obtain ⟨v1, vs1, d1, ds1, p1, q1, rfl, rfl, rfl, h1, r1⟩ := trodAll_cons r0
  obtain ⟨v2, vs2, d2, ds2, p2, q2, rfl, rfl, rfl, h2, r2⟩ := trodAll_cons r1
  obtain ⟨rfl, rfl, rfl⟩ := trodAll_nil r2
  obtain rfl : args = #[v0, v1, v2] := by cases args; simp_all
  obtain ⟨rfl, rfl⟩ := trodVars_none hV
  have k0 := h0
  have lt0 : ∀ x ∈ p0, x.block < W.heap.size := by obtain ⟨m, hm⟩ := k0; exact DataW.trod_lt m _ _ _ hm
  have k1 := h1
  have lt1 : ∀ x ∈ p1, x.block < W.heap.size := by obtain ⟨m, hm⟩ := k1; exact DataW.trod_lt m _ _ _ hm
  have k2 := h2
  have lt2 : ∀ x ∈ p2, x.block < W.heap.size := by obtain ⟨m, hm⟩ := k2; exact DataW.trod_lt m _ _ _ hm
  obtain ⟨xs0, hv0, hr0⟩ := open_sh (sh := An 12) (by kernel_rfl) (by kernel_rfl) (hval 0 76 v0 rfl rfl) h0
  obtain ⟨xs1, hv1, hr1⟩ := open_sh (sh := An 12) (by kernel_rfl) (by kernel_rfl) (hval 1 76 v1 rfl rfl) h1
  obtain ⟨xs2, hv2, hr2⟩ := open_sh (sh := An 3) (by kernel_rfl) (by kernel_rfl) (hval 2 51 v2 rfl rfl) h2
  clear hA0 hval0
  have hl0 := rangeOK_len hr0
  have hl1 := rangeOK_len hr1
  have hl2 := rangeOK_len hr2
  have hxs : #[v0, v1, v2] = (mkShs [An 12, An 12, An 3] (xs0 ++ (xs1 ++ (xs2 ++ [])))).toArray := by
    rw [mkShs_cons hl0, mkShs_cons hl1, mkShs_cons hl2]
    simp [mkShs, hv0, hv1, hv2]
  have hlen : (xs0 ++ (xs1 ++ (xs2 ++ []))).length = total [An 12, An 12, An 3] := by
    simp only [List.length_append, List.length_nil, hl0, hl1, hl2]
    rfl
  have hcalls := law_opt facts.mixed g_VecTwice o_VecTwice tree_VecTwice hlen (range_vs ((rangeOK_app hr0 (rangeOK_app hr1 (rangeOK_app hr2 range_nil))) : rangeOK _ _)) (plain xs0 hr0 xs1 hr1 xs2 hr2) W
  rw [← hxs] at hcalls
  refine hcalls.mono fun e W' ⟨he, bel⟩ => ?_
  subst he
  exact ⟨_, rfl, _, _, _, [], _, [], hW', trodAll_mk1 (shut_bool Try.underlying4 _), (trodAll_cons_mk (Below.trod facts.laidOut (by kernel_rfl) (of_decide_eq_true (by kernel_rfl)) k0 bel lt0) (trodAll_cons_mk (Below.trod facts.laidOut (by kernel_rfl) (of_decide_eq_true (by kernel_rfl)) k1 bel lt1) (trodAll_cons_mk (Below.trod facts.laidOut (by kernel_rfl) (of_decide_eq_true (by kernel_rfl)) k2 bel lt2) trodAll_mk0))), rfl, bel.frame _, fun h => by cases h⟩

theorem over : Rows.vecTwiceRow.holds Try.pinned (OpenSpec.ofChange Rows.vecTwiceSpec) :=
  OpenClaim.holds_of_wide 20 Try.f20 rfl rfl rfl rfl rfl rfl rfl ⟨rfl, rfl, rfl, rfl, rfl⟩ rfl rfl rfl rfl rfl (by kernel_rfl) Try.func20
    (facts.joined (by kernel_rfl) (by kernel_rfl) (by kernel_rfl) (by kernel_rfl) (by kernel_rfl) (by kernel_rfl) (by kernel_rfl) rfl rfl rfl rfl)
    (of_decide_eq_true (by kernel_rfl)) (by unfold Func.isWrapper; first | (rw [if_pos (by decide +kernel)]; kernel_rfl) | (rw [if_neg (by decide +kernel)]; exact ⟨rfl, rfl⟩))
    (fun os started H enc _ => lifted os started H enc)

/-- THE STATEMENT. -/
theorem proved : Rows.VecTwiceSaid := over
#print axioms proved

end Go.Proofs.Ytlgcjkolakcfiaa.vecTwice
