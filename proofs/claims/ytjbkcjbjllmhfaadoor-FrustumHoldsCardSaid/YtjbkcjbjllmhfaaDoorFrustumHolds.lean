/-
  The law FrustumHolds is answered with true, whatever its arguments, which stay as they were.
-/
import Derived.Test.YtjbkcjbjllmhfaaDoorRows
import Derived.Test.YtjbkcjbjllmhfaaDoorFacts
import Derived.Test.YtjbkcjbjllmhfaaDoorCards
import Derived.Test.YtjbkcjbjllmhfaaDoorTie
import Derived.Test.YtjbkcjbjllmhfaaDoorDoorA
import Derived.SevenTiedAt
import Derived.Test.YtjbkcjbjllmhfaaDoorMid
set_option linter.unusedVariables false
set_option linter.unusedSimpArgs false
namespace Go.Proofs.YtjbkcjbjllmhfaaDoor.frustumHolds
open Go.RowKit Go.ChangeShapes Go.WideShapes Go.ChangeAt Go.Sx fix

def G_FrustumHolds : List Sum := [s_alive17, s_fview, s_shadow, s_holds, s_floorG]
def I_FrustumHolds : List Inf := [i_alive17, i_fview, i_shadow, i_holds, i_floorG]
def t_FrustumHolds : TX := (.callp 0 [] (.callp 1 [(.v 0), (.v 1), (.v 2), (.v 3), (.v 4), (.v 5), (.v 6), (.v 7), (.v 8), (.v 9), (.v 10), (.v 11), (.v 12), (.v 13), (.v 14), (.v 15), (.v 16), (.v 17), (.v 18), (.v 19), (.v 20), (.v 21)] (.callp 2 [(.v 0), (.v 1), (.v 2), (.v 3), (.v 4), (.v 5), (.v 6), (.v 7), (.v 8), (.v 9), (.v 10), (.v 11), (.v 12), (.v 13), (.v 14), (.v 15), (.v 16), (.v 17), (.v 18), (.v 19), (.v 20), (.v 21), (.v 22), (.v 23), (.v 24), (.v 25)] (.ite (.or (.or (.or (.or (.or (.not (.eq (.v 47) (.c 0))) (.not (.eq (.v 54) (.c 0)))) (.lt (.v 26) (.v 22))) (.lt (.v 24) (.v 26))) (.lt (.v 27) (.v 23))) (.lt (.v 25) (.v 27))) (.ret [(.c 1)])
(.callp 3 [(.v 41), (.v 42), (.v 43), (.v 44), (.v 45), (.v 46), (.v 28), (.v 29), (.v 30)] (.ite (.or (.eq (.v 55) (.c 0)) (.lt (.v 30) (.v 13))) (.ret [(.c 1)])
(.callp 3 [(.v 41), (.v 42), (.v 43), (.v 44), (.v 45), (.v 46), (.v 31), (.v 32), (.v 33)] (.ite (.or (.eq (.v 56) (.c 0)) (.lt (.v 33) (.v 13))) (.ret [(.c 1)])
(.callp 3 [(.v 41), (.v 42), (.v 43), (.v 44), (.v 45), (.v 46), (.v 34), (.v 35), (.v 36)] (.ite (.or (.eq (.v 57) (.c 0)) (.lt (.v 36) (.v 13))) (.ret [(.c 1)])
(.callp 3 [(.v 41), (.v 42), (.v 43), (.v 44), (.v 45), (.v 46), (.v 37), (.v 38), (.v 39)] (.ite (.or (.eq (.v 58) (.c 0)) (.lt (.v 39) (.v 13))) (.ret [(.c 1)])
(.callp 4 [(.wr .i64 (.mul (.wr .i64 (.mul (.c 8) (.v 12))) (.v 28))), (.v 30)] (.ite (.lt (.wr .i64 (.add (.wr .i64 (.mul (.c 8) (.v 26))) (.c 4))) (.wr .i64 (.add (.v 59) (.wr .i64 (.mul (.c 4) (.v 14)))))) (.ret [(.c 1)])
(.callp 4 [(.wr .i64 (.mul (.wr .i64 (.mul (.c 8) (.v 12))) (.v 31))), (.v 33)] (.ite (.lt (.wr .i64 (.add (.v 61) (.wr .i64 (.mul (.c 4) (.v 14))))) (.wr .i64 (.add (.wr .i64 (.mul (.c 8) (.v 26))) (.c 4)))) (.ret [(.c 1)])
(.callp 4 [(.wr .i64 (.mul (.wr .i64 (.mul (.c 8) (.v 12))) (.v 35))), (.v 36)] (.ite (.lt (.wr .i64 (.add (.wr .i64 (.mul (.c 8) (.v 27))) (.c 4))) (.wr .i64 (.sub (.wr .i64 (.mul (.c 4) (.v 15))) (.v 63)))) (.ret [(.c 1)])
(.callp 4 [(.wr .i64 (.mul (.wr .i64 (.mul (.c 8) (.v 12))) (.v 38))), (.v 39)] (.ite (.lt (.wr .i64 (.sub (.wr .i64 (.mul (.c 4) (.v 15))) (.v 65))) (.wr .i64 (.add (.wr .i64 (.mul (.c 8) (.v 27))) (.c 4)))) (.ret [(.c 1)])
(.callp 4 [(.c 16777216), (.v 30)] (.ite (.or (.not (.eq (.v 68) (.c 0))) (.and (.nz (.v 53)) (.lt (.v 52) (.v 67)))) (.ret [(.c 0)])
(.callp 4 [(.c 16777216), (.v 33)] (.ite (.or (.not (.eq (.v 70) (.c 0))) (.and (.nz (.v 53)) (.lt (.v 52) (.v 69)))) (.ret [(.c 0)])
(.callp 4 [(.c 16777216), (.v 36)] (.ite (.or (.not (.eq (.v 72) (.c 0))) (.and (.nz (.v 53)) (.lt (.v 52) (.v 71)))) (.ret [(.c 0)])
(.callp 4 [(.c 16777216), (.v 39)] (.ite (.or (.not (.eq (.v 74) (.c 0))) (.and (.nz (.v 53)) (.lt (.v 52) (.v 73)))) (.ret [(.c 0)])
(.ite (.and (.and (.and (.and (.and (.nz (.v 40)) (.nz (.v 53))) (.le (.v 48) (.v 26))) (.le (.v 26) (.v 50))) (.le (.v 49) (.v 27))) (.le (.v 27) (.v 51))) (.ret [(.c 1)])
(.ret [(.c 0)]))))))))))))))))))))))))))))))
theorem tree_FrustumHolds : merge (optF I_FrustumHolds [] (((An 16).ks ++ ((An 6).ks ++ ((An 4).ks ++ (I1.ks ++ (I1.ks ++ ((An 12).ks ++ [])))))).map ivK) (symFnG Tryd.prog gl0 G_FrustumHolds 1000 7 [An 16, An 6, An 4, I1, I1, An 12] [Bo])) = t_FrustumHolds := by kernel_rfl
theorem g_FrustumHolds : Gok Tryd.prog G_FrustumHolds := (more ok_alive17 (more ok_fview (more ok_shadow (more ok_holds (one ok_floorG)))))
theorem o_FrustumHolds : outsOK G_FrustumHolds I_FrustumHolds := (outsOK_cons inf_alive17 (outsOK_cons inf_fview (outsOK_cons inf_shadow (outsOK_cons inf_holds (outsOK_cons inf_floorG outsOK_nil)))))
theorem plain (xs0 : List Int) (hr0 : rangeOK (An 16).ks xs0) (xs1 : List Int) (hr1 : rangeOK (An 6).ks xs1) (xs2 : List Int) (hr2 : rangeOK (An 4).ks xs2) (xs3 : List Int) (hr3 : rangeOK I1.ks xs3) (xs4 : List Int) (hr4 : rangeOK I1.ks xs4) (xs5 : List Int) (hr5 : rangeOK (An 12).ks xs5) : t_FrustumHolds.sat G_FrustumHolds [] (fun ys => ys = [1]) (xs0 ++ (xs1 ++ (xs2 ++ (xs3 ++ (xs4 ++ (xs5 ++ [])))))) := by
  obtain ⟨l0, i0⟩ := An_inv hr0
  obtain ⟨a0, a1, a2, a3, a4, a5, a6, a7, a8, a9, a10, a11, a12, a13, a14, a15, rfl⟩ := len16 l0
  obtain ⟨l1, i1⟩ := An_inv hr1
  obtain ⟨a16, a17, a18, a19, a20, a21, rfl⟩ := len6 l1
  obtain ⟨l2, i2⟩ := An_inv hr2
  obtain ⟨a22, a23, a24, a25, rfl⟩ := len4 l2
  obtain ⟨a26, rfl, i3⟩ := I1_inv hr3
  obtain ⟨a27, rfl, i4⟩ := I1_inv hr4
  obtain ⟨l5, i5⟩ := An_inv hr5
  obtain ⟨a28, a29, a30, a31, a32, a33, a34, a35, a36, a37, a38, a39, rfl⟩ := len12 l5
  have hA := @fview_ok [a0, a1, a2, a3, a4, a5, a6, a7, a8, a9, a10, a11, a12, a13, a14, a15, a16, a17, a18, a19, a20, a21]
  have hB := @shadow_ok [a0, a1, a2, a3, a4, a5, a6, a7, a8, a9, a10, a11, a12, a13, a14, a15, a16, a17, a18, a19, a20, a21, a22, a23, a24, a25]
  simp only [t_FrustumHolds, G_FrustumHolds, s_alive17, s_fview, s_shadow, s_holds, s_floorG, TX.sat, XB.prop, X.den, List.map_cons, List.map_nil, List.getElem?_cons_zero, List.getElem?_cons_succ, List.cons_append, List.nil_append, List.getD_cons_zero, List.getD_cons_succ, mkS, mkP, and_true, true_and, Int.not_lt, Int.not_le, not_or, not_and, Classical.not_not, ne_eq, not_true_eq_false, not_false_eq_true, sem_alive17, sem_alive, sem_fview, sem_shadow, sem_holds, sem_floorG, ex7, floorGL]
  clear i0 i1 i2 i3 i4 i5 l0 l1 l2 l5
  by_cases he : (fviewL [a0, a1, a2, a3, a4, a5, a6, a7, a8, a9, a10, a11, a12, a13, a14, a15, a16, a17, a18, a19, a20, a21]).getD 6 0 = 0
  · by_cases hf : (shadowL [a0, a1, a2, a3, a4, a5, a6, a7, a8, a9, a10, a11, a12, a13, a14, a15, a16, a17, a18, a19, a20, a21, a22, a23, a24, a25]).getD 6 0 = 0
    · obtain ⟨hc, hw, hv⟩ := hA he
      obtain ⟨hc', hw', hwin, hv'⟩ := hB hf
      have q0 : (turnedP (aimed [a0, a1, a2, a3, a4, a5, a6, a7, a8, a9, a10, a11, a12, a13, a14, a15, a16, a17, a18, a19, a20, a21])).getD 0 0 = vw [a0, a1, a2, a3, a4, a5, a6, a7, a8, a9, a10, a11, a12, a13, a14, a15, a16, a17, a18, a19, a20, a21, a22, a23, a24, a25] 0 := rfl
      have q1 : (turnedP (aimed [a0, a1, a2, a3, a4, a5, a6, a7, a8, a9, a10, a11, a12, a13, a14, a15, a16, a17, a18, a19, a20, a21])).getD 1 0 = vw [a0, a1, a2, a3, a4, a5, a6, a7, a8, a9, a10, a11, a12, a13, a14, a15, a16, a17, a18, a19, a20, a21, a22, a23, a24, a25] 1 := rfl
      have q2 : (turnedP (aimed [a0, a1, a2, a3, a4, a5, a6, a7, a8, a9, a10, a11, a12, a13, a14, a15, a16, a17, a18, a19, a20, a21])).getD 2 0 = vw [a0, a1, a2, a3, a4, a5, a6, a7, a8, a9, a10, a11, a12, a13, a14, a15, a16, a17, a18, a19, a20, a21, a22, a23, a24, a25] 2 := rfl
      have q3 : (turnedP (aimed [a0, a1, a2, a3, a4, a5, a6, a7, a8, a9, a10, a11, a12, a13, a14, a15, a16, a17, a18, a19, a20, a21])).getD 3 0 = vw [a0, a1, a2, a3, a4, a5, a6, a7, a8, a9, a10, a11, a12, a13, a14, a15, a16, a17, a18, a19, a20, a21, a22, a23, a24, a25] 3 := rfl
      have q4 : (turnedP (aimed [a0, a1, a2, a3, a4, a5, a6, a7, a8, a9, a10, a11, a12, a13, a14, a15, a16, a17, a18, a19, a20, a21])).getD 4 0 = vw [a0, a1, a2, a3, a4, a5, a6, a7, a8, a9, a10, a11, a12, a13, a14, a15, a16, a17, a18, a19, a20, a21, a22, a23, a24, a25] 4 := rfl
      have q5 : (turnedP (aimed [a0, a1, a2, a3, a4, a5, a6, a7, a8, a9, a10, a11, a12, a13, a14, a15, a16, a17, a18, a19, a20, a21])).getD 5 0 = vw [a0, a1, a2, a3, a4, a5, a6, a7, a8, a9, a10, a11, a12, a13, a14, a15, a16, a17, a18, a19, a20, a21, a22, a23, a24, a25] 5 := rfl
      rw [hv, hv']
      simp only [q0, q1, q2, q3, q4, q5]
      refine ⟨fun _ => trivial, fun h0 => ?_⟩
      have hxy : (a22 ≤ a26 ∧ a26 ≤ a24) ∧ (a23 ≤ a27 ∧ a27 ≤ a25) := by
        obtain ⟨⟨⟨⟨_, x1⟩, x2⟩, y1⟩, y2⟩ := h0
        exact ⟨⟨x1, x2⟩, y1, y2⟩
      clear h0 hA hB he hf hv
      refine ⟨fun _ => trivial, fun h0 => ⟨fun _ => trivial, fun h1 => ⟨fun _ => trivial, fun h2 => ⟨fun _ => trivial, fun h3 => ?_⟩⟩⟩⟩
      have hb : ∀ b : Bool, ¬ b01 b = 0 → b = true := fun b h => by cases b <;> simp [b01] at h ⊢
      have p0 := hb _ h0.1
      have p1 := hb _ h1.1
      have p2 := hb _ h2.1
      have p3 := hb _ h3.1
      simp only [holdsB, dec_true, TX.sat, XB.prop, X.den, List.map_cons, List.map_nil, List.getElem?_cons_zero, List.getElem?_cons_succ, List.cons_append, List.nil_append, List.getD_cons_zero, List.getD_cons_succ, mkS, mkP, and_true, true_and, Int.not_lt, Int.not_le, not_or, not_and, Classical.not_not, ne_eq, not_true_eq_false, not_false_eq_true] at p0 p1 p2 p3
      have z0 := h0.2
      have z1 := h1.2
      have z2 := h2.2
      have z3 := h3.2
      clear h0 h1 h2 h3 hb
      obtain ⟨s1, s2, s3⟩ := seen_in hc' hw'
      have kl := lens_of hc'
      simp only [TX.sat, XB.prop, X.den, List.map_cons, List.map_nil, List.getElem?_cons_zero, List.getElem?_cons_succ, List.cons_append, List.nil_append, List.getD_cons_zero, List.getD_cons_succ, mkS, mkP, and_true, true_and, Int.not_lt, Int.not_le, not_or, not_and, Classical.not_not, ne_eq, not_true_eq_false, not_false_eq_true] at kl
      have kw := winB_true.1 hwin
      simp only [TX.sat, XB.prop, X.den, List.map_cons, List.map_nil, List.getElem?_cons_zero, List.getElem?_cons_succ, List.cons_append, List.nil_append, List.getD_cons_zero, List.getD_cons_succ, mkS, mkP, and_true, true_and, Int.not_lt, Int.not_le, not_or, not_and, Classical.not_not, ne_eq, not_true_eq_false, not_false_eq_true, Nat.reduceAdd] at kw
      have n1 : nearV [a0, a1, a2, a3, a4, a5, a6, a7, a8, a9, a10, a11, a12, a13, a14, a15, a16, a17, a18, a19, a20, a21, a22, a23, a24, a25] = max (vw [a0, a1, a2, a3, a4, a5, a6, a7, a8, a9, a10, a11, a12, a13, a14, a15, a16, a17, a18, a19, a20, a21, a22, a23, a24, a25] 2) a13 := rfl
      have f1 : farV [a0, a1, a2, a3, a4, a5, a6, a7, a8, a9, a10, a11, a12, a13, a14, a15, a16, a17, a18, a19, a20, a21, a22, a23, a24, a25] = vw [a0, a1, a2, a3, a4, a5, a6, a7, a8, a9, a10, a11, a12, a13, a14, a15, a16, a17, a18, a19, a20, a21, a22, a23, a24, a25] 5 := rfl
      have b0 : 256 ≤ a30 ∧ nearV [a0, a1, a2, a3, a4, a5, a6, a7, a8, a9, a10, a11, a12, a13, a14, a15, a16, a17, a18, a19, a20, a21, a22, a23, a24, a25] ≤ a30 ∧ a30 ≤ farV [a0, a1, a2, a3, a4, a5, a6, a7, a8, a9, a10, a11, a12, a13, a14, a15, a16, a17, a18, a19, a20, a21, a22, a23, a24, a25] := by omega
      have b1 : 256 ≤ a33 ∧ nearV [a0, a1, a2, a3, a4, a5, a6, a7, a8, a9, a10, a11, a12, a13, a14, a15, a16, a17, a18, a19, a20, a21, a22, a23, a24, a25] ≤ a33 ∧ a33 ≤ farV [a0, a1, a2, a3, a4, a5, a6, a7, a8, a9, a10, a11, a12, a13, a14, a15, a16, a17, a18, a19, a20, a21, a22, a23, a24, a25] := by omega
      have b2 : 256 ≤ a36 ∧ nearV [a0, a1, a2, a3, a4, a5, a6, a7, a8, a9, a10, a11, a12, a13, a14, a15, a16, a17, a18, a19, a20, a21, a22, a23, a24, a25] ≤ a36 ∧ a36 ≤ farV [a0, a1, a2, a3, a4, a5, a6, a7, a8, a9, a10, a11, a12, a13, a14, a15, a16, a17, a18, a19, a20, a21, a22, a23, a24, a25] := by omega
      have b3 : 256 ≤ a39 ∧ nearV [a0, a1, a2, a3, a4, a5, a6, a7, a8, a9, a10, a11, a12, a13, a14, a15, a16, a17, a18, a19, a20, a21, a22, a23, a24, a25] ≤ a39 ∧ a39 ≤ farV [a0, a1, a2, a3, a4, a5, a6, a7, a8, a9, a10, a11, a12, a13, a14, a15, a16, a17, a18, a19, a20, a21, a22, a23, a24, a25] := by omega
      have hnp : 256 ≤ nearV [a0, a1, a2, a3, a4, a5, a6, a7, a8, a9, a10, a11, a12, a13, a14, a15, a16, a17, a18, a19, a20, a21, a22, a23, a24, a25] := by omega
      have w8 : IntKind.i64.wrap (8 * a12) = 8 * a12 := wrap64 (by omega) (by omega)
      have wx : IntKind.i64.wrap (8 * a26) = 8 * a26 := wrap64 (by omega) (by omega)
      have wy : IntKind.i64.wrap (8 * a27) = 8 * a27 := wrap64 (by omega) (by omega)
      have wx4 : IntKind.i64.wrap (8 * a26 + 4) = 8 * a26 + 4 := wrap64 (by omega) (by omega)
      have wy4 : IntKind.i64.wrap (8 * a27 + 4) = 8 * a27 + 4 := wrap64 (by omega) (by omega)
      have w14 : IntKind.i64.wrap (4 * a14) = 4 * a14 := wrap64 (by omega) (by omega)
      have w15 : IntKind.i64.wrap (4 * a15) = 4 * a15 := wrap64 (by omega) (by omega)
      have hm : ∀ n : Int, -32768 ≤ n ∧ n ≤ 32768 → IntKind.i64.wrap (8 * a12 * n) = 8 * a12 * n := fun n hn => by
        have := mul_abs_le (x := 8 * a12) (y := n) (m := 512) (n := 32768) (by omega) hn
        exact wrap64 (by omega) (by omega)
      have m0 := hm a28 (by omega)
      have m1 := hm a31 (by omega)
      have m2 := hm a35 (by omega)
      have m3 := hm a38 (by omega)
      have g0 := grow_near (f := a12) (n := a28) (z := a30) (by omega) (by omega) b0.1
      have g1 := grow_near (f := a12) (n := a31) (z := a33) (by omega) (by omega) b1.1
      have g2 := grow_near (f := a12) (n := a35) (z := a36) (by omega) (by omega) b2.1
      have g3 := grow_near (f := a12) (n := a38) (z := a39) (by omega) (by omega) b3.1
      have e0 : IntKind.i64.wrap (8 * a12 * a28 / a30 + 4 * a14) = 8 * a12 * a28 / a30 + 4 * a14 := wrap64 (by omega) (by omega)
      have e1 : IntKind.i64.wrap (8 * a12 * a31 / a33 + 4 * a14) = 8 * a12 * a31 / a33 + 4 * a14 := wrap64 (by omega) (by omega)
      have e2 : IntKind.i64.wrap (4 * a15 - 8 * a12 * a35 / a36) = 4 * a15 - 8 * a12 * a35 / a36 := wrap64 (by omega) (by omega)
      have e3 : IntKind.i64.wrap (4 * a15 - 8 * a12 * a38 / a39) = 4 * a15 - 8 * a12 * a38 / a39 := wrap64 (by omega) (by omega)
      have c0 : ¬ a30 < 1 := by omega
      have c1 : ¬ a33 < 1 := by omega
      have c2 : ¬ a36 < 1 := by omega
      have c3 : ¬ a39 < 1 := by omega
      simp only [w8, wx, wy, wx4, wy4, w14, w15, m0, m1, m2, m3, c0, c1, c2, c3, if_false, reduceIte, TX.sat, XB.prop, X.den, List.map_cons, List.map_nil, List.getElem?_cons_zero, List.getElem?_cons_succ, List.cons_append, List.nil_append, List.getD_cons_zero, List.getD_cons_succ, mkS, mkP, and_true, true_and, Int.not_lt, Int.not_le, not_or, not_and, Classical.not_not, ne_eq, not_true_eq_false, not_false_eq_true, e0, e1, e2, e3]
      refine ⟨fun _ => trivial, fun k0 => ⟨fun _ => trivial, fun k1 => ⟨fun _ => trivial, fun k2 => ⟨fun _ => trivial, fun k3 => ?_⟩⟩⟩⟩
      have G0 := (go_mid (f := a12) (n := vw [a0, a1, a2, a3, a4, a5, a6, a7, a8, a9, a10, a11, a12, a13, a14, a15, a16, a17, a18, a19, a20, a21, a22, a23, a24, a25] 0) (m := a28) (by omega) (show 0 < nearV [a0, a1, a2, a3, a4, a5, a6, a7, a8, a9, a10, a11, a12, a13, a14, a15, a16, a17, a18, a19, a20, a21, a22, a23, a24, a25] by omega) b0.2.1 b0.2.2).1 (by omega)
      have G1 := (go_mid (f := a12) (n := vw [a0, a1, a2, a3, a4, a5, a6, a7, a8, a9, a10, a11, a12, a13, a14, a15, a16, a17, a18, a19, a20, a21, a22, a23, a24, a25] 3) (m := a31) (by omega) (show 0 < nearV [a0, a1, a2, a3, a4, a5, a6, a7, a8, a9, a10, a11, a12, a13, a14, a15, a16, a17, a18, a19, a20, a21, a22, a23, a24, a25] by omega) b1.2.1 b1.2.2).2 (by omega)
      have G2 := (go_mid (f := a12) (n := vw [a0, a1, a2, a3, a4, a5, a6, a7, a8, a9, a10, a11, a12, a13, a14, a15, a16, a17, a18, a19, a20, a21, a22, a23, a24, a25] 4) (m := a35) (by omega) (show 0 < nearV [a0, a1, a2, a3, a4, a5, a6, a7, a8, a9, a10, a11, a12, a13, a14, a15, a16, a17, a18, a19, a20, a21, a22, a23, a24, a25] by omega) b2.2.1 b2.2.2).2 (by omega)
      have G3 := (go_mid (f := a12) (n := vw [a0, a1, a2, a3, a4, a5, a6, a7, a8, a9, a10, a11, a12, a13, a14, a15, a16, a17, a18, a19, a20, a21, a22, a23, a24, a25] 1) (m := a38) (by omega) (show 0 < nearV [a0, a1, a2, a3, a4, a5, a6, a7, a8, a9, a10, a11, a12, a13, a14, a15, a16, a17, a18, a19, a20, a21, a22, a23, a24, a25] by omega) b3.2.1 b3.2.2).1 (by omega)
      have L1 : leftV [a0, a1, a2, a3, a4, a5, a6, a7, a8, a9, a10, a11, a12, a13, a14, a15, a16, a17, a18, a19, a20, a21, a22, a23, a24, a25] = goLo a12 (nearV [a0, a1, a2, a3, a4, a5, a6, a7, a8, a9, a10, a11, a12, a13, a14, a15, a16, a17, a18, a19, a20, a21, a22, a23, a24, a25]) (farV [a0, a1, a2, a3, a4, a5, a6, a7, a8, a9, a10, a11, a12, a13, a14, a15, a16, a17, a18, a19, a20, a21, a22, a23, a24, a25]) (vw [a0, a1, a2, a3, a4, a5, a6, a7, a8, a9, a10, a11, a12, a13, a14, a15, a16, a17, a18, a19, a20, a21, a22, a23, a24, a25] 0) + 4 * a14 := rfl
      have R1 : rightV [a0, a1, a2, a3, a4, a5, a6, a7, a8, a9, a10, a11, a12, a13, a14, a15, a16, a17, a18, a19, a20, a21, a22, a23, a24, a25] = goHi a12 (nearV [a0, a1, a2, a3, a4, a5, a6, a7, a8, a9, a10, a11, a12, a13, a14, a15, a16, a17, a18, a19, a20, a21, a22, a23, a24, a25]) (farV [a0, a1, a2, a3, a4, a5, a6, a7, a8, a9, a10, a11, a12, a13, a14, a15, a16, a17, a18, a19, a20, a21, a22, a23, a24, a25]) (vw [a0, a1, a2, a3, a4, a5, a6, a7, a8, a9, a10, a11, a12, a13, a14, a15, a16, a17, a18, a19, a20, a21, a22, a23, a24, a25] 3) + 4 * a14 := rfl
      have T1 : topV [a0, a1, a2, a3, a4, a5, a6, a7, a8, a9, a10, a11, a12, a13, a14, a15, a16, a17, a18, a19, a20, a21, a22, a23, a24, a25] = 4 * a15 - goHi a12 (nearV [a0, a1, a2, a3, a4, a5, a6, a7, a8, a9, a10, a11, a12, a13, a14, a15, a16, a17, a18, a19, a20, a21, a22, a23, a24, a25]) (farV [a0, a1, a2, a3, a4, a5, a6, a7, a8, a9, a10, a11, a12, a13, a14, a15, a16, a17, a18, a19, a20, a21, a22, a23, a24, a25]) (vw [a0, a1, a2, a3, a4, a5, a6, a7, a8, a9, a10, a11, a12, a13, a14, a15, a16, a17, a18, a19, a20, a21, a22, a23, a24, a25] 4) := rfl
      have B1 : botV [a0, a1, a2, a3, a4, a5, a6, a7, a8, a9, a10, a11, a12, a13, a14, a15, a16, a17, a18, a19, a20, a21, a22, a23, a24, a25] = 4 * a15 - goLo a12 (nearV [a0, a1, a2, a3, a4, a5, a6, a7, a8, a9, a10, a11, a12, a13, a14, a15, a16, a17, a18, a19, a20, a21, a22, a23, a24, a25]) (farV [a0, a1, a2, a3, a4, a5, a6, a7, a8, a9, a10, a11, a12, a13, a14, a15, a16, a17, a18, a19, a20, a21, a22, a23, a24, a25]) (vw [a0, a1, a2, a3, a4, a5, a6, a7, a8, a9, a10, a11, a12, a13, a14, a15, a16, a17, a18, a19, a20, a21, a22, a23, a24, a25] 1) := rfl
      have ux := up_le (a := leftV [a0, a1, a2, a3, a4, a5, a6, a7, a8, a9, a10, a11, a12, a13, a14, a15, a16, a17, a18, a19, a20, a21, a22, a23, a24, a25] - 4) (x := a26) (by omega)
      have uy := up_le (a := topV [a0, a1, a2, a3, a4, a5, a6, a7, a8, a9, a10, a11, a12, a13, a14, a15, a16, a17, a18, a19, a20, a21, a22, a23, a24, a25] - 4) (x := a27) (by omega)
      have dx : a26 ≤ (rightV [a0, a1, a2, a3, a4, a5, a6, a7, a8, a9, a10, a11, a12, a13, a14, a15, a16, a17, a18, a19, a20, a21, a22, a23, a24, a25] - 4) / 8 := by omega
      have dy : a27 ≤ (botV [a0, a1, a2, a3, a4, a5, a6, a7, a8, a9, a10, a11, a12, a13, a14, a15, a16, a17, a18, a19, a20, a21, a22, a23, a24, a25] - 4) / 8 := by omega
      have X0 : shX0 [a0, a1, a2, a3, a4, a5, a6, a7, a8, a9, a10, a11, a12, a13, a14, a15, a16, a17, a18, a19, a20, a21, a22, a23, a24, a25] = max (up (leftV [a0, a1, a2, a3, a4, a5, a6, a7, a8, a9, a10, a11, a12, a13, a14, a15, a16, a17, a18, a19, a20, a21, a22, a23, a24, a25] - 4) 8) a22 := rfl
      have Y0 : shY0 [a0, a1, a2, a3, a4, a5, a6, a7, a8, a9, a10, a11, a12, a13, a14, a15, a16, a17, a18, a19, a20, a21, a22, a23, a24, a25] = max (up (topV [a0, a1, a2, a3, a4, a5, a6, a7, a8, a9, a10, a11, a12, a13, a14, a15, a16, a17, a18, a19, a20, a21, a22, a23, a24, a25] - 4) 8) a23 := rfl
      have X1 : shX1 [a0, a1, a2, a3, a4, a5, a6, a7, a8, a9, a10, a11, a12, a13, a14, a15, a16, a17, a18, a19, a20, a21, a22, a23, a24, a25] = min ((rightV [a0, a1, a2, a3, a4, a5, a6, a7, a8, a9, a10, a11, a12, a13, a14, a15, a16, a17, a18, a19, a20, a21, a22, a23, a24, a25] - 4) / 8) a24 := rfl
      have Y1 : shY1 [a0, a1, a2, a3, a4, a5, a6, a7, a8, a9, a10, a11, a12, a13, a14, a15, a16, a17, a18, a19, a20, a21, a22, a23, a24, a25] = min ((botV [a0, a1, a2, a3, a4, a5, a6, a7, a8, a9, a10, a11, a12, a13, a14, a15, a16, a17, a18, a19, a20, a21, a22, a23, a24, a25] - 4) / 8) a25 := rfl
      have F : shX0 [a0, a1, a2, a3, a4, a5, a6, a7, a8, a9, a10, a11, a12, a13, a14, a15, a16, a17, a18, a19, a20, a21, a22, a23, a24, a25] ≤ a26 ∧ a26 ≤ shX1 [a0, a1, a2, a3, a4, a5, a6, a7, a8, a9, a10, a11, a12, a13, a14, a15, a16, a17, a18, a19, a20, a21, a22, a23, a24, a25] ∧ shY0 [a0, a1, a2, a3, a4, a5, a6, a7, a8, a9, a10, a11, a12, a13, a14, a15, a16, a17, a18, a19, a20, a21, a22, a23, a24, a25] ≤ a27 ∧ a27 ≤ shY1 [a0, a1, a2, a3, a4, a5, a6, a7, a8, a9, a10, a11, a12, a13, a14, a15, a16, a17, a18, a19, a20, a21, a22, a23, a24, a25] := by
        rw [X0, X1, Y0, Y1]
        clear L1 R1 T1 B1 G0 G1 G2 G3 g0 g1 g2 g3 k0 k1 k2 k3 X0 X1 Y0 Y1 m0 m1 m2 m3 e0 e1 e2 e3
        refine ⟨?_, ?_, ?_, ?_⟩ <;> omega
      have hs : showsB [a0, a1, a2, a3, a4, a5, a6, a7, a8, a9, a10, a11, a12, a13, a14, a15, a16, a17, a18, a19, a20, a21, a22, a23, a24, a25] = true := showsB_iff.2 ⟨by omega, by omega, by omega⟩
      have d0 : 16777216 / a30 ≤ 16777216 / nearV [a0, a1, a2, a3, a4, a5, a6, a7, a8, a9, a10, a11, a12, a13, a14, a15, a16, a17, a18, a19, a20, a21, a22, a23, a24, a25] := div_anti (by omega) (by omega) b0.2.1
      have d1 : 16777216 / a33 ≤ 16777216 / nearV [a0, a1, a2, a3, a4, a5, a6, a7, a8, a9, a10, a11, a12, a13, a14, a15, a16, a17, a18, a19, a20, a21, a22, a23, a24, a25] := div_anti (by omega) (by omega) b1.2.1
      have d2 : 16777216 / a36 ≤ 16777216 / nearV [a0, a1, a2, a3, a4, a5, a6, a7, a8, a9, a10, a11, a12, a13, a14, a15, a16, a17, a18, a19, a20, a21, a22, a23, a24, a25] := div_anti (by omega) (by omega) b2.2.1
      have d3 : 16777216 / a39 ≤ 16777216 / nearV [a0, a1, a2, a3, a4, a5, a6, a7, a8, a9, a10, a11, a12, a13, a14, a15, a16, a17, a18, a19, a20, a21, a22, a23, a24, a25] := div_anti (by omega) (by omega) b3.2.1
      have P1 : shadowP [a0, a1, a2, a3, a4, a5, a6, a7, a8, a9, a10, a11, a12, a13, a14, a15, a16, a17, a18, a19, a20, a21, a22, a23, a24, a25] = [shX0 [a0, a1, a2, a3, a4, a5, a6, a7, a8, a9, a10, a11, a12, a13, a14, a15, a16, a17, a18, a19, a20, a21, a22, a23, a24, a25], shY0 [a0, a1, a2, a3, a4, a5, a6, a7, a8, a9, a10, a11, a12, a13, a14, a15, a16, a17, a18, a19, a20, a21, a22, a23, a24, a25], shX1 [a0, a1, a2, a3, a4, a5, a6, a7, a8, a9, a10, a11, a12, a13, a14, a15, a16, a17, a18, a19, a20, a21, a22, a23, a24, a25], shY1 [a0, a1, a2, a3, a4, a5, a6, a7, a8, a9, a10, a11, a12, a13, a14, a15, a16, a17, a18, a19, a20, a21, a22, a23, a24, a25], 16777216 / nearV [a0, a1, a2, a3, a4, a5, a6, a7, a8, a9, a10, a11, a12, a13, a14, a15, a16, a17, a18, a19, a20, a21, a22, a23, a24, a25], 1, 0] := rfl
      rw [if_pos hs, P1]
      simp only [TX.sat, XB.prop, X.den, List.map_cons, List.map_nil, List.getElem?_cons_zero, List.getElem?_cons_succ, List.cons_append, List.nil_append, List.getD_cons_zero, List.getD_cons_succ, mkS, mkP, and_true, true_and, Int.not_lt, Int.not_le, not_or, not_and, Classical.not_not, ne_eq, not_true_eq_false, not_false_eq_true]
      clear L1 R1 T1 B1 G0 G1 G2 G3 g0 g1 g2 g3 k0 k1 k2 k3 X0 X1 Y0 Y1 m0 m1 m2 m3 e0 e1 e2 e3 ux uy dx dy P1 hs
      have t0 := Int.not_lt.2 d0
      have t1 := Int.not_lt.2 d1
      have t2 := Int.not_lt.2 d2
      have t3 := Int.not_lt.2 d3
      simp [t0, t1, t2, t3, F.1, F.2.1, F.2.2.1, F.2.2.2]
    · refine ⟨fun _ => trivial, fun h => absurd ?_ hf⟩
      obtain ⟨⟨⟨⟨⟨_, h⟩, _⟩, _⟩, _⟩, _⟩ := h
      exact h
  · refine ⟨fun _ => trivial, fun h => absurd ?_ he⟩
    obtain ⟨⟨⟨⟨⟨h, _⟩, _⟩, _⟩, _⟩, _⟩ := h
    exact h
theorem range_nil : rangeOK [] [] := trivial
set_option maxRecDepth 100000 in
theorem lifted (os : Os) (started : os.Started) (H : Type) (enc : TypeId × Value → H) :
    ReturnsInHanded {} Tryd.checked os 7 .any (fun w args => (Rows.frustumHoldsSpec.pre enc Tryd.prog Tryd.f7 Rows.frustumHoldsRow.domain false w args ∧ laidMet Tryd.prog [("diorama/frustum.world", Rows.laid_diorama_frustum_world)] w) ∧ sizedMet enc Tryd.prog Tryd.f7 (OpenSpec.ofChange Rows.frustumHoldsSpec) false w args) (Rows.frustumHoldsSpec.post enc Tryd.prog Tryd.f7 false true false false) := by
  refine returnsInHanded_of_change_and (C := Tryd.checked) (X := fun w _ => laidMet Tryd.prog [("diorama/frustum.world", Rows.laid_diorama_frustum_world)] w) (fun _ _ _ hh h => h.of_heap hh) facts.own started (by kernel_rfl) Tryd.func7
    (ChangeSpec.witness_at (enc := enc) (C := Tryd.checked) (os := os) (X := fun w _ => laidMet Tryd.prog [("diorama/frustum.world", Rows.laid_diorama_frustum_world)] w) false (laidWorld os) #[.agg #[.int .i64 0, .int .i64 0, .int .i64 0, .int .i64 0, .int .i64 0, .int .i64 0, .int .i64 0, .int .i64 0, .int .i64 0, .int .i64 0, .int .i64 0, .int .i64 0, .int .i64 0, .int .i64 0, .int .i64 0, .int .i64 0], .agg #[.int .i64 0, .int .i64 0, .int .i64 0, .int .i64 0, .int .i64 0, .int .i64 0], .agg #[.int .i64 0, .int .i64 0, .int .i64 0, .int .i64 0], .int .i64 0, .int .i64 0, .agg #[.int .i64 0, .int .i64 0, .int .i64 0, .int .i64 0, .int .i64 0, .int .i64 0, .int .i64 0, .int .i64 0, .int .i64 0, .int .i64 0, .int .i64 0, .int .i64 0]] 8 rfl (by kernel_rfl) (by kernel_rfl) (by kernel_rfl) (by kernel_rfl) (by kernel_rfl) (laidWorld_met os _)) ?_
  intro W base args ds gs before hval0 hW hcnd _ hL _
  have hval : ∀ (j : Nat) t v, Tryd.f7.params[j]? = some t → args[j]? = some v → Value.okWide Tryd.prog W .any base t v := hval0
  have hW' := hW
  obtain ⟨p, q, hA0, hV, rfl, hfz, hnd⟩ := hW
  have hA : DataW.TrodAll enc Tryd.prog W 0 (fun _ => true) true Tryd.f7.params.toList args.toList ds p := hA0
  rw [Tryd.params7] at hA hval
  obtain ⟨v0, vs0, d0, ds0, p0, q0, hargs, rfl, rfl, h0, r0⟩ := trodAll_cons hA
  obtain ⟨v1, vs1, d1, ds1, p1, q1, rfl, rfl, rfl, h1, r1⟩ := trodAll_cons r0
  obtain ⟨v2, vs2, d2, ds2, p2, q2, rfl, rfl, rfl, h2, r2⟩ := trodAll_cons r1
  obtain ⟨v3, vs3, d3, ds3, p3, q3, rfl, rfl, rfl, h3, r3⟩ := trodAll_cons r2
  obtain ⟨v4, vs4, d4, ds4, p4, q4, rfl, rfl, rfl, h4, r4⟩ := trodAll_cons r3
  obtain ⟨v5, vs5, d5, ds5, p5, q5, rfl, rfl, rfl, h5, r5⟩ := trodAll_cons r4
  obtain ⟨rfl, rfl, rfl⟩ := trodAll_nil r5
  obtain rfl : args = #[v0, v1, v2, v3, v4, v5] := by cases args; simp_all
  obtain ⟨rfl, rfl⟩ := trodVars_none hV
  have k0 := h0
  have lt0 : ∀ x ∈ p0, x.block < W.heap.size := by obtain ⟨m, hm⟩ := k0; exact DataW.trod_lt m _ _ _ hm
  have k1 := h1
  have lt1 : ∀ x ∈ p1, x.block < W.heap.size := by obtain ⟨m, hm⟩ := k1; exact DataW.trod_lt m _ _ _ hm
  have k2 := h2
  have lt2 : ∀ x ∈ p2, x.block < W.heap.size := by obtain ⟨m, hm⟩ := k2; exact DataW.trod_lt m _ _ _ hm
  have k3 := h3
  have lt3 : ∀ x ∈ p3, x.block < W.heap.size := by obtain ⟨m, hm⟩ := k3; exact DataW.trod_lt m _ _ _ hm
  have k4 := h4
  have lt4 : ∀ x ∈ p4, x.block < W.heap.size := by obtain ⟨m, hm⟩ := k4; exact DataW.trod_lt m _ _ _ hm
  have k5 := h5
  have lt5 : ∀ x ∈ p5, x.block < W.heap.size := by obtain ⟨m, hm⟩ := k5; exact DataW.trod_lt m _ _ _ hm
  obtain ⟨xs0, hv0, hr0⟩ := open_sh (sh := An 16) (by kernel_rfl) (by kernel_rfl) (hval 0 34 v0 rfl rfl) h0
  obtain ⟨xs1, hv1, hr1⟩ := open_sh (sh := An 6) (by kernel_rfl) (by kernel_rfl) (hval 1 37 v1 rfl rfl) h1
  obtain ⟨xs2, hv2, hr2⟩ := open_sh (sh := An 4) (by kernel_rfl) (by kernel_rfl) (hval 2 23 v2 rfl rfl) h2
  obtain ⟨xs3, hv3, hr3⟩ := open_sh (sh := I1) (by kernel_rfl) (by kernel_rfl) (hval 3 3 v3 rfl rfl) h3
  obtain ⟨xs4, hv4, hr4⟩ := open_sh (sh := I1) (by kernel_rfl) (by kernel_rfl) (hval 4 3 v4 rfl rfl) h4
  obtain ⟨xs5, hv5, hr5⟩ := open_sh (sh := An 12) (by kernel_rfl) (by kernel_rfl) (hval 5 51 v5 rfl rfl) h5
  clear hA0 hval0
  have hl0 := rangeOK_len hr0
  have hl1 := rangeOK_len hr1
  have hl2 := rangeOK_len hr2
  have hl3 := rangeOK_len hr3
  have hl4 := rangeOK_len hr4
  have hl5 := rangeOK_len hr5
  have hxs : #[v0, v1, v2, v3, v4, v5] = (mkShs [An 16, An 6, An 4, I1, I1, An 12] (xs0 ++ (xs1 ++ (xs2 ++ (xs3 ++ (xs4 ++ (xs5 ++ []))))))).toArray := by
    rw [mkShs_cons hl0, mkShs_cons hl1, mkShs_cons hl2, mkShs_cons hl3, mkShs_cons hl4, mkShs_cons hl5]
    simp [mkShs, hv0, hv1, hv2, hv3, hv4, hv5]
  have hlen : (xs0 ++ (xs1 ++ (xs2 ++ (xs3 ++ (xs4 ++ (xs5 ++ [])))))).length = total [An 16, An 6, An 4, I1, I1, An 12] := by
    simp only [List.length_append, List.length_nil, hl0, hl1, hl2, hl3, hl4, hl5]
    rfl
  have hcalls := lawF facts.mixed g_FrustumHolds o_FrustumHolds tree_FrustumHolds hlen (range_vs ((rangeOK_app hr0 (rangeOK_app hr1 (rangeOK_app hr2 (rangeOK_app hr3 (rangeOK_app hr4 (rangeOK_app hr5 range_nil)))))) : rangeOK _ _)) (plain xs0 hr0 xs1 hr1 xs2 hr2 xs3 hr3 xs4 hr4 xs5 hr5) W (glob_of_laid hL)
  rw [← hxs] at hcalls
  refine hcalls.mono fun e W' ⟨he, bel⟩ => ?_
  subst he
  exact ⟨_, rfl, _, _, _, [], _, [], hW', trodAll_mk1 (shut_bool Tryd.underlying4 _), (trodAll_cons_mk (Below.trod facts.laidOut (by kernel_rfl) (of_decide_eq_true (by kernel_rfl)) k0 bel lt0) (trodAll_cons_mk (Below.trod facts.laidOut (by kernel_rfl) (of_decide_eq_true (by kernel_rfl)) k1 bel lt1) (trodAll_cons_mk (Below.trod facts.laidOut (by kernel_rfl) (of_decide_eq_true (by kernel_rfl)) k2 bel lt2) (trodAll_cons_mk (Below.trod facts.laidOut (by kernel_rfl) (of_decide_eq_true (by kernel_rfl)) k3 bel lt3) (trodAll_cons_mk (Below.trod facts.laidOut (by kernel_rfl) (of_decide_eq_true (by kernel_rfl)) k4 bel lt4) (trodAll_cons_mk (Below.trod facts.laidOut (by kernel_rfl) (of_decide_eq_true (by kernel_rfl)) k5 bel lt5) trodAll_mk0)))))), rfl, bel.frame _, fun h => by cases h⟩

theorem over : Rows.frustumHoldsRow.holds Tryd.pinned (OpenSpec.ofChange Rows.frustumHoldsSpec) :=
  OpenClaim.holds_of_wide 7 Tryd.f7 rfl rfl rfl rfl rfl rfl rfl ⟨rfl, rfl, rfl, rfl, rfl⟩ rfl rfl rfl rfl rfl (by kernel_rfl) Tryd.func7
    (facts.joined (by kernel_rfl) (by kernel_rfl) (by kernel_rfl) (by kernel_rfl) (by kernel_rfl) (by kernel_rfl) (by kernel_rfl) rfl rfl rfl rfl)
    (of_decide_eq_true (by kernel_rfl)) (by unfold Func.isWrapper; first | (rw [if_pos (by decide +kernel)]; kernel_rfl) | (rw [if_neg (by decide +kernel)]; exact ⟨rfl, rfl⟩))
    (fun os started H enc _ => lifted os started H enc)

theorem noStand : (Tryd.f7.params.all fun t => !Tryd.prog.wantsStandIn t) = true := by kernel_rfl
/-- THE STATEMENT: the row, its one listed variable tied to the program's text. -/
theorem proved : Rows.FrustumHoldsCardSaid :=
  Claim7.holds_tied_plain_at .later [] [.data] true (true, "ba5fbdf844d12a9b064d108c88059d5ef4c8b7d3707af7476f83711cd4242958") false over (fun _ h => by cases h) (by kernel_rfl) (fun _ h => by cases h) frustumHolds_row_tie rfl ⟨rfl, rfl⟩ (by kernel_rfl) rfl
    (fun f fn hf hfn => by
      obtain rfl : f = 7 := Option.some.inj ((show Tryd.prog.funcNamed Rows.frustumHoldsRow.func = some 7 by kernel_rfl).symm.trans hf) |>.symm
      obtain rfl : fn = Tryd.f7 := (Option.some.inj (Tryd.func7.symm.trans hfn)).symm
      refine ⟨by kernel_rfl, fun j t ht => ?_⟩
      have := Array.all_eq_true_iff_forall_mem.1 noStand t (Array.mem_of_getElem? ht)
      exact (by simpa using this : Tryd.prog.wantsStandIn t = false))
    (by kernel_rfl)
#print axioms proved

end Go.Proofs.YtjbkcjbjllmhfaaDoor.frustumHolds
