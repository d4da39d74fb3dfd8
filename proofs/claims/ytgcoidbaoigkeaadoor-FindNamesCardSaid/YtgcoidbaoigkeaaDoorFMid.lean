/-
  What lies between; smaller boxes, nearer and farther places: plain laws.
-/
import Derived.Test.YtgcoidbaoigkeaaDoorFShad
import Derived.Test.YtgcoidbaoigkeaaDoorFDefsL
set_option linter.unusedVariables false
set_option linter.unusedSimpArgs false
namespace Go.Proofs.YtgcoidbaoigkeaaDoor.fix
open Go.RowKit Go.Sx

theorem mid1 {m l h v : Int} (h1 : l ≤ v) (h2 : v ≤ h) : min (m * l) (m * h) ≤ m * v ∧ m * v ≤ max (m * l) (m * h) := by
  have := mul_between (y := m) h1 h2
  rw [Int.mul_comm l, Int.mul_comm h, Int.mul_comm v] at this
  exact this
theorem lies1 {m l h l' h' : Int} (h1 : l' ≤ l) (h0 : l ≤ h) (h2 : h ≤ h') : min (m * l') (m * h') ≤ min (m * l) (m * h) ∧ max (m * l) (m * h) ≤ max (m * l') (m * h') := by
  have k1 := mid1 (m := m) (l := l') (h := h') (v := l) (by omega) (by omega)
  have k2 := mid1 (m := m) (l := l') (h := h') (v := h) (by omega) (by omega)
  omega
theorem lies3 {a b c a' b' c' : Int} (h1 : a' ≤ a) (h2 : b' ≤ b) (h3 : c' ≤ c) : (a' + b' + c') / 256 ≤ (a + b + c) / 256 := Int.ediv_le_ediv (by omega) (by omega)
theorem shadow_ok {x : List Int} (h : (shadowL x).getD 6 0 = 0) : camB x 0 = true ∧ worldB x 16 = true ∧ winC x = true ∧ shadowL x = if showsB x = true then shadowP x else z7 0 := by
  unfold shadowL at h ⊢
  split
  · rename_i h1
    rw [if_pos h1] at h
    split
    · rename_i h2
      rw [if_pos h2] at h
      split
      · rename_i h3
        exact ⟨h1, h2, h3, rfl⟩
      · rename_i h3
        rw [if_neg h3] at h
        exact absurd h (by decide)
    · rename_i h2
      rw [if_neg h2] at h
      exact absurd h (by decide)
  · rename_i h1
    rw [if_neg h1] at h
    exact absurd h (by decide)
theorem div_anti {a x y : Int} (h0 : 0 ≤ a) (hx : 0 < x) (h : x ≤ y) : a / y ≤ a / x := by
  rw [Int.le_ediv_iff_mul_le hx]
  have h1 : 0 ≤ a / y := Int.ediv_nonneg h0 (by omega)
  have h2 : a / y * x ≤ a / y * y := Int.mul_le_mul_of_nonneg_left h h1
  have h3 : a / y * y ≤ a := Int.ediv_mul_le a (by omega)
  omega
theorem div_anti' {a x y : Int} (h0 : a ≤ 0) (hx : 0 < x) (h : x ≤ y) : a / x ≤ a / y := by
  rw [Int.le_ediv_iff_mul_le (show 0 < y by omega)]
  have h1 : a / x ≤ 0 := by
    apply Int.ediv_le_of_le_mul hx
    omega
  have h2 : a / x * y ≤ a / x * x := Int.mul_le_mul_of_nonpos_left h1 h
  have h3 : a / x * x ≤ a := Int.ediv_mul_le a (by omega)
  omega
theorem go_mid {f a b n m z : Int} (hf : 0 ≤ f) (ha : 0 < a) (h1 : a ≤ z) (h2 : z ≤ b) : (n ≤ m → goLo f a b n ≤ 8 * f * m / z) ∧ (m ≤ n → 8 * f * m / z ≤ goHi f a b n) := by
  have hz : 0 < z := by omega
  have hb : 0 < b := by omega
  have h8 : 0 ≤ 8 * f := by omega
  refine ⟨fun hnm => ?_, fun hmn => ?_⟩
  · have hk : 8 * f * n ≤ 8 * f * m := Int.mul_le_mul_of_nonneg_left hnm h8
    have hq : 8 * f * n / z ≤ 8 * f * m / z := Int.ediv_le_ediv hz hk
    refine Int.le_trans ?_ hq
    unfold goLo
    split
    · rename_i hn
      have h0 : 0 ≤ 8 * f * n := Int.mul_nonneg h8 hn
      exact div_anti h0 hz h2
    · rename_i hn
      have h0 : 8 * f * n ≤ 0 := Int.mul_nonpos_of_nonneg_of_nonpos h8 (by omega)
      exact div_anti' h0 ha h1
  · have hk : 8 * f * m ≤ 8 * f * n := Int.mul_le_mul_of_nonneg_left hmn h8
    have hq : 8 * f * m / z ≤ 8 * f * n / z := Int.ediv_le_ediv hz hk
    refine Int.le_trans hq ?_
    unfold goHi
    split
    · rename_i hn
      have h0 : 0 ≤ 8 * f * n := Int.mul_nonneg h8 hn
      exact div_anti h0 ha h1
    · rename_i hn
      have h0 : 8 * f * n ≤ 0 := Int.mul_nonpos_of_nonneg_of_nonpos h8 (by omega)
      exact div_anti' h0 hz h2
theorem goLo_mono {f a b n a' b' n' : Int} (hf : 0 ≤ f) (ha : 0 < a') (h1 : a' ≤ a) (h0 : a ≤ b) (h2 : b ≤ b') (hn : n' ≤ n) : goLo f a' b' n' ≤ goLo f a b n := by
  have : ∃ z, a ≤ z ∧ z ≤ b ∧ goLo f a b n = 8 * f * n / z := by
    unfold goLo
    split
    · exact ⟨b, h0, Int.le_refl _, rfl⟩
    · exact ⟨a, Int.le_refl _, h0, rfl⟩
  obtain ⟨z, hz1, hz2, h⟩ := this
  rw [h]
  exact (go_mid hf ha (by omega) (by omega)).1 hn
theorem goHi_mono {f a b n a' b' n' : Int} (hf : 0 ≤ f) (ha : 0 < a') (h1 : a' ≤ a) (h0 : a ≤ b) (h2 : b ≤ b') (hn : n ≤ n') : goHi f a b n ≤ goHi f a' b' n' := by
  have : ∃ z, a ≤ z ∧ z ≤ b ∧ goHi f a b n = 8 * f * n / z := by
    unfold goHi
    split
    · exact ⟨a, Int.le_refl _, h0, rfl⟩
    · exact ⟨b, h0, Int.le_refl _, rfl⟩
  obtain ⟨z, hz1, hz2, h⟩ := this
  rw [h]
  exact (go_mid hf ha (by omega) (by omega)).2 hn
theorem up_mono {a b : Int} (h : a ≤ b) : up a 8 ≤ up b 8 := by unfold up; omega
end Go.Proofs.YtgcoidbaoigkeaaDoor.fix
set_option linter.unusedVariables false
set_option linter.unusedSimpArgs false
namespace Go.Proofs.YtgcoidbaoigkeaaDoor.fix
open Go.RowKit Go.Sx

theorem shows_grows (a0 a1 a2 a3 a4 a5 a6 a7 a8 a9 a10 a11 a12 a13 a14 a15 a16 a17 a18 a19 a20 a21 a22 a23 a24 a25 a26 a27 a28 a29 a30 a31 : Int) (ha : (shadowL [a0, a1, a2, a3, a4, a5, a6, a7, a8, a9, a10, a11, a12, a13, a14, a15, a16, a17, a18, a19, a20, a21, a28, a29, a30, a31]).getD 6 0 = 0) (hb : (shadowL [a0, a1, a2, a3, a4, a5, a6, a7, a8, a9, a10, a11, a12, a13, a14, a15, a22, a23, a24, a25, a26, a27, a28, a29, a30, a31]).getD 6 0 = 0) (hi : insideB [a16, a17, a18, a19, a20, a21, a22, a23, a24, a25, a26, a27] = true) (hs : showsB [a0, a1, a2, a3, a4, a5, a6, a7, a8, a9, a10, a11, a12, a13, a14, a15, a16, a17, a18, a19, a20, a21, a28, a29, a30, a31] = true) : showsB [a0, a1, a2, a3, a4, a5, a6, a7, a8, a9, a10, a11, a12, a13, a14, a15, a22, a23, a24, a25, a26, a27, a28, a29, a30, a31] = true := by
  obtain ⟨hc, hw, hwin, hv⟩ := shadow_ok ha
  obtain ⟨_, hw', _, hv'⟩ := shadow_ok hb
  have kw := world_true.1 hw
  simp only [TX.sat, XB.prop, X.den, List.map_cons, List.map_nil, List.getElem?_cons_zero, List.getElem?_cons_succ, List.cons_append, List.nil_append, List.getD_cons_zero, List.getD_cons_succ, mkS, mkP, and_true, true_and, Int.not_lt, Int.not_le, not_or, not_and, Classical.not_not, ne_eq, not_true_eq_false, not_false_eq_true, Nat.reduceAdd] at kw
  simp only [insideB, dec_true, TX.sat, XB.prop, X.den, List.map_cons, List.map_nil, List.getElem?_cons_zero, List.getElem?_cons_succ, List.cons_append, List.nil_append, List.getD_cons_zero, List.getD_cons_succ, mkS, mkP, and_true, true_and, Int.not_lt, Int.not_le, not_or, not_and, Classical.not_not, ne_eq, not_true_eq_false, not_false_eq_true] at hi
  have kl := lens_of hc
  simp only [TX.sat, XB.prop, X.den, List.map_cons, List.map_nil, List.getElem?_cons_zero, List.getElem?_cons_succ, List.cons_append, List.nil_append, List.getD_cons_zero, List.getD_cons_succ, mkS, mkP, and_true, true_and, Int.not_lt, Int.not_le, not_or, not_and, Classical.not_not, ne_eq, not_true_eq_false, not_false_eq_true] at kl
  have d0 : a22 - a0 ≤ a16 - a0 ∧ a16 - a0 ≤ a19 - a0 ∧ a19 - a0 ≤ a25 - a0 := by omega
  have d1 : a23 - a1 ≤ a17 - a1 ∧ a17 - a1 ≤ a20 - a1 ∧ a20 - a1 ≤ a26 - a1 := by omega
  have d2 : a24 - a2 ≤ a18 - a2 ∧ a18 - a2 ≤ a21 - a2 ∧ a21 - a2 ≤ a27 - a2 := by omega
  have r0 := fun m => lies1 (m := m) d0.1 d0.2.1 d0.2.2
  have r1 := fun m => lies1 (m := m) d1.1 d1.2.1 d1.2.2
  have r2 := fun m => lies1 (m := m) d2.1 d2.2.1 d2.2.2
  have v0 : vw [a0, a1, a2, a3, a4, a5, a6, a7, a8, a9, a10, a11, a12, a13, a14, a15, a22, a23, a24, a25, a26, a27, a28, a29, a30, a31] 0 ≤ vw [a0, a1, a2, a3, a4, a5, a6, a7, a8, a9, a10, a11, a12, a13, a14, a15, a16, a17, a18, a19, a20, a21, a28, a29, a30, a31] 0 := lies3 (r0 a3).1 (r1 a4).1 (r2 a5).1
  have v1 : vw [a0, a1, a2, a3, a4, a5, a6, a7, a8, a9, a10, a11, a12, a13, a14, a15, a22, a23, a24, a25, a26, a27, a28, a29, a30, a31] 1 ≤ vw [a0, a1, a2, a3, a4, a5, a6, a7, a8, a9, a10, a11, a12, a13, a14, a15, a16, a17, a18, a19, a20, a21, a28, a29, a30, a31] 1 := lies3 (r0 a6).1 (r1 a7).1 (r2 a8).1
  have v2 : vw [a0, a1, a2, a3, a4, a5, a6, a7, a8, a9, a10, a11, a12, a13, a14, a15, a22, a23, a24, a25, a26, a27, a28, a29, a30, a31] 2 ≤ vw [a0, a1, a2, a3, a4, a5, a6, a7, a8, a9, a10, a11, a12, a13, a14, a15, a16, a17, a18, a19, a20, a21, a28, a29, a30, a31] 2 := lies3 (r0 a9).1 (r1 a10).1 (r2 a11).1
  have v3 : vw [a0, a1, a2, a3, a4, a5, a6, a7, a8, a9, a10, a11, a12, a13, a14, a15, a16, a17, a18, a19, a20, a21, a28, a29, a30, a31] 3 ≤ vw [a0, a1, a2, a3, a4, a5, a6, a7, a8, a9, a10, a11, a12, a13, a14, a15, a22, a23, a24, a25, a26, a27, a28, a29, a30, a31] 3 := lies3 (r0 a3).2 (r1 a4).2 (r2 a5).2
  have v4 : vw [a0, a1, a2, a3, a4, a5, a6, a7, a8, a9, a10, a11, a12, a13, a14, a15, a16, a17, a18, a19, a20, a21, a28, a29, a30, a31] 4 ≤ vw [a0, a1, a2, a3, a4, a5, a6, a7, a8, a9, a10, a11, a12, a13, a14, a15, a22, a23, a24, a25, a26, a27, a28, a29, a30, a31] 4 := lies3 (r0 a6).2 (r1 a7).2 (r2 a8).2
  have v5 : vw [a0, a1, a2, a3, a4, a5, a6, a7, a8, a9, a10, a11, a12, a13, a14, a15, a16, a17, a18, a19, a20, a21, a28, a29, a30, a31] 5 ≤ vw [a0, a1, a2, a3, a4, a5, a6, a7, a8, a9, a10, a11, a12, a13, a14, a15, a22, a23, a24, a25, a26, a27, a28, a29, a30, a31] 5 := lies3 (r0 a9).2 (r1 a10).2 (r2 a11).2
  obtain ⟨hz, hx, hy⟩ := showsB_iff.1 hs
  have n1 : nearV [a0, a1, a2, a3, a4, a5, a6, a7, a8, a9, a10, a11, a12, a13, a14, a15, a16, a17, a18, a19, a20, a21, a28, a29, a30, a31] = max (vw [a0, a1, a2, a3, a4, a5, a6, a7, a8, a9, a10, a11, a12, a13, a14, a15, a16, a17, a18, a19, a20, a21, a28, a29, a30, a31] 2) a13 := rfl
  have n2 : nearV [a0, a1, a2, a3, a4, a5, a6, a7, a8, a9, a10, a11, a12, a13, a14, a15, a22, a23, a24, a25, a26, a27, a28, a29, a30, a31] = max (vw [a0, a1, a2, a3, a4, a5, a6, a7, a8, a9, a10, a11, a12, a13, a14, a15, a22, a23, a24, a25, a26, a27, a28, a29, a30, a31] 2) a13 := rfl
  have f1 : farV [a0, a1, a2, a3, a4, a5, a6, a7, a8, a9, a10, a11, a12, a13, a14, a15, a16, a17, a18, a19, a20, a21, a28, a29, a30, a31] = vw [a0, a1, a2, a3, a4, a5, a6, a7, a8, a9, a10, a11, a12, a13, a14, a15, a16, a17, a18, a19, a20, a21, a28, a29, a30, a31] 5 := rfl
  have f2 : farV [a0, a1, a2, a3, a4, a5, a6, a7, a8, a9, a10, a11, a12, a13, a14, a15, a22, a23, a24, a25, a26, a27, a28, a29, a30, a31] = vw [a0, a1, a2, a3, a4, a5, a6, a7, a8, a9, a10, a11, a12, a13, a14, a15, a22, a23, a24, a25, a26, a27, a28, a29, a30, a31] 5 := rfl
  have hn : nearV [a0, a1, a2, a3, a4, a5, a6, a7, a8, a9, a10, a11, a12, a13, a14, a15, a22, a23, a24, a25, a26, a27, a28, a29, a30, a31] ≤ nearV [a0, a1, a2, a3, a4, a5, a6, a7, a8, a9, a10, a11, a12, a13, a14, a15, a16, a17, a18, a19, a20, a21, a28, a29, a30, a31] := by omega
  have hf : farV [a0, a1, a2, a3, a4, a5, a6, a7, a8, a9, a10, a11, a12, a13, a14, a15, a16, a17, a18, a19, a20, a21, a28, a29, a30, a31] ≤ farV [a0, a1, a2, a3, a4, a5, a6, a7, a8, a9, a10, a11, a12, a13, a14, a15, a22, a23, a24, a25, a26, a27, a28, a29, a30, a31] := by omega
  have hp : 0 < nearV [a0, a1, a2, a3, a4, a5, a6, a7, a8, a9, a10, a11, a12, a13, a14, a15, a22, a23, a24, a25, a26, a27, a28, a29, a30, a31] := by omega
  have g0 := goLo_mono (f := a12) (by omega) hp hn hz hf v0
  have g1 := goLo_mono (f := a12) (by omega) hp hn hz hf v1
  have g3 := goHi_mono (f := a12) (by omega) hp hn hz hf v3
  have g4 := goHi_mono (f := a12) (by omega) hp hn hz hf v4
  have L1 : leftV [a0, a1, a2, a3, a4, a5, a6, a7, a8, a9, a10, a11, a12, a13, a14, a15, a16, a17, a18, a19, a20, a21, a28, a29, a30, a31] = goLo a12 (nearV [a0, a1, a2, a3, a4, a5, a6, a7, a8, a9, a10, a11, a12, a13, a14, a15, a16, a17, a18, a19, a20, a21, a28, a29, a30, a31]) (farV [a0, a1, a2, a3, a4, a5, a6, a7, a8, a9, a10, a11, a12, a13, a14, a15, a16, a17, a18, a19, a20, a21, a28, a29, a30, a31]) (vw [a0, a1, a2, a3, a4, a5, a6, a7, a8, a9, a10, a11, a12, a13, a14, a15, a16, a17, a18, a19, a20, a21, a28, a29, a30, a31] 0) + 4 * a14 := rfl
  have L2 : leftV [a0, a1, a2, a3, a4, a5, a6, a7, a8, a9, a10, a11, a12, a13, a14, a15, a22, a23, a24, a25, a26, a27, a28, a29, a30, a31] = goLo a12 (nearV [a0, a1, a2, a3, a4, a5, a6, a7, a8, a9, a10, a11, a12, a13, a14, a15, a22, a23, a24, a25, a26, a27, a28, a29, a30, a31]) (farV [a0, a1, a2, a3, a4, a5, a6, a7, a8, a9, a10, a11, a12, a13, a14, a15, a22, a23, a24, a25, a26, a27, a28, a29, a30, a31]) (vw [a0, a1, a2, a3, a4, a5, a6, a7, a8, a9, a10, a11, a12, a13, a14, a15, a22, a23, a24, a25, a26, a27, a28, a29, a30, a31] 0) + 4 * a14 := rfl
  have R1 : rightV [a0, a1, a2, a3, a4, a5, a6, a7, a8, a9, a10, a11, a12, a13, a14, a15, a16, a17, a18, a19, a20, a21, a28, a29, a30, a31] = goHi a12 (nearV [a0, a1, a2, a3, a4, a5, a6, a7, a8, a9, a10, a11, a12, a13, a14, a15, a16, a17, a18, a19, a20, a21, a28, a29, a30, a31]) (farV [a0, a1, a2, a3, a4, a5, a6, a7, a8, a9, a10, a11, a12, a13, a14, a15, a16, a17, a18, a19, a20, a21, a28, a29, a30, a31]) (vw [a0, a1, a2, a3, a4, a5, a6, a7, a8, a9, a10, a11, a12, a13, a14, a15, a16, a17, a18, a19, a20, a21, a28, a29, a30, a31] 3) + 4 * a14 := rfl
  have R2 : rightV [a0, a1, a2, a3, a4, a5, a6, a7, a8, a9, a10, a11, a12, a13, a14, a15, a22, a23, a24, a25, a26, a27, a28, a29, a30, a31] = goHi a12 (nearV [a0, a1, a2, a3, a4, a5, a6, a7, a8, a9, a10, a11, a12, a13, a14, a15, a22, a23, a24, a25, a26, a27, a28, a29, a30, a31]) (farV [a0, a1, a2, a3, a4, a5, a6, a7, a8, a9, a10, a11, a12, a13, a14, a15, a22, a23, a24, a25, a26, a27, a28, a29, a30, a31]) (vw [a0, a1, a2, a3, a4, a5, a6, a7, a8, a9, a10, a11, a12, a13, a14, a15, a22, a23, a24, a25, a26, a27, a28, a29, a30, a31] 3) + 4 * a14 := rfl
  have T1 : topV [a0, a1, a2, a3, a4, a5, a6, a7, a8, a9, a10, a11, a12, a13, a14, a15, a16, a17, a18, a19, a20, a21, a28, a29, a30, a31] = 4 * a15 - goHi a12 (nearV [a0, a1, a2, a3, a4, a5, a6, a7, a8, a9, a10, a11, a12, a13, a14, a15, a16, a17, a18, a19, a20, a21, a28, a29, a30, a31]) (farV [a0, a1, a2, a3, a4, a5, a6, a7, a8, a9, a10, a11, a12, a13, a14, a15, a16, a17, a18, a19, a20, a21, a28, a29, a30, a31]) (vw [a0, a1, a2, a3, a4, a5, a6, a7, a8, a9, a10, a11, a12, a13, a14, a15, a16, a17, a18, a19, a20, a21, a28, a29, a30, a31] 4) := rfl
  have T2 : topV [a0, a1, a2, a3, a4, a5, a6, a7, a8, a9, a10, a11, a12, a13, a14, a15, a22, a23, a24, a25, a26, a27, a28, a29, a30, a31] = 4 * a15 - goHi a12 (nearV [a0, a1, a2, a3, a4, a5, a6, a7, a8, a9, a10, a11, a12, a13, a14, a15, a22, a23, a24, a25, a26, a27, a28, a29, a30, a31]) (farV [a0, a1, a2, a3, a4, a5, a6, a7, a8, a9, a10, a11, a12, a13, a14, a15, a22, a23, a24, a25, a26, a27, a28, a29, a30, a31]) (vw [a0, a1, a2, a3, a4, a5, a6, a7, a8, a9, a10, a11, a12, a13, a14, a15, a22, a23, a24, a25, a26, a27, a28, a29, a30, a31] 4) := rfl
  have B1 : botV [a0, a1, a2, a3, a4, a5, a6, a7, a8, a9, a10, a11, a12, a13, a14, a15, a16, a17, a18, a19, a20, a21, a28, a29, a30, a31] = 4 * a15 - goLo a12 (nearV [a0, a1, a2, a3, a4, a5, a6, a7, a8, a9, a10, a11, a12, a13, a14, a15, a16, a17, a18, a19, a20, a21, a28, a29, a30, a31]) (farV [a0, a1, a2, a3, a4, a5, a6, a7, a8, a9, a10, a11, a12, a13, a14, a15, a16, a17, a18, a19, a20, a21, a28, a29, a30, a31]) (vw [a0, a1, a2, a3, a4, a5, a6, a7, a8, a9, a10, a11, a12, a13, a14, a15, a16, a17, a18, a19, a20, a21, a28, a29, a30, a31] 1) := rfl
  have B2 : botV [a0, a1, a2, a3, a4, a5, a6, a7, a8, a9, a10, a11, a12, a13, a14, a15, a22, a23, a24, a25, a26, a27, a28, a29, a30, a31] = 4 * a15 - goLo a12 (nearV [a0, a1, a2, a3, a4, a5, a6, a7, a8, a9, a10, a11, a12, a13, a14, a15, a22, a23, a24, a25, a26, a27, a28, a29, a30, a31]) (farV [a0, a1, a2, a3, a4, a5, a6, a7, a8, a9, a10, a11, a12, a13, a14, a15, a22, a23, a24, a25, a26, a27, a28, a29, a30, a31]) (vw [a0, a1, a2, a3, a4, a5, a6, a7, a8, a9, a10, a11, a12, a13, a14, a15, a22, a23, a24, a25, a26, a27, a28, a29, a30, a31] 1) := rfl
  have ux := up_mono (a := leftV [a0, a1, a2, a3, a4, a5, a6, a7, a8, a9, a10, a11, a12, a13, a14, a15, a22, a23, a24, a25, a26, a27, a28, a29, a30, a31] - 4) (b := leftV [a0, a1, a2, a3, a4, a5, a6, a7, a8, a9, a10, a11, a12, a13, a14, a15, a16, a17, a18, a19, a20, a21, a28, a29, a30, a31] - 4) (by omega)
  have uy := up_mono (a := topV [a0, a1, a2, a3, a4, a5, a6, a7, a8, a9, a10, a11, a12, a13, a14, a15, a22, a23, a24, a25, a26, a27, a28, a29, a30, a31] - 4) (b := topV [a0, a1, a2, a3, a4, a5, a6, a7, a8, a9, a10, a11, a12, a13, a14, a15, a16, a17, a18, a19, a20, a21, a28, a29, a30, a31] - 4) (by omega)
  have dx : (rightV [a0, a1, a2, a3, a4, a5, a6, a7, a8, a9, a10, a11, a12, a13, a14, a15, a16, a17, a18, a19, a20, a21, a28, a29, a30, a31] - 4) / 8 ≤ (rightV [a0, a1, a2, a3, a4, a5, a6, a7, a8, a9, a10, a11, a12, a13, a14, a15, a22, a23, a24, a25, a26, a27, a28, a29, a30, a31] - 4) / 8 := by omega
  have dy : (botV [a0, a1, a2, a3, a4, a5, a6, a7, a8, a9, a10, a11, a12, a13, a14, a15, a16, a17, a18, a19, a20, a21, a28, a29, a30, a31] - 4) / 8 ≤ (botV [a0, a1, a2, a3, a4, a5, a6, a7, a8, a9, a10, a11, a12, a13, a14, a15, a22, a23, a24, a25, a26, a27, a28, a29, a30, a31] - 4) / 8 := by omega
  have X0 : shX0 [a0, a1, a2, a3, a4, a5, a6, a7, a8, a9, a10, a11, a12, a13, a14, a15, a16, a17, a18, a19, a20, a21, a28, a29, a30, a31] = max (up (leftV [a0, a1, a2, a3, a4, a5, a6, a7, a8, a9, a10, a11, a12, a13, a14, a15, a16, a17, a18, a19, a20, a21, a28, a29, a30, a31] - 4) 8) a28 := rfl
  have X0' : shX0 [a0, a1, a2, a3, a4, a5, a6, a7, a8, a9, a10, a11, a12, a13, a14, a15, a22, a23, a24, a25, a26, a27, a28, a29, a30, a31] = max (up (leftV [a0, a1, a2, a3, a4, a5, a6, a7, a8, a9, a10, a11, a12, a13, a14, a15, a22, a23, a24, a25, a26, a27, a28, a29, a30, a31] - 4) 8) a28 := rfl
  have Y0 : shY0 [a0, a1, a2, a3, a4, a5, a6, a7, a8, a9, a10, a11, a12, a13, a14, a15, a16, a17, a18, a19, a20, a21, a28, a29, a30, a31] = max (up (topV [a0, a1, a2, a3, a4, a5, a6, a7, a8, a9, a10, a11, a12, a13, a14, a15, a16, a17, a18, a19, a20, a21, a28, a29, a30, a31] - 4) 8) a29 := rfl
  have Y0' : shY0 [a0, a1, a2, a3, a4, a5, a6, a7, a8, a9, a10, a11, a12, a13, a14, a15, a22, a23, a24, a25, a26, a27, a28, a29, a30, a31] = max (up (topV [a0, a1, a2, a3, a4, a5, a6, a7, a8, a9, a10, a11, a12, a13, a14, a15, a22, a23, a24, a25, a26, a27, a28, a29, a30, a31] - 4) 8) a29 := rfl
  have X1 : shX1 [a0, a1, a2, a3, a4, a5, a6, a7, a8, a9, a10, a11, a12, a13, a14, a15, a16, a17, a18, a19, a20, a21, a28, a29, a30, a31] = min ((rightV [a0, a1, a2, a3, a4, a5, a6, a7, a8, a9, a10, a11, a12, a13, a14, a15, a16, a17, a18, a19, a20, a21, a28, a29, a30, a31] - 4) / 8) a30 := rfl
  have X1' : shX1 [a0, a1, a2, a3, a4, a5, a6, a7, a8, a9, a10, a11, a12, a13, a14, a15, a22, a23, a24, a25, a26, a27, a28, a29, a30, a31] = min ((rightV [a0, a1, a2, a3, a4, a5, a6, a7, a8, a9, a10, a11, a12, a13, a14, a15, a22, a23, a24, a25, a26, a27, a28, a29, a30, a31] - 4) / 8) a30 := rfl
  have Y1 : shY1 [a0, a1, a2, a3, a4, a5, a6, a7, a8, a9, a10, a11, a12, a13, a14, a15, a16, a17, a18, a19, a20, a21, a28, a29, a30, a31] = min ((botV [a0, a1, a2, a3, a4, a5, a6, a7, a8, a9, a10, a11, a12, a13, a14, a15, a16, a17, a18, a19, a20, a21, a28, a29, a30, a31] - 4) / 8) a31 := rfl
  have Y1' : shY1 [a0, a1, a2, a3, a4, a5, a6, a7, a8, a9, a10, a11, a12, a13, a14, a15, a22, a23, a24, a25, a26, a27, a28, a29, a30, a31] = min ((botV [a0, a1, a2, a3, a4, a5, a6, a7, a8, a9, a10, a11, a12, a13, a14, a15, a22, a23, a24, a25, a26, a27, a28, a29, a30, a31] - 4) / 8) a31 := rfl
  have c1 : shX0 [a0, a1, a2, a3, a4, a5, a6, a7, a8, a9, a10, a11, a12, a13, a14, a15, a22, a23, a24, a25, a26, a27, a28, a29, a30, a31] ≤ shX0 [a0, a1, a2, a3, a4, a5, a6, a7, a8, a9, a10, a11, a12, a13, a14, a15, a16, a17, a18, a19, a20, a21, a28, a29, a30, a31] ∧ shX1 [a0, a1, a2, a3, a4, a5, a6, a7, a8, a9, a10, a11, a12, a13, a14, a15, a16, a17, a18, a19, a20, a21, a28, a29, a30, a31] ≤ shX1 [a0, a1, a2, a3, a4, a5, a6, a7, a8, a9, a10, a11, a12, a13, a14, a15, a22, a23, a24, a25, a26, a27, a28, a29, a30, a31] ∧ shY0 [a0, a1, a2, a3, a4, a5, a6, a7, a8, a9, a10, a11, a12, a13, a14, a15, a22, a23, a24, a25, a26, a27, a28, a29, a30, a31] ≤ shY0 [a0, a1, a2, a3, a4, a5, a6, a7, a8, a9, a10, a11, a12, a13, a14, a15, a16, a17, a18, a19, a20, a21, a28, a29, a30, a31] ∧ shY1 [a0, a1, a2, a3, a4, a5, a6, a7, a8, a9, a10, a11, a12, a13, a14, a15, a16, a17, a18, a19, a20, a21, a28, a29, a30, a31] ≤ shY1 [a0, a1, a2, a3, a4, a5, a6, a7, a8, a9, a10, a11, a12, a13, a14, a15, a22, a23, a24, a25, a26, a27, a28, a29, a30, a31] := by
    rw [X0, X0', X1, X1', Y0, Y0', Y1, Y1']
    clear X0 X0' X1 X1' Y0 Y0' Y1 Y1' L1 L2 R1 R2 T1 T2 B1 B2 g0 g1 g3 g4
    refine ⟨?_, ?_, ?_, ?_⟩ <;> omega
  exact showsB_iff.2 ⟨by omega, by omega, by omega⟩

end Go.Proofs.YtgcoidbaoigkeaaDoor.fix
