/-
  What lies between; smaller boxes, nearer and farther places: plain laws.
-/
import Derived.Test.YtjbkcjbjllmhfaaDoorShad
set_option linter.unusedVariables false
set_option linter.unusedSimpArgs false
namespace Go.Proofs.YtjbkcjbjllmhfaaDoor.fix
open Go.RowKit Go.Sx

theorem mid1 {m l h v : Int} (h1 : l ≤ v) (h2 : v ≤ h) : min (m * l) (m * h) ≤ m * v ∧ m * v ≤ max (m * l) (m * h) := by
  have := mul_between (y := m) h1 h2
  rw [Int.mul_comm l, Int.mul_comm h, Int.mul_comm v] at this
  exact this
theorem mid3 {a b c d e f x y z : Int} (h1 : min a b ≤ x ∧ x ≤ max a b) (h2 : min c d ≤ y ∧ y ≤ max c d) (h3 : min e f ≤ z ∧ z ≤ max e f) : (min a b + min c d + min e f) / 256 ≤ (x + y + z) / 256 ∧ (x + y + z) / 256 ≤ (max a b + max c d + max e f) / 256 :=
  ⟨Int.ediv_le_ediv (by omega) (by omega), Int.ediv_le_ediv (by omega) (by omega)⟩
theorem lies1 {m l h l' h' : Int} (h1 : l' ≤ l) (h0 : l ≤ h) (h2 : h ≤ h') : min (m * l') (m * h') ≤ min (m * l) (m * h) ∧ max (m * l) (m * h) ≤ max (m * l') (m * h') := by
  have k1 := mid1 (m := m) (l := l') (h := h') (v := l) (by omega) (by omega)
  have k2 := mid1 (m := m) (l := l') (h := h') (v := h) (by omega) (by omega)
  omega
theorem lies3 {a b c a' b' c' : Int} (h1 : a' ≤ a) (h2 : b' ≤ b) (h3 : c' ≤ c) : (a' + b' + c') / 256 ≤ (a + b + c) / 256 := Int.ediv_le_ediv (by omega) (by omega)
theorem fview_ok {x : List Int} (h : (fviewL x).getD 6 0 = 0) : camB x 0 = true ∧ worldB x 16 = true ∧ fviewL x = turnedP (aimed x) := by
  unfold fviewL at h ⊢
  split
  · rename_i h1
    rw [if_pos h1] at h
    split
    · rename_i h2
      exact ⟨h1, h2, rfl⟩
    · rename_i h2
      rw [if_neg h2] at h
      exact absurd h (by decide)
  · rename_i h1
    rw [if_neg h1] at h
    exact absurd h (by decide)
theorem fview_no {x : List Int} (h : ¬ (fviewL x).getD 6 0 = 0) : ∃ e, fviewL x = z7 e := by
  unfold fviewL at h ⊢
  split
  · rename_i h1
    rw [if_pos h1] at h
    split
    · rename_i h2
      rw [if_pos h2] at h
      exact absurd rfl h
    · exact ⟨8, rfl⟩
  · exact ⟨150, rfl⟩
theorem shadow_ok {x : List Int} (h : (shadowL x).getD 6 0 = 0) : camB x 0 = true ∧ worldB x 16 = true ∧ winC x = true ∧ shadowL x = if showsB x = true then shadowP x else z7 0 := by
  unfold shadowL at h ⊢
  split
  · rename_i h1
    rw [if_pos h1] at h
    split
    · rename_i h2
      rw [if_pos h2] at h
      split
      · rename_i h3
        exact ⟨h1, h2, h3, rfl⟩
      · rename_i h3
        rw [if_neg h3] at h
        exact absurd h (by decide)
    · rename_i h2
      rw [if_neg h2] at h
      exact absurd h (by decide)
  · rename_i h1
    rw [if_neg h1] at h
    exact absurd h (by decide)
/-- More below the line: less; where what stands above it is below nought: more. -/
theorem div_anti {a x y : Int} (h0 : 0 ≤ a) (hx : 0 < x) (h : x ≤ y) : a / y ≤ a / x := by
  rw [Int.le_ediv_iff_mul_le hx]
  have h1 : 0 ≤ a / y := Int.ediv_nonneg h0 (by omega)
  have h2 : a / y * x ≤ a / y * y := Int.mul_le_mul_of_nonneg_left h h1
  have h3 : a / y * y ≤ a := Int.ediv_mul_le a (by omega)
  omega
theorem div_anti' {a x y : Int} (h0 : a ≤ 0) (hx : 0 < x) (h : x ≤ y) : a / x ≤ a / y := by
  rw [Int.le_ediv_iff_mul_le (show 0 < y by omega)]
  have h1 : a / x ≤ 0 := by
    apply Int.ediv_le_of_le_mul hx
    omega
  have h2 : a / x * y ≤ a / x * x := Int.mul_le_mul_of_nonpos_left h1 h
  have h3 : a / x * x ≤ a := Int.ediv_mul_le a (by omega)
  omega
/-- A number as far off as may be, by a depth that lies between: no less than the least, no more than the most. -/
theorem go_mid {f a b n m z : Int} (hf : 0 ≤ f) (ha : 0 < a) (h1 : a ≤ z) (h2 : z ≤ b) : (n ≤ m → goLo f a b n ≤ 8 * f * m / z) ∧ (m ≤ n → 8 * f * m / z ≤ goHi f a b n) := by
  have hz : 0 < z := by omega
  have hb : 0 < b := by omega
  have h8 : 0 ≤ 8 * f := by omega
  refine ⟨fun hnm => ?_, fun hmn => ?_⟩
  · have hk : 8 * f * n ≤ 8 * f * m := Int.mul_le_mul_of_nonneg_left hnm h8
    have hq : 8 * f * n / z ≤ 8 * f * m / z := Int.ediv_le_ediv hz hk
    refine Int.le_trans ?_ hq
    unfold goLo
    split
    · rename_i hn
      have h0 : 0 ≤ 8 * f * n := Int.mul_nonneg h8 hn
      exact div_anti h0 hz h2
    · rename_i hn
      have h0 : 8 * f * n ≤ 0 := Int.mul_nonpos_of_nonneg_of_nonpos h8 (by omega)
      exact div_anti' h0 ha h1
  · have hk : 8 * f * m ≤ 8 * f * n := Int.mul_le_mul_of_nonneg_left hmn h8
    have hq : 8 * f * m / z ≤ 8 * f * n / z := Int.ediv_le_ediv hz hk
    refine Int.le_trans hq ?_
    unfold goHi
    split
    · rename_i hn
      have h0 : 0 ≤ 8 * f * n := Int.mul_nonneg h8 hn
      exact div_anti h0 ha h1
    · rename_i hn
      have h0 : 8 * f * n ≤ 0 := Int.mul_nonpos_of_nonneg_of_nonpos h8 (by omega)
      exact div_anti' h0 hz h2
theorem goLo_mono {f a b n a' b' n' : Int} (hf : 0 ≤ f) (ha : 0 < a') (h1 : a' ≤ a) (h0 : a ≤ b) (h2 : b ≤ b') (hn : n' ≤ n) : goLo f a' b' n' ≤ goLo f a b n := by
  have : ∃ z, a ≤ z ∧ z ≤ b ∧ goLo f a b n = 8 * f * n / z := by
    unfold goLo
    split
    · exact ⟨b, h0, Int.le_refl _, rfl⟩
    · exact ⟨a, Int.le_refl _, h0, rfl⟩
  obtain ⟨z, hz1, hz2, h⟩ := this
  rw [h]
  exact (go_mid hf ha (by omega) (by omega)).1 hn
theorem goHi_mono {f a b n a' b' n' : Int} (hf : 0 ≤ f) (ha : 0 < a') (h1 : a' ≤ a) (h0 : a ≤ b) (h2 : b ≤ b') (hn : n ≤ n') : goHi f a b n ≤ goHi f a' b' n' := by
  have : ∃ z, a ≤ z ∧ z ≤ b ∧ goHi f a b n = 8 * f * n / z := by
    unfold goHi
    split
    · exact ⟨a, Int.le_refl _, h0, rfl⟩
    · exact ⟨b, h0, Int.le_refl _, rfl⟩
  obtain ⟨z, hz1, hz2, h⟩ := this
  rw [h]
  exact (go_mid hf ha (by omega) (by omega)).2 hn
theorem up_mono {a b : Int} (h : a ≤ b) : up a 8 ≤ up b 8 := by unfold up; omega
theorem up_le {a x : Int} (h : a ≤ 8 * x) : up a 8 ≤ x := by unfold up; omega
end Go.Proofs.YtjbkcjbjllmhfaaDoor.fix
