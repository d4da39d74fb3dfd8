/-
  Plain arithmetic for laws: wraps that do not wrap, division rounded down and up, and lists of numbers in range.
-/
import Derived.Test.YtgcoidbaoigkeaaDoorSwS
set_option linter.unusedVariables false
set_option linter.unusedSimpArgs false
namespace Go.Sx
open Go.RowKit

theorem wrap64 {x : Int} (h1 : -9223372036854775808 ≤ x) (h2 : x ≤ 9223372036854775807) : IntKind.i64.wrap x = x := by
  rw [IntKind.wrap_i64]; omega

theorem div_uniq {a b q r : Int} (hb : 0 < b) (h : b * q + r = a) (h0 : 0 ≤ r) (h1 : r < b) : a / b = q :=
  ((Int.ediv_emod_unique hb).2 ⟨by omega, h0, h1⟩).1

/-- Rounded up. -/
def up (a b : Int) : Int := -((-a) / b)

theorem floor_neg {a b : Int} (hb : 0 < b) (h : a.tmod b < 0) : a.tdiv b - 1 = a / b := by
  have h1 := Int.mul_tdiv_add_tmod a b
  have h2 := Int.lt_tmod_of_pos a hb
  refine (div_uniq hb (r := a.tmod b + b) ?_ (by omega) (by omega)).symm
  rw [Int.mul_sub]; omega
theorem floor_pos {a b : Int} (hb : 0 < b) (h : 0 ≤ a.tmod b) : a.tdiv b = a / b := by
  have h1 := Int.mul_tdiv_add_tmod a b
  have h2 := Int.tmod_lt_of_pos a hb
  exact (div_uniq hb h1 h h2).symm
theorem up_pos {a b : Int} (hb : 0 < b) (h : 0 < a.tmod b) : a.tdiv b + 1 = up a b := by
  have h1 := Int.mul_tdiv_add_tmod a b
  have h2 := Int.tmod_lt_of_pos a hb
  unfold up
  rw [div_uniq hb (q := -(a.tdiv b + 1)) (r := b - a.tmod b) (by rw [Int.mul_neg, Int.mul_add]; omega) (by omega) (by omega)]
  omega
theorem up_neg {a b : Int} (hb : 0 < b) (h : a.tmod b ≤ 0) : a.tdiv b = up a b := by
  have h1 := Int.mul_tdiv_add_tmod a b
  have h2 := Int.lt_tmod_of_pos a hb
  unfold up
  rw [div_uniq hb (q := -(a.tdiv b)) (r := -a.tmod b) (by rw [Int.mul_neg]; omega) (by omega) (by omega)]
  omega

theorem div_lo {a b : Int} (hb : 0 < b) : b * (a / b) ≤ a := Int.mul_ediv_self_le (by omega)
theorem div_hi {a b : Int} (hb : 0 < b) : a < b * (a / b) + b := Int.lt_mul_ediv_self_add hb
theorem up_lo {a b : Int} (hb : 0 < b) : a ≤ b * up a b := by
  have := div_lo (a := -a) hb
  unfold up
  rw [Int.mul_neg]; omega
theorem up_hi {a b : Int} (hb : 0 < b) : b * up a b < a + b := by
  have := div_hi (a := -a) hb
  unfold up
  rw [Int.mul_neg]; omega

/-- A quotient lies where its dividend does. -/
theorem div_range {a b l h : Int} (hb : 0 < b) (hl : l ≤ 0) (hh : 0 ≤ h) (h1 : l ≤ a) (h2 : a ≤ h) : l ≤ a / b ∧ a / b ≤ h := by
  constructor
  · rw [Int.le_ediv_iff_mul_le hb]
    have : l * b ≤ l * 1 := Int.mul_le_mul_of_nonpos_left hl (by omega)
    omega
  · apply Int.ediv_le_of_le_mul hb
    have : h * 1 ≤ h * b := Int.mul_le_mul_of_nonneg_left (by omega) hh
    omega
theorem up_range {a b l h : Int} (hb : 0 < b) (hl : l ≤ 0) (hh : 0 ≤ h) (h1 : l ≤ a) (h2 : a ≤ h) : l ≤ up a b ∧ up a b ≤ h := by
  have := div_range (a := -a) (l := -h) (h := -l) hb (by omega) (by omega) (by omega) (by omega)
  unfold up
  omega
theorem tdiv_range {a b l h : Int} (hb : 0 < b) (hl : l ≤ 0) (hh : 0 ≤ h) (h1 : l ≤ a) (h2 : a ≤ h) : l ≤ a.tdiv b ∧ a.tdiv b ≤ h := by
  rcases Int.lt_or_le a 0 with hn | hn
  · have h3 : 0 ≤ (-a).tmod b := Int.tmod_nonneg b (by omega)
    rw [Int.neg_tmod] at h3
    rw [up_neg hb (by omega)]
    exact up_range hb hl hh h1 h2
  · rw [floor_pos hb (Int.tmod_nonneg b hn)]
    exact div_range hb hl hh h1 h2
theorem div_mono {a a' b : Int} (hb : 0 < b) (h : a ≤ a') : a / b ≤ a' / b := Int.ediv_le_ediv hb h

theorem mul_abs_le {x y m n : Int} (hx : -m ≤ x ∧ x ≤ m) (hy : -n ≤ y ∧ y ≤ n) : -(m * n) ≤ x * y ∧ x * y ≤ m * n := by
  have hm : 0 ≤ m := by omega
  have hn : 0 ≤ n := by omega
  have h1 : x.natAbs ≤ m.natAbs := by omega
  have h2 : y.natAbs ≤ n.natAbs := by omega
  have h3 : (x * y).natAbs ≤ (m * n).natAbs := by
    rw [Int.natAbs_mul, Int.natAbs_mul]
    exact Nat.mul_le_mul h1 h2
  have h4 : 0 ≤ m * n := Int.mul_nonneg hm hn
  omega

def In64 (n : Int) : Prop := -9223372036854775808 ≤ n ∧ n ≤ 9223372036854775807

theorem I1_inv {xs : List Int} (h : rangeOK I1.ks xs) : ∃ a, xs = [a] ∧ In64 a := by
  match xs, h with
  | [a], h => exact ⟨a, rfl, wf_i64 h.1⟩

def allIn : List Int → Prop
  | [] => True
  | x :: xs => In64 x ∧ allIn xs

theorem An_inv : ∀ {n : Nat} {xs : List Int}, rangeOK (An n).ks xs → xs.length = n ∧ allIn xs
  | 0, [], _ => ⟨rfl, trivial⟩
  | 0, _ :: _, h => h.elim
  | n + 1, [], h => h.elim
  | n + 1, x :: xs, h => by
    have h' : inK (.i .i64) x ∧ rangeOK (An n).ks xs := h
    obtain ⟨h1, h2⟩ := An_inv h'.2
    exact ⟨by simp [h1], wf_i64 h'.1, h2⟩

theorem sat_ite {Γ R Ψ b t f bs r} (h1 : b.den R r = true → t.sat Γ R Ψ bs r) (h2 : b.den R r = false → f.sat Γ R Ψ bs r) : (T.ite b t f).sat Γ R Ψ bs r := ⟨h1, h2⟩
end Go.Sx
