/-
  What the functions of the first layers come to: rounding, points, matrices.
-/
import Derived.Test.YtgcoidbaoigkeaaRows
import Derived.Test.YtgcoidbaoigkeaaFFacts
import Derived.Test.YtgcoidbaoigkeaaFDefs
set_option linter.unusedVariables false
set_option linter.unusedSimpArgs false
namespace Go.Proofs.Ytgcoidbaoigkeaa.fix
open Go.RowKit Go.Sx

theorem noG : Gok Try.prog [] := by intro s h; cases h
theorem one {s : Sum} (h : s.ok Try.prog) (hm : s.m = none := by rfl) : Gok Try.prog [s] := by
  intro x hx
  simp only [List.mem_singleton] at hx
  subst hx
  exact h.A hm
theorem more {s : Sum} {G : List Sum} (h : s.ok Try.prog) (hG : Gok Try.prog G) (hm : s.m = none := by rfl) : Gok Try.prog (s :: G) := by
  intro x hx
  rcases List.mem_cons.1 hx with rfl | hx
  · exact h.A hm
  · exact hG x hx

theorem er_iv (b : Bool) {e : Int} (h : 0 ≤ e) : ivHas (iv 0 e) (er b e) := by
  unfold er
  split <;> exact ⟨by first | exact h | exact Int.le_refl _, by first | exact h | exact Int.le_refl _⟩
theorem b01_iv (b : Bool) : ivHas (iv 0 1) (b01 b) := by
  unfold b01
  split <;> exact ⟨by decide, by decide⟩
theorem er_zero (b : Bool) {e : Int} (h : e ≠ 0) : er b e = 0 ↔ b = true := by
  unfold er
  cases b <;> simp [h]
theorem iv_def {a b n : Int} : ivHas (iv a b) n ↔ a ≤ n ∧ n ≤ b := Iff.rfl
theorem dec_true {p : Prop} [Decidable p] : decide p = true ↔ p := decide_eq_true_iff
theorem len2 {xs : List Int} (h : xs.length = 2) : ∃ a0 a1, xs = [a0, a1] := by
  match xs, h with
  | [a0, a1], _ => exact ⟨a0, a1, rfl⟩
theorem len3 {xs : List Int} (h : xs.length = 3) : ∃ a0 a1 a2, xs = [a0, a1, a2] := by
  match xs, h with
  | [a0, a1, a2], _ => exact ⟨a0, a1, a2, rfl⟩
theorem len4 {xs : List Int} (h : xs.length = 4) : ∃ a0 a1 a2 a3, xs = [a0, a1, a2, a3] := by
  match xs, h with
  | [a0, a1, a2, a3], _ => exact ⟨a0, a1, a2, a3, rfl⟩
theorem len6 {xs : List Int} (h : xs.length = 6) : ∃ a0 a1 a2 a3 a4 a5, xs = [a0, a1, a2, a3, a4, a5] := by
  match xs, h with
  | [a0, a1, a2, a3, a4, a5], _ => exact ⟨a0, a1, a2, a3, a4, a5, rfl⟩
theorem len12 {xs : List Int} (h : xs.length = 12) : ∃ a0 a1 a2 a3 a4 a5 a6 a7 a8 a9 a10 a11, xs = [a0, a1, a2, a3, a4, a5, a6, a7, a8, a9, a10, a11] := by
  match xs, h with
  | [a0, a1, a2, a3, a4, a5, a6, a7, a8, a9, a10, a11], _ => exact ⟨a0, a1, a2, a3, a4, a5, a6, a7, a8, a9, a10, a11, rfl⟩
theorem len7 {xs : List Int} (h : xs.length = 7) : ∃ a0 a1 a2 a3 a4 a5 a6, xs = [a0, a1, a2, a3, a4, a5, a6] := by
  match xs, h with
  | [a0, a1, a2, a3, a4, a5, a6], _ => exact ⟨a0, a1, a2, a3, a4, a5, a6, rfl⟩
/-! ### fixed -/
theorem all3_true {m : Int} {x : List Int} {o : Nat} : all3 m x o = true ↔ ((-m ≤ x.getD o 0 ∧ x.getD o 0 ≤ m) ∧ (-m ≤ x.getD (o + 1) 0 ∧ x.getD (o + 1) 0 ≤ m) ∧ (-m ≤ x.getD (o + 2) 0 ∧ x.getD (o + 2) 0 ≤ m)) := decide_eq_true_iff
end Go.Proofs.Ytgcoidbaoigkeaa.fix
