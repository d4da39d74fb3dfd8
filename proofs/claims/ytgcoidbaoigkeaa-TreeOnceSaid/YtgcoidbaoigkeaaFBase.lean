/-
  What the functions of the first layers come to: rounding, points, matrices.
-/
import Derived.Test.YtgcoidbaoigkeaaRows
import Derived.Test.YtgcoidbaoigkeaaFFacts
import Derived.Test.YtgcoidbaoigkeaaFDefs
set_option linter.unusedVariables false
set_option linter.unusedSimpArgs false
namespace Go.Proofs.Ytgcoidbaoigkeaa.fix
open Go.RowKit Go.Sx

theorem gl0_nil : GlOK gl0 = GlOK gl0 := rfl
theorem noG : Gok Try.prog [] := by intro s h; cases h
theorem one {s : Sum} (h : s.ok Try.prog) (hm : s.m = none := by rfl) : Gok Try.prog [s] := by
  intro x hx
  simp only [List.mem_singleton] at hx
  subst hx
  exact h.A hm
theorem more {s : Sum} {G : List Sum} (h : s.ok Try.prog) (hG : Gok Try.prog G) (hm : s.m = none := by rfl) : Gok Try.prog (s :: G) := by
  intro x hx
  rcases List.mem_cons.1 hx with rfl | hx
  · exact h.A hm
  · exact hG x hx

theorem er_iv (b : Bool) {e : Int} (h : 0 ≤ e) : ivHas (iv 0 e) (er b e) := by
  unfold er
  split <;> exact ⟨by first | exact h | exact Int.le_refl _, by first | exact h | exact Int.le_refl _⟩
theorem b01_iv (b : Bool) : ivHas (iv 0 1) (b01 b) := by
  unfold b01
  split <;> exact ⟨by decide, by decide⟩
theorem er_zero (b : Bool) {e : Int} (h : e ≠ 0) : er b e = 0 ↔ b = true := by
  unfold er
  cases b <;> simp [h]
theorem b01_zero (b : Bool) : b01 b = 0 ↔ b = false := by
  cases b <;> simp [b01]
theorem b01_one (b : Bool) : b01 b = 1 ↔ b = true := by
  cases b <;> simp [b01]
theorem er_true (e : Int) : er true e = 0 := rfl
theorem er_false (e : Int) : er false e = e := rfl
theorem iv_def {a b n : Int} : ivHas (iv a b) n ↔ a ≤ n ∧ n ≤ b := Iff.rfl
theorem hull0_div {v : Option Iv} {a b : Int} (hb : 1 ≤ b) (h : ivHas v a) : ivHas (hull0 v) (a / b) := by
  cases v with
  | none => trivial
  | some v =>
    obtain ⟨h1, h2⟩ := h
    have := div_range (a := a) (b := b) (l := min v.lo 0) (h := max v.hi 0) (by omega) (by omega) (by omega) (by omega) (by omega)
    exact this
theorem hull0_up {v : Option Iv} {a b : Int} (hb : 1 ≤ b) (h : ivHas v a) : ivHas (hull0 v) (up a b) := by
  cases v with
  | none => trivial
  | some v =>
    obtain ⟨h1, h2⟩ := h
    have := up_range (a := a) (b := b) (l := min v.lo 0) (h := max v.hi 0) (by omega) (by omega) (by omega) (by omega) (by omega)
    exact this
theorem divIv_has {v : Option Iv} {a k : Int} (hk : 0 < k) (h : ivHas v a) : ivHas (divIv k v) (a / k) := by
  cases v with
  | none => trivial
  | some v => exact ⟨div_mono hk h.1, div_mono hk h.2⟩
theorem dotIv_has {vs : List (Option Iv)} {xs : List Int} (h : vsOK vs xs) (o p : Nat) : ivHas (dotIv vs o p) (dot xs o p) :=
  addIv_has (addIv_has (mulIv_has (h.2 o) (h.2 p)) (mulIv_has (h.2 (o + 1)) (h.2 (p + 1)))) (mulIv_has (h.2 (o + 2)) (h.2 (p + 2)))

theorem dec_true {p : Prop} [Decidable p] : decide p = true ↔ p := decide_eq_true_iff
theorem len2 {xs : List Int} (h : xs.length = 2) : ∃ a0 a1, xs = [a0, a1] := by
  match xs, h with
  | [a0, a1], _ => exact ⟨a0, a1, rfl⟩
theorem len3 {xs : List Int} (h : xs.length = 3) : ∃ a0 a1 a2, xs = [a0, a1, a2] := by
  match xs, h with
  | [a0, a1, a2], _ => exact ⟨a0, a1, a2, rfl⟩
theorem len4 {xs : List Int} (h : xs.length = 4) : ∃ a0 a1 a2 a3, xs = [a0, a1, a2, a3] := by
  match xs, h with
  | [a0, a1, a2, a3], _ => exact ⟨a0, a1, a2, a3, rfl⟩
theorem len5 {xs : List Int} (h : xs.length = 5) : ∃ a0 a1 a2 a3 a4, xs = [a0, a1, a2, a3, a4] := by
  match xs, h with
  | [a0, a1, a2, a3, a4], _ => exact ⟨a0, a1, a2, a3, a4, rfl⟩
theorem len6 {xs : List Int} (h : xs.length = 6) : ∃ a0 a1 a2 a3 a4 a5, xs = [a0, a1, a2, a3, a4, a5] := by
  match xs, h with
  | [a0, a1, a2, a3, a4, a5], _ => exact ⟨a0, a1, a2, a3, a4, a5, rfl⟩
theorem len9 {xs : List Int} (h : xs.length = 9) : ∃ a0 a1 a2 a3 a4 a5 a6 a7 a8, xs = [a0, a1, a2, a3, a4, a5, a6, a7, a8] := by
  match xs, h with
  | [a0, a1, a2, a3, a4, a5, a6, a7, a8], _ => exact ⟨a0, a1, a2, a3, a4, a5, a6, a7, a8, rfl⟩
theorem len10 {xs : List Int} (h : xs.length = 10) : ∃ a0 a1 a2 a3 a4 a5 a6 a7 a8 a9, xs = [a0, a1, a2, a3, a4, a5, a6, a7, a8, a9] := by
  match xs, h with
  | [a0, a1, a2, a3, a4, a5, a6, a7, a8, a9], _ => exact ⟨a0, a1, a2, a3, a4, a5, a6, a7, a8, a9, rfl⟩
theorem len12 {xs : List Int} (h : xs.length = 12) : ∃ a0 a1 a2 a3 a4 a5 a6 a7 a8 a9 a10 a11, xs = [a0, a1, a2, a3, a4, a5, a6, a7, a8, a9, a10, a11] := by
  match xs, h with
  | [a0, a1, a2, a3, a4, a5, a6, a7, a8, a9, a10, a11], _ => exact ⟨a0, a1, a2, a3, a4, a5, a6, a7, a8, a9, a10, a11, rfl⟩
theorem len15 {xs : List Int} (h : xs.length = 15) : ∃ a0 a1 a2 a3 a4 a5 a6 a7 a8 a9 a10 a11 a12 a13 a14, xs = [a0, a1, a2, a3, a4, a5, a6, a7, a8, a9, a10, a11, a12, a13, a14] := by
  match xs, h with
  | [a0, a1, a2, a3, a4, a5, a6, a7, a8, a9, a10, a11, a12, a13, a14], _ => exact ⟨a0, a1, a2, a3, a4, a5, a6, a7, a8, a9, a10, a11, a12, a13, a14, rfl⟩
theorem len16 {xs : List Int} (h : xs.length = 16) : ∃ a0 a1 a2 a3 a4 a5 a6 a7 a8 a9 a10 a11 a12 a13 a14 a15, xs = [a0, a1, a2, a3, a4, a5, a6, a7, a8, a9, a10, a11, a12, a13, a14, a15] := by
  match xs, h with
  | [a0, a1, a2, a3, a4, a5, a6, a7, a8, a9, a10, a11, a12, a13, a14, a15], _ => exact ⟨a0, a1, a2, a3, a4, a5, a6, a7, a8, a9, a10, a11, a12, a13, a14, a15, rfl⟩
theorem len17 {xs : List Int} (h : xs.length = 17) : ∃ a0 a1 a2 a3 a4 a5 a6 a7 a8 a9 a10 a11 a12 a13 a14 a15 a16, xs = [a0, a1, a2, a3, a4, a5, a6, a7, a8, a9, a10, a11, a12, a13, a14, a15, a16] := by
  match xs, h with
  | [a0, a1, a2, a3, a4, a5, a6, a7, a8, a9, a10, a11, a12, a13, a14, a15, a16], _ => exact ⟨a0, a1, a2, a3, a4, a5, a6, a7, a8, a9, a10, a11, a12, a13, a14, a15, a16, rfl⟩
theorem len19 {xs : List Int} (h : xs.length = 19) : ∃ a0 a1 a2 a3 a4 a5 a6 a7 a8 a9 a10 a11 a12 a13 a14 a15 a16 a17 a18, xs = [a0, a1, a2, a3, a4, a5, a6, a7, a8, a9, a10, a11, a12, a13, a14, a15, a16, a17, a18] := by
  match xs, h with
  | [a0, a1, a2, a3, a4, a5, a6, a7, a8, a9, a10, a11, a12, a13, a14, a15, a16, a17, a18], _ => exact ⟨a0, a1, a2, a3, a4, a5, a6, a7, a8, a9, a10, a11, a12, a13, a14, a15, a16, a17, a18, rfl⟩
theorem len20 {xs : List Int} (h : xs.length = 20) : ∃ a0 a1 a2 a3 a4 a5 a6 a7 a8 a9 a10 a11 a12 a13 a14 a15 a16 a17 a18 a19, xs = [a0, a1, a2, a3, a4, a5, a6, a7, a8, a9, a10, a11, a12, a13, a14, a15, a16, a17, a18, a19] := by
  match xs, h with
  | [a0, a1, a2, a3, a4, a5, a6, a7, a8, a9, a10, a11, a12, a13, a14, a15, a16, a17, a18, a19], _ => exact ⟨a0, a1, a2, a3, a4, a5, a6, a7, a8, a9, a10, a11, a12, a13, a14, a15, a16, a17, a18, a19, rfl⟩
theorem len21 {xs : List Int} (h : xs.length = 21) : ∃ a0 a1 a2 a3 a4 a5 a6 a7 a8 a9 a10 a11 a12 a13 a14 a15 a16 a17 a18 a19 a20, xs = [a0, a1, a2, a3, a4, a5, a6, a7, a8, a9, a10, a11, a12, a13, a14, a15, a16, a17, a18, a19, a20] := by
  match xs, h with
  | [a0, a1, a2, a3, a4, a5, a6, a7, a8, a9, a10, a11, a12, a13, a14, a15, a16, a17, a18, a19, a20], _ => exact ⟨a0, a1, a2, a3, a4, a5, a6, a7, a8, a9, a10, a11, a12, a13, a14, a15, a16, a17, a18, a19, a20, rfl⟩
theorem len24 {xs : List Int} (h : xs.length = 24) : ∃ a0 a1 a2 a3 a4 a5 a6 a7 a8 a9 a10 a11 a12 a13 a14 a15 a16 a17 a18 a19 a20 a21 a22 a23, xs = [a0, a1, a2, a3, a4, a5, a6, a7, a8, a9, a10, a11, a12, a13, a14, a15, a16, a17, a18, a19, a20, a21, a22, a23] := by
  match xs, h with
  | [a0, a1, a2, a3, a4, a5, a6, a7, a8, a9, a10, a11, a12, a13, a14, a15, a16, a17, a18, a19, a20, a21, a22, a23], _ => exact ⟨a0, a1, a2, a3, a4, a5, a6, a7, a8, a9, a10, a11, a12, a13, a14, a15, a16, a17, a18, a19, a20, a21, a22, a23, rfl⟩
theorem len18 {xs : List Int} (h : xs.length = 18) : ∃ a0 a1 a2 a3 a4 a5 a6 a7 a8 a9 a10 a11 a12 a13 a14 a15 a16 a17, xs = [a0, a1, a2, a3, a4, a5, a6, a7, a8, a9, a10, a11, a12, a13, a14, a15, a16, a17] := by
  match xs, h with
  | [a0, a1, a2, a3, a4, a5, a6, a7, a8, a9, a10, a11, a12, a13, a14, a15, a16, a17], _ => exact ⟨a0, a1, a2, a3, a4, a5, a6, a7, a8, a9, a10, a11, a12, a13, a14, a15, a16, a17, rfl⟩

theorem len7 {xs : List Int} (h : xs.length = 7) : ∃ a0 a1 a2 a3 a4 a5 a6, xs = [a0, a1, a2, a3, a4, a5, a6] := by
  match xs, h with
  | [a0, a1, a2, a3, a4, a5, a6], _ => exact ⟨a0, a1, a2, a3, a4, a5, a6, rfl⟩
theorem len8 {xs : List Int} (h : xs.length = 8) : ∃ a0 a1 a2 a3 a4 a5 a6 a7, xs = [a0, a1, a2, a3, a4, a5, a6, a7] := by
  match xs, h with
  | [a0, a1, a2, a3, a4, a5, a6, a7], _ => exact ⟨a0, a1, a2, a3, a4, a5, a6, a7, rfl⟩
theorem len11 {xs : List Int} (h : xs.length = 11) : ∃ a0 a1 a2 a3 a4 a5 a6 a7 a8 a9 a10, xs = [a0, a1, a2, a3, a4, a5, a6, a7, a8, a9, a10] := by
  match xs, h with
  | [a0, a1, a2, a3, a4, a5, a6, a7, a8, a9, a10], _ => exact ⟨a0, a1, a2, a3, a4, a5, a6, a7, a8, a9, a10, rfl⟩

theorem len22 {xs : List Int} (h : xs.length = 22) : ∃ a0 a1 a2 a3 a4 a5 a6 a7 a8 a9 a10 a11 a12 a13 a14 a15 a16 a17 a18 a19 a20 a21, xs = [a0, a1, a2, a3, a4, a5, a6, a7, a8, a9, a10, a11, a12, a13, a14, a15, a16, a17, a18, a19, a20, a21] := by
  match xs, h with
  | [a0, a1, a2, a3, a4, a5, a6, a7, a8, a9, a10, a11, a12, a13, a14, a15, a16, a17, a18, a19, a20, a21], _ => exact ⟨a0, a1, a2, a3, a4, a5, a6, a7, a8, a9, a10, a11, a12, a13, a14, a15, a16, a17, a18, a19, a20, a21, rfl⟩
theorem len26 {xs : List Int} (h : xs.length = 26) : ∃ a0 a1 a2 a3 a4 a5 a6 a7 a8 a9 a10 a11 a12 a13 a14 a15 a16 a17 a18 a19 a20 a21 a22 a23 a24 a25, xs = [a0, a1, a2, a3, a4, a5, a6, a7, a8, a9, a10, a11, a12, a13, a14, a15, a16, a17, a18, a19, a20, a21, a22, a23, a24, a25] := by
  match xs, h with
  | [a0, a1, a2, a3, a4, a5, a6, a7, a8, a9, a10, a11, a12, a13, a14, a15, a16, a17, a18, a19, a20, a21, a22, a23, a24, a25], _ => exact ⟨a0, a1, a2, a3, a4, a5, a6, a7, a8, a9, a10, a11, a12, a13, a14, a15, a16, a17, a18, a19, a20, a21, a22, a23, a24, a25, rfl⟩

/-! ### fixed -/
theorem all3_true {m : Int} {x : List Int} {o : Nat} : all3 m x o = true ↔ ((-m ≤ x.getD o 0 ∧ x.getD o 0 ≤ m) ∧ (-m ≤ x.getD (o + 1) 0 ∧ x.getD (o + 1) 0 ≤ m) ∧ (-m ≤ x.getD (o + 2) 0 ∧ x.getD (o + 2) 0 ≤ m)) := decide_eq_true_iff
end Go.Proofs.Ytgcoidbaoigkeaa.fix
