/-
  What the functions of the first layers come to: rounding, points, matrices.
-/
import Derived.Test.YtgcoidbaoigkeaaDoorRows
import Derived.Test.YtgcoidbaoigkeaaDoorFFacts
import Derived.Test.YtgcoidbaoigkeaaDoorFDefs
set_option linter.unusedVariables false
set_option linter.unusedSimpArgs false
namespace Go.Proofs.YtgcoidbaoigkeaaDoor.fix
open Go.RowKit Go.Sx

theorem noG : Gok Tryd.prog [] := by intro s h; cases h
theorem one {s : Sum} (h : s.ok Tryd.prog) (hm : s.m = none := by rfl) : Gok Tryd.prog [s] := by
  intro x hx
  simp only [List.mem_singleton] at hx
  subst hx
  exact h.A hm
theorem more {s : Sum} {G : List Sum} (h : s.ok Tryd.prog) (hG : Gok Tryd.prog G) (hm : s.m = none := by rfl) : Gok Tryd.prog (s :: G) := by
  intro x hx
  rcases List.mem_cons.1 hx with rfl | hx
  · exact h.A hm
  · exact hG x hx

theorem er_iv (b : Bool) {e : Int} (h : 0 ≤ e) : ivHas (iv 0 e) (er b e) := by
  unfold er
  split <;> exact ⟨by first | exact h | exact Int.le_refl _, by first | exact h | exact Int.le_refl _⟩
theorem b01_iv (b : Bool) : ivHas (iv 0 1) (b01 b) := by
  unfold b01
  split <;> exact ⟨by decide, by decide⟩
theorem er_zero (b : Bool) {e : Int} (h : e ≠ 0) : er b e = 0 ↔ b = true := by
  unfold er
  cases b <;> simp [h]
theorem iv_def {a b n : Int} : ivHas (iv a b) n ↔ a ≤ n ∧ n ≤ b := Iff.rfl
theorem hull0_div {v : Option Iv} {a b : Int} (hb : 1 ≤ b) (h : ivHas v a) : ivHas (hull0 v) (a / b) := by
  cases v with
  | none => trivial
  | some v =>
    obtain ⟨h1, h2⟩ := h
    have := div_range (a := a) (b := b) (l := min v.lo 0) (h := max v.hi 0) (by omega) (by omega) (by omega) (by omega) (by omega)
    exact this
theorem hull0_up {v : Option Iv} {a b : Int} (hb : 1 ≤ b) (h : ivHas v a) : ivHas (hull0 v) (up a b) := by
  cases v with
  | none => trivial
  | some v =>
    obtain ⟨h1, h2⟩ := h
    have := up_range (a := a) (b := b) (l := min v.lo 0) (h := max v.hi 0) (by omega) (by omega) (by omega) (by omega) (by omega)
    exact this
theorem dec_true {p : Prop} [Decidable p] : decide p = true ↔ p := decide_eq_true_iff
theorem len2 {xs : List Int} (h : xs.length = 2) : ∃ a0 a1, xs = [a0, a1] := by
  match xs, h with
  | [a0, a1], _ => exact ⟨a0, a1, rfl⟩
theorem len3 {xs : List Int} (h : xs.length = 3) : ∃ a0 a1 a2, xs = [a0, a1, a2] := by
  match xs, h with
  | [a0, a1, a2], _ => exact ⟨a0, a1, a2, rfl⟩
theorem len4 {xs : List Int} (h : xs.length = 4) : ∃ a0 a1 a2 a3, xs = [a0, a1, a2, a3] := by
  match xs, h with
  | [a0, a1, a2, a3], _ => exact ⟨a0, a1, a2, a3, rfl⟩
theorem len6 {xs : List Int} (h : xs.length = 6) : ∃ a0 a1 a2 a3 a4 a5, xs = [a0, a1, a2, a3, a4, a5] := by
  match xs, h with
  | [a0, a1, a2, a3, a4, a5], _ => exact ⟨a0, a1, a2, a3, a4, a5, rfl⟩
theorem len12 {xs : List Int} (h : xs.length = 12) : ∃ a0 a1 a2 a3 a4 a5 a6 a7 a8 a9 a10 a11, xs = [a0, a1, a2, a3, a4, a5, a6, a7, a8, a9, a10, a11] := by
  match xs, h with
  | [a0, a1, a2, a3, a4, a5, a6, a7, a8, a9, a10, a11], _ => exact ⟨a0, a1, a2, a3, a4, a5, a6, a7, a8, a9, a10, a11, rfl⟩
theorem len15 {xs : List Int} (h : xs.length = 15) : ∃ a0 a1 a2 a3 a4 a5 a6 a7 a8 a9 a10 a11 a12 a13 a14, xs = [a0, a1, a2, a3, a4, a5, a6, a7, a8, a9, a10, a11, a12, a13, a14] := by
  match xs, h with
  | [a0, a1, a2, a3, a4, a5, a6, a7, a8, a9, a10, a11, a12, a13, a14], _ => exact ⟨a0, a1, a2, a3, a4, a5, a6, a7, a8, a9, a10, a11, a12, a13, a14, rfl⟩
theorem len16 {xs : List Int} (h : xs.length = 16) : ∃ a0 a1 a2 a3 a4 a5 a6 a7 a8 a9 a10 a11 a12 a13 a14 a15, xs = [a0, a1, a2, a3, a4, a5, a6, a7, a8, a9, a10, a11, a12, a13, a14, a15] := by
  match xs, h with
  | [a0, a1, a2, a3, a4, a5, a6, a7, a8, a9, a10, a11, a12, a13, a14, a15], _ => exact ⟨a0, a1, a2, a3, a4, a5, a6, a7, a8, a9, a10, a11, a12, a13, a14, a15, rfl⟩
theorem len20 {xs : List Int} (h : xs.length = 20) : ∃ a0 a1 a2 a3 a4 a5 a6 a7 a8 a9 a10 a11 a12 a13 a14 a15 a16 a17 a18 a19, xs = [a0, a1, a2, a3, a4, a5, a6, a7, a8, a9, a10, a11, a12, a13, a14, a15, a16, a17, a18, a19] := by
  match xs, h with
  | [a0, a1, a2, a3, a4, a5, a6, a7, a8, a9, a10, a11, a12, a13, a14, a15, a16, a17, a18, a19], _ => exact ⟨a0, a1, a2, a3, a4, a5, a6, a7, a8, a9, a10, a11, a12, a13, a14, a15, a16, a17, a18, a19, rfl⟩
theorem len8 {xs : List Int} (h : xs.length = 8) : ∃ a0 a1 a2 a3 a4 a5 a6 a7, xs = [a0, a1, a2, a3, a4, a5, a6, a7] := by
  match xs, h with
  | [a0, a1, a2, a3, a4, a5, a6, a7], _ => exact ⟨a0, a1, a2, a3, a4, a5, a6, a7, rfl⟩
theorem len22 {xs : List Int} (h : xs.length = 22) : ∃ a0 a1 a2 a3 a4 a5 a6 a7 a8 a9 a10 a11 a12 a13 a14 a15 a16 a17 a18 a19 a20 a21, xs = [a0, a1, a2, a3, a4, a5, a6, a7, a8, a9, a10, a11, a12, a13, a14, a15, a16, a17, a18, a19, a20, a21] := by
  match xs, h with
  | [a0, a1, a2, a3, a4, a5, a6, a7, a8, a9, a10, a11, a12, a13, a14, a15, a16, a17, a18, a19, a20, a21], _ => exact ⟨a0, a1, a2, a3, a4, a5, a6, a7, a8, a9, a10, a11, a12, a13, a14, a15, a16, a17, a18, a19, a20, a21, rfl⟩
theorem len26 {xs : List Int} (h : xs.length = 26) : ∃ a0 a1 a2 a3 a4 a5 a6 a7 a8 a9 a10 a11 a12 a13 a14 a15 a16 a17 a18 a19 a20 a21 a22 a23 a24 a25, xs = [a0, a1, a2, a3, a4, a5, a6, a7, a8, a9, a10, a11, a12, a13, a14, a15, a16, a17, a18, a19, a20, a21, a22, a23, a24, a25] := by
  match xs, h with
  | [a0, a1, a2, a3, a4, a5, a6, a7, a8, a9, a10, a11, a12, a13, a14, a15, a16, a17, a18, a19, a20, a21, a22, a23, a24, a25], _ => exact ⟨a0, a1, a2, a3, a4, a5, a6, a7, a8, a9, a10, a11, a12, a13, a14, a15, a16, a17, a18, a19, a20, a21, a22, a23, a24, a25, rfl⟩

/-! ### fixed -/
noncomputable def G_floor : List Sum := []
def I_floor : List Inf := []
def t_floor : TX := (.ite (.lt (.rem (.v 0) (.v 1)) (.c 0)) (.ret [(.wr .i64 (.sub (.quo (.v 0) (.v 1)) (.c 1))), (.c 0)])
(.ret [(.quo (.v 0) (.v 1)), (.c 0)]))
theorem tree_floor : merge (optFL [] I_floor [] pin_floor (symFnL Tryd.prog noLp gl0 G_floor 1000 37 [I1, I1] [I1, I1])) = t_floor := by kernel_rfl
theorem g_floor : Gok Tryd.prog G_floor := noG
theorem o_floor : outsOK G_floor I_floor := outsOK_nil
noncomputable def G_ceil : List Sum := []
def I_ceil : List Inf := []
def t_ceil : TX := (.ite (.lt (.c 0) (.rem (.v 0) (.v 1))) (.ret [(.wr .i64 (.add (.quo (.v 0) (.v 1)) (.c 1))), (.c 0)])
(.ret [(.quo (.v 0) (.v 1)), (.c 0)]))
theorem tree_ceil : merge (optFL [] I_ceil [] pin_ceil (symFnL Tryd.prog noLp gl0 G_ceil 1000 36 [I1, I1] [I1, I1])) = t_ceil := by kernel_rfl
theorem g_ceil : Gok Tryd.prog G_ceil := noG
theorem o_ceil : outsOK G_ceil I_ceil := outsOK_nil
theorem in2 {a b : Int} (h : vsOK [zz, pos] [a, b]) : In64 a ∧ 1 ≤ b ∧ b ≤ 9223372036854775807 := ⟨h.2 0, h.2 1⟩
theorem ok_floor : s_floor.ok Tryd.prog := Sum.okF facts.mixed g_floor o_floor tree_floor rfl (fun _ => rfl) (by
  intro xs hx hp
  obtain ⟨a, b, rfl⟩ := len2 hx
  obtain ⟨ha, hb, hb'⟩ := in2 hp
  simp only [t_floor, TX.sat, XB.prop, X.den, List.map_cons, List.map_nil, List.getElem?_cons_zero, List.getElem?_cons_succ, List.cons_append, List.nil_append, List.getD_cons_zero, List.getD_cons_succ, mkS, mkP, and_true, true_and, Int.not_lt, Int.not_le, not_or, not_and, Classical.not_not, ne_eq, not_true_eq_false, not_false_eq_true, sem_floor]
  have hd := div_range (a := a) (b := b) (l := -9223372036854775808) (h := 9223372036854775807) (by omega) (by omega) (by omega) ha.1 ha.2
  refine ⟨fun h => ?_, fun h => ?_⟩
  · rw [floor_neg (by omega) h, wrap64 hd.1 hd.2]
  · rw [floor_pos (by omega) h])
theorem inf_floor : InfOK s_floor i_floor := ⟨fun _ h => h, fun vs xs h hp => vsOK_cons (hull0_div (hp.2 1).1 (h.2 0)) (vsOK_cons ⟨Int.le_refl _, Int.le_refl _⟩ vsOK_nil)⟩
theorem ok_ceil : s_ceil.ok Tryd.prog := Sum.okF facts.mixed g_ceil o_ceil tree_ceil rfl (fun _ => rfl) (by
  intro xs hx hp
  obtain ⟨a, b, rfl⟩ := len2 hx
  obtain ⟨ha, hb, hb'⟩ := in2 hp
  simp only [t_ceil, TX.sat, XB.prop, X.den, List.map_cons, List.map_nil, List.getElem?_cons_zero, List.getElem?_cons_succ, List.cons_append, List.nil_append, List.getD_cons_zero, List.getD_cons_succ, mkS, mkP, and_true, true_and, Int.not_lt, Int.not_le, not_or, not_and, Classical.not_not, ne_eq, not_true_eq_false, not_false_eq_true, sem_ceil]
  have hd := up_range (a := a) (b := b) (l := -9223372036854775808) (h := 9223372036854775807) (by omega) (by omega) (by omega) ha.1 ha.2
  refine ⟨fun h => ?_, fun h => ?_⟩
  · rw [up_pos (by omega) h, wrap64 hd.1 hd.2]
  · rw [up_neg (by omega) h])
theorem inf_ceil : InfOK s_ceil i_ceil := ⟨fun _ h => h, fun vs xs h hp => vsOK_cons (hull0_up (hp.2 1).1 (h.2 0)) (vsOK_cons ⟨Int.le_refl _, Int.le_refl _⟩ vsOK_nil)⟩
/-! ### vec -/
theorem all3_true {m : Int} {x : List Int} {o : Nat} : all3 m x o = true ↔ ((-m ≤ x.getD o 0 ∧ x.getD o 0 ≤ m) ∧ (-m ≤ x.getD (o + 1) 0 ∧ x.getD (o + 1) 0 ≤ m) ∧ (-m ≤ x.getD (o + 2) 0 ∧ x.getD (o + 2) 0 ≤ m)) := decide_eq_true_iff
end Go.Proofs.YtgcoidbaoigkeaaDoor.fix
