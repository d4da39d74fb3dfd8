/-
  What the functions of the first layers come to: rounding, points, matrices.
-/
import Derived.Test.YtlgcjkolakcfiaaRows
import Derived.Test.YtlgcjkolakcfiaaFacts
import Derived.Test.YtlgcjkolakcfiaaDefs
set_option linter.unusedVariables false
set_option linter.unusedSimpArgs false
namespace Go.Proofs.Ytlgcjkolakcfiaa.fix
open Go.RowKit Go.Sx

theorem noG : Gok Try.prog [] := by intro s h; cases h
theorem one {s : Sum} (h : s.ok Try.prog) : Gok Try.prog [s] := by
  intro x hx
  simp only [List.mem_singleton] at hx
  subst hx
  exact h
theorem more {s : Sum} {G : List Sum} (h : s.ok Try.prog) (hG : Gok Try.prog G) : Gok Try.prog (s :: G) := by
  intro x hx
  rcases List.mem_cons.1 hx with rfl | hx
  · exact h
  · exact hG x hx

theorem er_iv (b : Bool) {e : Int} (h : 0 ≤ e) : ivHas (iv 0 e) (er b e) := by
  unfold er
  split <;> exact ⟨by first | exact h | exact Int.le_refl _, by first | exact h | exact Int.le_refl _⟩
theorem b01_iv (b : Bool) : ivHas (iv 0 1) (b01 b) := by
  unfold b01
  split <;> exact ⟨by decide, by decide⟩
theorem er_zero (b : Bool) {e : Int} (h : e ≠ 0) : er b e = 0 ↔ b = true := by
  unfold er
  cases b <;> simp [h]
theorem b01_zero (b : Bool) : b01 b = 0 ↔ b = false := by
  cases b <;> simp [b01]
theorem b01_one (b : Bool) : b01 b = 1 ↔ b = true := by
  cases b <;> simp [b01]
theorem er_true (e : Int) : er true e = 0 := rfl
theorem er_false (e : Int) : er false e = e := rfl
theorem iv_def {a b n : Int} : ivHas (iv a b) n ↔ a ≤ n ∧ n ≤ b := Iff.rfl
theorem hull0_div {v : Option Iv} {a b : Int} (hb : 1 ≤ b) (h : ivHas v a) : ivHas (hull0 v) (a / b) := by
  cases v with
  | none => trivial
  | some v =>
    obtain ⟨h1, h2⟩ := h
    have := div_range (a := a) (b := b) (l := min v.lo 0) (h := max v.hi 0) (by omega) (by omega) (by omega) (by omega) (by omega)
    exact this
theorem hull0_up {v : Option Iv} {a b : Int} (hb : 1 ≤ b) (h : ivHas v a) : ivHas (hull0 v) (up a b) := by
  cases v with
  | none => trivial
  | some v =>
    obtain ⟨h1, h2⟩ := h
    have := up_range (a := a) (b := b) (l := min v.lo 0) (h := max v.hi 0) (by omega) (by omega) (by omega) (by omega) (by omega)
    exact this
theorem divIv_has {v : Option Iv} {a k : Int} (hk : 0 < k) (h : ivHas v a) : ivHas (divIv k v) (a / k) := by
  cases v with
  | none => trivial
  | some v => exact ⟨div_mono hk h.1, div_mono hk h.2⟩
theorem dotIv_has {vs : List (Option Iv)} {xs : List Int} (h : vsOK vs xs) (o p : Nat) : ivHas (dotIv vs o p) (dot xs o p) :=
  addIv_has (addIv_has (mulIv_has (h.2 o) (h.2 p)) (mulIv_has (h.2 (o + 1)) (h.2 (p + 1)))) (mulIv_has (h.2 (o + 2)) (h.2 (p + 2)))

theorem dec_true {p : Prop} [Decidable p] : decide p = true ↔ p := decide_eq_true_iff
theorem len2 {xs : List Int} (h : xs.length = 2) : ∃ a0 a1, xs = [a0, a1] := by
  match xs, h with
  | [a0, a1], _ => exact ⟨a0, a1, rfl⟩
theorem len3 {xs : List Int} (h : xs.length = 3) : ∃ a0 a1 a2, xs = [a0, a1, a2] := by
  match xs, h with
  | [a0, a1, a2], _ => exact ⟨a0, a1, a2, rfl⟩
theorem len4 {xs : List Int} (h : xs.length = 4) : ∃ a0 a1 a2 a3, xs = [a0, a1, a2, a3] := by
  match xs, h with
  | [a0, a1, a2, a3], _ => exact ⟨a0, a1, a2, a3, rfl⟩
theorem len5 {xs : List Int} (h : xs.length = 5) : ∃ a0 a1 a2 a3 a4, xs = [a0, a1, a2, a3, a4] := by
  match xs, h with
  | [a0, a1, a2, a3, a4], _ => exact ⟨a0, a1, a2, a3, a4, rfl⟩
theorem len6 {xs : List Int} (h : xs.length = 6) : ∃ a0 a1 a2 a3 a4 a5, xs = [a0, a1, a2, a3, a4, a5] := by
  match xs, h with
  | [a0, a1, a2, a3, a4, a5], _ => exact ⟨a0, a1, a2, a3, a4, a5, rfl⟩
theorem len9 {xs : List Int} (h : xs.length = 9) : ∃ a0 a1 a2 a3 a4 a5 a6 a7 a8, xs = [a0, a1, a2, a3, a4, a5, a6, a7, a8] := by
  match xs, h with
  | [a0, a1, a2, a3, a4, a5, a6, a7, a8], _ => exact ⟨a0, a1, a2, a3, a4, a5, a6, a7, a8, rfl⟩
theorem len10 {xs : List Int} (h : xs.length = 10) : ∃ a0 a1 a2 a3 a4 a5 a6 a7 a8 a9, xs = [a0, a1, a2, a3, a4, a5, a6, a7, a8, a9] := by
  match xs, h with
  | [a0, a1, a2, a3, a4, a5, a6, a7, a8, a9], _ => exact ⟨a0, a1, a2, a3, a4, a5, a6, a7, a8, a9, rfl⟩
theorem len12 {xs : List Int} (h : xs.length = 12) : ∃ a0 a1 a2 a3 a4 a5 a6 a7 a8 a9 a10 a11, xs = [a0, a1, a2, a3, a4, a5, a6, a7, a8, a9, a10, a11] := by
  match xs, h with
  | [a0, a1, a2, a3, a4, a5, a6, a7, a8, a9, a10, a11], _ => exact ⟨a0, a1, a2, a3, a4, a5, a6, a7, a8, a9, a10, a11, rfl⟩
theorem len15 {xs : List Int} (h : xs.length = 15) : ∃ a0 a1 a2 a3 a4 a5 a6 a7 a8 a9 a10 a11 a12 a13 a14, xs = [a0, a1, a2, a3, a4, a5, a6, a7, a8, a9, a10, a11, a12, a13, a14] := by
  match xs, h with
  | [a0, a1, a2, a3, a4, a5, a6, a7, a8, a9, a10, a11, a12, a13, a14], _ => exact ⟨a0, a1, a2, a3, a4, a5, a6, a7, a8, a9, a10, a11, a12, a13, a14, rfl⟩
theorem len16 {xs : List Int} (h : xs.length = 16) : ∃ a0 a1 a2 a3 a4 a5 a6 a7 a8 a9 a10 a11 a12 a13 a14 a15, xs = [a0, a1, a2, a3, a4, a5, a6, a7, a8, a9, a10, a11, a12, a13, a14, a15] := by
  match xs, h with
  | [a0, a1, a2, a3, a4, a5, a6, a7, a8, a9, a10, a11, a12, a13, a14, a15], _ => exact ⟨a0, a1, a2, a3, a4, a5, a6, a7, a8, a9, a10, a11, a12, a13, a14, a15, rfl⟩
theorem len17 {xs : List Int} (h : xs.length = 17) : ∃ a0 a1 a2 a3 a4 a5 a6 a7 a8 a9 a10 a11 a12 a13 a14 a15 a16, xs = [a0, a1, a2, a3, a4, a5, a6, a7, a8, a9, a10, a11, a12, a13, a14, a15, a16] := by
  match xs, h with
  | [a0, a1, a2, a3, a4, a5, a6, a7, a8, a9, a10, a11, a12, a13, a14, a15, a16], _ => exact ⟨a0, a1, a2, a3, a4, a5, a6, a7, a8, a9, a10, a11, a12, a13, a14, a15, a16, rfl⟩
theorem len19 {xs : List Int} (h : xs.length = 19) : ∃ a0 a1 a2 a3 a4 a5 a6 a7 a8 a9 a10 a11 a12 a13 a14 a15 a16 a17 a18, xs = [a0, a1, a2, a3, a4, a5, a6, a7, a8, a9, a10, a11, a12, a13, a14, a15, a16, a17, a18] := by
  match xs, h with
  | [a0, a1, a2, a3, a4, a5, a6, a7, a8, a9, a10, a11, a12, a13, a14, a15, a16, a17, a18], _ => exact ⟨a0, a1, a2, a3, a4, a5, a6, a7, a8, a9, a10, a11, a12, a13, a14, a15, a16, a17, a18, rfl⟩
theorem len20 {xs : List Int} (h : xs.length = 20) : ∃ a0 a1 a2 a3 a4 a5 a6 a7 a8 a9 a10 a11 a12 a13 a14 a15 a16 a17 a18 a19, xs = [a0, a1, a2, a3, a4, a5, a6, a7, a8, a9, a10, a11, a12, a13, a14, a15, a16, a17, a18, a19] := by
  match xs, h with
  | [a0, a1, a2, a3, a4, a5, a6, a7, a8, a9, a10, a11, a12, a13, a14, a15, a16, a17, a18, a19], _ => exact ⟨a0, a1, a2, a3, a4, a5, a6, a7, a8, a9, a10, a11, a12, a13, a14, a15, a16, a17, a18, a19, rfl⟩
theorem len21 {xs : List Int} (h : xs.length = 21) : ∃ a0 a1 a2 a3 a4 a5 a6 a7 a8 a9 a10 a11 a12 a13 a14 a15 a16 a17 a18 a19 a20, xs = [a0, a1, a2, a3, a4, a5, a6, a7, a8, a9, a10, a11, a12, a13, a14, a15, a16, a17, a18, a19, a20] := by
  match xs, h with
  | [a0, a1, a2, a3, a4, a5, a6, a7, a8, a9, a10, a11, a12, a13, a14, a15, a16, a17, a18, a19, a20], _ => exact ⟨a0, a1, a2, a3, a4, a5, a6, a7, a8, a9, a10, a11, a12, a13, a14, a15, a16, a17, a18, a19, a20, rfl⟩
theorem len24 {xs : List Int} (h : xs.length = 24) : ∃ a0 a1 a2 a3 a4 a5 a6 a7 a8 a9 a10 a11 a12 a13 a14 a15 a16 a17 a18 a19 a20 a21 a22 a23, xs = [a0, a1, a2, a3, a4, a5, a6, a7, a8, a9, a10, a11, a12, a13, a14, a15, a16, a17, a18, a19, a20, a21, a22, a23] := by
  match xs, h with
  | [a0, a1, a2, a3, a4, a5, a6, a7, a8, a9, a10, a11, a12, a13, a14, a15, a16, a17, a18, a19, a20, a21, a22, a23], _ => exact ⟨a0, a1, a2, a3, a4, a5, a6, a7, a8, a9, a10, a11, a12, a13, a14, a15, a16, a17, a18, a19, a20, a21, a22, a23, rfl⟩
theorem len18 {xs : List Int} (h : xs.length = 18) : ∃ a0 a1 a2 a3 a4 a5 a6 a7 a8 a9 a10 a11 a12 a13 a14 a15 a16 a17, xs = [a0, a1, a2, a3, a4, a5, a6, a7, a8, a9, a10, a11, a12, a13, a14, a15, a16, a17] := by
  match xs, h with
  | [a0, a1, a2, a3, a4, a5, a6, a7, a8, a9, a10, a11, a12, a13, a14, a15, a16, a17], _ => exact ⟨a0, a1, a2, a3, a4, a5, a6, a7, a8, a9, a10, a11, a12, a13, a14, a15, a16, a17, rfl⟩

/-! ### fixed -/
def G_floor : List Sum := []
def I_floor : List Inf := []
def t_floor : TX := (.ite (.lt (.rem (.v 0) (.v 1)) (.c 0)) (.ret [(.wr .i64 (.sub (.quo (.v 0) (.v 1)) (.c 1))), (.c 0)])
(.ret [(.quo (.v 0) (.v 1)), (.c 0)]))
theorem tree_floor : merge (opt I_floor pin_floor (symFn Try.prog G_floor 1000 36 [I1, I1] [I1, I1])) = t_floor := by kernel_rfl
theorem g_floor : Gok Try.prog G_floor := noG
theorem o_floor : outsOK G_floor I_floor := outsOK_nil
def G_ceil : List Sum := []
def I_ceil : List Inf := []
def t_ceil : TX := (.ite (.lt (.c 0) (.rem (.v 0) (.v 1))) (.ret [(.wr .i64 (.add (.quo (.v 0) (.v 1)) (.c 1))), (.c 0)])
(.ret [(.quo (.v 0) (.v 1)), (.c 0)]))
theorem tree_ceil : merge (opt I_ceil pin_ceil (symFn Try.prog G_ceil 1000 37 [I1, I1] [I1, I1])) = t_ceil := by kernel_rfl
theorem g_ceil : Gok Try.prog G_ceil := noG
theorem o_ceil : outsOK G_ceil I_ceil := outsOK_nil
def G_down : List Sum := []
def I_down : List Inf := []
def t_down : TX := (.ite (.lt (.v 0) (.wr .i64 (.mul (.quo (.v 0) (.v 1)) (.v 1)))) (.ret [(.wr .i64 (.sub (.quo (.v 0) (.v 1)) (.c 1)))])
(.ret [(.quo (.v 0) (.v 1))]))
theorem tree_down : merge (opt I_down pin_down (symFn Try.prog G_down 1000 119 [I1, I1] [I1])) = t_down := by kernel_rfl
theorem g_down : Gok Try.prog G_down := noG
theorem o_down : outsOK G_down I_down := outsOK_nil
def G_upw : List Sum := []
def I_upw : List Inf := []
def t_upw : TX := (.ite (.lt (.wr .i64 (.mul (.quo (.v 0) (.v 1)) (.v 1))) (.v 0)) (.ret [(.wr .i64 (.add (.quo (.v 0) (.v 1)) (.c 1)))])
(.ret [(.quo (.v 0) (.v 1))]))
theorem tree_upw : merge (opt I_upw pin_upw (symFn Try.prog G_upw 1000 140 [I1, I1] [I1])) = t_upw := by kernel_rfl
theorem g_upw : Gok Try.prog G_upw := noG
theorem o_upw : outsOK G_upw I_upw := outsOK_nil
theorem in2 {a b : Int} (h : vsOK [zz, pos] [a, b]) : In64 a ∧ 1 ≤ b ∧ b ≤ 9223372036854775807 := ⟨h.2 0, h.2 1⟩
theorem ok_floor : s_floor.ok Try.prog := Sum.ok_opt facts.mixed g_floor o_floor tree_floor rfl (fun _ => rfl) (by
  intro xs hx hp
  obtain ⟨a, b, rfl⟩ := len2 hx
  obtain ⟨ha, hb, hb'⟩ := in2 hp
  simp only [t_floor, TX.sat, XB.prop, X.den, List.map_cons, List.map_nil, List.getElem?_cons_zero, List.getElem?_cons_succ, List.cons_append, List.nil_append, List.getD_cons_zero, List.getD_cons_succ, mkS, mkP, and_true, true_and, Int.not_lt, Int.not_le, not_or, not_and, Classical.not_not, ne_eq, not_true_eq_false, not_false_eq_true, sem_floor]
  have hd := div_range (a := a) (b := b) (l := -9223372036854775808) (h := 9223372036854775807) (by omega) (by omega) (by omega) ha.1 ha.2
  refine ⟨fun h => ?_, fun h => ?_⟩
  · rw [floor_neg (by omega) h, wrap64 hd.1 hd.2]
  · rw [floor_pos (by omega) h])
theorem inf_floor : InfOK s_floor i_floor := ⟨fun _ h => h, fun vs xs h hp => vsOK_cons (hull0_div (hp.2 1).1 (h.2 0)) (vsOK_cons ⟨Int.le_refl _, Int.le_refl _⟩ vsOK_nil)⟩
theorem ok_ceil : s_ceil.ok Try.prog := Sum.ok_opt facts.mixed g_ceil o_ceil tree_ceil rfl (fun _ => rfl) (by
  intro xs hx hp
  obtain ⟨a, b, rfl⟩ := len2 hx
  obtain ⟨ha, hb, hb'⟩ := in2 hp
  simp only [t_ceil, TX.sat, XB.prop, X.den, List.map_cons, List.map_nil, List.getElem?_cons_zero, List.getElem?_cons_succ, List.cons_append, List.nil_append, List.getD_cons_zero, List.getD_cons_succ, mkS, mkP, and_true, true_and, Int.not_lt, Int.not_le, not_or, not_and, Classical.not_not, ne_eq, not_true_eq_false, not_false_eq_true, sem_ceil]
  have hd := up_range (a := a) (b := b) (l := -9223372036854775808) (h := 9223372036854775807) (by omega) (by omega) (by omega) ha.1 ha.2
  refine ⟨fun h => ?_, fun h => ?_⟩
  · rw [up_pos (by omega) h, wrap64 hd.1 hd.2]
  · rw [up_neg (by omega) h])
theorem inf_ceil : InfOK s_ceil i_ceil := ⟨fun _ h => h, fun vs xs h hp => vsOK_cons (hull0_up (hp.2 1).1 (h.2 0)) (vsOK_cons ⟨Int.le_refl _, Int.le_refl _⟩ vsOK_nil)⟩
theorem quo_mul {a b : Int} (ha : In64 a) (hb : 0 < b) : In64 (a.tdiv b * b) := by
  have h1 := Int.mul_tdiv_add_tmod a b
  rw [Int.mul_comm] at h1
  obtain ⟨h6, h7⟩ := ha
  unfold In64
  rcases Int.lt_or_le a 0 with h | h
  · have h2 : 0 ≤ (-a).tdiv b * b := Int.mul_nonneg (Int.tdiv_nonneg (by omega) (by omega)) (by omega)
    rw [Int.neg_tdiv, Int.neg_mul] at h2
    have h3 := Int.tmod_nonneg (a := -a) b (by omega)
    rw [Int.neg_tmod] at h3
    omega
  · have h2 : 0 ≤ a.tdiv b * b := Int.mul_nonneg (Int.tdiv_nonneg h (by omega)) (by omega)
    have h3 := Int.tmod_nonneg (a := a) b h
    omega
theorem ok_down : s_down.ok Try.prog := Sum.ok_opt facts.mixed g_down o_down tree_down rfl (fun _ => rfl) (by
  intro xs hx hp
  obtain ⟨a, b, rfl⟩ := len2 hx
  obtain ⟨ha, hb, hb'⟩ := in2 hp
  have hq := quo_mul ha (show 0 < b by omega)
  have hw := wrap64 hq.1 hq.2
  have h1 := Int.mul_tdiv_add_tmod a b
  rw [Int.mul_comm] at h1
  simp only [t_down, TX.sat, XB.prop, X.den, List.map_cons, List.map_nil, List.getElem?_cons_zero, List.getElem?_cons_succ, List.cons_append, List.nil_append, List.getD_cons_zero, List.getD_cons_succ, mkS, mkP, and_true, true_and, Int.not_lt, Int.not_le, not_or, not_and, Classical.not_not, ne_eq, not_true_eq_false, not_false_eq_true, sem_down, hw]
  have hd := div_range (a := a) (b := b) (l := -9223372036854775808) (h := 9223372036854775807) (by omega) (by omega) (by omega) ha.1 ha.2
  refine ⟨fun h => ?_, fun h => ?_⟩
  · rw [floor_neg (by omega) (by omega), wrap64 hd.1 hd.2]
  · rw [floor_pos (by omega) (by omega)])
theorem inf_down : InfOK s_down i_down := ⟨fun _ h => h, fun vs xs h hp => vsOK_cons (hull0_div (hp.2 1).1 (h.2 0)) vsOK_nil⟩
theorem ok_upw : s_upw.ok Try.prog := Sum.ok_opt facts.mixed g_upw o_upw tree_upw rfl (fun _ => rfl) (by
  intro xs hx hp
  obtain ⟨a, b, rfl⟩ := len2 hx
  obtain ⟨ha, hb, hb'⟩ := in2 hp
  have hq := quo_mul ha (show 0 < b by omega)
  have hw := wrap64 hq.1 hq.2
  have h1 := Int.mul_tdiv_add_tmod a b
  rw [Int.mul_comm] at h1
  simp only [t_upw, TX.sat, XB.prop, X.den, List.map_cons, List.map_nil, List.getElem?_cons_zero, List.getElem?_cons_succ, List.cons_append, List.nil_append, List.getD_cons_zero, List.getD_cons_succ, mkS, mkP, and_true, true_and, Int.not_lt, Int.not_le, not_or, not_and, Classical.not_not, ne_eq, not_true_eq_false, not_false_eq_true, sem_upw, hw]
  have hd := up_range (a := a) (b := b) (l := -9223372036854775808) (h := 9223372036854775807) (by omega) (by omega) (by omega) ha.1 ha.2
  refine ⟨fun h => ?_, fun h => ?_⟩
  · rw [up_pos (by omega) (by omega), wrap64 hd.1 hd.2]
  · rw [up_neg (by omega) (by omega)])
theorem inf_upw : InfOK s_upw i_upw := ⟨fun _ h => h, fun vs xs h hp => vsOK_cons (hull0_up (hp.2 1).1 (h.2 0)) vsOK_nil⟩

/-! ### vec -/
theorem all3_true {m : Int} {x : List Int} {o : Nat} : all3 m x o = true ↔ ((-m ≤ x.getD o 0 ∧ x.getD o 0 ≤ m) ∧ (-m ≤ x.getD (o + 1) 0 ∧ x.getD (o + 1) 0 ≤ m) ∧ (-m ≤ x.getD (o + 2) 0 ∧ x.getD (o + 2) 0 ≤ m)) := decide_eq_true_iff
theorem if_er {P : Prop} [Decidable P] {b : Bool} {e x : Int} (h1 : P → b = false → x = e) : True := trivial
def G_vcheck : List Sum := []
def I_vcheck : List Inf := []
def t_vcheck : TX := (.ite (.or (.or (.lt (.v 0) (.c (-4096))) (.lt (.c 4096) (.v 0))) (.or (.or (.lt (.v 1) (.c (-4096))) (.lt (.c 4096) (.v 1))) (.or (.lt (.v 2) (.c (-4096))) (.lt (.c 4096) (.v 2))))) (.ret [(.c 20)])
(.ret [(.c 0)]))
theorem tree_vcheck : merge (opt I_vcheck pin_vcheck (symFn Try.prog G_vcheck 1000 76 [An 3] [I1])) = t_vcheck := by kernel_rfl
theorem g_vcheck : Gok Try.prog G_vcheck := noG
theorem o_vcheck : outsOK G_vcheck I_vcheck := outsOK_nil
def G_all : List Sum := []
def I_all : List Inf := []
def t_all : TX := (.ite (.or (.or (.lt (.v 0) (.sub (.c 0) (.v 3))) (.lt (.v 3) (.v 0))) (.or (.lt (.v 1) (.sub (.c 0) (.v 3))) (.lt (.v 3) (.v 1)))) (.ret [(.c 0)])
(.ite (.and (.le (.sub (.c 0) (.v 3)) (.v 2)) (.le (.v 2) (.v 3))) (.ret [(.c 1)])
(.ret [(.c 0)])))
theorem tree_all : merge (opt I_all pin_all (symFn Try.prog G_all 1000 77 [An 3, I1] [Bo])) = t_all := by kernel_rfl
theorem g_all : Gok Try.prog G_all := noG
theorem o_all : outsOK G_all I_all := outsOK_nil
def G_rows : List Sum := []
def I_rows : List Inf := []
def t_rows : TX := (.ite (.or (.or (.lt (.v 0) (.c (-1024))) (.lt (.c 1024) (.v 0))) (.or (.or (.lt (.v 1) (.c (-1024))) (.lt (.c 1024) (.v 1))) (.or (.or (.lt (.v 2) (.c (-1024))) (.lt (.c 1024) (.v 2))) (.or (.or (.lt (.v 3) (.c (-1024))) (.lt (.c 1024) (.v 3))) (.or (.or (.lt (.v 4) (.c (-1024))) (.lt (.c 1024) (.v 4))) (.or (.or (.lt (.v 5) (.c (-1024))) (.lt (.c 1024) (.v 5))) (.or (.or (.lt (.v 6) (.c (-1024))) (.lt (.c 1024) (.v 6))) (.or (.or (.lt (.v 7) (.c (-1024))) (.lt (.c 1024) (.v 7))) (.or (.lt (.v 8) (.c (-1024))) (.lt (.c 1024) (.v 8))))))))))) (.ret [(.c 0)])
(.ret [(.c 1)]))
theorem tree_rows : merge (opt I_rows pin_rows (symFn Try.prog G_rows 1000 126 [An 9] [Bo])) = t_rows := by kernel_rfl
theorem g_rows : Gok Try.prog G_rows := noG
theorem o_rows : outsOK G_rows I_rows := outsOK_nil
def G_rrows : List Sum := []
def I_rrows : List Inf := []
def t_rrows : TX := (.ite (.or (.or (.lt (.v 0) (.sub (.c 0) (.v 9))) (.lt (.v 9) (.v 0))) (.or (.or (.lt (.v 1) (.sub (.c 0) (.v 9))) (.lt (.v 9) (.v 1))) (.or (.or (.lt (.v 2) (.sub (.c 0) (.v 9))) (.lt (.v 9) (.v 2))) (.or (.or (.lt (.v 3) (.sub (.c 0) (.v 9))) (.lt (.v 9) (.v 3))) (.or (.or (.lt (.v 4) (.sub (.c 0) (.v 9))) (.lt (.v 9) (.v 4))) (.or (.or (.lt (.v 5) (.sub (.c 0) (.v 9))) (.lt (.v 9) (.v 5))) (.or (.or (.lt (.v 6) (.sub (.c 0) (.v 9))) (.lt (.v 9) (.v 6))) (.or (.or (.lt (.v 7) (.sub (.c 0) (.v 9))) (.lt (.v 9) (.v 7))) (.or (.lt (.v 8) (.sub (.c 0) (.v 9))) (.lt (.v 9) (.v 8))))))))))) (.ret [(.c 0)])
(.ret [(.c 1)]))
theorem tree_rrows : merge (opt I_rrows pin_rrows (symFn Try.prog G_rrows 1000 130 [An 9, I1] [Bo])) = t_rrows := by kernel_rfl
theorem g_rrows : Gok Try.prog G_rrows := noG
theorem o_rrows : outsOK G_rrows I_rrows := outsOK_nil
theorem ok_vcheck : s_vcheck.ok Try.prog := Sum.ok_opt facts.mixed g_vcheck o_vcheck tree_vcheck rfl (fun _ => rfl) (by
  intro xs hx hp
  obtain ⟨a0, a1, a2, rfl⟩ := len3 hx
  simp only [t_vcheck, TX.sat, XB.prop, X.den, List.map_cons, List.map_nil, List.getElem?_cons_zero, List.getElem?_cons_succ, List.cons_append, List.nil_append, List.getD_cons_zero, List.getD_cons_succ, mkS, mkP, and_true, true_and, Int.not_lt, Int.not_le, not_or, not_and, Classical.not_not, ne_eq, not_true_eq_false, not_false_eq_true, sem_vcheck, er, all3_true]
  repeat' first | refine And.intro ?_ ?_ | intro _
  all_goals first | rfl | (split <;> first | rfl | omega))
theorem inf_vcheck : InfOK s_vcheck i_vcheck := ⟨fun _ h => h, fun vs xs h hp => vsOK_cons (er_iv _ (by omega)) vsOK_nil⟩
theorem ok_all : s_all.ok Try.prog := Sum.ok_opt facts.mixed g_all o_all tree_all rfl (fun _ => rfl) (by
  intro xs hx hp
  obtain ⟨a0, a1, a2, a3, rfl⟩ := len4 hx
  simp only [t_all, TX.sat, XB.prop, X.den, List.map_cons, List.map_nil, List.getElem?_cons_zero, List.getElem?_cons_succ, List.cons_append, List.nil_append, List.getD_cons_zero, List.getD_cons_succ, mkS, mkP, and_true, true_and, Int.not_lt, Int.not_le, not_or, not_and, Classical.not_not, ne_eq, not_true_eq_false, not_false_eq_true, sem_all, b01, all3_true]
  repeat' first | refine And.intro ?_ ?_ | intro _
  all_goals first | rfl | (split <;> first | rfl | omega))
theorem inf_all : InfOK s_all i_all := ⟨fun _ h => h, fun vs xs h hp => vsOK_cons (b01_iv _) vsOK_nil⟩
theorem ok_rows : s_rows.ok Try.prog := Sum.ok_opt facts.mixed g_rows o_rows tree_rows rfl (fun _ => rfl) (by
  intro xs hx hp
  obtain ⟨a0, a1, a2, a3, a4, a5, a6, a7, a8, rfl⟩ := len9 hx
  simp only [t_rows, TX.sat, XB.prop, X.den, List.map_cons, List.map_nil, List.getElem?_cons_zero, List.getElem?_cons_succ, List.cons_append, List.nil_append, List.getD_cons_zero, List.getD_cons_succ, mkS, mkP, and_true, true_and, Int.not_lt, Int.not_le, not_or, not_and, Classical.not_not, ne_eq, not_true_eq_false, not_false_eq_true, sem_rows, b01, rows9, Bool.and_eq_true, all3_true]
  repeat' first | refine And.intro ?_ ?_ | intro _
  all_goals first | rfl | (split <;> first | rfl | omega))
theorem inf_rows : InfOK s_rows i_rows := ⟨fun _ h => h, fun vs xs h hp => vsOK_cons (b01_iv _) vsOK_nil⟩
theorem ok_rrows : s_rrows.ok Try.prog := Sum.ok_opt facts.mixed g_rrows o_rrows tree_rrows rfl (fun _ => rfl) (by
  intro xs hx hp
  obtain ⟨a0, a1, a2, a3, a4, a5, a6, a7, a8, a9, rfl⟩ := len10 hx
  simp only [t_rrows, TX.sat, XB.prop, X.den, List.map_cons, List.map_nil, List.getElem?_cons_zero, List.getElem?_cons_succ, List.cons_append, List.nil_append, List.getD_cons_zero, List.getD_cons_succ, mkS, mkP, and_true, true_and, Int.not_lt, Int.not_le, not_or, not_and, Classical.not_not, ne_eq, not_true_eq_false, not_false_eq_true, sem_rrows, b01, rows9, Bool.and_eq_true, all3_true]
  repeat' first | refine And.intro ?_ ?_ | intro _
  all_goals first | rfl | (split <;> first | rfl | omega))
theorem inf_rrows : InfOK s_rrows i_rrows := ⟨fun _ h => h, fun vs xs h hp => vsOK_cons (b01_iv _) vsOK_nil⟩

end Go.Proofs.Ytlgcjkolakcfiaa.fix
