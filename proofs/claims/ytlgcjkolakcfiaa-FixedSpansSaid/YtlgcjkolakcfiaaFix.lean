/-
  What the functions that round down and up, and those on spans, come to.
-/
import Derived.Test.YtlgcjkolakcfiaaRows
import Derived.Test.YtlgcjkolakcfiaaFacts
import Derived.Test.YtlgcjkolakcfiaaSxV
set_option linter.unusedVariables false
set_option linter.unusedSimpArgs false
namespace Go.Proofs.Ytlgcjkolakcfiaa.fix
open Go.RowKit Go.Sx

theorem noG : Gok Try.prog [] := by intro s h; cases h
theorem one {s : Sum} (h : s.ok Try.prog) : Gok Try.prog [s] := by
  intro x hx
  simp only [List.mem_singleton] at hx
  subst hx
  exact h
theorem more {s : Sum} {G : List Sum} (h : s.ok Try.prog) (hG : Gok Try.prog G) : Gok Try.prog (s :: G) := by
  intro x hx
  rcases List.mem_cons.1 hx with rfl | hx
  · exact h
  · exact hG x hx

/-! ### rounding -/
def flV (a b : Int) : Int := if b < 1 then 0 else a / b
def upV (a b : Int) : Int := if b < 1 then 0 else up a b
def flE (b : Int) : Int := if b < 1 then 2 else 0

def sFloor : Sum := { fn := 36, ps := [I1, I1], rs := [I1, I1], sem := fun x => [flV (x.getD 0 0) (x.getD 1 0), flE (x.getD 1 0)], pre := allIn }
def sCeil : Sum := { fn := 37, ps := [I1, I1], rs := [I1, I1], sem := fun x => [upV (x.getD 0 0) (x.getD 1 0), flE (x.getD 1 0)], pre := allIn }

def tFloor : T := (.ite (.lt (.v 1) (.c 1)) (.ret [(.c 0), (.c 2)])
(.asrt (.not (.eq (.v 1) (.c 0))) (.asrt (.not (.eq (.v 1) (.c 0))) (.ite (.lt (.rem (.v 0) (.v 1)) (.c 0)) (.ret [(.sub .i64 (.quo .i64 (.v 0) (.v 1)) (.c 1)), (.c 0)])
(.ret [(.quo .i64 (.v 0) (.v 1)), (.c 0)])))))
def tCeil : T := (.ite (.lt (.v 1) (.c 1)) (.ret [(.c 0), (.c 2)])
(.asrt (.not (.eq (.v 1) (.c 0))) (.asrt (.not (.eq (.v 1) (.c 0))) (.ite (.lt (.c 0) (.rem (.v 0) (.v 1))) (.ret [(.add .i64 (.quo .i64 (.v 0) (.v 1)) (.c 1)), (.c 0)])
(.ret [(.quo .i64 (.v 0) (.v 1)), (.c 0)])))))
theorem floor_tree : symFn Try.prog [] 1000 36 [I1, I1] [I1, I1] = tFloor := by kernel_rfl
theorem ceil_tree : symFn Try.prog [] 1000 37 [I1, I1] [I1, I1] = tCeil := by kernel_rfl

theorem floor_ok : sFloor.ok Try.prog := by
  refine Sum.ok_of facts.mixed noG floor_tree rfl ?_ (fun _ _ _ => rfl)
  intro xs hx hp
  obtain ⟨a, t, rfl, h1⟩ := len_cons hx
  obtain ⟨b, t, rfl, h2⟩ := len_cons h1
  obtain rfl := len_nil h2
  obtain ⟨ha, hb, _⟩ := hp
  simp only [In64] at ha hb
  simp only [tFloor, sFloor, flV, flE, T.sat, B.den, E.den, List.map_cons, List.map_nil, List.getElem?_cons_zero, List.getElem?_cons_succ, List.cons_append, List.nil_append, List.getD_cons_zero, List.getD_cons_succ, decide_eq_true_eq, decide_eq_false_iff_not, beq_iff_eq, beq_eq_false_iff_ne, bne_iff_ne, ne_eq, bne_eq_false_iff_eq, Bool.not_eq_true', Bool.not_eq_false', Bool.not_eq_true, Bool.not_eq_false, Bool.and_eq_true, Bool.and_eq_false_imp, allIn, Int.not_lt, Int.not_le, and_true, true_and]
  refine ⟨fun h => by simp [h], fun h => ⟨by omega, by omega, fun h' => ?_, fun h' => ?_⟩⟩
  · have hd := div_range (a := a) (b := b) (l := -9223372036854775808) (h := 9223372036854775807) (by omega) (by omega) (by omega) ha.1 ha.2
    have he := floor_neg (by omega) h'
    have hm := tdiv_range (a := a) (b := b) (l := -9223372036854775808) (h := 9223372036854775807) (by omega) (by omega) (by omega) ha.1 ha.2
    rw [if_neg (by omega), if_neg (by omega), wrap64 hm.1 hm.2, he, wrap64 hd.1 hd.2]
  · have hd := div_range (a := a) (b := b) (l := -9223372036854775808) (h := 9223372036854775807) (by omega) (by omega) (by omega) ha.1 ha.2
    have he := floor_pos (by omega) h'
    rw [if_neg (by omega), if_neg (by omega), he, wrap64 hd.1 hd.2]

theorem ceil_ok : sCeil.ok Try.prog := by
  refine Sum.ok_of facts.mixed noG ceil_tree rfl ?_ (fun _ _ _ => rfl)
  intro xs hx hp
  obtain ⟨a, t, rfl, h1⟩ := len_cons hx
  obtain ⟨b, t, rfl, h2⟩ := len_cons h1
  obtain rfl := len_nil h2
  obtain ⟨ha, hb, _⟩ := hp
  simp only [In64] at ha hb
  simp only [tCeil, sCeil, upV, flE, T.sat, B.den, E.den, List.map_cons, List.map_nil, List.getElem?_cons_zero, List.getElem?_cons_succ, List.cons_append, List.nil_append, List.getD_cons_zero, List.getD_cons_succ, decide_eq_true_eq, decide_eq_false_iff_not, beq_iff_eq, beq_eq_false_iff_ne, bne_iff_ne, ne_eq, bne_eq_false_iff_eq, Bool.not_eq_true', Bool.not_eq_false', Bool.not_eq_true, Bool.not_eq_false, Bool.and_eq_true, Bool.and_eq_false_imp, allIn, Int.not_lt, Int.not_le, and_true, true_and]
  refine ⟨fun h => by simp [h], fun h => ⟨by omega, by omega, fun h' => ?_, fun h' => ?_⟩⟩
  · have hd := up_range (a := a) (b := b) (l := -9223372036854775808) (h := 9223372036854775807) (by omega) (by omega) (by omega) ha.1 ha.2
    have he := up_pos (by omega) h'
    have hl := up_lo (a := a) (b := b) (by omega)
    have hq := up_hi (a := a) (b := b) (by omega)
    have hm := tdiv_range (a := a) (b := b) (l := -9223372036854775808) (h := 9223372036854775807) (by omega) (by omega) (by omega) ha.1 ha.2
    rw [if_neg (by omega), if_neg (by omega), wrap64 hm.1 hm.2, he, wrap64 hd.1 hd.2]
  · have hd := up_range (a := a) (b := b) (l := -9223372036854775808) (h := 9223372036854775807) (by omega) (by omega) (by omega) ha.1 ha.2
    have he := up_neg (by omega) h'
    rw [if_neg (by omega), if_neg (by omega), he, wrap64 hd.1 hd.2]

/-- All that is asked of rounding. -/
theorem fl_facts (a b : Int) : (b < 1 ∧ flV a b = 0 ∧ upV a b = 0 ∧ flE b = 2) ∨ (1 ≤ b ∧ flE b = 0 ∧ flV a b = a / b ∧ upV a b = up a b) := by
  unfold flV upV flE
  rcases Int.lt_or_le b 1 with h | h
  · simp [h]
  · right
    refine ⟨h, ?_, ?_, ?_⟩ <;> rw [if_neg (by omega)]
theorem fl_in {a b : Int} (ha : In64 a) : In64 (flV a b) := by
  unfold flV
  split
  · exact ⟨by omega, by omega⟩
  · exact div_range (by omega) (by omega) (by omega) ha.1 ha.2

end Go.Proofs.Ytlgcjkolakcfiaa.fix
