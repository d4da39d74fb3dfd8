/-
  What the functions on spans come to, and the document's own.
-/
import Derived.Test.YtlgcjkolakcfiaaFix
set_option linter.unusedVariables false
set_option linter.unusedSimpArgs false
namespace Go.Proofs.Ytlgcjkolakcfiaa.fix
open Go.RowKit Go.Sx

/-- May a span be? -/
def mayS (l h : Int) : Bool := decide (-1099511627776 ≤ l ∧ h ≤ 1099511627776 ∧ l ≤ h)
def addV (a b c d : Int) : Int × Int × Int := if mayS a b = false then (0, 0, 8) else if mayS c d = false then (0, 0, 8) else if mayS (a + c) (b + d) = false then (0, 0, 20) else (a + c, b + d, 0)
def scaleV (a b k : Int) : Int × Int × Int := if mayS a b = false then (0, 0, 8) else if k < -1048576 then (0, 0, 2) else if 1048576 < k then (0, 0, 2) else
  if k < 0 then (if mayS (k * b) (k * a) = false then (0, 0, 20) else (k * b, k * a, 0)) else if mayS (k * a) (k * b) = false then (0, 0, 20) else (k * a, k * b, 0)
def divV (a b k : Int) : Int × Int × Int := if mayS a b = false then (0, 0, 8) else if k < 1 then (0, 0, 2) else if 1099511627776 < k then (0, 0, 2) else (a / k, b / k, 0)
def joinV (a b c d : Int) : Int × Int × Int := if mayS a b = false then (0, 0, 8) else if mayS c d = false then (0, 0, 8) else (if c < a then c else a, if d > b then d else b, 0)
def l3 (x : Int × Int × Int) : List Int := [x.1, x.2.1, x.2.2]

def sCheck : Sum := { fn := 61, ps := [An 2], rs := [I1], sem := fun x => [if mayS (x.getD 0 0) (x.getD 1 0) = false then 8 else 0], pre := fun _ => True }
def sMay : Sum := { fn := 62, ps := [An 2], rs := [Bo], sem := fun x => [if mayS (x.getD 0 0) (x.getD 1 0) = false then 0 else 1], pre := fun _ => True }
def sAdd (f : FuncId) : Sum := { fn := f, ps := [An 2, An 2], rs := [An 2, I1], sem := fun x => l3 (addV (x.getD 0 0) (x.getD 1 0) (x.getD 2 0) (x.getD 3 0)), pre := fun _ => True }
def sScale (f : FuncId) : Sum := { fn := f, ps := [An 2, I1], rs := [An 2, I1], sem := fun x => l3 (scaleV (x.getD 0 0) (x.getD 1 0) (x.getD 2 0)), pre := fun _ => True }
def sDiv (f : FuncId) : Sum := { fn := f, ps := [An 2, I1], rs := [An 2, I1], sem := fun x => l3 (divV (x.getD 0 0) (x.getD 1 0) (x.getD 2 0)), pre := allIn }
def sJoin (f : FuncId) : Sum := { fn := f, ps := [An 2, An 2], rs := [An 2, I1], sem := fun x => l3 (joinV (x.getD 0 0) (x.getD 1 0) (x.getD 2 0) (x.getD 3 0)), pre := fun _ => True }
def sHolds : Sum := { fn := 63, ps := [An 2, I1], rs := [Bo], sem := fun x => [if x.getD 0 0 ≤ x.getD 2 0 ∧ x.getD 2 0 ≤ x.getD 1 0 then 1 else 0], pre := fun _ => True }
def sDown : Sum := { fn := 119, ps := [I1, I1], rs := [I1], sem := fun x => [x.getD 0 0 / x.getD 1 0], pre := fun x => allIn x ∧ 1 ≤ x.getD 1 0 ∧ -4611686018427387904 ≤ x.getD 0 0 ∧ x.getD 0 0 ≤ 4611686018427387904 }

theorem may_true {l h : Int} : mayS l h = true ↔ -1099511627776 ≤ l ∧ h ≤ 1099511627776 ∧ l ≤ h := by simp [mayS]
theorem may_false {l h : Int} : mayS l h = false ↔ ¬ (-1099511627776 ≤ l ∧ h ≤ 1099511627776 ∧ l ≤ h) := by
  rw [← may_true]; simp

def tCheck : T := (.ite (.lt (.v 0) (.c (-1099511627776))) (.ret [(.c 8)])
(.ite (.lt (.c 1099511627776) (.v 1)) (.ret [(.c 8)])
(.ite (.lt (.v 1) (.v 0)) (.ret [(.c 8)])
(.ret [(.c 0)]))))
def rMay : T := (.ite (.le (.c (-1099511627776)) (.v 0)) (.ite (.le (.v 1) (.c 1099511627776)) (.ite (.le (.v 0) (.v 1)) (.ret [(.c 1)])
(.ret [(.c 0)]))
(.ret [(.c 0)]))
(.ret [(.c 0)]))
def tAdd : T := (.call 0 [(.v 0), (.v 1)] (.ite (.not (.eq (.v 4) (.c 0))) (.ite (.not (.eq (.v 4) (.c 0))) (.ret [(.c 0), (.c 0), (.v 4)])
(.call 0 [(.add .i64 (.v 0) (.v 2)), (.add .i64 (.v 1) (.v 3))] (.ite (.not (.eq (.v 5) (.c 0))) (.ret [(.c 0), (.c 0), (.c 20)])
(.ret [(.add .i64 (.v 0) (.v 2)), (.add .i64 (.v 1) (.v 3)), (.c 0)]))))
(.call 0 [(.v 2), (.v 3)] (.ite (.not (.eq (.v 5) (.c 0))) (.ret [(.c 0), (.c 0), (.v 5)])
(.call 0 [(.add .i64 (.v 0) (.v 2)), (.add .i64 (.v 1) (.v 3))] (.ite (.not (.eq (.v 6) (.c 0))) (.ret [(.c 0), (.c 0), (.c 20)])
(.ret [(.add .i64 (.v 0) (.v 2)), (.add .i64 (.v 1) (.v 3)), (.c 0)])))))))
def rAdd : T := (.call 0 [(.v 0), (.v 1)] (.ite (.not (.nz (.v 4))) (.ret [(.c 0), (.c 0), (.c 8)])
(.call 0 [(.v 2), (.v 3)] (.ite (.not (.nz (.v 5))) (.ret [(.c 0), (.c 0), (.c 8)])
(.call 0 [(.add .i64 (.v 0) (.v 2)), (.add .i64 (.v 1) (.v 3))] (.ite (.not (.nz (.v 6))) (.ret [(.c 0), (.c 0), (.c 20)])
(.ret [(.add .i64 (.v 0) (.v 2)), (.add .i64 (.v 1) (.v 3)), (.c 0)])))))))
def tScale : T := (.call 0 [(.v 0), (.v 1)] (.ite (.not (.eq (.v 3) (.c 0))) (.ret [(.c 0), (.c 0), (.v 3)])
(.ite (.lt (.v 2) (.c (-1048576))) (.ret [(.c 0), (.c 0), (.c 2)])
(.ite (.lt (.c 1048576) (.v 2)) (.ret [(.c 0), (.c 0), (.c 2)])
(.ite (.lt (.v 2) (.c 0)) (.call 0 [(.mul .i64 (.v 2) (.v 1)), (.mul .i64 (.v 2) (.v 0))] (.ite (.not (.eq (.v 4) (.c 0))) (.ret [(.c 0), (.c 0), (.c 20)])
(.ret [(.mul .i64 (.v 2) (.v 1)), (.mul .i64 (.v 2) (.v 0)), (.c 0)])))
(.call 0 [(.mul .i64 (.v 2) (.v 0)), (.mul .i64 (.v 2) (.v 1))] (.ite (.not (.eq (.v 4) (.c 0))) (.ret [(.c 0), (.c 0), (.c 20)])
(.ret [(.mul .i64 (.v 2) (.v 0)), (.mul .i64 (.v 2) (.v 1)), (.c 0)]))))))))
def rScale : T := (.call 0 [(.v 0), (.v 1)] (.ite (.not (.nz (.v 3))) (.ret [(.c 0), (.c 0), (.c 8)])
(.ite (.lt (.v 2) (.c (-1048576))) (.ret [(.c 0), (.c 0), (.c 2)])
(.ite (.lt (.c 1048576) (.v 2)) (.ret [(.c 0), (.c 0), (.c 2)])
(.call 0 [(.mn (.mul .i64 (.v 2) (.v 0)) (.mul .i64 (.v 2) (.v 1))), (.mx (.mul .i64 (.v 2) (.v 0)) (.mul .i64 (.v 2) (.v 1)))] (.ite (.not (.nz (.v 4))) (.ret [(.c 0), (.c 0), (.c 20)])
(.ret [(.mn (.mul .i64 (.v 2) (.v 0)) (.mul .i64 (.v 2) (.v 1))), (.mx (.mul .i64 (.v 2) (.v 0)) (.mul .i64 (.v 2) (.v 1))), (.c 0)])))))))
def tDiv : T := (.call 1 [(.v 0), (.v 1)] (.ite (.not (.eq (.v 3) (.c 0))) (.ret [(.c 0), (.c 0), (.v 3)])
(.ite (.lt (.v 2) (.c 1)) (.ret [(.c 0), (.c 0), (.c 2)])
(.ite (.lt (.c 1099511627776) (.v 2)) (.ret [(.c 0), (.c 0), (.c 2)])
(.call 0 [(.v 0), (.v 2)] (.call 0 [(.v 1), (.v 2)] (.ret [(.v 4), (.v 6), (.c 0)])))))))
def rDiv : T := (.call 1 [(.v 0), (.v 1)] (.ite (.not (.nz (.v 3))) (.ret [(.c 0), (.c 0), (.c 8)])
(.ite (.lt (.v 2) (.c 1)) (.ret [(.c 0), (.c 0), (.c 2)])
(.ite (.lt (.c 1099511627776) (.v 2)) (.ret [(.c 0), (.c 0), (.c 2)])
(.call 0 [(.v 0), (.v 2)] (.call 0 [(.v 1), (.v 2)] (.ret [(.v 4), (.v 5), (.c 0)])))))))
def tJoin : T := (.call 0 [(.v 0), (.v 1)] (.ite (.not (.eq (.v 4) (.c 0))) (.ite (.not (.eq (.v 4) (.c 0))) (.ret [(.c 0), (.c 0), (.v 4)])
(.ret [(.mn (.v 0) (.v 2)), (.mx (.v 1) (.v 3)), (.c 0)]))
(.call 0 [(.v 2), (.v 3)] (.ite (.not (.eq (.v 5) (.c 0))) (.ret [(.c 0), (.c 0), (.v 5)])
(.ret [(.mn (.v 0) (.v 2)), (.mx (.v 1) (.v 3)), (.c 0)])))))
def rJoin : T := (.call 0 [(.v 0), (.v 1)] (.ite (.not (.nz (.v 4))) (.ret [(.c 0), (.c 0), (.c 8)])
(.call 0 [(.v 2), (.v 3)] (.ite (.not (.nz (.v 5))) (.ret [(.c 0), (.c 0), (.c 8)])
(.ret [(.mn (.v 0) (.v 2)), (.mx (.v 1) (.v 3)), (.c 0)])))))
def tHolds : T := (.ite (.le (.v 0) (.v 2)) (.ite (.le (.v 2) (.v 1)) (.ret [(.c 1)])
(.ret [(.c 0)]))
(.ret [(.c 0)]))
def rDown : T := (.asrt (.not (.eq (.v 1) (.c 0))) (.ite (.lt (.v 0) (.mul .i64 (.quo .i64 (.v 0) (.v 1)) (.v 1))) (.ret [(.sub .i64 (.quo .i64 (.v 0) (.v 1)) (.c 1))])
(.ret [(.quo .i64 (.v 0) (.v 1))])))
theorem check_tree : symFn Try.prog [] 1000 61 [An 2] [I1] = tCheck := by kernel_rfl
theorem may_tree : symFn Try.prog [] 1000 62 [An 2] [Bo] = rMay := by kernel_rfl
theorem add_tree : symFn Try.prog [sCheck] 1000 53 [An 2, An 2] [An 2, I1] = tAdd := by kernel_rfl
theorem radd_tree : symFn Try.prog [sMay] 1000 54 [An 2, An 2] [An 2, I1] = rAdd := by kernel_rfl
theorem scale_tree : symFn Try.prog [sCheck] 1000 55 [An 2, I1] [An 2, I1] = tScale := by kernel_rfl
theorem rscale_tree : symFn Try.prog [sMay] 1000 56 [An 2, I1] [An 2, I1] = rScale := by kernel_rfl
theorem div_tree : symFn Try.prog [sFloor, sCheck] 1000 57 [An 2, I1] [An 2, I1] = tDiv := by kernel_rfl
theorem rdiv_tree : symFn Try.prog [sDown, sMay] 1000 58 [An 2, I1] [An 2, I1] = rDiv := by kernel_rfl
theorem join_tree : symFn Try.prog [sCheck] 1000 59 [An 2, An 2] [An 2, I1] = tJoin := by kernel_rfl
theorem rjoin_tree : symFn Try.prog [sMay] 1000 60 [An 2, An 2] [An 2, I1] = rJoin := by kernel_rfl
theorem holds_tree : symFn Try.prog [] 1000 63 [An 2, I1] [Bo] = tHolds := by kernel_rfl
theorem down_tree : symFn Try.prog [] 1000 119 [I1, I1] [I1] = rDown := by kernel_rfl

theorem two {xs : List Int} (h : xs.length = 2) : ∃ a b, xs = [a, b] := by
  match xs, h with
  | [a, b], _ => exact ⟨a, b, rfl⟩
theorem three {xs : List Int} (h : xs.length = 3) : ∃ a b c, xs = [a, b, c] := by
  match xs, h with
  | [a, b, c], _ => exact ⟨a, b, c, rfl⟩
theorem four {xs : List Int} (h : xs.length = 4) : ∃ a b c d, xs = [a, b, c, d] := by
  match xs, h with
  | [a, b, c, d], _ => exact ⟨a, b, c, d, rfl⟩

theorem check_ok : sCheck.ok Try.prog := by
  refine Sum.ok_of facts.mixed noG check_tree rfl ?_ (fun _ _ _ => rfl)
  intro xs hx _
  obtain ⟨a, b, rfl⟩ := two hx
  simp only [tCheck, sCheck, T.sat, B.den, E.den, List.map_cons, List.map_nil, List.getElem?_cons_zero, List.getElem?_cons_succ, List.cons_append, List.nil_append, List.getD_cons_zero, List.getD_cons_succ, decide_eq_true_eq, decide_eq_false_iff_not, beq_iff_eq, beq_eq_false_iff_ne, bne_iff_ne, ne_eq, bne_eq_false_iff_eq, Bool.not_eq_true', Bool.not_eq_false', Bool.not_eq_true, Bool.not_eq_false, Bool.and_eq_true, Bool.and_eq_false_imp, allIn, Int.not_lt, Int.not_le, and_true, true_and, mayS]
  refine ⟨fun h => ?_, fun h => ⟨fun h => ?_, fun h => ⟨fun h => ?_, fun h => ?_⟩⟩⟩
  · rw [if_pos (by omega)]
  · rw [if_pos (by omega)]
  · rw [if_pos (by omega)]
  · rw [if_neg (by omega)]
theorem may_ok : sMay.ok Try.prog := by
  refine Sum.ok_of facts.mixed noG may_tree rfl ?_ (fun _ _ _ => rfl)
  intro xs hx _
  obtain ⟨a, b, rfl⟩ := two hx
  simp only [rMay, sMay, T.sat, B.den, E.den, List.map_cons, List.map_nil, List.getElem?_cons_zero, List.getElem?_cons_succ, List.cons_append, List.nil_append, List.getD_cons_zero, List.getD_cons_succ, decide_eq_true_eq, decide_eq_false_iff_not, beq_iff_eq, beq_eq_false_iff_ne, bne_iff_ne, ne_eq, bne_eq_false_iff_eq, Bool.not_eq_true', Bool.not_eq_false', Bool.not_eq_true, Bool.not_eq_false, Bool.and_eq_true, Bool.and_eq_false_imp, allIn, Int.not_lt, Int.not_le, and_true, true_and, mayS]
  refine ⟨fun h => ⟨fun h => ⟨fun h => ?_, fun h => ?_⟩, fun h => ?_⟩, fun h => ?_⟩
  · rw [if_neg (by omega)]
  · rw [if_pos (by omega)]
  · rw [if_pos (by omega)]
  · rw [if_pos (by omega)]

theorem add_ok : (sAdd 53).ok Try.prog := by
  refine Sum.ok_of facts.mixed (one check_ok) add_tree rfl ?_ (fun _ _ _ => rfl)
  intro xs hx _
  obtain ⟨a, b, c, d, rfl⟩ := four hx
  simp only [tAdd, sAdd, sCheck, T.sat, B.den, E.den, List.map_cons, List.map_nil, List.getElem?_cons_zero, List.getElem?_cons_succ, List.cons_append, List.nil_append, List.getD_cons_zero, List.getD_cons_succ, decide_eq_true_eq, decide_eq_false_iff_not, beq_iff_eq, beq_eq_false_iff_ne, bne_iff_ne, ne_eq, bne_eq_false_iff_eq, Bool.not_eq_true', Bool.not_eq_false', Bool.not_eq_true, Bool.not_eq_false, Bool.and_eq_true, Bool.and_eq_false_imp, allIn, Int.not_lt, Int.not_le, and_true, true_and, addV, l3]
  cases h1 : mayS a b with
  | false => simp
  | true =>
    cases h2 : mayS c d with
    | false => simp
    | true =>
      rw [may_true] at h1 h2
      rw [wrap64 (x := a + c) (by omega) (by omega), wrap64 (x := b + d) (by omega) (by omega)]
      cases h3 : mayS (a + c) (b + d) <;> simp
theorem radd_ok : (sAdd 54).ok Try.prog := by
  refine Sum.ok_of facts.mixed (one may_ok) radd_tree rfl ?_ (fun _ _ _ => rfl)
  intro xs hx _
  obtain ⟨a, b, c, d, rfl⟩ := four hx
  simp only [rAdd, sAdd, sMay, T.sat, B.den, E.den, List.map_cons, List.map_nil, List.getElem?_cons_zero, List.getElem?_cons_succ, List.cons_append, List.nil_append, List.getD_cons_zero, List.getD_cons_succ, decide_eq_true_eq, decide_eq_false_iff_not, beq_iff_eq, beq_eq_false_iff_ne, bne_iff_ne, ne_eq, bne_eq_false_iff_eq, Bool.not_eq_true', Bool.not_eq_false', Bool.not_eq_true, Bool.not_eq_false, Bool.and_eq_true, Bool.and_eq_false_imp, allIn, Int.not_lt, Int.not_le, and_true, true_and, addV, l3]
  cases h1 : mayS a b with
  | false => simp
  | true =>
    cases h2 : mayS c d with
    | false => simp
    | true =>
      rw [may_true] at h1 h2
      rw [wrap64 (x := a + c) (by omega) (by omega), wrap64 (x := b + d) (by omega) (by omega)]
      cases h3 : mayS (a + c) (b + d) <;> simp

theorem mul_may {a b k : Int} (h : -1099511627776 ≤ a ∧ b ≤ 1099511627776 ∧ a ≤ b) (h1 : -1048576 ≤ k) (h2 : k ≤ 1048576) :
    (-1152921504606846976 ≤ k * a ∧ k * a ≤ 1152921504606846976) ∧ (-1152921504606846976 ≤ k * b ∧ k * b ≤ 1152921504606846976) :=
  ⟨mul_abs_le (m := 1048576) (n := 1099511627776) ⟨by omega, by omega⟩ ⟨by omega, by omega⟩, mul_abs_le (m := 1048576) (n := 1099511627776) ⟨by omega, by omega⟩ ⟨by omega, by omega⟩⟩
theorem mul_order {a b k : Int} (h : a ≤ b) : (k < 0 → k * b ≤ k * a) ∧ (0 ≤ k → k * a ≤ k * b) :=
  ⟨fun hk => Int.mul_le_mul_of_nonpos_left (by omega) h, fun hk => Int.mul_le_mul_of_nonneg_left h hk⟩

theorem scale_ok : (sScale 55).ok Try.prog := by
  refine Sum.ok_of facts.mixed (one check_ok) scale_tree rfl ?_ (fun _ _ _ => rfl)
  intro xs hx _
  obtain ⟨a, b, k, rfl⟩ := three hx
  simp only [tScale, sScale, sCheck, T.sat, B.den, E.den, List.map_cons, List.map_nil, List.getElem?_cons_zero, List.getElem?_cons_succ, List.cons_append, List.nil_append, List.getD_cons_zero, List.getD_cons_succ, decide_eq_true_eq, decide_eq_false_iff_not, beq_iff_eq, beq_eq_false_iff_ne, bne_iff_ne, ne_eq, bne_eq_false_iff_eq, Bool.not_eq_true', Bool.not_eq_false', Bool.not_eq_true, Bool.not_eq_false, Bool.and_eq_true, Bool.and_eq_false_imp, allIn, Int.not_lt, Int.not_le, and_true, true_and, scaleV, l3]
  cases h1 : mayS a b with
  | false => simp
  | true =>
    rw [may_true] at h1
    by_cases hk1 : k < -1048576
    · simp [hk1] <;> (intros; exfalso; omega)
    · by_cases hk2 : 1048576 < k
      · simp [hk1, hk2] <;> (intros; exfalso; omega)
      · have hm := mul_may h1 (by omega) (Int.not_lt.1 hk2)
        rw [wrap64 (x := k * a) (by omega) (by omega), wrap64 (x := k * b) (by omega) (by omega)]
        by_cases hk : k < 0
        · cases h3 : mayS (k * b) (k * a) <;> simp [hk1, hk2, hk] <;> (intros; exfalso; omega)
        · cases h3 : mayS (k * a) (k * b) <;> simp [hk1, hk2, hk] <;> (intros; exfalso; omega)
theorem rscale_ok : (sScale 56).ok Try.prog := by
  refine Sum.ok_of facts.mixed (one may_ok) rscale_tree rfl ?_ (fun _ _ _ => rfl)
  intro xs hx _
  obtain ⟨a, b, k, rfl⟩ := three hx
  simp only [rScale, sScale, sMay, T.sat, B.den, E.den, List.map_cons, List.map_nil, List.getElem?_cons_zero, List.getElem?_cons_succ, List.cons_append, List.nil_append, List.getD_cons_zero, List.getD_cons_succ, decide_eq_true_eq, decide_eq_false_iff_not, beq_iff_eq, beq_eq_false_iff_ne, bne_iff_ne, ne_eq, bne_eq_false_iff_eq, Bool.not_eq_true', Bool.not_eq_false', Bool.not_eq_true, Bool.not_eq_false, Bool.and_eq_true, Bool.and_eq_false_imp, allIn, Int.not_lt, Int.not_le, and_true, true_and, scaleV, l3]
  cases h1 : mayS a b with
  | false => simp
  | true =>
    rw [may_true] at h1
    by_cases hk1 : k < -1048576
    · simp [hk1] <;> (intros; exfalso; omega)
    · by_cases hk2 : 1048576 < k
      · simp [hk1, hk2] <;> (intros; exfalso; omega)
      · have hm := mul_may h1 (by omega) (Int.not_lt.1 hk2)
        have ho := mul_order (k := k) h1.2.2
        rw [wrap64 (x := k * a) (by omega) (by omega), wrap64 (x := k * b) (by omega) (by omega)]
        generalize k * a = p at *
        generalize k * b = q at *
        by_cases hk : k < 0
        · have e1 : (if q < p then q else p) = q := by split <;> omega
          have e2 : (if q > p then q else p) = p := by split <;> omega
          rw [e1, e2]
          cases h3 : mayS q p <;> simp [hk1, hk2, hk]
          all_goals (intros; exfalso; omega)
        · have e1 : (if q < p then q else p) = p := by split <;> omega
          have e2 : (if q > p then q else p) = q := by split <;> omega
          rw [e1, e2]
          cases h3 : mayS p q <;> simp [hk1, hk2, hk]
          all_goals (intros; exfalso; omega)

theorem down_ok : sDown.ok Try.prog := by
  refine Sum.ok_of facts.mixed noG down_tree rfl ?_ (fun _ _ _ => rfl)
  intro xs hx hp
  obtain ⟨a, b, rfl⟩ := two hx
  simp only [sDown, T.sat, B.den, E.den, List.map_cons, List.map_nil, List.getElem?_cons_zero, List.getElem?_cons_succ, List.cons_append, List.nil_append, List.getD_cons_zero, List.getD_cons_succ, decide_eq_true_eq, decide_eq_false_iff_not, beq_iff_eq, beq_eq_false_iff_ne, bne_iff_ne, ne_eq, bne_eq_false_iff_eq, Bool.not_eq_true', Bool.not_eq_false', Bool.not_eq_true, Bool.not_eq_false, Bool.and_eq_true, Bool.and_eq_false_imp, allIn, Int.not_lt, Int.not_le, and_true, true_and] at hp
  obtain ⟨⟨⟨ha1, ha2⟩, hb1, hb2⟩, h1, h2, h3⟩ := hp
  have hq := tdiv_range (a := a) (b := b) (l := -4611686018427387904) (h := 4611686018427387904) (by omega) (by omega) (by omega) h2 h3
  have hm := Int.mul_tdiv_add_tmod a b
  have hr1 := Int.lt_tmod_of_pos a (b := b) (by omega)
  have hr2 := Int.tmod_lt_of_pos a (b := b) (by omega)
  have hr : a.tdiv b * b = a - a.tmod b := by rw [Int.mul_comm]; omega
  simp only [rDown, sDown, T.sat, B.den, E.den, List.map_cons, List.map_nil, List.getElem?_cons_zero, List.getElem?_cons_succ, List.cons_append, List.nil_append, List.getD_cons_zero, List.getD_cons_succ, decide_eq_true_eq, decide_eq_false_iff_not, beq_iff_eq, beq_eq_false_iff_ne, bne_iff_ne, ne_eq, bne_eq_false_iff_eq, Bool.not_eq_true', Bool.not_eq_false', Bool.not_eq_true, Bool.not_eq_false, Bool.and_eq_true, Bool.and_eq_false_imp, allIn, Int.not_lt, Int.not_le, and_true, true_and]
  rw [wrap64 (x := a.tdiv b) (by omega) (by omega), hr]
  have hs : -4611686018427387904 ≤ a - a.tmod b ∧ a - a.tmod b ≤ 4611686018427387904 := by
    rcases Int.lt_or_le a 0 with hn | hn
    · have h3 : 0 ≤ (-a).tmod b := Int.tmod_nonneg b (by omega)
      rw [Int.neg_tmod] at h3
      have h5 := (tdiv_range (a := a) (b := b) (l := -4611686018427387904) (h := 0) (by omega) (by omega) (by omega) h2 (by omega)).2
      have h6 : b * a.tdiv b ≤ b * 0 := Int.mul_le_mul_of_nonneg_left h5 (by omega)
      omega
    · have := Int.tmod_nonneg b hn
      have : 0 ≤ b * a.tdiv b := Int.mul_nonneg (by omega) (Int.tdiv_nonneg hn (by omega))
      omega
  rw [wrap64 (x := a - a.tmod b) (by omega) (by omega)]
  refine ⟨by omega, fun h => ?_, fun h => ?_⟩
  · rw [wrap64 (by omega) (by omega), floor_neg (by omega) (by omega)]
  · rw [floor_pos (by omega) (by omega)]

theorem div_ok : (sDiv 57).ok Try.prog := by
  refine Sum.ok_of facts.mixed (more floor_ok (one check_ok)) div_tree rfl ?_ (fun _ _ _ => rfl)
  intro xs hx hp
  obtain ⟨a, b, k, rfl⟩ := three hx
  obtain ⟨i1, i2, i3, _⟩ := hp
  simp only [tDiv, sDiv, sCheck, sFloor, T.sat, B.den, E.den, List.map_cons, List.map_nil, List.getElem?_cons_zero, List.getElem?_cons_succ, List.cons_append, List.nil_append, List.getD_cons_zero, List.getD_cons_succ, decide_eq_true_eq, decide_eq_false_iff_not, beq_iff_eq, beq_eq_false_iff_ne, bne_iff_ne, ne_eq, bne_eq_false_iff_eq, Bool.not_eq_true', Bool.not_eq_false', Bool.not_eq_true, Bool.not_eq_false, Bool.and_eq_true, Bool.and_eq_false_imp, allIn, Int.not_lt, Int.not_le, and_true, true_and, divV, l3, i1, i2, i3]
  cases h1 : mayS a b with
  | false => simp
  | true =>
    by_cases hk1 : k < 1
    · simp [hk1] <;> (intros; exfalso; omega)
    · by_cases hk2 : 1099511627776 < k
      · simp [hk1, hk2]
      · simp [hk1, hk2, flV]
theorem rdiv_ok : (sDiv 58).ok Try.prog := by
  refine Sum.ok_of facts.mixed (more down_ok (one may_ok)) rdiv_tree rfl ?_ (fun _ _ _ => rfl)
  intro xs hx hp
  obtain ⟨a, b, k, rfl⟩ := three hx
  obtain ⟨i1, i2, i3, _⟩ := hp
  simp only [rDiv, sDiv, sMay, sDown, T.sat, B.den, E.den, List.map_cons, List.map_nil, List.getElem?_cons_zero, List.getElem?_cons_succ, List.cons_append, List.nil_append, List.getD_cons_zero, List.getD_cons_succ, decide_eq_true_eq, decide_eq_false_iff_not, beq_iff_eq, beq_eq_false_iff_ne, bne_iff_ne, ne_eq, bne_eq_false_iff_eq, Bool.not_eq_true', Bool.not_eq_false', Bool.not_eq_true, Bool.not_eq_false, Bool.and_eq_true, Bool.and_eq_false_imp, allIn, Int.not_lt, Int.not_le, and_true, true_and, divV, l3, i1, i2, i3]
  cases h1 : mayS a b with
  | false => simp
  | true =>
    rw [may_true] at h1
    by_cases hk1 : k < 1
    · simp [hk1] <;> (intros; exfalso; omega)
    · by_cases hk2 : 1099511627776 < k
      · simp [hk1, hk2]
      · simp [hk1, hk2]
        omega
theorem join_ok : (sJoin 59).ok Try.prog := by
  refine Sum.ok_of facts.mixed (one check_ok) join_tree rfl ?_ (fun _ _ _ => rfl)
  intro xs hx _
  obtain ⟨a, b, c, d, rfl⟩ := four hx
  simp only [tJoin, sJoin, sCheck, T.sat, B.den, E.den, List.map_cons, List.map_nil, List.getElem?_cons_zero, List.getElem?_cons_succ, List.cons_append, List.nil_append, List.getD_cons_zero, List.getD_cons_succ, decide_eq_true_eq, decide_eq_false_iff_not, beq_iff_eq, beq_eq_false_iff_ne, bne_iff_ne, ne_eq, bne_eq_false_iff_eq, Bool.not_eq_true', Bool.not_eq_false', Bool.not_eq_true, Bool.not_eq_false, Bool.and_eq_true, Bool.and_eq_false_imp, allIn, Int.not_lt, Int.not_le, and_true, true_and, joinV, l3]
  cases h1 : mayS a b <;> cases h2 : mayS c d <;> simp
theorem rjoin_ok : (sJoin 60).ok Try.prog := by
  refine Sum.ok_of facts.mixed (one may_ok) rjoin_tree rfl ?_ (fun _ _ _ => rfl)
  intro xs hx _
  obtain ⟨a, b, c, d, rfl⟩ := four hx
  simp only [rJoin, sJoin, sMay, T.sat, B.den, E.den, List.map_cons, List.map_nil, List.getElem?_cons_zero, List.getElem?_cons_succ, List.cons_append, List.nil_append, List.getD_cons_zero, List.getD_cons_succ, decide_eq_true_eq, decide_eq_false_iff_not, beq_iff_eq, beq_eq_false_iff_ne, bne_iff_ne, ne_eq, bne_eq_false_iff_eq, Bool.not_eq_true', Bool.not_eq_false', Bool.not_eq_true, Bool.not_eq_false, Bool.and_eq_true, Bool.and_eq_false_imp, allIn, Int.not_lt, Int.not_le, and_true, true_and, joinV, l3]
  cases h1 : mayS a b <;> cases h2 : mayS c d <;> simp
theorem holds_ok : sHolds.ok Try.prog := by
  refine Sum.ok_of facts.mixed noG holds_tree rfl ?_ (fun _ _ _ => rfl)
  intro xs hx _
  obtain ⟨a, b, k, rfl⟩ := three hx
  simp only [tHolds, sHolds, T.sat, B.den, E.den, List.map_cons, List.map_nil, List.getElem?_cons_zero, List.getElem?_cons_succ, List.cons_append, List.nil_append, List.getD_cons_zero, List.getD_cons_succ, decide_eq_true_eq, decide_eq_false_iff_not, beq_iff_eq, beq_eq_false_iff_ne, bne_iff_ne, ne_eq, bne_eq_false_iff_eq, Bool.not_eq_true', Bool.not_eq_false', Bool.not_eq_true, Bool.not_eq_false, Bool.and_eq_true, Bool.and_eq_false_imp, allIn, Int.not_lt, Int.not_le, and_true, true_and]
  refine ⟨fun h => ⟨fun h => ?_, fun h => ?_⟩, fun h => ?_⟩
  · rw [if_pos (by omega)]
  · rw [if_neg (by omega)]
  · rw [if_neg (by omega)]

end Go.Proofs.Ytlgcjkolakcfiaa.fix
