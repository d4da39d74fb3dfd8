/-
  The law FixedFloor is answered with true, whatever the two numbers, and its arguments stay as they were.
-/
import Derived.Test.YtlgcjkolakcfiaaRows
import Derived.Test.YtlgcjkolakcfiaaFacts
import Derived.Test.YtlgcjkolakcfiaaFix
set_option linter.unusedVariables false
set_option linter.unusedSimpArgs false
namespace Go.Proofs.Ytlgcjkolakcfiaa.fixedFloor
open Go.RowKit Go.ChangeShapes Go.WideShapes Go.ChangeAt Go.Sx fix

def G : List Sum := [sFloor, sCeil]
def tFixedFloor : T := (.call 0 [(.c (-7)), (.c 2)] (.call 1 [(.c 7), (.c 2)] (.ite (.eq (.v 3) (.c 0)) (.ite (.eq (.v 5) (.c 0)) (.ite (.eq (.v 2) (.c (-4))) (.ite (.not (.eq (.v 4) (.c 4))) (.ret [(.c 0)])
(.call 0 [(.v 0), (.v 1)] (.call 1 [(.v 0), (.v 1)] (.ite (.lt (.v 1) (.c 1)) (.ite (.eq (.v 4) (.c 4)) (.ite (.eq (.v 7) (.c 2)) (.ite (.eq (.v 9) (.c 2)) (.ite (.eq (.v 6) (.c 0)) (.ite (.eq (.v 8) (.c 0)) (.ret [(.c 1)])
(.ret [(.c 0)]))
(.ret [(.c 0)]))
(.ret [(.c 0)]))
(.ret [(.c 0)]))
(.ret [(.c 0)]))
(.ite (.lt (.c 2147483648) (.v 1)) (.ite (.eq (.v 4) (.c 4)) (.ite (.eq (.v 7) (.c 0)) (.ite (.eq (.v 9) (.c 0)) (.ret [(.c 1)])
(.ret [(.c 0)]))
(.ret [(.c 0)]))
(.ret [(.c 0)]))
(.ite (.lt (.v 0) (.c (-4611686018427387904))) (.ite (.eq (.v 4) (.c 4)) (.ite (.eq (.v 7) (.c 0)) (.ite (.eq (.v 9) (.c 0)) (.ret [(.c 1)])
(.ret [(.c 0)]))
(.ret [(.c 0)]))
(.ret [(.c 0)]))
(.ite (.lt (.c 4611686018427387904) (.v 0)) (.ite (.eq (.v 4) (.c 4)) (.ite (.eq (.v 7) (.c 0)) (.ite (.eq (.v 9) (.c 0)) (.ret [(.c 1)])
(.ret [(.c 0)]))
(.ret [(.c 0)]))
(.ret [(.c 0)]))
(.ite (.eq (.v 4) (.c 4)) (.ite (.eq (.v 7) (.c 0)) (.ite (.eq (.v 9) (.c 0)) (.ite (.le (.mul .i64 (.v 6) (.v 1)) (.v 0)) (.ite (.lt (.sub .i64 (.v 0) (.mul .i64 (.v 6) (.v 1))) (.v 1)) (.ite (.le (.v 0) (.mul .i64 (.v 8) (.v 1))) (.ite (.lt (.sub .i64 (.mul .i64 (.v 8) (.v 1)) (.v 0)) (.v 1)) (.ret [(.c 1)])
(.ret [(.c 0)]))
(.ret [(.c 0)]))
(.ret [(.c 0)]))
(.ret [(.c 0)]))
(.ret [(.c 0)]))
(.ret [(.c 0)]))
(.ret [(.c 0)])))))))))
(.ret [(.c 0)]))
(.ret [(.c 0)]))
(.ret [(.c 0)]))))
def tree : T := tFixedFloor
theorem tree_eq : symFn Try.prog G 1000 3 [I1, I1] [Bo] = tree := by kernel_rfl
theorem gammaOk : Gok Try.prog G := more floor_ok (one ceil_ok)

theorem plain (xs0 : List Int) (hr0 : rangeOK I1.ks xs0) (xs1 : List Int) (hr1 : rangeOK I1.ks xs1) : tree.sat G [] (fun ys => ys = [1]) [] (xs0 ++ (xs1 ++ [])) := by
  obtain ⟨a, rfl, ha⟩ := I1_inv hr0
  obtain ⟨b, rfl, hb⟩ := I1_inv hr1
  have c1 : flV (-7) 2 = -4 := by decide
  have c2 : flE 2 = 0 := by decide
  have c3 : upV 7 2 = 4 := by decide
  have i1 : In64 (-7) := ⟨by omega, by omega⟩
  have i2 : In64 7 := ⟨by omega, by omega⟩
  have i3 : In64 2 := ⟨by omega, by omega⟩
  simp only [tree, tFixedFloor, G, sFloor, sCeil, T.sat, B.den, E.den, List.map_cons, List.map_nil, List.getElem?_cons_zero, List.getElem?_cons_succ, List.cons_append, List.nil_append, List.getD_cons_zero, List.getD_cons_succ, decide_eq_true_eq, decide_eq_false_iff_not, beq_iff_eq, beq_eq_false_iff_ne, bne_iff_ne, ne_eq, bne_eq_false_iff_eq, Bool.not_eq_true', Bool.not_eq_false', Bool.not_eq_true, Bool.not_eq_false, Bool.and_eq_true, Bool.and_eq_false_imp, allIn, Int.not_lt, Int.not_le, and_true, true_and, c1, c2, c3, i1, i2, i3, ha, hb]
  have hf := fl_facts a b
  have hn : 1 ≤ b → b * flV a b ≤ a ∧ a < b * flV a b + b ∧ a ≤ b * upV a b ∧ b * upV a b < a + b := by
    intro h
    rcases hf with h' | ⟨_, _, h1, h2⟩
    · omega
    · rw [h1, h2]
      exact ⟨div_lo (by omega), div_hi (by omega), up_lo (by omega), up_hi (by omega)⟩
  simp only [Int.mul_comm b] at hn
  have hw : 1 ≤ b → b ≤ 2147483648 → -4611686018427387904 ≤ a → a ≤ 4611686018427387904 → IntKind.i64.wrap (flV a b * b) = flV a b * b ∧ IntKind.i64.wrap (upV a b * b) = upV a b * b ∧
      IntKind.i64.wrap (a - flV a b * b) = a - flV a b * b ∧ IntKind.i64.wrap (upV a b * b - a) = upV a b * b - a := by
    intro h1 h2 h3 h4
    have := hn h1
    exact ⟨wrap64 (by omega) (by omega), wrap64 (by omega) (by omega), wrap64 (by omega) (by omega), wrap64 (by omega) (by omega)⟩
  generalize flV a b = n at *
  generalize upV a b = m at *
  generalize flE b = e at *
  generalize n * b = nb at *
  generalize m * b = mb at *
  by_cases hr : 1 ≤ b ∧ b ≤ 2147483648 ∧ -4611686018427387904 ≤ a ∧ a ≤ 4611686018427387904
  · obtain ⟨w1, w2, w3, w4⟩ := hw hr.1 hr.2.1 hr.2.2.1 hr.2.2.2
    simp only [w1, w2, w3, w4]
    repeat' first | exact trivial | refine And.intro ?_ ?_ | intro _
    all_goals first | trivial | omega
  · clear hw
    repeat' first | exact trivial | refine And.intro ?_ ?_ | intro _
    all_goals first | trivial | omega

set_option maxRecDepth 100000 in
theorem lifted (os : Os) (started : os.Started) (H : Type) (enc : TypeId × Value → H) :
    ReturnsInHanded {} Try.checked os 3 .any (Rows.fixedFloorSpec.pre6 enc Try.prog Try.f3 Rows.fixedFloorRow.domain false) (Rows.fixedFloorSpec.post enc Try.prog Try.f3 false true false false) := by
  refine returnsInHanded_of_change (C := Try.checked) facts.own started (by kernel_rfl) Try.func3
    (ChangeSpec.witness6 (enc := enc) (C := Try.checked) false ⟨#[], #[.int .i64 0, .int .i64 0], []⟩ 8 (by kernel_rfl) (by kernel_rfl) (by kernel_rfl) (by kernel_rfl)) ?_
  intro W base args ds gs before hval0 hW hcnd _
  have hval : ∀ (j : Nat) t v, Try.f3.params[j]? = some t → args[j]? = some v → Value.okWide Try.prog W .any base t v := hval0
  have hW' := hW
  obtain ⟨p, q, hA0, hV, rfl, hfz, hnd⟩ := hW
  have hA : DataW.TrodAll enc Try.prog W 0 (fun _ => true) true Try.f3.params.toList args.toList ds p := hA0
  rw [Try.params3] at hA hval
  obtain ⟨v0, vs0, d0, ds0, p0, q0, hargs, rfl, rfl, h0, r0⟩ := trodAll_cons hA
  obtain ⟨v1, vs1, d1, ds1, p1, q1, rfl, rfl, rfl, h1, r1⟩ := trodAll_cons r0
  obtain ⟨rfl, rfl, rfl⟩ := trodAll_nil r1
  obtain rfl : args = #[v0, v1] := by cases args; simp_all
  obtain ⟨rfl, rfl⟩ := trodVars_none hV
  have k0 := h0
  have lt0 : ∀ x ∈ p0, x.block < W.heap.size := by obtain ⟨m, hm⟩ := k0; exact DataW.trod_lt m _ _ _ hm
  have k1 := h1
  have lt1 : ∀ x ∈ p1, x.block < W.heap.size := by obtain ⟨m, hm⟩ := k1; exact DataW.trod_lt m _ _ _ hm
  obtain ⟨xs0, hv0, hr0⟩ := open_sh (sh := I1) (by kernel_rfl) (by kernel_rfl) (hval 0 3 v0 rfl rfl) h0
  obtain ⟨xs1, hv1, hr1⟩ := open_sh (sh := I1) (by kernel_rfl) (by kernel_rfl) (hval 1 3 v1 rfl rfl) h1
  clear hA0 hval0
  have hl0 := rangeOK_len hr0
  have hl1 := rangeOK_len hr1
  have hxs : #[v0, v1] = (mkShs [I1, I1] (xs0 ++ (xs1 ++ []))).toArray := by
    rw [mkShs_cons hl0, mkShs_cons hl1]
    simp [mkShs, hv0, hv1]
  have hlen : (xs0 ++ (xs1 ++ [])).length = total [I1, I1] := by
    simp only [List.length_append, List.length_nil, hl0, hl1]
    rfl
  have hcalls := law_true facts.mixed gammaOk tree_eq hlen (plain xs0 hr0 xs1 hr1) W
  rw [← hxs] at hcalls
  refine hcalls.mono fun e W' ⟨he, bel⟩ => ?_
  subst he
  exact ⟨_, rfl, _, _, _, [], _, [], hW', trodAll_mk1 (shut_bool Try.underlying4 _), (trodAll_cons_mk (Below.trod facts.laidOut (by kernel_rfl) (of_decide_eq_true (by kernel_rfl)) k0 bel lt0) (trodAll_cons_mk (Below.trod facts.laidOut (by kernel_rfl) (of_decide_eq_true (by kernel_rfl)) k1 bel lt1) trodAll_mk0)), rfl, bel.frame _, fun h => by cases h⟩

theorem over : Rows.fixedFloorRow.holds Try.pinned (OpenSpec.ofChange Rows.fixedFloorSpec) :=
  OpenClaim.holds_of_wide 3 Try.f3 rfl rfl rfl rfl rfl rfl rfl ⟨rfl, rfl, rfl, rfl, rfl⟩ rfl rfl rfl rfl rfl (by kernel_rfl) Try.func3
    (facts.joined (by kernel_rfl) (by kernel_rfl) (by kernel_rfl) (by kernel_rfl) (by kernel_rfl) (by kernel_rfl) (by kernel_rfl) rfl rfl rfl rfl)
    (of_decide_eq_true (by kernel_rfl)) (by unfold Func.isWrapper; first | (rw [if_pos (by decide +kernel)]; kernel_rfl) | (rw [if_neg (by decide +kernel)]; exact ⟨rfl, rfl⟩))
    (fun os started H enc _ => lifted os started H enc)

/-- THE STATEMENT. -/
theorem proved : Rows.FixedFloorSaid := over
#print axioms proved

end Go.Proofs.Ytlgcjkolakcfiaa.fixedFloor
