/-
  The law FixedSpans is answered with true, whatever the spans and the number, and its arguments stay as they were.
-/
import Derived.Test.YtlgcjkolakcfiaaRows
import Derived.Test.YtlgcjkolakcfiaaFacts
import Derived.Test.YtlgcjkolakcfiaaSpans
set_option linter.unusedVariables false
set_option linter.unusedSimpArgs false
namespace Go.Proofs.Ytlgcjkolakcfiaa.fixedSpans
open Go.RowKit Go.ChangeShapes Go.WideShapes Go.ChangeAt Go.Sx fix

def G : List Sum := [sAdd 53, sAdd 54, sScale 55, sScale 56, sDiv 57, sDiv 58, sJoin 59, sJoin 60, sCheck, sMay, sHolds]
def tFixedSpans : T := (.call 0 [(.v 0), (.v 1), (.v 2), (.v 3)] (.call 1 [(.v 0), (.v 1), (.v 2), (.v 3)] (.call 2 [(.v 0), (.v 1), (.v 4)] (.call 3 [(.v 0), (.v 1), (.v 4)] (.call 4 [(.v 0), (.v 1), (.v 4)] (.call 5 [(.v 0), (.v 1), (.v 4)] (.call 6 [(.v 0), (.v 1), (.v 2), (.v 3)] (.call 7 [(.v 0), (.v 1), (.v 2), (.v 3)] (.ite (.and (.eq (.v 5) (.v 8)) (.eq (.v 6) (.v 9))) (.ite (.eq (.v 7) (.v 10)) (.ite (.and (.eq (.v 11) (.v 14)) (.eq (.v 12) (.v 15))) (.ite (.eq (.v 13) (.v 16)) (.ite (.and (.eq (.v 17) (.v 20)) (.eq (.v 18) (.v 21))) (.ite (.eq (.v 19) (.v 22)) (.ite (.and (.eq (.v 23) (.v 26)) (.eq (.v 24) (.v 27))) (.ite (.eq (.v 25) (.v 28)) (.call 8 [(.v 0), (.v 1)] (.call 9 [(.v 0), (.v 1)] (.ite (.beq (.eq (.v 29) (.c 0)) (.nz (.v 30))) (.call 10 [(.v 0), (.v 1), (.v 4)] (.ite (.le (.v 0) (.v 4)) (.ite (.beq (.nz (.v 31)) (.le (.v 4) (.v 1))) (.ret [(.c 1)])
(.ret [(.c 0)]))
(.ite (.not (.nz (.v 31))) (.ret [(.c 1)])
(.ret [(.c 0)]))))
(.ret [(.c 0)]))))
(.ret [(.c 0)]))
(.ret [(.c 0)]))
(.ret [(.c 0)]))
(.ret [(.c 0)]))
(.ret [(.c 0)]))
(.ret [(.c 0)]))
(.ret [(.c 0)]))
(.ret [(.c 0)]))))))))))
def tree : T := tFixedSpans
theorem tree_eq : symFn Try.prog G 1000 9 [An 2, An 2, I1] [Bo] = tree := by kernel_rfl
theorem gammaOk : Gok Try.prog G := more add_ok (more radd_ok (more scale_ok (more rscale_ok (more div_ok (more rdiv_ok (more join_ok (more rjoin_ok (more check_ok (more may_ok (one holds_ok))))))))))

theorem plain (xs0 : List Int) (hr0 : rangeOK (An 2).ks xs0) (xs1 : List Int) (hr1 : rangeOK (An 2).ks xs1) (xs2 : List Int) (hr2 : rangeOK I1.ks xs2) : tree.sat G [] (fun ys => ys = [1]) [] (xs0 ++ (xs1 ++ (xs2 ++ []))) := by
  obtain ⟨l0, i0⟩ := An_inv hr0
  obtain ⟨l1, i1⟩ := An_inv hr1
  obtain ⟨a, b, rfl⟩ := two l0
  obtain ⟨c, d, rfl⟩ := two l1
  obtain ⟨k, rfl, hk⟩ := I1_inv hr2
  obtain ⟨ha, hb, _⟩ := i0
  simp only [tree, tFixedSpans, G, sAdd, sScale, sDiv, sJoin, sCheck, sMay, sHolds, l3, T.sat, B.den, E.den, List.map_cons, List.map_nil, List.getElem?_cons_zero, List.getElem?_cons_succ, List.cons_append, List.nil_append, List.getD_cons_zero, List.getD_cons_succ, decide_eq_true_eq, decide_eq_false_iff_not, beq_iff_eq, beq_eq_false_iff_ne, bne_iff_ne, ne_eq, bne_eq_false_iff_eq, Bool.not_eq_true', Bool.not_eq_false', Bool.not_eq_true, Bool.not_eq_false, Bool.and_eq_true, Bool.and_eq_false_imp, allIn, Int.not_lt, Int.not_le, and_true, true_and, ha, hb, hk]
  generalize addV a b c d = x
  generalize scaleV a b k = y
  generalize divV a b k = z
  generalize joinV a b c d = u
  cases hm : mayS a b <;> by_cases h1 : a ≤ k <;> by_cases h2 : k ≤ b <;> simp [h1, h2]

set_option maxRecDepth 100000 in
theorem lifted (os : Os) (started : os.Started) (H : Type) (enc : TypeId × Value → H) :
    ReturnsInHanded {} Try.checked os 9 .any (Rows.fixedSpansSpec.pre6 enc Try.prog Try.f9 Rows.fixedSpansRow.domain false) (Rows.fixedSpansSpec.post enc Try.prog Try.f9 false true false false) := by
  refine returnsInHanded_of_change (C := Try.checked) facts.own started (by kernel_rfl) Try.func9
    (ChangeSpec.witness6 (enc := enc) (C := Try.checked) false ⟨#[], #[.agg #[.int .i64 0, .int .i64 0], .agg #[.int .i64 0, .int .i64 0], .int .i64 0], []⟩ 8 (by kernel_rfl) (by kernel_rfl) (by kernel_rfl) (by kernel_rfl)) ?_
  intro W base args ds gs before hval0 hW hcnd _
  have hval : ∀ (j : Nat) t v, Try.f9.params[j]? = some t → args[j]? = some v → Value.okWide Try.prog W .any base t v := hval0
  have hW' := hW
  obtain ⟨p, q, hA0, hV, rfl, hfz, hnd⟩ := hW
  have hA : DataW.TrodAll enc Try.prog W 0 (fun _ => true) true Try.f9.params.toList args.toList ds p := hA0
  rw [Try.params9] at hA hval
  obtain ⟨v0, vs0, d0, ds0, p0, q0, hargs, rfl, rfl, h0, r0⟩ := trodAll_cons hA
  obtain ⟨v1, vs1, d1, ds1, p1, q1, rfl, rfl, rfl, h1, r1⟩ := trodAll_cons r0
  obtain ⟨v2, vs2, d2, ds2, p2, q2, rfl, rfl, rfl, h2, r2⟩ := trodAll_cons r1
  obtain ⟨rfl, rfl, rfl⟩ := trodAll_nil r2
  obtain rfl : args = #[v0, v1, v2] := by cases args; simp_all
  obtain ⟨rfl, rfl⟩ := trodVars_none hV
  have k0 := h0
  have lt0 : ∀ x ∈ p0, x.block < W.heap.size := by obtain ⟨m, hm⟩ := k0; exact DataW.trod_lt m _ _ _ hm
  have k1 := h1
  have lt1 : ∀ x ∈ p1, x.block < W.heap.size := by obtain ⟨m, hm⟩ := k1; exact DataW.trod_lt m _ _ _ hm
  have k2 := h2
  have lt2 : ∀ x ∈ p2, x.block < W.heap.size := by obtain ⟨m, hm⟩ := k2; exact DataW.trod_lt m _ _ _ hm
  obtain ⟨xs0, hv0, hr0⟩ := open_sh (sh := An 2) (by kernel_rfl) (by kernel_rfl) (hval 0 64 v0 rfl rfl) h0
  obtain ⟨xs1, hv1, hr1⟩ := open_sh (sh := An 2) (by kernel_rfl) (by kernel_rfl) (hval 1 64 v1 rfl rfl) h1
  obtain ⟨xs2, hv2, hr2⟩ := open_sh (sh := I1) (by kernel_rfl) (by kernel_rfl) (hval 2 3 v2 rfl rfl) h2
  clear hA0 hval0
  have hl0 := rangeOK_len hr0
  have hl1 := rangeOK_len hr1
  have hl2 := rangeOK_len hr2
  have hxs : #[v0, v1, v2] = (mkShs [An 2, An 2, I1] (xs0 ++ (xs1 ++ (xs2 ++ [])))).toArray := by
    rw [mkShs_cons hl0, mkShs_cons hl1, mkShs_cons hl2]
    simp [mkShs, hv0, hv1, hv2]
  have hlen : (xs0 ++ (xs1 ++ (xs2 ++ []))).length = total [An 2, An 2, I1] := by
    simp only [List.length_append, List.length_nil, hl0, hl1, hl2]
    rfl
  have hcalls := law_true facts.mixed gammaOk tree_eq hlen (plain xs0 hr0 xs1 hr1 xs2 hr2) W
  rw [← hxs] at hcalls
  refine hcalls.mono fun e W' ⟨he, bel⟩ => ?_
  subst he
  exact ⟨_, rfl, _, _, _, [], _, [], hW', trodAll_mk1 (shut_bool Try.underlying4 _), (trodAll_cons_mk (Below.trod facts.laidOut (by kernel_rfl) (of_decide_eq_true (by kernel_rfl)) k0 bel lt0) (trodAll_cons_mk (Below.trod facts.laidOut (by kernel_rfl) (of_decide_eq_true (by kernel_rfl)) k1 bel lt1) (trodAll_cons_mk (Below.trod facts.laidOut (by kernel_rfl) (of_decide_eq_true (by kernel_rfl)) k2 bel lt2) trodAll_mk0))), rfl, bel.frame _, fun h => by cases h⟩

theorem over : Rows.fixedSpansRow.holds Try.pinned (OpenSpec.ofChange Rows.fixedSpansSpec) :=
  OpenClaim.holds_of_wide 9 Try.f9 rfl rfl rfl rfl rfl rfl rfl ⟨rfl, rfl, rfl, rfl, rfl⟩ rfl rfl rfl rfl rfl (by kernel_rfl) Try.func9
    (facts.joined (by kernel_rfl) (by kernel_rfl) (by kernel_rfl) (by kernel_rfl) (by kernel_rfl) (by kernel_rfl) (by kernel_rfl) rfl rfl rfl rfl)
    (of_decide_eq_true (by kernel_rfl)) (by unfold Func.isWrapper; first | (rw [if_pos (by decide +kernel)]; kernel_rfl) | (rw [if_neg (by decide +kernel)]; exact ⟨rfl, rfl⟩))
    (fun os started H enc _ => lifted os started H enc)

/-- THE STATEMENT. -/
theorem proved : Rows.FixedSpansSaid := over
#print axioms proved

end Go.Proofs.Ytlgcjkolakcfiaa.fixedSpans
