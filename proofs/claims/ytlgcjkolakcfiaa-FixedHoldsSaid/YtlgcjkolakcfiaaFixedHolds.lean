/-
  The law FixedHolds is answered with true, whatever the spans and numbers, and its arguments stay as they were.
-/
import Derived.Test.YtlgcjkolakcfiaaRows
import Derived.Test.YtlgcjkolakcfiaaFacts
import Derived.Test.YtlgcjkolakcfiaaFixU
set_option linter.unusedVariables false
set_option linter.unusedSimpArgs false
namespace Go.Proofs.Ytlgcjkolakcfiaa.fixedHolds
open Go.RowKit Go.ChangeShapes Go.WideShapes Go.ChangeAt Go.Sx fix

def G_FixedHolds : List Sum := [s_alive01, s_fholds, s_fcheck, s_fadd, s_fscale, s_fdiv, s_floorG, s_fjoin]
def I_FixedHolds : List Inf := [i_alive01, i_fholds, i_fcheck, i_fadd, i_fscale, i_fdiv, i_floorG, i_fjoin]
def t_FixedHolds : TX := (.callp 0 [] (.callp 1 [(.v 0), (.v 1), (.v 4)] (.ite (.eq (.v 8) (.c 0)) (.ret [(.c 1)])
(.callp 1 [(.v 2), (.v 3), (.v 5)] (.ite (.eq (.v 9) (.c 0)) (.ret [(.c 1)])
(.callp 2 [(.v 0), (.v 1)] (.ite (.not (.eq (.v 10) (.c 0))) (.ret [(.c 1)])
(.callp 2 [(.v 2), (.v 3)] (.ite (.not (.eq (.v 11) (.c 0))) (.ret [(.c 1)])
(.callp 3 [(.v 0), (.v 1), (.v 2), (.v 3)] (.ite (.eq (.v 14) (.c 0)) (.callp 1 [(.v 12), (.v 13), (.wr .i64 (.add (.v 4) (.v 5)))] (.ite (.eq (.v 15) (.c 0)) (.ret [(.c 0)])
(.callp 4 [(.v 0), (.v 1), (.v 6)] (.ite (.eq (.v 18) (.c 0)) (.callp 1 [(.v 16), (.v 17), (.wr .i64 (.mul (.v 6) (.v 4)))] (.ite (.eq (.v 19) (.c 0)) (.ret [(.c 0)])
(.callp 5 [(.v 0), (.v 1), (.v 6)] (.callp 6 [(.v 4), (.v 6)] (.ite (.eq (.v 22) (.c 0)) (.ite (.not (.eq (.v 24) (.c 0))) (.ret [(.c 0)])
(.callp 1 [(.v 20), (.v 21), (.v 23)] (.ite (.eq (.v 25) (.c 0)) (.ret [(.c 0)])
(.callp 7 [(.v 0), (.v 1), (.v 2), (.v 3)] (.ite (.not (.eq (.v 28) (.c 0))) (.ret [(.c 0)])
(.callp 1 [(.v 26), (.v 27), (.v 4)] (.ite (.not (.nz (.v 29))) (.ret [(.c 0)])
(.callp 1 [(.v 26), (.v 27), (.v 5)] (.ite (.nz (.v 30)) (.ret [(.c 1)])
(.ret [(.c 0)]))))))))))
(.callp 7 [(.v 0), (.v 1), (.v 2), (.v 3)] (.ite (.not (.eq (.v 27) (.c 0))) (.ret [(.c 0)])
(.callp 1 [(.v 25), (.v 26), (.v 4)] (.ite (.not (.nz (.v 28))) (.ret [(.c 0)])
(.callp 1 [(.v 25), (.v 26), (.v 5)] (.ite (.nz (.v 29)) (.ret [(.c 1)])
(.ret [(.c 0)]))))))))))))
(.callp 5 [(.v 0), (.v 1), (.v 6)] (.callp 6 [(.v 4), (.v 6)] (.ite (.eq (.v 21) (.c 0)) (.ite (.not (.eq (.v 23) (.c 0))) (.ret [(.c 0)])
(.callp 1 [(.v 19), (.v 20), (.v 22)] (.ite (.eq (.v 24) (.c 0)) (.ret [(.c 0)])
(.callp 7 [(.v 0), (.v 1), (.v 2), (.v 3)] (.ite (.not (.eq (.v 27) (.c 0))) (.ret [(.c 0)])
(.callp 1 [(.v 25), (.v 26), (.v 4)] (.ite (.not (.nz (.v 28))) (.ret [(.c 0)])
(.callp 1 [(.v 25), (.v 26), (.v 5)] (.ite (.nz (.v 29)) (.ret [(.c 1)])
(.ret [(.c 0)]))))))))))
(.callp 7 [(.v 0), (.v 1), (.v 2), (.v 3)] (.ite (.not (.eq (.v 26) (.c 0))) (.ret [(.c 0)])
(.callp 1 [(.v 24), (.v 25), (.v 4)] (.ite (.not (.nz (.v 27))) (.ret [(.c 0)])
(.callp 1 [(.v 24), (.v 25), (.v 5)] (.ite (.nz (.v 28)) (.ret [(.c 1)])
(.ret [(.c 0)]))))))))))))))
(.callp 4 [(.v 0), (.v 1), (.v 6)] (.ite (.eq (.v 17) (.c 0)) (.callp 1 [(.v 15), (.v 16), (.wr .i64 (.mul (.v 6) (.v 4)))] (.ite (.eq (.v 18) (.c 0)) (.ret [(.c 0)])
(.callp 5 [(.v 0), (.v 1), (.v 6)] (.callp 6 [(.v 4), (.v 6)] (.ite (.eq (.v 21) (.c 0)) (.ite (.not (.eq (.v 23) (.c 0))) (.ret [(.c 0)])
(.callp 1 [(.v 19), (.v 20), (.v 22)] (.ite (.eq (.v 24) (.c 0)) (.ret [(.c 0)])
(.callp 7 [(.v 0), (.v 1), (.v 2), (.v 3)] (.ite (.not (.eq (.v 27) (.c 0))) (.ret [(.c 0)])
(.callp 1 [(.v 25), (.v 26), (.v 4)] (.ite (.not (.nz (.v 28))) (.ret [(.c 0)])
(.callp 1 [(.v 25), (.v 26), (.v 5)] (.ite (.nz (.v 29)) (.ret [(.c 1)])
(.ret [(.c 0)]))))))))))
(.callp 7 [(.v 0), (.v 1), (.v 2), (.v 3)] (.ite (.not (.eq (.v 26) (.c 0))) (.ret [(.c 0)])
(.callp 1 [(.v 24), (.v 25), (.v 4)] (.ite (.not (.nz (.v 27))) (.ret [(.c 0)])
(.callp 1 [(.v 24), (.v 25), (.v 5)] (.ite (.nz (.v 28)) (.ret [(.c 1)])
(.ret [(.c 0)]))))))))))))
(.callp 5 [(.v 0), (.v 1), (.v 6)] (.callp 6 [(.v 4), (.v 6)] (.ite (.eq (.v 20) (.c 0)) (.ite (.not (.eq (.v 22) (.c 0))) (.ret [(.c 0)])
(.callp 1 [(.v 18), (.v 19), (.v 21)] (.ite (.eq (.v 23) (.c 0)) (.ret [(.c 0)])
(.callp 7 [(.v 0), (.v 1), (.v 2), (.v 3)] (.ite (.not (.eq (.v 26) (.c 0))) (.ret [(.c 0)])
(.callp 1 [(.v 24), (.v 25), (.v 4)] (.ite (.not (.nz (.v 27))) (.ret [(.c 0)])
(.callp 1 [(.v 24), (.v 25), (.v 5)] (.ite (.nz (.v 28)) (.ret [(.c 1)])
(.ret [(.c 0)]))))))))))
(.callp 7 [(.v 0), (.v 1), (.v 2), (.v 3)] (.ite (.not (.eq (.v 25) (.c 0))) (.ret [(.c 0)])
(.callp 1 [(.v 23), (.v 24), (.v 4)] (.ite (.not (.nz (.v 26))) (.ret [(.c 0)])
(.callp 1 [(.v 23), (.v 24), (.v 5)] (.ite (.nz (.v 27)) (.ret [(.c 1)])
(.ret [(.c 0)])))))))))))))))))))))))
theorem tree_FixedHolds : merge (opt I_FixedHolds (((An 2).ks ++ ((An 2).ks ++ (I1.ks ++ (I1.ks ++ (I1.ks ++ []))))).map ivK) (symFn Try.prog G_FixedHolds 1000 15 [An 2, An 2, I1, I1, I1] [Bo])) = t_FixedHolds := by kernel_rfl
theorem g_FixedHolds : Gok Try.prog G_FixedHolds := (more ok_alive01 (more ok_fholds (more ok_fcheck (more ok_fadd (more ok_fscale (more ok_fdiv (more ok_floorG (one ok_fjoin))))))))
theorem o_FixedHolds : outsOK G_FixedHolds I_FixedHolds := (outsOK_cons inf_alive01 (outsOK_cons inf_fholds (outsOK_cons inf_fcheck (outsOK_cons inf_fadd (outsOK_cons inf_fscale (outsOK_cons inf_fdiv (outsOK_cons inf_floorG (outsOK_cons inf_fjoin outsOK_nil))))))))
theorem plain (xs0 : List Int) (hr0 : rangeOK (An 2).ks xs0) (xs1 : List Int) (hr1 : rangeOK (An 2).ks xs1) (xs2 : List Int) (hr2 : rangeOK I1.ks xs2) (xs3 : List Int) (hr3 : rangeOK I1.ks xs3) (xs4 : List Int) (hr4 : rangeOK I1.ks xs4) : t_FixedHolds.sat G_FixedHolds [] (fun ys => ys = [1]) (xs0 ++ (xs1 ++ (xs2 ++ (xs3 ++ (xs4 ++ []))))) := by
  obtain ⟨l0, i0⟩ := An_inv hr0
  obtain ⟨a0, a1, rfl⟩ := len2 l0
  obtain ⟨l1, i1⟩ := An_inv hr1
  obtain ⟨a2, a3, rfl⟩ := len2 l1
  obtain ⟨a4, rfl, i2⟩ := I1_inv hr2
  obtain ⟨a5, rfl, i3⟩ := I1_inv hr3
  obtain ⟨a6, rfl, i4⟩ := I1_inv hr4
  have e4 : holdsB [a0, a1, a4] = true ↔ (a0 ≤ a4 ∧ a4 ≤ a1) := dec_true
  have e5 : holdsB [a2, a3, a5] = true ↔ (a2 ≤ a5 ∧ a5 ≤ a3) := dec_true
  have s0 : spanB [a0, a1] 0 = true ↔ (-1099511627776 ≤ a0 ∧ a1 ≤ 1099511627776 ∧ a0 ≤ a1) := spanB_true
  have s1 : spanB [a2, a3] 0 = true ↔ (-1099511627776 ≤ a2 ∧ a3 ≤ 1099511627776 ∧ a2 ≤ a3) := spanB_true
  simp only [t_FixedHolds, G_FixedHolds, s_alive01, s_fholds, s_fcheck, s_fadd, s_fscale, s_fdiv, s_floorG, s_fjoin, TX.sat, XB.prop, X.den, List.map_cons, List.map_nil, List.getElem?_cons_zero, List.getElem?_cons_succ, List.cons_append, List.nil_append, List.getD_cons_zero, List.getD_cons_succ, mkS, mkP, and_true, true_and, Int.not_lt, Int.not_le, not_or, not_and, Classical.not_not, ne_eq, not_true_eq_false, not_false_eq_true, sem_alive01, sem_alive, sem_fholds, sem_fcheck, sem_fadd, sem_fscale, sem_fdiv, sem_floorG, sem_fjoin, ex3]
  cases h4 : holdsB [a0, a1, a4] with
  | false => simp [b01]
  | true =>
  cases h5 : holdsB [a2, a3, a5] with
  | false => simp [b01]
  | true =>
  cases h0 : spanB [a0, a1] 0 with
  | false => simp [b01, er]
  | true =>
  cases h1 : spanB [a2, a3] 0 with
  | false => simp [b01, er]
  | true =>
  rw [e4] at h4
  rw [e5] at h5
  rw [s0] at h0
  rw [s1] at h1
  have q0 : spanB [a0, a1, a2, a3] 0 = true := s0.2 h0
  have q2 : spanB [a0, a1, a2, a3] 2 = true := s1.2 h1
  have r0 : spanB [a0, a1, a6] 0 = true := s0.2 h0
  have hA : (faddL [a0, a1, a2, a3]).getD 2 0 = 0 → holdsB [(faddL [a0, a1, a2, a3]).getD 0 0, (faddL [a0, a1, a2, a3]).getD 1 0, IntKind.i64.wrap (a4 + a5)] = true := by
    intro h
    unfold faddL at h ⊢
    rw [if_pos q0, if_pos q2] at h ⊢
    split at h
    · rename_i h3
      rw [if_pos h3]
      rw [wrap64 (x := a4 + a5) (by omega) (by omega)]
      simp only [holdsB, dec_true, TX.sat, XB.prop, X.den, List.map_cons, List.map_nil, List.getElem?_cons_zero, List.getElem?_cons_succ, List.cons_append, List.nil_append, List.getD_cons_zero, List.getD_cons_succ, mkS, mkP, and_true, true_and, Int.not_lt, Int.not_le, not_or, not_and, Classical.not_not, ne_eq, not_true_eq_false, not_false_eq_true]
      omega
    · simp at h
  have hB : (fscaleL [a0, a1, a6]).getD 2 0 = 0 → holdsB [(fscaleL [a0, a1, a6]).getD 0 0, (fscaleL [a0, a1, a6]).getD 1 0, IntKind.i64.wrap (a6 * a4)] = true := by
    intro h
    unfold fscaleL at h ⊢
    rw [if_pos r0] at h ⊢
    split at h
    · split at h
      · rename_i h2 h3
        rw [if_pos h2, if_pos h3]
        simp only [TX.sat, XB.prop, X.den, List.map_cons, List.map_nil, List.getElem?_cons_zero, List.getElem?_cons_succ, List.cons_append, List.nil_append, List.getD_cons_zero, List.getD_cons_succ, mkS, mkP, and_true, true_and, Int.not_lt, Int.not_le, not_or, not_and, Classical.not_not, ne_eq, not_true_eq_false, not_false_eq_true] at h2
        have k1 := mul_abs_le (x := a6) (y := a4) (m := 1048576) (n := 1099511627776) (by omega) (by omega)
        rw [wrap64 (x := a6 * a4) (by omega) (by omega)]
        have m1 : 0 ≤ a6 → a6 * a0 ≤ a6 * a4 ∧ a6 * a4 ≤ a6 * a1 := fun h => ⟨Int.mul_le_mul_of_nonneg_left h4.1 h, Int.mul_le_mul_of_nonneg_left h4.2 h⟩
        have m2 : a6 ≤ 0 → a6 * a1 ≤ a6 * a4 ∧ a6 * a4 ≤ a6 * a0 := fun h => ⟨Int.mul_le_mul_of_nonpos_left h h4.2, Int.mul_le_mul_of_nonpos_left h h4.1⟩
        simp only [holdsB, dec_true, scB, TX.sat, XB.prop, X.den, List.map_cons, List.map_nil, List.getElem?_cons_zero, List.getElem?_cons_succ, List.cons_append, List.nil_append, List.getD_cons_zero, List.getD_cons_succ, mkS, mkP, and_true, true_and, Int.not_lt, Int.not_le, not_or, not_and, Classical.not_not, ne_eq, not_true_eq_false, not_false_eq_true]
        omega
      · simp at h
    · simp at h
  have hC : (fdivL [a0, a1, a6]).getD 2 0 = 0 → (floorGL [a4, a6]).getD 1 0 = 0 ∧ holdsB [(fdivL [a0, a1, a6]).getD 0 0, (fdivL [a0, a1, a6]).getD 1 0, (floorGL [a4, a6]).getD 0 0] = true := by
    intro h
    unfold fdivL at h ⊢
    unfold floorGL
    rw [if_pos r0] at h ⊢
    split at h
    · rename_i h2
      rw [if_pos h2]
      simp only [TX.sat, XB.prop, X.den, List.map_cons, List.map_nil, List.getElem?_cons_zero, List.getElem?_cons_succ, List.cons_append, List.nil_append, List.getD_cons_zero, List.getD_cons_succ, mkS, mkP, and_true, true_and, Int.not_lt, Int.not_le, not_or, not_and, Classical.not_not, ne_eq, not_true_eq_false, not_false_eq_true] at h2 ⊢
      rw [if_neg (by omega)]
      refine ⟨rfl, ?_⟩
      simp only [holdsB, dec_true, TX.sat, XB.prop, X.den, List.map_cons, List.map_nil, List.getElem?_cons_zero, List.getElem?_cons_succ, List.cons_append, List.nil_append, List.getD_cons_zero, List.getD_cons_succ, mkS, mkP, and_true, true_and, Int.not_lt, Int.not_le, not_or, not_and, Classical.not_not, ne_eq, not_true_eq_false, not_false_eq_true]
      exact ⟨div_mono (by omega) h4.1, div_mono (by omega) h4.2⟩
    · simp at h
  have hD : (fjoinL [a0, a1, a2, a3]).getD 2 0 = 0 ∧ holdsB [(fjoinL [a0, a1, a2, a3]).getD 0 0, (fjoinL [a0, a1, a2, a3]).getD 1 0, a4] = true ∧ holdsB [(fjoinL [a0, a1, a2, a3]).getD 0 0, (fjoinL [a0, a1, a2, a3]).getD 1 0, a5] = true := by
    unfold fjoinL
    rw [if_pos q0, if_pos q2]
    simp only [holdsB, dec_true, TX.sat, XB.prop, X.den, List.map_cons, List.map_nil, List.getElem?_cons_zero, List.getElem?_cons_succ, List.cons_append, List.nil_append, List.getD_cons_zero, List.getD_cons_succ, mkS, mkP, and_true, true_and, Int.not_lt, Int.not_le, not_or, not_and, Classical.not_not, ne_eq, not_true_eq_false, not_false_eq_true]
    omega
  obtain ⟨d1, d2, d3⟩ := hD
  rw [d2, d3, d1]
  by_cases eA : (faddL [a0, a1, a2, a3]).getD 2 0 = 0 <;> by_cases eB : (fscaleL [a0, a1, a6]).getD 2 0 = 0 <;> by_cases eC : (fdivL [a0, a1, a6]).getD 2 0 = 0
  all_goals
    try rw [hA eA]
    try rw [hB eB]
    try rw [(hC eC).2, (hC eC).1]
    simp only [eA, eB, eC, b01, er]
    simp

theorem range_nil : rangeOK [] [] := trivial
set_option maxRecDepth 100000 in
theorem lifted (os : Os) (started : os.Started) (H : Type) (enc : TypeId × Value → H) :
    ReturnsInHanded {} Try.checked os 15 .any (Rows.fixedHoldsSpec.pre6 enc Try.prog Try.f15 Rows.fixedHoldsRow.domain false) (Rows.fixedHoldsSpec.post enc Try.prog Try.f15 false true false false) := by
  refine returnsInHanded_of_change (C := Try.checked) facts.own started (by kernel_rfl) Try.func15
    (ChangeSpec.witness6 (enc := enc) (C := Try.checked) false ⟨#[], #[.agg #[.int .i64 0, .int .i64 0], .agg #[.int .i64 0, .int .i64 0], .int .i64 0, .int .i64 0, .int .i64 0], []⟩ 8 (by kernel_rfl) (by kernel_rfl) (by kernel_rfl) (by kernel_rfl)) ?_
  intro W base args ds gs before hval0 hW hcnd _
  have hval : ∀ (j : Nat) t v, Try.f15.params[j]? = some t → args[j]? = some v → Value.okWide Try.prog W .any base t v := hval0
  have hW' := hW
  obtain ⟨p, q, hA0, hV, rfl, hfz, hnd⟩ := hW
  have hA : DataW.TrodAll enc Try.prog W 0 (fun _ => true) true Try.f15.params.toList args.toList ds p := hA0
  rw [Try.params15] at hA hval
  obtain ⟨v0, vs0, d0, ds0, p0, q0, hargs, rfl, rfl, h0, r0⟩ := trodAll_cons hA
  obtain ⟨v1, vs1, d1, ds1, p1, q1, rfl, rfl, rfl, h1, r1⟩ := trodAll_cons r0
  obtain ⟨v2, vs2, d2, ds2, p2, q2, rfl, rfl, rfl, h2, r2⟩ := trodAll_cons r1
  obtain ⟨v3, vs3, d3, ds3, p3, q3, rfl, rfl, rfl, h3, r3⟩ := trodAll_cons r2
  obtain ⟨v4, vs4, d4, ds4, p4, q4, rfl, rfl, rfl, h4, r4⟩ := trodAll_cons r3
  obtain ⟨rfl, rfl, rfl⟩ := trodAll_nil r4
  obtain rfl : args = #[v0, v1, v2, v3, v4] := by cases args; simp_all
  obtain ⟨rfl, rfl⟩ := trodVars_none hV
  have k0 := h0
  have lt0 : ∀ x ∈ p0, x.block < W.heap.size := by obtain ⟨m, hm⟩ := k0; exact DataW.trod_lt m _ _ _ hm
  have k1 := h1
  have lt1 : ∀ x ∈ p1, x.block < W.heap.size := by obtain ⟨m, hm⟩ := k1; exact DataW.trod_lt m _ _ _ hm
  have k2 := h2
  have lt2 : ∀ x ∈ p2, x.block < W.heap.size := by obtain ⟨m, hm⟩ := k2; exact DataW.trod_lt m _ _ _ hm
  have k3 := h3
  have lt3 : ∀ x ∈ p3, x.block < W.heap.size := by obtain ⟨m, hm⟩ := k3; exact DataW.trod_lt m _ _ _ hm
  have k4 := h4
  have lt4 : ∀ x ∈ p4, x.block < W.heap.size := by obtain ⟨m, hm⟩ := k4; exact DataW.trod_lt m _ _ _ hm
  obtain ⟨xs0, hv0, hr0⟩ := open_sh (sh := An 2) (by kernel_rfl) (by kernel_rfl) (hval 0 64 v0 rfl rfl) h0
  obtain ⟨xs1, hv1, hr1⟩ := open_sh (sh := An 2) (by kernel_rfl) (by kernel_rfl) (hval 1 64 v1 rfl rfl) h1
  obtain ⟨xs2, hv2, hr2⟩ := open_sh (sh := I1) (by kernel_rfl) (by kernel_rfl) (hval 2 3 v2 rfl rfl) h2
  obtain ⟨xs3, hv3, hr3⟩ := open_sh (sh := I1) (by kernel_rfl) (by kernel_rfl) (hval 3 3 v3 rfl rfl) h3
  obtain ⟨xs4, hv4, hr4⟩ := open_sh (sh := I1) (by kernel_rfl) (by kernel_rfl) (hval 4 3 v4 rfl rfl) h4
  clear hA0 hval0
  have hl0 := rangeOK_len hr0
  have hl1 := rangeOK_len hr1
  have hl2 := rangeOK_len hr2
  have hl3 := rangeOK_len hr3
  have hl4 := rangeOK_len hr4
  have hxs : #[v0, v1, v2, v3, v4] = (mkShs [An 2, An 2, I1, I1, I1] (xs0 ++ (xs1 ++ (xs2 ++ (xs3 ++ (xs4 ++ [])))))).toArray := by
    rw [mkShs_cons hl0, mkShs_cons hl1, mkShs_cons hl2, mkShs_cons hl3, mkShs_cons hl4]
    simp [mkShs, hv0, hv1, hv2, hv3, hv4]
  have hlen : (xs0 ++ (xs1 ++ (xs2 ++ (xs3 ++ (xs4 ++ []))))).length = total [An 2, An 2, I1, I1, I1] := by
    simp only [List.length_append, List.length_nil, hl0, hl1, hl2, hl3, hl4]
    rfl
  have hcalls := law_opt facts.mixed g_FixedHolds o_FixedHolds tree_FixedHolds hlen (range_vs ((rangeOK_app hr0 (rangeOK_app hr1 (rangeOK_app hr2 (rangeOK_app hr3 (rangeOK_app hr4 range_nil))))) : rangeOK _ _)) (plain xs0 hr0 xs1 hr1 xs2 hr2 xs3 hr3 xs4 hr4) W
  rw [← hxs] at hcalls
  refine hcalls.mono fun e W' ⟨he, bel⟩ => ?_
  subst he
  exact ⟨_, rfl, _, _, _, [], _, [], hW', trodAll_mk1 (shut_bool Try.underlying4 _), (trodAll_cons_mk (Below.trod facts.laidOut (by kernel_rfl) (of_decide_eq_true (by kernel_rfl)) k0 bel lt0) (trodAll_cons_mk (Below.trod facts.laidOut (by kernel_rfl) (of_decide_eq_true (by kernel_rfl)) k1 bel lt1) (trodAll_cons_mk (Below.trod facts.laidOut (by kernel_rfl) (of_decide_eq_true (by kernel_rfl)) k2 bel lt2) (trodAll_cons_mk (Below.trod facts.laidOut (by kernel_rfl) (of_decide_eq_true (by kernel_rfl)) k3 bel lt3) (trodAll_cons_mk (Below.trod facts.laidOut (by kernel_rfl) (of_decide_eq_true (by kernel_rfl)) k4 bel lt4) trodAll_mk0))))), rfl, bel.frame _, fun h => by cases h⟩

theorem over : Rows.fixedHoldsRow.holds Try.pinned (OpenSpec.ofChange Rows.fixedHoldsSpec) :=
  OpenClaim.holds_of_wide 15 Try.f15 rfl rfl rfl rfl rfl rfl rfl ⟨rfl, rfl, rfl, rfl, rfl⟩ rfl rfl rfl rfl rfl (by kernel_rfl) Try.func15
    (facts.joined (by kernel_rfl) (by kernel_rfl) (by kernel_rfl) (by kernel_rfl) (by kernel_rfl) (by kernel_rfl) (by kernel_rfl) rfl rfl rfl rfl)
    (of_decide_eq_true (by kernel_rfl)) (by unfold Func.isWrapper; first | (rw [if_pos (by decide +kernel)]; kernel_rfl) | (rw [if_neg (by decide +kernel)]; exact ⟨rfl, rfl⟩))
    (fun os started H enc _ => lifted os started H enc)

/-- THE STATEMENT. -/
theorem proved : Rows.FixedHoldsSaid := over
#print axioms proved

end Go.Proofs.Ytlgcjkolakcfiaa.fixedHolds
