/-
  The law PlaneBetween is answered with true, whatever its arguments, which stay as they were.
-/
import Derived.Test.YtlgcjkolakcfiaaRows
import Derived.Test.YtlgcjkolakcfiaaFacts
import Derived.Test.YtlgcjkolakcfiaaLive
set_option linter.unusedVariables false
set_option linter.unusedSimpArgs false
namespace Go.Proofs.Ytlgcjkolakcfiaa.planeBetween
open Go.RowKit Go.ChangeShapes Go.WideShapes Go.ChangeAt Go.Sx fix

theorem least {w0 w1 w2 d0 d1 d2 n t : Int} (ht : 0 < t) (hs : w0 + w1 + w2 = t) (h0 : 0 ≤ w0) (h1 : 0 ≤ w1) (h2 : 0 ≤ w2) (hn : n = w0 * d0 + w1 * d1 + w2 * d2) : min (min d0 d1) d2 ≤ n / t ∧ n / t ≤ max (max d0 d1) d2 := by
  have := weighed (m := min (min d0 d1) d2) (n := max (max d0 d1) d2) (d0 := d0) (d1 := d1) (d2 := d2) h0 h1 h2 ⟨by omega, by omega⟩ ⟨by omega, by omega⟩ ⟨by omega, by omega⟩
  rw [hs, ← hn] at this
  exact div_between ht this.1 this.2

def G_PlaneBetween : List Sum := [s_alive22, s_plat, s_scheck]
def I_PlaneBetween : List Inf := [i_alive22, i_plat, i_scheck]
def t_PlaneBetween : TX := (.callp 0 [] (.callp 1 [(.v 0), (.v 1), (.v 2), (.v 3), (.v 4), (.v 5), (.v 6), (.v 7), (.v 8), (.v 9), (.v 10), (.v 11), (.v 12), (.v 13), (.v 14), (.v 15), (.v 16)] (.ite (.not (.eq (.v 23) (.c 0))) (.ite (.and (.eq (.v 18) (.c 0)) (.and (.eq (.v 19) (.c 0)) (.and (.eq (.v 20) (.c 0)) (.and (.eq (.v 21) (.c 0)) (.eq (.v 22) (.c 0)))))) (.ret [(.c 1)])
(.ret [(.c 0)]))
(.ite (.or (.or (.lt (.v 20) (.mn (.mn (.v 2) (.v 7)) (.v 12))) (.lt (.mx (.mx (.v 2) (.v 7)) (.v 12)) (.v 20))) (.or (.or (.lt (.v 21) (.mn (.mn (.v 3) (.v 8)) (.v 13))) (.lt (.mx (.mx (.v 3) (.v 8)) (.v 13)) (.v 21))) (.or (.lt (.v 22) (.mn (.mn (.v 4) (.v 9)) (.v 14))) (.lt (.mx (.mx (.v 4) (.v 9)) (.v 14)) (.v 22))))) (.ret [(.c 0)])
(.callp 2 [(.v 18), (.v 19), (.v 20), (.v 21), (.v 22)] (.ite (.or (.not (.eq (.v 24) (.c 0))) (.not (.eq (.v 18) (.wr .i64 (.add (.wr .i64 (.mul (.c 8) (.v 15))) (.c 4)))))) (.ret [(.c 0)])
(.ite (.eq (.v 19) (.wr .i64 (.add (.wr .i64 (.mul (.c 8) (.v 16))) (.c 4)))) (.ret [(.c 1)])
(.ret [(.c 0)]))))))))
theorem tree_PlaneBetween : merge (opt I_PlaneBetween (((An 15).ks ++ (I1.ks ++ (I1.ks ++ []))).map ivK) (symFn Try.prog G_PlaneBetween 1000 27 [An 15, I1, I1] [Bo])) = t_PlaneBetween := by kernel_rfl
theorem g_PlaneBetween : Gok Try.prog G_PlaneBetween := (more ok_alive22 (more ok_plat (one ok_scheck)))
theorem o_PlaneBetween : outsOK G_PlaneBetween I_PlaneBetween := (outsOK_cons inf_alive22 (outsOK_cons inf_plat (outsOK_cons inf_scheck outsOK_nil)))
theorem plain (xs0 : List Int) (hr0 : rangeOK (An 15).ks xs0) (xs1 : List Int) (hr1 : rangeOK I1.ks xs1) (xs2 : List Int) (hr2 : rangeOK I1.ks xs2) : t_PlaneBetween.sat G_PlaneBetween [] (fun ys => ys = [1]) (xs0 ++ (xs1 ++ (xs2 ++ []))) := by
  obtain ⟨l0, i0⟩ := An_inv hr0
  obtain ⟨a0, a1, a2, a3, a4, a5, a6, a7, a8, a9, a10, a11, a12, a13, a14, rfl⟩ := len15 l0
  obtain ⟨a15, rfl, i1⟩ := I1_inv hr1
  obtain ⟨a16, rfl, i2⟩ := I1_inv hr2
  have hE := @edges_ok [a0, a1, a2, a3, a4, a5, a6, a7, a8, a9, a10, a11, a12, a13, a14, a15, a16]
  simp only [t_PlaneBetween, G_PlaneBetween, s_alive22, s_plat, s_scheck, TX.sat, XB.prop, X.den, List.map_cons, List.map_nil, List.getElem?_cons_zero, List.getElem?_cons_succ, List.cons_append, List.nil_append, List.getD_cons_zero, List.getD_cons_succ, mkS, mkP, and_true, true_and, Int.not_lt, Int.not_le, not_or, not_and, Classical.not_not, ne_eq, not_true_eq_false, not_false_eq_true, sem_alive22, sem_alive, sem_plat, sem_scheck, ex6]
  by_cases he : (edgesL [a0, a1, a2, a3, a4, a5, a6, a7, a8, a9, a10, a11, a12, a13, a14, a15, a16]).getD 3 0 = 0
  · obtain ⟨h1, h2, h3, hv⟩ := hE he
    cases hb : hasB [a0, a1, a2, a3, a4, a5, a6, a7, a8, a9, a10, a11, a12, a13, a14, a15, a16] with
    | true =>
      have hA : atL [a0, a1, a2, a3, a4, a5, a6, a7, a8, a9, a10, a11, a12, a13, a14, a15, a16] = _ := (if_pos he).trans (if_pos hb)
      obtain ⟨k1, k2, k3⟩ := at_between h1 h2 hb
      obtain ⟨f1, f2, f3, f4, f5, f6⟩ := at_facts h1 h2 hb
      obtain ⟨w0, w1, w2⟩ := w_nonneg hb
      have hs := w_sum [a0, a1, a2, a3, a4, a5, a6, a7, a8, a9, a10, a11, a12, a13, a14, a15, a16]
      have ht := tri_spots h1
      have b1 := least (d0 := a2) (d1 := a7) (d2 := a12) (n := deepV [a0, a1, a2, a3, a4, a5, a6, a7, a8, a9, a10, a11, a12, a13, a14, a15, a16]) h2 hs w0 w1 w2 rfl
      simp only [TX.sat, XB.prop, X.den, List.map_cons, List.map_nil, List.getElem?_cons_zero, List.getElem?_cons_succ, List.cons_append, List.nil_append, List.getD_cons_zero, List.getD_cons_succ, mkS, mkP, and_true, true_and, Int.not_lt, Int.not_le, not_or, not_and, Classical.not_not, ne_eq, not_true_eq_false, not_false_eq_true] at ht
      have b2 := least (w0 := wgt [a0, a1, a2, a3, a4, a5, a6, a7, a8, a9, a10, a11, a12, a13, a14, a15, a16] 5 10 15 * a2) (w1 := wgt [a0, a1, a2, a3, a4, a5, a6, a7, a8, a9, a10, a11, a12, a13, a14, a15, a16] 10 0 15 * a7) (w2 := wgt [a0, a1, a2, a3, a4, a5, a6, a7, a8, a9, a10, a11, a12, a13, a14, a15, a16] 0 5 15 * a12) (d0 := a3) (d1 := a8) (d2 := a13) (n := texV [a0, a1, a2, a3, a4, a5, a6, a7, a8, a9, a10, a11, a12, a13, a14, a15, a16] 3) (t := deepV [a0, a1, a2, a3, a4, a5, a6, a7, a8, a9, a10, a11, a12, a13, a14, a15, a16]) (by omega) rfl (Int.mul_nonneg w0 (by omega)) (Int.mul_nonneg w1 (by omega)) (Int.mul_nonneg w2 (by omega)) rfl
      have b3 := least (w0 := wgt [a0, a1, a2, a3, a4, a5, a6, a7, a8, a9, a10, a11, a12, a13, a14, a15, a16] 5 10 15 * a2) (w1 := wgt [a0, a1, a2, a3, a4, a5, a6, a7, a8, a9, a10, a11, a12, a13, a14, a15, a16] 10 0 15 * a7) (w2 := wgt [a0, a1, a2, a3, a4, a5, a6, a7, a8, a9, a10, a11, a12, a13, a14, a15, a16] 0 5 15 * a12) (d0 := a4) (d1 := a9) (d2 := a14) (n := texV [a0, a1, a2, a3, a4, a5, a6, a7, a8, a9, a10, a11, a12, a13, a14, a15, a16] 4) (t := deepV [a0, a1, a2, a3, a4, a5, a6, a7, a8, a9, a10, a11, a12, a13, a14, a15, a16]) (by omega) rfl (Int.mul_nonneg w0 (by omega)) (Int.mul_nonneg w1 (by omega)) (Int.mul_nonneg w2 (by omega)) rfl
      have hpx := pixB_true.1 h3
      simp only [TX.sat, XB.prop, X.den, List.map_cons, List.map_nil, List.getElem?_cons_zero, List.getElem?_cons_succ, List.cons_append, List.nil_append, List.getD_cons_zero, List.getD_cons_succ, mkS, mkP, and_true, true_and, Int.not_lt, Int.not_le, not_or, not_and, Classical.not_not, ne_eq, not_true_eq_false, not_false_eq_true, Nat.reduceAdd] at hpx
      rw [hA]
      simp only [TX.sat, XB.prop, X.den, List.map_cons, List.map_nil, List.getElem?_cons_zero, List.getElem?_cons_succ, List.cons_append, List.nil_append, List.getD_cons_zero, List.getD_cons_succ, mkS, mkP, and_true, true_and, Int.not_lt, Int.not_le, not_or, not_and, Classical.not_not, ne_eq, not_true_eq_false, not_false_eq_true, if_true, reduceIte]
      clear hE hA he hv hs h1 h3 hb f1 f2 f3 f4 f5 f6 w0 w1 w2
      generalize deepV _ / _ = d at *
      generalize texV _ 3 / _ = u at *
      generalize texV _ 4 / _ = v at *
      have hsp : spotB [8 * a15 + 4, 8 * a16 + 4, d, u, v] 0 = true := by
        rw [spotB_true]
        simp only [TX.sat, XB.prop, X.den, List.map_cons, List.map_nil, List.getElem?_cons_zero, List.getElem?_cons_succ, List.cons_append, List.nil_append, List.getD_cons_zero, List.getD_cons_succ, mkS, mkP, and_true, true_and, Int.not_lt, Int.not_le, not_or, not_and, Classical.not_not, ne_eq, not_true_eq_false, not_false_eq_true, Nat.reduceAdd, Nat.zero_add]
        omega
      rw [wrap64 (x := 8 * a15) (by omega) (by omega), wrap64 (x := 8 * a16) (by omega) (by omega), wrap64 (x := 8 * a15 + 4) (by omega) (by omega), wrap64 (x := 8 * a16 + 4) (by omega) (by omega)]
      rw [hsp]
      refine ⟨fun h => h.elim, fun _ => ⟨fun h => ?_, fun _ => ?_⟩⟩
      · exfalso; omega
      · simp [er]
    | false =>
      have hA : atL [a0, a1, a2, a3, a4, a5, a6, a7, a8, a9, a10, a11, a12, a13, a14, a15, a16] = _ := (if_pos he).trans (if_neg (by rw [hb]; simp))
      rw [hA]
      simp
  · have hA : atL [a0, a1, a2, a3, a4, a5, a6, a7, a8, a9, a10, a11, a12, a13, a14, a15, a16] = _ := if_neg he
    rw [hA]
    simp only [TX.sat, XB.prop, X.den, List.map_cons, List.map_nil, List.getElem?_cons_zero, List.getElem?_cons_succ, List.cons_append, List.nil_append, List.getD_cons_zero, List.getD_cons_succ, mkS, mkP, and_true, true_and, Int.not_lt, Int.not_le, not_or, not_and, Classical.not_not, ne_eq, not_true_eq_false, not_false_eq_true]
    exact ⟨fun _ => ⟨fun _ => trivial, fun h => (h trivial trivial trivial trivial).elim⟩, fun h => absurd h he⟩

theorem range_nil : rangeOK [] [] := trivial
set_option maxRecDepth 100000 in
theorem lifted (os : Os) (started : os.Started) (H : Type) (enc : TypeId × Value → H) :
    ReturnsInHanded {} Try.checked os 27 .any (Rows.planeBetweenSpec.pre6 enc Try.prog Try.f27 Rows.planeBetweenRow.domain false) (Rows.planeBetweenSpec.post enc Try.prog Try.f27 false true false false) := by
  refine returnsInHanded_of_change (C := Try.checked) facts.own started (by kernel_rfl) Try.func27
    (ChangeSpec.witness6 (enc := enc) (C := Try.checked) false ⟨#[], #[.agg #[.int .i64 0, .int .i64 0, .int .i64 0, .int .i64 0, .int .i64 0, .int .i64 0, .int .i64 0, .int .i64 0, .int .i64 0, .int .i64 0, .int .i64 0, .int .i64 0, .int .i64 0, .int .i64 0, .int .i64 0], .int .i64 0, .int .i64 0], []⟩ 8 (by kernel_rfl) (by kernel_rfl) (by kernel_rfl) (by kernel_rfl)) ?_
  intro W base args ds gs before hval0 hW hcnd _
  have hval : ∀ (j : Nat) t v, Try.f27.params[j]? = some t → args[j]? = some v → Value.okWide Try.prog W .any base t v := hval0
  have hW' := hW
  obtain ⟨p, q, hA0, hV, rfl, hfz, hnd⟩ := hW
  have hA : DataW.TrodAll enc Try.prog W 0 (fun _ => true) true Try.f27.params.toList args.toList ds p := hA0
  rw [Try.params27] at hA hval
  obtain ⟨v0, vs0, d0, ds0, p0, q0, hargs, rfl, rfl, h0, r0⟩ := trodAll_cons hA
  obtain ⟨v1, vs1, d1, ds1, p1, q1, rfl, rfl, rfl, h1, r1⟩ := trodAll_cons r0
  obtain ⟨v2, vs2, d2, ds2, p2, q2, rfl, rfl, rfl, h2, r2⟩ := trodAll_cons r1
  obtain ⟨rfl, rfl, rfl⟩ := trodAll_nil r2
  obtain rfl : args = #[v0, v1, v2] := by cases args; simp_all
  obtain ⟨rfl, rfl⟩ := trodVars_none hV
  have k0 := h0
  have lt0 : ∀ x ∈ p0, x.block < W.heap.size := by obtain ⟨m, hm⟩ := k0; exact DataW.trod_lt m _ _ _ hm
  have k1 := h1
  have lt1 : ∀ x ∈ p1, x.block < W.heap.size := by obtain ⟨m, hm⟩ := k1; exact DataW.trod_lt m _ _ _ hm
  have k2 := h2
  have lt2 : ∀ x ∈ p2, x.block < W.heap.size := by obtain ⟨m, hm⟩ := k2; exact DataW.trod_lt m _ _ _ hm
  obtain ⟨xs0, hv0, hr0⟩ := open_sh (sh := An 15) (by kernel_rfl) (by kernel_rfl) (hval 0 29 v0 rfl rfl) h0
  obtain ⟨xs1, hv1, hr1⟩ := open_sh (sh := I1) (by kernel_rfl) (by kernel_rfl) (hval 1 3 v1 rfl rfl) h1
  obtain ⟨xs2, hv2, hr2⟩ := open_sh (sh := I1) (by kernel_rfl) (by kernel_rfl) (hval 2 3 v2 rfl rfl) h2
  clear hA0 hval0
  have hl0 := rangeOK_len hr0
  have hl1 := rangeOK_len hr1
  have hl2 := rangeOK_len hr2
  have hxs : #[v0, v1, v2] = (mkShs [An 15, I1, I1] (xs0 ++ (xs1 ++ (xs2 ++ [])))).toArray := by
    rw [mkShs_cons hl0, mkShs_cons hl1, mkShs_cons hl2]
    simp [mkShs, hv0, hv1, hv2]
  have hlen : (xs0 ++ (xs1 ++ (xs2 ++ []))).length = total [An 15, I1, I1] := by
    simp only [List.length_append, List.length_nil, hl0, hl1, hl2]
    rfl
  have hcalls := law_opt facts.mixed g_PlaneBetween o_PlaneBetween tree_PlaneBetween hlen (range_vs ((rangeOK_app hr0 (rangeOK_app hr1 (rangeOK_app hr2 range_nil))) : rangeOK _ _)) (plain xs0 hr0 xs1 hr1 xs2 hr2) W
  rw [← hxs] at hcalls
  refine hcalls.mono fun e W' ⟨he, bel⟩ => ?_
  subst he
  exact ⟨_, rfl, _, _, _, [], _, [], hW', trodAll_mk1 (shut_bool Try.underlying4 _), (trodAll_cons_mk (Below.trod facts.laidOut (by kernel_rfl) (of_decide_eq_true (by kernel_rfl)) k0 bel lt0) (trodAll_cons_mk (Below.trod facts.laidOut (by kernel_rfl) (of_decide_eq_true (by kernel_rfl)) k1 bel lt1) (trodAll_cons_mk (Below.trod facts.laidOut (by kernel_rfl) (of_decide_eq_true (by kernel_rfl)) k2 bel lt2) trodAll_mk0))), rfl, bel.frame _, fun h => by cases h⟩

theorem over : Rows.planeBetweenRow.holds Try.pinned (OpenSpec.ofChange Rows.planeBetweenSpec) :=
  OpenClaim.holds_of_wide 27 Try.f27 rfl rfl rfl rfl rfl rfl rfl ⟨rfl, rfl, rfl, rfl, rfl⟩ rfl rfl rfl rfl rfl (by kernel_rfl) Try.func27
    (facts.joined (by kernel_rfl) (by kernel_rfl) (by kernel_rfl) (by kernel_rfl) (by kernel_rfl) (by kernel_rfl) (by kernel_rfl) rfl rfl rfl rfl)
    (of_decide_eq_true (by kernel_rfl)) (by unfold Func.isWrapper; first | (rw [if_pos (by decide +kernel)]; kernel_rfl) | (rw [if_neg (by decide +kernel)]; exact ⟨rfl, rfl⟩))
    (fun os started H enc _ => lifted os started H enc)

/-- THE STATEMENT. -/
theorem proved : Rows.PlaneBetweenSaid := over
#print axioms proved

end Go.Proofs.Ytlgcjkolakcfiaa.planeBetween
