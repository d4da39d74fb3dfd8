/-
  The law PlaneFlat is answered with true, whatever its arguments, which stay as they were.
-/
import Derived.Test.YtlgcjkolakcfiaaRows
import Derived.Test.YtlgcjkolakcfiaaFacts
import Derived.Test.YtlgcjkolakcfiaaLive
set_option linter.unusedVariables false
set_option linter.unusedSimpArgs false
namespace Go.Proofs.Ytlgcjkolakcfiaa.planeFlat
open Go.RowKit Go.ChangeShapes Go.WideShapes Go.ChangeAt Go.Sx fix

theorem small {w d m : Int} (h1 : 0 ≤ w) (h2 : w ≤ m) (k1 : 0 ≤ d) (k2 : d ≤ 255) : 0 ≤ w * d ∧ w * d ≤ m * 255 :=
  ⟨Int.mul_nonneg h1 k1, Int.mul_le_mul h2 k2 k1 (by omega)⟩

def G_PlaneFlat : List Sum := [s_alive22, s_plat, s_edges, s_floor]
def I_PlaneFlat : List Inf := [i_alive22, i_plat, i_edges, i_floor]
def t_PlaneFlat : TX := (.callp 0 [] (.callp 1 [(.v 0), (.v 1), (.v 2), (.v 3), (.v 4), (.v 5), (.v 6), (.v 2), (.v 8), (.v 9), (.v 10), (.v 11), (.v 2), (.v 13), (.v 14), (.v 15), (.v 16)] (.ite (.not (.eq (.v 23) (.c 0))) (.ret [(.c 1)])
(.callp 2 [(.v 0), (.v 1), (.v 2), (.v 3), (.v 4), (.v 5), (.v 6), (.v 2), (.v 8), (.v 9), (.v 10), (.v 11), (.v 2), (.v 13), (.v 14), (.v 15), (.v 16)] (.call 3 [(.wr .i64 (.add (.wr .i64 (.add (.wr .i64 (.mul (.v 24) (.v 3))) (.wr .i64 (.mul (.v 25) (.v 8))))) (.wr .i64 (.mul (.v 26) (.v 13))))), (.add (.add (.v 24) (.v 25)) (.v 26))] (.call 3 [(.wr .i64 (.add (.wr .i64 (.add (.wr .i64 (.mul (.v 24) (.v 4))) (.wr .i64 (.mul (.v 25) (.v 9))))) (.wr .i64 (.mul (.v 26) (.v 14))))), (.add (.add (.v 24) (.v 25)) (.v 26))] (.ite (.and (.and (.and (.and (.and (.and (.nz (.v 17)) (.eq (.v 27) (.c 0))) (.eq (.v 29) (.c 0))) (.eq (.v 31) (.c 0))) (.eq (.v 20) (.v 2))) (.eq (.v 21) (.v 28))) (.eq (.v 22) (.v 30))) (.ret [(.c 1)])
(.ret [(.c 0)]))))))))
theorem tree_PlaneFlat : merge (opt I_PlaneFlat (((An 15).ks ++ (I1.ks ++ (I1.ks ++ []))).map ivK) (symFn Try.prog G_PlaneFlat 1000 29 [An 15, I1, I1] [Bo])) = t_PlaneFlat := by kernel_rfl
theorem g_PlaneFlat : Gok Try.prog G_PlaneFlat := (more ok_alive22 (more ok_plat (more ok_edges (one ok_floor))))
theorem o_PlaneFlat : outsOK G_PlaneFlat I_PlaneFlat := (outsOK_cons inf_alive22 (outsOK_cons inf_plat (outsOK_cons inf_edges (outsOK_cons inf_floor outsOK_nil))))
theorem plain (xs0 : List Int) (hr0 : rangeOK (An 15).ks xs0) (xs1 : List Int) (hr1 : rangeOK I1.ks xs1) (xs2 : List Int) (hr2 : rangeOK I1.ks xs2) : t_PlaneFlat.sat G_PlaneFlat [] (fun ys => ys = [1]) (xs0 ++ (xs1 ++ (xs2 ++ []))) := by
  obtain ⟨l0, i0⟩ := An_inv hr0
  obtain ⟨a0, a1, a2, a3, a4, a5, a6, a7, a8, a9, a10, a11, a12, a13, a14, rfl⟩ := len15 l0
  obtain ⟨a15, rfl, i1⟩ := I1_inv hr1
  obtain ⟨a16, rfl, i2⟩ := I1_inv hr2
  have hE := @edges_ok [a0, a1, a2, a3, a4, a5, a6, a2, a8, a9, a10, a11, a2, a13, a14, a15, a16]
  simp only [t_PlaneFlat, G_PlaneFlat, s_alive22, s_plat, s_edges, s_floor, TX.sat, XB.prop, X.den, List.map_cons, List.map_nil, List.getElem?_cons_zero, List.getElem?_cons_succ, List.cons_append, List.nil_append, List.getD_cons_zero, List.getD_cons_succ, mkS, mkP, and_true, true_and, Int.not_lt, Int.not_le, not_or, not_and, Classical.not_not, ne_eq, not_true_eq_false, not_false_eq_true, sem_alive22, sem_alive, sem_plat, sem_edges, sem_floor, ex6, ex4]
  by_cases he : (edgesL [a0, a1, a2, a3, a4, a5, a6, a2, a8, a9, a10, a11, a2, a13, a14, a15, a16]).getD 3 0 = 0
  · obtain ⟨h1, h2, h3, hv⟩ := hE he
    cases hb : hasB [a0, a1, a2, a3, a4, a5, a6, a2, a8, a9, a10, a11, a2, a13, a14, a15, a16] with
    | true =>
      have hA : atL [a0, a1, a2, a3, a4, a5, a6, a2, a8, a9, a10, a11, a2, a13, a14, a15, a16] = _ := (if_pos he).trans (if_pos hb)
      obtain ⟨w0, w1, w2⟩ := w_nonneg hb
      have hs := w_sum [a0, a1, a2, a3, a4, a5, a6, a2, a8, a9, a10, a11, a2, a13, a14, a15, a16]
      have ht := tri_spots h1
      simp only [TX.sat, XB.prop, X.den, List.map_cons, List.map_nil, List.getElem?_cons_zero, List.getElem?_cons_succ, List.cons_append, List.nil_append, List.getD_cons_zero, List.getD_cons_succ, mkS, mkP, and_true, true_and, Int.not_lt, Int.not_le, not_or, not_and, Classical.not_not, ne_eq, not_true_eq_false, not_false_eq_true] at ht
      have hT := twice_in h1
      have hd : deepV [a0, a1, a2, a3, a4, a5, a6, a2, a8, a9, a10, a11, a2, a13, a14, a15, a16] = a2 * twiceV [a0, a1, a2, a3, a4, a5, a6, a2, a8, a9, a10, a11, a2, a13, a14, a15, a16] := by
        rw [← hs]
        show wgt [a0, a1, a2, a3, a4, a5, a6, a2, a8, a9, a10, a11, a2, a13, a14, a15, a16] 5 10 15 * a2 + wgt [a0, a1, a2, a3, a4, a5, a6, a2, a8, a9, a10, a11, a2, a13, a14, a15, a16] 10 0 15 * a2 + wgt [a0, a1, a2, a3, a4, a5, a6, a2, a8, a9, a10, a11, a2, a13, a14, a15, a16] 0 5 15 * a2 = _
        grind
      have hu : texV [a0, a1, a2, a3, a4, a5, a6, a2, a8, a9, a10, a11, a2, a13, a14, a15, a16] 3 = a2 * (wgt [a0, a1, a2, a3, a4, a5, a6, a2, a8, a9, a10, a11, a2, a13, a14, a15, a16] 5 10 15 * a3 + wgt [a0, a1, a2, a3, a4, a5, a6, a2, a8, a9, a10, a11, a2, a13, a14, a15, a16] 10 0 15 * a8 + wgt [a0, a1, a2, a3, a4, a5, a6, a2, a8, a9, a10, a11, a2, a13, a14, a15, a16] 0 5 15 * a13) := by
        show wgt [a0, a1, a2, a3, a4, a5, a6, a2, a8, a9, a10, a11, a2, a13, a14, a15, a16] 5 10 15 * a2 * a3 + wgt [a0, a1, a2, a3, a4, a5, a6, a2, a8, a9, a10, a11, a2, a13, a14, a15, a16] 10 0 15 * a2 * a8 + wgt [a0, a1, a2, a3, a4, a5, a6, a2, a8, a9, a10, a11, a2, a13, a14, a15, a16] 0 5 15 * a2 * a13 = _
        grind
      have hw : texV [a0, a1, a2, a3, a4, a5, a6, a2, a8, a9, a10, a11, a2, a13, a14, a15, a16] 4 = a2 * (wgt [a0, a1, a2, a3, a4, a5, a6, a2, a8, a9, a10, a11, a2, a13, a14, a15, a16] 5 10 15 * a4 + wgt [a0, a1, a2, a3, a4, a5, a6, a2, a8, a9, a10, a11, a2, a13, a14, a15, a16] 10 0 15 * a9 + wgt [a0, a1, a2, a3, a4, a5, a6, a2, a8, a9, a10, a11, a2, a13, a14, a15, a16] 0 5 15 * a14) := by
        show wgt [a0, a1, a2, a3, a4, a5, a6, a2, a8, a9, a10, a11, a2, a13, a14, a15, a16] 5 10 15 * a2 * a4 + wgt [a0, a1, a2, a3, a4, a5, a6, a2, a8, a9, a10, a11, a2, a13, a14, a15, a16] 10 0 15 * a2 * a9 + wgt [a0, a1, a2, a3, a4, a5, a6, a2, a8, a9, a10, a11, a2, a13, a14, a15, a16] 0 5 15 * a2 * a14 = _
        grind
      rw [hA, hv]
      simp only [TX.sat, XB.prop, X.den, List.map_cons, List.map_nil, List.getElem?_cons_zero, List.getElem?_cons_succ, List.cons_append, List.nil_append, List.getD_cons_zero, List.getD_cons_succ, mkS, mkP, and_true, true_and, Int.not_lt, Int.not_le, not_or, not_and, Classical.not_not, ne_eq, not_true_eq_false, not_false_eq_true, if_true, reduceIte, hd, hu, hw, hs]
      clear hE hA he hv h1 h3 hb hd hu hw i0 i1 i2 l0
      generalize wgt [a0, a1, a2, a3, a4, a5, a6, a2, a8, a9, a10, a11, a2, a13, a14, a15, a16] 5 10 15 = v0 at *
      generalize wgt [a0, a1, a2, a3, a4, a5, a6, a2, a8, a9, a10, a11, a2, a13, a14, a15, a16] 10 0 15 = v1 at *
      generalize wgt [a0, a1, a2, a3, a4, a5, a6, a2, a8, a9, a10, a11, a2, a13, a14, a15, a16] 0 5 15 = v2 at *
      generalize twiceV _ = n at *
      have p0 := small (w := v0) (m := n) w0 (by omega) ht.1.2.2.2.1.1 ht.1.2.2.2.1.2
      have p1 := small (w := v1) (m := n) w1 (by omega) ht.2.1.2.2.2.1.1 ht.2.1.2.2.2.1.2
      have p2 := small (w := v2) (m := n) w2 (by omega) ht.2.2.2.2.2.1.1 ht.2.2.2.2.2.1.2
      have q0 := small (w := v0) (m := n) w0 (by omega) ht.1.2.2.2.2.1 ht.1.2.2.2.2.2
      have q1 := small (w := v1) (m := n) w1 (by omega) ht.2.1.2.2.2.2.1 ht.2.1.2.2.2.2.2
      have q2 := small (w := v2) (m := n) w2 (by omega) ht.2.2.2.2.2.2.1 ht.2.2.2.2.2.2.2
      rw [wrap64 (x := v0 * a3) (by omega) (by omega), wrap64 (x := v1 * a8) (by omega) (by omega), wrap64 (x := v2 * a13) (by omega) (by omega), wrap64 (x := v0 * a3 + v1 * a8) (by omega) (by omega), wrap64 (x := v0 * a3 + v1 * a8 + v2 * a13) (by omega) (by omega)]
      rw [wrap64 (x := v0 * a4) (by omega) (by omega), wrap64 (x := v1 * a9) (by omega) (by omega), wrap64 (x := v2 * a14) (by omega) (by omega), wrap64 (x := v0 * a4 + v1 * a9) (by omega) (by omega), wrap64 (x := v0 * a4 + v1 * a9 + v2 * a14) (by omega) (by omega)]
      rw [Int.mul_ediv_mul_of_pos _ _ (by omega : 0 < a2), Int.mul_ediv_mul_of_pos _ _ (by omega : 0 < a2), Int.mul_ediv_cancel _ (by omega)]
      exact ⟨fun h => h.elim, fun _ => ⟨pin_dn (by omega) (by omega) (by omega) (by omega), pin_dn (by omega) (by omega) (by omega) (by omega), fun _ => trivial, fun h => absurd rfl (h ⟨⟨by decide, rfl⟩, rfl⟩)⟩⟩
    | false =>
      have hA : atL [a0, a1, a2, a3, a4, a5, a6, a2, a8, a9, a10, a11, a2, a13, a14, a15, a16] = _ := (if_pos he).trans (if_neg (by rw [hb]; simp))
      rw [hA]
      simp only [TX.sat, XB.prop, X.den, List.map_cons, List.map_nil, List.getElem?_cons_zero, List.getElem?_cons_succ, List.cons_append, List.nil_append, List.getD_cons_zero, List.getD_cons_succ, mkS, mkP, and_true, true_and, Int.not_lt, Int.not_le, not_or, not_and, Classical.not_not, ne_eq, not_true_eq_false, not_false_eq_true]
      exact ⟨fun _ => trivial, fun h => absurd h (by decide)⟩
  · have hA : atL [a0, a1, a2, a3, a4, a5, a6, a2, a8, a9, a10, a11, a2, a13, a14, a15, a16] = _ := if_neg he
    rw [hA]
    simp only [TX.sat, XB.prop, X.den, List.map_cons, List.map_nil, List.getElem?_cons_zero, List.getElem?_cons_succ, List.cons_append, List.nil_append, List.getD_cons_zero, List.getD_cons_succ, mkS, mkP, and_true, true_and, Int.not_lt, Int.not_le, not_or, not_and, Classical.not_not, ne_eq, not_true_eq_false, not_false_eq_true]
    exact ⟨fun _ => trivial, fun h => absurd h he⟩

theorem range_nil : rangeOK [] [] := trivial
set_option maxRecDepth 100000 in
theorem lifted (os : Os) (started : os.Started) (H : Type) (enc : TypeId × Value → H) :
    ReturnsInHanded {} Try.checked os 29 .any (Rows.planeFlatSpec.pre6 enc Try.prog Try.f29 Rows.planeFlatRow.domain false) (Rows.planeFlatSpec.post enc Try.prog Try.f29 false true false false) := by
  refine returnsInHanded_of_change (C := Try.checked) facts.own started (by kernel_rfl) Try.func29
    (ChangeSpec.witness6 (enc := enc) (C := Try.checked) false ⟨#[], #[.agg #[.int .i64 0, .int .i64 0, .int .i64 0, .int .i64 0, .int .i64 0, .int .i64 0, .int .i64 0, .int .i64 0, .int .i64 0, .int .i64 0, .int .i64 0, .int .i64 0, .int .i64 0, .int .i64 0, .int .i64 0], .int .i64 0, .int .i64 0], []⟩ 8 (by kernel_rfl) (by kernel_rfl) (by kernel_rfl) (by kernel_rfl)) ?_
  intro W base args ds gs before hval0 hW hcnd _
  have hval : ∀ (j : Nat) t v, Try.f29.params[j]? = some t → args[j]? = some v → Value.okWide Try.prog W .any base t v := hval0
  have hW' := hW
  obtain ⟨p, q, hA0, hV, rfl, hfz, hnd⟩ := hW
  have hA : DataW.TrodAll enc Try.prog W 0 (fun _ => true) true Try.f29.params.toList args.toList ds p := hA0
  rw [Try.params29] at hA hval
  obtain ⟨v0, vs0, d0, ds0, p0, q0, hargs, rfl, rfl, h0, r0⟩ := trodAll_cons hA
  obtain ⟨v1, vs1, d1, ds1, p1, q1, rfl, rfl, rfl, h1, r1⟩ := trodAll_cons r0
  obtain ⟨v2, vs2, d2, ds2, p2, q2, rfl, rfl, rfl, h2, r2⟩ := trodAll_cons r1
  obtain ⟨rfl, rfl, rfl⟩ := trodAll_nil r2
  obtain rfl : args = #[v0, v1, v2] := by cases args; simp_all
  obtain ⟨rfl, rfl⟩ := trodVars_none hV
  have k0 := h0
  have lt0 : ∀ x ∈ p0, x.block < W.heap.size := by obtain ⟨m, hm⟩ := k0; exact DataW.trod_lt m _ _ _ hm
  have k1 := h1
  have lt1 : ∀ x ∈ p1, x.block < W.heap.size := by obtain ⟨m, hm⟩ := k1; exact DataW.trod_lt m _ _ _ hm
  have k2 := h2
  have lt2 : ∀ x ∈ p2, x.block < W.heap.size := by obtain ⟨m, hm⟩ := k2; exact DataW.trod_lt m _ _ _ hm
  obtain ⟨xs0, hv0, hr0⟩ := open_sh (sh := An 15) (by kernel_rfl) (by kernel_rfl) (hval 0 29 v0 rfl rfl) h0
  obtain ⟨xs1, hv1, hr1⟩ := open_sh (sh := I1) (by kernel_rfl) (by kernel_rfl) (hval 1 3 v1 rfl rfl) h1
  obtain ⟨xs2, hv2, hr2⟩ := open_sh (sh := I1) (by kernel_rfl) (by kernel_rfl) (hval 2 3 v2 rfl rfl) h2
  clear hA0 hval0
  have hl0 := rangeOK_len hr0
  have hl1 := rangeOK_len hr1
  have hl2 := rangeOK_len hr2
  have hxs : #[v0, v1, v2] = (mkShs [An 15, I1, I1] (xs0 ++ (xs1 ++ (xs2 ++ [])))).toArray := by
    rw [mkShs_cons hl0, mkShs_cons hl1, mkShs_cons hl2]
    simp [mkShs, hv0, hv1, hv2]
  have hlen : (xs0 ++ (xs1 ++ (xs2 ++ []))).length = total [An 15, I1, I1] := by
    simp only [List.length_append, List.length_nil, hl0, hl1, hl2]
    rfl
  have hcalls := law_opt facts.mixed g_PlaneFlat o_PlaneFlat tree_PlaneFlat hlen (range_vs ((rangeOK_app hr0 (rangeOK_app hr1 (rangeOK_app hr2 range_nil))) : rangeOK _ _)) (plain xs0 hr0 xs1 hr1 xs2 hr2) W
  rw [← hxs] at hcalls
  refine hcalls.mono fun e W' ⟨he, bel⟩ => ?_
  subst he
  exact ⟨_, rfl, _, _, _, [], _, [], hW', trodAll_mk1 (shut_bool Try.underlying4 _), (trodAll_cons_mk (Below.trod facts.laidOut (by kernel_rfl) (of_decide_eq_true (by kernel_rfl)) k0 bel lt0) (trodAll_cons_mk (Below.trod facts.laidOut (by kernel_rfl) (of_decide_eq_true (by kernel_rfl)) k1 bel lt1) (trodAll_cons_mk (Below.trod facts.laidOut (by kernel_rfl) (of_decide_eq_true (by kernel_rfl)) k2 bel lt2) trodAll_mk0))), rfl, bel.frame _, fun h => by cases h⟩

theorem over : Rows.planeFlatRow.holds Try.pinned (OpenSpec.ofChange Rows.planeFlatSpec) :=
  OpenClaim.holds_of_wide 29 Try.f29 rfl rfl rfl rfl rfl rfl rfl ⟨rfl, rfl, rfl, rfl, rfl⟩ rfl rfl rfl rfl rfl (by kernel_rfl) Try.func29
    (facts.joined (by kernel_rfl) (by kernel_rfl) (by kernel_rfl) (by kernel_rfl) (by kernel_rfl) (by kernel_rfl) (by kernel_rfl) rfl rfl rfl rfl)
    (of_decide_eq_true (by kernel_rfl)) (by unfold Func.isWrapper; first | (rw [if_pos (by decide +kernel)]; kernel_rfl) | (rw [if_neg (by decide +kernel)]; exact ⟨rfl, rfl⟩))
    (fun os started H enc _ => lifted os started H enc)

/-- THE STATEMENT. -/
theorem proved : Rows.PlaneFlatSaid := over
#print axioms proved

end Go.Proofs.Ytlgcjkolakcfiaa.planeFlat
