/-
  The law SnapFar is answered with true, whatever the camera and the two corners, and its arguments stay as they were.
-/
import Derived.Test.YtlgcjkolakcfiaaRows
import Derived.Test.YtlgcjkolakcfiaaFacts
import Derived.Test.YtlgcjkolakcfiaaSnap
set_option linter.unusedVariables false
set_option linter.unusedSimpArgs false
namespace Go.Proofs.Ytlgcjkolakcfiaa.snapFar
open Go.RowKit Go.ChangeShapes Go.WideShapes Go.ChangeAt Go.Sx fix

theorem div_anti {c z1 z2 : Int} (hc : 0 ≤ c) (h1 : 0 < z1) (h2 : z1 ≤ z2) : c / z2 ≤ c / z1 := by
  rw [Int.le_ediv_iff_mul_le h1]
  have h3 : 0 ≤ c / z2 := Int.ediv_nonneg hc (by omega)
  have h4 := Int.mul_le_mul_of_nonneg_left h2 h3
  have h5 := Int.ediv_mul_le c (b := z2) (by omega)
  omega
theorem grow_mono {f n m z : Int} (hf : 0 ≤ f) (hz : 0 < z) (h : n ≤ m) : 8 * f * n / z ≤ 8 * f * m / z :=
  div_mono hz (Int.mul_le_mul_of_nonneg_left h (by omega))

def G_SnapFar : List Sum := [s_alive20, s_place]
def I_SnapFar : List Inf := [i_alive20, i_place]
def t_SnapFar : TX := (.callp 0 [] (.callp 1 [(.v 0), (.v 1), (.v 2), (.v 3), (.v 4), (.v 5), (.v 6), (.v 7), (.v 8), (.v 9), (.v 10), (.v 11), (.v 12), (.v 13), (.v 14), (.v 15), (.v 16), (.v 17), (.v 18), (.v 19), (.v 20)] (.callp 1 [(.v 0), (.v 1), (.v 2), (.v 3), (.v 4), (.v 5), (.v 6), (.v 7), (.v 8), (.v 9), (.v 10), (.v 11), (.v 12), (.v 13), (.v 14), (.v 15), (.v 21), (.v 22), (.v 23), (.v 24), (.v 25)] (.ite (.or (.not (.eq (.v 32) (.c 0))) (.not (.eq (.v 38) (.c 0)))) (.ret [(.c 1)])
(.ite (.and (.le (.v 18) (.v 23)) (.lt (.v 29) (.v 35))) (.ret [(.c 0)])
(.ite (.or (.not (.eq (.v 18) (.v 23))) (.and (.and (.nz (.v 26)) (.or (.lt (.v 21) (.v 16)) (.le (.v 27) (.v 33)))) (.or (.lt (.v 22) (.v 17)) (.le (.v 34) (.v 28))))) (.ret [(.c 1)])
(.ret [(.c 0)])))))))
theorem tree_SnapFar : merge (opt I_SnapFar (((An 16).ks ++ ((An 5).ks ++ ((An 5).ks ++ []))).map ivK) (symFn Try.prog G_SnapFar 1000 8 [An 16, An 5, An 5] [Bo])) = t_SnapFar := by kernel_rfl
theorem g_SnapFar : Gok Try.prog G_SnapFar := (more ok_alive20 (one ok_place))
theorem o_SnapFar : outsOK G_SnapFar I_SnapFar := (outsOK_cons inf_alive20 (outsOK_cons inf_place outsOK_nil))
theorem plain (xs0 : List Int) (hr0 : rangeOK (An 16).ks xs0) (xs1 : List Int) (hr1 : rangeOK (An 5).ks xs1) (xs2 : List Int) (hr2 : rangeOK (An 5).ks xs2) : t_SnapFar.sat G_SnapFar [] (fun ys => ys = [1]) (xs0 ++ (xs1 ++ (xs2 ++ []))) := by
  obtain ⟨l0, i0⟩ := An_inv hr0
  obtain ⟨a0, a1, a2, a3, a4, a5, a6, a7, a8, a9, a10, a11, a12, a13, a14, a15, rfl⟩ := len16 l0
  obtain ⟨l1, i1⟩ := An_inv hr1
  obtain ⟨a16, a17, a18, a19, a20, rfl⟩ := len5 l1
  obtain ⟨l2, i2⟩ := An_inv hr2
  obtain ⟨a21, a22, a23, a24, a25, rfl⟩ := len5 l2
  have fin : (∃ l : List Int, placeL [a0, a1, a2, a3, a4, a5, a6, a7, a8, a9, a10, a11, a12, a13, a14, a15, a16, a17, a18, a19, a20] = l ∧ l.getD 5 0 ≠ 0) ∨ (∃ l : List Int, placeL [a0, a1, a2, a3, a4, a5, a6, a7, a8, a9, a10, a11, a12, a13, a14, a15, a21, a22, a23, a24, a25] = l ∧ l.getD 5 0 ≠ 0) → t_SnapFar.sat G_SnapFar [] (fun ys => ys = [1]) ([a0, a1, a2, a3, a4, a5, a6, a7, a8, a9, a10, a11, a12, a13, a14, a15] ++ ([a16, a17, a18, a19, a20] ++ ([a21, a22, a23, a24, a25] ++ []))) := by
    intro h
    simp only [t_SnapFar, G_SnapFar, s_alive20, s_place, TX.sat, XB.prop, X.den, List.map_cons, List.map_nil, List.getElem?_cons_zero, List.getElem?_cons_succ, List.cons_append, List.nil_append, List.getD_cons_zero, List.getD_cons_succ, mkS, mkP, and_true, true_and, Int.not_lt, Int.not_le, not_or, not_and, Classical.not_not, ne_eq, not_true_eq_false, not_false_eq_true, sem_alive20, sem_alive, sem_place, ex6]
    refine ⟨fun _ => trivial, fun h' => ?_⟩
    rcases h with ⟨l, hl, hn⟩ | ⟨l, hl, hn⟩
    · rw [hl] at h'
      exact absurd h'.1 hn
    · rw [hl] at h'
      exact absurd h'.2 hn
  by_cases hc : camB [a0, a1, a2, a3, a4, a5, a6, a7, a8, a9, a10, a11, a12, a13, a14, a15, a16, a17, a18, a19, a20] 0 = true
  · by_cases hp : pointB [a0, a1, a2, a3, a4, a5, a6, a7, a8, a9, a10, a11, a12, a13, a14, a15, a16, a17, a18, a19, a20] 16 = true
    · by_cases hz : a18 < a13
      · exact fin (.inl ⟨_, (if_pos hc).trans ((if_pos hp).trans (if_pos hz)), by simp⟩)
      · by_cases hq : pointB [a0, a1, a2, a3, a4, a5, a6, a7, a8, a9, a10, a11, a12, a13, a14, a15, a21, a22, a23, a24, a25] 16 = true
        · by_cases hy : a23 < a13
          · exact fin (.inr ⟨_, (if_pos hc).trans ((if_pos hq).trans (if_pos hy)), by simp⟩)
          · have m1 : placeL [a0, a1, a2, a3, a4, a5, a6, a7, a8, a9, a10, a11, a12, a13, a14, a15, a16, a17, a18, a19, a20] = _ := (if_pos hc).trans ((if_pos hp).trans (if_neg hz))
            have m2 : placeL [a0, a1, a2, a3, a4, a5, a6, a7, a8, a9, a10, a11, a12, a13, a14, a15, a21, a22, a23, a24, a25] = _ := (if_pos hc).trans ((if_pos hq).trans (if_neg hy))
            obtain ⟨k1, k2, k3, k4⟩ := camB_lens hc
            simp only [TX.sat, XB.prop, X.den, List.map_cons, List.map_nil, List.getElem?_cons_zero, List.getElem?_cons_succ, List.cons_append, List.nil_append, List.getD_cons_zero, List.getD_cons_succ, mkS, mkP, and_true, true_and, Int.not_lt, Int.not_le, not_or, not_and, Classical.not_not, ne_eq, not_true_eq_false, not_false_eq_true] at k1 k2 k3 k4
            simp only [t_SnapFar, G_SnapFar, s_alive20, s_place, TX.sat, XB.prop, X.den, List.map_cons, List.map_nil, List.getElem?_cons_zero, List.getElem?_cons_succ, List.cons_append, List.nil_append, List.getD_cons_zero, List.getD_cons_succ, mkS, mkP, and_true, true_and, Int.not_lt, Int.not_le, not_or, not_and, Classical.not_not, ne_eq, not_true_eq_false, not_false_eq_true, sem_alive20, sem_alive, sem_place, ex6, m1, m2]
            have t1 := tdiv_pos (a := 16777216) (b := a18) (by omega) (by omega)
            have t2 := tdiv_pos (a := 16777216) (b := a23) (by omega) (by omega)
            rw [t1, t2]
            simp only [or_self, not_true_eq_false, false_or, or_false, not_false_eq_true, true_and, and_true, false_imp_iff, true_imp_iff]
            have w1 : a18 ≤ a23 → 16777216 / a23 ≤ 16777216 / a18 := fun h => div_anti (by omega) (by omega) h
            have w2 : a18 = a23 → a16 ≤ a21 → 8 * a12 * a16 / a18 ≤ 8 * a12 * a21 / a23 := fun h h' => by rw [← h]; exact grow_mono (by omega) (by omega) h'
            have w3 : a18 = a23 → a17 ≤ a22 → 8 * a12 * a17 / a18 ≤ 8 * a12 * a22 / a23 := fun h h' => by rw [← h]; exact grow_mono (by omega) (by omega) h'
            refine ⟨fun h => ?_, fun _ => ⟨fun _ => trivial, fun h => ?_⟩⟩
            · have := w1 h.1
              omega
            · exfalso
              have u2 := w2 h.1
              have u3 := w3 h.1
              have u4 := h.2 ⟨by decide, by omega⟩
              omega
        · exact fin (.inr ⟨_, (if_pos hc).trans (if_neg hq), by simp⟩)
    · exact fin (.inl ⟨_, (if_pos hc).trans (if_neg hp), by simp⟩)
  · exact fin (.inl ⟨_, if_neg hc, by simp⟩)

theorem range_nil : rangeOK [] [] := trivial
set_option maxRecDepth 100000 in
theorem lifted (os : Os) (started : os.Started) (H : Type) (enc : TypeId × Value → H) :
    ReturnsInHanded {} Try.checked os 8 .any (Rows.snapFarSpec.pre6 enc Try.prog Try.f8 Rows.snapFarRow.domain false) (Rows.snapFarSpec.post enc Try.prog Try.f8 false true false false) := by
  refine returnsInHanded_of_change (C := Try.checked) facts.own started (by kernel_rfl) Try.func8
    (ChangeSpec.witness6 (enc := enc) (C := Try.checked) false ⟨#[], #[.agg #[.int .i64 0, .int .i64 0, .int .i64 0, .int .i64 0, .int .i64 0, .int .i64 0, .int .i64 0, .int .i64 0, .int .i64 0, .int .i64 0, .int .i64 0, .int .i64 0, .int .i64 0, .int .i64 0, .int .i64 0, .int .i64 0], .agg #[.int .i64 0, .int .i64 0, .int .i64 0, .int .i64 0, .int .i64 0], .agg #[.int .i64 0, .int .i64 0, .int .i64 0, .int .i64 0, .int .i64 0]], []⟩ 8 (by kernel_rfl) (by kernel_rfl) (by kernel_rfl) (by kernel_rfl)) ?_
  intro W base args ds gs before hval0 hW hcnd _
  have hval : ∀ (j : Nat) t v, Try.f8.params[j]? = some t → args[j]? = some v → Value.okWide Try.prog W .any base t v := hval0
  have hW' := hW
  obtain ⟨p, q, hA0, hV, rfl, hfz, hnd⟩ := hW
  have hA : DataW.TrodAll enc Try.prog W 0 (fun _ => true) true Try.f8.params.toList args.toList ds p := hA0
  rw [Try.params8] at hA hval
  obtain ⟨v0, vs0, d0, ds0, p0, q0, hargs, rfl, rfl, h0, r0⟩ := trodAll_cons hA
  obtain ⟨v1, vs1, d1, ds1, p1, q1, rfl, rfl, rfl, h1, r1⟩ := trodAll_cons r0
  obtain ⟨v2, vs2, d2, ds2, p2, q2, rfl, rfl, rfl, h2, r2⟩ := trodAll_cons r1
  obtain ⟨rfl, rfl, rfl⟩ := trodAll_nil r2
  obtain rfl : args = #[v0, v1, v2] := by cases args; simp_all
  obtain ⟨rfl, rfl⟩ := trodVars_none hV
  have k0 := h0
  have lt0 : ∀ x ∈ p0, x.block < W.heap.size := by obtain ⟨m, hm⟩ := k0; exact DataW.trod_lt m _ _ _ hm
  have k1 := h1
  have lt1 : ∀ x ∈ p1, x.block < W.heap.size := by obtain ⟨m, hm⟩ := k1; exact DataW.trod_lt m _ _ _ hm
  have k2 := h2
  have lt2 : ∀ x ∈ p2, x.block < W.heap.size := by obtain ⟨m, hm⟩ := k2; exact DataW.trod_lt m _ _ _ hm
  obtain ⟨xs0, hv0, hr0⟩ := open_sh (sh := An 16) (by kernel_rfl) (by kernel_rfl) (hval 0 54 v0 rfl rfl) h0
  obtain ⟨xs1, hv1, hr1⟩ := open_sh (sh := An 5) (by kernel_rfl) (by kernel_rfl) (hval 1 56 v1 rfl rfl) h1
  obtain ⟨xs2, hv2, hr2⟩ := open_sh (sh := An 5) (by kernel_rfl) (by kernel_rfl) (hval 2 56 v2 rfl rfl) h2
  clear hA0 hval0
  have hl0 := rangeOK_len hr0
  have hl1 := rangeOK_len hr1
  have hl2 := rangeOK_len hr2
  have hxs : #[v0, v1, v2] = (mkShs [An 16, An 5, An 5] (xs0 ++ (xs1 ++ (xs2 ++ [])))).toArray := by
    rw [mkShs_cons hl0, mkShs_cons hl1, mkShs_cons hl2]
    simp [mkShs, hv0, hv1, hv2]
  have hlen : (xs0 ++ (xs1 ++ (xs2 ++ []))).length = total [An 16, An 5, An 5] := by
    simp only [List.length_append, List.length_nil, hl0, hl1, hl2]
    rfl
  have hcalls := law_opt facts.mixed g_SnapFar o_SnapFar tree_SnapFar hlen (range_vs ((rangeOK_app hr0 (rangeOK_app hr1 (rangeOK_app hr2 range_nil))) : rangeOK _ _)) (plain xs0 hr0 xs1 hr1 xs2 hr2) W
  rw [← hxs] at hcalls
  refine hcalls.mono fun e W' ⟨he, bel⟩ => ?_
  subst he
  exact ⟨_, rfl, _, _, _, [], _, [], hW', trodAll_mk1 (shut_bool Try.underlying4 _), (trodAll_cons_mk (Below.trod facts.laidOut (by kernel_rfl) (of_decide_eq_true (by kernel_rfl)) k0 bel lt0) (trodAll_cons_mk (Below.trod facts.laidOut (by kernel_rfl) (of_decide_eq_true (by kernel_rfl)) k1 bel lt1) (trodAll_cons_mk (Below.trod facts.laidOut (by kernel_rfl) (of_decide_eq_true (by kernel_rfl)) k2 bel lt2) trodAll_mk0))), rfl, bel.frame _, fun h => by cases h⟩

theorem over : Rows.snapFarRow.holds Try.pinned (OpenSpec.ofChange Rows.snapFarSpec) :=
  OpenClaim.holds_of_wide 8 Try.f8 rfl rfl rfl rfl rfl rfl rfl ⟨rfl, rfl, rfl, rfl, rfl⟩ rfl rfl rfl rfl rfl (by kernel_rfl) Try.func8
    (facts.joined (by kernel_rfl) (by kernel_rfl) (by kernel_rfl) (by kernel_rfl) (by kernel_rfl) (by kernel_rfl) (by kernel_rfl) rfl rfl rfl rfl)
    (of_decide_eq_true (by kernel_rfl)) (by unfold Func.isWrapper; first | (rw [if_pos (by decide +kernel)]; kernel_rfl) | (rw [if_neg (by decide +kernel)]; exact ⟨rfl, rfl⟩))
    (fun os started H enc _ => lifted os started H enc)

/-- THE STATEMENT. -/
theorem proved : Rows.SnapFarSaid := over
#print axioms proved

end Go.Proofs.Ytlgcjkolakcfiaa.snapFar
