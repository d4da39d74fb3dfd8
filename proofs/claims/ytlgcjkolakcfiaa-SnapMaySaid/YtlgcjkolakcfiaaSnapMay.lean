/-
  The law SnapMay is answered with true, whatever the camera and the corner, and its arguments stay as they were.
-/
import Derived.Test.YtlgcjkolakcfiaaRows
import Derived.Test.YtlgcjkolakcfiaaFacts
import Derived.Test.YtlgcjkolakcfiaaSnap
set_option linter.unusedVariables false
set_option linter.unusedSimpArgs false
namespace Go.Proofs.Ytlgcjkolakcfiaa.snapMay
open Go.RowKit Go.ChangeShapes Go.WideShapes Go.ChangeAt Go.Sx fix

def G_SnapMay : List Sum := [s_alive20, s_place, s_scheck]
def I_SnapMay : List Inf := [i_alive20, i_place, i_scheck]
def t_SnapMay : TX := (.callp 0 [] (.callp 1 [(.v 0), (.v 1), (.v 2), (.v 3), (.v 4), (.v 5), (.v 6), (.v 7), (.v 8), (.v 9), (.v 10), (.v 11), (.v 12), (.v 13), (.v 14), (.v 15), (.v 16), (.v 17), (.v 18), (.v 19), (.v 20)] (.ite (.not (.eq (.v 27) (.c 0))) (.ite (.and (.eq (.v 22) (.c 0)) (.and (.eq (.v 23) (.c 0)) (.and (.eq (.v 24) (.c 0)) (.and (.eq (.v 25) (.c 0)) (.eq (.v 26) (.c 0)))))) (.ret [(.c 1)])
(.ret [(.c 0)]))
(.callp 2 [(.v 22), (.v 23), (.v 24), (.v 25), (.v 26)] (.ite (.or (.not (.eq (.v 28) (.c 0))) (.or (.lt (.v 24) (.c 512)) (.not (.eq (.v 25) (.v 19))))) (.ret [(.c 0)])
(.ite (.eq (.v 26) (.v 20)) (.ret [(.c 1)])
(.ret [(.c 0)])))))))
theorem tree_SnapMay : merge (opt I_SnapMay (((An 16).ks ++ ((An 5).ks ++ [])).map ivK) (symFn Try.prog G_SnapMay 1000 18 [An 16, An 5] [Bo])) = t_SnapMay := by kernel_rfl
theorem g_SnapMay : Gok Try.prog G_SnapMay := (more ok_alive20 (more ok_place (one ok_scheck)))
theorem o_SnapMay : outsOK G_SnapMay I_SnapMay := (outsOK_cons inf_alive20 (outsOK_cons inf_place (outsOK_cons inf_scheck outsOK_nil)))
theorem plain (xs0 : List Int) (hr0 : rangeOK (An 16).ks xs0) (xs1 : List Int) (hr1 : rangeOK (An 5).ks xs1) : t_SnapMay.sat G_SnapMay [] (fun ys => ys = [1]) (xs0 ++ (xs1 ++ [])) := by
  obtain ⟨l0, i0⟩ := An_inv hr0
  obtain ⟨a0, a1, a2, a3, a4, a5, a6, a7, a8, a9, a10, a11, a12, a13, a14, a15, rfl⟩ := len16 l0
  obtain ⟨l1, i1⟩ := An_inv hr1
  obtain ⟨a16, a17, a18, a19, a20, rfl⟩ := len5 l1
  by_cases hc : camB [a0, a1, a2, a3, a4, a5, a6, a7, a8, a9, a10, a11, a12, a13, a14, a15, a16, a17, a18, a19, a20] 0 = true
  · by_cases hp : pointB [a0, a1, a2, a3, a4, a5, a6, a7, a8, a9, a10, a11, a12, a13, a14, a15, a16, a17, a18, a19, a20] 16 = true
    · by_cases hz : a18 < a13
      · have hm : placeL [a0, a1, a2, a3, a4, a5, a6, a7, a8, a9, a10, a11, a12, a13, a14, a15, a16, a17, a18, a19, a20] = _ := (if_pos hc).trans ((if_pos hp).trans (if_pos hz))
        simp only [t_SnapMay, G_SnapMay, s_alive20, s_place, s_scheck, TX.sat, XB.prop, X.den, List.map_cons, List.map_nil, List.getElem?_cons_zero, List.getElem?_cons_succ, List.cons_append, List.nil_append, List.getD_cons_zero, List.getD_cons_succ, mkS, mkP, and_true, true_and, Int.not_lt, Int.not_le, not_or, not_and, Classical.not_not, ne_eq, not_true_eq_false, not_false_eq_true, sem_alive20, sem_alive, sem_place, sem_scheck, hm, ex6]
        simp
      · have hm : placeL [a0, a1, a2, a3, a4, a5, a6, a7, a8, a9, a10, a11, a12, a13, a14, a15, a16, a17, a18, a19, a20] = _ := (if_pos hc).trans ((if_pos hp).trans (if_neg hz))
        obtain ⟨k1, k2, k3, k4⟩ := camB_lens hc
        obtain ⟨j1, j2, j3, j4, j5⟩ := point_in hp
        simp only [TX.sat, XB.prop, X.den, List.map_cons, List.map_nil, List.getElem?_cons_zero, List.getElem?_cons_succ, List.cons_append, List.nil_append, List.getD_cons_zero, List.getD_cons_succ, mkS, mkP, and_true, true_and, Int.not_lt, Int.not_le, not_or, not_and, Classical.not_not, ne_eq, not_true_eq_false, not_false_eq_true] at k1 k2 k3 k4 j1 j2 j3 j4 j5
        have m1 := grow_near (f := a12) (z := a18) (by omega) j1 (by omega)
        have m2 := grow_near (f := a12) (z := a18) (by omega) j2 (by omega)
        have m3 : 512 ≤ (16777216 : Int).tdiv a18 ∧ (16777216 : Int).tdiv a18 ≤ 65536 := by
          rw [tdiv_pos (by omega) (by omega)]
          constructor
          · rw [Int.le_ediv_iff_mul_le (by omega)]; omega
          · apply Int.ediv_le_of_le_mul (by omega); omega
        simp only [t_SnapMay, G_SnapMay, s_alive20, s_place, s_scheck, TX.sat, XB.prop, X.den, List.map_cons, List.map_nil, List.getElem?_cons_zero, List.getElem?_cons_succ, List.cons_append, List.nil_append, List.getD_cons_zero, List.getD_cons_succ, mkS, mkP, and_true, true_and, Int.not_lt, Int.not_le, not_or, not_and, Classical.not_not, ne_eq, not_true_eq_false, not_false_eq_true, sem_alive20, sem_alive, sem_place, sem_scheck, hm, ex6]
        have hs : spotB [8 * a12 * a16 / a18 + 4 * a14, 4 * a15 - 8 * a12 * a17 / a18, (16777216 : Int).tdiv a18, a19, a20] 0 = true := by
          simp only [spotB_true, TX.sat, XB.prop, X.den, List.map_cons, List.map_nil, List.getElem?_cons_zero, List.getElem?_cons_succ, List.cons_append, List.nil_append, List.getD_cons_zero, List.getD_cons_succ, mkS, mkP, and_true, true_and, Int.not_lt, Int.not_le, not_or, not_and, Classical.not_not, ne_eq, not_true_eq_false, not_false_eq_true, Nat.zero_add]
          omega
        rw [hs]
        simp only [er_true, not_true_eq_false, false_or, or_false, false_imp_iff, true_and, and_true, not_false_eq_true, true_imp_iff]
        refine ⟨fun h => ?_, fun _ => trivial⟩
        omega
    · have hm : placeL [a0, a1, a2, a3, a4, a5, a6, a7, a8, a9, a10, a11, a12, a13, a14, a15, a16, a17, a18, a19, a20] = _ := (if_pos hc).trans (if_neg hp)
      simp only [t_SnapMay, G_SnapMay, s_alive20, s_place, s_scheck, TX.sat, XB.prop, X.den, List.map_cons, List.map_nil, List.getElem?_cons_zero, List.getElem?_cons_succ, List.cons_append, List.nil_append, List.getD_cons_zero, List.getD_cons_succ, mkS, mkP, and_true, true_and, Int.not_lt, Int.not_le, not_or, not_and, Classical.not_not, ne_eq, not_true_eq_false, not_false_eq_true, sem_alive20, sem_alive, sem_place, sem_scheck, hm, ex6]
      simp
  · have hm : placeL [a0, a1, a2, a3, a4, a5, a6, a7, a8, a9, a10, a11, a12, a13, a14, a15, a16, a17, a18, a19, a20] = _ := if_neg hc
    simp only [t_SnapMay, G_SnapMay, s_alive20, s_place, s_scheck, TX.sat, XB.prop, X.den, List.map_cons, List.map_nil, List.getElem?_cons_zero, List.getElem?_cons_succ, List.cons_append, List.nil_append, List.getD_cons_zero, List.getD_cons_succ, mkS, mkP, and_true, true_and, Int.not_lt, Int.not_le, not_or, not_and, Classical.not_not, ne_eq, not_true_eq_false, not_false_eq_true, sem_alive20, sem_alive, sem_place, sem_scheck, hm, ex6]
    simp

theorem range_nil : rangeOK [] [] := trivial
set_option maxRecDepth 100000 in
theorem lifted (os : Os) (started : os.Started) (H : Type) (enc : TypeId × Value → H) :
    ReturnsInHanded {} Try.checked os 18 .any (Rows.snapMaySpec.pre6 enc Try.prog Try.f18 Rows.snapMayRow.domain false) (Rows.snapMaySpec.post enc Try.prog Try.f18 false true false false) := by
  refine returnsInHanded_of_change (C := Try.checked) facts.own started (by kernel_rfl) Try.func18
    (ChangeSpec.witness6 (enc := enc) (C := Try.checked) false ⟨#[], #[.agg #[.int .i64 0, .int .i64 0, .int .i64 0, .int .i64 0, .int .i64 0, .int .i64 0, .int .i64 0, .int .i64 0, .int .i64 0, .int .i64 0, .int .i64 0, .int .i64 0, .int .i64 0, .int .i64 0, .int .i64 0, .int .i64 0], .agg #[.int .i64 0, .int .i64 0, .int .i64 0, .int .i64 0, .int .i64 0]], []⟩ 8 (by kernel_rfl) (by kernel_rfl) (by kernel_rfl) (by kernel_rfl)) ?_
  intro W base args ds gs before hval0 hW hcnd _
  have hval : ∀ (j : Nat) t v, Try.f18.params[j]? = some t → args[j]? = some v → Value.okWide Try.prog W .any base t v := hval0
  have hW' := hW
  obtain ⟨p, q, hA0, hV, rfl, hfz, hnd⟩ := hW
  have hA : DataW.TrodAll enc Try.prog W 0 (fun _ => true) true Try.f18.params.toList args.toList ds p := hA0
  rw [Try.params18] at hA hval
  obtain ⟨v0, vs0, d0, ds0, p0, q0, hargs, rfl, rfl, h0, r0⟩ := trodAll_cons hA
  obtain ⟨v1, vs1, d1, ds1, p1, q1, rfl, rfl, rfl, h1, r1⟩ := trodAll_cons r0
  obtain ⟨rfl, rfl, rfl⟩ := trodAll_nil r1
  obtain rfl : args = #[v0, v1] := by cases args; simp_all
  obtain ⟨rfl, rfl⟩ := trodVars_none hV
  have k0 := h0
  have lt0 : ∀ x ∈ p0, x.block < W.heap.size := by obtain ⟨m, hm⟩ := k0; exact DataW.trod_lt m _ _ _ hm
  have k1 := h1
  have lt1 : ∀ x ∈ p1, x.block < W.heap.size := by obtain ⟨m, hm⟩ := k1; exact DataW.trod_lt m _ _ _ hm
  obtain ⟨xs0, hv0, hr0⟩ := open_sh (sh := An 16) (by kernel_rfl) (by kernel_rfl) (hval 0 54 v0 rfl rfl) h0
  obtain ⟨xs1, hv1, hr1⟩ := open_sh (sh := An 5) (by kernel_rfl) (by kernel_rfl) (hval 1 56 v1 rfl rfl) h1
  clear hA0 hval0
  have hl0 := rangeOK_len hr0
  have hl1 := rangeOK_len hr1
  have hxs : #[v0, v1] = (mkShs [An 16, An 5] (xs0 ++ (xs1 ++ []))).toArray := by
    rw [mkShs_cons hl0, mkShs_cons hl1]
    simp [mkShs, hv0, hv1]
  have hlen : (xs0 ++ (xs1 ++ [])).length = total [An 16, An 5] := by
    simp only [List.length_append, List.length_nil, hl0, hl1]
    rfl
  have hcalls := law_opt facts.mixed g_SnapMay o_SnapMay tree_SnapMay hlen (range_vs ((rangeOK_app hr0 (rangeOK_app hr1 range_nil)) : rangeOK _ _)) (plain xs0 hr0 xs1 hr1) W
  rw [← hxs] at hcalls
  refine hcalls.mono fun e W' ⟨he, bel⟩ => ?_
  subst he
  exact ⟨_, rfl, _, _, _, [], _, [], hW', trodAll_mk1 (shut_bool Try.underlying4 _), (trodAll_cons_mk (Below.trod facts.laidOut (by kernel_rfl) (of_decide_eq_true (by kernel_rfl)) k0 bel lt0) (trodAll_cons_mk (Below.trod facts.laidOut (by kernel_rfl) (of_decide_eq_true (by kernel_rfl)) k1 bel lt1) trodAll_mk0)), rfl, bel.frame _, fun h => by cases h⟩

theorem over : Rows.snapMayRow.holds Try.pinned (OpenSpec.ofChange Rows.snapMaySpec) :=
  OpenClaim.holds_of_wide 18 Try.f18 rfl rfl rfl rfl rfl rfl rfl ⟨rfl, rfl, rfl, rfl, rfl⟩ rfl rfl rfl rfl rfl (by kernel_rfl) Try.func18
    (facts.joined (by kernel_rfl) (by kernel_rfl) (by kernel_rfl) (by kernel_rfl) (by kernel_rfl) (by kernel_rfl) (by kernel_rfl) rfl rfl rfl rfl)
    (of_decide_eq_true (by kernel_rfl)) (by unfold Func.isWrapper; first | (rw [if_pos (by decide +kernel)]; kernel_rfl) | (rw [if_neg (by decide +kernel)]; exact ⟨rfl, rfl⟩))
    (fun os started H enc _ => lifted os started H enc)

/-- THE STATEMENT. -/
theorem proved : Rows.SnapMaySaid := over
#print axioms proved

end Go.Proofs.Ytlgcjkolakcfiaa.snapMay
