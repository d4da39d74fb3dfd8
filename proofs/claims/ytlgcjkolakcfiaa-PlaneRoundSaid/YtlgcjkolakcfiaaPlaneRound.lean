/-
  The law PlaneRound is answered with true, whatever its arguments, which stay as they were.
-/
import Derived.Test.YtlgcjkolakcfiaaRows
import Derived.Test.YtlgcjkolakcfiaaFacts
import Derived.Test.YtlgcjkolakcfiaaLive
set_option linter.unusedVariables false
set_option linter.unusedSimpArgs false
namespace Go.Proofs.Ytlgcjkolakcfiaa.planeRound
open Go.RowKit Go.ChangeShapes Go.WideShapes Go.ChangeAt Go.Sx fix

theorem spots_rot {a0 a1 a2 a3 a4 a5 a6 a7 a8 a9 a10 a11 a12 a13 a14 a15 a16 : Int} : triB [a5, a6, a7, a8, a9, a10, a11, a12, a13, a14, a0, a1, a2, a3, a4, a15, a16] = triB [a0, a1, a2, a3, a4, a5, a6, a7, a8, a9, a10, a11, a12, a13, a14, a15, a16] := by
  show (spotB [a0, a1, a2, a3, a4, a5, a6, a7, a8, a9, a10, a11, a12, a13, a14, a15, a16] 5 && (spotB [a0, a1, a2, a3, a4, a5, a6, a7, a8, a9, a10, a11, a12, a13, a14, a15, a16] 10 && spotB [a0, a1, a2, a3, a4, a5, a6, a7, a8, a9, a10, a11, a12, a13, a14, a15, a16] 0)) = (spotB [a0, a1, a2, a3, a4, a5, a6, a7, a8, a9, a10, a11, a12, a13, a14, a15, a16] 0 && (spotB [a0, a1, a2, a3, a4, a5, a6, a7, a8, a9, a10, a11, a12, a13, a14, a15, a16] 5 && spotB [a0, a1, a2, a3, a4, a5, a6, a7, a8, a9, a10, a11, a12, a13, a14, a15, a16] 10))
  generalize spotB _ 0 = p
  generalize spotB _ 5 = q
  generalize spotB _ 10 = r
  cases p <;> cases q <;> cases r <;> rfl
theorem twice_rot {a0 a1 a2 a3 a4 a5 a6 a7 a8 a9 a10 a11 a12 a13 a14 a15 a16 : Int} : twiceV [a5, a6, a7, a8, a9, a10, a11, a12, a13, a14, a0, a1, a2, a3, a4, a15, a16] = twiceV [a0, a1, a2, a3, a4, a5, a6, a7, a8, a9, a10, a11, a12, a13, a14, a15, a16] := by
  simp only [twiceV, TX.sat, XB.prop, X.den, List.map_cons, List.map_nil, List.getElem?_cons_zero, List.getElem?_cons_succ, List.cons_append, List.nil_append, List.getD_cons_zero, List.getD_cons_succ, mkS, mkP, and_true, true_and, Int.not_lt, Int.not_le, not_or, not_and, Classical.not_not, ne_eq, not_true_eq_false, not_false_eq_true]
  grind
theorem has_rot {a0 a1 a2 a3 a4 a5 a6 a7 a8 a9 a10 a11 a12 a13 a14 a15 a16 : Int} : hasB [a5, a6, a7, a8, a9, a10, a11, a12, a13, a14, a0, a1, a2, a3, a4, a15, a16] = hasB [a0, a1, a2, a3, a4, a5, a6, a7, a8, a9, a10, a11, a12, a13, a14, a15, a16] := by
  rw [Bool.eq_iff_iff, hasB_iff, hasB_iff]
  have e0 : wgt [a5, a6, a7, a8, a9, a10, a11, a12, a13, a14, a0, a1, a2, a3, a4, a15, a16] 5 10 15 = wgt [a0, a1, a2, a3, a4, a5, a6, a7, a8, a9, a10, a11, a12, a13, a14, a15, a16] 10 0 15 := rfl
  have e1 : wgt [a5, a6, a7, a8, a9, a10, a11, a12, a13, a14, a0, a1, a2, a3, a4, a15, a16] 10 0 15 = wgt [a0, a1, a2, a3, a4, a5, a6, a7, a8, a9, a10, a11, a12, a13, a14, a15, a16] 0 5 15 := rfl
  have e2 : wgt [a5, a6, a7, a8, a9, a10, a11, a12, a13, a14, a0, a1, a2, a3, a4, a15, a16] 0 5 15 = wgt [a0, a1, a2, a3, a4, a5, a6, a7, a8, a9, a10, a11, a12, a13, a14, a15, a16] 5 10 15 := rfl
  rw [e0, e1, e2]
  simp only [TX.sat, XB.prop, X.den, List.map_cons, List.map_nil, List.getElem?_cons_zero, List.getElem?_cons_succ, List.cons_append, List.nil_append, List.getD_cons_zero, List.getD_cons_succ, mkS, mkP, and_true, true_and, Int.not_lt, Int.not_le, not_or, not_and, Classical.not_not, ne_eq, not_true_eq_false, not_false_eq_true]
  omega
theorem edge_rot {a0 a1 a2 a3 a4 a5 a6 a7 a8 a9 a10 a11 a12 a13 a14 a15 a16 : Int} : (edgesL [a5, a6, a7, a8, a9, a10, a11, a12, a13, a14, a0, a1, a2, a3, a4, a15, a16]).getD 3 0 = (edgesL [a0, a1, a2, a3, a4, a5, a6, a7, a8, a9, a10, a11, a12, a13, a14, a15, a16]).getD 3 0 := by
  have h1 : efrontV [a5, a6, a7, a8, a9, a10, a11, a12, a13, a14, a0, a1, a2, a3, a4, a15, a16] = efrontV [a0, a1, a2, a3, a4, a5, a6, a7, a8, a9, a10, a11, a12, a13, a14, a15, a16] := by
    unfold efrontV
    rw [spots_rot, twice_rot]
  have h2 : pixB [a5, a6, a7, a8, a9, a10, a11, a12, a13, a14, a0, a1, a2, a3, a4, a15, a16] 15 = pixB [a0, a1, a2, a3, a4, a5, a6, a7, a8, a9, a10, a11, a12, a13, a14, a15, a16] 15 := rfl
  unfold edgesL
  rw [h1, h2]
  split
  · split <;> rfl
  · rfl
theorem at_rot {a0 a1 a2 a3 a4 a5 a6 a7 a8 a9 a10 a11 a12 a13 a14 a15 a16 : Int} : atL [a5, a6, a7, a8, a9, a10, a11, a12, a13, a14, a0, a1, a2, a3, a4, a15, a16] = atL [a0, a1, a2, a3, a4, a5, a6, a7, a8, a9, a10, a11, a12, a13, a14, a15, a16] := by
  have h1 : deepV [a5, a6, a7, a8, a9, a10, a11, a12, a13, a14, a0, a1, a2, a3, a4, a15, a16] = deepV [a0, a1, a2, a3, a4, a5, a6, a7, a8, a9, a10, a11, a12, a13, a14, a15, a16] := by
    show wgt [a0, a1, a2, a3, a4, a5, a6, a7, a8, a9, a10, a11, a12, a13, a14, a15, a16] 10 0 15 * a7 + wgt [a0, a1, a2, a3, a4, a5, a6, a7, a8, a9, a10, a11, a12, a13, a14, a15, a16] 0 5 15 * a12 + wgt [a0, a1, a2, a3, a4, a5, a6, a7, a8, a9, a10, a11, a12, a13, a14, a15, a16] 5 10 15 * a2 = wgt [a0, a1, a2, a3, a4, a5, a6, a7, a8, a9, a10, a11, a12, a13, a14, a15, a16] 5 10 15 * a2 + wgt [a0, a1, a2, a3, a4, a5, a6, a7, a8, a9, a10, a11, a12, a13, a14, a15, a16] 10 0 15 * a7 + wgt [a0, a1, a2, a3, a4, a5, a6, a7, a8, a9, a10, a11, a12, a13, a14, a15, a16] 0 5 15 * a12
    omega
  have h2 : texV [a5, a6, a7, a8, a9, a10, a11, a12, a13, a14, a0, a1, a2, a3, a4, a15, a16] 3 = texV [a0, a1, a2, a3, a4, a5, a6, a7, a8, a9, a10, a11, a12, a13, a14, a15, a16] 3 := by
    show wgt [a0, a1, a2, a3, a4, a5, a6, a7, a8, a9, a10, a11, a12, a13, a14, a15, a16] 10 0 15 * a7 * a8 + wgt [a0, a1, a2, a3, a4, a5, a6, a7, a8, a9, a10, a11, a12, a13, a14, a15, a16] 0 5 15 * a12 * a13 + wgt [a0, a1, a2, a3, a4, a5, a6, a7, a8, a9, a10, a11, a12, a13, a14, a15, a16] 5 10 15 * a2 * a3 = wgt [a0, a1, a2, a3, a4, a5, a6, a7, a8, a9, a10, a11, a12, a13, a14, a15, a16] 5 10 15 * a2 * a3 + wgt [a0, a1, a2, a3, a4, a5, a6, a7, a8, a9, a10, a11, a12, a13, a14, a15, a16] 10 0 15 * a7 * a8 + wgt [a0, a1, a2, a3, a4, a5, a6, a7, a8, a9, a10, a11, a12, a13, a14, a15, a16] 0 5 15 * a12 * a13
    omega
  have h3 : texV [a5, a6, a7, a8, a9, a10, a11, a12, a13, a14, a0, a1, a2, a3, a4, a15, a16] 4 = texV [a0, a1, a2, a3, a4, a5, a6, a7, a8, a9, a10, a11, a12, a13, a14, a15, a16] 4 := by
    show wgt [a0, a1, a2, a3, a4, a5, a6, a7, a8, a9, a10, a11, a12, a13, a14, a15, a16] 10 0 15 * a7 * a9 + wgt [a0, a1, a2, a3, a4, a5, a6, a7, a8, a9, a10, a11, a12, a13, a14, a15, a16] 0 5 15 * a12 * a14 + wgt [a0, a1, a2, a3, a4, a5, a6, a7, a8, a9, a10, a11, a12, a13, a14, a15, a16] 5 10 15 * a2 * a4 = wgt [a0, a1, a2, a3, a4, a5, a6, a7, a8, a9, a10, a11, a12, a13, a14, a15, a16] 5 10 15 * a2 * a4 + wgt [a0, a1, a2, a3, a4, a5, a6, a7, a8, a9, a10, a11, a12, a13, a14, a15, a16] 10 0 15 * a7 * a9 + wgt [a0, a1, a2, a3, a4, a5, a6, a7, a8, a9, a10, a11, a12, a13, a14, a15, a16] 0 5 15 * a12 * a14
    omega
  unfold atL
  rw [edge_rot, has_rot, h1, h2, h3, twice_rot]
  rfl

def G_PlaneRound : List Sum := [s_alive22, s_plat, s_covers]
def I_PlaneRound : List Inf := [i_alive22, i_plat, i_covers]
def t_PlaneRound : TX := (.callp 0 [] (.callp 1 [(.v 0), (.v 1), (.v 2), (.v 3), (.v 4), (.v 5), (.v 6), (.v 7), (.v 8), (.v 9), (.v 10), (.v 11), (.v 12), (.v 13), (.v 14), (.v 15), (.v 16)] (.callp 1 [(.v 5), (.v 6), (.v 7), (.v 8), (.v 9), (.v 10), (.v 11), (.v 12), (.v 13), (.v 14), (.v 0), (.v 1), (.v 2), (.v 3), (.v 4), (.v 15), (.v 16)] (.callp 2 [(.v 0), (.v 1), (.v 2), (.v 3), (.v 4), (.v 5), (.v 6), (.v 7), (.v 8), (.v 9), (.v 10), (.v 11), (.v 12), (.v 13), (.v 14), (.v 15), (.v 16)] (.ite (.not (.eq (.v 31) (.c 0))) (.ite (.and (.and (.nz (.v 17)) (.eq (.v 23) (.v 31))) (.eq (.v 29) (.v 31))) (.ret [(.c 1)])
(.ret [(.c 0)]))
(.ite (.or (.or (.not (.eq (.v 18) (.v 24))) (.or (.not (.eq (.v 19) (.v 25))) (.or (.not (.eq (.v 20) (.v 26))) (.or (.not (.eq (.v 21) (.v 27))) (.not (.eq (.v 22) (.v 28))))))) (.or (.not (.eq (.v 23) (.v 29))) (.not (.iff (.nz (.v 30)) (.eq (.v 23) (.c 0)))))) (.ret [(.c 0)])
(.ite (.or (.nz (.v 30)) (.eq (.v 23) (.c 6))) (.ret [(.c 1)])
(.ret [(.c 0)]))))))))
theorem tree_PlaneRound : merge (opt I_PlaneRound (((An 15).ks ++ (I1.ks ++ (I1.ks ++ []))).map ivK) (symFn Try.prog G_PlaneRound 1000 28 [An 15, I1, I1] [Bo])) = t_PlaneRound := by kernel_rfl
theorem g_PlaneRound : Gok Try.prog G_PlaneRound := (more ok_alive22 (more ok_plat (one ok_covers)))
theorem o_PlaneRound : outsOK G_PlaneRound I_PlaneRound := (outsOK_cons inf_alive22 (outsOK_cons inf_plat (outsOK_cons inf_covers outsOK_nil)))
theorem plain (xs0 : List Int) (hr0 : rangeOK (An 15).ks xs0) (xs1 : List Int) (hr1 : rangeOK I1.ks xs1) (xs2 : List Int) (hr2 : rangeOK I1.ks xs2) : t_PlaneRound.sat G_PlaneRound [] (fun ys => ys = [1]) (xs0 ++ (xs1 ++ (xs2 ++ []))) := by
  obtain ⟨l0, i0⟩ := An_inv hr0
  obtain ⟨a0, a1, a2, a3, a4, a5, a6, a7, a8, a9, a10, a11, a12, a13, a14, rfl⟩ := len15 l0
  obtain ⟨a15, rfl, i1⟩ := I1_inv hr1
  obtain ⟨a16, rfl, i2⟩ := I1_inv hr2
  have hr := @at_rot a0 a1 a2 a3 a4 a5 a6 a7 a8 a9 a10 a11 a12 a13 a14 a15 a16
  simp only [t_PlaneRound, G_PlaneRound, s_alive22, s_plat, s_covers, TX.sat, XB.prop, X.den, List.map_cons, List.map_nil, List.getElem?_cons_zero, List.getElem?_cons_succ, List.cons_append, List.nil_append, List.getD_cons_zero, List.getD_cons_succ, mkS, mkP, and_true, true_and, Int.not_lt, Int.not_le, not_or, not_and, Classical.not_not, ne_eq, not_true_eq_false, not_false_eq_true, sem_alive22, sem_alive, sem_plat, sem_covers, ex6, hr]
  by_cases he : (edgesL [a0, a1, a2, a3, a4, a5, a6, a7, a8, a9, a10, a11, a12, a13, a14, a15, a16]).getD 3 0 = 0
  · have hA : atL [a0, a1, a2, a3, a4, a5, a6, a7, a8, a9, a10, a11, a12, a13, a14, a15, a16] = _ := if_pos he
    have hc : coversL [a0, a1, a2, a3, a4, a5, a6, a7, a8, a9, a10, a11, a12, a13, a14, a15, a16] = _ := if_pos he
    rw [hc, hA]
    clear hc hA he i0 i1 i2 l0 hr
    cases hasB [a0, a1, a2, a3, a4, a5, a6, a7, a8, a9, a10, a11, a12, a13, a14, a15, a16] with
    | true =>
      simp only [if_true, reduceIte, b01]
      generalize deepV _ / _ = d
      generalize texV _ 3 / _ = u
      generalize texV _ 4 / _ = v
      simp
    | false =>
      simp only [if_false, reduceIte, Bool.false_eq_true, b01]
      simp
  · have hA : atL [a0, a1, a2, a3, a4, a5, a6, a7, a8, a9, a10, a11, a12, a13, a14, a15, a16] = _ := if_neg he
    have hc : coversL [a0, a1, a2, a3, a4, a5, a6, a7, a8, a9, a10, a11, a12, a13, a14, a15, a16] = _ := if_neg he
    rw [hc, hA]
    simp only [TX.sat, XB.prop, X.den, List.map_cons, List.map_nil, List.getElem?_cons_zero, List.getElem?_cons_succ, List.cons_append, List.nil_append, List.getD_cons_zero, List.getD_cons_succ, mkS, mkP, and_true, true_and, Int.not_lt, Int.not_le, not_or, not_and, Classical.not_not, ne_eq, not_true_eq_false, not_false_eq_true]
    generalize (edgesL _).getD 3 0 = e at *
    simp [he]

theorem range_nil : rangeOK [] [] := trivial
set_option maxRecDepth 100000 in
theorem lifted (os : Os) (started : os.Started) (H : Type) (enc : TypeId × Value → H) :
    ReturnsInHanded {} Try.checked os 28 .any (Rows.planeRoundSpec.pre6 enc Try.prog Try.f28 Rows.planeRoundRow.domain false) (Rows.planeRoundSpec.post enc Try.prog Try.f28 false true false false) := by
  refine returnsInHanded_of_change (C := Try.checked) facts.own started (by kernel_rfl) Try.func28
    (ChangeSpec.witness6 (enc := enc) (C := Try.checked) false ⟨#[], #[.agg #[.int .i64 0, .int .i64 0, .int .i64 0, .int .i64 0, .int .i64 0, .int .i64 0, .int .i64 0, .int .i64 0, .int .i64 0, .int .i64 0, .int .i64 0, .int .i64 0, .int .i64 0, .int .i64 0, .int .i64 0], .int .i64 0, .int .i64 0], []⟩ 8 (by kernel_rfl) (by kernel_rfl) (by kernel_rfl) (by kernel_rfl)) ?_
  intro W base args ds gs before hval0 hW hcnd _
  have hval : ∀ (j : Nat) t v, Try.f28.params[j]? = some t → args[j]? = some v → Value.okWide Try.prog W .any base t v := hval0
  have hW' := hW
  obtain ⟨p, q, hA0, hV, rfl, hfz, hnd⟩ := hW
  have hA : DataW.TrodAll enc Try.prog W 0 (fun _ => true) true Try.f28.params.toList args.toList ds p := hA0
  rw [Try.params28] at hA hval
  obtain ⟨v0, vs0, d0, ds0, p0, q0, hargs, rfl, rfl, h0, r0⟩ := trodAll_cons hA
  obtain ⟨v1, vs1, d1, ds1, p1, q1, rfl, rfl, rfl, h1, r1⟩ := trodAll_cons r0
  obtain ⟨v2, vs2, d2, ds2, p2, q2, rfl, rfl, rfl, h2, r2⟩ := trodAll_cons r1
  obtain ⟨rfl, rfl, rfl⟩ := trodAll_nil r2
  obtain rfl : args = #[v0, v1, v2] := by cases args; simp_all
  obtain ⟨rfl, rfl⟩ := trodVars_none hV
  have k0 := h0
  have lt0 : ∀ x ∈ p0, x.block < W.heap.size := by obtain ⟨m, hm⟩ := k0; exact DataW.trod_lt m _ _ _ hm
  have k1 := h1
  have lt1 : ∀ x ∈ p1, x.block < W.heap.size := by obtain ⟨m, hm⟩ := k1; exact DataW.trod_lt m _ _ _ hm
  have k2 := h2
  have lt2 : ∀ x ∈ p2, x.block < W.heap.size := by obtain ⟨m, hm⟩ := k2; exact DataW.trod_lt m _ _ _ hm
  obtain ⟨xs0, hv0, hr0⟩ := open_sh (sh := An 15) (by kernel_rfl) (by kernel_rfl) (hval 0 29 v0 rfl rfl) h0
  obtain ⟨xs1, hv1, hr1⟩ := open_sh (sh := I1) (by kernel_rfl) (by kernel_rfl) (hval 1 3 v1 rfl rfl) h1
  obtain ⟨xs2, hv2, hr2⟩ := open_sh (sh := I1) (by kernel_rfl) (by kernel_rfl) (hval 2 3 v2 rfl rfl) h2
  clear hA0 hval0
  have hl0 := rangeOK_len hr0
  have hl1 := rangeOK_len hr1
  have hl2 := rangeOK_len hr2
  have hxs : #[v0, v1, v2] = (mkShs [An 15, I1, I1] (xs0 ++ (xs1 ++ (xs2 ++ [])))).toArray := by
    rw [mkShs_cons hl0, mkShs_cons hl1, mkShs_cons hl2]
    simp [mkShs, hv0, hv1, hv2]
  have hlen : (xs0 ++ (xs1 ++ (xs2 ++ []))).length = total [An 15, I1, I1] := by
    simp only [List.length_append, List.length_nil, hl0, hl1, hl2]
    rfl
  have hcalls := law_opt facts.mixed g_PlaneRound o_PlaneRound tree_PlaneRound hlen (range_vs ((rangeOK_app hr0 (rangeOK_app hr1 (rangeOK_app hr2 range_nil))) : rangeOK _ _)) (plain xs0 hr0 xs1 hr1 xs2 hr2) W
  rw [← hxs] at hcalls
  refine hcalls.mono fun e W' ⟨he, bel⟩ => ?_
  subst he
  exact ⟨_, rfl, _, _, _, [], _, [], hW', trodAll_mk1 (shut_bool Try.underlying4 _), (trodAll_cons_mk (Below.trod facts.laidOut (by kernel_rfl) (of_decide_eq_true (by kernel_rfl)) k0 bel lt0) (trodAll_cons_mk (Below.trod facts.laidOut (by kernel_rfl) (of_decide_eq_true (by kernel_rfl)) k1 bel lt1) (trodAll_cons_mk (Below.trod facts.laidOut (by kernel_rfl) (of_decide_eq_true (by kernel_rfl)) k2 bel lt2) trodAll_mk0))), rfl, bel.frame _, fun h => by cases h⟩

theorem over : Rows.planeRoundRow.holds Try.pinned (OpenSpec.ofChange Rows.planeRoundSpec) :=
  OpenClaim.holds_of_wide 28 Try.f28 rfl rfl rfl rfl rfl rfl rfl ⟨rfl, rfl, rfl, rfl, rfl⟩ rfl rfl rfl rfl rfl (by kernel_rfl) Try.func28
    (facts.joined (by kernel_rfl) (by kernel_rfl) (by kernel_rfl) (by kernel_rfl) (by kernel_rfl) (by kernel_rfl) (by kernel_rfl) rfl rfl rfl rfl)
    (of_decide_eq_true (by kernel_rfl)) (by unfold Func.isWrapper; first | (rw [if_pos (by decide +kernel)]; kernel_rfl) | (rw [if_neg (by decide +kernel)]; exact ⟨rfl, rfl⟩))
    (fun os started H enc _ => lifted os started H enc)

/-- THE STATEMENT. -/
theorem proved : Rows.PlaneRoundSaid := over
#print axioms proved

end Go.Proofs.Ytlgcjkolakcfiaa.planeRound
