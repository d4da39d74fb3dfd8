/-
  The law SnapAreas is answered with true, whatever the triangle and the cull, and its arguments stay as they were.
-/
import Derived.Test.YtlgcjkolakcfiaaRows
import Derived.Test.YtlgcjkolakcfiaaFacts
import Derived.Test.YtlgcjkolakcfiaaArea
set_option linter.unusedVariables false
set_option linter.unusedSimpArgs false
namespace Go.Proofs.Ytlgcjkolakcfiaa.snapAreas
open Go.RowKit Go.ChangeShapes Go.WideShapes Go.ChangeAt Go.Sx fix

def G_SnapAreas : List Sum := [s_area, s_rarea, s_shows, s_rshows, s_front, s_rfront, s_scheck, s_rsmay]
def I_SnapAreas : List Inf := [i_area, i_rarea, i_shows, i_rshows, i_front, i_rfront, i_scheck, i_rsmay]
def t_SnapAreas : TX := (.callp 0 [(.v 0), (.v 1), (.v 2), (.v 3), (.v 4), (.v 5), (.v 6), (.v 7), (.v 8), (.v 9), (.v 10), (.v 11), (.v 12), (.v 13), (.v 14)] (.callp 1 [(.v 0), (.v 1), (.v 2), (.v 3), (.v 4), (.v 5), (.v 6), (.v 7), (.v 8), (.v 9), (.v 10), (.v 11), (.v 12), (.v 13), (.v 14)] (.callp 2 [(.v 0), (.v 1), (.v 2), (.v 3), (.v 4), (.v 5), (.v 6), (.v 7), (.v 8), (.v 9), (.v 10), (.v 11), (.v 12), (.v 13), (.v 14), (.v 15)] (.callp 3 [(.v 0), (.v 1), (.v 2), (.v 3), (.v 4), (.v 5), (.v 6), (.v 7), (.v 8), (.v 9), (.v 10), (.v 11), (.v 12), (.v 13), (.v 14), (.v 15)] (.callp 4 [(.v 0), (.v 1), (.v 2), (.v 3), (.v 4), (.v 5), (.v 6), (.v 7), (.v 8), (.v 9), (.v 10), (.v 11), (.v 12), (.v 13), (.v 14)] (.callp 5 [(.v 0), (.v 1), (.v 2), (.v 3), (.v 4), (.v 5), (.v 6), (.v 7), (.v 8), (.v 9), (.v 10), (.v 11), (.v 12), (.v 13), (.v 14)] (.ite (.or (.not (.eq (.v 16) (.v 18))) (.or (.not (.eq (.v 17) (.v 19))) (.or (.not (.iff (.nz (.v 20)) (.nz (.v 22)))) (.or (.not (.eq (.v 21) (.v 23))) (.or (.or (.or (.not (.eq (.v 24) (.v 40))) (.or (.not (.eq (.v 25) (.v 41))) (.or (.not (.eq (.v 26) (.v 42))) (.or (.not (.eq (.v 27) (.v 43))) (.not (.eq (.v 28) (.v 44))))))) (.or (.or (.not (.eq (.v 29) (.v 45))) (.or (.not (.eq (.v 30) (.v 46))) (.or (.not (.eq (.v 31) (.v 47))) (.or (.not (.eq (.v 32) (.v 48))) (.not (.eq (.v 33) (.v 49))))))) (.or (.not (.eq (.v 34) (.v 50))) (.or (.not (.eq (.v 35) (.v 51))) (.or (.not (.eq (.v 36) (.v 52))) (.or (.not (.eq (.v 37) (.v 53))) (.not (.eq (.v 38) (.v 54))))))))) (.not (.eq (.v 39) (.v 55)))))))) (.ret [(.c 0)])
(.callp 6 [(.v 0), (.v 1), (.v 2), (.v 3), (.v 4)] (.callp 7 [(.v 0), (.v 1), (.v 2), (.v 3), (.v 4)] (.ite (.iff (.eq (.v 56) (.c 0)) (.nz (.v 57))) (.ret [(.c 1)])
(.ret [(.c 0)])))))))))))
theorem tree_SnapAreas : merge (opt I_SnapAreas (((An 15).ks ++ (U8.ks ++ [])).map ivK) (symFn Try.prog G_SnapAreas 1000 4 [An 15, U8] [Bo])) = t_SnapAreas := by kernel_rfl
theorem g_SnapAreas : Gok Try.prog G_SnapAreas := (more ok_area (more ok_rarea (more ok_shows (more ok_rshows (more ok_front (more ok_rfront (more ok_scheck (one ok_rsmay))))))))
theorem o_SnapAreas : outsOK G_SnapAreas I_SnapAreas := (outsOK_cons inf_area (outsOK_cons inf_rarea (outsOK_cons inf_shows (outsOK_cons inf_rshows (outsOK_cons inf_front (outsOK_cons inf_rfront (outsOK_cons inf_scheck (outsOK_cons inf_rsmay outsOK_nil))))))))
theorem plain (xs0 : List Int) (hr0 : rangeOK (An 15).ks xs0) (xs1 : List Int) (hr1 : rangeOK U8.ks xs1) : t_SnapAreas.sat G_SnapAreas [] (fun ys => ys = [1]) (xs0 ++ (xs1 ++ [])) := by
  obtain ⟨l0, i0⟩ := An_inv hr0
  obtain ⟨a0, a1, a2, a3, a4, a5, a6, a7, a8, a9, a10, a11, a12, a13, a14, rfl⟩ := len15 l0
  obtain ⟨a15, rfl⟩ : ∃ a, xs1 = [a] := by
    have := rangeOK_len hr1
    match xs1, this with
    | [a], _ => exact ⟨a, rfl⟩
  have h1 : spotB [a0, a1, a2, a3, a4] 0 = spotB [a0, a1, a2, a3, a4, a5, a6, a7, a8, a9, a10, a11, a12, a13, a14] 0 := rfl
  simp only [t_SnapAreas, G_SnapAreas, s_area, s_rarea, s_shows, s_rshows, s_front, s_rfront, s_scheck, s_rsmay, TX.sat, XB.prop, X.den, List.map_cons, List.map_nil, List.getElem?_cons_zero, List.getElem?_cons_succ, List.cons_append, List.nil_append, List.getD_cons_zero, List.getD_cons_succ, mkS, mkP, and_true, true_and, Int.not_lt, Int.not_le, not_or, not_and, Classical.not_not, ne_eq, not_true_eq_false, not_false_eq_true, sem_area, sem_rarea, sem_shows, sem_rshows, sem_front, sem_rfront, sem_scheck, sem_rsmay, ex16, h1]
  generalize areaL _ = x
  generalize showsL _ = y
  generalize frontL _ = z
  generalize spotB _ _ = b
  cases b <;> simp [er, b01]

theorem range_nil : rangeOK [] [] := trivial
set_option maxRecDepth 100000 in
theorem lifted (os : Os) (started : os.Started) (H : Type) (enc : TypeId × Value → H) :
    ReturnsInHanded {} Try.checked os 4 .any (Rows.snapAreasSpec.pre6 enc Try.prog Try.f4 Rows.snapAreasRow.domain false) (Rows.snapAreasSpec.post enc Try.prog Try.f4 false true false false) := by
  refine returnsInHanded_of_change (C := Try.checked) facts.own started (by kernel_rfl) Try.func4
    (ChangeSpec.witness6 (enc := enc) (C := Try.checked) false ⟨#[], #[.agg #[.int .i64 0, .int .i64 0, .int .i64 0, .int .i64 0, .int .i64 0, .int .i64 0, .int .i64 0, .int .i64 0, .int .i64 0, .int .i64 0, .int .i64 0, .int .i64 0, .int .i64 0, .int .i64 0, .int .i64 0], .int .u8 0], []⟩ 8 (by kernel_rfl) (by kernel_rfl) (by kernel_rfl) (by kernel_rfl)) ?_
  intro W base args ds gs before hval0 hW hcnd _
  have hval : ∀ (j : Nat) t v, Try.f4.params[j]? = some t → args[j]? = some v → Value.okWide Try.prog W .any base t v := hval0
  have hW' := hW
  obtain ⟨p, q, hA0, hV, rfl, hfz, hnd⟩ := hW
  have hA : DataW.TrodAll enc Try.prog W 0 (fun _ => true) true Try.f4.params.toList args.toList ds p := hA0
  rw [Try.params4] at hA hval
  obtain ⟨v0, vs0, d0, ds0, p0, q0, hargs, rfl, rfl, h0, r0⟩ := trodAll_cons hA
  obtain ⟨v1, vs1, d1, ds1, p1, q1, rfl, rfl, rfl, h1, r1⟩ := trodAll_cons r0
  obtain ⟨rfl, rfl, rfl⟩ := trodAll_nil r1
  obtain rfl : args = #[v0, v1] := by cases args; simp_all
  obtain ⟨rfl, rfl⟩ := trodVars_none hV
  have k0 := h0
  have lt0 : ∀ x ∈ p0, x.block < W.heap.size := by obtain ⟨m, hm⟩ := k0; exact DataW.trod_lt m _ _ _ hm
  have k1 := h1
  have lt1 : ∀ x ∈ p1, x.block < W.heap.size := by obtain ⟨m, hm⟩ := k1; exact DataW.trod_lt m _ _ _ hm
  obtain ⟨xs0, hv0, hr0⟩ := open_sh (sh := An 15) (by kernel_rfl) (by kernel_rfl) (hval 0 29 v0 rfl rfl) h0
  obtain ⟨xs1, hv1, hr1⟩ := open_sh (sh := U8) (by kernel_rfl) (by kernel_rfl) (hval 1 5 v1 rfl rfl) h1
  clear hA0 hval0
  have hl0 := rangeOK_len hr0
  have hl1 := rangeOK_len hr1
  have hxs : #[v0, v1] = (mkShs [An 15, U8] (xs0 ++ (xs1 ++ []))).toArray := by
    rw [mkShs_cons hl0, mkShs_cons hl1]
    simp [mkShs, hv0, hv1]
  have hlen : (xs0 ++ (xs1 ++ [])).length = total [An 15, U8] := by
    simp only [List.length_append, List.length_nil, hl0, hl1]
    rfl
  have hcalls := law_opt facts.mixed g_SnapAreas o_SnapAreas tree_SnapAreas hlen (range_vs ((rangeOK_app hr0 (rangeOK_app hr1 range_nil)) : rangeOK _ _)) (plain xs0 hr0 xs1 hr1) W
  rw [← hxs] at hcalls
  refine hcalls.mono fun e W' ⟨he, bel⟩ => ?_
  subst he
  exact ⟨_, rfl, _, _, _, [], _, [], hW', trodAll_mk1 (shut_bool Try.underlying4 _), (trodAll_cons_mk (Below.trod facts.laidOut (by kernel_rfl) (of_decide_eq_true (by kernel_rfl)) k0 bel lt0) (trodAll_cons_mk (Below.trod facts.laidOut (by kernel_rfl) (of_decide_eq_true (by kernel_rfl)) k1 bel lt1) trodAll_mk0)), rfl, bel.frame _, fun h => by cases h⟩

theorem over : Rows.snapAreasRow.holds Try.pinned (OpenSpec.ofChange Rows.snapAreasSpec) :=
  OpenClaim.holds_of_wide 4 Try.f4 rfl rfl rfl rfl rfl rfl rfl ⟨rfl, rfl, rfl, rfl, rfl⟩ rfl rfl rfl rfl rfl (by kernel_rfl) Try.func4
    (facts.joined (by kernel_rfl) (by kernel_rfl) (by kernel_rfl) (by kernel_rfl) (by kernel_rfl) (by kernel_rfl) (by kernel_rfl) rfl rfl rfl rfl)
    (of_decide_eq_true (by kernel_rfl)) (by unfold Func.isWrapper; first | (rw [if_pos (by decide +kernel)]; kernel_rfl) | (rw [if_neg (by decide +kernel)]; exact ⟨rfl, rfl⟩))
    (fun os started H enc _ => lifted os started H enc)

/-- THE STATEMENT. -/
theorem proved : Rows.SnapAreasSaid := over
#print axioms proved

end Go.Proofs.Ytlgcjkolakcfiaa.snapAreas
