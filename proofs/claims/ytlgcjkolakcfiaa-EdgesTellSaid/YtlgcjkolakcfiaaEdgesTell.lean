/-
  The law EdgesTell is answered with true, whatever the triangle, the pixel and the window, and its arguments stay as they were.
-/
import Derived.Test.YtlgcjkolakcfiaaRows
import Derived.Test.YtlgcjkolakcfiaaFacts
import Derived.Test.YtlgcjkolakcfiaaBnd
set_option linter.unusedVariables false
set_option linter.unusedSimpArgs false
namespace Go.Proofs.Ytlgcjkolakcfiaa.edgesTell
open Go.RowKit Go.ChangeShapes Go.WideShapes Go.ChangeAt Go.Sx fix

def G_EdgesTell : List Sum := [s_edges, s_redges, s_covers, s_rcovers, s_bounds, s_rbounds]
def I_EdgesTell : List Inf := [i_edges, i_redges, i_covers, i_rcovers, i_bounds, i_rbounds]
def t_EdgesTell : TX := (.callp 0 [(.v 0), (.v 1), (.v 2), (.v 3), (.v 4), (.v 5), (.v 6), (.v 7), (.v 8), (.v 9), (.v 10), (.v 11), (.v 12), (.v 13), (.v 14), (.v 15), (.v 16)] (.callp 1 [(.v 0), (.v 1), (.v 2), (.v 3), (.v 4), (.v 5), (.v 6), (.v 7), (.v 8), (.v 9), (.v 10), (.v 11), (.v 12), (.v 13), (.v 14), (.v 15), (.v 16)] (.callp 2 [(.v 0), (.v 1), (.v 2), (.v 3), (.v 4), (.v 5), (.v 6), (.v 7), (.v 8), (.v 9), (.v 10), (.v 11), (.v 12), (.v 13), (.v 14), (.v 15), (.v 16)] (.callp 3 [(.v 0), (.v 1), (.v 2), (.v 3), (.v 4), (.v 5), (.v 6), (.v 7), (.v 8), (.v 9), (.v 10), (.v 11), (.v 12), (.v 13), (.v 14), (.v 15), (.v 16)] (.callp 4 [(.v 0), (.v 1), (.v 2), (.v 3), (.v 4), (.v 5), (.v 6), (.v 7), (.v 8), (.v 9), (.v 10), (.v 11), (.v 12), (.v 13), (.v 14), (.v 17), (.v 18), (.v 19), (.v 20)] (.callp 5 [(.v 0), (.v 1), (.v 2), (.v 3), (.v 4), (.v 5), (.v 6), (.v 7), (.v 8), (.v 9), (.v 10), (.v 11), (.v 12), (.v 13), (.v 14), (.v 17), (.v 18), (.v 19), (.v 20)] (.ite (.or (.or (.not (.eq (.v 21) (.v 25))) (.or (.not (.eq (.v 22) (.v 26))) (.not (.eq (.v 23) (.v 27))))) (.or (.not (.eq (.v 24) (.v 28))) (.or (.not (.iff (.nz (.v 29)) (.nz (.v 31)))) (.or (.not (.eq (.v 30) (.v 32))) (.or (.or (.not (.eq (.v 33) (.v 39))) (.or (.not (.eq (.v 34) (.v 40))) (.or (.not (.eq (.v 35) (.v 41))) (.not (.eq (.v 36) (.v 42)))))) (.not (.iff (.nz (.v 37)) (.nz (.v 43))))))))) (.ret [(.c 0)])
(.ite (.eq (.v 38) (.v 44)) (.ret [(.c 1)])
(.ret [(.c 0)])))))))))
theorem tree_EdgesTell : merge (opt I_EdgesTell (((An 15).ks ++ (I1.ks ++ (I1.ks ++ ((An 4).ks ++ [])))).map ivK) (symFn Try.prog G_EdgesTell 1000 32 [An 15, I1, I1, An 4] [Bo])) = t_EdgesTell := by kernel_rfl
theorem g_EdgesTell : Gok Try.prog G_EdgesTell := (more ok_edges (more ok_redges (more ok_covers (more ok_rcovers (more ok_bounds (one ok_rbounds))))))
theorem o_EdgesTell : outsOK G_EdgesTell I_EdgesTell := (outsOK_cons inf_edges (outsOK_cons inf_redges (outsOK_cons inf_covers (outsOK_cons inf_rcovers (outsOK_cons inf_bounds (outsOK_cons inf_rbounds outsOK_nil))))))
theorem plain (xs0 : List Int) (hr0 : rangeOK (An 15).ks xs0) (xs1 : List Int) (hr1 : rangeOK I1.ks xs1) (xs2 : List Int) (hr2 : rangeOK I1.ks xs2) (xs3 : List Int) (hr3 : rangeOK (An 4).ks xs3) : t_EdgesTell.sat G_EdgesTell [] (fun ys => ys = [1]) (xs0 ++ (xs1 ++ (xs2 ++ (xs3 ++ [])))) := by
  obtain ⟨l0, i0⟩ := An_inv hr0
  obtain ⟨a0, a1, a2, a3, a4, a5, a6, a7, a8, a9, a10, a11, a12, a13, a14, rfl⟩ := len15 l0
  obtain ⟨a15, rfl, i1⟩ := I1_inv hr1
  obtain ⟨a16, rfl, i2⟩ := I1_inv hr2
  obtain ⟨l3, i3⟩ := An_inv hr3
  obtain ⟨a17, a18, a19, a20, rfl⟩ := len4 l3
  simp only [t_EdgesTell, G_EdgesTell, s_edges, s_redges, s_covers, s_rcovers, s_bounds, s_rbounds, TX.sat, XB.prop, X.den, List.map_cons, List.map_nil, List.getElem?_cons_zero, List.getElem?_cons_succ, List.cons_append, List.nil_append, List.getD_cons_zero, List.getD_cons_succ, mkS, mkP, and_true, true_and, Int.not_lt, Int.not_le, not_or, not_and, Classical.not_not, ne_eq, not_true_eq_false, not_false_eq_true, sem_edges, sem_redges, sem_covers, sem_rcovers, sem_bounds, sem_rbounds, ex4, ex6]
  generalize edgesL _ = x
  generalize coversL _ = y
  generalize boundsL _ = z
  simp

theorem range_nil : rangeOK [] [] := trivial
set_option maxRecDepth 100000 in
theorem lifted (os : Os) (started : os.Started) (H : Type) (enc : TypeId × Value → H) :
    ReturnsInHanded {} Try.checked os 32 .any (Rows.edgesTellSpec.pre6 enc Try.prog Try.f32 Rows.edgesTellRow.domain false) (Rows.edgesTellSpec.post enc Try.prog Try.f32 false true false false) := by
  refine returnsInHanded_of_change (C := Try.checked) facts.own started (by kernel_rfl) Try.func32
    (ChangeSpec.witness6 (enc := enc) (C := Try.checked) false ⟨#[], #[.agg #[.int .i64 0, .int .i64 0, .int .i64 0, .int .i64 0, .int .i64 0, .int .i64 0, .int .i64 0, .int .i64 0, .int .i64 0, .int .i64 0, .int .i64 0, .int .i64 0, .int .i64 0, .int .i64 0, .int .i64 0], .int .i64 0, .int .i64 0, .agg #[.int .i64 0, .int .i64 0, .int .i64 0, .int .i64 0]], []⟩ 8 (by kernel_rfl) (by kernel_rfl) (by kernel_rfl) (by kernel_rfl)) ?_
  intro W base args ds gs before hval0 hW hcnd _
  have hval : ∀ (j : Nat) t v, Try.f32.params[j]? = some t → args[j]? = some v → Value.okWide Try.prog W .any base t v := hval0
  have hW' := hW
  obtain ⟨p, q, hA0, hV, rfl, hfz, hnd⟩ := hW
  have hA : DataW.TrodAll enc Try.prog W 0 (fun _ => true) true Try.f32.params.toList args.toList ds p := hA0
  rw [Try.params32] at hA hval
  obtain ⟨v0, vs0, d0, ds0, p0, q0, hargs, rfl, rfl, h0, r0⟩ := trodAll_cons hA
  obtain ⟨v1, vs1, d1, ds1, p1, q1, rfl, rfl, rfl, h1, r1⟩ := trodAll_cons r0
  obtain ⟨v2, vs2, d2, ds2, p2, q2, rfl, rfl, rfl, h2, r2⟩ := trodAll_cons r1
  obtain ⟨v3, vs3, d3, ds3, p3, q3, rfl, rfl, rfl, h3, r3⟩ := trodAll_cons r2
  obtain ⟨rfl, rfl, rfl⟩ := trodAll_nil r3
  obtain rfl : args = #[v0, v1, v2, v3] := by cases args; simp_all
  obtain ⟨rfl, rfl⟩ := trodVars_none hV
  have k0 := h0
  have lt0 : ∀ x ∈ p0, x.block < W.heap.size := by obtain ⟨m, hm⟩ := k0; exact DataW.trod_lt m _ _ _ hm
  have k1 := h1
  have lt1 : ∀ x ∈ p1, x.block < W.heap.size := by obtain ⟨m, hm⟩ := k1; exact DataW.trod_lt m _ _ _ hm
  have k2 := h2
  have lt2 : ∀ x ∈ p2, x.block < W.heap.size := by obtain ⟨m, hm⟩ := k2; exact DataW.trod_lt m _ _ _ hm
  have k3 := h3
  have lt3 : ∀ x ∈ p3, x.block < W.heap.size := by obtain ⟨m, hm⟩ := k3; exact DataW.trod_lt m _ _ _ hm
  obtain ⟨xs0, hv0, hr0⟩ := open_sh (sh := An 15) (by kernel_rfl) (by kernel_rfl) (hval 0 29 v0 rfl rfl) h0
  obtain ⟨xs1, hv1, hr1⟩ := open_sh (sh := I1) (by kernel_rfl) (by kernel_rfl) (hval 1 3 v1 rfl rfl) h1
  obtain ⟨xs2, hv2, hr2⟩ := open_sh (sh := I1) (by kernel_rfl) (by kernel_rfl) (hval 2 3 v2 rfl rfl) h2
  obtain ⟨xs3, hv3, hr3⟩ := open_sh (sh := An 4) (by kernel_rfl) (by kernel_rfl) (hval 3 106 v3 rfl rfl) h3
  clear hA0 hval0
  have hl0 := rangeOK_len hr0
  have hl1 := rangeOK_len hr1
  have hl2 := rangeOK_len hr2
  have hl3 := rangeOK_len hr3
  have hxs : #[v0, v1, v2, v3] = (mkShs [An 15, I1, I1, An 4] (xs0 ++ (xs1 ++ (xs2 ++ (xs3 ++ []))))).toArray := by
    rw [mkShs_cons hl0, mkShs_cons hl1, mkShs_cons hl2, mkShs_cons hl3]
    simp [mkShs, hv0, hv1, hv2, hv3]
  have hlen : (xs0 ++ (xs1 ++ (xs2 ++ (xs3 ++ [])))).length = total [An 15, I1, I1, An 4] := by
    simp only [List.length_append, List.length_nil, hl0, hl1, hl2, hl3]
    rfl
  have hcalls := law_opt facts.mixed g_EdgesTell o_EdgesTell tree_EdgesTell hlen (range_vs ((rangeOK_app hr0 (rangeOK_app hr1 (rangeOK_app hr2 (rangeOK_app hr3 range_nil)))) : rangeOK _ _)) (plain xs0 hr0 xs1 hr1 xs2 hr2 xs3 hr3) W
  rw [← hxs] at hcalls
  refine hcalls.mono fun e W' ⟨he, bel⟩ => ?_
  subst he
  exact ⟨_, rfl, _, _, _, [], _, [], hW', trodAll_mk1 (shut_bool Try.underlying4 _), (trodAll_cons_mk (Below.trod facts.laidOut (by kernel_rfl) (of_decide_eq_true (by kernel_rfl)) k0 bel lt0) (trodAll_cons_mk (Below.trod facts.laidOut (by kernel_rfl) (of_decide_eq_true (by kernel_rfl)) k1 bel lt1) (trodAll_cons_mk (Below.trod facts.laidOut (by kernel_rfl) (of_decide_eq_true (by kernel_rfl)) k2 bel lt2) (trodAll_cons_mk (Below.trod facts.laidOut (by kernel_rfl) (of_decide_eq_true (by kernel_rfl)) k3 bel lt3) trodAll_mk0)))), rfl, bel.frame _, fun h => by cases h⟩

theorem over : Rows.edgesTellRow.holds Try.pinned (OpenSpec.ofChange Rows.edgesTellSpec) :=
  OpenClaim.holds_of_wide 32 Try.f32 rfl rfl rfl rfl rfl rfl rfl ⟨rfl, rfl, rfl, rfl, rfl⟩ rfl rfl rfl rfl rfl (by kernel_rfl) Try.func32
    (facts.joined (by kernel_rfl) (by kernel_rfl) (by kernel_rfl) (by kernel_rfl) (by kernel_rfl) (by kernel_rfl) (by kernel_rfl) rfl rfl rfl rfl)
    (of_decide_eq_true (by kernel_rfl)) (by unfold Func.isWrapper; first | (rw [if_pos (by decide +kernel)]; kernel_rfl) | (rw [if_neg (by decide +kernel)]; exact ⟨rfl, rfl⟩))
    (fun os started H enc _ => lifted os started H enc)

/-- THE STATEMENT. -/
theorem proved : Rows.EdgesTellSaid := over
#print axioms proved

end Go.Proofs.Ytlgcjkolakcfiaa.edgesTell
