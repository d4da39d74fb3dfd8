/-
  The law EdgesOnce is answered with true, whatever its arguments, which stay as they were.
-/
import Derived.Test.YtlgcjkolakcfiaaRows
import Derived.Test.YtlgcjkolakcfiaaFacts
import Derived.Test.YtlgcjkolakcfiaaLive
set_option linter.unusedVariables false
set_option linter.unusedSimpArgs false
namespace Go.Proofs.Ytlgcjkolakcfiaa.edgesOnce
open Go.RowKit Go.ChangeShapes Go.WideShapes Go.ChangeAt Go.Sx fix

def G_EdgesOnce : List Sum := [s_alive21, s_edges, s_has21]
def I_EdgesOnce : List Inf := [i_alive21, i_edges, i_has21]
def t_EdgesOnce : TX := (.callp 0 [] (.callp 1 [(.v 0), (.v 1), (.v 2), (.v 3), (.v 4), (.v 5), (.v 6), (.v 7), (.v 8), (.v 9), (.v 10), (.v 11), (.v 12), (.v 13), (.v 14), (.v 20), (.v 21)] (.callp 1 [(.v 5), (.v 6), (.v 7), (.v 8), (.v 9), (.v 0), (.v 1), (.v 2), (.v 3), (.v 4), (.v 15), (.v 16), (.v 17), (.v 18), (.v 19), (.v 20), (.v 21)] (.ite (.or (.not (.eq (.v 26) (.c 0))) (.not (.eq (.v 30) (.c 0)))) (.ret [(.c 1)])
(.callp 2 [(.v 0), (.v 1), (.v 2), (.v 3), (.v 4), (.v 5), (.v 6), (.v 7), (.v 8), (.v 9), (.v 10), (.v 11), (.v 12), (.v 13), (.v 14), (.v 20), (.v 21)] (.callp 2 [(.v 5), (.v 6), (.v 7), (.v 8), (.v 9), (.v 0), (.v 1), (.v 2), (.v 3), (.v 4), (.v 15), (.v 16), (.v 17), (.v 18), (.v 19), (.v 20), (.v 21)] (.ite (.and (.nz (.v 31)) (.nz (.v 32))) (.ret [(.c 0)])
(.ite (.and (.and (.nz (.v 22)) (.eq (.v 25) (.sub (.c 0) (.v 29)))) (.or (.or (.or (.or (.or (.or (.or (.not (.eq (.v 25) (.c 0))) (.not (.eq (.v 29) (.c 0)))) (.le (.v 23) (.c 0))) (.le (.v 24) (.c 0))) (.le (.v 27) (.c 0))) (.le (.v 28) (.c 0))) (.nz (.v 31))) (.nz (.v 32)))) (.ret [(.c 1)])
(.ret [(.c 0)])))))))))
theorem tree_EdgesOnce : merge (opt I_EdgesOnce (((An 5).ks ++ ((An 5).ks ++ ((An 5).ks ++ ((An 5).ks ++ (I1.ks ++ (I1.ks ++ [])))))).map ivK) (symFn Try.prog G_EdgesOnce 1000 6 [An 5, An 5, An 5, An 5, I1, I1] [Bo])) = t_EdgesOnce := by kernel_rfl
theorem g_EdgesOnce : Gok Try.prog G_EdgesOnce := (more ok_alive21 (more ok_edges (one ok_has21)))
theorem o_EdgesOnce : outsOK G_EdgesOnce I_EdgesOnce := (outsOK_cons inf_alive21 (outsOK_cons inf_edges (outsOK_cons inf_has21 outsOK_nil)))
theorem plain (xs0 : List Int) (hr0 : rangeOK (An 5).ks xs0) (xs1 : List Int) (hr1 : rangeOK (An 5).ks xs1) (xs2 : List Int) (hr2 : rangeOK (An 5).ks xs2) (xs3 : List Int) (hr3 : rangeOK (An 5).ks xs3) (xs4 : List Int) (hr4 : rangeOK I1.ks xs4) (xs5 : List Int) (hr5 : rangeOK I1.ks xs5) : t_EdgesOnce.sat G_EdgesOnce [] (fun ys => ys = [1]) (xs0 ++ (xs1 ++ (xs2 ++ (xs3 ++ (xs4 ++ (xs5 ++ [])))))) := by
  obtain ⟨l0, i0⟩ := An_inv hr0
  obtain ⟨a0, a1, a2, a3, a4, rfl⟩ := len5 l0
  obtain ⟨l1, i1⟩ := An_inv hr1
  obtain ⟨a5, a6, a7, a8, a9, rfl⟩ := len5 l1
  obtain ⟨l2, i2⟩ := An_inv hr2
  obtain ⟨a10, a11, a12, a13, a14, rfl⟩ := len5 l2
  obtain ⟨l3, i3⟩ := An_inv hr3
  obtain ⟨a15, a16, a17, a18, a19, rfl⟩ := len5 l3
  obtain ⟨a20, rfl, i4⟩ := I1_inv hr4
  obtain ⟨a21, rfl, i5⟩ := I1_inv hr5
  have hE := @edges_ok [a0, a1, a2, a3, a4, a5, a6, a7, a8, a9, a10, a11, a12, a13, a14, a20, a21]
  have hF := @edges_ok [a5, a6, a7, a8, a9, a0, a1, a2, a3, a4, a15, a16, a17, a18, a19, a20, a21]
  have hh := @hasB_iff [a0, a1, a2, a3, a4, a5, a6, a7, a8, a9, a10, a11, a12, a13, a14, a20, a21]
  have hk := @hasB_iff [a5, a6, a7, a8, a9, a0, a1, a2, a3, a4, a15, a16, a17, a18, a19, a20, a21]
  have hs : wgt [a5, a6, a7, a8, a9, a0, a1, a2, a3, a4, a15, a16, a17, a18, a19, a20, a21] 0 5 15 = - wgt [a0, a1, a2, a3, a4, a5, a6, a7, a8, a9, a10, a11, a12, a13, a14, a20, a21] 0 5 15 := by
    simp only [wgt, TX.sat, XB.prop, X.den, List.map_cons, List.map_nil, List.getElem?_cons_zero, List.getElem?_cons_succ, List.cons_append, List.nil_append, List.getD_cons_zero, List.getD_cons_succ, mkS, mkP, and_true, true_and, Int.not_lt, Int.not_le, not_or, not_and, Classical.not_not, ne_eq, not_true_eq_false, not_false_eq_true, Nat.reduceAdd, Nat.zero_add]
    grind
  have hz : a0 = a5 → a1 = a6 → twiceV [a0, a1, a2, a3, a4, a5, a6, a7, a8, a9, a10, a11, a12, a13, a14, a20, a21] = 0 := by
    intro h1 h2
    simp only [twiceV, TX.sat, XB.prop, X.den, List.map_cons, List.map_nil, List.getElem?_cons_zero, List.getElem?_cons_succ, List.cons_append, List.nil_append, List.getD_cons_zero, List.getD_cons_succ, mkS, mkP, and_true, true_and, Int.not_lt, Int.not_le, not_or, not_and, Classical.not_not, ne_eq, not_true_eq_false, not_false_eq_true]
    rw [h1, h2]
    simp
  simp only [TX.sat, XB.prop, X.den, List.map_cons, List.map_nil, List.getElem?_cons_zero, List.getElem?_cons_succ, List.cons_append, List.nil_append, List.getD_cons_zero, List.getD_cons_succ, mkS, mkP, and_true, true_and, Int.not_lt, Int.not_le, not_or, not_and, Classical.not_not, ne_eq, not_true_eq_false, not_false_eq_true] at hh hk
  simp only [t_EdgesOnce, G_EdgesOnce, s_alive21, s_edges, s_has21, TX.sat, XB.prop, X.den, List.map_cons, List.map_nil, List.getElem?_cons_zero, List.getElem?_cons_succ, List.cons_append, List.nil_append, List.getD_cons_zero, List.getD_cons_succ, mkS, mkP, and_true, true_and, Int.not_lt, Int.not_le, not_or, not_and, Classical.not_not, ne_eq, not_true_eq_false, not_false_eq_true, sem_alive21, sem_alive, sem_edges, sem_has21, ex4]
  clear i0 i1 i2 i3 i4 i5 l0 l1 l2 l3
  by_cases he : (edgesL [a0, a1, a2, a3, a4, a5, a6, a7, a8, a9, a10, a11, a12, a13, a14, a20, a21]).getD 3 0 = 0
  · by_cases hf : (edgesL [a5, a6, a7, a8, a9, a0, a1, a2, a3, a4, a15, a16, a17, a18, a19, a20, a21]).getD 3 0 = 0
    · obtain ⟨_, h2, _, hv⟩ := hE he
      obtain ⟨_, _, _, hw⟩ := hF hf
      rw [hv, hw]
      simp only [TX.sat, XB.prop, X.den, List.map_cons, List.map_nil, List.getElem?_cons_zero, List.getElem?_cons_succ, List.cons_append, List.nil_append, List.getD_cons_zero, List.getD_cons_succ, mkS, mkP, and_true, true_and, Int.not_lt, Int.not_le, not_or, not_and, Classical.not_not, ne_eq, not_true_eq_false, not_false_eq_true, if_true, reduceIte]
      clear hE he hv hF hf hw
      generalize wgt [a0, a1, a2, a3, a4, a5, a6, a7, a8, a9, a10, a11, a12, a13, a14, a20, a21] 5 10 15 = v0 at *
      generalize wgt [a0, a1, a2, a3, a4, a5, a6, a7, a8, a9, a10, a11, a12, a13, a14, a20, a21] 10 0 15 = v1 at *
      generalize wgt [a0, a1, a2, a3, a4, a5, a6, a7, a8, a9, a10, a11, a12, a13, a14, a20, a21] 0 5 15 = v2 at *
      generalize wgt [a5, a6, a7, a8, a9, a0, a1, a2, a3, a4, a15, a16, a17, a18, a19, a20, a21] 5 10 15 = w0 at *
      generalize wgt [a5, a6, a7, a8, a9, a0, a1, a2, a3, a4, a15, a16, a17, a18, a19, a20, a21] 10 0 15 = w1 at *
      generalize wgt [a5, a6, a7, a8, a9, a0, a1, a2, a3, a4, a15, a16, a17, a18, a19, a20, a21] 0 5 15 = w2 at *
      generalize twiceV _ = n at *
      generalize hasB [a0, a1, a2, a3, a4, a5, a6, a7, a8, a9, a10, a11, a12, a13, a14, a20, a21] = p at *
      generalize hasB [a5, a6, a7, a8, a9, a0, a1, a2, a3, a4, a15, a16, a17, a18, a19, a20, a21] = q at *
      cases p <;> cases q <;> simp only [b01, if_true, if_false, reduceIte, Bool.false_eq_true, false_iff, true_iff] at hh hk ⊢ <;> repeat' first | exact trivial | refine And.intro ?_ ?_ | intro _
      all_goals first | trivial | omega
    · exact ⟨fun _ => trivial, fun h => absurd h.2 hf⟩
  · exact ⟨fun _ => trivial, fun h => absurd h.1 he⟩

theorem range_nil : rangeOK [] [] := trivial
set_option maxRecDepth 100000 in
theorem lifted (os : Os) (started : os.Started) (H : Type) (enc : TypeId × Value → H) :
    ReturnsInHanded {} Try.checked os 6 .any (Rows.edgesOnceSpec.pre6 enc Try.prog Try.f6 Rows.edgesOnceRow.domain false) (Rows.edgesOnceSpec.post enc Try.prog Try.f6 false true false false) := by
  refine returnsInHanded_of_change (C := Try.checked) facts.own started (by kernel_rfl) Try.func6
    (ChangeSpec.witness6 (enc := enc) (C := Try.checked) false ⟨#[], #[.agg #[.int .i64 0, .int .i64 0, .int .i64 0, .int .i64 0, .int .i64 0], .agg #[.int .i64 0, .int .i64 0, .int .i64 0, .int .i64 0, .int .i64 0], .agg #[.int .i64 0, .int .i64 0, .int .i64 0, .int .i64 0, .int .i64 0], .agg #[.int .i64 0, .int .i64 0, .int .i64 0, .int .i64 0, .int .i64 0], .int .i64 0, .int .i64 0], []⟩ 8 (by kernel_rfl) (by kernel_rfl) (by kernel_rfl) (by kernel_rfl)) ?_
  intro W base args ds gs before hval0 hW hcnd _
  have hval : ∀ (j : Nat) t v, Try.f6.params[j]? = some t → args[j]? = some v → Value.okWide Try.prog W .any base t v := hval0
  have hW' := hW
  obtain ⟨p, q, hA0, hV, rfl, hfz, hnd⟩ := hW
  have hA : DataW.TrodAll enc Try.prog W 0 (fun _ => true) true Try.f6.params.toList args.toList ds p := hA0
  rw [Try.params6] at hA hval
  obtain ⟨v0, vs0, d0, ds0, p0, q0, hargs, rfl, rfl, h0, r0⟩ := trodAll_cons hA
  obtain ⟨v1, vs1, d1, ds1, p1, q1, rfl, rfl, rfl, h1, r1⟩ := trodAll_cons r0
  obtain ⟨v2, vs2, d2, ds2, p2, q2, rfl, rfl, rfl, h2, r2⟩ := trodAll_cons r1
  obtain ⟨v3, vs3, d3, ds3, p3, q3, rfl, rfl, rfl, h3, r3⟩ := trodAll_cons r2
  obtain ⟨v4, vs4, d4, ds4, p4, q4, rfl, rfl, rfl, h4, r4⟩ := trodAll_cons r3
  obtain ⟨v5, vs5, d5, ds5, p5, q5, rfl, rfl, rfl, h5, r5⟩ := trodAll_cons r4
  obtain ⟨rfl, rfl, rfl⟩ := trodAll_nil r5
  obtain rfl : args = #[v0, v1, v2, v3, v4, v5] := by cases args; simp_all
  obtain ⟨rfl, rfl⟩ := trodVars_none hV
  have k0 := h0
  have lt0 : ∀ x ∈ p0, x.block < W.heap.size := by obtain ⟨m, hm⟩ := k0; exact DataW.trod_lt m _ _ _ hm
  have k1 := h1
  have lt1 : ∀ x ∈ p1, x.block < W.heap.size := by obtain ⟨m, hm⟩ := k1; exact DataW.trod_lt m _ _ _ hm
  have k2 := h2
  have lt2 : ∀ x ∈ p2, x.block < W.heap.size := by obtain ⟨m, hm⟩ := k2; exact DataW.trod_lt m _ _ _ hm
  have k3 := h3
  have lt3 : ∀ x ∈ p3, x.block < W.heap.size := by obtain ⟨m, hm⟩ := k3; exact DataW.trod_lt m _ _ _ hm
  have k4 := h4
  have lt4 : ∀ x ∈ p4, x.block < W.heap.size := by obtain ⟨m, hm⟩ := k4; exact DataW.trod_lt m _ _ _ hm
  have k5 := h5
  have lt5 : ∀ x ∈ p5, x.block < W.heap.size := by obtain ⟨m, hm⟩ := k5; exact DataW.trod_lt m _ _ _ hm
  obtain ⟨xs0, hv0, hr0⟩ := open_sh (sh := An 5) (by kernel_rfl) (by kernel_rfl) (hval 0 28 v0 rfl rfl) h0
  obtain ⟨xs1, hv1, hr1⟩ := open_sh (sh := An 5) (by kernel_rfl) (by kernel_rfl) (hval 1 28 v1 rfl rfl) h1
  obtain ⟨xs2, hv2, hr2⟩ := open_sh (sh := An 5) (by kernel_rfl) (by kernel_rfl) (hval 2 28 v2 rfl rfl) h2
  obtain ⟨xs3, hv3, hr3⟩ := open_sh (sh := An 5) (by kernel_rfl) (by kernel_rfl) (hval 3 28 v3 rfl rfl) h3
  obtain ⟨xs4, hv4, hr4⟩ := open_sh (sh := I1) (by kernel_rfl) (by kernel_rfl) (hval 4 3 v4 rfl rfl) h4
  obtain ⟨xs5, hv5, hr5⟩ := open_sh (sh := I1) (by kernel_rfl) (by kernel_rfl) (hval 5 3 v5 rfl rfl) h5
  clear hA0 hval0
  have hl0 := rangeOK_len hr0
  have hl1 := rangeOK_len hr1
  have hl2 := rangeOK_len hr2
  have hl3 := rangeOK_len hr3
  have hl4 := rangeOK_len hr4
  have hl5 := rangeOK_len hr5
  have hxs : #[v0, v1, v2, v3, v4, v5] = (mkShs [An 5, An 5, An 5, An 5, I1, I1] (xs0 ++ (xs1 ++ (xs2 ++ (xs3 ++ (xs4 ++ (xs5 ++ []))))))).toArray := by
    rw [mkShs_cons hl0, mkShs_cons hl1, mkShs_cons hl2, mkShs_cons hl3, mkShs_cons hl4, mkShs_cons hl5]
    simp [mkShs, hv0, hv1, hv2, hv3, hv4, hv5]
  have hlen : (xs0 ++ (xs1 ++ (xs2 ++ (xs3 ++ (xs4 ++ (xs5 ++ [])))))).length = total [An 5, An 5, An 5, An 5, I1, I1] := by
    simp only [List.length_append, List.length_nil, hl0, hl1, hl2, hl3, hl4, hl5]
    rfl
  have hcalls := law_opt facts.mixed g_EdgesOnce o_EdgesOnce tree_EdgesOnce hlen (range_vs ((rangeOK_app hr0 (rangeOK_app hr1 (rangeOK_app hr2 (rangeOK_app hr3 (rangeOK_app hr4 (rangeOK_app hr5 range_nil)))))) : rangeOK _ _)) (plain xs0 hr0 xs1 hr1 xs2 hr2 xs3 hr3 xs4 hr4 xs5 hr5) W
  rw [← hxs] at hcalls
  refine hcalls.mono fun e W' ⟨he, bel⟩ => ?_
  subst he
  exact ⟨_, rfl, _, _, _, [], _, [], hW', trodAll_mk1 (shut_bool Try.underlying4 _), (trodAll_cons_mk (Below.trod facts.laidOut (by kernel_rfl) (of_decide_eq_true (by kernel_rfl)) k0 bel lt0) (trodAll_cons_mk (Below.trod facts.laidOut (by kernel_rfl) (of_decide_eq_true (by kernel_rfl)) k1 bel lt1) (trodAll_cons_mk (Below.trod facts.laidOut (by kernel_rfl) (of_decide_eq_true (by kernel_rfl)) k2 bel lt2) (trodAll_cons_mk (Below.trod facts.laidOut (by kernel_rfl) (of_decide_eq_true (by kernel_rfl)) k3 bel lt3) (trodAll_cons_mk (Below.trod facts.laidOut (by kernel_rfl) (of_decide_eq_true (by kernel_rfl)) k4 bel lt4) (trodAll_cons_mk (Below.trod facts.laidOut (by kernel_rfl) (of_decide_eq_true (by kernel_rfl)) k5 bel lt5) trodAll_mk0)))))), rfl, bel.frame _, fun h => by cases h⟩

theorem over : Rows.edgesOnceRow.holds Try.pinned (OpenSpec.ofChange Rows.edgesOnceSpec) :=
  OpenClaim.holds_of_wide 6 Try.f6 rfl rfl rfl rfl rfl rfl rfl ⟨rfl, rfl, rfl, rfl, rfl⟩ rfl rfl rfl rfl rfl (by kernel_rfl) Try.func6
    (facts.joined (by kernel_rfl) (by kernel_rfl) (by kernel_rfl) (by kernel_rfl) (by kernel_rfl) (by kernel_rfl) (by kernel_rfl) rfl rfl rfl rfl)
    (of_decide_eq_true (by kernel_rfl)) (by unfold Func.isWrapper; first | (rw [if_pos (by decide +kernel)]; kernel_rfl) | (rw [if_neg (by decide +kernel)]; exact ⟨rfl, rfl⟩))
    (fun os started H enc _ => lifted os started H enc)

/-- THE STATEMENT. -/
theorem proved : Rows.EdgesOnceSaid := over
#print axioms proved

end Go.Proofs.Ytlgcjkolakcfiaa.edgesOnce
