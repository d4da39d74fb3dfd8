/-
  The law ClipRounds is answered with true, whatever its arguments, which stay as they were.
-/
import Derived.Test.YtjbkcjbjllmhfaaRows
import Derived.Test.YtjbkcjbjllmhfaaFacts
import Derived.Test.YtjbkcjbjllmhfaaClip
set_option linter.unusedVariables false
set_option linter.unusedSimpArgs false
namespace Go.Proofs.Ytjbkcjbjllmhfaa.clipRounds
open Go.RowKit Go.ChangeShapes Go.WideShapes Go.ChangeAt Go.Sx fix

def G_ClipRounds : List Sum := [s_alive19, s_cut, s_floorG]
def I_ClipRounds : List Inf := [i_alive19, i_cut, i_floorG]
def t_ClipRounds : TX := (.callp 0 [] (.callp 1 [(.v 0), (.v 1), (.v 2), (.v 3), (.v 4), (.v 5), (.v 6), (.v 7), (.v 8), (.v 9), (.v 10)] (.ite (.not (.eq (.v 17) (.c 0))) (.ite (.and (.and (.eq (.v 12) (.c 0)) (.and (.eq (.v 13) (.c 0)) (.eq (.v 14) (.c 0)))) (.and (.eq (.v 15) (.c 0)) (.eq (.v 16) (.c 0)))) (.ret [(.c 1)])
(.ret [(.c 0)]))
(.callp 2 [(.wr .i64 (.mul (.wr .i64 (.sub (.v 6) (.v 1))) (.wr .i64 (.sub (.v 0) (.v 3))))), (.wr .i64 (.sub (.v 8) (.v 3)))] (.callp 2 [(.wr .i64 (.mul (.wr .i64 (.sub (.v 7) (.v 2))) (.wr .i64 (.sub (.v 0) (.v 3))))), (.wr .i64 (.sub (.v 8) (.v 3)))] (.callp 2 [(.wr .i64 (.mul (.wr .i64 (.sub (.v 9) (.v 4))) (.wr .i64 (.sub (.v 0) (.v 3))))), (.wr .i64 (.sub (.v 8) (.v 3)))] (.callp 2 [(.wr .i64 (.mul (.wr .i64 (.sub (.v 10) (.v 5))) (.wr .i64 (.sub (.v 0) (.v 3))))), (.wr .i64 (.sub (.v 8) (.v 3)))] (.ite (.or (.not (.eq (.v 19) (.c 0))) (.or (.not (.eq (.v 21) (.c 0))) (.or (.not (.eq (.v 23) (.c 0))) (.not (.eq (.v 25) (.c 0)))))) (.ret [(.c 0)])
(.ite (.and (.and (.eq (.v 12) (.wr .i64 (.add (.v 1) (.v 18)))) (.and (.eq (.v 13) (.wr .i64 (.add (.v 2) (.v 20)))) (.eq (.v 14) (.v 0)))) (.and (.eq (.v 15) (.wr .i64 (.add (.v 4) (.v 22)))) (.eq (.v 16) (.wr .i64 (.add (.v 5) (.v 24)))))) (.ret [(.c 1)])
(.ret [(.c 0)]))))))))))
theorem tree_ClipRounds : merge (optF I_ClipRounds [] ((I1.ks ++ ((An 5).ks ++ ((An 5).ks ++ []))).map ivK) (symFn Try.prog G_ClipRounds 1000 3 [I1, An 5, An 5] [Bo])) = t_ClipRounds := by kernel_rfl
theorem g_ClipRounds : Gok Try.prog G_ClipRounds := (more ok_alive19 (more ok_cut (one ok_floorG)))
theorem o_ClipRounds : outsOK G_ClipRounds I_ClipRounds := (outsOK_cons inf_alive19 (outsOK_cons inf_cut (outsOK_cons inf_floorG outsOK_nil)))
theorem plain (xs0 : List Int) (hr0 : rangeOK I1.ks xs0) (xs1 : List Int) (hr1 : rangeOK (An 5).ks xs1) (xs2 : List Int) (hr2 : rangeOK (An 5).ks xs2) : t_ClipRounds.sat G_ClipRounds [] (fun ys => ys = [1]) (xs0 ++ (xs1 ++ (xs2 ++ []))) := by
  obtain ⟨a0, rfl, i0⟩ := I1_inv hr0
  obtain ⟨l1, i1⟩ := An_inv hr1
  obtain ⟨a1, a2, a3, a4, a5, rfl⟩ := len5 l1
  obtain ⟨l2, i2⟩ := An_inv hr2
  obtain ⟨a6, a7, a8, a9, a10, rfl⟩ := len5 l2
  have hcut := @cut_ok [a0, a1, a2, a3, a4, a5, a6, a7, a8, a9, a10]
  simp only [t_ClipRounds, G_ClipRounds, s_alive19, s_cut, s_floorG, TX.sat, XB.prop, X.den, List.map_cons, List.map_nil, List.getElem?_cons_zero, List.getElem?_cons_succ, List.cons_append, List.nil_append, List.getD_cons_zero, List.getD_cons_succ, mkS, mkP, and_true, true_and, Int.not_lt, Int.not_le, not_or, not_and, Classical.not_not, ne_eq, not_true_eq_false, not_false_eq_true, sem_alive19, sem_alive, sem_cut, sem_floorG, ex6, floorGL]
  clear i0 i1 i2 l1 l2
  by_cases he : (cutL [a0, a1, a2, a3, a4, a5, a6, a7, a8, a9, a10]).getD 5 0 = 0
  · obtain ⟨hn, h1, h6, hb, hv⟩ := hcut he
    have kn := near_in hn
    have kb := behind_in hb
    have k1 := point_in h1
    have k6 := point_in h6
    simp only [TX.sat, XB.prop, X.den, List.map_cons, List.map_nil, List.getElem?_cons_zero, List.getElem?_cons_succ, List.cons_append, List.nil_append, List.getD_cons_zero, List.getD_cons_succ, mkS, mkP, and_true, true_and, Int.not_lt, Int.not_le, not_or, not_and, Classical.not_not, ne_eq, not_true_eq_false, not_false_eq_true, Nat.reduceAdd] at kn kb k1 k6
    have w0 : IntKind.i64.wrap (a0 - a3) = a0 - a3 := wrap64 (by omega) (by omega)
    have w8 : IntKind.i64.wrap (a8 - a3) = a8 - a3 := wrap64 (by omega) (by omega)
    obtain ⟨u1, v1, x1, p1⟩ := cut_wrap (a := a1) (b := a6) (p := a0 - a3) (q := a8 - a3) k1.1 k6.1 (by omega) (by omega) (by omega)
    obtain ⟨u2, v2, x2, p2⟩ := cut_wrap (a := a2) (b := a7) (p := a0 - a3) (q := a8 - a3) k1.2.1 k6.2.1 (by omega) (by omega) (by omega)
    obtain ⟨u4, v4, x4, p4⟩ := cut_wrap (a := a4) (b := a9) (p := a0 - a3) (q := a8 - a3) (by omega) (by omega) (by omega) (by omega) (by omega)
    obtain ⟨u5, v5, x5, p5⟩ := cut_wrap (a := a5) (b := a10) (p := a0 - a3) (q := a8 - a3) (by omega) (by omega) (by omega) (by omega) (by omega)
    have hq : ¬ a8 - a3 < 1 := by omega
    rw [hv]
    simp only [cutP, cutV, TX.sat, XB.prop, X.den, List.map_cons, List.map_nil, List.getElem?_cons_zero, List.getElem?_cons_succ, List.cons_append, List.nil_append, List.getD_cons_zero, List.getD_cons_succ, mkS, mkP, and_true, true_and, Int.not_lt, Int.not_le, not_or, not_and, Classical.not_not, ne_eq, not_true_eq_false, not_false_eq_true, Nat.reduceAdd, w0, w8, u1, u2, u4, u5, v1, v2, v4, v5, hq, if_false, reduceIte, x1, x2, x4, x5]
    simp
  · have hz : ∀ e : Int, cutL [a0, a1, a2, a3, a4, a5, a6, a7, a8, a9, a10] = [0, 0, 0, 0, 0, e] → _ := fun e h => h
    have hall : ∃ e : Int, cutL [a0, a1, a2, a3, a4, a5, a6, a7, a8, a9, a10] = [0, 0, 0, 0, 0, e] := by
      unfold cutL at he ⊢
      split
      · rename_i h1
        split
        · rename_i h2
          split
          · rename_i h3
            rw [if_pos h1, if_pos h2, if_pos h3] at he
            exact absurd rfl he
          · exact ⟨6, rfl⟩
        · exact ⟨8, rfl⟩
      · exact ⟨2, rfl⟩
    obtain ⟨e, hv⟩ := hall
    rw [hv] at he ⊢
    simp only [TX.sat, XB.prop, X.den, List.map_cons, List.map_nil, List.getElem?_cons_zero, List.getElem?_cons_succ, List.cons_append, List.nil_append, List.getD_cons_zero, List.getD_cons_succ, mkS, mkP, and_true, true_and, Int.not_lt, Int.not_le, not_or, not_and, Classical.not_not, ne_eq, not_true_eq_false, not_false_eq_true] at he ⊢
    exact ⟨fun _ => by simp, fun h => absurd h he⟩
theorem range_nil : rangeOK [] [] := trivial
set_option maxRecDepth 100000 in
theorem lifted (os : Os) (started : os.Started) (H : Type) (enc : TypeId × Value → H) :
    ReturnsInHanded {} Try.checked os 3 .any (Rows.clipRoundsSpec.pre6 enc Try.prog Try.f3 Rows.clipRoundsRow.domain false) (Rows.clipRoundsSpec.post enc Try.prog Try.f3 false true false false) := by
  refine returnsInHanded_of_change (C := Try.checked) facts.own started (by kernel_rfl) Try.func3
    (ChangeSpec.witness6 (enc := enc) (C := Try.checked) false ⟨#[], #[.int .i64 0, .agg #[.int .i64 0, .int .i64 0, .int .i64 0, .int .i64 0, .int .i64 0], .agg #[.int .i64 0, .int .i64 0, .int .i64 0, .int .i64 0, .int .i64 0]], []⟩ 8 (by kernel_rfl) (by kernel_rfl) (by kernel_rfl) (by kernel_rfl)) ?_
  intro W base args ds gs before hval0 hW hcnd _
  have hval : ∀ (j : Nat) t v, Try.f3.params[j]? = some t → args[j]? = some v → Value.okWide Try.prog W .any base t v := hval0
  have hW' := hW
  obtain ⟨p, q, hA0, hV, rfl, hfz, hnd⟩ := hW
  have hA : DataW.TrodAll enc Try.prog W 0 (fun _ => true) true Try.f3.params.toList args.toList ds p := hA0
  rw [Try.params3] at hA hval
  obtain ⟨v0, vs0, d0, ds0, p0, q0, hargs, rfl, rfl, h0, r0⟩ := trodAll_cons hA
  obtain ⟨v1, vs1, d1, ds1, p1, q1, rfl, rfl, rfl, h1, r1⟩ := trodAll_cons r0
  obtain ⟨v2, vs2, d2, ds2, p2, q2, rfl, rfl, rfl, h2, r2⟩ := trodAll_cons r1
  obtain ⟨rfl, rfl, rfl⟩ := trodAll_nil r2
  obtain rfl : args = #[v0, v1, v2] := by cases args; simp_all
  obtain ⟨rfl, rfl⟩ := trodVars_none hV
  have k0 := h0
  have lt0 : ∀ x ∈ p0, x.block < W.heap.size := by obtain ⟨m, hm⟩ := k0; exact DataW.trod_lt m _ _ _ hm
  have k1 := h1
  have lt1 : ∀ x ∈ p1, x.block < W.heap.size := by obtain ⟨m, hm⟩ := k1; exact DataW.trod_lt m _ _ _ hm
  have k2 := h2
  have lt2 : ∀ x ∈ p2, x.block < W.heap.size := by obtain ⟨m, hm⟩ := k2; exact DataW.trod_lt m _ _ _ hm
  obtain ⟨xs0, hv0, hr0⟩ := open_sh (sh := I1) (by kernel_rfl) (by kernel_rfl) (hval 0 3 v0 rfl rfl) h0
  obtain ⟨xs1, hv1, hr1⟩ := open_sh (sh := An 5) (by kernel_rfl) (by kernel_rfl) (hval 1 25 v1 rfl rfl) h1
  obtain ⟨xs2, hv2, hr2⟩ := open_sh (sh := An 5) (by kernel_rfl) (by kernel_rfl) (hval 2 25 v2 rfl rfl) h2
  clear hA0 hval0
  have hl0 := rangeOK_len hr0
  have hl1 := rangeOK_len hr1
  have hl2 := rangeOK_len hr2
  have hxs : #[v0, v1, v2] = (mkShs [I1, An 5, An 5] (xs0 ++ (xs1 ++ (xs2 ++ [])))).toArray := by
    rw [mkShs_cons hl0, mkShs_cons hl1, mkShs_cons hl2]
    simp [mkShs, hv0, hv1, hv2]
  have hlen : (xs0 ++ (xs1 ++ (xs2 ++ []))).length = total [I1, An 5, An 5] := by
    simp only [List.length_append, List.length_nil, hl0, hl1, hl2]
    rfl
  have hcalls := lawF facts.mixed g_ClipRounds o_ClipRounds tree_ClipRounds hlen (range_vs ((rangeOK_app hr0 (rangeOK_app hr1 (rangeOK_app hr2 range_nil))) : rangeOK _ _)) (plain xs0 hr0 xs1 hr1 xs2 hr2) W
  rw [← hxs] at hcalls
  refine hcalls.mono fun e W' ⟨he, bel⟩ => ?_
  subst he
  exact ⟨_, rfl, _, _, _, [], _, [], hW', trodAll_mk1 (shut_bool Try.underlying4 _), (trodAll_cons_mk (Below.trod facts.laidOut (by kernel_rfl) (of_decide_eq_true (by kernel_rfl)) k0 bel lt0) (trodAll_cons_mk (Below.trod facts.laidOut (by kernel_rfl) (of_decide_eq_true (by kernel_rfl)) k1 bel lt1) (trodAll_cons_mk (Below.trod facts.laidOut (by kernel_rfl) (of_decide_eq_true (by kernel_rfl)) k2 bel lt2) trodAll_mk0))), rfl, bel.frame _, fun h => by cases h⟩

theorem over : Rows.clipRoundsRow.holds Try.pinned (OpenSpec.ofChange Rows.clipRoundsSpec) :=
  OpenClaim.holds_of_wide 3 Try.f3 rfl rfl rfl rfl rfl rfl rfl ⟨rfl, rfl, rfl, rfl, rfl⟩ rfl rfl rfl rfl rfl (by kernel_rfl) Try.func3
    (facts.joined (by kernel_rfl) (by kernel_rfl) (by kernel_rfl) (by kernel_rfl) (by kernel_rfl) (by kernel_rfl) (by kernel_rfl) rfl rfl rfl rfl)
    (of_decide_eq_true (by kernel_rfl)) (by unfold Func.isWrapper; first | (rw [if_pos (by decide +kernel)]; kernel_rfl) | (rw [if_neg (by decide +kernel)]; exact ⟨rfl, rfl⟩))
    (fun os started H enc _ => lifted os started H enc)

/-- THE STATEMENT. -/
theorem proved : Rows.ClipRoundsSaid := over
#print axioms proved

end Go.Proofs.Ytjbkcjbjllmhfaa.clipRounds
