/-
  The law VecRounds is answered with true, whatever the rows and the point, and its arguments stay as they were.
-/
import Derived.Test.YtlgcjkolakcfiaaRows
import Derived.Test.YtlgcjkolakcfiaaFacts
import Derived.Test.YtlgcjkolakcfiaaVec
set_option linter.unusedVariables false
set_option linter.unusedSimpArgs false
namespace Go.Proofs.Ytlgcjkolakcfiaa.vecRounds
open Go.RowKit Go.ChangeShapes Go.WideShapes Go.ChangeAt Go.Sx fix

def G_VecRounds : List Sum := [s_alive02, s_turn, s_floor]
def I_VecRounds : List Inf := [i_alive02, i_turn, i_floor]
def t_VecRounds : TX := (.callp 0 [] (.callp 1 [(.v 0), (.v 1), (.v 2), (.v 3), (.v 4), (.v 5), (.v 6), (.v 7), (.v 8), (.v 9), (.v 10), (.v 11)] (.ite (.not (.eq (.v 16) (.c 0))) (.ite (.and (.eq (.v 13) (.c 0)) (.and (.eq (.v 14) (.c 0)) (.eq (.v 15) (.c 0)))) (.ret [(.c 1)])
(.ret [(.c 0)]))
(.callp 2 [(.wr .i64 (.add (.wr .i64 (.add (.wr .i64 (.mul (.v 0) (.v 9))) (.wr .i64 (.mul (.v 1) (.v 10))))) (.wr .i64 (.mul (.v 2) (.v 11))))), (.c 256)] (.callp 2 [(.wr .i64 (.add (.wr .i64 (.add (.wr .i64 (.mul (.v 3) (.v 9))) (.wr .i64 (.mul (.v 4) (.v 10))))) (.wr .i64 (.mul (.v 5) (.v 11))))), (.c 256)] (.callp 2 [(.wr .i64 (.add (.wr .i64 (.add (.wr .i64 (.mul (.v 6) (.v 9))) (.wr .i64 (.mul (.v 7) (.v 10))))) (.wr .i64 (.mul (.v 8) (.v 11))))), (.c 256)] (.ite (.and (.eq (.v 13) (.v 17)) (.and (.eq (.v 14) (.v 19)) (.eq (.v 15) (.v 21)))) (.ret [(.c 1)])
(.ret [(.c 0)]))))))))
theorem tree_VecRounds : merge (opt I_VecRounds (((An 9).ks ++ ((An 3).ks ++ [])).map ivK) (symFn Try.prog G_VecRounds 1000 17 [An 9, An 3] [Bo])) = t_VecRounds := by kernel_rfl
theorem g_VecRounds : Gok Try.prog G_VecRounds := (more ok_alive02 (more ok_turn (one ok_floor)))
theorem o_VecRounds : outsOK G_VecRounds I_VecRounds := (outsOK_cons inf_alive02 (outsOK_cons inf_turn (outsOK_cons inf_floor outsOK_nil)))
theorem plain (xs0 : List Int) (hr0 : rangeOK (An 9).ks xs0) (xs1 : List Int) (hr1 : rangeOK (An 3).ks xs1) : t_VecRounds.sat G_VecRounds [] (fun ys => ys = [1]) (xs0 ++ (xs1 ++ [])) := by
  obtain ⟨l0, i0⟩ := An_inv hr0
  obtain ⟨a0, a1, a2, a3, a4, a5, a6, a7, a8, rfl⟩ := len9 l0
  obtain ⟨l1, i1⟩ := An_inv hr1
  obtain ⟨a9, a10, a11, rfl⟩ := len3 l1
  by_cases hc : (rows9 1024 [a0, a1, a2, a3, a4, a5, a6, a7, a8, a9, a10, a11] 0 && all3 32768 [a0, a1, a2, a3, a4, a5, a6, a7, a8, a9, a10, a11] 9) = true
  · have hm : turnL [a0, a1, a2, a3, a4, a5, a6, a7, a8, a9, a10, a11] = [dot [a0, a1, a2, a3, a4, a5, a6, a7, a8, a9, a10, a11] 0 9 / 256, dot [a0, a1, a2, a3, a4, a5, a6, a7, a8, a9, a10, a11] 3 9 / 256, dot [a0, a1, a2, a3, a4, a5, a6, a7, a8, a9, a10, a11] 6 9 / 256, 0] := if_pos hc
    simp only [rows9, Bool.and_eq_true, all3_true, TX.sat, XB.prop, X.den, List.map_cons, List.map_nil, List.getElem?_cons_zero, List.getElem?_cons_succ, List.cons_append, List.nil_append, List.getD_cons_zero, List.getD_cons_succ, mkS, mkP, and_true, true_and, Int.not_lt, Int.not_le, not_or, not_and, Classical.not_not, ne_eq, not_true_eq_false, not_false_eq_true, Nat.reduceAdd, Nat.zero_add] at hc
    have p0 := mul_abs_le (x := a0) (y := a9) hc.1.1.1 hc.2.1
    have p1 := mul_abs_le (x := a1) (y := a10) hc.1.1.2.1 hc.2.2.1
    have p2 := mul_abs_le (x := a2) (y := a11) hc.1.1.2.2 hc.2.2.2
    have p3 := mul_abs_le (x := a3) (y := a9) hc.1.2.1.1 hc.2.1
    have p4 := mul_abs_le (x := a4) (y := a10) hc.1.2.1.2.1 hc.2.2.1
    have p5 := mul_abs_le (x := a5) (y := a11) hc.1.2.1.2.2 hc.2.2.2
    have p6 := mul_abs_le (x := a6) (y := a9) hc.1.2.2.1 hc.2.1
    have p7 := mul_abs_le (x := a7) (y := a10) hc.1.2.2.2.1 hc.2.2.1
    have p8 := mul_abs_le (x := a8) (y := a11) hc.1.2.2.2.2 hc.2.2.2
    simp only [t_VecRounds, G_VecRounds, s_alive02, s_turn, s_floor, TX.sat, XB.prop, X.den, List.map_cons, List.map_nil, List.getElem?_cons_zero, List.getElem?_cons_succ, List.cons_append, List.nil_append, List.getD_cons_zero, List.getD_cons_succ, mkS, mkP, and_true, true_and, Int.not_lt, Int.not_le, not_or, not_and, Classical.not_not, ne_eq, not_true_eq_false, not_false_eq_true, sem_alive02, sem_alive, sem_turn, sem_floor, hm, ex4, dot, Nat.reduceAdd]
    rw [wrap64 (x := a0 * a9) (by omega) (by omega), wrap64 (x := a1 * a10) (by omega) (by omega), wrap64 (x := a2 * a11) (by omega) (by omega), wrap64 (x := a0 * a9 + a1 * a10) (by omega) (by omega), wrap64 (x := a0 * a9 + a1 * a10 + a2 * a11) (by omega) (by omega),
      wrap64 (x := a3 * a9) (by omega) (by omega), wrap64 (x := a4 * a10) (by omega) (by omega), wrap64 (x := a5 * a11) (by omega) (by omega), wrap64 (x := a3 * a9 + a4 * a10) (by omega) (by omega), wrap64 (x := a3 * a9 + a4 * a10 + a5 * a11) (by omega) (by omega),
      wrap64 (x := a6 * a9) (by omega) (by omega), wrap64 (x := a7 * a10) (by omega) (by omega), wrap64 (x := a8 * a11) (by omega) (by omega), wrap64 (x := a6 * a9 + a7 * a10) (by omega) (by omega), wrap64 (x := a6 * a9 + a7 * a10 + a8 * a11) (by omega) (by omega)]
    simp
  · have hm : turnL [a0, a1, a2, a3, a4, a5, a6, a7, a8, a9, a10, a11] = [0, 0, 0, 2] := if_neg hc
    simp only [t_VecRounds, G_VecRounds, s_alive02, s_turn, s_floor, TX.sat, XB.prop, X.den, List.map_cons, List.map_nil, List.getElem?_cons_zero, List.getElem?_cons_succ, List.cons_append, List.nil_append, List.getD_cons_zero, List.getD_cons_succ, mkS, mkP, and_true, true_and, Int.not_lt, Int.not_le, not_or, not_and, Classical.not_not, ne_eq, not_true_eq_false, not_false_eq_true, sem_alive02, sem_alive, sem_turn, sem_floor, hm, ex4]
    simp

theorem range_nil : rangeOK [] [] := trivial
set_option maxRecDepth 100000 in
theorem lifted (os : Os) (started : os.Started) (H : Type) (enc : TypeId × Value → H) :
    ReturnsInHanded {} Try.checked os 17 .any (Rows.vecRoundsSpec.pre6 enc Try.prog Try.f17 Rows.vecRoundsRow.domain false) (Rows.vecRoundsSpec.post enc Try.prog Try.f17 false true false false) := by
  refine returnsInHanded_of_change (C := Try.checked) facts.own started (by kernel_rfl) Try.func17
    (ChangeSpec.witness6 (enc := enc) (C := Try.checked) false ⟨#[], #[.agg #[.int .i64 0, .int .i64 0, .int .i64 0, .int .i64 0, .int .i64 0, .int .i64 0, .int .i64 0, .int .i64 0, .int .i64 0], .agg #[.int .i64 0, .int .i64 0, .int .i64 0]], []⟩ 8 (by kernel_rfl) (by kernel_rfl) (by kernel_rfl) (by kernel_rfl)) ?_
  intro W base args ds gs before hval0 hW hcnd _
  have hval : ∀ (j : Nat) t v, Try.f17.params[j]? = some t → args[j]? = some v → Value.okWide Try.prog W .any base t v := hval0
  have hW' := hW
  obtain ⟨p, q, hA0, hV, rfl, hfz, hnd⟩ := hW
  have hA : DataW.TrodAll enc Try.prog W 0 (fun _ => true) true Try.f17.params.toList args.toList ds p := hA0
  rw [Try.params17] at hA hval
  obtain ⟨v0, vs0, d0, ds0, p0, q0, hargs, rfl, rfl, h0, r0⟩ := trodAll_cons hA
  obtain ⟨v1, vs1, d1, ds1, p1, q1, rfl, rfl, rfl, h1, r1⟩ := trodAll_cons r0
  obtain ⟨rfl, rfl, rfl⟩ := trodAll_nil r1
  obtain rfl : args = #[v0, v1] := by cases args; simp_all
  obtain ⟨rfl, rfl⟩ := trodVars_none hV
  have k0 := h0
  have lt0 : ∀ x ∈ p0, x.block < W.heap.size := by obtain ⟨m, hm⟩ := k0; exact DataW.trod_lt m _ _ _ hm
  have k1 := h1
  have lt1 : ∀ x ∈ p1, x.block < W.heap.size := by obtain ⟨m, hm⟩ := k1; exact DataW.trod_lt m _ _ _ hm
  obtain ⟨xs0, hv0, hr0⟩ := open_sh (sh := An 9) (by kernel_rfl) (by kernel_rfl) (hval 0 52 v0 rfl rfl) h0
  obtain ⟨xs1, hv1, hr1⟩ := open_sh (sh := An 3) (by kernel_rfl) (by kernel_rfl) (hval 1 51 v1 rfl rfl) h1
  clear hA0 hval0
  have hl0 := rangeOK_len hr0
  have hl1 := rangeOK_len hr1
  have hxs : #[v0, v1] = (mkShs [An 9, An 3] (xs0 ++ (xs1 ++ []))).toArray := by
    rw [mkShs_cons hl0, mkShs_cons hl1]
    simp [mkShs, hv0, hv1]
  have hlen : (xs0 ++ (xs1 ++ [])).length = total [An 9, An 3] := by
    simp only [List.length_append, List.length_nil, hl0, hl1]
    rfl
  have hcalls := law_opt facts.mixed g_VecRounds o_VecRounds tree_VecRounds hlen (range_vs ((rangeOK_app hr0 (rangeOK_app hr1 range_nil)) : rangeOK _ _)) (plain xs0 hr0 xs1 hr1) W
  rw [← hxs] at hcalls
  refine hcalls.mono fun e W' ⟨he, bel⟩ => ?_
  subst he
  exact ⟨_, rfl, _, _, _, [], _, [], hW', trodAll_mk1 (shut_bool Try.underlying4 _), (trodAll_cons_mk (Below.trod facts.laidOut (by kernel_rfl) (of_decide_eq_true (by kernel_rfl)) k0 bel lt0) (trodAll_cons_mk (Below.trod facts.laidOut (by kernel_rfl) (of_decide_eq_true (by kernel_rfl)) k1 bel lt1) trodAll_mk0)), rfl, bel.frame _, fun h => by cases h⟩

theorem over : Rows.vecRoundsRow.holds Try.pinned (OpenSpec.ofChange Rows.vecRoundsSpec) :=
  OpenClaim.holds_of_wide 17 Try.f17 rfl rfl rfl rfl rfl rfl rfl ⟨rfl, rfl, rfl, rfl, rfl⟩ rfl rfl rfl rfl rfl (by kernel_rfl) Try.func17
    (facts.joined (by kernel_rfl) (by kernel_rfl) (by kernel_rfl) (by kernel_rfl) (by kernel_rfl) (by kernel_rfl) (by kernel_rfl) rfl rfl rfl rfl)
    (of_decide_eq_true (by kernel_rfl)) (by unfold Func.isWrapper; first | (rw [if_pos (by decide +kernel)]; kernel_rfl) | (rw [if_neg (by decide +kernel)]; exact ⟨rfl, rfl⟩))
    (fun os started H enc _ => lifted os started H enc)

/-- THE STATEMENT. -/
theorem proved : Rows.VecRoundsSaid := over
#print axioms proved

end Go.Proofs.Ytlgcjkolakcfiaa.vecRounds
