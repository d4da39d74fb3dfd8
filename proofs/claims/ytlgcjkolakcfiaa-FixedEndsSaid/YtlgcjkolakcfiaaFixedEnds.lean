/-
  The law FixedEnds is answered with true, whatever the spans and the number, and its arguments stay as they were.
-/
import Derived.Test.YtlgcjkolakcfiaaRows
import Derived.Test.YtlgcjkolakcfiaaFacts
import Derived.Test.YtlgcjkolakcfiaaFixU
set_option linter.unusedVariables false
set_option linter.unusedSimpArgs false
namespace Go.Proofs.Ytlgcjkolakcfiaa.fixedEnds
open Go.RowKit Go.ChangeShapes Go.WideShapes Go.ChangeAt Go.Sx fix

def G_FixedEnds : List Sum := [s_alive01, s_fadd, s_fscale, s_fdiv, s_floorG, s_fjoin]
def I_FixedEnds : List Inf := [i_alive01, i_fadd, i_fscale, i_fdiv, i_floorG, i_fjoin]
def t_FixedEnds : TX := (.callp 0 [] (.callp 1 [(.v 0), (.v 1), (.v 2), (.v 3)] (.ite (.and (.eq (.v 8) (.c 0)) (.or (.not (.eq (.v 6) (.wr .i64 (.add (.v 0) (.v 2))))) (.not (.eq (.v 7) (.wr .i64 (.add (.v 1) (.v 3))))))) (.ret [(.c 0)])
(.callp 2 [(.v 0), (.v 1), (.v 4)] (.ite (.and (.eq (.v 11) (.c 0)) (.or (.or (.and (.not (.eq (.v 9) (.wr .i64 (.mul (.v 4) (.v 0))))) (.not (.eq (.v 9) (.wr .i64 (.mul (.v 4) (.v 1)))))) (.and (.not (.eq (.v 10) (.wr .i64 (.mul (.v 4) (.v 0))))) (.not (.eq (.v 10) (.wr .i64 (.mul (.v 4) (.v 1))))))) (.lt (.v 10) (.v 9)))) (.ret [(.c 0)])
(.callp 3 [(.v 0), (.v 1), (.v 4)] (.callp 4 [(.v 0), (.v 4)] (.callp 4 [(.v 1), (.v 4)] (.ite (.and (.eq (.v 14) (.c 0)) (.or (.or (.or (.not (.eq (.v 16) (.c 0))) (.not (.eq (.v 18) (.c 0)))) (.not (.eq (.v 12) (.v 15)))) (.not (.eq (.v 13) (.v 17))))) (.ret [(.c 0)])
(.callp 5 [(.v 0), (.v 1), (.v 2), (.v 3)] (.ite (.and (.nz (.v 5)) (.or (.not (.eq (.v 21) (.c 0))) (.and (.or (.eq (.v 19) (.v 0)) (.eq (.v 19) (.v 2))) (.or (.eq (.v 20) (.v 1)) (.eq (.v 20) (.v 3)))))) (.ret [(.c 1)])
(.ret [(.c 0)]))))))))))))
theorem tree_FixedEnds : merge (opt I_FixedEnds (((An 2).ks ++ ((An 2).ks ++ (I1.ks ++ []))).map ivK) (symFn Try.prog G_FixedEnds 1000 14 [An 2, An 2, I1] [Bo])) = t_FixedEnds := by kernel_rfl
theorem g_FixedEnds : Gok Try.prog G_FixedEnds := (more ok_alive01 (more ok_fadd (more ok_fscale (more ok_fdiv (more ok_floorG (one ok_fjoin))))))
theorem o_FixedEnds : outsOK G_FixedEnds I_FixedEnds := (outsOK_cons inf_alive01 (outsOK_cons inf_fadd (outsOK_cons inf_fscale (outsOK_cons inf_fdiv (outsOK_cons inf_floorG (outsOK_cons inf_fjoin outsOK_nil))))))
theorem plain (xs0 : List Int) (hr0 : rangeOK (An 2).ks xs0) (xs1 : List Int) (hr1 : rangeOK (An 2).ks xs1) (xs2 : List Int) (hr2 : rangeOK I1.ks xs2) : t_FixedEnds.sat G_FixedEnds [] (fun ys => ys = [1]) (xs0 ++ (xs1 ++ (xs2 ++ []))) := by
  obtain ⟨l0, i0⟩ := An_inv hr0
  obtain ⟨a0, a1, rfl⟩ := len2 l0
  obtain ⟨l1, i1⟩ := An_inv hr1
  obtain ⟨a2, a3, rfl⟩ := len2 l1
  obtain ⟨a4, rfl, i2⟩ := I1_inv hr2
  simp only [t_FixedEnds, G_FixedEnds, s_alive01, s_fadd, s_fscale, s_fdiv, s_floorG, s_fjoin, TX.sat, XB.prop, X.den, List.map_cons, List.map_nil, List.getElem?_cons_zero, List.getElem?_cons_succ, List.cons_append, List.nil_append, List.getD_cons_zero, List.getD_cons_succ, mkS, mkP, and_true, true_and, Int.not_lt, Int.not_le, not_or, not_and, Classical.not_not, ne_eq, not_true_eq_false, not_false_eq_true, sem_alive01, sem_alive, sem_fadd, sem_fscale, sem_fdiv, sem_floorG, sem_fjoin, ex3]
  have hA : (faddL [a0, a1, a2, a3]).getD 2 0 = 0 → (faddL [a0, a1, a2, a3]).getD 0 0 = IntKind.i64.wrap (a0 + a2) ∧ (faddL [a0, a1, a2, a3]).getD 1 0 = IntKind.i64.wrap (a1 + a3) := by
    intro h
    unfold faddL at h ⊢
    split at h
    · split at h
      · split at h
        · rename_i h1 h2 h3
          rw [if_pos h1, if_pos h2, if_pos h3]
          simp only [spanB_true, TX.sat, XB.prop, X.den, List.map_cons, List.map_nil, List.getElem?_cons_zero, List.getElem?_cons_succ, List.cons_append, List.nil_append, List.getD_cons_zero, List.getD_cons_succ, mkS, mkP, and_true, true_and, Int.not_lt, Int.not_le, not_or, not_and, Classical.not_not, ne_eq, not_true_eq_false, not_false_eq_true, Nat.zero_add, Nat.reduceAdd] at h1 h2 h3 ⊢
          rw [wrap64 (x := a0 + a2) (by omega) (by omega), wrap64 (x := a1 + a3) (by omega) (by omega)]
          exact ⟨rfl, rfl⟩
        · simp at h
      · simp at h
    · simp at h
  have hB : (fscaleL [a0, a1, a4]).getD 2 0 = 0 → ((fscaleL [a0, a1, a4]).getD 0 0 = IntKind.i64.wrap (a4 * a0) ∨ (fscaleL [a0, a1, a4]).getD 0 0 = IntKind.i64.wrap (a4 * a1)) ∧ ((fscaleL [a0, a1, a4]).getD 1 0 = IntKind.i64.wrap (a4 * a0) ∨ (fscaleL [a0, a1, a4]).getD 1 0 = IntKind.i64.wrap (a4 * a1)) ∧ (fscaleL [a0, a1, a4]).getD 0 0 ≤ (fscaleL [a0, a1, a4]).getD 1 0 := by
    intro h
    unfold fscaleL at h ⊢
    split at h
    · split at h
      · split at h
        · rename_i h1 h2 h3
          rw [if_pos h1, if_pos h2, if_pos h3]
          simp only [spanB_true, scB, TX.sat, XB.prop, X.den, List.map_cons, List.map_nil, List.getElem?_cons_zero, List.getElem?_cons_succ, List.cons_append, List.nil_append, List.getD_cons_zero, List.getD_cons_succ, mkS, mkP, and_true, true_and, Int.not_lt, Int.not_le, not_or, not_and, Classical.not_not, ne_eq, not_true_eq_false, not_false_eq_true, Nat.zero_add, Nat.reduceAdd] at h1 h2 h3 ⊢
          have k1 := mul_abs_le (x := a4) (y := a0) (m := 1048576) (n := 1099511627776) (by omega) (by omega)
          have k2 := mul_abs_le (x := a4) (y := a1) (m := 1048576) (n := 1099511627776) (by omega) (by omega)
          rw [wrap64 (x := a4 * a0) (by omega) (by omega), wrap64 (x := a4 * a1) (by omega) (by omega)]
          omega
        · simp at h
      · simp at h
    · simp at h
  have hC : (fdivL [a0, a1, a4]).getD 2 0 = 0 → (floorGL [a0, a4]).getD 1 0 = 0 ∧ (floorGL [a1, a4]).getD 1 0 = 0 ∧ (fdivL [a0, a1, a4]).getD 0 0 = (floorGL [a0, a4]).getD 0 0 ∧ (fdivL [a0, a1, a4]).getD 1 0 = (floorGL [a1, a4]).getD 0 0 := by
    intro h
    unfold fdivL at h ⊢
    unfold floorGL
    split at h
    · split at h
      · rename_i h1 h2
        rw [if_pos h1, if_pos h2]
        simp only [TX.sat, XB.prop, X.den, List.map_cons, List.map_nil, List.getElem?_cons_zero, List.getElem?_cons_succ, List.cons_append, List.nil_append, List.getD_cons_zero, List.getD_cons_succ, mkS, mkP, and_true, true_and, Int.not_lt, Int.not_le, not_or, not_and, Classical.not_not, ne_eq, not_true_eq_false, not_false_eq_true] at h2 ⊢
        rw [if_neg (by omega), if_neg (by omega)]
        exact ⟨rfl, rfl, rfl, rfl⟩
      · simp at h
    · simp at h
  have hD : (fjoinL [a0, a1, a2, a3]).getD 2 0 = 0 → ((fjoinL [a0, a1, a2, a3]).getD 0 0 = a0 ∨ (fjoinL [a0, a1, a2, a3]).getD 0 0 = a2) ∧ ((fjoinL [a0, a1, a2, a3]).getD 1 0 = a1 ∨ (fjoinL [a0, a1, a2, a3]).getD 1 0 = a3) := by
    intro h
    unfold fjoinL at h ⊢
    split at h
    · split at h
      · rename_i h1 h2
        rw [if_pos h1, if_pos h2]
        simp only [TX.sat, XB.prop, X.den, List.map_cons, List.map_nil, List.getElem?_cons_zero, List.getElem?_cons_succ, List.cons_append, List.nil_append, List.getD_cons_zero, List.getD_cons_succ, mkS, mkP, and_true, true_and, Int.not_lt, Int.not_le, not_or, not_and, Classical.not_not, ne_eq, not_true_eq_false, not_false_eq_true]
        omega
      · simp at h
    · simp at h
  generalize faddL _ = A at *
  generalize fscaleL _ = B at *
  generalize fdivL _ = C at *
  generalize fjoinL _ = D at *
  generalize floorGL [a0, a4] = E at *
  generalize floorGL [a1, a4] = F at *
  refine ⟨fun h => ?_, fun _ => ⟨fun h => ?_, fun _ => ⟨fun h => ?_, fun _ => ⟨fun _ => trivial, fun h => ?_⟩⟩⟩⟩
  · have := hA h.1; omega
  · have := hB h.1; omega
  · have := hC h.1; omega
  · exfalso
    have h' := h (by decide)
    have k := hD h'.1
    have k3 := h'.2 k.1
    have k4 := k.2
    omega

theorem range_nil : rangeOK [] [] := trivial
set_option maxRecDepth 100000 in
theorem lifted (os : Os) (started : os.Started) (H : Type) (enc : TypeId × Value → H) :
    ReturnsInHanded {} Try.checked os 14 .any (Rows.fixedEndsSpec.pre6 enc Try.prog Try.f14 Rows.fixedEndsRow.domain false) (Rows.fixedEndsSpec.post enc Try.prog Try.f14 false true false false) := by
  refine returnsInHanded_of_change (C := Try.checked) facts.own started (by kernel_rfl) Try.func14
    (ChangeSpec.witness6 (enc := enc) (C := Try.checked) false ⟨#[], #[.agg #[.int .i64 0, .int .i64 0], .agg #[.int .i64 0, .int .i64 0], .int .i64 0], []⟩ 8 (by kernel_rfl) (by kernel_rfl) (by kernel_rfl) (by kernel_rfl)) ?_
  intro W base args ds gs before hval0 hW hcnd _
  have hval : ∀ (j : Nat) t v, Try.f14.params[j]? = some t → args[j]? = some v → Value.okWide Try.prog W .any base t v := hval0
  have hW' := hW
  obtain ⟨p, q, hA0, hV, rfl, hfz, hnd⟩ := hW
  have hA : DataW.TrodAll enc Try.prog W 0 (fun _ => true) true Try.f14.params.toList args.toList ds p := hA0
  rw [Try.params14] at hA hval
  obtain ⟨v0, vs0, d0, ds0, p0, q0, hargs, rfl, rfl, h0, r0⟩ := trodAll_cons hA
  obtain ⟨v1, vs1, d1, ds1, p1, q1, rfl, rfl, rfl, h1, r1⟩ := trodAll_cons r0
  obtain ⟨v2, vs2, d2, ds2, p2, q2, rfl, rfl, rfl, h2, r2⟩ := trodAll_cons r1
  obtain ⟨rfl, rfl, rfl⟩ := trodAll_nil r2
  obtain rfl : args = #[v0, v1, v2] := by cases args; simp_all
  obtain ⟨rfl, rfl⟩ := trodVars_none hV
  have k0 := h0
  have lt0 : ∀ x ∈ p0, x.block < W.heap.size := by obtain ⟨m, hm⟩ := k0; exact DataW.trod_lt m _ _ _ hm
  have k1 := h1
  have lt1 : ∀ x ∈ p1, x.block < W.heap.size := by obtain ⟨m, hm⟩ := k1; exact DataW.trod_lt m _ _ _ hm
  have k2 := h2
  have lt2 : ∀ x ∈ p2, x.block < W.heap.size := by obtain ⟨m, hm⟩ := k2; exact DataW.trod_lt m _ _ _ hm
  obtain ⟨xs0, hv0, hr0⟩ := open_sh (sh := An 2) (by kernel_rfl) (by kernel_rfl) (hval 0 64 v0 rfl rfl) h0
  obtain ⟨xs1, hv1, hr1⟩ := open_sh (sh := An 2) (by kernel_rfl) (by kernel_rfl) (hval 1 64 v1 rfl rfl) h1
  obtain ⟨xs2, hv2, hr2⟩ := open_sh (sh := I1) (by kernel_rfl) (by kernel_rfl) (hval 2 3 v2 rfl rfl) h2
  clear hA0 hval0
  have hl0 := rangeOK_len hr0
  have hl1 := rangeOK_len hr1
  have hl2 := rangeOK_len hr2
  have hxs : #[v0, v1, v2] = (mkShs [An 2, An 2, I1] (xs0 ++ (xs1 ++ (xs2 ++ [])))).toArray := by
    rw [mkShs_cons hl0, mkShs_cons hl1, mkShs_cons hl2]
    simp [mkShs, hv0, hv1, hv2]
  have hlen : (xs0 ++ (xs1 ++ (xs2 ++ []))).length = total [An 2, An 2, I1] := by
    simp only [List.length_append, List.length_nil, hl0, hl1, hl2]
    rfl
  have hcalls := law_opt facts.mixed g_FixedEnds o_FixedEnds tree_FixedEnds hlen (range_vs ((rangeOK_app hr0 (rangeOK_app hr1 (rangeOK_app hr2 range_nil))) : rangeOK _ _)) (plain xs0 hr0 xs1 hr1 xs2 hr2) W
  rw [← hxs] at hcalls
  refine hcalls.mono fun e W' ⟨he, bel⟩ => ?_
  subst he
  exact ⟨_, rfl, _, _, _, [], _, [], hW', trodAll_mk1 (shut_bool Try.underlying4 _), (trodAll_cons_mk (Below.trod facts.laidOut (by kernel_rfl) (of_decide_eq_true (by kernel_rfl)) k0 bel lt0) (trodAll_cons_mk (Below.trod facts.laidOut (by kernel_rfl) (of_decide_eq_true (by kernel_rfl)) k1 bel lt1) (trodAll_cons_mk (Below.trod facts.laidOut (by kernel_rfl) (of_decide_eq_true (by kernel_rfl)) k2 bel lt2) trodAll_mk0))), rfl, bel.frame _, fun h => by cases h⟩

theorem over : Rows.fixedEndsRow.holds Try.pinned (OpenSpec.ofChange Rows.fixedEndsSpec) :=
  OpenClaim.holds_of_wide 14 Try.f14 rfl rfl rfl rfl rfl rfl rfl ⟨rfl, rfl, rfl, rfl, rfl⟩ rfl rfl rfl rfl rfl (by kernel_rfl) Try.func14
    (facts.joined (by kernel_rfl) (by kernel_rfl) (by kernel_rfl) (by kernel_rfl) (by kernel_rfl) (by kernel_rfl) (by kernel_rfl) rfl rfl rfl rfl)
    (of_decide_eq_true (by kernel_rfl)) (by unfold Func.isWrapper; first | (rw [if_pos (by decide +kernel)]; kernel_rfl) | (rw [if_neg (by decide +kernel)]; exact ⟨rfl, rfl⟩))
    (fun os started H enc _ => lifted os started H enc)

/-- THE STATEMENT. -/
theorem proved : Rows.FixedEndsSaid := over
#print axioms proved

end Go.Proofs.Ytlgcjkolakcfiaa.fixedEnds
