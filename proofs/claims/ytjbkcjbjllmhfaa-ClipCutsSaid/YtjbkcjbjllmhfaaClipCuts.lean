/-
  The law ClipCuts is answered with true, whatever its arguments, which stay as they were.
-/
import Derived.Test.YtjbkcjbjllmhfaaRows
import Derived.Test.YtjbkcjbjllmhfaaZFacts
import Derived.Test.YtjbkcjbjllmhfaaZClipN
set_option linter.unusedVariables false
set_option linter.unusedSimpArgs false
namespace Go.Proofs.Ytjbkcjbjllmhfaa.clipCuts
open Go.RowKit Go.ChangeShapes Go.WideShapes Go.ChangeAt Go.Sx fix

noncomputable def G_ClipCuts : List Sum := [s_cut, s_rcut, s_cnear, s_rnear, s_same19, s_pcheck, s_rpmay]
def I_ClipCuts : List Inf := [i_cut, i_rcut, i_cnear, i_rnear, i_same19, i_pcheck, i_rpmay]
def t_ClipCuts : TX := (.callp 0 [(.v 0), (.v 1), (.v 2), (.v 3), (.v 4), (.v 5), (.v 6), (.v 7), (.v 8), (.v 9), (.v 10)] (.callp 1 [(.v 0), (.v 1), (.v 2), (.v 3), (.v 4), (.v 5), (.v 6), (.v 7), (.v 8), (.v 9), (.v 10)] (.callp 2 [(.v 0), (.v 1), (.v 2), (.v 3), (.v 4), (.v 5), (.v 6), (.v 7), (.v 8), (.v 9), (.v 10), (.v 11), (.v 12), (.v 13), (.v 14), (.v 15)] (.callp 3 [(.v 0), (.v 1), (.v 2), (.v 3), (.v 4), (.v 5), (.v 6), (.v 7), (.v 8), (.v 9), (.v 10), (.v 11), (.v 12), (.v 13), (.v 14), (.v 15)] (.ite (.or (.or (.or (.not (.eq (.v 16) (.v 22))) (.or (.not (.eq (.v 17) (.v 23))) (.not (.eq (.v 18) (.v 24))))) (.or (.not (.eq (.v 19) (.v 25))) (.not (.eq (.v 20) (.v 26))))) (.not (.eq (.v 21) (.v 27)))) (.ret [(.c 0)])
(.call 4 [(.v 28), (.v 30)] (.ite (.or (.not (.nz (.v 32))) (.not (.eq (.v 29) (.v 31)))) (.ret [(.c 0)])
(.callp 5 [(.v 11), (.v 12), (.v 13), (.v 14), (.v 15)] (.callp 6 [(.v 11), (.v 12), (.v 13), (.v 14), (.v 15)] (.ite (.iff (.eq (.v 33) (.c 0)) (.nz (.v 34))) (.ret [(.c 1)])
(.ret [(.c 0)])))))))))))
theorem tree_ClipCuts : merge (optFL [] I_ClipCuts [] ((I1.ks ++ ((An 15).ks ++ [])).map ivK) (symFnL Try.prog noLp gl0 G_ClipCuts 1000 7 [I1, An 15] [Bo])) = t_ClipCuts := by kernel_rfl
theorem g_ClipCuts : Gok Try.prog G_ClipCuts := (more ok_cut (more ok_rcut (more ok_cnear (more ok_rnear (more ok_same19 (more ok_pcheck (one ok_rpmay)))))))
theorem o_ClipCuts : outsOK G_ClipCuts I_ClipCuts := (outsOK_cons inf_cut (outsOK_cons inf_rcut (outsOK_cons inf_cnear (outsOK_cons inf_rnear (outsOK_cons inf_same19 (outsOK_cons inf_pcheck (outsOK_cons inf_rpmay outsOK_nil)))))))
theorem range_nil : rangeOK [] [] := trivial
theorem len15' {xs : List Int} (h : xs.length = 15) : ∃ a0 a1 a2 a3 a4 b0 b1 b2 b3 b4 c0 c1 c2 c3 c4, xs = [a0, a1, a2, a3, a4, b0, b1, b2, b3, b4, c0, c1, c2, c3, c4] := by
  match xs, h with
  | [a0, a1, a2, a3, a4, b0, b1, b2, b3, b4, c0, c1, c2, c3, c4], _ => exact ⟨_, _, _, _, _, _, _, _, _, _, _, _, _, _, _, rfl⟩
theorem near_len (x : List Int) : (dec ((nearL x).getD 0 0)).length ≤ 4096 := by
  have h0 : (dec (cod ([] : List Int))).length ≤ 4096 := by rw [dec_nil]; exact Nat.zero_le _
  have h1 : ∀ b : Bool, (dec ((if b = true then [leftC x, 0] else [cod [], 8] : List Int).getD 0 0)).length ≤ 4096 := by
    intro b
    cases b
    · exact h0
    · show (dec (leftC x)).length ≤ 4096
      unfold leftC
      rw [dec_cod, List.length_map]
      unfold polyC sideC
      cases inC x 0 <;> cases inC x 1 <;> cases inC x 2 <;> simp [fanC]
  unfold nearL
  split
  · exact h1 _
  · exact h0
theorem pins (xs0 : List Int) (hr0 : rangeOK I1.ks xs0) (xs1 : List Int) (hr1 : rangeOK (An 15).ks xs1) : vsOK ((I1.ks ++ ((An 15).ks ++ [])).map ivK) (xs0 ++ (xs1 ++ [])) :=
  range_vs (rangeOK_app hr0 (rangeOK_app hr1 range_nil))
theorem plain (xs0 : List Int) (hr0 : rangeOK I1.ks xs0) (xs1 : List Int) (hr1 : rangeOK (An 15).ks xs1) : t_ClipCuts.sat G_ClipCuts [] (fun ys => ys = [1]) [] (xs0 ++ (xs1 ++ [])) := by
  have l0 := rangeOK_len hr0
  obtain ⟨n, rfl⟩ := len1 l0
  obtain ⟨l1, i1⟩ := An_inv hr1
  obtain ⟨a0, a1, a2, a3, a4, b0, b1, b2, b3, b4, c0, c1, c2, c3, c4, rfl⟩ := len15' l1
  clear i1 l1 l0 hr0 hr1
  simp only [t_ClipCuts, G_ClipCuts, s_cut, s_rcut, s_cnear, s_rnear, s_same19, s_pcheck, s_rpmay, TX.sat, XB.prop, X.den, List.map_cons, List.map_nil, List.getElem?_cons_zero, List.getElem?_cons_succ, List.cons_append, List.nil_append, List.getD_cons_zero, List.getD_cons_succ, mkS, mkP, and_true, true_and, Int.not_lt, Int.not_le, not_or, not_and, Classical.not_not, ne_eq, not_true_eq_false, not_false_eq_true, sem_cut, sem_rcut, sem_cnear, sem_rnear, sem_same19, sem_pcheck, sem_rpmay, ex6]
  have hl := near_len [n, a0, a1, a2, a3, a4, b0, b1, b2, b3, b4, c0, c1, c2, c3, c4]
  generalize nearL [n, a0, a1, a2, a3, a4, b0, b1, b2, b3, b4, c0, c1, c2, c3, c4] = L at hl ⊢
  generalize pointB [c0, c1, c2, c3, c4] 0 = p
  have hpre : pre_same19 [L.getD 0 0, L.getD 0 0] := ⟨vsOK_cons trivial (vsOK_cons trivial vsOK_nil), hl⟩
  cases p <;> simp [-List.getD_eq_getElem?_getD, hpre, b01, er]
set_option maxRecDepth 100000 in
theorem lifted (os : Os) (started : os.Started) (H : Type) (enc : TypeId × Value → H) :
    ReturnsInHanded {} Try.checked os 7 .any (Rows.clipCutsSpec.pre6 enc Try.prog Try.f7 Rows.clipCutsRow.domain false) (Rows.clipCutsSpec.post enc Try.prog Try.f7 false true false false) := by
  refine returnsInHanded_of_change (C := Try.checked) facts.own started (by kernel_rfl) Try.func7
    (ChangeSpec.witness6 (enc := enc) (C := Try.checked) false ⟨#[], #[.int .i64 0, .agg #[.int .i64 0, .int .i64 0, .int .i64 0, .int .i64 0, .int .i64 0, .int .i64 0, .int .i64 0, .int .i64 0, .int .i64 0, .int .i64 0, .int .i64 0, .int .i64 0, .int .i64 0, .int .i64 0, .int .i64 0]], []⟩ 8 (by kernel_rfl) (by kernel_rfl) (by kernel_rfl) (by kernel_rfl)) ?_
  intro W base args ds gs before hval0 hW hcnd _
  have hval : ∀ (j : Nat) t v, Try.f7.params[j]? = some t → args[j]? = some v → Value.okWide Try.prog W .any base t v := hval0
  have hW' := hW
  obtain ⟨p, q, hA0, hV, rfl, hfz, hnd⟩ := hW
  have hA : DataW.TrodAll enc Try.prog W 0 (fun _ => true) true Try.f7.params.toList args.toList ds p := hA0
  rw [Try.params7] at hA hval
  obtain ⟨v0, vs0, d0, ds0, p0, q0, hargs, rfl, rfl, h0, r0⟩ := trodAll_cons hA
  obtain ⟨v1, vs1, d1, ds1, p1, q1, rfl, rfl, rfl, h1, r1⟩ := trodAll_cons r0
  obtain ⟨rfl, rfl, rfl⟩ := trodAll_nil r1
  obtain rfl : args = #[v0, v1] := by cases args; simp_all
  obtain ⟨rfl, rfl⟩ := trodVars_none hV
  have k0 := h0
  have lt0 : ∀ x ∈ p0, x.block < W.heap.size := by obtain ⟨m, hm⟩ := k0; exact DataW.trod_lt m _ _ _ hm
  have k1 := h1
  have lt1 : ∀ x ∈ p1, x.block < W.heap.size := by obtain ⟨m, hm⟩ := k1; exact DataW.trod_lt m _ _ _ hm
  obtain ⟨xs0, hv0, hr0⟩ := open_sh (sh := I1) (by kernel_rfl) (by kernel_rfl) (hval 0 3 v0 rfl rfl) h0
  have hs0 : ShR (fun _ ks u n => SlOK W ks u n) (I1) v0 xs0 := by rw [hv0]; exact ShR_mk rfl rfl (rangeOK_len hr0)
  obtain ⟨xs1, hv1, hr1⟩ := open_sh (sh := An 15) (by kernel_rfl) (by kernel_rfl) (hval 1 53 v1 rfl rfl) h1
  have hs1 : ShR (fun _ ks u n => SlOK W ks u n) (An 15) v1 xs1 := by rw [hv1]; exact ShR_mk rfl rfl (rangeOK_len hr1)
  clear hA0 hval0
  have hx : ShsR (fun _ ks u n => SlOK W ks u n) [I1, An 15] [v0, v1] (xs0 ++ (xs1 ++ [])) := ⟨_, _, _, _, rfl, rfl, hs0, ⟨_, _, _, _, rfl, rfl, hs1, ⟨rfl, rfl⟩⟩⟩
  have hcalls := lawFL facts.mixed g_ClipCuts o_ClipCuts tree_ClipCuts W hx (pins xs0 hr0 xs1 hr1) (plain xs0 hr0 xs1 hr1) (fun p hp => by cases hp)
  refine hcalls.mono fun e W' ⟨he, bel⟩ => ?_
  subst he
  exact ⟨_, rfl, _, _, _, [], _, [], hW', trodAll_mk1 (shut_bool Try.underlying4 _), (trodAll_cons_mk (Below.trod facts.laidOut (by kernel_rfl) (of_decide_eq_true (by kernel_rfl)) k0 bel lt0) (trodAll_cons_mk (Below.trod facts.laidOut (by kernel_rfl) (of_decide_eq_true (by kernel_rfl)) k1 bel lt1) trodAll_mk0)), rfl, bel.frame _, fun h => by cases h⟩

theorem over : Rows.clipCutsRow.holds Try.pinned (OpenSpec.ofChange Rows.clipCutsSpec) :=
  OpenClaim.holds_of_wide 7 Try.f7 rfl rfl rfl rfl rfl rfl rfl ⟨rfl, rfl, rfl, rfl, rfl⟩ rfl rfl rfl rfl rfl (by kernel_rfl) Try.func7
    (facts.joined (by kernel_rfl) (by kernel_rfl) (by kernel_rfl) (by kernel_rfl) (by kernel_rfl) (by kernel_rfl) (by kernel_rfl) rfl rfl rfl rfl)
    (of_decide_eq_true (by kernel_rfl)) (by unfold Func.isWrapper; first | (rw [if_pos (by decide +kernel)]; kernel_rfl) | (rw [if_neg (by decide +kernel)]; exact ⟨rfl, rfl⟩))
    (fun os started H enc _ => lifted os started H enc)

/-- THE STATEMENT. -/
theorem proved : Rows.ClipCutsSaid := over
#print axioms proved

end Go.Proofs.Ytjbkcjbjllmhfaa.clipCuts
