/-
  What find.look comes to: the function.
-/
import Derived.Test.YtgcoidbaoigkeaaDoorILook
set_option linter.unusedVariables false
set_option linter.unusedSimpArgs false
namespace Go.Proofs.YtgcoidbaoigkeaaDoor.fix
open Go.RowKit Go.Sx

theorem ok_isort : s_isort.okA Tryd.prog := sort_okM ⟨Tryd.slices_Sort_int, Tryd.slices_Sort_int_none⟩
theorem inf_isort : InfOK s_isort i_isort := ⟨fun xs h => trivial, fun vs xs h hp => vsOK_cons trivial vsOK_nil⟩
theorem len22x {xs : List Int} (h : xs.length = 22) : ∃ a b c0 c1 c2 c3 c4 c5 c6 c7 c8 c9 c10 c11 c12 c13 c14 c15 w0 w1 w2 w3, xs = [a, b, c0, c1, c2, c3, c4, c5, c6, c7, c8, c9, c10, c11, c12, c13, c14, c15, w0, w1, w2, w3] := by
  match xs, h with
  | [a, b, c0, c1, c2, c3, c4, c5, c6, c7, c8, c9, c10, c11, c12, c13, c14, c15, w0, w1, w2, w3], _ => exact ⟨_, _, _, _, _, _, _, _, _, _, _, _, _, _, _, _, _, _, _, _, _, _, rfl⟩
theorem lk_hidden {t x : List Int} {T : BT} (h : ¬ showsI (t.getD T.root 0) x = true) : lkItems t x T = [] ∧ lkCnt t x T = 1 := by
  cases T with
  | leaf i => exact ⟨by unfold lkItems; exact if_neg h, rfl⟩
  | node i a b => exact ⟨by unfold lkItems; exact if_neg h, by unfold lkCnt; exact if_neg h⟩
noncomputable def G_look : List Sum := [s_tcheck, s_fasked, s_shadow, s_isort]
def I_look : List Inf := [i_tcheck, i_fasked, i_shadow, i_isort]
def t_look : TX := (.call 0 [(.v 0), (.v 1)] (.ite (.not (.eq (.v 22) (.c 0))) (.ret [.nl, (.c 0), (.v 22)])
(.call 1 [(.v 1), (.v 2), (.v 3), (.v 4), (.v 5), (.v 6), (.v 7), (.v 8), (.v 9), (.v 10), (.v 11), (.v 12), (.v 13), (.v 14), (.v 15), (.v 16), (.v 17), (.v 18), (.v 19), (.v 20), (.v 21)] (.ite (.not (.eq (.v 23) (.c 0))) (.ret [.nl, (.c 0), (.v 23)])
(.ite (.lt (.c 0) (.ln (.v 0))) (.loop 3 [none, none, none] [.nl, (.c 0), (.l2 .snoc .nl (.c 0))] (.ite (.lt (.c 0) (.ln (.v 26))) (.asrt (.le (.c 0) (.wr .i64 (.sub (.ln (.v 26)) (.c 1)))) (.asrt (.lt (.wr .i64 (.sub (.ln (.v 26)) (.c 1))) (.ln (.v 26))) (.asrt (.le (.c 0) (.l2 .at (.v 26) (.wr .i64 (.sub (.ln (.v 26)) (.c 1))))) (.asrt (.lt (.l2 .at (.v 26) (.wr .i64 (.sub (.ln (.v 26)) (.c 1)))) (.ln (.v 0))) (.asrt (.le (.wr .i64 (.sub (.ln (.v 26)) (.c 1))) (.ln (.v 26))) (.call 2 [(.v 2), (.v 3), (.v 4), (.v 5), (.v 6), (.v 7), (.v 8), (.v 9), (.v 10), (.v 11), (.v 12), (.v 13), (.v 14), (.v 15), (.v 16), (.v 17), (.l2 .at (.l2 .at (.v 0) (.l2 .at (.v 26) (.wr .i64 (.sub (.ln (.v 26)) (.c 1))))) (.c 0)), (.l2 .at (.l2 .at (.v 0) (.l2 .at (.v 26) (.wr .i64 (.sub (.ln (.v 26)) (.c 1))))) (.c 1)), (.l2 .at (.l2 .at (.v 0) (.l2 .at (.v 26) (.wr .i64 (.sub (.ln (.v 26)) (.c 1))))) (.c 2)), (.l2 .at (.l2 .at (.v 0) (.l2 .at (.v 26) (.wr .i64 (.sub (.ln (.v 26)) (.c 1))))) (.c 3)), (.l2 .at (.l2 .at (.v 0) (.l2 .at (.v 26) (.wr .i64 (.sub (.ln (.v 26)) (.c 1))))) (.c 4)), (.l2 .at (.l2 .at (.v 0) (.l2 .at (.v 26) (.wr .i64 (.sub (.ln (.v 26)) (.c 1))))) (.c 5)), (.v 18), (.v 19), (.v 20), (.v 21)] (.ite (.eq (.v 32) (.c 0)) (.back 0 [(.v 24), (.wr .i64 (.add (.v 25) (.c 1))), (.l2 .take (.v 26) (.wr .i64 (.sub (.ln (.v 26)) (.c 1))))])
(.ite (.lt (.l2 .at (.l2 .at (.v 0) (.l2 .at (.v 26) (.wr .i64 (.sub (.ln (.v 26)) (.c 1))))) (.c 6)) (.c 0)) (.asrt (.le (.ln (.l2 .snoc (.v 24) (.l2 .at (.l2 .at (.v 0) (.l2 .at (.v 26) (.wr .i64 (.sub (.ln (.v 26)) (.c 1))))) (.c 8)))) (.c 1000000)) (.back 0 [(.l2 .snoc (.v 24) (.l2 .at (.l2 .at (.v 0) (.l2 .at (.v 26) (.wr .i64 (.sub (.ln (.v 26)) (.c 1))))) (.c 8))), (.wr .i64 (.add (.v 25) (.c 1))), (.l2 .take (.v 26) (.wr .i64 (.sub (.ln (.v 26)) (.c 1))))]))
(.asrt (.le (.ln (.l2 .snoc (.l2 .snoc (.l2 .take (.v 26) (.wr .i64 (.sub (.ln (.v 26)) (.c 1)))) (.l2 .at (.l2 .at (.v 0) (.l2 .at (.v 26) (.wr .i64 (.sub (.ln (.v 26)) (.c 1))))) (.c 7))) (.l2 .at (.l2 .at (.v 0) (.l2 .at (.v 26) (.wr .i64 (.sub (.ln (.v 26)) (.c 1))))) (.c 6)))) (.c 1000000)) (.back 0 [(.v 24), (.wr .i64 (.add (.v 25) (.c 1))), (.l2 .snoc (.l2 .snoc (.l2 .take (.v 26) (.wr .i64 (.sub (.ln (.v 26)) (.c 1)))) (.l2 .at (.l2 .at (.v 0) (.l2 .at (.v 26) (.wr .i64 (.sub (.ln (.v 26)) (.c 1))))) (.c 7))) (.l2 .at (.l2 .at (.v 0) (.l2 .at (.v 26) (.wr .i64 (.sub (.ln (.v 26)) (.c 1))))) (.c 6)))]))))))))))
(.asrt (.le (.ln (.v 24)) (.c 1000000)) (.callp 3 [(.v 24)] (.ret [(.v 27), (.v 25), (.c 0)])))))
(.loop 3 [none, none, none] [.nl, (.c 0), .nl] (.ite (.lt (.c 0) (.ln (.v 26))) (.asrt (.le (.c 0) (.wr .i64 (.sub (.ln (.v 26)) (.c 1)))) (.asrt (.lt (.wr .i64 (.sub (.ln (.v 26)) (.c 1))) (.ln (.v 26))) (.asrt (.le (.c 0) (.l2 .at (.v 26) (.wr .i64 (.sub (.ln (.v 26)) (.c 1))))) (.asrt (.lt (.l2 .at (.v 26) (.wr .i64 (.sub (.ln (.v 26)) (.c 1)))) (.ln (.v 0))) (.asrt (.le (.wr .i64 (.sub (.ln (.v 26)) (.c 1))) (.ln (.v 26))) (.call 2 [(.v 2), (.v 3), (.v 4), (.v 5), (.v 6), (.v 7), (.v 8), (.v 9), (.v 10), (.v 11), (.v 12), (.v 13), (.v 14), (.v 15), (.v 16), (.v 17), (.l2 .at (.l2 .at (.v 0) (.l2 .at (.v 26) (.wr .i64 (.sub (.ln (.v 26)) (.c 1))))) (.c 0)), (.l2 .at (.l2 .at (.v 0) (.l2 .at (.v 26) (.wr .i64 (.sub (.ln (.v 26)) (.c 1))))) (.c 1)), (.l2 .at (.l2 .at (.v 0) (.l2 .at (.v 26) (.wr .i64 (.sub (.ln (.v 26)) (.c 1))))) (.c 2)), (.l2 .at (.l2 .at (.v 0) (.l2 .at (.v 26) (.wr .i64 (.sub (.ln (.v 26)) (.c 1))))) (.c 3)), (.l2 .at (.l2 .at (.v 0) (.l2 .at (.v 26) (.wr .i64 (.sub (.ln (.v 26)) (.c 1))))) (.c 4)), (.l2 .at (.l2 .at (.v 0) (.l2 .at (.v 26) (.wr .i64 (.sub (.ln (.v 26)) (.c 1))))) (.c 5)), (.v 18), (.v 19), (.v 20), (.v 21)] (.ite (.eq (.v 32) (.c 0)) (.back 0 [(.v 24), (.wr .i64 (.add (.v 25) (.c 1))), (.l2 .take (.v 26) (.wr .i64 (.sub (.ln (.v 26)) (.c 1))))])
(.ite (.lt (.l2 .at (.l2 .at (.v 0) (.l2 .at (.v 26) (.wr .i64 (.sub (.ln (.v 26)) (.c 1))))) (.c 6)) (.c 0)) (.asrt (.le (.ln (.l2 .snoc (.v 24) (.l2 .at (.l2 .at (.v 0) (.l2 .at (.v 26) (.wr .i64 (.sub (.ln (.v 26)) (.c 1))))) (.c 8)))) (.c 1000000)) (.back 0 [(.l2 .snoc (.v 24) (.l2 .at (.l2 .at (.v 0) (.l2 .at (.v 26) (.wr .i64 (.sub (.ln (.v 26)) (.c 1))))) (.c 8))), (.wr .i64 (.add (.v 25) (.c 1))), (.l2 .take (.v 26) (.wr .i64 (.sub (.ln (.v 26)) (.c 1))))]))
(.asrt (.le (.ln (.l2 .snoc (.l2 .snoc (.l2 .take (.v 26) (.wr .i64 (.sub (.ln (.v 26)) (.c 1)))) (.l2 .at (.l2 .at (.v 0) (.l2 .at (.v 26) (.wr .i64 (.sub (.ln (.v 26)) (.c 1))))) (.c 7))) (.l2 .at (.l2 .at (.v 0) (.l2 .at (.v 26) (.wr .i64 (.sub (.ln (.v 26)) (.c 1))))) (.c 6)))) (.c 1000000)) (.back 0 [(.v 24), (.wr .i64 (.add (.v 25) (.c 1))), (.l2 .snoc (.l2 .snoc (.l2 .take (.v 26) (.wr .i64 (.sub (.ln (.v 26)) (.c 1)))) (.l2 .at (.l2 .at (.v 0) (.l2 .at (.v 26) (.wr .i64 (.sub (.ln (.v 26)) (.c 1))))) (.c 7))) (.l2 .at (.l2 .at (.v 0) (.l2 .at (.v 26) (.wr .i64 (.sub (.ln (.v 26)) (.c 1))))) (.c 6)))]))))))))))
(.asrt (.le (.ln (.v 24)) (.c 1000000)) (.callp 3 [(.v 24)] (.ret [(.v 27), (.v 25), (.c 0)]))))))))))
theorem tree_look : merge (optFL [] I_look [] pin_look (symFnL Tryd.prog (openAt Tryd.prog [(10, 35)]) gl0 G_look 1000 24 [Tr, Bs, An 16, An 4] [Is, I1, I1])) = t_look := by kernel_rfl
theorem g_look : Gok Tryd.prog G_look := (more ok_tcheck (more ok_fasked (more ok_shadow (fix.oneA ok_isort))))
theorem o_look : outsOK G_look I_look := (outsOK_cons inf_tcheck (outsOK_cons inf_fasked (outsOK_cons inf_shadow (outsOK_cons inf_isort outsOK_nil))))
theorem ok_look : s_look.ok Tryd.prog := Sum.okPF (pin := pin_look) facts.mixed g_look o_look tree_look rfl (fun _ => rfl) (fun xs h => h.1) (by
  intro xs hx hp
  obtain ⟨a, b, c0, c1, c2, c3, c4, c5, c6, c7, c8, c9, c10, c11, c12, c13, c14, c15, w0, w1, w2, w3, rfl⟩ := len22x hx
  have hv := hp.1
  have hlen := hp.2.1
  have hel1 := hp.2.2.1
  have hel2 := hp.2.2.2
  have hpre : pre_tcheck [a, b] := ⟨vs_none (n := 2) rfl, hp.2⟩
  have hpreA : pre_fasked [b, c0, c1, c2, c3, c4, c5, c6, c7, c8, c9, c10, c11, c12, c13, c14, c15, w0, w1, w2, w3] := ⟨vsOK_cons trivial (vsOK_cons (hv.2 2) (vsOK_cons (hv.2 3) (vsOK_cons (hv.2 4) (vsOK_cons (hv.2 5) (vsOK_cons (hv.2 6) (vsOK_cons (hv.2 7) (vsOK_cons (hv.2 8) (vsOK_cons (hv.2 9) (vsOK_cons (hv.2 10) (vsOK_cons (hv.2 11) (vsOK_cons (hv.2 12) (vsOK_cons (hv.2 13) (vsOK_cons (hv.2 14) (vsOK_cons (hv.2 15) (vsOK_cons (hv.2 16) (vsOK_cons (hv.2 17) (vsOK_cons (hv.2 18) (vsOK_cons (hv.2 19) (vsOK_cons (hv.2 20) (vsOK_cons (hv.2 21) vsOK_nil)))))))))))))))))))), hel2⟩
  clear hp
  simp only [List.getD_cons_zero, List.getD_cons_succ] at hlen hel1 hel2
  simp only [t_look, G_look, s_tcheck, s_fasked, s_shadow, s_isort, sortS, TX.sat, XB.prop, X.den, List.map_cons, List.map_nil, List.getElem?_cons_zero, List.getElem?_cons_succ, List.cons_append, List.nil_append, List.getD_cons_zero, List.getD_cons_succ, mkS, mkP, and_true, true_and, Int.not_lt, Int.not_le, not_or, not_and, Classical.not_not, ne_eq, not_true_eq_false, not_false_eq_true, sem_tcheck, sem_fasked, sem_look, sem_shadow, sem_sort, ex7, L2.den, List.drop_succ_cons, List.drop_zero]
  refine ⟨hpre, ?_⟩
  clear hpre
  generalize dec a = t at hlen hel1 ⊢
  generalize hlb : dec b = l at hlen hel2 ⊢
  have hL : ∀ y : List Int, lookL t l y = if lookE t l y = 0 then [cod (foundU l y l.length), seenN t y, 0] else [cod [], 0, lookE t l y] := fun _ => rfl
  refine ⟨fun hE => ?_, fun hC => ?_⟩
  · have : lookE t l [c0, c1, c2, c3, c4, c5, c6, c7, c8, c9, c10, c11, c12, c13, c14, c15, w0, w1, w2, w3] = chkE t l := by unfold lookE; rw [if_neg hE]
    rw [hL, this, if_neg hE]
    rfl
  refine ⟨hpreA, fun hE => ?_, fun hA => ?_⟩
  · have : lookE t l [c0, c1, c2, c3, c4, c5, c6, c7, c8, c9, c10, c11, c12, c13, c14, c15, w0, w1, w2, w3] = askedE l [c0, c1, c2, c3, c4, c5, c6, c7, c8, c9, c10, c11, c12, c13, c14, c15, w0, w1, w2, w3] := by unfold lookE; rw [if_pos hC]
    rw [hL, this, if_neg hE]
    rfl
  have hlk : lookE t l [c0, c1, c2, c3, c4, c5, c6, c7, c8, c9, c10, c11, c12, c13, c14, c15, w0, w1, w2, w3] = 0 := by unfold lookE; rw [if_pos hC]; exact hA
  rw [hL, if_pos hlk]
  simp only [TX.sat, XB.prop, X.den, List.map_cons, List.map_nil, List.getElem?_cons_zero, List.getElem?_cons_succ, List.cons_append, List.nil_append, List.getD_cons_zero, List.getD_cons_succ, mkS, mkP, and_true, true_and, Int.not_lt, Int.not_le, not_or, not_and, Classical.not_not, ne_eq, not_true_eq_false, not_false_eq_true]
  obtain ⟨F0, hF1, hF2, hF3, hF4, hF5, hF6⟩ := look_start hC hA rfl hlen.1
  clear hpreA hL hlk
  obtain ⟨X, hX⟩ : ∃ X : List Int, X = [c0, c1, c2, c3, c4, c5, c6, c7, c8, c9, c10, c11, c12, c13, c14, c15, w0, w1, w2, w3] := ⟨_, rfl⟩
  rw [← hX] at hF3 hF4 hF5 hF6 ⊢
  have hsh : ∀ b' : Int, shadowL [c0, c1, c2, c3, c4, c5, c6, c7, c8, c9, c10, c11, c12, c13, c14, c15, co b' 0, co b' 1, co b' 2, co b' 3, co b' 4, co b' 5, w0, w1, w2, w3] = shade b' X := fun _ => by rw [hX]; rfl
  refine ⟨fun h0 => ?_, fun h0 => ?_⟩
  · rw [if_pos (by omega)] at hF1
    have hini : dec (cod (dec (cod []) ++ [0])) = rootsL F0 := by rw [hF1]; simp [dec_cod]
    refine ⟨fun xs => ∃ F : List BT, dec (xs.getD 2 0) = rootsL F ∧ (∀ T ∈ F, ∃ s e, T.At t l.length s e) ∧ dec (xs.getD 0 0) ++ F.flatMap (lkItems t X) = F0.flatMap (lkItems t X) ∧ xs.getD 1 0 + cntF t X F = cntF t X F0 ∧ 0 ≤ xs.getD 1 0, fun xs => (cntF t X F0 - xs.getD 1 0).toNat, fun xs hx _ => vs_none (n := 3) hx, ⟨F0, hini, hF2, by simp [dec_cod], by simp, by simp⟩, ?_⟩
    intro xs hx hI
    obtain ⟨d0, d1, d2, rfl⟩ := len3 hx
    obtain ⟨F, hf1, hf2, hf3, hf4, hf5⟩ := hI
    simp only [List.getD_cons_zero, List.getD_cons_succ, List.cons_append, List.nil_append] at hf1 hf3 hf4 hf5 ⊢
    have hco : ∀ x j, (dec x).getD j 0 = co x j := fun _ _ => rfl
    simp only [hf1]
    have hcl := cntF_len t X F
    have hcl0 := cntF_len t X F0
    have hil : (dec d0).length ≤ 1000 := by
      have := congrArg List.length hf3
      rw [List.length_append] at this
      omega
    refine ⟨fun hlt => ?_, fun hge => ?_⟩
    · cases F with
      | nil => simp [rootsL] at hlt
      | cons T F =>
        obtain ⟨s, e, hT⟩ := hf2 T (List.mem_cons_self ..)
        have e1 := hT.le
        have hsz := T.size_leaves
        have hrl : (rootsL (T :: F)).length = F.length + 1 := by rw [rootsL_len]; rfl
        have hw : IntKind.i64.wrap (((rootsL (T :: F)).length : Int) - 1) = (F.length : Int) := by
          simp only [List.length_cons] at hcl
          rw [hrl, wrap64 (by omega) (by omega)]
          omega
        have hget : (rootsL (T :: F)).getD F.length 0 = (s : Int) := by
          rw [rootsL_cons, e1.2.1, show F.length = (rootsL F ++ [(s : Int)]).length - 1 by simp [rootsL_len]]
          exact last_snoc _ _
        have htake : (rootsL (T :: F)).take F.length = rootsL F := by
          rw [rootsL_cons, ← rootsL_len F]
          simp
        have hw1 : IntKind.i64.wrap (d1 + 1) = d1 + 1 := wrap64 (by omega) (by omega)
        simp only [hw, hw1, Int.toNat_natCast, hget, htake, hco, dec_cod, show Int.toNat 0 = 0 from rfl, show Int.toNat 1 = 1 from rfl, show Int.toNat 2 = 2 from rfl, show Int.toNat 3 = 3 from rfl, show Int.toNat 4 = 4 from rfl, show Int.toNat 5 = 5 from rfl, show Int.toNat 6 = 6 from rfl, show Int.toNat 7 = 7 from rfl, show Int.toNat 8 = 8 from rfl, hsh]
        have hzz := range_vs (hel1 _ (mem_at (l := t) (i := s) (by omega)))
        have z0 : ivHas zz (co (t.getD s 0) 0) := hzz.2 0
        have z1 : ivHas zz (co (t.getD s 0) 1) := hzz.2 1
        have z2 : ivHas zz (co (t.getD s 0) 2) := hzz.2 2
        have z3 : ivHas zz (co (t.getD s 0) 3) := hzz.2 3
        have z4 : ivHas zz (co (t.getD s 0) 4) := hzz.2 4
        have z5 : ivHas zz (co (t.getD s 0) 5) := hzz.2 5
        simp only [List.flatMap_cons, cntF] at hf3 hf4 hcl
        have hclF := cntF_len t X F
        have hF0n : (0 : Int) ≤ F.length := Int.natCast_nonneg _
        have hfF : ∀ T' ∈ F, ∃ s e, T'.At t l.length s e := fun T' h' => hf2 T' (List.mem_cons_of_mem _ h')
        refine ⟨by omega, by omega, by omega, by omega, by omega, vsOK_cons (hv.2 2) (vsOK_cons (hv.2 3) (vsOK_cons (hv.2 4) (vsOK_cons (hv.2 5) (vsOK_cons (hv.2 6) (vsOK_cons (hv.2 7) (vsOK_cons (hv.2 8) (vsOK_cons (hv.2 9) (vsOK_cons (hv.2 10) (vsOK_cons (hv.2 11) (vsOK_cons (hv.2 12) (vsOK_cons (hv.2 13) (vsOK_cons (hv.2 14) (vsOK_cons (hv.2 15) (vsOK_cons (hv.2 16) (vsOK_cons (hv.2 17) (vsOK_cons z0 (vsOK_cons z1 (vsOK_cons z2 (vsOK_cons z3 (vsOK_cons z4 (vsOK_cons z5 (vsOK_cons (hv.2 18) (vsOK_cons (hv.2 19) (vsOK_cons (hv.2 20) (vsOK_cons (hv.2 21) vsOK_nil))))))))))))))))))))))))), fun hhid => ?_, fun hshow => ?_⟩
        · have hno : ¬ showsI (t.getD s 0) X = true := by simp only [showsI, decide_eq_true_eq]; exact fun hh => hh hhid
          obtain ⟨k1, k2⟩ := lk_hidden (T := T) (t := t) (x := X) (by rw [e1.2.1]; exact hno)
          rw [k1] at hf3
          rw [k2] at hf4
          exact ⟨⟨F, rfl, hfF, hf3, by omega, by omega⟩, by omega⟩
        · have hyes : showsI (t.getD s 0) X = true := by simp only [showsI, decide_eq_true_eq]; exact hshow
          cases T with
          | leaf i =>
            obtain ⟨rfl, rfl, g1, g2, g3, g4, g5⟩ := hT
            simp only [lkItems, lkCnt, hyes, if_true] at hf3 hf4
            refine ⟨fun _ => ⟨by simp only [List.length_append, List.length_cons, List.length_nil]; omega, ⟨F, rfl, hfF, by rw [List.append_assoc]; exact hf3, by omega, by omega⟩, by omega⟩, fun hh => by omega⟩
          | node i p q =>
            obtain ⟨rfl, g1, m, g2, g3, g4, g5, g6⟩ := hT
            have q1 := g2.le
            have q2 := g3.le
            have n1 := (lkCnt_iv t X p).1
            have n2 := (lkCnt_iv t X q).1
            simp only [lkItems, lkCnt, hyes, if_true] at hf3 hf4 hcl
            refine ⟨fun hh => by omega, fun _ => ⟨by simp only [List.length_append, List.length_cons, List.length_nil, rootsL_len]; omega, ⟨p :: q :: F, ?_, ?_, ?_, ?_, by omega⟩, by omega⟩⟩
            · rw [rootsL_cons, rootsL_cons, q1.2.1, q2.2.1, g4, g5]
              rfl
            · intro T' h'
              rcases List.mem_cons.1 h' with rfl | h'
              · exact ⟨_, _, g2⟩
              · rcases List.mem_cons.1 h' with rfl | h'
                · exact ⟨_, _, g3⟩
                · exact hfF T' h'
            · simp only [List.flatMap_cons]
              rw [← hf3, List.append_assoc]
            · simp only [cntF]
              omega
    · have hF : F = [] := List.eq_nil_of_length_eq_zero (by rw [rootsL_len] at hge; omega)
      subst hF
      simp only [List.flatMap_nil, List.append_nil, cntF] at hf3 hf4
      refine ⟨by omega, ?_⟩
      rw [hf3, hF3, ← hF5, ← hf4, Int.add_zero]
  · rw [if_neg (by omega)] at hF1
    have hini : dec (cod []) = rootsL F0 := by rw [hF1]; simp [dec_cod]
    refine ⟨fun xs => ∃ F : List BT, dec (xs.getD 2 0) = rootsL F ∧ (∀ T ∈ F, ∃ s e, T.At t l.length s e) ∧ dec (xs.getD 0 0) ++ F.flatMap (lkItems t X) = F0.flatMap (lkItems t X) ∧ xs.getD 1 0 + cntF t X F = cntF t X F0 ∧ 0 ≤ xs.getD 1 0, fun xs => (cntF t X F0 - xs.getD 1 0).toNat, fun xs hx _ => vs_none (n := 3) hx, ⟨F0, hini, hF2, by simp [dec_cod], by simp, by simp⟩, ?_⟩
    intro xs hx hI
    obtain ⟨d0, d1, d2, rfl⟩ := len3 hx
    obtain ⟨F, hf1, hf2, hf3, hf4, hf5⟩ := hI
    simp only [List.getD_cons_zero, List.getD_cons_succ, List.cons_append, List.nil_append] at hf1 hf3 hf4 hf5 ⊢
    have hco : ∀ x j, (dec x).getD j 0 = co x j := fun _ _ => rfl
    simp only [hf1]
    have hcl := cntF_len t X F
    have hcl0 := cntF_len t X F0
    have hil : (dec d0).length ≤ 1000 := by
      have := congrArg List.length hf3
      rw [List.length_append] at this
      omega
    refine ⟨fun hlt => ?_, fun hge => ?_⟩
    · cases F with
      | nil => simp [rootsL] at hlt
      | cons T F =>
        obtain ⟨s, e, hT⟩ := hf2 T (List.mem_cons_self ..)
        have e1 := hT.le
        have hsz := T.size_leaves
        have hrl : (rootsL (T :: F)).length = F.length + 1 := by rw [rootsL_len]; rfl
        have hw : IntKind.i64.wrap (((rootsL (T :: F)).length : Int) - 1) = (F.length : Int) := by
          simp only [List.length_cons] at hcl
          rw [hrl, wrap64 (by omega) (by omega)]
          omega
        have hget : (rootsL (T :: F)).getD F.length 0 = (s : Int) := by
          rw [rootsL_cons, e1.2.1, show F.length = (rootsL F ++ [(s : Int)]).length - 1 by simp [rootsL_len]]
          exact last_snoc _ _
        have htake : (rootsL (T :: F)).take F.length = rootsL F := by
          rw [rootsL_cons, ← rootsL_len F]
          simp
        have hw1 : IntKind.i64.wrap (d1 + 1) = d1 + 1 := wrap64 (by omega) (by omega)
        simp only [hw, hw1, Int.toNat_natCast, hget, htake, hco, dec_cod, show Int.toNat 0 = 0 from rfl, show Int.toNat 1 = 1 from rfl, show Int.toNat 2 = 2 from rfl, show Int.toNat 3 = 3 from rfl, show Int.toNat 4 = 4 from rfl, show Int.toNat 5 = 5 from rfl, show Int.toNat 6 = 6 from rfl, show Int.toNat 7 = 7 from rfl, show Int.toNat 8 = 8 from rfl, hsh]
        have hzz := range_vs (hel1 _ (mem_at (l := t) (i := s) (by omega)))
        have z0 : ivHas zz (co (t.getD s 0) 0) := hzz.2 0
        have z1 : ivHas zz (co (t.getD s 0) 1) := hzz.2 1
        have z2 : ivHas zz (co (t.getD s 0) 2) := hzz.2 2
        have z3 : ivHas zz (co (t.getD s 0) 3) := hzz.2 3
        have z4 : ivHas zz (co (t.getD s 0) 4) := hzz.2 4
        have z5 : ivHas zz (co (t.getD s 0) 5) := hzz.2 5
        simp only [List.flatMap_cons, cntF] at hf3 hf4 hcl
        have hclF := cntF_len t X F
        have hF0n : (0 : Int) ≤ F.length := Int.natCast_nonneg _
        have hfF : ∀ T' ∈ F, ∃ s e, T'.At t l.length s e := fun T' h' => hf2 T' (List.mem_cons_of_mem _ h')
        refine ⟨by omega, by omega, by omega, by omega, by omega, vsOK_cons (hv.2 2) (vsOK_cons (hv.2 3) (vsOK_cons (hv.2 4) (vsOK_cons (hv.2 5) (vsOK_cons (hv.2 6) (vsOK_cons (hv.2 7) (vsOK_cons (hv.2 8) (vsOK_cons (hv.2 9) (vsOK_cons (hv.2 10) (vsOK_cons (hv.2 11) (vsOK_cons (hv.2 12) (vsOK_cons (hv.2 13) (vsOK_cons (hv.2 14) (vsOK_cons (hv.2 15) (vsOK_cons (hv.2 16) (vsOK_cons (hv.2 17) (vsOK_cons z0 (vsOK_cons z1 (vsOK_cons z2 (vsOK_cons z3 (vsOK_cons z4 (vsOK_cons z5 (vsOK_cons (hv.2 18) (vsOK_cons (hv.2 19) (vsOK_cons (hv.2 20) (vsOK_cons (hv.2 21) vsOK_nil))))))))))))))))))))))))), fun hhid => ?_, fun hshow => ?_⟩
        · have hno : ¬ showsI (t.getD s 0) X = true := by simp only [showsI, decide_eq_true_eq]; exact fun hh => hh hhid
          obtain ⟨k1, k2⟩ := lk_hidden (T := T) (t := t) (x := X) (by rw [e1.2.1]; exact hno)
          rw [k1] at hf3
          rw [k2] at hf4
          exact ⟨⟨F, rfl, hfF, hf3, by omega, by omega⟩, by omega⟩
        · have hyes : showsI (t.getD s 0) X = true := by simp only [showsI, decide_eq_true_eq]; exact hshow
          cases T with
          | leaf i =>
            obtain ⟨rfl, rfl, g1, g2, g3, g4, g5⟩ := hT
            simp only [lkItems, lkCnt, hyes, if_true] at hf3 hf4
            refine ⟨fun _ => ⟨by simp only [List.length_append, List.length_cons, List.length_nil]; omega, ⟨F, rfl, hfF, by rw [List.append_assoc]; exact hf3, by omega, by omega⟩, by omega⟩, fun hh => by omega⟩
          | node i p q =>
            obtain ⟨rfl, g1, m, g2, g3, g4, g5, g6⟩ := hT
            have q1 := g2.le
            have q2 := g3.le
            have n1 := (lkCnt_iv t X p).1
            have n2 := (lkCnt_iv t X q).1
            simp only [lkItems, lkCnt, hyes, if_true] at hf3 hf4 hcl
            refine ⟨fun hh => by omega, fun _ => ⟨by simp only [List.length_append, List.length_cons, List.length_nil, rootsL_len]; omega, ⟨p :: q :: F, ?_, ?_, ?_, ?_, by omega⟩, by omega⟩⟩
            · rw [rootsL_cons, rootsL_cons, q1.2.1, q2.2.1, g4, g5]
              rfl
            · intro T' h'
              rcases List.mem_cons.1 h' with rfl | h'
              · exact ⟨_, _, g2⟩
              · rcases List.mem_cons.1 h' with rfl | h'
                · exact ⟨_, _, g3⟩
                · exact hfF T' h'
            · simp only [List.flatMap_cons]
              rw [← hf3, List.append_assoc]
            · simp only [cntF]
              omega
    · have hF : F = [] := List.eq_nil_of_length_eq_zero (by rw [rootsL_len] at hge; omega)
      subst hF
      simp only [List.flatMap_nil, List.append_nil, cntF] at hf3 hf4
      refine ⟨by omega, ?_⟩
      rw [hf3, hF3, ← hF5, ← hf4, Int.add_zero])
theorem look_iv (t l x : List Int) : 0 ≤ lookE t l x ∧ lookE t l x ≤ 150 := by
  unfold lookE
  split
  · exact asked_iv l x
  · have := chkE_iv t l
    omega
#print axioms ok_look
end Go.Proofs.YtgcoidbaoigkeaaDoor.fix
set_option linter.unusedVariables false
set_option linter.unusedSimpArgs false
namespace Go.Proofs.YtgcoidbaoigkeaaDoor.fix
open Go.RowKit Go.Sx

theorem lookL_two (t l x : List Int) : (lookL t l x).getD 2 0 = lookE t l x := by
  unfold lookL
  split
  · rename_i h; rw [h]; rfl
  · rfl
theorem seen_iv {t l x : List Int} (hx : x.length = 20) (ht : t.length ≤ 1000) : 0 ≤ (lookL t l x).getD 1 0 ∧ (lookL t l x).getD 1 0 ≤ 1000 := by
  unfold lookL
  split
  · rename_i h
    have hC : chkE t l = 0 := by
      unfold lookE at h
      split at h
      · assumption
      · exact h
    have hA : askedE l x = 0 := by
      unfold lookE at h
      rw [if_pos hC] at h
      exact h
    obtain ⟨F, _, _, _, _, h5, h6⟩ := look_start hC hA hx ht
    have := cntF_len t x F
    show 0 ≤ seenN t x ∧ seenN t x ≤ 1000
    omega
  · exact ⟨by show (0:Int) ≤ 0; decide, by show (0:Int) ≤ 1000; decide⟩
theorem look_vs {xs : List Int} (hp : pre_look xs) : ivHas (iv 0 1000) ((lookL (dec (xs.getD 0 0)) (dec (xs.getD 1 0)) (xs.drop 2)).getD 1 0) ∧ ivHas (iv 0 150) ((lookL (dec (xs.getD 0 0)) (dec (xs.getD 1 0)) (xs.drop 2)).getD 2 0) := by
  have hl : xs.length = 22 := hp.1.1.symm
  refine ⟨seen_iv (by simp [hl]) hp.2.1.1, ?_⟩
  rw [lookL_two]
  exact look_iv _ _ _
theorem inf_look : InfOK s_look i_look := ⟨fun xs h => (small_not xs h).elim, fun vs xs h hp => vsOK_cons trivial (vsOK_cons (look_vs hp).1 (vsOK_cons (look_vs hp).2 vsOK_nil))⟩
noncomputable def G_query : List Sum := [s_look]
def I_query : List Inf := [i_look]
def t_query : TX := (.call 0 [(.v 0), (.v 1), (.v 2), (.v 3), (.v 4), (.v 5), (.v 6), (.v 7), (.v 8), (.v 9), (.v 10), (.v 11), (.v 12), (.v 13), (.v 14), (.v 15), (.v 16), (.v 17), (.v 18), (.v 19), (.v 20), (.v 21)] (.ret [(.v 22), (.v 24)]))
theorem tree_query : merge (optFL [] I_query [] pin_query (symFnL Tryd.prog noLp gl0 G_query 1000 10 [Tr, Bs, An 16, An 4] [Is, I1])) = t_query := by kernel_rfl
theorem g_query : Gok Tryd.prog G_query := (fix.one ok_look)
theorem o_query : outsOK G_query I_query := (outsOK_cons inf_look outsOK_nil)
theorem ok_query : s_query.ok Tryd.prog := Sum.okPF (pin := pin_query) facts.mixed g_query o_query tree_query rfl (fun _ => rfl) (fun xs h => h.1) (by
  intro xs hx hp
  obtain ⟨a, b, c0, c1, c2, c3, c4, c5, c6, c7, c8, c9, c10, c11, c12, c13, c14, c15, w0, w1, w2, w3, rfl⟩ := len22x hx
  exact ⟨hp, rfl⟩)
theorem inf_query : InfOK s_query i_query := ⟨fun xs h => (small_not xs h).elim, fun vs xs h hp => vsOK_cons trivial (vsOK_cons (look_vs hp).2 vsOK_nil)⟩
noncomputable def G_fseen : List Sum := [s_look]
def I_fseen : List Inf := [i_look]
def t_fseen : TX := (.call 0 [(.v 0), (.v 1), (.v 2), (.v 3), (.v 4), (.v 5), (.v 6), (.v 7), (.v 8), (.v 9), (.v 10), (.v 11), (.v 12), (.v 13), (.v 14), (.v 15), (.v 16), (.v 17), (.v 18), (.v 19), (.v 20), (.v 21)] (.ret [(.v 23), (.v 24)]))
theorem tree_fseen : merge (optFL [] I_fseen [] pin_fseen (symFnL Tryd.prog noLp gl0 G_fseen 1000 13 [Tr, Bs, An 16, An 4] [I1, I1])) = t_fseen := by kernel_rfl
theorem g_fseen : Gok Tryd.prog G_fseen := (fix.one ok_look)
theorem o_fseen : outsOK G_fseen I_fseen := (outsOK_cons inf_look outsOK_nil)
theorem ok_fseen : s_fseen.ok Tryd.prog := Sum.okPF (pin := pin_fseen) facts.mixed g_fseen o_fseen tree_fseen rfl (fun _ => rfl) (fun xs h => h.1) (by
  intro xs hx hp
  obtain ⟨a, b, c0, c1, c2, c3, c4, c5, c6, c7, c8, c9, c10, c11, c12, c13, c14, c15, w0, w1, w2, w3, rfl⟩ := len22x hx
  exact ⟨hp, rfl⟩)
theorem inf_fseen : InfOK s_fseen i_fseen := ⟨fun xs h => (small_not xs h).elim, fun vs xs h hp => vsOK_cons (look_vs hp).1 (vsOK_cons (look_vs hp).2 vsOK_nil)⟩

#print axioms ok_query
end Go.Proofs.YtgcoidbaoigkeaaDoor.fix
