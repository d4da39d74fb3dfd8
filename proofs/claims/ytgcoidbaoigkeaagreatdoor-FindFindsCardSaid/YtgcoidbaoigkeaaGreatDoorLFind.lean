/-
  The document's answer for what is found: box by box, and how many are looked at.
-/
import Derived.Test.YtgcoidbaoigkeaaGreatDoorLDefs
import Derived.Test.YtgcoidbaoigkeaaGreatDoorKSame
import Derived.Test.YtgcoidbaoigkeaaGreatDoorJLook
set_option linter.unusedVariables false
set_option linter.unusedSimpArgs false
namespace Go.Proofs.YtgcoidbaoigkeaaGreatDoor.fix
open Go.RowKit Go.Sx

noncomputable def G_rall : List Sum := [s_world, s_rwindow, s_rshadow]
def I_rall : List Inf := [i_world, i_rwindow, i_rshadow]
def t_rall : TX := (.ite (.lt (.c 256) (.ln (.v 0))) (.ret [.nl, (.c 4)])
(.loop 2 [none, none] [(.c 0), (.c 0)] (.ite (.lt (.v 22) (.ln (.v 0))) (.asrt (.le (.c 0) (.v 22)) (.call 0 [(.l2 .at (.l2 .at (.v 0) (.v 22)) (.c 0)), (.l2 .at (.l2 .at (.v 0) (.v 22)) (.c 1)), (.l2 .at (.l2 .at (.v 0) (.v 22)) (.c 2)), (.l2 .at (.l2 .at (.v 0) (.v 22)) (.c 3)), (.l2 .at (.l2 .at (.v 0) (.v 22)) (.c 4)), (.l2 .at (.l2 .at (.v 0) (.v 22)) (.c 5))] (.ite (.eq (.v 23) (.c 0)) (.ret [.nl, (.c 8)])
(.back 0 [(.v 21), (.wr .i64 (.add (.v 22) (.c 1)))]))))
(.callp 1 [(.v 1), (.v 2), (.v 3), (.v 4), (.v 5), (.v 6), (.v 7), (.v 8), (.v 9), (.v 10), (.v 11), (.v 12), (.v 13), (.v 14), (.v 15), (.v 16), (.v 17), (.v 18), (.v 19), (.v 20)] (.ite (.not (.eq (.v 23) (.c 0))) (.ret [.nl, (.v 23)])
(.loop 2 [none, none] [.nl, (.c 0)] (.ite (.le (.ln (.v 0)) (.v 25)) (.ret [(.v 24), (.c 0)])
(.asrt (.le (.c 0) (.v 25)) (.call 2 [(.v 1), (.v 2), (.v 3), (.v 4), (.v 5), (.v 6), (.v 7), (.v 8), (.v 9), (.v 10), (.v 11), (.v 12), (.v 13), (.v 14), (.v 15), (.v 16), (.l2 .at (.l2 .at (.v 0) (.v 25)) (.c 0)), (.l2 .at (.l2 .at (.v 0) (.v 25)) (.c 1)), (.l2 .at (.l2 .at (.v 0) (.v 25)) (.c 2)), (.l2 .at (.l2 .at (.v 0) (.v 25)) (.c 3)), (.l2 .at (.l2 .at (.v 0) (.v 25)) (.c 4)), (.l2 .at (.l2 .at (.v 0) (.v 25)) (.c 5)), (.v 17), (.v 18), (.v 19), (.v 20)] (.ite (.nz (.v 31)) (.asrt (.le (.ln (.l2 .snoc (.v 24) (.v 25))) (.c 1000000)) (.back 1 [(.l2 .snoc (.v 24) (.v 25)), (.wr .i64 (.add (.v 25) (.c 1)))]))
(.back 1 [(.v 24), (.wr .i64 (.add (.v 25) (.c 1)))])))))))))))
theorem tree_rall : merge (optFL [] I_rall [] pin_rall (symFnL Tryz.prog (openAt Tryz.prog [(4, 18), (13, 36)]) gl0 G_rall 1000 21 [Bs, An 16, An 4] [Is, I1])) = t_rall := by kernel_rfl
theorem g_rall : Gok Tryz.prog G_rall := (more ok_world (more ok_rwindow (fix.one ok_rshadow)))
theorem o_rall : outsOK G_rall I_rall := (outsOK_cons inf_world (outsOK_cons inf_rwindow (outsOK_cons inf_rshadow outsOK_nil)))
theorem ok_rall : s_rall.ok Tryz.prog := Sum.okPF (pin := pin_rall) facts.mixed g_rall o_rall tree_rall rfl (fun _ => rfl) (fun xs h => h.1) (by
  intro xs hx hp
  obtain ⟨a, c0, c1, c2, c3, c4, c5, c6, c7, c8, c9, c10, c11, c12, c13, c14, c15, w0, w1, w2, w3, rfl⟩ := len21x hx
  have hel : ∀ b ∈ dec a, rangeOK Bs_ks (dec b) := hp.2
  have hv := hp.1
  clear hp
  simp only [t_rall, G_rall, s_world, s_rwindow, s_rshadow, TX.sat, XB.prop, X.den, List.map_cons, List.map_nil, List.getElem?_cons_zero, List.getElem?_cons_succ, List.cons_append, List.nil_append, List.getD_cons_zero, List.getD_cons_succ, mkS, mkP, and_true, true_and, Int.not_lt, Int.not_le, not_or, not_and, Classical.not_not, ne_eq, not_true_eq_false, not_false_eq_true, sem_rall, sem_fall, sem_world, sem_rwindow, sem_window, sem_rshadow, sem_shadow, ex7, L2.den, List.drop_succ_cons, List.drop_zero]
  generalize dec a = l at hel ⊢
  have hsh : ∀ b' : Int, shadowL [c0, c1, c2, c3, c4, c5, c6, c7, c8, c9, c10, c11, c12, c13, c14, c15, co b' 0, co b' 1, co b' 2, co b' 3, co b' 4, co b' 5, w0, w1, w2, w3] = shade b' [c0, c1, c2, c3, c4, c5, c6, c7, c8, c9, c10, c11, c12, c13, c14, c15, w0, w1, w2, w3] := fun _ => rfl
  have hF : fallL l [c0, c1, c2, c3, c4, c5, c6, c7, c8, c9, c10, c11, c12, c13, c14, c15, w0, w1, w2, w3] = if askedE l [c0, c1, c2, c3, c4, c5, c6, c7, c8, c9, c10, c11, c12, c13, c14, c15, w0, w1, w2, w3] = 0 then [cod (foundU l [c0, c1, c2, c3, c4, c5, c6, c7, c8, c9, c10, c11, c12, c13, c14, c15, w0, w1, w2, w3] l.length), 0] else [cod [], askedE l [c0, c1, c2, c3, c4, c5, c6, c7, c8, c9, c10, c11, c12, c13, c14, c15, w0, w1, w2, w3]] := rfl
  have hA : askedE l [c0, c1, c2, c3, c4, c5, c6, c7, c8, c9, c10, c11, c12, c13, c14, c15, w0, w1, w2, w3] = if l.length ≤ 256 then (if l.all okB = true then windowV [c0, c1, c2, c3, c4, c5, c6, c7, c8, c9, c10, c11, c12, c13, c14, c15, w0, w1, w2, w3] else 8) else 4 := rfl
  have hwv : ∀ (p : windowV [c0, c1, c2, c3, c4, c5, c6, c7, c8, c9, c10, c11, c12, c13, c14, c15, w0, w1, w2, w3] = 0 ∨ True), True := fun _ => trivial
  have hvw : vsOK pin_window [c0, c1, c2, c3, c4, c5, c6, c7, c8, c9, c10, c11, c12, c13, c14, c15, w0, w1, w2, w3] := vsOK_cons (hv.2 1) (vsOK_cons (hv.2 2) (vsOK_cons (hv.2 3) (vsOK_cons (hv.2 4) (vsOK_cons (hv.2 5) (vsOK_cons (hv.2 6) (vsOK_cons (hv.2 7) (vsOK_cons (hv.2 8) (vsOK_cons (hv.2 9) (vsOK_cons (hv.2 10) (vsOK_cons (hv.2 11) (vsOK_cons (hv.2 12) (vsOK_cons (hv.2 13) (vsOK_cons (hv.2 14) (vsOK_cons (hv.2 15) (vsOK_cons (hv.2 16) (vsOK_cons (hv.2 17) (vsOK_cons (hv.2 18) (vsOK_cons (hv.2 19) (vsOK_cons (hv.2 20) vsOK_nil)))))))))))))))))))
  have hco : ∀ x j, (dec x).getD j 0 = co x j := fun _ _ => rfl
  rw [hF]
  clear hF
  refine ⟨fun hbig => ?_, fun hle => ?_⟩
  · rw [show askedE l [c0, c1, c2, c3, c4, c5, c6, c7, c8, c9, c10, c11, c12, c13, c14, c15, w0, w1, w2, w3] = 4 by rw [hA, if_neg (by omega)]]
    rfl
  rw [if_pos (by omega)] at hA
  refine ⟨fun xs => ∃ i : Nat, xs.getD 1 0 = (i : Int) ∧ i ≤ l.length ∧ ∀ j, j < i → okB (l.getD j 0) = true, fun xs => l.length - (xs.getD 1 0).toNat, fun xs hx _ => vs_none (n := 2) hx, ⟨0, rfl, by omega, fun j hj => by omega⟩, ?_⟩
  intro xs hx hI
  obtain ⟨d0, d1, rfl⟩ := len2 hx
  obtain ⟨i, hi, hil, hall⟩ := hI
  simp only [List.getD_cons_zero, List.getD_cons_succ, List.cons_append, List.nil_append] at hi ⊢
  subst hi
  simp only [Int.toNat_natCast, hco, show Int.toNat 0 = 0 from rfl, show Int.toNat 1 = 1 from rfl, show Int.toNat 2 = 2 from rfl, show Int.toNat 3 = 3 from rfl, show Int.toNat 4 = 4 from rfl, show Int.toNat 5 = 5 from rfl]
  have hw : IntKind.i64.wrap ((i : Int) + 1) = ((i + 1 : Nat) : Int) := by rw [wrap64 (by omega) (by omega)]; omega
  refine ⟨fun hlt => ?_, fun hge => ?_⟩
  · have hil' : i < l.length := by omega
    obtain ⟨e0, e1, e2, e3, e4, e5⟩ := six_in (hel _ (mem_at hil'))
    refine ⟨by omega, vsOK_cons e0 (vsOK_cons e1 (vsOK_cons e2 (vsOK_cons e3 (vsOK_cons e4 (vsOK_cons e5 vsOK_nil))))), ?_⟩
    have hok : okB (l.getD i 0) = worldB [co (l.getD i 0) 0, co (l.getD i 0) 1, co (l.getD i 0) 2, co (l.getD i 0) 3, co (l.getD i 0) 4, co (l.getD i 0) 5] 0 := rfl
    rw [← hok]
    cases hb : okB (l.getD i 0) with
    | true =>
      refine ⟨fun h => absurd h (by decide), fun _ => ?_⟩
      rw [hw]
      refine ⟨⟨i + 1, rfl, by omega, fun j hj => ?_⟩, by rw [Int.toNat_natCast]; omega⟩
      rcases Nat.lt_or_ge j i with h1 | h1
      · exact hall j h1
      · have : j = i := by omega
        subst this
        exact hb
    | false =>
      refine ⟨fun _ => ?_, fun h => absurd rfl h⟩
      rw [hA, if_neg (not_all hil' (by rw [hb]; decide))]
      rfl
  · rw [if_pos (all_upto hall (by omega))] at hA
    rw [hA]
    clear hA
    generalize hwe : windowV [c0, c1, c2, c3, c4, c5, c6, c7, c8, c9, c10, c11, c12, c13, c14, c15, w0, w1, w2, w3] = we
    refine ⟨fun hne => ?_, fun he => ?_⟩
    · rw [if_neg hne]
      rfl
    rw [if_pos (by omega)]
    clear hall hw
    refine ⟨fun xs => ∃ i : Nat, xs.getD 1 0 = (i : Int) ∧ i ≤ l.length ∧ xs.getD 0 0 = cod (foundU l [c0, c1, c2, c3, c4, c5, c6, c7, c8, c9, c10, c11, c12, c13, c14, c15, w0, w1, w2, w3] i), fun xs => l.length - (xs.getD 1 0).toNat, fun xs hx _ => vs_none (n := 2) hx, ⟨0, rfl, by omega, rfl⟩, ?_⟩
    intro xs hx hI
    obtain ⟨d0, d1, rfl⟩ := len2 hx
    obtain ⟨i, hi, hil, hd⟩ := hI
    simp only [List.getD_cons_zero, List.getD_cons_succ, List.cons_append, List.nil_append] at hi hd ⊢
    subst hi hd
    have hlen := found_len (l := l) (x := [c0, c1, c2, c3, c4, c5, c6, c7, c8, c9, c10, c11, c12, c13, c14, c15, w0, w1, w2, w3]) i
    have hw : IntKind.i64.wrap ((i : Int) + 1) = ((i + 1 : Nat) : Int) := by rw [wrap64 (by omega) (by omega)]; omega
    simp only [dec_cod, hco, hw, hsh, Int.toNat_natCast, show Int.toNat 0 = 0 from rfl, show Int.toNat 1 = 1 from rfl, show Int.toNat 2 = 2 from rfl, show Int.toNat 3 = 3 from rfl, show Int.toNat 4 = 4 from rfl, show Int.toNat 5 = 5 from rfl]
    refine ⟨fun hge => ?_, fun hlt => ?_⟩
    · have : i = l.length := by omega
      subst this
      rfl
    · have hil' : i < l.length := by omega
      obtain ⟨e0, e1, e2, e3, e4, e5⟩ := six_in (hel _ (mem_at hil'))
      refine ⟨by omega, vsOK_cons (hv.2 1) (vsOK_cons (hv.2 2) (vsOK_cons (hv.2 3) (vsOK_cons (hv.2 4) (vsOK_cons (hv.2 5) (vsOK_cons (hv.2 6) (vsOK_cons (hv.2 7) (vsOK_cons (hv.2 8) (vsOK_cons (hv.2 9) (vsOK_cons (hv.2 10) (vsOK_cons (hv.2 11) (vsOK_cons (hv.2 12) (vsOK_cons (hv.2 13) (vsOK_cons (hv.2 14) (vsOK_cons (hv.2 15) (vsOK_cons (hv.2 16) (vsOK_cons e0 (vsOK_cons e1 (vsOK_cons e2 (vsOK_cons e3 (vsOK_cons e4 (vsOK_cons e5 (vsOK_cons (hv.2 17) (vsOK_cons (hv.2 18) (vsOK_cons (hv.2 19) (vsOK_cons (hv.2 20) vsOK_nil))))))))))))))))))))))))), fun hyes => ?_, fun hno => ?_⟩
      · refine ⟨by simp only [List.length_append, List.length_cons, List.length_nil]; omega, ⟨i + 1, rfl, by omega, ?_⟩, by omega⟩
        rw [found_succ, if_pos (by simp only [showsI, decide_eq_true_eq]; exact hyes)]
      · refine ⟨⟨i + 1, rfl, by omega, ?_⟩, by omega⟩
        rw [found_succ, if_neg (by simp only [showsI, decide_eq_true_eq]; omega)])
theorem inf_rall : InfOK s_rall i_rall := inf_fall

noncomputable def G_rquery : List Sum := [s_rcheck, s_rall]
def I_rquery : List Inf := [i_rcheck, i_rall]
def t_rquery : TX := (.call 0 [(.v 0), (.v 1)] (.ite (.not (.eq (.v 22) (.c 0))) (.ret [.nl, (.v 22)])
(.call 1 [(.v 1), (.v 2), (.v 3), (.v 4), (.v 5), (.v 6), (.v 7), (.v 8), (.v 9), (.v 10), (.v 11), (.v 12), (.v 13), (.v 14), (.v 15), (.v 16), (.v 17), (.v 18), (.v 19), (.v 20), (.v 21)] (.ret [(.v 23), (.v 24)]))))
theorem tree_rquery : merge (optFL [] I_rquery [] pin_rquery (symFnL Tryz.prog noLp gl0 G_rquery 1000 22 [Tr, Bs, An 16, An 4] [Is, I1])) = t_rquery := by kernel_rfl
theorem g_rquery : Gok Tryz.prog G_rquery := (more ok_rcheck (fix.one ok_rall))
theorem o_rquery : outsOK G_rquery I_rquery := (outsOK_cons inf_rcheck (outsOK_cons inf_rall outsOK_nil))
theorem ok_rquery : s_rquery.ok Tryz.prog := Sum.okPF (pin := pin_rquery) facts.mixed g_rquery o_rquery tree_rquery rfl (fun _ => rfl) (fun xs h => h.1) (by
  intro xs hx hp
  obtain ⟨a, b, c0, c1, c2, c3, c4, c5, c6, c7, c8, c9, c10, c11, c12, c13, c14, c15, w0, w1, w2, w3, rfl⟩ := len22x hx
  have hv := hp.1
  have hpre : pre_rcheck [a, b] := ⟨vs_none (n := 2) rfl, hp.2⟩
  have hpreA : pre_rall [b, c0, c1, c2, c3, c4, c5, c6, c7, c8, c9, c10, c11, c12, c13, c14, c15, w0, w1, w2, w3] := ⟨vsOK_cons trivial (vsOK_cons (hv.2 2) (vsOK_cons (hv.2 3) (vsOK_cons (hv.2 4) (vsOK_cons (hv.2 5) (vsOK_cons (hv.2 6) (vsOK_cons (hv.2 7) (vsOK_cons (hv.2 8) (vsOK_cons (hv.2 9) (vsOK_cons (hv.2 10) (vsOK_cons (hv.2 11) (vsOK_cons (hv.2 12) (vsOK_cons (hv.2 13) (vsOK_cons (hv.2 14) (vsOK_cons (hv.2 15) (vsOK_cons (hv.2 16) (vsOK_cons (hv.2 17) (vsOK_cons (hv.2 18) (vsOK_cons (hv.2 19) (vsOK_cons (hv.2 20) (vsOK_cons (hv.2 21) vsOK_nil)))))))))))))))))))), hp.2.2.2⟩
  clear hp hv
  simp only [t_rquery, G_rquery, s_rcheck, s_rall, TX.sat, XB.prop, X.den, List.map_cons, List.map_nil, List.getElem?_cons_zero, List.getElem?_cons_succ, List.cons_append, List.nil_append, List.getD_cons_zero, List.getD_cons_succ, mkS, mkP, and_true, true_and, Int.not_lt, Int.not_le, not_or, not_and, Classical.not_not, ne_eq, not_true_eq_false, not_false_eq_true, sem_rcheck, sem_tcheck, sem_rall, sem_fall, sem_rquery, sem_query, sem_look_eq, List.drop_succ_cons, List.drop_zero]
  refine ⟨hpre, ?_⟩
  generalize dec a = t
  generalize hl : dec b = l
  generalize hX : [c0, c1, c2, c3, c4, c5, c6, c7, c8, c9, c10, c11, c12, c13, c14, c15, w0, w1, w2, w3] = X at hpreA ⊢
  have hL : lookL t l X = if lookE t l X = 0 then [cod (foundU l X l.length), seenN t X, 0] else [cod [], 0, lookE t l X] := rfl
  have hF : fallL l X = if askedE l X = 0 then [cod (foundU l X l.length), 0] else [cod [], askedE l X] := rfl
  rw [hL, hF]
  refine ⟨fun hE => ?_, fun hE => ?_⟩
  · have hlk : lookE t l X = chkE t l := by unfold lookE; rw [if_neg hE]
    rw [hlk, if_neg hE]
    rfl
  · have hlk : lookE t l X = askedE l X := by unfold lookE; rw [if_pos (by omega)]
    refine ⟨hpreA, ?_⟩
    rw [hlk]
    by_cases h : askedE l X = 0
    · rw [if_pos h, if_pos h]
      rfl
    · rw [if_neg h, if_neg h]
      rfl)
theorem inf_rquery : InfOK s_rquery i_rquery := inf_query

theorem BT.At.cnt' {t x : List Int} {n : Int} : ∀ {T : BT} {s e : Nat}, T.At t n s e → ∀ f, T.size ≤ f → lkN t x f s = lkCnt t x T
  | .leaf i, s, e, h, f, hf => by
    obtain ⟨rfl, rfl, h1, h2, _⟩ := h
    obtain ⟨f, rfl⟩ : ∃ g, f = g + 1 := ⟨f - 1, by simp only [BT.size] at hf; omega⟩
    unfold lkN lkCnt
    rw [if_neg (by omega)]
  | .node i a b, s, e, h, f, hf => by
    obtain ⟨rfl, h1, m, h2, h3, h4, h5, h6⟩ := h
    simp only [BT.size] at hf
    obtain ⟨f, rfl⟩ : ∃ g, f = g + 1 := ⟨f - 1, by omega⟩
    have k1 := h2.cnt' (x := x) f (by omega)
    have k2 := h3.cnt' (x := x) f (by omega)
    have e1 : (co (t.getD s 0) 6).toNat = s + 1 := by omega
    have e2 : (co (t.getD s 0) 7).toNat = m := by omega
    unfold lkN lkCnt
    rw [e1, e2, k1, k2]
    by_cases hs : showsI (t.getD s 0) x = true
    · rw [if_pos ⟨hs, by omega⟩, if_pos hs]
    · rw [if_neg (fun hh => hs hh.1), if_neg hs]
def t_rlookedR : TX := (.asrt (.lt (.v 1) (.ln (.v 0))) (.call 0 [(.v 2), (.v 3), (.v 4), (.v 5), (.v 6), (.v 7), (.v 8), (.v 9), (.v 10), (.v 11), (.v 12), (.v 13), (.v 14), (.v 15), (.v 16), (.v 17), (.l2 .at (.l2 .at (.v 0) (.v 1)) (.c 0)), (.l2 .at (.l2 .at (.v 0) (.v 1)) (.c 1)), (.l2 .at (.l2 .at (.v 0) (.v 1)) (.c 2)), (.l2 .at (.l2 .at (.v 0) (.v 1)) (.c 3)), (.l2 .at (.l2 .at (.v 0) (.v 1)) (.c 4)), (.l2 .at (.l2 .at (.v 0) (.v 1)) (.c 5)), (.v 18), (.v 19), (.v 20), (.v 21)] (.ite (.or (.eq (.v 27) (.c 0)) (.lt (.l2 .at (.l2 .at (.v 0) (.v 1)) (.c 6)) (.c 0))) (.ret [(.c 1)])
(.call 1 [(.v 0), (.l2 .at (.l2 .at (.v 0) (.v 1)) (.c 6)), (.v 2), (.v 3), (.v 4), (.v 5), (.v 6), (.v 7), (.v 8), (.v 9), (.v 10), (.v 11), (.v 12), (.v 13), (.v 14), (.v 15), (.v 16), (.v 17), (.v 18), (.v 19), (.v 20), (.v 21)] (.call 1 [(.v 0), (.l2 .at (.l2 .at (.v 0) (.v 1)) (.c 7)), (.v 2), (.v 3), (.v 4), (.v 5), (.v 6), (.v 7), (.v 8), (.v 9), (.v 10), (.v 11), (.v 12), (.v 13), (.v 14), (.v 15), (.v 16), (.v 17), (.v 18), (.v 19), (.v 20), (.v 21)] (.ret [(.add (.add (.c 1) (.v 29)) (.v 30))]))))))
theorem tree_rlookedK (k : Nat) : merge (optFL [] [i_rshadow, i_rlookedk0] [] pin_rlooked (symFnL Tryz.prog noLp gl0 [s_rshadow, s_rlookedK k] 1000 47 [Tr, I1, An 16, An 4] [I1])) = t_rlookedR := by kernel_rfl
theorem below_iv {t x : List Int} {i : Int} {k : Nat} (ht : t.length ≤ 1000) (h : below t i k) : ivHas (iv 0 1000) (lkN t x t.length i.toNat) := by
  obtain ⟨T, n, s, e, hT, rfl, hk⟩ := h
  have hle := hT.le
  rw [Int.toNat_natCast, hT.cnt' (x := x) t.length (by omega)]
  have := lkCnt_iv t x T
  exact ⟨by show (0:Int) ≤ _; omega, by show _ ≤ (1000:Int); omega⟩
theorem inf_rlookedK (k : Nat) : InfOK (s_rlookedK k) i_rlookedk0 := ⟨fun xs h => (small_not xs h).elim, fun vs xs h hp => vsOK_cons (below_iv hp.2.1 hp.2.2.2) vsOK_nil⟩
theorem rlookedK_ok : ∀ k, (s_rlookedK k).ok Tryz.prog
  | 0 => ⟨fun sh h => (by
      have h' : sh ∈ [Tr, I1, An 16, An 4, I1] := h
      simp only [List.mem_cons, List.mem_nil_iff, or_false, or_self] at h'
      rcases h' with rfl | rfl | rfl | rfl | rfl
      · exact .inr rfl
      · exact .inr rfl
      · exact .inl rfl
      · exact .inl rfl
      · exact .inr rfl), fun xs vs w hgl hx hpre => by
        obtain ⟨T, n, s, e, hT, _, hk⟩ := hpre.2.2.2
        have := T.size_leaves
        omega⟩
  | k + 1 => Sum.okPL facts.mixed (more ok_rshadow (fix.one (rlookedK_ok k))) (outsOK_cons inf_rshadow (outsOK_cons (inf_rlookedK k) outsOK_nil)) (tree_rlookedK k) rfl (fun _ => rfl) (fun xs h => h.1) (by
    intro xs hx hp
    obtain ⟨a, i, c0, c1, c2, c3, c4, c5, c6, c7, c8, c9, c10, c11, c12, c13, c14, c15, w0, w1, w2, w3, rfl⟩ := len22x hx
    have hv := hp.1
    have hl : (dec a).length ≤ 1000 := hp.2.1
    have hel : ∀ b ∈ dec a, rangeOK Br_ks (dec b) := hp.2.2.1
    obtain ⟨T, n, s, e, hT, hi, hk⟩ := hp.2.2.2
    have hi : i = (s : Int) := hi
    subst hi
    clear hp
    have hT : T.At (dec a) n s e := hT
    have hle := hT.le
    have hsz := T.size_leaves
    have hs : s < (dec a).length := by omega
    simp only [t_rlookedR, s_rshadow, s_rlookedK, TX.sat, XB.prop, X.den, List.map_cons, List.map_nil, List.getElem?_cons_zero, List.getElem?_cons_succ, List.cons_append, List.nil_append, List.getD_cons_zero, List.getD_cons_succ, mkS, mkP, and_true, true_and, Int.not_lt, Int.not_le, not_or, not_and, Classical.not_not, ne_eq, not_true_eq_false, not_false_eq_true, sem_rshadow, sem_shadow, sem_rlooked, ex7, L2.den, List.drop_succ_cons, List.drop_zero]
    have hco : ∀ j, (dec ((dec a).getD s 0)).getD j 0 = co ((dec a).getD s 0) j := fun _ => rfl
    simp only [Int.toNat_natCast, hco, show Int.toNat 0 = 0 from rfl, show Int.toNat 1 = 1 from rfl, show Int.toNat 2 = 2 from rfl, show Int.toNat 3 = 3 from rfl, show Int.toNat 4 = 4 from rfl, show Int.toNat 5 = 5 from rfl, show Int.toNat 6 = 6 from rfl, show Int.toNat 7 = 7 from rfl]
    have hz := range_vs (hel _ (mem_at hs))
    have z0 : ivHas zz (co ((dec a).getD s 0) 0) := hz.2 0
    have z1 : ivHas zz (co ((dec a).getD s 0) 1) := hz.2 1
    have z2 : ivHas zz (co ((dec a).getD s 0) 2) := hz.2 2
    have z3 : ivHas zz (co ((dec a).getD s 0) 3) := hz.2 3
    have z4 : ivHas zz (co ((dec a).getD s 0) 4) := hz.2 4
    have z5 : ivHas zz (co ((dec a).getD s 0) 5) := hz.2 5
    have hsub : ∀ (S : BT) (m f : Nat), S.At (dec a) n m f → S.size ≤ k → pre_rlookedK k [a, (m : Int), c0, c1, c2, c3, c4, c5, c6, c7, c8, c9, c10, c11, c12, c13, c14, c15, w0, w1, w2, w3] := fun S m f h1 h2 => by
      have h3 := h1.le
      have h4 := S.size_leaves
      exact ⟨vsOK_cons trivial (vsOK_cons ⟨by show (0:Int) ≤ _; omega, by show _ ≤ (1000:Int); omega⟩ (vsOK_cons (hv.2 2) (vsOK_cons (hv.2 3) (vsOK_cons (hv.2 4) (vsOK_cons (hv.2 5) (vsOK_cons (hv.2 6) (vsOK_cons (hv.2 7) (vsOK_cons (hv.2 8) (vsOK_cons (hv.2 9) (vsOK_cons (hv.2 10) (vsOK_cons (hv.2 11) (vsOK_cons (hv.2 12) (vsOK_cons (hv.2 13) (vsOK_cons (hv.2 14) (vsOK_cons (hv.2 15) (vsOK_cons (hv.2 16) (vsOK_cons (hv.2 17) (vsOK_cons (hv.2 18) (vsOK_cons (hv.2 19) (vsOK_cons (hv.2 20) (vsOK_cons (hv.2 21) vsOK_nil))))))))))))))))))))), hl, hel, S, n, m, f, h1, rfl, h2⟩
    have hvs : vsOK pin_shadow [c0, c1, c2, c3, c4, c5, c6, c7, c8, c9, c10, c11, c12, c13, c14, c15, co ((dec a).getD s 0) 0, co ((dec a).getD s 0) 1, co ((dec a).getD s 0) 2, co ((dec a).getD s 0) 3, co ((dec a).getD s 0) 4, co ((dec a).getD s 0) 5, w0, w1, w2, w3] := vsOK_cons (hv.2 2) (vsOK_cons (hv.2 3) (vsOK_cons (hv.2 4) (vsOK_cons (hv.2 5) (vsOK_cons (hv.2 6) (vsOK_cons (hv.2 7) (vsOK_cons (hv.2 8) (vsOK_cons (hv.2 9) (vsOK_cons (hv.2 10) (vsOK_cons (hv.2 11) (vsOK_cons (hv.2 12) (vsOK_cons (hv.2 13) (vsOK_cons (hv.2 14) (vsOK_cons (hv.2 15) (vsOK_cons (hv.2 16) (vsOK_cons (hv.2 17) (vsOK_cons z0 (vsOK_cons z1 (vsOK_cons z2 (vsOK_cons z3 (vsOK_cons z4 (vsOK_cons z5 (vsOK_cons (hv.2 18) (vsOK_cons (hv.2 19) (vsOK_cons (hv.2 20) (vsOK_cons (hv.2 21) vsOK_nil)))))))))))))))))))))))))
    have hsh : ∀ b' : Int, shadowL [c0, c1, c2, c3, c4, c5, c6, c7, c8, c9, c10, c11, c12, c13, c14, c15, co b' 0, co b' 1, co b' 2, co b' 3, co b' 4, co b' 5, w0, w1, w2, w3] = shade b' [c0, c1, c2, c3, c4, c5, c6, c7, c8, c9, c10, c11, c12, c13, c14, c15, w0, w1, w2, w3] := fun _ => rfl
    rw [hsh]
    rw [hT.cnt' (x := [c0, c1, c2, c3, c4, c5, c6, c7, c8, c9, c10, c11, c12, c13, c14, c15, w0, w1, w2, w3]) (dec a).length (by omega)]
    have hshow : showsI ((dec a).getD s 0) [c0, c1, c2, c3, c4, c5, c6, c7, c8, c9, c10, c11, c12, c13, c14, c15, w0, w1, w2, w3] = true ↔ (shade ((dec a).getD s 0) [c0, c1, c2, c3, c4, c5, c6, c7, c8, c9, c10, c11, c12, c13, c14, c15, w0, w1, w2, w3]).getD 5 0 ≠ 0 := by simp only [showsI, decide_eq_true_eq]
    refine ⟨by omega, hvs, fun h1 => ?_, fun h1 => ?_⟩
    · cases T with
      | leaf j => rfl
      | node j A B =>
        obtain ⟨rfl, q1, m, q2, q3, q4, q5, q6⟩ := hT
        simp only [lkCnt]
        rw [if_neg (fun h => by rw [hshow] at h; omega)]
    · cases T with
      | leaf j =>
        obtain ⟨rfl, q1, q2, q3, q4⟩ := hT
        omega
      | node j A B =>
        obtain ⟨rfl, q1, m, q2, q3, q4, q5, q6⟩ := hT
        have r2 := q2.le
        have r3 := q3.le
        simp only [BT.size] at hk
        rw [q4, q5]
        have hA := hsub A (s + 1) m q2 (by omega)
        have hB := hsub B m e q3 (by omega)
        rw [show ((s + 1 : Nat) : Int) = (s : Int) + 1 by omega] at hA
        refine ⟨hA, hB, ?_⟩
        rw [show ((s : Int) + 1).toNat = s + 1 by omega, Int.toNat_natCast, q2.cnt' (dec a).length (by omega), q3.cnt' (dec a).length (by omega)]
        simp only [lkCnt]
        rw [if_pos (hshow.2 (by omega)), Int.add_assoc])
theorem ok_rlooked : s_rlooked.ok Tryz.prog := ⟨(rlookedK_ok 0).1, fun xs vs w hgl hx hp => hp.elim fun k hk => (rlookedK_ok k).2 xs vs w hgl hx hk⟩
theorem inf_rlooked : InfOK s_rlooked i_rlooked := ⟨fun xs h => (small_not xs h).elim, fun vs xs h hp => hp.elim fun k hp => vsOK_cons (below_iv hp.2.1 hp.2.2.2) vsOK_nil⟩

noncomputable def G_rseen : List Sum := [s_rquery, s_rlooked]
def I_rseen : List Inf := [i_rquery, i_rlooked]
def t_rseen : TX := (.call 0 [(.v 0), (.v 1), (.v 2), (.v 3), (.v 4), (.v 5), (.v 6), (.v 7), (.v 8), (.v 9), (.v 10), (.v 11), (.v 12), (.v 13), (.v 14), (.v 15), (.v 16), (.v 17), (.v 18), (.v 19), (.v 20), (.v 21)] (.ite (.or (.not (.eq (.v 23) (.c 0))) (.eq (.ln (.v 0)) (.c 0))) (.ret [(.c 0), (.v 23)])
(.call 1 [(.v 0), (.c 0), (.v 2), (.v 3), (.v 4), (.v 5), (.v 6), (.v 7), (.v 8), (.v 9), (.v 10), (.v 11), (.v 12), (.v 13), (.v 14), (.v 15), (.v 16), (.v 17), (.v 18), (.v 19), (.v 20), (.v 21)] (.ret [(.v 24), (.c 0)]))))
theorem tree_rseen : merge (optFL [] I_rseen [] pin_rseen (symFnL Tryz.prog noLp gl0 G_rseen 1000 24 [Tr, Bs, An 16, An 4] [I1, I1])) = t_rseen := by kernel_rfl
theorem g_rseen : Gok Tryz.prog G_rseen := (more ok_rquery (fix.one ok_rlooked))
theorem o_rseen : outsOK G_rseen I_rseen := (outsOK_cons inf_rquery (outsOK_cons inf_rlooked outsOK_nil))
theorem ok_rseen : s_rseen.ok Tryz.prog := Sum.okPF (pin := pin_rseen) facts.mixed g_rseen o_rseen tree_rseen rfl (fun _ => rfl) (fun xs h => h.1) (by
  intro xs hx hp
  obtain ⟨a, b, c0, c1, c2, c3, c4, c5, c6, c7, c8, c9, c10, c11, c12, c13, c14, c15, w0, w1, w2, w3, rfl⟩ := len22x hx
  have hq : pre_rquery [a, b, c0, c1, c2, c3, c4, c5, c6, c7, c8, c9, c10, c11, c12, c13, c14, c15, w0, w1, w2, w3] := hp
  have hv := hp.1
  have hlt : (dec a).length ≤ 1000 := hp.2.1.1
  have hel : ∀ b ∈ dec a, rangeOK Br_ks (dec b) := hp.2.2.1
  clear hp
  simp only [t_rseen, G_rseen, s_rquery, s_rlooked, TX.sat, XB.prop, X.den, List.map_cons, List.map_nil, List.getElem?_cons_zero, List.getElem?_cons_succ, List.cons_append, List.nil_append, List.getD_cons_zero, List.getD_cons_succ, mkS, mkP, and_true, true_and, Int.not_lt, Int.not_le, not_or, not_and, Classical.not_not, ne_eq, not_true_eq_false, not_false_eq_true, sem_rquery, sem_query, sem_rlooked, sem_rseen, sem_fseen, sem_look_eq, List.drop_succ_cons, List.drop_zero]
  refine ⟨hq, ?_⟩
  have hk : ∀ k, below (dec a) 0 k → pre_rlookedA [a, 0, c0, c1, c2, c3, c4, c5, c6, c7, c8, c9, c10, c11, c12, c13, c14, c15, w0, w1, w2, w3] := fun k h => ⟨k, vsOK_cons trivial (vsOK_cons ⟨by show (0:Int) ≤ 0; decide, by show (0:Int) ≤ (1000:Int); decide⟩ (vsOK_cons (hv.2 2) (vsOK_cons (hv.2 3) (vsOK_cons (hv.2 4) (vsOK_cons (hv.2 5) (vsOK_cons (hv.2 6) (vsOK_cons (hv.2 7) (vsOK_cons (hv.2 8) (vsOK_cons (hv.2 9) (vsOK_cons (hv.2 10) (vsOK_cons (hv.2 11) (vsOK_cons (hv.2 12) (vsOK_cons (hv.2 13) (vsOK_cons (hv.2 14) (vsOK_cons (hv.2 15) (vsOK_cons (hv.2 16) (vsOK_cons (hv.2 17) (vsOK_cons (hv.2 18) (vsOK_cons (hv.2 19) (vsOK_cons (hv.2 20) (vsOK_cons (hv.2 21) vsOK_nil))))))))))))))))))))), hlt, hel, h⟩
  clear hq hv hel
  generalize dec a = t at hlt hk ⊢
  generalize hl : dec b = l
  generalize hX : [c0, c1, c2, c3, c4, c5, c6, c7, c8, c9, c10, c11, c12, c13, c14, c15, w0, w1, w2, w3] = Ys at hk ⊢
  have hL : lookL t l Ys = if lookE t l Ys = 0 then [cod (foundU l Ys l.length), seenN t Ys, 0] else [cod [], 0, lookE t l Ys] := rfl
  rw [hL]
  by_cases hE : lookE t l Ys = 0
  · rw [if_pos hE]
    simp only [TX.sat, XB.prop, X.den, List.map_cons, List.map_nil, List.getElem?_cons_zero, List.getElem?_cons_succ, List.cons_append, List.nil_append, List.getD_cons_zero, List.getD_cons_succ, mkS, mkP, and_true, true_and, Int.not_lt, Int.not_le, not_or, not_and, Classical.not_not, ne_eq, not_true_eq_false, not_false_eq_true]
    have hS : seenN t Ys = if t.length = 0 then 0 else lkN t Ys t.length 0 := rfl
    have hC : chkE t l = 0 := by
      unfold lookE at hE
      split at hE
      · assumption
      · exact hE
    have hsh := (chk_spec hC).2.1
    have hlen := shaped_len hsh
    refine ⟨fun h => ?_, fun h => ?_⟩
    · have : t.length = 0 := by simpa using h
      rw [hS, if_pos this]
    · have hpos : ¬ t.length = 0 := by simpa using h
      obtain ⟨T, h1, _⟩ := shaped_tree hsh (by omega)
      refine ⟨hk T.size ⟨T, _, 0, _, h1, rfl, Nat.le_refl _⟩, ?_⟩
      rw [hS, if_neg (by omega)]
      rfl
  · rw [if_neg hE]
    simp only [TX.sat, XB.prop, X.den, List.map_cons, List.map_nil, List.getElem?_cons_zero, List.getElem?_cons_succ, List.cons_append, List.nil_append, List.getD_cons_zero, List.getD_cons_succ, mkS, mkP, and_true, true_and, Int.not_lt, Int.not_le, not_or, not_and, Classical.not_not, ne_eq, not_true_eq_false, not_false_eq_true]
    exact ⟨fun _ => trivial, fun h => absurd h.1 hE⟩)
theorem inf_rseen : InfOK s_rseen i_rseen := inf_fseen
#print axioms ok_rseen
end Go.Proofs.YtgcoidbaoigkeaaGreatDoor.fix
