/-
  The document's clipping, and what is asked of lists of triangles.
-/
import Derived.Test.YtjbkcjbjllmhfaaZClipL
set_option linter.unusedVariables false
set_option linter.unusedSimpArgs false
namespace Go.Proofs.Ytjbkcjbjllmhfaa.fix
open Go.RowKit Go.Sx

/-- What the document's cut wants. -/
theorem pre_c {n a0 a1 a2 a3 a4 b0 b1 b2 b3 b4 : Int} (hn : ivHas (iv 256 4096) n) (ha : vsOK pin_pt [a0, a1, a2, a3, a4]) (hb : vsOK pin_pt [b0, b1, b2, b3, b4]) (h1 : a2 < n) (h2 : n ≤ b2) : pre_rcut0 [n, a0, a1, a2, a3, a4, b0, b1, b2, b3, b4] := by
  refine ⟨vsOK_cons hn (vsOK_cons (ha.2 0) (vsOK_cons (ha.2 1) (vsOK_cons (ha.2 2) (vsOK_cons (ha.2 3) (vsOK_cons (ha.2 4) (vsOK_cons (hb.2 0) (vsOK_cons (hb.2 1) (vsOK_cons (hb.2 2) (vsOK_cons (hb.2 3) (vsOK_cons (hb.2 4) vsOK_nil)))))))))), ?_⟩
  simp only [behindB, decide_eq_true_eq, List.getD_cons_zero, List.getD_cons_succ]
  exact ⟨h1, h2⟩

theorem ok_rleft : s_rleft.ok Try.prog := Sum.okF facts.mixed g_rleft o_rleft tree_rleft rfl (fun _ => rfl) (by
  intro xs hx hp
  obtain ⟨n, a0, a1, a2, a3, a4, b0, b1, b2, b3, b4, c0, c1, c2, c3, c4, rfl⟩ := len16' hx
  have hn : ivHas (iv 256 4096) n := hp.2 0
  have ha : vsOK pin_pt [a0, a1, a2, a3, a4] := vsOK_cons (hp.2 1) (vsOK_cons (hp.2 2) (vsOK_cons (hp.2 3) (vsOK_cons (hp.2 4) (vsOK_cons (hp.2 5) vsOK_nil))))
  have hb : vsOK pin_pt [b0, b1, b2, b3, b4] := vsOK_cons (hp.2 6) (vsOK_cons (hp.2 7) (vsOK_cons (hp.2 8) (vsOK_cons (hp.2 9) (vsOK_cons (hp.2 10) vsOK_nil))))
  have hc : vsOK pin_pt [c0, c1, c2, c3, c4] := vsOK_cons (hp.2 11) (vsOK_cons (hp.2 12) (vsOK_cons (hp.2 13) (vsOK_cons (hp.2 14) (vsOK_cons (hp.2 15) vsOK_nil))))
  have kab := pre_c hn ha hb
  have kac := pre_c hn ha hc
  have kba := pre_c hn hb ha
  have kbc := pre_c hn hb hc
  have kca := pre_c hn hc ha
  have kcb := pre_c hn hc hb
  simp only [t_rleft, G_rleft, s_rcut0, TX.sat, XB.prop, X.den, List.map_cons, List.map_nil, List.getElem?_cons_zero, List.getElem?_cons_succ, List.cons_append, List.nil_append, List.getD_cons_zero, List.getD_cons_succ, mkS, mkP, and_true, true_and, Int.not_lt, Int.not_le, not_or, not_and, Classical.not_not, ne_eq, not_true_eq_false, not_false_eq_true, sem_rleft, sem_rcut0, L2.den]
  clear ha hb hc hp
  unfold leftC polyC sideC
  by_cases g0 : n ≤ a2 <;> by_cases g1 : n ≤ b2 <;> by_cases g2 : n ≤ c2
  · simp only [g0, g1, g2, Int.not_lt.2 g0, Int.not_lt.2 g1, Int.not_lt.2 g2, inC, cornL, fanC, cut5, TX.sat, XB.prop, X.den, List.map_cons, List.map_nil, List.getElem?_cons_zero, List.getElem?_cons_succ, List.cons_append, List.nil_append, List.getD_cons_zero, List.getD_cons_succ, mkS, mkP, and_true, true_and, Int.not_lt, Int.not_le, not_or, not_and, Classical.not_not, ne_eq, not_true_eq_false, not_false_eq_true, Nat.reduceMul, Nat.reduceAdd, decide_true, decide_false, if_true, if_false, reduceIte, Bool.false_eq_true, List.map_cons, List.map_nil, List.append_nil, dec_cod, dec_nil, true_implies, false_implies, forall_const, not_true_eq_false, not_false_eq_true, implies_true, iff_false, iff_true]
  · have g2' := Int.not_le.1 g2
    simp only [kca g2' g0, kcb g2' g1, g0, g1, g2, Int.not_lt.2 g0, Int.not_lt.2 g1, g2', inC, cornL, fanC, cut5, TX.sat, XB.prop, X.den, List.map_cons, List.map_nil, List.getElem?_cons_zero, List.getElem?_cons_succ, List.cons_append, List.nil_append, List.getD_cons_zero, List.getD_cons_succ, mkS, mkP, and_true, true_and, Int.not_lt, Int.not_le, not_or, not_and, Classical.not_not, ne_eq, not_true_eq_false, not_false_eq_true, Nat.reduceMul, Nat.reduceAdd, decide_true, decide_false, if_true, if_false, reduceIte, Bool.false_eq_true, List.map_cons, List.map_nil, List.append_nil, dec_cod, dec_nil, true_implies, false_implies, forall_const, not_true_eq_false, not_false_eq_true, implies_true, iff_false, iff_true]
  · have g1' := Int.not_le.1 g1
    simp only [kba g1' g0, kbc g1' g2, g0, g1, g2, Int.not_lt.2 g0, g1', Int.not_lt.2 g2, inC, cornL, fanC, cut5, TX.sat, XB.prop, X.den, List.map_cons, List.map_nil, List.getElem?_cons_zero, List.getElem?_cons_succ, List.cons_append, List.nil_append, List.getD_cons_zero, List.getD_cons_succ, mkS, mkP, and_true, true_and, Int.not_lt, Int.not_le, not_or, not_and, Classical.not_not, ne_eq, not_true_eq_false, not_false_eq_true, Nat.reduceMul, Nat.reduceAdd, decide_true, decide_false, if_true, if_false, reduceIte, Bool.false_eq_true, List.map_cons, List.map_nil, List.append_nil, dec_cod, dec_nil, true_implies, false_implies, forall_const, not_true_eq_false, not_false_eq_true, implies_true, iff_false, iff_true]
  · have g1' := Int.not_le.1 g1
    have g2' := Int.not_le.1 g2
    simp only [kba g1' g0, kca g2' g0, g0, g1, g2, Int.not_lt.2 g0, g1', g2', inC, cornL, fanC, cut5, TX.sat, XB.prop, X.den, List.map_cons, List.map_nil, List.getElem?_cons_zero, List.getElem?_cons_succ, List.cons_append, List.nil_append, List.getD_cons_zero, List.getD_cons_succ, mkS, mkP, and_true, true_and, Int.not_lt, Int.not_le, not_or, not_and, Classical.not_not, ne_eq, not_true_eq_false, not_false_eq_true, Nat.reduceMul, Nat.reduceAdd, decide_true, decide_false, if_true, if_false, reduceIte, Bool.false_eq_true, List.map_cons, List.map_nil, List.append_nil, dec_cod, dec_nil, true_implies, false_implies, forall_const, not_true_eq_false, not_false_eq_true, implies_true, iff_false, iff_true]
  · have g0' := Int.not_le.1 g0
    simp only [kab g0' g1, kac g0' g2, g0, g1, g2, g0', Int.not_lt.2 g1, Int.not_lt.2 g2, inC, cornL, fanC, cut5, TX.sat, XB.prop, X.den, List.map_cons, List.map_nil, List.getElem?_cons_zero, List.getElem?_cons_succ, List.cons_append, List.nil_append, List.getD_cons_zero, List.getD_cons_succ, mkS, mkP, and_true, true_and, Int.not_lt, Int.not_le, not_or, not_and, Classical.not_not, ne_eq, not_true_eq_false, not_false_eq_true, Nat.reduceMul, Nat.reduceAdd, decide_true, decide_false, if_true, if_false, reduceIte, Bool.false_eq_true, List.map_cons, List.map_nil, List.append_nil, dec_cod, dec_nil, true_implies, false_implies, forall_const, not_true_eq_false, not_false_eq_true, implies_true, iff_false, iff_true]
  · have g0' := Int.not_le.1 g0
    have g2' := Int.not_le.1 g2
    simp only [kab g0' g1, kcb g2' g1, g0, g1, g2, g0', Int.not_lt.2 g1, g2', inC, cornL, fanC, cut5, TX.sat, XB.prop, X.den, List.map_cons, List.map_nil, List.getElem?_cons_zero, List.getElem?_cons_succ, List.cons_append, List.nil_append, List.getD_cons_zero, List.getD_cons_succ, mkS, mkP, and_true, true_and, Int.not_lt, Int.not_le, not_or, not_and, Classical.not_not, ne_eq, not_true_eq_false, not_false_eq_true, Nat.reduceMul, Nat.reduceAdd, decide_true, decide_false, if_true, if_false, reduceIte, Bool.false_eq_true, List.map_cons, List.map_nil, List.append_nil, dec_cod, dec_nil, true_implies, false_implies, forall_const, not_true_eq_false, not_false_eq_true, implies_true, iff_false, iff_true]
  · have g0' := Int.not_le.1 g0
    have g1' := Int.not_le.1 g1
    simp only [kac g0' g2, kbc g1' g2, g0, g1, g2, g0', g1', Int.not_lt.2 g2, inC, cornL, fanC, cut5, TX.sat, XB.prop, X.den, List.map_cons, List.map_nil, List.getElem?_cons_zero, List.getElem?_cons_succ, List.cons_append, List.nil_append, List.getD_cons_zero, List.getD_cons_succ, mkS, mkP, and_true, true_and, Int.not_lt, Int.not_le, not_or, not_and, Classical.not_not, ne_eq, not_true_eq_false, not_false_eq_true, Nat.reduceMul, Nat.reduceAdd, decide_true, decide_false, if_true, if_false, reduceIte, Bool.false_eq_true, List.map_cons, List.map_nil, List.append_nil, dec_cod, dec_nil, true_implies, false_implies, forall_const, not_true_eq_false, not_false_eq_true, implies_true, iff_false, iff_true]
  · have g0' := Int.not_le.1 g0
    have g1' := Int.not_le.1 g1
    have g2' := Int.not_le.1 g2
    simp only [g0, g1, g2, g0', g1', g2', inC, cornL, fanC, cut5, TX.sat, XB.prop, X.den, List.map_cons, List.map_nil, List.getElem?_cons_zero, List.getElem?_cons_succ, List.cons_append, List.nil_append, List.getD_cons_zero, List.getD_cons_succ, mkS, mkP, and_true, true_and, Int.not_lt, Int.not_le, not_or, not_and, Classical.not_not, ne_eq, not_true_eq_false, not_false_eq_true, Nat.reduceMul, Nat.reduceAdd, decide_true, decide_false, if_true, if_false, reduceIte, Bool.false_eq_true, List.map_cons, List.map_nil, List.append_nil, dec_cod, dec_nil, true_implies, false_implies, forall_const, not_true_eq_false, not_false_eq_true, implies_true, iff_false, iff_true])
theorem inf_rleft : InfOK s_rleft i_rleft := ⟨fun xs h => h, fun vs xs h hp => vsOK_cons trivial vsOK_nil⟩

theorem near_code (b : Bool) (x : Int) : ivHas (iv 0 8) ((if b = true then [x, 0] else [cod [], 8]).getD 1 0) := by
  cases b
  · exact ⟨by show (0:Int) ≤ 8; decide, by show (8:Int) ≤ 8; decide⟩
  · exact ⟨by show (0:Int) ≤ 0; decide, by show (0:Int) ≤ 8; decide⟩
theorem near_iv (xs : List Int) : vsOK [none, iv 0 8] [(nearL xs).getD 0 0, (nearL xs).getD 1 0] := by
  refine vsOK_cons trivial (vsOK_cons ?_ vsOK_nil)
  unfold nearL
  split
  · exact near_code _ _
  · exact ⟨by show (0:Int) ≤ 2; decide, by show (2:Int) ≤ 8; decide⟩
theorem inf_cnear : InfOK s_cnear i_cnear := ⟨fun xs h => h, fun vs xs h hp => near_iv _⟩
noncomputable def G_rnear : List Sum := [s_rpmay, s_rleft]
def I_rnear : List Inf := [i_rpmay, i_rleft]
def t_rnear : TX := (.ite (.or (.lt (.v 0) (.c 256)) (.lt (.c 4096) (.v 0))) (.ret [.nl, (.c 2)])
(.callp 0 [(.v 1), (.v 2), (.v 3), (.v 4), (.v 5)] (.ite (.eq (.v 16) (.c 0)) (.ret [.nl, (.c 8)])
(.callp 0 [(.v 6), (.v 7), (.v 8), (.v 9), (.v 10)] (.ite (.eq (.v 17) (.c 0)) (.ret [.nl, (.c 8)])
(.callp 0 [(.v 11), (.v 12), (.v 13), (.v 14), (.v 15)] (.ite (.eq (.v 18) (.c 0)) (.ret [.nl, (.c 8)])
(.call 1 [(.v 0), (.v 1), (.v 2), (.v 3), (.v 4), (.v 5), (.v 6), (.v 7), (.v 8), (.v 9), (.v 10), (.v 11), (.v 12), (.v 13), (.v 14), (.v 15)] (.ret [(.v 19), (.c 0)])))))))))
theorem tree_rnear : merge (optFL [] I_rnear [] (zs 16) (symFnL Try.prog noLp gl0 G_rnear 1000 32 [I1, An 15] [Ts, I1])) = t_rnear := by kernel_rfl
theorem g_rnear : Gok Try.prog G_rnear := (more ok_rpmay (one ok_rleft))
theorem o_rnear : outsOK G_rnear I_rnear := (outsOK_cons inf_rpmay (outsOK_cons inf_rleft outsOK_nil))
theorem ptC_vs {a0 a1 a2 a3 a4 : Int} (h : pointB [a0, a1, a2, a3, a4] 0 = true) : vsOK pin_pt [a0, a1, a2, a3, a4] := by
  have := point_in h
  simp only [TX.sat, XB.prop, X.den, List.map_cons, List.map_nil, List.getElem?_cons_zero, List.getElem?_cons_succ, List.cons_append, List.nil_append, List.getD_cons_zero, List.getD_cons_succ, mkS, mkP, and_true, true_and, Int.not_lt, Int.not_le, not_or, not_and, Classical.not_not, ne_eq, not_true_eq_false, not_false_eq_true, Nat.reduceAdd] at this
  exact vsOK_cons this.1 (vsOK_cons this.2.1 (vsOK_cons this.2.2.1 (vsOK_cons this.2.2.2.1 (vsOK_cons this.2.2.2.2 vsOK_nil))))
theorem ok_rnear : s_rnear.ok Try.prog := Sum.okF facts.mixed g_rnear o_rnear tree_rnear rfl (fun _ => rfl) (by
  intro xs hx hp
  obtain ⟨n, a0, a1, a2, a3, a4, b0, b1, b2, b3, b4, c0, c1, c2, c3, c4, rfl⟩ := len16' hx
  simp only [t_rnear, G_rnear, s_rpmay, s_rleft, TX.sat, XB.prop, X.den, List.map_cons, List.map_nil, List.getElem?_cons_zero, List.getElem?_cons_succ, List.cons_append, List.nil_append, List.getD_cons_zero, List.getD_cons_succ, mkS, mkP, and_true, true_and, Int.not_lt, Int.not_le, not_or, not_and, Classical.not_not, ne_eq, not_true_eq_false, not_false_eq_true, sem_rnear, sem_cnear, sem_rpmay, sem_rleft, L2.den]
  have eN : nearB [n, a0, a1, a2, a3, a4, b0, b1, b2, b3, b4, c0, c1, c2, c3, c4] = nearB [n] := rfl
  have eT : nearT [n, a0, a1, a2, a3, a4, b0, b1, b2, b3, b4, c0, c1, c2, c3, c4] = (pointB [a0, a1, a2, a3, a4] 0 && (pointB [b0, b1, b2, b3, b4] 0 && pointB [c0, c1, c2, c3, c4] 0)) := rfl
  have eN' : nearB [n] = true ↔ ¬ (n < 256 ∨ 4096 < n) := by simp only [nearB, decide_eq_true_eq, List.getD_cons_zero]; omega
  unfold nearL
  rw [eN, eT]
  refine ⟨fun h => ?_, fun hn => ?_⟩
  · rw [if_neg (by rw [eN']; exact not_not_intro h)]
    rfl
  have hN : nearB [n] = true := eN'.2 (by omega)
  rw [if_pos hN]
  by_cases ha : pointB [a0, a1, a2, a3, a4] 0 = true
  case neg =>
    have ha' := Bool.eq_false_iff.2 ha
    simp [ha', b01]
  by_cases hb : pointB [b0, b1, b2, b3, b4] 0 = true
  case neg =>
    have hb' := Bool.eq_false_iff.2 hb
    simp [ha, hb', b01]
  by_cases hc : pointB [c0, c1, c2, c3, c4] 0 = true
  case neg =>
    have hc' := Bool.eq_false_iff.2 hc
    simp [ha, hb, hc', b01]
  have pa := ptC_vs ha
  have pb := ptC_vs hb
  have pc := ptC_vs hc
  have hpin : vsOK pin_rleft [n, a0, a1, a2, a3, a4, b0, b1, b2, b3, b4, c0, c1, c2, c3, c4] := vsOK_cons (iv_def.2 (by omega)) (vsOK_cons (pa.2 0) (vsOK_cons (pa.2 1) (vsOK_cons (pa.2 2) (vsOK_cons (pa.2 3) (vsOK_cons (pa.2 4) (vsOK_cons (pb.2 0) (vsOK_cons (pb.2 1) (vsOK_cons (pb.2 2) (vsOK_cons (pb.2 3) (vsOK_cons (pb.2 4) (vsOK_cons (pc.2 0) (vsOK_cons (pc.2 1) (vsOK_cons (pc.2 2) (vsOK_cons (pc.2 3) (vsOK_cons (pc.2 4) vsOK_nil)))))))))))))))
  simp [ha, hb, hc, b01, hpin])
theorem inf_rnear : InfOK s_rnear i_rnear := ⟨fun xs h => h, fun vs xs h hp => near_iv _⟩
end Go.Proofs.Ytjbkcjbjllmhfaa.fix
