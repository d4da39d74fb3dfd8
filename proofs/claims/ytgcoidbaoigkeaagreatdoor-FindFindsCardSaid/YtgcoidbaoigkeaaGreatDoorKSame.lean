/-
  What the document's functions for trees come to: same, checked, leaves, twin.
-/
import Derived.Test.YtgcoidbaoigkeaaGreatDoorKRefit
set_option linter.unusedVariables false
set_option linter.unusedSimpArgs false
namespace Go.Proofs.YtgcoidbaoigkeaaGreatDoor.fix
open Go.RowKit Go.Sx

theorem len1a {xs : List Int} (h : xs.length = 1) : ∃ a, xs = [a] := by
  match xs, h with
  | [a], _ => exact ⟨a, rfl⟩

noncomputable def G_rsame16 : List Sum := []
def I_rsame16 : List Inf := []
def t_rsame16 : TX := (.ite (.not (.eq (.ln (.v 0)) (.ln (.v 1)))) (.ret [(.c 0)])
(.loop 2 [none, none] [(.c 0), (.c 0)] (.ite (.le (.ln (.v 0)) (.v 3)) (.ret [(.c 1)])
(.asrt (.le (.c 0) (.v 3)) (.asrt (.lt (.v 3) (.ln (.v 1))) (.ite (.or (.or (.or (.not (.eq (.l2 .at (.l2 .at (.v 0) (.v 3)) (.c 0)) (.l2 .at (.l2 .at (.v 1) (.v 3)) (.c 0)))) (.or (.not (.eq (.l2 .at (.l2 .at (.v 0) (.v 3)) (.c 1)) (.l2 .at (.l2 .at (.v 1) (.v 3)) (.c 1)))) (.not (.eq (.l2 .at (.l2 .at (.v 0) (.v 3)) (.c 2)) (.l2 .at (.l2 .at (.v 1) (.v 3)) (.c 2)))))) (.or (.not (.eq (.l2 .at (.l2 .at (.v 0) (.v 3)) (.c 3)) (.l2 .at (.l2 .at (.v 1) (.v 3)) (.c 3)))) (.or (.not (.eq (.l2 .at (.l2 .at (.v 0) (.v 3)) (.c 4)) (.l2 .at (.l2 .at (.v 1) (.v 3)) (.c 4)))) (.not (.eq (.l2 .at (.l2 .at (.v 0) (.v 3)) (.c 5)) (.l2 .at (.l2 .at (.v 1) (.v 3)) (.c 5))))))) (.or (.not (.eq (.l2 .at (.l2 .at (.v 0) (.v 3)) (.c 6)) (.l2 .at (.l2 .at (.v 1) (.v 3)) (.c 6)))) (.or (.not (.eq (.l2 .at (.l2 .at (.v 0) (.v 3)) (.c 7)) (.l2 .at (.l2 .at (.v 1) (.v 3)) (.c 7)))) (.not (.eq (.l2 .at (.l2 .at (.v 0) (.v 3)) (.c 8)) (.l2 .at (.l2 .at (.v 1) (.v 3)) (.c 8))))))) (.ret [(.c 0)])
(.back 0 [(.v 2), (.wr .i64 (.add (.v 3) (.c 1)))])))))))
theorem tree_rsame16 : merge (optFL [] I_rsame16 [] pin_rsame16 (symFnL Tryz.prog (openAt Tryz.prog [(4, 13)]) gl0 G_rsame16 1000 26 [Tr, Tr] [Bo])) = t_rsame16 := by kernel_rfl
theorem g_rsame16 : Gok Tryz.prog G_rsame16 := noG
theorem o_rsame16 : outsOK G_rsame16 I_rsame16 := outsOK_nil
theorem ok_rsame16 : s_rsame16.ok Tryz.prog := Sum.okPF (pin := pin_rsame16) facts.mixed g_rsame16 o_rsame16 tree_rsame16 rfl (fun _ => rfl) (fun xs h => h.1) (by
  intro xs hx hp
  obtain ⟨a, b, rfl⟩ := len2 hx
  have hlen : (dec a).length ≤ 1000000 := hp.2
  clear hp
  simp only [t_rsame16, G_rsame16, TX.sat, XB.prop, X.den, List.map_cons, List.map_nil, List.getElem?_cons_zero, List.getElem?_cons_succ, List.cons_append, List.nil_append, List.getD_cons_zero, List.getD_cons_succ, mkS, mkP, and_true, true_and, Int.not_lt, Int.not_le, not_or, not_and, Classical.not_not, ne_eq, not_true_eq_false, not_false_eq_true, sem_rsame16, L2.den]
  generalize dec a = R at hlen ⊢
  generalize dec b = t
  refine ⟨fun hne => ?_, fun heq => ?_⟩
  · have : sameB R t = false := by
      cases h : sameB R t with
      | false => rfl
      | true => exact absurd (by rw [(sameB_spec h).1]) hne
    rw [this]
    rfl
  have hRl : R.length = t.length := by omega
  refine ⟨fun xs => ∃ i : Nat, xs.getD 1 0 = (i : Int) ∧ i ≤ t.length ∧ ∀ j, j < i → nine (R.getD j 0) = nine (t.getD j 0), fun xs => t.length - (xs.getD 1 0).toNat, fun xs hx _ => vs_none (n := 2) hx, ⟨0, rfl, by omega, fun j hj => by omega⟩, ?_⟩
  intro xs hx hI
  obtain ⟨d0, d1, rfl⟩ := len2 hx
  obtain ⟨i, hi, hle, hall⟩ := hI
  simp only [List.getD_cons_zero, List.getD_cons_succ, List.cons_append, List.nil_append] at hi ⊢
  subst hi
  have hco : ∀ x j, (dec x).getD j 0 = co x j := fun _ _ => rfl
  simp only [hco, Int.toNat_natCast, show Int.toNat 0 = 0 from rfl, show Int.toNat 1 = 1 from rfl, show Int.toNat 2 = 2 from rfl, show Int.toNat 3 = 3 from rfl, show Int.toNat 4 = 4 from rfl, show Int.toNat 5 = 5 from rfl, show Int.toNat 6 = 6 from rfl, show Int.toNat 7 = 7 from rfl, show Int.toNat 8 = 8 from rfl]
  refine ⟨fun hge => ?_, fun hlt => ?_⟩
  · rw [sameB_yes hRl fun j hj => hall j (by omega)]
    rfl
  · have hil : i < R.length := by omega
    refine ⟨by omega, by omega, fun hne => ?_, fun heq => ?_⟩
    · rw [sameB_no hil (fun h => by rw [nine_iff] at h; omega)]
      rfl
    · have hw : IntKind.i64.wrap ((i : Int) + 1) = ((i + 1 : Nat) : Int) := by rw [wrap64 (by omega) (by omega)]; omega
      rw [hw]
      refine ⟨⟨i + 1, rfl, by omega, fun j hj => ?_⟩, by rw [Int.toNat_natCast]; omega⟩
      rcases Nat.lt_or_ge j i with h1 | h1
      · exact hall j h1
      · have : j = i := by omega
        subst this
        rw [nine_iff]
        omega)
theorem inf_rsame16 : InfOK s_rsame16 i_rsame16 := ⟨fun xs h => (small_not xs h).elim, fun vs xs h hp => vsOK_cons (b01_iv _) vsOK_nil⟩

noncomputable def G_rcheck : List Sum := [s_rrefit, s_rsame16]
def I_rcheck : List Inf := [i_rrefit, i_rsame16]
def t_rcheck : TX := (.call 0 [(.v 0), (.v 1)] (.ite (.not (.eq (.v 3) (.c 0))) (.ret [(.v 3)])
(.call 1 [(.v 2), (.v 0)] (.ite (.eq (.v 4) (.c 0)) (.ret [(.c 8)])
(.ret [(.c 0)])))))
theorem tree_rcheck : merge (optFL [] I_rcheck [] pin_rcheck (symFnL Tryz.prog noLp gl0 G_rcheck 1000 46 [Tr, Bs] [I1])) = t_rcheck := by kernel_rfl
theorem g_rcheck : Gok Tryz.prog G_rcheck := (more ok_rrefit (fix.one ok_rsame16))
theorem o_rcheck : outsOK G_rcheck I_rcheck := (outsOK_cons inf_rrefit (outsOK_cons inf_rsame16 outsOK_nil))
theorem ok_rcheck : s_rcheck.ok Tryz.prog := Sum.okPF (pin := pin_rcheck) facts.mixed g_rcheck o_rcheck tree_rcheck rfl (fun _ => rfl) (fun xs h => h.1) (by
  intro xs hx hp
  obtain ⟨a, b, rfl⟩ := len2 hx
  have hpre : pre_rrefit [a, b] := hp
  have hlen := hp.2.1
  clear hp
  simp only [List.getD_cons_zero, List.getD_cons_succ] at hlen
  simp only [t_rcheck, G_rcheck, s_rrefit, s_rsame16, TX.sat, XB.prop, X.den, List.map_cons, List.map_nil, List.getElem?_cons_zero, List.getElem?_cons_succ, List.cons_append, List.nil_append, List.getD_cons_zero, List.getD_cons_succ, mkS, mkP, and_true, true_and, Int.not_lt, Int.not_le, not_or, not_and, Classical.not_not, ne_eq, not_true_eq_false, not_false_eq_true, sem_rrefit, sem_rsame16, sem_rcheck, sem_tcheck, L2.den]
  refine ⟨hpre, ?_⟩
  clear hpre
  generalize hta : dec a = t at hlen ⊢
  generalize dec b = l at hlen ⊢
  refine ⟨fun hE => ?_, fun hE => ?_⟩
  · have : chkE t l = refitE t l := by unfold chkE; rw [if_neg hE]
    rw [this]
  have hE' : refitE t l = 0 := by omega
  rw [if_pos hE']
  have hC : chkE t l = if sameB (refitL l t) t = true then 0 else 8 := by unfold chkE; rw [if_pos hE']
  have hRl : (refitL l t).length = t.length := rf_len l t t.length
  have hd : dec (if t.length = 0 then a else cod (refitL l t)) = refitL l t := by
    split
    · rename_i h0
      have h1 := List.eq_nil_of_length_eq_zero (hRl.trans h0)
      rw [hta, h1]
      exact List.eq_nil_of_length_eq_zero h0
    · exact dec_cod _
  refine ⟨⟨vs_none (n := 2) rfl, by show (dec (if t.length = 0 then a else cod (refitL l t))).length ≤ 1000000; rw [hd, hRl]; omega⟩, ?_⟩
  rw [hd, hC]
  cases sameB (refitL l t) t with
  | true => exact ⟨fun h => absurd h (by decide), fun _ => rfl⟩
  | false => exact ⟨fun _ => rfl, fun h => absurd rfl h⟩)
theorem inf_rcheck : InfOK s_rcheck i_rcheck := ⟨fun xs h => (small_not xs h).elim, fun vs xs h hp => vsOK_cons (chkE_iv _ _) vsOK_nil⟩

/-! ### leaves -/
theorem lvs_len (l : List Int) : ∀ i, (lvs l i).length ≤ i
  | 0 => Nat.le_refl _
  | i + 1 => by
    have := lvs_len l i
    unfold lvs
    split
    · rw [List.length_append]; simp only [List.length_cons, List.length_nil]; omega
    · omega
theorem leavesE_iv (l : List Int) : 0 ≤ leavesE l ∧ leavesE l ≤ 8 := by
  unfold leavesE
  split
  · split <;> decide
  · decide

noncomputable def G_twin : List Sum := []
def I_twin : List Inf := []
def t_twin : TX := (.asrt (.le (.ln (.v 0)) (.c 1000000)) (.ret [(.v 0)]))
theorem tree_twin : merge (optFL [] I_twin [] pin_twin (symFnL Tryz.prog noLp gl0 G_twin 1000 20 [Tr] [Tr])) = t_twin := by kernel_rfl
theorem g_twin : Gok Tryz.prog G_twin := noG
theorem o_twin : outsOK G_twin I_twin := outsOK_nil
theorem ok_twin : s_twin.ok Tryz.prog := Sum.okPF (pin := pin_twin) facts.mixed g_twin o_twin tree_twin rfl (fun _ => rfl) (fun xs h => h.1) (by
  intro xs hx hp
  obtain ⟨a, rfl⟩ := len1a hx
  have hlen : (dec a).length ≤ 1000000 := hp.2
  clear hp
  simp only [t_twin, G_twin, TX.sat, XB.prop, X.den, List.map_cons, List.map_nil, List.getElem?_cons_zero, List.getElem?_cons_succ, List.cons_append, List.nil_append, List.getD_cons_zero, List.getD_cons_succ, mkS, mkP, and_true, true_and, Int.not_lt, Int.not_le, not_or, not_and, Classical.not_not, ne_eq, not_true_eq_false, not_false_eq_true, sem_twin, L2.den]
  omega)
theorem inf_twin : InfOK s_twin i_twin := ⟨fun xs h => (small_not xs h).elim, fun vs xs h hp => vsOK_cons trivial vsOK_nil⟩
#print axioms ok_twin
end Go.Proofs.YtgcoidbaoigkeaaGreatDoor.fix
