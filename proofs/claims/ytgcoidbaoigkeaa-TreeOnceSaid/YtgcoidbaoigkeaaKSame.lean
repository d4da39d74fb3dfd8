/-
  What the document's functions for trees come to: same, checked, leaves, twin.
-/
import Derived.Test.YtgcoidbaoigkeaaKRefit
set_option linter.unusedVariables false
set_option linter.unusedSimpArgs false
namespace Go.Proofs.Ytgcoidbaoigkeaa.fix
open Go.RowKit Go.Sx

theorem len1a {xs : List Int} (h : xs.length = 1) : ∃ a, xs = [a] := by
  match xs, h with
  | [a], _ => exact ⟨a, rfl⟩

noncomputable def G_rsame16 : List Sum := []
def I_rsame16 : List Inf := []
def t_rsame16 : TX := (.ite (.not (.eq (.ln (.v 0)) (.ln (.v 1)))) (.ret [(.c 0)])
(.loop 2 [none, none] [(.c 0), (.c 0)] (.ite (.le (.ln (.v 0)) (.v 3)) (.ret [(.c 1)])
(.asrt (.le (.c 0) (.v 3)) (.asrt (.lt (.v 3) (.ln (.v 1))) (.ite (.or (.or (.or (.not (.eq (.l2 .at (.l2 .at (.v 0) (.v 3)) (.c 0)) (.l2 .at (.l2 .at (.v 1) (.v 3)) (.c 0)))) (.or (.not (.eq (.l2 .at (.l2 .at (.v 0) (.v 3)) (.c 1)) (.l2 .at (.l2 .at (.v 1) (.v 3)) (.c 1)))) (.not (.eq (.l2 .at (.l2 .at (.v 0) (.v 3)) (.c 2)) (.l2 .at (.l2 .at (.v 1) (.v 3)) (.c 2)))))) (.or (.not (.eq (.l2 .at (.l2 .at (.v 0) (.v 3)) (.c 3)) (.l2 .at (.l2 .at (.v 1) (.v 3)) (.c 3)))) (.or (.not (.eq (.l2 .at (.l2 .at (.v 0) (.v 3)) (.c 4)) (.l2 .at (.l2 .at (.v 1) (.v 3)) (.c 4)))) (.not (.eq (.l2 .at (.l2 .at (.v 0) (.v 3)) (.c 5)) (.l2 .at (.l2 .at (.v 1) (.v 3)) (.c 5))))))) (.or (.not (.eq (.l2 .at (.l2 .at (.v 0) (.v 3)) (.c 6)) (.l2 .at (.l2 .at (.v 1) (.v 3)) (.c 6)))) (.or (.not (.eq (.l2 .at (.l2 .at (.v 0) (.v 3)) (.c 7)) (.l2 .at (.l2 .at (.v 1) (.v 3)) (.c 7)))) (.not (.eq (.l2 .at (.l2 .at (.v 0) (.v 3)) (.c 8)) (.l2 .at (.l2 .at (.v 1) (.v 3)) (.c 8))))))) (.ret [(.c 0)])
(.back 0 [(.v 2), (.wr .i64 (.add (.v 3) (.c 1)))])))))))
theorem tree_rsame16 : merge (optFL [] I_rsame16 [] pin_rsame16 (symFnL Try.prog (openAt Try.prog [(4, 13)]) gl0 G_rsame16 1000 19 [Tr, Tr] [Bo])) = t_rsame16 := by kernel_rfl
theorem g_rsame16 : Gok Try.prog G_rsame16 := noG
theorem o_rsame16 : outsOK G_rsame16 I_rsame16 := outsOK_nil
theorem ok_rsame16 : s_rsame16.ok Try.prog := Sum.okPF (pin := pin_rsame16) facts.mixed g_rsame16 o_rsame16 tree_rsame16 rfl (fun _ => rfl) (fun xs h => h.1) (by
  intro xs hx hp
  obtain ⟨a, b, rfl⟩ := len2 hx
  have hlen : (dec a).length ≤ 1000000 := hp.2
  clear hp
  simp only [t_rsame16, G_rsame16, TX.sat, XB.prop, X.den, List.map_cons, List.map_nil, List.getElem?_cons_zero, List.getElem?_cons_succ, List.cons_append, List.nil_append, List.getD_cons_zero, List.getD_cons_succ, mkS, mkP, and_true, true_and, Int.not_lt, Int.not_le, not_or, not_and, Classical.not_not, ne_eq, not_true_eq_false, not_false_eq_true, sem_rsame16, L2.den]
  generalize dec a = R at hlen ⊢
  generalize dec b = t
  refine ⟨fun hne => ?_, fun heq => ?_⟩
  · have : sameB R t = false := by
      cases h : sameB R t with
      | false => rfl
      | true => exact absurd (by rw [(sameB_spec h).1]) hne
    rw [this]
    rfl
  have hRl : R.length = t.length := by omega
  refine ⟨fun xs => ∃ i : Nat, xs.getD 1 0 = (i : Int) ∧ i ≤ t.length ∧ ∀ j, j < i → nine (R.getD j 0) = nine (t.getD j 0), fun xs => t.length - (xs.getD 1 0).toNat, fun xs hx _ => vs_none (n := 2) hx, ⟨0, rfl, by omega, fun j hj => by omega⟩, ?_⟩
  intro xs hx hI
  obtain ⟨d0, d1, rfl⟩ := len2 hx
  obtain ⟨i, hi, hle, hall⟩ := hI
  simp only [List.getD_cons_zero, List.getD_cons_succ, List.cons_append, List.nil_append] at hi ⊢
  subst hi
  have hco : ∀ x j, (dec x).getD j 0 = co x j := fun _ _ => rfl
  simp only [hco, Int.toNat_natCast, show Int.toNat 0 = 0 from rfl, show Int.toNat 1 = 1 from rfl, show Int.toNat 2 = 2 from rfl, show Int.toNat 3 = 3 from rfl, show Int.toNat 4 = 4 from rfl, show Int.toNat 5 = 5 from rfl, show Int.toNat 6 = 6 from rfl, show Int.toNat 7 = 7 from rfl, show Int.toNat 8 = 8 from rfl]
  refine ⟨fun hge => ?_, fun hlt => ?_⟩
  · rw [sameB_yes hRl fun j hj => hall j (by omega)]
    rfl
  · have hil : i < R.length := by omega
    refine ⟨by omega, by omega, fun hne => ?_, fun heq => ?_⟩
    · rw [sameB_no hil (fun h => by rw [nine_iff] at h; omega)]
      rfl
    · have hw : IntKind.i64.wrap ((i : Int) + 1) = ((i + 1 : Nat) : Int) := by rw [wrap64 (by omega) (by omega)]; omega
      rw [hw]
      refine ⟨⟨i + 1, rfl, by omega, fun j hj => ?_⟩, by rw [Int.toNat_natCast]; omega⟩
      rcases Nat.lt_or_ge j i with h1 | h1
      · exact hall j h1
      · have : j = i := by omega
        subst this
        rw [nine_iff]
        omega)
theorem inf_rsame16 : InfOK s_rsame16 i_rsame16 := ⟨fun xs h => (small_not xs h).elim, fun vs xs h hp => vsOK_cons (b01_iv _) vsOK_nil⟩

noncomputable def G_rcheck : List Sum := [s_rrefit, s_rsame16]
def I_rcheck : List Inf := [i_rrefit, i_rsame16]
def t_rcheck : TX := (.call 0 [(.v 0), (.v 1)] (.ite (.not (.eq (.v 3) (.c 0))) (.ret [(.v 3)])
(.call 1 [(.v 2), (.v 0)] (.ite (.eq (.v 4) (.c 0)) (.ret [(.c 8)])
(.ret [(.c 0)])))))
theorem tree_rcheck : merge (optFL [] I_rcheck [] pin_rcheck (symFnL Try.prog noLp gl0 G_rcheck 1000 21 [Tr, Bs] [I1])) = t_rcheck := by kernel_rfl
theorem g_rcheck : Gok Try.prog G_rcheck := (more ok_rrefit (fix.one ok_rsame16))
theorem o_rcheck : outsOK G_rcheck I_rcheck := (outsOK_cons inf_rrefit (outsOK_cons inf_rsame16 outsOK_nil))
theorem ok_rcheck : s_rcheck.ok Try.prog := Sum.okPF (pin := pin_rcheck) facts.mixed g_rcheck o_rcheck tree_rcheck rfl (fun _ => rfl) (fun xs h => h.1) (by
  intro xs hx hp
  obtain ⟨a, b, rfl⟩ := len2 hx
  have hpre : pre_rrefit [a, b] := hp
  have hlen := hp.2.1
  clear hp
  simp only [List.getD_cons_zero, List.getD_cons_succ] at hlen
  simp only [t_rcheck, G_rcheck, s_rrefit, s_rsame16, TX.sat, XB.prop, X.den, List.map_cons, List.map_nil, List.getElem?_cons_zero, List.getElem?_cons_succ, List.cons_append, List.nil_append, List.getD_cons_zero, List.getD_cons_succ, mkS, mkP, and_true, true_and, Int.not_lt, Int.not_le, not_or, not_and, Classical.not_not, ne_eq, not_true_eq_false, not_false_eq_true, sem_rrefit, sem_rsame16, sem_rcheck, sem_tcheck, L2.den]
  refine ⟨hpre, ?_⟩
  clear hpre
  generalize hta : dec a = t at hlen ⊢
  generalize dec b = l at hlen ⊢
  refine ⟨fun hE => ?_, fun hE => ?_⟩
  · have : chkE t l = refitE t l := by unfold chkE; rw [if_neg hE]
    rw [this]
  have hE' : refitE t l = 0 := by omega
  rw [if_pos hE']
  have hC : chkE t l = if sameB (refitL l t) t = true then 0 else 8 := by unfold chkE; rw [if_pos hE']
  have hRl : (refitL l t).length = t.length := rf_len l t t.length
  have hd : dec (if t.length = 0 then a else cod (refitL l t)) = refitL l t := by
    split
    · rename_i h0
      have h1 := List.eq_nil_of_length_eq_zero (hRl.trans h0)
      rw [hta, h1]
      exact List.eq_nil_of_length_eq_zero h0
    · exact dec_cod _
  refine ⟨⟨vs_none (n := 2) rfl, by show (dec (if t.length = 0 then a else cod (refitL l t))).length ≤ 1000000; rw [hd, hRl]; omega⟩, ?_⟩
  rw [hd, hC]
  cases sameB (refitL l t) t with
  | true => exact ⟨fun h => absurd h (by decide), fun _ => rfl⟩
  | false => exact ⟨fun _ => rfl, fun h => absurd rfl h⟩)
theorem inf_rcheck : InfOK s_rcheck i_rcheck := ⟨fun xs h => (small_not xs h).elim, fun vs xs h hp => vsOK_cons (chkE_iv _ _) vsOK_nil⟩

/-! ### leaves -/
theorem lvs_len (l : List Int) : ∀ i, (lvs l i).length ≤ i
  | 0 => Nat.le_refl _
  | i + 1 => by
    have := lvs_len l i
    unfold lvs
    split
    · rw [List.length_append]; simp only [List.length_cons, List.length_nil]; omega
    · omega
theorem leavesE_iv (l : List Int) : 0 ≤ leavesE l ∧ leavesE l ≤ 8 := by
  unfold leavesE
  split
  · split <;> decide
  · decide

noncomputable def G_tleaves : List Sum := [s_shaped]
def I_tleaves : List Inf := [i_shaped]
def t_tleaves : TX := (.ite (.lt (.c 511) (.ln (.v 0))) (.ret [.nl, (.c 4)])
(.loop 2 [none, none] [.nl, (.c 0)] (.ite (.lt (.v 2) (.ln (.v 0))) (.asrt (.le (.c 0) (.v 2)) (.ite (.eq (.l2 .at (.l2 .at (.v 0) (.v 2)) (.c 6)) (.c (-1))) (.asrt (.le (.ln (.l2 .snoc (.v 1) (.l2 .at (.l2 .at (.v 0) (.v 2)) (.c 8)))) (.c 1000000)) (.back 0 [(.l2 .snoc (.v 1) (.l2 .at (.l2 .at (.v 0) (.v 2)) (.c 8))), (.wr .i64 (.add (.v 2) (.c 1)))]))
(.back 0 [(.v 1), (.wr .i64 (.add (.v 2) (.c 1)))])))
(.call 0 [(.v 0), (.ln (.v 1))] (.ite (.eq (.v 3) (.c 0)) (.ret [.nl, (.c 8)])
(.ret [(.v 1), (.c 0)]))))))
theorem tree_tleaves : merge (optFL [] I_tleaves [] pin_tleaves (symFnL Try.prog (openAt Try.prog [(4, 14)]) gl0 G_tleaves 1000 17 [Tr] [Is, I1])) = t_tleaves := by kernel_rfl
theorem g_tleaves : Gok Try.prog G_tleaves := (fix.one ok_shaped)
theorem o_tleaves : outsOK G_tleaves I_tleaves := (outsOK_cons inf_shaped outsOK_nil)
theorem ok_tleaves : s_tleaves.ok Try.prog := Sum.okF facts.mixed g_tleaves o_tleaves tree_tleaves rfl (fun _ => rfl) (by
  intro xs hx hp
  obtain ⟨a, rfl⟩ := len1a hx
  clear hp
  simp only [t_tleaves, G_tleaves, s_shaped, TX.sat, XB.prop, X.den, List.map_cons, List.map_nil, List.getElem?_cons_zero, List.getElem?_cons_succ, List.cons_append, List.nil_append, List.getD_cons_zero, List.getD_cons_succ, mkS, mkP, and_true, true_and, Int.not_lt, Int.not_le, not_or, not_and, Classical.not_not, ne_eq, not_true_eq_false, not_false_eq_true, sem_tleaves, sem_shaped, L2.den]
  generalize dec a = l
  refine ⟨fun hbig => ?_, fun hle => ?_⟩
  · have : leavesE l = 4 := by unfold leavesE; rw [if_neg (by omega)]
    rw [this]
    rfl
  have hE : leavesE l = if shapedB l ((lvs l l.length).length : Int) = true then 0 else 8 := by unfold leavesE; rw [if_pos (by omega)]
  rw [hE]
  clear hE
  refine ⟨fun xs => ∃ i : Nat, xs.getD 1 0 = (i : Int) ∧ i ≤ l.length ∧ xs.getD 0 0 = cod (lvs l i), fun xs => l.length - (xs.getD 1 0).toNat, fun xs hx _ => vs_none (n := 2) hx, ⟨0, rfl, by omega, rfl⟩, ?_⟩
  intro xs hx hI
  obtain ⟨d0, d1, rfl⟩ := len2 hx
  obtain ⟨i, hi, hil, hd⟩ := hI
  simp only [List.getD_cons_zero, List.getD_cons_succ, List.cons_append, List.nil_append] at hi hd ⊢
  subst hi hd
  have hco : ∀ x j, (dec x).getD j 0 = co x j := fun _ _ => rfl
  have hlv := lvs_len l i
  simp only [dec_cod, hco, Int.toNat_natCast, show Int.toNat 6 = 6 from rfl, show Int.toNat 8 = 8 from rfl]
  have hw : IntKind.i64.wrap ((i : Int) + 1) = ((i + 1 : Nat) : Int) := by rw [wrap64 (by omega) (by omega)]; omega
  rw [hw]
  refine ⟨fun hlt => ⟨by omega, fun hyes => ⟨by simp only [List.length_append, List.length_cons, List.length_nil]; omega, ⟨i + 1, rfl, by omega, by rw [lvs, if_pos hyes]⟩, by simp only [Int.toNat_natCast]; omega⟩, fun hno => ⟨⟨i + 1, rfl, by omega, by rw [lvs, if_neg hno]⟩, by simp only [Int.toNat_natCast]; omega⟩⟩, fun hge => ?_⟩
  have : i = l.length := by omega
  subst this
  refine ⟨vsOK_cons trivial (vsOK_cons ⟨by show (0:Int) ≤ _; omega, by show _ ≤ (1000:Int); omega⟩ vsOK_nil), ?_⟩
  cases shapedB l ((lvs l l.length).length : Int) with
  | true => exact ⟨fun h => absurd h (by decide), fun _ => rfl⟩
  | false => exact ⟨fun _ => rfl, fun h => absurd rfl h⟩)
theorem inf_tleaves : InfOK s_tleaves i_tleaves := ⟨fun xs h => h, fun vs xs h hp => vsOK_cons trivial (vsOK_cons (leavesE_iv _) vsOK_nil)⟩

theorem lf_eq {l : List Int} {n : Nat} (h : shapedB l (n : Int) = true) {i : Nat} (hi : i < l.length) : (co (l.getD i 0) 6 = -1 ∧ co (l.getD i 0) 7 = -1) ↔ co (l.getD i 0) 6 = -1 := by
  have := shaped_shp h i hi
  omega
theorem rshaped_eq' {l : List Int} (hl : l.length ≤ 511) (n : Nat) : rshapedB l (n : Int) = shapedB l (n : Int) := by
  by_cases hn : n ≤ 256
  · exact rshaped_eq (by omega) (by omega)
  · have h1 : rshapedB l (n : Int) = false := by
      unfold rshapedB
      rw [decide_eq_false (by omega)]
      rfl
    have h2 : shapedB l (n : Int) = false := by
      cases h : shapedB l (n : Int) with
      | false => rfl
      | true =>
        have := shaped_len h
        omega
    rw [h1, h2]
noncomputable def G_rleaves : List Sum := [s_rshaped]
def I_rleaves : List Inf := [i_rshaped]
def t_rleaves : TX := (.ite (.lt (.c 511) (.ln (.v 0))) (.ret [.nl, (.c 4)])
(.loop 2 [none, none] [(.c 0), (.c 0)] (.ite (.lt (.v 2) (.ln (.v 0))) (.asrt (.le (.c 0) (.v 2)) (.ite (.eq (.l2 .at (.l2 .at (.v 0) (.v 2)) (.c 6)) (.c (-1))) (.back 0 [(.wr .i64 (.add (.v 1) (.c 1))), (.wr .i64 (.add (.v 2) (.c 1)))])
(.back 0 [(.v 1), (.wr .i64 (.add (.v 2) (.c 1)))])))
(.call 0 [(.v 0), (.v 1)] (.ite (.eq (.v 3) (.c 0)) (.ret [.nl, (.c 8)])
(.loop 2 [none, none] [.nl, (.c 0)] (.ite (.le (.ln (.v 0)) (.v 5)) (.ret [(.v 4), (.c 0)])
(.asrt (.le (.c 0) (.v 5)) (.ite (.and (.eq (.l2 .at (.l2 .at (.v 0) (.v 5)) (.c 6)) (.c (-1))) (.eq (.l2 .at (.l2 .at (.v 0) (.v 5)) (.c 7)) (.c (-1)))) (.asrt (.le (.ln (.l2 .snoc (.v 4) (.l2 .at (.l2 .at (.v 0) (.v 5)) (.c 8)))) (.c 1000000)) (.back 1 [(.l2 .snoc (.v 4) (.l2 .at (.l2 .at (.v 0) (.v 5)) (.c 8))), (.wr .i64 (.add (.v 5) (.c 1)))]))
(.back 1 [(.v 4), (.wr .i64 (.add (.v 5) (.c 1)))]))))))))))
theorem tree_rleaves : merge (optFL [] I_rleaves [] pin_rleaves (symFnL Try.prog (openAt Try.prog [(5, 12), (13, 32)]) gl0 G_rleaves 1000 18 [Tr] [Is, I1])) = t_rleaves := by kernel_rfl
theorem g_rleaves : Gok Try.prog G_rleaves := (fix.one ok_rshaped)
theorem o_rleaves : outsOK G_rleaves I_rleaves := (outsOK_cons inf_rshaped outsOK_nil)
theorem ok_rleaves : s_rleaves.ok Try.prog := Sum.okF facts.mixed g_rleaves o_rleaves tree_rleaves rfl (fun _ => rfl) (by
  intro xs hx hp
  obtain ⟨a, rfl⟩ := len1a hx
  clear hp
  simp only [t_rleaves, G_rleaves, s_rshaped, TX.sat, XB.prop, X.den, List.map_cons, List.map_nil, List.getElem?_cons_zero, List.getElem?_cons_succ, List.cons_append, List.nil_append, List.getD_cons_zero, List.getD_cons_succ, mkS, mkP, and_true, true_and, Int.not_lt, Int.not_le, not_or, not_and, Classical.not_not, ne_eq, not_true_eq_false, not_false_eq_true, sem_rleaves, sem_tleaves, sem_rshaped, L2.den]
  generalize dec a = l
  refine ⟨fun hbig => ?_, fun hle => ?_⟩
  · have : leavesE l = 4 := by unfold leavesE; rw [if_neg (by omega)]
    rw [this]
    rfl
  have hll : l.length ≤ 511 := by omega
  have hE : leavesE l = if shapedB l ((lvs l l.length).length : Int) = true then 0 else 8 := by unfold leavesE; rw [if_pos (by omega)]
  rw [hE]
  clear hE hle
  have hco : ∀ x j, (dec x).getD j 0 = co x j := fun _ _ => rfl
  refine ⟨fun xs => ∃ i : Nat, xs.getD 1 0 = (i : Int) ∧ i ≤ l.length ∧ xs.getD 0 0 = ((lvs l i).length : Int), fun xs => l.length - (xs.getD 1 0).toNat, fun xs hx _ => vs_none (n := 2) hx, ⟨0, rfl, by omega, rfl⟩, ?_⟩
  intro xs hx hI
  obtain ⟨d0, d1, rfl⟩ := len2 hx
  obtain ⟨i, hi, hil, hd⟩ := hI
  simp only [List.getD_cons_zero, List.getD_cons_succ, List.cons_append, List.nil_append] at hi hd ⊢
  subst hi hd
  have hlv := lvs_len l i
  have hw : IntKind.i64.wrap ((i : Int) + 1) = ((i + 1 : Nat) : Int) := by rw [wrap64 (by omega) (by omega)]; omega
  have hw1 : IntKind.i64.wrap (((lvs l i).length : Int) + 1) = (((lvs l i).length + 1 : Nat) : Int) := by rw [wrap64 (by omega) (by omega)]; omega
  simp only [hco, hw, hw1, Int.toNat_natCast, show Int.toNat 6 = 6 from rfl, show Int.toNat 7 = 7 from rfl, show Int.toNat 8 = 8 from rfl]
  refine ⟨fun hlt => ⟨by omega, fun hyes => ⟨⟨i + 1, rfl, by omega, by rw [lvs, if_pos hyes, List.length_append]; rfl⟩, by omega⟩, fun hno => ⟨⟨i + 1, rfl, by omega, by rw [lvs, if_neg hno]⟩, by omega⟩⟩, fun hge => ?_⟩
  have : i = l.length := by omega
  subst this
  rw [rshaped_eq' hll]
  refine ⟨vsOK_cons trivial (vsOK_cons ⟨by show (0:Int) ≤ _; omega, by show _ ≤ (1000:Int); omega⟩ vsOK_nil), ?_⟩
  cases hsh : shapedB l ((lvs l l.length).length : Int) with
  | false => exact ⟨fun _ => rfl, fun h => absurd rfl h⟩
  | true =>
    refine ⟨fun h => absurd h (by decide), fun _ => ?_⟩
    refine ⟨fun xs => ∃ i : Nat, xs.getD 1 0 = (i : Int) ∧ i ≤ l.length ∧ xs.getD 0 0 = cod (lvs l i), fun xs => l.length - (xs.getD 1 0).toNat, fun xs hx _ => vs_none (n := 2) hx, ⟨0, rfl, by omega, rfl⟩, ?_⟩
    intro xs hx hI
    obtain ⟨d0, d1, rfl⟩ := len2 hx
    obtain ⟨i, hi, hil, hd⟩ := hI
    simp only [List.getD_cons_zero, List.getD_cons_succ, List.cons_append, List.nil_append] at hi hd ⊢
    subst hi hd
    have hlv := lvs_len l i
    have hw : IntKind.i64.wrap ((i : Int) + 1) = ((i + 1 : Nat) : Int) := by rw [wrap64 (by omega) (by omega)]; omega
    simp only [hco, dec_cod, hw, Int.toNat_natCast, show Int.toNat 6 = 6 from rfl, show Int.toNat 7 = 7 from rfl, show Int.toNat 8 = 8 from rfl]
    refine ⟨fun hge => ?_, fun hlt => ⟨by omega, fun hyes => ⟨by simp only [List.length_append, List.length_cons, List.length_nil]; omega, ⟨i + 1, rfl, by omega, by rw [lvs, if_pos hyes.1]⟩, by omega⟩, fun hno => ?_⟩⟩
    · have : i = l.length := by omega
      subst this
      rfl
    · have hno' : ¬ co (l.getD i 0) 6 = -1 := fun h => by
        have := (lf_eq hsh (i := i) (by omega)).2 h
        exact hno this.1 this.2
      exact ⟨⟨i + 1, rfl, by omega, by rw [lvs, if_neg hno']⟩, by omega⟩)
theorem inf_rleaves : InfOK s_rleaves i_rleaves := ⟨fun xs h => h, fun vs xs h hp => vsOK_cons trivial (vsOK_cons (leavesE_iv _) vsOK_nil)⟩

noncomputable def G_twin : List Sum := []
def I_twin : List Inf := []
def t_twin : TX := (.asrt (.le (.ln (.v 0)) (.c 1000000)) (.ret [(.v 0)]))
theorem tree_twin : merge (optFL [] I_twin [] pin_twin (symFnL Try.prog noLp gl0 G_twin 1000 14 [Tr] [Tr])) = t_twin := by kernel_rfl
theorem g_twin : Gok Try.prog G_twin := noG
theorem o_twin : outsOK G_twin I_twin := outsOK_nil
theorem ok_twin : s_twin.ok Try.prog := Sum.okPF (pin := pin_twin) facts.mixed g_twin o_twin tree_twin rfl (fun _ => rfl) (fun xs h => h.1) (by
  intro xs hx hp
  obtain ⟨a, rfl⟩ := len1a hx
  have hlen : (dec a).length ≤ 1000000 := hp.2
  clear hp
  simp only [t_twin, G_twin, TX.sat, XB.prop, X.den, List.map_cons, List.map_nil, List.getElem?_cons_zero, List.getElem?_cons_succ, List.cons_append, List.nil_append, List.getD_cons_zero, List.getD_cons_succ, mkS, mkP, and_true, true_and, Int.not_lt, Int.not_le, not_or, not_and, Classical.not_not, ne_eq, not_true_eq_false, not_false_eq_true, sem_twin, L2.den]
  omega)
theorem inf_twin : InfOK s_twin i_twin := ⟨fun xs h => (small_not xs h).elim, fun vs xs h hp => vsOK_cons trivial vsOK_nil⟩
#print axioms ok_rleaves
end Go.Proofs.Ytgcoidbaoigkeaa.fix
