/-
  What the document's functions for trees come to: same, checked, leaves, twin.
-/
import Derived.Test.YtgcoidbaoigkeaaKRefit
set_option linter.unusedVariables false
set_option linter.unusedSimpArgs false
namespace Go.Proofs.Ytgcoidbaoigkeaa.fix
open Go.RowKit Go.Sx

theorem len1a {xs : List Int} (h : xs.length = 1) : ∃ a, xs = [a] := by
  match xs, h with
  | [a], _ => exact ⟨a, rfl⟩

/-! ### leaves -/
theorem lvs_len (l : List Int) : ∀ i, (lvs l i).length ≤ i
  | 0 => Nat.le_refl _
  | i + 1 => by
    have := lvs_len l i
    unfold lvs
    split
    · rw [List.length_append]; simp only [List.length_cons, List.length_nil]; omega
    · omega
theorem leavesE_iv (l : List Int) : 0 ≤ leavesE l ∧ leavesE l ≤ 8 := by
  unfold leavesE
  split
  · split <;> decide
  · decide

noncomputable def G_tleaves : List Sum := [s_shaped]
def I_tleaves : List Inf := [i_shaped]
def t_tleaves : TX := (.ite (.lt (.c 511) (.ln (.v 0))) (.ret [.nl, (.c 4)])
(.loop 2 [none, none] [.nl, (.c 0)] (.ite (.lt (.v 2) (.ln (.v 0))) (.asrt (.le (.c 0) (.v 2)) (.ite (.eq (.l2 .at (.l2 .at (.v 0) (.v 2)) (.c 6)) (.c (-1))) (.asrt (.le (.ln (.l2 .snoc (.v 1) (.l2 .at (.l2 .at (.v 0) (.v 2)) (.c 8)))) (.c 1000000)) (.back 0 [(.l2 .snoc (.v 1) (.l2 .at (.l2 .at (.v 0) (.v 2)) (.c 8))), (.wr .i64 (.add (.v 2) (.c 1)))]))
(.back 0 [(.v 1), (.wr .i64 (.add (.v 2) (.c 1)))])))
(.call 0 [(.v 0), (.ln (.v 1))] (.ite (.eq (.v 3) (.c 0)) (.ret [.nl, (.c 8)])
(.ret [(.v 1), (.c 0)]))))))
theorem tree_tleaves : merge (optFL [] I_tleaves [] pin_tleaves (symFnL Try.prog (openAt Try.prog [(4, 14)]) gl0 G_tleaves 1000 17 [Tr] [Is, I1])) = t_tleaves := by kernel_rfl
theorem g_tleaves : Gok Try.prog G_tleaves := (fix.one ok_shaped)
theorem o_tleaves : outsOK G_tleaves I_tleaves := (outsOK_cons inf_shaped outsOK_nil)
theorem ok_tleaves : s_tleaves.ok Try.prog := Sum.okF facts.mixed g_tleaves o_tleaves tree_tleaves rfl (fun _ => rfl) (by
  intro xs hx hp
  obtain ⟨a, rfl⟩ := len1a hx
  clear hp
  simp only [t_tleaves, G_tleaves, s_shaped, TX.sat, XB.prop, X.den, List.map_cons, List.map_nil, List.getElem?_cons_zero, List.getElem?_cons_succ, List.cons_append, List.nil_append, List.getD_cons_zero, List.getD_cons_succ, mkS, mkP, and_true, true_and, Int.not_lt, Int.not_le, not_or, not_and, Classical.not_not, ne_eq, not_true_eq_false, not_false_eq_true, sem_tleaves, sem_shaped, L2.den]
  generalize dec a = l
  refine ⟨fun hbig => ?_, fun hle => ?_⟩
  · have : leavesE l = 4 := by unfold leavesE; rw [if_neg (by omega)]
    rw [this]
    rfl
  have hE : leavesE l = if shapedB l ((lvs l l.length).length : Int) = true then 0 else 8 := by unfold leavesE; rw [if_pos (by omega)]
  rw [hE]
  clear hE
  refine ⟨fun xs => ∃ i : Nat, xs.getD 1 0 = (i : Int) ∧ i ≤ l.length ∧ xs.getD 0 0 = cod (lvs l i), fun xs => l.length - (xs.getD 1 0).toNat, fun xs hx _ => vs_none (n := 2) hx, ⟨0, rfl, by omega, rfl⟩, ?_⟩
  intro xs hx hI
  obtain ⟨d0, d1, rfl⟩ := len2 hx
  obtain ⟨i, hi, hil, hd⟩ := hI
  simp only [List.getD_cons_zero, List.getD_cons_succ, List.cons_append, List.nil_append] at hi hd ⊢
  subst hi hd
  have hco : ∀ x j, (dec x).getD j 0 = co x j := fun _ _ => rfl
  have hlv := lvs_len l i
  simp only [dec_cod, hco, Int.toNat_natCast, show Int.toNat 6 = 6 from rfl, show Int.toNat 8 = 8 from rfl]
  have hw : IntKind.i64.wrap ((i : Int) + 1) = ((i + 1 : Nat) : Int) := by rw [wrap64 (by omega) (by omega)]; omega
  rw [hw]
  refine ⟨fun hlt => ⟨by omega, fun hyes => ⟨by simp only [List.length_append, List.length_cons, List.length_nil]; omega, ⟨i + 1, rfl, by omega, by rw [lvs, if_pos hyes]⟩, by simp only [Int.toNat_natCast]; omega⟩, fun hno => ⟨⟨i + 1, rfl, by omega, by rw [lvs, if_neg hno]⟩, by simp only [Int.toNat_natCast]; omega⟩⟩, fun hge => ?_⟩
  have : i = l.length := by omega
  subst this
  refine ⟨vsOK_cons trivial (vsOK_cons ⟨by show (0:Int) ≤ _; omega, by show _ ≤ (1000:Int); omega⟩ vsOK_nil), ?_⟩
  cases shapedB l ((lvs l l.length).length : Int) with
  | true => exact ⟨fun h => absurd h (by decide), fun _ => rfl⟩
  | false => exact ⟨fun _ => rfl, fun h => absurd rfl h⟩)
theorem inf_tleaves : InfOK s_tleaves i_tleaves := ⟨fun xs h => h, fun vs xs h hp => vsOK_cons trivial (vsOK_cons (leavesE_iv _) vsOK_nil)⟩

theorem lf_eq {l : List Int} {n : Nat} (h : shapedB l (n : Int) = true) {i : Nat} (hi : i < l.length) : (co (l.getD i 0) 6 = -1 ∧ co (l.getD i 0) 7 = -1) ↔ co (l.getD i 0) 6 = -1 := by
  have := shaped_shp h i hi
  omega
theorem rshaped_eq' {l : List Int} (hl : l.length ≤ 511) (n : Nat) : rshapedB l (n : Int) = shapedB l (n : Int) := by
  by_cases hn : n ≤ 256
  · exact rshaped_eq (by omega) (by omega)
  · have h1 : rshapedB l (n : Int) = false := by
      unfold rshapedB
      rw [decide_eq_false (by omega)]
      rfl
    have h2 : shapedB l (n : Int) = false := by
      cases h : shapedB l (n : Int) with
      | false => rfl
      | true =>
        have := shaped_len h
        omega
    rw [h1, h2]
noncomputable def G_rleaves : List Sum := [s_rshaped]
def I_rleaves : List Inf := [i_rshaped]
def t_rleaves : TX := (.ite (.lt (.c 511) (.ln (.v 0))) (.ret [.nl, (.c 4)])
(.loop 2 [none, none] [(.c 0), (.c 0)] (.ite (.lt (.v 2) (.ln (.v 0))) (.asrt (.le (.c 0) (.v 2)) (.ite (.eq (.l2 .at (.l2 .at (.v 0) (.v 2)) (.c 6)) (.c (-1))) (.back 0 [(.wr .i64 (.add (.v 1) (.c 1))), (.wr .i64 (.add (.v 2) (.c 1)))])
(.back 0 [(.v 1), (.wr .i64 (.add (.v 2) (.c 1)))])))
(.call 0 [(.v 0), (.v 1)] (.ite (.eq (.v 3) (.c 0)) (.ret [.nl, (.c 8)])
(.loop 2 [none, none] [.nl, (.c 0)] (.ite (.le (.ln (.v 0)) (.v 5)) (.ret [(.v 4), (.c 0)])
(.asrt (.le (.c 0) (.v 5)) (.ite (.and (.eq (.l2 .at (.l2 .at (.v 0) (.v 5)) (.c 6)) (.c (-1))) (.eq (.l2 .at (.l2 .at (.v 0) (.v 5)) (.c 7)) (.c (-1)))) (.asrt (.le (.ln (.l2 .snoc (.v 4) (.l2 .at (.l2 .at (.v 0) (.v 5)) (.c 8)))) (.c 1000000)) (.back 1 [(.l2 .snoc (.v 4) (.l2 .at (.l2 .at (.v 0) (.v 5)) (.c 8))), (.wr .i64 (.add (.v 5) (.c 1)))]))
(.back 1 [(.v 4), (.wr .i64 (.add (.v 5) (.c 1)))]))))))))))
theorem tree_rleaves : merge (optFL [] I_rleaves [] pin_rleaves (symFnL Try.prog (openAt Try.prog [(5, 12), (13, 32)]) gl0 G_rleaves 1000 18 [Tr] [Is, I1])) = t_rleaves := by kernel_rfl
theorem g_rleaves : Gok Try.prog G_rleaves := (fix.one ok_rshaped)
theorem o_rleaves : outsOK G_rleaves I_rleaves := (outsOK_cons inf_rshaped outsOK_nil)
theorem ok_rleaves : s_rleaves.ok Try.prog := Sum.okF facts.mixed g_rleaves o_rleaves tree_rleaves rfl (fun _ => rfl) (by
  intro xs hx hp
  obtain ⟨a, rfl⟩ := len1a hx
  clear hp
  simp only [t_rleaves, G_rleaves, s_rshaped, TX.sat, XB.prop, X.den, List.map_cons, List.map_nil, List.getElem?_cons_zero, List.getElem?_cons_succ, List.cons_append, List.nil_append, List.getD_cons_zero, List.getD_cons_succ, mkS, mkP, and_true, true_and, Int.not_lt, Int.not_le, not_or, not_and, Classical.not_not, ne_eq, not_true_eq_false, not_false_eq_true, sem_rleaves, sem_tleaves, sem_rshaped, L2.den]
  generalize dec a = l
  refine ⟨fun hbig => ?_, fun hle => ?_⟩
  · have : leavesE l = 4 := by unfold leavesE; rw [if_neg (by omega)]
    rw [this]
    rfl
  have hll : l.length ≤ 511 := by omega
  have hE : leavesE l = if shapedB l ((lvs l l.length).length : Int) = true then 0 else 8 := by unfold leavesE; rw [if_pos (by omega)]
  rw [hE]
  clear hE hle
  have hco : ∀ x j, (dec x).getD j 0 = co x j := fun _ _ => rfl
  refine ⟨fun xs => ∃ i : Nat, xs.getD 1 0 = (i : Int) ∧ i ≤ l.length ∧ xs.getD 0 0 = ((lvs l i).length : Int), fun xs => l.length - (xs.getD 1 0).toNat, fun xs hx _ => vs_none (n := 2) hx, ⟨0, rfl, by omega, rfl⟩, ?_⟩
  intro xs hx hI
  obtain ⟨d0, d1, rfl⟩ := len2 hx
  obtain ⟨i, hi, hil, hd⟩ := hI
  simp only [List.getD_cons_zero, List.getD_cons_succ, List.cons_append, List.nil_append] at hi hd ⊢
  subst hi hd
  have hlv := lvs_len l i
  have hw : IntKind.i64.wrap ((i : Int) + 1) = ((i + 1 : Nat) : Int) := by rw [wrap64 (by omega) (by omega)]; omega
  have hw1 : IntKind.i64.wrap (((lvs l i).length : Int) + 1) = (((lvs l i).length + 1 : Nat) : Int) := by rw [wrap64 (by omega) (by omega)]; omega
  simp only [hco, hw, hw1, Int.toNat_natCast, show Int.toNat 6 = 6 from rfl, show Int.toNat 7 = 7 from rfl, show Int.toNat 8 = 8 from rfl]
  refine ⟨fun hlt => ⟨by omega, fun hyes => ⟨⟨i + 1, rfl, by omega, by rw [lvs, if_pos hyes, List.length_append]; rfl⟩, by omega⟩, fun hno => ⟨⟨i + 1, rfl, by omega, by rw [lvs, if_neg hno]⟩, by omega⟩⟩, fun hge => ?_⟩
  have : i = l.length := by omega
  subst this
  rw [rshaped_eq' hll]
  refine ⟨vsOK_cons trivial (vsOK_cons ⟨by show (0:Int) ≤ _; omega, by show _ ≤ (1000:Int); omega⟩ vsOK_nil), ?_⟩
  cases hsh : shapedB l ((lvs l l.length).length : Int) with
  | false => exact ⟨fun _ => rfl, fun h => absurd rfl h⟩
  | true =>
    refine ⟨fun h => absurd h (by decide), fun _ => ?_⟩
    refine ⟨fun xs => ∃ i : Nat, xs.getD 1 0 = (i : Int) ∧ i ≤ l.length ∧ xs.getD 0 0 = cod (lvs l i), fun xs => l.length - (xs.getD 1 0).toNat, fun xs hx _ => vs_none (n := 2) hx, ⟨0, rfl, by omega, rfl⟩, ?_⟩
    intro xs hx hI
    obtain ⟨d0, d1, rfl⟩ := len2 hx
    obtain ⟨i, hi, hil, hd⟩ := hI
    simp only [List.getD_cons_zero, List.getD_cons_succ, List.cons_append, List.nil_append] at hi hd ⊢
    subst hi hd
    have hlv := lvs_len l i
    have hw : IntKind.i64.wrap ((i : Int) + 1) = ((i + 1 : Nat) : Int) := by rw [wrap64 (by omega) (by omega)]; omega
    simp only [hco, dec_cod, hw, Int.toNat_natCast, show Int.toNat 6 = 6 from rfl, show Int.toNat 7 = 7 from rfl, show Int.toNat 8 = 8 from rfl]
    refine ⟨fun hge => ?_, fun hlt => ⟨by omega, fun hyes => ⟨by simp only [List.length_append, List.length_cons, List.length_nil]; omega, ⟨i + 1, rfl, by omega, by rw [lvs, if_pos hyes.1]⟩, by omega⟩, fun hno => ?_⟩⟩
    · have : i = l.length := by omega
      subst this
      rfl
    · have hno' : ¬ co (l.getD i 0) 6 = -1 := fun h => by
        have := (lf_eq hsh (i := i) (by omega)).2 h
        exact hno this.1 this.2
      exact ⟨⟨i + 1, rfl, by omega, by rw [lvs, if_neg hno']⟩, by omega⟩)
#print axioms ok_rleaves
end Go.Proofs.Ytgcoidbaoigkeaa.fix
