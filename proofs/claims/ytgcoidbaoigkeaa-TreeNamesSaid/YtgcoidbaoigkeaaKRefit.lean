/-
  What the document's functions for trees come to: shapes, refitted, checked, told.
-/
import Derived.Test.YtgcoidbaoigkeaaKRef
set_option linter.unusedVariables false
set_option linter.unusedSimpArgs false
namespace Go.Proofs.Ytgcoidbaoigkeaa.fix
open Go.RowKit Go.Sx

noncomputable def G_rshaped : List Sum := [s_rends]
def I_rshaped : List Inf := [i_rends]
def t_rshaped : TX := (.ite (.or (.lt (.c 256) (.v 1)) (.not (.eq (.ln (.v 0)) (.mx (.c 0) (.sub (.mul (.c 2) (.v 1)) (.c 1)))))) (.ret [(.c 0)])
(.ite (.lt (.c 0) (.v 1)) (.call 0 [(.v 0), (.c 0)] (.ite (.not (.eq (.v 2) (.ln (.v 0)))) (.ret [(.c 0)])
(.asrt (.eq (.v 1) (.v 1)) (.loop 3 [none, none, none] [(.c 0), (.l2 .rep (.v 1) (.c 0)), (.c 0)] (.ite (.le (.ln (.v 0)) (.v 5)) (.ret [(.c 1)])
(.asrt (.le (.c 0) (.v 5)) (.ite (.or (.not (.eq (.l2 .at (.l2 .at (.v 0) (.v 5)) (.c 6)) (.c (-1)))) (.not (.eq (.l2 .at (.l2 .at (.v 0) (.v 5)) (.c 7)) (.c (-1))))) (.back 0 [(.v 3), (.v 4), (.wr .i64 (.add (.v 5) (.c 1)))])
(.asrt (.or (.or (.lt (.l2 .at (.l2 .at (.v 0) (.v 5)) (.c 8)) (.c 0)) (.le (.v 1) (.l2 .at (.l2 .at (.v 0) (.v 5)) (.c 8)))) (.le (.c 0) (.l2 .at (.l2 .at (.v 0) (.v 5)) (.c 8)))) (.asrt (.or (.or (.lt (.l2 .at (.l2 .at (.v 0) (.v 5)) (.c 8)) (.c 0)) (.le (.v 1) (.l2 .at (.l2 .at (.v 0) (.v 5)) (.c 8)))) (.lt (.l2 .at (.l2 .at (.v 0) (.v 5)) (.c 8)) (.ln (.v 4)))) (.asrt (.or (.or (.lt (.l2 .at (.l2 .at (.v 0) (.v 5)) (.c 8)) (.c 0)) (.le (.v 1) (.l2 .at (.l2 .at (.v 0) (.v 5)) (.c 8)))) (.le (.c 0) (.l2 .at (.l2 .at (.v 0) (.v 5)) (.c 8)))) (.asrt (.or (.or (.lt (.l2 .at (.l2 .at (.v 0) (.v 5)) (.c 8)) (.c 0)) (.le (.v 1) (.l2 .at (.l2 .at (.v 0) (.v 5)) (.c 8)))) (.lt (.l2 .at (.l2 .at (.v 0) (.v 5)) (.c 8)) (.ln (.v 4)))) (.ite (.or (.or (.lt (.l2 .at (.l2 .at (.v 0) (.v 5)) (.c 8)) (.c 0)) (.le (.v 1) (.l2 .at (.l2 .at (.v 0) (.v 5)) (.c 8)))) (.nz (.l2 .at (.v 4) (.l2 .at (.l2 .at (.v 0) (.v 5)) (.c 8))))) (.ret [(.c 0)])
(.asrt (.lt (.l2 .at (.l2 .at (.v 0) (.v 5)) (.c 8)) (.ln (.v 4))) (.back 0 [(.v 3), (.l3 (.v 4) (.l2 .at (.l2 .at (.v 0) (.v 5)) (.c 8)) (.c 1)), (.wr .i64 (.add (.v 5) (.c 1)))]))))))))))))))
(.loop 3 [none, none, none] [(.c 0), (.l2 .rep (.v 1) (.c 0)), (.c 0)] (.ite (.le (.ln (.v 0)) (.v 4)) (.ret [(.c 1)])
(.asrt (.le (.c 0) (.v 4)) (.ite (.or (.not (.eq (.l2 .at (.l2 .at (.v 0) (.v 4)) (.c 6)) (.c (-1)))) (.not (.eq (.l2 .at (.l2 .at (.v 0) (.v 4)) (.c 7)) (.c (-1))))) (.back 0 [(.v 2), (.v 3), (.wr .i64 (.add (.v 4) (.c 1)))])
(.asrt (.or (.or (.lt (.l2 .at (.l2 .at (.v 0) (.v 4)) (.c 8)) (.c 0)) (.le (.v 1) (.l2 .at (.l2 .at (.v 0) (.v 4)) (.c 8)))) (.le (.c 0) (.l2 .at (.l2 .at (.v 0) (.v 4)) (.c 8)))) (.asrt (.or (.or (.lt (.l2 .at (.l2 .at (.v 0) (.v 4)) (.c 8)) (.c 0)) (.le (.v 1) (.l2 .at (.l2 .at (.v 0) (.v 4)) (.c 8)))) (.lt (.l2 .at (.l2 .at (.v 0) (.v 4)) (.c 8)) (.ln (.v 3)))) (.asrt (.or (.or (.lt (.l2 .at (.l2 .at (.v 0) (.v 4)) (.c 8)) (.c 0)) (.le (.v 1) (.l2 .at (.l2 .at (.v 0) (.v 4)) (.c 8)))) (.le (.c 0) (.l2 .at (.l2 .at (.v 0) (.v 4)) (.c 8)))) (.asrt (.or (.or (.lt (.l2 .at (.l2 .at (.v 0) (.v 4)) (.c 8)) (.c 0)) (.le (.v 1) (.l2 .at (.l2 .at (.v 0) (.v 4)) (.c 8)))) (.lt (.l2 .at (.l2 .at (.v 0) (.v 4)) (.c 8)) (.ln (.v 3)))) (.ite (.or (.or (.lt (.l2 .at (.l2 .at (.v 0) (.v 4)) (.c 8)) (.c 0)) (.le (.v 1) (.l2 .at (.l2 .at (.v 0) (.v 4)) (.c 8)))) (.nz (.l2 .at (.v 3) (.l2 .at (.l2 .at (.v 0) (.v 4)) (.c 8))))) (.ret [(.c 0)])
(.asrt (.lt (.l2 .at (.l2 .at (.v 0) (.v 4)) (.c 8)) (.ln (.v 3))) (.back 0 [(.v 2), (.l3 (.v 3) (.l2 .at (.l2 .at (.v 0) (.v 4)) (.c 8)) (.c 1)), (.wr .i64 (.add (.v 4) (.c 1)))])))))))))))))
theorem tree_rshaped : merge (optFL [] I_rshaped [] pin_rshaped (symFnL Try.prog (openAt Try.prog [(7, 33)]) gl0 G_rshaped 1000 44 [Tr, I1] [Bo])) = t_rshaped := by kernel_rfl
theorem g_rshaped : Gok Try.prog G_rshaped := (fix.one ok_rends)
theorem o_rshaped : outsOK G_rshaped I_rshaped := (outsOK_cons inf_rends outsOK_nil)
theorem itRun_none {l : List Int} {n : Int} {i : Nat} (h : itRun l n i = none) : ∀ k, itRun l n (i + k) = none
  | 0 => h
  | k + 1 => by rw [show i + (k + 1) = (i + k) + 1 by omega, itRun, itRun_none h k]; rfl
theorem it_no {l : List Int} {n : Int} {i : Nat} (hi : i ≤ l.length) (h : itRun l n i = none) : rshapedB l n = false := by
  unfold rshapedB
  have := itRun_none h (l.length - i)
  rw [show i + (l.length - i) = l.length by omega] at this
  rw [this]
  simp
theorem ok_rshaped : s_rshaped.ok Try.prog := Sum.okF facts.mixed g_rshaped o_rshaped tree_rshaped rfl (fun _ => rfl) (by
  intro xs hx hp
  obtain ⟨a, n, rfl⟩ := len2 hx
  have hn : 0 ≤ n ∧ n ≤ 1000 := hp.2 1
  clear hp
  simp only [t_rshaped, G_rshaped, s_rends, TX.sat, XB.prop, X.den, List.map_cons, List.map_nil, List.getElem?_cons_zero, List.getElem?_cons_succ, List.cons_append, List.nil_append, List.getD_cons_zero, List.getD_cons_succ, mkS, mkP, and_true, true_and, Int.not_lt, Int.not_le, not_or, not_and, Classical.not_not, ne_eq, not_true_eq_false, not_false_eq_true, sem_rshaped, sem_rends, L2.den]
  generalize hta : dec a = l
  refine ⟨fun h => ?_, fun hlen => ?_⟩
  · unfold rshapedB
    rw [decide_eq_false (by omega)]
    rfl
  have hll : l.length ≤ 1000 := by omega
  have htail : ∀ d3 d4 : Int, True := fun _ _ => trivial
  refine ⟨fun h0 => ⟨⟨vsOK_cons trivial (vsOK_cons ⟨by show (0:Int) ≤ 0; decide, by show (0:Int) ≤ 2000; decide⟩ vsOK_nil), by show (dec a).length ≤ 1000; rw [hta]; exact hll⟩, fun hne => ?_, fun heq => ?_⟩, fun h0 => ?_⟩
  · unfold rshapedB
    rw [show decide (n ≤ 0 ∨ endsN l (l.length + 1) 0 = (l.length : Int)) = false from decide_eq_false (by omega)]
    simp [b01]
  all_goals
    have hB : rshapedB l n = (itRun l n l.length).isSome := by
      unfold rshapedB
      rw [decide_eq_true (by omega), decide_eq_true (by omega)]
      rfl
    refine ⟨fun xs => ∃ i : Nat, xs.getD 2 0 = (i : Int) ∧ i ≤ l.length ∧ itRun l n i = some (dec (xs.getD 1 0)) ∧ (dec (xs.getD 1 0)).length = n.toNat, fun xs => l.length - (xs.getD 2 0).toNat, fun xs hx _ => vs_none (n := 3) hx, ⟨0, rfl, by omega, by simp [itRun, dec_cod], by simp [dec_cod]⟩, ?_⟩
    intro xs hx hI
    obtain ⟨d0, d1, d2, rfl⟩ := len3 hx
    obtain ⟨i, hi, hle, hrun, hsl⟩ := hI
    simp only [List.getD_cons_zero, List.getD_cons_succ, List.cons_append, List.nil_append] at hi hrun hsl ⊢
    subst hi
    generalize hse : dec d1 = se at *
    have hco : ∀ x j, (dec x).getD j 0 = co x j := fun _ _ => rfl
    have hw : IntKind.i64.wrap ((i : Int) + 1) = ((i + 1 : Nat) : Int) := by rw [wrap64 (by omega) (by omega)]; omega
    simp only [Int.toNat_natCast, hco, dec_cod, hw, show Int.toNat 6 = 6 from rfl, show Int.toNat 7 = 7 from rfl, show Int.toNat 8 = 8 from rfl]
    have hstep : itRun l n (i + 1) = if co (l.getD i 0) 6 = -1 ∧ co (l.getD i 0) 7 = -1 then
        (if co (l.getD i 0) 8 < 0 ∨ n ≤ co (l.getD i 0) 8 ∨ se.getD (co (l.getD i 0) 8).toNat 0 ≠ 0 then none else some (se.set (co (l.getD i 0) 8).toNat 1)) else some se := by
      rw [itRun, hrun]
      rfl
    generalize l.getD i 0 = b at *
    refine ⟨fun hge => ?_, fun hlt => ?_⟩
    · have hil : i = l.length := by omega
      subst hil
      rw [hB, hrun]
      rfl
    · refine ⟨by omega, fun hnl => ?_, fun hlf => ?_⟩
      · rw [if_neg (by omega)] at hstep
        exact ⟨⟨i + 1, rfl, by omega, hstep, hsl⟩, by omega⟩
      · rw [if_pos (by omega)] at hstep
        refine ⟨by omega, by omega, by omega, by omega, fun hbad => ?_, fun hok => ?_⟩
        · rw [it_no (i := i + 1) (by omega) (by rw [hstep, if_pos (by
            rcases hbad with (h | h) | h
            · exact .inl h
            · exact .inr (.inl h)
            · exact .inr (.inr h))])]
          rfl
        · rw [if_neg (by
            rintro (h | h | h)
            · omega
            · omega
            · exact h hok.2)] at hstep
          exact ⟨by omega, ⟨i + 1, rfl, by omega, hstep, by rw [List.length_set]; exact hsl⟩, by omega⟩)
theorem inf_rshaped : InfOK s_rshaped i_rshaped := ⟨fun xs h => h, fun vs xs h hp => vsOK_cons (b01_iv _) vsOK_nil⟩

noncomputable def G_rrefit : List Sum := [s_rboxes, s_rshaped]
def I_rrefit : List Inf := [i_rboxes, i_rshaped]
def t_rrefit : TX := (.call 0 [(.v 1)] (.ite (.not (.eq (.v 2) (.c 0))) (.ret [.nl, (.v 2)])
(.call 1 [(.v 0), (.ln (.v 1))] (.ite (.eq (.v 3) (.c 0)) (.ret [.nl, (.c 8)])
(.asrt (.le (.ln (.v 0)) (.c 1000000)) (.loop 2 [none, none] [(.wr .i64 (.sub (.ln (.v 0)) (.c 1))), (.v 0)] (.ite (.lt (.v 4) (.c 0)) (.ret [(.v 5), (.c 0)])
(.asrt (.lt (.v 4) (.ln (.v 5))) (.ite (.and (.eq (.l2 .at (.l2 .at (.v 5) (.v 4)) (.c 6)) (.c (-1))) (.eq (.l2 .at (.l2 .at (.v 5) (.v 4)) (.c 7)) (.c (-1)))) (.asrt (.le (.c 0) (.l2 .at (.l2 .at (.v 5) (.v 4)) (.c 8))) (.asrt (.lt (.l2 .at (.l2 .at (.v 5) (.v 4)) (.c 8)) (.ln (.v 1))) (.back 0 [(.wr .i64 (.sub (.v 4) (.c 1))), (.l3 (.v 5) (.v 4) (.l2 .cons (.l2 .at (.l2 .at (.v 1) (.l2 .at (.l2 .at (.v 5) (.v 4)) (.c 8))) (.c 0)) (.l2 .cons (.l2 .at (.l2 .at (.v 1) (.l2 .at (.l2 .at (.v 5) (.v 4)) (.c 8))) (.c 1)) (.l2 .cons (.l2 .at (.l2 .at (.v 1) (.l2 .at (.l2 .at (.v 5) (.v 4)) (.c 8))) (.c 2)) (.l2 .cons (.l2 .at (.l2 .at (.v 1) (.l2 .at (.l2 .at (.v 5) (.v 4)) (.c 8))) (.c 3)) (.l2 .cons (.l2 .at (.l2 .at (.v 1) (.l2 .at (.l2 .at (.v 5) (.v 4)) (.c 8))) (.c 4)) (.l2 .cons (.l2 .at (.l2 .at (.v 1) (.l2 .at (.l2 .at (.v 5) (.v 4)) (.c 8))) (.c 5)) (.l2 .cons (.l2 .at (.l2 .at (.v 5) (.v 4)) (.c 6)) (.l2 .cons (.l2 .at (.l2 .at (.v 5) (.v 4)) (.c 7)) (.l2 .cons (.l2 .at (.l2 .at (.v 5) (.v 4)) (.c 8)) .nl))))))))))])))
(.asrt (.le (.c 0) (.l2 .at (.l2 .at (.v 5) (.v 4)) (.c 6))) (.asrt (.lt (.l2 .at (.l2 .at (.v 5) (.v 4)) (.c 6)) (.ln (.v 5))) (.asrt (.le (.c 0) (.l2 .at (.l2 .at (.v 5) (.v 4)) (.c 7))) (.asrt (.lt (.l2 .at (.l2 .at (.v 5) (.v 4)) (.c 7)) (.ln (.v 5))) (.back 0 [(.wr .i64 (.sub (.v 4) (.c 1))), (.l3 (.v 5) (.v 4) (.l2 .cons (.mn (.l2 .at (.l2 .at (.v 5) (.l2 .at (.l2 .at (.v 5) (.v 4)) (.c 6))) (.c 0)) (.l2 .at (.l2 .at (.v 5) (.l2 .at (.l2 .at (.v 5) (.v 4)) (.c 7))) (.c 0))) (.l2 .cons (.mn (.l2 .at (.l2 .at (.v 5) (.l2 .at (.l2 .at (.v 5) (.v 4)) (.c 6))) (.c 1)) (.l2 .at (.l2 .at (.v 5) (.l2 .at (.l2 .at (.v 5) (.v 4)) (.c 7))) (.c 1))) (.l2 .cons (.mn (.l2 .at (.l2 .at (.v 5) (.l2 .at (.l2 .at (.v 5) (.v 4)) (.c 6))) (.c 2)) (.l2 .at (.l2 .at (.v 5) (.l2 .at (.l2 .at (.v 5) (.v 4)) (.c 7))) (.c 2))) (.l2 .cons (.mx (.l2 .at (.l2 .at (.v 5) (.l2 .at (.l2 .at (.v 5) (.v 4)) (.c 6))) (.c 3)) (.l2 .at (.l2 .at (.v 5) (.l2 .at (.l2 .at (.v 5) (.v 4)) (.c 7))) (.c 3))) (.l2 .cons (.mx (.l2 .at (.l2 .at (.v 5) (.l2 .at (.l2 .at (.v 5) (.v 4)) (.c 6))) (.c 4)) (.l2 .at (.l2 .at (.v 5) (.l2 .at (.l2 .at (.v 5) (.v 4)) (.c 7))) (.c 4))) (.l2 .cons (.mx (.l2 .at (.l2 .at (.v 5) (.l2 .at (.l2 .at (.v 5) (.v 4)) (.c 6))) (.c 5)) (.l2 .at (.l2 .at (.v 5) (.l2 .at (.l2 .at (.v 5) (.v 4)) (.c 7))) (.c 5))) (.l2 .cons (.l2 .at (.l2 .at (.v 5) (.v 4)) (.c 6)) (.l2 .cons (.l2 .at (.l2 .at (.v 5) (.v 4)) (.c 7)) (.l2 .cons (.l2 .at (.l2 .at (.v 5) (.v 4)) (.c 8)) .nl))))))))))]))))))))))))))
theorem tree_rrefit : merge (optFL [] I_rrefit [] pin_rrefit (symFnL Try.prog (openAt Try.prog [(9, 32)]) gl0 G_rrefit 1000 16 [Tr, Bs] [Tr, I1])) = t_rrefit := by kernel_rfl
theorem g_rrefit : Gok Try.prog G_rrefit := (more ok_rboxes (fix.one ok_rshaped))
theorem o_rrefit : outsOK G_rrefit I_rrefit := (outsOK_cons inf_rboxes (outsOK_cons inf_rshaped outsOK_nil))
theorem ok_rrefit : s_rrefit.ok Try.prog := Sum.okPF (pin := pin_rrefit) facts.mixed g_rrefit o_rrefit tree_rrefit rfl (fun _ => rfl) (fun xs h => h.1) (by
  intro xs hx hp
  obtain ⟨a, b, rfl⟩ := len2 hx
  have hlen := hp.2.1
  have hel := hp.2.2.2
  clear hp
  simp only [List.getD_cons_zero, List.getD_cons_succ] at hlen hel
  simp only [t_rrefit, G_rrefit, s_rboxes, s_rshaped, TX.sat, XB.prop, X.den, List.map_cons, List.map_nil, List.getElem?_cons_zero, List.getElem?_cons_succ, List.cons_append, List.nil_append, List.getD_cons_zero, List.getD_cons_succ, mkS, mkP, and_true, true_and, Int.not_lt, Int.not_le, not_or, not_and, Classical.not_not, ne_eq, not_true_eq_false, not_false_eq_true, sem_rboxes, sem_rshaped, sem_rrefit, L2.den]
  refine ⟨⟨vs_none (n := 1) rfl, hel⟩, ?_⟩
  generalize hta : dec a = t at hlen ⊢
  generalize dec b = l at hlen hel ⊢
  refine ⟨fun hbx => ?_, fun hbx => ?_⟩
  · have : refitE t l = boxesE l := by unfold refitE; rw [if_neg hbx]
    rw [this, if_neg hbx]
  obtain ⟨hl256, hbok⟩ := boxesE_ok hbx
  rw [rshaped_eq (by omega) (by omega)]
  refine ⟨vsOK_cons trivial (vsOK_cons ⟨by show (0:Int) ≤ _; omega, by show _ ≤ (1000:Int); omega⟩ vsOK_nil), fun hsh => ?_, fun hsh => ?_⟩
  · have : refitE t l = 8 := by
      unfold refitE
      rw [if_pos hbx, if_neg]
      intro h
      rw [h] at hsh
      exact absurd hsh (by decide)
    rw [this]
    rfl
  have hshp : shapedB t (l.length : Int) = true := by
    cases h : shapedB t (l.length : Int) with
    | true => rfl
    | false => rw [h] at hsh; exact absurd rfl hsh
  have hE : refitE t l = 0 := by unfold refitE; rw [if_pos hbx, if_pos hshp]
  have hS := shaped_shp hshp
  rw [hE]
  have hw0 : IntKind.i64.wrap ((t.length : Int) - 1) = (t.length : Int) - 1 := wrap64 (by omega) (by omega)
  rw [hw0]
  refine ⟨by omega, fun xs => ∃ i : Nat, xs.getD 0 0 = (i : Int) - 1 ∧ i ≤ t.length ∧ dec (xs.getD 1 0) = rfRun l t (t.length - i) ∧ (i = t.length → xs.getD 1 0 = a) ∧ (i < t.length → xs.getD 1 0 = cod (rfRun l t (t.length - i))), fun xs => (xs.getD 0 0 + 1).toNat, fun xs hx _ => vs_none (n := 2) hx, ⟨t.length, rfl, Nat.le_refl _, by rw [Nat.sub_self]; exact hta, fun _ => rfl, fun h => by omega⟩, ?_⟩
  intro xs hx hI
  obtain ⟨d0, d1, rfl⟩ := len2 hx
  obtain ⟨i, hi, hle, hd, hd1, hd2⟩ := hI
  simp only [List.getD_cons_zero, List.getD_cons_succ, List.cons_append, List.nil_append] at hi hd hd1 hd2 ⊢
  subst hi
  refine ⟨fun h0 => ?_, fun h0 => ?_⟩
  · have : i = 0 := by omega
    subst this
    by_cases ht0 : t.length = 0
    · rw [if_pos trivial, if_pos ht0, hd1 ht0.symm]
    · rw [if_pos trivial, if_neg ht0, hd2 (by omega)]
      rfl
  obtain ⟨k, rfl⟩ : ∃ k, i = k + 1 := ⟨i - 1, by omega⟩
  have hk1 : (((k + 1 : Nat) : Int) - 1) = (k : Int) := by omega
  have hw : IntKind.i64.wrap ((k : Int) - 1) = (k : Int) - 1 := wrap64 (by omega) (by omega)
  have hco : ∀ x j, (dec x).getD j 0 = co x j := fun _ _ => rfl
  rw [hk1]
  simp only [hd, hw, dec_cod, hco, Int.toNat_natCast, show Int.toNat 0 = 0 from rfl, show Int.toNat 1 = 1 from rfl, show Int.toNat 2 = 2 from rfl, show Int.toNat 3 = 3 from rfl, show Int.toNat 4 = 4 from rfl, show Int.toNat 5 = 5 from rfl, show Int.toNat 6 = 6 from rfl, show Int.toNat 7 = 7 from rfl, show Int.toNat 8 = 8 from rfl]
  generalize hc : t.length - (k + 1) = c at *
  have hk : t.length - 1 - c = k := by omega
  have hRl := rf_len l t c
  have hco6 := rf_co l t k c
  have hnext : t.length - k = c + 1 := by omega
  have hstep : rfRun l t (c + 1) = (rfRun l t c).set k (cod (rfBox l (rfRun l t c) ((rfRun l t c).getD k 0) ++ [co ((rfRun l t c).getD k 0) 6, co ((rfRun l t c).getD k 0) 7, co ((rfRun l t c).getD k 0) 8])) := by
    rw [rf_succ, rfStep, hk]
  have hsk := hS k (by omega)
  rw [← hco6.1, ← hco6.2.1, ← hco6.2.2] at hsk
  clear hd1 hd2
  generalize hR : rfRun l t c = R at *
  generalize hbb : R.getD k 0 = bb at *
  refine ⟨by omega, fun hlf => ?_, fun hnd => ?_⟩
  · have hlf' := hsk.resolve_right (by omega)
    have hb : rfBox l R bb = six6 (l.getD (co bb 8).toNat 0) := by unfold rfBox; rw [if_pos (by omega)]
    rw [hb] at hstep
    refine ⟨hlf'.2.2.1, hlf'.2.2.2, ⟨k, rfl, by omega, by rw [hnext, hstep]; rfl, fun h => by omega, fun _ => by rw [hnext, hstep]; rfl⟩, by omega⟩
  · have hnd' := hsk.resolve_left (fun h => by omega)
    have hb : rfBox l R bb = ex6 (joinP (six6 (R.getD (co bb 6).toNat 0) ++ six6 (R.getD (co bb 7).toNat 0))) := by unfold rfBox; rw [if_neg (by omega)]
    rw [hb] at hstep
    refine ⟨by omega, by omega, by omega, by omega, ⟨k, rfl, by omega, by rw [hnext, hstep]; rfl, fun h => by omega, fun _ => by rw [hnext, hstep]; rfl⟩, by omega⟩)
#print axioms ok_rrefit
end Go.Proofs.Ytgcoidbaoigkeaa.fix
