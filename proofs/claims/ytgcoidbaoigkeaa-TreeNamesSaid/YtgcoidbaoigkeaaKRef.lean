/-
  What the document's functions for trees come to.
-/
import Derived.Test.YtgcoidbaoigkeaaKPlain
import Derived.Test.YtgcoidbaoigkeaaHRefit
set_option linter.unusedVariables false
set_option linter.unusedSimpArgs false
namespace Go.Proofs.Ytgcoidbaoigkeaa.fix
open Go.RowKit Go.Sx

noncomputable def G_rbmay : List Sum := []
def I_rbmay : List Inf := []
def t_rbmay : TX := (.ite (.or (.or (.lt (.v 0) (.c (-32768))) (.lt (.c 32768) (.v 0))) (.or (.or (.lt (.v 1) (.c (-32768))) (.lt (.c 32768) (.v 1))) (.or (.or (.lt (.v 2) (.c (-32768))) (.lt (.c 32768) (.v 2))) (.or (.or (.lt (.v 3) (.c (-32768))) (.lt (.c 32768) (.v 3))) (.or (.or (.lt (.v 4) (.c (-32768))) (.lt (.c 32768) (.v 4))) (.or (.or (.lt (.v 5) (.c (-32768))) (.lt (.c 32768) (.v 5))) (.or (.lt (.v 3) (.v 0)) (.lt (.v 4) (.v 1))))))))) (.ret [(.c 0)])
(.ite (.le (.v 2) (.v 5)) (.ret [(.c 1)])
(.ret [(.c 0)])))
theorem tree_rbmay : merge (optFL [] I_rbmay [] pin_rbmay (symFnL Try.prog noLp gl0 G_rbmay 1000 73 [An 6] [Bo])) = t_rbmay := by kernel_rfl
theorem g_rbmay : Gok Try.prog G_rbmay := noG
theorem o_rbmay : outsOK G_rbmay I_rbmay := outsOK_nil
theorem ok_rbmay : s_rbmay.ok Try.prog := Sum.okF facts.mixed g_rbmay o_rbmay tree_rbmay rfl (fun _ => rfl) (by
  intro xs hx hp
  obtain ⟨a0, a1, a2, a3, a4, a5, rfl⟩ := len6 hx
  by_cases hc0 : boxB [a0, a1, a2, a3, a4, a5] 0 = true
  · have hd0 := hc0
    try simp only [boxB_true, TX.sat, XB.prop, X.den, List.map_cons, List.map_nil, List.getElem?_cons_zero, List.getElem?_cons_succ, List.cons_append, List.nil_append, List.getD_cons_zero, List.getD_cons_succ, mkS, mkP, and_true, true_and, Int.not_lt, Int.not_le, not_or, not_and, Classical.not_not, ne_eq, not_true_eq_false, not_false_eq_true, Nat.reduceAdd, Nat.zero_add] at hd0
    simp only [t_rbmay, G_rbmay, TX.sat, XB.prop, X.den, List.map_cons, List.map_nil, List.getElem?_cons_zero, List.getElem?_cons_succ, List.cons_append, List.nil_append, List.getD_cons_zero, List.getD_cons_succ, mkS, mkP, and_true, true_and, Int.not_lt, Int.not_le, not_or, not_and, Classical.not_not, ne_eq, not_true_eq_false, not_false_eq_true, sem_rbmay, hc0, ex3, ex4, ex5, ex6, ex13, ex16, er, b01, dec_true, if_true, if_false, reduceIte, Bool.false_eq_true, Nat.reduceAdd, Nat.zero_add]
    clear hc0
    repeat' first | exact trivial | refine And.intro ?_ ?_ | intro _
    all_goals first | trivial | rfl | omega | (simp [Int.max_comm, Int.min_comm]; done) | (simp only [List.cons.injEq, and_true, true_and]; omega) | (split <;> first | trivial | rfl | omega)
  · have hd0 := hc0
    try simp only [boxB_true, TX.sat, XB.prop, X.den, List.map_cons, List.map_nil, List.getElem?_cons_zero, List.getElem?_cons_succ, List.cons_append, List.nil_append, List.getD_cons_zero, List.getD_cons_succ, mkS, mkP, and_true, true_and, Int.not_lt, Int.not_le, not_or, not_and, Classical.not_not, ne_eq, not_true_eq_false, not_false_eq_true, Nat.reduceAdd, Nat.zero_add] at hd0
    simp only [t_rbmay, G_rbmay, TX.sat, XB.prop, X.den, List.map_cons, List.map_nil, List.getElem?_cons_zero, List.getElem?_cons_succ, List.cons_append, List.nil_append, List.getD_cons_zero, List.getD_cons_succ, mkS, mkP, and_true, true_and, Int.not_lt, Int.not_le, not_or, not_and, Classical.not_not, ne_eq, not_true_eq_false, not_false_eq_true, sem_rbmay, hc0, ex3, ex4, ex5, ex6, ex13, ex16, er, b01, dec_true, if_true, if_false, reduceIte, Bool.false_eq_true, Nat.reduceAdd, Nat.zero_add]
    clear hc0
    repeat' first | exact trivial | refine And.intro ?_ ?_ | intro _
    all_goals first | trivial | rfl | omega | (simp [Int.max_comm, Int.min_comm]; done) | (simp only [List.cons.injEq, and_true, true_and]; omega) | (split <;> first | trivial | rfl | omega))
theorem inf_rbmay : InfOK s_rbmay i_rbmay := ⟨fun _ h => h, fun vs xs h hp => vsOK_cons (b01_iv _) vsOK_nil⟩
noncomputable def G_rboxes : List Sum := [s_rbmay]
def I_rboxes : List Inf := [i_rbmay]
def t_rboxes : TX := (.ite (.lt (.c 256) (.ln (.v 0))) (.ret [(.c 4)])
(.loop 2 [none, none] [(.c 0), (.c 0)] (.ite (.le (.ln (.v 0)) (.v 2)) (.ret [(.c 0)])
(.asrt (.le (.c 0) (.v 2)) (.call 0 [(.l2 .at (.l2 .at (.v 0) (.v 2)) (.c 0)), (.l2 .at (.l2 .at (.v 0) (.v 2)) (.c 1)), (.l2 .at (.l2 .at (.v 0) (.v 2)) (.c 2)), (.l2 .at (.l2 .at (.v 0) (.v 2)) (.c 3)), (.l2 .at (.l2 .at (.v 0) (.v 2)) (.c 4)), (.l2 .at (.l2 .at (.v 0) (.v 2)) (.c 5))] (.ite (.eq (.v 3) (.c 0)) (.ret [(.c 8)])
(.back 0 [(.v 1), (.wr .i64 (.add (.v 2) (.c 1)))])))))))
theorem tree_rboxes : merge (optFL [] I_rboxes [] pin_rboxes (symFnL Try.prog (openAt Try.prog [(4, 7)]) gl0 G_rboxes 1000 43 [Bs] [I1])) = t_rboxes := by kernel_rfl
theorem g_rboxes : Gok Try.prog G_rboxes := (fix.one ok_rbmay)
theorem o_rboxes : outsOK G_rboxes I_rboxes := (outsOK_cons inf_rbmay outsOK_nil)
theorem ok_rboxes : s_rboxes.ok Try.prog := Sum.okPF (pin := pin_rboxes) facts.mixed g_rboxes o_rboxes tree_rboxes rfl (fun _ => rfl) (fun xs h => h.1) (by
  intro xs hx hp
  obtain ⟨a, rfl⟩ : ∃ a, xs = [a] := by
    match xs, hx with
    | [a], _ => exact ⟨a, rfl⟩
  have hel : ∀ b ∈ dec a, rangeOK Bs_ks (dec b) := hp.2
  clear hp
  simp only [t_rboxes, G_rboxes, s_rbmay, TX.sat, XB.prop, X.den, List.map_cons, List.map_nil, List.getElem?_cons_zero, List.getElem?_cons_succ, List.cons_append, List.nil_append, List.getD_cons_zero, List.getD_cons_succ, mkS, mkP, and_true, true_and, Int.not_lt, Int.not_le, not_or, not_and, Classical.not_not, ne_eq, not_true_eq_false, not_false_eq_true, sem_rboxes, sem_rbmay, L2.den]
  generalize dec a = l at hel ⊢
  unfold boxesE
  refine ⟨fun h => ?_, fun h => ?_⟩
  · rw [if_neg (by omega)]
  rw [if_pos (by omega)]
  refine ⟨fun xs => ∃ i : Nat, xs.getD 1 0 = (i : Int) ∧ i ≤ l.length ∧ ∀ j, j < i → okBox (l.getD j 0) = true, fun xs => l.length - (xs.getD 1 0).toNat, fun xs hx _ => vs_none (n := 2) hx, ⟨0, rfl, by omega, fun j hj => by omega⟩, ?_⟩
  intro xs hx hI
  obtain ⟨d0, d1, rfl⟩ := len2 hx
  obtain ⟨i, hi, hle, hall⟩ := hI
  simp only [List.getD_cons_zero, List.getD_cons_succ, List.cons_append, List.nil_append] at hi ⊢
  subst hi
  have hco : ∀ x j, (dec x).getD j 0 = co x j := fun _ _ => rfl
  simp only [Int.toNat_natCast, hco, show Int.toNat 0 = 0 from rfl, show Int.toNat 1 = 1 from rfl, show Int.toNat 2 = 2 from rfl, show Int.toNat 3 = 3 from rfl, show Int.toNat 4 = 4 from rfl, show Int.toNat 5 = 5 from rfl]
  refine ⟨fun hge => ?_, fun hlt => ?_⟩
  · rw [if_pos (all_upto hall (by omega))]
  · have hil : i < l.length := by omega
    obtain ⟨e0, e1, e2, e3, e4, e5⟩ := six_in (hel _ (mem_at hil))
    refine ⟨by omega, vsOK_cons e0 (vsOK_cons e1 (vsOK_cons e2 (vsOK_cons e3 (vsOK_cons e4 (vsOK_cons e5 vsOK_nil))))), ?_⟩
    have hok : okBox (l.getD i 0) = boxB [co (l.getD i 0) 0, co (l.getD i 0) 1, co (l.getD i 0) 2, co (l.getD i 0) 3, co (l.getD i 0) 4, co (l.getD i 0) 5] 0 := rfl
    rw [← hok]
    cases hb : okBox (l.getD i 0) with
    | true =>
      refine ⟨fun h => absurd h (by decide), fun _ => ?_⟩
      have hw : IntKind.i64.wrap ((i : Int) + 1) = ((i + 1 : Nat) : Int) := by rw [wrap64 (by omega) (by omega)]; omega
      rw [hw]
      refine ⟨⟨i + 1, rfl, by omega, fun j hj => ?_⟩, by rw [Int.toNat_natCast]; omega⟩
      rcases Nat.lt_or_ge j i with h1 | h1
      · exact hall j h1
      · have : j = i := by omega
        subst this
        exact hb
    | false =>
      refine ⟨fun _ => ?_, fun h => absurd rfl h⟩
      rw [if_neg (not_all hil (by rw [hb]; decide))])
theorem inf_rboxes : InfOK s_rboxes i_rboxes := ⟨fun xs h => (small_not xs h).elim, fun vs xs h hp => vsOK_cons (boxesE_iv _) vsOK_nil⟩

/-! ### ends -/
theorem ends_gt {l : List Int} {f : Nat} {i e : Int} (hi : 0 ≤ i) (h : endsN l f i = e) (he : 0 ≤ e) : i < e ∧ e ≤ (l.length : Int) := by
  obtain ⟨s, rfl⟩ : ∃ s : Nat, i = (s : Int) := ⟨i.toNat, by omega⟩
  obtain ⟨T, e', rfl, hT⟩ := sh_of_ends f s e h he
  have h1 := hT.le
  have := T.size_leaves
  omega
theorem ends_fuel {l : List Int} : ∀ (f : Nat) (i : Int), 0 ≤ i → (l.length : Int) + 1 ≤ f + i → endsN l f i = endsN l (f + 1) i
  | 0, i, hi, h => by
    unfold endsN
    rw [if_pos (by omega)]
  | f + 1, i, hi, h => by
    have h1 := ends_fuel (l := l) f (i + 1) (by omega) (by omega)
    show (if (l.length : Int) ≤ i then (-1 : Int) else _) = (if (l.length : Int) ≤ i then (-1 : Int) else _)
    rw [← h1]
    by_cases hm : endsN l f (i + 1) < 0
    · simp only [hm, true_or, if_true]
    · have hg := ends_gt (l := l) (f := f) (by omega : 0 ≤ i + 1) rfl (by omega : 0 ≤ endsN l f (i + 1))
      rw [← ends_fuel f (endsN l f (i + 1)) (by omega) (by omega)]
theorem ends_iv {l : List Int} {f : Nat} {i : Int} (hi : 0 ≤ i) : -1 ≤ endsN l f i ∧ endsN l f i ≤ (l.length : Int) := by
  by_cases h : 0 ≤ endsN l f i
  · have := ends_gt hi rfl h
    omega
  · refine ⟨?_, by omega⟩
    cases f with
    | zero => unfold endsN; omega
    | succ f =>
      have key : ∀ (f : Nat) (i : Int), -1 ≤ i → -1 ≤ endsN l f i := by
        intro f
        induction f with
        | zero => intro i _; unfold endsN; omega
        | succ f ih =>
          intro i hi
          unfold endsN
          split
          · omega
          · split
            · omega
            · split
              · omega
              · split
                · omega
                · rename_i hm
                  exact ih _ (by omega)
      exact key _ _ (by omega)
def t_rendsR : TX := (.ite (.le (.ln (.v 0)) (.v 1)) (.ret [(.c (-1))])
(.ite (.and (.eq (.l2 .at (.l2 .at (.v 0) (.v 1)) (.c 6)) (.c (-1))) (.eq (.l2 .at (.l2 .at (.v 0) (.v 1)) (.c 7)) (.c (-1)))) (.ret [(.add (.v 1) (.c 1))])
(.ite (.or (.not (.eq (.l2 .at (.l2 .at (.v 0) (.v 1)) (.c 6)) (.add (.v 1) (.c 1)))) (.not (.eq (.l2 .at (.l2 .at (.v 0) (.v 1)) (.c 8)) (.c (-1))))) (.ret [(.c (-1))])
(.call 0 [(.v 0), (.add (.v 1) (.c 1))] (.ite (.or (.lt (.v 2) (.c 0)) (.not (.eq (.l2 .at (.l2 .at (.v 0) (.v 1)) (.c 7)) (.v 2)))) (.ret [(.c (-1))])
(.call 0 [(.v 0), (.v 2)] (.ret [(.v 3)])))))))
theorem tree_rendsK (k : Nat) : merge (optFL [] [i_rendsk0] [] pin_rends (symFnL Try.prog noLp gl0 [s_rendsK k] 1000 74 [Brs, I1] [I1])) = t_rendsR := by kernel_rfl
theorem inf_rendsK (k : Nat) : InfOK (s_rendsK k) i_rendsk0 := ⟨fun xs h => (small_not xs h).elim, fun vs xs h hp => by
  have h0 : 0 ≤ xs.getD 1 0 := (hp.2.1.2 1).1
  have hl : (dec (xs.getD 0 0)).length ≤ 1000 := hp.2.2.1
  have := ends_iv (l := dec (xs.getD 0 0)) (f := (dec (xs.getD 0 0)).length + 1) h0
  exact vsOK_cons ⟨this.1, by show _ ≤ (2000 : Int); omega⟩ vsOK_nil⟩
theorem rendsK_ok : ∀ k, (s_rendsK k).ok Try.prog
  | 0 => ⟨fun sh h => (by
      have h' : sh ∈ [Brs, I1, I1] := h
      simp only [List.mem_cons, List.mem_nil_iff, or_false, or_self] at h'
      rcases h' with rfl | rfl
      · exact .inr rfl
      · exact .inr rfl), fun xs vs w hgl hx hpre => absurd hpre.1 (by omega)⟩
  | k + 1 => Sum.okPL facts.mixed (fix.one (rendsK_ok k)) (outsOK_cons (inf_rendsK k) outsOK_nil) (tree_rendsK k) rfl (fun _ => rfl) (fun xs h => h.2.1) (by
    intro xs hx hp
    obtain ⟨a, i, rfl⟩ := len2 hx
    have h0 : 0 ≤ i := (hp.2.1.2 1).1
    have hl : (dec a).length ≤ 1000 := hp.2.2.1
    have hk : (dec a).length < k + 1 + i.toNat := hp.2.2.2
    clear hp
    simp only [t_rendsR, s_rendsK, TX.sat, XB.prop, X.den, List.map_cons, List.map_nil, List.getElem?_cons_zero, List.getElem?_cons_succ, List.cons_append, List.nil_append, List.getD_cons_zero, List.getD_cons_succ, mkS, mkP, and_true, true_and, Int.not_lt, Int.not_le, not_or, not_and, Classical.not_not, ne_eq, not_true_eq_false, not_false_eq_true, sem_rends, L2.den]
    have pre1 : (dec a).length > i → pre_rends k [a, i + 1] := fun h => ⟨by omega, vsOK_cons trivial (vsOK_cons ⟨by show (0:Int) ≤ _; omega, by show _ ≤ (2000:Int); omega⟩ vsOK_nil), hl, by show (dec a).length < k + (i + 1).toNat; omega⟩
    have hf1 := ends_fuel (l := dec a) (dec a).length (i + 1) (by omega) (by omega)
    have hiv := ends_iv (l := dec a) (f := (dec a).length + 1) (by omega : 0 ≤ i + 1)
    have hun : endsN (dec a) ((dec a).length + 1) i = if ((dec a).length : Int) ≤ i then -1 else
      if co ((dec a).getD i.toNat 0) 6 = -1 ∧ co ((dec a).getD i.toNat 0) 7 = -1 then i + 1 else
      if co ((dec a).getD i.toNat 0) 6 ≠ i + 1 ∨ co ((dec a).getD i.toNat 0) 8 ≠ -1 then -1 else
      if endsN (dec a) ((dec a).length + 1) (i + 1) < 0 ∨ co ((dec a).getD i.toNat 0) 7 ≠ endsN (dec a) ((dec a).length + 1) (i + 1) then -1 else endsN (dec a) (dec a).length (endsN (dec a) ((dec a).length + 1) (i + 1)) := by rw [← hf1]; rfl
    rw [hun]
    clear hun hf1
    have hco : ∀ x j, (dec x).getD j 0 = co x j := fun _ _ => rfl
    simp only [hco, show Int.toNat 6 = 6 from rfl, show Int.toNat 7 = 7 from rfl, show Int.toNat 8 = 8 from rfl]
    generalize hm : endsN (dec a) ((dec a).length + 1) (i + 1) = m at *
    refine ⟨fun h => by rw [if_pos h], fun h => ?_⟩
    rw [if_neg (by omega)]
    refine ⟨fun h => by rw [if_pos h], fun h => ?_⟩
    rw [if_neg (by omega)]
    refine ⟨fun h => by rw [if_pos h], fun h => ?_⟩
    rw [if_neg (by omega)]
    refine ⟨pre1 (by omega), fun h => by rw [if_pos h], fun h => ?_⟩
    rw [if_neg (by omega)]
    have hg := ends_gt (by omega : 0 ≤ i + 1) hm (by omega)
    refine ⟨⟨by omega, vsOK_cons trivial (vsOK_cons ⟨by show (0:Int) ≤ _; omega, by show _ ≤ (2000:Int); omega⟩ vsOK_nil), hl, by show (dec a).length < k + m.toNat; omega⟩, ?_⟩
    rw [ends_fuel (l := dec a) (dec a).length m (by omega) (by omega)])
theorem ok_rends : s_rends.ok Try.prog := ⟨(rendsK_ok 0).1, fun xs vs w hgl hx hp => (rendsK_ok ((dec (xs.getD 0 0)).length + 1)).2 xs vs w hgl hx ⟨by omega, hp.1, hp.2, by omega⟩⟩
theorem inf_rends : InfOK s_rends i_rends := ⟨fun xs h => (small_not xs h).elim, fun vs xs h hp => by
  have h0 : 0 ≤ xs.getD 1 0 := (hp.1.2 1).1
  have hl : (dec (xs.getD 0 0)).length ≤ 1000 := hp.2
  have := ends_iv (l := dec (xs.getD 0 0)) (f := (dec (xs.getD 0 0)).length + 1) h0
  exact vsOK_cons ⟨this.1, by show _ ≤ (2000 : Int); omega⟩ vsOK_nil⟩
#print axioms ok_rends
end Go.Proofs.Ytgcoidbaoigkeaa.fix
