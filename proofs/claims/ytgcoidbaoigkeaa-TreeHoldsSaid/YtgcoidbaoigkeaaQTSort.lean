/-
  The document's sorting of items.
-/
import Derived.Test.YtgcoidbaoigkeaaQTDefs
set_option linter.unusedVariables false
set_option linter.unusedSimpArgs false
namespace Go.Proofs.Ytgcoidbaoigkeaa.fix
open Go.RowKit Go.Sx

theorem ax_three {a : Int} (h : 0 ≤ a ∧ a ≤ 2) : a = 0 ∨ a = 1 ∨ a = 2 := by omega
noncomputable def G_ralong : List Sum := []
def I_ralong : List Inf := []
def t_ralong : TX := (.ite (.eq (.v 6) (.c 0)) (.ret [(.add (.v 0) (.v 3))])
(.ite (.eq (.v 6) (.c 1)) (.ret [(.add (.v 1) (.v 4))])
(.ret [(.add (.v 2) (.v 5))])))
theorem tree_ralong : merge (optFL [] I_ralong [] pin_ralong (symFnL Try.prog noLp gl0 G_ralong 1000 107 [An 6, I1] [I1])) = t_ralong := by kernel_rfl
theorem g_ralong : Gok Try.prog G_ralong := noG
theorem o_ralong : outsOK G_ralong I_ralong := outsOK_nil
theorem ok_ralong : s_ralong.ok Try.prog := Sum.okF facts.mixed g_ralong o_ralong tree_ralong rfl (fun _ => rfl) (by
  intro xs hx hp
  obtain ⟨a0, a1, a2, a3, a4, a5, a6, rfl⟩ := len7 hx
  have k6 : 0 ≤ a6 ∧ a6 ≤ 2 := hp.2 6
  simp only [t_ralong, TX.sat, XB.prop, X.den, List.map_cons, List.map_nil, List.getElem?_cons_zero, List.getElem?_cons_succ, List.cons_append, List.nil_append, List.getD_cons_zero, List.getD_cons_succ, mkS, mkP, and_true, true_and, Int.not_lt, Int.not_le, not_or, not_and, Classical.not_not, ne_eq, not_true_eq_false, not_false_eq_true, sem_ralong]
  rcases ax_three k6 with rfl | rfl | rfl
  · exact ⟨fun _ => rfl, fun h => absurd rfl h⟩
  · exact ⟨fun h => absurd h (by decide), fun _ => ⟨fun _ => rfl, fun h => absurd rfl h⟩⟩
  · exact ⟨fun h => absurd h (by decide), fun _ => ⟨fun h => absurd h (by decide), fun _ => rfl⟩⟩)
theorem inf_ralong : InfOK s_ralong i_ralong := ⟨fun _ h => h, fun vs xs h hp => by
  have k0 : -32768 ≤ xs.getD 0 0 ∧ xs.getD 0 0 ≤ 32768 := hp.2 0
  have k1 : -32768 ≤ xs.getD 1 0 ∧ xs.getD 1 0 ≤ 32768 := hp.2 1
  have k2 : -32768 ≤ xs.getD 2 0 ∧ xs.getD 2 0 ≤ 32768 := hp.2 2
  have k3 : -32768 ≤ xs.getD 3 0 ∧ xs.getD 3 0 ≤ 32768 := hp.2 3
  have k4 : -32768 ≤ xs.getD 4 0 ∧ xs.getD 4 0 ≤ 32768 := hp.2 4
  have k5 : -32768 ≤ xs.getD 5 0 ∧ xs.getD 5 0 ≤ 32768 := hp.2 5
  have k6 : 0 ≤ xs.getD 6 0 ∧ xs.getD 6 0 ≤ 2 := hp.2 6
  refine vsOK_cons (iv_def.2 ?_) vsOK_nil
  rcases ax_three k6 with h6 | h6 | h6 <;> rw [h6]
  · show -65536 ≤ xs.getD 0 0 + xs.getD 3 0 ∧ xs.getD 0 0 + xs.getD 3 0 ≤ 65536; omega
  · show -65536 ≤ xs.getD 1 0 + xs.getD 4 0 ∧ xs.getD 1 0 + xs.getD 4 0 ≤ 65536; omega
  · show -65536 ≤ xs.getD 2 0 + xs.getD 5 0 ∧ xs.getD 2 0 + xs.getD 5 0 ≤ 65536; omega⟩
noncomputable def G_rlength : List Sum := []
def I_rlength : List Inf := []
def t_rlength : TX := (.ite (.eq (.v 6) (.c 0)) (.ret [(.sub (.v 3) (.v 0))])
(.ite (.eq (.v 6) (.c 1)) (.ret [(.sub (.v 4) (.v 1))])
(.ret [(.sub (.v 5) (.v 2))])))
theorem tree_rlength : merge (optFL [] I_rlength [] pin_rlength (symFnL Try.prog noLp gl0 G_rlength 1000 80 [An 6, I1] [I1])) = t_rlength := by kernel_rfl
theorem g_rlength : Gok Try.prog G_rlength := noG
theorem o_rlength : outsOK G_rlength I_rlength := outsOK_nil
theorem ok_rlength : s_rlength.ok Try.prog := Sum.okF facts.mixed g_rlength o_rlength tree_rlength rfl (fun _ => rfl) (by
  intro xs hx hp
  obtain ⟨a0, a1, a2, a3, a4, a5, a6, rfl⟩ := len7 hx
  have k6 : 0 ≤ a6 ∧ a6 ≤ 2 := hp.2 6
  simp only [t_rlength, TX.sat, XB.prop, X.den, List.map_cons, List.map_nil, List.getElem?_cons_zero, List.getElem?_cons_succ, List.cons_append, List.nil_append, List.getD_cons_zero, List.getD_cons_succ, mkS, mkP, and_true, true_and, Int.not_lt, Int.not_le, not_or, not_and, Classical.not_not, ne_eq, not_true_eq_false, not_false_eq_true, sem_rlength]
  rcases ax_three k6 with rfl | rfl | rfl
  · exact ⟨fun _ => rfl, fun h => absurd rfl h⟩
  · exact ⟨fun h => absurd h (by decide), fun _ => ⟨fun _ => rfl, fun h => absurd rfl h⟩⟩
  · exact ⟨fun h => absurd h (by decide), fun _ => ⟨fun h => absurd h (by decide), fun _ => rfl⟩⟩)
theorem inf_rlength : InfOK s_rlength i_rlength := ⟨fun _ h => h, fun vs xs h hp => by
  have k0 : -32768 ≤ xs.getD 0 0 ∧ xs.getD 0 0 ≤ 32768 := hp.2 0
  have k1 : -32768 ≤ xs.getD 1 0 ∧ xs.getD 1 0 ≤ 32768 := hp.2 1
  have k2 : -32768 ≤ xs.getD 2 0 ∧ xs.getD 2 0 ≤ 32768 := hp.2 2
  have k3 : -32768 ≤ xs.getD 3 0 ∧ xs.getD 3 0 ≤ 32768 := hp.2 3
  have k4 : -32768 ≤ xs.getD 4 0 ∧ xs.getD 4 0 ≤ 32768 := hp.2 4
  have k5 : -32768 ≤ xs.getD 5 0 ∧ xs.getD 5 0 ≤ 32768 := hp.2 5
  have k6 : 0 ≤ xs.getD 6 0 ∧ xs.getD 6 0 ≤ 2 := hp.2 6
  refine vsOK_cons (iv_def.2 ?_) vsOK_nil
  rcases ax_three k6 with h6 | h6 | h6 <;> rw [h6]
  · show -65536 ≤ xs.getD 3 0 - xs.getD 0 0 ∧ xs.getD 3 0 - xs.getD 0 0 ≤ 65536; omega
  · show -65536 ≤ xs.getD 4 0 - xs.getD 1 0 ∧ xs.getD 4 0 - xs.getD 1 0 ≤ 65536; omega
  · show -65536 ≤ xs.getD 5 0 - xs.getD 2 0 ∧ xs.getD 5 0 - xs.getD 2 0 ≤ 65536; omega⟩
noncomputable def G_rjoin : List Sum := []
def I_rjoin : List Inf := []
def t_rjoin : TX := (.ret [(.mn (.v 0) (.v 6)), (.mn (.v 1) (.v 7)), (.mn (.v 2) (.v 8)), (.mx (.v 3) (.v 9)), (.mx (.v 4) (.v 10)), (.mx (.v 5) (.v 11))])
theorem tree_rjoin : merge (optFL [] I_rjoin [] pin_rjoin (symFnL Try.prog noLp gl0 G_rjoin 1000 46 [An 6, An 6] [An 6])) = t_rjoin := by kernel_rfl
theorem g_rjoin : Gok Try.prog G_rjoin := noG
theorem o_rjoin : outsOK G_rjoin I_rjoin := outsOK_nil
theorem ok_rjoin : s_rjoin.ok Try.prog := Sum.okF facts.mixed g_rjoin o_rjoin tree_rjoin rfl (fun _ => rfl) (by
  intro xs hx hp
  obtain ⟨a0, a1, a2, a3, a4, a5, a6, a7, a8, a9, a10, a11, rfl⟩ := len12 hx
  rfl)

/-! ### sorting, plainly -/
noncomputable def leK (L : List Int) (ax : Nat) (a b : Int) : Bool := !ltK L ax b a
theorem ltK_iff {L : List Int} {ax : Nat} {x y : Int} : ltK L ax x y = true ↔ (keyA L ax x < keyA L ax y ∨ (keyA L ax x = keyA L ax y ∧ x < y)) := by
  unfold ltK
  rw [decide_eq_true_eq]
theorem leK_iff {L : List Int} {ax : Nat} {x y : Int} : leK L ax x y = true ↔ (keyA L ax x < keyA L ax y ∨ (keyA L ax x = keyA L ax y ∧ x ≤ y)) := by
  unfold leK
  rw [Bool.not_eq_true', ← Bool.not_eq_true, ltK_iff]
  omega
theorem sortK_pw (L : List Int) (ax : Nat) (s : List Int) : (sortK L ax s).Pairwise fun a b => leK L ax a b = true :=
  List.pairwise_mergeSort (le := leK L ax) (fun a b c h1 h2 => by rw [leK_iff] at *; omega) (fun a b => by rw [Bool.or_eq_true, leK_iff, leK_iff]; omega) s
theorem sortK_uniq {L : List Int} {ax : Nat} {s l : List Int} (h1 : l.Pairwise fun a b => leK L ax a b = true) (h2 : l.Perm s) : l = sortK L ax s :=
  List.Perm.eq_of_pairwise (fun a b _ _ h1 h2 => by rw [leK_iff] at *; omega) h1 (sortK_pw L ax s) (h2.trans (sortK_perm L ax s).symm)
/-- One more, put where it belongs. -/
theorem sortK_put {L : List Int} {ax : Nat} {s : List Int} {x : Int} {n : Nat} (hn : n ≤ (sortK L ax s).length) (h1 : ∀ j, j < n → ltK L ax x ((sortK L ax s).getD j 0) = false)
    (h2 : n < (sortK L ax s).length → ltK L ax x ((sortK L ax s).getD n 0) = true) : (sortK L ax s).take n ++ [x] ++ (sortK L ax s).drop n = sortK L ax (s ++ [x]) := by
  have hp := sortK_pw L ax s
  have hperm := sortK_perm L ax s
  generalize sortK L ax s = O at *
  apply sortK_uniq
  · rw [List.append_assoc, List.singleton_append, List.pairwise_append]
    have hx1 : ∀ a ∈ O.take n, leK L ax a x = true := by
      intro a ha
      obtain ⟨j, hj⟩ := List.mem_iff_getElem?.1 ha
      have hjn : j < n := by have := (List.getElem?_eq_some_iff.1 hj).1; simp at this; omega
      rw [List.getElem?_take_of_lt hjn] at hj
      have := h1 j hjn
      simp only [List.getD, hj, Option.getD_some] at this
      unfold leK
      rw [this]
      rfl
    have hx2 : ∀ b ∈ O.drop n, leK L ax x b = true := by
      intro b hb
      obtain ⟨j, hj⟩ := List.mem_iff_getElem?.1 hb
      rw [List.getElem?_drop] at hj
      have hjl := (List.getElem?_eq_some_iff.1 hj).1
      have h0 := h2 (by omega)
      have hnl : O[n]? = some (O.getD n 0) := by simp [List.getD, List.getElem?_eq_getElem (by omega : n < O.length)]
      have hle : leK L ax (O.getD n 0) b = true := by
        rcases Nat.eq_zero_or_pos j with rfl | hj0
        · rw [Nat.add_zero] at hj
          rw [hnl] at hj
          cases hj
          rw [leK_iff]; omega
        · have hlt : n < n + j := by omega
          have := List.pairwise_iff_getElem.1 hp n (n + j) (by omega) hjl hlt
          have e1 : O[n]'(by omega) = O.getD n 0 := by simp [List.getD, List.getElem?_eq_getElem (by omega : n < O.length)]
          have e2 : O[n + j]'hjl = b := (List.getElem?_eq_some_iff.1 hj).2
          rwa [e1, e2] at this
      rw [ltK_iff] at h0
      rw [leK_iff] at hle ⊢
      omega
    refine ⟨hp.sublist (List.take_sublist _ _), List.pairwise_cons.2 ⟨hx2, hp.sublist (List.drop_sublist _ _)⟩, ?_⟩
    intro a ha b hb
    rcases List.mem_cons.1 hb with rfl | hb
    · exact hx1 a ha
    · have h3 := hx1 a ha
      have h4 := hx2 b hb
      rw [leK_iff] at *
      omega
  · have h3 : (O.take n ++ [x] ++ O.drop n).Perm (O ++ [x]) := by
      rw [List.append_assoc]
      refine ((List.Perm.append_left _ (List.perm_append_comm (l₁ := [x]) (l₂ := O.drop n)))).trans ?_
      rw [← List.append_assoc, List.take_append_drop]
    exact h3.trans (hperm.append_right _)
theorem sortK_nil (L : List Int) (ax : Nat) : sortK L ax [] = [] := by simp [sortK]
noncomputable def G_rsorted : List Sum := [s_ralong]
def I_rsorted : List Inf := [i_ralong]
def t_rsorted : TX := (.loop 2 [none, none] [.nl, (.c 0)] (.ite (.le (.ln (.v 1)) (.v 4)) (.ret [(.v 3)])
(.loop 1 [none] [(.c 0)] (.ite (.lt (.v 5) (.ln (.v 3))) (.asrt (.le (.c 0) (.v 5)) (.asrt (.le (.c 0) (.l2 .at (.v 3) (.v 5))) (.asrt (.lt (.l2 .at (.v 3) (.v 5)) (.ln (.v 0))) (.call 0 [(.l2 .at (.l2 .at (.v 0) (.l2 .at (.v 3) (.v 5))) (.c 0)), (.l2 .at (.l2 .at (.v 0) (.l2 .at (.v 3) (.v 5))) (.c 1)), (.l2 .at (.l2 .at (.v 0) (.l2 .at (.v 3) (.v 5))) (.c 2)), (.l2 .at (.l2 .at (.v 0) (.l2 .at (.v 3) (.v 5))) (.c 3)), (.l2 .at (.l2 .at (.v 0) (.l2 .at (.v 3) (.v 5))) (.c 4)), (.l2 .at (.l2 .at (.v 0) (.l2 .at (.v 3) (.v 5))) (.c 5)), (.v 2)] (.asrt (.le (.c 0) (.v 4)) (.asrt (.le (.c 0) (.l2 .at (.v 1) (.v 4))) (.asrt (.lt (.l2 .at (.v 1) (.v 4)) (.ln (.v 0))) (.call 0 [(.l2 .at (.l2 .at (.v 0) (.l2 .at (.v 1) (.v 4))) (.c 0)), (.l2 .at (.l2 .at (.v 0) (.l2 .at (.v 1) (.v 4))) (.c 1)), (.l2 .at (.l2 .at (.v 0) (.l2 .at (.v 1) (.v 4))) (.c 2)), (.l2 .at (.l2 .at (.v 0) (.l2 .at (.v 1) (.v 4))) (.c 3)), (.l2 .at (.l2 .at (.v 0) (.l2 .at (.v 1) (.v 4))) (.c 4)), (.l2 .at (.l2 .at (.v 0) (.l2 .at (.v 1) (.v 4))) (.c 5)), (.v 2)] (.ite (.lt (.v 7) (.v 6)) (.asrt (.le (.v 5) (.ln (.v 3))) (.asrt (.le (.ln (.l2 .take (.v 3) (.v 5))) (.c 1000000)) (.asrt (.le (.ln (.l2 .snoc (.l2 .take (.v 3) (.v 5)) (.l2 .at (.v 1) (.v 4)))) (.c 1000000)) (.asrt (.le (.ln (.v 3)) (.ln (.v 3))) (.asrt (.le (.ln (.l2 .app (.l2 .snoc (.l2 .take (.v 3) (.v 5)) (.l2 .at (.v 1) (.v 4))) (.l2 .drop (.l2 .take (.v 3) (.ln (.v 3))) (.v 5)))) (.c 1000000)) (.back 0 [(.l2 .app (.l2 .snoc (.l2 .take (.v 3) (.v 5)) (.l2 .at (.v 1) (.v 4))) (.l2 .drop (.l2 .take (.v 3) (.ln (.v 3))) (.v 5))), (.wr .i64 (.add (.v 4) (.c 1)))]))))))
(.ite (.eq (.v 6) (.v 7)) (.ite (.lt (.l2 .at (.v 1) (.v 4)) (.l2 .at (.v 3) (.v 5))) (.asrt (.le (.v 5) (.ln (.v 3))) (.asrt (.le (.ln (.l2 .take (.v 3) (.v 5))) (.c 1000000)) (.asrt (.le (.ln (.l2 .snoc (.l2 .take (.v 3) (.v 5)) (.l2 .at (.v 1) (.v 4)))) (.c 1000000)) (.asrt (.le (.ln (.v 3)) (.ln (.v 3))) (.asrt (.le (.ln (.l2 .app (.l2 .snoc (.l2 .take (.v 3) (.v 5)) (.l2 .at (.v 1) (.v 4))) (.l2 .drop (.l2 .take (.v 3) (.ln (.v 3))) (.v 5)))) (.c 1000000)) (.back 0 [(.l2 .app (.l2 .snoc (.l2 .take (.v 3) (.v 5)) (.l2 .at (.v 1) (.v 4))) (.l2 .drop (.l2 .take (.v 3) (.ln (.v 3))) (.v 5))), (.wr .i64 (.add (.v 4) (.c 1)))]))))))
(.back 1 [(.wr .i64 (.add (.v 5) (.c 1)))]))
(.back 1 [(.wr .i64 (.add (.v 5) (.c 1)))])))))))))))
(.asrt (.le (.c 0) (.v 5)) (.asrt (.le (.v 5) (.ln (.v 3))) (.asrt (.le (.ln (.l2 .take (.v 3) (.v 5))) (.c 1000000)) (.asrt (.le (.c 0) (.v 4)) (.asrt (.le (.ln (.l2 .snoc (.l2 .take (.v 3) (.v 5)) (.l2 .at (.v 1) (.v 4)))) (.c 1000000)) (.asrt (.le (.ln (.v 3)) (.ln (.v 3))) (.asrt (.le (.ln (.l2 .app (.l2 .snoc (.l2 .take (.v 3) (.v 5)) (.l2 .at (.v 1) (.v 4))) (.l2 .drop (.l2 .take (.v 3) (.ln (.v 3))) (.v 5)))) (.c 1000000)) (.back 0 [(.l2 .app (.l2 .snoc (.l2 .take (.v 3) (.v 5)) (.l2 .at (.v 1) (.v 4))) (.l2 .drop (.l2 .take (.v 3) (.ln (.v 3))) (.v 5))), (.wr .i64 (.add (.v 4) (.c 1)))]))))))))))))
theorem tree_rsorted : merge (optFL [] I_rsorted [] pin_rsorted (symFnL Try.prog (openAt Try.prog [(3, 13), (6, 19)]) gl0 G_rsorted 1000 81 [Bs, Is, I1] [Is])) = t_rsorted := by kernel_rfl
theorem g_rsorted : Gok Try.prog G_rsorted := (fix.one ok_ralong)
theorem o_rsorted : outsOK G_rsorted I_rsorted := (outsOK_cons inf_ralong outsOK_nil)
theorem pin_along {b : Int} {ax : Int} (h : okBox b = true) (hax : 0 ≤ ax ∧ ax ≤ 2) : vsOK pin_ralong [co b 0, co b 1, co b 2, co b 3, co b 4, co b 5, ax] := by
  rw [okBox_iff] at h
  exact vsOK_cons (iv_def.2 (by omega)) (vsOK_cons (iv_def.2 (by omega)) (vsOK_cons (iv_def.2 (by omega)) (vsOK_cons (iv_def.2 (by omega)) (vsOK_cons (iv_def.2 (by omega)) (vsOK_cons (iv_def.2 (by omega)) (vsOK_cons (iv_def.2 hax) vsOK_nil))))))
theorem sem_along {L : List Int} {x ax : Int} (hax : 0 ≤ ax ∧ ax ≤ 2) : [co (L.getD x.toNat 0) 0, co (L.getD x.toNat 0) 1, co (L.getD x.toNat 0) 2, co (L.getD x.toNat 0) 3, co (L.getD x.toNat 0) 4, co (L.getD x.toNat 0) 5, ax].getD ax.toNat 0 +
    [co (L.getD x.toNat 0) 3, co (L.getD x.toNat 0) 4, co (L.getD x.toNat 0) 5, ax].getD ax.toNat 0 = keyA L ax.toNat x := by
  rcases ax_three hax with rfl | rfl | rfl <;> rfl
theorem ok_rsorted : s_rsorted.ok Try.prog := Sum.okPF (pin := pin_rsorted) facts.mixed g_rsorted o_rsorted tree_rsorted rfl (fun _ => rfl) (fun xs h => h.1) (by
  intro xs hx hp
  obtain ⟨cL, cI, ax, rfl⟩ := len3 hx
  have hax : 0 ≤ ax ∧ ax ≤ 2 := hp.1.2 2
  have hI : ItemsPre (dec cI) (dec cL) := hp.2
  clear hp
  have hco : ∀ x j, (dec x).getD j 0 = co x j := fun _ _ => rfl
  simp only [t_rsorted, G_rsorted, s_ralong, TX.sat, XB.prop, X.den, List.map_cons, List.map_nil, List.getElem?_cons_zero, List.getElem?_cons_succ, List.cons_append, List.nil_append, List.getD_cons_zero, List.getD_cons_succ, mkS, mkP, and_true, true_and, Int.not_lt, Int.not_le, not_or, not_and, Classical.not_not, ne_eq, not_true_eq_false, not_false_eq_true, sem_rsorted, sem_ralong, L2.den, dec_cod]
  generalize dec cL = L at *
  generalize dec cI = I at *
  have hn := hI.len
  simp only [hco, show Int.toNat 0 = 0 from rfl, show Int.toNat 1 = 1 from rfl, show Int.toNat 2 = 2 from rfl, show Int.toNat 3 = 3 from rfl, show Int.toNat 4 = 4 from rfl, show Int.toNat 5 = 5 from rfl, Int.toNat_natCast]
  refine ⟨fun ys => ∃ i : Nat, i ≤ I.length ∧ ys = [cod (sortK L ax.toNat (I.take i)), (i : Int)], fun ys => I.length - (ys.getD 1 0).toNat, fun xs hx _ => vs_none (n := 2) hx, ⟨0, Nat.zero_le _, by rw [List.take_zero, sortK_nil]; rfl⟩, ?_⟩
  rintro xs hx ⟨i, hi, rfl⟩
  simp only [TX.sat, XB.prop, X.den, List.map_cons, List.map_nil, List.getElem?_cons_zero, List.getElem?_cons_succ, List.cons_append, List.nil_append, List.getD_cons_zero, List.getD_cons_succ, mkS, mkP, and_true, true_and, Int.not_lt, Int.not_le, not_or, not_and, Classical.not_not, ne_eq, not_true_eq_false, not_false_eq_true, dec_cod, Int.toNat_natCast]
  refine ⟨fun h => by rw [List.take_of_length_le (by omega)], fun h => ?_⟩
  have hit : ∀ x ∈ I, (0 ≤ x ∧ x < (L.length : Int)) ∧ okBox (L.getD x.toNat 0) = true := fun x hx => ⟨hI.its x hx, hI.bxs _ (mem_at (by have := hI.its x hx; omega))⟩
  have hxI := hit _ (mem_at (l := I) (i := i) (by omega))
  have hOl : (sortK L ax.toNat (I.take i)).length = i := by rw [sortK_len, List.length_take]; omega
  have hOm : ∀ j, j < i → (0 ≤ (sortK L ax.toNat (I.take i)).getD j 0 ∧ (sortK L ax.toNat (I.take i)).getD j 0 < (L.length : Int)) ∧ okBox (L.getD ((sortK L ax.toNat (I.take i)).getD j 0).toNat 0) = true := fun j hj =>
    hit _ (List.mem_of_mem_take (sortK_mem.1 (mem_at (l := sortK L ax.toNat (I.take i)) (i := j) (by omega))))
  have hput : ∀ n, n ≤ i → (∀ j, j < n → ltK L ax.toNat (I.getD i 0) ((sortK L ax.toNat (I.take i)).getD j 0) = false) → (n < i → ltK L ax.toNat (I.getD i 0) ((sortK L ax.toNat (I.take i)).getD n 0) = true) →
      (sortK L ax.toNat (I.take i)).take n ++ [I.getD i 0] ++ (sortK L ax.toNat (I.take i)).drop n = sortK L ax.toNat (I.take (i + 1)) := fun n h1 h2 h3 => by
    rw [sortK_put (by omega) h2 (fun h => h3 (by omega))]
    congr 1
    rw [List.take_add_one, List.getElem?_eq_getElem (by omega)]
    simp [List.getD, List.getElem?_eq_getElem (by omega : i < I.length)]
  generalize hO : sortK L ax.toNat (I.take i) = O at *
  generalize hx : I.getD i 0 = x at *
  refine ⟨fun ys => ∃ j : Nat, j ≤ i ∧ ys = [(j : Int)] ∧ ∀ j', j' < j → ltK L ax.toNat x (O.getD j' 0) = false, fun ys => i - (ys.getD 0 0).toNat, fun xs hx _ => vs_none (n := 1) hx, ⟨0, Nat.zero_le _, rfl, fun _ h => absurd h (by omega)⟩, ?_⟩
  rintro xs hx' ⟨j, hj, rfl, hbef⟩
  simp only [TX.sat, XB.prop, X.den, List.map_cons, List.map_nil, List.getElem?_cons_zero, List.getElem?_cons_succ, List.cons_append, List.nil_append, List.getD_cons_zero, List.getD_cons_succ, mkS, mkP, and_true, true_and, Int.not_lt, Int.not_le, not_or, not_and, Classical.not_not, ne_eq, not_true_eq_false, not_false_eq_true, co_cod, dec_cod, Int.toNat_natCast]
  have htk : O.take O.length = O := List.take_length
  have hw1 : IntKind.i64.wrap ((i : Int) + 1) = ((i + 1 : Nat) : Int) := by rw [wrap64 (by omega) (by omega)]; omega
  have hw2 : IntKind.i64.wrap ((j : Int) + 1) = ((j + 1 : Nat) : Int) := by rw [wrap64 (by omega) (by omega)]; omega
  rw [hw1, hw2]
  have hl1 : (O.take j).length = j := by rw [List.length_take]; omega
  have hl2 : ((O.take j ++ [x]).length : Int) = (j : Int) + 1 := by rw [List.length_append, hl1]; simp
  have hl3 : ((O.take j ++ [x] ++ O.drop j).length : Int) = (i : Int) + 1 := by rw [List.length_append, List.length_drop]; omega
  have hback : (j < i → ltK L ax.toNat x (O.getD j 0) = true) → (∃ i_1 : Nat, i_1 ≤ I.length ∧ [cod (O.take j ++ [x] ++ O.drop j), ((i + 1 : Nat) : Int)] = [cod (sortK L ax.toNat (I.take i_1)), (i_1 : Int)]) ∧ I.length - ((i + 1 : Nat) : Int).toNat < I.length - i := fun h =>
    ⟨⟨i + 1, by omega, by rw [hput j hj hbef h]⟩, by omega⟩
  refine ⟨fun h => ?_, fun h => ?_⟩
  · have hjO := hOm j (by omega)
    have hkx : keyA L ax.toNat x = _ := (sem_along (L := L) (x := x) hax).symm
    have hko : keyA L ax.toNat (O.getD j 0) = _ := (sem_along (L := L) (x := O.getD j 0) hax).symm
    rw [← hkx, ← hko]
    have hstop : ltK L ax.toNat x (O.getD j 0) = true → _ := fun h => hback (fun _ => h)
    have hgo : ltK L ax.toNat x (O.getD j 0) = false → (∃ j_1 : Nat, j_1 ≤ i ∧ [((j + 1 : Nat) : Int)] = [(j_1 : Int)] ∧ ∀ j', j' < j_1 → ltK L ax.toNat x (O.getD j' 0) = false) ∧ i - ((j + 1 : Nat) : Int).toNat < i - j := fun h =>
      ⟨⟨j + 1, by omega, rfl, fun j' hj' => by
        rcases Nat.lt_or_ge j' j with h1 | h1
        · exact hbef j' h1
        · obtain rfl : j' = j := by omega
          exact h⟩, by omega⟩
    refine ⟨by omega, hjO.1.1, hjO.1.2, pin_along hjO.2 hax, by omega, hxI.1.1, hxI.1.2, pin_along hxI.2 hax, fun h1 => ?_, fun h1 => ⟨fun h2 => ⟨fun h3 => ?_, fun h3 => ?_⟩, fun h2 => ?_⟩⟩
    · rw [htk]
      exact ⟨by omega, by rw [hl1]; omega, by rw [hl2]; omega, by omega, by rw [hl3]; omega, hstop (by rw [ltK_iff]; omega)⟩
    · rw [htk]
      exact ⟨by omega, by rw [hl1]; omega, by rw [hl2]; omega, by omega, by rw [hl3]; omega, hstop (by rw [ltK_iff]; omega)⟩
    · exact hgo (by rw [← Bool.not_eq_true, ltK_iff]; omega)
    · exact hgo (by rw [← Bool.not_eq_true, ltK_iff]; omega)
  · rw [htk]
    exact ⟨by omega, by omega, by rw [hl1]; omega, by omega, by rw [hl2]; omega, by omega, by rw [hl3]; omega, hback (fun h => absurd h (by omega))⟩)
theorem inf_rsorted : InfOK s_rsorted i_rsorted := ⟨fun xs h => (small_not xs h).elim, fun vs xs h hp => vsOK_cons trivial vsOK_nil⟩
#print axioms ok_rsorted
end Go.Proofs.Ytgcoidbaoigkeaa.fix
