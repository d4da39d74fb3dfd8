/-
  The document's sorting of items.
-/
import Derived.Test.YtgcoidbaoigkeaaQTDefs
import Derived.Test.YtgcoidbaoigkeaaSwPr
import Derived.Test.YtgcoidbaoigkeaaKRef
set_option linter.unusedVariables false
set_option linter.unusedSimpArgs false
namespace Go.Proofs.Ytgcoidbaoigkeaa.fix
open Go.RowKit Go.Sx

theorem ax_three {a : Int} (h : 0 ≤ a ∧ a ≤ 2) : a = 0 ∨ a = 1 ∨ a = 2 := by omega
noncomputable def G_ralong : List Sum := []
def I_ralong : List Inf := []
def t_ralong : TX := (.ite (.eq (.v 6) (.c 0)) (.ret [(.add (.v 0) (.v 3))])
(.ite (.eq (.v 6) (.c 1)) (.ret [(.add (.v 1) (.v 4))])
(.ret [(.add (.v 2) (.v 5))])))
theorem tree_ralong : merge (optFL [] I_ralong [] pin_ralong (symFnL Try.prog noLp gl0 G_ralong 1000 107 [An 6, I1] [I1])) = t_ralong := by kernel_rfl
theorem g_ralong : Gok Try.prog G_ralong := noG
theorem o_ralong : outsOK G_ralong I_ralong := outsOK_nil
theorem ok_ralong : s_ralong.ok Try.prog := Sum.okF facts.mixed g_ralong o_ralong tree_ralong rfl (fun _ => rfl) (by
  intro xs hx hp
  obtain ⟨a0, a1, a2, a3, a4, a5, a6, rfl⟩ := len7 hx
  have k6 : 0 ≤ a6 ∧ a6 ≤ 2 := hp.2 6
  simp only [t_ralong, TX.sat, XB.prop, X.den, List.map_cons, List.map_nil, List.getElem?_cons_zero, List.getElem?_cons_succ, List.cons_append, List.nil_append, List.getD_cons_zero, List.getD_cons_succ, mkS, mkP, and_true, true_and, Int.not_lt, Int.not_le, not_or, not_and, Classical.not_not, ne_eq, not_true_eq_false, not_false_eq_true, sem_ralong]
  rcases ax_three k6 with rfl | rfl | rfl
  · exact ⟨fun _ => rfl, fun h => absurd rfl h⟩
  · exact ⟨fun h => absurd h (by decide), fun _ => ⟨fun _ => rfl, fun h => absurd rfl h⟩⟩
  · exact ⟨fun h => absurd h (by decide), fun _ => ⟨fun h => absurd h (by decide), fun _ => rfl⟩⟩)
theorem inf_ralong : InfOK s_ralong i_ralong := ⟨fun _ h => h, fun vs xs h hp => by
  have k0 : -32768 ≤ xs.getD 0 0 ∧ xs.getD 0 0 ≤ 32768 := hp.2 0
  have k1 : -32768 ≤ xs.getD 1 0 ∧ xs.getD 1 0 ≤ 32768 := hp.2 1
  have k2 : -32768 ≤ xs.getD 2 0 ∧ xs.getD 2 0 ≤ 32768 := hp.2 2
  have k3 : -32768 ≤ xs.getD 3 0 ∧ xs.getD 3 0 ≤ 32768 := hp.2 3
  have k4 : -32768 ≤ xs.getD 4 0 ∧ xs.getD 4 0 ≤ 32768 := hp.2 4
  have k5 : -32768 ≤ xs.getD 5 0 ∧ xs.getD 5 0 ≤ 32768 := hp.2 5
  have k6 : 0 ≤ xs.getD 6 0 ∧ xs.getD 6 0 ≤ 2 := hp.2 6
  refine vsOK_cons (iv_def.2 ?_) vsOK_nil
  rcases ax_three k6 with h6 | h6 | h6 <;> rw [h6]
  · show -65536 ≤ xs.getD 0 0 + xs.getD 3 0 ∧ xs.getD 0 0 + xs.getD 3 0 ≤ 65536; omega
  · show -65536 ≤ xs.getD 1 0 + xs.getD 4 0 ∧ xs.getD 1 0 + xs.getD 4 0 ≤ 65536; omega
  · show -65536 ≤ xs.getD 2 0 + xs.getD 5 0 ∧ xs.getD 2 0 + xs.getD 5 0 ≤ 65536; omega⟩
noncomputable def G_rlength : List Sum := []
def I_rlength : List Inf := []
def t_rlength : TX := (.ite (.eq (.v 6) (.c 0)) (.ret [(.sub (.v 3) (.v 0))])
(.ite (.eq (.v 6) (.c 1)) (.ret [(.sub (.v 4) (.v 1))])
(.ret [(.sub (.v 5) (.v 2))])))
theorem tree_rlength : merge (optFL [] I_rlength [] pin_rlength (symFnL Try.prog noLp gl0 G_rlength 1000 80 [An 6, I1] [I1])) = t_rlength := by kernel_rfl
theorem g_rlength : Gok Try.prog G_rlength := noG
theorem o_rlength : outsOK G_rlength I_rlength := outsOK_nil
theorem ok_rlength : s_rlength.ok Try.prog := Sum.okF facts.mixed g_rlength o_rlength tree_rlength rfl (fun _ => rfl) (by
  intro xs hx hp
  obtain ⟨a0, a1, a2, a3, a4, a5, a6, rfl⟩ := len7 hx
  have k6 : 0 ≤ a6 ∧ a6 ≤ 2 := hp.2 6
  simp only [t_rlength, TX.sat, XB.prop, X.den, List.map_cons, List.map_nil, List.getElem?_cons_zero, List.getElem?_cons_succ, List.cons_append, List.nil_append, List.getD_cons_zero, List.getD_cons_succ, mkS, mkP, and_true, true_and, Int.not_lt, Int.not_le, not_or, not_and, Classical.not_not, ne_eq, not_true_eq_false, not_false_eq_true, sem_rlength]
  rcases ax_three k6 with rfl | rfl | rfl
  · exact ⟨fun _ => rfl, fun h => absurd rfl h⟩
  · exact ⟨fun h => absurd h (by decide), fun _ => ⟨fun _ => rfl, fun h => absurd rfl h⟩⟩
  · exact ⟨fun h => absurd h (by decide), fun _ => ⟨fun h => absurd h (by decide), fun _ => rfl⟩⟩)
theorem inf_rlength : InfOK s_rlength i_rlength := ⟨fun _ h => h, fun vs xs h hp => by
  have k0 : -32768 ≤ xs.getD 0 0 ∧ xs.getD 0 0 ≤ 32768 := hp.2 0
  have k1 : -32768 ≤ xs.getD 1 0 ∧ xs.getD 1 0 ≤ 32768 := hp.2 1
  have k2 : -32768 ≤ xs.getD 2 0 ∧ xs.getD 2 0 ≤ 32768 := hp.2 2
  have k3 : -32768 ≤ xs.getD 3 0 ∧ xs.getD 3 0 ≤ 32768 := hp.2 3
  have k4 : -32768 ≤ xs.getD 4 0 ∧ xs.getD 4 0 ≤ 32768 := hp.2 4
  have k5 : -32768 ≤ xs.getD 5 0 ∧ xs.getD 5 0 ≤ 32768 := hp.2 5
  have k6 : 0 ≤ xs.getD 6 0 ∧ xs.getD 6 0 ≤ 2 := hp.2 6
  refine vsOK_cons (iv_def.2 ?_) vsOK_nil
  rcases ax_three k6 with h6 | h6 | h6 <;> rw [h6]
  · show -65536 ≤ xs.getD 3 0 - xs.getD 0 0 ∧ xs.getD 3 0 - xs.getD 0 0 ≤ 65536; omega
  · show -65536 ≤ xs.getD 4 0 - xs.getD 1 0 ∧ xs.getD 4 0 - xs.getD 1 0 ≤ 65536; omega
  · show -65536 ≤ xs.getD 5 0 - xs.getD 2 0 ∧ xs.getD 5 0 - xs.getD 2 0 ≤ 65536; omega⟩
noncomputable def G_rjoin : List Sum := []
def I_rjoin : List Inf := []
def t_rjoin : TX := (.ret [(.mn (.v 0) (.v 6)), (.mn (.v 1) (.v 7)), (.mn (.v 2) (.v 8)), (.mx (.v 3) (.v 9)), (.mx (.v 4) (.v 10)), (.mx (.v 5) (.v 11))])
theorem tree_rjoin : merge (optFL [] I_rjoin [] pin_rjoin (symFnL Try.prog noLp gl0 G_rjoin 1000 46 [An 6, An 6] [An 6])) = t_rjoin := by kernel_rfl
theorem g_rjoin : Gok Try.prog G_rjoin := noG
theorem o_rjoin : outsOK G_rjoin I_rjoin := outsOK_nil
theorem ok_rjoin : s_rjoin.ok Try.prog := Sum.okF facts.mixed g_rjoin o_rjoin tree_rjoin rfl (fun _ => rfl) (by
  intro xs hx hp
  obtain ⟨a0, a1, a2, a3, a4, a5, a6, a7, a8, a9, a10, a11, rfl⟩ := len12 hx
  rfl)

/-! ### sorting, plainly -/
noncomputable def leK (L : List Int) (ax : Nat) (a b : Int) : Bool := !ltK L ax b a
theorem ltK_iff {L : List Int} {ax : Nat} {x y : Int} : ltK L ax x y = true ↔ (keyA L ax x < keyA L ax y ∨ (keyA L ax x = keyA L ax y ∧ x < y)) := by
  unfold ltK
  rw [decide_eq_true_eq]
theorem leK_iff {L : List Int} {ax : Nat} {x y : Int} : leK L ax x y = true ↔ (keyA L ax x < keyA L ax y ∨ (keyA L ax x = keyA L ax y ∧ x ≤ y)) := by
  unfold leK
  rw [Bool.not_eq_true', ← Bool.not_eq_true, ltK_iff]
  omega
theorem sortK_pw (L : List Int) (ax : Nat) (s : List Int) : (sortK L ax s).Pairwise fun a b => leK L ax a b = true :=
  List.pairwise_mergeSort (le := leK L ax) (fun a b c h1 h2 => by rw [leK_iff] at *; omega) (fun a b => by rw [Bool.or_eq_true, leK_iff, leK_iff]; omega) s
theorem sortK_uniq {L : List Int} {ax : Nat} {s l : List Int} (h1 : l.Pairwise fun a b => leK L ax a b = true) (h2 : l.Perm s) : l = sortK L ax s :=
  List.Perm.eq_of_pairwise (fun a b _ _ h1 h2 => by rw [leK_iff] at *; omega) h1 (sortK_pw L ax s) (h2.trans (sortK_perm L ax s).symm)
theorem sortK_put {L : List Int} {ax : Nat} {s : List Int} {x : Int} {n : Nat} (hn : n ≤ (sortK L ax s).length) (h1 : ∀ j, j < n → ltK L ax x ((sortK L ax s).getD j 0) = false)
    (h2 : n < (sortK L ax s).length → ltK L ax x ((sortK L ax s).getD n 0) = true) : (sortK L ax s).take n ++ [x] ++ (sortK L ax s).drop n = sortK L ax (s ++ [x]) := by
  have hp := sortK_pw L ax s
  have hperm := sortK_perm L ax s
  generalize sortK L ax s = O at *
  apply sortK_uniq
  · rw [List.append_assoc, List.singleton_append, List.pairwise_append]
    have hx1 : ∀ a ∈ O.take n, leK L ax a x = true := by
      intro a ha
      obtain ⟨j, hj⟩ := List.mem_iff_getElem?.1 ha
      have hjn : j < n := by have := (List.getElem?_eq_some_iff.1 hj).1; simp at this; omega
      rw [List.getElem?_take_of_lt hjn] at hj
      have := h1 j hjn
      simp only [List.getD, hj, Option.getD_some] at this
      unfold leK
      rw [this]
      rfl
    have hx2 : ∀ b ∈ O.drop n, leK L ax x b = true := by
      intro b hb
      obtain ⟨j, hj⟩ := List.mem_iff_getElem?.1 hb
      rw [List.getElem?_drop] at hj
      have hjl := (List.getElem?_eq_some_iff.1 hj).1
      have h0 := h2 (by omega)
      have hnl : O[n]? = some (O.getD n 0) := by simp [List.getD, List.getElem?_eq_getElem (by omega : n < O.length)]
      have hle : leK L ax (O.getD n 0) b = true := by
        rcases Nat.eq_zero_or_pos j with rfl | hj0
        · rw [Nat.add_zero] at hj
          rw [hnl] at hj
          cases hj
          rw [leK_iff]; omega
        · have hlt : n < n + j := by omega
          have := List.pairwise_iff_getElem.1 hp n (n + j) (by omega) hjl hlt
          have e1 : O[n]'(by omega) = O.getD n 0 := by simp [List.getD, List.getElem?_eq_getElem (by omega : n < O.length)]
          have e2 : O[n + j]'hjl = b := (List.getElem?_eq_some_iff.1 hj).2
          rwa [e1, e2] at this
      rw [ltK_iff] at h0
      rw [leK_iff] at hle ⊢
      omega
    refine ⟨hp.sublist (List.take_sublist _ _), List.pairwise_cons.2 ⟨hx2, hp.sublist (List.drop_sublist _ _)⟩, ?_⟩
    intro a ha b hb
    rcases List.mem_cons.1 hb with rfl | hb
    · exact hx1 a ha
    · have h3 := hx1 a ha
      have h4 := hx2 b hb
      rw [leK_iff] at *
      omega
  · have h3 : (O.take n ++ [x] ++ O.drop n).Perm (O ++ [x]) := by
      rw [List.append_assoc]
      refine ((List.Perm.append_left _ (List.perm_append_comm (l₁ := [x]) (l₂ := O.drop n)))).trans ?_
      rw [← List.append_assoc, List.take_append_drop]
    exact h3.trans (hperm.append_right _)
theorem sortK_nil (L : List Int) (ax : Nat) : sortK L ax [] = [] := by simp [sortK]
noncomputable def G_rsorted : List Sum := [s_ralong]
def I_rsorted : List Inf := [i_ralong]
def t_rsorted : TX := (.loop 2 [none, none] [.nl, (.c 0)] (.ite (.le (.ln (.v 1)) (.v 4)) (.ret [(.v 3)])
(.loop 1 [none] [(.c 0)] (.ite (.lt (.v 5) (.ln (.v 3))) (.asrt (.le (.c 0) (.v 5)) (.asrt (.le (.c 0) (.l2 .at (.v 3) (.v 5))) (.asrt (.lt (.l2 .at (.v 3) (.v 5)) (.ln (.v 0))) (.call 0 [(.l2 .at (.l2 .at (.v 0) (.l2 .at (.v 3) (.v 5))) (.c 0)), (.l2 .at (.l2 .at (.v 0) (.l2 .at (.v 3) (.v 5))) (.c 1)), (.l2 .at (.l2 .at (.v 0) (.l2 .at (.v 3) (.v 5))) (.c 2)), (.l2 .at (.l2 .at (.v 0) (.l2 .at (.v 3) (.v 5))) (.c 3)), (.l2 .at (.l2 .at (.v 0) (.l2 .at (.v 3) (.v 5))) (.c 4)), (.l2 .at (.l2 .at (.v 0) (.l2 .at (.v 3) (.v 5))) (.c 5)), (.v 2)] (.asrt (.le (.c 0) (.v 4)) (.asrt (.le (.c 0) (.l2 .at (.v 1) (.v 4))) (.asrt (.lt (.l2 .at (.v 1) (.v 4)) (.ln (.v 0))) (.call 0 [(.l2 .at (.l2 .at (.v 0) (.l2 .at (.v 1) (.v 4))) (.c 0)), (.l2 .at (.l2 .at (.v 0) (.l2 .at (.v 1) (.v 4))) (.c 1)), (.l2 .at (.l2 .at (.v 0) (.l2 .at (.v 1) (.v 4))) (.c 2)), (.l2 .at (.l2 .at (.v 0) (.l2 .at (.v 1) (.v 4))) (.c 3)), (.l2 .at (.l2 .at (.v 0) (.l2 .at (.v 1) (.v 4))) (.c 4)), (.l2 .at (.l2 .at (.v 0) (.l2 .at (.v 1) (.v 4))) (.c 5)), (.v 2)] (.ite (.lt (.v 7) (.v 6)) (.asrt (.le (.v 5) (.ln (.v 3))) (.asrt (.le (.ln (.l2 .take (.v 3) (.v 5))) (.c 1000000)) (.asrt (.le (.ln (.l2 .snoc (.l2 .take (.v 3) (.v 5)) (.l2 .at (.v 1) (.v 4)))) (.c 1000000)) (.asrt (.le (.ln (.v 3)) (.ln (.v 3))) (.asrt (.le (.ln (.l2 .app (.l2 .snoc (.l2 .take (.v 3) (.v 5)) (.l2 .at (.v 1) (.v 4))) (.l2 .drop (.l2 .take (.v 3) (.ln (.v 3))) (.v 5)))) (.c 1000000)) (.back 0 [(.l2 .app (.l2 .snoc (.l2 .take (.v 3) (.v 5)) (.l2 .at (.v 1) (.v 4))) (.l2 .drop (.l2 .take (.v 3) (.ln (.v 3))) (.v 5))), (.wr .i64 (.add (.v 4) (.c 1)))]))))))
(.ite (.eq (.v 6) (.v 7)) (.ite (.lt (.l2 .at (.v 1) (.v 4)) (.l2 .at (.v 3) (.v 5))) (.asrt (.le (.v 5) (.ln (.v 3))) (.asrt (.le (.ln (.l2 .take (.v 3) (.v 5))) (.c 1000000)) (.asrt (.le (.ln (.l2 .snoc (.l2 .take (.v 3) (.v 5)) (.l2 .at (.v 1) (.v 4)))) (.c 1000000)) (.asrt (.le (.ln (.v 3)) (.ln (.v 3))) (.asrt (.le (.ln (.l2 .app (.l2 .snoc (.l2 .take (.v 3) (.v 5)) (.l2 .at (.v 1) (.v 4))) (.l2 .drop (.l2 .take (.v 3) (.ln (.v 3))) (.v 5)))) (.c 1000000)) (.back 0 [(.l2 .app (.l2 .snoc (.l2 .take (.v 3) (.v 5)) (.l2 .at (.v 1) (.v 4))) (.l2 .drop (.l2 .take (.v 3) (.ln (.v 3))) (.v 5))), (.wr .i64 (.add (.v 4) (.c 1)))]))))))
(.back 1 [(.wr .i64 (.add (.v 5) (.c 1)))]))
(.back 1 [(.wr .i64 (.add (.v 5) (.c 1)))])))))))))))
(.asrt (.le (.c 0) (.v 5)) (.asrt (.le (.v 5) (.ln (.v 3))) (.asrt (.le (.ln (.l2 .take (.v 3) (.v 5))) (.c 1000000)) (.asrt (.le (.c 0) (.v 4)) (.asrt (.le (.ln (.l2 .snoc (.l2 .take (.v 3) (.v 5)) (.l2 .at (.v 1) (.v 4)))) (.c 1000000)) (.asrt (.le (.ln (.v 3)) (.ln (.v 3))) (.asrt (.le (.ln (.l2 .app (.l2 .snoc (.l2 .take (.v 3) (.v 5)) (.l2 .at (.v 1) (.v 4))) (.l2 .drop (.l2 .take (.v 3) (.ln (.v 3))) (.v 5)))) (.c 1000000)) (.back 0 [(.l2 .app (.l2 .snoc (.l2 .take (.v 3) (.v 5)) (.l2 .at (.v 1) (.v 4))) (.l2 .drop (.l2 .take (.v 3) (.ln (.v 3))) (.v 5))), (.wr .i64 (.add (.v 4) (.c 1)))]))))))))))))
theorem tree_rsorted : merge (optFL [] I_rsorted [] pin_rsorted (symFnL Try.prog (openAt Try.prog [(3, 13), (6, 19)]) gl0 G_rsorted 1000 81 [Bs, Is, I1] [Is])) = t_rsorted := by kernel_rfl
theorem g_rsorted : Gok Try.prog G_rsorted := (fix.one ok_ralong)
theorem o_rsorted : outsOK G_rsorted I_rsorted := (outsOK_cons inf_ralong outsOK_nil)
theorem pin_along {b : Int} {ax : Int} (h : okBox b = true) (hax : 0 ≤ ax ∧ ax ≤ 2) : vsOK pin_ralong [co b 0, co b 1, co b 2, co b 3, co b 4, co b 5, ax] := by
  rw [okBox_iff] at h
  exact vsOK_cons (iv_def.2 (by omega)) (vsOK_cons (iv_def.2 (by omega)) (vsOK_cons (iv_def.2 (by omega)) (vsOK_cons (iv_def.2 (by omega)) (vsOK_cons (iv_def.2 (by omega)) (vsOK_cons (iv_def.2 (by omega)) (vsOK_cons (iv_def.2 hax) vsOK_nil))))))
theorem sem_along {L : List Int} {x ax : Int} (hax : 0 ≤ ax ∧ ax ≤ 2) : [co (L.getD x.toNat 0) 0, co (L.getD x.toNat 0) 1, co (L.getD x.toNat 0) 2, co (L.getD x.toNat 0) 3, co (L.getD x.toNat 0) 4, co (L.getD x.toNat 0) 5, ax].getD ax.toNat 0 +
    [co (L.getD x.toNat 0) 3, co (L.getD x.toNat 0) 4, co (L.getD x.toNat 0) 5, ax].getD ax.toNat 0 = keyA L ax.toNat x := by
  rcases ax_three hax with rfl | rfl | rfl <;> rfl
theorem ok_rsorted : s_rsorted.ok Try.prog := Sum.okPF (pin := pin_rsorted) facts.mixed g_rsorted o_rsorted tree_rsorted rfl (fun _ => rfl) (fun xs h => h.1) (by
  intro xs hx hp
  obtain ⟨cL, cI, ax, rfl⟩ := len3 hx
  have hax : 0 ≤ ax ∧ ax ≤ 2 := hp.1.2 2
  have hI : ItemsPre (dec cI) (dec cL) := hp.2
  clear hp
  have hco : ∀ x j, (dec x).getD j 0 = co x j := fun _ _ => rfl
  simp only [t_rsorted, G_rsorted, s_ralong, TX.sat, XB.prop, X.den, List.map_cons, List.map_nil, List.getElem?_cons_zero, List.getElem?_cons_succ, List.cons_append, List.nil_append, List.getD_cons_zero, List.getD_cons_succ, mkS, mkP, and_true, true_and, Int.not_lt, Int.not_le, not_or, not_and, Classical.not_not, ne_eq, not_true_eq_false, not_false_eq_true, sem_rsorted, sem_ralong, L2.den, dec_cod]
  generalize dec cL = L at *
  generalize dec cI = I at *
  have hn := hI.len
  simp only [hco, show Int.toNat 0 = 0 from rfl, show Int.toNat 1 = 1 from rfl, show Int.toNat 2 = 2 from rfl, show Int.toNat 3 = 3 from rfl, show Int.toNat 4 = 4 from rfl, show Int.toNat 5 = 5 from rfl, Int.toNat_natCast]
  refine ⟨fun ys => ∃ i : Nat, i ≤ I.length ∧ ys = [cod (sortK L ax.toNat (I.take i)), (i : Int)], fun ys => I.length - (ys.getD 1 0).toNat, fun xs hx _ => vs_none (n := 2) hx, ⟨0, Nat.zero_le _, by rw [List.take_zero, sortK_nil]; rfl⟩, ?_⟩
  rintro xs hx ⟨i, hi, rfl⟩
  simp only [TX.sat, XB.prop, X.den, List.map_cons, List.map_nil, List.getElem?_cons_zero, List.getElem?_cons_succ, List.cons_append, List.nil_append, List.getD_cons_zero, List.getD_cons_succ, mkS, mkP, and_true, true_and, Int.not_lt, Int.not_le, not_or, not_and, Classical.not_not, ne_eq, not_true_eq_false, not_false_eq_true, dec_cod, Int.toNat_natCast]
  refine ⟨fun h => by rw [List.take_of_length_le (by omega)], fun h => ?_⟩
  have hit : ∀ x ∈ I, (0 ≤ x ∧ x < (L.length : Int)) ∧ okBox (L.getD x.toNat 0) = true := fun x hx => ⟨hI.its x hx, hI.bxs _ (mem_at (by have := hI.its x hx; omega))⟩
  have hxI := hit _ (mem_at (l := I) (i := i) (by omega))
  have hOl : (sortK L ax.toNat (I.take i)).length = i := by rw [sortK_len, List.length_take]; omega
  have hOm : ∀ j, j < i → (0 ≤ (sortK L ax.toNat (I.take i)).getD j 0 ∧ (sortK L ax.toNat (I.take i)).getD j 0 < (L.length : Int)) ∧ okBox (L.getD ((sortK L ax.toNat (I.take i)).getD j 0).toNat 0) = true := fun j hj =>
    hit _ (List.mem_of_mem_take (sortK_mem.1 (mem_at (l := sortK L ax.toNat (I.take i)) (i := j) (by omega))))
  have hput : ∀ n, n ≤ i → (∀ j, j < n → ltK L ax.toNat (I.getD i 0) ((sortK L ax.toNat (I.take i)).getD j 0) = false) → (n < i → ltK L ax.toNat (I.getD i 0) ((sortK L ax.toNat (I.take i)).getD n 0) = true) →
      (sortK L ax.toNat (I.take i)).take n ++ [I.getD i 0] ++ (sortK L ax.toNat (I.take i)).drop n = sortK L ax.toNat (I.take (i + 1)) := fun n h1 h2 h3 => by
    rw [sortK_put (by omega) h2 (fun h => h3 (by omega))]
    congr 1
    rw [List.take_add_one, List.getElem?_eq_getElem (by omega)]
    simp [List.getD, List.getElem?_eq_getElem (by omega : i < I.length)]
  generalize hO : sortK L ax.toNat (I.take i) = O at *
  generalize hx : I.getD i 0 = x at *
  refine ⟨fun ys => ∃ j : Nat, j ≤ i ∧ ys = [(j : Int)] ∧ ∀ j', j' < j → ltK L ax.toNat x (O.getD j' 0) = false, fun ys => i - (ys.getD 0 0).toNat, fun xs hx _ => vs_none (n := 1) hx, ⟨0, Nat.zero_le _, rfl, fun _ h => absurd h (by omega)⟩, ?_⟩
  rintro xs hx' ⟨j, hj, rfl, hbef⟩
  simp only [TX.sat, XB.prop, X.den, List.map_cons, List.map_nil, List.getElem?_cons_zero, List.getElem?_cons_succ, List.cons_append, List.nil_append, List.getD_cons_zero, List.getD_cons_succ, mkS, mkP, and_true, true_and, Int.not_lt, Int.not_le, not_or, not_and, Classical.not_not, ne_eq, not_true_eq_false, not_false_eq_true, co_cod, dec_cod, Int.toNat_natCast]
  have htk : O.take O.length = O := List.take_length
  have hw1 : IntKind.i64.wrap ((i : Int) + 1) = ((i + 1 : Nat) : Int) := by rw [wrap64 (by omega) (by omega)]; omega
  have hw2 : IntKind.i64.wrap ((j : Int) + 1) = ((j + 1 : Nat) : Int) := by rw [wrap64 (by omega) (by omega)]; omega
  rw [hw1, hw2]
  have hl1 : (O.take j).length = j := by rw [List.length_take]; omega
  have hl2 : ((O.take j ++ [x]).length : Int) = (j : Int) + 1 := by rw [List.length_append, hl1]; simp
  have hl3 : ((O.take j ++ [x] ++ O.drop j).length : Int) = (i : Int) + 1 := by rw [List.length_append, List.length_drop]; omega
  have hback : (j < i → ltK L ax.toNat x (O.getD j 0) = true) → (∃ i_1 : Nat, i_1 ≤ I.length ∧ [cod (O.take j ++ [x] ++ O.drop j), ((i + 1 : Nat) : Int)] = [cod (sortK L ax.toNat (I.take i_1)), (i_1 : Int)]) ∧ I.length - ((i + 1 : Nat) : Int).toNat < I.length - i := fun h =>
    ⟨⟨i + 1, by omega, by rw [hput j hj hbef h]⟩, by omega⟩
  refine ⟨fun h => ?_, fun h => ?_⟩
  · have hjO := hOm j (by omega)
    have hkx : keyA L ax.toNat x = _ := (sem_along (L := L) (x := x) hax).symm
    have hko : keyA L ax.toNat (O.getD j 0) = _ := (sem_along (L := L) (x := O.getD j 0) hax).symm
    rw [← hkx, ← hko]
    have hstop : ltK L ax.toNat x (O.getD j 0) = true → _ := fun h => hback (fun _ => h)
    have hgo : ltK L ax.toNat x (O.getD j 0) = false → (∃ j_1 : Nat, j_1 ≤ i ∧ [((j + 1 : Nat) : Int)] = [(j_1 : Int)] ∧ ∀ j', j' < j_1 → ltK L ax.toNat x (O.getD j' 0) = false) ∧ i - ((j + 1 : Nat) : Int).toNat < i - j := fun h =>
      ⟨⟨j + 1, by omega, rfl, fun j' hj' => by
        rcases Nat.lt_or_ge j' j with h1 | h1
        · exact hbef j' h1
        · obtain rfl : j' = j := by omega
          exact h⟩, by omega⟩
    refine ⟨by omega, hjO.1.1, hjO.1.2, pin_along hjO.2 hax, by omega, hxI.1.1, hxI.1.2, pin_along hxI.2 hax, fun h1 => ?_, fun h1 => ⟨fun h2 => ⟨fun h3 => ?_, fun h3 => ?_⟩, fun h2 => ?_⟩⟩
    · rw [htk]
      exact ⟨by omega, by rw [hl1]; omega, by rw [hl2]; omega, by omega, by rw [hl3]; omega, hstop (by rw [ltK_iff]; omega)⟩
    · rw [htk]
      exact ⟨by omega, by rw [hl1]; omega, by rw [hl2]; omega, by omega, by rw [hl3]; omega, hstop (by rw [ltK_iff]; omega)⟩
    · exact hgo (by rw [← Bool.not_eq_true, ltK_iff]; omega)
    · exact hgo (by rw [← Bool.not_eq_true, ltK_iff]; omega)
  · rw [htk]
    exact ⟨by omega, by omega, by rw [hl1]; omega, by omega, by rw [hl2]; omega, by omega, by rw [hl3]; omega, hback (fun h => absurd h (by omega))⟩)
theorem inf_rsorted : InfOK s_rsorted i_rsorted := ⟨fun xs h => (small_not xs h).elim, fun vs xs h hp => vsOK_cons trivial vsOK_nil⟩
#print axioms ok_rsorted
end Go.Proofs.Ytgcoidbaoigkeaa.fix
set_option linter.unusedVariables false
set_option linter.unusedSimpArgs false
namespace Go.Proofs.Ytgcoidbaoigkeaa.fix
open Go.RowKit Go.Sx

def tail_rbuilt (ax : Int) : TX := (.call 2 [(.v 0), (.v 1), (.c ax)] (.asrt (.le (.c 0) (.quo (.wr .i64 (.add (.ln (.v 14)) (.c 1))) (.c 2))) (.asrt (.le (.quo (.wr .i64 (.add (.ln (.v 14)) (.c 1))) (.c 2)) (.ln (.v 14))) (.call 3 [(.v 0), (.l2 .take (.v 14) (.quo (.wr .i64 (.add (.ln (.v 14)) (.c 1))) (.c 2))), (.add (.v 2) (.c 1))] (.asrt (.le (.ln (.v 14)) (.ln (.v 14))) (.call 3 [(.v 0), (.l2 .drop (.l2 .take (.v 14) (.ln (.v 14))) (.quo (.wr .i64 (.add (.ln (.v 14)) (.c 1))) (.c 2))), (.wr .i64 (.add (.add (.v 2) (.c 1)) (.ln (.v 15))))] (.asrt (.le (.ln (.l2 .app (.l2 .cons (.l2 .cons (.v 4) (.l2 .cons (.v 5) (.l2 .cons (.v 6) (.l2 .cons (.v 7) (.l2 .cons (.v 8) (.l2 .cons (.v 9) (.l2 .cons (.add (.v 2) (.c 1)) (.l2 .cons (.wr .i64 (.add (.add (.v 2) (.c 1)) (.ln (.v 15)))) (.l2 .cons (.c (-1)) .nl))))))))) .nl) (.v 15))) (.c 1000000)) (.asrt (.le (.ln (.l2 .app (.l2 .app (.l2 .cons (.l2 .cons (.v 4) (.l2 .cons (.v 5) (.l2 .cons (.v 6) (.l2 .cons (.v 7) (.l2 .cons (.v 8) (.l2 .cons (.v 9) (.l2 .cons (.add (.v 2) (.c 1)) (.l2 .cons (.wr .i64 (.add (.add (.v 2) (.c 1)) (.ln (.v 15)))) (.l2 .cons (.c (-1)) .nl))))))))) .nl) (.v 15)) (.v 16))) (.c 1000000)) (.ret [(.l2 .app (.l2 .app (.l2 .cons (.l2 .cons (.v 4) (.l2 .cons (.v 5) (.l2 .cons (.v 6) (.l2 .cons (.v 7) (.l2 .cons (.v 8) (.l2 .cons (.v 9) (.l2 .cons (.add (.v 2) (.c 1)) (.l2 .cons (.wr .i64 (.add (.add (.v 2) (.c 1)) (.ln (.v 15)))) (.l2 .cons (.c (-1)) .nl))))))))) .nl) (.v 15)) (.v 16))])))))))))
def t_rbuiltR : TX := (.asrt (.lt (.c 0) (.ln (.v 1))) (.asrt (.le (.c 0) (.l2 .at (.v 1) (.c 0))) (.asrt (.lt (.l2 .at (.v 1) (.c 0)) (.ln (.v 0))) (.loop 7 [none, none, none, none, none, none, none] [(.c 1), (.l2 .at (.l2 .at (.v 0) (.l2 .at (.v 1) (.c 0))) (.c 0)), (.l2 .at (.l2 .at (.v 0) (.l2 .at (.v 1) (.c 0))) (.c 1)), (.l2 .at (.l2 .at (.v 0) (.l2 .at (.v 1) (.c 0))) (.c 2)), (.l2 .at (.l2 .at (.v 0) (.l2 .at (.v 1) (.c 0))) (.c 3)), (.l2 .at (.l2 .at (.v 0) (.l2 .at (.v 1) (.c 0))) (.c 4)), (.l2 .at (.l2 .at (.v 0) (.l2 .at (.v 1) (.c 0))) (.c 5))] (.ite (.lt (.v 3) (.ln (.v 1))) (.asrt (.le (.c 0) (.v 3)) (.asrt (.le (.c 0) (.l2 .at (.v 1) (.v 3))) (.asrt (.lt (.l2 .at (.v 1) (.v 3)) (.ln (.v 0))) (.call 0 [(.v 4), (.v 5), (.v 6), (.v 7), (.v 8), (.v 9), (.l2 .at (.l2 .at (.v 0) (.l2 .at (.v 1) (.v 3))) (.c 0)), (.l2 .at (.l2 .at (.v 0) (.l2 .at (.v 1) (.v 3))) (.c 1)), (.l2 .at (.l2 .at (.v 0) (.l2 .at (.v 1) (.v 3))) (.c 2)), (.l2 .at (.l2 .at (.v 0) (.l2 .at (.v 1) (.v 3))) (.c 3)), (.l2 .at (.l2 .at (.v 0) (.l2 .at (.v 1) (.v 3))) (.c 4)), (.l2 .at (.l2 .at (.v 0) (.l2 .at (.v 1) (.v 3))) (.c 5))] (.back 0 [(.wr .i64 (.add (.v 3) (.c 1))), (.v 10), (.v 11), (.v 12), (.v 13), (.v 14), (.v 15)]))))) (.ite (.eq (.ln (.v 1)) (.c 1)) (.ret [(.l2 .cons (.l2 .cons (.v 4) (.l2 .cons (.v 5) (.l2 .cons (.v 6) (.l2 .cons (.v 7) (.l2 .cons (.v 8) (.l2 .cons (.v 9) (.l2 .cons (.c (-1)) (.l2 .cons (.c (-1)) (.l2 .cons (.l2 .at (.v 1) (.c 0)) .nl))))))))) .nl)]) (.call 1 [(.v 4), (.v 5), (.v 6), (.v 7), (.v 8), (.v 9), (.c 1)] (.call 1 [(.v 4), (.v 5), (.v 6), (.v 7), (.v 8), (.v 9), (.c 0)] (.ite (.lt (.v 11) (.v 10)) (.call 1 [(.v 4), (.v 5), (.v 6), (.v 7), (.v 8), (.v 9), (.c 2)] (.call 1 [(.v 4), (.v 5), (.v 6), (.v 7), (.v 8), (.v 9), (.c 1)] (.ite (.lt (.v 13) (.v 12)) (tail_rbuilt 2) (tail_rbuilt 1)))) (.call 1 [(.v 4), (.v 5), (.v 6), (.v 7), (.v 8), (.v 9), (.c 2)] (.call 1 [(.v 4), (.v 5), (.v 6), (.v 7), (.v 8), (.v 9), (.c 0)] (.ite (.lt (.v 13) (.v 12)) (tail_rbuilt 2) (tail_rbuilt 0)))))))))))))
noncomputable def G_rbuiltK (k : Nat) : List Sum := [s_rjoin, s_rlength, s_rsorted, s_rbuiltK k]
set_option maxRecDepth 100000 in
theorem tree_rbuiltK (k : Nat) : merge (optFL [] [i_rjoin, i_rlength, i_rsorted, i_rbuilt0] [] ([none, none, iv 0 3000]) (symPr Try.prog (openAt Try.prog [(3, 22)]) gl0 (G_rbuiltK k) 19 15 6 1000 49 [Bs, Is, I1] [Brs])) = t_rbuiltR := by kernel_rfl
theorem inf_rjoin : InfOK s_rjoin i_rjoin := ⟨fun _ h => h, fun vs xs h hp => vs_none (n := 6) rfl⟩
theorem rtail_sat {k : Nat} {cL cI from' v3 b0 b1 b2 b3 b4 b5 y0 y1 y2 y3 : Int} {bs : List (List Int → Prop)} (hI : ItemsPre (dec cI) (dec cL)) (two : 2 ≤ (dec cI).length) (hk : (dec cI).length ≤ k + 1) (h0 : 0 ≤ from') (h1 : from' + 2 * ((dec cI).length : Int) ≤ 3000)
    (hb : boxOf (dec cL) (dec cI) = [b0, b1, b2, b3, b4, b5]) {ax : Int} (hax : ax = (axisOf [b0, b1, b2, b3, b4, b5] : Int)) :
    (tail_rbuilt ax).sat (G_rbuiltK k) [] (fun ys => ys = sem_rbuilt [cL, cI, from']) bs [cL, cI, from', v3, b0, b1, b2, b3, b4, b5, y0, y1, y2, y3] := by
  have hax2 : 0 ≤ ax ∧ ax ≤ 2 := by
    rw [hax]
    unfold axisOf
    split <;> split <;> decide
  simp only [tail_rbuilt, G_rbuiltK, s_rjoin, s_rlength, s_rsorted, s_rbuiltK, TX.sat, XB.prop, X.den, List.map_cons, List.map_nil, List.getElem?_cons_zero, List.getElem?_cons_succ, List.cons_append, List.nil_append, List.getD_cons_zero, List.getD_cons_succ, mkS, mkP, and_true, true_and, Int.not_lt, Int.not_le, not_or, not_and, Classical.not_not, ne_eq, not_true_eq_false, not_false_eq_true, sem_rsorted, sem_rbuilt, L2.den, dec_cod, pre_rsorted, pre_rbuilt]
  generalize dec cI = s at *
  generalize dec cL = L at *
  have hns : ¬ s.length ≤ 1 := by omega
  have hK : sortK L ax.toNat s = halfK L s := by
    unfold halfK
    rw [hb, hax, Int.toNat_natCast]
  rw [hK]
  have hlen := halfK_len L s
  have hmem : ∀ x, x ∈ halfK L s → 0 ≤ x ∧ x < (L.length : Int) := fun x hx => hI.its x (halfK_mem.1 hx)
  have hn := hI.len
  have hq : (IntKind.i64.wrap ((halfK L s).length + 1 : Int)).tdiv 2 = (((s.length + 1) / 2 : Nat) : Int) := by
    rw [hlen, wrap64 (by omega) (by omega), Int.tdiv_eq_ediv_of_nonneg (by omega)]
    omega
  rw [hq]
  have htk : (halfK L s).take (halfK L s).length = halfK L s := List.take_length
  simp only [Int.toNat_natCast, htk]
  have hun : builtN L s.length s from' = cod (boxOf L s ++ [from' + 1, from' + 1 + ((builtN L (s.length - 1) ((halfK L s).take ((s.length + 1) / 2)) (from' + 1)).length : Int), -1]) ::
      (builtN L (s.length - 1) ((halfK L s).take ((s.length + 1) / 2)) (from' + 1) ++ builtN L (s.length - 1) ((halfK L s).drop ((s.length + 1) / 2)) (from' + 1 + ((builtN L (s.length - 1) ((halfK L s).take ((s.length + 1) / 2)) (from' + 1)).length : Int))) := by
    obtain ⟨f, hf⟩ : ∃ f, s.length = f + 1 := ⟨s.length - 1, by omega⟩
    conv => lhs; arg 2; rw [hf]
    rw [built_two hns, show s.length - 1 = f by omega]
  rw [hun, hb]
  have l1 : ((halfK L s).take ((s.length + 1) / 2)).length = (s.length + 1) / 2 := by rw [List.length_take, halfK_len]; omega
  have l2 : ((halfK L s).drop ((s.length + 1) / 2)).length = s.length - (s.length + 1) / 2 := by rw [List.length_drop, halfK_len]
  have m1 : ∀ x ∈ (halfK L s).take ((s.length + 1) / 2), 0 ≤ x ∧ x < (L.length : Int) := fun x hx => hmem x (List.mem_of_mem_take hx)
  have m2 : ∀ x ∈ (halfK L s).drop ((s.length + 1) / 2), 0 ≤ x ∧ x < (L.length : Int) := fun x hx => hmem x (List.mem_of_mem_drop hx)
  generalize (halfK L s).take ((s.length + 1) / 2) = K1 at *
  generalize (halfK L s).drop ((s.length + 1) / 2) = K2 at *
  rw [built_fuel K1.length K1 _ (by omega) (Nat.le_refl _) (s.length - 1) (by omega), built_fuel K2.length K2 _ (by omega) (Nat.le_refl _) (s.length - 1) (by omega)]
  have n1 := built_len (L := L) K1.length K1 (from' + 1) (by omega) (Nat.le_refl _)
  have n2 := fun a => built_len (L := L) K2.length K2 a (by omega) (Nat.le_refl _)
  have hw : IntKind.i64.wrap (from' + 1 + ((builtN L K1.length K1 (from' + 1)).length : Int)) = from' + 1 + ((builtN L K1.length K1 (from' + 1)).length : Int) := wrap64 (by omega) (by omega)
  rw [hw]
  refine ⟨⟨vsOK_cons trivial (vsOK_cons trivial (vsOK_cons (iv_def.2 hax2) vsOK_nil)), hI⟩, by omega, by omega, ⟨by omega, vsOK_cons trivial (vsOK_cons trivial (vsOK_cons (iv_def.2 (by omega)) vsOK_nil)), ⟨by omega, m1, hI.bxs⟩, by omega⟩, by omega,
    ⟨by omega, vsOK_cons trivial (vsOK_cons trivial (vsOK_cons (iv_def.2 (by omega)) vsOK_nil)), ⟨by omega, m2, hI.bxs⟩, by omega⟩, by simp only [List.length_cons]; omega, by simp only [List.length_cons, List.length_append, n2]; omega, rfl⟩
theorem inf_rbuiltK (k : Nat) : InfOK (s_rbuiltK k) i_rbuilt0 := ⟨fun xs h => (small_not xs h).elim, fun vs xs h hp => vsOK_cons trivial vsOK_nil⟩
theorem pin_length {b0 b1 b2 b3 b4 b5 ax : Int} (hb : boxB [b0, b1, b2, b3, b4, b5] 0 = true) (hax : 0 ≤ ax ∧ ax ≤ 2) : vsOK pin_rlength [b0, b1, b2, b3, b4, b5, ax] := by
  have h := eq_box hb
  exact vsOK_cons (iv_def.2 (by omega)) (vsOK_cons (iv_def.2 (by omega)) (vsOK_cons (iv_def.2 (by omega)) (vsOK_cons (iv_def.2 (by omega)) (vsOK_cons (iv_def.2 (by omega)) (vsOK_cons (iv_def.2 (by omega)) (vsOK_cons (iv_def.2 hax) vsOK_nil))))))
def LoopJ (L s : List Int) (ys : List Int) : Prop := ∃ i : Nat, i < s.length ∧ ys = ((i + 1 : Nat) : Int) :: boxR L s i ∧ boxB (boxR L s i) 0 = true
theorem rbuilt_sat {k : Nat} {cL cI from' : Int} (hI : ItemsPre (dec cI) (dec cL)) (one : 0 < (dec cI).length) (hk : (dec cI).length ≤ k + 1) (h0 : 0 ≤ from') (h1 : from' + 2 * ((dec cI).length : Int) ≤ 3000) :
    t_rbuiltR.sat (G_rbuiltK k) [] (fun ys => ys = sem_rbuilt [cL, cI, from']) [] [cL, cI, from'] := by
  have htail := fun v3 b0 b1 b2 b3 b4 b5 y0 y1 y2 y3 bs => rtail_sat (k := k) (cL := cL) (cI := cI) (from' := from') (v3 := v3) (b0 := b0) (b1 := b1) (b2 := b2) (b3 := b3) (b4 := b4) (b5 := b5) (y0 := y0) (y1 := y1) (y2 := y2) (y3 := y3) (bs := bs) hI
  have hone : (dec cI).length = 1 → sem_rbuilt [cL, cI, from'] = [cod [cod (boxOf (dec cL) (dec cI) ++ [-1, -1, (dec cI).getD 0 0])]] := fun h => by
    simp only [sem_rbuilt, List.getD_cons_zero, List.getD_cons_succ]
    conv => lhs; arg 1; arg 1; arg 2; rw [h]
    rw [built_one (by omega)]
  have hco : ∀ x j, (dec x).getD j 0 = co x j := fun _ _ => rfl
  unfold t_rbuiltR
  generalize hts : tail_rbuilt = tb at *
  simp only [G_rbuiltK, s_rjoin, s_rlength, s_rsorted, s_rbuiltK, sem_rjoin, sem_rlength, ex6, TX.sat, XB.prop, X.den, List.map_cons, List.map_nil, List.getElem?_cons_zero, List.getElem?_cons_succ, List.cons_append, List.nil_append, List.getD_cons_zero, List.getD_cons_succ, mkS, mkP, and_true, true_and, Int.not_lt, Int.not_le, not_or, not_and, Classical.not_not, ne_eq, not_true_eq_false, not_false_eq_true, L2.den, dec_cod]
  simp only [G_rbuiltK, s_rjoin, s_rlength, s_rsorted, s_rbuiltK] at htail
  generalize dec cI = s at *
  generalize dec cL = L at *
  simp only [hco, show Int.toNat 0 = 0 from rfl, show Int.toNat 1 = 1 from rfl, show Int.toNat 2 = 2 from rfl, show Int.toNat 3 = 3 from rfl, show Int.toNat 4 = 4 from rfl, show Int.toNat 5 = 5 from rfl, Int.toNat_natCast]
  have hn := hI.len
  have hLb := hI.bxs
  have hitg : ∀ j : Nat, j < s.length → 0 ≤ s.getD j 0 ∧ s.getD j 0 < (L.length : Int) := fun j hj => hI.its _ (mem_at (by omega))
  have i0 := hitg 0 (by omega)
  refine ⟨by omega, i0.1, i0.2, LoopJ L s, fun xs => s.length - (xs.getD 0 0).toNat, fun xs hx _ => vs_none (n := 7) hx, ⟨0, one, rfl, by
    show boxB (six6 _) 0 = true
    rw [← okBox_six]
    exact hLb _ (mem_at (by omega))⟩, ?_⟩
  rintro xs hx ⟨i, hi', rfl, hbB⟩
  obtain ⟨b0, b1, b2, b3, b4, b5, hb⟩ := six_list (l := boxR L s i) (boxR_len _ hi')
  rw [hb] at hbB ⊢
  have hk := eq_box hbB
  simp only [TX.sat, XB.prop, X.den, List.map_cons, List.map_nil, List.getElem?_cons_zero, List.getElem?_cons_succ, List.cons_append, List.nil_append, List.getD_cons_zero, List.getD_cons_succ, mkS, mkP, and_true, true_and, Int.not_lt, Int.not_le, not_or, not_and, Classical.not_not, ne_eq, not_true_eq_false, not_false_eq_true, List.cons_append, List.nil_append, Int.toNat_natCast]
  refine ⟨fun h => ?_, fun h => ?_⟩
  · have hj := hitg (i + 1) (by omega)
    have hw2 : IntKind.i64.wrap (((i + 1 : Nat) : Int) + 1) = ((i + 1 + 1 : Nat) : Int) := by rw [wrap64 (by omega) (by omega)]; omega
    rw [hw2]
    have hx := hLb (L.getD (s.getD (i + 1) 0).toNat 0) (mem_at (by omega))
    obtain ⟨r1, r2, r3⟩ := box_run hbB hx
    have hstep : boxR L s (i + 1) = ex6 (joinP ([b0, b1, b2, b3, b4, b5] ++ six6 (L.getD (s.getD (i + 1) 0).toNat 0))) := by
      rw [boxR_step (by omega), hb]
      rfl
    refine ⟨by omega, hj.1, hj.2, r1, ⟨i + 1, by omega, by rw [hstep]; rfl, by rw [hstep]; exact r3⟩, by omega⟩
  · rw [boxR_all (by omega)] at hb
    refine ⟨fun h1 => ?_, fun h1 => ?_⟩
    · rw [hone (by omega), hb]
      rfl
    have a0 : (0 : Int) ≤ 0 ∧ (0 : Int) ≤ 2 := by omega
    have a1 : (0 : Int) ≤ 1 ∧ (1 : Int) ≤ 2 := by omega
    have a2 : (0 : Int) ≤ 2 ∧ (2 : Int) ≤ 2 := by omega
    have ht := fun y0 y1 y2 y3 bs {ax} => htail ((i + 1 : Nat) : Int) b0 b1 b2 b3 b4 b5 y0 y1 y2 y3 bs (by omega) (by omega) h0 (by omega) hb (ax := ax)
    refine ⟨pin_length hbB a1, pin_length hbB a0, fun q2 => ⟨pin_length hbB a2, pin_length hbB a1, fun q3 => ?_, fun q3 => ?_⟩, fun q2 => ⟨pin_length hbB a2, pin_length hbB a0, fun q3 => ?_, fun q3 => ?_⟩⟩
    · exact ht _ _ _ _ _ (by unfold axisOf; simp only [List.getD_cons_zero, List.getD_cons_succ]; rw [if_pos (by omega), if_pos (by omega)]; rfl)
    · exact ht _ _ _ _ _ (by unfold axisOf; simp only [List.getD_cons_zero, List.getD_cons_succ]; rw [if_pos (by omega), if_neg (by omega)]; rfl)
    · exact ht _ _ _ _ _ (by unfold axisOf; simp only [List.getD_cons_zero, List.getD_cons_succ]; rw [if_neg (by omega), if_pos (by omega)]; rfl)
    · exact ht _ _ _ _ _ (by unfold axisOf; simp only [List.getD_cons_zero, List.getD_cons_succ]; rw [if_neg (by omega), if_neg (by omega)]; rfl)
theorem rbuiltK_ok : ∀ k, (s_rbuiltK k).ok Try.prog
  | 0 => ⟨fun sh h => (by
      have h' : sh ∈ [Bs, Is, I1, Brs] := h
      simp only [List.mem_cons, List.mem_nil_iff, or_false] at h'
      rcases h' with rfl | rfl | rfl | rfl <;> exact .inr rfl), fun xs vs w hgl hx hpre => absurd hpre.1 (by omega)⟩
  | k + 1 => Sum.okPr facts.mixed (more ok_rjoin (more ok_rlength (more ok_rsorted (fix.one (rbuiltK_ok k))))) (outsOK_cons inf_rjoin (outsOK_cons inf_rlength (outsOK_cons inf_rsorted (outsOK_cons (inf_rbuiltK k) outsOK_nil)))) (tree_rbuiltK k) rfl (fun _ => rfl) (fun xs h => h.2.1) (by
    intro xs hx hp
    obtain ⟨cL, cI, from', rfl⟩ := len3 hx
    have h3 : 0 ≤ from' ∧ from' ≤ 3000 := hp.2.1.2 2
    exact rbuilt_sat hp.2.2.1 hp.1.1 hp.1.2 h3.1 hp.2.2.2)
theorem ok_rbuilt : s_rbuilt.ok Try.prog := rbuiltK_ok 400
theorem inf_rbuilt : InfOK s_rbuilt i_rbuilt := inf_rbuiltK 400
#print axioms ok_rbuilt
end Go.Proofs.Ytgcoidbaoigkeaa.fix
set_option linter.unusedVariables false
set_option linter.unusedSimpArgs false
namespace Go.Proofs.Ytgcoidbaoigkeaa.fix
open Go.RowKit Go.Sx

theorem idx_len (n : Nat) : (idxL n).length = n := by simp [idxL]
theorem idx_get {n j : Nat} (h : j < n) : (idxL n).getD j 0 = (j : Int) := by
  simp [idxL, List.getD, h]
theorem idx_succ (n : Nat) : idxL (n + 1) = idxL n ++ [(n : Int)] := by
  simp [idxL, List.range_succ]
theorem idx_mem {n : Nat} {x : Int} : x ∈ idxL n ↔ 0 ≤ x ∧ x < (n : Int) := by
  simp only [idxL, List.mem_map, List.mem_range]
  constructor
  · rintro ⟨a, h, rfl⟩; omega
  · rintro ⟨h1, h2⟩; exact ⟨x.toNat, by omega, by omega⟩
theorem idx_uniq {n : Nat} {l : List Int} (h : l.length = n) (hg : ∀ j, j < n → l.getD j 0 = (j : Int)) : l = idxL n := by
  apply List.ext_getElem?
  intro j
  by_cases hj : j < n
  · have h1 := hg j hj
    have h2 := idx_get hj
    rw [← h2] at h1
    simp only [List.getD, List.getElem?_eq_getElem (by omega : j < l.length), List.getElem?_eq_getElem (by rw [idx_len]; exact hj : j < (idxL n).length), Option.getD_some] at h1
    rw [List.getElem?_eq_getElem (by omega), List.getElem?_eq_getElem (by rw [idx_len]; exact hj), h1]
  · rw [List.getElem?_eq_none (by omega), List.getElem?_eq_none (by rw [idx_len]; omega)]
theorem treeL_nil : treeL [] = [] := rfl
theorem nil_tree {l : List Int} (h : l.length = 0) : treeL l = [] := by
  obtain rfl : l = [] := List.eq_nil_of_length_eq_zero h
  rfl
theorem seg_all (l : List Int) : segL l 0 (l.length : Int) = l := by simp [segL]
theorem inf_buildK0 : InfOK s_buildK0 i_buildK0 := ⟨fun xs h => (small_not xs h).elim, fun vs xs h hp => vs_none (n := 3) rfl⟩
theorem ok_buildK0 : s_buildK0.okA Try.prog := ok_buildK 400
noncomputable def G_tbuild : List Sum := [s_tboxes, s_buildK0]
def I_tbuild : List Inf := [i_tboxes, i_buildK0]
def t_tbuild : TX := (.call 0 [(.v 0)] (.ite (.not (.eq (.v 1) (.c 0))) (.ret [.nl, (.v 1)])
(.asrt (.eq (.ln (.v 0)) (.ln (.v 0))) (.asrt (.le (.c 0) (.ln (.v 0))) (.asrt (.le (.ln (.v 0)) (.c 1000000)) (.loop 2 [none, none] [(.l2 .rep (.ln (.v 0)) (.c 0)), (.c 0)] (.ite (.lt (.v 3) (.ln (.l2 .rep (.ln (.v 0)) (.c 0)))) (.asrt (.le (.c 0) (.v 3)) (.asrt (.lt (.v 3) (.ln (.v 2))) (.back 0 [(.l3 (.v 2) (.v 3) (.v 3)), (.wr .i64 (.add (.v 3) (.c 1)))])))
(.ite (.le (.ln (.v 2)) (.c 0)) (.ret [.nl, (.c 0)])
(.call 1 [.nl, (.v 2), (.v 0), (.c 0), (.ln (.v 2))] (.ret [(.v 4), (.c 0)]))))))))))
theorem tree_tbuild : merge (optFL [] I_tbuild [] pin_tbuild (symFnL Try.prog (openAt Try.prog [(6, 19)]) gl0 G_tbuild 1000 22 [Bs] [Tr, I1])) = t_tbuild := by kernel_rfl
theorem g_tbuild : Gok Try.prog G_tbuild := (more ok_tboxes (fix.oneA ok_buildK0))
theorem o_tbuild : outsOK G_tbuild I_tbuild := (outsOK_cons inf_tboxes (outsOK_cons inf_buildK0 outsOK_nil))
theorem ok_tbuild : s_tbuild.ok Try.prog := Sum.okPF (pin := pin_tbuild) facts.mixed g_tbuild o_tbuild tree_tbuild rfl (fun _ => rfl) (fun xs h => h.1) (by
  intro xs hx hp
  obtain ⟨cL, rfl⟩ : ∃ a, xs = [a] := by
    match xs, hx with
    | [a], _ => exact ⟨a, rfl⟩
  simp only [t_tbuild, G_tbuild, s_tboxes, s_buildK0, s_buildK, TX.sat, XB.prop, X.den, List.map_cons, List.map_nil, List.getElem?_cons_zero, List.getElem?_cons_succ, List.cons_append, List.nil_append, List.getD_cons_zero, List.getD_cons_succ, mkS, mkP, and_true, true_and, Int.not_lt, Int.not_le, not_or, not_and, Classical.not_not, ne_eq, not_true_eq_false, not_false_eq_true, sem_tboxes, sem_tbuild, sem_build, L2.den, dec_cod, pre_build, treeL]
  have hp' : ∀ b ∈ dec cL, rangeOK Bs_ks (dec b) := hp.2
  refine ⟨⟨vs_none (n := 1) rfl, hp'⟩, ?_⟩
  clear hp
  generalize dec cL = L at *
  refine ⟨fun h => by rw [if_neg h], fun h => ?_⟩
  have hbx := boxesE_ok h
  have hbok := hbx.2
  have hl := hbx.1
  rw [h, if_pos rfl]
  refine ⟨by omega, by omega, fun ys => ∃ (l : List Int) (i : Nat), ys = [cod l, (i : Int)] ∧ l.length = L.length ∧ i ≤ L.length ∧ ∀ j, j < i → l.getD j 0 = (j : Int), fun ys => L.length - (ys.getD 1 0).toNat, fun xs hx _ => vs_none (n := 2) hx, ?_, ?_⟩
  · refine ⟨List.replicate L.length 0, 0, ?_, by simp, Nat.zero_le _, fun j h => absurd h (by omega)⟩
    simp
  rintro xs hx ⟨l, i, rfl, hll, hi, hg⟩
  simp only [TX.sat, XB.prop, X.den, List.map_cons, List.map_nil, List.getElem?_cons_zero, List.getElem?_cons_succ, List.cons_append, List.nil_append, List.getD_cons_zero, List.getD_cons_succ, mkS, mkP, and_true, true_and, Int.not_lt, Int.not_le, not_or, not_and, Classical.not_not, ne_eq, not_true_eq_false, not_false_eq_true, dec_cod, Int.toNat_natCast]
  refine ⟨fun h1 => ?_, fun h1 => ?_⟩
  · have hlt : i < L.length := by simpa using h1
    have hw : IntKind.i64.wrap ((i : Int) + 1) = ((i + 1 : Nat) : Int) := by rw [wrap64 (by omega) (by omega)]; omega
    rw [hw]
    refine ⟨by omega, by omega, ⟨l.set i (i : Int), i + 1, rfl, by simp [hll], by omega, fun j hj => ?_⟩, by omega⟩
    rw [getD_set]
    by_cases hji : i = j
    · rw [if_pos ⟨hji, by omega⟩, hji]
    · rw [if_neg (fun hh => hji hh.1)]
      exact hg j (by omega)
  · have hge : i = L.length := by
      have : L.length ≤ i := by simpa using h1
      omega
    have hidx := idx_uniq hll (fun j hj => hg j (by omega))
    subst hidx
    rw [idx_len]
    refine ⟨fun h2 => ?_, fun h2 => ?_⟩
    · rw [show L.length = 0 by omega]
      rfl
    · have hseg : segL (idxL L.length) 0 (L.length : Int) = idxL L.length := by
        have := seg_all (idxL L.length)
        rwa [idx_len] at this
      refine ⟨⟨by omega, by omega, by rw [idx_len]; omega, by omega, by rw [idx_len]; omega, by simp; omega, ?_, hbok⟩, ?_⟩
      · rw [hseg]
        intro x hx
        exact idx_mem.1 hx
      · rw [hseg, show ((L.length : Int) - 0).toNat = L.length by omega]
        simp)
theorem inf_tbuild : InfOK s_tbuild i_tbuild := ⟨fun xs h => (small_not xs h).elim, fun vs xs h hp => vsOK_cons trivial (vsOK_cons (boxesE_iv _) vsOK_nil)⟩
#print axioms ok_tbuild
noncomputable def G_rtbuild : List Sum := [s_rboxes, s_rbuilt]
def I_rtbuild : List Inf := [i_rboxes, i_rbuilt]
def t_rtbuild : TX := (.call 0 [(.v 0)] (.ite (.or (.not (.eq (.v 1) (.c 0))) (.eq (.ln (.v 0)) (.c 0))) (.ret [.nl, (.v 1)])
(.loop 2 [none, none] [.nl, (.c 0)] (.ite (.lt (.v 3) (.ln (.v 0))) (.asrt (.le (.ln (.l2 .snoc (.v 2) (.v 3))) (.c 1000000)) (.back 0 [(.l2 .snoc (.v 2) (.v 3)), (.wr .i64 (.add (.v 3) (.c 1)))]))
(.call 1 [(.v 0), (.v 2), (.c 0)] (.ret [(.v 4), (.c 0)]))))))
theorem tree_rtbuild : merge (optFL [] I_rtbuild [] pin_rtbuild (symFnL Try.prog (openAt Try.prog [(6, 18)]) gl0 G_rtbuild 1000 23 [Bs] [Tr, I1])) = t_rtbuild := by kernel_rfl
theorem g_rtbuild : Gok Try.prog G_rtbuild := (more ok_rboxes (fix.one ok_rbuilt))
theorem o_rtbuild : outsOK G_rtbuild I_rtbuild := (outsOK_cons inf_rboxes (outsOK_cons inf_rbuilt outsOK_nil))
theorem ok_rtbuild : s_rtbuild.ok Try.prog := Sum.okPF (pin := pin_rtbuild) facts.mixed g_rtbuild o_rtbuild tree_rtbuild rfl (fun _ => rfl) (fun xs h => h.1) (by
  intro xs hx hp
  obtain ⟨cL, rfl⟩ : ∃ a, xs = [a] := by
    match xs, hx with
    | [a], _ => exact ⟨a, rfl⟩
  simp only [t_rtbuild, G_rtbuild, s_rboxes, s_rbuilt, s_rbuiltK, TX.sat, XB.prop, X.den, List.map_cons, List.map_nil, List.getElem?_cons_zero, List.getElem?_cons_succ, List.cons_append, List.nil_append, List.getD_cons_zero, List.getD_cons_succ, mkS, mkP, and_true, true_and, Int.not_lt, Int.not_le, not_or, not_and, Classical.not_not, ne_eq, not_true_eq_false, not_false_eq_true, sem_rboxes, sem_rtbuild, sem_tbuild, sem_rbuilt, L2.den, dec_cod, pre_rbuilt]
  have hp' : ∀ b ∈ dec cL, rangeOK Bs_ks (dec b) := hp.2
  refine ⟨⟨vs_none (n := 1) rfl, hp'⟩, ?_⟩
  clear hp
  generalize hLL : dec cL = L at *
  refine ⟨fun h => ?_, fun h => ?_⟩
  · by_cases h0 : boxesE L = 0
    · rw [if_pos h0, nil_tree (by have := h.resolve_left (fun hh => hh h0); omega)]
    · rw [if_neg h0]
  obtain ⟨h0, hne⟩ := h
  obtain ⟨hl, hbok⟩ := boxesE_ok h0
  rw [h0, if_pos rfl]
  refine ⟨fun ys => ∃ i : Nat, i ≤ L.length ∧ ys = [cod (idxL i), (i : Int)], fun ys => L.length - (ys.getD 1 0).toNat, fun xs hx _ => vs_none (n := 2) hx, ⟨0, Nat.zero_le _, rfl⟩, ?_⟩
  rintro xs hx ⟨i, hi, rfl⟩
  simp only [TX.sat, XB.prop, X.den, List.map_cons, List.map_nil, List.getElem?_cons_zero, List.getElem?_cons_succ, List.cons_append, List.nil_append, List.getD_cons_zero, List.getD_cons_succ, mkS, mkP, and_true, true_and, Int.not_lt, Int.not_le, not_or, not_and, Classical.not_not, ne_eq, not_true_eq_false, not_false_eq_true, dec_cod, Int.toNat_natCast]
  refine ⟨fun h1 => ?_, fun h1 => ?_⟩
  · have hw : IntKind.i64.wrap ((i : Int) + 1) = ((i + 1 : Nat) : Int) := by rw [wrap64 (by omega) (by omega)]; omega
    rw [hw, ← idx_succ]
    exact ⟨by rw [idx_len]; omega, ⟨i + 1, by omega, rfl⟩, by omega⟩
  · obtain rfl : i = L.length := by omega
    rw [idx_len]
    exact ⟨⟨by omega, vsOK_cons trivial (vsOK_cons trivial (vsOK_cons (iv_def.2 (by omega)) vsOK_nil)), ⟨by rw [idx_len]; omega, fun x hx => idx_mem.1 hx, hbok⟩, by omega⟩, rfl⟩)
#print axioms ok_rtbuild
end Go.Proofs.Ytgcoidbaoigkeaa.fix
