/-
  How deep what is built is: the plain law.
-/
import Derived.Test.YtgcoidbaoigkeaaQTLaw
set_option linter.unusedVariables false
set_option linter.unusedSimpArgs false
namespace Go.Proofs.Ytgcoidbaoigkeaa.fix
open Go.RowKit Go.Sx

/-- One branch hands its depth on. -/
noncomputable def dStep (t deep : List Int) (i : Nat) : List Int :=
  if ((i : Int) < co (t.getD i 0) 6 ∧ (i : Int) < co (t.getD i 0) 7) ∧ (co (t.getD i 0) 6 < 512 ∧ co (t.getD i 0) 7 < 512) then
    (deep.set (co (t.getD i 0) 6).toNat (deep.getD i 0 + 1)).set (co (t.getD i 0) 7).toNat (deep.getD i 0 + 1) else deep
noncomputable def dRun (t deep : List Int) (a : Nat) : Nat → List Int
  | 0 => deep
  | k + 1 => dStep t (dRun t deep a k) (a + k)
theorem dStep_len (t deep : List Int) (i : Nat) : (dStep t deep i).length = deep.length := by
  unfold dStep
  split <;> simp
theorem dRun_len (t deep : List Int) (a : Nat) : ∀ k, (dRun t deep a k).length = deep.length
  | 0 => rfl
  | k + 1 => by rw [dRun, dStep_len, dRun_len t deep a k]
theorem dRun_add (t deep : List Int) (a k : Nat) : ∀ m, dRun t deep a (k + m) = dRun t (dRun t deep a k) (a + k) m
  | 0 => rfl
  | m + 1 => by rw [← Nat.add_assoc, dRun, dRun, dRun_add t deep a k m, Nat.add_assoc]
theorem deep_run {t : List Int} {n : Int} (ht : t.length ≤ 512) : ∀ {T : BT} {a e : Nat} {deep : List Int} {d : Int}, T.At t n a e → deep.length = 512 → deep.getD a 0 = d → 1 ≤ d →
    a < e ∧ e ≤ t.length ∧ (∀ k, a + k < e → d ≤ (dRun t deep a k).getD (a + k) 0 ∧ (dRun t deep a k).getD (a + k) 0 ≤ d + (T.deep : Int) - 1) ∧ (∀ k, a + k ≤ e → ∀ j, (j < a ∨ e ≤ j) → (dRun t deep a k).getD j 0 = deep.getD j 0) := by
  intro T
  induction T with
  | leaf i =>
    intro a e deep d h hl hd h1
    obtain ⟨rfl, rfl, hlt, c6, c7, _, _⟩ := h
    have hs : ∀ x, dStep t x a = x := fun x => by
      unfold dStep
      rw [if_neg (by omega)]
    refine ⟨Nat.lt_succ_self _, hlt, fun k hk => ?_, fun k hk j hj => ?_⟩
    · obtain rfl : k = 0 := by omega
      simp only [dRun, Nat.add_zero, BT.deep]
      omega
    · rcases (by omega : k = 0 ∨ k = 1) with rfl | rfl
      · rfl
      · simp only [dRun, Nat.add_zero, hs]
  | node i A B ihA ihB =>
    intro a e deep d h hl hd h1
    obtain ⟨rfl, hlt, m, hA, hB, c6, c7, c8⟩ := h
    have n6 : (co (t.getD a 0) 6).toNat = a + 1 := by omega
    have n7 : (co (t.getD a 0) 7).toNat = m := by omega
    have hAl := hA.le
    have hBl := hB.le
    have hmA : a + 1 < m := by
      have := BT.size_leaves A
      have := hAl.1
      omega
    have hmB : m < e := by
      have := BT.size_leaves B
      have := hBl.1
      omega
    have hstep : dStep t deep a = (deep.set (a + 1) (d + 1)).set m (d + 1) := by
      unfold dStep
      rw [if_pos (by omega), n6, n7, hd]
    generalize hD : (deep.set (a + 1) (d + 1)).set m (d + 1) = D at hstep
    have hDl : D.length = 512 := by rw [← hD]; simp [hl]
    have hDg : ∀ j, D.getD j 0 = if j = m then d + 1 else if j = a + 1 then d + 1 else deep.getD j 0 := by
      intro j
      rw [← hD, getD_set, getD_set, List.length_set]
      by_cases h1 : j = m
      · rw [if_pos ⟨h1.symm, by omega⟩, if_pos h1]
      · rw [if_neg (fun hh => h1 hh.1.symm), if_neg h1]
        by_cases h2 : j = a + 1
        · rw [if_pos ⟨h2.symm, by omega⟩, if_pos h2]
        · rw [if_neg (fun hh => h2 hh.1.symm), if_neg h2]
    obtain ⟨a1, a2, a3, a4⟩ := ihA hA hDl (by rw [hDg, if_neg (by omega : ¬ a + 1 = m), if_pos rfl]) (by omega : 1 ≤ d + 1)
    generalize hE : dRun t D (a + 1) (m - (a + 1)) = E at *
    have hEl : E.length = 512 := by rw [← hE, dRun_len, hDl]
    have hEm : E.getD m 0 = d + 1 := by
      rw [← hE, a4 (m - (a + 1)) (by omega) m (.inr (Nat.le_refl _)), hDg, if_pos rfl]
    obtain ⟨b1, b2, b3, b4⟩ := ihB hB hEl hEm (by omega : 1 ≤ d + 1)
    have hrun1 : ∀ k, dRun t deep a (k + 1) = dRun t D (a + 1) k := fun k => by
      rw [Nat.add_comm k 1, dRun_add]
      simp only [dRun, Nat.add_zero, hstep]
    have hrun2 : ∀ k, dRun t deep a (m - a + k) = dRun t E m k := fun k => by
      rw [show m - a + k = (m - (a + 1) + k) + 1 by omega, hrun1, dRun_add, hE, show a + 1 + (m - (a + 1)) = m by omega]
    have hdp : (BT.node a A B).deep = max A.deep B.deep + 1 := rfl
    refine ⟨by omega, b2, fun k hk => ?_, fun k hk j hj => ?_⟩
    · rw [hdp]
      rcases Nat.eq_zero_or_pos k with rfl | hk0
      · simp only [dRun, Nat.add_zero, hd]
        omega
      · rcases Nat.lt_or_ge (a + k) m with h2 | h2
        · obtain ⟨k', rfl⟩ : ∃ k', k = k' + 1 := ⟨k - 1, by omega⟩
          have := a3 k' (by omega)
          rw [hrun1, show a + (k' + 1) = a + 1 + k' by omega]
          omega
        · obtain ⟨k', rfl⟩ : ∃ k', k = m - a + k' := ⟨k - (m - a), by omega⟩
          have := b3 k' (by omega)
          rw [hrun2, show a + (m - a + k') = m + k' by omega]
          omega
    · rcases Nat.eq_zero_or_pos k with rfl | hk0
      · rfl
      · have hDj : D.getD j 0 = deep.getD j 0 := by rw [hDg, if_neg (by omega), if_neg (by omega)]
        rcases Nat.lt_or_ge (a + k) m with h2 | h2
        · obtain ⟨k', rfl⟩ : ∃ k', k = k' + 1 := ⟨k - 1, by omega⟩
          rw [hrun1, a4 k' (by omega) j (by omega), hDj]
        · obtain ⟨k', rfl⟩ : ∃ k', k = m - a + k' := ⟨k - (m - a), by omega⟩
          rw [hrun2, b4 k' (by omega) j (by omega), ← hE, a4 (m - (a + 1)) (by omega) j (by omega), hDj]
/-- What is built is no deeper than nine. -/
theorem tree_deep {L : List Int} (h0 : 0 < L.length) (h1 : L.length ≤ 256) : ∀ k, k < (treeL L).length → 1 ≤ (dRun (treeL L) ((List.replicate 512 0).set 0 1) 0 k).getD k 0 ∧ (dRun (treeL L) ((List.replicate 512 0).set 0 1) 0 k).getD k 0 ≤ 9 := by
  obtain ⟨T, hT⟩ := tree_bt h0
  have hlen := tree_len (L := L)
  have hd := hT.dp 8 (by rw [idx_len]; exact h1)
  have hshp := hT.shp
  rw [idx_len] at hshp
  obtain ⟨_, _, h2, _⟩ := deep_run (t := treeL L) (by omega) hshp (deep := (List.replicate 512 0).set 0 1) (d := 1) (by rw [List.length_set, List.length_replicate]) (by rw [getD_set, if_pos ⟨rfl, by rw [List.length_replicate]; decide⟩]) (Int.le_refl _)
  intro k hk
  have := h2 k (by omega)
  rw [Nat.zero_add] at this
  omega
#print axioms tree_deep
end Go.Proofs.Ytgcoidbaoigkeaa.fix
