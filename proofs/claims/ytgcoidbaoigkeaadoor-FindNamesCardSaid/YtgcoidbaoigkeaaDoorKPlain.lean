/-
  The document's shape is the program's.
-/
import Derived.Test.YtgcoidbaoigkeaaDoorKDefs
import Derived.Test.YtgcoidbaoigkeaaDoorGTree
set_option linter.unusedVariables false
set_option linter.unusedSimpArgs false
namespace Go.Proofs.YtgcoidbaoigkeaaDoor.fix
open Go.RowKit Go.Sx

def BT.Sh (l : List Int) : BT → Nat → Nat → Prop
  | .leaf i, s, e => s = i ∧ e = i + 1 ∧ i < l.length ∧ co (l.getD i 0) 6 = -1 ∧ co (l.getD i 0) 7 = -1
  | .node i a b, s, e => s = i ∧ i < l.length ∧ ∃ m, a.Sh l (i + 1) m ∧ b.Sh l m e ∧ co (l.getD i 0) 6 = (i : Int) + 1 ∧ co (l.getD i 0) 7 = (m : Int) ∧ co (l.getD i 0) 8 = -1
theorem BT.At.sh {l : List Int} {n : Int} : ∀ {T : BT} {s e : Nat}, T.At l n s e → T.Sh l s e
  | .leaf i, s, e, h => ⟨h.1, h.2.1, h.2.2.1, h.2.2.2.1, h.2.2.2.2.1⟩
  | .node i a b, s, e, ⟨h1, h2, m, h3, h4, h5, h6, h7⟩ => ⟨h1, h2, m, h3.sh, h4.sh, h5, h6, h7⟩
theorem BT.Sh.le {l : List Int} : ∀ {T : BT} {s e : Nat}, T.Sh l s e → e = s + T.size ∧ e ≤ l.length
  | .leaf i, s, e, h => by
    obtain ⟨rfl, rfl, h1, _⟩ := h
    exact ⟨rfl, h1⟩
  | .node i a b, s, e, h => by
    obtain ⟨rfl, h1, m, h2, h3, _⟩ := h
    have e1 := h2.le
    have e2 := h3.le
    exact ⟨by simp only [BT.size]; omega, e2.2⟩
theorem BT.Sh.leaf_in {l : List Int} : ∀ {T : BT} {s e : Nat}, T.Sh l s e → ∀ i ∈ T.leaves, s ≤ i ∧ i < e ∧ co (l.getD i 0) 6 = -1 ∧ co (l.getD i 0) 7 = -1
  | .leaf i, s, e, h, k, hk => by
    obtain ⟨rfl, rfl, h1, h2, h3⟩ := h
    simp only [BT.leaves, List.mem_singleton] at hk
    subst hk
    exact ⟨by omega, by omega, h2, h3⟩
  | .node i a b, s, e, h, k, hk => by
    obtain ⟨rfl, h1, m, h2, h3, _⟩ := h
    have e1 := h2.le
    have e2 := h3.le
    simp only [BT.leaves, List.mem_append] at hk
    rcases hk with hk | hk
    · have := h2.leaf_in k hk; omega
    · have := h3.leaf_in k hk; omega
theorem run_of {l : List Int} {n : Int} : ∀ {T : BT} {s e : Nat} {se S : List Int}, T.Sh l s e → (∀ i ∈ T.leaves, 0 ≤ co (l.getD i 0) 8 ∧ co (l.getD i 0) 8 < n) → (T.leaves.map (itm l)).Nodup → (∀ k ∈ T.leaves.map (itm l), se.getD k 0 = 0) → se.length = n.toNat →
    shRun l n s = some (se, S ++ [(s : Int)]) → ∃ se', shRun l n e = some (se', S) ∧ se'.length = n.toNat ∧ ∀ k, se'.getD k 0 ≠ 0 → se.getD k 0 ≠ 0 ∨ k ∈ T.leaves.map (itm l)
  | .leaf i, s, e, se, S, h, hr, hn, hz, hl, hrun => by
    obtain ⟨rfl, rfl, h1, h2, h3⟩ := h
    have hi := hr s (by simp [BT.leaves])
    have hzi := hz (itm l s) (by simp [BT.leaves])
    refine ⟨se.set (co (l.getD s 0) 8).toNat 1, ?_, by rw [List.length_set]; exact hl, fun k hk => ?_⟩
    · rw [shRun_succ, hrun]
      simp only [Option.bind_some, shStep, take_snoc, last_snoc]
      rw [if_neg (by simp), if_neg (by omega), if_neg (by
        rintro (h | h | h)
        · omega
        · omega
        · exact h hzi)]
    · simp only [BT.leaves, List.map_cons, List.map_nil, List.mem_singleton]
      by_cases hki : k = itm l s
      · exact .inr hki
      · refine .inl ?_
        have hk' : (se.set (itm l s) 1).getD k 0 ≠ 0 := hk
        rw [getD_ne hki] at hk'
        exact hk'
  | .node i a b, s, e, se, S, h, hr, hn, hz, hl, hrun => by
    obtain ⟨rfl, h1, m, h2, h3, h4, h5, h6⟩ := h
    have e1 := h2.le
    have p1 : 0 < a.size := by have := a.size_leaves; omega
    simp only [BT.leaves, List.mem_append, List.map_append] at hr hn hz ⊢
    rw [List.nodup_append] at hn
    have hrun1 : shRun l n (s + 1) = some (se, (S ++ [(m : Int)]) ++ [((s + 1 : Nat) : Int)]) := by
      rw [shRun_succ, hrun]
      simp only [Option.bind_some, shStep, take_snoc, last_snoc]
      rw [if_neg (by simp), if_pos (by omega), if_neg (by omega), h4, h5]
      rfl
    obtain ⟨se1, k1, k2, k3⟩ := run_of h2 (fun i hi => hr i (.inl hi)) hn.1 (fun k hk => hz k (.inl hk)) hl hrun1
    obtain ⟨se2, j1, j2, j3⟩ := run_of h3 (fun i hi => hr i (.inr hi)) hn.2.1 (fun k hk => by
      by_cases hq : se1.getD k 0 = 0
      · exact hq
      · rcases k3 k hq with hq | hq
        · exact absurd (hz k (.inr hk)) hq
        · exact absurd rfl (hn.2.2 k hq k hk)) k2 k1
    refine ⟨se2, j1, j2, fun k hk => ?_⟩
    rcases j3 k hk with hk | hk
    · rcases k3 k hk with hk | hk
      · exact .inl hk
      · exact .inr (.inl hk)
    · exact .inr (.inr hk)
where
  getD_ne {se : List Int} {k j : Nat} {x : Int} (h : k ≠ j) : (se.set j x).getD k 0 = se.getD k 0 := by
    simp [List.getD, List.getElem?_set_ne (Ne.symm h)]

/-! ### items -/
end Go.Proofs.YtgcoidbaoigkeaaDoor.fix
