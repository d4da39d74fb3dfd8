/-
  The document's shape is the program's.
-/
import Derived.Test.YtgcoidbaoigkeaaKDefs
import Derived.Test.YtgcoidbaoigkeaaGTree
set_option linter.unusedVariables false
set_option linter.unusedSimpArgs false
namespace Go.Proofs.Ytgcoidbaoigkeaa.fix
open Go.RowKit Go.Sx

def BT.Sh (l : List Int) : BT → Nat → Nat → Prop
  | .leaf i, s, e => s = i ∧ e = i + 1 ∧ i < l.length ∧ co (l.getD i 0) 6 = -1 ∧ co (l.getD i 0) 7 = -1
  | .node i a b, s, e => s = i ∧ i < l.length ∧ ∃ m, a.Sh l (i + 1) m ∧ b.Sh l m e ∧ co (l.getD i 0) 6 = (i : Int) + 1 ∧ co (l.getD i 0) 7 = (m : Int) ∧ co (l.getD i 0) 8 = -1
theorem BT.At.sh {l : List Int} {n : Int} : ∀ {T : BT} {s e : Nat}, T.At l n s e → T.Sh l s e
  | .leaf i, s, e, h => ⟨h.1, h.2.1, h.2.2.1, h.2.2.2.1, h.2.2.2.2.1⟩
  | .node i a b, s, e, ⟨h1, h2, m, h3, h4, h5, h6, h7⟩ => ⟨h1, h2, m, h3.sh, h4.sh, h5, h6, h7⟩
theorem BT.Sh.le {l : List Int} : ∀ {T : BT} {s e : Nat}, T.Sh l s e → e = s + T.size ∧ e ≤ l.length
  | .leaf i, s, e, h => by
    obtain ⟨rfl, rfl, h1, _⟩ := h
    exact ⟨rfl, h1⟩
  | .node i a b, s, e, h => by
    obtain ⟨rfl, h1, m, h2, h3, _⟩ := h
    have e1 := h2.le
    have e2 := h3.le
    exact ⟨by simp only [BT.size]; omega, e2.2⟩
theorem BT.Sh.ends {l : List Int} : ∀ {T : BT} {s e : Nat}, T.Sh l s e → ∀ f, T.size ≤ f → endsN l f (s : Int) = (e : Int)
  | .leaf i, s, e, h, f, hf => by
    obtain ⟨rfl, rfl, h1, h2, h3⟩ := h
    obtain ⟨f, rfl⟩ : ∃ g, f = g + 1 := ⟨f - 1, by simp only [BT.size] at hf; omega⟩
    unfold endsN
    rw [if_neg (by omega), Int.toNat_natCast, if_pos ⟨h2, h3⟩]
    omega
  | .node i a b, s, e, h, f, hf => by
    obtain ⟨rfl, h1, m, h2, h3, h4, h5, h6⟩ := h
    simp only [BT.size] at hf
    obtain ⟨f, rfl⟩ : ∃ g, f = g + 1 := ⟨f - 1, by omega⟩
    have k1 := h2.ends f (by omega)
    have k2 := h3.ends f (by omega)
    rw [show ((s + 1 : Nat) : Int) = (s : Int) + 1 by omega] at k1
    unfold endsN
    rw [if_neg (by omega), Int.toNat_natCast, if_neg (by omega), if_neg (by omega), k1, if_neg (by omega), k2]
theorem sh_of_ends {l : List Int} : ∀ (f s : Nat) (e : Int), endsN l f (s : Int) = e → 0 ≤ e → ∃ (T : BT) (e' : Nat), e = (e' : Int) ∧ T.Sh l s e'
  | 0, s, e, h, he => by unfold endsN at h; omega
  | f + 1, s, e, h, he => by
    unfold endsN at h
    split at h
    · omega
    · rename_i hs
      rw [Int.toNat_natCast] at h
      split at h
      · rename_i hl
        exact ⟨.leaf s, s + 1, by omega, rfl, rfl, by omega, hl.1, hl.2⟩
      · split at h
        · omega
        · rename_i hx
          split at h
          · omega
          · rename_i hm
            simp only [not_or, ne_eq, Classical.not_not, Int.not_lt] at hx hm
            obtain ⟨A, m, hm1, hA⟩ := sh_of_ends f (s + 1) _ rfl (by rw [show ((s + 1 : Nat) : Int) = (s : Int) + 1 by omega]; exact hm.1)
            rw [show ((s + 1 : Nat) : Int) = (s : Int) + 1 by omega] at hm1
            rw [hm1] at h hm
            obtain ⟨B, e', he', hB⟩ := sh_of_ends f m e h he
            exact ⟨.node s A B, e', he', rfl, by omega, m, hA, hB, hx.1, hm.2, hx.2⟩
theorem BT.Sh.leaf_in {l : List Int} : ∀ {T : BT} {s e : Nat}, T.Sh l s e → ∀ i ∈ T.leaves, s ≤ i ∧ i < e ∧ co (l.getD i 0) 6 = -1 ∧ co (l.getD i 0) 7 = -1
  | .leaf i, s, e, h, k, hk => by
    obtain ⟨rfl, rfl, h1, h2, h3⟩ := h
    simp only [BT.leaves, List.mem_singleton] at hk
    subst hk
    exact ⟨by omega, by omega, h2, h3⟩
  | .node i a b, s, e, h, k, hk => by
    obtain ⟨rfl, h1, m, h2, h3, _⟩ := h
    have e1 := h2.le
    have e2 := h3.le
    simp only [BT.leaves, List.mem_append] at hk
    rcases hk with hk | hk
    · have := h2.leaf_in k hk; omega
    · have := h3.leaf_in k hk; omega
theorem BT.Sh.leaves_lt {l : List Int} : ∀ {T : BT} {s e : Nat}, T.Sh l s e → T.leaves.Pairwise (· < ·)
  | .leaf i, s, e, h => List.pairwise_singleton _ _
  | .node i a b, s, e, h => by
    obtain ⟨rfl, h1, m, h2, h3, _⟩ := h
    simp only [BT.leaves]
    rw [List.pairwise_append]
    refine ⟨h2.leaves_lt, h3.leaves_lt, fun x hx y hy => ?_⟩
    have := h2.leaf_in x hx
    have := h3.leaf_in y hy
    omega
theorem BT.Sh.leaf_mem {l : List Int} : ∀ {T : BT} {s e : Nat}, T.Sh l s e → ∀ i, s ≤ i → i < e → co (l.getD i 0) 6 = -1 → i ∈ T.leaves
  | .leaf j, s, e, h, i, h1, h2, h3 => by
    obtain ⟨rfl, rfl, _⟩ := h
    have : i = s := by omega
    simp [BT.leaves, this]
  | .node j a b, s, e, h, i, h1, h2, h3 => by
    obtain ⟨rfl, g1, m, g2, g3, g4, g5, g6⟩ := h
    simp only [BT.leaves, List.mem_append]
    by_cases hi : i = s
    · subst hi
      omega
    · by_cases hm : i < m
      · exact .inl (g2.leaf_mem i (by omega) hm h3)
      · exact .inr (g3.leaf_mem i (by omega) h2 h3)

theorem run_of {l : List Int} {n : Int} : ∀ {T : BT} {s e : Nat} {se S : List Int}, T.Sh l s e → (∀ i ∈ T.leaves, 0 ≤ co (l.getD i 0) 8 ∧ co (l.getD i 0) 8 < n) → (T.leaves.map (itm l)).Nodup → (∀ k ∈ T.leaves.map (itm l), se.getD k 0 = 0) → se.length = n.toNat →
    shRun l n s = some (se, S ++ [(s : Int)]) → ∃ se', shRun l n e = some (se', S) ∧ se'.length = n.toNat ∧ ∀ k, se'.getD k 0 ≠ 0 → se.getD k 0 ≠ 0 ∨ k ∈ T.leaves.map (itm l)
  | .leaf i, s, e, se, S, h, hr, hn, hz, hl, hrun => by
    obtain ⟨rfl, rfl, h1, h2, h3⟩ := h
    have hi := hr s (by simp [BT.leaves])
    have hzi := hz (itm l s) (by simp [BT.leaves])
    refine ⟨se.set (co (l.getD s 0) 8).toNat 1, ?_, by rw [List.length_set]; exact hl, fun k hk => ?_⟩
    · rw [shRun_succ, hrun]
      simp only [Option.bind_some, shStep, take_snoc, last_snoc]
      rw [if_neg (by simp), if_neg (by omega), if_neg (by
        rintro (h | h | h)
        · omega
        · omega
        · exact h hzi)]
    · simp only [BT.leaves, List.map_cons, List.map_nil, List.mem_singleton]
      by_cases hki : k = itm l s
      · exact .inr hki
      · refine .inl ?_
        have hk' : (se.set (itm l s) 1).getD k 0 ≠ 0 := hk
        rw [getD_ne hki] at hk'
        exact hk'
  | .node i a b, s, e, se, S, h, hr, hn, hz, hl, hrun => by
    obtain ⟨rfl, h1, m, h2, h3, h4, h5, h6⟩ := h
    have e1 := h2.le
    have p1 : 0 < a.size := by have := a.size_leaves; omega
    simp only [BT.leaves, List.mem_append, List.map_append] at hr hn hz ⊢
    rw [List.nodup_append] at hn
    have hrun1 : shRun l n (s + 1) = some (se, (S ++ [(m : Int)]) ++ [((s + 1 : Nat) : Int)]) := by
      rw [shRun_succ, hrun]
      simp only [Option.bind_some, shStep, take_snoc, last_snoc]
      rw [if_neg (by simp), if_pos (by omega), if_neg (by omega), h4, h5]
      rfl
    obtain ⟨se1, k1, k2, k3⟩ := run_of h2 (fun i hi => hr i (.inl hi)) hn.1 (fun k hk => hz k (.inl hk)) hl hrun1
    obtain ⟨se2, j1, j2, j3⟩ := run_of h3 (fun i hi => hr i (.inr hi)) hn.2.1 (fun k hk => by
      by_cases hq : se1.getD k 0 = 0
      · exact hq
      · rcases k3 k hq with hq | hq
        · exact absurd (hz k (.inr hk)) hq
        · exact absurd rfl (hn.2.2 k hq k hk)) k2 k1
    refine ⟨se2, j1, j2, fun k hk => ?_⟩
    rcases j3 k hk with hk | hk
    · rcases k3 k hk with hk | hk
      · exact .inl hk
      · exact .inr (.inl hk)
    · exact .inr (.inr hk)
where
  getD_ne {se : List Int} {k j : Nat} {x : Int} (h : k ≠ j) : (se.set j x).getD k 0 = se.getD k 0 := by
    simp [List.getD, List.getElem?_set_ne (Ne.symm h)]

/-! ### items -/
theorem itRun_spec {l : List Int} {n : Int} : ∀ i se, itRun l n i = some se → se.length = n.toNat ∧ (∀ j, j < i → co (l.getD j 0) 6 = -1 ∧ co (l.getD j 0) 7 = -1 → (0 ≤ co (l.getD j 0) 8 ∧ co (l.getD j 0) 8 < n) ∧ se.getD (itm l j) 0 ≠ 0) ∧
    (∀ j k, j < k → k < i → co (l.getD j 0) 6 = -1 ∧ co (l.getD j 0) 7 = -1 → co (l.getD k 0) 6 = -1 ∧ co (l.getD k 0) 7 = -1 → itm l j ≠ itm l k)
  | 0, se, h => by
    simp only [itRun, Option.some.injEq] at h
    subst h
    exact ⟨by simp, fun j hj => by omega, fun j k _ hk => by omega⟩
  | i + 1, se, h => by
    simp only [itRun, Option.bind_eq_some_iff] at h
    obtain ⟨s0, h0, h⟩ := h
    obtain ⟨a1, a2, a3⟩ := itRun_spec i s0 h0
    split at h
    · rename_i hlf
      split at h
      · cases h
      · rename_i hg
        simp only [not_or, Int.not_lt, Int.not_le, ne_eq, Classical.not_not] at hg
        simp only [Option.some.injEq] at h
        subst h
        have hq : itm l i < s0.length := by unfold itm; omega
        refine ⟨by rw [List.length_set]; exact a1, fun j hj hl => ?_, fun j k hj hk h1 h2 => ?_⟩
        · by_cases hji : j = i
          · subst hji
            refine ⟨⟨hg.1, hg.2.1⟩, ?_⟩
            show (s0.set (itm l j) 1).getD (itm l j) 0 ≠ 0
            simp [List.getD, hq]
          · obtain ⟨b1, b2⟩ := a2 j (by omega) hl
            refine ⟨b1, ?_⟩
            show (s0.set (itm l i) 1).getD (itm l j) 0 ≠ 0
            by_cases he : itm l i = itm l j
            · rw [he] at hq ⊢
              simp [List.getD, hq]
            · simp only [List.getD, List.getElem?_set_ne he]
              exact b2
        · by_cases hki : k = i
          · subst hki
            intro he
            have := (a2 j hj h1).2
            rw [he] at this
            exact this hg.2.2
          · exact a3 j k hj (by omega) h1 h2
    · simp only [Option.some.injEq] at h
      subst h
      refine ⟨a1, fun j hj hl => ?_, fun j k hj hk h1 h2 => ?_⟩
      · have : j ≠ i := fun e => by subst e; rename_i hn; exact hn hl
        exact a2 j (by omega) hl
      · have : k ≠ i := fun e => by subst e; rename_i hn; exact hn h2
        exact a3 j k hj (by omega) h1 h2
theorem itRun_some {l : List Int} {n : Int} (h1 : ∀ j, j < l.length → co (l.getD j 0) 6 = -1 ∧ co (l.getD j 0) 7 = -1 → 0 ≤ co (l.getD j 0) 8 ∧ co (l.getD j 0) 8 < n)
    (h2 : ∀ j k, j < k → k < l.length → co (l.getD j 0) 6 = -1 ∧ co (l.getD j 0) 7 = -1 → co (l.getD k 0) 6 = -1 ∧ co (l.getD k 0) 7 = -1 → itm l j ≠ itm l k) : ∀ i, i ≤ l.length → ∃ se, itRun l n i = some se ∧ ∀ k, se.getD k 0 ≠ 0 → ∃ j, j < i ∧ (co (l.getD j 0) 6 = -1 ∧ co (l.getD j 0) 7 = -1) ∧ itm l j = k
  | 0, _ => ⟨_, rfl, fun k hk => by
    exfalso
    apply hk
    simp only [List.getD, List.getElem?_replicate]
    split <;> rfl⟩
  | i + 1, hi => by
    obtain ⟨se, a1, a2⟩ := itRun_some h1 h2 i (by omega)
    simp only [itRun, a1, Option.bind_some]
    by_cases hl : co (l.getD i 0) 6 = -1 ∧ co (l.getD i 0) 7 = -1
    · rw [if_pos hl]
      have hr := h1 i (by omega) hl
      have hz : se.getD (co (l.getD i 0) 8).toNat 0 = 0 := by
        refine Classical.byContradiction fun hne => ?_
        obtain ⟨j, hj, hjl, he⟩ := a2 _ hne
        exact h2 j i hj (by omega) hjl hl he
      rw [if_neg (by
        rintro (h | h | h)
        · omega
        · omega
        · exact h hz)]
      refine ⟨_, rfl, fun k hk => ?_⟩
      by_cases hki : k = itm l i
      · exact ⟨i, by omega, hl, hki.symm⟩
      · have : (se.set (itm l i) 1).getD k 0 = se.getD k 0 := by simp [List.getD, List.getElem?_set_ne (Ne.symm hki)]
        have hk' : (se.set (itm l i) 1).getD k 0 ≠ 0 := hk
        rw [this] at hk'
        obtain ⟨j, hj, hjl, he⟩ := a2 k hk'
        exact ⟨j, by omega, hjl, he⟩
    · rw [if_neg hl]
      exact ⟨se, rfl, fun k hk => by
        obtain ⟨j, hj, hjl, he⟩ := a2 k hk
        exact ⟨j, by omega, hjl, he⟩⟩

theorem rshaped_eq {l : List Int} {n : Int} (h0 : 0 ≤ n) (hn : n ≤ 256) : rshapedB l n = shapedB l n := by
  rw [Bool.eq_iff_iff]
  constructor
  · intro h
    unfold rshapedB at h
    simp only [Bool.and_eq_true, decide_eq_true_eq] at h
    obtain ⟨⟨_, hlen⟩, hends, hit⟩ := h
    obtain ⟨se, hse⟩ := Option.isSome_iff_exists.1 hit
    obtain ⟨b1, b2, b3⟩ := itRun_spec l.length se hse
    unfold shapedB
    simp only [Bool.and_eq_true, decide_eq_true_eq]
    refine ⟨hlen, ?_⟩
    by_cases hpos : 0 < n
    · have he : endsN l (l.length + 1) ((0 : Nat) : Int) = (l.length : Int) := by
        rcases hends with h | h
        · omega
        · exact h
      obtain ⟨T, e', he', hT⟩ := sh_of_ends _ 0 _ he (by omega)
      have : e' = l.length := by omega
      subst this
      have hleaf : ∀ i ∈ T.leaves, i < l.length ∧ co (l.getD i 0) 6 = -1 ∧ co (l.getD i 0) 7 = -1 := fun i hi => by
        have := hT.leaf_in i hi
        exact ⟨by omega, this.2.2⟩
      have hnd : (T.leaves.map (itm l)).Nodup := by
        refine List.Pairwise.map _ (R := fun a b => a < b ∧ a ∈ T.leaves ∧ b ∈ T.leaves) (fun a b hab => b3 a b hab.1 (hleaf b hab.2.2).1 (hleaf a hab.2.1).2 (hleaf b hab.2.2).2) ?_
        exact (hT.leaves_lt.imp_of_mem fun ha hb h => ⟨h, ha, hb⟩)
      obtain ⟨se', k1, _⟩ := run_of (n := n) (se := List.replicate n.toNat 0) (S := []) hT (fun i hi => (b2 i (hleaf i hi).1 (hleaf i hi).2).1) hnd (fun k _ => by
        simp only [List.getD, List.getElem?_replicate]
        split <;> rfl) (by simp) (by simp [shRun, hpos])
      rw [k1]
      rfl
    · have hl0 : l.length = 0 := by omega
      rw [hl0]
      simp [shRun, shEnd, hpos]
  · intro h
    have hlen := shaped_len h
    unfold rshapedB
    simp only [Bool.and_eq_true, decide_eq_true_eq]
    refine ⟨⟨hn, hlen⟩, ?_⟩
    by_cases hpos : 0 < n
    · obtain ⟨T, h1, h2, h3, h4⟩ := shaped_tree h hpos
      have hsh := h1.sh
      have hsz := h1.le.1
      refine ⟨.inr (hsh.ends _ (by omega)), ?_⟩
      have hl : ∀ j, j < l.length → co (l.getD j 0) 6 = -1 → j ∈ T.leaves := fun j hj h6 => hsh.leaf_mem j (Nat.zero_le _) hj h6
      obtain ⟨se, hse, _⟩ := itRun_some (l := l) (n := n) (fun j hj hl6 => by
        have := h1.leaf_in j (hl j hj hl6.1)
        omega) (fun j k hjk hk hj6 hk6 he => by
        have hp := List.pairwise_map.1 h2
        have hpl := hsh.leaves_lt
        have hboth : T.leaves.Pairwise (fun a b => a < b ∧ itm l a ≠ itm l b) := hpl.and hp
        have := pair_of hboth (hl j (by omega) hj6.1) (hl k hk hk6.1) hjk
        exact this he) l.length (Nat.le_refl _)
      rw [hse]
      rfl
    · have hl0 : l.length = 0 := by omega
      refine ⟨.inl (by omega), ?_⟩
      rw [hl0]
      rfl
where
  pair_of {l : List Int} {L : List Nat} {j k : Nat} (h : L.Pairwise (fun a b => a < b ∧ itm l a ≠ itm l b)) (hj : j ∈ L) (hk : k ∈ L) (hjk : j < k) : itm l j ≠ itm l k := by
    induction L with
    | nil => cases hj
    | cons x L ih =>
      rw [List.pairwise_cons] at h
      rcases List.mem_cons.1 hj with hj1 | hj1
      · rcases List.mem_cons.1 hk with hk1 | hk1
        · omega
        · rw [hj1]
          exact (h.1 k hk1).2
      · rcases List.mem_cons.1 hk with hk1 | hk1
        · have := (h.1 j hj1).1
          omega
        · exact ih h.2 hj1 hk1
end Go.Proofs.Ytgcoidbaoigkeaa.fix
