/-
  Trees that are built or refitted: what holds.
-/
import Derived.Test.YtgcoidbaoigkeaaQTPlain
set_option linter.unusedVariables false
set_option linter.unusedSimpArgs false
namespace Go.Proofs.Ytgcoidbaoigkeaa.fix
open Go.RowKit Go.Sx

/-- A tree of some boxes. -/
structure TreeAt (L t : List Int) : Prop where
  shaped : shapedB t (L.length : Int) = true
  all : ∀ i, i < t.length → t.getD i 0 = cod (nine (t.getD i 0)) ∧ six6 (t.getD i 0) = rfBox L t (t.getD i 0)
theorem nine_six3 (b : Int) : nine b = six6 b ++ [co b 6, co b 7, co b 8] := rfl
theorem set_same (l : List Int) (i : Nat) : l.set i (l.getD i 0) = l := by
  by_cases h : i < l.length
  · simp [List.getD, h]
  · rw [List.set_eq_of_length_le (by omega)]
theorem rf_fix {L t : List Int} (h : TreeAt L t) : ∀ c, rfRun L t c = t
  | 0 => rfl
  | c + 1 => by
    rw [rf_succ, rf_fix h c]
    by_cases h0 : t.length = 0
    · obtain rfl : t = [] := List.eq_nil_of_length_eq_zero h0
      rfl
    · have hi := h.all (t.length - 1 - c) (by omega)
      unfold rfStep
      rw [← hi.2, ← nine_six3, ← hi.1, set_same]
theorem refit_fix {L t : List Int} (h : TreeAt L t) : refitL L t = t := rf_fix h _
theorem refitE_at {L t : List Int} (hb : boxesE L = 0) (h : TreeAt L t) : refitE t L = 0 := by
  unfold refitE
  rw [if_pos hb, if_pos h.shaped]
theorem sameB_self (a : List Int) : sameB a a = true := sameB_yes rfl fun _ _ => rfl
theorem chkE_at {L t : List Int} (hb : boxesE L = 0) (h : TreeAt L t) : chkE t L = 0 := by
  unfold chkE
  rw [if_pos (refitE_at hb h), refit_fix h, if_pos (sameB_self t)]

/-! ### what is refitted -/
theorem shStep_same {n : Int} {i : Nat} {b c : Int} {s : List Int × List Int} (h6 : co b 6 = co c 6) (h7 : co b 7 = co c 7) (h8 : co b 8 = co c 8) : shStep n i b s = shStep n i c s := by
  unfold shStep
  rw [h6, h7, h8]
theorem shaped_same {t u : List Int} {n : Int} (hl : u.length = t.length) (h : ∀ i, co (u.getD i 0) 6 = co (t.getD i 0) 6 ∧ co (u.getD i 0) 7 = co (t.getD i 0) 7 ∧ co (u.getD i 0) 8 = co (t.getD i 0) 8) : shapedB u n = shapedB t n := by
  have hrun : ∀ i, shRun u n i = shRun t n i := by
    intro i
    induction i with
    | zero => rfl
    | succ i ih =>
      rw [shRun_succ, shRun_succ, ih]
      congr 1
      funext s
      exact shStep_same (h i).1 (h i).2.1 (h i).2.2
  unfold shapedB
  rw [hrun, hl]
theorem rf_stay (l t : List Int) (c i : Nat) (hi : t.length - c ≤ i) : ∀ d, c + d ≤ t.length → (rfRun l t (c + d)).getD i 0 = (rfRun l t c).getD i 0
  | 0, _ => rfl
  | d + 1, h => by
    rw [show c + (d + 1) = (c + d) + 1 by omega, rf_succ, rfStep, getD_set, if_neg (by omega)]
    exact rf_stay l t c i hi d (by omega)
theorem refit_at {m t : List Int} (hs : shapedB t (m.length : Int) = true) : TreeAt m (refitL m t) := by
  have hl : (refitL m t).length = t.length := rf_len m t t.length
  refine ⟨by rw [shaped_same hl fun i => rf_co m t i t.length]; exact hs, fun i hi => ?_⟩
  rw [hl] at hi
  have hstay : ∀ c j, c ≤ t.length → t.length - c ≤ j → (refitL m t).getD j 0 = (rfRun m t c).getD j 0 := fun c j hc hj => by
    have := rf_stay m t c j hj (t.length - c) (by omega)
    rw [show c + (t.length - c) = t.length by omega] at this
    exact this
  have h1 : (refitL m t).getD i 0 = cod (rfBox m (rfRun m t (t.length - i - 1)) ((rfRun m t (t.length - i - 1)).getD i 0) ++ [co ((rfRun m t (t.length - i - 1)).getD i 0) 6, co ((rfRun m t (t.length - i - 1)).getD i 0) 7, co ((rfRun m t (t.length - i - 1)).getD i 0) 8]) := by
    rw [hstay (t.length - i - 1 + 1) i (by omega) (by omega), rf_succ, rfStep, getD_set, rf_len, show t.length - 1 - (t.length - i - 1) = i by omega, if_pos ⟨rfl, hi⟩]
  have hn := rf_new m (rfRun m t (t.length - i - 1)) ((rfRun m t (t.length - i - 1)).getD i 0) (co ((rfRun m t (t.length - i - 1)).getD i 0) 6) (co ((rfRun m t (t.length - i - 1)).getD i 0) 7) (co ((rfRun m t (t.length - i - 1)).getD i 0) 8)
  have hco := rf_co m t i (t.length - i - 1)
  have hcu := rf_co m t i t.length
  have hcu' : co ((refitL m t).getD i 0) 6 = co (t.getD i 0) 6 ∧ co ((refitL m t).getD i 0) 7 = co (t.getD i 0) 7 ∧ co ((refitL m t).getD i 0) 8 = co (t.getD i 0) 8 := hcu
  refine ⟨?_, ?_⟩
  · rw [nine_six3, h1, hn.1, hn.2.1, hn.2.2.1, hn.2.2.2]
  · have h6 : six6 ((refitL m t).getD i 0) = rfBox m (rfRun m t (t.length - i - 1)) ((rfRun m t (t.length - i - 1)).getD i 0) := by rw [h1, hn.1]
    rw [h6]
    unfold rfBox
    rw [hco.1, hco.2.1, hco.2.2, hcu'.1, hcu'.2.1, hcu'.2.2]
    rcases shaped_shp hs i hi with hlf | hnd
    · rw [if_pos (by omega), if_pos (by omega)]
    · rw [if_neg (by omega), if_neg (by omega), ← hstay (t.length - i - 1) (co (t.getD i 0) 6).toNat (by omega) (by omega), ← hstay (t.length - i - 1) (co (t.getD i 0) 7).toNat (by omega) (by omega)]

/-! ### what is built -/
theorem idx_nat (n : Nat) : (idxL n).map Int.toNat = List.range n := by
  simp [idxL, Function.comp_def]
theorem tree_len {L : List Int} : (treeL L).length = 2 * L.length - 1 := by
  by_cases h0 : L.length = 0
  · rw [nil_tree h0, h0]; rfl
  · unfold treeL
    rw [built_len _ _ _ (by rw [idx_len]; omega) (by rw [idx_len]; omega), idx_len]
theorem tree_bt {L : List Int} (h0 : 0 < L.length) : ∃ T, BuiltAt L (treeL L) (idxL L.length) 0 T := by
  obtain ⟨T, hT⟩ := built_at (L := L) L.length (idxL L.length) [] [] (by rw [idx_len]; exact h0) (by rw [idx_len]; exact Nat.le_refl _) (fun x hx => idx_mem.1 hx)
  rw [List.nil_append, List.append_nil] at hT
  exact ⟨T, hT⟩
theorem tree_at (L : List Int) : TreeAt L (treeL L) := by
  by_cases h0 : L.length = 0
  · rw [nil_tree h0]
    refine ⟨?_, fun i hi => absurd hi (by simp)⟩
    rw [h0]
    rfl
  obtain ⟨T, hT⟩ := tree_bt (L := L) (by omega)
  have hlen := tree_len (L := L)
  have hshp := hT.shp
  have he := hshp.le
  rw [idx_len] at hshp
  have hend : 0 + (2 * L.length - 1) = (treeL L).length := by omega
  rw [hend] at hshp
  refine ⟨?_, fun i hi => hT.all i (Nat.zero_le _) (by rw [idx_len]; omega)⟩
  have hmap : T.leaves.map (itm (treeL L)) = (T.leaves.map fun i => co ((treeL L).getD i 0) 8).map Int.toNat := by rw [List.map_map]; rfl
  have hperm : (T.leaves.map (itm (treeL L))).Perm (List.range L.length) := by
    rw [hmap, ← idx_nat]
    exact hT.its.map _
  obtain ⟨se', h1, _, _⟩ := run_of (se := List.replicate L.length 0) (S := []) hshp.sh (fun i hi => by
    have := hshp.leaf_in i hi
    exact ⟨this.2.2.1, this.2.2.2.1⟩) (hperm.nodup_iff.2 List.nodup_range) (fun k hk => by
      simp only [List.getD, List.getElem?_replicate]
      split <;> rfl) (by simp) (by
      have : (0 : Int) < (L.length : Int) := by omega
      have hne : ¬ L = [] := fun h => h0 (by rw [h]; rfl)
      simp [shRun, this, hne])
  unfold shapedB
  rw [h1]
  simp only [shEnd, Bool.and_true, decide_eq_true_eq]
  omega

/-! ### leaves -/
theorem lvs_eq (l : List Int) : ∀ i, i ≤ l.length → lvs l i = ((l.take i).filter fun b => decide (co b 6 = -1)).map fun b => co b 8
  | 0, _ => rfl
  | i + 1, h => by
    rw [lvs, lvs_eq l i (by omega), List.take_add_one, List.getElem?_eq_getElem (by omega)]
    have hg : l.getD i 0 = l[i] := by simp [List.getD, List.getElem?_eq_getElem (by omega : i < l.length)]
    rw [hg]
    simp only [Option.toList_some, List.filter_append, List.map_append]
    split
    · rename_i hc
      rw [List.filter_cons_of_pos (by simpa using hc)]
      rfl
    · rename_i hc
      rw [List.filter_cons_of_neg (by simpa using hc)]
      simp
theorem lv_built {L : List Int} : ∀ (f : Nat) (s : List Int) (a : Int), 0 ≤ a → 0 < s.length → s.length ≤ f → (((builtN L f s a).filter fun b => decide (co b 6 = -1)).map fun b => co b 8).Perm s
  | 0, s, a, _, h0, h1 => absurd h1 (by omega)
  | f + 1, s, a, ha, h0, h1 => by
    obtain ⟨b0, b1, b2, b3, b4, b5, hb⟩ := six_list (boxOf_len (L := L) h0)
    by_cases h2 : s.length ≤ 1
    · obtain ⟨x, rfl⟩ : ∃ x, s = [x] := by
        match s, h0, h2 with
        | [x], _, _ => exact ⟨x, rfl⟩
      rw [built_one h2, hb, List.filter_cons_of_pos (by rw [decide_eq_true_eq, co_cod]; rfl)]
      simp only [List.filter_nil, List.map_cons, List.map_nil, co_cod]
      exact List.Perm.refl _
    · have l1 : ((halfK L s).take ((s.length + 1) / 2)).length = (s.length + 1) / 2 := by rw [List.length_take, halfK_len]; omega
      have l2 : ((halfK L s).drop ((s.length + 1) / 2)).length = s.length - (s.length + 1) / 2 := by rw [List.length_drop, halfK_len]
      have hperm : ((halfK L s).take ((s.length + 1) / 2) ++ (halfK L s).drop ((s.length + 1) / 2)).Perm s := by
        rw [List.take_append_drop]
        exact sortK_perm _ _ _
      rw [built_two h2, hb]
      rw [List.filter_cons_of_neg (by
        rw [decide_eq_true_eq, co_cod]
        show ¬ a + 1 = -1
        omega), List.filter_append, List.map_append]
      exact ((lv_built f _ _ (by omega) (by omega) (by omega)).append (lv_built f _ _ (by omega) (by omega) (by omega))).trans hperm
theorem tree_lvs (L : List Int) : (lvs (treeL L) (treeL L).length).Perm (idxL L.length) := by
  by_cases h0 : L.length = 0
  · rw [nil_tree h0, h0]
    exact List.Perm.refl _
  · rw [lvs_eq _ _ (Nat.le_refl _), List.take_length]
    exact lv_built _ _ _ (Int.le_refl _) (by rw [idx_len]; omega) (by rw [idx_len]; omega)
theorem tree_leavesE {L : List Int} (h : boxesE L = 0) : leavesE (treeL L) = 0 := by
  have hl := (boxesE_ok h).1
  have := tree_len (L := L)
  unfold leavesE
  rw [if_pos (by omega), (tree_lvs L).length_eq, idx_len, if_pos (tree_at L).shaped]

/-! ### what holds -/
def HoldsP (t L : List Int) : Prop := ∀ i, i < t.length → (co (t.getD i 0) 6 < 0 ∧ (0 ≤ co (t.getD i 0) 8 ∧ co (t.getD i 0) 8 < (L.length : Int)) ∧ six6 (t.getD i 0) = six6 (L.getD (co (t.getD i 0) 8).toNat 0)) ∨
  (0 ≤ co (t.getD i 0) 6 ∧ ((i : Int) < co (t.getD i 0) 6 ∧ co (t.getD i 0) 6 < (t.length : Int)) ∧ ((i : Int) < co (t.getD i 0) 7 ∧ co (t.getD i 0) 7 < (t.length : Int)) ∧
    insideB (six6 (t.getD (co (t.getD i 0) 6).toNat 0) ++ six6 (t.getD i 0)) = true ∧ insideB (six6 (t.getD (co (t.getD i 0) 7).toNat 0) ++ six6 (t.getD i 0)) = true)
theorem inside_join (a b : List Int) (ha : a.length = 6) (hb : b.length = 6) : insideB (a ++ ex6 (joinP (a ++ b))) = true ∧ insideB (b ++ ex6 (joinP (a ++ b))) = true := by
  obtain ⟨a0, a1, a2, a3, a4, a5, rfl⟩ := six_list ha
  obtain ⟨b0, b1, b2, b3, b4, b5, rfl⟩ := six_list hb
  simp only [insideB, joinP, ex6, List.cons_append, List.nil_append, List.getD_cons_zero, List.getD_cons_succ, decide_eq_true_eq]
  omega
theorem holds_at {t L : List Int} (h : TreeAt L t) : HoldsP t L := by
  intro i hi
  have hb := (h.all i hi).2
  unfold rfBox at hb
  rcases shaped_shp h.shaped i hi with hlf | hnd
  · rw [if_pos (by omega)] at hb
    exact .inl ⟨by omega, by omega, hb⟩
  · rw [if_neg (by omega)] at hb
    have := inside_join (six6 (t.getD (co (t.getD i 0) 6).toNat 0)) (six6 (t.getD (co (t.getD i 0) 7).toNat 0)) rfl rfl
    rw [← hb] at this
    exact .inr ⟨by omega, by omega, by omega, this.1, this.2⟩
#print axioms holds_at
#print axioms tree_leavesE
#print axioms chkE_at
#print axioms refit_at
end Go.Proofs.Ytgcoidbaoigkeaa.fix
