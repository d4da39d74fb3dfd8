/-
  A tree that is checked, plainly: what can show below a branch can show at it.
-/
import Derived.Test.YtgcoidbaoigkeaaDoorHRefit
import Derived.Test.YtgcoidbaoigkeaaDoorFMid
import Derived.Test.YtgcoidbaoigkeaaDoorGBack
set_option linter.unusedVariables false
set_option linter.unusedSimpArgs false
namespace Go.Proofs.YtgcoidbaoigkeaaDoor.fix
open Go.RowKit Go.Sx

/-! ### what a check says -/
theorem rf_keep (l t : List Int) (c i : Nat) (hi : t.length - c ≤ i) : ∀ d, c + d ≤ t.length → (rfRun l t (c + d)).getD i 0 = (rfRun l t c).getD i 0
  | 0, _ => rfl
  | d + 1, h => by
    rw [show c + (d + 1) = (c + d) + 1 by omega, rf_succ, rfStep, getD_set, if_neg (by omega)]
    exact rf_keep l t c i hi d (by omega)
theorem nine_six {a b : Int} (h : nine a = nine b) : six6 a = six6 b := by
  rw [nine_iff] at h
  obtain ⟨h0, h1, h2, h3, h4, h5, _⟩ := h
  unfold six6
  rw [h0, h1, h2, h3, h4, h5]
theorem chk_spec {t l : List Int} (h : chkE t l = 0) : boxesE l = 0 ∧ shapedB t l.length = true ∧ ∀ i, i < t.length → six6 (t.getD i 0) = rfBox l t (t.getD i 0) := by
  have hE : refitE t l = 0 := by
    unfold chkE at h
    split at h
    · assumption
    · exact h
  have hS : sameB (refitL l t) t = true := by
    unfold chkE at h
    rw [if_pos hE] at h
    split at h
    · assumption
    · exact absurd h (by decide)
  have hb : boxesE l = 0 := by
    unfold refitE at hE
    split at hE
    · assumption
    · exact hE
  have hsh : shapedB t l.length = true := by
    unfold refitE at hE
    rw [if_pos hb] at hE
    split at hE
    · assumption
    · exact absurd hE (by decide)
  refine ⟨hb, hsh, fun i hi => ?_⟩
  have hshp := shaped_shp hsh i hi
  obtain ⟨hlen, hsame⟩ := sameB_spec hS
  have hsix : ∀ j, j < t.length → six6 ((refitL l t).getD j 0) = six6 (t.getD j 0) := fun j hj => nine_six (hsame j (by omega))
  have hkeep : ∀ c j, c ≤ t.length → t.length - c ≤ j → (refitL l t).getD j 0 = (rfRun l t c).getD j 0 := fun c j hc hj => by
    have := rf_keep l t c j hj (t.length - c) (by omega)
    rw [show c + (t.length - c) = t.length by omega] at this
    exact this
  have h1 : (refitL l t).getD i 0 = cod (rfBox l (rfRun l t (t.length - i - 1)) ((rfRun l t (t.length - i - 1)).getD i 0) ++ [co ((rfRun l t (t.length - i - 1)).getD i 0) 6, co ((rfRun l t (t.length - i - 1)).getD i 0) 7, co ((rfRun l t (t.length - i - 1)).getD i 0) 8]) := by
    rw [hkeep (t.length - i - 1 + 1) i (by omega) (by omega), rf_succ, rfStep, getD_set, rf_len, show t.length - 1 - (t.length - i - 1) = i by omega, if_pos ⟨rfl, hi⟩]
  have h2 := hsix i hi
  rw [h1, (rf_new _ _ _ _ _ _).1] at h2
  rw [← h2]
  have hco := rf_co l t i (t.length - i - 1)
  unfold rfBox
  rw [hco.1, hco.2.1, hco.2.2]
  rcases hshp with hlf | hnd
  · rw [if_pos (by omega), if_pos (by omega)]
  · rw [if_neg (by omega), if_neg (by omega)]
    rw [← hkeep (t.length - i - 1) (co (t.getD i 0) 6).toNat (by omega) (by omega), ← hkeep (t.length - i - 1) (co (t.getD i 0) 7).toNat (by omega) (by omega), hsix _ (by omega), hsix _ (by omega)]

/-! ### boxes in boxes -/
def inC (p q : Int) : Prop := (co q 0 ≤ co p 0 ∧ co q 1 ≤ co p 1 ∧ co q 2 ≤ co p 2) ∧ (co p 3 ≤ co q 3 ∧ co p 4 ≤ co q 4 ∧ co p 5 ≤ co q 5)
theorem inC_iff {p q : Int} : insideB [co p 0, co p 1, co p 2, co p 3, co p 4, co p 5, co q 0, co q 1, co q 2, co q 3, co q 4, co q 5] = true ↔ inC p q := decide_eq_true_iff
theorem inC_refl (p : Int) : inC p p := by unfold inC; omega
theorem inC_trans {p q r : Int} (h : inC p q) (k : inC q r) : inC p r := by unfold inC at *; omega
theorem six_join {c a b : Int} (h : six6 c = ex6 (joinP (six6 a ++ six6 b))) : (co c 0 = min (co a 0) (co b 0) ∧ co c 1 = min (co a 1) (co b 1) ∧ co c 2 = min (co a 2) (co b 2)) ∧ (co c 3 = max (co a 3) (co b 3) ∧ co c 4 = max (co a 4) (co b 4) ∧ co c 5 = max (co a 5) (co b 5)) := by
  have h' : [co c 0, co c 1, co c 2, co c 3, co c 4, co c 5] = [min (co a 0) (co b 0), min (co a 1) (co b 1), min (co a 2) (co b 2), max (co a 3) (co b 3), max (co a 4) (co b 4), max (co a 5) (co b 5)] := h
  simp only [List.cons.injEq, and_true] at h'
  obtain ⟨h0, h1, h2, h3, h4, h5⟩ := h'
  exact ⟨⟨h0, h1, h2⟩, h3, h4, h5⟩
theorem okB_iff {b : Int} : okB b = true ↔ (((-4096 ≤ co b 0 ∧ co b 0 ≤ 4096) ∧ (-4096 ≤ co b 1 ∧ co b 1 ≤ 4096) ∧ (-4096 ≤ co b 2 ∧ co b 2 ≤ 4096)) ∧ ((-4096 ≤ co b 3 ∧ co b 3 ≤ 4096) ∧ (-4096 ≤ co b 4 ∧ co b 4 ≤ 4096) ∧ (-4096 ≤ co b 5 ∧ co b 5 ≤ 4096)) ∧ (co b 0 ≤ co b 3 ∧ co b 1 ≤ co b 4 ∧ co b 2 ≤ co b 5)) := by
  unfold okB
  rw [world_true]
  rfl
theorem okB_six {a b : Int} (h : six6 a = six6 b) : okB a = okB b := by unfold okB; rw [h]
theorem shade_six {a b : Int} {x : List Int} (h : six6 a = six6 b) : showsI a x = showsI b x := by unfold showsI shade; rw [h]

def BoxesOK (t l : List Int) : Prop := ∀ i, i < t.length → six6 (t.getD i 0) = rfBox l t (t.getD i 0)
theorem leaf_box {t l : List Int} (hB : BoxesOK t l) {i : Nat} (hi : i < t.length) (h6 : co (t.getD i 0) 6 = -1) : six6 (t.getD i 0) = six6 (l.getD (itm t i) 0) := by
  rw [hB i hi]
  unfold rfBox itm
  rw [if_pos (by omega)]
theorem node_box {t l : List Int} (hB : BoxesOK t l) {i m : Nat} (hi : i < t.length) (h6 : co (t.getD i 0) 6 = (i : Int) + 1) (h7 : co (t.getD i 0) 7 = (m : Int)) : six6 (t.getD i 0) = ex6 (joinP (six6 (t.getD (i + 1) 0) ++ six6 (t.getD m 0))) := by
  rw [hB i hi]
  unfold rfBox
  rw [if_neg (by omega), h6, h7, show ((i : Int) + 1).toNat = i + 1 by omega, Int.toNat_natCast]
theorem BT.At.boxOK {t l : List Int} (hB : BoxesOK t l) (hl : ∀ x ∈ l, okB x = true) : ∀ {T : BT} {s e : Nat}, T.At t l.length s e → okB (t.getD s 0) = true
  | .leaf i, s, e, h => by
    obtain ⟨rfl, rfl, h1, h2, h3, h4, h5⟩ := h
    rw [okB_six (leaf_box hB h1 h2)]
    exact hl _ (mem_at (i := itm t s) (by unfold itm; omega))
  | .node i a b, s, e, h => by
    obtain ⟨rfl, h1, m, h2, h3, h4, h5, h6⟩ := h
    have k1 := h2.boxOK hB hl
    have k2 := h3.boxOK hB hl
    have hj := six_join (node_box hB h1 h4 h5)
    rw [okB_iff] at k1 k2 ⊢
    omega
theorem BT.At.inside {t l : List Int} (hB : BoxesOK t l) : ∀ {T : BT} {s e : Nat}, T.At t l.length s e → ∀ i ∈ T.leaves, inC (t.getD i 0) (t.getD s 0)
  | .leaf j, s, e, h, i, hi => by
    obtain ⟨rfl, _⟩ := h
    simp only [BT.leaves, List.mem_singleton] at hi
    subst hi
    exact inC_refl _
  | .node j a b, s, e, h, i, hi => by
    obtain ⟨rfl, h1, m, h2, h3, h4, h5, h6⟩ := h
    have hj := six_join (node_box hB h1 h4 h5)
    simp only [BT.leaves, List.mem_append] at hi
    rcases hi with hi | hi
    · exact inC_trans (h2.inside hB i hi) (by unfold inC; omega)
    · exact inC_trans (h3.inside hB i hi) (by unfold inC; omega)

/-! ### what can show -/
theorem len20x {xs : List Int} (h : xs.length = 20) : ∃ c0 c1 c2 c3 c4 c5 c6 c7 c8 c9 c10 c11 c12 c13 c14 c15 w0 w1 w2 w3, xs = [c0, c1, c2, c3, c4, c5, c6, c7, c8, c9, c10, c11, c12, c13, c14, c15, w0, w1, w2, w3] := by
  match xs, h with
  | [c0, c1, c2, c3, c4, c5, c6, c7, c8, c9, c10, c11, c12, c13, c14, c15, w0, w1, w2, w3], _ => exact ⟨_, _, _, _, _, _, _, _, _, _, _, _, _, _, _, _, _, _, _, _, rfl⟩
noncomputable def amid (b : Int) (x : List Int) : List Int := x.take 16 ++ (six6 b ++ x.drop 16)
theorem amid_ok {b : Int} {x : List Int} (hx : x.length = 20) (hw : windowV x = 0) (hb : okB b = true) : (shadowL (amid b x)).getD 6 0 = 0 ∧ showsI b x = showsB (amid b x) := by
  have hc : camB x 0 = true ∧ winB x 16 14 15 = true := by
    unfold windowV at hw
    split at hw
    · rename_i h1
      split at hw
      · rename_i h2
        exact ⟨h1, h2⟩
      · exact absurd hw (by decide)
    · exact absurd hw (by decide)
  have h1 : camB (amid b x) 0 = true := by
    obtain ⟨c0, c1, c2, c3, c4, c5, c6, c7, c8, c9, c10, c11, c12, c13, c14, c15, w0, w1, w2, w3, rfl⟩ := len20x hx
    exact hc.1
  have h2 : winC (amid b x) = true := by
    obtain ⟨c0, c1, c2, c3, c4, c5, c6, c7, c8, c9, c10, c11, c12, c13, c14, c15, w0, w1, w2, w3, rfl⟩ := len20x hx
    exact hc.2
  have h3 : worldB (amid b x) 16 = true := by
    obtain ⟨c0, c1, c2, c3, c4, c5, c6, c7, c8, c9, c10, c11, c12, c13, c14, c15, w0, w1, w2, w3, rfl⟩ := len20x hx
    exact hb
  have hS : shadowL (amid b x) = if showsB (amid b x) = true then shadowP (amid b x) else z7 0 := by
    unfold shadowL
    rw [if_pos h1, if_pos h3, if_pos h2]
  refine ⟨?_, ?_⟩
  · rw [hS]
    split <;> rfl
  · unfold showsI shade
    show decide ((shadowL (amid b x)).getD 5 0 ≠ 0) = _
    rw [hS]
    cases h : showsB (amid b x) with
    | true => rfl
    | false => rfl
theorem showsI_mono {b b' : Int} {x : List Int} (hx : x.length = 20) (hw : windowV x = 0) (hb : okB b = true) (hb' : okB b' = true) (hin : inC b b') (hs : showsI b x = true) : showsI b' x = true := by
  obtain ⟨h1, h2⟩ := amid_ok hx hw hb
  obtain ⟨h3, h4⟩ := amid_ok hx hw hb'
  rw [h2] at hs
  rw [h4]
  obtain ⟨c0, c1, c2, c3, c4, c5, c6, c7, c8, c9, c10, c11, c12, c13, c14, c15, w0, w1, w2, w3, rfl⟩ := len20x hx
  exact shows_grows _ _ _ _ _ _ _ _ _ _ _ _ _ _ _ _ _ _ _ _ _ _ _ _ _ _ _ _ _ _ _ _ h1 h3 (inC_iff.2 hin) hs

/-! ### what is found -/
noncomputable def lkItems (t x : List Int) : BT → List Int
  | .leaf i => if showsI (t.getD i 0) x = true then [co (t.getD i 0) 8] else []
  | .node i a b => if showsI (t.getD i 0) x = true then lkItems t x a ++ lkItems t x b else []
noncomputable def lkCnt (t x : List Int) : BT → Int
  | .leaf _ => 1
  | .node i a b => if showsI (t.getD i 0) x = true then 1 + (lkCnt t x a + lkCnt t x b) else 1
theorem lkCnt_iv (t x : List Int) : ∀ T : BT, 1 ≤ lkCnt t x T ∧ lkCnt t x T ≤ (T.size : Int)
  | .leaf _ => ⟨Int.le_refl _, Int.le_refl _⟩
  | .node i a b => by
    have h1 := lkCnt_iv t x a
    have h2 := lkCnt_iv t x b
    simp only [lkCnt, BT.size]
    split <;> omega
theorem BT.At.cnt {t l x : List Int} : ∀ {T : BT} {s e : Nat}, T.At t l.length s e → ∀ f, T.size ≤ f → lkN t x f s = lkCnt t x T
  | .leaf i, s, e, h, f, hf => by
    obtain ⟨rfl, rfl, h1, h2, _⟩ := h
    obtain ⟨f, rfl⟩ : ∃ g, f = g + 1 := ⟨f - 1, by simp only [BT.size] at hf; omega⟩
    unfold lkN lkCnt
    rw [if_neg (by omega)]
  | .node i a b, s, e, h, f, hf => by
    obtain ⟨rfl, h1, m, h2, h3, h4, h5, h6⟩ := h
    simp only [BT.size] at hf
    obtain ⟨f, rfl⟩ : ∃ g, f = g + 1 := ⟨f - 1, by omega⟩
    have k1 := h2.cnt (x := x) f (by omega)
    have k2 := h3.cnt (x := x) f (by omega)
    have e1 : (co (t.getD s 0) 6).toNat = s + 1 := by omega
    have e2 : (co (t.getD s 0) 7).toNat = m := by omega
    unfold lkN lkCnt
    rw [e1, e2, k1, k2]
    by_cases hs : showsI (t.getD s 0) x = true
    · rw [if_pos ⟨hs, by omega⟩, if_pos hs]
    · rw [if_neg (fun hh => hs hh.1), if_neg hs]
theorem BT.At.items {t l x : List Int} (hB : BoxesOK t l) (hl : ∀ z ∈ l, okB z = true) (hx : x.length = 20) (hw : windowV x = 0) : ∀ {T : BT} {s e : Nat}, T.At t l.length s e → lkItems t x T = (T.leaves.filter fun i => showsI (t.getD i 0) x).map fun i => co (t.getD i 0) 8
  | .leaf i, s, e, h => by
    unfold lkItems
    simp only [BT.leaves, List.filter_cons, List.filter_nil]
    split <;> rfl
  | .node i a b, s, e, h => by
    have hall := h
    obtain ⟨rfl, h1, m, h2, h3, h4, h5, h6⟩ := h
    have k1 := h2.items hB hl hx hw
    have k2 := h3.items hB hl hx hw
    unfold lkItems
    rw [k1, k2]
    by_cases hs : showsI (t.getD s 0) x = true
    · rw [if_pos hs, BT.leaves, List.filter_append, List.map_append]
    · rw [if_neg hs]
      have : (BT.node s a b).leaves.filter (fun i => showsI (t.getD i 0) x) = [] := by
        rw [List.filter_eq_nil_iff]
        intro i hi hsh
        refine hs (showsI_mono hx hw ?_ (hall.boxOK hB hl) (hall.inside hB i hi) hsh)
        have hlf := hall.leaf_in i hi
        have hil : i < t.length := by have := hall.le.2.2; omega
        rw [okB_six (leaf_box hB hil hlf.2.2.2.2)]
        exact hl _ (mem_at (i := itm t i) (by unfold itm; omega))
      rw [this]
      rfl
end Go.Proofs.YtgcoidbaoigkeaaDoor.fix
set_option linter.unusedVariables false
set_option linter.unusedSimpArgs false
namespace Go.Proofs.YtgcoidbaoigkeaaDoor.fix
open Go.RowKit Go.Sx

/-! ### what is found, in order -/
theorem foundU_iff {l x : List Int} {z : Int} : ∀ n, z ∈ foundU l x n ↔ ∃ j : Nat, j < n ∧ z = (j : Int) ∧ showsI (l.getD j 0) x = true
  | 0 => by simp [foundU]
  | n + 1 => by
    have ih := @foundU_iff l x z n
    rw [found_succ]
    split
    · rename_i h
      rw [List.mem_append, ih, List.mem_singleton]
      constructor
      · rintro (⟨j, h1, h2, h3⟩ | rfl)
        · exact ⟨j, by omega, h2, h3⟩
        · exact ⟨n, by omega, rfl, h⟩
      · rintro ⟨j, h1, h2, h3⟩
        by_cases hj : j = n
        · subst hj
          exact .inr h2
        · exact .inl ⟨j, by omega, h2, h3⟩
    · rename_i h
      rw [ih]
      constructor
      · rintro ⟨j, h1, h2, h3⟩
        exact ⟨j, by omega, h2, h3⟩
      · rintro ⟨j, h1, h2, h3⟩
        have hj : j ≠ n := fun e => by subst e; exact h h3
        exact ⟨j, by omega, h2, h3⟩
theorem foundU_lt (l x : List Int) : ∀ n, (foundU l x n).Pairwise (· < ·)
  | 0 => List.Pairwise.nil
  | n + 1 => by
    rw [found_succ]
    split
    · rw [List.pairwise_append]
      refine ⟨foundU_lt l x n, List.pairwise_singleton _ _, fun a ha b hb => ?_⟩
      obtain ⟨j, h1, h2, _⟩ := (foundU_iff n).1 ha
      rw [List.mem_singleton] at hb
      omega
    · exact foundU_lt l x n
theorem sortL_le (l : List Int) : (sortL l).Pairwise (· ≤ ·) := by
  have := List.pairwise_mergeSort (le := fun x y : Int => decide (x ≤ y)) (by intro a b c; simp only [decide_eq_true_eq]; omega) (by intro a b; simp only [Bool.or_eq_true, decide_eq_true_eq]; omega) l
  exact this.imp (fun h => of_decide_eq_true h)
theorem found_eq {t l x : List Int} (hB : BoxesOK t l) (hl : ∀ z ∈ l, okB z = true) (hx : x.length = 20) (hw : windowV x = 0) {T : BT} (hT : T.At t l.length 0 t.length) (hnd : (T.leaves.map (itm t)).Nodup)
    (hlt : ∀ k ∈ T.leaves.map (itm t), k < l.length) (hall : ∀ k, k < l.length → k ∈ T.leaves.map (itm t)) : sortL (lkItems t x T) = foundU l x l.length := by
  have hitm : ∀ i ∈ T.leaves, co (t.getD i 0) 8 = (itm t i : Int) := fun i hi => by
    have := hT.leaf_in i hi
    unfold itm
    omega
  have hshow : ∀ i ∈ T.leaves, showsI (t.getD i 0) x = showsI (l.getD (itm t i) 0) x := fun i hi => by
    have := hT.leaf_in i hi
    exact shade_six (leaf_box hB (by omega) this.2.2.2.2)
  have h1 : lkItems t x T = ((T.leaves.filter fun i => showsI (t.getD i 0) x).map (itm t)).map fun k : Nat => (k : Int) := by
    rw [hT.items hB hl hx hw, List.map_map]
    refine List.map_congr_left fun i hi => hitm i (List.mem_filter.1 hi).1
  have hperm : (sortL (lkItems t x T)).Perm (foundU l x l.length) := by
    refine (List.mergeSort_perm _ _).trans ?_
    rw [List.perm_ext_iff_of_nodup]
    · intro z
      rw [foundU_iff, h1]
      simp only [List.mem_map, List.mem_filter]
      constructor
      · rintro ⟨k, ⟨i, ⟨hi, hs⟩, rfl⟩, rfl⟩
        exact ⟨itm t i, hlt _ (List.mem_map_of_mem hi), rfl, by rw [← hshow i hi]; exact hs⟩
      · rintro ⟨j, hj, rfl, hs⟩
        obtain ⟨i, hi, rfl⟩ := List.mem_map.1 (hall j hj)
        exact ⟨_, ⟨i, ⟨hi, by rw [hshow i hi]; exact hs⟩, rfl⟩, rfl⟩
    · rw [h1]
      have h2 : ((T.leaves.filter fun i => showsI (t.getD i 0) x).map (itm t)).Nodup := hnd.sublist (List.filter_sublist.map _)
      exact List.Pairwise.map _ (fun a b hab h => hab (by omega)) h2
    · exact (foundU_lt l x _).imp (fun h => by omega)
  refine List.Perm.eq_of_pairwise (le := (· ≤ ·)) (fun a b _ _ h1 h2 => by omega) (sortL_le _) ((foundU_lt l x _).imp fun h => by omega) hperm

/-! ### a stack of trees -/
def rootsL (F : List BT) : List Int := (F.map fun T => (T.root : Int)).reverse
noncomputable def cntF (t x : List Int) : List BT → Int
  | [] => 0
  | T :: F => lkCnt t x T + cntF t x F
theorem cntF_len (t x : List Int) : ∀ F : List BT, (F.length : Int) ≤ cntF t x F
  | [] => Int.le_refl _
  | T :: F => by
    have h1 := (lkCnt_iv t x T).1
    have h2 := cntF_len t x F
    simp only [List.length_cons, cntF]
    omega
theorem lkItems_len (t x : List Int) : ∀ T : BT, (lkItems t x T).length ≤ T.size
  | .leaf i => by
    simp only [lkItems, BT.size]
    split <;> simp
  | .node i a b => by
    have h1 := lkItems_len t x a
    have h2 := lkItems_len t x b
    simp only [lkItems, BT.size]
    split
    · rw [List.length_append]; omega
    · simp
theorem rootsL_cons (T : BT) (F : List BT) : rootsL (T :: F) = rootsL F ++ [(T.root : Int)] := by simp [rootsL]
theorem rootsL_len (F : List BT) : (rootsL F).length = F.length := by simp [rootsL]
theorem look_start {t l x : List Int} (hC : chkE t l = 0) (hA : askedE l x = 0) (hx : x.length = 20) (ht : t.length ≤ 1000) : ∃ F : List BT, rootsL F = (if 0 < t.length then [0] else []) ∧ (∀ T ∈ F, ∃ s e, T.At t l.length s e) ∧ sortL (F.flatMap (lkItems t x)) = foundU l x l.length ∧ (F.flatMap (lkItems t x)).length ≤ 1000 ∧ cntF t x F = seenN t x ∧ cntF t x F ≤ t.length := by
  obtain ⟨hb, hsh, hB⟩ := chk_spec hC
  have hlen := shaped_len hsh
  have hl : ∀ z ∈ l, okB z = true := by
    unfold askedE at hA
    split at hA
    · split at hA
      · rename_i h
        exact List.all_eq_true.1 h
      · exact absurd hA (by decide)
    · exact absurd hA (by decide)
  have hw : windowV x = 0 := by
    unfold askedE at hA
    split at hA
    · split at hA
      · exact hA
      · exact absurd hA (by decide)
    · exact absurd hA (by decide)
  by_cases h0 : 0 < t.length
  · obtain ⟨T, h1, h2, h3, h4⟩ := shaped_tree hsh (by omega)
    have e1 := h1.le
    have hc := lkCnt_iv t x T
    have hi := lkItems_len t x T
    refine ⟨[T], ?_, ?_, ?_, ?_, ?_, ?_⟩
    · rw [if_pos h0, rootsL_cons, e1.2.1]
      rfl
    · intro T' hT'
      rw [List.mem_singleton] at hT'
      subst hT'
      exact ⟨_, _, h1⟩
    · simp only [List.flatMap_cons, List.flatMap_nil, List.append_nil]
      exact found_eq hB hl hx hw h1 h2 (fun k hk => by have := h3 k hk; omega) (fun k hk => h4 k (by omega))
    · simp only [List.flatMap_cons, List.flatMap_nil, List.append_nil]
      omega
    · simp only [cntF]
      unfold seenN
      rw [if_neg (by omega), h1.cnt t.length (by omega)]
      omega
    · simp only [cntF]
      omega
  · have hl0 : l.length = 0 := by omega
    have ht0 : t.length = 0 := by omega
    refine ⟨[], (by rw [if_neg h0]; rfl), (fun T hT => (by cases hT)), ?_, (by simp), ?_, (by simp [cntF])⟩
    · rw [hl0]
      simp [sortL, foundU]
    · unfold seenN
      rw [if_pos ht0]
      rfl
end Go.Proofs.YtgcoidbaoigkeaaDoor.fix
