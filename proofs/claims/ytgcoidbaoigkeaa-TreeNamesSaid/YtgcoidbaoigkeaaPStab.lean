/-
  Merging in place, the plain law: a rotation; what a merge by rotations does.
-/
import Derived.Sort.LotA
import Derived.Shelf.GgSortMore.Stable
import Derived.Below
set_option linter.unusedVariables false
namespace Go.Proofs.Ytgcoidbaoigkeaa.stab
open Go.Sort
variable {α : Type} [Inhabited α]

def Rot (d : Array α) (a m b : Nat) (d' : Array α) : Prop := d'.size = d.size ∧ ∀ k, d'[k]! = if k < a ∨ b ≤ k then d[k]! else if k < a + (b - m) then d[k + (m - a)]! else d[k - (b - m)]!
def Swr (d : Array α) (a b n : Nat) (d' : Array α) : Prop := d'.size = d.size ∧ ∀ k, d'[k]! = if a ≤ k ∧ k < a + n then d[k + (b - a)]! else if b ≤ k ∧ k < b + n then d[k - (b - a)]! else d[k]!

theorem Swr.start (d : Array α) (a b : Nat) : Swr d a b 0 d := ⟨rfl, fun k => by rw [if_neg (by omega), if_neg (by omega)]⟩
theorem Swr.step {d d' : Array α} {a b n : Nat} (h : Swr d a b n d') (hab : a + n < b) (hb : b + n < d.size) : Swr d a b (n + 1) (swp d' (a + n) (b + n)) := by
  refine ⟨by rw [swp_size]; exact h.1, fun k => ?_⟩
  have hs := h.1
  by_cases h1 : k = a + n
  · subst h1
    rw [swp_left _ _ _ (by omega) (by omega), h.2, if_neg (by omega), if_neg (by omega), if_pos (by omega)]
    congr 1
    omega
  · by_cases h2 : k = b + n
    · subst h2
      rw [swp_right _ _ _ (by omega), h.2, if_neg (by omega), if_neg (by omega), if_neg (by omega), if_pos (by omega)]
      congr 1
      omega
    · rw [swp_other _ _ _ _ h1 h2, h.2]
      by_cases h3 : a ≤ k ∧ k < a + n
      · rw [if_pos h3, if_pos (by omega)]
      · rw [if_neg h3, if_neg (show ¬ (a ≤ k ∧ k < a + (n + 1)) by omega)]
        by_cases h4 : b ≤ k ∧ k < b + n
        · rw [if_pos h4, if_pos (by omega)]
        · rw [if_neg h4, if_neg (by omega)]
theorem Rot.front {d d1 d2 : Array α} {l m j i : Nat} (h1 : Swr d l m j d1) (hi : j < i) (hl : l + i = m) (h2 : Rot d1 (l + j) m (m + j) d2) : Rot d l m (m + j) d2 := by
  refine ⟨h2.1.trans h1.1, fun k => ?_⟩
  rw [h2.2]
  by_cases c1 : k < l ∨ m + j ≤ k
  · rw [if_pos (by omega), if_pos c1, h1.2, if_neg (by omega), if_neg (by omega)]
  · rw [if_neg c1]
    by_cases c2 : k < l + j
    · rw [if_pos (by omega), h1.2, if_pos (by omega), if_pos (by omega)]
    · rw [if_neg (by omega), if_neg (by omega : ¬ k < l + (m + j - m))]
      by_cases c3 : k < l + j + (m + j - m)
      · rw [if_pos c3, h1.2]
        rw [if_neg (by omega), if_pos (by omega)]
        congr 1
        omega
      · rw [if_neg c3, h1.2, if_neg (by omega), if_neg (by omega)]
theorem Rot.back {d d1 d2 : Array α} {l m j i : Nat} (h1 : Swr d l (m + j - i) i d1) (hi : i < j) (hl : l + i = m) (h2 : Rot d1 l m (m + j - i) d2) : Rot d l m (m + j) d2 := by
  refine ⟨h2.1.trans h1.1, fun k => ?_⟩
  rw [h2.2]
  by_cases c1 : k < l ∨ m + j ≤ k
  · rw [if_pos (by omega), if_pos c1, h1.2, if_neg (by omega), if_neg (by omega)]
  · rw [if_neg c1]
    by_cases c2 : m + j - i ≤ k
    · rw [if_pos (by omega), if_neg (by omega), h1.2, if_neg (by omega), if_pos (by omega)]
      congr 1
      omega
    · rw [if_neg (by omega)]
      by_cases c3 : k < l + (m + j - i - m)
      · rw [if_pos c3, if_pos (by omega), h1.2, if_neg (by omega), if_neg (by omega)]
      · rw [if_neg c3, h1.2, if_pos (by omega)]
        by_cases c4 : k < l + (m + j - m)
        · rw [if_pos c4]
          congr 1
          omega
        · omega
theorem Rot.even {d d1 : Array α} {l m i : Nat} (h1 : Swr d l m i d1) (hl : l + i = m) : Rot d l m (m + i) d1 := by
  refine ⟨h1.1, fun k => ?_⟩
  rw [h1.2]
  by_cases c1 : k < l ∨ m + i ≤ k
  · rw [if_neg (by omega), if_neg (by omega), if_pos c1]
  · rw [if_neg c1]
    by_cases c2 : k < l + (m + i - m)
    · rw [if_pos (by omega), if_pos c2]
    · rw [if_neg (by omega), if_pos (by omega), if_neg c2]
      congr 1
      omega
theorem Rot.none {d : Array α} {a m b : Nat} (hm : a ≤ m ∧ m ≤ b) (h : m = a ∨ m = b) : Rot d a m b d := by
  refine ⟨rfl, fun k => ?_⟩
  by_cases c1 : k < a ∨ b ≤ k
  · rw [if_pos c1]
  · rw [if_neg c1]
    by_cases c2 : k < a + (b - m)
    · rw [if_pos c2]
      congr 1
      omega
    · rw [if_neg c2]
      congr 1
      omega
theorem Rot.up {d d' : Array α} {a k : Nat} (h : Rot d a (a + 1) (k + 1) d') (hak : a ≤ k) (hk : k + 1 < d.size) : Rot d a (a + 1) (k + 2) (swp d' k (k + 1)) := by
  have hs := h.1
  refine ⟨by rw [swp_size]; exact h.1, fun x => ?_⟩
  by_cases h1 : x = k
  · subst h1
    rw [swp_left _ _ _ (by omega) (by omega), h.2, if_pos (by omega), if_neg (by omega), if_pos (by omega)]
    congr 1
    omega
  · by_cases h2 : x = k + 1
    · subst h2
      rw [swp_right _ _ _ (by omega), h.2]
      by_cases c : k < a ∨ k + 1 ≤ k
      · omega
      · rw [if_neg c, if_neg (by omega), if_neg (by omega), if_neg (by omega)]
        congr 1
        omega
    · rw [swp_other _ _ _ _ h1 h2, h.2]
      by_cases c1 : x < a ∨ k + 1 ≤ x
      · rw [if_pos c1, if_pos (by omega)]
      · rw [if_neg c1, if_neg (show ¬ (x < a ∨ k + 2 ≤ x) by omega), if_pos (show x < a + (k + 1 - (a + 1)) by omega), if_pos (show x < a + (k + 2 - (a + 1)) by omega)]
theorem Rot.down {d d' : Array α} {k m : Nat} (h : Rot d k m (m + 1) d') (hk : k ≤ m) (h0 : 0 < k) (hm : m < d.size) : Rot d (k - 1) m (m + 1) (swp d' k (k - 1)) := by
  have hs := h.1
  refine ⟨by rw [swp_size]; exact h.1, fun x => ?_⟩
  by_cases h1 : x = k
  · subst h1
    rw [swp_left _ _ _ (by omega) (by omega), h.2, if_pos (by omega), if_neg (by omega), if_neg (by omega)]
    congr 1
    omega
  · by_cases h2 : x = k - 1
    · subst h2
      rw [swp_right _ _ _ (by omega), h.2, if_neg (by omega), if_pos (by omega), if_neg (by omega), if_pos (by omega)]
      congr 1
      omega
    · rw [swp_other _ _ _ _ h1 h2, h.2]
      by_cases c1 : x < k ∨ m + 1 ≤ x
      · rw [if_pos c1, if_pos (by omega)]
      · rw [if_neg c1, if_neg (show ¬ (x < k - 1 ∨ m + 1 ≤ x) by omega), if_neg (show ¬ x < k + (m + 1 - m) by omega), if_neg (show ¬ x < k - 1 + (m + 1 - m) by omega)]

/-! ### order -/
variable {lt : α → α → Bool}
theorem Rot.at1 {d d' : Array α} {a m b k : Nat} (h : Rot d a m b d') (h1 : a ≤ k) (h2 : k < a + (b - m)) (h3 : k < b) : d'[k]! = d[k + (m - a)]! := by rw [h.2, if_neg (by omega), if_pos h2]
theorem Rot.at2 {d d' : Array α} {a m b k : Nat} (h : Rot d a m b d') (h1 : a + (b - m) ≤ k) (h3 : k < b) (h0 : a ≤ k) : d'[k]! = d[k - (b - m)]! := by rw [h.2, if_neg (by omega), if_neg (by omega)]
theorem Rot.out {d d' : Array α} {a m b k : Nat} (h : Rot d a m b d') (h1 : k < a ∨ b ≤ k) : d'[k]! = d[k]! := by rw [h.2, if_pos h1]

theorem parts {d d1 : Array α} {a s m e b mid : Nat} (hA : SortedIn lt a m d) (hB : SortedIn lt m b d) (h : Rot d s m e d1) (h1 : a ≤ s ∧ s ≤ m ∧ m ≤ e ∧ e ≤ b) (hmid : mid = s + (e - m)) :
    SortedIn lt a s d1 ∧ SortedIn lt s mid d1 ∧ SortedIn lt mid e d1 ∧ SortedIn lt e b d1 := by
  refine ⟨fun i j c1 c2 c3 => ?_, fun i j c1 c2 c3 => ?_, fun i j c1 c2 c3 => ?_, fun i j c1 c2 c3 => ?_⟩
  · rw [h.out (by omega), h.out (by omega)]
    exact hA i j c1 c2 (by omega)
  · rw [h.at1 (k := i) (by omega) (by omega) (by omega), h.at1 (k := j) (by omega) (by omega) (by omega)]
    exact hB _ _ (by omega) (by omega) (by omega)
  · rw [h.at2 (k := i) (by omega) (by omega) (by omega), h.at2 (k := j) (by omega) (by omega) (by omega)]
    exact hA _ _ (by omega) (by omega) (by omega)
  · rw [h.out (by omega), h.out (by omega)]
    exact hB i j (by omega) c2 c3
theorem SortedIn.le_of (hS : SWO lt) {d : Array α} {a b i j : Nat} (h : SortedIn lt a b d) (hi : a ≤ i) (hij : i ≤ j) (hj : j < b) : lt d[j]! d[i]! = false := by
  rcases Nat.lt_or_ge i j with c | c
  · exact h i j hi c hj
  · have : i = j := by omega
    subst this
    exact hS.irrefl _
theorem halves (hS : SWO lt) {d d1 : Array α} {a s m e b mid : Nat} (hA : SortedIn lt a m d) (hB : SortedIn lt m b d) (h : Rot d s m e d1) (h1 : a ≤ s ∧ s ≤ m ∧ m ≤ e ∧ e ≤ b) (hmid : mid = s + (e - m))
    (hlo : s = a ∨ e = b ∨ lt d[e]! d[s - 1]! = false) (hhi : s = m ∨ e = m ∨ lt d[e - 1]! d[s]! = true) : ∀ i j, a ≤ i → i < mid → mid ≤ j → j < b → lt d1[j]! d1[i]! = false := by
  have g1 : ∀ x y, a ≤ x → x < s → s ≤ y → y < m → lt d[y]! d[x]! = false := fun x y q1 q2 q3 q4 => hA x y q1 (by omega) q4
  have g2 : ∀ x y, a ≤ x → x < s → e ≤ y → y < b → lt d[y]! d[x]! = false := fun x y q1 q2 q3 q4 => by
    have h3 : lt d[e]! d[s - 1]! = false := by
      rcases hlo with h | h | h
      · omega
      · omega
      · exact h
    exact hS.ntrans _ _ _ (SortedIn.le_of hS hB (by omega : m ≤ e) q3 q4) (hS.ntrans _ _ _ h3 (SortedIn.le_of hS hA q1 (by omega : x ≤ s - 1) (by omega)))
  have g3 : ∀ x y, m ≤ x → x < e → s ≤ y → y < m → lt d[y]! d[x]! = false := fun x y q1 q2 q3 q4 => by
    have h3 : lt d[e - 1]! d[s]! = true := by
      rcases hhi with h | h | h
      · omega
      · omega
      · exact h
    have h4 := hS.asymmA h3
    exact hS.ntrans _ _ _ (SortedIn.le_of hS hA (by omega : a ≤ s) q3 q4) (hS.ntrans _ _ _ h4 (SortedIn.le_of hS hB q1 (by omega : x ≤ e - 1) (by omega)))
  have g4 : ∀ x y, m ≤ x → x < e → e ≤ y → y < b → lt d[y]! d[x]! = false := fun x y q1 q2 q3 q4 => hB x y q1 (by omega) q4
  intro i j c1 c2 c3 c4
  by_cases k1 : i < s
  · rw [h.out (k := i) (by omega)]
    by_cases k2 : j < e
    · rw [h.at2 (k := j) (by omega) (by omega) (by omega)]
      exact g1 _ _ c1 k1 (by omega) (by omega)
    · rw [h.out (k := j) (by omega)]
      exact g2 _ _ c1 k1 (by omega) c4
  · rw [h.at1 (k := i) (by omega) (by omega) (by omega)]
    by_cases k2 : j < e
    · rw [h.at2 (k := j) (by omega) (by omega) (by omega)]
      exact g3 _ _ (by omega) (by omega) (by omega) (by omega)
    · rw [h.out (k := j) (by omega)]
      exact g4 _ _ (by omega) (by omega) (by omega) c4
theorem joined {d : Array α} {a mid b : Nat} (h1 : SortedIn lt a mid d) (h2 : SortedIn lt mid b d) (h3 : ∀ i j, a ≤ i → i < mid → mid ≤ j → j < b → lt d[j]! d[i]! = false) : SortedIn lt a b d := fun i j c1 c2 c3 => by
  by_cases k1 : j < mid
  · exact h1 i j c1 c2 k1
  · by_cases k2 : i < mid
    · exact h3 i j c1 k2 (by omega) c3
    · exact h2 i j (by omega) c2 c3
theorem sorted_congr {d d' : Array α} {a b : Nat} (h : SortedIn lt a b d) (he : ∀ k, a ≤ k → k < b → d'[k]! = d[k]!) : SortedIn lt a b d' := fun i j c1 c2 c3 => by
  rw [he i c1 (by omega), he j (by omega) c3]
  exact h i j c1 c2 c3
theorem sorted_one {d : Array α} {a b : Nat} (h : b ≤ a + 1) : SortedIn lt a b d := fun i j c1 c2 c3 => by omega
theorem between {d d' : Array α} {a mid b : Nat} (hm : a ≤ mid ∧ mid ≤ b) (hb : b ≤ d.size) (h3 : ∀ i j, a ≤ i → i < mid → mid ≤ j → j < b → lt d[j]! d[i]! = false) (hP : PermIn a mid d d' ∨ PermIn mid b d d') : ∀ i j, a ≤ i → i < mid → mid ≤ j → j < b → lt d'[j]! d'[i]! = false := by
  rcases hP with hP | hP
  · intro i j c1 c2 c3 c4
    rw [hP.2.1 j (by omega)]
    exact permIn_all d d' a mid (fun x => lt d[j]! x = false) (by omega) hP (fun k q1 q2 => h3 k j q1 q2 c3 c4) i c1 c2
  · intro i j c1 c2 c3 c4
    rw [hP.2.1 i (by omega)]
    exact permIn_all d d' mid b (fun x => lt x d[i]! = false) (by omega) hP (fun k q1 q2 => h3 i k c1 c2 q1 q2) j c3 c4

def Merged (lt : α → α → Bool) (a m b : Nat) (d d' : Array α) : Prop := PermIn a b d d' ∧ (SortedIn lt a m d → SortedIn lt m b d → SortedIn lt a b d')

theorem merged_first (hS : SWO lt) {d d' : Array α} {a b i : Nat} (hR : Rot d a (a + 1) i d') (hP : PermIn a b d d') (hi : a + 1 ≤ i ∧ i ≤ b) (h1 : i = a + 1 ∨ lt d[i - 1]! d[a]! = true) (h2 : i = b ∨ lt d[i]! d[a]! = false) : Merged lt a (a + 1) b d d' := by
  refine ⟨hP, fun hA hB => ?_⟩
  obtain ⟨p1, p2, p3, p4⟩ := parts (mid := a + (i - (a + 1))) hA hB hR (by omega) rfl
  refine joined p2 (mid := a + (i - (a + 1))) (joined p3 p4 fun x y c1 c2 c3 c4 => ?_) (halves hS hA hB hR (by omega) rfl (by omega) (by
    rcases h1 with h | h
    · exact .inr (.inl h)
    · exact .inr (.inr h)))
  have hx : x = i - 1 := by omega
  subst hx
  rw [hR.at2 (k := i - 1) (by omega) (by omega) (by omega), hR.out (k := y) (by omega), show i - 1 - (i - (a + 1)) = a by omega]
  have h3 : lt d[i]! d[a]! = false := by
    rcases h2 with h | h
    · omega
    · exact h
  exact hS.ntrans _ _ _ (SortedIn.le_of hS hB (by omega : a + 1 ≤ i) c3 c4) h3
theorem merged_last (hS : SWO lt) {d d' : Array α} {a m i : Nat} (hR : Rot d i m (m + 1) d') (hP : PermIn a (m + 1) d d') (hi : a ≤ i ∧ i ≤ m) (h1 : i = a ∨ lt d[m]! d[i - 1]! = false) (h2 : i = m ∨ lt d[m]! d[i]! = true) : Merged lt a m (m + 1) d d' := by
  refine ⟨hP, fun hA hB => ?_⟩
  obtain ⟨p1, p2, p3, p4⟩ := parts (mid := i + (m + 1 - m)) hA hB hR (by omega) rfl
  refine joined (mid := i + (m + 1 - m)) (joined p1 p2 fun x y c1 c2 c3 c4 => ?_) p3 (halves hS hA hB hR (by omega) rfl (by omega) (by
    rcases h2 with h | h
    · exact .inl h
    · exact .inr (.inr h)))
  have hy : y = i := by omega
  subst hy
  rw [hR.out (k := x) (by omega), hR.at1 (k := y) (by omega) (by omega) (by omega), show y + (m - y) = m by omega]
  have h3 : lt d[m]! d[y - 1]! = false := by
    rcases h1 with h | h
    · omega
    · exact h
  exact hS.ntrans _ _ _ h3 (SortedIn.le_of hS hA c1 (by omega : x ≤ y - 1) (by omega))
theorem merged_mid (hS : SWO lt) {d d1 d2 d3 : Array α} {a s m e b mid : Nat} (hsz : b ≤ d.size) (hR : Rot d s m e d1) (hP : PermIn a b d d1) (h1 : a ≤ s ∧ s ≤ m ∧ m ≤ e ∧ e ≤ b) (hmid : mid = s + (e - m))
    (hlo : s = a ∨ e = b ∨ lt d[e]! d[s - 1]! = false) (hhi : s = m ∨ e = m ∨ lt d[e - 1]! d[s]! = true)
    (hL : (Merged lt a s mid d1 d2 ∨ (s = a ∨ s = mid) ∧ d2 = d1)) (hG : (Merged lt mid e b d2 d3 ∨ (e = mid ∨ e = b) ∧ d3 = d2)) : Merged lt a m b d d3 := by
  have q1 : PermIn a mid d1 d2 := by
    rcases hL with h | ⟨_, h⟩
    · exact h.1
    · rw [h]; exact permIn_refl _ _ _
  have q2 : PermIn mid b d2 d3 := by
    rcases hG with h | ⟨_, h⟩
    · exact h.1
    · rw [h]; exact permIn_refl _ _ _
  have s1 := hP.1
  have s2 := q1.1
  have s3 := q2.1
  refine ⟨permIn_trans _ _ _ _ _ hP (permIn_trans _ _ _ _ _ (permIn_mono _ _ a mid a b (Nat.le_refl _) (by omega) (by omega) q1) (permIn_mono _ _ mid b a b (by omega) (Nat.le_refl _) (by omega) q2)), fun hA hB => ?_⟩
  obtain ⟨p1, p2, p3, p4⟩ := parts hA hB hR h1 hmid
  have hb := halves hS hA hB hR h1 hmid hlo hhi
  have r1 : SortedIn lt a mid d2 := by
    rcases hL with h | ⟨h | h, h'⟩
    · exact h.2 p1 p2
    · subst h'; subst h; exact p2
    · subst h'; rw [← h]; exact p1
  have r2 : SortedIn lt mid b d3 := by
    have k3 : SortedIn lt mid e d2 := sorted_congr p3 fun k c1 c2 => q1.2.1 k (by omega)
    have k4 : SortedIn lt e b d2 := sorted_congr p4 fun k c1 c2 => q1.2.1 k (by omega)
    rcases hG with h | ⟨h | h, h'⟩
    · exact h.2 k3 k4
    · subst h'; rw [← h]; exact k4
    · subst h'; rw [← h]; exact k3
  have r3 : SortedIn lt a mid d3 := sorted_congr r1 fun k c1 c2 => q2.2.1 k (by omega)
  exact joined r3 r2 (between (by omega) (by omega) (between (by omega) (by omega) hb (.inl q1)) (.inr q2))
#print axioms merged_mid
end Go.Proofs.Ytgcoidbaoigkeaa.stab
set_option linter.unusedVariables false
namespace Go.Proofs.Ytgcoidbaoigkeaa.stab
open Go.Shelf Go.RowKit Go.Lib Go.Sort
variable {α : Type} [Inhabited α]

def sortWorld (enc : α → Value) (w : World) (blk off n : Nat) (dk : Array α) (os : Array Obj) : World := Sort.grow (putRow enc { w with drawn := n } blk off dk) os
def SW (enc : α → Value) (w0 : World) (blk off : Nat) (dk : Array α) (W : World) : Prop := ∃ n os, W = sortWorld enc w0 blk off n dk os
section
variable {enc : α → Value} {w0 W : World} {blk off : Nat} {dk : Array α}
theorem sortWorld_on (enc : α → Value) (w : World) (blk off n m : Nat) (dk dk' : Array α) (os os' : Array Obj) (hblk : blk < w.heap.size) (h : dk'.size = dk.size) :
    sortWorld enc (sortWorld enc w blk off n dk os) blk off m dk' os' = sortWorld enc w blk off m dk' (os ++ os') := by
  unfold sortWorld
  show Sort.grow (putRow enc (Sort.grow (putRow enc { w with drawn := m } blk off dk) os) blk off dk') os' = _
  rw [putRow_grow enc _ os blk off dk' (by rw [size_putRow]; exact hblk), putRow_putRow enc _ blk off dk dk' h, grow_grow]
theorem SW.start (h : Holds enc w0 blk off dk) : SW enc w0 blk off dk w0 := ⟨w0.drawn, #[], by unfold sortWorld; rw [grow_empty]; exact (putRow_self enc w0 blk off dk h).symm⟩
theorem SW.alloc (h : SW enc w0 blk off dk W) (o : Obj) : SW enc w0 blk off dk (W.alloc o) := by
  obtain ⟨n, os, rfl⟩ := h
  exact ⟨n, os ++ #[o], by unfold sortWorld; rw [alloc_eq_grow, grow_grow]⟩
theorem SW.le (h : SW enc w0 blk off dk W) : w0.heap.size ≤ W.heap.size := by
  obtain ⟨n, os, rfl⟩ := h
  unfold sortWorld
  rw [size_grow, size_putRow]
  show w0.heap.size ≤ w0.heap.size + _
  omega
theorem SW.on (h : SW enc w0 blk off dk W) (hblk : blk < w0.heap.size) (m : Nat) (dk' : Array α) (os' : Array Obj) (hs : dk'.size = dk.size) : SW enc w0 blk off dk' (sortWorld enc W blk off m dk' os') := by
  obtain ⟨n, os, rfl⟩ := h
  exact ⟨m, _, sortWorld_on enc w0 blk off n m dk dk' os os' hblk hs⟩
theorem SW.holds (h : SW enc w0 blk off dk W) (hblk : blk < w0.heap.size) {d0 : Array α} (h0 : Holds enc w0 blk off d0) (hs : dk.size = d0.size) : Holds enc W blk off dk := by
  obtain ⟨n, os, rfl⟩ := h
  unfold sortWorld
  rw [← putRow_grow enc { w0 with drawn := n } os blk off dk hblk]
  exact holds_putRow enc _ blk off d0 dk (holds_grow enc _ _ blk off d0 hblk h0) hs
theorem SW.lt (h : SW enc w0 blk off dk W) (hblk : blk < w0.heap.size) : blk < W.heap.size := Nat.lt_of_lt_of_le hblk h.le
theorem SW.swap (h : SW enc w0 blk off dk W) (hblk : blk < w0.heap.size) (i j : Nat) (hi : i < dk.size) (hj : j < dk.size) :
    SW enc w0 blk off (swp dk i j) ((W.setCell ⟨blk, off + i, none⟩ (enc dk[j]!)).setCell ⟨blk, off + j, none⟩ (enc dk[i]!)) := by
  obtain ⟨n, os, rfl⟩ := h
  refine ⟨n, os, ?_⟩
  unfold sortWorld
  rw [← putRow_grow enc { w0 with drawn := n } os blk off dk hblk, putRow_swp enc _ blk off dk i j hi hj, putRow_grow enc { w0 with drawn := n } os blk off _ hblk]
end
theorem sortWorld_of_alloc (enc : α → Value) (w : World) (o : Obj) (blk off n : Nat) (X : Array α) (hblk : blk < w.heap.size) : putRow enc (Sort.ahead (w.alloc o) n) blk off X = sortWorld enc w blk off (w.drawn + n) X #[o] := by
  unfold sortWorld
  rw [alloc_eq_grow, ahead_grow, putRow_grow enc (Sort.ahead w n) _ blk off _ hblk]
  rfl

def Grew (W W' : World) : Prop := ∃ n os, W' = Sort.grow { W with drawn := n } os
theorem Grew.refl (W : World) : Grew W W := ⟨W.drawn, #[], by rw [grow_empty]⟩
theorem Grew.of_below {W W' : World} (h : Below W.heap.size W W') : Grew W W' := by
  refine ⟨W'.drawn, W'.heap.extract W.heap.size W'.heap.size, ?_⟩
  have hh : W'.heap = W.heap ++ W'.heap.extract W.heap.size W'.heap.size := by
    apply Array.ext_getElem?
    intro i
    by_cases hi : i < W.heap.size
    · rw [h.block i hi, Array.getElem?_append_left hi]
    · rw [Array.getElem?_append_right (by omega)]
      have hsz := h.size
      by_cases hi2 : i < W'.heap.size
      · rw [Array.getElem?_extract_of_lt (by omega), Array.getElem?_eq_getElem hi2]
        congr 2
        omega
      · rw [Array.getElem?_eq_none (by omega), Array.getElem?_eq_none (by simp; omega)]
  cases W' with
  | mk heap tape drawn os output =>
    cases W with
    | mk heap' tape' drawn' os' output' =>
      have h1 := h.os
      have h2 := h.tape
      have h3 := h.output
      simp only at h1 h2 h3 hh
      subst h1 h2 h3
      simp only [Sort.grow]
      rw [← hh]
theorem sw_grew {enc : α → Value} {w0 W W' : World} {blk off : Nat} {dk : Array α} (h : SW enc w0 blk off dk W) (hG : Grew W W') : SW enc w0 blk off dk W' := by
  obtain ⟨q, os', rfl⟩ := hG
  obtain ⟨n, os, rfl⟩ := h
  exact ⟨q, os ++ os', by unfold sortWorld; rw [← grow_grow]; rfl⟩
#print axioms Grew.of_below
end Go.Proofs.Ytgcoidbaoigkeaa.stab
set_option linter.unusedVariables false
set_option linter.unusedSimpArgs false
namespace Go.Proofs.Ytgcoidbaoigkeaa.stab
open Go.Shelf Go.RowKit Go.Lib Go.Sort
variable {P : Program} {ρ : Ren} {α : Type} [Inhabited α]

set_option maxHeartbeats 1600000 in
set_option maxRecDepth 1000000 in
theorem swapRange_one (L : LaysGt.n49 P ρ) (enc : α → Value) (lf : Fn) (la lb : Array Value) (sf : Nat) (sb : Array Value) (blk off a b n : Nat) (d : Array α) (w : World)
    (hswap : SwapSwaps P sf sb enc blk off d.size) (hH : Holds enc w blk off d) (hblk : blk < w.heap.size) (hab : a + n ≤ b) (hb : b + n ≤ d.size) (hsz : d.size < 4611686018427387904) :
    Calls P (ρ.f 49) #[.agg #[.func lf la lb, .func (.func sf) #[] sb], .int .i64 a, .int .i64 b, .int .i64 n] w fun e w' => e = .returned (.tuple #[]) ∧ ∃ m d', w' = putRow enc (Sort.ahead (w.alloc (.cells #[.func lf la lb, .func (.func sf) #[] sb] (ρ.t 42))) m) blk off d' ∧ Swr d a b n d' ∧ PermIn a (b + n) d d' := by
  have mixed := L.mixed; have t0 := L.t0; have a0 := L.a0; have z0 := L.z0; have v0 := L.v0; have t3 := L.t3; have a3 := L.a3; have z3 := L.z3; have v3 := L.v3; have t4 := L.t4; have a4 := L.a4; have z4 := L.z4; have v4 := L.v4; have t26 := L.t26; have a26 := L.a26; have z26 := L.z26; have v26 := L.v26; have t38 := L.t38; have a38 := L.a38; have z38 := L.z38; have v38 := L.v38; have t42 := L.t42; have a42 := L.a42; have z42 := L.z42; have v42 := L.v42
  have u42 := run_underlying L.t42
  have hH1 : Holds enc (w.alloc (.cells #[.func lf la lb, .func (.func sf) #[] sb] (ρ.t 42))) blk off d := by rw [alloc_eq_grow]; exact holds_grow enc w _ blk off d hblk hH
  go_enter L.f49, BodyGt.n49_ntmps ρ
  go_wp2
  go_loopg [8] n (fun k s8 wr => ∃ (i m : Nat) (dk : Array α), s8 = .int .i64 i ∧ i + k = n ∧ wr = putRow enc (Sort.ahead (w.alloc (.cells #[.func lf la lb, .func (.func sf) #[] sb] (ρ.t 42))) m) blk off dk ∧ Swr d a b i dk ∧ PermIn a (b + n) d dk)
  case atStart => exact ⟨0, 0, d, rfl, by omega, (putRow_self enc _ blk off d hH1).symm, Swr.start d a b, permIn_refl _ _ _⟩
  case round =>
    obtain ⟨i, m, dk, rfl, hk, hwr, hS, hP⟩ := hrel
    have hds : dk.size = d.size := hS.1
    by_cases hlt : i < n
    · have hHk : Holds enc wr blk off dk := by rw [hwr]; exact holds_putRow enc _ blk off d dk (holds_ahead enc _ m blk off d hH1) hds
      have c1 : wr.cell? ⟨w.heap.size, 1, none⟩ = some (.func (.func sf) #[] sb) := by
        rw [hwr, cell?_putRow_other enc _ blk off dk _ (Or.inl (by show w.heap.size ≠ blk; omega))]; show ((w.alloc (.cells #[.func lf la lb, .func (.func sf) #[] sb] (ρ.t 42)))).cell? _ = _; simp
      have hs := hswap wr dk hHk hds (a + i) (b + i) (by omega) (by omega)
      rw [show (((a + i : Nat) : Int)) = (a : Int) + i by omega, show (((b + i : Nat) : Int)) = (b : Int) + i by omega] at hs
      have A : Aside (wr = putRow enc (Sort.ahead (w.alloc (.cells #[.func lf la lb, .func (.func sf) #[] sb] (ρ.t 42))) m) blk off dk ∧ Swr d a b i dk ∧ PermIn a (b + n) d dk) := ⟨hwr, hS, hP⟩
      clear hwr hHk hH hH1 hswap hS hP
      go_wp2
      go_roundg (gk - 1)
      case measure => omega
      case rel =>
        obtain ⟨hwr, hS, hP⟩ := A.out
        exact ⟨i + 1, m, swp dk (a + i) (b + i), by simp, by omega,
          by rw [hwr, ← putRow_swp enc _ blk off dk (a + i) (b + i) (by omega) (by omega)],
          hS.step (by omega) (by omega), permIn_trans _ _ _ _ _ hP (swp_permIn _ _ _ _ _ (by omega) (by omega) (by omega) (by omega) (by omega))⟩
    · go_wp2
      go_end0
      have : i = n := by omega
      subst this
      exact ⟨rfl, m, dk, rfl, hS, hP⟩

theorem swapRange_w (L : LaysGt.n49 P ρ) (enc : α → Value) (lf : Fn) (la lb : Array Value) (sf : Nat) (sb : Array Value) (blk off a b n : Nat) (d : Array α) (w : World)
    (hswap : SwapSwaps P sf sb enc blk off d.size) (hH : Holds enc w blk off d) (hblk : blk < w.heap.size) (hab : a + n ≤ b) (hb : b + n ≤ d.size) (hsz : d.size < 4611686018427387904) :
    Calls P (ρ.f 49) #[.agg #[.func lf la lb, .func (.func sf) #[] sb], .int .i64 a, .int .i64 b, .int .i64 n] w fun e w' => e = .returned (.tuple #[]) ∧ ∃ m os d', w' = sortWorld enc w blk off m d' os ∧ Swr d a b n d' ∧ PermIn a (b + n) d d' :=
  (swapRange_one L enc lf la lb sf sb blk off a b n d w hswap hH hblk hab hb hsz).mono fun _ _ ⟨he, m, d', hw, h1, h2⟩ => ⟨he, _, _, d', hw.trans (sortWorld_of_alloc enc w _ blk off m _ hblk), h1, h2⟩
#print axioms swapRange_w
end Go.Proofs.Ytgcoidbaoigkeaa.stab
set_option linter.unusedVariables false
set_option linter.unusedSimpArgs false
namespace Go.Proofs.Ytgcoidbaoigkeaa.stab
open Go.Shelf Go.RowKit Go.Lib Go.Sort
variable {P : Program} {ρ : Ren} {α : Type} [Inhabited α]

def Dat (bx : Nat) (f0 f1 : Value) (W : World) : Prop := bx < W.heap.size ∧ W.cell? ⟨bx, 0, none⟩ = some f0 ∧ W.cell? ⟨bx, 1, none⟩ = some f1
theorem cell_sw (enc : α → Value) (w : World) (blk off n : Nat) (dk : Array α) (os : Array Obj) (k i : Nat) (hk : k < w.heap.size) (hne : k ≠ blk) : (sortWorld enc w blk off n dk os).cell? ⟨k, i, none⟩ = w.cell? ⟨k, i, none⟩ := by
  unfold sortWorld
  rw [cell?_grow _ _ _ (by rw [size_putRow]; exact hk), cell?_putRow_other enc _ blk off _ _ (Or.inl hne)]
  rfl
theorem size_sw (enc : α → Value) (w : World) (blk off n : Nat) (dk : Array α) (os : Array Obj) : w.heap.size ≤ (sortWorld enc w blk off n dk os).heap.size := by
  unfold sortWorld
  rw [size_grow, size_putRow]
  show w.heap.size ≤ w.heap.size + _
  omega
theorem Dat.on {bx : Nat} {f0 f1 : Value} {W : World} (h : Dat bx f0 f1 W) (enc : α → Value) (blk off n : Nat) (dk : Array α) (os : Array Obj) (hne : bx ≠ blk) : Dat bx f0 f1 (sortWorld enc W blk off n dk os) :=
  ⟨Nat.lt_of_lt_of_le h.1 (size_sw enc W blk off n dk os), by rw [cell_sw enc W blk off n dk os bx 0 h.1 hne]; exact h.2.1, by rw [cell_sw enc W blk off n dk os bx 1 h.1 hne]; exact h.2.2⟩
theorem Dat.set {bx : Nat} {f0 f1 : Value} {W : World} (h : Dat bx f0 f1 W) (a : Addr) (v : Value) (ha : a.block ≠ bx) : Dat bx f0 f1 (W.setCell a v) := by
  refine ⟨by simpa using h.1, ?_, ?_⟩
  · rw [World.cell?_setCell_other]
    · exact h.2.1
    · intro e; exact ha (by rw [e])
  · rw [World.cell?_setCell_other]
    · exact h.2.2
    · intro e; exact ha (by rw [e])
theorem Dat.start (w : World) (f0 f1 : Value) (t : TypeId) : Dat w.heap.size f0 f1 (w.alloc (.cells #[f0, f1] t)) := ⟨by simp, by simp, by simp⟩

theorem Dat.grew {bx : Nat} {f0 f1 : Value} {W W' : World} (h : Dat bx f0 f1 W) (hG : Grew W W') : Dat bx f0 f1 W' := by
  obtain ⟨q, os, rfl⟩ := hG
  obtain ⟨h1, h2, h3⟩ := h
  refine ⟨by rw [size_grow]; exact Nat.lt_of_lt_of_le h1 (Nat.le_add_right _ _), ?_, ?_⟩
  · rw [cell?_grow _ _ _ (by exact h1)]; exact h2
  · rw [cell?_grow _ _ _ (by exact h1)]; exact h3
def LessG (P : Program) (g : Nat) (lb : Array Value) (enc : α → Value) (lt : α → α → Bool) (blk off size : Nat) (w : World) : Prop :=
  ∀ (W : World) (dk : Array α), SW enc w blk off dk W → dk.size = size → ∀ i j : Nat, i < size → j < size →
    Calls P g (#[.int .i64 i, .int .i64 j] ++ lb) W fun e w' => e = .returned (.bool (lt dk[i]! dk[j]!)) ∧ Grew W w'
theorem sw_lessG {P : Program} {enc : α → Value} {w0 W : World} {blk off : Nat} {dk : Array α} {g : Nat} {lb : Array Value} {lt : α → α → Bool} {size : Nat} (h : SW enc w0 blk off dk W) (hL : LessG P g lb enc lt blk off size w0) (hs : dk.size = size) (i j : Nat) (hi : i < size) (hj : j < size) :
    Calls P g (#[.int .i64 i, .int .i64 j] ++ lb) W fun e w' => e = .returned (.bool (lt dk[i]! dk[j]!)) ∧ Grew W w' := hL W dk h hs i j hi hj
theorem sw_lessGs {P : Program} {enc : α → Value} {w0 W : World} {blk off : Nat} {dk : Array α} {g : Nat} {lb : Array Value} {lt : α → α → Bool} {size : Nat} (h : SW enc w0 blk off dk W) (hL : LessG P g lb enc lt blk off size w0) (hblk : blk < w0.heap.size) (hs : dk.size = size) : LessG P g lb enc lt blk off size W := fun W' dk' h' hs' i j hi hj => by
  obtain ⟨n, os, rfl⟩ := h'
  exact hL _ dk' (h.on hblk n dk' os (hs'.trans hs.symm)) hs' i j hi hj
theorem LessG.grow {P : Program} {enc : α → Value} {w : World} {blk off : Nat} {g : Nat} {lb : Array Value} {lt : α → α → Bool} {size : Nat} (hL : LessG P g lb enc lt blk off size w) (hblk : blk < w.heap.size) (os0 : Array Obj) : LessG P g lb enc lt blk off size (Sort.grow w os0) := fun W' dk' h' hs' i j hi hj => by
  obtain ⟨n, os, rfl⟩ := h'
  refine hL _ dk' ⟨n, os0 ++ os, ?_⟩ hs' i j hi hj
  unfold sortWorld
  show Sort.grow (putRow enc (Sort.grow { w with drawn := n } os0) blk off dk') os = _
  rw [putRow_grow enc { w with drawn := n } _ blk off _ hblk, grow_grow]

set_option maxHeartbeats 1600000 in
set_option maxRecDepth 1000000 in
theorem rotate_w (L : LaysGt.n42 P ρ) (enc : α → Value) (lf : Fn) (la lb : Array Value) (sf : Nat) (sb : Array Value) (blk off a m b : Nat) (d : Array α) (w : World)
    (hswap : SwapSwaps P sf sb enc blk off d.size) (hH : Holds enc w blk off d) (hblk : blk < w.heap.size) (ham : a < m) (hmb : m < b) (hb : b ≤ d.size) (hsz : d.size < 4611686018427387904) :
    Calls P (ρ.f 42) #[.agg #[.func lf la lb, .func (.func sf) #[] sb], .int .i64 a, .int .i64 m, .int .i64 b] w fun e w' => e = .returned (.tuple #[]) ∧ ∃ n os d', w' = sortWorld enc w blk off n d' os ∧ Rot d a m b d' ∧ PermIn a b d d' := by
  have mixed := L.mixed; have t0 := L.t0; have a0 := L.a0; have z0 := L.z0; have v0 := L.v0; have t3 := L.t3; have a3 := L.a3; have z3 := L.z3; have v3 := L.v3; have t4 := L.t4; have a4 := L.a4; have z4 := L.z4; have v4 := L.v4; have t26 := L.t26; have a26 := L.a26; have z26 := L.z26; have v26 := L.v26; have t38 := L.t38; have a38 := L.a38; have z38 := L.z38; have v38 := L.v38; have t42 := L.t42; have a42 := L.a42; have z42 := L.z42; have v42 := L.v42
  have u42 := run_underlying L.t42
  have e49 : ∀ args w, (callFunc (ρ.f 49) args).run P w = .ok (.enter (ρ.f 49) args) w := enters_of L.f49 (by kernel_rfl) rfl
  have LS : LaysGt.n49 P ρ := { L with }
  have hSW := (SW.start hH).alloc (.cells #[.func lf la lb, .func (.func sf) #[] sb] (ρ.t 42))
  have hD := Dat.start w (.func lf la lb) (.func (.func sf) #[] sb) (ρ.t 42)
  have hne : w.heap.size ≠ blk := by omega
  go_enter L.f42, BodyGt.n42_ntmps ρ
  go_wp2
  go_loopg [8, 9] (b - a) (fun k s8 s9 wr => ∃ (i j : Nat) (dk : Array α), s8 = .int .i64 i ∧ s9 = .int .i64 j ∧ 0 < i ∧ 0 < j ∧ a + i ≤ m ∧ m + j ≤ b ∧ i + j ≤ k ∧ SW enc w blk off dk wr ∧ Dat w.heap.size (.func lf la lb) (.func (.func sf) #[] sb) wr ∧
    (∀ d', Rot dk (m - i) m (m + j) d' → Rot d a m b d') ∧ PermIn a b d dk)
  case atStart => exact ⟨m - a, b - m, d, by congr 1; omega, by congr 1; omega, by omega, by omega, by omega, by omega, by omega, hSW, hD, fun d' h => by rwa [show m - (m - a) = a by omega, show m + (b - m) = b by omega] at h, permIn_refl _ _ _⟩
  case round =>
    obtain ⟨i, j, dk, rfl, rfl, hi0, hj0, hi, hj, hk, hS, hDk, hRo, hP⟩ := hrel
    have hds : dk.size = d.size := hP.1
    have hHk : Holds enc wr blk off dk := hS.holds hblk hH hds
    have hbk : blk < wr.heap.size := hS.lt hblk
    obtain ⟨q0, c0, c1⟩ := hDk
    have sw : ∀ (a' b' n' : Nat), a' + n' ≤ b' → b' + n' ≤ dk.size → Calls P (ρ.f 49) #[.agg #[.func lf la lb, .func (.func sf) #[] sb], .int .i64 a', .int .i64 b', .int .i64 n'] wr fun e w' => e = .returned (.tuple #[]) ∧ ∃ m os d', w' = sortWorld enc wr blk off m d' os ∧ Swr dk a' b' n' d' ∧ PermIn a' (b' + n') dk d' :=
      fun a' b' n' h1 h2 => swapRange_w LS enc lf la lb sf sb blk off a' b' n' dk wr (by rw [hds]; exact hswap) hHk hbk h1 h2 (by omega)
    have A : Aside (SW enc w blk off dk wr ∧ Dat w.heap.size (.func lf la lb) (.func (.func sf) #[] sb) wr ∧ (∀ d', Rot dk (m - i) m (m + j) d' → Rot d a m b d') ∧ PermIn a b d dk ∧ dk.size = d.size) := ⟨hS, ⟨q0, c0, c1⟩, hRo, hP, hds⟩
    have hdb : b ≤ dk.size := by omega
    have hdz : dk.size < 4611686018427387904 := by omega
    clear hS hRo hP hds hHk hbk hswap hH hSW hD
    by_cases hij : i = j
    · subst hij
      have hc := sw (m - i) m i (by omega) (by omega)
      rw [show (((m - i : Nat) : Int)) = (m : Int) - i by omega] at hc
      clear sw
      go_wp2_with (go_at_fn (ρ.f 49); refine hc.mono ?_; rintro e w1 ⟨rfl, n, os, d1, rfl, h1, h2⟩)
      go_end0
      obtain ⟨hS, hDk, hRo, hP, hds⟩ := A.out
      obtain ⟨n', os', e'⟩ := hS.on hblk n d1 os h2.1
      exact ⟨rfl, n', os', d1, e', hRo d1 (Rot.even h1 (by omega)), permIn_trans _ _ _ _ _ hP (permIn_mono _ _ _ _ _ _ (by omega) (by omega) (by omega) h2)⟩
    · by_cases hgt : j < i
      · have hc := sw (m - i) m j (by omega) (by omega)
        rw [show (((m - i : Nat) : Int)) = (m : Int) - i by omega] at hc
        clear sw
        go_wp2_with (go_at_fn (ρ.f 49); refine hc.mono ?_; rintro e w1 ⟨rfl, n, os, d1, rfl, h1, h2⟩)
        go_roundg (i - j + j)
        case measure => omega
        case rel =>
          obtain ⟨hS, hDk, hRo, hP, hds⟩ := A.out
          exact ⟨i - j, j, d1, by congr 1; omega, rfl, by omega, by omega, by omega, by omega, by omega, hS.on hblk n d1 os h2.1, hDk.on enc blk off n d1 os hne,
            fun d' h => hRo d' (Rot.front (i := i) h1 hgt (by omega) (by rwa [show m - (i - j) = m - i + j by omega] at h)), permIn_trans _ _ _ _ _ hP (permIn_mono _ _ _ _ _ _ (by omega) (by omega) (by omega) h2)⟩
      · have hc := sw (m - i) (m + j - i) i (by omega) (by omega)
        rw [show (((m - i : Nat) : Int)) = (m : Int) - i by omega, show (((m + j - i : Nat) : Int)) = (m : Int) + j - i by omega] at hc
        clear sw
        go_wp2_with (go_at_fn (ρ.f 49); refine hc.mono ?_; rintro e w1 ⟨rfl, n, os, d1, rfl, h1, h2⟩)
        go_roundg (i + (j - i))
        case measure => omega
        case rel =>
          obtain ⟨hS, hDk, hRo, hP, hds⟩ := A.out
          exact ⟨i, j - i, d1, rfl, by congr 1; omega, by omega, by omega, by omega, by omega, by omega, hS.on hblk n d1 os h2.1, hDk.on enc blk off n d1 os hne,
            fun d' h => hRo d' (Rot.back (i := i) h1 (by omega) (by omega) (by rwa [show m + (j - i) = m + j - i by omega] at h)), permIn_trans _ _ _ _ _ hP (permIn_mono _ _ _ _ _ _ (by omega) (by omega) (by omega) h2)⟩
#print axioms rotate_w
end Go.Proofs.Ytgcoidbaoigkeaa.stab
set_option linter.unusedVariables false
set_option linter.unusedSimpArgs false
namespace Go.Proofs.Ytgcoidbaoigkeaa.stab
open Go.Shelf Go.RowKit Go.Lib Go.Sort
variable {P : Program} {ρ : Ren} {α : Type} [Inhabited α]

theorem half_cast (i j : Nat) : (((i + j) / 2 : Nat) : Int) = ((i : Int) + j) / 2 := by omega

set_option maxHeartbeats 3200000 in
set_option maxRecDepth 1000000 in
theorem sym_first (L : LaysGt.n30 P ρ) (enc : α → Value) (lt : α → α → Bool) (hO : SWO lt) (g : Nat) (lb : Array Value) (sf : Nat) (sb : Array Value) (blk off : Nat)
    (eg : ∀ args w, (callFunc g args).run P w = .ok (.enter g args) w) (a m b : Nat) (d : Array α) (w : World) (hless : LessG P g lb enc lt blk off d.size w) (hswap : SwapSwaps P sf sb enc blk off d.size)
    (hH : Holds enc w blk off d) (hblk : blk < w.heap.size) (ham : a < m) (hmb : m < b) (hb : b ≤ d.size) (hsz : d.size < 4611686018427387904) (hone : m = a + 1) :
    Calls P (ρ.f 30) #[.agg #[.func (.func g) #[] lb, .func (.func sf) #[] sb], .int .i64 a, .int .i64 m, .int .i64 b] w fun e w' => e = .returned (.tuple #[]) ∧ ∃ n os d', w' = sortWorld enc w blk off n d' os ∧ Merged lt a m b d d' := by
  have mixed := L.mixed; have t0 := L.t0; have a0 := L.a0; have z0 := L.z0; have v0 := L.v0; have t3 := L.t3; have a3 := L.a3; have z3 := L.z3; have v3 := L.v3; have t4 := L.t4; have a4 := L.a4; have z4 := L.z4; have v4 := L.v4; have t26 := L.t26; have a26 := L.a26; have z26 := L.z26; have v26 := L.v26; have t38 := L.t38; have a38 := L.a38; have z38 := L.z38; have v38 := L.v38; have t42 := L.t42; have a42 := L.a42; have z42 := L.z42; have v42 := L.v42; have t47 := L.t47; have a47 := L.a47; have z47 := L.z47; have v47 := L.v47
  have u42 := run_underlying L.t42
  have hSW := (SW.start hH).alloc (.cells #[.func (.func g) #[] lb, .func (.func sf) #[] sb] (ρ.t 42))
  have hD := Dat.start w (.func (.func g) #[] lb) (.func (.func sf) #[] sb) (ρ.t 42)
  have hne : blk ≠ w.heap.size := by omega
  have h1 : (m : Int) - a = 1 := by omega
  have M : Aside (m = a + 1) := hone
  clear hone
  go_enter L.f30, BodyGt.n30_ntmps ρ
  go_wp2
  go_loopg [8, 9] (b - m) (fun k s8 s9 wr => ∃ (i j : Nat), s8 = .int .i64 i ∧ s9 = .int .i64 j ∧ m ≤ i ∧ i ≤ j ∧ j ≤ b ∧ j - i ≤ k ∧ SW enc w blk off d wr ∧ Dat w.heap.size (.func (.func g) #[] lb) (.func (.func sf) #[] sb) wr ∧
    (i = m ∨ lt d[i - 1]! d[a]! = true) ∧ (j = b ∨ lt d[j]! d[a]! = false))
  case atStart => exact ⟨m, b, rfl, rfl, by omega, by omega, by omega, by omega, hSW, hD, .inl rfl, .inl rfl⟩
  case round =>
    obtain ⟨i, j, rfl, rfl, hi0, hij, hj, hk, hS, hDk, he1, he2⟩ := hrel
    obtain ⟨q0, c0, c1⟩ := id hDk
    have A : Aside (SW enc w blk off d wr ∧ Dat w.heap.size (.func (.func g) #[] lb) (.func (.func sf) #[] sb) wr ∧ (i = m ∨ lt d[i - 1]! d[a]! = true) ∧ (j = b ∨ lt d[j]! d[a]! = false)) := ⟨hS, hDk, he1, he2⟩
    by_cases hlt : i < j
    · have hl := sw_lessG hS hless rfl ((i + j) / 2) a (by omega) (by omega)
      rw [half_cast] at hl
      clear hS hDk he1 he2 hSW hD hless hswap hH
      cases hlv : lt d[(i + j) / 2]! d[a]! with
      | true =>
        rw [hlv] at hl
        have V : Aside (lt d[(i + j) / 2]! d[a]! = true) := hlv
        clear hlv
        go_wp2_with (go_at_fn g; refine hl.mono ?_; rintro e w' ⟨rfl, hG⟩)
        go_roundg (j - ((i + j) / 2 + 1))
        case measure => omega
        case rel =>
          obtain ⟨hS, hDk, he1, he2⟩ := A.out
          exact ⟨(i + j) / 2 + 1, j, by congr 1, rfl, by omega, by omega, by omega, by omega, sw_grew hS hG, hDk.grew hG, .inr V.out, he2⟩
      | false =>
        rw [hlv] at hl
        have V : Aside (lt d[(i + j) / 2]! d[a]! = false) := hlv
        clear hlv
        go_wp2_with (go_at_fn g; refine hl.mono ?_; rintro e w' ⟨rfl, hG⟩)
        go_roundg ((i + j) / 2 - i)
        case measure => omega
        case rel =>
          obtain ⟨hS, hDk, he1, he2⟩ := A.out
          exact ⟨i, (i + j) / 2, rfl, by congr 1, by omega, by omega, by omega, by omega, sw_grew hS hG, hDk.grew hG, he1, .inr V.out⟩
    · have hje : j = i := by omega
      subst hje
      clear hS hDk he1 he2 hSW hD hless
      go_wp2
      go_loopg [11] (j - 1 - a) (fun k s11 wr2 => ∃ (x : Nat) (dk : Array α), s11 = .int .i64 x ∧ a ≤ x ∧ x + 1 ≤ j ∧ j - 1 - x ≤ k ∧ SW enc w blk off dk wr2 ∧ Dat w.heap.size (.func (.func g) #[] lb) (.func (.func sf) #[] sb) wr2 ∧ Rot d a (a + 1) (x + 1) dk ∧ PermIn a b d dk)
      case atStart =>
        obtain ⟨hS, hDk, he1, he2⟩ := A.out
        exact ⟨a, d, rfl, by omega, by omega, by omega, hS, hDk, Rot.none (by omega) (.inr rfl), permIn_refl _ _ _⟩
      case round =>
        obtain ⟨x, dk, rfl, hx0, hx1, hxk, hS2, hD2, hR, hP⟩ := hrel
        have hds : dk.size = d.size := hP.1
        obtain ⟨q2, c2, c3⟩ := id hD2
        by_cases hlt2 : x + 1 < j
        · have hs := hswap wr dk (hS2.holds hblk hH hds) hds x (x + 1) (by omega) (by omega)
          rw [show (((x + 1 : Nat) : Int)) = (x : Int) + 1 by omega] at hs
          have B : Aside (SW enc w blk off dk wr ∧ Dat w.heap.size (.func (.func g) #[] lb) (.func (.func sf) #[] sb) wr ∧ Rot d a (a + 1) (x + 1) dk ∧ PermIn a b d dk ∧ dk.size = d.size) := ⟨hS2, hD2, hR, hP, hds⟩
          clear hS2 hD2 hR hP hds hswap hH c0 c1 q0
          go_wp2
          go_roundg (j - 1 - (x + 1))
          case measure => omega
          case rel =>
            obtain ⟨hS2, hD2, hR, hP, hds⟩ := B.out
            exact ⟨x + 1, swp dk x (x + 1), by congr 1, by omega, by omega, by omega, hS2.swap hblk x (x + 1) (by omega) (by omega), (hD2.set _ _ hne).set _ _ hne,
              hR.up (by omega) (by omega), permIn_trans _ _ _ _ _ hP (swp_permIn _ _ _ _ _ (by omega) (by omega) (by omega) (by omega) (by omega))⟩
        · go_wp2
          refine bodyPost_ret (results_none rfl _ _ _) rfl ?_
          obtain ⟨hS, hDk, he1, he2⟩ := A.out
          obtain ⟨n, os, e'⟩ := hS2
          obtain rfl := M.out
          have : x + 1 = j := by omega
          rw [this] at hR
          exact ⟨rfl, n, os, dk, e', merged_first hO hR hP (by omega) he1 he2⟩
set_option maxHeartbeats 3200000 in
set_option maxRecDepth 1000000 in
theorem sym_last (L : LaysGt.n30 P ρ) (enc : α → Value) (lt : α → α → Bool) (hO : SWO lt) (g : Nat) (lb : Array Value) (sf : Nat) (sb : Array Value) (blk off : Nat)
    (eg : ∀ args w, (callFunc g args).run P w = .ok (.enter g args) w) (a m b : Nat) (d : Array α) (w : World) (hless : LessG P g lb enc lt blk off d.size w) (hswap : SwapSwaps P sf sb enc blk off d.size)
    (hH : Holds enc w blk off d) (hblk : blk < w.heap.size) (ham : a < m) (hmb : m < b) (hb : b ≤ d.size) (hsz : d.size < 4611686018427387904) (htwo : m ≠ a + 1) (hone : b = m + 1) :
    Calls P (ρ.f 30) #[.agg #[.func (.func g) #[] lb, .func (.func sf) #[] sb], .int .i64 a, .int .i64 m, .int .i64 b] w fun e w' => e = .returned (.tuple #[]) ∧ ∃ n os d', w' = sortWorld enc w blk off n d' os ∧ Merged lt a m b d d' := by
  have mixed := L.mixed; have t0 := L.t0; have a0 := L.a0; have z0 := L.z0; have v0 := L.v0; have t3 := L.t3; have a3 := L.a3; have z3 := L.z3; have v3 := L.v3; have t4 := L.t4; have a4 := L.a4; have z4 := L.z4; have v4 := L.v4; have t26 := L.t26; have a26 := L.a26; have z26 := L.z26; have v26 := L.v26; have t38 := L.t38; have a38 := L.a38; have z38 := L.z38; have v38 := L.v38; have t42 := L.t42; have a42 := L.a42; have z42 := L.z42; have v42 := L.v42; have t47 := L.t47; have a47 := L.a47; have z47 := L.z47; have v47 := L.v47
  have u42 := run_underlying L.t42
  have hSW := (SW.start hH).alloc (.cells #[.func (.func g) #[] lb, .func (.func sf) #[] sb] (ρ.t 42))
  have hD := Dat.start w (.func (.func g) #[] lb) (.func (.func sf) #[] sb) (ρ.t 42)
  have hne : blk ≠ w.heap.size := by omega
  have h1 : (b : Int) - m = 1 := by omega
  have h2 : ¬ (m : Int) - a = 1 := by omega
  have h3 : ((m : Int) - a == 1) = false := by simp only [beq_eq_false_iff_ne, ne_eq]; exact h2
  have M : Aside (b = m + 1) := hone
  clear hone htwo
  go_enter L.f30, BodyGt.n30_ntmps ρ
  go_wp2
  go_loopg [12, 13] (m - a) (fun k s8 s9 wr => ∃ (i j : Nat), s8 = .int .i64 i ∧ s9 = .int .i64 j ∧ a ≤ i ∧ i ≤ j ∧ j ≤ m ∧ j - i ≤ k ∧ SW enc w blk off d wr ∧ Dat w.heap.size (.func (.func g) #[] lb) (.func (.func sf) #[] sb) wr ∧
    (i = a ∨ lt d[m]! d[i - 1]! = false) ∧ (j = m ∨ lt d[m]! d[j]! = true))
  case atStart => exact ⟨a, m, rfl, rfl, by omega, by omega, by omega, by omega, hSW, hD, .inl rfl, .inl rfl⟩
  case round =>
    obtain ⟨i, j, rfl, rfl, hi0, hij, hj, hk, hS, hDk, he1, he2⟩ := hrel
    obtain ⟨q0, c0, c1⟩ := id hDk
    have A : Aside (SW enc w blk off d wr ∧ Dat w.heap.size (.func (.func g) #[] lb) (.func (.func sf) #[] sb) wr ∧ (i = a ∨ lt d[m]! d[i - 1]! = false) ∧ (j = m ∨ lt d[m]! d[j]! = true)) := ⟨hS, hDk, he1, he2⟩
    by_cases hlt : i < j
    · have hl := sw_lessG hS hless rfl m ((i + j) / 2) (by omega) (by omega)
      rw [half_cast] at hl
      clear hS hDk he1 he2 hSW hD hless hswap hH
      cases hlv : lt d[m]! d[(i + j) / 2]! with
      | false =>
        rw [hlv] at hl
        have V : Aside (lt d[m]! d[(i + j) / 2]! = false) := hlv
        clear hlv
        go_wp2_with (go_at_fn g; refine hl.mono ?_; rintro e w' ⟨rfl, hG⟩)
        go_roundg (j - ((i + j) / 2 + 1))
        case measure => omega
        case rel =>
          obtain ⟨hS, hDk, he1, he2⟩ := A.out
          exact ⟨(i + j) / 2 + 1, j, by congr 1, rfl, by omega, by omega, by omega, by omega, sw_grew hS hG, hDk.grew hG, .inr V.out, he2⟩
      | true =>
        rw [hlv] at hl
        have V : Aside (lt d[m]! d[(i + j) / 2]! = true) := hlv
        clear hlv
        go_wp2_with (go_at_fn g; refine hl.mono ?_; rintro e w' ⟨rfl, hG⟩)
        go_roundg ((i + j) / 2 - i)
        case measure => omega
        case rel =>
          obtain ⟨hS, hDk, he1, he2⟩ := A.out
          exact ⟨i, (i + j) / 2, rfl, by congr 1, by omega, by omega, by omega, by omega, sw_grew hS hG, hDk.grew hG, he1, .inr V.out⟩
    · have hje : j = i := by omega
      subst hje
      clear hS hDk he1 he2 hSW hD hless
      go_wp2
      go_loopg [15] (m - j) (fun k s11 wr2 => ∃ (x : Nat) (dk : Array α), s11 = .int .i64 x ∧ x ≤ m ∧ j ≤ x ∧ x - j ≤ k ∧ SW enc w blk off dk wr2 ∧ Dat w.heap.size (.func (.func g) #[] lb) (.func (.func sf) #[] sb) wr2 ∧ Rot d x m (m + 1) dk ∧ PermIn a b d dk)
      case atStart =>
        obtain ⟨hS, hDk, he1, he2⟩ := A.out
        exact ⟨m, d, rfl, by omega, by omega, by omega, hS, hDk, Rot.none (by omega) (.inl rfl), permIn_refl _ _ _⟩
      case round =>
        obtain ⟨x, dk, rfl, hx0, hx1, hxk, hS2, hD2, hR, hP⟩ := hrel
        have hds : dk.size = d.size := hP.1
        obtain ⟨q2, c2, c3⟩ := id hD2
        by_cases hlt2 : j < x
        · have hs := hswap wr dk (hS2.holds hblk hH hds) hds x (x - 1) (by omega) (by omega)
          rw [show (((x - 1 : Nat) : Int)) = (x : Int) - 1 by omega] at hs
          have B : Aside (SW enc w blk off dk wr ∧ Dat w.heap.size (.func (.func g) #[] lb) (.func (.func sf) #[] sb) wr ∧ Rot d x m (m + 1) dk ∧ PermIn a b d dk ∧ dk.size = d.size) := ⟨hS2, hD2, hR, hP, hds⟩
          clear hS2 hD2 hR hP hds hswap hH c0 c1 q0
          go_wp2
          go_roundg (x - 1 - j)
          case measure => omega
          case rel =>
            obtain ⟨hS2, hD2, hR, hP, hds⟩ := B.out
            exact ⟨x - 1, swp dk x (x - 1), by congr 1; omega, by omega, by omega, by omega, hS2.swap hblk x (x - 1) (by omega) (by omega), (hD2.set _ _ hne).set _ _ hne,
              hR.down (by omega) (by omega) (by omega), permIn_trans _ _ _ _ _ hP (swp_permIn _ _ _ _ _ (by omega) (by omega) (by omega) (by omega) (by omega))⟩
        · go_wp2
          refine bodyPost_ret (results_none rfl _ _ _) rfl ?_
          obtain ⟨hS, hDk, he1, he2⟩ := A.out
          obtain ⟨n, os, e'⟩ := hS2
          obtain rfl := M.out
          have : x = j := by omega
          subst this
          exact ⟨rfl, n, os, dk, e', merged_last hO hR hP (by omega) he1 he2⟩
#print axioms sym_first
#print axioms sym_last
end Go.Proofs.Ytgcoidbaoigkeaa.stab
set_option linter.unusedVariables false
set_option linter.unusedSimpArgs false
namespace Go.Proofs.Ytgcoidbaoigkeaa.stab
open Go.Shelf Go.RowKit Go.Lib Go.Sort
variable {P : Program} {ρ : Ren} {α : Type} [Inhabited α]

set_option maxHeartbeats 6400000 in
set_option maxRecDepth 1000000 in
theorem sym_midA (L : LaysGt.n30 P ρ) (enc : α → Value) (lt : α → α → Bool) (hO : SWO lt) (g : Nat) (lb : Array Value) (sf : Nat) (sb : Array Value) (blk off : Nat)
    (eg : ∀ args w, (callFunc g args).run P w = .ok (.enter g args) w) (a m b : Nat) (d : Array α) (w : World) (hless : LessG P g lb enc lt blk off d.size w) (hswap : SwapSwaps P sf sb enc blk off d.size)
    (hH : Holds enc w blk off d) (hblk : blk < w.heap.size) (ham : a + 1 < m) (hmb : m + 1 < b) (hb : b ≤ d.size) (hsz : d.size < 4611686018427387904) (hcase : m ≤ (a + b) / 2)
    (ih : ∀ (a' m' b' : Nat) (d' : Array α) (w' : World), b' - a' < b - a → LessG P g lb enc lt blk off d'.size w' → SwapSwaps P sf sb enc blk off d'.size → Holds enc w' blk off d' → blk < w'.heap.size → a' < m' → m' < b' → b' ≤ d'.size → d'.size < 4611686018427387904 →
      Calls P (ρ.f 30) #[.agg #[.func (.func g) #[] lb, .func (.func sf) #[] sb], .int .i64 a', .int .i64 m', .int .i64 b'] w' fun e w'' => e = .returned (.tuple #[]) ∧ ∃ n os d'', w'' = sortWorld enc w' blk off n d'' os ∧ Merged lt a' m' b' d' d'') :
    Calls P (ρ.f 30) #[.agg #[.func (.func g) #[] lb, .func (.func sf) #[] sb], .int .i64 a, .int .i64 m, .int .i64 b] w fun e w' => e = .returned (.tuple #[]) ∧ ∃ n os d', w' = sortWorld enc w blk off n d' os ∧ Merged lt a m b d d' := by
  have mixed := L.mixed; have t0 := L.t0; have a0 := L.a0; have z0 := L.z0; have v0 := L.v0; have t3 := L.t3; have a3 := L.a3; have z3 := L.z3; have v3 := L.v3; have t4 := L.t4; have a4 := L.a4; have z4 := L.z4; have v4 := L.v4; have t26 := L.t26; have a26 := L.a26; have z26 := L.z26; have v26 := L.v26; have t38 := L.t38; have a38 := L.a38; have z38 := L.z38; have v38 := L.v38; have t42 := L.t42; have a42 := L.a42; have z42 := L.z42; have v42 := L.v42; have t47 := L.t47; have a47 := L.a47; have z47 := L.z47; have v47 := L.v47
  have u42 := run_underlying L.t42
  have e30 : ∀ args w, (callFunc (ρ.f 30) args).run P w = .ok (.enter (ρ.f 30) args) w := enters_of L.f30 (by kernel_rfl) rfl
  have e42 : ∀ args w, (callFunc (ρ.f 42) args).run P w = .ok (.enter (ρ.f 42) args) w := enters_of L.f42 (by kernel_rfl) rfl
  have LR : LaysGt.n42 P ρ := { L with }
  have hSW := (SW.start hH).alloc (.cells #[.func (.func g) #[] lb, .func (.func sf) #[] sb] (ρ.t 42))
  have hD := Dat.start w (.func (.func g) #[] lb) (.func (.func sf) #[] sb) (ρ.t 42)
  have hne : blk ≠ w.heap.size := by omega
  have sub : ∀ (a' m' b' : Nat) (dk : Array α) (W : World), SW enc w blk off dk W → dk.size = d.size → b' - a' < b - a → a' < m' → m' < b' → b' ≤ d.size →
      Calls P (ρ.f 30) #[.agg #[.func (.func g) #[] lb, .func (.func sf) #[] sb], .int .i64 a', .int .i64 m', .int .i64 b'] W fun e w'' => e = .returned (.tuple #[]) ∧ ∃ d'', SW enc w blk off d'' w'' ∧ (Dat w.heap.size (.func (.func g) #[] lb) (.func (.func sf) #[] sb) W → Dat w.heap.size (.func (.func g) #[] lb) (.func (.func sf) #[] sb) w'') ∧ d''.size = d.size ∧ Merged lt a' m' b' dk d'' := fun a' m' b' dk W hS hs h1 h2 h3 h4 =>
    (ih a' m' b' dk W h1 (sw_lessGs hS (by rw [hs]; exact hless) hblk rfl) (by rw [hs]; exact hswap) (hS.holds hblk hH hs) (hS.lt hblk) h2 h3 (by omega) (by omega)).mono fun _ _ ⟨he, n, os, d'', hw, hM⟩ =>
      have hz : d''.size = dk.size := hM.1.1
      ⟨he, d'', by rw [hw]; exact hS.on hblk n d'' os hz, fun h => by rw [hw]; exact h.on enc blk off n d'' os (Ne.symm hne), hz.trans hs, hM⟩
  have rot : ∀ (s e : Nat) (W : World), SW enc w blk off d W → s < m → m < e → e ≤ d.size →
      Calls P (ρ.f 42) #[.agg #[.func (.func g) #[] lb, .func (.func sf) #[] sb], .int .i64 s, .int .i64 m, .int .i64 e] W fun e' w'' => e' = .returned (.tuple #[]) ∧ ∃ d'', SW enc w blk off d'' w'' ∧ (Dat w.heap.size (.func (.func g) #[] lb) (.func (.func sf) #[] sb) W → Dat w.heap.size (.func (.func g) #[] lb) (.func (.func sf) #[] sb) w'') ∧ d''.size = d.size ∧ Rot d s m e d'' ∧ PermIn s e d d'' := fun s e W hS h1 h2 h3 =>
    (rotate_w LR enc (.func g) #[] lb sf sb blk off s m e d W hswap (hS.holds hblk hH rfl) (hS.lt hblk) h1 h2 h3 hsz).mono fun _ _ ⟨he, n, os, d'', hw, hR, hP⟩ =>
      ⟨he, d'', by rw [hw]; exact hS.on hblk n d'' os hP.1, fun h => by rw [hw]; exact h.on enc blk off n d'' os (Ne.symm hne), hP.1, hR, hP⟩
  have h1 : ¬ (m : Int) - a = 1 := by omega
  have h2 : ((m : Int) - a == 1) = false := by simp only [beq_eq_false_iff_ne, ne_eq]; exact h1
  have h3 : ¬ (b : Int) - m = 1 := by omega
  have h4 : ((b : Int) - m == 1) = false := by simp only [beq_eq_false_iff_ne, ne_eq]; exact h3
  have h5 : (m : Int) ≤ ((a : Int) + b) / 2 := by omega
  have K : Aside ((∀ (a' m' b' : Nat) (dk : Array α) (W : World), SW enc w blk off dk W → dk.size = d.size → b' - a' < b - a → a' < m' → m' < b' → b' ≤ d.size →
      Calls P (ρ.f 30) #[.agg #[.func (.func g) #[] lb, .func (.func sf) #[] sb], .int .i64 a', .int .i64 m', .int .i64 b'] W fun e w'' => e = .returned (.tuple #[]) ∧ ∃ d'', SW enc w blk off d'' w'' ∧ (Dat w.heap.size (.func (.func g) #[] lb) (.func (.func sf) #[] sb) W → Dat w.heap.size (.func (.func g) #[] lb) (.func (.func sf) #[] sb) w'') ∧ d''.size = d.size ∧ Merged lt a' m' b' dk d'') ∧
    (∀ (s e : Nat) (W : World), SW enc w blk off d W → s < m → m < e → e ≤ d.size →
      Calls P (ρ.f 42) #[.agg #[.func (.func g) #[] lb, .func (.func sf) #[] sb], .int .i64 s, .int .i64 m, .int .i64 e] W fun e' w'' => e' = .returned (.tuple #[]) ∧ ∃ d'', SW enc w blk off d'' w'' ∧ (Dat w.heap.size (.func (.func g) #[] lb) (.func (.func sf) #[] sb) W → Dat w.heap.size (.func (.func g) #[] lb) (.func (.func sf) #[] sb) w'') ∧ d''.size = d.size ∧ Rot d s m e d'' ∧ PermIn s e d d'') ∧
    LessG P g lb enc lt blk off d.size w) := ⟨sub, rot, hless⟩
  clear sub rot ih hless hswap hH
  go_enter L.f30, BodyGt.n30_ntmps ρ
  go_wp2
  go_loopg [18, 19] (b - a) (fun k s8 s9 wr => ∃ (s r : Nat), s8 = .int .i64 s ∧ s9 = .int .i64 r ∧ a ≤ s ∧ s ≤ r ∧ r ≤ m ∧ r - s ≤ k ∧ SW enc w blk off d wr ∧ Dat w.heap.size (.func (.func g) #[] lb) (.func (.func sf) #[] sb) wr ∧
    (s = a ∨ lt d[(a + b) / 2 + m - s]! d[s - 1]! = false) ∧ (r = m ∨ lt d[(a + b) / 2 + m - 1 - r]! d[r]! = true))
  case atStart => exact ⟨a, m, by first | rfl | (congr 1; omega), by first | rfl | (congr 1; omega), by omega, by omega, by omega, by omega, hSW, hD, .inl rfl, .inl rfl⟩
  case round =>
    obtain ⟨s, r, rfl, rfl, hs0, hsr, hr0, hk, hS, hDk, he1, he2⟩ := hrel
    obtain ⟨q0, c0, c1⟩ := id hDk
    obtain ⟨sub, rot, hless⟩ := K.out
    have A : Aside (SW enc w blk off d wr ∧ Dat w.heap.size (.func (.func g) #[] lb) (.func (.func sf) #[] sb) wr ∧ (s = a ∨ lt d[(a + b) / 2 + m - s]! d[s - 1]! = false) ∧ (r = m ∨ lt d[(a + b) / 2 + m - 1 - r]! d[r]! = true)) := ⟨hS, hDk, he1, he2⟩
    by_cases hlt : s < r
    · have hl := sw_lessG hS hless rfl ((a + b) / 2 + m - 1 - (s + r) / 2) ((s + r) / 2) (by omega) (by omega)
      rw [half_cast s r, show (((a + b) / 2 + m - 1 - (s + r) / 2 : Nat) : Int) = ((a : Int) + b) / 2 + m - 1 - ((s : Int) + r) / 2 by omega] at hl
      clear hS hDk he1 he2 hSW hD hless sub rot
      cases hlv : lt d[(a + b) / 2 + m - 1 - (s + r) / 2]! d[(s + r) / 2]! with
      | false =>
        rw [hlv] at hl
        have V : Aside (lt d[(a + b) / 2 + m - 1 - (s + r) / 2]! d[(s + r) / 2]! = false) := hlv
        clear hlv
        go_wp2_with (go_at_fn g; refine hl.mono ?_; rintro e w' ⟨rfl, hG⟩)
        go_roundg (r - ((s + r) / 2 + 1))
        case measure => omega
        case rel =>
          obtain ⟨hS, hDk, he1, he2⟩ := A.out
          exact ⟨(s + r) / 2 + 1, r, by congr 1, rfl, by omega, by omega, by omega, by omega, sw_grew hS hG, hDk.grew hG, .inr (by
            rw [show (a + b) / 2 + m - ((s + r) / 2 + 1) = (a + b) / 2 + m - 1 - (s + r) / 2 by omega]
            exact V.out), he2⟩
      | true =>
        rw [hlv] at hl
        have V : Aside (lt d[(a + b) / 2 + m - 1 - (s + r) / 2]! d[(s + r) / 2]! = true) := hlv
        clear hlv
        go_wp2_with (go_at_fn g; refine hl.mono ?_; rintro e w' ⟨rfl, hG⟩)
        go_roundg ((s + r) / 2 - s)
        case measure => omega
        case rel =>
          obtain ⟨hS, hDk, he1, he2⟩ := A.out
          exact ⟨s, (s + r) / 2, rfl, by congr 1, by omega, by omega, by omega, by omega, sw_grew hS hG, hDk.grew hG, he1, .inr V.out⟩
    · have hrs : r = s := by omega
      subst hrs
      obtain ⟨e, he⟩ : ∃ e : Nat, e = (a + b) / 2 + m - r := ⟨_, rfl⟩
      obtain ⟨mid, hmid⟩ : ∃ mid : Nat, mid = (a + b) / 2 := ⟨_, rfl⟩
      have heI : (e : Int) = ((a : Int) + b) / 2 + m - r := by omega
      have hmI : (mid : Int) = ((a : Int) + b) / 2 := by omega
      have hlo : r = a ∨ e = b ∨ lt d[e]! d[r - 1]! = false := by
        rcases he1 with h | h
        · omega
        · exact .inr (.inr (by rw [he]; exact h))
      have hhi : r = m ∨ e = m ∨ lt d[e - 1]! d[r]! = true := by
        rcases he2 with h | h
        · omega
        · exact .inr (.inr (by rw [he, show (a + b) / 2 + m - r - 1 = (a + b) / 2 + m - 1 - r by omega]; exact h))
      have hfin : ∀ {d1 d2 d3 : Array α}, Rot d r m e d1 → PermIn a b d d1 → (Merged lt a r mid d1 d2 ∨ (r = a ∨ r = mid) ∧ d2 = d1) → (Merged lt mid e b d2 d3 ∨ (e = mid ∨ e = b) ∧ d3 = d2) → Merged lt a m b d d3 := fun g1 g2 g3 g4 => merged_mid hO hb g1 g2 (by omega) (by omega) hlo hhi g3 g4
      have FIN : Aside (∀ {d1 d2 d3 : Array α}, Rot d r m e d1 → PermIn a b d d1 → (Merged lt a r mid d1 d2 ∨ (r = a ∨ r = mid) ∧ d2 = d1) → (Merged lt mid e b d2 d3 ∨ (e = mid ∨ e = b) ∧ d3 = d2) → Merged lt a m b d d3) := hfin
      have E : Aside (e = (a + b) / 2 + m - r ∧ mid = (a + b) / 2 ∧ (e : Int) = ((a : Int) + b) / 2 + m - r ∧ (mid : Int) = ((a : Int) + b) / 2) := ⟨he, hmid, heI, hmI⟩
      clear hlo hhi hfin hSW hD he1 he2 hless
      by_cases c1 : r < m
      · by_cases c3 : a < r
        · by_cases c6 : e < b
          · obtain ⟨he, hmid, heI, hmI⟩ := E.out
            have hc1 := rot r e wr hS (by omega) (by omega) (by omega)
            rw [heI] at hc1
            have B0 : Aside (SW enc w blk off d wr ∧ Dat w.heap.size (.func (.func g) #[] lb) (.func (.func sf) #[] sb) wr) := ⟨hS, hDk⟩
            clear hS hDk rot sub he hmid heI hmI
            go_wp2_with (go_at_fn (ρ.f 42); refine hc1.mono ?_; rintro x1 w1 ⟨rfl, d1, hS1, hT1, hz1, hR, hQ⟩; have hD1 := hT1 (B0.out).2; have B1 : Aside (SW enc w blk off d1 w1 ∧ Dat w.heap.size (.func (.func g) #[] lb) (.func (.func sf) #[] sb) w1) := ⟨hS1, hD1⟩; obtain ⟨q1, k1, l1⟩ := hD1; clear hS1 hT1 hc1; have M1 : Aside (Rot d r m e d1 ∧ PermIn r e d d1 ∧ d1.size = d.size) := ⟨hR, hQ, hz1⟩; clear hR hQ; have hc2 := (K.out).1 a r mid d1 w1 (B1.out).1 hz1 (by have := E.out; omega) (by omega) (by have := E.out; omega) (by have := E.out; omega); rw [(E.out).2.2.2] at hc2; clear hz1)
            go_wp2_with (go_at_fn (ρ.f 30); refine hc2.mono ?_; rintro x2 w2 ⟨rfl, d2, hS2, hT2, hz2, hM2⟩; have hD2 := hT2 (B1.out).2; have B2 : Aside (SW enc w blk off d2 w2 ∧ Dat w.heap.size (.func (.func g) #[] lb) (.func (.func sf) #[] sb) w2) := ⟨hS2, hD2⟩; obtain ⟨q2, k2, l2⟩ := hD2; clear hS2 hT2 hc2; have M2 : Aside (Merged lt a r mid d1 d2 ∧ d2.size = d.size) := ⟨hM2, hz2⟩; clear hM2; have hc3 := (K.out).1 mid e b d2 w2 (B2.out).1 hz2 (by have := E.out; omega) (by have := E.out; omega) (by have := E.out; omega) (by omega); rw [(E.out).2.2.2, (E.out).2.2.1] at hc3; clear hz2)
            go_wp2_with (go_at_fn (ρ.f 30); refine hc3.mono ?_; rintro x3 w3 ⟨rfl, d3, hS3, hT3, hz3, hM3⟩; have hD3 := hT3 (B2.out).2; have B3 : Aside (SW enc w blk off d3 w3 ∧ Dat w.heap.size (.func (.func g) #[] lb) (.func (.func sf) #[] sb) w3) := ⟨hS3, hD3⟩; obtain ⟨q3, k3, l3⟩ := hD3; clear hS3 hT3 hc3; have M3 : Aside (Merged lt mid e b d2 d3 ∧ d3.size = d.size) := ⟨hM3, hz3⟩; clear hM3; clear hz3)
            go_end0
            obtain ⟨he, hmid, heI, hmI⟩ := E.out
            obtain ⟨n, os, e'⟩ := (B3.out).1
            exact ⟨rfl, n, os, d3, e', FIN.out (M1.out).1 (permIn_mono _ _ _ _ _ _ (by omega) (by omega) (by omega) (M1.out).2.1) (.inl (M2.out).1) (.inl (M3.out).1)⟩
          · exfalso; omega
        · by_cases c6 : e < b
          · obtain ⟨he, hmid, heI, hmI⟩ := E.out
            have hc1 := rot r e wr hS (by omega) (by omega) (by omega)
            rw [heI] at hc1
            have B0 : Aside (SW enc w blk off d wr ∧ Dat w.heap.size (.func (.func g) #[] lb) (.func (.func sf) #[] sb) wr) := ⟨hS, hDk⟩
            clear hS hDk rot sub he hmid heI hmI
            go_wp2_with (go_at_fn (ρ.f 42); refine hc1.mono ?_; rintro x1 w1 ⟨rfl, d1, hS1, hT1, hz1, hR, hQ⟩; have hD1 := hT1 (B0.out).2; have B1 : Aside (SW enc w blk off d1 w1 ∧ Dat w.heap.size (.func (.func g) #[] lb) (.func (.func sf) #[] sb) w1) := ⟨hS1, hD1⟩; obtain ⟨q1, k1, l1⟩ := hD1; clear hS1 hT1 hc1; have M1 : Aside (Rot d r m e d1 ∧ PermIn r e d d1 ∧ d1.size = d.size) := ⟨hR, hQ, hz1⟩; clear hR hQ; have hc2 := (K.out).1 mid e b d1 w1 (B1.out).1 hz1 (by have := E.out; omega) (by have := E.out; omega) (by have := E.out; omega) (by omega); rw [(E.out).2.2.2, (E.out).2.2.1] at hc2; clear hz1)
            go_wp2_with (go_at_fn (ρ.f 30); refine hc2.mono ?_; rintro x2 w2 ⟨rfl, d2, hS2, hT2, hz2, hM2⟩; have hD2 := hT2 (B1.out).2; have B2 : Aside (SW enc w blk off d2 w2 ∧ Dat w.heap.size (.func (.func g) #[] lb) (.func (.func sf) #[] sb) w2) := ⟨hS2, hD2⟩; obtain ⟨q2, k2, l2⟩ := hD2; clear hS2 hT2 hc2; have M2 : Aside (Merged lt mid e b d1 d2 ∧ d2.size = d.size) := ⟨hM2, hz2⟩; clear hM2; clear hz2)
            go_end0
            obtain ⟨he, hmid, heI, hmI⟩ := E.out
            obtain ⟨n, os, e'⟩ := (B2.out).1
            exact ⟨rfl, n, os, d2, e', FIN.out (M1.out).1 (permIn_mono _ _ _ _ _ _ (by omega) (by omega) (by omega) (M1.out).2.1) (.inr ⟨by omega, rfl⟩) (.inl (M2.out).1)⟩
          · obtain ⟨he, hmid, heI, hmI⟩ := E.out
            have hc1 := rot r e wr hS (by omega) (by omega) (by omega)
            rw [heI] at hc1
            have B0 : Aside (SW enc w blk off d wr ∧ Dat w.heap.size (.func (.func g) #[] lb) (.func (.func sf) #[] sb) wr) := ⟨hS, hDk⟩
            clear hS hDk rot sub he hmid heI hmI
            go_wp2_with (go_at_fn (ρ.f 42); refine hc1.mono ?_; rintro x1 w1 ⟨rfl, d1, hS1, hT1, hz1, hR, hQ⟩; have hD1 := hT1 (B0.out).2; have B1 : Aside (SW enc w blk off d1 w1 ∧ Dat w.heap.size (.func (.func g) #[] lb) (.func (.func sf) #[] sb) w1) := ⟨hS1, hD1⟩; obtain ⟨q1, k1, l1⟩ := hD1; clear hS1 hT1 hc1; have M1 : Aside (Rot d r m e d1 ∧ PermIn r e d d1 ∧ d1.size = d.size) := ⟨hR, hQ, hz1⟩; clear hR hQ; clear hz1)
            go_end0
            obtain ⟨he, hmid, heI, hmI⟩ := E.out
            obtain ⟨n, os, e'⟩ := (B1.out).1
            exact ⟨rfl, n, os, d1, e', FIN.out (M1.out).1 (permIn_mono _ _ _ _ _ _ (by omega) (by omega) (by omega) (M1.out).2.1) (.inr ⟨by omega, rfl⟩) (.inr ⟨by omega, rfl⟩)⟩
      · by_cases c4 : r < mid
        · obtain ⟨he, hmid, heI, hmI⟩ := E.out
          have hc1 := sub a r mid d wr hS rfl (by omega) (by omega) (by omega) (by omega)
          rw [hmI] at hc1
          have B0 : Aside (SW enc w blk off d wr ∧ Dat w.heap.size (.func (.func g) #[] lb) (.func (.func sf) #[] sb) wr) := ⟨hS, hDk⟩
          clear hS hDk rot sub he hmid heI hmI
          go_wp2_with (go_at_fn (ρ.f 30); refine hc1.mono ?_; rintro x1 w1 ⟨rfl, d1, hS1, hT1, hz1, hM1⟩; have hD1 := hT1 (B0.out).2; have B1 : Aside (SW enc w blk off d1 w1 ∧ Dat w.heap.size (.func (.func g) #[] lb) (.func (.func sf) #[] sb) w1) := ⟨hS1, hD1⟩; obtain ⟨q1, k1, l1⟩ := hD1; clear hS1 hT1 hc1; have M1 : Aside (Merged lt a r mid d d1 ∧ d1.size = d.size) := ⟨hM1, hz1⟩; clear hM1; clear hz1)
          go_end0
          obtain ⟨he, hmid, heI, hmI⟩ := E.out
          obtain ⟨n, os, e'⟩ := (B1.out).1
          exact ⟨rfl, n, os, d1, e', FIN.out (Rot.none (by omega) (by omega)) (permIn_refl _ _ _) (.inl (M1.out).1) (.inr ⟨by omega, rfl⟩)⟩
        · obtain ⟨he, hmid, heI, hmI⟩ := E.out
          have B0 : Aside (SW enc w blk off d wr ∧ Dat w.heap.size (.func (.func g) #[] lb) (.func (.func sf) #[] sb) wr) := ⟨hS, hDk⟩
          clear hS hDk rot sub he hmid heI hmI
          go_wp2
          go_end0
          obtain ⟨he, hmid, heI, hmI⟩ := E.out
          obtain ⟨n, os, e'⟩ := (B0.out).1
          exact ⟨rfl, n, os, d, e', FIN.out (Rot.none (by omega) (by omega)) (permIn_refl _ _ _) (.inr ⟨by omega, rfl⟩) (.inr ⟨by omega, rfl⟩)⟩

set_option maxHeartbeats 6400000 in
set_option maxRecDepth 1000000 in
theorem sym_midB (L : LaysGt.n30 P ρ) (enc : α → Value) (lt : α → α → Bool) (hO : SWO lt) (g : Nat) (lb : Array Value) (sf : Nat) (sb : Array Value) (blk off : Nat)
    (eg : ∀ args w, (callFunc g args).run P w = .ok (.enter g args) w) (a m b : Nat) (d : Array α) (w : World) (hless : LessG P g lb enc lt blk off d.size w) (hswap : SwapSwaps P sf sb enc blk off d.size)
    (hH : Holds enc w blk off d) (hblk : blk < w.heap.size) (ham : a + 1 < m) (hmb : m + 1 < b) (hb : b ≤ d.size) (hsz : d.size < 4611686018427387904) (hcase : (a + b) / 2 < m)
    (ih : ∀ (a' m' b' : Nat) (d' : Array α) (w' : World), b' - a' < b - a → LessG P g lb enc lt blk off d'.size w' → SwapSwaps P sf sb enc blk off d'.size → Holds enc w' blk off d' → blk < w'.heap.size → a' < m' → m' < b' → b' ≤ d'.size → d'.size < 4611686018427387904 →
      Calls P (ρ.f 30) #[.agg #[.func (.func g) #[] lb, .func (.func sf) #[] sb], .int .i64 a', .int .i64 m', .int .i64 b'] w' fun e w'' => e = .returned (.tuple #[]) ∧ ∃ n os d'', w'' = sortWorld enc w' blk off n d'' os ∧ Merged lt a' m' b' d' d'') :
    Calls P (ρ.f 30) #[.agg #[.func (.func g) #[] lb, .func (.func sf) #[] sb], .int .i64 a, .int .i64 m, .int .i64 b] w fun e w' => e = .returned (.tuple #[]) ∧ ∃ n os d', w' = sortWorld enc w blk off n d' os ∧ Merged lt a m b d d' := by
  have mixed := L.mixed; have t0 := L.t0; have a0 := L.a0; have z0 := L.z0; have v0 := L.v0; have t3 := L.t3; have a3 := L.a3; have z3 := L.z3; have v3 := L.v3; have t4 := L.t4; have a4 := L.a4; have z4 := L.z4; have v4 := L.v4; have t26 := L.t26; have a26 := L.a26; have z26 := L.z26; have v26 := L.v26; have t38 := L.t38; have a38 := L.a38; have z38 := L.z38; have v38 := L.v38; have t42 := L.t42; have a42 := L.a42; have z42 := L.z42; have v42 := L.v42; have t47 := L.t47; have a47 := L.a47; have z47 := L.z47; have v47 := L.v47
  have u42 := run_underlying L.t42
  have e30 : ∀ args w, (callFunc (ρ.f 30) args).run P w = .ok (.enter (ρ.f 30) args) w := enters_of L.f30 (by kernel_rfl) rfl
  have e42 : ∀ args w, (callFunc (ρ.f 42) args).run P w = .ok (.enter (ρ.f 42) args) w := enters_of L.f42 (by kernel_rfl) rfl
  have LR : LaysGt.n42 P ρ := { L with }
  have hSW := (SW.start hH).alloc (.cells #[.func (.func g) #[] lb, .func (.func sf) #[] sb] (ρ.t 42))
  have hD := Dat.start w (.func (.func g) #[] lb) (.func (.func sf) #[] sb) (ρ.t 42)
  have hne : blk ≠ w.heap.size := by omega
  have sub : ∀ (a' m' b' : Nat) (dk : Array α) (W : World), SW enc w blk off dk W → dk.size = d.size → b' - a' < b - a → a' < m' → m' < b' → b' ≤ d.size →
      Calls P (ρ.f 30) #[.agg #[.func (.func g) #[] lb, .func (.func sf) #[] sb], .int .i64 a', .int .i64 m', .int .i64 b'] W fun e w'' => e = .returned (.tuple #[]) ∧ ∃ d'', SW enc w blk off d'' w'' ∧ (Dat w.heap.size (.func (.func g) #[] lb) (.func (.func sf) #[] sb) W → Dat w.heap.size (.func (.func g) #[] lb) (.func (.func sf) #[] sb) w'') ∧ d''.size = d.size ∧ Merged lt a' m' b' dk d'' := fun a' m' b' dk W hS hs h1 h2 h3 h4 =>
    (ih a' m' b' dk W h1 (sw_lessGs hS (by rw [hs]; exact hless) hblk rfl) (by rw [hs]; exact hswap) (hS.holds hblk hH hs) (hS.lt hblk) h2 h3 (by omega) (by omega)).mono fun _ _ ⟨he, n, os, d'', hw, hM⟩ =>
      have hz : d''.size = dk.size := hM.1.1
      ⟨he, d'', by rw [hw]; exact hS.on hblk n d'' os hz, fun h => by rw [hw]; exact h.on enc blk off n d'' os (Ne.symm hne), hz.trans hs, hM⟩
  have rot : ∀ (s e : Nat) (W : World), SW enc w blk off d W → s < m → m < e → e ≤ d.size →
      Calls P (ρ.f 42) #[.agg #[.func (.func g) #[] lb, .func (.func sf) #[] sb], .int .i64 s, .int .i64 m, .int .i64 e] W fun e' w'' => e' = .returned (.tuple #[]) ∧ ∃ d'', SW enc w blk off d'' w'' ∧ (Dat w.heap.size (.func (.func g) #[] lb) (.func (.func sf) #[] sb) W → Dat w.heap.size (.func (.func g) #[] lb) (.func (.func sf) #[] sb) w'') ∧ d''.size = d.size ∧ Rot d s m e d'' ∧ PermIn s e d d'' := fun s e W hS h1 h2 h3 =>
    (rotate_w LR enc (.func g) #[] lb sf sb blk off s m e d W hswap (hS.holds hblk hH rfl) (hS.lt hblk) h1 h2 h3 hsz).mono fun _ _ ⟨he, n, os, d'', hw, hR, hP⟩ =>
      ⟨he, d'', by rw [hw]; exact hS.on hblk n d'' os hP.1, fun h => by rw [hw]; exact h.on enc blk off n d'' os (Ne.symm hne), hP.1, hR, hP⟩
  have h1 : ¬ (m : Int) - a = 1 := by omega
  have h2 : ((m : Int) - a == 1) = false := by simp only [beq_eq_false_iff_ne, ne_eq]; exact h1
  have h3 : ¬ (b : Int) - m = 1 := by omega
  have h4 : ((b : Int) - m == 1) = false := by simp only [beq_eq_false_iff_ne, ne_eq]; exact h3
  have h5 : ((a : Int) + b) / 2 < m := by omega
  have h6 : decide (((a : Int) + b) / 2 < (m : Int)) = true := decide_eq_true h5
  have h7 : decide ((m : Int) > ((a : Int) + b) / 2) = true := decide_eq_true h5
  have K : Aside ((∀ (a' m' b' : Nat) (dk : Array α) (W : World), SW enc w blk off dk W → dk.size = d.size → b' - a' < b - a → a' < m' → m' < b' → b' ≤ d.size →
      Calls P (ρ.f 30) #[.agg #[.func (.func g) #[] lb, .func (.func sf) #[] sb], .int .i64 a', .int .i64 m', .int .i64 b'] W fun e w'' => e = .returned (.tuple #[]) ∧ ∃ d'', SW enc w blk off d'' w'' ∧ (Dat w.heap.size (.func (.func g) #[] lb) (.func (.func sf) #[] sb) W → Dat w.heap.size (.func (.func g) #[] lb) (.func (.func sf) #[] sb) w'') ∧ d''.size = d.size ∧ Merged lt a' m' b' dk d'') ∧
    (∀ (s e : Nat) (W : World), SW enc w blk off d W → s < m → m < e → e ≤ d.size →
      Calls P (ρ.f 42) #[.agg #[.func (.func g) #[] lb, .func (.func sf) #[] sb], .int .i64 s, .int .i64 m, .int .i64 e] W fun e' w'' => e' = .returned (.tuple #[]) ∧ ∃ d'', SW enc w blk off d'' w'' ∧ (Dat w.heap.size (.func (.func g) #[] lb) (.func (.func sf) #[] sb) W → Dat w.heap.size (.func (.func g) #[] lb) (.func (.func sf) #[] sb) w'') ∧ d''.size = d.size ∧ Rot d s m e d'' ∧ PermIn s e d d'') ∧
    LessG P g lb enc lt blk off d.size w) := ⟨sub, rot, hless⟩
  clear sub rot ih hless hswap hH
  go_enter L.f30, BodyGt.n30_ntmps ρ
  go_wp2
  go_loopg [18, 19] (b - a) (fun k s8 s9 wr => ∃ (s r : Nat), s8 = .int .i64 s ∧ s9 = .int .i64 r ∧ (a + b) / 2 + m - b ≤ s ∧ s ≤ r ∧ r ≤ (a + b) / 2 ∧ r - s ≤ k ∧ SW enc w blk off d wr ∧ Dat w.heap.size (.func (.func g) #[] lb) (.func (.func sf) #[] sb) wr ∧
    (s = (a + b) / 2 + m - b ∨ lt d[(a + b) / 2 + m - s]! d[s - 1]! = false) ∧ (r = (a + b) / 2 ∨ lt d[(a + b) / 2 + m - 1 - r]! d[r]! = true))
  case atStart => exact ⟨(a + b) / 2 + m - b, (a + b) / 2, by first | rfl | (congr 1; omega), by first | rfl | (congr 1; omega), by omega, by omega, by omega, by omega, hSW, hD, .inl rfl, .inl rfl⟩
  case round =>
    obtain ⟨s, r, rfl, rfl, hs0, hsr, hr0, hk, hS, hDk, he1, he2⟩ := hrel
    obtain ⟨q0, c0, c1⟩ := id hDk
    obtain ⟨sub, rot, hless⟩ := K.out
    have A : Aside (SW enc w blk off d wr ∧ Dat w.heap.size (.func (.func g) #[] lb) (.func (.func sf) #[] sb) wr ∧ (s = (a + b) / 2 + m - b ∨ lt d[(a + b) / 2 + m - s]! d[s - 1]! = false) ∧ (r = (a + b) / 2 ∨ lt d[(a + b) / 2 + m - 1 - r]! d[r]! = true)) := ⟨hS, hDk, he1, he2⟩
    by_cases hlt : s < r
    · have hl := sw_lessG hS hless rfl ((a + b) / 2 + m - 1 - (s + r) / 2) ((s + r) / 2) (by omega) (by omega)
      rw [half_cast s r, show (((a + b) / 2 + m - 1 - (s + r) / 2 : Nat) : Int) = ((a : Int) + b) / 2 + m - 1 - ((s : Int) + r) / 2 by omega] at hl
      clear hS hDk he1 he2 hSW hD hless sub rot
      cases hlv : lt d[(a + b) / 2 + m - 1 - (s + r) / 2]! d[(s + r) / 2]! with
      | false =>
        rw [hlv] at hl
        have V : Aside (lt d[(a + b) / 2 + m - 1 - (s + r) / 2]! d[(s + r) / 2]! = false) := hlv
        clear hlv
        go_wp2_with (go_at_fn g; refine hl.mono ?_; rintro e w' ⟨rfl, hG⟩)
        go_roundg (r - ((s + r) / 2 + 1))
        case measure => omega
        case rel =>
          obtain ⟨hS, hDk, he1, he2⟩ := A.out
          exact ⟨(s + r) / 2 + 1, r, by congr 1, rfl, by omega, by omega, by omega, by omega, sw_grew hS hG, hDk.grew hG, .inr (by
            rw [show (a + b) / 2 + m - ((s + r) / 2 + 1) = (a + b) / 2 + m - 1 - (s + r) / 2 by omega]
            exact V.out), he2⟩
      | true =>
        rw [hlv] at hl
        have V : Aside (lt d[(a + b) / 2 + m - 1 - (s + r) / 2]! d[(s + r) / 2]! = true) := hlv
        clear hlv
        go_wp2_with (go_at_fn g; refine hl.mono ?_; rintro e w' ⟨rfl, hG⟩)
        go_roundg ((s + r) / 2 - s)
        case measure => omega
        case rel =>
          obtain ⟨hS, hDk, he1, he2⟩ := A.out
          exact ⟨s, (s + r) / 2, rfl, by congr 1, by omega, by omega, by omega, by omega, sw_grew hS hG, hDk.grew hG, he1, .inr V.out⟩
    · have hrs : r = s := by omega
      subst hrs
      obtain ⟨e, he⟩ : ∃ e : Nat, e = (a + b) / 2 + m - r := ⟨_, rfl⟩
      obtain ⟨mid, hmid⟩ : ∃ mid : Nat, mid = (a + b) / 2 := ⟨_, rfl⟩
      have heI : (e : Int) = ((a : Int) + b) / 2 + m - r := by omega
      have hmI : (mid : Int) = ((a : Int) + b) / 2 := by omega
      have hlo : r = a ∨ e = b ∨ lt d[e]! d[r - 1]! = false := by
        rcases he1 with h | h
        · omega
        · exact .inr (.inr (by rw [he]; exact h))
      have hhi : r = m ∨ e = m ∨ lt d[e - 1]! d[r]! = true := by
        rcases he2 with h | h
        · omega
        · exact .inr (.inr (by rw [he, show (a + b) / 2 + m - r - 1 = (a + b) / 2 + m - 1 - r by omega]; exact h))
      have hfin : ∀ {d1 d2 d3 : Array α}, Rot d r m e d1 → PermIn a b d d1 → (Merged lt a r mid d1 d2 ∨ (r = a ∨ r = mid) ∧ d2 = d1) → (Merged lt mid e b d2 d3 ∨ (e = mid ∨ e = b) ∧ d3 = d2) → Merged lt a m b d d3 := fun g1 g2 g3 g4 => merged_mid hO hb g1 g2 (by omega) (by omega) hlo hhi g3 g4
      have FIN : Aside (∀ {d1 d2 d3 : Array α}, Rot d r m e d1 → PermIn a b d d1 → (Merged lt a r mid d1 d2 ∨ (r = a ∨ r = mid) ∧ d2 = d1) → (Merged lt mid e b d2 d3 ∨ (e = mid ∨ e = b) ∧ d3 = d2) → Merged lt a m b d d3) := hfin
      have E : Aside (e = (a + b) / 2 + m - r ∧ mid = (a + b) / 2 ∧ (e : Int) = ((a : Int) + b) / 2 + m - r ∧ (mid : Int) = ((a : Int) + b) / 2) := ⟨he, hmid, heI, hmI⟩
      clear hlo hhi hfin hSW hD he1 he2 hless
      by_cases c2 : m < e
      · by_cases c3 : a < r
        · by_cases c6 : e < b
          · obtain ⟨he, hmid, heI, hmI⟩ := E.out
            have hc1 := rot r e wr hS (by omega) (by omega) (by omega)
            rw [heI] at hc1
            have B0 : Aside (SW enc w blk off d wr ∧ Dat w.heap.size (.func (.func g) #[] lb) (.func (.func sf) #[] sb) wr) := ⟨hS, hDk⟩
            clear hS hDk rot sub he hmid heI hmI
            go_wp2_with (go_at_fn (ρ.f 42); refine hc1.mono ?_; rintro x1 w1 ⟨rfl, d1, hS1, hT1, hz1, hR, hQ⟩; have hD1 := hT1 (B0.out).2; have B1 : Aside (SW enc w blk off d1 w1 ∧ Dat w.heap.size (.func (.func g) #[] lb) (.func (.func sf) #[] sb) w1) := ⟨hS1, hD1⟩; obtain ⟨q1, k1, l1⟩ := hD1; clear hS1 hT1 hc1; have M1 : Aside (Rot d r m e d1 ∧ PermIn r e d d1 ∧ d1.size = d.size) := ⟨hR, hQ, hz1⟩; clear hR hQ; have hc2 := (K.out).1 a r mid d1 w1 (B1.out).1 hz1 (by have := E.out; omega) (by omega) (by have := E.out; omega) (by have := E.out; omega); rw [(E.out).2.2.2] at hc2; clear hz1)
            go_wp2_with (go_at_fn (ρ.f 30); refine hc2.mono ?_; rintro x2 w2 ⟨rfl, d2, hS2, hT2, hz2, hM2⟩; have hD2 := hT2 (B1.out).2; have B2 : Aside (SW enc w blk off d2 w2 ∧ Dat w.heap.size (.func (.func g) #[] lb) (.func (.func sf) #[] sb) w2) := ⟨hS2, hD2⟩; obtain ⟨q2, k2, l2⟩ := hD2; clear hS2 hT2 hc2; have M2 : Aside (Merged lt a r mid d1 d2 ∧ d2.size = d.size) := ⟨hM2, hz2⟩; clear hM2; have hc3 := (K.out).1 mid e b d2 w2 (B2.out).1 hz2 (by have := E.out; omega) (by have := E.out; omega) (by have := E.out; omega) (by omega); rw [(E.out).2.2.2, (E.out).2.2.1] at hc3; clear hz2)
            go_wp2_with (go_at_fn (ρ.f 30); refine hc3.mono ?_; rintro x3 w3 ⟨rfl, d3, hS3, hT3, hz3, hM3⟩; have hD3 := hT3 (B2.out).2; have B3 : Aside (SW enc w blk off d3 w3 ∧ Dat w.heap.size (.func (.func g) #[] lb) (.func (.func sf) #[] sb) w3) := ⟨hS3, hD3⟩; obtain ⟨q3, k3, l3⟩ := hD3; clear hS3 hT3 hc3; have M3 : Aside (Merged lt mid e b d2 d3 ∧ d3.size = d.size) := ⟨hM3, hz3⟩; clear hM3; clear hz3)
            go_end0
            obtain ⟨he, hmid, heI, hmI⟩ := E.out
            obtain ⟨n, os, e'⟩ := (B3.out).1
            exact ⟨rfl, n, os, d3, e', FIN.out (M1.out).1 (permIn_mono _ _ _ _ _ _ (by omega) (by omega) (by omega) (M1.out).2.1) (.inl (M2.out).1) (.inl (M3.out).1)⟩
          · obtain ⟨he, hmid, heI, hmI⟩ := E.out
            have hc1 := rot r e wr hS (by omega) (by omega) (by omega)
            rw [heI] at hc1
            have B0 : Aside (SW enc w blk off d wr ∧ Dat w.heap.size (.func (.func g) #[] lb) (.func (.func sf) #[] sb) wr) := ⟨hS, hDk⟩
            clear hS hDk rot sub he hmid heI hmI
            go_wp2_with (go_at_fn (ρ.f 42); refine hc1.mono ?_; rintro x1 w1 ⟨rfl, d1, hS1, hT1, hz1, hR, hQ⟩; have hD1 := hT1 (B0.out).2; have B1 : Aside (SW enc w blk off d1 w1 ∧ Dat w.heap.size (.func (.func g) #[] lb) (.func (.func sf) #[] sb) w1) := ⟨hS1, hD1⟩; obtain ⟨q1, k1, l1⟩ := hD1; clear hS1 hT1 hc1; have M1 : Aside (Rot d r m e d1 ∧ PermIn r e d d1 ∧ d1.size = d.size) := ⟨hR, hQ, hz1⟩; clear hR hQ; have hc2 := (K.out).1 a r mid d1 w1 (B1.out).1 hz1 (by have := E.out; omega) (by omega) (by have := E.out; omega) (by have := E.out; omega); rw [(E.out).2.2.2] at hc2; clear hz1)
            go_wp2_with (go_at_fn (ρ.f 30); refine hc2.mono ?_; rintro x2 w2 ⟨rfl, d2, hS2, hT2, hz2, hM2⟩; have hD2 := hT2 (B1.out).2; have B2 : Aside (SW enc w blk off d2 w2 ∧ Dat w.heap.size (.func (.func g) #[] lb) (.func (.func sf) #[] sb) w2) := ⟨hS2, hD2⟩; obtain ⟨q2, k2, l2⟩ := hD2; clear hS2 hT2 hc2; have M2 : Aside (Merged lt a r mid d1 d2 ∧ d2.size = d.size) := ⟨hM2, hz2⟩; clear hM2; clear hz2)
            go_end0
            obtain ⟨he, hmid, heI, hmI⟩ := E.out
            obtain ⟨n, os, e'⟩ := (B2.out).1
            exact ⟨rfl, n, os, d2, e', FIN.out (M1.out).1 (permIn_mono _ _ _ _ _ _ (by omega) (by omega) (by omega) (M1.out).2.1) (.inl (M2.out).1) (.inr ⟨by omega, rfl⟩)⟩
        · by_cases c6 : e < b
          · exfalso; omega
          · obtain ⟨he, hmid, heI, hmI⟩ := E.out
            have hc1 := rot r e wr hS (by omega) (by omega) (by omega)
            rw [heI] at hc1
            have B0 : Aside (SW enc w blk off d wr ∧ Dat w.heap.size (.func (.func g) #[] lb) (.func (.func sf) #[] sb) wr) := ⟨hS, hDk⟩
            clear hS hDk rot sub he hmid heI hmI
            go_wp2_with (go_at_fn (ρ.f 42); refine hc1.mono ?_; rintro x1 w1 ⟨rfl, d1, hS1, hT1, hz1, hR, hQ⟩; have hD1 := hT1 (B0.out).2; have B1 : Aside (SW enc w blk off d1 w1 ∧ Dat w.heap.size (.func (.func g) #[] lb) (.func (.func sf) #[] sb) w1) := ⟨hS1, hD1⟩; obtain ⟨q1, k1, l1⟩ := hD1; clear hS1 hT1 hc1; have M1 : Aside (Rot d r m e d1 ∧ PermIn r e d d1 ∧ d1.size = d.size) := ⟨hR, hQ, hz1⟩; clear hR hQ; clear hz1)
            go_end0
            obtain ⟨he, hmid, heI, hmI⟩ := E.out
            obtain ⟨n, os, e'⟩ := (B1.out).1
            exact ⟨rfl, n, os, d1, e', FIN.out (M1.out).1 (permIn_mono _ _ _ _ _ _ (by omega) (by omega) (by omega) (M1.out).2.1) (.inr ⟨by omega, rfl⟩) (.inr ⟨by omega, rfl⟩)⟩
      · obtain ⟨he, hmid, heI, hmI⟩ := E.out
        have hc1 := sub mid e b d wr hS rfl (by omega) (by omega) (by omega) (by omega)
        rw [hmI, heI] at hc1
        have B0 : Aside (SW enc w blk off d wr ∧ Dat w.heap.size (.func (.func g) #[] lb) (.func (.func sf) #[] sb) wr) := ⟨hS, hDk⟩
        clear hS hDk rot sub he hmid heI hmI
        go_wp2_with (go_at_fn (ρ.f 30); refine hc1.mono ?_; rintro x1 w1 ⟨rfl, d1, hS1, hT1, hz1, hM1⟩; have hD1 := hT1 (B0.out).2; have B1 : Aside (SW enc w blk off d1 w1 ∧ Dat w.heap.size (.func (.func g) #[] lb) (.func (.func sf) #[] sb) w1) := ⟨hS1, hD1⟩; obtain ⟨q1, k1, l1⟩ := hD1; clear hS1 hT1 hc1; have M1 : Aside (Merged lt mid e b d d1 ∧ d1.size = d.size) := ⟨hM1, hz1⟩; clear hM1; clear hz1)
        go_end0
        obtain ⟨he, hmid, heI, hmI⟩ := E.out
        obtain ⟨n, os, e'⟩ := (B1.out).1
        exact ⟨rfl, n, os, d1, e', FIN.out (Rot.none (by omega) (by omega)) (permIn_refl _ _ _) (.inr ⟨by omega, rfl⟩) (.inl (M1.out).1)⟩

theorem symMerge_w (L : LaysGt.n30 P ρ) (enc : α → Value) (lt : α → α → Bool) (hO : SWO lt) (g : Nat) (lb : Array Value) (sf : Nat) (sb : Array Value) (blk off : Nat)
    (eg : ∀ args w, (callFunc g args).run P w = .ok (.enter g args) w) : ∀ (N a m b : Nat) (d : Array α) (w : World), b - a ≤ N → LessG P g lb enc lt blk off d.size w → SwapSwaps P sf sb enc blk off d.size →
    Holds enc w blk off d → blk < w.heap.size → a < m → m < b → b ≤ d.size → d.size < 4611686018427387904 →
    Calls P (ρ.f 30) #[.agg #[.func (.func g) #[] lb, .func (.func sf) #[] sb], .int .i64 a, .int .i64 m, .int .i64 b] w fun e w' => e = .returned (.tuple #[]) ∧ ∃ n os d', w' = sortWorld enc w blk off n d' os ∧ Merged lt a m b d d'
  | 0, a, m, b, d, w, hN, _, _, _, _, ham, hmb, _, _ => absurd hN (by omega)
  | N + 1, a, m, b, d, w, hN, hless, hswap, hH, hblk, ham, hmb, hb, hsz => by
    by_cases h1 : m = a + 1
    · exact sym_first L enc lt hO g lb sf sb blk off eg a m b d w hless hswap hH hblk ham hmb hb hsz h1
    · by_cases h2 : b = m + 1
      · exact sym_last L enc lt hO g lb sf sb blk off eg a m b d w hless hswap hH hblk ham hmb hb hsz h1 h2
      · have ih := fun (a' m' b' : Nat) (d' : Array α) (w' : World) (hlt : b' - a' < b - a) => symMerge_w L enc lt hO g lb sf sb blk off eg N a' m' b' d' w' (by omega)
        by_cases h3 : (a + b) / 2 < m
        · exact sym_midB L enc lt hO g lb sf sb blk off eg a m b d w hless hswap hH hblk (by omega) (by omega) hb hsz h3 ih
        · exact sym_midA L enc lt hO g lb sf sb blk off eg a m b d w hless hswap hH hblk (by omega) (by omega) hb hsz (by omega) ih
#print axioms symMerge_w
end Go.Proofs.Ytgcoidbaoigkeaa.stab
set_option linter.unusedVariables false
set_option linter.unusedSimpArgs false
namespace Go.Proofs.Ytgcoidbaoigkeaa.stab
open Go.Shelf Go.RowKit Go.Lib Go.Sort
variable {P : Program} {ρ : Ren} {α : Type} [Inhabited α]

theorem ins_start {lt : α → α → Bool} {a i : Nat} {d : Array α} (h : SortedIn lt a i d) : Ins lt a i i d :=
  ⟨fun p q h1 h2 h3 h4 h5 => h p q h1 h2 (by omega), fun q h1 h2 => by omega⟩

set_option maxHeartbeats 3200000 in
set_option maxRecDepth 1000000 in
theorem ins_w (L : LaysGt.n29 P ρ) (enc : α → Value) (lt : α → α → Bool) (hO : SWO lt) (g : Nat) (lb : Array Value) (sf : Nat) (sb : Array Value) (blk off : Nat)
    (eg : ∀ args w, (callFunc g args).run P w = .ok (.enter g args) w) (a b : Nat) (d : Array α) (w : World) (hless : LessG P g lb enc lt blk off d.size w) (hswap : SwapSwaps P sf sb enc blk off d.size)
    (hH : Holds enc w blk off d) (hblk : blk < w.heap.size) (hab : a ≤ b) (hb : b ≤ d.size) (hsz : d.size < 4611686018427387904) :
    Calls P (ρ.f 29) #[.agg #[.func (.func g) #[] lb, .func (.func sf) #[] sb], .int .i64 a, .int .i64 b] w fun e w' => e = .returned (.tuple #[]) ∧ ∃ n os d', w' = sortWorld enc w blk off n d' os ∧ PermIn a b d d' ∧ SortedIn lt a b d' := by
  have mixed := L.mixed; have t0 := L.t0; have a0 := L.a0; have z0 := L.z0; have v0 := L.v0; have t3 := L.t3; have a3 := L.a3; have z3 := L.z3; have v3 := L.v3; have t4 := L.t4; have a4 := L.a4; have z4 := L.z4; have v4 := L.v4; have t26 := L.t26; have a26 := L.a26; have z26 := L.z26; have v26 := L.v26; have t38 := L.t38; have a38 := L.a38; have z38 := L.z38; have v38 := L.v38; have t42 := L.t42; have a42 := L.a42; have z42 := L.z42; have v42 := L.v42
  have u42 := run_underlying L.t42
  have hSW := (SW.start hH).alloc (.cells #[.func (.func g) #[] lb, .func (.func sf) #[] sb] (ρ.t 42))
  have hD := Dat.start w (.func (.func g) #[] lb) (.func (.func sf) #[] sb) (ρ.t 42)
  have hne : blk ≠ w.heap.size := by omega
  go_enter L.f29, BodyGt.n29_ntmps ρ
  go_wp2
  go_loopg [6] (b + 1) (fun k s6 wr => ∃ (i : Nat) (dk : Array α), s6 = .int .i64 i ∧ a < i ∧ i ≤ b + 1 ∧ b + 1 - i ≤ k ∧ SW enc w blk off dk wr ∧ Dat w.heap.size (.func (.func g) #[] lb) (.func (.func sf) #[] sb) wr ∧ PermIn a b d dk ∧ SortedIn lt a i dk)
  case atStart => exact ⟨a + 1, d, by congr 1, by omega, by omega, by omega, hSW, hD, permIn_refl _ _ _, sorted_one (by omega)⟩
  case round =>
    obtain ⟨i, dk, rfl, hai, hib, hk, hS, hDk, hP, hB⟩ := hrel
    by_cases hlt : i < b
    · have A : Aside (SW enc w blk off dk wr ∧ Dat w.heap.size (.func (.func g) #[] lb) (.func (.func sf) #[] sb) wr ∧ PermIn a b d dk ∧ SortedIn lt a i dk) := ⟨hS, hDk, hP, hB⟩
      clear hS hDk hP hB hSW hD
      go_wp2
      go_loopg [7] i (fun k s7 wr => ∃ (j : Nat) (dj : Array α), s7 = .int .i64 j ∧ a ≤ j ∧ j ≤ i ∧ j ≤ k ∧ SW enc w blk off dj wr ∧ Dat w.heap.size (.func (.func g) #[] lb) (.func (.func sf) #[] sb) wr ∧ PermIn a b d dj ∧ Ins lt a j i dj)
      case atStart =>
        obtain ⟨hS, hDk, hP, hB⟩ := A.out
        exact ⟨i, dk, rfl, by omega, by omega, by omega, hS, hDk, hP, ins_start hB⟩
      case round =>
        obtain ⟨j, dj, rfl, haj, hji, hjk, hS, hDk, hP, hI⟩ := hrel
        have hds : dj.size = d.size := hP.1
        obtain ⟨q0, c0, c1⟩ := id hDk
        have B : Aside (SW enc w blk off dj wr ∧ Dat w.heap.size (.func (.func g) #[] lb) (.func (.func sf) #[] sb) wr ∧ PermIn a b d dj ∧ Ins lt a j i dj ∧ dj.size = d.size ∧ Holds enc w blk off d ∧ SwapSwaps P sf sb enc blk off d.size) := ⟨hS, hDk, hP, hI, hds, hH, hswap⟩
        by_cases hja : a < j
        · have hl := sw_lessG hS hless hds j (j - 1) (by omega) (by omega)
          rw [show (((j - 1 : Nat) : Int)) = (j : Int) - 1 by omega] at hl
          clear hS hDk hP hI hds hH hswap hless A
          cases hlv : lt dj[j]! dj[j - 1]! with
          | true =>
            rw [hlv] at hl
            have V : Aside (lt dj[j]! dj[j - 1]! = true) := hlv
            clear hlv
            have sw : ∀ w', Grew wr w' → (callFunc sf (#[.int .i64 (j : Int), .int .i64 ((j : Int) - 1)] ++ sb)).run P w' = .ok (.value (.tuple #[])) ((w'.setCell ⟨blk, off + j, none⟩ (enc dj[j - 1]!)).setCell ⟨blk, off + (j - 1), none⟩ (enc dj[j]!)) := fun w' hG => by
              obtain ⟨hS, hDk, hP, hI, hds, hH, hswap⟩ := B.out
              have := hswap w' dj ((sw_grew hS hG).holds hblk hH hds) hds j (j - 1) (by omega) (by omega)
              rwa [show (((j - 1 : Nat) : Int)) = (j : Int) - 1 by omega] at this
            go_wp2_with (go_at_fn g; refine hl.mono ?_; rintro e w' ⟨rfl, hG⟩; have hs := sw w' hG; obtain ⟨q2, c2, c3⟩ := (B.out).2.1.grew hG; clear sw hl)
            go_roundg (j - 1)
            case measure => omega
            case rel =>
              obtain ⟨hS, hDk, hP, hI, hds, hH, hswap⟩ := B.out
              obtain ⟨j', rfl⟩ : ∃ j', j = j' + 1 := ⟨j - 1, by omega⟩
              exact ⟨j', swp dj (j' + 1) j', by congr 1; omega, by omega, by omega, by omega, (sw_grew hS hG).swap hblk (j' + 1) j' (by omega) (by omega), ((hDk.grew hG).set _ _ hne).set _ _ hne,
                permIn_trans _ _ _ _ _ hP (swp_permIn _ _ _ _ _ (by omega) (by omega) (by omega) (by omega) (by omega)), hI.step V.out (by omega) (by omega)⟩
          | false =>
            rw [hlv] at hl
            have V : Aside (lt dj[j]! dj[j - 1]! = false) := hlv
            clear hlv
            go_wp2_with (go_at_fn g; refine hl.mono ?_; rintro e w' ⟨rfl, hG⟩)
            go_roundg (b + 1 - (i + 1))
            case measure => omega
            case rel =>
              obtain ⟨hS, hDk, hP, hI, hds, hH, hswap⟩ := B.out
              exact ⟨i + 1, dj, by congr 1, by omega, by omega, by omega, sw_grew hS hG, hDk.grew hG, hP, hI.stop hO (.inr V.out)⟩
        · clear hS hDk hP hI hds hH hswap hless A
          go_wp2
          go_roundg (b + 1 - (i + 1))
          case measure => omega
          case rel =>
            obtain ⟨hS, hDk, hP, hI, hds, hH, hswap⟩ := B.out
            exact ⟨i + 1, dj, by congr 1, by omega, by omega, by omega, hS, hDk, hP, hI.stop hO (.inl (by omega))⟩
    · go_wp2
      go_end0
      obtain ⟨n, os, e'⟩ := hS
      exact ⟨rfl, n, os, dk, e', hP, fun p q h1 h2 h3 => hB p q h1 h2 (by omega)⟩
#print axioms ins_w
end Go.Proofs.Ytgcoidbaoigkeaa.stab
set_option linter.unusedVariables false
set_option linter.unusedSimpArgs false
namespace Go.Proofs.Ytgcoidbaoigkeaa.stab
open Go.Shelf Go.RowKit Go.Lib Go.Sort
variable {P : Program} {ρ : Ren} {α : Type} [Inhabited α] {lt : α → α → Bool}

def Blk (lt : α → α → Bool) (bs n : Nat) (d : Array α) : Prop := ∀ q, SortedIn lt (bs * q) (min (bs * q + bs) n) d
theorem mul_next {W x q : Nat} (h : x < q) : W * x + W ≤ W * q := by
  have := Nat.mul_le_mul_left W (show x + 1 ≤ q from h)
  rwa [Nat.mul_succ] at this
theorem sorted_sub {d : Array α} {a b a' b' : Nat} (h : SortedIn lt a b d) (h1 : a ≤ a') (h2 : b' ≤ b) : SortedIn lt a' b' d := fun i j c1 c2 c3 => h i j (by omega) c2 (by omega)
theorem kept {d d' : Array α} {a b x y : Nat} (hP : PermIn a b d d') (h : SortedIn lt x y d) (hd : y ≤ a ∨ b ≤ x) : SortedIn lt x y d' := sorted_congr h fun k c1 c2 => hP.2.1 k (by omega)
theorem ins_next {d d' : Array α} {W q a b : Nat} (ha : a = W * q) (hb : b = a + W) (h : ∀ x, x < q → SortedIn lt (W * x) (W * x + W) d) (hP : PermIn a b d d') (hS : SortedIn lt a b d') : ∀ x, x < q + 1 → SortedIn lt (W * x) (W * x + W) d' := by
  intro x hx
  by_cases hxq : x < q
  · have := mul_next (W := W) hxq
    exact kept hP (h x hxq) (.inl (by omega))
  · have : x = q := by omega
    subst this
    rwa [← ha, ← hb]
theorem ins_end {d d' : Array α} {W q a n : Nat} (ha : a = W * q) (hn : n < a + W) (han : a ≤ n) (h : ∀ x, x < q → SortedIn lt (W * x) (W * x + W) d) (hP : PermIn a n d d') (hS : SortedIn lt a n d') : Blk lt W n d' := by
  intro x
  by_cases hxq : x < q
  · have := mul_next (W := W) hxq
    exact sorted_sub (kept hP (h x hxq) (.inl (by omega))) (Nat.le_refl _) (by omega)
  · by_cases hxe : x = q
    · subst hxe
      rw [← ha]
      exact sorted_sub hS (Nat.le_refl _) (by omega)
    · have := mul_next (W := W) (show q < x by omega)
      exact sorted_one (by omega)
theorem mer_next {d d' : Array α} {bs n q a : Nat} (ha : a = 2 * bs * q) (hb : a + 2 * bs ≤ n) (h1 : ∀ x, x < q → SortedIn lt (2 * bs * x) (2 * bs * x + 2 * bs) d) (h2 : ∀ y, 2 * q ≤ y → SortedIn lt (bs * y) (min (bs * y + bs) n) d)
    (hM : Merged lt a (a + bs) (a + 2 * bs) d d') : (∀ x, x < q + 1 → SortedIn lt (2 * bs * x) (2 * bs * x + 2 * bs) d') ∧ ∀ y, 2 * (q + 1) ≤ y → SortedIn lt (bs * y) (min (bs * y + bs) n) d' := by
  have e0 : bs * (2 * q) = a := by rw [ha, ← Nat.mul_assoc, Nat.mul_comm bs 2]
  have e1 : bs * (2 * q + 1) = a + bs := by rw [Nat.mul_add, e0, Nat.mul_one]
  have e2 : bs * (2 * q + 2) = a + 2 * bs := by rw [Nat.mul_add, e0]; omega
  have s0 := h2 (2 * q) (Nat.le_refl _)
  have s1 := h2 (2 * q + 1) (by omega)
  rw [e0, Nat.min_eq_left (by omega)] at s0
  rw [e1, Nat.min_eq_left (by omega)] at s1
  have hS := hM.2 s0 (by rwa [show a + 2 * bs = a + bs + bs by omega])
  refine ⟨ins_next ha rfl h1 hM.1 hS, fun y hy => ?_⟩
  refine kept hM.1 (h2 y (by omega)) (.inr ?_)
  have := Nat.mul_le_mul_left bs (show 2 * q + 2 ≤ y by omega)
  omega
theorem mer_end {d d' : Array α} {bs n q a : Nat} (ha : a = 2 * bs * q) (hn : n < a + 2 * bs) (han : a ≤ n) (h1 : ∀ x, x < q → SortedIn lt (2 * bs * x) (2 * bs * x + 2 * bs) d) (h2 : ∀ y, 2 * q ≤ y → SortedIn lt (bs * y) (min (bs * y + bs) n) d)
    (hM : (a + bs < n ∧ Merged lt a (a + bs) n d d') ∨ (n ≤ a + bs ∧ d' = d)) : Blk lt (2 * bs) n d' := by
  have e0 : bs * (2 * q) = a := by rw [ha, ← Nat.mul_assoc, Nat.mul_comm bs 2]
  have e1 : bs * (2 * q + 1) = a + bs := by rw [Nat.mul_add, e0, Nat.mul_one]
  have s0 := h2 (2 * q) (Nat.le_refl _)
  have s1 := h2 (2 * q + 1) (by omega)
  rw [e0] at s0
  rw [e1] at s1
  rcases hM with ⟨hlt, hM⟩ | ⟨hge, rfl⟩
  · rw [Nat.min_eq_left (by omega)] at s0
    rw [Nat.min_eq_right (by omega)] at s1
    exact ins_end ha hn han h1 hM.1 (hM.2 s0 s1)
  · rw [Nat.min_eq_right (by omega)] at s0
    exact ins_end ha hn han h1 (permIn_refl _ _ _) s0

set_option maxHeartbeats 6400000 in
set_option maxRecDepth 1000000 in
theorem stable_w (L : LaysGt.n15 P ρ) (enc : α → Value) (lt : α → α → Bool) (hO : SWO lt) (g : Nat) (lb : Array Value) (sf : Nat) (sb : Array Value) (blk off : Nat) (d : Array α) (w : World)
    (eg : ∀ args w, (callFunc g args).run P w = .ok (.enter g args) w) (hless : LessG P g lb enc lt blk off d.size w) (hswap : SwapSwaps P sf sb enc blk off d.size)
    (hH : Holds enc w blk off d) (hblk : blk < w.heap.size) (hsz : d.size < 1000000000) :
    Calls P (ρ.f 15) #[.agg #[.func (.func g) #[] lb, .func (.func sf) #[] sb], .int .i64 d.size] w fun e w' => e = .returned (.tuple #[]) ∧ ∃ n os d', w' = sortWorld enc w blk off n d' os ∧ PermIn 0 d.size d d' ∧ SortedIn lt 0 d.size d' := by
  have mixed := L.mixed; have t0 := L.t0; have a0 := L.a0; have z0 := L.z0; have v0 := L.v0; have t3 := L.t3; have a3 := L.a3; have z3 := L.z3; have v3 := L.v3; have t4 := L.t4; have a4 := L.a4; have z4 := L.z4; have v4 := L.v4; have t26 := L.t26; have a26 := L.a26; have z26 := L.z26; have v26 := L.v26; have t38 := L.t38; have a38 := L.a38; have z38 := L.z38; have v38 := L.v38; have t42 := L.t42; have a42 := L.a42; have z42 := L.z42; have v42 := L.v42; have t47 := L.t47; have a47 := L.a47; have z47 := L.z47; have v47 := L.v47
  have u42 := run_underlying L.t42
  have e29 : ∀ args w, (callFunc (ρ.f 29) args).run P w = .ok (.enter (ρ.f 29) args) w := enters_of L.f29 (by kernel_rfl) rfl
  have e30 : ∀ args w, (callFunc (ρ.f 30) args).run P w = .ok (.enter (ρ.f 30) args) w := enters_of L.f30 (by kernel_rfl) rfl
  have LI : LaysGt.n29 P ρ := { L with }
  have LM : LaysGt.n30 P ρ := { L with }
  have hSW := (SW.start hH).alloc (.cells #[.func (.func g) #[] lb, .func (.func sf) #[] sb] (ρ.t 42))
  have hD := Dat.start w (.func (.func g) #[] lb) (.func (.func sf) #[] sb) (ρ.t 42)
  have hne : blk ≠ w.heap.size := by omega
  obtain ⟨n, hn⟩ : ∃ n, n = d.size := ⟨_, rfl⟩
  have ins : ∀ (a b : Nat) (dk : Array α) (W : World), SW enc w blk off dk W → dk.size = n → a ≤ b → b ≤ n →
      Calls P (ρ.f 29) #[.agg #[.func (.func g) #[] lb, .func (.func sf) #[] sb], .int .i64 a, .int .i64 b] W fun e w'' => e = .returned (.tuple #[]) ∧ ∃ d'', SW enc w blk off d'' w'' ∧ (Dat w.heap.size (.func (.func g) #[] lb) (.func (.func sf) #[] sb) W → Dat w.heap.size (.func (.func g) #[] lb) (.func (.func sf) #[] sb) w'') ∧ d''.size = n ∧ PermIn a b dk d'' ∧ SortedIn lt a b d'' := fun a b dk W hS hs h1 h2 =>
    (ins_w LI enc lt hO g lb sf sb blk off eg a b dk W (sw_lessGs hS (by rw [hs, hn]; exact hless) hblk rfl) (by rw [hs, hn]; exact hswap) (hS.holds hblk hH (hs.trans hn)) (hS.lt hblk) h1 (by omega) (by omega)).mono fun _ _ ⟨he, n', os, d'', hw, hP, hB⟩ =>
      have hz : d''.size = dk.size := hP.1
      ⟨he, d'', by rw [hw]; exact hS.on hblk n' d'' os hz, fun h => by rw [hw]; exact h.on enc blk off n' d'' os (Ne.symm hne), hz.trans hs, hP, hB⟩
  have mer : ∀ (a m b : Nat) (dk : Array α) (W : World), SW enc w blk off dk W → dk.size = n → a < m → m < b → b ≤ n →
      Calls P (ρ.f 30) #[.agg #[.func (.func g) #[] lb, .func (.func sf) #[] sb], .int .i64 a, .int .i64 m, .int .i64 b] W fun e w'' => e = .returned (.tuple #[]) ∧ ∃ d'', SW enc w blk off d'' w'' ∧ (Dat w.heap.size (.func (.func g) #[] lb) (.func (.func sf) #[] sb) W → Dat w.heap.size (.func (.func g) #[] lb) (.func (.func sf) #[] sb) w'') ∧ d''.size = n ∧ Merged lt a m b dk d'' := fun a m b dk W hS hs h1 h2 h3 =>
    (symMerge_w LM enc lt hO g lb sf sb blk off eg (b - a) a m b dk W (Nat.le_refl _) (sw_lessGs hS (by rw [hs, hn]; exact hless) hblk rfl) (by rw [hs, hn]; exact hswap) (hS.holds hblk hH (hs.trans hn)) (hS.lt hblk) h1 h2 (by omega) (by omega)).mono fun _ _ ⟨he, n', os, d'', hw, hM⟩ =>
      have hz : d''.size = dk.size := hM.1.1
      ⟨he, d'', by rw [hw]; exact hS.on hblk n' d'' os hz, fun h => by rw [hw]; exact h.on enc blk off n' d'' os (Ne.symm hne), hz.trans hs, hM⟩
  rw [← hn]
  have hnz : n < 1000000000 := by omega
  have N : Aside (n = d.size) := hn
  clear hless hswap hn hH
  go_enter L.f15, BodyGt.n15_ntmps ρ
  go_wp2
  go_loopg [5, 6] n (fun k s5 s6 wr => ∃ (a q : Nat) (dk : Array α), s5 = .int .i64 a ∧ s6 = .int .i64 ((a : Int) + 20) ∧ a = 20 * q ∧ a ≤ n ∧ n - a ≤ k ∧ SW enc w blk off dk wr ∧ Dat w.heap.size (.func (.func g) #[] lb) (.func (.func sf) #[] sb) wr ∧ PermIn 0 n d dk ∧ ∀ x, x < q → SortedIn lt (20 * x) (20 * x + 20) dk)
  case atStart => exact ⟨0, 0, d, rfl, rfl, rfl, by omega, by omega, hSW, hD, permIn_refl _ _ _, fun x hx => absurd hx (by omega)⟩
  case round =>
    obtain ⟨a, q, dk, rfl, rfl, haq, han, hk, hS, hDk, hP, hB⟩ := hrel
    have hz : dk.size = n := by have := hP.1; have := N.out; omega
    obtain ⟨q0, c0, c1⟩ := id hDk
    have A : Aside (SW enc w blk off dk wr ∧ Dat w.heap.size (.func (.func g) #[] lb) (.func (.func sf) #[] sb) wr ∧ PermIn 0 n d dk ∧ (∀ x, x < q → SortedIn lt (20 * x) (20 * x + 20) dk) ∧ a = 20 * q) := ⟨hS, hDk, hP, hB, haq⟩
    by_cases hlt : a + 20 ≤ n
    · have hc := ins a (a + 20) dk wr hS hz (by omega) hlt
      rw [show (((a + 20 : Nat) : Int)) = (a : Int) + 20 by omega] at hc
      clear hS hDk hP hB hSW hD ins mer haq hz
      have hltI : (a : Int) + 20 ≤ n := by omega
      go_wp2_with (go_at_fn (ρ.f 29); refine hc.mono ?_; rintro e w1 ⟨rfl, d1, hS1, hT1, hz1, hP1, hB1⟩)
      go_roundg (n - (a + 20))
      case measure => omega
      case rel =>
        obtain ⟨hS, hDk, hP, hB, haq⟩ := A.out
        exact ⟨a + 20, q + 1, d1, by congr 1, by congr 1, by omega, by omega, by omega, hS1, hT1 hDk, permIn_trans _ _ _ _ _ hP (permIn_mono _ _ _ _ _ _ (by omega) (by omega) (by have := hP.1; have := N.out; omega) hP1), ins_next haq rfl hB hP1 hB1⟩
    · have hc := ins a n dk wr hS hz han (Nat.le_refl _)
      have hgeI : ¬ (a : Int) + 20 ≤ n := by omega
      clear hS hDk hP hB hSW hD ins haq hz
      go_wp2_with (go_at_fn (ρ.f 29); refine hc.mono ?_; rintro e w1 ⟨rfl, d1, hS1, hT1, hz1, hP1, hB1⟩)
      have A1 : Aside (SW enc w blk off d1 w1 ∧ Dat w.heap.size (.func (.func g) #[] lb) (.func (.func sf) #[] sb) w1 ∧ PermIn 0 n d d1 ∧ Blk lt 20 n d1) := by
        obtain ⟨hS, hDk, hP, hB, haq⟩ := A.out
        exact ⟨hS1, hT1 hDk, permIn_trans _ _ _ _ _ hP (permIn_mono _ _ _ _ _ _ (by omega) (by omega) (by have := hP.1; have := N.out; omega) hP1), ins_end haq (by omega) han hB hP1 hB1⟩
      clear A hS1 hT1 hz1 hP1 hB1 q0 c0 c1 hgeI hlt hk
      go_loopg [4] n (fun k s4 wr => ∃ (bs : Nat) (dk : Array α), s4 = .int .i64 bs ∧ 0 < bs ∧ bs ≤ 2 * n + 20 ∧ n - bs ≤ k ∧ SW enc w blk off dk wr ∧ Dat w.heap.size (.func (.func g) #[] lb) (.func (.func sf) #[] sb) wr ∧ PermIn 0 n d dk ∧ Blk lt bs n dk)
      case atStart =>
        obtain ⟨hS, hDk, hP, hB⟩ := A1.out
        exact ⟨20, d1, rfl, by omega, by omega, by omega, hS, hDk, hP, hB⟩
      case round =>
        obtain ⟨bs, dk, rfl, hb0, hbn, hk, hS, hDk, hP, hB⟩ := hrel
        clear A1
        by_cases hlt : bs < n
        · have A2 : Aside (SW enc w blk off dk wr ∧ Dat w.heap.size (.func (.func g) #[] lb) (.func (.func sf) #[] sb) wr ∧ PermIn 0 n d dk ∧ Blk lt bs n dk) := ⟨hS, hDk, hP, hB⟩
          have M : Aside (∀ (a m b : Nat) (dk : Array α) (W : World), SW enc w blk off dk W → dk.size = n → a < m → m < b → b ≤ n →
      Calls P (ρ.f 30) #[.agg #[.func (.func g) #[] lb, .func (.func sf) #[] sb], .int .i64 a, .int .i64 m, .int .i64 b] W fun e w'' => e = .returned (.tuple #[]) ∧ ∃ d'', SW enc w blk off d'' w'' ∧ (Dat w.heap.size (.func (.func g) #[] lb) (.func (.func sf) #[] sb) W → Dat w.heap.size (.func (.func g) #[] lb) (.func (.func sf) #[] sb) w'') ∧ d''.size = n ∧ Merged lt a m b dk d'') := mer
          clear hS hDk hP hB mer
          go_wp2
          go_loopg [5, 6] n (fun k s5 s6 wr => ∃ (a q : Nat) (dk : Array α), s5 = .int .i64 a ∧ s6 = .int .i64 ((a : Int) + 2 * bs) ∧ a = 2 * bs * q ∧ a ≤ n ∧ n - a ≤ k ∧ SW enc w blk off dk wr ∧ Dat w.heap.size (.func (.func g) #[] lb) (.func (.func sf) #[] sb) wr ∧ PermIn 0 n d dk ∧
            (∀ x, x < q → SortedIn lt (2 * bs * x) (2 * bs * x + 2 * bs) dk) ∧ ∀ y, 2 * q ≤ y → SortedIn lt (bs * y) (min (bs * y + bs) n) dk)
          case atStart =>
            obtain ⟨hS, hDk, hP, hB⟩ := A2.out
            exact ⟨0, 0, dk, rfl, by congr 1; omega, rfl, by omega, by omega, hS, hDk, hP, fun x hx => absurd hx (by omega), fun y _ => hB y⟩
          case round =>
            obtain ⟨a', q', dj, rfl, rfl, haq, han', hk', hS, hDk, hP, hB1, hB2⟩ := hrel
            have hz : dj.size = n := by have := hP.1; have := N.out; omega
            obtain ⟨q0, c0, c1⟩ := id hDk
            have A : Aside (SW enc w blk off dj wr ∧ Dat w.heap.size (.func (.func g) #[] lb) (.func (.func sf) #[] sb) wr ∧ PermIn 0 n d dj ∧ (∀ x, x < q' → SortedIn lt (2 * bs * x) (2 * bs * x + 2 * bs) dj) ∧ (∀ y, 2 * q' ≤ y → SortedIn lt (bs * y) (min (bs * y + bs) n) dj) ∧ a' = 2 * bs * q') := ⟨hS, hDk, hP, hB1, hB2, haq⟩
            by_cases hlt2 : a' + 2 * bs ≤ n
            · have hc := M.out a' (a' + bs) (a' + 2 * bs) dj wr hS hz (by omega) (by omega) hlt2
              rw [show (((a' + bs : Nat) : Int)) = (a' : Int) + bs by omega, show (((a' + 2 * bs : Nat) : Int)) = (a' : Int) + 2 * bs by omega] at hc
              clear hS hDk hP hB1 hB2 haq hz A2
              have hltI : (a' : Int) + 2 * bs ≤ n := by omega
              go_wp2_with (go_at_fn (ρ.f 30); refine hc.mono ?_; rintro e w2 ⟨rfl, d2, hS2, hT2, hz2, hM2⟩)
              go_roundg (n - (a' + 2 * bs))
              case measure => omega
              case rel =>
                obtain ⟨hS, hDk, hP, hB1, hB2, haq⟩ := A.out
                have hN := mer_next haq hlt2 hB1 hB2 hM2
                exact ⟨a' + 2 * bs, q' + 1, d2, by congr 1, by congr 1, by rw [Nat.mul_add]; omega, by omega, by omega, hS2, hT2 hDk, permIn_trans _ _ _ _ _ hP (permIn_mono _ _ _ _ _ _ (by omega) (by omega) (by have := hP.1; have := N.out; omega) hM2.1), hN.1, hN.2⟩
            · have hgeI : ¬ (a' : Int) + 2 * bs ≤ n := by omega
              by_cases hm : a' + bs < n
              · have hc := M.out a' (a' + bs) n dj wr hS hz (by omega) (by omega) (Nat.le_refl _)
                rw [show (((a' + bs : Nat) : Int)) = (a' : Int) + bs by omega] at hc
                clear hS hDk hP hB1 hB2 haq hz A2
                have hltI : (a' : Int) + bs < n := by omega
                go_wp2_with (go_at_fn (ρ.f 30); refine hc.mono ?_; rintro e w2 ⟨rfl, d2, hS2, hT2, hz2, hM2⟩)
                go_roundg (n - 2 * bs)
                case measure => omega
                case rel =>
                  obtain ⟨hS, hDk, hP, hB1, hB2, haq⟩ := A.out
                  exact ⟨2 * bs, d2, by congr 1; omega, by omega, by omega, by omega, hS2, hT2 hDk, permIn_trans _ _ _ _ _ hP (permIn_mono _ _ _ _ _ _ (by omega) (by omega) (by have := hP.1; have := N.out; omega) hM2.1), mer_end haq (by omega) han' hB1 hB2 (.inl ⟨hm, hM2⟩)⟩
              · clear hS hDk hP hB1 hB2 haq hz A2
                have hltI : ¬ (a' : Int) + bs < n := by omega
                go_wp2
                go_roundg (n - 2 * bs)
                case measure => omega
                case rel =>
                  obtain ⟨hS, hDk, hP, hB1, hB2, haq⟩ := A.out
                  exact ⟨2 * bs, dj, by congr 1; omega, by omega, by omega, by omega, hS, hDk, hP, mer_end haq (by omega) han' hB1 hB2 (.inr ⟨by omega, rfl⟩)⟩
        · go_wp2
          go_end0
          obtain ⟨n', os, e'⟩ := hS
          have h0 := hB 0
          rw [Nat.mul_zero, Nat.min_eq_right (by omega)] at h0
          exact ⟨rfl, n', os, dk, e', hP, h0⟩

theorem sliceStable_w (L : LaysGt.n8 P ρ) (t e : TypeId) (i ie : TypeInfo) (hi : P.info? t = some i) (hd : i.desc = .slice e) (hpk : P.packed t = false) (hie : P.info? e = some ie) (ke : Nat) (hke : ∀ w, (Extern.Rtype.kind e).run P w = .ok ke w)
    (hs1 : ie.size = 1) (hagg : ∀ w, (isAgg e).run P w = .ok false w) (enc : α → Value) (h1 : ∀ x, (enc x).oneCell' = true) (lt : α → α → Bool) (hO : SWO lt) (g : Nat) (lb : Array Value)
    (eg : ∀ args w, (callFunc g args).run P w = .ok (.enter g args) w) (blk off c : Nat) (d : Array α) (h2 : 2 ≤ d.size) (hsz : d.size < 1000000000)
    (f : Nat) (hf : P.funcs.findIdx? (·.name == "internal/reflectlite" ++ ".Swapper$" ++ toString (swapperK d.size ie ke)) = some f)
    (gS : Bool) (hx : ∀ args W, (callFunc f args).run P W = ((Extern.ReflectliteSwapper.swap gS args).run P W).andThen fun v w' => .ok (.value v) w')
    (w : World) (hless : LessG P g lb enc lt blk off d.size w) (hH : Holds enc w blk off d) (hblk : blk < w.heap.size) :
    Calls P (ρ.f 8) #[.iface t (.slice (some ⟨blk, off, none⟩) d.size c), .func (.func g) #[] lb] w fun e w' =>
      e = .returned (.tuple #[]) ∧ ∃ n os d', w' = sortWorld enc w blk off n d' os ∧ PermIn 0 d.size d d' ∧ SortedIn lt 0 d.size d' := by
  refine Any.sort_SliceStable_of_stable L t e i ie hi hd hpk hie ke hke _ d.size c (by omega) f hf (.func g) #[] lb w _ ?_
  have hB : sliceBound P e ie ke (some ⟨blk, off, none⟩) d.size c = #[.slice (some ⟨blk, off, none⟩) d.size c, typeHandle P e] := by
    unfold sliceBound; rw [if_neg (swapperK_gt _ _ _ h2)]
  have hW : stableWorld P ρ t (some ⟨blk, off, none⟩) d.size c w = grow w #[.cells #[.slice (some ⟨blk, off, none⟩) d.size c] t, .cells #[.pointer (some ⟨P.globals.size, t, none⟩), .pointer (some ⟨w.heap.size, 0, none⟩), .int .u64 151] (ρ.t 36)] := by
    unfold stableWorld; rw [alloc_eq_grow, alloc_eq_grow, grow_grow]; rfl
  generalize (#[.cells #[.slice (some ⟨blk, off, none⟩) d.size c] t, .cells #[.pointer (some ⟨P.globals.size, t, none⟩), .pointer (some ⟨w.heap.size, 0, none⟩), .int .u64 151] (ρ.t 36)] : Array Obj) = os0 at hW
  rw [hB, hW]
  have hp := stable_w (P := P) (ρ := ρ) { L with } enc lt hO g lb f _ blk off d (grow w os0) eg (hless.grow hblk os0)
    (swapSwaps_of_literal gS f hx e ie hie hs1 hagg enc h1 blk off d.size c) (holds_grow enc w _ blk off d hblk hH) (by rw [size_grow]; omega) hsz
  refine hp.mono ?_
  rintro e w' ⟨rfl, n, os, d', rfl, hP, hS⟩
  refine ⟨rfl, n, os0 ++ os, d', ?_, hP, hS⟩
  unfold sortWorld
  show Sort.grow (putRow enc (Sort.grow { w with drawn := n } os0) blk off d') os = _
  rw [putRow_grow enc { w with drawn := n } _ blk off _ hblk, grow_grow]
#print axioms stable_w
#print axioms sliceStable_w
end Go.Proofs.Ytgcoidbaoigkeaa.stab
