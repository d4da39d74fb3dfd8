/-
  Trees that are built: the plain law.
-/
import Derived.Test.YtgcoidbaoigkeaaQTBuild
import Derived.Test.YtgcoidbaoigkeaaKSame
set_option linter.unusedVariables false
set_option linter.unusedSimpArgs false
namespace Go.Proofs.Ytgcoidbaoigkeaa.fix
open Go.RowKit Go.Sx

/-! ### the box of some items -/
structure IsBox (L s b : List Int) : Prop where
  len : b.length = 6
  lo : ∀ j, j < 3 → (∃ x ∈ s, b.getD j 0 = co (L.getD x.toNat 0) j) ∧ ∀ x ∈ s, b.getD j 0 ≤ co (L.getD x.toNat 0) j
  hi : ∀ j, 3 ≤ j → j < 6 → (∃ x ∈ s, b.getD j 0 = co (L.getD x.toNat 0) j) ∧ ∀ x ∈ s, co (L.getD x.toNat 0) j ≤ b.getD j 0
theorem six_get {b : Int} {j : Nat} (h : j < 6) : (six6 b).getD j 0 = co b j := by
  match j, h with
  | 0, _ | 1, _ | 2, _ | 3, _ | 4, _ | 5, _ => rfl
theorem join_lo {a b : List Int} (ha : a.length = 6) (hb : b.length = 6) {j : Nat} (h : j < 3) : (ex6 (joinP (a ++ b))).getD j 0 = min (a.getD j 0) (b.getD j 0) := by
  obtain ⟨a0, a1, a2, a3, a4, a5, rfl⟩ := six_list ha
  obtain ⟨b0, b1, b2, b3, b4, b5, rfl⟩ := six_list hb
  match j, h with
  | 0, _ | 1, _ | 2, _ => rfl
theorem join_hi {a b : List Int} (ha : a.length = 6) (hb : b.length = 6) {j : Nat} (h : 3 ≤ j) (h' : j < 6) : (ex6 (joinP (a ++ b))).getD j 0 = max (a.getD j 0) (b.getD j 0) := by
  obtain ⟨a0, a1, a2, a3, a4, a5, rfl⟩ := six_list ha
  obtain ⟨b0, b1, b2, b3, b4, b5, rfl⟩ := six_list hb
  match j, h, h' with
  | 3, _, _ | 4, _, _ | 5, _, _ => rfl
theorem isBox_one (L : List Int) (x : Int) : IsBox L [x] (six6 (L.getD x.toNat 0)) := by
  refine ⟨rfl, fun j h => ?_, fun j _ h => ?_⟩
  · rw [six_get (by omega)]
    exact ⟨⟨x, by simp, rfl⟩, fun y hy => by rw [List.mem_singleton.1 hy]; exact Int.le_refl _⟩
  · rw [six_get h]
    exact ⟨⟨x, by simp, rfl⟩, fun y hy => by rw [List.mem_singleton.1 hy]; exact Int.le_refl _⟩
theorem isBox_join {L s t a b : List Int} (h : IsBox L s a) (k : IsBox L t b) : IsBox L (s ++ t) (ex6 (joinP (a ++ b))) := by
  refine ⟨rfl, fun j hj => ?_, fun j hj hj' => ?_⟩
  · rw [join_lo h.len k.len hj]
    obtain ⟨⟨x, hx, ex⟩, h2⟩ := h.lo j hj
    obtain ⟨⟨y, hy, ey⟩, k2⟩ := k.lo j hj
    refine ⟨?_, fun z hz => ?_⟩
    · rcases Int.le_total (a.getD j 0) (b.getD j 0) with hh | hh
      · exact ⟨x, List.mem_append_left _ hx, by rw [Int.min_eq_left hh, ex]⟩
      · exact ⟨y, List.mem_append_right _ hy, by rw [Int.min_eq_right hh, ey]⟩
    · rcases List.mem_append.1 hz with hz | hz
      · have := h2 z hz; omega
      · have := k2 z hz; omega
  · rw [join_hi h.len k.len hj hj']
    obtain ⟨⟨x, hx, ex⟩, h2⟩ := h.hi j hj hj'
    obtain ⟨⟨y, hy, ey⟩, k2⟩ := k.hi j hj hj'
    refine ⟨?_, fun z hz => ?_⟩
    · rcases Int.le_total (a.getD j 0) (b.getD j 0) with hh | hh
      · exact ⟨y, List.mem_append_right _ hy, by rw [Int.max_eq_right hh, ey]⟩
      · exact ⟨x, List.mem_append_left _ hx, by rw [Int.max_eq_left hh, ex]⟩
    · rcases List.mem_append.1 hz with hz | hz
      · have := h2 z hz; omega
      · have := k2 z hz; omega
theorem isBox_uniq {L s t a b : List Int} (h : IsBox L s a) (k : IsBox L t b) (hst : ∀ x, x ∈ s ↔ x ∈ t) : a = b := by
  apply List.ext_getElem?
  intro j
  by_cases hj : j < 6
  · have key : a.getD j 0 = b.getD j 0 := by
      rcases Nat.lt_or_ge j 3 with h3 | h3
      · obtain ⟨⟨x, hx, ex⟩, h2⟩ := h.lo j h3
        obtain ⟨⟨y, hy, ey⟩, k2⟩ := k.lo j h3
        have e1 := h2 y ((hst y).2 hy)
        have e2 := k2 x ((hst x).1 hx)
        omega
      · obtain ⟨⟨x, hx, ex⟩, h2⟩ := h.hi j h3 hj
        obtain ⟨⟨y, hy, ey⟩, k2⟩ := k.hi j h3 hj
        have e1 := h2 y ((hst y).2 hy)
        have e2 := k2 x ((hst x).1 hx)
        omega
    have l1 := h.len
    have l2 := k.len
    simp only [List.getD, List.getElem?_eq_getElem (by omega : j < a.length), List.getElem?_eq_getElem (by omega : j < b.length), Option.getD_some] at key
    rw [List.getElem?_eq_getElem (by omega), List.getElem?_eq_getElem (by omega), key]
  · rw [List.getElem?_eq_none (by rw [h.len]; omega), List.getElem?_eq_none (by rw [k.len]; omega)]
theorem isBox_run {L s : List Int} : ∀ i : Nat, i < s.length → IsBox L (s.take (i + 1)) (boxR L s i)
  | 0, h => by
    have : s.take 1 = [s.getD 0 0] := by
      rw [List.take_add_one, List.take_zero, List.getElem?_eq_getElem h]
      simp [List.getD, h]
    rw [this]
    exact isBox_one L _
  | i + 1, h => by
    have : s.take (i + 1 + 1) = s.take (i + 1) ++ [s.getD (i + 1) 0] := by
      rw [List.take_add_one, List.getElem?_eq_getElem h]
      simp [List.getD, h]
    rw [this, boxR_step h]
    exact isBox_join (isBox_run i (by omega)) (isBox_one L _)
theorem isBox_of {L s : List Int} (h : 0 < s.length) : IsBox L s (boxOf L s) := by
  have := isBox_run (L := L) (s := s) (s.length - 1) (by omega)
  rwa [boxR_all (by omega), List.take_of_length_le (by omega)] at this
theorem box_half {L s : List Int} {n : Nat} (h0 : 0 < n) (h1 : n < s.length) : boxOf L s = ex6 (joinP (boxOf L ((halfK L s).take n) ++ boxOf L ((halfK L s).drop n))) := by
  have l1 : 0 < ((halfK L s).take n).length := by rw [List.length_take, halfK_len]; omega
  have l2 : 0 < ((halfK L s).drop n).length := by rw [List.length_drop, halfK_len]; omega
  refine isBox_uniq (isBox_of (by omega)) (isBox_join (isBox_of l1) (isBox_of l2)) fun x => ?_
  rw [List.take_append_drop, halfK_mem]

/-! ### the tree of what is built -/
def BT.deep : BT → Nat
  | .leaf _ => 1
  | .node _ a b => max a.deep b.deep + 1
structure BuiltAt (L t s : List Int) (a : Nat) (T : BT) : Prop where
  shp : T.At t L.length a (a + (2 * s.length - 1))
  its : (T.leaves.map fun i => co (t.getD i 0) 8).Perm s
  box : six6 (t.getD a 0) = boxOf L s
  all : ∀ i, a ≤ i → i < a + (2 * s.length - 1) → t.getD i 0 = cod (nine (t.getD i 0)) ∧ six6 (t.getD i 0) = rfBox L t (t.getD i 0)
  dp : ∀ d : Nat, s.length ≤ 2 ^ d → T.deep ≤ d + 1
theorem nine_cod (b0 b1 b2 b3 b4 b5 x y z : Int) : nine (cod [b0, b1, b2, b3, b4, b5, x, y, z]) = [b0, b1, b2, b3, b4, b5, x, y, z] := by
  simp only [nine, co_cod]
  rfl
theorem six_cod9 (b0 b1 b2 b3 b4 b5 x y z : Int) : six6 (cod [b0, b1, b2, b3, b4, b5, x, y, z]) = [b0, b1, b2, b3, b4, b5] := by
  simp only [six6, co_cod]
  rfl
theorem boxOf_len {L s : List Int} (h : 0 < s.length) : (boxOf L s).length = 6 := (isBox_of h).len
theorem getP (P Q : List Int) (x : Int) : (P ++ (x :: Q)).getD P.length 0 = x := get_at P Q x
theorem built_at {L : List Int} : ∀ (f : Nat) (s P Q : List Int), 0 < s.length → s.length ≤ f → (∀ x ∈ s, 0 ≤ x ∧ x < (L.length : Int)) → ∃ T, BuiltAt L (P ++ (builtN L f s (P.length : Int) ++ Q)) s P.length T
  | 0, s, P, Q, h0, h1, hs => absurd h1 (by omega)
  | f + 1, s, P, Q, h0, h1, hs => by
    obtain ⟨b0, b1, b2, b3, b4, b5, hb⟩ := six_list (boxOf_len (L := L) h0)
    by_cases h2 : s.length ≤ 1
    · obtain ⟨x, rfl⟩ : ∃ x, s = [x] := by
        match s, h0, h2 with
        | [x], _, _ => exact ⟨x, rfl⟩
      have hx := hs x (by simp)
      have hbx : boxOf L [x] = six6 (L.getD x.toNat 0) := rfl
      rw [built_one h2]
      simp only [List.getD_cons_zero, List.cons_append, List.nil_append]
      have hg := getP P Q (cod (boxOf L [x] ++ [-1, -1, x]))
      generalize ht : P ++ (cod (boxOf L [x] ++ [-1, -1, x]) :: Q) = t at hg
      have hlt : P.length < t.length := by rw [← ht]; simp
      have hg' := hg
      rw [hb] at hg'
      have c6 : co (t.getD P.length 0) 6 = -1 := by rw [hg', co_cod]; rfl
      have c7 : co (t.getD P.length 0) 7 = -1 := by rw [hg', co_cod]; rfl
      have c8 : co (t.getD P.length 0) 8 = x := by rw [hg', co_cod]; rfl
      have hsx : six6 (t.getD P.length 0) = boxOf L [x] := by rw [hg', hb]; exact six_cod9 _ _ _ _ _ _ _ _ _
      refine ⟨.leaf P.length, ⟨⟨rfl, rfl, hlt, c6, c7, by rw [c8]; exact hx.1, by rw [c8]; exact hx.2⟩, ?_, hsx, fun i h3 h4 => ?_, fun d _ => by simp [BT.deep]⟩⟩
      · simp only [BT.leaves, List.map_cons, List.map_nil, c8]
        exact List.Perm.refl _
      · obtain rfl : i = P.length := by simp only [List.length_cons, List.length_nil] at h4; omega
        refine ⟨?_, ?_⟩
        · rw [hg']
          exact congrArg cod (nine_cod _ _ _ _ _ _ _ _ _).symm
        · rw [hsx, hbx]
          unfold rfBox
          rw [if_pos (by omega), c8]
    · have l1 : ((halfK L s).take ((s.length + 1) / 2)).length = (s.length + 1) / 2 := by rw [List.length_take, halfK_len]; omega
      have l2 : ((halfK L s).drop ((s.length + 1) / 2)).length = s.length - (s.length + 1) / 2 := by rw [List.length_drop, halfK_len]
      have m1 : ∀ x ∈ (halfK L s).take ((s.length + 1) / 2), 0 ≤ x ∧ x < (L.length : Int) := fun x hx => hs x (halfK_mem.1 (List.mem_of_mem_take hx))
      have m2 : ∀ x ∈ (halfK L s).drop ((s.length + 1) / 2), 0 ≤ x ∧ x < (L.length : Int) := fun x hx => hs x (halfK_mem.1 (List.mem_of_mem_drop hx))
      have hperm : ((halfK L s).take ((s.length + 1) / 2) ++ (halfK L s).drop ((s.length + 1) / 2)).Perm s := by
        rw [List.take_append_drop]
        exact sortK_perm _ _ _
      have hbh := box_half (L := L) (s := s) (n := (s.length + 1) / 2) (by omega) (by omega)
      rw [built_two h2]
      generalize (halfK L s).take ((s.length + 1) / 2) = K1 at *
      generalize (halfK L s).drop ((s.length + 1) / 2) = K2 at *
      have n1 := built_len (L := L) f K1 ((P.length : Int) + 1) (by omega) (by omega)
      have e1 : (P.length : Int) + 1 = ((P.length + 1 : Nat) : Int) := by omega
      have e2 : (P.length : Int) + 1 + ((builtN L f K1 ((P.length : Int) + 1)).length : Int) = ((P.length + 1 + (2 * K1.length - 1) : Nat) : Int) := by rw [n1]; omega
      rw [e2]
      have n2 := built_len (L := L) f K2 ((P.length + 1 + (2 * K1.length - 1) : Nat) : Int) (by omega) (by omega)
      rw [e1] at n1 ⊢
      generalize hx : cod (boxOf L s ++ [((P.length + 1 : Nat) : Int), ((P.length + 1 + (2 * K1.length - 1) : Nat) : Int), -1]) = x
      obtain ⟨T1, hT1⟩ := built_at f K1 (P ++ [x]) (builtN L f K2 ((P.length + 1 + (2 * K1.length - 1) : Nat) : Int) ++ Q) (by omega) (by omega) m1
      obtain ⟨T2, hT2⟩ := built_at f K2 (P ++ [x] ++ builtN L f K1 ((P.length + 1 : Nat) : Int)) Q (by omega) (by omega) m2
      have p1 : (P ++ [x]).length = P.length + 1 := by simp
      have p2 : (P ++ [x] ++ builtN L f K1 ((P.length + 1 : Nat) : Int)).length = P.length + 1 + (2 * K1.length - 1) := by rw [List.length_append, p1, n1]
      rw [p1] at hT1
      rw [p2] at hT2
      have t1 : P ++ [x] ++ (builtN L f K1 ((P.length + 1 : Nat) : Int) ++ (builtN L f K2 ((P.length + 1 + (2 * K1.length - 1) : Nat) : Int) ++ Q)) = P ++ (x :: (builtN L f K1 ((P.length + 1 : Nat) : Int) ++ builtN L f K2 ((P.length + 1 + (2 * K1.length - 1) : Nat) : Int)) ++ Q) := by simp
      have t2 : P ++ [x] ++ builtN L f K1 ((P.length + 1 : Nat) : Int) ++ (builtN L f K2 ((P.length + 1 + (2 * K1.length - 1) : Nat) : Int) ++ Q) = P ++ (x :: (builtN L f K1 ((P.length + 1 : Nat) : Int) ++ builtN L f K2 ((P.length + 1 + (2 * K1.length - 1) : Nat) : Int)) ++ Q) := by simp
      rw [t1] at hT1
      rw [t2] at hT2
      have hg := getP P (builtN L f K1 ((P.length + 1 : Nat) : Int) ++ builtN L f K2 ((P.length + 1 + (2 * K1.length - 1) : Nat) : Int) ++ Q) x
      have hlen : P.length < (P ++ (x :: (builtN L f K1 ((P.length + 1 : Nat) : Int) ++ builtN L f K2 ((P.length + 1 + (2 * K1.length - 1) : Nat) : Int)) ++ Q)).length := by simp
      rw [← List.cons_append] at hg
      generalize P ++ (x :: (builtN L f K1 ((P.length + 1 : Nat) : Int) ++ builtN L f K2 ((P.length + 1 + (2 * K1.length - 1) : Nat) : Int)) ++ Q) = t at *
      rw [← hx, hb] at hg
      have c6 : co (t.getD P.length 0) 6 = (P.length : Int) + 1 := by rw [hg, co_cod]; exact e1.symm
      have c7 : co (t.getD P.length 0) 7 = ((P.length + 1 + (2 * K1.length - 1) : Nat) : Int) := by rw [hg, co_cod]; rfl
      have c8 : co (t.getD P.length 0) 8 = -1 := by rw [hg, co_cod]; rfl
      have hsx : six6 (t.getD P.length 0) = boxOf L s := by rw [hg, hb]; exact six_cod9 _ _ _ _ _ _ _ _ _
      have hend : P.length + 1 + (2 * K1.length - 1) + (2 * K2.length - 1) = P.length + (2 * s.length - 1) := by omega
      refine ⟨.node P.length T1 T2, ⟨⟨rfl, hlen, P.length + 1 + (2 * K1.length - 1), hT1.shp, by rw [← hend]; exact hT2.shp, c6, c7, c8⟩, ?_, hsx, fun i h3 h4 => ?_, fun d hd => ?_⟩⟩
      · simp only [BT.leaves, List.map_append]
        exact (hT1.its.append hT2.its).trans hperm
      · by_cases hi : i = P.length
        · subst hi
          refine ⟨?_, ?_⟩
          · rw [hg]
            exact congrArg cod (nine_cod _ _ _ _ _ _ _ _ _).symm
          · rw [hsx]
            unfold rfBox
            rw [if_neg (by omega), c6, c7, e1, Int.toNat_natCast, Int.toNat_natCast, hT1.box, hT2.box, hbh]
        · by_cases hm : i < P.length + 1 + (2 * K1.length - 1)
          · exact hT1.all i (by omega) hm
          · exact hT2.all i (by omega) (by omega)
      · obtain ⟨d', rfl⟩ : ∃ d', d = d' + 1 := ⟨d - 1, by
          rcases Nat.eq_zero_or_pos d with rfl | hd0
          · simp at hd; omega
          · omega⟩
        rw [Nat.pow_succ] at hd
        have g1 := hT1.dp d' (by omega)
        have g2 := hT2.dp d' (by omega)
        simp only [BT.deep]
        omega
#print axioms built_at
end Go.Proofs.Ytgcoidbaoigkeaa.fix
set_option linter.unusedVariables false
set_option linter.unusedSimpArgs false
namespace Go.Proofs.Ytgcoidbaoigkeaa.fix
open Go.RowKit Go.Sx

structure TreeAt (L t : List Int) : Prop where
  shaped : shapedB t (L.length : Int) = true
  all : ∀ i, i < t.length → t.getD i 0 = cod (nine (t.getD i 0)) ∧ six6 (t.getD i 0) = rfBox L t (t.getD i 0)
theorem nine_six3 (b : Int) : nine b = six6 b ++ [co b 6, co b 7, co b 8] := rfl
theorem set_same (l : List Int) (i : Nat) : l.set i (l.getD i 0) = l := by
  by_cases h : i < l.length
  · simp [List.getD, h]
  · rw [List.set_eq_of_length_le (by omega)]
theorem rf_fix {L t : List Int} (h : TreeAt L t) : ∀ c, rfRun L t c = t
  | 0 => rfl
  | c + 1 => by
    rw [rf_succ, rf_fix h c]
    by_cases h0 : t.length = 0
    · obtain rfl : t = [] := List.eq_nil_of_length_eq_zero h0
      rfl
    · have hi := h.all (t.length - 1 - c) (by omega)
      unfold rfStep
      rw [← hi.2, ← nine_six3, ← hi.1, set_same]
theorem refit_fix {L t : List Int} (h : TreeAt L t) : refitL L t = t := rf_fix h _
theorem refitE_at {L t : List Int} (hb : boxesE L = 0) (h : TreeAt L t) : refitE t L = 0 := by
  unfold refitE
  rw [if_pos hb, if_pos h.shaped]
theorem sameB_self (a : List Int) : sameB a a = true := sameB_yes rfl fun _ _ => rfl
theorem chkE_at {L t : List Int} (hb : boxesE L = 0) (h : TreeAt L t) : chkE t L = 0 := by
  unfold chkE
  rw [if_pos (refitE_at hb h), refit_fix h, if_pos (sameB_self t)]

/-! ### what is refitted -/
theorem shStep_same {n : Int} {i : Nat} {b c : Int} {s : List Int × List Int} (h6 : co b 6 = co c 6) (h7 : co b 7 = co c 7) (h8 : co b 8 = co c 8) : shStep n i b s = shStep n i c s := by
  unfold shStep
  rw [h6, h7, h8]
theorem shaped_same {t u : List Int} {n : Int} (hl : u.length = t.length) (h : ∀ i, co (u.getD i 0) 6 = co (t.getD i 0) 6 ∧ co (u.getD i 0) 7 = co (t.getD i 0) 7 ∧ co (u.getD i 0) 8 = co (t.getD i 0) 8) : shapedB u n = shapedB t n := by
  have hrun : ∀ i, shRun u n i = shRun t n i := by
    intro i
    induction i with
    | zero => rfl
    | succ i ih =>
      rw [shRun_succ, shRun_succ, ih]
      congr 1
      funext s
      exact shStep_same (h i).1 (h i).2.1 (h i).2.2
  unfold shapedB
  rw [hrun, hl]
theorem rf_stay (l t : List Int) (c i : Nat) (hi : t.length - c ≤ i) : ∀ d, c + d ≤ t.length → (rfRun l t (c + d)).getD i 0 = (rfRun l t c).getD i 0
  | 0, _ => rfl
  | d + 1, h => by
    rw [show c + (d + 1) = (c + d) + 1 by omega, rf_succ, rfStep, getD_set, if_neg (by omega)]
    exact rf_stay l t c i hi d (by omega)
theorem refit_at {m t : List Int} (hs : shapedB t (m.length : Int) = true) : TreeAt m (refitL m t) := by
  have hl : (refitL m t).length = t.length := rf_len m t t.length
  refine ⟨by rw [shaped_same hl fun i => rf_co m t i t.length]; exact hs, fun i hi => ?_⟩
  rw [hl] at hi
  have hstay : ∀ c j, c ≤ t.length → t.length - c ≤ j → (refitL m t).getD j 0 = (rfRun m t c).getD j 0 := fun c j hc hj => by
    have := rf_stay m t c j hj (t.length - c) (by omega)
    rw [show c + (t.length - c) = t.length by omega] at this
    exact this
  have h1 : (refitL m t).getD i 0 = cod (rfBox m (rfRun m t (t.length - i - 1)) ((rfRun m t (t.length - i - 1)).getD i 0) ++ [co ((rfRun m t (t.length - i - 1)).getD i 0) 6, co ((rfRun m t (t.length - i - 1)).getD i 0) 7, co ((rfRun m t (t.length - i - 1)).getD i 0) 8]) := by
    rw [hstay (t.length - i - 1 + 1) i (by omega) (by omega), rf_succ, rfStep, getD_set, rf_len, show t.length - 1 - (t.length - i - 1) = i by omega, if_pos ⟨rfl, hi⟩]
  have hn := rf_new m (rfRun m t (t.length - i - 1)) ((rfRun m t (t.length - i - 1)).getD i 0) (co ((rfRun m t (t.length - i - 1)).getD i 0) 6) (co ((rfRun m t (t.length - i - 1)).getD i 0) 7) (co ((rfRun m t (t.length - i - 1)).getD i 0) 8)
  have hco := rf_co m t i (t.length - i - 1)
  have hcu := rf_co m t i t.length
  have hcu' : co ((refitL m t).getD i 0) 6 = co (t.getD i 0) 6 ∧ co ((refitL m t).getD i 0) 7 = co (t.getD i 0) 7 ∧ co ((refitL m t).getD i 0) 8 = co (t.getD i 0) 8 := hcu
  refine ⟨?_, ?_⟩
  · rw [nine_six3, h1, hn.1, hn.2.1, hn.2.2.1, hn.2.2.2]
  · have h6 : six6 ((refitL m t).getD i 0) = rfBox m (rfRun m t (t.length - i - 1)) ((rfRun m t (t.length - i - 1)).getD i 0) := by rw [h1, hn.1]
    rw [h6]
    unfold rfBox
    rw [hco.1, hco.2.1, hco.2.2, hcu'.1, hcu'.2.1, hcu'.2.2]
    rcases shaped_shp hs i hi with hlf | hnd
    · rw [if_pos (by omega), if_pos (by omega)]
    · rw [if_neg (by omega), if_neg (by omega), ← hstay (t.length - i - 1) (co (t.getD i 0) 6).toNat (by omega) (by omega), ← hstay (t.length - i - 1) (co (t.getD i 0) 7).toNat (by omega) (by omega)]

/-! ### what is built -/
theorem idx_nat (n : Nat) : (idxL n).map Int.toNat = List.range n := by
  simp [idxL, Function.comp_def]
theorem tree_len {L : List Int} : (treeL L).length = 2 * L.length - 1 := by
  by_cases h0 : L.length = 0
  · rw [nil_tree h0, h0]; rfl
  · unfold treeL
    rw [built_len _ _ _ (by rw [idx_len]; omega) (by rw [idx_len]; omega), idx_len]
theorem tree_bt {L : List Int} (h0 : 0 < L.length) : ∃ T, BuiltAt L (treeL L) (idxL L.length) 0 T := by
  obtain ⟨T, hT⟩ := built_at (L := L) L.length (idxL L.length) [] [] (by rw [idx_len]; exact h0) (by rw [idx_len]; exact Nat.le_refl _) (fun x hx => idx_mem.1 hx)
  rw [List.nil_append, List.append_nil] at hT
  exact ⟨T, hT⟩
theorem tree_at (L : List Int) : TreeAt L (treeL L) := by
  by_cases h0 : L.length = 0
  · rw [nil_tree h0]
    refine ⟨?_, fun i hi => absurd hi (by simp)⟩
    rw [h0]
    rfl
  obtain ⟨T, hT⟩ := tree_bt (L := L) (by omega)
  have hlen := tree_len (L := L)
  have hshp := hT.shp
  have he := hshp.le
  rw [idx_len] at hshp
  have hend : 0 + (2 * L.length - 1) = (treeL L).length := by omega
  rw [hend] at hshp
  refine ⟨?_, fun i hi => hT.all i (Nat.zero_le _) (by rw [idx_len]; omega)⟩
  have hmap : T.leaves.map (itm (treeL L)) = (T.leaves.map fun i => co ((treeL L).getD i 0) 8).map Int.toNat := by rw [List.map_map]; rfl
  have hperm : (T.leaves.map (itm (treeL L))).Perm (List.range L.length) := by
    rw [hmap, ← idx_nat]
    exact hT.its.map _
  obtain ⟨se', h1, _, _⟩ := run_of (se := List.replicate L.length 0) (S := []) hshp.sh (fun i hi => by
    have := hshp.leaf_in i hi
    exact ⟨this.2.2.1, this.2.2.2.1⟩) (hperm.nodup_iff.2 List.nodup_range) (fun k hk => by
      simp only [List.getD, List.getElem?_replicate]
      split <;> rfl) (by simp) (by
      have : (0 : Int) < (L.length : Int) := by omega
      have hne : ¬ L = [] := fun h => h0 (by rw [h]; rfl)
      simp [shRun, this, hne])
  unfold shapedB
  rw [h1]
  simp only [shEnd, Bool.and_true, decide_eq_true_eq]
  omega

/-! ### leaves -/
theorem lvs_eq (l : List Int) : ∀ i, i ≤ l.length → lvs l i = ((l.take i).filter fun b => decide (co b 6 = -1)).map fun b => co b 8
  | 0, _ => rfl
  | i + 1, h => by
    rw [lvs, lvs_eq l i (by omega), List.take_add_one, List.getElem?_eq_getElem (by omega)]
    have hg : l.getD i 0 = l[i] := by simp [List.getD, List.getElem?_eq_getElem (by omega : i < l.length)]
    rw [hg]
    simp only [Option.toList_some, List.filter_append, List.map_append]
    split
    · rename_i hc
      rw [List.filter_cons_of_pos (by simpa using hc)]
      rfl
    · rename_i hc
      rw [List.filter_cons_of_neg (by simpa using hc)]
      simp
theorem lv_built {L : List Int} : ∀ (f : Nat) (s : List Int) (a : Int), 0 ≤ a → 0 < s.length → s.length ≤ f → (((builtN L f s a).filter fun b => decide (co b 6 = -1)).map fun b => co b 8).Perm s
  | 0, s, a, _, h0, h1 => absurd h1 (by omega)
  | f + 1, s, a, ha, h0, h1 => by
    obtain ⟨b0, b1, b2, b3, b4, b5, hb⟩ := six_list (boxOf_len (L := L) h0)
    by_cases h2 : s.length ≤ 1
    · obtain ⟨x, rfl⟩ : ∃ x, s = [x] := by
        match s, h0, h2 with
        | [x], _, _ => exact ⟨x, rfl⟩
      rw [built_one h2, hb, List.filter_cons_of_pos (by rw [decide_eq_true_eq, co_cod]; rfl)]
      simp only [List.filter_nil, List.map_cons, List.map_nil, co_cod]
      exact List.Perm.refl _
    · have l1 : ((halfK L s).take ((s.length + 1) / 2)).length = (s.length + 1) / 2 := by rw [List.length_take, halfK_len]; omega
      have l2 : ((halfK L s).drop ((s.length + 1) / 2)).length = s.length - (s.length + 1) / 2 := by rw [List.length_drop, halfK_len]
      have hperm : ((halfK L s).take ((s.length + 1) / 2) ++ (halfK L s).drop ((s.length + 1) / 2)).Perm s := by
        rw [List.take_append_drop]
        exact sortK_perm _ _ _
      rw [built_two h2, hb]
      rw [List.filter_cons_of_neg (by
        rw [decide_eq_true_eq, co_cod]
        show ¬ a + 1 = -1
        omega), List.filter_append, List.map_append]
      exact ((lv_built f _ _ (by omega) (by omega) (by omega)).append (lv_built f _ _ (by omega) (by omega) (by omega))).trans hperm
theorem tree_lvs (L : List Int) : (lvs (treeL L) (treeL L).length).Perm (idxL L.length) := by
  by_cases h0 : L.length = 0
  · rw [nil_tree h0, h0]
    exact List.Perm.refl _
  · rw [lvs_eq _ _ (Nat.le_refl _), List.take_length]
    exact lv_built _ _ _ (Int.le_refl _) (by rw [idx_len]; omega) (by rw [idx_len]; omega)
theorem tree_leavesE {L : List Int} (h : boxesE L = 0) : leavesE (treeL L) = 0 := by
  have hl := (boxesE_ok h).1
  have := tree_len (L := L)
  unfold leavesE
  rw [if_pos (by omega), (tree_lvs L).length_eq, idx_len, if_pos (tree_at L).shaped]

/-! ### what holds -/
def HoldsP (t L : List Int) : Prop := ∀ i, i < t.length → (co (t.getD i 0) 6 < 0 ∧ (0 ≤ co (t.getD i 0) 8 ∧ co (t.getD i 0) 8 < (L.length : Int)) ∧ six6 (t.getD i 0) = six6 (L.getD (co (t.getD i 0) 8).toNat 0)) ∨
  (0 ≤ co (t.getD i 0) 6 ∧ ((i : Int) < co (t.getD i 0) 6 ∧ co (t.getD i 0) 6 < (t.length : Int)) ∧ ((i : Int) < co (t.getD i 0) 7 ∧ co (t.getD i 0) 7 < (t.length : Int)) ∧
    insideB (six6 (t.getD (co (t.getD i 0) 6).toNat 0) ++ six6 (t.getD i 0)) = true ∧ insideB (six6 (t.getD (co (t.getD i 0) 7).toNat 0) ++ six6 (t.getD i 0)) = true)
theorem inside_join (a b : List Int) (ha : a.length = 6) (hb : b.length = 6) : insideB (a ++ ex6 (joinP (a ++ b))) = true ∧ insideB (b ++ ex6 (joinP (a ++ b))) = true := by
  obtain ⟨a0, a1, a2, a3, a4, a5, rfl⟩ := six_list ha
  obtain ⟨b0, b1, b2, b3, b4, b5, rfl⟩ := six_list hb
  simp only [insideB, joinP, ex6, List.cons_append, List.nil_append, List.getD_cons_zero, List.getD_cons_succ, decide_eq_true_eq]
  omega
theorem holds_at {t L : List Int} (h : TreeAt L t) : HoldsP t L := by
  intro i hi
  have hb := (h.all i hi).2
  unfold rfBox at hb
  rcases shaped_shp h.shaped i hi with hlf | hnd
  · rw [if_pos (by omega)] at hb
    exact .inl ⟨by omega, by omega, hb⟩
  · rw [if_neg (by omega)] at hb
    have := inside_join (six6 (t.getD (co (t.getD i 0) 6).toNat 0)) (six6 (t.getD (co (t.getD i 0) 7).toNat 0)) rfl rfl
    rw [← hb] at this
    exact .inr ⟨by omega, by omega, by omega, this.1, this.2⟩
#print axioms holds_at
#print axioms tree_leavesE
#print axioms chkE_at
#print axioms refit_at
end Go.Proofs.Ytgcoidbaoigkeaa.fix
