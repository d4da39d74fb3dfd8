/-
  What the laws of trees ask beside: the definitions.
-/
import Derived.Test.YtgcoidbaoigkeaaDoorQTHold
set_option linter.unusedVariables false
namespace Go.Proofs.YtgcoidbaoigkeaaDoor.fix
open Go.RowKit Go.Sx

structure HoldsW (t L : List Int) : Prop where
  len : t.length ≤ 1000
  len' : L.length ≤ 1000
  hold : HoldsP t L
  ok : ∀ i, i < t.length → okBox (t.getD i 0) = true
  okL : ∀ b ∈ L, okBox b = true
end Go.Proofs.YtgcoidbaoigkeaaDoor.fix
set_option linter.unusedVariables false
set_option linter.unusedSimpArgs false
namespace Go.Proofs.YtgcoidbaoigkeaaDoor.fix
open Go.RowKit Go.Sx

theorem sortK_eq {L : List Int} {ax : Nat} {s s' : List Int} (hp : s.Perm s') (hs : s'.Pairwise fun x y => ltK L ax y x = false) : sortK L ax s = s' := by
  have hm := List.pairwise_mergeSort (le := fun x y => !ltK L ax y x) (by
    intro a b c h1 h2
    simp only [ltK, Bool.not_eq_true', decide_eq_false_iff_not] at *
    omega) (by
    intro a b
    simp only [ltK, Bool.or_eq_true, Bool.not_eq_true', decide_eq_false_iff_not]
    omega) s
  refine List.Perm.eq_of_pairwise (le := fun x y => (!ltK L ax y x) = true) ?_ hm (hs.imp fun h => by simp [h]) ((List.mergeSort_perm _ _).trans hp)
  intro a b _ _ h1 h2
  simp only [ltK, Bool.not_eq_true', decide_eq_false_iff_not] at *
  omega
theorem halfK_eq {L : List Int} {s s' b : List Int} (ax : Nat) (hb : boxOf L s = b) (ha : axisOf b = ax) (hp : s.Perm s') (hs : s'.Pairwise fun x y => ltK L ax y x = false) : halfK L s = s' := by
  unfold halfK
  rw [hb, ha]
  exact sortK_eq hp hs
theorem tree_three {L b0 b1 b2 b3 b4 : List Int} {a b c d e : Int} (hl : L.length = 3) (h1 : halfK L [0, 1, 2] = [a, b, c]) (h2 : halfK L [a, b] = [d, e])
    (e0 : boxOf L [0, 1, 2] = b0) (e1 : boxOf L [a, b] = b1) (e2 : boxOf L [d] = b2) (e3 : boxOf L [e] = b3) (e4 : boxOf L [c] = b4) :
    treeL L = [cod (b0 ++ [1, 4, -1]), cod (b1 ++ [2, 3, -1]), cod (b2 ++ [-1, -1, d]), cod (b3 ++ [-1, -1, e]), cod (b4 ++ [-1, -1, c])] := by
  have hi : idxL 3 = [0, 1, 2] := rfl
  unfold treeL
  rw [hl, hi, built_two (by simp)]
  simp only [h1, List.length_cons, List.length_nil, Nat.zero_add, Nat.reduceAdd, Nat.reduceDiv, List.take_succ_cons, List.take_zero, List.drop_succ_cons, List.drop_zero]
  rw [built_two (s := [a, b]) (by simp)]
  simp only [h2, List.length_cons, List.length_nil, Nat.zero_add, Nat.reduceAdd, Nat.reduceDiv, List.take_succ_cons, List.take_zero, List.drop_succ_cons, List.drop_zero]
  rw [built_one (s := [d]) (by simp), built_one (s := [e]) (by simp), built_one (s := [c]) (by simp)]
  rw [e0, e1, e2, e3, e4]
  rfl
end Go.Proofs.YtgcoidbaoigkeaaDoor.fix
