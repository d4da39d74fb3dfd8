/-
  What the laws of trees ask beside: the definitions.
-/
import Derived.Test.YtgcoidbaoigkeaaQTHold
set_option linter.unusedVariables false
namespace Go.Proofs.Ytgcoidbaoigkeaa.fix
open Go.RowKit Go.Sx

def sem_alive16 (x : List Int) : List Int := [1]
def pin_alive16 : List (Option Iv) := []
def out_alive16 (v : List (Option Iv)) : List (Option Iv) := [iv 0 1]
def s_alive16 : Sum := mkS gl0 24 [] [Bo] pin_alive16 sem_alive16
def i_alive16 : Inf := ⟨pin_alive16, out_alive16⟩
def sem_holds (x : List Int) : List Int := [1]
def pin_holds : List (Option Iv) := [none, none]
structure HoldsW (t L : List Int) : Prop where
  len : t.length ≤ 1000
  len' : L.length ≤ 1000
  hold : HoldsP t L
  ok : ∀ i, i < t.length → okBox (t.getD i 0) = true
  okL : ∀ b ∈ L, okBox b = true
def pre_holds (x : List Int) : Prop := vsOK pin_holds x ∧ HoldsW (dec (x.getD 0 0)) (dec (x.getD 1 0))
noncomputable def s_holds : Sum := mkP gl0 27 [Tr, Bs] [Bo] pre_holds sem_holds
end Go.Proofs.Ytgcoidbaoigkeaa.fix
set_option linter.unusedVariables false
set_option linter.unusedSimpArgs false
namespace Go.Proofs.Ytgcoidbaoigkeaa.fix
open Go.RowKit Go.Sx

theorem sortK_eq {L : List Int} {ax : Nat} {s s' : List Int} (hp : s.Perm s') (hs : s'.Pairwise fun x y => ltK L ax y x = false) : sortK L ax s = s' := by
  have hm := List.pairwise_mergeSort (le := fun x y => !ltK L ax y x) (by
    intro a b c h1 h2
    simp only [ltK, Bool.not_eq_true', decide_eq_false_iff_not] at *
    omega) (by
    intro a b
    simp only [ltK, Bool.or_eq_true, Bool.not_eq_true', decide_eq_false_iff_not]
    omega) s
  refine List.Perm.eq_of_pairwise (le := fun x y => (!ltK L ax y x) = true) ?_ hm (hs.imp fun h => by simp [h]) ((List.mergeSort_perm _ _).trans hp)
  intro a b _ _ h1 h2
  simp only [ltK, Bool.not_eq_true', decide_eq_false_iff_not] at *
  omega
theorem halfK_eq {L : List Int} {s s' b : List Int} (ax : Nat) (hb : boxOf L s = b) (ha : axisOf b = ax) (hp : s.Perm s') (hs : s'.Pairwise fun x y => ltK L ax y x = false) : halfK L s = s' := by
  unfold halfK
  rw [hb, ha]
  exact sortK_eq hp hs
theorem tree_three {L b0 b1 b2 b3 b4 : List Int} {a b c d e : Int} (hl : L.length = 3) (h1 : halfK L [0, 1, 2] = [a, b, c]) (h2 : halfK L [a, b] = [d, e])
    (e0 : boxOf L [0, 1, 2] = b0) (e1 : boxOf L [a, b] = b1) (e2 : boxOf L [d] = b2) (e3 : boxOf L [e] = b3) (e4 : boxOf L [c] = b4) :
    treeL L = [cod (b0 ++ [1, 4, -1]), cod (b1 ++ [2, 3, -1]), cod (b2 ++ [-1, -1, d]), cod (b3 ++ [-1, -1, e]), cod (b4 ++ [-1, -1, c])] := by
  have hi : idxL 3 = [0, 1, 2] := rfl
  unfold treeL
  rw [hl, hi, built_two (by simp)]
  simp only [h1, List.length_cons, List.length_nil, Nat.zero_add, Nat.reduceAdd, Nat.reduceDiv, List.take_succ_cons, List.take_zero, List.drop_succ_cons, List.drop_zero]
  rw [built_two (s := [a, b]) (by simp)]
  simp only [h2, List.length_cons, List.length_nil, Nat.zero_add, Nat.reduceAdd, Nat.reduceDiv, List.take_succ_cons, List.take_zero, List.drop_succ_cons, List.drop_zero]
  rw [built_one (s := [d]) (by simp), built_one (s := [e]) (by simp), built_one (s := [c]) (by simp)]
  rw [e0, e1, e2, e3, e4]
  rfl
noncomputable def three16 : List Int := [cod [5, 0, 0, 5, 0, 0], cod [1, 0, 0, 1, 0, 0], cod [9, 0, 0, 9, 0, 0]]
theorem tree16 : treeL three16 = [cod [1, 0, 0, 9, 0, 0, 1, 4, -1], cod [1, 0, 0, 5, 0, 0, 2, 3, -1], cod [1, 0, 0, 1, 0, 0, -1, -1, 1], cod [5, 0, 0, 5, 0, 0, -1, -1, 0], cod [9, 0, 0, 9, 0, 0, -1, -1, 2]] := by
  have hb : ∀ s : List Int, boxOf three16 s = (s.drop 1).foldl (fun b (i : Int) => ex6 (joinP (b ++ [co (three16.getD i.toNat 0) 0, co (three16.getD i.toNat 0) 1, co (three16.getD i.toNat 0) 2, co (three16.getD i.toNat 0) 3, co (three16.getD i.toNat 0) 4, co (three16.getD i.toNat 0) 5]))) (six6 (three16.getD (s.getD 0 0).toNat 0)) := fun s => rfl
  have g0 : three16.getD (Int.toNat 0) 0 = cod [5, 0, 0, 5, 0, 0] := rfl
  have g1 : three16.getD (Int.toNat 1) 0 = cod [1, 0, 0, 1, 0, 0] := rfl
  have g2 : three16.getD (Int.toNat 2) 0 = cod [9, 0, 0, 9, 0, 0] := rfl
  have s012 : boxOf three16 [0, 1, 2] = [1, 0, 0, 9, 0, 0] := by
    simp only [hb, List.drop_succ_cons, List.drop_zero, List.foldl_cons, List.foldl_nil, List.getD_cons_zero, g0, g1, g2, six6, co_cod, List.getD_cons_succ]
    decide
  have s10 : boxOf three16 [1, 0] = [1, 0, 0, 5, 0, 0] := by
    simp only [hb, List.drop_succ_cons, List.drop_zero, List.foldl_cons, List.foldl_nil, List.getD_cons_zero, g0, g1, g2, six6, co_cod, List.getD_cons_succ]
    decide
  have s1 : boxOf three16 [1] = [1, 0, 0, 1, 0, 0] := by
    simp only [hb, List.drop_succ_cons, List.drop_zero, List.drop_nil, List.foldl_cons, List.foldl_nil, List.getD_cons_zero, g0, g1, g2, six6, co_cod, List.getD_cons_succ]
  have s0 : boxOf three16 [0] = [5, 0, 0, 5, 0, 0] := by
    simp only [hb, List.drop_succ_cons, List.drop_zero, List.drop_nil, List.foldl_cons, List.foldl_nil, List.getD_cons_zero, g0, g1, g2, six6, co_cod, List.getD_cons_succ]
  have s2 : boxOf three16 [2] = [9, 0, 0, 9, 0, 0] := by
    simp only [hb, List.drop_succ_cons, List.drop_zero, List.drop_nil, List.foldl_cons, List.foldl_nil, List.getD_cons_zero, g0, g1, g2, six6, co_cod, List.getD_cons_succ]
  have hlt : ∀ x y, ltK three16 0 x y = decide (co (three16.getD x.toNat 0) 0 + co (three16.getD x.toNat 0) 3 < co (three16.getD y.toNat 0) 0 + co (three16.getD y.toNat 0) 3 ∨ (co (three16.getD x.toNat 0) 0 + co (three16.getD x.toNat 0) 3 = co (three16.getD y.toNat 0) 0 + co (three16.getD y.toNat 0) 3 ∧ x < y)) := fun _ _ => rfl
  have h1 : halfK three16 [0, 1, 2] = [1, 0, 2] := halfK_eq 0 s012 rfl (List.Perm.swap 1 0 [2]) (by
    simp only [List.pairwise_cons, List.mem_cons, List.not_mem_nil, or_false, forall_eq_or_imp, forall_eq, hlt, g0, g1, g2, co_cod, List.getD_cons_zero, List.getD_cons_succ]
    simp)
  have h2 : halfK three16 [1, 0] = [1, 0] := halfK_eq 0 s10 rfl (List.Perm.refl _) (by
    simp only [List.pairwise_cons, List.mem_cons, List.not_mem_nil, or_false, forall_eq_or_imp, forall_eq, hlt, g0, g1, g2, co_cod, List.getD_cons_zero, List.getD_cons_succ]
    simp)
  refine (tree_three rfl h1 h2 s012 s10 s1 s0 s2).trans ?_
  simp only [List.cons_append, List.nil_append]
end Go.Proofs.Ytgcoidbaoigkeaa.fix
