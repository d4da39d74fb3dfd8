/-
  The tree of the chapter's three boxes, and what is found by it.
-/
import Derived.Test.YtgcoidbaoigkeaaDoorQTThree
import Derived.Test.YtgcoidbaoigkeaaDoorJLook
set_option linter.unusedVariables false
set_option linter.unusedSimpArgs false
namespace Go.Proofs.YtgcoidbaoigkeaaDoor.fix
open Go.RowKit Go.Sx

noncomputable def three18 : List Int := [cod [-20, -20, 512, 20, 20, 512], cod [3980, -20, 512, 4020, 20, 512], cod [-20, -20, -9, 20, 20, -9]]
theorem tree18 : treeL three18 = [cod [-20, -20, -9, 4020, 20, 512, 1, 4, -1], cod [-20, -20, -9, 20, 20, 512, 2, 3, -1], cod [-20, -20, -9, 20, 20, -9, -1, -1, 2], cod [-20, -20, 512, 20, 20, 512, -1, -1, 0], cod [3980, -20, 512, 4020, 20, 512, -1, -1, 1]] := by
  have hb : ∀ s : List Int, boxOf three18 s = (s.drop 1).foldl (fun b (i : Int) => ex6 (joinP (b ++ [co (three18.getD i.toNat 0) 0, co (three18.getD i.toNat 0) 1, co (three18.getD i.toNat 0) 2, co (three18.getD i.toNat 0) 3, co (three18.getD i.toNat 0) 4, co (three18.getD i.toNat 0) 5]))) (six6 (three18.getD (s.getD 0 0).toNat 0)) := fun s => rfl
  have g0 : three18.getD (Int.toNat 0) 0 = cod [-20, -20, 512, 20, 20, 512] := rfl
  have g1 : three18.getD (Int.toNat 1) 0 = cod [3980, -20, 512, 4020, 20, 512] := rfl
  have g2 : three18.getD (Int.toNat 2) 0 = cod [-20, -20, -9, 20, 20, -9] := rfl
  have s012 : boxOf three18 [0, 1, 2] = [-20, -20, -9, 4020, 20, 512] := by
    simp only [hb, List.drop_succ_cons, List.drop_zero, List.foldl_cons, List.foldl_nil, List.getD_cons_zero, g0, g1, g2, six6, co_cod, List.getD_cons_succ]
    decide
  have s02 : boxOf three18 [0, 2] = [-20, -20, -9, 20, 20, 512] := by
    simp only [hb, List.drop_succ_cons, List.drop_zero, List.foldl_cons, List.foldl_nil, List.getD_cons_zero, g0, g1, g2, six6, co_cod, List.getD_cons_succ]
    decide
  have s1 : boxOf three18 [1] = [3980, -20, 512, 4020, 20, 512] := by
    simp only [hb, List.drop_succ_cons, List.drop_zero, List.drop_nil, List.foldl_cons, List.foldl_nil, List.getD_cons_zero, g0, g1, g2, six6, co_cod, List.getD_cons_succ]
  have s0 : boxOf three18 [0] = [-20, -20, 512, 20, 20, 512] := by
    simp only [hb, List.drop_succ_cons, List.drop_zero, List.drop_nil, List.foldl_cons, List.foldl_nil, List.getD_cons_zero, g0, g1, g2, six6, co_cod, List.getD_cons_succ]
  have s2 : boxOf three18 [2] = [-20, -20, -9, 20, 20, -9] := by
    simp only [hb, List.drop_succ_cons, List.drop_zero, List.drop_nil, List.foldl_cons, List.foldl_nil, List.getD_cons_zero, g0, g1, g2, six6, co_cod, List.getD_cons_succ]
  have hlt : ∀ ax x y, ltK three18 ax x y = decide (co (three18.getD x.toNat 0) ax + co (three18.getD x.toNat 0) (ax + 3) < co (three18.getD y.toNat 0) ax + co (three18.getD y.toNat 0) (ax + 3) ∨ (co (three18.getD x.toNat 0) ax + co (three18.getD x.toNat 0) (ax + 3) = co (three18.getD y.toNat 0) ax + co (three18.getD y.toNat 0) (ax + 3) ∧ x < y)) := fun _ _ _ => rfl
  have h1 : halfK three18 [0, 1, 2] = [0, 2, 1] := halfK_eq 0 s012 rfl (List.Perm.cons 0 (List.Perm.swap 2 1 [])) (by
    simp only [List.pairwise_cons, List.mem_cons, List.not_mem_nil, or_false, forall_eq_or_imp, forall_eq, hlt, g0, g1, g2, co_cod, List.getD_cons_zero, List.getD_cons_succ, Nat.zero_add]
    simp)
  have h2 : halfK three18 [0, 2] = [2, 0] := halfK_eq 2 s02 rfl (List.Perm.swap 2 0 []) (by
    simp only [List.pairwise_cons, List.mem_cons, List.not_mem_nil, or_false, forall_eq_or_imp, forall_eq, hlt, g0, g1, g2, co_cod, List.getD_cons_zero, List.getD_cons_succ, Nat.reduceAdd]
    simp)
  refine (tree_three rfl h1 h2 s012 s02 s2 s0 s1).trans ?_
  simp only [List.cons_append, List.nil_append]
end Go.Proofs.YtgcoidbaoigkeaaDoor.fix
