/-
  tree.Build: what it comes to.
-/
import Derived.Test.YtgcoidbaoigkeaaDoorQTDefs
set_option linter.unusedVariables false
set_option linter.unusedSimpArgs false
namespace Go.Proofs.YtgcoidbaoigkeaaDoor.fix
open Go.RowKit Go.Sx

theorem idx_len (n : Nat) : (idxL n).length = n := by simp [idxL]
theorem idx_get {n j : Nat} (h : j < n) : (idxL n).getD j 0 = (j : Int) := by
  simp [idxL, List.getD, h]
theorem idx_mem {n : Nat} {x : Int} : x ∈ idxL n ↔ 0 ≤ x ∧ x < (n : Int) := by
  simp only [idxL, List.mem_map, List.mem_range]
  constructor
  · rintro ⟨a, h, rfl⟩; omega
  · rintro ⟨h1, h2⟩; exact ⟨x.toNat, by omega, by omega⟩
theorem idx_uniq {n : Nat} {l : List Int} (h : l.length = n) (hg : ∀ j, j < n → l.getD j 0 = (j : Int)) : l = idxL n := by
  apply List.ext_getElem?
  intro j
  by_cases hj : j < n
  · have h1 := hg j hj
    have h2 := idx_get hj
    rw [← h2] at h1
    simp only [List.getD, List.getElem?_eq_getElem (by omega : j < l.length), List.getElem?_eq_getElem (by rw [idx_len]; exact hj : j < (idxL n).length), Option.getD_some] at h1
    rw [List.getElem?_eq_getElem (by omega), List.getElem?_eq_getElem (by rw [idx_len]; exact hj), h1]
  · rw [List.getElem?_eq_none (by omega), List.getElem?_eq_none (by rw [idx_len]; omega)]
theorem nil_tree {l : List Int} (h : l.length = 0) : treeL l = [] := by
  obtain rfl : l = [] := List.eq_nil_of_length_eq_zero h
  rfl
theorem seg_all (l : List Int) : segL l 0 (l.length : Int) = l := by simp [segL]
theorem inf_buildK0 : InfOK s_buildK0 i_buildK0 := ⟨fun xs h => (small_not xs h).elim, fun vs xs h hp => vs_none (n := 3) rfl⟩
theorem ok_buildK0 : s_buildK0.okA Tryd.prog := ok_buildK 400
noncomputable def G_tbuild : List Sum := [s_tboxes, s_buildK0]
def I_tbuild : List Inf := [i_tboxes, i_buildK0]
def t_tbuild : TX := (.call 0 [(.v 0)] (.ite (.not (.eq (.v 1) (.c 0))) (.ret [.nl, (.v 1)])
(.asrt (.eq (.ln (.v 0)) (.ln (.v 0))) (.asrt (.le (.c 0) (.ln (.v 0))) (.asrt (.le (.ln (.v 0)) (.c 1000000)) (.loop 2 [none, none] [(.l2 .rep (.ln (.v 0)) (.c 0)), (.c 0)] (.ite (.lt (.v 3) (.ln (.l2 .rep (.ln (.v 0)) (.c 0)))) (.asrt (.le (.c 0) (.v 3)) (.asrt (.lt (.v 3) (.ln (.v 2))) (.back 0 [(.l3 (.v 2) (.v 3) (.v 3)), (.wr .i64 (.add (.v 3) (.c 1)))])))
(.ite (.le (.ln (.v 2)) (.c 0)) (.ret [.nl, (.c 0)])
(.call 1 [.nl, (.v 2), (.v 0), (.c 0), (.ln (.v 2))] (.ret [(.v 4), (.c 0)]))))))))))
theorem tree_tbuild : merge (optFL [] I_tbuild [] pin_tbuild (symFnL Tryd.prog (openAt Tryd.prog [(6, 19)]) gl0 G_tbuild 1000 14 [Bs] [Tr, I1])) = t_tbuild := by kernel_rfl
theorem g_tbuild : Gok Tryd.prog G_tbuild := (more ok_tboxes (fix.oneA ok_buildK0))
theorem o_tbuild : outsOK G_tbuild I_tbuild := (outsOK_cons inf_tboxes (outsOK_cons inf_buildK0 outsOK_nil))
theorem ok_tbuild : s_tbuild.ok Tryd.prog := Sum.okPF (pin := pin_tbuild) facts.mixed g_tbuild o_tbuild tree_tbuild rfl (fun _ => rfl) (fun xs h => h.1) (by
  intro xs hx hp
  obtain ⟨cL, rfl⟩ : ∃ a, xs = [a] := by
    match xs, hx with
    | [a], _ => exact ⟨a, rfl⟩
  simp only [t_tbuild, G_tbuild, s_tboxes, s_buildK0, s_buildK, TX.sat, XB.prop, X.den, List.map_cons, List.map_nil, List.getElem?_cons_zero, List.getElem?_cons_succ, List.cons_append, List.nil_append, List.getD_cons_zero, List.getD_cons_succ, mkS, mkP, and_true, true_and, Int.not_lt, Int.not_le, not_or, not_and, Classical.not_not, ne_eq, not_true_eq_false, not_false_eq_true, sem_tboxes, sem_tbuild, sem_build, L2.den, dec_cod, pre_build, treeL]
  have hp' : ∀ b ∈ dec cL, rangeOK Bs_ks (dec b) := hp.2
  refine ⟨⟨vs_none (n := 1) rfl, hp'⟩, ?_⟩
  clear hp
  generalize dec cL = L at *
  refine ⟨fun h => by rw [if_neg h], fun h => ?_⟩
  have hbx := boxesE_ok h
  have hbok := hbx.2
  have hl := hbx.1
  rw [h, if_pos rfl]
  refine ⟨by omega, by omega, fun ys => ∃ (l : List Int) (i : Nat), ys = [cod l, (i : Int)] ∧ l.length = L.length ∧ i ≤ L.length ∧ ∀ j, j < i → l.getD j 0 = (j : Int), fun ys => L.length - (ys.getD 1 0).toNat, fun xs hx _ => vs_none (n := 2) hx, ?_, ?_⟩
  · refine ⟨List.replicate L.length 0, 0, ?_, by simp, Nat.zero_le _, fun j h => absurd h (by omega)⟩
    simp
  rintro xs hx ⟨l, i, rfl, hll, hi, hg⟩
  simp only [TX.sat, XB.prop, X.den, List.map_cons, List.map_nil, List.getElem?_cons_zero, List.getElem?_cons_succ, List.cons_append, List.nil_append, List.getD_cons_zero, List.getD_cons_succ, mkS, mkP, and_true, true_and, Int.not_lt, Int.not_le, not_or, not_and, Classical.not_not, ne_eq, not_true_eq_false, not_false_eq_true, dec_cod, Int.toNat_natCast]
  refine ⟨fun h1 => ?_, fun h1 => ?_⟩
  · have hlt : i < L.length := by simpa using h1
    have hw : IntKind.i64.wrap ((i : Int) + 1) = ((i + 1 : Nat) : Int) := by rw [wrap64 (by omega) (by omega)]; omega
    rw [hw]
    refine ⟨by omega, by omega, ⟨l.set i (i : Int), i + 1, rfl, by simp [hll], by omega, fun j hj => ?_⟩, by omega⟩
    rw [getD_set]
    by_cases hji : i = j
    · rw [if_pos ⟨hji, by omega⟩, hji]
    · rw [if_neg (fun hh => hji hh.1)]
      exact hg j (by omega)
  · have hge : i = L.length := by
      have : L.length ≤ i := by simpa using h1
      omega
    have hidx := idx_uniq hll (fun j hj => hg j (by omega))
    subst hidx
    rw [idx_len]
    refine ⟨fun h2 => ?_, fun h2 => ?_⟩
    · rw [show L.length = 0 by omega]
      rfl
    · have hseg : segL (idxL L.length) 0 (L.length : Int) = idxL L.length := by
        have := seg_all (idxL L.length)
        rwa [idx_len] at this
      refine ⟨⟨by omega, by omega, by rw [idx_len]; omega, by omega, by rw [idx_len]; omega, by simp; omega, ?_, hbok⟩, ?_⟩
      · rw [hseg]
        intro x hx
        exact idx_mem.1 hx
      · rw [hseg, show ((L.length : Int) - 0).toNat = L.length by omega]
        simp)
theorem inf_tbuild : InfOK s_tbuild i_tbuild := ⟨fun xs h => (small_not xs h).elim, fun vs xs h hp => vsOK_cons trivial (vsOK_cons (boxesE_iv _) vsOK_nil)⟩
#print axioms ok_tbuild
end Go.Proofs.YtgcoidbaoigkeaaDoor.fix
