/-
  What is found in lists of boxes.
-/
import Derived.Test.YtgcoidbaoigkeaaFBox
import Derived.Test.YtgcoidbaoigkeaaFDefsL
set_option linter.unusedVariables false
set_option linter.unusedSimpArgs false
namespace Go.Proofs.Ytgcoidbaoigkeaa.fix
open Go.RowKit Go.Sx

theorem dec_nil : dec (cod ([] : List Int)) = [] := dec_cod _
theorem vs_none {n : Nat} {xs : List Int} (h : xs.length = n) : vsOK (List.replicate n none) xs := by
  refine ⟨by simp [h], fun i => ?_⟩
  have : (List.replicate n (none : Option Iv)).getD i none = none := by
    simp only [List.getD, List.getElem?_replicate]
    split <;> rfl
  rw [this]
  trivial
theorem all_upto {p : Int → Bool} {l : List Int} {i : Nat} (h : ∀ j, j < i → p (l.getD j 0) = true) (hi : l.length ≤ i) : l.all p = true := by
  rw [List.all_eq_true]
  intro x hx
  obtain ⟨j, hj, rfl⟩ := List.getElem_of_mem hx
  have := h j (by omega)
  rwa [show l.getD j 0 = l[j] by simp [List.getD, hj]] at this
theorem not_all {p : Int → Bool} {l : List Int} {i : Nat} (hi : i < l.length) (h : ¬ p (l.getD i 0) = true) : ¬ l.all p = true := by
  rw [List.all_eq_true]
  intro hh
  refine h (hh _ ?_)
  rw [show l.getD i 0 = l[i] by simp [List.getD, hi]]
  exact List.getElem_mem hi
theorem mem_at {l : List Int} {i : Nat} (hi : i < l.length) : l.getD i 0 ∈ l := by
  rw [show l.getD i 0 = l[i] by simp [List.getD, hi]]
  exact List.getElem_mem hi
theorem six_in {b : Int} (h : rangeOK Bs_ks (dec b)) : ivHas zz (co b 0) ∧ ivHas zz (co b 1) ∧ ivHas zz (co b 2) ∧ ivHas zz (co b 3) ∧ ivHas zz (co b 4) ∧ ivHas zz (co b 5) := by
  have := range_vs h
  exact ⟨this.2 0, this.2 1, this.2 2, this.2 3, this.2 4, this.2 5⟩
theorem zc (n : Int) (h : -9223372036854775808 ≤ n) (h' : n ≤ 9223372036854775807) : ivHas zz n := ⟨h, h'⟩
end Go.Proofs.Ytgcoidbaoigkeaa.fix
