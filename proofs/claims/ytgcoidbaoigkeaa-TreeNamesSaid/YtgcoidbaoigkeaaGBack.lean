/-
  slices.Backward goes backward over a slice of branches.
-/
import Derived.Test.YtgcoidbaoigkeaaSw0
import Derived.RangeFuncBox
import Derived.RangeFuncLeaves
import Derived.Shelf.Abstract
import Derived.WalkKit
import Derived.OwnWalkIn
import Derived.TacticsInMore
import Derived.LoopNIn
import Derived.LoopIn
import Derived.Test.YtgcoidbaoigkeaaProg
namespace Go.Proofs
open Go.RowKit Go.Shelf Go.Sx
set_option maxRecDepth 100000 in
set_option maxHeartbeats 2000000 in
theorem Ytgcoidbaoigkeaa.back_iter : BackIter Try.prog 71 9 := by
  intro l Bs ad len cap J W hlen hBs hY h0
  have hB0 := hBs _ _ h0
  refine (callsIn_wide (n := 3)).1 (callsIn_of_wp (fn := Try.f71) (by kernel_rfl) (by rfl) trivial ?_ rfl)
  try rw [show Try.f71.ntmps = 19 from rfl]
  simp only [List.size_toArray, List.length_cons, List.length_nil, Nat.reduceAdd, Nat.reduceSub, Array.replicate_succ, Array.replicate_zero, List.push_toArray, List.append_toArray, List.nil_append, List.cons_append]
  gi_wp2
  gi_loopw [3] (fun i wr => ∃ k : Nat, k ≤ len ∧ i = .int .i64 ((k : Int) - 1) ∧ J k wr) (fun i _ => (intOf i + 1).toNat)
  case atStart => exact ⟨len, Nat.le_refl _, rfl, h0⟩
  case round =>
    obtain ⟨k, hk, rfl, hJs⟩ := hrel
    have hBk := hBs _ _ hJs
    by_cases hlt : 0 < k
    · obtain ⟨i, rfl⟩ : ∃ i, k = i + 1 := ⟨k - 1, by omega⟩
      obtain ⟨b, off, cs, rfl, hcs, hcell, hyield⟩ := hY i wr (by omega) hJs
      obtain ⟨fn, tmps, assign, body, hy, hR⟩ := hyield 2
      have hi1 : (((i + 1 : Nat) : Int) - 1) = (i : Int) := by omega
      rw [hi1]
      obtain ⟨c0, c1, c2, c3, c4, c5, c6, c7, c8, rfl⟩ : ∃ c0 c1 c2 c3 c4 c5 c6 c7 c8, cs = [c0, c1, c2, c3, c4, c5, c6, c7, c8] := by
        match cs, hcs with
        | [c0, c1, c2, c3, c4, c5, c6, c7, c8], _ => exact ⟨_, _, _, _, _, _, _, _, _, rfl⟩
      have hc0 := hcell 0 c0 rfl
      have hc1 := hcell 1 c1 rfl
      have hc2 := hcell 2 c2 rfl
      have hc3 := hcell 3 c3 rfl
      have hc4 := hcell 4 c4 rfl
      have hc5 := hcell 5 c5 rfl
      have hc6 := hcell 6 c6 rfl
      have hc7 := hcell 7 c7 rfl
      have hc8 := hcell 8 c8 rfl
      simp only [← Nat.add_assoc, Nat.add_zero] at hc0 hc1 hc2 hc3 hc4 hc5 hc6 hc7 hc8
      clear hcell hyield hY hBs hB0
      gi_wp2
      refine hR.mono ?_
      rintro e W3 ⟨rfl, hJ3⟩
      gi_wp2
      go_roundw
      case rel => exact ⟨i, by omega, by simp, hJ3⟩
      case measure => simp [intOf]
    · obtain rfl : k = 0 := by omega
      gi_wp2
      go_end0
      exact ⟨⟨_, rfl⟩, hJs⟩
end Go.Proofs
