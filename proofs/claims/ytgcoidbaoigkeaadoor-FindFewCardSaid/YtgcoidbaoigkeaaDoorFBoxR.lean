/-
  A box turned by its corners.
-/
import Derived.Test.YtgcoidbaoigkeaaDoorFBox
set_option linter.unusedVariables false
set_option linter.unusedSimpArgs false
namespace Go.Proofs.YtgcoidbaoigkeaaDoor.fix
open Go.RowKit Go.Sx

theorem low_in {p q r s t u : Int} (hp : -33554432 ≤ p ∧ p ≤ 33554432) (hq : -33554432 ≤ q ∧ q ≤ 33554432) (hr : -33554432 ≤ r ∧ r ≤ 33554432) (hs : -33554432 ≤ s ∧ s ≤ 33554432) (ht : -33554432 ≤ t ∧ t ≤ 33554432) (hu : -33554432 ≤ u ∧ u ≤ 33554432) :
    (-9223372036854775808 ≤ (min p q + min r s + min t u) / 256 ∧ (min p q + min r s + min t u) / 256 ≤ 9223372036854775807) ∧ (-9223372036854775808 ≤ (max p q + max r s + max t u) / 256 ∧ (max p q + max r s + max t u) / 256 ≤ 9223372036854775807) := by omega
end Go.Proofs.YtgcoidbaoigkeaaDoor.fix
