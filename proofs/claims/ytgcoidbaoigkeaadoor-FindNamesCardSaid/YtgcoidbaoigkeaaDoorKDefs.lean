/-
  The document's answer for trees: the definitions.
-/
import Derived.Test.YtgcoidbaoigkeaaDoorGDefs
set_option linter.unusedVariables false
namespace Go.Proofs.YtgcoidbaoigkeaaDoor.fix
open Go.RowKit Go.Sx

noncomputable def lvs (l : List Int) : Nat → List Int
  | 0 => []
  | i + 1 => if co (l.getD i 0) 6 = -1 then lvs l i ++ [co (l.getD i 0) 8] else lvs l i
noncomputable def leavesE (l : List Int) : Int := if l.length ≤ 511 then (if shapedB l ((lvs l l.length).length : Int) = true then 0 else 8) else 4
end Go.Proofs.YtgcoidbaoigkeaaDoor.fix
