/-
  A box turned by its corners.
-/
import Derived.Test.YtgcoidbaoigkeaaDoorFBox
set_option linter.unusedVariables false
set_option linter.unusedSimpArgs false
namespace Go.Proofs.YtgcoidbaoigkeaaDoor.fix
open Go.RowKit Go.Sx

end Go.Proofs.YtgcoidbaoigkeaaDoor.fix
