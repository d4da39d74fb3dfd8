/-
  Trees: plain law.
-/
import Derived.Test.YtgcoidbaoigkeaaDoorKPlain
import Derived.Test.YtgcoidbaoigkeaaDoorHRefit
set_option linter.unusedVariables false
set_option linter.unusedSimpArgs false
namespace Go.Proofs.YtgcoidbaoigkeaaDoor.fix
open Go.RowKit Go.Sx

end Go.Proofs.YtgcoidbaoigkeaaDoor.fix
