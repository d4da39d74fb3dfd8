/-
  Lists of boxes, and what is found: the definitions.
-/
import Derived.Test.YtgcoidbaoigkeaaFDefs
set_option linter.unusedVariables false
namespace Go.Proofs.Ytgcoidbaoigkeaa.fix
open Go.RowKit Go.Sx

def Bs_ks : List K := [.i .i64, .i .i64, .i .i64, .i .i64, .i .i64, .i .i64]
def Bs : Sh := ⟨false, [.s 64 [.i .i64, .i .i64, .i .i64, .i .i64, .i .i64, .i .i64]]⟩
def Is : Sh := ⟨false, [.s 3 [.i .i64]]⟩
noncomputable def co (x : Int) (j : Nat) : Int := (dec x).getD j 0
noncomputable def six6 (b : Int) : List Int := [co b 0, co b 1, co b 2, co b 3, co b 4, co b 5]
end Go.Proofs.Ytgcoidbaoigkeaa.fix
