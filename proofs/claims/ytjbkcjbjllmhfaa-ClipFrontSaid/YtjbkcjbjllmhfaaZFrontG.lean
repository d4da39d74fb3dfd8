/-
  What ClipFront comes to, case by case.
-/
import Derived.Test.YtjbkcjbjllmhfaaZClipN
set_option linter.unusedVariables false
namespace Go.Proofs.Ytjbkcjbjllmhfaa.fix
open Go.RowKit Go.Sx
noncomputable def G_ClipFront : List Sum := [s_alive19, s_cnear]
def I_ClipFront : List Inf := [i_alive19, i_cnear]
theorem g_ClipFront : Gok Try.prog G_ClipFront := (more ok_alive19 (one ok_cnear))
theorem o_ClipFront : outsOK G_ClipFront I_ClipFront := (outsOK_cons inf_alive19 (outsOK_cons inf_cnear outsOK_nil))
end Go.Proofs.Ytjbkcjbjllmhfaa.fix
