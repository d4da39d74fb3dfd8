/-
  The chapter's boxes, camera and window, as functions.
-/
import Derived.Test.YtgcoidbaoigkeaaDoorQFNames
set_option linter.unusedVariables false
set_option linter.unusedSimpArgs false
namespace Go.Proofs.YtgcoidbaoigkeaaDoor.fix
open Go.RowKit Go.Sx

noncomputable def sem_three18f (x : List Int) : List Int := [cod three18]
def out_three18f (v : List (Option Iv)) : List (Option Iv) := [none]
noncomputable def s_three18f : Sum := mkS gl0 15 [] [Bs] [] sem_three18f
def i_three18f : Inf := ⟨[], out_three18f⟩
def sem_eye18 (x : List Int) : List Int := [0, 0, 0, 256, 0, 0, 0, 256, 0, 0, 0, 256, 64, 256, 64, 64]
def pin_eye18 : List (Option Iv) := []
def out_eye18 (v : List (Option Iv)) : List (Option Iv) := [iv 0 0, iv 0 0, iv 0 0, iv 256 256, iv 0 0, iv 0 0, iv 0 0, iv 256 256, iv 0 0, iv 0 0, iv 0 0, iv 256 256, iv 64 64, iv 256 256, iv 64 64, iv 64 64]
def s_eye18 : Sum := mkS gl0 16 [] [An 16] pin_eye18 sem_eye18
def i_eye18 : Inf := ⟨pin_eye18, out_eye18⟩
def sem_all18 (x : List Int) : List Int := [0, 0, 63, 63]
def pin_all18 : List (Option Iv) := []
def out_all18 (v : List (Option Iv)) : List (Option Iv) := [iv 0 0, iv 0 0, iv 63 63, iv 63 63]
def s_all18 : Sum := mkS gl0 17 [] [An 4] pin_all18 sem_all18
def i_all18 : Inf := ⟨pin_all18, out_all18⟩
end Go.Proofs.YtgcoidbaoigkeaaDoor.fix
