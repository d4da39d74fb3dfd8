/-
  What the functions on spans come to: the definitions.
-/
import Derived.Test.YtlgcjkolakcfiaaBase
set_option linter.unusedVariables false
namespace Go.Proofs.Ytlgcjkolakcfiaa.fix
open Go.RowKit Go.Sx
def spanB (x : List Int) (o : Nat) : Bool := decide (-1099511627776 ≤ x.getD o 0 ∧ x.getD (o + 1) 0 ≤ 1099511627776 ∧ x.getD o 0 ≤ x.getD (o + 1) 0)
theorem spanB_true {x : List Int} {o : Nat} : spanB x o = true ↔ (-1099511627776 ≤ x.getD o 0 ∧ x.getD (o + 1) 0 ≤ 1099511627776 ∧ x.getD o 0 ≤ x.getD (o + 1) 0) := decide_eq_true_iff
def pin_fcheck := zs 2
def sem_fcheck (x : List Int) : List Int := [er (spanB x 0) 8]
def out_fcheck (v : List (Option Iv)) : List (Option Iv) := [iv 0 8]
def s_fcheck : Sum := mkS 61 [An 2] [I1] pin_fcheck sem_fcheck
def i_fcheck : Inf := ⟨pin_fcheck, out_fcheck⟩
def wide : List (Option Iv) := ivs 2 (-1099511627776) 1099511627776 ++ [iv 0 20]
def faddL (x : List Int) : List Int := if spanB x 0 = true then if spanB x 2 = true then if spanB [x.getD 0 0 + x.getD 2 0, x.getD 1 0 + x.getD 3 0] 0 = true then [x.getD 0 0 + x.getD 2 0, x.getD 1 0 + x.getD 3 0, 0] else [0, 0, 20] else [0, 0, 8] else [0, 0, 8]
def pin_fadd := zs 4
def sem_fadd (x : List Int) : List Int := ex3 (faddL x)
def out_fadd (v : List (Option Iv)) : List (Option Iv) := wide
def s_fadd : Sum := mkS 53 [An 2, An 2] [An 2, I1] pin_fadd sem_fadd
def i_fadd : Inf := ⟨pin_fadd, out_fadd⟩
def scB (x : List Int) : List Int := [min (x.getD 2 0 * x.getD 0 0) (x.getD 2 0 * x.getD 1 0), max (x.getD 2 0 * x.getD 0 0) (x.getD 2 0 * x.getD 1 0), 0]
def fscaleL (x : List Int) : List Int := if spanB x 0 = true then if -1048576 ≤ x.getD 2 0 ∧ x.getD 2 0 ≤ 1048576 then if spanB (scB x) 0 = true then scB x else [0, 0, 20] else [0, 0, 2] else [0, 0, 8]
def pin_fscale := zs 3
def sem_fscale (x : List Int) : List Int := ex3 (fscaleL x)
def out_fscale (v : List (Option Iv)) : List (Option Iv) := wide
def s_fscale : Sum := mkS 55 [An 2, I1] [An 2, I1] pin_fscale sem_fscale
def i_fscale : Inf := ⟨pin_fscale, out_fscale⟩
def fdivL (x : List Int) : List Int := if spanB x 0 = true then if 1 ≤ x.getD 2 0 ∧ x.getD 2 0 ≤ 1099511627776 then [x.getD 0 0 / x.getD 2 0, x.getD 1 0 / x.getD 2 0, 0] else [0, 0, 2] else [0, 0, 8]
def pin_fdiv := zs 3
def sem_fdiv (x : List Int) : List Int := ex3 (fdivL x)
def out_fdiv (v : List (Option Iv)) : List (Option Iv) := wide
def s_fdiv : Sum := mkS 57 [An 2, I1] [An 2, I1] pin_fdiv sem_fdiv
def i_fdiv : Inf := ⟨pin_fdiv, out_fdiv⟩
def fjoinL (x : List Int) : List Int := if spanB x 0 = true then if spanB x 2 = true then [min (x.getD 0 0) (x.getD 2 0), max (x.getD 1 0) (x.getD 3 0), 0] else [0, 0, 8] else [0, 0, 8]
def pin_fjoin := zs 4
def sem_fjoin (x : List Int) : List Int := ex3 (fjoinL x)
def out_fjoin (v : List (Option Iv)) : List (Option Iv) := wide
def s_fjoin : Sum := mkS 59 [An 2, An 2] [An 2, I1] pin_fjoin sem_fjoin
def i_fjoin : Inf := ⟨pin_fjoin, out_fjoin⟩
def holdsB (x : List Int) : Bool := decide (x.getD 0 0 ≤ x.getD 2 0 ∧ x.getD 2 0 ≤ x.getD 1 0)
def pin_fholds := zs 3
def sem_fholds (x : List Int) : List Int := [b01 (holdsB x)]
def out_fholds (v : List (Option Iv)) : List (Option Iv) := [iv 0 1]
def s_fholds : Sum := mkS 63 [An 2, I1] [Bo] pin_fholds sem_fholds
def i_fholds : Inf := ⟨pin_fholds, out_fholds⟩
def pin_floorG := zs 2
def floorGL (x : List Int) : List Int := if x.getD 1 0 < 1 then [0, 2] else [x.getD 0 0 / x.getD 1 0, 0]
def sem_floorG (x : List Int) : List Int := [(floorGL x).getD 0 0, (floorGL x).getD 1 0]
def out_floorG (v : List (Option Iv)) : List (Option Iv) := [hull0 (v.getD 0 none), iv 0 2]
def s_floorG : Sum := mkS 36 [I1, I1] [I1, I1] pin_floorG sem_floorG
def i_floorG : Inf := ⟨pin_floorG, out_floorG⟩
end Go.Proofs.Ytlgcjkolakcfiaa.fix
