/-
  What the functions of boxes and of clipping come to: the definitions.
-/
import Derived.Test.YtgcoidbaoigkeaaSwY
import Derived.Test.YtgcoidbaoigkeaaSwZ
set_option linter.unusedVariables false
namespace Go.Proofs.Ytgcoidbaoigkeaa.fix
open Go.RowKit Go.Sx

def gl0 : List (Nat × List Int) := []
def zz : Option Iv := some i64v
def zs (n : Nat) : List (Option Iv) := List.replicate n zz
def iv (a b : Int) : Option Iv := some ⟨a, b⟩
def ivs (n : Nat) (a b : Int) : List (Option Iv) := List.replicate n (iv a b)
def ex3 (l : List Int) : List Int := [l.getD 0 0, l.getD 1 0, l.getD 2 0]
def ex4 (l : List Int) : List Int := [l.getD 0 0, l.getD 1 0, l.getD 2 0, l.getD 3 0]
def ex5 (l : List Int) : List Int := [l.getD 0 0, l.getD 1 0, l.getD 2 0, l.getD 3 0, l.getD 4 0]
def ex6 (l : List Int) : List Int := [l.getD 0 0, l.getD 1 0, l.getD 2 0, l.getD 3 0, l.getD 4 0, l.getD 5 0]
def ex7 (l : List Int) : List Int := [l.getD 0 0, l.getD 1 0, l.getD 2 0, l.getD 3 0, l.getD 4 0, l.getD 5 0, l.getD 6 0]
def ex13 (l : List Int) : List Int := [l.getD 0 0, l.getD 1 0, l.getD 2 0, l.getD 3 0, l.getD 4 0, l.getD 5 0, l.getD 6 0, l.getD 7 0, l.getD 8 0, l.getD 9 0, l.getD 10 0, l.getD 11 0, l.getD 12 0]
def ex16 (l : List Int) : List Int := [l.getD 0 0, l.getD 1 0, l.getD 2 0, l.getD 3 0, l.getD 4 0, l.getD 5 0, l.getD 6 0, l.getD 7 0, l.getD 8 0, l.getD 9 0, l.getD 10 0, l.getD 11 0, l.getD 12 0, l.getD 13 0, l.getD 14 0, l.getD 15 0]
def er (b : Bool) (e : Int) : Int := if b = true then 0 else e
def b01 (b : Bool) : Int := if b = true then 1 else 0

/-! ### fixed -/
/-! ### vec -/
def all3 (m : Int) (x : List Int) (o : Nat) : Bool := decide ((-m ≤ x.getD o 0 ∧ x.getD o 0 ≤ m) ∧ (-m ≤ x.getD (o + 1) 0 ∧ x.getD (o + 1) 0 ≤ m) ∧ (-m ≤ x.getD (o + 2) 0 ∧ x.getD (o + 2) 0 ≤ m))
/-! ### box -/
def boxB (x : List Int) (o : Nat) : Bool := all3 32768 x o && (all3 32768 x (o + 3) && decide (x.getD o 0 ≤ x.getD (o + 3) 0 ∧ x.getD (o + 1) 0 ≤ x.getD (o + 4) 0 ∧ x.getD (o + 2) 0 ≤ x.getD (o + 5) 0))
def sem_bcheck (x : List Int) : List Int := [er (boxB x 0) 8]
def pin_bcheck := zs 6
def out_bcheck (v : List (Option Iv)) : List (Option Iv) := [iv 0 8]
def s_bcheck : Sum := mkS gl0 70 [An 6] [I1] pin_bcheck sem_bcheck
def i_bcheck : Inf := ⟨pin_bcheck, out_bcheck⟩
def z7 (e : Int) : List Int := [0, 0, 0, 0, 0, 0, e]
def insideB (x : List Int) : Bool := decide ((x.getD 6 0 ≤ x.getD 0 0 ∧ x.getD 7 0 ≤ x.getD 1 0 ∧ x.getD 8 0 ≤ x.getD 2 0) ∧ (x.getD 3 0 ≤ x.getD 9 0 ∧ x.getD 4 0 ≤ x.getD 10 0 ∧ x.getD 5 0 ≤ x.getD 11 0))
def sem_inside (x : List Int) : List Int := [b01 (insideB x)]
def pin_inside := zs 12
def out_inside (v : List (Option Iv)) : List (Option Iv) := [iv 0 1]
def s_inside : Sum := mkS gl0 50 [An 6, An 6] [Bo] pin_inside sem_inside
def i_inside : Inf := ⟨pin_inside, out_inside⟩
/-! ### camera -/
/-! ### frustum -/
/-! ### examples that live -/
end Go.Proofs.Ytgcoidbaoigkeaa.fix
