/-
  Lists of points: the definitions.
-/
import Derived.Test.YtjbkcjbjllmhfaaZDefs
set_option linter.unusedVariables false
namespace Go.Proofs.Ytjbkcjbjllmhfaa.fix
open Go.RowKit Go.Sx

/-- A list of points. -/
def Vs : Sh := ⟨false, [.s 23 [.i .i64, .i .i64, .i .i64]]⟩
noncomputable def co (x : Int) (j : Nat) : Int := (dec x).getD j 0
noncomputable def okP (x : Int) : Bool := decide ((-32768 ≤ co x 0 ∧ co x 0 ≤ 32768) ∧ (-32768 ≤ co x 1 ∧ co x 1 ≤ 32768) ∧ (-32768 ≤ co x 2 ∧ co x 2 ≤ 32768))
noncomputable def joinV (b : List Int) (x : Int) : List Int := [min (b.getD 0 0) (co x 0), min (b.getD 1 0) (co x 1), min (b.getD 2 0) (co x 2), max (b.getD 3 0) (co x 0), max (b.getD 4 0) (co x 1), max (b.getD 5 0) (co x 2)]
noncomputable def boxV (x : Int) : List Int := [co x 0, co x 1, co x 2, co x 0, co x 1, co x 2]
noncomputable def leastL : List Int → List Int
  | [] => [0, 0, 0, 0, 0, 0]
  | x :: l => l.foldl joinV (boxV x)
noncomputable def ofL (l : List Int) : List Int := if 1 ≤ l.length ∧ l.length ≤ 4096 then (if l.all okP = true then leastL l ++ [0] else [0, 0, 0, 0, 0, 0, 20]) else [0, 0, 0, 0, 0, 0, 4]
noncomputable def sem_bof (x : List Int) : List Int := ex7 (ofL (dec (x.getD 0 0)))
def out_bof (v : List (Option Iv)) : List (Option Iv) := ivs 6 (-32768) 32768 ++ [iv 0 20]
noncomputable def s_bof : Sum := mkS gl0 18 [Vs] [An 6, I1] [none] sem_bof
def i_bof : Inf := ⟨[none], out_bof⟩
noncomputable def sem_rbof (x : List Int) : List Int := sem_bof x
def out_rbof (v : List (Option Iv)) : List (Option Iv) := ivs 6 (-32768) 32768 ++ [iv 0 20]
noncomputable def s_rbof : Sum := mkS gl0 19 [Vs] [An 6, I1] [none] sem_rbof
def i_rbof : Inf := ⟨[none], out_rbof⟩
end Go.Proofs.Ytjbkcjbjllmhfaa.fix
