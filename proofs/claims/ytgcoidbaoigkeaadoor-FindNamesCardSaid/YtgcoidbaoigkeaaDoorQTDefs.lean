/-
  Trees that are built, by the program and by the document: the definitions.
-/
import Derived.Test.YtgcoidbaoigkeaaDoorQBOk
set_option linter.unusedVariables false
namespace Go.Proofs.YtgcoidbaoigkeaaDoor.fix
open Go.RowKit Go.Sx

def idxL (n : Nat) : List Int := (List.range n).map fun (i : Nat) => (i : Int)
noncomputable def treeL (l : List Int) : List Int := builtN l l.length (idxL l.length) 0
noncomputable def sem_tbuild (x : List Int) : List Int := [if boxesE (dec (x.getD 0 0)) = 0 then cod (treeL (dec (x.getD 0 0))) else cod [], boxesE (dec (x.getD 0 0))]
def pin_tbuild : List (Option Iv) := [none]
def pre_tbuild (x : List Int) : Prop := vsOK pin_tbuild x ∧ ∀ b ∈ dec (x.getD 0 0), rangeOK Bs_ks (dec b)
def out_tbuild (v : List (Option Iv)) : List (Option Iv) := [none, iv 0 8]
noncomputable def s_buildK0 : Sum := s_buildK 400
def i_buildK0 : Inf := ⟨[some ⟨1, 0⟩], fun _ => [none, none, none]⟩
noncomputable def s_tbuild : Sum := mkP gl0 14 [Bs] [Tr, I1] pre_tbuild sem_tbuild
def i_tbuild : Inf := ⟨[some ⟨1, 0⟩], out_tbuild⟩
structure ItemsPre (I L : List Int) : Prop where
  len : I.length ≤ 1000
  its : ∀ x ∈ I, 0 ≤ x ∧ x < (L.length : Int)
  bxs : ∀ b ∈ L, okBox b = true
end Go.Proofs.YtgcoidbaoigkeaaDoor.fix
