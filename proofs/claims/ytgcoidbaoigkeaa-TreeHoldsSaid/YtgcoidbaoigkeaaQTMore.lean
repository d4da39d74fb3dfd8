/-
  What the laws of trees ask beside: the definitions.
-/
import Derived.Test.YtgcoidbaoigkeaaQTHold
set_option linter.unusedVariables false
namespace Go.Proofs.Ytgcoidbaoigkeaa.fix
open Go.RowKit Go.Sx

def sem_alive16 (x : List Int) : List Int := [1]
def pin_alive16 : List (Option Iv) := []
def out_alive16 (v : List (Option Iv)) : List (Option Iv) := [iv 0 1]
def s_alive16 : Sum := mkS gl0 24 [] [Bo] pin_alive16 sem_alive16
def i_alive16 : Inf := ⟨pin_alive16, out_alive16⟩
def sem_holds (x : List Int) : List Int := [1]
def pin_holds : List (Option Iv) := [none, none]
structure HoldsW (t L : List Int) : Prop where
  len : t.length ≤ 1000
  len' : L.length ≤ 1000
  hold : HoldsP t L
  ok : ∀ i, i < t.length → okBox (t.getD i 0) = true
  okL : ∀ b ∈ L, okBox b = true
def pre_holds (x : List Int) : Prop := vsOK pin_holds x ∧ HoldsW (dec (x.getD 0 0)) (dec (x.getD 1 0))
def out_holds (v : List (Option Iv)) : List (Option Iv) := [iv 0 1]
noncomputable def s_holds : Sum := mkP gl0 27 [Tr, Bs] [Bo] pre_holds sem_holds
def i_holds : Inf := ⟨[some ⟨1, 0⟩], out_holds⟩
end Go.Proofs.Ytgcoidbaoigkeaa.fix
