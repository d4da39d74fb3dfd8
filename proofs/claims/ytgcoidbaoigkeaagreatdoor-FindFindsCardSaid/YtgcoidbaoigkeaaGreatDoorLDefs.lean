/-
  The document's answer for what is found: the definitions.
-/
import Derived.Test.YtgcoidbaoigkeaaGreatDoorKDefs
import Derived.Test.YtgcoidbaoigkeaaGreatDoorGTree
set_option linter.unusedVariables false
namespace Go.Proofs.YtgcoidbaoigkeaaGreatDoor.fix
open Go.RowKit Go.Sx

noncomputable def sem_rall := sem_fall
def pin_rall := pin_fall
def pre_rall := pre_fall
def out_rall := out_fall
noncomputable def s_rall : Sum := mkP gl0 21 [Bs, An 16, An 4] [Is, I1] pre_rall sem_rall
def i_rall : Inf := ⟨[some ⟨1, 0⟩], out_rall⟩
noncomputable def sem_rquery := sem_query
def pin_rquery := pin_query
def pre_rquery := pre_query
def out_rquery := out_query
noncomputable def s_rquery : Sum := mkP gl0 22 [Tr, Bs, An 16, An 4] [Is, I1] pre_rquery sem_rquery
def i_rquery : Inf := ⟨[some ⟨1, 0⟩], out_rquery⟩
/-- So much stands below a branch. -/
def below (t : List Int) (i : Int) (k : Nat) : Prop := ∃ (T : BT) (n : Int) (s e : Nat), T.At t n s e ∧ i = (s : Int) ∧ T.size ≤ k
noncomputable def sem_rlooked (x : List Int) : List Int := [lkN (dec (x.getD 0 0)) (x.drop 2) (dec (x.getD 0 0)).length (x.getD 1 0).toNat]
def pin_rlooked : List (Option Iv) := [none, iv 0 1000] ++ zs 20
def pre_rlookedK (k : Nat) (x : List Int) : Prop := vsOK pin_rlooked x ∧ (dec (x.getD 0 0)).length ≤ 1000 ∧ (∀ b ∈ dec (x.getD 0 0), rangeOK Br_ks (dec b)) ∧ below (dec (x.getD 0 0)) (x.getD 1 0) k
def out_rlooked (v : List (Option Iv)) : List (Option Iv) := [iv 0 1000]
noncomputable def s_rlookedK (k : Nat) : Sum := mkP gl0 47 [Tr, I1, An 16, An 4] [I1] (pre_rlookedK k) sem_rlooked
noncomputable def s_rlookedk0 : Sum := s_rlookedK 0
def i_rlookedk0 : Inf := ⟨[some ⟨1, 0⟩], out_rlooked⟩
def pre_rlookedA (x : List Int) : Prop := ∃ k, pre_rlookedK k x
noncomputable def s_rlooked : Sum := mkP gl0 47 [Tr, I1, An 16, An 4] [I1] pre_rlookedA sem_rlooked
def i_rlooked : Inf := ⟨[some ⟨1, 0⟩], out_rlooked⟩
noncomputable def sem_rseen := sem_fseen
def pin_rseen := pin_fseen
def pre_rseen := pre_fseen
def out_rseen := out_fseen
noncomputable def s_rseen : Sum := mkP gl0 24 [Tr, Bs, An 16, An 4] [I1, I1] pre_rseen sem_rseen
def i_rseen : Inf := ⟨[some ⟨1, 0⟩], out_rseen⟩
end Go.Proofs.YtgcoidbaoigkeaaGreatDoor.fix
