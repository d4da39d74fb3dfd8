/-
  Trees that are built, by the program and by the document: the definitions.
-/
import Derived.Test.YtgcoidbaoigkeaaQBOk
set_option linter.unusedVariables false
namespace Go.Proofs.Ytgcoidbaoigkeaa.fix
open Go.RowKit Go.Sx

def idxL (n : Nat) : List Int := (List.range n).map fun (i : Nat) => (i : Int)
noncomputable def treeL (l : List Int) : List Int := builtN l l.length (idxL l.length) 0
noncomputable def sem_tbuild (x : List Int) : List Int := [if boxesE (dec (x.getD 0 0)) = 0 then cod (treeL (dec (x.getD 0 0))) else cod [], boxesE (dec (x.getD 0 0))]
def pin_tbuild : List (Option Iv) := [none]
def pre_tbuild (x : List Int) : Prop := vsOK pin_tbuild x ∧ ∀ b ∈ dec (x.getD 0 0), rangeOK Bs_ks (dec b)
def out_tbuild (v : List (Option Iv)) : List (Option Iv) := [none, iv 0 8]
noncomputable def s_buildK0 : Sum := s_buildK 400
def i_buildK0 : Inf := ⟨[some ⟨1, 0⟩], fun _ => [none, none, none]⟩
noncomputable def s_tbuild : Sum := mkP gl0 22 [Bs] [Tr, I1] pre_tbuild sem_tbuild
def i_tbuild : Inf := ⟨[some ⟨1, 0⟩], out_tbuild⟩
def sem_ralong (x : List Int) : List Int := [x.getD (x.getD 6 0).toNat 0 + x.getD ((x.getD 6 0).toNat + 3) 0]
def pin_ralong : List (Option Iv) := ivs 6 (-32768) 32768 ++ [iv 0 2]
def out_ralong (v : List (Option Iv)) : List (Option Iv) := [iv (-65536) 65536]
def s_ralong : Sum := mkS gl0 107 [An 6, I1] [I1] pin_ralong sem_ralong
def i_ralong : Inf := ⟨pin_ralong, out_ralong⟩
def sem_rlength (x : List Int) : List Int := [x.getD ((x.getD 6 0).toNat + 3) 0 - x.getD (x.getD 6 0).toNat 0]
def pin_rlength : List (Option Iv) := ivs 6 (-32768) 32768 ++ [iv 0 2]
def out_rlength (v : List (Option Iv)) : List (Option Iv) := [iv (-65536) 65536]
def s_rlength : Sum := mkS gl0 80 [An 6, I1] [I1] pin_rlength sem_rlength
def i_rlength : Inf := ⟨pin_rlength, out_rlength⟩
def sem_rjoin (x : List Int) : List Int := ex6 (joinP x)
def pin_rjoin := zs 12
def out_rjoin (v : List (Option Iv)) : List (Option Iv) := [none, none, none, none, none, none]
def s_rjoin : Sum := mkS gl0 46 [An 6, An 6] [An 6] pin_rjoin sem_rjoin
def i_rjoin : Inf := ⟨pin_rjoin, out_rjoin⟩
structure ItemsPre (I L : List Int) : Prop where
  len : I.length ≤ 1000
  its : ∀ x ∈ I, 0 ≤ x ∧ x < (L.length : Int)
  bxs : ∀ b ∈ L, okBox b = true
noncomputable def sem_rsorted (x : List Int) : List Int := [cod (sortK (dec (x.getD 0 0)) (x.getD 2 0).toNat (dec (x.getD 1 0)))]
def pin_rsorted : List (Option Iv) := [none, none, iv 0 2]
def pre_rsorted (x : List Int) : Prop := vsOK pin_rsorted x ∧ ItemsPre (dec (x.getD 1 0)) (dec (x.getD 0 0))
def out_rsorted (v : List (Option Iv)) : List (Option Iv) := [none]
noncomputable def s_rsorted : Sum := mkP gl0 81 [Bs, Is, I1] [Is] pre_rsorted sem_rsorted
def i_rsorted : Inf := ⟨[some ⟨1, 0⟩], out_rsorted⟩
noncomputable def sem_rbuilt (x : List Int) : List Int := [cod (builtN (dec (x.getD 0 0)) (dec (x.getD 1 0)).length (dec (x.getD 1 0)) (x.getD 2 0))]
def pin_rbuilt : List (Option Iv) := [none, none, iv 0 3000]
def pre_rbuilt (k : Nat) (x : List Int) : Prop := (0 < (dec (x.getD 1 0)).length ∧ (dec (x.getD 1 0)).length ≤ k) ∧ vsOK pin_rbuilt x ∧ ItemsPre (dec (x.getD 1 0)) (dec (x.getD 0 0)) ∧ x.getD 2 0 + 2 * ((dec (x.getD 1 0)).length : Int) ≤ 3000
def out_rbuilt (v : List (Option Iv)) : List (Option Iv) := [none]
noncomputable def s_rbuiltK (k : Nat) : Sum := mkP gl0 49 [Bs, Is, I1] [Brs] (pre_rbuilt k) sem_rbuilt
def i_rbuilt0 : Inf := ⟨[some ⟨1, 0⟩], out_rbuilt⟩
noncomputable def s_rbuilt : Sum := s_rbuiltK 400
def i_rbuilt : Inf := ⟨[some ⟨1, 0⟩], out_rbuilt⟩
noncomputable def sem_rtbuild := sem_tbuild
def pin_rtbuild := pin_tbuild
def pre_rtbuild := pre_tbuild
noncomputable def s_rtbuild : Sum := mkP gl0 23 [Bs] [Tr, I1] pre_rtbuild sem_rtbuild
end Go.Proofs.Ytgcoidbaoigkeaa.fix
