/-
  The document's answer for trees: the definitions.
-/
import Derived.Test.YtgcoidbaoigkeaaGDefs
set_option linter.unusedVariables false
namespace Go.Proofs.Ytgcoidbaoigkeaa.fix
open Go.RowKit Go.Sx

def sem_rbmay (x : List Int) : List Int := [b01 (boxB x 0)]
def pin_rbmay := zs 6
def out_rbmay (v : List (Option Iv)) : List (Option Iv) := [iv 0 1]
def s_rbmay : Sum := mkS gl0 73 [An 6] [Bo] pin_rbmay sem_rbmay
def i_rbmay : Inf := ⟨pin_rbmay, out_rbmay⟩
noncomputable def sem_rboxes (x : List Int) : List Int := [boxesE (dec (x.getD 0 0))]
def pin_rboxes : List (Option Iv) := [none]
def pre_rboxes (x : List Int) : Prop := vsOK pin_rboxes x ∧ ∀ b ∈ dec (x.getD 0 0), rangeOK Bs_ks (dec b)
def out_rboxes (v : List (Option Iv)) : List (Option Iv) := [iv 0 8]
noncomputable def s_rboxes : Sum := mkP gl0 43 [Bs] [I1] pre_rboxes sem_rboxes
def i_rboxes : Inf := ⟨[some ⟨1, 0⟩], out_rboxes⟩
noncomputable def endsN (l : List Int) : Nat → Int → Int
  | 0, _ => -1
  | f + 1, i => if (l.length : Int) ≤ i then -1 else
    if co (l.getD i.toNat 0) 6 = -1 ∧ co (l.getD i.toNat 0) 7 = -1 then i + 1 else
    if co (l.getD i.toNat 0) 6 ≠ i + 1 ∨ co (l.getD i.toNat 0) 8 ≠ -1 then -1 else
    if endsN l f (i + 1) < 0 ∨ co (l.getD i.toNat 0) 7 ≠ endsN l f (i + 1) then -1 else endsN l f (endsN l f (i + 1))
noncomputable def sem_rends (x : List Int) : List Int := [endsN (dec (x.getD 0 0)) ((dec (x.getD 0 0)).length + 1) (x.getD 1 0)]
def pin_rends : List (Option Iv) := [none, iv 0 2000]
def pre_rends (k : Nat) (x : List Int) : Prop := 0 < k ∧ vsOK pin_rends x ∧ (dec (x.getD 0 0)).length ≤ 1000 ∧ (dec (x.getD 0 0)).length < k + (x.getD 1 0).toNat
def out_rends (v : List (Option Iv)) : List (Option Iv) := [iv (-1) 2000]
noncomputable def s_rendsK (k : Nat) : Sum := mkP gl0 74 [Brs, I1] [I1] (pre_rends k) sem_rends
def i_rendsk0 : Inf := ⟨[some ⟨1, 0⟩], out_rends⟩
def pre_rendsA (x : List Int) : Prop := vsOK pin_rends x ∧ (dec (x.getD 0 0)).length ≤ 1000
noncomputable def s_rends : Sum := mkP gl0 74 [Brs, I1] [I1] pre_rendsA sem_rends
def i_rends : Inf := ⟨[some ⟨1, 0⟩], out_rends⟩
noncomputable def itRun (l : List Int) (n : Int) : Nat → Option (List Int)
  | 0 => some (List.replicate n.toNat 0)
  | i + 1 => (itRun l n i).bind fun se => if co (l.getD i 0) 6 = -1 ∧ co (l.getD i 0) 7 = -1 then
      (if co (l.getD i 0) 8 < 0 ∨ n ≤ co (l.getD i 0) 8 ∨ se.getD (co (l.getD i 0) 8).toNat 0 ≠ 0 then none else some (se.set (co (l.getD i 0) 8).toNat 1)) else some se
noncomputable def rshapedB (l : List Int) (n : Int) : Bool := decide (n ≤ 256 ∧ (l.length : Int) = max 0 (2 * n - 1)) && (decide (n ≤ 0 ∨ endsN l (l.length + 1) 0 = (l.length : Int)) && (itRun l n l.length).isSome)
noncomputable def sem_rshaped (x : List Int) : List Int := [b01 (rshapedB (dec (x.getD 0 0)) (x.getD 1 0))]
def pin_rshaped : List (Option Iv) := [none, iv 0 1000]
def out_rshaped (v : List (Option Iv)) : List (Option Iv) := [iv 0 1]
noncomputable def s_rshaped : Sum := mkS gl0 44 [Tr, I1] [Bo] pin_rshaped sem_rshaped
def i_rshaped : Inf := ⟨pin_rshaped, out_rshaped⟩
noncomputable def sem_rrefit (x : List Int) : List Int := [if refitE (dec (x.getD 0 0)) (dec (x.getD 1 0)) = 0 then (if (dec (x.getD 0 0)).length = 0 then x.getD 0 0 else cod (refitL (dec (x.getD 1 0)) (dec (x.getD 0 0)))) else cod [], refitE (dec (x.getD 0 0)) (dec (x.getD 1 0))]
def pin_rrefit := pin_refit
def pre_rrefit := pre_refit
noncomputable def s_rrefit : Sum := mkP gl0 16 [Tr, Bs] [Tr, I1] pre_rrefit sem_rrefit
noncomputable def lvs (l : List Int) : Nat → List Int
  | 0 => []
  | i + 1 => if co (l.getD i 0) 6 = -1 then lvs l i ++ [co (l.getD i 0) 8] else lvs l i
noncomputable def leavesE (l : List Int) : Int := if l.length ≤ 511 then (if shapedB l ((lvs l l.length).length : Int) = true then 0 else 8) else 4
noncomputable def sem_tleaves (x : List Int) : List Int := [if leavesE (dec (x.getD 0 0)) = 0 then cod (lvs (dec (x.getD 0 0)) (dec (x.getD 0 0)).length) else cod [], leavesE (dec (x.getD 0 0))]
def pin_tleaves : List (Option Iv) := [none]
def out_tleaves (v : List (Option Iv)) : List (Option Iv) := [none, iv 0 8]
noncomputable def s_tleaves : Sum := mkS gl0 17 [Tr] [Is, I1] pin_tleaves sem_tleaves
def i_tleaves : Inf := ⟨pin_tleaves, out_tleaves⟩
noncomputable def sem_rleaves := sem_tleaves
def pin_rleaves := pin_tleaves
noncomputable def s_rleaves : Sum := mkS gl0 18 [Tr] [Is, I1] pin_rleaves sem_rleaves
end Go.Proofs.Ytgcoidbaoigkeaa.fix
