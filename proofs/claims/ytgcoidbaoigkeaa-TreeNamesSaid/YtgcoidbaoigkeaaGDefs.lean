/-
  Trees: the definitions.
-/
import Derived.Test.YtgcoidbaoigkeaaFDefsL
import Derived.Test.YtgcoidbaoigkeaaSwRi
set_option linter.unusedVariables false
namespace Go.Proofs.Ytgcoidbaoigkeaa.fix
open Go.RowKit Go.Sx

def Br_ks : List K := [.i .i64, .i .i64, .i .i64, .i .i64, .i .i64, .i .i64, .i .i64, .i .i64, .i .i64]
def Tr : Sh := ⟨true, [.s 66 [.i .i64, .i .i64, .i .i64, .i .i64, .i .i64, .i .i64, .i .i64, .i .i64, .i .i64]]⟩
noncomputable def okBox (b : Int) : Bool := boxB (six6 b) 0
noncomputable def boxesE (l : List Int) : Int := if l.length ≤ 256 then (if l.all okBox = true then 0 else 8) else 4
noncomputable def sem_tboxes (x : List Int) : List Int := [boxesE (dec (x.getD 0 0))]
def pin_tboxes : List (Option Iv) := [none]
def pre_tboxes (x : List Int) : Prop := vsOK pin_tboxes x ∧ ∀ b ∈ dec (x.getD 0 0), rangeOK Bs_ks (dec b)
def out_tboxes (v : List (Option Iv)) : List (Option Iv) := [iv 0 8]
noncomputable def s_tboxes : Sum := mkP gl0 38 [Bs] [I1] pre_tboxes sem_tboxes
def i_tboxes : Inf := ⟨[some ⟨1, 0⟩], out_tboxes⟩
noncomputable def shStep (n : Int) (i : Nat) (b : Int) (s : List Int × List Int) : Option (List Int × List Int) :=
  if s.2 = [] ∨ s.2.getD (s.2.length - 1) 0 ≠ (i : Int) then none
  else if co b 6 ≠ -1 ∨ co b 7 ≠ -1 then
    (if co b 6 ≠ (i : Int) + 1 ∨ co b 7 ≤ co b 6 ∨ co b 8 ≠ -1 then none else some (s.1, s.2.take (s.2.length - 1) ++ [co b 7] ++ [co b 6]))
  else (if co b 8 < 0 ∨ n ≤ co b 8 ∨ s.1.getD (co b 8).toNat 0 ≠ 0 then none else some (s.1.set (co b 8).toNat 1, s.2.take (s.2.length - 1)))
noncomputable def shRun (l : List Int) (n : Int) : Nat → Option (List Int × List Int)
  | 0 => some (List.replicate n.toNat 0, if 0 < n then [0] else [])
  | i + 1 => (shRun l n i).bind (shStep n i (l.getD i 0))
def shEnd : Option (List Int × List Int) → Bool
  | some (_, []) => true
  | _ => false
noncomputable def shapedB (l : List Int) (n : Int) : Bool := decide ((l.length : Int) = max 0 (2 * n - 1)) && shEnd (shRun l n l.length)
noncomputable def sem_shaped (x : List Int) : List Int := [b01 (shapedB (dec (x.getD 0 0)) (x.getD 1 0))]
def pin_shaped : List (Option Iv) := [none, iv 0 1000]
def out_shaped (v : List (Option Iv)) : List (Option Iv) := [iv 0 1]
noncomputable def s_shaped : Sum := mkS gl0 39 [Tr, I1] [Bo] pin_shaped sem_shaped
def i_shaped : Inf := ⟨pin_shaped, out_shaped⟩
end Go.Proofs.Ytgcoidbaoigkeaa.fix
set_option linter.unusedVariables false
namespace Go.Proofs.Ytgcoidbaoigkeaa.fix
open Go.RowKit Go.Sx

def joinP (x : List Int) : List Int := [min (x.getD 0 0) (x.getD 6 0), min (x.getD 1 0) (x.getD 7 0), min (x.getD 2 0) (x.getD 8 0), max (x.getD 3 0) (x.getD 9 0), max (x.getD 4 0) (x.getD 10 0), max (x.getD 5 0) (x.getD 11 0), 0]
def sem_bjoin0 (x : List Int) : List Int := ex6 (joinP x)
def pin_bjoin0 := zs 12
def out_bjoin0 (v : List (Option Iv)) : List (Option Iv) := [mnIv (v.getD 0 none) (v.getD 6 none), mnIv (v.getD 1 none) (v.getD 7 none), mnIv (v.getD 2 none) (v.getD 8 none), mxIv (v.getD 3 none) (v.getD 9 none), mxIv (v.getD 4 none) (v.getD 10 none), mxIv (v.getD 5 none) (v.getD 11 none)]
def s_bjoin0 : Sum := mkS gl0 72 [An 6, An 6] [An 6] pin_bjoin0 sem_bjoin0
def i_bjoin0 : Inf := ⟨pin_bjoin0, out_bjoin0⟩
def joinL (x : List Int) : List Int := if (boxB x 0 && boxB x 6) = true then joinP x else z7 8
def sem_bjoin (x : List Int) : List Int := ex7 (joinL x)
def pin_bjoin := zs 12
def out_bjoin (v : List (Option Iv)) : List (Option Iv) := ivs 6 (-32768) 32768 ++ [iv 0 8]
def s_bjoin : Sum := mkS gl0 42 [An 6, An 6] [An 6, I1] pin_bjoin sem_bjoin
def i_bjoin : Inf := ⟨pin_bjoin, out_bjoin⟩
def Brs : Sh := ⟨false, [.s 66 [.i .i64, .i .i64, .i .i64, .i .i64, .i .i64, .i .i64, .i .i64, .i .i64, .i .i64]]⟩
noncomputable def sem_clone (x : List Int) : List Int := [cod (dec (x.getD 0 0))]
def pin_clone : List (Option Iv) := [none]
def pre_clone (x : List Int) : Prop := vsOK pin_clone x ∧ (dec (x.getD 0 0)).length ≤ 1000000
def out_clone (v : List (Option Iv)) : List (Option Iv) := [none]
noncomputable def s_clone : Sum := mkP gl0 40 [Brs] [Brs] pre_clone sem_clone
def i_clone : Inf := ⟨[some ⟨1, 0⟩], out_clone⟩
noncomputable def rfBox (l out : List Int) (b : Int) : List Int :=
  if co b 6 < 0 then six6 (l.getD (co b 8).toNat 0) else ex6 (joinP (six6 (out.getD (co b 6).toNat 0) ++ six6 (out.getD (co b 7).toNat 0)))
noncomputable def rfStep (l out : List Int) (i : Nat) : List Int := out.set i (cod (rfBox l out (out.getD i 0) ++ [co (out.getD i 0) 6, co (out.getD i 0) 7, co (out.getD i 0) 8]))
noncomputable def rfRun (l t : List Int) : Nat → List Int
  | 0 => t
  | c + 1 => rfStep l (rfRun l t c) (t.length - 1 - c)
noncomputable def refitL (l t : List Int) : List Int := rfRun l t t.length
noncomputable def refitE (t l : List Int) : Int := if boxesE l = 0 then (if shapedB t l.length = true then 0 else 8) else boxesE l
noncomputable def sem_refit (x : List Int) : List Int := [if refitE (dec (x.getD 0 0)) (dec (x.getD 1 0)) = 0 then cod (refitL (dec (x.getD 1 0)) (dec (x.getD 0 0))) else cod [], refitE (dec (x.getD 0 0)) (dec (x.getD 1 0))]
def pin_refit : List (Option Iv) := [none, none]
def pre_refit (x : List Int) : Prop := vsOK pin_refit x ∧ ((dec (x.getD 0 0)).length ≤ 1000 ∧ (dec (x.getD 1 0)).length ≤ 1000) ∧ (∀ b ∈ dec (x.getD 0 0), rangeOK Br_ks (dec b)) ∧ ∀ b ∈ dec (x.getD 1 0), rangeOK Bs_ks (dec b)
def out_refit (v : List (Option Iv)) : List (Option Iv) := [none, iv 0 8]
noncomputable def s_refit : Sum := mkP gl0 15 [Tr, Bs] [Tr, I1] pre_refit sem_refit
def i_refit : Inf := ⟨[some ⟨1, 0⟩], out_refit⟩
end Go.Proofs.Ytgcoidbaoigkeaa.fix
set_option linter.unusedVariables false
namespace Go.Proofs.Ytgcoidbaoigkeaa.fix
open Go.RowKit Go.Sx

noncomputable def nine (b : Int) : List Int := [co b 0, co b 1, co b 2, co b 3, co b 4, co b 5, co b 6, co b 7, co b 8]
noncomputable def sameB (a b : List Int) : Bool := decide (a.length = b.length) && (List.range a.length).all fun i => decide (nine (a.getD i 0) = nine (b.getD i 0))
noncomputable def chkE (t l : List Int) : Int := if refitE t l = 0 then (if sameB (refitL l t) t = true then 0 else 8) else refitE t l
noncomputable def sem_tcheck (x : List Int) : List Int := [chkE (dec (x.getD 0 0)) (dec (x.getD 1 0))]
def pin_tcheck : List (Option Iv) := [none, none]
def pre_tcheck (x : List Int) : Prop := vsOK pin_tcheck x ∧ ((dec (x.getD 0 0)).length ≤ 1000 ∧ (dec (x.getD 1 0)).length ≤ 1000) ∧ (∀ b ∈ dec (x.getD 0 0), rangeOK Br_ks (dec b)) ∧ ∀ b ∈ dec (x.getD 1 0), rangeOK Bs_ks (dec b)
def out_tcheck (v : List (Option Iv)) : List (Option Iv) := [iv 0 8]
noncomputable def s_tcheck : Sum := mkP gl0 20 [Tr, Bs] [I1] pre_tcheck sem_tcheck
def i_tcheck : Inf := ⟨[some ⟨1, 0⟩], out_tcheck⟩
noncomputable def sameL (a b : List Int) : Bool := decide (a = b)
end Go.Proofs.Ytgcoidbaoigkeaa.fix
