/-
  Lists of boxes, and what is found: the definitions.
-/
import Derived.Test.YtgcoidbaoigkeaaDoorFDefs
set_option linter.unusedVariables false
namespace Go.Proofs.YtgcoidbaoigkeaaDoor.fix
open Go.RowKit Go.Sx

def Bs_ks : List K := [.i .i64, .i .i64, .i .i64, .i .i64, .i .i64, .i .i64]
def Bs : Sh := ⟨false, [.s 41 [.i .i64, .i .i64, .i .i64, .i .i64, .i .i64, .i .i64]]⟩
def Is : Sh := ⟨false, [.s 3 [.i .i64]]⟩
noncomputable def co (x : Int) (j : Nat) : Int := (dec x).getD j 0
noncomputable def six6 (b : Int) : List Int := [co b 0, co b 1, co b 2, co b 3, co b 4, co b 5]
noncomputable def okB (b : Int) : Bool := worldB (six6 b) 0
noncomputable def askedE (l x : List Int) : Int := if l.length ≤ 256 then (if l.all okB = true then windowV x else 8) else 4
noncomputable def sem_fasked (x : List Int) : List Int := [askedE (dec (x.getD 0 0)) (x.drop 1)]
def pin_fasked : List (Option Iv) := [none] ++ zs 20
def pre_fasked (x : List Int) : Prop := vsOK pin_fasked x ∧ ∀ b ∈ dec (x.getD 0 0), rangeOK Bs_ks (dec b)
def out_fasked (v : List (Option Iv)) : List (Option Iv) := [iv 0 150]
noncomputable def s_fasked : Sum := mkP gl0 18 [Bs, An 16, An 4] [I1] pre_fasked sem_fasked
def i_fasked : Inf := ⟨[some ⟨1, 0⟩], out_fasked⟩
noncomputable def shade (b : Int) (x : List Int) : List Int := shadowL (x.take 16 ++ (six6 b ++ x.drop 16))
noncomputable def showsI (b : Int) (x : List Int) : Bool := decide ((shade b x).getD 5 0 ≠ 0)
noncomputable def foundU (l x : List Int) : Nat → List Int
  | 0 => []
  | i + 1 => if showsI (l.getD i 0) x = true then foundU l x i ++ [(i : Int)] else foundU l x i
noncomputable def fallL (l x : List Int) : List Int := if askedE l x = 0 then [cod (foundU l x l.length), 0] else [cod [], askedE l x]
noncomputable def sem_fall (x : List Int) : List Int := [(fallL (dec (x.getD 0 0)) (x.drop 1)).getD 0 0, (fallL (dec (x.getD 0 0)) (x.drop 1)).getD 1 0]
def pin_fall : List (Option Iv) := [none] ++ zs 20
def pre_fall (x : List Int) : Prop := vsOK pin_fall x ∧ ∀ b ∈ dec (x.getD 0 0), rangeOK Bs_ks (dec b)
def out_fall (v : List (Option Iv)) : List (Option Iv) := [none, iv 0 150]
noncomputable def s_fall : Sum := mkP gl0 8 [Bs, An 16, An 4] [Is, I1] pre_fall sem_fall
def i_fall : Inf := ⟨[some ⟨1, 0⟩], out_fall⟩
def pin_alive18 : List (Option Iv) := []
def sem_alive18 := sem_alive
def out_alive18 := out_alive
def s_alive18 : Sum := mkS gl0 7 [] [Bo] pin_alive18 sem_alive18
def i_alive18 : Inf := ⟨pin_alive18, out_alive18⟩
end Go.Proofs.YtgcoidbaoigkeaaDoor.fix
