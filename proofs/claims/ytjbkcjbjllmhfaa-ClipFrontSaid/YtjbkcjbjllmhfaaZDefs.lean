/-
  What the functions of boxes and of clipping come to: the definitions.
-/
import Derived.Test.YtjbkcjbjllmhfaaSzU
import Derived.Test.YtjbkcjbjllmhfaaSzY
import Derived.Test.YtjbkcjbjllmhfaaSzZ
set_option linter.unusedVariables false
namespace Go.Proofs.Ytjbkcjbjllmhfaa.fix
open Go.RowKit Go.Sx

def gl0 : List (Nat × List Int) := []
def zz : Option Iv := some i64v
def zs (n : Nat) : List (Option Iv) := List.replicate n zz
def iv (a b : Int) : Option Iv := some ⟨a, b⟩
def ivs (n : Nat) (a b : Int) : List (Option Iv) := List.replicate n (iv a b)
def pos : Option Iv := iv 1 9223372036854775807
def hull0 : Option Iv → Option Iv
  | some v => some ⟨min v.lo 0, max v.hi 0⟩
  | none => none
def ex3 (l : List Int) : List Int := [l.getD 0 0, l.getD 1 0, l.getD 2 0]
def ex4 (l : List Int) : List Int := [l.getD 0 0, l.getD 1 0, l.getD 2 0, l.getD 3 0]
def ex5 (l : List Int) : List Int := [l.getD 0 0, l.getD 1 0, l.getD 2 0, l.getD 3 0, l.getD 4 0]
def ex6 (l : List Int) : List Int := [l.getD 0 0, l.getD 1 0, l.getD 2 0, l.getD 3 0, l.getD 4 0, l.getD 5 0]
def ex7 (l : List Int) : List Int := [l.getD 0 0, l.getD 1 0, l.getD 2 0, l.getD 3 0, l.getD 4 0, l.getD 5 0, l.getD 6 0]
def ex13 (l : List Int) : List Int := [l.getD 0 0, l.getD 1 0, l.getD 2 0, l.getD 3 0, l.getD 4 0, l.getD 5 0, l.getD 6 0, l.getD 7 0, l.getD 8 0, l.getD 9 0, l.getD 10 0, l.getD 11 0, l.getD 12 0]
def ex16 (l : List Int) : List Int := [l.getD 0 0, l.getD 1 0, l.getD 2 0, l.getD 3 0, l.getD 4 0, l.getD 5 0, l.getD 6 0, l.getD 7 0, l.getD 8 0, l.getD 9 0, l.getD 10 0, l.getD 11 0, l.getD 12 0, l.getD 13 0, l.getD 14 0, l.getD 15 0]
def er (b : Bool) (e : Int) : Int := if b = true then 0 else e
def b01 (b : Bool) : Int := if b = true then 1 else 0

/-! ### fixed -/
def pin_floor : List (Option Iv) := [zz, pos]
def sem_floor (x : List Int) : List Int := [x.getD 0 0 / x.getD 1 0, 0]
def out_floor (v : List (Option Iv)) : List (Option Iv) := [hull0 (v.getD 0 none), iv 0 0]
def s_floor : Sum := mkS gl0 16 [I1, I1] [I1, I1] pin_floor sem_floor
def i_floor : Inf := ⟨pin_floor, out_floor⟩
def pin_down : List (Option Iv) := [zz, pos]
def sem_down (x : List Int) : List Int := [x.getD 0 0 / x.getD 1 0]
def out_down (v : List (Option Iv)) : List (Option Iv) := [hull0 (v.getD 0 none)]
def s_down : Sum := mkS gl0 74 [I1, I1] [I1] pin_down sem_down
def i_down : Inf := ⟨pin_down, out_down⟩
def pin_floorG := zs 2
def floorGL (x : List Int) : List Int := if x.getD 1 0 < 1 then [0, 2] else [x.getD 0 0 / x.getD 1 0, 0]
def sem_floorG (x : List Int) : List Int := [(floorGL x).getD 0 0, (floorGL x).getD 1 0]
def out_floorG (v : List (Option Iv)) : List (Option Iv) := [hull0 (v.getD 0 none), iv 0 2]
def s_floorG : Sum := mkS gl0 16 [I1, I1] [I1, I1] pin_floorG sem_floorG
def i_floorG : Inf := ⟨pin_floorG, out_floorG⟩
def scB (x : List Int) : List Int := [min (x.getD 2 0 * x.getD 0 0) (x.getD 2 0 * x.getD 1 0), max (x.getD 2 0 * x.getD 0 0) (x.getD 2 0 * x.getD 1 0), 0]
def pin_fscaleT := ivs 2 (-32768) 32768 ++ [iv (-1024) 1024]
def pre_fscaleT (x : List Int) : Prop := vsOK pin_fscaleT x ∧ x.getD 0 0 ≤ x.getD 1 0
def sem_fscaleT (x : List Int) : List Int := scB x
def out_fscaleT (v : List (Option Iv)) : List (Option Iv) := ivs 2 (-33554432) 33554432 ++ [iv 0 0]
def s_fscaleT : Sum := mkP gl0 53 [An 2, I1] [An 2, I1] pre_fscaleT sem_fscaleT
def i_fscaleT : Inf := ⟨[some ⟨1, 0⟩], out_fscaleT⟩
def pin_faddT := ivs 4 (-1073741824) 1073741824
def pre_faddT (x : List Int) : Prop := vsOK pin_faddT x ∧ x.getD 0 0 ≤ x.getD 1 0 ∧ x.getD 2 0 ≤ x.getD 3 0
def sem_faddT (x : List Int) : List Int := [x.getD 0 0 + x.getD 2 0, x.getD 1 0 + x.getD 3 0, 0]
def out_faddT (v : List (Option Iv)) : List (Option Iv) := ivs 2 (-2147483648) 2147483648 ++ [iv 0 0]
def s_faddT : Sum := mkP gl0 54 [An 2, An 2] [An 2, I1] pre_faddT sem_faddT
def i_faddT : Inf := ⟨[some ⟨1, 0⟩], out_faddT⟩
def pin_fdivT := ivs 2 (-1073741824) 1073741824 ++ [iv 256 256]
def pre_fdivT (x : List Int) : Prop := vsOK pin_fdivT x ∧ x.getD 0 0 ≤ x.getD 1 0
def sem_fdivT (x : List Int) : List Int := [x.getD 0 0 / 256, x.getD 1 0 / 256, 0]
def out_fdivT (v : List (Option Iv)) : List (Option Iv) := ivs 2 (-4194304) 4194304 ++ [iv 0 0]
def s_fdivT : Sum := mkP gl0 55 [An 2, I1] [An 2, I1] pre_fdivT sem_fdivT
def i_fdivT : Inf := ⟨[some ⟨1, 0⟩], out_fdivT⟩

/-! ### vec -/
def all3 (m : Int) (x : List Int) (o : Nat) : Bool := decide ((-m ≤ x.getD o 0 ∧ x.getD o 0 ≤ m) ∧ (-m ≤ x.getD (o + 1) 0 ∧ x.getD (o + 1) 0 ≤ m) ∧ (-m ≤ x.getD (o + 2) 0 ∧ x.getD (o + 2) 0 ≤ m))
def rows9 (m : Int) (x : List Int) (o : Nat) : Bool := all3 m x o && (all3 m x (o + 3) && all3 m x (o + 6))
def dot (x : List Int) (o p : Nat) : Int := x.getD o 0 * x.getD p 0 + x.getD (o + 1) 0 * x.getD (p + 1) 0 + x.getD (o + 2) 0 * x.getD (p + 2) 0
def dotIv (v : List (Option Iv)) (o p : Nat) : Option Iv := addIv (addIv (mulIv (v.getD o none) (v.getD p none)) (mulIv (v.getD (o + 1) none) (v.getD (p + 1) none))) (mulIv (v.getD (o + 2) none) (v.getD (p + 2) none))
def divIv (k : Int) : Option Iv → Option Iv
  | some v => some ⟨v.lo / k, v.hi / k⟩
  | none => none
def sem_all (x : List Int) : List Int := [b01 (all3 (x.getD 3 0) x 0)]
def pin_all := zs 3 ++ [iv 0 1099511627776]
def out_all (v : List (Option Iv)) : List (Option Iv) := [iv 0 1]
def s_all : Sum := mkS gl0 47 [An 3, I1] [Bo] pin_all sem_all
def i_all : Inf := ⟨pin_all, out_all⟩
def sem_rows (x : List Int) : List Int := [b01 (rows9 1024 x 0)]
def pin_rows := zs 9
def out_rows (v : List (Option Iv)) : List (Option Iv) := [iv 0 1]
def s_rows : Sum := mkS gl0 60 [An 9] [Bo] pin_rows sem_rows
def i_rows : Inf := ⟨pin_rows, out_rows⟩
def sem_rrows (x : List Int) : List Int := [b01 (rows9 (x.getD 9 0) x 0)]
def pin_rrows := zs 9 ++ [iv 0 1099511627776]
def out_rrows (v : List (Option Iv)) : List (Option Iv) := [iv 0 1]
def s_rrows : Sum := mkS gl0 57 [An 9, I1] [Bo] pin_rrows sem_rrows
def i_rrows : Inf := ⟨pin_rrows, out_rrows⟩
def sem_turn0 (x : List Int) : List Int := [dot x 0 9 / 256, dot x 3 9 / 256, dot x 6 9 / 256]
def pin_turn0 := ivs 9 (-1024) 1024 ++ ivs 3 (-32768) 32768
def out_turn0 (v : List (Option Iv)) : List (Option Iv) := [divIv 256 (dotIv v 0 9), divIv 256 (dotIv v 3 9), divIv 256 (dotIv v 6 9)]
def s_turn0 : Sum := mkS gl0 63 [An 9, An 3] [An 3] pin_turn0 sem_turn0
def i_turn0 : Inf := ⟨pin_turn0, out_turn0⟩
def sem_byr (x : List Int) : List Int := [dot x 0 3 / 256]
def pin_byr := ivs 3 (-1024) 1024 ++ ivs 3 (-32768) 32768
def out_byr (v : List (Option Iv)) : List (Option Iv) := [divIv 256 (dotIv v 0 3)]
def s_byr : Sum := mkS gl0 73 [An 3, An 3] [I1] pin_byr sem_byr
def i_byr : Inf := ⟨pin_byr, out_byr⟩
def sem_turned := sem_turn0
def pin_turned := pin_turn0
def out_turned := out_turn0
def s_turned : Sum := mkS gl0 59 [An 9, An 3] [An 3] pin_turned sem_turned
def i_turned : Inf := ⟨pin_turned, out_turned⟩
def turnL (x : List Int) : List Int := if (rows9 1024 x 0 && all3 32768 x 9) = true then [dot x 0 9 / 256, dot x 3 9 / 256, dot x 6 9 / 256, 0] else [0, 0, 0, 2]
def sem_turn (x : List Int) : List Int := ex4 (turnL x)
def pin_turn := zs 12
def out_turn (v : List (Option Iv)) : List (Option Iv) := ivs 3 (-393216) 393216 ++ [iv 0 2]
def s_turn : Sum := mkS gl0 41 [An 9, An 3] [An 3, I1] pin_turn sem_turn
def i_turn : Inf := ⟨pin_turn, out_turn⟩

/-! ### clip -/
def pointB (x : List Int) (o : Nat) : Bool := all3 32768 x o && decide ((0 ≤ x.getD (o + 3) 0 ∧ x.getD (o + 3) 0 ≤ 255) ∧ (0 ≤ x.getD (o + 4) 0 ∧ x.getD (o + 4) 0 ≤ 255))
def sem_pcheck (x : List Int) : List Int := [er (pointB x 0) 8]
def pin_pcheck := zs 5
def out_pcheck (v : List (Option Iv)) : List (Option Iv) := [iv 0 8]
def s_pcheck : Sum := mkS gl0 30 [An 5] [I1] pin_pcheck sem_pcheck
def i_pcheck : Inf := ⟨pin_pcheck, out_pcheck⟩
def sem_rpmay (x : List Int) : List Int := [b01 (pointB x 0)]
def pin_rpmay := zs 5
def out_rpmay (v : List (Option Iv)) : List (Option Iv) := [iv 0 1]
def s_rpmay : Sum := mkS gl0 34 [An 5] [Bo] pin_rpmay sem_rpmay
def i_rpmay : Inf := ⟨pin_rpmay, out_rpmay⟩
def nearB (x : List Int) : Bool := decide (256 ≤ x.getD 0 0 ∧ x.getD 0 0 ≤ 4096)
def behindB (x : List Int) : Bool := decide (x.getD 3 0 < x.getD 0 0 ∧ x.getD 0 0 ≤ x.getD 8 0)
/-- A number of the cut. -/
def cutV (x : List Int) (o : Nat) : Int := x.getD o 0 + (x.getD (o + 5) 0 - x.getD o 0) * (x.getD 0 0 - x.getD 3 0) / (x.getD 8 0 - x.getD 3 0)
def cutP (x : List Int) : List Int := [cutV x 1, cutV x 2, x.getD 0 0, cutV x 4, cutV x 5, 0]
def cutL (x : List Int) : List Int := if nearB x = true then if (pointB x 1 && pointB x 6) = true then if behindB x = true then cutP x else [0, 0, 0, 0, 0, 6] else [0, 0, 0, 0, 0, 8] else [0, 0, 0, 0, 0, 2]
def sem_cut (x : List Int) : List Int := ex6 (cutL x)
def pin_cut := zs 11
def out_cut (v : List (Option Iv)) : List (Option Iv) := ivs 2 (-32768) 32768 ++ [iv 0 4096] ++ ivs 2 0 255 ++ [iv 0 8]
def s_cut : Sum := mkS gl0 15 [I1, An 5, An 5] [An 5, I1] pin_cut sem_cut
def i_cut : Inf := ⟨pin_cut, out_cut⟩
def sem_rcut := sem_cut
def pin_rcut := pin_cut
def out_rcut := out_cut
def s_rcut : Sum := mkS gl0 31 [I1, An 5, An 5] [An 5, I1] pin_rcut sem_rcut
def i_rcut : Inf := ⟨pin_rcut, out_rcut⟩
def pin_rbetw := ivs 2 (-32768) 32768 ++ [iv 0 65536, iv 1 65536]
def pre_rbetw (x : List Int) : Prop := vsOK pin_rbetw x ∧ x.getD 2 0 ≤ x.getD 3 0
def sem_rbetw (x : List Int) : List Int := [x.getD 0 0 + (x.getD 1 0 - x.getD 0 0) * x.getD 2 0 / x.getD 3 0]
def out_rbetw (v : List (Option Iv)) : List (Option Iv) := [iv (-32768) 32768]
def s_rbetw : Sum := mkP gl0 66 [I1, I1, I1, I1] [I1] pre_rbetw sem_rbetw
def i_rbetw : Inf := ⟨[some ⟨1, 0⟩], out_rbetw⟩
def pin_pt : List (Option Iv) := ivs 3 (-32768) 32768 ++ ivs 2 0 255
def pin_rcut0 := [iv 256 4096] ++ pin_pt ++ pin_pt
def pre_rcut0 (x : List Int) : Prop := vsOK pin_rcut0 x ∧ behindB x = true
def sem_rcut0 (x : List Int) : List Int := [cutV x 1, cutV x 2, x.getD 0 0, cutV x 4, cutV x 5]
def out_rcut0 (v : List (Option Iv)) : List (Option Iv) := ivs 2 (-32768) 32768 ++ [iv 0 4096] ++ ivs 2 0 255
def s_rcut0 : Sum := mkP gl0 51 [I1, An 5, An 5] [An 5] pre_rcut0 sem_rcut0
def i_rcut0 : Inf := ⟨[some ⟨1, 0⟩], out_rcut0⟩

/-! ### box -/
def boxB (x : List Int) (o : Nat) : Bool := all3 32768 x o && (all3 32768 x (o + 3) && decide (x.getD o 0 ≤ x.getD (o + 3) 0 ∧ x.getD (o + 1) 0 ≤ x.getD (o + 4) 0 ∧ x.getD (o + 2) 0 ≤ x.getD (o + 5) 0))
def sem_bcheck (x : List Int) : List Int := [er (boxB x 0) 8]
def pin_bcheck := zs 6
def out_bcheck (v : List (Option Iv)) : List (Option Iv) := [iv 0 8]
def s_bcheck : Sum := mkS gl0 22 [An 6] [I1] pin_bcheck sem_bcheck
def i_bcheck : Inf := ⟨pin_bcheck, out_bcheck⟩
def sem_rbmay (x : List Int) : List Int := [b01 (boxB x 0)]
def pin_rbmay := zs 6
def out_rbmay (v : List (Option Iv)) : List (Option Iv) := [iv 0 1]
def s_rbmay : Sum := mkS gl0 23 [An 6] [Bo] pin_rbmay sem_rbmay
def i_rbmay : Inf := ⟨pin_rbmay, out_rbmay⟩
def joinP (x : List Int) : List Int := [min (x.getD 0 0) (x.getD 6 0), min (x.getD 1 0) (x.getD 7 0), min (x.getD 2 0) (x.getD 8 0), max (x.getD 3 0) (x.getD 9 0), max (x.getD 4 0) (x.getD 10 0), max (x.getD 5 0) (x.getD 11 0), 0]
def sem_bjoin0 (x : List Int) : List Int := ex6 (joinP x)
def pin_bjoin0 := zs 12
def out_bjoin0 (v : List (Option Iv)) : List (Option Iv) := [mnIv (v.getD 0 none) (v.getD 6 none), mnIv (v.getD 1 none) (v.getD 7 none), mnIv (v.getD 2 none) (v.getD 8 none), mxIv (v.getD 3 none) (v.getD 9 none), mxIv (v.getD 4 none) (v.getD 10 none), mxIv (v.getD 5 none) (v.getD 11 none)]
def s_bjoin0 : Sum := mkS gl0 46 [An 6, An 6] [An 6] pin_bjoin0 sem_bjoin0
def i_bjoin0 : Inf := ⟨pin_bjoin0, out_bjoin0⟩
def z7 (e : Int) : List Int := [0, 0, 0, 0, 0, 0, e]
def joinL (x : List Int) : List Int := if (boxB x 0 && boxB x 6) = true then joinP x else z7 8
def sem_bjoin (x : List Int) : List Int := ex7 (joinL x)
def pin_bjoin := zs 12
def out_bjoin (v : List (Option Iv)) : List (Option Iv) := ivs 6 (-32768) 32768 ++ [iv 0 8]
def s_bjoin : Sum := mkS gl0 20 [An 6, An 6] [An 6, I1] pin_bjoin sem_bjoin
def i_bjoin : Inf := ⟨pin_bjoin, out_bjoin⟩
def sem_rbjoin := sem_bjoin
def pin_rbjoin := pin_bjoin
def out_rbjoin := out_bjoin
def s_rbjoin : Sum := mkS gl0 21 [An 6, An 6] [An 6, I1] pin_rbjoin sem_rbjoin
def i_rbjoin : Inf := ⟨pin_rbjoin, out_rbjoin⟩
def insideB (x : List Int) : Bool := decide ((x.getD 6 0 ≤ x.getD 0 0 ∧ x.getD 7 0 ≤ x.getD 1 0 ∧ x.getD 8 0 ≤ x.getD 2 0) ∧ (x.getD 3 0 ≤ x.getD 9 0 ∧ x.getD 4 0 ≤ x.getD 10 0 ∧ x.getD 5 0 ≤ x.getD 11 0))
def sem_inside (x : List Int) : List Int := [b01 (insideB x)]
def pin_inside := zs 12
def out_inside (v : List (Option Iv)) : List (Option Iv) := [iv 0 1]
def s_inside : Sum := mkS gl0 24 [An 6, An 6] [Bo] pin_inside sem_inside
def i_inside : Inf := ⟨pin_inside, out_inside⟩
def holdsB (x : List Int) : Bool := decide ((x.getD 0 0 ≤ x.getD 6 0 ∧ x.getD 1 0 ≤ x.getD 7 0 ∧ x.getD 2 0 ≤ x.getD 8 0) ∧ (x.getD 6 0 ≤ x.getD 3 0 ∧ x.getD 7 0 ≤ x.getD 4 0 ∧ x.getD 8 0 ≤ x.getD 5 0))
def sem_holds (x : List Int) : List Int := [b01 (holdsB x)]
def pin_holds := zs 9
def out_holds (v : List (Option Iv)) : List (Option Iv) := [iv 0 1]
def s_holds : Sum := mkS gl0 28 [An 6, An 3] [Bo] pin_holds sem_holds
def i_holds : Inf := ⟨pin_holds, out_holds⟩
def tLow (x : List Int) (i : Nat) : Int := (min (x.getD i 0 * x.getD 9 0) (x.getD i 0 * x.getD 12 0) + min (x.getD (i + 1) 0 * x.getD 10 0) (x.getD (i + 1) 0 * x.getD 13 0) + min (x.getD (i + 2) 0 * x.getD 11 0) (x.getD (i + 2) 0 * x.getD 14 0)) / 256
def tHigh (x : List Int) (i : Nat) : Int := (max (x.getD i 0 * x.getD 9 0) (x.getD i 0 * x.getD 12 0) + max (x.getD (i + 1) 0 * x.getD 10 0) (x.getD (i + 1) 0 * x.getD 13 0) + max (x.getD (i + 2) 0 * x.getD 11 0) (x.getD (i + 2) 0 * x.getD 14 0)) / 256
def turnedP (x : List Int) : List Int := [tLow x 0, tLow x 3, tLow x 6, tHigh x 0, tHigh x 3, tHigh x 6, 0]
def turnedL (x : List Int) : List Int := if rows9 1024 x 0 = true then if boxB x 9 = true then if boxB (turnedP x) 0 = true then turnedP x else z7 20 else z7 8 else z7 2
def sem_bturned (x : List Int) : List Int := ex7 (turnedL x)
def pin_bturned := zs 15
def out_bturned (v : List (Option Iv)) : List (Option Iv) := ivs 6 (-32768) 32768 ++ [iv 0 20]
def s_bturned : Sum := mkS gl0 37 [An 9, An 6] [An 6, I1] pin_bturned sem_bturned
def i_bturned : Inf := ⟨pin_bturned, out_bturned⟩
def sem_rbturned := sem_bturned
def pin_rbturned := pin_bturned
def out_rbturned := out_bturned
def s_rbturned : Sum := mkS gl0 38 [An 9, An 6] [An 6, I1] pin_rbturned sem_rbturned
def i_rbturned : Inf := ⟨pin_rbturned, out_rbturned⟩

/-! ### examples that live -/
def sem_alive (_ : List Int) : List Int := [1]
def out_alive (_ : List (Option Iv)) : List (Option Iv) := [iv 1 1]
def pin_alive19 : List (Option Iv) := []
def sem_alive19 := sem_alive
def out_alive19 := out_alive
def s_alive19 : Sum := mkS gl0 14 [] [Bo] pin_alive19 sem_alive19
def i_alive19 : Inf := ⟨pin_alive19, out_alive19⟩
def pin_alive03 : List (Option Iv) := []
def sem_alive03 := sem_alive
def out_alive03 := out_alive
def s_alive03 : Sum := mkS gl0 27 [] [Bo] pin_alive03 sem_alive03
def i_alive03 : Inf := ⟨pin_alive03, out_alive03⟩
end Go.Proofs.Ytjbkcjbjllmhfaa.fix
