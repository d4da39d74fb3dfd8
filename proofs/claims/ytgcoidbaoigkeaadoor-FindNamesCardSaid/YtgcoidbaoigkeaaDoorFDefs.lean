/-
  What the functions of boxes and of clipping come to: the definitions.
-/
import Derived.Test.YtgcoidbaoigkeaaDoorSwY
import Derived.Test.YtgcoidbaoigkeaaDoorSwZ
set_option linter.unusedVariables false
namespace Go.Proofs.YtgcoidbaoigkeaaDoor.fix
open Go.RowKit Go.Sx

def gl0 : List (Nat × List Int) := [(0, [-4096, -4096, -4096, 4096, 4096, 4096])]
def zz : Option Iv := some i64v
def zs (n : Nat) : List (Option Iv) := List.replicate n zz
def iv (a b : Int) : Option Iv := some ⟨a, b⟩
def ivs (n : Nat) (a b : Int) : List (Option Iv) := List.replicate n (iv a b)
def pos : Option Iv := iv 1 9223372036854775807
def hull0 : Option Iv → Option Iv
  | some v => some ⟨min v.lo 0, max v.hi 0⟩
  | none => none
def ex3 (l : List Int) : List Int := [l.getD 0 0, l.getD 1 0, l.getD 2 0]
def ex4 (l : List Int) : List Int := [l.getD 0 0, l.getD 1 0, l.getD 2 0, l.getD 3 0]
def ex5 (l : List Int) : List Int := [l.getD 0 0, l.getD 1 0, l.getD 2 0, l.getD 3 0, l.getD 4 0]
def ex6 (l : List Int) : List Int := [l.getD 0 0, l.getD 1 0, l.getD 2 0, l.getD 3 0, l.getD 4 0, l.getD 5 0]
def ex7 (l : List Int) : List Int := [l.getD 0 0, l.getD 1 0, l.getD 2 0, l.getD 3 0, l.getD 4 0, l.getD 5 0, l.getD 6 0]
def ex13 (l : List Int) : List Int := [l.getD 0 0, l.getD 1 0, l.getD 2 0, l.getD 3 0, l.getD 4 0, l.getD 5 0, l.getD 6 0, l.getD 7 0, l.getD 8 0, l.getD 9 0, l.getD 10 0, l.getD 11 0, l.getD 12 0]
def ex16 (l : List Int) : List Int := [l.getD 0 0, l.getD 1 0, l.getD 2 0, l.getD 3 0, l.getD 4 0, l.getD 5 0, l.getD 6 0, l.getD 7 0, l.getD 8 0, l.getD 9 0, l.getD 10 0, l.getD 11 0, l.getD 12 0, l.getD 13 0, l.getD 14 0, l.getD 15 0]
def er (b : Bool) (e : Int) : Int := if b = true then 0 else e
def b01 (b : Bool) : Int := if b = true then 1 else 0

/-! ### fixed -/
def pin_floor : List (Option Iv) := [zz, pos]
def sem_floor (x : List Int) : List Int := [x.getD 0 0 / x.getD 1 0, 0]
def out_floor (v : List (Option Iv)) : List (Option Iv) := [hull0 (v.getD 0 none), iv 0 0]
def s_floor : Sum := mkS gl0 37 [I1, I1] [I1, I1] pin_floor sem_floor
def i_floor : Inf := ⟨pin_floor, out_floor⟩
def scB (x : List Int) : List Int := [min (x.getD 2 0 * x.getD 0 0) (x.getD 2 0 * x.getD 1 0), max (x.getD 2 0 * x.getD 0 0) (x.getD 2 0 * x.getD 1 0), 0]
def pin_fscaleT := ivs 2 (-32768) 32768 ++ [iv (-1024) 1024]
def pre_fscaleT (x : List Int) : Prop := vsOK pin_fscaleT x ∧ x.getD 0 0 ≤ x.getD 1 0
def sem_fscaleT (x : List Int) : List Int := scB x
def out_fscaleT (v : List (Option Iv)) : List (Option Iv) := ivs 2 (-33554432) 33554432 ++ [iv 0 0]
def s_fscaleT : Sum := mkP gl0 51 [An 2, I1] [An 2, I1] pre_fscaleT sem_fscaleT
def i_fscaleT : Inf := ⟨[some ⟨1, 0⟩], out_fscaleT⟩
def pin_faddT := ivs 4 (-1073741824) 1073741824
def pre_faddT (x : List Int) : Prop := vsOK pin_faddT x ∧ x.getD 0 0 ≤ x.getD 1 0 ∧ x.getD 2 0 ≤ x.getD 3 0
def sem_faddT (x : List Int) : List Int := [x.getD 0 0 + x.getD 2 0, x.getD 1 0 + x.getD 3 0, 0]
def out_faddT (v : List (Option Iv)) : List (Option Iv) := ivs 2 (-2147483648) 2147483648 ++ [iv 0 0]
def s_faddT : Sum := mkP gl0 52 [An 2, An 2] [An 2, I1] pre_faddT sem_faddT
def i_faddT : Inf := ⟨[some ⟨1, 0⟩], out_faddT⟩
def pin_fdivT := ivs 2 (-1073741824) 1073741824 ++ [iv 256 256]
def pre_fdivT (x : List Int) : Prop := vsOK pin_fdivT x ∧ x.getD 0 0 ≤ x.getD 1 0
def sem_fdivT (x : List Int) : List Int := [x.getD 0 0 / 256, x.getD 1 0 / 256, 0]
def out_fdivT (v : List (Option Iv)) : List (Option Iv) := ivs 2 (-4194304) 4194304 ++ [iv 0 0]
def s_fdivT : Sum := mkP gl0 53 [An 2, I1] [An 2, I1] pre_fdivT sem_fdivT
def i_fdivT : Inf := ⟨[some ⟨1, 0⟩], out_fdivT⟩

def pin_ceil : List (Option Iv) := [zz, pos]
def sem_ceil (x : List Int) : List Int := [up (x.getD 0 0) (x.getD 1 0), 0]
def out_ceil (v : List (Option Iv)) : List (Option Iv) := [hull0 (v.getD 0 none), iv 0 0]
def s_ceil : Sum := mkS gl0 36 [I1, I1] [I1, I1] pin_ceil sem_ceil
def i_ceil : Inf := ⟨pin_ceil, out_ceil⟩
/-! ### vec -/
def all3 (m : Int) (x : List Int) (o : Nat) : Bool := decide ((-m ≤ x.getD o 0 ∧ x.getD o 0 ≤ m) ∧ (-m ≤ x.getD (o + 1) 0 ∧ x.getD (o + 1) 0 ≤ m) ∧ (-m ≤ x.getD (o + 2) 0 ∧ x.getD (o + 2) 0 ≤ m))
def rows9 (m : Int) (x : List Int) (o : Nat) : Bool := all3 m x o && (all3 m x (o + 3) && all3 m x (o + 6))
/-! ### box -/
def boxB (x : List Int) (o : Nat) : Bool := all3 32768 x o && (all3 32768 x (o + 3) && decide (x.getD o 0 ≤ x.getD (o + 3) 0 ∧ x.getD (o + 1) 0 ≤ x.getD (o + 4) 0 ∧ x.getD (o + 2) 0 ≤ x.getD (o + 5) 0))
def sem_bcheck (x : List Int) : List Int := [er (boxB x 0) 8]
def pin_bcheck := zs 6
def out_bcheck (v : List (Option Iv)) : List (Option Iv) := [iv 0 8]
def s_bcheck : Sum := mkS gl0 31 [An 6] [I1] pin_bcheck sem_bcheck
def i_bcheck : Inf := ⟨pin_bcheck, out_bcheck⟩
def z7 (e : Int) : List Int := [0, 0, 0, 0, 0, 0, e]
def insideB (x : List Int) : Bool := decide ((x.getD 6 0 ≤ x.getD 0 0 ∧ x.getD 7 0 ≤ x.getD 1 0 ∧ x.getD 8 0 ≤ x.getD 2 0) ∧ (x.getD 3 0 ≤ x.getD 9 0 ∧ x.getD 4 0 ≤ x.getD 10 0 ∧ x.getD 5 0 ≤ x.getD 11 0))
def sem_inside (x : List Int) : List Int := [b01 (insideB x)]
def pin_inside := zs 12
def out_inside (v : List (Option Iv)) : List (Option Iv) := [iv 0 1]
def s_inside : Sum := mkS gl0 32 [An 6, An 6] [Bo] pin_inside sem_inside
def i_inside : Inf := ⟨pin_inside, out_inside⟩
def tLow (x : List Int) (i : Nat) : Int := (min (x.getD i 0 * x.getD 9 0) (x.getD i 0 * x.getD 12 0) + min (x.getD (i + 1) 0 * x.getD 10 0) (x.getD (i + 1) 0 * x.getD 13 0) + min (x.getD (i + 2) 0 * x.getD 11 0) (x.getD (i + 2) 0 * x.getD 14 0)) / 256
def tHigh (x : List Int) (i : Nat) : Int := (max (x.getD i 0 * x.getD 9 0) (x.getD i 0 * x.getD 12 0) + max (x.getD (i + 1) 0 * x.getD 10 0) (x.getD (i + 1) 0 * x.getD 13 0) + max (x.getD (i + 2) 0 * x.getD 11 0) (x.getD (i + 2) 0 * x.getD 14 0)) / 256
def turnedP (x : List Int) : List Int := [tLow x 0, tLow x 3, tLow x 6, tHigh x 0, tHigh x 3, tHigh x 6, 0]
def turnedL (x : List Int) : List Int := if rows9 1024 x 0 = true then if boxB x 9 = true then if boxB (turnedP x) 0 = true then turnedP x else z7 20 else z7 8 else z7 2
def sem_bturned (x : List Int) : List Int := ex7 (turnedL x)
def pin_bturned := zs 15
def out_bturned (v : List (Option Iv)) : List (Option Iv) := ivs 6 (-32768) 32768 ++ [iv 0 20]
def s_bturned : Sum := mkS gl0 33 [An 9, An 6] [An 6, I1] pin_bturned sem_bturned
def i_bturned : Inf := ⟨pin_bturned, out_bturned⟩
/-! ### camera -/
def lensB (x : List Int) (o : Nat) : Bool := decide ((1 ≤ x.getD o 0 ∧ x.getD o 0 ≤ 64) ∧ (256 ≤ x.getD (o + 1) 0 ∧ x.getD (o + 1) 0 ≤ 4096) ∧ (1 ≤ x.getD (o + 2) 0 ∧ x.getD (o + 2) 0 ≤ 64) ∧ (1 ≤ x.getD (o + 3) 0 ∧ x.getD (o + 3) 0 ≤ 64))
def camB (x : List Int) (o : Nat) : Bool := all3 4096 x o && (rows9 256 x (o + 3) && lensB x (o + 12))
def sem_ccheck (x : List Int) : List Int := [er (camB x 0) 150]
def pin_ccheck := zs 16
def out_ccheck (v : List (Option Iv)) : List (Option Iv) := [iv 0 150]
def s_ccheck : Sum := mkS gl0 30 [An 16] [I1] pin_ccheck sem_ccheck
def i_ccheck : Inf := ⟨pin_ccheck, out_ccheck⟩
def winB (x : List Int) (o w h : Nat) : Bool := decide ((0 ≤ x.getD o 0 ∧ x.getD o 0 ≤ x.getD (o + 2) 0 ∧ x.getD (o + 2) 0 < x.getD w 0) ∧ (0 ≤ x.getD (o + 1) 0 ∧ x.getD (o + 1) 0 ≤ x.getD (o + 3) 0 ∧ x.getD (o + 3) 0 < x.getD h 0))
def windowV (x : List Int) : Int := if camB x 0 = true then if winB x 16 14 15 = true then 0 else 2 else 150
def sem_window (x : List Int) : List Int := [windowV x]
def pin_window := zs 20
def out_window (v : List (Option Iv)) : List (Option Iv) := [iv 0 150]
def s_window : Sum := mkS gl0 21 [An 16, An 4] [I1] pin_window sem_window
def i_window : Inf := ⟨pin_window, out_window⟩
/-! ### frustum -/
def worldB (x : List Int) (o : Nat) : Bool := all3 4096 x o && (all3 4096 x (o + 3) && decide (x.getD o 0 ≤ x.getD (o + 3) 0 ∧ x.getD (o + 1) 0 ≤ x.getD (o + 4) 0 ∧ x.getD (o + 2) 0 ≤ x.getD (o + 5) 0))
def pin_way : List (Option Iv) := [iv 8 512, iv 4 256, iv 256 32768, iv 256 32768]
def sem_fplace (x : List Int) : List Int := [x.getD 0 0 * x.getD 4 0 / (if (0 ≤ x.getD 4 0 ↔ x.getD 5 0 ≠ 0) then x.getD 2 0 else x.getD 3 0)]
def pin_fplace := pin_way ++ [iv (-32768) 32768, iv 0 1]
def out_fplace (v : List (Option Iv)) : List (Option Iv) := [iv (-65536) 65536]
def s_fplace : Sum := mkS gl0 23 [An 4, I1, Bo] [I1] pin_fplace sem_fplace
def i_fplace : Inf := ⟨pin_fplace, out_fplace⟩
def sem_fpix (x : List Int) : List Int := [max (up (x.getD 4 0 - 4) 8) (x.getD 6 0), min ((x.getD 5 0 - 4) / 8) (x.getD 7 0), b01 (decide (max (up (x.getD 4 0 - 4) 8) (x.getD 6 0) ≤ min ((x.getD 5 0 - 4) / 8) (x.getD 7 0)))]
def pin_fpix := zs 4 ++ ivs 2 (-1048576) 1048576 ++ zs 2
def out_fpix (v : List (Option Iv)) : List (Option Iv) := [zz, zz, iv 0 1]
def s_fpix : Sum := mkS gl0 22 [An 4, I1, I1, I1, I1] [I1, I1, Bo] pin_fpix sem_fpix
def i_fpix : Inf := ⟨pin_fpix, out_fpix⟩
def aimed (x : List Int) : List Int := [x.getD 3 0, x.getD 4 0, x.getD 5 0, x.getD 6 0, x.getD 7 0, x.getD 8 0, x.getD 9 0, x.getD 10 0, x.getD 11 0, x.getD 16 0 - x.getD 0 0, x.getD 17 0 - x.getD 1 0, x.getD 18 0 - x.getD 2 0, x.getD 19 0 - x.getD 0 0, x.getD 20 0 - x.getD 1 0, x.getD 21 0 - x.getD 2 0]
def fviewL (x : List Int) : List Int := if camB x 0 = true then if worldB x 16 = true then turnedP (aimed x) else z7 8 else z7 150
def sem_fview (x : List Int) : List Int := ex7 (fviewL x)
def pin_fview := zs 22
def out_fview (v : List (Option Iv)) : List (Option Iv) := ivs 6 (-24576) 24576 ++ [iv 0 150]
def s_fview : Sum := mkS gl0 20 [An 16, An 6] [An 6, I1] pin_fview sem_fview
def i_fview : Inf := ⟨pin_fview, out_fview⟩
def vw (x : List Int) (i : Nat) : Int := (turnedP (aimed x)).getD i 0
def nearV (x : List Int) : Int := max (vw x 2) (x.getD 13 0)
def farV (x : List Int) : Int := vw x 5
def goLo (f a b n : Int) : Int := 8 * f * n / (if 0 ≤ n then b else a)
def goHi (f a b n : Int) : Int := 8 * f * n / (if 0 ≤ n then a else b)
def leftV (x : List Int) : Int := goLo (x.getD 12 0) (nearV x) (farV x) (vw x 0) + 4 * x.getD 14 0
def rightV (x : List Int) : Int := goHi (x.getD 12 0) (nearV x) (farV x) (vw x 3) + 4 * x.getD 14 0
def topV (x : List Int) : Int := 4 * x.getD 15 0 - goHi (x.getD 12 0) (nearV x) (farV x) (vw x 4)
def botV (x : List Int) : Int := 4 * x.getD 15 0 - goLo (x.getD 12 0) (nearV x) (farV x) (vw x 1)
def shX0 (x : List Int) : Int := max (up (leftV x - 4) 8) (x.getD 22 0)
def shY0 (x : List Int) : Int := max (up (topV x - 4) 8) (x.getD 23 0)
def shX1 (x : List Int) : Int := min ((rightV x - 4) / 8) (x.getD 24 0)
def shY1 (x : List Int) : Int := min ((botV x - 4) / 8) (x.getD 25 0)
def winC (x : List Int) : Bool := winB x 22 14 15
def showsB (x : List Int) : Bool := decide (nearV x ≤ farV x ∧ shX0 x ≤ shX1 x ∧ shY0 x ≤ shY1 x)
def shadowP (x : List Int) : List Int := [shX0 x, shY0 x, shX1 x, shY1 x, 16777216 / nearV x, 1, 0]
def shadowL (x : List Int) : List Int := if camB x 0 = true then if worldB x 16 = true then if winC x = true then if showsB x = true then shadowP x else z7 0 else z7 2 else z7 8 else z7 150
def sem_shadow (x : List Int) : List Int := ex7 (shadowL x)
def pin_shadow := zs 26
def out_shadow (v : List (Option Iv)) : List (Option Iv) := ivs 4 0 63 ++ [iv 0 65536, iv 0 1, iv 0 150]
def s_shadow : Sum := mkS gl0 9 [An 16, An 6, An 4] [An 5, Bo, I1] pin_shadow sem_shadow
def i_shadow : Inf := ⟨pin_shadow, out_shadow⟩
/-! ### examples that live -/
def sem_alive (_ : List Int) : List Int := [1]
def out_alive (_ : List (Option Iv)) : List (Option Iv) := [iv 1 1]
end Go.Proofs.YtgcoidbaoigkeaaDoor.fix
