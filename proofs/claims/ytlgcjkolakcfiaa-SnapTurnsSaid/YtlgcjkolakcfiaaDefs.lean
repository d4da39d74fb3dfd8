/-
  What the functions of the first layers come to: the definitions.
-/
import Derived.Test.YtlgcjkolakcfiaaSxU
set_option linter.unusedVariables false
namespace Go.Proofs.Ytlgcjkolakcfiaa.fix
open Go.RowKit Go.Sx

def U8 : Sh := ⟨false, [.i .u8]⟩
def zz : Option Iv := some i64v
def zs (n : Nat) : List (Option Iv) := List.replicate n zz
def iv (a b : Int) : Option Iv := some ⟨a, b⟩
def ivs (n : Nat) (a b : Int) : List (Option Iv) := List.replicate n (iv a b)
def pos : Option Iv := iv 1 9223372036854775807
def hull0 : Option Iv → Option Iv
  | some v => some ⟨min v.lo 0, max v.hi 0⟩
  | none => none
def ex3 (l : List Int) : List Int := [l.getD 0 0, l.getD 1 0, l.getD 2 0]
def ex4 (l : List Int) : List Int := [l.getD 0 0, l.getD 1 0, l.getD 2 0, l.getD 3 0]
def ex5 (l : List Int) : List Int := [l.getD 0 0, l.getD 1 0, l.getD 2 0, l.getD 3 0, l.getD 4 0]
def ex6 (l : List Int) : List Int := [l.getD 0 0, l.getD 1 0, l.getD 2 0, l.getD 3 0, l.getD 4 0, l.getD 5 0]
def ex13 (l : List Int) : List Int := [l.getD 0 0, l.getD 1 0, l.getD 2 0, l.getD 3 0, l.getD 4 0, l.getD 5 0, l.getD 6 0, l.getD 7 0, l.getD 8 0, l.getD 9 0, l.getD 10 0, l.getD 11 0, l.getD 12 0]
def ex16 (l : List Int) : List Int := [l.getD 0 0, l.getD 1 0, l.getD 2 0, l.getD 3 0, l.getD 4 0, l.getD 5 0, l.getD 6 0, l.getD 7 0, l.getD 8 0, l.getD 9 0, l.getD 10 0, l.getD 11 0, l.getD 12 0, l.getD 13 0, l.getD 14 0, l.getD 15 0]
def er (b : Bool) (e : Int) : Int := if b = true then 0 else e
def b01 (b : Bool) : Int := if b = true then 1 else 0

/-! ### fixed -/
def pin_floor : List (Option Iv) := [zz, pos]
def sem_floor (x : List Int) : List Int := [x.getD 0 0 / x.getD 1 0, 0]
def out_floor (v : List (Option Iv)) : List (Option Iv) := [hull0 (v.getD 0 none), iv 0 0]
def s_floor : Sum := mkS 36 [I1, I1] [I1, I1] pin_floor sem_floor
def i_floor : Inf := ⟨pin_floor, out_floor⟩
def pin_ceil : List (Option Iv) := [zz, pos]
def sem_ceil (x : List Int) : List Int := [up (x.getD 0 0) (x.getD 1 0), 0]
def out_ceil (v : List (Option Iv)) : List (Option Iv) := [hull0 (v.getD 0 none), iv 0 0]
def s_ceil : Sum := mkS 37 [I1, I1] [I1, I1] pin_ceil sem_ceil
def i_ceil : Inf := ⟨pin_ceil, out_ceil⟩
def pin_down : List (Option Iv) := [zz, pos]
def sem_down (x : List Int) : List Int := [x.getD 0 0 / x.getD 1 0]
def out_down (v : List (Option Iv)) : List (Option Iv) := [hull0 (v.getD 0 none)]
def s_down : Sum := mkS 119 [I1, I1] [I1] pin_down sem_down
def i_down : Inf := ⟨pin_down, out_down⟩
def pin_upw : List (Option Iv) := [zz, pos]
def sem_upw (x : List Int) : List Int := [up (x.getD 0 0) (x.getD 1 0)]
def out_upw (v : List (Option Iv)) : List (Option Iv) := [hull0 (v.getD 0 none)]
def s_upw : Sum := mkS 140 [I1, I1] [I1] pin_upw sem_upw
def i_upw : Inf := ⟨pin_upw, out_upw⟩

/-! ### vec -/
def all3 (m : Int) (x : List Int) (o : Nat) : Bool := decide ((-m ≤ x.getD o 0 ∧ x.getD o 0 ≤ m) ∧ (-m ≤ x.getD (o + 1) 0 ∧ x.getD (o + 1) 0 ≤ m) ∧ (-m ≤ x.getD (o + 2) 0 ∧ x.getD (o + 2) 0 ≤ m))
def rows9 (m : Int) (x : List Int) (o : Nat) : Bool := all3 m x o && (all3 m x (o + 3) && all3 m x (o + 6))
def matB (x : List Int) (o : Nat) : Bool := rows9 1024 x o && all3 4096 x (o + 9)
def dot (x : List Int) (o p : Nat) : Int := x.getD o 0 * x.getD p 0 + x.getD (o + 1) 0 * x.getD (p + 1) 0 + x.getD (o + 2) 0 * x.getD (p + 2) 0
def dotIv (v : List (Option Iv)) (o p : Nat) : Option Iv := addIv (addIv (mulIv (v.getD o none) (v.getD p none)) (mulIv (v.getD (o + 1) none) (v.getD (p + 1) none))) (mulIv (v.getD (o + 2) none) (v.getD (p + 2) none))
def divIv (k : Int) : Option Iv → Option Iv
  | some v => some ⟨v.lo / k, v.hi / k⟩
  | none => none

def sem_vcheck (x : List Int) : List Int := [er (all3 4096 x 0) 20]
def pin_vcheck := zs 3
def out_vcheck (v : List (Option Iv)) : List (Option Iv) := [iv 0 20]
def s_vcheck : Sum := mkS 76 [An 3] [I1] pin_vcheck sem_vcheck
def i_vcheck : Inf := ⟨pin_vcheck, out_vcheck⟩
def sem_all (x : List Int) : List Int := [b01 (all3 (x.getD 3 0) x 0)]
def pin_all := zs 3 ++ [iv 0 1099511627776]
def out_all (v : List (Option Iv)) : List (Option Iv) := [iv 0 1]
def s_all : Sum := mkS 77 [An 3, I1] [Bo] pin_all sem_all
def i_all : Inf := ⟨pin_all, out_all⟩
def sem_rows (x : List Int) : List Int := [b01 (rows9 1024 x 0)]
def pin_rows := zs 9
def out_rows (v : List (Option Iv)) : List (Option Iv) := [iv 0 1]
def s_rows : Sum := mkS 126 [An 9] [Bo] pin_rows sem_rows
def i_rows : Inf := ⟨pin_rows, out_rows⟩
def sem_rrows (x : List Int) : List Int := [b01 (rows9 (x.getD 9 0) x 0)]
def pin_rrows := zs 9 ++ [iv 0 1099511627776]
def out_rrows (v : List (Option Iv)) : List (Option Iv) := [iv 0 1]
def s_rrows : Sum := mkS 130 [An 9, I1] [Bo] pin_rrows sem_rrows
def i_rrows : Inf := ⟨pin_rrows, out_rrows⟩
def sem_cmat (x : List Int) : List Int := [er (matB x 0) 20]
def pin_cmat := zs 12
def out_cmat (v : List (Option Iv)) : List (Option Iv) := [iv 0 20]
def s_cmat : Sum := mkS 78 [An 12] [I1] pin_cmat sem_cmat
def i_cmat : Inf := ⟨pin_cmat, out_cmat⟩
def sem_rmay (x : List Int) : List Int := [b01 (matB x 0)]
def pin_rmay := zs 12
def out_rmay (v : List (Option Iv)) : List (Option Iv) := [iv 0 1]
def s_rmay : Sum := mkS 79 [An 12] [Bo] pin_rmay sem_rmay
def i_rmay : Inf := ⟨pin_rmay, out_rmay⟩
def sem_turn0 (x : List Int) : List Int := [dot x 0 9 / 256, dot x 3 9 / 256, dot x 6 9 / 256]
def pin_turn0 := ivs 9 (-1024) 1024 ++ ivs 3 (-32768) 32768
def out_turn0 (v : List (Option Iv)) : List (Option Iv) := [divIv 256 (dotIv v 0 9), divIv 256 (dotIv v 3 9), divIv 256 (dotIv v 6 9)]
def s_turn0 : Sum := mkS 121 [An 9, An 3] [An 3] pin_turn0 sem_turn0
def i_turn0 : Inf := ⟨pin_turn0, out_turn0⟩
def sem_byr (x : List Int) : List Int := [dot x 0 3 / 256]
def pin_byr := ivs 3 (-1024) 1024 ++ ivs 3 (-32768) 32768
def out_byr (v : List (Option Iv)) : List (Option Iv) := [divIv 256 (dotIv v 0 3)]
def s_byr : Sum := mkS 124 [An 3, An 3] [I1] pin_byr sem_byr
def i_byr : Inf := ⟨pin_byr, out_byr⟩
def sem_turned := sem_turn0
def pin_turned := pin_turn0
def out_turned := out_turn0
def s_turned : Sum := mkS 123 [An 9, An 3] [An 3] pin_turned sem_turned
def i_turned : Inf := ⟨pin_turned, out_turned⟩
def turnL (x : List Int) : List Int := if (rows9 1024 x 0 && all3 32768 x 9) = true then [dot x 0 9 / 256, dot x 3 9 / 256, dot x 6 9 / 256, 0] else [0, 0, 0, 2]
def sem_turn (x : List Int) : List Int := ex4 (turnL x)
def pin_turn := zs 12
def out_turn (v : List (Option Iv)) : List (Option Iv) := ivs 3 (-393216) 393216 ++ [iv 0 2]
def s_turn : Sum := mkS 74 [An 9, An 3] [An 3, I1] pin_turn sem_turn
def i_turn : Inf := ⟨pin_turn, out_turn⟩
def sem_rturn := sem_turn
def pin_rturn := pin_turn
def out_rturn := out_turn
def s_rturn : Sum := mkS 75 [An 9, An 3] [An 3, I1] pin_rturn sem_rturn
def i_rturn : Inf := ⟨pin_rturn, out_rturn⟩
def imageP (x : List Int) : List Int := [dot x 0 12 / 256 + x.getD 9 0, dot x 3 12 / 256 + x.getD 10 0, dot x 6 12 / 256 + x.getD 11 0, 0]
def imageL (x : List Int) : List Int := if (matB x 0 && all3 4096 x 12 && all3 4096 (imageP x) 0) = true then imageP x else [0, 0, 0, 20]
def sem_image (x : List Int) : List Int := ex4 (imageL x)
def pin_image := zs 15
def out_image (v : List (Option Iv)) : List (Option Iv) := ivs 3 (-4096) 4096 ++ [iv 0 20]
def s_image : Sum := mkS 72 [An 12, An 3] [An 3, I1] pin_image sem_image
def i_image : Inf := ⟨pin_image, out_image⟩
def sem_rimage := sem_image
def pin_rimage := pin_image
def out_rimage := out_image
def s_rimage : Sum := mkS 73 [An 12, An 3] [An 3, I1] pin_rimage sem_rimage
def i_rimage : Inf := ⟨pin_rimage, out_rimage⟩
def dotC (x : List Int) (o p : Nat) : Int := x.getD o 0 * x.getD p 0 + x.getD (o + 1) 0 * x.getD (p + 3) 0 + x.getD (o + 2) 0 * x.getD (p + 6) 0
def mulP (x : List Int) : List Int := [dotC x 0 12 / 256, dotC x 0 13 / 256, dotC x 0 14 / 256, dotC x 3 12 / 256, dotC x 3 13 / 256, dotC x 3 14 / 256, dotC x 6 12 / 256, dotC x 6 13 / 256, dotC x 6 14 / 256,
  dot x 0 21 / 256 + x.getD 9 0, dot x 3 21 / 256 + x.getD 10 0, dot x 6 21 / 256 + x.getD 11 0, 0]
def mulL (x : List Int) : List Int := if (matB x 0 && matB x 12 && matB (mulP x) 0) = true then mulP x else [0, 0, 0, 0, 0, 0, 0, 0, 0, 0, 0, 0, 20]
def sem_mul (x : List Int) : List Int := ex13 (mulL x)
def pin_mul := zs 24
def out_mul (v : List (Option Iv)) : List (Option Iv) := ivs 9 (-1024) 1024 ++ ivs 3 (-4096) 4096 ++ [iv 0 20]
def s_mul : Sum := mkS 64 [An 12, An 12] [An 12, I1] pin_mul sem_mul
def i_mul : Inf := ⟨pin_mul, out_mul⟩
def sem_rmul := sem_mul
def pin_rmul := pin_mul
def out_rmul := out_mul
def s_rmul : Sum := mkS 65 [An 12, An 12] [An 12, I1] pin_rmul sem_rmul
def i_rmul : Inf := ⟨pin_rmul, out_rmul⟩

/-! ### camera -/
def lensB (x : List Int) (o : Nat) : Bool := decide ((1 ≤ x.getD o 0 ∧ x.getD o 0 ≤ 64) ∧ (256 ≤ x.getD (o + 1) 0 ∧ x.getD (o + 1) 0 ≤ 4096) ∧ (1 ≤ x.getD (o + 2) 0 ∧ x.getD (o + 2) 0 ≤ 64) ∧ (1 ≤ x.getD (o + 3) 0 ∧ x.getD (o + 3) 0 ≤ 64))
def camB (x : List Int) (o : Nat) : Bool := all3 4096 x o && (rows9 256 x (o + 3) && lensB x (o + 12))
def sem_ccheck (x : List Int) : List Int := [er (camB x 0) 150]
def pin_ccheck := zs 16
def out_ccheck (v : List (Option Iv)) : List (Option Iv) := [iv 0 150]
def s_ccheck : Sum := mkS 68 [An 16] [I1] pin_ccheck sem_ccheck
def i_ccheck : Inf := ⟨pin_ccheck, out_ccheck⟩
def sem_rccheck := sem_ccheck
def pin_rccheck := pin_ccheck
def out_rccheck := out_ccheck
def s_rccheck : Sum := mkS 89 [An 16] [I1] pin_rccheck sem_rccheck
def i_rccheck : Inf := ⟨pin_rccheck, out_rccheck⟩
/-- A row by what lies between two points. -/
def dotS (x : List Int) (o p q : Nat) : Int := x.getD o 0 * (x.getD p 0 - x.getD q 0) + x.getD (o + 1) 0 * (x.getD (p + 1) 0 - x.getD (q + 1) 0) + x.getD (o + 2) 0 * (x.getD (p + 2) 0 - x.getD (q + 2) 0)
def viewL (x : List Int) : List Int := if camB x 0 = true then if all3 4096 x 16 = true then [dotS x 3 16 0 / 256, dotS x 6 16 0 / 256, dotS x 9 16 0 / 256, 0] else [0, 0, 0, 20] else [0, 0, 0, 150]
def sem_view (x : List Int) : List Int := ex4 (viewL x)
def pin_view := zs 19
def out_view (v : List (Option Iv)) : List (Option Iv) := ivs 3 (-24576) 24576 ++ [iv 0 150]
def s_view : Sum := mkS 67 [An 16, An 3] [An 3, I1] pin_view sem_view
def i_view : Inf := ⟨pin_view, out_view⟩
def sem_rview := sem_view
def pin_rview := pin_view
def out_rview := out_view
def s_rview : Sum := mkS 87 [An 16, An 3] [An 3, I1] pin_rview sem_rview
def i_rview : Inf := ⟨pin_rview, out_rview⟩
def wholeL (x : List Int) : List Int := if camB x 0 = true then [0, 0, x.getD 14 0 - 1, x.getD 15 0 - 1, 0] else [0, 0, 0, 0, 150]
def sem_whole (x : List Int) : List Int := ex5 (wholeL x)
def pin_whole := zs 16
def out_whole (v : List (Option Iv)) : List (Option Iv) := ivs 4 0 63 ++ [iv 0 150]
def s_whole : Sum := mkS 85 [An 16] [An 4, I1] pin_whole sem_whole
def i_whole : Inf := ⟨pin_whole, out_whole⟩
def sem_rwhole := sem_whole
def pin_rwhole := pin_whole
def out_rwhole := out_whole
def s_rwhole : Sum := mkS 88 [An 16] [An 4, I1] pin_rwhole sem_rwhole
def i_rwhole : Inf := ⟨pin_rwhole, out_rwhole⟩
def winB (x : List Int) (o w h : Nat) : Bool := decide ((0 ≤ x.getD o 0 ∧ x.getD o 0 ≤ x.getD (o + 2) 0 ∧ x.getD (o + 2) 0 < x.getD w 0) ∧ (0 ≤ x.getD (o + 1) 0 ∧ x.getD (o + 1) 0 ≤ x.getD (o + 3) 0 ∧ x.getD (o + 3) 0 < x.getD h 0))
def windowV (x : List Int) : Int := if camB x 0 = true then if winB x 16 14 15 = true then 0 else 2 else 150
def sem_window (x : List Int) : List Int := [windowV x]
def pin_window := zs 20
def out_window (v : List (Option Iv)) : List (Option Iv) := [iv 0 150]
def s_window : Sum := mkS 86 [An 16, An 4] [I1] pin_window sem_window
def i_window : Inf := ⟨pin_window, out_window⟩
def sem_rwindow := sem_window
def pin_rwindow := pin_window
def out_rwindow := out_window
def s_rwindow : Sum := mkS 90 [An 16, An 4] [I1] pin_rwindow sem_rwindow
def i_rwindow : Inf := ⟨pin_rwindow, out_rwindow⟩

/-! ### clip, frustum -/
def pointB (x : List Int) (o : Nat) : Bool := all3 32768 x o && decide ((0 ≤ x.getD (o + 3) 0 ∧ x.getD (o + 3) 0 ≤ 255) ∧ (0 ≤ x.getD (o + 4) 0 ∧ x.getD (o + 4) 0 ≤ 255))
def sem_pcheck (x : List Int) : List Int := [er (pointB x 0) 8]
def pin_pcheck := zs 5
def out_pcheck (v : List (Option Iv)) : List (Option Iv) := [iv 0 8]
def s_pcheck : Sum := mkS 113 [An 5] [I1] pin_pcheck sem_pcheck
def i_pcheck : Inf := ⟨pin_pcheck, out_pcheck⟩
def sem_rpmay (x : List Int) : List Int := [b01 (pointB x 0)]
def pin_rpmay := zs 5
def out_rpmay (v : List (Option Iv)) : List (Option Iv) := [iv 0 1]
def s_rpmay : Sum := mkS 114 [An 5] [Bo] pin_rpmay sem_rpmay
def i_rpmay : Inf := ⟨pin_rpmay, out_rpmay⟩

def pin_cam : List (Option Iv) := ivs 3 (-4096) 4096 ++ ivs 9 (-256) 256 ++ [iv 1 64, iv 256 4096, iv 1 64, iv 1 64]
def sem_across (x : List Int) : List Int := [8 * x.getD 12 0 * x.getD 16 0 / x.getD 17 0 + 4 * x.getD 14 0]
def pin_across := pin_cam ++ [iv (-32768) 32768, iv 1 32768]
def out_across (v : List (Option Iv)) : List (Option Iv) := [iv (-16777472) 16777472]
def s_across : Sum := mkS 141 [An 16, I1, I1] [I1] pin_across sem_across
def i_across : Inf := ⟨pin_across, out_across⟩
def sem_adown (x : List Int) : List Int := [4 * x.getD 15 0 - 8 * x.getD 12 0 * x.getD 16 0 / x.getD 17 0]
def pin_adown := pin_across
def out_adown := out_across
def s_adown : Sum := mkS 142 [An 16, I1, I1] [I1] pin_adown sem_adown
def i_adown : Inf := ⟨pin_adown, out_adown⟩

/-! ### snap -/
def spotB (x : List Int) (o : Nat) : Bool := decide ((-131072 ≤ x.getD o 0 ∧ x.getD o 0 ≤ 131072) ∧ (-131072 ≤ x.getD (o + 1) 0 ∧ x.getD (o + 1) 0 ≤ 131072) ∧ (1 ≤ x.getD (o + 2) 0 ∧ x.getD (o + 2) 0 ≤ 65536) ∧
  (0 ≤ x.getD (o + 3) 0 ∧ x.getD (o + 3) 0 ≤ 255) ∧ (0 ≤ x.getD (o + 4) 0 ∧ x.getD (o + 4) 0 ≤ 255))
def triB (x : List Int) : Bool := spotB x 0 && (spotB x 5 && spotB x 10)
def sem_scheck (x : List Int) : List Int := [er (spotB x 0) 8]
def pin_scheck := zs 5
def out_scheck (v : List (Option Iv)) : List (Option Iv) := [iv 0 8]
def s_scheck : Sum := mkS 44 [An 5] [I1] pin_scheck sem_scheck
def i_scheck : Inf := ⟨pin_scheck, out_scheck⟩
def sem_rsmay (x : List Int) : List Int := [b01 (spotB x 0)]
def pin_rsmay := zs 5
def out_rsmay (v : List (Option Iv)) : List (Option Iv) := [iv 0 1]
def s_rsmay : Sum := mkS 45 [An 5] [Bo] pin_rsmay sem_rsmay
def i_rsmay : Inf := ⟨pin_rsmay, out_rsmay⟩
def sem_rall (x : List Int) : List Int := [b01 (triB x)]
def pin_rall := zs 15
def out_rall (v : List (Option Iv)) : List (Option Iv) := [iv 0 1]
def s_rall : Sum := mkS 105 [An 15] [Bo] pin_rall sem_rall
def i_rall : Inf := ⟨pin_rall, out_rall⟩
def twiceV (x : List Int) : Int := (x.getD 5 0 - x.getD 0 0) * (x.getD 11 0 - x.getD 1 0) - (x.getD 10 0 - x.getD 0 0) * (x.getD 6 0 - x.getD 1 0)
def areaL (x : List Int) : List Int := if triB x = true then [twiceV x, 0] else [0, 8]
def sem_area (x : List Int) : List Int := [(areaL x).getD 0 0, (areaL x).getD 1 0]
def pin_area := zs 15
def out_area (v : List (Option Iv)) : List (Option Iv) := [iv (-137438953472) 137438953472, iv 0 8]
def s_area : Sum := mkS 38 [An 15] [I1, I1] pin_area sem_area
def i_area : Inf := ⟨pin_area, out_area⟩
def sem_rarea := sem_area
def pin_rarea := pin_area
def out_rarea := out_area
def s_rarea : Sum := mkS 39 [An 15] [I1, I1] pin_rarea sem_rarea
def i_rarea : Inf := ⟨pin_rarea, out_rarea⟩
def pin_spot : List (Option Iv) := ivs 2 (-131072) 131072 ++ [iv 1 65536] ++ ivs 2 0 255
def sem_twice (x : List Int) : List Int := [twiceV x]
def pin_twice := pin_spot ++ pin_spot ++ pin_spot
def out_twice (v : List (Option Iv)) : List (Option Iv) := [iv (-137438953472) 137438953472]
def s_twice : Sum := mkS 106 [An 15] [I1] pin_twice sem_twice
def i_twice : Inf := ⟨pin_twice, out_twice⟩
def showsL (x : List Int) : List Int := if triB x = true then if x.getD 15 0 = 0 then [b01 (decide (twiceV x ≠ 0)), 0] else if x.getD 15 0 = 1 then [b01 (decide (0 < twiceV x)), 0] else if x.getD 15 0 = 2 then [b01 (decide (twiceV x < 0)), 0] else [0, 2] else [0, 8]
def sem_shows (x : List Int) : List Int := [(showsL x).getD 0 0, (showsL x).getD 1 0]
def pin_shows := zs 15 ++ [iv 0 255]
def out_shows (v : List (Option Iv)) : List (Option Iv) := [iv 0 1, iv 0 8]
def s_shows : Sum := mkS 40 [An 15, U8] [Bo, I1] pin_shows sem_shows
def i_shows : Inf := ⟨pin_shows, out_shows⟩
def sem_rshows := sem_shows
def pin_rshows := pin_shows
def out_rshows := out_shows
def s_rshows : Sum := mkS 41 [An 15, U8] [Bo, I1] pin_rshows sem_rshows
def i_rshows : Inf := ⟨pin_rshows, out_rshows⟩
def turnT (x : List Int) : List Int := [x.getD 0 0, x.getD 1 0, x.getD 2 0, x.getD 3 0, x.getD 4 0, x.getD 10 0, x.getD 11 0, x.getD 12 0, x.getD 13 0, x.getD 14 0, x.getD 5 0, x.getD 6 0, x.getD 7 0, x.getD 8 0, x.getD 9 0, 0]
def idT (x : List Int) : List Int := [x.getD 0 0, x.getD 1 0, x.getD 2 0, x.getD 3 0, x.getD 4 0, x.getD 5 0, x.getD 6 0, x.getD 7 0, x.getD 8 0, x.getD 9 0, x.getD 10 0, x.getD 11 0, x.getD 12 0, x.getD 13 0, x.getD 14 0, 0]
def z16 (e : Int) : List Int := [0, 0, 0, 0, 0, 0, 0, 0, 0, 0, 0, 0, 0, 0, 0, e]
def frontL (x : List Int) : List Int := if triB x = true then if twiceV x = 0 then z16 6 else if twiceV x < 0 then turnT x else idT x else z16 8
def sem_front (x : List Int) : List Int := ex16 (frontL x)
def pin_front := zs 15
def out_front (v : List (Option Iv)) : List (Option Iv) := (ivs 2 (-131072) 131072 ++ [iv 0 65536] ++ ivs 2 0 255) ++ (ivs 2 (-131072) 131072 ++ [iv 0 65536] ++ ivs 2 0 255) ++ (ivs 2 (-131072) 131072 ++ [iv 0 65536] ++ ivs 2 0 255) ++ [iv 0 8]
def s_front : Sum := mkS 42 [An 15] [An 15, I1] pin_front sem_front
def i_front : Inf := ⟨pin_front, out_front⟩
def sem_rfront := sem_front
def pin_rfront := pin_front
def out_rfront := out_front
def s_rfront : Sum := mkS 43 [An 15] [An 15, I1] pin_rfront sem_rfront
def i_rfront : Inf := ⟨pin_rfront, out_rfront⟩
def placeL (x : List Int) : List Int := if camB x 0 = true then if pointB x 16 = true then if x.getD 18 0 < x.getD 13 0 then [0, 0, 0, 0, 0, 6] else
  [8 * x.getD 12 0 * x.getD 16 0 / x.getD 18 0 + 4 * x.getD 14 0, 4 * x.getD 15 0 - 8 * x.getD 12 0 * x.getD 17 0 / x.getD 18 0, (16777216 : Int).tdiv (x.getD 18 0), x.getD 19 0, x.getD 20 0, 0] else [0, 0, 0, 0, 0, 8] else [0, 0, 0, 0, 0, 150]
def sem_place (x : List Int) : List Int := ex6 (placeL x)
def pin_place := zs 21
def out_place (v : List (Option Iv)) : List (Option Iv) := ivs 2 (-65792) 65792 ++ [iv 0 65536] ++ ivs 2 0 255 ++ [iv 0 150]
def s_place : Sum := mkS 50 [An 16, An 5] [An 5, I1] pin_place sem_place
def i_place : Inf := ⟨pin_place, out_place⟩
def sem_rplace := sem_place
def pin_rplace := pin_place
def out_rplace := out_place
def s_rplace : Sum := mkS 51 [An 16, An 5] [An 5, I1] pin_rplace sem_rplace
def i_rplace : Inf := ⟨pin_rplace, out_rplace⟩

/-! ### edges -/
def pixB (x : List Int) (o : Nat) : Bool := decide (0 ≤ x.getD o 0 ∧ x.getD o 0 < 64 ∧ 0 ≤ x.getD (o + 1) 0 ∧ x.getD (o + 1) 0 < 64)
/-- A pixel's weight by the side from a to b. -/
def wgt (x : List Int) (a b p : Nat) : Int := (x.getD b 0 - x.getD a 0) * (8 * x.getD (p + 1) 0 + 4 - x.getD (a + 1) 0) - (8 * x.getD p 0 + 4 - x.getD a 0) * (x.getD (b + 1) 0 - x.getD (a + 1) 0)
def efrontV (x : List Int) : Int := if triB x = true then if 0 < twiceV x then 0 else 6 else 8
def sem_efront (x : List Int) : List Int := [efrontV x]
def pin_efront := zs 15
def out_efront (v : List (Option Iv)) : List (Option Iv) := [iv 0 8]
def s_efront : Sum := mkS 109 [An 15] [I1] pin_efront sem_efront
def i_efront : Inf := ⟨pin_efront, out_efront⟩
def sem_refront := sem_efront
def pin_refront := pin_efront
def out_refront := out_efront
def s_refront : Sum := mkS 135 [An 15] [I1] pin_refront sem_refront
def i_refront : Inf := ⟨pin_refront, out_refront⟩
def edgesL (x : List Int) : List Int := if efrontV x = 0 then if pixB x 15 = true then [wgt x 5 10 15, wgt x 10 0 15, wgt x 0 5 15, 0] else [0, 0, 0, 2] else [0, 0, 0, efrontV x]
def sem_edges (x : List Int) : List Int := ex4 (edgesL x)
def pin_edges := zs 17
def out_edges (v : List (Option Iv)) : List (Option Iv) := ivs 3 (-137438953472) 137438953472 ++ [iv 0 8]
def s_edges : Sum := mkS 47 [An 15, I1, I1] [An 3, I1] pin_edges sem_edges
def i_edges : Inf := ⟨pin_edges, out_edges⟩
def sem_redges := sem_edges
def pin_redges := pin_edges
def out_redges := out_edges
def s_redges : Sum := mkS 99 [An 15, I1, I1] [An 3, I1] pin_redges sem_redges
def i_redges : Inf := ⟨pin_redges, out_redges⟩
def ownsB (x : List Int) (a b : Nat) : Bool := decide (x.getD (b + 1) 0 < x.getD (a + 1) 0 ∨ (x.getD (b + 1) 0 = x.getD (a + 1) 0 ∧ x.getD a 0 < x.getD b 0))
def sideB (x : List Int) (a b p : Nat) : Bool := decide (0 < wgt x a b p ∨ (wgt x a b p = 0 ∧ ownsB x a b = true))
def hasB (x : List Int) : Bool := sideB x 5 10 15 && (sideB x 10 0 15 && sideB x 0 5 15)
def coversL (x : List Int) : List Int := if (edgesL x).getD 3 0 = 0 then [b01 (hasB x), 0] else [0, (edgesL x).getD 3 0]
def sem_covers (x : List Int) : List Int := [(coversL x).getD 0 0, (coversL x).getD 1 0]
def pin_covers := zs 17
def out_covers (v : List (Option Iv)) : List (Option Iv) := [iv 0 1, iv 0 8]
def s_covers : Sum := mkS 48 [An 15, I1, I1] [Bo, I1] pin_covers sem_covers
def i_covers : Inf := ⟨pin_covers, out_covers⟩
def sem_rcovers := sem_covers
def pin_rcovers := pin_covers
def out_rcovers := out_covers
def s_rcovers : Sum := mkS 100 [An 15, I1, I1] [Bo, I1] pin_rcovers sem_rcovers
def i_rcovers : Inf := ⟨pin_rcovers, out_rcovers⟩
def sem_has21 (x : List Int) : List Int := [if (edgesL x).getD 3 0 = 0 then b01 (hasB x) else 0]
def pin_has21 := zs 17
def out_has21 (v : List (Option Iv)) : List (Option Iv) := [iv 0 1]
def s_has21 : Sum := mkS 49 [An 15, I1, I1] [Bo] pin_has21 sem_has21
def i_has21 : Inf := ⟨pin_has21, out_has21⟩
def ewinB (x : List Int) : Bool := pixB x 15 && (pixB x 17 && decide (x.getD 15 0 ≤ x.getD 17 0 ∧ x.getD 16 0 ≤ x.getD 18 0))
def lowV (x : List Int) (o w : Nat) : Int := max (x.getD w 0) (up (min (min (x.getD o 0) (x.getD (o + 5) 0)) (x.getD (o + 10) 0) - 4) 8)
def highV (x : List Int) (o w : Nat) : Int := min (x.getD w 0) ((max (max (x.getD o 0) (x.getD (o + 5) 0)) (x.getD (o + 10) 0) - 4) / 8)
def boundsL (x : List Int) : List Int := if efrontV x = 0 then if ewinB x = true then if highV x 0 17 < lowV x 0 15 ∨ highV x 1 18 < lowV x 1 16 then [0, 0, 0, 0, 0, 0] else [lowV x 0 15, lowV x 1 16, highV x 0 17, highV x 1 18, 1, 0] else [0, 0, 0, 0, 0, 2] else [0, 0, 0, 0, 0, efrontV x]
def sem_bounds (x : List Int) : List Int := ex6 (boundsL x)
def pin_bounds := zs 19
def out_bounds (v : List (Option Iv)) : List (Option Iv) := ivs 4 0 63 ++ [iv 0 1, iv 0 8]
def s_bounds : Sum := mkS 98 [An 15, An 4] [An 4, Bo, I1] pin_bounds sem_bounds
def i_bounds : Inf := ⟨pin_bounds, out_bounds⟩
def sem_rbounds := sem_bounds
def pin_rbounds := pin_bounds
def out_rbounds := out_bounds
def s_rbounds : Sum := mkS 101 [An 15, An 4] [An 4, Bo, I1] pin_rbounds sem_rbounds
def i_rbounds : Inf := ⟨pin_rbounds, out_rbounds⟩

def pin_wgt := pin_twice ++ ivs 2 0 63
def sem_weights (x : List Int) : List Int := [wgt x 5 10 15, wgt x 10 0 15, wgt x 0 5 15]
def pin_weights := pin_wgt
def out_weights (v : List (Option Iv)) : List (Option Iv) := ivs 3 (-137438953472) 137438953472
def s_weights : Sum := mkS 137 [An 15, I1, I1] [An 3] pin_weights sem_weights
def i_weights : Inf := ⟨pin_weights, out_weights⟩
def sem_weight (x : List Int) : List Int := [wgt x 0 5 10]
def pin_weight := pin_spot ++ pin_spot ++ ivs 2 0 63
def out_weight (v : List (Option Iv)) : List (Option Iv) := [iv (-137438953472) 137438953472]
def s_weight : Sum := mkS 143 [An 5, An 5, I1, I1] [I1] pin_weight sem_weight
def i_weight : Inf := ⟨pin_weight, out_weight⟩
def sem_has (x : List Int) : List Int := [b01 (hasB x)]
def pin_has := pin_wgt
def out_has (v : List (Option Iv)) : List (Option Iv) := [iv 0 1]
def s_has : Sum := mkS 138 [An 15, I1, I1] [Bo] pin_has sem_has
def i_has : Inf := ⟨pin_has, out_has⟩

/-! ### plane -/
def deepV (x : List Int) : Int := wgt x 5 10 15 * x.getD 2 0 + wgt x 10 0 15 * x.getD 7 0 + wgt x 0 5 15 * x.getD 12 0
def texV (x : List Int) (o : Nat) : Int := wgt x 5 10 15 * x.getD 2 0 * x.getD o 0 + wgt x 10 0 15 * x.getD 7 0 * x.getD (o + 5) 0 + wgt x 0 5 15 * x.getD 12 0 * x.getD (o + 10) 0
def atL (x : List Int) : List Int := if (edgesL x).getD 3 0 = 0 then if hasB x = true then [8 * x.getD 15 0 + 4, 8 * x.getD 16 0 + 4, deepV x / twiceV x, texV x 3 / deepV x, texV x 4 / deepV x, 0] else [0, 0, 0, 0, 0, 6] else [0, 0, 0, 0, 0, (edgesL x).getD 3 0]
def sem_plat (x : List Int) : List Int := ex6 (atL x)
def pin_plat := zs 17
def out_plat (v : List (Option Iv)) : List (Option Iv) := ivs 2 0 511 ++ [iv 0 65536] ++ ivs 2 0 255 ++ [iv 0 8]
def s_plat : Sum := mkS 92 [An 15, I1, I1] [An 5, I1] pin_plat sem_plat
def i_plat : Inf := ⟨pin_plat, out_plat⟩
def ofL (x : List Int) : List Int := [8 * x.getD 15 0 + 4, 8 * x.getD 16 0 + 4, deepV x / twiceV x, texV x 3 / deepV x, texV x 4 / deepV x]
def sem_of (x : List Int) : List Int := ofL x
def pin_of := pin_wgt
def pre_of (x : List Int) : Prop := vsOK pin_of x ∧ hasB x = true ∧ 0 < twiceV x
def out_of (v : List (Option Iv)) : List (Option Iv) := [zz, zz, none, none, none]
def s_of : Sum := mkP 133 [An 15, I1, I1] [An 5] pre_of sem_of
def i_of : Inf := ⟨[some ⟨1, 0⟩], out_of⟩
def sem_rplat := sem_plat
def pin_rplat := pin_plat
def out_rplat := out_plat
def s_rplat : Sum := mkS 95 [An 15, I1, I1] [An 5, I1] pin_rplat sem_rplat
def i_rplat : Inf := ⟨pin_rplat, out_rplat⟩


/-! ### examples that live -/
def sem_alive (_ : List Int) : List Int := [1]
def out_alive (_ : List (Option Iv)) : List (Option Iv) := [iv 1 1]
def pin_alive01 : List (Option Iv) := []
def sem_alive01 := sem_alive
def out_alive01 := out_alive
def s_alive01 : Sum := mkS 35 [] [Bo] pin_alive01 sem_alive01
def i_alive01 : Inf := ⟨pin_alive01, out_alive01⟩
def pin_alive02 : List (Option Iv) := []
def sem_alive02 := sem_alive
def out_alive02 := out_alive
def s_alive02 : Sum := mkS 82 [] [Bo] pin_alive02 sem_alive02
def i_alive02 : Inf := ⟨pin_alive02, out_alive02⟩
def pin_alive15 : List (Option Iv) := []
def sem_alive15 := sem_alive
def out_alive15 := out_alive
def s_alive15 : Sum := mkS 66 [] [Bo] pin_alive15 sem_alive15
def i_alive15 : Inf := ⟨pin_alive15, out_alive15⟩
def pin_alive20 : List (Option Iv) := []
def sem_alive20 := sem_alive
def out_alive20 := out_alive
def s_alive20 : Sum := mkS 52 [] [Bo] pin_alive20 sem_alive20
def i_alive20 : Inf := ⟨pin_alive20, out_alive20⟩
def pin_alive21 : List (Option Iv) := []
def sem_alive21 := sem_alive
def out_alive21 := out_alive
def s_alive21 : Sum := mkS 46 [] [Bo] pin_alive21 sem_alive21
def i_alive21 : Inf := ⟨pin_alive21, out_alive21⟩
def pin_alive22 : List (Option Iv) := []
def sem_alive22 := sem_alive
def out_alive22 := out_alive
def s_alive22 : Sum := mkS 94 [] [Bo] pin_alive22 sem_alive22
def i_alive22 : Inf := ⟨pin_alive22, out_alive22⟩
end Go.Proofs.Ytlgcjkolakcfiaa.fix
