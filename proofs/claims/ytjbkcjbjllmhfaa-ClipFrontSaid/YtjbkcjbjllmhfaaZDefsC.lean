/-
  Lists of triangles: the definitions.
-/
import Derived.Test.YtjbkcjbjllmhfaaZDefsL
set_option linter.unusedVariables false
namespace Go.Proofs.Ytjbkcjbjllmhfaa.fix
open Go.RowKit Go.Sx

/-- A list of triangles. -/
def Ts : Sh := ⟨false, [.s 53 (List.replicate 15 (.i .i64))]⟩
/-- A triangle's corner, behind the plane's number. -/
def cornL (x : List Int) (i : Nat) : List Int := [x.getD (1 + 5 * i) 0, x.getD (2 + 5 * i) 0, x.getD (3 + 5 * i) 0, x.getD (4 + 5 * i) 0, x.getD (5 + 5 * i) 0]
def inC (x : List Int) (i : Nat) : Bool := decide (x.getD 0 0 ≤ x.getD (3 + 5 * i) 0)
def cut5 (n : Int) (a b : List Int) : List Int := [cutV (n :: (a ++ b)) 1, cutV (n :: (a ++ b)) 2, n, cutV (n :: (a ++ b)) 4, cutV (n :: (a ++ b)) 5]
/-- What a side leaves. -/
def sideC (x : List Int) (i j : Nat) : List (List Int) :=
  if inC x i = true then (if inC x j = true then [cornL x i] else [cornL x i, cut5 (x.getD 0 0) (cornL x j) (cornL x i)])
  else (if inC x j = true then [cut5 (x.getD 0 0) (cornL x i) (cornL x j)] else [])
def polyC (x : List Int) : List (List Int) := sideC x 0 1 ++ (sideC x 1 2 ++ sideC x 2 0)
def fanC : List (List Int) → List (List Int)
  | p :: q :: r :: l => (p ++ (q ++ r)) :: fanC (p :: r :: l)
  | _ => []
def nearT (x : List Int) : Bool := pointB x 1 && (pointB x 6 && pointB x 11)
noncomputable def leftC (x : List Int) : Int := cod ((fanC (polyC x)).map cod)
noncomputable def nearL (x : List Int) : List Int := if nearB x = true then (if nearT x = true then [leftC x, 0] else [cod [], 8]) else [cod [], 2]
noncomputable def sem_cnear (x : List Int) : List Int := [(nearL x).getD 0 0, (nearL x).getD 1 0]
def out_cnear (v : List (Option Iv)) : List (Option Iv) := [none, iv 0 8]
noncomputable def s_cnear : Sum := mkS gl0 29 [I1, An 15] [Ts, I1] (zs 16) sem_cnear
def i_cnear : Inf := ⟨(zs 16), out_cnear⟩
def pin_rleft := [iv 256 4096] ++ pin_pt ++ pin_pt ++ pin_pt
noncomputable def sem_rleft (x : List Int) : List Int := [leftC x]
def out_rleft (v : List (Option Iv)) : List (Option Iv) := [none]
noncomputable def s_rleft : Sum := mkS gl0 52 [I1, An 15] [Ts] pin_rleft sem_rleft
def i_rleft : Inf := ⟨pin_rleft, out_rleft⟩
noncomputable def sem_rnear (x : List Int) : List Int := sem_cnear x
def out_rnear (v : List (Option Iv)) : List (Option Iv) := [none, iv 0 8]
noncomputable def s_rnear : Sum := mkS gl0 32 [I1, An 15] [Ts, I1] (zs 16) sem_rnear
def i_rnear : Inf := ⟨(zs 16), out_rnear⟩
/-- A triangle's fifteen numbers. -/
noncomputable def t15 (x : Int) : List Int := [co x 0, co x 1, co x 2, co x 3, co x 4, co x 5, co x 6, co x 7, co x 8, co x 9, co x 10, co x 11, co x 12, co x 13, co x 14]
noncomputable def sem_same19 (x : List Int) : List Int := [b01 (decide ((dec (x.getD 0 0)).map t15 = (dec (x.getD 1 0)).map t15))]
def out_same19 (v : List (Option Iv)) : List (Option Iv) := [iv 0 1]
def pin_same19 : List (Option Iv) := [none, none]
def pre_same19 (x : List Int) : Prop := vsOK pin_same19 x ∧ (dec (x.getD 0 0)).length ≤ 4096
noncomputable def s_same19 : Sum := mkP gl0 33 [Ts, Ts] [Bo] pre_same19 sem_same19
def i_same19 : Inf := ⟨[some ⟨1, 0⟩], out_same19⟩
/-- Has a triangle a corner? -/
noncomputable def hasT (x : Int) (p : List Int) : Bool := decide ([co x 0, co x 1, co x 2, co x 3, co x 4] = p ∨ [co x 5, co x 6, co x 7, co x 8, co x 9] = p ∨ [co x 10, co x 11, co x 12, co x 13, co x 14] = p)
noncomputable def sem_has19 (x : List Int) : List Int := [b01 ((dec (x.getD 0 0)).any fun t => hasT t [x.getD 1 0, x.getD 2 0, x.getD 3 0, x.getD 4 0, x.getD 5 0])]
def out_has19 (v : List (Option Iv)) : List (Option Iv) := [iv 0 1]
def pin_has19 : List (Option Iv) := [none] ++ zs 5
def pre_has19 (x : List Int) : Prop := vsOK pin_has19 x ∧ (dec (x.getD 0 0)).length ≤ 4096
noncomputable def s_has19 : Sum := mkP gl0 36 [Ts, An 5] [Bo] pre_has19 sem_has19
def i_has19 : Inf := ⟨[some ⟨1, 0⟩], out_has19⟩
end Go.Proofs.Ytjbkcjbjllmhfaa.fix
