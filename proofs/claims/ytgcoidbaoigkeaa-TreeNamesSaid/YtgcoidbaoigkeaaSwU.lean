/-
  Plain arithmetic for laws: wraps that do not wrap, division rounded down and up, and lists of numbers in range.
-/
import Derived.Test.YtgcoidbaoigkeaaSwS
set_option linter.unusedVariables false
set_option linter.unusedSimpArgs false
namespace Go.Sx
open Go.RowKit

theorem wrap64 {x : Int} (h1 : -9223372036854775808 ≤ x) (h2 : x ≤ 9223372036854775807) : IntKind.i64.wrap x = x := by
  rw [IntKind.wrap_i64]; omega

theorem div_uniq {a b q r : Int} (hb : 0 < b) (h : b * q + r = a) (h0 : 0 ≤ r) (h1 : r < b) : a / b = q :=
  ((Int.ediv_emod_unique hb).2 ⟨by omega, h0, h1⟩).1

def up (a b : Int) : Int := -((-a) / b)

theorem floor_pos {a b : Int} (hb : 0 < b) (h : 0 ≤ a.tmod b) : a.tdiv b = a / b := by
  have h1 := Int.mul_tdiv_add_tmod a b
  have h2 := Int.tmod_lt_of_pos a hb
  exact (div_uniq hb h1 h h2).symm
theorem up_neg {a b : Int} (hb : 0 < b) (h : a.tmod b ≤ 0) : a.tdiv b = up a b := by
  have h1 := Int.mul_tdiv_add_tmod a b
  have h2 := Int.lt_tmod_of_pos a hb
  unfold up
  rw [div_uniq hb (q := -(a.tdiv b)) (r := -a.tmod b) (by rw [Int.mul_neg]; omega) (by omega) (by omega)]
  omega

theorem div_range {a b l h : Int} (hb : 0 < b) (hl : l ≤ 0) (hh : 0 ≤ h) (h1 : l ≤ a) (h2 : a ≤ h) : l ≤ a / b ∧ a / b ≤ h := by
  constructor
  · rw [Int.le_ediv_iff_mul_le hb]
    have : l * b ≤ l * 1 := Int.mul_le_mul_of_nonpos_left hl (by omega)
    omega
  · apply Int.ediv_le_of_le_mul hb
    have : h * 1 ≤ h * b := Int.mul_le_mul_of_nonneg_left (by omega) hh
    omega
theorem up_range {a b l h : Int} (hb : 0 < b) (hl : l ≤ 0) (hh : 0 ≤ h) (h1 : l ≤ a) (h2 : a ≤ h) : l ≤ up a b ∧ up a b ≤ h := by
  have := div_range (a := -a) (l := -h) (h := -l) hb (by omega) (by omega) (by omega) (by omega)
  unfold up
  omega
theorem tdiv_range {a b l h : Int} (hb : 0 < b) (hl : l ≤ 0) (hh : 0 ≤ h) (h1 : l ≤ a) (h2 : a ≤ h) : l ≤ a.tdiv b ∧ a.tdiv b ≤ h := by
  rcases Int.lt_or_le a 0 with hn | hn
  · have h3 : 0 ≤ (-a).tmod b := Int.tmod_nonneg b (by omega)
    rw [Int.neg_tmod] at h3
    rw [up_neg hb (by omega)]
    exact up_range hb hl hh h1 h2
  · rw [floor_pos hb (Int.tmod_nonneg b hn)]
    exact div_range hb hl hh h1 h2
end Go.Sx
set_option linter.unusedVariables false
set_option linter.unusedSimpArgs false
namespace Go.Sx
open Go.RowKit

structure Iv where
  lo : Int
  hi : Int

def Iv.has (v : Iv) (n : Int) : Prop := v.lo ≤ n ∧ n ≤ v.hi
def ivHas : Option Iv → Int → Prop
  | none, _ => True
  | some v, n => v.has n

inductive X where
  | c (n : Int)
  | v (i : Nat)
  | add (a b : X)
  | sub (a b : X)
  | mul (a b : X)
  | quo (a b : X)
  | rem (a b : X)
  | mn (a b : X)
  | mx (a b : X)
  | wr (k : IntKind) (a : X)
  | nl
  | ln (a : X)
  | l2 (o : L2) (a b : X)
  | l3 (a b x : X)

noncomputable def X.den (R : Fo) (r : List Int) : X → Int
  | .c n => n
  | .v i => r.getD i 0
  | .add a b => a.den R r + b.den R r
  | .sub a b => a.den R r - b.den R r
  | .mul a b => a.den R r * b.den R r
  | .quo a b => (a.den R r).tdiv (b.den R r)
  | .rem a b => (a.den R r).tmod (b.den R r)
  | .mn a b => min (a.den R r) (b.den R r)
  | .mx a b => max (a.den R r) (b.den R r)
  | .wr k a => k.wrap (a.den R r)
  | .nl => cod []
  | .ln a => ((dec (a.den R r)).length : Int)
  | .l2 o a b => o.den (a.den R r) (b.den R r)
  | .l3 a b x => cod ((dec (a.den R r)).set (b.den R r).toNat (x.den R r))

inductive XB where
  | c (b : Bool)
  | lt (a b : X)
  | le (a b : X)
  | eq (a b : X)
  | nz (a : X)
  | not (a : XB)
  | and (a b : XB)
  | or (a b : XB)
  | iff (a b : XB)

def XB.prop (R : Fo) (r : List Int) : XB → Prop
  | .c b => b = true
  | .lt a b => a.den R r < b.den R r
  | .le a b => a.den R r ≤ b.den R r
  | .eq a b => a.den R r = b.den R r
  | .nz a => a.den R r ≠ 0
  | .not a => ¬ a.prop R r
  | .and a b => a.prop R r ∧ b.prop R r
  | .or a b => a.prop R r ∨ b.prop R r
  | .iff a b => (a.prop R r ↔ b.prop R r)

inductive TX where
  | ret (es : List X)
  | ite (b : XB) (t f : TX)
  | asrt (b : XB) (t : TX)
  | call (g : Nat) (args : List X) (t : TX)
  | callp (g : Nat) (args : List X) (t : TX)
  | loop (n : Nat) (iv : List (Option Iv)) (ini : List X) (t : TX)
  | back (d : Nat) (es : List X)
  | ok
  | fail

def vsOK (vs : List (Option Iv)) (r : List Int) : Prop := vs.length = r.length ∧ ∀ i, ivHas (vs.getD i none) (r.getD i 0)

def TX.sat (Γ : List Sum) (R : Fo) (Ψ : List Int → Prop) : TX → List (List Int → Prop) → List Int → Prop
  | .ret es, _, r => Ψ (es.map (X.den R r))
  | .ite b t f, bs, r => (b.prop R r → t.sat Γ R Ψ bs r) ∧ (¬ b.prop R r → f.sat Γ R Ψ bs r)
  | .asrt b t, bs, r => b.prop R r ∧ t.sat Γ R Ψ bs r
  | .call g args t, bs, r => match Γ[g]? with
    | some s => s.pre (args.map (X.den R r)) ∧ t.sat Γ R Ψ bs (r ++ s.sem (args.map (X.den R r)))
    | none => False
  | .callp g args t, bs, r => match Γ[g]? with
    | some s => t.sat Γ R Ψ bs (r ++ s.sem (args.map (X.den R r)))
    | none => False
  | .loop n iv ini t, bs, r => ∃ (I : List Int → Prop) (μ : List Int → Nat), (∀ xs : List Int, xs.length = n → I xs → vsOK iv xs) ∧ I (ini.map (X.den R r)) ∧
      ∀ xs : List Int, xs.length = n → I xs → t.sat Γ R Ψ (bs ++ [fun ys => I ys ∧ μ ys < μ xs]) (r ++ xs)
  | .back d es, bs, r => match bs[d]? with
    | some p => p (es.map (X.den R r))
    | none => False
  | .ok, _, _ => True
  | .fail, _, _ => False

/-! ### intervals -/
def i64v : Iv := ⟨-9223372036854775808, 9223372036854775807⟩

def wrapTo (k : IntKind) (x : X) (v : Option Iv) : X × Option Iv :=
  if k = .i64 then (match v with
    | some v => if decide (-9223372036854775808 ≤ v.lo) && decide (v.hi ≤ 9223372036854775807) then (x, some v) else (.wr k x, some i64v)
    | none => (.wr k x, some i64v))
  else (.wr k x, none)

def addIv : Option Iv → Option Iv → Option Iv
  | some a, some b => some ⟨a.lo + b.lo, a.hi + b.hi⟩
  | _, _ => none
def subIv : Option Iv → Option Iv → Option Iv
  | some a, some b => some ⟨a.lo - b.hi, a.hi - b.lo⟩
  | _, _ => none
def mulIv : Option Iv → Option Iv → Option Iv
  | some a, some b => some ⟨min (min (a.lo * b.lo) (a.lo * b.hi)) (min (a.hi * b.lo) (a.hi * b.hi)), max (max (a.lo * b.lo) (a.lo * b.hi)) (max (a.hi * b.lo) (a.hi * b.hi))⟩
  | _, _ => none
def quoIv : Option Iv → Option Iv → Option Iv
  | some a, some b => if 1 ≤ b.lo then some ⟨min a.lo 0, max a.hi 0⟩ else none
  | _, _ => none
def remIv : Option Iv → Option Iv → Option Iv
  | some a, some b => if 1 ≤ b.lo then some ⟨if 0 ≤ a.lo then 0 else 1 - b.hi, b.hi - 1⟩ else none
  | _, _ => none
def mnIv : Option Iv → Option Iv → Option Iv
  | some a, some b => some ⟨min a.lo b.lo, min a.hi b.hi⟩
  | _, _ => none
def mxIv : Option Iv → Option Iv → Option Iv
  | some a, some b => some ⟨max a.lo b.lo, max a.hi b.hi⟩
  | _, _ => none

def conv (vs : List (Option Iv)) : E → X × Option Iv
  | .c n => (.c n, some ⟨n, n⟩)
  | .v i => (.v i, vs.getD i none)
  | .add k a b => match conv vs a, conv vs b with
    | (xa, ia), (xb, ib) => wrapTo k (.add xa xb) (addIv ia ib)
  | .sub k a b => match conv vs a, conv vs b with
    | (xa, ia), (xb, ib) => wrapTo k (.sub xa xb) (subIv ia ib)
  | .mul k a b => match conv vs a, conv vs b with
    | (xa, ia), (xb, ib) => wrapTo k (.mul xa xb) (mulIv ia ib)
  | .quo k a b => match conv vs a, conv vs b with
    | (xa, ia), (xb, ib) => wrapTo k (.quo xa xb) (quoIv ia ib)
  | .rem a b => match conv vs a, conv vs b with
    | (xa, ia), (xb, ib) => (.rem xa xb, remIv ia ib)
  | .mn a b => match conv vs a, conv vs b with
    | (xa, ia), (xb, ib) => (.mn xa xb, mnIv ia ib)
  | .mx a b => match conv vs a, conv vs b with
    | (xa, ia), (xb, ib) => (.mx xa xb, mxIv ia ib)
  | .cv k a => match conv vs a with
    | (xa, ia) => wrapTo k xa ia
  | .nl => (.nl, none)
  | .ln a => (.ln (conv vs a).1, none)
  | .l2 o a b => (.l2 o (conv vs a).1 (conv vs b).1, none)
  | .l3 a b x => (.l3 (conv vs a).1 (conv vs b).1 (conv vs x).1, none)

def convN (vs : List (Option Iv)) : B → Bool → XB
  | .c b, x => .c (b == x)
  | .lt a b, true => .lt (conv vs a).1 (conv vs b).1
  | .lt a b, false => .le (conv vs b).1 (conv vs a).1
  | .le a b, true => .le (conv vs a).1 (conv vs b).1
  | .le a b, false => .lt (conv vs b).1 (conv vs a).1
  | .eq a b, true => .eq (conv vs a).1 (conv vs b).1
  | .eq a b, false => .not (.eq (conv vs a).1 (conv vs b).1)
  | .nz a, true => .nz (conv vs a).1
  | .nz a, false => .eq (conv vs a).1 (.c 0)
  | .not a, x => convN vs a (!x)
  | .and a b, true => .and (convN vs a true) (convN vs b true)
  | .and a b, false => .or (convN vs a false) (convN vs b false)
  | .beq a b, true => .iff (convN vs a true) (convN vs b true)
  | .beq a b, false => .not (.iff (convN vs a true) (convN vs b true))
def convB (vs : List (Option Iv)) (b : B) : XB := convN vs b true

def decB (vs : List (Option Iv)) : B → Option Bool
  | .c b => some b
  | .lt a b => match (conv vs a).2, (conv vs b).2 with
    | some i, some j => if i.hi < j.lo then some true else if j.hi ≤ i.lo then some false else none
    | _, _ => none
  | .le a b => match (conv vs a).2, (conv vs b).2 with
    | some i, some j => if i.hi ≤ j.lo then some true else if j.hi < i.lo then some false else none
    | _, _ => none
  | .eq a b => match (conv vs a).2, (conv vs b).2 with
    | some i, some j => if i.hi < j.lo then some false else if j.hi < i.lo then some false else if i.lo = i.hi ∧ j.lo = j.hi ∧ i.lo = j.lo then some true else none
    | _, _ => none
  | .nz a => match (conv vs a).2 with
    | some i => if i.hi < 0 then some true else if 0 < i.lo then some true else if i.lo = 0 ∧ i.hi = 0 then some false else none
    | none => none
  | .not a => (decB vs a).map (!·)
  | .and a b => match decB vs a, decB vs b with
    | some false, _ => some false
    | _, some false => some false
    | some true, y => y
    | _, _ => none
  | .beq _ _ => none

def setHi (vs : List (Option Iv)) (h : Option Iv) (d : Int) : E → List (Option Iv)
  | .v i => match h, vs.getD i none with
    | some h, some v => vs.set i (some ⟨v.lo, min v.hi (h.hi - d)⟩)
    | _, _ => vs
  | .mx a b => setHi (setHi vs h d a) h d b
  | _ => vs
def setLo (vs : List (Option Iv)) (h : Option Iv) (d : Int) : E → List (Option Iv)
  | .v i => match h, vs.getD i none with
    | some h, some v => vs.set i (some ⟨max v.lo (h.lo + d), v.hi⟩)
    | _, _ => vs
  | .mn a b => setLo (setLo vs h d a) h d b
  | _ => vs

def refine' (vs : List (Option Iv)) : B → Bool → List (Option Iv)
  | .lt a b, true => setLo (setHi vs (conv vs b).2 1 a) (conv vs a).2 1 b
  | .lt a b, false => setHi (setLo vs (conv vs b).2 0 a) (conv vs a).2 0 b
  | .le a b, true => setLo (setHi vs (conv vs b).2 0 a) (conv vs a).2 0 b
  | .le a b, false => setHi (setLo vs (conv vs b).2 1 a) (conv vs a).2 1 b
  | .eq a b, true => setLo (setHi (setLo (setHi vs (conv vs b).2 0 a) (conv vs b).2 0 a) (conv vs a).2 0 b) (conv vs a).2 0 b
  | .nz a, false => setLo (setHi vs (some ⟨0, 0⟩) 0 a) (some ⟨0, 0⟩) 0 a
  | .not a, x => refine' vs a (!x)
  | .and a b, true => refine' (refine' vs a true) b true
  | _, _ => vs

def deadV (vs : List (Option Iv)) : Bool := vs.any fun v => match v with
  | some v => decide (v.hi < v.lo)
  | none => false

structure Inf where
  pin : List (Option Iv)
  out : List (Option Iv) → List (Option Iv)

def Inf.none : Inf := ⟨[], fun _ => []⟩

def inIv : Option Iv → Option Iv → Bool
  | _, none => true
  | some a, some b => decide (b.lo ≤ a.lo) && decide (a.hi ≤ b.hi)
  | none, some _ => false

def inIvs : List (Option Iv) → List (Option Iv) → Bool
  | [], [] => true
  | a :: as, b :: bs => inIv a b && inIvs as bs
  | _, _ => false

def X.same : X → X → Bool
  | .c m, .c n => m == n
  | .v m, .v n => m == n
  | .add a b, .add a' b' => a.same a' && b.same b'
  | .sub a b, .sub a' b' => a.same a' && b.same b'
  | .mul a b, .mul a' b' => a.same a' && b.same b'
  | .quo a b, .quo a' b' => a.same a' && b.same b'
  | .rem a b, .rem a' b' => a.same a' && b.same b'
  | .mn a b, .mn a' b' => a.same a' && b.same b'
  | .mx a b, .mx a' b' => a.same a' && b.same b'
  | .wr k a, .wr k' a' => k == k' && a.same a'
  | .nl, .nl => true
  | .ln a, .ln a' => a.same a'
  | .l2 o a b, .l2 o' a' b' => o == o' && (a.same a' && b.same b')
  | .l3 a b x, .l3 a' b' x' => a.same a' && (b.same b' && x.same x')
  | _, _ => false

def sameL : List X → List X → Bool
  | [], [] => true
  | a :: as, b :: bs => a.same b && sameL as bs
  | _, _ => false

/-! ### the same plain trees -/
def XB.same : XB → XB → Bool
  | .c m, .c n => m == n
  | .lt a b, .lt a' b' => a.same a' && b.same b'
  | .le a b, .le a' b' => a.same a' && b.same b'
  | .eq a b, .eq a' b' => a.same a' && b.same b'
  | .nz a, .nz a' => a.same a'
  | .not a, .not a' => a.same a'
  | .and a b, .and a' b' => a.same a' && b.same b'
  | .or a b, .or a' b' => a.same a' && b.same b'
  | .iff a b, .iff a' b' => a.same a' && b.same b'
  | _, _ => false
def ivsame : List (Option Iv) → List (Option Iv) → Bool
  | [], [] => true
  | none :: l, none :: l' => ivsame l l'
  | some a :: l, some b :: l' => (a.lo == b.lo && a.hi == b.hi) && ivsame l l'
  | _, _ => false
def TX.same : TX → TX → Bool
  | .ret a, .ret b => sameL a b
  | .ite b t f, .ite b' t' f' => b.same b' && (t.same t' && f.same f')
  | .asrt b t, .asrt b' t' => b.same b' && t.same t'
  | .call g a t, .call g' a' t' => g == g' && (sameL a a' && t.same t')
  | .callp g a t, .callp g' a' t' => g == g' && (sameL a a' && t.same t')
  | .loop n iv a t, .loop n' iv' a' t' => (n == n' && ivsame iv iv') && (sameL a a' && t.same t')
  | .back d a, .back d' a' => d == d' && sameL a a'
  | .ok, .ok => true
  | .fail, .fail => true
  | _, _ => false

def mkBoth (t f : TX) : TX := if t.same f then t else .fail

/-! ### branches that come to the same -/
def notB : XB → XB
  | .c b => .c (!b)
  | .lt a b => .le b a
  | .le a b => .lt b a
  | .not a => a
  | .and a b => .or (notB a) (notB b)
  | .or a b => .and (notB a) (notB b)
  | a => .not a

def mkIte (b : XB) (t f : TX) : TX := match t, f with
  | .ok, f => f
  | t, .ok => t
  | .ret es, .ret es' => if sameL es es' then .ret es else .ite b (.ret es) (.ret es')
  | .ret es, .ite b2 (.ret es2) f2 => if sameL es es2 then .ite (.or b b2) (.ret es) f2 else .ite b (.ret es) (.ite b2 (.ret es2) f2)
  | .ite b2 (.ret es2) t2, .ret es => if sameL es es2 then .ite (.or (notB b) b2) (.ret es) t2 else .ite (notB b) (.ret es) (.ite b2 (.ret es2) t2)
  | t, .ret es => .ite (notB b) (.ret es) t
  | t, f => .ite b t f

def merge : TX → TX
  | .ret es => .ret es
  | .ite b t f => mkIte b (merge t) (merge f)
  | .asrt b t => .asrt b (merge t)
  | .call g args t => .call g args (merge t)
  | .callp g args t => .callp g args (merge t)
  | .loop n iv ini t => .loop n iv ini (merge t)
  | .back d es => .back d es
  | .ok => .ok
  | .fail => .fail

/-! ### it is right -/
theorem mul_between {x y a b : Int} (h1 : a ≤ x) (h2 : x ≤ b) : min (a * y) (b * y) ≤ x * y ∧ x * y ≤ max (a * y) (b * y) := by
  rcases Int.le_total 0 y with hy | hy
  · have h3 := Int.mul_le_mul_of_nonneg_right h1 hy
    have h4 := Int.mul_le_mul_of_nonneg_right h2 hy
    omega
  · have h3 := Int.mul_le_mul_of_nonpos_right h1 hy
    have h4 := Int.mul_le_mul_of_nonpos_right h2 hy
    omega

theorem mulIv_has {a b : Option Iv} {x y : Int} (ha : ivHas a x) (hb : ivHas b y) : ivHas (mulIv a b) (x * y) := by
  cases a <;> cases b <;> try trivial
  rename_i a b
  obtain ⟨h1, h2⟩ := ha
  obtain ⟨h3, h4⟩ := hb
  have h5 := mul_between (y := y) h1 h2
  have h6 := mul_between (y := a.lo) h3 h4
  have h7 := mul_between (y := a.hi) h3 h4
  rw [Int.mul_comm b.lo, Int.mul_comm b.hi, Int.mul_comm y] at h6 h7
  simp only [ivHas, mulIv, Iv.has]
  omega

theorem wrapTo_has {k : IntKind} {x : X} {v : Option Iv} {R : Fo} {r : List Int} (h : ivHas v (x.den R r)) : (wrapTo k x v).1.den R r = k.wrap (x.den R r) ∧ ivHas (wrapTo k x v).2 (k.wrap (x.den R r)) := by
  unfold wrapTo
  split
  · rename_i hk
    subst hk
    have hw : ivHas (some i64v) (IntKind.i64.wrap (x.den R r)) := by
      simp only [ivHas, Iv.has, i64v, IntKind.wrap_i64]
      omega
    split
    · rename_i v
      split
      · rename_i hc
        simp only [Bool.and_eq_true, decide_eq_true_eq] at hc
        have : IntKind.i64.wrap (x.den R r) = x.den R r := by
          obtain ⟨h1, h2⟩ := h
          exact wrap64 (by omega) (by omega)
        rw [this]
        exact ⟨rfl, h⟩
      · exact ⟨rfl, hw⟩
    · exact ⟨rfl, hw⟩
  · exact ⟨rfl, trivial⟩

theorem addIv_has {a b : Option Iv} {x y : Int} (ha : ivHas a x) (hb : ivHas b y) : ivHas (addIv a b) (x + y) := by
  cases a <;> cases b <;> try trivial
  simp only [ivHas, addIv, Iv.has] at *
  omega
theorem subIv_has {a b : Option Iv} {x y : Int} (ha : ivHas a x) (hb : ivHas b y) : ivHas (subIv a b) (x - y) := by
  cases a <;> cases b <;> try trivial
  simp only [ivHas, subIv, Iv.has] at *
  omega
theorem quoIv_has {a b : Option Iv} {x y : Int} (ha : ivHas a x) (hb : ivHas b y) : ivHas (quoIv a b) (x.tdiv y) := by
  cases a <;> cases b <;> try trivial
  rename_i a b
  simp only [quoIv]
  split
  · simp only [ivHas, Iv.has] at *
    have := tdiv_range (a := x) (b := y) (l := min a.lo 0) (h := max a.hi 0) (by omega) (by omega) (by omega) (by omega) (by omega)
    omega
  · trivial
theorem remIv_has {a b : Option Iv} {x y : Int} (ha : ivHas a x) (hb : ivHas b y) : ivHas (remIv a b) (x.tmod y) := by
  cases a <;> cases b <;> try trivial
  rename_i a b
  simp only [remIv]
  split
  · simp only [ivHas, Iv.has] at *
    have h1 := Int.lt_tmod_of_pos x (b := y) (by omega)
    have h2 := Int.tmod_lt_of_pos x (b := y) (by omega)
    split
    · have := Int.tmod_nonneg (a := x) y (by omega)
      omega
    · omega
  · trivial
theorem mnIv_has {a b : Option Iv} {x y : Int} (ha : ivHas a x) (hb : ivHas b y) : ivHas (mnIv a b) (min x y) := by
  cases a <;> cases b <;> try trivial
  simp only [ivHas, mnIv, Iv.has] at *
  omega
theorem mxIv_has {a b : Option Iv} {x y : Int} (ha : ivHas a x) (hb : ivHas b y) : ivHas (mxIv a b) (max x y) := by
  cases a <;> cases b <;> try trivial
  simp only [ivHas, mxIv, Iv.has] at *
  omega

section
variable {R : Fo} {r : List Int} {vs : List (Option Iv)}

theorem conv_has (h : vsOK vs r) : ∀ e : E, (conv vs e).1.den R r = e.den R r ∧ ivHas (conv vs e).2 (e.den R r) := by
  intro e
  induction e with
  | c n => exact ⟨rfl, Int.le_refl _, Int.le_refl _⟩
  | v i => exact ⟨rfl, h.2 i⟩
  | add k a b iha ihb =>
    simp only [conv, E.den]
    have := wrapTo_has (k := k) (x := .add (conv vs a).1 (conv vs b).1) (v := addIv (conv vs a).2 (conv vs b).2) (R := R) (r := r) (by simp only [X.den, iha.1, ihb.1]; exact addIv_has iha.2 ihb.2)
    simpa only [X.den, iha.1, ihb.1] using this
  | sub k a b iha ihb =>
    simp only [conv, E.den]
    have := wrapTo_has (k := k) (x := .sub (conv vs a).1 (conv vs b).1) (v := subIv (conv vs a).2 (conv vs b).2) (R := R) (r := r) (by simp only [X.den, iha.1, ihb.1]; exact subIv_has iha.2 ihb.2)
    simpa only [X.den, iha.1, ihb.1] using this
  | mul k a b iha ihb =>
    simp only [conv, E.den]
    have := wrapTo_has (k := k) (x := .mul (conv vs a).1 (conv vs b).1) (v := mulIv (conv vs a).2 (conv vs b).2) (R := R) (r := r) (by simp only [X.den, iha.1, ihb.1]; exact mulIv_has iha.2 ihb.2)
    simpa only [X.den, iha.1, ihb.1] using this
  | quo k a b iha ihb =>
    simp only [conv, E.den]
    have := wrapTo_has (k := k) (x := .quo (conv vs a).1 (conv vs b).1) (v := quoIv (conv vs a).2 (conv vs b).2) (R := R) (r := r) (by simp only [X.den, iha.1, ihb.1]; exact quoIv_has iha.2 ihb.2)
    simpa only [X.den, iha.1, ihb.1] using this
  | rem a b iha ihb =>
    simp only [conv, E.den, X.den, iha.1, ihb.1]
    exact ⟨trivial, remIv_has iha.2 ihb.2⟩
  | mn a b iha ihb =>
    have hm : ∀ x y : Int, (if y < x then y else x) = min x y := fun x y => by split <;> omega
    simp only [conv, E.den, X.den, iha.1, ihb.1, hm]
    exact ⟨trivial, mnIv_has iha.2 ihb.2⟩
  | mx a b iha ihb =>
    have hm : ∀ x y : Int, (if y > x then y else x) = max x y := fun x y => by split <;> omega
    simp only [conv, E.den, X.den, iha.1, ihb.1, hm]
    exact ⟨trivial, mxIv_has iha.2 ihb.2⟩
  | cv k a iha =>
    simp only [conv, E.den]
    have := wrapTo_has (k := k) (x := (conv vs a).1) (v := (conv vs a).2) (R := R) (r := r) (by rw [iha.1]; exact iha.2)
    rwa [iha.1] at this
  | nl => exact ⟨rfl, trivial⟩
  | ln a iha => simp only [conv, E.den, X.den, iha.1]; exact ⟨trivial, trivial⟩
  | l2 o a b iha ihb => simp only [conv, E.den, X.den, iha.1, ihb.1]; exact ⟨trivial, trivial⟩
  | l3 a b x iha ihb ihx => simp only [conv, E.den, X.den, iha.1, ihb.1, ihx.1]; exact ⟨trivial, trivial⟩

theorem convN_prop (h : vsOK vs r) : ∀ (b : B) (x : Bool), (convN vs b x).prop R r ↔ b.den R r = x := by
  intro b
  induction b with
  | c b => intro x; simp [convN, XB.prop, B.den]
  | lt a b => intro x; cases x <;> simp [convN, XB.prop, B.den, (conv_has h _).1]
  | le a b => intro x; cases x <;> simp [convN, XB.prop, B.den, (conv_has h _).1]
  | eq a b => intro x; cases x <;> simp [convN, XB.prop, B.den, (conv_has h _).1]
  | nz a => intro x; cases x <;> simp [convN, XB.prop, X.den, B.den, (conv_has h _).1]
  | not a ih =>
    intro x
    simp only [convN, ih, B.den]
    cases a.den R r <;> cases x <;> simp
  | and a b iha ihb =>
    intro x
    cases x with
    | true => simp [convN, XB.prop, B.den, iha, ihb]
    | false =>
      simp only [convN, XB.prop, B.den, iha, ihb]
      cases a.den R r <;> cases b.den R r <;> simp
  | beq a b iha ihb =>
    intro x
    cases x <;> simp only [convN, XB.prop, B.den, iha, ihb] <;> cases a.den R r <;> cases b.den R r <;> simp

theorem convB_prop (h : vsOK vs r) (b : B) : (convB vs b).prop R r ↔ b.den R r = true := convN_prop h b true

theorem decB_spec (h : vsOK vs r) : ∀ (b : B) (x : Bool), decB vs b = some x → b.den R r = x := by
  intro b
  induction b with
  | c b => intro x hx; simpa [decB, B.den] using hx
  | lt a b =>
    intro x hx
    have ha := (conv_has (R := R) h a).2
    have hb := (conv_has (R := R) h b).2
    simp only [decB] at hx
    split at hx
    · rename_i i j hi hj
      rw [hi] at ha
      rw [hj] at hb
      simp only [ivHas, Iv.has] at ha hb
      simp only [B.den]
      split at hx
      · simp only [Option.some.injEq] at hx; subst hx; simp; omega
      · split at hx
        · simp only [Option.some.injEq] at hx; subst hx; simp; omega
        · cases hx
    · cases hx
  | le a b =>
    intro x hx
    have ha := (conv_has (R := R) h a).2
    have hb := (conv_has (R := R) h b).2
    simp only [decB] at hx
    split at hx
    · rename_i i j hi hj
      rw [hi] at ha
      rw [hj] at hb
      simp only [ivHas, Iv.has] at ha hb
      simp only [B.den]
      split at hx
      · simp only [Option.some.injEq] at hx; subst hx; simp; omega
      · split at hx
        · simp only [Option.some.injEq] at hx; subst hx; simp; omega
        · cases hx
    · cases hx
  | eq a b =>
    intro x hx
    have ha := (conv_has (R := R) h a).2
    have hb := (conv_has (R := R) h b).2
    simp only [decB] at hx
    split at hx
    · rename_i i j hi hj
      rw [hi] at ha
      rw [hj] at hb
      simp only [ivHas, Iv.has] at ha hb
      simp only [B.den]
      split at hx
      · simp only [Option.some.injEq] at hx; subst hx; simp; omega
      · split at hx
        · simp only [Option.some.injEq] at hx; subst hx; simp; omega
        · split at hx
          · simp only [Option.some.injEq] at hx; subst hx; simp; omega
          · cases hx
    · cases hx
  | nz a =>
    intro x hx
    have ha := (conv_has (R := R) h a).2
    simp only [decB] at hx
    split at hx
    · rename_i i hi
      rw [hi] at ha
      simp only [ivHas, Iv.has] at ha
      simp only [B.den]
      split at hx
      · simp only [Option.some.injEq] at hx; subst hx; simp; omega
      · split at hx
        · simp only [Option.some.injEq] at hx; subst hx; simp; omega
        · split at hx
          · simp only [Option.some.injEq] at hx; subst hx; simp; omega
          · cases hx
    · cases hx
  | not a ih =>
    intro x hx
    simp only [decB, Option.map_eq_some_iff] at hx
    obtain ⟨y, hy, rfl⟩ := hx
    simp [B.den, ih y hy]
  | and a b iha ihb =>
    intro x hx
    simp only [decB] at hx
    cases h1 : decB vs a with
    | none =>
      cases h2 : decB vs b with
      | none => rw [h1, h2] at hx; cases hx
      | some y =>
        rw [h1, h2] at hx
        cases y with
        | false =>
          simp only [Option.some.injEq] at hx
          subst hx
          simp [B.den, ihb _ h2]
        | true => cases hx
    | some z =>
      cases z with
      | false =>
        rw [h1] at hx
        simp only [Option.some.injEq] at hx
        subst hx
        simp [B.den, iha _ h1]
      | true =>
        cases h2 : decB vs b with
        | none => rw [h1, h2] at hx; cases hx
        | some y =>
          rw [h1, h2] at hx
          cases y with
          | false =>
            simp only [Option.some.injEq] at hx
            subst hx
            simp [B.den, ihb _ h2]
          | true =>
            simp only [Option.some.injEq] at hx
            subst hx
            simp [B.den, iha _ h1, ihb _ h2]
  | beq a b => intro x hx; simp [decB] at hx

theorem vsOK_set (h : vsOK vs r) {i : Nat} {v : Iv} (hv : v.has (r.getD i 0)) : vsOK (vs.set i (some v)) r := by
  refine ⟨by simpa using h.1, fun j => ?_⟩
  simp only [List.getD, List.getElem?_set]
  by_cases hij : i = j
  · subst hij
    by_cases hl : i < vs.length
    · simp only [hl, if_true, Option.getD_some]
      exact hv
    · simp only [hl, if_true, if_false, Option.getD_none]
      trivial
  · simp only [hij, if_false]
    exact h.2 j

theorem setHi_ok {v : Option Iv} {d : Int} : ∀ (e : E) (vs : List (Option Iv)), vsOK vs r → (∀ v', v = some v' → e.den R r ≤ v'.hi - d) → vsOK (setHi vs v d e) r := by
  intro e
  induction e with
  | v i =>
    intro vs h hv
    simp only [setHi]
    split
    · rename_i v' w hw
      have h1 := h.2 i
      rw [hw] at h1
      have h2 := hv v' rfl
      refine vsOK_set h ⟨h1.1, ?_⟩
      have h3 := h1.2
      have h4 : r.getD i 0 ≤ v'.hi - d := h2
      show r.getD i 0 ≤ min w.hi (v'.hi - d)
      omega
    · exact h
  | mx a b iha ihb =>
    intro vs h hv
    have hm : ∀ x y : Int, (if y > x then y else x) = max x y := fun x y => by split <;> omega
    simp only [E.den, hm] at hv
    exact ihb _ (iha vs h (fun v' h' => by have := hv v' h'; omega)) (fun v' h' => by have := hv v' h'; omega)
  | _ => intro vs h hv; exact h

theorem setLo_ok {v : Option Iv} {d : Int} : ∀ (e : E) (vs : List (Option Iv)), vsOK vs r → (∀ v', v = some v' → v'.lo + d ≤ e.den R r) → vsOK (setLo vs v d e) r := by
  intro e
  induction e with
  | v i =>
    intro vs h hv
    simp only [setLo]
    split
    · rename_i v' w hw
      have h1 := h.2 i
      rw [hw] at h1
      have h2 := hv v' rfl
      refine vsOK_set h ⟨?_, h1.2⟩
      have h3 := h1.1
      have h4 : v'.lo + d ≤ r.getD i 0 := h2
      show max w.lo (v'.lo + d) ≤ r.getD i 0
      omega
    · exact h
  | mn a b iha ihb =>
    intro vs h hv
    have hm : ∀ x y : Int, (if y < x then y else x) = min x y := fun x y => by split <;> omega
    simp only [E.den, hm] at hv
    exact ihb _ (iha vs h (fun v' h' => by have := hv v' h'; omega)) (fun v' h' => by have := hv v' h'; omega)
  | _ => intro vs h hv; exact h

theorem refine_ok : ∀ (b : B) (x : Bool) (vs : List (Option Iv)), vsOK vs r → b.den R r = x → vsOK (refine' vs b x) r := by
  intro b
  induction b with
  | c b => intro x vs h hx; cases x <;> exact h
  | lt a b =>
    intro x vs h hx
    have ha := (conv_has (R := R) h a).2
    have hb := (conv_has (R := R) h b).2
    simp only [B.den] at hx
    cases x with
    | true =>
      simp only [decide_eq_true_eq] at hx
      refine setLo_ok (R := R) _ _ (setHi_ok (R := R) _ _ h ?_) ?_
      · intro v hv; rw [hv] at hb; have := hb.2; omega
      · intro v hv; rw [hv] at ha; have := ha.1; omega
    | false =>
      simp only [decide_eq_false_iff_not] at hx
      refine setHi_ok (R := R) _ _ (setLo_ok (R := R) _ _ h ?_) ?_
      · intro v hv; rw [hv] at hb; have := hb.1; omega
      · intro v hv; rw [hv] at ha; have := ha.2; omega
  | le a b =>
    intro x vs h hx
    have ha := (conv_has (R := R) h a).2
    have hb := (conv_has (R := R) h b).2
    simp only [B.den] at hx
    cases x with
    | true =>
      simp only [decide_eq_true_eq] at hx
      refine setLo_ok (R := R) _ _ (setHi_ok (R := R) _ _ h ?_) ?_
      · intro v hv; rw [hv] at hb; have := hb.2; omega
      · intro v hv; rw [hv] at ha; have := ha.1; omega
    | false =>
      simp only [decide_eq_false_iff_not] at hx
      refine setHi_ok (R := R) _ _ (setLo_ok (R := R) _ _ h ?_) ?_
      · intro v hv; rw [hv] at hb; have := hb.1; omega
      · intro v hv; rw [hv] at ha; have := ha.2; omega
  | eq a b =>
    intro x vs h hx
    have ha := (conv_has (R := R) h a).2
    have hb := (conv_has (R := R) h b).2
    simp only [B.den] at hx
    cases x with
    | true =>
      simp only [beq_iff_eq] at hx
      refine setLo_ok (R := R) _ _ (setHi_ok (R := R) _ _ (setLo_ok (R := R) _ _ (setHi_ok (R := R) _ _ h ?_) ?_) ?_) ?_
      · intro v hv; rw [hv] at hb; have := hb.2; omega
      · intro v hv; rw [hv] at hb; have := hb.1; omega
      · intro v hv; rw [hv] at ha; have := ha.2; omega
      · intro v hv; rw [hv] at ha; have := ha.1; omega
    | false => exact h
  | nz a =>
    intro x vs h hx
    simp only [B.den] at hx
    cases x with
    | true => exact h
    | false =>
      simp only [bne_eq_false_iff_eq] at hx
      refine setLo_ok (R := R) _ _ (setHi_ok (R := R) _ _ h ?_) ?_
      · intro v hv; simp only [Option.some.injEq] at hv; subst hv; simp [hx]
      · intro v hv; simp only [Option.some.injEq] at hv; subst hv; simp [hx]
  | not a ih =>
    intro x vs h hx
    simp only [refine']
    refine ih _ vs h ?_
    simp only [B.den] at hx
    rw [← hx]; simp
  | and a b iha ihb =>
    intro x vs h hx
    cases x with
    | true =>
      simp only [B.den, Bool.and_eq_true] at hx
      exact ihb true _ (iha true vs h hx.1) hx.2
    | false => exact h
  | beq a b => intro x vs h hx; cases x <;> exact h

theorem deadV_false (h : vsOK vs r) : deadV vs = false := by
  unfold deadV
  rw [List.any_eq_false]
  intro v hv
  obtain ⟨i, hi⟩ := List.getElem?_of_mem hv
  have h1 := h.2 i
  rw [List.getD, hi] at h1
  cases v with
  | none => simp
  | some v =>
    simp only [Option.getD_some, ivHas, Iv.has] at h1
    simp; omega

def InfOK (s : Sum) (i : Inf) : Prop := (∀ xs, vsOK i.pin xs → s.pre xs) ∧ ∀ vs xs, vsOK vs xs → s.pre xs → vsOK (i.out vs) (s.sem xs)

def outsOK (Γ : List Sum) (outs : List Inf) : Prop := ∀ g s, Γ[g]? = some s → InfOK s (outs.getD g .none)

theorem outsOK_nil : outsOK [] [] := fun g s h => by simp at h
theorem outsOK_cons {Γ : List Sum} {outs : List Inf} {s : Sum} {o : Inf} (h : InfOK s o) (h' : outsOK Γ outs) : outsOK (s :: Γ) (o :: outs) := by
  intro g s' hg
  cases g with
  | zero =>
    simp only [List.getElem?_cons_zero, Option.some.injEq] at hg
    subst hg
    exact h
  | succ g => exact h' g s' (by simpa using hg)

theorem inIv_has {a b : Option Iv} {n : Int} (h : inIv a b = true) (ha : ivHas a n) : ivHas b n := by
  cases a <;> cases b <;> try trivial
  simp only [inIv, Bool.and_eq_true, decide_eq_true_eq] at h
  simp only [ivHas, Iv.has] at *
  omega

theorem inIvs_ok : ∀ {as bs : List (Option Iv)} {xs : List Int}, inIvs as bs = true → vsOK as xs → vsOK bs xs
  | [], [], _, _, h => h
  | [], _ :: _, _, h, _ => by simp [inIvs] at h
  | _ :: _, [], _, h, _ => by simp [inIvs] at h
  | a :: as, b :: bs, [], _, h => by have := h.1; simp at this
  | a :: as, b :: bs, x :: xs, hi, h => by
    simp only [inIvs, Bool.and_eq_true] at hi
    obtain ⟨h1, h2⟩ := inIvs_ok (xs := xs) hi.2 ⟨by have := h.1; simpa using this, fun i => h.2 (i + 1)⟩
    refine ⟨by simp [h1], fun i => ?_⟩
    cases i with
    | zero => exact inIv_has hi.1 (h.2 0)
    | succ i => exact h2 i

theorem vsOK_nil : vsOK [] [] := ⟨rfl, fun _ => trivial⟩
theorem vsOK_cons {v : Option Iv} {x : Int} {vs : List (Option Iv)} {xs : List Int} (h : ivHas v x) (h' : vsOK vs xs) : vsOK (v :: vs) (x :: xs) := by
  refine ⟨by simp [h'.1], fun i => ?_⟩
  cases i with
  | zero => exact h
  | succ i => exact h'.2 i
theorem conv_args (h : vsOK vs r) : ∀ args : List E, vsOK (args.map fun e => (conv vs e).2) (args.map (E.den R r))
  | [] => vsOK_nil
  | e :: args => vsOK_cons (conv_has h e).2 (conv_args h args)

theorem vsOK_app {us : List (Option Iv)} {x : List Int} (h : vsOK vs r) (h' : vsOK us x) : vsOK (vs ++ us) (r ++ x) := by
  refine ⟨by simp [h.1, h'.1], fun i => ?_⟩
  rcases Nat.lt_or_ge i vs.length with hi | hi
  · have := h.2 i
    simp only [List.getD] at this ⊢
    rw [List.getElem?_append_left hi, List.getElem?_append_left (by rw [← h.1]; exact hi)]
    exact this
  · have := h'.2 (i - vs.length)
    simp only [List.getD] at this ⊢
    rw [List.getElem?_append_right hi, List.getElem?_append_right (by rw [← h.1]; exact hi), ← h.1]
    exact this

theorem X.same_eq : ∀ a b : X, a.same b = true → a = b
  | .c m, b, h => by cases b <;> simp [X.same] at h; rw [h]
  | .v m, b, h => by cases b <;> simp [X.same] at h; rw [h]
  | .add x y, b, h => by
    cases b <;> simp [X.same] at h
    rw [X.same_eq x _ h.1, X.same_eq y _ h.2]
  | .sub x y, b, h => by
    cases b <;> simp [X.same] at h
    rw [X.same_eq x _ h.1, X.same_eq y _ h.2]
  | .mul x y, b, h => by
    cases b <;> simp [X.same] at h
    rw [X.same_eq x _ h.1, X.same_eq y _ h.2]
  | .quo x y, b, h => by
    cases b <;> simp [X.same] at h
    rw [X.same_eq x _ h.1, X.same_eq y _ h.2]
  | .rem x y, b, h => by
    cases b <;> simp [X.same] at h
    rw [X.same_eq x _ h.1, X.same_eq y _ h.2]
  | .mn x y, b, h => by
    cases b <;> simp [X.same] at h
    rw [X.same_eq x _ h.1, X.same_eq y _ h.2]
  | .mx x y, b, h => by
    cases b <;> simp [X.same] at h
    rw [X.same_eq x _ h.1, X.same_eq y _ h.2]
  | .wr k x, b, h => by cases b <;> simp [X.same] at h; rw [h.1, X.same_eq x _ h.2]
  | .nl, b, h => by cases b <;> simp [X.same] at h; rfl
  | .ln x, b, h => by cases b <;> simp [X.same] at h; rw [X.same_eq x _ h]
  | .l2 o x y, b, h => by cases b <;> simp [X.same] at h; rw [h.1, X.same_eq x _ h.2.1, X.same_eq y _ h.2.2]
  | .l3 x y z, b, h => by cases b <;> simp [X.same] at h; rw [X.same_eq x _ h.1, X.same_eq y _ h.2.1, X.same_eq z _ h.2.2]

theorem sameL_eq : ∀ {as bs : List X}, sameL as bs = true → as = bs
  | [], [], _ => rfl
  | [], _ :: _, h => by simp [sameL] at h
  | _ :: _, [], h => by simp [sameL] at h
  | a :: as, b :: bs, h => by
    simp only [sameL, Bool.and_eq_true] at h
    rw [X.same_eq a b h.1, sameL_eq h.2]

theorem XB.same_eq : ∀ a b : XB, a.same b = true → a = b
  | .c m, b, h => by cases b <;> simp [XB.same] at h; rw [h]
  | .lt x y, b, h => by cases b <;> simp [XB.same] at h; rw [X.same_eq x _ h.1, X.same_eq y _ h.2]
  | .le x y, b, h => by cases b <;> simp [XB.same] at h; rw [X.same_eq x _ h.1, X.same_eq y _ h.2]
  | .eq x y, b, h => by cases b <;> simp [XB.same] at h; rw [X.same_eq x _ h.1, X.same_eq y _ h.2]
  | .nz x, b, h => by cases b <;> simp [XB.same] at h; rw [X.same_eq x _ h]
  | .not x, b, h => by cases b <;> simp [XB.same] at h; rw [XB.same_eq x _ h]
  | .and x y, b, h => by cases b <;> simp [XB.same] at h; rw [XB.same_eq x _ h.1, XB.same_eq y _ h.2]
  | .or x y, b, h => by cases b <;> simp [XB.same] at h; rw [XB.same_eq x _ h.1, XB.same_eq y _ h.2]
  | .iff x y, b, h => by cases b <;> simp [XB.same] at h; rw [XB.same_eq x _ h.1, XB.same_eq y _ h.2]
theorem ivsame_eq : ∀ {a b : List (Option Iv)}, ivsame a b = true → a = b
  | [], [], _ => rfl
  | none :: l, none :: l', h => by simp only [ivsame] at h; rw [ivsame_eq h]
  | some ⟨x, y⟩ :: l, some ⟨x', y'⟩ :: l', h => by
    simp only [ivsame, Bool.and_eq_true, beq_iff_eq] at h
    rw [h.1.1, h.1.2, ivsame_eq h.2]
  | [], _ :: _, h => by simp [ivsame] at h
  | _ :: _, [], h => by simp [ivsame] at h
  | none :: _, some _ :: _, h => by simp [ivsame] at h
  | some _ :: _, none :: _, h => by simp [ivsame] at h
theorem TX.same_eq : ∀ a b : TX, a.same b = true → a = b
  | .ret x, b, h => by cases b <;> simp [TX.same] at h; rw [sameL_eq h]
  | .ite x y z, b, h => by cases b <;> simp [TX.same] at h; rw [XB.same_eq x _ h.1, TX.same_eq y _ h.2.1, TX.same_eq z _ h.2.2]
  | .asrt x y, b, h => by cases b <;> simp [TX.same] at h; rw [XB.same_eq x _ h.1, TX.same_eq y _ h.2]
  | .call g x y, b, h => by cases b <;> simp [TX.same] at h; rw [h.1, sameL_eq h.2.1, TX.same_eq y _ h.2.2]
  | .callp g x y, b, h => by cases b <;> simp [TX.same] at h; rw [h.1, sameL_eq h.2.1, TX.same_eq y _ h.2.2]
  | .loop n iv x y, b, h => by cases b <;> simp [TX.same] at h; rw [h.1.1, ivsame_eq h.1.2, sameL_eq h.2.1, TX.same_eq y _ h.2.2]
  | .back d x, b, h => by cases b <;> simp [TX.same] at h; rw [h.1, sameL_eq h.2]
  | .ok, b, h => by cases b <;> simp [TX.same] at h; rfl
  | .fail, b, h => by cases b <;> simp [TX.same] at h; rfl
theorem mkBoth_sat {Γ : List Sum} {R : Fo} {Ψ : List Int → Prop} {bs : List (List Int → Prop)} {r : List Int} {t f : TX} (h : (mkBoth t f).sat Γ R Ψ bs r) : t.sat Γ R Ψ bs r ∧ f.sat Γ R Ψ bs r := by
  unfold mkBoth at h
  split at h
  · rename_i hs
    have := TX.same_eq _ _ hs
    exact ⟨h, this ▸ h⟩
  · exact h.elim

end

theorem notB_prop {R : Fo} {r : List Int} : ∀ b : XB, (notB b).prop R r ↔ ¬ b.prop R r := by
  intro b
  induction b with
  | c b => cases b <;> simp [notB, XB.prop]
  | lt a b => simp [notB, XB.prop]
  | le a b => simp [notB, XB.prop]
  | not a => simp [notB, XB.prop, Classical.not_not]
  | and a b iha ihb => simp only [notB, XB.prop, iha, ihb, Classical.not_and_iff_not_or_not]
  | or a b iha ihb => simp only [notB, XB.prop, iha, ihb, not_or]
  | _ => simp [notB, XB.prop]

theorem mkIte_sat {Γ : List Sum} {R : Fo} {Ψ : List Int → Prop} {bs : List (List Int → Prop)} {r : List Int} {b : XB} {t f : TX} (h : (mkIte b t f).sat Γ R Ψ bs r) : (TX.ite b t f).sat Γ R Ψ bs r := by
  unfold mkIte at h
  split at h
  · exact ⟨fun _ => trivial, fun _ => h⟩
  · exact ⟨fun _ => h, fun _ => trivial⟩
  · split at h
    · rename_i hs
      have := sameL_eq hs
      subst this
      exact ⟨fun _ => h, fun _ => h⟩
    · exact h
  · split at h
    · rename_i hs
      have := sameL_eq hs
      subst this
      obtain ⟨h1, h2⟩ := h
      exact ⟨fun hb => h1 (.inl hb), fun hb => ⟨fun hb2 => h1 (.inr hb2), fun hb2 => h2 (fun h => h.elim hb hb2)⟩⟩
    · exact h
  · split at h
    · rename_i hs
      have := sameL_eq hs
      subst this
      obtain ⟨h1, h2⟩ := h
      exact ⟨fun hb => ⟨fun hb2 => h1 (.inr hb2), fun hb2 => h2 (fun h => h.elim (fun hn => (notB_prop b).1 hn hb) hb2)⟩, fun hb => h1 (.inl ((notB_prop b).2 hb))⟩
    · obtain ⟨h1, h2⟩ := h
      exact ⟨fun hb => h2 (fun hn => (notB_prop b).1 hn hb), fun hb => h1 ((notB_prop b).2 hb)⟩
  · obtain ⟨h1, h2⟩ := h
    exact ⟨fun hb => h2 (fun hn => (notB_prop b).1 hn hb), fun hb => h1 ((notB_prop b).2 hb)⟩
  · exact h

theorem merge_sat {Γ : List Sum} {R : Fo} {Ψ : List Int → Prop} : ∀ (t : TX) (bs : List (List Int → Prop)) (r : List Int), (merge t).sat Γ R Ψ bs r → t.sat Γ R Ψ bs r := by
  intro t
  induction t with
  | ret es => intro bs r h; exact h
  | ite b t f iht ihf =>
    intro bs r h
    obtain ⟨h1, h2⟩ := mkIte_sat h
    exact ⟨fun hb => iht bs r (h1 hb), fun hb => ihf bs r (h2 hb)⟩
  | asrt b t ih => intro bs r h; exact ⟨h.1, ih bs r h.2⟩
  | call g args t ih =>
    intro bs r h
    simp only [merge, TX.sat] at h ⊢
    split at h
    · rename_i s hg
      exact ⟨h.1, ih bs _ h.2⟩
    · exact h
  | callp g args t ih =>
    intro bs r h
    simp only [merge, TX.sat] at h ⊢
    split at h
    · exact ih bs _ h
    · exact h
  | loop n iv ini t ih =>
    intro bs r h
    obtain ⟨I, μ, h1, h2, h3⟩ := h
    exact ⟨I, μ, h1, h2, fun xs hx hI => ih _ _ (h3 xs hx hI)⟩
  | back d es => intro bs r h; exact h
  | ok => intro bs r h; trivial
  | fail => intro bs r h; exact h

def mkS (gl : List (Nat × List Int)) (fn : FuncId) (ps rs : List Sh) (pin : List (Option Iv)) (sem : List Int → List Int) : Sum := ⟨fn, ps, rs, sem, vsOK pin, gl, none⟩
def mkP (gl : List (Nat × List Int)) (fn : FuncId) (ps rs : List Sh) (pre : List Int → Prop) (sem : List Int → List Int) : Sum := ⟨fn, ps, rs, sem, pre, gl, none⟩

def ivK : K → Option Iv
  | .i .i64 => some i64v
  | .i .u8 => some ⟨0, 255⟩
  | .b => some ⟨0, 1⟩
  | _ => none

theorem inK_iv {k : K} {n : Int} (h : inK k n) : ivHas (ivK k) n := by
  cases k with
  | i kk =>
    cases kk <;> try trivial
    · exact wf_i64 h
    · have h' : (Lit.int .u8 n).wf = true := h
      simp only [Lit.wf, Bool.and_eq_true, decide_eq_true_eq] at h'
      have h1 : IntKind.u8.min = 0 := by decide
      have h2 : IntKind.u8.max = 255 := by decide
      rw [h1, h2] at h'
      exact h'
  | b =>
    have h' : n = 0 ∨ n = 1 := h
    simp only [ivK, ivHas, Iv.has]
    omega
  | s ty ks => trivial

theorem range_vs : ∀ {ks : List K} {xs : List Int}, rangeOK ks xs → vsOK (ks.map ivK) xs
  | [], [], _ => ⟨rfl, fun i => by simp [List.getD]; trivial⟩
  | [], _ :: _, h => h.elim
  | _ :: _, [], h => h.elim
  | k :: ks, x :: xs, h => by
    obtain ⟨h1, h2⟩ := range_vs h.2
    refine ⟨by simp [h1], fun i => ?_⟩
    cases i with
    | zero => exact inK_iv h.1
    | succ i => exact h2 i


end Go.Sx
