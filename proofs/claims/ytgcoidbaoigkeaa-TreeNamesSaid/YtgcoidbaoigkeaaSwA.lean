/-
  Symbolic execution of a loaded function's code: the definitions. Nothing here is trusted: the soundness theorem stands in the texts behind this one.
-/
import Derived.WalkKit
import Derived.Still
namespace Go.Sx

/-! ### lists as numbers -/
def zig (n : Int) : Nat := match n with
  | .ofNat m => 2 * m
  | .negSucc m => 2 * m + 1
def pr (a b : Nat) : Nat := 2 ^ a * (2 * b + 1)
def codN : List Int → Nat
  | [] => 0
  | x :: l => pr (zig x) (codN l)
def cod (l : List Int) : Int := codN l
noncomputable def dec (n : Int) : List Int := @dite _ (∃ l, cod l = n) (Classical.propDecidable _) (fun h => Classical.choose h) (fun _ => [])

inductive L2 where
  | cons | snoc | app | take | drop | at | rep
deriving DecidableEq
noncomputable def L2.den : L2 → Int → Int → Int
  | .cons, x, l => cod (x :: dec l)
  | .snoc, l, x => cod (dec l ++ [x])
  | .app, a, b => cod (dec a ++ dec b)
  | .take, l, n => cod ((dec l).take n.toNat)
  | .drop, l, n => cod ((dec l).drop n.toNat)
  | .at, l, i => (dec l).getD i.toNat 0
  | .rep, n, x => cod (List.replicate n.toNat x)

inductive E where
  | c (n : Int)
  | v (i : Nat)
  | add (k : IntKind) (a b : E)
  | sub (k : IntKind) (a b : E)
  | mul (k : IntKind) (a b : E)
  | quo (k : IntKind) (a b : E)
  | rem (a b : E)
  | mn (a b : E)
  | mx (a b : E)
  | cv (k : IntKind) (a : E)
  | nl
  | ln (a : E)
  | l2 (o : L2) (a b : E)
  | l3 (a b c : E)

inductive B where
  | c (b : Bool)
  | lt (a b : E)
  | le (a b : E)
  | eq (a b : E)
  | nz (a : E)
  | not (a : B)
  | and (a b : B)
  | beq (a b : B)

abbrev Fo := List Value

structure Env where
  r : List Int
  β : List Nat
  σ : List Value
  ω : List Value
  R : Fo

noncomputable def E.den (R : Fo) (r : List Int) : E → Int
  | .c n => n
  | .v i => r.getD i 0
  | .add k a b => k.wrap (a.den R r + b.den R r)
  | .sub k a b => k.wrap (a.den R r - b.den R r)
  | .mul k a b => k.wrap (a.den R r * b.den R r)
  | .quo k a b => k.wrap ((a.den R r).tdiv (b.den R r))
  | .rem a b => (a.den R r).tmod (b.den R r)
  | .mn a b => if b.den R r < a.den R r then b.den R r else a.den R r
  | .mx a b => if b.den R r > a.den R r then b.den R r else a.den R r
  | .cv k a => k.wrap (a.den R r)
  | .nl => cod []
  | .ln a => ((dec (a.den R r)).length : Int)
  | .l2 o a b => o.den (a.den R r) (b.den R r)
  | .l3 a b x => cod ((dec (a.den R r)).set (b.den R r).toNat (x.den R r))

noncomputable def B.den (R : Fo) (r : List Int) : B → Bool
  | .c b => b
  | .lt a b => decide (a.den R r < b.den R r)
  | .le a b => decide (a.den R r ≤ b.den R r)
  | .eq a b => a.den R r == b.den R r
  | .nz a => a.den R r != 0
  | .not a => !(a.den R r)
  | .and a b => a.den R r && b.den R r
  | .beq a b => a.den R r == b.den R r

def E.sc (n : Nat) : E → Bool
  | .c _ => true
  | .v i => decide (i < n)
  | .add _ a b => a.sc n && b.sc n
  | .sub _ a b => a.sc n && b.sc n
  | .mul _ a b => a.sc n && b.sc n
  | .quo _ a b => a.sc n && b.sc n
  | .rem a b => a.sc n && b.sc n
  | .mn a b => a.sc n && b.sc n
  | .mx a b => a.sc n && b.sc n
  | .cv _ a => a.sc n
  | .nl => true
  | .ln a => a.sc n
  | .l2 _ a b => a.sc n && b.sc n
  | .l3 a b x => a.sc n && (b.sc n && x.sc n)

def B.sc (n : Nat) : B → Bool
  | .c _ => true
  | .lt a b => a.sc n && b.sc n
  | .le a b => a.sc n && b.sc n
  | .eq a b => a.sc n && b.sc n
  | .nz a => a.sc n
  | .not a => a.sc n
  | .and a b => a.sc n && b.sc n
  | .beq a b => a.sc n && b.sc n

inductive K where
  | i (k : IntKind)
  | b
  | s (ty : TypeId) (ks : List K)

def K.same : K → K → Bool
  | .i x, .i y => x == y
  | .b, .b => true
  | _, _ => false
def ksame : List K → List K → Bool
  | [], [] => true
  | x :: xs, y :: ys => x.same y && ksame xs ys
  | _, _ => false

def E.same : E → E → Bool
  | .c m, .c n => m == n
  | .v m, .v n => m == n
  | .add k a b, .add k' a' b' => k == k' && (a.same a' && b.same b')
  | .sub k a b, .sub k' a' b' => k == k' && (a.same a' && b.same b')
  | .mul k a b, .mul k' a' b' => k == k' && (a.same a' && b.same b')
  | .quo k a b, .quo k' a' b' => k == k' && (a.same a' && b.same b')
  | .rem a b, .rem a' b' => a.same a' && b.same b'
  | .mn a b, .mn a' b' => a.same a' && b.same b'
  | .mx a b, .mx a' b' => a.same a' && b.same b'
  | .cv k a, .cv k' a' => k == k' && a.same a'
  | .nl, .nl => true
  | .ln a, .ln a' => a.same a'
  | .l2 o a b, .l2 o' a' b' => o == o' && (a.same a' && b.same b')
  | .l3 a b x, .l3 a' b' x' => a.same a' && (b.same b' && x.same x')
  | _, _ => false

def kdeep : List K → List K → Bool
  | [], [] => true
  | .i x :: xs, .i y :: ys => x == y && kdeep xs ys
  | .b :: xs, .b :: ys => kdeep xs ys
  | .s t a :: xs, .s u b :: ys => (t == u && ksame a b) && kdeep xs ys
  | _, _ => false

noncomputable def hdV (n : Int) : Value := match dec n with
  | [b, off, len, cap, _] => if 0 ≤ b then .slice (some ⟨b.toNat, off.toNat, none⟩) len.toNat cap.toNat else .slice none 0 0
  | _ => .slice none 0 0
noncomputable def ctN (n : Int) : Int := (dec n).getD 4 0

inductive G where
  | a (i : Nat)
  | o (n : Nat)
  | e (g : G) (ix : E) (j : Nat) (x : E)
def G.same : G → G → Bool
  | .a i, .a i' => i == i'
  | .o n, .o n' => n == n'
  | .e g ix j x, .e g' ix' j' x' => (g.same g' && ix.same ix') && (j == j' && x.same x')
  | _, _ => false
def G.own : G → Bool
  | .o _ => true
  | _ => false

inductive SC where
  | i (k : IntKind) (e : E)
  | b (x : B)
  | p (n off : Nat)
  | s (n off len cap : Nat)
  | go (g : G)
  | gv (g : G) (size : Nat) (lo hi : E)
  | gp (g : G) (size : Nat) (ix : E) (j : Nat)
  | gz (g : G)
  | f (fn : FuncId) (caps : List (Nat × Nat))
  | l (v : Value)

def ownAddr (e : Env) (n off : Nat) : Value := .pointer (some ⟨e.β.getD n 0, off, none⟩)

def slV (v : Value) : Value := match v with
  | .slice a l c => .slice a l c
  | _ => .slice none 0 0
def subV (size : Nat) (v : Value) (lo hi : Nat) : Value := match v with
  | .slice a _ cap => .slice (if cap = lo then a else a.map (·.add (lo * size))) (hi - lo) (cap - lo)
  | _ => .slice none 0 0
def atV (size : Nat) (v : Value) (ix j : Nat) : Option Addr := match v with
  | .slice (some a) _ _ => some (a.add (ix * size + j))
  | _ => none
def zeroV (v : Value) : Value := match v with
  | .slice a _ _ => .slice a 0 0
  | _ => .slice none 0 0

noncomputable def G.val (e : Env) : G → Value
  | .a i => slV (e.R.getD i undef)
  | .o n => slV (e.σ.getD n undef)
  | .e _ _ _ x => hdV (x.den e.R e.r)

noncomputable def SC.den (e : Env) : SC → Value
  | .i k x => .int k (x.den e.R e.r)
  | .b x => .bool (x.den e.R e.r)
  | .p n off => ownAddr e n off
  | .s n off len cap => .slice (some ⟨e.β.getD n 0, off, none⟩) len cap
  | .go g => g.val e
  | .gv g size lo hi => subV size (g.val e) (lo.den e.R e.r).toNat (hi.den e.R e.r).toNat
  | .gp g size ix j => .pointer (atV size (g.val e) (ix.den e.R e.r).toNat j)
  | .gz g => zeroV (g.val e)
  | .f fn caps => .func (.func fn) #[] (caps.map fun c => ownAddr e c.1 c.2).toArray
  | .l v => v

inductive SW where
  | o (c : SC)
  | a (cs : List SC)

def SW.cells : SW → List SC
  | .o c => [c]
  | .a cs => cs

noncomputable def SW.den (e : Env) : SW → Value
  | .o c => c.den e
  | .a cs => .agg (cs.map (SC.den e)).toArray

inductive SV where
  | w (x : SW)
  | t (xs : List SW)
  | un (i : Nat)

noncomputable def SV.den (e : Env) : SV → Value
  | .w x => x.den e
  | .t xs => .tuple (xs.map (SW.den e)).toArray
  | .un i => e.ω.getD i undef

def G.sc (nv ng : Nat) : G → Bool
  | .a _ => true
  | .o n => decide (n < ng)
  | .e _ _ _ x => x.sc nv
def G.scp (ng : Nat) : G → Bool
  | .o n => decide (n < ng)
  | _ => true

def SC.sc (nv nb ng : Nat) : SC → Bool
  | .i _ x => x.sc nv
  | .b x => x.sc nv
  | .p n _ => decide (n < nb)
  | .s n _ _ _ => decide (n < nb)
  | .go g => g.sc nv ng
  | .gv g _ lo hi => g.sc nv ng && (lo.sc nv && hi.sc nv)
  | .gp g _ ix _ => g.sc nv ng && ix.sc nv
  | .gz g => g.sc nv ng
  | .f _ caps => caps.all fun c => decide (c.1 < nb)
  | .l _ => true

def SW.sc (nv nb ng : Nat) : SW → Bool
  | .o c => c.sc nv nb ng
  | .a cs => cs.all (SC.sc nv nb ng)

def SV.sc (nv nb ng nx : Nat) : SV → Bool
  | .w x => x.sc nv nb ng
  | .t xs => xs.all (SW.sc nv nb ng)
  | .un i => decide (i < nx)

def SC.scp (nb ng : Nat) : SC → Bool
  | .p n _ => decide (n < nb)
  | .s n _ _ _ => decide (n < nb)
  | .go g => g.scp ng
  | .gv g _ _ _ => g.scp ng
  | .gp g _ _ _ => g.scp ng
  | .gz g => g.scp ng
  | .f _ caps => caps.all fun c => decide (c.1 < nb)
  | _ => true

def SW.scp (nb ng : Nat) : SW → Bool
  | .o c => c.scp nb ng
  | .a cs => cs.all (SC.scp nb ng)

def SV.scp (nb ng : Nat) : SV → Bool
  | .w x => x.scp nb ng
  | .t xs => xs.all (SW.scp nb ng)
  | .un _ => true

structure Blk where
  ty : TypeId
  cells : List SC
  live : Bool

structure Row where
  ty : TypeId
  ks : List K
  c : E
  live : Bool

structure St where
  fr : List SV
  mem : List Blk
  rows : List Row
  nv : Nat
  nx : Nat
  fl : Nat
  flr : Nat
  gl : List (Nat × List Int) := []
  hs : List (List K × E) := []
  dp : Nat := 0

def undefS : SV := .t []

def St.scp (s : St) : Bool :=
  s.fr.all (SV.scp s.mem.length s.rows.length) && s.mem.all (fun b => b.cells.all (SC.scp s.mem.length s.rows.length))

def St.sc (s : St) : Bool :=
  (s.fr.all (SV.sc s.nv s.mem.length s.rows.length s.nx) && s.mem.all (fun b => b.cells.all (SC.sc s.nv s.mem.length s.rows.length))) && (s.rows.all (fun b => b.c.sc s.nv) && s.hs.all (fun h => h.2.sc s.nv))

def SC.ofV : Value → SC
  | .bool bb => .b (.c bb)
  | .int k n => .i k (.c n)
  | v => .l v

def SW.ofV : Value → SW
  | .agg cs => .a (cs.toList.map SC.ofV)
  | v => .o (SC.ofV v)

def SC.one : SC → Bool
  | .l v => v.oneCell'
  | _ => true

def St.ev (s : St) : Operand → SV
  | .tmp t => s.fr.getD t undefS
  | .const v => .w (SW.ofV v)
  | .global g => .w (.o (.l (.pointer (some ⟨g, 0, none⟩))))
  | .func f => .w (.o (.f f []))

def St.put (s : St) (dst : Option Tmp) (v : SV) : St :=
  match dst with
  | some d => { s with fr := s.fr.set d v }
  | none => s

/-! ### folding -/
def small (n : Int) : Bool := decide (-4611686018427387904 ≤ n) && decide (n ≤ 4611686018427387904)

def fold (k : IntKind) (n : Int) (e : E) : E := if k == .i64 && small n then .c n else e

def mkAdd (k : IntKind) (a b : E) : E := match a, b with
  | .c m, .c n => fold k (m + n) (.add k a b)
  | _, _ => .add k a b
def mkSub (k : IntKind) (a b : E) : E := match a, b with
  | .c m, .c n => fold k (m - n) (.sub k a b)
  | _, _ => .sub k a b
def mkMul (k : IntKind) (a b : E) : E := match a, b with
  | .c m, .c n => fold k (m * n) (.mul k a b)
  | _, _ => .mul k a b
def mkQuo (k : IntKind) (a b : E) : E := match a, b with
  | .c m, .c n => fold k (m.tdiv n) (.quo k a b)
  | _, _ => .quo k a b
def mkRem (a b : E) : E := match a, b with
  | .c m, .c n => .c (m.tmod n)
  | _, _ => .rem a b
def mkMn (a b : E) : E := match a, b with
  | .c m, .c n => .c (if n < m then n else m)
  | _, _ => .mn a b
def mkMx (a b : E) : E := match a, b with
  | .c m, .c n => .c (if n > m then n else m)
  | _, _ => .mx a b
def mkCv (k : IntKind) (a : E) : E := match a with
  | .c m => fold k m (.cv k a)
  | _ => .cv k a
def elemsE : E → Option (List E)
  | .nl => some []
  | .l2 .cons x l => (elemsE l).map (x :: ·)
  | .l2 .snoc l x => (elemsE l).map (· ++ [x])
  | _ => none
def mkLn (a : E) : E := match elemsE a with
  | some l => .c (l.length : Int)
  | none => .ln a
def mkAt (a i : E) : E := match elemsE a, i with
  | some l, .c n => if 0 ≤ n then l.getD n.toNat (.l2 .at a i) else .l2 .at a i
  | _, i => .l2 .at a i
def listE : List E → E
  | [] => .nl
  | x :: l => .l2 .cons x (listE l)
def mkSet (a i x : E) : E := match elemsE a, i with
  | some l, .c n => if 0 ≤ n then listE (l.set n.toNat x) else .l3 a i x
  | _, i => .l3 a i x
def mkTake (a n : E) : E := match elemsE a, n with
  | some l, .c n => listE (l.take n.toNat)
  | _, n => .l2 .take a n
def mkDrop (a n : E) : E := match elemsE a, n with
  | some l, .c n => listE (l.drop n.toNat)
  | _, .c 0 => a
  | _, n => .l2 .drop a n
def mkApp (a b : E) : E := match elemsE b with
  | some l => l.foldl (fun a x => .l2 .snoc a x) a
  | none => (match a with
    | .nl => b
    | a => .l2 .app a b)
def mkRep (n x : E) : E := match n with
  | .c m => if m ≤ 64 then listE (List.replicate m.toNat x) else .l2 .rep n x
  | n => .l2 .rep n x
def comp (size : Nat) (e : E) (j : Nat) : E := if size = 1 then e else mkAt e (.c (j : Int))
def elemE (es : List E) : E := match es with
  | [x] => x
  | es => listE es
def mkNz (e : E) : B := match e with
  | .c n => .c (n != 0)
  | e => .nz e
def cellsE (mk : Nat → SC) : Nat → List K → List E → List SC
  | i, .i k :: ks, e :: es => .i k e :: cellsE mk i ks es
  | i, .b :: ks, e :: es => .b (mkNz e) :: cellsE mk i ks es
  | i, .s _ _ :: ks, _ :: es => mk i :: cellsE mk (i + 1) ks es
  | _, _, _ => []
def cellsG (g : G) (ix : E) : Nat → List K → List E → List SC
  | i, .i k :: ks, e :: es => .i k e :: cellsG g ix (i + 1) ks es
  | i, .b :: ks, e :: es => .b (mkNz e) :: cellsG g ix (i + 1) ks es
  | i, .s _ _ :: ks, e :: es => .go (.e g ix i e) :: cellsG g ix (i + 1) ks es
  | _, _, _ => []
def elemC (g : G) (ks : List K) (c ix : E) : List SC := cellsG g ix 0 ks ((List.range ks.length).map fun j => comp ks.length (mkAt c ix) j)
def flatC : List K → List SC → Option (List E)
  | [], [] => some []
  | .i k :: ks, .i k' e :: cs => if k = k' then (flatC ks cs).map (e :: ·) else none
  | .b :: ks, .b (.c x) :: cs => (flatC ks cs).map ((.c (if x then 1 else 0)) :: ·)
  | .b :: ks, .b (.nz e) :: cs => (flatC ks cs).map (e :: ·)
  | _, _ => none

def plusE (a b : E) : E := match a, b with
  | .c 0, b => b
  | a, .c 0 => a
  | a, b => mkAdd .i64 a b
def minusE (a b : E) : E := match b with
  | .c 0 => a
  | b => mkSub .i64 a b

def gcode (s : St) : G → Option (List K × E)
  | .a i => s.hs[i]?
  | .o n => match s.rows[n]? with
    | some b => if b.live then some (b.ks, b.c) else none
    | none => none
  | .e g ix j x => if g.own then none else match gcode s g with
    | some (ks, c) => if x.same (comp ks.length (mkAt c ix) j) then (match ks[j]? with
      | some (.s _ kr) => some (kr, mkAt x (.c 4))
      | _ => none) else none
    | none => none

def mkLt (a b : E) : B := match a, b with
  | .c m, .c n => .c (decide (m < n))
  | _, _ => .lt a b
def mkLe (a b : E) : B := match a, b with
  | .c m, .c n => .c (decide (m ≤ n))
  | _, _ => .le a b
def mkEq (a b : E) : B := match a, b with
  | .c m, .c n => .c (m == n)
  | _, _ => .eq a b
def mkNot (a : B) : B := match a with
  | .c b => .c (!b)
  | .not a => a
  | _ => .not a
def mkAnd (a b : B) : B := match a, b with
  | .c true, y => y
  | .c false, _ => .c false
  | x, .c true => x
  | x, y => .and x y
def mkBeq (a b : B) : B := match a, b with
  | .c true, y => y
  | .c false, y => mkNot y
  | x, .c true => x
  | x, .c false => mkNot x
  | x, y => .beq x y

/-! ### types -/
def tyAgg (P : Program) (t : TypeId) : Bool := match P.underlying t with
  | some (.struct _) | some (.array _ _) => true
  | _ => false
def zeroOf (P : Program) (t : TypeId) : Option (List SC) :=
  ((P.info? t).bind (·.zero)).map fun v => v.cells.toList.map SC.ofV

/-! ### single operations -/
def partS (P : Program) (t : TypeId) (cs : List SC) (off : Nat) : Option SW :=
  if (P.underlying t).isNone then none else
  if tyAgg P t then some (.a ((cs.drop off).take (P.cellsOf t)))
  else (cs[off]?).map .o

def readS (P : Program) (t : TypeId) (cs : List SC) (off : Nat) : Option SW :=
  if (P.underlying t).isNone then none else
  if tyAgg P t then (if off + P.cellsOf t ≤ cs.length then some (.a ((cs.drop off).take (P.cellsOf t))) else none)
  else (cs[off]?).map .o

def eqB (P : Program) : Nat → TypeId → List SC → List SC → Option B
  | 0, _, _, _ => none
  | d + 1, t, xs, ys =>
    match P.underlying t with
    | some .bool => match xs, ys with
      | [.b a], [.b b] => some (mkBeq a b)
      | _, _ => none
    | some (.int _) => match xs, ys with
      | [.i k a], [.i k' b] => if k = k' then some (mkEq a b) else none
      | _, _ => none
    | some (.struct fields) =>
      if P.stoodInHeld t then none else
      fields.toList.foldr (fun f acc => match acc with
        | none => none
        | some y => if f.name = "_" then some y else
          match partS P f.type xs f.offset, partS P f.type ys f.offset with
          | some u, some v => match eqB P d f.type u.cells v.cells with
            | some b => some (mkAnd b y)
            | none => none
          | _, _ => none) (some (.c true))
    | some (.array len elem) =>
      if (P.info? elem).isNone then none else
      (List.range len).foldr (fun i acc => match acc with
        | none => none
        | some y =>
          match partS P elem xs (i * P.cellsOf elem), partS P elem ys (i * P.cellsOf elem) with
          | some u, some v => match eqB P d elem u.cells v.cells with
            | some b => some (mkAnd b y)
            | none => none
          | _, _ => none) (some (.c true))
    | _ => none

def setAt (cs : List SC) (off : Nat) (new : List SC) : List SC := cs.take off ++ new ++ cs.drop (off + new.length)

def fillS (place : Nat → Option (Nat × Nat)) (cells : List SC) : List (Nat × SW) → Option (List SC)
  | [] => some cells
  | (i, v) :: rest =>
    match place i with
    | none => none
    | some (off, size) =>
      if v.cells.length ≠ size || off + v.cells.length > cells.length || !(v.cells.all SC.one) then none
      else fillS place (setAt cells off v.cells) rest

def partsS (s : St) : List (Nat × Operand) → Option (List (Nat × SW))
  | [] => some []
  | (i, x) :: rest => match s.ev x, partsS s rest with
    | .w y, some l => some ((i, y) :: l)
    | _, _ => none

def buildS (P : Program) (t : TypeId) (parts : List (Nat × SW)) : Option (List SC) :=
  match zeroOf P t with
  | none => none
  | some zero => match P.underlying t with
    | some (.struct fields) => if !(fields.toList.all fun f => (P.info? f.type).isSome) then none else fillS (fun i => (fields[i]?).map fun f => (f.offset, P.cellsOf f.type)) zero parts
    | some (.array _ elem) => if (P.info? elem).isNone then none else fillS (fun i => some (i * P.cellsOf elem, P.cellsOf elem)) zero parts
    | _ => none

def repl (zero : List SC) : Nat → List SC
  | 0 => []
  | n + 1 => zero ++ repl zero n

def St.new (s : St) (t : TypeId) (cells : List SC) : Option St :=
  if s.scp && cells.all (SC.scp s.mem.length s.rows.length) then some { s with mem := s.mem ++ [⟨t, cells, true⟩] } else none

def one (c : SC) : SV := .w (.o c)

def nzAsrt (b : E) : List B := match b with
  | .c n => if n = 0 then [.c false] else []
  | _ => [.not (.eq b (.c 0))]

def arithS (op : BinOp) (k : IntKind) (a b : E) : Option (List B × SC) :=
  match op with
  | .add => some ([], .i k (mkAdd k a b))
  | .sub => some ([], .i k (mkSub k a b))
  | .mul => some ([], .i k (mkMul k a b))
  | .quo => some (nzAsrt b, .i k (mkQuo k a b))
  | .rem => some (nzAsrt b, .i k (mkRem a b))
  | .eql => some ([], .b (mkEq a b))
  | .neq => some ([], .b (mkNot (mkEq a b)))
  | .lss => some ([], .b (mkLt a b))
  | .leq => some ([], .b (mkLe a b))
  | .gtr => some ([], .b (mkLt b a))
  | .geq => some ([], .b (mkLe b a))
  | _ => none

def binS (P : Program) (op : BinOp) (t : TypeId) (x y : SV) : Option (List B × SC) :=
  match x, y with
  | .w (.o (.i k a)), .w (.o (.i k' b)) => if k = k' then arithS op k a b else none
  | .w (.o (.b a)), .w (.o (.b b)) => match P.underlying t, op with
    | some .bool, .eql => some ([], .b (mkBeq a b))
    | some .bool, .neq => some ([], .b (mkNot (mkBeq a b)))
    | _, _ => none
  | .w (.a xs), .w (.a ys) =>
    if P.eqGuardType P.depth t || !tyAgg P t then none else
    match op with
    | .eql => (eqB P 12 t xs ys).map fun b => ([], .b b)
    | .neq => (eqB P 12 t xs ys).map fun b => ([], .b (mkNot b))
    | _ => none
  | _, _ => none

def constOf : SV → Option Nat
  | .w (.o (.i _ (.c n))) => if 0 ≤ n then some n.toNat else none
  | _ => none

def boundS (s : St) (x : Option Operand) (dflt : Nat) : Option Nat :=
  match x with
  | none => some dflt
  | some o => constOf (s.ev o)

def capsS (s : St) : List Operand → Option (List (Nat × Nat))
  | [] => some []
  | x :: rest => match s.ev x, capsS s rest with
    | .w (.o (.p n off)), some l => some ((n, off) :: l)
    | _, _ => none

def inB (c ix : E) : List B := [mkLe (.c 0) ix, mkLt ix (mkLn c)]
def vB (c lo hi : E) : List B := [mkLe (.c 0) lo, mkLe lo hi, mkLe hi (mkLn c)]

def intE : SV → Option E
  | .w (.o (.i _ e)) => some e
  | _ => none

def bndE (s : St) (x : Option Operand) (dflt : E) : Option E :=
  match x with
  | none => some dflt
  | some o => intE (s.ev o)

def globS (gl : List (Nat × List Int)) (g : Nat) : Option (List SC) := (gl.find? (fun p => p.1 == g)).map fun p => p.2.map fun n => .i .i64 (.c n)

def isBig (s : St) (t : TypeId) : G → Bool
  | .o n => (match s.rows[n]? with
    | some b => b.ty == t
    | none => false)
  | _ => false

def op1 (P : Program) (s : St) (o : Oper) : Option (List B × SV × St) :=
  match o.op with
  | .move x | .assign x => some ([], s.ev x, s)
  | .pick c a b => match s.ev c with
    | .w (.o (.b (.c true))) => some ([], s.ev a, s)
    | .w (.o (.b (.c false))) => some ([], s.ev b, s)
    | _ => none
  | .alloc t => match zeroOf P t with
    | some z => (s.new t z).map fun s' => ([], one (.p s.mem.length 0), s')
    | none => none
  | .box t x => match s.ev x with
    | .w y => if (y.cells).all SC.one then (s.new t y.cells).map fun s' => ([], one (.p s.mem.length 0), s') else none
    | _ => none
  | .build t parts => match partsS s parts.toList with
    | some l => if l.all (fun p => p.2.scp s.mem.length s.rows.length) then (buildS P t l).map fun cs => ([], .w (.a cs), s) else none
    | none => none
  | .buildSlice t len parts => match P.underlying t, partsS s parts.toList with
    | some (.slice elem), some l => match zeroOf P elem with
      | some z =>
        if z.length = P.cellsOf elem && z.length ≠ 0 && len * z.length ≤ 16777216 && l.all (fun p => p.2.scp s.mem.length s.rows.length) then
          match fillS (fun i => some (i * z.length, z.length)) (repl z len) l with
          | some cs => (s.new elem cs).map fun s' => ([], one (.s s.mem.length 0 len len), s')
          | none => none
        else none
      | none => none
    | _, _ => none
  | .makeSlice t l c => match P.underlying t, constOf (s.ev l), constOf (s.ev c) with
    | some (.slice elem), some m, some m' => match P.info? elem, zeroOf P elem with
      | some inf, some z => if decide (m = m') && decide (m ≤ 64) && decide (inf.bytes ≤ 100000000) && decide (z.length = inf.size) then
          (s.new elem (repl z m)).map fun s' => ([], one (.s s.mem.length 0 m m), s') else none
      | _, _ => none
    | _, _, _ => none
  | .load t a => match s.ev a with
    | .w (.o (.p n off)) => match s.mem[n]? with
      | some b => if b.live then (readS P t b.cells off).map fun y => ([], .w y, s) else none
      | none => none
    | .w (.o (.gp g size ix j)) => match gcode s g with
      | some (ks, c) => if size = ks.length then (readS P t (elemC g ks c ix) j).map fun y => (inB c ix, .w y, s) else none
      | none => none
    | .w (.o (.l (.pointer (some ⟨g, off, none⟩)))) => match globS s.gl g with
      | some cs => (readS P t cs off).map fun y => ([], .w y, s)
      | none => none
    | _ => none
  | .store t a x => match s.ev a, s.ev x with
    | .w (.o (.p n off)), .w y => match s.mem[n]? with
      | some b =>
        let vc := y.cells
        if b.live && (P.info? t).isSome && decide (s.fl ≤ n) && decide (vc.length = P.cellsOf t) && decide (off + vc.length ≤ b.cells.length) && vc.all SC.one && y.scp s.mem.length s.rows.length then
          some ([], undefS, { s with mem := s.mem.set n { b with cells := setAt b.cells off vc } })
        else none
      | none => none
    | .w (.o (.gp (.o n) size ix j)), .w y => match s.rows[n]? with
      | some b =>
        let vc := y.cells
        if b.live && (P.info? t).isSome && decide (s.flr ≤ n) && decide (size = b.ks.length) && decide (vc.length = P.cellsOf t) && decide (j + vc.length ≤ b.ks.length) then
          (match flatC b.ks (setAt (elemC (.o n) b.ks b.c ix) j vc) with
          | some es => some (inB b.c ix, undefS, { s with rows := s.rows.set n { b with c := mkSet b.c ix (elemE es) } })
          | none => none)
        else none
      | none => none
    | _, _ => none
  | .nilCheck x => match s.ev x with
    | .w (.o (.p n off)) => some ([], one (.p n off), s)
    | .w (.o (.gp g size ix j)) => match gcode s g with
      | some (_, c) => some (inB c ix, one (.gp g size ix j), s)
      | none => none
    | .w (.o (.f n off)) => some ([], one (.f n off), s)
    | _ => none
  | .binOp op t x y _ => (binS P op t (s.ev x) (s.ev y)).map fun r => (r.1, one r.2, s)
  | .unOp op _ x => match op, s.ev x with
    | .neg, .w (.o (.i k a)) => some ([], one (.i k (mkSub k (.c 0) a)), s)
    | .not, .w (.o (.b a)) => some ([], one (.b (mkNot a)), s)
    | _, _ => none
  | .convert src dst x => match P.underlying src, P.underlying dst, s.ev x with
    | some _, some (.int k), .w (.o (.i _ a)) => some ([], one (.i k (mkCv k a)), s)
    | _, _, _ => none
  | .fieldAddr t x f => match P.underlying t with
    | some (.struct fields) => match fields[f]? with
      | some fd => if P.cellsOf fd.type = 0 || (P.info? fd.type).isNone then none else
        match s.ev x with
        | .w (.o (.p n off)) => some ([], one (.p n (off + fd.offset)), s)
        | .w (.o (.gp g size ix j)) => match gcode s g with
          | some (_, c) => some (inB c ix, one (.gp g size ix (j + fd.offset)), s)
          | none => none
        | _ => none
      | none => none
    | _ => none
  | .field t x f => match P.underlying t, s.ev x with
    | some (.struct fields), .w (.a cs) => match fields[f]? with
      | some fd => (partS P fd.type cs fd.offset).map fun y => ([], .w y, s)
      | none => none
    | _, _ => none
  | .indexAddr t x ix => match P.underlying t, s.ev x with
    | some (.array len elem), .w (.o (.p n off)) => match constOf (s.ev ix) with
      | some i => if i < len && (P.info? elem).isSome then some ([], one (.p n (off + i * P.cellsOf elem)), s) else none
      | none => none
    | some (.array len elem), .w (.o (.gp g size gx j)) => if isBig s t g && (decide (size = P.cellsOf elem) && (decide (64 < len) && (decide (j = 0) && gx.same (.c 0)))) then (match intE (s.ev ix), gcode s g with
      | some e, some (_, c) => if (P.info? elem).isSome then some (inB c e ++ [mkLt e (.c len)], one (.gp g size e 0), s) else none
      | _, _ => none) else match constOf (s.ev ix), gcode s g with
      | some i, some (_, c) => if i < len && (P.info? elem).isSome then some (inB c gx, one (.gp g size gx (j + i * P.cellsOf elem)), s) else none
      | _, _ => none
    | some (.slice elem), .w (.o (.s n off len _)) => match constOf (s.ev ix) with
      | some i => if i < len && (P.info? elem).isSome then some ([], one (.p n (off + i * P.cellsOf elem)), s) else none
      | none => none
    | some (.slice elem), .w (.o (.go g)) => match intE (s.ev ix), gcode s g with
      | some e, some (_, c) => if (P.info? elem).isSome then some (inB c e, one (.gp g (P.cellsOf elem) e 0), s) else none
      | _, _ => none
    | some (.slice elem), .w (.o (.gv g size lo hi)) => match intE (s.ev ix), gcode s g with
      | some e, some (_, c) => if (P.info? elem).isSome && decide (size = P.cellsOf elem) then
          some (vB c lo hi ++ [mkLe (.c 0) e, mkLt e (minusE hi lo)], one (.gp g size (plusE lo e) 0), s) else none
      | _, _ => none
    | _, _ => none
  | .index t x ix => match P.underlying t, s.ev x, constOf (s.ev ix) with
    | some (.array len elem), .w (.a cs), some i => if i < len && (P.info? elem).isSome then (partS P elem cs (i * P.cellsOf elem)).map fun y => ([], .w y, s) else none
    | _, _, _ => none
  | .slice t x lo hi mx => if mx.isSome then (match P.underlying t, s.ev x, boundS s lo 0, boundS s hi 1, boundS s mx 1 with
      | some (.slice elem), .w (.o (.go g)), some 0, some 0, some 0 => if (gcode s g).isSome && (P.info? elem).isSome then some ([], one (.gz g), s) else none
      | _, _, _, _, _ => none) else
    match P.underlying t, s.ev x with
    | some (.slice elem), .w (.o (.go g)) => (match gcode s g with
      | some (_, c) => (match bndE s lo (.c 0), bndE s hi (mkLn c) with
        | some l, some h => if (P.info? elem).isSome then some (vB c l h, one (.gv g (P.cellsOf elem) l h), s) else none
        | _, _ => none)
      | none => none)
    | some (.slice elem), .w (.o (.gv g size lo0 hi0)) => (match gcode s g with
      | some (_, c) => (match bndE s lo (.c 0), bndE s hi (minusE hi0 lo0) with
        | some (.c 0), some h => if (P.info? elem).isSome && decide (size = P.cellsOf elem) then
            some (vB c lo0 hi0 ++ [mkLe (.c 0) h, mkLe h (minusE hi0 lo0)], one (.gv g size lo0 (plusE lo0 h)), s) else none
        | some l, some h => if (P.info? elem).isSome && decide (size = P.cellsOf elem) then
            some (vB c lo0 hi0 ++ [mkLe (.c 0) l, mkLe l h, mkLe h (minusE hi0 lo0), mkLt l (minusE hi0 lo0)], one (.gv g size (plusE lo0 l) (plusE lo0 h)), s) else none
        | _, _ => none)
      | none => none)
    | some (.array len elem), .w (.o (.p n off)) => match boundS s hi len with
      | some h => match boundS s lo 0 with
        | some l => if l ≤ h && h ≤ len && (P.info? elem).isSome then
            some ([], one (.s n (if len = l then off else off + l * P.cellsOf elem) (h - l) (len - l)), s) else none
        | none => none
      | none => none
    | some (.slice elem), .w (.o (.s n off len cap)) => match boundS s hi len with
      | some h => match boundS s lo 0 with
        | some l => if l ≤ h && h ≤ cap && (P.info? elem).isSome then
            some ([], one (.s n (if cap = l then off else off + l * P.cellsOf elem) (h - l) (cap - l)), s) else none
        | none => none
      | none => none
    | _, _ => none
  | .extract x ix => match s.ev x with
    | .t xs => (xs[ix]?).map fun y => ([], .w y, s)
    | _ => none
  | .makeFunc fn first caps => match fn, first.toList with
    | .func f, [] => (capsS s caps.toList).map fun l => ([], one (.f f l), s)
    | _, _ => none
  | .call c => match c.callee, c.args.toList with
    | .builtin .len, [x] => match c.argTypes[0]? with
      | some t => match P.underlying t, s.ev x with
        | some (.array n _), _ => some ([], one (.i .i64 (.c n)), s)
        | some (.slice _), .w (.o (.s _ _ len _)) => some ([], one (.i .i64 (.c len)), s)
        | some (.slice _), .w (.o (.go g)) => match gcode s g with
          | some (_, c) => some ([], one (.i .i64 (mkLn c)), s)
          | none => none
        | some (.slice _), .w (.o (.gv g _ lo hi)) => match gcode s g with
          | some (_, c) => some (vB c lo hi, one (.i .i64 (minusE hi lo)), s)
          | none => none
        | some (.slice _), .w (.o (.l (.slice Option.none 0 0))) => some ([], one (.i .i64 (.c 0)), s)
        | _, _ => none
      | none => none
    | .builtin .min, x :: rest => rest.foldl (fun acc y => match acc, s.ev y with
        | some (as, .w (.o (.i k a)), s'), .w (.o (.i _ b)) => some (as, one (.i k (mkMn a b)), s')
        | _, _ => none) (match s.ev x with | .w (.o (.i k a)) => some ([], one (.i k a), s) | _ => none)
    | .builtin .max, x :: rest => rest.foldl (fun acc y => match acc, s.ev y with
        | some (as, .w (.o (.i k a)), s'), .w (.o (.i _ b)) => some (as, one (.i k (mkMx a b)), s')
        | _, _ => none) (match s.ev x with | .w (.o (.i k a)) => some ([], one (.i k a), s) | _ => none)
    | _, _ => none
  | _ => none

end Go.Sx
