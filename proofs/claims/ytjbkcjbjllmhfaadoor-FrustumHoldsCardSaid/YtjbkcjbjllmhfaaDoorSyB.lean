/-
  Symbolic execution: trees, summaries of callees, and the executor.
-/
import Derived.Test.YtjbkcjbjllmhfaaDoorSyA
namespace Go.Sx
open Go.RowKit

inductive K where
  | i (k : IntKind)
  | b
structure Sh where
  agg : Bool
  ks : List K

def K.mk (k : K) (n : Int) : Value := match k with
  | .i kk => .int kk n
  | .b => .bool (n != 0)

def mkCells : List K → List Int → List Value
  | k :: ks, x :: xs => k.mk x :: mkCells ks xs
  | _, _ => []

def mkSh (s : Sh) (xs : List Int) : Value :=
  if s.agg then .agg (mkCells s.ks xs).toArray else (mkCells s.ks xs).headD undef

def mkShs : List Sh → List Int → List Value
  | [], _ => []
  | s :: ss, xs => mkSh s (xs.take s.ks.length) :: mkShs ss (xs.drop s.ks.length)

def total : List Sh → Nat
  | [] => 0
  | s :: ss => s.ks.length + total ss

def mkRes (rs : List Sh) (ys : List Int) : Value := match mkShs rs ys with
  | [v] => v
  | vs => .tuple vs.toArray

structure Sum where
  fn : FuncId
  ps : List Sh
  rs : List Sh
  sem : List Int → List Int
  pre : List Int → Prop
  gl : List (Nat × List Int) := []

/-- Package-level variables hold what is known of them. -/
def GlOK (gl : List (Nat × List Int)) (w : World) : Prop := ∀ p ∈ gl, ∀ (j : Nat) (n : Int), p.2[j]? = some n → w.cell? ⟨p.1, j, none⟩ = some (.int .i64 n)

def Sum.ok (P : Program) (s : Sum) : Prop :=
  (∀ sh ∈ s.ps ++ s.rs, sh.agg = true ∨ sh.ks.length = 1) ∧
  ∀ (xs : List Int) (w : World), GlOK s.gl w → xs.length = total s.ps → s.pre xs → (s.sem xs).length = total s.rs ∧
    Calls P s.fn (mkShs s.ps xs).toArray w fun e w' => e = .returned (mkRes s.rs (s.sem xs)) ∧ Below w.heap.size w w'

inductive T where
  | ret (es : List E)
  | ite (b : B) (t f : T)
  | asrt (b : B) (t : T)
  | call (g : Nat) (args : List E) (t : T)
  | loop (n : Nat) (ini : List E) (t : T)
  | back (d : Nat) (es : List E)
  | fail

def T.sat (Γ : List Sum) (R : List Reg) (Ψ : List Int → Prop) : T → List (List Int → Prop) → List Int → Prop
  | .ret es, _, r => Ψ (es.map (E.den R r))
  | .ite b t f, bs, r => (b.den R r = true → t.sat Γ R Ψ bs r) ∧ (b.den R r = false → f.sat Γ R Ψ bs r)
  | .asrt b t, bs, r => b.den R r = true ∧ t.sat Γ R Ψ bs r
  | .call g args t, bs, r => match Γ[g]? with
    | some s => s.pre (args.map (E.den R r)) ∧ t.sat Γ R Ψ bs (r ++ s.sem (args.map (E.den R r)))
    | none => False
  | .loop n ini t, bs, r => ∃ (I : List Int → Prop) (μ : List Int → Nat), I (ini.map (E.den R r)) ∧
      ∀ xs : List Int, xs.length = n → I xs → t.sat Γ R Ψ (bs ++ [fun ys => I ys ∧ μ ys < μ xs]) (r ++ xs)
  | .back d es, bs, r => match bs[d]? with
    | some p => p (es.map (E.den R r))
    | none => False
  | .fail, _, _ => False

inductive Out where
  | norm
  | exit (id : Nat)
  | ret

abbrev Kont := Out → St → T

def slotB (s : St) (t : Tmp) : Option B := match s.fr.getD t undefS with
  | .w (.o (.b x)) => some x
  | _ => none

def forkO (t : Option Tmp) (s : St) (k : St → T) : T := match t with
  | none => k s
  | some t => match slotB s t with
    | some (.c _) => k s
    | some b => .ite b (k (s.put (some t) (one (.b (.c true))))) (k (s.put (some t) (one (.b (.c false)))))
    | none => k s

def guardTmp (ops : Array Oper) (o : Oper) : Option Tmp := match o.guard with
  | some (j, _) => (ops[j]?).bind (·.dst)
  | none => none
def pickTmp (o : Oper) : Option Tmp := match o.op with
  | .pick (.tmp t) _ _ => some t
  | _ => none

def wantedS (ops : Array Oper) (s : St) (o : Oper) : Option Bool := match o.guard with
  | none => some true
  | some (j, want) => match (ops[j]?).bind (·.dst) with
    | some t => if t < s.fr.length then (match s.fr.getD t undefS with
      | .w (.o (.b (.c x))) => some (x == want)
      | .t [] => some false
      | _ => none) else none
    | none => none

def asrts : List B → T → T
  | [], t => t
  | .c true :: l, t => asrts l t
  | b :: l, t => .asrt b (asrts l t)

/-! ### values in and out of summaries -/
def flatC : List K → List SC → Option (List E)
  | [], [] => some []
  | .i k :: ks, .i k' e :: cs => if k = k' then (flatC ks cs).map (e :: ·) else none
  | .b :: ks, .b (.c x) :: cs => (flatC ks cs).map ((.c (if x then 1 else 0)) :: ·)
  | .b :: ks, .b (.nz e) :: cs => (flatC ks cs).map (e :: ·)
  | _, _ => none

def flatSh (s : Sh) (v : SV) : Option (List E) := match v with
  | .w (.a cs) => if s.agg then flatC s.ks cs else none
  | .w (.o c) => if s.agg then none else flatC s.ks [c]
  | _ => none

def flats : List Sh → List SV → Option (List E)
  | [], [] => some []
  | s :: ss, v :: vs => match flatSh s v, flats ss vs with
    | some a, some b => some (a ++ b)
    | _, _ => none
  | _, _ => none

def mkNz (e : E) : B := match e with
  | .c n => .c (n != 0)
  | e => .nz e

def cellsE : List K → List E → List SC
  | .i k :: ks, e :: es => .i k e :: cellsE ks es
  | .b :: ks, e :: es => .b (mkNz e) :: cellsE ks es
  | _, _ => []

def shE (s : Sh) (es : List E) : SW :=
  if s.agg then .a (cellsE s.ks es) else match cellsE s.ks es with
    | c :: _ => .o c
    | [] => .o (.l undef)

def shsE : List Sh → List E → List SW
  | [], _ => []
  | s :: ss, es => shE s (es.take s.ks.length) :: shsE ss (es.drop s.ks.length)

def resE (rs : List Sh) (es : List E) : SV := match shsE rs es with
  | [x] => .w x
  | xs => .t xs

def sameG (p q : Nat × List Int) : Bool := p.1 == q.1 && p.2 == q.2
def glIn (a b : List (Nat × List Int)) : Bool := a.all fun p => b.any (sameG p)

def varsFrom (nv n : Nat) : List E := (List.range n).map fun j => .v (nv + j)

def findSum (fn : FuncId) : List Sum → Nat → Option (Nat × Sum)
  | [], _ => none
  | s :: ss, g => if s.fn = fn then some (g, s) else findSum fn ss (g + 1)

/-! ### results of a function -/
def loadS (P : Program) (s : St) (t : TypeId) (v : SV) : Option SW := match v with
  | .w (.o (.p n off)) => match s.mem[n]? with
    | some b => if b.live then readS P t b.cells off else none
    | none => none
  | _ => none

def resVars (P : Program) (s : St) : List ResultVar → Option (List SW)
  | [] => some []
  | .tmp t :: l => match s.fr.getD t undefS, resVars P s l with
    | .w y, some ys => some (y :: ys)
    | _, _ => none
  | .cell a t :: l => match loadS P s t (s.fr.getD a undefS), resVars P s l with
    | some y, some ys => some (y :: ys)
    | _, _ => none

def resOf (P : Program) (F : Func) (s : St) : Option SV := match resVars P s F.results.toList with
  | some [y] => some (.w y)
  | some ys => some (.t ys)
  | none => none

def popT (s s' : St) (v : SV) : St :=
  if v.scp s.mem.length s.rows.length && (s'.mem.take s.mem.length).all (fun b => b.cells.all (SC.scp s.mem.length s.rows.length)) && (s'.rows.take s.rows.length).all (fun b => b.cells.all (SC.scp s.mem.length s.rows.length))
  then { s' with fr := s.fr, mem := s'.mem.take s.mem.length, rows := s'.rows.take s.rows.length, fl := s.fl, flr := s.flr }
  else { s' with fr := s.fr, fl := s.fl, flr := s.flr }

/-! ### append -/
def elemsOf (s : St) (size : Nat) (v : SV) : Option (Nat × List SC) := match v with
  | .w (.o (.s n off len _)) => match s.mem[n]? with
    | some b => if b.live && decide (off + len * size ≤ b.cells.length) then some (len, (b.cells.drop off).take (len * size)) else none
    | none => none
  | _ => none

def appT (P : Program) (o : Oper) (c : Call) (s : St) (k : St → T) : T :=
  match c.args.toList, c.argTypes.toList with
  | [a, x], [t, t'] => if t ≠ t' then .fail else
    match P.underlying t with
    | some (.slice elem) => match P.info? elem with
      | some inf => match inf.zero with
        | some z => if inf.size = 0 || z.cells.size ≠ inf.size then .fail else
          match elemsOf s inf.size (s.ev x) with
          | some (m, new) => if m = 0 || !(new.all SC.one) || !s.scp then .fail else
            match s.ev a with
            | .w (.o (.l (.slice none 0 0))) =>
              if m * inf.bytes ≤ 140737488355328 && decide (m ≤ 1000000) then
                k (({ s with rows := s.rows ++ [(⟨elem, inf.size, m, new, true⟩ : Row)] } : St).put o.dst (one (.g s.rows.length m)))
              else .fail
            | .w (.o (.g n len)) => match s.rows[n]? with
              | some b => if b.live && decide (s.flr ≤ n) && decide (b.len = len) && decide (b.ty = elem) && decide (b.size = inf.size) && decide ((len + m) * inf.bytes ≤ 140737488355328) && decide (len + m ≤ 1000000) then
                  k (({ s with rows := (s.rows.set n { b with live := false }) ++ [(⟨elem, inf.size, len + m, b.cells ++ new, true⟩ : Row)] } : St).put o.dst (one (.g s.rows.length (len + m))))
                else .fail
              | none => .fail
            | _ => .fail
          | none => .fail
        | none => .fail
      | none => .fail
    | _ => .fail
  | _, _ => .fail

/-! ### operations in sequence -/
section
variable (P : Program) (Γ : List Sum) (ih : Code → St → Kont → T)

def callable (fn : FuncId) : Bool := match P.funcs[fn]? with
  | some F => F.body.isSome && F.name != "runtime.NumGoroutine"
  | none => false

def callT (o : Oper) (c : Call) (s : St) (k : St → T) : T :=
  match c.callee with
  | .value F => match s.ev F with
    | .w (.o (.f fn caps)) =>
      let args := c.args.toList.map s.ev ++ caps.map fun p => one (.p p.1 p.2)
      if !s.sc || !callable P fn then .fail else
      match findSum fn Γ 0 with
      | some (g, sum) => if !glIn sum.gl s.gl then .fail else match flats sum.ps args with
        | some es => .call g es (k ({ s with nv := s.nv + total sum.rs }.put o.dst (resE sum.rs (varsFrom s.nv (total sum.rs)))))
        | none => .fail
      | none => match P.funcs[fn]? with
        | some F => match F.body with
          | some body =>
            ih body { s with fr := args ++ List.replicate (F.ntmps - args.length) undefS } fun out s' => match out with
              | .exit _ => .fail
              | _ => match resOf P F s' with
                | some v => k ((popT s s' v).put o.dst v)
                | none => .fail
          | none => .fail
        | none => .fail
    | _ => .fail
  | .builtin .append => appT P o c s k
  | .builtin _ => match op1 P s o with
    | some (as, v, s') => asrts as (k (s'.put o.dst v))
    | none => .fail
  | .invoke _ _ => .fail

def opT (o : Oper) (s : St) (k : St → T) : T :=
  match o.op with
  | .call c => callT P Γ ih o c s k
  | _ => match op1 P s o with
    | some (as, v, s') => asrts as (k (s'.put o.dst v))
    | none => .fail

def execOps (ops : Array Oper) : List Oper → St → (St → T) → T
  | [], s, k => k s
  | o :: l, s, k => forkO (guardTmp ops o) s fun s1 =>
    match wantedS ops s1 o with
    | some true => forkO (pickTmp o) s1 fun s2 => opT P Γ ih o s2 fun s3 => execOps ops l s3 k
    | some false => execOps ops l (s1.put o.dst undefS) k
    | none => .fail

/-! ### a region of plain operations: guards as conditions -/
def E.same : E → E → Bool
  | .c m, .c n => m == n
  | .v m, .v n => m == n
  | .add k a b, .add k' a' b' => k == k' && (a.same a' && b.same b')
  | .sub k a b, .sub k' a' b' => k == k' && (a.same a' && b.same b')
  | .mul k a b, .mul k' a' b' => k == k' && (a.same a' && b.same b')
  | .quo k a b, .quo k' a' b' => k == k' && (a.same a' && b.same b')
  | .rem a b, .rem a' b' => a.same a' && b.same b'
  | .mn a b, .mn a' b' => a.same a' && b.same b'
  | .mx a b, .mx a' b' => a.same a' && b.same b'
  | .pl a b, .pl a' b' => a.same a' && b.same b'
  | .cv k a, .cv k' a' => k == k' && a.same a'
  | _, _ => false

def B.same : B → B → Bool
  | .c m, .c n => m == n
  | .lt a b, .lt a' b' => a.same a' && b.same b'
  | .le a b, .le a' b' => a.same a' && b.same b'
  | .eq a b, .eq a' b' => a.same a' && b.same b'
  | .nz a, .nz a' => a.same a'
  | .not a, .not a' => a.same a'
  | .and a b, .and a' b' => a.same a' && b.same b'
  | _, _ => false

/-- Does a condition hold wherever W does? -/
def hasLit (g : B) : B → Bool
  | .and a b => B.same (.and a b) g || (hasLit g a || hasLit g b)
  | w => B.same w g
def implB (w : B) : B → Bool
  | .c true => true
  | .and a b => implB w a && implB w b
  | g => hasLit g w

abbrev Pend := List (Nat × B × SW)
def lookP : Pend → Nat → Option (B × SW)
  | [], _ => none
  | (t, g, x) :: l, u => if t = u then some (g, x) else lookP l u

/-- The state as an operation under the condition W sees it. -/
def underW (s : St) (pend : Pend) (w : B) : St := match pend with
  | [] => s
  | pend => { s with fr := pend.foldr (fun p fr => fr.set p.1 (if implB w p.2.1 then .w p.2.2 else undefS)) s.fr }

def litB (c : B) (x : Bool) : B := if x then c else mkNot c

/-- When an operation is done. -/
def condW (ops : Array Oper) (s : St) (pend : Pend) (o : Oper) : Option B := match o.guard with
  | none => some (.c true)
  | some (j, want) => match (ops[j]?).bind (·.dst) with
    | some t => (match lookP pend t with
      | some (g, .o (.b c)) => some (mkAnd g (litB c want))
      | some _ => none
      | none => match s.fr.getD t undefS with
        | .w (.o (.b c)) => some (litB c want)
        | _ => none)
    | none => none

def pickB (c x y : B) : B := match x, y with
  | .c true, y => mkNot (mkAnd (mkNot c) (mkNot y))
  | x, .c false => mkAnd c x
  | x, y => mkNot (mkAnd (mkNot (mkAnd c x)) (mkNot (mkAnd (mkNot c) y)))

def plainOp (o : Oper) : Bool := match o.op with
  | .move _ | .assign _ | .load _ _ | .nilCheck _ | .binOp _ _ _ _ _ | .unOp _ _ _ | .convert _ _ _ | .fieldAddr _ _ _ | .field _ _ _ | .indexAddr _ _ _ | .index _ _ _ | .extract _ _ | .pick _ _ _ => true
  | .call c => (match c.callee with
    | .builtin .len | .builtin .min | .builtin .max => true
    | _ => false)
  | _ => false

def knownW (pend : Pend) (w : B) : Operand → Bool
  | .tmp t => match lookP pend t with
    | some (g, _) => implB w g
    | none => true
  | _ => true

/-- A plain operation's value under W. -/
def valW (P : Program) (s : St) (pend : Pend) (w : B) (o : Oper) : Option (List B × SW) := match o.op with
  | .pick c a b => match (underW s pend w).ev c with
    | .w (.o (.b (.c true))) => (match (underW s pend w).ev a with | .w x => some ([], x) | _ => none)
    | .w (.o (.b (.c false))) => (match (underW s pend w).ev b with | .w x => some ([], x) | _ => none)
    | .w (.o (.b cb)) => (match (underW s pend (mkAnd w cb)).ev a, (underW s pend (mkAnd w (mkNot cb))).ev b with
      | .w (.o (.b x)), .w (.o (.b y)) => some ([], .o (.b (pickB cb x y)))
      | _, _ => none)
    | _ => none
  | _ => if o.op.operands.toList.all (knownW pend w) then (match op1 P (underW s pend w) o with
    | some (as, .w x, _) => some (as, x)
    | _ => none) else none

def underB (w : B) (as : List B) : List B := match w with
  | .c true => as
  | w => as.map fun b => mkNot (mkAnd w (mkNot b))

def specRun (P : Program) (ops : Array Oper) : List Oper → St → Pend → Option (List B × St × Pend)
  | [], s, pend => some ([], s, pend)
  | o :: l, s, pend => match o.dst, condW ops s pend o with
    | some d, some w =>
      if !plainOp o || (lookP pend d).isSome || decide (s.fr.length ≤ d) then none else
      match w with
      | .c false => specRun P ops l (s.put (some d) undefS) pend
      | w => match valW P s pend w o with
        | some (as, x) => match (match w with
            | .c true => specRun P ops l (s.put (some d) (.w x)) pend
            | w => specRun P ops l s ((d, w, x) :: pend)) with
          | some (bs, s', pend') => some (underB w as ++ bs, s', pend')
          | none => none
        | none => none
    | _, _ => none

/-- Slots of which one does not know whether they were written. -/
def finishP : Pend → St → St
  | [], s => s
  | p :: l, s => finishP l { s with fr := s.fr.set p.1 (.un s.nx), nx := s.nx + 1 }

def unOK (n : Nat) : SV → Bool
  | .un i => decide (i < n)
  | _ => true

def specT (P : Program) (ops : Array Oper) (s : St) (k : St → T) (alt : T) : T :=
  if ops.any (fun o => o.guard.isSome) && ops.all plainOp then match specRun P ops ops.toList s [] with
    | some (as, s', pend) => if s'.fr.all (unOK s'.nx) then asrts as (k (finishP pend s')) else alt
    | none => alt
  else alt

/-! ### a region that draws its order -/
def bindsOn (o : Oper) : List Nat := (o.after.toList.filter (Region.binds .any)).map (·.on)

/-- What each operation comes behind, as a mask: by its edges, and by those of what it comes behind. -/
def maskOf (ms : List Nat) (o : Oper) : Nat := (bindsOn o).foldl (fun m j => (m ||| ms.getD j 0) ||| (1 <<< j)) 0

def masksAux : List Oper → List Nat → List Nat
  | [], ms => ms
  | o :: l, ms => masksAux l (ms ++ [maskOf ms o])

def masks (ops : Array Oper) : List Nat := masksAux ops.toList []

def behind (ms : List Nat) (k i : Nat) : Bool := (ms.getD k 0).testBit i

def forced (ms : List Nat) (i : Nat) : Bool := (List.range i).all fun j => behind ms i j

/-- How many operations at the end are forced behind all before them. -/
def tailLen (ms : List Nat) : Nat → List Oper → Nat
  | _, [] => 0
  | i, _ :: l => let r := tailLen ms (i + 1) l; if r = l.length && forced ms i then r + 1 else r

def drawOK (ops : Array Oper) (ms : List Nat) (N : Nat) : Bool :=
  Region.noSelect ops &&
  (List.range ops.size).all fun j => match ops[j]? with
    | none => false
    | some oj => (bindsOn oj).all (fun i => decide (i < j)) &&
      (if j < N then (List.range j).all (fun i => match ops[i]? with
        | none => false
        | some oi => (oi.dst.isNone || oi.dst != oj.dst) && (behind ms j i || oi.apart ops oj))
      else forced ms j)

def isStore (o : Oper) : Bool := match o.op with
  | .store _ _ _ => true
  | _ => false

/-- Where the stores that may come early begin, ahead of the tail. -/
def earlyLen : List Oper → Nat
  | [] => 0
  | o :: l => if isStore o then 0 else earlyLen l + 1

def writer (ops : Array Oper) (n t : Nat) : Option Nat := (List.range n).find? fun i => decide ((ops[i]?).bind (·.dst) = some t)

/-- The block of before that an address comes from. -/
def baseOf (ops : Array Oper) (s : St) (N1 : Nat) : Nat → Nat → Option Nat
  | 0, _ => none
  | f + 1, t => match writer ops N1 t with
    | none => (match s.fr.getD t undefS with
      | .w (.o (.p n _)) => some n
      | _ => none)
    | some i => (match ops[i]? with
      | some o => (match o.op with
        | .fieldAddr _ (.tmp u) _ => baseOf ops s N1 f u
        | .indexAddr _ (.tmp u) _ => baseOf ops s N1 f u
        | .nilCheck (.tmp u) => baseOf ops s N1 f u
        | .move (.tmp u) => baseOf ops s N1 f u
        | _ => none)
      | none => none)

/-- The blocks of before that stores between N1 and N write. -/
def lateOld (ops : Array Oper) (s : St) (N1 : Nat) : List Oper → List Nat
  | [] => []
  | o :: l => match o.op with
    | .store _ (.tmp ta) _ => (match baseOf ops s N1 8 ta with
      | some n => n :: lateOld ops s N1 l
      | none => lateOld ops s N1 l)
    | _ => lateOld ops s N1 l

/-- Do all stores between N1 and N come behind i? -/
def strictAt (ms : List Nat) (N1 N i : Nat) : Bool := (List.range N).all fun k => decide (k < N1) || behind ms k i

def swapM (to frm s : St) : St := { s with mem := to.mem ++ s.mem.drop frm.mem.length }

def killB (D : List Nat) : Nat → List Blk → List Blk
  | _, [] => []
  | n, b :: l => (if D.contains n then { b with live := false } else b) :: killB D (n + 1) l

/-- A store that may come early. -/
def lateS1 (P : Program) (X : List Nat) (m0 g0 : Nat) (o : Oper) (s : St) : Option St := match o.op with
  | .store t (.tmp ta) x => match s.fr.getD ta undefS, s.ev x with
    | .w (.o (.p n off)), .w y => match s.mem[n]? with
      | some b =>
        if o.guard.isNone && o.dst.isNone && (decide (m0 ≤ n) || X.contains n) && b.live && (P.info? t).isSome && decide (s.fl ≤ n) && decide (y.cells.length = P.cellsOf t) &&
            decide (off + y.cells.length ≤ b.cells.length) && y.cells.all SC.one && y.scp m0 g0 then
          some { s with mem := s.mem.set n { b with cells := setAt b.cells off y.cells } }
        else none
      | none => none
    | _, _ => none
  | _ => none

def lateS (P : Program) (X : List Nat) (m0 g0 : Nat) : List Oper → St → Option St
  | [], s => some s
  | o :: l, s => match lateS1 P X m0 g0 o s with
    | some s' => lateS P X m0 g0 l s'
    | none => none

def liveAt (s : St) (n : Nat) : Bool := match s.mem[n]? with
  | some b => b.live
  | none => false

def kOf (P : Program) (t : TypeId) : Option K := match P.underlying t with
  | some (.int k) => some (.i k)
  | some .bool => some .b
  | _ => none

def bindT : T → (List E → T) → T
  | .ret es, k => k es
  | .ite b t f, k => .ite b (bindT t k) (bindT f k)
  | .asrt b t, k => .asrt b (bindT t k)
  | _, _ => .fail

/-- The result's cells as expressions (a bool that is open parts the tree), and their shape. -/
def retC : List SC → (List E → T) → T
  | [], k => k []
  | .i _ e :: cs, k => retC cs fun es => k (e :: es)
  | .b (.c x) :: cs, k => retC cs fun es => k (.c (if x then 1 else 0) :: es)
  | .b x :: cs, k => .ite x (retC cs fun es => k (.c 1 :: es)) (retC cs fun es => k (.c 0 :: es))
  | _, _ => .fail

def fitsC : List K → List SC → Bool
  | [], [] => true
  | .i k :: ks, .i k' _ :: cs => k == k' && fitsC ks cs
  | .b :: ks, .b _ :: cs => fitsC ks cs
  | _, _ => false

def fitsW (s : Sh) : SW → Bool
  | .o c => !s.agg && fitsC s.ks [c]
  | .a cs => s.agg && fitsC s.ks cs

def fitsWs : List Sh → List SW → Bool
  | [], [] => true
  | s :: ss, w :: ws => fitsW s w && fitsWs ss ws
  | _, _ => false

def cellsW : List SW → List SC
  | [] => []
  | .o c :: l => c :: cellsW l
  | .a cs :: l => cs ++ cellsW l

def retW (rs : List Sh) (v : SV) : T := match v with
  | .w x => if fitsWs rs [x] then retC (cellsW [x]) .ret else .fail
  | .t xs => if fitsWs rs xs && xs.length != 1 then retC (cellsW xs) .ret else .fail
  | .un _ => .fail

def doneK (P : Program) (F : Func) (rs : List Sh) : Kont := fun out s' => match out with
  | .exit _ => .fail
  | _ => match resOf P F s' with
    | some v => retW rs v
    | none => .fail

/-- The shapes of a function's results, by its types. -/
def shTy (P : Program) : Nat → TypeId → Option (List K)
  | 0, _ => none
  | d + 1, t => match P.underlying t with
    | some (.int k) => some [.i k]
    | some .bool => some [.b]
    | some (.struct fs) => fs.toList.foldr (fun f acc => match shTy P d f.type, acc with
      | some a, some b => some (a ++ b)
      | _, _ => none) (some [])
    | some (.array n e) => match shTy P d e with
      | some a => some ((List.replicate n a).flatten)
      | none => none
    | _ => none

def shOf (P : Program) (t : TypeId) : Option Sh := (shTy P 8 t).map fun ks => ⟨tyAgg P t, ks⟩

def shsOf (P : Program) : List TypeId → Option (List Sh)
  | [] => some []
  | t :: l => match shOf P t, shsOf P l with
    | some a, some b => some (a :: b)
    | _, _ => none

def maskFr (nb ng : Nat) (l : List SV) : List SV := l.map fun v => if v.scp nb ng then v else undefS

/-- One operation ahead of the forced tail: it may only read what was there when the region began ('s0': the state then), call what only reads, or make a new block. -/
def preT (s0 : St) (o : Oper) (s : St) (k : St → T) : T :=
  let sr : St := { s with fr := maskFr s0.mem.length s0.rows.length s.fr, mem := s0.mem, rows := s0.rows, fl := s0.mem.length, flr := s0.rows.length }
  if !(o.op.operands.toList.all fun x => (s.ev x).scp s0.mem.length s0.rows.length) then .fail else
  match o.op with
  | .call c => match c.callee with
    | .value F => match s.ev F with
      | .w (.o (.f fn caps)) =>
        let args := c.args.toList.map s.ev ++ caps.map fun p => one (.p p.1 p.2)
        if !(args.all (SV.sc s.nv s0.mem.length s0.rows.length s.nx)) || !callable P fn then .fail else
        match findSum fn Γ 0 with
        | some (g, sum) => if !s.sc || !glIn sum.gl s.gl then .fail else match flats sum.ps args with
          | some es => .call g es (k ({ s with nv := s.nv + total sum.rs }.put o.dst (resE sum.rs (varsFrom s.nv (total sum.rs)))))
          | none => .fail
        | none => match P.funcs[fn]? with
          | some F => match F.body, shsOf P F.resultTypes.toList with
            | some body, some rs =>
              bindT (ih body { sr with fr := args ++ List.replicate (F.ntmps - args.length) undefS } (doneK P F rs)) fun es =>
                if es.all (E.sc s.nv) then k (s.put o.dst (resE rs es)) else .fail
            | _, _ => .fail
          | none => .fail
      | _ => .fail
    | .builtin .append => .fail
    | .builtin _ => match op1 P sr o with
      | some (as, v, _) => if v.scp s0.mem.length s0.rows.length then asrts as (k (s.put o.dst v)) else .fail
      | none => .fail
    | .invoke _ _ => .fail
  | .store _ _ _ => .fail
  | _ => match op1 P sr o with
    | some (as, v, s') => asrts as (match s'.mem.drop s0.mem.length with
      | [] => if v.scp s0.mem.length s0.rows.length then k (s.put o.dst v) else .fail
      | [b] => if b.live && b.cells.all (SC.scp s0.mem.length s0.rows.length) then (match v with
        | .w (.o (.p n 0)) => if n = s0.mem.length then k ({ s with mem := s.mem ++ [b] }.put o.dst (one (.p s.mem.length 0))) else .fail
        | .w (.o (.s n 0 len cap)) => if n = s0.mem.length then k ({ s with mem := s.mem ++ [b] }.put o.dst (one (.s s.mem.length 0 len cap))) else .fail
        | _ => .fail) else .fail
      | _ => .fail)
    | none => .fail

def execPre (ops : Array Oper) (sf s0 : St) (sg : Nat → Bool) : Nat → List Oper → St → (St → T) → T
  | _, [], s, k => k s
  | i, o :: l, s, k => forkO (guardTmp ops o) s fun s1 =>
    match wantedS ops s1 o with
    | some true => forkO (pickTmp o) s1 fun s2 =>
      if sg i then preT P Γ ih sf o (swapM sf s0 s2) fun s3 => execPre ops sf s0 sg (i + 1) l (swapM s0 sf s3) k
      else preT P Γ ih s0 o s2 fun s3 => execPre ops sf s0 sg (i + 1) l s3 k
    | some false => execPre ops sf s0 sg (i + 1) l (s1.put o.dst undefS) k
    | none => .fail

def execDraw (ops : Array Oper) (s : St) (k : St → T) : T :=
  let ms := masks ops
  let N := ops.size - tailLen ms 0 ops.toList
  let N1 := earlyLen (ops.toList.take N)
  if drawOK ops ms N && s.sc && (ops.all fun o => match o.dst with | some d => decide (d < s.fr.length) | none => true) then
    let X := lateOld ops s N1 ((ops.toList.take N).drop N1)
    let s0 : St := { s with mem := killB X 0 s.mem }
    if X.all (fun n => decide (s.fl ≤ n) && liveAt s n) && (List.range N).all (fun i => decide (i ≤ N1) || (List.range i).all fun j => decide (j < N1) || behind ms i j) then
      execPre P Γ ih ops s s0 (strictAt ms N1 N) 0 (ops.toList.take N1) s0 fun s' =>
        match lateS P X s.mem.length s.rows.length ((ops.toList.take N).drop N1) { s' with mem := s.mem ++ s'.mem.drop s.mem.length } with
        | some s3 => execOps P Γ ih ops (ops.toList.drop N) s3 k
        | none => .fail
    else .fail
  else .fail
end

/-! ### code -/
def loopN (ih : Code → St → Kont → T) (body : Code) : Nat → St → Kont → T
  | 0, _, _ => .fail
  | n + 1, s, k => ih body s fun o s' => match o with
    | .norm => loopN ih body n s' k
    | o => k o s'

def exec (P : Program) (Γ : List Sum) : Nat → Code → St → Kont → T
  | 0, _, _, _ => .fail
  | f + 1, c, s, k => match c with
    | .skip => k .norm s
    | .label _ => k .norm s
    | .region _ ops draw => if draw then execDraw P Γ (exec P Γ f) ops s (k .norm) else specT P ops s (k .norm) (execOps P Γ (exec P Γ f) ops ops.toList s (k .norm))
    | .seq a b => exec P Γ f a s fun o s' => match o with
      | .norm => exec P Γ f b s' k
      | o => k o s'
    | .cond c x y => match c with
      | .tmp t => forkO (some t) s fun s' => match slotB s' t with
        | some (.c true) => exec P Γ f x s' k
        | some (.c false) => exec P Γ f y s' k
        | _ => .fail
      | .const (.bool true) => exec P Γ f x s k
      | .const (.bool false) => exec P Γ f y s k
      | _ => .fail
    | .block id body => exec P Γ f body s fun o s' => match o with
      | .exit id' => if id' = id then k .norm s' else k (.exit id') s'
      | o => k o s'
    | .loop body => loopN (exec P Γ f) body f s k
    | .exit id => k (.exit id) s
    | .ret => k .ret s
    | _ => .fail

def frameOf (ps : List Sh) (n : Nat) : List SV :=
  let as := (shsE ps (varsFrom 0 (total ps))).map SV.w
  as ++ List.replicate (n - as.length) undefS

/-- A function, run on open numbers. -/
def symFnG (P : Program) (gl : List (Nat × List Int)) (Γ : List Sum) (fuel : Nat) (fn : FuncId) (ps rs : List Sh) : T := match P.funcs[fn]? with
  | some F => match F.body with
    | some body => exec P Γ fuel body ⟨frameOf ps F.ntmps, [], [], total ps, 0, 0, 0, gl⟩ (doneK P F rs)
    | none => .fail
  | none => .fail

def symFn (P : Program) (Γ : List Sum) (fuel : Nat) (fn : FuncId) (ps rs : List Sh) : T := symFnG P [] Γ fuel fn ps rs

end Go.Sx
