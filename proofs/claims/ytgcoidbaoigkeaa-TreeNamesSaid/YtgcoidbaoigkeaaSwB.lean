/-
  Symbolic execution: trees, summaries of callees, and the executor.
-/
import Derived.Test.YtgcoidbaoigkeaaSwA
import Derived.Test.YtgcoidbaoigkeaaSw0
namespace Go.Sx
open Go.RowKit

structure Sh where
  agg : Bool
  ks : List K

noncomputable def K.mk (k : K) (n : Int) : Value := match k with
  | .i kk => .int kk n
  | .b => .bool (n != 0)
  | .s _ _ => hdV n

noncomputable def mkCells : List K → List Int → List Value
  | k :: ks, x :: xs => k.mk x :: mkCells ks xs
  | _, _ => []

noncomputable def mkSh (s : Sh) (xs : List Int) : Value :=
  if s.agg then .agg (mkCells s.ks xs).toArray else (mkCells s.ks xs).headD undef

noncomputable def mkShs : List Sh → List Int → List Value
  | [], _ => []
  | s :: ss, xs => mkSh s (xs.take s.ks.length) :: mkShs ss (xs.drop s.ks.length)

def total : List Sh → Nat
  | [] => 0
  | s :: ss => s.ks.length + total ss

noncomputable def mkRes (rs : List Sh) (ys : List Int) : Value := match mkShs rs ys with
  | [v] => v
  | vs => .tuple vs.toArray

structure Sum where
  fn : FuncId
  ps : List Sh
  rs : List Sh
  sem : List Int → List Int
  pre : List Int → Prop
  gl : List (Nat × List Int) := []
  m : Option (St → List SV → Option (List B × List E × (Nat → St × SV))) := none

def GlOK (gl : List (Nat × List Int)) (w : World) : Prop := ∀ p ∈ gl, ∀ (j : Nat) (n : Int), p.2[j]? = some n → w.cell? ⟨p.1, j, none⟩ = some (.int .i64 n)

noncomputable def elt (ks : List K) (x : Int) : List Int := if ks.length = 1 then [x] else dec x
noncomputable def cellsL (ks : List K) (l : List Int) : List Value := l.flatMap fun x => mkCells ks (elt ks x)

def SlOK (w : World) (ks : List K) (v : Value) (c : Int) : Prop :=
  (v = .slice none 0 0 ∧ dec c = []) ∨
  ∃ b off cap, v = .slice (some ⟨b, off, none⟩) (dec c).length cap ∧ (dec c).length ≤ cap ∧ cap ≤ maxLen ∧ (∀ x ∈ dec c, (elt ks x).length = ks.length) ∧
    ∀ j u, (cellsL ks (dec c))[j]? = some u → w.cell? ⟨b, off + j, none⟩ = some u

def slBlk (v : Value) : Option Nat := match v with
  | .slice (some a) _ _ => some a.block
  | _ => none
mutual
def SlXK (w : World) (X : Nat → Prop) : K → Value → Int → Prop
  | .s _ ks, v, c => (SlOK w ks v c ∧ (cellsL ks (dec c) ≠ [] → ∀ k, slBlk v = some k → ¬ X k)) ∧ ∀ x ∈ dec c, SlXL w X ks (elt ks x)
  | _, _, _ => True
def SlXL (w : World) (X : Nat → Prop) : List K → List Int → Prop
  | k :: ks, n :: ns => SlXK w X k (hdV n) (ctN n) ∧ SlXL w X ks ns
  | _, _ => True
end
def SlN (w : World) (ks : List K) (v : Value) (c : Int) : Prop := SlXK w (fun _ => False) (.s 0 ks) v c

def RowOK (w : World) (ty : TypeId) (ks : List K) (v : Value) (c : Int) : Prop :=
  (dec c = [] ∧ (v = .slice none 0 0 ∨ ∃ b off, v = .slice (some ⟨b, off, none⟩) 0 0)) ∨
  (ks.length ≠ 0 ∧ (∀ x ∈ dec c, (elt ks x).length = ks.length) ∧ w.ownsRow 0 ty ks.length v (dec c).length (cellsL ks (dec c)))

def rowBlk (v : Value) : Option Nat := match v with
  | .slice (some a) _ cap => if cap = 0 then none else some a.block
  | _ => none

def CellR (S : TypeId → List K → Value → Int → Prop) : K → Value → Int → Prop
  | .i k, v, n => v = .int k n
  | .b, v, n => v = .bool (n != 0)
  | .s ty ks, v, n => S ty ks v n
def CellsR (S : TypeId → List K → Value → Int → Prop) : List K → List Value → List Int → Prop
  | [], [], [] => True
  | k :: ks, v :: vs, x :: xs => CellR S k v x ∧ CellsR S ks vs xs
  | _, _, _ => False
def ShR (S : TypeId → List K → Value → Int → Prop) (s : Sh) (v : Value) (xs : List Int) : Prop :=
  if s.agg then ∃ cs : List Value, v = .agg cs.toArray ∧ CellsR S s.ks cs xs else CellsR S s.ks [v] xs
def ShsR (S : TypeId → List K → Value → Int → Prop) : List Sh → List Value → List Int → Prop
  | [], vs, xs => vs = [] ∧ xs = []
  | s :: ss, vs, xs => ∃ v vr ys yr, vs = v :: vr ∧ xs = ys ++ yr ∧ ShR S s v ys ∧ ShsR S ss vr yr

def slsC : List K → List Value → List Value
  | .s _ _ :: ks, v :: vs => v :: slsC ks vs
  | _ :: ks, _ :: vs => slsC ks vs
  | _, _ => []
def slsSh (s : Sh) (v : Value) : List Value := if s.agg then (match v with | .agg cs => slsC s.ks cs.toList | _ => []) else slsC s.ks [v]
def slsShs : List Sh → List Value → List Value
  | s :: ss, v :: vs => slsSh s v ++ slsShs ss vs
  | _, _ => []

def apartV (l : List Value) : Prop := l.Pairwise fun u v => ∀ k, rowBlk u = some k → rowBlk v ≠ some k

def resV (vs : List Value) : Value := match vs with
  | [v] => v
  | vs => .tuple vs.toArray

def ResOK (B : Nat → Prop) (w : World) (rs : List Sh) (v : Value) (ys : List Int) : Prop :=
  ∃ vs : List Value, v = resV vs ∧ ShsR (fun ty ks u n => RowOK w ty ks u n ∧ ∀ k, rowBlk u = some k → B k) rs vs ys ∧ apartV (slsShs rs vs)

def Sum.ok (P : Program) (s : Sum) : Prop :=
  (∀ sh ∈ s.ps ++ s.rs, sh.agg = true ∨ sh.ks.length = 1) ∧
  ∀ (xs : List Int) (vs : List Value) (w : World), GlOK s.gl w → ShsR (fun _ ks u n => SlN w ks u n) s.ps vs xs → s.pre xs → (s.sem xs).length = total s.rs ∧
    Calls P s.fn vs.toArray w fun e w' => ∃ v, e = .returned v ∧ ResOK (fun k => w.heap.size ≤ k) w' s.rs v (s.sem xs) ∧ Below w.heap.size w w'

inductive T where
  | ret (es : List E)
  | ite (b : B) (t f : T)
  | asrt (b : B) (t : T)
  | call (g : Nat) (args : List E) (t : T)
  | loop (n : Nat) (ini : List E) (t : T)
  | back (d : Nat) (es : List E)
  | both (t f : T)
  | fail

def T.sat (Γ : List Sum) (R : Fo) (Ψ : List Int → Prop) : T → List (List Int → Prop) → List Int → Prop
  | .ret es, _, r => Ψ (es.map (E.den R r))
  | .ite b t f, bs, r => (b.den R r = true → t.sat Γ R Ψ bs r) ∧ (b.den R r = false → f.sat Γ R Ψ bs r)
  | .asrt b t, bs, r => b.den R r = true ∧ t.sat Γ R Ψ bs r
  | .call g args t, bs, r => match Γ[g]? with
    | some s => s.pre (args.map (E.den R r)) ∧ t.sat Γ R Ψ bs (r ++ s.sem (args.map (E.den R r)))
    | none => False
  | .loop n ini t, bs, r => ∃ (I : List Int → Prop) (μ : List Int → Nat), I (ini.map (E.den R r)) ∧
      ∀ xs : List Int, xs.length = n → I xs → t.sat Γ R Ψ (bs ++ [fun ys => I ys ∧ μ ys < μ xs]) (r ++ xs)
  | .back d es, bs, r => match bs[d]? with
    | some p => p (es.map (E.den R r))
    | none => False
  | .both t f, bs, r => t.sat Γ R Ψ bs r ∧ f.sat Γ R Ψ bs r
  | .fail, _, _ => False

inductive Out where
  | norm
  | exit (id : Nat)
  | ret

abbrev Kont := Out → St → T

def slotB (s : St) (t : Tmp) : Option B := match s.fr.getD t undefS with
  | .w (.o (.b x)) => some x
  | _ => none

def forkO (t : Option Tmp) (s : St) (k : St → T) : T := match t with
  | none => k s
  | some t => match slotB s t with
    | some (.c _) => k s
    | some b => .ite b (k (s.put (some t) (one (.b (.c true))))) (k (s.put (some t) (one (.b (.c false)))))
    | none => k s

def guardTmp (ops : Array Oper) (o : Oper) : Option Tmp := match o.guard with
  | some (j, _) => (ops[j]?).bind (·.dst)
  | none => none
def pickTmp (o : Oper) : Option Tmp := match o.op with
  | .pick (.tmp t) _ _ => some t
  | _ => none

def wantedS (ops : Array Oper) (s : St) (o : Oper) : Option Bool := match o.guard with
  | none => some true
  | some (j, want) => match (ops[j]?).bind (·.dst) with
    | some t => if t < s.fr.length then (match s.fr.getD t undefS with
      | .w (.o (.b (.c x))) => some (x == want)
      | .t [] => some false
      | _ => none) else none
    | none => none

def asrts : List B → T → T
  | [], t => t
  | .c true :: l, t => asrts l t
  | b :: l, t => .asrt b (asrts l t)

/-! ### values in and out of summaries -/
def chunks (ks : List K) : Nat → List SC → Option (List E)
  | 0, _ => some []
  | n + 1, cs => match flatC ks (cs.take ks.length), chunks ks n (cs.drop ks.length) with
    | some es, some l => some (elemE es :: l)
    | _, _ => none

def sliceE (s : St) (ks : List K) (c : SC) : Option (List B × E) := match c with
  | .go g => match gcode s g with
    | some (ks', c) => if ksame ks' ks || (!g.own && kdeep ks' ks) then some ([], c) else none
    | none => none
  | .gv g size lo hi => match gcode s g with
    | some (ks', c) => if ksame ks' ks && decide (size = ks.length) then some (vB c lo hi, mkDrop (mkTake c hi) lo) else none
    | none => none
  | .gz g => if (gcode s g).isSome then some ([], .nl) else none
  | .s n off len cap => match s.mem[n]? with
    | some b => if b.live && decide (off + len * ks.length ≤ b.cells.length) && decide (len ≤ cap) && decide (cap ≤ 1000000) then
        (chunks ks len (b.cells.drop off)).map fun l => ([], listE l) else none
    | none => none
  | .l (.slice none 0 0) => some ([], .nl)
  | _ => none

def flatA (s : St) : List K → List SC → Option (List B × List E)
  | [], [] => some ([], [])
  | .s _ ks :: kr, c :: cs => match sliceE s ks c, flatA s kr cs with
    | some (as, e), some (bs, es) => some (as ++ bs, e :: es)
    | _, _ => none
  | k :: kr, c :: cs => match flatC [k] [c], flatA s kr cs with
    | some [e], some (bs, es) => some (bs, e :: es)
    | _, _ => none
  | _, _ => none

def flatSh (st : St) (s : Sh) (v : SV) : Option (List B × List E) := match v with
  | .w (.a cs) => if s.agg then flatA st s.ks cs else none
  | .w (.o c) => if s.agg then none else flatA st s.ks [c]
  | _ => none

def flats (st : St) : List Sh → List SV → Option (List B × List E)
  | [], [] => some ([], [])
  | s :: ss, v :: vs => match flatSh st s v, flats st ss vs with
    | some (as, a), some (bs, b) => some (as ++ bs, a ++ b)
    | _, _ => none
  | _, _ => none

def nS : List K → Nat
  | [] => 0
  | .s _ _ :: ks => nS ks + 1
  | _ :: ks => nS ks
def allK : List Sh → List K
  | [] => []
  | s :: ss => s.ks ++ allK ss
def rowsE : List K → List E → List Row
  | .s ty ks :: kr, e :: es => ⟨ty, ks, e, true⟩ :: rowsE kr es
  | _ :: kr, _ :: es => rowsE kr es
  | _, _ => []
def hsE : List K → List E → List (List K × E)
  | .s _ ks :: kr, e :: es => (ks, e) :: hsE kr es
  | _ :: kr, _ :: es => hsE kr es
  | _, _ => []

def shE (mk : Nat → SC) (i : Nat) (s : Sh) (es : List E) : SW :=
  if s.agg then .a (cellsE mk i s.ks es) else match cellsE mk i s.ks es with
    | c :: _ => .o c
    | [] => .o (.l undef)

def shsE (mk : Nat → SC) : Nat → List Sh → List E → List SW
  | _, [], _ => []
  | i, s :: ss, es => shE mk i s (es.take s.ks.length) :: shsE mk (i + nS s.ks) ss (es.drop s.ks.length)

def resE (mk : Nat → SC) (i : Nat) (rs : List Sh) (es : List E) : SV := match shsE mk i rs es with
  | [x] => .w x
  | xs => .t xs

def ownG (n : Nat) : SC := .go (.o n)
def argG (n : Nat) : SC := .go (.a n)

def sameG (p q : Nat × List Int) : Bool := p.1 == q.1 && p.2 == q.2
def glIn (a b : List (Nat × List Int)) : Bool := a.all fun p => b.any (sameG p)

def varsFrom (nv n : Nat) : List E := (List.range n).map fun j => .v (nv + j)

def findSum (fn : FuncId) : List Sum → Nat → Option (Nat × Sum)
  | [], _ => none
  | s :: ss, g => if s.fn = fn then some (g, s) else findSum fn ss (g + 1)

/-! ### results of a function -/
def loadS (P : Program) (s : St) (t : TypeId) (v : SV) : Option SW := match v with
  | .w (.o (.p n off)) => match s.mem[n]? with
    | some b => if b.live then readS P t b.cells off else none
    | none => none
  | _ => none

def resVars (P : Program) (s : St) : List ResultVar → Option (List SW)
  | [] => some []
  | .tmp t :: l => match s.fr.getD t undefS, resVars P s l with
    | .w y, some ys => some (y :: ys)
    | _, _ => none
  | .cell a t :: l => match loadS P s t (s.fr.getD a undefS), resVars P s l with
    | some y, some ys => some (y :: ys)
    | _, _ => none

def resOf (P : Program) (F : Func) (s : St) : Option SV := match resVars P s F.results.toList with
  | some [y] => some (.w y)
  | some ys => some (.t ys)
  | none => none

def popT (s s' : St) (v : SV) : St :=
  if v.scp s.mem.length s.rows.length && (s'.mem.take s.mem.length).all (fun b => b.cells.all (SC.scp s.mem.length s.rows.length))
  then { s' with fr := s.fr, mem := s'.mem.take s.mem.length, rows := s'.rows.take s.rows.length, fl := s.fl, flr := s.flr }
  else { s' with fr := s.fr, fl := s.fl, flr := s.flr }

def shTy (P : Program) : Nat → TypeId → Option (List K)
  | 0, _ => none
  | d + 1, t => match P.underlying t with
    | some (.int k) => some [.i k]
    | some .bool => some [.b]
    | some (.struct fs) => fs.toList.foldr (fun f acc => match shTy P d f.type, acc with
      | some a, some b => some (a ++ b)
      | _, _ => none) (some [])
    | some (.array n e) => match shTy P d e with
      | some a => some ((List.replicate n a).flatten)
      | none => none
    | _ => none

/-! ### append -/
def baseE (s : St) (elem : TypeId) (ks : List K) (v : SV) : Option (List B × E × List Row) := match v with
  | .w (.o (.l (.slice none 0 0))) => some ([], .nl, s.rows)
  | .w (.o (.s _ _ 0 0)) => some ([], .nl, s.rows)
  | .w (.o (.gz g)) => if (gcode s g).isSome then some ([], .nl, s.rows) else none
  | .w (.o (.go (.o n))) => match s.rows[n]? with
    | some b => if b.live && decide (s.flr ≤ n) && decide (b.ty = elem) && ksame b.ks ks then some ([], b.c, s.rows.set n { b with live := false }) else none
    | none => none
  | .w (.o (.gv (.o n) size (.c 0) hi)) => match s.rows[n]? with
    | some b => if b.live && decide (s.flr ≤ n) && decide (b.ty = elem) && ksame b.ks ks && decide (size = ks.length) then some (vB b.c (.c 0) hi, mkTake b.c hi, s.rows.set n { b with live := false }) else none
    | none => none
  | _ => none

def appT (P : Program) (o : Oper) (c : Call) (s : St) (k : St → T) : T :=
  match c.args.toList, c.argTypes.toList with
  | [a, x], [t, t'] => if t ≠ t' then .fail else
    match P.underlying t with
    | some (.slice elem) => match P.info? elem, shTy P 8 elem with
      | some inf, some ks => match inf.zero with
        | some z => if inf.size = 0 || z.cells.size ≠ inf.size || ks.length ≠ inf.size || decide (inf.bytes > 100000000) || !ksame ks ks || !s.scp then .fail else
          match (match s.ev x with | .w (.o xc) => sliceE s ks xc | _ => none), baseE s elem ks (s.ev a) with
          | some (as, xe), some (bs, be, rows) =>
            asrts (as ++ bs ++ [mkLe (mkLn (mkApp be xe)) (.c 1000000)]) (k (({ s with rows := rows ++ [(⟨elem, ks, mkApp be xe, true⟩ : Row)] } : St).put o.dst (one (.go (.o s.rows.length)))))
          | _, _ => .fail
        | none => .fail
      | _, _ => .fail
    | _ => .fail
  | _, _ => .fail

def makeT (P : Program) (o : Oper) (t : TypeId) (l c : Operand) (s : St) (k : St → T) : T :=
  match P.underlying t, intE (s.ev l), intE (s.ev c) with
  | some (.slice elem), some e, some e' => match P.info? elem, shTy P 8 elem, zeroOf P elem with
    | some inf, some ks, some z => if inf.size = 0 || ks.length ≠ inf.size || decide (inf.bytes > 100000000) || !s.scp then .fail else
      match flatC ks z with
      | some es => asrts [mkEq e e', mkLe (.c 0) e, mkLe e (.c 1000000)] (k (({ s with rows := s.rows ++ [(⟨elem, ks, mkRep e (elemE es), true⟩ : Row)] } : St).put o.dst (one (.go (.o s.rows.length)))))
      | none => .fail
    | _, _, _ => .fail
  | _, _, _ => .fail

def zsame : List SC → List SC → Bool
  | [], [] => true
  | .i k (.c m) :: xs, .i k' (.c m') :: ys => (k == k' && m == m') && zsame xs ys
  | .b (.c m) :: xs, .b (.c m') :: ys => m == m' && zsame xs ys
  | _, _ => false
def bigZ (P : Program) (t : TypeId) : Option (List K × Nat × List SC × List E) := match P.underlying t with
  | some (.array n elem) => match shTy P 8 elem, zeroOf P t with
    | some ks, some z => match flatC ks (z.take ks.length) with
      | some es => if decide (64 < n) && decide (n ≤ 1000000) && decide (ks.length ≠ 0) && zsame (repl (z.take ks.length) n) z then some (ks, n, z, es) else none
      | none => none
    | _, _ => none
  | _ => none
def allocT (o : Oper) (t : TypeId) (ks : List K) (n : Nat) (es : List E) (s : St) (k : St → T) : T :=
  if s.scp then k (({ s with rows := s.rows ++ [(⟨t, ks, mkRep (.c (n : Int)) (elemE es), true⟩ : Row)] } : St).put o.dst (one (.gp (.o s.rows.length) ks.length (.c 0) 0))) else .fail

def B.same : B → B → Bool
  | .c m, .c n => m == n
  | .lt a b, .lt a' b' => a.same a' && b.same b'
  | .le a b, .le a' b' => a.same a' && b.same b'
  | .eq a b, .eq a' b' => a.same a' && b.same b'
  | .nz a, .nz a' => a.same a'
  | .not a, .not a' => a.same a'
  | .and a b, .and a' b' => a.same a' && b.same b'
  | .beq a b, .beq a' b' => a.same a' && b.same b'
  | _, _ => false

def capsame : List (Nat × Nat) → List (Nat × Nat) → Bool
  | [], [] => true
  | x :: xs, y :: ys => (x.1 == y.1 && x.2 == y.2) && capsame xs ys
  | _, _ => false
def lsame : Value → Value → Bool
  | .slice none 0 0, .slice none 0 0 => true
  | .pointer none, .pointer none => true
  | .pointer (some ⟨a, b, none⟩), .pointer (some ⟨a', b', none⟩) => a == a' && b == b'
  | _, _ => false
def SC.same : SC → SC → Bool
  | .i k e, .i k' e' => k == k' && e.same e'
  | .b x, .b x' => x.same x'
  | .p n off, .p n' off' => n == n' && off == off'
  | .s n off len cap, .s n' off' len' cap' => (n == n' && off == off') && (len == len' && cap == cap')
  | .go g, .go g' => g.same g'
  | .gv g size lo hi, .gv g' size' lo' hi' => (g.same g' && size == size') && (lo.same lo' && hi.same hi')
  | .gp g size ix j, .gp g' size' ix' j' => (g.same g' && size == size') && (ix.same ix' && j == j')
  | .gz g, .gz g' => g.same g'
  | .f fn cs, .f fn' cs' => fn == fn' && capsame cs cs'
  | .l v, .l v' => lsame v v'
  | _, _ => false
def csame : List SC → List SC → Bool
  | [], [] => true
  | x :: xs, y :: ys => x.same y && csame xs ys
  | _, _ => false
def SW.same : SW → SW → Bool
  | .o c, .o c' => c.same c'
  | .a cs, .a cs' => csame cs cs'
  | _, _ => false
def wsame : List SW → List SW → Bool
  | [], [] => true
  | x :: xs, y :: ys => x.same y && wsame xs ys
  | _, _ => false
def SV.same : SV → SV → Bool
  | .w x, .w y => x.same y
  | .t xs, .t ys => wsame xs ys
  | .un i, .un j => i == j
  | _, _ => false

mutual
def K.eqv : K → K → Bool
  | .i x, .i y => x == y
  | .b, .b => true
  | .s t x, .s u y => t == u && K.eqvL x y
  | _, _ => false
def K.eqvL : List K → List K → Bool
  | [], [] => true
  | x :: xs, y :: ys => K.eqv x y && K.eqvL xs ys
  | _, _ => false
end
def blsame : List Blk → List Blk → Bool
  | [], [] => true
  | x :: xs, y :: ys => (x.ty == y.ty && (csame x.cells y.cells && x.live == y.live)) && blsame xs ys
  | _, _ => false
def rwsame : List Row → List Row → Bool
  | [], [] => true
  | x :: xs, y :: ys => (x.ty == y.ty && (K.eqvL x.ks y.ks && (x.c.same y.c && x.live == y.live))) && rwsame xs ys
  | _, _ => false
def vsame : List SV → List SV → Bool
  | [], [] => true
  | x :: xs, y :: ys => x.same y && vsame xs ys
  | _, _ => false
def hssame : List (List K × E) → List (List K × E) → Bool
  | [], [] => true
  | x :: xs, y :: ys => (K.eqvL x.1 y.1 && x.2.same y.2) && hssame xs ys
  | _, _ => false
def glsame : List (Nat × List Int) → List (Nat × List Int) → Bool
  | [], [] => true
  | x :: xs, y :: ys => sameG x y && glsame xs ys
  | _, _ => false
def St.same (a b : St) : Bool := (vsame a.fr b.fr && (blsame a.mem b.mem && rwsame a.rows b.rows)) && ((a.nv == b.nv && (a.nx == b.nx && (a.fl == b.fl && a.flr == b.flr))) && (glsame a.gl b.gl && (hssame a.hs b.hs && a.dp == b.dp)))
def lesame : List E → List E → Bool
  | [], [] => true
  | x :: xs, y :: ys => x.same y && lesame xs ys
  | _, _ => false
def callsame : List (Nat × List E) → List (Nat × List E) → Bool
  | [], [] => true
  | x :: xs, y :: ys => (x.1 == y.1 && lesame x.2 y.2) && callsame xs ys
  | _, _ => false

/-! ### operations in sequence -/
section
variable (P : Program) (Γ : List Sum) (ih : Code → St → Kont → T)

def callable (fn : FuncId) : Bool := match P.funcs[fn]? with
  | some F => F.body.isSome && F.name != "runtime.NumGoroutine"
  | none => false

def callT (o : Oper) (c : Call) (s : St) (k : St → T) : T :=
  match c.callee with
  | .value F => match s.ev F with
    | .w (.o (.f fn caps)) =>
      let args := c.args.toList.map s.ev ++ caps.map fun p => one (.p p.1 p.2)
      if !s.sc || !callable P fn then .fail else
      match findSum fn Γ 0 with
      | some (g, sum) => if !glIn sum.gl s.gl then .fail else match sum.m with
        | some f => if !(args.all (SV.sc s.nv s.mem.length s.rows.length s.nx)) then .fail else (match f s args with
          | some (as, es, kk) => asrts as (.call g es (k ((kk s.nv).1.put o.dst (kk s.nv).2)))
          | none => .fail)
        | none => match flats s sum.ps args with
        | some (as, es) => asrts as (.call g es (k ({ s with nv := s.nv + total sum.rs, rows := s.rows ++ rowsE (allK sum.rs) (varsFrom s.nv (total sum.rs)) }.put o.dst (resE ownG s.rows.length sum.rs (varsFrom s.nv (total sum.rs))))))
        | none => .fail
      | none => match P.funcs[fn]? with
        | some F => match F.body with
          | some body =>
            ih body { s with fr := args ++ List.replicate (F.ntmps - args.length) undefS } fun out s' => match out with
              | .exit _ => .fail
              | _ => match resOf P F s' with
                | some v => k ((popT s s' v).put o.dst v)
                | none => .fail
          | none => .fail
        | none => .fail
    | _ => .fail
  | .builtin .append => appT P o c s k
  | .builtin _ => match op1 P s o with
    | some (as, v, s') => asrts as (k (s'.put o.dst v))
    | none => .fail
  | .invoke _ _ => .fail

def opT (o : Oper) (s : St) (k : St → T) : T :=
  match o.op with
  | .call c => callT P Γ ih o c s k
  | .makeSlice t l c => makeT P o t l c s k
  | .alloc t => (match bigZ P t with
    | some (ks, n, _, es) => allocT o t ks n es s k
    | none => match op1 P s o with
      | some (as, v, s') => asrts as (k (s'.put o.dst v))
      | none => .fail)
  | _ => match op1 P s o with
    | some (as, v, s') => asrts as (k (s'.put o.dst v))
    | none => .fail

def execOps (ops : Array Oper) : List Oper → St → (St → T) → T
  | [], s, k => k s
  | o :: l, s, k => forkO (guardTmp ops o) s fun s1 =>
    match wantedS ops s1 o with
    | some true => forkO (pickTmp o) s1 fun s2 => opT P Γ ih o s2 fun s3 => execOps ops l s3 k
    | some false => execOps ops l (s1.put o.dst undefS) k
    | none => .fail

/-! ### a region of plain operations: guards as conditions -/
def hasLit (g : B) : B → Bool
  | .and a b => B.same (.and a b) g || (hasLit g a || hasLit g b)
  | w => B.same w g
def implB (w : B) : B → Bool
  | .c true => true
  | .and a b => implB w a && implB w b
  | g => hasLit g w

abbrev Pend := List (Nat × B × SW)
def lookP : Pend → Nat → Option (B × SW)
  | [], _ => none
  | (t, g, x) :: l, u => if t = u then some (g, x) else lookP l u

def underW (s : St) (pend : Pend) (w : B) : St := match pend with
  | [] => s
  | pend => { s with fr := pend.foldr (fun p fr => fr.set p.1 (if implB w p.2.1 then .w p.2.2 else undefS)) s.fr }

def litB (c : B) (x : Bool) : B := if x then c else mkNot c

def condW (ops : Array Oper) (s : St) (pend : Pend) (o : Oper) : Option B := match o.guard with
  | none => some (.c true)
  | some (j, want) => match (ops[j]?).bind (·.dst) with
    | some t => (match lookP pend t with
      | some (g, .o (.b c)) => some (mkAnd g (litB c want))
      | some _ => none
      | none => match s.fr.getD t undefS with
        | .w (.o (.b c)) => some (litB c want)
        | _ => none)
    | none => none

def pickB (c x y : B) : B := match x, y with
  | .c true, y => mkNot (mkAnd (mkNot c) (mkNot y))
  | x, .c false => mkAnd c x
  | x, y => mkNot (mkAnd (mkNot (mkAnd c x)) (mkNot (mkAnd (mkNot c) y)))

def plainOp (o : Oper) : Bool := match o.op with
  | .move _ | .assign _ | .load _ _ | .nilCheck _ | .binOp _ _ _ _ _ | .unOp _ _ _ | .convert _ _ _ | .fieldAddr _ _ _ | .field _ _ _ | .indexAddr _ _ _ | .index _ _ _ | .extract _ _ | .pick _ _ _ => true
  | .call c => (match c.callee with
    | .builtin .len | .builtin .min | .builtin .max => true
    | _ => false)
  | _ => false

def knownW (pend : Pend) (w : B) : Operand → Bool
  | .tmp t => match lookP pend t with
    | some (g, _) => implB w g
    | none => true
  | _ => true

def valW (P : Program) (s : St) (pend : Pend) (w : B) (o : Oper) : Option (List B × SW) := match o.op with
  | .pick c a b => match (underW s pend w).ev c with
    | .w (.o (.b (.c true))) => (match (underW s pend w).ev a with | .w x => some ([], x) | _ => none)
    | .w (.o (.b (.c false))) => (match (underW s pend w).ev b with | .w x => some ([], x) | _ => none)
    | .w (.o (.b cb)) => (match (underW s pend (mkAnd w cb)).ev a, (underW s pend (mkAnd w (mkNot cb))).ev b with
      | .w (.o (.b x)), .w (.o (.b y)) => some ([], .o (.b (pickB cb x y)))
      | _, _ => none)
    | _ => none
  | _ => if o.op.operands.toList.all (knownW pend w) then (match op1 P (underW s pend w) o with
    | some (as, .w x, _) => some (as, x)
    | _ => none) else none

def underB (w : B) (as : List B) : List B := match w with
  | .c true => as
  | w => as.map fun b => mkNot (mkAnd w (mkNot b))

def specRun (P : Program) (ops : Array Oper) : List Oper → St → Pend → Option (List B × St × Pend)
  | [], s, pend => some ([], s, pend)
  | o :: l, s, pend => match o.dst, condW ops s pend o with
    | some d, some w =>
      if !plainOp o || (lookP pend d).isSome || decide (s.fr.length ≤ d) then none else
      match w with
      | .c false => specRun P ops l (s.put (some d) undefS) pend
      | w => match valW P s pend w o with
        | some (as, x) => match (match w with
            | .c true => specRun P ops l (s.put (some d) (.w x)) pend
            | w => specRun P ops l s ((d, w, x) :: pend)) with
          | some (bs, s', pend') => some (underB w as ++ bs, s', pend')
          | none => none
        | none => none
    | _, _ => none

def finishP : Pend → St → St
  | [], s => s
  | p :: l, s => finishP l { s with fr := s.fr.set p.1 (.un s.nx), nx := s.nx + 1 }

def unOK (n : Nat) : SV → Bool
  | .un i => decide (i < n)
  | _ => true

def specT (P : Program) (ops : Array Oper) (s : St) (k : St → T) (alt : T) : T :=
  if ops.any (fun o => o.guard.isSome) && ops.all plainOp then match specRun P ops ops.toList s [] with
    | some (as, s', pend) => if s'.fr.all (unOK s'.nx) then asrts as (k (finishP pend s')) else alt
    | none => alt
  else alt

/-! ### a region that draws its order -/
def bindsOn (o : Oper) : List Nat := (o.after.toList.filter (Region.binds .any)).map (·.on)

def maskOf (ms : List Nat) (o : Oper) : Nat := (bindsOn o).foldl (fun m j => (m ||| ms.getD j 0) ||| (1 <<< j)) 0

def masksAux : List Oper → List Nat → List Nat
  | [], ms => ms
  | o :: l, ms => masksAux l (ms ++ [maskOf ms o])

def masks (ops : Array Oper) : List Nat := masksAux ops.toList []

def behind (ms : List Nat) (k i : Nat) : Bool := (ms.getD k 0).testBit i

def forced (ms : List Nat) (i : Nat) : Bool := (List.range i).all fun j => behind ms i j

def tailLen (ms : List Nat) : Nat → List Oper → Nat
  | _, [] => 0
  | i, _ :: l => let r := tailLen ms (i + 1) l; if r = l.length && forced ms i then r + 1 else r

def drawOK (ops : Array Oper) (ms : List Nat) (N : Nat) : Bool :=
  Region.noSelect ops &&
  (List.range ops.size).all fun j => match ops[j]? with
    | none => false
    | some oj => (bindsOn oj).all (fun i => decide (i < j)) &&
      (if j < N then (List.range j).all (fun i => match ops[i]? with
        | none => false
        | some oi => (oi.dst.isNone || oi.dst != oj.dst) && (behind ms j i || oi.apart ops oj))
      else forced ms j)

def isStore (o : Oper) : Bool := match o.op with
  | .store _ _ _ => true
  | _ => false

def earlyLen : List Oper → Nat
  | [] => 0
  | o :: l => if isStore o then 0 else earlyLen l + 1

def writer (ops : Array Oper) (n t : Nat) : Option Nat := (List.range n).find? fun i => decide ((ops[i]?).bind (·.dst) = some t)

def baseOf (ops : Array Oper) (s : St) (N1 : Nat) : Nat → Nat → Option Nat
  | 0, _ => none
  | f + 1, t => match writer ops N1 t with
    | none => (match s.fr.getD t undefS with
      | .w (.o (.p n _)) => some n
      | _ => none)
    | some i => (match ops[i]? with
      | some o => (match o.op with
        | .fieldAddr _ (.tmp u) _ => baseOf ops s N1 f u
        | .indexAddr _ (.tmp u) _ => baseOf ops s N1 f u
        | .nilCheck (.tmp u) => baseOf ops s N1 f u
        | .move (.tmp u) => baseOf ops s N1 f u
        | _ => none)
      | none => none)

def lateOld (ops : Array Oper) (s : St) (N1 : Nat) : List Oper → List Nat
  | [] => []
  | o :: l => match o.op with
    | .store _ (.tmp ta) _ => (match baseOf ops s N1 8 ta with
      | some n => n :: lateOld ops s N1 l
      | none => lateOld ops s N1 l)
    | _ => lateOld ops s N1 l

def strictAt (ms : List Nat) (N1 N i : Nat) : Bool := (List.range N).all fun k => decide (k < N1) || behind ms k i

def swapM (to frm s : St) : St := { s with mem := to.mem ++ s.mem.drop frm.mem.length }

def killB (D : List Nat) : Nat → List Blk → List Blk
  | _, [] => []
  | n, b :: l => (if D.contains n then { b with live := false } else b) :: killB D (n + 1) l

def lateS1 (P : Program) (X : List Nat) (m0 g0 : Nat) (o : Oper) (s : St) : Option St := match o.op with
  | .store t (.tmp ta) x => match s.fr.getD ta undefS, s.ev x with
    | .w (.o (.p n off)), .w y => match s.mem[n]? with
      | some b =>
        if o.guard.isNone && o.dst.isNone && (decide (m0 ≤ n) || X.contains n) && b.live && (P.info? t).isSome && decide (s.fl ≤ n) && decide (y.cells.length = P.cellsOf t) &&
            decide (off + y.cells.length ≤ b.cells.length) && y.cells.all SC.one && y.scp m0 g0 then
          some { s with mem := s.mem.set n { b with cells := setAt b.cells off y.cells } }
        else none
      | none => none
    | _, _ => none
  | .assign x => match o.dst with
    | some _ => if o.guard.isNone && (s.ev x).scp m0 g0 then some s else none
    | none => none
  | _ => none

def lateApart (ops : Array Oper) (l : List Oper) : Bool := l.all fun o => l.all fun o' => match o'.dst with
  | some d => !(o.looksAt ops).contains d
  | none => true

def lateFr (s3 : St) : List Oper → List SV → List SV
  | [], fr => fr
  | o :: l, fr => match o.op, o.dst with
    | .assign x, some d => lateFr s3 l (fr.set d (s3.ev x))
    | _, _ => lateFr s3 l fr

def lateS (P : Program) (X : List Nat) (m0 g0 : Nat) : List Oper → St → Option St
  | [], s => some s
  | o :: l, s => match lateS1 P X m0 g0 o s with
    | some s' => lateS P X m0 g0 l s'
    | none => none

def liveAt (s : St) (n : Nat) : Bool := match s.mem[n]? with
  | some b => b.live
  | none => false

def bindT : T → (List E → T) → T
  | .ret es, k => k es
  | .ite b t f, k => .ite b (bindT t k) (bindT f k)
  | .asrt b t, k => .asrt b (bindT t k)
  | _, _ => .fail

def retC (s : St) : List SC → (List E → T) → T
  | [], k => k []
  | .i _ e :: cs, k => retC s cs fun es => k (e :: es)
  | .b (.c x) :: cs, k => retC s cs fun es => k (.c (if x then 1 else 0) :: es)
  | .b x :: cs, k => .ite x (retC s cs fun es => k (.c 1 :: es)) (retC s cs fun es => k (.c 0 :: es))
  | .go g :: cs, k => (match gcode s g with
    | some (_, c) => retC s cs fun es => k (c :: es)
    | none => .fail)
  | .gz _ :: cs, k => retC s cs fun es => k (.nl :: es)
  | .l (.slice none 0 0) :: cs, k => retC s cs fun es => k (.nl :: es)
  | _, _ => .fail

def fitsC (s : St) : List K → List SC → Bool
  | [], [] => true
  | .i k :: ks, .i k' _ :: cs => k == k' && fitsC s ks cs
  | .b :: ks, .b _ :: cs => fitsC s ks cs
  | .s ty kr :: ks, .go (.o n) :: cs => (match s.rows[n]? with
    | some b => b.live && decide (s.flr ≤ n) && decide (b.ty = ty) && ksame b.ks kr
    | none => false) && fitsC s ks cs
  | .s _ _ :: ks, .gz g :: cs => (gcode s g).isSome && fitsC s ks cs
  | .s _ _ :: ks, .l (.slice none 0 0) :: cs => fitsC s ks cs
  | _, _ => false

def fitsW (st : St) (s : Sh) : SW → Bool
  | .o c => !s.agg && fitsC st s.ks [c]
  | .a cs => s.agg && fitsC st s.ks cs

def fitsWs (st : St) : List Sh → List SW → Bool
  | [], [] => true
  | s :: ss, w :: ws => fitsW st s w && fitsWs st ss ws
  | _, _ => false

def cellsW : List SW → List SC
  | [] => []
  | .o c :: l => c :: cellsW l
  | .a cs :: l => cs ++ cellsW l

def rowNames : List SC → List Nat
  | [] => []
  | .go (.o n) :: l => n :: rowNames l
  | _ :: l => rowNames l
def nodupB : List Nat → Bool
  | [] => true
  | x :: l => !l.contains x && nodupB l

def retW (s : St) (rs : List Sh) (v : SV) : T := match v with
  | .w x => if fitsWs s rs [x] && nodupB (rowNames (cellsW [x])) then retC s (cellsW [x]) .ret else .fail
  | .t xs => if fitsWs s rs xs && xs.length != 1 && nodupB (rowNames (cellsW xs)) then retC s (cellsW xs) .ret else .fail
  | .un _ => .fail

def doneK (P : Program) (F : Func) (rs : List Sh) : Kont := fun out s' => match out with
  | .exit _ => .fail
  | _ => match resOf P F s' with
    | some v => retW s' rs v
    | none => .fail

def shOf (P : Program) (t : TypeId) : Option Sh := (shTy P 8 t).map fun ks => ⟨tyAgg P t, ks⟩

def shsOf (P : Program) : List TypeId → Option (List Sh)
  | [] => some []
  | t :: l => match shOf P t, shsOf P l with
    | some a, some b => some (a :: b)
    | _, _ => none

def maskFr (nb ng : Nat) (l : List SV) : List SV := l.map fun v => if v.scp nb ng then v else undefS

def preT (s0 : St) (o : Oper) (s : St) (k : St → T) : T :=
  let sr : St := { s with fr := maskFr s0.mem.length s0.rows.length s.fr, mem := s0.mem, rows := s0.rows, fl := s0.mem.length, flr := s0.rows.length }
  if !(o.op.operands.toList.all fun x => (s.ev x).scp s0.mem.length s0.rows.length) then .fail else
  match o.op with
  | .call c => match c.callee with
    | .value F => match s.ev F with
      | .w (.o (.f fn caps)) =>
        let args := c.args.toList.map s.ev ++ caps.map fun p => one (.p p.1 p.2)
        if !(args.all (SV.sc s.nv s0.mem.length s0.rows.length s.nx)) || !callable P fn then .fail else
        match findSum fn Γ 0 with
        | some (g, sum) => if !s.sc || !glIn sum.gl s.gl || decide (nS (allK sum.rs) ≠ 0) || sum.m.isSome then .fail else match flats sr sum.ps args with
          | some (as, es) => asrts as (.call g es (k ({ s with nv := s.nv + total sum.rs }.put o.dst (resE ownG 0 sum.rs (varsFrom s.nv (total sum.rs))))))
          | none => .fail
        | none => match P.funcs[fn]? with
          | some F => match F.body, shsOf P F.resultTypes.toList with
            | some body, some rs =>
              bindT (ih body { sr with fr := args ++ List.replicate (F.ntmps - args.length) undefS } (doneK P F rs)) fun es =>
                if es.all (E.sc s.nv) && decide (nS (allK rs) = 0) then k (s.put o.dst (resE ownG 0 rs es)) else .fail
            | _, _ => .fail
          | none => .fail
      | _ => .fail
    | .builtin .append => .fail
    | .builtin _ => match op1 P sr o with
      | some (as, v, _) => if v.scp s0.mem.length s0.rows.length then asrts as (k (s.put o.dst v)) else .fail
      | none => .fail
    | .invoke _ _ => .fail
  | .store _ _ _ => .fail
  | _ => match op1 P sr o with
    | some (as, v, s') => asrts as (match s'.mem.drop s0.mem.length with
      | [] => if v.scp s0.mem.length s0.rows.length then k (s.put o.dst v) else .fail
      | [b] => if b.live && b.cells.all (SC.scp s0.mem.length s0.rows.length) then (match v with
        | .w (.o (.p n 0)) => if n = s0.mem.length then k ({ s with mem := s.mem ++ [b] }.put o.dst (one (.p s.mem.length 0))) else .fail
        | .w (.o (.s n 0 len cap)) => if n = s0.mem.length then k ({ s with mem := s.mem ++ [b] }.put o.dst (one (.s s.mem.length 0 len cap))) else .fail
        | _ => .fail) else .fail
      | _ => .fail)
    | none => .fail

def execPre (ops : Array Oper) (sf s0 : St) (sg : Nat → Bool) : Nat → List Oper → St → (St → T) → T
  | _, [], s, k => k s
  | i, o :: l, s, k => forkO (guardTmp ops o) s fun s1 =>
    match wantedS ops s1 o with
    | some true => forkO (pickTmp o) s1 fun s2 =>
      if sg i then preT P Γ ih sf o (swapM sf s0 s2) fun s3 => execPre ops sf s0 sg (i + 1) l (swapM s0 sf s3) k
      else preT P Γ ih s0 o s2 fun s3 => execPre ops sf s0 sg (i + 1) l s3 k
    | some false => execPre ops sf s0 sg (i + 1) l (s1.put o.dst undefS) k
    | none => .fail

def bothT : List T → T
  | [] => .fail
  | [t] => t
  | t :: l => .both t (bothT l)
def execAll (ops : Array Oper) : Nat → Array Bool → St → (St → T) → T
  | 0, listed, s, k => if (Region.ready .any ops listed).isEmpty then k s else .fail
  | f + 1, listed, s, k => match Region.ready .any ops listed with
    | [] => k s
    | l => bothT (l.map fun j => match ops[j]? with
      | some o => execOps P Γ ih ops [o] s fun s' => execAll ops f (listed.setIfInBounds j true) s' k
      | none => .fail)
def isT : B → Bool
  | .c true => true
  | _ => false
def applyC : List (Nat × List E) → T → T
  | [], t => t
  | c :: l, t => .call c.1 c.2 (applyC l t)
def rawS (o : Oper) (s : St) : Option (Option (Nat × List E) × St) := match o.op with
  | .call c => (match c.callee with
    | .value F => (match s.ev F with
      | .w (.o (.f fn caps)) => if !s.sc || !callable P fn then none else
        (match findSum fn Γ 0 with
        | some (g, sum) => if !glIn sum.gl s.gl then none else (match sum.m with
          | some f => if !((c.args.toList.map s.ev ++ caps.map fun p => one (.p p.1 p.2)).all (SV.sc s.nv s.mem.length s.rows.length s.nx)) then none else (match f s (c.args.toList.map s.ev ++ caps.map fun p => one (.p p.1 p.2)) with
            | some (as, es, kk) => if as.all isT then some (some (g, es), (kk s.nv).1.put o.dst (kk s.nv).2) else none
            | none => none)
          | none => (match flats s sum.ps (c.args.toList.map s.ev ++ caps.map fun p => one (.p p.1 p.2)) with
            | some (as, es) => if as.all isT then some (some (g, es), { s with nv := s.nv + total sum.rs, rows := s.rows ++ rowsE (allK sum.rs) (varsFrom s.nv (total sum.rs)) }.put o.dst (resE ownG s.rows.length sum.rs (varsFrom s.nv (total sum.rs)))) else none
            | none => none))
        | none => none)
      | _ => none)
    | .builtin .append => none
    | .builtin _ => (match op1 P s o with
      | some (as, v, s') => if as.all isT then some (none, s'.put o.dst v) else none
      | none => none)
    | .invoke _ _ => none)
  | .makeSlice t l c => (match P.underlying t, intE (s.ev l), intE (s.ev c) with
    | some (.slice elem), some e, some e' => (match P.info? elem, shTy P 8 elem, zeroOf P elem with
      | some inf, some ks, some z => if inf.size = 0 || ks.length ≠ inf.size || decide (inf.bytes > 100000000) || !s.scp then none else
        (match flatC ks z with
        | some es => if [mkEq e e', mkLe (.c 0) e, mkLe e (.c 1000000)].all isT then some (none, ({ s with rows := s.rows ++ [(⟨elem, ks, mkRep e (elemE es), true⟩ : Row)] } : St).put o.dst (one (.go (.o s.rows.length)))) else none
        | none => none)
      | _, _, _ => none)
    | _, _, _ => none)
  | .alloc t => if (bigZ P t).isSome then none else (match op1 P s o with
    | some (as, v, s') => if as.all isT then some (none, s'.put o.dst v) else none
    | none => none)
  | _ => (match op1 P s o with
    | some (as, v, s') => if as.all isT then some (none, s'.put o.dst v) else none
    | none => none)
abbrev Outc := List (Nat × List E) × St
def Outc.same (a b : Outc) : Bool := callsame a.1 b.1 && a.2.same b.2
abbrev Fron := List (Array Bool × Outc)
def bsame : List Bool → List Bool → Bool
  | [], [] => true
  | true :: l, true :: m => bsame l m
  | false :: l, false :: m => bsame l m
  | _, _ => false
def addFr (x : Array Bool × Outc) (l : Fron) : Fron := if l.any (fun y => bsame x.1.toList y.1.toList && Outc.same x.2 y.2) then l else x :: l
def stepO (ops : Array Oper) (li : Array Bool) (c : List (Nat × List E)) (s : St) : List Nat → Fron → Option Fron
  | [], acc => some acc
  | j :: l, acc => match ops[j]? with
    | some o => if o.guard.isSome || (pickTmp o).isSome then none else (match rawS P Γ o s with
      | some (d, s1) => stepO ops li c s l (addFr (li.setIfInBounds j true, (c ++ d.toList, s1)) acc)
      | none => none)
    | none => none
def stepD (ops : Array Oper) : Fron → Fron → Option Fron
  | [], acc => some acc
  | x :: l, acc => match Region.ready .any ops x.1 with
    | [] => none
    | q => match stepO P Γ ops x.1 x.2.1 x.2.2 q acc with
      | some acc' => stepD ops l acc'
      | none => none
def runsD (ops : Array Oper) : Nat → Fron → Option (List Outc)
  | 0, fr => if fr.all fun x => (Region.ready .any ops x.1).isEmpty then some (fr.map (·.2)) else none
  | f + 1, fr => if fr.all fun x => (Region.ready .any ops x.1).isEmpty then some (fr.map (·.2)) else match stepD P Γ ops fr [] with
    | some fr' => runsD ops f fr'
    | none => none
def isSl (P : Program) (t : TypeId) : Bool := match P.underlying t with
  | some (.slice _) => true
  | some (.struct fs) => fs.toList.any fun f => match P.underlying f.type with
    | some (.slice _) => true
    | _ => false
  | _ => false
def brings (s : St) (o : Oper) : Bool := match o.op with
  | .makeSlice _ l _ => (match s.ev l with
    | .w (.o (.i _ (.c n))) => decide (64 < n)
    | _ => true)
  | .call c => (match c.callee with
    | .value F => (match s.ev F with
      | .w (.o (.f fn _)) => (match P.funcs[fn]? with
        | some F => F.resultTypes.toList.any (isSl P)
        | none => false)
      | _ => false)
    | _ => false)
  | _ => false

def execDraw (ops : Array Oper) (s : St) (k : St → T) : T :=
  let ms := masks ops
  let N := ops.size - tailLen ms 0 ops.toList
  if (ops.toList.take N).any (brings P s) then (match runsD P Γ ops ops.size [(Array.replicate ops.size false, ([], s))] with
    | some L => bothT (L.map fun x => applyC x.1 (k x.2))
    | none => execAll P Γ ih ops ops.size (Array.replicate ops.size false) s k) else
  let N1 := earlyLen (ops.toList.take N)
  if drawOK ops ms N && s.sc && (ops.all fun o => match o.dst with | some d => decide (d < s.fr.length) | none => true) then
    let X := lateOld ops s N1 ((ops.toList.take N).drop N1)
    let s0 : St := { s with mem := killB X 0 s.mem }
    if X.all (fun n => decide (s.fl ≤ n) && liveAt s n) && (List.range N).all (fun i => decide (i ≤ N1) || (List.range i).all fun j => decide (j < N1) || behind ms i j) && lateApart ops ((ops.toList.take N).drop N1) then
      execPre P Γ ih ops s s0 (strictAt ms N1 N) 0 (ops.toList.take N1) s0 fun s' =>
        match lateS P X s.mem.length s.rows.length ((ops.toList.take N).drop N1) { s' with mem := s.mem ++ s'.mem.drop s.mem.length } with
        | some s3 => execOps P Γ ih ops (ops.toList.drop N) { s3 with fr := lateFr s3 ((ops.toList.take N).drop N1) s3.fr } k
        | none => .fail
    else .fail
  else .fail
end

/-! ### loops over lists of open length -/
inductive Ck where
  | keep
  | num (k : K)
  | row (ty : TypeId) (ks : List K)
  | arr (ty : TypeId) (ks : List K)
inductive Sk where
  | keep
  | un
  | cells (l : List Ck)
structure Plan where
  fr : List Sk
  mem : List (List Ck)

def nvC : List Ck → Nat
  | [] => 0
  | .keep :: l => nvC l
  | _ :: l => nvC l + 1
def ngC : List Ck → Nat
  | [] => 0
  | .row _ _ :: l => ngC l + 1
  | .arr _ _ :: l => ngC l + 1
  | _ :: l => ngC l
def genC : List Ck → List SC → Nat → Nat → List SC
  | .keep :: l, c :: cs, nv, ng => c :: genC l cs nv ng
  | .num (.i k) :: l, _ :: cs, nv, ng => .i k (.v nv) :: genC l cs (nv + 1) ng
  | .num _ :: l, _ :: cs, nv, ng => .b (.nz (.v nv)) :: genC l cs (nv + 1) ng
  | .row _ _ :: l, _ :: cs, nv, ng => .go (.o ng) :: genC l cs (nv + 1) (ng + 1)
  | .arr _ ks :: l, _ :: cs, nv, ng => .gp (.o ng) ks.length (.c 0) 0 :: genC l cs (nv + 1) (ng + 1)
  | _, _, _, _ => []
def rowsC : List Ck → Nat → List Row
  | [], _ => []
  | .keep :: l, nv => rowsC l nv
  | .num _ :: l, nv => rowsC l (nv + 1)
  | .row ty ks :: l, nv => ⟨ty, ks, .v nv, true⟩ :: rowsC l (nv + 1)
  | .arr ty ks :: l, nv => ⟨ty, ks, .v nv, true⟩ :: rowsC l (nv + 1)

def rowM (s : St) (ty : TypeId) (ks : List K) (c : SC) : Option (List B × E × List Nat) := match c with
  | .l (.slice none 0 0) => some ([], .nl, [])
  | .gz g => if (gcode s g).isSome then some ([], .nl, []) else none
  | .go (.o n) => match s.rows[n]? with
    | some b => if b.live && decide (s.flr ≤ n) && decide (b.ty = ty) && ksame b.ks ks then some ([], b.c, [n]) else none
    | none => none
  | .gv (.o n) size (.c 0) hi => match s.rows[n]? with
    | some b => if b.live && decide (s.flr ≤ n) && decide (b.ty = ty) && ksame b.ks ks && decide (size = ks.length) then some (vB b.c (.c 0) hi, mkTake b.c hi, [n]) else none
    | none => none
  | _ => none

def arrM (s : St) (ty : TypeId) (ks : List K) (c : SC) : Option (E × Nat) := match c with
  | .gp (.o n) size (.c 0) 0 => match s.rows[n]? with
    | some b => if b.live && decide (s.flr ≤ n) && decide (b.ty = ty) && ksame b.ks ks && decide (size = ks.length) then some (b.c, n) else none
    | none => none
  | _ => none

def matchC (s : St) : List Ck → List SC → List SC → Option (List B × List E × List Nat)
  | [], [], [] => some ([], [], [])
  | .keep :: l, c :: cs, x :: xs => if c.same x then matchC s l cs xs else none
  | .num k :: l, _ :: cs, x :: xs => match flatC [k] [x], matchC s l cs xs with
    | some [e], some (as, es, us) => some (as, e :: es, us)
    | _, _ => none
  | .row ty ks :: l, _ :: cs, x :: xs => match rowM s ty ks x, matchC s l cs xs with
    | some (as, e, u), some (bs, es, us) => some (as ++ bs, e :: es, u ++ us)
    | _, _ => none
  | .arr ty ks :: l, _ :: cs, x :: xs => match arrM s ty ks x, matchC s l cs xs with
    | some (e, u), some (bs, es, us) => some (bs, e :: es, [u] ++ us)
    | _, _ => none
  | _, _, _ => none

def nvS : List Sk → Nat
  | [] => 0
  | .cells l :: r => nvC l + nvS r
  | _ :: r => nvS r
def ngS : List Sk → Nat
  | [] => 0
  | .cells l :: r => ngC l + ngS r
  | _ :: r => ngS r
def nxS : List Sk → Nat
  | [] => 0
  | .un :: r => nxS r + 1
  | _ :: r => nxS r
def genV (l : List Ck) (v : SV) (nv ng : Nat) : SV := match v with
  | .w (.o c) => (match genC l [c] nv ng with
    | c' :: _ => one c'
    | [] => undefS)
  | .w (.a cs) => .w (.a (genC l cs nv ng))
  | v => v
def genF : List Sk → List SV → Nat → Nat → Nat → List SV
  | .keep :: l, v :: vs, nv, ng, nx => v :: genF l vs nv ng nx
  | .un :: l, _ :: vs, nv, ng, nx => .un nx :: genF l vs nv ng (nx + 1)
  | .cells p :: l, v :: vs, nv, ng, nx => genV p v nv ng :: genF l vs (nv + nvC p) (ng + ngC p) nx
  | _, _, _, _, _ => []
def rowsF : List Sk → Nat → List Row
  | [], _ => []
  | .cells p :: l, nv => rowsC p nv ++ rowsF l (nv + nvC p)
  | _ :: l, nv => rowsF l nv
def matchV (s : St) (l : List Ck) (v x : SV) : Option (List B × List E × List Nat) := match v, x with
  | .w (.o c), .w (.o d) => matchC s l [c] [d]
  | .w (.a cs), .w (.a ds) => matchC s l cs ds
  | _, _ => none
def matchF (s : St) : List Sk → List SV → List SV → Option (List B × List E × List Nat)
  | [], [], [] => some ([], [], [])
  | .keep :: l, v :: vs, x :: xs => if v.same x then matchF s l vs xs else none
  | .un :: l, _ :: vs, _ :: xs => matchF s l vs xs
  | .cells p :: l, v :: vs, x :: xs => match matchV s p v x, matchF s l vs xs with
    | some (as, es, us), some (bs, fs, ts) => some (as ++ bs, es ++ fs, us ++ ts)
    | _, _ => none
  | _, _, _ => none
def nvM : List (List Ck) → Nat
  | [] => 0
  | p :: l => nvC p + nvM l
def genM : List (List Ck) → List Blk → Nat → Nat → List Blk
  | p :: l, b :: bs, nv, ng => { b with cells := genC p b.cells nv ng } :: genM l bs (nv + nvC p) (ng + ngC p)
  | _, _, _, _ => []
def rowsM : List (List Ck) → Nat → List Row
  | [], _ => []
  | p :: l, nv => rowsC p nv ++ rowsM l (nv + nvC p)
def matchM (s : St) : List (List Ck) → List Blk → List Blk → Option (List B × List E × List Nat)
  | [], [], _ => some ([], [], [])
  | p :: l, b :: bs, x :: xs => if b.live && x.live && decide (b.ty = x.ty) then (match matchC s p b.cells x.cells, matchM s l bs xs with
    | some (as, es, us), some (cs, fs, ts) => some (as ++ cs, es ++ fs, us ++ ts)
    | _, _ => none) else none
  | _, _, _ => none
def sameR (us : List Nat) : Nat → List Row → List Row → Bool
  | _, [], _ => true
  | n, b :: bs, x :: xs => (!b.live || (x.live && decide (b.ty = x.ty) && ksame b.ks x.ks && b.c.same x.c && !us.contains n)) && sameR us (n + 1) bs xs
  | _, _ :: _, [] => false
def killR (us : List Nat) : Nat → List Row → List Row
  | _, [] => []
  | n, b :: bs => (if us.contains n then { b with live := false } else b) :: killR us (n + 1) bs

def matchS (pl : Plan) (s : St) (rows : List Row) (x : St) : Option (List B × List E × List Nat) := match matchF x pl.fr s.fr x.fr, matchM x pl.mem s.mem x.mem with
  | some (as, es, us), some (bs, fs, ts) => if nodupB (us ++ ts) && sameR (us ++ ts) 0 rows x.rows then some (as ++ bs, es ++ fs, us ++ ts) else none
  | _, _ => none

def genS (pl : Plan) (s : St) (us : List Nat) : St :=
  { s with
    fr := genF pl.fr s.fr s.nv s.rows.length s.nx
    mem := genM pl.mem s.mem (s.nv + nvS pl.fr) (s.rows.length + ngS pl.fr)
    rows := killR us 0 s.rows ++ (rowsF pl.fr s.nv ++ rowsM pl.mem (s.nv + nvS pl.fr))
    nv := s.nv + (nvS pl.fr + nvM pl.mem)
    nx := s.nx + nxS pl.fr
    dp := s.dp + 1 }

/-! ### code -/
def loopN (ih : Code → St → Kont → T) (body : Code) : Nat → St → Kont → T
  | 0, _, _ => .fail
  | n + 1, s, k => ih body s fun o s' => match o with
    | .norm => loopN ih body n s' k
    | o => k o s'

def boolSlots : List Sk → Nat → List Nat
  | [], _ => []
  | .cells [.num .b] :: l, i => i :: boolSlots l (i + 1)
  | _ :: l, i => boolSlots l (i + 1)
def forkL : List Nat → St → (St → T) → T
  | [], s, k => k s
  | t :: ts, s, k => match slotB s t with
    | some (.nz _) => forkL ts s k
    | _ => forkO (some t) s fun s' => forkL ts s' k
def loopG (ih : Code → St → Kont → T) (pl : Plan) (body : Code) (s : St) (k : Kont) : T :=
  if s.sc then match matchS pl s [] s with
    | some (as, es, us) => asrts as (.loop es.length es (ih body (genS pl s us) fun o s' => match o with
      | .norm => forkL (boolSlots pl.fr 0) s' fun s' => (match matchS pl s (killR us 0 s.rows) s' with
        | some (bs, fs, _) => asrts bs (.back s.dp fs)
        | none => .fail)
      | o => k o s'))
    | none => .fail
  else .fail

def exec (P : Program) (lp : St → Code → Option Plan) (Γ : List Sum) : Nat → Code → St → Kont → T
  | 0, _, _, _ => .fail
  | f + 1, c, s, k => match c with
    | .skip => k .norm s
    | .label _ => k .norm s
    | .region _ ops draw => if draw then execDraw P Γ (exec P lp Γ f) (tidy ops) s (k .norm) else specT P ops s (k .norm) (execOps P Γ (exec P lp Γ f) ops ops.toList s (k .norm))
    | .seq a b => exec P lp Γ f a s fun o s' => match o with
      | .norm => exec P lp Γ f b s' k
      | o => k o s'
    | .cond c x y => match c with
      | .tmp t => forkO (some t) s fun s' => match slotB s' t with
        | some (.c true) => exec P lp Γ f x s' k
        | some (.c false) => exec P lp Γ f y s' k
        | _ => .fail
      | .const (.bool true) => exec P lp Γ f x s k
      | .const (.bool false) => exec P lp Γ f y s k
      | _ => .fail
    | .block id body => exec P lp Γ f body s fun o s' => match o with
      | .exit id' => if id' = id then k .norm s' else k (.exit id') s'
      | o => k o s'
    | .loop body => match lp s body with
      | some pl => loopG (exec P lp Γ f) pl body s k
      | none => loopN (exec P lp Γ f) body f s k
    | .exit id => k (.exit id) s
    | .ret => k .ret s
    | _ => .fail

def frameOf (ps : List Sh) (n : Nat) : List SV :=
  let as := (shsE argG 0 ps (varsFrom 0 (total ps))).map SV.w
  as ++ List.replicate (n - as.length) undefS

def symFnL (P : Program) (lp : St → Code → Option Plan) (gl : List (Nat × List Int)) (Γ : List Sum) (fuel : Nat) (fn : FuncId) (ps rs : List Sh) : T := match P.funcs[fn]? with
  | some F => match F.body with
    | some body => exec P lp Γ fuel body ⟨frameOf ps F.ntmps, [], [], total ps, 0, 0, 0, gl, hsE (allK ps) (varsFrom 0 (total ps)), 0⟩ (doneK P F rs)
    | none => .fail
  | none => .fail

def noLp : St → Code → Option Plan := fun _ _ => none
end Go.Sx
