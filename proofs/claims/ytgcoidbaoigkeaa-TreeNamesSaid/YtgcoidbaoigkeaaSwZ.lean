/-
  Loops to be opened: a plan of the loop's head, by its code. (Nothing to prove: the plan is checked where it is used.)
-/
import Derived.Test.YtgcoidbaoigkeaaSwY
namespace Go.Sx
open Go.RowKit

def codeOps : Code → List Oper
  | .region _ ops _ => ops.toList
  | .seq a b => codeOps a ++ codeOps b
  | .cond _ a b => codeOps a ++ codeOps b
  | .block _ a => codeOps a
  | .loop a => codeOps a
  | .scope a => codeOps a
  | _ => []

def loopKey : Code → Nat × Nat
  | .region id ops _ => (id, ((ops[0]?).bind (·.dst)).getD 0)
  | .seq a _ => loopKey a
  | .block _ a => loopKey a
  | _ => (1000000, 0)

def writerOf (l : List Oper) (t : Tmp) : Option Oper := l.find? fun o => decide (o.dst = some t)

def sliceTy (l : List Oper) : Nat → Tmp → Option TypeId
  | 0, _ => none
  | f + 1, t => match writerOf l t with
    | some o => (match o.op with
      | .move (.tmp u) => sliceTy l f u
      | .assign (.tmp u) => sliceTy l f u
      | .slice ty _ _ _ _ => some ty
      | .call c => (match c.callee with
        | .builtin .append => c.argTypes[0]?
        | _ => none)
      | _ => none)
    | none => none

def addrOf (l : List Oper) (s : St) : Nat → Tmp → Option Nat
  | 0, _ => none
  | f + 1, t => match writerOf l t with
    | none => (match s.fr.getD t undefS with
      | .w (.o (.p n _)) => some n
      | _ => none)
    | some o => (match o.op with
      | .fieldAddr _ (.tmp u) _ => addrOf l s f u
      | .indexAddr _ (.tmp u) _ => addrOf l s f u
      | .nilCheck (.tmp u) => addrOf l s f u
      | .move (.tmp u) => addrOf l s f u
      | _ => none)

def written (l : List Oper) (s : St) : List Oper → List Nat
  | [] => []
  | o :: r => match o.op with
    | .store _ (.tmp t) _ => (match addrOf l s 8 t with
      | some n => n :: written l s r
      | none => written l s r)
    | _ => written l s r

def rowOf (l : List Oper) (s : St) : Nat → Tmp → Option Nat
  | 0, _ => none
  | f + 1, t => match writerOf l t with
    | none => (match s.fr.getD t undefS with
      | .w (.o (.go (.o n))) => some n
      | .w (.o (.gv (.o n) _ _ _)) => some n
      | .w (.o (.gp (.o n) _ _ _)) => some n
      | _ => none)
    | some o => (match o.op with
      | .fieldAddr _ (.tmp u) _ => rowOf l s f u
      | .indexAddr _ (.tmp u) _ => rowOf l s f u
      | .nilCheck (.tmp u) => rowOf l s f u
      | .move (.tmp u) => rowOf l s f u
      | .load _ (.tmp u) => (match addrOf l s f u with
        | some n => (match s.mem[n]? with
          | some b => (match b.cells with
            | .go (.o m) :: _ => some m
            | _ => none)
          | none => none)
        | none => none)
      | _ => none)

def rowsWritten (l : List Oper) (s : St) : List Oper → List Nat
  | [] => []
  | o :: r => match o.op with
    | .store _ (.tmp t) _ => (match rowOf l s 8 t with
      | some n => n :: rowsWritten l s r
      | none => rowsWritten l s r)
    | _ => rowsWritten l s r

def cellPlan (s : St) (ty : Option (TypeId × List K)) : SC → Ck
  | .i k _ => .num (.i k)
  | .b _ => .num .b
  | .go (.o n) => (match s.rows[n]? with
    | some b => .row b.ty b.ks
    | none => .keep)
  | .gv (.o n) _ _ _ => (match s.rows[n]? with
    | some b => .row b.ty b.ks
    | none => .keep)
  | .l (.slice none 0 0) => (match ty with
    | some t => .row t.1 t.2
    | none => .keep)
  | _ => .keep

def plainC : SC → Bool
  | .i _ _ => true
  | .b _ => true
  | .go (.o _) => true
  | .gv (.o _) _ _ _ => true
  | .l (.slice none 0 0) => true
  | _ => false

def tyOf (P : Program) (l : List Oper) (t : Tmp) : Option (TypeId × List K) := match sliceTy l 8 t with
  | some ty => (match P.underlying ty with
    | some (.slice e) => (shTy P 8 e).map fun ks => (e, ks)
    | _ => none)
  | none => none

def mentions (l : List Oper) (t : Tmp) : Bool := l.any fun o => o.op.operands.toList.any fun x => match x with
  | .tmp u => u == t
  | _ => false

def slotPlan (P : Program) (l : List Oper) (s : St) (rw : List Nat) (t : Tmp) (v : SV) : Sk :=
  if (writerOf l t).isNone then (match v with
    | .w (.o (.go (.o n))) => if rw.contains n then (if mentions l t then .cells [cellPlan s none (.go (.o n))] else .un) else .keep
    | .w (.o (.gp (.o n) _ (.c 0) 0)) => if rw.contains n then (match s.rows[n]? with
      | some b => .cells [.arr b.ty b.ks]
      | none => .keep) else .keep
    | _ => if v.same v then .keep else .un) else
  match v with
  | .w (.o c) => if plainC c then (match cellPlan s (tyOf P l t) c with
    | .keep => .un
    | p => .cells [p]) else .un
  | .w (.a cs) => if cs.all plainC then .cells (cs.map (cellPlan s none)) else .un
  | _ => .un

def autoFr (P : Program) (l : List Oper) (s : St) (rw : List Nat) : Nat → List SV → List Sk
  | _, [] => []
  | t, v :: vs => slotPlan P l s rw t v :: autoFr P l s rw (t + 1) vs

def autoMem (s : St) (rw ws : List Nat) : Nat → List Blk → List (List Ck)
  | _, [] => []
  | n, b :: bs => (if ws.contains n then b.cells.map (cellPlan s none) else b.cells.map fun c => match c with
    | .go (.o m) => if rw.contains m then cellPlan s none c else Ck.keep
    | _ => Ck.keep) :: autoMem s rw ws (n + 1) bs

def autoPlan (P : Program) (s : St) (body : Code) : Plan :=
  let l := codeOps body
  let rw := rowsWritten l s l
  ⟨autoFr P l s rw 0 s.fr, autoMem s rw (written l s l) 0 s.mem⟩

def openAt (P : Program) (ks : List (Nat × Nat)) : St → Code → Option Plan := fun s body =>
  if ks.contains (loopKey body) then some (autoPlan P s body) else none

end Go.Sx
