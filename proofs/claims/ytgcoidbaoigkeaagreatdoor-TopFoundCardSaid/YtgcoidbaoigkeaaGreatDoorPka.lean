/-
  Symbolic execution of the model, and what functions of the program come to: part 1.
-/
import Derived.WalkKit
import Derived.Still
import Derived.LoopN
import Derived.LoopNIn
import Derived.TacticsIn
import Derived.OrdersIn
import Derived.RangeFuncCalls
import Derived.RangeFuncNested
import Derived.RangeFuncLeaves
import Derived.DeepKeys
set_option linter.unusedVariables false
set_option linter.unusedSimpArgs false
open List renaming getElem?_cons_zero → Z1ke, getElem?_cons_succ → Z1kf, getD_cons_zero → Z1kg, getD_cons_succ → Z1kh, cons_append → Z1ki, nil_append → Z1kj, map_cons → Z1kk, map_nil → Z1kl
namespace Go.Sx
theorem Z1km {a : Prop} : ¬¬a ↔ a := Classical.not_not
theorem Z1kn : (¬True) = False := not_true_eq_false
theorem Z1ko : (¬False) = True := not_false_eq_true
theorem Z1kp {a b : Int} : ¬a < b ↔ b ≤ a := Int.not_lt
theorem Z1kq {a b : Int} : ¬a ≤ b ↔ b < a := Int.not_le
theorem Z1kr (a b : Bool) : ((a && b) = true) = (a = true ∧ b = true) := Bool.and_eq_true a b
theorem Z1ks {p : Prop} [Decidable p] : (decide p = true) = p := decide_eq_true_eq
end Go.Sx
namespace Go.Sx
def zig (n:Int):Nat:=match n with
 | .ofNat m=>2 * m
 | .negSucc m=>2 * m + 1
def pr (a b:Nat):Nat:=2 ^ a * (2 * b + 1)
def codN:List Int→Nat
 | []=>0
 | x::l=>pr (zig x) (codN l)
def cod (l:List Int):Int:=codN l
noncomputable def dec (n:Int):List Int:=@dite _ (∃ l,cod l=n) (Classical.propDecidable _) (fun h=>Classical.choose h) (fun _=>[])
inductive L2 where
 | cons | snoc | app | take | drop | at | rep
deriving DecidableEq
noncomputable def L2.den:L2→Int→Int→Int
 | .cons,x,l=>cod (x::dec l)
 | .snoc,l,x=>cod (dec l++[x])
 | .app,a,b=>cod (dec a++dec b)
 | .take,l,n=>cod ((dec l).take n.toNat)
 | .drop,l,n=>cod ((dec l).drop n.toNat)
 | .at,l,i=>(dec l).getD i.toNat 0
 | .rep,n,x=>cod (List.replicate n.toNat x)
inductive E where
 | c (n:Int)
 | v (i:Nat)
 | add (k:IntKind) (a b:E)
 | sub (k:IntKind) (a b:E)
 | mul (k:IntKind) (a b:E)
 | quo (k:IntKind) (a b:E)
 | rem (a b:E)
 | mn (a b:E)
 | mx (a b:E)
 | cv (k:IntKind) (a:E)
 | nl
 | ln (a:E)
 | l2 (o:L2) (a b:E)
 | l3 (a b c:E)
inductive B where
 | c (b:Bool)
 | lt (a b:E)
 | le (a b:E)
 | eq (a b:E)
 | nz (a:E)
 | not (a:B)
 | and (a b:B)
 | beq (a b:B)
abbrev Fo:=List Value
structure Env where
 r:List Int
 β:List Nat
 σ:List Value
 ω:List Value
 R:Fo
noncomputable def E.den (R:Fo) (r:List Int):E→Int
 | .c n=>n
 | .v i=>r.getD i 0
 | .add k a b=>k.wrap (a.den R r + b.den R r)
 | .sub k a b=>k.wrap (a.den R r - b.den R r)
 | .mul k a b=>k.wrap (a.den R r * b.den R r)
 | .quo k a b=>k.wrap ((a.den R r).tdiv (b.den R r))
 | .rem a b=>(a.den R r).tmod (b.den R r)
 | .mn a b=>if b.den R r < a.den R r then b.den R r else a.den R r
 | .mx a b=>if b.den R r > a.den R r then b.den R r else a.den R r
 | .cv k a=>k.wrap (a.den R r)
 | .nl=>cod []
 | .ln a=>((dec (a.den R r)).length:Int)
 | .l2 o a b=>o.den (a.den R r) (b.den R r)
 | .l3 a b x=>cod ((dec (a.den R r)).set (b.den R r).toNat (x.den R r))
noncomputable def B.den (R:Fo) (r:List Int):B→Bool
 | .c b=>b
 | .lt a b=>decide (a.den R r < b.den R r)
 | .le a b=>decide (a.den R r≤b.den R r)
 | .eq a b=>a.den R r == b.den R r
 | .nz a=>a.den R r != 0
 | .not a=>!(a.den R r)
 | .and a b=>a.den R r && b.den R r
 | .beq a b=>a.den R r == b.den R r
def E.sc (n:Nat):E→Bool
 | .c _=>true
 | .v i=>decide (i < n)
 | .add _ a b=>a.sc n && b.sc n
 | .sub _ a b=>a.sc n && b.sc n
 | .mul _ a b=>a.sc n && b.sc n
 | .quo _ a b=>a.sc n && b.sc n
 | .rem a b=>a.sc n && b.sc n
 | .mn a b=>a.sc n && b.sc n
 | .mx a b=>a.sc n && b.sc n
 | .cv _ a=>a.sc n
 | .nl=>true
 | .ln a=>a.sc n
 | .l2 _ a b=>a.sc n && b.sc n
 | .l3 a b x=>a.sc n && (b.sc n && x.sc n)
def B.sc (n:Nat):B→Bool
 | .c _=>true
 | .lt a b=>a.sc n && b.sc n
 | .le a b=>a.sc n && b.sc n
 | .eq a b=>a.sc n && b.sc n
 | .nz a=>a.sc n
 | .not a=>a.sc n
 | .and a b=>a.sc n && b.sc n
 | .beq a b=>a.sc n && b.sc n
inductive K where
 | i (k:IntKind)
 | b
 | s (ty:TypeId) (ks:List K)
def K.same:K→K→Bool
 | .i x,.i y=>x == y
 | .b,.b=>true
 | _,_=>false
def Z2g:List K→List K→Bool
 | [],[]=>true
 | x::xs,y::ys=>x.same y && Z2g xs ys
 | _,_=>false
def E.same:E→E→Bool
 | .c m,.c n=>m == n
 | .v m,.v n=>m == n
 | .add k a b,.add k' a' b'=>k == k' && (a.same a' && b.same b')
 | .sub k a b,.sub k' a' b'=>k == k' && (a.same a' && b.same b')
 | .mul k a b,.mul k' a' b'=>k == k' && (a.same a' && b.same b')
 | .quo k a b,.quo k' a' b'=>k == k' && (a.same a' && b.same b')
 | .rem a b,.rem a' b'=>a.same a' && b.same b'
 | .mn a b,.mn a' b'=>a.same a' && b.same b'
 | .mx a b,.mx a' b'=>a.same a' && b.same b'
 | .cv k a,.cv k' a'=>k == k' && a.same a'
 | .nl,.nl=>true
 | .ln a,.ln a'=>a.same a'
 | .l2 o a b,.l2 o' a' b'=>o == o' && (a.same a' && b.same b')
 | .l3 a b x,.l3 a' b' x'=>a.same a' && (b.same b' && x.same x')
 | _,_=>false
def Z84:List K→List K→Bool
 | [],[]=>true
 | .i x::xs,.i y::ys=>x == y && Z84 xs ys
 | .b::xs,.b::ys=>Z84 xs ys
 | .s t a::xs,.s u b::ys=>(t == u && Z2g a b) && Z84 xs ys
 | _,_=>false
noncomputable def hdV (n:Int):Value:=match dec n with
 | [b,off,len,cap,_]=>if 0≤b then .slice (some ⟨b.toNat,off.toNat,none⟩) len.toNat cap.toNat else .slice none 0 0
 | [b,off,_,_,_,sp]=>.slice (some ⟨b.toNat,off.toNat,some sp.toNat⟩) 0 0
 | _=>.slice none 0 0
noncomputable def ctN (n:Int):Int:=(dec n).getD 4 0
inductive G where
 | a (i:Nat)
 | o (n:Nat)
 | e (g:G) (ix:E) (j:Nat) (x:E)
def G.same:G→G→Bool
 | .a i,.a i'=>i == i'
 | .o n,.o n'=>n == n'
 | .e g ix j x,.e g' ix' j' x'=>(g.same g' && ix.same ix') && (j == j' && x.same x')
 | _,_=>false
def G.own:G→Bool
 | .o _=>true
 | _=>false
inductive SC where
 | i (k:IntKind) (e:E)
 | b (x:B)
 | p (n off:Nat)
 | s (n off len cap:Nat)
 | go (g:G)
 | gv (g:G) (size:Nat) (lo hi:E)
 | gp (g:G) (size:Nat) (ix:E) (j:Nat)
 | gz (g:G)
 | f (fn:FuncId) (caps:List (Nat × Nat))
 | l (v:Value)
def Z33 (e:Env) (n off:Nat):Value:=.pointer (some ⟨e.β.getD n 0,off,none⟩)
def slV (v:Value):Value:=match v with
 | .slice a l c=>.slice a l c
 | _=>.slice none 0 0
def Z8i (size:Nat) (v:Value) (lo hi:Nat):Value:=match v with
 | .slice a _ cap=>.slice (if cap=lo then a else a.map (·.add (lo * size))) (hi - lo) (cap - lo)
 | _=>.slice none 0 0
def atV (size:Nat) (v:Value) (ix j:Nat):Option Addr:=match v with
 | .slice (some a) _ _=>some (a.add (ix * size + j))
 | _=>none
def Z12c (v:Value):Value:=match v with
 | .slice a _ _=>.slice a 0 0
 | _=>.slice none 0 0
noncomputable def G.val (e:Env):G→Value
 | .a i=>slV (e.R.getD i undef)
 | .o n=>slV (e.σ.getD n undef)
 | .e _ _ _ x=>hdV (x.den e.R e.r)
noncomputable def SC.den (e:Env):SC→Value
 | .i k x=>.int k (x.den e.R e.r)
 | .b x=>.bool (x.den e.R e.r)
 | .p n off=>Z33 e n off
 | .s n off len cap=>.slice (some ⟨e.β.getD n 0,off,none⟩) len cap
 | .go g=>g.val e
 | .gv g size lo hi=>Z8i size (g.val e) (lo.den e.R e.r).toNat (hi.den e.R e.r).toNat
 | .gp g size ix j=>.pointer (atV size (g.val e) (ix.den e.R e.r).toNat j)
 | .gz g=>Z12c (g.val e)
 | .f fn caps=>.func (.func fn) #[] (caps.map fun c=>Z33 e c.1 c.2).toArray
 | .l v=>v
inductive SW where
 | o (c:SC)
 | a (cs:List SC)
def SW.cells:SW→List SC
 | .o c=>[c]
 | .a cs=>cs
noncomputable def SW.den (e:Env):SW→Value
 | .o c=>c.den e
 | .a cs=>.agg (cs.map (SC.den e)).toArray
inductive SV where
 | w (x:SW)
 | t (xs:List SW)
 | un (i:Nat)
noncomputable def SV.den (e:Env):SV→Value
 | .w x=>x.den e
 | .t xs=>.tuple (xs.map (SW.den e)).toArray
 | .un i=>e.ω.getD i undef
def G.sc (nv ng:Nat):G→Bool
 | .a _=>true
 | .o n=>decide (n < ng)
 | .e _ _ _ x=>x.sc nv
def G.scp (ng:Nat):G→Bool
 | .o n=>decide (n < ng)
 | _=>true
def SC.sc (nv nb ng:Nat):SC→Bool
 | .i _ x=>x.sc nv
 | .b x=>x.sc nv
 | .p n _=>decide (n < nb)
 | .s n _ _ _=>decide (n < nb)
 | .go g=>g.sc nv ng
 | .gv g _ lo hi=>g.sc nv ng && (lo.sc nv && hi.sc nv)
 | .gp g _ ix _=>g.sc nv ng && ix.sc nv
 | .gz g=>g.sc nv ng
 | .f _ caps=>caps.all fun c=>decide (c.1 < nb)
 | .l _=>true
def SW.sc (nv nb ng:Nat):SW→Bool
 | .o c=>c.sc nv nb ng
 | .a cs=>cs.all (SC.sc nv nb ng)
def SV.sc (nv nb ng nx:Nat):SV→Bool
 | .w x=>x.sc nv nb ng
 | .t xs=>xs.all (SW.sc nv nb ng)
 | .un i=>decide (i < nx)
def SC.scp (nb ng:Nat):SC→Bool
 | .p n _=>decide (n < nb)
 | .s n _ _ _=>decide (n < nb)
 | .go g=>g.scp ng
 | .gv g _ _ _=>g.scp ng
 | .gp g _ _ _=>g.scp ng
 | .gz g=>g.scp ng
 | .f _ caps=>caps.all fun c=>decide (c.1 < nb)
 | _=>true
def SW.scp (nb ng:Nat):SW→Bool
 | .o c=>c.scp nb ng
 | .a cs=>cs.all (SC.scp nb ng)
def SV.scp (nb ng:Nat):SV→Bool
 | .w x=>x.scp nb ng
 | .t xs=>xs.all (SW.scp nb ng)
 | .un _=>true
structure Blk where
 ty:TypeId
 cells:List SC
 live:Bool
structure Row where
 ty:TypeId
 ks:List K
 c:E
 live:Bool
structure St where
 fr:List SV
 mem:List Blk
 rows:List Row
 nv:Nat
 nx:Nat
 fl:Nat
 flr:Nat
 gl:List (Nat × List Int):=[]
 hs:List (List K × E):=[]
 dp:Nat:=0
def Z6:SV:=.t []
def St.scp (s:St):Bool :=
 s.fr.all (SV.scp s.mem.length s.rows.length) && s.mem.all (fun b=>b.cells.all (SC.scp s.mem.length s.rows.length))
def St.sc (s:St):Bool :=
 (s.fr.all (SV.sc s.nv s.mem.length s.rows.length s.nx) && s.mem.all (fun b=>b.cells.all (SC.sc s.nv s.mem.length s.rows.length))) && (s.rows.all (fun b=>b.c.sc s.nv) && s.hs.all (fun h=>h.2.sc s.nv))
def SC.ofV:Value→SC
 | .bool bb=>.b (.c bb)
 | .int k n=>.i k (.c n)
 | v=>.l v
def SW.ofV:Value→SW
 | .agg cs=>.a (cs.toList.map SC.ofV)
 | v=>.o (SC.ofV v)
def SC.one:SC→Bool
 | .l v=>v.oneCell'
 | _=>true
def St.ev (s:St):Operand→SV
 | .tmp t=>s.fr.getD t Z6
 | .const v=>.w (SW.ofV v)
 | .global g=>.w (.o (.l (.pointer (some ⟨g,0,none⟩))))
 | .func f=>.w (.o (.f f []))
def St.put (s:St) (dst:Option Tmp) (v:SV):St :=
 match dst with
 | some d=>{ s with fr:=s.fr.set d v }
 | none=>s
def Z1gi (n:Int):Bool:=decide (-4611686018427387904≤n) && decide (n≤4611686018427387904)
def Z1gj (k:IntKind) (n:Int) (e:E):E:=if k == .i64 && Z1gi n then .c n else e
def Z1a7 (k:IntKind) (a b:E):E:=match a,b with
 | .c m,.c n=>Z1gj k (m + n) (.add k a b)
 | _,_=>.add k a b
def Zs1 (k:IntKind) (a b:E):E:=match a,b with
 | .c m,.c n=>Z1gj k (m - n) (.sub k a b)
 | _,_=>.sub k a b
def Z1gk (k:IntKind) (a b:E):E:=match a,b with
 | .c m,.c n=>Z1gj k (m * n) (.mul k a b)
 | _,_=>.mul k a b
def Z1gl (k:IntKind) (a b:E):E:=match a,b with
 | .c m,.c n=>Z1gj k (m.tdiv n) (.quo k a b)
 | _,_=>.quo k a b
def Z1gm (a b:E):E:=match a,b with
 | .c m,.c n=>.c (m.tmod n)
 | _,_=>.rem a b
def mkMn (a b:E):E:=match a,b with
 | .c m,.c n=>.c (if n < m then n else m)
 | _,_=>.mn a b
def mkMx (a b:E):E:=match a,b with
 | .c m,.c n=>.c (if n > m then n else m)
 | _,_=>.mx a b
def mkCv (k:IntKind) (a:E):E:=match a with
 | .c m=>Z1gj k m (.cv k a)
 | _=>.cv k a
def Z7v:E→Option (List E)
 | .nl=>some []
 | .l2 .cons x l=>(Z7v l).map (x::·)
 | .l2 .snoc l x=>(Z7v l).map (·++[x])
 | _=>none
def Zrw (a:E):E:=match Z7v a with
 | some l=>.c (l.length:Int)
 | none=>.ln a
def Z1f4 (a i:E):E:=match Z7v a,i with
 | some l,.c n=>if 0≤n then l.getD n.toNat (.l2 .at a i) else .l2 .at a i
 | _,i=>.l2 .at a i
def Z8j:List E→E
 | []=>.nl
 | x::l=>.l2 .cons x (Z8j l)
def Zz0 (a i x:E):E:=match Z7v a,i with
 | some l,.c n=>if 0≤n then Z8j (l.set n.toNat x) else .l3 a i x
 | _,i=>.l3 a i x
def Zbm (a n:E):E:=match Z7v a,n with
 | some l,.c n=>Z8j (l.take n.toNat)
 | _,n=>.l2 .take a n
def Zod (a n:E):E:=match Z7v a,n with
 | some l,.c n=>Z8j (l.drop n.toNat)
 | _,.c 0=>a
 | _,n=>.l2 .drop a n
def Zs2 (a b:E):E:=match Z7v b with
 | some l=>l.foldl (fun a x=>.l2 .snoc a x) a
 | none=>(match a with
  | .nl=>b
  | a=>.l2 .app a b)
def Zdg (n x:E):E:=match n with
 | .c m=>if m≤64 then Z8j (List.replicate m.toNat x) else .l2 .rep n x
 | n=>.l2 .rep n x
def comp (size:Nat) (e:E) (j:Nat):E:=if size=1 then e else Z1f4 e (.c (j:Int))
def Z3c (es:List E):E:=match es with
 | [x]=>x
 | es=>Z8j es
def mkNz (e:E):B:=match e with
 | .c n=>.c (n != 0)
 | e=>.nz e
def Z39 (mk:Nat→SC):Nat→List K→List E→List SC
 | i,.i k::ks,e::es=>.i k e::Z39 mk i ks es
 | i,.b::ks,e::es=>.b (mkNz e)::Z39 mk i ks es
 | i,.s _ _::ks,_::es=>mk i::Z39 mk (i + 1) ks es
 | _,_,_=>[]
def Zev (g:G) (ix:E):Nat→List K→List E→List SC
 | i,.i k::ks,e::es=>.i k e::Zev g ix (i + 1) ks es
 | i,.b::ks,e::es=>.b (mkNz e)::Zev g ix (i + 1) ks es
 | i,.s _ _::ks,e::es=>.go (.e g ix i e)::Zev g ix (i + 1) ks es
 | _,_,_=>[]
def Zdh (g:G) (ks:List K) (c ix:E):List SC:=Zev g ix 0 ks ((List.range ks.length).map fun j=>comp ks.length (Z1f4 c ix) j)
def Z3e:List K→List SC→Option (List E)
 | [],[]=>some []
 | .i k::ks,.i k' e::cs=>if k=k' then (Z3e ks cs).map (e::·) else none
 | .b::ks,.b (.c x)::cs=>(Z3e ks cs).map ((.c (if x then 1 else 0))::·)
 | .b::ks,.b (.nz e)::cs=>(Z3e ks cs).map (e::·)
 | _,_=>none
def Zjw (a b:E):E:=match a,b with
 | .c 0,b=>b
 | a,.c 0=>a
 | a,b=>Z1a7 .i64 a b
def Z3p (a b:E):E:=match b with
 | .c 0=>a
 | b=>Zs1 .i64 a b
def Z3o (s:St):G→Option (List K × E)
 | .a i=>s.hs[i]?
 | .o n=>match s.rows[n]? with
  | some b=>if b.live then some (b.ks,b.c) else none
  | none=>none
 | .e g ix j x=>if g.own then none else match Z3o s g with
  | some (ks,c)=>if x.same (comp ks.length (Z1f4 c ix) j) then (match ks[j]? with
   | some (.s _ kr)=>some (kr,Z1f4 x (.c 4))
   | _=>none) else none
  | none=>none
def Z128 (a b:E):B:=match a,b with
 | .c m,.c n=>.c (decide (m < n))
 | _,_=>.lt a b
def Z8f (a b:E):B:=match a,b with
 | .c m,.c n=>.c (decide (m≤n))
 | _,_=>.le a b
def Z1f5 (a b:E):B:=match a,b with
 | .c m,.c n=>.c (m == n)
 | _,_=>.eq a b
def Z5q (a:B):B:=match a with
 | .c b=>.c (!b)
 | .not a=>a
 | _=>.not a
def Zai (a b:B):B:=match a,b with
 | .c true,y=>y
 | .c false,_=>.c false
 | x,.c true=>x
 | x,y=>.and x y
def Z12d (a b:B):B:=match a,b with
 | .c true,y=>y
 | .c false,y=>Z5q y
 | x,.c true=>x
 | x,.c false=>Z5q x
 | x,y=>.beq x y
def Z85 (P:Program) (t:TypeId):Bool:=match P.underlying t with
 | some (.struct _) | some (.array _ _)=>true
 | _=>false
def Z7w (P:Program) (t:TypeId):Option (List SC) :=
 ((P.info? t).bind (·.zero)).map fun v=>v.cells.toList.map SC.ofV
def Z6a (P:Program) (t:TypeId) (cs:List SC) (off:Nat):Option SW :=
 if (P.underlying t).isNone then none else
 if Z85 P t then some (.a ((cs.drop off).take (P.cellsOf t)))
 else (cs[off]?).map .o
def Zz1 (P:Program) (t:TypeId) (cs:List SC) (off:Nat):Option SW :=
 if (P.underlying t).isNone then none else
 if Z85 P t then (if off + P.cellsOf t≤cs.length then some (.a ((cs.drop off).take (P.cellsOf t))) else none)
 else (cs[off]?).map .o
def eqB (P:Program):Nat→TypeId→List SC→List SC→Option B
 | 0,_,_,_=>none
 | d + 1,t,xs,ys =>
  match P.underlying t with
  | some .bool=>match xs,ys with
   | [.b a],[.b b]=>some (Z12d a b)
   | _,_=>none
  | some (.int _)=>match xs,ys with
   | [.i k a],[.i k' b]=>if k=k' then some (Z1f5 a b) else none
   | _,_=>none
  | some (.struct fields) =>
   if P.stoodInHeld t then none else
   fields.toList.foldr (fun f acc=>match acc with
    | none=>none
    | some y=>if f.name = "_" then some y else
     match Z6a P f.type xs f.offset,Z6a P f.type ys f.offset with
     | some u,some v=>match eqB P d f.type u.cells v.cells with
      | some b=>some (Zai b y)
      | none=>none
     | _,_=>none) (some (.c true))
  | some (.array len elem) =>
   if (P.info? elem).isNone then none else
   (List.range len).foldr (fun i acc=>match acc with
    | none=>none
    | some y =>
     match Z6a P elem xs (i * P.cellsOf elem),Z6a P elem ys (i * P.cellsOf elem) with
     | some u,some v=>match eqB P d elem u.cells v.cells with
      | some b=>some (Zai b y)
      | none=>none
     | _,_=>none) (some (.c true))
  | _=>none
def Z86 (cs:List SC) (off:Nat) (new:List SC):List SC:=cs.take off++new++cs.drop (off + new.length)
def Zs3 (place:Nat→Option (Nat × Nat)) (cells:List SC):List (Nat × SW)→Option (List SC)
 | []=>some cells
 | (i,v)::rest =>
  match place i with
  | none=>none
  | some (off,size) =>
   if v.cells.length ≠ size || off + v.cells.length > cells.length || !(v.cells.all SC.one) then none
   else Zs3 place (Z86 cells off v.cells) rest
def Zk8 (s:St):List (Nat × Operand)→Option (List (Nat × SW))
 | []=>some []
 | (i,x)::rest=>match s.ev x,Zk8 s rest with
  | .w y,some l=>some ((i,y)::l)
  | _,_=>none
def Z12e (P:Program) (t:TypeId) (parts:List (Nat × SW)):Option (List SC) :=
 match Z7w P t with
 | none=>none
 | some zero=>match P.underlying t with
  | some (.struct fields)=>if !(fields.toList.all fun f=>(P.info? f.type).isSome) then none else Zs3 (fun i=>(fields[i]?).map fun f=>(f.offset,P.cellsOf f.type)) zero parts
  | some (.array _ elem)=>if (P.info? elem).isNone then none else Zs3 (fun i=>some (i * P.cellsOf elem,P.cellsOf elem)) zero parts
  | _=>none
def Z1gn (zero:List SC):Nat→List SC
 | 0=>[]
 | n + 1=>zero++Z1gn zero n
def St.new (s:St) (t:TypeId) (cells:List SC):Option St :=
 if s.scp && cells.all (SC.scp s.mem.length s.rows.length) then some { s with mem:=s.mem++[⟨t,cells,true⟩] } else none
def one (c:SC):SV:=.w (.o c)
def Zoe (b:E):List B:=match b with
 | .c n=>if n=0 then [.c false] else []
 | _=>[.not (.eq b (.c 0))]
def Zva (op:BinOp) (k:IntKind) (a b:E):Option (List B × SC) :=
 match op with
 | .add=>some ([],.i k (Z1a7 k a b))
 | .sub=>some ([],.i k (Zs1 k a b))
 | .mul=>some ([],.i k (Z1gk k a b))
 | .quo=>some (Zoe b,.i k (Z1gl k a b))
 | .rem=>some (Zoe b,.i k (Z1gm a b))
 | .eql=>some ([],.b (Z1f5 a b))
 | .neq=>some ([],.b (Z5q (Z1f5 a b)))
 | .lss=>some ([],.b (Z128 a b))
 | .leq=>some ([],.b (Z8f a b))
 | .gtr=>some ([],.b (Z128 b a))
 | .geq=>some ([],.b (Z8f b a))
 | _=>none
def binS (P:Program) (op:BinOp) (t:TypeId) (x y:SV):Option (List B × SC) :=
 match x,y with
 | .w (.o (.i k a)),.w (.o (.i k' b))=>if k=k' then Zva op k a b else none
 | .w (.o (.b a)),.w (.o (.b b))=>match P.underlying t,op with
  | some .bool,.eql=>some ([],.b (Z12d a b))
  | some .bool,.neq=>some ([],.b (Z5q (Z12d a b)))
  | _,_=>none
 | .w (.a xs),.w (.a ys) =>
  if P.eqGuardType P.depth t || !Z85 P t then none else
  match op with
  | .eql=>(eqB P 12 t xs ys).map fun b=>([],.b b)
  | .neq=>(eqB P 12 t xs ys).map fun b=>([],.b (Z5q b))
  | _=>none
 | _,_=>none
def Z73:SV→Option Nat
 | .w (.o (.i _ (.c n)))=>if 0≤n then some n.toNat else none
 | _=>none
def Zao (s:St) (x:Option Operand) (dflt:Nat):Option Nat :=
 match x with
 | none=>some dflt
 | some o=>Z73 (s.ev o)
def Z12f (s:St):List Operand→Option (List (Nat × Nat))
 | []=>some []
 | x::rest=>match s.ev x,Z12f s rest with
  | .w (.o (.p n off)),some l=>some ((n,off)::l)
  | _,_=>none
def inB (c ix:E):List B:=[Z8f (.c 0) ix,Z128 ix (Zrw c)]
def vB (c lo hi:E):List B:=[Z8f (.c 0) lo,Z8f lo hi,Z8f hi (Zrw c)]
def Z1a0:SV→Option E
 | .w (.o (.i _ e))=>some e
 | _=>none
def Z1go (s:St) (x:Option Operand) (dflt:E):Option E :=
 match x with
 | none=>some dflt
 | some o=>Z1a0 (s.ev o)
def Z1gp (gl:List (Nat × List Int)) (g:Nat):Option (List SC):=(gl.find? (fun p=>p.1 == g)).map fun p=>p.2.map fun n=>.i .i64 (.c n)
def isBig (s:St) (t:TypeId):G→Bool
 | .o n=>(match s.rows[n]? with
  | some b=>b.ty == t
  | none=>false)
 | _=>false
def op1 (P:Program) (s:St) (o:Oper):Option (List B × SV × St) :=
 match o.op with
 | .move x | .assign x=>some ([],s.ev x,s)
 | .pick c a b=>match s.ev c with
  | .w (.o (.b (.c true)))=>some ([],s.ev a,s)
  | .w (.o (.b (.c false)))=>some ([],s.ev b,s)
  | _=>none
 | .alloc t=>match Z7w P t with
  | some z=>(s.new t z).map fun s'=>([],one (.p s.mem.length 0),s')
  | none=>none
 | .box t x=>match s.ev x with
  | .w y=>if (y.cells).all SC.one then (s.new t y.cells).map fun s'=>([],one (.p s.mem.length 0),s') else none
  | _=>none
 | .build t parts=>match Zk8 s parts.toList with
  | some l=>if l.all (fun p=>p.2.scp s.mem.length s.rows.length) then (Z12e P t l).map fun cs=>([],.w (.a cs),s) else none
  | none=>none
 | .buildSlice t len parts=>match P.underlying t,Zk8 s parts.toList with
  | some (.slice elem),some l=>match Z7w P elem with
   | some z =>
    if z.length=P.cellsOf elem && z.length ≠ 0 && len * z.length≤16777216 && l.all (fun p=>p.2.scp s.mem.length s.rows.length) then
     match Zs3 (fun i=>some (i * z.length,z.length)) (Z1gn z len) l with
     | some cs=>(s.new elem cs).map fun s'=>([],one (.s s.mem.length 0 len len),s')
     | none=>none
    else none
   | none=>none
  | _,_=>none
 | .makeSlice t l c=>match P.underlying t,Z73 (s.ev l),Z73 (s.ev c) with
  | some (.slice elem),some m,some m'=>match P.info? elem,Z7w P elem with
   | some inf,some z=>if decide (m=m') && decide (m≤64) && decide (inf.bytes≤100000000) && decide (z.length=inf.size) then
     (s.new elem (Z1gn z m)).map fun s'=>([],one (.s s.mem.length 0 m m),s') else none
   | _,_=>none
  | _,_,_=>none
 | .load t a=>match s.ev a with
  | .w (.o (.p n off))=>match s.mem[n]? with
   | some b=>if b.live then (Zz1 P t b.cells off).map fun y=>([],.w y,s) else none
   | none=>none
  | .w (.o (.gp g size ix j))=>match Z3o s g with
   | some (ks,c)=>if size=ks.length then (Zz1 P t (Zdh g ks c ix) j).map fun y=>(inB c ix,.w y,s) else none
   | none=>none
  | .w (.o (.l (.pointer (some ⟨g,off,none⟩))))=>match Z1gp s.gl g with
   | some cs=>(Zz1 P t cs off).map fun y=>([],.w y,s)
   | none=>none
  | _=>none
 | .store t a x=>match s.ev a,s.ev x with
  | .w (.o (.p n off)),.w y=>match s.mem[n]? with
   | some b =>
    let vc:=y.cells
    if b.live && (P.info? t).isSome && decide (s.fl≤n) && decide (vc.length=P.cellsOf t) && decide (off + vc.length≤b.cells.length) && vc.all SC.one && y.scp s.mem.length s.rows.length then
     some ([],Z6,{ s with mem:=s.mem.set n { b with cells:=Z86 b.cells off vc } })
    else none
   | none=>none
  | .w (.o (.gp (.o n) size ix j)),.w y=>match s.rows[n]? with
   | some b =>
    let vc:=y.cells
    if b.live && (P.info? t).isSome && decide (s.flr≤n) && decide (size=b.ks.length) && decide (vc.length=P.cellsOf t) && decide (j + vc.length≤b.ks.length) then
     (match Z3e b.ks (Z86 (Zdh (.o n) b.ks b.c ix) j vc) with
     | some es=>some (inB b.c ix,Z6,{ s with rows:=s.rows.set n { b with c:=Zz0 b.c ix (Z3c es) } })
     | none=>none)
    else none
   | none=>none
  | _,_=>none
 | .nilCheck x=>match s.ev x with
  | .w (.o (.p n off))=>some ([],one (.p n off),s)
  | .w (.o (.gp g size ix j))=>match Z3o s g with
   | some (_,c)=>some (inB c ix,one (.gp g size ix j),s)
   | none=>none
  | .w (.o (.f n off))=>some ([],one (.f n off),s)
  | _=>none
 | .binOp op t x y _=>(binS P op t (s.ev x) (s.ev y)).map fun r=>(r.1,one r.2,s)
 | .unOp op _ x=>match op,s.ev x with
  | .neg,.w (.o (.i k a))=>some ([],one (.i k (Zs1 k (.c 0) a)),s)
  | .not,.w (.o (.b a))=>some ([],one (.b (Z5q a)),s)
  | _,_=>none
 | .convert src dst x=>match P.underlying src,P.underlying dst,s.ev x with
  | some _,some (.int k),.w (.o (.i _ a))=>some ([],one (.i k (mkCv k a)),s)
  | _,_,_=>none
 | .fieldAddr t x f=>match P.underlying t with
  | some (.struct fields)=>match fields[f]? with
   | some fd=>if P.cellsOf fd.type=0 || (P.info? fd.type).isNone then none else
    match s.ev x with
    | .w (.o (.p n off))=>some ([],one (.p n (off + fd.offset)),s)
    | .w (.o (.gp g size ix j))=>match Z3o s g with
     | some (_,c)=>some (inB c ix,one (.gp g size ix (j + fd.offset)),s)
     | none=>none
    | _=>none
   | none=>none
  | _=>none
 | .field t x f=>match P.underlying t,s.ev x with
  | some (.struct fields),.w (.a cs)=>match fields[f]? with
   | some fd=>(Z6a P fd.type cs fd.offset).map fun y=>([],.w y,s)
   | none=>none
  | _,_=>none
 | .indexAddr t x ix=>match P.underlying t,s.ev x with
  | some (.array len elem),.w (.o (.p n off))=>match Z73 (s.ev ix) with
   | some i=>if i < len && (P.info? elem).isSome then some ([],one (.p n (off + i * P.cellsOf elem)),s) else none
   | none=>none
  | some (.array len elem),.w (.o (.gp g size gx j))=>if isBig s t g && (decide (size=P.cellsOf elem) && (decide (64 < len) && (decide (j=0) && gx.same (.c 0)))) then (match Z1a0 (s.ev ix),Z3o s g with
   | some e,some (_,c)=>if (P.info? elem).isSome then some (inB c e++[Z128 e (.c len)],one (.gp g size e 0),s) else none
   | _,_=>none) else match Z73 (s.ev ix),Z3o s g with
   | some i,some (_,c)=>if i < len && (P.info? elem).isSome then some (inB c gx,one (.gp g size gx (j + i * P.cellsOf elem)),s) else none
   | _,_=>none
  | some (.slice elem),.w (.o (.s n off len _))=>match Z73 (s.ev ix) with
   | some i=>if i < len && (P.info? elem).isSome then some ([],one (.p n (off + i * P.cellsOf elem)),s) else none
   | none=>none
  | some (.slice elem),.w (.o (.go g))=>match Z1a0 (s.ev ix),Z3o s g with
   | some e,some (_,c)=>if (P.info? elem).isSome then some (inB c e,one (.gp g (P.cellsOf elem) e 0),s) else none
   | _,_=>none
  | some (.slice elem),.w (.o (.gv g size lo hi))=>match Z1a0 (s.ev ix),Z3o s g with
   | some e,some (_,c)=>if (P.info? elem).isSome && decide (size=P.cellsOf elem) then
     some (vB c lo hi++[Z8f (.c 0) e,Z128 e (Z3p hi lo)],one (.gp g size (Zjw lo e) 0),s) else none
   | _,_=>none
  | _,_=>none
 | .index t x ix=>match P.underlying t,s.ev x,Z73 (s.ev ix) with
  | some (.array len elem),.w (.a cs),some i=>if i < len && (P.info? elem).isSome then (Z6a P elem cs (i * P.cellsOf elem)).map fun y=>([],.w y,s) else none
  | _,_,_=>none
 | .slice t x lo hi mx=>if mx.isSome then (match P.underlying t,s.ev x,Zao s lo 0,Zao s hi 1,Zao s mx 1 with
   | some (.slice elem),.w (.o (.go g)),some 0,some 0,some 0=>if (Z3o s g).isSome && (P.info? elem).isSome then some ([],one (.gz g),s) else none
   | _,_,_,_,_=>none) else
  match P.underlying t,s.ev x with
  | some (.slice elem),.w (.o (.go g))=>(match Z3o s g with
   | some (_,c)=>(match Z1go s lo (.c 0),Z1go s hi (Zrw c) with
    | some l,some h=>if (P.info? elem).isSome then some (vB c l h,one (.gv g (P.cellsOf elem) l h),s) else none
    | _,_=>none)
   | none=>none)
  | some (.slice elem),.w (.o (.gv g size lo0 hi0))=>(match Z3o s g with
   | some (_,c)=>(match Z1go s lo (.c 0),Z1go s hi (Z3p hi0 lo0) with
    | some (.c 0),some h=>if (P.info? elem).isSome && decide (size=P.cellsOf elem) then
      some (vB c lo0 hi0++[Z8f (.c 0) h,Z8f h (Z3p hi0 lo0)],one (.gv g size lo0 (Zjw lo0 h)),s) else none
    | some l,some h=>if (P.info? elem).isSome && decide (size=P.cellsOf elem) then
      some (vB c lo0 hi0++[Z8f (.c 0) l,Z8f l h,Z8f h (Z3p hi0 lo0),Z128 l (Z3p hi0 lo0)],one (.gv g size (Zjw lo0 l) (Zjw lo0 h)),s) else none
    | _,_=>none)
   | none=>none)
  | some (.array len elem),.w (.o (.p n off))=>match Zao s hi len with
   | some h=>match Zao s lo 0 with
    | some l=>if l≤h && h≤len && (P.info? elem).isSome then
      some ([],one (.s n (if len=l then off else off + l * P.cellsOf elem) (h - l) (len - l)),s) else none
    | none=>none
   | none=>none
  | some (.slice elem),.w (.o (.s n off len cap))=>match Zao s hi len with
   | some h=>match Zao s lo 0 with
    | some l=>if l≤h && h≤cap && (P.info? elem).isSome then
      some ([],one (.s n (if cap=l then off else off + l * P.cellsOf elem) (h - l) (cap - l)),s) else none
    | none=>none
   | none=>none
  | _,_=>none
 | .extract x ix=>match s.ev x with
  | .t xs=>(xs[ix]?).map fun y=>([],.w y,s)
  | _=>none
 | .makeFunc fn first caps=>match fn,first.toList with
  | .func f,[]=>(Z12f s caps.toList).map fun l=>([],one (.f f l),s)
  | _,_=>none
 | .call c=>match c.callee,c.args.toList with
  | .builtin .len,[x]=>match c.argTypes[0]? with
   | some t=>match P.underlying t,s.ev x with
    | some (.array n _),_=>some ([],one (.i .i64 (.c n)),s)
    | some (.slice _),.w (.o (.s _ _ len _))=>some ([],one (.i .i64 (.c len)),s)
    | some (.slice _),.w (.o (.go g))=>match Z3o s g with
     | some (_,c)=>some ([],one (.i .i64 (Zrw c)),s)
     | none=>none
    | some (.slice _),.w (.o (.gv g _ lo hi))=>match Z3o s g with
     | some (_,c)=>some (vB c lo hi,one (.i .i64 (Z3p hi lo)),s)
     | none=>none
    | some (.slice _),.w (.o (.l (.slice Option.none 0 0)))=>some ([],one (.i .i64 (.c 0)),s)
    | _,_=>none
   | none=>none
  | .builtin .min,x::rest=>rest.foldl (fun acc y=>match acc,s.ev y with
    | some (aZ,.w (.o (.i k a)),s'),.w (.o (.i _ b))=>some (aZ,one (.i k (mkMn a b)),s')
    | _,_=>none) (match s.ev x with | .w (.o (.i k a))=>some ([],one (.i k a),s) | _=>none)
  | .builtin .max,x::rest=>rest.foldl (fun acc y=>match acc,s.ev y with
    | some (aZ,.w (.o (.i k a)),s'),.w (.o (.i _ b))=>some (aZ,one (.i k (mkMx a b)),s')
    | _,_=>none) (match s.ev x with | .w (.o (.i k a))=>some ([],one (.i k a),s) | _=>none)
  | _,_=>none
 | _=>none
end Go.Sx
namespace Go.Sx
open Go.RowKit
def Z74 (W:(Exit→Act→World→Prop)→Act→World→Prop) (Q:Exit→Act→World→Prop):Nat→Act→World→Prop
 | 0,_,_=>False
 | n + 1,a,w=>W (Exit.then (Z74 W Q n) Q) a w
def wps (P:Program):Code→(Exit→Act→World→Prop)→Act→World→Prop
 | .skip,Q,a,w=>Q .normal a w
 | .label _,Q,a,w=>Q .normal a w
 | .exit id,Q,a,w=>Q (.exit id) a w
 | .ret,Q,a,w=>Q .ret a w
 | .seq x y,Q,a,w=>wps P x (Exit.then (wps P y Q) Q) a w
 | .cond c x y,Q,a,w=>∃ t,a.eval c=.bool t∧if t=true then wps P x Q a w else wps P y Q a w
 | .block id c,Q,a,w=>wps P c (Exit.inBlock id Q) a w
 | .loop c,Q,a,w=>∃ n,Z74 (wps P c) Q n a w
 | .region _ ops false,Q,a,w=>wpOps P ops Q (List.range ops.size) a w
 | .region _ ops true,Q,a,w=>∀ t,wpOps P ops Q (Region.schedule (P.follows .mixedOrders) ops t) a { w with drawn:=w.drawn + 1 }
 | _,_,_,_=>False
theorem Zew {Q Q':Exit→Act→World→Prop} (h:∀ e a w,Q e a w→Q' e a w):LetsOut Q→LetsOut Q':=fun ⟨a,w,hq⟩=>⟨a,w,h _ _ _ hq⟩
theorem Z12g {P:Program} {o:Oper} {a:Act} {w:World} {K K':Act→World→Prop} {Q Q':Exit→Act→World→Prop} (hK:∀ a w,K a w→K' a w) (hQ:∀ e a w,Q e a w→Q' e a w)
  (hh:o.wp P a w K Q):o.wp P a w K' Q':=by
 unfold Oper.wp at *
 generalize (execOp a.eval o).run P w=r at *
 cases r with
 | ok n w' =>
  cases n <;> simp only [Oper.upon] at hh ⊢ <;>
   first
    | exact hK _ _ hh
    | exact Calls.mono hh (fun e w'' he=>by cases e <;> first | exact hK _ _ he | exact hQ _ _ _ he | exact Zew hQ he)
    | exact Rows.mono hh (fun _ _ he=>hK _ _ he)
 | halt x w'=>cases x <;> simp only [Oper.upon] at hh ⊢ <;> exact hQ _ _ _ hh
theorem Zbn {P:Program} {ops:Array Oper} {Q Q':Exit→Act→World→Prop} (hQ:∀ e a w,Q e a w→Q' e a w):∀ (l:List Nat) (a:Act) (w:World),wpOps P ops Q l a w→wpOps P ops Q' l a w
 | [],a,w,h=>hQ _ _ _ h
 | i::l,a,w,h=>by
  unfold wpOps at h ⊢
  split
  ·rename_i ho
   rw [ho] at h
   exact Zbn hQ l a w h
  ·rename_i o ho
   rw [ho] at h
   dsimp only at h
   split
   ·rename_i hw
    rw [if_pos hw] at h
    rcases h with h | h
    ·exact .inl (Z12g (fun a w h=>Zbn hQ l a w h) hQ h)
    ·exact .inr ⟨h.1,Zew hQ h.2⟩
   ·rename_i hw
    rw [if_neg hw] at h
    exact Zbn hQ l _ w h
theorem Z6b {K K':Act→World→Prop} {Q Q':Exit→Act→World→Prop} (hK:∀ a w,K a w→K' a w) (hQ:∀ e a w,Q e a w→Q' e a w):∀ e a w,Exit.then K Q e a w→Exit.then K' Q' e a w:=by
 intro e a w h
 cases e <;> first | exact hK _ _ h | exact hQ _ _ _ h
theorem Zz2 {id:Nat} {Q Q':Exit→Act→World→Prop} (hQ:∀ e a w,Q e a w→Q' e a w):∀ e a w,Exit.inBlock id Q e a w→Exit.inBlock id Q' e a w:=by
 intro e a w h
 cases e with
 | exit id' =>
  show if id'=id then _ else _
  have h':if id'=id then Q .normal a w else Q (.exit id') a w:=h
  split
  ·rename_i hi; rw [if_pos hi] at h'; exact hQ _ _ _ h'
  ·rename_i hi; rw [if_neg hi] at h'; exact hQ _ _ _ h'
 | _=>exact hQ _ _ _ h
theorem Z4p {P:Program}:∀ (c:Code) {Q Q':Exit→Act→World→Prop} {a:Act} {w:World},wps P c Q a w→(∀ e a w,Q e a w→Q' e a w)→wps P c Q' a w:=by
 intro c
 induction c with
 | seq x y ihx ihy=>intro Q Q' a w h hq; exact ihx h (Z6b (fun a w h=>ihy h hq) hq)
 | cond c x y ihx ihy =>
  intro Q Q' a w h hq
  obtain ⟨t,ht,h⟩:=h
  refine ⟨t,ht,?_⟩
  cases t with
  | true=>exact ihx h hq
  | false=>exact ihy h hq
 | block id c ih=>intro Q Q' a w h hq; exact ih h (Zz2 hq)
 | loop c ih =>
  intro Q Q' a w h hq
  obtain ⟨n,h⟩:=h
  refine ⟨n,?_⟩
  revert a w
  induction n with
  | zero=>intro a w h; exact h
  | succ n ihn=>intro a w h; exact ih h (Z6b (fun a w h=>ihn h) hq)
 | region id ops draw =>
  intro Q Q' a w h hq
  cases draw with
  | false=>exact Zbn hq _ _ _ h
  | true=>exact fun t=>Zbn hq _ _ _ (h t)
 | skip=>intro Q Q' a w h hq; exact hq _ _ _ h
 | label l=>intro Q Q' a w h hq; exact hq _ _ _ h
 | exit id=>intro Q Q' a w h hq; exact hq _ _ _ h
 | ret=>intro Q Q' a w h hq; exact hq _ _ _ h
 | _=>intro Q Q' a w h hq; exact h.elim
theorem Zex {P:Program}:∀ (c:Code) {Q:Exit→Act→World→Prop} {a:Act} {w:World},wps P c Q a w→c.wp P Q a w:=by
 intro c
 induction c with
 | seq x y ihx ihy=>intro Q a w h; exact wp_seq (ihx (Z4p x h (Z6b (fun a w h=>ihy h) (fun _ _ _ h=>h))))
 | cond c x y ihx ihy =>
  intro Q a w h
  obtain ⟨t,ht,h⟩:=h
  cases t with
  | true=>exact wp_cond_true ht (ihx h)
  | false=>exact wp_cond_false ht (ihy h)
 | block id c ih=>intro Q a w h; exact wp_block (ih h)
 | loop c ih =>
  intro Q a w h
  obtain ⟨n,h⟩:=h
  refine wp_loop_rounds n ?_
  revert a w
  induction n with
  | zero=>intro a w h; exact h
  | succ n ihn=>intro a w h; exact ih (Z4p c h (Z6b (fun a w h=>ihn h) (fun _ _ _ h=>h)))
 | region id ops draw =>
  intro Q a w h
  cases draw with
  | false=>exact wp_region h
  | true=>exact wp_region_draw h
 | skip=>intro Q a w h; exact wp_skip h
 | label l=>intro Q a w h; exact wp_label h
 | exit id=>intro Q a w h; exact wp_exit h
 | ret=>intro Q a w h; exact wp_ret h
 | _=>intro Q a w h; exact h.elim
theorem Z8k {W:(Exit→Act→World→Prop)→Act→World→Prop} {Q:Exit→Act→World→Prop} {n:Nat} {a:Act} {w:World}:Z74 W Q (n + 1) a w=W (Exit.then (Z74 W Q n) Q) a w:=rfl
theorem Z1gq {P:Program} {ops:Array Oper} {Q:Exit→Act→World→Prop} {id:Nat} {a:Act} {w:World} (hm:P.follows .mixedOrders=true)
  (h:wpAny P .any ops Q ops.size (Array.replicate ops.size false) a { w with drawn:=w.drawn + 1 }):wps P (.region id ops true) Q a w:=fun t=>by
 simp only [Region.schedule,hm,Bool.true_or,if_true]
 exact wpAny_sound ops.size t _ a _ h
theorem Zlu {P:Program} {ops:Array Oper} {Q:Exit→Act→World→Prop} {id:Nat} {a:Act} {w:World} (h:wpList P ops Q ops.toList a w):wps P (.region id ops false) Q a w:=by
 show wpOps P ops Q (List.range ops.size) a w
 rw [List.range_eq_range',← Array.length_toList,wpOps_eq_wpList ops.toList 0 (by simp)]
 exact h
def Zgr (o:Oper) (i:Nat):Bool:=o.after.any fun e=>Region.binds .any e && e.on == i
def Zs4 (ops:Array Oper) (i:Nat):Bool:=match ops[i]? with
 | some oi=>(oi.guard.isNone && (match oi.op with | .extract _ _=>true | _=>false)) && (Region.noSelect ops && (List.range ops.size).all fun j=>(j == i || Zgr oi j) || match ops[j]? with
  | some oj=>!Zgr oj i && oi.apart ops oj
  | none=>true)
 | none=>false
def Z9j (i:Nat) (o:Oper):Oper:={ o with after:=o.after.push { on:=i,ground:=.data } }
def Z1gr (oi o:Oper):Bool:=oi.after.all fun e=>!Region.binds .any e || Zgr o e.on
def Zjx (ops:Array Oper) (i k:Nat) (o:Oper):Bool:=match ops[i]? with
 | some oi=>decide (i < k) && Z1gr oi o
 | none=>false
def Z87 (ops:Array Oper) (i:Nat):Array Oper:=ops.mapIdx fun k o=>if Zjx ops i k o then Z9j i o else o
def Z12h (ops:Array Oper) (i:Nat):Bool:=match ops[i]? with
 | some oi=>(oi.guard.isNone && (match oi.op with | .move _=>true | .build _ _=>true | _=>false)) && (Region.noSelect ops && (List.range ops.size).all fun j=>(j == i || Zgr oi j) || match ops[j]? with
  | some oj=>Zgr oj i || oi.apart ops oj
  | none=>true)
 | none=>false
def Z12i (ops:Array Oper):List Nat→Array Oper
 | []=>ops
 | i::l=>Z12i (if Z12h ops i then Z87 ops i else ops) l
def isSt (o:Oper):Bool:=match o.op with | .store _ _ _=>true | _=>false
def isApp (o:Oper):Bool:=match o.op with
 | .call c=>match c.callee with | .builtin .append=>true | _=>false
 | _=>false
def nests (ops:Array Oper):Bool:=(ops.toList.any fun o=>match o.op with
 | .makeSlice _ _ _=>true
 | _=>false) && ops.toList.any fun o=>match o.op with
 | .buildSlice _ _ _=>true
 | _=>false
def useM (ops:Array Oper):Bool:=nests ops || (ops.any isApp && ops.any isSt) || decide (2≤(ops.toList.filter isSt).length)
def tidy (ops:Array Oper):Array Oper:=if useM ops then Z12i ops (List.range ops.size) else match (List.range ops.size).find? (Zs4 ops) with
 | some i=>Z87 ops i
 | none=>ops
theorem Z51 {o:Oper} {i:Nat}:Zgr o i=true↔∃ e ∈ o.after,Region.binds .any e=true∧e.on=i:=by
 unfold Zgr
 rw [Array.any_eq_true']
 simp
section
variable {P:Program} {ops:Array Oper} {Q:Exit→Act→World→Prop} {i:Nat}
theorem Zgs (j:Nat):(Z87 ops i)[j]?=(ops[j]?).map fun o=>if Zjx ops i j o then Z9j i o else o:=by
 unfold Z87
 rw [Array.getElem?_mapIdx]
theorem Zlv (t:Array Value):yielded (Z87 ops i) t=yielded ops t:=by
 funext j
 unfold yielded
 rw [Zgs]
 cases ops[j]? with
 | none=>rfl
 | some o =>
  simp only [Option.map_some,Option.bind_some]
  rw [show (if Zjx ops i j o=true then Z9j i o else o).dst=o.dst by split <;> rfl]
theorem Z9k {j:Nat} {K:Act→World→Prop} {a:Act} {w:World} (h:wpOp P (Z87 ops i) Q j K a w):wpOp P ops Q j K a w:=by
 unfold wpOp at *
 rw [Zgs,Zlv] at h
 cases ho:ops[j]? with
 | none=>rw [ho] at h; exact h
 | some o =>
  rw [ho] at h
  simp only [Option.map_some] at h
  split at h
  ·exact h
  ·exact h
theorem Z2l {listed:Array Bool} {j:Nat}:j ∈ Region.ready .any (Z87 ops i) listed↔j ∈ Region.ready .any ops listed∧∀ o,ops[j]?=some o→Zjx ops i j o=true→listed.getD i false=true:=by
 rw [mem_ready,mem_ready,Zgs]
 cases ho:ops[j]? with
 | none=>simp
 | some o =>
  simp only [Option.map_some,Option.some.injEq,exists_eq_left',forall_eq']
  constructor
  ·rintro ⟨h1,h2⟩
   split at h2
   ·rename_i he
    refine ⟨⟨h1,fun e he hb=>h2 e ?_ hb⟩,fun _=>h2 { on:=i,ground:=.data } ?_ rfl⟩
    ·simp only [Z9j,Array.mem_push]; exact .inl he
    ·rw [Z9j,Array.mem_push]; exact .inr rfl
   ·rename_i he
    exact ⟨⟨h1,h2⟩,fun hh=>absurd hh he⟩
  ·rintro ⟨⟨h1,h2⟩,h3⟩
   refine ⟨h1,?_⟩
   split
   ·rename_i he
    intro e hm hb
    simp only [Z9j,Array.mem_push] at hm
    rcases hm with hm | rfl
    ·exact h2 e hm hb
    ·exact h3 he
   ·exact h2
theorem Zs5 {oi:Oper} (hi:ops[i]?=some oi) (hg:oi.guard=none) (hx:∃ t k,oi.op=.extract t k) (hQo:¬ LetsOut Q) {K:Act→World→Prop} {a:Act} {w:World} (h:wpOp P ops Q i K a w) :
  ∃ v,Yields P ops oi v a∧K (a.put oi.dst v) w:=by
 obtain ⟨t,k,hop⟩:=hx
 unfold wpOp at h
 rw [hi] at h
 have hw:Region.wanted oi (yielded ops a.tmps)=true:=by unfold Region.wanted; rw [hg]
 dsimp only at h
 rw [if_pos hw] at h
 rcases h with h | h
 ·unfold Oper.wp at h
  have key:(∃ v,∀ w,(execOp a.eval oi).run P w=.ok (.value v) w)∨∀ w,∃ m,(execOp a.eval oi).run P w=.halt (.stuck m) w:=by
   simp only [execOp,hop,Sem.run_bind,Instr.extract]
   split
   ·split
    ·rename_i v _
     exact .inl ⟨v,fun w=>by simp [Sem.run_pure,Result.andThen]⟩
    ·exact .inr fun w=>⟨_,rfl⟩
   ·exact .inr fun w=>⟨_,rfl⟩
  rcases key with ⟨v,hv⟩ | hst
  ·rw [hv w] at h
   exact ⟨v,.inl ⟨hw,hv⟩,h⟩
  ·obtain ⟨m,hm⟩:=hst w
   rw [hm] at h
   exact h.elim
 ·exact absurd h.2 hQo
theorem Z12j (hl:Zs4 ops i=true) (hQp:∀ c a w,¬ Q (.panic c) a w) (hQo:¬ LetsOut Q):∀ (fuel:Nat) (listed:Array Bool) (a:Act) (w:World),wpAny P .any (Z87 ops i) Q fuel listed a w→wpAny P .any ops Q fuel listed a w:=by
 unfold Zs4 at hl
 split at hl
 ·rename_i oi hi
  simp only [Z1kr,Option.isNone_iff_eq_none] at hl
  obtain ⟨⟨hg,hx⟩,hs,hfree⟩:=hl
  have hx':∃ t k,oi.op=.extract t k:=by
   split at hx
   ·exact ⟨_,_,by assumption⟩
   ·cases hx
  have hfr:∀ {listed:Array Bool} j oj,i ∈ Region.ready .any ops listed→ops[j]?=some oj→j ≠ i→listed.getD j true=false→oi.apart ops oj=true:=by
   intro listed j oj hr hj hne hun
   have:=List.all_eq_true.1 hfree j (by simpa using (Array.getElem?_eq_some_iff.1 hj).1)
   rw [hj] at this
   simp only [Bool.or_eq_true,beq_iff_eq,hne,false_or,Z1kr] at this
   rcases this with hb | this
   ·obtain ⟨e,hm,hb,hon⟩:=Z51.1 hb
    obtain ⟨_,o',ho',h2⟩:=mem_ready.1 hr
    rw [hi] at ho'
    simp only [Option.some.injEq] at ho'
    subst ho'
    have:=h2 e hm hb
    rw [hon] at this
    have hjl:j < listed.size:=by
     rcases Nat.lt_or_ge j listed.size with h | h
     ·exact h
     ·simp [Array.getD,Nat.not_lt.2 h] at hun
    simp [Array.getD,hjl] at this hun
    rw [this] at hun
    cases hun
   ·exact this.2
  have hee:∀ o,Zjx ops i i o=false:=fun o=>by unfold Zjx; rw [hi]; simp
  have hgo:∀ {listed:Array Bool} {j:Nat},i ∉ Region.ready .any ops listed→j ∈ Region.ready .any ops listed→j ∈ Region.ready .any (Z87 ops i) listed:=by
   intro listed j hn hj
   refine Z2l.2 ⟨hj,fun o ho he=>Classical.byContradiction fun hli=>hn ?_⟩
   obtain ⟨h1,o',ho',h2⟩:=mem_ready.1 hj
   rw [ho] at ho'
   simp only [Option.some.injEq] at ho'
   subst ho'
   unfold Zjx at he
   rw [hi] at he
   simp only [Z1kr,Z1ks] at he
   have hjl:j < listed.size:=by
    rcases Nat.lt_or_ge j listed.size with h | h
    ·exact h
    ·simp [Array.getD,Nat.not_lt.2 h] at h1
   refine mem_ready.2 ⟨?_,oi,hi,fun e hm hb=>?_⟩
   ·have:i < listed.size:=by omega
    simp [Array.getD,this] at hli ⊢
    exact hli
   ·have:=Array.all_eq_true_iff_forall_mem.1 he.2 e hm
    simp only [hb,Bool.not_true,Bool.false_or] at this
    obtain ⟨e',hm',hb',hon⟩:=Z51.1 this
    rw [← hon]
    exact h2 e' hm' hb'
  intro fuel
  induction fuel with
  | zero =>
   intro listed a w h
   refine ⟨?_,h.2⟩
   by_cases hir:i ∈ Region.ready .any ops listed
   ·have:i ∈ Region.ready .any (Z87 ops i) listed:=Z2l.2 ⟨hir,fun o ho he=>(by rw [hee o] at he; cases he)⟩
    rw [h.1] at this
    cases this
   ·refine List.eq_nil_iff_forall_not_mem.2 fun j hj=>?_
    have:=hgo hir hj
    rw [h.1] at this
    cases this
  | succ fuel ih =>
   intro listed a w h
   by_cases hir:i ∈ Region.ready .any ops listed
   ·have hir':i ∈ Region.ready .any (Z87 ops i) listed:=Z2l.2 ⟨hir,fun o ho he=>(by rw [hee o] at he; cases he)⟩
    obtain ⟨v,hy,hK⟩:=Zs5 hi hg hx' hQo (Z9k (h.2 i hir'))
    exact wpAny_first hi (Region.noSelect_spec hs) (fun c a w hq=>absurd hq (hQp _ _ _)) fuel listed a w (fun j oj hj hne hun _=>hfr j oj hir hj hne hun) hir hy (ih _ _ _ hK)
   ·refine ⟨fun hr=>h.1 (List.eq_nil_iff_forall_not_mem.2 fun j hj=>?_),fun j hj=>wpOp_mono (fun a w hh=>ih _ _ _ hh) (Z9k (h.2 j (hgo hir hj)))⟩
    have:=(Z2l.1 hj).1
    rw [hr] at this
    cases this
 ·cases hl
def Z52 (P:Program) {α:Type} (m:Sem α):Prop:=∀ x w w1,m.run P w=.ok x w1→w1=w∧∀ w',m.run P w'=.ok x w'
theorem Z27 {α:Type} (x:α):Z52 P (pure x):=fun y w w1 h=>by
 rw [Sem.run_pure] at h
 cases h
 exact ⟨rfl,fun w'=>Sem.run_pure ..⟩
theorem Z1r {α β:Type} {m:Sem α} {f:α→Sem β} (hm:Z52 P m) (hf:∀ x,Z52 P (f x)):Z52 P (m >>= f):=fun y w w2 h=>by
 rw [Sem.run_bind] at h
 cases hr:m.run P w with
 | ok x w1 =>
  rw [hr,Result.andThen_ok] at h
  obtain ⟨rfl,h1⟩:=hm x w w1 hr
  obtain ⟨rfl,h2⟩:=hf x _ _ _ h
  exact ⟨rfl,fun w'=>by rw [Sem.run_bind,h1 w',Result.andThen_ok]; exact h2 w'⟩
 | halt hh w1 =>
  rw [hr] at h
  cases h
theorem Zz3 {α β:Type} {m:Sem α} (f:α→β) (hm:Z52 P m):Z52 P (f <$> m):=fun y w w2 h=>by
 rw [Sem.run_map] at h
 cases hr:m.run P w with
 | ok x w1 =>
  rw [hr,Result.andThen_ok] at h
  obtain ⟨rfl,h1⟩:=hm x w w1 hr
  cases h
  exact ⟨rfl,fun w'=>by rw [Sem.run_map,h1 w',Result.andThen_ok]⟩
 | halt hh w1 =>
  rw [hr] at h
  cases h
theorem Z3t {α:Type} (hh:Halt):Z52 P (.halt hh:Sem α):=fun y w w2 h=>by
 simp [Sem.run] at h
theorem Zap:Z52 P program:=fun y w w2 h=>by
 rw [run_program] at h
 cases h
 exact ⟨rfl,fun w'=>run_program ..⟩
theorem Zgt (t:TypeId):Z52 P (typeInfo t):=by
 unfold typeInfo
 refine Z1r Zap fun x=>?_
 split
 ·exact Z27 _
 ·exact Z3t _
theorem Zof (t:TypeId):Z52 P (Go.underlying t):=by
 unfold Go.underlying
 refine Z1r Zap fun x=>?_
 split
 ·exact Z27 _
 ·exact Z3t _
theorem Zs6 (t:TypeId):Z52 P (zeroValue t):=by
 unfold zeroValue
 refine Z1r (Zgt t) fun x=>?_
 split
 ·exact Z27 _
 ·exact Z3t _
theorem Zgu (t:TypeId):Z52 P (sizeOf t):=by
 unfold sizeOf
 exact Z1r (Zgt t) fun x=>Z27 _
theorem Zgv {α β:Type} {f:α→Sem β} (hf:∀ x,Z52 P (f x)):∀ l:List α,Z52 P (l.mapM f)
 | []=>by
  rw [List.mapM_nil]
  exact Z27 _
 | x::l=>by
  rw [List.mapM_cons]
  exact Z1r (hf x) fun y=>Z1r (Zgv hf l) fun ys=>Z27 _
theorem Zog (t:TypeId) (parts:Array (Nat × Value)):Z52 P (Instr.build t parts):=by
 unfold Instr.build
 refine Z1r (Zs6 t) fun z=>Z1r (Zof t) fun d=>?_
 split
 ·refine Z1r ?_ fun places=>?_
  ·rw [Array.mapM_eq_mapM_toList]
   exact Zz3 _ (Zgv (fun f=>Z1r (Zgu _) fun n=>Z27 _) _)
  ·split
   ·exact Z27 _
   ·exact Z3t _
 ·refine Z1r (Zgu _) fun n=>?_
  split
  ·exact Z27 _
  ·exact Z3t _
 ·exact Z3t _
theorem Zz4 {oi:Oper} (hi:ops[i]?=some oi) (hg:oi.guard=none) (hx:(∃ t,oi.op=.move t)∨∃ t ps,oi.op=.build t ps) (hQp:∀ c a w,¬ Q (.panic c) a w) (hQo:¬ LetsOut Q) {K:Act→World→Prop} {a:Act} {w:World} (h:wpOp P ops Q i K a w) :
  ∃ v,Yields P ops oi v a∧K (a.put oi.dst v) w:=by
 unfold wpOp at h
 rw [hi] at h
 have hw:Region.wanted oi (yielded ops a.tmps)=true:=by unfold Region.wanted; rw [hg]
 dsimp only at h
 rw [if_pos hw] at h
 rcases h with h | h
 ·unfold Oper.wp at h
  rcases hx with ⟨t,hop⟩ | ⟨t,ps,hop⟩
  ·have hv:∀ w,(execOp a.eval oi).run P w=.ok (.value (a.eval t)) w:=fun w=>by simp [execOp,hop,Sem.run_pure]
   rw [hv w] at h
   exact ⟨a.eval t,.inl ⟨hw,hv⟩,h⟩
  ·have he:∀ w,(execOp a.eval oi).run P w=((Instr.build t (ps.map fun p=>(p.1,a.eval p.2))).run P w).andThen fun x w'=>.ok (.value x) w':=fun w=>by
    simp only [execOp,hop,Sem.run_bind,Sem.run_pure]
   rw [he w] at h
   cases hr:(Instr.build t (ps.map fun p=>(p.1,a.eval p.2))).run P w with
   | ok x w1 =>
    obtain ⟨rfl,h1⟩:=Zog t _ x w w1 hr
    rw [hr,Result.andThen_ok] at h
    exact ⟨x,.inl ⟨hw,fun w'=>by rw [he w',h1 w',Result.andThen_ok]⟩,h⟩
   | halt hh w1 =>
    rw [hr] at h
    cases hh <;> first | exact h.elim | exact absurd h (hQp _ _ _)
 ·exact absurd h.2 hQo
theorem Zz5 (hl:Z12h ops i=true) (hQp:∀ c a w,¬ Q (.panic c) a w) (hQo:¬ LetsOut Q):∀ (fuel:Nat) (listed:Array Bool) (a:Act) (w:World),wpAny P .any (Z87 ops i) Q fuel listed a w→wpAny P .any ops Q fuel listed a w:=by
 unfold Z12h at hl
 split at hl
 ·rename_i oi hi
  simp only [Z1kr,Option.isNone_iff_eq_none] at hl
  obtain ⟨⟨hg,hx⟩,hs,hfree⟩:=hl
  have hx':(∃ t,oi.op=.move t)∨∃ t ps,oi.op=.build t ps:=by
   split at hx
   ·exact .inl ⟨_,by assumption⟩
   ·exact .inr ⟨_,_,by assumption⟩
   ·cases hx
  have hfr:∀ {listed:Array Bool} j oj,i ∈ Region.ready .any ops listed→ops[j]?=some oj→j ≠ i→listed.getD j true=false→(∀ e ∈ oj.after,Region.binds .any e=true→e.on ≠ i)→oi.apart ops oj=true:=by
   intro listed j oj hr hj hne hun hnb
   have:=List.all_eq_true.1 hfree j (by simpa using (Array.getElem?_eq_some_iff.1 hj).1)
   rw [hj] at this
   simp only [Bool.or_eq_true,beq_iff_eq,hne,false_or] at this
   rcases this with hb | this
   ·obtain ⟨e,hm,hb,hon⟩:=Z51.1 hb
    obtain ⟨_,o',ho',h2⟩:=mem_ready.1 hr
    rw [hi] at ho'
    simp only [Option.some.injEq] at ho'
    subst ho'
    have:=h2 e hm hb
    rw [hon] at this
    have hjl:j < listed.size:=by
     rcases Nat.lt_or_ge j listed.size with h | h
     ·exact h
     ·simp [Array.getD,Nat.not_lt.2 h] at hun
    simp [Array.getD,hjl] at this hun
    rw [this] at hun
    cases hun
   ·rcases this with hb | this
    ·obtain ⟨e,hm,hb,hon⟩:=Z51.1 hb
     exact absurd hon (hnb e hm hb)
    ·exact this
  have hee:∀ o,Zjx ops i i o=false:=fun o=>by unfold Zjx; rw [hi]; simp
  have hgo:∀ {listed:Array Bool} {j:Nat},i ∉ Region.ready .any ops listed→j ∈ Region.ready .any ops listed→j ∈ Region.ready .any (Z87 ops i) listed:=by
   intro listed j hn hj
   refine Z2l.2 ⟨hj,fun o ho he=>Classical.byContradiction fun hli=>hn ?_⟩
   obtain ⟨h1,o',ho',h2⟩:=mem_ready.1 hj
   rw [ho] at ho'
   simp only [Option.some.injEq] at ho'
   subst ho'
   unfold Zjx at he
   rw [hi] at he
   simp only [Z1kr,Z1ks] at he
   have hjl:j < listed.size:=by
    rcases Nat.lt_or_ge j listed.size with h | h
    ·exact h
    ·simp [Array.getD,Nat.not_lt.2 h] at h1
   refine mem_ready.2 ⟨?_,oi,hi,fun e hm hb=>?_⟩
   ·have:i < listed.size:=by omega
    simp [Array.getD,this] at hli ⊢
    exact hli
   ·have:=Array.all_eq_true_iff_forall_mem.1 he.2 e hm
    simp only [hb,Bool.not_true,Bool.false_or] at this
    obtain ⟨e',hm',hb',hon⟩:=Z51.1 this
    rw [← hon]
    exact h2 e' hm' hb'
  intro fuel
  induction fuel with
  | zero =>
   intro listed a w h
   refine ⟨?_,h.2⟩
   by_cases hir:i ∈ Region.ready .any ops listed
   ·have:i ∈ Region.ready .any (Z87 ops i) listed:=Z2l.2 ⟨hir,fun o ho he=>(by rw [hee o] at he; cases he)⟩
    rw [h.1] at this
    cases this
   ·refine List.eq_nil_iff_forall_not_mem.2 fun j hj=>?_
    have:=hgo hir hj
    rw [h.1] at this
    cases this
  | succ fuel ih =>
   intro listed a w h
   by_cases hir:i ∈ Region.ready .any ops listed
   ·have hir':i ∈ Region.ready .any (Z87 ops i) listed:=Z2l.2 ⟨hir,fun o ho he=>(by rw [hee o] at he; cases he)⟩
    obtain ⟨v,hy,hK⟩:=Zz4 hi hg hx' hQp hQo (Z9k (h.2 i hir'))
    exact wpAny_first hi (Region.noSelect_spec hs) (fun c a w hq=>absurd hq (hQp _ _ _)) fuel listed a w (fun j oj hj hne hun hnb=>hfr j oj hir hj hne hun hnb) hir hy (ih _ _ _ hK)
   ·refine ⟨fun hr=>h.1 (List.eq_nil_iff_forall_not_mem.2 fun j hj=>?_),fun j hj=>wpOp_mono (fun a w hh=>ih _ _ _ hh) (Z9k (h.2 j (hgo hir hj)))⟩
    have:=(Z2l.1 hj).1
    rw [hr] at this
    cases this
 ·cases hl
theorem Zk9:∀ (l:List Nat) (ops:Array Oper),(Z12i ops l).size=ops.size
 | [],_=>rfl
 | i::l,ops=>by
  rw [Z12i,Zk9 l]
  split
  ·simp [Z87]
  ·rfl
theorem Zoh (hQp:∀ c a w,¬ Q (.panic c) a w) (hQo:¬ LetsOut Q):∀ (l:List Nat) (ops:Array Oper) (fuel:Nat) (listed:Array Bool) (a:Act) (w:World),wpAny P .any (Z12i ops l) Q fuel listed a w→wpAny P .any ops Q fuel listed a w
 | [],_,_,_,_,_,h=>h
 | i::l,ops,fuel,listed,a,w,h=>by
  have h':=Zoh hQp hQo l _ fuel listed a w h
  split at h'
  ·rename_i hl
   exact Zz5 hl hQp hQo _ _ _ _ h'
  ·exact h'
theorem Z1a8 {id:Nat} {a:Act} {w:World} (hm:P.follows .mixedOrders=true) (hQp:∀ c a w,¬ Q (.panic c) a w) (hQo:¬ LetsOut Q)
  (h:wpAny P .any (tidy ops) Q (tidy ops).size (Array.replicate (tidy ops).size false) a { w with drawn:=w.drawn + 1 }):wps P (.region id ops true) Q a w:=by
 refine Z1gq hm ?_
 unfold tidy at h
 split at h
 ·rw [Zk9] at h
  exact Zoh hQp hQo _ _ _ _ _ _ h
 split at h
 ·rename_i i hi
  have hsz:(Z87 ops i).size=ops.size:=by simp [Z87]
  rw [hsz] at h
  exact Z12j (List.find?_some hi) hQp hQo _ _ _ _ h
 ·exact h
end
def Zfh (o:Oper):Bool:=match o.op with
 | .defer _=>false
 | _=>true
def Zgw:Code→Bool
 | .seq x y=>Zgw x && Zgw y
 | .cond _ x y=>Zgw x && Zgw y
 | .block _ c=>Zgw c
 | .loop c=>Zgw c
 | .region _ ops _=>ops.all Zfh
 | _=>true
theorem Zs7 {n:Nat} {P:Program} {row:String} {args:Array Value} {w:World} {R:Value→World→Prop} (h:Rows P row args w R):RowsIn Fence.wide n P row args w R:=fun c cs _=>by
 obtain ⟨v,w',hr,hs⟩:=h c cs
 exact ⟨v,w',hr,stepsIn_wide.2 hs⟩
theorem Z1gs {P:Program} {o:Oper} {a:Act} {w:World} {K:Act→World→Prop} {Q:Exit→Act→World→Prop} (l n:Nat) (hn:Zfh o=true) (hh:o.wp P a w K Q):o.wpIn (Fence.wide.inRound l) n P a w K Q:=by
 have hs:∀ c,o.op ≠ .defer c:=by
  intro c hc
  unfold Zfh at hn
  rw [hc] at hn
  cases hn
 unfold Oper.wp at hh
 refine ⟨fun _ _=>trivial,?_⟩
 rw [show (Fence.wide.inRound l).round=some l from rfl,Oper.semAt_some l _ _ hs]
 generalize (execOp a.eval o).run P w=r at *
 cases r with
 | ok x w' =>
  cases x <;> simp only [Oper.upon] at hh <;> simp only [Oper.uponIn] <;>
   first
    | exact hh
    | exact hh.elim
    | exact ⟨fun h=>(by cases h),CallsIn.inRound l (callsIn_wide.2 hh)⟩
    | exact ⟨fun h=>(by cases h),Zs7 hh⟩
 | halt x w'=>cases x <;> simp only [Oper.upon] at hh <;> simp only [Oper.uponIn] <;> first | exact hh | exact hh.elim
theorem Zoi {P:Program} {ops:Array Oper} {Q:Exit→Act→World→Prop} (l n:Nat) (hc:ops.all Zfh=true) (ho:¬ LetsOut Q):∀ (s:List Nat) (a:Act) (w:World),wpOps P ops Q s a w→wpOpsIn (Fence.wide.inRound l) n P ops Q s a w
 | [],a,w,h=>h
 | i::s,a,w,h=>by
  unfold wpOps at h
  unfold wpOpsIn
  split
  ·rename_i hi
   rw [hi] at h
   exact Zoi l n hc ho s a w h
  ·rename_i o hi
   rw [hi] at h
   dsimp only at h
   split
   ·rename_i hw
    rw [if_pos hw] at h
    rcases h with h | h
    ·exact Oper.wpIn_mono (fun a w h=>Zoi l n hc ho s a w h) (Z1gs l n (Array.all_eq_true_iff_forall_mem.1 hc o (Array.mem_of_getElem? hi)) h)
    ·exact absurd h.2 ho
   ·rename_i hw
    rw [if_neg hw] at h
    exact ⟨fun _ _=>trivial,Zoi l n hc ho s _ w h⟩
theorem Zvb {K:Act→World→Prop} {Q:Exit→Act→World→Prop} (h:¬ LetsOut Q):¬ LetsOut (Exit.then K Q):=fun ⟨a,w,hq⟩=>h ⟨a,w,hq⟩
theorem Z12k {id:Nat} {Q:Exit→Act→World→Prop} (h:¬ LetsOut Q):¬ LetsOut (Exit.inBlock id Q):=fun ⟨a,w,hq⟩=>h ⟨a,w,hq⟩
theorem Z1f6 {P:Program} (l n:Nat):∀ (c:Code) {Q:Exit→Act→World→Prop} {a:Act} {w:World},Zgw c=true→¬ LetsOut Q→wps P c Q a w→c.wpIn (Fence.wide.inRound l) n P Q a w:=by
 intro c
 induction c with
 | seq x y ihx ihy =>
  intro Q a w hc ho h
  simp only [Zgw,Z1kr] at hc
  refine wpIn_seq (wpIn_mono (ihx hc.1 (Zvb ho) h) (Z6b (fun a w h=>ihy hc.2 ho h) (fun _ _ _ h=>h)))
 | cond c x y ihx ihy =>
  intro Q a w hc ho h
  simp only [Zgw,Z1kr] at hc
  obtain ⟨t,ht,h⟩:=h
  cases t with
  | true=>exact wpIn_cond_true ht (ihx hc.1 ho h)
  | false=>exact wpIn_cond_false ht (ihy hc.2 ho h)
 | block id c ih=>intro Q a w hc ho h; exact wpIn_block (ih hc (Z12k ho) h)
 | loop c ih =>
  intro Q a w hc ho h
  obtain ⟨k,h⟩:=h
  refine wpIn_loop_rounds k ?_
  revert a w
  induction k with
  | zero=>intro a w h; exact h
  | succ k ihk=>intro a w h; exact wpIn_mono (ih hc (Zvb ho) h) (Z6b (fun a w h=>ihk h) (fun _ _ _ h=>h))
 | region id ops draw =>
  intro Q a w hc ho h
  cases draw with
  | false=>exact wpIn_region (Zoi l n hc ho _ _ _ h)
  | true=>exact wpIn_region_draw fun t=>Zoi l n hc ho _ _ _ (h t)
 | skip=>intro Q a w hc ho h; exact wpIn_skip h
 | label l=>intro Q a w hc ho h; exact wpIn_label h
 | exit id=>intro Q a w hc ho h; exact wpIn_exit h
 | ret=>intro Q a w hc ho h; exact wpIn_ret h
 | _=>intro Q a w hc ho h; exact h.elim
end Go.Sx
namespace Go.Sx
open Go.RowKit
def Zey (ds:List Deferred) (a:Act):Act:={ a with defers:=a.defers++ds }
theorem Zvc (ds:List Deferred) (a:Act) (d:Option Tmp) (v:Value):(Zey ds a).put d v=Zey ds (a.put d v):=by cases d <;> rfl
theorem Zoj (ds:List Deferred) (a:Act):(Zey ds a).eval=a.eval:=by funext x; cases x <;> rfl
theorem Zez {ds:List Deferred} {Q Q':Exit→Act→World→Prop} (h:∀ e a w,Q e a w→Q' e (Zey ds a) w):LetsOut Q→LetsOut Q':=fun ⟨a,w,hq⟩=>⟨_,w,h _ _ _ hq⟩
theorem Z12l {P:Program} {ds:List Deferred} {o:Oper} {a:Act} {w:World} {K K':Act→World→Prop} {Q Q':Exit→Act→World→Prop} (hK:∀ a w,K a w→K' (Zey ds a) w) (hQ:∀ e a w,Q e a w→Q' e (Zey ds a) w)
  (hh:o.wp P a w K Q):o.wp P (Zey ds a) w K' Q':=by
 unfold Oper.wp at *
 rw [Zoj]
 generalize (execOp a.eval o).run P w=r at *
 have hP:∀ (a:Act) (d:Option Tmp) (v:Value) (w:World),K (a.put d v) w→K' ((Zey ds a).put d v) w:=fun a d v w h=>by rw [Zvc]; exact hK _ _ h
 cases r with
 | ok n w' =>
  cases n <;> simp only [Oper.upon] at hh ⊢ <;>
   first
    | exact hh
    | exact hP _ _ _ _ hh
    | exact hK _ _ hh
    | exact Calls.mono hh (fun e w'' he=>by cases e <;> first | exact hP _ _ _ _ he | exact hQ _ _ _ he | exact Zez hQ he)
    | exact Rows.mono hh (fun _ _ he=>hP _ _ _ _ he)
 | halt x w'=>cases x <;> simp only [Oper.upon] at hh ⊢ <;> first | exact hh | exact hQ _ _ _ hh
theorem Zbo {P:Program} {ds:List Deferred} {ops:Array Oper} {Q Q':Exit→Act→World→Prop} (hQ:∀ e a w,Q e a w→Q' e (Zey ds a) w):∀ (l:List Nat) (a:Act) (w:World),wpOps P ops Q l a w→wpOps P ops Q' l (Zey ds a) w
 | [],a,w,h=>hQ _ _ _ h
 | i::l,a,w,h=>by
  unfold wpOps at h ⊢
  split
  ·rename_i ho
   rw [ho] at h
   exact Zbo hQ l a w h
  ·rename_i o ho
   rw [ho] at h
   dsimp only at h
   split
   ·rename_i hw
    rw [if_pos (show Region.wanted o (yielded ops a.tmps)=true from hw)] at h
    rcases h with h | h
    ·exact .inl (Z12l (fun a w h=>Zbo hQ l a w h) hQ h)
    ·exact .inr ⟨h.1,Zez hQ h.2⟩
   ·rename_i hw
    rw [if_neg (show ¬ Region.wanted o (yielded ops a.tmps)=true from hw)] at h
    have:=Zbo hQ l _ w h
    rw [← Zvc] at this
    exact this
theorem Zok {ds:List Deferred} {K K':Act→World→Prop} {Q Q':Exit→Act→World→Prop} (hK:∀ a w,K a w→K' (Zey ds a) w) (hQ:∀ e a w,Q e a w→Q' e (Zey ds a) w):∀ e a w,Exit.then K Q e a w→Exit.then K' Q' e (Zey ds a) w:=by
 intro e a w h
 cases e <;> first | exact hK _ _ h | exact hQ _ _ _ h
theorem Zz6 {ds:List Deferred} {id:Nat} {Q Q':Exit→Act→World→Prop} (hQ:∀ e a w,Q e a w→Q' e (Zey ds a) w):∀ e a w,Exit.inBlock id Q e a w→Exit.inBlock id Q' e (Zey ds a) w:=by
 intro e a w h
 cases e with
 | exit id' =>
  show if id'=id then _ else _
  have h':if id'=id then Q .normal a w else Q (.exit id') a w:=h
  split
  ·rename_i hi; rw [if_pos hi] at h'; exact hQ _ _ _ h'
  ·rename_i hi; rw [if_neg hi] at h'; exact hQ _ _ _ h'
 | _=>exact hQ _ _ _ h
theorem Z1a9 {P:Program} {ds:List Deferred}:∀ (c:Code) {Q Q':Exit→Act→World→Prop} {a:Act} {w:World},wps P c Q a w→(∀ e a w,Q e a w→Q' e (Zey ds a) w)→wps P c Q' (Zey ds a) w:=by
 intro c
 induction c with
 | seq x y ihx ihy=>intro Q Q' a w h hq; exact ihx h (Zok (fun a w h=>ihy h hq) hq)
 | cond c x y ihx ihy =>
  intro Q Q' a w h hq
  obtain ⟨t,ht,h⟩:=h
  refine ⟨t,by rw [Zoj]; exact ht,?_⟩
  cases t with
  | true=>exact ihx h hq
  | false=>exact ihy h hq
 | block id c ih=>intro Q Q' a w h hq; exact ih h (Zz6 hq)
 | loop c ih =>
  intro Q Q' a w h hq
  obtain ⟨n,h⟩:=h
  refine ⟨n,?_⟩
  revert a w
  induction n with
  | zero=>intro a w h; exact h
  | succ n ihn=>intro a w h; exact ih h (Zok (fun a w h=>ihn h) hq)
 | region id ops draw =>
  intro Q Q' a w h hq
  cases draw with
  | false=>exact Zbo hq _ _ _ h
  | true=>exact fun t=>Zbo hq _ _ _ (h t)
 | skip=>intro Q Q' a w h hq; exact hq _ _ _ h
 | label l=>intro Q Q' a w h hq; exact hq _ _ _ h
 | exit id=>intro Q Q' a w h hq; exact hq _ _ _ h
 | ret=>intro Q Q' a w h hq; exact hq _ _ _ h
 | _=>intro Q Q' a w h hq; exact h.elim
def Z75 (P:Program) (gf:FuncId) (sz:Nat):Prop :=
  ∀ (l Bs:Nat) (ad:Option Addr) (len cap:Nat) (J:Nat→World→Prop) (W:World),len≤1000000 →
    (∀ i W,J i W→W.cell? ⟨Bs,0,none⟩=some (.slice ad len cap)) →
    (∀ i W,i < len→J (i + 1) W→∃ (b off:Nat) (cs:List Value),ad=some ⟨b,off,none⟩∧cs.length=sz∧(∀ (j:Nat) (u:Value),cs[j]?=some u→W.cell? ⟨b,off + (i * sz + j),none⟩=some u) ∧
        ∀ m,YieldAt Fence.wide m P l #[.int .i64 (i:Nat),.agg cs.toArray] W fun e W'=>e=.returned (.bool true)∧J i W') →
    J len W→Calls P gf #[.func (.yield l) #[] #[],.pointer (some ⟨Bs,0,none⟩)] W fun e W'=>(∃ v,e=.returned v)∧J 0 W'
theorem Zjy {P:Program} {gf:FuncId} {sz:Nat} (hB:Z75 P gf sz) {g:Operand} {p q:Tmp} {aZ bd:Code} {Q:Exit→Act→World→Prop} {a:Act} {w:World} {Bs:Nat} {ad:Option Addr} {len cap n:Nat}
    (hg:a.eval g=.func (.func gf) #[] #[.pointer (some ⟨Bs,0,none⟩)]) (eg:∀ args w,(callFunc gf args).run P w=.ok (.enter gf args) w) (hlen:len≤1000000)
    (J:Nat→World→Prop) (hJ:OwnFrom w.heap.size J) (hBs:∀ i W,J i W→W.cell? ⟨Bs,0,none⟩=some (.slice ad len cap)) (h0:J len w)
    (hround:∀ i W,i < len→J (i + 1) W→∃ (b off:Nat) (cs:List Value),ad=some ⟨b,off,none⟩∧cs.length=sz∧(∀ (j:Nat) (u:Value),cs[j]?=some u→W.cell? ⟨b,off + (i * sz + j),none⟩=some u) ∧
      ∀ l m,w.heap.size≤l→(∃ r,W.heap[l]?=some (.loop r))→aZ.wpIn (Fence.wide.inRound l) m P (Exit.then (fun a1 W1=>KeepsFrom w.heap.size W W1∧∀ o',bd.wpIn (Fence.wide.inRound l) m P (fun e _ W3=>e=.normal∧KeepsFrom w.heap.size (W1.putObj l o') W3∧J i W3) a1 (W1.putObj l o')) (fun _ _ _=>False))
        { tmps:=(a.tmps.setIfInBounds p (.int .i64 (i:Nat))).setIfInBounds q (.agg cs.toArray),defers:=[] } W)
    (hdone:∀ D W,w.heap.size≤D→J 0 W→W.heap[D]?=some (.deferred (some []))→Q .normal { a with defers:={ target:=.collected D,args:=#[] }::a.defers } W) :
    (Code.rangeFunc g #[p,q] aZ bd).wpIn Fence.wide n P Q a w:=by
  refine wpIn_rangeFunc ?_
  intro fn hfn
  rw [show Fence.wide.round=none from rfl]
  obtain ⟨rec,hrec⟩:∃ rec:LoopState→Option Code→Loop,rec=fun st pe=>{ state:=st,pending:=pe,fn,tmps:=a.tmps,params:=#[p,q],assign:=aZ,body:=bd,defers:=w.heap.size }:=⟨_,rfl⟩
  obtain ⟨W1,hW1⟩:∃ W1,(w.alloc (.deferred (some []))).alloc (.loop (rec .ready none))=W1:=⟨_,rfl⟩
  have hL1:W1.heap[w.heap.size + 1]?=some (.loop (rec .ready none)):=by
    rw [← hW1]; have:=World.alloc_heap_new (w.alloc (.deferred (some []))) (.loop (rec .ready none)); rwa [World.size_alloc] at this
  have hK1:W1.heap[w.heap.size]?=some (.deferred (some [])):=by
    rw [← hW1]; exact (Below.heap_alloc _ _ _ (by simp)).trans (World.alloc_heap_new w _)
  have hI1:J len W1:=by rw [← hW1]; exact hJ.alloc _ (hJ.alloc _ h0)
  refine ⟨w.heap.size + 1,[{ target:=.collected w.heap.size,args:=#[] }],W1,{ target:=.fn (.func gf) #[.pointer (some ⟨Bs,0,none⟩)],args:=#[.func (.yield (w.heap.size + 1)) #[] #[]] },W1,gf,
    #[.func (.yield (w.heap.size + 1)) #[] #[]]++#[.pointer (some ⟨Bs,0,none⟩)],W1,?_,?_,?_,?_,fun h=>(by cases h),?_⟩
  · rw [← hW1,hrec]; exact run_enterLoop_outer _ _ _ _ _
  · simp only [resolve,hg]
    simp [go_sem]
  · intro f' hf'; trivial
  · simp [invoke,go_sem,eg]
  · rw [callsIn_wide]
    refine (hB (w.heap.size + 1) Bs ad len cap
      (fun i W=>J i W∧W.heap[w.heap.size + 1]?=some (.loop (rec .ready none))∧W.heap[w.heap.size]?=some (.deferred (some [])))
      W1 hlen (fun i W h=>hBs i W h.1) ?_ ⟨hI1,hL1,hK1⟩).mono ?_
    · rintro i W hi ⟨hj,hl,hk⟩
      obtain ⟨b,off,cs,h1,h2,h3,h4⟩:=hround i W hi hj
      refine ⟨b,off,cs,h1,h2,h3,fun m=>?_⟩
      have hlt:w.heap.size + 1 < W.heap.size:=(Array.getElem?_eq_some_iff.1 hl).1
      have hy:=run_yield (P:=P) (args:=#[Value.int .i64 (i:Nat),.agg cs.toArray]) hl (by rw [hrec]; rfl)
      rw [hrec] at hy
      dsimp only at hy
      have hz:(#[p,q].zip #[Value.int .i64 (i:Nat),.agg cs.toArray]).foldl (fun tmps (x:Tmp × Value)=>tmps.setIfInBounds x.1 x.2) a.tmps=(a.tmps.setIfInBounds p (.int .i64 (i:Nat))).setIfInBounds q (.agg cs.toArray):=by
        rw [← Array.foldl_toList]
        simp
      replace hy:(Instr.yield (w.heap.size + 1) #[Value.int .i64 (i:Nat),.agg cs.toArray]).run P W=.ok (.round (w.heap.size + 1) fn ((#[p,q].zip #[Value.int .i64 (i:Nat),.agg cs.toArray]).foldl (fun tmps (x:Tmp × Value)=>tmps.setIfInBounds x.1 x.2) a.tmps) aZ bd) W:=hy
      rw [hz] at hy
      refine ⟨fn,_,aZ,bd,hy,roundIn_of_wpIn hfn (wpIn_mono (h4 _ m (by omega) ⟨_,hl⟩) ?_)⟩
      rintro e a1 Wa hp
      cases e with
      | normal =>
        obtain ⟨hkfa,hb⟩:=hp
        have hl':=hkfa.same _ _ (by omega) hl rfl
        have hk':=hkfa.same _ _ (Nat.le_refl _) hk rfl
        have hlt':w.heap.size + 1 < Wa.heap.size:=(Array.getElem?_eq_some_iff.1 hl').1
        refine ⟨_,run_beginRound hl' (by rw [hrec]),?_⟩
        have hl2:(Wa.putObj (w.heap.size + 1) (.loop { rec .ready none with state:=.busy })).heap[w.heap.size + 1]?=some (.loop { rec .ready none with state:=.busy }):=World.putObj_heap_same hlt'
        have hk2:(Wa.putObj (w.heap.size + 1) (.loop { rec .ready none with state:=.busy })).heap[w.heap.size]?=some (.deferred (some [])):=(World.putObj_heap_other (by omega)).trans hk'
        refine wpIn_mono (hb _) ?_
        rintro e a3 W3 ⟨rfl,hk3,hj3⟩
        have hl3:=hk3.same _ _ (by omega) hl2 rfl
        have hr:=run_endRound (P:=P) none hl3
        rw [hrec] at hr
        refine ⟨_,_,hr,rfl,hJ.putObj _ hj3 (by omega) hl3 rfl,?_,?_⟩
        · rw [hrec]; exact World.putObj_heap_same (Array.getElem?_eq_some_iff.1 hl3).1
        · exact (World.putObj_heap_other (by omega)).trans (hk3.same _ _ (Nat.le_refl _) hk2 rfl)
      | _=>exact hp.elim
    · rintro e W2 ⟨⟨v,rfl⟩,hj,hl,hk⟩
      have hr:=run_endLoop (P:=P) hl (by rw [hrec]; simp)
      refine ⟨none,_,by rw [hrec] at hr; exact hr,hdone _ _ (Nat.le_refl _) (hJ.putObj _ hj (by omega) hl rfl) ((World.putObj_heap_other (by omega)).trans hk)⟩
end Go.Sx
namespace Go.Sx
open Go.RowKit
structure Sh where
 agg:Bool
 ks:List K
noncomputable def K.mk (k:K) (n:Int):Value:=match k with
 | .i kk=>.int kk n
 | .b=>.bool (n != 0)
 | .s _ _=>hdV n
noncomputable def Za:List K→List Int→List Value
 | k::ks,x::xs=>k.mk x::Za ks xs
 | _,_=>[]
noncomputable def Z12m (s:Sh) (xs:List Int):Value :=
 if s.agg then .agg (Za s.ks xs).toArray else (Za s.ks xs).headD undef
noncomputable def Zol:List Sh→List Int→List Value
 | [],_=>[]
 | s::ss,xs=>Z12m s (xs.take s.ks.length)::Zol ss (xs.drop s.ks.length)
def Zx:List Sh→Nat
 | []=>0
 | s::ss=>s.ks.length + Zx ss
noncomputable def Zz7 (rs:List Sh) (ys:List Int):Value:=match Zol rs ys with
 | [v]=>v
 | vs=>.tuple vs.toArray
structure Sum where
 fn:FuncId
 ps:List Sh
 rs:List Sh
 sem:List Int→List Int
 pre:List Int→Prop
 gl:List (Nat × List Int):=[]
 m:Option (St→List SV→Option (List B × List E × (Nat→St × SV))):=none
def Zoa (gl:List (Nat × List Int)) (w:World):Prop:=∀ p ∈ gl,∀ (j:Nat) (n:Int),p.2[j]?=some n→w.cell? ⟨p.1,j,none⟩=some (.int .i64 n)
noncomputable def elt (ks:List K) (x:Int):List Int:=if ks.length=1 then [x] else dec x
noncomputable def Zi (ks:List K) (l:List Int):List Value:=l.flatMap fun x=>Za ks (elt ks x)
def Z53 (w:World) (ks:List K) (v:Value) (c:Int):Prop :=
  ((∃ a,v=.slice a 0 0)∧dec c=[]) ∨
  ∃ b off cap,v=.slice (some ⟨b,off,none⟩) (dec c).length cap∧(dec c).length≤cap∧cap≤maxLen∧(∀ x ∈ dec c,(elt ks x).length=ks.length) ∧
    ∀ j u,(Zi ks (dec c))[j]?=some u→w.cell? ⟨b,off + j,none⟩=some u
def Zdi (v:Value):Option Nat:=match v with
 | .slice (some a) _ _=>some a.block
 | _=>none
mutual
def Z76 (w:World) (X:Nat→Prop):K→Value→Int→Prop
 | .s _ ks,v,c=>(Z53 w ks v c∧(Zi ks (dec c) ≠ []→∀ k,Zdi v=some k→¬ X k))∧∀ x ∈ dec c,Zdc w X ks (elt ks x)
 | _,_,_=>True
def Zdc (w:World) (X:Nat→Prop):List K→List Int→Prop
 | k::ks,n::ns=>Z76 w X k (hdV n) (ctN n)∧Zdc w X ks ns
 | _,_=>True
end
def SlN (w:World) (ks:List K) (v:Value) (c:Int):Prop:=Z76 w (fun _=>False) (.s 0 ks) v c
def Zt (w:World) (ty:TypeId) (ks:List K) (v:Value) (c:Int):Prop :=
 (dec c=[]∧∃ a,v=.slice a 0 0) ∨
 (ks.length ≠ 0∧(∀ x ∈ dec c,(elt ks x).length=ks.length)∧w.ownsRow 0 ty ks.length v (dec c).length (Zi ks (dec c)))
def Z7 (v:Value):Option Nat:=match v with
 | .slice (some a) _ cap=>if cap=0 then none else some a.block
 | _=>none
def Z12n (S:TypeId→List K→Value→Int→Prop):K→Value→Int→Prop
 | .i k,v,n=>v=.int k n
 | .b,v,n=>v=.bool (n != 0)
 | .s ty ks,v,n=>S ty ks v n
def Z3q (S:TypeId→List K→Value→Int→Prop):List K→List Value→List Int→Prop
 | [],[],[]=>True
 | k::ks,v::vs,x::xs=>Z12n S k v x∧Z3q S ks vs xs
 | _,_,_=>False
def ShR (S:TypeId→List K→Value→Int→Prop) (s:Sh) (v:Value) (xs:List Int):Prop :=
 if s.agg then ∃ cs:List Value,v=.agg cs.toArray∧Z3q S s.ks cs xs else Z3q S s.ks [v] xs
def Zaj (S:TypeId→List K→Value→Int→Prop):List Sh→List Value→List Int→Prop
 | [],vs,xs=>vs=[]∧xs=[]
 | s::ss,vs,xs=>∃ v vr ys yr,vs=v::vr∧xs=ys++yr∧ShR S s v ys∧Zaj S ss vr yr
def Zdd:List K→List Value→List Value
 | .s _ _::ks,v::vs=>v::Zdd ks vs
 | _::ks,_::vs=>Zdd ks vs
 | _,_=>[]
def Zjz (s:Sh) (v:Value):List Value:=if s.agg then (match v with | .agg cs=>Zdd s.ks cs.toList | _=>[]) else Zdd s.ks [v]
def Zg:List Sh→List Value→List Value
 | s::ss,v::vs=>Zjz s v++Zg ss vs
 | _,_=>[]
def Zom (l:List Value):Prop:=l.Pairwise fun u v=>∀ k,Z7 u=some k→Z7 v ≠ some k
def resV (vs:List Value):Value:=match vs with
 | [v]=>v
 | vs=>.tuple vs.toArray
def Z54 (B:Nat→Prop) (w:World) (rs:List Sh) (v:Value) (ys:List Int):Prop :=
 ∃ vs:List Value,v=resV vs∧Zaj (fun ty ks u n=>Zt w ty ks u n∧∀ k,Z7 u=some k→B k) rs vs ys∧Zom (Zg rs vs)
def Sum.ok (P:Program) (s:Sum):Prop :=
  (∀ sh ∈ s.ps++s.rs,sh.agg=true∨sh.ks.length=1) ∧
  ∀ (xs:List Int) (vs:List Value) (w:World),Zoa s.gl w→Zaj (fun _ ks u n=>SlN w ks u n) s.ps vs xs→s.pre xs→(s.sem xs).length=Zx s.rs ∧
    Calls P s.fn vs.toArray w fun e w'=>∃ v,e=.returned v∧Z54 (fun k=>w.heap.size≤k) w' s.rs v (s.sem xs)∧Below w.heap.size w w'
inductive T where
 | ret (es:List E)
 | ite (b:B) (t f:T)
 | asrt (b:B) (t:T)
 | call (g:Nat) (args:List E) (t:T)
 | loop (n:Nat) (ini:List E) (t:T)
 | back (d:Nat) (es:List E)
 | both (t f:T)
 | fail
def T.sat (Γ:List Sum) (R:Fo) (Ψ:List Int→Prop):T→List (List Int→Prop)→List Int→Prop
 | .ret es,_,r=>Ψ (es.map (E.den R r))
 | .ite b t f,bs,r=>(b.den R r=true→t.sat Γ R Ψ bs r)∧(b.den R r=false→f.sat Γ R Ψ bs r)
 | .asrt b t,bs,r=>b.den R r=true∧t.sat Γ R Ψ bs r
 | .call g args t,bs,r=>match Γ[g]? with
  | some s=>s.pre (args.map (E.den R r))∧t.sat Γ R Ψ bs (r++s.sem (args.map (E.den R r)))
  | none=>False
 | .loop n ini t,bs,r=>∃ (I:List Int→Prop) (μ:List Int→Nat),I (ini.map (E.den R r)) ∧
   ∀ xs:List Int,xs.length=n→I xs→t.sat Γ R Ψ (bs++[fun ys=>I ys∧μ ys < μ xs]) (r++xs)
 | .back d es,bs,r=>match bs[d]? with
  | some p=>p (es.map (E.den R r))
  | none=>False
 | .both t f,bs,r=>t.sat Γ R Ψ bs r∧f.sat Γ R Ψ bs r
 | .fail,_,_=>False
inductive Out where
 | norm
 | exit (id:Nat)
 | ret
abbrev Z4x:=Out→St→T
def Zk0 (s:St) (t:Tmp):Option B:=match s.fr.getD t Z6 with
 | .w (.o (.b x))=>some x
 | _=>none
def Zk1 (t:Option Tmp) (s:St) (k:St→T):T:=match t with
 | none=>k s
 | some t=>match Zk0 s t with
  | some (.c _)=>k s
  | some b=>.ite b (k (s.put (some t) (one (.b (.c true))))) (k (s.put (some t) (one (.b (.c false)))))
  | none=>k s
def Zvd (ops:Array Oper) (o:Oper):Option Tmp:=match o.guard with
 | some (j,_)=>(ops[j]?).bind (·.dst)
 | none=>none
def Zgx (o:Oper):Option Tmp:=match o.op with
 | .pick (.tmp t) _ _=>some t
 | _=>none
def Zdj (ops:Array Oper) (s:St) (o:Oper):Option Bool:=match o.guard with
 | none=>some true
 | some (j,want)=>match (ops[j]?).bind (·.dst) with
  | some t=>if t < s.fr.length then (match s.fr.getD t Z6 with
   | .w (.o (.b (.c x)))=>some (x == want)
   | .t []=>some false
   | _=>none) else none
  | none=>none
def Z4a:List B→T→T
 | [],t=>t
 | .c true::l,t=>Z4a l t
 | b::l,t=>.asrt b (Z4a l t)
def Zf0 (ks:List K):Nat→List SC→Option (List E)
 | 0,_=>some []
 | n + 1,cs=>match Z3e ks (cs.take ks.length),Zf0 ks n (cs.drop ks.length) with
  | some es,some l=>some (Z3c es::l)
  | _,_=>none
def Zgy (s:St) (ks:List K) (c:SC):Option (List B × E):=match c with
 | .go g=>match Z3o s g with
  | some (ks',c)=>if Z2g ks' ks || (!g.own && Z84 ks' ks) then some ([],c) else none
  | none=>none
 | .gv g size lo hi=>match Z3o s g with
  | some (ks',c)=>if Z2g ks' ks && decide (size=ks.length) then some (vB c lo hi,Zod (Zbm c hi) lo) else none
  | none=>none
 | .gz g=>if (Z3o s g).isSome then some ([],.nl) else none
 | .s n off len cap=>match s.mem[n]? with
  | some b=>if b.live && decide (off + len * ks.length≤b.cells.length) && decide (len≤cap) && decide (cap≤1000000) then
    (Zf0 ks len (b.cells.drop off)).map fun l=>([],Z8j l) else none
  | none=>none
 | .l (.slice none 0 0)=>some ([],.nl)
 | _=>none
def Zgz (s:St):List K→List SC→Option (List B × List E)
 | [],[]=>some ([],[])
 | .s _ ks::kr,c::cs=>match Zgy s ks c,Zgz s kr cs with
  | some (aZ,e),some (bs,es)=>some (aZ++bs,e::es)
  | _,_=>none
 | k::kr,c::cs=>match Z3e [k] [c],Zgz s kr cs with
  | some [e],some (bs,es)=>some (bs,e::es)
  | _,_=>none
 | _,_=>none
def Z12o (st:St) (s:Sh) (v:SV):Option (List B × List E):=match v with
 | .w (.a cs)=>if s.agg then Zgz st s.ks cs else none
 | .w (.o c)=>if s.agg then none else Zgz st s.ks [c]
 | _=>none
def Zfb (st:St):List Sh→List SV→Option (List B × List E)
 | [],[]=>some ([],[])
 | s::ss,v::vs=>match Z12o st s v,Zfb st ss vs with
  | some (aZ,a),some (bs,b)=>some (aZ++bs,a++b)
  | _,_=>none
 | _,_=>none
def nS:List K→Nat
 | []=>0
 | .s _ _::ks=>nS ks + 1
 | _::ks=>nS ks
def Z77:List Sh→List K
 | []=>[]
 | s::ss=>s.ks++Z77 ss
def Z2p:List K→List E→List Row
 | .s ty ks::kr,e::es=>⟨ty,ks,e,true⟩::Z2p kr es
 | _::kr,_::es=>Z2p kr es
 | _,_=>[]
def hsE:List K→List E→List (List K × E)
 | .s _ ks::kr,e::es=>(ks,e)::hsE kr es
 | _::kr,_::es=>hsE kr es
 | _,_=>[]
def shE (mk:Nat→SC) (i:Nat) (s:Sh) (es:List E):SW :=
 if s.agg then .a (Z39 mk i s.ks es) else match Z39 mk i s.ks es with
  | c::_=>.o c
  | []=>.o (.l undef)
def Zlw (mk:Nat→SC):Nat→List Sh→List E→List SW
 | _,[],_=>[]
 | i,s::ss,es=>shE mk i s (es.take s.ks.length)::Zlw mk (i + nS s.ks) ss (es.drop s.ks.length)
def Zon (mk:Nat→SC) (i:Nat) (rs:List Sh) (es:List E):SV:=match Zlw mk i rs es with
 | [x]=>.w x
 | xs=>.t xs
def Zrx (n:Nat):SC:=.go (.o n)
def Z1aa (n:Nat):SC:=.go (.a n)
def Zz8 (p q:Nat × List Int):Bool:=p.1 == q.1 && p.2 == q.2
def Z1a1 (a b:List (Nat × List Int)):Bool:=a.all fun p=>b.any (Zz8 p)
def Zh (nv n:Nat):List E:=(List.range n).map fun j=>.v (nv + j)
def Zas (fn:FuncId):List Sum→Nat→Option (Nat × Sum)
 | [],_=>none
 | s::ss,g=>if s.fn=fn then some (g,s) else Zas fn ss (g + 1)
def Z1gt (P:Program) (s:St) (t:TypeId) (v:SV):Option SW:=match v with
 | .w (.o (.p n off))=>match s.mem[n]? with
  | some b=>if b.live then Zz1 P t b.cells off else none
  | none=>none
 | _=>none
def Z8l (P:Program) (s:St):List ResultVar→Option (List SW)
 | []=>some []
 | .tmp t::l=>match s.fr.getD t Z6,Z8l P s l with
  | .w y,some ys=>some (y::ys)
  | _,_=>none
 | .cell a t::l=>match Z1gt P s t (s.fr.getD a Z6),Z8l P s l with
  | some y,some ys=>some (y::ys)
  | _,_=>none
def Zh0 (P:Program) (F:Func) (s:St):Option SV:=match Z8l P s F.results.toList with
 | some [y]=>some (.w y)
 | some ys=>some (.t ys)
 | none=>none
def Z1f7 (s s':St) (v:SV):St :=
 if v.scp s.mem.length s.rows.length && (s'.mem.take s.mem.length).all (fun b=>b.cells.all (SC.scp s.mem.length s.rows.length))
 then { s' with fr:=s.fr,mem:=s'.mem.take s.mem.length,rows:=s'.rows.take s.rows.length,fl:=s.fl,flr:=s.flr }
 else { s' with fr:=s.fr,fl:=s.fl,flr:=s.flr }
def Z1ab (P:Program):Nat→TypeId→Option (List K)
 | 0,_=>none
 | d + 1,t=>match P.underlying t with
  | some (.int k)=>some [.i k]
  | some .bool=>some [.b]
  | some (.struct fs)=>fs.toList.foldr (fun f acc=>match Z1ab P d f.type,acc with
   | some a,some b=>some (a++b)
   | _,_=>none) (some [])
  | some (.array n e)=>match Z1ab P d e with
   | some a=>some ((List.replicate n a).flatten)
   | none=>none
  | _=>none
def Z1gu (s:St) (elem:TypeId) (ks:List K) (v:SV):Option (List B × E × List Row):=match v with
 | .w (.o (.l (.slice none 0 0)))=>some ([],.nl,s.rows)
 | .w (.o (.s _ _ 0 0))=>some ([],.nl,s.rows)
 | .w (.o (.gz g))=>if (Z3o s g).isSome then some ([],.nl,s.rows) else none
 | .w (.o (.go (.o n)))=>match s.rows[n]? with
  | some b=>if b.live && decide (s.flr≤n) && decide (b.ty=elem) && Z2g b.ks ks then some ([],b.c,s.rows.set n { b with live:=false }) else none
  | none=>none
 | .w (.o (.gv (.o n) size (.c 0) hi))=>match s.rows[n]? with
  | some b=>if b.live && decide (s.flr≤n) && decide (b.ty=elem) && Z2g b.ks ks && decide (size=ks.length) then some (vB b.c (.c 0) hi,Zbm b.c hi,s.rows.set n { b with live:=false }) else none
  | none=>none
 | _=>none
def appT (P:Program) (o:Oper) (c:Call) (s:St) (k:St→T):T :=
 match c.args.toList,c.argTypes.toList with
 | [a,x],[t,t']=>if t ≠ t' then .fail else
  match P.underlying t with
  | some (.slice elem)=>match P.info? elem,Z1ab P 8 elem with
   | some inf,some ks=>match inf.zero with
    | some z=>if inf.size=0 || z.cells.size ≠ inf.size || ks.length ≠ inf.size || decide (inf.bytes > 100000000) || !Z2g ks ks || !s.scp then .fail else
     match (match s.ev x with | .w (.o xc)=>Zgy s ks xc | _=>none),Z1gu s elem ks (s.ev a) with
     | some (aZ,xe),some (bs,be,rows) =>
      Z4a (aZ++bs++[Z8f (Zrw (Zs2 be xe)) (.c 1000000)]) (k (({ s with rows:=rows++[(⟨elem,ks,Zs2 be xe,true⟩:Row)] }:St).put o.dst (one (.go (.o s.rows.length)))))
     | _,_=>.fail
    | none=>.fail
   | _,_=>.fail
  | _=>.fail
 | _,_=>.fail
def Z1ac (P:Program) (o:Oper) (t:TypeId) (l c:Operand) (s:St) (k:St→T):T :=
 match P.underlying t,Z1a0 (s.ev l),Z1a0 (s.ev c) with
 | some (.slice elem),some e,some e'=>match P.info? elem,Z1ab P 8 elem,Z7w P elem with
  | some inf,some ks,some z=>if inf.size=0 || ks.length ≠ inf.size || decide (inf.bytes > 100000000) || !s.scp then .fail else
   match Z3e ks z with
   | some es=>Z4a [Z1f5 e e',Z8f (.c 0) e,Z8f e (.c 1000000)] (k (({ s with rows:=s.rows++[(⟨elem,ks,Zdg e (Z3c es),true⟩:Row)] }:St).put o.dst (one (.go (.o s.rows.length)))))
   | none=>.fail
  | _,_,_=>.fail
 | _,_,_=>.fail
def Zoo:List SC→List SC→Bool
 | [],[]=>true
 | .i k (.c m)::xs,.i k' (.c m')::ys=>(k == k' && m == m') && Zoo xs ys
 | .b (.c m)::xs,.b (.c m')::ys=>m == m' && Zoo xs ys
 | _,_=>false
def bigZ (P:Program) (t:TypeId):Option (List K × Nat × List SC × List E):=match P.underlying t with
 | some (.array n elem)=>match Z1ab P 8 elem,Z7w P t with
  | some ks,some z=>match Z3e ks (z.take ks.length) with
   | some es=>if decide (64 < n) && decide (n≤1000000) && decide (ks.length ≠ 0) && Zoo (Z1gn (z.take ks.length) n) z then some (ks,n,z,es) else none
   | none=>none
  | _,_=>none
 | _=>none
def Z12p (o:Oper) (t:TypeId) (ks:List K) (n:Nat) (es:List E) (s:St) (k:St→T):T :=
 if s.scp then k (({ s with rows:=s.rows++[(⟨t,ks,Zdg (.c (n:Int)) (Z3c es),true⟩:Row)] }:St).put o.dst (one (.gp (.o s.rows.length) ks.length (.c 0) 0))) else .fail
def B.same:B→B→Bool
 | .c m,.c n=>m == n
 | .lt a b,.lt a' b'=>a.same a' && b.same b'
 | .le a b,.le a' b'=>a.same a' && b.same b'
 | .eq a b,.eq a' b'=>a.same a' && b.same b'
 | .nz a,.nz a'=>a.same a'
 | .not a,.not a'=>a.same a'
 | .and a b,.and a' b'=>a.same a' && b.same b'
 | .beq a b,.beq a' b'=>a.same a' && b.same b'
 | _,_=>false
def Zdk:List (Nat × Nat)→List (Nat × Nat)→Bool
 | [],[]=>true
 | x::xs,y::ys=>(x.1 == y.1 && x.2 == y.2) && Zdk xs ys
 | _,_=>false
def Z1gv:Value→Value→Bool
 | .slice none 0 0,.slice none 0 0=>true
 | .pointer none,.pointer none=>true
 | .pointer (some ⟨a,b,none⟩),.pointer (some ⟨a',b',none⟩)=>a == a' && b == b'
 | _,_=>false
def SC.same:SC→SC→Bool
 | .i k e,.i k' e'=>k == k' && e.same e'
 | .b x,.b x'=>x.same x'
 | .p n off,.p n' off'=>n == n' && off == off'
 | .s n off len cap,.s n' off' len' cap'=>(n == n' && off == off') && (len == len' && cap == cap')
 | .go g,.go g'=>g.same g'
 | .gv g size lo hi,.gv g' size' lo' hi'=>(g.same g' && size == size') && (lo.same lo' && hi.same hi')
 | .gp g size ix j,.gp g' size' ix' j'=>(g.same g' && size == size') && (ix.same ix' && j == j')
 | .gz g,.gz g'=>g.same g'
 | .f fn cs,.f fn' cs'=>fn == fn' && Zdk cs cs'
 | .l v,.l v'=>Z1gv v v'
 | _,_=>false
def Zop:List SC→List SC→Bool
 | [],[]=>true
 | x::xs,y::ys=>x.same y && Zop xs ys
 | _,_=>false
def SW.same:SW→SW→Bool
 | .o c,.o c'=>c.same c'
 | .a cs,.a cs'=>Zop cs cs'
 | _,_=>false
def Zz9:List SW→List SW→Bool
 | [],[]=>true
 | x::xs,y::ys=>x.same y && Zz9 xs ys
 | _,_=>false
def SV.same:SV→SV→Bool
 | .w x,.w y=>x.same y
 | .t xs,.t ys=>Zz9 xs ys
 | .un i,.un j=>i == j
 | _,_=>false
mutual
def K.eqv:K→K→Bool
 | .i x,.i y=>x == y
 | .b,.b=>true
 | .s t x,.s u y=>t == u && K.eqvL x y
 | _,_=>false
def K.eqvL:List K→List K→Bool
 | [],[]=>true
 | x::xs,y::ys=>K.eqv x y && K.eqvL xs ys
 | _,_=>false
end
def Zka:List Blk→List Blk→Bool
 | [],[]=>true
 | x::xs,y::ys=>(x.ty == y.ty && (Zop x.cells y.cells && x.live == y.live)) && Zka xs ys
 | _,_=>false
def Zkb:List Row→List Row→Bool
 | [],[]=>true
 | x::xs,y::ys=>(x.ty == y.ty && (K.eqvL x.ks y.ks && (x.c.same y.c && x.live == y.live))) && Zkb xs ys
 | _,_=>false
def Zza:List SV→List SV→Bool
 | [],[]=>true
 | x::xs,y::ys=>x.same y && Zza xs ys
 | _,_=>false
def Zkc:List (List K × E)→List (List K × E)→Bool
 | [],[]=>true
 | x::xs,y::ys=>(K.eqvL x.1 y.1 && x.2.same y.2) && Zkc xs ys
 | _,_=>false
def Zkd:List (Nat × List Int)→List (Nat × List Int)→Bool
 | [],[]=>true
 | x::xs,y::ys=>Zz8 x y && Zkd xs ys
 | _,_=>false
def St.same (a b:St):Bool:=(Zza a.fr b.fr && (Zka a.mem b.mem && Zkb a.rows b.rows)) && ((a.nv == b.nv && (a.nx == b.nx && (a.fl == b.fl && a.flr == b.flr))) && (Zkd a.gl b.gl && (Zkc a.hs b.hs && a.dp == b.dp)))
def Zf1:List E→List E→Bool
 | [],[]=>true
 | x::xs,y::ys=>x.same y && Zf1 xs ys
 | _,_=>false
def Z9l:List (Nat × List E)→List (Nat × List E)→Bool
 | [],[]=>true
 | x::xs,y::ys=>(x.1 == y.1 && Zf1 x.2 y.2) && Z9l xs ys
 | _,_=>false
section
variable (P:Program) (Γ:List Sum) (ih:Code→St→Z4x→T)
def Z2j (fn:FuncId):Bool:=match P.funcs[fn]? with
 | some F=>F.body.isSome && F.name != "runtime.NumGoroutine"
 | none=>false
def Z1gw (o:Oper) (c:Call) (s:St) (k:St→T):T :=
 match c.callee with
 | .value F=>match s.ev F with
  | .w (.o (.f fn caps)) =>
   let args:=c.args.toList.map s.ev++caps.map fun p=>one (.p p.1 p.2)
   if !s.sc || !Z2j P fn then .fail else
   match Zas fn Γ 0 with
   | some (g,sum)=>if !Z1a1 sum.gl s.gl then .fail else match sum.m with
    | some f=>if !(args.all (SV.sc s.nv s.mem.length s.rows.length s.nx)) then .fail else (match f s args with
     | some (aZ,es,kk)=>Z4a aZ (.call g es (k ((kk s.nv).1.put o.dst (kk s.nv).2)))
     | none=>.fail)
    | none=>match Zfb s sum.ps args with
    | some (aZ,es)=>Z4a aZ (.call g es (k ({ s with nv:=s.nv + Zx sum.rs,rows:=s.rows++Z2p (Z77 sum.rs) (Zh s.nv (Zx sum.rs)) }.put o.dst (Zon Zrx s.rows.length sum.rs (Zh s.nv (Zx sum.rs))))))
    | none=>.fail
   | none=>match P.funcs[fn]? with
    | some F=>match F.body with
     | some body =>
      ih body { s with fr:=args++List.replicate (F.ntmps - args.length) Z6 } fun out s'=>match out with
       | .exit _=>.fail
       | _=>match Zh0 P F s' with
        | some v=>k ((Z1f7 s s' v).put o.dst v)
        | none=>.fail
     | none=>.fail
    | none=>.fail
  | _=>.fail
 | .builtin .append=>appT P o c s k
 | .builtin _=>match op1 P s o with
  | some (aZ,v,s')=>Z4a aZ (k (s'.put o.dst v))
  | none=>.fail
 | .invoke _ _=>.fail
def opT (o:Oper) (s:St) (k:St→T):T :=
 match o.op with
 | .call c=>Z1gw P Γ ih o c s k
 | .makeSlice t l c=>Z1ac P o t l c s k
 | .alloc t=>(match bigZ P t with
  | some (ks,n,_,es)=>Z12p o t ks n es s k
  | none=>match op1 P s o with
   | some (aZ,v,s')=>Z4a aZ (k (s'.put o.dst v))
   | none=>.fail)
 | _=>match op1 P s o with
  | some (aZ,v,s')=>Z4a aZ (k (s'.put o.dst v))
  | none=>.fail
def Z55 (ops:Array Oper):List Oper→St→(St→T)→T
 | [],s,k=>k s
 | o::l,s,k=>Zk1 (Zvd ops o) s fun s1 =>
  match Zdj ops s1 o with
  | some true=>Zk1 (Zgx o) s1 fun s2=>opT P Γ ih o s2 fun s3=>Z55 ops l s3 k
  | some false=>Z55 ops l (s1.put o.dst Z6) k
  | none=>.fail
def Zoq (g:B):B→Bool
 | .and a b=>B.same (.and a b) g || (Zoq g a || Zoq g b)
 | w=>B.same w g
def Zh1 (w:B):B→Bool
 | .c true=>true
 | .and a b=>Zh1 w a && Zh1 w b
 | g=>Zoq g w
abbrev Zfi:=List (Nat × B × SW)
def Z56:Zfi→Nat→Option (B × SW)
 | [],_=>none
 | (t,g,x)::l,u=>if t=u then some (g,x) else Z56 l u
def Z4b (s:St) (pend:Zfi) (w:B):St:=match pend with
 | []=>s
 | pend=>{ s with fr:=pend.foldr (fun p fr=>fr.set p.1 (if Zh1 w p.2.1 then .w p.2.2 else Z6)) s.fr }
def litB (c:B) (x:Bool):B:=if x then c else Z5q c
def Z1gx (ops:Array Oper) (s:St) (pend:Zfi) (o:Oper):Option B:=match o.guard with
 | none=>some (.c true)
 | some (j,want)=>match (ops[j]?).bind (·.dst) with
  | some t=>(match Z56 pend t with
   | some (g,.o (.b c))=>some (Zai g (litB c want))
   | some _=>none
   | none=>match s.fr.getD t Z6 with
    | .w (.o (.b c))=>some (litB c want)
    | _=>none)
  | none=>none
def Z1gy (c x y:B):B:=match x,y with
 | .c true,y=>Z5q (Zai (Z5q c) (Z5q y))
 | x,.c false=>Zai c x
 | x,y=>Z5q (Zai (Z5q (Zai c x)) (Z5q (Zai (Z5q c) y)))
def Zh2 (o:Oper):Bool:=match o.op with
 | .move _ | .assign _ | .load _ _ | .nilCheck _ | .binOp _ _ _ _ _ | .unOp _ _ _ | .convert _ _ _ | .fieldAddr _ _ _ | .field _ _ _ | .indexAddr _ _ _ | .index _ _ _ | .extract _ _ | .pick _ _ _=>true
 | .call c=>(match c.callee with
  | .builtin .len | .builtin .min | .builtin .max=>true
  | _=>false)
 | _=>false
def Z1f8 (pend:Zfi) (w:B):Operand→Bool
 | .tmp t=>match Z56 pend t with
  | some (g,_)=>Zh1 w g
  | none=>true
 | _=>true
def valW (P:Program) (s:St) (pend:Zfi) (w:B) (o:Oper):Option (List B × SW):=match o.op with
 | .pick c a b=>match (Z4b s pend w).ev c with
  | .w (.o (.b (.c true)))=>(match (Z4b s pend w).ev a with | .w x=>some ([],x) | _=>none)
  | .w (.o (.b (.c false)))=>(match (Z4b s pend w).ev b with | .w x=>some ([],x) | _=>none)
  | .w (.o (.b cb))=>(match (Z4b s pend (Zai w cb)).ev a,(Z4b s pend (Zai w (Z5q cb))).ev b with
   | .w (.o (.b x)),.w (.o (.b y))=>some ([],.o (.b (Z1gy cb x y)))
   | _,_=>none)
  | _=>none
 | _=>if o.op.operands.toList.all (Z1f8 pend w) then (match op1 P (Z4b s pend w) o with
  | some (aZ,.w x,_)=>some (aZ,x)
  | _=>none) else none
def Zor (w:B) (aZ:List B):List B:=match w with
 | .c true=>aZ
 | w=>aZ.map fun b=>Z5q (Zai w (Z5q b))
def Z57 (P:Program) (ops:Array Oper):List Oper→St→Zfi→Option (List B × St × Zfi)
 | [],s,pend=>some ([],s,pend)
 | o::l,s,pend=>match o.dst,Z1gx ops s pend o with
  | some d,some w =>
   if !Zh2 o || (Z56 pend d).isSome || decide (s.fr.length≤d) then none else
   match w with
   | .c false=>Z57 P ops l (s.put (some d) Z6) pend
   | w=>match valW P s pend w o with
    | some (aZ,x)=>match (match w with
      | .c true=>Z57 P ops l (s.put (some d) (.w x)) pend
      | w=>Z57 P ops l s ((d,w,x)::pend)) with
     | some (bs,s',pend')=>some (Zor w aZ++bs,s',pend')
     | none=>none
    | none=>none
  | _,_=>none
def Zat:Zfi→St→St
 | [],s=>s
 | p::l,s=>Zat l { s with fr:=s.fr.set p.1 (.un s.nx),nx:=s.nx + 1 }
def unOK (n:Nat):SV→Bool
 | .un i=>decide (i < n)
 | _=>true
def Z1gz (P:Program) (ops:Array Oper) (s:St) (k:St→T) (alt:T):T :=
 if ops.any (fun o=>o.guard.isSome) && ops.all Zh2 then match Z57 P ops ops.toList s [] with
  | some (aZ,s',pend)=>if s'.fr.all (unOK s'.nx) then Z4a aZ (k (Zat pend s')) else alt
  | none=>alt
 else alt
def Zs8 (o:Oper):List Nat:=(o.after.toList.filter (Region.binds .any)).map (·.on)
def Z1f9 (ms:List Nat) (o:Oper):Nat:=(Zs8 o).foldl (fun m j=>(m ||| ms.getD j 0) ||| (1 <<< j)) 0
def Zlx:List Oper→List Nat→List Nat
 | [],ms=>ms
 | o::l,ms=>Zlx l (ms++[Z1f9 ms o])
def Zk2 (ops:Array Oper):List Nat:=Zlx ops.toList []
def behind (ms:List Nat) (k i:Nat):Bool:=(ms.getD k 0).testBit i
def forced (ms:List Nat) (i:Nat):Bool:=(List.range i).all fun j=>behind ms i j
def Zs9 (ms:List Nat):Nat→List Oper→Nat
 | _,[]=>0
 | i,_::l=>let r:=Zs9 ms (i + 1) l; if r=l.length && forced ms i then r + 1 else r
def Z1fa (ops:Array Oper) (ms:List Nat) (N:Nat):Bool :=
  Region.noSelect ops &&
  (List.range ops.size).all fun j=>match ops[j]? with
    | none=>false
    | some oj=>(Zs8 oj).all (fun i=>decide (i < j)) &&
      (if j < N then (List.range j).all (fun i=>match ops[i]? with
        | none=>false
        | some oi=>(oi.dst.isNone || oi.dst != oj.dst) && (behind ms j i || oi.apart ops oj))
      else forced ms j)
def Z1h0 (o:Oper):Bool:=match o.op with
 | .store _ _ _=>true
 | _=>false
def Z9m:List Oper→Nat
 | []=>0
 | o::l=>if Z1h0 o then 0 else Z9m l + 1
def Zu (ops:Array Oper) (n t:Nat):Option Nat:=(List.range n).find? fun i=>decide ((ops[i]?).bind (·.dst)=some t)
def Zos (ops:Array Oper) (s:St) (N1:Nat):Nat→Nat→Option Nat
 | 0,_=>none
 | f + 1,t=>match Zu ops N1 t with
  | none=>(match s.fr.getD t Z6 with
   | .w (.o (.p n _))=>some n
   | _=>none)
  | some i=>(match ops[i]? with
   | some o=>(match o.op with
    | .fieldAddr _ (.tmp u) _=>Zos ops s N1 f u
    | .indexAddr _ (.tmp u) _=>Zos ops s N1 f u
    | .nilCheck (.tmp u)=>Zos ops s N1 f u
    | .move (.tmp u)=>Zos ops s N1 f u
    | _=>none)
   | none=>none)
def Zh3 (ops:Array Oper) (s:St) (N1:Nat):List Oper→List Nat
 | []=>[]
 | o::l=>match o.op with
  | .store _ (.tmp ta) _=>(match Zos ops s N1 8 ta with
   | some n=>n::Zh3 ops s N1 l
   | none=>Zh3 ops s N1 l)
  | _=>Zh3 ops s N1 l
def Z9n (ms:List Nat) (N1 N i:Nat):Bool:=(List.range N).all fun k=>decide (k < N1) || behind ms k i
def Z1h1 (to frm s:St):St:={ s with mem:=to.mem++s.mem.drop frm.mem.length }
def Zh4 (D:List Nat):Nat→List Blk→List Blk
 | _,[]=>[]
 | n,b::l=>(if D.contains n then { b with live:=false } else b)::Zh4 D (n + 1) l
def Zbp (P:Program) (X:List Nat) (m0 g0:Nat) (o:Oper) (s:St):Option St:=match o.op with
 | .store t (.tmp ta) x=>match s.fr.getD ta Z6,s.ev x with
  | .w (.o (.p n off)),.w y=>match s.mem[n]? with
   | some b =>
    if o.guard.isNone && o.dst.isNone && (decide (m0≤n) || X.contains n) && b.live && (P.info? t).isSome && decide (s.fl≤n) && decide (y.cells.length=P.cellsOf t) &&
      decide (off + y.cells.length≤b.cells.length) && y.cells.all SC.one && y.scp m0 g0 then
     some { s with mem:=s.mem.set n { b with cells:=Z86 b.cells off y.cells } }
    else none
   | none=>none
  | _,_=>none
 | .assign x=>match o.dst with
  | some _=>if o.guard.isNone && (s.ev x).scp m0 g0 then some s else none
  | none=>none
 | _=>none
def Z12q (ops:Array Oper) (l:List Oper):Bool:=l.all fun o=>l.all fun o'=>match o'.dst with
 | some d=>!(o.looksAt ops).contains d
 | none=>true
def Z58 (s3:St):List Oper→List SV→List SV
 | [],fr=>fr
 | o::l,fr=>match o.op,o.dst with
  | .assign x,some d=>Z58 s3 l (fr.set d (s3.ev x))
  | _,_=>Z58 s3 l fr
def Z12r (P:Program) (X:List Nat) (m0 g0:Nat):List Oper→St→Option St
 | [],s=>some s
 | o::l,s=>match Zbp P X m0 g0 o s with
  | some s'=>Z12r P X m0 g0 l s'
  | none=>none
def Z12s (s:St) (n:Nat):Bool:=match s.mem[n]? with
 | some b=>b.live
 | none=>false
def Z12t:T→(List E→T)→T
 | .ret es,k=>k es
 | .ite b t f,k=>.ite b (Z12t t k) (Z12t f k)
 | .asrt b t,k=>.asrt b (Z12t t k)
 | _,_=>.fail
def Zve (s:St):List SC→(List E→T)→T
 | [],k=>k []
 | .i _ e::cs,k=>Zve s cs fun es=>k (e::es)
 | .b (.c x)::cs,k=>Zve s cs fun es=>k (.c (if x then 1 else 0)::es)
 | .b x::cs,k=>.ite x (Zve s cs fun es=>k (.c 1::es)) (Zve s cs fun es=>k (.c 0::es))
 | .go g::cs,k=>(match Z3o s g with
  | some (_,c)=>Zve s cs fun es=>k (c::es)
  | none=>.fail)
 | .gz _::cs,k=>Zve s cs fun es=>k (.nl::es)
 | .l (.slice none 0 0)::cs,k=>Zve s cs fun es=>k (.nl::es)
 | _,_=>.fail
def Z1k (s:St):List K→List SC→Bool
 | [],[]=>true
 | .i k::ks,.i k' _::cs=>k == k' && Z1k s ks cs
 | .b::ks,.b _::cs=>Z1k s ks cs
 | .s ty kr::ks,.go (.o n)::cs=>(match s.rows[n]? with
  | some b=>b.live && decide (s.flr≤n) && decide (b.ty=ty) && Z2g b.ks kr
  | none=>false) && Z1k s ks cs
 | .s _ _::ks,.gz g::cs=>(Z3o s g).isSome && Z1k s ks cs
 | .s _ _::ks,.l (.slice none 0 0)::cs=>Z1k s ks cs
 | _,_=>false
def Z1h2 (st:St) (s:Sh):SW→Bool
 | .o c=>!s.agg && Z1k st s.ks [c]
 | .a cs=>s.agg && Z1k st s.ks cs
def Z8m (st:St):List Sh→List SW→Bool
 | [],[]=>true
 | s::ss,w::ws=>Z1h2 st s w && Z8m st ss ws
 | _,_=>false
def Z8n:List SW→List SC
 | []=>[]
 | .o c::l=>c::Z8n l
 | .a cs::l=>cs++Z8n l
def Z2q:List SC→List Nat
 | []=>[]
 | .go (.o n)::l=>n::Z2q l
 | _::l=>Z2q l
def Zf2:List Nat→Bool
 | []=>true
 | x::l=>!l.contains x && Zf2 l
def retW (s:St) (rs:List Sh) (v:SV):T:=match v with
 | .w x=>if Z8m s rs [x] && Zf2 (Z2q (Z8n [x])) then Zve s (Z8n [x]) .ret else .fail
 | .t xs=>if Z8m s rs xs && xs.length != 1 && Zf2 (Z2q (Z8n xs)) then Zve s (Z8n xs) .ret else .fail
 | .un _=>.fail
def Zfc (P:Program) (F:Func) (rs:List Sh):Z4x:=fun out s'=>match out with
 | .exit _=>.fail
 | _=>match Zh0 P F s' with
  | some v=>retW s' rs v
  | none=>.fail
def shOf (P:Program) (t:TypeId):Option Sh:=(Z1ab P 8 t).map fun ks=>⟨Z85 P t,ks⟩
def shsOf (P:Program):List TypeId→Option (List Sh)
 | []=>some []
 | t::l=>match shOf P t,shsOf P l with
  | some a,some b=>some (a::b)
  | _,_=>none
def Zf3 (nb ng:Nat) (l:List SV):List SV:=l.map fun v=>if v.scp nb ng then v else Z6
def preT (s0:St) (o:Oper) (s:St) (k:St→T):T :=
 let sr:St:={ s with fr:=Zf3 s0.mem.length s0.rows.length s.fr,mem:=s0.mem,rows:=s0.rows,fl:=s0.mem.length,flr:=s0.rows.length }
 if !(o.op.operands.toList.all fun x=>(s.ev x).scp s0.mem.length s0.rows.length) then .fail else
 match o.op with
 | .call c=>match c.callee with
  | .value F=>match s.ev F with
   | .w (.o (.f fn caps)) =>
    let args:=c.args.toList.map s.ev++caps.map fun p=>one (.p p.1 p.2)
    if !(args.all (SV.sc s.nv s0.mem.length s0.rows.length s.nx)) || !Z2j P fn then .fail else
    match Zas fn Γ 0 with
    | some (g,sum)=>if !s.sc || !Z1a1 sum.gl s.gl || decide (nS (Z77 sum.rs) ≠ 0) || sum.m.isSome then .fail else match Zfb sr sum.ps args with
     | some (aZ,es)=>Z4a aZ (.call g es (k ({ s with nv:=s.nv + Zx sum.rs }.put o.dst (Zon Zrx 0 sum.rs (Zh s.nv (Zx sum.rs))))))
     | none=>.fail
    | none=>match P.funcs[fn]? with
     | some F=>match F.body,shsOf P F.resultTypes.toList with
      | some body,some rs =>
       Z12t (ih body { sr with fr:=args++List.replicate (F.ntmps - args.length) Z6 } (Zfc P F rs)) fun es =>
        if es.all (E.sc s.nv) && decide (nS (Z77 rs)=0) then k (s.put o.dst (Zon Zrx 0 rs es)) else .fail
      | _,_=>.fail
     | none=>.fail
   | _=>.fail
  | .builtin .append=>.fail
  | .builtin _=>match op1 P sr o with
   | some (aZ,v,_)=>if v.scp s0.mem.length s0.rows.length then Z4a aZ (k (s.put o.dst v)) else .fail
   | none=>.fail
  | .invoke _ _=>.fail
 | .store _ _ _=>.fail
 | _=>match op1 P sr o with
  | some (aZ,v,s')=>Z4a aZ (match s'.mem.drop s0.mem.length with
   | []=>if v.scp s0.mem.length s0.rows.length then k (s.put o.dst v) else .fail
   | [b]=>if b.live && b.cells.all (SC.scp s0.mem.length s0.rows.length) then (match v with
    | .w (.o (.p n 0))=>if n=s0.mem.length then k ({ s with mem:=s.mem++[b] }.put o.dst (one (.p s.mem.length 0))) else .fail
    | .w (.o (.s n 0 len cap))=>if n=s0.mem.length then k ({ s with mem:=s.mem++[b] }.put o.dst (one (.s s.mem.length 0 len cap))) else .fail
    | _=>.fail) else .fail
   | _=>.fail)
  | none=>.fail
def Zau (ops:Array Oper) (sf s0:St) (sg:Nat→Bool):Nat→List Oper→St→(St→T)→T
 | _,[],s,k=>k s
 | i,o::l,s,k=>Zk1 (Zvd ops o) s fun s1 =>
  match Zdj ops s1 o with
  | some true=>Zk1 (Zgx o) s1 fun s2 =>
   if sg i then preT P Γ ih sf o (Z1h1 sf s0 s2) fun s3=>Zau ops sf s0 sg (i + 1) l (Z1h1 s0 sf s3) k
   else preT P Γ ih s0 o s2 fun s3=>Zau ops sf s0 sg (i + 1) l s3 k
  | some false=>Zau ops sf s0 sg (i + 1) l (s1.put o.dst Z6) k
  | none=>.fail
def Zot:List T→T
 | []=>.fail
 | [t]=>t
 | t::l=>.both t (Zot l)
def Zdl (ops:Array Oper):Nat→Array Bool→St→(St→T)→T
 | 0,listed,s,k=>if (Region.ready .any ops listed).isEmpty then k s else .fail
 | f + 1,listed,s,k=>match Region.ready .any ops listed with
  | []=>k s
  | l=>Zot (l.map fun j=>match ops[j]? with
   | some o=>Z55 P Γ ih ops [o] s fun s'=>Zdl ops f (listed.setIfInBounds j true) s' k
   | none=>.fail)
def isT:B→Bool
 | .c true=>true
 | _=>false
def Z4c:List (Nat × List E)→T→T
 | [],t=>t
 | c::l,t=>.call c.1 c.2 (Z4c l t)
def rawS (o:Oper) (s:St):Option (Option (Nat × List E) × St):=match o.op with
 | .call c=>(match c.callee with
  | .value F=>(match s.ev F with
   | .w (.o (.f fn caps))=>if !s.sc || !Z2j P fn then none else
    (match Zas fn Γ 0 with
    | some (g,sum)=>if !Z1a1 sum.gl s.gl then none else (match sum.m with
     | some f=>if !((c.args.toList.map s.ev++caps.map fun p=>one (.p p.1 p.2)).all (SV.sc s.nv s.mem.length s.rows.length s.nx)) then none else (match f s (c.args.toList.map s.ev++caps.map fun p=>one (.p p.1 p.2)) with
      | some (aZ,es,kk)=>if aZ.all isT then some (some (g,es),(kk s.nv).1.put o.dst (kk s.nv).2) else none
      | none=>none)
     | none=>(match Zfb s sum.ps (c.args.toList.map s.ev++caps.map fun p=>one (.p p.1 p.2)) with
      | some (aZ,es)=>if aZ.all isT then some (some (g,es),{ s with nv:=s.nv + Zx sum.rs,rows:=s.rows++Z2p (Z77 sum.rs) (Zh s.nv (Zx sum.rs)) }.put o.dst (Zon Zrx s.rows.length sum.rs (Zh s.nv (Zx sum.rs)))) else none
      | none=>none))
    | none=>none)
   | _=>none)
  | .builtin .append=>none
  | .builtin _=>(match op1 P s o with
   | some (aZ,v,s')=>if aZ.all isT then some (none,s'.put o.dst v) else none
   | none=>none)
  | .invoke _ _=>none)
 | .makeSlice t l c=>(match P.underlying t,Z1a0 (s.ev l),Z1a0 (s.ev c) with
  | some (.slice elem),some e,some e'=>(match P.info? elem,Z1ab P 8 elem,Z7w P elem with
   | some inf,some ks,some z=>if inf.size=0 || ks.length ≠ inf.size || decide (inf.bytes > 100000000) || !s.scp then none else
    (match Z3e ks z with
    | some es=>if [Z1f5 e e',Z8f (.c 0) e,Z8f e (.c 1000000)].all isT then some (none,({ s with rows:=s.rows++[(⟨elem,ks,Zdg e (Z3c es),true⟩:Row)] }:St).put o.dst (one (.go (.o s.rows.length)))) else none
    | none=>none)
   | _,_,_=>none)
  | _,_,_=>none)
 | .alloc t=>if (bigZ P t).isSome then none else (match op1 P s o with
  | some (aZ,v,s')=>if aZ.all isT then some (none,s'.put o.dst v) else none
  | none=>none)
 | _=>(match op1 P s o with
  | some (aZ,v,s')=>if aZ.all isT then some (none,s'.put o.dst v) else none
  | none=>none)
abbrev Zsa:=List (Nat × List E) × St
def Zsa.same (a b:Zsa):Bool:=Z9l a.1 b.1 && a.2.same b.2
abbrev Zzb:=List (Array Bool × Zsa)
def Zou:List Bool→List Bool→Bool
 | [],[]=>true
 | true::l,true::m=>Zou l m
 | false::l,false::m=>Zou l m
 | _,_=>false
def Z1ad (x:Array Bool × Zsa) (l:Zzb):Zzb:=if l.any (fun y=>Zou x.1.toList y.1.toList && Zsa.same x.2 y.2) then l else x::l
def Z12u (ops:Array Oper) (li:Array Bool) (c:List (Nat × List E)) (s:St):List Nat→Zzb→Option Zzb
 | [],acc=>some acc
 | j::l,acc=>match ops[j]? with
  | some o=>if o.guard.isSome || (Zgx o).isSome then none else (match rawS P Γ o s with
   | some (d,s1)=>Z12u ops li c s l (Z1ad (li.setIfInBounds j true,(c++d.toList,s1)) acc)
   | none=>none)
  | none=>none
def Z12v (ops:Array Oper):Zzb→Zzb→Option Zzb
 | [],acc=>some acc
 | x::l,acc=>match Region.ready .any ops x.1 with
  | []=>none
  | q=>match Z12u P Γ ops x.1 x.2.1 x.2.2 q acc with
   | some acc'=>Z12v ops l acc'
   | none=>none
def Zov (ops:Array Oper):Nat→Zzb→Option (List Zsa)
 | 0,fr=>if fr.all fun x=>(Region.ready .any ops x.1).isEmpty then some (fr.map (·.2)) else none
 | f + 1,fr=>if fr.all fun x=>(Region.ready .any ops x.1).isEmpty then some (fr.map (·.2)) else match Z12v P Γ ops fr [] with
  | some fr'=>Zov ops f fr'
  | none=>none
def isSl (P:Program) (t:TypeId):Bool:=match P.underlying t with
 | some (.slice _)=>true
 | some (.struct fs)=>fs.toList.any fun f=>match P.underlying f.type with
  | some (.slice _)=>true
  | _=>false
 | _=>false
def brings (s:St) (o:Oper):Bool:=match o.op with
 | .makeSlice _ l _=>(match s.ev l with
  | .w (.o (.i _ (.c n)))=>decide (64 < n)
  | _=>true)
 | .call c=>(match c.callee with
  | .value F=>(match s.ev F with
   | .w (.o (.f fn _))=>(match P.funcs[fn]? with
    | some F=>F.resultTypes.toList.any (isSl P)
    | none=>false)
   | _=>false)
  | _=>false)
 | _=>false
def Zly (ops:Array Oper) (s:St) (k:St→T):T :=
 let ms:=Zk2 ops
 let N:=ops.size - Zs9 ms 0 ops.toList
 if (ops.toList.take N).any (brings P s) || nests ops then (match Zov P Γ ops ops.size [(Array.replicate ops.size false,([],s))] with
  | some L=>Zot (L.map fun x=>Z4c x.1 (k x.2))
  | none=>Zdl P Γ ih ops ops.size (Array.replicate ops.size false) s k) else
 let N1:=Z9m (ops.toList.take N)
 if Z1fa ops ms N && s.sc && (ops.all fun o=>match o.dst with | some d=>decide (d < s.fr.length) | none=>true) then
  let X:=Zh3 ops s N1 ((ops.toList.take N).drop N1)
  let s0:St:={ s with mem:=Zh4 X 0 s.mem }
  if X.all (fun n=>decide (s.fl≤n) && Z12s s n) && (List.range N).all (fun i=>decide (i≤N1) || (List.range i).all fun j=>decide (j < N1) || behind ms i j) && Z12q ops ((ops.toList.take N).drop N1) then
   Zau P Γ ih ops s s0 (Z9n ms N1 N) 0 (ops.toList.take N1) s0 fun s' =>
    match Z12r P X s.mem.length s.rows.length ((ops.toList.take N).drop N1) { s' with mem:=s.mem++s'.mem.drop s.mem.length } with
    | some s3=>Z55 P Γ ih ops (ops.toList.drop N) { s3 with fr:=Z58 s3 ((ops.toList.take N).drop N1) s3.fr } k
    | none=>.fail
  else .fail
 else .fail
end
inductive Ck where
 | keep
 | num (k:K)
 | row (ty:TypeId) (ks:List K)
 | arr (ty:TypeId) (ks:List K)
inductive Sk where
 | keep
 | un
 | cells (l:List Ck)
structure Zak where
 fr:List Sk
 mem:List (List Ck)
def nvC:List Ck→Nat
 | []=>0
 | .keep::l=>nvC l
 | _::l=>nvC l + 1
def ngC:List Ck→Nat
 | []=>0
 | .row _ _::l=>ngC l + 1
 | .arr _ _::l=>ngC l + 1
 | _::l=>ngC l
def Zsb:List Ck→List SC→Nat→Nat→List SC
 | .keep::l,c::cs,nv,ng=>c::Zsb l cs nv ng
 | .num (.i k)::l,_::cs,nv,ng=>.i k (.v nv)::Zsb l cs (nv + 1) ng
 | .num _::l,_::cs,nv,ng=>.b (.nz (.v nv))::Zsb l cs (nv + 1) ng
 | .row _ _::l,_::cs,nv,ng=>.go (.o ng)::Zsb l cs (nv + 1) (ng + 1)
 | .arr _ ks::l,_::cs,nv,ng=>.gp (.o ng) ks.length (.c 0) 0::Zsb l cs (nv + 1) (ng + 1)
 | _,_,_,_=>[]
def Zk3:List Ck→Nat→List Row
 | [],_=>[]
 | .keep::l,nv=>Zk3 l nv
 | .num _::l,nv=>Zk3 l (nv + 1)
 | .row ty ks::l,nv=>⟨ty,ks,.v nv,true⟩::Zk3 l (nv + 1)
 | .arr ty ks::l,nv=>⟨ty,ks,.v nv,true⟩::Zk3 l (nv + 1)
def rowM (s:St) (ty:TypeId) (ks:List K) (c:SC):Option (List B × E × List Nat):=match c with
 | .l (.slice none 0 0)=>some ([],.nl,[])
 | .gz g=>if (Z3o s g).isSome then some ([],.nl,[]) else none
 | .go (.o n)=>match s.rows[n]? with
  | some b=>if b.live && decide (s.flr≤n) && decide (b.ty=ty) && Z2g b.ks ks then some ([],b.c,[n]) else none
  | none=>none
 | .gv (.o n) size (.c 0) hi=>match s.rows[n]? with
  | some b=>if b.live && decide (s.flr≤n) && decide (b.ty=ty) && Z2g b.ks ks && decide (size=ks.length) then some (vB b.c (.c 0) hi,Zbm b.c hi,[n]) else none
  | none=>none
 | _=>none
def arrM (s:St) (ty:TypeId) (ks:List K) (c:SC):Option (E × Nat):=match c with
 | .gp (.o n) size (.c 0) 0=>match s.rows[n]? with
  | some b=>if b.live && decide (s.flr≤n) && decide (b.ty=ty) && Z2g b.ks ks && decide (size=ks.length) then some (b.c,n) else none
  | none=>none
 | _=>none
def Z2w (s:St):List Ck→List SC→List SC→Option (List B × List E × List Nat)
 | [],[],[]=>some ([],[],[])
 | .keep::l,c::cs,x::xs=>if c.same x then Z2w s l cs xs else none
 | .num k::l,_::cs,x::xs=>match Z3e [k] [x],Z2w s l cs xs with
  | some [e],some (aZ,es,us)=>some (aZ,e::es,us)
  | _,_=>none
 | .row ty ks::l,_::cs,x::xs=>match rowM s ty ks x,Z2w s l cs xs with
  | some (aZ,e,u),some (bs,es,us)=>some (aZ++bs,e::es,u++us)
  | _,_=>none
 | .arr ty ks::l,_::cs,x::xs=>match arrM s ty ks x,Z2w s l cs xs with
  | some (e,u),some (bs,es,us)=>some (bs,e::es,[u]++us)
  | _,_=>none
 | _,_,_=>none
def nvS:List Sk→Nat
 | []=>0
 | .cells l::r=>nvC l + nvS r
 | _::r=>nvS r
def ngS:List Sk→Nat
 | []=>0
 | .cells l::r=>ngC l + ngS r
 | _::r=>ngS r
def nxS:List Sk→Nat
 | []=>0
 | .un::r=>nxS r + 1
 | _::r=>nxS r
def genV (l:List Ck) (v:SV) (nv ng:Nat):SV:=match v with
 | .w (.o c)=>(match Zsb l [c] nv ng with
  | c'::_=>one c'
  | []=>Z6)
 | .w (.a cs)=>.w (.a (Zsb l cs nv ng))
 | v=>v
def Z1ae:List Sk→List SV→Nat→Nat→Nat→List SV
 | .keep::l,v::vs,nv,ng,nx=>v::Z1ae l vs nv ng nx
 | .un::l,_::vs,nv,ng,nx=>.un nx::Z1ae l vs nv ng (nx + 1)
 | .cells p::l,v::vs,nv,ng,nx=>genV p v nv ng::Z1ae l vs (nv + nvC p) (ng + ngC p) nx
 | _,_,_,_,_=>[]
def Zow:List Sk→Nat→List Row
 | [],_=>[]
 | .cells p::l,nv=>Zk3 p nv++Zow l (nv + nvC p)
 | _::l,nv=>Zow l nv
def Zvf (s:St) (l:List Ck) (v x:SV):Option (List B × List E × List Nat):=match v,x with
 | .w (.o c),.w (.o d)=>Z2w s l [c] [d]
 | .w (.a cs),.w (.a ds)=>Z2w s l cs ds
 | _,_=>none
def Z3f (s:St):List Sk→List SV→List SV→Option (List B × List E × List Nat)
 | [],[],[]=>some ([],[],[])
 | .keep::l,v::vs,x::xs=>if v.same x then Z3f s l vs xs else none
 | .un::l,_::vs,_::xs=>Z3f s l vs xs
 | .cells p::l,v::vs,x::xs=>match Zvf s p v x,Z3f s l vs xs with
  | some (aZ,es,us),some (bs,fs,ts)=>some (aZ++bs,es++fs,us++ts)
  | _,_=>none
 | _,_,_=>none
def nvM:List (List Ck)→Nat
 | []=>0
 | p::l=>nvC p + nvM l
def Z1af:List (List Ck)→List Blk→Nat→Nat→List Blk
 | p::l,b::bs,nv,ng=>{ b with cells:=Zsb p b.cells nv ng }::Z1af l bs (nv + nvC p) (ng + ngC p)
 | _,_,_,_=>[]
def Zsc:List (List Ck)→Nat→List Row
 | [],_=>[]
 | p::l,nv=>Zk3 p nv++Zsc l (nv + nvC p)
def Z6c (s:St):List (List Ck)→List Blk→List Blk→Option (List B × List E × List Nat)
 | [],[],_=>some ([],[],[])
 | p::l,b::bs,x::xs=>if b.live && x.live && decide (b.ty=x.ty) then (match Z2w s p b.cells x.cells,Z6c s l bs xs with
  | some (aZ,es,us),some (cs,fs,ts)=>some (aZ++cs,es++fs,us++ts)
  | _,_=>none) else none
 | _,_,_=>none
def Zzc (us:List Nat):Nat→List Row→List Row→Bool
 | _,[],_=>true
 | n,b::bs,x::xs=>(!b.live || (x.live && decide (b.ty=x.ty) && Z2g b.ks x.ks && b.c.same x.c && !us.contains n)) && Zzc us (n + 1) bs xs
 | _,_::_,[]=>false
def Zav (us:List Nat):Nat→List Row→List Row
 | _,[]=>[]
 | n,b::bs=>(if us.contains n then { b with live:=false } else b)::Zav us (n + 1) bs
def Zvg (pl:Zak) (s:St) (rows:List Row) (x:St):Option (List B × List E × List Nat):=match Z3f x pl.fr s.fr x.fr,Z6c x pl.mem s.mem x.mem with
 | some (aZ,es,us),some (bs,fs,ts)=>if Zf2 (us++ts) && Zzc (us++ts) 0 rows x.rows then some (aZ++bs,es++fs,us++ts) else none
 | _,_=>none
def Z1h3 (pl:Zak) (s:St) (us:List Nat):St :=
 { s with
  fr:=Z1ae pl.fr s.fr s.nv s.rows.length s.nx
  mem:=Z1af pl.mem s.mem (s.nv + nvS pl.fr) (s.rows.length + ngS pl.fr)
  rows:=Zav us 0 s.rows++(Zow pl.fr s.nv++Zsc pl.mem (s.nv + nvS pl.fr))
  nv:=s.nv + (nvS pl.fr + nvM pl.mem)
  nx:=s.nx + nxS pl.fr
  dp:=s.dp + 1 }
def Z1h4 (ih:Code→St→Z4x→T) (body:Code):Nat→St→Z4x→T
 | 0,_,_=>.fail
 | n + 1,s,k=>ih body s fun o s'=>match o with
  | .norm=>Z1h4 ih body n s' k
  | o=>k o s'
def Zh5:List Sk→Nat→List Nat
 | [],_=>[]
 | .cells [.num .b]::l,i=>i::Zh5 l (i + 1)
 | _::l,i=>Zh5 l (i + 1)
def Z12w:List Nat→St→(St→T)→T
 | [],s,k=>k s
 | t::ts,s,k=>match Zk0 s t with
  | some (.nz _)=>Z12w ts s k
  | _=>Zk1 (some t) s fun s'=>Z12w ts s' k
def Z1h5 (ih:Code→St→Z4x→T) (pl:Zak) (body:Code) (s:St) (k:Z4x):T :=
 if s.sc then match Zvg pl s [] s with
  | some (aZ,es,us)=>Z4a aZ (.loop es.length es (ih body (Z1h3 pl s us) fun o s'=>match o with
   | .norm=>Z12w (Zh5 pl.fr 0) s' fun s'=>(match Zvg pl s (Zav us 0 s.rows) s' with
    | some (bs,fs,_)=>Z4a bs (.back s.dp fs)
    | none=>.fail)
   | o=>k o s'))
  | none=>.fail
 else .fail
def Zjt (P:Program) (lp:St→Code→Option Zak) (Γ:List Sum):Nat→Code→St→Z4x→T
 | 0,_,_,_=>.fail
 | f + 1,c,s,k=>match c with
  | .skip=>k .norm s
  | .label _=>k .norm s
  | .region _ ops draw=>if draw then Zly P Γ (Zjt P lp Γ f) (tidy ops) s (k .norm) else Z1gz P ops s (k .norm) (Z55 P Γ (Zjt P lp Γ f) ops ops.toList s (k .norm))
  | .seq a b=>Zjt P lp Γ f a s fun o s'=>match o with
   | .norm=>Zjt P lp Γ f b s' k
   | o=>k o s'
  | .cond c x y=>match c with
   | .tmp t=>Zk1 (some t) s fun s'=>match Zk0 s' t with
    | some (.c true)=>Zjt P lp Γ f x s' k
    | some (.c false)=>Zjt P lp Γ f y s' k
    | _=>.fail
   | .const (.bool true)=>Zjt P lp Γ f x s k
   | .const (.bool false)=>Zjt P lp Γ f y s k
   | _=>.fail
  | .block id body=>Zjt P lp Γ f body s fun o s'=>match o with
   | .exit id'=>if id'=id then k .norm s' else k (.exit id') s'
   | o=>k o s'
  | .loop body=>match lp s body with
   | some pl=>Z1h5 (Zjt P lp Γ f) pl body s k
   | none=>Z1h4 (Zjt P lp Γ f) body f s k
  | .exit id=>k (.exit id) s
  | .ret=>k .ret s
  | _=>.fail
def Zh6 (ps:List Sh) (n:Nat):List SV :=
 let aZ:=(Zlw Z1aa 0 ps (Zh 0 (Zx ps))).map SV.w
 aZ++List.replicate (n - aZ.length) Z6
def Zq (P:Program) (lp:St→Code→Option Zak) (gl:List (Nat × List Int)) (Γ:List Sum) (fuel:Nat) (fn:FuncId) (ps rs:List Sh):T:=match P.funcs[fn]? with
 | some F=>match F.body with
  | some body=>Zjt P lp Γ fuel body ⟨Zh6 ps F.ntmps,[],[],Zx ps,0,0,0,gl,hsE (Z77 ps) (Zh 0 (Zx ps)),0⟩ (Zfc P F rs)
  | none=>.fail
 | none=>.fail
def Z7x:St→Code→Option Zak:=fun _ _=>none
end Go.Sx
namespace Go.Sx
open Go.RowKit
theorem Z1h6:∀ {a b:Int},zig a=zig b→a=b
 | .ofNat a,.ofNat b,h=>by simp only [zig] at h; simp; omega
 | .negSucc a,.negSucc b,h=>by simp only [zig] at h; simp; omega
 | .ofNat a,.negSucc b,h=>by simp only [zig] at h; omega
 | .negSucc a,.ofNat b,h=>by simp only [zig] at h; omega
theorem Z1fb:∀ {a a' b b':Nat},pr a b=pr a' b'→a=a'∧b=b'
 | 0,0,b,b',h=>by simp only [pr,Nat.pow_zero,Nat.one_mul] at h; omega
 | 0,a + 1,b,b',h=>by
  simp only [pr,Nat.pow_zero,Nat.one_mul,Nat.pow_succ] at h
  rw [Nat.mul_comm (2 ^ a) 2,Nat.mul_assoc] at h
  omega
 | a + 1,0,b,b',h=>by
  simp only [pr,Nat.pow_zero,Nat.one_mul,Nat.pow_succ] at h
  rw [Nat.mul_comm (2 ^ a) 2,Nat.mul_assoc] at h
  omega
 | a + 1,a' + 1,b,b',h=>by
  have:pr a b=pr a' b':=by
   simp only [pr,Nat.pow_succ] at h ⊢
   rw [Nat.mul_comm (2 ^ a) 2,Nat.mul_comm (2 ^ a') 2,Nat.mul_assoc,Nat.mul_assoc] at h
   omega
  obtain ⟨h1,h2⟩:=Z1fb this
  exact ⟨by omega,h2⟩
theorem Z1fc (a b:Nat):pr a b ≠ 0:=by
 unfold pr
 have:0 < 2 ^ a:=Nat.pow_pos (by omega)
 exact Nat.ne_of_gt (Nat.mul_pos this (by omega))
theorem Zvh:∀ {l l':List Int},codN l=codN l'→l=l'
 | [],[],_=>rfl
 | [],x::l,h=>absurd h.symm (Z1fc _ _)
 | x::l,[],h=>absurd h (Z1fc _ _)
 | x::l,y::l',h=>by
  obtain ⟨h1,h2⟩:=Z1fb h
  rw [Z1h6 h1,Zvh h2]
theorem Z1h7 {l l':List Int} (h:cod l=cod l'):l=l':=Zvh (Int.ofNat.inj h)
@[simp] theorem Z3 (l:List Int):dec (cod l)=l:=by
 have hex:∃ m,cod m=cod l:=⟨l,rfl⟩
 unfold dec
 rw [dif_pos hex]
 exact Z1h7 (Classical.choose_spec hex)

theorem wrap_small (n:Int) (h:Z1gi n=true):IntKind.i64.wrap n=n:=by
 simp only [Z1gi,Z1kr,Z1ks] at h
 rw [IntKind.wrap_i64]
 omega
section
variable (R:Fo) (r:List Int)
theorem Zbq (k:IntKind) (n:Int) (e:E) (h:e.den R r=k.wrap n):(Z1gj k n e).den R r=k.wrap n:=by
 unfold Z1gj
 split
 ·rename_i hc
  simp only [Z1kr,beq_iff_eq] at hc
  obtain ⟨rfl,hs⟩:=hc
  simp [E.den,wrap_small n hs]
 ·exact h
theorem Zox (k:IntKind) (a b:E):(Z1a7 k a b).den R r=k.wrap (a.den R r + b.den R r):=by
 unfold Z1a7; split
 ·exact Zbq R r _ _ _ rfl
 ·rfl
theorem Zbr (k:IntKind) (a b:E):(Zs1 k a b).den R r=k.wrap (a.den R r - b.den R r):=by
 unfold Zs1; split
 ·exact Zbq R r _ _ _ rfl
 ·rfl
theorem Z12x (k:IntKind) (a b:E):(Z1gk k a b).den R r=k.wrap (a.den R r * b.den R r):=by
 unfold Z1gk; split
 ·exact Zbq R r _ _ _ rfl
 ·rfl
theorem Z12y (k:IntKind) (a b:E):(Z1gl k a b).den R r=k.wrap ((a.den R r).tdiv (b.den R r)):=by
 unfold Z1gl; split
 ·exact Zbq R r _ _ _ rfl
 ·rfl
theorem Z12z (a b:E):(Z1gm a b).den R r=(a.den R r).tmod (b.den R r):=by
 unfold Z1gm; split <;> rfl
theorem Z1ag (a b:E):(mkMn a b).den R r=if b.den R r < a.den R r then b.den R r else a.den R r:=by
 unfold mkMn; split <;> rfl
theorem Z1ah (a b:E):(mkMx a b).den R r=if b.den R r > a.den R r then b.den R r else a.den R r:=by
 unfold mkMx; split <;> rfl
theorem Z1ai (k:IntKind) (a:E):(mkCv k a).den R r=k.wrap (a.den R r):=by
 unfold mkCv; split
 ·exact Zbq R r _ _ _ rfl
 ·rfl
theorem Zbs (a b:E):(Z128 a b).den R r=decide (a.den R r < b.den R r):=by
 unfold Z128; split <;> rfl
theorem Z31 (a b:E):(Z8f a b).den R r=decide (a.den R r≤b.den R r):=by
 unfold Z8f; split <;> rfl
theorem Zlz (a b:E):(Z1f5 a b).den R r=(a.den R r == b.den R r):=by
 unfold Z1f5; split <;> rfl
theorem Z3g (a:B):(Z5q a).den R r=!(a.den R r):=by
 unfold Z5q; split <;> simp [B.den]
theorem Z59 (a b:B):(Zai a b).den R r=(a.den R r && b.den R r):=by
 unfold Zai; split <;> simp [B.den]
theorem Zh7 (a b:B):(Z12d a b).den R r=(a.den R r == b.den R r):=by
 unfold Z12d; split <;> simp [B.den,Z3g]
theorem Z2b:∀ l:List E,(Z8j l).den R r=cod (l.map (E.den R r))
 | []=>rfl
 | x::l=>by simp only [Z8j,E.den,L2.den,Z2b l,Z3,Z1kk]
theorem Z3u:∀ {a:E} {l:List E},Z7v a=some l→dec (a.den R r)=l.map (E.den R r):=by
 intro a
 induction a with
 | nl=>intro l h; simp only [Z7v,Option.some.injEq] at h; subst h; simp [E.den]
 | l2 o x y ihx ihy =>
  intro l h
  cases o <;> simp only [Z7v] at h <;> try (cases h; done)
  ·simp only [Option.map_eq_some_iff] at h
   obtain ⟨m,hm,rfl⟩:=h
   simp [E.den,L2.den,ihy hm]
  ·simp only [Option.map_eq_some_iff] at h
   obtain ⟨m,hm,rfl⟩:=h
   simp [E.den,L2.den,ihx hm]
 | _=>intro l h; simp [Z7v] at h
theorem Z4q (a:E):(Zrw a).den R r=((dec (a.den R r)).length:Int):=by
 unfold Zrw
 split
 ·rename_i l h
  simp [E.den,Z3u R r h]
 ·rfl
theorem Zfj (a i:E):(Z1f4 a i).den R r=(dec (a.den R r)).getD (i.den R r).toNat 0:=by
 unfold Z1f4
 split
 ·rename_i l n h
  split
  ·rename_i hn
   rw [Z3u R r h]
   simp only [E.den]
   by_cases hl:n.toNat < l.length
   ·simp [List.getD,hl]
   ·simp [List.getD,List.getElem?_eq_none (Nat.le_of_not_lt hl),E.den,L2.den,Z3u R r h]
  ·rfl
 ·rfl
theorem Z130 (a i x:E):(Zz0 a i x).den R r=cod ((dec (a.den R r)).set (i.den R r).toNat (x.den R r)):=by
 unfold Zz0
 split
 ·rename_i l n h
  split
  ·rw [Z2b,Z3u R r h,List.map_set]; rfl
  ·rfl
 ·rfl
theorem Zdm (a n:E):(Zbm a n).den R r=cod ((dec (a.den R r)).take (n.den R r).toNat):=by
 unfold Zbm
 split
 ·rename_i l m h
  rw [Z2b,Z3u R r h,List.map_take]; rfl
 ·rfl
theorem Zzd (a n:E):dec ((Zod a n).den R r)=(dec (a.den R r)).drop (n.den R r).toNat:=by
 unfold Zod
 split
 ·rename_i l m h
  rw [Z2b,Z3u R r h,List.map_drop,Z3]; rfl
 ·simp [E.den]
 ·simp [E.den,L2.den]
theorem Zze (l:List E):∀ a:E,dec ((l.foldl (fun a x=>.l2 .snoc a x) a).den R r)=dec (a.den R r)++l.map (E.den R r):=by
 induction l with
 | nil=>intro a; simp
 | cons x l ih=>intro a; rw [List.foldl_cons,ih]; simp [E.den,L2.den]
theorem Zoy (a b:E):dec ((Zs2 a b).den R r)=dec (a.den R r)++dec (b.den R r):=by
 unfold Zs2
 split
 ·rename_i l h
  rw [Zze,Z3u R r h]
 ·split
  ·simp [E.den]
  ·simp [E.den,L2.den]
theorem Zoz (n x:E):(Zdg n x).den R r=cod (List.replicate (n.den R r).toNat (x.den R r)):=by
 unfold Zdg
 split
 ·split
  ·rw [Z2b]; simp [E.den]
  ·rfl
 ·rfl
theorem Zvi (size:Nat) (e:E) (j:Nat):(comp size e j).den R r=if size=1 then e.den R r else (dec (e.den R r)).getD j 0:=by
 unfold comp
 split
 ·rfl
 ·rw [Zfj]; simp [E.den]
theorem Zbt {ks:List K} {es:List E} (h:es.length=ks.length):elt ks ((Z3c es).den R r)=es.map (E.den R r):=by
 unfold elt
 match es,h with
 | [],h=>rw [if_neg (by rw [← h]; simp)]; simp [Z3c,Z8j,E.den]
 | [x],h=>rw [if_pos (by rw [← h]; rfl)]; rfl
 | x::y::l,h=>rw [if_neg (by rw [← h]; simp)]; simp only [Z3c]; rw [Z2b,Z3]
theorem Zm0 {n:Int} (h0:0≤n) (h1:n≤9223372036854775807):IntKind.i64.wrap n=n:=by
 rw [IntKind.wrap_i64]
 omega
theorem Zbu {a b:E} (h0:0≤a.den R r + b.den R r) (h1:a.den R r + b.den R r≤9223372036854775807):(Zjw a b).den R r=a.den R r + b.den R r:=by
 unfold Zjw
 split
 ·simp [E.den]
 ·simp [E.den]
 ·rw [Zox,Zm0 h0 h1]
theorem Z6d {a b:E} (h0:0≤a.den R r - b.den R r) (h1:a.den R r - b.den R r≤9223372036854775807):(Z3p a b).den R r=a.den R r - b.den R r:=by
 unfold Z3p
 split
 ·simp [E.den]
 ·rw [Zbr,Zm0 h0 h1]
theorem E.den_app (x:List Int):∀ a:E,a.sc r.length=true→a.den R (r++x)=a.den R r:=by
 intro a
 induction a <;> simp only [E.sc,E.den,Z1kr,Z1ks] <;> intro h
 case v i=>simp [List.getElem?_append_left h]
 all_goals simp_all
theorem B.den_app (x:List Int):∀ a:B,a.sc r.length=true→a.den R (r++x)=a.den R r:=by
 intro a
 induction a <;> simp only [B.sc,B.den,Z1kr] <;> intro h
 all_goals first
  | rfl
  | (rw [E.den_app R r x _ h.1,E.den_app R r x _ h.2])
  | (rw [E.den_app R r x _ h])
  | simp_all
end
def Env.le (e e':Env):Prop:=∃ a b c d,e'.r=e.r++a∧e'.β=e.β++b∧e'.σ=e.σ++c∧e'.ω=e.ω++d∧e'.R=e.R
theorem Env.le_refl (e:Env):e.le e:=⟨[],[],[],[],by simp⟩
theorem Env.le_trans {a b c:Env} (h:a.le b) (h':b.le c):a.le c:=by
 obtain ⟨x1,x2,x3,x4,p1,p2,p3,p4,p5⟩:=h
 obtain ⟨y1,y2,y3,y4,q1,q2,q3,q4,q5⟩:=h'
 exact ⟨x1++y1,x2++y2,x3++y3,x4++y4,by simp [p1,p2,p3,p4,p5,q1,q2,q3,q4,q5]⟩
structure Env.like (nb ng:Nat) (e e':Env):Prop where
 r:e'.r=e.r
 R:e'.R=e.R
 ω:e'.ω=e.ω
 β:∀ n,n < nb→e'.β.getD n 0=e.β.getD n 0
 σ:∀ n,n < ng→e'.σ.getD n undef=e.σ.getD n undef
theorem G.val_like {nb ng:Nat} {e e':Env} (h:Env.like nb ng e e'):∀ g:G,g.scp ng=true→g.val e'=g.val e:=by
 intro g hg
 cases g with
 | a i=>simp only [G.val,h.R]
 | o n=>simp only [G.scp,Z1ks] at hg; simp only [G.val]; rw [h.σ n hg]
 | e g ix j x=>simp only [G.val,h.R,h.r]
theorem SC.den_like {nb ng:Nat} {e e':Env} (h:Env.like nb ng e e'):∀ c:SC,c.scp nb ng=true→c.den e'=c.den e:=by
 intro c hc
 cases c <;> simp only [SC.scp,Z1ks] at hc <;> simp only [SC.den,h.r,h.R,Z33]
 case p n off=>rw [h.β n hc]
 case s n off l c=>rw [h.β n hc]
 case go g=>rw [G.val_like h g hc]
 case gv g size lo hi=>rw [G.val_like h g hc]
 case gp g size ix j=>rw [G.val_like h g hc]
 case gz g=>rw [G.val_like h g hc]
 case f fn caps =>
  congr 2
  apply List.map_congr_left
  intro x hx
  rw [h.β _ (by simpa using List.all_eq_true.1 hc x hx)]
theorem Z2m {nb ng:Nat} {e e':Env} (h:Env.like nb ng e e') {cs:List SC} (hc:cs.all (SC.scp nb ng)=true):cs.map (SC.den e')=cs.map (SC.den e) :=
 List.map_congr_left fun x hx=>SC.den_like h x (List.all_eq_true.1 hc x hx)
theorem SW.den_like {nb ng:Nat} {e e':Env} (h:Env.like nb ng e e'):∀ c:SW,c.scp nb ng=true→c.den e'=c.den e:=by
 intro c hc
 cases c with
 | o c=>exact SC.den_like h c hc
 | a cs=>simp only [SW.den]; rw [Z2m h hc]
theorem SV.den_like {nb ng:Nat} {e e':Env} (h:Env.like nb ng e e'):∀ c:SV,c.scp nb ng=true→c.den e'=c.den e:=by
 intro c hc
 cases c with
 | w x=>exact SW.den_like h x hc
 | t xs=>simp only [SV.den]; rw [List.map_congr_left fun x hx=>SW.den_like h x (List.all_eq_true.1 hc x hx)]
 | un i=>simp only [SV.den,h.ω]
theorem Z15 {α:Type} (l x:List α) (n:Nat) (d:α) (h:n < l.length):(l++x).getD n d=l.getD n d:=by
 simp [List.getD,List.getElem?_append_left h]
theorem G.val_le {e e':Env} (h:e.le e'):∀ g:G,g.sc e.r.length e.σ.length=true→g.val e'=g.val e:=by
 obtain ⟨a,b,s,d,h1,h2,h3,h4,h5⟩:=h
 intro g hg
 cases g with
 | a i=>simp only [G.val,h5]
 | o n=>simp only [G.sc,Z1ks] at hg; simp only [G.val,h3]; rw [Z15 _ _ _ _ hg]
 | e g ix j x=>simp only [G.sc] at hg; simp only [G.val,h1,h5]; rw [E.den_app _ _ _ _ hg]
theorem SC.den_le {e e':Env} (h:e.le e'):∀ c:SC,c.sc e.r.length e.β.length e.σ.length=true→c.den e'=c.den e:=by
 have hg:=G.val_le h
 obtain ⟨a,b,s,d,h1,h2,h3,h4,h5⟩:=h
 intro c hc
 cases c <;> simp only [SC.sc,Z1ks,Z1kr] at hc <;> simp only [SC.den,h1,h2,h5,Z33]
 case i k x=>rw [E.den_app _ _ _ _ hc]
 case b x=>rw [B.den_app _ _ _ _ hc]
 case p n off=>rw [Z15 _ _ _ _ hc]
 case s n off l c=>rw [Z15 _ _ _ _ hc]
 case go g=>rw [hg g hc]
 case gv g size lo hi=>rw [hg g hc.1,E.den_app _ _ _ _ hc.2.1,E.den_app _ _ _ _ hc.2.2]
 case gp g size ix j=>rw [hg g hc.1,E.den_app _ _ _ _ hc.2]
 case gz g=>rw [hg g hc]
 case f fn caps =>
  congr 2
  apply List.map_congr_left
  intro x hx
  rw [Z15 _ _ _ _ (by simpa using List.all_eq_true.1 hc x hx)]
theorem Zdn {e e':Env} (h:e.le e') {cs:List SC} (hc:cs.all (SC.sc e.r.length e.β.length e.σ.length)=true):cs.map (SC.den e')=cs.map (SC.den e) :=
 List.map_congr_left fun x hx=>SC.den_le h x (List.all_eq_true.1 hc x hx)
theorem SW.den_le {e e':Env} (h:e.le e'):∀ c:SW,c.sc e.r.length e.β.length e.σ.length=true→c.den e'=c.den e:=by
 intro c hc
 cases c with
 | o c=>exact SC.den_le h c hc
 | a cs=>simp only [SW.den]; rw [Zdn h hc]
theorem SV.den_le {e e':Env} (h:e.le e'):∀ c:SV,c.sc e.r.length e.β.length e.σ.length e.ω.length=true→c.den e'=c.den e:=by
 intro c hc
 cases c with
 | w x=>exact SW.den_le h x hc
 | t xs=>simp only [SV.den]; rw [List.map_congr_left fun x hx=>SW.den_le h x (List.all_eq_true.1 hc x hx)]
 | un i =>
  obtain ⟨a,b,s,d,h1,h2,h3,h4,h5⟩:=h
  simp only [SV.sc,Z1ks] at hc
  simp only [SV.den,h4]
  rw [Z15 _ _ _ _ hc]
@[simp] theorem SC.den_ofV (e:Env) (v:Value):(SC.ofV v).den e=v:=by
 cases v <;> simp [SC.ofV,SC.den,B.den,E.den]
@[simp] theorem SW.den_ofV (e:Env) (v:Value):(SW.ofV v).den e=v:=by
 cases v <;> simp [SW.ofV,SW.den,SC.den_ofV]
 case agg cs =>
  rw [show (SC.den e ∘ SC.ofV)=id from funext fun v=>SC.den_ofV e v]
  simp

end Go.Sx
namespace Go.Sx
open Go.RowKit
structure Bas where
 w:World
 X:Nat→Prop
def Bas.may (b:Bas) (k:Nat):Prop:=b.w.heap.size≤k∨b.X k
structure Zv (b:Bas) (w:World):Prop where
 os:w.os=b.w.os
 tape:w.tape=b.w.tape
 output:w.output=b.w.output
 size:b.w.heap.size≤w.heap.size
 block:∀ k,¬ b.may k→w.heap[k]?=b.w.heap[k]?
theorem Zv.refl (b:Bas):Zv b b.w:=⟨rfl,rfl,rfl,Nat.le_refl _,fun _ _=>rfl⟩
theorem Zv.grow {b:Bas} {w w':World} (h:Zv b w) (k:Below w.heap.size w w'):Zv b w' :=
 ⟨k.os.trans h.os,k.tape.trans h.tape,k.output.trans h.output,Nat.le_trans h.size k.size,fun i hi=>(k.block i (by
  have:¬ b.w.heap.size≤i:=fun hh=>hi (.inl hh)
  have:=h.size
  omega)).trans (h.block i hi)⟩
theorem Zv.trans {b c:Bas} {w:World} (h:Zv b c.w) (k:Zv c w) (hk:∀ i,c.may i→b.may i):Zv b w :=
 ⟨k.os.trans h.os,k.tape.trans h.tape,k.output.trans h.output,Nat.le_trans h.size k.size,fun i hi=>(k.block i (fun hh=>hi (hk i hh))).trans (h.block i hi)⟩
theorem Zv.alloc {b:Bas} {w:World} (h:Zv b w) (o:Obj):Zv b (w.alloc o):=h.grow ((Below.refl _ _).alloc (Nat.le_refl _) o)
theorem Zv.setRow {b:Bas} {w:World} (h:Zv b w) {g:Nat} (hg:b.may g) (cs:Array Value):Zv b (w.setRow g cs) :=
 ⟨h.os,h.tape,h.output,by simpa using h.size,fun i hi=>(setRow_other w g i cs (fun e=>hi (by rw [e]; exact hg))).trans (h.block i hi)⟩
theorem Zv.grown {b:Bas} {w w':World} {row:Option Nat} (h:Zv b w) (hg:w.grownBy w' row) (hr:∀ k,row=some k→b.may k):Zv b w' :=
 ⟨hg.os.trans h.os,hg.tape.trans h.tape,hg.output.trans h.output,Nat.le_trans h.size hg.size,fun i hi=>(hg.block i (by
  have:¬ b.w.heap.size≤i:=fun hh=>hi (.inl hh)
  have:=h.size
  omega) (fun e=>hi (hr i e.symm))).trans (h.block i hi)⟩
theorem Zv.below {w0 w:World} (h:Zv ⟨w0,fun _=>False⟩ w):Below w0.heap.size w0 w :=
 ⟨h.os,h.tape,h.output,h.size,fun k hk=>h.block k (by rintro (hh | hh); exact absurd hh (by show ¬ w0.heap.size≤k; omega); exact hh)⟩
theorem Zv.cell {b:Bas} {w:World} (h:Zv b w) {p:Addr} (hp:¬ b.may p.block):w.cell? p=b.w.cell? p:=World.cell?_of_block (w:=b.w) (h.block p.block hp)
def SlX (b:Bas) (ks:List K) (v:Value) (c:Int):Prop:=Z76 b.w b.X (.s 0 ks) v c
def GlX (gl:List (Nat × List Int)) (b:Bas):Prop:=Zoa gl b.w∧∀ p ∈ gl,p.2 ≠ []→¬ b.X p.1
structure Rep (e:Env) (W0:Bas) (s:St) (w:World):Prop where
 below:Zv W0 w
 nb:e.β.length=s.mem.length
 ng:e.σ.length=s.rows.length
 nv:e.r.length=s.nv
 nx:e.ω.length=s.nx
 blk:∀ n b,s.mem[n]?=some b→b.live=true→w.heap[e.β.getD n 0]?=some (.cells (b.cells.map (SC.den e)).toArray b.ty (0,0))
 own:∀ n b,s.mem[n]?=some b→b.live=true→s.fl≤n→W0.may (e.β.getD n 0)
 sep:∀ n m b c,s.mem[n]?=some b→s.mem[m]?=some c→b.live=true→c.live=true→e.β.getD n 0=e.β.getD m 0→n=m
 row:∀ n b,s.rows[n]?=some b→b.live=true→Zt w b.ty b.ks ((G.o n).val e) (b.c.den e.R e.r)
 rown:∀ n b,s.rows[n]?=some b→b.live=true→s.flr≤n→∀ k,Z7 ((G.o n).val e)=some k→W0.may k
 rsep:∀ n m b c k,s.rows[n]?=some b→s.rows[m]?=some c→b.live=true→c.live=true→Z7 ((G.o n).val e)=some k→Z7 ((G.o m).val e)=some k→n=m
 brs:∀ n m b c,s.mem[n]?=some b→s.rows[m]?=some c→b.live=true→c.live=true→Z7 ((G.o m).val e) ≠ some (e.β.getD n 0)
 gl:GlX s.gl W0
 arg:∀ i ks c,s.hs[i]?=some (ks,c)→SlX W0 ks ((G.a i).val e) (c.den e.R e.r)
theorem Zoa.below {gl:List (Nat × List Int)} {B:Nat} {w w':World} (h:Zoa gl w) (hb:Below B w w') (hB:w.heap.size≤B):Zoa gl w':=by
 intro p hp j n hj
 have h0:=h p hp j n hj
 have hlt:=World.block_lt_of_cell? _ _ h0
 rw [hb.cell (p:=⟨p.1,j,none⟩) (Nat.lt_of_lt_of_le hlt hB)]
 exact h0
theorem GlX.now {gl:List (Nat × List Int)} {b:Bas} {w:World} (h:GlX gl b) (hb:Zv b w):Zoa gl w:=by
 intro p hp j n hj
 have h0:=h.1 p hp j n hj
 have hlt:=World.block_lt_of_cell? _ _ h0
 rw [hb.cell (p:=⟨p.1,j,none⟩) (by
  rintro (hh | hh)
  ·exact absurd hlt (Nat.not_lt.2 hh)
  ·exact h.2 p hp (by intro h0'; rw [h0'] at hj; simp at hj) hh)]
 exact h0
theorem Rep.glw {e:Env} {W0:Bas} {s:St} {w:World} (h:Rep e W0 s w):Zoa s.gl w:=h.gl.now h.below
theorem Z1c {w:World} {n:Nat} {o:Obj} (h:w.heap[n]?=some o):n < w.heap.size:=(Array.getElem?_eq_some_iff.1 h).1
theorem St.scp_spec {s:St} (h:s.scp=true):(∀ v ∈ s.fr,SV.scp s.mem.length s.rows.length v=true) ∧
  (∀ b ∈ s.mem,b.cells.all (SC.scp s.mem.length s.rows.length)=true):=by
 simp only [St.scp,Z1kr] at h
 exact ⟨List.all_eq_true.1 h.1,List.all_eq_true.1 h.2⟩
theorem E.same_eq:∀ a b:E,a.same b=true→a=b
 | .c m,b,h=>by cases b <;> simp [E.same] at h; rw [h]
 | .v m,b,h=>by cases b <;> simp [E.same] at h; rw [h]
 | .add k x y,b,h=>by cases b <;> simp [E.same] at h; rw [h.1,E.same_eq x _ h.2.1,E.same_eq y _ h.2.2]
 | .sub k x y,b,h=>by cases b <;> simp [E.same] at h; rw [h.1,E.same_eq x _ h.2.1,E.same_eq y _ h.2.2]
 | .mul k x y,b,h=>by cases b <;> simp [E.same] at h; rw [h.1,E.same_eq x _ h.2.1,E.same_eq y _ h.2.2]
 | .quo k x y,b,h=>by cases b <;> simp [E.same] at h; rw [h.1,E.same_eq x _ h.2.1,E.same_eq y _ h.2.2]
 | .rem x y,b,h=>by cases b <;> simp [E.same] at h; rw [E.same_eq x _ h.1,E.same_eq y _ h.2]
 | .mn x y,b,h=>by cases b <;> simp [E.same] at h; rw [E.same_eq x _ h.1,E.same_eq y _ h.2]
 | .mx x y,b,h=>by cases b <;> simp [E.same] at h; rw [E.same_eq x _ h.1,E.same_eq y _ h.2]
 | .cv k x,b,h=>by cases b <;> simp [E.same] at h; rw [h.1,E.same_eq x _ h.2]
 | .nl,b,h=>by cases b <;> simp [E.same] at h; rfl
 | .ln x,b,h=>by cases b <;> simp [E.same] at h; rw [E.same_eq x _ h]
 | .l2 o x y,b,h=>by cases b <;> simp [E.same] at h; rw [h.1,E.same_eq x _ h.2.1,E.same_eq y _ h.2.2]
 | .l3 x y z,b,h=>by cases b <;> simp [E.same] at h; rw [E.same_eq x _ h.1,E.same_eq y _ h.2.1,E.same_eq z _ h.2.2]
theorem G.same_eq:∀ a b:G,a.same b=true→a=b
 | .a i,b,h=>by cases b <;> simp [G.same] at h; rw [h]
 | .o i,b,h=>by cases b <;> simp [G.same] at h; rw [h]
 | .e g ix j x,b,h=>by cases b <;> simp [G.same] at h; rw [G.same_eq g _ h.1.1,E.same_eq _ _ h.1.2,h.2.1,E.same_eq _ _ h.2.2]
theorem Z53.grown {w w':World} {ks:List K} {v:Value} {c:Int} {B:Nat} (h:Z53 w ks v c) (hb:Below B w w') (hB:w.heap.size≤B):Z53 w' ks v c:=by
 rcases h with h | ⟨b,off,cap,h1,h2,h3,h4,h5⟩
 ·exact .inl h
 ·refine .inr ⟨b,off,cap,h1,h2,h3,h4,fun j u hj=>?_⟩
  have h0:=h5 j u hj
  rw [hb.cell (p:=⟨b,off + j,none⟩) (Nat.lt_of_lt_of_le (World.block_lt_of_cell? _ _ h0) hB)]
  exact h0
theorem Z76.base {w:World} {X:Nat→Prop} {ty:TypeId} {ks:List K} {v:Value} {c:Int} (h:Z76 w X (.s ty ks) v c):Z53 w ks v c∧(Zi ks (dec c) ≠ []→∀ k,Zdi v=some k→¬ X k):=by
 rw [Z76] at h
 exact h.1
theorem Z53.now {b:Bas} {w:World} {ks:List K} {v:Value} {c:Int} (h:Z53 b.w ks v c) (hx:Zi ks (dec c) ≠ []→∀ k,Zdi v=some k→¬ b.X k) (hb:Zv b w):Z53 w ks v c:=by
 rcases h with h | ⟨g,off,cap,h1,h2,h3,h4,h5⟩
 ·exact .inl h
 ·refine .inr ⟨g,off,cap,h1,h2,h3,h4,fun j u hj=>?_⟩
  have h0:=h5 j u hj
  have hlt:=World.block_lt_of_cell? _ _ h0
  rw [hb.cell (p:=⟨g,off + j,none⟩) (by
   rintro (hh | hh)
   ·exact absurd hlt (Nat.not_lt.2 hh)
   ·exact hx (by intro h0'; rw [h0'] at hj; simp at hj) g (by rw [h1]; rfl) hh)]
  exact h0
theorem SlX.now {b:Bas} {w:World} {ks:List K} {v:Value} {c:Int} (h:SlX b ks v c) (hb:Zv b w):Z53 w ks v c:=Z53.now h.base.1 h.base.2 hb
mutual
theorem Z76.imp {w w':World} {X X':Nat→Prop} (hw:∀ ks v c,Z53 w ks v c→(Zi ks (dec c) ≠ []→∀ k,Zdi v=some k→¬ X k)→Z53 w' ks v c∧(Zi ks (dec c) ≠ []→∀ k,Zdi v=some k→¬ X' k)):∀ (k:K) (v:Value) (c:Int),Z76 w X k v c→Z76 w' X' k v c
 | .s ty ks,v,c,h=>by
  rw [Z76] at h ⊢
  exact ⟨hw ks v c h.1.1 h.1.2,fun x hx=>Zdc.imp hw ks _ (h.2 x hx)⟩
 | .i k,v,c,h=>by simp only [Z76]
 | .b,v,c,h=>by simp only [Z76]
theorem Zdc.imp {w w':World} {X X':Nat→Prop} (hw:∀ ks v c,Z53 w ks v c→(Zi ks (dec c) ≠ []→∀ k,Zdi v=some k→¬ X k)→Z53 w' ks v c∧(Zi ks (dec c) ≠ []→∀ k,Zdi v=some k→¬ X' k)):∀ (ks:List K) (ns:List Int),Zdc w X ks ns→Zdc w' X' ks ns
 | [],ns,h=>by cases ns <;> exact trivial
 | k::ks,[],h=>trivial
 | k::ks,n::ns,h=>by
  rw [Zdc] at h ⊢
  exact ⟨Z76.imp hw k _ _ h.1,Zdc.imp hw ks ns h.2⟩
end
theorem SlX.next {b:Bas} {w:World} {ks:List K} {v:Value} {c:Int} (h:SlX b ks v c) (hb:Zv b w):SlX ⟨w,b.X⟩ ks v c :=
 Z76.imp (fun _ _ _ h hx=>⟨Z53.now h hx hb,hx⟩) _ _ _ h
theorem SlX.nowN {b:Bas} {w:World} {ks:List K} {v:Value} {c:Int} (h:SlX b ks v c) (hb:Zv b w):SlN w ks v c :=
 Z76.imp (fun _ _ _ h hx=>⟨Z53.now h hx hb,fun _ _ _ hh=>hh.elim⟩) _ _ _ h
theorem SlN.now {w:World} {ks:List K} {v:Value} {c:Int} (h:SlN w ks v c):Z53 w ks v c:=h.base.1
theorem SlN.grown {w w':World} {ks:List K} {v:Value} {c:Int} {B:Nat} (h:SlN w ks v c) (hb:Below B w w') (hB:w.heap.size≤B):SlN w' ks v c :=
 Z76.imp (fun _ _ _ h hx=>⟨h.grown hb hB,hx⟩) _ _ _ h
def Z26:List K→Bool
 | []=>true
 | .s _ _::_=>false
 | _::ks=>Z26 ks
theorem Zaw:∀ {a b:List K},Z2g a b=true→Z26 a=true∧Z26 b=true
 | [],[],_=>⟨rfl,rfl⟩
 | [],_::_,h=>by simp [Z2g] at h
 | _::_,[],h=>by simp [Z2g] at h
 | x::xs,y::ys,h=>by
  simp only [Z2g,Z1kr] at h
  have ih:=Zaw h.2
  cases x <;> cases y <;> simp_all [K.same,Z26]
theorem Zdc.plain {w:World} {X:Nat→Prop}:∀ {ks:List K} {ns:List Int},Z26 ks=true→Zdc w X ks ns
 | [],ns,h=>by cases ns <;> exact trivial
 | k::ks,[],h=>trivial
 | .i k::ks,n::ns,h=>by simp only [Zdc,Z76,true_and]; exact Zdc.plain (by simpa [Z26] using h)
 | .b::ks,n::ns,h=>by simp only [Zdc,Z76,true_and]; exact Zdc.plain (by simpa [Z26] using h)
 | .s ty kr::ks,n::ns,h=>by simp [Z26] at h
theorem Z53.toX {b:Bas} {ks:List K} {v:Value} {c:Int} (hk:Z26 ks=true) (h:Z53 b.w ks v c) (hx:Zi ks (dec c) ≠ []→∀ k,Zdi v=some k→¬ b.X k):SlX b ks v c:=by
 unfold SlX
 rw [Z76]
 exact ⟨⟨h,hx⟩,fun _ _=>Zdc.plain hk⟩
theorem Z53.toN {w:World} {ks:List K} {v:Value} {c:Int} (hk:Z26 ks=true) (h:Z53 w ks v c):SlN w ks v c:=Z53.toX (b:=⟨w,fun _=>False⟩) hk h fun _ _ _ hh=>hh
theorem SlN.toX {w:World} {ks:List K} {v:Value} {c:Int} (h:SlN w ks v c):SlX ⟨w,fun _=>False⟩ ks v c:=h
theorem Z5r:dec 0=[]:=Z3 []
theorem Zfk:hdV 0=.slice none 0 0:=by unfold hdV; rw [Z5r]
theorem Zm1:ctN 0=0:=by unfold ctN; rw [Z5r]; rfl
theorem Z1aj {b:Bas} {ks:List K}:SlX b ks (hdV 0) (ctN 0):=by
 unfold SlX
 rw [Z76,Zfk,Zm1,Z5r]
 exact ⟨⟨.inl ⟨⟨_,rfl⟩,Z5r⟩,fun h=>absurd rfl h⟩,fun x hx=>by simp at hx⟩
theorem Z131 (n:Int):∃ a l c,hdV n=.slice a l c:=by
 unfold hdV
 split
 ·split <;> exact ⟨_,_,_,rfl⟩
 ·exact ⟨_,_,_,rfl⟩
 ·exact ⟨_,_,_,rfl⟩
theorem Zdc.at {w:World} {X:Nat→Prop}:∀ {ks:List K} {ns:List Int} {j:Nat} {k:K},ks.length=ns.length→Zdc w X ks ns→ks[j]?=some k→Z76 w X k (hdV (ns.getD j 0)) (ctN (ns.getD j 0))
 | [],_,_,_,_,_,h=>by simp at h
 | _::_,[],_,_,hl,_,_=>by simp at hl
 | k::ks,n::ns,0,k',hl,h,hj=>by
  rw [Zdc] at h
  simp only [Z1ke,Option.some.injEq] at hj
  subst hj
  exact h.1
 | k::ks,n::ns,j + 1,k',hl,h,hj=>by
  rw [Zdc] at h
  exact Zdc.at (ks:=ks) (ns:=ns) (by simpa using hl) h.2 (by simpa using hj)
theorem Zw {ks:List K}:∀ {l:List Int},(∀ x ∈ l,(elt ks x).length=ks.length)→(Zi ks l).length=l.length * ks.length
 | [],_=>by simp [Zi]
 | x::l,h=>by
  have h1:(Za ks (elt ks x)).length=ks.length:=by
   have h0:=h x (by simp)
   generalize elt ks x=y at h0
   clear h
   induction ks generalizing y with
   | nil=>cases y <;> simp_all [Za]
   | cons k ks ih=>cases y with
    | nil=>simp at h0
    | cons a y=>simp only [Za,List.length_cons] at h0 ⊢; rw [ih y (by omega)]
  have ih:=Zw (ks:=ks) (l:=l) (fun y hy=>h y (by simp [hy]))
  simp only [Zi,List.flatMap_cons,List.length_append,h1,List.length_cons] at ih ⊢
  rw [ih,Nat.add_mul,Nat.one_mul,Nat.add_comm]
theorem Zt.kept {w w':World} {ty:TypeId} {ks:List K} {v:Value} {c:Int} {row:Option Nat} (h:Zt w ty ks v c) (hg:w.grownBy w' row) (hb:∀ k,Z7 v=some k→row ≠ some k):Zt w' ty ks v c:=by
 rcases h with h | ⟨h0,h1,h2⟩
 ·exact .inl h
 ·have h3:=h2
  rcases h2.2 with ⟨hv,hn⟩ | ⟨g,cap,cur,hv,_,hc,hle,hm,hsz,ht⟩
  ·exact .inl ⟨List.eq_nil_of_length_eq_zero hn,_,hv⟩
  ·by_cases hcap:cap=0
   ·subst hcap
    have hl:(dec c).length=0:=by omega
    exact .inl ⟨List.eq_nil_of_length_eq_zero hl,some ⟨g,0,none⟩,by rw [hv,hl]⟩
   ·refine .inr ⟨h0,h1,h3.kept hg (.inr ?_)⟩
    have:=hb g (by rw [hv]; simp [Z7,hcap])
    rw [hv]
    exact fun hh=>this hh.symm
theorem Zt.sl {w:World} {ty:TypeId} {ks:List K} {v:Value} {c:Int} (h:Zt w ty ks v c):Z53 w ks v c:=by
 rcases h with ⟨h1,h2⟩ | ⟨h0,h1,h2⟩
 ·exact .inl ⟨h2,h1⟩
 ·have h3:=h2
  rcases h2.2 with ⟨hv,hn⟩ | ⟨g,cap,cur,hv,_,hc,hle,hm,hsz,ht⟩
  ·exact .inl ⟨⟨_,hv⟩,List.eq_nil_of_length_eq_zero hn⟩
  ·refine .inr ⟨g,0,cap,hv,hle,hm,h1,fun j u hj=>?_⟩
   have:=h3.cells (g:=g) (by rw [hv]; rfl) j u hj
   rwa [Addr.add_lit] at this
theorem Zt.blk_lt {w:World} {ty:TypeId} {ks:List K} {v:Value} {c:Int} (h:Zt w ty ks v c) {k:Nat} (hk:Z7 v=some k):k < w.heap.size:=by
 rcases h with ⟨h1,b,h2⟩ | ⟨h0,h1,h2⟩
 ·rw [h2] at hk; cases b <;> simp [Z7] at hk
 ·rcases h2.2 with ⟨hv,hn⟩ | ⟨g,cap,cur,hv,_,hc,hle,hm,hsz,ht⟩
  ·rw [hv] at hk; cases hk
  ·rw [hv] at hk
   simp only [Z7] at hk
   split at hk
   ·cases hk
   ·simp only [Option.some.injEq] at hk
    subst hk
    exact Z1c hc
theorem G.val_slice (e:Env) (g:G):∃ a l c,g.val e=.slice a l c:=by
 have:∀ v,∃ a l c,slV v=.slice a l c:=by
  intro v
  unfold slV
  split
  ·exact ⟨_,_,_,rfl⟩
  ·exact ⟨_,_,_,rfl⟩
 cases g with
 | e g ix j x=>exact Z131 _
 | a i=>exact this _
 | o i=>exact this _
theorem Rep.greadX {e:Env} {W0:Bas} {s:St} {w:World} (h:Rep e W0 s w):∀ {g:G} {ks:List K} {c:E},g.own=false→Z3o s g=some (ks,c)→SlX W0 ks (g.val e) (c.den e.R e.r)
 | .a i,ks,c,_,hg=>h.arg i ks c hg
 | .o i,ks,c,ho,_=>by simp [G.own] at ho
 | .e g ix j x,ks,c,_,hg=>by
  simp only [Z3o] at hg
  split at hg
  ·cases hg
  rename_i hown
  split at hg
  ·rename_i ks0 c0 hg0
   split at hg
   ·rename_i hx
    split at hg
    ·rename_i ty kr hk
     simp only [Option.some.injEq,Prod.mk.injEq] at hg
     obtain ⟨rfl,rfl⟩:=hg
     have hX:=Rep.greadX h (by simpa using hown) hg0
     have hxe:=E.same_eq _ _ hx
     have hcd:(Z1f4 x (.c 4)).den e.R e.r=ctN (x.den e.R e.r):=by rw [Zfj]; rfl
     rw [hcd]
     show SlX W0 kr (hdV (x.den e.R e.r)) (ctN (x.den e.R e.r))
     rw [hxe,Zvi,Zfj]
     unfold SlX at hX
     rw [Z76] at hX
     by_cases hb:(ix.den e.R e.r).toNat < (dec (c0.den e.R e.r)).length
     ·have hel:(elt ks0 ((dec (c0.den e.R e.r)).getD (ix.den e.R e.r).toNat 0)).length=ks0.length:=by
       rcases hX.1.1 with ⟨_,hn⟩ | ⟨b,off,cap,_,_,_,hel,_⟩
       ·rw [hn] at hb; simp at hb
       ·exact hel _ (by simp [List.getD,hb])
      have:=Zdc.at hel.symm (hX.2 ((dec (c0.den e.R e.r)).getD (ix.den e.R e.r).toNat 0) (by simp [List.getD,hb])) hk
      have hj:j < ks0.length:=(List.getElem?_eq_some_iff.1 hk).1
      have helt:(elt ks0 ((dec (c0.den e.R e.r)).getD (ix.den e.R e.r).toNat 0)).getD j 0=(if ks0.length=1 then (dec (c0.den e.R e.r)).getD (ix.den e.R e.r).toNat 0 else (dec ((dec (c0.den e.R e.r)).getD (ix.den e.R e.r).toNat 0)).getD j 0):=by
       unfold elt
       split
       ·rename_i h1
        have:j=0:=by omega
        subst this
        rfl
       ·rfl
      rw [helt] at this
      unfold SlX
      rw [Z76] at this ⊢
      exact this
     ·have hz:(dec (c0.den e.R e.r)).getD (ix.den e.R e.r).toNat 0=0:=by
       simp [List.getD,List.getElem?_eq_none (by omega:(dec (c0.den e.R e.r)).length≤(ix.den e.R e.r).toNat)]
      rw [hz]
      have:(if ks0.length=1 then (0:Int) else (dec 0).getD j 0)=0:=by
       rw [Z5r]
       split <;> simp
      rw [this]
      exact Z1aj
    ·cases hg
   ·cases hg
  ·cases hg
theorem Rep.gread {e:Env} {W0:Bas} {s:St} {w:World} (h:Rep e W0 s w) {g:G} {ks:List K} {c:E} (hg:Z3o s g=some (ks,c)):Z53 w ks (g.val e) (c.den e.R e.r):=by
 cases g with
 | e g ix j x=>exact (h.greadX (g:=.e g ix j x) rfl hg).now h.below
 | a i=>exact (h.arg i ks c hg).now h.below
 | o n =>
  simp only [Z3o] at hg
  split at hg
  ·rename_i b hb
   split at hg
   ·rename_i hl
    simp only [Option.some.injEq,Prod.mk.injEq] at hg
    obtain ⟨rfl,rfl⟩:=hg
    exact (h.row n b hb hl).sl
   ·cases hg
  ·cases hg
theorem Rep.alloc {e:Env} {W0:Bas} {s:St} {w:World} (h:Rep e W0 s w) (t:TypeId) (cells:List SC)
  (hs:s.scp=true) (hc:cells.all (SC.scp s.mem.length s.rows.length)=true) :
  Rep { e with β:=e.β++[w.heap.size] } W0 { s with mem:=s.mem++[⟨t,cells,true⟩] } (w.alloc (.cells (cells.map (SC.den e)).toArray t)) ∧
  Env.like s.mem.length s.rows.length e { e with β:=e.β++[w.heap.size] }:=by
 obtain ⟨hf,hm⟩:=St.scp_spec hs
 have hlike:Env.like s.mem.length s.rows.length e { e with β:=e.β++[w.heap.size] } :=
  ⟨rfl,rfl,rfl,fun n hn=>Z15 _ _ _ _ (by rw [h.nb]; exact hn),fun _ _=>rfl⟩
 refine ⟨?_,hlike⟩
 have hnew:(e.β++[w.heap.size]).getD s.mem.length 0=w.heap.size:=by
  simp [List.getD,← h.nb]
 have hold:∀ n,n < s.mem.length→(e.β++[w.heap.size]).getD n 0=e.β.getD n 0:=fun n hn=>hlike.β n hn
 have hcases:∀ n b,(s.mem++[(⟨t,cells,true⟩:Blk)])[n]?=some b→(n < s.mem.length∧s.mem[n]?=some b)∨(n=s.mem.length∧b=⟨t,cells,true⟩):=by
  intro n b hb
  rcases Nat.lt_trichotomy n s.mem.length with hn | hn | hn
  ·exact .inl ⟨hn,by rwa [List.getElem?_append_left hn] at hb⟩
  ·subst hn; simp at hb; exact .inr ⟨rfl,hb.symm⟩
  ·rw [List.getElem?_eq_none (by simp; omega)] at hb; cases hb
 have hlt:∀ n b,s.mem[n]?=some b→b.live=true→e.β.getD n 0 < w.heap.size:=fun n b hb hl=>Z1c (h.blk n b hb hl)
 refine ⟨?_,?_,?_,?_,?_,?_,?_,?_,?_,?_,?_,?_,h.gl,h.arg⟩
 ·exact h.below.alloc _
 ·simp [h.nb]
 ·exact h.ng
 ·exact h.nv
 ·exact h.nx
 ·intro n b hb hl
  rcases hcases n b hb with ⟨hn,hb'⟩ | ⟨rfl,rfl⟩
  ·show (w.alloc _).heap[(e.β++[w.heap.size]).getD n 0]?=_
   rw [hold n hn,Below.heap_alloc _ _ _ (hlt n b hb' hl),h.blk n b hb' hl,Z2m hlike (hm b (List.mem_of_getElem? hb'))]
  ·show (w.alloc _).heap[(e.β++[w.heap.size]).getD s.mem.length 0]?=_
   rw [hnew,Z2m hlike hc]
   exact heap_alloc_new w _
 ·intro n b hb hl hn'
  rcases hcases n b hb with ⟨hn,hb'⟩ | ⟨rfl,rfl⟩
  ·show W0.may ((e.β++[w.heap.size]).getD n 0)
   rw [hold n hn]; exact h.own n b hb' hl hn'
  ·show W0.may ((e.β++[w.heap.size]).getD s.mem.length 0)
   rw [hnew]; exact .inl h.below.size
 ·intro n m b c hb hc' hlb hlc heq
  have heq':(e.β++[w.heap.size]).getD n 0=(e.β++[w.heap.size]).getD m 0:=heq
  rcases hcases n b hb with ⟨hn,hb'⟩ | ⟨rfl,rfl⟩ <;> rcases hcases m c hc' with ⟨hm',hc''⟩ | ⟨rfl,rfl⟩
  ·rw [hold n hn,hold m hm'] at heq'
   exact h.sep n m b c hb' hc'' hlb hlc heq'
  ·rw [hold n hn,hnew] at heq'
   have:=hlt n b hb' hlb
   omega
  ·rw [hold m hm',hnew] at heq'
   have:=hlt m c hc'' hlc
   omega
  ·rfl
 ·intro n b hb hl
  exact (h.row n b hb hl).kept (World.grownBy_alloc w _ none) (fun k _ hk=>by cases hk)
 ·exact h.rown
 ·exact h.rsep
 ·intro n m b c hb hc' hlb hlc
  rcases hcases n b hb with ⟨hn,hb'⟩ | ⟨rfl,rfl⟩
  ·show _ ≠ some ((e.β++[w.heap.size]).getD n 0)
   rw [hold n hn]; exact h.brs n m b c hb' hc' hlb hlc
  ·show _ ≠ some ((e.β++[w.heap.size]).getD s.mem.length 0)
   rw [hnew]
   intro hk
   have:=(h.row m c hc' hlc).blk_lt hk
   omega
theorem Zt.setRow_other {w:World} {ty:TypeId} {ks:List K} {v:Value} {c:Int} (h:Zt w ty ks v c) (g:Nat) (cs:Array Value) (hg:Z7 v ≠ some g):Zt (w.setRow g cs) ty ks v c :=
 h.kept (row:=some g) ⟨rfl,rfl,rfl,by simp,fun k _ hk=>Go.setRow_other w g k cs (fun h=>hk (by rw [h]))⟩ (fun k hk hh=>hg (by rw [hk,hh]))
theorem Zn {α:Type} {l:List α} {n m:Nat} {x y:α} (h:(l.set n x)[m]?=some y):(m=n∧y=x∧n < l.length)∨(m ≠ n∧l[m]?=some y):=by
 rw [List.getElem?_set] at h
 split at h
 ·rename_i hh
  subst hh
  split at h
  ·exact .inl ⟨rfl,by simpa using h.symm,by assumption⟩
  ·cases h
 ·exact .inr ⟨fun hh=>by simp_all,h⟩
theorem Rep.store {e:Env} {W0:Bas} {s:St} {w:World} (h:Rep e W0 s w) {n:Nat} {b:Blk} (hb:s.mem[n]?=some b) (hl:b.live=true) (hf:s.fl≤n) (cs:List SC) :
  Rep e W0 { s with mem:=s.mem.set n { b with cells:=cs } } (w.setRow (e.β.getD n 0) (cs.map (SC.den e)).toArray):=by
 have hcases:∀ m c,(s.mem.set n { b with cells:=cs })[m]?=some c→(m=n∧c={ b with cells:=cs })∨(m ≠ n∧s.mem[m]?=some c):=fun m c hm=>by
  rcases Zn hm with ⟨h1,h2,_⟩ | h2
  ·exact .inl ⟨h1,h2⟩
  ·exact .inr h2
 refine ⟨?_,?_,?_,?_,?_,?_,?_,?_,?_,?_,?_,?_,h.gl,h.arg⟩
 ·exact h.below.setRow (h.own n b hb hl hf) _
 ·simpa using h.nb
 ·exact h.ng
 ·exact h.nv
 ·exact h.nx
 ·intro m c hc hlc
  rcases hcases m c hc with ⟨rfl,rfl⟩ | ⟨hne,hc'⟩
  ·exact setRow_heap w _ _ _ _ _ (h.blk m b hb hl)
  ·rw [setRow_other w _ _ _ (fun heq=>hne (h.sep m n c b hc' hb hlc hl heq))]
   exact h.blk m c hc' hlc
 ·intro m c hc hlc hfm
  rcases hcases m c hc with ⟨rfl,rfl⟩ | ⟨hne,hc'⟩
  ·exact h.own m b hb hl hf
  ·exact h.own m c hc' hlc hfm
 ·intro m k c d hc hd hlc hld heq
  rcases hcases m c hc with ⟨rfl,rfl⟩ | ⟨hne,hc'⟩ <;> rcases hcases k d hd with ⟨rfl,rfl⟩ | ⟨hne',hd'⟩
  ·rfl
  ·exact h.sep _ _ b d hb hd' hl hld heq
  ·exact h.sep _ _ c b hc' hb hlc hl heq
  ·exact h.sep _ _ c d hc' hd' hlc hld heq
 ·intro m c hc hlc
  exact (h.row m c hc hlc).setRow_other _ _ (h.brs n m b c hb hc hl hlc)
 ·exact h.rown
 ·exact h.rsep
 ·intro m k c d hc hd hlc hld
  rcases hcases m c hc with ⟨rfl,rfl⟩ | ⟨hne,hc'⟩
  ·exact h.brs m k b d hb hd hl hld
  ·exact h.brs m k c d hc' hd hlc hld
theorem Rep.storeRow {e:Env} {W0:Bas} {s:St} {w:World} (h:Rep e W0 s w) {n:Nat} {b:Row} (hb:s.rows[n]?=some b) (hl:b.live=true) (hf:s.flr≤n)
  {g:Nat} (hob:Z7 ((G.o n).val e)=some g) {x:E} (cs:Array Value) (hrow:Zt (w.setRow g cs) b.ty b.ks ((G.o n).val e) (x.den e.R e.r)) :
  Rep e W0 { s with rows:=s.rows.set n { b with c:=x } } (w.setRow g cs):=by
 have hcases:∀ m c,(s.rows.set n { b with c:=x })[m]?=some c→(m=n∧c={ b with c:=x })∨(m ≠ n∧s.rows[m]?=some c):=fun m c hm=>by
  rcases Zn hm with ⟨h1,h2,_⟩ | h2
  ·exact .inl ⟨h1,h2⟩
  ·exact .inr h2
 refine ⟨?_,h.nb,?_,h.nv,h.nx,?_,h.own,h.sep,?_,?_,?_,?_,h.gl,h.arg⟩
 ·exact h.below.setRow (h.rown n b hb hl hf g hob) _
 ·simpa using h.ng
 ·intro m c hc hlc
  rw [setRow_other w _ _ _ (fun heq=>h.brs m n c b hc hb hlc hl (by rw [hob,heq]))]
  exact h.blk m c hc hlc
 ·intro m c hc hlc
  rcases hcases m c hc with ⟨rfl,rfl⟩ | ⟨hne,hc'⟩
  ·exact hrow
  ·exact (h.row m c hc' hlc).setRow_other _ _ (fun hk=>hne (h.rsep m n c b g hc' hb hlc hl hk hob))
 ·intro m c hc hlc hfm k hk
  rcases hcases m c hc with ⟨rfl,rfl⟩ | ⟨hne,hc'⟩
  ·exact h.rown m b hb hl hf k hk
  ·exact h.rown m c hc' hlc hfm k hk
 ·intro m k c d j hc hd hlc hld
  rcases hcases m c hc with ⟨rfl,rfl⟩ | ⟨hne,hc'⟩ <;> rcases hcases k d hd with ⟨rfl,rfl⟩ | ⟨hne',hd'⟩
  ·exact fun _ _=>rfl
  ·exact h.rsep _ _ b d j hb hd' hl hld
  ·exact h.rsep _ _ c b j hc' hb hlc hl
  ·exact h.rsep _ _ c d j hc' hd' hlc hld
 ·intro m k c d hc hd hlc hld
  rcases hcases k d hd with ⟨rfl,rfl⟩ | ⟨hne,hd'⟩
  ·exact h.brs m k c b hc hb hlc hl
  ·exact h.brs m k c d hc hd' hlc hld
theorem Zt.block {w:World} {ty:TypeId} {ks:List K} {v:Value} {c:Int} (h:Zt w ty ks v c) (hn:dec c ≠ []) :
    ∃ g cap cur,v=.slice (some ⟨g,0,none⟩) (dec c).length cap∧Z7 v=some g∧ks.length ≠ 0∧(∀ x ∈ dec c,(elt ks x).length=ks.length)∧w.heap[g]?=some (.cells cur ty (0,0))∧(dec c).length≤cap∧cap≤maxLen ∧
      cur.size=cap * ks.length∧cur.toList.take ((dec c).length * ks.length)=Zi ks (dec c):=by
  rcases h with ⟨h1,_⟩ | ⟨h0,h1,h2⟩
  · exact absurd h1 hn
  · rcases h2.2 with ⟨hv,hl⟩ | ⟨g,cap,cur,hv,_,hc,hle,hm,hsz,ht⟩
    · exact absurd (List.eq_nil_of_length_eq_zero hl) hn
    · have hpos:0 < (dec c).length:=List.length_pos_iff.2 hn
      have:cap ≠ 0:=by omega
      exact ⟨g,cap,cur,hv,by rw [hv]; simp [Z7,this],h0,h1,hc,hle,hm,hsz,ht⟩
theorem Zdo (ks:List K) (a b:List Int):Zi ks (a++b)=Zi ks a++Zi ks b:=by simp [Zi]
theorem Zke {ks:List K} {x:Int} (hx:(elt ks x).length=ks.length):∀ {l:List Int} (i:Nat),(∀ y ∈ l,(elt ks y).length=ks.length)→i < l.length →
  Zi ks (l.set i x)=(Zi ks l).take (i * ks.length)++Za ks (elt ks x)++(Zi ks l).drop (i * ks.length + ks.length)
 | [],_,_,hi=>by simp at hi
 | y::l,0,h,_=>by
  have h1:(Za ks (elt ks y)).length=ks.length:=by
   have:=Zw (ks:=ks) (l:=[y]) (by simpa using h y (by simp))
   simpa [Zi] using this
  simp only [List.set_cons_zero,Nat.zero_mul,List.take_zero,Nat.zero_add,Z1kj]
  simp only [Zi,List.flatMap_cons]
  rw [← h1,List.drop_left]
 | y::l,i + 1,h,hi=>by
  have h1:(Za ks (elt ks y)).length=ks.length:=by
   have:=Zw (ks:=ks) (l:=[y]) (by simpa using h y (by simp))
   simpa [Zi] using this
  have ih:=Zke hx (l:=l) i (fun z hz=>h z (by simp [hz])) (by simpa using hi)
  simp only [List.set_cons_succ]
  simp only [Zi,List.flatMap_cons] at ih ⊢
  rw [ih]
  have e1:(i + 1) * ks.length=(Za ks (elt ks y)).length + i * ks.length:=by rw [h1,Nat.add_mul,Nat.one_mul,Nat.add_comm]
  rw [e1,List.take_append,Nat.add_assoc,List.drop_append]
  simp [List.take_of_length_le,List.drop_of_length_le]
end Go.Sx
namespace Go.Sx
open Go.RowKit
section
variable {P:Program}
theorem Zbv {t:TypeId} {d:TypeDesc} (h:P.underlying t=some d):∃ i,P.info? t=some i:=by
 cases hi:P.info? t with
 | some i=>exact ⟨i,rfl⟩
 | none=>simp [Program.underlying,hi] at h
theorem Zk {t:TypeId} (h:(P.info? t).isSome=true) (w:World):(sizeOf t).run P w=.ok (P.cellsOf t) w:=by
 obtain ⟨i,hi⟩:=Option.isSome_iff_exists.1 h
 simp [sizeOf,typeInfo,hi,Program.cellsOf]
theorem Z9o {t:TypeId} (h:(P.underlying t).isNone=false) (w:World):(isAgg t).run P w=.ok (Z85 P t) w:=by
 cases hd:P.underlying t with
 | none=>simp [hd] at h
 | some d=>cases d <;> simp [isAgg,run_underlying hd,Z85,hd]
theorem Zvj {t:TypeId} (h:(P.underlying t).isNone=false):(P.info? t).isSome=true:=by
 cases hd:P.underlying t with
 | none=>simp [hd] at h
 | some d=>obtain ⟨i,hi⟩:=Zbv hd; simp [hi]
theorem Z46 {t:TypeId} {z:List SC} (h:Z7w P t=some z) (w:World) (e:Env):∃ v,(zeroValue t).run P w=.ok v w∧v.cells=(z.map (SC.den e)).toArray:=by
 simp only [Z7w,Option.map_eq_some_iff] at h
 obtain ⟨v,hv,rfl⟩:=h
 rw [Option.bind_eq_some_iff] at hv
 obtain ⟨i,hi,hz⟩:=hv
 refine ⟨v,by simp [zeroValue,typeInfo,hi,hz],?_⟩
 rw [List.map_map,show (SC.den e ∘ SC.ofV)=id from funext fun v=>SC.den_ofV e v]
 simp
theorem SC.den_one {e:Env} {c:SC} (hc:c.one=true):(c.den e).oneCell'=true:=by
 cases c <;> simp only [SC.den] <;> try rfl
 case go g=>obtain ⟨a,l,c,h⟩:=G.val_slice e g; rw [h]; rfl
 case gv g size lo hi=>obtain ⟨a,l,c,h⟩:=G.val_slice e g; rw [h]; rfl
 case gz g=>obtain ⟨a,l,c,h⟩:=G.val_slice e g; rw [h]; rfl
 case l v=>exact hc
theorem SC.den_one' {e:Env} {W0:Bas} {s:St} {w:World} (_h:Rep e W0 s w) {c:SC} (hc:c.one=true) (_hs:c.scp s.mem.length s.rows.length=true):(c.den e).oneCell'=true:=SC.den_one hc
theorem Z8o {v:Value} (h:v.oneCell'=true):v.cells=#[v]:=by
 cases v <;> simp_all [Value.oneCell',Value.cells]
theorem SW.cells_den {e:Env} {W0:Bas} {s:St} {w:World} (h:Rep e W0 s w) {y:SW} (hc:y.cells.all SC.one=true) (hs:y.scp s.mem.length s.rows.length=true):(y.den e).cells=(y.cells.map (SC.den e)).toArray:=by
 cases y with
 | o c =>
  simp only [SW.cells,List.all_cons,List.all_nil,Bool.and_true] at hc
  simp only [SW.den,SW.cells,Z1kk,Z1kl]
  exact Z8o (SC.den_one' h hc hs)
 | a cs=>rfl
def Zy (P:Program) (e:Env) (W0:Bas) (s s':St) (o:Oper) (ev:Operand→Value) (v:SV) (w:World):Prop :=
  s'.fr=s.fr∧s'.nv=s.nv∧s'.nx=s.nx∧s'.fl=s.fl∧s'.flr=s.flr∧s'.dp=s.dp ∧
  ∃ e' w' nx,(execOp ev o).run P w=.ok nx w'∧(nx=.value (v.den e')∨(nx=.skip∧v.den e'=undef))∧Rep e' W0 s' w' ∧
    Env.le e e'∧e'.r=e.r∧e'.R=e.R∧e'.ω=e.ω∧(∀ x ∈ s.fr,x.den e'=x.den e)
theorem Zy.same {e:Env} {W0:Bas} {s:St} {o:Oper} {ev:Operand→Value} {v:SV} {w:World} (h:Rep e W0 s w)
  (hr:(execOp ev o).run P w=.ok (.value (v.den e)) w):Zy P e W0 s s o ev v w :=
 ⟨rfl,rfl,rfl,rfl,rfl,rfl,e,w,_,hr,.inl rfl,h,Env.le_refl _,rfl,rfl,rfl,fun _ _=>rfl⟩
theorem Zy.alloc {e:Env} {W0:Bas} {s s':St} {o:Oper} {ev:Operand→Value} {w:World} {t:TypeId} {cells:List SC} (h:Rep e W0 s w) (hn:s.new t cells=some s') {v:SV}
  (hr:(execOp ev o).run P w=.ok (.value (v.den { e with β:=e.β++[w.heap.size] })) (w.alloc (.cells (cells.map (SC.den e)).toArray t))):Zy P e W0 s s' o ev v w:=by
 unfold St.new at hn
 split at hn
 ·rename_i hc
  simp only [Z1kr] at hc
  simp only [Option.some.injEq] at hn
  subst hn
  obtain ⟨hrep,hlike⟩:=h.alloc t cells hc.1 hc.2
  exact ⟨rfl,rfl,rfl,rfl,rfl,rfl,_,_,_,hr,.inl rfl,hrep,⟨[],[w.heap.size],[],[],by simp⟩,rfl,rfl,rfl,fun x hx=>SV.den_like hlike x ((St.scp_spec hc.1).1 x hx)⟩
 ·cases hn
theorem Z132 {e:Env} {W0:Bas} {s:St} {w:World} (h:Rep e W0 s w) (off:Nat):(one (.p s.mem.length off)).den { e with β:=e.β++[w.heap.size] }=.pointer (some ⟨w.heap.size,off,none⟩):=by
 simp [one,SV.den,SW.den,SC.den,Z33,List.getD,← h.nb]
variable {e:Env} {W0:Bas} {s s':St} {o:Oper} {ev:Operand→Value} {v:SV} {w:World} {aZ:List B}
theorem Z1ak {t:TypeId} (ho:o.op=.alloc t) (h:op1 P s o=some (aZ,v,s')) (hrep:Rep e W0 s w):Zy P e W0 s s' o ev v w:=by
 simp only [op1,ho] at h
 split at h
 ·rename_i z hz
  simp only [Option.map_eq_some_iff,Prod.mk.injEq] at h
  obtain ⟨s1,hs1,rfl,rfl,rfl⟩:=h
  obtain ⟨zv,hz1,hz2⟩:=Z46 hz w e
  refine Zy.alloc hrep hs1 ?_
  rw [Z132 hrep]
  simp [execOp,ho,Instr.alloc,hz1,newVar,newRow,hz2]
 ·cases h
theorem op_box {t:TypeId} {x:Operand} (ho:o.op=.box t x) (h:op1 P s o=some (aZ,v,s')) (hrep:Rep e W0 s w) (hev:ev x=(s.ev x).den e):Zy P e W0 s s' o ev v w:=by
 simp only [op1,ho] at h
 split at h
 ·rename_i y hy
  split at h
  ·rename_i hone
   simp only [Option.map_eq_some_iff,Prod.mk.injEq] at h
   obtain ⟨s1,hs1,rfl,rfl,rfl⟩:=h
   refine Zy.alloc hrep hs1 ?_
   have hsc:y.scp s.mem.length s.rows.length=true:=by
    unfold St.new at hs1
    split at hs1
    ·rename_i hc
     simp only [Z1kr] at hc
     cases y <;> simpa [SW.scp,SW.cells] using hc.2
    ·cases hs1
   rw [Z132 hrep]
   rw [hy] at hev
   simp [execOp,ho,Instr.box,newVar,newRow,hev,SV.den,SW.cells_den hrep hone hsc]
  ·cases h
 ·cases h
theorem Z133 {x:Operand} (ho:o.op=.move x∨o.op=.assign x) (h:op1 P s o=some (aZ,v,s')) (hrep:Rep e W0 s w) (hev:ev x=(s.ev x).den e):Zy P e W0 s s' o ev v w:=by
 rcases ho with ho | ho <;> simp only [op1,ho,Option.some.injEq,Prod.mk.injEq] at h <;> obtain ⟨rfl,rfl,rfl⟩:=h <;>
  exact Zy.same hrep (by simp [execOp,ho,hev])
theorem Z1h8 {c a b:Operand} (ho:o.op=.pick c a b) (h:op1 P s o=some (aZ,v,s')) (hrep:Rep e W0 s w) (hc:ev c=(s.ev c).den e) (ha:ev a=(s.ev a).den e) (hb:ev b=(s.ev b).den e):Zy P e W0 s s' o ev v w:=by
 simp only [op1,ho] at h
 split at h
 ·rename_i hx
  simp only [Option.some.injEq,Prod.mk.injEq] at h
  obtain ⟨rfl,rfl,rfl⟩:=h
  rw [hx] at hc
  exact Zy.same hrep (by simp [execOp,ho,hc,ha,SV.den,SW.den,SC.den,B.den,asBool])
 ·rename_i hx
  simp only [Option.some.injEq,Prod.mk.injEq] at h
  obtain ⟨rfl,rfl,rfl⟩:=h
  rw [hx] at hc
  exact Zy.same hrep (by simp [execOp,ho,hc,hb,SV.den,SW.den,SC.den,B.den,asBool])
 ·cases h
theorem Zbw {α:Type} (l:List α) (off n j:Nat):((l.drop off).take n)[j]?=if j < n then l[off + j]? else none:=by
 simp [List.getElem?_take,List.getElem?_drop]
theorem Z47 {t:TypeId} {cs:List SC} {off:Nat} {y:SW} (h:Zz1 P t cs off=some y) (g:Nat) (base:Nat) (hcell:∀ j,j < cs.length→w.cell? ⟨g,base + j,none⟩=some ((cs.map (SC.den e)).getD j undef)) :
  (loadVar t ⟨g,base + off,none⟩).run P w=.ok (y.den e) w:=by
 unfold Zz1 at h
 split at h
 ·cases h
 ·rename_i hk
  simp only [Bool.not_eq_true] at hk
  split at h
  ·rename_i hagg
   split at h
   ·rename_i hle
    simp only [Option.some.injEq] at h
    subst h
    simp only [loadVar,Sem.run_bind,Z9o hk,Result.andThen_ok,hagg,if_true,Zk (Zvj hk),Sem.run_pure]
    have hl:((cs.drop off).take (P.cellsOf t)).length=P.cellsOf t:=by simp; omega
    have:=run_loadCells_list (P:=P) w ⟨g,base + off,none⟩ (((cs.drop off).take (P.cellsOf t)).map (SC.den e)) (fun j v hj=>by
     rw [Addr.add_lit]
     rw [List.getElem?_map,Zbw] at hj
     split at hj
     ·rename_i hjn
      have hlt:off + j < cs.length:=by omega
      rw [Nat.add_assoc,hcell (off + j) hlt]
      simp [hlt] at hj
      simp [List.getD,hlt,hj]
     ·simp at hj)
    rw [List.length_map,hl] at this
    rw [this]
    simp [SW.den]
   ·cases h
  ·rename_i hagg
   simp only [Option.map_eq_some_iff] at h
   obtain ⟨c,hc,rfl⟩:=h
   have hlt:off < cs.length:=(List.getElem?_eq_some_iff.1 hc).1
   simp only [loadVar,Sem.run_bind,Z9o hk,Result.andThen_ok,hagg,Bool.false_eq_true,if_false,run_load,hcell off hlt]
   simp [List.getD,hc,SW.den]
theorem Zfl (hrep:Rep e W0 s w) {n:Nat} {b:Blk} (hb:s.mem[n]?=some b) (hl:b.live=true) (j:Nat) (hj:j < b.cells.length) :
  w.cell? ⟨e.β.getD n 0,j,none⟩=some ((b.cells.map (SC.den e)).getD j undef):=by
 have h1:=hrep.blk n b hb hl
 unfold World.cell?
 simp only [h1]
 simp [List.getD,hj]
theorem Z19:∀ {ks:List K} {xs:List Int},xs.length=ks.length→(Za ks xs).length=ks.length
 | [],[],_=>rfl
 | _::ks,_::xs,h=>by simp only [Za,List.length_cons] at h ⊢; rw [Z19 (by omega)]
 | [],_::_,h=>by simp at h
 | _::_,[],h=>by simp at h
theorem Z6e {ks:List K}:∀ {l:List Int} {i j:Nat},(∀ x ∈ l,(elt ks x).length=ks.length)→i < l.length→j < ks.length →
  (Zi ks l)[i * ks.length + j]?=(Za ks (elt ks (l.getD i 0)))[j]?
 | [],_,_,_,hi,_=>by simp at hi
 | y::l,0,j,h,_,hj=>by
  have h1:=Z19 (h y (by simp))
  simp only [Zi,List.flatMap_cons,Nat.zero_mul,Nat.zero_add]
  rw [List.getElem?_append_left (by omega)]
  simp
 | y::l,i + 1,j,h,hi,hj=>by
  have h1:=Z19 (h y (by simp))
  have ih:=Z6e (l:=l) (i:=i) (j:=j) (fun z hz=>h z (by simp [hz])) (by simpa using hi) hj
  simp only [Zi,List.flatMap_cons] at ih ⊢
  rw [List.getElem?_append_right (by rw [h1,Nat.add_mul]; omega),h1,show (i + 1) * ks.length + j - ks.length=i * ks.length + j by rw [Nat.add_mul]; omega,ih]
  simp
theorem Zm2 {c ix:E} {R:Fo} {r:List Int} (h:∀ b ∈ inB c ix,b.den R r=true):0≤ix.den R r∧(ix.den R r).toNat < (dec (c.den R r)).length∧ix.den R r < ((dec (c.den R r)).length:Int):=by
 have h1:=h (Z8f (.c 0) ix) (by simp [inB])
 have h2:=h (Z128 ix (Zrw c)) (by simp [inB])
 rw [Z31,Z1ks] at h1
 rw [Zbs,Z1ks,Z4q] at h2
 simp only [E.den] at h1
 omega
theorem Zf4 {c lo hi:E} {R:Fo} {r:List Int} (h:∀ b ∈ vB c lo hi,b.den R r=true):0≤lo.den R r∧lo.den R r≤hi.den R r∧hi.den R r≤((dec (c.den R r)).length:Int):=by
 have h1:=h (Z8f (.c 0) lo) (by simp [vB])
 have h2:=h (Z8f lo hi) (by simp [vB])
 have h3:=h (Z8f hi (Zrw c)) (by simp [vB])
 rw [Z31,Z1ks] at h1 h2 h3
 rw [Z4q] at h3
 simp only [E.den] at h1
 exact ⟨h1,h2,h3⟩
theorem Z8p {g:G} {ks:List K} {c ix:E} (h1:(elt ks ((dec (c.den e.R e.r)).getD (ix.den e.R e.r).toNat 0)).length=ks.length) :
  (Zdh g ks c ix).map (SC.den e)=Za ks (elt ks ((dec (c.den e.R e.r)).getD (ix.den e.R e.r).toNat 0)):=by
 have key:∀ (ks:List K) (i:Nat) (es:List E),(Zev g ix i ks es).map (SC.den e)=Za ks (es.map (E.den e.R e.r)):=by
  intro ks
  induction ks with
  | nil=>intro i es; cases es <;> rfl
  | cons k ks ih =>
   intro i es
   cases es with
   | nil=>cases k <;> rfl
   | cons x es =>
    cases k with
    | i k=>simp only [Zev,Z1kk,ih,Za,K.mk,SC.den]
    | b =>
     simp only [Zev,Z1kk,ih,Za,K.mk,SC.den]
     congr 2
     unfold mkNz
     split <;> simp [B.den,E.den]
    | s ty kr=>simp only [Zev,Z1kk,ih,Za,K.mk,SC.den,G.val]
 unfold Zdh
 rw [key]
 congr 1
 rw [List.map_map]
 have hf:(E.den e.R e.r ∘ fun j=>comp ks.length (Z1f4 c ix) j)=fun j=>if ks.length=1 then (dec (c.den e.R e.r)).getD (ix.den e.R e.r).toNat 0 else (dec ((dec (c.den e.R e.r)).getD (ix.den e.R e.r).toNat 0)).getD j 0:=by
  funext j
  simp only [Function.comp,Zvi,Zfj]
 rw [hf]
 generalize (dec (c.den e.R e.r)).getD (ix.den e.R e.r).toNat 0=x at h1 ⊢
 unfold elt at h1 ⊢
 by_cases hk:ks.length=1
 ·simp [hk]
 ·simp only [if_neg hk] at h1 ⊢
  apply List.ext_getElem?
  intro j
  by_cases hj:j < ks.length
  ·rw [List.getElem?_map,List.getElem?_range hj]
   simp [List.getD,h1,hj]
  ·rw [List.getElem?_eq_none (by simp; omega),List.getElem?_eq_none (by omega)]
theorem Zm3 (hrep:Rep e W0 s w) {g:G} {ks:List K} {c ix:E} (hg:Z3o s g=some (ks,c)) (has:∀ b ∈ inB c ix,b.den e.R e.r=true) :
    ∃ b off,(∀ size j,atV size (g.val e) (ix.den e.R e.r).toNat j=some ⟨b,off + ((ix.den e.R e.r).toNat * size + j),none⟩)∧(elt ks ((dec (c.den e.R e.r)).getD (ix.den e.R e.r).toNat 0)).length=ks.length ∧
      ∀ j,j < ks.length→w.cell? ⟨b,off + ((ix.den e.R e.r).toNat * ks.length + j),none⟩=some (((Zdh g ks c ix).map (SC.den e)).getD j undef):=by
  obtain ⟨h0,h1,h2⟩:=Zm2 has
  rcases hrep.gread hg with ⟨_,hn⟩ | ⟨b,off,cap,hv,hle,hm,hel,hcell⟩
  · rw [hn] at h1; simp at h1
  · have hx:=hel ((dec (c.den e.R e.r)).getD (ix.den e.R e.r).toNat 0) (by simp [List.getD,h1])
    refine ⟨b,off,fun size j=>by rw [hv]; simp [atV,Addr.add_lit],hx,fun j hj=>?_⟩
    rw [Z8p hx]
    refine hcell _ _ ?_
    rw [Z6e hel h1 hj]
    have:=Z19 hx
    generalize Za ks (elt ks ((dec (c.den e.R e.r)).getD (ix.den e.R e.r).toNat 0))=m at this ⊢
    simp [List.getD,this,hj]
theorem Z134 (hrep:Rep e W0 s w) {g:Nat} {cs:List SC} (hcs:Z1gp s.gl g=some cs) (j:Nat) (hj:j < cs.length):w.cell? ⟨g,j,none⟩=some ((cs.map (SC.den e)).getD j undef):=by
 unfold Z1gp at hcs
 rw [Option.map_eq_some_iff] at hcs
 obtain ⟨p,hp,rfl⟩:=hcs
 have h1:=List.mem_of_find?_eq_some hp
 have h2:=List.find?_some hp
 simp only [beq_iff_eq] at h2
 subst h2
 simp only [List.length_map] at hj
 rw [hrep.glw p h1 j p.2[j] (List.getElem?_eq_getElem hj)]
 simp [List.getD,hj,SC.den,E.den]
theorem Z1h9 {t:TypeId} {x:Operand} (ho:o.op=.load t x) (h:op1 P s o=some (aZ,v,s')) (hrep:Rep e W0 s w) (hev:ev x=(s.ev x).den e) (has:∀ b ∈ aZ,b.den e.R e.r=true):Zy P e W0 s s' o ev v w:=by
 simp only [op1,ho] at h
 split at h
 ·rename_i n off hx
  rw [hx] at hev
  split at h
  ·rename_i b hb
   split at h
   ·rename_i hl
    simp only [Option.map_eq_some_iff,Prod.mk.injEq] at h
    obtain ⟨y,hy,rfl,rfl,rfl⟩:=h
    refine Zy.same hrep ?_
    have:=Z47 (w:=w) (e:=e) hy (e.β.getD n 0) 0 (fun j hj=>by rw [Nat.zero_add]; exact Zfl hrep hb hl j hj)
    rw [Nat.zero_add] at this
    simp only [execOp,ho,hev,SV.den,SW.den,SC.den,Z33,Instr.loadAt,Instr.sureAddr,Sem.run_bind,Sem.run_pure,Result.andThen_ok,this]
   ·cases h
  ·cases h
 ·rename_i g size ix j hx
  rw [hx] at hev
  split at h
  ·rename_i ks c hg
   split at h
   ·rename_i hsz
    subst hsz
    simp only [Option.map_eq_some_iff,Prod.mk.injEq] at h
    obtain ⟨y,hy,rfl,rfl,rfl⟩:=h
    refine Zy.same hrep ?_
    obtain ⟨b,off,hat,hx,hcell⟩:=Zm3 hrep hg has
    have hcl:(Zdh g ks c ix).length=ks.length:=by
     have h1:=congrArg List.length (Z8p (e:=e) (g:=g) hx)
     rw [Z19 hx] at h1
     simpa using h1
    have:=Z47 (w:=w) (e:=e) hy b (off + (ix.den e.R e.r).toNat * ks.length) (fun j hj=>by rw [Nat.add_assoc]; exact hcell j (by omega))
    rw [Nat.add_assoc] at this
    simp only [execOp,ho,hev,SV.den,SW.den,SC.den,hat,Instr.loadAt,Instr.sureAddr,Sem.run_bind,Sem.run_pure,Result.andThen_ok,this]
   ·cases h
  ·cases h
 ·rename_i g off hx
  rw [hx] at hev
  split at h
  ·rename_i cs hcs
   simp only [Option.map_eq_some_iff,Prod.mk.injEq] at h
   obtain ⟨y,hy,rfl,rfl,rfl⟩:=h
   refine Zy.same hrep ?_
   have:=Z47 (w:=w) (e:=e) hy g 0 (fun j hj=>by rw [Nat.zero_add]; exact Z134 hrep hcs j hj)
   rw [Nat.zero_add] at this
   simp only [execOp,ho,hev,SV.den,SW.den,SC.den,Instr.loadAt,Instr.sureAddr,Sem.run_bind,Sem.run_pure,Result.andThen_ok,this]
  ·cases h
 ·cases h
end
end Go.Sx
namespace Go.Sx
open Go.RowKit
section
variable {P:Program} {e:Env} {W0:Bas} {s s':St} {o:Oper} {ev:Operand→Value} {v:SV} {w:World} {aZ:List B}
theorem Zp0 (e:Env) (cs new:List SC) (off:Nat):(Z86 cs off new).map (SC.den e)=(cs.map (SC.den e)).take off++new.map (SC.den e)++(cs.map (SC.den e)).drop (off + new.length):=by
 simp [Z86]
theorem Z5a {e:Env}:∀ {ks:List K} {cs:List SC} {es:List E},Z3e ks cs=some es→es.length=ks.length∧cs.map (SC.den e)=Za ks (es.map (E.den e.R e.r)):=by
 intro ks
 induction ks with
 | nil =>
  intro cs es h
  cases cs with
  | nil=>simp only [Z3e,Option.some.injEq] at h; subst h; simp [Za]
  | cons c cs=>simp [Z3e] at h
 | cons k ks ih =>
  intro cs es h
  unfold Z3e at h
  split at h
  ·simp_all
  ·rename_i heq
   cases heq
   split at h
   ·rename_i hk
    subst hk
    simp only [Option.map_eq_some_iff] at h
    obtain ⟨es',h',rfl⟩:=h
    obtain ⟨h1,h2⟩:=ih h'
    simp [h1,h2,Za,K.mk,SC.den]
   ·cases h
  ·rename_i heq
   cases heq
   simp only [Option.map_eq_some_iff] at h
   obtain ⟨es',h',rfl⟩:=h
   obtain ⟨h1,h2⟩:=ih h'
   cases ‹Bool› <;> simp [h1,h2,Za,K.mk,SC.den,B.den,E.den]
  ·rename_i heq
   cases heq
   simp only [Option.map_eq_some_iff] at h
   obtain ⟨es',h',rfl⟩:=h
   obtain ⟨h1,h2⟩:=ih h'
   simp [h1,h2,Za,K.mk,SC.den,B.den]
  ·cases h
theorem Zp1 {e:Env}:∀ {ks:List K} {cs:List SC} {es:List E},Z3e ks cs=some es→∀ c ∈ cs,(c.den e).oneCell'=true:=by
 intro ks
 induction ks with
 | nil =>
  intro cs es h
  cases cs with
  | nil=>simp
  | cons c cs=>simp [Z3e] at h
 | cons k ks ih =>
  intro cs es h
  unfold Z3e at h
  split at h
  ·simp_all
  ·rename_i heq
   cases heq
   split at h
   ·simp only [Option.map_eq_some_iff] at h
    obtain ⟨es',h',rfl⟩:=h
    intro c hc
    rcases List.mem_cons.1 hc with rfl | hc
    ·rfl
    ·exact ih h' c hc
   ·cases h
  ·rename_i heq
   cases heq
   simp only [Option.map_eq_some_iff] at h
   obtain ⟨es',h',rfl⟩:=h
   intro c hc
   rcases List.mem_cons.1 hc with rfl | hc
   ·rfl
   ·exact ih h' c hc
  ·rename_i heq
   cases heq
   simp only [Option.map_eq_some_iff] at h
   obtain ⟨es',h',rfl⟩:=h
   intro c hc
   rcases List.mem_cons.1 hc with rfl | hc
   ·rfl
   ·exact ih h' c hc
  ·cases h
theorem splice (cur new:List Value) (L m n j:Nat) (h1:j + new.length≤n) (h2:m + n≤L) (h3:L≤cur.length) :
  (cur.take (m + j)++new++cur.drop (m + j + new.length)).take L =
   (cur.take L).take m++((((cur.take L).drop m).take n).take j++new++(((cur.take L).drop m).take n).drop (j + new.length))++(cur.take L).drop (m + n):=by
 apply List.ext_getElem?
 intro p
 simp only [List.getElem?_take,List.getElem?_append,List.length_append,List.length_take,List.length_drop,List.getElem?_drop]
 rw [Nat.min_eq_left (by omega:m + j≤cur.length),Nat.min_eq_left h3,Nat.min_eq_left (by omega:m≤L),Nat.min_eq_left (by omega:n≤L - m),Nat.min_eq_left (by omega:j≤n)]
 by_cases hp:p < L <;> by_cases p1:p < m <;> by_cases p2:p < m + j <;> by_cases p3:p < m + j + new.length <;> by_cases p4:p < m + n <;>
  first
  | omega
  | ((repeat (first | rw [if_pos (by omega)] | rw [if_neg (by omega)])) <;> first | done | rfl | (congr 1; omega))
theorem Zzf {ks:List K} {l:List Int} {i:Nat} (h:∀ x ∈ l,(elt ks x).length=ks.length) (hi:i < l.length) :
  ((Zi ks l).drop (i * ks.length)).take ks.length=Za ks (elt ks (l.getD i 0)):=by
 apply List.ext_getElem?
 intro j
 rw [List.getElem?_take,List.getElem?_drop]
 have hx:=Z19 (h (l.getD i 0) (by simp [List.getD,hi]))
 split
 ·rename_i hj
  exact Z6e h hi hj
 ·rw [List.getElem?_eq_none (by omega)]
theorem Z1al {t:TypeId} {a x:Operand} (ho:o.op=.store t a x) (h:op1 P s o=some (aZ,v,s')) (hrep:Rep e W0 s w) (ha:ev a=(s.ev a).den e) (hx:ev x=(s.ev x).den e) (has:∀ b ∈ aZ,b.den e.R e.r=true):Zy P e W0 s s' o ev v w:=by
 simp only [op1,ho] at h
 split at h
 ·rename_i n off y hea hex
  split at h
  ·rename_i b hb
   split at h
   ·rename_i hc
    simp only [Z1kr,Z1ks] at hc
    obtain ⟨⟨⟨⟨⟨⟨hl,hinf⟩,hfl⟩,hsz⟩,hoff⟩,hone⟩,hys⟩:=hc
    simp only [Option.some.injEq,Prod.mk.injEq] at h
    obtain ⟨rfl,rfl,rfl⟩:=h
    rw [hea] at ha
    rw [hex] at hx
    have hx':ev x=y.den e:=hx
    have hcells:=SW.cells_den hrep hone hys
    have hst:=run_storeCells_at P (e.β.getD n 0) off b.ty (y.cells.map (SC.den e)) 0 _ w (hrep.blk n b hb hl) (by simpa using hoff) (fun u hu=>by
     obtain ⟨c,hc,rfl⟩:=List.mem_map.1 hu
     refine SC.den_one' hrep (List.all_eq_true.1 hone c hc) ?_
     cases y with
     | o c'=>simp only [SW.cells,List.mem_singleton] at hc; subst hc; exact hys
     | a cs=>exact List.all_eq_true.1 hys c hc)
    refine ⟨rfl,rfl,rfl,rfl,rfl,rfl,e,_,.skip,?_,.inr ⟨rfl,rfl⟩,hrep.store hb hl hfl (Z86 b.cells off y.cells),Env.le_refl _,rfl,rfl,rfl,fun _ _=>rfl⟩
    have ha':ev a=.pointer (some ⟨e.β.getD n 0,off,none⟩):=ha
    simp only [execOp,ho,ha',hx',Instr.storeAt,Instr.sureAddr,Sem.run_bind,Sem.run_pure,Result.andThen_ok,storeVar,Zk hinf,Sem.run_ite]
    rw [hcells,if_neg (by simp [hsz])]
    simp only [Nat.add_zero] at hst
    rw [hst]
    simp [Zp0]
   ·cases h
  ·cases h
 ·rename_i n size ix j y hea hex
  split at h
  ·rename_i b hb
   split at h
   ·rename_i hc
    simp only [Z1kr,Z1ks] at hc
    obtain ⟨⟨⟨⟨⟨hl,hinf⟩,hfl⟩,hsize⟩,hsz⟩,hj⟩:=hc
    split at h
    ·rename_i es hes
     simp only [Option.some.injEq,Prod.mk.injEq] at h
     obtain ⟨rfl,rfl,rfl⟩:=h
     rw [hea] at ha
     rw [hex] at hx
     have hx':ev x=y.den e:=hx
     obtain ⟨h0,h1,h2⟩:=Zm2 has
     have hrow:=hrep.row n b hb hl
     obtain ⟨g,cap,cur,hv,hob,hk0,hel,hg,hle,hm,hcs,htake⟩:=hrow.block (fun hn=>by rw [hn] at h1; simp at h1)
     have hxe:=hel ((dec (b.c.den e.R e.r)).getD (ix.den e.R e.r).toNat 0) (by simp [List.getD,h1])
     obtain ⟨hel1,hel2⟩:=Z5a (e:=e) hes
     have hecl:(Zdh (.o n) b.ks b.c ix).length=b.ks.length:=by
      have h1:=congrArg List.length (Z8p (e:=e) (g:=.o n) hxe)
      rw [Z19 hxe] at h1
      simpa using h1
     have hmem:∀ c ∈ y.cells,c ∈ Z86 (Zdh (.o n) b.ks b.c ix) j y.cells:=fun c hc=>by simp [Z86,hc]
     have hcells:(y.den e).cells=(y.cells.map (SC.den e)).toArray:=by
      cases y with
      | o c=>exact Z8o (Zp1 (e:=e) hes c (hmem c (by simp [SW.cells])))
      | a cs=>rfl
     have hcur:cur.toList.length=cap * b.ks.length:=by simpa using hcs
     have hlen:(Zi b.ks (dec (b.c.den e.R e.r))).length=(dec (b.c.den e.R e.r)).length * b.ks.length:=Zw hel
     have hmul:(ix.den e.R e.r).toNat * b.ks.length + b.ks.length≤(dec (b.c.den e.R e.r)).length * b.ks.length:=by
      rw [← Nat.succ_mul]; exact Nat.mul_le_mul_right _ h1
     have hmul2:(dec (b.c.den e.R e.r)).length * b.ks.length≤cap * b.ks.length:=Nat.mul_le_mul_right _ hle
     have hst:=run_storeCells_at P g ((ix.den e.R e.r).toNat * b.ks.length + j) b.ty (y.cells.map (SC.den e)) 0 _ w hg (by
      simp only [List.length_map]; omega) (fun u hu=>by
      obtain ⟨c,hc,rfl⟩:=List.mem_map.1 hu
      exact Zp1 (e:=e) hes c (hmem c hc))
     have hnew:(dec ((Zz0 b.c ix (Z3c es)).den e.R e.r))=(dec (b.c.den e.R e.r)).set (ix.den e.R e.r).toNat ((Z3c es).den e.R e.r):=by rw [Z130,Z3]
     have helt:elt b.ks ((Z3c es).den e.R e.r)=es.map (E.den e.R e.r):=Zbt _ _ hel1
     have heltl:(elt b.ks ((Z3c es).den e.R e.r)).length=b.ks.length:=by rw [helt]; simpa using hel1
     have hcl:Zi b.ks (dec ((Zz0 b.c ix (Z3c es)).den e.R e.r))=(cur.toList.take ((ix.den e.R e.r).toNat * b.ks.length + j)++y.cells.map (SC.den e)++cur.toList.drop ((ix.den e.R e.r).toNat * b.ks.length + j + y.cells.length)).take ((dec (b.c.den e.R e.r)).length * b.ks.length):=by
      rw [hnew,Zke heltl _ hel h1,helt,← hel2]
      have hsp:=splice cur.toList (y.cells.map (SC.den e)) ((dec (b.c.den e.R e.r)).length * b.ks.length) ((ix.den e.R e.r).toNat * b.ks.length) b.ks.length j (by simpa using hj) hmul (by rw [hcur]; exact hmul2)
      rw [List.length_map] at hsp
      rw [hsp,htake,Zzf hel h1,← Z8p (g:=.o n) hxe]
      simp only [Z86,List.map_append,List.map_take,List.map_drop]
     have hrow':Zt (w.setRow g (cur.toList.take ((ix.den e.R e.r).toNat * b.ks.length + j)++y.cells.map (SC.den e)++cur.toList.drop ((ix.den e.R e.r).toNat * b.ks.length + j + y.cells.length)).toArray) b.ty b.ks ((G.o n).val e) ((Zz0 b.c ix (Z3c es)).den e.R e.r):=by
      refine .inr ⟨hk0,?_,?_,.inr ⟨g,cap,_,?_,Nat.zero_le _,setRow_heap w g cur _ _ _ hg,?_,hm,?_,?_⟩⟩
      ·rw [hnew]
       intro z hz
       rcases List.mem_or_eq_of_mem_set hz with hz | hz
       ·exact hel z hz
       ·rw [hz]; exact heltl
      ·rw [Zw]
       rw [hnew]
       intro z hz
       rcases List.mem_or_eq_of_mem_set hz with hz | hz
       ·exact hel z hz
       ·rw [hz]; exact heltl
      ·rw [hv,hnew,List.length_set]
      ·rw [hnew,List.length_set]; exact hle
      ·simp only [List.size_toArray,List.length_append,List.length_take,List.length_drop,List.length_map,hcur]
       omega
      ·rw [hcl,hnew,List.length_set]
     refine ⟨rfl,rfl,rfl,rfl,rfl,rfl,e,_,.skip,?_,.inr ⟨rfl,rfl⟩,hrep.storeRow hb hl hfl hob _ hrow',Env.le_refl _,rfl,rfl,rfl,fun _ _=>rfl⟩
     have ha':ev a=.pointer (some ⟨g,(ix.den e.R e.r).toNat * b.ks.length + j,none⟩):=by
      rw [ha]
      simp only [SV.den,SW.den,SC.den]
      rw [hv,hsize]
      simp [atV,Addr.add_lit]
     simp only [execOp,ho,ha',hx',Instr.storeAt,Instr.sureAddr,Sem.run_bind,Sem.run_pure,Result.andThen_ok,storeVar,Zk hinf,Sem.run_ite]
     rw [hcells,if_neg (by simp [hsz])]
     simp only [Nat.add_zero] at hst
     rw [hst]
     simp
    ·cases h
   ·cases h
  ·cases h
 ·cases h
theorem Zsd {x:Operand} (ho:o.op=.nilCheck x) (h:op1 P s o=some (aZ,v,s')) (hrep:Rep e W0 s w) (hev:ev x=(s.ev x).den e) (has:∀ b ∈ aZ,b.den e.R e.r=true):Zy P e W0 s s' o ev v w:=by
 simp only [op1,ho] at h
 split at h
 ·rename_i hx
  simp only [Option.some.injEq,Prod.mk.injEq] at h
  obtain ⟨rfl,rfl,rfl⟩:=h
  rw [hx] at hev
  exact Zy.same hrep (by simp [execOp,ho,hev,one,SV.den,SW.den,SC.den,Z33])
 ·rename_i hx
  rw [hx] at hev
  split at h
  ·rename_i hg
   simp only [Option.some.injEq,Prod.mk.injEq] at h
   obtain ⟨rfl,rfl,rfl⟩:=h
   obtain ⟨b,off,hat,_,_⟩:=Zm3 hrep hg has
   exact Zy.same hrep (by simp [execOp,ho,hev,one,SV.den,SW.den,SC.den,hat])
  ·cases h
 ·rename_i hx
  simp only [Option.some.injEq,Prod.mk.injEq] at h
  obtain ⟨rfl,rfl,rfl⟩:=h
  rw [hx] at hev
  exact Zy.same hrep (by simp [execOp,ho,hev,one,SV.den,SW.den,SC.den,Z33])
 ·cases h
theorem op_un {u:UnOp} {t:TypeId} {x:Operand} (ho:o.op=.unOp u t x) (h:op1 P s o=some (aZ,v,s')) (hrep:Rep e W0 s w) (hev:ev x=(s.ev x).den e):Zy P e W0 s s' o ev v w:=by
  simp only [op1,ho] at h
  split at h <;> first
    | (rename_i hx
       simp only [Option.some.injEq,Prod.mk.injEq] at h
       obtain ⟨rfl,rfl,rfl⟩:=h
       rw [hx] at hev
       exact Zy.same hrep (by simp [execOp,ho,hev,one,SV.den,SW.den,SC.den,Op.unary,Op.intArith,Zbr,Z3g,E.den]))
    | cases h
theorem Zzg {a b:TypeId} {x:Operand} (ho:o.op=.convert a b x) (h:op1 P s o=some (aZ,v,s')) (hrep:Rep e W0 s w) (hev:ev x=(s.ev x).den e):Zy P e W0 s s' o ev v w:=by
 simp only [op1,ho] at h
 split at h
 ·rename_i h1 h2 hx
  simp only [Option.some.injEq,Prod.mk.injEq] at h
  obtain ⟨rfl,rfl,rfl⟩:=h
  rw [hx] at hev
  exact Zy.same hrep (by simp [execOp,ho,hev,one,SV.den,SW.den,SC.den,convert,run_underlying h1,run_underlying h2,Conv.intToInt,Z1ai])
 ·cases h
theorem Zzh {x:Operand} {ix:Nat} (ho:o.op=.extract x ix) (h:op1 P s o=some (aZ,v,s')) (hrep:Rep e W0 s w) (hev:ev x=(s.ev x).den e):Zy P e W0 s s' o ev v w:=by
 simp only [op1,ho] at h
 split at h
 ·rename_i xs hx
  simp only [Option.map_eq_some_iff,Prod.mk.injEq] at h
  obtain ⟨y,hy,rfl,rfl,rfl⟩:=h
  rw [hx] at hev
  exact Zy.same hrep (by simp [execOp,ho,hev,SV.den,Instr.extract,hy])
 ·cases h
theorem Z9p {t:TypeId} {cs:List SC} {off:Nat} {y:SW} (h:Z6a P t cs off=some y):(part t (cs.map (SC.den e)).toArray off).run P w=.ok (y.den e) w:=by
 unfold Z6a at h
 split at h
 ·cases h
 ·rename_i hk
  simp only [Bool.not_eq_true] at hk
  split at h
  ·rename_i hagg
   simp only [Option.some.injEq] at h
   subst h
   simp only [part,Sem.run_bind,Z9o hk,Result.andThen_ok,hagg,if_true,Zk (Zvj hk),Sem.run_pure,SW.den]
   congr 2
   apply Array.ext'
   simp
  ·rename_i hagg
   simp only [Option.map_eq_some_iff] at h
   obtain ⟨c,hc,rfl⟩:=h
   simp only [part,Sem.run_bind,Z9o hk,Result.andThen_ok,hagg,Bool.false_eq_true,if_false]
   simp [hc,SW.den]
theorem Z1am {t:TypeId} {x:Operand} {f:Nat} (ho:o.op=.field t x f) (h:op1 P s o=some (aZ,v,s')) (hrep:Rep e W0 s w) (hev:ev x=(s.ev x).den e):Zy P e W0 s s' o ev v w:=by
 simp only [op1,ho] at h
 split at h
 ·rename_i fields cs hu hx
  split at h
  ·rename_i fd hf
   simp only [Option.map_eq_some_iff,Prod.mk.injEq] at h
   obtain ⟨y,hy,rfl,rfl,rfl⟩:=h
   rw [hx] at hev
   refine Zy.same hrep ?_
   simp only [execOp,ho,hev,SV.den,SW.den,Instr.field,Sem.run_bind,run_underlying hu,Result.andThen_ok,hf,asAgg,Sem.run_pure,Z9p hy]
  ·cases h
 ·cases h
theorem Zp2 {t:TypeId} {x:Operand} {f:Nat} (ho:o.op=.fieldAddr t x f) (h:op1 P s o=some (aZ,v,s')) (hrep:Rep e W0 s w) (hev:ev x=(s.ev x).den e) (has:∀ b ∈ aZ,b.den e.R e.r=true):Zy P e W0 s s' o ev v w:=by
 simp only [op1,ho] at h
 split at h
 ·rename_i fields hu
  split at h
  ·rename_i fd hf
   split at h
   ·cases h
   ·rename_i hz
    simp only [Bool.or_eq_true,Z1ks,not_or,Bool.not_eq_true] at hz
    have hinf:(P.info? fd.type).isSome=true:=by
     cases hi:P.info? fd.type <;> simp_all
    have hrun:∀ a:Addr,(Instr.fieldAt t (.pointer (some a)) f).run P w=.ok (.pointer (some (a.add fd.offset))) w:=fun a=>by
     simp only [Instr.fieldAt,Sem.run_bind,run_underlying hu,Result.andThen_ok,hf,Instr.sureAddr,Sem.run_pure,fieldPlace,Zk hinf,Sem.run_ite,if_neg hz.1]
    split at h
    ·rename_i n off hx
     simp only [Option.some.injEq,Prod.mk.injEq] at h
     obtain ⟨rfl,rfl,rfl⟩:=h
     rw [hx] at hev
     exact Zy.same hrep (by simp only [execOp,ho,hev,one,SV.den,SW.den,SC.den,Z33,Sem.run_bind,hrun,Result.andThen_ok,Sem.run_pure,Addr.add_lit])
    ·rename_i g size ix j hx
     rw [hx] at hev
     split at h
     ·rename_i c hg
      simp only [Option.some.injEq,Prod.mk.injEq] at h
      obtain ⟨rfl,rfl,rfl⟩:=h
      obtain ⟨b,off,hat,_,_⟩:=Zm3 hrep hg has
      have hev':ev x=.pointer (some ⟨b,off + ((ix.den e.R e.r).toNat * size + j),none⟩):=by rw [hev]; simp only [SV.den,SW.den,SC.den,hat]
      refine Zy.same hrep ?_
      simp only [execOp,ho,hev',Sem.run_bind,hrun,Result.andThen_ok,Sem.run_pure,Addr.add_lit,one,SV.den,SW.den,SC.den,hat]
      congr 5
      omega
     ·cases h
    ·cases h
  ·cases h
 ·cases h
end
end Go.Sx
namespace Go.Sx
open Go.RowKit
section
variable {P:Program} {e:Env} {W0:Bas} {s s':St} {o:Oper} {ev:Operand→Value} {v:SV} {w:World} {aZ:List B}
theorem Z34 {x:SV} {i:Nat} (h:Z73 x=some i) (e:Env):∃ k,x.den e=.int k (i:Int):=by
 unfold Z73 at h
 split at h
 ·rename_i k n
  split at h
  ·rename_i hn
   simp only [Option.some.injEq] at h
   subst h
   exact ⟨k,by simp [SV.den,SW.den,SC.den,E.den,Int.toNat_of_nonneg hn]⟩
  ·cases h
 ·cases h
theorem Z9q {x:SV} {i:E} (h:Z1a0 x=some i) (e:Env):∃ k,x.den e=.int k (i.den e.R e.r):=by
 unfold Z1a0 at h
 split at h
 ·rename_i k n
  simp only [Option.some.injEq] at h
  subst h
  exact ⟨k,rfl⟩
 ·cases h
theorem Zp3 {t:TypeId} {x ix:Operand} (ho:o.op=.indexAddr t x ix) (h:op1 P s o=some (aZ,v,s')) (hrep:Rep e W0 s w) (hev:ev x=(s.ev x).den e) (hix:ev ix=(s.ev ix).den e) (has:∀ b ∈ aZ,b.den e.R e.r=true):Zy P e W0 s s' o ev v w:=by
 simp only [op1,ho] at h
 have arr:∀ {len:Nat} {elem:TypeId} {i:Nat} {k:IntKind} (a:Addr),P.underlying t=some (.array len elem)→(P.info? elem).isSome=true→i < len→ev ix=.int k (i:Int)→ev x=.pointer (some a) →
   (execOp ev o).run P w=.ok (.value (.pointer (some (a.add (i * P.cellsOf elem))))) w:=by
  intro len elem i k a hu hinf hi he hx
  simp only [execOp,ho,Instr.indexAt,he,hx,asIntOf,Sem.run_bind,Sem.run_pure,Result.andThen_ok,run_underlying hu,Instr.sureAddr,Sem.run_ite,Zk hinf]
  rw [if_pos ⟨by omega,by omega⟩]
  simp
 have slc:∀ {len cap:Nat} {elem:TypeId} {i:Int} {k:IntKind} (a:Addr),P.underlying t=some (.slice elem)→(P.info? elem).isSome=true→0≤i→i < (len:Int)→ev ix=.int k i→ev x=.slice (some a) len cap →
   (execOp ev o).run P w=.ok (.value (.pointer (some (a.add (i.toNat * P.cellsOf elem))))) w:=by
  intro len cap elem i k a hu hinf hi0 hi he hx
  simp only [execOp,ho,Instr.indexAt,he,hx,asIntOf,Sem.run_bind,Sem.run_pure,Result.andThen_ok,run_underlying hu,Sem.run_ite,Zk hinf]
  rw [if_pos ⟨by omega,by omega⟩]
  rfl
 split at h
 ·rename_i len elem n off hu hx
  rw [hx] at hev
  split at h
  ·rename_i i hi
   split at h
   ·rename_i hc
    simp only [Z1kr,Z1ks] at hc
    simp only [Option.some.injEq,Prod.mk.injEq] at h
    obtain ⟨rfl,rfl,rfl⟩:=h
    obtain ⟨k,hk⟩:=Z34 hi e
    refine Zy.same hrep ?_
    rw [arr ⟨e.β.getD n 0,off,none⟩ hu hc.2 hc.1 (hix.trans hk) hev,Addr.add_lit]
    rfl
   ·cases h
  ·cases h
 ·rename_i len elem g size gx j hu hx
  rw [hx] at hev
  split at h
  ·rename_i hbig
   simp only [Z1kr,Z1ks] at hbig
   obtain ⟨_,rfl,hlen,rfl,hgx⟩:=hbig
   have hgx:=E.same_eq _ _ hgx
   subst hgx
   split at h
   ·rename_i ie ks c hie hg
    split at h
    ·rename_i hinf
     simp only [Option.some.injEq,Prod.mk.injEq] at h
     obtain ⟨rfl,rfl,rfl⟩:=h
     obtain ⟨k,hk⟩:=Z9q hie e
     obtain ⟨h0,h1,h2⟩:=Zm2 (c:=c) (ix:=ie) (fun b hb=>has b (List.mem_append_left _ hb))
     have h3:=has (Z128 ie (.c len)) (by simp)
     rw [Zbs,Z1ks] at h3
     simp only [E.den] at h3
     refine Zy.same hrep ?_
     rcases hrep.gread hg with ⟨_,hn⟩ | ⟨b,off,cap,hv,hle,hm,hel,hcell⟩
     ·rw [hn] at h1; simp at h1
     ·obtain ⟨m,hm'⟩:=Int.eq_ofNat_of_zero_le h0
      rw [arr (i:=m) (k:=k) ⟨b,off,none⟩ hu hinf (by omega) (by rw [hix.trans hk,hm']) (hev.trans (by simp [SV.den,SW.den,SC.den,hv,atV,Addr.add_lit,E.den])),Addr.add_lit]
      simp [one,SV.den,SW.den,SC.den,hv,atV,Addr.add_lit,hm']
    ·cases h
   ·cases h
  split at h
  ·rename_i i ks c hi hg
   split at h
   ·rename_i hc
    simp only [Z1kr,Z1ks] at hc
    simp only [Option.some.injEq,Prod.mk.injEq] at h
    obtain ⟨rfl,rfl,rfl⟩:=h
    obtain ⟨k,hk⟩:=Z34 hi e
    obtain ⟨b,off,hat,_,_⟩:=Zm3 hrep hg has
    refine Zy.same hrep ?_
    rw [arr ⟨b,off + ((gx.den e.R e.r).toNat * size + j),none⟩ hu hc.2 hc.1 (hix.trans hk) (hev.trans (by simp only [SV.den,SW.den,SC.den,hat])),Addr.add_lit]
    simp only [one,SV.den,SW.den,SC.den,hat]
    congr 5
    omega
   ·cases h
  ·cases h
 ·rename_i elem n off len cap hu hx
  rw [hx] at hev
  split at h
  ·rename_i i hi
   split at h
   ·rename_i hc
    simp only [Z1kr,Z1ks] at hc
    simp only [Option.some.injEq,Prod.mk.injEq] at h
    obtain ⟨rfl,rfl,rfl⟩:=h
    obtain ⟨k,hk⟩:=Z34 hi e
    refine Zy.same hrep ?_
    rw [slc ⟨e.β.getD n 0,off,none⟩ hu hc.2 (by omega) (by omega) (hix.trans hk) hev,Addr.add_lit]
    simp [one,SV.den,SW.den,SC.den,Z33]
   ·cases h
  ·cases h
 ·rename_i elem g hu hx
  rw [hx] at hev
  split at h
  ·rename_i ie ks c hi hg
   split at h
   ·rename_i hinf
    simp only [Option.some.injEq,Prod.mk.injEq] at h
    obtain ⟨rfl,rfl,rfl⟩:=h
    obtain ⟨k,hk⟩:=Z9q hi e
    obtain ⟨h0,h1,h2⟩:=Zm2 has
    refine Zy.same hrep ?_
    rcases hrep.gread hg with ⟨_,hn⟩ | ⟨b,off,cap,hv,hle,hm,hel,hcell⟩
    ·rw [hn] at h1; simp at h1
    ·rw [slc ⟨b,off,none⟩ hu hinf h0 h2 (hix.trans hk) (hev.trans hv),Addr.add_lit]
     simp only [one,SV.den,SW.den,SC.den,hv,atV,Addr.add_lit,Nat.add_zero]
   ·cases h
  ·cases h
 ·rename_i elem g size lo hi hu hx
  rw [hx] at hev
  split at h
  ·rename_i ie ks c hie hg
   split at h
   ·rename_i hc
    simp only [Z1kr,Z1ks] at hc
    obtain ⟨hinf,rfl⟩:=hc
    simp only [Option.some.injEq,Prod.mk.injEq] at h
    obtain ⟨rfl,rfl,rfl⟩:=h
    obtain ⟨k,hk⟩:=Z9q hie e
    obtain ⟨v1,v2,v3⟩:=Zf4 (c:=c) (lo:=lo) (hi:=hi) (fun b hb=>has b (List.mem_append_left _ hb))
    have h1:=has (Z8f (.c 0) ie) (by simp)
    have h2:=has (Z128 ie (Z3p hi lo)) (by simp)
    rw [Z31,Z1ks] at h1
    rw [Zbs,Z1ks] at h2
    simp only [E.den] at h1
    refine Zy.same hrep ?_
    rcases hrep.gread hg with ⟨_,hn⟩ | ⟨b,off,cap,hv,hle,hm,hel,hcell⟩
    ·rw [hn] at v3
     simp only [List.length_nil] at v3
     have hmin:(Z3p hi lo).den e.R e.r=hi.den e.R e.r - lo.den e.R e.r:=Z6d _ _ (by omega) (by simp at v3; omega)
     rw [hmin] at h2
     simp at v3
     omega
    ·have hml:((dec (c.den e.R e.r)).length:Int)≤9223372036854775807:=by simp only [maxLen] at hm; omega
     have hmin:(Z3p hi lo).den e.R e.r=hi.den e.R e.r - lo.den e.R e.r:=Z6d _ _ (by omega) (by omega)
     rw [hmin] at h2
     have hpl:(Zjw lo ie).den e.R e.r=lo.den e.R e.r + ie.den e.R e.r:=Zbu _ _ (by omega) (by omega)
     have hcl:cap ≠ (lo.den e.R e.r).toNat:=by omega
     have hev':ev x=.slice (some ⟨b,off + (lo.den e.R e.r).toNat * P.cellsOf elem,none⟩) ((hi.den e.R e.r).toNat - (lo.den e.R e.r).toNat) (cap - (lo.den e.R e.r).toNat):=by
      rw [hev]
      simp only [SV.den,SW.den,SC.den,hv,Z8i,if_neg hcl,Option.map_some,Addr.add_lit]
     rw [slc _ hu hinf h1 (by omega) (hix.trans hk) hev',Addr.add_lit]
     simp only [one,SV.den,SW.den,SC.den,hv,atV,Addr.add_lit,Nat.add_zero,hpl]
     congr 5
     rw [Int.toNat_add v1 h1,Nat.add_mul]
     omega
   ·cases h
  ·cases h
 ·cases h
theorem Z1an {t:TypeId} {x ix:Operand} (ho:o.op=.index t x ix) (h:op1 P s o=some (aZ,v,s')) (hrep:Rep e W0 s w) (hev:ev x=(s.ev x).den e) (hix:ev ix=(s.ev ix).den e):Zy P e W0 s s' o ev v w:=by
 simp only [op1,ho] at h
 split at h
 ·rename_i len elem cs i hu hx hi
  split at h
  ·rename_i hc
   simp only [Z1kr,Z1ks] at hc
   simp only [Option.map_eq_some_iff,Prod.mk.injEq] at h
   obtain ⟨y,hy,rfl,rfl,rfl⟩:=h
   rw [hx] at hev
   obtain ⟨k,hk⟩:=Z34 hi e
   have hix':=hix.trans hk
   have hev':ev x=.agg (cs.map (SC.den e)).toArray:=hev
   refine Zy.same hrep ?_
   simp only [execOp,ho,Instr.index,hix',hev',asIntOf,Sem.run_bind,Sem.run_pure,Result.andThen_ok,run_underlying hu,Sem.run_ite,Zk hc.2]
   rw [if_pos ⟨by omega,by omega⟩]
   simp [Z9p hy,SV.den]
  ·cases h
 ·cases h
theorem Zse {fn:Fn} {first caps:Array Operand} (ho:o.op=.makeFunc fn first caps) (h:op1 P s o=some (aZ,v,s')) (hrep:Rep e W0 s w) (hev:∀ x ∈ caps,ev x=(s.ev x).den e):Zy P e W0 s s' o ev v w:=by
 simp only [op1,ho] at h
 split at h
 ·rename_i f hf
  simp only [Option.map_eq_some_iff,Prod.mk.injEq] at h
  obtain ⟨l,hl,rfl,rfl,rfl⟩:=h
  have hfirst:first=#[]:=by
   apply Array.ext'
   simpa using hf
  subst hfirst
  have key:∀ (cs:List Operand) (l:List (Nat × Nat)),(∀ x ∈ cs,ev x=(s.ev x).den e)→Z12f s cs=some l→cs.map ev=l.map fun c=>Z33 e c.1 c.2:=by
   intro cs
   induction cs with
   | nil=>intro l _ hl; simp [Z12f] at hl; simp [← hl]
   | cons c cs ih =>
    intro l hcs hl
    simp only [Z12f] at hl
    split at hl
    ·rename_i n off l' hx hl'
     simp only [Option.some.injEq] at hl
     subst hl
     have:=ih l' (fun x hx=>hcs x (by simp [hx])) hl'
     rw [Z1kk,this,hcs c (by simp),hx]
     rfl
    ·cases hl
  have hk:=key caps.toList l (fun x hx=>hev x (by simpa using hx)) hl
  refine Zy.same hrep ?_
  have hk':caps.map ev=(l.map fun c=>Z33 e c.1 c.2).toArray:=by
   apply Array.ext'
   simpa using hk
  simp [execOp,ho,Instr.makeFunc,hk',one,SV.den,SW.den,SC.den]
 ·cases h
theorem Z9r {x:Option Operand} {dflt i:Nat} (h:Zao s x dflt=some i) (hev:∀ y ∈ x,ev y=(s.ev y).den e) :
  (x=none∧i=dflt)∨∃ y k,x=some y∧ev y=.int k (i:Int):=by
 unfold Zao at h
 split at h
 ·exact .inl ⟨rfl,by simpa using h.symm⟩
 ·rename_i y
  obtain ⟨k,hk⟩:=Z34 h e
  exact .inr ⟨y,k,rfl,(hev y rfl).trans hk⟩
theorem Z7y {isSlice:Bool} {len cap l h:Nat} {lo hi:Option Value} (hh:(hi=none∧h=len)∨∃ k,hi=some (.int k (h:Int))) (hl:(lo=none∧l=0)∨∃ k,lo=some (.int k (l:Int))) (h1:l≤h) (h2:h≤cap) :
  (Instr.sliceBounds isSlice len cap lo hi none).run P w=.ok (l,h,cap) w:=by
 rcases hh with ⟨rfl,rfl⟩ | ⟨k,rfl⟩ <;> rcases hl with ⟨rfl,rfl⟩ | ⟨k',rfl⟩ <;>
  simp [Instr.sliceBounds,Instr.sliceBound,asIntOf,h1,h2]
theorem Z1ao {x:Option Operand} {dflt i:E} (h:Z1go s x dflt=some i) (hev:∀ y ∈ x,ev y=(s.ev y).den e) :
  (x=none∧i=dflt)∨∃ y k,x=some y∧ev y=.int k (i.den e.R e.r):=by
 unfold Z1go at h
 split at h
 ·exact .inl ⟨rfl,by simpa using h.symm⟩
 ·rename_i y
  obtain ⟨k,hk⟩:=Z9q h e
  exact .inr ⟨y,k,rfl,(hev y rfl).trans hk⟩
theorem Zfd {len cap:Nat} {lo hi mx:Option Value} (hh:∃ k,hi=some (.int k 0)) (hm:∃ k,mx=some (.int k 0)) (hl:lo=none∨∃ k,lo=some (.int k 0)) :
  (Instr.sliceBounds true len cap lo hi mx).run P w=.ok (0,0,0) w:=by
 obtain ⟨k,rfl⟩:=hh
 obtain ⟨k',rfl⟩:=hm
 rcases hl with rfl | ⟨k'',rfl⟩ <;> simp [Instr.sliceBounds,Instr.sliceBound,asIntOf]
theorem Z2c {len cap:Nat} {l h:Int} {lo hi:Option Value} (hh:(hi=none∧h=len)∨∃ k,hi=some (.int k h)) (hl:(lo=none∧l=0)∨∃ k,lo=some (.int k l)) (h0:0≤l) (h1:l≤h) (h2:h≤(cap:Int)) :
  (Instr.sliceBounds true len cap lo hi none).run P w=.ok (l.toNat,h.toNat,cap) w:=by
 have e2:0≤h:=by omega
 have e3:l≤((h.toNat:Nat):Int):=by omega
 rcases hh with ⟨rfl,rfl⟩ | ⟨k,rfl⟩ <;> rcases hl with ⟨rfl,rfl⟩ | ⟨k',rfl⟩
 ·simp [Instr.sliceBounds]
 ·simp [Instr.sliceBounds,Instr.sliceBound,asIntOf,h0,h1]
 ·simp [Instr.sliceBounds,Instr.sliceBound,asIntOf,e2,h2]
 ·simp [Instr.sliceBounds,Instr.sliceBound,asIntOf,e2,h2,h0]
  intro hc
  omega
theorem Z1ap {t:TypeId} {x:Operand} {lo hi mx:Option Operand} (ho:o.op=.slice t x lo hi mx) (h:op1 P s o=some (aZ,v,s')) (hrep:Rep e W0 s w) (hev:ev x=(s.ev x).den e) (hlo:∀ y ∈ lo,ev y=(s.ev y).den e) (hhi:∀ y ∈ hi,ev y=(s.ev y).den e) (hmx0:∀ y ∈ mx,ev y=(s.ev y).den e) (has:∀ b ∈ aZ,b.den e.R e.r=true):Zy P e W0 s s' o ev v w:=by
 simp only [op1,ho] at h
 split at h
 ·split at h
  ·rename_i elem g hu hx hbl hbh hbm
   split at h
   ·rename_i hc
    simp only [Z1kr] at hc
    simp only [Option.some.injEq,Prod.mk.injEq] at h
    obtain ⟨rfl,rfl,rfl⟩:=h
    rw [hx] at hev
    obtain ⟨a,l,c,hv⟩:=G.val_slice e g
    have hev':ev x=.slice a l c:=hev.trans hv
    refine Zy.same hrep ?_
    have b1:∃ k,hi.map ev=some (.int k 0):=by
     rcases Z9r hbh hhi with ⟨_,h1⟩ | ⟨y,k,h1,h2⟩
     ·cases h1
     ·exact ⟨k,by rw [h1]; simp [h2]⟩
    have b2:∃ k,mx.map ev=some (.int k 0):=by
     rcases Z9r hbm hmx0 with ⟨_,h1⟩ | ⟨y,k,h1,h2⟩
     ·cases h1
     ·exact ⟨k,by rw [h1]; simp [h2]⟩
    have b3:lo.map ev=none∨∃ k,lo.map ev=some (.int k 0):=by
     rcases Z9r hbl hlo with ⟨h1,_⟩ | ⟨y,k,h1,h2⟩
     ·exact .inl (by rw [h1]; rfl)
     ·exact .inr ⟨k,by rw [h1]; simp [h2]⟩
    simp only [execOp,ho,Instr.sliceAt,Instr.slice,Sem.run_bind,run_underlying hu,Result.andThen_ok,hev',Sem.run_pure,Zfd b1 b2 b3,Zk hc.2]
    simp [one,SV.den,SW.den,SC.den,hv,Z12c]
   ·cases h
  ·cases h
 ·rename_i hmx
  have hmx':mx=none:=by cases mx <;> simp_all
  subst hmx'
  have Z1i:∀ {x:Option Operand} {dflt i:Nat},Zao s x dflt=some i→(∀ y ∈ x,ev y=(s.ev y).den e)→(x.map ev=none∧i=dflt)∨∃ k,x.map ev=some (.int k (i:Int)):=by
   intro x dflt i hb hx
   rcases Z9r hb hx with ⟨rfl,rfl⟩ | ⟨y,k,rfl,hy⟩
   ·exact .inl ⟨rfl,rfl⟩
   ·exact .inr ⟨k,by simp [hy]⟩
  have conv2:∀ {x:Option Operand} {dflt i:E},Z1go s x dflt=some i→(∀ y ∈ x,ev y=(s.ev y).den e)→(x.map ev=none∧i.den e.R e.r=dflt.den e.R e.r)∨∃ k,x.map ev=some (.int k (i.den e.R e.r)):=by
   intro x dflt i hb hx
   rcases Z1ao hb hx with ⟨rfl,rfl⟩ | ⟨y,k,rfl,hy⟩
   ·exact .inl ⟨rfl,rfl⟩
   ·exact .inr ⟨k,by simp [hy]⟩
  split at h
  ·rename_i elem g hu hx
   rw [hx] at hev
   split at h
   ·rename_i ks c hg
    split at h
    ·rename_i l hh hlb hhb
     split at h
     ·rename_i hinf
      simp only [Option.some.injEq,Prod.mk.injEq] at h
      obtain ⟨rfl,rfl,rfl⟩:=h
      obtain ⟨v1,v2,v3⟩:=Zf4 has
      have cl:=conv2 hlb hlo
      have ch:=conv2 hhb hhi
      rw [Z4q] at ch
      refine Zy.same hrep ?_
      rcases hrep.gread hg with ⟨⟨aa,hv⟩,hn⟩ | ⟨b,off,cap,hv,hle,hm,hel,hcell⟩
      ·rw [hn] at v3 ch
       simp only [List.length_nil] at ch
       have hev':ev x=.slice aa 0 0:=hev.trans hv
       simp only [execOp,ho,Instr.sliceAt,Instr.slice,Sem.run_bind,run_underlying hu,Result.andThen_ok,hev',Sem.run_pure,Option.map_none,Z2c (P:=P) (w:=w) (cap:=0) ch cl v1 v2 v3,Zk hinf]
       simp only [one,SV.den,SW.den,SC.den,hv,Z8i]
      ·have hev':ev x=.slice (some ⟨b,off,none⟩) (dec (c.den e.R e.r)).length cap:=hev.trans hv
       simp only [execOp,ho,Instr.sliceAt,Instr.slice,Sem.run_bind,run_underlying hu,Result.andThen_ok,hev',Sem.run_pure,Option.map_none,Z2c (P:=P) (w:=w) (cap:=cap) ch cl v1 v2 (by omega),Zk hinf]
       simp only [one,SV.den,SW.den,SC.den,hv,Z8i]
     ·cases h
    ·cases h
   ·cases h
  ·rename_i elem g size lo0 hi0 hu hx
   rw [hx] at hev
   split at h
   ·rename_i ks c hg
    split at h
    ·rename_i hh hlb hhb
     split at h
     ·rename_i hc
      simp only [Z1kr,Z1ks] at hc
      obtain ⟨hinf,rfl⟩:=hc
      simp only [Option.some.injEq,Prod.mk.injEq] at h
      obtain ⟨rfl,rfl,rfl⟩:=h
      obtain ⟨v1,v2,v3⟩:=Zf4 (c:=c) (lo:=lo0) (hi:=hi0) (fun b hb=>has b (List.mem_append_left _ hb))
      have h1:=has (Z8f (.c 0) hh) (by simp)
      have h3:=has (Z8f hh (Z3p hi0 lo0)) (by simp)
      rw [Z31,Z1ks] at h1 h3
      simp only [E.den] at h1
      have cl:(lo.map ev=none∧(0:Int)=0)∨∃ k,lo.map ev=some (.int k 0):=conv2 hlb hlo
      have ch:=conv2 hhb hhi
      have hml:((dec (c.den e.R e.r)).length:Int)≤9223372036854775807:=by
       rcases hrep.gread hg with ⟨_,hn⟩ | ⟨b,off,cap,hv,hle,hm,hel,hcell⟩
       ·rw [hn]; simp
       ·simp only [maxLen] at hm; omega
      have hmin:(Z3p hi0 lo0).den e.R e.r=hi0.den e.R e.r - lo0.den e.R e.r:=Z6d _ _ (by omega) (by omega)
      rw [hmin] at h3 ch
      have hph:(Zjw lo0 hh).den e.R e.r=lo0.den e.R e.r + hh.den e.R e.r:=Zbu _ _ (by omega) (by omega)
      have hlen:(hi0.den e.R e.r - lo0.den e.R e.r)=(((hi0.den e.R e.r).toNat - (lo0.den e.R e.r).toNat:Nat):Int):=by omega
      rw [hlen] at ch
      refine Zy.same hrep ?_
      rcases hrep.gread hg with ⟨⟨aa,hv⟩,hn⟩ | ⟨b,off,cap,hv,hle,hm,hel,hcell⟩
      ·rw [hn] at v3
       simp only [List.length_nil] at v3
       have e1:lo0.den e.R e.r=0:=by simp at v3; omega
       have e2:hi0.den e.R e.r=0:=by simp at v3; omega
       have e4:hh.den e.R e.r=0:=by omega
       have hev':ev x=.slice aa 0 0:=by rw [hev]; simp [SV.den,SW.den,SC.den,hv,Z8i,e1,e2]
       rw [e1,e2] at ch
       simp only [Int.toNat_zero,Nat.sub_self] at ch
       simp only [execOp,ho,Instr.sliceAt,Instr.slice,Sem.run_bind,run_underlying hu,Result.andThen_ok,hev',Sem.run_pure,Option.map_none,Z2c (P:=P) (w:=w) (cap:=0) ch cl (Int.le_refl 0) h1 (by omega),Zk hinf]
       simp only [one,SV.den,SW.den,SC.den,hv,Z8i,hph,e1,e4]
       simp
      ·have hev':ev x=.slice (if cap=(lo0.den e.R e.r).toNat then some ⟨b,off,none⟩ else some ⟨b,off + (lo0.den e.R e.r).toNat * P.cellsOf elem,none⟩) ((hi0.den e.R e.r).toNat - (lo0.den e.R e.r).toNat) (cap - (lo0.den e.R e.r).toNat):=by
        rw [hev]
        simp only [SV.den,SW.den,SC.den,hv,Z8i,Option.map_some,Addr.add_lit]
       simp only [execOp,ho,Instr.sliceAt,Instr.slice,Sem.run_bind,run_underlying hu,Result.andThen_ok,hev',Sem.run_pure,Option.map_none,Z2c (P:=P) (w:=w) (cap:=cap - (lo0.den e.R e.r).toNat) ch cl (Int.le_refl 0) h1 (by omega),Zk hinf]
       simp only [one,SV.den,SW.den,SC.den,hv,Z8i,hph,Option.map_some,Addr.add_lit,Int.toNat_zero,Nat.zero_mul,Nat.sub_zero]
       rw [Int.toNat_add v1 h1]
       have hsub:(lo0.den e.R e.r).toNat + (hh.den e.R e.r).toNat - (lo0.den e.R e.r).toNat=(hh.den e.R e.r).toNat:=by omega
       rw [hsub]
       have hadd:∀ q:Option Addr,q.map (fun x=>x.add 0)=q:=fun q=>by cases q <;> simp [Addr.add]
       rw [hadd]
       split <;> rfl
     ·cases h
    ·rename_i ll hh hnz hlb hhb
     split at h
     ·rename_i hc
      simp only [Z1kr,Z1ks] at hc
      obtain ⟨hinf,rfl⟩:=hc
      simp only [Option.some.injEq,Prod.mk.injEq] at h
      obtain ⟨rfl,rfl,rfl⟩:=h
      obtain ⟨v1,v2,v3⟩:=Zf4 (c:=c) (lo:=lo0) (hi:=hi0) (fun b hb=>has b (List.mem_append_left _ hb))
      have h1:=has (Z8f (.c 0) ll) (by simp)
      have h2:=has (Z8f ll hh) (by simp)
      have h3:=has (Z8f hh (Z3p hi0 lo0)) (by simp)
      have h4:=has (Z128 ll (Z3p hi0 lo0)) (by simp)
      rw [Z31,Z1ks] at h1 h2 h3
      rw [Zbs,Z1ks] at h4
      simp only [E.den] at h1
      have cl:=conv2 hlb hlo
      have ch:=conv2 hhb hhi
      have hml:((dec (c.den e.R e.r)).length:Int)≤9223372036854775807:=by
       rcases hrep.gread hg with ⟨_,hn⟩ | ⟨b,off,cap,hv,hle,hm,hel,hcell⟩
       ·rw [hn]; simp
       ·simp only [maxLen] at hm; omega
      have hmin:(Z3p hi0 lo0).den e.R e.r=hi0.den e.R e.r - lo0.den e.R e.r:=Z6d _ _ (by omega) (by omega)
      rw [hmin] at h3 h4 ch
      have hph:(Zjw lo0 hh).den e.R e.r=lo0.den e.R e.r + hh.den e.R e.r:=Zbu _ _ (by omega) (by omega)
      have hpl:(Zjw lo0 ll).den e.R e.r=lo0.den e.R e.r + ll.den e.R e.r:=Zbu _ _ (by omega) (by omega)
      have hlen:(hi0.den e.R e.r - lo0.den e.R e.r)=(((hi0.den e.R e.r).toNat - (lo0.den e.R e.r).toNat:Nat):Int):=by omega
      rw [hlen] at ch
      refine Zy.same hrep ?_
      rcases hrep.gread hg with ⟨hv,hn⟩ | ⟨b,off,cap,hv,hle,hm,hel,hcell⟩
      ·rw [hn] at v3
       simp only [List.length_nil] at v3
       exfalso
       simp at v3
       omega
      ·have hev':ev x=.slice (if cap=(lo0.den e.R e.r).toNat then some ⟨b,off,none⟩ else some ⟨b,off + (lo0.den e.R e.r).toNat * P.cellsOf elem,none⟩) ((hi0.den e.R e.r).toNat - (lo0.den e.R e.r).toNat) (cap - (lo0.den e.R e.r).toNat):=by
        rw [hev]
        simp only [SV.den,SW.den,SC.den,hv,Z8i,Option.map_some,Addr.add_lit]
       simp only [execOp,ho,Instr.sliceAt,Instr.slice,Sem.run_bind,run_underlying hu,Result.andThen_ok,hev',Sem.run_pure,Option.map_none,Z2c (P:=P) (w:=w) (cap:=cap - (lo0.den e.R e.r).toNat) ch cl h1 h2 (by omega),Zk hinf]
       simp only [one,SV.den,SW.den,SC.den,hv,Z8i,hph,hpl,Option.map_some,Addr.add_lit]
       have n1:¬ cap=(lo0.den e.R e.r).toNat:=by omega
       have n2:¬ cap - (lo0.den e.R e.r).toNat=(ll.den e.R e.r).toNat:=by omega
       rw [Int.toNat_add v1 (by omega:0≤hh.den e.R e.r),Int.toNat_add v1 h1]
       have n3:¬ cap=(lo0.den e.R e.r).toNat + (ll.den e.R e.r).toNat:=by omega
       rw [if_neg n1,if_neg n2,if_neg n3]
       simp only [Option.map_some,Addr.add_lit]
       rw [Nat.add_mul,← Nat.add_assoc,show (lo0.den e.R e.r).toNat + (hh.den e.R e.r).toNat - ((lo0.den e.R e.r).toNat + (ll.den e.R e.r).toNat)=(hh.den e.R e.r).toNat - (ll.den e.R e.r).toNat by omega,Nat.sub_add_eq]
     ·cases h
    ·cases h
   ·cases h
  ·rename_i len elem n off hu hx
   rw [hx] at hev
   split at h
   ·rename_i hh hhb
    split at h
    ·rename_i ll hlb
     split at h
     ·rename_i hc
      simp only [Z1kr,Z1ks] at hc
      simp only [Option.some.injEq,Prod.mk.injEq] at h
      obtain ⟨rfl,rfl,rfl⟩:=h
      have hev':ev x=.pointer (some ⟨e.β.getD n 0,off,none⟩):=hev
      refine Zy.same hrep ?_
      simp only [execOp,ho,Instr.sliceAt,Sem.run_bind,run_underlying hu,Result.andThen_ok,hev',Instr.sureAddr,Sem.run_pure,Option.map_none,Z7y (Z1i hhb hhi) (Z1i hlb hlo) hc.1.1 hc.1.2,Zk hc.2]
      simp only [one,SV.den,SW.den,SC.den,Addr.add_lit]
      congr 4
      split <;> rfl
     ·cases h
    ·cases h
   ·cases h
  ·rename_i elem n off len cap hu hx
   rw [hx] at hev
   split at h
   ·rename_i hh hhb
    split at h
    ·rename_i ll hlb
     split at h
     ·rename_i hc
      simp only [Z1kr,Z1ks] at hc
      simp only [Option.some.injEq,Prod.mk.injEq] at h
      obtain ⟨rfl,rfl,rfl⟩:=h
      have hev':ev x=.slice (some ⟨e.β.getD n 0,off,none⟩) len cap:=hev
      refine Zy.same hrep ?_
      simp only [execOp,ho,Instr.sliceAt,Instr.slice,Sem.run_bind,run_underlying hu,Result.andThen_ok,hev',Sem.run_pure,Option.map_none,Z7y (Z1i hhb hhi) (Z1i hlb hlo) hc.1.1 hc.1.2,Zk hc.2]
      simp only [one,SV.den,SW.den,SC.den,Option.map_some,Addr.add_lit]
      congr 4
      split <;> rfl
     ·cases h
    ·cases h
   ·cases h
  ·cases h
end
end Go.Sx
namespace Go.Sx
open Go.RowKit
section
variable {P:Program} {e:Env} {W0:Bas} {s s':St} {o:Oper} {ev:Operand→Value} {v:SV} {w:World} {aZ:List B}
def SW.fits (P:Program) (t:TypeId) (u:SW):Prop:=(Z85 P t=true∧∃ cs,u=.a cs)∨(Z85 P t=false∧∃ c,u=.o c)
theorem Z9s {t:TypeId} {cs:List SC} {off:Nat} {y:SW} (h:Z6a P t cs off=some y):y.fits P t:=by
 unfold Z6a at h
 split at h
 ·cases h
 ·split at h
  ·rename_i ha
   simp only [Option.some.injEq] at h
   exact .inl ⟨ha,_,h.symm⟩
  ·rename_i ha
   simp only [Option.map_eq_some_iff] at h
   obtain ⟨c,_,rfl⟩:=h
   exact .inr ⟨by simpa using ha,c,rfl⟩
theorem Zsf:∀ (d:Nat) (t:TypeId) (u v:SW) (b:B),u.fits P t→v.fits P t→eqB P d t u.cells v.cells=some b→∀ D,d≤D→∀ w:World,
  (Op.equalIn D t (u.den e) (v.den e)).run P w=.ok (b.den e.R e.r) w
 | 0,_,_,_,_,_,_,h,_,_,_=>by simp [eqB] at h
 | d + 1,t,u,v,b,hu,hv,h,D,hD,w=>by
  obtain ⟨D,rfl⟩:∃ D',D=D' + 1:=⟨D - 1,by omega⟩
  unfold eqB at h
  split at h
  ·rename_i ht
   have hna:Z85 P t=false:=by simp [Z85,ht]
   obtain ⟨c,rfl⟩:∃ c,u=.o c:=by
    rcases hu with ⟨h1,_⟩ | ⟨_,h2⟩
    ·simp [hna] at h1
    ·exact h2
   obtain ⟨c',rfl⟩:∃ c,v=.o c:=by
    rcases hv with ⟨h1,_⟩ | ⟨_,h2⟩
    ·simp [hna] at h1
    ·exact h2
   split at h
   ·rename_i a b' h1 h2
    simp only [SW.cells,List.cons.injEq,and_true] at h1 h2
    subst h1; subst h2
    simp only [Option.some.injEq] at h
    subst h
    simp only [SW.den,SC.den,run_equalIn_bool w D t _ _ ht,Zh7]
   ·cases h
  ·rename_i kk ht
   have hna:Z85 P t=false:=by simp [Z85,ht]
   obtain ⟨c,rfl⟩:∃ c,u=.o c:=by
    rcases hu with ⟨h1,_⟩ | ⟨_,h2⟩
    ·simp [hna] at h1
    ·exact h2
   obtain ⟨c',rfl⟩:∃ c,v=.o c:=by
    rcases hv with ⟨h1,_⟩ | ⟨_,h2⟩
    ·simp [hna] at h1
    ·exact h2
   split at h
   ·rename_i k a k' b' h1 h2
    simp only [SW.cells,List.cons.injEq,and_true] at h1 h2
    subst h1; subst h2
    split at h
    ·rename_i hkk
     subst hkk
     simp only [Option.some.injEq] at h
     subst h
     simp only [SW.den,SC.den,run_equalIn_int w D t k kk _ _ ht,Zlz]
    ·cases h
   ·cases h
  ·rename_i fields ht
   have ha:Z85 P t=true:=by simp [Z85,ht]
   obtain ⟨xs,rfl⟩:∃ c,u=.a c:=by
    rcases hu with ⟨_,h2⟩ | ⟨h1,_⟩
    ·exact h2
    ·simp [ha] at h1
   obtain ⟨ys,rfl⟩:∃ c,v=.a c:=by
    rcases hv with ⟨_,h2⟩ | ⟨h1,_⟩
    ·exact h2
    ·simp [ha] at h1
   split at h
   ·cases h
   ·rename_i hst
    have hfs:P.fieldsOf t=fields:=by simp [Program.fieldsOf,ht]
    simp only [SW.den,SW.cells] at h ⊢
    rw [run_equalIn_struct w D t _ _ (by rw [hfs]; exact ht) (by simpa using hst),hfs]
    clear ht hfs
    generalize fields.toList=fs at h ⊢
    induction fs generalizing b with
    | nil=>simp only [List.foldr_nil,Option.some.injEq] at h; subst h; simp [Op.eqFields,B.den]
    | cons f fs ih =>
     rw [List.foldr_cons] at h
     split at h
     ·cases h
     ·rename_i y hy
      have ih':=ih y hy
      split at h
      ·rename_i hname
       simp only [Option.some.injEq] at h
       subst h
       simp only [Op.eqFields,ne_eq,hname,Z1kn,if_false]
       exact ih'
      ·rename_i hname
       split at h
       ·rename_i p q hp hq
        split at h
        ·rename_i bb hbb
         simp only [Option.some.injEq] at h
         subst h
         simp only [Op.eqFields,ne_eq,hname,Z1ko,if_true,Sem.run_bind,Z9p hp,Z9p hq,Result.andThen_ok,
          Zsf d f.type p q bb (Z9s hp) (Z9s hq) hbb D (by omega) w,Z59]
         cases bb.den e.R e.r
         ·simp
         ·simp only [Bool.not_true,Bool.false_eq_true,if_false,Bool.true_and]
          exact ih'
        ·cases h
       ·cases h
  ·rename_i len elem ht
   have ha:Z85 P t=true:=by simp [Z85,ht]
   obtain ⟨xs,rfl⟩:∃ c,u=.a c:=by
    rcases hu with ⟨_,h2⟩ | ⟨h1,_⟩
    ·exact h2
    ·simp [ha] at h1
   obtain ⟨ys,rfl⟩:∃ c,v=.a c:=by
    rcases hv with ⟨_,h2⟩ | ⟨h1,_⟩
    ·exact h2
    ·simp [ha] at h1
   simp only [SW.den,SW.cells] at h ⊢
   split at h
   ·cases h
   ·rename_i hinf
    obtain ⟨i,hi⟩:∃ i,P.info? elem=some i:=by
     cases hi:P.info? elem with
     | none=>simp [hi] at hinf
     | some i=>exact ⟨i,rfl⟩
    rw [run_equalIn_array w D _ _ ht hi]
    generalize List.range len=is at h ⊢
    induction is generalizing b with
    | nil=>simp only [List.foldr_nil,Option.some.injEq] at h; subst h; simp [Op.eqItems,B.den]
    | cons f fs ih =>
     rw [List.foldr_cons] at h
     split at h
     ·cases h
     ·rename_i y hy
      have ih':=ih y hy
      split at h
      ·rename_i p q hp hq
       split at h
       ·rename_i bb hbb
        simp only [Option.some.injEq] at h
        subst h
        simp only [Op.eqItems,Sem.run_bind,Z9p hp,Z9p hq,Result.andThen_ok,
         Zsf d elem p q bb (Z9s hp) (Z9s hq) hbb D (by omega) w,Z59]
        cases bb.den e.R e.r
        ·simp
        ·simp only [Bool.not_true,Bool.false_eq_true,if_false,Bool.true_and]
         exact ih'
       ·cases h
      ·cases h
  ·cases h
theorem Z1aq (k:IntKind) (x:E):SV.den e (.w (.o (.i k x)))=.int k (x.den e.R e.r):=rfl
theorem den_b (x:B):SV.den e (.w (.o (.b x)))=.bool (x.den e.R e.r):=rfl
theorem den_a (cs:List SC):SV.den e (.w (.a cs))=.agg (cs.map (SC.den e)).toArray:=rfl
theorem Zzi {b:E} (has:∀ x ∈ Zoe b,x.den e.R e.r=true):b.den e.R e.r ≠ 0:=by
 unfold Zoe at has
 split at has
 ·rename_i n
  split at has
  ·have:=has (.c false) (by simp)
   simp [B.den] at this
  ·rename_i hn
   simpa [E.den] using hn
 ·have:=has (.not (.eq b (.c 0))) (by simp)
  simp only [B.den,E.den,Bool.not_eq_true',beq_eq_false_iff_ne,ne_eq] at this
  exact this
theorem op_bin {op:BinOp} {t yt:TypeId} {x y:Operand} (ho:o.op=.binOp op t x y yt) (h:op1 P s o=some (aZ,v,s')) (hrep:Rep e W0 s w) (hx:ev x=(s.ev x).den e) (hy:ev y=(s.ev y).den e) (has:∀ b ∈ aZ,b.den e.R e.r=true):Zy P e W0 s s' o ev v w:=by
 simp only [op1,ho,Option.map_eq_some_iff,Prod.mk.injEq] at h
 obtain ⟨⟨as',c⟩,hb,rfl,rfl,rfl⟩:=h
 refine Zy.same hrep ?_
 unfold binS at hb
 split at hb
 ·rename_i k a k' b hex hey
  split at hb
  ·rename_i hk
   subst hk
   rw [hex,Z1aq] at hx
   rw [hey,Z1aq] at hy
   have hdiv:∀ (opp:BinOp),(opp=.quo∨opp=.rem)→Zva opp k a b=some (as',c)→b.den e.R e.r ≠ 0:=by
    intro opp ho' ha
    have:as'=Zoe b:=by
     rcases ho' with rfl | rfl <;> simp only [Zva,Option.some.injEq,Prod.mk.injEq] at ha <;> exact ha.1.symm
    exact Zzi (by rw [← this]; exact has)
   cases op <;> simp only [Zva,Option.some.injEq,Prod.mk.injEq,reduceCtorEq] at hb <;> obtain ⟨rfl,rfl⟩:=hb <;>
    simp only [execOp,ho,hx,hy,eqGuard_at_int,pure_bind,Go.binOp,ne_eq,Z1kn,if_false,one,SV.den,SW.den,SC.den,Op.intArith,Op.intCmp,Sem.run_bind,Sem.run_pure,
     Zox,Zbr,Z12x,Zbs,Z31,Zlz,Z3g]
   case quo =>
    have hne:=hdiv .quo (.inl rfl) rfl
    simp only [Op.intDiv,if_neg hne,Sem.run_pure,Result.andThen_ok,Z12y]
   case rem =>
    have hne:=hdiv .rem (.inr rfl) rfl
    simp only [Op.intDiv,if_neg hne,Sem.run_pure,Result.andThen_ok,Z12z]
   all_goals rfl
  ·cases hb
 ·rename_i a b hex hey
  rw [hex,den_b] at hx
  rw [hey,den_b] at hy
  split at hb
  ·rename_i hu
   simp only [Option.some.injEq,Prod.mk.injEq] at hb
   obtain ⟨rfl,rfl⟩:=hb
   simp only [execOp,ho,hx,hy,eqGuard_at_bool,Sem.run_bind,Sem.run_pure,Result.andThen_ok,run_eql_bool w t _ _ hu,one,SV.den,SW.den,SC.den,Zh7]
  ·rename_i hu
   simp only [Option.some.injEq,Prod.mk.injEq] at hb
   obtain ⟨rfl,rfl⟩:=hb
   simp only [execOp,ho,hx,hy,eqGuard_at_bool,Sem.run_bind,Sem.run_pure,Result.andThen_ok,run_neq_bool w t _ _ hu,one,SV.den,SW.den,SC.den,Zh7,Z3g]
  ·cases hb
 ·rename_i xs ys hex hey
  rw [hex,den_a] at hx
  rw [hey,den_a] at hy
  split at hb
  ·cases hb
  ·rename_i hg
   simp only [Bool.or_eq_true,Bool.not_eq_true',not_or,Bool.not_eq_true,Bool.not_eq_false] at hg
   have key:∀ b,eqB P 12 t xs ys=some b→(Op.equalIn 10000 t (.agg (xs.map (SC.den e)).toArray) (.agg (ys.map (SC.den e)).toArray)).run P w=.ok (b.den e.R e.r) w:=fun b hb =>
    Zsf 12 t (.a xs) (.a ys) b (.inl ⟨hg.2,_,rfl⟩) (.inl ⟨hg.2,_,rfl⟩) hb 10000 (by omega) w
   split at hb
   ·simp only [Option.map_eq_some_iff,Prod.mk.injEq] at hb
    obtain ⟨b,hb,rfl,rfl⟩:=hb
    simp only [execOp,ho,hx,hy,Sem.run_bind,run_eqGuard_agg w _ t _ _ _ _ hg.1,Sem.run_pure,Result.andThen_ok,run_eql_struct,key b hb,one,SV.den,SW.den,SC.den]
   ·simp only [Option.map_eq_some_iff,Prod.mk.injEq] at hb
    obtain ⟨b,hb,rfl,rfl⟩:=hb
    simp only [execOp,ho,hx,hy,Sem.run_bind,run_eqGuard_agg w _ t _ _ _ _ hg.1,Sem.run_pure,Result.andThen_ok,run_neq_struct,key b hb,one,SV.den,SW.den,SC.den,Z3g]
   ·cases hb
 ·cases hb
end
end Go.Sx
namespace Go.Sx
open Go.RowKit
section
variable {P:Program} {e:Env} {W0:Bas} {s s':St} {o:Oper} {ev:Operand→Value} {v:SV} {w:World} {aZ:List B}
theorem Zp4 (off:Nat):∀ (new:List Value) (k:Nat) (cells:Array Value),off + k + new.length≤cells.size →
  (new.zipIdx k).foldl (fun cs (x:Value × Nat)=>cs.setIfInBounds (off + x.2) x.1) cells=(cells.toList.take (off + k)++new++cells.toList.drop (off + k + new.length)).toArray
 | [],k,cells,_=>by simp
 | x::new,k,cells,h=>by
  simp only [List.zipIdx_cons,List.foldl_cons,List.length_cons] at h ⊢
  rw [Zp4 off new (k + 1) _ (by simpa using (by omega:off + (k + 1) + new.length≤cells.size))]
  congr 1
  apply List.ext_getElem?
  intro j
  have hs:cells.toList.length=cells.size:=by simp
  simp only [Array.toList_setIfInBounds,List.getElem?_append,List.length_append,List.length_take,List.length_set,hs,List.getElem?_take,List.getElem?_drop,List.getElem?_set,List.length_cons]
  rw [Nat.min_eq_left (by omega),Nat.min_eq_left (by omega)]
  by_cases h1:j < off + k
  ·have e1:off + k ≠ j:=by omega
   simp only [h1,if_true]
   rw [if_pos (by omega),if_pos (by omega),if_pos (by omega),if_neg e1,if_pos (by omega)]
  ·by_cases h2:j=off + k
   ·subst h2
    simp only [Nat.lt_irrefl,if_false,Nat.sub_self]
    rw [if_pos (by omega),if_pos (by omega),if_pos (by omega),if_pos trivial,if_pos (by omega),if_pos (by omega)]
    simp
   ·by_cases h3:j < off + k + (new.length + 1)
    ·rw [if_neg h1,if_pos h3,if_pos (by omega),if_neg (by omega)]
     rw [show j - (off + k)=(j - (off + (k + 1))) + 1 by omega,Z1kf]
    ·rw [if_neg h3,if_neg (by omega),if_neg (by omega)]
     congr 1
     omega
theorem Zfm (hrep:Rep e W0 s w) {place:Nat→Option (Nat × Nat)}:∀ (parts:List (Nat × SW)) (cells cs:List SC),Zs3 place cells parts=some cs→(∀ p ∈ parts,p.2.scp s.mem.length s.rows.length=true) →
  Instr.fill place (cells.map (SC.den e)).toArray (parts.map fun p=>(p.1,p.2.den e))=some (cs.map (SC.den e)).toArray
 | [],cells,cs,h,_=>by simp only [Zs3,Option.some.injEq] at h; subst h; rfl
 | (i,v)::rest,cells,cs,h,hs=>by
  simp only [Zs3] at h
  split at h
  ·cases h
  ·rename_i off size hp
   split at h
   ·cases h
   ·rename_i hc
    simp only [ne_eq,Bool.or_eq_true,Z1ks,Bool.not_eq_true',not_or,Decidable.not_not,Bool.not_eq_false] at hc
    obtain ⟨⟨h1,h2⟩,h3⟩:=hc
    have ih:=Zfm hrep rest _ cs h (fun p hp=>hs p (by simp [hp]))
    have hcells:=SW.cells_den hrep h3 (hs (i,v) (by simp))
    have hsz:(v.den e).cells.size=v.cells.length:=by rw [hcells]; simp
    simp only [Z1kk,Instr.fill,hp]
    rw [if_neg (by simp [hsz,h1]; omega)]
    have hz:((v.den e).cells.zipIdx.foldl (fun cs (x:Value × Nat)=>cs.setIfInBounds (off + x.2) x.1) (cells.map (SC.den e)).toArray)=((Z86 cells off v.cells).map (SC.den e)).toArray:=by
     rw [hcells,← Array.foldl_toList,Array.toList_zipIdx]
     have:=Zp4 off (v.cells.map (SC.den e)) 0 (cells.map (SC.den e)).toArray (by simpa using h2)
     simp only [Nat.add_zero] at this
     rw [this]
     simp [Z86]
    rw [← ih,← hz]
theorem Zkf {parts:List (Nat × Operand)}:∀ {l:List (Nat × SW)},Zk8 s parts=some l→(∀ p ∈ parts,ev p.2=(s.ev p.2).den e)→(parts.map fun p=>(p.1,ev p.2))=l.map fun p=>(p.1,p.2.den e):=by
 induction parts with
 | nil=>intro l h _; simp only [Zk8,Option.some.injEq] at h; subst h; rfl
 | cons p parts ih =>
  intro l h hev
  obtain ⟨i,x⟩:=p
  simp only [Zk8] at h
  split at h
  ·rename_i y l' hy hl'
   simp only [Option.some.injEq] at h
   subst h
   simp only [Z1kk]
   rw [ih hl' (fun p hp=>hev p (by simp [hp])),hev (i,x) (by simp)]
   simp only [hy]
   rfl
  ·cases h
theorem Zh8:∀ (fs:List Field),(fs.all fun f=>(P.info? f.type).isSome)=true →
  (fs.mapM (m:=Sem) fun f=>do pure (f.offset,← sizeOf f.type)).run P w=.ok (fs.map fun f=>(f.offset,P.cellsOf f.type)) w
 | [],_=>by simp
 | f::fs,h=>by
  simp only [List.all_cons,Z1kr] at h
  simp only [List.mapM_cons,Sem.run_bind,Zk h.1,Result.andThen_ok,Sem.run_pure,Zh8 fs h.2,Z1kk]
theorem Z135 {t:TypeId} {l:List (Nat × SW)} {cs:List SC} (hrep:Rep e W0 s w) (h:Z12e P t l=some cs) (hs:∀ p ∈ l,p.2.scp s.mem.length s.rows.length=true) (parts:Array (Nat × Value)) (hp:parts.toList=l.map fun p=>(p.1,p.2.den e)) :
  (Instr.build t parts).run P w=.ok (.agg (cs.map (SC.den e)).toArray) w:=by
 unfold Z12e at h
 split at h
 ·cases h
 ·rename_i zero hz
  obtain ⟨zv,hz1,hz2⟩:=Z46 hz w e
  split at h
  ·rename_i fields hu
   split at h
   ·cases h
   ·rename_i hall
    simp only [Bool.not_eq_true',Bool.not_eq_false] at hall
    have hf:=Zfm hrep l zero cs h hs
    simp only [Instr.build,Sem.run_bind,hz1,Result.andThen_ok,run_underlying hu]
    have hm:(fields.mapM (m:=Sem) fun f=>do pure (f.offset,← sizeOf f.type)).run P w=.ok (fields.toList.map fun f=>(f.offset,P.cellsOf f.type)).toArray w:=by
     rw [Array.mapM_eq_mapM_toList]
     simp only [Sem.run_map,Zh8 fields.toList hall,Result.andThen_ok]
    rw [hm]
    simp only [Result.andThen_ok,hp,hz2]
    have hplace:(fun i:Nat=>(fields.toList.map fun f=>(f.offset,P.cellsOf f.type)).toArray[i]?)=fun i=>(fields[i]?).map fun f=>(f.offset,P.cellsOf f.type):=by
     funext i
     simp
    rw [hplace,hf]
    rfl
  ·rename_i n elem hu
   split at h
   ·cases h
   ·rename_i hinf
    have hinf':(P.info? elem).isSome=true:=by cases hi:P.info? elem <;> simp_all
    have hf:=Zfm hrep l zero cs h hs
    simp only [Instr.build,Sem.run_bind,hz1,Result.andThen_ok,run_underlying hu,Zk hinf',hp,hz2,hf]
    rfl
  ·cases h
theorem Z1ar {t:TypeId} {parts:Array (Nat × Operand)} (ho:o.op=.build t parts) (h:op1 P s o=some (aZ,v,s')) (hrep:Rep e W0 s w) (hev:∀ p ∈ parts.toList,ev p.2=(s.ev p.2).den e):Zy P e W0 s s' o ev v w:=by
 simp only [op1,ho] at h
 split at h
 ·rename_i l hl
  split at h
  ·rename_i hsc
   simp only [Option.map_eq_some_iff,Prod.mk.injEq] at h
   obtain ⟨cs,hcs,rfl,rfl,rfl⟩:=h
   refine Zy.same hrep ?_
   have:=Z135 hrep hcs (fun p hp=>List.all_eq_true.1 hsc p hp) (parts.map fun p=>(p.1,ev p.2)) (by
    rw [Array.toList_map]
    exact Zkf hl hev)
   simp only [execOp,ho,Sem.run_bind,this,Result.andThen_ok,Sem.run_pure,SV.den,SW.den]
  ·cases h
 ·cases h
theorem Zdp (z:Array Value):∀ n,(Array.range (n * z.size)).map (z[· % z.size]!)=((List.replicate n z.toList).flatten).toArray:=by
 intro n
 apply Array.ext'
 simp only [Array.toList_map,Array.toList_range]
 induction n with
 | zero=>simp
 | succ n ih =>
  rw [show (n + 1) * z.size=n * z.size + z.size by rw [Nat.add_mul,Nat.one_mul],List.range_add,List.map_append,ih,List.replicate_succ',List.flatten_append]
  congr 1
  simp only [List.flatten_cons,List.flatten_nil,List.append_nil,List.map_map]
  apply List.ext_getElem?
  intro j
  by_cases hj:j < z.size
  ·simp [hj,Nat.mod_eq_of_lt hj]
  ·simp [hj]
theorem Zfn (e:Env) (z:List SC):∀ n,(Z1gn z n).map (SC.den e)=(List.replicate n (z.map (SC.den e))).flatten
 | 0=>rfl
 | n + 1=>by simp [Z1gn,Zfn e z n,List.replicate_succ]
theorem Zp5 {t:TypeId} {l c:Operand} (ho:o.op=.makeSlice t l c) (h:op1 P s o=some (aZ,v,s')) (hrep:Rep e W0 s w) (hl:ev l=(s.ev l).den e) (hc:ev c=(s.ev c).den e):Zy P e W0 s s' o ev v w:=by
 simp only [op1,ho] at h
 split at h
 ·rename_i elem m m' hu hm hm'
  split at h
  ·rename_i inf z hinf hz
   split at h
   ·rename_i hcc
    simp only [Z1kr,Z1ks] at hcc
    obtain ⟨⟨⟨rfl,h64⟩,hby⟩,hzl⟩:=hcc
    simp only [Option.map_eq_some_iff,Prod.mk.injEq] at h
    obtain ⟨s1,hs1,rfl,rfl,rfl⟩:=h
    obtain ⟨k1,hk1⟩:=Z34 hm e
    obtain ⟨k2,hk2⟩:=Z34 hm' e
    have hzz:∃ zv,inf.zero=some zv∧zv.cells.toList=z.map (SC.den e):=by
     simp only [Z7w,hinf,Option.bind_some,Option.map_eq_some_iff] at hz
     obtain ⟨zv,hzv,rfl⟩:=hz
     refine ⟨zv,hzv,?_⟩
     rw [List.map_map,show (SC.den e ∘ SC.ofV)=id from funext fun v=>SC.den_ofV e v]
     simp
    obtain ⟨zv,hzv,hzl'⟩:=hzz
    have hzsz:zv.cells.size=inf.size:=by
     have:=congrArg List.length hzl'
     simp only [Array.length_toList,List.length_map] at this
     omega
    have hb':(inf.bytes:Int) * (m:Int)≤281474976710656:=by
     have:=Nat.mul_le_mul hby h64
     have h2:((inf.bytes * m:Nat):Int)≤281474976710656:=by omega
     rwa [Int.natCast_mul] at h2
    have hr:=run_make (P:=P) w t elem inf zv hu hinf hzv k1 k2 m m (by omega) (Int.le_refl _) hb' (by omega)
    simp only [Int.toNat_natCast] at hr
    have hcells:madeCells zv.cells (m * inf.size)=((Z1gn z m).map (SC.den e)).toArray:=by
     apply Array.ext'
     unfold madeCells
     rw [← hzsz,Zdp,Zfn,hzl']
    refine Zy.alloc hrep hs1 ?_
    have hv:(one (.s s.mem.length 0 m m)).den { e with β:=e.β++[w.heap.size] }=.slice (some ⟨w.heap.size,0,none⟩) m m:=by
     simp [one,SV.den,SW.den,SC.den,List.getD,← hrep.nb]
    rw [hv]
    simp only [execOp,ho,hl.trans hk1,hc.trans hk2,Sem.run_bind,hr,Result.andThen_ok,Sem.run_pure,hcells]
   ·cases h
  ·cases h
 ·cases h
theorem Zm4 {t:TypeId} {len:Nat} {parts:Array (Nat × Operand)} (ho:o.op=.buildSlice t len parts) (h:op1 P s o=some (aZ,v,s')) (hrep:Rep e W0 s w) (hev:∀ p ∈ parts.toList,ev p.2=(s.ev p.2).den e):Zy P e W0 s s' o ev v w:=by
 simp only [op1,ho] at h
 split at h
 ·rename_i elem l hu hl
  split at h
  ·rename_i z hz
   split at h
   ·rename_i hc
    simp only [Z1kr,Z1ks] at hc
    obtain ⟨⟨⟨hzl,hz0⟩,hle⟩,hsc⟩:=hc
    split at h
    ·rename_i cs hcs
     simp only [Option.map_eq_some_iff,Prod.mk.injEq] at h
     obtain ⟨s1,hs1,rfl,rfl,rfl⟩:=h
     obtain ⟨zv,hz1,hz2⟩:=Z46 hz w e
     have hinf:(P.info? elem).isSome=true:=by
      cases hi:P.info? elem with
      | none=>simp [Z7w,hi] at hz
      | some i=>rfl
     have hzs:zv.cells.size=P.cellsOf elem:=by rw [hz2,← hzl]; simp
     have hzl':P.cellsOf elem ≠ 0:=by omega
     refine Zy.alloc hrep hs1 ?_
     have hf:=Zfm hrep l _ cs hcs (fun p hp=>List.all_eq_true.1 hsc p hp)
     have hrr:=Zdp zv.cells len
     rw [hzs] at hrr
     rw [Zfn,show z.map (SC.den e)=zv.cells.toList by rw [hz2]] at hf
     have hplace:(fun i:Nat=>some (i * z.length,z.length))=fun i=>some (i * P.cellsOf elem,P.cellsOf elem):=by rw [hzl]
     rw [hplace] at hf
     have hv:(one (.s s.mem.length 0 len len)).den { e with β:=e.β++[w.heap.size] }=.slice (some ⟨w.heap.size,0,none⟩) len len:=by
      simp [one,SV.den,SW.den,SC.den,List.getD,← hrep.nb]
     rw [hv]
     have hparts:(parts.map fun p=>(p.1,ev p.2)).toList=l.map fun p=>(p.1,p.2.den e):=by
      rw [Array.toList_map]
      exact Zkf hl hev
     have hle':¬ (len * P.cellsOf elem > 2 ^ 24):=by rw [← hzl]; omega
     by_cases hl0:len=0
     ·subst hl0
      have hrr0:∀ f:Nat→Value,(Array.range 0).map f=#[]:=fun f=>by simp
      simp only [Nat.zero_mul] at hrr hle'
      rw [hrr0] at hrr
      rw [← hrr] at hf
      simp only [execOp,ho,Instr.buildSlice,Sem.run_bind,run_underlying hu,Result.andThen_ok,Zk hinf,Nat.zero_mul,if_neg hle',if_true,Sem.run_pure,hrr0,hparts,hf,newRow,run_newObj]
      rfl
     have hne:¬ (len * P.cellsOf elem=0):=by
      intro h0
      rcases Nat.mul_eq_zero.1 h0 with h0 | h0 <;> omega
     simp only [execOp,ho,Instr.buildSlice,Sem.run_bind,run_underlying hu,Result.andThen_ok,Zk hinf,if_neg hle',if_neg hne,hz1,Sem.run_pure,hzs,hrr,hparts,hf,newRow,run_newObj]
     rfl
    ·cases h
   ·cases h
  ·cases h
 ·cases h
theorem op_len {c:Call} {x:Operand} (ho:o.op=.call c) (hc:c.callee=.builtin .len) (ha:c.args.toList=[x]) (h:op1 P s o=some (aZ,v,s')) (hrep:Rep e W0 s w) (hev:ev x=(s.ev x).den e) (has:∀ b ∈ aZ,b.den e.R e.r=true):Zy P e W0 s s' o ev v w:=by
 simp only [op1,ho,hc,ha] at h
 have hargs:c.args=#[x]:=by
  apply Array.ext'
  simpa using ha
 split at h
 ·rename_i t ht
  have hrun:∀ n:Int,(Builtin.len_ c.argTypes o.type #[ev x]).run P w=.ok (.int .i64 n) w→(execOp ev o).run P w=.ok (.value (.int .i64 n)) w:=fun n hn=>by
   simp only [execOp,ho,resolve,hc,hargs,Sem.run_bind,Sem.run_pure,Result.andThen_ok,invoke,builtin]
   simp [hn]
  split at h
  ·rename_i n elem hu
   simp only [Option.some.injEq,Prod.mk.injEq] at h
   obtain ⟨rfl,rfl,rfl⟩:=h
   refine Zy.same hrep (hrun n ?_)
   simp [Builtin.len_,ht,run_underlying hu,goInt]
  ·rename_i elem n off len cap hu hx
   simp only [Option.some.injEq,Prod.mk.injEq] at h
   obtain ⟨rfl,rfl,rfl⟩:=h
   rw [hx] at hev
   refine Zy.same hrep (hrun len ?_)
   have hev':ev x=.slice (some ⟨e.β.getD n 0,off,none⟩) len cap:=hev
   simp [Builtin.len_,ht,run_underlying hu,goInt,hev']
  ·rename_i elem g hu hx
   rw [hx] at hev
   split at h
   ·rename_i ks c hg
    simp only [Option.some.injEq,Prod.mk.injEq] at h
    obtain ⟨rfl,rfl,rfl⟩:=h
    refine Zy.same hrep ?_
    have hd:(one (.i .i64 (Zrw c))).den e=.int .i64 ((dec (c.den e.R e.r)).length:Int):=by simp only [one,SV.den,SW.den,SC.den,Z4q]
    rw [hd]
    refine hrun _ ?_
    rcases hrep.gread hg with ⟨⟨aa,hv⟩,hn⟩ | ⟨b,off,cap,hv,_⟩
    ·have hev':ev x=.slice aa 0 0:=hev.trans hv
     simp [Builtin.len_,ht,run_underlying hu,goInt,hev',hn]
    ·have hev':ev x=.slice (some ⟨b,off,none⟩) (dec (c.den e.R e.r)).length cap:=hev.trans hv
     simp [Builtin.len_,ht,run_underlying hu,goInt,hev']
   ·cases h
  ·rename_i elem g size lo hi hu hx
   rw [hx] at hev
   split at h
   ·rename_i ks c hg
    simp only [Option.some.injEq,Prod.mk.injEq] at h
    obtain ⟨rfl,rfl,rfl⟩:=h
    obtain ⟨v1,v2,v3⟩:=Zf4 has
    refine Zy.same hrep ?_
    have hml:((dec (c.den e.R e.r)).length:Int)≤9223372036854775807:=by
     rcases hrep.gread hg with ⟨_,hn⟩ | ⟨b,off,cap,hv,hle,hm,_⟩
     ·rw [hn]; simp
     ·simp only [maxLen] at hm; omega
    have hmin:(Z3p hi lo).den e.R e.r=hi.den e.R e.r - lo.den e.R e.r:=Z6d _ _ (by omega) (by omega)
    have hlen:(hi.den e.R e.r - lo.den e.R e.r)=(((hi.den e.R e.r).toNat - (lo.den e.R e.r).toNat:Nat):Int):=by omega
    have hd:(one (.i .i64 (Z3p hi lo))).den e=.int .i64 (((hi.den e.R e.r).toNat - (lo.den e.R e.r).toNat:Nat):Int):=by simp only [one,SV.den,SW.den,SC.den,hmin,hlen]
    rw [hd]
    refine hrun _ ?_
    obtain ⟨a,l,cp,hv⟩:=G.val_slice e g
    have hev':ev x=.slice (if cp=(lo.den e.R e.r).toNat then a else a.map (·.add ((lo.den e.R e.r).toNat * size))) ((hi.den e.R e.r).toNat - (lo.den e.R e.r).toNat) (cp - (lo.den e.R e.r).toNat):=by
     rw [hev]; simp only [SV.den,SW.den,SC.den,hv,Z8i]
    simp [Builtin.len_,ht,run_underlying hu,goInt,hev']
   ·cases h
  ·rename_i elem hu hx
   simp only [Option.some.injEq,Prod.mk.injEq] at h
   obtain ⟨rfl,rfl,rfl⟩:=h
   rw [hx] at hev
   refine Zy.same hrep (hrun 0 ?_)
   have hev':ev x=.slice none 0 0:=hev
   simp [Builtin.len_,ht,run_underlying hu,goInt,hev']
  ·cases h
 ·cases h
theorem Z1x {α β:Type} (f:Option α→β→Option α) (hf:∀ y,f none y=none):∀ l:List β,l.foldl f none=none
 | []=>rfl
 | y::l=>by rw [List.foldl_cons,hf]; exact Z1x f hf l
theorem op_min {c:Call} {x:Operand} {rest:List Operand} (ho:o.op=.call c) (hc:c.callee=.builtin .min) (ha:c.args.toList=x::rest) (h:op1 P s o=some (aZ,v,s')) (hrep:Rep e W0 s w) (hev:∀ y ∈ x::rest,ev y=(s.ev y).den e):Zy P e W0 s s' o ev v w:=by
 simp only [op1,ho,hc,ha] at h
 have key:∀ (l:List Operand) (k:IntKind) (a:E),(∀ y ∈ l,ev y=(s.ev y).den e) →
   l.foldl (fun (acc:Option (List B × SV × St)) y=>match acc,s.ev y with
    | some (aZ,.w (.o (.i k a)),s'),.w (.o (.i _ b))=>some (aZ,one (.i k (mkMn a b)),s')
    | _,_=>none) (some ([],one (.i k a),s))=some (aZ,v,s') →
   aZ=[]∧s'=s∧(l.map ev |>.foldlM (m:=Sem) Builtin.min2 (.int k (a.den e.R e.r))).run P w=.ok (v.den e) w:=by
  intro l
  induction l with
  | nil =>
   intro k a _ hf
   simp only [List.foldl_nil,Option.some.injEq,Prod.mk.injEq] at hf
   obtain ⟨rfl,rfl,rfl⟩:=hf
   exact ⟨rfl,rfl,rfl⟩
  | cons y l ih =>
   intro k a hl hf
   rw [List.foldl_cons] at hf
   cases hy:s.ev y with
   | w yw=>cases yw with
    | o yc=>cases yc with
     | i k' b =>
      simp only [hy,one] at hf
      obtain ⟨h1,h2,h3⟩:=ih k (mkMn a b) (fun z hz=>hl z (by simp [hz])) hf
      refine ⟨h1,h2,?_⟩
      rw [Z1kk,List.foldlM_cons,Sem.run_bind,hl y (by simp),hy,Z1aq]
      simp only [Builtin.min2,Sem.run_pure,Result.andThen_ok]
      rw [Z1ag] at h3
      exact h3
     | _=>simp only [hy,one] at hf; rw [Z1x _ (by simp)] at hf; cases hf
    | a cs=>simp only [hy,one] at hf; rw [Z1x _ (by simp)] at hf; cases hf
   | t xs=>simp only [hy,one] at hf; rw [Z1x _ (by simp)] at hf; cases hf
   | un i=>simp only [hy,one] at hf; rw [Z1x _ (by simp)] at hf; cases hf
 have hargs:c.args=(x::rest).toArray:=by
  apply Array.ext'
  simpa using ha
 split at h
 ·rename_i k a hx
  obtain ⟨rfl,rfl,h3⟩:=key rest k a (fun y hy=>hev y (by simp [hy])) h
  refine Zy.same hrep ?_
  have hx':ev x=.int k (a.den e.R e.r):=by rw [hev x (by simp),hx]; rfl
  simp only [execOp,ho,resolve,hc,hargs,Sem.run_bind,Sem.run_pure,Result.andThen_ok,invoke,builtin,Builtin.min_,List.map_toArray,Z1kk,hx',h3]
 ·rw [Z1x _ (by simp)] at h
  cases h
theorem op_max {c:Call} {x:Operand} {rest:List Operand} (ho:o.op=.call c) (hc:c.callee=.builtin .max) (ha:c.args.toList=x::rest) (h:op1 P s o=some (aZ,v,s')) (hrep:Rep e W0 s w) (hev:∀ y ∈ x::rest,ev y=(s.ev y).den e):Zy P e W0 s s' o ev v w:=by
 simp only [op1,ho,hc,ha] at h
 have key:∀ (l:List Operand) (k:IntKind) (a:E),(∀ y ∈ l,ev y=(s.ev y).den e) →
   l.foldl (fun (acc:Option (List B × SV × St)) y=>match acc,s.ev y with
    | some (aZ,.w (.o (.i k a)),s'),.w (.o (.i _ b))=>some (aZ,one (.i k (mkMx a b)),s')
    | _,_=>none) (some ([],one (.i k a),s))=some (aZ,v,s') →
   aZ=[]∧s'=s∧(l.map ev |>.foldlM (m:=Sem) Builtin.max2 (.int k (a.den e.R e.r))).run P w=.ok (v.den e) w:=by
  intro l
  induction l with
  | nil =>
   intro k a _ hf
   simp only [List.foldl_nil,Option.some.injEq,Prod.mk.injEq] at hf
   obtain ⟨rfl,rfl,rfl⟩:=hf
   exact ⟨rfl,rfl,rfl⟩
  | cons y l ih =>
   intro k a hl hf
   rw [List.foldl_cons] at hf
   cases hy:s.ev y with
   | w yw=>cases yw with
    | o yc=>cases yc with
     | i k' b =>
      simp only [hy,one] at hf
      obtain ⟨h1,h2,h3⟩:=ih k (mkMx a b) (fun z hz=>hl z (by simp [hz])) hf
      refine ⟨h1,h2,?_⟩
      rw [Z1kk,List.foldlM_cons,Sem.run_bind,hl y (by simp),hy,Z1aq]
      simp only [Builtin.max2,Sem.run_pure,Result.andThen_ok]
      rw [Z1ah] at h3
      exact h3
     | _=>simp only [hy,one] at hf; rw [Z1x _ (by simp)] at hf; cases hf
    | a cs=>simp only [hy,one] at hf; rw [Z1x _ (by simp)] at hf; cases hf
   | t xs=>simp only [hy,one] at hf; rw [Z1x _ (by simp)] at hf; cases hf
   | un i=>simp only [hy,one] at hf; rw [Z1x _ (by simp)] at hf; cases hf
 have hargs:c.args=(x::rest).toArray:=by
  apply Array.ext'
  simpa using ha
 split at h
 ·rename_i k a hx
  obtain ⟨rfl,rfl,h3⟩:=key rest k a (fun y hy=>hev y (by simp [hy])) h
  refine Zy.same hrep ?_
  have hx':ev x=.int k (a.den e.R e.r):=by rw [hev x (by simp),hx]; rfl
  simp only [execOp,ho,resolve,hc,hargs,Sem.run_bind,Sem.run_pure,Result.andThen_ok,invoke,builtin,Builtin.max_,List.map_toArray,Z1kk,hx',h3]
 ·rw [Z1x _ (by simp)] at h
  cases h
theorem Z5b (h:op1 P s o=some (aZ,v,s')) (hrep:Rep e W0 s w) (hev:∀ x ∈ o.op.operands,ev x=(s.ev x).den e) (has:∀ b ∈ aZ,b.den e.R e.r=true):Zy P e W0 s s' o ev v w:=by
  cases ho:o.op with
  | move x=>exact Z133 (.inl ho) h hrep (hev x (by simp [ho,Op.operands]))
  | assign x=>exact Z133 (.inr ho) h hrep (hev x (by simp [ho,Op.operands]))
  | pick c a b=>exact Z1h8 ho h hrep (hev c (by simp [ho,Op.operands])) (hev a (by simp [ho,Op.operands])) (hev b (by simp [ho,Op.operands]))
  | alloc t=>exact Z1ak ho h hrep
  | box t x=>exact op_box ho h hrep (hev x (by simp [ho,Op.operands]))
  | build t ps=>exact Z1ar ho h hrep (fun p hp=>hev p.2 (by simp only [ho,Op.operands,List.mem_toArray]; exact List.mem_map_of_mem hp))
  | makeSlice t l c=>exact Zp5 ho h hrep (hev l (by simp [ho,Op.operands])) (hev c (by simp [ho,Op.operands]))
  | buildSlice t n ps=>exact Zm4 ho h hrep (fun p hp=>hev p.2 (by simp only [ho,Op.operands,List.mem_toArray]; exact List.mem_map_of_mem hp))
  | load t a=>exact Z1h9 ho h hrep (hev a (by simp [ho,Op.operands])) has
  | store t a x=>exact Z1al ho h hrep (hev a (by simp [ho,Op.operands])) (hev x (by simp [ho,Op.operands])) has
  | nilCheck x=>exact Zsd ho h hrep (hev x (by simp [ho,Op.operands])) has
  | binOp op t x y yt=>exact op_bin ho h hrep (hev x (by simp [ho,Op.operands])) (hev y (by simp [ho,Op.operands])) has
  | unOp u t x=>exact op_un ho h hrep (hev x (by simp [ho,Op.operands]))
  | convert a b x=>exact Zzg ho h hrep (hev x (by simp [ho,Op.operands]))
  | fieldAddr t x f=>exact Zp2 ho h hrep (hev x (by simp [ho,Op.operands])) has
  | field t x f=>exact Z1am ho h hrep (hev x (by simp [ho,Op.operands]))
  | indexAddr t x i=>exact Zp3 ho h hrep (hev x (by simp [ho,Op.operands])) (hev i (by simp [ho,Op.operands])) has
  | index t x i=>exact Z1an ho h hrep (hev x (by simp [ho,Op.operands])) (hev i (by simp [ho,Op.operands]))
  | slice t x lo hi mx=>exact Z1ap ho h hrep (hev x (by simp [ho,Op.operands])) (fun y hy=>hev y (by simp [ho,Op.operands,Option.mem_def.1 hy])) (fun y hy=>hev y (by simp [ho,Op.operands,Option.mem_def.1 hy])) (fun y hy=>hev y (by simp [ho,Op.operands,Option.mem_def.1 hy])) has
  | extract x i=>exact Zzh ho h hrep (hev x (by simp [ho,Op.operands]))
  | makeFunc fn first caps=>exact Zse ho h hrep (fun x hx=>hev x (by simp [ho,Op.operands,hx]))
  | call c =>
    have hop:o.op.operands=c.operands:=by rw [ho]; rfl
    cases hc:c.callee with
    | value f=>simp [op1,ho,hc] at h
    | invoke r m=>simp [op1,ho,hc] at h
    | builtin b =>
      have hargs:∀ y ∈ c.args.toList,ev y=(s.ev y).den e:=fun y hy=>hev y (by rw [hop]; simp [Call.operands,hc]; simpa using hy)
      cases hl:c.args.toList with
      | nil=>cases b <;> simp [op1,ho,hc,hl] at h
      | cons x rest =>
        rw [hl] at hargs
        cases b <;> first
          | exact op_min ho hc hl h hrep hargs
          | exact op_max ho hc hl h hrep hargs
          | (cases rest with
             | nil=>exact op_len ho hc hl h hrep (hargs x (by simp)) has
             | cons y ys=>simp [op1,ho,hc,hl] at h)
          | (simp [op1,ho,hc,hl] at h; done)
  | _=>simp [op1,ho] at h
end
end Go.Sx
