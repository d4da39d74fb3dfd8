/-
  Symbolic execution of the model, and what functions of the program come to: part 1.
-/
import Derived.WalkKit
import Derived.Still
import Derived.LoopN
import Derived.LoopNIn
import Derived.TacticsIn
import Derived.OrdersIn
import Derived.RangeFuncCalls
import Derived.RangeFuncNested
import Derived.RangeFuncLeaves
import Derived.DeepKeys
set_option linter.unusedVariables false
set_option linter.unusedSimpArgs false
open List renaming getElem?_cons_zero → Z18e, getElem?_cons_succ → Z18f, getD_cons_zero → Z18g, getD_cons_succ → Z18h, cons_append → Z18i, nil_append → Z18j, map_cons → Z18k, map_nil → Z18l
namespace Go.Sx
theorem Z18m {a : Prop} : ¬¬a ↔ a := Classical.not_not
theorem Z18n : (¬True) = False := not_true_eq_false
theorem Z18o : (¬False) = True := not_false_eq_true
theorem Z18p {a b : Int} : ¬a < b ↔ b ≤ a := Int.not_lt
theorem Z18q {a b : Int} : ¬a ≤ b ↔ b < a := Int.not_le
theorem Z18r (a b : Bool) : ((a && b) = true) = (a = true ∧ b = true) := Bool.and_eq_true a b
theorem Z18s {p : Prop} [Decidable p] : (decide p = true) = p := decide_eq_true_eq
end Go.Sx
namespace Go.Sx
def zig (n:Int):Nat:=match n with
 | .ofNat m=>2 * m
 | .negSucc m=>2 * m + 1
def pr (a b:Nat):Nat:=2 ^ a * (2 * b + 1)
def codN:List Int→Nat
 | []=>0
 | x::l=>pr (zig x) (codN l)
def cod (l:List Int):Int:=codN l
noncomputable def dec (n:Int):List Int:=@dite _ (∃ l,cod l=n) (Classical.propDecidable _) (fun h=>Classical.choose h) (fun _=>[])
inductive L2 where
 | cons | snoc | app | take | drop | at | rep
deriving DecidableEq
noncomputable def L2.den:L2→Int→Int→Int
 | .cons,x,l=>cod (x::dec l)
 | .snoc,l,x=>cod (dec l++[x])
 | .app,a,b=>cod (dec a++dec b)
 | .take,l,n=>cod ((dec l).take n.toNat)
 | .drop,l,n=>cod ((dec l).drop n.toNat)
 | .at,l,i=>(dec l).getD i.toNat 0
 | .rep,n,x=>cod (List.replicate n.toNat x)
inductive E where
 | c (n:Int)
 | v (i:Nat)
 | add (k:IntKind) (a b:E)
 | sub (k:IntKind) (a b:E)
 | mul (k:IntKind) (a b:E)
 | quo (k:IntKind) (a b:E)
 | rem (a b:E)
 | mn (a b:E)
 | mx (a b:E)
 | cv (k:IntKind) (a:E)
 | nl
 | ln (a:E)
 | l2 (o:L2) (a b:E)
 | l3 (a b c:E)
inductive B where
 | c (b:Bool)
 | lt (a b:E)
 | le (a b:E)
 | eq (a b:E)
 | nz (a:E)
 | not (a:B)
 | and (a b:B)
 | beq (a b:B)
abbrev Fo:=List Value
structure Env where
 r:List Int
 β:List Nat
 σ:List Value
 ω:List Value
 R:Fo
noncomputable def E.den (R:Fo) (r:List Int):E→Int
 | .c n=>n
 | .v i=>r.getD i 0
 | .add k a b=>k.wrap (a.den R r + b.den R r)
 | .sub k a b=>k.wrap (a.den R r - b.den R r)
 | .mul k a b=>k.wrap (a.den R r * b.den R r)
 | .quo k a b=>k.wrap ((a.den R r).tdiv (b.den R r))
 | .rem a b=>(a.den R r).tmod (b.den R r)
 | .mn a b=>if b.den R r < a.den R r then b.den R r else a.den R r
 | .mx a b=>if b.den R r > a.den R r then b.den R r else a.den R r
 | .cv k a=>k.wrap (a.den R r)
 | .nl=>cod []
 | .ln a=>((dec (a.den R r)).length:Int)
 | .l2 o a b=>o.den (a.den R r) (b.den R r)
 | .l3 a b x=>cod ((dec (a.den R r)).set (b.den R r).toNat (x.den R r))
noncomputable def B.den (R:Fo) (r:List Int):B→Bool
 | .c b=>b
 | .lt a b=>decide (a.den R r < b.den R r)
 | .le a b=>decide (a.den R r≤b.den R r)
 | .eq a b=>a.den R r == b.den R r
 | .nz a=>a.den R r != 0
 | .not a=>!(a.den R r)
 | .and a b=>a.den R r && b.den R r
 | .beq a b=>a.den R r == b.den R r
def E.sc (n:Nat):E→Bool
 | .c _=>true
 | .v i=>decide (i < n)
 | .add _ a b=>a.sc n && b.sc n
 | .sub _ a b=>a.sc n && b.sc n
 | .mul _ a b=>a.sc n && b.sc n
 | .quo _ a b=>a.sc n && b.sc n
 | .rem a b=>a.sc n && b.sc n
 | .mn a b=>a.sc n && b.sc n
 | .mx a b=>a.sc n && b.sc n
 | .cv _ a=>a.sc n
 | .nl=>true
 | .ln a=>a.sc n
 | .l2 _ a b=>a.sc n && b.sc n
 | .l3 a b x=>a.sc n && (b.sc n && x.sc n)
def B.sc (n:Nat):B→Bool
 | .c _=>true
 | .lt a b=>a.sc n && b.sc n
 | .le a b=>a.sc n && b.sc n
 | .eq a b=>a.sc n && b.sc n
 | .nz a=>a.sc n
 | .not a=>a.sc n
 | .and a b=>a.sc n && b.sc n
 | .beq a b=>a.sc n && b.sc n
inductive K where
 | i (k:IntKind)
 | b
 | s (ty:TypeId) (ks:List K)
def K.same:K→K→Bool
 | .i x,.i y=>x == y
 | .b,.b=>true
 | _,_=>false
def Z39:List K→List K→Bool
 | [],[]=>true
 | x::xs,y::ys=>x.same y && Z39 xs ys
 | _,_=>false
def E.same:E→E→Bool
 | .c m,.c n=>m == n
 | .v m,.v n=>m == n
 | .add k a b,.add k' a' b'=>k == k' && (a.same a' && b.same b')
 | .sub k a b,.sub k' a' b'=>k == k' && (a.same a' && b.same b')
 | .mul k a b,.mul k' a' b'=>k == k' && (a.same a' && b.same b')
 | .quo k a b,.quo k' a' b'=>k == k' && (a.same a' && b.same b')
 | .rem a b,.rem a' b'=>a.same a' && b.same b'
 | .mn a b,.mn a' b'=>a.same a' && b.same b'
 | .mx a b,.mx a' b'=>a.same a' && b.same b'
 | .cv k a,.cv k' a'=>k == k' && a.same a'
 | .nl,.nl=>true
 | .ln a,.ln a'=>a.same a'
 | .l2 o a b,.l2 o' a' b'=>o == o' && (a.same a' && b.same b')
 | .l3 a b x,.l3 a' b' x'=>a.same a' && (b.same b' && x.same x')
 | _,_=>false
def Z4d:List K→List K→Bool
 | [],[]=>true
 | .i x::xs,.i y::ys=>x == y && Z4d xs ys
 | .b::xs,.b::ys=>Z4d xs ys
 | .s t a::xs,.s u b::ys=>(t == u && Z39 a b) && Z4d xs ys
 | _,_=>false
noncomputable def hdV (n:Int):Value:=match dec n with
 | [b,off,len,cap,_]=>if 0≤b then .slice (some ⟨b.toNat,off.toNat,none⟩) len.toNat cap.toNat else .slice none 0 0
 | [b,off,_,_,_,sp]=>.slice (some ⟨b.toNat,off.toNat,some sp.toNat⟩) 0 0
 | _=>.slice none 0 0
noncomputable def ctN (n:Int):Int:=(dec n).getD 4 0
inductive G where
 | a (i:Nat)
 | o (n:Nat)
 | e (g:G) (ix:E) (j:Nat) (x:E)
def G.same:G→G→Bool
 | .a i,.a i'=>i == i'
 | .o n,.o n'=>n == n'
 | .e g ix j x,.e g' ix' j' x'=>(g.same g' && ix.same ix') && (j == j' && x.same x')
 | _,_=>false
def G.own:G→Bool
 | .o _=>true
 | _=>false
inductive SC where
 | i (k:IntKind) (e:E)
 | b (x:B)
 | p (n off:Nat)
 | s (n off len cap:Nat)
 | go (g:G)
 | gv (g:G) (size:Nat) (lo hi:E)
 | gp (g:G) (size:Nat) (ix:E) (j:Nat)
 | gz (g:G)
 | f (fn:FuncId) (caps:List (Nat × Nat))
 | l (v:Value)
def Z1z (e:Env) (n off:Nat):Value:=.pointer (some ⟨e.β.getD n 0,off,none⟩)
def slV (v:Value):Value:=match v with
 | .slice a l c=>.slice a l c
 | _=>.slice none 0 0
def Zfj (size:Nat) (v:Value) (lo hi:Nat):Value:=match v with
 | .slice a _ cap=>.slice (if cap=lo then a else a.map (·.add (lo * size))) (hi - lo) (cap - lo)
 | _=>.slice none 0 0
def atV (size:Nat) (v:Value) (ix j:Nat):Option Addr:=match v with
 | .slice (some a) _ _=>some (a.add (ix * size + j))
 | _=>none
def Zu1 (v:Value):Value:=match v with
 | .slice a _ _=>.slice a 0 0
 | _=>.slice none 0 0
noncomputable def G.val (e:Env):G→Value
 | .a i=>slV (e.R.getD i undef)
 | .o n=>slV (e.σ.getD n undef)
 | .e _ _ _ x=>hdV (x.den e.R e.r)
noncomputable def SC.den (e:Env):SC→Value
 | .i k x=>.int k (x.den e.R e.r)
 | .b x=>.bool (x.den e.R e.r)
 | .p n off=>Z1z e n off
 | .s n off len cap=>.slice (some ⟨e.β.getD n 0,off,none⟩) len cap
 | .go g=>g.val e
 | .gv g size lo hi=>Zfj size (g.val e) (lo.den e.R e.r).toNat (hi.den e.R e.r).toNat
 | .gp g size ix j=>.pointer (atV size (g.val e) (ix.den e.R e.r).toNat j)
 | .gz g=>Zu1 (g.val e)
 | .f fn caps=>.func (.func fn) #[] (caps.map fun c=>Z1z e c.1 c.2).toArray
 | .l v=>v
inductive SW where
 | o (c:SC)
 | a (cs:List SC)
def SW.cells:SW→List SC
 | .o c=>[c]
 | .a cs=>cs
noncomputable def SW.den (e:Env):SW→Value
 | .o c=>c.den e
 | .a cs=>.agg (cs.map (SC.den e)).toArray
inductive SV where
 | w (x:SW)
 | t (xs:List SW)
 | un (i:Nat)
noncomputable def SV.den (e:Env):SV→Value
 | .w x=>x.den e
 | .t xs=>.tuple (xs.map (SW.den e)).toArray
 | .un i=>e.ω.getD i undef
def G.sc (nv ng:Nat):G→Bool
 | .a _=>true
 | .o n=>decide (n < ng)
 | .e _ _ _ x=>x.sc nv
def G.scp (ng:Nat):G→Bool
 | .o n=>decide (n < ng)
 | _=>true
def SC.sc (nv nb ng:Nat):SC→Bool
 | .i _ x=>x.sc nv
 | .b x=>x.sc nv
 | .p n _=>decide (n < nb)
 | .s n _ _ _=>decide (n < nb)
 | .go g=>g.sc nv ng
 | .gv g _ lo hi=>g.sc nv ng && (lo.sc nv && hi.sc nv)
 | .gp g _ ix _=>g.sc nv ng && ix.sc nv
 | .gz g=>g.sc nv ng
 | .f _ caps=>caps.all fun c=>decide (c.1 < nb)
 | .l _=>true
def SW.sc (nv nb ng:Nat):SW→Bool
 | .o c=>c.sc nv nb ng
 | .a cs=>cs.all (SC.sc nv nb ng)
def SV.sc (nv nb ng nx:Nat):SV→Bool
 | .w x=>x.sc nv nb ng
 | .t xs=>xs.all (SW.sc nv nb ng)
 | .un i=>decide (i < nx)
def SC.scp (nb ng:Nat):SC→Bool
 | .p n _=>decide (n < nb)
 | .s n _ _ _=>decide (n < nb)
 | .go g=>g.scp ng
 | .gv g _ _ _=>g.scp ng
 | .gp g _ _ _=>g.scp ng
 | .gz g=>g.scp ng
 | .f _ caps=>caps.all fun c=>decide (c.1 < nb)
 | _=>true
def SW.scp (nb ng:Nat):SW→Bool
 | .o c=>c.scp nb ng
 | .a cs=>cs.all (SC.scp nb ng)
def SV.scp (nb ng:Nat):SV→Bool
 | .w x=>x.scp nb ng
 | .t xs=>xs.all (SW.scp nb ng)
 | .un _=>true
structure Blk where
 ty:TypeId
 cells:List SC
 live:Bool
structure Row where
 ty:TypeId
 ks:List K
 c:E
 live:Bool
structure St where
 fr:List SV
 mem:List Blk
 rows:List Row
 nv:Nat
 nx:Nat
 fl:Nat
 flr:Nat
 gl:List (Nat × List Int):=[]
 hs:List (List K × E):=[]
 dp:Nat:=0
def Z5:SV:=.t []
def St.scp (s:St):Bool :=
 s.fr.all (SV.scp s.mem.length s.rows.length) && s.mem.all (fun b=>b.cells.all (SC.scp s.mem.length s.rows.length))
def St.sc (s:St):Bool :=
 (s.fr.all (SV.sc s.nv s.mem.length s.rows.length s.nx) && s.mem.all (fun b=>b.cells.all (SC.sc s.nv s.mem.length s.rows.length))) && (s.rows.all (fun b=>b.c.sc s.nv) && s.hs.all (fun h=>h.2.sc s.nv))
def SC.ofV:Value→SC
 | .bool bb=>.b (.c bb)
 | .int k n=>.i k (.c n)
 | v=>.l v
def SW.ofV:Value→SW
 | .agg cs=>.a (cs.toList.map SC.ofV)
 | v=>.o (SC.ofV v)
def SC.one:SC→Bool
 | .l v=>v.oneCell'
 | _=>true
def St.ev (s:St):Operand→SV
 | .tmp t=>s.fr.getD t Z5
 | .const v=>.w (SW.ofV v)
 | .global g=>.w (.o (.l (.pointer (some ⟨g,0,none⟩))))
 | .func f=>.w (.o (.f f []))
def St.put (s:St) (dst:Option Tmp) (v:SV):St :=
 match dst with
 | some d=>{ s with fr:=s.fr.set d v }
 | none=>s
def Zzk (n:Int):Bool:=decide (-4611686018427387904≤n) && decide (n≤4611686018427387904)
def Z156 (k:IntKind) (n:Int) (e:E):E:=if k == .i64 && Zzk n then .c n else e
def Zzl (k:IntKind) (a b:E):E:=match a,b with
 | .c m,.c n=>Z156 k (m + n) (.add k a b)
 | _,_=>.add k a b
def Zu2 (k:IntKind) (a b:E):E:=match a,b with
 | .c m,.c n=>Z156 k (m - n) (.sub k a b)
 | _,_=>.sub k a b
def Z157 (k:IntKind) (a b:E):E:=match a,b with
 | .c m,.c n=>Z156 k (m * n) (.mul k a b)
 | _,_=>.mul k a b
def Zzm (k:IntKind) (a b:E):E:=match a,b with
 | .c m,.c n=>Z156 k (m.tdiv n) (.quo k a b)
 | _,_=>.quo k a b
def Z158 (a b:E):E:=match a,b with
 | .c m,.c n=>.c (m.tmod n)
 | _,_=>.rem a b
def mkMn (a b:E):E:=match a,b with
 | .c m,.c n=>.c (if n < m then n else m)
 | _,_=>.mn a b
def mkMx (a b:E):E:=match a,b with
 | .c m,.c n=>.c (if n > m then n else m)
 | _,_=>.mx a b
def mkCv (k:IntKind) (a:E):E:=match a with
 | .c m=>Z156 k m (.cv k a)
 | _=>.cv k a
def Z5v:E→Option (List E)
 | .nl=>some []
 | .l2 .cons x l=>(Z5v l).map (x::·)
 | .l2 .snoc l x=>(Z5v l).map (·++[x])
 | _=>none
def Zop (a:E):E:=match Z5v a with
 | some l=>.c (l.length:Int)
 | none=>.ln a
def Zzn (a i:E):E:=match Z5v a,i with
 | some l,.c n=>if 0≤n then l.getD n.toNat (.l2 .at a i) else .l2 .at a i
 | _,i=>.l2 .at a i
def Z6b:List E→E
 | []=>.nl
 | x::l=>.l2 .cons x (Z6b l)
def Zrl (a i x:E):E:=match Z5v a,i with
 | some l,.c n=>if 0≤n then Z6b (l.set n.toNat x) else .l3 a i x
 | _,i=>.l3 a i x
def Z8u (a n:E):E:=match Z5v a,n with
 | some l,.c n=>Z6b (l.take n.toNat)
 | _,n=>.l2 .take a n
def Zj7 (a n:E):E:=match Z5v a,n with
 | some l,.c n=>Z6b (l.drop n.toNat)
 | _,.c 0=>a
 | _,n=>.l2 .drop a n
def Zmb (a b:E):E:=match Z5v b with
 | some l=>l.foldl (fun a x=>.l2 .snoc a x) a
 | none=>(match a with
  | .nl=>b
  | a=>.l2 .app a b)
def Zae (n x:E):E:=match n with
 | .c m=>if m≤64 then Z6b (List.replicate m.toNat x) else .l2 .rep n x
 | n=>.l2 .rep n x
def comp (size:Nat) (e:E) (j:Nat):E:=if size=1 then e else Zzn e (.c (j:Int))
def Z2i (es:List E):E:=match es with
 | [x]=>x
 | es=>Z6b es
def mkNz (e:E):B:=match e with
 | .c n=>.c (n != 0)
 | e=>.nz e
def Z2e (mk:Nat→SC):Nat→List K→List E→List SC
 | i,.i k::ks,e::es=>.i k e::Z2e mk i ks es
 | i,.b::ks,e::es=>.b (mkNz e)::Z2e mk i ks es
 | i,.s _ _::ks,_::es=>mk i::Z2e mk (i + 1) ks es
 | _,_,_=>[]
def Zb8 (g:G) (ix:E):Nat→List K→List E→List SC
 | i,.i k::ks,e::es=>.i k e::Zb8 g ix (i + 1) ks es
 | i,.b::ks,e::es=>.b (mkNz e)::Zb8 g ix (i + 1) ks es
 | i,.s _ _::ks,e::es=>.go (.e g ix i e)::Zb8 g ix (i + 1) ks es
 | _,_,_=>[]
def Zj8 (g:G) (ks:List K) (c ix:E):List SC:=Zb8 g ix 0 ks ((List.range ks.length).map fun j=>comp ks.length (Zzn c ix) j)
def Z2j:List K→List SC→Option (List E)
 | [],[]=>some []
 | .i k::ks,.i k' e::cs=>if k=k' then (Z2j ks cs).map (e::·) else none
 | .b::ks,.b (.c x)::cs=>(Z2j ks cs).map ((.c (if x then 1 else 0))::·)
 | .b::ks,.b (.nz e)::cs=>(Z2j ks cs).map (e::·)
 | _,_=>none
def Z4e (a b:E):E:=match a,b with
 | .c 0,b=>b
 | a,.c 0=>a
 | a,b=>Zzl .i64 a b
def Z2w (a b:E):E:=match b with
 | .c 0=>a
 | b=>Zu2 .i64 a b
def Z2v (s:St):G→Option (List K × E)
 | .a i=>s.hs[i]?
 | .o n=>match s.rows[n]? with
  | some b=>if b.live then some (b.ks,b.c) else none
  | none=>none
 | .e g ix j x=>if g.own then none else match Z2v s g with
  | some (ks,c)=>if x.same (comp ks.length (Zzn c ix) j) then (match ks[j]? with
   | some (.s _ kr)=>some (kr,Zzn x (.c 4))
   | _=>none) else none
  | none=>none
def Ztv (a b:E):B:=match a,b with
 | .c m,.c n=>.c (decide (m < n))
 | _,_=>.lt a b
def Z5b (a b:E):B:=match a,b with
 | .c m,.c n=>.c (decide (m≤n))
 | _,_=>.le a b
def Z13s (a b:E):B:=match a,b with
 | .c m,.c n=>.c (m == n)
 | _,_=>.eq a b
def Z4f (a:B):B:=match a with
 | .c b=>.c (!b)
 | .not a=>a
 | _=>.not a
def Z7z (a b:B):B:=match a,b with
 | .c true,y=>y
 | .c false,_=>.c false
 | x,.c true=>x
 | x,y=>.and x y
def Zu3 (a b:B):B:=match a,b with
 | .c true,y=>y
 | .c false,y=>Z4f y
 | x,.c true=>x
 | x,.c false=>Z4f x
 | x,y=>.beq x y
def Z60 (P:Program) (t:TypeId):Bool:=match P.underlying t with
 | some (.struct _) | some (.array _ _)=>true
 | _=>false
def Z5w (P:Program) (t:TypeId):Option (List SC) :=
 ((P.info? t).bind (·.zero)).map fun v=>v.cells.toList.map SC.ofV
def Z3l (P:Program) (t:TypeId) (cs:List SC) (off:Nat):Option SW :=
 if (P.underlying t).isNone then none else
 if Z60 P t then some (.a ((cs.drop off).take (P.cellsOf t)))
 else (cs[off]?).map .o
def Zrm (P:Program) (t:TypeId) (cs:List SC) (off:Nat):Option SW :=
 if (P.underlying t).isNone then none else
 if Z60 P t then (if off + P.cellsOf t≤cs.length then some (.a ((cs.drop off).take (P.cellsOf t))) else none)
 else (cs[off]?).map .o
def eqB (P:Program):Nat→TypeId→List SC→List SC→Option B
 | 0,_,_,_=>none
 | d + 1,t,xs,ys =>
  match P.underlying t with
  | some .bool=>match xs,ys with
   | [.b a],[.b b]=>some (Zu3 a b)
   | _,_=>none
  | some (.int _)=>match xs,ys with
   | [.i k a],[.i k' b]=>if k=k' then some (Z13s a b) else none
   | _,_=>none
  | some (.struct fields) =>
   if P.stoodInHeld t then none else
   fields.toList.foldr (fun f acc=>match acc with
    | none=>none
    | some y=>if f.name = "_" then some y else
     match Z3l P f.type xs f.offset,Z3l P f.type ys f.offset with
     | some u,some v=>match eqB P d f.type u.cells v.cells with
      | some b=>some (Z7z b y)
      | none=>none
     | _,_=>none) (some (.c true))
  | some (.array len elem) =>
   if (P.info? elem).isNone then none else
   (List.range len).foldr (fun i acc=>match acc with
    | none=>none
    | some y =>
     match Z3l P elem xs (i * P.cellsOf elem),Z3l P elem ys (i * P.cellsOf elem) with
     | some u,some v=>match eqB P d elem u.cells v.cells with
      | some b=>some (Z7z b y)
      | none=>none
     | _,_=>none) (some (.c true))
  | _=>none
def Z61 (cs:List SC) (off:Nat) (new:List SC):List SC:=cs.take off++new++cs.drop (off + new.length)
def Zmc (place:Nat→Option (Nat × Nat)) (cells:List SC):List (Nat × SW)→Option (List SC)
 | []=>some cells
 | (i,v)::rest =>
  match place i with
  | none=>none
  | some (off,size) =>
   if v.cells.length ≠ size || off + v.cells.length > cells.length || !(v.cells.all SC.one) then none
   else Zmc place (Z61 cells off v.cells) rest
def Zfu (s:St):List (Nat × Operand)→Option (List (Nat × SW))
 | []=>some []
 | (i,x)::rest=>match s.ev x,Zfu s rest with
  | .w y,some l=>some ((i,y)::l)
  | _,_=>none
def Zu4 (P:Program) (t:TypeId) (parts:List (Nat × SW)):Option (List SC) :=
 match Z5w P t with
 | none=>none
 | some zero=>match P.underlying t with
  | some (.struct fields)=>if !(fields.toList.all fun f=>(P.info? f.type).isSome) then none else Zmc (fun i=>(fields[i]?).map fun f=>(f.offset,P.cellsOf f.type)) zero parts
  | some (.array _ elem)=>if (P.info? elem).isNone then none else Zmc (fun i=>some (i * P.cellsOf elem,P.cellsOf elem)) zero parts
  | _=>none
def Z159 (zero:List SC):Nat→List SC
 | 0=>[]
 | n + 1=>zero++Z159 zero n
def St.new (s:St) (t:TypeId) (cells:List SC):Option St :=
 if s.scp && cells.all (SC.scp s.mem.length s.rows.length) then some { s with mem:=s.mem++[⟨t,cells,true⟩] } else none
def one (c:SC):SV:=.w (.o c)
def Zj9 (b:E):List B:=match b with
 | .c n=>if n=0 then [.c false] else []
 | _=>[.not (.eq b (.c 0))]
def Zoq (op:BinOp) (k:IntKind) (a b:E):Option (List B × SC) :=
 match op with
 | .add=>some ([],.i k (Zzl k a b))
 | .sub=>some ([],.i k (Zu2 k a b))
 | .mul=>some ([],.i k (Z157 k a b))
 | .quo=>some (Zj9 b,.i k (Zzm k a b))
 | .rem=>some (Zj9 b,.i k (Z158 a b))
 | .eql=>some ([],.b (Z13s a b))
 | .neq=>some ([],.b (Z4f (Z13s a b)))
 | .lss=>some ([],.b (Ztv a b))
 | .leq=>some ([],.b (Z5b a b))
 | .gtr=>some ([],.b (Ztv b a))
 | .geq=>some ([],.b (Z5b b a))
 | _=>none
def shrS (k:IntKind) (a b:E):Option (List B × SC):=match k,b with
 | .i64,.c n=>if 0≤n∧n≤61 then some ([Z5b (.c 0) a,Z5b a (.c 4611686018427387904)],.i .i64 (Zzm .i64 a (.c ((2 ^ n.toNat:Nat):Int)))) else none
 | _,_=>none
def binS (P:Program) (op:BinOp) (t:TypeId) (x y:SV):Option (List B × SC) :=
 match x,y with
 | .w (.o (.i k a)),.w (.o (.i k' b))=>if op=.shr then shrS k a b else if k=k' then Zoq op k a b else none
 | .w (.o (.b a)),.w (.o (.b b))=>match P.underlying t,op with
  | some .bool,.eql=>some ([],.b (Zu3 a b))
  | some .bool,.neq=>some ([],.b (Z4f (Zu3 a b)))
  | _,_=>none
 | .w (.a xs),.w (.a ys) =>
  if P.eqGuardType P.depth t || !Z60 P t then none else
  match op with
  | .eql=>(eqB P 12 t xs ys).map fun b=>([],.b b)
  | .neq=>(eqB P 12 t xs ys).map fun b=>([],.b (Z4f b))
  | _=>none
 | _,_=>none
def Z5c:SV→Option Nat
 | .w (.o (.i _ (.c n)))=>if 0≤n then some n.toNat else none
 | _=>none
def Z83 (s:St) (x:Option Operand) (dflt:Nat):Option Nat :=
 match x with
 | none=>some dflt
 | some o=>Z5c (s.ev o)
def Zu5 (s:St):List Operand→Option (List (Nat × Nat))
 | []=>some []
 | x::rest=>match s.ev x,Zu5 s rest with
  | .w (.o (.p n off)),some l=>some ((n,off)::l)
  | _,_=>none
def inB (c ix:E):List B:=[Z5b (.c 0) ix,Ztv ix (Zop c)]
def vB (c lo hi:E):List B:=[Z5b (.c 0) lo,Z5b lo hi,Z5b hi (Zop c)]
def Zzd:SV→Option E
 | .w (.o (.i _ e))=>some e
 | _=>none
def Z15a (s:St) (x:Option Operand) (dflt:E):Option E :=
 match x with
 | none=>some dflt
 | some o=>Zzd (s.ev o)
def Z15b (gl:List (Nat × List Int)) (g:Nat):Option (List SC):=(gl.find? (fun p=>p.1 == g)).map fun p=>p.2.map fun n=>.i .i64 (.c n)
def isBig (s:St) (t:TypeId):G→Bool
 | .o n=>(match s.rows[n]? with
  | some b=>b.ty == t
  | none=>false)
 | _=>false
def op1 (P:Program) (s:St) (o:Oper):Option (List B × SV × St) :=
 match o.op with
 | .move x | .assign x=>some ([],s.ev x,s)
 | .pick c a b=>match s.ev c with
  | .w (.o (.b (.c true)))=>some ([],s.ev a,s)
  | .w (.o (.b (.c false)))=>some ([],s.ev b,s)
  | _=>none
 | .alloc t=>match Z5w P t with
  | some z=>(s.new t z).map fun s'=>([],one (.p s.mem.length 0),s')
  | none=>none
 | .box t x=>match s.ev x with
  | .w y=>if (y.cells).all SC.one then (s.new t y.cells).map fun s'=>([],one (.p s.mem.length 0),s') else none
  | _=>none
 | .build t parts=>match Zfu s parts.toList with
  | some l=>if l.all (fun p=>p.2.scp s.mem.length s.rows.length) then (Zu4 P t l).map fun cs=>([],.w (.a cs),s) else none
  | none=>none
 | .buildSlice t len parts=>match P.underlying t,Zfu s parts.toList with
  | some (.slice elem),some l=>match Z5w P elem with
   | some z =>
    if z.length=P.cellsOf elem && z.length ≠ 0 && len * z.length≤16777216 && l.all (fun p=>p.2.scp s.mem.length s.rows.length) then
     match Zmc (fun i=>some (i * z.length,z.length)) (Z159 z len) l with
     | some cs=>(s.new elem cs).map fun s'=>([],one (.s s.mem.length 0 len len),s')
     | none=>none
    else none
   | none=>none
  | _,_=>none
 | .makeSlice t l c=>match P.underlying t,Z5c (s.ev l),Z5c (s.ev c) with
  | some (.slice elem),some m,some m'=>match P.info? elem,Z5w P elem with
   | some inf,some z=>if decide (m=m') && decide (m≤64) && decide (inf.bytes≤100000000) && decide (z.length=inf.size) then
     (s.new elem (Z159 z m)).map fun s'=>([],one (.s s.mem.length 0 m m),s') else none
   | _,_=>none
  | _,_,_=>none
 | .load t a=>match s.ev a with
  | .w (.o (.p n off))=>match s.mem[n]? with
   | some b=>if b.live then (Zrm P t b.cells off).map fun y=>([],.w y,s) else none
   | none=>none
  | .w (.o (.gp g size ix j))=>match Z2v s g with
   | some (ks,c)=>if size=ks.length then (Zrm P t (Zj8 g ks c ix) j).map fun y=>(inB c ix,.w y,s) else none
   | none=>none
  | .w (.o (.l (.pointer (some ⟨g,off,none⟩))))=>match Z15b s.gl g with
   | some cs=>(Zrm P t cs off).map fun y=>([],.w y,s)
   | none=>none
  | _=>none
 | .store t a x=>match s.ev a,s.ev x with
  | .w (.o (.p n off)),.w y=>match s.mem[n]? with
   | some b =>
    let vc:=y.cells
    if b.live && (P.info? t).isSome && decide (s.fl≤n) && decide (vc.length=P.cellsOf t) && decide (off + vc.length≤b.cells.length) && vc.all SC.one && y.scp s.mem.length s.rows.length then
     some ([],Z5,{ s with mem:=s.mem.set n { b with cells:=Z61 b.cells off vc } })
    else none
   | none=>none
  | .w (.o (.gp (.o n) size ix j)),.w y=>match s.rows[n]? with
   | some b =>
    let vc:=y.cells
    if b.live && (P.info? t).isSome && decide (s.flr≤n) && decide (size=b.ks.length) && decide (vc.length=P.cellsOf t) && decide (j + vc.length≤b.ks.length) then
     (match Z2j b.ks (Z61 (Zj8 (.o n) b.ks b.c ix) j vc) with
     | some es=>some (inB b.c ix,Z5,{ s with rows:=s.rows.set n { b with c:=Zrl b.c ix (Z2i es) } })
     | none=>none)
    else none
   | none=>none
  | _,_=>none
 | .nilCheck x=>match s.ev x with
  | .w (.o (.p n off))=>some ([],one (.p n off),s)
  | .w (.o (.gp g size ix j))=>match Z2v s g with
   | some (_,c)=>some (inB c ix,one (.gp g size ix j),s)
   | none=>none
  | .w (.o (.f n off))=>some ([],one (.f n off),s)
  | _=>none
 | .binOp op t x y _=>(binS P op t (s.ev x) (s.ev y)).map fun r=>(r.1,one r.2,s)
 | .unOp op _ x=>match op,s.ev x with
  | .neg,.w (.o (.i k a))=>some ([],one (.i k (Zu2 k (.c 0) a)),s)
  | .not,.w (.o (.b a))=>some ([],one (.b (Z4f a)),s)
  | _,_=>none
 | .convert src dst x=>match P.underlying src,P.underlying dst,s.ev x with
  | some _,some (.int k),.w (.o (.i _ a))=>some ([],one (.i k (mkCv k a)),s)
  | _,_,_=>none
 | .fieldAddr t x f=>match P.underlying t with
  | some (.struct fields)=>match fields[f]? with
   | some fd=>if P.cellsOf fd.type=0 || (P.info? fd.type).isNone then none else
    match s.ev x with
    | .w (.o (.p n off))=>some ([],one (.p n (off + fd.offset)),s)
    | .w (.o (.gp g size ix j))=>match Z2v s g with
     | some (_,c)=>some (inB c ix,one (.gp g size ix (j + fd.offset)),s)
     | none=>none
    | _=>none
   | none=>none
  | _=>none
 | .field t x f=>match P.underlying t,s.ev x with
  | some (.struct fields),.w (.a cs)=>match fields[f]? with
   | some fd=>(Z3l P fd.type cs fd.offset).map fun y=>([],.w y,s)
   | none=>none
  | _,_=>none
 | .indexAddr t x ix=>match P.underlying t,s.ev x with
  | some (.array len elem),.w (.o (.p n off))=>match Z5c (s.ev ix) with
   | some i=>if i < len && (P.info? elem).isSome then some ([],one (.p n (off + i * P.cellsOf elem)),s) else none
   | none=>none
  | some (.array len elem),.w (.o (.gp g size gx j))=>if isBig s t g && (decide (size=P.cellsOf elem) && (decide (64 < len) && (decide (j=0) && gx.same (.c 0)))) then (match Zzd (s.ev ix),Z2v s g with
   | some e,some (_,c)=>if (P.info? elem).isSome then some (inB c e++[Ztv e (.c len)],one (.gp g size e 0),s) else none
   | _,_=>none) else match Z5c (s.ev ix),Z2v s g with
   | some i,some (_,c)=>if i < len && (P.info? elem).isSome then some (inB c gx,one (.gp g size gx (j + i * P.cellsOf elem)),s) else none
   | _,_=>none
  | some (.slice elem),.w (.o (.s n off len _))=>match Z5c (s.ev ix) with
   | some i=>if i < len && (P.info? elem).isSome then some ([],one (.p n (off + i * P.cellsOf elem)),s) else none
   | none=>none
  | some (.slice elem),.w (.o (.go g))=>match Zzd (s.ev ix),Z2v s g with
   | some e,some (_,c)=>if (P.info? elem).isSome then some (inB c e,one (.gp g (P.cellsOf elem) e 0),s) else none
   | _,_=>none
  | some (.slice elem),.w (.o (.gv g size lo hi))=>match Zzd (s.ev ix),Z2v s g with
   | some e,some (_,c)=>if (P.info? elem).isSome && decide (size=P.cellsOf elem) then
     some (vB c lo hi++[Z5b (.c 0) e,Ztv e (Z2w hi lo)],one (.gp g size (Z4e lo e) 0),s) else none
   | _,_=>none
  | _,_=>none
 | .index t x ix=>match P.underlying t,s.ev x,Z5c (s.ev ix) with
  | some (.array len elem),.w (.a cs),some i=>if i < len && (P.info? elem).isSome then (Z3l P elem cs (i * P.cellsOf elem)).map fun y=>([],.w y,s) else none
  | _,_,_=>none
 | .slice t x lo hi mx=>if mx.isSome then (match P.underlying t,s.ev x,Z83 s lo 0,Z83 s hi 1,Z83 s mx 1 with
   | some (.slice elem),.w (.o (.go g)),some 0,some 0,some 0=>if (Z2v s g).isSome && (P.info? elem).isSome then some ([],one (.gz g),s) else none
   | _,_,_,_,_=>none) else
  match P.underlying t,s.ev x with
  | some (.slice elem),.w (.o (.go g))=>(match Z2v s g with
   | some (_,c)=>(match Z15a s lo (.c 0),Z15a s hi (Zop c) with
    | some l,some h=>if (P.info? elem).isSome then some (vB c l h,one (.gv g (P.cellsOf elem) l h),s) else none
    | _,_=>none)
   | none=>none)
  | some (.slice elem),.w (.o (.gv g size lo0 hi0))=>(match Z2v s g with
   | some (_,c)=>(match Z15a s lo (.c 0),Z15a s hi (Z2w hi0 lo0) with
    | some (.c 0),some h=>if (P.info? elem).isSome && decide (size=P.cellsOf elem) then
      some (vB c lo0 hi0++[Z5b (.c 0) h,Z5b h (Z2w hi0 lo0)],one (.gv g size lo0 (Z4e lo0 h)),s) else none
    | some l,some h=>if (P.info? elem).isSome && decide (size=P.cellsOf elem) then
      some (vB c lo0 hi0++[Z5b (.c 0) l,Z5b l h,Z5b h (Z2w hi0 lo0),Ztv l (Z2w hi0 lo0)],one (.gv g size (Z4e lo0 l) (Z4e lo0 h)),s) else none
    | _,_=>none)
   | none=>none)
  | some (.array len elem),.w (.o (.p n off))=>match Z83 s hi len with
   | some h=>match Z83 s lo 0 with
    | some l=>if l≤h && h≤len && (P.info? elem).isSome then
      some ([],one (.s n (if len=l then off else off + l * P.cellsOf elem) (h - l) (len - l)),s) else none
    | none=>none
   | none=>none
  | some (.slice elem),.w (.o (.s n off len cap))=>match Z83 s hi len with
   | some h=>match Z83 s lo 0 with
    | some l=>if l≤h && h≤cap && (P.info? elem).isSome then
      some ([],one (.s n (if cap=l then off else off + l * P.cellsOf elem) (h - l) (cap - l)),s) else none
    | none=>none
   | none=>none
  | _,_=>none
 | .extract x ix=>match s.ev x with
  | .t xs=>(xs[ix]?).map fun y=>([],.w y,s)
  | _=>none
 | .makeFunc fn first caps=>match fn,first.toList with
  | .func f,[]=>(Zu5 s caps.toList).map fun l=>([],one (.f f l),s)
  | _,_=>none
 | .call c=>match c.callee,c.args.toList with
  | .builtin .len,[x]=>match c.argTypes[0]? with
   | some t=>match P.underlying t,s.ev x with
    | some (.array n _),_=>some ([],one (.i .i64 (.c n)),s)
    | some (.slice _),.w (.o (.s _ _ len _))=>some ([],one (.i .i64 (.c len)),s)
    | some (.slice _),.w (.o (.go g))=>match Z2v s g with
     | some (_,c)=>some ([],one (.i .i64 (Zop c)),s)
     | none=>none
    | some (.slice _),.w (.o (.gv g _ lo hi))=>match Z2v s g with
     | some (_,c)=>some (vB c lo hi,one (.i .i64 (Z2w hi lo)),s)
     | none=>none
    | some (.slice _),.w (.o (.l (.slice Option.none 0 0)))=>some ([],one (.i .i64 (.c 0)),s)
    | _,_=>none
   | none=>none
  | .builtin .min,x::rest=>rest.foldl (fun acc y=>match acc,s.ev y with
    | some (aZ,.w (.o (.i k a)),s'),.w (.o (.i _ b))=>some (aZ,one (.i k (mkMn a b)),s')
    | _,_=>none) (match s.ev x with | .w (.o (.i k a))=>some ([],one (.i k a),s) | _=>none)
  | .builtin .max,x::rest=>rest.foldl (fun acc y=>match acc,s.ev y with
    | some (aZ,.w (.o (.i k a)),s'),.w (.o (.i _ b))=>some (aZ,one (.i k (mkMx a b)),s')
    | _,_=>none) (match s.ev x with | .w (.o (.i k a))=>some ([],one (.i k a),s) | _=>none)
  | _,_=>none
 | _=>none
end Go.Sx
namespace Go.Sx
open Go.RowKit
def Z3w (W:(Exit→Act→World→Prop)→Act→World→Prop) (Q:Exit→Act→World→Prop):Nat→Act→World→Prop
 | 0,_,_=>False
 | n + 1,a,w=>W (Exit.then (Z3w W Q n) Q) a w
def wps (P:Program):Code→(Exit→Act→World→Prop)→Act→World→Prop
 | .skip,Q,a,w=>Q .normal a w
 | .label _,Q,a,w=>Q .normal a w
 | .exit id,Q,a,w=>Q (.exit id) a w
 | .ret,Q,a,w=>Q .ret a w
 | .seq x y,Q,a,w=>wps P x (Exit.then (wps P y Q) Q) a w
 | .cond c x y,Q,a,w=>∃ t,a.eval c=.bool t∧if t=true then wps P x Q a w else wps P y Q a w
 | .block id c,Q,a,w=>wps P c (Exit.inBlock id Q) a w
 | .loop c,Q,a,w=>∃ n,Z3w (wps P c) Q n a w
 | .region _ ops false,Q,a,w=>wpOps P ops Q (List.range ops.size) a w
 | .region _ ops true,Q,a,w=>∀ t,wpOps P ops Q (Region.schedule (P.follows .mixedOrders) ops t) a { w with drawn:=w.drawn + 1 }
 | _,_,_,_=>False
theorem Zb9 {Q Q':Exit→Act→World→Prop} (h:∀ e a w,Q e a w→Q' e a w):LetsOut Q→LetsOut Q':=fun ⟨a,w,hq⟩=>⟨a,w,h _ _ _ hq⟩
theorem Zu6 {P:Program} {o:Oper} {a:Act} {w:World} {K K':Act→World→Prop} {Q Q':Exit→Act→World→Prop} (hK:∀ a w,K a w→K' a w) (hQ:∀ e a w,Q e a w→Q' e a w)
  (hh:o.wp P a w K Q):o.wp P a w K' Q':=by
 unfold Oper.wp at *
 generalize (execOp a.eval o).run P w=r at *
 cases r with
 | ok n w' =>
  cases n <;> simp only [Oper.upon] at hh ⊢ <;>
   first
    | exact hK _ _ hh
    | exact Calls.mono hh (fun e w'' he=>by cases e <;> first | exact hK _ _ he | exact hQ _ _ _ he | exact Zb9 hQ he)
    | exact Rows.mono hh (fun _ _ he=>hK _ _ he)
 | halt x w'=>cases x <;> simp only [Oper.upon] at hh ⊢ <;> exact hQ _ _ _ hh
theorem Z8v {P:Program} {ops:Array Oper} {Q Q':Exit→Act→World→Prop} (hQ:∀ e a w,Q e a w→Q' e a w):∀ (l:List Nat) (a:Act) (w:World),wpOps P ops Q l a w→wpOps P ops Q' l a w
 | [],a,w,h=>hQ _ _ _ h
 | i::l,a,w,h=>by
  unfold wpOps at h ⊢
  split
  ·rename_i ho
   rw [ho] at h
   exact Z8v hQ l a w h
  ·rename_i o ho
   rw [ho] at h
   dsimp only at h
   split
   ·rename_i hw
    rw [if_pos hw] at h
    rcases h with h | h
    ·exact .inl (Zu6 (fun a w h=>Z8v hQ l a w h) hQ h)
    ·exact .inr ⟨h.1,Zb9 hQ h.2⟩
   ·rename_i hw
    rw [if_neg hw] at h
    exact Z8v hQ l _ w h
theorem Z8w {K K':Act→World→Prop} {Q Q':Exit→Act→World→Prop} (hK:∀ a w,K a w→K' a w) (hQ:∀ e a w,Q e a w→Q' e a w):∀ e a w,Exit.then K Q e a w→Exit.then K' Q' e a w:=by
 intro e a w h
 cases e <;> first | exact hK _ _ h | exact hQ _ _ _ h
theorem Zrn {id:Nat} {Q Q':Exit→Act→World→Prop} (hQ:∀ e a w,Q e a w→Q' e a w):∀ e a w,Exit.inBlock id Q e a w→Exit.inBlock id Q' e a w:=by
 intro e a w h
 cases e with
 | exit id' =>
  show if id'=id then _ else _
  have h':if id'=id then Q .normal a w else Q (.exit id') a w:=h
  split
  ·rename_i hi; rw [if_pos hi] at h'; exact hQ _ _ _ h'
  ·rename_i hi; rw [if_neg hi] at h'; exact hQ _ _ _ h'
 | _=>exact hQ _ _ _ h
theorem Z1r {P:Program}:∀ (c:Code) {Q Q':Exit→Act→World→Prop} {a:Act} {w:World},wps P c Q a w→(∀ e a w,Q e a w→Q' e a w)→wps P c Q' a w:=by
 intro c
 induction c with
 | seq x y ihx ihy=>intro Q Q' a w h hq; exact ihx h (Z8w (fun a w h=>ihy h hq) hq)
 | cond c x y ihx ihy =>
  intro Q Q' a w h hq
  obtain ⟨t,ht,h⟩:=h
  refine ⟨t,ht,?_⟩
  cases t with
  | true=>exact ihx h hq
  | false=>exact ihy h hq
 | block id c ih=>intro Q Q' a w h hq; exact ih h (Zrn hq)
 | loop c ih =>
  intro Q Q' a w h hq
  obtain ⟨n,h⟩:=h
  refine ⟨n,?_⟩
  revert a w
  induction n with
  | zero=>intro a w h; exact h
  | succ n ihn=>intro a w h; exact ih h (Z8w (fun a w h=>ihn h) hq)
 | region id ops draw =>
  intro Q Q' a w h hq
  cases draw with
  | false=>exact Z8v hq _ _ _ h
  | true=>exact fun t=>Z8v hq _ _ _ (h t)
 | skip=>intro Q Q' a w h hq; exact hq _ _ _ h
 | label l=>intro Q Q' a w h hq; exact hq _ _ _ h
 | exit id=>intro Q Q' a w h hq; exact hq _ _ _ h
 | ret=>intro Q Q' a w h hq; exact hq _ _ _ h
 | _=>intro Q Q' a w h hq; exact h.elim
theorem Zfv {P:Program}:∀ (c:Code) {Q:Exit→Act→World→Prop} {a:Act} {w:World},wps P c Q a w→c.wp P Q a w:=by
 intro c
 induction c with
 | seq x y ihx ihy=>intro Q a w h; exact wp_seq (ihx (Z1r x h (Z8w (fun a w h=>ihy h) (fun _ _ _ h=>h))))
 | cond c x y ihx ihy =>
  intro Q a w h
  obtain ⟨t,ht,h⟩:=h
  cases t with
  | true=>exact wp_cond_true ht (ihx h)
  | false=>exact wp_cond_false ht (ihy h)
 | block id c ih=>intro Q a w h; exact wp_block (ih h)
 | loop c ih =>
  intro Q a w h
  obtain ⟨n,h⟩:=h
  refine wp_loop_rounds n ?_
  revert a w
  induction n with
  | zero=>intro a w h; exact h
  | succ n ihn=>intro a w h; exact ih (Z1r c h (Z8w (fun a w h=>ihn h) (fun _ _ _ h=>h)))
 | region id ops draw =>
  intro Q a w h
  cases draw with
  | false=>exact wp_region h
  | true=>exact wp_region_draw h
 | skip=>intro Q a w h; exact wp_skip h
 | label l=>intro Q a w h; exact wp_label h
 | exit id=>intro Q a w h; exact wp_exit h
 | ret=>intro Q a w h; exact wp_ret h
 | _=>intro Q a w h; exact h.elim
theorem Z4h {W:(Exit→Act→World→Prop)→Act→World→Prop} {Q:Exit→Act→World→Prop} {n:Nat} {a:Act} {w:World}:Z3w W Q (n + 1) a w=W (Exit.then (Z3w W Q n) Q) a w:=rfl
theorem Z15c {P:Program} {ops:Array Oper} {Q:Exit→Act→World→Prop} {id:Nat} {a:Act} {w:World} (hm:P.follows .mixedOrders=true)
  (h:wpAny P .any ops Q ops.size (Array.replicate ops.size false) a { w with drawn:=w.drawn + 1 }):wps P (.region id ops true) Q a w:=fun t=>by
 simp only [Region.schedule,hm,Bool.true_or,if_true]
 exact wpAny_sound ops.size t _ a _ h
theorem Zbu {P:Program} {ops:Array Oper} {Q:Exit→Act→World→Prop} {id:Nat} {a:Act} {w:World} (h:wpList P ops Q ops.toList a w):wps P (.region id ops false) Q a w:=by
 show wpOps P ops Q (List.range ops.size) a w
 rw [List.range_eq_range',← Array.length_toList,wpOps_eq_wpList ops.toList 0 (by simp)]
 exact h
def Zcn (o:Oper) (i:Nat):Bool:=o.after.any fun e=>Region.binds .any e && e.on == i
def Zmd (ops:Array Oper) (i:Nat):Bool:=match ops[i]? with
 | some oi=>(oi.guard.isNone && (match oi.op with | .extract _ _=>true | _=>false)) && (Region.noSelect ops && (List.range ops.size).all fun j=>(j == i || Zcn oi j) || match ops[j]? with
  | some oj=>!Zcn oj i && oi.apart ops oj
  | none=>true)
 | none=>false
def Z73 (i:Nat) (o:Oper):Oper:={ o with after:=o.after.push { on:=i,ground:=.data } }
def Z15d (oi o:Oper):Bool:=oi.after.all fun e=>!Region.binds .any e || Zcn o e.on
def Zfk (ops:Array Oper) (i k:Nat) (o:Oper):Bool:=match ops[i]? with
 | some oi=>decide (i < k) && Z15d oi o
 | none=>false
def Z62 (ops:Array Oper) (i:Nat):Array Oper:=ops.mapIdx fun k o=>if Zfk ops i k o then Z73 i o else o
def Zu7 (ops:Array Oper) (i:Nat):Bool:=match ops[i]? with
 | some oi=>(oi.guard.isNone && (match oi.op with | .move _=>true | .build _ _=>true | _=>false)) && (Region.noSelect ops && (List.range ops.size).all fun j=>(j == i || Zcn oi j) || match ops[j]? with
  | some oj=>Zcn oj i || oi.apart ops oj
  | none=>true)
 | none=>false
def Zu8 (ops:Array Oper):List Nat→Array Oper
 | []=>ops
 | i::l=>Zu8 (if Zu7 ops i then Z62 ops i else ops) l
def isSt (o:Oper):Bool:=match o.op with | .store _ _ _=>true | _=>false
def isApp (o:Oper):Bool:=match o.op with
 | .call c=>match c.callee with | .builtin .append=>true | _=>false
 | _=>false
def nests (ops:Array Oper):Bool:=(ops.toList.any fun o=>match o.op with
 | .makeSlice _ _ _=>true
 | _=>false) && ops.toList.any fun o=>match o.op with
 | .buildSlice _ _ _=>true
 | _=>false
def useM (ops:Array Oper):Bool:=nests ops || (ops.any isApp && ops.any isSt) || decide (2≤(ops.toList.filter isSt).length)
def tidy (ops:Array Oper):Array Oper:=if useM ops then Zu8 ops (List.range ops.size) else match (List.range ops.size).find? (Zmd ops) with
 | some i=>Z62 ops i
 | none=>ops
theorem Z3x {o:Oper} {i:Nat}:Zcn o i=true↔∃ e ∈ o.after,Region.binds .any e=true∧e.on=i:=by
 unfold Zcn
 rw [Array.any_eq_true']
 simp
section
variable {P:Program} {ops:Array Oper} {Q:Exit→Act→World→Prop} {i:Nat}
theorem Zco (j:Nat):(Z62 ops i)[j]?=(ops[j]?).map fun o=>if Zfk ops i j o then Z73 i o else o:=by
 unfold Z62
 rw [Array.getElem?_mapIdx]
theorem Zh4 (t:Array Value):yielded (Z62 ops i) t=yielded ops t:=by
 funext j
 unfold yielded
 rw [Zco]
 cases ops[j]? with
 | none=>rfl
 | some o =>
  simp only [Option.map_some,Option.bind_some]
  rw [show (if Zfk ops i j o=true then Z73 i o else o).dst=o.dst by split <;> rfl]
theorem Z74 {j:Nat} {K:Act→World→Prop} {a:Act} {w:World} (h:wpOp P (Z62 ops i) Q j K a w):wpOp P ops Q j K a w:=by
 unfold wpOp at *
 rw [Zco,Zh4] at h
 cases ho:ops[j]? with
 | none=>rw [ho] at h; exact h
 | some o =>
  rw [ho] at h
  simp only [Option.map_some] at h
  split at h
  ·exact h
  ·exact h
theorem Z20 {listed:Array Bool} {j:Nat}:j ∈ Region.ready .any (Z62 ops i) listed↔j ∈ Region.ready .any ops listed∧∀ o,ops[j]?=some o→Zfk ops i j o=true→listed.getD i false=true:=by
 rw [mem_ready,mem_ready,Zco]
 cases ho:ops[j]? with
 | none=>simp
 | some o =>
  simp only [Option.map_some,Option.some.injEq,exists_eq_left',forall_eq']
  constructor
  ·rintro ⟨h1,h2⟩
   split at h2
   ·rename_i he
    refine ⟨⟨h1,fun e he hb=>h2 e ?_ hb⟩,fun _=>h2 { on:=i,ground:=.data } ?_ rfl⟩
    ·simp only [Z73,Array.mem_push]; exact .inl he
    ·rw [Z73,Array.mem_push]; exact .inr rfl
   ·rename_i he
    exact ⟨⟨h1,h2⟩,fun hh=>absurd hh he⟩
  ·rintro ⟨⟨h1,h2⟩,h3⟩
   refine ⟨h1,?_⟩
   split
   ·rename_i he
    intro e hm hb
    simp only [Z73,Array.mem_push] at hm
    rcases hm with hm | rfl
    ·exact h2 e hm hb
    ·exact h3 he
   ·exact h2
theorem Zme {oi:Oper} (hi:ops[i]?=some oi) (hg:oi.guard=none) (hx:∃ t k,oi.op=.extract t k) (hQo:¬ LetsOut Q) {K:Act→World→Prop} {a:Act} {w:World} (h:wpOp P ops Q i K a w) :
  ∃ v,Yields P ops oi v a∧K (a.put oi.dst v) w:=by
 obtain ⟨t,k,hop⟩:=hx
 unfold wpOp at h
 rw [hi] at h
 have hw:Region.wanted oi (yielded ops a.tmps)=true:=by unfold Region.wanted; rw [hg]
 dsimp only at h
 rw [if_pos hw] at h
 rcases h with h | h
 ·unfold Oper.wp at h
  have key:(∃ v,∀ w,(execOp a.eval oi).run P w=.ok (.value v) w)∨∀ w,∃ m,(execOp a.eval oi).run P w=.halt (.stuck m) w:=by
   simp only [execOp,hop,Sem.run_bind,Instr.extract]
   split
   ·split
    ·rename_i v _
     exact .inl ⟨v,fun w=>by simp [Sem.run_pure,Result.andThen]⟩
    ·exact .inr fun w=>⟨_,rfl⟩
   ·exact .inr fun w=>⟨_,rfl⟩
  rcases key with ⟨v,hv⟩ | hst
  ·rw [hv w] at h
   exact ⟨v,.inl ⟨hw,hv⟩,h⟩
  ·obtain ⟨m,hm⟩:=hst w
   rw [hm] at h
   exact h.elim
 ·exact absurd h.2 hQo
theorem Zu9 (hl:Zmd ops i=true) (hQp:∀ c a w,¬ Q (.panic c) a w) (hQo:¬ LetsOut Q):∀ (fuel:Nat) (listed:Array Bool) (a:Act) (w:World),wpAny P .any (Z62 ops i) Q fuel listed a w→wpAny P .any ops Q fuel listed a w:=by
 unfold Zmd at hl
 split at hl
 ·rename_i oi hi
  simp only [Z18r,Option.isNone_iff_eq_none] at hl
  obtain ⟨⟨hg,hx⟩,hs,hfree⟩:=hl
  have hx':∃ t k,oi.op=.extract t k:=by
   split at hx
   ·exact ⟨_,_,by assumption⟩
   ·cases hx
  have hfr:∀ {listed:Array Bool} j oj,i ∈ Region.ready .any ops listed→ops[j]?=some oj→j ≠ i→listed.getD j true=false→oi.apart ops oj=true:=by
   intro listed j oj hr hj hne hun
   have:=List.all_eq_true.1 hfree j (by simpa using (Array.getElem?_eq_some_iff.1 hj).1)
   rw [hj] at this
   simp only [Bool.or_eq_true,beq_iff_eq,hne,false_or,Z18r] at this
   rcases this with hb | this
   ·obtain ⟨e,hm,hb,hon⟩:=Z3x.1 hb
    obtain ⟨_,o',ho',h2⟩:=mem_ready.1 hr
    rw [hi] at ho'
    simp only [Option.some.injEq] at ho'
    subst ho'
    have:=h2 e hm hb
    rw [hon] at this
    have hjl:j < listed.size:=by
     rcases Nat.lt_or_ge j listed.size with h | h
     ·exact h
     ·simp [Array.getD,Nat.not_lt.2 h] at hun
    simp [Array.getD,hjl] at this hun
    rw [this] at hun
    cases hun
   ·exact this.2
  have hee:∀ o,Zfk ops i i o=false:=fun o=>by unfold Zfk; rw [hi]; simp
  have hgo:∀ {listed:Array Bool} {j:Nat},i ∉ Region.ready .any ops listed→j ∈ Region.ready .any ops listed→j ∈ Region.ready .any (Z62 ops i) listed:=by
   intro listed j hn hj
   refine Z20.2 ⟨hj,fun o ho he=>Classical.byContradiction fun hli=>hn ?_⟩
   obtain ⟨h1,o',ho',h2⟩:=mem_ready.1 hj
   rw [ho] at ho'
   simp only [Option.some.injEq] at ho'
   subst ho'
   unfold Zfk at he
   rw [hi] at he
   simp only [Z18r,Z18s] at he
   have hjl:j < listed.size:=by
    rcases Nat.lt_or_ge j listed.size with h | h
    ·exact h
    ·simp [Array.getD,Nat.not_lt.2 h] at h1
   refine mem_ready.2 ⟨?_,oi,hi,fun e hm hb=>?_⟩
   ·have:i < listed.size:=by omega
    simp [Array.getD,this] at hli ⊢
    exact hli
   ·have:=Array.all_eq_true_iff_forall_mem.1 he.2 e hm
    simp only [hb,Bool.not_true,Bool.false_or] at this
    obtain ⟨e',hm',hb',hon⟩:=Z3x.1 this
    rw [← hon]
    exact h2 e' hm' hb'
  intro fuel
  induction fuel with
  | zero =>
   intro listed a w h
   refine ⟨?_,h.2⟩
   by_cases hir:i ∈ Region.ready .any ops listed
   ·have:i ∈ Region.ready .any (Z62 ops i) listed:=Z20.2 ⟨hir,fun o ho he=>(by rw [hee o] at he; cases he)⟩
    rw [h.1] at this
    cases this
   ·refine List.eq_nil_iff_forall_not_mem.2 fun j hj=>?_
    have:=hgo hir hj
    rw [h.1] at this
    cases this
  | succ fuel ih =>
   intro listed a w h
   by_cases hir:i ∈ Region.ready .any ops listed
   ·have hir':i ∈ Region.ready .any (Z62 ops i) listed:=Z20.2 ⟨hir,fun o ho he=>(by rw [hee o] at he; cases he)⟩
    obtain ⟨v,hy,hK⟩:=Zme hi hg hx' hQo (Z74 (h.2 i hir'))
    exact wpAny_first hi (Region.noSelect_spec hs) (fun c a w hq=>absurd hq (hQp _ _ _)) fuel listed a w (fun j oj hj hne hun _=>hfr j oj hir hj hne hun) hir hy (ih _ _ _ hK)
   ·refine ⟨fun hr=>h.1 (List.eq_nil_iff_forall_not_mem.2 fun j hj=>?_),fun j hj=>wpOp_mono (fun a w hh=>ih _ _ _ hh) (Z74 (h.2 j (hgo hir hj)))⟩
    have:=(Z20.1 hj).1
    rw [hr] at this
    cases this
 ·cases hl
def Z3y (P:Program) {α:Type} (m:Sem α):Prop:=∀ x w w1,m.run P w=.ok x w1→w1=w∧∀ w',m.run P w'=.ok x w'
theorem Z1s {α:Type} (x:α):Z3y P (pure x):=fun y w w1 h=>by
 rw [Sem.run_pure] at h
 cases h
 exact ⟨rfl,fun w'=>Sem.run_pure ..⟩
theorem Z1f {α β:Type} {m:Sem α} {f:α→Sem β} (hm:Z3y P m) (hf:∀ x,Z3y P (f x)):Z3y P (m >>= f):=fun y w w2 h=>by
 rw [Sem.run_bind] at h
 cases hr:m.run P w with
 | ok x w1 =>
  rw [hr,Result.andThen_ok] at h
  obtain ⟨rfl,h1⟩:=hm x w w1 hr
  obtain ⟨rfl,h2⟩:=hf x _ _ _ h
  exact ⟨rfl,fun w'=>by rw [Sem.run_bind,h1 w',Result.andThen_ok]; exact h2 w'⟩
 | halt hh w1 =>
  rw [hr] at h
  cases h
theorem Zro {α β:Type} {m:Sem α} (f:α→β) (hm:Z3y P m):Z3y P (f <$> m):=fun y w w2 h=>by
 rw [Sem.run_map] at h
 cases hr:m.run P w with
 | ok x w1 =>
  rw [hr,Result.andThen_ok] at h
  obtain ⟨rfl,h1⟩:=hm x w w1 hr
  cases h
  exact ⟨rfl,fun w'=>by rw [Sem.run_map,h1 w',Result.andThen_ok]⟩
 | halt hh w1 =>
  rw [hr] at h
  cases h
theorem Z2z {α:Type} (hh:Halt):Z3y P (.halt hh:Sem α):=fun y w w2 h=>by
 simp [Sem.run] at h
theorem Z84:Z3y P program:=fun y w w2 h=>by
 rw [run_program] at h
 cases h
 exact ⟨rfl,fun w'=>run_program ..⟩
theorem Zcp (t:TypeId):Z3y P (typeInfo t):=by
 unfold typeInfo
 refine Z1f Z84 fun x=>?_
 split
 ·exact Z1s _
 ·exact Z2z _
theorem Zja (t:TypeId):Z3y P (Go.underlying t):=by
 unfold Go.underlying
 refine Z1f Z84 fun x=>?_
 split
 ·exact Z1s _
 ·exact Z2z _
theorem Zmf (t:TypeId):Z3y P (zeroValue t):=by
 unfold zeroValue
 refine Z1f (Zcp t) fun x=>?_
 split
 ·exact Z1s _
 ·exact Z2z _
theorem Zcq (t:TypeId):Z3y P (sizeOf t):=by
 unfold sizeOf
 exact Z1f (Zcp t) fun x=>Z1s _
theorem Zcr {α β:Type} {f:α→Sem β} (hf:∀ x,Z3y P (f x)):∀ l:List α,Z3y P (l.mapM f)
 | []=>by
  rw [List.mapM_nil]
  exact Z1s _
 | x::l=>by
  rw [List.mapM_cons]
  exact Z1f (hf x) fun y=>Z1f (Zcr hf l) fun ys=>Z1s _
theorem Zjb (t:TypeId) (parts:Array (Nat × Value)):Z3y P (Instr.build t parts):=by
 unfold Instr.build
 refine Z1f (Zmf t) fun z=>Z1f (Zja t) fun d=>?_
 split
 ·refine Z1f ?_ fun places=>?_
  ·rw [Array.mapM_eq_mapM_toList]
   exact Zro _ (Zcr (fun f=>Z1f (Zcq _) fun n=>Z1s _) _)
  ·split
   ·exact Z1s _
   ·exact Z2z _
 ·refine Z1f (Zcq _) fun n=>?_
  split
  ·exact Z1s _
  ·exact Z2z _
 ·exact Z2z _
theorem Zrp {oi:Oper} (hi:ops[i]?=some oi) (hg:oi.guard=none) (hx:(∃ t,oi.op=.move t)∨∃ t ps,oi.op=.build t ps) (hQp:∀ c a w,¬ Q (.panic c) a w) (hQo:¬ LetsOut Q) {K:Act→World→Prop} {a:Act} {w:World} (h:wpOp P ops Q i K a w) :
  ∃ v,Yields P ops oi v a∧K (a.put oi.dst v) w:=by
 unfold wpOp at h
 rw [hi] at h
 have hw:Region.wanted oi (yielded ops a.tmps)=true:=by unfold Region.wanted; rw [hg]
 dsimp only at h
 rw [if_pos hw] at h
 rcases h with h | h
 ·unfold Oper.wp at h
  rcases hx with ⟨t,hop⟩ | ⟨t,ps,hop⟩
  ·have hv:∀ w,(execOp a.eval oi).run P w=.ok (.value (a.eval t)) w:=fun w=>by simp [execOp,hop,Sem.run_pure]
   rw [hv w] at h
   exact ⟨a.eval t,.inl ⟨hw,hv⟩,h⟩
  ·have he:∀ w,(execOp a.eval oi).run P w=((Instr.build t (ps.map fun p=>(p.1,a.eval p.2))).run P w).andThen fun x w'=>.ok (.value x) w':=fun w=>by
    simp only [execOp,hop,Sem.run_bind,Sem.run_pure]
   rw [he w] at h
   cases hr:(Instr.build t (ps.map fun p=>(p.1,a.eval p.2))).run P w with
   | ok x w1 =>
    obtain ⟨rfl,h1⟩:=Zjb t _ x w w1 hr
    rw [hr,Result.andThen_ok] at h
    exact ⟨x,.inl ⟨hw,fun w'=>by rw [he w',h1 w',Result.andThen_ok]⟩,h⟩
   | halt hh w1 =>
    rw [hr] at h
    cases hh <;> first | exact h.elim | exact absurd h (hQp _ _ _)
 ·exact absurd h.2 hQo
theorem Zrq (hl:Zu7 ops i=true) (hQp:∀ c a w,¬ Q (.panic c) a w) (hQo:¬ LetsOut Q):∀ (fuel:Nat) (listed:Array Bool) (a:Act) (w:World),wpAny P .any (Z62 ops i) Q fuel listed a w→wpAny P .any ops Q fuel listed a w:=by
 unfold Zu7 at hl
 split at hl
 ·rename_i oi hi
  simp only [Z18r,Option.isNone_iff_eq_none] at hl
  obtain ⟨⟨hg,hx⟩,hs,hfree⟩:=hl
  have hx':(∃ t,oi.op=.move t)∨∃ t ps,oi.op=.build t ps:=by
   split at hx
   ·exact .inl ⟨_,by assumption⟩
   ·exact .inr ⟨_,_,by assumption⟩
   ·cases hx
  have hfr:∀ {listed:Array Bool} j oj,i ∈ Region.ready .any ops listed→ops[j]?=some oj→j ≠ i→listed.getD j true=false→(∀ e ∈ oj.after,Region.binds .any e=true→e.on ≠ i)→oi.apart ops oj=true:=by
   intro listed j oj hr hj hne hun hnb
   have:=List.all_eq_true.1 hfree j (by simpa using (Array.getElem?_eq_some_iff.1 hj).1)
   rw [hj] at this
   simp only [Bool.or_eq_true,beq_iff_eq,hne,false_or] at this
   rcases this with hb | this
   ·obtain ⟨e,hm,hb,hon⟩:=Z3x.1 hb
    obtain ⟨_,o',ho',h2⟩:=mem_ready.1 hr
    rw [hi] at ho'
    simp only [Option.some.injEq] at ho'
    subst ho'
    have:=h2 e hm hb
    rw [hon] at this
    have hjl:j < listed.size:=by
     rcases Nat.lt_or_ge j listed.size with h | h
     ·exact h
     ·simp [Array.getD,Nat.not_lt.2 h] at hun
    simp [Array.getD,hjl] at this hun
    rw [this] at hun
    cases hun
   ·rcases this with hb | this
    ·obtain ⟨e,hm,hb,hon⟩:=Z3x.1 hb
     exact absurd hon (hnb e hm hb)
    ·exact this
  have hee:∀ o,Zfk ops i i o=false:=fun o=>by unfold Zfk; rw [hi]; simp
  have hgo:∀ {listed:Array Bool} {j:Nat},i ∉ Region.ready .any ops listed→j ∈ Region.ready .any ops listed→j ∈ Region.ready .any (Z62 ops i) listed:=by
   intro listed j hn hj
   refine Z20.2 ⟨hj,fun o ho he=>Classical.byContradiction fun hli=>hn ?_⟩
   obtain ⟨h1,o',ho',h2⟩:=mem_ready.1 hj
   rw [ho] at ho'
   simp only [Option.some.injEq] at ho'
   subst ho'
   unfold Zfk at he
   rw [hi] at he
   simp only [Z18r,Z18s] at he
   have hjl:j < listed.size:=by
    rcases Nat.lt_or_ge j listed.size with h | h
    ·exact h
    ·simp [Array.getD,Nat.not_lt.2 h] at h1
   refine mem_ready.2 ⟨?_,oi,hi,fun e hm hb=>?_⟩
   ·have:i < listed.size:=by omega
    simp [Array.getD,this] at hli ⊢
    exact hli
   ·have:=Array.all_eq_true_iff_forall_mem.1 he.2 e hm
    simp only [hb,Bool.not_true,Bool.false_or] at this
    obtain ⟨e',hm',hb',hon⟩:=Z3x.1 this
    rw [← hon]
    exact h2 e' hm' hb'
  intro fuel
  induction fuel with
  | zero =>
   intro listed a w h
   refine ⟨?_,h.2⟩
   by_cases hir:i ∈ Region.ready .any ops listed
   ·have:i ∈ Region.ready .any (Z62 ops i) listed:=Z20.2 ⟨hir,fun o ho he=>(by rw [hee o] at he; cases he)⟩
    rw [h.1] at this
    cases this
   ·refine List.eq_nil_iff_forall_not_mem.2 fun j hj=>?_
    have:=hgo hir hj
    rw [h.1] at this
    cases this
  | succ fuel ih =>
   intro listed a w h
   by_cases hir:i ∈ Region.ready .any ops listed
   ·have hir':i ∈ Region.ready .any (Z62 ops i) listed:=Z20.2 ⟨hir,fun o ho he=>(by rw [hee o] at he; cases he)⟩
    obtain ⟨v,hy,hK⟩:=Zrp hi hg hx' hQp hQo (Z74 (h.2 i hir'))
    exact wpAny_first hi (Region.noSelect_spec hs) (fun c a w hq=>absurd hq (hQp _ _ _)) fuel listed a w (fun j oj hj hne hun hnb=>hfr j oj hir hj hne hun hnb) hir hy (ih _ _ _ hK)
   ·refine ⟨fun hr=>h.1 (List.eq_nil_iff_forall_not_mem.2 fun j hj=>?_),fun j hj=>wpOp_mono (fun a w hh=>ih _ _ _ hh) (Z74 (h.2 j (hgo hir hj)))⟩
    have:=(Z20.1 hj).1
    rw [hr] at this
    cases this
 ·cases hl
theorem Zfw:∀ (l:List Nat) (ops:Array Oper),(Zu8 ops l).size=ops.size
 | [],_=>rfl
 | i::l,ops=>by
  rw [Zu8,Zfw l]
  split
  ·simp [Z62]
  ·rfl
theorem Zjc (hQp:∀ c a w,¬ Q (.panic c) a w) (hQo:¬ LetsOut Q):∀ (l:List Nat) (ops:Array Oper) (fuel:Nat) (listed:Array Bool) (a:Act) (w:World),wpAny P .any (Zu8 ops l) Q fuel listed a w→wpAny P .any ops Q fuel listed a w
 | [],_,_,_,_,_,h=>h
 | i::l,ops,fuel,listed,a,w,h=>by
  have h':=Zjc hQp hQo l _ fuel listed a w h
  split at h'
  ·rename_i hl
   exact Zrq hl hQp hQo _ _ _ _ h'
  ·exact h'
theorem Zzo {id:Nat} {a:Act} {w:World} (hm:P.follows .mixedOrders=true) (hQp:∀ c a w,¬ Q (.panic c) a w) (hQo:¬ LetsOut Q)
  (h:wpAny P .any (tidy ops) Q (tidy ops).size (Array.replicate (tidy ops).size false) a { w with drawn:=w.drawn + 1 }):wps P (.region id ops true) Q a w:=by
 refine Z15c hm ?_
 unfold tidy at h
 split at h
 ·rw [Zfw] at h
  exact Zjc hQp hQo _ _ _ _ _ _ h
 split at h
 ·rename_i i hi
  have hsz:(Z62 ops i).size=ops.size:=by simp [Z62]
  rw [hsz] at h
  exact Zu9 (List.find?_some hi) hQp hQo _ _ _ _ h
 ·exact h
end
end Go.Sx
namespace Go.Sx
open Go.RowKit
def tail (ds:List Deferred) (a:Act):Act:={ a with defers:=a.defers++ds }
end Go.Sx
namespace Go.Sx
open Go.RowKit
structure Sh where
 agg:Bool
 ks:List K
noncomputable def K.mk (k:K) (n:Int):Value:=match k with
 | .i kk=>.int kk n
 | .b=>.bool (n != 0)
 | .s _ _=>hdV n
noncomputable def Z7:List K→List Int→List Value
 | k::ks,x::xs=>k.mk x::Z7 ks xs
 | _,_=>[]
noncomputable def Zua (s:Sh) (xs:List Int):Value :=
 if s.agg then .agg (Z7 s.ks xs).toArray else (Z7 s.ks xs).headD undef
noncomputable def Zjd:List Sh→List Int→List Value
 | [],_=>[]
 | s::ss,xs=>Zua s (xs.take s.ks.length)::Zjd ss (xs.drop s.ks.length)
def Zg:List Sh→Nat
 | []=>0
 | s::ss=>s.ks.length + Zg ss
noncomputable def Zrr (rs:List Sh) (ys:List Int):Value:=match Zjd rs ys with
 | [v]=>v
 | vs=>.tuple vs.toArray
structure Sum where
 fn:FuncId
 ps:List Sh
 rs:List Sh
 sem:List Int→List Int
 pre:List Int→Prop
 gl:List (Nat × List Int):=[]
 m:Option (St→List SV→Option (List B × List E × (Nat→St × SV))):=none
def Zm8 (gl:List (Nat × List Int)) (w:World):Prop:=∀ p ∈ gl,∀ (j:Nat) (n:Int),p.2[j]?=some n→w.cell? ⟨p.1,j,none⟩=some (.int .i64 n)
noncomputable def elt (ks:List K) (x:Int):List Int:=if ks.length=1 then [x] else dec x
noncomputable def Zb (ks:List K) (l:List Int):List Value:=l.flatMap fun x=>Z7 ks (elt ks x)
def Z5a (w:World) (ks:List K) (v:Value) (c:Int):Prop :=
  ((∃ a,v=.slice a 0 0)∧dec c=[]) ∨
  ∃ b off cap,v=.slice (some ⟨b,off,none⟩) (dec c).length cap∧(dec c).length≤cap∧cap≤maxLen∧(∀ x ∈ dec c,(elt ks x).length=ks.length) ∧
    ∀ j u,(Zb ks (dec c))[j]?=some u→w.cell? ⟨b,off + j,none⟩=some u
def slBlk (v:Value):Option Nat:=match v with
 | .slice (some a) _ _=>some a.block
 | _=>none
mutual
def Z2b (w:World) (X:Nat→Prop):K→Value→Int→Prop
 | .s _ ks,v,c=>(Z5a w ks v c∧(Zb ks (dec c) ≠ []→∀ k,slBlk v=some k→¬ X k))∧∀ x ∈ dec c,Z5d w X ks (elt ks x)
 | _,_,_=>True
def Z5d (w:World) (X:Nat→Prop):List K→List Int→Prop
 | k::ks,n::ns=>Z2b w X k (hdV n) (ctN n)∧Z5d w X ks ns
 | _,_=>True
end
def SlN (w:World) (ks:List K) (v:Value) (c:Int):Prop:=Z2b w (fun _=>False) (.s 0 ks) v c
def Zs (w:World) (ty:TypeId) (ks:List K) (v:Value) (c:Int):Prop :=
 (dec c=[]∧∃ a,v=.slice a 0 0) ∨
 (ks.length ≠ 0∧(∀ x ∈ dec c,(elt ks x).length=ks.length)∧w.ownsRow 0 ty ks.length v (dec c).length (Zb ks (dec c)))
def Z6 (v:Value):Option Nat:=match v with
 | .slice (some a) _ cap=>if cap=0 then none else some a.block
 | _=>none
def Zub (S:TypeId→List K→Value→Int→Prop):K→Value→Int→Prop
 | .i k,v,n=>v=.int k n
 | .b,v,n=>v=.bool (n != 0)
 | .s ty ks,v,n=>S ty ks v n
def Z2k (S:TypeId→List K→Value→Int→Prop):List K→List Value→List Int→Prop
 | [],[],[]=>True
 | k::ks,v::vs,x::xs=>Zub S k v x∧Z2k S ks vs xs
 | _,_,_=>False
def ShR (S:TypeId→List K→Value→Int→Prop) (s:Sh) (v:Value) (xs:List Int):Prop :=
 if s.agg then ∃ cs:List Value,v=.agg cs.toArray∧Z2k S s.ks cs xs else Z2k S s.ks [v] xs
def Z63 (S:TypeId→List K→Value→Int→Prop):List Sh→List Value→List Int→Prop
 | [],vs,xs=>vs=[]∧xs=[]
 | s::ss,vs,xs=>∃ v vr ys yr,vs=v::vr∧xs=ys++yr∧ShR S s v ys∧Z63 S ss vr yr
def Zac:List K→List Value→List Value
 | .s _ _::ks,v::vs=>v::Zac ks vs
 | _::ks,_::vs=>Zac ks vs
 | _,_=>[]
def Zfl (s:Sh) (v:Value):List Value:=if s.agg then (match v with | .agg cs=>Zac s.ks cs.toList | _=>[]) else Zac s.ks [v]
def Z9:List Sh→List Value→List Value
 | s::ss,v::vs=>Zfl s v++Z9 ss vs
 | _,_=>[]
def Zje (l:List Value):Prop:=l.Pairwise fun u v=>∀ k,Z6 u=some k→Z6 v ≠ some k
def resV (vs:List Value):Value:=match vs with
 | [v]=>v
 | vs=>.tuple vs.toArray
def Z8x (B:Nat→Prop) (w:World) (rs:List Sh) (v:Value) (ys:List Int):Prop :=
 ∃ vs:List Value,v=resV vs∧Z63 (fun ty ks u n=>Zs w ty ks u n∧∀ k,Z6 u=some k→B k) rs vs ys∧Zje (Z9 rs vs)
def Sum.ok (P:Program) (s:Sum):Prop :=
  (∀ sh ∈ s.ps++s.rs,sh.agg=true∨sh.ks.length=1) ∧
  ∀ (xs:List Int) (vs:List Value) (w:World),Zm8 s.gl w→Z63 (fun _ ks u n=>SlN w ks u n) s.ps vs xs→s.pre xs→(s.sem xs).length=Zg s.rs ∧
    Calls P s.fn vs.toArray w fun e w'=>∃ v,e=.returned v∧Z8x (fun k=>w.heap.size≤k) w' s.rs v (s.sem xs)∧Below w.heap.size w w'
inductive T where
 | ret (es:List E)
 | ite (b:B) (t f:T)
 | asrt (b:B) (t:T)
 | call (g:Nat) (args:List E) (t:T)
 | loop (n:Nat) (ini:List E) (t:T)
 | back (d:Nat) (es:List E)
 | both (t f:T)
 | any (n g:Nat) (args:List E) (t:T)
 | fail
def Zcs (Γ:List Sum) (g:Nat):List Int→Prop:=match Γ[g + 1]? with
 | some s=>s.pre
 | none=>fun _=>True
def T.sat (Γ:List Sum) (R:Fo) (Ψ:List Int→Prop):T→List (List Int→Prop)→List Int→Prop
 | .ret es,_,r=>Ψ (es.map (E.den R r))
 | .ite b t f,bs,r=>(b.den R r=true→t.sat Γ R Ψ bs r)∧(b.den R r=false→f.sat Γ R Ψ bs r)
 | .asrt b t,bs,r=>b.den R r=true∧t.sat Γ R Ψ bs r
 | .call g args t,bs,r=>match Γ[g]? with
  | some s=>s.pre (args.map (E.den R r))∧t.sat Γ R Ψ bs (r++s.sem (args.map (E.den R r)))
  | none=>False
 | .loop n ini t,bs,r=>∃ (I:List Int→Prop) (μ:List Int→Nat),I (ini.map (E.den R r)) ∧
   ∀ xs:List Int,xs.length=n→I xs→t.sat Γ R Ψ (bs++[fun ys=>I ys∧μ ys < μ xs]) (r++xs)
 | .back d es,bs,r=>match bs[d]? with
  | some p=>p (es.map (E.den R r))
  | none=>False
 | .both t f,bs,r=>t.sat Γ R Ψ bs r∧f.sat Γ R Ψ bs r
 | .any n g args t,bs,r=>match Γ[g]? with
  | some s=>s.pre (args.map (E.den R r))∧∀ ys:List Int,ys.length=n→Zcs Γ g (args.map (E.den R r)++ys)→t.sat Γ R Ψ bs (r++ys)
  | none=>False
 | .fail,_,_=>False
inductive Out where
 | norm
 | exit (id:Nat)
 | ret
abbrev Z80:=Out→St→T
def Zfm (s:St) (t:Tmp):Option B:=match s.fr.getD t Z5 with
 | .w (.o (.b x))=>some x
 | _=>none
def Zfn (t:Option Tmp) (s:St) (k:St→T):T:=match t with
 | none=>k s
 | some t=>match Zfm s t with
  | some (.c _)=>k s
  | some b=>.ite b (k (s.put (some t) (one (.b (.c true))))) (k (s.put (some t) (one (.b (.c false)))))
  | none=>k s
def Zor (ops:Array Oper) (o:Oper):Option Tmp:=match o.guard with
 | some (j,_)=>(ops[j]?).bind (·.dst)
 | none=>none
def Z88 (o:Oper):Option Tmp:=match o.op with
 | .pick (.tmp t) _ _=>some t
 | _=>none
def Zaf (ops:Array Oper) (s:St) (o:Oper):Option Bool:=match o.guard with
 | none=>some true
 | some (j,want)=>match (ops[j]?).bind (·.dst) with
  | some t=>if t < s.fr.length then (match s.fr.getD t Z5 with
   | .w (.o (.b (.c x)))=>some (x == want)
   | .t []=>some false
   | _=>none) else none
  | none=>none
def Z3m:List B→T→T
 | [],t=>t
 | .c true::l,t=>Z3m l t
 | b::l,t=>.asrt b (Z3m l t)
def Zba (ks:List K):Nat→List SC→Option (List E)
 | 0,_=>some []
 | n + 1,cs=>match Z2j ks (cs.take ks.length),Zba ks n (cs.drop ks.length) with
  | some es,some l=>some (Z2i es::l)
  | _,_=>none
def Zct (s:St) (ks:List K) (c:SC):Option (List B × E):=match c with
 | .go g=>match Z2v s g with
  | some (ks',c)=>if Z39 ks' ks || (!g.own && Z4d ks' ks) then some ([],c) else none
  | none=>none
 | .gv g size lo hi=>match Z2v s g with
  | some (ks',c)=>if Z39 ks' ks && decide (size=ks.length) then some (vB c lo hi,Zj7 (Z8u c hi) lo) else none
  | none=>none
 | .gz g=>if (Z2v s g).isSome then some ([],.nl) else none
 | .s n off len cap=>match s.mem[n]? with
  | some b=>if b.live && decide (off + len * ks.length≤b.cells.length) && decide (len≤cap) && decide (cap≤1000000) then
    (Zba ks len (b.cells.drop off)).map fun l=>([],Z6b l) else none
  | none=>none
 | .l (.slice none 0 0)=>some ([],.nl)
 | _=>none
def Zcu (s:St):List K→List SC→Option (List B × List E)
 | [],[]=>some ([],[])
 | .s _ ks::kr,c::cs=>match Zct s ks c,Zcu s kr cs with
  | some (aZ,e),some (bs,es)=>some (aZ++bs,e::es)
  | _,_=>none
 | k::kr,c::cs=>match Z2j [k] [c],Zcu s kr cs with
  | some [e],some (bs,es)=>some (bs,e::es)
  | _,_=>none
 | _,_=>none
def Zuc (st:St) (s:Sh) (v:SV):Option (List B × List E):=match v with
 | .w (.a cs)=>if s.agg then Zcu st s.ks cs else none
 | .w (.o c)=>if s.agg then none else Zcu st s.ks [c]
 | _=>none
def Zbq (st:St):List Sh→List SV→Option (List B × List E)
 | [],[]=>some ([],[])
 | s::ss,v::vs=>match Zuc st s v,Zbq st ss vs with
  | some (aZ,a),some (bs,b)=>some (aZ++bs,a++b)
  | _,_=>none
 | _,_=>none
def nS:List K→Nat
 | []=>0
 | .s _ _::ks=>nS ks + 1
 | _::ks=>nS ks
def Z3u:List Sh→List K
 | []=>[]
 | s::ss=>s.ks++Z3u ss
def Z1v:List K→List E→List Row
 | .s ty ks::kr,e::es=>⟨ty,ks,e,true⟩::Z1v kr es
 | _::kr,_::es=>Z1v kr es
 | _,_=>[]
def hsE:List K→List E→List (List K × E)
 | .s _ ks::kr,e::es=>(ks,e)::hsE kr es
 | _::kr,_::es=>hsE kr es
 | _,_=>[]
def shE (mk:Nat→SC) (i:Nat) (s:Sh) (es:List E):SW :=
 if s.agg then .a (Z2e mk i s.ks es) else match Z2e mk i s.ks es with
  | c::_=>.o c
  | []=>.o (.l undef)
def Zcv (mk:Nat→SC):Nat→List Sh→List E→List SW
 | _,[],_=>[]
 | i,s::ss,es=>shE mk i s (es.take s.ks.length)::Zcv mk (i + nS s.ks) ss (es.drop s.ks.length)
def Zjf (mk:Nat→SC) (i:Nat) (rs:List Sh) (es:List E):SV:=match Zcv mk i rs es with
 | [x]=>.w x
 | xs=>.t xs
def Zm9 (n:Nat):SC:=.go (.o n)
def Zos (n:Nat):SC:=.go (.a n)
def Zud (p q:Nat × List Int):Bool:=p.1 == q.1 && p.2 == q.2
def Zue (a b:List (Nat × List Int)):Bool:=a.all fun p=>b.any (Zud p)
def Z8 (nv n:Nat):List E:=(List.range n).map fun j=>.v (nv + j)
def Z89 (fn:FuncId):List Sum→Nat→Option (Nat × Sum)
 | [],_=>none
 | s::ss,g=>if s.fn=fn then some (g,s) else Z89 fn ss (g + 1)
def Z15e (P:Program) (s:St) (t:TypeId) (v:SV):Option SW:=match v with
 | .w (.o (.p n off))=>match s.mem[n]? with
  | some b=>if b.live then Zrm P t b.cells off else none
  | none=>none
 | _=>none
def Z6c (P:Program) (s:St):List ResultVar→Option (List SW)
 | []=>some []
 | .tmp t::l=>match s.fr.getD t Z5,Z6c P s l with
  | .w y,some ys=>some (y::ys)
  | _,_=>none
 | .cell a t::l=>match Z15e P s t (s.fr.getD a Z5),Z6c P s l with
  | some y,some ys=>some (y::ys)
  | _,_=>none
def Zcw (P:Program) (F:Func) (s:St):Option SV:=match Z6c P s F.results.toList with
 | some [y]=>some (.w y)
 | some ys=>some (.t ys)
 | none=>none
def Z13t (s s':St) (v:SV):St :=
 if v.scp s.mem.length s.rows.length && (s'.mem.take s.mem.length).all (fun b=>b.cells.all (SC.scp s.mem.length s.rows.length))
 then { s' with fr:=s.fr,mem:=s'.mem.take s.mem.length,rows:=s'.rows.take s.rows.length,fl:=s.fl,flr:=s.flr }
 else { s' with fr:=s.fr,fl:=s.fl,flr:=s.flr }
def Zze (P:Program):Nat→TypeId→Option (List K)
 | 0,_=>none
 | d + 1,t=>match P.underlying t with
  | some (.int k)=>some [.i k]
  | some .bool=>some [.b]
  | some (.struct fs)=>fs.toList.foldr (fun f acc=>match Zze P d f.type,acc with
   | some a,some b=>some (a++b)
   | _,_=>none) (some [])
  | some (.array n e)=>match Zze P d e with
   | some a=>some ((List.replicate n a).flatten)
   | none=>none
  | _=>none
def Z15f (s:St) (elem:TypeId) (ks:List K) (v:SV):Option (List B × E × List Row):=match v with
 | .w (.o (.l (.slice none 0 0)))=>some ([],.nl,s.rows)
 | .w (.o (.s _ _ 0 0))=>some ([],.nl,s.rows)
 | .w (.o (.gz g))=>if (Z2v s g).isSome then some ([],.nl,s.rows) else none
 | .w (.o (.go (.o n)))=>match s.rows[n]? with
  | some b=>if b.live && decide (s.flr≤n) && decide (b.ty=elem) && Z39 b.ks ks then some ([],b.c,s.rows.set n { b with live:=false }) else none
  | none=>none
 | .w (.o (.gv (.o n) size (.c 0) hi))=>match s.rows[n]? with
  | some b=>if b.live && decide (s.flr≤n) && decide (b.ty=elem) && Z39 b.ks ks && decide (size=ks.length) then some (vB b.c (.c 0) hi,Z8u b.c hi,s.rows.set n { b with live:=false }) else none
  | none=>none
 | _=>none
def appT (P:Program) (o:Oper) (c:Call) (s:St) (k:St→T):T :=
 match c.args.toList,c.argTypes.toList with
 | [a,x],[t,t']=>if t ≠ t' then .fail else
  match P.underlying t with
  | some (.slice elem)=>match P.info? elem,Zze P 8 elem with
   | some inf,some ks=>match inf.zero with
    | some z=>if inf.size=0 || z.cells.size ≠ inf.size || ks.length ≠ inf.size || decide (inf.bytes > 100000000) || !Z39 ks ks || !s.scp then .fail else
     match (match s.ev x with | .w (.o xc)=>Zct s ks xc | _=>none),Z15f s elem ks (s.ev a) with
     | some (aZ,xe),some (bs,be,rows) =>
      Z3m (aZ++bs++[Z5b (Zop (Zmb be xe)) (.c 1000000)]) (k (({ s with rows:=rows++[(⟨elem,ks,Zmb be xe,true⟩:Row)] }:St).put o.dst (one (.go (.o s.rows.length)))))
     | _,_=>.fail
    | none=>.fail
   | _,_=>.fail
  | _=>.fail
 | _,_=>.fail
def Zzp (P:Program) (o:Oper) (t:TypeId) (l c:Operand) (s:St) (k:St→T):T :=
 match P.underlying t,Zzd (s.ev l),Zzd (s.ev c) with
 | some (.slice elem),some e,some e'=>match P.info? elem,Zze P 8 elem,Z5w P elem with
  | some inf,some ks,some z=>if inf.size=0 || ks.length ≠ inf.size || decide (inf.bytes > 100000000) || !s.scp then .fail else
   match Z2j ks z with
   | some es=>Z3m [Z13s e e',Z5b (.c 0) e,Z5b e (.c 1000000)] (k (({ s with rows:=s.rows++[(⟨elem,ks,Zae e (Z2i es),true⟩:Row)] }:St).put o.dst (one (.go (.o s.rows.length)))))
   | none=>.fail
  | _,_,_=>.fail
 | _,_,_=>.fail
def Zjg:List SC→List SC→Bool
 | [],[]=>true
 | .i k (.c m)::xs,.i k' (.c m')::ys=>(k == k' && m == m') && Zjg xs ys
 | .b (.c m)::xs,.b (.c m')::ys=>m == m' && Zjg xs ys
 | _,_=>false
def bigZ (P:Program) (t:TypeId):Option (List K × Nat × List SC × List E):=match P.underlying t with
 | some (.array n elem)=>match Zze P 8 elem,Z5w P t with
  | some ks,some z=>match Z2j ks (z.take ks.length) with
   | some es=>if decide (64 < n) && decide (n≤1000000) && decide (ks.length ≠ 0) && Zjg (Z159 (z.take ks.length) n) z then some (ks,n,z,es) else none
   | none=>none
  | _,_=>none
 | _=>none
def Zuf (o:Oper) (t:TypeId) (ks:List K) (n:Nat) (es:List E) (s:St) (k:St→T):T :=
 if s.scp then k (({ s with rows:=s.rows++[(⟨t,ks,Zae (.c (n:Int)) (Z2i es),true⟩:Row)] }:St).put o.dst (one (.gp (.o s.rows.length) ks.length (.c 0) 0))) else .fail
def B.same:B→B→Bool
 | .c m,.c n=>m == n
 | .lt a b,.lt a' b'=>a.same a' && b.same b'
 | .le a b,.le a' b'=>a.same a' && b.same b'
 | .eq a b,.eq a' b'=>a.same a' && b.same b'
 | .nz a,.nz a'=>a.same a'
 | .not a,.not a'=>a.same a'
 | .and a b,.and a' b'=>a.same a' && b.same b'
 | .beq a b,.beq a' b'=>a.same a' && b.same b'
 | _,_=>false
def Zag:List (Nat × Nat)→List (Nat × Nat)→Bool
 | [],[]=>true
 | x::xs,y::ys=>(x.1 == y.1 && x.2 == y.2) && Zag xs ys
 | _,_=>false
def Z15g:Value→Value→Bool
 | .slice none 0 0,.slice none 0 0=>true
 | .pointer none,.pointer none=>true
 | .pointer (some ⟨a,b,none⟩),.pointer (some ⟨a',b',none⟩)=>a == a' && b == b'
 | _,_=>false
def SC.same:SC→SC→Bool
 | .i k e,.i k' e'=>k == k' && e.same e'
 | .b x,.b x'=>x.same x'
 | .p n off,.p n' off'=>n == n' && off == off'
 | .s n off len cap,.s n' off' len' cap'=>(n == n' && off == off') && (len == len' && cap == cap')
 | .go g,.go g'=>g.same g'
 | .gv g size lo hi,.gv g' size' lo' hi'=>(g.same g' && size == size') && (lo.same lo' && hi.same hi')
 | .gp g size ix j,.gp g' size' ix' j'=>(g.same g' && size == size') && (ix.same ix' && j == j')
 | .gz g,.gz g'=>g.same g'
 | .f fn cs,.f fn' cs'=>fn == fn' && Zag cs cs'
 | .l v,.l v'=>Z15g v v'
 | _,_=>false
def Zmg:List SC→List SC→Bool
 | [],[]=>true
 | x::xs,y::ys=>x.same y && Zmg xs ys
 | _,_=>false
def SW.same:SW→SW→Bool
 | .o c,.o c'=>c.same c'
 | .a cs,.a cs'=>Zmg cs cs'
 | _,_=>false
def Zrs:List SW→List SW→Bool
 | [],[]=>true
 | x::xs,y::ys=>x.same y && Zrs xs ys
 | _,_=>false
def SV.same:SV→SV→Bool
 | .w x,.w y=>x.same y
 | .t xs,.t ys=>Zrs xs ys
 | .un i,.un j=>i == j
 | _,_=>false
mutual
def K.eqv:K→K→Bool
 | .i x,.i y=>x == y
 | .b,.b=>true
 | .s t x,.s u y=>t == u && K.eqvL x y
 | _,_=>false
def K.eqvL:List K→List K→Bool
 | [],[]=>true
 | x::xs,y::ys=>K.eqv x y && K.eqvL xs ys
 | _,_=>false
end
def Zfx:List Blk→List Blk→Bool
 | [],[]=>true
 | x::xs,y::ys=>(x.ty == y.ty && (Zmg x.cells y.cells && x.live == y.live)) && Zfx xs ys
 | _,_=>false
def Zfy:List Row→List Row→Bool
 | [],[]=>true
 | x::xs,y::ys=>(x.ty == y.ty && (K.eqvL x.ks y.ks && (x.c.same y.c && x.live == y.live))) && Zfy xs ys
 | _,_=>false
def Zrt:List SV→List SV→Bool
 | [],[]=>true
 | x::xs,y::ys=>x.same y && Zrt xs ys
 | _,_=>false
def Zfz:List (List K × E)→List (List K × E)→Bool
 | [],[]=>true
 | x::xs,y::ys=>(K.eqvL x.1 y.1 && x.2.same y.2) && Zfz xs ys
 | _,_=>false
def Zg0:List (Nat × List Int)→List (Nat × List Int)→Bool
 | [],[]=>true
 | x::xs,y::ys=>Zud x y && Zg0 xs ys
 | _,_=>false
def St.same (a b:St):Bool:=(Zrt a.fr b.fr && (Zfx a.mem b.mem && Zfy a.rows b.rows)) && ((a.nv == b.nv && (a.nx == b.nx && (a.fl == b.fl && a.flr == b.flr))) && (Zg0 a.gl b.gl && (Zfz a.hs b.hs && a.dp == b.dp)))
def Zbb:List E→List E→Bool
 | [],[]=>true
 | x::xs,y::ys=>x.same y && Zbb xs ys
 | _,_=>false
def Z75:List (Nat × List E)→List (Nat × List E)→Bool
 | [],[]=>true
 | x::xs,y::ys=>(x.1 == y.1 && Zbb x.2 y.2) && Z75 xs ys
 | _,_=>false
section
variable (P:Program) (Γ:List Sum) (ih:Code→St→Z80→T)
def Z5e (fn:FuncId):Bool:=match P.funcs[fn]? with
 | some F=>F.body.isSome && F.name != "runtime.NumGoroutine"
 | none=>false
def Z15h (o:Oper) (c:Call) (s:St) (k:St→T):T :=
 match c.callee with
 | .value F=>match s.ev F with
  | .w (.o (.f fn caps)) =>
   let args:=c.args.toList.map s.ev++caps.map fun p=>one (.p p.1 p.2)
   if !s.sc || !Z5e P fn then .fail else
   match Z89 fn Γ 0 with
   | some (g,sum)=>if !Zue sum.gl s.gl then .fail else match sum.m with
    | some f=>if !(args.all (SV.sc s.nv s.mem.length s.rows.length s.nx)) then .fail else (match f s args with
     | some (aZ,es,kk)=>Z3m aZ (.call g es (k ((kk s.nv).1.put o.dst (kk s.nv).2)))
     | none=>.fail)
    | none=>match Zbq s sum.ps args with
    | some (aZ,es)=>Z3m aZ (.call g es (k ({ s with nv:=s.nv + Zg sum.rs,rows:=s.rows++Z1v (Z3u sum.rs) (Z8 s.nv (Zg sum.rs)) }.put o.dst (Zjf Zm9 s.rows.length sum.rs (Z8 s.nv (Zg sum.rs))))))
    | none=>.fail
   | none=>match P.funcs[fn]? with
    | some F=>match F.body with
     | some body =>
      ih body { s with fr:=args++List.replicate (F.ntmps - args.length) Z5 } fun out s'=>match out with
       | .exit _=>.fail
       | _=>match Zcw P F s' with
        | some v=>k ((Z13t s s' v).put o.dst v)
        | none=>.fail
     | none=>.fail
    | none=>.fail
  | _=>.fail
 | .builtin .append=>appT P o c s k
 | .builtin _=>match op1 P s o with
  | some (aZ,v,s')=>Z3m aZ (k (s'.put o.dst v))
  | none=>.fail
 | .invoke _ _=>.fail
def opT (o:Oper) (s:St) (k:St→T):T :=
 match o.op with
 | .call c=>Z15h P Γ ih o c s k
 | .makeSlice t l c=>Zzp P o t l c s k
 | .alloc t=>(match bigZ P t with
  | some (ks,n,_,es)=>Zuf o t ks n es s k
  | none=>match op1 P s o with
   | some (aZ,v,s')=>Z3m aZ (k (s'.put o.dst v))
   | none=>.fail)
 | _=>match op1 P s o with
  | some (aZ,v,s')=>Z3m aZ (k (s'.put o.dst v))
  | none=>.fail
def Z3g (ops:Array Oper):List Oper→St→(St→T)→T
 | [],s,k=>k s
 | o::l,s,k=>Zfn (Zor ops o) s fun s1 =>
  match Zaf ops s1 o with
  | some true=>Zfn (Z88 o) s1 fun s2=>opT P Γ ih o s2 fun s3=>Z3g ops l s3 k
  | some false=>Z3g ops l (s1.put o.dst Z5) k
  | none=>.fail
def Zjh (g:B):B→Bool
 | .and a b=>B.same (.and a b) g || (Zjh g a || Zjh g b)
 | w=>B.same w g
def Zcx (w:B):B→Bool
 | .c true=>true
 | .and a b=>Zcx w a && Zcx w b
 | g=>Zjh g w
abbrev Zbv:=List (Nat × B × SW)
def Z3z:Zbv→Nat→Option (B × SW)
 | [],_=>none
 | (t,g,x)::l,u=>if t=u then some (g,x) else Z3z l u
def Z3a (s:St) (pend:Zbv) (w:B):St:=match pend with
 | []=>s
 | pend=>{ s with fr:=pend.foldr (fun p fr=>fr.set p.1 (if Zcx w p.2.1 then .w p.2.2 else Z5)) s.fr }
def litB (c:B) (x:Bool):B:=if x then c else Z4f c
def Z15i (ops:Array Oper) (s:St) (pend:Zbv) (o:Oper):Option B:=match o.guard with
 | none=>some (.c true)
 | some (j,want)=>match (ops[j]?).bind (·.dst) with
  | some t=>(match Z3z pend t with
   | some (g,.o (.b c))=>some (Z7z g (litB c want))
   | some _=>none
   | none=>match s.fr.getD t Z5 with
    | .w (.o (.b c))=>some (litB c want)
    | _=>none)
  | none=>none
def Z15j (c x y:B):B:=match x,y with
 | .c true,y=>Z4f (Z7z (Z4f c) (Z4f y))
 | x,.c false=>Z7z c x
 | x,y=>Z4f (Z7z (Z4f (Z7z c x)) (Z4f (Z7z (Z4f c) y)))
def Zcy (o:Oper):Bool:=match o.op with
 | .move _ | .assign _ | .load _ _ | .nilCheck _ | .binOp _ _ _ _ _ | .unOp _ _ _ | .convert _ _ _ | .fieldAddr _ _ _ | .field _ _ _ | .indexAddr _ _ _ | .index _ _ _ | .extract _ _ | .pick _ _ _=>true
 | .call c=>(match c.callee with
  | .builtin .len | .builtin .min | .builtin .max=>true
  | _=>false)
 | _=>false
def Z13u (pend:Zbv) (w:B):Operand→Bool
 | .tmp t=>match Z3z pend t with
  | some (g,_)=>Zcx w g
  | none=>true
 | _=>true
def valW (P:Program) (s:St) (pend:Zbv) (w:B) (o:Oper):Option (List B × SW):=match o.op with
 | .pick c a b=>match (Z3a s pend w).ev c with
  | .w (.o (.b (.c true)))=>(match (Z3a s pend w).ev a with | .w x=>some ([],x) | _=>none)
  | .w (.o (.b (.c false)))=>(match (Z3a s pend w).ev b with | .w x=>some ([],x) | _=>none)
  | .w (.o (.b cb))=>(match (Z3a s pend (Z7z w cb)).ev a,(Z3a s pend (Z7z w (Z4f cb))).ev b with
   | .w (.o (.b x)),.w (.o (.b y))=>some ([],.o (.b (Z15j cb x y)))
   | _,_=>none)
  | _=>none
 | _=>if o.op.operands.toList.all (Z13u pend w) then (match op1 P (Z3a s pend w) o with
  | some (aZ,.w x,_)=>some (aZ,x)
  | _=>none) else none
def Zji (w:B) (aZ:List B):List B:=match w with
 | .c true=>aZ
 | w=>aZ.map fun b=>Z4f (Z7z w (Z4f b))
def Z40 (P:Program) (ops:Array Oper):List Oper→St→Zbv→Option (List B × St × Zbv)
 | [],s,pend=>some ([],s,pend)
 | o::l,s,pend=>match o.dst,Z15i ops s pend o with
  | some d,some w =>
   if !Zcy o || (Z3z pend d).isSome || decide (s.fr.length≤d) then none else
   match w with
   | .c false=>Z40 P ops l (s.put (some d) Z5) pend
   | w=>match valW P s pend w o with
    | some (aZ,x)=>match (match w with
      | .c true=>Z40 P ops l (s.put (some d) (.w x)) pend
      | w=>Z40 P ops l s ((d,w,x)::pend)) with
     | some (bs,s',pend')=>some (Zji w aZ++bs,s',pend')
     | none=>none
    | none=>none
  | _,_=>none
def Z8a:Zbv→St→St
 | [],s=>s
 | p::l,s=>Z8a l { s with fr:=s.fr.set p.1 (.un s.nx),nx:=s.nx + 1 }
def unOK (n:Nat):SV→Bool
 | .un i=>decide (i < n)
 | _=>true
def Z15k (P:Program) (ops:Array Oper) (s:St) (k:St→T) (alt:T):T :=
 if ops.any (fun o=>o.guard.isSome) && ops.all Zcy then match Z40 P ops ops.toList s [] with
  | some (aZ,s',pend)=>if s'.fr.all (unOK s'.nx) then Z3m aZ (k (Z8a pend s')) else alt
  | none=>alt
 else alt
def Zmh (o:Oper):List Nat:=(o.after.toList.filter (Region.binds .any)).map (·.on)
def Z13v (ms:List Nat) (o:Oper):Nat:=(Zmh o).foldl (fun m j=>(m ||| ms.getD j 0) ||| (1 <<< j)) 0
def Zh5:List Oper→List Nat→List Nat
 | [],ms=>ms
 | o::l,ms=>Zh5 l (ms++[Z13v ms o])
def Zfo (ops:Array Oper):List Nat:=Zh5 ops.toList []
def behind (ms:List Nat) (k i:Nat):Bool:=(ms.getD k 0).testBit i
def forced (ms:List Nat) (i:Nat):Bool:=(List.range i).all fun j=>behind ms i j
def Zmi (ms:List Nat):Nat→List Oper→Nat
 | _,[]=>0
 | i,_::l=>let r:=Zmi ms (i + 1) l; if r=l.length && forced ms i then r + 1 else r
def Z13w (ops:Array Oper) (ms:List Nat) (N:Nat):Bool :=
  Region.noSelect ops &&
  (List.range ops.size).all fun j=>match ops[j]? with
    | none=>false
    | some oj=>(Zmh oj).all (fun i=>decide (i < j)) &&
      (if j < N then (List.range j).all (fun i=>match ops[i]? with
        | none=>false
        | some oi=>(oi.dst.isNone || oi.dst != oj.dst) && (behind ms j i || oi.apart ops oj))
      else forced ms j)
def Z15l (o:Oper):Bool:=match o.op with
 | .store _ _ _=>true
 | _=>false
def Z76:List Oper→Nat
 | []=>0
 | o::l=>if Z15l o then 0 else Z76 l + 1
def Zo (ops:Array Oper) (n t:Nat):Option Nat:=(List.range n).find? fun i=>decide ((ops[i]?).bind (·.dst)=some t)
def Zjj (ops:Array Oper) (s:St) (N1:Nat):Nat→Nat→Option Nat
 | 0,_=>none
 | f + 1,t=>match Zo ops N1 t with
  | none=>(match s.fr.getD t Z5 with
   | .w (.o (.p n _))=>some n
   | _=>none)
  | some i=>(match ops[i]? with
   | some o=>(match o.op with
    | .fieldAddr _ (.tmp u) _=>Zjj ops s N1 f u
    | .indexAddr _ (.tmp u) _=>Zjj ops s N1 f u
    | .nilCheck (.tmp u)=>Zjj ops s N1 f u
    | .move (.tmp u)=>Zjj ops s N1 f u
    | _=>none)
   | none=>none)
def Zcz (ops:Array Oper) (s:St) (N1:Nat):List Oper→List Nat
 | []=>[]
 | o::l=>match o.op with
  | .store _ (.tmp ta) _=>(match Zjj ops s N1 8 ta with
   | some n=>n::Zcz ops s N1 l
   | none=>Zcz ops s N1 l)
  | _=>Zcz ops s N1 l
def Z77 (ms:List Nat) (N1 N i:Nat):Bool:=(List.range N).all fun k=>decide (k < N1) || behind ms k i
def Z15m (to frm s:St):St:={ s with mem:=to.mem++s.mem.drop frm.mem.length }
def Zd0 (D:List Nat):Nat→List Blk→List Blk
 | _,[]=>[]
 | n,b::l=>(if D.contains n then { b with live:=false } else b)::Zd0 D (n + 1) l
def Z8y (P:Program) (X:List Nat) (m0 g0:Nat) (o:Oper) (s:St):Option St:=match o.op with
 | .store t (.tmp ta) x=>match s.fr.getD ta Z5,s.ev x with
  | .w (.o (.p n off)),.w y=>match s.mem[n]? with
   | some b =>
    if o.guard.isNone && o.dst.isNone && (decide (m0≤n) || X.contains n) && b.live && (P.info? t).isSome && decide (s.fl≤n) && decide (y.cells.length=P.cellsOf t) &&
      decide (off + y.cells.length≤b.cells.length) && y.cells.all SC.one && y.scp m0 g0 then
     some { s with mem:=s.mem.set n { b with cells:=Z61 b.cells off y.cells } }
    else none
   | none=>none
  | _,_=>none
 | .assign x=>match o.dst with
  | some _=>if o.guard.isNone && (s.ev x).scp m0 g0 then some s else none
  | none=>none
 | _=>none
def Zug (ops:Array Oper) (l:List Oper):Bool:=l.all fun o=>l.all fun o'=>match o'.dst with
 | some d=>!(o.looksAt ops).contains d
 | none=>true
def Z41 (s3:St):List Oper→List SV→List SV
 | [],fr=>fr
 | o::l,fr=>match o.op,o.dst with
  | .assign x,some d=>Z41 s3 l (fr.set d (s3.ev x))
  | _,_=>Z41 s3 l fr
def Zuh (P:Program) (X:List Nat) (m0 g0:Nat):List Oper→St→Option St
 | [],s=>some s
 | o::l,s=>match Z8y P X m0 g0 o s with
  | some s'=>Zuh P X m0 g0 l s'
  | none=>none
def Zui (s:St) (n:Nat):Bool:=match s.mem[n]? with
 | some b=>b.live
 | none=>false
def Zuj:T→(List E→T)→T
 | .ret es,k=>k es
 | .ite b t f,k=>.ite b (Zuj t k) (Zuj f k)
 | .asrt b t,k=>.asrt b (Zuj t k)
 | _,_=>.fail
def Zot (s:St):List SC→(List E→T)→T
 | [],k=>k []
 | .i _ e::cs,k=>Zot s cs fun es=>k (e::es)
 | .b (.c x)::cs,k=>Zot s cs fun es=>k (.c (if x then 1 else 0)::es)
 | .b x::cs,k=>.ite x (Zot s cs fun es=>k (.c 1::es)) (Zot s cs fun es=>k (.c 0::es))
 | .go g::cs,k=>(match Z2v s g with
  | some (_,c)=>Zot s cs fun es=>k (c::es)
  | none=>.fail)
 | .gz _::cs,k=>Zot s cs fun es=>k (.nl::es)
 | .l (.slice none 0 0)::cs,k=>Zot s cs fun es=>k (.nl::es)
 | _,_=>.fail
def Z1c (s:St):List K→List SC→Bool
 | [],[]=>true
 | .i k::ks,.i k' _::cs=>k == k' && Z1c s ks cs
 | .b::ks,.b _::cs=>Z1c s ks cs
 | .s ty kr::ks,.go (.o n)::cs=>(match s.rows[n]? with
  | some b=>b.live && decide (s.flr≤n) && decide (b.ty=ty) && Z39 b.ks kr
  | none=>false) && Z1c s ks cs
 | .s _ _::ks,.gz g::cs=>(Z2v s g).isSome && Z1c s ks cs
 | .s _ _::ks,.l (.slice none 0 0)::cs=>Z1c s ks cs
 | _,_=>false
def Z15n (st:St) (s:Sh):SW→Bool
 | .o c=>!s.agg && Z1c st s.ks [c]
 | .a cs=>s.agg && Z1c st s.ks cs
def Z6d (st:St):List Sh→List SW→Bool
 | [],[]=>true
 | s::ss,w::ws=>Z15n st s w && Z6d st ss ws
 | _,_=>false
def Z6e:List SW→List SC
 | []=>[]
 | .o c::l=>c::Z6e l
 | .a cs::l=>cs++Z6e l
def Z25:List SC→List Nat
 | []=>[]
 | .go (.o n)::l=>n::Z25 l
 | _::l=>Z25 l
def Zbc:List Nat→Bool
 | []=>true
 | x::l=>!l.contains x && Zbc l
def retW (s:St) (rs:List Sh) (v:SV):T:=match v with
 | .w x=>if Z6d s rs [x] && Zbc (Z25 (Z6e [x])) then Zot s (Z6e [x]) .ret else .fail
 | .t xs=>if Z6d s rs xs && xs.length != 1 && Zbc (Z25 (Z6e xs)) then Zot s (Z6e xs) .ret else .fail
 | .un _=>.fail
def Zjk (P:Program) (F:Func) (rs:List Sh):Z80:=fun out s'=>match out with
 | .exit _=>.fail
 | _=>match Zcw P F s' with
  | some v=>retW s' rs v
  | none=>.fail
def shOf (P:Program) (t:TypeId):Option Sh:=(Zze P 8 t).map fun ks=>⟨Z60 P t,ks⟩
def shsOf (P:Program):List TypeId→Option (List Sh)
 | []=>some []
 | t::l=>match shOf P t,shsOf P l with
  | some a,some b=>some (a::b)
  | _,_=>none
def Zbd (nb ng:Nat) (l:List SV):List SV:=l.map fun v=>if v.scp nb ng then v else Z5
def preT (s0:St) (o:Oper) (s:St) (k:St→T):T :=
 let sr:St:={ s with fr:=Zbd s0.mem.length s0.rows.length s.fr,mem:=s0.mem,rows:=s0.rows,fl:=s0.mem.length,flr:=s0.rows.length }
 if !(o.op.operands.toList.all fun x=>(s.ev x).scp s0.mem.length s0.rows.length) then .fail else
 match o.op with
 | .call c=>match c.callee with
  | .value F=>match s.ev F with
   | .w (.o (.f fn caps)) =>
    let args:=c.args.toList.map s.ev++caps.map fun p=>one (.p p.1 p.2)
    if !(args.all (SV.sc s.nv s0.mem.length s0.rows.length s.nx)) || !Z5e P fn then .fail else
    match Z89 fn Γ 0 with
    | some (g,sum)=>if !s.sc || !Zue sum.gl s.gl || decide (nS (Z3u sum.rs) ≠ 0) || sum.m.isSome then .fail else match Zbq sr sum.ps args with
     | some (aZ,es)=>Z3m aZ (.call g es (k ({ s with nv:=s.nv + Zg sum.rs }.put o.dst (Zjf Zm9 0 sum.rs (Z8 s.nv (Zg sum.rs))))))
     | none=>.fail
    | none=>match P.funcs[fn]? with
     | some F=>match F.body,shsOf P F.resultTypes.toList with
      | some body,some rs =>
       Zuj (ih body { sr with fr:=args++List.replicate (F.ntmps - args.length) Z5 } (Zjk P F rs)) fun es =>
        if es.all (E.sc s.nv) && decide (nS (Z3u rs)=0) then k (s.put o.dst (Zjf Zm9 0 rs es)) else .fail
      | _,_=>.fail
     | none=>.fail
   | _=>.fail
  | .builtin .append=>.fail
  | .builtin _=>match op1 P sr o with
   | some (aZ,v,_)=>if v.scp s0.mem.length s0.rows.length then Z3m aZ (k (s.put o.dst v)) else .fail
   | none=>.fail
  | .invoke _ _=>.fail
 | .store _ _ _=>.fail
 | _=>match op1 P sr o with
  | some (aZ,v,s')=>Z3m aZ (match s'.mem.drop s0.mem.length with
   | []=>if v.scp s0.mem.length s0.rows.length then k (s.put o.dst v) else .fail
   | [b]=>if b.live && b.cells.all (SC.scp s0.mem.length s0.rows.length) then (match v with
    | .w (.o (.p n 0))=>if n=s0.mem.length then k ({ s with mem:=s.mem++[b] }.put o.dst (one (.p s.mem.length 0))) else .fail
    | .w (.o (.s n 0 len cap))=>if n=s0.mem.length then k ({ s with mem:=s.mem++[b] }.put o.dst (one (.s s.mem.length 0 len cap))) else .fail
    | _=>.fail) else .fail
   | _=>.fail)
  | none=>.fail
def Z8b (ops:Array Oper) (sf s0:St) (sg:Nat→Bool):Nat→List Oper→St→(St→T)→T
 | _,[],s,k=>k s
 | i,o::l,s,k=>Zfn (Zor ops o) s fun s1 =>
  match Zaf ops s1 o with
  | some true=>Zfn (Z88 o) s1 fun s2 =>
   if sg i then preT P Γ ih sf o (Z15m sf s0 s2) fun s3=>Z8b ops sf s0 sg (i + 1) l (Z15m s0 sf s3) k
   else preT P Γ ih s0 o s2 fun s3=>Z8b ops sf s0 sg (i + 1) l s3 k
  | some false=>Z8b ops sf s0 sg (i + 1) l (s1.put o.dst Z5) k
  | none=>.fail
def Zjl:List T→T
 | []=>.fail
 | [t]=>t
 | t::l=>.both t (Zjl l)
def Zah (ops:Array Oper):Nat→Array Bool→St→(St→T)→T
 | 0,listed,s,k=>if (Region.ready .any ops listed).isEmpty then k s else .fail
 | f + 1,listed,s,k=>match Region.ready .any ops listed with
  | []=>k s
  | l=>Zjl (l.map fun j=>match ops[j]? with
   | some o=>Z3g P Γ ih ops [o] s fun s'=>Zah ops f (listed.setIfInBounds j true) s' k
   | none=>.fail)
def isT:B→Bool
 | .c true=>true
 | _=>false
def Z3b:List (Nat × List E)→T→T
 | [],t=>t
 | c::l,t=>.call c.1 c.2 (Z3b l t)
def rawS (o:Oper) (s:St):Option (Option (Nat × List E) × St):=match o.op with
 | .call c=>(match c.callee with
  | .value F=>(match s.ev F with
   | .w (.o (.f fn caps))=>if !s.sc || !Z5e P fn then none else
    (match Z89 fn Γ 0 with
    | some (g,sum)=>if !Zue sum.gl s.gl then none else (match sum.m with
     | some f=>if !((c.args.toList.map s.ev++caps.map fun p=>one (.p p.1 p.2)).all (SV.sc s.nv s.mem.length s.rows.length s.nx)) then none else (match f s (c.args.toList.map s.ev++caps.map fun p=>one (.p p.1 p.2)) with
      | some (aZ,es,kk)=>if aZ.all isT then some (some (g,es),(kk s.nv).1.put o.dst (kk s.nv).2) else none
      | none=>none)
     | none=>(match Zbq s sum.ps (c.args.toList.map s.ev++caps.map fun p=>one (.p p.1 p.2)) with
      | some (aZ,es)=>if aZ.all isT then some (some (g,es),{ s with nv:=s.nv + Zg sum.rs,rows:=s.rows++Z1v (Z3u sum.rs) (Z8 s.nv (Zg sum.rs)) }.put o.dst (Zjf Zm9 s.rows.length sum.rs (Z8 s.nv (Zg sum.rs)))) else none
      | none=>none))
    | none=>none)
   | _=>none)
  | .builtin .append=>none
  | .builtin _=>(match op1 P s o with
   | some (aZ,v,s')=>if aZ.all isT then some (none,s'.put o.dst v) else none
   | none=>none)
  | .invoke _ _=>none)
 | .makeSlice t l c=>(match P.underlying t,Zzd (s.ev l),Zzd (s.ev c) with
  | some (.slice elem),some e,some e'=>(match P.info? elem,Zze P 8 elem,Z5w P elem with
   | some inf,some ks,some z=>if inf.size=0 || ks.length ≠ inf.size || decide (inf.bytes > 100000000) || !s.scp then none else
    (match Z2j ks z with
    | some es=>if [Z13s e e',Z5b (.c 0) e,Z5b e (.c 1000000)].all isT then some (none,({ s with rows:=s.rows++[(⟨elem,ks,Zae e (Z2i es),true⟩:Row)] }:St).put o.dst (one (.go (.o s.rows.length)))) else none
    | none=>none)
   | _,_,_=>none)
  | _,_,_=>none)
 | .alloc t=>if (bigZ P t).isSome then none else (match op1 P s o with
  | some (aZ,v,s')=>if aZ.all isT then some (none,s'.put o.dst v) else none
  | none=>none)
 | _=>(match op1 P s o with
  | some (aZ,v,s')=>if aZ.all isT then some (none,s'.put o.dst v) else none
  | none=>none)
abbrev Zmj:=List (Nat × List E) × St
def Zmj.same (a b:Zmj):Bool:=Z75 a.1 b.1 && a.2.same b.2
abbrev Zru:=List (Array Bool × Zmj)
def Zjm:List Bool→List Bool→Bool
 | [],[]=>true
 | true::l,true::m=>Zjm l m
 | false::l,false::m=>Zjm l m
 | _,_=>false
def Zzq (x:Array Bool × Zmj) (l:Zru):Zru:=if l.any (fun y=>Zjm x.1.toList y.1.toList && Zmj.same x.2 y.2) then l else x::l
def Zuk (ops:Array Oper) (li:Array Bool) (c:List (Nat × List E)) (s:St):List Nat→Zru→Option Zru
 | [],acc=>some acc
 | j::l,acc=>match ops[j]? with
  | some o=>if o.guard.isSome || (Z88 o).isSome then none else (match rawS P Γ o s with
   | some (d,s1)=>Zuk ops li c s l (Zzq (li.setIfInBounds j true,(c++d.toList,s1)) acc)
   | none=>none)
  | none=>none
def Zul (ops:Array Oper):Zru→Zru→Option Zru
 | [],acc=>some acc
 | x::l,acc=>match Region.ready .any ops x.1 with
  | []=>none
  | q=>match Zuk P Γ ops x.1 x.2.1 x.2.2 q acc with
   | some acc'=>Zul ops l acc'
   | none=>none
def Zjn (ops:Array Oper):Nat→Zru→Option (List Zmj)
 | 0,fr=>if fr.all fun x=>(Region.ready .any ops x.1).isEmpty then some (fr.map (·.2)) else none
 | f + 1,fr=>if fr.all fun x=>(Region.ready .any ops x.1).isEmpty then some (fr.map (·.2)) else match Zul P Γ ops fr [] with
  | some fr'=>Zjn ops f fr'
  | none=>none
def isSl (P:Program) (t:TypeId):Bool:=match P.underlying t with
 | some (.slice _)=>true
 | some (.struct fs)=>fs.toList.any fun f=>match P.underlying f.type with
  | some (.slice _)=>true
  | _=>false
 | _=>false
def brings (s:St) (o:Oper):Bool:=match o.op with
 | .makeSlice _ l _=>(match s.ev l with
  | .w (.o (.i _ (.c n)))=>decide (64 < n)
  | _=>true)
 | .call c=>(match c.callee with
  | .value F=>(match s.ev F with
   | .w (.o (.f fn _))=>(match P.funcs[fn]? with
    | some F=>F.resultTypes.toList.any (isSl P)
    | none=>false)
   | _=>false)
  | _=>false)
 | _=>false
def Zh6 (ops:Array Oper) (s:St) (k:St→T):T :=
 let ms:=Zfo ops
 let N:=ops.size - Zmi ms 0 ops.toList
 if (ops.toList.take N).any (brings P s) || nests ops then (match Zjn P Γ ops ops.size [(Array.replicate ops.size false,([],s))] with
  | some L=>Zjl (L.map fun x=>Z3b x.1 (k x.2))
  | none=>Zah P Γ ih ops ops.size (Array.replicate ops.size false) s k) else
 let N1:=Z76 (ops.toList.take N)
 if Z13w ops ms N && s.sc && (ops.all fun o=>match o.dst with | some d=>decide (d < s.fr.length) | none=>true) then
  let X:=Zcz ops s N1 ((ops.toList.take N).drop N1)
  let s0:St:={ s with mem:=Zd0 X 0 s.mem }
  if X.all (fun n=>decide (s.fl≤n) && Zui s n) && (List.range N).all (fun i=>decide (i≤N1) || (List.range i).all fun j=>decide (j < N1) || behind ms i j) && Zug ops ((ops.toList.take N).drop N1) then
   Z8b P Γ ih ops s s0 (Z77 ms N1 N) 0 (ops.toList.take N1) s0 fun s' =>
    match Zuh P X s.mem.length s.rows.length ((ops.toList.take N).drop N1) { s' with mem:=s.mem++s'.mem.drop s.mem.length } with
    | some s3=>Z3g P Γ ih ops (ops.toList.drop N) { s3 with fr:=Z41 s3 ((ops.toList.take N).drop N1) s3.fr } k
    | none=>.fail
  else .fail
 else .fail
end
inductive Ck where
 | keep
 | num (k:K)
 | row (ty:TypeId) (ks:List K)
 | arr (ty:TypeId) (ks:List K)
inductive Sk where
 | keep
 | un
 | cells (l:List Ck)
structure Zai where
 fr:List Sk
 mem:List (List Ck)
def nvC:List Ck→Nat
 | []=>0
 | .keep::l=>nvC l
 | _::l=>nvC l + 1
def ngC:List Ck→Nat
 | []=>0
 | .row _ _::l=>ngC l + 1
 | .arr _ _::l=>ngC l + 1
 | _::l=>ngC l
def Zmk:List Ck→List SC→Nat→Nat→List SC
 | .keep::l,c::cs,nv,ng=>c::Zmk l cs nv ng
 | .num (.i k)::l,_::cs,nv,ng=>.i k (.v nv)::Zmk l cs (nv + 1) ng
 | .num _::l,_::cs,nv,ng=>.b (.nz (.v nv))::Zmk l cs (nv + 1) ng
 | .row _ _::l,_::cs,nv,ng=>.go (.o ng)::Zmk l cs (nv + 1) (ng + 1)
 | .arr _ ks::l,_::cs,nv,ng=>.gp (.o ng) ks.length (.c 0) 0::Zmk l cs (nv + 1) (ng + 1)
 | _,_,_,_=>[]
def Zfp:List Ck→Nat→List Row
 | [],_=>[]
 | .keep::l,nv=>Zfp l nv
 | .num _::l,nv=>Zfp l (nv + 1)
 | .row ty ks::l,nv=>⟨ty,ks,.v nv,true⟩::Zfp l (nv + 1)
 | .arr ty ks::l,nv=>⟨ty,ks,.v nv,true⟩::Zfp l (nv + 1)
def rowM (s:St) (ty:TypeId) (ks:List K) (c:SC):Option (List B × E × List Nat):=match c with
 | .l (.slice none 0 0)=>some ([],.nl,[])
 | .gz g=>if (Z2v s g).isSome then some ([],.nl,[]) else none
 | .go (.o n)=>match s.rows[n]? with
  | some b=>if b.live && decide (s.flr≤n) && decide (b.ty=ty) && Z39 b.ks ks then some ([],b.c,[n]) else none
  | none=>none
 | .gv (.o n) size (.c 0) hi=>match s.rows[n]? with
  | some b=>if b.live && decide (s.flr≤n) && decide (b.ty=ty) && Z39 b.ks ks && decide (size=ks.length) then some (vB b.c (.c 0) hi,Z8u b.c hi,[n]) else none
  | none=>none
 | _=>none
def arrM (s:St) (ty:TypeId) (ks:List K) (c:SC):Option (E × Nat):=match c with
 | .gp (.o n) size (.c 0) 0=>match s.rows[n]? with
  | some b=>if b.live && decide (s.flr≤n) && decide (b.ty=ty) && Z39 b.ks ks && decide (size=ks.length) then some (b.c,n) else none
  | none=>none
 | _=>none
def Z2a (s:St):List Ck→List SC→List SC→Option (List B × List E × List Nat)
 | [],[],[]=>some ([],[],[])
 | .keep::l,c::cs,x::xs=>if c.same x then Z2a s l cs xs else none
 | .num k::l,_::cs,x::xs=>match Z2j [k] [x],Z2a s l cs xs with
  | some [e],some (aZ,es,us)=>some (aZ,e::es,us)
  | _,_=>none
 | .row ty ks::l,_::cs,x::xs=>match rowM s ty ks x,Z2a s l cs xs with
  | some (aZ,e,u),some (bs,es,us)=>some (aZ++bs,e::es,u++us)
  | _,_=>none
 | .arr ty ks::l,_::cs,x::xs=>match arrM s ty ks x,Z2a s l cs xs with
  | some (e,u),some (bs,es,us)=>some (bs,e::es,[u]++us)
  | _,_=>none
 | _,_,_=>none
def nvS:List Sk→Nat
 | []=>0
 | .cells l::r=>nvC l + nvS r
 | _::r=>nvS r
def ngS:List Sk→Nat
 | []=>0
 | .cells l::r=>ngC l + ngS r
 | _::r=>ngS r
def nxS:List Sk→Nat
 | []=>0
 | .un::r=>nxS r + 1
 | _::r=>nxS r
def genV (l:List Ck) (v:SV) (nv ng:Nat):SV:=match v with
 | .w (.o c)=>(match Zmk l [c] nv ng with
  | c'::_=>one c'
  | []=>Z5)
 | .w (.a cs)=>.w (.a (Zmk l cs nv ng))
 | v=>v
def Zzr:List Sk→List SV→Nat→Nat→Nat→List SV
 | .keep::l,v::vs,nv,ng,nx=>v::Zzr l vs nv ng nx
 | .un::l,_::vs,nv,ng,nx=>.un nx::Zzr l vs nv ng (nx + 1)
 | .cells p::l,v::vs,nv,ng,nx=>genV p v nv ng::Zzr l vs (nv + nvC p) (ng + ngC p) nx
 | _,_,_,_,_=>[]
def Zjo:List Sk→Nat→List Row
 | [],_=>[]
 | .cells p::l,nv=>Zfp p nv++Zjo l (nv + nvC p)
 | _::l,nv=>Zjo l nv
def Zou (s:St) (l:List Ck) (v x:SV):Option (List B × List E × List Nat):=match v,x with
 | .w (.o c),.w (.o d)=>Z2a s l [c] [d]
 | .w (.a cs),.w (.a ds)=>Z2a s l cs ds
 | _,_=>none
def Z2l (s:St):List Sk→List SV→List SV→Option (List B × List E × List Nat)
 | [],[],[]=>some ([],[],[])
 | .keep::l,v::vs,x::xs=>if v.same x then Z2l s l vs xs else none
 | .un::l,_::vs,_::xs=>Z2l s l vs xs
 | .cells p::l,v::vs,x::xs=>match Zou s p v x,Z2l s l vs xs with
  | some (aZ,es,us),some (bs,fs,ts)=>some (aZ++bs,es++fs,us++ts)
  | _,_=>none
 | _,_,_=>none
def nvM:List (List Ck)→Nat
 | []=>0
 | p::l=>nvC p + nvM l
def Zzs:List (List Ck)→List Blk→Nat→Nat→List Blk
 | p::l,b::bs,nv,ng=>{ b with cells:=Zmk p b.cells nv ng }::Zzs l bs (nv + nvC p) (ng + ngC p)
 | _,_,_,_=>[]
def Zml:List (List Ck)→Nat→List Row
 | [],_=>[]
 | p::l,nv=>Zfp p nv++Zml l (nv + nvC p)
def Z4s (s:St):List (List Ck)→List Blk→List Blk→Option (List B × List E × List Nat)
 | [],[],_=>some ([],[],[])
 | p::l,b::bs,x::xs=>if b.live && x.live && decide (b.ty=x.ty) then (match Z2a s p b.cells x.cells,Z4s s l bs xs with
  | some (aZ,es,us),some (cs,fs,ts)=>some (aZ++cs,es++fs,us++ts)
  | _,_=>none) else none
 | _,_,_=>none
def Zrv (us:List Nat):Nat→List Row→List Row→Bool
 | _,[],_=>true
 | n,b::bs,x::xs=>(!b.live || (x.live && decide (b.ty=x.ty) && Z39 b.ks x.ks && b.c.same x.c && !us.contains n)) && Zrv us (n + 1) bs xs
 | _,_::_,[]=>false
def Z64 (us:List Nat):Nat→List Row→List Row
 | _,[]=>[]
 | n,b::bs=>(if us.contains n then { b with live:=false } else b)::Z64 us (n + 1) bs
def Zov (pl:Zai) (s:St) (rows:List Row) (x:St):Option (List B × List E × List Nat):=match Z2l x pl.fr s.fr x.fr,Z4s x pl.mem s.mem x.mem with
 | some (aZ,es,us),some (bs,fs,ts)=>if Zbc (us++ts) && Zrv (us++ts) 0 rows x.rows then some (aZ++bs,es++fs,us++ts) else none
 | _,_=>none
def Z15o (pl:Zai) (s:St) (us:List Nat):St :=
 { s with
  fr:=Zzr pl.fr s.fr s.nv s.rows.length s.nx
  mem:=Zzs pl.mem s.mem (s.nv + nvS pl.fr) (s.rows.length + ngS pl.fr)
  rows:=Z64 us 0 s.rows++(Zjo pl.fr s.nv++Zml pl.mem (s.nv + nvS pl.fr))
  nv:=s.nv + (nvS pl.fr + nvM pl.mem)
  nx:=s.nx + nxS pl.fr
  dp:=s.dp + 1 }
def Z15p (ih:Code→St→Z80→T) (body:Code):Nat→St→Z80→T
 | 0,_,_=>.fail
 | n + 1,s,k=>ih body s fun o s'=>match o with
  | .norm=>Z15p ih body n s' k
  | o=>k o s'
def Zd1:List Sk→Nat→List Nat
 | [],_=>[]
 | .cells [.num .b]::l,i=>i::Zd1 l (i + 1)
 | _::l,i=>Zd1 l (i + 1)
def Zum:List Nat→St→(St→T)→T
 | [],s,k=>k s
 | t::ts,s,k=>match Zfm s t with
  | some (.nz _)=>Zum ts s k
  | _=>Zfn (some t) s fun s'=>Zum ts s' k
def Z15q (ih:Code→St→Z80→T) (pl:Zai) (body:Code) (s:St) (k:Z80):T :=
 if s.sc then match Zov pl s [] s with
  | some (aZ,es,us)=>Z3m aZ (.loop es.length es (ih body (Z15o pl s us) fun o s'=>match o with
   | .norm=>Zum (Zd1 pl.fr 0) s' fun s'=>(match Zov pl s (Z64 us 0 s.rows) s' with
    | some (bs,fs,_)=>Z3m bs (.back s.dp fs)
    | none=>.fail)
   | o=>k o s'))
  | none=>.fail
 else .fail
def Zfq (P:Program) (lp:St→Code→Option Zai) (Γ:List Sum):Nat→Code→St→Z80→T
 | 0,_,_,_=>.fail
 | f + 1,c,s,k=>match c with
  | .skip=>k .norm s
  | .label _=>k .norm s
  | .region _ ops draw=>if draw then Zh6 P Γ (Zfq P lp Γ f) (tidy ops) s (k .norm) else Z15k P ops s (k .norm) (Z3g P Γ (Zfq P lp Γ f) ops ops.toList s (k .norm))
  | .seq a b=>Zfq P lp Γ f a s fun o s'=>match o with
   | .norm=>Zfq P lp Γ f b s' k
   | o=>k o s'
  | .cond c x y=>match c with
   | .tmp t=>Zfn (some t) s fun s'=>match Zfm s' t with
    | some (.c true)=>Zfq P lp Γ f x s' k
    | some (.c false)=>Zfq P lp Γ f y s' k
    | _=>.fail
   | .const (.bool true)=>Zfq P lp Γ f x s k
   | .const (.bool false)=>Zfq P lp Γ f y s k
   | _=>.fail
  | .block id body=>Zfq P lp Γ f body s fun o s'=>match o with
   | .exit id'=>if id'=id then k .norm s' else k (.exit id') s'
   | o=>k o s'
  | .loop body=>match lp s body with
   | some pl=>Z15q (Zfq P lp Γ f) pl body s k
   | none=>Z15p (Zfq P lp Γ f) body f s k
  | .exit id=>k (.exit id) s
  | .ret=>k .ret s
  | _=>.fail
def Z6f (ps:List Sh) (n:Nat):List SV :=
 let aZ:=(Zcv Zos 0 ps (Z8 0 (Zg ps))).map SV.w
 aZ++List.replicate (n - aZ.length) Z5
def Zx (P:Program) (lp:St→Code→Option Zai) (gl:List (Nat × List Int)) (Γ:List Sum) (fuel:Nat) (fn:FuncId) (ps rs:List Sh):T:=match P.funcs[fn]? with
 | some F=>match F.body with
  | some body=>Zfq P lp Γ fuel body ⟨Z6f ps F.ntmps,[],[],Zg ps,0,0,0,gl,hsE (Z3u ps) (Z8 0 (Zg ps)),0⟩ (Zjk P F rs)
  | none=>.fail
 | none=>.fail
def Zbe:St→Code→Option Zai:=fun _ _=>none
end Go.Sx
namespace Go.Sx
open Go.RowKit
theorem Z15r:∀ {a b:Int},zig a=zig b→a=b
 | .ofNat a,.ofNat b,h=>by simp only [zig] at h; simp; omega
 | .negSucc a,.negSucc b,h=>by simp only [zig] at h; simp; omega
 | .ofNat a,.negSucc b,h=>by simp only [zig] at h; omega
 | .negSucc a,.ofNat b,h=>by simp only [zig] at h; omega
theorem Z13x:∀ {a a' b b':Nat},pr a b=pr a' b'→a=a'∧b=b'
 | 0,0,b,b',h=>by simp only [pr,Nat.pow_zero,Nat.one_mul] at h; omega
 | 0,a + 1,b,b',h=>by
  simp only [pr,Nat.pow_zero,Nat.one_mul,Nat.pow_succ] at h
  rw [Nat.mul_comm (2 ^ a) 2,Nat.mul_assoc] at h
  omega
 | a + 1,0,b,b',h=>by
  simp only [pr,Nat.pow_zero,Nat.one_mul,Nat.pow_succ] at h
  rw [Nat.mul_comm (2 ^ a) 2,Nat.mul_assoc] at h
  omega
 | a + 1,a' + 1,b,b',h=>by
  have:pr a b=pr a' b':=by
   simp only [pr,Nat.pow_succ] at h ⊢
   rw [Nat.mul_comm (2 ^ a) 2,Nat.mul_comm (2 ^ a') 2,Nat.mul_assoc,Nat.mul_assoc] at h
   omega
  obtain ⟨h1,h2⟩:=Z13x this
  exact ⟨by omega,h2⟩
theorem Z13y (a b:Nat):pr a b ≠ 0:=by
 unfold pr
 have:0 < 2 ^ a:=Nat.pow_pos (by omega)
 exact Nat.ne_of_gt (Nat.mul_pos this (by omega))
theorem Zow:∀ {l l':List Int},codN l=codN l'→l=l'
 | [],[],_=>rfl
 | [],x::l,h=>absurd h.symm (Z13y _ _)
 | x::l,[],h=>absurd h (Z13y _ _)
 | x::l,y::l',h=>by
  obtain ⟨h1,h2⟩:=Z13x h
  rw [Z15r h1,Zow h2]
theorem Z15s {l l':List Int} (h:cod l=cod l'):l=l':=Zow (Int.ofNat.inj h)
@[simp] theorem Z4 (l:List Int):dec (cod l)=l:=by
 have hex:∃ m,cod m=cod l:=⟨l,rfl⟩
 unfold dec
 rw [dif_pos hex]
 exact Z15s (Classical.choose_spec hex)

theorem wrap_small (n:Int) (h:Zzk n=true):IntKind.i64.wrap n=n:=by
 simp only [Zzk,Z18r,Z18s] at h
 rw [IntKind.wrap_i64]
 omega
section
variable (R:Fo) (r:List Int)
theorem Z8z (k:IntKind) (n:Int) (e:E) (h:e.den R r=k.wrap n):(Z156 k n e).den R r=k.wrap n:=by
 unfold Z156
 split
 ·rename_i hc
  simp only [Z18r,beq_iff_eq] at hc
  obtain ⟨rfl,hs⟩:=hc
  simp [E.den,wrap_small n hs]
 ·exact h
theorem Zjp (k:IntKind) (a b:E):(Zzl k a b).den R r=k.wrap (a.den R r + b.den R r):=by
 unfold Zzl; split
 ·exact Z8z R r _ _ _ rfl
 ·rfl
theorem Zd2 (k:IntKind) (a b:E):(Zu2 k a b).den R r=k.wrap (a.den R r - b.den R r):=by
 unfold Zu2; split
 ·exact Z8z R r _ _ _ rfl
 ·rfl
theorem Zun (k:IntKind) (a b:E):(Z157 k a b).den R r=k.wrap (a.den R r * b.den R r):=by
 unfold Z157; split
 ·exact Z8z R r _ _ _ rfl
 ·rfl
theorem Zjq (k:IntKind) (a b:E):(Zzm k a b).den R r=k.wrap ((a.den R r).tdiv (b.den R r)):=by
 unfold Zzm; split
 ·exact Z8z R r _ _ _ rfl
 ·rfl
theorem Zuo (a b:E):(Z158 a b).den R r=(a.den R r).tmod (b.den R r):=by
 unfold Z158; split <;> rfl
theorem Zzt (a b:E):(mkMn a b).den R r=if b.den R r < a.den R r then b.den R r else a.den R r:=by
 unfold mkMn; split <;> rfl
theorem Zzu (a b:E):(mkMx a b).den R r=if b.den R r > a.den R r then b.den R r else a.den R r:=by
 unfold mkMx; split <;> rfl
theorem Zzv (k:IntKind) (a:E):(mkCv k a).den R r=k.wrap (a.den R r):=by
 unfold mkCv; split
 ·exact Z8z R r _ _ _ rfl
 ·rfl
theorem Z90 (a b:E):(Ztv a b).den R r=decide (a.den R r < b.den R r):=by
 unfold Ztv; split <;> rfl
theorem Z2m (a b:E):(Z5b a b).den R r=decide (a.den R r≤b.den R r):=by
 unfold Z5b; split <;> rfl
theorem Zh7 (a b:E):(Z13s a b).den R r=(a.den R r == b.den R r):=by
 unfold Z13s; split <;> rfl
theorem Z2n (a:B):(Z4f a).den R r=!(a.den R r):=by
 unfold Z4f; split <;> simp [B.den]
theorem Z42 (a b:B):(Z7z a b).den R r=(a.den R r && b.den R r):=by
 unfold Z7z; split <;> simp [B.den]
theorem Zd3 (a b:B):(Zu3 a b).den R r=(a.den R r == b.den R r):=by
 unfold Zu3; split <;> simp [B.den,Z2n]
theorem Z1w:∀ l:List E,(Z6b l).den R r=cod (l.map (E.den R r))
 | []=>rfl
 | x::l=>by simp only [Z6b,E.den,L2.den,Z1w l,Z4,Z18k]
theorem Z30:∀ {a:E} {l:List E},Z5v a=some l→dec (a.den R r)=l.map (E.den R r):=by
 intro a
 induction a with
 | nl=>intro l h; simp only [Z5v,Option.some.injEq] at h; subst h; simp [E.den]
 | l2 o x y ihx ihy =>
  intro l h
  cases o <;> simp only [Z5v] at h <;> try (cases h; done)
  ·simp only [Option.map_eq_some_iff] at h
   obtain ⟨m,hm,rfl⟩:=h
   simp [E.den,L2.den,ihy hm]
  ·simp only [Option.map_eq_some_iff] at h
   obtain ⟨m,hm,rfl⟩:=h
   simp [E.den,L2.den,ihx hm]
 | _=>intro l h; simp [Z5v] at h
theorem Z5f (a:E):(Zop a).den R r=((dec (a.den R r)).length:Int):=by
 unfold Zop
 split
 ·rename_i l h
  simp [E.den,Z30 R r h]
 ·rfl
theorem Z91 (a i:E):(Zzn a i).den R r=(dec (a.den R r)).getD (i.den R r).toNat 0:=by
 unfold Zzn
 split
 ·rename_i l n h
  split
  ·rename_i hn
   rw [Z30 R r h]
   simp only [E.den]
   by_cases hl:n.toNat < l.length
   ·simp [List.getD,hl]
   ·simp [List.getD,List.getElem?_eq_none (Nat.le_of_not_lt hl),E.den,L2.den,Z30 R r h]
  ·rfl
 ·rfl
theorem Zup (a i x:E):(Zrl a i x).den R r=cod ((dec (a.den R r)).set (i.den R r).toNat (x.den R r)):=by
 unfold Zrl
 split
 ·rename_i l n h
  split
  ·rw [Z1w,Z30 R r h,List.map_set]; rfl
  ·rfl
 ·rfl
theorem Zaj (a n:E):(Z8u a n).den R r=cod ((dec (a.den R r)).take (n.den R r).toNat):=by
 unfold Z8u
 split
 ·rename_i l m h
  rw [Z1w,Z30 R r h,List.map_take]; rfl
 ·rfl
theorem Zrw (a n:E):dec ((Zj7 a n).den R r)=(dec (a.den R r)).drop (n.den R r).toNat:=by
 unfold Zj7
 split
 ·rename_i l m h
  rw [Z1w,Z30 R r h,List.map_drop,Z4]; rfl
 ·simp [E.den]
 ·simp [E.den,L2.den]
theorem Zrx (l:List E):∀ a:E,dec ((l.foldl (fun a x=>.l2 .snoc a x) a).den R r)=dec (a.den R r)++l.map (E.den R r):=by
 induction l with
 | nil=>intro a; simp
 | cons x l ih=>intro a; rw [List.foldl_cons,ih]; simp [E.den,L2.den]
theorem Zjr (a b:E):dec ((Zmb a b).den R r)=dec (a.den R r)++dec (b.den R r):=by
 unfold Zmb
 split
 ·rename_i l h
  rw [Zrx,Z30 R r h]
 ·split
  ·simp [E.den]
  ·simp [E.den,L2.den]
theorem Zjs (n x:E):(Zae n x).den R r=cod (List.replicate (n.den R r).toNat (x.den R r)):=by
 unfold Zae
 split
 ·split
  ·rw [Z1w]; simp [E.den]
  ·rfl
 ·rfl
theorem Zox (size:Nat) (e:E) (j:Nat):(comp size e j).den R r=if size=1 then e.den R r else (dec (e.den R r)).getD j 0:=by
 unfold comp
 split
 ·rfl
 ·rw [Z91]; simp [E.den]
theorem Z92 {ks:List K} {es:List E} (h:es.length=ks.length):elt ks ((Z2i es).den R r)=es.map (E.den R r):=by
 unfold elt
 match es,h with
 | [],h=>rw [if_neg (by rw [← h]; simp)]; simp [Z2i,Z6b,E.den]
 | [x],h=>rw [if_pos (by rw [← h]; rfl)]; rfl
 | x::y::l,h=>rw [if_neg (by rw [← h]; simp)]; simp only [Z2i]; rw [Z1w,Z4]
theorem Zoy {n:Int} (h0:0≤n) (h1:n≤9223372036854775807):IntKind.i64.wrap n=n:=by
 rw [IntKind.wrap_i64]
 omega
theorem Z93 {a b:E} (h0:0≤a.den R r + b.den R r) (h1:a.den R r + b.den R r≤9223372036854775807):(Z4e a b).den R r=a.den R r + b.den R r:=by
 unfold Z4e
 split
 ·simp [E.den]
 ·simp [E.den]
 ·rw [Zjp,Zoy h0 h1]
theorem Z4t {a b:E} (h0:0≤a.den R r - b.den R r) (h1:a.den R r - b.den R r≤9223372036854775807):(Z2w a b).den R r=a.den R r - b.den R r:=by
 unfold Z2w
 split
 ·simp [E.den]
 ·rw [Zd2,Zoy h0 h1]
theorem E.den_app (x:List Int):∀ a:E,a.sc r.length=true→a.den R (r++x)=a.den R r:=by
 intro a
 induction a <;> simp only [E.sc,E.den,Z18r,Z18s] <;> intro h
 case v i=>simp [List.getElem?_append_left h]
 all_goals simp_all
theorem B.den_app (x:List Int):∀ a:B,a.sc r.length=true→a.den R (r++x)=a.den R r:=by
 intro a
 induction a <;> simp only [B.sc,B.den,Z18r] <;> intro h
 all_goals first
  | rfl
  | (rw [E.den_app R r x _ h.1,E.den_app R r x _ h.2])
  | (rw [E.den_app R r x _ h])
  | simp_all
end
def Env.le (e e':Env):Prop:=∃ a b c d,e'.r=e.r++a∧e'.β=e.β++b∧e'.σ=e.σ++c∧e'.ω=e.ω++d∧e'.R=e.R
theorem Env.le_refl (e:Env):e.le e:=⟨[],[],[],[],by simp⟩
theorem Env.le_trans {a b c:Env} (h:a.le b) (h':b.le c):a.le c:=by
 obtain ⟨x1,x2,x3,x4,p1,p2,p3,p4,p5⟩:=h
 obtain ⟨y1,y2,y3,y4,q1,q2,q3,q4,q5⟩:=h'
 exact ⟨x1++y1,x2++y2,x3++y3,x4++y4,by simp [p1,p2,p3,p4,p5,q1,q2,q3,q4,q5]⟩
structure Env.like (nb ng:Nat) (e e':Env):Prop where
 r:e'.r=e.r
 R:e'.R=e.R
 ω:e'.ω=e.ω
 β:∀ n,n < nb→e'.β.getD n 0=e.β.getD n 0
 σ:∀ n,n < ng→e'.σ.getD n undef=e.σ.getD n undef
theorem G.val_like {nb ng:Nat} {e e':Env} (h:Env.like nb ng e e'):∀ g:G,g.scp ng=true→g.val e'=g.val e:=by
 intro g hg
 cases g with
 | a i=>simp only [G.val,h.R]
 | o n=>simp only [G.scp,Z18s] at hg; simp only [G.val]; rw [h.σ n hg]
 | e g ix j x=>simp only [G.val,h.R,h.r]
theorem SC.den_like {nb ng:Nat} {e e':Env} (h:Env.like nb ng e e'):∀ c:SC,c.scp nb ng=true→c.den e'=c.den e:=by
 intro c hc
 cases c <;> simp only [SC.scp,Z18s] at hc <;> simp only [SC.den,h.r,h.R,Z1z]
 case p n off=>rw [h.β n hc]
 case s n off l c=>rw [h.β n hc]
 case go g=>rw [G.val_like h g hc]
 case gv g size lo hi=>rw [G.val_like h g hc]
 case gp g size ix j=>rw [G.val_like h g hc]
 case gz g=>rw [G.val_like h g hc]
 case f fn caps =>
  congr 2
  apply List.map_congr_left
  intro x hx
  rw [h.β _ (by simpa using List.all_eq_true.1 hc x hx)]
theorem Z21 {nb ng:Nat} {e e':Env} (h:Env.like nb ng e e') {cs:List SC} (hc:cs.all (SC.scp nb ng)=true):cs.map (SC.den e')=cs.map (SC.den e) :=
 List.map_congr_left fun x hx=>SC.den_like h x (List.all_eq_true.1 hc x hx)
theorem SW.den_like {nb ng:Nat} {e e':Env} (h:Env.like nb ng e e'):∀ c:SW,c.scp nb ng=true→c.den e'=c.den e:=by
 intro c hc
 cases c with
 | o c=>exact SC.den_like h c hc
 | a cs=>simp only [SW.den]; rw [Z21 h hc]
theorem SV.den_like {nb ng:Nat} {e e':Env} (h:Env.like nb ng e e'):∀ c:SV,c.scp nb ng=true→c.den e'=c.den e:=by
 intro c hc
 cases c with
 | w x=>exact SW.den_like h x hc
 | t xs=>simp only [SV.den]; rw [List.map_congr_left fun x hx=>SW.den_like h x (List.all_eq_true.1 hc x hx)]
 | un i=>simp only [SV.den,h.ω]
theorem Z12 {α:Type} (l x:List α) (n:Nat) (d:α) (h:n < l.length):(l++x).getD n d=l.getD n d:=by
 simp [List.getD,List.getElem?_append_left h]
theorem G.val_le {e e':Env} (h:e.le e'):∀ g:G,g.sc e.r.length e.σ.length=true→g.val e'=g.val e:=by
 obtain ⟨a,b,s,d,h1,h2,h3,h4,h5⟩:=h
 intro g hg
 cases g with
 | a i=>simp only [G.val,h5]
 | o n=>simp only [G.sc,Z18s] at hg; simp only [G.val,h3]; rw [Z12 _ _ _ _ hg]
 | e g ix j x=>simp only [G.sc] at hg; simp only [G.val,h1,h5]; rw [E.den_app _ _ _ _ hg]
theorem SC.den_le {e e':Env} (h:e.le e'):∀ c:SC,c.sc e.r.length e.β.length e.σ.length=true→c.den e'=c.den e:=by
 have hg:=G.val_le h
 obtain ⟨a,b,s,d,h1,h2,h3,h4,h5⟩:=h
 intro c hc
 cases c <;> simp only [SC.sc,Z18s,Z18r] at hc <;> simp only [SC.den,h1,h2,h5,Z1z]
 case i k x=>rw [E.den_app _ _ _ _ hc]
 case b x=>rw [B.den_app _ _ _ _ hc]
 case p n off=>rw [Z12 _ _ _ _ hc]
 case s n off l c=>rw [Z12 _ _ _ _ hc]
 case go g=>rw [hg g hc]
 case gv g size lo hi=>rw [hg g hc.1,E.den_app _ _ _ _ hc.2.1,E.den_app _ _ _ _ hc.2.2]
 case gp g size ix j=>rw [hg g hc.1,E.den_app _ _ _ _ hc.2]
 case gz g=>rw [hg g hc]
 case f fn caps =>
  congr 2
  apply List.map_congr_left
  intro x hx
  rw [Z12 _ _ _ _ (by simpa using List.all_eq_true.1 hc x hx)]
theorem Zg1 {e e':Env} (h:e.le e') {cs:List SC} (hc:cs.all (SC.sc e.r.length e.β.length e.σ.length)=true):cs.map (SC.den e')=cs.map (SC.den e) :=
 List.map_congr_left fun x hx=>SC.den_le h x (List.all_eq_true.1 hc x hx)
theorem SW.den_le {e e':Env} (h:e.le e'):∀ c:SW,c.sc e.r.length e.β.length e.σ.length=true→c.den e'=c.den e:=by
 intro c hc
 cases c with
 | o c=>exact SC.den_le h c hc
 | a cs=>simp only [SW.den]; rw [Zg1 h hc]
theorem SV.den_le {e e':Env} (h:e.le e'):∀ c:SV,c.sc e.r.length e.β.length e.σ.length e.ω.length=true→c.den e'=c.den e:=by
 intro c hc
 cases c with
 | w x=>exact SW.den_le h x hc
 | t xs=>simp only [SV.den]; rw [List.map_congr_left fun x hx=>SW.den_le h x (List.all_eq_true.1 hc x hx)]
 | un i =>
  obtain ⟨a,b,s,d,h1,h2,h3,h4,h5⟩:=h
  simp only [SV.sc,Z18s] at hc
  simp only [SV.den,h4]
  rw [Z12 _ _ _ _ hc]
@[simp] theorem SC.den_ofV (e:Env) (v:Value):(SC.ofV v).den e=v:=by
 cases v <;> simp [SC.ofV,SC.den,B.den,E.den]
@[simp] theorem SW.den_ofV (e:Env) (v:Value):(SW.ofV v).den e=v:=by
 cases v <;> simp [SW.ofV,SW.den,SC.den_ofV]
 case agg cs =>
  rw [show (SC.den e ∘ SC.ofV)=id from funext fun v=>SC.den_ofV e v]
  simp

end Go.Sx
namespace Go.Sx
open Go.RowKit
structure Bas where
 w:World
 X:Nat→Prop
def Bas.may (b:Bas) (k:Nat):Prop:=b.w.heap.size≤k∨b.X k
structure Zm (b:Bas) (w:World):Prop where
 os:w.os=b.w.os
 tape:w.tape=b.w.tape
 output:w.output=b.w.output
 size:b.w.heap.size≤w.heap.size
 block:∀ k,¬ b.may k→w.heap[k]?=b.w.heap[k]?
theorem Zm.refl (b:Bas):Zm b b.w:=⟨rfl,rfl,rfl,Nat.le_refl _,fun _ _=>rfl⟩
theorem Zm.grow {b:Bas} {w w':World} (h:Zm b w) (k:Below w.heap.size w w'):Zm b w' :=
 ⟨k.os.trans h.os,k.tape.trans h.tape,k.output.trans h.output,Nat.le_trans h.size k.size,fun i hi=>(k.block i (by
  have:¬ b.w.heap.size≤i:=fun hh=>hi (.inl hh)
  have:=h.size
  omega)).trans (h.block i hi)⟩
theorem Zm.trans {b c:Bas} {w:World} (h:Zm b c.w) (k:Zm c w) (hk:∀ i,c.may i→b.may i):Zm b w :=
 ⟨k.os.trans h.os,k.tape.trans h.tape,k.output.trans h.output,Nat.le_trans h.size k.size,fun i hi=>(k.block i (fun hh=>hi (hk i hh))).trans (h.block i hi)⟩
theorem Zm.alloc {b:Bas} {w:World} (h:Zm b w) (o:Obj):Zm b (w.alloc o):=h.grow ((Below.refl _ _).alloc (Nat.le_refl _) o)
theorem Zm.setRow {b:Bas} {w:World} (h:Zm b w) {g:Nat} (hg:b.may g) (cs:Array Value):Zm b (w.setRow g cs) :=
 ⟨h.os,h.tape,h.output,by simpa using h.size,fun i hi=>(setRow_other w g i cs (fun e=>hi (by rw [e]; exact hg))).trans (h.block i hi)⟩
theorem Zm.grown {b:Bas} {w w':World} {row:Option Nat} (h:Zm b w) (hg:w.grownBy w' row) (hr:∀ k,row=some k→b.may k):Zm b w' :=
 ⟨hg.os.trans h.os,hg.tape.trans h.tape,hg.output.trans h.output,Nat.le_trans h.size hg.size,fun i hi=>(hg.block i (by
  have:¬ b.w.heap.size≤i:=fun hh=>hi (.inl hh)
  have:=h.size
  omega) (fun e=>hi (hr i e.symm))).trans (h.block i hi)⟩
theorem Zm.below {w0 w:World} (h:Zm ⟨w0,fun _=>False⟩ w):Below w0.heap.size w0 w :=
 ⟨h.os,h.tape,h.output,h.size,fun k hk=>h.block k (by rintro (hh | hh); exact absurd hh (by show ¬ w0.heap.size≤k; omega); exact hh)⟩
theorem Zm.cell {b:Bas} {w:World} (h:Zm b w) {p:Addr} (hp:¬ b.may p.block):w.cell? p=b.w.cell? p:=World.cell?_of_block (w:=b.w) (h.block p.block hp)
def SlX (b:Bas) (ks:List K) (v:Value) (c:Int):Prop:=Z2b b.w b.X (.s 0 ks) v c
def GlX (gl:List (Nat × List Int)) (b:Bas):Prop:=Zm8 gl b.w∧∀ p ∈ gl,p.2 ≠ []→¬ b.X p.1
structure Rep (e:Env) (W0:Bas) (s:St) (w:World):Prop where
 below:Zm W0 w
 nb:e.β.length=s.mem.length
 ng:e.σ.length=s.rows.length
 nv:e.r.length=s.nv
 nx:e.ω.length=s.nx
 blk:∀ n b,s.mem[n]?=some b→b.live=true→w.heap[e.β.getD n 0]?=some (.cells (b.cells.map (SC.den e)).toArray b.ty (0,0))
 own:∀ n b,s.mem[n]?=some b→b.live=true→s.fl≤n→W0.may (e.β.getD n 0)
 sep:∀ n m b c,s.mem[n]?=some b→s.mem[m]?=some c→b.live=true→c.live=true→e.β.getD n 0=e.β.getD m 0→n=m
 row:∀ n b,s.rows[n]?=some b→b.live=true→Zs w b.ty b.ks ((G.o n).val e) (b.c.den e.R e.r)
 rown:∀ n b,s.rows[n]?=some b→b.live=true→s.flr≤n→∀ k,Z6 ((G.o n).val e)=some k→W0.may k
 rsep:∀ n m b c k,s.rows[n]?=some b→s.rows[m]?=some c→b.live=true→c.live=true→Z6 ((G.o n).val e)=some k→Z6 ((G.o m).val e)=some k→n=m
 brs:∀ n m b c,s.mem[n]?=some b→s.rows[m]?=some c→b.live=true→c.live=true→Z6 ((G.o m).val e) ≠ some (e.β.getD n 0)
 gl:GlX s.gl W0
 arg:∀ i ks c,s.hs[i]?=some (ks,c)→SlX W0 ks ((G.a i).val e) (c.den e.R e.r)
theorem Zm8.below {gl:List (Nat × List Int)} {B:Nat} {w w':World} (h:Zm8 gl w) (hb:Below B w w') (hB:w.heap.size≤B):Zm8 gl w':=by
 intro p hp j n hj
 have h0:=h p hp j n hj
 have hlt:=World.block_lt_of_cell? _ _ h0
 rw [hb.cell (p:=⟨p.1,j,none⟩) (Nat.lt_of_lt_of_le hlt hB)]
 exact h0
theorem GlX.now {gl:List (Nat × List Int)} {b:Bas} {w:World} (h:GlX gl b) (hb:Zm b w):Zm8 gl w:=by
 intro p hp j n hj
 have h0:=h.1 p hp j n hj
 have hlt:=World.block_lt_of_cell? _ _ h0
 rw [hb.cell (p:=⟨p.1,j,none⟩) (by
  rintro (hh | hh)
  ·exact absurd hlt (Nat.not_lt.2 hh)
  ·exact h.2 p hp (by intro h0'; rw [h0'] at hj; simp at hj) hh)]
 exact h0
theorem Rep.glw {e:Env} {W0:Bas} {s:St} {w:World} (h:Rep e W0 s w):Zm8 s.gl w:=h.gl.now h.below
theorem Z1g {w:World} {n:Nat} {o:Obj} (h:w.heap[n]?=some o):n < w.heap.size:=(Array.getElem?_eq_some_iff.1 h).1
theorem St.scp_spec {s:St} (h:s.scp=true):(∀ v ∈ s.fr,SV.scp s.mem.length s.rows.length v=true) ∧
  (∀ b ∈ s.mem,b.cells.all (SC.scp s.mem.length s.rows.length)=true):=by
 simp only [St.scp,Z18r] at h
 exact ⟨List.all_eq_true.1 h.1,List.all_eq_true.1 h.2⟩
theorem E.same_eq:∀ a b:E,a.same b=true→a=b
 | .c m,b,h=>by cases b <;> simp [E.same] at h; rw [h]
 | .v m,b,h=>by cases b <;> simp [E.same] at h; rw [h]
 | .add k x y,b,h=>by cases b <;> simp [E.same] at h; rw [h.1,E.same_eq x _ h.2.1,E.same_eq y _ h.2.2]
 | .sub k x y,b,h=>by cases b <;> simp [E.same] at h; rw [h.1,E.same_eq x _ h.2.1,E.same_eq y _ h.2.2]
 | .mul k x y,b,h=>by cases b <;> simp [E.same] at h; rw [h.1,E.same_eq x _ h.2.1,E.same_eq y _ h.2.2]
 | .quo k x y,b,h=>by cases b <;> simp [E.same] at h; rw [h.1,E.same_eq x _ h.2.1,E.same_eq y _ h.2.2]
 | .rem x y,b,h=>by cases b <;> simp [E.same] at h; rw [E.same_eq x _ h.1,E.same_eq y _ h.2]
 | .mn x y,b,h=>by cases b <;> simp [E.same] at h; rw [E.same_eq x _ h.1,E.same_eq y _ h.2]
 | .mx x y,b,h=>by cases b <;> simp [E.same] at h; rw [E.same_eq x _ h.1,E.same_eq y _ h.2]
 | .cv k x,b,h=>by cases b <;> simp [E.same] at h; rw [h.1,E.same_eq x _ h.2]
 | .nl,b,h=>by cases b <;> simp [E.same] at h; rfl
 | .ln x,b,h=>by cases b <;> simp [E.same] at h; rw [E.same_eq x _ h]
 | .l2 o x y,b,h=>by cases b <;> simp [E.same] at h; rw [h.1,E.same_eq x _ h.2.1,E.same_eq y _ h.2.2]
 | .l3 x y z,b,h=>by cases b <;> simp [E.same] at h; rw [E.same_eq x _ h.1,E.same_eq y _ h.2.1,E.same_eq z _ h.2.2]
theorem G.same_eq:∀ a b:G,a.same b=true→a=b
 | .a i,b,h=>by cases b <;> simp [G.same] at h; rw [h]
 | .o i,b,h=>by cases b <;> simp [G.same] at h; rw [h]
 | .e g ix j x,b,h=>by cases b <;> simp [G.same] at h; rw [G.same_eq g _ h.1.1,E.same_eq _ _ h.1.2,h.2.1,E.same_eq _ _ h.2.2]
theorem Z5a.grown {w w':World} {ks:List K} {v:Value} {c:Int} {B:Nat} (h:Z5a w ks v c) (hb:Below B w w') (hB:w.heap.size≤B):Z5a w' ks v c:=by
 rcases h with h | ⟨b,off,cap,h1,h2,h3,h4,h5⟩
 ·exact .inl h
 ·refine .inr ⟨b,off,cap,h1,h2,h3,h4,fun j u hj=>?_⟩
  have h0:=h5 j u hj
  rw [hb.cell (p:=⟨b,off + j,none⟩) (Nat.lt_of_lt_of_le (World.block_lt_of_cell? _ _ h0) hB)]
  exact h0
theorem Z2b.base {w:World} {X:Nat→Prop} {ty:TypeId} {ks:List K} {v:Value} {c:Int} (h:Z2b w X (.s ty ks) v c):Z5a w ks v c∧(Zb ks (dec c) ≠ []→∀ k,slBlk v=some k→¬ X k):=by
 rw [Z2b] at h
 exact h.1
theorem Z5a.now {b:Bas} {w:World} {ks:List K} {v:Value} {c:Int} (h:Z5a b.w ks v c) (hx:Zb ks (dec c) ≠ []→∀ k,slBlk v=some k→¬ b.X k) (hb:Zm b w):Z5a w ks v c:=by
 rcases h with h | ⟨g,off,cap,h1,h2,h3,h4,h5⟩
 ·exact .inl h
 ·refine .inr ⟨g,off,cap,h1,h2,h3,h4,fun j u hj=>?_⟩
  have h0:=h5 j u hj
  have hlt:=World.block_lt_of_cell? _ _ h0
  rw [hb.cell (p:=⟨g,off + j,none⟩) (by
   rintro (hh | hh)
   ·exact absurd hlt (Nat.not_lt.2 hh)
   ·exact hx (by intro h0'; rw [h0'] at hj; simp at hj) g (by rw [h1]; rfl) hh)]
  exact h0
theorem SlX.now {b:Bas} {w:World} {ks:List K} {v:Value} {c:Int} (h:SlX b ks v c) (hb:Zm b w):Z5a w ks v c:=Z5a.now h.base.1 h.base.2 hb
mutual
theorem Z2b.imp {w w':World} {X X':Nat→Prop} (hw:∀ ks v c,Z5a w ks v c→(Zb ks (dec c) ≠ []→∀ k,slBlk v=some k→¬ X k)→Z5a w' ks v c∧(Zb ks (dec c) ≠ []→∀ k,slBlk v=some k→¬ X' k)):∀ (k:K) (v:Value) (c:Int),Z2b w X k v c→Z2b w' X' k v c
 | .s ty ks,v,c,h=>by
  rw [Z2b] at h ⊢
  exact ⟨hw ks v c h.1.1 h.1.2,fun x hx=>Z5d.imp hw ks _ (h.2 x hx)⟩
 | .i k,v,c,h=>by simp only [Z2b]
 | .b,v,c,h=>by simp only [Z2b]
theorem Z5d.imp {w w':World} {X X':Nat→Prop} (hw:∀ ks v c,Z5a w ks v c→(Zb ks (dec c) ≠ []→∀ k,slBlk v=some k→¬ X k)→Z5a w' ks v c∧(Zb ks (dec c) ≠ []→∀ k,slBlk v=some k→¬ X' k)):∀ (ks:List K) (ns:List Int),Z5d w X ks ns→Z5d w' X' ks ns
 | [],ns,h=>by cases ns <;> exact trivial
 | k::ks,[],h=>trivial
 | k::ks,n::ns,h=>by
  rw [Z5d] at h ⊢
  exact ⟨Z2b.imp hw k _ _ h.1,Z5d.imp hw ks ns h.2⟩
end
theorem SlX.next {b:Bas} {w:World} {ks:List K} {v:Value} {c:Int} (h:SlX b ks v c) (hb:Zm b w):SlX ⟨w,b.X⟩ ks v c :=
 Z2b.imp (fun _ _ _ h hx=>⟨Z5a.now h hx hb,hx⟩) _ _ _ h
theorem SlX.nowN {b:Bas} {w:World} {ks:List K} {v:Value} {c:Int} (h:SlX b ks v c) (hb:Zm b w):SlN w ks v c :=
 Z2b.imp (fun _ _ _ h hx=>⟨Z5a.now h hx hb,fun _ _ _ hh=>hh.elim⟩) _ _ _ h
theorem SlN.now {w:World} {ks:List K} {v:Value} {c:Int} (h:SlN w ks v c):Z5a w ks v c:=h.base.1
theorem SlN.grown {w w':World} {ks:List K} {v:Value} {c:Int} {B:Nat} (h:SlN w ks v c) (hb:Below B w w') (hB:w.heap.size≤B):SlN w' ks v c :=
 Z2b.imp (fun _ _ _ h hx=>⟨h.grown hb hB,hx⟩) _ _ _ h
def Z43:List K→Bool
 | []=>true
 | .s _ _::_=>false
 | _::ks=>Z43 ks
theorem Z5g:∀ {a b:List K},Z39 a b=true→Z43 a=true∧Z43 b=true
 | [],[],_=>⟨rfl,rfl⟩
 | [],_::_,h=>by simp [Z39] at h
 | _::_,[],h=>by simp [Z39] at h
 | x::xs,y::ys,h=>by
  simp only [Z39,Z18r] at h
  have ih:=Z5g h.2
  cases x <;> cases y <;> simp_all [K.same,Z43]
theorem Z5d.plain {w:World} {X:Nat→Prop}:∀ {ks:List K} {ns:List Int},Z43 ks=true→Z5d w X ks ns
 | [],ns,h=>by cases ns <;> exact trivial
 | k::ks,[],h=>trivial
 | .i k::ks,n::ns,h=>by simp only [Z5d,Z2b,true_and]; exact Z5d.plain (by simpa [Z43] using h)
 | .b::ks,n::ns,h=>by simp only [Z5d,Z2b,true_and]; exact Z5d.plain (by simpa [Z43] using h)
 | .s ty kr::ks,n::ns,h=>by simp [Z43] at h
theorem Z5a.toX {b:Bas} {ks:List K} {v:Value} {c:Int} (hk:Z43 ks=true) (h:Z5a b.w ks v c) (hx:Zb ks (dec c) ≠ []→∀ k,slBlk v=some k→¬ b.X k):SlX b ks v c:=by
 unfold SlX
 rw [Z2b]
 exact ⟨⟨h,hx⟩,fun _ _=>Z5d.plain hk⟩
theorem Z5a.toN {w:World} {ks:List K} {v:Value} {c:Int} (hk:Z43 ks=true) (h:Z5a w ks v c):SlN w ks v c:=Z5a.toX (b:=⟨w,fun _=>False⟩) hk h fun _ _ _ hh=>hh
theorem SlN.toX {w:World} {ks:List K} {v:Value} {c:Int} (h:SlN w ks v c):SlX ⟨w,fun _=>False⟩ ks v c:=h
theorem Z2o:dec 0=[]:=Z4 []
theorem Z94:hdV 0=.slice none 0 0:=by unfold hdV; rw [Z2o]
theorem Zh8:ctN 0=0:=by unfold ctN; rw [Z2o]; rfl
theorem Zoz {b:Bas} {ks:List K}:SlX b ks (hdV 0) (ctN 0):=by
 unfold SlX
 rw [Z2b,Z94,Zh8,Z2o]
 exact ⟨⟨.inl ⟨⟨_,rfl⟩,Z2o⟩,fun h=>absurd rfl h⟩,fun x hx=>by simp at hx⟩
theorem Zjt (n:Int):∃ a l c,hdV n=.slice a l c:=by
 unfold hdV
 split
 ·split <;> exact ⟨_,_,_,rfl⟩
 ·exact ⟨_,_,_,rfl⟩
 ·exact ⟨_,_,_,rfl⟩
theorem Z5d.at {w:World} {X:Nat→Prop}:∀ {ks:List K} {ns:List Int} {j:Nat} {k:K},ks.length=ns.length→Z5d w X ks ns→ks[j]?=some k→Z2b w X k (hdV (ns.getD j 0)) (ctN (ns.getD j 0))
 | [],_,_,_,_,_,h=>by simp at h
 | _::_,[],_,_,hl,_,_=>by simp at hl
 | k::ks,n::ns,0,k',hl,h,hj=>by
  rw [Z5d] at h
  simp only [Z18e,Option.some.injEq] at hj
  subst hj
  exact h.1
 | k::ks,n::ns,j + 1,k',hl,h,hj=>by
  rw [Z5d] at h
  exact Z5d.at (ks:=ks) (ns:=ns) (by simpa using hl) h.2 (by simpa using hj)
theorem Zl {ks:List K}:∀ {l:List Int},(∀ x ∈ l,(elt ks x).length=ks.length)→(Zb ks l).length=l.length * ks.length
 | [],_=>by simp [Zb]
 | x::l,h=>by
  have h1:(Z7 ks (elt ks x)).length=ks.length:=by
   have h0:=h x (by simp)
   generalize elt ks x=y at h0
   clear h
   induction ks generalizing y with
   | nil=>cases y <;> simp_all [Z7]
   | cons k ks ih=>cases y with
    | nil=>simp at h0
    | cons a y=>simp only [Z7,List.length_cons] at h0 ⊢; rw [ih y (by omega)]
  have ih:=Zl (ks:=ks) (l:=l) (fun y hy=>h y (by simp [hy]))
  simp only [Zb,List.flatMap_cons,List.length_append,h1,List.length_cons] at ih ⊢
  rw [ih,Nat.add_mul,Nat.one_mul,Nat.add_comm]
theorem Zs.kept {w w':World} {ty:TypeId} {ks:List K} {v:Value} {c:Int} {row:Option Nat} (h:Zs w ty ks v c) (hg:w.grownBy w' row) (hb:∀ k,Z6 v=some k→row ≠ some k):Zs w' ty ks v c:=by
 rcases h with h | ⟨h0,h1,h2⟩
 ·exact .inl h
 ·have h3:=h2
  rcases h2.2 with ⟨hv,hn⟩ | ⟨g,cap,cur,hv,_,hc,hle,hm,hsz,ht⟩
  ·exact .inl ⟨List.eq_nil_of_length_eq_zero hn,_,hv⟩
  ·by_cases hcap:cap=0
   ·subst hcap
    have hl:(dec c).length=0:=by omega
    exact .inl ⟨List.eq_nil_of_length_eq_zero hl,some ⟨g,0,none⟩,by rw [hv,hl]⟩
   ·refine .inr ⟨h0,h1,h3.kept hg (.inr ?_)⟩
    have:=hb g (by rw [hv]; simp [Z6,hcap])
    rw [hv]
    exact fun hh=>this hh.symm
theorem Zs.sl {w:World} {ty:TypeId} {ks:List K} {v:Value} {c:Int} (h:Zs w ty ks v c):Z5a w ks v c:=by
 rcases h with ⟨h1,h2⟩ | ⟨h0,h1,h2⟩
 ·exact .inl ⟨h2,h1⟩
 ·have h3:=h2
  rcases h2.2 with ⟨hv,hn⟩ | ⟨g,cap,cur,hv,_,hc,hle,hm,hsz,ht⟩
  ·exact .inl ⟨⟨_,hv⟩,List.eq_nil_of_length_eq_zero hn⟩
  ·refine .inr ⟨g,0,cap,hv,hle,hm,h1,fun j u hj=>?_⟩
   have:=h3.cells (g:=g) (by rw [hv]; rfl) j u hj
   rwa [Addr.add_lit] at this
theorem Zs.blk_lt {w:World} {ty:TypeId} {ks:List K} {v:Value} {c:Int} (h:Zs w ty ks v c) {k:Nat} (hk:Z6 v=some k):k < w.heap.size:=by
 rcases h with ⟨h1,b,h2⟩ | ⟨h0,h1,h2⟩
 ·rw [h2] at hk; cases b <;> simp [Z6] at hk
 ·rcases h2.2 with ⟨hv,hn⟩ | ⟨g,cap,cur,hv,_,hc,hle,hm,hsz,ht⟩
  ·rw [hv] at hk; cases hk
  ·rw [hv] at hk
   simp only [Z6] at hk
   split at hk
   ·cases hk
   ·simp only [Option.some.injEq] at hk
    subst hk
    exact Z1g hc
theorem G.val_slice (e:Env) (g:G):∃ a l c,g.val e=.slice a l c:=by
 have:∀ v,∃ a l c,slV v=.slice a l c:=by
  intro v
  unfold slV
  split
  ·exact ⟨_,_,_,rfl⟩
  ·exact ⟨_,_,_,rfl⟩
 cases g with
 | e g ix j x=>exact Zjt _
 | a i=>exact this _
 | o i=>exact this _
theorem Rep.greadX {e:Env} {W0:Bas} {s:St} {w:World} (h:Rep e W0 s w):∀ {g:G} {ks:List K} {c:E},g.own=false→Z2v s g=some (ks,c)→SlX W0 ks (g.val e) (c.den e.R e.r)
 | .a i,ks,c,_,hg=>h.arg i ks c hg
 | .o i,ks,c,ho,_=>by simp [G.own] at ho
 | .e g ix j x,ks,c,_,hg=>by
  simp only [Z2v] at hg
  split at hg
  ·cases hg
  rename_i hown
  split at hg
  ·rename_i ks0 c0 hg0
   split at hg
   ·rename_i hx
    split at hg
    ·rename_i ty kr hk
     simp only [Option.some.injEq,Prod.mk.injEq] at hg
     obtain ⟨rfl,rfl⟩:=hg
     have hX:=Rep.greadX h (by simpa using hown) hg0
     have hxe:=E.same_eq _ _ hx
     have hcd:(Zzn x (.c 4)).den e.R e.r=ctN (x.den e.R e.r):=by rw [Z91]; rfl
     rw [hcd]
     show SlX W0 kr (hdV (x.den e.R e.r)) (ctN (x.den e.R e.r))
     rw [hxe,Zox,Z91]
     unfold SlX at hX
     rw [Z2b] at hX
     by_cases hb:(ix.den e.R e.r).toNat < (dec (c0.den e.R e.r)).length
     ·have hel:(elt ks0 ((dec (c0.den e.R e.r)).getD (ix.den e.R e.r).toNat 0)).length=ks0.length:=by
       rcases hX.1.1 with ⟨_,hn⟩ | ⟨b,off,cap,_,_,_,hel,_⟩
       ·rw [hn] at hb; simp at hb
       ·exact hel _ (by simp [List.getD,hb])
      have:=Z5d.at hel.symm (hX.2 ((dec (c0.den e.R e.r)).getD (ix.den e.R e.r).toNat 0) (by simp [List.getD,hb])) hk
      have hj:j < ks0.length:=(List.getElem?_eq_some_iff.1 hk).1
      have helt:(elt ks0 ((dec (c0.den e.R e.r)).getD (ix.den e.R e.r).toNat 0)).getD j 0=(if ks0.length=1 then (dec (c0.den e.R e.r)).getD (ix.den e.R e.r).toNat 0 else (dec ((dec (c0.den e.R e.r)).getD (ix.den e.R e.r).toNat 0)).getD j 0):=by
       unfold elt
       split
       ·rename_i h1
        have:j=0:=by omega
        subst this
        rfl
       ·rfl
      rw [helt] at this
      unfold SlX
      rw [Z2b] at this ⊢
      exact this
     ·have hz:(dec (c0.den e.R e.r)).getD (ix.den e.R e.r).toNat 0=0:=by
       simp [List.getD,List.getElem?_eq_none (by omega:(dec (c0.den e.R e.r)).length≤(ix.den e.R e.r).toNat)]
      rw [hz]
      have:(if ks0.length=1 then (0:Int) else (dec 0).getD j 0)=0:=by
       rw [Z2o]
       split <;> simp
      rw [this]
      exact Zoz
    ·cases hg
   ·cases hg
  ·cases hg
theorem Rep.gread {e:Env} {W0:Bas} {s:St} {w:World} (h:Rep e W0 s w) {g:G} {ks:List K} {c:E} (hg:Z2v s g=some (ks,c)):Z5a w ks (g.val e) (c.den e.R e.r):=by
 cases g with
 | e g ix j x=>exact (h.greadX (g:=.e g ix j x) rfl hg).now h.below
 | a i=>exact (h.arg i ks c hg).now h.below
 | o n =>
  simp only [Z2v] at hg
  split at hg
  ·rename_i b hb
   split at hg
   ·rename_i hl
    simp only [Option.some.injEq,Prod.mk.injEq] at hg
    obtain ⟨rfl,rfl⟩:=hg
    exact (h.row n b hb hl).sl
   ·cases hg
  ·cases hg
theorem Rep.alloc {e:Env} {W0:Bas} {s:St} {w:World} (h:Rep e W0 s w) (t:TypeId) (cells:List SC)
  (hs:s.scp=true) (hc:cells.all (SC.scp s.mem.length s.rows.length)=true) :
  Rep { e with β:=e.β++[w.heap.size] } W0 { s with mem:=s.mem++[⟨t,cells,true⟩] } (w.alloc (.cells (cells.map (SC.den e)).toArray t)) ∧
  Env.like s.mem.length s.rows.length e { e with β:=e.β++[w.heap.size] }:=by
 obtain ⟨hf,hm⟩:=St.scp_spec hs
 have hlike:Env.like s.mem.length s.rows.length e { e with β:=e.β++[w.heap.size] } :=
  ⟨rfl,rfl,rfl,fun n hn=>Z12 _ _ _ _ (by rw [h.nb]; exact hn),fun _ _=>rfl⟩
 refine ⟨?_,hlike⟩
 have hnew:(e.β++[w.heap.size]).getD s.mem.length 0=w.heap.size:=by
  simp [List.getD,← h.nb]
 have hold:∀ n,n < s.mem.length→(e.β++[w.heap.size]).getD n 0=e.β.getD n 0:=fun n hn=>hlike.β n hn
 have hcases:∀ n b,(s.mem++[(⟨t,cells,true⟩:Blk)])[n]?=some b→(n < s.mem.length∧s.mem[n]?=some b)∨(n=s.mem.length∧b=⟨t,cells,true⟩):=by
  intro n b hb
  rcases Nat.lt_trichotomy n s.mem.length with hn | hn | hn
  ·exact .inl ⟨hn,by rwa [List.getElem?_append_left hn] at hb⟩
  ·subst hn; simp at hb; exact .inr ⟨rfl,hb.symm⟩
  ·rw [List.getElem?_eq_none (by simp; omega)] at hb; cases hb
 have hlt:∀ n b,s.mem[n]?=some b→b.live=true→e.β.getD n 0 < w.heap.size:=fun n b hb hl=>Z1g (h.blk n b hb hl)
 refine ⟨?_,?_,?_,?_,?_,?_,?_,?_,?_,?_,?_,?_,h.gl,h.arg⟩
 ·exact h.below.alloc _
 ·simp [h.nb]
 ·exact h.ng
 ·exact h.nv
 ·exact h.nx
 ·intro n b hb hl
  rcases hcases n b hb with ⟨hn,hb'⟩ | ⟨rfl,rfl⟩
  ·show (w.alloc _).heap[(e.β++[w.heap.size]).getD n 0]?=_
   rw [hold n hn,Below.heap_alloc _ _ _ (hlt n b hb' hl),h.blk n b hb' hl,Z21 hlike (hm b (List.mem_of_getElem? hb'))]
  ·show (w.alloc _).heap[(e.β++[w.heap.size]).getD s.mem.length 0]?=_
   rw [hnew,Z21 hlike hc]
   exact heap_alloc_new w _
 ·intro n b hb hl hn'
  rcases hcases n b hb with ⟨hn,hb'⟩ | ⟨rfl,rfl⟩
  ·show W0.may ((e.β++[w.heap.size]).getD n 0)
   rw [hold n hn]; exact h.own n b hb' hl hn'
  ·show W0.may ((e.β++[w.heap.size]).getD s.mem.length 0)
   rw [hnew]; exact .inl h.below.size
 ·intro n m b c hb hc' hlb hlc heq
  have heq':(e.β++[w.heap.size]).getD n 0=(e.β++[w.heap.size]).getD m 0:=heq
  rcases hcases n b hb with ⟨hn,hb'⟩ | ⟨rfl,rfl⟩ <;> rcases hcases m c hc' with ⟨hm',hc''⟩ | ⟨rfl,rfl⟩
  ·rw [hold n hn,hold m hm'] at heq'
   exact h.sep n m b c hb' hc'' hlb hlc heq'
  ·rw [hold n hn,hnew] at heq'
   have:=hlt n b hb' hlb
   omega
  ·rw [hold m hm',hnew] at heq'
   have:=hlt m c hc'' hlc
   omega
  ·rfl
 ·intro n b hb hl
  exact (h.row n b hb hl).kept (World.grownBy_alloc w _ none) (fun k _ hk=>by cases hk)
 ·exact h.rown
 ·exact h.rsep
 ·intro n m b c hb hc' hlb hlc
  rcases hcases n b hb with ⟨hn,hb'⟩ | ⟨rfl,rfl⟩
  ·show _ ≠ some ((e.β++[w.heap.size]).getD n 0)
   rw [hold n hn]; exact h.brs n m b c hb' hc' hlb hlc
  ·show _ ≠ some ((e.β++[w.heap.size]).getD s.mem.length 0)
   rw [hnew]
   intro hk
   have:=(h.row m c hc' hlc).blk_lt hk
   omega
theorem Zs.setRow_other {w:World} {ty:TypeId} {ks:List K} {v:Value} {c:Int} (h:Zs w ty ks v c) (g:Nat) (cs:Array Value) (hg:Z6 v ≠ some g):Zs (w.setRow g cs) ty ks v c :=
 h.kept (row:=some g) ⟨rfl,rfl,rfl,by simp,fun k _ hk=>Go.setRow_other w g k cs (fun h=>hk (by rw [h]))⟩ (fun k hk hh=>hg (by rw [hk,hh]))
theorem Z15 {α:Type} {l:List α} {n m:Nat} {x y:α} (h:(l.set n x)[m]?=some y):(m=n∧y=x∧n < l.length)∨(m ≠ n∧l[m]?=some y):=by
 rw [List.getElem?_set] at h
 split at h
 ·rename_i hh
  subst hh
  split at h
  ·exact .inl ⟨rfl,by simpa using h.symm,by assumption⟩
  ·cases h
 ·exact .inr ⟨fun hh=>by simp_all,h⟩
theorem Rep.store {e:Env} {W0:Bas} {s:St} {w:World} (h:Rep e W0 s w) {n:Nat} {b:Blk} (hb:s.mem[n]?=some b) (hl:b.live=true) (hf:s.fl≤n) (cs:List SC) :
  Rep e W0 { s with mem:=s.mem.set n { b with cells:=cs } } (w.setRow (e.β.getD n 0) (cs.map (SC.den e)).toArray):=by
 have hcases:∀ m c,(s.mem.set n { b with cells:=cs })[m]?=some c→(m=n∧c={ b with cells:=cs })∨(m ≠ n∧s.mem[m]?=some c):=fun m c hm=>by
  rcases Z15 hm with ⟨h1,h2,_⟩ | h2
  ·exact .inl ⟨h1,h2⟩
  ·exact .inr h2
 refine ⟨?_,?_,?_,?_,?_,?_,?_,?_,?_,?_,?_,?_,h.gl,h.arg⟩
 ·exact h.below.setRow (h.own n b hb hl hf) _
 ·simpa using h.nb
 ·exact h.ng
 ·exact h.nv
 ·exact h.nx
 ·intro m c hc hlc
  rcases hcases m c hc with ⟨rfl,rfl⟩ | ⟨hne,hc'⟩
  ·exact setRow_heap w _ _ _ _ _ (h.blk m b hb hl)
  ·rw [setRow_other w _ _ _ (fun heq=>hne (h.sep m n c b hc' hb hlc hl heq))]
   exact h.blk m c hc' hlc
 ·intro m c hc hlc hfm
  rcases hcases m c hc with ⟨rfl,rfl⟩ | ⟨hne,hc'⟩
  ·exact h.own m b hb hl hf
  ·exact h.own m c hc' hlc hfm
 ·intro m k c d hc hd hlc hld heq
  rcases hcases m c hc with ⟨rfl,rfl⟩ | ⟨hne,hc'⟩ <;> rcases hcases k d hd with ⟨rfl,rfl⟩ | ⟨hne',hd'⟩
  ·rfl
  ·exact h.sep _ _ b d hb hd' hl hld heq
  ·exact h.sep _ _ c b hc' hb hlc hl heq
  ·exact h.sep _ _ c d hc' hd' hlc hld heq
 ·intro m c hc hlc
  exact (h.row m c hc hlc).setRow_other _ _ (h.brs n m b c hb hc hl hlc)
 ·exact h.rown
 ·exact h.rsep
 ·intro m k c d hc hd hlc hld
  rcases hcases m c hc with ⟨rfl,rfl⟩ | ⟨hne,hc'⟩
  ·exact h.brs m k b d hb hd hl hld
  ·exact h.brs m k c d hc' hd hlc hld
theorem Rep.storeRow {e:Env} {W0:Bas} {s:St} {w:World} (h:Rep e W0 s w) {n:Nat} {b:Row} (hb:s.rows[n]?=some b) (hl:b.live=true) (hf:s.flr≤n)
  {g:Nat} (hob:Z6 ((G.o n).val e)=some g) {x:E} (cs:Array Value) (hrow:Zs (w.setRow g cs) b.ty b.ks ((G.o n).val e) (x.den e.R e.r)) :
  Rep e W0 { s with rows:=s.rows.set n { b with c:=x } } (w.setRow g cs):=by
 have hcases:∀ m c,(s.rows.set n { b with c:=x })[m]?=some c→(m=n∧c={ b with c:=x })∨(m ≠ n∧s.rows[m]?=some c):=fun m c hm=>by
  rcases Z15 hm with ⟨h1,h2,_⟩ | h2
  ·exact .inl ⟨h1,h2⟩
  ·exact .inr h2
 refine ⟨?_,h.nb,?_,h.nv,h.nx,?_,h.own,h.sep,?_,?_,?_,?_,h.gl,h.arg⟩
 ·exact h.below.setRow (h.rown n b hb hl hf g hob) _
 ·simpa using h.ng
 ·intro m c hc hlc
  rw [setRow_other w _ _ _ (fun heq=>h.brs m n c b hc hb hlc hl (by rw [hob,heq]))]
  exact h.blk m c hc hlc
 ·intro m c hc hlc
  rcases hcases m c hc with ⟨rfl,rfl⟩ | ⟨hne,hc'⟩
  ·exact hrow
  ·exact (h.row m c hc' hlc).setRow_other _ _ (fun hk=>hne (h.rsep m n c b g hc' hb hlc hl hk hob))
 ·intro m c hc hlc hfm k hk
  rcases hcases m c hc with ⟨rfl,rfl⟩ | ⟨hne,hc'⟩
  ·exact h.rown m b hb hl hf k hk
  ·exact h.rown m c hc' hlc hfm k hk
 ·intro m k c d j hc hd hlc hld
  rcases hcases m c hc with ⟨rfl,rfl⟩ | ⟨hne,hc'⟩ <;> rcases hcases k d hd with ⟨rfl,rfl⟩ | ⟨hne',hd'⟩
  ·exact fun _ _=>rfl
  ·exact h.rsep _ _ b d j hb hd' hl hld
  ·exact h.rsep _ _ c b j hc' hb hlc hl
  ·exact h.rsep _ _ c d j hc' hd' hlc hld
 ·intro m k c d hc hd hlc hld
  rcases hcases k d hd with ⟨rfl,rfl⟩ | ⟨hne,hd'⟩
  ·exact h.brs m k c b hc hb hlc hl
  ·exact h.brs m k c d hc hd' hlc hld
theorem Zs.block {w:World} {ty:TypeId} {ks:List K} {v:Value} {c:Int} (h:Zs w ty ks v c) (hn:dec c ≠ []) :
    ∃ g cap cur,v=.slice (some ⟨g,0,none⟩) (dec c).length cap∧Z6 v=some g∧ks.length ≠ 0∧(∀ x ∈ dec c,(elt ks x).length=ks.length)∧w.heap[g]?=some (.cells cur ty (0,0))∧(dec c).length≤cap∧cap≤maxLen ∧
      cur.size=cap * ks.length∧cur.toList.take ((dec c).length * ks.length)=Zb ks (dec c):=by
  rcases h with ⟨h1,_⟩ | ⟨h0,h1,h2⟩
  · exact absurd h1 hn
  · rcases h2.2 with ⟨hv,hl⟩ | ⟨g,cap,cur,hv,_,hc,hle,hm,hsz,ht⟩
    · exact absurd (List.eq_nil_of_length_eq_zero hl) hn
    · have hpos:0 < (dec c).length:=List.length_pos_iff.2 hn
      have:cap ≠ 0:=by omega
      exact ⟨g,cap,cur,hv,by rw [hv]; simp [Z6,this],h0,h1,hc,hle,hm,hsz,ht⟩
theorem Z78 (ks:List K) (a b:List Int):Zb ks (a++b)=Zb ks a++Zb ks b:=by simp [Zb]
theorem Zg2 {ks:List K} {x:Int} (hx:(elt ks x).length=ks.length):∀ {l:List Int} (i:Nat),(∀ y ∈ l,(elt ks y).length=ks.length)→i < l.length →
  Zb ks (l.set i x)=(Zb ks l).take (i * ks.length)++Z7 ks (elt ks x)++(Zb ks l).drop (i * ks.length + ks.length)
 | [],_,_,hi=>by simp at hi
 | y::l,0,h,_=>by
  have h1:(Z7 ks (elt ks y)).length=ks.length:=by
   have:=Zl (ks:=ks) (l:=[y]) (by simpa using h y (by simp))
   simpa [Zb] using this
  simp only [List.set_cons_zero,Nat.zero_mul,List.take_zero,Nat.zero_add,Z18j]
  simp only [Zb,List.flatMap_cons]
  rw [← h1,List.drop_left]
 | y::l,i + 1,h,hi=>by
  have h1:(Z7 ks (elt ks y)).length=ks.length:=by
   have:=Zl (ks:=ks) (l:=[y]) (by simpa using h y (by simp))
   simpa [Zb] using this
  have ih:=Zg2 hx (l:=l) i (fun z hz=>h z (by simp [hz])) (by simpa using hi)
  simp only [List.set_cons_succ]
  simp only [Zb,List.flatMap_cons] at ih ⊢
  rw [ih]
  have e1:(i + 1) * ks.length=(Z7 ks (elt ks y)).length + i * ks.length:=by rw [h1,Nat.add_mul,Nat.one_mul,Nat.add_comm]
  rw [e1,List.take_append,Nat.add_assoc,List.drop_append]
  simp [List.take_of_length_le,List.drop_of_length_le]
end Go.Sx
namespace Go.Sx
open Go.RowKit
section
variable {P:Program}
theorem Z95 {t:TypeId} {d:TypeDesc} (h:P.underlying t=some d):∃ i,P.info? t=some i:=by
 cases hi:P.info? t with
 | some i=>exact ⟨i,rfl⟩
 | none=>simp [Program.underlying,hi] at h
theorem Zi {t:TypeId} (h:(P.info? t).isSome=true) (w:World):(sizeOf t).run P w=.ok (P.cellsOf t) w:=by
 obtain ⟨i,hi⟩:=Option.isSome_iff_exists.1 h
 simp [sizeOf,typeInfo,hi,Program.cellsOf]
theorem Z79 {t:TypeId} (h:(P.underlying t).isNone=false) (w:World):(isAgg t).run P w=.ok (Z60 P t) w:=by
 cases hd:P.underlying t with
 | none=>simp [hd] at h
 | some d=>cases d <;> simp [isAgg,run_underlying hd,Z60,hd]
theorem Zp0 {t:TypeId} (h:(P.underlying t).isNone=false):(P.info? t).isSome=true:=by
 cases hd:P.underlying t with
 | none=>simp [hd] at h
 | some d=>obtain ⟨i,hi⟩:=Z95 hd; simp [hi]
theorem Z35 {t:TypeId} {z:List SC} (h:Z5w P t=some z) (w:World) (e:Env):∃ v,(zeroValue t).run P w=.ok v w∧v.cells=(z.map (SC.den e)).toArray:=by
 simp only [Z5w,Option.map_eq_some_iff] at h
 obtain ⟨v,hv,rfl⟩:=h
 rw [Option.bind_eq_some_iff] at hv
 obtain ⟨i,hi,hz⟩:=hv
 refine ⟨v,by simp [zeroValue,typeInfo,hi,hz],?_⟩
 rw [List.map_map,show (SC.den e ∘ SC.ofV)=id from funext fun v=>SC.den_ofV e v]
 simp
theorem SC.den_one {e:Env} {c:SC} (hc:c.one=true):(c.den e).oneCell'=true:=by
 cases c <;> simp only [SC.den] <;> try rfl
 case go g=>obtain ⟨a,l,c,h⟩:=G.val_slice e g; rw [h]; rfl
 case gv g size lo hi=>obtain ⟨a,l,c,h⟩:=G.val_slice e g; rw [h]; rfl
 case gz g=>obtain ⟨a,l,c,h⟩:=G.val_slice e g; rw [h]; rfl
 case l v=>exact hc
theorem SC.den_one' {e:Env} {W0:Bas} {s:St} {w:World} (_h:Rep e W0 s w) {c:SC} (hc:c.one=true) (_hs:c.scp s.mem.length s.rows.length=true):(c.den e).oneCell'=true:=SC.den_one hc
theorem Z6g {v:Value} (h:v.oneCell'=true):v.cells=#[v]:=by
 cases v <;> simp_all [Value.oneCell',Value.cells]
theorem SW.cells_den {e:Env} {W0:Bas} {s:St} {w:World} (h:Rep e W0 s w) {y:SW} (hc:y.cells.all SC.one=true) (hs:y.scp s.mem.length s.rows.length=true):(y.den e).cells=(y.cells.map (SC.den e)).toArray:=by
 cases y with
 | o c =>
  simp only [SW.cells,List.all_cons,List.all_nil,Bool.and_true] at hc
  simp only [SW.den,SW.cells,Z18k,Z18l]
  exact Z6g (SC.den_one' h hc hs)
 | a cs=>rfl
def Zp (P:Program) (e:Env) (W0:Bas) (s s':St) (o:Oper) (ev:Operand→Value) (v:SV) (w:World):Prop :=
  s'.fr=s.fr∧s'.nv=s.nv∧s'.nx=s.nx∧s'.fl=s.fl∧s'.flr=s.flr∧s'.dp=s.dp ∧
  ∃ e' w' nx,(execOp ev o).run P w=.ok nx w'∧(nx=.value (v.den e')∨(nx=.skip∧v.den e'=undef))∧Rep e' W0 s' w' ∧
    Env.le e e'∧e'.r=e.r∧e'.R=e.R∧e'.ω=e.ω∧(∀ x ∈ s.fr,x.den e'=x.den e)
theorem Zp.same {e:Env} {W0:Bas} {s:St} {o:Oper} {ev:Operand→Value} {v:SV} {w:World} (h:Rep e W0 s w)
  (hr:(execOp ev o).run P w=.ok (.value (v.den e)) w):Zp P e W0 s s o ev v w :=
 ⟨rfl,rfl,rfl,rfl,rfl,rfl,e,w,_,hr,.inl rfl,h,Env.le_refl _,rfl,rfl,rfl,fun _ _=>rfl⟩
theorem Zp.alloc {e:Env} {W0:Bas} {s s':St} {o:Oper} {ev:Operand→Value} {w:World} {t:TypeId} {cells:List SC} (h:Rep e W0 s w) (hn:s.new t cells=some s') {v:SV}
  (hr:(execOp ev o).run P w=.ok (.value (v.den { e with β:=e.β++[w.heap.size] })) (w.alloc (.cells (cells.map (SC.den e)).toArray t))):Zp P e W0 s s' o ev v w:=by
 unfold St.new at hn
 split at hn
 ·rename_i hc
  simp only [Z18r] at hc
  simp only [Option.some.injEq] at hn
  subst hn
  obtain ⟨hrep,hlike⟩:=h.alloc t cells hc.1 hc.2
  exact ⟨rfl,rfl,rfl,rfl,rfl,rfl,_,_,_,hr,.inl rfl,hrep,⟨[],[w.heap.size],[],[],by simp⟩,rfl,rfl,rfl,fun x hx=>SV.den_like hlike x ((St.scp_spec hc.1).1 x hx)⟩
 ·cases hn
theorem Zuq {e:Env} {W0:Bas} {s:St} {w:World} (h:Rep e W0 s w) (off:Nat):(one (.p s.mem.length off)).den { e with β:=e.β++[w.heap.size] }=.pointer (some ⟨w.heap.size,off,none⟩):=by
 simp [one,SV.den,SW.den,SC.den,Z1z,List.getD,← h.nb]
variable {e:Env} {W0:Bas} {s s':St} {o:Oper} {ev:Operand→Value} {v:SV} {w:World} {aZ:List B}
theorem Zzw {t:TypeId} (ho:o.op=.alloc t) (h:op1 P s o=some (aZ,v,s')) (hrep:Rep e W0 s w):Zp P e W0 s s' o ev v w:=by
 simp only [op1,ho] at h
 split at h
 ·rename_i z hz
  simp only [Option.map_eq_some_iff,Prod.mk.injEq] at h
  obtain ⟨s1,hs1,rfl,rfl,rfl⟩:=h
  obtain ⟨zv,hz1,hz2⟩:=Z35 hz w e
  refine Zp.alloc hrep hs1 ?_
  rw [Zuq hrep]
  simp [execOp,ho,Instr.alloc,hz1,newVar,newRow,hz2]
 ·cases h
theorem op_box {t:TypeId} {x:Operand} (ho:o.op=.box t x) (h:op1 P s o=some (aZ,v,s')) (hrep:Rep e W0 s w) (hev:ev x=(s.ev x).den e):Zp P e W0 s s' o ev v w:=by
 simp only [op1,ho] at h
 split at h
 ·rename_i y hy
  split at h
  ·rename_i hone
   simp only [Option.map_eq_some_iff,Prod.mk.injEq] at h
   obtain ⟨s1,hs1,rfl,rfl,rfl⟩:=h
   refine Zp.alloc hrep hs1 ?_
   have hsc:y.scp s.mem.length s.rows.length=true:=by
    unfold St.new at hs1
    split at hs1
    ·rename_i hc
     simp only [Z18r] at hc
     cases y <;> simpa [SW.scp,SW.cells] using hc.2
    ·cases hs1
   rw [Zuq hrep]
   rw [hy] at hev
   simp [execOp,ho,Instr.box,newVar,newRow,hev,SV.den,SW.cells_den hrep hone hsc]
  ·cases h
 ·cases h
theorem Zur {x:Operand} (ho:o.op=.move x∨o.op=.assign x) (h:op1 P s o=some (aZ,v,s')) (hrep:Rep e W0 s w) (hev:ev x=(s.ev x).den e):Zp P e W0 s s' o ev v w:=by
 rcases ho with ho | ho <;> simp only [op1,ho,Option.some.injEq,Prod.mk.injEq] at h <;> obtain ⟨rfl,rfl,rfl⟩:=h <;>
  exact Zp.same hrep (by simp [execOp,ho,hev])
theorem Z15t {c a b:Operand} (ho:o.op=.pick c a b) (h:op1 P s o=some (aZ,v,s')) (hrep:Rep e W0 s w) (hc:ev c=(s.ev c).den e) (ha:ev a=(s.ev a).den e) (hb:ev b=(s.ev b).den e):Zp P e W0 s s' o ev v w:=by
 simp only [op1,ho] at h
 split at h
 ·rename_i hx
  simp only [Option.some.injEq,Prod.mk.injEq] at h
  obtain ⟨rfl,rfl,rfl⟩:=h
  rw [hx] at hc
  exact Zp.same hrep (by simp [execOp,ho,hc,ha,SV.den,SW.den,SC.den,B.den,asBool])
 ·rename_i hx
  simp only [Option.some.injEq,Prod.mk.injEq] at h
  obtain ⟨rfl,rfl,rfl⟩:=h
  rw [hx] at hc
  exact Zp.same hrep (by simp [execOp,ho,hc,hb,SV.den,SW.den,SC.den,B.den,asBool])
 ·cases h
theorem Z96 {α:Type} (l:List α) (off n j:Nat):((l.drop off).take n)[j]?=if j < n then l[off + j]? else none:=by
 simp [List.getElem?_take,List.getElem?_drop]
theorem Z36 {t:TypeId} {cs:List SC} {off:Nat} {y:SW} (h:Zrm P t cs off=some y) (g:Nat) (base:Nat) (hcell:∀ j,j < cs.length→w.cell? ⟨g,base + j,none⟩=some ((cs.map (SC.den e)).getD j undef)) :
  (loadVar t ⟨g,base + off,none⟩).run P w=.ok (y.den e) w:=by
 unfold Zrm at h
 split at h
 ·cases h
 ·rename_i hk
  simp only [Bool.not_eq_true] at hk
  split at h
  ·rename_i hagg
   split at h
   ·rename_i hle
    simp only [Option.some.injEq] at h
    subst h
    simp only [loadVar,Sem.run_bind,Z79 hk,Result.andThen_ok,hagg,if_true,Zi (Zp0 hk),Sem.run_pure]
    have hl:((cs.drop off).take (P.cellsOf t)).length=P.cellsOf t:=by simp; omega
    have:=run_loadCells_list (P:=P) w ⟨g,base + off,none⟩ (((cs.drop off).take (P.cellsOf t)).map (SC.den e)) (fun j v hj=>by
     rw [Addr.add_lit]
     rw [List.getElem?_map,Z96] at hj
     split at hj
     ·rename_i hjn
      have hlt:off + j < cs.length:=by omega
      rw [Nat.add_assoc,hcell (off + j) hlt]
      simp [hlt] at hj
      simp [List.getD,hlt,hj]
     ·simp at hj)
    rw [List.length_map,hl] at this
    rw [this]
    simp [SW.den]
   ·cases h
  ·rename_i hagg
   simp only [Option.map_eq_some_iff] at h
   obtain ⟨c,hc,rfl⟩:=h
   have hlt:off < cs.length:=(List.getElem?_eq_some_iff.1 hc).1
   simp only [loadVar,Sem.run_bind,Z79 hk,Result.andThen_ok,hagg,Bool.false_eq_true,if_false,run_load,hcell off hlt]
   simp [List.getD,hc,SW.den]
theorem Zbw (hrep:Rep e W0 s w) {n:Nat} {b:Blk} (hb:s.mem[n]?=some b) (hl:b.live=true) (j:Nat) (hj:j < b.cells.length) :
  w.cell? ⟨e.β.getD n 0,j,none⟩=some ((b.cells.map (SC.den e)).getD j undef):=by
 have h1:=hrep.blk n b hb hl
 unfold World.cell?
 simp only [h1]
 simp [List.getD,hj]
theorem Z16:∀ {ks:List K} {xs:List Int},xs.length=ks.length→(Z7 ks xs).length=ks.length
 | [],[],_=>rfl
 | _::ks,_::xs,h=>by simp only [Z7,List.length_cons] at h ⊢; rw [Z16 (by omega)]
 | [],_::_,h=>by simp at h
 | _::_,[],h=>by simp at h
theorem Z4u {ks:List K}:∀ {l:List Int} {i j:Nat},(∀ x ∈ l,(elt ks x).length=ks.length)→i < l.length→j < ks.length →
  (Zb ks l)[i * ks.length + j]?=(Z7 ks (elt ks (l.getD i 0)))[j]?
 | [],_,_,_,hi,_=>by simp at hi
 | y::l,0,j,h,_,hj=>by
  have h1:=Z16 (h y (by simp))
  simp only [Zb,List.flatMap_cons,Nat.zero_mul,Nat.zero_add]
  rw [List.getElem?_append_left (by omega)]
  simp
 | y::l,i + 1,j,h,hi,hj=>by
  have h1:=Z16 (h y (by simp))
  have ih:=Z4u (l:=l) (i:=i) (j:=j) (fun z hz=>h z (by simp [hz])) (by simpa using hi) hj
  simp only [Zb,List.flatMap_cons] at ih ⊢
  rw [List.getElem?_append_right (by rw [h1,Nat.add_mul]; omega),h1,show (i + 1) * ks.length + j - ks.length=i * ks.length + j by rw [Nat.add_mul]; omega,ih]
  simp
theorem Zh9 {c ix:E} {R:Fo} {r:List Int} (h:∀ b ∈ inB c ix,b.den R r=true):0≤ix.den R r∧(ix.den R r).toNat < (dec (c.den R r)).length∧ix.den R r < ((dec (c.den R r)).length:Int):=by
 have h1:=h (Z5b (.c 0) ix) (by simp [inB])
 have h2:=h (Ztv ix (Zop c)) (by simp [inB])
 rw [Z2m,Z18s] at h1
 rw [Z90,Z18s,Z5f] at h2
 simp only [E.den] at h1
 omega
theorem Zbf {c lo hi:E} {R:Fo} {r:List Int} (h:∀ b ∈ vB c lo hi,b.den R r=true):0≤lo.den R r∧lo.den R r≤hi.den R r∧hi.den R r≤((dec (c.den R r)).length:Int):=by
 have h1:=h (Z5b (.c 0) lo) (by simp [vB])
 have h2:=h (Z5b lo hi) (by simp [vB])
 have h3:=h (Z5b hi (Zop c)) (by simp [vB])
 rw [Z2m,Z18s] at h1 h2 h3
 rw [Z5f] at h3
 simp only [E.den] at h1
 exact ⟨h1,h2,h3⟩
theorem Z97 {g:G} {ks:List K} {c ix:E} (h1:(elt ks ((dec (c.den e.R e.r)).getD (ix.den e.R e.r).toNat 0)).length=ks.length) :
  (Zj8 g ks c ix).map (SC.den e)=Z7 ks (elt ks ((dec (c.den e.R e.r)).getD (ix.den e.R e.r).toNat 0)):=by
 have key:∀ (ks:List K) (i:Nat) (es:List E),(Zb8 g ix i ks es).map (SC.den e)=Z7 ks (es.map (E.den e.R e.r)):=by
  intro ks
  induction ks with
  | nil=>intro i es; cases es <;> rfl
  | cons k ks ih =>
   intro i es
   cases es with
   | nil=>cases k <;> rfl
   | cons x es =>
    cases k with
    | i k=>simp only [Zb8,Z18k,ih,Z7,K.mk,SC.den]
    | b =>
     simp only [Zb8,Z18k,ih,Z7,K.mk,SC.den]
     congr 2
     unfold mkNz
     split <;> simp [B.den,E.den]
    | s ty kr=>simp only [Zb8,Z18k,ih,Z7,K.mk,SC.den,G.val]
 unfold Zj8
 rw [key]
 congr 1
 rw [List.map_map]
 have hf:(E.den e.R e.r ∘ fun j=>comp ks.length (Zzn c ix) j)=fun j=>if ks.length=1 then (dec (c.den e.R e.r)).getD (ix.den e.R e.r).toNat 0 else (dec ((dec (c.den e.R e.r)).getD (ix.den e.R e.r).toNat 0)).getD j 0:=by
  funext j
  simp only [Function.comp,Zox,Z91]
 rw [hf]
 generalize (dec (c.den e.R e.r)).getD (ix.den e.R e.r).toNat 0=x at h1 ⊢
 unfold elt at h1 ⊢
 by_cases hk:ks.length=1
 ·simp [hk]
 ·simp only [if_neg hk] at h1 ⊢
  apply List.ext_getElem?
  intro j
  by_cases hj:j < ks.length
  ·rw [List.getElem?_map,List.getElem?_range hj]
   simp [List.getD,h1,hj]
  ·rw [List.getElem?_eq_none (by simp; omega),List.getElem?_eq_none (by omega)]
theorem Zha (hrep:Rep e W0 s w) {g:G} {ks:List K} {c ix:E} (hg:Z2v s g=some (ks,c)) (has:∀ b ∈ inB c ix,b.den e.R e.r=true) :
    ∃ b off,(∀ size j,atV size (g.val e) (ix.den e.R e.r).toNat j=some ⟨b,off + ((ix.den e.R e.r).toNat * size + j),none⟩)∧(elt ks ((dec (c.den e.R e.r)).getD (ix.den e.R e.r).toNat 0)).length=ks.length ∧
      ∀ j,j < ks.length→w.cell? ⟨b,off + ((ix.den e.R e.r).toNat * ks.length + j),none⟩=some (((Zj8 g ks c ix).map (SC.den e)).getD j undef):=by
  obtain ⟨h0,h1,h2⟩:=Zh9 has
  rcases hrep.gread hg with ⟨_,hn⟩ | ⟨b,off,cap,hv,hle,hm,hel,hcell⟩
  · rw [hn] at h1; simp at h1
  · have hx:=hel ((dec (c.den e.R e.r)).getD (ix.den e.R e.r).toNat 0) (by simp [List.getD,h1])
    refine ⟨b,off,fun size j=>by rw [hv]; simp [atV,Addr.add_lit],hx,fun j hj=>?_⟩
    rw [Z97 hx]
    refine hcell _ _ ?_
    rw [Z4u hel h1 hj]
    have:=Z16 hx
    generalize Z7 ks (elt ks ((dec (c.den e.R e.r)).getD (ix.den e.R e.r).toNat 0))=m at this ⊢
    simp [List.getD,this,hj]
theorem Zus (hrep:Rep e W0 s w) {g:Nat} {cs:List SC} (hcs:Z15b s.gl g=some cs) (j:Nat) (hj:j < cs.length):w.cell? ⟨g,j,none⟩=some ((cs.map (SC.den e)).getD j undef):=by
 unfold Z15b at hcs
 rw [Option.map_eq_some_iff] at hcs
 obtain ⟨p,hp,rfl⟩:=hcs
 have h1:=List.mem_of_find?_eq_some hp
 have h2:=List.find?_some hp
 simp only [beq_iff_eq] at h2
 subst h2
 simp only [List.length_map] at hj
 rw [hrep.glw p h1 j p.2[j] (List.getElem?_eq_getElem hj)]
 simp [List.getD,hj,SC.den,E.den]
theorem Z15u {t:TypeId} {x:Operand} (ho:o.op=.load t x) (h:op1 P s o=some (aZ,v,s')) (hrep:Rep e W0 s w) (hev:ev x=(s.ev x).den e) (has:∀ b ∈ aZ,b.den e.R e.r=true):Zp P e W0 s s' o ev v w:=by
 simp only [op1,ho] at h
 split at h
 ·rename_i n off hx
  rw [hx] at hev
  split at h
  ·rename_i b hb
   split at h
   ·rename_i hl
    simp only [Option.map_eq_some_iff,Prod.mk.injEq] at h
    obtain ⟨y,hy,rfl,rfl,rfl⟩:=h
    refine Zp.same hrep ?_
    have:=Z36 (w:=w) (e:=e) hy (e.β.getD n 0) 0 (fun j hj=>by rw [Nat.zero_add]; exact Zbw hrep hb hl j hj)
    rw [Nat.zero_add] at this
    simp only [execOp,ho,hev,SV.den,SW.den,SC.den,Z1z,Instr.loadAt,Instr.sureAddr,Sem.run_bind,Sem.run_pure,Result.andThen_ok,this]
   ·cases h
  ·cases h
 ·rename_i g size ix j hx
  rw [hx] at hev
  split at h
  ·rename_i ks c hg
   split at h
   ·rename_i hsz
    subst hsz
    simp only [Option.map_eq_some_iff,Prod.mk.injEq] at h
    obtain ⟨y,hy,rfl,rfl,rfl⟩:=h
    refine Zp.same hrep ?_
    obtain ⟨b,off,hat,hx,hcell⟩:=Zha hrep hg has
    have hcl:(Zj8 g ks c ix).length=ks.length:=by
     have h1:=congrArg List.length (Z97 (e:=e) (g:=g) hx)
     rw [Z16 hx] at h1
     simpa using h1
    have:=Z36 (w:=w) (e:=e) hy b (off + (ix.den e.R e.r).toNat * ks.length) (fun j hj=>by rw [Nat.add_assoc]; exact hcell j (by omega))
    rw [Nat.add_assoc] at this
    simp only [execOp,ho,hev,SV.den,SW.den,SC.den,hat,Instr.loadAt,Instr.sureAddr,Sem.run_bind,Sem.run_pure,Result.andThen_ok,this]
   ·cases h
  ·cases h
 ·rename_i g off hx
  rw [hx] at hev
  split at h
  ·rename_i cs hcs
   simp only [Option.map_eq_some_iff,Prod.mk.injEq] at h
   obtain ⟨y,hy,rfl,rfl,rfl⟩:=h
   refine Zp.same hrep ?_
   have:=Z36 (w:=w) (e:=e) hy g 0 (fun j hj=>by rw [Nat.zero_add]; exact Zus hrep hcs j hj)
   rw [Nat.zero_add] at this
   simp only [execOp,ho,hev,SV.den,SW.den,SC.den,Instr.loadAt,Instr.sureAddr,Sem.run_bind,Sem.run_pure,Result.andThen_ok,this]
  ·cases h
 ·cases h
end
end Go.Sx
namespace Go.Sx
open Go.RowKit
section
variable {P:Program} {e:Env} {W0:Bas} {s s':St} {o:Oper} {ev:Operand→Value} {v:SV} {w:World} {aZ:List B}
theorem Zju (e:Env) (cs new:List SC) (off:Nat):(Z61 cs off new).map (SC.den e)=(cs.map (SC.den e)).take off++new.map (SC.den e)++(cs.map (SC.den e)).drop (off + new.length):=by
 simp [Z61]
theorem Z2p {e:Env}:∀ {ks:List K} {cs:List SC} {es:List E},Z2j ks cs=some es→es.length=ks.length∧cs.map (SC.den e)=Z7 ks (es.map (E.den e.R e.r)):=by
 intro ks
 induction ks with
 | nil =>
  intro cs es h
  cases cs with
  | nil=>simp only [Z2j,Option.some.injEq] at h; subst h; simp [Z7]
  | cons c cs=>simp [Z2j] at h
 | cons k ks ih =>
  intro cs es h
  unfold Z2j at h
  split at h
  ·simp_all
  ·rename_i heq
   cases heq
   split at h
   ·rename_i hk
    subst hk
    simp only [Option.map_eq_some_iff] at h
    obtain ⟨es',h',rfl⟩:=h
    obtain ⟨h1,h2⟩:=ih h'
    simp [h1,h2,Z7,K.mk,SC.den]
   ·cases h
  ·rename_i heq
   cases heq
   simp only [Option.map_eq_some_iff] at h
   obtain ⟨es',h',rfl⟩:=h
   obtain ⟨h1,h2⟩:=ih h'
   cases ‹Bool› <;> simp [h1,h2,Z7,K.mk,SC.den,B.den,E.den]
  ·rename_i heq
   cases heq
   simp only [Option.map_eq_some_iff] at h
   obtain ⟨es',h',rfl⟩:=h
   obtain ⟨h1,h2⟩:=ih h'
   simp [h1,h2,Z7,K.mk,SC.den,B.den]
  ·cases h
theorem Zjv {e:Env}:∀ {ks:List K} {cs:List SC} {es:List E},Z2j ks cs=some es→∀ c ∈ cs,(c.den e).oneCell'=true:=by
 intro ks
 induction ks with
 | nil =>
  intro cs es h
  cases cs with
  | nil=>simp
  | cons c cs=>simp [Z2j] at h
 | cons k ks ih =>
  intro cs es h
  unfold Z2j at h
  split at h
  ·simp_all
  ·rename_i heq
   cases heq
   split at h
   ·simp only [Option.map_eq_some_iff] at h
    obtain ⟨es',h',rfl⟩:=h
    intro c hc
    rcases List.mem_cons.1 hc with rfl | hc
    ·rfl
    ·exact ih h' c hc
   ·cases h
  ·rename_i heq
   cases heq
   simp only [Option.map_eq_some_iff] at h
   obtain ⟨es',h',rfl⟩:=h
   intro c hc
   rcases List.mem_cons.1 hc with rfl | hc
   ·rfl
   ·exact ih h' c hc
  ·rename_i heq
   cases heq
   simp only [Option.map_eq_some_iff] at h
   obtain ⟨es',h',rfl⟩:=h
   intro c hc
   rcases List.mem_cons.1 hc with rfl | hc
   ·rfl
   ·exact ih h' c hc
  ·cases h
theorem splice (cur new:List Value) (L m n j:Nat) (h1:j + new.length≤n) (h2:m + n≤L) (h3:L≤cur.length) :
  (cur.take (m + j)++new++cur.drop (m + j + new.length)).take L =
   (cur.take L).take m++((((cur.take L).drop m).take n).take j++new++(((cur.take L).drop m).take n).drop (j + new.length))++(cur.take L).drop (m + n):=by
 apply List.ext_getElem?
 intro p
 simp only [List.getElem?_take,List.getElem?_append,List.length_append,List.length_take,List.length_drop,List.getElem?_drop]
 rw [Nat.min_eq_left (by omega:m + j≤cur.length),Nat.min_eq_left h3,Nat.min_eq_left (by omega:m≤L),Nat.min_eq_left (by omega:n≤L - m),Nat.min_eq_left (by omega:j≤n)]
 by_cases hp:p < L <;> by_cases p1:p < m <;> by_cases p2:p < m + j <;> by_cases p3:p < m + j + new.length <;> by_cases p4:p < m + n <;>
  first
  | omega
  | ((repeat (first | rw [if_pos (by omega)] | rw [if_neg (by omega)])) <;> first | done | rfl | (congr 1; omega))
theorem Zry {ks:List K} {l:List Int} {i:Nat} (h:∀ x ∈ l,(elt ks x).length=ks.length) (hi:i < l.length) :
  ((Zb ks l).drop (i * ks.length)).take ks.length=Z7 ks (elt ks (l.getD i 0)):=by
 apply List.ext_getElem?
 intro j
 rw [List.getElem?_take,List.getElem?_drop]
 have hx:=Z16 (h (l.getD i 0) (by simp [List.getD,hi]))
 split
 ·rename_i hj
  exact Z4u h hi hj
 ·rw [List.getElem?_eq_none (by omega)]
theorem Zzx {t:TypeId} {a x:Operand} (ho:o.op=.store t a x) (h:op1 P s o=some (aZ,v,s')) (hrep:Rep e W0 s w) (ha:ev a=(s.ev a).den e) (hx:ev x=(s.ev x).den e) (has:∀ b ∈ aZ,b.den e.R e.r=true):Zp P e W0 s s' o ev v w:=by
 simp only [op1,ho] at h
 split at h
 ·rename_i n off y hea hex
  split at h
  ·rename_i b hb
   split at h
   ·rename_i hc
    simp only [Z18r,Z18s] at hc
    obtain ⟨⟨⟨⟨⟨⟨hl,hinf⟩,hfl⟩,hsz⟩,hoff⟩,hone⟩,hys⟩:=hc
    simp only [Option.some.injEq,Prod.mk.injEq] at h
    obtain ⟨rfl,rfl,rfl⟩:=h
    rw [hea] at ha
    rw [hex] at hx
    have hx':ev x=y.den e:=hx
    have hcells:=SW.cells_den hrep hone hys
    have hst:=run_storeCells_at P (e.β.getD n 0) off b.ty (y.cells.map (SC.den e)) 0 _ w (hrep.blk n b hb hl) (by simpa using hoff) (fun u hu=>by
     obtain ⟨c,hc,rfl⟩:=List.mem_map.1 hu
     refine SC.den_one' hrep (List.all_eq_true.1 hone c hc) ?_
     cases y with
     | o c'=>simp only [SW.cells,List.mem_singleton] at hc; subst hc; exact hys
     | a cs=>exact List.all_eq_true.1 hys c hc)
    refine ⟨rfl,rfl,rfl,rfl,rfl,rfl,e,_,.skip,?_,.inr ⟨rfl,rfl⟩,hrep.store hb hl hfl (Z61 b.cells off y.cells),Env.le_refl _,rfl,rfl,rfl,fun _ _=>rfl⟩
    have ha':ev a=.pointer (some ⟨e.β.getD n 0,off,none⟩):=ha
    simp only [execOp,ho,ha',hx',Instr.storeAt,Instr.sureAddr,Sem.run_bind,Sem.run_pure,Result.andThen_ok,storeVar,Zi hinf,Sem.run_ite]
    rw [hcells,if_neg (by simp [hsz])]
    simp only [Nat.add_zero] at hst
    rw [hst]
    simp [Zju]
   ·cases h
  ·cases h
 ·rename_i n size ix j y hea hex
  split at h
  ·rename_i b hb
   split at h
   ·rename_i hc
    simp only [Z18r,Z18s] at hc
    obtain ⟨⟨⟨⟨⟨hl,hinf⟩,hfl⟩,hsize⟩,hsz⟩,hj⟩:=hc
    split at h
    ·rename_i es hes
     simp only [Option.some.injEq,Prod.mk.injEq] at h
     obtain ⟨rfl,rfl,rfl⟩:=h
     rw [hea] at ha
     rw [hex] at hx
     have hx':ev x=y.den e:=hx
     obtain ⟨h0,h1,h2⟩:=Zh9 has
     have hrow:=hrep.row n b hb hl
     obtain ⟨g,cap,cur,hv,hob,hk0,hel,hg,hle,hm,hcs,htake⟩:=hrow.block (fun hn=>by rw [hn] at h1; simp at h1)
     have hxe:=hel ((dec (b.c.den e.R e.r)).getD (ix.den e.R e.r).toNat 0) (by simp [List.getD,h1])
     obtain ⟨hel1,hel2⟩:=Z2p (e:=e) hes
     have hecl:(Zj8 (.o n) b.ks b.c ix).length=b.ks.length:=by
      have h1:=congrArg List.length (Z97 (e:=e) (g:=.o n) hxe)
      rw [Z16 hxe] at h1
      simpa using h1
     have hmem:∀ c ∈ y.cells,c ∈ Z61 (Zj8 (.o n) b.ks b.c ix) j y.cells:=fun c hc=>by simp [Z61,hc]
     have hcells:(y.den e).cells=(y.cells.map (SC.den e)).toArray:=by
      cases y with
      | o c=>exact Z6g (Zjv (e:=e) hes c (hmem c (by simp [SW.cells])))
      | a cs=>rfl
     have hcur:cur.toList.length=cap * b.ks.length:=by simpa using hcs
     have hlen:(Zb b.ks (dec (b.c.den e.R e.r))).length=(dec (b.c.den e.R e.r)).length * b.ks.length:=Zl hel
     have hmul:(ix.den e.R e.r).toNat * b.ks.length + b.ks.length≤(dec (b.c.den e.R e.r)).length * b.ks.length:=by
      rw [← Nat.succ_mul]; exact Nat.mul_le_mul_right _ h1
     have hmul2:(dec (b.c.den e.R e.r)).length * b.ks.length≤cap * b.ks.length:=Nat.mul_le_mul_right _ hle
     have hst:=run_storeCells_at P g ((ix.den e.R e.r).toNat * b.ks.length + j) b.ty (y.cells.map (SC.den e)) 0 _ w hg (by
      simp only [List.length_map]; omega) (fun u hu=>by
      obtain ⟨c,hc,rfl⟩:=List.mem_map.1 hu
      exact Zjv (e:=e) hes c (hmem c hc))
     have hnew:(dec ((Zrl b.c ix (Z2i es)).den e.R e.r))=(dec (b.c.den e.R e.r)).set (ix.den e.R e.r).toNat ((Z2i es).den e.R e.r):=by rw [Zup,Z4]
     have helt:elt b.ks ((Z2i es).den e.R e.r)=es.map (E.den e.R e.r):=Z92 _ _ hel1
     have heltl:(elt b.ks ((Z2i es).den e.R e.r)).length=b.ks.length:=by rw [helt]; simpa using hel1
     have hcl:Zb b.ks (dec ((Zrl b.c ix (Z2i es)).den e.R e.r))=(cur.toList.take ((ix.den e.R e.r).toNat * b.ks.length + j)++y.cells.map (SC.den e)++cur.toList.drop ((ix.den e.R e.r).toNat * b.ks.length + j + y.cells.length)).take ((dec (b.c.den e.R e.r)).length * b.ks.length):=by
      rw [hnew,Zg2 heltl _ hel h1,helt,← hel2]
      have hsp:=splice cur.toList (y.cells.map (SC.den e)) ((dec (b.c.den e.R e.r)).length * b.ks.length) ((ix.den e.R e.r).toNat * b.ks.length) b.ks.length j (by simpa using hj) hmul (by rw [hcur]; exact hmul2)
      rw [List.length_map] at hsp
      rw [hsp,htake,Zry hel h1,← Z97 (g:=.o n) hxe]
      simp only [Z61,List.map_append,List.map_take,List.map_drop]
     have hrow':Zs (w.setRow g (cur.toList.take ((ix.den e.R e.r).toNat * b.ks.length + j)++y.cells.map (SC.den e)++cur.toList.drop ((ix.den e.R e.r).toNat * b.ks.length + j + y.cells.length)).toArray) b.ty b.ks ((G.o n).val e) ((Zrl b.c ix (Z2i es)).den e.R e.r):=by
      refine .inr ⟨hk0,?_,?_,.inr ⟨g,cap,_,?_,Nat.zero_le _,setRow_heap w g cur _ _ _ hg,?_,hm,?_,?_⟩⟩
      ·rw [hnew]
       intro z hz
       rcases List.mem_or_eq_of_mem_set hz with hz | hz
       ·exact hel z hz
       ·rw [hz]; exact heltl
      ·rw [Zl]
       rw [hnew]
       intro z hz
       rcases List.mem_or_eq_of_mem_set hz with hz | hz
       ·exact hel z hz
       ·rw [hz]; exact heltl
      ·rw [hv,hnew,List.length_set]
      ·rw [hnew,List.length_set]; exact hle
      ·simp only [List.size_toArray,List.length_append,List.length_take,List.length_drop,List.length_map,hcur]
       omega
      ·rw [hcl,hnew,List.length_set]
     refine ⟨rfl,rfl,rfl,rfl,rfl,rfl,e,_,.skip,?_,.inr ⟨rfl,rfl⟩,hrep.storeRow hb hl hfl hob _ hrow',Env.le_refl _,rfl,rfl,rfl,fun _ _=>rfl⟩
     have ha':ev a=.pointer (some ⟨g,(ix.den e.R e.r).toNat * b.ks.length + j,none⟩):=by
      rw [ha]
      simp only [SV.den,SW.den,SC.den]
      rw [hv,hsize]
      simp [atV,Addr.add_lit]
     simp only [execOp,ho,ha',hx',Instr.storeAt,Instr.sureAddr,Sem.run_bind,Sem.run_pure,Result.andThen_ok,storeVar,Zi hinf,Sem.run_ite]
     rw [hcells,if_neg (by simp [hsz])]
     simp only [Nat.add_zero] at hst
     rw [hst]
     simp
    ·cases h
   ·cases h
  ·cases h
 ·cases h
theorem Zmm {x:Operand} (ho:o.op=.nilCheck x) (h:op1 P s o=some (aZ,v,s')) (hrep:Rep e W0 s w) (hev:ev x=(s.ev x).den e) (has:∀ b ∈ aZ,b.den e.R e.r=true):Zp P e W0 s s' o ev v w:=by
 simp only [op1,ho] at h
 split at h
 ·rename_i hx
  simp only [Option.some.injEq,Prod.mk.injEq] at h
  obtain ⟨rfl,rfl,rfl⟩:=h
  rw [hx] at hev
  exact Zp.same hrep (by simp [execOp,ho,hev,one,SV.den,SW.den,SC.den,Z1z])
 ·rename_i hx
  rw [hx] at hev
  split at h
  ·rename_i hg
   simp only [Option.some.injEq,Prod.mk.injEq] at h
   obtain ⟨rfl,rfl,rfl⟩:=h
   obtain ⟨b,off,hat,_,_⟩:=Zha hrep hg has
   exact Zp.same hrep (by simp [execOp,ho,hev,one,SV.den,SW.den,SC.den,hat])
  ·cases h
 ·rename_i hx
  simp only [Option.some.injEq,Prod.mk.injEq] at h
  obtain ⟨rfl,rfl,rfl⟩:=h
  rw [hx] at hev
  exact Zp.same hrep (by simp [execOp,ho,hev,one,SV.den,SW.den,SC.den,Z1z])
 ·cases h
theorem op_un {u:UnOp} {t:TypeId} {x:Operand} (ho:o.op=.unOp u t x) (h:op1 P s o=some (aZ,v,s')) (hrep:Rep e W0 s w) (hev:ev x=(s.ev x).den e):Zp P e W0 s s' o ev v w:=by
  simp only [op1,ho] at h
  split at h <;> first
    | (rename_i hx
       simp only [Option.some.injEq,Prod.mk.injEq] at h
       obtain ⟨rfl,rfl,rfl⟩:=h
       rw [hx] at hev
       exact Zp.same hrep (by simp [execOp,ho,hev,one,SV.den,SW.den,SC.den,Op.unary,Op.intArith,Zd2,Z2n,E.den]))
    | cases h
theorem Zrz {a b:TypeId} {x:Operand} (ho:o.op=.convert a b x) (h:op1 P s o=some (aZ,v,s')) (hrep:Rep e W0 s w) (hev:ev x=(s.ev x).den e):Zp P e W0 s s' o ev v w:=by
 simp only [op1,ho] at h
 split at h
 ·rename_i h1 h2 hx
  simp only [Option.some.injEq,Prod.mk.injEq] at h
  obtain ⟨rfl,rfl,rfl⟩:=h
  rw [hx] at hev
  exact Zp.same hrep (by simp [execOp,ho,hev,one,SV.den,SW.den,SC.den,convert,run_underlying h1,run_underlying h2,Conv.intToInt,Zzv])
 ·cases h
theorem Zs0 {x:Operand} {ix:Nat} (ho:o.op=.extract x ix) (h:op1 P s o=some (aZ,v,s')) (hrep:Rep e W0 s w) (hev:ev x=(s.ev x).den e):Zp P e W0 s s' o ev v w:=by
 simp only [op1,ho] at h
 split at h
 ·rename_i xs hx
  simp only [Option.map_eq_some_iff,Prod.mk.injEq] at h
  obtain ⟨y,hy,rfl,rfl,rfl⟩:=h
  rw [hx] at hev
  exact Zp.same hrep (by simp [execOp,ho,hev,SV.den,Instr.extract,hy])
 ·cases h
theorem Z7a {t:TypeId} {cs:List SC} {off:Nat} {y:SW} (h:Z3l P t cs off=some y):(part t (cs.map (SC.den e)).toArray off).run P w=.ok (y.den e) w:=by
 unfold Z3l at h
 split at h
 ·cases h
 ·rename_i hk
  simp only [Bool.not_eq_true] at hk
  split at h
  ·rename_i hagg
   simp only [Option.some.injEq] at h
   subst h
   simp only [part,Sem.run_bind,Z79 hk,Result.andThen_ok,hagg,if_true,Zi (Zp0 hk),Sem.run_pure,SW.den]
   congr 2
   apply Array.ext'
   simp
  ·rename_i hagg
   simp only [Option.map_eq_some_iff] at h
   obtain ⟨c,hc,rfl⟩:=h
   simp only [part,Sem.run_bind,Z79 hk,Result.andThen_ok,hagg,Bool.false_eq_true,if_false]
   simp [hc,SW.den]
theorem Zzy {t:TypeId} {x:Operand} {f:Nat} (ho:o.op=.field t x f) (h:op1 P s o=some (aZ,v,s')) (hrep:Rep e W0 s w) (hev:ev x=(s.ev x).den e):Zp P e W0 s s' o ev v w:=by
 simp only [op1,ho] at h
 split at h
 ·rename_i fields cs hu hx
  split at h
  ·rename_i fd hf
   simp only [Option.map_eq_some_iff,Prod.mk.injEq] at h
   obtain ⟨y,hy,rfl,rfl,rfl⟩:=h
   rw [hx] at hev
   refine Zp.same hrep ?_
   simp only [execOp,ho,hev,SV.den,SW.den,Instr.field,Sem.run_bind,run_underlying hu,Result.andThen_ok,hf,asAgg,Sem.run_pure,Z7a hy]
  ·cases h
 ·cases h
theorem Zjw {t:TypeId} {x:Operand} {f:Nat} (ho:o.op=.fieldAddr t x f) (h:op1 P s o=some (aZ,v,s')) (hrep:Rep e W0 s w) (hev:ev x=(s.ev x).den e) (has:∀ b ∈ aZ,b.den e.R e.r=true):Zp P e W0 s s' o ev v w:=by
 simp only [op1,ho] at h
 split at h
 ·rename_i fields hu
  split at h
  ·rename_i fd hf
   split at h
   ·cases h
   ·rename_i hz
    simp only [Bool.or_eq_true,Z18s,not_or,Bool.not_eq_true] at hz
    have hinf:(P.info? fd.type).isSome=true:=by
     cases hi:P.info? fd.type <;> simp_all
    have hrun:∀ a:Addr,(Instr.fieldAt t (.pointer (some a)) f).run P w=.ok (.pointer (some (a.add fd.offset))) w:=fun a=>by
     simp only [Instr.fieldAt,Sem.run_bind,run_underlying hu,Result.andThen_ok,hf,Instr.sureAddr,Sem.run_pure,fieldPlace,Zi hinf,Sem.run_ite,if_neg hz.1]
    split at h
    ·rename_i n off hx
     simp only [Option.some.injEq,Prod.mk.injEq] at h
     obtain ⟨rfl,rfl,rfl⟩:=h
     rw [hx] at hev
     exact Zp.same hrep (by simp only [execOp,ho,hev,one,SV.den,SW.den,SC.den,Z1z,Sem.run_bind,hrun,Result.andThen_ok,Sem.run_pure,Addr.add_lit])
    ·rename_i g size ix j hx
     rw [hx] at hev
     split at h
     ·rename_i c hg
      simp only [Option.some.injEq,Prod.mk.injEq] at h
      obtain ⟨rfl,rfl,rfl⟩:=h
      obtain ⟨b,off,hat,_,_⟩:=Zha hrep hg has
      have hev':ev x=.pointer (some ⟨b,off + ((ix.den e.R e.r).toNat * size + j),none⟩):=by rw [hev]; simp only [SV.den,SW.den,SC.den,hat]
      refine Zp.same hrep ?_
      simp only [execOp,ho,hev',Sem.run_bind,hrun,Result.andThen_ok,Sem.run_pure,Addr.add_lit,one,SV.den,SW.den,SC.den,hat]
      congr 5
      omega
     ·cases h
    ·cases h
  ·cases h
 ·cases h
end
end Go.Sx
namespace Go.Sx
open Go.RowKit
section
variable {P:Program} {e:Env} {W0:Bas} {s s':St} {o:Oper} {ev:Operand→Value} {v:SV} {w:World} {aZ:List B}
theorem Z2c {x:SV} {i:Nat} (h:Z5c x=some i) (e:Env):∃ k,x.den e=.int k (i:Int):=by
 unfold Z5c at h
 split at h
 ·rename_i k n
  split at h
  ·rename_i hn
   simp only [Option.some.injEq] at h
   subst h
   exact ⟨k,by simp [SV.den,SW.den,SC.den,E.den,Int.toNat_of_nonneg hn]⟩
  ·cases h
 ·cases h
theorem Z7b {x:SV} {i:E} (h:Zzd x=some i) (e:Env):∃ k,x.den e=.int k (i.den e.R e.r):=by
 unfold Zzd at h
 split at h
 ·rename_i k n
  simp only [Option.some.injEq] at h
  subst h
  exact ⟨k,rfl⟩
 ·cases h
theorem Zjx {t:TypeId} {x ix:Operand} (ho:o.op=.indexAddr t x ix) (h:op1 P s o=some (aZ,v,s')) (hrep:Rep e W0 s w) (hev:ev x=(s.ev x).den e) (hix:ev ix=(s.ev ix).den e) (has:∀ b ∈ aZ,b.den e.R e.r=true):Zp P e W0 s s' o ev v w:=by
 simp only [op1,ho] at h
 have arr:∀ {len:Nat} {elem:TypeId} {i:Nat} {k:IntKind} (a:Addr),P.underlying t=some (.array len elem)→(P.info? elem).isSome=true→i < len→ev ix=.int k (i:Int)→ev x=.pointer (some a) →
   (execOp ev o).run P w=.ok (.value (.pointer (some (a.add (i * P.cellsOf elem))))) w:=by
  intro len elem i k a hu hinf hi he hx
  simp only [execOp,ho,Instr.indexAt,he,hx,asIntOf,Sem.run_bind,Sem.run_pure,Result.andThen_ok,run_underlying hu,Instr.sureAddr,Sem.run_ite,Zi hinf]
  rw [if_pos ⟨by omega,by omega⟩]
  simp
 have slc:∀ {len cap:Nat} {elem:TypeId} {i:Int} {k:IntKind} (a:Addr),P.underlying t=some (.slice elem)→(P.info? elem).isSome=true→0≤i→i < (len:Int)→ev ix=.int k i→ev x=.slice (some a) len cap →
   (execOp ev o).run P w=.ok (.value (.pointer (some (a.add (i.toNat * P.cellsOf elem))))) w:=by
  intro len cap elem i k a hu hinf hi0 hi he hx
  simp only [execOp,ho,Instr.indexAt,he,hx,asIntOf,Sem.run_bind,Sem.run_pure,Result.andThen_ok,run_underlying hu,Sem.run_ite,Zi hinf]
  rw [if_pos ⟨by omega,by omega⟩]
  rfl
 split at h
 ·rename_i len elem n off hu hx
  rw [hx] at hev
  split at h
  ·rename_i i hi
   split at h
   ·rename_i hc
    simp only [Z18r,Z18s] at hc
    simp only [Option.some.injEq,Prod.mk.injEq] at h
    obtain ⟨rfl,rfl,rfl⟩:=h
    obtain ⟨k,hk⟩:=Z2c hi e
    refine Zp.same hrep ?_
    rw [arr ⟨e.β.getD n 0,off,none⟩ hu hc.2 hc.1 (hix.trans hk) hev,Addr.add_lit]
    rfl
   ·cases h
  ·cases h
 ·rename_i len elem g size gx j hu hx
  rw [hx] at hev
  split at h
  ·rename_i hbig
   simp only [Z18r,Z18s] at hbig
   obtain ⟨_,rfl,hlen,rfl,hgx⟩:=hbig
   have hgx:=E.same_eq _ _ hgx
   subst hgx
   split at h
   ·rename_i ie ks c hie hg
    split at h
    ·rename_i hinf
     simp only [Option.some.injEq,Prod.mk.injEq] at h
     obtain ⟨rfl,rfl,rfl⟩:=h
     obtain ⟨k,hk⟩:=Z7b hie e
     obtain ⟨h0,h1,h2⟩:=Zh9 (c:=c) (ix:=ie) (fun b hb=>has b (List.mem_append_left _ hb))
     have h3:=has (Ztv ie (.c len)) (by simp)
     rw [Z90,Z18s] at h3
     simp only [E.den] at h3
     refine Zp.same hrep ?_
     rcases hrep.gread hg with ⟨_,hn⟩ | ⟨b,off,cap,hv,hle,hm,hel,hcell⟩
     ·rw [hn] at h1; simp at h1
     ·obtain ⟨m,hm'⟩:=Int.eq_ofNat_of_zero_le h0
      rw [arr (i:=m) (k:=k) ⟨b,off,none⟩ hu hinf (by omega) (by rw [hix.trans hk,hm']) (hev.trans (by simp [SV.den,SW.den,SC.den,hv,atV,Addr.add_lit,E.den])),Addr.add_lit]
      simp [one,SV.den,SW.den,SC.den,hv,atV,Addr.add_lit,hm']
    ·cases h
   ·cases h
  split at h
  ·rename_i i ks c hi hg
   split at h
   ·rename_i hc
    simp only [Z18r,Z18s] at hc
    simp only [Option.some.injEq,Prod.mk.injEq] at h
    obtain ⟨rfl,rfl,rfl⟩:=h
    obtain ⟨k,hk⟩:=Z2c hi e
    obtain ⟨b,off,hat,_,_⟩:=Zha hrep hg has
    refine Zp.same hrep ?_
    rw [arr ⟨b,off + ((gx.den e.R e.r).toNat * size + j),none⟩ hu hc.2 hc.1 (hix.trans hk) (hev.trans (by simp only [SV.den,SW.den,SC.den,hat])),Addr.add_lit]
    simp only [one,SV.den,SW.den,SC.den,hat]
    congr 5
    omega
   ·cases h
  ·cases h
 ·rename_i elem n off len cap hu hx
  rw [hx] at hev
  split at h
  ·rename_i i hi
   split at h
   ·rename_i hc
    simp only [Z18r,Z18s] at hc
    simp only [Option.some.injEq,Prod.mk.injEq] at h
    obtain ⟨rfl,rfl,rfl⟩:=h
    obtain ⟨k,hk⟩:=Z2c hi e
    refine Zp.same hrep ?_
    rw [slc ⟨e.β.getD n 0,off,none⟩ hu hc.2 (by omega) (by omega) (hix.trans hk) hev,Addr.add_lit]
    simp [one,SV.den,SW.den,SC.den,Z1z]
   ·cases h
  ·cases h
 ·rename_i elem g hu hx
  rw [hx] at hev
  split at h
  ·rename_i ie ks c hi hg
   split at h
   ·rename_i hinf
    simp only [Option.some.injEq,Prod.mk.injEq] at h
    obtain ⟨rfl,rfl,rfl⟩:=h
    obtain ⟨k,hk⟩:=Z7b hi e
    obtain ⟨h0,h1,h2⟩:=Zh9 has
    refine Zp.same hrep ?_
    rcases hrep.gread hg with ⟨_,hn⟩ | ⟨b,off,cap,hv,hle,hm,hel,hcell⟩
    ·rw [hn] at h1; simp at h1
    ·rw [slc ⟨b,off,none⟩ hu hinf h0 h2 (hix.trans hk) (hev.trans hv),Addr.add_lit]
     simp only [one,SV.den,SW.den,SC.den,hv,atV,Addr.add_lit,Nat.add_zero]
   ·cases h
  ·cases h
 ·rename_i elem g size lo hi hu hx
  rw [hx] at hev
  split at h
  ·rename_i ie ks c hie hg
   split at h
   ·rename_i hc
    simp only [Z18r,Z18s] at hc
    obtain ⟨hinf,rfl⟩:=hc
    simp only [Option.some.injEq,Prod.mk.injEq] at h
    obtain ⟨rfl,rfl,rfl⟩:=h
    obtain ⟨k,hk⟩:=Z7b hie e
    obtain ⟨v1,v2,v3⟩:=Zbf (c:=c) (lo:=lo) (hi:=hi) (fun b hb=>has b (List.mem_append_left _ hb))
    have h1:=has (Z5b (.c 0) ie) (by simp)
    have h2:=has (Ztv ie (Z2w hi lo)) (by simp)
    rw [Z2m,Z18s] at h1
    rw [Z90,Z18s] at h2
    simp only [E.den] at h1
    refine Zp.same hrep ?_
    rcases hrep.gread hg with ⟨_,hn⟩ | ⟨b,off,cap,hv,hle,hm,hel,hcell⟩
    ·rw [hn] at v3
     simp only [List.length_nil] at v3
     have hmin:(Z2w hi lo).den e.R e.r=hi.den e.R e.r - lo.den e.R e.r:=Z4t _ _ (by omega) (by simp at v3; omega)
     rw [hmin] at h2
     simp at v3
     omega
    ·have hml:((dec (c.den e.R e.r)).length:Int)≤9223372036854775807:=by simp only [maxLen] at hm; omega
     have hmin:(Z2w hi lo).den e.R e.r=hi.den e.R e.r - lo.den e.R e.r:=Z4t _ _ (by omega) (by omega)
     rw [hmin] at h2
     have hpl:(Z4e lo ie).den e.R e.r=lo.den e.R e.r + ie.den e.R e.r:=Z93 _ _ (by omega) (by omega)
     have hcl:cap ≠ (lo.den e.R e.r).toNat:=by omega
     have hev':ev x=.slice (some ⟨b,off + (lo.den e.R e.r).toNat * P.cellsOf elem,none⟩) ((hi.den e.R e.r).toNat - (lo.den e.R e.r).toNat) (cap - (lo.den e.R e.r).toNat):=by
      rw [hev]
      simp only [SV.den,SW.den,SC.den,hv,Zfj,if_neg hcl,Option.map_some,Addr.add_lit]
     rw [slc _ hu hinf h1 (by omega) (hix.trans hk) hev',Addr.add_lit]
     simp only [one,SV.den,SW.den,SC.den,hv,atV,Addr.add_lit,Nat.add_zero,hpl]
     congr 5
     rw [Int.toNat_add v1 h1,Nat.add_mul]
     omega
   ·cases h
  ·cases h
 ·cases h
theorem Zzz {t:TypeId} {x ix:Operand} (ho:o.op=.index t x ix) (h:op1 P s o=some (aZ,v,s')) (hrep:Rep e W0 s w) (hev:ev x=(s.ev x).den e) (hix:ev ix=(s.ev ix).den e):Zp P e W0 s s' o ev v w:=by
 simp only [op1,ho] at h
 split at h
 ·rename_i len elem cs i hu hx hi
  split at h
  ·rename_i hc
   simp only [Z18r,Z18s] at hc
   simp only [Option.map_eq_some_iff,Prod.mk.injEq] at h
   obtain ⟨y,hy,rfl,rfl,rfl⟩:=h
   rw [hx] at hev
   obtain ⟨k,hk⟩:=Z2c hi e
   have hix':=hix.trans hk
   have hev':ev x=.agg (cs.map (SC.den e)).toArray:=hev
   refine Zp.same hrep ?_
   simp only [execOp,ho,Instr.index,hix',hev',asIntOf,Sem.run_bind,Sem.run_pure,Result.andThen_ok,run_underlying hu,Sem.run_ite,Zi hc.2]
   rw [if_pos ⟨by omega,by omega⟩]
   simp [Z7a hy,SV.den]
  ·cases h
 ·cases h
theorem Zmn {fn:Fn} {first caps:Array Operand} (ho:o.op=.makeFunc fn first caps) (h:op1 P s o=some (aZ,v,s')) (hrep:Rep e W0 s w) (hev:∀ x ∈ caps,ev x=(s.ev x).den e):Zp P e W0 s s' o ev v w:=by
 simp only [op1,ho] at h
 split at h
 ·rename_i f hf
  simp only [Option.map_eq_some_iff,Prod.mk.injEq] at h
  obtain ⟨l,hl,rfl,rfl,rfl⟩:=h
  have hfirst:first=#[]:=by
   apply Array.ext'
   simpa using hf
  subst hfirst
  have key:∀ (cs:List Operand) (l:List (Nat × Nat)),(∀ x ∈ cs,ev x=(s.ev x).den e)→Zu5 s cs=some l→cs.map ev=l.map fun c=>Z1z e c.1 c.2:=by
   intro cs
   induction cs with
   | nil=>intro l _ hl; simp [Zu5] at hl; simp [← hl]
   | cons c cs ih =>
    intro l hcs hl
    simp only [Zu5] at hl
    split at hl
    ·rename_i n off l' hx hl'
     simp only [Option.some.injEq] at hl
     subst hl
     have:=ih l' (fun x hx=>hcs x (by simp [hx])) hl'
     rw [Z18k,this,hcs c (by simp),hx]
     rfl
    ·cases hl
  have hk:=key caps.toList l (fun x hx=>hev x (by simpa using hx)) hl
  refine Zp.same hrep ?_
  have hk':caps.map ev=(l.map fun c=>Z1z e c.1 c.2).toArray:=by
   apply Array.ext'
   simpa using hk
  simp [execOp,ho,Instr.makeFunc,hk',one,SV.den,SW.den,SC.den]
 ·cases h
theorem Z7c {x:Option Operand} {dflt i:Nat} (h:Z83 s x dflt=some i) (hev:∀ y ∈ x,ev y=(s.ev y).den e) :
  (x=none∧i=dflt)∨∃ y k,x=some y∧ev y=.int k (i:Int):=by
 unfold Z83 at h
 split at h
 ·exact .inl ⟨rfl,by simpa using h.symm⟩
 ·rename_i y
  obtain ⟨k,hk⟩:=Z2c h e
  exact .inr ⟨y,k,rfl,(hev y rfl).trans hk⟩
theorem Z5x {isSlice:Bool} {len cap l h:Nat} {lo hi:Option Value} (hh:(hi=none∧h=len)∨∃ k,hi=some (.int k (h:Int))) (hl:(lo=none∧l=0)∨∃ k,lo=some (.int k (l:Int))) (h1:l≤h) (h2:h≤cap) :
  (Instr.sliceBounds isSlice len cap lo hi none).run P w=.ok (l,h,cap) w:=by
 rcases hh with ⟨rfl,rfl⟩ | ⟨k,rfl⟩ <;> rcases hl with ⟨rfl,rfl⟩ | ⟨k',rfl⟩ <;>
  simp [Instr.sliceBounds,Instr.sliceBound,asIntOf,h1,h2]
theorem Z100 {x:Option Operand} {dflt i:E} (h:Z15a s x dflt=some i) (hev:∀ y ∈ x,ev y=(s.ev y).den e) :
  (x=none∧i=dflt)∨∃ y k,x=some y∧ev y=.int k (i.den e.R e.r):=by
 unfold Z15a at h
 split at h
 ·exact .inl ⟨rfl,by simpa using h.symm⟩
 ·rename_i y
  obtain ⟨k,hk⟩:=Z7b h e
  exact .inr ⟨y,k,rfl,(hev y rfl).trans hk⟩
theorem Zbr {len cap:Nat} {lo hi mx:Option Value} (hh:∃ k,hi=some (.int k 0)) (hm:∃ k,mx=some (.int k 0)) (hl:lo=none∨∃ k,lo=some (.int k 0)) :
  (Instr.sliceBounds true len cap lo hi mx).run P w=.ok (0,0,0) w:=by
 obtain ⟨k,rfl⟩:=hh
 obtain ⟨k',rfl⟩:=hm
 rcases hl with rfl | ⟨k'',rfl⟩ <;> simp [Instr.sliceBounds,Instr.sliceBound,asIntOf]
theorem Z1x {len cap:Nat} {l h:Int} {lo hi:Option Value} (hh:(hi=none∧h=len)∨∃ k,hi=some (.int k h)) (hl:(lo=none∧l=0)∨∃ k,lo=some (.int k l)) (h0:0≤l) (h1:l≤h) (h2:h≤(cap:Int)) :
  (Instr.sliceBounds true len cap lo hi none).run P w=.ok (l.toNat,h.toNat,cap) w:=by
 have e2:0≤h:=by omega
 have e3:l≤((h.toNat:Nat):Int):=by omega
 rcases hh with ⟨rfl,rfl⟩ | ⟨k,rfl⟩ <;> rcases hl with ⟨rfl,rfl⟩ | ⟨k',rfl⟩
 ·simp [Instr.sliceBounds]
 ·simp [Instr.sliceBounds,Instr.sliceBound,asIntOf,h0,h1]
 ·simp [Instr.sliceBounds,Instr.sliceBound,asIntOf,e2,h2]
 ·simp [Instr.sliceBounds,Instr.sliceBound,asIntOf,e2,h2,h0]
  intro hc
  omega
theorem Z101 {t:TypeId} {x:Operand} {lo hi mx:Option Operand} (ho:o.op=.slice t x lo hi mx) (h:op1 P s o=some (aZ,v,s')) (hrep:Rep e W0 s w) (hev:ev x=(s.ev x).den e) (hlo:∀ y ∈ lo,ev y=(s.ev y).den e) (hhi:∀ y ∈ hi,ev y=(s.ev y).den e) (hmx0:∀ y ∈ mx,ev y=(s.ev y).den e) (has:∀ b ∈ aZ,b.den e.R e.r=true):Zp P e W0 s s' o ev v w:=by
 simp only [op1,ho] at h
 split at h
 ·split at h
  ·rename_i elem g hu hx hbl hbh hbm
   split at h
   ·rename_i hc
    simp only [Z18r] at hc
    simp only [Option.some.injEq,Prod.mk.injEq] at h
    obtain ⟨rfl,rfl,rfl⟩:=h
    rw [hx] at hev
    obtain ⟨a,l,c,hv⟩:=G.val_slice e g
    have hev':ev x=.slice a l c:=hev.trans hv
    refine Zp.same hrep ?_
    have b1:∃ k,hi.map ev=some (.int k 0):=by
     rcases Z7c hbh hhi with ⟨_,h1⟩ | ⟨y,k,h1,h2⟩
     ·cases h1
     ·exact ⟨k,by rw [h1]; simp [h2]⟩
    have b2:∃ k,mx.map ev=some (.int k 0):=by
     rcases Z7c hbm hmx0 with ⟨_,h1⟩ | ⟨y,k,h1,h2⟩
     ·cases h1
     ·exact ⟨k,by rw [h1]; simp [h2]⟩
    have b3:lo.map ev=none∨∃ k,lo.map ev=some (.int k 0):=by
     rcases Z7c hbl hlo with ⟨h1,_⟩ | ⟨y,k,h1,h2⟩
     ·exact .inl (by rw [h1]; rfl)
     ·exact .inr ⟨k,by rw [h1]; simp [h2]⟩
    simp only [execOp,ho,Instr.sliceAt,Instr.slice,Sem.run_bind,run_underlying hu,Result.andThen_ok,hev',Sem.run_pure,Zbr b1 b2 b3,Zi hc.2]
    simp [one,SV.den,SW.den,SC.den,hv,Zu1]
   ·cases h
  ·cases h
 ·rename_i hmx
  have hmx':mx=none:=by cases mx <;> simp_all
  subst hmx'
  have Z18:∀ {x:Option Operand} {dflt i:Nat},Z83 s x dflt=some i→(∀ y ∈ x,ev y=(s.ev y).den e)→(x.map ev=none∧i=dflt)∨∃ k,x.map ev=some (.int k (i:Int)):=by
   intro x dflt i hb hx
   rcases Z7c hb hx with ⟨rfl,rfl⟩ | ⟨y,k,rfl,hy⟩
   ·exact .inl ⟨rfl,rfl⟩
   ·exact .inr ⟨k,by simp [hy]⟩
  have conv2:∀ {x:Option Operand} {dflt i:E},Z15a s x dflt=some i→(∀ y ∈ x,ev y=(s.ev y).den e)→(x.map ev=none∧i.den e.R e.r=dflt.den e.R e.r)∨∃ k,x.map ev=some (.int k (i.den e.R e.r)):=by
   intro x dflt i hb hx
   rcases Z100 hb hx with ⟨rfl,rfl⟩ | ⟨y,k,rfl,hy⟩
   ·exact .inl ⟨rfl,rfl⟩
   ·exact .inr ⟨k,by simp [hy]⟩
  split at h
  ·rename_i elem g hu hx
   rw [hx] at hev
   split at h
   ·rename_i ks c hg
    split at h
    ·rename_i l hh hlb hhb
     split at h
     ·rename_i hinf
      simp only [Option.some.injEq,Prod.mk.injEq] at h
      obtain ⟨rfl,rfl,rfl⟩:=h
      obtain ⟨v1,v2,v3⟩:=Zbf has
      have cl:=conv2 hlb hlo
      have ch:=conv2 hhb hhi
      rw [Z5f] at ch
      refine Zp.same hrep ?_
      rcases hrep.gread hg with ⟨⟨aa,hv⟩,hn⟩ | ⟨b,off,cap,hv,hle,hm,hel,hcell⟩
      ·rw [hn] at v3 ch
       simp only [List.length_nil] at ch
       have hev':ev x=.slice aa 0 0:=hev.trans hv
       simp only [execOp,ho,Instr.sliceAt,Instr.slice,Sem.run_bind,run_underlying hu,Result.andThen_ok,hev',Sem.run_pure,Option.map_none,Z1x (P:=P) (w:=w) (cap:=0) ch cl v1 v2 v3,Zi hinf]
       simp only [one,SV.den,SW.den,SC.den,hv,Zfj]
      ·have hev':ev x=.slice (some ⟨b,off,none⟩) (dec (c.den e.R e.r)).length cap:=hev.trans hv
       simp only [execOp,ho,Instr.sliceAt,Instr.slice,Sem.run_bind,run_underlying hu,Result.andThen_ok,hev',Sem.run_pure,Option.map_none,Z1x (P:=P) (w:=w) (cap:=cap) ch cl v1 v2 (by omega),Zi hinf]
       simp only [one,SV.den,SW.den,SC.den,hv,Zfj]
     ·cases h
    ·cases h
   ·cases h
  ·rename_i elem g size lo0 hi0 hu hx
   rw [hx] at hev
   split at h
   ·rename_i ks c hg
    split at h
    ·rename_i hh hlb hhb
     split at h
     ·rename_i hc
      simp only [Z18r,Z18s] at hc
      obtain ⟨hinf,rfl⟩:=hc
      simp only [Option.some.injEq,Prod.mk.injEq] at h
      obtain ⟨rfl,rfl,rfl⟩:=h
      obtain ⟨v1,v2,v3⟩:=Zbf (c:=c) (lo:=lo0) (hi:=hi0) (fun b hb=>has b (List.mem_append_left _ hb))
      have h1:=has (Z5b (.c 0) hh) (by simp)
      have h3:=has (Z5b hh (Z2w hi0 lo0)) (by simp)
      rw [Z2m,Z18s] at h1 h3
      simp only [E.den] at h1
      have cl:(lo.map ev=none∧(0:Int)=0)∨∃ k,lo.map ev=some (.int k 0):=conv2 hlb hlo
      have ch:=conv2 hhb hhi
      have hml:((dec (c.den e.R e.r)).length:Int)≤9223372036854775807:=by
       rcases hrep.gread hg with ⟨_,hn⟩ | ⟨b,off,cap,hv,hle,hm,hel,hcell⟩
       ·rw [hn]; simp
       ·simp only [maxLen] at hm; omega
      have hmin:(Z2w hi0 lo0).den e.R e.r=hi0.den e.R e.r - lo0.den e.R e.r:=Z4t _ _ (by omega) (by omega)
      rw [hmin] at h3 ch
      have hph:(Z4e lo0 hh).den e.R e.r=lo0.den e.R e.r + hh.den e.R e.r:=Z93 _ _ (by omega) (by omega)
      have hlen:(hi0.den e.R e.r - lo0.den e.R e.r)=(((hi0.den e.R e.r).toNat - (lo0.den e.R e.r).toNat:Nat):Int):=by omega
      rw [hlen] at ch
      refine Zp.same hrep ?_
      rcases hrep.gread hg with ⟨⟨aa,hv⟩,hn⟩ | ⟨b,off,cap,hv,hle,hm,hel,hcell⟩
      ·rw [hn] at v3
       simp only [List.length_nil] at v3
       have e1:lo0.den e.R e.r=0:=by simp at v3; omega
       have e2:hi0.den e.R e.r=0:=by simp at v3; omega
       have e4:hh.den e.R e.r=0:=by omega
       have hev':ev x=.slice aa 0 0:=by rw [hev]; simp [SV.den,SW.den,SC.den,hv,Zfj,e1,e2]
       rw [e1,e2] at ch
       simp only [Int.toNat_zero,Nat.sub_self] at ch
       simp only [execOp,ho,Instr.sliceAt,Instr.slice,Sem.run_bind,run_underlying hu,Result.andThen_ok,hev',Sem.run_pure,Option.map_none,Z1x (P:=P) (w:=w) (cap:=0) ch cl (Int.le_refl 0) h1 (by omega),Zi hinf]
       simp only [one,SV.den,SW.den,SC.den,hv,Zfj,hph,e1,e4]
       simp
      ·have hev':ev x=.slice (if cap=(lo0.den e.R e.r).toNat then some ⟨b,off,none⟩ else some ⟨b,off + (lo0.den e.R e.r).toNat * P.cellsOf elem,none⟩) ((hi0.den e.R e.r).toNat - (lo0.den e.R e.r).toNat) (cap - (lo0.den e.R e.r).toNat):=by
        rw [hev]
        simp only [SV.den,SW.den,SC.den,hv,Zfj,Option.map_some,Addr.add_lit]
       simp only [execOp,ho,Instr.sliceAt,Instr.slice,Sem.run_bind,run_underlying hu,Result.andThen_ok,hev',Sem.run_pure,Option.map_none,Z1x (P:=P) (w:=w) (cap:=cap - (lo0.den e.R e.r).toNat) ch cl (Int.le_refl 0) h1 (by omega),Zi hinf]
       simp only [one,SV.den,SW.den,SC.den,hv,Zfj,hph,Option.map_some,Addr.add_lit,Int.toNat_zero,Nat.zero_mul,Nat.sub_zero]
       rw [Int.toNat_add v1 h1]
       have hsub:(lo0.den e.R e.r).toNat + (hh.den e.R e.r).toNat - (lo0.den e.R e.r).toNat=(hh.den e.R e.r).toNat:=by omega
       rw [hsub]
       have hadd:∀ q:Option Addr,q.map (fun x=>x.add 0)=q:=fun q=>by cases q <;> simp [Addr.add]
       rw [hadd]
       split <;> rfl
     ·cases h
    ·rename_i ll hh hnz hlb hhb
     split at h
     ·rename_i hc
      simp only [Z18r,Z18s] at hc
      obtain ⟨hinf,rfl⟩:=hc
      simp only [Option.some.injEq,Prod.mk.injEq] at h
      obtain ⟨rfl,rfl,rfl⟩:=h
      obtain ⟨v1,v2,v3⟩:=Zbf (c:=c) (lo:=lo0) (hi:=hi0) (fun b hb=>has b (List.mem_append_left _ hb))
      have h1:=has (Z5b (.c 0) ll) (by simp)
      have h2:=has (Z5b ll hh) (by simp)
      have h3:=has (Z5b hh (Z2w hi0 lo0)) (by simp)
      have h4:=has (Ztv ll (Z2w hi0 lo0)) (by simp)
      rw [Z2m,Z18s] at h1 h2 h3
      rw [Z90,Z18s] at h4
      simp only [E.den] at h1
      have cl:=conv2 hlb hlo
      have ch:=conv2 hhb hhi
      have hml:((dec (c.den e.R e.r)).length:Int)≤9223372036854775807:=by
       rcases hrep.gread hg with ⟨_,hn⟩ | ⟨b,off,cap,hv,hle,hm,hel,hcell⟩
       ·rw [hn]; simp
       ·simp only [maxLen] at hm; omega
      have hmin:(Z2w hi0 lo0).den e.R e.r=hi0.den e.R e.r - lo0.den e.R e.r:=Z4t _ _ (by omega) (by omega)
      rw [hmin] at h3 h4 ch
      have hph:(Z4e lo0 hh).den e.R e.r=lo0.den e.R e.r + hh.den e.R e.r:=Z93 _ _ (by omega) (by omega)
      have hpl:(Z4e lo0 ll).den e.R e.r=lo0.den e.R e.r + ll.den e.R e.r:=Z93 _ _ (by omega) (by omega)
      have hlen:(hi0.den e.R e.r - lo0.den e.R e.r)=(((hi0.den e.R e.r).toNat - (lo0.den e.R e.r).toNat:Nat):Int):=by omega
      rw [hlen] at ch
      refine Zp.same hrep ?_
      rcases hrep.gread hg with ⟨hv,hn⟩ | ⟨b,off,cap,hv,hle,hm,hel,hcell⟩
      ·rw [hn] at v3
       simp only [List.length_nil] at v3
       exfalso
       simp at v3
       omega
      ·have hev':ev x=.slice (if cap=(lo0.den e.R e.r).toNat then some ⟨b,off,none⟩ else some ⟨b,off + (lo0.den e.R e.r).toNat * P.cellsOf elem,none⟩) ((hi0.den e.R e.r).toNat - (lo0.den e.R e.r).toNat) (cap - (lo0.den e.R e.r).toNat):=by
        rw [hev]
        simp only [SV.den,SW.den,SC.den,hv,Zfj,Option.map_some,Addr.add_lit]
       simp only [execOp,ho,Instr.sliceAt,Instr.slice,Sem.run_bind,run_underlying hu,Result.andThen_ok,hev',Sem.run_pure,Option.map_none,Z1x (P:=P) (w:=w) (cap:=cap - (lo0.den e.R e.r).toNat) ch cl h1 h2 (by omega),Zi hinf]
       simp only [one,SV.den,SW.den,SC.den,hv,Zfj,hph,hpl,Option.map_some,Addr.add_lit]
       have n1:¬ cap=(lo0.den e.R e.r).toNat:=by omega
       have n2:¬ cap - (lo0.den e.R e.r).toNat=(ll.den e.R e.r).toNat:=by omega
       rw [Int.toNat_add v1 (by omega:0≤hh.den e.R e.r),Int.toNat_add v1 h1]
       have n3:¬ cap=(lo0.den e.R e.r).toNat + (ll.den e.R e.r).toNat:=by omega
       rw [if_neg n1,if_neg n2,if_neg n3]
       simp only [Option.map_some,Addr.add_lit]
       rw [Nat.add_mul,← Nat.add_assoc,show (lo0.den e.R e.r).toNat + (hh.den e.R e.r).toNat - ((lo0.den e.R e.r).toNat + (ll.den e.R e.r).toNat)=(hh.den e.R e.r).toNat - (ll.den e.R e.r).toNat by omega,Nat.sub_add_eq]
     ·cases h
    ·cases h
   ·cases h
  ·rename_i len elem n off hu hx
   rw [hx] at hev
   split at h
   ·rename_i hh hhb
    split at h
    ·rename_i ll hlb
     split at h
     ·rename_i hc
      simp only [Z18r,Z18s] at hc
      simp only [Option.some.injEq,Prod.mk.injEq] at h
      obtain ⟨rfl,rfl,rfl⟩:=h
      have hev':ev x=.pointer (some ⟨e.β.getD n 0,off,none⟩):=hev
      refine Zp.same hrep ?_
      simp only [execOp,ho,Instr.sliceAt,Sem.run_bind,run_underlying hu,Result.andThen_ok,hev',Instr.sureAddr,Sem.run_pure,Option.map_none,Z5x (Z18 hhb hhi) (Z18 hlb hlo) hc.1.1 hc.1.2,Zi hc.2]
      simp only [one,SV.den,SW.den,SC.den,Addr.add_lit]
      congr 4
      split <;> rfl
     ·cases h
    ·cases h
   ·cases h
  ·rename_i elem n off len cap hu hx
   rw [hx] at hev
   split at h
   ·rename_i hh hhb
    split at h
    ·rename_i ll hlb
     split at h
     ·rename_i hc
      simp only [Z18r,Z18s] at hc
      simp only [Option.some.injEq,Prod.mk.injEq] at h
      obtain ⟨rfl,rfl,rfl⟩:=h
      have hev':ev x=.slice (some ⟨e.β.getD n 0,off,none⟩) len cap:=hev
      refine Zp.same hrep ?_
      simp only [execOp,ho,Instr.sliceAt,Instr.slice,Sem.run_bind,run_underlying hu,Result.andThen_ok,hev',Sem.run_pure,Option.map_none,Z5x (Z18 hhb hhi) (Z18 hlb hlo) hc.1.1 hc.1.2,Zi hc.2]
      simp only [one,SV.den,SW.den,SC.den,Option.map_some,Addr.add_lit]
      congr 4
      split <;> rfl
     ·cases h
    ·cases h
   ·cases h
  ·cases h
end
end Go.Sx
namespace Go.Sx
open Go.RowKit
section
variable {P:Program} {e:Env} {W0:Bas} {s s':St} {o:Oper} {ev:Operand→Value} {v:SV} {w:World} {aZ:List B}
def SW.fits (P:Program) (t:TypeId) (u:SW):Prop:=(Z60 P t=true∧∃ cs,u=.a cs)∨(Z60 P t=false∧∃ c,u=.o c)
theorem Z7d {t:TypeId} {cs:List SC} {off:Nat} {y:SW} (h:Z3l P t cs off=some y):y.fits P t:=by
 unfold Z3l at h
 split at h
 ·cases h
 ·split at h
  ·rename_i ha
   simp only [Option.some.injEq] at h
   exact .inl ⟨ha,_,h.symm⟩
  ·rename_i ha
   simp only [Option.map_eq_some_iff] at h
   obtain ⟨c,_,rfl⟩:=h
   exact .inr ⟨by simpa using ha,c,rfl⟩
theorem Zmo:∀ (d:Nat) (t:TypeId) (u v:SW) (b:B),u.fits P t→v.fits P t→eqB P d t u.cells v.cells=some b→∀ D,d≤D→∀ w:World,
  (Op.equalIn D t (u.den e) (v.den e)).run P w=.ok (b.den e.R e.r) w
 | 0,_,_,_,_,_,_,h,_,_,_=>by simp [eqB] at h
 | d + 1,t,u,v,b,hu,hv,h,D,hD,w=>by
  obtain ⟨D,rfl⟩:∃ D',D=D' + 1:=⟨D - 1,by omega⟩
  unfold eqB at h
  split at h
  ·rename_i ht
   have hna:Z60 P t=false:=by simp [Z60,ht]
   obtain ⟨c,rfl⟩:∃ c,u=.o c:=by
    rcases hu with ⟨h1,_⟩ | ⟨_,h2⟩
    ·simp [hna] at h1
    ·exact h2
   obtain ⟨c',rfl⟩:∃ c,v=.o c:=by
    rcases hv with ⟨h1,_⟩ | ⟨_,h2⟩
    ·simp [hna] at h1
    ·exact h2
   split at h
   ·rename_i a b' h1 h2
    simp only [SW.cells,List.cons.injEq,and_true] at h1 h2
    subst h1; subst h2
    simp only [Option.some.injEq] at h
    subst h
    simp only [SW.den,SC.den,run_equalIn_bool w D t _ _ ht,Zd3]
   ·cases h
  ·rename_i kk ht
   have hna:Z60 P t=false:=by simp [Z60,ht]
   obtain ⟨c,rfl⟩:∃ c,u=.o c:=by
    rcases hu with ⟨h1,_⟩ | ⟨_,h2⟩
    ·simp [hna] at h1
    ·exact h2
   obtain ⟨c',rfl⟩:∃ c,v=.o c:=by
    rcases hv with ⟨h1,_⟩ | ⟨_,h2⟩
    ·simp [hna] at h1
    ·exact h2
   split at h
   ·rename_i k a k' b' h1 h2
    simp only [SW.cells,List.cons.injEq,and_true] at h1 h2
    subst h1; subst h2
    split at h
    ·rename_i hkk
     subst hkk
     simp only [Option.some.injEq] at h
     subst h
     simp only [SW.den,SC.den,run_equalIn_int w D t k kk _ _ ht,Zh7]
    ·cases h
   ·cases h
  ·rename_i fields ht
   have ha:Z60 P t=true:=by simp [Z60,ht]
   obtain ⟨xs,rfl⟩:∃ c,u=.a c:=by
    rcases hu with ⟨_,h2⟩ | ⟨h1,_⟩
    ·exact h2
    ·simp [ha] at h1
   obtain ⟨ys,rfl⟩:∃ c,v=.a c:=by
    rcases hv with ⟨_,h2⟩ | ⟨h1,_⟩
    ·exact h2
    ·simp [ha] at h1
   split at h
   ·cases h
   ·rename_i hst
    have hfs:P.fieldsOf t=fields:=by simp [Program.fieldsOf,ht]
    simp only [SW.den,SW.cells] at h ⊢
    rw [run_equalIn_struct w D t _ _ (by rw [hfs]; exact ht) (by simpa using hst),hfs]
    clear ht hfs
    generalize fields.toList=fs at h ⊢
    induction fs generalizing b with
    | nil=>simp only [List.foldr_nil,Option.some.injEq] at h; subst h; simp [Op.eqFields,B.den]
    | cons f fs ih =>
     rw [List.foldr_cons] at h
     split at h
     ·cases h
     ·rename_i y hy
      have ih':=ih y hy
      split at h
      ·rename_i hname
       simp only [Option.some.injEq] at h
       subst h
       simp only [Op.eqFields,ne_eq,hname,Z18n,if_false]
       exact ih'
      ·rename_i hname
       split at h
       ·rename_i p q hp hq
        split at h
        ·rename_i bb hbb
         simp only [Option.some.injEq] at h
         subst h
         simp only [Op.eqFields,ne_eq,hname,Z18o,if_true,Sem.run_bind,Z7a hp,Z7a hq,Result.andThen_ok,
          Zmo d f.type p q bb (Z7d hp) (Z7d hq) hbb D (by omega) w,Z42]
         cases bb.den e.R e.r
         ·simp
         ·simp only [Bool.not_true,Bool.false_eq_true,if_false,Bool.true_and]
          exact ih'
        ·cases h
       ·cases h
  ·rename_i len elem ht
   have ha:Z60 P t=true:=by simp [Z60,ht]
   obtain ⟨xs,rfl⟩:∃ c,u=.a c:=by
    rcases hu with ⟨_,h2⟩ | ⟨h1,_⟩
    ·exact h2
    ·simp [ha] at h1
   obtain ⟨ys,rfl⟩:∃ c,v=.a c:=by
    rcases hv with ⟨_,h2⟩ | ⟨h1,_⟩
    ·exact h2
    ·simp [ha] at h1
   simp only [SW.den,SW.cells] at h ⊢
   split at h
   ·cases h
   ·rename_i hinf
    obtain ⟨i,hi⟩:∃ i,P.info? elem=some i:=by
     cases hi:P.info? elem with
     | none=>simp [hi] at hinf
     | some i=>exact ⟨i,rfl⟩
    rw [run_equalIn_array w D _ _ ht hi]
    generalize List.range len=is at h ⊢
    induction is generalizing b with
    | nil=>simp only [List.foldr_nil,Option.some.injEq] at h; subst h; simp [Op.eqItems,B.den]
    | cons f fs ih =>
     rw [List.foldr_cons] at h
     split at h
     ·cases h
     ·rename_i y hy
      have ih':=ih y hy
      split at h
      ·rename_i p q hp hq
       split at h
       ·rename_i bb hbb
        simp only [Option.some.injEq] at h
        subst h
        simp only [Op.eqItems,Sem.run_bind,Z7a hp,Z7a hq,Result.andThen_ok,
         Zmo d elem p q bb (Z7d hp) (Z7d hq) hbb D (by omega) w,Z42]
        cases bb.den e.R e.r
        ·simp
        ·simp only [Bool.not_true,Bool.false_eq_true,if_false,Bool.true_and]
         exact ih'
       ·cases h
      ·cases h
  ·cases h
theorem Zs1 (k:IntKind) (x:E):SV.den e (.w (.o (.i k x)))=.int k (x.den e.R e.r):=rfl
theorem den_b (x:B):SV.den e (.w (.o (.b x)))=.bool (x.den e.R e.r):=rfl
theorem den_a (cs:List SC):SV.den e (.w (.a cs))=.agg (cs.map (SC.den e)).toArray:=rfl
theorem Zs2 {b:E} (has:∀ x ∈ Zj9 b,x.den e.R e.r=true):b.den e.R e.r ≠ 0:=by
 unfold Zj9 at has
 split at has
 ·rename_i n
  split at has
  ·have:=has (.c false) (by simp)
   simp [B.den] at this
  ·rename_i hn
   simpa [E.den] using hn
 ·have:=has (.not (.eq b (.c 0))) (by simp)
  simp only [B.den,E.den,Bool.not_eq_true',beq_eq_false_iff_ne,ne_eq] at this
  exact this
theorem op_bin {op:BinOp} {t yt:TypeId} {x y:Operand} (ho:o.op=.binOp op t x y yt) (h:op1 P s o=some (aZ,v,s')) (hrep:Rep e W0 s w) (hx:ev x=(s.ev x).den e) (hy:ev y=(s.ev y).den e) (has:∀ b ∈ aZ,b.den e.R e.r=true):Zp P e W0 s s' o ev v w:=by
 simp only [op1,ho,Option.map_eq_some_iff,Prod.mk.injEq] at h
 obtain ⟨⟨as',c⟩,hb,rfl,rfl,rfl⟩:=h
 refine Zp.same hrep ?_
 unfold binS at hb
 split at hb
 ·rename_i k a k' b hex hey
  by_cases hop:op=.shr
  ·rw [if_pos hop] at hb
   subst hop
   unfold shrS at hb
   split at hb
   ·rename_i n
    split at hb
    ·rename_i hn
     simp only [Option.some.injEq,Prod.mk.injEq] at hb
     obtain ⟨rfl,rfl⟩:=hb
     have h0:=has (Z5b (.c 0) a) (by simp)
     have h1:=has (Z5b a (.c 4611686018427387904)) (by simp)
     rw [Z2m,Z18s] at h0 h1
     rw [hex,Zs1] at hx
     rw [hey,Zs1] at hy
     simp only [E.den] at h0 h1 hy
     have hsh:(Op.shift .shr .i64 (a.den e.R e.r) k' n).run P w=.ok (.int .i64 (IntKind.i64.wrap ((a.den e.R e.r).tdiv ((2 ^ n.toNat:Nat):Int)))) w:=by
      have hmin:min n.toNat IntKind.i64.bits=n.toNat:=Nat.min_eq_left (by show n.toNat≤64; omega)
      have hp:((2 ^ n.toNat:Nat):Int)=(2:Int) ^ n.toNat:=by simp
      have hpos:(0:Int) < ((2 ^ n.toNat:Nat):Int):=by exact_mod_cast Nat.two_pow_pos _
      have hq:(a.den e.R e.r).fdiv ((2:Int) ^ n.toNat)=IntKind.i64.wrap ((a.den e.R e.r).tdiv ((2 ^ n.toNat:Nat):Int)):=by
       rw [← hp,Int.fdiv_eq_ediv_of_nonneg _ (by omega),Int.tdiv_eq_ediv_of_nonneg h0]
       refine (wrap_small _ ?_).symm
       have l0:=Int.ediv_nonneg h0 (Int.le_of_lt hpos)
       have l1:=Int.ediv_le_self ((2 ^ n.toNat:Nat):Int) h0
       simp only [Zzk,Z18r,Z18s]
       omega
      simp only [Op.shift,if_neg (show ¬ n < 0 by omega),hmin,hq,Sem.run_pure]
     simp only [execOp,ho,hx,hy,eqGuard_at_int,pure_bind,Go.binOp,Sem.run_bind,hsh,Result.andThen_ok,Sem.run_pure,one,SV.den,SW.den,SC.den,Zjq,E.den]
    ·cases hb
   ·cases hb
  rw [if_neg hop] at hb
  split at hb
  ·rename_i hk
   subst hk
   rw [hex,Zs1] at hx
   rw [hey,Zs1] at hy
   have hdiv:∀ (opp:BinOp),(opp=.quo∨opp=.rem)→Zoq opp k a b=some (as',c)→b.den e.R e.r ≠ 0:=by
    intro opp ho' ha
    have:as'=Zj9 b:=by
     rcases ho' with rfl | rfl <;> simp only [Zoq,Option.some.injEq,Prod.mk.injEq] at ha <;> exact ha.1.symm
    exact Zs2 (by rw [← this]; exact has)
   cases op <;> simp only [Zoq,Option.some.injEq,Prod.mk.injEq,reduceCtorEq] at hb <;> obtain ⟨rfl,rfl⟩:=hb <;>
    simp only [execOp,ho,hx,hy,eqGuard_at_int,pure_bind,Go.binOp,ne_eq,Z18n,if_false,one,SV.den,SW.den,SC.den,Op.intArith,Op.intCmp,Sem.run_bind,Sem.run_pure,
     Zjp,Zd2,Zun,Z90,Z2m,Zh7,Z2n]
   case quo =>
    have hne:=hdiv .quo (.inl rfl) rfl
    simp only [Op.intDiv,if_neg hne,Sem.run_pure,Result.andThen_ok,Zjq]
   case rem =>
    have hne:=hdiv .rem (.inr rfl) rfl
    simp only [Op.intDiv,if_neg hne,Sem.run_pure,Result.andThen_ok,Zuo]
   all_goals rfl
  ·cases hb
 ·rename_i a b hex hey
  rw [hex,den_b] at hx
  rw [hey,den_b] at hy
  split at hb
  ·rename_i hu
   simp only [Option.some.injEq,Prod.mk.injEq] at hb
   obtain ⟨rfl,rfl⟩:=hb
   simp only [execOp,ho,hx,hy,eqGuard_at_bool,Sem.run_bind,Sem.run_pure,Result.andThen_ok,run_eql_bool w t _ _ hu,one,SV.den,SW.den,SC.den,Zd3]
  ·rename_i hu
   simp only [Option.some.injEq,Prod.mk.injEq] at hb
   obtain ⟨rfl,rfl⟩:=hb
   simp only [execOp,ho,hx,hy,eqGuard_at_bool,Sem.run_bind,Sem.run_pure,Result.andThen_ok,run_neq_bool w t _ _ hu,one,SV.den,SW.den,SC.den,Zd3,Z2n]
  ·cases hb
 ·rename_i xs ys hex hey
  rw [hex,den_a] at hx
  rw [hey,den_a] at hy
  split at hb
  ·cases hb
  ·rename_i hg
   simp only [Bool.or_eq_true,Bool.not_eq_true',not_or,Bool.not_eq_true,Bool.not_eq_false] at hg
   have key:∀ b,eqB P 12 t xs ys=some b→(Op.equalIn 10000 t (.agg (xs.map (SC.den e)).toArray) (.agg (ys.map (SC.den e)).toArray)).run P w=.ok (b.den e.R e.r) w:=fun b hb =>
    Zmo 12 t (.a xs) (.a ys) b (.inl ⟨hg.2,_,rfl⟩) (.inl ⟨hg.2,_,rfl⟩) hb 10000 (by omega) w
   split at hb
   ·simp only [Option.map_eq_some_iff,Prod.mk.injEq] at hb
    obtain ⟨b,hb,rfl,rfl⟩:=hb
    simp only [execOp,ho,hx,hy,Sem.run_bind,run_eqGuard_agg w _ t _ _ _ _ hg.1,Sem.run_pure,Result.andThen_ok,run_eql_struct,key b hb,one,SV.den,SW.den,SC.den]
   ·simp only [Option.map_eq_some_iff,Prod.mk.injEq] at hb
    obtain ⟨b,hb,rfl,rfl⟩:=hb
    simp only [execOp,ho,hx,hy,Sem.run_bind,run_eqGuard_agg w _ t _ _ _ _ hg.1,Sem.run_pure,Result.andThen_ok,run_neq_struct,key b hb,one,SV.den,SW.den,SC.den,Z2n]
   ·cases hb
 ·cases hb
end
end Go.Sx
namespace Go.Sx
open Go.RowKit
section
variable {P:Program} {e:Env} {W0:Bas} {s s':St} {o:Oper} {ev:Operand→Value} {v:SV} {w:World} {aZ:List B}
theorem Zjy (off:Nat):∀ (new:List Value) (k:Nat) (cells:Array Value),off + k + new.length≤cells.size →
  (new.zipIdx k).foldl (fun cs (x:Value × Nat)=>cs.setIfInBounds (off + x.2) x.1) cells=(cells.toList.take (off + k)++new++cells.toList.drop (off + k + new.length)).toArray
 | [],k,cells,_=>by simp
 | x::new,k,cells,h=>by
  simp only [List.zipIdx_cons,List.foldl_cons,List.length_cons] at h ⊢
  rw [Zjy off new (k + 1) _ (by simpa using (by omega:off + (k + 1) + new.length≤cells.size))]
  congr 1
  apply List.ext_getElem?
  intro j
  have hs:cells.toList.length=cells.size:=by simp
  simp only [Array.toList_setIfInBounds,List.getElem?_append,List.length_append,List.length_take,List.length_set,hs,List.getElem?_take,List.getElem?_drop,List.getElem?_set,List.length_cons]
  rw [Nat.min_eq_left (by omega),Nat.min_eq_left (by omega)]
  by_cases h1:j < off + k
  ·have e1:off + k ≠ j:=by omega
   simp only [h1,if_true]
   rw [if_pos (by omega),if_pos (by omega),if_pos (by omega),if_neg e1,if_pos (by omega)]
  ·by_cases h2:j=off + k
   ·subst h2
    simp only [Nat.lt_irrefl,if_false,Nat.sub_self]
    rw [if_pos (by omega),if_pos (by omega),if_pos (by omega),if_pos trivial,if_pos (by omega),if_pos (by omega)]
    simp
   ·by_cases h3:j < off + k + (new.length + 1)
    ·rw [if_neg h1,if_pos h3,if_pos (by omega),if_neg (by omega)]
     rw [show j - (off + k)=(j - (off + (k + 1))) + 1 by omega,Z18f]
    ·rw [if_neg h3,if_neg (by omega),if_neg (by omega)]
     congr 1
     omega
theorem Zbx (hrep:Rep e W0 s w) {place:Nat→Option (Nat × Nat)}:∀ (parts:List (Nat × SW)) (cells cs:List SC),Zmc place cells parts=some cs→(∀ p ∈ parts,p.2.scp s.mem.length s.rows.length=true) →
  Instr.fill place (cells.map (SC.den e)).toArray (parts.map fun p=>(p.1,p.2.den e))=some (cs.map (SC.den e)).toArray
 | [],cells,cs,h,_=>by simp only [Zmc,Option.some.injEq] at h; subst h; rfl
 | (i,v)::rest,cells,cs,h,hs=>by
  simp only [Zmc] at h
  split at h
  ·cases h
  ·rename_i off size hp
   split at h
   ·cases h
   ·rename_i hc
    simp only [ne_eq,Bool.or_eq_true,Z18s,Bool.not_eq_true',not_or,Decidable.not_not,Bool.not_eq_false] at hc
    obtain ⟨⟨h1,h2⟩,h3⟩:=hc
    have ih:=Zbx hrep rest _ cs h (fun p hp=>hs p (by simp [hp]))
    have hcells:=SW.cells_den hrep h3 (hs (i,v) (by simp))
    have hsz:(v.den e).cells.size=v.cells.length:=by rw [hcells]; simp
    simp only [Z18k,Instr.fill,hp]
    rw [if_neg (by simp [hsz,h1]; omega)]
    have hz:((v.den e).cells.zipIdx.foldl (fun cs (x:Value × Nat)=>cs.setIfInBounds (off + x.2) x.1) (cells.map (SC.den e)).toArray)=((Z61 cells off v.cells).map (SC.den e)).toArray:=by
     rw [hcells,← Array.foldl_toList,Array.toList_zipIdx]
     have:=Zjy off (v.cells.map (SC.den e)) 0 (cells.map (SC.den e)).toArray (by simpa using h2)
     simp only [Nat.add_zero] at this
     rw [this]
     simp [Z61]
    rw [← ih,← hz]
theorem Zg3 {parts:List (Nat × Operand)}:∀ {l:List (Nat × SW)},Zfu s parts=some l→(∀ p ∈ parts,ev p.2=(s.ev p.2).den e)→(parts.map fun p=>(p.1,ev p.2))=l.map fun p=>(p.1,p.2.den e):=by
 induction parts with
 | nil=>intro l h _; simp only [Zfu,Option.some.injEq] at h; subst h; rfl
 | cons p parts ih =>
  intro l h hev
  obtain ⟨i,x⟩:=p
  simp only [Zfu] at h
  split at h
  ·rename_i y l' hy hl'
   simp only [Option.some.injEq] at h
   subst h
   simp only [Z18k]
   rw [ih hl' (fun p hp=>hev p (by simp [hp])),hev (i,x) (by simp)]
   simp only [hy]
   rfl
  ·cases h
theorem Zd4:∀ (fs:List Field),(fs.all fun f=>(P.info? f.type).isSome)=true →
  (fs.mapM (m:=Sem) fun f=>do pure (f.offset,← sizeOf f.type)).run P w=.ok (fs.map fun f=>(f.offset,P.cellsOf f.type)) w
 | [],_=>by simp
 | f::fs,h=>by
  simp only [List.all_cons,Z18r] at h
  simp only [List.mapM_cons,Sem.run_bind,Zi h.1,Result.andThen_ok,Sem.run_pure,Zd4 fs h.2,Z18k]
theorem Zut {t:TypeId} {l:List (Nat × SW)} {cs:List SC} (hrep:Rep e W0 s w) (h:Zu4 P t l=some cs) (hs:∀ p ∈ l,p.2.scp s.mem.length s.rows.length=true) (parts:Array (Nat × Value)) (hp:parts.toList=l.map fun p=>(p.1,p.2.den e)) :
  (Instr.build t parts).run P w=.ok (.agg (cs.map (SC.den e)).toArray) w:=by
 unfold Zu4 at h
 split at h
 ·cases h
 ·rename_i zero hz
  obtain ⟨zv,hz1,hz2⟩:=Z35 hz w e
  split at h
  ·rename_i fields hu
   split at h
   ·cases h
   ·rename_i hall
    simp only [Bool.not_eq_true',Bool.not_eq_false] at hall
    have hf:=Zbx hrep l zero cs h hs
    simp only [Instr.build,Sem.run_bind,hz1,Result.andThen_ok,run_underlying hu]
    have hm:(fields.mapM (m:=Sem) fun f=>do pure (f.offset,← sizeOf f.type)).run P w=.ok (fields.toList.map fun f=>(f.offset,P.cellsOf f.type)).toArray w:=by
     rw [Array.mapM_eq_mapM_toList]
     simp only [Sem.run_map,Zd4 fields.toList hall,Result.andThen_ok]
    rw [hm]
    simp only [Result.andThen_ok,hp,hz2]
    have hplace:(fun i:Nat=>(fields.toList.map fun f=>(f.offset,P.cellsOf f.type)).toArray[i]?)=fun i=>(fields[i]?).map fun f=>(f.offset,P.cellsOf f.type):=by
     funext i
     simp
    rw [hplace,hf]
    rfl
  ·rename_i n elem hu
   split at h
   ·cases h
   ·rename_i hinf
    have hinf':(P.info? elem).isSome=true:=by cases hi:P.info? elem <;> simp_all
    have hf:=Zbx hrep l zero cs h hs
    simp only [Instr.build,Sem.run_bind,hz1,Result.andThen_ok,run_underlying hu,Zi hinf',hp,hz2,hf]
    rfl
  ·cases h
theorem Z102 {t:TypeId} {parts:Array (Nat × Operand)} (ho:o.op=.build t parts) (h:op1 P s o=some (aZ,v,s')) (hrep:Rep e W0 s w) (hev:∀ p ∈ parts.toList,ev p.2=(s.ev p.2).den e):Zp P e W0 s s' o ev v w:=by
 simp only [op1,ho] at h
 split at h
 ·rename_i l hl
  split at h
  ·rename_i hsc
   simp only [Option.map_eq_some_iff,Prod.mk.injEq] at h
   obtain ⟨cs,hcs,rfl,rfl,rfl⟩:=h
   refine Zp.same hrep ?_
   have:=Zut hrep hcs (fun p hp=>List.all_eq_true.1 hsc p hp) (parts.map fun p=>(p.1,ev p.2)) (by
    rw [Array.toList_map]
    exact Zg3 hl hev)
   simp only [execOp,ho,Sem.run_bind,this,Result.andThen_ok,Sem.run_pure,SV.den,SW.den]
  ·cases h
 ·cases h
theorem Zak (z:Array Value):∀ n,(Array.range (n * z.size)).map (z[· % z.size]!)=((List.replicate n z.toList).flatten).toArray:=by
 intro n
 apply Array.ext'
 simp only [Array.toList_map,Array.toList_range]
 induction n with
 | zero=>simp
 | succ n ih =>
  rw [show (n + 1) * z.size=n * z.size + z.size by rw [Nat.add_mul,Nat.one_mul],List.range_add,List.map_append,ih,List.replicate_succ',List.flatten_append]
  congr 1
  simp only [List.flatten_cons,List.flatten_nil,List.append_nil,List.map_map]
  apply List.ext_getElem?
  intro j
  by_cases hj:j < z.size
  ·simp [hj,Nat.mod_eq_of_lt hj]
  ·simp [hj]
theorem Zby (e:Env) (z:List SC):∀ n,(Z159 z n).map (SC.den e)=(List.replicate n (z.map (SC.den e))).flatten
 | 0=>rfl
 | n + 1=>by simp [Z159,Zby e z n,List.replicate_succ]
theorem Zjz {t:TypeId} {l c:Operand} (ho:o.op=.makeSlice t l c) (h:op1 P s o=some (aZ,v,s')) (hrep:Rep e W0 s w) (hl:ev l=(s.ev l).den e) (hc:ev c=(s.ev c).den e):Zp P e W0 s s' o ev v w:=by
 simp only [op1,ho] at h
 split at h
 ·rename_i elem m m' hu hm hm'
  split at h
  ·rename_i inf z hinf hz
   split at h
   ·rename_i hcc
    simp only [Z18r,Z18s] at hcc
    obtain ⟨⟨⟨rfl,h64⟩,hby⟩,hzl⟩:=hcc
    simp only [Option.map_eq_some_iff,Prod.mk.injEq] at h
    obtain ⟨s1,hs1,rfl,rfl,rfl⟩:=h
    obtain ⟨k1,hk1⟩:=Z2c hm e
    obtain ⟨k2,hk2⟩:=Z2c hm' e
    have hzz:∃ zv,inf.zero=some zv∧zv.cells.toList=z.map (SC.den e):=by
     simp only [Z5w,hinf,Option.bind_some,Option.map_eq_some_iff] at hz
     obtain ⟨zv,hzv,rfl⟩:=hz
     refine ⟨zv,hzv,?_⟩
     rw [List.map_map,show (SC.den e ∘ SC.ofV)=id from funext fun v=>SC.den_ofV e v]
     simp
    obtain ⟨zv,hzv,hzl'⟩:=hzz
    have hzsz:zv.cells.size=inf.size:=by
     have:=congrArg List.length hzl'
     simp only [Array.length_toList,List.length_map] at this
     omega
    have hb':(inf.bytes:Int) * (m:Int)≤281474976710656:=by
     have:=Nat.mul_le_mul hby h64
     have h2:((inf.bytes * m:Nat):Int)≤281474976710656:=by omega
     rwa [Int.natCast_mul] at h2
    have hr:=run_make (P:=P) w t elem inf zv hu hinf hzv k1 k2 m m (by omega) (Int.le_refl _) hb' (by omega)
    simp only [Int.toNat_natCast] at hr
    have hcells:madeCells zv.cells (m * inf.size)=((Z159 z m).map (SC.den e)).toArray:=by
     apply Array.ext'
     unfold madeCells
     rw [← hzsz,Zak,Zby,hzl']
    refine Zp.alloc hrep hs1 ?_
    have hv:(one (.s s.mem.length 0 m m)).den { e with β:=e.β++[w.heap.size] }=.slice (some ⟨w.heap.size,0,none⟩) m m:=by
     simp [one,SV.den,SW.den,SC.den,List.getD,← hrep.nb]
    rw [hv]
    simp only [execOp,ho,hl.trans hk1,hc.trans hk2,Sem.run_bind,hr,Result.andThen_ok,Sem.run_pure,hcells]
   ·cases h
  ·cases h
 ·cases h
theorem Zhb {t:TypeId} {len:Nat} {parts:Array (Nat × Operand)} (ho:o.op=.buildSlice t len parts) (h:op1 P s o=some (aZ,v,s')) (hrep:Rep e W0 s w) (hev:∀ p ∈ parts.toList,ev p.2=(s.ev p.2).den e):Zp P e W0 s s' o ev v w:=by
 simp only [op1,ho] at h
 split at h
 ·rename_i elem l hu hl
  split at h
  ·rename_i z hz
   split at h
   ·rename_i hc
    simp only [Z18r,Z18s] at hc
    obtain ⟨⟨⟨hzl,hz0⟩,hle⟩,hsc⟩:=hc
    split at h
    ·rename_i cs hcs
     simp only [Option.map_eq_some_iff,Prod.mk.injEq] at h
     obtain ⟨s1,hs1,rfl,rfl,rfl⟩:=h
     obtain ⟨zv,hz1,hz2⟩:=Z35 hz w e
     have hinf:(P.info? elem).isSome=true:=by
      cases hi:P.info? elem with
      | none=>simp [Z5w,hi] at hz
      | some i=>rfl
     have hzs:zv.cells.size=P.cellsOf elem:=by rw [hz2,← hzl]; simp
     have hzl':P.cellsOf elem ≠ 0:=by omega
     refine Zp.alloc hrep hs1 ?_
     have hf:=Zbx hrep l _ cs hcs (fun p hp=>List.all_eq_true.1 hsc p hp)
     have hrr:=Zak zv.cells len
     rw [hzs] at hrr
     rw [Zby,show z.map (SC.den e)=zv.cells.toList by rw [hz2]] at hf
     have hplace:(fun i:Nat=>some (i * z.length,z.length))=fun i=>some (i * P.cellsOf elem,P.cellsOf elem):=by rw [hzl]
     rw [hplace] at hf
     have hv:(one (.s s.mem.length 0 len len)).den { e with β:=e.β++[w.heap.size] }=.slice (some ⟨w.heap.size,0,none⟩) len len:=by
      simp [one,SV.den,SW.den,SC.den,List.getD,← hrep.nb]
     rw [hv]
     have hparts:(parts.map fun p=>(p.1,ev p.2)).toList=l.map fun p=>(p.1,p.2.den e):=by
      rw [Array.toList_map]
      exact Zg3 hl hev
     have hle':¬ (len * P.cellsOf elem > 2 ^ 24):=by rw [← hzl]; omega
     by_cases hl0:len=0
     ·subst hl0
      have hrr0:∀ f:Nat→Value,(Array.range 0).map f=#[]:=fun f=>by simp
      simp only [Nat.zero_mul] at hrr hle'
      rw [hrr0] at hrr
      rw [← hrr] at hf
      simp only [execOp,ho,Instr.buildSlice,Sem.run_bind,run_underlying hu,Result.andThen_ok,Zi hinf,Nat.zero_mul,if_neg hle',if_true,Sem.run_pure,hrr0,hparts,hf,newRow,run_newObj]
      rfl
     have hne:¬ (len * P.cellsOf elem=0):=by
      intro h0
      rcases Nat.mul_eq_zero.1 h0 with h0 | h0 <;> omega
     simp only [execOp,ho,Instr.buildSlice,Sem.run_bind,run_underlying hu,Result.andThen_ok,Zi hinf,if_neg hle',if_neg hne,hz1,Sem.run_pure,hzs,hrr,hparts,hf,newRow,run_newObj]
     rfl
    ·cases h
   ·cases h
  ·cases h
 ·cases h
theorem op_len {c:Call} {x:Operand} (ho:o.op=.call c) (hc:c.callee=.builtin .len) (ha:c.args.toList=[x]) (h:op1 P s o=some (aZ,v,s')) (hrep:Rep e W0 s w) (hev:ev x=(s.ev x).den e) (has:∀ b ∈ aZ,b.den e.R e.r=true):Zp P e W0 s s' o ev v w:=by
 simp only [op1,ho,hc,ha] at h
 have hargs:c.args=#[x]:=by
  apply Array.ext'
  simpa using ha
 split at h
 ·rename_i t ht
  have hrun:∀ n:Int,(Builtin.len_ c.argTypes o.type #[ev x]).run P w=.ok (.int .i64 n) w→(execOp ev o).run P w=.ok (.value (.int .i64 n)) w:=fun n hn=>by
   simp only [execOp,ho,resolve,hc,hargs,Sem.run_bind,Sem.run_pure,Result.andThen_ok,invoke,builtin]
   simp [hn]
  split at h
  ·rename_i n elem hu
   simp only [Option.some.injEq,Prod.mk.injEq] at h
   obtain ⟨rfl,rfl,rfl⟩:=h
   refine Zp.same hrep (hrun n ?_)
   simp [Builtin.len_,ht,run_underlying hu,goInt]
  ·rename_i elem n off len cap hu hx
   simp only [Option.some.injEq,Prod.mk.injEq] at h
   obtain ⟨rfl,rfl,rfl⟩:=h
   rw [hx] at hev
   refine Zp.same hrep (hrun len ?_)
   have hev':ev x=.slice (some ⟨e.β.getD n 0,off,none⟩) len cap:=hev
   simp [Builtin.len_,ht,run_underlying hu,goInt,hev']
  ·rename_i elem g hu hx
   rw [hx] at hev
   split at h
   ·rename_i ks c hg
    simp only [Option.some.injEq,Prod.mk.injEq] at h
    obtain ⟨rfl,rfl,rfl⟩:=h
    refine Zp.same hrep ?_
    have hd:(one (.i .i64 (Zop c))).den e=.int .i64 ((dec (c.den e.R e.r)).length:Int):=by simp only [one,SV.den,SW.den,SC.den,Z5f]
    rw [hd]
    refine hrun _ ?_
    rcases hrep.gread hg with ⟨⟨aa,hv⟩,hn⟩ | ⟨b,off,cap,hv,_⟩
    ·have hev':ev x=.slice aa 0 0:=hev.trans hv
     simp [Builtin.len_,ht,run_underlying hu,goInt,hev',hn]
    ·have hev':ev x=.slice (some ⟨b,off,none⟩) (dec (c.den e.R e.r)).length cap:=hev.trans hv
     simp [Builtin.len_,ht,run_underlying hu,goInt,hev']
   ·cases h
  ·rename_i elem g size lo hi hu hx
   rw [hx] at hev
   split at h
   ·rename_i ks c hg
    simp only [Option.some.injEq,Prod.mk.injEq] at h
    obtain ⟨rfl,rfl,rfl⟩:=h
    obtain ⟨v1,v2,v3⟩:=Zbf has
    refine Zp.same hrep ?_
    have hml:((dec (c.den e.R e.r)).length:Int)≤9223372036854775807:=by
     rcases hrep.gread hg with ⟨_,hn⟩ | ⟨b,off,cap,hv,hle,hm,_⟩
     ·rw [hn]; simp
     ·simp only [maxLen] at hm; omega
    have hmin:(Z2w hi lo).den e.R e.r=hi.den e.R e.r - lo.den e.R e.r:=Z4t _ _ (by omega) (by omega)
    have hlen:(hi.den e.R e.r - lo.den e.R e.r)=(((hi.den e.R e.r).toNat - (lo.den e.R e.r).toNat:Nat):Int):=by omega
    have hd:(one (.i .i64 (Z2w hi lo))).den e=.int .i64 (((hi.den e.R e.r).toNat - (lo.den e.R e.r).toNat:Nat):Int):=by simp only [one,SV.den,SW.den,SC.den,hmin,hlen]
    rw [hd]
    refine hrun _ ?_
    obtain ⟨a,l,cp,hv⟩:=G.val_slice e g
    have hev':ev x=.slice (if cp=(lo.den e.R e.r).toNat then a else a.map (·.add ((lo.den e.R e.r).toNat * size))) ((hi.den e.R e.r).toNat - (lo.den e.R e.r).toNat) (cp - (lo.den e.R e.r).toNat):=by
     rw [hev]; simp only [SV.den,SW.den,SC.den,hv,Zfj]
    simp [Builtin.len_,ht,run_underlying hu,goInt,hev']
   ·cases h
  ·rename_i elem hu hx
   simp only [Option.some.injEq,Prod.mk.injEq] at h
   obtain ⟨rfl,rfl,rfl⟩:=h
   rw [hx] at hev
   refine Zp.same hrep (hrun 0 ?_)
   have hev':ev x=.slice none 0 0:=hev
   simp [Builtin.len_,ht,run_underlying hu,goInt,hev']
  ·cases h
 ·cases h
theorem Z1n {α β:Type} (f:Option α→β→Option α) (hf:∀ y,f none y=none):∀ l:List β,l.foldl f none=none
 | []=>rfl
 | y::l=>by rw [List.foldl_cons,hf]; exact Z1n f hf l
theorem op_min {c:Call} {x:Operand} {rest:List Operand} (ho:o.op=.call c) (hc:c.callee=.builtin .min) (ha:c.args.toList=x::rest) (h:op1 P s o=some (aZ,v,s')) (hrep:Rep e W0 s w) (hev:∀ y ∈ x::rest,ev y=(s.ev y).den e):Zp P e W0 s s' o ev v w:=by
 simp only [op1,ho,hc,ha] at h
 have key:∀ (l:List Operand) (k:IntKind) (a:E),(∀ y ∈ l,ev y=(s.ev y).den e) →
   l.foldl (fun (acc:Option (List B × SV × St)) y=>match acc,s.ev y with
    | some (aZ,.w (.o (.i k a)),s'),.w (.o (.i _ b))=>some (aZ,one (.i k (mkMn a b)),s')
    | _,_=>none) (some ([],one (.i k a),s))=some (aZ,v,s') →
   aZ=[]∧s'=s∧(l.map ev |>.foldlM (m:=Sem) Builtin.min2 (.int k (a.den e.R e.r))).run P w=.ok (v.den e) w:=by
  intro l
  induction l with
  | nil =>
   intro k a _ hf
   simp only [List.foldl_nil,Option.some.injEq,Prod.mk.injEq] at hf
   obtain ⟨rfl,rfl,rfl⟩:=hf
   exact ⟨rfl,rfl,rfl⟩
  | cons y l ih =>
   intro k a hl hf
   rw [List.foldl_cons] at hf
   cases hy:s.ev y with
   | w yw=>cases yw with
    | o yc=>cases yc with
     | i k' b =>
      simp only [hy,one] at hf
      obtain ⟨h1,h2,h3⟩:=ih k (mkMn a b) (fun z hz=>hl z (by simp [hz])) hf
      refine ⟨h1,h2,?_⟩
      rw [Z18k,List.foldlM_cons,Sem.run_bind,hl y (by simp),hy,Zs1]
      simp only [Builtin.min2,Sem.run_pure,Result.andThen_ok]
      rw [Zzt] at h3
      exact h3
     | _=>simp only [hy,one] at hf; rw [Z1n _ (by simp)] at hf; cases hf
    | a cs=>simp only [hy,one] at hf; rw [Z1n _ (by simp)] at hf; cases hf
   | t xs=>simp only [hy,one] at hf; rw [Z1n _ (by simp)] at hf; cases hf
   | un i=>simp only [hy,one] at hf; rw [Z1n _ (by simp)] at hf; cases hf
 have hargs:c.args=(x::rest).toArray:=by
  apply Array.ext'
  simpa using ha
 split at h
 ·rename_i k a hx
  obtain ⟨rfl,rfl,h3⟩:=key rest k a (fun y hy=>hev y (by simp [hy])) h
  refine Zp.same hrep ?_
  have hx':ev x=.int k (a.den e.R e.r):=by rw [hev x (by simp),hx]; rfl
  simp only [execOp,ho,resolve,hc,hargs,Sem.run_bind,Sem.run_pure,Result.andThen_ok,invoke,builtin,Builtin.min_,List.map_toArray,Z18k,hx',h3]
 ·rw [Z1n _ (by simp)] at h
  cases h
theorem op_max {c:Call} {x:Operand} {rest:List Operand} (ho:o.op=.call c) (hc:c.callee=.builtin .max) (ha:c.args.toList=x::rest) (h:op1 P s o=some (aZ,v,s')) (hrep:Rep e W0 s w) (hev:∀ y ∈ x::rest,ev y=(s.ev y).den e):Zp P e W0 s s' o ev v w:=by
 simp only [op1,ho,hc,ha] at h
 have key:∀ (l:List Operand) (k:IntKind) (a:E),(∀ y ∈ l,ev y=(s.ev y).den e) →
   l.foldl (fun (acc:Option (List B × SV × St)) y=>match acc,s.ev y with
    | some (aZ,.w (.o (.i k a)),s'),.w (.o (.i _ b))=>some (aZ,one (.i k (mkMx a b)),s')
    | _,_=>none) (some ([],one (.i k a),s))=some (aZ,v,s') →
   aZ=[]∧s'=s∧(l.map ev |>.foldlM (m:=Sem) Builtin.max2 (.int k (a.den e.R e.r))).run P w=.ok (v.den e) w:=by
  intro l
  induction l with
  | nil =>
   intro k a _ hf
   simp only [List.foldl_nil,Option.some.injEq,Prod.mk.injEq] at hf
   obtain ⟨rfl,rfl,rfl⟩:=hf
   exact ⟨rfl,rfl,rfl⟩
  | cons y l ih =>
   intro k a hl hf
   rw [List.foldl_cons] at hf
   cases hy:s.ev y with
   | w yw=>cases yw with
    | o yc=>cases yc with
     | i k' b =>
      simp only [hy,one] at hf
      obtain ⟨h1,h2,h3⟩:=ih k (mkMx a b) (fun z hz=>hl z (by simp [hz])) hf
      refine ⟨h1,h2,?_⟩
      rw [Z18k,List.foldlM_cons,Sem.run_bind,hl y (by simp),hy,Zs1]
      simp only [Builtin.max2,Sem.run_pure,Result.andThen_ok]
      rw [Zzu] at h3
      exact h3
     | _=>simp only [hy,one] at hf; rw [Z1n _ (by simp)] at hf; cases hf
    | a cs=>simp only [hy,one] at hf; rw [Z1n _ (by simp)] at hf; cases hf
   | t xs=>simp only [hy,one] at hf; rw [Z1n _ (by simp)] at hf; cases hf
   | un i=>simp only [hy,one] at hf; rw [Z1n _ (by simp)] at hf; cases hf
 have hargs:c.args=(x::rest).toArray:=by
  apply Array.ext'
  simpa using ha
 split at h
 ·rename_i k a hx
  obtain ⟨rfl,rfl,h3⟩:=key rest k a (fun y hy=>hev y (by simp [hy])) h
  refine Zp.same hrep ?_
  have hx':ev x=.int k (a.den e.R e.r):=by rw [hev x (by simp),hx]; rfl
  simp only [execOp,ho,resolve,hc,hargs,Sem.run_bind,Sem.run_pure,Result.andThen_ok,invoke,builtin,Builtin.max_,List.map_toArray,Z18k,hx',h3]
 ·rw [Z1n _ (by simp)] at h
  cases h
theorem Z6h (h:op1 P s o=some (aZ,v,s')) (hrep:Rep e W0 s w) (hev:∀ x ∈ o.op.operands,ev x=(s.ev x).den e) (has:∀ b ∈ aZ,b.den e.R e.r=true):Zp P e W0 s s' o ev v w:=by
  cases ho:o.op with
  | move x=>exact Zur (.inl ho) h hrep (hev x (by simp [ho,Op.operands]))
  | assign x=>exact Zur (.inr ho) h hrep (hev x (by simp [ho,Op.operands]))
  | pick c a b=>exact Z15t ho h hrep (hev c (by simp [ho,Op.operands])) (hev a (by simp [ho,Op.operands])) (hev b (by simp [ho,Op.operands]))
  | alloc t=>exact Zzw ho h hrep
  | box t x=>exact op_box ho h hrep (hev x (by simp [ho,Op.operands]))
  | build t ps=>exact Z102 ho h hrep (fun p hp=>hev p.2 (by simp only [ho,Op.operands,List.mem_toArray]; exact List.mem_map_of_mem hp))
  | makeSlice t l c=>exact Zjz ho h hrep (hev l (by simp [ho,Op.operands])) (hev c (by simp [ho,Op.operands]))
  | buildSlice t n ps=>exact Zhb ho h hrep (fun p hp=>hev p.2 (by simp only [ho,Op.operands,List.mem_toArray]; exact List.mem_map_of_mem hp))
  | load t a=>exact Z15u ho h hrep (hev a (by simp [ho,Op.operands])) has
  | store t a x=>exact Zzx ho h hrep (hev a (by simp [ho,Op.operands])) (hev x (by simp [ho,Op.operands])) has
  | nilCheck x=>exact Zmm ho h hrep (hev x (by simp [ho,Op.operands])) has
  | binOp op t x y yt=>exact op_bin ho h hrep (hev x (by simp [ho,Op.operands])) (hev y (by simp [ho,Op.operands])) has
  | unOp u t x=>exact op_un ho h hrep (hev x (by simp [ho,Op.operands]))
  | convert a b x=>exact Zrz ho h hrep (hev x (by simp [ho,Op.operands]))
  | fieldAddr t x f=>exact Zjw ho h hrep (hev x (by simp [ho,Op.operands])) has
  | field t x f=>exact Zzy ho h hrep (hev x (by simp [ho,Op.operands]))
  | indexAddr t x i=>exact Zjx ho h hrep (hev x (by simp [ho,Op.operands])) (hev i (by simp [ho,Op.operands])) has
  | index t x i=>exact Zzz ho h hrep (hev x (by simp [ho,Op.operands])) (hev i (by simp [ho,Op.operands]))
  | slice t x lo hi mx=>exact Z101 ho h hrep (hev x (by simp [ho,Op.operands])) (fun y hy=>hev y (by simp [ho,Op.operands,Option.mem_def.1 hy])) (fun y hy=>hev y (by simp [ho,Op.operands,Option.mem_def.1 hy])) (fun y hy=>hev y (by simp [ho,Op.operands,Option.mem_def.1 hy])) has
  | extract x i=>exact Zs0 ho h hrep (hev x (by simp [ho,Op.operands]))
  | makeFunc fn first caps=>exact Zmn ho h hrep (fun x hx=>hev x (by simp [ho,Op.operands,hx]))
  | call c =>
    have hop:o.op.operands=c.operands:=by rw [ho]; rfl
    cases hc:c.callee with
    | value f=>simp [op1,ho,hc] at h
    | invoke r m=>simp [op1,ho,hc] at h
    | builtin b =>
      have hargs:∀ y ∈ c.args.toList,ev y=(s.ev y).den e:=fun y hy=>hev y (by rw [hop]; simp [Call.operands,hc]; simpa using hy)
      cases hl:c.args.toList with
      | nil=>cases b <;> simp [op1,ho,hc,hl] at h
      | cons x rest =>
        rw [hl] at hargs
        cases b <;> first
          | exact op_min ho hc hl h hrep hargs
          | exact op_max ho hc hl h hrep hargs
          | (cases rest with
             | nil=>exact op_len ho hc hl h hrep (hargs x (by simp)) has
             | cons y ys=>simp [op1,ho,hc,hl] at h)
          | (simp [op1,ho,hc,hl] at h; done)
  | _=>simp [op1,ho] at h
end
end Go.Sx
