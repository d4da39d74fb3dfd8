/-
  Symbolic execution of the model, and what functions of the program come to: part 6.
-/
import Derived.Test.YtgcoidbaoigkeaaGreatDoorRows
import Derived.Test.YtgcoidbaoigkeaaGreatDoorPke
set_option linter.unusedVariables false
set_option linter.unusedSimpArgs false
open List renaming getElem?_cons_zero → Z1gq, getElem?_cons_succ → Z1gr, getD_cons_zero → Z1gs, getD_cons_succ → Z1gt, cons_append → Z1gu, nil_append → Z1gv, map_cons → Z1gw, map_nil → Z1gx
namespace Go.Sx
open Go.RowKit
theorem Zhp:∀ {ks:List K} {xs:List Int} {u:Value},u ∈ Z9 ks xs→u.oneCell'=true
 | [],_,_,h=>by simp [Z9] at h
 | k::ks,[],_,h=>by simp [Z9] at h
 | k::ks,x::xs,u,h=>by
  simp only [Z9,List.mem_cons] at h
  rcases h with rfl | h
  ·cases k with
   | i k=>rfl
   | b=>rfl
   | s ty kr =>
    obtain ⟨a,l,c,hv⟩:=Zn5 x
    simp only [K.mk,hv]
    rfl
  ·exact Zhp h
theorem Zz5 {ks:List K} {l:List Int} {u:Value} (h:u ∈ Ze ks l):u.oneCell'=true:=by
 simp only [Ze,List.mem_flatMap] at h
 obtain ⟨x,_,hx⟩:=h
 exact Zhp hx
section
variable {P:Program} {Γ:List Sum} {Ψ:List Int→Prop} {bs:List (List Int→Prop)}
theorem Z1af {t ty elem:TypeId} {inf:TypeInfo} {z:Value} {ks:List K} {w:World} (ht:P.underlying t=some (.slice elem)) (hi:P.info? elem=some inf) (hz:inf.zero=some z) (hzs:z.cells.size=inf.size) (h0:inf.size ≠ 0)
    (hks:ks.length=inf.size) (hby:inf.bytes≤100000000) {v x:Value} {c d:Int} (hv:Z12 w elem ks v c) (hx:Z63 w ks x d) (hlen:(dec c).length + (dec d).length≤1000000) :
    ∃ v' w',(Builtin.append_ #[t,t] ty #[v,x]).run P w=.ok v' w'∧(∀ c',dec c'=dec c++dec d→Z12 w' elem ks v' c')∧w.grownBy w' (Z8 v)∧(∀ k,Z8 v'=some k→Z8 v=some k∨k=w.heap.size)∧∃ a l cp,v'=.slice a l cp:=by
  have hsame:∀ row,w.grownBy w row:=fun row=>⟨rfl,rfl,rfl,Nat.le_refl _,fun _ _ _=>rfl⟩
  by_cases hd:dec d=[]
  · -- nothing is appended
    have hxz:∃ r cp,x=.slice r 0 cp:=by
      rcases hx with ⟨⟨a,hx⟩,_⟩ | ⟨b,off,cap,hx,_⟩
      · exact ⟨_,_,hx⟩
      · exact ⟨_,_,by rw [hx,hd]; rfl⟩
    obtain ⟨r,cp,rfl⟩:=hxz
    have hvz:∃ q n cap,v=.slice q n cap∧n≤cap:=by
      rcases hv.form with ⟨b,_,hv⟩ | ⟨g,cap,hv,_,hle,_⟩
      · exact ⟨_,_,_,hv,Nat.le_refl _⟩
      · exact ⟨_,_,_,hv,hle⟩
    obtain ⟨q,n,cap,rfl,hle⟩:=hvz
    refine ⟨_,w,Z7r ht hi hle,fun c' hc'=>?_,hsame _,fun k hk=>.inl hk,_,_,_,rfl⟩
    rw [hd,List.append_nil] at hc'
    unfold Z12 at hv ⊢
    rw [hc']
    exact hv
  · rcases hx with ⟨_,hn⟩ | ⟨b,off,cx,rfl,hle,hm,hel,hcell⟩
    · exact absurd hn hd
    have hm0:0 < (dec d).length:=List.length_pos_iff.2 hd
    have hnl:(Ze ks (dec d)).length=(dec d).length * inf.size:=by rw [Zp hel,hks]
    have hnews:∀ j u,(Ze ks (dec d))[j]?=some u→w.cell? ((⟨b,off,none⟩:Addr).add j)=some u:=fun j u hj=>by rw [Addr.add_lit]; exact hcell j u hj
    have h1:∀ u ∈ Ze ks (dec d),u.oneCell'=true:=fun u hu=>Zz5 hu
    have hbytes:∀ n,n≤1000000→n * inf.bytes≤140737488355328:=fun n hn=>by
      have:=Nat.mul_le_mul hn hby
      omega
    have own:∀ {v:Value},w.ownsRow 0 elem ks.length v (dec c).length (Ze ks (dec c))→(∀ x ∈ dec c,(elt ks x).length=ks.length)→v.ownBlock=Z8 v →
        ∃ v' w',(Builtin.append_ #[t,t] ty #[v,.slice (some ⟨b,off,none⟩) (dec d).length cx]).run P w=.ok v' w'∧(∀ c',dec c'=dec c++dec d→Z12 w' elem ks v' c')∧w.grownBy w' (Z8 v)∧(∀ k,Z8 v'=some k→Z8 v=some k∨k=w.heap.size)∧∃ a l cp,v'=.slice a l cp:=by
      intro v hown helc hob
      rw [hks] at hown
      obtain ⟨g,cap,w',hr,ho,hgr,hat,_⟩:=run_append_lies (P:=P) w t ty 0 elem inf z inf.size inf.bytes ht hi hz rfl rfl hzs (by omega) v (dec c).length _ hown ⟨b,off,none⟩ (dec d).length cx _ hnl hnews h1 hm0 (by unfold maxLen; omega) (hbytes _ hlen) (Nat.zero_le _) _ rfl
      refine ⟨_,w',hr,fun c' hc'=>.inr ⟨by omega,?_,?_⟩,by rw [← hob]; exact hgr,?_,_,_,_,rfl⟩
      · rw [hc']
        intro y hy
        rcases List.mem_append.1 hy with hy | hy
        · exact helc y hy
        · exact hel y hy
      · rw [hc',Z8o,List.length_append,hks]
        exact ho
      · intro k hk
        simp only [Z8] at hk
        split at hk
        · cases hk
        · simp only [Option.some.injEq] at hk
          rw [hob] at hat
          rcases hat with hat | hat
          · exact .inl (by rw [hat,hk])
          · exact .inr (by rw [← hk,hat])
    rcases hv.form with ⟨b',hn,rfl⟩ | ⟨g,cap,hvv,hcap,hle',hk0,helc,hown⟩
    · cases b' with
      | none =>
       refine own ?_ (by rw [hn]; simp) rfl
       rw [hn]
       exact World.ownsRow_nil _ _ _ _
      | some b' =>
      have hr:=run_append_grow (P:=P) w t ty elem inf z ht hi hz b' 0 0 [] (by simp) (by simp) ⟨b,off,none⟩ (dec d).length cx _ hnl hnews (by omega) (by omega) (growslice_fits (by omega) (by have:=hbytes (dec d).length (by omega); simpa using this))
      simp only [Nat.zero_add] at hr
      refine ⟨_,_,hr,fun c' hc'=>.inr ⟨by omega,?_,?_⟩,⟨rfl,rfl,rfl,by simp,fun k hk _=>by first | exact heap_alloc_old w.drew _ hk | exact heap_alloc_old w.drew _ _ hk⟩,?_,_,_,_,rfl⟩
      · rw [hc',hn]
        simpa using hel
      · rw [hc',hn,Z1gv]
        have hge:=grownCap_ge w (dec d).length 0 elem
        refine ⟨by rw [hnl,hks],.inr ⟨w.heap.size,_,_,rfl,Nat.zero_le _,heap_alloc_new w.drew _,hge,grownCap_le_maxLen w (dec d).length 0 elem (by unfold maxLen; omega),?_,?_⟩⟩
        · simp only [Array.size_append,List.size_toArray,List.length_nil,size_zeroCells,hzs,hnl,hks,← Nat.add_mul,Nat.zero_add]
          congr 1
          omega
        · simp only [Array.toList_append,Z1gv]
          rw [hks,← hnl]
          exact List.take_left
      · intro k hk
        simp only [Z8] at hk
        split at hk
        · cases hk
        · simp only [Option.some.injEq] at hk
          exact .inr hk.symm
    · refine own hown helc ?_
      rw [hvv]
      simp [Value.ownBlock,Z8,hcap]
end
def LeA (e e':Env):Prop:=∃ a b c d x,e'.r=e.r++a∧e'.β=e.β++b∧e'.σ=e.σ++c∧e'.ω=e.ω++d∧e'.R=e.R++x
theorem LeA.refl (e:Env):LeA e e:=⟨[],[],[],[],[],by simp⟩
theorem LeA.of {e e':Env} (h:Env.le e e'):LeA e e':=by
 obtain ⟨a,b,c,d,h1,h2,h3,h4,h5⟩:=h
 exact ⟨a,b,c,d,[],h1,h2,h3,h4,by simpa using h5⟩
theorem LeA.trans {a b c:Env} (h:LeA a b) (h':LeA b c):LeA a c:=by
 obtain ⟨x1,x2,x3,x4,x5,p1,p2,p3,p4,p5⟩:=h
 obtain ⟨y1,y2,y3,y4,y5,q1,q2,q3,q4,q5⟩:=h'
 exact ⟨x1++y1,x2++y2,x3++y3,x4++y4,x5++y5,by simp [p1,p2,p3,p4,p5,q1,q2,q3,q4,q5]⟩
theorem Z1u {α:Type} {l x:List α} {i:Nat} (d:α) (h:i < l.length):(l++x).getD i d=l.getD i d:=by
 simp only [List.getD]
 rw [List.getElem?_append_left h]
theorem E.den_A {e e':Env} (h:LeA e e') {x:E} (hx:x.sc e.r.length=true):x.den e'.R e'.r=x.den e.R e.r:=by
 obtain ⟨a,b,c,d,y,h1,_⟩:=h
 rw [h1,E.den_app _ _ _ _ hx]
 exact E.den_R _ _ _ _
def Zcf (m nv nb:Nat):SC→Bool
 | .i _ x=>x.sc nv
 | .b x=>false
 | .p n _=>decide (n < nb)
 | .go (.a i)=>decide (i < m)
 | .l _=>true
 | _=>false
theorem Zpr {e e':Env} (h:LeA e e') {c:SC} (hc:Zcf e.R.length e.r.length e.β.length c=true):c.den e'=c.den e:=by
 cases c with
 | i k x=>simp only [Zcf] at hc; simp only [SC.den,E.den_A h hc]
 | p n off =>
  simp only [Zcf,Z1h4] at hc
  obtain ⟨a,b,c,d,y,h1,h2,h3,h4,h5⟩:=h
  simp only [SC.den,Z2c,h2,Z1u 0 hc]
 | go g =>
  cases g with
  | a i =>
   simp only [Zcf,Z1h4] at hc
   obtain ⟨a,b,c,d,y,h1,h2,h3,h4,h5⟩:=h
   simp only [SC.den,G.val,h5,Z1u undef hc]
  | _=>simp [Zcf] at hc
 | l v=>rfl
 | _=>simp [Zcf] at hc
def Z1gc (m nv nb:Nat):SV→Bool
 | .w (.o c)=>Zcf m nv nb c
 | .w (.a cs)=>cs.all (Zcf m nv nb)
 | .t []=>true
 | _=>false
theorem Z159 {m nv nb:Nat} {e e':Env} (hc:∀ c,Zcf m nv nb c=true→c.den e'=c.den e) {v:SV} (hv:Z1gc m nv nb v=true):v.den e'=v.den e:=by
 unfold Z1gc at hv
 split at hv
 ·exact hc _ hv
 ·simp only [SV.den,SW.den]
  rw [List.map_congr_left fun c h=>hc c (List.all_eq_true.1 hv c h)]
 ·rfl
 ·cases hv
inductive Fk where
 | keep
 | un
 | num (k:IntKind)
def gF:List Fk→List SV→Nat→Nat→List SV
 | .keep::l,v::vs,nv,nx=>v::gF l vs nv nx
 | .un::l,_::vs,nv,nx=>.un nx::gF l vs nv (nx + 1)
 | .num k::l,_::vs,nv,nx=>one (.i k (.v nv))::gF l vs (nv + 1) nx
 | _,_,_,_=>[]
def Z1gd (k:IntKind):SV→Option E
 | .w (.o (.i k' e))=>if k=k' then some e else none
 | _=>none
theorem Z1ag {k:IntKind} {x:SV} {e:E} (h:Z1gd k x=some e):x=one (.i k e):=by
 unfold Z1gd at h
 split at h
 ·split at h
  ·rename_i hk
   subst hk
   cases h
   rfl
  ·cases h
 ·cases h
def mF (m nv nb:Nat):List Fk→List SV→List SV→Option (List E)
 | [],[],[]=>some []
 | .keep::l,v::vs,x::xs=>if Z1gc m nv nb v && v.same x then mF m nv nb l vs xs else none
 | .un::l,_::vs,_::xs=>mF m nv nb l vs xs
 | .num k::l,_::vs,x::xs=>match Z1gd k x,mF m nv nb l vs xs with
  | some e,some es=>some (e::es)
  | _,_=>none
 | _,_,_=>none
noncomputable def uF (ex:Env):List Fk→List SV→List Value
 | .keep::l,_::xs=>uF ex l xs
 | .un::l,x::xs=>x.den ex::uF ex l xs
 | .num _::l,_::xs=>uF ex l xs
 | _,_=>[]
def nF:List Fk→Nat
 | []=>0
 | .num _::l=>nF l + 1
 | _::l=>nF l
def xF:List Fk→Nat
 | []=>0
 | .un::l=>xF l + 1
 | _::l=>xF l
theorem Zz6 {m nv nb:Nat} {ex:Env}:∀ {l:List Fk} {vs xs:List SV} {es:List E},mF m nv nb l vs xs=some es→es.length=nF l∧(uF ex l xs).length=xF l ∧
    ∀ (e2:Env) (nv0 nx0:Nat),(∀ c,Zcf m nv nb c=true→c.den e2=c.den ex)→(∀ t n,(es.map (E.den ex.R ex.r))[t]?=some n→e2.r.getD (nv0 + t) 0=n)→(∀ t v,(uF ex l xs)[t]?=some v→e2.ω.getD (nx0 + t) undef=v) →
      (gF l vs nv0 nx0).map (SV.den e2)=xs.map (SV.den ex)
  | [],vs,xs,es,h=>by
    cases vs <;> cases xs <;> simp [mF] at h
    subst h
    exact ⟨rfl,rfl,fun _ _ _ _ _ _=>rfl⟩
  | .keep::l,vs,xs,es,h=>by
    cases vs <;> cases xs <;> simp only [mF] at h <;> try cases h
    split at h
    · rename_i hc
      simp only [Z1h3] at hc
      obtain ⟨a1,a2,a3⟩:=Zz6 (ex:=ex) h
      refine ⟨a1,a2,fun e2 nv0 nx0 h1 h2 h3=>?_⟩
      have:=SV.same_eq hc.2
      subst this
      simp only [gF,Z1gw]
      rw [Z159 h1 hc.1,a3 e2 nv0 nx0 h1 h2 h3]
    · cases h
  | .un::l,vs,xs,es,h=>by
    cases vs <;> cases xs <;> simp only [mF] at h <;> try cases h
    obtain ⟨a1,a2,a3⟩:=Zz6 (ex:=ex) h
    refine ⟨a1,by simp only [uF,List.length_cons,xF,a2],fun e2 nv0 nx0 h1 h2 h3=>?_⟩
    simp only [gF,Z1gw]
    rw [a3 e2 nv0 (nx0 + 1) h1 h2 fun t v ht=>by
      rw [Nat.add_assoc,Nat.add_comm 1 t]
      exact h3 (t + 1) v (by simpa [uF] using ht)]
    congr 1
    exact h3 0 _ (by simp [uF])
  | .num k::l,vs,xs,es,h=>by
    cases vs <;> cases xs <;> simp only [mF] at h <;> try cases h
    rename_i v vs x xs
    split at h
    · rename_i e es' h1 h2
      simp only [Option.some.injEq] at h
      subst h
      have:=Z1ag h1
      subst this
      obtain ⟨a1,a2,a3⟩:=Zz6 (ex:=ex) h2
      refine ⟨by simp only [List.length_cons,nF,a1],by simp only [uF,xF,a2],fun e2 nv0 nx0 g1 g2 g3=>?_⟩
      simp only [gF,Z1gw]
      rw [a3 e2 (nv0 + 1) nx0 g1 (fun t n ht=>by
        rw [Nat.add_assoc,Nat.add_comm 1 t]
        exact g2 (t + 1) n (by simpa using ht)) (fun t v ht=>g3 t v (by simpa [uF] using ht))]
      congr 1
      have:=g2 0 (e.den ex.R ex.r) (by simp)
      simp only [one,SV.den,SW.den,SC.den,E.den,Nat.add_zero] at this ⊢
      rw [this]
    · cases h
def gC (a:Option Nat) (m:Nat):Nat→List SC→List SC
 | _,[]=>[]
 | j,c::cs=>(if a=some j then .go (.a m) else c)::gC a m (j + 1) cs
def cM (a:Option Nat) (y:SC→Bool) (m nv nb:Nat):Nat→List SC→List SC→Bool
 | _,[],[]=>true
 | j,c::cs,x::xs=>(if a=some j then y x else Zcf m nv nb c && c.same x) && cM a y m nv nb (j + 1) cs xs
 | _,_,_=>false
theorem cM_ok {a:Option Nat} {y:SC→Bool} {m nv nb mm:Nat} {e2 ex:Env} (h1:∀ c,Zcf m nv nb c=true→c.den e2=c.den ex) (h2:∀ x,y x=true→(SC.go (.a mm)).den e2=x.den ex) :
  ∀ {j:Nat} {cs xs:List SC},cM a y m nv nb j cs xs=true→(gC a mm j cs).map (SC.den e2)=xs.map (SC.den ex)
 | j,[],[],h=>rfl
 | j,[],_::_,h=>by simp [cM] at h
 | j,_::_,[],h=>by simp [cM] at h
 | j,c::cs,x::xs,h=>by
  simp only [cM,Z1h3] at h
  simp only [gC,Z1gw]
  rw [cM_ok h1 h2 h.2]
  congr 1
  have h0:=h.1
  split
  ·rename_i ha
   rw [if_pos ha] at h0
   exact h2 _ h0
  ·rename_i ha
   rw [if_neg ha] at h0
   simp only [Z1h3] at h0
   have:=SC.same_eq h0.2
   subst this
   exact h1 _ h0.1
def accAt (acc:Nat × Nat) (n:Nat):Option Nat:=if n=acc.1 then some acc.2 else none
def gM (acc:Nat × Nat) (m:Nat):Nat→List Blk→List Blk
 | _,[]=>[]
 | n,b::bs=>{ b with cells:=gC (accAt acc n) m 0 b.cells }::gM acc m (n + 1) bs
def mM (acc:Nat × Nat) (y:SC→Bool) (m nv nb:Nat):Nat→List Blk→List Blk→Bool
 | _,[],_=>true
 | n,b::bs,x::xs=>(b.live && (x.live && decide (b.ty=x.ty))) && (cM (accAt acc n) y m nv nb 0 b.cells x.cells && mM acc y m nv nb (n + 1) bs xs)
 | _,_::_,[]=>false
theorem Zhq (acc:Nat × Nat) (m:Nat):∀ (n:Nat) (l:List Blk),(gM acc m n l).length=l.length
 | _,[]=>rfl
 | n,b::l=>by simp only [gM,List.length_cons,Zhq acc m (n + 1) l]
theorem mM_ok {acc:Nat × Nat} {y:SC→Bool} {m nv nb mm:Nat} {e2 ex:Env} (h1:∀ c,Zcf m nv nb c=true→c.den e2=c.den ex) (h2:∀ x,y x=true→(SC.go (.a mm)).den e2=x.den ex) :
  ∀ {n:Nat} {bs xs:List Blk},mM acc y m nv nb n bs xs=true→∀ (i:Nat) (b':Blk),(gM acc mm n bs)[i]?=some b'→∃ x,xs[i]?=some x∧x.live=true∧b'.ty=x.ty∧b'.cells.map (SC.den e2)=x.cells.map (SC.den ex)
 | n,[],xs,h,i,b',hb=>by simp [gM] at hb
 | n,_::_,[],h,i,b',hb=>by simp [mM] at h
 | n,b::bs,x::xs,h,i,b',hb=>by
  simp only [mM,Z1h3,Z1h4] at h
  obtain ⟨⟨hl,hxl,hty⟩,hc,hr⟩:=h
  cases i with
  | zero =>
   simp only [gM,Z1gq,Option.some.injEq] at hb
   subst hb
   exact ⟨x,rfl,hxl,hty,cM_ok h1 h2 hc⟩
  | succ i =>
   simp only [gM,Z1gr] at hb
   exact mM_ok h1 h2 hr i b' hb
def Z1ge (m:Nat) (pl:List Fk) (acc:Nat × Nat) (s:St):St :=
 { s with fr:=gF pl s.fr s.nv s.nx,mem:=gM acc m 0 s.mem,nv:=s.nv + (nF pl + 1),nx:=s.nx + xF pl,dp:=s.dp + 1 }
theorem headA {e0 ex:Env} {W W':Bas} {s sx:St} {a:Act} {w w0:World} {pl:List Fk} {acc:Nat × Nat} {y:SC→Bool} {es:List E} {u:Value} {cn:Int} (h0:Rep e0 W s w0) (hsc:s.sc=true) (hx:Rel ex W' sx a w) (hle:LeA e0 ex)
  (hfl:sx.fl=0) (hfl0:s.fl=0) (hrows:s.rows=[]) (hgl:GlX s.gl W') (hF:mF e0.R.length s.nv s.mem.length pl s.fr sx.fr=some es) (hM:mM acc y e0.R.length s.nv s.mem.length 0 s.mem sx.mem=true)
  (hu:slV u=u) (hy:∀ x,y x=true→x.den ex=u) (hhs:s.hs.length≤e0.R.length) (harg:∀ i ks c,s.hs[i]?=some (ks,c)→SlX W' ks (slV (e0.R.getD i undef)) (c.den e0.R e0.r)) :
  ∃ e2,LeA e0 e2∧e2.r=e0.r++(es.map (E.den ex.R ex.r)++[cn])∧e2.R=e0.R++[u]∧Rel e2 W' (Z1ge e0.R.length pl acc s) a w:=by
 obtain ⟨f1,f2,f3⟩:=Zz6 (ex:=ex) hF
 obtain ⟨e2,he2⟩:∃ e2:Env,e2={ r:=e0.r++(es.map (E.den ex.R ex.r)++[cn]),β:=e0.β,σ:=e0.σ,ω:=e0.ω++uF ex pl sx.fr,R:=e0.R++[u] }:=⟨_,rfl⟩
 have er:e2.r=e0.r++(es.map (E.den ex.R ex.r)++[cn]):=by rw [he2]
 have eβ:e2.β=e0.β:=by rw [he2]
 have eσ:e2.σ=e0.σ:=by rw [he2]
 have eω:e2.ω=e0.ω++uF ex pl sx.fr:=by rw [he2]
 have eR:e2.R=e0.R++[u]:=by rw [he2]
 have hle2:LeA e0 e2:=⟨es.map (E.den ex.R ex.r)++[cn],[],[],uF ex pl sx.fr,[u],by rw [er],by simp [eβ],by simp [eσ],by rw [eω],by rw [eR]⟩
 have hkeep:∀ c,Zcf e0.R.length s.nv s.mem.length c=true→c.den e2=c.den ex:=fun c hc=>by
  rw [← h0.nv,← h0.nb] at hc
  rw [Zpr hle2 hc,Zpr hle hc]
 have hacc:∀ x,y x=true→(SC.go (.a e0.R.length)).den e2=x.den ex:=fun x hyx=>by
  rw [hy x hyx]
  simp only [SC.den,G.val,eR]
  rw [show (e0.R++[u]).getD e0.R.length undef=u by simp [List.getD]]
  exact hu
 have hm:=mM_ok (mm:=e0.R.length) hkeep hacc hM
 have hβ:∀ n,n < s.mem.length→e2.β.getD n 0=ex.β.getD n 0:=fun n hn=>by
  obtain ⟨a,b,c,d,x,h1,h2,h3,h4,h5⟩:=hle
  rw [eβ,h2,Z1u 0 (by rw [h0.nb]; exact hn)]
 have hlt:∀ (n:Nat) (b:Blk),(gM acc e0.R.length 0 s.mem)[n]?=some b→n < s.mem.length:=fun n b hb=>by
  have:=(List.getElem?_eq_some_iff.1 hb).1
  rwa [Zhq] at this
 refine ⟨e2,hle2,er,eR,⟨?_,?_,hx.defs⟩⟩
 ·refine ⟨hx.rep.below,?_,?_,?_,?_,?_,?_,?_,?_,?_,?_,?_,?_,?_⟩
  ·show e2.β.length=(gM acc e0.R.length 0 s.mem).length
   rw [Zhq,eβ]; exact h0.nb
  ·show e2.σ.length=s.rows.length
   rw [eσ]; exact h0.ng
  ·show e2.r.length=s.nv + (nF pl + 1)
   rw [er]; simp only [List.length_append,List.length_map,List.length_cons,List.length_nil,f1,h0.nv]
  ·show e2.ω.length=s.nx + xF pl
   rw [eω,List.length_append,f2,h0.nx]
  ·intro n b hb hl
   obtain ⟨x,hx1,hx2,hx3,hx4⟩:=hm n b hb
   rw [hβ n (hlt n b hb),hx.rep.blk n x hx1 hx2,hx3,hx4]
  ·intro n b hb hl hf
   obtain ⟨x,hx1,hx2,hx3,hx4⟩:=hm n b hb
   rw [hβ n (hlt n b hb)]
   exact hx.rep.own n x hx1 hx2 (by rw [hfl]; exact Nat.zero_le _)
  ·intro n m b c hb hc hl hl' heq
   obtain ⟨x,hx1,hx2,_⟩:=hm n b hb
   obtain ⟨z,hz1,hz2,_⟩:=hm m c hc
   rw [hβ n (hlt n b hb),hβ m (hlt m c hc)] at heq
   exact hx.rep.sep n m x z hx1 hz1 hx2 hz2 heq
  ·intro n b hb
   rw [show (Z1ge e0.R.length pl acc s).rows=[] from hrows] at hb
   simp at hb
  ·intro n b hb
   rw [show (Z1ge e0.R.length pl acc s).rows=[] from hrows] at hb
   simp at hb
  ·intro n m b c k hb
   rw [show (Z1ge e0.R.length pl acc s).rows=[] from hrows] at hb
   simp at hb
  ·intro n m b c hb hc
   rw [show (Z1ge e0.R.length pl acc s).rows=[] from hrows] at hc
   simp at hc
  ·exact hgl
  ·intro i ks c hi
   have hi':s.hs[i]?=some (ks,c):=hi
   have hlt':i < e0.R.length:=Nat.lt_of_lt_of_le (List.getElem?_eq_some_iff.1 hi').1 hhs
   have:=harg i ks c hi'
   have hcs:c.sc e0.r.length=true:=by
    simp only [St.sc,Z1h3] at hsc
    rw [h0.nv]
    exact List.all_eq_true.1 hsc.2.2 _ (List.mem_of_getElem? hi')
   rw [E.den_A hle2 hcs]
   show SlX W' ks (slV (e2.R.getD i undef)) _
   rw [eR,Z1u undef hlt']
   exact this
 ·rw [hx.tmps]
  congr 1
  refine (f3 e2 s.nv s.nx hkeep (fun t n ht=>?_) (fun t v ht=>?_)).symm
  ·rw [er,← h0.nv]
   simp only [List.getD]
   rw [List.getElem?_append_right (by omega),Nat.add_sub_cancel_left,List.getElem?_append_left (List.getElem?_eq_some_iff.1 ht).1,ht]
   rfl
  ·rw [eω,← h0.nx]
   simp only [List.getD]
   rw [List.getElem?_append_right (by omega),Nat.add_sub_cancel_left,ht]
   rfl
end Go.Sx
namespace Go.Sx
open Go.RowKit
def exF (rs:List Sh) (chk:St→List SV→Bool) (C:List E):St→List SV→Option (List B × List E × (Nat→St × SV)):=fun s args =>
 if chk s args then some ([],[],fun nv=>({ s with nv:=s.nv + Zj rs,rows:=s.rows++Z24 (Z4b rs) C },Zmr Zq4 s.rows.length rs C)) else none
def exS (s:Sum) (chk:St→List SV→Bool) (C:List E) (K:List Int):Sum:={ s with sem:=fun _=>K,pre:=fun _=>True,m:=some (exF s.rs chk C) }
theorem Z1cu {P:Program} {s0:Sum} {chk:St→List SV→Bool} {C:List E} {K:List Int} (hok0:s0.ok P) (hK:∀ (R:Fo) (r:List Int),C.map (E.den R r)=K)
  (hchk:∀ (e:Env) (W0:Bas) (s:St) (w:World) (args:List SV),Rep e W0 s w→chk s args=true→∃ xs,Z76 (fun _ ks u n=>SlN w ks u n) s0.ps (args.map (SV.den e)) xs∧s0.pre xs∧s0.sem xs=K):(exS s0 chk C K).okA P:=by
 show (exS s0 chk C K).okM P (exF s0.rs chk C)
 intro W0 e s w args aZ es kk hrep0 hsc hargs hgl hf has hpre
 unfold exF at hf
 split at hf
 ·rename_i hck
  simp only [Option.some.injEq,Prod.mk.injEq] at hf
  obtain ⟨rfl,rfl,rfl⟩:=hf
  obtain ⟨xs,hden,hp0,hsem⟩:=hchk e W0 s w args hrep0 hck
  obtain ⟨_,hok⟩:=hok0
  obtain ⟨hl,hcalls⟩:=hok xs _ w (Zk9 hgl hrep0.glw) hden hp0
  rw [hsem] at hl hcalls
  dsimp only [exS] at hcalls ⊢
  refine hcalls.mono fun x w' ⟨v,hx,⟨vs,hv,hres,hap⟩,hb⟩=>?_
  obtain ⟨hrep,hfr,hle⟩:=hrep0.vars hsc K
  have hrep2:=hrep.grown hb
  have hDd:C.map (E.den e.R (e.r++K))=K:=hK _ _
  have hres':Z76 (fun ty ks u n=>Z12 w' ty ks u n∧∀ k,Z8 u=some k→w.heap.size≤k) s0.rs vs (C.map (E.den ({ e with r:=e.r++K }:Env).R ({ e with r:=e.r++K }:Env).r)):=by
   show Z76 _ s0.rs vs (C.map (E.den e.R (e.r++K)))
   rw [hDd]
   exact hres
  obtain ⟨r1,r2⟩:=Z2o hres'
  have hslice:∀ {ty ks u n},Z12 w' ty ks u n→∃ a l c,u=.slice a l c:=by
   intro ty ks u n hr
   rcases hr with ⟨_,b,h2⟩ | ⟨_,_,h2⟩
   ·exact ⟨_,_,_,h2⟩
   ·rcases h2.2 with ⟨h3,_⟩ | ⟨g,cap,cur,h3,_⟩
    ·exact ⟨_,_,_,h3⟩
    ·exact ⟨_,_,_,h3⟩
  have hscp:({ s with nv:=s.nv + K.length }:St).scp=true:=(St.sc_scp hsc:s.scp=true)
  obtain ⟨hrep3,hlike⟩:=hrep2.addRows hscp (rows:=Z24 (Z4b s0.rs) C) (vals:=Za s0.rs vs) r1
   (fun j b u hj hu _=>⟨hslice (r2 j b u hj hu).1,(r2 j b u hj hu).1⟩)
   (fun j b u k hj hu _ hk=>by
    have hge:=(r2 j b u hj hu).2 k hk
    refine ⟨.inl (Nat.le_trans hrep0.below.size hge),fun n c hc hlc heq=>?_,fun n c hc hlc heq=>?_⟩
    ·have:=Z1r (hrep0.blk n c hc hlc)
     have heq':e.β.getD n 0=k:=heq
     omega
    ·have:=(hrep0.row n c hc hlc).blk_lt heq
     omega)
   (Z69 hap)
  rw [hl] at hrep3
  have hle2:Env.le e { e with r:=e.r++K,σ:=e.σ++Za s0.rs vs }:=⟨K,[],Za s0.rs vs,[],by simp⟩
  have hresv:(Zmr Zq4 s.rows.length s0.rs C).den { e with r:=e.r++K,σ:=e.σ++Za s0.rs vs }=v:=by
   rw [hv]
   refine Zka (e:={ e with r:=e.r++K,σ:=e.σ++Za s0.rs vs }) hres' fun j u hj=>?_
   obtain ⟨b,hb'⟩:∃ b,(Z24 (Z4b s0.rs) C)[j]?=some b:=⟨_,List.getElem?_eq_getElem (by rw [← r1]; exact (List.getElem?_eq_some_iff.1 hj).1)⟩
   obtain ⟨aa,ll,cc,hsl⟩:=hslice (r2 j b u hb' hj).1
   simp only [Zq4,SC.den,G.val]
   have:(e.σ++Za s0.rs vs).getD (s.rows.length + j) undef=u:=by
    simp only [List.getD]
    rw [List.getElem?_append_right (by rw [hrep0.ng]; omega),hrep0.ng,show s.rows.length + j - s.rows.length=j by omega,hj]
    rfl
   rw [this,hsl]
   rfl
  refine ⟨_,?_,hle2,rfl,hrep3,rfl,rfl,rfl,rfl⟩
  rw [hx,← hresv]
 ·cases hf
def okSl (s:St) (ks:List K) (c:SC) (x:E):Bool:=match Zf7 s ks c with
 | some ([],y)=>y.same x
 | _=>false
theorem Zcg {e:Env} {W0:Bas} {s:St} {w:World} (h:Rep e W0 s w) {ks:List K} {c:SC} {x:E} (hc:okSl s ks c x=true):SlN w ks (c.den e) (x.den e.R e.r):=by
 unfold okSl at hc
 split at hc
 ·rename_i y hs
  have:=Znd h hs (fun b hb=>by cases hb)
  rwa [E.same_eq _ _ hc] at this
 ·cases hc
theorem Z2m.dec {w:World} {X:Nat→Prop} {ty:TypeId} {ks:List K} {v:Value} {c d:Int} (h:Z2m w X (.s ty ks) v c) (hd:dec d=dec c):Z2m w X (.s ty ks) v d:=by
 rw [Z2m] at h ⊢
 unfold Z63 at *
 rw [hd]
 exact h
theorem Zwc {w:World} {ty:TypeId} {ks:List K} {u:Value} {c:Int} (h:SlN w ks u c):∃ n,hdV n=u∧dec (ctN n)=dec c∧Z2m w (fun _=>False) (.s ty ks) (hdV n) (ctN n):=by
 have h':Z2m w (fun _=>False) (.s ty ks) u c:=by
  unfold SlN at h
  rw [Z2m] at h ⊢
  exact h
 rcases h'.base.1 with ⟨⟨a,h1⟩,h2⟩ | ⟨b,off,cap,h1,h2,_⟩
 ·have key:∀ n,hdV n=u→Go.Sx.dec (ctN n)=[]→∃ n,hdV n=u∧Go.Sx.dec (ctN n)=Go.Sx.dec c∧Z2m w (fun _=>False) (.s ty ks) (hdV n) (ctN n):=fun n e1 e2 =>
   ⟨n,e1,by rw [e2,h2],by rw [e1]; exact h'.dec (by rw [e2,h2])⟩
  cases a with
  | none=>exact key 0 (by rw [Zay,h1]) (by rw [Z8n,Z22])
  | some a =>
   obtain ⟨b,off,sp⟩:=a
   cases sp with
   | none =>
    refine key (cod [(b:Int),(off:Int),0,0,cod []]) ?_ ?_
    ·unfold hdV
     rw [Z4,h1]
     simp
    ·unfold ctN
     rw [Z4]
     exact Z4 []
   | some sp =>
    refine key (cod [(b:Int),(off:Int),0,0,cod [],(sp:Int)]) ?_ ?_
    ·unfold hdV
     rw [Z4,h1]
     simp
    ·unfold ctN
     rw [Z4]
     exact Z4 []
 ·have hn:hdV (cod [(b:Int),(off:Int),((Go.Sx.dec c).length:Int),(cap:Int),c])=u:=by
   unfold hdV
   rw [Z4]
   simp only
   rw [if_pos (by omega),h1]
   simp
  have hct:ctN (cod [(b:Int),(off:Int),((Go.Sx.dec c).length:Int),(cap:Int),c])=c:=by
   unfold ctN
   rw [Z4]
   rfl
  exact ⟨_,hn,by rw [hct],by rw [hn,hct]; exact h'⟩
def Z1gf (s:St) (t0 t1 t2:TypeId) (k0 k1 k2 kr:List K) (c:SC) (x0 x1 x2:E) (r:List E):Bool:=match c with
 | .s m 0 1 cap=>(match s.mem[m]? with
  | some b=>b.live && decide (1≤cap) && decide (cap≤1000000) && (match b.cells with
   | c0::c1::c2::cr=>okSl s k0 c0 x0 && (okSl s k1 c1 x1 && (okSl s k2 c2 x2 && (match Z2w kr cr with
    | some es=>Zdm es r
    | none=>false)))
   | _=>false)
  | none=>false)
 | _=>false
theorem Zz7 {e:Env} {W0:Bas} {s:St} {w:World} (h:Rep e W0 s w) {t0 t1 t2:TypeId} {k0 k1 k2 kr:List K} {c:SC} {x0 x1 x2:E} {r:List E} (hp:∀ xs,Z64 w (fun _=>False) kr xs) (hc:Z1gf s t0 t1 t2 k0 k1 k2 kr c x0 x1 x2 r=true) :
  ∃ n0 n1 n2,dec (ctN n0)=dec (x0.den e.R e.r)∧dec (ctN n1)=dec (x1.den e.R e.r)∧dec (ctN n2)=dec (x2.den e.R e.r)∧SlN w (.s t0 k0::.s t1 k1::.s t2 k2::kr) (c.den e) (cod [cod (n0::n1::n2::r.map (E.den e.R e.r))]):=by
 unfold Z1gf at hc
 split at hc
 ·rename_i m cap
  split at hc
  ·rename_i b hb
   simp only [Z1h3,Z1h4] at hc
   obtain ⟨⟨⟨hl,hcap1⟩,hcap⟩,hc⟩:=hc
   split at hc
   ·rename_i c0 c1 c2 cr hcells
    simp only [Z1h3] at hc
    obtain ⟨h0,h1,h2,h3⟩:=hc
    split at h3
    ·rename_i es hfl
     have hes:=Zb7 h3
     subst hes
     obtain ⟨hlen,hden⟩:=Z30 (e:=e) hfl
     obtain ⟨n0,a0,b0,d0⟩:=Zwc (ty:=t0) (Zcg h h0)
     obtain ⟨n1,a1,b1,d1⟩:=Zwc (ty:=t1) (Zcg h h1)
     obtain ⟨n2,a2,b2,d2⟩:=Zwc (ty:=t2) (Zcg h h2)
     refine ⟨n0,n1,n2,b0,b1,b2,?_⟩
     have hel:elt (.s t0 k0::.s t1 k1::.s t2 k2::kr) (cod (n0::n1::n2::es.map (E.den e.R e.r)))=n0::n1::n2::es.map (E.den e.R e.r):=by
      unfold elt
      rw [if_neg (by simp),Z4]
     have hbl:=h.blk m b hb hl
     unfold SlN
     rw [Z2m]
     refine ⟨⟨.inr ⟨e.β.getD m 0,0,cap,?_,?_,?_,?_,?_⟩,fun _ _ _ hh=>hh⟩,?_⟩
     ·rw [Z4]; rfl
     ·rw [Z4]; exact hcap1
     ·simp only [maxLen]; omega
     ·rw [Z4]
      intro x hx
      rw [List.mem_singleton.1 hx,hel]
      simp only [List.length_cons,List.length_map,hlen]
     ·rw [Z4]
      intro j u hj
      unfold Ze at hj
      rw [List.flatMap_cons,List.flatMap_nil,List.append_nil,hel] at hj
      simp only [Z9,K.mk,a0,a1,a2] at hj
      rw [← hden] at hj
      have hcs:(c0.den e::c1.den e::c2.den e::cr.map (SC.den e))=b.cells.map (SC.den e):=by rw [hcells]; rfl
      rw [hcs] at hj
      unfold World.cell?
      simp only [hbl]
      rw [if_neg (by decide)]
      rw [Nat.zero_add]
      simpa using hj
     ·rw [Z4]
      intro x hx
      rw [List.mem_singleton.1 hx,hel]
      simp only [Z64]
      exact ⟨d0,d1,d2,hp _⟩
    ·cases h3
   ·cases hc
  ·cases hc
 ·cases hc
end Go.Sx
namespace Go.Sx
open Go.RowKit
abbrev RbF:=St→List SV→Option (List E × (Nat→St × SV))
section
variable (P:Program) (Γ:List Sum) (ih:Code→St→Z9i→T) (n g:Nat) (fS:FuncId) (f:RbF)
def Z1cv (s:St) (o:Oper):Option (List SV):=match o.op with
 | .call c=>(match c.callee with
  | .value F=>(match s.ev F with
   | .w (.o (.f fn []))=>if decide (fn=fS) then some (c.args.toList.map s.ev) else none
   | _=>none)
  | _=>none)
 | _=>none
def rbT (ops:Array Oper):List Oper→St→(St→T)→T
 | [],s,k=>k s
 | o::l,s,k=>if o.guard.isNone then (match Z1cv fS s o with
  | some args=>if Z67 P fS && (s.sc && args.all (SV.sc s.nv s.mem.length s.rows.length s.nx)) then (match f s args with
   | some (es,kk)=>.any n g es (Z3z P Γ ih ops l ((kk s.nv).1.put o.dst (kk s.nv).2) k)
   | none=>.fail) else .fail
  | none=>if (Z9v o).isNone then opT P Γ ih o s fun s'=>rbT ops l s' k else .fail) else .fail
end
def RbM (P:Program) (Γ:List Sum) (n g m0:Nat) (fS:FuncId) (f:RbF):Prop :=
  ∀ (W0:Bas) (e:Env) (s:St) (w:World) (args:List SV) (es:List E) (kk:Nat→St × SV) (sm:Sum),Rep e W0 s w→s.sc=true→args.all (SV.sc s.nv s.mem.length s.rows.length s.nx)=true→e.R.length=m0 →
    f s args=some (es,kk)→Γ[g]?=some sm→sm.pre (es.map (E.den e.R e.r)) →
    Calls P fS (args.map (SV.den e)).toArray w fun x w'=>∃ (ys:List Int) (e':Env) (W1:Bas),ys.length=n∧Zi7 Γ g (es.map (E.den e.R e.r)++ys)∧x=.returned ((kk s.nv).2.den e')∧e'.r=e.r++ys ∧
      Rep e' W1 (kk s.nv).1 w'∧(kk s.nv).1.fr=s.fr∧s.fr.map (SV.den e')=s.fr.map (SV.den e)∧(kk s.nv).1.dp=s.dp∧Zt W0 W1.w∧∀ i,W1.may i→W0.may i
section
variable {P:Program} {Γ:List Sum} {Ψ:List Int→Prop} {n g m0:Nat} {fS:FuncId} {f:RbF}
def Fz (Γ:List Sum) (Ψ:List Int→Prop) (W0:Bas) (k:St→T) (a:Act) (w:World):Prop :=
 ∃ s' e' W1 bs',Rel e' W1 s' a w∧s'.dp=List.length bs'∧(k s').sat Γ e'.R Ψ bs' e'.r∧Zt W0 W1.w∧∀ i,W1.may i→W0.may i
theorem Zps (hG:Gok P Γ) (hM:RbM P Γ n g m0 fS f) {ih:Code→St→Z9i→T} (hih:IH P Γ ih) {W0:Bas} {ops:Array Oper} {k:St→T} {Q:Exit→Act→World→Prop}:∀ (l:List Oper) (s:St) (bs:List (List Int→Prop)) (e:Env) (a:Act) (w:World),Rel e W0 s a w→s.dp=bs.length→e.R.length=m0 →
  (rbT P Γ ih n g fS f ops l s k).sat Γ e.R Ψ bs e.r→(∀ a' w',Fz Γ Ψ W0 k a' w'→Q .normal a' w')→wpList P ops Q l a w
 | [],s,bs,e,a,w,h,hdp,hR,hs,hQ=>hQ a w ⟨s,e,W0,bs,h,hdp,hs,Zt.refl _,fun _ h=>h⟩
 | o::l,s,bs,e,a,w,h,hdp,hR,hs,hQ=>by
  simp only [rbT] at hs
  split at hs
  case isFalse=>exact hs.elim
  rename_i hgd
  have hgd:o.guard=none:=by simpa using hgd
  split at hs
  ·rename_i args hargs
   unfold Z1cv at hargs
   split at hargs
   case h_2=>cases hargs
   rename_i c ho
   split at hargs
   case h_2=>cases hargs
   rename_i F hcal
   split at hargs
   case h_2=>cases hargs
   rename_i fn hF
   split at hargs
   case isFalse=>cases hargs
   rename_i hfn
   simp only [Z1h4] at hfn
   subst hfn
   simp only [Option.some.injEq] at hargs
   split at hs
   case isFalse=>exact hs.elim
   rename_i hc
   simp only [Z1h3] at hc
   obtain ⟨hcl,hsc,hasc⟩:=hc
   split at hs
   case h_2=>exact hs.elim
   rename_i es kk hf
   simp only [T.sat] at hs
   split at hs
   case h_2=>exact hs.elim
   rename_i sm hsm
   obtain ⟨hpre,hs⟩:=hs
   refine wpList_plain hgd fun K hK=>?_
   have hevF:a.eval F=.func (.func fn) #[] #[]:=by
    rw [h.eval F,hF]
    simp [SV.den,SW.den,SC.den]
   have hrun:=Zfk hcl ho hcal hevF w
   have hargs':c.args.map a.eval++#[]=(args.map (SV.den e)).toArray:=by
    apply Array.ext'
    rw [← hargs]
    simp only [Array.append_empty,Array.toList_map,List.map_map]
    exact List.map_congr_left fun x _=>h.eval x
   rw [hargs'] at hrun
   unfold Oper.wp
   rw [hrun]
   simp only [Oper.upon_enter]
   refine (hM W0 e s w args es kk sm h.rep hsc hasc hR hf hsm hpre).mono ?_
   rintro x w' ⟨ys,e',W1,hyl,hrel,rfl,hr,hrep,hfr,hden,hdp',hb,hm⟩
   have hrl:Rel e' W1 (kk s.nv).1 a w':=⟨hrep,by rw [h.tmps,hfr,hden],h.defs⟩
   have hput:=hrl.put o.dst (kk s.nv).2
   have hs2:=hs ys hyl hrel
   rw [← hr,T.sat_R e.R e'.R] at hs2
   refine hK _ _ (Z45 hG hih l _ k bs e' _ w' hput ((Z5h _ _ _).trans (hdp'.trans hdp)) hs2 ?_)
   rintro a' w2 ⟨s',e2,more,hle,hrel',_,_,hd',hsat'⟩
   exact hQ a' w2 ⟨s',e2,W1,bs++more,hrel',hd',hsat',hb,hm⟩
  ·split at hs
   case isFalse=>exact hs.elim
   refine wpList_plain hgd fun K hK=>?_
   refine Oper.wp_mono' (Z7s hG hih h hdp hs) ?_
   rintro a3 w3 ⟨s3,e3,more,hle,hrel,hf,hfr,hd,hsat⟩
   refine hK _ _ (Zps hG hM hih l s3 (bs++more) e3 a3 w3 hrel hd ?_ hsat hQ)
   obtain ⟨_,_,_,_,_,_,_,_,hR3⟩:=hle
   rw [hR3]
   exact hR
end
def Z1gg (id0:Nat) (rt:Array Oper→List Oper→St→(St→T)→T) (ex:Code→St→Z9i→T):Code→List Code→St→Z9i→T
 | .seq x y,rest,s,k=>if Z1ae id0 x then Z1gg id0 rt ex x (y::rest) s k else ex x s fun o s'=>match o with
  | .norm=>if Z1ae id0 y then Z1gg id0 rt ex y rest s' k else ex (seqs (y::rest)) s' k
  | o=>k o s'
 | .region id ops d,rest,s,k=>if id == id0 && !d then rt ops ops.toList s fun s'=>ex (seqs rest) s' k else .fail
 | _,_,_,_=>.fail
section
variable {P:Program} {Γ:List Sum} {Ψ:List Int→Prop} {n g m0:Nat} {fS:FuncId} {f:RbF}
theorem Zpt:∀ (l:List Code) {Q Q':Exit→Act→World→Prop},(∀ x a w,Q x a w→Q' x a w)→∀ x a w,Z1bq P l Q x a w→Z1bq P l Q' x a w:=by
 intro l
 induction l with
 | nil=>intro Q Q' hQ x a w h; exact hQ x a w h
 | cons y r ih =>
  intro Q Q' hQ x a w h
  have h1:=ih hQ
  cases x with
  | normal=>exact wp_mono h h1
  | _=>exact h1 _ _ _ h
theorem Zz8 (hG:Gok P Γ) (hM:RbM P Γ n g m0 fS f) {id0:Nat} {ex:Code→St→Z9i→T} (hih:IH P Γ ex) {F:Func} {rs:List Sh} {w0:World} :
    ∀ (c:Code) (rest:List Code) (s:St) (bs:List (List Int→Prop)) (e:Env) (a:Act) (w:World),Rel e ⟨w0,fun _=>False⟩ s a w→s.dp=bs.length→e.R.length=m0→(Z1gg id0 (rbT P Γ ex n g fS f) ex c rest s (Zmw P F rs)).sat Γ e.R Ψ bs e.r →
      c.wp P (Z1bq P rest (bodyPost P F (RgR Ψ w0 rs))) a w:=by
  have hfin:∀ {out:Out} {s':St} {bs:List (List Int→Prop)} {e:Env} {W1:Bas} {a:Act} {w:World},Rel e W1 s' a w→Zt ⟨w0,fun _=>False⟩ W1.w→(∀ i,W1.may i→(Bas.mk w0 fun _=>False).may i)→(Zmw P F rs out s').sat Γ e.R Ψ bs e.r→bodyPost P F (RgR Ψ w0 rs) out.exitOf a w:=by
    intro out s' bs e W1 a w h hb hm hs
    obtain ⟨hne,ys,v,h1,h2,h3⟩:=Znm h hs
    have hR:RgR Ψ w0 rs (.returned v) w:=⟨ys,v,rfl,h1,Zar.up (fun k hk=>Z11n k (hm k hk)) h2,(hb.trans h.rep.below hm).below⟩
    cases out with
    | norm=>exact ⟨h.defs,_,h3,hR⟩
    | exit id=>exact absurd rfl (hne id)
    | ret=>exact ⟨h.defs,_,h3,hR⟩
  have px:∀ {bs:List (List Int→Prop)} {e:Env} {W1:Bas} {fl flr:Nat} {x:Exit} {a:Act} {w:World},Zt ⟨w0,fun _=>False⟩ W1.w→(∀ i,W1.may i→(Bas.mk w0 fun _=>False).may i)→Px Γ Ψ bs W1 e fl flr (Zmw P F rs) x a w→bodyPost P F (RgR Ψ w0 rs) x a w:=by
    rintro bs e W1 fl flr x a w hb hm ⟨out,s',e',more,rfl,hle,hrel,hf,hfr,hd,hsat⟩
    exact hfin hrel hb hm hsat
  intro c
  induction c with
  | seq x y ihx ihy =>
    intro rest s bs e a w h hdp hR hs
    simp only [Z1gg] at hs
    split at hs
    · exact wp_seq (ihx (y::rest) s bs e a w h hdp hR hs)
    · refine wp_seq (wp_mono (Zij x (hih x s _ _ Ψ bs e a w h hdp hs)) ?_)
      rintro ex' a' w' ⟨out,s',e',more,rfl,hle,hrel,hf,hfr,hd,hsat⟩
      have hR':e'.R.length=m0:=by
        obtain ⟨_,_,_,_,_,_,_,_,hR3⟩:=hle
        rw [hR3]
        exact hR
      cases out with
      | norm =>
        dsimp only at hsat
        split at hsat
        · exact ihy rest s' (bs++more) e' a' w' hrel hd hR' hsat
        · have:=Zrf (y::rest) (hih (seqs (y::rest)) s' _ _ Ψ (bs++more) e' a' w' hrel hd hsat)
          exact Zpt (y::rest) (fun x a w hh=>px (Zt.refl _) (fun _ h=>h) hh) _ _ _ this
      | exit id=>exact Zek (x:=.exit id) (by intro hh; cases hh) (hfin (out:=.exit id) hrel (Zt.refl _) (fun _ h=>h) hsat) rest
      | ret=>exact Zek (x:=.ret) (by intro hh; cases hh) (hfin (out:=.ret) hrel (Zt.refl _) (fun _ h=>h) hsat) rest
  | region id ops d =>
    intro rest s bs e a w h hdp hR hs
    simp only [Z1gg] at hs
    split at hs
    · rename_i hc
      simp only [Z1h3,Bool.not_eq_true'] at hc
      obtain ⟨_,rfl⟩:=hc
      refine Zij _ (Ze2 (Zps hG hM hih ops.toList s bs e a w h hdp hR hs ?_))
      rintro a' w' ⟨s',e',W1,bs',hrel,hd,hsat,hb,hm⟩
      have:=Zrf rest (hih (seqs rest) s' _ W1 Ψ bs' e' a' w' hrel hd hsat)
      exact Zpt rest (fun x a w hh=>px hb hm hh) _ _ _ this
    · exact hs.elim
  | _=>intro rest s bs e a w h hdp hR hs; simp only [Z1gg] at hs; exact hs.elim
end
def Z1ah (P:Program) (lp:St→Code→Option Zdy) (gl:List (Nat × List Int)) (Γ:List Sum) (id0 n g:Nat) (fS:FuncId) (f:RbF) (fuel:Nat) (fn:FuncId) (ps rs:List Sh):T:=match P.funcs[fn]? with
 | some F=>match F.body with
  | some body=>Z1gg id0 (rbT P Γ (Zic P lp Γ fuel) n g fS f) (Zic P lp Γ fuel) body [] ⟨Z7m ps F.ntmps,[],[],Zj ps,0,0,0,gl,hsE (Z4b ps) (Zb 0 (Zj ps)),0⟩ (Zmw P F rs)
  | none=>.fail
 | none=>.fail
section
variable {P:Program} {Γ:List Sum} {Ψ:List Int→Prop} {n g m0:Nat} {fS:FuncId} {f:RbF}
theorem Zsw (hm:P.follows .mixedOrders=true) (hG:Gok P Γ) (hM:RbM P Γ n g m0 fS f) {id0:Nat} {lp:St→Code→Option Zdy} {gl:List (Nat × List Int)} {fuel:Nat} {fn:FuncId} {ps rs:List Sh} {xs:List Int} {vs:List Value} (w:World) (hx:Z76 (fun _ ks u n=>SlN w ks u n) ps vs xs)
  (hm0:(Z24 (Z4b ps) (Zb 0 (Zj ps))).length=m0) (hs:(Z1ah P lp gl Γ id0 n g fS f fuel fn ps rs).sat Γ [] Ψ [] xs) (hgl:Zmp gl w) :
  Calls P fn vs.toArray w fun x w'=>∃ ys v,x=.returned v∧Ψ ys∧Zar (fun k=>w.heap.size≤k) w' rs v ys∧Below w.heap.size w w':=by
 unfold Z1ah at hs
 split at hs
 ·rename_i F hF
  split at hs
  ·rename_i body hb
   have hxl:=hx.len.1
   have hv:(Zb 0 (Zj ps)).map (E.den (Za ps vs) xs)=xs:=by
    have:=Z2s (R:=Za ps vs) (r:=[]) hxl
    simpa using this
   have hx':Z76 (fun _ ks u n=>SlN w ks u n) ps vs ((Zb 0 (Zj ps)).map (E.den (⟨xs,[],[],[],Za ps vs⟩:Env).R (⟨xs,[],[],[],Za ps vs⟩:Env).r)):=by
    show Z76 _ ps vs ((Zb 0 (Zj ps)).map (E.den (Za ps vs) xs))
    rw [hv]; exact hx
   obtain ⟨r1,r2⟩:=Z2o hx'
   have hsl:∀ (j:Nat) (u:Value),(Za ps vs)[j]?=some u→∃ a l cp,u=.slice a l cp:=fun j u hj=>by
    obtain ⟨b,hb'⟩:∃ b,(Z24 (Z4b ps) (Zb 0 (Zj ps)))[j]?=some b:=⟨_,List.getElem?_eq_getElem (by rw [← r1]; exact (List.getElem?_eq_some_iff.1 hj).1)⟩
    exact (r2 j b u hb' hj).now.slice
   have hden:((Zf9 Zt8 0 ps (Zb 0 (Zj ps))).map SV.w).map (SV.den ⟨xs,[],[],[],Za ps vs⟩)=vs:=by
    rw [List.map_map]
    refine Zb3 (e:=⟨xs,[],[],[],Za ps vs⟩) hx' fun j u hj=>?_
    simp only [Zt8,SC.den,G.val,Nat.zero_add,List.getD,hj,Option.getD_some]
    exact Zg0 (hsl j u hj)
   have hrep:Rep ⟨xs,[],[],[],Za ps vs⟩ ⟨w,fun _=>False⟩ ⟨Z7m ps F.ntmps,[],[],Zj ps,0,0,0,gl,hsE (Z4b ps) (Zb 0 (Zj ps)),0⟩ w:=by
    refine ⟨Zt.refl _,rfl,rfl,hxl,rfl,?_,?_,?_,?_,?_,?_,?_,⟨hgl,fun _ _ _ hh=>hh⟩,?_⟩
    ·intro n b hb; simp at hb
    ·intro n b hb; simp at hb
    ·intro n m b c hb; simp at hb
    ·intro n b hb; simp at hb
    ·intro n b hb; simp at hb
    ·intro n m b c k hb; simp at hb
    ·intro n m b c hb; simp at hb
    ·intro i ks c hi
     obtain ⟨ty,hr⟩:=Z91 hi
     have hlt:i < (Za ps vs).length:=by rw [r1]; exact (List.getElem?_eq_some_iff.1 hr).1
     have hu:(Za ps vs)[i]?=some (Za ps vs)[i]:=List.getElem?_eq_getElem hlt
     have:=r2 i _ _ hr hu
     show SlN w ks (slV ((Za ps vs).getD i undef)) _
     rw [show (Za ps vs).getD i undef=(Za ps vs)[i] by simp [List.getD,hu],Zg0 (hsl i _ hu)]
     exact this
   rw [T.sat_R [] (Za ps vs)] at hs
   have hrel:Rel ⟨xs,[],[],[],Za ps vs⟩ ⟨w,fun _=>False⟩ ⟨Z7m ps F.ntmps,[],[],Zj ps,0,0,0,gl,hsE (Z4b ps) (Zb 0 (Zj ps)),0⟩ { tmps:=vs.toArray++Array.replicate (F.ntmps - vs.toArray.size) undef,defers:=[] } w:=by
    refine ⟨hrep,?_,rfl⟩
    apply Array.ext'
    have hl:((Zf9 Zt8 0 ps (Zb 0 (Zj ps))).map SV.w).length=vs.length:=by rw [← hden]; simp
    rw [Array.toList_append,List.toList_toArray]
    show vs++(Array.replicate (F.ntmps - vs.toArray.size) undef).toList=((((Zf9 Zt8 0 ps (Zb 0 (Zj ps))).map SV.w)++List.replicate (F.ntmps - ((Zf9 Zt8 0 ps (Zb 0 (Zj ps))).map SV.w).length) Z5).map (SV.den ⟨xs,[],[],[],Za ps vs⟩))
    rw [List.map_append,hden,hl]
    simp [Z8v]
   exact calls_of_wp hF hb (Zz8 hG hM (Z90 hm (lp:=lp) hG fuel) body [] _ [] _ _ w hrel rfl (r1.trans hm0) hs)
  ·exact hs.elim
 ·exact hs.elim
theorem lawG (hm:P.follows .mixedOrders=true) (hG:Gok P Γ) (hM:RbM P Γ n g m0 fS f) {id0:Nat} {lp:St→Code→Option Zdy} {lv:List (Nat × List (Option Iv))} {gl:List (Nat × List Int)} {fuel:Nat} {fn:FuncId} {ps:List Sh} {outs:List Inf} {vs:List (Option Iv)} {t:TX} (ho:Zi Γ outs)
  (ht:Z13 (Zs lv outs [] vs (Z1ah P lp gl Γ id0 n g fS f fuel fn ps [Bo]))=t) {xs:List Int} {us:List Value} (w:World) (hx:Z76 (fun _ ks u n=>SlN w ks u n) ps us xs) (hm0:(Z24 (Z4b ps) (Zb 0 (Zj ps))).length=m0)
  (hv:Zr vs xs) (hs:t.sat Γ [] (fun ys=>ys=[1]) [] xs) (hgl:Zmp gl w) :
  Calls P fn us.toArray w fun e w'=>e=.returned (.bool true)∧Below w.heap.size w w':=by
 subst ht
 refine (Zsw hm hG hM w hx hm0 (Za9 ho _ [] vs [] xs Zaa hv (Zgj _ _ _ hs)) hgl).mono ?_
 rintro e w' ⟨ys,v,rfl,rfl,hv,hb⟩
 exact ⟨by rw [Zct (by rfl) hv]; rfl,hb⟩
end
end Go.Sx
namespace Go.Sx
open Go.RowKit
theorem E.sc_up {n n':Nat} (h:n≤n'):∀ a:E,a.sc n=true→a.sc n'=true:=by
 intro a
 induction a <;> simp only [E.sc,Z1h3,Z1h4] <;> intro h1
 case v i=>omega
 all_goals simp_all
def Z1ai:Value→Bool
 | .slice none 0 0=>true
 | _=>false
theorem Zwd {v:Value} (h:Z1ai v=true):v=.slice none 0 0:=by
 unfold Z1ai at h
 split at h
 ·rfl
 ·cases h
def dK (s:St) (k:K) (c:SC):Option (E × Bool × List Nat):=match k with
 | .s ty kr=>(match c with
  | .go (.o n)=>(match s.rows[n]? with
   | some b=>if b.live && Z3d b.ks kr then some (b.c,true,[n]) else none
   | none=>none)
  | .go (.e g ix j x)=>(match Z38 s (.e g ix j x) with
   | some (kr',_)=>if Z51 kr' kr then some (x,false,[]) else none
   | none=>none)
  | .l v=>if Z1ai v then some (.c 0,false,[]) else none
  | _=>none)
 | k=>(match Z2w [k] [c] with
  | some [e]=>some (e,false,[])
  | _=>none)
def Zsx (s:St):List K→List SC→Option (List E × List Bool × List Nat)
 | [],[]=>some ([],[],[])
 | k::ks,c::cs=>match dK s k c,Zsx s ks cs with
  | some (e,o,u),some (es,os,us)=>some (e::es,o::os,u++us)
  | _,_=>none
 | _,_=>none
def zOK:List Bool→List Int→List Int→Prop
 | [],[],[]=>True
 | o::ow,e::es,z::zs=>(if o=true then dec (ctN z)=dec e else z=e)∧zOK ow es zs
 | _,_,_=>False
def Zch (ow:List Bool) (aZ:List Int):Prop:=∃ c es x zs,aZ=c::(es++[x])∧dec x=dec c++[cod zs]∧zOK ow es zs
theorem Z8f {w w':World} {X X':Nat→Prop} (hw:∀ ks v c,Z63 w ks v c→(Ze ks (dec c) ≠ []→∀ k,slBlk v=some k→¬ X k)→Z63 w' ks v c∧(Ze ks (dec c) ≠ []→∀ k,slBlk v=some k→¬ X' k)) {k:K} {v:Value} {c:Int} (h:Z2m w X k v c):Z2m w' X' k v c:=Z2m.imp hw _ _ _ h
theorem Z12.slBlk {w:World} {ty:TypeId} {ks:List K} {v:Value} {c:Int} (h:Z12 w ty ks v c) (hne:Ze ks (dec c) ≠ []) {k:Nat} (hk:slBlk v=some k):Z8 v=some k:=by
 have hd:dec c ≠ []:=by
  intro h0
  rw [h0] at hne
  exact hne rfl
 obtain ⟨g,cap,cur,h1,h2,_⟩:=h.block hd
 rw [h1] at hk
 simp only [Go.Sx.slBlk,Option.some.injEq] at hk
 rw [h2,hk]
theorem dK_ok {e:Env} {W:Bas} {s:St} {w:World} (h:Rep e W s w) {k:K} {c:SC} {x:E} {o:Bool} {us:List Nat} (hd:dK s k c=some (x,o,us)) :
    ∃ z,(if o=true then dec (ctN z)=dec (x.den e.R e.r) else z=x.den e.R e.r)∧c.den e=k.mk z∧∀ (w':World) (X2:Nat→Prop),(∀ k v c,Z2m W.w W.X k v c→Z2m w' X2 k v c) →
      (∀ n b,n ∈ us→s.rows[n]?=some b→b.live=true→Z12 w' b.ty b.ks ((G.o n).val e) (b.c.den e.R e.r)∧∀ k,Z8 ((G.o n).val e)=some k→¬ X2 k)→Z2m w' X2 k (hdV z) (ctN z):=by
  cases k with
  | s ty kr =>
    simp only [dK] at hd
    split at hd
    · rename_i n
      split at hd
      · rename_i b hb
        split at hd
        · rename_i hc
          simp only [Z1h3] at hc
          simp only [Option.some.injEq,Prod.mk.injEq] at hd
          obtain ⟨rfl,rfl,rfl⟩:=hd
          have hk:=Z2a hc.2
          have hpl:=(Z4n hc.2).1
          have hrow:=h.row n b hb hc.1
          obtain ⟨z,z1,z2,_⟩:=Zwc (ty:=ty) (Z63.toN hpl hrow.sl)
          refine ⟨z,by rw [if_pos rfl]; exact z2,z1.symm,fun w' X2 hm ho=>?_⟩
          obtain ⟨r1,r2⟩:=ho n b (List.mem_singleton_self _) hb hc.1
          rw [← hk]
          refine Z2m.dec (c:=b.c.den e.R e.r) ?_ z2
          rw [z1,Z2m]
          exact ⟨⟨r1.sl,fun hne k hk=>r2 k (r1.slBlk hne hk)⟩,fun _ _=>Z64.plain hpl⟩
        · cases hd
      · cases hd
    · rename_i g ix j y
      split at hd
      · rename_i kr' cc hg
        split at hd
        · rename_i hk
          simp only [Option.some.injEq,Prod.mk.injEq] at hd
          obtain ⟨rfl,rfl,rfl⟩:=hd
          have hX:=h.greadX (g:=.e g ix j y) rfl hg
          have hk':=Z44 hk
          subst hk'
          refine ⟨y.den e.R e.r,by rw [if_neg (by decide)],rfl,fun w' X2 hm ho=>?_⟩
          have hcc:cc=Z165 y (.c 4):=by
            simp only [Z38] at hg
            split at hg
            · cases hg
            · split at hg
              · split at hg
                · split at hg
                  · simp only [Option.some.injEq,Prod.mk.injEq] at hg
                    exact hg.2.symm
                  · cases hg
                · cases hg
              · cases hg
          have hcd:cc.den e.R e.r=ctN (y.den e.R e.r):=by rw [hcc,Zav]; rfl
          rw [hcd] at hX
          have:=hm (.s 0 kr') _ _ hX
          rw [Z2m] at this ⊢
          exact this
        · cases hd
      · cases hd
    · split at hd
      · rename_i v hv
        simp only [Option.some.injEq,Prod.mk.injEq] at hd
        obtain ⟨rfl,rfl,rfl⟩:=hd
        refine ⟨0,by rw [if_neg (by decide)]; rfl,?_,fun w' X2 hm ho=>?_⟩
        · show v=hdV 0
          rw [Zay]
          exact Zwd hv
        · have:=Ztf (b:=⟨w',X2⟩) (ks:=kr)
          unfold SlX at this
          rw [Z2m] at this ⊢
          exact this
      · cases hd
    · cases hd
  | i kk =>
    simp only [dK] at hd
    split at hd
    · rename_i y hf
      simp only [Option.some.injEq,Prod.mk.injEq] at hd
      obtain ⟨rfl,rfl,rfl⟩:=hd
      obtain ⟨_,h2⟩:=Z30 (e:=e) hf
      simp only [Z1gw,Z1gx,Z9,List.cons.injEq,and_true] at h2
      exact ⟨_,by rw [if_neg (by decide)],h2,fun _ _ _ _=>trivial⟩
    · cases hd
  | b =>
    simp only [dK] at hd
    split at hd
    · rename_i y hf
      simp only [Option.some.injEq,Prod.mk.injEq] at hd
      obtain ⟨rfl,rfl,rfl⟩:=hd
      obtain ⟨_,h2⟩:=Z30 (e:=e) hf
      simp only [Z1gw,Z1gx,Z9,List.cons.injEq,and_true] at h2
      exact ⟨_,by rw [if_neg (by decide)],h2,fun _ _ _ _=>trivial⟩
    · cases hd
theorem Zwe {e:Env} {W:Bas} {s:St} {w:World} (h:Rep e W s w):∀ {ks:List K} {cs:List SC} {es:List E} {os:List Bool} {us:List Nat},Zsx s ks cs=some (es,os,us) →
    ∃ zs,zOK os (es.map (E.den e.R e.r)) zs∧zs.length=ks.length∧cs.map (SC.den e)=Z9 ks zs∧∀ (w':World) (X2:Nat→Prop),(∀ k v c,Z2m W.w W.X k v c→Z2m w' X2 k v c) →
      (∀ n b,n ∈ us→s.rows[n]?=some b→b.live=true→Z12 w' b.ty b.ks ((G.o n).val e) (b.c.den e.R e.r)∧∀ k,Z8 ((G.o n).val e)=some k→¬ X2 k)→Z64 w' X2 ks zs
  | [],[],es,os,us,hf=>by
    simp only [Zsx,Option.some.injEq,Prod.mk.injEq] at hf
    obtain ⟨rfl,rfl,rfl⟩:=hf
    exact ⟨[],trivial,rfl,rfl,fun _ _ _ _=>trivial⟩
  | [],_::_,_,_,_,hf=>by simp [Zsx] at hf
  | _::_,[],_,_,_,hf=>by simp [Zsx] at hf
  | k::ks,c::cs,es,os,us,hf=>by
    simp only [Zsx] at hf
    split at hf
    · rename_i x o u es' os' us' h1 h2
      simp only [Option.some.injEq,Prod.mk.injEq] at hf
      obtain ⟨rfl,rfl,rfl⟩:=hf
      obtain ⟨z,z1,z2,z3⟩:=dK_ok h h1
      obtain ⟨zs,a1,a2,a3,a4⟩:=Zwe h h2
      refine ⟨z::zs,⟨z1,a1⟩,by simp [a2],by simp only [Z1gw,Z9,z2,a3],fun w' X2 hm ho=>?_⟩
      rw [Z64]
      exact ⟨z3 w' X2 hm fun n b hn=>ho n b (List.mem_append_left _ hn),a4 w' X2 hm fun n b hn=>ho n b (List.mem_append_right _ hn)⟩
    · cases hf
noncomputable def Zi2 (e:Env):Option (Nat × E)→Value
 | some (i,_)=>slV (e.R.getD i undef)
 | none=>.slice none 0 0
def X1 (Xc:Nat→Prop) (W:Bas) (u:Value) (k:Nat):Prop:=(W.X k∨Xc k)∨Z8 u=some k
structure Zq6 (Xc:Nat→Prop) (tel:TypeId) (ks:List K) (w0:World) (hs0:List (List K × E)) (R0:Fo) (r0:List Int) (e:Env) (W:Bas) (acc:Option (Nat × E)):Prop where
  R:∃ x,e.R=R0++x
  r:∃ x,e.r=r0++x
  below:Zt ⟨w0,fun _=>False⟩ W.w
  may:∀ k,W.may k→w0.heap.size≤k
  arg:∀ i ks c,hs0[i]?=some (ks,c)→SlX ⟨W.w,X1 Xc W (Zi2 e acc)⟩ ks (slV (R0.getD i undef)) (c.den R0 r0)
  acc:match acc with
    | none=>e.R=R0
    | some (i,c)=>i + 1=e.R.length∧R0.length≤i∧c.sc e.r.length=true∧Z12 W.w tel ks (Zi2 e acc) (c.den e.R e.r) ∧
      (∀ k,Z8 (Zi2 e acc)=some k→¬ W.may k∧w0.heap.size≤k)∧∀ z ∈ dec (c.den e.R e.r),Z64 W.w (X1 Xc W (Zi2 e acc)) ks (elt ks z)
theorem Zq6.grow {Xc:Nat→Prop} {tel:TypeId} {ks:List K} {w0:World} {hs0:List (List K × E)} {R0:Fo} {r0:List Int} {e e':Env} {W:Bas} {acc:Option (Nat × E)} (A:Zq6 Xc tel ks w0 hs0 R0 r0 e W acc) (hle:Env.le e e'):Zq6 Xc tel ks w0 hs0 R0 r0 e' W acc:=by
 obtain ⟨a,b,c,d,h1,h2,h3,h4,h5⟩:=hle
 have ho:Zi2 e' acc=Zi2 e acc:=by
  unfold Zi2
  rw [h5]
 obtain ⟨x,hx⟩:=A.R
 obtain ⟨y,hy⟩:=A.r
 refine ⟨⟨x,by rw [h5,hx]⟩,⟨y++a,by rw [h1,hy,List.append_assoc]⟩,A.below,A.may,by rw [ho]; exact A.arg,?_⟩
 have hA:=A.acc
 cases acc with
 | none=>exact h5.trans hA
 | some p =>
  obtain ⟨i,q⟩:=p
  obtain ⟨a1,a2,a3,a4,a5,a6⟩:=hA
  have hq:q.den e'.R e'.r=q.den e.R e.r:=by rw [h1,E.den_app _ _ _ _ a3,h5]
  dsimp only
  rw [ho,hq,h5]
  exact ⟨a1,a2,E.sc_up (by rw [h1]; simp) _ a3,a4,a5,a6⟩
theorem Zf1 {Xc:Nat→Prop} {W:Bas} {w w':World} {u:Value} {X2:Nat→Prop} (hb:Zt W w) (hg:w.grownBy w' (Z8 u)) (hX:∀ k,X2 k→W.may k∨Xc k∨Z8 u=some k∨w.heap.size≤k) {k:K} {v:Value} {c:Int} (h:Z2m W.w (X1 Xc W u) k v c):Z2m w' X2 k v c:=by
 refine Z8f (fun ks v c hs hx=>?_) h
 rcases hs with ⟨h1,h2⟩ | ⟨b,off,cap,h1,h2,h3,h4,h5⟩
 ·refine ⟨.inl ⟨h1,h2⟩,fun hne=>?_⟩
  rw [h2] at hne
  exact absurd rfl hne
 ·by_cases hne:Ze ks (dec c)=[]
  ·refine ⟨.inr ⟨b,off,cap,h1,h2,h3,h4,fun j u hj=>?_⟩,fun h0=>absurd hne h0⟩
   rw [hne] at hj
   simp at hj
  ·obtain ⟨x,hx0⟩:=Z5t hne
   have hlt:=World.block_lt_of_cell? _ _ (h5 0 x hx0)
   have hnx:=hx hne b (by rw [h1]; rfl)
   have hlt:b < W.w.heap.size:=hlt
   have hm:¬ W.may b:=by
    rintro (hh | hh)
    ·omega
    ·exact hnx (.inl (.inl hh))
   have hc:¬ Xc b:=fun hh=>hnx (.inl (.inr hh))
   have hr:Z8 u ≠ some b:=fun hh=>hnx (.inr hh)
   have hsz:=hb.size
   have heq:w'.heap[b]?=W.w.heap[b]?:=(hg.block b (by omega) (fun hh=>hr hh.symm)).trans (hb.block b hm)
   refine ⟨.inr ⟨b,off,cap,h1,h2,h3,h4,fun j u hj=>?_⟩,fun _ k hk hX2=>?_⟩
   ·rw [World.cell?_of_block (w:=W.w) (a:=⟨b,off + j,none⟩) heq]
    exact h5 j u hj
   ·rw [h1] at hk
    simp only [Go.Sx.slBlk,Option.some.injEq] at hk
    subst hk
    rcases hX _ hX2 with hh | hh | hh | hh
    ·exact hm hh
    ·exact hc hh
    ·exact hr hh
    ·omega
theorem Zhr {Xc:Nat→Prop} {W:Bas} {w w':World} {u:Value} {X2:Nat→Prop} (hb:Zt W w) (hg:w.grownBy w' (Z8 u)) (hX:∀ k,X2 k→W.may k∨Xc k∨Z8 u=some k∨w.heap.size≤k):∀ {ks:List K} {ns:List Int},Z64 W.w (X1 Xc W u) ks ns→Z64 w' X2 ks ns
 | [],ns,h=>by cases ns <;> exact trivial
 | k::ks,[],h=>trivial
 | k::ks,n::ns,h=>by
  rw [Z64] at h ⊢
  exact ⟨Zf1 hb hg hX h.1,Zhr hb hg hX h.2⟩
def Zci:List (List K × E)→List (List K × E)→Bool
 | [],[]=>true
 | (ks,c)::l,(ks',c')::l'=>Z51 ks ks' && (c.same c' && Zci l l')
 | _,_=>false
theorem Z8g:∀ {l l':List (List K × E)},Zci l l'=true→l=l'
 | [],[],_=>rfl
 | [],_::_,h=>by simp [Zci] at h
 | _::_,[],h=>by simp [Zci] at h
 | (ks,c)::l,(ks',c')::l',h=>by
  simp only [Zci,Z1h3] at h
  rw [Z44 h.1,E.same_eq _ _ h.2.1,Z8g h.2.2]
def G.am (m:Nat):G→Bool
 | .a i=>decide (i < m)
 | _=>true
def SC.am (m:Nat):SC→Bool
 | .go g=>g.am m
 | .gv g _ _ _=>g.am m
 | .gp g _ _ _=>g.am m
 | .gz g=>g.am m
 | _=>true
def SW.am (m:Nat):SW→Bool
 | .o c=>c.am m
 | .a cs=>cs.all (SC.am m)
def SV.am (m:Nat):SV→Bool
 | .w x=>x.am m
 | .t xs=>xs.all (SW.am m)
 | .un _=>true
theorem G.val_up {e e':Env} (h:LeA e e'):∀ {g:G},g.am e.R.length=true→g.sc e.r.length e.σ.length=true→g.val e'=g.val e:=by
 have hE:=fun {x:E} hx=>E.den_A h (x:=x) hx
 obtain ⟨a,b,c,d,y,h1,h2,h3,h4,h5⟩:=h
 intro g hg hs
 cases g with
 | a i=>simp only [G.am,Z1h4] at hg; simp only [G.val,h5,Z1u undef hg]
 | o n=>simp only [G.sc,Z1h4] at hs; simp only [G.val,h3,Z1u undef hs]
 | e g ix j x=>simp only [G.sc] at hs; simp only [G.val,hE hs]
theorem SC.den_up {e e':Env} (h:LeA e e') {c:SC} (ha:c.am e.R.length=true) (hc:c.sc e.r.length e.β.length e.σ.length=true):c.den e'=c.den e:=by
 have hE:=fun {x:E} hx=>E.den_A h (x:=x) hx
 have hG:=fun {g:G} ha hs=>G.val_up h (g:=g) ha hs
 obtain ⟨a,b,cc,d,y,h1,h2,h3,h4,h5⟩:=h
 cases c <;> simp only [SC.sc,Z1h4,Z1h3] at hc <;> simp only [SC.am] at ha
 case i k x=>simp only [SC.den,hE hc]
 case b x=>simp only [SC.den]; rw [h1,B.den_app _ _ _ _ hc]; congr 1; exact B.den_R _ _ _ _
 case p n off=>simp only [SC.den,Z2c,h2,Z1u 0 hc]
 case s n off len cap=>simp only [SC.den,h2,Z1u 0 hc]
 case go g=>simp only [SC.den,hG ha hc]
 case gv g size lo hi=>simp only [SC.den,hG ha hc.1,hE hc.2.1,hE hc.2.2]
 case gp g size ix j=>simp only [SC.den,hG ha hc.1,hE hc.2]
 case gz g=>simp only [SC.den,hG ha hc]
 case f fn caps =>
  simp only [SC.den]
  rw [List.map_congr_left fun p hp=>?_]
  have:=List.all_eq_true.1 hc p hp
  simp only [Z1h4] at this
  simp only [Z2c,h2,Z1u 0 this]
 case l v=>rfl
theorem SW.den_up {e e':Env} (h:LeA e e') {c:SW} (ha:c.am e.R.length=true) (hc:c.sc e.r.length e.β.length e.σ.length=true):c.den e'=c.den e:=by
 cases c with
 | o c=>exact SC.den_up h ha hc
 | a cs =>
  simp only [SW.den]
  rw [List.map_congr_left fun x hx=>SC.den_up h (List.all_eq_true.1 ha x hx) (List.all_eq_true.1 hc x hx)]
theorem SV.den_up {e e':Env} (h:LeA e e') {c:SV} (ha:c.am e.R.length=true) (hc:c.sc e.r.length e.β.length e.σ.length e.ω.length=true):c.den e'=c.den e:=by
 cases c with
 | w x=>exact SW.den_up h ha hc
 | t xs =>
  simp only [SV.den]
  rw [List.map_congr_left fun x hx=>SW.den_up h (List.all_eq_true.1 ha x hx) (List.all_eq_true.1 hc x hx)]
 | un i =>
  obtain ⟨a,b,cc,d,y,h1,h2,h3,h4,h5⟩:=h
  simp only [SV.sc,Z1h4] at hc
  simp only [SV.den,h4,Z1u undef hc]
end Go.Sx
namespace Go.Sx
open Go.RowKit
def Z1aj (o:Oper):Option (Operand × Operand × TypeId):=match o.op with
 | .call c=>(match c.callee with
  | .builtin .append=>(match c.args.toList,c.argTypes.toList with
   | [a,x],[t,t']=>if t=t' then some (a,x,t) else none
   | _,_=>none)
  | _=>none)
 | _=>none
theorem Z1ak {o:Oper} {a x:Operand} {t:TypeId} (h:Z1aj o=some (a,x,t)):o.op=.call { callee:=.builtin .append,args:=#[a,x],argTypes:=#[t,t] }:=by
 unfold Z1aj at h
 split at h
 ·rename_i c ho
  split at h
  ·rename_i hcal
   split at h
   ·rename_i a' x' t1 t2 h1 h2
    split at h
    ·rename_i htt
     subst htt
     simp only [Option.some.injEq,Prod.mk.injEq] at h
     obtain ⟨rfl,rfl,rfl⟩:=h
     rw [ho]
     cases c
     simp only at hcal h1 h2
     subst hcal
     congr 2
     ·apply Array.ext'; simpa using h1
     ·apply Array.ext'; simpa using h2
    ·cases h
   ·cases h
  ·cases h
 ·cases h
structure Ac where
 tel:TypeId
 ks:List K
 hs0:List (List K × E)
 ow:List Bool
 g:Nat
 pl:List Fk
 at_:Nat × Nat
 gl:List (Nat × List Int):=[]
def accOK (q:Ac) (inf:TypeInfo) (z:Value) (elem:TypeId) (s:St) (i:Nat):Bool :=
 decide (elem=q.tel) && (decide (inf.size ≠ 0) && (decide (z.cells.size=inf.size) && (decide (q.ks.length=inf.size) && (decide (inf.bytes≤100000000) && (s.sc && (Z103 s.gl q.gl && (Zci s.hs q.hs0 &&
  (s.fr.all (SV.am (i + 1)) && (s.mem.all (fun b=>b.cells.all (SC.am (i + 1))) && decide (q.ks.length ≠ 1))))))))))
def accT (P:Program) (q:Ac) (s:St) (i:Nat) (c:E) (o:Oper) (k:St→Option (Nat × E)→T):T:=match Z1aj o with
 | some (a,x,t)=>(match P.underlying t with
  | some (.slice elem)=>(match P.info? elem with
   | some inf=>(match inf.zero with
    | some z=>if accOK q inf z elem s i then (match s.ev a,s.ev x with
     | .w (.o (.go (.a i'))),.w (.o (.s n 0 1 cap))=>if i'=i∧1≤cap∧cap≤1000000 then (match s.mem[n]? with
      | some b=>if b.live then (match Zsx s q.ks b.cells with
       | some (es,os,us)=>if os=q.ow then .asrt (Z65 (Zt5 c) (.c 999999)) (.any 1 q.g (c::es) (k (({ s with nv:=s.nv + 1,rows:=Z77 us 0 s.rows }:St).put o.dst (one (.go (.a (i + 1))))) (some (i + 1,.v s.nv)))) else .fail
       | none=>.fail) else .fail
      | none=>.fail) else .fail
     | _,_=>.fail) else .fail
    | none=>.fail)
   | none=>.fail)
  | _=>.fail)
 | none=>.fail
theorem Z12.same {w w':World} {ty:TypeId} {ks:List K} {v:Value} {c:Int} (h:Z12 w ty ks v c) (hb:∀ k,Z8 v=some k→w'.heap[k]?=w.heap[k]?):Z12 w' ty ks v c:=by
 rcases h with h | ⟨h0,h1,h2⟩
 ·exact .inl h
 ·rcases h2.2 with ⟨hv,hn⟩ | ⟨g,cap,cur,hv,hbg,hc,hle,hm,hsz,ht⟩
  ·exact .inr ⟨h0,h1,h2.1,.inl ⟨hv,hn⟩⟩
  ·by_cases hcap:cap=0
   ·subst hcap
    have hl:(dec c).length=0:=by omega
    exact .inl ⟨List.eq_nil_of_length_eq_zero hl,some ⟨g,0,none⟩,by rw [hv,hl]⟩
   ·exact .inr ⟨h0,h1,h2.1,.inr ⟨g,cap,cur,hv,hbg,(hb g (by rw [hv]; simp [Z8,hcap])).trans hc,hle,hm,hsz,ht⟩⟩
def GlZ (gl:List (Nat × List Int)) (w:World) (Xc:Nat→Prop):Prop:=Zmp gl w∧∀ p ∈ gl,p.2 ≠ []→¬ Xc p.1
theorem Zwf {a b:List (Nat × List Int)} (h:Z103 a b=true) {p:Nat × List Int} (hp:p ∈ a):p ∈ b:=by
 have:=List.all_eq_true.1 h p hp
 rw [List.any_eq_true] at this
 obtain ⟨x,hx,he⟩:=this
 simp only [Z102,Z1h3,beq_iff_eq] at he
 have:p=x:=by
  cases p; cases x
  simp only at he
  rw [he.1,he.2]
 rw [this]
 exact hx
theorem Zwg {gl gl':List (Nat × List Int)} {w0:World} {Xc:Nat→Prop} {W:Bas} (h0:GlZ gl' w0 Xc) (hg:Z103 gl gl'=true) (hb:Zt ⟨w0,fun _=>False⟩ W.w) (hm:∀ k,W.X k→w0.heap.size≤k∨Xc k):GlX gl W:=by
 have h1:Zmp gl w0:=fun p hp=>h0.1 p (Zwf hg hp)
 refine ⟨h1.below hb.below (Nat.le_refl _),fun p hp hne hX=>?_⟩
 obtain ⟨x,hx⟩:=Z5t hne
 have hlt:=World.block_lt_of_cell? _ _ (h1 p hp 0 x hx)
 have hlt:p.1 < w0.heap.size:=hlt
 rcases hm p.1 hX with hh | hh
 ·omega
 ·exact h0.2 p (Zwf hg hp) hne hh
section
variable {P:Program} {Γ:List Sum} {Ψ:List Int→Prop} {q:Ac} {w0:World} {R0:Fo} {r0:List Int} {Xc:Nat→Prop}
theorem Zz9 (hhs0:∀ i ks c,q.hs0[i]?=some (ks,c)→i < R0.length∧c.sc r0.length=true) (hXc:∀ k,Xc k→k < w0.heap.size) (hg0:GlZ q.gl w0 Xc) (hrel:∀ aZ,Zch q.ow aZ→Zi7 Γ q.g aZ) {bs:List (List Int→Prop)} {s:St} {e:Env} {W:Bas} {a:Act} {w:World} {i:Nat} {c:E} {o:Oper}
    {k:St→Option (Nat × E)→T} {K:Act→World→Prop} {Q:Exit→Act→World→Prop} (h:Rel e W s a w) (A:Zq6 Xc q.tel q.ks w0 q.hs0 R0 r0 e W (some (i,c))) (hfl:s.fl=0) (hflr:s.flr=0) (hdp:s.dp=bs.length)
    (hs:(accT P q s i c o k).sat Γ e.R Ψ bs e.r)
    (hK:∀ s' acc' e' W' a' w',LeA e e'→Rel e' W' s' a' w'→Zq6 Xc q.tel q.ks w0 q.hs0 R0 r0 e' W' acc'→s'.fl=0→s'.flr=0→s'.dp=bs.length→(k s' acc').sat Γ e'.R Ψ bs e'.r→K a' w'):o.wp P a w K Q:=by
  unfold accT at hs
  split at hs
  case h_2=>exact hs.elim
  rename_i ax x t hop
  split at hs
  case h_2=>exact hs.elim
  rename_i elem hu
  split at hs
  case h_2=>exact hs.elim
  rename_i inf hinf
  split at hs
  case h_2=>exact hs.elim
  rename_i z hz
  split at hs
  case isFalse=>exact hs.elim
  rename_i hck
  simp only [accOK,Z1h3,Z1h4] at hck
  obtain ⟨rfl,hk0,hzs,hkl,hby,hsc,hgl,hhs,hamf,hamm,hk1⟩:=hck
  have hhs:=Z8g hhs
  split at hs
  case h_2=>exact hs.elim
  rename_i i' n cap hea hex
  split at hs
  case isFalse=>exact hs.elim
  rename_i hc
  obtain ⟨rfl,hcap1,hcap⟩:=hc
  split at hs
  case h_2=>exact hs.elim
  rename_i b hb
  split at hs
  case isFalse=>exact hs.elim
  rename_i hl
  split at hs
  case h_2=>exact hs.elim
  rename_i es os us hfd
  split at hs
  case isFalse=>exact hs.elim
  rename_i hos
  subst hos
  obtain ⟨hlim,hs⟩:=hs
  simp only [T.sat] at hs
  split at hs
  case h_2=>exact hs.elim
  rename_i sm hsm
  obtain ⟨_,hs⟩:=hs
  rw [Z2y,Z1h4,Z68] at hlim
  simp only [E.den] at hlim
  obtain ⟨a1,a2,a3,a4,a5,a6⟩:=A.acc
  obtain ⟨u,hu0⟩:∃ u,u=Zi2 e (some (i',c)):=⟨_,rfl⟩
  rw [← hu0] at a4 a5 a6
  have hAarg:=A.arg
  rw [← hu0] at hAarg
  have hrep:=h.rep
  have hev:a.eval ax=u:=by
    rw [h.eval ax,hea,hu0]
    rfl
  have hargX:∀ i ks c,s.hs[i]?=some (ks,c)→SlX ⟨W.w,X1 Xc W u⟩ ks ((G.a i).val e) (c.den e.R e.r):=fun i ks c hi=>by
    rw [hhs] at hi
    obtain ⟨b1,b2⟩:=hhs0 i ks c hi
    have:=hAarg i ks c hi
    obtain ⟨xR,hxR⟩:=A.R
    obtain ⟨xr,hxr⟩:=A.r
    have e1:(G.a i).val e=slV (R0.getD i undef):=by
      simp only [G.val,hxR,Z1u undef b1]
    have e2:c.den e.R e.r=c.den R0 r0:=by
      rw [hxr,E.den_app _ _ _ _ b2]
      exact E.den_R _ _ _ _
    rw [e1,e2]
    exact this
  have hmayX:∀ k,W.may k→(Bas.mk W.w (X1 Xc W u)).may k:=fun k hk=>hk.imp id fun h=>.inl (.inl h)
  have hXlt:∀ k,X1 Xc W u k→w0.heap.size≤k∨Xc k:=fun k hk=>by
    rcases hk with (hk | hk) | hk
    · exact .inl (A.may k (.inr hk))
    · exact .inr hk
    · exact .inl (a5 k hk).2
  have hrepX:Rep e ⟨W.w,X1 Xc W u⟩ s w :=
    ⟨⟨hrep.below.os,hrep.below.tape,hrep.below.output,hrep.below.size,fun k hk=>hrep.below.block k fun hh=>hk (hmayX k hh)⟩,hrep.nb,hrep.ng,hrep.nv,hrep.nx,hrep.blk,fun n b h1 h2 h3=>hmayX _ (hrep.own n b h1 h2 h3),hrep.sep,hrep.row,
      fun n b h1 h2 h3 k hk=>hmayX _ (hrep.rown n b h1 h2 h3 k hk),hrep.rsep,hrep.brs,Zwg (W:=⟨W.w,X1 Xc W u⟩) hg0 hgl A.below hXlt,hargX⟩
  obtain ⟨zs,z1,z2,z3,z4⟩:=Zwe hrepX hfd
  have hblk:=hrep.blk n b hb hl
  have helt:elt q.ks (cod zs)=zs:=by
    unfold elt
    rw [if_neg hk1,Z4]
  obtain ⟨d,hd⟩:∃ d:Int,d=cod [cod zs]:=⟨_,rfl⟩
  have hdd:dec d=[cod zs]:=by rw [hd,Z4]
  have hxv:Z63 w q.ks (a.eval x) d:=by
    rw [h.eval x,hex]
    refine .inr ⟨e.β.getD n 0,0,cap,by rw [hdd]; rfl,by rw [hdd]; exact hcap1,by simp only [maxLen]; omega,?_,?_⟩
    · rw [hdd]
      intro y hy
      rw [List.mem_singleton.1 hy,helt,z2]
    · rw [hdd]
      intro j v hj
      unfold Ze at hj
      rw [List.flatMap_cons,List.flatMap_nil,List.append_nil,helt,← z3] at hj
      rw [Nat.zero_add]
      have:w.heap[e.β.getD n 0]?=some (.cells (b.cells.map (SC.den e)).toArray b.ty (0,0)):=hblk
      simp only [World.cell?,this]
      simpa using hj
  have hrow:Z12 w q.tel q.ks u (c.den e.R e.r):=a4.same fun k hk=>hrep.below.block k (a5 k hk).1
  obtain ⟨v',w',hr,hrow',hgr,hat,hsl⟩:=Z1af (P:=P) (ty:=o.type) hu hinf hz hzs hk0 hkl hby hrow hxv (by rw [hdd]; simp only [List.length_cons,List.length_nil]; omega)
  have hsv:slV v'=v':=by
    obtain ⟨a',l,cp,rfl⟩:=hsl
    rfl
  obtain ⟨xn,hxn⟩:∃ xn:Int,xn=cod (dec (c.den e.R e.r)++[cod zs]):=⟨_,rfl⟩
  have hxd:dec xn=dec (c.den e.R e.r)++[cod zs]:=by rw [hxn,Z4]
  obtain ⟨e2,he2⟩:∃ e2:Env,e2={ e with r:=e.r++[xn],R:=e.R++[v'] }:=⟨_,rfl⟩
  obtain ⟨s2,hs2⟩:∃ s2:St,s2={ s with nv:=s.nv + 1,rows:=Z77 us 0 s.rows }:=⟨_,rfl⟩
  have er:e2.r=e.r++[xn]:=by rw [he2]
  have eR:e2.R=e.R++[v']:=by rw [he2]
  have eβ:e2.β=e.β:=by rw [he2]
  have eσ:e2.σ=e.σ:=by rw [he2]
  have eω:e2.ω=e.ω:=by rw [he2]
  have hle2:LeA e e2:=⟨[xn],[],[],[],[v'],er,by simp [eβ],by simp [eσ],by simp [eω],eR⟩
  have smem:s2.mem=s.mem:=by rw [hs2]
  have srows:s2.rows=Z77 us 0 s.rows:=by rw [hs2]
  have sfr:s2.fr=s.fr:=by rw [hs2]
  have shs:s2.hs=s.hs:=by rw [hs2]
  have sgl:s2.gl=s.gl:=by rw [hs2]
  have sfl:s2.fl=0:=by rw [hs2]; exact hfl
  have sflr:s2.flr=0:=by rw [hs2]; exact hflr
  have hgo:∀ n,(G.o n).val e2=(G.o n).val e:=fun n=>by simp only [G.val,eσ]
  have hk2:∀ n b,s2.rows[n]?=some b→b.live=true→s.rows[n]?=some b∧n ∉ us:=fun n b h1 h2=>Zcv (by rw [← srows]; exact h1) h2
  have hmayu:∀ k,W.may k→Z8 u ≠ some k:=fun k hk hh=>(a5 k hh).1 hk
  have hownb:∀ n b,s.mem[n]?=some b→b.live=true→W.may (e.β.getD n 0):=fun n b h1 h2=>hrep.own n b h1 h2 (by rw [hfl]; exact Nat.zero_le _)
  have hownr:∀ n b,s.rows[n]?=some b→b.live=true→∀ k,Z8 ((G.o n).val e)=some k→W.may k:=fun n b h1 h2=>hrep.rown n b h1 h2 (by rw [hflr]; exact Nat.zero_le _)
  have hown:∀ k,Z15y e2 s2 k→W.may k∧k < w.heap.size:=by
    rintro k (⟨n,b,h1,h2,h3,rfl⟩ | ⟨n,b,h1,h2,h3,h4⟩)
    · rw [smem] at h1
      rw [eβ]
      exact ⟨hownb n b h1 h2,Z1r (hrep.blk n b h1 h2)⟩
    · obtain ⟨h5,_⟩:=hk2 n b h1 h2
      rw [hgo] at h4
      exact ⟨hownr n b h5 h2 k h4,(hrep.row n b h5 h2).blk_lt h4⟩
  obtain ⟨W2,hW2⟩:∃ W2:Bas,W2=⟨w',Z15y e2 s2⟩:=⟨_,rfl⟩
  have W2w:W2.w=w':=by rw [hW2]
  have W2X:W2.X=Z15y e2 s2:=by rw [hW2]
  have hX2:∀ k,X1 Xc W2 v' k→W.may k∨Xc k∨Z8 u=some k∨w.heap.size≤k:=by
    rintro k ((hh | hh) | hh)
    · rw [W2X] at hh
      exact .inl (hown k hh).1
    · exact .inr (.inl hh)
    · rcases hat k hh with h1 | h1
      · exact .inr (.inr (.inl h1))
      · exact .inr (.inr (.inr (by omega)))
  have hX0:∀ k,W2.X k→W.may k∨Xc k∨Z8 u=some k∨w.heap.size≤k:=fun k hk=>hX2 k (.inl (.inl hk))
  have hsc':=hsc
  simp only [St.sc,Z1h3] at hsc'
  obtain ⟨⟨scf,scm⟩,scr,sch⟩:=hsc'
  rw [← hrep.nv,← hrep.nb,← hrep.ng] at scf scm
  rw [← hrep.nx] at scf
  rw [← hrep.nv] at scr
  rw [a1] at hamf hamm
  have hrows2:∀ n b,s.rows[n]?=some b→b.live=true→Z12 w' b.ty b.ks ((G.o n).val e) (b.c.den e.R e.r):=fun n b h1 h2 =>
    (hrep.row n b h1 h2).kept hgr fun k hk=>hmayu k (hownr n b h1 h2 k hk)
  have hrep2:Rep e2 W2 s2 w':=by
    refine ⟨by rw [← W2w]; exact Zt.refl _,?_,?_,?_,?_,?_,?_,?_,?_,?_,?_,?_,?_,?_⟩
    · rw [smem,eβ]; exact hrep.nb
    · rw [srows,Z2t,eσ]; exact hrep.ng
    · rw [er,hs2,List.length_append,hrep.nv]; rfl
    · rw [eω,hs2]; exact hrep.nx
    · intro n b h1 h2
      rw [smem] at h1
      have hb1:=hrep.blk n b h1 h2
      rw [eβ,hgr.block _ (Z1r hb1) (fun hh=>hmayu _ (hownb n b h1 h2) hh.symm),hb1]
      have:b.cells.map (SC.den e2)=b.cells.map (SC.den e):=List.map_congr_left fun cc hcc=>SC.den_up hle2 (List.all_eq_true.1 (List.all_eq_true.1 hamm b (List.mem_of_getElem? h1)) cc hcc) (List.all_eq_true.1 (List.all_eq_true.1 scm b (List.mem_of_getElem? h1)) cc hcc)
      rw [this]
    · intro n b h1 h2 h3
      exact .inr (by rw [W2X]; exact .inl ⟨n,b,h1,h2,h3,rfl⟩)
    · intro n m b c' h1 h2 h3 h4 h5
      rw [smem] at h1 h2
      rw [eβ] at h5
      exact hrep.sep n m b c' h1 h2 h3 h4 h5
    · intro n b h1 h2
      obtain ⟨h3,_⟩:=hk2 n b h1 h2
      have hcs:=List.all_eq_true.1 scr b (List.mem_of_getElem? h3)
      rw [hgo,E.den_A hle2 hcs]
      exact hrows2 n b h3 h2
    · intro n b h1 h2 h3 k hk
      exact .inr (by rw [W2X]; exact .inr ⟨n,b,h1,h2,h3,hk⟩)
    · intro n m b c' k h1 h2 h3 h4 h5 h6
      rw [hgo] at h5 h6
      exact hrep.rsep n m b c' k (hk2 n b h1 h3).1 (hk2 m c' h2 h4).1 h3 h4 h5 h6
    · intro n m b c' h1 h2 h3 h4
      rw [smem] at h1
      rw [hgo,eβ]
      exact hrep.brs n m b c' h1 (hk2 m c' h2 h4).1 h3 h4
    · rw [sgl]
      refine Zwg hg0 hgl ?_ fun k hk=>.inl (A.may k ?_)
      · rw [W2w]
        exact (A.below.trans hrep.below fun k hk=>.inl (A.may k hk)).grown hgr fun k hk=>.inl (a5 k hk).2
      · rw [W2X] at hk
        exact (hown k hk).1
    · intro j ks' c' hj
      rw [shs] at hj
      have hX:=hargX j ks' c' hj
      rw [hhs] at hj
      obtain ⟨b1,b2⟩:=hhs0 j ks' c' hj
      obtain ⟨xR,hxR⟩:=A.R
      obtain ⟨xr,hxr⟩:=A.r
      have e1:(G.a j).val e2=(G.a j).val e:=by
        simp only [G.val,eR]
        rw [Z1u undef (by rw [hxR]; simp; omega)]
      have e2':c'.den e2.R e2.r=c'.den e.R e.r:=E.den_A hle2 (E.sc_up (by rw [hxr]; simp) _ b2)
      rw [e1,e2']
      have:=Zf1 (W:=W) hrep.below hgr hX0 hX
      rw [← W2w] at this
      exact this
  have hout:Zi2 e2 (some (i' + 1,.v s.nv))=v':=by
    simp only [Zi2,eR]
    rw [show (e.R++[v']).getD (i' + 1) undef=v' by simp [List.getD,a1]]
    exact hsv
  have hvn:(E.v s.nv).den e2.R e2.r=xn:=by
    simp only [E.den,er,List.getD]
    rw [List.getElem?_append_right (by rw [hrep.nv]; exact Nat.le_refl _),hrep.nv,Nat.sub_self]
    rfl
  have hA2:Zq6 Xc q.tel q.ks w0 q.hs0 R0 r0 e2 W2 (some (i' + 1,.v s.nv)):=by
    obtain ⟨xR,hxR⟩:=A.R
    obtain ⟨xr,hxr⟩:=A.r
    have hb0:Zt ⟨w0,fun _=>False⟩ w:=A.below.trans hrep.below fun k hk=>.inl (A.may k hk)
    refine ⟨⟨xR++[v'],by rw [eR,hxR,List.append_assoc]⟩,⟨xr++[xn],by rw [er,hxr,List.append_assoc]⟩,?_,?_,?_,?_⟩
    · rw [W2w]
      exact hb0.grown hgr fun k hk=>.inl (a5 k hk).2
    · rintro k (hh | hh)
      · rw [W2w] at hh
        have h1:=hb0.size
        have h2:=hgr.size
        have h1:w0.heap.size≤w.heap.size:=h1
        omega
      · rw [W2X] at hh
        exact A.may k (hown k hh).1
    · rw [hout]
      intro j ks' c' hj
      have:=Zf1 (W:=W) hrep.below hgr hX2 (hAarg j ks' c' hj)
      show Z2m W2.w (X1 Xc W2 v') (.s 0 ks') _ _
      rw [W2w]
      exact this
    · dsimp only
      rw [hout,hvn]
      refine ⟨by rw [eR,List.length_append,← a1]; rfl,by omega,?_,?_,?_,?_⟩
      · simp only [E.sc,Z1h4,er,List.length_append,hrep.nv,List.length_cons,List.length_nil]
        omega
      · rw [W2w]
        exact hrow' xn (by rw [hxd,hdd])
      · intro k hk
        have hlt:=(hrow' xn (by rw [hxd,hdd])).blk_lt hk
        refine ⟨?_,?_⟩
        · rintro (hh | hh)
          · rw [W2w] at hh
            omega
          · rw [W2X] at hh
            obtain ⟨m1,m2⟩:=hown k hh
            rcases hat k hk with h1 | h1
            · exact hmayu k m1 h1
            · omega
        · rcases hat k hk with h1 | h1
          · exact (a5 k h1).2
          · have:w0.heap.size≤w.heap.size:=hb0.size
            omega
      · intro zz hzz
        rw [W2w]
        rw [hxd] at hzz
        rcases List.mem_append.1 hzz with hzz | hzz
        · exact Zhr (W:=W) hrep.below hgr hX2 (a6 zz hzz)
        · rw [List.mem_singleton.1 hzz,helt]
          refine z4 w' (X1 Xc W2 v') (fun k v c=>Zf1 (W:=W) hrep.below hgr hX2) fun n b h1 h2 h3=>⟨hrows2 n b h2 h3,fun k hk hX=>?_⟩
          have hm:=hownr n b h2 h3 k hk
          have hlt:=(hrep.row n b h2 h3).blk_lt hk
          rcases hX with (hX | hX) | hX
          · rw [W2X] at hX
            rcases hX with ⟨m,b',g1,g2,g3,g4⟩ | ⟨m,b',g1,g2,g3,g4⟩
            · rw [smem] at g1
              rw [eβ] at g4
              exact hrep.brs m n b' b g1 h2 g2 h3 (by rw [g4]; exact hk)
            · obtain ⟨g5,g6⟩:=hk2 m b' g1 g2
              rw [hgo] at g4
              have:=hrep.rsep m n b' b k g5 h2 g2 h3 g4 hk
              subst this
              exact g6 h1
          · have:=hXc k hX
            have h9:=A.may k hm
            omega
          · rcases hat k hX with hh | hh
            · exact hmayu k hm hh
            · omega
  have hrel2:Rel e2 W2 s2 a w':=⟨hrep2,by
    rw [h.tmps,sfr]
    congr 1
    exact (List.map_congr_left fun v hv=>SV.den_up hle2 (List.all_eq_true.1 hamf v hv) (List.all_eq_true.1 scf v hv)).symm,h.defs⟩
  have hput:=hrel2.put o.dst (one (.go (.a (i' + 1))))
  have hval:(one (.go (.a (i' + 1)))).den e2=v':=hout
  rw [hval] at hput
  have hsat:=hs [xn] rfl (hrel _ ⟨c.den e.R e.r,es.map (E.den e.R e.r),xn,zs,rfl,hxd,z1⟩)
  rw [← er,T.sat_R e.R e2.R,← hs2] at hsat
  have hfin:=hK _ _ e2 W2 _ w' hle2 hput hA2 ((Zu _ _ _).2.2.2.2.1.trans sfl) ((Zu _ _ _).2.2.2.2.2.trans sflr) ((Z5h _ _ _).trans (by rw [hs2]; exact hdp)) hsat
  have ho:=Z1ak hop
  rw [← hev] at hr
  unfold Oper.wp execOp
  simp only [ho,resolve,invoke,builtin,Sem.run_bind,Sem.run_pure,Result.andThen_ok,List.map_toArray,Z1gw,Z1gx,hr]
  exact hfin
end
end Go.Sx
namespace Go.Sx
open Go.RowKit
abbrev Zhs:=Out→St→Option (Nat × E)→T
section
variable (P:Program) (Γ:List Sum) (ex:Code→St→Z9i→T) (q:Ac)
def apT:List Oper→St→Option (Nat × E)→(St→Option (Nat × E)→T)→T
 | [],s,acc,k=>k s acc
 | o::l,s,acc,k=>if o.guard.isNone then (if (Z1aj o).isSome then (match acc with
   | some (i,c)=>accT P q s i c o fun s' acc'=>apT l s' acc' k
   | none=>.fail)
  else if (Z9v o).isNone then opT P Γ ex o s fun s'=>apT l s' acc k else .fail) else .fail
def Z15a (id0:Nat):Code→Bool
 | .seq x y=>Z15a id0 x || Z15a id0 y
 | .block _ c=>Z15a id0 c
 | .loop c=>Z15a id0 c
 | .region id _ _=>id == id0
 | _=>false
def isA (i:Nat):SC→Bool
 | .go (.a j)=>j == i
 | _=>false
def isN:SC→Bool
 | .l v=>Z1ai v
 | _=>false
def frz (q:Ac) (m:Nat) (s:St):Option (Nat × E)→Option St
 | some (i,c)=>if i=m∧Zci s.hs q.hs0=true then some { s with hs:=s.hs++[(q.ks,c)] } else none
 | none=>none
def lpA (m:Nat) (body:St→Option (Nat × E)→Zhs→T) (s:St) (acc:Option (Nat × E)) (k:Zhs):T:=match acc with
 | some _=>.fail
 | none=>if s.sc && (s.rows.isEmpty && (Z103 s.gl q.gl && Zci s.hs q.hs0)) then (match mF m s.nv s.mem.length q.pl s.fr s.fr with
  | some es=>if mM q.at_ isN m s.nv s.mem.length 0 s.mem s.mem then .loop (es.length + 1) (es++[.c 0]) (body (Z1ge m q.pl q.at_ s) (some (m,.v (s.nv + es.length))) fun o s' acc'=>match o with
    | .norm=>(match acc' with
     | some (i,c)=>(match mF m s.nv s.mem.length q.pl s.fr s'.fr with
      | some fs=>if mM q.at_ (isA i) m s.nv s.mem.length 0 s.mem s'.mem then .back s.dp (fs++[c]) else .fail
      | none=>.fail)
     | none=>.fail)
    | o=>(match frz q m s' acc' with
     | some s''=>k o s'' acc'
     | none=>.fail)) else .fail
  | none=>.fail) else .fail
def Z15b (id0 m:Nat):Code→St→Option (Nat × E)→Zhs→T
 | .seq x y,s,acc,k=>if Z15a id0 x then Z15b id0 m x s acc (fun o s' acc'=>match o with
   | .norm=>ex y s' fun o s''=>k o s'' acc'
   | o=>k o s' acc')
  else ex x s fun o s'=>match o with
   | .norm=>Z15b id0 m y s' acc k
   | o=>k o s' acc
 | .block id c,s,acc,k=>Z15b id0 m c s acc fun o s' acc'=>match o with
  | .exit id'=>if id'=id then k .norm s' acc' else k (.exit id') s' acc'
  | o=>k o s' acc'
 | .loop c,s,acc,k=>lpA q m (Z15b id0 m c) s acc k
 | .region id ops d,s,acc,k=>if id == id0 && !d then apT P Γ ex q ops.toList s acc (k .norm) else .fail
 | _,_,_,_=>.fail
end
section
variable {P:Program} {Γ:List Sum} {Ψ:List Int→Prop} {q:Ac} {w0:World} {R0:Fo} {r0:List Int} {Xc:Nat→Prop} {ex:Code→St→Z9i→T}
def Az (Xc:Nat→Prop) (Γ:List Sum) (Ψ:List Int→Prop) (q:Ac) (w0:World) (R0:Fo) (r0:List Int) (bs:List (List Int→Prop)) (e:Env) (k:St→Option (Nat × E)→T) (a:Act) (w:World):Prop :=
 ∃ s' acc' e' W' more,LeA e e'∧Rel e' W' s' a w∧Zq6 Xc q.tel q.ks w0 q.hs0 R0 r0 e' W' acc'∧s'.fl=0∧s'.flr=0∧s'.dp=(bs++more).length∧(k s' acc').sat Γ e'.R Ψ (bs++more) e'.r
def Ax (Xc:Nat→Prop) (Γ:List Sum) (Ψ:List Int→Prop) (q:Ac) (w0:World) (R0:Fo) (r0:List Int) (bs:List (List Int→Prop)) (e:Env) (k:Zhs) (x:Exit) (a:Act) (w:World):Prop :=
 ∃ out,x=out.exitOf∧Az Xc Γ Ψ q w0 R0 r0 bs e (k out) a w
theorem Az.trans {bs more:List (List Int→Prop)} {e e':Env} {k:St→Option (Nat × E)→T} {a:Act} {w:World} (hle:LeA e e') (h:Az Xc Γ Ψ q w0 R0 r0 (bs++more) e' k a w):Az Xc Γ Ψ q w0 R0 r0 bs e k a w:=by
 obtain ⟨s',acc',e2,W',more',h1,h2,h3,h4,h5,h6,h7⟩:=h
 exact ⟨s',acc',e2,W',more++more',hle.trans h1,h2,h3,h4,h5,by rw [← List.append_assoc]; exact h6,by rw [← List.append_assoc]; exact h7⟩
theorem Ax.trans {bs more:List (List Int→Prop)} {e e':Env} {k:Zhs} {x:Exit} {a:Act} {w:World} (hle:LeA e e') (h:Ax Xc Γ Ψ q w0 R0 r0 (bs++more) e' k x a w):Ax Xc Γ Ψ q w0 R0 r0 bs e k x a w:=by
 obtain ⟨out,h1,h2⟩:=h
 exact ⟨out,h1,h2.trans hle⟩
theorem Zht (hXc:∀ k,Xc k→k < w0.heap.size) (hg0:GlZ q.gl w0 Xc) (hG:Gok P Γ) (hex:IH P Γ ex) (hhs0:∀ i ks c,q.hs0[i]?=some (ks,c)→i < R0.length∧c.sc r0.length=true) (hrel:∀ aZ,Zch q.ow aZ→Zi7 Γ q.g aZ) {ops:Array Oper} {k:St→Option (Nat × E)→T} {Q:Exit→Act→World→Prop} :
    ∀ (l:List Oper) (s:St) (acc:Option (Nat × E)) (bs:List (List Int→Prop)) (e:Env) (W:Bas) (a:Act) (w:World),Rel e W s a w→Zq6 Xc q.tel q.ks w0 q.hs0 R0 r0 e W acc→s.fl=0→s.flr=0→s.dp=bs.length →
      (apT P Γ ex q l s acc k).sat Γ e.R Ψ bs e.r→(∀ a' w',Az Xc Γ Ψ q w0 R0 r0 bs e k a' w'→Q .normal a' w')→wpList P ops Q l a w
  | [],s,acc,bs,e,W,a,w,h,A,hfl,hflr,hdp,hs,hQ=>hQ a w ⟨s,acc,e,W,[],LeA.refl e,h,A,hfl,hflr,by simpa using hdp,by simpa [apT] using hs⟩
  | o::l,s,acc,bs,e,W,a,w,h,A,hfl,hflr,hdp,hs,hQ=>by
    simp only [apT] at hs
    split at hs
    case isFalse=>exact hs.elim
    rename_i hgd
    have hgd:o.guard=none:=by simpa using hgd
    split at hs
    · split at hs
      · rename_i i c
        refine wpList_plain hgd fun K hK=>Zz9 hhs0 hXc hg0 hrel h A hfl hflr hdp hs ?_
        intro s' acc' e' W' a' w' hle hrel' A' hfl' hflr' hdp' hs'
        exact hK _ _ (Zht hXc hg0 hG hex hhs0 hrel l s' acc' bs e' W' a' w' hrel' A' hfl' hflr' hdp' hs' fun a2 w2 hz=>hQ a2 w2 (Az.trans (more:=[]) hle (by simpa using hz)))
      · exact hs.elim
    · split at hs
      case isFalse=>exact hs.elim
      refine wpList_plain hgd fun K hK=>?_
      refine Oper.wp_mono' (Z7s hG hex h hdp hs) ?_
      rintro a3 w3 ⟨s3,e3,more,hle,hrel',hf,hfr,hd,hsat⟩
      exact hK _ _ (Zht hXc hg0 hG hex hhs0 hrel l s3 acc (bs++more) e3 W a3 w3 hrel' (A.grow hle) (hf.trans hfl) (hfr.trans hflr) hd hsat fun a2 w2 hz=>hQ a2 w2 (hz.trans (LeA.of hle)))
theorem px_az {bs:List (List Int→Prop)} {W:Bas} {e:Env} {s:St} {acc:Option (Nat × E)} {k:Zhs} {x:Exit} {a:Act} {w:World} (A:Zq6 Xc q.tel q.ks w0 q.hs0 R0 r0 e W acc) (hfl:s.fl=0) (hflr:s.flr=0)
  (h:Px Γ Ψ bs W e s.fl s.flr (fun o s''=>k o s'' acc) x a w):Ax Xc Γ Ψ q w0 R0 r0 bs e k x a w:=by
 obtain ⟨out,s',e',more,h0,hle,hrel,hf,hfr,hd,hsat⟩:=h
 exact ⟨out,h0,s',acc,e',W,more,LeA.of hle,hrel,A.grow hle,hf.trans hfl,hfr.trans hflr,hd,hsat⟩
theorem Z15c {e:Env} {R:Fo} {u:Value} {c:E} (h:e.R=R++[u]) (hu:slV u=u):Zi2 e (some (R.length,c))=u:=by
 simp only [Zi2,h]
 rw [show (R++[u]).getD R.length undef=u by simp [List.getD]]
 exact hu
theorem Z15d (v:Value):slV (slV v)=slV v:=by cases v <;> rfl
theorem Z1al {W:Bas} {u:Value} {ks:List K} {v:Value} {c:Int} (h:SlX ⟨W.w,X1 Xc W u⟩ ks v c):SlX W ks v c :=
 Z8f (fun _ _ _ h hx=>⟨h,fun hne k hk hX=>hx hne k hk (.inl (.inl hX))⟩) h
theorem Zpu {W:Bas} {u:Value}:∀ {ks:List K} {ns:List Int},Z64 W.w (X1 Xc W u) ks ns→Z64 W.w W.X ks ns
 | [],ns,h=>by cases ns <;> exact trivial
 | k::ks,[],h=>trivial
 | k::ks,n::ns,h=>by
  rw [Z64] at h ⊢
  exact ⟨Z8f (fun _ _ _ h hx=>⟨h,fun hne k hk hX=>hx hne k hk (.inl (.inl hX))⟩) h.1,Zpu h.2⟩
theorem Zwh (e:Env) (acc:Option (Nat × E)):slV (Zi2 e acc)=Zi2 e acc:=by
 unfold Zi2
 split
 ·exact Z15d _
 ·rfl
theorem Z15e {c:Code} {body:St→Option (Nat × E)→Zhs→T} (hg0:GlZ q.gl w0 Xc) (hhs0:∀ i ks c,q.hs0[i]?=some (ks,c)→i < R0.length∧c.sc r0.length=true) (hlen:q.hs0.length=R0.length)
  (hbody:∀ (s:St) (acc:Option (Nat × E)) (k:Zhs) (bs:List (List Int→Prop)) (e:Env) (W:Bas) (a:Act) (w:World),Rel e W s a w→Zq6 Xc q.tel q.ks w0 q.hs0 R0 r0 e W acc→s.fl=0→s.flr=0→s.dp=bs.length→(body s acc k).sat Γ e.R Ψ bs e.r→wps P c (Ax Xc Γ Ψ q w0 R0 r0 bs e k) a w)
  {s:St} {acc:Option (Nat × E)} {k:Zhs} {bs:List (List Int→Prop)} {e:Env} {W:Bas} {a:Act} {w:World} (h:Rel e W s a w) (A:Zq6 Xc q.tel q.ks w0 q.hs0 R0 r0 e W acc) (hfl:s.fl=0) (hflr:s.flr=0) (hdp:s.dp=bs.length)
  (hs:(lpA q R0.length body s acc k).sat Γ e.R Ψ bs e.r):∃ n,Z4f (wps P c) (Ax Xc Γ Ψ q w0 R0 r0 bs e k) n a w:=by
 unfold lpA at hs
 split at hs
 ·exact hs.elim
 split at hs
 case isFalse=>exact hs.elim
 rename_i hck
 simp only [Z1h3] at hck
 obtain ⟨hsc,hrw,hgl,hhs⟩:=hck
 have hrw:s.rows=[]:=by simpa using hrw
 have hhs:=Z8g hhs
 split at hs
 case h_2=>exact hs.elim
 rename_i es hF
 split at hs
 case isFalse=>exact hs.elim
 rename_i hM
 obtain ⟨I,μ,hI,hloop⟩:=hs
 have hR:e.R=R0:=A.acc
 obtain ⟨xr,hxr⟩:=A.r
 have hesl:=(Zz6 (ex:=e) hF).1
 rw [← hR] at hF hM
 have hnil:∀ x,isN x=true→x.den e=.slice none 0 0:=fun x hx=>by
  unfold isN at hx
  split at hx
  ·exact Zwd hx
  ·cases hx
 have mkA:∀ {e3:Env} {W':Bas} {u:Value} {cn:Int} {l:List Int},slV u=u→e3.R=R0++[u]→e3.r=e.r++(l++[cn])→l.length=es.length→Zt ⟨w0,fun _=>False⟩ W'.w→(∀ k,W'.may k→w0.heap.size≤k) →
   (∀ i ks c,q.hs0[i]?=some (ks,c)→SlX ⟨W'.w,X1 Xc W' u⟩ ks (slV (R0.getD i undef)) (c.den R0 r0))→Z12 W'.w q.tel q.ks u cn→(∀ k,Z8 u=some k→¬ W'.may k∧w0.heap.size≤k)→(∀ z ∈ dec cn,Z64 W'.w (X1 Xc W' u) q.ks (elt q.ks z)) →
   Zq6 Xc q.tel q.ks w0 q.hs0 R0 r0 e3 W' (some (R0.length,.v (s.nv + es.length))):=by
  intro e3 W' u cn l hu h1 h2 h3 h4 h5 h6 h7 h8 h9
  have ho:Zi2 e3 (some (R0.length,.v (s.nv + es.length)))=u:=Z15c h1 hu
  have hd:(E.v (s.nv + es.length)).den e3.R e3.r=cn:=by
   simp only [E.den,h2,List.getD]
   rw [List.getElem?_append_right (by rw [h.rep.nv]; omega),h.rep.nv,Nat.add_sub_cancel_left,List.getElem?_append_right (by omega),h3,Nat.sub_self]
   rfl
  refine ⟨⟨[u],h1⟩,⟨xr++(l++[cn]),by rw [h2,hxr,List.append_assoc]⟩,h4,h5,by rw [ho]; exact h6,?_⟩
  dsimp only
  rw [ho,hd]
  refine ⟨by rw [h1]; simp,Nat.le_refl _,?_,h7,h8,h9⟩
  simp only [E.sc,Z1h4,h2,List.length_append,h3,h.rep.nv,List.length_cons,List.length_nil]
  omega
 have hargW:∀ {W':Bas} {u:Value},(∀ i ks c,q.hs0[i]?=some (ks,c)→SlX ⟨W'.w,X1 Xc W' u⟩ ks (slV (R0.getD i undef)) (c.den R0 r0))→∀ i ks c,s.hs[i]?=some (ks,c)→SlX W' ks (slV (e.R.getD i undef)) (c.den e.R e.r):=by
  intro W' u hh i ks' c' hi
  rw [hhs] at hi
  obtain ⟨b1,b2⟩:=hhs0 i ks' c' hi
  have e2:c'.den e.R e.r=c'.den R0 r0:=by
   rw [hxr,E.den_app _ _ _ _ b2]
   exact E.den_R _ _ _ _
  rw [e2,hR]
  exact Z1al (hh i ks' c' hi)
 have hhl:s.hs.length≤e.R.length:=by rw [hhs,hlen,hR]; exact Nat.le_refl _
 have key:∀ (n:Nat) (xs:List Int),xs.length=es.length + 1→I xs→μ xs < n→∀ (e2:Env) (W2:Bas) (a:Act) (w:World),LeA e e2→e2.r=e.r++xs→Rel e2 W2 (Z1ge R0.length q.pl q.at_ s) a w →
   Zq6 Xc q.tel q.ks w0 q.hs0 R0 r0 e2 W2 (some (R0.length,.v (s.nv + es.length)))→Z4f (wps P c) (Ax Xc Γ Ψ q w0 R0 r0 bs e k) n a w:=by
  intro n
  induction n with
  | zero=>intro xs _ _ hlt; omega
  | succ n ihn =>
   intro xs hxl hIx hlt e2 W2 a w hle2 her hrel2 hA2
   have hb:=hloop xs hxl hIx
   rw [← her,T.sat_R e.R e2.R] at hb
   rw [Z53]
   refine Z20 c (hbody _ _ _ (bs++[fun ys=>I ys∧μ ys < μ xs]) e2 W2 a w hrel2 hA2 hfl hflr (by show s.dp + 1=_; rw [hdp]; simp) hb) ?_
   rintro x a' w' ⟨out,rfl,s',acc',e',W',more,hle',hrel',hA',hf,hfr,hd,hsat⟩
   have hle3:=hle2.trans hle'
   have hout:∀ {o:Out},(match frz q R0.length s' acc' with | some s''=>k o s'' acc' | none=>T.fail).sat Γ e'.R Ψ ((bs++[fun ys=>I ys∧μ ys < μ xs])++more) e'.r→Ax Xc Γ Ψ q w0 R0 r0 bs e k o.exitOf a' w':=by
    intro o hsat2
    split at hsat2
    case h_2=>exact hsat2.elim
    rename_i s'' hfz
    unfold frz at hfz
    split at hfz
    case h_2=>cases hfz
    rename_i i c'
    split at hfz
    case isFalse=>cases hfz
    rename_i hcc
    obtain ⟨rfl,hc2⟩:=hcc
    simp only [Option.some.injEq] at hfz
    have hc2:=Z8g hc2
    obtain ⟨a1,a2,a3,a4,a5,a6⟩:=hA'.acc
    obtain ⟨u,hu⟩:∃ u,u=Zi2 e' (some (R0.length,c')):=⟨_,rfl⟩
    rw [← hu] at a4 a5 a6
    have hrep':=hrel'.rep
    have hrelf:Rel e' W' s'' a' w':=by
     rw [← hfz]
     refine ⟨⟨hrep'.below,hrep'.nb,hrep'.ng,hrep'.nv,hrep'.nx,hrep'.blk,hrep'.own,hrep'.sep,hrep'.row,hrep'.rown,hrep'.rsep,hrep'.brs,hrep'.gl,?_⟩,hrel'.tmps,hrel'.defs⟩
     intro j ks' d hj
     have hj:(s'.hs++[(q.ks,c')])[j]?=some (ks',d):=hj
     rcases Nat.lt_or_ge j s'.hs.length with hlt' | hge
     ·rw [List.getElem?_append_left hlt'] at hj
      exact hrep'.arg j ks' d hj
     ·rw [List.getElem?_append_right hge] at hj
      have hj0:j - s'.hs.length=0:=by
       have:=(List.getElem?_eq_some_iff.1 hj).1
       simp only [List.length_cons,List.length_nil] at this
       omega
      rw [hj0] at hj
      simp only [Z1gq,Option.some.injEq,Prod.mk.injEq] at hj
      obtain ⟨rfl,rfl⟩:=hj
      have hjm:j=R0.length:=by
       rw [hc2,hlen] at hge hj0
       omega
      rw [hjm]
      have hval:(G.a R0.length).val e'=u:=by rw [hu]; rfl
      rw [hval]
      unfold SlX
      rw [Z2m]
      refine ⟨⟨a4.sl,fun hne kk hkk hX=>(a5 kk (a4.slBlk hne hkk)).1 (.inr hX)⟩,fun z hz=>?_⟩
      have:=a6 z hz
      clear hval hsat2 ihn hb hloop
      exact Zpu this
    refine ⟨o,rfl,s'',some (R0.length,c'),e',W',[fun ys=>I ys∧μ ys < μ xs]++more,hle3,hrelf,hA',by rw [← hfz]; exact hf,by rw [← hfz]; exact hfr,by rw [← hfz,← List.append_assoc]; exact hd,by rw [← List.append_assoc]; exact hsat2⟩
   cases out with
   | norm =>
    dsimp only at hsat
    split at hsat
    case h_2=>exact hsat.elim
    rename_i i c'
    split at hsat
    case h_2=>exact hsat.elim
    rename_i fs hF'
    split at hsat
    case isFalse=>exact hsat.elim
    rename_i hM'
    have hget:((bs++[fun ys=>I ys∧μ ys < μ xs])++more)[s.dp]?=some (fun ys=>I ys∧μ ys < μ xs):=by
     rw [hdp,List.append_assoc,List.getElem?_append_right (Nat.le_refl _),Nat.sub_self]
     rfl
    have hback:∀ {d:Nat} {es:List E} {Rr:Fo} {r:List Int} {bb:List (List Int→Prop)} {p:List Int→Prop},bb[d]?=some p→(T.back d es).sat Γ Rr Ψ bb r→p (es.map (E.den Rr r)):=by
     intro d es Rr r bb p hp hb
     simp only [T.sat,hp] at hb
     exact hb
    obtain ⟨hIy,hμ⟩:=hback hget hsat
    rw [List.map_append,Z1gw,Z1gx] at hIy hμ
    obtain ⟨a1,a2,a3,a4,a5,a6⟩:=hA'.acc
    have hfl':=(Zz6 (ex:=e') hF').1
    rw [← hR] at hF' hM'
    obtain ⟨u,hu⟩:∃ u,u=Zi2 e' (some (i,c')):=⟨_,rfl⟩
    have hAr:=hA'.arg
    rw [← hu] at a4 a5 a6 hAr
    have husl:slV u=u:=by rw [hu]; exact Zwh _ _
    obtain ⟨e3,g1,g2,g3,g4⟩:=headA (u:=u) (cn:=c'.den e'.R e'.r) (y:=isA i) h.rep hsc hrel' hle3 hf hfl hrw (Zwg hg0 hgl hA'.below fun k hk=>.inl (hA'.may k (.inr hk))) hF' hM' husl (fun x hx=>by
     unfold isA at hx
     split at hx
     ·rename_i j
      have:j=i:=by simpa using hx
      rw [this,hu]
      rfl
     ·cases hx) hhl (hargW hAr)
    rw [hR] at g4 g3
    refine ihn _ ?_ hIy (by omega) e3 W' a' w' g1 g2 g4 ?_
    ·rw [List.length_append,List.length_map,hfl',hesl]; rfl
    ·exact mkA husl g3 g2 (by rw [List.length_map,hfl',hesl]) hA'.below hA'.may hAr a4 a5 a6
   | exit id=>exact hout (o:=.exit id) hsat
   | ret=>exact hout (o:=.ret) hsat
 have hA0:=A.arg
 obtain ⟨e3,g1,g2,g3,g4⟩:=headA (u:=.slice none 0 0) (cn:=0) (y:=isN) h.rep hsc h (LeA.refl e) hfl hfl hrw (Zwg hg0 hgl A.below fun k hk=>.inl (A.may k (.inr hk))) hF hM rfl hnil hhl (hargW hA0)
 rw [hR] at g4 g3
 refine ⟨_,key _ _ ?_ hI (Nat.lt_succ_self _) e3 W a w g1 ?_ g4 ?_⟩
 ·simp
 ·rw [g2]
  simp [E.den]
 ·refine mkA rfl g3 g2 (by simp) A.below A.may hA0 (.inl ⟨Z22,none,rfl⟩) (fun k hk=>by simp [Z8] at hk) (fun z hz=>?_)
  rw [Z22] at hz
  cases hz
end
end Go.Sx
namespace Go.Sx
open Go.RowKit
section
variable {P:Program} {Γ:List Sum} {Ψ:List Int→Prop} {q:Ac} {w0:World} {R0:Fo} {r0:List Int} {Xc:Nat→Prop} {ex:Code→St→Z9i→T}
theorem Zza (hXc:∀ k,Xc k→k < w0.heap.size) (hg0:GlZ q.gl w0 Xc) (hG:Gok P Γ) (hex:IH P Γ ex) (hhs0:∀ i ks c,q.hs0[i]?=some (ks,c)→i < R0.length∧c.sc r0.length=true) (hlen:q.hs0.length=R0.length) (hrel:∀ aZ,Zch q.ow aZ→Zi7 Γ q.g aZ) {id0:Nat} :
    ∀ (c:Code) (s:St) (acc:Option (Nat × E)) (k:Zhs) (bs:List (List Int→Prop)) (e:Env) (W:Bas) (a:Act) (w:World),Rel e W s a w→Zq6 Xc q.tel q.ks w0 q.hs0 R0 r0 e W acc→s.fl=0→s.flr=0→s.dp=bs.length →
      (Z15b P Γ ex q id0 R0.length c s acc k).sat Γ e.R Ψ bs e.r→wps P c (Ax Xc Γ Ψ q w0 R0 r0 bs e k) a w:=by
  intro c
  induction c with
  | seq x y ihx ihy =>
    intro s acc k bs e W a w h A hfl hflr hdp hs
    simp only [Z15b] at hs
    split at hs
    · refine Z20 x (ihx s acc _ bs e W a w h A hfl hflr hdp hs) ?_
      rintro x' a' w' ⟨out,rfl,s',acc',e',W',more,hle,hrel',A',hf,hfr,hd,hsat⟩
      cases out with
      | norm=>exact Z20 y (hex y s' _ W' Ψ (bs++more) e' a' w' hrel' hd hsat) fun _ _ _ hp=>(px_az A' hf hfr hp).trans hle
      | exit id=>exact ⟨.exit id,rfl,s',acc',e',W',more,hle,hrel',A',hf,hfr,hd,hsat⟩
      | ret=>exact ⟨.ret,rfl,s',acc',e',W',more,hle,hrel',A',hf,hfr,hd,hsat⟩
    · refine Z20 x (hex x s _ W Ψ bs e a w h hdp hs) ?_
      rintro x' a' w' ⟨out,s',e',more,rfl,hle,hrel',hf,hfr,hd,hsat⟩
      cases out with
      | norm=>exact Z20 y (ihy s' acc k (bs++more) e' W a' w' hrel' (A.grow hle) (hf.trans hfl) (hfr.trans hflr) hd hsat) fun _ _ _ hp=>hp.trans (LeA.of hle)
      | exit id=>exact ⟨.exit id,rfl,s',acc,e',W,more,LeA.of hle,hrel',A.grow hle,hf.trans hfl,hfr.trans hflr,hd,hsat⟩
      | ret=>exact ⟨.ret,rfl,s',acc,e',W,more,LeA.of hle,hrel',A.grow hle,hf.trans hfl,hfr.trans hflr,hd,hsat⟩
  | block id body ih =>
    intro s acc k bs e W a w h A hfl hflr hdp hs
    simp only [Z15b] at hs
    refine Z20 body (ih s acc _ bs e W a w h A hfl hflr hdp hs) ?_
    rintro x' a' w' ⟨out,rfl,s',acc',e',W',more,hle,hrel',A',hf,hfr,hd,hsat⟩
    cases out with
    | norm=>exact ⟨.norm,rfl,s',acc',e',W',more,hle,hrel',A',hf,hfr,hd,hsat⟩
    | exit id' =>
      dsimp only at hsat
      show if id'=id then _ else _
      split at hsat
      · rename_i hid
        rw [if_pos hid]
        exact ⟨.norm,rfl,s',acc',e',W',more,hle,hrel',A',hf,hfr,hd,hsat⟩
      · rename_i hid
        rw [if_neg hid]
        exact ⟨.exit id',rfl,s',acc',e',W',more,hle,hrel',A',hf,hfr,hd,hsat⟩
    | ret=>exact ⟨.ret,rfl,s',acc',e',W',more,hle,hrel',A',hf,hfr,hd,hsat⟩
  | loop c ih =>
    intro s acc k bs e W a w h A hfl hflr hdp hs
    simp only [Z15b] at hs
    exact Z15e hg0 hhs0 hlen ih h A hfl hflr hdp hs
  | region id ops d =>
    intro s acc k bs e W a w h A hfl hflr hdp hs
    simp only [Z15b] at hs
    split at hs
    · rename_i hc
      simp only [Z1h3,Bool.not_eq_true'] at hc
      obtain ⟨_,rfl⟩:=hc
      exact Ze2 (Zht hXc hg0 hG hex hhs0 hrel ops.toList s acc bs e W a w h A hfl hflr hdp hs fun a' w' hz=>⟨.norm,rfl,hz⟩)
    · exact hs.elim
  | _=>intro s acc k bs e W a w h A hfl hflr hdp hs; simp only [Z15b] at hs; exact hs.elim
end
def doneA (P:Program) (F:Func) (fin:Option (Nat × E)→St→SV→Option (List E)):Zhs:=fun o s acc=>match o with
 | .exit _=>.fail
 | _=>match Zfa P F s with
  | some v=>(match fin acc s v with
   | some es=>.ret es
   | none=>.fail)
  | none=>.fail
def Z1am (P:Program) (lp:St→Code→Option Zdy) (Γ:List Sum) (q:Ac) (id0:Nat) (fin:Option (Nat × E)→St→SV→Option (List E)) (fuel:Nat) (fn:FuncId) (ps:List Sh):T:=match P.funcs[fn]? with
 | some F=>match F.body with
  | some body=>if Zci q.hs0 (hsE (Z4b ps) (Zb 0 (Zj ps))) && (q.hs0.all (fun p=>p.2.sc (Zj ps)) && decide (q.hs0.length=(Z24 (Z4b ps) (Zb 0 (Zj ps))).length)) then
    Z15b P Γ (Zic P lp Γ fuel) q id0 q.hs0.length body ⟨Z7m ps F.ntmps,[],[],Zj ps,0,0,0,q.gl,hsE (Z4b ps) (Zb 0 (Zj ps)),0⟩ none (doneA P F fin) else .fail
  | none=>.fail
 | none=>.fail
section
variable {P:Program} {Γ:List Sum} {Ψ:List Int→Prop} {q:Ac} {Xc:Nat→Prop}
structure Left (Xc:Nat→Prop) (q:Ac) (fin:Option (Nat × E)→St→SV→Option (List E)) (Ψ:List Int→Prop) (R0:Fo) (r0:List Int) (w:World) (x:Ending) (w':World) (e:Env) (W:Bas) (s:St) (acc:Option (Nat × E)) (v:SV) (es:List E):Prop where
 ret:x=.returned (v.den e)
 rep:Rep e W s w'
 R:∃ y,e.R=R0++y
 r:∃ y,e.r=r0++y
 may:∀ k,W.may k→w.heap.size≤k
 below:Below w.heap.size w w'
 accI:Zq6 Xc q.tel q.ks w q.hs0 R0 r0 e W acc
 fin:fin acc s v=some es
 post:Ψ (es.map (E.den e.R e.r))
theorem Zsy {w:World} (hXc:∀ k,Xc k→k < w.heap.size) (hg0:GlZ q.gl w Xc) (hm:P.follows .mixedOrders=true) (hG:Gok P Γ) (hrel:∀ aZ,Zch q.ow aZ→Zi7 Γ q.g aZ) {id0:Nat} {fin:Option (Nat × E)→St→SV→Option (List E)} {lp:St→Code→Option Zdy} {fuel:Nat} {fn:FuncId} {ps:List Sh} {xs:List Int} {vs:List Value}
  (hx:Z76 (fun _ ks u n=>Z2m w Xc (.s 0 ks) u n) ps vs xs) (hs:(Z1am P lp Γ q id0 fin fuel fn ps).sat Γ [] Ψ [] xs) :
  Calls P fn vs.toArray w fun x w'=>∃ e W s acc v es,Left Xc q fin Ψ (Za ps vs) xs w x w' e W s acc v es:=by
 unfold Z1am at hs
 split at hs
 case h_2=>exact hs.elim
 rename_i F hF
 split at hs
 case h_2=>exact hs.elim
 rename_i body hb
 split at hs
 case isFalse=>exact hs.elim
 rename_i hck
 simp only [Z1h3,Z1h4] at hck
 obtain ⟨hq,hqs,hql⟩:=hck
 have hq:=Z8g hq
 have hxl:=hx.len.1
 have hv:(Zb 0 (Zj ps)).map (E.den (Za ps vs) xs)=xs:=by
  have:=Z2s (R:=Za ps vs) (r:=[]) hxl
  simpa using this
 have hx':Z76 (fun _ ks u n=>Z2m w Xc (.s 0 ks) u n) ps vs ((Zb 0 (Zj ps)).map (E.den (⟨xs,[],[],[],Za ps vs⟩:Env).R (⟨xs,[],[],[],Za ps vs⟩:Env).r)):=by
  show Z76 _ ps vs ((Zb 0 (Zj ps)).map (E.den (Za ps vs) xs))
  rw [hv]; exact hx
 obtain ⟨r1,r2⟩:=Z2o hx'
 have hsl:∀ (j:Nat) (u:Value),(Za ps vs)[j]?=some u→∃ a l cp,u=.slice a l cp:=fun j u hj=>by
  obtain ⟨b,hb'⟩:∃ b,(Z24 (Z4b ps) (Zb 0 (Zj ps)))[j]?=some b:=⟨_,List.getElem?_eq_getElem (by rw [← r1]; exact (List.getElem?_eq_some_iff.1 hj).1)⟩
  exact (r2 j b u hb' hj).base.1.slice
 have hden:((Zf9 Zt8 0 ps (Zb 0 (Zj ps))).map SV.w).map (SV.den ⟨xs,[],[],[],Za ps vs⟩)=vs:=by
  rw [List.map_map]
  refine Zb3 (e:=⟨xs,[],[],[],Za ps vs⟩) hx' fun j u hj=>?_
  simp only [Zt8,SC.den,G.val,Nat.zero_add,List.getD,hj,Option.getD_some]
  exact Zg0 (hsl j u hj)
 have harg:∀ i ks c,(hsE (Z4b ps) (Zb 0 (Zj ps)))[i]?=some (ks,c)→Z2m w Xc (.s 0 ks) (slV ((Za ps vs).getD i undef)) (c.den (Za ps vs) xs):=by
  intro i ks c hi
  obtain ⟨ty,hr⟩:=Z91 hi
  have hlt:i < (Za ps vs).length:=by rw [r1]; exact (List.getElem?_eq_some_iff.1 hr).1
  have hu:(Za ps vs)[i]?=some (Za ps vs)[i]:=List.getElem?_eq_getElem hlt
  have:=r2 i _ _ hr hu
  rw [show (Za ps vs).getD i undef=(Za ps vs)[i] by simp [List.getD,hu],Zg0 (hsl i _ hu)]
  exact this
 have hrep:Rep ⟨xs,[],[],[],Za ps vs⟩ ⟨w,fun _=>False⟩ ⟨Z7m ps F.ntmps,[],[],Zj ps,0,0,0,q.gl,hsE (Z4b ps) (Zb 0 (Zj ps)),0⟩ w:=by
  refine ⟨Zt.refl _,rfl,rfl,hxl,rfl,?_,?_,?_,?_,?_,?_,?_,⟨hg0.1,fun _ _ _ hh=>hh⟩,fun i ks c hi=>Z8f (fun _ _ _ h _=>⟨h,fun _ _ _ hh=>hh⟩) (harg i ks c hi)⟩
  ·intro n b hb; simp at hb
  ·intro n b hb; simp at hb
  ·intro n m b c hb; simp at hb
  ·intro n b hb; simp at hb
  ·intro n b hb; simp at hb
  ·intro n m b c k hb; simp at hb
  ·intro n m b c hb; simp at hb
 have hrl:Rel ⟨xs,[],[],[],Za ps vs⟩ ⟨w,fun _=>False⟩ ⟨Z7m ps F.ntmps,[],[],Zj ps,0,0,0,q.gl,hsE (Z4b ps) (Zb 0 (Zj ps)),0⟩ { tmps:=vs.toArray++Array.replicate (F.ntmps - vs.toArray.size) undef,defers:=[] } w:=by
  refine ⟨hrep,?_,rfl⟩
  apply Array.ext'
  have hl:((Zf9 Zt8 0 ps (Zb 0 (Zj ps))).map SV.w).length=vs.length:=by rw [← hden]; simp
  rw [Array.toList_append,List.toList_toArray]
  show vs++(Array.replicate (F.ntmps - vs.toArray.size) undef).toList=((((Zf9 Zt8 0 ps (Zb 0 (Zj ps))).map SV.w)++List.replicate (F.ntmps - ((Zf9 Zt8 0 ps (Zb 0 (Zj ps))).map SV.w).length) Z5).map (SV.den ⟨xs,[],[],[],Za ps vs⟩))
  rw [List.map_append,hden,hl]
  simp [Z8v]
 have hlen:q.hs0.length=(Za ps vs).length:=hql.trans r1.symm
 have hA:Zq6 Xc q.tel q.ks w q.hs0 (Za ps vs) xs ⟨xs,[],[],[],Za ps vs⟩ ⟨w,fun _=>False⟩ none:=by
  refine ⟨⟨[],by simp⟩,⟨[],by simp⟩,Zt.refl _,fun k hk=>?_,fun i ks c hi=>?_,rfl⟩
  ·rcases hk with hk | hk
   ·exact hk
   ·exact hk.elim
  ·rw [hq] at hi
   refine Z8f (fun _ _ _ h hx=>⟨h,fun hne k hk hX=>?_⟩) (harg i ks c hi)
   rcases hX with (hX | hX) | hX
   ·exact hX
   ·exact hx hne k hk hX
   ·simp [Zi2,Z8] at hX
 have hhs0:∀ i ks c,q.hs0[i]?=some (ks,c)→i < (Za ps vs).length∧c.sc xs.length=true:=fun i ks c hi=>⟨by rw [← hlen]; exact (List.getElem?_eq_some_iff.1 hi).1,by rw [hxl]; exact List.all_eq_true.1 hqs _ (List.mem_of_getElem? hi)⟩
 rw [T.sat_R [] (Za ps vs),hlen] at hs
 refine calls_of_wp hF hb ?_
 refine wp_mono (Zij _ (Zza hXc hg0 hG (Z90 hm (lp:=lp) hG fuel) hhs0 hlen hrel body _ none _ [] _ _ _ w hrl hA rfl rfl rfl hs)) ?_
 rintro x a' w' ⟨out,rfl,s',acc',e',W',more,hle,hrel',A',hf,hfr,hd,hsat⟩
 have hfin:(∀ id,out ≠ .exit id)∧∃ v es,Zfa P F s'=some v∧fin acc' s' v=some es∧Ψ (es.map (E.den e'.R e'.r)):=by
  have key:(match Zfa P F s' with | some v=>(match fin acc' s' v with | some es=>T.ret es | none=>.fail) | none=>.fail:T).sat Γ e'.R Ψ ([]++more) e'.r→∃ v es,Zfa P F s'=some v∧fin acc' s' v=some es∧Ψ (es.map (E.den e'.R e'.r)):=by
   intro hs
   split at hs
   ·rename_i v hv
    split at hs
    ·rename_i es hes
     exact ⟨v,es,hv,hes,hs⟩
    ·exact hs.elim
   ·exact hs.elim
  cases out with
  | norm=>exact ⟨fun _ h=>(by cases h),key hsat⟩
  | exit id=>exact hsat.elim
  | ret=>exact ⟨fun _ h=>(by cases h),key hsat⟩
 obtain ⟨hne,v,es,h1,h2,h3⟩:=hfin
 have hb0:Zt ⟨w,fun _=>False⟩ w':=A'.below.trans hrel'.rep.below fun k hk=>.inl (A'.may k hk)
 have hL:∃ e W s acc v' es,Left Xc q fin Ψ (Za ps vs) xs w (.returned (v.den e')) w' e W s acc v' es:=⟨e',W',s',acc',v,es,rfl,hrel'.rep,A'.R,A'.r,A'.may,hb0.below,A',h2,h3⟩
 cases out with
 | norm=>exact ⟨hrel'.defs,_,Zb4 hrel' h1,hL⟩
 | exit id=>exact absurd rfl (hne id)
 | ret=>exact ⟨hrel'.defs,_,Zb4 hrel' h1,hL⟩
theorem Z15f {w:World} (hXc:∀ k,Xc k→k < w.heap.size) (hg0:GlZ q.gl w Xc) (hm:P.follows .mixedOrders=true) (hG:Gok P Γ) (hrel:∀ aZ,Zch q.ow aZ→Zi7 Γ q.g aZ) {id0:Nat} {fin:Option (Nat × E)→St→SV→Option (List E)} {lp:St→Code→Option Zdy} {lv:List (Nat × List (Option Iv))} {outs:List Inf} {vv:List (Option Iv)} {fuel:Nat} {fn:FuncId} {ps:List Sh} {t:TX} (ho:Zi Γ outs)
  (ht:Z13 (Zs lv outs [] vv (Z1am P lp Γ q id0 fin fuel fn ps))=t) {xs:List Int} {vs:List Value} (hx:Z76 (fun _ ks u n=>Z2m w Xc (.s 0 ks) u n) ps vs xs) (hv:Zr vv xs) (hs:t.sat Γ [] Ψ [] xs) :
  Calls P fn vs.toArray w fun x w'=>∃ e W s acc v es,Left Xc q fin Ψ (Za ps vs) xs w x w' e W s acc v es:=by
 subst ht
 exact Zsy hXc hg0 hm hG hrel hx (Za9 ho _ [] vv [] xs Zaa hv (Zgj _ _ _ hs))
theorem Left.sl {fin:Option (Nat × E)→St→SV→Option (List E)} {R0:Fo} {r0:List Int} {w w':World} {x:Ending} {e:Env} {W:Bas} {s:St} {i:Nat} {c:E} {v:SV} {es:List E} (L:Left Xc q fin Ψ R0 r0 w x w' e W s (some (i,c)) v es) (hXc:∀ k,Xc k→k < w.heap.size) :
  Z2m w' Xc (.s 0 q.ks) (Zi2 e (some (i,c))) (c.den e.R e.r):=by
 obtain ⟨a1,a2,a3,a4,a5,a6⟩:=L.accI.acc
 have hrow:=a4.same fun k hk=>L.rep.below.block k (a5 k hk).1
 have hg:w'.grownBy w' (Z8 (Zi2 e (some (i,c)))):=⟨rfl,rfl,rfl,Nat.le_refl _,fun _ _ _=>rfl⟩
 rw [Z2m]
 refine ⟨⟨hrow.sl,fun hne k hk hX=>?_⟩,fun z hz=>Zhr (X2:=Xc) L.rep.below hg (fun k hk=>.inr (.inl hk)) (a6 z hz)⟩
 have h1:=(a5 k (hrow.slBlk hne hk)).2
 have h2:=hXc k hX
 omega
end
end Go.Sx
namespace Go.Sx
open Go.RowKit
def amSt (m:Nat) (s:St):Bool:=s.fr.all (SV.am m) && s.mem.all (fun b=>b.cells.all (SC.am m))
theorem Rep.addSl {e:Env} {W0:Bas} {s:St} {w w':World} (h:Rep e W0 s w) (hb:Below w.heap.size w w') (hsc:s.sc=true) (hm:s.hs.length=e.R.length) (ham:amSt e.R.length s=true) {rows:List Row} (hl:rows.length=s.rows.length)
  (hk:∀ (j:Nat) (b:Row),rows[j]?=some b→b.live=true→s.rows[j]?=some b) {ks:List K} {u:Value} {cE:E} {ys:List Int} (hu:slV u=u)
  (hsl:SlX ⟨w',Z15y e { s with rows:=rows }⟩ ks u (cE.den (e.R++[u]) (e.r++ys))) :
  Rep { e with r:=e.r++ys,R:=e.R++[u] } ⟨w',Z15y e { s with rows:=rows }⟩ { s with rows:=rows,nv:=s.nv + ys.length,hs:=s.hs++[(ks,cE)] } w'∧(∀ v ∈ s.fr,v.den { e with r:=e.r++ys,R:=e.R++[u] }=v.den e)∧Zt W0 w' ∧
   ∀ i,(Bas.mk w' (Z15y e { s with rows:=rows })).may i→W0.may i:=by
 have h0:=((h.kill hl hk).grown hb)
 have h1:=h0.rebase
 obtain ⟨W1,hW1⟩:∃ W1:Bas,W1=⟨w',Z15y e { s with rows:=rows }⟩:=⟨_,rfl⟩
 obtain ⟨e2,he2⟩:∃ e2:Env,e2={ e with r:=e.r++ys,R:=e.R++[u] }:=⟨_,rfl⟩
 have hle2:LeA e e2:=⟨ys,[],[],[],[u],by rw [he2],by simp [he2],by simp [he2],by simp [he2],by rw [he2]⟩
 have er:e2.r=e.r++ys:=by rw [he2]
 have eR:e2.R=e.R++[u]:=by rw [he2]
 have eβ:e2.β=e.β:=by rw [he2]
 have eσ:e2.σ=e.σ:=by rw [he2]
 have eω:e2.ω=e.ω:=by rw [he2]
 rw [← he2]
 rw [← hW1] at h1 hsl ⊢
 have hmay:∀ i,W1.may i→W0.may i:=by
  rw [hW1]
  rintro i (hi | hi)
  ·exact .inl (Nat.le_trans h0.below.size hi)
  ·exact Zku h0 hi
 simp only [amSt,Z1h3] at ham
 obtain ⟨hamf,hamm⟩:=ham
 have hsc':=hsc
 simp only [St.sc,Z1h3] at hsc'
 obtain ⟨⟨scf,scm⟩,scr,sch⟩:=hsc'
 rw [← h.nv,← h.nb,← h.ng] at scf scm
 rw [← h.nx] at scf
 rw [← h.nv] at scr sch
 have hgo:∀ n,(G.o n).val e2=(G.o n).val e:=fun n=>by simp only [G.val,eσ]
 refine ⟨⟨h1.below,?_,?_,?_,?_,?_,?_,?_,?_,?_,?_,?_,?_,?_⟩,fun v hv=>SV.den_up hle2 (List.all_eq_true.1 hamf v hv) (List.all_eq_true.1 scf v hv),h0.below,hmay⟩
 ·rw [eβ]; exact h1.nb
 ·rw [eσ]; exact h1.ng
 ·rw [er,List.length_append,h.nv]
 ·rw [eω]; exact h1.nx
 ·intro n b g1 g2
  rw [eβ,h1.blk n b g1 g2]
  have:b.cells.map (SC.den e2)=b.cells.map (SC.den e):=List.map_congr_left fun cc hcc=>SC.den_up hle2 (List.all_eq_true.1 (List.all_eq_true.1 hamm b (List.mem_of_getElem? g1)) cc hcc) (List.all_eq_true.1 (List.all_eq_true.1 scm b (List.mem_of_getElem? g1)) cc hcc)
  rw [this]
 ·intro n b g1 g2 g3
  rw [eβ]
  exact h1.own n b g1 g2 g3
 ·intro n m b c g1 g2 g3 g4 g5
  rw [eβ] at g5
  exact h1.sep n m b c g1 g2 g3 g4 g5
 ·intro n b g1 g2
  have hcs:=List.all_eq_true.1 scr b (List.mem_of_getElem? (hk n b g1 g2))
  rw [hgo,E.den_A hle2 hcs]
  exact h1.row n b g1 g2
 ·intro n b g1 g2 g3 k g4
  rw [hgo] at g4
  exact h1.rown n b g1 g2 g3 k g4
 ·intro n m b c k g1 g2 g3 g4 g5 g6
  rw [hgo] at g5 g6
  exact h1.rsep n m b c k g1 g2 g3 g4 g5 g6
 ·intro n m b c g1 g2 g3 g4
  rw [hgo,eβ]
  exact h1.brs n m b c g1 g2 g3 g4
 ·exact h1.gl
 ·intro j ks' c' hj
  have hj:(s.hs++[(ks,cE)])[j]?=some (ks',c'):=hj
  rcases Nat.lt_or_ge j s.hs.length with hlt | hge
  ·rw [List.getElem?_append_left hlt] at hj
   have hcs:=List.all_eq_true.1 sch _ (List.mem_of_getElem? hj)
   have e1:(G.a j).val e2=(G.a j).val e:=by
    simp only [G.val,eR]
    rw [Z1u undef (by rw [← hm]; exact hlt)]
   rw [e1,E.den_A hle2 hcs]
   exact h1.arg j ks' c' hj
  ·rw [List.getElem?_append_right hge] at hj
   have hj0:j - s.hs.length=0:=by
    have:=(List.getElem?_eq_some_iff.1 hj).1
    simp only [List.length_cons,List.length_nil] at this
    omega
   rw [hj0] at hj
   simp only [Z1gq,Option.some.injEq,Prod.mk.injEq] at hj
   obtain ⟨rfl,rfl⟩:=hj
   have hjm:j=e.R.length:=by omega
   have e1:(G.a j).val e2=u:=by
    simp only [G.val,eR,hjm]
    rw [show (e.R++[u]).getD e.R.length undef=u by simp [List.getD]]
    exact hu
   rw [e1,eR,er]
   exact hsl
end Go.Sx
namespace Go.Proofs.YtgcoidbaoigkeaaGreatDoor.fix
open Go.RowKit Go.Sx
noncomputable def s_ac0:Sum:=mkP [] 99999 [] [] (fun l=>l ≠ []) (fun _=>[])
def Zzb:Inf:=⟨[some ⟨1,0⟩],fun _=>[]⟩
def Zmc:List Bool:=List.replicate 18 false
noncomputable def s_ac1:Sum:=mkP [] 99999 [] [] (Zch Zmc) (fun _=>[])
noncomputable def Zjw:List Sum:=[s_ac0,s_ac1]
def Z1cw:List Inf:=[Zzb,Zzb]
def un_ (n:Nat):List Fk:=List.replicate n .un
def q_only:Ac:=⟨85,Z39,[(Z39,.v 0),(Z7e,.v 1),([.i .i64],.v 2)],Zmc,0,[.un,.keep,.keep,.un,.keep,.keep,.num .i64]++un_ 28,(2,0),[]⟩
def isG (i:Nat):SC→Bool
 | .go (.a j)=>j == i
 | _=>false
def Zmd:Option (Nat × E)→St→SV→Option (List E)
 | some (i,c),s,.w (.a [a,b])=>if isG i a && isG 1 b then some [c] else none
 | _,_,_=>none
end Go.Proofs.YtgcoidbaoigkeaaGreatDoor.fix
namespace Go.Proofs.YtgcoidbaoigkeaaGreatDoor.fix
open Go.RowKit Go.Sx
theorem Zwi {P:Program} {s:Sum} (hp:s.ps=[]) (hr:s.rs=[]) (hpre:¬ s.pre []):s.ok P:=by
 refine ⟨fun sh h=>?_,fun xs vs w _ hx hpr=>?_⟩
 ·rw [hp,hr] at h
  cases h
 ·rw [hp] at hx
  obtain ⟨rfl,rfl⟩:=hx
  exact absurd hpr hpre
theorem ok_ac0:s_ac0.ok Tryz.prog:=Zwi rfl rfl (fun h=>h rfl)
theorem Zzc {ow:List Bool}:¬ Zch ow []:=by
 rintro ⟨c,es,x,zs,h,_⟩
 cases h
theorem ok_ac1:s_ac1.ok Tryz.prog:=Zwi rfl rfl Zzc
theorem g_only:Gok Tryz.prog Zjw:=more ok_ac0 (one ok_ac1)
theorem Z1an:∀ l,Zch Zmc l→Zi7 Zjw 0 l:=fun l h=>h
theorem Zpv:∀ {n:Nat} {es zs:List Int},zOK (List.replicate n false) es zs→zs=es
 | 0,[],[],_=>rfl
 | 0,[],_::_,h=>h.elim
 | 0,_::_,[],h=>h.elim
 | 0,_::_,_::_,h=>h.elim
 | n + 1,[],[],h=>h.elim
 | n + 1,[],_::_,h=>h.elim
 | n + 1,_::_,[],h=>h.elim
 | n + 1,e::es,z::zs,h=>by
  obtain ⟨h1,h2⟩:=h
  rw [if_neg (by decide)] at h1
  rw [h1,Zpv h2]
theorem Z1gh {b:Int} (h:dec b ≠ []):cod (dec b)=b:=by
 unfold dec at h ⊢
 split
 ·rename_i hex
  exact Classical.choose_spec hex
 ·rename_i hex
  rw [dif_neg hex] at h
  exact absurd rfl h
theorem list18 {l:List Int} (h:l.length=18):l=[l.getD 0 0,l.getD 1 0,l.getD 2 0,l.getD 3 0,l.getD 4 0,l.getD 5 0,l.getD 6 0,l.getD 7 0,l.getD 8 0,l.getD 9 0,l.getD 10 0,l.getD 11 0,l.getD 12 0,l.getD 13 0,l.getD 14 0,l.getD 15 0,l.getD 16 0,l.getD 17 0]:=by
 match l,h with
 | [_,_,_,_,_,_,_,_,_,_,_,_,_,_,_,_,_,_],_=>rfl
theorem Z1gi {b:Int} (h:(dec b).length=18):cod [co b 0,co b 1,co b 2,co b 3,co b 4,co b 5,co b 6,co b 7,co b 8,co b 9,co b 10,co b 11,co b 12,co b 13,co b 14,co b 15,co b 16,co b 17]=b:=by
 have h1:=list18 h
 have h2:=Z1gh (b:=b) (by intro h0; rw [h0] at h; cases h)
 rw [h1] at h2
 exact h2
theorem Zpw {c x:Int} {es:List Int} (h:Zch Zmc (c::(es++[x]))):dec x=dec c++[cod es]:=by
 obtain ⟨c',es',x',zs,h1,h2,h3⟩:=h
 simp only [List.cons.injEq] at h1
 obtain ⟨rfl,h1⟩:=h1
 obtain ⟨h4,h5⟩:=List.append_inj' h1 rfl
 simp only [List.cons.injEq,and_true] at h5
 subst h4 h5
 rw [h2,Zpv h3]
def Z15g:TX:=(.loop 2 [none,none] [(.c 0),(.c 0)] (.ite (.le (.ln (.v 0)) (.v 3)) (.ret [(.v 4)])
(.asrt (.le (.c 0) (.v 3)) (.loop 2 [none,none] [(.c 0),(.c 0)] (.ite (.lt (.v 6) (.ln (.v 2))) (.asrt (.le (.c 0) (.v 6)) (.ite (.eq (.l2 .at (.v 2) (.v 6)) (.v 3)) (.asrt (.le (.ln (.v 4)) (.c 999999)) (.any 1 0 [(.v 4),(.l2 .at (.l2 .at (.v 0) (.v 3)) (.c 0)),(.l2 .at (.l2 .at (.v 0) (.v 3)) (.c 1)),(.l2 .at (.l2 .at (.v 0) (.v 3)) (.c 2)),(.l2 .at (.l2 .at (.v 0) (.v 3)) (.c 3)),(.l2 .at (.l2 .at (.v 0) (.v 3)) (.c 4)),(.l2 .at (.l2 .at (.v 0) (.v 3)) (.c 5)),(.l2 .at (.l2 .at (.v 0) (.v 3)) (.c 6)),(.l2 .at (.l2 .at (.v 0) (.v 3)) (.c 7)),(.l2 .at (.l2 .at (.v 0) (.v 3)) (.c 8)),(.l2 .at (.l2 .at (.v 0) (.v 3)) (.c 9)),(.l2 .at (.l2 .at (.v 0) (.v 3)) (.c 10)),(.l2 .at (.l2 .at (.v 0) (.v 3)) (.c 11)),(.l2 .at (.l2 .at (.v 0) (.v 3)) (.c 12)),(.l2 .at (.l2 .at (.v 0) (.v 3)) (.c 13)),(.l2 .at (.l2 .at (.v 0) (.v 3)) (.c 14)),(.l2 .at (.l2 .at (.v 0) (.v 3)) (.c 15)),(.l2 .at (.l2 .at (.v 0) (.v 3)) (.c 16)),(.l2 .at (.l2 .at (.v 0) (.v 3)) (.c 17))] (.back 0 [(.wr .i64 (.add (.v 3) (.c 1))),(.v 7)])))
(.back 1 [(.v 5),(.wr .i64 (.add (.v 6) (.c 1)))])))
(.asrt (.le (.ln (.v 4)) (.c 999999)) (.any 1 0 [(.v 4),(.l2 .at (.l2 .at (.v 0) (.v 3)) (.c 0)),(.l2 .at (.l2 .at (.v 0) (.v 3)) (.c 1)),(.c 0),(.l2 .at (.l2 .at (.v 0) (.v 3)) (.c 3)),(.l2 .at (.l2 .at (.v 0) (.v 3)) (.c 4)),(.l2 .at (.l2 .at (.v 0) (.v 3)) (.c 5)),(.l2 .at (.l2 .at (.v 0) (.v 3)) (.c 6)),(.l2 .at (.l2 .at (.v 0) (.v 3)) (.c 7)),(.l2 .at (.l2 .at (.v 0) (.v 3)) (.c 8)),(.l2 .at (.l2 .at (.v 0) (.v 3)) (.c 9)),(.l2 .at (.l2 .at (.v 0) (.v 3)) (.c 10)),(.l2 .at (.l2 .at (.v 0) (.v 3)) (.c 11)),(.l2 .at (.l2 .at (.v 0) (.v 3)) (.c 12)),(.l2 .at (.l2 .at (.v 0) (.v 3)) (.c 13)),(.l2 .at (.l2 .at (.v 0) (.v 3)) (.c 14)),(.l2 .at (.l2 .at (.v 0) (.v 3)) (.c 15)),(.l2 .at (.l2 .at (.v 0) (.v 3)) (.c 16)),(.l2 .at (.l2 .at (.v 0) (.v 3)) (.c 17))] (.back 0 [(.wr .i64 (.add (.v 3) (.c 1))),(.v 7)]))))))))
theorem Z15h:Z13 (Zs [] Z1cw [] [none,none,none] (Z1am Tryz.prog (Zh5 Tryz.prog [(2,6)]) Zjw q_only 8 Zmd 1000 13 [Sho,Is]))=Z15g:=by kernel_rfl
theorem Z1ao (cI cT cL:Int) (hI:∀ b ∈ dec cI,(dec b).length=18) (hl:(dec cI).length≤999999) (hL:(dec cL).length≤1000000) :
  Z15g.sat Zjw [] (fun ys=>∃ o,ys=[o]∧dec o=Zam (dec cI) (dec cL)) [] [cI,cT,cL]:=by
 unfold Z15g Zjw
 simp only [TX.sat,XB.prop]
 simp only [X.den,L2.den,TX.sat,XB.prop,X.den,Z1gw,Z1gx,Z1gq,Z1gr,Z1gu,Z1gv,Z1gs,Z1gt,mkS,mkP,and_true,true_and,Z1h1,Z1h2,not_or,not_and,Z1gy,ne_eq,Z1gz,Z1h0]
 obtain ⟨I,hIe⟩:∃ I,I=dec cI:=⟨_,rfl⟩
 obtain ⟨L,hLe⟩:∃ L,L=dec cL:=⟨_,rfl⟩
 rw [← hIe] at hI hl ⊢
 rw [← hLe] at hL ⊢
 refine ⟨fun xs=>∃ i:Nat,xs.getD 0 0=(i:Int)∧i≤I.length∧dec (xs.getD 1 0)=Zpo I L i,fun xs=>I.length - (xs.getD 0 0).toNat,fun xs hx _=>Zy (n:=2) hx,⟨0,rfl,Nat.zero_le _,by rw [show (([0,0]:List Int).getD 1 0)=0 from rfl,Z22]; rfl⟩,?_⟩
 intro xs hx hA
 obtain ⟨d0,o,rfl⟩:=Zdu hx
 obtain ⟨i,hi,hil,ho⟩:=hA
 simp only [TX.sat,XB.prop,X.den,Z1gw,Z1gx,Z1gq,Z1gr,Z1gu,Z1gv,Z1gs,Z1gt,mkS,mkP,and_true,true_and,Z1h1,Z1h2,not_or,not_and,Z1gy,ne_eq,Z1gz,Z1h0] at hi ho ⊢
 subst hi
 have hcoe:∀ x j,(dec x).getD j 0=co x j:=fun _ _=>rfl
 have hw:∀ {n:Nat},n < 1000000→IntKind.i64.wrap ((n:Int) + 1)=((n + 1:Nat):Int):=fun hn=>by rw [Zo (by omega) (by omega)]; omega
 have hol:(dec o).length=i:=by rw [ho,Z62]
 refine ⟨fun hge=>?_,fun hlt=>?_⟩
 ·have:i=I.length:=by omega
  subst this
  exact ⟨o,rfl,ho⟩
 have hlt':i < I.length:=by omega
 have hb18:=hI _ (Zx hlt')
 have hstep:∀ (x:Int) (b:Int),dec x=dec o++[b]→b=Ze1 L i (I.getD i 0)→dec x=Zpo I L (i + 1):=fun x b h1 h2=>by
  rw [h1,ho,h2]
  rfl
 refine ⟨by omega,fun xs=>∃ m:Nat,xs.getD 1 0=(m:Int)∧m≤L.length∧∀ j,j < m→L.getD j 0 ≠ (i:Int),fun xs=>L.length - (xs.getD 1 0).toNat,fun xs hx _=>Zy (n:=2) hx,⟨0,rfl,Nat.zero_le _,fun j hj=>by omega⟩,?_⟩
 intro xs hx hA
 obtain ⟨d1,k,rfl⟩:=Zdu hx
 obtain ⟨m,hm,hml,hno⟩:=hA
 simp only [TX.sat,XB.prop,X.den,Z1gw,Z1gx,Z1gq,Z1gr,Z1gu,Z1gv,Z1gs,Z1gt,mkS,mkP,and_true,true_and,Z1h1,Z1h2,not_or,not_and,Z1gy,ne_eq,Z1gz,Z1h0] at hm ⊢
 subst hm
 simp only [Int.toNat_natCast]
 refine ⟨fun hm'=>⟨by omega,fun heq=>⟨by omega,?_⟩,fun hne=>?_⟩,fun hm'=>⟨by omega,?_⟩⟩
 ·-- it is among them
  refine ⟨List.cons_ne_nil _ _,fun ys hy hr=>?_⟩
  obtain ⟨x,rfl⟩:=len1 hy
  have hx:=Zpw (es:=[co (I.getD i 0) 0,co (I.getD i 0) 1,co (I.getD i 0) 2,co (I.getD i 0) 3,co (I.getD i 0) 4,co (I.getD i 0) 5,co (I.getD i 0) 6,co (I.getD i 0) 7,co (I.getD i 0) 8,co (I.getD i 0) 9,co (I.getD i 0) 10,co (I.getD i 0) 11,co (I.getD i 0) 12,co (I.getD i 0) 13,co (I.getD i 0) 14,co (I.getD i 0) 15,co (I.getD i 0) 16,co (I.getD i 0) 17]) hr
  rw [Z1gi hb18] at hx
  have hmem:(i:Int) ∈ L:=by
   rw [← heq]
   exact Zx (by omega)
  have:=hstep x _ hx (by unfold Ze1; rw [if_pos hmem])
  simp only [TX.sat,XB.prop,X.den,Z1gw,Z1gx,Z1gq,Z1gr,Z1gu,Z1gv,Z1gs,Z1gt,mkS,mkP,and_true,true_and,Z1h1,Z1h2,not_or,not_and,Z1gy,ne_eq,Z1gz,Z1h0]
  rw [hw (by omega)]
  refine ⟨⟨i + 1,rfl,by omega,this⟩,by omega⟩
 ·rw [hw (by omega)]
  refine ⟨⟨m + 1,rfl,by omega,fun j hj=>?_⟩,by omega⟩
  by_cases hjm:j=m
  ·subst hjm
   exact hne
  ·exact hno j (by omega)
 ·refine ⟨List.cons_ne_nil _ _,fun ys hy hr=>?_⟩
  obtain ⟨x,rfl⟩:=len1 hy
  have hx:=Zpw (es:=[co (I.getD i 0) 0,co (I.getD i 0) 1,0,co (I.getD i 0) 3,co (I.getD i 0) 4,co (I.getD i 0) 5,co (I.getD i 0) 6,co (I.getD i 0) 7,co (I.getD i 0) 8,co (I.getD i 0) 9,co (I.getD i 0) 10,co (I.getD i 0) 11,co (I.getD i 0) 12,co (I.getD i 0) 13,co (I.getD i 0) 14,co (I.getD i 0) 15,co (I.getD i 0) 16,co (I.getD i 0) 17]) hr
  have hmem:¬ (i:Int) ∈ L:=fun hin=>by
   obtain ⟨j,hj,e⟩:=Zvy hin
   exact hno j (by omega) e.symm
  have:=hstep x _ hx (by unfold Ze1; rw [if_neg hmem]; rfl)
  simp only [TX.sat,XB.prop,X.den,Z1gw,Z1gx,Z1gq,Z1gr,Z1gu,Z1gv,Z1gs,Z1gt,mkS,mkP,and_true,true_and,Z1h1,Z1h2,not_or,not_and,Z1gy,ne_eq,Z1gz,Z1h0]
  rw [hw (by omega)]
  refine ⟨⟨i + 1,rfl,by omega,this⟩,by omega⟩
end Go.Proofs.YtgcoidbaoigkeaaGreatDoor.fix
namespace Go.Proofs.YtgcoidbaoigkeaaGreatDoor.fix
open Go.RowKit Go.Sx
theorem Zme {s:Sum} (hsem:∀ xs,s.sem xs=[]):Z18 s Zzb :=
 ⟨fun xs h=>(Z14 xs h).elim,fun vs xs h hp=>by rw [hsem]; exact ⟨rfl,fun i=>by simp [Zzb,Zh]⟩⟩
theorem o_only:Zi Zjw Z1cw:=Z3 (Zme fun _=>rfl) (Z3 (Zme fun _=>rfl) Z6)
def Z1ap (l:List Int):Prop:=∃ cI cT cL,l=[cI,cT,cL]∧(∀ b ∈ dec cI,(dec b).length=18)∧(dec cI).length≤999999∧(dec cL).length≤1000000
def Zwj (l:List Int):Prop:=∃ cI cT cL x,l=[cI,cT,cL,x]∧dec x=Zam (dec cI) (dec cL)
noncomputable def Zpx:Sum:=mkP [] 99999 [] [] Z1ap (fun _=>[])
noncomputable def Zwk:Sum:=mkP [] 99999 [] [] Zwj (fun _=>[])
def Z1cx:Inf:=Zzb
def Z1cy:Inf:=Zzb
theorem Z1gj:Zpx.ok Tryz.prog:=Zwi rfl rfl (by rintro ⟨a,b,c,h,_⟩; cases h)
theorem Z1gk:Zwk.ok Tryz.prog:=Zwi rfl rfl (by rintro ⟨a,b,c,d,h,_⟩; cases h)
theorem Z1aq:Z18 Zpx Z1cx:=Zme fun _=>rfl
theorem Z1ar:Z18 Zwk Z1cy:=Zme fun _=>rfl
def onlE (m0:Nat) (s:St) (i0 i1 n:Nat):Option (E × E × Row):=match s.hs[i0]?,s.hs[i1]?,s.rows[n]? with
 | some (kI,cI),some (kT,cT),some b=>if Z51 kI Z39 && (Z51 kT Z7e && (b.live && (Z3d b.ks [.i .i64] && (decide (s.hs.length=m0) && amSt m0 s)))) then some (cI,cT,b) else none
 | _,_,_=>none
def Zwl (m0:Nat):RbF:=fun s args=>match args with
 | [.w (.a [.go (.a i0),.go (.a i1)]),.w (.o (.go (.o n)))]=>(match onlE m0 s i0 i1 n with
  | some (cI,cT,b)=>some ([cI,cT,b.c],fun nv=>({ s with rows:=s.rows.set n { b with live:=false },nv:=s.nv + 1,hs:=s.hs++[(Z39,.v s.nv)] },.w (.a [.go (.a m0),.go (.a i1)])))
  | none=>none)
 | _=>none
theorem Zwm {l:List Row} {n:Nat} {b:Row}:∀ (j:Nat) (c:Row),(l.set n { b with live:=false })[j]?=some c→c.live=true→l[j]?=some c∧j ≠ n:=by
 intro j c hj hl
 rcases Z1a hj with ⟨rfl,rfl,_⟩ | ⟨hne,hj'⟩
 ·cases hl
 ·exact ⟨hj',hne⟩
theorem Zsz {acc:Option (Nat × E)} {s:St} {v:SV} {es:List E} (h:Zmd acc s v=some es):∃ i c,acc=some (i,c)∧v=.w (.a [.go (.a i),.go (.a 1)])∧es=[c]:=by
 unfold Zmd at h
 split at h
 ·rename_i i c a b
  split at h
  ·rename_i hc
   simp only [Z1h3] at hc
   have key:∀ {j:Nat} {x:SC},isG j x=true→x=.go (.a j):=by
    intro j x hx
    unfold isG at hx
    split at hx
    ·rename_i k
     have:k=j:=by simpa using hx
     rw [this]
    ·cases hx
   simp only [Option.some.injEq] at h
   exact ⟨i,c,rfl,by rw [key hc.1,key hc.2],h.symm⟩
  ·cases h
 ·cases h
theorem Z1as {Γ:List Sum} {g m0:Nat} (h0:Γ[g]?=some Zpx) (h1:Γ[g + 1]?=some Zwk):RbM Tryz.prog Γ 1 g m0 13 (Zwl m0):=by
 intro W0 e s w args es kk sm h hsc hasc hR hf hsm hpre
 rw [h0] at hsm
 simp only [Option.some.injEq] at hsm
 subst hsm
 unfold Zwl at hf
 split at hf
 case h_2=>cases hf
 rename_i i0 i1 n
 split at hf
 case h_2=>cases hf
 rename_i cI cT b he
 simp only [Option.some.injEq,Prod.mk.injEq] at hf
 obtain ⟨rfl,rfl⟩:=hf
 unfold onlE at he
 split at he
 case h_2=>cases he
 rename_i kI cI' kT cT' b' hI hT hb
 split at he
 case isFalse=>cases he
 rename_i hc
 simp only [Option.some.injEq,Prod.mk.injEq] at he
 obtain ⟨rfl,rfl,rfl⟩:=he
 simp only [Z1h3,Z1h4] at hc
 obtain ⟨kd1,kd2,hbl,hbk,hhl,ham⟩:=hc
 have kd1:=Z44 kd1
 have kd2:=Z44 kd2
 have hbp:=(Z4n hbk).1
 have hbk:=Z2a hbk
 subst kd1 kd2
 subst hR
 have hlen:(s.rows.set n { b' with live:=false }).length=s.rows.length:=by simp
 have hk:∀ (j:Nat) (c:Row),(s.rows.set n { b' with live:=false })[j]?=some c→c.live=true→s.rows[j]?=some c:=fun j c h1 h2=>(Zwm j c h1 h2).1
 have hr1:=(h.kill hlen hk).rebase
 obtain ⟨Xc,hXe⟩:∃ Xc,Xc=Z15y e { s with rows:=s.rows.set n { b' with live:=false } }:=⟨_,rfl⟩
 rw [← hXe] at hr1
 have hXc:∀ k,Xc k→k < w.heap.size:=by
  rw [hXe]
  rintro k (⟨m,c,g1,g2,g3,rfl⟩ | ⟨m,c,g1,g2,g3,g4⟩)
  ·exact Z1r (h.blk m c g1 g2)
  ·exact (h.row m c (hk m c g1 g2) g2).blk_lt g4
 have hrow:=h.row n b' hb hbl
 have hL:Z2m w Xc (.s 0 [.i .i64]) ((G.o n).val e) (b'.c.den e.R e.r):=by
  rw [Z2m]
  rw [hbk] at hrow
  refine ⟨⟨hrow.sl,fun hne k hkk hX=>?_⟩,fun _ _=>Z64.plain (by decide)⟩
  have hkb:=hrow.slBlk hne hkk
  rw [hXe] at hX
  rcases hX with ⟨m,c,g1,g2,g3,g4⟩ | ⟨m,c,g1,g2,g3,g4⟩
  ·exact h.brs m n c b' g1 hb g2 hbl (by rw [g4]; exact hkb)
  ·obtain ⟨g5,g6⟩:=Zwm m c g1 g2
   exact g6 (h.rsep m n c b' k g5 hb g2 hbl g4 hkb)
 have hx:Z76 (fun _ ks u n=>Z2m w Xc (.s 0 ks) u n) [Sho,Is] ([SV.w (.a [.go (.a i0),.go (.a i1)]),SV.w (.o (.go (.o n)))].map (SV.den e)) [cI'.den e.R e.r,cT'.den e.R e.r,b'.c.den e.R e.r]:=by
  refine ⟨_,_,[cI'.den e.R e.r,cT'.den e.R e.r],[b'.c.den e.R e.r],rfl,rfl,?_,_,_,[b'.c.den e.R e.r],[],rfl,rfl,?_,rfl,rfl⟩
  ·exact ⟨[(G.a i0).val e,(G.a i1).val e],rfl,hr1.arg i0 _ _ hI,hr1.arg i1 _ _ hT,trivial⟩
  ·exact ⟨hL,trivial⟩
 obtain ⟨pI,pT,pL,hpe,p1,p2,p3⟩:=hpre
 simp only [Z1gw,Z1gx,List.cons.injEq,and_true] at hpe
 obtain ⟨rfl,rfl,rfl⟩:=hpe
 have hs:=Z1ao (cI'.den e.R e.r) (cT'.den e.R e.r) (b'.c.den e.R e.r) p1 p2 p3
 have hrun:=Z15f hXc ⟨fun p hp=>(by cases hp),fun p hp=>(by cases hp)⟩ facts.mixed g_only Z1an o_only Z15h hx (Zy (n:=3) rfl) hs
 refine hrun.mono ?_
 rintro x w' ⟨ec,Wc,sc,acc,v,es',L⟩
 obtain ⟨i,c,rfl,rfl,rfl⟩:=Zsz L.fin
 obtain ⟨o,ho,hod⟩:=L.post
 simp only [Z1gw,Z1gx,List.cons.injEq,and_true] at ho
 have hsl:=L.sl hXc
 obtain ⟨u,hu⟩:∃ u,u=Zi2 ec (some (i,c)):=⟨_,rfl⟩
 rw [← hu,ho] at hsl
 have husl:slV u=u:=by rw [hu]; exact Zwh _ _
 have hcE:(E.v s.nv).den (e.R++[u]) (e.r++[o])=o:=by
  simp only [E.den,List.getD]
  rw [List.getElem?_append_right (by rw [h.nv]; exact Nat.le_refl _),h.nv,Nat.sub_self]
  rfl
 obtain ⟨q1,q2,q3,q4⟩:=h.addSl (ks:=Z39) (u:=u) (cE:=.v s.nv) (ys:=[o]) L.below hsc hhl ham hlen hk husl (by
  rw [hcE]
  unfold SlX
  rw [← hXe]
  exact hsl)
 refine ⟨[o],_,_,rfl,?_,?_,rfl,q1,rfl,List.map_congr_left q2,rfl,q3,q4⟩
 ·unfold Zi7
  rw [h1]
  exact ⟨_,_,_,_,rfl,hod⟩
 ·rw [L.ret]
  obtain ⟨y,hy⟩:=L.R
  congr 1
  have e1:(SC.go (.a i)).den ec=u:=by rw [hu]; rfl
  have e2:(SC.go (.a 1)).den ec=(G.a i1).val e:=by
   simp only [SC.den,G.val,hy]
   show slV (((Za [Sho,Is] [Value.agg #[(G.a i0).val e,(G.a i1).val e],(G.o n).val e])++y).getD 1 undef)=_
   have:((Za [Sho,Is] [Value.agg #[(G.a i0).val e,(G.a i1).val e],(G.o n).val e])++y).getD 1 undef=(G.a i1).val e:=rfl
   rw [this]
   exact Z15d _
  have hlt1:i1 < e.R.length:=by rw [← hhl]; exact (List.getElem?_eq_some_iff.1 hT).1
  simp only [SV.den,SW.den,Z1gw,Z1gx,e1,e2]
  congr 3
  ·simp only [SC.den,G.val]
   rw [show (e.R++[u]).getD e.R.length undef=u by simp [List.getD]]
   exact husl.symm
  ·simp only [SC.den,G.val]
   rw [Z1u undef hlt1]
end Go.Proofs.YtgcoidbaoigkeaaGreatDoor.fix
namespace Go.Sx
open Go.RowKit
def Zjx:List E→List E→Bool
 | [],[]=>true
 | x::xs,y::ys=>x.same y && Zjx xs ys
 | _,_=>false
theorem Zpy:∀ {a b:List E},Zjx a b=true→a=b
 | [],[],_=>rfl
 | x::xs,y::ys,h=>by
  simp only [Zjx,Z1h3] at h
  rw [E.same_eq _ _ h.1,Zpy h.2]
 | [],_::_,h=>by simp [Zjx] at h
 | _::_,[],h=>by simp [Zjx] at h
def cnC (A C:List E) (es:List E) (nv n:Nat):List E:=if Zjx es A then C else Zb nv n
def cnF (ps rs:List Sh) (A C:List E):St→List SV→Option (List B × List E × (Nat→St × SV)):=fun s args=>match Zdx s ps args with
 | some (aZ,es)=>some (aZ,es,fun nv=>({ s with nv:=s.nv + Zj rs,rows:=s.rows++Z24 (Z4b rs) (cnC A C es nv (Zj rs)) },Zmr Zq4 s.rows.length rs (cnC A C es nv (Zj rs))))
 | none=>none
def cnS (s:Sum) (A C:List E):Sum:={ s with m:=some (cnF s.ps s.rs A C) }
theorem Z1cz {P:Program} {s0:Sum} {A C:List E} {ks:List Int} (hok0:s0.ok P) (hA:∀ (R:Fo) (r:List Int),A.map (E.den R r)=ks) (hC:∀ (R:Fo) (r:List Int),C.map (E.den R r)=s0.sem ks):(cnS s0 A C).okA P:=by
 show (cnS s0 A C).okM P (cnF s0.ps s0.rs A C)
 intro W0 e s w args aZ es kk hrep0 hsc hargs hgl hf has hpre
 unfold cnF at hf
 split at hf
 ·rename_i as' es' hfl
  simp only [Option.some.injEq,Prod.mk.injEq] at hf
  obtain ⟨rfl,rfl,rfl⟩:=hf
  obtain ⟨hlen,hden⟩:=Zb2 hrep0 hfl has
  obtain ⟨_,hok⟩:=hok0
  obtain ⟨hl,hcalls⟩:=hok _ _ w (Zk9 hgl hrep0.glw) hden hpre
  obtain ⟨D,hD⟩:∃ D,cnC A C es' s.nv (Zj s0.rs)=D:=⟨_,rfl⟩
  have hDd:D.map (E.den e.R (e.r++s0.sem (es'.map (E.den e.R e.r))))=s0.sem (es'.map (E.den e.R e.r)):=by
   rw [← hD]
   unfold cnC
   split
   ·rename_i hs
    have:=Zpy hs
    subst this
    rw [hC,hA]
   ·rw [← hrep0.nv]
    exact Z2s hl
  dsimp only [cnS] at hcalls ⊢
  rw [hD]
  refine hcalls.mono fun x w' ⟨v,hx,⟨vs,hv,hres,hap⟩,hb⟩=>?_
  obtain ⟨hrep,hfr,hle⟩:=hrep0.vars hsc (s0.sem (es'.map (E.den e.R e.r)))
  have hrep2:=hrep.grown hb
  have hres':Z76 (fun ty ks u n=>Z12 w' ty ks u n∧∀ k,Z8 u=some k→w.heap.size≤k) s0.rs vs (D.map (E.den ({ e with r:=e.r++s0.sem (es'.map (E.den e.R e.r)) }:Env).R ({ e with r:=e.r++s0.sem (es'.map (E.den e.R e.r)) }:Env).r)):=by
   show Z76 _ s0.rs vs (D.map (E.den e.R (e.r++s0.sem (es'.map (E.den e.R e.r)))))
   rw [hDd]
   exact hres
  obtain ⟨r1,r2⟩:=Z2o hres'
  have hslice:∀ {ty ks u n},Z12 w' ty ks u n→∃ a l c,u=.slice a l c:=by
   intro ty ks u n hr
   rcases hr with ⟨_,b,h2⟩ | ⟨_,_,h2⟩
   ·exact ⟨_,_,_,h2⟩
   ·rcases h2.2 with ⟨h3,_⟩ | ⟨g,cap,cur,h3,_⟩
    ·exact ⟨_,_,_,h3⟩
    ·exact ⟨_,_,_,h3⟩
  have hscp:({ s with nv:=s.nv + (s0.sem (es'.map (E.den e.R e.r))).length }:St).scp=true:=(St.sc_scp hsc:s.scp=true)
  obtain ⟨hrep3,hlike⟩:=hrep2.addRows hscp (rows:=Z24 (Z4b s0.rs) D) (vals:=Za s0.rs vs) r1
   (fun j b u hj hu _=>⟨hslice (r2 j b u hj hu).1,(r2 j b u hj hu).1⟩)
   (fun j b u k hj hu _ hk=>by
    have hge:=(r2 j b u hj hu).2 k hk
    refine ⟨.inl (Nat.le_trans hrep0.below.size hge),fun n c hc hlc heq=>?_,fun n c hc hlc heq=>?_⟩
    ·have:=Z1r (hrep0.blk n c hc hlc)
     have heq':e.β.getD n 0=k:=heq
     omega
    ·have:=(hrep0.row n c hc hlc).blk_lt heq
     omega)
   (Z69 hap)
  rw [hl] at hrep3
  have hle2:Env.le e { e with r:=e.r++s0.sem (es'.map (E.den e.R e.r)),σ:=e.σ++Za s0.rs vs }:=⟨s0.sem (es'.map (E.den e.R e.r)),[],Za s0.rs vs,[],by simp⟩
  have hresv:(Zmr Zq4 s.rows.length s0.rs D).den { e with r:=e.r++s0.sem (es'.map (E.den e.R e.r)),σ:=e.σ++Za s0.rs vs }=v:=by
   rw [hv]
   refine Zka (e:={ e with r:=e.r++s0.sem (es'.map (E.den e.R e.r)),σ:=e.σ++Za s0.rs vs }) hres' fun j u hj=>?_
   obtain ⟨b,hb'⟩:∃ b,(Z24 (Z4b s0.rs) D)[j]?=some b:=⟨_,List.getElem?_eq_getElem (by rw [← r1]; exact (List.getElem?_eq_some_iff.1 hj).1)⟩
   obtain ⟨aa,ll,cc,hsl⟩:=hslice (r2 j b u hb' hj).1
   simp only [Zq4,SC.den,G.val]
   have:(e.σ++Za s0.rs vs).getD (s.rows.length + j) undef=u:=by
    simp only [List.getD]
    rw [List.getElem?_append_right (by rw [hrep0.ng]; omega),hrep0.ng,show s.rows.length + j - s.rows.length=j by omega,hj]
    rfl
   rw [this,hsl]
   rfl
  refine ⟨_,?_,hle2,rfl,hrep3,rfl,rfl,rfl,rfl⟩
  rw [hx,← hresv]
 ·cases hf
end Go.Sx
namespace Go.Proofs.YtgcoidbaoigkeaaGreatDoor.fix
open Go.RowKit Go.Sx
def cE (l:List Int):E:=Z7i (l.map E.c)
theorem Zwn (l:List Int) (R:Fo) (r:List Int):(cE l).den R r=cod l:=by
 unfold cE
 rw [Z25,List.map_map]
 congr 1
 conv=>rhs; rw [← List.map_id l]
 exact List.map_congr_left fun x _=>rfl
def Zzd:List Int:=[256,-40,-40,512,0,0,-40,40,512,0,0,40,-40,512,0,0]
end Go.Proofs.YtgcoidbaoigkeaaGreatDoor.fix
namespace Go.Proofs.YtgcoidbaoigkeaaGreatDoor.fix
open Go.RowKit Go.Sx
def Z6u:List Int:=[0,0,0,256,0,0,0,256,0,0,0,256,64,256,4,4]
def Z1j:List Int:=[0,0,0,0,-1,0,0,0,0,-40,-40,512,40,40,512]
noncomputable def Z161:List Int:=[cod [-40,-40,512],cod [40,-40,512],cod [-40,40,512]]
noncomputable def U_ex:List Int:=[cod [0,0],cod [0,0],cod [0,0]]
noncomputable def T_ex:List Int:=[cod [0,2,1]]
def E_v:E:=Z7i [cE [-40,-40,512],cE [40,-40,512],cE [-40,40,512]]
def E_u:E:=Z7i [cE [0,0],cE [0,0],cE [0,0]]
def E_t:E:=Z7i [cE [0,2,1]]
def kr_ex:List K:=[.i .u8,.i .u8,.i .u8,.i .u8,.i .i64,.i .u8,.i .i64,.b,.i .i64,.i .i64,.i .i64,.i .i64,.i .i64,.i .i64,.i .i64]
def Zwo (ps:List Sh) (K:List Int) (s:St) (args:List SV):Bool:=match args with
 | .w (.a [c0,c1])::rest=>Z1gf s 27 146 28 Z7d Z12y Z7d kr_ex c0 E_v E_u E_t (Z1j.map E.c) && (okSl s Z7e c1 .nl && (match Zdx s ps rest with
  | some ([],es)=>Zdm es (K.map E.c)
  | _=>false))
 | _=>false
theorem Z1at (l:List Int) (R:Fo) (r:List Int):(l.map E.c).map (E.den R r)=l:=by
 rw [List.map_map]
 conv=>rhs; rw [← List.map_id l]
 exact List.map_congr_left fun x _=>rfl
theorem Z1au (w:World):∀ xs,Z64 w (fun _=>False) kr_ex xs:=fun xs=>Z64.plain rfl
structure ExI (I:Int) (n0 n1 n2:Int):Prop where
 is:dec I=[cod (n0::n1::n2::Z1j)]
 v:dec (ctN n0)=Z161
 u:dec (ctN n1)=U_ex
 t:dec (ctN n2)=T_ex
theorem Zhu {ps:List Sh} {K:List Int} {e:Env} {W0:Bas} {s:St} {w:World} {args:List SV} (h:Rep e W0 s w) (hc:Zwo ps K s args=true) :
  ∃ I T n0 n1 n2,ExI I n0 n1 n2∧dec T=[]∧Z76 (fun _ ks u n=>SlN w ks u n) (Sho::ps) (args.map (SV.den e)) ([I,T]++K):=by
 unfold Zwo at hc
 split at hc
 ·rename_i c0 c1 rest
  simp only [Z1h3] at hc
  obtain ⟨h0,h1,h2⟩:=hc
  split at h2
  ·rename_i es hfl
   have hes:=Zb7 h2
   subst hes
   obtain ⟨n0,n1,n2,a0,a1,a2,a3⟩:=Zz7 h (Z1au w) h0
   have a4:=Zcg h h1
   obtain ⟨_,hden⟩:=Zb2 h hfl (fun b hb=>by cases hb)
   rw [Z1at] at a3 hden
   refine ⟨cod [cod (n0::n1::n2::Z1j)],cod [],n0,n1,n2,⟨Z4 _,?_,?_,?_⟩,Z4 _,?_⟩
   ·rw [a0]; simp only [E_v,Z25,Z1gw,Z1gx,Zwn,Z4]; rfl
   ·rw [a1]; simp only [E_u,Z25,Z1gw,Z1gx,Zwn,Z4]; rfl
   ·rw [a2]; simp only [E_t,Z25,Z1gw,Z1gx,Zwn,Z4]; rfl
   ·refine ⟨_,_,[cod [cod (n0::n1::n2::Z1j)],cod []],K,rfl,rfl,?_,hden⟩
    unfold ShR
    exact ⟨[c0.den e,c1.den e],rfl,a3,a4,trivial⟩
  ·cases h2
 ·cases hc
theorem Zt0 (l:List Int) (j:Nat):co (cod l) j=l.getD j 0:=by unfold co; rw [Z4]
section
variable {I T n0 n1 n2:Int} (h:ExI I n0 n1 n2) (hT:dec T=[])
theorem Z1av:Zf (cod (n0::n1::n2::Z1j))=dec (ctN n0):=by unfold Zf; rw [Zt0]; rfl
theorem ex_uv:Zjg (cod (n0::n1::n2::Z1j))=dec (ctN n1):=by unfold Zjg; rw [Zt0]; rfl
theorem Z15i:Z1t (cod (n0::n1::n2::Z1j))=dec (ctN n2):=by unfold Z1t; rw [Zt0]; rfl
theorem Z1aw:Z2u Z161=[-40,-40,512,40,40,512]:=by
 simp only [Z161,Z2u,List.foldl_cons,List.foldl_nil,boxV,Zda,Zt0,Z1gs,Z1gt]
 decide
include h in
theorem ex_may:Zov (Z6p (cod (n0::n1::n2::Z1j)) 0)=true:=by
 have hx:Z6p (cod (n0::n1::n2::Z1j)) 0=ctN n0::ctN n1::ctN n2::(Z1j++[0]):=by
  unfold Z6p
  simp only [Zt0]
  rfl
 rw [hx]
 unfold Zov Z18g
 simp only [Z1gs,Z1gt,h.v,h.u,h.t,Z1aw]
 have e1:Z161.all okW=true:=by
  simp only [Z161,List.all_cons,List.all_nil,okW,Zt0]
  decide
 have e2:U_ex.all uvB=true:=by
  simp only [U_ex,List.all_cons,List.all_nil,uvB,Zt0]
  decide
 have e3:T_ex.all (Zzm Z161.length)=true:=by
  have:Z161.length=3:=rfl
  rw [this]
  simp only [T_ex,List.all_cons,List.all_nil,Zzm,Zt0]
  decide
 rw [e1,e2,e3]
 have l1:Z161.length=3:=rfl
 have l2:U_ex.length=3:=rfl
 have l3:T_ex.length=1:=rfl
 rw [l1,l2,l3]
 simp only [Z1eu,Zdc,Z1j,Z1gs,Z1gt,Z1gu,Z1gv]
 decide
include h hT in
theorem Z15j:Z2k [I,T]=0:=by
 unfold Z2k
 simp only [Z1gs,Z1gt,h.is,hT]
 rw [if_pos ⟨by simp,by simp⟩,if_pos]
 refine ⟨by simp [Zh6],?_⟩
 rw [List.all_cons,List.all_nil,Bool.and_true]
 exact ex_may h
include h hT in
theorem Zwp:Z3o (dec I) (dec T):=by
 rw [h.is,hT]
 refine ⟨fun b hb=>?_,fun b hb=>by cases hb⟩
 rw [List.mem_singleton.1 hb]
 refine ⟨?_,?_,?_,?_⟩
 ·rw [Z4]
  exact ⟨trivial,trivial,trivial,rfl,rfl,rfl,rfl,rfl,rfl,rfl,.inl rfl,rfl,rfl,rfl,rfl,rfl,rfl,rfl,trivial⟩
 ·rw [Zt0,Z1gs,h.v]
  intro v hv
  simp only [Z161,List.mem_cons,List.not_mem_nil,or_false] at hv
  rcases hv with rfl | rfl | rfl <;> (rw [Z4]; exact ⟨rfl,rfl,rfl,trivial⟩)
 ·rw [Zt0,Z1gt,Z1gs,h.u]
  intro v hv
  simp only [U_ex,List.mem_cons,List.not_mem_nil,or_false] at hv
  rcases hv with rfl | rfl | rfl <;> (rw [Z4]; exact ⟨rfl,rfl,trivial⟩)
 ·rw [Zt0,Z1gt,Z1gt,Z1gs,h.t]
  intro v hv
  simp only [T_ex,List.mem_cons,List.not_mem_nil,or_false] at hv
  rw [hv,Z4]
  exact ⟨rfl,rfl,rfl,trivial⟩
def Z4z:List Int:=[-24,56,32768,0,0,-24,-24,32768,0,0,56,56,32768,0,0]
theorem Z1ax:(Z7c Zzd).getD 0 0=cod [cod [-40,-40,512,0,0,-40,40,512,0,0,40,-40,512,0,0]]:=by
 have h:Z7c Zzd=[Z12n Zzd,0]:=by
  unfold Z7c
  rw [if_pos (by decide),if_pos (by decide)]
 have h2:Zh0 (Zop Zzd)=[[-40,-40,512,0,0,-40,40,512,0,0,40,-40,512,0,0]]:=by
  have hp:Zop Zzd=[[-40,-40,512,0,0],[-40,40,512,0,0],[40,-40,512,0,0]]:=by decide +kernel
  rw [hp,Zh0,Zh0]
  all_goals simp
 rw [h]
 unfold Z12n
 rw [h2]
 rfl
include h in
theorem ex_tri:(256::Zh7 Z6u (cod (n0::n1::n2::Z1j)) (cod [0,2,1]))=Zzd:=by
 have v0:∀ x y z:Int,Z1v Z6u (cod [x,y,z])=Z7a (Z6u++[x,y,z]):=fun x y z=>by
  unfold Z1v
  simp only [Zt0]
  rfl
 have w0:Z7a (Z6u++[-40,-40,512])=[-40,-40,512,0]:=by decide +kernel
 have w1:Z7a (Z6u++[40,-40,512])=[40,-40,512,0]:=by decide +kernel
 have w2:Z7a (Z6u++[-40,40,512])=[-40,40,512,0]:=by decide +kernel
 unfold Zh7 Z18j
 rw [Z1av,ex_uv,h.v,h.u]
 simp only [Zt0,Z1gs,Z1gt,show Int.toNat 0=0 from rfl,show Int.toNat 1=1 from rfl,show Int.toNat 2=2 from rfl,Z161,U_ex,v0,w0,w1,w2]
 rfl
include h in
theorem Z1ay:Zox (dec I) Z6u 0 0=[cod Z4z]:=by
 have hd:Zox (dec I) Z6u 0 0=Z9s Z6u (cod (n0::n1::n2::Z1j)) (cod [0,2,1]):=by
  unfold Zox
  rw [h.is]
  show Z9s Z6u (cod (n0::n1::n2::Z1j)) ((Z1t (cod (n0::n1::n2::Z1j))).getD 0 0)=_
  rw [Z15i,h.t]
  rfl
 rw [hd]
 unfold Z9s Zyj
 have h13:Z6u.getD 13 0=256:=rfl
 rw [h13,ex_tri h,Z1ax,Z4]
 have hsp:Zow Z6u (cod [-40,-40,512,0,0,-40,40,512,0,0,40,-40,512,0,0])=Z4z:=by
  unfold Zow Z132
  simp only [Zt0]
  decide +kernel
 have hc:co (cod (n0::n1::n2::Z1j)) 8=0:=by rw [Zt0]; rfl
 rw [hc]
 have hp:Zrz Z6u 0 (cod [-40,-40,512,0,0,-40,40,512,0,0,40,-40,512,0,0])=some (cod Z4z):=by
  unfold Zrz
  rw [hsp,if_pos (by decide +kernel)]
  have:Ze0 (Z71 Z4z)=Z4z:=by decide +kernel
  rw [this]
 rw [List.filterMap_cons,hp,List.filterMap_nil]
end
noncomputable def Zhv:Sum:=exS Z48 (Zwo [] []) [.c 0] [0]
def Zpz:Inf:=⟨[],fun _=>[iv 0 0]⟩
theorem Zze:Zhv.okA Tryz.prog:=Z1cu Zhg (fun R r=>rfl) (fun e W0 s w args hrep hc=>by
 obtain ⟨I,T,n0,n1,n2,hI,hT,hs⟩:=Zhu hrep hc
 refine ⟨_,hs,⟨Zy (n:=2) rfl,Zwp hI hT⟩,?_⟩
 show [Z2k [I,T]]=[0]
 rw [Z15j hI hT])
theorem Zt1:Z18 Zhv Zpz:=⟨fun _ _=>trivial,fun _ _ _ _=>Z1 ⟨Int.le_refl _,Int.le_refl _⟩ Z2⟩
def Z15k:List E:=[Z7i [cE Z4z]]
noncomputable def Zmf:Sum:=exS Z6q (Zwo [An 16,I1,I1] (Z6u++[0,0])) Z15k [cod [cod Z4z]]
def Zwq:Inf:=⟨[],fun _=>[none]⟩
theorem Z15l:Zmf.okA Tryz.prog:=Z1cu Zm0 (fun R r=>by
 simp only [Z15k,Z1gw,Z1gx,Z25,Zwn]) (fun e W0 s w args hrep hc=>by
 obtain ⟨I,T,n0,n1,n2,hI,hT,hs⟩:=Zhu hrep hc
 have z:∀ n:Int,-5000≤n∧n≤5000→Zh zz n:=fun n hn=>zc n (by omega) (by omega)
 refine ⟨_,hs,⟨Z1 trivial (Z1 trivial (Z1 (z _ (by decide)) (Z1 (z _ (by decide)) (Z1 (z _ (by decide)) (Z1 (z _ (by decide)) (Z1 (z _ (by decide)) (Z1 (z _ (by decide)) (Z1 (z _ (by decide)) (Z1 (z _ (by decide)) (Z1 (z _ (by decide)) (Z1 (z _ (by decide)) (Z1 (z _ (by decide)) (Z1 (z _ (by decide)) (Z1 (z _ (by decide)) (Z1 (z _ (by decide)) (Z1 (z _ (by decide)) (Z1 (z _ (by decide)) (Z1 (z _ (by decide)) (Z1 (z _ (by decide)) Z2))))))))))))))))))),Zwp hI hT,?_,Z15j hI hT,(show Z2b Z6u 0=true by decide +kernel)⟩,?_⟩
 ·show (0:Int)≤0∧(0:Int) < ((dec I).length:Int)∧(0:Int)≤0∧(0:Int) < ((Z1t ((dec I).getD (Int.toNat 0) 0)).length:Int)
  rw [hI.is]
  show (0:Int)≤0∧(0:Int) < 1∧(0:Int)≤0∧(0:Int) < ((Z1t (cod (n0::n1::n2::Z1j))).length:Int)
  rw [Z15i,hI.t]
  decide
 ·show [cod (Zox (dec I) Z6u 0 0)]=[cod [cod Z4z]]
  rw [Z1ay hI])
theorem Zzf:Z18 Zmf Zwq:=⟨fun _ _=>trivial,fun _ _ _ _=>Z1 trivial Z2⟩
noncomputable def Zhw:Sum:=cnS Z32 (Z6u.map E.c) [.c 0]
def Zq0:Inf:=Zbg
theorem Zzg:Zhw.okA Tryz.prog:=Z1cz (ks:=Z6u) Zbr (fun R r=>Z1at _ R r) (fun R r=>by
 show [(0:Int)]=Z3k Z6u
 decide +kernel)
theorem Zt2:Z18 Zhw Zq0:=Z94
noncomputable def Zt3:Sum:=cnS Z72 ((Z4z++[0,2]).map E.c) ([4,20,32768,0,0,0].map E.c)
def Z15m:Inf:=Zot
theorem Z1az:Zt3.okA Tryz.prog:=Z1cz (ks:=Z4z++[0,2]) Zlw (fun R r=>Z1at _ R r) (fun R r=>by
 rw [Z1at]
 show _=Zby (Z4z++[0,2])
 decide +kernel)
theorem Z15n:Z18 Zt3 Z15m:=Z9e
def Z15o (x:List Int):List Int:=[1]
def Z15p (v:List (Option Iv)):List (Option Iv):=[iv 1 1]
def Zmg:Sum:=mkS gl0 6 [] [Bo] [] Z15o
def Z15q:Inf:=⟨[],Z15p⟩
end Go.Proofs.YtgcoidbaoigkeaaGreatDoor.fix
namespace Go.Proofs.YtgcoidbaoigkeaaGreatDoor.fix
open Go.RowKit Go.Sx
noncomputable def Zmh:List Sum:=[Zhv,Zhw,Zmf,Zt3]
def Z15r:List Inf:=[Zpz,Zq0,Zwq,Z15m]
def Z15s:TX:=(.callp 0 [] (.callp 1 [(.c 0),(.c 0),(.c 0),(.c 256),(.c 0),(.c 0),(.c 0),(.c 256),(.c 0),(.c 0),(.c 0),(.c 256),(.c 64),(.c 256),(.c 4),(.c 4)] (.callp 2 [] (.callp 3 [(.c (-24)),(.c 56),(.c 32768),(.c 0),(.c 0),(.c (-24)),(.c (-24)),(.c 32768),(.c 0),(.c 0),(.c 56),(.c 56),(.c 32768),(.c 0),(.c 0),(.c 0),(.c 2)] (.ret [(.c 1)])))))
theorem Zzh:Z13 (Zs [] Z15r [] [] (Zn Tryz.prog Z78 gl0 Zmh 1000 6 [] [Bo]))=Z15s:=by kernel_rfl
theorem Z1gl:Gok Tryz.prog Zmh:=(Z1eo Zze (Z1eo Zzg (Z1eo Z15l (fix.oneA Z1az))))
theorem Z1gm:Zi Zmh Z15r:=(Z3 Zt1 (Z3 Zt2 (Z3 Zzf (Z3 Z15n Z6))))
theorem Z1b0:Zmg.ok Tryz.prog:=Sum.okF facts.mixed Z1gl Z1gm Zzh rfl (fun _=>rfl) (by
 intro xs hx hp
 simp only [Z15s,Zmh,TX.sat,XB.prop,X.den,Z1gw,Z1gx,Z1gq,Z1gr,Z1gu,Z1gv,Z1gs,Z1gt,mkS,mkP,and_true,true_and,Z1h1,Z1h2,not_or,not_and,Z1gy,ne_eq,Z1gz,Z1h0]
 rfl)
theorem Z15t:Z18 Zmg Z15q:=⟨fun _ h=>h,fun _ _ _ _=>Z1 ⟨Int.le_refl _,Int.le_refl _⟩ Z2⟩
end Go.Proofs.YtgcoidbaoigkeaaGreatDoor.fix
namespace Go.Proofs.YtgcoidbaoigkeaaGreatDoor.fix
open Go.RowKit Go.Sx
noncomputable def Zwr (x:List Int):List Int:=[cod ((dec (x.getD 0 0)).map Zi1)]
def Z1b1 (x:List Int):Prop:=Zr [none,none] x∧(dec (x.getD 0 0)).length≤1000000
def Z1b2 (v:List (Option Iv)):List (Option Iv):=[none]
noncomputable def Zq1:Sum:=mkP gl0 12 [Sho] [Bs] Z1b1 Zwr
def Z1d0:Inf:=⟨[some ⟨1,0⟩],Z1b2⟩
theorem Z1b3:Z18 Zq1 Z1d0:=⟨fun xs h=>(Z14 xs h).elim,fun vs xs h hp=>Z1 trivial Z2⟩
theorem Z15u:Z18 Z6t Z14x:=⟨fun xs h=>(Z14 xs h).elim,fun vs xs h hp=>by
 show Zr [none,none,none,none,none] (Z4y xs)
 have hl:(Z4y xs).length=5:=Z150 xs
 exact Zy (n:=5) hl⟩
end Go.Proofs.YtgcoidbaoigkeaaGreatDoor.fix
namespace Go.Proofs.YtgcoidbaoigkeaaGreatDoor.fix
open Go.RowKit Go.Sx Go.Sort
theorem Z1b4 {I I':List Int} (h:Z3u I I'):Zyl I=Zyl I':=by
 funext f
 unfold Zyl
 rw [h.2 _ 11 (by omega) (by omega)]
theorem Z1gn {I I':List Int} (h:Z3u I I') {M:Nat}:(cfB I:Fg M→Fg M→Int)=cfB I':=by
 funext x y
 unfold cfB
 rw [Z1b4 h]
open Classical in
noncomputable def stbA (M:Nat) (cf:Fg M→Fg M→Int) (l:List Int):List Int :=
 if h:∃ d d':Array (Fg M),d.toList.map Fg.v=l∧sst.Stb (ltOf cf) d.size d d'∧PermIn 0 d.size d d' then (Classical.choose (Classical.choose_spec h)).toList.map Fg.v else l
theorem Z1d1 (I l:List Int):Zi0 I l=stbA (I.length - 1) (cfB I) l:=rfl
theorem Z1b5 {I I':List Int} (h:Z3u I I') (l:List Int):Zi0 I l=Zi0 I' l:=by
 rw [Z1d1,Z1d1,Z1gn h,h.1]
theorem Zzi {I I':List Int} (h:Z3u I I') (n:Nat):Zdg (I.getD n 0)=Zdg (I'.getD n 0):=by
 unfold Zdg
 rw [h.2 n 3 (by omega) (by omega),h.2 n 4 (by omega) (by omega),h.2 n 5 (by omega) (by omega),h.2 n 6 (by omega) (by omega),h.2 n 7 (by omega) (by omega),h.2 n 8 (by omega) (by omega),h.2 n 9 (by omega) (by omega),h.2 n 10 (by omega) (by omega),h.2 n 11 (by omega) (by omega)]
theorem Zjy {I I':List Int} (h:Z3u I I') (T:List Int):Zha I T=Zha I' T:=by
 funext f
 unfold Zha
 rw [Zzi h]
theorem Zq2 {I I':List Int} (h:Z3u I I') (F:List Int):Zv7 I F=Zv7 I' F:=by
 unfold Zv7
 rw [Zjt h]
theorem Z1b6 {I I':List Int} (h:Z3u I I') (T F g:List Int):Zzp I T F g=Zzp I' T F g:=by
 have h1:Z87 I F=Z87 I' F:=by
  unfold Z87
  rw [Zq2 h]
  congr 1
  funext f
  rw [h.2 _ 10 (by omega) (by omega)]
 have h2:Zsb I T=Zsb I' T:=by
  funext g f
  unfold Zsb
  rw [Zjy h]
 have h3:Z5d I T F g=Z5d I' T F g:=by
  unfold Z5d
  rw [Zq2 h,Zjy h]
 unfold Zzp
 rw [h1,h2,h3,Z1b5 h]
noncomputable def Zws:List Sum:=[]
def Z1d2:List Inf:=[]
def Z1d3:TX:=(.loop 2 [none,none] [.nl,(.c 0)] (.ite (.le (.ln (.v 0)) (.v 3)) (.ret [(.v 2)])
(.asrt (.le (.c 0) (.v 3)) (.asrt (.le (.ln (.l2 .snoc (.v 2) (.l2 .cons (.l2 .at (.l2 .at (.v 0) (.v 3)) (.c 12)) (.l2 .cons (.l2 .at (.l2 .at (.v 0) (.v 3)) (.c 13)) (.l2 .cons (.l2 .at (.l2 .at (.v 0) (.v 3)) (.c 14)) (.l2 .cons (.l2 .at (.l2 .at (.v 0) (.v 3)) (.c 15)) (.l2 .cons (.l2 .at (.l2 .at (.v 0) (.v 3)) (.c 16)) (.l2 .cons (.l2 .at (.l2 .at (.v 0) (.v 3)) (.c 17)) .nl)))))))) (.c 1000000)) (.back 0 [(.l2 .snoc (.v 2) (.l2 .cons (.l2 .at (.l2 .at (.v 0) (.v 3)) (.c 12)) (.l2 .cons (.l2 .at (.l2 .at (.v 0) (.v 3)) (.c 13)) (.l2 .cons (.l2 .at (.l2 .at (.v 0) (.v 3)) (.c 14)) (.l2 .cons (.l2 .at (.l2 .at (.v 0) (.v 3)) (.c 15)) (.l2 .cons (.l2 .at (.l2 .at (.v 0) (.v 3)) (.c 16)) (.l2 .cons (.l2 .at (.l2 .at (.v 0) (.v 3)) (.c 17)) .nl))))))),(.wr .i64 (.add (.v 3) (.c 1)))])))))
theorem Z15v:Z13 (Zs [] Z1d2 [] [none,none] (Zn Tryz.prog (Z9p Tryz.prog [(3,5)]) gl0 Zws 1000 12 [Sho] [Bs]))=Z1d3:=by kernel_rfl
theorem g_boxS:Gok Tryz.prog Zws:=noG
theorem o_boxS:Zi Zws Z1d2:=Z6
theorem Z1go:Zq1.ok Tryz.prog:=Sum.okPF (pin:=[none,none]) facts.mixed g_boxS o_boxS Z15v rfl (fun _=>rfl) (fun xs h=>h.1) (by
 intro xs hx hp
 obtain ⟨a,t,rfl⟩:=Zdu hx
 have hl:(dec a).length≤1000000:=hp.2
 have hco:∀ x j,(dec x).getD j 0=co x j:=fun _ _=>rfl
 unfold Z1d3 Zws
 simp only [TX.sat,XB.prop]
 simp only [X.den,L2.den,TX.sat,XB.prop,X.den,Z1gw,Z1gx,Z1gq,Z1gr,Z1gu,Z1gv,Z1gs,Z1gt,mkS,mkP,and_true,true_and,Z1h1,Z1h2,not_or,not_and,Z1gy,ne_eq,Z1gz,Z1h0,Zwr]
 refine ⟨fun xs=>∃ i:Nat,xs.getD 1 0=(i:Int)∧i≤(dec a).length∧xs.getD 0 0=cod (((dec a).take i).map Zi1),fun xs=>(dec a).length - (xs.getD 1 0).toNat,fun xs hx _=>Zy (n:=2) hx,⟨0,rfl,by omega,by simp⟩,?_⟩
 intro ys hy hB
 obtain ⟨b0,b1,rfl⟩:=Zdu hy
 obtain ⟨n,hn,hnl,hnd⟩:=hB
 simp only [TX.sat,XB.prop,X.den,Z1gw,Z1gx,Z1gq,Z1gr,Z1gu,Z1gv,Z1gs,Z1gt,mkS,mkP,and_true,true_and,Z1h1,Z1h2,not_or,not_and,Z1gy,ne_eq,Z1gz,Z1h0] at hn hnd ⊢
 subst hn hnd
 simp only [Int.toNat_natCast,show Int.toNat 0=0 from rfl,show Int.toNat 1=1 from rfl,show Int.toNat 2=2 from rfl,show Int.toNat 3=3 from rfl,show Int.toNat 4=4 from rfl,show Int.toNat 12=12 from rfl,show Int.toNat 13=13 from rfl,show Int.toNat 14=14 from rfl,show Int.toNat 15=15 from rfl,show Int.toNat 16=16 from rfl,show Int.toNat 17=17 from rfl,hco,Z4]
 refine ⟨fun hge=>?_,fun hlt=>?_⟩
 ·have:n=(dec a).length:=by omega
  rw [this,List.take_length]
 ·have hnI:n < (dec a).length:=by omega
  have htake:(dec a).take (n + 1)=(dec a).take n++[(dec a).getD n 0]:=by
   rw [List.take_succ_eq_append_getElem hnI]
   rw [show (dec a).getD n 0=(dec a)[n] by simp [List.getD,hnI]]
  refine ⟨by omega,?_,⟨n + 1,?_,by omega,?_⟩,?_⟩
  ·rw [List.length_append,List.length_map,List.length_take,List.length_singleton]
   omega
  ·rw [Zo (by omega) (by omega)]; omega
  ·rw [htake,List.map_append]
   rfl
  ·rw [Zo (by omega) (by omega)]
   omega)
end Go.Proofs.YtgcoidbaoigkeaaGreatDoor.fix
namespace Go.Sx
open Go.RowKit Go.ChangeShapes Go.WideShapes Go.ChangeAt
def Zhx (P:Program):Nat→TypeId→Option (List K)
 | 0,_=>none
 | d + 1,t=>match P.underlying t with
  | some (.int k)=>some [.i k]
  | some .bool=>some [.b]
  | some (.slice e)=>match Zhx P d e with
   | some ks=>if ks.length=P.cellsOf e∧0 < ks.length then some [.s e ks] else none
   | none=>none
  | some (.struct fs)=>match Zkf P (Zhx P d) fs.toList 0 with
   | some ks=>if ks.length=P.cellsOf t then some ks else none
   | none=>none
  | some (.array n e)=>match Zhx P d e with
   | some ks=>if ks.length=P.cellsOf e∧n * ks.length=P.cellsOf t then some (List.replicate n ks).flatten else none
   | none=>none
  | _=>none
mutual
def okK (w:World):K→Int→Prop
 | .i k,n=>(Lit.int k n).wf=true
 | .b,n=>n=0∨n=1
 | .s _ ks,n=>Z63 w ks (hdV n) (ctN n)∧∀ x ∈ dec (ctN n),okL w ks (elt ks x)
def okL (w:World):List K→List Int→Prop
 | [],[]=>True
 | k::ks,x::xs=>okK w k x∧okL w ks xs
 | _,_=>False
end
theorem Z8h {w:World}:∀ {ks:List K} {xs:List Int},okL w ks xs→xs.length=ks.length
 | [],[],_=>rfl
 | _::_,_::_,h=>by
  simp only [okL] at h
  simp [Z8h h.2]
 | [],_::_,h=>by simp [okL] at h
 | _::_,[],h=>by simp [okL] at h
theorem Zt4 {w:World}:∀ {ks ls:List K} {xs ys:List Int},okL w ks xs→okL w ls ys→okL w (ks++ls) (xs++ys)
 | [],_,[],_,_,h=>h
 | _::_,_,_::_,_,h,h'=>by
  simp only [okL,Z1gu] at h ⊢
  exact ⟨h.1,Zt4 h.2 h'⟩
 | [],_,_::_,_,h,_=>by simp [okL] at h
 | _::_,_,[],_,h,_=>by simp [okL] at h
theorem Z50 {w:World}:∀ {ks:List K} {xs:List Int},okL w ks xs→Zc ks xs
 | [],[],_=>trivial
 | k::ks,x::xs,h=>by
  simp only [okL] at h
  refine ⟨?_,Z50 h.2⟩
  cases k with
  | i k=>have:=h.1; simp only [okK] at this; exact this
  | b=>have:=h.1; simp only [okK] at this; exact this
  | s t l=>trivial
 | [],_::_,h=>by simp [okL] at h
 | _::_,[],h=>by simp [okL] at h
theorem Zhy {w:World} {t:TypeId} {ks:List K} {n:Int} (h:okK w (.s t ks) n):Z63 w ks (hdV n) (ctN n)∧∀ x ∈ dec (ctN n),okL w ks (elt ks x):=by
 simp only [okK] at h
 exact h
mutual
theorem Z1gp {w:World}:∀ (k:K) (n:Int),okK w k n→Z2m w (fun _=>False) k (hdV n) (ctN n)
 | .i k,n,h=>by simp only [Z2m]
 | .b,n,h=>by simp only [Z2m]
 | .s t ks,n,h=>by
  rw [Z2m]
  have h:=Zhy h
  exact ⟨⟨h.1,fun _ _ _ hh=>hh⟩,fun x hx=>okL_N ks (elt ks x) (h.2 x hx)⟩
theorem okL_N {w:World}:∀ (ks:List K) (xs:List Int),okL w ks xs→Z64 w (fun _=>False) ks xs
 | [],[],h=>by simp only [Z64]
 | k::ks,x::xs,h=>by
  simp only [okL] at h
  simp only [Z64]
  exact ⟨Z1gp k x h.1,okL_N ks xs h.2⟩
 | [],_::_,h=>by simp [okL] at h
 | _::_,[],h=>by simp [okL] at h
end
theorem Z15w {w:World} {a:Addr} {sp:Nat} (h:a.spot=some sp):w.cell? a=none:=by
 unfold World.cell?
 split
 ·rw [h]
  rfl
 ·rfl
theorem Zjz {w:World} {base:Nat} {a:Addr} {sp n:Nat} (h:a.spot=some sp) (hn:0 < n):w.cells? base a n=none:=by
 unfold World.cells?
 split
 ·obtain ⟨m,rfl⟩:∃ m,n=m + 1:=⟨n - 1,by omega⟩
  rw [List.range_succ_eq_map,List.mapM_cons,Z15w (a:=a.add 0) (sp:=sp) h]
  rfl
 ·rfl
section
variable {H:Type} {enc:TypeId × Value→H} {P:Program} {w:World} {base:Nat} {spare:Nat→Bool} {held:Bool}
theorem Zhz {fuel:Nat} {rec:TypeId→Option (List K)} {xs:List (DataW H × List MemPlace)} {cs:List Value} 
    (hrec:∀ (t:TypeId) (ks:List K) (c:List Value) (x:DataW H × List MemPlace),rec t=some ks→DataW.trod enc P w base spare held fuel t c=some x→∃ ys,c=Z9 ks ys∧okL w ks ys) :
    ∀ (fs:List Field) (off i:Nat) (ks:List K),Zkf P rec fs off=some ks→off + ks.length≤cs.length →
      (∀ j f,fs[j]?=some f→DataW.trod enc P w base spare held fuel f.type ((cs.drop f.offset).take (P.cellsOf f.type))=xs[i + j]?)→i + fs.length≤xs.length →
      ∃ ys,(cs.drop off).take ks.length=Z9 ks ys∧okL w ks ys
  | [],off,i,ks,h,_,_,_=>by
    simp only [Zkf,Option.some.injEq] at h
    subst h
    exact ⟨[],by simp [Z9],by simp [okL]⟩
  | f::fs,off,i,ks,h,hle,hx,hlen=>by
    simp only [Zkf] at h
    split at h
    · rename_i hoff
      split at h
      · rename_i k1 hk1
        split at h
        · rename_i hc
          simp only [Option.map_eq_some_iff] at h
          obtain ⟨k2,hk2,rfl⟩:=h
          simp only [List.length_append,List.length_cons] at hle hlen
          have h0:=hx 0 f rfl
          rw [Nat.add_zero,List.getElem?_eq_getElem (by omega)] at h0
          obtain ⟨y1,hy1,hr1⟩:=hrec f.type k1 _ _ hk1 h0
          obtain ⟨y2,hy2,hr2⟩:=Zhz (cs:=cs) (xs:=xs) hrec fs (off + k1.length) (i + 1) k2 hk2 (by omega) (fun j g hg=>by
            have:=hx (j + 1) g hg
            rwa [show i + (j + 1)=i + 1 + j by omega] at this) (by omega)
          refine ⟨y1++y2,?_,Zt4 hr1 hr2⟩
          rw [Z4q (Z8h hr1),← hy2,← hy1,hoff,← hc,List.length_append,List.take_add,List.drop_drop]
        · cases h
      · cases h
    · cases h
theorem Zk0 {fuel:Nat} {e:TypeId} {ks:List K} {xs:List (DataW H × List MemPlace)} {cs:List Value} (hks:ks.length=P.cellsOf e)
    (hrec:∀ (c:List Value) (x:DataW H × List MemPlace),DataW.trod enc P w base spare held fuel e c=some x→∃ ys,c=Z9 ks ys∧okL w ks ys) :
    ∀ (n i:Nat),(∀ j,j < n→DataW.trod enc P w base spare held fuel e ((cs.drop ((i + j) * P.cellsOf e)).take (P.cellsOf e))=xs[i + j]?)→i + n≤xs.length →
      ∃ ys,(cs.drop (i * ks.length)).take (n * ks.length)=Z9 (List.replicate n ks).flatten ys∧okL w (List.replicate n ks).flatten ys
  | 0,i,_,_=>⟨[],by simp [Z9],by simp [okL]⟩
  | n + 1,i,hx,hlen=>by
    have h0:=hx 0 (by omega)
    rw [Nat.add_zero,List.getElem?_eq_getElem (by omega)] at h0
    obtain ⟨y1,hy1,hr1⟩:=hrec _ _ h0
    obtain ⟨y2,hy2,hr2⟩:=Zk0 (cs:=cs) (xs:=xs) hks hrec n (i + 1) (fun j hj=>by
      have:=hx (j + 1) (by omega)
      rwa [show i + (j + 1)=i + 1 + j by omega] at this) (by omega)
    refine ⟨y1++y2,?_,?_⟩
    · rw [List.replicate_succ,List.flatten_cons,Z4q (Z8h hr1),← hy2,← hy1,hks,Nat.add_mul,Nat.one_mul,Nat.add_comm (n * P.cellsOf e),List.take_add,List.drop_drop,Nat.add_mul,Nat.one_mul]
    · rw [List.replicate_succ,List.flatten_cons]
      exact Zt4 hr1 hr2
theorem Z1b7 {e:TypeId} {ks:List K} {cs0:List Value} {x:DataW H × List MemPlace} {t:TypeId} (hsp:∀ k,spare k=true) (hu:P.underlying t=some (.slice e)) (hc:ks.length=P.cellsOf e) (hpos:0 < ks.length)
  {fuel:Nat} (hrec:∀ (n:Nat) (c:List Value) (y:DataW H × List MemPlace),n < fuel→DataW.trod enc P w base spare held n e c=some y→∃ ys,c=Z9 ks ys∧okL w ks ys)
  (hf:DataW.trod enc P w base spare held fuel t cs0=some x):∃ n,cs0=[hdV n]∧okK w (.s e ks) n:=by
 rcases DataW.trod_slice hu hf with ⟨hv,_⟩ | ⟨a,len,cap,elems,rest,n,hfu,hv,_,hb,hle,hm,hlen,hel,hrest,_⟩
 ·refine ⟨0,by rw [hv,Zay],?_⟩
  simp only [okK]
  rw [Zay,Z8n,Z22]
  exact ⟨.inl ⟨⟨_,rfl⟩,Z22⟩,fun x hx=>by cases hx⟩
 ·subst hv
  obtain ⟨b,off,sp⟩:=a
  cases sp with
  | some sp =>
   have hcap:cap=0:=by
    rcases Nat.eq_zero_or_pos len with h0 | h0
    ·rcases Nat.eq_zero_or_pos cap with h1 | h1
     ·exact h1
     ·obtain ⟨r1,r2⟩:=hrest (hsp _)
      have h2:=r2 0 (by omega)
      rw [show (len + 0) * P.cellsOf e=0 by rw [h0]; simp,Zjz (a:=(⟨b,off,some sp⟩:Addr).add 0) (sp:=sp) rfl (by omega),List.getElem?_eq_getElem (by omega)] at h2
      cases h2
    ·have h2:=hel 0 h0
     rw [Nat.zero_mul,Zjz (a:=(⟨b,off,some sp⟩:Addr).add 0) (sp:=sp) rfl (by omega),List.getElem?_eq_getElem (by omega)] at h2
     cases h2
   have hl0:len=0:=by omega
   subst hcap hl0
   refine ⟨cod [(b:Int),(off:Int),0,0,cod [],(sp:Int)],?_,?_⟩
   ·unfold hdV
    rw [Z4]
    simp
   ·simp only [okK]
    have h1:ctN (cod [(b:Int),(off:Int),0,0,cod [],(sp:Int)])=cod []:=by
     unfold ctN
     rw [Z4]
     rfl
    rw [h1,Z4]
    refine ⟨.inl ⟨?_,Z4 []⟩,fun x hx=>by cases hx⟩
    unfold hdV
    rw [Z4]
    exact ⟨_,rfl⟩
  | none =>
  simp only at hb
  have each:∀ i,i < len→∃ ys,okL w ks ys∧∀ j u,(Z9 ks ys)[j]?=some u→w.cell? ⟨b,off + (i * ks.length + j),none⟩=some u:=by
   intro i hi
   have h1:=hel i hi
   rw [List.getElem?_eq_getElem (by omega),Option.bind_eq_some_iff] at h1
   obtain ⟨cs,h2,h3⟩:=h1
   unfold World.cells? at h2
   split at h2
   ·rename_i hbb
    obtain ⟨_,h6⟩:=Zxk _ (fun i=>i) cs h2
    obtain ⟨ys,h4,h5⟩:=hrec n cs _ (by omega) h3
    refine ⟨ys,h5,fun j u hj=>?_⟩
    rw [h4] at h6
    have:=h6 j u hj
    rw [Addr.add_lit,Addr.add_lit,← hc] at this
    rw [← this]
    congr 2
    omega
   ·cases h2
  have hys:∃ f:Nat→List Int,∀ i,i < len→okL w ks (f i)∧∀ j u,(Z9 ks (f i))[j]?=some u→w.cell? ⟨b,off + (i * ks.length + j),none⟩=some u:=by
   refine ⟨fun i=>if h:i < len then Classical.choose (each i h) else [],fun i hi=>?_⟩
   simp only [hi,dif_pos]
   exact Classical.choose_spec (each i hi)
  obtain ⟨f,hf'⟩:=hys
  obtain ⟨L,hL⟩:∃ L,L=(List.range len).map fun i=>Z16u ks (f i):=⟨_,rfl⟩
  have hmem:∀ x ∈ L,∃ i,i < len∧elt ks x=f i:=by
   intro x hx
   rw [hL] at hx
   obtain ⟨i,hi,rfl⟩:=List.mem_map.1 hx
   have hi':i < len:=by simpa using hi
   exact ⟨i,hi',Zo4 (Z8h (hf' i hi').1)⟩
  have hLl:L.length=len:=by rw [hL]; simp
  have hn:hdV (cod [(b:Int),(off:Int),(len:Int),(cap:Int),cod L])=.slice (some ⟨b,off,none⟩) len cap:=by
   unfold hdV
   rw [Z4]
   simp only
   rw [if_pos (by omega)]
   simp
  have hct:ctN (cod [(b:Int),(off:Int),(len:Int),(cap:Int),cod L])=cod L:=by
   unfold ctN
   rw [Z4]
   rfl
  refine ⟨cod [(b:Int),(off:Int),(len:Int),(cap:Int),cod L],by rw [hn],?_⟩
  simp only [okK]
  rw [hn,hct,Z4]
  refine ⟨.inr ⟨b,off,cap,?_,?_,hm,?_,?_⟩,?_⟩
  ·rw [Z4,hLl]
  ·rw [Z4,hLl]; exact hle
  ·rw [Z4]
   intro x hx
   obtain ⟨i,hi,h⟩:=hmem x hx
   rw [h]; exact Z8h (hf' i hi).1
  ·rw [Z4]
   intro j u hj
   have hall:∀ x ∈ L,(elt ks x).length=ks.length:=fun x hx=>by
    obtain ⟨i,hi,h⟩:=hmem x hx
    rw [h]; exact Z8h (hf' i hi).1
   have hjl:=(List.getElem?_eq_some_iff.1 hj).1
   rw [Zp hall,hLl] at hjl
   have hk:0 < ks.length:=by
    rcases Nat.eq_zero_or_pos ks.length with h | h
    ·rw [h] at hjl; simp at hjl
    ·exact h
   have hi:j / ks.length < len:=by rw [Nat.div_lt_iff_lt_mul hk]; exact hjl
   have hjj:j / ks.length * ks.length + j % ks.length=j:=Nat.div_add_mod' j ks.length
   rw [← hjj] at hj
   rw [Z5g hall (by rw [hLl]; exact hi) (Nat.mod_lt _ hk)] at hj
   have hg:L.getD (j / ks.length) 0=Z16u ks (f (j / ks.length)):=by
    rw [hL]
    simp [List.getD,hi]
   rw [hg,Zo4 (Z8h (hf' _ hi).1)] at hj
   have:=(hf' _ hi).2 _ u hj
   rwa [hjj] at this
  ·intro x hx
   obtain ⟨i,hi,h⟩:=hmem x hx
   rw [h]; exact (hf' i hi).1
theorem Zcj (hsp:∀ k,spare k=true):∀ (d fuel:Nat) (t:TypeId) (ks:List K) (cs:List Value) (x:DataW H × List MemPlace),Zhx P d t=some ks→DataW.trod enc P w base spare held fuel t cs=some x→∃ xs,cs=Z9 ks xs∧okL w ks xs
 | 0,_,_,_,_,_,h,_=>by simp [Zhx] at h
 | d + 1,fuel,t,ks,cs,x,h,hd=>by
  unfold Zhx at h
  split at h
  ·rename_i k ht
   simp only [Option.some.injEq] at h
   subst h
   obtain ⟨n,rfl,_,hwf⟩:=DataW.trod_int ht hd
   exact ⟨[n],rfl,by simp only [okL,okK]; exact ⟨hwf,trivial⟩⟩
  ·rename_i ht
   simp only [Option.some.injEq] at h
   subst h
   obtain ⟨b,rfl,_⟩:=DataW.trod_bool ht hd
   exact ⟨[if b then 1 else 0],by cases b <;> rfl,by cases b <;> simp [okL,okK]⟩
  ·rename_i e ht
   split at h
   ·rename_i ks' hks
    split at h
    ·rename_i hc
     simp only [Option.some.injEq] at h
     subst h
     obtain ⟨n,hn,hok⟩:=Z1b7 (cs0:=cs) hsp ht hc.1 hc.2 (fun n c y _ h2=>Zcj hsp d n e ks' c y hks h2) hd
     exact ⟨[n],by rw [hn]; rfl,by rw [okL,okL]; exact ⟨hok,trivial⟩⟩
    ·cases h
   ·cases h
  ·rename_i fs ht
   split at h
   ·rename_i ks' hks
    split at h
    ·rename_i hc
     simp only [Option.some.injEq] at h
     subst h
     obtain ⟨xs,n,rfl,_,hcl,hxl,hf⟩:=DataW.trod_struct ht hd
     obtain ⟨ys,hy,hr⟩:=Zhz (cs:=cs) (xs:=xs) (fun t ks c x h1 h2=>Zcj hsp d n t ks c x h1 h2) fs.toList 0 0 ks' hks (by omega) (fun j f hj=>by
      rw [Nat.zero_add]
      exact hf j f (by simpa using hj)) (by simp; omega)
     refine ⟨ys,?_,hr⟩
     rw [← hy,List.drop_zero,List.take_of_length_le (by omega)]
    ·cases h
   ·cases h
  ·rename_i n e ht
   split at h
   ·rename_i ks' hks
    split at h
    ·rename_i hc
     simp only [Option.some.injEq] at h
     subst h
     obtain ⟨xs,m,rfl,_,hcl,hxl,hf⟩:=DataW.trod_array ht hd
     obtain ⟨ys,hy,hr⟩:=Zk0 (cs:=cs) (xs:=xs) hc.1 (fun c x h2=>Zcj hsp d m e ks' c x hks h2) n 0 (fun j hj=>by
      rw [Nat.zero_add]
      exact hf j hj) (by omega)
     refine ⟨ys,?_,hr⟩
     rw [← hy,Nat.zero_mul,List.drop_zero,List.take_of_length_le (by omega)]
    ·cases h
   ·cases h
  ·cases h
theorem Z1b8 {r:Reach} {b0:Nat} {t e1 e2:TypeId} {fs:Array Field} {k1 k2:List K} {v:Value} {d:DataW H} {ps:List MemPlace} (hsp:∀ k,spare k=true)
  (hu:P.underlying t=some (.struct fs)) (hl:Zhx P 8 t=some [.s e1 k1,.s e2 k2]) (hval:Value.okWide P w r b0 t v) (hd:DataW.Trod enc P w base spare held t v d ps) :
  ∃ I T:Int,ShR (fun _ ks u n=>SlN w ks u n) ⟨true,[.s e1 k1,.s e2 k2]⟩ v [I,T]∧(∀ x ∈ dec I,okL w k1 (elt k1 x))∧∀ x ∈ dec T,okL w k2 (elt k2 x):=by
 unfold Value.okWide at hval
 rw [hu] at hval
 obtain ⟨cs,rfl,hsz,ts,hts,_,hcell⟩:=hval
 obtain ⟨fuel,hf⟩:=hd
 obtain ⟨xs,hxs,hok⟩:=Zcj hsp 8 fuel t _ cs.toList _ hl hf
 have hlen:=Z8h hok
 obtain ⟨n1,n2,rfl⟩:∃ n1 n2,xs=[n1,n2]:=by
  match xs,hlen with
  | [n1,n2],_=>exact ⟨n1,n2,rfl⟩
 simp only [okL] at hok
 refine ⟨ctN n1,ctN n2,?_,(Zhy hok.1).2,(Zhy hok.2.1).2⟩
 unfold ShR
 simp only [if_true]
 exact ⟨[hdV n1,hdV n2],by rw [show cs=cs.toList.toArray by simp,hxs]; rfl,Z1gp _ _ hok.1,Z1gp _ _ hok.2.1,trivial⟩
end
end Go.Sx
namespace Go.Proofs.YtgcoidbaoigkeaaGreatDoor.fix
open Go.RowKit Go.Sx
theorem Zq3 {w:World}:∀ {ks:List K} {xs:List Int} {j:Nat} {k:K},okL w ks xs→ks[j]?=some k→okK w k (xs.getD j 0)
 | k::ks,x::xs,0,k',h,hk=>by
  simp only [okL] at h
  simp only [Z1gq,Option.some.injEq] at hk
  subst hk
  exact h.1
 | k::ks,x::xs,j + 1,k',h,hk=>by
  simp only [okL] at h
  simp only [Z1gr] at hk
  show okK w k' (xs.getD j 0)
  exact Zq3 h.2 hk
 | [],[],_,_,_,hk=>by simp at hk
 | [],_::_,_,_,h,_=>by simp [okL] at h
 | _::_,[],_,_,h,_=>by simp [okL] at h
theorem Z1b9 {w:World} {I T:Int} (hi:∀ x ∈ dec I,okL w Z39 (elt Z39 x)) (ht:∀ x ∈ dec T,okL w Z7e (elt Z7e x)):Z3o (dec I) (dec T):=by
 refine ⟨fun b hb=>?_,fun b hb=>Z50 (ht b hb)⟩
 have h:okL w Z39 (dec b):=hi b hb
 have h0:=(Zhy (Zq3 (j:=0) h rfl)).2
 have h1:=(Zhy (Zq3 (j:=1) h rfl)).2
 have h2:=(Zhy (Zq3 (j:=2) h rfl)).2
 exact ⟨Z50 h,fun v hv=>Z50 (h0 v hv),fun v hv=>Z50 (h1 v hv),fun v hv=>Z50 (h2 v hv)⟩
end Go.Proofs.YtgcoidbaoigkeaaGreatDoor.fix
