/-
  Symbolic execution of the model, and what functions of the program come to: part 3.
-/
import Derived.ProofKit
import Derived.OpenShut
import Derived.Carry
import Derived.Test.YtgcoidbaoigkeaaGreatDoorRows
import Derived.KernelRfl
import Derived.LaidLaws
import Derived.RangeFuncNested
import Derived.RangeFuncLeaves
import Derived.Sort.OwnSortedInts
import Derived.Test.YtgcoidbaoigkeaaGreatDoorPkb
set_option linter.unusedVariables false
set_option linter.unusedSimpArgs false
open List renaming getElem?_cons_zero → Z1gq, getElem?_cons_succ → Z1gr, getD_cons_zero → Z1gs, getD_cons_succ → Z1gt, cons_append → Z1gu, nil_append → Z1gv, map_cons → Z1gw, map_nil → Z1gx
namespace Go.Sx
open Go.RowKit
theorem Z16t {a b:Value} (h:Z1de a b=true):a=b:=by
 unfold Z1de at h
 split at h
 ·rfl
 ·rfl
 ·simp only [Z1h3,beq_iff_eq] at h
  rw [h.1,h.2]
 ·cases h
theorem Zj0:∀ {a b:List (Nat × Nat)},Zco a b=true→a=b
 | [],[],_=>rfl
 | x::xs,y::ys,h=>by
  simp only [Zco,Z1h3,beq_iff_eq] at h
  rw [Zj0 h.2,Prod.ext h.1.1 h.1.2]
 | [],_::_,h=>by simp [Zco] at h
 | _::_,[],h=>by simp [Zco] at h
theorem SC.same_eq {a b:SC} (h:a.same b=true):a=b:=by
 cases a <;> cases b <;> simp only [SC.same,Z1h3,beq_iff_eq,Bool.false_eq_true] at h
 ·rw [h.1,E.same_eq _ _ h.2]
 ·rw [B.same_eq _ _ h]
 ·rw [h.1,h.2]
 ·rw [h.1.1,h.1.2,h.2.1,h.2.2]
 ·rw [G.same_eq _ _ h]
 ·rw [G.same_eq _ _ h.1.1,h.1.2,E.same_eq _ _ h.2.1,E.same_eq _ _ h.2.2]
 ·rw [G.same_eq _ _ h.1.1,h.1.2,E.same_eq _ _ h.2.1,h.2.2]
 ·rw [G.same_eq _ _ h]
 ·rw [h.1,Zj0 h.2]
 ·rw [Z16t h]
theorem Zkd:∀ {a b:List SC},Zqc a b=true→a=b
 | [],[],_=>rfl
 | x::xs,y::ys,h=>by
  simp only [Zqc,Z1h3] at h
  rw [SC.same_eq h.1,Zkd h.2]
 | [],_::_,h=>by simp [Zqc] at h
 | _::_,[],h=>by simp [Zqc] at h
theorem SW.same_eq {a b:SW} (h:a.same b=true):a=b:=by
 cases a <;> cases b <;> simp only [SW.same,Bool.false_eq_true] at h
 ·rw [SC.same_eq h]
 ·rw [Zkd h]
theorem Ztv:∀ {a b:List SW},Zx0 a b=true→a=b
 | [],[],_=>rfl
 | x::xs,y::ys,h=>by
  simp only [Zx0,Z1h3] at h
  rw [SW.same_eq h.1,Ztv h.2]
 | [],_::_,h=>by simp [Zx0] at h
 | _::_,[],h=>by simp [Zx0] at h
theorem SV.same_eq {a b:SV} (h:a.same b=true):a=b:=by
 cases a <;> cases b <;> simp only [SV.same,beq_iff_eq,Bool.false_eq_true] at h
 ·rw [SW.same_eq h]
 ·rw [Ztv h]
 ·rw [h]
section
variable {ex e2:Env} {W0:Bas} {sx:St} {w:World}
def VOK (ex:Env) (sx:St) (vals:List Value) (us:List Nat):Prop :=
 Zmq vals∧∀ v ∈ vals,∀ k,Z8 v=some k→∃ n b,n ∈ us∧sx.rows[n]?=some b∧b.live=true∧sx.flr≤n∧Z8 ((G.o n).val ex)=some k
theorem VOK.nil (ex:Env) (sx:St):VOK ex sx [] []:=⟨List.Pairwise.nil,fun v hv=>by simp at hv⟩
theorem VOK.app (hrep:Rep ex W0 sx w) {a b:List Value} {us ts:List Nat} (ha:VOK ex sx a us) (hb:VOK ex sx b ts) (hn:(us++ts).Nodup):VOK ex sx (a++b) (us++ts):=by
 refine ⟨List.pairwise_append.2 ⟨ha.1,hb.1,fun u hu v hv k hk hk'=>?_⟩,fun v hv k hk=>?_⟩
 ·obtain ⟨n,b1,h1,h2,h3,_,h5⟩:=ha.2 u hu k hk
  obtain ⟨m,b2,h1',h2',h3',_,h5'⟩:=hb.2 v hv k hk'
  have:=hrep.rsep n m b1 b2 k h2 h2' h3 h3' h5 h5'
  subst this
  exact (List.nodup_append.1 hn).2.2 n h1 n h1' rfl
 ·rcases List.mem_append.1 hv with hv | hv
  ·obtain ⟨n,b,h1,h2⟩:=ha.2 v hv k hk
   exact ⟨n,b,List.mem_append_left _ h1,h2⟩
  ·obtain ⟨n,b,h1,h2⟩:=hb.2 v hv k hk
   exact ⟨n,b,List.mem_append_right _ h1,h2⟩
def Z7x (w:World) (e2:Env) (rows:List Row) (vals:List Value):Prop :=
 rows.length=vals.length∧∀ (j:Nat) (b:Row) (v:Value),rows[j]?=some b→vals[j]?=some v→b.live=true∧(∃ a l c,v=.slice a l c)∧Z12 w b.ty b.ks v (b.c.den e2.R e2.r)
theorem Z7x.app {r1 r2:List Row} {v1 v2:List Value} (h1:Z7x w e2 r1 v1) (h2:Z7x w e2 r2 v2):Z7x w e2 (r1++r2) (v1++v2):=by
 refine ⟨by simp [h1.1,h2.1],fun j b v hb hv=>?_⟩
 rcases Nat.lt_or_ge j r1.length with hj | hj
 ·rw [List.getElem?_append_left hj] at hb
  rw [List.getElem?_append_left (by rw [← h1.1]; exact hj)] at hv
  exact h1.2 j b v hb hv
 ·rw [List.getElem?_append_right hj] at hb
  rw [List.getElem?_append_right (by rw [← h1.1]; exact hj),← h1.1] at hv
  exact h2.2 _ b v hb hv
theorem Z10t (hrep:Rep ex W0 sx w) {ty:TypeId} {ks:List K} {c:SC} {aZ:List B} {x:E} {u:List Nat} (h:rowM sx ty ks c=some (aZ,x,u)) (has:∀ b ∈ aZ,b.den ex.R ex.r=true) :
  Z12 w ty ks (c.den ex) (x.den ex.R ex.r)∧VOK ex sx [c.den ex] u∧∃ a l cp,c.den ex=.slice a l cp:=by
 have single:∀ {v:Value} {u:List Nat},(∀ k,Z8 v=some k→∃ n b,n ∈ u∧sx.rows[n]?=some b∧b.live=true∧sx.flr≤n∧Z8 ((G.o n).val ex)=some k)→VOK ex sx [v] u:=by
  intro v u h
  exact ⟨List.pairwise_singleton _ _,fun v' hv'=>by simp only [List.mem_singleton] at hv'; subst hv'; exact h⟩
 unfold rowM at h
 split at h
 ·simp only [Option.some.injEq,Prod.mk.injEq] at h
  obtain ⟨rfl,rfl,rfl⟩:=h
  exact ⟨.inl ⟨by simp [E.den],_,rfl⟩,single (fun k hk=>by cases hk),_,_,_,rfl⟩
 ·rename_i g
  split at h
  ·rename_i hg
   simp only [Option.some.injEq,Prod.mk.injEq] at h
   obtain ⟨rfl,rfl,rfl⟩:=h
   obtain ⟨⟨ks',c'⟩,hg'⟩:=Option.isSome_iff_exists.1 hg
   obtain ⟨a,l,c,hv⟩:=G.val_slice ex g
   have hd:(SC.gz g).den ex=.slice a 0 0:=by simp only [SC.den]; rw [hv]; rfl
   rw [hd]
   exact ⟨.inl ⟨by simp [E.den],_,rfl⟩,single (fun k hk=>by cases a <;> simp [Z8] at hk),_,_,_,rfl⟩
  ·cases h
 ·rename_i n
  split at h
  ·rename_i b hb
   split at h
   ·rename_i hc
    simp only [Z1h3,Z1h4] at hc
    obtain ⟨⟨⟨hl,hf⟩,hty⟩,hks⟩:=hc
    simp only [Option.some.injEq,Prod.mk.injEq] at h
    obtain ⟨rfl,rfl,rfl⟩:=h
    subst hty
    rw [← Z2a hks]
    exact ⟨hrep.row n b hb hl,single (fun k hk=>⟨n,b,by simp,hb,hl,hf,hk⟩),G.val_slice ex (.o n)⟩
   ·cases h
  ·cases h
 ·rename_i n size hi
  split at h
  ·rename_i b hb
   split at h
   ·rename_i hc
    simp only [Z1h3,Z1h4] at hc
    obtain ⟨⟨⟨⟨hl,hf⟩,hty⟩,hks⟩,hsz⟩:=hc
    simp only [Option.some.injEq,Prod.mk.injEq] at h
    obtain ⟨rfl,rfl,rfl⟩:=h
    subst hty
    rw [← Z2a hks]
    obtain ⟨v1,v2,v3⟩:=Zdp has
    simp only [E.den] at v2
    obtain ⟨ht1,ht2⟩:=(hrep.row n b hb hl).take (c':=(Zao b.c hi).den ex.R ex.r) (hi:=(hi.den ex.R ex.r).toNat) (by rw [Zcq,Z4]) (by omega) size
    have hval:(SC.gv (.o n) size (.c 0) hi).den ex=Zi3 size ((G.o n).val ex) 0 (hi.den ex.R ex.r).toNat:=rfl
    rw [hval]
    refine ⟨ht1,single (fun k hk=>⟨n,b,by simp,hb,hl,hf,by rw [← ht2]; exact hk⟩),?_⟩
    obtain ⟨a,l,cp,hv⟩:=G.val_slice ex (.o n)
    rw [hv]
    exact ⟨_,_,_,rfl⟩
   ·cases h
  ·cases h
 ·cases h
theorem Z1dy (hrep:Rep ex W0 sx w) {ty:TypeId} {ks:List K} {c:SC} {x:E} {u:Nat} (h:arrM sx ty ks c=some (x,u)) :
  Z12 w ty ks ((G.o u).val ex) (x.den ex.R ex.r)∧VOK ex sx [(G.o u).val ex] [u]∧c.den ex=.pointer (atV ks.length ((G.o u).val ex) 0 0):=by
 unfold arrM at h
 split at h
 ·rename_i n size
  split at h
  ·rename_i b hb
   split at h
   ·rename_i hc
    simp only [Z1h3,Z1h4] at hc
    obtain ⟨⟨⟨⟨hl,hf⟩,hty⟩,hks⟩,hsz⟩:=hc
    simp only [Option.some.injEq,Prod.mk.injEq] at h
    obtain ⟨rfl,rfl⟩:=h
    subst hty
    rw [← Z2a hks] at hsz ⊢
    subst hsz
    refine ⟨hrep.row n b hb hl,⟨List.pairwise_singleton _ _,fun v' hv'=>?_⟩,rfl⟩
    simp only [List.mem_singleton] at hv'
    subst hv'
    exact fun k hk=>⟨n,b,by simp,hb,hl,hf,hk⟩
   ·cases h
  ·cases h
 ·cases h
def arrV (ex:Env):SC→Value
 | .gp (.o n) _ _ _=>slV (ex.σ.getD n undef)
 | _=>.slice none 0 0
theorem Z10u {ty:TypeId} {ks:List K} {c:SC} {x:E} {u:Nat} (h:arrM sx ty ks c=some (x,u)):arrV ex c=(G.o u).val ex:=by
 unfold arrM at h
 split at h
 ·split at h
  ·split at h
   ·simp only [Option.some.injEq,Prod.mk.injEq] at h
    obtain ⟨_,rfl⟩:=h
    rfl
   ·cases h
  ·cases h
 ·cases h
noncomputable def Z40 (ex:Env):List Ck→List SC→List Value
 | .arr _ _::l,x::xs=>arrV ex x::Z40 ex l xs
 | .row _ _::l,x::xs=>x.den ex::Z40 ex l xs
 | _::l,_::xs=>Z40 ex l xs
 | _,_=>[]
theorem Zfy (hrep:Rep ex W0 sx w):∀ {l:List Ck} {cs xs:List SC} {aZ:List B} {es:List E} {us:List Nat},Z2l sx l cs xs=some (aZ,es,us)→(∀ b ∈ aZ,b.den ex.R ex.r=true)→us.Nodup →
  es.length=nvC l∧(Z40 ex l xs).length=ngC l∧VOK ex sx (Z40 ex l xs) us∧∀ (e2:Env) (nv ng:Nat),(∀ c ∈ cs,c.den e2=c.den ex)→(∀ (t:Nat) (n:Int),(es.map (E.den ex.R ex.r))[t]?=some n→e2.r.getD (nv + t) 0=n) →
   (∀ (t:Nat) (v:Value),(Z40 ex l xs)[t]?=some v→(G.o (ng + t)).val e2=v)→(Zqg l cs nv ng).map (SC.den e2)=xs.map (SC.den ex)∧Z7x w e2 (Zib l nv) (Z40 ex l xs):=by
 intro l
 induction l with
 | nil =>
  intro cs xs aZ es us h _ _
  cases cs <;> cases xs <;> simp only [Z2l,Option.some.injEq,Prod.mk.injEq,reduceCtorEq] at h
  obtain ⟨rfl,rfl,rfl⟩:=h
  exact ⟨rfl,rfl,VOK.nil _ _,fun e2 nv ng _ _ _=>⟨rfl,rfl,fun j b v hb=>by simp [Zib] at hb⟩⟩
 | cons p l ih =>
  intro cs xs aZ es us h has hnd
  cases cs with
  | nil=>cases p <;> simp [Z2l] at h
  | cons c cs =>
   cases xs with
   | nil=>cases p <;> simp [Z2l] at h
   | cons x xs =>
    cases p with
    | keep =>
     simp only [Z2l] at h
     split at h
     ·rename_i hs
      have hcx:=SC.same_eq hs
      subst hcx
      obtain ⟨h1,h2,h3,h4⟩:=ih h has hnd
      refine ⟨h1,h2,h3,fun e2 nv ng hc hv hg=>?_⟩
      obtain ⟨h5,h6⟩:=h4 e2 nv ng (fun c hc'=>hc c (by simp [hc'])) hv hg
      exact ⟨by simp only [Zqg,Z1gw,h5,hc c (by simp)],h6⟩
     ·cases h
    | num k =>
     simp only [Z2l] at h
     split at h
     ·rename_i xe as1 es1 us1 hf hm
      simp only [Option.some.injEq,Prod.mk.injEq] at h
      obtain ⟨rfl,rfl,rfl⟩:=h
      obtain ⟨h1,h2,h3,h4⟩:=ih hm has hnd
      refine ⟨by simp [nvC,h1],by simpa [Z40,ngC] using h2,by simpa [Z40] using h3,fun e2 nv ng hc hv hg=>?_⟩
      obtain ⟨h5,h6⟩:=h4 e2 (nv + 1) ng (fun c hc'=>hc c (by simp [hc'])) (fun t n ht=>by
       have:=hv (t + 1) n (by simpa using ht)
       rwa [show nv + (t + 1)=nv + 1 + t by omega] at this) (fun t v ht=>hg t v (by simpa [Z40] using ht))
      have h0:=hv 0 (xe.den ex.R ex.r) rfl
      rw [Nat.add_zero] at h0
      obtain ⟨_,hd⟩:=Z30 (e:=ex) hf
      simp only [Z1gw,Z1gx,Z9,List.cons.injEq,and_true] at hd
      refine ⟨?_,by simpa [Zib,Z40] using h6⟩
      cases k with
      | i k =>
       simp only [Zqg,Z1gw,h5,hd,K.mk]
       congr 1
       simp only [SC.den,E.den,h0]
      | b =>
       simp only [Zqg,Z1gw,h5,hd,K.mk]
       congr 1
       simp only [SC.den,B.den,E.den,h0]
      | s ty kr=>cases x <;> simp [Z2w] at hf
     ·cases h
    | row ty ks =>
     simp only [Z2l] at h
     split at h
     ·rename_i as1 xe u1 as2 es2 us2 hr hm
      simp only [Option.some.injEq,Prod.mk.injEq] at h
      obtain ⟨rfl,rfl,rfl⟩:=h
      obtain ⟨h1,h2,h3,h4⟩:=ih hm (fun b hb=>has b (List.mem_append_right _ hb)) (List.nodup_append.1 hnd).2.1
      obtain ⟨r1,r2,r3⟩:=Z10t hrep hr (fun b hb=>has b (List.mem_append_left _ hb))
      refine ⟨by simp [nvC,h1],by simp [Z40,ngC,h2],by simpa [Z40] using VOK.app hrep r2 h3 hnd,fun e2 nv ng hc hv hg=>?_⟩
      obtain ⟨h5,h6⟩:=h4 e2 (nv + 1) (ng + 1) (fun c hc'=>hc c (by simp [hc'])) (fun t n ht=>by
       have:=hv (t + 1) n (by simpa using ht)
       rwa [show nv + (t + 1)=nv + 1 + t by omega] at this) (fun t v ht=>by
       have:=hg (t + 1) v (by simpa [Z40] using ht)
       rwa [show ng + (t + 1)=ng + 1 + t by omega] at this)
      have h0:=hv 0 (xe.den ex.R ex.r) rfl
      rw [Nat.add_zero] at h0
      have hg0:=hg 0 (x.den ex) rfl
      rw [Nat.add_zero] at hg0
      refine ⟨?_,?_⟩
      ·simp only [Zqg,Z1gw,h5]
       congr 1
      ·have hone:Z7x w e2 [(⟨ty,ks,.v nv,true⟩:Row)] [x.den ex]:=⟨rfl,fun j b v hb hv'=>by
        cases j with
        | zero =>
         simp only [Z1gq,Option.some.injEq] at hb hv'
         subst hb; subst hv'
         refine ⟨rfl,r3,?_⟩
         show Z12 w ty ks _ (e2.r.getD nv 0)
         rw [h0]
         exact r1
        | succ j=>simp at hb⟩
       exact hone.app h6
     ·cases h
    | arr ty ks =>
     simp only [Z2l] at h
     split at h
     ·rename_i xe u1 as2 es2 us2 hr hm
      simp only [Option.some.injEq,Prod.mk.injEq] at h
      obtain ⟨rfl,rfl,rfl⟩:=h
      obtain ⟨h1,h2,h3,h4⟩:=ih hm has (List.nodup_append.1 hnd).2.1
      obtain ⟨r1,r2,r3⟩:=Z1dy hrep hr
      have r4:=Z10u (ex:=ex) hr
      rw [← r4] at r2
      refine ⟨by simp [nvC,h1],by simp [Z40,ngC,h2],by simpa [Z40] using VOK.app hrep r2 h3 hnd,fun e2 nv ng hc hv hg=>?_⟩
      obtain ⟨h5,h6⟩:=h4 e2 (nv + 1) (ng + 1) (fun c hc'=>hc c (by simp [hc'])) (fun t n ht=>by
       have:=hv (t + 1) n (by simpa using ht)
       rwa [show nv + (t + 1)=nv + 1 + t by omega] at this) (fun t v ht=>by
       have:=hg (t + 1) v (by simpa [Z40] using ht)
       rwa [show ng + (t + 1)=ng + 1 + t by omega] at this)
      have h0:=hv 0 (xe.den ex.R ex.r) rfl
      rw [Nat.add_zero] at h0
      have hg0:=hg 0 (arrV ex x) rfl
      rw [Nat.add_zero,r4] at hg0
      refine ⟨?_,?_⟩
      ·simp only [Zqg,Z1gw,h5]
       congr 1
       rw [r3]
       simp only [SC.den,hg0,E.den]
       rfl
      ·have hone:Z7x w e2 [(⟨ty,ks,.v nv,true⟩:Row)] [arrV ex x]:=⟨rfl,fun j b v hb hv'=>by
        cases j with
        | zero =>
         simp only [Z1gq,Option.some.injEq] at hb hv'
         subst hb; subst hv'
         rw [r4]
         refine ⟨rfl,G.val_slice ex (.o u1),?_⟩
         show Z12 w ty ks _ (e2.r.getD nv 0)
         rw [h0]
         exact r1
        | succ j=>simp at hb⟩
       exact hone.app h6
     ·cases h
noncomputable def Z10v (ex:Env) (p:List Ck) (x:SV):List Value:=match x with
 | .w y=>Z40 ex p y.cells
 | _=>[]
noncomputable def Za5 (ex:Env):List Sk→List SV→List Value
 | .cells p::l,x::xs=>Z10v ex p x++Za5 ex l xs
 | _::l,_::xs=>Za5 ex l xs
 | _,_=>[]
noncomputable def Z10w (ex:Env):List Sk→List SV→List Value
 | .un::l,x::xs=>x.den ex::Z10w ex l xs
 | _::l,_::xs=>Z10w ex l xs
 | _,_=>[]
theorem Z8z {α:Type} {P:Nat→α→Prop} {a b:List α} (h:∀ (t:Nat) (n:α),(a++b)[t]?=some n→P t n):∀ (t:Nat) (n:α),a[t]?=some n→P t n:=fun t n ht=>h t n (by
 rw [List.getElem?_append_left (List.getElem?_eq_some_iff.1 ht).1]; exact ht)
theorem Z5l {α:Type} {P:Nat→α→Prop} {a b:List α} (h:∀ (t:Nat) (n:α),(a++b)[t]?=some n→P t n):∀ (t:Nat) (n:α),b[t]?=some n→P (a.length + t) n:=fun t n ht=>h _ n (by
 rw [List.getElem?_append_right (by omega),Nat.add_sub_cancel_left]; exact ht)
theorem Z10x (hrep:Rep ex W0 sx w) {l:List Ck} {v x:SV} {aZ:List B} {es:List E} {us:List Nat} (h:Zta sx l v x=some (aZ,es,us)) (has:∀ b ∈ aZ,b.den ex.R ex.r=true) (hnd:us.Nodup) :
  es.length=nvC l∧(Z10v ex l x).length=ngC l∧VOK ex sx (Z10v ex l x) us∧∀ (e2:Env) (nv ng:Nat),(∀ y,v=.w y→∀ c ∈ y.cells,c.den e2=c.den ex)→(∀ (t:Nat) (n:Int),(es.map (E.den ex.R ex.r))[t]?=some n→e2.r.getD (nv + t) 0=n) →
   (∀ (t:Nat) (v:Value),(Z10v ex l x)[t]?=some v→(G.o (ng + t)).val e2=v)→(genV l v nv ng).den e2=x.den ex∧Z7x w e2 (Zib l nv) (Z10v ex l x):=by
 unfold Zta at h
 split at h
 ·rename_i c d
  obtain ⟨h1,h2,h3,h4⟩:=Zfy hrep h has hnd
  refine ⟨h1,h2,h3,fun e2 nv ng hc hv hg=>?_⟩
  obtain ⟨h5,h6⟩:=h4 e2 nv ng (hc _ rfl) hv hg
  refine ⟨?_,h6⟩
  cases hgc:Zqg l [c] nv ng with
  | nil=>rw [hgc] at h5; simp at h5
  | cons c' r =>
   rw [hgc] at h5
   simp only [Z1gw,Z1gx,List.cons.injEq] at h5
   simp only [genV,hgc]
   exact h5.1
 ·rename_i cs ds
  obtain ⟨h1,h2,h3,h4⟩:=Zfy hrep h has hnd
  refine ⟨h1,h2,h3,fun e2 nv ng hc hv hg=>?_⟩
  obtain ⟨h5,h6⟩:=h4 e2 nv ng (hc _ rfl) hv hg
  refine ⟨?_,h6⟩
  simp only [genV,SV.den,SW.den,h5]
 ·cases h
theorem Z10y (hrep:Rep ex W0 sx w):∀ {l:List Sk} {vs xs:List SV} {aZ:List B} {es:List E} {us:List Nat},Z2x sx l vs xs=some (aZ,es,us)→(∀ b ∈ aZ,b.den ex.R ex.r=true)→us.Nodup →
  es.length=nvS l∧(Za5 ex l xs).length=ngS l∧(Z10w ex l xs).length=nxS l∧VOK ex sx (Za5 ex l xs) us∧∀ (e2:Env) (nv ng nx:Nat),(∀ v ∈ vs,v.den e2=v.den ex∧∀ y,v=.w y→∀ c ∈ y.cells,c.den e2=c.den ex) →
   (∀ (t:Nat) (n:Int),(es.map (E.den ex.R ex.r))[t]?=some n→e2.r.getD (nv + t) 0=n)→(∀ (t:Nat) (v:Value),(Za5 ex l xs)[t]?=some v→(G.o (ng + t)).val e2=v) →
   (∀ (t:Nat) (v:Value),(Z10w ex l xs)[t]?=some v→e2.ω.getD (nx + t) undef=v)→(Z16a l vs nv ng nx).map (SV.den e2)=xs.map (SV.den ex)∧Z7x w e2 (Zn0 l nv) (Za5 ex l xs):=by
 intro l
 induction l with
 | nil =>
  intro vs xs aZ es us h _ _
  cases vs <;> cases xs <;> simp only [Z2x,Option.some.injEq,Prod.mk.injEq,reduceCtorEq] at h
  obtain ⟨rfl,rfl,rfl⟩:=h
  exact ⟨rfl,rfl,rfl,VOK.nil _ _,fun e2 nv ng nx _ _ _ _=>⟨rfl,rfl,fun j b v hb=>by simp [Zn0] at hb⟩⟩
 | cons p l ih =>
  intro vs xs aZ es us h has hnd
  cases vs with
  | nil=>cases p <;> simp [Z2x] at h
  | cons v vs =>
   cases xs with
   | nil=>cases p <;> simp [Z2x] at h
   | cons x xs =>
    cases p with
    | keep =>
     simp only [Z2x] at h
     split at h
     ·rename_i hs
      have hcx:=SV.same_eq hs
      subst hcx
      obtain ⟨h1,h2,h2u,h3,h4⟩:=ih h has hnd
      refine ⟨h1,h2,h2u,h3,fun e2 nv ng nx hc hv hg hu=>?_⟩
      obtain ⟨h5,h6⟩:=h4 e2 nv ng nx (fun c hc'=>hc c (by simp [hc'])) hv hg hu
      exact ⟨by simp only [Z16a,Z1gw,h5,(hc v (by simp)).1],h6⟩
     ·cases h
    | un =>
     simp only [Z2x] at h
     obtain ⟨h1,h2,h2u,h3,h4⟩:=ih h has hnd
     refine ⟨h1,h2,by simp [Z10w,nxS,h2u],h3,fun e2 nv ng nx hc hv hg hu=>?_⟩
     obtain ⟨h5,h6⟩:=h4 e2 nv ng (nx + 1) (fun c hc'=>hc c (by simp [hc'])) hv hg (fun t v ht=>by
      have:=hu (t + 1) v (by simpa [Z10w] using ht)
      rwa [show nx + (t + 1)=nx + 1 + t by omega] at this)
     have h0:=hu 0 (x.den ex) rfl
     rw [Nat.add_zero] at h0
     exact ⟨by simp only [Z16a,Z1gw,h5,SV.den,h0],h6⟩
    | cells p =>
     simp only [Z2x] at h
     split at h
     ·rename_i as1 es1 us1 as2 es2 us2 hm1 hm2
      simp only [Option.some.injEq,Prod.mk.injEq] at h
      obtain ⟨rfl,rfl,rfl⟩:=h
      obtain ⟨n1,n2,n3⟩:=List.nodup_append.1 hnd
      obtain ⟨a1,a2,a3,a4⟩:=Z10x hrep hm1 (fun b hb=>has b (List.mem_append_left _ hb)) n1
      obtain ⟨b1,b2,b2u,b3,b4⟩:=ih hm2 (fun b hb=>has b (List.mem_append_right _ hb)) n2
      refine ⟨by simp [nvS,a1,b1],by simp [Za5,ngS,a2,b2],b2u,VOK.app hrep a3 b3 hnd,fun e2 nv ng nx hc hv hg hu=>?_⟩
      rw [List.map_append] at hv
      simp only [Za5] at hg
      obtain ⟨a5,a6⟩:=a4 e2 nv ng (fun y hy=>(hc v (by simp)).2 y hy) (Z8z hv) (Z8z hg)
      obtain ⟨b5,b6⟩:=b4 e2 (nv + nvC p) (ng + ngC p) nx (fun c hc'=>hc c (by simp [hc'])) (fun t n ht=>by
       have:=Z5l hv t n ht
       rwa [List.length_map,a1,← Nat.add_assoc] at this) (fun t v ht=>by
       have:=Z5l hg t v ht
       rwa [a2,← Nat.add_assoc] at this) hu
      exact ⟨by simp only [Z16a,Z1gw,a5,b5],a6.app b6⟩
     ·cases h
noncomputable def Zfz (ex:Env):List (List Ck)→List Blk→List Value
 | p::l,x::xs=>Z40 ex p x.cells++Zfz ex l xs
 | _,_=>[]
theorem Z10z (hrep:Rep ex W0 sx w):∀ {l:List (List Ck)} {bs xs:List Blk} {aZ:List B} {es:List E} {us:List Nat},Z5e sx l bs xs=some (aZ,es,us)→(∀ b ∈ aZ,b.den ex.R ex.r=true)→us.Nodup →
  l.length=bs.length∧es.length=nvM l∧(Zfz ex l xs).length=(l.map ngC).sum∧VOK ex sx (Zfz ex l xs) us∧∀ (e2:Env) (nv ng:Nat),(∀ b ∈ bs,∀ c ∈ b.cells,c.den e2=c.den ex) →
   (∀ (t:Nat) (n:Int),(es.map (E.den ex.R ex.r))[t]?=some n→e2.r.getD (nv + t) 0=n)→(∀ (t:Nat) (v:Value),(Zfz ex l xs)[t]?=some v→(G.o (ng + t)).val e2=v) →
   (∀ (n:Nat) (b:Blk),(Z16b l bs nv ng)[n]?=some b→∃ x:Blk,xs[n]?=some x∧x.live=true∧b.ty=x.ty∧b.cells.map (SC.den e2)=x.cells.map (SC.den ex))∧Z7x w e2 (Zqh l nv) (Zfz ex l xs)∧(Z16b l bs nv ng).length=bs.length:=by
 intro l
 induction l with
 | nil =>
  intro bs xs aZ es us h _ _
  cases bs <;> simp only [Z5e,Option.some.injEq,Prod.mk.injEq,reduceCtorEq] at h
  obtain ⟨rfl,rfl,rfl⟩:=h
  exact ⟨rfl,rfl,rfl,VOK.nil _ _,fun e2 nv ng _ _ _=>⟨fun n b hb=>by simp [Z16b] at hb,⟨rfl,fun j b v hb=>by simp [Zqh] at hb⟩,rfl⟩⟩
 | cons p l ih =>
  intro bs xs aZ es us h has hnd
  cases bs with
  | nil=>simp [Z5e] at h
  | cons b bs =>
   cases xs with
   | nil=>simp [Z5e] at h
   | cons x xs =>
    simp only [Z5e] at h
    split at h
    ·rename_i hc
     simp only [Z1h3,Z1h4] at hc
     split at h
     ·rename_i as1 es1 us1 as2 es2 us2 hm1 hm2
      simp only [Option.some.injEq,Prod.mk.injEq] at h
      obtain ⟨rfl,rfl,rfl⟩:=h
      obtain ⟨n1,n2,n3⟩:=List.nodup_append.1 hnd
      obtain ⟨a1,a2,a3,a4⟩:=Zfy hrep hm1 (fun b hb=>has b (List.mem_append_left _ hb)) n1
      obtain ⟨b0,b1,b2,b3,b4⟩:=ih hm2 (fun b hb=>has b (List.mem_append_right _ hb)) n2
      refine ⟨by simp [b0],by simp [nvM,a1,b1],by simp [Zfz,a2,b2],VOK.app hrep a3 b3 hnd,fun e2 nv ng hcc hv hg=>?_⟩
      rw [List.map_append] at hv
      simp only [Zfz] at hg
      obtain ⟨a5,a6⟩:=a4 e2 nv ng (hcc b (by simp)) (Z8z hv) (Z8z hg)
      obtain ⟨b5,b6,b7⟩:=b4 e2 (nv + nvC p) (ng + ngC p) (fun b hb=>hcc b (by simp [hb])) (fun t n ht=>by
       have:=Z5l hv t n ht
       rwa [List.length_map,a1,← Nat.add_assoc] at this) (fun t v ht=>by
       have:=Z5l hg t v ht
       rwa [a2,← Nat.add_assoc] at this)
      refine ⟨fun n b' hb'=>?_,a6.app b6,by simp [Z16b,b7]⟩
      cases n with
      | zero =>
       simp only [Z16b,Z1gq,Option.some.injEq] at hb'
       subst hb'
       exact ⟨x,rfl,hc.1.2,hc.2,a5⟩
      | succ n =>
       obtain ⟨y,h1,h2⟩:=b5 n b' (by simpa [Z16b] using hb')
       exact ⟨y,by simpa using h1,h2⟩
     ·cases h
    ·cases h
theorem Zns (us:List Nat):∀ (l:List Row) (k n:Nat),(Z77 us k l)[n]?=(l[n]?).map fun b=>if us.contains (k + n) then { b with live:=false } else b
 | [],k,n=>by simp [Z77]
 | b::l,k,0=>by simp [Z77]
 | b::l,k,n + 1=>by
  simp only [Z77,Z1gr]
  rw [Zns us l (k + 1) n]
  simp only [Nat.add_assoc,Nat.add_comm 1 n]
theorem Z2t (us:List Nat):∀ (l:List Row) (k:Nat),(Z77 us k l).length=l.length
 | [],_=>rfl
 | _::l,k=>by simp [Z77,Z2t us l (k + 1)]
theorem Zcv {us:List Nat} {l:List Row} {n:Nat} {b:Row} (h:(Z77 us 0 l)[n]?=some b) (hl:b.live=true):l[n]?=some b∧n ∉ us:=by
 rw [Zns,Option.map_eq_some_iff] at h
 obtain ⟨b',h1,h2⟩:=h
 simp only [Nat.zero_add] at h2
 split at h2
 ·subst h2; cases hl
 ·rename_i hn
  subst h2
  exact ⟨h1,by simpa using hn⟩
theorem Zj1 {us:List Nat}:∀ {l xs:List Row} {k:Nat},Zx3 us k l xs=true→∀ (n:Nat) (b:Row),l[n]?=some b→b.live=true→k + n ∉ us∧∃ x:Row,xs[n]?=some x∧x.live=true∧b.ty=x.ty∧b.ks=x.ks∧b.c=x.c
 | [],_,_,_,n,b,hb,_=>by simp at hb
 | b0::l,[],k,h,_,_,_,_=>by simp [Zx3] at h
 | b0::l,x::xs,k,h,n,b,hb,hl=>by
  simp only [Zx3,Z1h3] at h
  cases n with
  | zero =>
   simp only [Z1gq,Option.some.injEq] at hb
   subst hb
   have h1:=h.1
   simp only [hl,Bool.not_true,Bool.false_or,Z1h3,Z1h4,Bool.not_eq_true'] at h1
   obtain ⟨⟨⟨⟨h2,h3⟩,h4⟩,h5⟩,h6⟩:=h1
   exact ⟨by simpa using h6,x,rfl,h2,h3,Z2a h4,E.same_eq _ _ h5⟩
  | succ n =>
   obtain ⟨h1,y,h2⟩:=Zj1 h.2 n b (by simpa using hb) hl
   exact ⟨by rwa [show k + (n + 1)=k + 1 + n by omega],y,by simpa using h2⟩
theorem Zg0 {v:Value} (h:∃ a l c,v=.slice a l c):slV v=v:=by
 obtain ⟨a,l,c,rfl⟩:=h
 rfl
theorem E.den_R (R R':Fo) (r:List Int):∀ a:E,a.den R r=a.den R' r:=by
 intro a
 induction a <;> simp only [E.den] <;> simp_all
theorem Za6 (hrep:Rep ex W0 sx w):∀ {l:List Ck} {cs xs:List SC} {aZ:List B} {es:List E} {us:List Nat},Z2l sx l cs xs=some (aZ,es,us)→(∀ b ∈ aZ,b.den ex.R ex.r=true)→∀ v ∈ Z40 ex l xs,∃ a l c,v=.slice a l c:=by
 intro l
 induction l with
 | nil=>intro cs xs aZ es us _ _ v hv; cases xs <;> simp [Z40] at hv
 | cons p l ih =>
  intro cs xs aZ es us h has v hv
  cases cs with
  | nil=>cases p <;> simp [Z2l] at h
  | cons c cs =>
   cases xs with
   | nil=>cases p <;> simp [Z2l] at h
   | cons x xs =>
    cases p with
    | keep =>
     simp only [Z2l] at h
     split at h
     ·exact ih h has v (by simpa [Z40] using hv)
     ·cases h
    | num k =>
     simp only [Z2l] at h
     split at h
     ·rename_i xe as1 es1 us1 hf hm
      simp only [Option.some.injEq,Prod.mk.injEq] at h
      obtain ⟨rfl,rfl,rfl⟩:=h
      exact ih hm has v (by simpa [Z40] using hv)
     ·cases h
    | row ty ks =>
     simp only [Z2l] at h
     split at h
     ·rename_i as1 xe u1 as2 es2 us2 hr hm
      simp only [Option.some.injEq,Prod.mk.injEq] at h
      obtain ⟨rfl,rfl,rfl⟩:=h
      simp only [Z40,List.mem_cons] at hv
      rcases hv with rfl | hv
      ·exact (Z10t hrep hr (fun b hb=>has b (List.mem_append_left _ hb))).2.2
      ·exact ih hm (fun b hb=>has b (List.mem_append_right _ hb)) v hv
     ·cases h
    | arr ty ks =>
     simp only [Z2l] at h
     split at h
     ·rename_i xe u1 as2 es2 us2 hr hm
      simp only [Option.some.injEq,Prod.mk.injEq] at h
      obtain ⟨rfl,rfl,rfl⟩:=h
      simp only [Z40,List.mem_cons] at hv
      rcases hv with rfl | hv
      ·rw [Z10u hr]
       exact G.val_slice ex (.o u1)
      ·exact ih hm has v hv
     ·cases h
theorem Zqw (hrep:Rep ex W0 sx w):∀ {l:List Sk} {vs xs:List SV} {aZ:List B} {es:List E} {us:List Nat},Z2x sx l vs xs=some (aZ,es,us)→(∀ b ∈ aZ,b.den ex.R ex.r=true)→∀ v ∈ Za5 ex l xs,∃ a l c,v=.slice a l c:=by
 intro l
 induction l with
 | nil=>intro cs xs aZ es us _ _ v hv; cases xs <;> simp [Za5] at hv
 | cons p l ih =>
  intro vs xs aZ es us h has v hv
  cases vs with
  | nil=>cases p <;> simp [Z2x] at h
  | cons c cs =>
   cases xs with
   | nil=>cases p <;> simp [Z2x] at h
   | cons x xs =>
    cases p with
    | keep =>
     simp only [Z2x] at h
     split at h
     ·exact ih h has v (by simpa [Za5] using hv)
     ·cases h
    | un =>
     simp only [Z2x] at h
     exact ih h has v (by simpa [Za5] using hv)
    | cells p =>
     simp only [Z2x] at h
     split at h
     ·rename_i as1 es1 us1 as2 es2 us2 hm1 hm2
      simp only [Option.some.injEq,Prod.mk.injEq] at h
      obtain ⟨rfl,rfl,rfl⟩:=h
      simp only [Za5,List.mem_append] at hv
      rcases hv with hv | hv
      ·unfold Zta at hm1
       split at hm1
       ·exact Za6 hrep hm1 (fun b hb=>has b (List.mem_append_left _ hb)) v hv
       ·exact Za6 hrep hm1 (fun b hb=>has b (List.mem_append_left _ hb)) v hv
       ·cases hm1
      ·exact ih hm2 (fun b hb=>has b (List.mem_append_right _ hb)) v hv
     ·cases h
theorem Zqx (hrep:Rep ex W0 sx w):∀ {l:List (List Ck)} {bs xs:List Blk} {aZ:List B} {es:List E} {us:List Nat},Z5e sx l bs xs=some (aZ,es,us)→(∀ b ∈ aZ,b.den ex.R ex.r=true)→∀ v ∈ Zfz ex l xs,∃ a l c,v=.slice a l c:=by
 intro l
 induction l with
 | nil=>intro cs xs aZ es us _ _ v hv; cases xs <;> simp [Zfz] at hv
 | cons p l ih =>
  intro vs xs aZ es us h has v hv
  cases vs with
  | nil=>simp [Z5e] at h
  | cons c cs =>
   cases xs with
   | nil=>simp [Z5e] at h
   | cons x xs =>
    simp only [Z5e] at h
    split at h
    ·split at h
     ·rename_i as1 es1 us1 as2 es2 us2 hm1 hm2
      simp only [Option.some.injEq,Prod.mk.injEq] at h
      obtain ⟨rfl,rfl,rfl⟩:=h
      simp only [Zfz,List.mem_append] at hv
      rcases hv with hv | hv
      ·exact Za6 hrep hm1 (fun b hb=>has b (List.mem_append_left _ hb)) v hv
      ·exact ih hm2 (fun b hb=>has b (List.mem_append_right _ hb)) v hv
     ·cases h
    ·cases h
theorem Znt {pl:Zdy} {s:St} {e:Env} {w0:World} {a:Act} {us0:List Nat} {as1 as2:List B} {es1 es2:List E} {us1 us2:List Nat} (h0:Rep e W0 s w0) (hsc:s.sc=true) (hle:Env.le e ex) (hx:Rel ex W0 sx a w)
  (hfl:sx.fl=s.fl) (hflr:sx.flr=s.flr) (hm1:Z2x sx pl.fr s.fr sx.fr=some (as1,es1,us1)) (hm2:Z5e sx pl.mem s.mem sx.mem=some (as2,es2,us2)) (hnd:Zdn (us1++us2)=true) (has:∀ b ∈ as1++as2,b.den ex.R ex.r=true)
  (hrows:∀ (n:Nat) (b:Row),(Z77 us0 0 s.rows)[n]?=some b→b.live=true→n ∉ us1++us2∧∃ x:Row,sx.rows[n]?=some x∧x.live=true∧b.ty=x.ty∧b.ks=x.ks∧b.c=x.c) :
  ∃ e2,Env.le e e2∧e2.r=e.r++(es1++es2).map (E.den ex.R ex.r)∧e2.R=e.R∧Rel e2 W0 (Z1dm pl s us0) a w:=by
 have hN:=Z6c hnd
 obtain ⟨n1,n2,n3⟩:=List.nodup_append.1 hN
 obtain ⟨a1,a2,a2u,a3,a4⟩:=Z10y hx.rep hm1 (fun b hb=>has b (List.mem_append_left _ hb)) n1
 obtain ⟨b0,b1,b2,b3,b4⟩:=Z10z hx.rep hm2 (fun b hb=>has b (List.mem_append_right _ hb)) n2
 have hV:=VOK.app hx.rep a3 b3 hN
 generalize hvals:Za5 ex pl.fr sx.fr++Zfz ex pl.mem sx.mem=vals at hV
 have hle2:Env.le e { r:=e.r++(es1++es2).map (E.den ex.R ex.r),β:=e.β,σ:=e.σ++vals,ω:=e.ω++Z10w ex pl.fr sx.fr,R:=e.R }:=⟨(es1++es2).map (E.den ex.R ex.r),[],vals,Z10w ex pl.fr sx.fr,by simp⟩
 generalize he2:({ r:=e.r++(es1++es2).map (E.den ex.R ex.r),β:=e.β,σ:=e.σ++vals,ω:=e.ω++Z10w ex pl.fr sx.fr,R:=e.R }:Env)=e2 at hle2
 have er:e2.r=e.r++(es1++es2).map (E.den ex.R ex.r):=by rw [← he2]
 have eβ:e2.β=e.β:=by rw [← he2]
 have eσ:e2.σ=e.σ++vals:=by rw [← he2]
 have eω:e2.ω=e.ω++Z10w ex pl.fr sx.fr:=by rw [← he2]
 have eR:e2.R=e.R:=by rw [← he2]
 have hsc':=hsc
 simp only [St.sc,Z1h3] at hsc'
 obtain ⟨⟨sf,sm⟩,sr,sh⟩:=hsc'
 rw [← h0.nv,← h0.nb,← h0.ng] at sf sm
 rw [← h0.nx] at sf
 rw [← h0.nv] at sr sh
 have cden:∀ c:SC,c.sc e.r.length e.β.length e.σ.length=true→c.den e2=c.den ex:=fun c hc=>(SC.den_le hle2 c hc).trans (SC.den_le hle c hc).symm
 have vden:∀ v ∈ s.fr,v.den e2=v.den ex∧∀ y,v=.w y→∀ c ∈ y.cells,c.den e2=c.den ex:=fun v hv=>by
  have h1:=List.all_eq_true.1 sf v hv
  refine ⟨(SV.den_le hle2 v h1).trans (SV.den_le hle v h1).symm,fun y hy c hc=>cden c ?_⟩
  subst hy
  cases y with
  | o c'=>simp only [SW.cells,List.mem_singleton] at hc; subst hc; exact h1
  | a cs=>exact List.all_eq_true.1 h1 c hc
 have hv:∀ (t:Nat) (n:Int),((es1++es2).map (E.den ex.R ex.r))[t]?=some n→e2.r.getD (s.nv + t) 0=n:=fun t n ht=>by
  rw [er,← h0.nv]
  simp only [List.getD]
  rw [List.getElem?_append_right (by omega),Nat.add_sub_cancel_left,ht]
  rfl
 have hsl:∀ v ∈ vals,∃ a l c,v=.slice a l c:=by
  intro v hv'
  obtain ⟨j,hj⟩:=List.getElem?_of_mem hv'
  rw [← hvals] at hj
  have key:∀ {rows:List Row} {vs:List Value} {e3:Env},Z7x w e3 rows vs→∀ {j:Nat} {v:Value},vs[j]?=some v→∃ a l c,v=.slice a l c:=by
   intro rows vs e3 hR j v hj
   have hlt:j < rows.length:=by rw [hR.1]; exact (List.getElem?_eq_some_iff.1 hj).1
   exact (hR.2 j rows[j] v (List.getElem?_eq_getElem hlt) hj).2.1
  rcases Nat.lt_or_ge j (Za5 ex pl.fr sx.fr).length with hlt | hge
  ·rw [List.getElem?_append_left hlt] at hj
   exact Zqw hx.rep hm1 (fun b hb=>has b (List.mem_append_left _ hb)) v (List.mem_of_getElem? hj)
  ·rw [List.getElem?_append_right hge] at hj
   exact Zqx hx.rep hm2 (fun b hb=>has b (List.mem_append_right _ hb)) v (List.mem_of_getElem? hj)
 have hg:∀ (t:Nat) (v:Value),vals[t]?=some v→(G.o (s.rows.length + t)).val e2=v:=fun t v ht=>by
  simp only [G.val]
  rw [eσ,← h0.ng]
  have:(e.σ++vals).getD (e.σ.length + t) undef=v:=by
   simp only [List.getD]
   rw [List.getElem?_append_right (by omega),Nat.add_sub_cancel_left,ht]
   rfl
  rw [this]
  exact Zg0 (hsl v (List.mem_of_getElem? ht))
 have hu:∀ (t:Nat) (v:Value),(Z10w ex pl.fr sx.fr)[t]?=some v→e2.ω.getD (s.nx + t) undef=v:=fun t v ht=>by
  rw [eω,← h0.nx]
  simp only [List.getD]
  rw [List.getElem?_append_right (by omega),Nat.add_sub_cancel_left,ht]
  rfl
 rw [List.map_append] at hv
 rw [← hvals] at hg
 obtain ⟨a5,a6⟩:=a4 e2 s.nv s.rows.length s.nx vden (Z8z hv) (Z8z hg) hu
 obtain ⟨b5,b6,b7⟩:=b4 e2 (s.nv + nvS pl.fr) (s.rows.length + ngS pl.fr) (fun b hb c hc=>cden c (List.all_eq_true.1 (List.all_eq_true.1 sm b hb) c hc)) (fun t n ht=>by
  have:=Z5l hv t n ht
  rwa [List.length_map,a1,← Nat.add_assoc] at this) (fun t v ht=>by
  have:=Z5l hg t v ht
  rwa [a2,← Nat.add_assoc] at this)
 have hR:=a6.app b6
 rw [hvals] at hR hg
 have hold:∀ (n:Nat) (b:Row),(Z77 us0 0 s.rows)[n]?=some b→b.live=true→n < s.rows.length∧n ∉ us1++us2∧(G.o n).val e2=(G.o n).val ex∧∃ x:Row,sx.rows[n]?=some x∧x.live=true∧Z12 w b.ty b.ks ((G.o n).val e2) (b.c.den e2.R e2.r):=fun n b hb hl=>by
  obtain ⟨h1,x,h2,h3,h4,h5,h6⟩:=hrows n b hb hl
  obtain ⟨hb',_⟩:=Zcv hb hl
  have hlt:=(List.getElem?_eq_some_iff.1 hb').1
  have hgs:(G.o n).sc e.r.length e.σ.length=true:=by simp only [G.sc,Z1h4]; rw [h0.ng]; exact hlt
  have hval:(G.o n).val e2=(G.o n).val ex:=(G.val_le hle2 _ hgs).trans (G.val_le hle _ hgs).symm
  refine ⟨hlt,h1,hval,x,h2,h3,?_⟩
  rw [hval,h4,h5]
  have hcd:b.c.den e2.R e2.r=x.c.den ex.R ex.r:=by
   rw [← h6]
   have hbs:=List.all_eq_true.1 sr b (List.mem_of_getElem? hb')
   have hle':=hle
   obtain ⟨p,_,_,_,q1,_,_,_,q5⟩:=hle'
   rw [er,q1,E.den_app _ _ _ _ hbs,E.den_app _ _ _ _ hbs]
   exact E.den_R _ _ _ _
  rw [hcd]
  exact hx.rep.row n x h2 h3
 have hcases:∀ (n:Nat) (b:Row),(Z1dm pl s us0).rows[n]?=some b→b.live=true→(n < s.rows.length∧(Z77 us0 0 s.rows)[n]?=some b)∨∃ j v,n=s.rows.length + j∧(Zn0 pl.fr s.nv++Zqh pl.mem (s.nv + nvS pl.fr))[j]?=some b∧vals[j]?=some v∧(G.o n).val e2=v:=by
  intro n b hb hl
  have hb':(Z77 us0 0 s.rows++(Zn0 pl.fr s.nv++Zqh pl.mem (s.nv + nvS pl.fr)))[n]?=some b:=hb
  rcases Nat.lt_or_ge n s.rows.length with hn | hn
  ·rw [List.getElem?_append_left (by rw [Z2t]; exact hn)] at hb'
   exact .inl ⟨hn,hb'⟩
  ·rw [List.getElem?_append_right (by rw [Z2t]; exact hn),Z2t] at hb'
   have hj:=(List.getElem?_eq_some_iff.1 hb').1
   have hv':vals[n - s.rows.length]?=some (vals[n - s.rows.length]'(by rw [← hR.1]; exact hj)):=List.getElem?_eq_getElem (by rw [← hR.1]; exact hj)
   refine .inr ⟨n - s.rows.length,_,by omega,hb',hv',?_⟩
   have:=hg _ _ hv'
   rwa [show s.rows.length + (n - s.rows.length)=n by omega] at this
 have hβ:∀ n,n < s.mem.length→e.β.getD n 0=ex.β.getD n 0:=fun n hn=>by
  obtain ⟨_,p,_,_,_,q2,_⟩:=hle
  rw [q2,Z19 _ _ _ _ (by rw [h0.nb]; exact hn)]
 have hmem:∀ (n:Nat) (b:Blk),(Z1dm pl s us0).mem[n]?=some b→n < s.mem.length∧∃ x:Blk,sx.mem[n]?=some x∧x.live=true∧b.ty=x.ty∧b.cells.map (SC.den e2)=x.cells.map (SC.den ex):=fun n b hb=>by
  have hb':(Z16b pl.mem s.mem (s.nv + nvS pl.fr) (s.rows.length + ngS pl.fr))[n]?=some b:=hb
  refine ⟨by rw [← b7]; exact (List.getElem?_eq_some_iff.1 hb').1,b5 n b hb'⟩
 have hnewblk:∀ v ∈ vals,∀ k,Z8 v=some k→∃ n b,n ∈ us1++us2∧sx.rows[n]?=some b∧b.live=true∧sx.flr≤n∧Z8 ((G.o n).val ex)=some k:=hV.2
 refine ⟨e2,hle2,er,eR,⟨⟨hx.rep.below,?_,?_,?_,?_,?_,?_,?_,?_,?_,?_,?_,h0.gl,?_⟩,?_,hx.defs⟩⟩
 ·rw [eβ,h0.nb]; exact b7.symm
 ·show e2.σ.length=(Z77 us0 0 s.rows++(Zn0 pl.fr s.nv++Zqh pl.mem (s.nv + nvS pl.fr))).length
  rw [eσ,List.length_append,List.length_append,Z2t,h0.ng,hR.1]
 ·show e2.r.length=s.nv + (nvS pl.fr + nvM pl.mem)
  rw [er,List.length_append,List.length_map,List.length_append,a1,b1,h0.nv]
 ·show e2.ω.length=s.nx + nxS pl.fr
  rw [eω,List.length_append,a2u,h0.nx]
 ·intro n b hb hl
  obtain ⟨hn,x,h1,h2,h3,h4⟩:=hmem n b hb
  rw [eβ,hβ n hn,h4,h3]
  exact hx.rep.blk n x h1 h2
 ·intro n b hb hl hf
  obtain ⟨hn,x,h1,h2,h3,h4⟩:=hmem n b hb
  rw [eβ,hβ n hn]
  exact hx.rep.own n x h1 h2 (by rw [hfl]; exact hf)
 ·intro n m b c hb hc hlb hlc heq
  obtain ⟨hn,x,h1,h2,_⟩:=hmem n b hb
  obtain ⟨hm',y,h1',h2',_⟩:=hmem m c hc
  rw [eβ,hβ n hn,hβ m hm'] at heq
  exact hx.rep.sep n m x y h1 h1' h2 h2' heq
 ·intro n b hb hl
  rcases hcases n b hb hl with ⟨hn,hb'⟩ | ⟨j,v,rfl,hj,hv',hval⟩
  ·obtain ⟨_,_,_,_,_,_,h⟩:=hold n b hb' hl; exact h
  ·rw [hval]; exact (hR.2 j b v hj hv').2.2
 ·intro n b hb hl hf k hk
  rcases hcases n b hb hl with ⟨hn,hb'⟩ | ⟨j,v,rfl,hj,hv',hval⟩
  ·obtain ⟨_,_,hval,x,h1,h2,_⟩:=hold n b hb' hl
   rw [hval] at hk
   exact hx.rep.rown n x h1 h2 (by rw [hflr]; exact hf) k hk
  ·rw [hval] at hk
   obtain ⟨m,bb,_,h2,h3,h4,h5⟩:=hnewblk v (List.mem_of_getElem? hv') k hk
   exact hx.rep.rown m bb h2 h3 h4 k h5
 ·intro n m b c k hb hc hlb hlc hk hk'
  rcases hcases n b hb hlb with ⟨hn,hb'⟩ | ⟨j,v,rfl,hj,hv',hval⟩ <;> rcases hcases m c hc hlc with ⟨hm',hc'⟩ | ⟨j',v',rfl,hj',hv'',hval'⟩
  ·obtain ⟨_,_,hval,x,h1,h2,_⟩:=hold n b hb' hlb
   obtain ⟨_,_,hval',y,h1',h2',_⟩:=hold m c hc' hlc
   rw [hval] at hk
   rw [hval'] at hk'
   exact hx.rep.rsep n m x y k h1 h1' h2 h2' hk hk'
  ·obtain ⟨_,hnu,hval,x,h1,h2,_⟩:=hold n b hb' hlb
   rw [hval] at hk
   rw [hval'] at hk'
   obtain ⟨q,bb,h3,h4,h5,_,h7⟩:=hnewblk v' (List.mem_of_getElem? hv'') k hk'
   have:=hx.rep.rsep n q x bb k h1 h4 h2 h5 hk h7
   subst this
   exact absurd h3 hnu
  ·obtain ⟨_,hnu,hval'',x,h1,h2,_⟩:=hold m c hc' hlc
   rw [hval] at hk
   rw [hval''] at hk'
   obtain ⟨q,bb,h3,h4,h5,_,h7⟩:=hnewblk v (List.mem_of_getElem? hv') k hk
   have:=hx.rep.rsep m q x bb k h1 h4 h2 h5 hk' h7
   subst this
   exact absurd h3 hnu
  ·rw [hval] at hk
   rw [hval'] at hk'
   rw [Z69 hV.1 j j' v v' k hv' hv'' hk hk']
 ·intro n m b c hb hc hlb hlc
  obtain ⟨hn,x,h1,h2,_⟩:=hmem n b hb
  rw [eβ,hβ n hn]
  rcases hcases m c hc hlc with ⟨hm',hc'⟩ | ⟨j',v',rfl,hj',hv'',hval'⟩
  ·obtain ⟨_,_,hval,y,h1',h2',_⟩:=hold m c hc' hlc
   rw [hval]
   exact hx.rep.brs n m x y h1 h1' h2 h2'
  ·rw [hval']
   intro hk
   obtain ⟨q,bb,_,h4,h5,_,h7⟩:=hnewblk v' (List.mem_of_getElem? hv'') _ hk
   exact hx.rep.brs n q x bb h1 h4 h2 h5 h7
 ·intro i ks c hi
  have hi':s.hs[i]?=some (ks,c):=hi
  have:=h0.arg i ks c hi'
  have hcs:=List.all_eq_true.1 sh (ks,c) (List.mem_of_getElem? hi')
  rw [er,eR,E.den_app _ _ _ _ hcs]
  rw [show (G.a i).val e2=(G.a i).val e by simp only [G.val,eR]]
  exact this
 ·show a.tmps=((Z16a pl.fr s.fr s.nv s.rows.length s.nx).map (SV.den e2)).toArray
  rw [a5]
  exact hx.tmps
end
end Go.Sx
namespace Go.Sx
open Go.RowKit
section
variable {P:Program} {Γ:List Sum} {Ψ:List Int→Prop} {bs:List (List Int→Prop)}
theorem Zg1:∀ (l:List Oper),Z8l l≤l.length
 | []=>by simp [Z8l]
 | o::l=>by
  have:=Zg1 l
  simp only [Z8l,List.length_cons]
  split <;> omega
theorem Zqy {s:St} {n:Nat} (h:Z107 s n=true):∃ b,s.mem[n]?=some b∧b.live=true:=by
 unfold Z107 at h
 split at h
 ·rename_i b hb
  exact ⟨b,hb,h⟩
 ·cases h
theorem Zb6 {R:Fo} {r:List Int}:∀ {l:List T},(Zmx l).sat Γ R Ψ bs r→∀ t ∈ l,t.sat Γ R Ψ bs r
 | [],h,t,ht=>by cases ht
 | [x],h,t,ht=>by
  simp only [List.mem_singleton] at ht
  subst ht
  exact h
 | x::y::l,h,t,ht=>by
  simp only [Zmx] at h
  rcases List.mem_cons.1 ht with rfl | ht
  ·exact h.1
  ·exact Zb6 h.2 t ht
mutual
theorem K.eqv_eq:∀ {k m:K},K.eqv k m=true→k=m
 | .i x,.i y,h=>by simp only [K.eqv,beq_iff_eq] at h; rw [h]
 | .b,.b,_=>rfl
 | .s t x,.s u y,h=>by
  simp only [K.eqv,Z1h3,beq_iff_eq] at h
  rw [h.1,K.eqvL_eq h.2]
 | .i _,.b,h=>by simp [K.eqv] at h
 | .i _,.s _ _,h=>by simp [K.eqv] at h
 | .b,.i _,h=>by simp [K.eqv] at h
 | .b,.s _ _,h=>by simp [K.eqv] at h
 | .s _ _,.i _,h=>by simp [K.eqv] at h
 | .s _ _,.b,h=>by simp [K.eqv] at h
theorem K.eqvL_eq:∀ {a b:List K},K.eqvL a b=true→a=b
 | [],[],_=>rfl
 | x::xs,y::ys,h=>by
  simp only [K.eqvL,Z1h3] at h
  rw [K.eqv_eq h.1,K.eqvL_eq h.2]
 | [],_::_,h=>by simp [K.eqvL] at h
 | _::_,[],h=>by simp [K.eqvL] at h
end
theorem Znu:∀ {a b:List Blk},Zil a b=true→a=b
 | [],[],_=>rfl
 | ⟨x1,x2,x3⟩::xs,⟨y1,y2,y3⟩::ys,h=>by
  simp only [Zil,Z1h3,beq_iff_eq] at h
  rw [h.1.1,Zkd h.1.2.1,h.1.2.2,Znu h.2]
 | [],_::_,h=>by simp [Zil] at h
 | _::_,[],h=>by simp [Zil] at h
theorem Znv:∀ {a b:List Row},Zim a b=true→a=b
 | [],[],_=>rfl
 | ⟨x1,x2,x3,x4⟩::xs,⟨y1,y2,y3,y4⟩::ys,h=>by
  simp only [Zim,Z1h3,beq_iff_eq] at h
  rw [h.1.1,K.eqvL_eq h.1.2.1,E.same_eq _ _ h.1.2.2.1,h.1.2.2.2,Znv h.2]
 | [],_::_,h=>by simp [Zim] at h
 | _::_,[],h=>by simp [Zim] at h
theorem Ztw:∀ {a b:List SV},Zx1 a b=true→a=b
 | [],[],_=>rfl
 | x::xs,y::ys,h=>by
  simp only [Zx1,Z1h3] at h
  rw [SV.same_eq h.1,Ztw h.2]
 | [],_::_,h=>by simp [Zx1] at h
 | _::_,[],h=>by simp [Zx1] at h
theorem Znw:∀ {a b:List (List K × E)},Zin a b=true→a=b
 | [],[],_=>rfl
 | (x1,x2)::xs,(y1,y2)::ys,h=>by
  simp only [Zin,Z1h3] at h
  rw [K.eqvL_eq h.1.1,E.same_eq _ _ h.1.2,Znw h.2]
 | [],_::_,h=>by simp [Zin] at h
 | _::_,[],h=>by simp [Zin] at h
theorem Znx:∀ {a b:List (Nat × List Int)},Zio a b=true→a=b
 | [],[],_=>rfl
 | (x1,x2)::xs,(y1,y2)::ys,h=>by
  simp only [Zio,Z102,Z1h3,beq_iff_eq] at h
  rw [h.1.1,h.1.2,Znx h.2]
 | [],_::_,h=>by simp [Zio] at h
 | _::_,[],h=>by simp [Zio] at h
theorem Zb7:∀ {a b:List E},Zdm a b=true→a=b
 | [],[],_=>rfl
 | x::xs,y::ys,h=>by
  simp only [Zdm,Z1h3] at h
  rw [E.same_eq _ _ h.1,Zb7 h.2]
 | [],_::_,h=>by simp [Zdm] at h
 | _::_,[],h=>by simp [Zdm] at h
theorem Zg2:∀ {a b:List (Nat × List E)},Z8k a b=true→a=b
 | [],[],_=>rfl
 | (x1,x2)::xs,(y1,y2)::ys,h=>by
  simp only [Z8k,Z1h3,beq_iff_eq] at h
  rw [h.1.1,Zb7 h.1.2,Zg2 h.2]
 | [],_::_,h=>by simp [Z8k] at h
 | _::_,[],h=>by simp [Z8k] at h
theorem St.same_eq {a b:St} (h:a.same b=true):a=b:=by
 obtain ⟨a1,a2,a3,a4,a5,a6,a7,a8,a9,a10⟩:=a
 obtain ⟨b1,b2,b3,b4,b5,b6,b7,b8,b9,b10⟩:=b
 simp only [St.same,Z1h3,beq_iff_eq] at h
 obtain ⟨⟨h1,h2,h3⟩,⟨h4,h5,h6,h7⟩,h8,h9,h10⟩:=h
 rw [Ztw h1,Znu h2,Znv h3,h4,h5,h6,h7,Znx h8,Znw h9,h10]
theorem Zqf.same_eq {a b:Zqf} (h:Zqf.same a b=true):a=b:=by
 simp only [Zqf.same,Z1h3] at h
 exact Prod.ext (Zg2 h.1) (St.same_eq h.2)
theorem Zg3:∀ {aZ:List B} {t:T},aZ.all isT=true→Z43 aZ t=t
 | [],t,_=>rfl
 | b::l,t,h=>by
  simp only [List.all_cons,Z1h3] at h
  obtain ⟨h1,h2⟩:=h
  cases b with
  | c x =>
   cases x with
   | true=>exact Zg3 (aZ:=l) h2
   | false=>cases h1
  | _=>cases h1
theorem Z1dz {ih:Code→St→Z9i→T} {o:Oper} {s s1:St} {c:Option (Nat × List E)} (h:rawS P Γ o s=some (c,s1)) (k:St→T):opT P Γ ih o s k=Z3w c.toList (k s1):=by
 have one1:∀ {aZ:List B} {v:SV} {s':St},op1 P s o=some (aZ,v,s')→(if aZ.all isT then some ((none:Option (Nat × List E)),s'.put o.dst v) else none)=some (c,s1)→Z43 aZ (k (s'.put o.dst v))=Z3w c.toList (k s1):=by
  intro aZ v s' _ h
  split at h
  ·rename_i ha
   simp only [Option.some.injEq,Prod.mk.injEq] at h
   obtain ⟨rfl,rfl⟩:=h
   rw [Zg3 ha]
   rfl
  ·cases h
 unfold rawS at h
 unfold opT
 split at h
 ·rename_i cc ho
  try simp only [ho]
  unfold Z1df
  split at h
  ·rename_i F hcal
   try simp only [hcal]
   split at h
   ·rename_i fn caps hF
    try simp only [hF]
    split at h
    ·cases h
    ·rename_i hc
     try rw [if_neg hc]
     split at h
     ·rename_i g sum hfs
      try simp only [hfs]
      split at h
      ·cases h
      ·rename_i hgl
       try rw [if_neg hgl]
       split at h
       ·rename_i f hm
        try simp only [hm]
        split at h
        ·cases h
        ·rename_i hargs
         try rw [if_neg hargs]
         split at h
         ·rename_i aZ es kk hf
          try simp only [hf]
          split at h
          ·rename_i ha
           simp only [Option.some.injEq,Prod.mk.injEq] at h
           obtain ⟨rfl,rfl⟩:=h
           rw [Zg3 ha]
           rfl
          ·cases h
         ·cases h
       ·rename_i hm
        try simp only [hm]
        split at h
        ·rename_i aZ es hf
         try simp only [hf]
         split at h
         ·rename_i ha
          simp only [Option.some.injEq,Prod.mk.injEq] at h
          obtain ⟨rfl,rfl⟩:=h
          rw [Zg3 ha]
          rfl
         ·cases h
        ·cases h
     ·cases h
   ·cases h
  ·cases h
  ·rename_i b hb hcal
   split at h
   ·rename_i aZ v s' h1
    exact one1 h1 h
   ·cases h
  ·cases h
 ·rename_i t l cc ho
  try simp only [ho]
  unfold Z168
  split at h
  ·rename_i elem e1 e2 hu h1 h2
   try simp only [hu,h1,h2]
   split at h
   ·rename_i inf ks z hi hk hz
    try simp only [hi,hk,hz]
    split at h
    ·cases h
    ·rename_i hc
     try rw [if_neg hc]
     split at h
     ·rename_i es hes
      try simp only [hes]
      split at h
      ·rename_i ha
       simp only [Option.some.injEq,Prod.mk.injEq] at h
       obtain ⟨rfl,rfl⟩:=h
       rw [Zg3 ha]
       rfl
      ·cases h
     ·cases h
   ·cases h
  ·cases h
 ·rename_i t ho
  try simp only [ho]
  split at h
  ·cases h
  ·rename_i hb
   have hb':bigZ P t=none:=by
    cases hz:bigZ P t with
    | none=>rfl
    | some x=>rw [hz] at hb; exact absurd rfl hb
   try simp only [hb']
   split at h
   ·rename_i aZ v s' h1
    try simp only [h1]
    exact one1 h1 h
   ·cases h
 ·rename_i h1 h2 h3
  split at h
  ·rename_i aZ v s' h4
   exact one1 h4 h
  ·cases h
theorem Zg4 {R:Fo} {K:List T} (hK:K ≠ []):∀ {c:List (Nat × List E)} {r:List Int},(∀ t ∈ K,(Z3w c t).sat Γ R Ψ bs r)→(Z3w c (Zmx K)).sat Γ R Ψ bs r
 | [],r,h=>by
  simp only [Z3w] at h ⊢
  induction K with
  | nil=>exact absurd rfl hK
  | cons x l ih =>
   cases l with
   | nil=>exact h x (by simp)
   | cons y l=>exact ⟨h x (by simp),ih (by simp) (fun t ht=>h t (List.mem_cons_of_mem _ ht))⟩
 | (g,es)::c,r,h=>by
  simp only [Z3w,T.sat] at h ⊢
  split
  ·rename_i s hs
   obtain ⟨x,hx⟩:=List.exists_mem_of_ne_nil _ hK
   have h0:=h x hx
   rw [hs] at h0
   refine ⟨h0.1,Zg4 hK fun t ht=>?_⟩
   have h1:=h t ht
   rw [hs] at h1
   exact h1.2
  ·rename_i hs
   obtain ⟨x,hx⟩:=List.exists_mem_of_ne_nil _ hK
   have h0:=h x hx
   rw [hs] at h0
   exact h0
theorem Zxj (c d:List (Nat × List E)) (t:T):Z3w (c++d) t=Z3w c (Z3w d t):=by
 induction c with
 | nil=>rfl
 | cons x c ih=>simp only [Z1gu,Z3w,ih]
theorem Zke:∀ {a b:List Bool},Zmy a b=true→a=b
 | [],[],_=>rfl
 | true::l,true::m,h=>by rw [Zke (a:=l) (b:=m) h]
 | false::l,false::m,h=>by rw [Zke (a:=l) (b:=m) h]
 | [],_::_,h=>by simp [Zmy] at h
 | _::_,[],h=>by simp [Zmy] at h
 | true::l,false::m,h=>by simp [Zmy] at h
 | false::l,true::m,h=>by simp [Zmy] at h
theorem Zny {x:Array Bool × Zqf} {l:Zx2}:x ∈ Z169 x l∧∀ y ∈ l,y ∈ Z169 x l:=by
 unfold Z169
 split
 ·rename_i h
  refine ⟨?_,fun y hy=>hy⟩
  obtain ⟨y,hy,hb⟩:=List.any_eq_true.1 h
  simp only [Z1h3] at hb
  have h1:=Array.toList_inj.1 (Zke hb.1)
  have h2:=Zqf.same_eq hb.2
  have:x=y:=Prod.ext h1 h2
  rw [this]; exact hy
 ·exact ⟨List.mem_cons_self ..,fun y hy=>List.mem_cons_of_mem _ hy⟩
theorem Znz {ops:Array Oper} {li:Array Bool} {c:List (Nat × List E)} {s:St}:∀ {l:List Nat} {acc r:Zx2},Z109 P Γ ops li c s l acc=some r →
  (∀ y ∈ acc,y ∈ r)∧∀ j ∈ l,∃ o d s1,ops[j]?=some o∧o.guard=none∧Z9v o=none∧rawS P Γ o s=some (d,s1)∧(li.setIfInBounds j true,(c++d.toList,s1)) ∈ r
 | [],acc,r,h=>by
  simp only [Z109,Option.some.injEq] at h
  subst h
  exact ⟨fun y hy=>hy,fun j hj=>by cases hj⟩
 | j::l,acc,r,h=>by
  simp only [Z109] at h
  split at h
  ·rename_i o ho
   split at h
   ·cases h
   ·rename_i hgd
    simp only [Bool.or_eq_true,not_or,Bool.not_eq_true,Option.isSome_eq_false_iff,Option.isNone_iff_eq_none] at hgd
    split at h
    ·rename_i d s1 hraw
     obtain ⟨h1,h2⟩:=Znz h
     refine ⟨fun y hy=>h1 y (Zny.2 y hy),fun i hi=>?_⟩
     rcases List.mem_cons.1 hi with rfl | hi
     ·exact ⟨o,d,s1,ho,hgd.1,hgd.2,hraw,h1 _ Zny.1⟩
     ·exact h2 i hi
    ·cases h
  ·cases h
theorem Zg5 {ops:Array Oper}:∀ {l acc r:Zx2},Z10a P Γ ops l acc=some r →
  (∀ y ∈ acc,y ∈ r)∧∀ x ∈ l,Region.ready .any ops x.1 ≠ []∧∀ j ∈ Region.ready .any ops x.1,∃ o d s1,ops[j]?=some o∧o.guard=none∧Z9v o=none∧rawS P Γ o x.2.2=some (d,s1)∧(x.1.setIfInBounds j true,(x.2.1++d.toList,s1)) ∈ r
 | [],acc,r,h=>by
  simp only [Z10a,Option.some.injEq] at h
  subst h
  exact ⟨fun y hy=>hy,fun x hx=>by cases hx⟩
 | x::l,acc,r,h=>by
  simp only [Z10a] at h
  split at h
  ·cases h
  ·rename_i hne
   split at h
   ·rename_i acc' hO
    obtain ⟨o1,o2⟩:=Znz hO
    obtain ⟨d1,d2⟩:=Zg5 h
    refine ⟨fun y hy=>d1 y (o1 y hy),fun z hz=>?_⟩
    rcases List.mem_cons.1 hz with rfl | hz
    ·refine ⟨hne,fun j hj=>?_⟩
     obtain ⟨o,d,s1,h1,h2,h3,h4,h5⟩:=o2 j hj
     exact ⟨o,d,s1,h1,h2,h3,h4,d1 _ h5⟩
    ·exact d2 z hz
   ·cases h
theorem Zg6 {ops:Array Oper}:∀ {f:Nat} {fr:Zx2} {L:List Zqf},Zmz P Γ ops f fr=some L→∀ x ∈ fr,∃ y ∈ L,∃ r,y.1=x.2.1++r
 | 0,fr,L,h,x,hx=>by
  simp only [Zmz] at h
  split at h
  ·simp only [Option.some.injEq] at h; subst h
   exact ⟨x.2,List.mem_map_of_mem hx,[],by simp⟩
  ·cases h
 | f + 1,fr,L,h,x,hx=>by
  simp only [Zmz] at h
  split at h
  ·simp only [Option.some.injEq] at h; subst h
   exact ⟨x.2,List.mem_map_of_mem hx,[],by simp⟩
  ·split at h
   ·rename_i fr' hD
    obtain ⟨hne,hs⟩:=(Zg5 hD).2 x hx
    obtain ⟨j,hj⟩:=List.exists_mem_of_ne_nil _ hne
    obtain ⟨o,d,s1,_,_,_,_,hm⟩:=hs j hj
    obtain ⟨y,hy,r,hr⟩:=Zg6 h _ hm
    exact ⟨y,hy,d.toList++r,by rw [hr]; simp⟩
   ·cases h
theorem Zg7 (hG:Gok P Γ) {ih:Code→St→Z9i→T} (hih:IH P Γ ih) {W0:Bas} {ops:Array Oper} {Q:Exit→Act→World→Prop} {k:St→T} {L:List Zqf}:∀ (f:Nat) (fr:Zx2) (bs:List (List Int→Prop)) (x:Array Bool × Zqf) (e:Env) (a:Act) (w:World),Zmz P Γ ops f fr=some L→x ∈ fr→Rel e W0 x.2.2 a w→x.2.2.dp=bs.length →
  (∀ y ∈ L,∀ r,y.1=x.2.1++r→(Z3w r (k y.2)).sat Γ e.R Ψ bs e.r)→(∀ a' w',Nx Γ Ψ bs W0 e x.2.2.fl x.2.2.flr k a' w'→Q .normal a' w')→wpAny P .any ops Q f x.1 a w
 | 0,fr,bs,x,e,a,w,hL,hx,h,hdp,hs,hQ=>by
  simp only [Zmz] at hL
  split at hL
  ·rename_i hr
   simp only [Option.some.injEq] at hL
   have:=List.all_eq_true.1 hr x hx
   refine ⟨List.isEmpty_iff.1 this,hQ a w (Nx.here (Env.le_refl _) h rfl rfl hdp ?_)⟩
   exact hs x.2 (by rw [← hL]; exact List.mem_map_of_mem hx) [] (by simp)
  ·cases hL
 | f + 1,fr,bs,x,e,a,w,hL,hx,h,hdp,hs,hQ=>by
  simp only [Zmz] at hL
  split at hL
  ·rename_i hr
   simp only [Option.some.injEq] at hL
   have hem:=List.isEmpty_iff.1 (List.all_eq_true.1 hr x hx)
   refine ⟨fun _=>hQ a w (Nx.here (Env.le_refl _) h rfl rfl hdp ?_),fun i hi=>?_⟩
   ·exact hs x.2 (by rw [← hL]; exact List.mem_map_of_mem hx) [] (by simp)
   ·rw [hem] at hi; cases hi
  ·split at hL
   ·rename_i fr' hD
    obtain ⟨hne,hst⟩:=(Zg5 hD).2 x hx
    refine ⟨fun hr=>absurd hr hne,fun i hi=>?_⟩
    obtain ⟨o,d,s1,ho,hg,hp,hraw,hmem⟩:=hst i hi
    unfold wpOp
    rw [ho]
    simp only
    rw [if_pos (by unfold Region.wanted; rw [hg])]
    left
    obtain ⟨K,hK⟩:∃ K:List T,(∀ t ∈ K,∃ y ∈ L,∃ r,y.1=(x.2.1++d.toList)++r∧t=Z3w r (k y.2))∧∀ y ∈ L,∀ r,y.1=(x.2.1++d.toList)++r→Z3w r (k y.2) ∈ K:=by
     classical
     refine ⟨L.filterMap fun y=>if hh:∃ r,y.1=(x.2.1++d.toList)++r then some (Z3w hh.choose (k y.2)) else none,fun t ht=>?_,fun y hy r hr=>?_⟩
     ·obtain ⟨y,hy,he⟩:=List.mem_filterMap.1 ht
      split at he
      ·rename_i hh
       simp only [Option.some.injEq] at he
       exact ⟨y,hy,hh.choose,hh.choose_spec,he.symm⟩
      ·cases he
     ·refine List.mem_filterMap.2 ⟨y,hy,?_⟩
      have hh:∃ r,y.1=(x.2.1++d.toList)++r:=⟨r,hr⟩
      rw [dif_pos hh]
      have:hh.choose=r:=List.append_cancel_left (hh.choose_spec.symm.trans hr)
      rw [this]
    have hKne:K ≠ []:=by
     obtain ⟨y,hy,r,hr⟩:=Zg6 hL _ hmem
     exact List.ne_nil_of_mem (hK.2 y hy r hr)
    have hsat:(Z3w d.toList (Zmx K)).sat Γ e.R Ψ bs e.r:=by
     refine Zg4 hKne fun t ht=>?_
     obtain ⟨y,hy,r,hr,rfl⟩:=hK.1 t ht
     have:=hs y hy (d.toList++r) (by rw [hr]; simp)
     rwa [Zxj] at this
    classical
    have hop:(opT P Γ ih o x.2.2 fun s3=>if s3=s1 then Zmx K else .fail).sat Γ e.R Ψ bs e.r:=by
     rw [Z1dz hraw]
     simp only [if_true]
     exact hsat
    refine Oper.wp_mono' (Z7s hG hih h hdp hop) ?_
    rintro a3 w3 ⟨s3,e3,more,hle,hrel,hf,hfr,hd,hsat3⟩
    dsimp only at hsat3
    split at hsat3
    ·rename_i hsm
     subst hsm
     refine Zg7 (k:=k) hG hih f fr' (bs++more) _ e3 a3 w3 hL hmem hrel hd (fun y hy r hr=>?_) ?_
     ·exact Zb6 hsat3 _ (hK.2 y hy r hr)
     ·rintro a' w' ⟨s',e',more',hle',hrel',hf',hfr',hd',hsat'⟩
      exact hQ a' w' ⟨s',e',more++more',hle.trans hle',hrel',hf'.trans hf,hfr'.trans hfr,by rw [← List.append_assoc]; exact hd',by rw [← List.append_assoc]; exact hsat'⟩
    ·exact hsat3.elim
   ·cases hL
theorem Zb8 (hG:Gok P Γ) {ih:Code→St→Z9i→T} (hih:IH P Γ ih) {W0:Bas} {ops:Array Oper} {Q:Exit→Act→World→Prop} {k:St→T}:∀ (f:Nat) (listed:Array Bool) (s:St) (bs:List (List Int→Prop)) (e:Env) (a:Act) (w:World),Rel e W0 s a w→s.dp=bs.length →
  (Zcp P Γ ih ops f listed s k).sat Γ e.R Ψ bs e.r→(∀ a' w',Nx Γ Ψ bs W0 e s.fl s.flr k a' w'→Q .normal a' w')→wpAny P .any ops Q f listed a w
 | 0,listed,s,bs,e,a,w,h,hdp,hs,hQ=>by
  simp only [Zcp] at hs
  split at hs
  ·rename_i hr
   exact ⟨List.isEmpty_iff.1 hr,hQ a w (Nx.here (Env.le_refl _) h rfl rfl hdp hs)⟩
  ·exact hs.elim
 | f + 1,listed,s,bs,e,a,w,h,hdp,hs,hQ=>by
  simp only [Zcp] at hs
  refine ⟨fun hr=>?_,fun i hi=>?_⟩
  ·rw [hr] at hs
   exact hQ a w (Nx.here (Env.le_refl _) h rfl rfl hdp hs)
  ·split at hs
   ·rename_i hr
    rw [hr] at hi
    cases hi
   ·have hs:=Zb6 hs _ (List.mem_map_of_mem hi)
    have next:∀ (s3:St) (e3:Env) (more:List (List Int→Prop)) (a3:Act) (w3:World),Env.le e e3→Rel e3 W0 s3 a3 w3→s3.fl=s.fl→s3.flr=s.flr→s3.dp=(bs++more).length→(Zcp P Γ ih ops f (listed.setIfInBounds i true) s3 k).sat Γ e3.R Ψ (bs++more) e3.r→wpAny P .any ops Q f (listed.setIfInBounds i true) a3 w3:=by
     intro s3 e3 more a3 w3 hle h3 hf hfr hd hs3
     refine Zb8 hG hih f _ s3 (bs++more) e3 a3 w3 h3 hd hs3 ?_
     rintro a' w' ⟨s',e',more',hle',hrel',hf',hfr',hd',hsat'⟩
     exact hQ a' w' ⟨s',e',more++more',hle.trans hle',hrel',hf'.trans hf,hfr'.trans hfr,by rw [← List.append_assoc]; exact hd',by rw [← List.append_assoc]; exact hsat'⟩
    unfold wpOp
    split at hs
    ·rename_i o ho
     rw [ho]
     simp only [Z3z] at hs
     obtain ⟨x,h1,hs1⟩:=Z5i h hs
     simp only
     split at hs1
     ·rename_i hw
      rw [if_pos (Z54 h1 hw)]
      left
      obtain ⟨y,h2,hs2⟩:=Z5i h1 hs1
      refine Oper.wp_mono' (Z7s hG hih h2 hdp hs2) ?_
      rintro a3 w3 ⟨s3,e3,more,hle,hrel,hf,hfr,hd,hsat⟩
      exact next s3 e3 more a3 w3 hle hrel hf hfr hd hsat
     ·rename_i hw
      rw [if_neg (by rw [Z54 h1 hw]; simp)]
      have hput:=h1.put o.dst Z5
      exact next _ e [] _ w (Env.le_refl _) hput (Zu _ _ _).2.2.2.2.1 (Zu _ _ _).2.2.2.2.2 ((Z5h _ _ _).trans (by simpa using hdp)) (by simpa using hs1)
     ·exact hs1.elim
    ·exact hs.elim
theorem Zid (hm:P.follows .mixedOrders=true) (hG:Gok P Γ) {ih:Code→St→Z9i→T} (hih:IH P Γ ih) {ops:Array Oper} {s:St} {k:St→T} {W0:Bas} {e:Env} {a:Act} {w:World} {Q:Exit→Act→World→Prop}
  (h:Rel e W0 s a w) (hdp:s.dp=bs.length) (hs:(Zk3 P Γ ih ops s k).sat Γ e.R Ψ bs e.r) (hQ:∀ a' w',Nx Γ Ψ bs W0 e s.fl s.flr k a' w'→Q .normal a' w'):wpAny P .any ops Q ops.size (Array.replicate ops.size false) a { w with drawn:=w.drawn + 1 }:=by
 unfold Zk3 at hs
 dsimp only at hs
 split at hs
 ·have hdrew:Below w.heap.size w { w with drawn:=w.drawn + 1 }:=(Below.refl _ _).drew
  split at hs
  ·rename_i L hL
   exact Zg7 (k:=k) hG hih _ _ bs _ e a _ hL (List.mem_singleton.2 rfl) ⟨h.rep.grown hdrew,h.tmps,h.defs⟩ hdp (fun y hy r hr=>by simp only [Z1gv] at hr; rw [← hr]; exact Zb6 hs _ (List.mem_map_of_mem hy)) hQ
  ·exact Zb8 hG hih _ _ s bs e a _ ⟨h.rep.grown hdrew,h.tmps,h.defs⟩ hdp hs hQ
 split at hs
 ·rename_i hc
  simp only [Z1h3] at hc
  obtain ⟨⟨hok,hsc⟩,hdst⟩:=hc
  generalize hN:ops.size - Zqe (Zia ops) 0 ops.toList=N at hs hok
  have hNs:N≤ops.size:=by omega
  generalize hN1:Z8l (ops.toList.take N)=N1 at hs
  have hN1N:N1≤N:=by
   have:=Zg1 (ops.toList.take N)
   simp only [List.length_take] at this
   omega
  generalize hXe:Zfd ops s N1 ((ops.toList.take N).drop N1)=X at hs
  split at hs
  ·rename_i hc2
   simp only [Z1h3] at hc2
   obtain ⟨⟨hXall,hch⟩,hapt⟩:=hc2
   have hXl:∀ n ∈ X,s.fl≤n∧∃ b,s.mem[n]?=some b∧b.live=true:=by
    intro n hn
    have:=List.all_eq_true.1 hXall n hn
    simp only [Z1h3,Z1h4] at this
    exact ⟨this.1,Zqy this.2⟩
   unfold Z1be at hok
   simp only [Z1h3] at hok
   obtain ⟨_,hok⟩:=hok
   have hrow:∀ j oj,ops[j]?=some oj→((Zqd oj).all (fun i=>decide (i < j)) &&
    (if j < N then (List.range j).all (fun i=>match ops[i]? with
     | none=>false
     | some oi=>(oi.dst.isNone || oi.dst != oj.dst) && (behind (Zia ops) j i || oi.apart ops oj))
    else forced (Zia ops) j))=true:=by
    intro j oj hoj
    have hlt:=(Array.getElem?_eq_some_iff.1 hoj).1
    have:=List.all_eq_true.1 hok j (by simpa using hlt)
    rw [hoj] at this
    exact this
   have hdeps:∀ j oj,ops[j]?=some oj→∀ e ∈ oj.after,Region.binds .any e=true→e.on < j:=by
    intro j oj hoj e he hb
    have:=hrow j oj hoj
    simp only [Z1h3] at this
    have h1:=List.all_eq_true.1 this.1 e.on (List.mem_map.2 ⟨e,List.mem_filter.2 ⟨by simpa using he,hb⟩,rfl⟩)
    simpa using h1
   have hforced:∀ j oj,N≤j→ops[j]?=some oj→∀ i,i < j→Z4o ops j i:=by
    intro j oj hj hoj i hi
    have:=hrow j oj hoj
    simp only [Z1h3] at this
    rw [if_neg (by omega)] at this
    have h1:=List.all_eq_true.1 this.2 i (by simpa using hi)
    exact Z6a h1
   have hpair:∀ i j oi oj,i < j→j < N→ops[i]?=some oi→ops[j]?=some oj→(oi.dst=none∨oi.dst ≠ oj.dst)∧(Z4o ops j i∨oi.apart ops oj=true):=by
    intro i j oi oj hij hj hoi hoj
    have:=hrow j oj hoj
    simp only [Z1h3] at this
    rw [if_pos hj] at this
    have h1:=List.all_eq_true.1 this.2 i (by simpa using hij)
    rw [hoi] at h1
    simp only [Z1h3,Bool.or_eq_true] at h1
    refine ⟨?_,?_⟩
    ·rcases h1.1 with h2 | h2
     ·exact .inl (by simpa using h2)
     ·exact .inr (by simpa using h2)
    ·rcases h1.2 with h2 | h2
     ·exact .inl (Z6a h2)
     ·exact .inr h2
   have hchain:∀ i j,N1≤j→j < i→i < N→Z4o ops i j:=by
    intro i j hj hji hi
    have:=List.all_eq_true.1 hch i (by simpa using hi)
    simp only [Bool.or_eq_true,Z1h4] at this
    rcases this with h1 | h1
    ·omega
    ·have h2:=List.all_eq_true.1 h1 j (by simpa using hji)
     simp only [Bool.or_eq_true,Z1h4] at h2
     rcases h2 with h2 | h2
     ·omega
     ·exact Z6a h2
   have hdl:∀ i o d,i < N→ops[i]?=some o→o.dst=some d→d < s.fr.length:=by
    intro i o d _ ho hd
    have:=Array.all_eq_true_iff_forall_mem.1 hdst o (Array.mem_of_getElem? ho)
    rw [hd] at this
    simpa using this
   have hu:∀ i j t,j < i→i < N→(ops[j]?).bind (·.dst)=some t→(ops[i]?).bind (·.dst) ≠ some t:=by
    intro i j t hji hi h1 h2
    have hil:i < ops.size:=by omega
    have hjl:j < ops.size:=by omega
    have hoi:ops[i]?=some ops[i]:=Array.getElem?_eq_getElem hil
    have hoj:ops[j]?=some ops[j]:=Array.getElem?_eq_getElem hjl
    rw [hoj] at h1
    rw [hoi] at h2
    simp only [Option.bind_some] at h1 h2
    rcases (hpair j i _ _ hji hi hoj hoi).1 with h3 | h3
    ·rw [h3] at h1; cases h1
    ·exact h3 (h1.trans h2.symm)
   have huniq:∀ i j t,i < N→j < N→(ops[i]?).bind (·.dst)=some t→(ops[j]?).bind (·.dst)=some t→i=j:=by
    intro i j t hi hj h1 h2
    rcases Nat.lt_trichotomy i j with h3 | h3 | h3
    ·exact absurd h2 (hu j i t h3 hj h1)
    ·exact h3
    ·exact absurd h1 (hu i j t h3 hi h2)
   have hscp:=St.scp_of_sc hsc
   obtain ⟨hscf,hscm⟩:=St.scp_spec hscp
   have hdrew:Below w.heap.size w { w with drawn:=w.drawn + 1 }:=(Below.refl _ _).drew
   have hB:Rep e W0 s { w with drawn:=w.drawn + 1 }:=h.rep.grown hdrew
   generalize hs0:({ s with mem:=Zfe X 0 s.mem }:St)=s0 at hs
   have hkl:s0.mem.length=s.mem.length:=by rw [← hs0]; exact Z7v X s.mem 0
   have hkr:s0.rows=s.rows:=by rw [← hs0]
   have hkf:s0.fr=s.fr:=by rw [← hs0]
   have h0:Rep e W0 s0 { w with drawn:=w.drawn + 1 }:=by rw [← hs0]; exact hB.killM X
   have hkm:∀ (n:Nat) (b:Blk),s.mem[n]?=some b→∃ b':Blk,s0.mem[n]?=some b'∧b'.cells=b.cells:=by
    intro n b hb
    rw [← hs0]
    simp only [Zfs,hb,Option.map_some,Option.some.injEq,exists_eq_left']
    split <;> rfl
   have hXok:XOK e W0 s0 (fun k=>∃ n,n ∈ X∧k=e.β.getD n 0):=by
    refine ⟨?_,?_,?_⟩
    ·rintro n b hb hl ⟨m,hm,heq⟩
     rw [← hs0] at hb
     obtain ⟨b',h1,_,_,h4⟩:=Z3i hb
     obtain ⟨h5,h6,rfl⟩:=h4 hl
     obtain ⟨_,c,hc,hlc⟩:=hXl m hm
     have:=hB.sep n m b c h1 hc h5 hlc heq
     subst this
     exact h6 hm
    ·rintro n b k hb hl hk ⟨m,hm,rfl⟩
     rw [hkr] at hb
     obtain ⟨_,c,hc,hlc⟩:=hXl m hm
     exact hB.brs m n c b hc hb hlc hl hk
    ·rintro k ⟨m,hm,rfl⟩
     obtain ⟨h1,c,hc,hlc⟩:=hXl m hm
     exact hB.own m c hc hlc h1
   have hlex0:Lex s0 e a.tmps ops 0 (fun _=>⟨fun _=>undef,none⟩) s0 e.r []:=by
    refine ⟨⟨[],by simp⟩,h0.nv.symm,rfl,rfl,rfl,rfl,rfl,rfl,rfl,⟨[],by simp,rfl⟩,rfl,fun _ _=>rfl,fun _ _=>rfl,fun _ _=>rfl,?_,?_,?_,?_,List.nodup_nil⟩
    ·intro t _
     show some (a.tmps.getD t undef)=_
     rw [Z7q h t,hkf]
     rfl
    ·intro t ht
     rw [hkf,hkl,hkr] at ht
     by_cases htl:t < s.fr.length
     ·have:=hscf s.fr[t] (List.getElem_mem htl)
      rw [show s.fr.getD t Z5=s.fr[t] by simp [List.getD,htl]] at ht
      rw [this] at ht; cases ht
     ·rw [show s.fr.getD t Z5=Z5 by simp [List.getD,List.getElem?_eq_none (Nat.le_of_not_lt htl)]] at ht
      simp [Z5,SV.scp] at ht
    ·intro j i' hj
     simp at hj
    ·intro i' hi'
     omega
   have htw:Znq s s0:=⟨hkl.symm,hkr.symm,hkf.symm,by rw [← hs0],by rw [← hs0],by rw [← hs0],by rw [← hs0],by rw [← hs0],by rw [← hs0],fun b hb=>by
    obtain ⟨n,hn⟩:=List.getElem?_of_mem hb
    obtain ⟨b',h1,h2⟩:=hkm n b hn
    exact ⟨b',List.mem_of_getElem? h1,h2.symm⟩⟩
   have htw':Znq s0 s:=htw.symm' (fun b hb=>by
    obtain ⟨n,hn⟩:=List.getElem?_of_mem hb
    rw [← hs0] at hn
    obtain ⟨b',h1,_,h3,_⟩:=Z3i hn
    exact ⟨b',List.mem_of_getElem? h1,h3⟩)
   obtain ⟨ents0,sN,rN,al,hlex0',hpre0,hsat⟩:=Z6d hG hih h0 hXok (sf:=s) (sg:=Z8m (Zia ops) N1 N) hB htw htw' (N:=N1) (fun i j t hji hi=>hu i j t hji (by omega)) (fun i o d hi=>by rw [hkf]; exact hdl i o d (by omega)) (ops.toList.take N1) 0 (fun j hj=>by
     simp only [List.length_take,Array.length_toList] at hj
     rw [List.getElem?_take,if_pos (by omega)]
     simp) (by simp [Nat.min_eq_left (Nat.le_trans hN1N hNs)]) _ s0 e.r [] _ hlex0 (fun i' hi'=>by omega) hs
   split at hsat
   ·rename_i s3 hs3
    obtain ⟨ents,hents⟩:∃ ents:Nat→Ent,ents=fun i=>if i < N1 then ents0 i else (match (ops[i]?).map (·.op) with
     | some (Op.assign x)=>⟨fun _=>(sN.ev x).den (e.at rN),none⟩
     | _=>⟨fun _=>undef,none⟩):=⟨_,rfl⟩
    have hents1:∀ j,j < N1→ents j=ents0 j:=fun j hj=>by rw [hents]; simp only [hj,if_true]
    have hlex:=hlex0'.congr hents1
    have hpre:=fun i hi=>(hpre0 i hi).congrN hents1 hi
    have hval:∀ i,i < N1→(ents i).obj=none→∀ n,(ents i).val n=(ents i).val 0:=by
     intro i hi hob
     obtain ⟨_,_,h2,_⟩:=hpre i hi
     exact h2 hob
    have ha0:a.tmps.size=s0.fr.length:=by rw [h.tmps,hkf]; simp
    rw [← hkl,← hkr] at hs3
    obtain ⟨st,hst0,hstE,hstS⟩:=Zdr hs3
    have hll:((ops.toList.take N).drop N1).length=N - N1:=by simp [Nat.min_eq_left hNs]
    have hlget:∀ c,((ops.toList.take N).drop N1)[c]?=if N1 + c < N then ops[N1 + c]? else none:=by
     intro c
     rw [List.getElem?_drop,List.getElem?_take]
     split <;> simp
    have hstep1:∀ c o,N1 + c < N→ops[N1 + c]?=some o→Zas P X s0.mem.length s0.rows.length o (st c)=some (st (c + 1)):=by
     intro c o hc ho
     exact hstS c o (by rw [hlget,if_pos hc]; exact ho)
    have hsame:∀ c,c≤N - N1→st c={ sN with mem:=(st c).mem }∧(st c).mem.length=sN.mem.length:=by
     intro c hc
     obtain ⟨h1,h2⟩:=Z10o hstS c (by rw [hll]; exact hc)
     obtain ⟨news,hmem,hnl⟩:=hlex.mem
     refine ⟨?_,?_⟩
     ·rw [h1,hst0]
     ·rw [h2,hst0]
      simp only [List.length_append,List.length_drop,hmem]
      omega
    obtain ⟨news,hmem,hnl⟩:=hlex.mem
    have hst0m:∀ n,(st 0).mem[n]?=if n < s0.mem.length then s.mem[n]? else sN.mem[n]?:=by
     intro n
     rw [hst0]
     simp only [hkl]
     split
     ·rename_i hn
      rw [List.getElem?_append_left hn]
     ·rename_i hn
      rw [List.getElem?_append_right (by omega),List.getElem?_drop]
      congr 1
      omega
    have hcell:∀ (n:Nat) (b:Blk),s.mem[n]?=some b→b.cells.map (SC.den (e.at rN))=b.cells.map (SC.den e):=by
     intro n b hb
     obtain ⟨b',h1,h2⟩:=hkm n b hb
     have:=hlex.memd b' (List.mem_of_getElem? h1)
     rwa [h2] at this
    have hscp0:∀ (n:Nat) (b:Blk),(st 0).mem[n]?=some b→b.cells.all (SC.scp s0.mem.length s0.rows.length)=true:=by
     intro n b hb
     rw [hst0m] at hb
     split at hb
     ·rw [hkl,hkr]
      exact hscm b (List.mem_of_getElem? hb)
     ·rename_i hn
      have hlt:=(List.getElem?_eq_some_iff.1 hb).1
      have hml:sN.mem.length=s0.mem.length + al.length:=by rw [hmem]; simp [hnl]
      obtain ⟨_,b',h2,_,h4,_⟩:=hlex.alOK (n - s0.mem.length) (al[n - s0.mem.length]'(by omega)) (List.getElem?_eq_getElem (by omega))
      rw [show s0.mem.length + (n - s0.mem.length)=n by omega,hb] at h2
      simp only [Option.some.injEq] at h2
      subst h2
      exact h4
    have hlk:∀ c o,N1 + c < N→ops[N1 + c]?=some o→o ∈ (ops.toList.take N).drop N1:=fun c o hc ho=>List.mem_of_getElem? (i:=c) (by rw [hlget,if_pos hc]; exact ho)
    have hap:∀ c o,N1 + c < N→ops[N1 + c]?=some o→∀ t ∈ o.looksAt ops,∀ k,N1≤k→k < N→(ops[k]?).bind (·.dst) ≠ some t:=by
     intro c o hc ho t ht k h1 h2 hd
     obtain ⟨j,rfl⟩:∃ j,k=N1 + j:=⟨k - N1,by omega⟩
     have hil:N1 + j < ops.size:=by omega
     have hoi:ops[N1 + j]?=some ops[N1 + j]:=Array.getElem?_eq_getElem hil
     rw [hoi] at hd
     have:=List.all_eq_true.1 (List.all_eq_true.1 hapt o (hlk c o hc ho)) _ (hlk j _ h2 hoi)
     simp only [Option.bind_some] at hd
     rw [hd] at this
     simp only [Bool.not_eq_true',List.contains_eq_mem,decide_eq_false_iff_not] at this
     exact this ht
    have hXlt:∀ n ∈ X,n < s0.mem.length:=by
     intro n hn
     obtain ⟨_,b,hb,_⟩:=hXl n hn
     rw [hkl]
     exact (List.getElem?_eq_some_iff.1 hb).1
    have hLt:∀ c,N1 + c < N→(∃ o t ta x n off y b,ops[N1 + c]?=some o∧Lt P X s0.mem.length s0.rows.length o (st c) (st (c + 1)) t ta x n off y b∧sN.fr.getD ta Z5=.w (.o (.p n off))∧(Z79 ops s0.mem.length (e.at rN) al sN (fun n=>n ∈ X) st).tgt (N1 + c)=n) ∨
      ∃ o x d,ops[N1 + c]?=some o∧As s0.mem.length s0.rows.length o (st c) (st (c + 1)) x d∧(Z79 ops s0.mem.length (e.at rN) al sN (fun n=>n ∈ X) st).tgt (N1 + c)=sN.mem.length:=by
     intro c hc
     have hil:N1 + c < ops.size:=by omega
     have hoi:ops[N1 + c]?=some ops[N1 + c]:=Array.getElem?_eq_getElem hil
     rcases Z6e (hstep1 c _ hc hoi) with ⟨t,ta,x,n,off,y,b,hl⟩ | ⟨x,d,hl⟩
     ·have hslot:sN.fr.getD ta Z5=.w (.o (.p n off)):=by
       have:=hl.slot
       rw [(hsame c (by omega)).1] at this
       exact this
      refine .inl ⟨_,t,ta,x,n,off,y,b,hoi,hl,hslot,?_⟩
      unfold Z79
      simp only [hoi]
      unfold Zqt
      rw [hl.op]
      simp only [hslot]
     ·refine .inr ⟨_,x,d,hoi,hl,?_⟩
      unfold Z79
      simp only [hoi]
      unfold Zqt
      rw [hl.op]
    have hnwS:∀ n i,(Z79 ops s0.mem.length (e.at rN) al sN (fun n=>n ∈ X) st).nw n=some i→s0.mem.length≤n∧al[n - s0.mem.length]?=some i:=by
     intro n i hn
     have hn':(if n < s0.mem.length then none else al[n - s0.mem.length]?)=some i:=hn
     split at hn'
     ·cases hn'
     ·exact ⟨by omega,hn'⟩
    have hXcont:∀ n,n ∈ X→w.heap[e.β.getD n 0]?=some (Z3c (e.at rN) st n 0):=by
     intro n hn'
     obtain ⟨_,b,hb,hl⟩:=hXl n hn'
     unfold Z3c
     rw [hst0m,if_pos (hXlt n hn'),hb]
     simp only
     rw [hcell n b hb]
     exact hB.blk n b hb hl
    refine Z1dw (a0:=a.tmps) (w1:=w.heap.size) (C:=fun w'=>Cls { w with drawn:=w.drawn + 1 } (fun k=>∃ n,n ∈ X∧k=e.β.getD n 0) w') (CI:=fun i w'=>Cls { w with drawn:=w.drawn + 1 } (fun k=>Z8m (Zia ops) N1 N i=false∧∃ n,n ∈ X∧k=e.β.getD n 0) w') (S:=Z8m (Zia ops) N1 N) (D:=Z79 ops s0.mem.length (e.at rN) al sN (fun n=>n ∈ X) st) hNs hN1N hforced hdeps hpair (fun i o d hi ho hd=>by rw [ha0,hkf]; exact hdl i o d hi ho hd) (fun i w' hw'=>⟨hw'.os,hw'.tape,hw'.output,hw'.size,fun k hk hx=>hw'.block k hk (fun h=>hx h.2)⟩) ?_ ?_ hpre ?_ hchain (fun w' hw'=>hw'.size) ?_ ?_ ?_ ?_ ?_ ?_ ?_ ?_ ops.size _ a _ (fun _=>0) 0 (by simp) (fun i _=>by simp [Array.getD]) (by omega) (fun i h1 _=>by simp [Array.getD]; omega) ?_ (Cls.refl _ _) h.defs rfl ?_ ?_ ?_ ?_ ?_ ?_
    ·intro i w' hw' hS
     refine ⟨hw'.os,hw'.tape,hw'.output,hw'.size,fun k hk hx=>?_⟩
     by_cases hkx:∃ n,n ∈ X∧k=e.β.getD n 0
     ·have hSi:Z8m (Zia ops) N1 N i=true:=by
       cases hh:Z8m (Zia ops) N1 N i with
       | true=>rfl
       | false=>exact absurd ⟨hh,hkx⟩ hx
      obtain ⟨n,hn,rfl⟩:=hkx
      rw [hXcont n hn]
      exact hS hSi n hn
     ·exact hw'.block k hk hkx
    ·intro i hi k h1 h2
     have:=List.all_eq_true.1 hi k (by simpa using h2)
     simp only [Bool.or_eq_true,Z1h4] at this
     rcases this with h3 | h3
     ·omega
     ·exact Z6a h3
    ·intro i h1 h2
     obtain ⟨c,rfl⟩:∃ c,i=N1 + c:=⟨i - N1,by omega⟩
     have hil:N1 + c < ops.size:=by omega
     have hoi:ops[N1 + c]?=some ops[N1 + c]:=Array.getElem?_eq_getElem hil
     exact Z10q (Xa:=fun n=>n ∈ X) hlex h0 hval huniq hN1N h2 hoi (hsame c (by omega)).1 (fun x d hl=>by
      rw [hents]
      simp only [Nat.not_lt_of_le (Nat.le_add_right N1 c),if_false,hoi,Option.map_some,hl.op]) (hap c _ h2 hoi) (hstep1 c _ h2 hoi)
    ·intro w1 w2 g ob hw1 hsb hg
     exact hw1.but hsb hg
    ·intro n i hn
     obtain ⟨h1,h2⟩:=hnwS n i hn
     obtain ⟨h3,b,h4,_,_,h5,_⟩:=hlex.alOK _ i h2
     refine ⟨h3,?_⟩
     rw [h5]
     show _=some (Z3c (e.at rN) st n 0)
     unfold Z3c
     rw [hst0m,if_neg (by omega)]
     rw [show s0.mem.length + (n - s0.mem.length)=n by omega] at h4
     rw [h4]
    ·intro n n' i hn hn'
     obtain ⟨h1,h2⟩:=hnwS n i hn
     obtain ⟨h3,h4⟩:=hnwS n' i hn'
     have hl1:=(List.getElem?_eq_some_iff.1 h2).1
     have:=(List.getElem?_inj hl1 hlex.alND).1 (h2.trans h4.symm)
     omega
    ·intro n hn
     have hn':n ∈ X:=hn
     obtain ⟨_,b,hb,hl⟩:=hXl n hn'
     exact ⟨if_pos (hXlt n hn'),Z1r (hB.blk n b hb hl)⟩
    ·intro n n' hn hn' heq
     obtain ⟨_,b,hb,hl⟩:=hXl n hn
     obtain ⟨_,b',hb',hl'⟩:=hXl n' hn'
     exact hB.sep n n' b b' hb hb' hl hl' heq
    ·intro k h1 h2
     obtain ⟨c,rfl⟩:∃ c,k=N1 + c:=⟨k - N1,by omega⟩
     rcases hLt c h2 with ⟨o,t,ta,x,n,off,y,b,ho,hl,hslot,htg⟩ | ⟨o,x,d,ho,hl,htg⟩
     case inr =>
      rw [htg]
      have hml:sN.mem.length=s0.mem.length + al.length:=by rw [hmem]; simp [hnl]
      refine ⟨fun hd=>?_,fun j hn=>?_⟩
      ·rw [ho] at hd
       simp [hl.dst] at hd
      ·obtain ⟨h3,h4⟩:=hnwS _ j hn
       have:=(List.getElem?_eq_some_iff.1 h4).1
       omega
     rw [htg]
     have hnlt:n < sN.mem.length:=by
      rw [← (hsame c (by omega)).2]
      exact (List.getElem?_eq_some_iff.1 hl.blk).1
     have hml:sN.mem.length=s0.mem.length + al.length:=by rw [hmem]; simp [hnl]
     refine ⟨fun _ hn=>?_,fun j hn=>?_⟩
     ·rcases hl.at' with h3 | h3
      ·have hn':(if n < s0.mem.length then none else al[n - s0.mem.length]?)=none:=hn
       rw [if_neg (by omega),List.getElem?_eq_none_iff] at hn'
       omega
      ·exact h3
     ·obtain ⟨h3,h4⟩:=hnwS n j hn
      have hns:(sN.fr.getD ta Z5).scp s0.mem.length s0.rows.length=false:=by
       rw [hslot]; simpa [SV.scp,SW.scp,SC.scp] using h3
      obtain ⟨j',i',hj',hdt⟩:=hlex.nscp ta hns
      obtain ⟨h5,bb,_,_,_,_,mk,h6,_,h8⟩:=hlex.alOK j' i' hj'
      have hmk:=h8 ta hdt
      rw [hslot] at hmk
      have hnj:n=s0.mem.length + j':=by
       rcases h6 with h6 | ⟨l,cc,h6⟩
       ·rw [h6] at hmk
        simp only [one,SV.w.injEq,SW.o.injEq,SC.p.injEq] at hmk
        exact hmk.1
       ·rw [h6] at hmk
        simp [one] at hmk
      rw [hnj,Nat.add_sub_cancel_left,hj'] at h4
      simp only [Option.some.injEq] at h4
      subst h4
      have hjl:i' < ops.size:=by omega
      have hoj:ops[i']?=some ops[i']:=Array.getElem?_eq_getElem hjl
      rcases (hpair i' (N1 + c) _ _ (by omega) h2 hoj ho).2 with hr | hap
      ·exact hr
      ·rw [hoj] at hdt
       exact absurd (Z31 (ops:=ops) (by rw [hl.op]; simp [Op.operands])) ((Oper.apart_spec hap).1 ta hdt)
    ·intro k n h1 h2 hne
     obtain ⟨c,rfl⟩:∃ c,k=N1 + c:=⟨k - N1,by omega⟩
     rcases hLt c h2 with ⟨o,t,ta,x,n',off,y,b,ho,hl,hslot,htg⟩ | ⟨o,x,d,ho,hl,htg⟩
     case inr =>
      rw [show N1 + c - N1=c by omega]
      show Z3c (e.at rN) st n (c + 1)=Z3c (e.at rN) st n c
      unfold Z3c
      rw [hl.eq]
     rw [htg] at hne
     rw [show N1 + c - N1=c by omega]
     show Z3c (e.at rN) st n (c + 1)=Z3c (e.at rN) st n c
     unfold Z3c
     rw [hl.eq]
     simp only [List.getElem?_set_ne (Ne.symm hne)]
    ·intro act w' γ hw' hd hsz hγ hγX hγu hslot
     have hend:st (N - N1)=s3:=by rw [← hll]; exact hstE
     have h3m:=hsame (N - N1) (Nat.le_refl _)
     rw [hend] at h3m
     have hml:sN.mem.length=s0.mem.length + al.length:=by rw [hmem]; simp [hnl]
     have hb3:=fun (n:Nat) (b:Blk) (hb:s3.mem[n]?=some b)=>Z16s hstS (N - N1) (by rw [hll]; exact Nat.le_refl _) n b (by rw [hend]; exact hb)
     have hlike:Env.like s0.mem.length s0.rows.length (e.at rN) { e with r:=rN,β:=e.β++al.map γ } :=
      ⟨rfl,rfl,rfl,fun n hn=>Z19 _ _ _ _ (by show n < e.β.length; rw [h0.nb]; exact hn),fun _ _=>rfl⟩
     obtain ⟨act0,hact0⟩:∃ act0:Act,act0={ act with tmps:=Array.ofFn (n:=a.tmps.size) fun t=>match Zz ops N1 t with | some i=>(ents i).val (γ i) | none=>a.tmps.getD t undef }:=⟨_,rfl⟩
     have hsz0:act0.tmps.size=a.tmps.size:=by rw [hact0]; simp
     have hslot0:∀ t,act0.tmps.getD t undef=match Zz ops N1 t with | some i=>(ents i).val (γ i) | none=>a.tmps.getD t undef:=by
      intro t
      by_cases ht:t < a.tmps.size
      ·rw [hact0]
       simp [Array.getD,ht]
      ·rw [show act0.tmps.getD t undef=undef by simp [Array.getD,hsz0,ht]]
       cases hw:Zz ops N1 t with
       | none=>simp [Array.getD,ht]
       | some i =>
        exfalso
        obtain ⟨h1,h2⟩:=Zm hw
        have hil:i < ops.size:=by omega
        have hoi:ops[i]?=some ops[i]:=Array.getElem?_eq_getElem hil
        rw [hoi] at h2
        have:=hdl i _ t (by omega) hoi h2
        rw [ha0,hkf] at ht
        exact ht this
     obtain ⟨hrel0,hle⟩:=hlex.done (γ:=γ) (act:=act0) hB h0 hXok ⟨hkl.symm,hkr.symm,by rw [← hs0],by rw [← hs0]⟩ ha0 (fun i j t hi hj=>huniq i j t (by omega) (by omega)) hval hw' (by rw [hact0]; exact hd) hsz0 (fun i hi=>by
       obtain ⟨j,hj⟩:=List.getElem?_of_mem hi
       exact (hγ (s0.mem.length + j) i (by
        show (if s0.mem.length + j < s0.mem.length then none else al[s0.mem.length + j - s0.mem.length]?)=some i
        rw [if_neg (by omega),Nat.add_sub_cancel_left]; exact hj)).1) hγu hslot0 (memF:=s3.mem) h3m.2 (fun n b hb hl hn=>by
       obtain ⟨⟨b',h1,_,h2⟩,_⟩:=hb3 n b hb
       rw [hst0m,if_pos hn] at h1
       exact ⟨b',h1,by rw [← h2]; exact hl⟩) (fun n b hb hl=>by
       obtain ⟨⟨b',h1,hty,h2⟩,hun,hsc3⟩:=hb3 n b hb
       rw [Z2e hlike (hsc3 hscp0)]
       have hcontb:Z3c (e.at rN) st n (N - N1)=.cells (b.cells.map (SC.den (e.at rN))).toArray b.ty (0,0):=by
        unfold Z3c
        rw [hend,hb]
       rcases Nat.lt_or_ge n s0.mem.length with hn | hn
       ·rw [show (e.β++al.map γ).getD n 0=e.β.getD n 0 from hlike.β n hn]
        by_cases hx:n ∈ X
        ·have:=hγX n hx
         rw [show (Z79 ops s0.mem.length (e.at rN) al sN (fun n=>n ∈ X) st).cont n (N - N1)=_ from hcontb] at this
         exact this
        ·have h4:=hun hn hx
         rw [hst0m,if_pos hn] at h4
         have h5:=hB.blk n b h4 hl
         rw [hw'.block _ (Z1r h5) (by
          rintro ⟨m,hm,heq⟩
          obtain ⟨_,c,hc,hlc⟩:=hXl m hm
          have:=hB.sep n m b c h4 hc hl hlc heq
          subst this
          exact hx hm),h5,hcell n b h4]
       ·have hlt:=(List.getElem?_eq_some_iff.1 hb).1
        obtain ⟨j,rfl⟩:∃ j,n=s0.mem.length + j:=⟨n - s0.mem.length,by omega⟩
        obtain ⟨i',hj⟩:∃ i',al[j]?=some i':=⟨al[j]'(by omega),List.getElem?_eq_getElem (by omega)⟩
        have h4:=(hγ (s0.mem.length + j) i' (by
         show (if s0.mem.length + j < s0.mem.length then none else al[s0.mem.length + j - s0.mem.length]?)=some _
         rw [if_neg (by omega),Nat.add_sub_cancel_left]; exact hj)).2
        rw [show (Z79 ops s0.mem.length (e.at rN) al sN (fun n=>n ∈ X) st).cont (s0.mem.length + j) (N - N1)=_ from hcontb] at h4
        have h5:(e.β++al.map γ).getD (s0.mem.length + j) 0=γ i':=by
         rw [← h0.nb]
         simp [List.getD,List.getElem?_append_right,hj]
        rw [h5]
        exact h4)
     have h3e:({ sN with mem:=s3.mem }:St)=s3:=h3m.1.symm
     rw [h3e] at hrel0
     have hfr3:s3.fr=sN.fr:=by rw [h3m.1]
     have hfl:s3.fr.length=a.tmps.size:=by rw [hfr3,ha0,hlex.len]
     have hev3:∀ x,s3.ev x=sN.ev x:=fun x=>by
      cases x <;> simp [St.ev,hfr3]
     have hrel:Rel { e with r:=rN,β:=e.β++al.map γ } W0 { s3 with fr:=Z4k s3 ((ops.toList.take N).drop N1) s3.fr } act w':=by
      refine ⟨hrel0.rep.fr _,?_,hd⟩
      have hsl0:∀ t,act0.tmps.getD t undef=(s3.fr.getD t Z5).den { e with r:=rN,β:=e.β++al.map γ }:=fun t=>Z7q hrel0 t
      apply Array.ext
      ·rw [hsz]; simp [Z8w,hfl]
      ·intro t h1 h2
       have hta:t < a.tmps.size:=by rw [← hsz]; exact h1
       rw [show act.tmps[t]=act.tmps.getD t undef by simp [Array.getD,h1],hslot t]
       have hgoal:((Z4k s3 ((ops.toList.take N).drop N1) s3.fr).map (SV.den { e with r:=rN,β:=e.β++al.map γ })).toArray[t]=((Z4k s3 ((ops.toList.take N).drop N1) s3.fr).getD t Z5).den { e with r:=rN,β:=e.β++al.map γ }:=by
        have h3:t < (Z4k s3 ((ops.toList.take N).drop N1) s3.fr).length:=by rw [Z8w,hfl]; exact hta
        simp [List.getD,h3]
       rw [hgoal]
       have hno:(∀ k,N1≤k→k < N→(ops[k]?).bind (·.dst) ≠ some t)→(Z4k s3 ((ops.toList.take N).drop N1) s3.fr).getD t Z5=s3.fr.getD t Z5:=by
        intro hn
        refine Z8x s3 _ _ fun o ho hdo=>?_
        obtain ⟨c,hc⟩:=List.getElem?_of_mem ho
        rw [hlget] at hc
        split at hc
        ·rename_i hcN
         exact hn (N1 + c) (by omega) hcN (by rw [hc]; exact hdo)
        ·cases hc
       cases hw:Zz ops N t with
       | none =>
        rw [hno (fun k h3 h4=>Z3h hw k h4),← hsl0 t,hslot0 t]
        cases hw1:Zz ops N1 t with
        | none=>rfl
        | some i =>
         obtain ⟨h3,h4⟩:=Zm hw1
         exact absurd h4 (Z3h hw i (by omega))
       | some i =>
        obtain ⟨hiN,hid⟩:=Zm hw
        rcases Nat.lt_or_ge i N1 with hi1 | hi1
        ·rw [hno (fun k h3 h4 h5=>by have:=huniq k i t h4 hiN h5 hid; omega),← hsl0 t,hslot0 t,Z4p hi1 hid (fun j hj hjd=>huniq j i t (by omega) hiN hjd hid)]
        ·obtain ⟨c,rfl⟩:∃ c,i=N1 + c:=⟨i - N1,by omega⟩
         rcases hLt c hiN with ⟨o,_,_,_,_,_,_,_,ho,hl,_⟩ | ⟨o,x,d,ho,hl,_⟩
         ·rw [ho] at hid
          simp [hl.dst] at hid
         ·rw [ho] at hid
          simp only [Option.bind_some,hl.dst,Option.some.injEq] at hid
          subst hid
          rw [Zft s3 _ s3.fr c o (by rw [hlget,if_pos hiN]; exact ho) hl.op hl.dst (by rw [hfl]; exact hta) (fun j o' hj hdj=>by
           rw [hlget] at hj
           split at hj
           ·rename_i hjN
            have:=huniq (N1 + j) (N1 + c) d hjN hiN (by rw [hj]; exact hdj) (by rw [ho]; exact hl.dst)
            omega
           ·cases hj),hev3]
          have hsc:(sN.ev x).scp s0.mem.length s0.rows.length=true:=by
           have:=hl.scp
           rw [(hsame c (by omega)).1] at this
           exact this
          rw [hents]
          simp only [Nat.not_lt_of_le (Nat.le_add_right N1 c),if_false,ho,Option.map_some,hl.op]
          exact (SV.den_like hlike _ hsc).symm
     have hfl3:s3.fl=s.fl∧s3.flr=s.flr:=by
      rw [h3m.1]
      refine ⟨hlex.fl.trans ?_,hlex.flr.trans ?_⟩ <;> rw [← hs0]
     have hdp3:s3.dp=bs.length:=by
      rw [h3m.1]
      refine (hlex.dp.trans ?_).trans hdp
      rw [← hs0]
     refine Z45 hG hih _ _ k bs _ act w' hrel hdp3 hsat ?_
     rintro a'' w'' ⟨s'',e'',more,hle'',hrel'',hf,hfr,hd',hsat''⟩
     exact hQ a'' w'' ⟨s'',e'',more,hle.trans hle'',hrel'',hf.trans hfl3.1,hfr.trans hfl3.2,hd',hsat''⟩
    ·unfold cnt
     exact Nat.le_trans (List.length_filter_le _ _) (by simp)
    ·intro j oj _ hj
     simp [Array.getD] at hj
    ·intro n i _ hi
     simp [Array.getD] at hi
    ·intro n hn
     exact hXcont n hn
    ·intro i ob _ hi
     simp [Array.getD] at hi
    ·intro i j _ _ hi
     simp [Array.getD] at hi
    ·intro t
     unfold Z9j
     cases Zz ops N t with
     | none=>rfl
     | some i=>simp [Array.getD]
   ·exact hsat.elim
  ·exact hs.elim
 ·exact hs.elim
theorem Px.mk {W0:Bas} {e e':Env} {s':St} {a:Act} {w:World} {fl flr:Nat} {k:Z9i} {out:Out} {more:List (List Int→Prop)} (hle:Env.le e e') (hrel:Rel e' W0 s' a w) (hf:s'.fl=fl) (hfr:s'.flr=flr) (hd:s'.dp=(bs++more).length) (hs:(k out s').sat Γ e'.R Ψ (bs++more) e'.r):Px Γ Ψ bs W0 e fl flr k out.exitOf a w :=
 ⟨out,s',e',more,rfl,hle,hrel,hf,hfr,hd,hs⟩
theorem Px.trans {W0:Bas} {e e':Env} {fl flr fl' flr':Nat} {k:Z9i} {x:Exit} {a:Act} {w:World} {more:List (List Int→Prop)} (hle:Env.le e e') (hf:fl'=fl) (hfr:flr'=flr) (h:Px Γ Ψ (bs++more) W0 e' fl' flr' k x a w):Px Γ Ψ bs W0 e fl flr k x a w:=by
 obtain ⟨out,s',e'',more',h1,h2,h3,h4,h5,h6,h7⟩:=h
 exact ⟨out,s',e'',more++more',h1,hle.trans h2,h3,h4.trans hf,h5.trans hfr,by rw [← List.append_assoc]; exact h6,by rw [← List.append_assoc]; exact h7⟩
theorem Zo0 {body:Code} {Q Q':Exit→Act→World→Prop} (h:∀ x a w,Q x a w→Q' x a w):∀ (n:Nat) (a:Act) (w:World),Z4f (wps P body) Q n a w→Z4f (wps P body) Q' n a w:=by
 intro n
 induction n with
 | zero=>intro a w hr; exact hr
 | succ n ih =>
  intro a w hr
  rw [Z53] at hr ⊢
  refine Z20 body hr ?_
  intro ex a' w' hx
  cases ex with
  | normal=>exact ih a' w' hx
  | _=>exact h _ _ _ hx
theorem Zg8 {pl:Zdy} {s x:St} {rows:List Row} {aZ:List B} {es:List E} {us:List Nat} (h:Ztb pl s rows x=some (aZ,es,us)) :
  ∃ as1 as2 es1 es2 us1 us2,aZ=as1++as2∧es=es1++es2∧us=us1++us2∧Z2x x pl.fr s.fr x.fr=some (as1,es1,us1)∧Z5e x pl.mem s.mem x.mem=some (as2,es2,us2)∧Zdn (us1++us2)=true∧Zx3 (us1++us2) 0 rows x.rows=true:=by
 unfold Ztb at h
 split at h
 ·rename_i as1 es1 us1 as2 es2 us2 h1 h2
  split at h
  ·rename_i hc
   simp only [Z1h3] at hc
   simp only [Option.some.injEq,Prod.mk.injEq] at h
   obtain ⟨rfl,rfl,rfl⟩:=h
   exact ⟨as1,as2,es1,es2,us1,us2,rfl,rfl,rfl,h1,h2,hc.1,hc.2⟩
  ·cases h
 ·cases h
theorem Zg9 {e:Env} {W0:Bas} {a:Act} {w:World} {k:St→T}:∀ (ts:List Nat) (s:St),Rel e W0 s a w→(Z10b ts s k).sat Γ e.R Ψ bs e.r→∃ x,Rel e W0 { s with fr:=x } a w∧(k { s with fr:=x }).sat Γ e.R Ψ bs e.r
 | [],s,h,hs=>⟨s.fr,h,hs⟩
 | t::ts,s,h,hs=>by
  unfold Z10b at hs
  split at hs
  ·exact Zg9 ts s h hs
  ·obtain ⟨x,h1,hs1⟩:=Z5i h hs
   obtain ⟨y,h2,hs2⟩:=Zg9 ts { s with fr:=x } h1 hs1
   exact ⟨y,h2,hs2⟩
theorem Zqz {ih:Code→St→Z9i→T} (hih:IH P Γ ih) {pl:Zdy} {body:Code} {s:St} {k:Z9i} {W0:Bas} {e:Env} {a:Act} {w:World} (h:Rel e W0 s a w) (hdp:s.dp=bs.length)
  (hs:(Z1do ih pl body s k).sat Γ e.R Ψ bs e.r):∃ n,Z4f (wps P body) (Px Γ Ψ bs W0 e s.fl s.flr k) n a w:=by
 unfold Z1do at hs
 split at hs
 ·rename_i hsc
  split at hs
  ·rename_i aZ es us hm
   obtain ⟨has,hs⟩:=Z2f hs
   obtain ⟨I,μ,hI,hloop⟩:=hs
   obtain ⟨as1,as2,es1,es2,us1,us2,rfl,rfl,rfl,h1,h2,h3,_⟩:=Zg8 hm
   have start:=Znt (ex:=e) (sx:=s) (us0:=us1++us2) h.rep hsc (Env.le_refl _) h rfl rfl h1 h2 h3 has (fun n b hb hl=>by
    obtain ⟨hb',hn⟩:=Zcv hb hl
    exact ⟨hn,b,hb',hl,rfl,rfl,rfl⟩)
   obtain ⟨e2,hle2,her,heR,hrel2⟩:=start
   have hlen:(es1++es2).length=nvS pl.fr + nvM pl.mem:=by
    have h4:=hrel2.rep.nv
    have h5:(Z1dm pl s (us1++us2)).nv=s.nv + (nvS pl.fr + nvM pl.mem):=rfl
    rw [h5,her,List.length_append,List.length_map,h.rep.nv] at h4
    omega
   have key:∀ (n:Nat) (xs:List Int),xs.length=(es1++es2).length→I xs→μ xs < n→∀ (e2:Env) (a:Act) (w:World),Env.le e e2→e2.r=e.r++xs→e2.R=e.R→Rel e2 W0 (Z1dm pl s (us1++us2)) a w →
     Z4f (wps P body) (Px Γ Ψ bs W0 e s.fl s.flr k) n a w:=by
    intro n
    induction n with
    | zero=>intro xs _ _ hlt; omega
    | succ n ihn =>
     intro xs hxl hIx hlt e2 a w hle2 her heR hrel2
     have hbody:=hloop xs hxl hIx
     rw [← her,← heR] at hbody
     rw [Z53]
     refine Z20 body (hih body _ _ W0 Ψ _ e2 a w hrel2 (by show s.dp + 1=_; rw [hdp]; simp) hbody) ?_
     rintro ex a' w' ⟨out,s',e',more,rfl,hle',hrel',hf,hfr,hd,hsat⟩
     have hle3:=hle2.trans hle'
     cases out with
     | norm =>
      dsimp only at hsat
      obtain ⟨frx,hrelx,hsatx⟩:=Zg9 _ s' hrel' hsat
      clear hsat hrel'
      obtain ⟨sx,hsx⟩:∃ sx:St,sx={ s' with fr:=frx }:=⟨_,rfl⟩
      have hf:sx.fl=s.fl:=by rw [hsx]; exact hf
      have hfr:sx.flr=s.flr:=by rw [hsx]; exact hfr
      have hd:sx.dp=((bs++[fun ys=>I ys∧μ ys < μ xs])++more).length:=by rw [hsx]; exact hd
      rw [← hsx] at hrelx hsatx
      clear hsx
      revert hd
      revert hfr
      revert hf
      revert hsatx
      revert hrelx
      generalize sx=s'
      intro hrel' hsat hf hfr hd
      split at hsat
      ·rename_i bs' fs us' hm'
       obtain ⟨has',hsat⟩:=Z2f hsat
       have hback:∀ {d:Nat} {es:List E} {Rr:Fo} {r:List Int} {bb:List (List Int→Prop)} {p:List Int→Prop},bb[d]?=some p→(T.back d es).sat Γ Rr Ψ bb r→p (es.map (E.den Rr r)):=by
        intro d es Rr r bb p hp hb
        simp only [T.sat,hp] at hb
        exact hb
       have hget:((bs++[fun ys=>I ys∧μ ys < μ xs])++more)[s.dp]?=some (fun ys=>I ys∧μ ys < μ xs):=by
        rw [hdp,List.append_assoc,List.getElem?_append_right (Nat.le_refl _),Nat.sub_self]
        rfl
       obtain ⟨hIy,hμ⟩:=hback hget hsat
       obtain ⟨as1',as2',es1',es2',us1',us2',rfl,rfl,rfl,h1',h2',h3',h4'⟩:=Zg8 hm'
       obtain ⟨e3,hle4,her4,heR4,hrel4⟩:=Znt (ex:=e') (sx:=s') (us0:=us1++us2) h.rep hsc hle3 hrel' hf hfr h1' h2' h3' has' (fun n b hb hl=>by
        have:=Zj1 h4' n b hb hl
        rwa [Nat.zero_add] at this)
       refine ihn _ ?_ hIy (by omega) e3 a' w' hle4 her4 heR4 hrel4
       have h5:=hrel4.rep.nv
       have h6:(Z1dm pl s (us1++us2)).nv=s.nv + (nvS pl.fr + nvM pl.mem):=rfl
       rw [h6,her4,List.length_append,h.rep.nv] at h5
       omega
      ·exact hsat.elim
     | exit id=>exact Px.mk (out:=.exit id) (more:=[fun ys=>I ys∧μ ys < μ xs]++more) hle3 hrel' hf hfr (by rw [← List.append_assoc]; exact hd) (by rw [← List.append_assoc]; exact hsat)
     | ret=>exact Px.mk (out:=.ret) (more:=[fun ys=>I ys∧μ ys < μ xs]++more) hle3 hrel' hf hfr (by rw [← List.append_assoc]; exact hd) (by rw [← List.append_assoc]; exact hsat)
   exact ⟨_,key _ _ (by rw [List.length_map]) hI (Nat.lt_succ_self _) e2 a w hle2 her heR hrel2⟩
  ·exact hs.elim
 ·exact hs.elim
theorem Z90 (hm:P.follows .mixedOrders=true) {lp:St→Code→Option Zdy} (hG:Gok P Γ):∀ f:Nat,IH P Γ (Zic P lp Γ f)
 | 0=>fun c s k W0 Ψ bs e a w h _ hs=>hs.elim
 | f + 1=>by
  have ih:=Z90 hm (lp:=lp) hG f
  intro c s k W0 Ψ bs e a w h hdp hs
  cases c with
  | skip=>exact (Px.here (out:=.norm) rfl (Env.le_refl _) h rfl rfl hdp hs)
  | label l=>exact (Px.here (out:=.norm) rfl (Env.le_refl _) h rfl rfl hdp hs)
  | region id ops draw =>
   have fin:∀ a' w',Nx Γ Ψ bs W0 e s.fl s.flr (k .norm) a' w'→Px Γ Ψ bs W0 e s.fl s.flr k .normal a' w':=by
    rintro a' w' ⟨s',e',more,h1,h2,h3,h4,h5,h6⟩
    exact Px.mk (out:=.norm) h1 h2 h3 h4 h5 h6
   cases draw with
   | true=>exact Z166 hm (fun c a w hp=>by obtain ⟨out,_,_,_,hx,_⟩:=hp; cases out <;> cases hx) (fun ⟨a,w,hp⟩=>by obtain ⟨out,_,_,_,hx,_⟩:=hp; cases out <;> cases hx) (Zid hm hG ih h hdp hs fin)
   | false =>
    have alt:(Z3z P Γ (Zic P lp Γ f) ops ops.toList s (k .norm)).sat Γ e.R Ψ bs e.r→wps P (.region id ops false) (Px Γ Ψ bs W0 e s.fl s.flr k) a w:=fun hs =>
     Ze2 (Z45 hG ih ops.toList s (k .norm) bs e a w h hdp hs fin)
    have hs':(Z1di P ops s (k .norm) (Z3z P Γ (Zic P lp Γ f) ops ops.toList s (k .norm))).sat Γ e.R Ψ bs e.r:=hs
    unfold Z1di at hs'
    split at hs'
    ·split at hs'
     ·rename_i aZ s' pend hsp
      split at hs'
      ·rename_i hun
       obtain ⟨has,hk⟩:=Z2f hs'
       have hsr:SpR e W0 s [] a w:=⟨h.rep,h.defs,by rw [h.tmps]; simp,fun t=>by rw [Z7q h t]; rfl,fun p hp=>(by cases hp),List.Pairwise.nil⟩
       refine Ze2 (Z46 ops.toList s [] aZ s' pend e W0 a w hsp has hsr ?_)
       intro a' w' hsr'
       obtain ⟨e',h1,h2,h3,h4,h5,h6,h7⟩:=Zfx pend s' e hsr' hun
       have hst:=Z8y _ _ _ _ _ _ hsp
       exact fin a' w' (Nx.here h1 h4 (h5.trans (by rw [hst])) (h6.trans (by rw [hst])) (h7.trans (by rw [hst]; exact hdp)) (by rw [h2,h3]; exact hk))
      ·exact alt hs'
     ·exact alt hs'
    ·exact alt hs'
  | seq x y =>
   refine Z20 x (ih x s _ W0 Ψ bs e a w h hdp hs) ?_
   rintro ex a' w' ⟨out,s',e',more,rfl,hle,hrel,hf,hfr,hd,hsat⟩
   cases out with
   | norm=>exact Z20 y (ih y s' k W0 Ψ (bs++more) e' a' w' hrel hd hsat) (fun _ _ _ hp=>Px.trans hle hf hfr hp)
   | exit id=>exact Px.mk (out:=.exit id) hle hrel hf hfr hd hsat
   | ret=>exact Px.mk (out:=.ret) hle hrel hf hfr hd hsat
  | cond c x y =>
   cases c with
   | tmp t =>
    simp only [Zic] at hs
    obtain ⟨z,h1,hs1⟩:=Z5i h hs
    have hev:∀ b,Zi8 { s with fr:=z } t=some (.c b)→a.eval (.tmp t)=.bool b:=by
     intro b hb
     rw [h1.eval (.tmp t)]
     show (({ s with fr:=z }:St).fr.getD t Z5).den e=_
     rw [(Z8u hb).2]
     rfl
    split at hs1
    ·rename_i hb
     exact ⟨true,(hev true hb),ih x { s with fr:=z } k W0 Ψ bs e a w h1 hdp hs1⟩
    ·rename_i hb
     exact ⟨false,(hev false hb),ih y { s with fr:=z } k W0 Ψ bs e a w h1 hdp hs1⟩
    ·exact hs1.elim
   | const v =>
    cases v with
    | bool b =>
     cases b with
     | true=>exact ⟨true,rfl,ih x s k W0 Ψ bs e a w h hdp hs⟩
     | false=>exact ⟨false,rfl,ih y s k W0 Ψ bs e a w h hdp hs⟩
    | _=>exact hs.elim
   | global g=>exact hs.elim
   | func g=>exact hs.elim
  | block id body =>
   refine Z20 body (ih body s _ W0 Ψ bs e a w h hdp hs) ?_
   rintro ex a' w' ⟨out,s',e',more,rfl,hle,hrel,hf,hfr,hd,hsat⟩
   cases out with
   | norm=>exact Px.mk (out:=.norm) hle hrel hf hfr hd hsat
   | exit id' =>
    dsimp only at hsat
    show if id'=id then _ else _
    split at hsat
    ·rename_i hid
     rw [if_pos hid]
     exact Px.mk (out:=.norm) hle hrel hf hfr hd hsat
    ·rename_i hid
     rw [if_neg hid]
     exact Px.mk (out:=.exit id') hle hrel hf hfr hd hsat
   | ret=>exact Px.mk (out:=.ret) hle hrel hf hfr hd hsat
  | loop body =>
   simp only [Zic] at hs
   split at hs
   ·obtain ⟨n,hr⟩:=Zqz ih h hdp hs
    exact ⟨n,hr⟩
   ·have key:∀ (n:Nat) (s:St) (bs:List (List Int→Prop)) (e:Env) (a:Act) (w:World),Rel e W0 s a w→s.dp=bs.length→(Z1dn (Zic P lp Γ f) body n s k).sat Γ e.R Ψ bs e.r→Z4f (wps P body) (Px Γ Ψ bs W0 e s.fl s.flr k) n a w:=by
     intro n
     induction n with
     | zero=>intro s bs e a w _ _ hs; exact hs.elim
     | succ n ihn =>
      intro s bs e a w h hdp hs
      rw [Z53]
      refine Z20 body (ih body s _ W0 Ψ bs e a w h hdp hs) ?_
      rintro ex a' w' ⟨out,s',e',more,rfl,hle,hrel,hf,hfr,hd,hsat⟩
      cases out with
      | norm=>exact Zo0 (fun x a w hp=>Px.trans hle hf hfr hp) n a' w' (ihn s' (bs++more) e' a' w' hrel hd hsat)
      | exit id=>exact Px.mk (out:=.exit id) hle hrel hf hfr hd hsat
      | ret=>exact Px.mk (out:=.ret) hle hrel hf hfr hd hsat
    exact ⟨f,key f s bs e a w h hdp hs⟩
  | exit id=>exact (Px.here (out:=.exit id) rfl (Env.le_refl _) h rfl rfl hdp hs)
  | ret=>exact (Px.here (out:=.ret) rfl (Env.le_refl _) h rfl rfl hdp hs)
  | rangeFunc _ _ _ _=>exact hs.elim
  | scope _=>exact hs.elim
  | goto _=>exact hs.elim
  | refuse _=>exact hs.elim
theorem E.den_Rf (R R':Fo) (r:List Int):E.den R r=E.den R' r:=funext fun a=>E.den_R R R' r a
theorem B.den_R (R R':Fo) (r:List Int):∀ a:B,a.den R r=a.den R' r:=by
 intro a
 induction a <;> simp only [B.den,E.den_R R R'] <;> simp_all
theorem T.sat_R (R R':Fo):∀ (t:T) (bs:List (List Int→Prop)) (r:List Int),t.sat Γ R Ψ bs r=t.sat Γ R' Ψ bs r:=by
 intro t
 induction t with
 | ret es=>intro bs r; simp only [T.sat,E.den_Rf R R']
 | ite b t f iht ihf=>intro bs r; simp only [T.sat,B.den_R R R',iht bs r,ihf bs r]
 | asrt b t ih=>intro bs r; simp only [T.sat,B.den_R R R',ih bs r]
 | call g args t ih =>
  intro bs r
  simp only [T.sat,E.den_Rf R R']
  split
  ·rw [ih]
  ·rfl
 | loop n ini t ih=>intro bs r; simp only [T.sat,E.den_Rf R R',ih]
 | back d es =>
  intro bs r
  simp only [T.sat,E.den_Rf R R']
 | both t f iht ihf=>intro bs r; simp only [T.sat,iht bs r,ihf bs r]
 | any n g args t ih =>
  intro bs r
  simp only [T.sat,E.den_Rf R R',ih]
 | fail=>intro bs r; rfl
theorem Z91:∀ {ks:List K} {es:List E} {i:Nat} {kr:List K} {x:E},(hsE ks es)[i]?=some (kr,x)→∃ ty,(Z24 ks es)[i]?=some ⟨ty,kr,x,true⟩
 | [],_,i,kr,x,h=>by simp [hsE] at h
 | .i _::ks,[],i,kr,x,h=>by simp [hsE] at h
 | .b::ks,[],i,kr,x,h=>by simp [hsE] at h
 | .s _ _::ks,[],i,kr,x,h=>by simp [hsE] at h
 | .i _::ks,_::es,i,kr,x,h=>Z91 (ks:=ks) (es:=es) (i:=i) h
 | .b::ks,_::es,i,kr,x,h=>Z91 (ks:=ks) (es:=es) (i:=i) h
 | .s ty _::ks,_::es,0,kr,x,h=>by
  simp only [hsE,Z1gq,Option.some.injEq,Prod.mk.injEq] at h
  obtain ⟨rfl,rfl⟩:=h
  exact ⟨ty,rfl⟩
 | .s _ _::ks,_::es,i + 1,kr,x,h=>by
  obtain ⟨ty,h'⟩:=Z91 (ks:=ks) (es:=es) (i:=i) (by simpa [hsE] using h)
  exact ⟨ty,by simpa [Z24] using h'⟩
theorem Z63.slice {w:World} {ks:List K} {v:Value} {c:Int} (h:Z63 w ks v c):∃ a l cp,v=.slice a l cp:=by
 rcases h with ⟨⟨a,h⟩,_⟩ | ⟨b,off,cap,h,_⟩
 ·exact ⟨_,_,_,h⟩
 ·exact ⟨_,_,_,h⟩
theorem Zo1 (hm:P.follows .mixedOrders=true) (hG:Gok P Γ) {lp:St→Code→Option Zdy} {gl:List (Nat × List Int)} {fuel:Nat} {fn:FuncId} {ps rs:List Sh} {xs:List Int} {vs:List Value} (w:World) (hx:Z76 (fun _ ks u n=>SlN w ks u n) ps vs xs)
  (hs:(Zn P lp gl Γ fuel fn ps rs).sat Γ [] Ψ [] xs) (hgl:Zmp gl w) :
  Calls P fn vs.toArray w fun x w'=>∃ ys v,x=.returned v∧Ψ ys∧Zar (fun k=>w.heap.size≤k) w' rs v ys∧Below w.heap.size w w':=by
 unfold Zn at hs
 split at hs
 ·rename_i F hF
  split at hs
  ·rename_i body hb
   have hxl:=hx.len.1
   have hv:(Zb 0 (Zj ps)).map (E.den (Za ps vs) xs)=xs:=by
    have:=Z2s (R:=Za ps vs) (r:=[]) hxl
    simpa using this
   have hx':Z76 (fun _ ks u n=>SlN w ks u n) ps vs ((Zb 0 (Zj ps)).map (E.den (⟨xs,[],[],[],Za ps vs⟩:Env).R (⟨xs,[],[],[],Za ps vs⟩:Env).r)):=by
    show Z76 _ ps vs ((Zb 0 (Zj ps)).map (E.den (Za ps vs) xs))
    rw [hv]; exact hx
   obtain ⟨r1,r2⟩:=Z2o hx'
   have hsl:∀ (j:Nat) (u:Value),(Za ps vs)[j]?=some u→∃ a l cp,u=.slice a l cp:=fun j u hj=>by
    obtain ⟨b,hb'⟩:∃ b,(Z24 (Z4b ps) (Zb 0 (Zj ps)))[j]?=some b:=⟨_,List.getElem?_eq_getElem (by rw [← r1]; exact (List.getElem?_eq_some_iff.1 hj).1)⟩
    exact (r2 j b u hb' hj).now.slice
   have hden:((Zf9 Zt8 0 ps (Zb 0 (Zj ps))).map SV.w).map (SV.den ⟨xs,[],[],[],Za ps vs⟩)=vs:=by
    rw [List.map_map]
    refine Zb3 (e:=⟨xs,[],[],[],Za ps vs⟩) hx' fun j u hj=>?_
    simp only [Zt8,SC.den,G.val,Nat.zero_add,List.getD,hj,Option.getD_some]
    exact Zg0 (hsl j u hj)
   have hrep:Rep ⟨xs,[],[],[],Za ps vs⟩ ⟨w,fun _=>False⟩ ⟨Z7m ps F.ntmps,[],[],Zj ps,0,0,0,gl,hsE (Z4b ps) (Zb 0 (Zj ps)),0⟩ w:=by
    refine ⟨Zt.refl _,rfl,rfl,hxl,rfl,?_,?_,?_,?_,?_,?_,?_,⟨hgl,fun _ _ _ hh=>hh⟩,?_⟩
    ·intro n b hb; simp at hb
    ·intro n b hb; simp at hb
    ·intro n m b c hb; simp at hb
    ·intro n b hb; simp at hb
    ·intro n b hb; simp at hb
    ·intro n m b c k hb; simp at hb
    ·intro n m b c hb; simp at hb
    ·intro i ks c hi
     obtain ⟨ty,hr⟩:=Z91 hi
     have hlt:i < (Za ps vs).length:=by rw [r1]; exact (List.getElem?_eq_some_iff.1 hr).1
     have hu:(Za ps vs)[i]?=some (Za ps vs)[i]:=List.getElem?_eq_getElem hlt
     have:=r2 i _ _ hr hu
     show SlN w ks (slV ((Za ps vs).getD i undef)) _
     rw [show (Za ps vs).getD i undef=(Za ps vs)[i] by simp [List.getD,hu],Zg0 (hsl i _ hu)]
     exact this
   rw [T.sat_R [] (Za ps vs)] at hs
   have:=Ziy (Z90 hm (lp:=lp) hG fuel) hrep (args:=(Zf9 Zt8 0 ps (Zb 0 (Zj ps))).map SV.w) (rs:=rs) (Ψ:=Ψ) (bs:=[]) rfl hF hb hs
   rw [hden] at this
   refine this.mono ?_
   rintro x w' ⟨ys,v,h1,h2,h3,h4⟩
   exact ⟨ys,v,h1,h2,Zar.up (fun k hk=>hk.elim id (fun hh=>hh.elim)) h3,h4.below⟩
  ·exact hs.elim
 ·exact hs.elim
theorem Sum.ok_ofL (hm:P.follows .mixedOrders=true) (hG:Gok P Γ) {lp:St→Code→Option Zdy} {s:Sum} {fuel:Nat} {t:T} (ht:Zn P lp s.gl Γ fuel s.fn s.ps s.rs=t)
  (hsh:(s.ps++s.rs).all (fun sh=>sh.agg || sh.ks.length == 1)=true)
  (hs:∀ xs:List Int,xs.length=Zj s.ps→s.pre xs→t.sat Γ [] (fun ys=>ys=s.sem xs) [] xs)
  (hl:∀ xs:List Int,xs.length=Zj s.ps→s.pre xs→(s.sem xs).length=Zj s.rs):s.ok P:=by
 subst ht
 refine ⟨fun sh h=>?_,fun xs vs w hgl hx hpre=>⟨hl xs hx.len.1 hpre,?_⟩⟩
 ·have:=List.all_eq_true.1 hsh sh h
  simpa using this
 ·refine (Zo1 hm hG w hx (hs xs hx.len.1 hpre) hgl).mono ?_
  rintro e w' ⟨ys,v,rfl,rfl,hv,hb⟩
  exact ⟨v,rfl,hv,hb⟩
end
end Go.Sx
namespace Go.Sx
open Go.RowKit Go.ChangeShapes Go.WideShapes Go.ChangeAt
def Zkf (P:Program) (rec:TypeId→Option (List K)):List Field→Nat→Option (List K)
 | [],_=>some []
 | f::fs,off=>if f.offset=off then match rec f.type with
   | some ks=>if ks.length=P.cellsOf f.type then (Zkf P rec fs (off + ks.length)).map (ks++·) else none
   | none=>none
  else none
def Zo2 (P:Program):Nat→TypeId→Option (List K)
 | 0,_=>none
 | d + 1,t=>match P.underlying t with
  | some (.int k)=>some [.i k]
  | some .bool=>some [.b]
  | some (.struct fs)=>match Zkf P (Zo2 P d) fs.toList 0 with
   | some ks=>if ks.length=P.cellsOf t then some ks else none
   | none=>none
  | some (.array n e)=>match Zo2 P d e with
   | some ks=>if ks.length=P.cellsOf e∧n * ks.length=P.cellsOf t then some (List.replicate n ks).flatten else none
   | none=>none
  | _=>none
def inK:K→Int→Prop
 | .i k,n=>(Lit.int k n).wf=true
 | .b,n=>n=0∨n=1
 | .s _ _,_=>True
def Zc:List K→List Int→Prop
 | [],[]=>True
 | k::ks,x::xs=>inK k x∧Zc ks xs
 | _,_=>False
theorem Z1s:∀ {ks:List K} {xs:List Int},Zc ks xs→xs.length=ks.length
 | [],[],_=>rfl
 | _::_,_::_,h=>by simp [Z1s h.2]
 | [],_::_,h=>h.elim
 | _::_,[],h=>h.elim
theorem Za7:∀ {ks ls:List K} {xs ys:List Int},Zc ks xs→Zc ls ys→Zc (ks++ls) (xs++ys)
 | [],_,[],_,_,h=>h
 | _::_,_,_::_,_,h,h'=>⟨h.1,Za7 h.2 h'⟩
 | [],_,_::_,_,h,_=>h.elim
 | _::_,_,[],_,h,_=>h.elim
theorem Z4q:∀ {ks ls:List K} {xs ys:List Int},xs.length=ks.length→Z9 (ks++ls) (xs++ys)=Z9 ks xs++Z9 ls ys
 | [],_,[],_,_=>rfl
 | _::ks,ls,x::xs,ys,h=>by
  simp only [Z1gu,Z9,List.length_cons,Nat.add_right_cancel_iff] at h ⊢
  rw [Z4q h]
 | [],_,_::_,_,h=>by simp at h
 | _::_,_,[],_,h=>by simp at h
section
variable {H:Type} {enc:TypeId × Value→H} {P:Program} {w:World} {base:Nat} {spare:Nat→Bool} {held:Bool}
theorem Zj2 {fuel:Nat} {rec:TypeId→Option (List K)} {xs:List (DataW H × List MemPlace)} {cs:List Value}
    (hrec:∀ (t:TypeId) (ks:List K) (c:List Value) (x:DataW H × List MemPlace),rec t=some ks→DataW.trod enc P w base spare held fuel t c=some x→∃ ys,c=Z9 ks ys∧Zc ks ys) :
    ∀ (fs:List Field) (off i:Nat) (ks:List K),Zkf P rec fs off=some ks→off + ks.length≤cs.length →
      (∀ j f,fs[j]?=some f→DataW.trod enc P w base spare held fuel f.type ((cs.drop f.offset).take (P.cellsOf f.type))=xs[i + j]?)→i + fs.length≤xs.length →
      ∃ ys,(cs.drop off).take ks.length=Z9 ks ys∧Zc ks ys
  | [],off,i,ks,h,_,_,_=>by
    simp only [Zkf,Option.some.injEq] at h
    subst h
    exact ⟨[],by simp [Z9],trivial⟩
  | f::fs,off,i,ks,h,hle,hx,hlen=>by
    simp only [Zkf] at h
    split at h
    · rename_i hoff
      split at h
      · rename_i k1 hk1
        split at h
        · rename_i hc
          simp only [Option.map_eq_some_iff] at h
          obtain ⟨k2,hk2,rfl⟩:=h
          simp only [List.length_append,List.length_cons] at hle hlen
          have h0:=hx 0 f rfl
          rw [Nat.add_zero,List.getElem?_eq_getElem (by omega)] at h0
          obtain ⟨y1,hy1,hr1⟩:=hrec f.type k1 _ _ hk1 h0
          obtain ⟨y2,hy2,hr2⟩:=Zj2 (cs:=cs) (xs:=xs) hrec fs (off + k1.length) (i + 1) k2 hk2 (by omega) (fun j g hg=>by
            have:=hx (j + 1) g hg
            rwa [show i + (j + 1)=i + 1 + j by omega] at this) (by omega)
          refine ⟨y1++y2,?_,Za7 hr1 hr2⟩
          rw [Z4q (Z1s hr1),← hy2,← hy1,hoff,← hc,List.length_append,List.take_add,List.drop_drop]
        · cases h
      · cases h
    · cases h
theorem Zo3 {fuel:Nat} {e:TypeId} {ks:List K} {xs:List (DataW H × List MemPlace)} {cs:List Value} (hks:ks.length=P.cellsOf e)
    (hrec:∀ (c:List Value) (x:DataW H × List MemPlace),DataW.trod enc P w base spare held fuel e c=some x→∃ ys,c=Z9 ks ys∧Zc ks ys) :
    ∀ (n i:Nat),(∀ j,j < n→DataW.trod enc P w base spare held fuel e ((cs.drop ((i + j) * P.cellsOf e)).take (P.cellsOf e))=xs[i + j]?)→i + n≤xs.length →
      ∃ ys,(cs.drop (i * ks.length)).take (n * ks.length)=Z9 (List.replicate n ks).flatten ys∧Zc (List.replicate n ks).flatten ys
  | 0,i,_,_=>⟨[],by simp [Z9],trivial⟩
  | n + 1,i,hx,hlen=>by
    have h0:=hx 0 (by omega)
    rw [Nat.add_zero,List.getElem?_eq_getElem (by omega)] at h0
    obtain ⟨y1,hy1,hr1⟩:=hrec _ _ h0
    obtain ⟨y2,hy2,hr2⟩:=Zo3 (cs:=cs) (xs:=xs) hks hrec n (i + 1) (fun j hj=>by
      have:=hx (j + 1) (by omega)
      rwa [show i + (j + 1)=i + 1 + j by omega] at this) (by omega)
    refine ⟨y1++y2,?_,?_⟩
    · rw [List.replicate_succ,List.flatten_cons,Z4q (Z1s hr1),← hy2,← hy1,hks,Nat.add_mul,Nat.one_mul,Nat.add_comm (n * P.cellsOf e),List.take_add,List.drop_drop,Nat.add_mul,Nat.one_mul]
    · rw [List.replicate_succ,List.flatten_cons]
      exact Za7 hr1 hr2
theorem Zkg:∀ (d fuel:Nat) (t:TypeId) (ks:List K) (cs:List Value) (x:DataW H × List MemPlace),Zo2 P d t=some ks→DataW.trod enc P w base spare held fuel t cs=some x→∃ xs,cs=Z9 ks xs∧Zc ks xs
 | 0,_,_,_,_,_,h,_=>by simp [Zo2] at h
 | d + 1,fuel,t,ks,cs,x,h,hd=>by
  unfold Zo2 at h
  split at h
  ·rename_i k ht
   simp only [Option.some.injEq] at h
   subst h
   obtain ⟨n,rfl,_,hwf⟩:=DataW.trod_int ht hd
   exact ⟨[n],rfl,hwf,trivial⟩
  ·rename_i ht
   simp only [Option.some.injEq] at h
   subst h
   obtain ⟨b,rfl,_⟩:=DataW.trod_bool ht hd
   exact ⟨[if b then 1 else 0],by cases b <;> rfl,by cases b <;> simp [inK],trivial⟩
  ·rename_i fs ht
   split at h
   ·rename_i ks' hks
    split at h
    ·rename_i hc
     simp only [Option.some.injEq] at h
     subst h
     obtain ⟨xs,n,rfl,_,hcl,hxl,hf⟩:=DataW.trod_struct ht hd
     obtain ⟨ys,hy,hr⟩:=Zj2 (cs:=cs) (xs:=xs) (fun t ks c x h1 h2=>Zkg d n t ks c x h1 h2) fs.toList 0 0 ks' hks (by omega) (fun j f hj=>by
      rw [Nat.zero_add]
      exact hf j f (by simpa using hj)) (by simp; omega)
     refine ⟨ys,?_,hr⟩
     rw [← hy,List.drop_zero,List.take_of_length_le (by omega)]
    ·cases h
   ·cases h
  ·rename_i n e ht
   split at h
   ·rename_i ks' hks
    split at h
    ·rename_i hc
     simp only [Option.some.injEq] at h
     subst h
     obtain ⟨xs,m,rfl,_,hcl,hxl,hf⟩:=DataW.trod_array ht hd
     obtain ⟨ys,hy,hr⟩:=Zo3 (cs:=cs) (xs:=xs) hc.1 (fun c x h2=>Zkg d m e ks' c x hks h2) n 0 (fun j hj=>by
      rw [Nat.zero_add]
      exact hf j hj) (by omega)
     refine ⟨ys,?_,hr⟩
     rw [← hy,Nat.zero_mul,List.drop_zero,List.take_of_length_le (by omega)]
    ·cases h
   ·cases h
  ·cases h
theorem Zga {r:Reach} {b0:Nat} {t:TypeId} {sh:Sh} {v:Value} {d:DataW H} {ps:List MemPlace} (hl:Zo2 P 8 t=some sh.ks) (ha:Z73 P t=sh.agg) (hval:Value.okWide P w r b0 t v) (hd:DataW.Trod enc P w base spare held t v d ps) :
  ∃ xs,v=Zzz sh xs∧Zc sh.ks xs:=by
 obtain ⟨fuel,hf⟩:=hd
 obtain ⟨xs,hxs,hr⟩:=Zkg 8 fuel t sh.ks v.cells.toList _ hl hf
 refine ⟨xs,?_,hr⟩
 unfold Z73 at ha
 unfold Value.okWide at hval
 cases hu:P.underlying t with
 | none=>simp [Zo2,hu] at hl
 | some dsc =>
  rw [hu] at ha hval
  cases dsc with
  | struct fs =>
   obtain ⟨cs,rfl,_⟩:=hval
   simp only at ha
   simp [Zzz,← ha,← hxs,Value.cells]
  | array n e =>
   obtain ⟨cs,rfl,_⟩:=hval
   simp only at ha
   simp [Zzz,← ha,← hxs,Value.cells]
  | int k =>
   obtain ⟨n,rfl⟩:=okWide_int hu (by unfold Value.okWide; rw [hu]; exact hval)
   simp only at ha
   simp [Zzz,← ha,← hxs,Value.cells]
  | bool =>
   obtain ⟨n,rfl⟩:=okWide_bool hu (by unfold Value.okWide; rw [hu]; exact hval)
   simp only at ha
   simp [Zzz,← ha,← hxs,Value.cells]
  | _=>simp [Zo2,hu] at hl
end
theorem Z110 {n:Int} (h:(Lit.int .i64 n).wf=true):-9223372036854775808≤n∧n≤9223372036854775807:=by
 simp only [Lit.wf,Z1h3,Z1h4] at h
 have h1:IntKind.i64.min=-9223372036854775808:=by decide
 have h2:IntKind.i64.max=9223372036854775807:=by decide
 rw [h1,h2] at h
 exact h
def Bo:Sh:=⟨false,[.b]⟩
def I1:Sh:=⟨false,[.i .i64]⟩
def An (n:Nat):Sh:=⟨true,List.replicate n (.i .i64)⟩
theorem Zxk {w:World} {a:Addr}:∀ (n:Nat) (f:Nat→Nat) (cs:List Value),(List.range n).mapM (fun i=>w.cell? (a.add (f i)))=some cs→cs.length=n∧∀ j v,cs[j]?=some v→w.cell? (a.add (f j))=some v:=by
 have key:∀ (l:List Nat) (f:Nat→Nat) (cs:List Value),l.mapM (fun i=>w.cell? (a.add (f i)))=some cs→cs.length=l.length∧∀ (j:Nat) (v:Value),cs[j]?=some v→∃ i,l[j]?=some i∧w.cell? (a.add (f i))=some v:=by
  intro l
  induction l with
  | nil=>intro f cs h; simp at h; subst h; simp
  | cons x l ih =>
   intro f cs h
   simp only [List.mapM_cons,Option.bind_eq_bind,Option.pure_def,Option.bind_eq_some_iff,Option.some.injEq] at h
   obtain ⟨v,hv,vs,hvs,rfl⟩:=h
   obtain ⟨h1,h2⟩:=ih f vs hvs
   refine ⟨by simp [h1],fun j u hj=>?_⟩
   cases j with
   | zero=>simp only [Z1gq,Option.some.injEq] at hj; subst hj; exact ⟨x,rfl,hv⟩
   | succ j=>obtain ⟨i,h3,h4⟩:=h2 j u (by simpa using hj); exact ⟨i,by simpa using h3,h4⟩
 intro n f cs h
 obtain ⟨h1,h2⟩:=key _ f cs h
 refine ⟨by simpa using h1,fun j v hj=>?_⟩
 obtain ⟨i,h3,h4⟩:=h2 j v hj
 have hlt:j < n:=by have:=(List.getElem?_eq_some_iff.1 h3).1; simpa using this
 rw [List.getElem?_range hlt] at h3
 simp only [Option.some.injEq] at h3
 rw [h3]; exact h4
def Z16u (ks:List K) (ys:List Int):Int:=if ks.length=1 then ys.getD 0 0 else cod ys
theorem Zo4 {ks:List K} {ys:List Int} (h:ys.length=ks.length):elt ks (Z16u ks ys)=ys:=by
 unfold elt Z16u
 by_cases h1:ks.length=1
 ·simp only [h1,if_true]
  rw [h1] at h
  match ys,h with
  | [y],_=>rfl
 ·simp only [h1,if_false,Z4]
theorem Zgb {S:TypeId→List K→Value→Int→Prop}:∀ {ks:List K} {xs:List Int},nS ks=0→xs.length=ks.length→Z3b S ks (Z9 ks xs) xs
 | [],[],_,_=>trivial
 | .i k::ks,x::xs,h,hl=>⟨rfl,Zgb (ks:=ks) h (by simpa using hl)⟩
 | .b::ks,x::xs,h,hl=>⟨rfl,Zgb (ks:=ks) h (by simpa using hl)⟩
 | .s _ _::_,_,h,_=>by simp [nS] at h
 | [],_::_,_,h=>by simp at h
 | _::_,[],_,h=>by simp at h
theorem Zo5 {S:TypeId→List K→Value→Int→Prop} {s:Sh} {xs:List Int} (hs:(s.agg || s.ks.length == 1)=true) (h:nS s.ks=0) (hl:xs.length=s.ks.length):ShR S s (Zzz s xs) xs:=by
 have:=Zgb (S:=S) h hl
 unfold ShR Zzz
 cases ha:s.agg with
 | true=>simp only [if_true]; exact ⟨_,rfl,this⟩
 | false =>
  simp only [ha,Bool.false_or,beq_iff_eq] at hs
  simp only [Bool.false_eq_true,if_false]
  have h1:=Z1f hl
  rw [hs] at h1
  match hm:Z9 s.ks xs,h1 with
  | [v],_=>rw [hm] at this; exact this
end Go.Sx
set_option maxRecDepth 100000
namespace Go.Proofs.YtgcoidbaoigkeaaGreatDoor.facts
open Go.RowKit Go.ChangeShapes Go.WideShapes Go.ChangeAt Go.Sx
theorem own:ownKnob Tryz.prog.godebug=none:=by kernel_rfl
theorem laidOut:laidOutB Tryz.prog=true:=by kernel_rfl
theorem mixed:Tryz.prog.follows .mixedOrders=true:=by kernel_rfl
theorem Zxl:mapsRowed Tryz.prog=true:=by kernel_rfl
theorem stops:Tryz.prog.stops=[]:=by kernel_rfl
theorem stopKnobs:Tryz.prog.stopKnobs=[]:=by kernel_rfl
theorem plainKeys:Tryz.prog.plainKeys=true:=by kernel_rfl
theorem heard:Tryz.prog.stopsHeard=true:=by kernel_rfl
theorem initIs:Tryz.prog.initOrder = "harness b3924336b0480d2658ba0abf4705aba63770927102c8bae2dcedd6927e28cde3 cut at diorama/dioramatop.TopOnly diorama/dioramatop.TopFound diorama/dioramalaw18.FindFinds":=by kernel_rfl
theorem litIs : "harness b3924336b0480d2658ba0abf4705aba63770927102c8bae2dcedd6927e28cde3 cut at diorama/dioramatop.TopOnly diorama/dioramatop.TopFound diorama/dioramalaw18.FindFinds"=String.ofList ['h','a','r','n','e','s','s',' ','b','3','9','2','4','3','3','6','b','0','4','8','0','d','2','6','5','8','b','a','0','a','b','f','4','7','0','5','a','b','a','6','3','7','7','0','9','2','7','1','0','2','c','8','b','a','e','2','d','c','e','d','d','6','9','2','7','e','2','8','c','d','e','3',' ','c','u','t',' ','a','t',' ','d','i','o','r','a','m','a','/','d','i','o','r','a','m','a','t','o','p','.','T','o','p','O','n','l','y',' ','d','i','o','r','a','m','a','/','d','i','o','r','a','m','a','t','o','p','.','T','o','p','F','o','u','n','d',' ','d','i','o','r','a','m','a','/','d','i','o','r','a','m','a','l','a','w','1','8','.','F','i','n','d','F','i','n','d','s']:=by kernel_rfl
theorem words:wordsSigns Tryz.prog.initOrder.toList=[['h','a','r','n','e','s','s'],['b','3','9','2','4','3','3','6','b','0','4','8','0','d','2','6','5','8','b','a','0','a','b','f','4','7','0','5','a','b','a','6','3','7','7','0','9','2','7','1','0','2','c','8','b','a','e','2','d','c','e','d','d','6','9','2','7','e','2','8','c','d','e','3'],['c','u','t'],['a','t'],['d','i','o','r','a','m','a','/','d','i','o','r','a','m','a','t','o','p','.','T','o','p','O','n','l','y'],['d','i','o','r','a','m','a','/','d','i','o','r','a','m','a','t','o','p','.','T','o','p','F','o','u','n','d'],['d','i','o','r','a','m','a','/','d','i','o','r','a','m','a','l','a','w','1','8','.','F','i','n','d','F','i','n','d','s']]:=by
 rw [initIs,litIs,String.toList_ofList]
 kernel_rfl
theorem behind:behindMainWord [['h','a','r','n','e','s','s'],['b','3','9','2','4','3','3','6','b','0','4','8','0','d','2','6','5','8','b','a','0','a','b','f','4','7','0','5','a','b','a','6','3','7','7','0','9','2','7','1','0','2','c','8','b','a','e','2','d','c','e','d','d','6','9','2','7','e','2','8','c','d','e','3'],['c','u','t'],['a','t'],['d','i','o','r','a','m','a','/','d','i','o','r','a','m','a','t','o','p','.','T','o','p','O','n','l','y'],['d','i','o','r','a','m','a','/','d','i','o','r','a','m','a','t','o','p','.','T','o','p','F','o','u','n','d'],['d','i','o','r','a','m','a','/','d','i','o','r','a','m','a','l','a','w','1','8','.','F','i','n','d','F','i','n','d','s']]=[['c','u','t'],['a','t'],['d','i','o','r','a','m','a','/','d','i','o','r','a','m','a','t','o','p','.','T','o','p','O','n','l','y'],['d','i','o','r','a','m','a','/','d','i','o','r','a','m','a','t','o','p','.','T','o','p','F','o','u','n','d'],['d','i','o','r','a','m','a','/','d','i','o','r','a','m','a','l','a','w','1','8','.','F','i','n','d','F','i','n','d','s']]:=by kernel_rfl
theorem Ze8:behindMainWord (wordsSigns Tryz.prog.initOrder.toList)=[['c','u','t'],['a','t'],['d','i','o','r','a','m','a','/','d','i','o','r','a','m','a','t','o','p','.','T','o','p','O','n','l','y'],['d','i','o','r','a','m','a','/','d','i','o','r','a','m','a','t','o','p','.','T','o','p','F','o','u','n','d'],['d','i','o','r','a','m','a','/','d','i','o','r','a','m','a','l','a','w','1','8','.','F','i','n','d','F','i','n','d','s']]:=by rw [words,behind]
theorem Zb9:stripLifts liftWords [['c','u','t'],['a','t'],['d','i','o','r','a','m','a','/','d','i','o','r','a','m','a','t','o','p','.','T','o','p','O','n','l','y'],['d','i','o','r','a','m','a','/','d','i','o','r','a','m','a','t','o','p','.','T','o','p','F','o','u','n','d'],['d','i','o','r','a','m','a','/','d','i','o','r','a','m','a','l','a','w','1','8','.','F','i','n','d','F','i','n','d','s']]=([],[['c','u','t'],['a','t'],['d','i','o','r','a','m','a','/','d','i','o','r','a','m','a','t','o','p','.','T','o','p','O','n','l','y'],['d','i','o','r','a','m','a','/','d','i','o','r','a','m','a','t','o','p','.','T','o','p','F','o','u','n','d'],['d','i','o','r','a','m','a','/','d','i','o','r','a','m','a','l','a','w','1','8','.','F','i','n','d','F','i','n','d','s']]):=by kernel_rfl
theorem Z1e0 {P:Program} {c:List Char} {rest:List (List Char)} (h:behindMainWord (wordsSigns P.initOrder.toList)=c::rest)
  (h1:(c == "gc".toList || c == "spec".toList)=false) (h2:(c == "cut".toList)=true):P.make=some .cut:=by
 unfold Program.make
 rw [h]
 simp only [h1,h2,Bool.true_or,if_true,Bool.false_eq_true,if_false]
theorem Zo6 {P:Program} {ws rs:List (List Char)} (h:behindMainWord (wordsSigns P.initOrder.toList)=ws) (hs:stripLifts liftWords ws=([],rs)):P.headLifts=[]:=by
 unfold Program.headLifts
 rw [h]
 simp only [hs]
 split <;> rfl
theorem Zkh {P:Program} {ws:List (List Char)} (h:behindMainWord (wordsSigns P.initOrder.toList)=ws) (hl:P.headLifts=[])
  (h1:(ws.head? == some "carried".toList)=false):P.liftsFinal=false:=by
 unfold Program.liftsFinal
 simp only [h,hl,h1,Bool.false_and,Bool.false_or]
 rfl
theorem Zr0 {P:Program} {c:List Char} {rest:List (List Char)} (h:behindMainWord (wordsSigns P.initOrder.toList)=c::rest) (hs:stripLifts liftWords (c::rest)=([],c::rest))
  (h1:(some c == some "cut".toList)=true) (h2:P.laysLater=false) (h3:P.bearsReflect=false) (h4:P.doorFits []=true):P.mayEnter=true:=by
 unfold Program.mayEnter
 rw [h]
 simp only [hs,List.head?_cons,h1,h2,h3,h4,Bool.not_false,Bool.or_true,Bool.and_true,Bool.true_and,List.contains_nil]
theorem mayEnter:Tryz.prog.mayEnter=true:=Zr0 Ze8 Zb9 (by kernel_rfl) (by kernel_rfl) (by kernel_rfl) (by kernel_rfl)
theorem headLifts:Tryz.prog.headLifts=[]:=Zo6 Ze8 Zb9
theorem liftsFinal:Tryz.prog.liftsFinal=false:=Zkh Ze8 headLifts (by kernel_rfl)
theorem make:Tryz.prog.make=some .cut:=Z1e0 Ze8 (by kernel_rfl) (by kernel_rfl)
theorem joined {f:FuncId} {fn:Func} {s:ChangeSpec} {c:OpenClaim}
  (h1:(c.wf (OpenSpec.ofChange s) && fn.params.all (Tryz.prog.readableRec ·) && namedTie Tryz.prog c.named s.vars && (c.stops == []) && (c.knobs == []) &&
   (c.maps == (fn.params.toList++s.plain.varTypes Tryz.prog).any (Tryz.prog.mapsRec ·)) && (c.ifaces == (fn.params.toList++s.plain.varTypes Tryz.prog).any (Tryz.prog.ifacesRec ·)) && (c.mapsOut == Tryz.prog.mapsAmong fn.resultTypes.toList))=true)
  (h2:((c.loops == (fn.params.toList++s.plain.varTypes Tryz.prog).any (Tryz.prog.loopsFrom ·)) && (c.wideKeys == (fn.params.toList++s.plain.varTypes Tryz.prog++fn.resultTypes.toList).any (Tryz.prog.wideKeysFrom ·)) &&
   s.vars.all (Tryz.prog.varReadable ·) && fn.resultTypes.all (fun t=>Tryz.prog.readableRec t && decide (t < Tryz.prog.types.size)) && (c.ifacesOut == fn.resultTypes.toList.any (Tryz.prog.ifacesRec ·)) && (c.loopsOut == fn.resultTypes.toList.any (Tryz.prog.loopsFrom ·)))=true)
  (h3:((c.kinds == (if c.domain.isEmpty then [] else fn.params.toList.map fun t=>match Tryz.prog.underlying t with | some (.int k)=>some k | _=>none)) && (c.pinned == c.pinnedBy) &&
   (c.veiled == (fn.params.toList++s.plain.varTypes Tryz.prog++fn.resultTypes.toList).any (Tryz.prog.veiledRec ·)) && c.veiledFits Tryz.prog fn.params.toList (fn.params.toList++s.plain.varTypes Tryz.prog++fn.resultTypes.toList))=true)
  (i1:(c.inPlace == Tryz.prog.inPlace f)=true) (i2:(c.unfollowed == Tryz.prog.unfollowed f)=true) (i3:(c.recurses == Tryz.prog.recurses f)=true) (i4:(c.named == Tryz.prog.varsNamed f)=true)
  (j1:c.plainKeys=true) (j2:c.lifted=false) (j3:c.make=.cut) (j4:c.shortTexts.isNone=true) :
  joinedFacts Tryz.prog f fn s c=true:=by
 unfold joinedFacts
 simp only [Z1h3] at h1 h2 h3
 obtain ⟨⟨⟨⟨⟨⟨⟨a1,a2⟩,a3⟩,a4⟩,a5⟩,a6⟩,a7⟩,a8⟩:=h1
 obtain ⟨⟨⟨⟨⟨b1,b2⟩,b3⟩,b4⟩,b5⟩,b6⟩:=h2
 obtain ⟨⟨⟨c1,c2⟩,c3⟩,c4⟩:=h3
 simp only [Z1h3]
 refine ⟨⟨⟨⟨⟨⟨⟨⟨⟨⟨⟨⟨⟨⟨⟨⟨⟨⟨⟨⟨⟨⟨⟨⟨⟨⟨⟨⟨⟨⟨⟨a1,laidOut⟩,Zxl⟩,a2⟩,a3⟩,a4⟩,by rw [stops]; rfl⟩,a5⟩,by rw [stopKnobs]; rfl⟩,i1⟩,i2⟩,i3⟩,i4⟩,a6⟩,a7⟩,a8⟩,b1⟩,b2⟩,b3⟩,b4⟩,b5⟩,b6⟩,by rw [j1,plainKeys]; rfl⟩,j4⟩,heard⟩,mayEnter⟩,by rw [j2,liftsFinal]; rfl⟩,by rw [make,j3]; rfl⟩,?_⟩,c2⟩,c3⟩,c4⟩
 exact c1
end Go.Proofs.YtgcoidbaoigkeaaGreatDoor.facts
namespace Go.Sx
open Go.RowKit
theorem Zo {x:Int} (h1:-9223372036854775808≤x) (h2:x≤9223372036854775807):IntKind.i64.wrap x=x:=by
 rw [IntKind.wrap_i64]; omega
theorem Ze9 {a b q r:Int} (hb:0 < b) (h:b * q + r=a) (h0:0≤r) (h1:r < b):a / b=q :=
 ((Int.ediv_emod_unique hb).2 ⟨by omega,h0,h1⟩).1
def up (a b:Int):Int:=-((-a) / b)
theorem Z111 {a b:Int} (hb:0 < b) (h:a.tmod b < 0):a.tdiv b - 1=a / b:=by
 have h1:=Int.mul_tdiv_add_tmod a b
 have h2:=Int.lt_tmod_of_pos a hb
 refine (Ze9 hb (r:=a.tmod b + b) ?_ (by omega) (by omega)).symm
 rw [Int.mul_sub]; omega
theorem Zgc {a b:Int} (hb:0 < b) (h:0≤a.tmod b):a.tdiv b=a / b:=by
 have h1:=Int.mul_tdiv_add_tmod a b
 have h2:=Int.tmod_lt_of_pos a hb
 exact (Ze9 hb h1 h h2).symm
theorem up_pos {a b:Int} (hb:0 < b) (h:0 < a.tmod b):a.tdiv b + 1=up a b:=by
 have h1:=Int.mul_tdiv_add_tmod a b
 have h2:=Int.tmod_lt_of_pos a hb
 unfold up
 rw [Ze9 hb (q:=-(a.tdiv b + 1)) (r:=b - a.tmod b) (by rw [Int.mul_neg,Int.mul_add]; omega) (by omega) (by omega)]
 omega
theorem Z1bj {a b:Int} (hb:0 < b) (h:a.tmod b≤0):a.tdiv b=up a b:=by
 have h1:=Int.mul_tdiv_add_tmod a b
 have h2:=Int.lt_tmod_of_pos a hb
 unfold up
 rw [Ze9 hb (q:=-(a.tdiv b)) (r:=-a.tmod b) (by rw [Int.mul_neg]; omega) (by omega) (by omega)]
 omega
theorem Z5m {a b l h:Int} (hb:0 < b) (hl:l≤0) (hh:0≤h) (h1:l≤a) (h2:a≤h):l≤a / b∧a / b≤h:=by
 constructor
 ·rw [Int.le_ediv_iff_mul_le hb]
  have:l * b≤l * 1:=Int.mul_le_mul_of_nonpos_left hl (by omega)
  omega
 ·apply Int.ediv_le_of_le_mul hb
  have:h * 1≤h * b:=Int.mul_le_mul_of_nonneg_left (by omega) hh
  omega
theorem Zea {a b l h:Int} (hb:0 < b) (hl:l≤0) (hh:0≤h) (h1:l≤a) (h2:a≤h):l≤up a b∧up a b≤h:=by
 have:=Z5m (a:=-a) (l:=-h) (h:=-l) hb (by omega) (by omega) (by omega) (by omega)
 unfold up
 omega
theorem Zxm {a b l h:Int} (hb:0 < b) (hl:l≤0) (hh:0≤h) (h1:l≤a) (h2:a≤h):l≤a.tdiv b∧a.tdiv b≤h:=by
 rcases Int.lt_or_le a 0 with hn | hn
 ·have h3:0≤(-a).tmod b:=Int.tmod_nonneg b (by omega)
  rw [Int.neg_tmod] at h3
  rw [Z1bj hb (by omega)]
  exact Zea hb hl hh h1 h2
 ·rw [Zgc hb (Int.tmod_nonneg b hn)]
  exact Z5m hb hl hh h1 h2
theorem Ztx {a a' b:Int} (hb:0 < b) (h:a≤a'):a / b≤a' / b:=Int.ediv_le_ediv hb h
theorem Z17 {x y m n:Int} (hx:-m≤x∧x≤m) (hy:-n≤y∧y≤n):-(m * n)≤x * y∧x * y≤m * n:=by
 have hm:0≤m:=by omega
 have hn:0≤n:=by omega
 have h1:x.natAbs≤m.natAbs:=by omega
 have h2:y.natAbs≤n.natAbs:=by omega
 have h3:(x * y).natAbs≤(m * n).natAbs:=by
  rw [Int.natAbs_mul,Int.natAbs_mul]
  exact Nat.mul_le_mul h1 h2
 have h4:0≤m * n:=Int.mul_nonneg hm hn
 omega
def Z16v (n:Int):Prop:=-9223372036854775808≤n∧n≤9223372036854775807
theorem Zty {xs:List Int} (h:Zc I1.ks xs):∃ a,xs=[a]∧Z16v a:=by
 match xs,h with
 | [a],h=>exact ⟨a,rfl,Z110 h.1⟩
def allIn:List Int→Prop
 | []=>True
 | x::xs=>Z16v x∧allIn xs
theorem Zo7:∀ {n:Nat} {xs:List Int},Zc (An n).ks xs→xs.length=n∧allIn xs
 | 0,[],_=>⟨rfl,trivial⟩
 | 0,_::_,h=>h.elim
 | n + 1,[],h=>h.elim
 | n + 1,x::xs,h=>by
  have h':inK (.i .i64) x∧Zc (An n).ks xs:=h
  obtain ⟨h1,h2⟩:=Zo7 h'.2
  exact ⟨by simp [h1],Z110 h'.1,h2⟩
end Go.Sx
namespace Go.Sx
open Go.RowKit
structure Iv where
 lo:Int
 hi:Int
def Iv.has (v:Iv) (n:Int):Prop:=v.lo≤n∧n≤v.hi
def Zh:Option Iv→Int→Prop
 | none,_=>True
 | some v,n=>v.has n
inductive X where
 | c (n:Int)
 | v (i:Nat)
 | add (a b:X)
 | sub (a b:X)
 | mul (a b:X)
 | quo (a b:X)
 | rem (a b:X)
 | mn (a b:X)
 | mx (a b:X)
 | wr (k:IntKind) (a:X)
 | nl
 | ln (a:X)
 | l2 (o:L2) (a b:X)
 | l3 (a b x:X)
noncomputable def X.den (R:Fo) (r:List Int):X→Int
 | .c n=>n
 | .v i=>r.getD i 0
 | .add a b=>a.den R r + b.den R r
 | .sub a b=>a.den R r - b.den R r
 | .mul a b=>a.den R r * b.den R r
 | .quo a b=>(a.den R r).tdiv (b.den R r)
 | .rem a b=>(a.den R r).tmod (b.den R r)
 | .mn a b=>min (a.den R r) (b.den R r)
 | .mx a b=>max (a.den R r) (b.den R r)
 | .wr k a=>k.wrap (a.den R r)
 | .nl=>cod []
 | .ln a=>((dec (a.den R r)).length:Int)
 | .l2 o a b=>o.den (a.den R r) (b.den R r)
 | .l3 a b x=>cod ((dec (a.den R r)).set (b.den R r).toNat (x.den R r))
inductive XB where
 | c (b:Bool)
 | lt (a b:X)
 | le (a b:X)
 | eq (a b:X)
 | nz (a:X)
 | not (a:XB)
 | and (a b:XB)
 | or (a b:XB)
 | iff (a b:XB)
def XB.prop (R:Fo) (r:List Int):XB→Prop
 | .c b=>b=true
 | .lt a b=>a.den R r < b.den R r
 | .le a b=>a.den R r≤b.den R r
 | .eq a b=>a.den R r=b.den R r
 | .nz a=>a.den R r ≠ 0
 | .not a=>¬ a.prop R r
 | .and a b=>a.prop R r∧b.prop R r
 | .or a b=>a.prop R r∨b.prop R r
 | .iff a b=>(a.prop R r↔b.prop R r)
inductive TX where
 | ret (es:List X)
 | ite (b:XB) (t f:TX)
 | asrt (b:XB) (t:TX)
 | call (g:Nat) (args:List X) (t:TX)
 | callp (g:Nat) (args:List X) (t:TX)
 | loop (n:Nat) (iv:List (Option Iv)) (ini:List X) (t:TX)
 | back (d:Nat) (es:List X)
 | any (n g:Nat) (args:List X) (t:TX)
 | ok
 | fail
def Zr (vs:List (Option Iv)) (r:List Int):Prop:=vs.length=r.length∧∀ i,Zh (vs.getD i none) (r.getD i 0)
def TX.sat (Γ:List Sum) (R:Fo) (Ψ:List Int→Prop):TX→List (List Int→Prop)→List Int→Prop
 | .ret es,_,r=>Ψ (es.map (X.den R r))
 | .ite b t f,bs,r=>(b.prop R r→t.sat Γ R Ψ bs r)∧(¬ b.prop R r→f.sat Γ R Ψ bs r)
 | .asrt b t,bs,r=>b.prop R r∧t.sat Γ R Ψ bs r
 | .call g args t,bs,r=>match Γ[g]? with
  | some s=>s.pre (args.map (X.den R r))∧t.sat Γ R Ψ bs (r++s.sem (args.map (X.den R r)))
  | none=>False
 | .callp g args t,bs,r=>match Γ[g]? with
  | some s=>t.sat Γ R Ψ bs (r++s.sem (args.map (X.den R r)))
  | none=>False
 | .loop n iv ini t,bs,r=>∃ (I:List Int→Prop) (μ:List Int→Nat),(∀ xs:List Int,xs.length=n→I xs→Zr iv xs)∧I (ini.map (X.den R r)) ∧
   ∀ xs:List Int,xs.length=n→I xs→t.sat Γ R Ψ (bs++[fun ys=>I ys∧μ ys < μ xs]) (r++xs)
 | .back d es,bs,r=>match bs[d]? with
  | some p=>p (es.map (X.den R r))
  | none=>False
 | .any n g args t,bs,r=>match Γ[g]? with
  | some s=>s.pre (args.map (X.den R r))∧∀ ys:List Int,ys.length=n→Zi7 Γ g (args.map (X.den R r)++ys)→t.sat Γ R Ψ bs (r++ys)
  | none=>False
 | .ok,_,_=>True
 | .fail,_,_=>False
def i64v:Iv:=⟨-9223372036854775808,9223372036854775807⟩
def Zds (k:IntKind) (x:X) (v:Option Iv):X × Option Iv :=
 if k=.i64 then (match v with
  | some v=>if decide (-9223372036854775808≤v.lo) && decide (v.hi≤9223372036854775807) then (x,some v) else (.wr k x,some i64v)
  | none=>(.wr k x,some i64v))
 else (.wr k x,none)
def Zxn:Option Iv→Option Iv→Option Iv
 | some a,some b=>some ⟨a.lo + b.lo,a.hi + b.hi⟩
 | _,_=>none
def Z16w:Option Iv→Option Iv→Option Iv
 | some a,some b=>some ⟨a.lo - b.hi,a.hi - b.lo⟩
 | _,_=>none
def Zr1:Option Iv→Option Iv→Option Iv
 | some a,some b=>some ⟨min (min (a.lo * b.lo) (a.lo * b.hi)) (min (a.hi * b.lo) (a.hi * b.hi)),max (max (a.lo * b.lo) (a.lo * b.hi)) (max (a.hi * b.lo) (a.hi * b.hi))⟩
 | _,_=>none
def Z16x:Option Iv→Option Iv→Option Iv
 | some a,some b=>if 1≤b.lo then some ⟨min a.lo 0,max a.hi 0⟩ else none
 | _,_=>none
def Z1e1:Option Iv→Option Iv→Option Iv
 | some a,some b=>if 1≤b.lo then some ⟨if 0≤a.lo then 0 else 1 - b.hi,b.hi - 1⟩ else none
 | _,_=>none
def mnIv:Option Iv→Option Iv→Option Iv
 | some a,some b=>some ⟨min a.lo b.lo,min a.hi b.hi⟩
 | _,_=>none
def mxIv:Option Iv→Option Iv→Option Iv
 | some a,some b=>some ⟨max a.lo b.lo,max a.hi b.hi⟩
 | _,_=>none
def Z1h (vs:List (Option Iv)):E→X × Option Iv
 | .c n=>(.c n,some ⟨n,n⟩)
 | .v i=>(.v i,vs.getD i none)
 | .add k a b=>match Z1h vs a,Z1h vs b with
  | (xa,ia),(xb,ib)=>Zds k (.add xa xb) (Zxn ia ib)
 | .sub k a b=>match Z1h vs a,Z1h vs b with
  | (xa,ia),(xb,ib)=>Zds k (.sub xa xb) (Z16w ia ib)
 | .mul k a b=>match Z1h vs a,Z1h vs b with
  | (xa,ia),(xb,ib)=>Zds k (.mul xa xb) (Zr1 ia ib)
 | .quo k a b=>match Z1h vs a,Z1h vs b with
  | (xa,ia),(xb,ib)=>Zds k (.quo xa xb) (Z16x ia ib)
 | .rem a b=>match Z1h vs a,Z1h vs b with
  | (xa,ia),(xb,ib)=>(.rem xa xb,Z1e1 ia ib)
 | .mn a b=>match Z1h vs a,Z1h vs b with
  | (xa,ia),(xb,ib)=>(.mn xa xb,mnIv ia ib)
 | .mx a b=>match Z1h vs a,Z1h vs b with
  | (xa,ia),(xb,ib)=>(.mx xa xb,mxIv ia ib)
 | .cv k a=>match Z1h vs a with
  | (xa,ia)=>Zds k xa ia
 | .nl=>(.nl,none)
 | .ln a=>(.ln (Z1h vs a).1,none)
 | .l2 o a b=>(.l2 o (Z1h vs a).1 (Z1h vs b).1,none)
 | .l3 a b x=>(.l3 (Z1h vs a).1 (Z1h vs b).1 (Z1h vs x).1,none)
def Z5n (vs:List (Option Iv)):B→Bool→XB
 | .c b,x=>.c (b == x)
 | .lt a b,true=>.lt (Z1h vs a).1 (Z1h vs b).1
 | .lt a b,false=>.le (Z1h vs b).1 (Z1h vs a).1
 | .le a b,true=>.le (Z1h vs a).1 (Z1h vs b).1
 | .le a b,false=>.lt (Z1h vs b).1 (Z1h vs a).1
 | .eq a b,true=>.eq (Z1h vs a).1 (Z1h vs b).1
 | .eq a b,false=>.not (.eq (Z1h vs a).1 (Z1h vs b).1)
 | .nz a,true=>.nz (Z1h vs a).1
 | .nz a,false=>.eq (Z1h vs a).1 (.c 0)
 | .not a,x=>Z5n vs a (!x)
 | .and a b,true=>.and (Z5n vs a true) (Z5n vs b true)
 | .and a b,false=>.or (Z5n vs a false) (Z5n vs b false)
 | .beq a b,true=>.iff (Z5n vs a true) (Z5n vs b true)
 | .beq a b,false=>.not (.iff (Z5n vs a true) (Z5n vs b true))
def Zki (vs:List (Option Iv)) (b:B):XB:=Z5n vs b true
def Zo8 (vs:List (Option Iv)):B→Option Bool
 | .c b=>some b
 | .lt a b=>match (Z1h vs a).2,(Z1h vs b).2 with
  | some i,some j=>if i.hi < j.lo then some true else if j.hi≤i.lo then some false else none
  | _,_=>none
 | .le a b=>match (Z1h vs a).2,(Z1h vs b).2 with
  | some i,some j=>if i.hi≤j.lo then some true else if j.hi < i.lo then some false else none
  | _,_=>none
 | .eq a b=>match (Z1h vs a).2,(Z1h vs b).2 with
  | some i,some j=>if i.hi < j.lo then some false else if j.hi < i.lo then some false else if i.lo=i.hi∧j.lo=j.hi∧i.lo=j.lo then some true else none
  | _,_=>none
 | .nz a=>match (Z1h vs a).2 with
  | some i=>if i.hi < 0 then some true else if 0 < i.lo then some true else if i.lo=0∧i.hi=0 then some false else none
  | none=>none
 | .not a=>(Zo8 vs a).map (!·)
 | .and a b=>match Zo8 vs a,Zo8 vs b with
  | some false,_=>some false
  | _,some false=>some false
  | some true,y=>y
  | _,_=>none
 | .beq _ _=>none
def Zgd (vs:List (Option Iv)) (h:Option Iv) (d:Int):E→List (Option Iv)
 | .v i=>match h,vs.getD i none with
  | some h,some v=>vs.set i (some ⟨v.lo,min v.hi (h.hi - d)⟩)
  | _,_=>vs
 | .mx a b=>Zgd (Zgd vs h d a) h d b
 | _=>vs
def Zge (vs:List (Option Iv)) (h:Option Iv) (d:Int):E→List (Option Iv)
 | .v i=>match h,vs.getD i none with
  | some h,some v=>vs.set i (some ⟨max v.lo (h.lo + d),v.hi⟩)
  | _,_=>vs
 | .mn a b=>Zge (Zge vs h d a) h d b
 | _=>vs
def Z41 (vs:List (Option Iv)):B→Bool→List (Option Iv)
 | .lt a b,true=>Zge (Zgd vs (Z1h vs b).2 1 a) (Z1h vs a).2 1 b
 | .lt a b,false=>Zgd (Zge vs (Z1h vs b).2 0 a) (Z1h vs a).2 0 b
 | .le a b,true=>Zge (Zgd vs (Z1h vs b).2 0 a) (Z1h vs a).2 0 b
 | .le a b,false=>Zgd (Zge vs (Z1h vs b).2 1 a) (Z1h vs a).2 1 b
 | .eq a b,true=>Zge (Zgd (Zge (Zgd vs (Z1h vs b).2 0 a) (Z1h vs b).2 0 a) (Z1h vs a).2 0 b) (Z1h vs a).2 0 b
 | .nz a,false=>Zge (Zgd vs (some ⟨0,0⟩) 0 a) (some ⟨0,0⟩) 0 a
 | .not a,x=>Z41 vs a (!x)
 | .and a b,true=>Z41 (Z41 vs a true) b true
 | _,_=>vs
def Z112 (vs:List (Option Iv)):Bool:=vs.any fun v=>match v with
 | some v=>decide (v.hi < v.lo)
 | none=>false
structure Inf where
 pin:List (Option Iv)
 out:List (Option Iv)→List (Option Iv)
def Inf.none:Inf:=⟨[],fun _=>[]⟩
def inIv:Option Iv→Option Iv→Bool
 | _,none=>true
 | some a,some b=>decide (b.lo≤a.lo) && decide (a.hi≤b.hi)
 | none,some _=>false
def Zxo:List (Option Iv)→List (Option Iv)→Bool
 | [],[]=>true
 | a::aZ,b::bs=>inIv a b && Zxo aZ bs
 | _,_=>false
def X.same:X→X→Bool
 | .c m,.c n=>m == n
 | .v m,.v n=>m == n
 | .add a b,.add a' b'=>a.same a' && b.same b'
 | .sub a b,.sub a' b'=>a.same a' && b.same b'
 | .mul a b,.mul a' b'=>a.same a' && b.same b'
 | .quo a b,.quo a' b'=>a.same a' && b.same b'
 | .rem a b,.rem a' b'=>a.same a' && b.same b'
 | .mn a b,.mn a' b'=>a.same a' && b.same b'
 | .mx a b,.mx a' b'=>a.same a' && b.same b'
 | .wr k a,.wr k' a'=>k == k' && a.same a'
 | .nl,.nl=>true
 | .ln a,.ln a'=>a.same a'
 | .l2 o a b,.l2 o' a' b'=>o == o' && (a.same a' && b.same b')
 | .l3 a b x,.l3 a' b' x'=>a.same a' && (b.same b' && x.same x')
 | _,_=>false
def Za8:List X→List X→Bool
 | [],[]=>true
 | a::aZ,b::bs=>a.same b && Za8 aZ bs
 | _,_=>false
def XB.same:XB→XB→Bool
 | .c m,.c n=>m == n
 | .lt a b,.lt a' b'=>a.same a' && b.same b'
 | .le a b,.le a' b'=>a.same a' && b.same b'
 | .eq a b,.eq a' b'=>a.same a' && b.same b'
 | .nz a,.nz a'=>a.same a'
 | .not a,.not a'=>a.same a'
 | .and a b,.and a' b'=>a.same a' && b.same b'
 | .or a b,.or a' b'=>a.same a' && b.same b'
 | .iff a b,.iff a' b'=>a.same a' && b.same b'
 | _,_=>false
def Z9o:List (Option Iv)→List (Option Iv)→Bool
 | [],[]=>true
 | none::l,none::l'=>Z9o l l'
 | some a::l,some b::l'=>(a.lo == b.lo && a.hi == b.hi) && Z9o l l'
 | _,_=>false
def TX.same:TX→TX→Bool
 | .ret a,.ret b=>Za8 a b
 | .ite b t f,.ite b' t' f'=>b.same b' && (t.same t' && f.same f')
 | .asrt b t,.asrt b' t'=>b.same b' && t.same t'
 | .call g a t,.call g' a' t'=>g == g' && (Za8 a a' && t.same t')
 | .callp g a t,.callp g' a' t'=>g == g' && (Za8 a a' && t.same t')
 | .loop n iv a t,.loop n' iv' a' t'=>(n == n' && Z9o iv iv') && (Za8 a a' && t.same t')
 | .back d a,.back d' a'=>d == d' && Za8 a a'
 | .any n g a t,.any n' g' a' t'=>(n == n' && g == g') && (Za8 a a' && t.same t')
 | .ok,.ok=>true
 | .fail,.fail=>true
 | _,_=>false
def Z113 (t f:TX):TX:=if t.same f then t else .fail
def Zr2:XB→XB
 | .c b=>.c (!b)
 | .lt a b=>.le b a
 | .le a b=>.lt b a
 | .not a=>a
 | .and a b=>.or (Zr2 a) (Zr2 b)
 | .or a b=>.and (Zr2 a) (Zr2 b)
 | a=>.not a
def Z1e2 (b:XB) (t f:TX):TX:=match t,f with
 | .ok,f=>f
 | t,.ok=>t
 | .ret es,.ret es'=>if Za8 es es' then .ret es else .ite b (.ret es) (.ret es')
 | .ret es,.ite b2 (.ret es2) f2=>if Za8 es es2 then .ite (.or b b2) (.ret es) f2 else .ite b (.ret es) (.ite b2 (.ret es2) f2)
 | .ite b2 (.ret es2) t2,.ret es=>if Za8 es es2 then .ite (.or (Zr2 b) b2) (.ret es) t2 else .ite (Zr2 b) (.ret es) (.ite b2 (.ret es2) t2)
 | t,.ret es=>.ite (Zr2 b) (.ret es) t
 | t,f=>.ite b t f
def Z13:TX→TX
 | .ret es=>.ret es
 | .ite b t f=>Z1e2 b (Z13 t) (Z13 f)
 | .asrt b t=>.asrt b (Z13 t)
 | .call g args t=>.call g args (Z13 t)
 | .callp g args t=>.callp g args (Z13 t)
 | .loop n iv ini t=>.loop n iv ini (Z13 t)
 | .back d es=>.back d es
 | .any n g args t=>.any n g args (Z13 t)
 | .ok=>.ok
 | .fail=>.fail
theorem Z6f {x y a b:Int} (h1:a≤x) (h2:x≤b):min (a * y) (b * y)≤x * y∧x * y≤max (a * y) (b * y):=by
 rcases Int.le_total 0 y with hy | hy
 ·have h3:=Int.mul_le_mul_of_nonneg_right h1 hy
  have h4:=Int.mul_le_mul_of_nonneg_right h2 hy
  omega
 ·have h3:=Int.mul_le_mul_of_nonpos_right h1 hy
  have h4:=Int.mul_le_mul_of_nonpos_right h2 hy
  omega
theorem Zba {a b:Option Iv} {x y:Int} (ha:Zh a x) (hb:Zh b y):Zh (Zr1 a b) (x * y):=by
 cases a <;> cases b <;> try trivial
 rename_i a b
 obtain ⟨h1,h2⟩:=ha
 obtain ⟨h3,h4⟩:=hb
 have h5:=Z6f (y:=y) h1 h2
 have h6:=Z6f (y:=a.lo) h3 h4
 have h7:=Z6f (y:=a.hi) h3 h4
 rw [Int.mul_comm b.lo,Int.mul_comm b.hi,Int.mul_comm y] at h6 h7
 simp only [Zh,Zr1,Iv.has]
 omega
theorem Z5o {k:IntKind} {x:X} {v:Option Iv} {R:Fo} {r:List Int} (h:Zh v (x.den R r)):(Zds k x v).1.den R r=k.wrap (x.den R r)∧Zh (Zds k x v).2 (k.wrap (x.den R r)):=by
 unfold Zds
 split
 ·rename_i hk
  subst hk
  have hw:Zh (some i64v) (IntKind.i64.wrap (x.den R r)):=by
   simp only [Zh,Iv.has,i64v,IntKind.wrap_i64]
   omega
  split
  ·rename_i v
   split
   ·rename_i hc
    simp only [Z1h3,Z1h4] at hc
    have:IntKind.i64.wrap (x.den R r)=x.den R r:=by
     obtain ⟨h1,h2⟩:=h
     exact Zo (by omega) (by omega)
    rw [this]
    exact ⟨rfl,h⟩
   ·exact ⟨rfl,hw⟩
  ·exact ⟨rfl,hw⟩
 ·exact ⟨rfl,trivial⟩
theorem Zgf {a b:Option Iv} {x y:Int} (ha:Zh a x) (hb:Zh b y):Zh (Zxn a b) (x + y):=by
 cases a <;> cases b <;> try trivial
 simp only [Zh,Zxn,Iv.has] at *
 omega
theorem Z114 {a b:Option Iv} {x y:Int} (ha:Zh a x) (hb:Zh b y):Zh (Z16w a b) (x - y):=by
 cases a <;> cases b <;> try trivial
 simp only [Zh,Z16w,Iv.has] at *
 omega
theorem Z115 {a b:Option Iv} {x y:Int} (ha:Zh a x) (hb:Zh b y):Zh (Z16x a b) (x.tdiv y):=by
 cases a <;> cases b <;> try trivial
 rename_i a b
 simp only [Z16x]
 split
 ·simp only [Zh,Iv.has] at *
  have:=Zxm (a:=x) (b:=y) (l:=min a.lo 0) (h:=max a.hi 0) (by omega) (by omega) (by omega) (by omega) (by omega)
  omega
 ·trivial
theorem Z116 {a b:Option Iv} {x y:Int} (ha:Zh a x) (hb:Zh b y):Zh (Z1e1 a b) (x.tmod y):=by
 cases a <;> cases b <;> try trivial
 rename_i a b
 simp only [Z1e1]
 split
 ·simp only [Zh,Iv.has] at *
  have h1:=Int.lt_tmod_of_pos x (b:=y) (by omega)
  have h2:=Int.tmod_lt_of_pos x (b:=y) (by omega)
  split
  ·have:=Int.tmod_nonneg (a:=x) y (by omega)
   omega
  ·omega
 ·trivial
theorem Z16y {a b:Option Iv} {x y:Int} (ha:Zh a x) (hb:Zh b y):Zh (mnIv a b) (min x y):=by
 cases a <;> cases b <;> try trivial
 simp only [Zh,mnIv,Iv.has] at *
 omega
theorem Z16z {a b:Option Iv} {x y:Int} (ha:Zh a x) (hb:Zh b y):Zh (mxIv a b) (max x y):=by
 cases a <;> cases b <;> try trivial
 simp only [Zh,mxIv,Iv.has] at *
 omega
section
variable {R:Fo} {r:List Int} {vs:List (Option Iv)}
theorem Z1b (h:Zr vs r):∀ e:E,(Z1h vs e).1.den R r=e.den R r∧Zh (Z1h vs e).2 (e.den R r):=by
 intro e
 induction e with
 | c n=>exact ⟨rfl,Int.le_refl _,Int.le_refl _⟩
 | v i=>exact ⟨rfl,h.2 i⟩
 | add k a b iha ihb =>
  simp only [Z1h,E.den]
  have:=Z5o (k:=k) (x:=.add (Z1h vs a).1 (Z1h vs b).1) (v:=Zxn (Z1h vs a).2 (Z1h vs b).2) (R:=R) (r:=r) (by simp only [X.den,iha.1,ihb.1]; exact Zgf iha.2 ihb.2)
  simpa only [X.den,iha.1,ihb.1] using this
 | sub k a b iha ihb =>
  simp only [Z1h,E.den]
  have:=Z5o (k:=k) (x:=.sub (Z1h vs a).1 (Z1h vs b).1) (v:=Z16w (Z1h vs a).2 (Z1h vs b).2) (R:=R) (r:=r) (by simp only [X.den,iha.1,ihb.1]; exact Z114 iha.2 ihb.2)
  simpa only [X.den,iha.1,ihb.1] using this
 | mul k a b iha ihb =>
  simp only [Z1h,E.den]
  have:=Z5o (k:=k) (x:=.mul (Z1h vs a).1 (Z1h vs b).1) (v:=Zr1 (Z1h vs a).2 (Z1h vs b).2) (R:=R) (r:=r) (by simp only [X.den,iha.1,ihb.1]; exact Zba iha.2 ihb.2)
  simpa only [X.den,iha.1,ihb.1] using this
 | quo k a b iha ihb =>
  simp only [Z1h,E.den]
  have:=Z5o (k:=k) (x:=.quo (Z1h vs a).1 (Z1h vs b).1) (v:=Z16x (Z1h vs a).2 (Z1h vs b).2) (R:=R) (r:=r) (by simp only [X.den,iha.1,ihb.1]; exact Z115 iha.2 ihb.2)
  simpa only [X.den,iha.1,ihb.1] using this
 | rem a b iha ihb =>
  simp only [Z1h,E.den,X.den,iha.1,ihb.1]
  exact ⟨trivial,Z116 iha.2 ihb.2⟩
 | mn a b iha ihb =>
  have hm:∀ x y:Int,(if y < x then y else x)=min x y:=fun x y=>by split <;> omega
  simp only [Z1h,E.den,X.den,iha.1,ihb.1,hm]
  exact ⟨trivial,Z16y iha.2 ihb.2⟩
 | mx a b iha ihb =>
  have hm:∀ x y:Int,(if y > x then y else x)=max x y:=fun x y=>by split <;> omega
  simp only [Z1h,E.den,X.den,iha.1,ihb.1,hm]
  exact ⟨trivial,Z16z iha.2 ihb.2⟩
 | cv k a iha =>
  simp only [Z1h,E.den]
  have:=Z5o (k:=k) (x:=(Z1h vs a).1) (v:=(Z1h vs a).2) (R:=R) (r:=r) (by rw [iha.1]; exact iha.2)
  rwa [iha.1] at this
 | nl=>exact ⟨rfl,trivial⟩
 | ln a iha=>simp only [Z1h,E.den,X.den,iha.1]; exact ⟨trivial,trivial⟩
 | l2 o a b iha ihb=>simp only [Z1h,E.den,X.den,iha.1,ihb.1]; exact ⟨trivial,trivial⟩
 | l3 a b x iha ihb ihx=>simp only [Z1h,E.den,X.den,iha.1,ihb.1,ihx.1]; exact ⟨trivial,trivial⟩
theorem Zxp (h:Zr vs r):∀ (b:B) (x:Bool),(Z5n vs b x).prop R r↔b.den R r=x:=by
 intro b
 induction b with
 | c b=>intro x; simp [Z5n,XB.prop,B.den]
 | lt a b=>intro x; cases x <;> simp [Z5n,XB.prop,B.den,(Z1b h _).1]
 | le a b=>intro x; cases x <;> simp [Z5n,XB.prop,B.den,(Z1b h _).1]
 | eq a b=>intro x; cases x <;> simp [Z5n,XB.prop,B.den,(Z1b h _).1]
 | nz a=>intro x; cases x <;> simp [Z5n,XB.prop,X.den,B.den,(Z1b h _).1]
 | not a ih =>
  intro x
  simp only [Z5n,ih,B.den]
  cases a.den R r <;> cases x <;> simp
 | and a b iha ihb =>
  intro x
  cases x with
  | true=>simp [Z5n,XB.prop,B.den,iha,ihb]
  | false =>
   simp only [Z5n,XB.prop,B.den,iha,ihb]
   cases a.den R r <;> cases b.den R r <;> simp
 | beq a b iha ihb =>
  intro x
  cases x <;> simp only [Z5n,XB.prop,B.den,iha,ihb] <;> cases a.den R r <;> cases b.den R r <;> simp
theorem Zj3 (h:Zr vs r) (b:B):(Zki vs b).prop R r↔b.den R r=true:=Zxp h b true
theorem Zgg (h:Zr vs r):∀ (b:B) (x:Bool),Zo8 vs b=some x→b.den R r=x:=by
 intro b
 induction b with
 | c b=>intro x hx; simpa [Zo8,B.den] using hx
 | lt a b =>
  intro x hx
  have ha:=(Z1b (R:=R) h a).2
  have hb:=(Z1b (R:=R) h b).2
  simp only [Zo8] at hx
  split at hx
  ·rename_i i j hi hj
   rw [hi] at ha
   rw [hj] at hb
   simp only [Zh,Iv.has] at ha hb
   simp only [B.den]
   split at hx
   ·simp only [Option.some.injEq] at hx; subst hx; simp; omega
   ·split at hx
    ·simp only [Option.some.injEq] at hx; subst hx; simp; omega
    ·cases hx
  ·cases hx
 | le a b =>
  intro x hx
  have ha:=(Z1b (R:=R) h a).2
  have hb:=(Z1b (R:=R) h b).2
  simp only [Zo8] at hx
  split at hx
  ·rename_i i j hi hj
   rw [hi] at ha
   rw [hj] at hb
   simp only [Zh,Iv.has] at ha hb
   simp only [B.den]
   split at hx
   ·simp only [Option.some.injEq] at hx; subst hx; simp; omega
   ·split at hx
    ·simp only [Option.some.injEq] at hx; subst hx; simp; omega
    ·cases hx
  ·cases hx
 | eq a b =>
  intro x hx
  have ha:=(Z1b (R:=R) h a).2
  have hb:=(Z1b (R:=R) h b).2
  simp only [Zo8] at hx
  split at hx
  ·rename_i i j hi hj
   rw [hi] at ha
   rw [hj] at hb
   simp only [Zh,Iv.has] at ha hb
   simp only [B.den]
   split at hx
   ·simp only [Option.some.injEq] at hx; subst hx; simp; omega
   ·split at hx
    ·simp only [Option.some.injEq] at hx; subst hx; simp; omega
    ·split at hx
     ·simp only [Option.some.injEq] at hx; subst hx; simp; omega
     ·cases hx
  ·cases hx
 | nz a =>
  intro x hx
  have ha:=(Z1b (R:=R) h a).2
  simp only [Zo8] at hx
  split at hx
  ·rename_i i hi
   rw [hi] at ha
   simp only [Zh,Iv.has] at ha
   simp only [B.den]
   split at hx
   ·simp only [Option.some.injEq] at hx; subst hx; simp; omega
   ·split at hx
    ·simp only [Option.some.injEq] at hx; subst hx; simp; omega
    ·split at hx
     ·simp only [Option.some.injEq] at hx; subst hx; simp; omega
     ·cases hx
  ·cases hx
 | not a ih =>
  intro x hx
  simp only [Zo8,Option.map_eq_some_iff] at hx
  obtain ⟨y,hy,rfl⟩:=hx
  simp [B.den,ih y hy]
 | and a b iha ihb =>
  intro x hx
  simp only [Zo8] at hx
  cases h1:Zo8 vs a with
  | none =>
   cases h2:Zo8 vs b with
   | none=>rw [h1,h2] at hx; cases hx
   | some y =>
    rw [h1,h2] at hx
    cases y with
    | false =>
     simp only [Option.some.injEq] at hx
     subst hx
     simp [B.den,ihb _ h2]
    | true=>cases hx
  | some z =>
   cases z with
   | false =>
    rw [h1] at hx
    simp only [Option.some.injEq] at hx
    subst hx
    simp [B.den,iha _ h1]
   | true =>
    cases h2:Zo8 vs b with
    | none=>rw [h1,h2] at hx; cases hx
    | some y =>
     rw [h1,h2] at hx
     cases y with
     | false =>
      simp only [Option.some.injEq] at hx
      subst hx
      simp [B.den,ihb _ h2]
     | true =>
      simp only [Option.some.injEq] at hx
      subst hx
      simp [B.den,iha _ h1,ihb _ h2]
 | beq a b=>intro x hx; simp [Zo8] at hx
theorem Ztz (h:Zr vs r) {i:Nat} {v:Iv} (hv:v.has (r.getD i 0)):Zr (vs.set i (some v)) r:=by
 refine ⟨by simpa using h.1,fun j=>?_⟩
 simp only [List.getD,List.getElem?_set]
 by_cases hij:i=j
 ·subst hij
  by_cases hl:i < vs.length
  ·simp only [hl,if_true,Option.getD_some]
   exact hv
  ·simp only [hl,if_true,if_false,Option.getD_none]
   trivial
 ·simp only [hij,if_false]
  exact h.2 j
theorem Z6g {v:Option Iv} {d:Int}:∀ (e:E) (vs:List (Option Iv)),Zr vs r→(∀ v',v=some v'→e.den R r≤v'.hi - d)→Zr (Zgd vs v d e) r:=by
 intro e
 induction e with
 | v i =>
  intro vs h hv
  simp only [Zgd]
  split
  ·rename_i v' w hw
   have h1:=h.2 i
   rw [hw] at h1
   have h2:=hv v' rfl
   refine Ztz h ⟨h1.1,?_⟩
   have h3:=h1.2
   have h4:r.getD i 0≤v'.hi - d:=h2
   show r.getD i 0≤min w.hi (v'.hi - d)
   omega
  ·exact h
 | mx a b iha ihb =>
  intro vs h hv
  have hm:∀ x y:Int,(if y > x then y else x)=max x y:=fun x y=>by split <;> omega
  simp only [E.den,hm] at hv
  exact ihb _ (iha vs h (fun v' h'=>by have:=hv v' h'; omega)) (fun v' h'=>by have:=hv v' h'; omega)
 | _=>intro vs h hv; exact h
theorem Z6h {v:Option Iv} {d:Int}:∀ (e:E) (vs:List (Option Iv)),Zr vs r→(∀ v',v=some v'→v'.lo + d≤e.den R r)→Zr (Zge vs v d e) r:=by
 intro e
 induction e with
 | v i =>
  intro vs h hv
  simp only [Zge]
  split
  ·rename_i v' w hw
   have h1:=h.2 i
   rw [hw] at h1
   have h2:=hv v' rfl
   refine Ztz h ⟨?_,h1.2⟩
   have h3:=h1.1
   have h4:v'.lo + d≤r.getD i 0:=h2
   show max w.lo (v'.lo + d)≤r.getD i 0
   omega
  ·exact h
 | mn a b iha ihb =>
  intro vs h hv
  have hm:∀ x y:Int,(if y < x then y else x)=min x y:=fun x y=>by split <;> omega
  simp only [E.den,hm] at hv
  exact ihb _ (iha vs h (fun v' h'=>by have:=hv v' h'; omega)) (fun v' h'=>by have:=hv v' h'; omega)
 | _=>intro vs h hv; exact h
theorem Zgh:∀ (b:B) (x:Bool) (vs:List (Option Iv)),Zr vs r→b.den R r=x→Zr (Z41 vs b x) r:=by
 intro b
 induction b with
 | c b=>intro x vs h hx; cases x <;> exact h
 | lt a b =>
  intro x vs h hx
  have ha:=(Z1b (R:=R) h a).2
  have hb:=(Z1b (R:=R) h b).2
  simp only [B.den] at hx
  cases x with
  | true =>
   simp only [Z1h4] at hx
   refine Z6h (R:=R) _ _ (Z6g (R:=R) _ _ h ?_) ?_
   ·intro v hv; rw [hv] at hb; have:=hb.2; omega
   ·intro v hv; rw [hv] at ha; have:=ha.1; omega
  | false =>
   simp only [decide_eq_false_iff_not] at hx
   refine Z6g (R:=R) _ _ (Z6h (R:=R) _ _ h ?_) ?_
   ·intro v hv; rw [hv] at hb; have:=hb.1; omega
   ·intro v hv; rw [hv] at ha; have:=ha.2; omega
 | le a b =>
  intro x vs h hx
  have ha:=(Z1b (R:=R) h a).2
  have hb:=(Z1b (R:=R) h b).2
  simp only [B.den] at hx
  cases x with
  | true =>
   simp only [Z1h4] at hx
   refine Z6h (R:=R) _ _ (Z6g (R:=R) _ _ h ?_) ?_
   ·intro v hv; rw [hv] at hb; have:=hb.2; omega
   ·intro v hv; rw [hv] at ha; have:=ha.1; omega
  | false =>
   simp only [decide_eq_false_iff_not] at hx
   refine Z6g (R:=R) _ _ (Z6h (R:=R) _ _ h ?_) ?_
   ·intro v hv; rw [hv] at hb; have:=hb.1; omega
   ·intro v hv; rw [hv] at ha; have:=ha.2; omega
 | eq a b =>
  intro x vs h hx
  have ha:=(Z1b (R:=R) h a).2
  have hb:=(Z1b (R:=R) h b).2
  simp only [B.den] at hx
  cases x with
  | true =>
   simp only [beq_iff_eq] at hx
   refine Z6h (R:=R) _ _ (Z6g (R:=R) _ _ (Z6h (R:=R) _ _ (Z6g (R:=R) _ _ h ?_) ?_) ?_) ?_
   ·intro v hv; rw [hv] at hb; have:=hb.2; omega
   ·intro v hv; rw [hv] at hb; have:=hb.1; omega
   ·intro v hv; rw [hv] at ha; have:=ha.2; omega
   ·intro v hv; rw [hv] at ha; have:=ha.1; omega
  | false=>exact h
 | nz a =>
  intro x vs h hx
  simp only [B.den] at hx
  cases x with
  | true=>exact h
  | false =>
   simp only [bne_eq_false_iff_eq] at hx
   refine Z6h (R:=R) _ _ (Z6g (R:=R) _ _ h ?_) ?_
   ·intro v hv; simp only [Option.some.injEq] at hv; subst hv; simp [hx]
   ·intro v hv; simp only [Option.some.injEq] at hv; subst hv; simp [hx]
 | not a ih =>
  intro x vs h hx
  simp only [Z41]
  refine ih _ vs h ?_
  simp only [B.den] at hx
  rw [← hx]; simp
 | and a b iha ihb =>
  intro x vs h hx
  cases x with
  | true =>
   simp only [B.den,Z1h3] at hx
   exact ihb true _ (iha true vs h hx.1) hx.2
  | false=>exact h
 | beq a b=>intro x vs h hx; cases x <;> exact h
theorem Zr3 (h:Zr vs r):Z112 vs=false:=by
 unfold Z112
 rw [List.any_eq_false]
 intro v hv
 obtain ⟨i,hi⟩:=List.getElem?_of_mem hv
 have h1:=h.2 i
 rw [List.getD,hi] at h1
 cases v with
 | none=>simp
 | some v =>
  simp only [Option.getD_some,Zh,Iv.has] at h1
  simp; omega
def Z18 (s:Sum) (i:Inf):Prop:=(∀ xs,Zr i.pin xs→s.pre xs)∧∀ vs xs,Zr vs xs→s.pre xs→Zr (i.out vs) (s.sem xs)
def Zi (Γ:List Sum) (outs:List Inf):Prop:=∀ g s,Γ[g]?=some s→Z18 s (outs.getD g .none)
theorem Z6:Zi [] []:=fun g s h=>by simp at h
theorem Z3 {Γ:List Sum} {outs:List Inf} {s:Sum} {o:Inf} (h:Z18 s o) (h':Zi Γ outs):Zi (s::Γ) (o::outs):=by
 intro g s' hg
 cases g with
 | zero =>
  simp only [Z1gq,Option.some.injEq] at hg
  subst hg
  exact h
 | succ g=>exact h' g s' (by simpa using hg)
theorem Z170 {a b:Option Iv} {n:Int} (h:inIv a b=true) (ha:Zh a n):Zh b n:=by
 cases a <;> cases b <;> try trivial
 simp only [inIv,Z1h3,Z1h4] at h
 simp only [Zh,Iv.has] at *
 omega
theorem Zu0:∀ {aZ bs:List (Option Iv)} {xs:List Int},Zxo aZ bs=true→Zr aZ xs→Zr bs xs
 | [],[],_,_,h=>h
 | [],_::_,_,h,_=>by simp [Zxo] at h
 | _::_,[],_,h,_=>by simp [Zxo] at h
 | a::aZ,b::bs,[],_,h=>by have:=h.1; simp at this
 | a::aZ,b::bs,x::xs,hi,h=>by
  simp only [Zxo,Z1h3] at hi
  obtain ⟨h1,h2⟩:=Zu0 (xs:=xs) hi.2 ⟨by have:=h.1; simpa using this,fun i=>h.2 (i + 1)⟩
  refine ⟨by simp [h1],fun i=>?_⟩
  cases i with
  | zero=>exact Z170 hi.1 (h.2 0)
  | succ i=>exact h2 i
theorem Z2:Zr [] []:=⟨rfl,fun _=>trivial⟩
theorem Z1 {v:Option Iv} {x:Int} {vs:List (Option Iv)} {xs:List Int} (h:Zh v x) (h':Zr vs xs):Zr (v::vs) (x::xs):=by
 refine ⟨by simp [h'.1],fun i=>?_⟩
 cases i with
 | zero=>exact h
 | succ i=>exact h'.2 i
theorem Zbb (h:Zr vs r):∀ args:List E,Zr (args.map fun e=>(Z1h vs e).2) (args.map (E.den R r))
 | []=>Z2
 | e::args=>Z1 (Z1b h e).2 (Zbb h args)
theorem Zw {us:List (Option Iv)} {x:List Int} (h:Zr vs r) (h':Zr us x):Zr (vs++us) (r++x):=by
 refine ⟨by simp [h.1,h'.1],fun i=>?_⟩
 rcases Nat.lt_or_ge i vs.length with hi | hi
 ·have:=h.2 i
  simp only [List.getD] at this ⊢
  rw [List.getElem?_append_left hi,List.getElem?_append_left (by rw [← h.1]; exact hi)]
  exact this
 ·have:=h'.2 (i - vs.length)
  simp only [List.getD] at this ⊢
  rw [List.getElem?_append_right hi,List.getElem?_append_right (by rw [← h.1]; exact hi),← h.1]
  exact this
theorem X.same_eq:∀ a b:X,a.same b=true→a=b
 | .c m,b,h=>by cases b <;> simp [X.same] at h; rw [h]
 | .v m,b,h=>by cases b <;> simp [X.same] at h; rw [h]
 | .add x y,b,h=>by
  cases b <;> simp [X.same] at h
  rw [X.same_eq x _ h.1,X.same_eq y _ h.2]
 | .sub x y,b,h=>by
  cases b <;> simp [X.same] at h
  rw [X.same_eq x _ h.1,X.same_eq y _ h.2]
 | .mul x y,b,h=>by
  cases b <;> simp [X.same] at h
  rw [X.same_eq x _ h.1,X.same_eq y _ h.2]
 | .quo x y,b,h=>by
  cases b <;> simp [X.same] at h
  rw [X.same_eq x _ h.1,X.same_eq y _ h.2]
 | .rem x y,b,h=>by
  cases b <;> simp [X.same] at h
  rw [X.same_eq x _ h.1,X.same_eq y _ h.2]
 | .mn x y,b,h=>by
  cases b <;> simp [X.same] at h
  rw [X.same_eq x _ h.1,X.same_eq y _ h.2]
 | .mx x y,b,h=>by
  cases b <;> simp [X.same] at h
  rw [X.same_eq x _ h.1,X.same_eq y _ h.2]
 | .wr k x,b,h=>by cases b <;> simp [X.same] at h; rw [h.1,X.same_eq x _ h.2]
 | .nl,b,h=>by cases b <;> simp [X.same] at h; rfl
 | .ln x,b,h=>by cases b <;> simp [X.same] at h; rw [X.same_eq x _ h]
 | .l2 o x y,b,h=>by cases b <;> simp [X.same] at h; rw [h.1,X.same_eq x _ h.2.1,X.same_eq y _ h.2.2]
 | .l3 x y z,b,h=>by cases b <;> simp [X.same] at h; rw [X.same_eq x _ h.1,X.same_eq y _ h.2.1,X.same_eq z _ h.2.2]
theorem Z3s:∀ {aZ bs:List X},Za8 aZ bs=true→aZ=bs
 | [],[],_=>rfl
 | [],_::_,h=>by simp [Za8] at h
 | _::_,[],h=>by simp [Za8] at h
 | a::aZ,b::bs,h=>by
  simp only [Za8,Z1h3] at h
  rw [X.same_eq a b h.1,Z3s h.2]
theorem XB.same_eq:∀ a b:XB,a.same b=true→a=b
 | .c m,b,h=>by cases b <;> simp [XB.same] at h; rw [h]
 | .lt x y,b,h=>by cases b <;> simp [XB.same] at h; rw [X.same_eq x _ h.1,X.same_eq y _ h.2]
 | .le x y,b,h=>by cases b <;> simp [XB.same] at h; rw [X.same_eq x _ h.1,X.same_eq y _ h.2]
 | .eq x y,b,h=>by cases b <;> simp [XB.same] at h; rw [X.same_eq x _ h.1,X.same_eq y _ h.2]
 | .nz x,b,h=>by cases b <;> simp [XB.same] at h; rw [X.same_eq x _ h]
 | .not x,b,h=>by cases b <;> simp [XB.same] at h; rw [XB.same_eq x _ h]
 | .and x y,b,h=>by cases b <;> simp [XB.same] at h; rw [XB.same_eq x _ h.1,XB.same_eq y _ h.2]
 | .or x y,b,h=>by cases b <;> simp [XB.same] at h; rw [XB.same_eq x _ h.1,XB.same_eq y _ h.2]
 | .iff x y,b,h=>by cases b <;> simp [XB.same] at h; rw [XB.same_eq x _ h.1,XB.same_eq y _ h.2]
theorem Zgi:∀ {a b:List (Option Iv)},Z9o a b=true→a=b
 | [],[],_=>rfl
 | none::l,none::l',h=>by simp only [Z9o] at h; rw [Zgi h]
 | some ⟨x,y⟩::l,some ⟨x',y'⟩::l',h=>by
  simp only [Z9o,Z1h3,beq_iff_eq] at h
  rw [h.1.1,h.1.2,Zgi h.2]
 | [],_::_,h=>by simp [Z9o] at h
 | _::_,[],h=>by simp [Z9o] at h
 | none::_,some _::_,h=>by simp [Z9o] at h
 | some _::_,none::_,h=>by simp [Z9o] at h
theorem TX.same_eq:∀ a b:TX,a.same b=true→a=b
 | .ret x,b,h=>by cases b <;> simp [TX.same] at h; rw [Z3s h]
 | .ite x y z,b,h=>by cases b <;> simp [TX.same] at h; rw [XB.same_eq x _ h.1,TX.same_eq y _ h.2.1,TX.same_eq z _ h.2.2]
 | .asrt x y,b,h=>by cases b <;> simp [TX.same] at h; rw [XB.same_eq x _ h.1,TX.same_eq y _ h.2]
 | .call g x y,b,h=>by cases b <;> simp [TX.same] at h; rw [h.1,Z3s h.2.1,TX.same_eq y _ h.2.2]
 | .callp g x y,b,h=>by cases b <;> simp [TX.same] at h; rw [h.1,Z3s h.2.1,TX.same_eq y _ h.2.2]
 | .loop n iv x y,b,h=>by cases b <;> simp [TX.same] at h; rw [h.1.1,Zgi h.1.2,Z3s h.2.1,TX.same_eq y _ h.2.2]
 | .back d x,b,h=>by cases b <;> simp [TX.same] at h; rw [h.1,Z3s h.2]
 | .any n g x y,b,h=>by cases b <;> simp [TX.same] at h; rw [h.1.1,h.1.2,Z3s h.2.1,TX.same_eq y _ h.2.2]
 | .ok,b,h=>by cases b <;> simp [TX.same] at h; rfl
 | .fail,b,h=>by cases b <;> simp [TX.same] at h; rfl
theorem vs_rep {n:Nat} {ys:List Int} (h:ys.length=n):Zr (List.replicate n none) ys:=by
 refine ⟨by rw [List.length_replicate,h],fun i=>?_⟩
 have:(List.replicate n (none:Option Iv)).getD i none=none:=by
  simp only [List.getD,List.getElem?_replicate]
  split <;> rfl
 rw [this]
 trivial
theorem Zxq {Γ:List Sum} {R:Fo} {Ψ:List Int→Prop} {bs:List (List Int→Prop)} {r:List Int} {t f:TX} (h:(Z113 t f).sat Γ R Ψ bs r):t.sat Γ R Ψ bs r∧f.sat Γ R Ψ bs r:=by
 unfold Z113 at h
 split at h
 ·rename_i hs
  have:=TX.same_eq _ _ hs
  exact ⟨h,this ▸ h⟩
 ·exact h.elim
end
theorem Z5p {R:Fo} {r:List Int}:∀ b:XB,(Zr2 b).prop R r↔¬ b.prop R r:=by
 intro b
 induction b with
 | c b=>cases b <;> simp [Zr2,XB.prop]
 | lt a b=>simp [Zr2,XB.prop]
 | le a b=>simp [Zr2,XB.prop]
 | not a=>simp [Zr2,XB.prop,Z1gy]
 | and a b iha ihb=>simp only [Zr2,XB.prop,iha,ihb,Classical.not_and_iff_not_or_not]
 | or a b iha ihb=>simp only [Zr2,XB.prop,iha,ihb,not_or]
 | _=>simp [Zr2,XB.prop]
theorem Z117 {Γ:List Sum} {R:Fo} {Ψ:List Int→Prop} {bs:List (List Int→Prop)} {r:List Int} {b:XB} {t f:TX} (h:(Z1e2 b t f).sat Γ R Ψ bs r):(TX.ite b t f).sat Γ R Ψ bs r:=by
 unfold Z1e2 at h
 split at h
 ·exact ⟨fun _=>trivial,fun _=>h⟩
 ·exact ⟨fun _=>h,fun _=>trivial⟩
 ·split at h
  ·rename_i hs
   have:=Z3s hs
   subst this
   exact ⟨fun _=>h,fun _=>h⟩
  ·exact h
 ·split at h
  ·rename_i hs
   have:=Z3s hs
   subst this
   obtain ⟨h1,h2⟩:=h
   exact ⟨fun hb=>h1 (.inl hb),fun hb=>⟨fun hb2=>h1 (.inr hb2),fun hb2=>h2 (fun h=>h.elim hb hb2)⟩⟩
  ·exact h
 ·split at h
  ·rename_i hs
   have:=Z3s hs
   subst this
   obtain ⟨h1,h2⟩:=h
   exact ⟨fun hb=>⟨fun hb2=>h1 (.inr hb2),fun hb2=>h2 (fun h=>h.elim (fun hn=>(Z5p b).1 hn hb) hb2)⟩,fun hb=>h1 (.inl ((Z5p b).2 hb))⟩
  ·obtain ⟨h1,h2⟩:=h
   exact ⟨fun hb=>h2 (fun hn=>(Z5p b).1 hn hb),fun hb=>h1 ((Z5p b).2 hb)⟩
 ·obtain ⟨h1,h2⟩:=h
  exact ⟨fun hb=>h2 (fun hn=>(Z5p b).1 hn hb),fun hb=>h1 ((Z5p b).2 hb)⟩
 ·exact h
theorem Zgj {Γ:List Sum} {R:Fo} {Ψ:List Int→Prop}:∀ (t:TX) (bs:List (List Int→Prop)) (r:List Int),(Z13 t).sat Γ R Ψ bs r→t.sat Γ R Ψ bs r:=by
 intro t
 induction t with
 | ret es=>intro bs r h; exact h
 | ite b t f iht ihf =>
  intro bs r h
  obtain ⟨h1,h2⟩:=Z117 h
  exact ⟨fun hb=>iht bs r (h1 hb),fun hb=>ihf bs r (h2 hb)⟩
 | asrt b t ih=>intro bs r h; exact ⟨h.1,ih bs r h.2⟩
 | call g args t ih =>
  intro bs r h
  simp only [Z13,TX.sat] at h ⊢
  split at h
  ·rename_i s hg
   exact ⟨h.1,ih bs _ h.2⟩
  ·exact h
 | callp g args t ih =>
  intro bs r h
  simp only [Z13,TX.sat] at h ⊢
  split at h
  ·exact ih bs _ h
  ·exact h
 | loop n iv ini t ih =>
  intro bs r h
  obtain ⟨I,μ,h1,h2,h3⟩:=h
  exact ⟨I,μ,h1,h2,fun xs hx hI=>ih _ _ (h3 xs hx hI)⟩
 | back d es=>intro bs r h; exact h
 | any n g args t ih =>
  intro bs r h
  simp only [Z13,TX.sat] at h ⊢
  split at h
  ·exact ⟨h.1,fun ys hy hr=>ih bs _ (h.2 ys hy hr)⟩
  ·exact h
 | ok=>intro bs r h; trivial
 | fail=>intro bs r h; exact h
def mkS (gl:List (Nat × List Int)) (fn:FuncId) (ps rs:List Sh) (pin:List (Option Iv)) (sem:List Int→List Int):Sum:=⟨fn,ps,rs,sem,Zr pin,gl,none⟩
def mkP (gl:List (Nat × List Int)) (fn:FuncId) (ps rs:List Sh) (pre:List Int→Prop) (sem:List Int→List Int):Sum:=⟨fn,ps,rs,sem,pre,gl,none⟩
def ivK:K→Option Iv
 | .i .i64=>some i64v
 | .i .u8=>some ⟨0,255⟩
 | .b=>some ⟨0,1⟩
 | _=>none
theorem inK_iv {k:K} {n:Int} (h:inK k n):Zh (ivK k) n:=by
 cases k with
 | i kk =>
  cases kk <;> try trivial
  ·exact Z110 h
  ·have h':(Lit.int .u8 n).wf=true:=h
   simp only [Lit.wf,Z1h3,Z1h4] at h'
   have h1:IntKind.u8.min=0:=by decide
   have h2:IntKind.u8.max=255:=by decide
   rw [h1,h2] at h'
   exact h'
 | b =>
  have h':n=0∨n=1:=h
  simp only [ivK,Zh,Iv.has]
  omega
 | s ty ks=>trivial
theorem Z1g:∀ {ks:List K} {xs:List Int},Zc ks xs→Zr (ks.map ivK) xs
 | [],[],_=>⟨rfl,fun i=>by simp [List.getD]; trivial⟩
 | [],_::_,h=>h.elim
 | _::_,[],h=>h.elim
 | k::ks,x::xs,h=>by
  obtain ⟨h1,h2⟩:=Z1g h.2
  refine ⟨by simp [h1],fun i=>?_⟩
  cases i with
  | zero=>exact inK_iv h.1
  | succ i=>exact h2 i
end Go.Sx
namespace Go.Sx
open Go.RowKit
structure Zcl where
 eq:Bool
 a:X
 b:X
 yes:Bool
def Zcl.holds (R:Fo) (r:List Int) (f:Zcl):Prop :=
 (if f.eq=true then f.a.den R r=f.b.den R r else f.a.den R r≤f.b.den R r)↔f.yes=true
def Zo9 (eq:Bool) (a b:X):List Zcl→Option Bool
 | []=>none
 | f::fs=>if f.eq == eq && (f.a.same a && f.b.same b) then some f.yes else Zo9 eq a b fs
def Z42 (fs:List Zcl):XB→Option Bool
 | .c b=>some b
 | .le a b=>Zo9 false a b fs
 | .lt a b=>(Zo9 false b a fs).map (!·)
 | .eq a b=>Zo9 true a b fs
 | .nz a=>(Zo9 true a (.c 0) fs).map (!·)
 | .not a=>(Z42 fs a).map (!·)
 | .and a b=>match Z42 fs a,Z42 fs b with
  | some false,_=>some false
  | _,some false=>some false
  | some true,some true=>some true
  | _,_=>none
 | .or a b=>match Z42 fs a,Z42 fs b with
  | some true,_=>some true
  | _,some true=>some true
  | some false,some false=>some false
  | _,_=>none
 | .iff a b=>match Z42 fs a,Z42 fs b with
  | some x,some y=>some (x == y)
  | _,_=>none
def Z5q (fs:List Zcl):XB→Bool→List Zcl
 | .le a b,x=>⟨false,a,b,x⟩::fs
 | .lt a b,x=>⟨false,b,a,!x⟩::fs
 | .eq a b,x=>⟨true,a,b,x⟩::fs
 | .nz a,x=>⟨true,a,.c 0,!x⟩::fs
 | .not a,x=>Z5q fs a (!x)
 | .and a b,true=>Z5q (Z5q fs a true) b true
 | .or a b,false=>Z5q (Z5q fs a false) b false
 | .iff a b,x=>match Z42 fs a with
  | some y=>Z5q fs b (x == y)
  | none=>match Z42 fs b with
   | some y=>Z5q fs a (x == y)
   | none=>fs
 | _,_=>fs
def Zbc (fs:List Zcl):XB→XB
 | .and a b=>match Z42 fs a,Z42 fs b with
  | some true,_=>Zbc fs b
  | _,some true=>Zbc fs a
  | _,_=>.and (Zbc fs a) (Zbc fs b)
 | .or a b=>match Z42 fs a,Z42 fs b with
  | some false,_=>Zbc fs b
  | _,some false=>Zbc fs a
  | _,_=>.or (Zbc fs a) (Zbc fs b)
 | .iff a b=>match Z42 fs a with
  | some true=>b
  | some false=>.not b
  | none=>match Z42 fs b with
   | some true=>a
   | some false=>.not a
   | none=>.iff a b
 | b=>b
def X.low (n:Nat):X→Bool
 | .c _=>true
 | .v i=>decide (i < n)
 | .add a b=>a.low n && b.low n
 | .sub a b=>a.low n && b.low n
 | .mul a b=>a.low n && b.low n
 | .quo a b=>a.low n && b.low n
 | .rem a b=>a.low n && b.low n
 | .mn a b=>a.low n && b.low n
 | .mx a b=>a.low n && b.low n
 | .wr _ a=>a.low n
 | .nl=>true
 | .ln a=>a.low n
 | .l2 _ a b=>a.low n && b.low n
 | .l3 a b x=>a.low n && (b.low n && x.low n)
theorem X.den_low {R:Fo} {r x:List Int}:∀ a:X,a.low r.length=true→a.den R (r++x)=a.den R r:=by
 intro a
 induction a with
 | c n=>intro _; rfl
 | v i =>
  intro h
  simp only [X.low,Z1h4] at h
  simp only [X.den,List.getD]
  rw [List.getElem?_append_left h]
 | wr k a ih=>intro h; simp only [X.den,ih h]
 | nl=>intro _; rfl
 | ln a ih=>intro h; simp only [X.den,ih h]
 | l2 o a b iha ihb =>
  intro h
  simp only [X.low,Z1h3] at h
  simp only [X.den,iha h.1,ihb h.2]
 | l3 a b x iha ihb ihx =>
  intro h
  simp only [X.low,Z1h3] at h
  simp only [X.den,iha h.1,ihb h.2.1,ihx h.2.2]
 | _ a b iha ihb =>
  intro h
  simp only [X.low,Z1h3] at h
  simp only [X.den,iha h.1,ihb h.2]
theorem Z5r {R:Fo} {r:List Int} {eq:Bool} {a b:X}:∀ {fs:List Zcl} {x:Bool},(∀ f ∈ fs,f.holds R r)→Zo9 eq a b fs=some x →
  ((if eq=true then a.den R r=b.den R r else a.den R r≤b.den R r)↔x=true)
 | [],_,_,h=>by simp [Zo9] at h
 | f::fs,x,hf,h=>by
  simp only [Zo9] at h
  split at h
  ·rename_i hc
   simp only [Z1h3,beq_iff_eq] at hc
   obtain ⟨h1,h2,h3⟩:=hc
   simp only [Option.some.injEq] at h
   have:=hf f (List.mem_cons_self ..)
   rw [Zcl.holds,h1,X.same_eq _ _ h2,X.same_eq _ _ h3,h] at this
   exact this
  ·exact Z5r (fun g hg=>hf g (List.mem_cons_of_mem _ hg)) h
theorem Z1p {R:Fo} {r:List Int} {fs:List Zcl} (hf:∀ f ∈ fs,f.holds R r):∀ (b:XB) (x:Bool),Z42 fs b=some x→(b.prop R r↔x=true):=by
 intro b
 induction b with
 | c b=>intro x h; simp only [Z42,Option.some.injEq] at h; subst h; exact Iff.rfl
 | le a b=>intro x h; exact Z5r (eq:=false) hf h
 | lt a b =>
  intro x h
  simp only [Z42,Option.map_eq_some_iff] at h
  obtain ⟨y,h1,rfl⟩:=h
  have:=Z5r (eq:=false) hf h1
  simp only [Bool.false_eq_true,if_false] at this
  simp only [XB.prop]
  rw [← Z1h2,this]
  cases y <;> simp
 | eq a b=>intro x h; exact Z5r (eq:=true) hf h
 | nz a =>
  intro x h
  simp only [Z42,Option.map_eq_some_iff] at h
  obtain ⟨y,h1,rfl⟩:=h
  have:=Z5r (eq:=true) hf h1
  simp only [if_true,X.den] at this
  simp only [XB.prop,ne_eq,this]
  cases y <;> simp
 | not a ih =>
  intro x h
  simp only [Z42,Option.map_eq_some_iff] at h
  obtain ⟨y,h1,rfl⟩:=h
  simp only [XB.prop,ih y h1]
  cases y <;> simp
 | and a b iha ihb =>
  intro x h
  simp only [Z42] at h
  split at h
  ·rename_i h1
   simp only [Option.some.injEq] at h; subst h
   simp [XB.prop,iha _ h1]
  ·rename_i h1 _
   simp only [Option.some.injEq] at h; subst h
   simp [XB.prop,ihb _ h1]
  ·rename_i h1 h2
   simp only [Option.some.injEq] at h; subst h
   simp [XB.prop,iha _ h1,ihb _ h2]
  ·cases h
 | or a b iha ihb =>
  intro x h
  simp only [Z42] at h
  split at h
  ·rename_i h1
   simp only [Option.some.injEq] at h; subst h
   simp [XB.prop,iha _ h1]
  ·rename_i h1 _
   simp only [Option.some.injEq] at h; subst h
   simp [XB.prop,ihb _ h1]
  ·rename_i h1 h2
   simp only [Option.some.injEq] at h; subst h
   simp [XB.prop,iha _ h1,ihb _ h2]
  ·cases h
 | iff a b iha ihb =>
  intro x h
  simp only [Z42] at h
  split at h
  ·rename_i y z h1 h2
   simp only [Option.some.injEq] at h; subst h
   have q1:=iha _ h1
   have q2:=ihb _ h2
   simp only [XB.prop,q1,q2]
   cases y <;> cases z <;> simp
  ·cases h
theorem Zr4 {R:Fo} {r:List Int}:∀ (b:XB) (x:Bool) (fs:List Zcl),(∀ f ∈ fs,f.holds R r)→(b.prop R r↔x=true)→∀ f ∈ Z5q fs b x,f.holds R r:=by
 intro b
 induction b with
 | le a b =>
  intro x fs hf hb f hm
  rcases List.mem_cons.1 hm with rfl | hm
  ·exact hb
  ·exact hf f hm
 | lt a b =>
  intro x fs hf hb f hm
  rcases List.mem_cons.1 hm with rfl | hm
  ·simp only [XB.prop] at hb
   simp only [Zcl.holds,Bool.false_eq_true,if_false]
   rw [← Z1h1,hb]
   cases x <;> simp
  ·exact hf f hm
 | eq a b =>
  intro x fs hf hb f hm
  rcases List.mem_cons.1 hm with rfl | hm
  ·exact hb
  ·exact hf f hm
 | nz a =>
  intro x fs hf hb f hm
  rcases List.mem_cons.1 hm with rfl | hm
  ·simp only [XB.prop] at hb
   simp only [Zcl.holds,if_true,X.den]
   cases x
   ·simp only [Bool.false_eq_true,iff_false,ne_eq,Z1gy] at hb; simp [hb]
   ·simp only [iff_true,ne_eq] at hb; simp [hb]
  ·exact hf f hm
 | not a ih =>
  intro x fs hf hb
  refine ih (!x) fs hf ?_
  simp only [XB.prop] at hb
  cases x
  ·simp only [Bool.false_eq_true,iff_false,Z1gy] at hb; simp [hb]
  ·simp only [iff_true] at hb; simp [hb]
 | and a b iha ihb =>
  intro x fs hf hb
  cases x with
  | true =>
   simp only [XB.prop,iff_true] at hb
   exact ihb true _ (iha true fs hf (by simp [hb.1])) (by simp [hb.2])
  | false=>exact hf
 | or a b iha ihb =>
  intro x fs hf hb
  cases x with
  | false =>
   simp only [XB.prop,Bool.false_eq_true,iff_false,not_or] at hb
   exact ihb false _ (iha false fs hf (by simp [hb.1])) (by simp [hb.2])
  | true=>exact hf
 | c b=>intro x fs hf _; exact hf
 | iff a b iha ihb =>
  intro x fs hf hb
  simp only [Z5q]
  split
  ·rename_i y h1
   have q:=Z1p hf _ _ h1
   refine ihb _ fs hf ?_
   simp only [XB.prop,q] at hb
   cases x <;> cases y <;> simp at hb ⊢ <;> exact hb
  ·split
   ·rename_i y h1
    have q:=Z1p hf _ _ h1
    refine iha _ fs hf ?_
    simp only [XB.prop,q] at hb
    cases x <;> cases y <;> simp at hb ⊢ <;> exact hb
   ·exact hf
theorem Zj4 {R:Fo} {r:List Int} {fs:List Zcl} (hf:∀ f ∈ fs,f.holds R r):∀ b:XB,(Zbc fs b).prop R r↔b.prop R r:=by
 intro b
 induction b with
 | and a b iha ihb =>
  simp only [Zbc]
  split
  ·rename_i h1
   have:=Z1p hf _ _ h1
   simp only [iff_true] at this
   simp [XB.prop,ihb,this]
  ·rename_i h1 _
   have:=Z1p hf _ _ h1
   simp only [iff_true] at this
   simp [XB.prop,iha,this]
  ·simp [XB.prop,iha,ihb]
 | or a b iha ihb =>
  simp only [Zbc]
  split
  ·rename_i h1
   have:=Z1p hf _ _ h1
   simp only [Bool.false_eq_true,iff_false] at this
   simp [XB.prop,ihb,this]
  ·rename_i h1 _
   have:=Z1p hf _ _ h1
   simp only [Bool.false_eq_true,iff_false] at this
   simp [XB.prop,iha,this]
  ·simp [XB.prop,iha,ihb]
 | iff a b =>
  simp only [Zbc]
  split
  ·rename_i h1
   have:=Z1p hf _ _ h1
   simp only [iff_true] at this
   simp [XB.prop,this]
  ·rename_i h1
   have:=Z1p hf _ _ h1
   simp only [Bool.false_eq_true,iff_false] at this
   simp [XB.prop,this]
  ·split
   ·rename_i h1
    have:=Z1p hf _ _ h1
    simp only [iff_true] at this
    simp [XB.prop,this]
   ·rename_i h1
    have:=Z1p hf _ _ h1
    simp only [Bool.false_eq_true,iff_false] at this
    simp [XB.prop,this]
   ·exact Iff.rfl
 | _=>exact Iff.rfl
def Zcl.low (n:Nat) (f:Zcl):Bool:=f.a.low n && f.b.low n
def Z1bk (lv:List (Nat × List (Option Iv))) (m n:Nat):List (Option Iv):=match lv.find? (fun p=>p.1 == m && p.2.length == n) with
 | some p=>p.2
 | none=>List.replicate n none
def Zs (lv:List (Nat × List (Option Iv))) (outs:List Inf):List Zcl→List (Option Iv)→T→TX
 | _,vs,.ret es=>.ret (es.map fun e=>(Z1h vs e).1)
 | fs,vs,.ite b t f=>match Zo8 vs b with
  | some true=>Zs lv outs fs vs t
  | some false=>Zs lv outs fs vs f
  | none=>match Z42 fs (Zki vs b) with
   | some true=>Zs lv outs fs vs t
   | some false=>Zs lv outs fs vs f
   | none=>.ite (Zbc fs (Zki vs b)) (if Z112 (Z41 vs b true) then .ok else Zs lv outs ((Z5q fs (Zki vs b) true).filter (Zcl.low vs.length)) (Z41 vs b true) t)
     (if Z112 (Z41 vs b false) then .ok else Zs lv outs ((Z5q fs (Zki vs b) false).filter (Zcl.low vs.length)) (Z41 vs b false) f)
 | fs,vs,.asrt b t=>match Zo8 vs b with
  | some true=>Zs lv outs fs vs t
  | _=>match Z42 fs (Zki vs b) with
   | some true=>Zs lv outs fs vs t
   | _=>.asrt (Zbc fs (Zki vs b)) (Zs lv outs ((Z5q fs (Zki vs b) true).filter (Zcl.low vs.length)) (Z41 vs b true) t)
 | fs,vs,.call g args t =>
  if Zxo (args.map fun e=>(Z1h vs e).2) (outs.getD g .none).pin then .callp g (args.map fun e=>(Z1h vs e).1) (Zs lv outs fs (vs++(outs.getD g .none).out (args.map fun e=>(Z1h vs e).2)) t)
  else .call g (args.map fun e=>(Z1h vs e).1) (Zs lv outs fs (vs++(outs.getD g .none).out (args.map fun e=>(Z1h vs e).2)) t)
 | fs,vs,.loop n ini t=>.loop n (Z1bk lv vs.length n) (ini.map fun e=>(Z1h vs e).1) (Zs lv outs fs (vs++Z1bk lv vs.length n) t)
 | _,vs,.back d es=>.back d (es.map fun e=>(Z1h vs e).1)
 | fs,vs,.both t f=>Z113 (Zs lv outs fs vs t) (Zs lv outs fs vs f)
 | fs,vs,.any n g args t=>.any n g (args.map fun e=>(Z1h vs e).1) (Zs lv outs fs (vs++List.replicate n none) t)
 | _,_,.fail=>.fail
section
variable {R:Fo}
theorem Zu1:∀ (a:X) (m k:Nat),m≤k→a.low m=true→a.low k=true:=by
 intro a m k hmk
 induction a with
 | c n=>intro _; rfl
 | v i=>simp only [X.low,Z1h4]; omega
 | wr k a ih=>exact ih
 | nl=>intro _; rfl
 | ln a ih=>exact ih
 | l2 o a b iha ihb =>
  simp only [X.low,Z1h3]
  exact fun h=>⟨iha h.1,ihb h.2⟩
 | l3 a b x iha ihb ihx =>
  simp only [X.low,Z1h3]
  exact fun h=>⟨iha h.1,ihb h.2.1,ihx h.2.2⟩
 | _ a b iha ihb =>
  simp only [X.low,Z1h3]
  exact fun h=>⟨iha h.1,ihb h.2⟩
def Zcw (R:Fo) (fs:List Zcl) (r:List Int):Prop:=∀ f ∈ fs,f.holds R r∧f.low r.length=true
theorem Z6i {fs:List Zcl} {r:List Int} (x:List Int) (h:Zcw R fs r):Zcw R fs (r++x):=by
 intro f hm
 obtain ⟨h1,h2⟩:=h f hm
 have h2':=h2
 simp only [Zcl.low,Z1h3] at h2
 refine ⟨?_,?_⟩
 ·simp only [Zcl.holds,X.den_low _ h2.1,X.den_low _ h2.2]
  exact h1
 ·simp only [Zcl.low,Z1h3,List.length_append]
  exact ⟨Zu1 _ _ _ (by omega) h2.1,Zu1 _ _ _ (by omega) h2.2⟩
theorem Z6j {fs:List Zcl} {r:List Int} (h:Zcw R fs r) {b:XB} {x:Bool} (hb:b.prop R r↔x=true):Zcw R ((Z5q fs b x).filter (Zcl.low r.length)) r :=
 fun f hm=>⟨Zr4 b x fs (fun g hg=>(h g hg).1) hb f (List.mem_filter.1 hm).1,(List.mem_filter.1 hm).2⟩
theorem Za9 {lv:List (Nat × List (Option Iv))} {Γ:List Sum} {outs:List Inf} {Ψ:List Int→Prop} (ho:Zi Γ outs):∀ (t:T) (fs:List Zcl) (vs:List (Option Iv)) (bs:List (List Int→Prop)) (r:List Int),Zcw R fs r→Zr vs r→(Zs lv outs fs vs t).sat Γ R Ψ bs r→t.sat Γ R Ψ bs r:=by
 intro t
 induction t with
 | ret es =>
  intro fs vs bs r hf h hs
  simp only [Zs,TX.sat,List.map_map] at hs
  have:es.map (X.den R r ∘ fun e=>(Z1h vs e).1)=es.map (E.den R r):=List.map_congr_left fun e _=>(Z1b h e).1
  rw [this] at hs
  exact hs
 | ite b t f iht ihf =>
  intro fs vs bs r hf h hs
  simp only [Zs] at hs
  have hf1:∀ f ∈ fs,f.holds R r:=fun f hm=>(hf f hm).1
  have hcb:=Zj3 (R:=R) h b
  have key:∀ x,b.den R r=x→Z112 (Z41 vs b x)=false∧Zr (Z41 vs b x) r:=fun x hx=>⟨Zr3 (Zgh (R:=R) b x vs h hx),Zgh (R:=R) b x vs h hx⟩
  split at hs
  ·rename_i hd
   have:=Zgg (R:=R) h b true hd
   exact ⟨fun _=>iht fs vs bs r hf h hs,fun hf=>by rw [this] at hf; cases hf⟩
  ·rename_i hd
   have:=Zgg (R:=R) h b false hd
   exact ⟨fun hf=>(by rw [this] at hf; cases hf),fun _=>ihf fs vs bs r hf h hs⟩
  ·split at hs
   ·rename_i hk
    have:=(hcb.1 ((Z1p hf1 _ _ hk).2 rfl))
    exact ⟨fun _=>iht fs vs bs r hf h hs,fun hb=>by rw [this] at hb; cases hb⟩
   ·rename_i hk
    have hn:¬ b.den R r=true:=fun hb=>by have:=(Z1p hf1 _ _ hk).1 (hcb.2 hb); cases this
    exact ⟨fun hb=>absurd hb hn,fun _=>ihf fs vs bs r hf h hs⟩
   ·obtain ⟨h1,h2⟩:=hs
    rw [Zj4 hf1] at h1 h2
    refine ⟨fun hb=>?_,fun hb=>?_⟩
    ·obtain ⟨k1,k2⟩:=key true hb
     have h3:=h1 (hcb.2 hb)
     rw [if_neg (by rw [k1]; simp)] at h3
     rw [h.1] at h3
     exact iht _ _ bs r (Z6j hf (by simp [hcb.2 hb])) k2 h3
    ·obtain ⟨k1,k2⟩:=key false hb
     have hnp:¬ (Zki vs b).prop R r:=fun hp=>by have:=hcb.1 hp; rw [hb] at this; cases this
     have h3:=h2 hnp
     rw [if_neg (by rw [k1]; simp)] at h3
     rw [h.1] at h3
     exact ihf _ _ bs r (Z6j hf (by simp [hnp])) k2 h3
 | asrt b t ih =>
  intro fs vs bs r hf h hs
  simp only [Zs] at hs
  have hf1:∀ f ∈ fs,f.holds R r:=fun f hm=>(hf f hm).1
  have hcb:=Zj3 (R:=R) h b
  split at hs
  ·rename_i hd
   exact ⟨Zgg (R:=R) h b true hd,ih fs vs bs r hf h hs⟩
  ·split at hs
   ·rename_i hk
    exact ⟨hcb.1 ((Z1p hf1 _ _ hk).2 rfl),ih fs vs bs r hf h hs⟩
   ·obtain ⟨h1,h2⟩:=hs
    rw [Zj4 hf1] at h1
    have hb:=hcb.1 h1
    rw [h.1] at h2
    exact ⟨hb,ih _ _ bs r (Z6j hf (by simp [h1])) (Zgh (R:=R) b true vs h hb) h2⟩
 | call g args t ih =>
  intro fs vs bs r hf h hs
  have hm:args.map (X.den R r ∘ fun e=>(Z1h vs e).1)=args.map (E.den R r):=List.map_congr_left fun e _=>(Z1b h e).1
  simp only [Zs] at hs
  simp only [T.sat]
  split at hs
  ·rename_i hin
   simp only [TX.sat,List.map_map,hm] at hs
   split at hs
   ·rename_i s hg
    rw [hg]
    obtain ⟨h1,h2⟩:=ho g s hg
    have h3:=Zu0 hin (Zbb (R:=R) h args)
    exact ⟨h1 _ h3,ih _ _ bs _ (Z6i _ hf) (Zw h (h2 _ _ (Zbb (R:=R) h args) (h1 _ h3))) hs⟩
   ·exact hs.elim
  ·simp only [TX.sat,List.map_map,hm] at hs
   split at hs
   ·rename_i s hg
    rw [hg]
    obtain ⟨h1,h2⟩:=ho g s hg
    exact ⟨hs.1,ih _ _ bs _ (Z6i _ hf) (Zw h (h2 _ _ (Zbb (R:=R) h args) hs.1)) hs.2⟩
   ·exact hs.elim
 | loop n ini t ih =>
  intro fs vs bs r hf h hs
  have hm:ini.map (X.den R r ∘ fun e=>(Z1h vs e).1)=ini.map (E.den R r):=List.map_congr_left fun e _=>(Z1b h e).1
  simp only [Zs,TX.sat,List.map_map,hm] at hs
  obtain ⟨I,μ,h1,h2,h3⟩:=hs
  exact ⟨I,μ,h2,fun xs hx hI=>ih _ _ _ _ (Z6i _ hf) (Zw h (h1 xs hx hI)) (h3 xs hx hI)⟩
 | back d es =>
  intro fs vs bs r hf h hs
  have hm:es.map (X.den R r ∘ fun e=>(Z1h vs e).1)=es.map (E.den R r):=List.map_congr_left fun e _=>(Z1b h e).1
  simp only [Zs,TX.sat,List.map_map,hm] at hs
  exact hs
 | both t f iht ihf =>
  intro fs vs bs r hf h hs
  simp only [Zs] at hs
  obtain ⟨h1,h2⟩:=Zxq hs
  exact ⟨iht _ _ _ _ hf h h1,ihf _ _ _ _ hf h h2⟩
 | any n g args t ih =>
  intro fs vs bs r hf h hs
  have hm:args.map (X.den R r ∘ fun e=>(Z1h vs e).1)=args.map (E.den R r):=List.map_congr_left fun e _=>(Z1b h e).1
  simp only [Zs,TX.sat,List.map_map,hm] at hs
  simp only [T.sat]
  split at hs
  ·rename_i s hg
   rw [hg]
   exact ⟨hs.1,fun ys hy hr=>ih _ _ bs _ (Z6i _ hf) (Zw h (vs_rep hy)) (hs.2 ys hy hr)⟩
  ·exact hs.elim
 | fail=>intro fs vs bs r _ h hs; exact hs.elim
end
theorem Zaa {R:Fo} {r:List Int}:Zcw R [] r:=fun f h=>by cases h
theorem Sum.okPL {P:Program} {Γ:List Sum} (hm:P.follows .mixedOrders=true) (hG:Gok P Γ) {lp:St→Code→Option Zdy} {lv:List (Nat × List (Option Iv))} {gl:List (Nat × List Int)} {fuel:Nat} {outs:List Inf} (ho:Zi Γ outs) {fn:FuncId} {ps rs:List Sh} {pin:List (Option Iv)} {pre:List Int→Prop} {sem:List Int→List Int} {t:TX}
  (ht:Z13 (Zs lv outs [] pin (Zn P lp gl Γ fuel fn ps rs))=t)
  (hsh:(ps++rs).all (fun sh=>sh.agg || sh.ks.length == 1)=true)
  (hl:∀ xs:List Int,(sem xs).length=Zj rs)
  (hpre:∀ xs,pre xs→Zr pin xs)
  (hs:∀ xs:List Int,xs.length=Zj ps→pre xs→t.sat Γ [] (fun ys=>ys=sem xs) [] xs):(mkP gl fn ps rs pre sem).ok P:=by
 subst ht
 exact Sum.ok_ofL hm hG rfl hsh (fun xs hx hp=>Za9 ho _ [] pin [] xs Zaa (hpre xs hp) (Zgj _ _ _ (hs xs hx hp))) (fun xs _ _=>hl xs)
theorem Sum.okF {P:Program} {Γ:List Sum} (hm:P.follows .mixedOrders=true) (hG:Gok P Γ) {lp:St→Code→Option Zdy} {lv:List (Nat × List (Option Iv))} {gl:List (Nat × List Int)} {fuel:Nat} {outs:List Inf} (ho:Zi Γ outs) {fn:FuncId} {ps rs:List Sh} {pin:List (Option Iv)} {sem:List Int→List Int} {t:TX}
  (ht:Z13 (Zs lv outs [] pin (Zn P lp gl Γ fuel fn ps rs))=t)
  (hsh:(ps++rs).all (fun sh=>sh.agg || sh.ks.length == 1)=true)
  (hl:∀ xs:List Int,(sem xs).length=Zj rs)
  (hs:∀ xs:List Int,xs.length=Zj ps→Zr pin xs→t.sat Γ [] (fun ys=>ys=sem xs) [] xs):(mkS gl fn ps rs pin sem).ok P :=
 Sum.okPL hm hG ho (pre:=Zr pin) ht hsh hl (fun _ h=>h) hs
theorem Sum.okPF {P:Program} {Γ:List Sum} (hm:P.follows .mixedOrders=true) (hG:Gok P Γ) {lp:St→Code→Option Zdy} {lv:List (Nat × List (Option Iv))} {gl:List (Nat × List Int)} {fuel:Nat} {outs:List Inf} (ho:Zi Γ outs) {fn:FuncId} {ps rs:List Sh} {pin:List (Option Iv)} {pre:List Int→Prop} {sem:List Int→List Int} {t:TX}
  (ht:Z13 (Zs lv outs [] pin (Zn P lp gl Γ fuel fn ps rs))=t)
  (hsh:(ps++rs).all (fun sh=>sh.agg || sh.ks.length == 1)=true)
  (hl:∀ xs:List Int,(sem xs).length=Zj rs)
  (hpre:∀ xs,pre xs→Zr pin xs)
  (hs:∀ xs:List Int,xs.length=Zj ps→pre xs→t.sat Γ [] (fun ys=>ys=sem xs) [] xs):(mkP gl fn ps rs pre sem).ok P :=
 Sum.okPL hm hG ho ht hsh hl hpre hs
end Go.Sx
namespace Go.Sx
open Go.RowKit
def Z4r:Code→List Oper
 | .region _ ops _=>ops.toList
 | .seq a b=>Z4r a++Z4r b
 | .cond _ a b=>Z4r a++Z4r b
 | .block _ a=>Z4r a
 | .loop a=>Z4r a
 | .scope a=>Z4r a
 | _=>[]
def Zkj:Code→Nat × Nat
 | .region id ops _=>(id,((ops[0]?).bind (·.dst)).getD 0)
 | .seq a _=>Zkj a
 | .block _ a=>Zkj a
 | _=>(1000000,0)
def Z92 (l:List Oper) (t:Tmp):Option Oper:=l.find? fun o=>decide (o.dst=some t)
def Zr5 (l:List Oper):Nat→Tmp→Option TypeId
 | 0,_=>none
 | f + 1,t=>match Z92 l t with
  | some o=>(match o.op with
   | .move (.tmp u)=>Zr5 l f u
   | .assign (.tmp u)=>Zr5 l f u
   | .slice ty _ _ _ _=>some ty
   | .call c=>(match c.callee with
    | .builtin .append=>c.argTypes[0]?
    | _=>none)
   | _=>none)
  | none=>none
def Zj5 (l:List Oper) (s:St):Nat→Tmp→Option Nat
 | 0,_=>none
 | f + 1,t=>match Z92 l t with
  | none=>(match s.fr.getD t Z5 with
   | .w (.o (.p n _))=>some n
   | _=>none)
  | some o=>(match o.op with
   | .fieldAddr _ (.tmp u) _=>Zj5 l s f u
   | .indexAddr _ (.tmp u) _=>Zj5 l s f u
   | .nilCheck (.tmp u)=>Zj5 l s f u
   | .move (.tmp u)=>Zj5 l s f u
   | _=>none)
def Zkk (l:List Oper) (s:St):List Oper→List Nat
 | []=>[]
 | o::r=>match o.op with
  | .store _ (.tmp t) _=>(match Zj5 l s 8 t with
   | some n=>n::Zkk l s r
   | none=>Zkk l s r)
  | _=>Zkk l s r
def Z118 (l:List Oper) (s:St):Nat→Tmp→Option Nat
 | 0,_=>none
 | f + 1,t=>match Z92 l t with
  | none=>(match s.fr.getD t Z5 with
   | .w (.o (.go (.o n)))=>some n
   | .w (.o (.gv (.o n) _ _ _))=>some n
   | .w (.o (.gp (.o n) _ _ _))=>some n
   | _=>none)
  | some o=>(match o.op with
   | .fieldAddr _ (.tmp u) _=>Z118 l s f u
   | .indexAddr _ (.tmp u) _=>Z118 l s f u
   | .nilCheck (.tmp u)=>Z118 l s f u
   | .move (.tmp u)=>Z118 l s f u
   | .load _ (.tmp u)=>(match Zj5 l s f u with
    | some n=>(match s.mem[n]? with
     | some b=>(match b.cells with
      | .go (.o m)::_=>some m
      | _=>none)
     | none=>none)
    | none=>none)
   | _=>none)
def Z4s (l:List Oper) (s:St):List Oper→List Nat
 | []=>[]
 | o::r=>match o.op with
  | .store _ (.tmp t) _=>(match Z118 l s 8 t with
   | some n=>n::Z4s l s r
   | none=>Z4s l s r)
  | _=>Z4s l s r
def Z6k (s:St) (ty:Option (TypeId × List K)):SC→Ck
 | .i k _=>.num (.i k)
 | .b _=>.num .b
 | .go (.o n)=>(match s.rows[n]? with
  | some b=>.row b.ty b.ks
  | none=>.keep)
 | .gv (.o n) _ _ _=>(match s.rows[n]? with
  | some b=>.row b.ty b.ks
  | none=>.keep)
 | .l (.slice none 0 0)=>(match ty with
  | some t=>.row t.1 t.2
  | none=>.keep)
 | _=>.keep
def Z1bl:SC→Bool
 | .i _ _=>true
 | .b _=>true
 | .go (.o _)=>true
 | .gv (.o _) _ _ _=>true
 | .l (.slice none 0 0)=>true
 | _=>false
def tyOf (P:Program) (l:List Oper) (t:Tmp):Option (TypeId × List K):=match Zr5 l 8 t with
 | some ty=>(match P.underlying ty with
  | some (.slice e)=>(Z167 P 8 e).map fun ks=>(e,ks)
  | _=>none)
 | none=>none
def Z171 (l:List Oper) (t:Tmp):Bool:=l.any fun o=>o.op.operands.toList.any fun x=>match x with
 | .tmp u=>u == t
 | _=>false
def Z172 (P:Program) (l:List Oper) (s:St) (rw:List Nat) (t:Tmp) (v:SV):Sk :=
 if (Z92 l t).isNone then (match v with
  | .w (.o (.go (.o n)))=>if rw.contains n then (if Z171 l t then .cells [Z6k s none (.go (.o n))] else .un) else .keep
  | .w (.o (.gp (.o n) _ (.c 0) 0))=>if rw.contains n then (match s.rows[n]? with
   | some b=>.cells [.arr b.ty b.ks]
   | none=>.keep) else .keep
  | _=>if v.same v then .keep else .un) else
 match v with
 | .w (.o c)=>if Z1bl c then (match Z6k s (tyOf P l t) c with
  | .keep=>.un
  | p=>.cells [p]) else .un
 | .w (.a cs)=>if cs.all Z1bl then .cells (cs.map (Z6k s none)) else .un
 | _=>.un
def Z119 (P:Program) (l:List Oper) (s:St) (rw:List Nat):Nat→List SV→List Sk
 | _,[]=>[]
 | t,v::vs=>Z172 P l s rw t v::Z119 P l s rw (t + 1) vs
def Z11a (s:St) (rw ws:List Nat):Nat→List Blk→List (List Ck)
 | _,[]=>[]
 | n,b::bs=>(if ws.contains n then b.cells.map (Z6k s none) else b.cells.map fun c=>match c with
  | .go (.o m)=>if rw.contains m then Z6k s none c else Ck.keep
  | _=>Ck.keep)::Z11a s rw ws (n + 1) bs
def Z173 (P:Program) (s:St) (body:Code):Zdy :=
 let l:=Z4r body
 let rw:=Z4s l s l
 ⟨Z119 P l s rw 0 s.fr,Z11a s rw (Zkk l s l) 0 s.mem⟩
def Z9p (P:Program) (ks:List (Nat × Nat)):St→Code→Option Zdy:=fun s body =>
 if ks.contains (Zkj body) then some (Z173 P s body) else none
end Go.Sx
namespace Go.Proofs.YtgcoidbaoigkeaaGreatDoor.fix
open Go.RowKit Go.Sx
def gl0:List (Nat × List Int):=[(0,[-4096,-4096,-4096,4096,4096,4096])]
def zz:Option Iv:=some i64v
def zs (n:Nat):List (Option Iv):=List.replicate n zz
def iv (a b:Int):Option Iv:=some ⟨a,b⟩
def ivs (n:Nat) (a b:Int):List (Option Iv):=List.replicate n (iv a b)
def pos:Option Iv:=iv 1 9223372036854775807
def Z174:Option Iv→Option Iv
 | some v=>some ⟨min v.lo 0,max v.hi 0⟩
 | none=>none
def ex3 (l:List Int):List Int:=[l.getD 0 0,l.getD 1 0,l.getD 2 0]
def ex4 (l:List Int):List Int:=[l.getD 0 0,l.getD 1 0,l.getD 2 0,l.getD 3 0]
def ex5 (l:List Int):List Int:=[l.getD 0 0,l.getD 1 0,l.getD 2 0,l.getD 3 0,l.getD 4 0]
def ex6 (l:List Int):List Int:=[l.getD 0 0,l.getD 1 0,l.getD 2 0,l.getD 3 0,l.getD 4 0,l.getD 5 0]
def ex7 (l:List Int):List Int:=[l.getD 0 0,l.getD 1 0,l.getD 2 0,l.getD 3 0,l.getD 4 0,l.getD 5 0,l.getD 6 0]
def Zeb (l:List Int):List Int:=[l.getD 0 0,l.getD 1 0,l.getD 2 0,l.getD 3 0,l.getD 4 0,l.getD 5 0,l.getD 6 0,l.getD 7 0,l.getD 8 0,l.getD 9 0,l.getD 10 0,l.getD 11 0,l.getD 12 0]
def Z9k (l:List Int):List Int:=[l.getD 0 0,l.getD 1 0,l.getD 2 0,l.getD 3 0,l.getD 4 0,l.getD 5 0,l.getD 6 0,l.getD 7 0,l.getD 8 0,l.getD 9 0,l.getD 10 0,l.getD 11 0,l.getD 12 0,l.getD 13 0,l.getD 14 0,l.getD 15 0]
def er (b:Bool) (e:Int):Int:=if b=true then 0 else e
def b01 (b:Bool):Int:=if b=true then 1 else 0
def Zgk:List (Option Iv):=[zz,pos]
def Z1d (x:List Int):List Int:=[x.getD 0 0 / x.getD 1 0,0]
def Z11b (v:List (Option Iv)):List (Option Iv):=[Z174 (v.getD 0 none),iv 0 0]
def Z1m:Sum:=mkS gl0 96 [I1,I1] [I1,I1] Zgk Z1d
def Z7y:Inf:=⟨Zgk,Z11b⟩
def scB (x:List Int):List Int:=[min (x.getD 2 0 * x.getD 0 0) (x.getD 2 0 * x.getD 1 0),max (x.getD 2 0 * x.getD 0 0) (x.getD 2 0 * x.getD 1 0),0]
def Zab:=ivs 2 (-32768) 32768++[iv (-1024) 1024]
def Zgl (x:List Int):Prop:=Zr Zab x∧x.getD 0 0≤x.getD 1 0
def Zac (x:List Int):List Int:=scB x
def Zr6 (v:List (Option Iv)):List (Option Iv):=ivs 2 (-33554432) 33554432++[iv 0 0]
def Zbd:Sum:=mkP gl0 127 [An 2,I1] [An 2,I1] Zgl Zac
def Zoa:Inf:=⟨[some ⟨1,0⟩],Zr6⟩
def Zgm:=ivs 4 (-1073741824) 1073741824
def Zob (x:List Int):Prop:=Zr Zgm x∧x.getD 0 0≤x.getD 1 0∧x.getD 2 0≤x.getD 3 0
def Zgn (x:List Int):List Int:=[x.getD 0 0 + x.getD 2 0,x.getD 1 0 + x.getD 3 0,0]
def Z11c (v:List (Option Iv)):List (Option Iv):=ivs 2 (-2147483648) 2147483648++[iv 0 0]
def Zkl:Sum:=mkP gl0 128 [An 2,An 2] [An 2,I1] Zob Zgn
def Z11d:Inf:=⟨[some ⟨1,0⟩],Z11c⟩
def Zgo:=ivs 2 (-1073741824) 1073741824++[iv 256 256]
def Zoc (x:List Int):Prop:=Zr Zgo x∧x.getD 0 0≤x.getD 1 0
def Zgp (x:List Int):List Int:=[x.getD 0 0 / 256,x.getD 1 0 / 256,0]
def Z11e (v:List (Option Iv)):List (Option Iv):=ivs 2 (-4194304) 4194304++[iv 0 0]
def Zkm:Sum:=mkP gl0 129 [An 2,I1] [An 2,I1] Zoc Zgp
def Z11f:Inf:=⟨[some ⟨1,0⟩],Z11e⟩
def Zkn:List (Option Iv):=[zz,pos]
def Zko (x:List Int):List Int:=[up (x.getD 0 0) (x.getD 1 0),0]
def Z175 (v:List (Option Iv)):List (Option Iv):=[Z174 (v.getD 0 none),iv 0 0]
def Zu2:Sum:=mkS gl0 130 [I1,I1] [I1,I1] Zkn Zko
def Z1bm:Inf:=⟨Zkn,Z175⟩
def Zj6 (m:Int) (x:List Int) (o:Nat):Bool:=decide ((-m≤x.getD o 0∧x.getD o 0≤m)∧(-m≤x.getD (o + 1) 0∧x.getD (o + 1) 0≤m)∧(-m≤x.getD (o + 2) 0∧x.getD (o + 2) 0≤m))
def Z2p (m:Int) (x:List Int) (o:Nat):Bool:=Zj6 m x o && (Zj6 m x (o + 3) && Zj6 m x (o + 6))
def dot (x:List Int) (o p:Nat):Int:=x.getD o 0 * x.getD p 0 + x.getD (o + 1) 0 * x.getD (p + 1) 0 + x.getD (o + 2) 0 * x.getD (p + 2) 0
def Z176 (v:List (Option Iv)) (o p:Nat):Option Iv:=Zxn (Zxn (Zr1 (v.getD o none) (v.getD p none)) (Zr1 (v.getD (o + 1) none) (v.getD (p + 1) none))) (Zr1 (v.getD (o + 2) none) (v.getD (p + 2) none))
def Z177 (k:Int):Option Iv→Option Iv
 | some v=>some ⟨v.lo / k,v.hi / k⟩
 | none=>none
def Zcx (x:List Int):List Int:=[er (Zj6 4096 x 0) 20]
def Zcy:=zs 3
def Zxr (v:List (Option Iv)):List (Option Iv):=[iv 0 20]
def Zec:Sum:=mkS gl0 52 [An 3] [I1] Zcy Zcx
def Zu3:Inf:=⟨Zcy,Zxr⟩
def Z7z (x:List Int):List Int:=[dot x 0 9 / 256,dot x 3 9 / 256,dot x 6 9 / 256]
def Zgq:=ivs 9 (-1024) 1024++ivs 3 (-32768) 32768
def Z11g (v:List (Option Iv)):List (Option Iv):=[Z177 256 (Z176 v 0 9),Z177 256 (Z176 v 3 9),Z177 256 (Z176 v 6 9)]
def Zcz:Sum:=mkS gl0 193 [An 9,An 3] [An 3] Zgq Z7z
def Z11h:Inf:=⟨Zgq,Z11g⟩
def Zie (x:List Int) (o:Nat):Bool:=Zj6 32768 x o && (Zj6 32768 x (o + 3) && decide (x.getD o 0≤x.getD (o + 3) 0∧x.getD (o + 1) 0≤x.getD (o + 4) 0∧x.getD (o + 2) 0≤x.getD (o + 5) 0))
def Z3j (x:List Int):List Int:=[er (Zie x 0) 8]
def Zd0:=zs 6
def Zxs (v:List (Option Iv)):List (Option Iv):=[iv 0 8]
def Z56:Sum:=mkS gl0 64 [An 6] [I1] Zd0 Z3j
def Zkp:Inf:=⟨Zd0,Zxs⟩
def z7 (e:Int):List Int:=[0,0,0,0,0,0,e]
def Zad (x:List Int):Bool:=decide ((x.getD 6 0≤x.getD 0 0∧x.getD 7 0≤x.getD 1 0∧x.getD 8 0≤x.getD 2 0)∧(x.getD 3 0≤x.getD 9 0∧x.getD 4 0≤x.getD 10 0∧x.getD 5 0≤x.getD 11 0))
def Z5s (x:List Int):List Int:=[b01 (Zad x)]
def Zd1:=zs 12
def Zxt (v:List (Option Iv)):List (Option Iv):=[iv 0 1]
def Zbe:Sum:=mkS gl0 85 [An 6,An 6] [Bo] Zd1 Z5s
def Zu4:Inf:=⟨Zd1,Zxt⟩
def Z1e3 (x:List Int) (i:Nat):Int:=(min (x.getD i 0 * x.getD 9 0) (x.getD i 0 * x.getD 12 0) + min (x.getD (i + 1) 0 * x.getD 10 0) (x.getD (i + 1) 0 * x.getD 13 0) + min (x.getD (i + 2) 0 * x.getD 11 0) (x.getD (i + 2) 0 * x.getD 14 0)) / 256
def Zr7 (x:List Int) (i:Nat):Int:=(max (x.getD i 0 * x.getD 9 0) (x.getD i 0 * x.getD 12 0) + max (x.getD (i + 1) 0 * x.getD 10 0) (x.getD (i + 1) 0 * x.getD 13 0) + max (x.getD (i + 2) 0 * x.getD 11 0) (x.getD (i + 2) 0 * x.getD 14 0)) / 256
def Zq (x:List Int):List Int:=[Z1e3 x 0,Z1e3 x 3,Z1e3 x 6,Zr7 x 0,Zr7 x 3,Zr7 x 6,0]
def Z80 (x:List Int):List Int:=if Z2p 1024 x 0=true then if Zie x 9=true then if Zie (Zq x) 0=true then Zq x else z7 20 else z7 8 else z7 2
def Z4t (x:List Int):List Int:=ex7 (Z80 x)
def Zae:=zs 15
def Zr8 (v:List (Option Iv)):List (Option Iv):=ivs 6 (-32768) 32768++[iv 0 20]
def Zbf:Sum:=mkS gl0 86 [An 9,An 6] [An 6,I1] Zae Z4t
def Zod:Inf:=⟨Zae,Zr8⟩
def lensB (x:List Int) (o:Nat):Bool:=decide ((1≤x.getD o 0∧x.getD o 0≤64)∧(256≤x.getD (o + 1) 0∧x.getD (o + 1) 0≤4096)∧(1≤x.getD (o + 2) 0∧x.getD (o + 2) 0≤64)∧(1≤x.getD (o + 3) 0∧x.getD (o + 3) 0≤64))
def Z2b (x:List Int) (o:Nat):Bool:=Zj6 4096 x o && (Z2p 256 x (o + 3) && lensB x (o + 12))
def Z3k (x:List Int):List Int:=[er (Z2b x 0) 150]
def Zd2:=zs 16
def Zxu (v:List (Option Iv)):List (Option Iv):=[iv 0 150]
def Z32:Sum:=mkS gl0 29 [An 16] [I1] Zd2 Z3k
def Zbg:Inf:=⟨Zd2,Zxu⟩
def Zr9 (x:List Int) (o p q:Nat):Int:=x.getD o 0 * (x.getD p 0 - x.getD q 0) + x.getD (o + 1) 0 * (x.getD (p + 1) 0 - x.getD (q + 1) 0) + x.getD (o + 2) 0 * (x.getD (p + 2) 0 - x.getD (q + 2) 0)
def Z7a (x:List Int):List Int:=if Z2b x 0=true then if Zj6 4096 x 16=true then [Zr9 x 3 16 0 / 256,Zr9 x 6 16 0 / 256,Zr9 x 9 16 0 / 256,0] else [0,0,0,20] else [0,0,0,150]
def Zed (x:List Int):List Int:=ex4 (Z7a x)
def Zee:=zs 19
def Zu5 (v:List (Option Iv)):List (Option Iv):=ivs 3 (-24576) 24576++[iv 0 150]
def Zj7:Sum:=mkS gl0 122 [An 16,An 3] [An 3,I1] Zee Zed
def Z1bn:Inf:=⟨Zee,Zu5⟩
def winB (x:List Int) (o w h:Nat):Bool:=decide ((0≤x.getD o 0∧x.getD o 0≤x.getD (o + 2) 0∧x.getD (o + 2) 0 < x.getD w 0)∧(0≤x.getD (o + 1) 0∧x.getD (o + 1) 0≤x.getD (o + 3) 0∧x.getD (o + 3) 0 < x.getD h 0))
def Z2q (x:List Int):Int:=if Z2b x 0=true then if winB x 16 14 15=true then 0 else 2 else 150
def Z3l (x:List Int):List Int:=[Z2q x]
def Zd3:=zs 20
def Zxv (v:List (Option Iv)):List (Option Iv):=[iv 0 150]
def Z47:Sum:=mkS gl0 10 [An 16,An 4] [I1] Zd3 Z3l
def Zef:Inf:=⟨Zd3,Zxv⟩
def Z33 (x:List Int) (o:Nat):Bool:=Zj6 4096 x o && (Zj6 4096 x (o + 3) && decide (x.getD o 0≤x.getD (o + 3) 0∧x.getD (o + 1) 0≤x.getD (o + 4) 0∧x.getD (o + 2) 0≤x.getD (o + 5) 0))
def Z1e4:List (Option Iv):=[iv 8 512,iv 4 256,iv 256 32768,iv 256 32768]
def Z4c (x:List Int):List Int:=[x.getD 0 0 * x.getD 4 0 / (if (0≤x.getD 4 0↔x.getD 5 0 ≠ 0) then x.getD 2 0 else x.getD 3 0)]
def Z93:=Z1e4++[iv (-32768) 32768,iv 0 1]
def Zxw (v:List (Option Iv)):List (Option Iv):=[iv (-65536) 65536]
def Zeg:Sum:=mkS gl0 89 [An 4,I1,Bo] [I1] Z93 Z4c
def Zu6:Inf:=⟨Z93,Zxw⟩
def Zkq (x:List Int):List Int:=[max (up (x.getD 4 0 - 4) 8) (x.getD 6 0),min ((x.getD 5 0 - 4) / 8) (x.getD 7 0),b01 (decide (max (up (x.getD 4 0 - 4) 8) (x.getD 6 0)≤min ((x.getD 5 0 - 4) / 8) (x.getD 7 0)))]
def Zeh:=zs 4++ivs 2 (-1048576) 1048576++zs 2
def Z178 (v:List (Option Iv)):List (Option Iv):=[zz,zz,iv 0 1]
def Zu7:Sum:=mkS gl0 88 [An 4,I1,I1,I1,I1] [I1,I1,Bo] Zeh Zkq
def Z1bo:Inf:=⟨Zeh,Z178⟩
def Z23 (x:List Int):List Int:=[x.getD 3 0,x.getD 4 0,x.getD 5 0,x.getD 6 0,x.getD 7 0,x.getD 8 0,x.getD 9 0,x.getD 10 0,x.getD 11 0,x.getD 16 0 - x.getD 0 0,x.getD 17 0 - x.getD 1 0,x.getD 18 0 - x.getD 2 0,x.getD 19 0 - x.getD 0 0,x.getD 20 0 - x.getD 1 0,x.getD 21 0 - x.getD 2 0]
def Zbh (x:List Int):List Int:=if Z2b x 0=true then if Z33 x 16=true then Zq (Z23 x) else z7 8 else z7 150
def Z34 (x:List Int):List Int:=ex7 (Zbh x)
def Zgr:=zs 22
def Z11i (v:List (Option Iv)):List (Option Iv):=ivs 6 (-24576) 24576++[iv 0 150]
def Z6l:Sum:=mkS gl0 53 [An 16,An 6] [An 6,I1] Zgr Z34
def Zra:Inf:=⟨Zgr,Z11i⟩
def vw (x:List Int) (i:Nat):Int:=(Zq (Z23 x)).getD i 0
def Z1n (x:List Int):Int:=max (vw x 2) (x.getD 13 0)
def Z6z (x:List Int):Int:=vw x 5
def Zrb (f a b n:Int):Int:=8 * f * n / (if 0≤n then b else a)
def Zrc (f a b n:Int):Int:=8 * f * n / (if 0≤n then a else b)
def Zgs (x:List Int):Int:=Zrb (x.getD 12 0) (Z1n x) (Z6z x) (vw x 0) + 4 * x.getD 14 0
def Zbi (x:List Int):Int:=Zrc (x.getD 12 0) (Z1n x) (Z6z x) (vw x 3) + 4 * x.getD 14 0
def Z179 (x:List Int):Int:=4 * x.getD 15 0 - Zrc (x.getD 12 0) (Z1n x) (Z6z x) (vw x 4)
def Z17a (x:List Int):Int:=4 * x.getD 15 0 - Zrb (x.getD 12 0) (Z1n x) (Z6z x) (vw x 1)
def Z11j (x:List Int):Int:=max (up (Zgs x - 4) 8) (x.getD 22 0)
def Z11k (x:List Int):Int:=max (up (Z179 x - 4) 8) (x.getD 23 0)
def Z11l (x:List Int):Int:=min ((Zbi x - 4) / 8) (x.getD 24 0)
def Z11m (x:List Int):Int:=min ((Z17a x - 4) / 8) (x.getD 25 0)
def winC (x:List Int):Bool:=winB x 22 14 15
def Z9q (x:List Int):Bool:=decide (Z1n x≤Z6z x∧Z11j x≤Z11l x∧Z11k x≤Z11m x)
def Zgt (x:List Int):List Int:=[Z11j x,Z11k x,Z11l x,Z11m x,16777216 / Z1n x,1,0]
def Z3m (x:List Int):List Int:=if Z2b x 0=true then if Z33 x 16=true then if winC x=true then if Z9q x=true then Zgt x else z7 0 else z7 2 else z7 8 else z7 150
def Z4d (x:List Int):List Int:=ex7 (Z3m x)
def Zd4:=zs 26
def Zxx (v:List (Option Iv)):List (Option Iv):=ivs 4 0 63++[iv 0 65536,iv 0 1,iv 0 150]
def Zei:Sum:=mkS gl0 54 [An 16,An 6,An 4] [An 5,Bo,I1] Zd4 Z4d
def Zu8:Inf:=⟨Zd4,Zxx⟩
end Go.Proofs.YtgcoidbaoigkeaaGreatDoor.fix
namespace Go.Proofs.YtgcoidbaoigkeaaGreatDoor.fix
open Go.RowKit Go.ChangeShapes Go.WideShapes Go.Sx
theorem gl2 {α:Type} {l:List α} (h:l.length=2):∃ a b,l=[a,b]:=by
 match l,h with
 | [a,b],_=>exact ⟨a,b,rfl⟩
theorem gl3 {α:Type} {l:List α} (h:l.length=3):∃ a b c,l=[a,b,c]:=by
 match l,h with
 | [a,b,c],_=>exact ⟨a,b,c,rfl⟩
theorem gl6 {α:Type} {l:List α} (h:l.length=6):∃ a b c d e f,l=[a,b,c,d,e,f]:=by
 match l,h with
 | [a,b,c,d,e,f],_=>exact ⟨a,b,c,d,e,f,rfl⟩
theorem gName:Tryz.prog.globalNamed "diorama/frustum.world"=some 0:=by kernel_rfl
theorem gType:(Tryz.prog.globals[0]?).map (·.type)=some 75:=by kernel_rfl
theorem Z17b:Tryz.prog.cellsOf 75=6:=by kernel_rfl
theorem Zu9:Tryz.prog.cellsOf 27=3:=by kernel_rfl
theorem Z17c:Tryz.prog.cellsOf 3=1:=by kernel_rfl
theorem Zgu {H:Type} {enc:TypeId × Value→H} {W:World} {base:Nat} {sp:Nat→Bool} {held:Bool} {fuel:Nat} {cs:List Value} {x:DataW H × List MemPlace}
  (h:DataW.trod enc Tryz.prog W base sp held fuel 27 cs=some x):∃ a b c,cs=[.int .i64 a,.int .i64 b,.int .i64 c]∧x.1=.agg [.lit (.int .i64 a),.lit (.int .i64 b),.lit (.int .i64 c)]:=by
 obtain ⟨xs,n,rfl,rfl,hcl,hxl,hf⟩:=DataW.trod_struct Tryz.underlying27 h
 rw [Zu9] at hcl
 obtain ⟨c0,c1,c2,rfl⟩:=gl3 hcl
 obtain ⟨x0,x1,x2,rfl⟩:=gl3 (show xs.length=3 from hxl)
 have h0:DataW.trod enc Tryz.prog W base sp held n 3 (([c0,c1,c2].drop 0).take (Tryz.prog.cellsOf 3))=some x0:=hf 0 _ rfl
 have h1:DataW.trod enc Tryz.prog W base sp held n 3 (([c0,c1,c2].drop 1).take (Tryz.prog.cellsOf 3))=some x1:=hf 1 _ rfl
 have h2:DataW.trod enc Tryz.prog W base sp held n 3 (([c0,c1,c2].drop 2).take (Tryz.prog.cellsOf 3))=some x2:=hf 2 _ rfl
 simp only [Z17c,List.drop_zero,List.drop_succ_cons,List.take_succ_cons,List.take_zero,Z1gq,Z1gr] at h0 h1 h2
 obtain ⟨n0,e0,y0,_⟩:=DataW.trod_int Tryz.underlying3 h0
 obtain ⟨n1,e1,y1,_⟩:=DataW.trod_int Tryz.underlying3 h1
 obtain ⟨n2,e2,y2,_⟩:=DataW.trod_int Tryz.underlying3 h2
 simp only [List.cons.injEq,and_true] at e0 e1 e2
 subst e0 e1 e2 y0 y1 y2
 exact ⟨n0,n1,n2,rfl,rfl⟩
def Z81:Array Value:=#[.int .i64 (-4096),.int .i64 (-4096),.int .i64 (-4096),.int .i64 4096,.int .i64 4096,.int .i64 4096]
theorem Zkr {W:World} (h:laidMet Tryz.prog [("diorama/frustum.world",Rows.laid_diorama_frustum_world)] W):W.var? Tryz.prog "diorama/frustum.world"=some Z81:=by
 obtain ⟨ps,⟨g,t,cs,fuel,p,q,hg,ht,hvar,hd,_,_⟩,_⟩:=h
 obtain rfl:=Option.some.inj (gName.symm.trans hg)
 obtain rfl:=Option.some.inj (gType.symm.trans ht)
 rw [hvar]
 congr 1
 obtain ⟨l⟩:=cs
 obtain ⟨xs,n,rfl,hx,hcl,hxl,hf⟩:=DataW.trod_struct Tryz.underlying75 hd
 rw [Z17b] at hcl
 obtain ⟨c0,c1,c2,c3,c4,c5,rfl⟩:=gl6 (show l.length=6 from hcl)
 obtain ⟨x0,x1,rfl⟩:=gl2 (show xs.length=2 from hxl)
 have h0:DataW.trod (fun _=>()) Tryz.prog W 0 (fun _=>true) false n 27 (([c0,c1,c2,c3,c4,c5].drop 0).take (Tryz.prog.cellsOf 27))=some x0:=hf 0 _ rfl
 have h1:DataW.trod (fun _=>()) Tryz.prog W 0 (fun _=>true) false n 27 (([c0,c1,c2,c3,c4,c5].drop 3).take (Tryz.prog.cellsOf 27))=some x1:=hf 1 _ rfl
 simp only [Zu9,List.drop_zero,List.drop_succ_cons,List.take_succ_cons,List.take_zero,Z1gq,Z1gr] at h0 h1
 obtain ⟨m0,m1,m2,e0,y0⟩:=Zgu h0
 obtain ⟨m3,m4,m5,e1,y1⟩:=Zgu h1
 simp only [Prod.mk.injEq,Rows.laid_diorama_frustum_world,Z1gw,Z1gx,y0,y1,DataW.agg.injEq,List.cons.injEq,DataW.lit.injEq,Lit.int.injEq,and_true,true_and] at hx
 obtain ⟨⟨⟨f0,f1,f2⟩,f3,f4,f5⟩,_⟩:=hx
 simp only [List.cons.injEq,and_true] at e0 e1
 obtain ⟨rfl,rfl,rfl⟩:=e0
 obtain ⟨rfl,rfl,rfl⟩:=e1
 subst f0 f1 f2 f3 f4 f5
 rfl
theorem Zoe {W:World} (h:laidMet Tryz.prog [("diorama/frustum.world",Rows.laid_diorama_frustum_world)] W):Zmp gl0 W:=by
 intro p hp j n hj
 simp only [gl0,List.mem_singleton] at hp
 subst hp
 have:=World.var?_cell gName (Zkr h) j
 rw [this]
 match j,hj with
 | 0,hj=>simp at hj; subst hj; rfl
 | 1,hj=>simp at hj; subst hj; rfl
 | 2,hj=>simp at hj; subst hj; rfl
 | 3,hj=>simp at hj; subst hj; rfl
 | 4,hj=>simp at hj; subst hj; rfl
 | 5,hj=>simp at hj; subst hj; rfl
 | j + 6,hj=>simp at hj
set_option maxRecDepth 100000
noncomputable def Zgv (os:Os):World :=
 { World.holding Tryz.prog os ⟨#[],#[],[]⟩ with heap:=(World.holding Tryz.prog os ⟨#[],#[],[]⟩).heap.modify 0 fun
   | .cells _ t frozen=>.cells Z81 t frozen
   | o=>o }
theorem Zbj (os:Os) (args:Array Value):((Zgv os).forCall (fun _ _=>0) ⟨#[],args,[]⟩).memory.heap[0]?=some (.cells Z81 75 (0,0)):=by kernel_rfl
theorem Zks (os:Os) (args:Array Value):laidMet Tryz.prog [("diorama/frustum.world",Rows.laid_diorama_frustum_world)] ((Zgv os).forCall (fun _ _=>0) ⟨#[],args,[]⟩).memory :=
 ⟨_,⟨0,75,Z81,8,[],[],by kernel_rfl,by kernel_rfl,by kernel_rfl,by kernel_rfl,rfl,rfl⟩,by decide,fun b off h=>by
  have h':MemPlace.cell b off ∈ [MemPlace.cell 0 0,.cell 0 1,.cell 0 2,.cell 0 3,.cell 0 4,.cell 0 5]:=h
  have hb:b=0:=by
   simp at h'
   omega
  subst hb
  refine ⟨⟨_,_,Zbj os args⟩,fun u v hc=>?_⟩
  simp only [World.cell?,Zbj os args] at hc
  simp at h'
  rcases h' with rfl | rfl | rfl | rfl | rfl | rfl <;> simp [Z81] at hc⟩
end Go.Proofs.YtgcoidbaoigkeaaGreatDoor.fix
namespace Go.Proofs.YtgcoidbaoigkeaaGreatDoor.fix
open Go.RowKit Go.Sx
def Zrd:List K:=[.i .i64,.i .i64,.i .i64,.i .i64,.i .i64,.i .i64]
def Bs:Sh:=⟨false,[.s 75 [.i .i64,.i .i64,.i .i64,.i .i64,.i .i64,.i .i64]]⟩
def Is:Sh:=⟨false,[.s 3 [.i .i64]]⟩
noncomputable def co (x:Int) (j:Nat):Int:=(dec x).getD j 0
noncomputable def six6 (b:Int):List Int:=[co b 0,co b 1,co b 2,co b 3,co b 4,co b 5]
noncomputable def okB (b:Int):Bool:=Z33 (six6 b) 0
noncomputable def Zbk (l x:List Int):Int:=if l.length≤256 then (if l.all okB=true then Z2q x else 8) else 4
noncomputable def Zd5 (x:List Int):List Int:=[Zbk (dec (x.getD 0 0)) (x.drop 1)]
def Zd6:List (Option Iv):=[none]++zs 20
def Zj8 (x:List Int):Prop:=Zr Zd6 x∧∀ b ∈ dec (x.getD 0 0),Zc Zrd (dec b)
def Zxy (v:List (Option Iv)):List (Option Iv):=[iv 0 150]
noncomputable def Zej:Sum:=mkP gl0 31 [Bs,An 16,An 4] [I1] Zj8 Zd5
def Zua:Inf:=⟨[some ⟨1,0⟩],Zxy⟩
noncomputable def Z1e5 (b:Int) (x:List Int):List Int:=Z3m (x.take 16++(six6 b++x.drop 16))
noncomputable def Z9r (b:Int) (x:List Int):Bool:=decide ((Z1e5 b x).getD 5 0 ≠ 0)
noncomputable def Z70 (l x:List Int):Nat→List Int
 | 0=>[]
 | i + 1=>if Z9r (l.getD i 0) x=true then Z70 l x i++[(i:Int)] else Z70 l x i
noncomputable def Zre (l x:List Int):List Int:=if Zbk l x=0 then [cod (Z70 l x l.length),0] else [cod [],Zbk l x]
noncomputable def Zub (x:List Int):List Int:=[(Zre (dec (x.getD 0 0)) (x.drop 1)).getD 0 0,(Zre (dec (x.getD 0 0)) (x.drop 1)).getD 1 0]
def Zkt:List (Option Iv):=[none]++zs 20
def Z17d (x:List Int):Prop:=Zr Zkt x∧∀ b ∈ dec (x.getD 0 0),Zc Zrd (dec b)
def Z17e (v:List (Option Iv)):List (Option Iv):=[none,iv 0 150]
noncomputable def Zof:Sum:=mkP gl0 11 [Bs,An 16,An 4] [Is,I1] Z17d Zub
def Z1bp:Inf:=⟨[some ⟨1,0⟩],Z17e⟩
end Go.Proofs.YtgcoidbaoigkeaaGreatDoor.fix
namespace Go.Sx
open Go.RowKit
def Z15y (e:Env) (s:St) (k:Nat):Prop:=(∃ n b,s.mem[n]?=some b∧b.live=true∧s.fl≤n∧e.β.getD n 0=k)∨∃ n b,s.rows[n]?=some b∧b.live=true∧s.flr≤n∧Z8 ((G.o n).val e)=some k
theorem Zku {e:Env} {W0:Bas} {s:St} {w:World} (h:Rep e W0 s w) {k:Nat} (hk:Z15y e s k):W0.may k:=by
 rcases hk with ⟨n,b,h1,h2,h3,rfl⟩ | ⟨n,b,h1,h2,h3,h4⟩
 ·exact h.own n b h1 h2 h3
 ·exact h.rown n b h1 h2 h3 k h4
theorem Z5t {α:Type} {l:List α} (h:l ≠ []):∃ x,l[0]?=some x:=by
 match l,h with
 | x::_,_=>exact ⟨x,rfl⟩
theorem Rep.rebase {e:Env} {W0:Bas} {s:St} {w:World} (h:Rep e W0 s w):Rep e ⟨w,Z15y e s⟩ s w:=by
 refine ⟨Zt.refl _,h.nb,h.ng,h.nv,h.nx,h.blk,?_,h.sep,h.row,?_,h.rsep,h.brs,⟨h.glw,?_⟩,?_⟩
 ·exact fun n b hb hl hf=>.inr (.inl ⟨n,b,hb,hl,hf,rfl⟩)
 ·exact fun n b hb hl hf k hk=>.inr (.inr ⟨n,b,hb,hl,hf,hk⟩)
 ·intro p hp hne hx
  rcases Zku h hx with h1 | h1
  ·obtain ⟨x,hx0⟩:=Z5t hne
   have:=World.block_lt_of_cell? _ _ (h.gl.1 p hp 0 x hx0)
   exact absurd this (Nat.not_lt.2 h1)
  ·exact h.gl.2 p hp hne h1
 ·intro i ks c hi
  refine Z2m.imp (fun ks v c ha hax=>?_) _ _ _ (h.arg i ks c hi)
  refine ⟨Z63.now ha hax h.below,fun hne k hk hx=>?_⟩
  rcases Zku h hx with h1 | h1
  ·rcases ha with ⟨_,h2⟩ | ⟨g,off,cap,h2,_,_,_,h5⟩
   ·rw [h2] at hne
    exact hne rfl
   ·obtain ⟨x,hx0⟩:=Z5t hne
    have:=World.block_lt_of_cell? _ _ (h5 0 x hx0)
    rw [h2] at hk
    simp only [slBlk,Option.some.injEq] at hk
    subst hk
    exact absurd this (Nat.not_lt.2 h1)
  ·exact hax hne k hk h1
def genR (m:Nat) (s:St):St:=match s.rows[m]? with
 | some b=>{ s with rows:=s.rows.set m { b with c:=.v s.nv },nv:=s.nv + 2,dp:=s.dp + 1 }
 | none=>s
theorem Rep.cut {e ex:Env} {W0:Bas} {s sx:St} {w0 wr w':World} {m:Nat} {bm:Row} {X:Nat→Prop} (h0:Rep e W0 s w0) (hsc:s.sc=true) (hle:Env.le e ex) (hb:Zt W0 wr) (hX:∀ k,X k→W0.may k)
  (hx:Rep ex ⟨wr,X⟩ sx w') (hm:s.rows[m]?=some bm) (hl:bm.live=true)
  (hmem:∀ (n:Nat) (b:Blk),s.mem[n]?=some b→b.live=true→∃ c,sx.mem[n]?=some c∧c.live=true∧b.ty=c.ty∧b.cells=c.cells)
  (hrow:∀ (n:Nat) (b:Row),s.rows[n]?=some b→b.live=true→∃ c,sx.rows[n]?=some c∧c.live=true∧b.ty=c.ty∧b.ks=c.ks∧(n=m∨b.c=c.c)) (i:Int) :
  ∃ bx,sx.rows[m]?=some bx∧Rep { e with r:=e.r++[bx.c.den ex.R ex.r,i] } W0 (genR m s) w':=by
 obtain ⟨bx,hbx,hblx,hbt,hbk,_⟩:=hrow m bm hm hl
 refine ⟨bx,hbx,?_⟩
 have hgen:genR m s={ s with rows:=s.rows.set m { bm with c:=.v s.nv },nv:=s.nv + 2,dp:=s.dp + 1 }:=by unfold genR; rw [hm]
 rw [hgen]
 generalize he2:({ e with r:=e.r++[bx.c.den ex.R ex.r,i] }:Env)=e2
 have hle2:Env.le e e2:=by rw [← he2]; exact ⟨[bx.c.den ex.R ex.r,i],[],[],[],rfl,by simp,by simp,by simp,rfl⟩
 have er:e2.r=e.r++[bx.c.den ex.R ex.r,i]:=by rw [← he2]
 have eβ:e2.β=e.β:=by rw [← he2]
 have eσ:e2.σ=e.σ:=by rw [← he2]
 have eω:e2.ω=e.ω:=by rw [← he2]
 have eR:e2.R=e.R:=by rw [← he2]
 have hsc':=hsc
 simp only [St.sc,Z1h3] at hsc'
 obtain ⟨⟨sf,sm⟩,sr,sh⟩:=hsc'
 rw [← h0.nv,← h0.nb,← h0.ng] at sm
 rw [← h0.nv] at sr sh
 have cden:∀ c:SC,c.sc e.r.length e.β.length e.σ.length=true→c.den e2=c.den ex:=fun c hc=>(SC.den_le hle2 c hc).trans (SC.den_le hle c hc).symm
 have eden:∀ c:E,c.sc e.r.length=true→c.den e2.R e2.r=c.den ex.R ex.r:=fun c hc=>by
  have hle':=hle
  obtain ⟨p,_,_,_,q1,_,_,_,q5⟩:=hle'
  rw [er,q1,E.den_app _ _ _ _ hc,E.den_app _ _ _ _ hc]
  exact E.den_R _ _ _ _
 have gval:∀ n,n < s.rows.length→(G.o n).val e2=(G.o n).val e∧(G.o n).val ex=(G.o n).val e:=fun n hn=>by
  have hgs:(G.o n).sc e.r.length e.σ.length=true:=by simp only [G.sc,Z1h4]; rw [h0.ng]; exact hn
  exact ⟨G.val_le hle2 _ hgs,G.val_le hle _ hgs⟩
 have hβ:∀ n,n < s.mem.length→e.β.getD n 0=ex.β.getD n 0:=fun n hn=>by
  obtain ⟨_,p,_,_,_,q2,_⟩:=hle
  rw [q2,Z19 _ _ _ _ (by rw [h0.nb]; exact hn)]
 have hcases:∀ (n:Nat) (b:Row),(s.rows.set m { bm with c:=.v s.nv })[n]?=some b→(n=m∧b={ bm with c:=.v s.nv })∨(n ≠ m∧s.rows[n]?=some b):=fun n b hn=>by
  rcases Z1a hn with ⟨h1,h2,_⟩ | h2
  ·exact .inl ⟨h1,h2⟩
  ·exact .inr h2
 have hmlt:=(List.getElem?_eq_some_iff.1 hm).1
 have hold:∀ (n:Nat) (b:Row),(s.rows.set m { bm with c:=.v s.nv })[n]?=some b→b.live=true→n < s.rows.length∧∃ b0:Row,s.rows[n]?=some b0∧b0.live=true:=fun n b hn hlb=>by
  rcases hcases n b hn with ⟨rfl,rfl⟩ | ⟨_,h2⟩
  ·exact ⟨hmlt,bm,hm,hl⟩
  ·exact ⟨(List.getElem?_eq_some_iff.1 h2).1,b,h2,hlb⟩
 refine ⟨?_,?_,?_,?_,?_,?_,?_,?_,?_,?_,?_,?_,h0.gl,?_⟩
 ·exact hb.trans (c:=⟨wr,X⟩) hx.below (fun k hk=>hk.elim (fun h=>.inl (Nat.le_trans hb.size h)) (hX k))
 ·rw [eβ]; exact h0.nb
 ·rw [eσ,h0.ng]; simp
 ·rw [er]; simp [h0.nv]
 ·rw [eω]; exact h0.nx
 ·intro n b hn hlb
  obtain ⟨c,hc,hlc,hty,hcc⟩:=hmem n b hn hlb
  have hlt:=(List.getElem?_eq_some_iff.1 hn).1
  rw [eβ,hβ n hlt,hty,hcc]
  rw [List.map_congr_left fun z hz=>cden z (List.all_eq_true.1 (List.all_eq_true.1 sm b (List.mem_of_getElem? hn)) z (by rw [hcc]; exact hz))]
  exact hx.blk n c hc hlc
 ·intro n b hn hlb hf
  rw [eβ]
  exact h0.own n b hn hlb hf
 ·intro n k b c hn hk hlb hlc heq
  rw [eβ] at heq
  exact h0.sep n k b c hn hk hlb hlc heq
 ·intro n b hn hlb
  obtain ⟨hlt,b0,hb0,hl0⟩:=hold n b hn hlb
  obtain ⟨c,hc,hlc,hty,hks,hcc⟩:=hrow n b0 hb0 hl0
  have hr:=hx.row n c hc hlc
  rw [(gval n hlt).1,← (gval n hlt).2]
  rcases hcases n b hn with ⟨rfl,rfl⟩ | ⟨hne,h2⟩
  ·rw [hm] at hb0
   simp only [Option.some.injEq] at hb0
   subst hb0
   rw [hbx] at hc
   simp only [Option.some.injEq] at hc
   subst hc
   show Z12 w' bm.ty bm.ks _ ((E.v s.nv).den e2.R e2.r)
   rw [hbt,hbk]
   have:(E.v s.nv).den e2.R e2.r=bx.c.den ex.R ex.r:=by
    simp only [E.den]
    rw [er,← h0.nv]
    simp [List.getD]
   rw [this]
   exact hr
  ·rw [h2] at hb0
   simp only [Option.some.injEq] at hb0
   subst hb0
   rcases hcc with hcc | hcc
   ·exact absurd hcc hne
   rw [hty,hks,hcc,eden c.c (by rw [← hcc]; exact List.all_eq_true.1 sr b (List.mem_of_getElem? h2))]
   exact hr
 ·intro n b hn hlb hf k hk
  obtain ⟨hlt,b0,hb0,hl0⟩:=hold n b hn hlb
  rw [(gval n hlt).1] at hk
  exact h0.rown n b0 hb0 hl0 hf k hk
 ·intro n k b c j hn hk hlb hlc h1 h2
  obtain ⟨hlt,b0,hb0,hl0⟩:=hold n b hn hlb
  obtain ⟨hlt',c0,hc0,hl0'⟩:=hold k c hk hlc
  rw [(gval n hlt).1] at h1
  rw [(gval k hlt').1] at h2
  exact h0.rsep n k b0 c0 j hb0 hc0 hl0 hl0' h1 h2
 ·intro n k b c hn hk hlb hlc
  obtain ⟨hlt',c0,hc0,hl0'⟩:=hold k c hk hlc
  rw [(gval k hlt').1,eβ]
  exact h0.brs n k b c0 hn hc0 hlb hl0'
 ·intro j ks c hj
  show SlX W0 ks ((G.a j).val e2) (c.den e2.R e2.r)
  have h1:=h0.arg j ks c hj
  have h2:c.den e2.R e2.r=c.den e.R e.r:=by
   rw [er,E.den_app _ _ _ _ (List.all_eq_true.1 sh (ks,c) (List.mem_of_getElem? hj))]
   exact E.den_R _ _ _ _
  rw [h2,show (G.a j).val e2=(G.a j).val e by simp only [G.val,eR]]
  exact h1
end Go.Sx
namespace Go.Sx
open Go.RowKit
theorem Rep.rowTo {e:Env} {W0:Bas} {s:St} {w w':World} {n:Nat} {b:Row} {row:Option Nat} {x:Int} (h:Rep e W0 s w) (hsc:s.sc=true) (hb:s.rows[n]?=some b) (hl:b.live=true) (hf:s.flr≤n) (hg:w.grownBy w' row)
  (hr:∀ k,row=some k→Z8 ((G.o n).val e)=some k) (hrow:Z12 w' b.ty b.ks ((G.o n).val e) x) :
  Rep { e with r:=e.r++[x] } W0 { s with rows:=s.rows.set n { b with c:=.v s.nv },nv:=s.nv + 1 } w':=by
 obtain ⟨hv,_,hle⟩:=h.vars hsc [x]
 have hx:(E.v s.nv).den e.R (e.r++[x])=x:=by
  simp only [E.den]
  rw [← h.nv]
  simp [List.getD]
 refine ⟨h.below.grown hg (fun k hk=>h.rown n b hb hl hf k (hr k hk)),hv.nb,by simpa using hv.ng,hv.nv,hv.nx,?_,hv.own,hv.sep,?_,?_,?_,?_,hv.gl,hv.arg⟩
 ·intro m c hm hlm
  have h1:=hv.blk m c hm hlm
  rw [hg.block _ (Z1r h1) (fun hk=>h.brs m n c b hm hb hlm hl (hr _ hk.symm))]
  exact h1
 ·intro m c hm hlm
  rcases Z1a hm with ⟨rfl,rfl,_⟩ | ⟨hne,hm'⟩
  ·show Z12 w' b.ty b.ks _ ((E.v s.nv).den e.R (e.r++[x]))
   rw [hx]
   exact hrow
  ·exact (hv.row m c hm' hlm).kept hg (fun k hk hk'=>hne (h.rsep m n c b k hm' hb hlm hl hk (hr k hk')))
 ·intro m c hm hlm hfm k hk
  rcases Z1a hm with ⟨rfl,rfl,_⟩ | ⟨hne,hm'⟩
  ·exact h.rown m b hb hl hf k hk
  ·exact h.rown m c hm' hlm hfm k hk
 ·intro m j c d k hm hj hlm hlj h1 h2
  have hold:∀ (i:Nat) (z:Row),(s.rows.set n { b with c:=.v s.nv })[i]?=some z→z.live=true→∃ z0:Row,s.rows[i]?=some z0∧z0.live=true:=fun i z hi hz=>by
   rcases Z1a hi with ⟨rfl,rfl,_⟩ | ⟨_,hi'⟩
   ·exact ⟨b,hb,hl⟩
   ·exact ⟨z,hi',hz⟩
  obtain ⟨c0,hc0,hl0⟩:=hold m c hm hlm
  obtain ⟨d0,hd0,hd1⟩:=hold j d hj hlj
  exact h.rsep m j c0 d0 k hc0 hd0 hl0 hd1 h1 h2
 ·intro m j c d hm hj hlm hlj
  rcases Z1a hj with ⟨rfl,rfl,_⟩ | ⟨_,hj'⟩
  ·exact h.brs m j c b hm hb hlm hl
  ·exact h.brs m j c d hm hj' hlm hlj
end Go.Sx
namespace Go.Sx
open Go.RowKit
def seqs:List Code→Code
 | []=>.skip
 | y::r=>.seq y (seqs r)
theorem Z12.len {w:World} {ty:TypeId} {ks:List K} {a:Option Addr} {l cap:Nat} {c:Int} (h:Z12 w ty ks (.slice a l cap) c):(dec c).length=l:=by
 rcases h with ⟨h1,b,h2⟩ | ⟨h0,h1,h2⟩
 ·simp only [Value.slice.injEq] at h2; rw [h1,h2.2.1]; rfl
 ·rcases h2.2 with ⟨hv,hn⟩ | ⟨g,cap,cur,hv,_⟩
  ·simp only [Value.slice.injEq] at hv; rw [hn,hv.2.1]
  ·simp only [Value.slice.injEq] at hv; exact hv.2.1.symm
section
variable {P:Program} {Γ:List Sum} {Ψ:List Int→Prop} {bs:List (List Int→Prop)}
def Z1bq (P:Program):List Code→(Exit→Act→World→Prop)→Exit→Act→World→Prop
 | [],Q=>Q
 | y::r,Q=>Exit.then (y.wp P (Z1bq P r Q)) (Z1bq P r Q)
theorem Zek {Q:Exit→Act→World→Prop} {x:Exit} (hx:x ≠ .normal) {a:Act} {w:World} (h:Q x a w):∀ l:List Code,Z1bq P l Q x a w
 | []=>h
 | y::r=>by
  have ih:=Zek hx h r
  cases x <;> first | exact absurd rfl hx | exact ih
theorem Zrf {Q:Exit→Act→World→Prop}:∀ (l:List Code) {a:Act} {w:World},wps P (seqs l) Q a w→Z1bq P l Q .normal a w
 | [],a,w,h=>h
 | y::r,a,w,h=>by
  show y.wp P (Z1bq P r Q) a w
  refine Zij y (Z20 y h ?_)
  intro x a' w' hx
  cases x with
  | normal=>exact Zrf r hx
  | _=>exact Zek (Q:=Q) (by intro h; cases h) hx r
def RgR (Ψ:List Int→Prop) (w0:World) (rs:List Sh):Ending→World→Prop:=fun x w'=>∃ ys v,x=.returned v∧Ψ ys∧Zar (fun k=>w0.heap.size≤k) w' rs v ys∧Below w0.heap.size w0 w'
theorem Z11n {w0:World} (k:Nat) (h:(Bas.mk w0 (fun _=>False)).may k):w0.heap.size≤k:=h.elim id (fun hh=>hh.elim)
end
end Go.Sx
namespace Go.Proofs.YtgcoidbaoigkeaaGreatDoor.fix
open Go.RowKit Go.Sx
end Go.Proofs.YtgcoidbaoigkeaaGreatDoor.fix
namespace Go.Proofs.YtgcoidbaoigkeaaGreatDoor.fix
open Go.RowKit Go.Sx
end Go.Proofs.YtgcoidbaoigkeaaGreatDoor.fix
namespace Go.Proofs.YtgcoidbaoigkeaaGreatDoor.fix
open Go.RowKit Go.Sx
noncomputable def lkN (t x:List Int):Nat→Nat→Int
 | 0,_=>0
 | f + 1,i=>if Z9r (t.getD i 0) x=true∧0≤co (t.getD i 0) 6 then 1 + (lkN t x f (co (t.getD i 0) 6).toNat + lkN t x f (co (t.getD i 0) 7).toNat) else 1
noncomputable def Za8 (a b:List Int):Bool:=decide (a=b)
end Go.Proofs.YtgcoidbaoigkeaaGreatDoor.fix
namespace Go.Proofs.YtgcoidbaoigkeaaGreatDoor.fix
open Go.RowKit Go.Sx
theorem noG:Gok Tryz.prog []:=by intro s h; cases h
theorem one {s:Sum} (h:s.ok Tryz.prog) (hm:s.m=none:=by rfl):Gok Tryz.prog [s]:=by
 intro x hx
 simp only [List.mem_singleton] at hx
 subst hx
 exact h.A hm
theorem more {s:Sum} {G:List Sum} (h:s.ok Tryz.prog) (hG:Gok Tryz.prog G) (hm:s.m=none:=by rfl):Gok Tryz.prog (s::G):=by
 intro x hx
 rcases List.mem_cons.1 hx with rfl | hx
 ·exact h.A hm
 ·exact hG x hx
theorem Zxz (b:Bool) {e:Int} (h:0≤e):Zh (iv 0 e) (er b e):=by
 unfold er
 split <;> exact ⟨by first | exact h | exact Int.le_refl _,by first | exact h | exact Int.le_refl _⟩
theorem Zdt (b:Bool):Zh (iv 0 1) (b01 b):=by
 unfold b01
 split <;> exact ⟨by decide,by decide⟩
theorem Zrg (b:Bool) {e:Int} (h:e ≠ 0):er b e=0↔b=true:=by
 unfold er
 cases b <;> simp [h]
theorem Z7 {a b n:Int}:Zh (iv a b) n↔a≤n∧n≤b:=Iff.rfl
theorem Z11o {v:Option Iv} {a b:Int} (hb:1≤b) (h:Zh v a):Zh (Z174 v) (a / b):=by
 cases v with
 | none=>trivial
 | some v =>
  obtain ⟨h1,h2⟩:=h
  have:=Z5m (a:=a) (b:=b) (l:=min v.lo 0) (h:=max v.hi 0) (by omega) (by omega) (by omega) (by omega) (by omega)
  exact this
theorem Z17f {v:Option Iv} {a b:Int} (hb:1≤b) (h:Zh v a):Zh (Z174 v) (up a b):=by
 cases v with
 | none=>trivial
 | some v =>
  obtain ⟨h1,h2⟩:=h
  have:=Zea (a:=a) (b:=b) (l:=min v.lo 0) (h:=max v.hi 0) (by omega) (by omega) (by omega) (by omega) (by omega)
  exact this
theorem Zgw {v:Option Iv} {a k:Int} (hk:0 < k) (h:Zh v a):Zh (Z177 k v) (a / k):=by
 cases v with
 | none=>trivial
 | some v=>exact ⟨Ztx hk h.1,Ztx hk h.2⟩
theorem Zgx {vs:List (Option Iv)} {xs:List Int} (h:Zr vs xs) (o p:Nat):Zh (Z176 vs o p) (dot xs o p) :=
 Zgf (Zgf (Zba (h.2 o) (h.2 p)) (Zba (h.2 (o + 1)) (h.2 (p + 1)))) (Zba (h.2 (o + 2)) (h.2 (p + 2)))
theorem Zd {p:Prop} [Decidable p]:decide p=true↔p:=decide_eq_true_iff
theorem Zdu {xs:List Int} (h:xs.length=2):∃ a0 a1,xs=[a0,a1]:=by
 match xs,h with
 | [a0,a1],_=>exact ⟨a0,a1,rfl⟩
theorem len3 {xs:List Int} (h:xs.length=3):∃ a0 a1 a2,xs=[a0,a1,a2]:=by
 match xs,h with
 | [a0,a1,a2],_=>exact ⟨a0,a1,a2,rfl⟩
theorem len4 {xs:List Int} (h:xs.length=4):∃ a0 a1 a2 a3,xs=[a0,a1,a2,a3]:=by
 match xs,h with
 | [a0,a1,a2,a3],_=>exact ⟨a0,a1,a2,a3,rfl⟩
theorem len5 {xs:List Int} (h:xs.length=5):∃ a0 a1 a2 a3 a4,xs=[a0,a1,a2,a3,a4]:=by
 match xs,h with
 | [a0,a1,a2,a3,a4],_=>exact ⟨a0,a1,a2,a3,a4,rfl⟩
theorem len6 {xs:List Int} (h:xs.length=6):∃ a0 a1 a2 a3 a4 a5,xs=[a0,a1,a2,a3,a4,a5]:=by
 match xs,h with
 | [a0,a1,a2,a3,a4,a5],_=>exact ⟨a0,a1,a2,a3,a4,a5,rfl⟩
theorem len9 {xs:List Int} (h:xs.length=9):∃ a0 a1 a2 a3 a4 a5 a6 a7 a8,xs=[a0,a1,a2,a3,a4,a5,a6,a7,a8]:=by
 match xs,h with
 | [a0,a1,a2,a3,a4,a5,a6,a7,a8],_=>exact ⟨a0,a1,a2,a3,a4,a5,a6,a7,a8,rfl⟩
theorem len10 {xs:List Int} (h:xs.length=10):∃ a0 a1 a2 a3 a4 a5 a6 a7 a8 a9,xs=[a0,a1,a2,a3,a4,a5,a6,a7,a8,a9]:=by
 match xs,h with
 | [a0,a1,a2,a3,a4,a5,a6,a7,a8,a9],_=>exact ⟨a0,a1,a2,a3,a4,a5,a6,a7,a8,a9,rfl⟩
theorem Z17g {xs:List Int} (h:xs.length=12):∃ a0 a1 a2 a3 a4 a5 a6 a7 a8 a9 a10 a11,xs=[a0,a1,a2,a3,a4,a5,a6,a7,a8,a9,a10,a11]:=by
 match xs,h with
 | [a0,a1,a2,a3,a4,a5,a6,a7,a8,a9,a10,a11],_=>exact ⟨a0,a1,a2,a3,a4,a5,a6,a7,a8,a9,a10,a11,rfl⟩
theorem Z17h {xs:List Int} (h:xs.length=15):∃ a0 a1 a2 a3 a4 a5 a6 a7 a8 a9 a10 a11 a12 a13 a14,xs=[a0,a1,a2,a3,a4,a5,a6,a7,a8,a9,a10,a11,a12,a13,a14]:=by
 match xs,h with
 | [a0,a1,a2,a3,a4,a5,a6,a7,a8,a9,a10,a11,a12,a13,a14],_=>exact ⟨a0,a1,a2,a3,a4,a5,a6,a7,a8,a9,a10,a11,a12,a13,a14,rfl⟩
theorem Z17i {xs:List Int} (h:xs.length=16):∃ a0 a1 a2 a3 a4 a5 a6 a7 a8 a9 a10 a11 a12 a13 a14 a15,xs=[a0,a1,a2,a3,a4,a5,a6,a7,a8,a9,a10,a11,a12,a13,a14,a15]:=by
 match xs,h with
 | [a0,a1,a2,a3,a4,a5,a6,a7,a8,a9,a10,a11,a12,a13,a14,a15],_=>exact ⟨a0,a1,a2,a3,a4,a5,a6,a7,a8,a9,a10,a11,a12,a13,a14,a15,rfl⟩
theorem Z1e6 {xs:List Int} (h:xs.length=17):∃ a0 a1 a2 a3 a4 a5 a6 a7 a8 a9 a10 a11 a12 a13 a14 a15 a16,xs=[a0,a1,a2,a3,a4,a5,a6,a7,a8,a9,a10,a11,a12,a13,a14,a15,a16]:=by
 match xs,h with
 | [a0,a1,a2,a3,a4,a5,a6,a7,a8,a9,a10,a11,a12,a13,a14,a15,a16],_=>exact ⟨a0,a1,a2,a3,a4,a5,a6,a7,a8,a9,a10,a11,a12,a13,a14,a15,a16,rfl⟩
theorem len19 {xs:List Int} (h:xs.length=19):∃ a0 a1 a2 a3 a4 a5 a6 a7 a8 a9 a10 a11 a12 a13 a14 a15 a16 a17 a18,xs=[a0,a1,a2,a3,a4,a5,a6,a7,a8,a9,a10,a11,a12,a13,a14,a15,a16,a17,a18]:=by
 match xs,h with
 | [a0,a1,a2,a3,a4,a5,a6,a7,a8,a9,a10,a11,a12,a13,a14,a15,a16,a17,a18],_=>exact ⟨a0,a1,a2,a3,a4,a5,a6,a7,a8,a9,a10,a11,a12,a13,a14,a15,a16,a17,a18,rfl⟩
theorem Z1e7 {xs:List Int} (h:xs.length=20):∃ a0 a1 a2 a3 a4 a5 a6 a7 a8 a9 a10 a11 a12 a13 a14 a15 a16 a17 a18 a19,xs=[a0,a1,a2,a3,a4,a5,a6,a7,a8,a9,a10,a11,a12,a13,a14,a15,a16,a17,a18,a19]:=by
 match xs,h with
 | [a0,a1,a2,a3,a4,a5,a6,a7,a8,a9,a10,a11,a12,a13,a14,a15,a16,a17,a18,a19],_=>exact ⟨a0,a1,a2,a3,a4,a5,a6,a7,a8,a9,a10,a11,a12,a13,a14,a15,a16,a17,a18,a19,rfl⟩
theorem len21 {xs:List Int} (h:xs.length=21):∃ a0 a1 a2 a3 a4 a5 a6 a7 a8 a9 a10 a11 a12 a13 a14 a15 a16 a17 a18 a19 a20,xs=[a0,a1,a2,a3,a4,a5,a6,a7,a8,a9,a10,a11,a12,a13,a14,a15,a16,a17,a18,a19,a20]:=by
 match xs,h with
 | [a0,a1,a2,a3,a4,a5,a6,a7,a8,a9,a10,a11,a12,a13,a14,a15,a16,a17,a18,a19,a20],_=>exact ⟨a0,a1,a2,a3,a4,a5,a6,a7,a8,a9,a10,a11,a12,a13,a14,a15,a16,a17,a18,a19,a20,rfl⟩
theorem len24 {xs:List Int} (h:xs.length=24):∃ a0 a1 a2 a3 a4 a5 a6 a7 a8 a9 a10 a11 a12 a13 a14 a15 a16 a17 a18 a19 a20 a21 a22 a23,xs=[a0,a1,a2,a3,a4,a5,a6,a7,a8,a9,a10,a11,a12,a13,a14,a15,a16,a17,a18,a19,a20,a21,a22,a23]:=by
 match xs,h with
 | [a0,a1,a2,a3,a4,a5,a6,a7,a8,a9,a10,a11,a12,a13,a14,a15,a16,a17,a18,a19,a20,a21,a22,a23],_=>exact ⟨a0,a1,a2,a3,a4,a5,a6,a7,a8,a9,a10,a11,a12,a13,a14,a15,a16,a17,a18,a19,a20,a21,a22,a23,rfl⟩
theorem len7 {xs:List Int} (h:xs.length=7):∃ a0 a1 a2 a3 a4 a5 a6,xs=[a0,a1,a2,a3,a4,a5,a6]:=by
 match xs,h with
 | [a0,a1,a2,a3,a4,a5,a6],_=>exact ⟨a0,a1,a2,a3,a4,a5,a6,rfl⟩
theorem len8 {xs:List Int} (h:xs.length=8):∃ a0 a1 a2 a3 a4 a5 a6 a7,xs=[a0,a1,a2,a3,a4,a5,a6,a7]:=by
 match xs,h with
 | [a0,a1,a2,a3,a4,a5,a6,a7],_=>exact ⟨a0,a1,a2,a3,a4,a5,a6,a7,rfl⟩
theorem len11 {xs:List Int} (h:xs.length=11):∃ a0 a1 a2 a3 a4 a5 a6 a7 a8 a9 a10,xs=[a0,a1,a2,a3,a4,a5,a6,a7,a8,a9,a10]:=by
 match xs,h with
 | [a0,a1,a2,a3,a4,a5,a6,a7,a8,a9,a10],_=>exact ⟨a0,a1,a2,a3,a4,a5,a6,a7,a8,a9,a10,rfl⟩
theorem len22 {xs:List Int} (h:xs.length=22):∃ a0 a1 a2 a3 a4 a5 a6 a7 a8 a9 a10 a11 a12 a13 a14 a15 a16 a17 a18 a19 a20 a21,xs=[a0,a1,a2,a3,a4,a5,a6,a7,a8,a9,a10,a11,a12,a13,a14,a15,a16,a17,a18,a19,a20,a21]:=by
 match xs,h with
 | [a0,a1,a2,a3,a4,a5,a6,a7,a8,a9,a10,a11,a12,a13,a14,a15,a16,a17,a18,a19,a20,a21],_=>exact ⟨a0,a1,a2,a3,a4,a5,a6,a7,a8,a9,a10,a11,a12,a13,a14,a15,a16,a17,a18,a19,a20,a21,rfl⟩
theorem len26 {xs:List Int} (h:xs.length=26):∃ a0 a1 a2 a3 a4 a5 a6 a7 a8 a9 a10 a11 a12 a13 a14 a15 a16 a17 a18 a19 a20 a21 a22 a23 a24 a25,xs=[a0,a1,a2,a3,a4,a5,a6,a7,a8,a9,a10,a11,a12,a13,a14,a15,a16,a17,a18,a19,a20,a21,a22,a23,a24,a25]:=by
 match xs,h with
 | [a0,a1,a2,a3,a4,a5,a6,a7,a8,a9,a10,a11,a12,a13,a14,a15,a16,a17,a18,a19,a20,a21,a22,a23,a24,a25],_=>exact ⟨a0,a1,a2,a3,a4,a5,a6,a7,a8,a9,a10,a11,a12,a13,a14,a15,a16,a17,a18,a19,a20,a21,a22,a23,a24,a25,rfl⟩
noncomputable def Zrh:List Sum:=[]
def Z11p:List Inf:=[]
def Z11q:TX:=(.ite (.lt (.rem (.v 0) (.v 1)) (.c 0)) (.ret [(.wr .i64 (.sub (.quo (.v 0) (.v 1)) (.c 1))),(.c 0)])
(.ret [(.quo (.v 0) (.v 1)),(.c 0)]))
theorem Zy0:Z13 (Zs [] Z11p [] Zgk (Zn Tryz.prog Z78 gl0 Zrh 1000 96 [I1,I1] [I1,I1]))=Z11q:=by kernel_rfl
theorem Z1e8:Gok Tryz.prog Zrh:=noG
theorem Z1e9:Zi Zrh Z11p:=Z6
noncomputable def Z11r:List Sum:=[]
def Z1br:List Inf:=[]
def Z1bs:TX:=(.ite (.lt (.c 0) (.rem (.v 0) (.v 1))) (.ret [(.wr .i64 (.add (.quo (.v 0) (.v 1)) (.c 1))),(.c 0)])
(.ret [(.quo (.v 0) (.v 1)),(.c 0)]))
theorem Z11s:Z13 (Zs [] Z1br [] Zkn (Zn Tryz.prog Z78 gl0 Z11r 1000 130 [I1,I1] [I1,I1]))=Z1bs:=by kernel_rfl
theorem g_ceil:Gok Tryz.prog Z11r:=noG
theorem o_ceil:Zi Z11r Z1br:=Z6
theorem in2 {a b:Int} (h:Zr [zz,pos] [a,b]):Z16v a∧1≤b∧b≤9223372036854775807:=⟨h.2 0,h.2 1⟩
theorem Z6m:Z1m.ok Tryz.prog:=Sum.okF facts.mixed Z1e8 Z1e9 Zy0 rfl (fun _=>rfl) (by
 intro xs hx hp
 obtain ⟨a,b,rfl⟩:=Zdu hx
 obtain ⟨ha,hb,hb'⟩:=in2 hp
 simp only [Z11q,TX.sat,XB.prop,X.den,Z1gw,Z1gx,Z1gq,Z1gr,Z1gu,Z1gv,Z1gs,Z1gt,mkS,mkP,and_true,true_and,Z1h1,Z1h2,not_or,not_and,Z1gy,ne_eq,Z1gz,Z1h0,Z1d]
 have hd:=Z5m (a:=a) (b:=b) (l:=-9223372036854775808) (h:=9223372036854775807) (by omega) (by omega) (by omega) ha.1 ha.2
 refine ⟨fun h=>?_,fun h=>?_⟩
 ·rw [Z111 (by omega) h,Zo hd.1 hd.2]
 ·rw [Zgc (by omega) h])
theorem Z4u:Z18 Z1m Z7y:=⟨fun _ h=>h,fun vs xs h hp=>Z1 (Z11o (hp.2 1).1 (h.2 0)) (Z1 ⟨Int.le_refl _,Int.le_refl _⟩ Z2)⟩
theorem Z1ea:Zu2.ok Tryz.prog:=Sum.okF facts.mixed g_ceil o_ceil Z11s rfl (fun _=>rfl) (by
 intro xs hx hp
 obtain ⟨a,b,rfl⟩:=Zdu hx
 obtain ⟨ha,hb,hb'⟩:=in2 hp
 simp only [Z1bs,TX.sat,XB.prop,X.den,Z1gw,Z1gx,Z1gq,Z1gr,Z1gu,Z1gv,Z1gs,Z1gt,mkS,mkP,and_true,true_and,Z1h1,Z1h2,not_or,not_and,Z1gy,ne_eq,Z1gz,Z1h0,Zko]
 have hd:=Zea (a:=a) (b:=b) (l:=-9223372036854775808) (h:=9223372036854775807) (by omega) (by omega) (by omega) ha.1 ha.2
 refine ⟨fun h=>?_,fun h=>?_⟩
 ·rw [up_pos (by omega) h,Zo hd.1 hd.2]
 ·rw [Z1bj (by omega) h])
theorem Z17j:Z18 Zu2 Z1bm:=⟨fun _ h=>h,fun vs xs h hp=>Z1 (Z17f (hp.2 1).1 (h.2 0)) (Z1 ⟨Int.le_refl _,Int.le_refl _⟩ Z2)⟩
theorem Zg {m:Int} {x:List Int} {o:Nat}:Zj6 m x o=true↔((-m≤x.getD o 0∧x.getD o 0≤m)∧(-m≤x.getD (o + 1) 0∧x.getD (o + 1) 0≤m)∧(-m≤x.getD (o + 2) 0∧x.getD (o + 2) 0≤m)):=decide_eq_true_iff
noncomputable def Zkv:List Sum:=[]
def Zuc:List Inf:=[]
def Zud:TX:=(.ite (.or (.or (.lt (.v 0) (.c (-4096))) (.lt (.c 4096) (.v 0))) (.or (.or (.lt (.v 1) (.c (-4096))) (.lt (.c 4096) (.v 1))) (.or (.lt (.v 2) (.c (-4096))) (.lt (.c 4096) (.v 2))))) (.ret [(.c 20)])
(.ret [(.c 0)]))
theorem Zri:Z13 (Zs [] Zuc [] Zcy (Zn Tryz.prog Z78 gl0 Zkv 1000 52 [An 3] [I1]))=Zud:=by kernel_rfl
theorem Z17k:Gok Tryz.prog Zkv:=noG
theorem Z17l:Zi Zkv Zuc:=Z6
theorem Z11t:Zec.ok Tryz.prog:=Sum.okF facts.mixed Z17k Z17l Zri rfl (fun _=>rfl) (by
 intro xs hx hp
 obtain ⟨a0,a1,a2,rfl⟩:=len3 hx
 simp only [Zud,TX.sat,XB.prop,X.den,Z1gw,Z1gx,Z1gq,Z1gr,Z1gu,Z1gv,Z1gs,Z1gt,mkS,mkP,and_true,true_and,Z1h1,Z1h2,not_or,not_and,Z1gy,ne_eq,Z1gz,Z1h0,Zcx,er,Zg]
 repeat' first | refine And.intro ?_ ?_ | intro _
 all_goals first | rfl | (split <;> first | rfl | omega))
theorem Zy1:Z18 Zec Zu3:=⟨fun _ h=>h,fun vs xs h hp=>Z1 (Zxz _ (by omega)) Z2⟩
noncomputable def Zkw:List Sum:=[Z1m]
def Z11u:List Inf:=[Z7y]
def Z11v:TX:=(.callp 0 [(.add (.add (.add (.c 0) (.mul (.v 0) (.v 9))) (.mul (.v 1) (.v 10))) (.mul (.v 2) (.v 11))),(.c 256)] (.callp 0 [(.add (.add (.add (.c 0) (.mul (.v 3) (.v 9))) (.mul (.v 4) (.v 10))) (.mul (.v 5) (.v 11))),(.c 256)] (.callp 0 [(.add (.add (.add (.c 0) (.mul (.v 6) (.v 9))) (.mul (.v 7) (.v 10))) (.mul (.v 8) (.v 11))),(.c 256)] (.ret [(.v 12),(.v 14),(.v 16)]))))
theorem Zy2:Z13 (Zs [] Z11u [] Zgq (Zn Tryz.prog Z78 gl0 Zkw 1000 193 [An 9,An 3] [An 3]))=Z11v:=by kernel_rfl
theorem Z1eb:Gok Tryz.prog Zkw:=(fix.one Z6m)
theorem Z1ec:Zi Zkw Z11u:=(Z3 Z4u Z6)
theorem Z17m:Zcz.ok Tryz.prog:=Sum.okF facts.mixed Z1eb Z1ec Zy2 rfl (fun _=>rfl) (by
 intro xs hx hp
 obtain ⟨a0,a1,a2,a3,a4,a5,a6,a7,a8,a9,a10,a11,rfl⟩:=Z17g hx
 simp only [Z11v,Zkw,Z1m,TX.sat,XB.prop,X.den,Z1gw,Z1gx,Z1gq,Z1gr,Z1gu,Z1gv,Z1gs,Z1gt,mkS,mkP,and_true,true_and,Z1h1,Z1h2,not_or,not_and,Z1gy,ne_eq,Z1gz,Z1h0,Z7z,Z1d,dot,Nat.reduceAdd,Int.zero_add])
theorem Z11w:Z18 Zcz Z11h:=⟨fun _ h=>h,fun vs xs h hp=>Z1 (Zgw (by omega) (Zgx h 0 9)) (Z1 (Zgw (by omega) (Zgx h 3 9)) (Z1 (Zgw (by omega) (Zgx h 6 9)) Z2))⟩
end Go.Proofs.YtgcoidbaoigkeaaGreatDoor.fix
namespace Go.Proofs.YtgcoidbaoigkeaaGreatDoor.fix
open Go.RowKit Go.Sx
theorem Z4v {x:List Int} {o:Nat}:Zie x o=true↔(((-32768≤x.getD o 0∧x.getD o 0≤32768)∧(-32768≤x.getD (o + 1) 0∧x.getD (o + 1) 0≤32768)∧(-32768≤x.getD (o + 2) 0∧x.getD (o + 2) 0≤32768)) ∧
  ((-32768≤x.getD (o + 3) 0∧x.getD (o + 3) 0≤32768)∧(-32768≤x.getD (o + 4) 0∧x.getD (o + 4) 0≤32768)∧(-32768≤x.getD (o + 5) 0∧x.getD (o + 5) 0≤32768)) ∧
  (x.getD o 0≤x.getD (o + 3) 0∧x.getD (o + 1) 0≤x.getD (o + 4) 0∧x.getD (o + 2) 0≤x.getD (o + 5) 0)):=by
 simp only [Zie,Z1h3,Zg,Zd,Nat.add_assoc,Nat.reduceAdd]
theorem Z14 (xs:List Int) (h:Zr [some ⟨1,0⟩] xs):False:=by
 have h1:1≤xs.getD 0 0∧xs.getD 0 0≤0:=h.2 0
 omega
noncomputable def Zgy:List Sum:=[]
def Zog:List Inf:=[]
def Zoh:TX:=(.ite (.or (.or (.lt (.v 0) (.c (-1099511627776))) (.lt (.c 1099511627776) (.v 1))) (.lt (.v 1) (.v 0))) (.ret [(.c 0),(.c 0),(.c 8)])
(.ite (.lt (.v 2) (.c 0)) (.ite (.or (.or (.lt (.mul (.v 2) (.v 1)) (.c (-1099511627776))) (.lt (.c 1099511627776) (.mul (.v 2) (.v 0)))) (.lt (.mul (.v 2) (.v 0)) (.mul (.v 2) (.v 1)))) (.ret [(.c 0),(.c 0),(.c 20)])
(.ret [(.mul (.v 2) (.v 1)),(.mul (.v 2) (.v 0)),(.c 0)]))
(.ite (.or (.or (.lt (.mul (.v 2) (.v 0)) (.c (-1099511627776))) (.lt (.c 1099511627776) (.mul (.v 2) (.v 1)))) (.lt (.mul (.v 2) (.v 1)) (.mul (.v 2) (.v 0)))) (.ret [(.c 0),(.c 0),(.c 20)])
(.ret [(.mul (.v 2) (.v 0)),(.mul (.v 2) (.v 1)),(.c 0)]))))
theorem Zoi:Z13 (Zs [] Zog [] Zab (Zn Tryz.prog Z78 gl0 Zgy 1000 127 [An 2,I1] [An 2,I1]))=Zoh:=by kernel_rfl
theorem Z11x:Gok Tryz.prog Zgy:=noG
theorem Z11y:Zi Zgy Zog:=Z6
theorem Zy3:Zbd.ok Tryz.prog:=Sum.okPF (pin:=Zab) facts.mixed Z11x Z11y Zoi rfl (fun _=>rfl) (fun xs h=>h.1) (by
 intro xs hx hp
 obtain ⟨a0,a1,a2,rfl⟩:=len3 hx
 obtain ⟨hp,hl⟩:=hp
 have k0:-32768≤a0∧a0≤32768:=hp.2 0
 have k1:-32768≤a1∧a1≤32768:=hp.2 1
 have k2:-1024≤a2∧a2≤1024:=hp.2 2
 have hl:a0≤a1:=hl
 have m0:=Z17 (x:=a2) (y:=a0) k2 k0
 have m1:=Z17 (x:=a2) (y:=a1) k2 k1
 have n0:a2 < 0→a2 * a1≤a2 * a0:=fun h=>Int.mul_le_mul_of_nonpos_left (by omega) hl
 have n1:0≤a2→a2 * a0≤a2 * a1:=fun h=>Int.mul_le_mul_of_nonneg_left hl h
 simp only [Zoh,TX.sat,XB.prop,X.den,Z1gw,Z1gx,Z1gq,Z1gr,Z1gu,Z1gv,Z1gs,Z1gt,mkS,mkP,and_true,true_and,Z1h1,Z1h2,not_or,not_and,Z1gy,ne_eq,Z1gz,Z1h0,Zac,scB]
 clear hx hp
 generalize a2 * a0=p at *
 generalize a2 * a1=q at *
 refine ⟨fun h=>absurd h (by omega),fun _=>⟨fun h=>⟨fun h'=>absurd h' (by omega),fun _=>?_⟩,fun h=>⟨fun h'=>absurd h' (by omega),fun _=>?_⟩⟩⟩
 ·have:=n0 h
  rw [Int.min_eq_right this,Int.max_eq_left this]
 ·have:=n1 (by omega)
  rw [Int.min_eq_left this,Int.max_eq_right this])
theorem Zrj:Z18 Zbd Zoa:=⟨fun xs h=>(Z14 xs h).elim,fun vs xs h hp=>by
  have k0:-32768≤xs.getD 0 0∧xs.getD 0 0≤32768:=hp.1.2 0
  have k1:-32768≤xs.getD 1 0∧xs.getD 1 0≤32768:=hp.1.2 1
  have k2:-1024≤xs.getD 2 0∧xs.getD 2 0≤1024:=hp.1.2 2
  have m0:=Z17 (x:=xs.getD 2 0) (y:=xs.getD 0 0) k2 k0
  have m1:=Z17 (x:=xs.getD 2 0) (y:=xs.getD 1 0) k2 k1
  exact Z1 (Z7.2 (by omega)) (Z1 (Z7.2 (by omega)) (Z1 (Z7.2 (by omega)) Z2))⟩
noncomputable def Zrk:List Sum:=[]
def Z11z:List Inf:=[]
def Z120:TX:=(.ite (.or (.or (.or (.lt (.v 0) (.c (-1099511627776))) (.lt (.c 1099511627776) (.v 1))) (.lt (.v 1) (.v 0))) (.or (.or (.lt (.v 2) (.c (-1099511627776))) (.lt (.c 1099511627776) (.v 3))) (.lt (.v 3) (.v 2)))) (.ret [(.c 0),(.c 0),(.c 8)])
(.ite (.or (.or (.lt (.add (.v 0) (.v 2)) (.c (-1099511627776))) (.lt (.c 1099511627776) (.add (.v 1) (.v 3)))) (.lt (.add (.v 1) (.v 3)) (.add (.v 0) (.v 2)))) (.ret [(.c 0),(.c 0),(.c 20)])
(.ret [(.add (.v 0) (.v 2)),(.add (.v 1) (.v 3)),(.c 0)])))
theorem Zy4:Z13 (Zs [] Z11z [] Zgm (Zn Tryz.prog Z78 gl0 Zrk 1000 128 [An 2,An 2] [An 2,I1]))=Z120:=by kernel_rfl
theorem Z1ed:Gok Tryz.prog Zrk:=noG
theorem Z1ee:Zi Zrk Z11z:=Z6
theorem Z17n:Zkl.ok Tryz.prog:=Sum.okPF (pin:=Zgm) facts.mixed Z1ed Z1ee Zy4 rfl (fun _=>rfl) (fun xs h=>h.1) (by
 intro xs hx hp
 obtain ⟨a0,a1,a2,a3,rfl⟩:=len4 hx
 obtain ⟨hp,hl⟩:=hp
 have k0:-1073741824≤a0∧a0≤1073741824:=hp.2 0
 have k1:-1073741824≤a1∧a1≤1073741824:=hp.2 1
 have k2:-1073741824≤a2∧a2≤1073741824:=hp.2 2
 have k3:-1073741824≤a3∧a3≤1073741824:=hp.2 3
 have hl:a0≤a1∧a2≤a3:=hl
 simp only [Z120,TX.sat,XB.prop,X.den,Z1gw,Z1gx,Z1gq,Z1gr,Z1gu,Z1gv,Z1gs,Z1gt,mkS,mkP,and_true,true_and,Z1h1,Z1h2,not_or,not_and,Z1gy,ne_eq,Z1gz,Z1h0,Zgn]
 exact ⟨fun h=>absurd h (by omega),fun _=>⟨fun h'=>absurd h' (by omega),fun _=>trivial⟩⟩)
theorem Z121:Z18 Zkl Z11d:=⟨fun xs h=>(Z14 xs h).elim,fun vs xs h hp=>by
  have k0:-1073741824≤xs.getD 0 0∧xs.getD 0 0≤1073741824:=hp.1.2 0
  have k1:-1073741824≤xs.getD 1 0∧xs.getD 1 0≤1073741824:=hp.1.2 1
  have k2:-1073741824≤xs.getD 2 0∧xs.getD 2 0≤1073741824:=hp.1.2 2
  have k3:-1073741824≤xs.getD 3 0∧xs.getD 3 0≤1073741824:=hp.1.2 3
  exact Z1 (Z7.2 (by omega)) (Z1 (Z7.2 (by omega)) (Z1 (Z7.2 (by omega)) Z2))⟩
noncomputable def Zkx:List Sum:=[Z1m]
def Z122:List Inf:=[Z7y]
def Z123:TX:=(.ite (.or (.or (.lt (.v 0) (.c (-1099511627776))) (.lt (.c 1099511627776) (.v 1))) (.lt (.v 1) (.v 0))) (.ret [(.c 0),(.c 0),(.c 8)])
(.callp 0 [(.v 0),(.v 2)] (.callp 0 [(.v 1),(.v 2)] (.ret [(.v 3),(.v 5),(.c 0)]))))
theorem Zy5:Z13 (Zs [] Z122 [] Zgo (Zn Tryz.prog Z78 gl0 Zkx 1000 129 [An 2,I1] [An 2,I1]))=Z123:=by kernel_rfl
theorem Z1ef:Gok Tryz.prog Zkx:=(fix.one Z6m)
theorem Z1eg:Zi Zkx Z122:=(Z3 Z4u Z6)
theorem Z17o:Zkm.ok Tryz.prog:=Sum.okPF (pin:=Zgo) facts.mixed Z1ef Z1eg Zy5 rfl (fun _=>rfl) (fun xs h=>h.1) (by
 intro xs hx hp
 obtain ⟨a0,a1,a2,rfl⟩:=len3 hx
 obtain ⟨hp,hl⟩:=hp
 have k0:-1073741824≤a0∧a0≤1073741824:=hp.2 0
 have k1:-1073741824≤a1∧a1≤1073741824:=hp.2 1
 have k2:256≤a2∧a2≤256:=hp.2 2
 have hl:a0≤a1:=hl
 obtain rfl:a2=256:=by omega
 simp only [Z123,Zkx,Z1m,TX.sat,XB.prop,X.den,Z1gw,Z1gx,Z1gq,Z1gr,Z1gu,Z1gv,Z1gs,Z1gt,mkS,mkP,and_true,true_and,Z1h1,Z1h2,not_or,not_and,Z1gy,ne_eq,Z1gz,Z1h0,Zgp,Z1d]
 exact ⟨fun h=>absurd h (by omega),fun _=>trivial⟩)
theorem Z124:Z18 Zkm Z11f:=⟨fun xs h=>(Z14 xs h).elim,fun vs xs h hp=>by
  have k0:-1073741824≤xs.getD 0 0∧xs.getD 0 0≤1073741824:=hp.1.2 0
  have k1:-1073741824≤xs.getD 1 0∧xs.getD 1 0≤1073741824:=hp.1.2 1
  exact Z1 (Z7.2 (by omega)) (Z1 (Z7.2 (by omega)) (Z1 (Z7.2 (by omega)) Z2))⟩
noncomputable def Zbl:List Sum:=[]
def Zue:List Inf:=[]
def Zky:TX:=(.ite (.or (.or (.lt (.v 0) (.c (-32768))) (.lt (.c 32768) (.v 0))) (.or (.or (.lt (.v 3) (.c (-32768))) (.lt (.c 32768) (.v 3))) (.or (.lt (.v 3) (.v 0)) (.or (.or (.lt (.v 1) (.c (-32768))) (.lt (.c 32768) (.v 1))) (.or (.or (.lt (.v 4) (.c (-32768))) (.lt (.c 32768) (.v 4))) (.or (.lt (.v 4) (.v 1)) (.or (.or (.lt (.v 2) (.c (-32768))) (.lt (.c 32768) (.v 2))) (.or (.or (.lt (.v 5) (.c (-32768))) (.lt (.c 32768) (.v 5))) (.lt (.v 5) (.v 2)))))))))) (.ret [(.c 8)])
(.ret [(.c 0)]))
theorem Zrl:Z13 (Zs [] Zue [] Zd0 (Zn Tryz.prog Z78 gl0 Zbl 1000 64 [An 6] [I1]))=Zky:=by kernel_rfl
theorem Z17p:Gok Tryz.prog Zbl:=noG
theorem Z17q:Zi Zbl Zue:=Z6
theorem Zoj:Z56.ok Tryz.prog:=Sum.okF facts.mixed Z17p Z17q Zrl rfl (fun _=>rfl) (by
 intro xs hx hp
 obtain ⟨a0,a1,a2,a3,a4,a5,rfl⟩:=len6 hx
 by_cases hc0:Zie [a0,a1,a2,a3,a4,a5] 0=true
 ·have hd0:=hc0
  try simp only [Z4v,TX.sat,XB.prop,X.den,Z1gw,Z1gx,Z1gq,Z1gr,Z1gu,Z1gv,Z1gs,Z1gt,mkS,mkP,and_true,true_and,Z1h1,Z1h2,not_or,not_and,Z1gy,ne_eq,Z1gz,Z1h0,Nat.reduceAdd,Nat.zero_add] at hd0
  simp only [Zky,Zbl,TX.sat,XB.prop,X.den,Z1gw,Z1gx,Z1gq,Z1gr,Z1gu,Z1gv,Z1gs,Z1gt,mkS,mkP,and_true,true_and,Z1h1,Z1h2,not_or,not_and,Z1gy,ne_eq,Z1gz,Z1h0,Z3j,hc0,ex3,ex4,ex5,ex6,Zeb,Z9k,er,b01,Zd,if_true,if_false,reduceIte,Bool.false_eq_true,Nat.reduceAdd,Nat.zero_add]
  clear hc0
  repeat' first | exact trivial | refine And.intro ?_ ?_ | intro _
  all_goals first | trivial | rfl | omega | (simp [Int.max_comm,Int.min_comm]; done) | (simp only [List.cons.injEq,and_true,true_and]; omega) | (split <;> first | trivial | rfl | omega)
 ·have hd0:=hc0
  try simp only [Z4v,TX.sat,XB.prop,X.den,Z1gw,Z1gx,Z1gq,Z1gr,Z1gu,Z1gv,Z1gs,Z1gt,mkS,mkP,and_true,true_and,Z1h1,Z1h2,not_or,not_and,Z1gy,ne_eq,Z1gz,Z1h0,Nat.reduceAdd,Nat.zero_add] at hd0
  simp only [Zky,Zbl,TX.sat,XB.prop,X.den,Z1gw,Z1gx,Z1gq,Z1gr,Z1gu,Z1gv,Z1gs,Z1gt,mkS,mkP,and_true,true_and,Z1h1,Z1h2,not_or,not_and,Z1gy,ne_eq,Z1gz,Z1h0,Z3j,hc0,ex3,ex4,ex5,ex6,Zeb,Z9k,er,b01,Zd,if_true,if_false,reduceIte,Bool.false_eq_true,Nat.reduceAdd,Nat.zero_add]
  clear hc0
  repeat' first | exact trivial | refine And.intro ?_ ?_ | intro _
  all_goals first | trivial | rfl | omega | (simp [Int.max_comm,Int.min_comm]; done) | (simp only [List.cons.injEq,and_true,true_and]; omega) | (split <;> first | trivial | rfl | omega))
theorem Zj9:Z18 Z56 Zkp:=⟨fun _ h=>h,fun vs xs h hp=>Z1 (Zxz _ (by omega)) Z2⟩
theorem Z1eh {e:Int} (h:0≤e∧e≤20):Zr (ivs 6 (-32768) 32768++[iv 0 20]) (ex7 (z7 e)) :=
 Z1 (Z7.2 (by simp [z7])) (Z1 (Z7.2 (by simp [z7])) (Z1 (Z7.2 (by simp [z7])) (Z1 (Z7.2 (by simp [z7])) (Z1 (Z7.2 (by simp [z7])) (Z1 (Z7.2 (by simp [z7])) (Z1 (Z7.2 (by simp [z7,h])) Z2))))))
noncomputable def Zbm:List Sum:=[]
def Zuf:List Inf:=[]
def Zkz:TX:=(.ite (.or (.lt (.v 0) (.v 6)) (.or (.lt (.v 9) (.v 3)) (.or (.lt (.v 1) (.v 7)) (.or (.lt (.v 10) (.v 4)) (.or (.lt (.v 2) (.v 8)) (.lt (.v 11) (.v 5))))))) (.ret [(.c 0)])
(.ret [(.c 1)]))
theorem Zrm:Z13 (Zs [] Zuf [] Zd1 (Zn Tryz.prog Z78 gl0 Zbm 1000 85 [An 6,An 6] [Bo]))=Zkz:=by kernel_rfl
theorem Z17r:Gok Tryz.prog Zbm:=noG
theorem Z17s:Zi Zbm Zuf:=Z6
theorem Z125:Zbe.ok Tryz.prog:=Sum.okF facts.mixed Z17r Z17s Zrm rfl (fun _=>rfl) (by
 intro xs hx hp
 obtain ⟨a0,a1,a2,a3,a4,a5,a6,a7,a8,a9,a10,a11,rfl⟩:=Z17g hx
 by_cases hc0:Zad [a0,a1,a2,a3,a4,a5,a6,a7,a8,a9,a10,a11]=true
 ·have hd0:=hc0
  try simp only [Zad,Zd,TX.sat,XB.prop,X.den,Z1gw,Z1gx,Z1gq,Z1gr,Z1gu,Z1gv,Z1gs,Z1gt,mkS,mkP,and_true,true_and,Z1h1,Z1h2,not_or,not_and,Z1gy,ne_eq,Z1gz,Z1h0,Nat.reduceAdd,Nat.zero_add] at hd0
  simp only [Zkz,Zbm,TX.sat,XB.prop,X.den,Z1gw,Z1gx,Z1gq,Z1gr,Z1gu,Z1gv,Z1gs,Z1gt,mkS,mkP,and_true,true_and,Z1h1,Z1h2,not_or,not_and,Z1gy,ne_eq,Z1gz,Z1h0,Z5s,hc0,ex3,ex4,ex5,ex6,Zeb,Z9k,er,b01,Zd,if_true,if_false,reduceIte,Bool.false_eq_true,Nat.reduceAdd,Nat.zero_add]
  clear hc0
  repeat' first | exact trivial | refine And.intro ?_ ?_ | intro _
  all_goals first | trivial | rfl | omega | (simp [Int.max_comm,Int.min_comm]; done) | (simp only [List.cons.injEq,and_true,true_and]; omega) | (split <;> first | trivial | rfl | omega)
 ·have hd0:=hc0
  try simp only [Zad,Zd,TX.sat,XB.prop,X.den,Z1gw,Z1gx,Z1gq,Z1gr,Z1gu,Z1gv,Z1gs,Z1gt,mkS,mkP,and_true,true_and,Z1h1,Z1h2,not_or,not_and,Z1gy,ne_eq,Z1gz,Z1h0,Nat.reduceAdd,Nat.zero_add] at hd0
  simp only [Zkz,Zbm,TX.sat,XB.prop,X.den,Z1gw,Z1gx,Z1gq,Z1gr,Z1gu,Z1gv,Z1gs,Z1gt,mkS,mkP,and_true,true_and,Z1h1,Z1h2,not_or,not_and,Z1gy,ne_eq,Z1gz,Z1h0,Z5s,hc0,ex3,ex4,ex5,ex6,Zeb,Z9k,er,b01,Zd,if_true,if_false,reduceIte,Bool.false_eq_true,Nat.reduceAdd,Nat.zero_add]
  clear hc0
  repeat' first | exact trivial | refine And.intro ?_ ?_ | intro _
  all_goals first | trivial | rfl | omega | (simp [Int.max_comm,Int.min_comm]; done) | (simp only [List.cons.injEq,and_true,true_and]; omega) | (split <;> first | trivial | rfl | omega))
theorem Zy6:Z18 Zbe Zu4:=⟨fun _ h=>h,fun vs xs h hp=>Z1 (Zdt _) Z2⟩
theorem Z1ei {x:List Int} (h:Z2p 1024 x 0=true):((-1024≤x.getD 0 0∧x.getD 0 0≤1024)∧(-1024≤x.getD 1 0∧x.getD 1 0≤1024)∧(-1024≤x.getD 2 0∧x.getD 2 0≤1024)) ∧
  ((-1024≤x.getD 3 0∧x.getD 3 0≤1024)∧(-1024≤x.getD 4 0∧x.getD 4 0≤1024)∧(-1024≤x.getD 5 0∧x.getD 5 0≤1024)) ∧
  ((-1024≤x.getD 6 0∧x.getD 6 0≤1024)∧(-1024≤x.getD 7 0∧x.getD 7 0≤1024)∧(-1024≤x.getD 8 0∧x.getD 8 0≤1024)):=by
 simp only [Z2p,Z1h3,Zg,Nat.reduceAdd,Nat.zero_add] at h
 exact h
theorem Zbn {a b m:Int} (h1:-32768≤a) (h2:b≤32768) (h3:a≤b) (h4:-1024≤m∧m≤1024):Zgl [a,b,m] :=
 ⟨Z1 (Z7.2 (by omega)) (Z1 (Z7.2 (by omega)) (Z1 (Z7.2 (by omega)) Z2)),h3⟩
theorem Zbo {a b c d:Int} (h1:-1073741824≤a) (h2:b≤1073741824) (h3:a≤b) (h4:-1073741824≤c) (h5:d≤1073741824) (h6:c≤d):Zob [a,b,c,d] :=
 ⟨Z1 (Z7.2 (by omega)) (Z1 (Z7.2 (by omega)) (Z1 (Z7.2 (by omega)) (Z1 (Z7.2 (by omega)) Z2))),h3,h6⟩
theorem Z126 {a b:Int} (h1:-1073741824≤a) (h2:b≤1073741824) (h3:a≤b):Zoc [a,b,256] :=
 ⟨Z1 (Z7.2 (by omega)) (Z1 (Z7.2 (by omega)) (Z1 (Z7.2 (by omega)) Z2)),h3⟩
theorem Z28 {m a:Int} (h4:-1024≤m∧m≤1024) (h:-32768≤a∧a≤32768):-33554432≤m * a∧m * a≤33554432:=by
 have:=Z17 h4 h
 omega
noncomputable def Z82:List Sum:=[Z56,Zbd,Zkl,Zkm]
def Zok:List Inf:=[Zkp,Zoa,Z11d,Z11f]
def Zbp:TX:=(.ite (.or (.or (.lt (.v 0) (.c (-1024))) (.lt (.c 1024) (.v 0))) (.or (.or (.lt (.v 1) (.c (-1024))) (.lt (.c 1024) (.v 1))) (.or (.or (.lt (.v 2) (.c (-1024))) (.lt (.c 1024) (.v 2))) (.or (.or (.lt (.v 3) (.c (-1024))) (.lt (.c 1024) (.v 3))) (.or (.or (.lt (.v 4) (.c (-1024))) (.lt (.c 1024) (.v 4))) (.or (.or (.lt (.v 5) (.c (-1024))) (.lt (.c 1024) (.v 5))) (.or (.or (.lt (.v 6) (.c (-1024))) (.lt (.c 1024) (.v 6))) (.or (.or (.lt (.v 7) (.c (-1024))) (.lt (.c 1024) (.v 7))) (.or (.lt (.v 8) (.c (-1024))) (.lt (.c 1024) (.v 8))))))))))) (.ret [(.c 0),(.c 0),(.c 0),(.c 0),(.c 0),(.c 0),(.c 2)])
(.callp 0 [(.v 9),(.v 10),(.v 11),(.v 12),(.v 13),(.v 14)] (.ite (.not (.eq (.v 15) (.c 0))) (.ret [(.c 0),(.c 0),(.c 0),(.c 0),(.c 0),(.c 0),(.v 15)])
(.call 1 [(.v 9),(.v 12),(.v 0)] (.call 2 [(.c 0),(.c 0),(.v 16),(.v 17)] (.call 1 [(.v 10),(.v 13),(.v 1)] (.call 2 [(.v 19),(.v 20),(.v 22),(.v 23)] (.call 1 [(.v 11),(.v 14),(.v 2)] (.call 2 [(.v 25),(.v 26),(.v 28),(.v 29)] (.call 3 [(.v 31),(.v 32),(.c 256)] (.call 1 [(.v 9),(.v 12),(.v 3)] (.call 2 [(.c 0),(.c 0),(.v 37),(.v 38)] (.call 1 [(.v 10),(.v 13),(.v 4)] (.call 2 [(.v 40),(.v 41),(.v 43),(.v 44)] (.call 1 [(.v 11),(.v 14),(.v 5)] (.call 2 [(.v 46),(.v 47),(.v 49),(.v 50)] (.call 3 [(.v 52),(.v 53),(.c 256)] (.call 1 [(.v 9),(.v 12),(.v 6)] (.call 2 [(.c 0),(.c 0),(.v 58),(.v 59)] (.call 1 [(.v 10),(.v 13),(.v 7)] (.call 2 [(.v 61),(.v 62),(.v 64),(.v 65)] (.call 1 [(.v 11),(.v 14),(.v 8)] (.call 2 [(.v 67),(.v 68),(.v 70),(.v 71)] (.call 3 [(.v 73),(.v 74),(.c 256)] (.callp 0 [(.v 34),(.v 55),(.v 76),(.v 35),(.v 56),(.v 77)] (.ite (.not (.eq (.v 79) (.c 0))) (.ret [(.c 0),(.c 0),(.c 0),(.c 0),(.c 0),(.c 0),(.c 20)])
(.ret [(.v 34),(.v 55),(.v 76),(.v 35),(.v 56),(.v 77),(.c 0)])))))))))))))))))))))))))))
theorem Zol:Z13 (Zs [] Zok [] Zae (Zn Tryz.prog Z78 gl0 Z82 1000 86 [An 9,An 6] [An 6,I1]))=Zbp:=by kernel_rfl
theorem Z127:Gok Tryz.prog Z82:=(more Zoj (more Zy3 (more Z17n (fix.one Z17o))))
theorem Z128:Zi Z82 Zok:=(Z3 Zj9 (Z3 Zrj (Z3 Z121 (Z3 Z124 Z6))))
theorem Zy7:Zbf.ok Tryz.prog:=Sum.okF facts.mixed Z127 Z128 Zol rfl (fun _=>rfl) (by
 intro xs hx hp
 obtain ⟨a0,a1,a2,a3,a4,a5,a6,a7,a8,a9,a10,a11,a12,a13,a14,rfl⟩:=Z17h hx
 have e1:Zie [a9,a10,a11,a12,a13,a14] 0=Zie [a0,a1,a2,a3,a4,a5,a6,a7,a8,a9,a10,a11,a12,a13,a14] 9:=rfl
 clear hx hp
 by_cases hr:Z2p 1024 [a0,a1,a2,a3,a4,a5,a6,a7,a8,a9,a10,a11,a12,a13,a14] 0=true
 ·have kr:=Z1ei hr
  simp only [TX.sat,XB.prop,X.den,Z1gw,Z1gx,Z1gq,Z1gr,Z1gu,Z1gv,Z1gs,Z1gt,mkS,mkP,and_true,true_and,Z1h1,Z1h2,not_or,not_and,Z1gy,ne_eq,Z1gz,Z1h0] at kr
  by_cases hb:Zie [a0,a1,a2,a3,a4,a5,a6,a7,a8,a9,a10,a11,a12,a13,a14] 9=true
  ·have kb:=Z4v.1 hb
   simp only [TX.sat,XB.prop,X.den,Z1gw,Z1gx,Z1gq,Z1gr,Z1gu,Z1gv,Z1gs,Z1gt,mkS,mkP,and_true,true_and,Z1h1,Z1h2,not_or,not_and,Z1gy,ne_eq,Z1gz,Z1h0,Nat.reduceAdd] at kb
   have e2:Zie [Z1e3 [a0,a1,a2,a3,a4,a5,a6,a7,a8,a9,a10,a11,a12,a13,a14] 0,Z1e3 [a0,a1,a2,a3,a4,a5,a6,a7,a8,a9,a10,a11,a12,a13,a14] 3,Z1e3 [a0,a1,a2,a3,a4,a5,a6,a7,a8,a9,a10,a11,a12,a13,a14] 6,Zr7 [a0,a1,a2,a3,a4,a5,a6,a7,a8,a9,a10,a11,a12,a13,a14] 0,Zr7 [a0,a1,a2,a3,a4,a5,a6,a7,a8,a9,a10,a11,a12,a13,a14] 3,Zr7 [a0,a1,a2,a3,a4,a5,a6,a7,a8,a9,a10,a11,a12,a13,a14] 6] 0 =
    Zie (Zq [a0,a1,a2,a3,a4,a5,a6,a7,a8,a9,a10,a11,a12,a13,a14]) 0:=rfl
   simp only [Z1e3,Zr7,TX.sat,XB.prop,X.den,Z1gw,Z1gx,Z1gq,Z1gr,Z1gu,Z1gv,Z1gs,Z1gt,mkS,mkP,and_true,true_and,Z1h1,Z1h2,not_or,not_and,Z1gy,ne_eq,Z1gz,Z1h0,Nat.reduceAdd,Nat.zero_add] at e2
   simp only [Zbp,Z82,Z56,Zbd,Zkl,Zkm,TX.sat,XB.prop,X.den,Z1gw,Z1gx,Z1gq,Z1gr,Z1gu,Z1gv,Z1gs,Z1gt,mkS,mkP,and_true,true_and,Z1h1,Z1h2,not_or,not_and,Z1gy,ne_eq,Z1gz,Z1h0,Z3j,Zac,scB,Zgn,Zgp,Int.zero_add,e1,e2,hb,er,if_true,reduceIte,Z4t,Z80,hr]
   have q0:=Z28 kr.1.1 kb.1.1
   have q1:=Z28 kr.1.2.1 kb.1.2.1
   have q2:=Z28 kr.1.2.2 kb.1.2.2
   have q3:=Z28 kr.2.1.1 kb.1.1
   have q4:=Z28 kr.2.1.2.1 kb.1.2.1
   have q5:=Z28 kr.2.1.2.2 kb.1.2.2
   have q6:=Z28 kr.2.2.1 kb.1.1
   have q7:=Z28 kr.2.2.2.1 kb.1.2.1
   have q8:=Z28 kr.2.2.2.2 kb.1.2.2
   have r0:=Z28 kr.1.1 kb.2.1.1
   have r1:=Z28 kr.1.2.1 kb.2.1.2.1
   have r2:=Z28 kr.1.2.2 kb.2.1.2.2
   have r3:=Z28 kr.2.1.1 kb.2.1.1
   have r4:=Z28 kr.2.1.2.1 kb.2.1.2.1
   have r5:=Z28 kr.2.1.2.2 kb.2.1.2.2
   have r6:=Z28 kr.2.2.1 kb.2.1.1
   have r7:=Z28 kr.2.2.2.1 kb.2.1.2.1
   have r8:=Z28 kr.2.2.2.2 kb.2.1.2.2
   refine ⟨fun h=>absurd h (by omega),fun _=>⟨fun h=>absurd h (by simp),fun _=>?_⟩⟩
   refine ⟨Zbn (by omega) (by omega) (by omega) (by omega),Zbo (by omega) (by omega) (by omega) (by omega) (by omega) (by omega),Zbn (by omega) (by omega) (by omega) (by omega),Zbo (by omega) (by omega) (by omega) (by omega) (by omega) (by omega),Zbn (by omega) (by omega) (by omega) (by omega),Zbo (by omega) (by omega) (by omega) (by omega) (by omega) (by omega),Z126 (by omega) (by omega) (by omega),
    Zbn (by omega) (by omega) (by omega) (by omega),Zbo (by omega) (by omega) (by omega) (by omega) (by omega) (by omega),Zbn (by omega) (by omega) (by omega) (by omega),Zbo (by omega) (by omega) (by omega) (by omega) (by omega) (by omega),Zbn (by omega) (by omega) (by omega) (by omega),Zbo (by omega) (by omega) (by omega) (by omega) (by omega) (by omega),Z126 (by omega) (by omega) (by omega),
    Zbn (by omega) (by omega) (by omega) (by omega),Zbo (by omega) (by omega) (by omega) (by omega) (by omega) (by omega),Zbn (by omega) (by omega) (by omega) (by omega),Zbo (by omega) (by omega) (by omega) (by omega) (by omega) (by omega),Zbn (by omega) (by omega) (by omega) (by omega),Zbo (by omega) (by omega) (by omega) (by omega) (by omega) (by omega),Z126 (by omega) (by omega) (by omega),?_⟩
   clear q0 q1 q2 q3 q4 q5 q6 q7 q8 r0 r1 r2 r3 r4 r5 r6 r7 r8 e1 e2
   refine ⟨fun h=>?_,fun h=>?_⟩
   ·have:Zie (Zq [a0,a1,a2,a3,a4,a5,a6,a7,a8,a9,a10,a11,a12,a13,a14]) 0=false:=by
     cases hh:Zie (Zq [a0,a1,a2,a3,a4,a5,a6,a7,a8,a9,a10,a11,a12,a13,a14]) 0 with
     | false=>rfl
     | true=>rw [hh] at h; exact absurd h (by simp)
    rw [this]; rfl
   ·have:Zie (Zq [a0,a1,a2,a3,a4,a5,a6,a7,a8,a9,a10,a11,a12,a13,a14]) 0=true:=by
     cases hh:Zie (Zq [a0,a1,a2,a3,a4,a5,a6,a7,a8,a9,a10,a11,a12,a13,a14]) 0 with
     | true=>rfl
     | false=>rw [hh] at h; exact absurd h (by simp)
    rw [this]; rfl
  ·simp only [Zbp,Z82,Z56,TX.sat,XB.prop,X.den,Z1gw,Z1gx,Z1gq,Z1gr,Z1gu,Z1gv,Z1gs,Z1gt,mkS,mkP,and_true,true_and,Z1h1,Z1h2,not_or,not_and,Z1gy,ne_eq,Z1gz,Z1h0,Z3j,e1,hb,er,if_false,reduceIte,Z4t,Z80,hr,if_true,Bool.false_eq_true,z7,ex7]
   refine ⟨fun h=>absurd h (by omega),fun _=>⟨fun _=>?_,fun h=>absurd h (by simp)⟩⟩
   trivial
 ·have kr:¬ (((-1024≤a0∧a0≤1024)∧(-1024≤a1∧a1≤1024)∧(-1024≤a2∧a2≤1024))∧((-1024≤a3∧a3≤1024)∧(-1024≤a4∧a4≤1024)∧(-1024≤a5∧a5≤1024))∧((-1024≤a6∧a6≤1024)∧(-1024≤a7∧a7≤1024)∧(-1024≤a8∧a8≤1024))):=fun h=>hr (by
   simp only [Z2p,Z1h3,Zg,Nat.reduceAdd,Nat.zero_add,TX.sat,XB.prop,X.den,Z1gw,Z1gx,Z1gq,Z1gr,Z1gu,Z1gv,Z1gs,Z1gt,mkS,mkP,and_true,true_and,Z1h1,Z1h2,not_or,not_and,Z1gy,ne_eq,Z1gz,Z1h0]; exact h)
  simp only [Zbp,TX.sat,XB.prop,X.den,Z1gw,Z1gx,Z1gq,Z1gr,Z1gu,Z1gv,Z1gs,Z1gt,mkS,mkP,and_true,true_and,Z1h1,Z1h2,not_or,not_and,Z1gy,ne_eq,Z1gz,Z1h0,Z4t,Z80,hr,if_false,reduceIte,Bool.false_eq_true,z7,ex7]
  exact ⟨fun _=>trivial,fun h=>absurd h (by omega)⟩)
theorem Zrn:Z18 Zbf Zod:=⟨fun _ h=>h,fun vs xs h hp=>by
 show Zr (ivs 6 (-32768) 32768++[iv 0 20]) (ex7 (Z80 xs))
 unfold Z80
 split
 ·split
  ·split
   ·rename_i hc
    have kb:=Z4v.1 hc
    exact Z1 kb.1.1 (Z1 kb.1.2.1 (Z1 kb.1.2.2 (Z1 kb.2.1.1 (Z1 kb.2.1.2.1 (Z1 kb.2.1.2.2 (Z1 (Z7.2 (by simp [Zq])) Z2))))))
   ·exact Z1eh (by omega)
  ·exact Z1eh (by omega)
 ·exact Z1eh (by omega)⟩
end Go.Proofs.YtgcoidbaoigkeaaGreatDoor.fix
namespace Go.Proofs.YtgcoidbaoigkeaaGreatDoor.fix
open Go.RowKit Go.Sx
end Go.Proofs.YtgcoidbaoigkeaaGreatDoor.fix
namespace Go.Proofs.YtgcoidbaoigkeaaGreatDoor.fix
open Go.RowKit Go.Sx
theorem Zv {x:List Int} {o:Nat}:lensB x o=true↔((1≤x.getD o 0∧x.getD o 0≤64)∧(256≤x.getD (o + 1) 0∧x.getD (o + 1) 0≤4096)∧(1≤x.getD (o + 2) 0∧x.getD (o + 2) 0≤64)∧(1≤x.getD (o + 3) 0∧x.getD (o + 3) 0≤64)):=decide_eq_true_iff
theorem Z5u {x:List Int} {o w h:Nat}:winB x o w h=true↔((0≤x.getD o 0∧x.getD o 0≤x.getD (o + 2) 0∧x.getD (o + 2) 0 < x.getD w 0)∧(0≤x.getD (o + 1) 0∧x.getD (o + 1) 0≤x.getD (o + 3) 0∧x.getD (o + 3) 0 < x.getD h 0)):=decide_eq_true_iff
noncomputable def Zbq:List Sum:=[]
def Zug:List Inf:=[]
def Zl0:TX:=(.ite (.or (.or (.lt (.v 0) (.c (-4096))) (.lt (.c 4096) (.v 0))) (.or (.or (.lt (.v 1) (.c (-4096))) (.lt (.c 4096) (.v 1))) (.or (.or (.lt (.v 2) (.c (-4096))) (.lt (.c 4096) (.v 2))) (.or (.or (.lt (.v 12) (.c 1)) (.lt (.c 64) (.v 12))) (.or (.or (.lt (.v 13) (.c 256)) (.lt (.c 4096) (.v 13))) (.or (.or (.lt (.v 14) (.c 1)) (.lt (.c 64) (.v 14))) (.or (.or (.lt (.v 15) (.c 1)) (.lt (.c 64) (.v 15))) (.or (.or (.lt (.v 3) (.c (-256))) (.lt (.c 256) (.v 3))) (.or (.or (.lt (.v 4) (.c (-256))) (.lt (.c 256) (.v 4))) (.or (.or (.lt (.v 5) (.c (-256))) (.lt (.c 256) (.v 5))) (.or (.or (.lt (.v 6) (.c (-256))) (.lt (.c 256) (.v 6))) (.or (.or (.lt (.v 7) (.c (-256))) (.lt (.c 256) (.v 7))) (.or (.or (.lt (.v 8) (.c (-256))) (.lt (.c 256) (.v 8))) (.or (.or (.lt (.v 9) (.c (-256))) (.lt (.c 256) (.v 9))) (.or (.or (.lt (.v 10) (.c (-256))) (.lt (.c 256) (.v 10))) (.or (.lt (.v 11) (.c (-256))) (.lt (.c 256) (.v 11)))))))))))))))))) (.ret [(.c 150)])
(.ret [(.c 0)]))
theorem Zro:Z13 (Zs [] Zug [] Zd2 (Zn Tryz.prog Z78 gl0 Zbq 1000 29 [An 16] [I1]))=Zl0:=by kernel_rfl
theorem Z17t:Gok Tryz.prog Zbq:=noG
theorem Z17u:Zi Zbq Zug:=Z6
theorem Zbr:Z32.ok Tryz.prog:=Sum.okF facts.mixed Z17t Z17u Zro rfl (fun _=>rfl) (by
 intro xs hx hp
 obtain ⟨a0,a1,a2,a3,a4,a5,a6,a7,a8,a9,a10,a11,a12,a13,a14,a15,rfl⟩:=Z17i hx
 by_cases hc0:Z2b [a0,a1,a2,a3,a4,a5,a6,a7,a8,a9,a10,a11,a12,a13,a14,a15] 0=true
 ·have hd0:=hc0
  try simp only [Z2b,Z2p,Zv,Z1h3,Zg,TX.sat,XB.prop,X.den,Z1gw,Z1gx,Z1gq,Z1gr,Z1gu,Z1gv,Z1gs,Z1gt,mkS,mkP,and_true,true_and,Z1h1,Z1h2,not_or,not_and,Z1gy,ne_eq,Z1gz,Z1h0,Nat.reduceAdd,Nat.zero_add] at hd0
  simp only [Zl0,Zbq,TX.sat,XB.prop,X.den,Z1gw,Z1gx,Z1gq,Z1gr,Z1gu,Z1gv,Z1gs,Z1gt,mkS,mkP,and_true,true_and,Z1h1,Z1h2,not_or,not_and,Z1gy,ne_eq,Z1gz,Z1h0,Z3k,hc0,ex3,ex4,ex5,ex6,Zeb,Z9k,er,b01,Zd,if_true,if_false,reduceIte,Bool.false_eq_true,Nat.reduceAdd,Nat.zero_add]
  clear hc0
  repeat' first | exact trivial | refine And.intro ?_ ?_ | intro _
  all_goals first | trivial | rfl | omega | (simp [Int.max_comm,Int.min_comm]; done) | (simp only [List.cons.injEq,and_true,true_and]; omega) | (split <;> first | trivial | rfl | omega)
 ·have hd0:=hc0
  try simp only [Z2b,Z2p,Zv,Z1h3,Zg,TX.sat,XB.prop,X.den,Z1gw,Z1gx,Z1gq,Z1gr,Z1gu,Z1gv,Z1gs,Z1gt,mkS,mkP,and_true,true_and,Z1h1,Z1h2,not_or,not_and,Z1gy,ne_eq,Z1gz,Z1h0,Nat.reduceAdd,Nat.zero_add] at hd0
  simp only [Zl0,Zbq,TX.sat,XB.prop,X.den,Z1gw,Z1gx,Z1gq,Z1gr,Z1gu,Z1gv,Z1gs,Z1gt,mkS,mkP,and_true,true_and,Z1h1,Z1h2,not_or,not_and,Z1gy,ne_eq,Z1gz,Z1h0,Z3k,hc0,ex3,ex4,ex5,ex6,Zeb,Z9k,er,b01,Zd,if_true,if_false,reduceIte,Bool.false_eq_true,Nat.reduceAdd,Nat.zero_add]
  clear hc0
  repeat' first | exact trivial | refine And.intro ?_ ?_ | intro _
  all_goals first | trivial | rfl | omega | (simp [Int.max_comm,Int.min_comm]; done) | (simp only [List.cons.injEq,and_true,true_and]; omega) | (split <;> first | trivial | rfl | omega))
theorem Z94:Z18 Z32 Zbg:=⟨fun _ h=>h,fun vs xs h hp=>Z1 (Zxz _ (by omega)) Z2⟩
noncomputable def Zja:List Sum:=[Zcz]
def Z1bt:List Inf:=[Z11h]
def Zuh:TX:=(.ite (.or (.or (.lt (.v 0) (.c (-4096))) (.lt (.c 4096) (.v 0))) (.or (.or (.lt (.v 1) (.c (-4096))) (.lt (.c 4096) (.v 1))) (.or (.or (.lt (.v 2) (.c (-4096))) (.lt (.c 4096) (.v 2))) (.or (.or (.lt (.v 12) (.c 1)) (.lt (.c 64) (.v 12))) (.or (.or (.lt (.v 13) (.c 256)) (.lt (.c 4096) (.v 13))) (.or (.or (.lt (.v 14) (.c 1)) (.lt (.c 64) (.v 14))) (.or (.or (.lt (.v 15) (.c 1)) (.lt (.c 64) (.v 15))) (.or (.or (.lt (.v 3) (.c (-256))) (.lt (.c 256) (.v 3))) (.or (.or (.lt (.v 4) (.c (-256))) (.lt (.c 256) (.v 4))) (.or (.or (.lt (.v 5) (.c (-256))) (.lt (.c 256) (.v 5))) (.or (.or (.lt (.v 6) (.c (-256))) (.lt (.c 256) (.v 6))) (.or (.or (.lt (.v 7) (.c (-256))) (.lt (.c 256) (.v 7))) (.or (.or (.lt (.v 8) (.c (-256))) (.lt (.c 256) (.v 8))) (.or (.or (.lt (.v 9) (.c (-256))) (.lt (.c 256) (.v 9))) (.or (.or (.lt (.v 10) (.c (-256))) (.lt (.c 256) (.v 10))) (.or (.lt (.v 11) (.c (-256))) (.lt (.c 256) (.v 11)))))))))))))))))) (.ret [(.c 0),(.c 0),(.c 0),(.c 150)])
(.ite (.or (.or (.lt (.v 16) (.c (-4096))) (.lt (.c 4096) (.v 16))) (.or (.or (.lt (.v 17) (.c (-4096))) (.lt (.c 4096) (.v 17))) (.or (.lt (.v 18) (.c (-4096))) (.lt (.c 4096) (.v 18))))) (.ret [(.c 0),(.c 0),(.c 0),(.c 20)])
(.callp 0 [(.v 3),(.v 4),(.v 5),(.v 6),(.v 7),(.v 8),(.v 9),(.v 10),(.v 11),(.sub (.v 16) (.v 0)),(.sub (.v 17) (.v 1)),(.sub (.v 18) (.v 2))] (.ret [(.v 19),(.v 20),(.v 21),(.c 0)]))))
theorem Z129:Z13 (Zs [] Z1bt [] Zee (Zn Tryz.prog Z78 gl0 Zja 1000 122 [An 16,An 3] [An 3,I1]))=Zuh:=by kernel_rfl
theorem g_view:Gok Tryz.prog Zja:=(fix.one Z17m)
theorem o_view:Zi Zja Z1bt:=(Z3 Z11w Z6)
theorem Z1ej:Zj7.ok Tryz.prog:=Sum.okF facts.mixed g_view o_view Z129 rfl (fun _=>rfl) (by
 intro xs hx hp
 obtain ⟨a0,a1,a2,a3,a4,a5,a6,a7,a8,a9,a10,a11,a12,a13,a14,a15,a16,a17,a18,rfl⟩:=len19 hx
 by_cases hc0:Z2b [a0,a1,a2,a3,a4,a5,a6,a7,a8,a9,a10,a11,a12,a13,a14,a15,a16,a17,a18] 0=true
 ·by_cases hc1:Zj6 4096 [a0,a1,a2,a3,a4,a5,a6,a7,a8,a9,a10,a11,a12,a13,a14,a15,a16,a17,a18] 16=true
  ·have hd0:=hc0
   try simp only [Z2b,Z2p,Zv,Z1h3,Zg,TX.sat,XB.prop,X.den,Z1gw,Z1gx,Z1gq,Z1gr,Z1gu,Z1gv,Z1gs,Z1gt,mkS,mkP,and_true,true_and,Z1h1,Z1h2,not_or,not_and,Z1gy,ne_eq,Z1gz,Z1h0,Nat.reduceAdd,Nat.zero_add] at hd0
   have hd1:=hc1
   try simp only [Z2b,Z2p,Zv,Z1h3,Zg,TX.sat,XB.prop,X.den,Z1gw,Z1gx,Z1gq,Z1gr,Z1gu,Z1gv,Z1gs,Z1gt,mkS,mkP,and_true,true_and,Z1h1,Z1h2,not_or,not_and,Z1gy,ne_eq,Z1gz,Z1h0,Nat.reduceAdd,Nat.zero_add] at hd1
   simp only [Zuh,Zja,Zcz,TX.sat,XB.prop,X.den,Z1gw,Z1gx,Z1gq,Z1gr,Z1gu,Z1gv,Z1gs,Z1gt,mkS,mkP,and_true,true_and,Z1h1,Z1h2,not_or,not_and,Z1gy,ne_eq,Z1gz,Z1h0,Z7z,dot,Zr9,Zed,Z7a,hc0,hc1,ex3,ex4,ex5,ex6,Zeb,Z9k,er,b01,Zd,if_true,if_false,reduceIte,Bool.false_eq_true,Nat.reduceAdd,Nat.zero_add]
   clear hc0 hc1
   repeat' first | exact trivial | refine And.intro ?_ ?_ | intro _
   all_goals first | trivial | rfl | omega | (simp [Int.max_comm,Int.min_comm]; done) | (simp only [List.cons.injEq,and_true,true_and]; omega) | (split <;> first | trivial | rfl | omega)
  ·have hd0:=hc0
   try simp only [Z2b,Z2p,Zv,Z1h3,Zg,TX.sat,XB.prop,X.den,Z1gw,Z1gx,Z1gq,Z1gr,Z1gu,Z1gv,Z1gs,Z1gt,mkS,mkP,and_true,true_and,Z1h1,Z1h2,not_or,not_and,Z1gy,ne_eq,Z1gz,Z1h0,Nat.reduceAdd,Nat.zero_add] at hd0
   have hd1:=hc1
   try simp only [Z2b,Z2p,Zv,Z1h3,Zg,TX.sat,XB.prop,X.den,Z1gw,Z1gx,Z1gq,Z1gr,Z1gu,Z1gv,Z1gs,Z1gt,mkS,mkP,and_true,true_and,Z1h1,Z1h2,not_or,not_and,Z1gy,ne_eq,Z1gz,Z1h0,Nat.reduceAdd,Nat.zero_add] at hd1
   simp only [Zuh,Zja,Zcz,TX.sat,XB.prop,X.den,Z1gw,Z1gx,Z1gq,Z1gr,Z1gu,Z1gv,Z1gs,Z1gt,mkS,mkP,and_true,true_and,Z1h1,Z1h2,not_or,not_and,Z1gy,ne_eq,Z1gz,Z1h0,Z7z,dot,Zr9,Zed,Z7a,hc0,hc1,ex3,ex4,ex5,ex6,Zeb,Z9k,er,b01,Zd,if_true,if_false,reduceIte,Bool.false_eq_true,Nat.reduceAdd,Nat.zero_add]
   clear hc0 hc1
   repeat' first | exact trivial | refine And.intro ?_ ?_ | intro _
   all_goals first | trivial | rfl | omega | (simp [Int.max_comm,Int.min_comm]; done) | (simp only [List.cons.injEq,and_true,true_and]; omega) | (split <;> first | trivial | rfl | omega)
 ·have hd0:=hc0
  try simp only [Z2b,Z2p,Zv,Z1h3,Zg,TX.sat,XB.prop,X.den,Z1gw,Z1gx,Z1gq,Z1gr,Z1gu,Z1gv,Z1gs,Z1gt,mkS,mkP,and_true,true_and,Z1h1,Z1h2,not_or,not_and,Z1gy,ne_eq,Z1gz,Z1h0,Nat.reduceAdd,Nat.zero_add] at hd0
  simp only [Zuh,Zja,Zcz,TX.sat,XB.prop,X.den,Z1gw,Z1gx,Z1gq,Z1gr,Z1gu,Z1gv,Z1gs,Z1gt,mkS,mkP,and_true,true_and,Z1h1,Z1h2,not_or,not_and,Z1gy,ne_eq,Z1gz,Z1h0,Z7z,dot,Zr9,Zed,Z7a,hc0,ex3,ex4,ex5,ex6,Zeb,Z9k,er,b01,Zd,if_true,if_false,reduceIte,Bool.false_eq_true,Nat.reduceAdd,Nat.zero_add]
  clear hc0
  repeat' first | exact trivial | refine And.intro ?_ ?_ | intro _
  all_goals first | trivial | rfl | omega | (simp [Int.max_comm,Int.min_comm]; done) | (simp only [List.cons.injEq,and_true,true_and]; omega) | (split <;> first | trivial | rfl | omega))
noncomputable def Z95:List Sum:=[]
def Zui:List Inf:=[]
def Zel:TX:=(.ite (.or (.or (.lt (.v 0) (.c (-4096))) (.lt (.c 4096) (.v 0))) (.or (.or (.lt (.v 1) (.c (-4096))) (.lt (.c 4096) (.v 1))) (.or (.or (.lt (.v 2) (.c (-4096))) (.lt (.c 4096) (.v 2))) (.or (.or (.lt (.v 12) (.c 1)) (.lt (.c 64) (.v 12))) (.or (.or (.lt (.v 13) (.c 256)) (.lt (.c 4096) (.v 13))) (.or (.or (.lt (.v 14) (.c 1)) (.lt (.c 64) (.v 14))) (.or (.or (.lt (.v 15) (.c 1)) (.lt (.c 64) (.v 15))) (.or (.or (.lt (.v 3) (.c (-256))) (.lt (.c 256) (.v 3))) (.or (.or (.lt (.v 4) (.c (-256))) (.lt (.c 256) (.v 4))) (.or (.or (.lt (.v 5) (.c (-256))) (.lt (.c 256) (.v 5))) (.or (.or (.lt (.v 6) (.c (-256))) (.lt (.c 256) (.v 6))) (.or (.or (.lt (.v 7) (.c (-256))) (.lt (.c 256) (.v 7))) (.or (.or (.lt (.v 8) (.c (-256))) (.lt (.c 256) (.v 8))) (.or (.or (.lt (.v 9) (.c (-256))) (.lt (.c 256) (.v 9))) (.or (.or (.lt (.v 10) (.c (-256))) (.lt (.c 256) (.v 10))) (.or (.lt (.v 11) (.c (-256))) (.lt (.c 256) (.v 11)))))))))))))))))) (.ret [(.c 150)])
(.ite (.or (.or (.lt (.v 18) (.mx (.c 0) (.v 16))) (.lt (.sub (.v 14) (.c 1)) (.v 18))) (.or (.or (.lt (.v 19) (.mx (.c 0) (.v 17))) (.lt (.sub (.v 15) (.c 1)) (.v 19))) (.or (.lt (.v 16) (.c 0)) (.lt (.v 17) (.c 0))))) (.ret [(.c 2)])
(.ret [(.c 0)])))
theorem Zrp:Z13 (Zs [] Zui [] Zd3 (Zn Tryz.prog Z78 gl0 Z95 1000 10 [An 16,An 4] [I1]))=Zel:=by kernel_rfl
theorem Z17v:Gok Tryz.prog Z95:=noG
theorem Z17w:Zi Z95 Zui:=Z6
theorem Zgz:Z47.ok Tryz.prog:=Sum.okF facts.mixed Z17v Z17w Zrp rfl (fun _=>rfl) (by
 intro xs hx hp
 obtain ⟨a0,a1,a2,a3,a4,a5,a6,a7,a8,a9,a10,a11,a12,a13,a14,a15,a16,a17,a18,a19,rfl⟩:=Z1e7 hx
 by_cases hc0:Z2b [a0,a1,a2,a3,a4,a5,a6,a7,a8,a9,a10,a11,a12,a13,a14,a15,a16,a17,a18,a19] 0=true
 ·by_cases hc1:winB [a0,a1,a2,a3,a4,a5,a6,a7,a8,a9,a10,a11,a12,a13,a14,a15,a16,a17,a18,a19] 16 14 15=true
  ·have hd0:=hc0
   try simp only [Z2b,Z2p,Zv,Z1h3,Zg,Z5u,TX.sat,XB.prop,X.den,Z1gw,Z1gx,Z1gq,Z1gr,Z1gu,Z1gv,Z1gs,Z1gt,mkS,mkP,and_true,true_and,Z1h1,Z1h2,not_or,not_and,Z1gy,ne_eq,Z1gz,Z1h0,Nat.reduceAdd,Nat.zero_add] at hd0
   have hd1:=hc1
   try simp only [Z2b,Z2p,Zv,Z1h3,Zg,Z5u,TX.sat,XB.prop,X.den,Z1gw,Z1gx,Z1gq,Z1gr,Z1gu,Z1gv,Z1gs,Z1gt,mkS,mkP,and_true,true_and,Z1h1,Z1h2,not_or,not_and,Z1gy,ne_eq,Z1gz,Z1h0,Nat.reduceAdd,Nat.zero_add] at hd1
   simp only [Zel,Z95,TX.sat,XB.prop,X.den,Z1gw,Z1gx,Z1gq,Z1gr,Z1gu,Z1gv,Z1gs,Z1gt,mkS,mkP,and_true,true_and,Z1h1,Z1h2,not_or,not_and,Z1gy,ne_eq,Z1gz,Z1h0,Z3l,Z2q,hc0,hc1,ex3,ex4,ex5,ex6,Zeb,Z9k,er,b01,Zd,if_true,if_false,reduceIte,Bool.false_eq_true,Nat.reduceAdd,Nat.zero_add]
   clear hc0 hc1
   repeat' first | exact trivial | refine And.intro ?_ ?_ | intro _
   all_goals first | trivial | rfl | omega | (simp [Int.max_comm,Int.min_comm]; done) | (simp only [List.cons.injEq,and_true,true_and]; omega) | (split <;> first | trivial | rfl | omega)
  ·have hd0:=hc0
   try simp only [Z2b,Z2p,Zv,Z1h3,Zg,Z5u,TX.sat,XB.prop,X.den,Z1gw,Z1gx,Z1gq,Z1gr,Z1gu,Z1gv,Z1gs,Z1gt,mkS,mkP,and_true,true_and,Z1h1,Z1h2,not_or,not_and,Z1gy,ne_eq,Z1gz,Z1h0,Nat.reduceAdd,Nat.zero_add] at hd0
   have hd1:=hc1
   try simp only [Z2b,Z2p,Zv,Z1h3,Zg,Z5u,TX.sat,XB.prop,X.den,Z1gw,Z1gx,Z1gq,Z1gr,Z1gu,Z1gv,Z1gs,Z1gt,mkS,mkP,and_true,true_and,Z1h1,Z1h2,not_or,not_and,Z1gy,ne_eq,Z1gz,Z1h0,Nat.reduceAdd,Nat.zero_add] at hd1
   simp only [Zel,Z95,TX.sat,XB.prop,X.den,Z1gw,Z1gx,Z1gq,Z1gr,Z1gu,Z1gv,Z1gs,Z1gt,mkS,mkP,and_true,true_and,Z1h1,Z1h2,not_or,not_and,Z1gy,ne_eq,Z1gz,Z1h0,Z3l,Z2q,hc0,hc1,ex3,ex4,ex5,ex6,Zeb,Z9k,er,b01,Zd,if_true,if_false,reduceIte,Bool.false_eq_true,Nat.reduceAdd,Nat.zero_add]
   clear hc0 hc1
   repeat' first | exact trivial | refine And.intro ?_ ?_ | intro _
   all_goals first | trivial | rfl | omega | (simp [Int.max_comm,Int.min_comm]; done) | (simp only [List.cons.injEq,and_true,true_and]; omega) | (split <;> first | trivial | rfl | omega)
 ·have hd0:=hc0
  try simp only [Z2b,Z2p,Zv,Z1h3,Zg,Z5u,TX.sat,XB.prop,X.den,Z1gw,Z1gx,Z1gq,Z1gr,Z1gu,Z1gv,Z1gs,Z1gt,mkS,mkP,and_true,true_and,Z1h1,Z1h2,not_or,not_and,Z1gy,ne_eq,Z1gz,Z1h0,Nat.reduceAdd,Nat.zero_add] at hd0
  simp only [Zel,Z95,TX.sat,XB.prop,X.den,Z1gw,Z1gx,Z1gq,Z1gr,Z1gu,Z1gv,Z1gs,Z1gt,mkS,mkP,and_true,true_and,Z1h1,Z1h2,not_or,not_and,Z1gy,ne_eq,Z1gz,Z1h0,Z3l,Z2q,hc0,ex3,ex4,ex5,ex6,Zeb,Z9k,er,b01,Zd,if_true,if_false,reduceIte,Bool.false_eq_true,Nat.reduceAdd,Nat.zero_add]
  clear hc0
  repeat' first | exact trivial | refine And.intro ?_ ?_ | intro _
  all_goals first | trivial | rfl | omega | (simp [Int.max_comm,Int.min_comm]; done) | (simp only [List.cons.injEq,and_true,true_and]; omega) | (split <;> first | trivial | rfl | omega))
theorem Zrq {x:List Int} {o p q:Nat} {m n:Int} (hm:0≤m) (hn:0≤n) (h1:Zj6 m x o=true) (h2:Zj6 n x p=true) (h3:Zj6 n x q=true):-(3 * (m * (2 * n)))≤Zr9 x o p q∧Zr9 x o p q≤3 * (m * (2 * n)):=by
 rw [Zg] at h1 h2 h3
 have k1:=Z17 (n:=2 * n) (y:=x.getD p 0 - x.getD q 0) h1.1 (by omega)
 have k2:=Z17 (n:=2 * n) (y:=x.getD (p + 1) 0 - x.getD (q + 1) 0) h1.2.1 (by omega)
 have k3:=Z17 (n:=2 * n) (y:=x.getD (p + 2) 0 - x.getD (q + 2) 0) h1.2.2 (by omega)
 unfold Zr9
 omega
theorem Zuj:Z18 Zj7 Z1bn:=⟨fun _ h=>h,fun vs xs h hp=>by
 show Zr (ivs 3 (-24576) 24576++[iv 0 150]) (ex4 (Z7a xs))
 unfold Z7a
 split
 ·rename_i hc
  split
  ·rename_i hv
   simp only [Z2b,Z2p,Z1h3,Nat.reduceAdd] at hc
   obtain ⟨h0,⟨h1,h2,h3⟩,_⟩:=hc
   have k1:=Zrq (by omega) (by omega) h1 hv h0
   have k2:=Zrq (by omega) (by omega) h2 hv h0
   have k3:=Zrq (by omega) (by omega) h3 hv h0
   exact Z1 (Z7.2 (by show _≤Zr9 xs 3 16 0 / 256∧Zr9 xs 3 16 0 / 256≤_; omega)) (Z1 (Z7.2 (by show _≤Zr9 xs 6 16 0 / 256∧Zr9 xs 6 16 0 / 256≤_; omega)) (Z1 (Z7.2 (by show _≤Zr9 xs 9 16 0 / 256∧Zr9 xs 9 16 0 / 256≤_; omega)) (Z1 (Z7.2 (by simp)) Z2)))
  ·exact Z1 (Z7.2 (by simp)) (Z1 (Z7.2 (by simp)) (Z1 (Z7.2 (by simp)) (Z1 (Z7.2 (by simp)) Z2)))
 ·exact Z1 (Z7.2 (by simp)) (Z1 (Z7.2 (by simp)) (Z1 (Z7.2 (by simp)) (Z1 (Z7.2 (by simp)) Z2)))⟩
theorem Zd7:Z18 Z47 Zef:=⟨fun _ h=>h,fun vs xs h hp=>Z1 (Z7.2 (by unfold Z2q; split; split <;> simp; simp)) Z2⟩
theorem Zom {x:List Int} (h:Z2b x 0=true):(1≤x.getD 12 0∧x.getD 12 0≤64)∧(256≤x.getD 13 0∧x.getD 13 0≤4096)∧(1≤x.getD 14 0∧x.getD 14 0≤64)∧(1≤x.getD 15 0∧x.getD 15 0≤64):=by
 simp only [Z2b,Z1h3,Zv,Nat.reduceAdd,Nat.zero_add] at h
 exact h.2.2
theorem Z5v {f n z:Int} (hf:0≤f∧f≤64) (hn:-32768≤n∧n≤32768) (hz:256≤z):-65536≤8 * f * n / z∧8 * f * n / z≤65536:=by
 have:=Z17 (x:=8 * f) (y:=n) (m:=512) (n:=32768) (by omega) hn
 constructor
 ·rw [Int.le_ediv_iff_mul_le (by omega)]
  omega
 ·apply Int.ediv_le_of_le_mul (by omega)
  omega
theorem Zuk {a b:Int} (hb:0 < b) (ha:0≤a):a.tdiv b=a / b:=Zgc hb (Int.tmod_nonneg b ha)
end Go.Proofs.YtgcoidbaoigkeaaGreatDoor.fix
namespace Go.Proofs.YtgcoidbaoigkeaaGreatDoor.fix
open Go.RowKit Go.Sx
theorem Z5w {x:List Int} {o:Nat}:Z33 x o=true↔(((-4096≤x.getD o 0∧x.getD o 0≤4096)∧(-4096≤x.getD (o + 1) 0∧x.getD (o + 1) 0≤4096)∧(-4096≤x.getD (o + 2) 0∧x.getD (o + 2) 0≤4096)) ∧
  ((-4096≤x.getD (o + 3) 0∧x.getD (o + 3) 0≤4096)∧(-4096≤x.getD (o + 4) 0∧x.getD (o + 4) 0≤4096)∧(-4096≤x.getD (o + 5) 0∧x.getD (o + 5) 0≤4096)) ∧
  (x.getD o 0≤x.getD (o + 3) 0∧x.getD (o + 1) 0≤x.getD (o + 4) 0∧x.getD (o + 2) 0≤x.getD (o + 5) 0)):=by
 simp only [Z33,Z1h3,Zg,Zd,Nat.add_assoc,Nat.reduceAdd]
theorem Zul (a0 a1 a2 a3 a4 a5:Int):Z33 [a0,a1,a2,a3,a4,a5] 0=(Zie [a0,a1,a2,a3,a4,a5] 0 && Zad [a0,a1,a2,a3,a4,a5,-4096,-4096,-4096,4096,4096,4096]):=by
 rw [Bool.eq_iff_iff]
 simp only [Z5w,Z1h3,Z4v,Zad,Zd,TX.sat,XB.prop,X.den,Z1gw,Z1gx,Z1gq,Z1gr,Z1gu,Z1gv,Z1gs,Z1gt,mkS,mkP,and_true,true_and,Z1h1,Z1h2,not_or,not_and,Z1gy,ne_eq,Z1gz,Z1h0,Nat.add_assoc,Nat.reduceAdd,Nat.zero_add]
 omega
theorem Zl1 {x:List Int} (h:Z2b x 0=true):((-4096≤x.getD 0 0∧x.getD 0 0≤4096)∧(-4096≤x.getD 1 0∧x.getD 1 0≤4096)∧(-4096≤x.getD 2 0∧x.getD 2 0≤4096)) ∧
  (((-256≤x.getD 3 0∧x.getD 3 0≤256)∧(-256≤x.getD 4 0∧x.getD 4 0≤256)∧(-256≤x.getD 5 0∧x.getD 5 0≤256)) ∧
  ((-256≤x.getD 6 0∧x.getD 6 0≤256)∧(-256≤x.getD 7 0∧x.getD 7 0≤256)∧(-256≤x.getD 8 0∧x.getD 8 0≤256)) ∧
  ((-256≤x.getD 9 0∧x.getD 9 0≤256)∧(-256≤x.getD 10 0∧x.getD 10 0≤256)∧(-256≤x.getD 11 0∧x.getD 11 0≤256))):=by
 simp only [Z2b,Z2p,Z1h3,Zg,Nat.reduceAdd,Nat.zero_add] at h
 exact ⟨h.1,h.2.1⟩
theorem Z7b {m a:Int} (h4:-256≤m∧m≤256) (h:-8192≤a∧a≤8192):-2097152≤m * a∧m * a≤2097152:=by
 have:=Z17 h4 h
 omega
theorem lowA {p q r s t u:Int} (hp:-2097152≤p∧p≤2097152) (hq:-2097152≤q∧q≤2097152) (hr:-2097152≤r∧r≤2097152) (hs:-2097152≤s∧s≤2097152) (ht:-2097152≤t∧t≤2097152) (hu:-2097152≤u∧u≤2097152) :
  (-24576≤(min p q + min r s + min t u) / 256∧(min p q + min r s + min t u) / 256≤24576)∧(-24576≤(max p q + max r s + max t u) / 256∧(max p q + max r s + max t u) / 256≤24576)∧(min p q + min r s + min t u) / 256≤(max p q + max r s + max t u) / 256:=by omega
theorem Zrr {x:List Int} (hc:Z2b x 0=true) (hw:Z33 x 16=true):((-24576≤vw x 0∧vw x 0≤24576)∧(-24576≤vw x 1∧vw x 1≤24576)∧(-24576≤vw x 2∧vw x 2≤24576)) ∧
  ((-24576≤vw x 3∧vw x 3≤24576)∧(-24576≤vw x 4∧vw x 4≤24576)∧(-24576≤vw x 5∧vw x 5≤24576))∧(vw x 0≤vw x 3∧vw x 1≤vw x 4∧vw x 2≤vw x 5):=by
 obtain ⟨p,m⟩:=Zl1 hc
 have b:=Z5w.1 hw
 simp only [Nat.reduceAdd] at b
 have d0:-8192≤x.getD 16 0 - x.getD 0 0∧x.getD 16 0 - x.getD 0 0≤8192:=by omega
 have d1:-8192≤x.getD 17 0 - x.getD 1 0∧x.getD 17 0 - x.getD 1 0≤8192:=by omega
 have d2:-8192≤x.getD 18 0 - x.getD 2 0∧x.getD 18 0 - x.getD 2 0≤8192:=by omega
 have e0:-8192≤x.getD 19 0 - x.getD 0 0∧x.getD 19 0 - x.getD 0 0≤8192:=by omega
 have e1:-8192≤x.getD 20 0 - x.getD 1 0∧x.getD 20 0 - x.getD 1 0≤8192:=by omega
 have e2:-8192≤x.getD 21 0 - x.getD 2 0∧x.getD 21 0 - x.getD 2 0≤8192:=by omega
 obtain ⟨l0,h0,o0⟩:=lowA (Z7b m.1.1 d0) (Z7b m.1.1 e0) (Z7b m.1.2.1 d1) (Z7b m.1.2.1 e1) (Z7b m.1.2.2 d2) (Z7b m.1.2.2 e2)
 obtain ⟨l1,h1,o1⟩:=lowA (Z7b m.2.1.1 d0) (Z7b m.2.1.1 e0) (Z7b m.2.1.2.1 d1) (Z7b m.2.1.2.1 e1) (Z7b m.2.1.2.2 d2) (Z7b m.2.1.2.2 e2)
 obtain ⟨l2,h2,o2⟩:=lowA (Z7b m.2.2.1 d0) (Z7b m.2.2.1 e0) (Z7b m.2.2.2.1 d1) (Z7b m.2.2.2.1 e1) (Z7b m.2.2.2.2 d2) (Z7b m.2.2.2.2 e2)
 exact ⟨⟨l0,l1,l2⟩,⟨h0,h1,h2⟩,o0,o1,o2⟩
theorem Z17x {x:List Int} (hc:Z2b x 0=true) (hw:Z33 x 16=true):Z2p 1024 (Z23 x) 0=true∧Zie (Z23 x) 9=true∧Zie (Zq (Z23 x)) 0=true:=by
 have hs:=Zrr hc hw
 obtain ⟨p,m⟩:=Zl1 hc
 have b:=Z5w.1 hw
 simp only [Nat.reduceAdd] at b
 refine ⟨?_,?_,?_⟩
 ·simp only [Z2p,Z1h3,Zg,Z23,TX.sat,XB.prop,X.den,Z1gw,Z1gx,Z1gq,Z1gr,Z1gu,Z1gv,Z1gs,Z1gt,mkS,mkP,and_true,true_and,Z1h1,Z1h2,not_or,not_and,Z1gy,ne_eq,Z1gz,Z1h0,Nat.reduceAdd,Nat.zero_add]
  clear hs b p
  omega
 ·simp only [Z4v,Z23,TX.sat,XB.prop,X.den,Z1gw,Z1gx,Z1gq,Z1gr,Z1gu,Z1gv,Z1gs,Z1gt,mkS,mkP,and_true,true_and,Z1h1,Z1h2,not_or,not_and,Z1gy,ne_eq,Z1gz,Z1h0,Nat.reduceAdd,Nat.zero_add]
  clear hs m
  omega
 ·rw [Z4v]
  have hs':((-24576≤(Zq (Z23 x)).getD 0 0∧(Zq (Z23 x)).getD 0 0≤24576)∧(-24576≤(Zq (Z23 x)).getD 1 0∧(Zq (Z23 x)).getD 1 0≤24576)∧(-24576≤(Zq (Z23 x)).getD 2 0∧(Zq (Z23 x)).getD 2 0≤24576)) ∧
   ((-24576≤(Zq (Z23 x)).getD 3 0∧(Zq (Z23 x)).getD 3 0≤24576)∧(-24576≤(Zq (Z23 x)).getD 4 0∧(Zq (Z23 x)).getD 4 0≤24576)∧(-24576≤(Zq (Z23 x)).getD 5 0∧(Zq (Z23 x)).getD 5 0≤24576))∧((Zq (Z23 x)).getD 0 0≤(Zq (Z23 x)).getD 3 0∧(Zq (Z23 x)).getD 1 0≤(Zq (Z23 x)).getD 4 0∧(Zq (Z23 x)).getD 2 0≤(Zq (Z23 x)).getD 5 0):=hs
  simp only [Nat.reduceAdd,Nat.zero_add]
  omega
theorem Zl2 {x:List Int} (hc:Z2b x 0=true) (hw:Z33 x 16=true):Z80 (Z23 x)=Zq (Z23 x):=by
 obtain ⟨h1,h2,h3⟩:=Z17x hc hw
 unfold Z80
 rw [if_pos h1,if_pos h2,if_pos h3]
noncomputable def Zd8:List Sum:=[Z32,Z56,Zbe,Zbf]
def Z12a:List Inf:=[Zbg,Zkp,Zu4,Zod]
def Zl3:TX:=(.callp 0 [(.v 0),(.v 1),(.v 2),(.v 3),(.v 4),(.v 5),(.v 6),(.v 7),(.v 8),(.v 9),(.v 10),(.v 11),(.v 12),(.v 13),(.v 14),(.v 15)] (.ite (.not (.eq (.v 22) (.c 0))) (.ret [(.c 0),(.c 0),(.c 0),(.c 0),(.c 0),(.c 0),(.v 22)])
(.callp 1 [(.v 16),(.v 17),(.v 18),(.v 19),(.v 20),(.v 21)] (.ite (.not (.eq (.v 23) (.c 0))) (.ret [(.c 0),(.c 0),(.c 0),(.c 0),(.c 0),(.c 0),(.c 8)])
(.callp 2 [(.v 16),(.v 17),(.v 18),(.v 19),(.v 20),(.v 21),(.c (-4096)),(.c (-4096)),(.c (-4096)),(.c 4096),(.c 4096),(.c 4096)] (.ite (.eq (.v 24) (.c 0)) (.ret [(.c 0),(.c 0),(.c 0),(.c 0),(.c 0),(.c 0),(.c 8)])
(.callp 3 [(.v 3),(.v 4),(.v 5),(.v 6),(.v 7),(.v 8),(.v 9),(.v 10),(.v 11),(.wr .i64 (.sub (.v 16) (.v 0))),(.wr .i64 (.sub (.v 17) (.v 1))),(.wr .i64 (.sub (.v 18) (.v 2))),(.wr .i64 (.sub (.v 19) (.v 0))),(.wr .i64 (.sub (.v 20) (.v 1))),(.wr .i64 (.sub (.v 21) (.v 2)))] (.ret [(.v 25),(.v 26),(.v 27),(.v 28),(.v 29),(.v 30),(.v 31)]))))))))
theorem Zy8:Z13 (Zs [] Z12a [] Zgr (Zn Tryz.prog Z78 gl0 Zd8 1000 53 [An 16,An 6] [An 6,I1]))=Zl3:=by kernel_rfl
theorem Z1ek:Gok Tryz.prog Zd8:=(more Zbr (more Zoj (more Z125 (fix.one Zy7))))
theorem Z1el:Zi Zd8 Z12a:=(Z3 Z94 (Z3 Zj9 (Z3 Zy6 (Z3 Zrn Z6))))
theorem Zum:Z6l.ok Tryz.prog:=Sum.okF facts.mixed Z1ek Z1el Zy8 rfl (fun _=>rfl) (by
 intro xs hx hp
 obtain ⟨a0,a1,a2,a3,a4,a5,a6,a7,a8,a9,a10,a11,a12,a13,a14,a15,a16,a17,a18,a19,a20,a21,rfl⟩:=len22 hx
 have e1:Z2b [a0,a1,a2,a3,a4,a5,a6,a7,a8,a9,a10,a11,a12,a13,a14,a15] 0=Z2b [a0,a1,a2,a3,a4,a5,a6,a7,a8,a9,a10,a11,a12,a13,a14,a15,a16,a17,a18,a19,a20,a21] 0:=rfl
 have e2:Z33 [a0,a1,a2,a3,a4,a5,a6,a7,a8,a9,a10,a11,a12,a13,a14,a15,a16,a17,a18,a19,a20,a21] 16=Z33 [a16,a17,a18,a19,a20,a21] 0:=rfl
 have e3:Zie [a16,a17,a18,a19,a20,a21] 0=Zie [a0,a1,a2,a3,a4,a5,a6,a7,a8,a9,a10,a11,a12,a13,a14,a15,a16,a17,a18,a19,a20,a21] 16:=rfl
 have hL:=@Zl2 [a0,a1,a2,a3,a4,a5,a6,a7,a8,a9,a10,a11,a12,a13,a14,a15,a16,a17,a18,a19,a20,a21]
 have hW:=@Z5w [a0,a1,a2,a3,a4,a5,a6,a7,a8,a9,a10,a11,a12,a13,a14,a15,a16,a17,a18,a19,a20,a21] 16
 have hC:=@Zl1 [a0,a1,a2,a3,a4,a5,a6,a7,a8,a9,a10,a11,a12,a13,a14,a15,a16,a17,a18,a19,a20,a21]
 simp only [TX.sat,XB.prop,X.den,Z1gw,Z1gx,Z1gq,Z1gr,Z1gu,Z1gv,Z1gs,Z1gt,mkS,mkP,and_true,true_and,Z1h1,Z1h2,not_or,not_and,Z1gy,ne_eq,Z1gz,Z1h0,Nat.reduceAdd] at hW hC
 simp only [Z23,TX.sat,XB.prop,X.den,Z1gw,Z1gx,Z1gq,Z1gr,Z1gu,Z1gv,Z1gs,Z1gt,mkS,mkP,and_true,true_and,Z1h1,Z1h2,not_or,not_and,Z1gy,ne_eq,Z1gz,Z1h0] at hL
 clear hx hp
 by_cases hc:Z2b [a0,a1,a2,a3,a4,a5,a6,a7,a8,a9,a10,a11,a12,a13,a14,a15,a16,a17,a18,a19,a20,a21] 0=true
 ·by_cases hw:Z33 [a0,a1,a2,a3,a4,a5,a6,a7,a8,a9,a10,a11,a12,a13,a14,a15,a16,a17,a18,a19,a20,a21] 16=true
  ·have b:=hW.1 hw
   obtain ⟨p,m⟩:=hC hc
   have v:=hL hc hw
   have hw':=hw
   rw [e2,Zul,Z1h3] at hw'
   obtain ⟨hb,hi⟩:=hw'
   have w0:IntKind.i64.wrap (a16 - a0)=a16 - a0:=Zo (by omega) (by omega)
   have w1:IntKind.i64.wrap (a17 - a1)=a17 - a1:=Zo (by omega) (by omega)
   have w2:IntKind.i64.wrap (a18 - a2)=a18 - a2:=Zo (by omega) (by omega)
   have w3:IntKind.i64.wrap (a19 - a0)=a19 - a0:=Zo (by omega) (by omega)
   have w4:IntKind.i64.wrap (a20 - a1)=a20 - a1:=Zo (by omega) (by omega)
   have w5:IntKind.i64.wrap (a21 - a2)=a21 - a2:=Zo (by omega) (by omega)
   simp only [Zl3,Zd8,Z32,Z56,Zbe,Zbf,TX.sat,XB.prop,X.den,Z1gw,Z1gx,Z1gq,Z1gr,Z1gu,Z1gv,Z1gs,Z1gt,mkS,mkP,and_true,true_and,Z1h1,Z1h2,not_or,not_and,Z1gy,ne_eq,Z1gz,Z1h0,Z3k,Z3j,Z5s,Z4t,Z34,Zbh,e1,hc,hw,hb,hi,er,b01,if_true,reduceIte,ex7,w0,w1,w2,w3,w4,w5,v,Z23]
   clear hL hW hC b p m v w0 w1 w2 w3 w4 w5 hi hb
   refine ⟨fun h=>absurd h (by simp),fun _=>⟨fun h=>absurd h (by simp),fun _=>⟨fun h=>absurd h (by simp),fun _=>?_⟩⟩⟩
   first | rfl | trivial
  ·have hw':=hw
   rw [e2,Zul,Z1h3] at hw'
   simp only [Zl3,Zd8,Z32,Z56,Zbe,TX.sat,XB.prop,X.den,Z1gw,Z1gx,Z1gq,Z1gr,Z1gu,Z1gv,Z1gs,Z1gt,mkS,mkP,and_true,true_and,Z1h1,Z1h2,not_or,not_and,Z1gy,ne_eq,Z1gz,Z1h0,Z3k,Z3j,Z5s,Z34,Zbh,e1,hc,hw,er,b01,if_true,if_false,reduceIte,ex7,Bool.false_eq_true,z7]
   clear hL hW hC hw e1 e2 e3 hc
   generalize Zie _ 0=p at *
   generalize Zad _=q at *
   cases p <;> cases q <;> simp_all
 ·simp only [Zl3,Zd8,Z32,TX.sat,XB.prop,X.den,Z1gw,Z1gx,Z1gq,Z1gr,Z1gu,Z1gv,Z1gs,Z1gt,mkS,mkP,and_true,true_and,Z1h1,Z1h2,not_or,not_and,Z1gy,ne_eq,Z1gz,Z1h0,Z3k,Z34,Zbh,e1,hc,er,if_false,reduceIte,ex7,Bool.false_eq_true,z7]
  exact ⟨fun _=>trivial,fun h=>absurd h (by decide)⟩)
theorem Zon:Z18 Z6l Zra:=⟨fun _ h=>h,fun vs xs h hp=>by
 show Zr (ivs 6 (-24576) 24576++[iv 0 150]) (ex7 (Zbh xs))
 have z:∀ e:Int,0≤e→e≤150→Zr (ivs 6 (-24576) 24576++[iv 0 150]) (ex7 (z7 e)):=fun e h1 h2 =>
  Z1 (Z7.2 (by simp [z7])) (Z1 (Z7.2 (by simp [z7])) (Z1 (Z7.2 (by simp [z7])) (Z1 (Z7.2 (by simp [z7])) (Z1 (Z7.2 (by simp [z7])) (Z1 (Z7.2 (by simp [z7])) (Z1 ⟨h1,h2⟩ Z2))))))
 unfold Zbh
 split
 ·rename_i hc
  split
  ·rename_i hw
   obtain ⟨s1,s2,_⟩:=Zrr hc hw
   exact Z1 s1.1 (Z1 s1.2.1 (Z1 s1.2.2 (Z1 s2.1 (Z1 s2.2.1 (Z1 s2.2.2 (Z1 (Z7.2 (by simp [Zq])) Z2))))))
  ·exact z 8 (by omega) (by omega)
 ·exact z 150 (by omega) (by omega)⟩
noncomputable def Zem:List Sum:=[Z1m]
def Zun:List Inf:=[Z7y]
def Zuo:TX:=(.ite (.iff (.le (.c 0) (.v 4)) (.nz (.v 5))) (.callp 0 [(.mul (.v 0) (.v 4)),(.v 2)] (.ret [(.v 6)]))
(.callp 0 [(.mul (.v 0) (.v 4)),(.v 3)] (.ret [(.v 6)])))
theorem Zrs:Z13 (Zs [] Zun [] Z93 (Zn Tryz.prog Z78 gl0 Zem 1000 89 [An 4,I1,Bo] [I1]))=Zuo:=by kernel_rfl
theorem Z17y:Gok Tryz.prog Zem:=(fix.one Z6m)
theorem Z17z:Zi Zem Zun:=(Z3 Z4u Z6)
noncomputable def Zup:List Sum:=[Z1m,Zu2]
def Z1bu:List Inf:=[Z7y,Z1bm]
def Z1bv:TX:=(.callp 1 [(.sub (.v 4) (.c 4)),(.c 8)] (.callp 0 [(.sub (.v 5) (.c 4)),(.c 8)] (.ite (.le (.mx (.v 8) (.v 6)) (.mn (.v 10) (.v 7))) (.ret [(.mx (.v 8) (.v 6)),(.mn (.v 10) (.v 7)),(.c 1)])
(.ret [(.mx (.v 8) (.v 6)),(.mn (.v 10) (.v 7)),(.c 0)]))))
theorem Z12b:Z13 (Zs [] Z1bu [] Zeh (Zn Tryz.prog Z78 gl0 Zup 1000 88 [An 4,I1,I1,I1,I1] [I1,I1,Bo]))=Z1bv:=by kernel_rfl
theorem g_fpix:Gok Tryz.prog Zup:=(more Z6m (fix.one Z1ea))
theorem o_fpix:Zi Zup Z1bu:=(Z3 Z4u (Z3 Z17j Z6))
theorem Z12c:Zeg.ok Tryz.prog:=Sum.okF facts.mixed Z17y Z17z Zrs rfl (fun _=>rfl) (by
 intro xs hx hp
 obtain ⟨a0,a1,a2,a3,a4,a5,rfl⟩:=len6 hx
 simp only [Zuo,Zem,Z1m,TX.sat,XB.prop,X.den,Z1gw,Z1gx,Z1gq,Z1gr,Z1gu,Z1gv,Z1gs,Z1gt,mkS,mkP,and_true,true_and,Z1h1,Z1h2,not_or,not_and,Z1gy,ne_eq,Z1gz,Z1h0,Z4c,Z1d]
 exact ⟨fun h=>by rw [if_pos h],fun h=>by rw [if_neg h]⟩)
theorem Zy9:Z18 Zeg Zu6:=⟨fun _ h=>h,fun vs xs h hp=>by
 have h0:8≤xs.getD 0 0∧xs.getD 0 0≤512:=hp.2 0
 have h2:256≤xs.getD 2 0∧xs.getD 2 0≤32768:=hp.2 2
 have h3:256≤xs.getD 3 0∧xs.getD 3 0≤32768:=hp.2 3
 have h4:-32768≤xs.getD 4 0∧xs.getD 4 0≤32768:=hp.2 4
 refine Z1 ?_ Z2
 have hm:=Z17 (x:=xs.getD 0 0) (y:=xs.getD 4 0) (m:=512) (n:=32768) (by omega) h4
 have key:∀ z:Int,256≤z→-65536≤xs.getD 0 0 * xs.getD 4 0 / z∧xs.getD 0 0 * xs.getD 4 0 / z≤65536:=by
  intro z hz
  constructor
  ·rw [Int.le_ediv_iff_mul_le (by omega)]; omega
  ·apply Int.ediv_le_of_le_mul (by omega); omega
 show Zh (iv (-65536) 65536) (xs.getD 0 0 * xs.getD 4 0 / (if (0≤xs.getD 4 0↔xs.getD 5 0 ≠ 0) then xs.getD 2 0 else xs.getD 3 0))
 split
 ·exact key _ h2.1
 ·exact key _ h3.1⟩
theorem Z1em:Zu7.ok Tryz.prog:=Sum.okF facts.mixed g_fpix o_fpix Z12b rfl (fun _=>rfl) (by
 intro xs hx hp
 obtain ⟨a0,a1,a2,a3,a4,a5,a6,a7,rfl⟩:=len8 hx
 simp only [Z1bv,Zup,Z1m,Zu2,TX.sat,XB.prop,X.den,Z1gw,Z1gx,Z1gq,Z1gr,Z1gu,Z1gv,Z1gs,Z1gt,mkS,mkP,and_true,true_and,Z1h1,Z1h2,not_or,not_and,Z1gy,ne_eq,Z1gz,Z1h0,Zkq,Z1d,Zko,b01,Zd]
 exact ⟨fun h=>by rw [if_pos h],fun h=>by rw [if_neg (by omega)]⟩)
theorem mx_in {a b:Int} (ha:-9223372036854775808≤a∧a≤9223372036854775807) (hb:-9223372036854775808≤b∧b≤9223372036854775807):-9223372036854775808≤max a b∧max a b≤9223372036854775807:=by omega
theorem mn_in {a b:Int} (ha:-9223372036854775808≤a∧a≤9223372036854775807) (hb:-9223372036854775808≤b∧b≤9223372036854775807):-9223372036854775808≤min a b∧min a b≤9223372036854775807:=by omega
theorem Z180:Z18 Zu7 Z1bo:=⟨fun _ h=>h,fun vs xs h hp=>by
 have h4:-1048576≤xs.getD 4 0∧xs.getD 4 0≤1048576:=hp.2 4
 have h5:-1048576≤xs.getD 5 0∧xs.getD 5 0≤1048576:=hp.2 5
 have u1:=Zea (a:=xs.getD 4 0 - 4) (b:=8) (l:=-1048580) (h:=1048580) (by omega) (by omega) (by omega) (by omega) (by omega)
 have u2:=Z5m (a:=xs.getD 5 0 - 4) (b:=8) (l:=-1048580) (h:=1048580) (by omega) (by omega) (by omega) (by omega) (by omega)
 exact Z1 (mx_in (by omega) (hp.2 6)) (Z1 (mn_in (by omega) (hp.2 7)) (Z1 (Zdt _) Z2))⟩
end Go.Proofs.YtgcoidbaoigkeaaGreatDoor.fix
