/-
  Symbolic execution of the model, and what functions of the program come to: part 3.
-/
import Derived.ProofKit
import Derived.OpenShut
import Derived.Carry
import Derived.Test.YtgcoidbaoigkeaaGreatDoorRows
import Derived.KernelRfl
import Derived.LaidLaws
import Derived.RangeFuncNested
import Derived.RangeFuncLeaves
import Derived.Sort.OwnSortedInts
import Derived.Test.YtgcoidbaoigkeaaGreatDoorPkb
set_option linter.unusedVariables false
set_option linter.unusedSimpArgs false
open List renaming getElem?_cons_zero → Z1ke, getElem?_cons_succ → Z1kf, getD_cons_zero → Z1kg, getD_cons_succ → Z1kh, cons_append → Z1ki, nil_append → Z1kj, map_cons → Z1kk, map_nil → Z1kl
namespace Go.Sx
open Go.RowKit
theorem Z1ay {a b:Value} (h:Z1gv a b=true):a=b:=by
 unfold Z1gv at h
 split at h
 ·rfl
 ·rfl
 ·simp only [Z1kr,beq_iff_eq] at h
  rw [h.1,h.2]
 ·cases h
theorem Zkn:∀ {a b:List (Nat × Nat)},Zdk a b=true→a=b
 | [],[],_=>rfl
 | x::xs,y::ys,h=>by
  simp only [Zdk,Z1kr,beq_iff_eq] at h
  rw [Zkn h.2,Prod.ext h.1.1 h.1.2]
 | [],_::_,h=>by simp [Zdk] at h
 | _::_,[],h=>by simp [Zdk] at h
theorem SC.same_eq {a b:SC} (h:a.same b=true):a=b:=by
 cases a <;> cases b <;> simp only [SC.same,Z1kr,beq_iff_eq,Bool.false_eq_true] at h
 ·rw [h.1,E.same_eq _ _ h.2]
 ·rw [B.same_eq _ _ h]
 ·rw [h.1,h.2]
 ·rw [h.1.1,h.1.2,h.2.1,h.2.2]
 ·rw [G.same_eq _ _ h]
 ·rw [G.same_eq _ _ h.1.1,h.1.2,E.same_eq _ _ h.2.1,E.same_eq _ _ h.2.2]
 ·rw [G.same_eq _ _ h.1.1,h.1.2,E.same_eq _ _ h.2.1,h.2.2]
 ·rw [G.same_eq _ _ h]
 ·rw [h.1,Zkn h.2]
 ·rw [Z1ay h]
theorem Zfq:∀ {a b:List SC},Zop a b=true→a=b
 | [],[],_=>rfl
 | x::xs,y::ys,h=>by
  simp only [Zop,Z1kr] at h
  rw [SC.same_eq h.1,Zfq h.2]
 | [],_::_,h=>by simp [Zop] at h
 | _::_,[],h=>by simp [Zop] at h
theorem SW.same_eq {a b:SW} (h:a.same b=true):a=b:=by
 cases a <;> cases b <;> simp only [SW.same,Bool.false_eq_true] at h
 ·rw [SC.same_eq h]
 ·rw [Zfq h]
theorem Zvy:∀ {a b:List SW},Zz9 a b=true→a=b
 | [],[],_=>rfl
 | x::xs,y::ys,h=>by
  simp only [Zz9,Z1kr] at h
  rw [SW.same_eq h.1,Zvy h.2]
 | [],_::_,h=>by simp [Zz9] at h
 | _::_,[],h=>by simp [Zz9] at h
theorem SV.same_eq {a b:SV} (h:a.same b=true):a=b:=by
 cases a <;> cases b <;> simp only [SV.same,beq_iff_eq,Bool.false_eq_true] at h
 ·rw [SW.same_eq h]
 ·rw [Zvy h]
 ·rw [h]
section
variable {ex e2:Env} {W0:Bas} {sx:St} {w:World}
def VOK (ex:Env) (sx:St) (vals:List Value) (us:List Nat):Prop :=
 Zom vals∧∀ v ∈ vals,∀ k,Z7 v=some k→∃ n b,n ∈ us∧sx.rows[n]?=some b∧b.live=true∧sx.flr≤n∧Z7 ((G.o n).val ex)=some k
theorem VOK.nil (ex:Env) (sx:St):VOK ex sx [] []:=⟨List.Pairwise.nil,fun v hv=>by simp at hv⟩
theorem VOK.app (hrep:Rep ex W0 sx w) {a b:List Value} {us ts:List Nat} (ha:VOK ex sx a us) (hb:VOK ex sx b ts) (hn:(us++ts).Nodup):VOK ex sx (a++b) (us++ts):=by
 refine ⟨List.pairwise_append.2 ⟨ha.1,hb.1,fun u hu v hv k hk hk'=>?_⟩,fun v hv k hk=>?_⟩
 ·obtain ⟨n,b1,h1,h2,h3,_,h5⟩:=ha.2 u hu k hk
  obtain ⟨m,b2,h1',h2',h3',_,h5'⟩:=hb.2 v hv k hk'
  have:=hrep.rsep n m b1 b2 k h2 h2' h3 h3' h5 h5'
  subst this
  exact (List.nodup_append.1 hn).2.2 n h1 n h1' rfl
 ·rcases List.mem_append.1 hv with hv | hv
  ·obtain ⟨n,b,h1,h2⟩:=ha.2 v hv k hk
   exact ⟨n,b,List.mem_append_left _ h1,h2⟩
  ·obtain ⟨n,b,h1,h2⟩:=hb.2 v hv k hk
   exact ⟨n,b,List.mem_append_right _ h1,h2⟩
def Z8w (w:World) (e2:Env) (rows:List Row) (vals:List Value):Prop :=
 rows.length=vals.length∧∀ (j:Nat) (b:Row) (v:Value),rows[j]?=some b→vals[j]?=some v→b.live=true∧(∃ a l c,v=.slice a l c)∧Zt w b.ty b.ks v (b.c.den e2.R e2.r)
theorem Z8w.app {r1 r2:List Row} {v1 v2:List Value} (h1:Z8w w e2 r1 v1) (h2:Z8w w e2 r2 v2):Z8w w e2 (r1++r2) (v1++v2):=by
 refine ⟨by simp [h1.1,h2.1],fun j b v hb hv=>?_⟩
 rcases Nat.lt_or_ge j r1.length with hj | hj
 ·rw [List.getElem?_append_left hj] at hb
  rw [List.getElem?_append_left (by rw [← h1.1]; exact hj)] at hv
  exact h1.2 j b v hb hv
 ·rw [List.getElem?_append_right hj] at hb
  rw [List.getElem?_append_right (by rw [← h1.1]; exact hj),← h1.1] at hv
  exact h2.2 _ b v hb hv
theorem Z13g (hrep:Rep ex W0 sx w) {ty:TypeId} {ks:List K} {c:SC} {aZ:List B} {x:E} {u:List Nat} (h:rowM sx ty ks c=some (aZ,x,u)) (has:∀ b ∈ aZ,b.den ex.R ex.r=true) :
  Zt w ty ks (c.den ex) (x.den ex.R ex.r)∧VOK ex sx [c.den ex] u∧∃ a l cp,c.den ex=.slice a l cp:=by
 have single:∀ {v:Value} {u:List Nat},(∀ k,Z7 v=some k→∃ n b,n ∈ u∧sx.rows[n]?=some b∧b.live=true∧sx.flr≤n∧Z7 ((G.o n).val ex)=some k)→VOK ex sx [v] u:=by
  intro v u h
  exact ⟨List.pairwise_singleton _ _,fun v' hv'=>by simp only [List.mem_singleton] at hv'; subst hv'; exact h⟩
 unfold rowM at h
 split at h
 ·simp only [Option.some.injEq,Prod.mk.injEq] at h
  obtain ⟨rfl,rfl,rfl⟩:=h
  exact ⟨.inl ⟨by simp [E.den],_,rfl⟩,single (fun k hk=>by cases hk),_,_,_,rfl⟩
 ·rename_i g
  split at h
  ·rename_i hg
   simp only [Option.some.injEq,Prod.mk.injEq] at h
   obtain ⟨rfl,rfl,rfl⟩:=h
   obtain ⟨⟨ks',c'⟩,hg'⟩:=Option.isSome_iff_exists.1 hg
   obtain ⟨a,l,c,hv⟩:=G.val_slice ex g
   have hd:(SC.gz g).den ex=.slice a 0 0:=by simp only [SC.den]; rw [hv]; rfl
   rw [hd]
   exact ⟨.inl ⟨by simp [E.den],_,rfl⟩,single (fun k hk=>by cases a <;> simp [Z7] at hk),_,_,_,rfl⟩
  ·cases h
 ·rename_i n
  split at h
  ·rename_i b hb
   split at h
   ·rename_i hc
    simp only [Z1kr,Z1ks] at hc
    obtain ⟨⟨⟨hl,hf⟩,hty⟩,hks⟩:=hc
    simp only [Option.some.injEq,Prod.mk.injEq] at h
    obtain ⟨rfl,rfl,rfl⟩:=h
    subst hty
    rw [← Z1d hks]
    exact ⟨hrep.row n b hb hl,single (fun k hk=>⟨n,b,by simp,hb,hl,hf,hk⟩),G.val_slice ex (.o n)⟩
   ·cases h
  ·cases h
 ·rename_i n size hi
  split at h
  ·rename_i b hb
   split at h
   ·rename_i hc
    simp only [Z1kr,Z1ks] at hc
    obtain ⟨⟨⟨⟨hl,hf⟩,hty⟩,hks⟩,hsz⟩:=hc
    simp only [Option.some.injEq,Prod.mk.injEq] at h
    obtain ⟨rfl,rfl,rfl⟩:=h
    subst hty
    rw [← Z1d hks]
    obtain ⟨v1,v2,v3⟩:=Zf4 has
    simp only [E.den] at v2
    obtain ⟨ht1,ht2⟩:=(hrep.row n b hb hl).take (c':=(Zbm b.c hi).den ex.R ex.r) (hi:=(hi.den ex.R ex.r).toNat) (by rw [Zdm,Z3]) (by omega) size
    have hval:(SC.gv (.o n) size (.c 0) hi).den ex=Z8i size ((G.o n).val ex) 0 (hi.den ex.R ex.r).toNat:=rfl
    rw [hval]
    refine ⟨ht1,single (fun k hk=>⟨n,b,by simp,hb,hl,hf,by rw [← ht2]; exact hk⟩),?_⟩
    obtain ⟨a,l,cp,hv⟩:=G.val_slice ex (.o n)
    rw [hv]
    exact ⟨_,_,_,rfl⟩
   ·cases h
  ·cases h
 ·cases h
theorem Z1hf (hrep:Rep ex W0 sx w) {ty:TypeId} {ks:List K} {c:SC} {x:E} {u:Nat} (h:arrM sx ty ks c=some (x,u)) :
  Zt w ty ks ((G.o u).val ex) (x.den ex.R ex.r)∧VOK ex sx [(G.o u).val ex] [u]∧c.den ex=.pointer (atV ks.length ((G.o u).val ex) 0 0):=by
 unfold arrM at h
 split at h
 ·rename_i n size
  split at h
  ·rename_i b hb
   split at h
   ·rename_i hc
    simp only [Z1kr,Z1ks] at hc
    obtain ⟨⟨⟨⟨hl,hf⟩,hty⟩,hks⟩,hsz⟩:=hc
    simp only [Option.some.injEq,Prod.mk.injEq] at h
    obtain ⟨rfl,rfl⟩:=h
    subst hty
    rw [← Z1d hks] at hsz ⊢
    subst hsz
    refine ⟨hrep.row n b hb hl,⟨List.pairwise_singleton _ _,fun v' hv'=>?_⟩,rfl⟩
    simp only [List.mem_singleton] at hv'
    subst hv'
    exact fun k hk=>⟨n,b,by simp,hb,hl,hf,hk⟩
   ·cases h
  ·cases h
 ·cases h
def arrV (ex:Env):SC→Value
 | .gp (.o n) _ _ _=>slV (ex.σ.getD n undef)
 | _=>.slice none 0 0
theorem Z13h {ty:TypeId} {ks:List K} {c:SC} {x:E} {u:Nat} (h:arrM sx ty ks c=some (x,u)):arrV ex c=(G.o u).val ex:=by
 unfold arrM at h
 split at h
 ·split at h
  ·split at h
   ·simp only [Option.some.injEq,Prod.mk.injEq] at h
    obtain ⟨_,rfl⟩:=h
    rfl
   ·cases h
  ·cases h
 ·cases h
noncomputable def Z4j (ex:Env):List Ck→List SC→List Value
 | .arr _ _::l,x::xs=>arrV ex x::Z4j ex l xs
 | .row _ _::l,x::xs=>x.den ex::Z4j ex l xs
 | _::l,_::xs=>Z4j ex l xs
 | _,_=>[]
theorem Zhq (hrep:Rep ex W0 sx w):∀ {l:List Ck} {cs xs:List SC} {aZ:List B} {es:List E} {us:List Nat},Z2w sx l cs xs=some (aZ,es,us)→(∀ b ∈ aZ,b.den ex.R ex.r=true)→us.Nodup →
  es.length=nvC l∧(Z4j ex l xs).length=ngC l∧VOK ex sx (Z4j ex l xs) us∧∀ (e2:Env) (nv ng:Nat),(∀ c ∈ cs,c.den e2=c.den ex)→(∀ (t:Nat) (n:Int),(es.map (E.den ex.R ex.r))[t]?=some n→e2.r.getD (nv + t) 0=n) →
   (∀ (t:Nat) (v:Value),(Z4j ex l xs)[t]?=some v→(G.o (ng + t)).val e2=v)→(Zsb l cs nv ng).map (SC.den e2)=xs.map (SC.den ex)∧Z8w w e2 (Zk3 l nv) (Z4j ex l xs):=by
 intro l
 induction l with
 | nil =>
  intro cs xs aZ es us h _ _
  cases cs <;> cases xs <;> simp only [Z2w,Option.some.injEq,Prod.mk.injEq,reduceCtorEq] at h
  obtain ⟨rfl,rfl,rfl⟩:=h
  exact ⟨rfl,rfl,VOK.nil _ _,fun e2 nv ng _ _ _=>⟨rfl,rfl,fun j b v hb=>by simp [Zk3] at hb⟩⟩
 | cons p l ih =>
  intro cs xs aZ es us h has hnd
  cases cs with
  | nil=>cases p <;> simp [Z2w] at h
  | cons c cs =>
   cases xs with
   | nil=>cases p <;> simp [Z2w] at h
   | cons x xs =>
    cases p with
    | keep =>
     simp only [Z2w] at h
     split at h
     ·rename_i hs
      have hcx:=SC.same_eq hs
      subst hcx
      obtain ⟨h1,h2,h3,h4⟩:=ih h has hnd
      refine ⟨h1,h2,h3,fun e2 nv ng hc hv hg=>?_⟩
      obtain ⟨h5,h6⟩:=h4 e2 nv ng (fun c hc'=>hc c (by simp [hc'])) hv hg
      exact ⟨by simp only [Zsb,Z1kk,h5,hc c (by simp)],h6⟩
     ·cases h
    | num k =>
     simp only [Z2w] at h
     split at h
     ·rename_i xe as1 es1 us1 hf hm
      simp only [Option.some.injEq,Prod.mk.injEq] at h
      obtain ⟨rfl,rfl,rfl⟩:=h
      obtain ⟨h1,h2,h3,h4⟩:=ih hm has hnd
      refine ⟨by simp [nvC,h1],by simpa [Z4j,ngC] using h2,by simpa [Z4j] using h3,fun e2 nv ng hc hv hg=>?_⟩
      obtain ⟨h5,h6⟩:=h4 e2 (nv + 1) ng (fun c hc'=>hc c (by simp [hc'])) (fun t n ht=>by
       have:=hv (t + 1) n (by simpa using ht)
       rwa [show nv + (t + 1)=nv + 1 + t by omega] at this) (fun t v ht=>hg t v (by simpa [Z4j] using ht))
      have h0:=hv 0 (xe.den ex.R ex.r) rfl
      rw [Nat.add_zero] at h0
      obtain ⟨_,hd⟩:=Z5a (e:=ex) hf
      simp only [Z1kk,Z1kl,Za,List.cons.injEq,and_true] at hd
      refine ⟨?_,by simpa [Zk3,Z4j] using h6⟩
      cases k with
      | i k =>
       simp only [Zsb,Z1kk,h5,hd,K.mk]
       congr 1
       simp only [SC.den,E.den,h0]
      | b =>
       simp only [Zsb,Z1kk,h5,hd,K.mk]
       congr 1
       simp only [SC.den,B.den,E.den,h0]
      | s ty kr=>cases x <;> simp [Z3e] at hf
     ·cases h
    | row ty ks =>
     simp only [Z2w] at h
     split at h
     ·rename_i as1 xe u1 as2 es2 us2 hr hm
      simp only [Option.some.injEq,Prod.mk.injEq] at h
      obtain ⟨rfl,rfl,rfl⟩:=h
      obtain ⟨h1,h2,h3,h4⟩:=ih hm (fun b hb=>has b (List.mem_append_right _ hb)) (List.nodup_append.1 hnd).2.1
      obtain ⟨r1,r2,r3⟩:=Z13g hrep hr (fun b hb=>has b (List.mem_append_left _ hb))
      refine ⟨by simp [nvC,h1],by simp [Z4j,ngC,h2],by simpa [Z4j] using VOK.app hrep r2 h3 hnd,fun e2 nv ng hc hv hg=>?_⟩
      obtain ⟨h5,h6⟩:=h4 e2 (nv + 1) (ng + 1) (fun c hc'=>hc c (by simp [hc'])) (fun t n ht=>by
       have:=hv (t + 1) n (by simpa using ht)
       rwa [show nv + (t + 1)=nv + 1 + t by omega] at this) (fun t v ht=>by
       have:=hg (t + 1) v (by simpa [Z4j] using ht)
       rwa [show ng + (t + 1)=ng + 1 + t by omega] at this)
      have h0:=hv 0 (xe.den ex.R ex.r) rfl
      rw [Nat.add_zero] at h0
      have hg0:=hg 0 (x.den ex) rfl
      rw [Nat.add_zero] at hg0
      refine ⟨?_,?_⟩
      ·simp only [Zsb,Z1kk,h5]
       congr 1
      ·have hone:Z8w w e2 [(⟨ty,ks,.v nv,true⟩:Row)] [x.den ex]:=⟨rfl,fun j b v hb hv'=>by
        cases j with
        | zero =>
         simp only [Z1ke,Option.some.injEq] at hb hv'
         subst hb; subst hv'
         refine ⟨rfl,r3,?_⟩
         show Zt w ty ks _ (e2.r.getD nv 0)
         rw [h0]
         exact r1
        | succ j=>simp at hb⟩
       exact hone.app h6
     ·cases h
    | arr ty ks =>
     simp only [Z2w] at h
     split at h
     ·rename_i xe u1 as2 es2 us2 hr hm
      simp only [Option.some.injEq,Prod.mk.injEq] at h
      obtain ⟨rfl,rfl,rfl⟩:=h
      obtain ⟨h1,h2,h3,h4⟩:=ih hm has (List.nodup_append.1 hnd).2.1
      obtain ⟨r1,r2,r3⟩:=Z1hf hrep hr
      have r4:=Z13h (ex:=ex) hr
      rw [← r4] at r2
      refine ⟨by simp [nvC,h1],by simp [Z4j,ngC,h2],by simpa [Z4j] using VOK.app hrep r2 h3 hnd,fun e2 nv ng hc hv hg=>?_⟩
      obtain ⟨h5,h6⟩:=h4 e2 (nv + 1) (ng + 1) (fun c hc'=>hc c (by simp [hc'])) (fun t n ht=>by
       have:=hv (t + 1) n (by simpa using ht)
       rwa [show nv + (t + 1)=nv + 1 + t by omega] at this) (fun t v ht=>by
       have:=hg (t + 1) v (by simpa [Z4j] using ht)
       rwa [show ng + (t + 1)=ng + 1 + t by omega] at this)
      have h0:=hv 0 (xe.den ex.R ex.r) rfl
      rw [Nat.add_zero] at h0
      have hg0:=hg 0 (arrV ex x) rfl
      rw [Nat.add_zero,r4] at hg0
      refine ⟨?_,?_⟩
      ·simp only [Zsb,Z1kk,h5]
       congr 1
       rw [r3]
       simp only [SC.den,hg0,E.den]
       rfl
      ·have hone:Z8w w e2 [(⟨ty,ks,.v nv,true⟩:Row)] [arrV ex x]:=⟨rfl,fun j b v hb hv'=>by
        cases j with
        | zero =>
         simp only [Z1ke,Option.some.injEq] at hb hv'
         subst hb; subst hv'
         rw [r4]
         refine ⟨rfl,G.val_slice ex (.o u1),?_⟩
         show Zt w ty ks _ (e2.r.getD nv 0)
         rw [h0]
         exact r1
        | succ j=>simp at hb⟩
       exact hone.app h6
     ·cases h
noncomputable def Z13i (ex:Env) (p:List Ck) (x:SV):List Value:=match x with
 | .w y=>Z4j ex p y.cells
 | _=>[]
noncomputable def Zb3 (ex:Env):List Sk→List SV→List Value
 | .cells p::l,x::xs=>Z13i ex p x++Zb3 ex l xs
 | _::l,_::xs=>Zb3 ex l xs
 | _,_=>[]
noncomputable def Z13j (ex:Env):List Sk→List SV→List Value
 | .un::l,x::xs=>x.den ex::Z13j ex l xs
 | _::l,_::xs=>Z13j ex l xs
 | _,_=>[]
theorem Z9z {α:Type} {P:Nat→α→Prop} {a b:List α} (h:∀ (t:Nat) (n:α),(a++b)[t]?=some n→P t n):∀ (t:Nat) (n:α),a[t]?=some n→P t n:=fun t n ht=>h t n (by
 rw [List.getElem?_append_left (List.getElem?_eq_some_iff.1 ht).1]; exact ht)
theorem Z6j {α:Type} {P:Nat→α→Prop} {a b:List α} (h:∀ (t:Nat) (n:α),(a++b)[t]?=some n→P t n):∀ (t:Nat) (n:α),b[t]?=some n→P (a.length + t) n:=fun t n ht=>h _ n (by
 rw [List.getElem?_append_right (by omega),Nat.add_sub_cancel_left]; exact ht)
theorem Z13k (hrep:Rep ex W0 sx w) {l:List Ck} {v x:SV} {aZ:List B} {es:List E} {us:List Nat} (h:Zvf sx l v x=some (aZ,es,us)) (has:∀ b ∈ aZ,b.den ex.R ex.r=true) (hnd:us.Nodup) :
  es.length=nvC l∧(Z13i ex l x).length=ngC l∧VOK ex sx (Z13i ex l x) us∧∀ (e2:Env) (nv ng:Nat),(∀ y,v=.w y→∀ c ∈ y.cells,c.den e2=c.den ex)→(∀ (t:Nat) (n:Int),(es.map (E.den ex.R ex.r))[t]?=some n→e2.r.getD (nv + t) 0=n) →
   (∀ (t:Nat) (v:Value),(Z13i ex l x)[t]?=some v→(G.o (ng + t)).val e2=v)→(genV l v nv ng).den e2=x.den ex∧Z8w w e2 (Zk3 l nv) (Z13i ex l x):=by
 unfold Zvf at h
 split at h
 ·rename_i c d
  obtain ⟨h1,h2,h3,h4⟩:=Zhq hrep h has hnd
  refine ⟨h1,h2,h3,fun e2 nv ng hc hv hg=>?_⟩
  obtain ⟨h5,h6⟩:=h4 e2 nv ng (hc _ rfl) hv hg
  refine ⟨?_,h6⟩
  cases hgc:Zsb l [c] nv ng with
  | nil=>rw [hgc] at h5; simp at h5
  | cons c' r =>
   rw [hgc] at h5
   simp only [Z1kk,Z1kl,List.cons.injEq] at h5
   simp only [genV,hgc]
   exact h5.1
 ·rename_i cs ds
  obtain ⟨h1,h2,h3,h4⟩:=Zhq hrep h has hnd
  refine ⟨h1,h2,h3,fun e2 nv ng hc hv hg=>?_⟩
  obtain ⟨h5,h6⟩:=h4 e2 nv ng (hc _ rfl) hv hg
  refine ⟨?_,h6⟩
  simp only [genV,SV.den,SW.den,h5]
 ·cases h
theorem Z13l (hrep:Rep ex W0 sx w):∀ {l:List Sk} {vs xs:List SV} {aZ:List B} {es:List E} {us:List Nat},Z3f sx l vs xs=some (aZ,es,us)→(∀ b ∈ aZ,b.den ex.R ex.r=true)→us.Nodup →
  es.length=nvS l∧(Zb3 ex l xs).length=ngS l∧(Z13j ex l xs).length=nxS l∧VOK ex sx (Zb3 ex l xs) us∧∀ (e2:Env) (nv ng nx:Nat),(∀ v ∈ vs,v.den e2=v.den ex∧∀ y,v=.w y→∀ c ∈ y.cells,c.den e2=c.den ex) →
   (∀ (t:Nat) (n:Int),(es.map (E.den ex.R ex.r))[t]?=some n→e2.r.getD (nv + t) 0=n)→(∀ (t:Nat) (v:Value),(Zb3 ex l xs)[t]?=some v→(G.o (ng + t)).val e2=v) →
   (∀ (t:Nat) (v:Value),(Z13j ex l xs)[t]?=some v→e2.ω.getD (nx + t) undef=v)→(Z1ae l vs nv ng nx).map (SV.den e2)=xs.map (SV.den ex)∧Z8w w e2 (Zow l nv) (Zb3 ex l xs):=by
 intro l
 induction l with
 | nil =>
  intro vs xs aZ es us h _ _
  cases vs <;> cases xs <;> simp only [Z3f,Option.some.injEq,Prod.mk.injEq,reduceCtorEq] at h
  obtain ⟨rfl,rfl,rfl⟩:=h
  exact ⟨rfl,rfl,rfl,VOK.nil _ _,fun e2 nv ng nx _ _ _ _=>⟨rfl,rfl,fun j b v hb=>by simp [Zow] at hb⟩⟩
 | cons p l ih =>
  intro vs xs aZ es us h has hnd
  cases vs with
  | nil=>cases p <;> simp [Z3f] at h
  | cons v vs =>
   cases xs with
   | nil=>cases p <;> simp [Z3f] at h
   | cons x xs =>
    cases p with
    | keep =>
     simp only [Z3f] at h
     split at h
     ·rename_i hs
      have hcx:=SV.same_eq hs
      subst hcx
      obtain ⟨h1,h2,h2u,h3,h4⟩:=ih h has hnd
      refine ⟨h1,h2,h2u,h3,fun e2 nv ng nx hc hv hg hu=>?_⟩
      obtain ⟨h5,h6⟩:=h4 e2 nv ng nx (fun c hc'=>hc c (by simp [hc'])) hv hg hu
      exact ⟨by simp only [Z1ae,Z1kk,h5,(hc v (by simp)).1],h6⟩
     ·cases h
    | un =>
     simp only [Z3f] at h
     obtain ⟨h1,h2,h2u,h3,h4⟩:=ih h has hnd
     refine ⟨h1,h2,by simp [Z13j,nxS,h2u],h3,fun e2 nv ng nx hc hv hg hu=>?_⟩
     obtain ⟨h5,h6⟩:=h4 e2 nv ng (nx + 1) (fun c hc'=>hc c (by simp [hc'])) hv hg (fun t v ht=>by
      have:=hu (t + 1) v (by simpa [Z13j] using ht)
      rwa [show nx + (t + 1)=nx + 1 + t by omega] at this)
     have h0:=hu 0 (x.den ex) rfl
     rw [Nat.add_zero] at h0
     exact ⟨by simp only [Z1ae,Z1kk,h5,SV.den,h0],h6⟩
    | cells p =>
     simp only [Z3f] at h
     split at h
     ·rename_i as1 es1 us1 as2 es2 us2 hm1 hm2
      simp only [Option.some.injEq,Prod.mk.injEq] at h
      obtain ⟨rfl,rfl,rfl⟩:=h
      obtain ⟨n1,n2,n3⟩:=List.nodup_append.1 hnd
      obtain ⟨a1,a2,a3,a4⟩:=Z13k hrep hm1 (fun b hb=>has b (List.mem_append_left _ hb)) n1
      obtain ⟨b1,b2,b2u,b3,b4⟩:=ih hm2 (fun b hb=>has b (List.mem_append_right _ hb)) n2
      refine ⟨by simp [nvS,a1,b1],by simp [Zb3,ngS,a2,b2],b2u,VOK.app hrep a3 b3 hnd,fun e2 nv ng nx hc hv hg hu=>?_⟩
      rw [List.map_append] at hv
      simp only [Zb3] at hg
      obtain ⟨a5,a6⟩:=a4 e2 nv ng (fun y hy=>(hc v (by simp)).2 y hy) (Z9z hv) (Z9z hg)
      obtain ⟨b5,b6⟩:=b4 e2 (nv + nvC p) (ng + ngC p) nx (fun c hc'=>hc c (by simp [hc'])) (fun t n ht=>by
       have:=Z6j hv t n ht
       rwa [List.length_map,a1,← Nat.add_assoc] at this) (fun t v ht=>by
       have:=Z6j hg t v ht
       rwa [a2,← Nat.add_assoc] at this) hu
      exact ⟨by simp only [Z1ae,Z1kk,a5,b5],a6.app b6⟩
     ·cases h
noncomputable def Zhr (ex:Env):List (List Ck)→List Blk→List Value
 | p::l,x::xs=>Z4j ex p x.cells++Zhr ex l xs
 | _,_=>[]
theorem Z13m (hrep:Rep ex W0 sx w):∀ {l:List (List Ck)} {bs xs:List Blk} {aZ:List B} {es:List E} {us:List Nat},Z6c sx l bs xs=some (aZ,es,us)→(∀ b ∈ aZ,b.den ex.R ex.r=true)→us.Nodup →
  l.length=bs.length∧es.length=nvM l∧(Zhr ex l xs).length=(l.map ngC).sum∧VOK ex sx (Zhr ex l xs) us∧∀ (e2:Env) (nv ng:Nat),(∀ b ∈ bs,∀ c ∈ b.cells,c.den e2=c.den ex) →
   (∀ (t:Nat) (n:Int),(es.map (E.den ex.R ex.r))[t]?=some n→e2.r.getD (nv + t) 0=n)→(∀ (t:Nat) (v:Value),(Zhr ex l xs)[t]?=some v→(G.o (ng + t)).val e2=v) →
   (∀ (n:Nat) (b:Blk),(Z1af l bs nv ng)[n]?=some b→∃ x:Blk,xs[n]?=some x∧x.live=true∧b.ty=x.ty∧b.cells.map (SC.den e2)=x.cells.map (SC.den ex))∧Z8w w e2 (Zsc l nv) (Zhr ex l xs)∧(Z1af l bs nv ng).length=bs.length:=by
 intro l
 induction l with
 | nil =>
  intro bs xs aZ es us h _ _
  cases bs <;> simp only [Z6c,Option.some.injEq,Prod.mk.injEq,reduceCtorEq] at h
  obtain ⟨rfl,rfl,rfl⟩:=h
  exact ⟨rfl,rfl,rfl,VOK.nil _ _,fun e2 nv ng _ _ _=>⟨fun n b hb=>by simp [Z1af] at hb,⟨rfl,fun j b v hb=>by simp [Zsc] at hb⟩,rfl⟩⟩
 | cons p l ih =>
  intro bs xs aZ es us h has hnd
  cases bs with
  | nil=>simp [Z6c] at h
  | cons b bs =>
   cases xs with
   | nil=>simp [Z6c] at h
   | cons x xs =>
    simp only [Z6c] at h
    split at h
    ·rename_i hc
     simp only [Z1kr,Z1ks] at hc
     split at h
     ·rename_i as1 es1 us1 as2 es2 us2 hm1 hm2
      simp only [Option.some.injEq,Prod.mk.injEq] at h
      obtain ⟨rfl,rfl,rfl⟩:=h
      obtain ⟨n1,n2,n3⟩:=List.nodup_append.1 hnd
      obtain ⟨a1,a2,a3,a4⟩:=Zhq hrep hm1 (fun b hb=>has b (List.mem_append_left _ hb)) n1
      obtain ⟨b0,b1,b2,b3,b4⟩:=ih hm2 (fun b hb=>has b (List.mem_append_right _ hb)) n2
      refine ⟨by simp [b0],by simp [nvM,a1,b1],by simp [Zhr,a2,b2],VOK.app hrep a3 b3 hnd,fun e2 nv ng hcc hv hg=>?_⟩
      rw [List.map_append] at hv
      simp only [Zhr] at hg
      obtain ⟨a5,a6⟩:=a4 e2 nv ng (hcc b (by simp)) (Z9z hv) (Z9z hg)
      obtain ⟨b5,b6,b7⟩:=b4 e2 (nv + nvC p) (ng + ngC p) (fun b hb=>hcc b (by simp [hb])) (fun t n ht=>by
       have:=Z6j hv t n ht
       rwa [List.length_map,a1,← Nat.add_assoc] at this) (fun t v ht=>by
       have:=Z6j hg t v ht
       rwa [a2,← Nat.add_assoc] at this)
      refine ⟨fun n b' hb'=>?_,a6.app b6,by simp [Z1af,b7]⟩
      cases n with
      | zero =>
       simp only [Z1af,Z1ke,Option.some.injEq] at hb'
       subst hb'
       exact ⟨x,rfl,hc.1.2,hc.2,a5⟩
      | succ n =>
       obtain ⟨y,h1,h2⟩:=b5 n b' (by simpa [Z1af] using hb')
       exact ⟨y,by simpa using h1,h2⟩
     ·cases h
    ·cases h
theorem Zpl (us:List Nat):∀ (l:List Row) (k n:Nat),(Zav us k l)[n]?=(l[n]?).map fun b=>if us.contains (k + n) then { b with live:=false } else b
 | [],k,n=>by simp [Zav]
 | b::l,k,0=>by simp [Zav]
 | b::l,k,n + 1=>by
  simp only [Zav,Z1kf]
  rw [Zpl us l (k + 1) n]
  simp only [Nat.add_assoc,Nat.add_comm 1 n]
theorem Z4f (us:List Nat):∀ (l:List Row) (k:Nat),(Zav us k l).length=l.length
 | [],_=>rfl
 | _::l,k=>by simp [Zav,Z4f us l (k + 1)]
theorem Zko {us:List Nat} {l:List Row} {n:Nat} {b:Row} (h:(Zav us 0 l)[n]?=some b) (hl:b.live=true):l[n]?=some b∧n ∉ us:=by
 rw [Zpl,Option.map_eq_some_iff] at h
 obtain ⟨b',h1,h2⟩:=h
 simp only [Nat.zero_add] at h2
 split at h2
 ·subst h2; cases hl
 ·rename_i hn
  subst h2
  exact ⟨h1,by simpa using hn⟩
theorem Zkp {us:List Nat}:∀ {l xs:List Row} {k:Nat},Zzc us k l xs=true→∀ (n:Nat) (b:Row),l[n]?=some b→b.live=true→k + n ∉ us∧∃ x:Row,xs[n]?=some x∧x.live=true∧b.ty=x.ty∧b.ks=x.ks∧b.c=x.c
 | [],_,_,_,n,b,hb,_=>by simp at hb
 | b0::l,[],k,h,_,_,_,_=>by simp [Zzc] at h
 | b0::l,x::xs,k,h,n,b,hb,hl=>by
  simp only [Zzc,Z1kr] at h
  cases n with
  | zero =>
   simp only [Z1ke,Option.some.injEq] at hb
   subst hb
   have h1:=h.1
   simp only [hl,Bool.not_true,Bool.false_or,Z1kr,Z1ks,Bool.not_eq_true'] at h1
   obtain ⟨⟨⟨⟨h2,h3⟩,h4⟩,h5⟩,h6⟩:=h1
   exact ⟨by simpa using h6,x,rfl,h2,h3,Z1d h4,E.same_eq _ _ h5⟩
  | succ n =>
   obtain ⟨h1,y,h2⟩:=Zkp h.2 n b (by simpa using hb) hl
   exact ⟨by rwa [show k + (n + 1)=k + 1 + n by omega],y,by simpa using h2⟩
theorem Z3s {v:Value} (h:∃ a l c,v=.slice a l c):slV v=v:=by
 obtain ⟨a,l,c,rfl⟩:=h
 rfl
theorem E.den_R (R R':Fo) (r:List Int):∀ a:E,a.den R r=a.den R' r:=by
 intro a
 induction a <;> simp only [E.den] <;> simp_all
theorem Zb4 (hrep:Rep ex W0 sx w):∀ {l:List Ck} {cs xs:List SC} {aZ:List B} {es:List E} {us:List Nat},Z2w sx l cs xs=some (aZ,es,us)→(∀ b ∈ aZ,b.den ex.R ex.r=true)→∀ v ∈ Z4j ex l xs,∃ a l c,v=.slice a l c:=by
 intro l
 induction l with
 | nil=>intro cs xs aZ es us _ _ v hv; cases xs <;> simp [Z4j] at hv
 | cons p l ih =>
  intro cs xs aZ es us h has v hv
  cases cs with
  | nil=>cases p <;> simp [Z2w] at h
  | cons c cs =>
   cases xs with
   | nil=>cases p <;> simp [Z2w] at h
   | cons x xs =>
    cases p with
    | keep =>
     simp only [Z2w] at h
     split at h
     ·exact ih h has v (by simpa [Z4j] using hv)
     ·cases h
    | num k =>
     simp only [Z2w] at h
     split at h
     ·rename_i xe as1 es1 us1 hf hm
      simp only [Option.some.injEq,Prod.mk.injEq] at h
      obtain ⟨rfl,rfl,rfl⟩:=h
      exact ih hm has v (by simpa [Z4j] using hv)
     ·cases h
    | row ty ks =>
     simp only [Z2w] at h
     split at h
     ·rename_i as1 xe u1 as2 es2 us2 hr hm
      simp only [Option.some.injEq,Prod.mk.injEq] at h
      obtain ⟨rfl,rfl,rfl⟩:=h
      simp only [Z4j,List.mem_cons] at hv
      rcases hv with rfl | hv
      ·exact (Z13g hrep hr (fun b hb=>has b (List.mem_append_left _ hb))).2.2
      ·exact ih hm (fun b hb=>has b (List.mem_append_right _ hb)) v hv
     ·cases h
    | arr ty ks =>
     simp only [Z2w] at h
     split at h
     ·rename_i xe u1 as2 es2 us2 hr hm
      simp only [Option.some.injEq,Prod.mk.injEq] at h
      obtain ⟨rfl,rfl,rfl⟩:=h
      simp only [Z4j,List.mem_cons] at hv
      rcases hv with rfl | hv
      ·rw [Z13h hr]
       exact G.val_slice ex (.o u1)
      ·exact ih hm has v hv
     ·cases h
theorem Zsr (hrep:Rep ex W0 sx w):∀ {l:List Sk} {vs xs:List SV} {aZ:List B} {es:List E} {us:List Nat},Z3f sx l vs xs=some (aZ,es,us)→(∀ b ∈ aZ,b.den ex.R ex.r=true)→∀ v ∈ Zb3 ex l xs,∃ a l c,v=.slice a l c:=by
 intro l
 induction l with
 | nil=>intro cs xs aZ es us _ _ v hv; cases xs <;> simp [Zb3] at hv
 | cons p l ih =>
  intro vs xs aZ es us h has v hv
  cases vs with
  | nil=>cases p <;> simp [Z3f] at h
  | cons c cs =>
   cases xs with
   | nil=>cases p <;> simp [Z3f] at h
   | cons x xs =>
    cases p with
    | keep =>
     simp only [Z3f] at h
     split at h
     ·exact ih h has v (by simpa [Zb3] using hv)
     ·cases h
    | un =>
     simp only [Z3f] at h
     exact ih h has v (by simpa [Zb3] using hv)
    | cells p =>
     simp only [Z3f] at h
     split at h
     ·rename_i as1 es1 us1 as2 es2 us2 hm1 hm2
      simp only [Option.some.injEq,Prod.mk.injEq] at h
      obtain ⟨rfl,rfl,rfl⟩:=h
      simp only [Zb3,List.mem_append] at hv
      rcases hv with hv | hv
      ·unfold Zvf at hm1
       split at hm1
       ·exact Zb4 hrep hm1 (fun b hb=>has b (List.mem_append_left _ hb)) v hv
       ·exact Zb4 hrep hm1 (fun b hb=>has b (List.mem_append_left _ hb)) v hv
       ·cases hm1
      ·exact ih hm2 (fun b hb=>has b (List.mem_append_right _ hb)) v hv
     ·cases h
theorem Zss (hrep:Rep ex W0 sx w):∀ {l:List (List Ck)} {bs xs:List Blk} {aZ:List B} {es:List E} {us:List Nat},Z6c sx l bs xs=some (aZ,es,us)→(∀ b ∈ aZ,b.den ex.R ex.r=true)→∀ v ∈ Zhr ex l xs,∃ a l c,v=.slice a l c:=by
 intro l
 induction l with
 | nil=>intro cs xs aZ es us _ _ v hv; cases xs <;> simp [Zhr] at hv
 | cons p l ih =>
  intro vs xs aZ es us h has v hv
  cases vs with
  | nil=>simp [Z6c] at h
  | cons c cs =>
   cases xs with
   | nil=>simp [Z6c] at h
   | cons x xs =>
    simp only [Z6c] at h
    split at h
    ·split at h
     ·rename_i as1 es1 us1 as2 es2 us2 hm1 hm2
      simp only [Option.some.injEq,Prod.mk.injEq] at h
      obtain ⟨rfl,rfl,rfl⟩:=h
      simp only [Zhr,List.mem_append] at hv
      rcases hv with hv | hv
      ·exact Zb4 hrep hm1 (fun b hb=>has b (List.mem_append_left _ hb)) v hv
      ·exact ih hm2 (fun b hb=>has b (List.mem_append_right _ hb)) v hv
     ·cases h
    ·cases h
theorem Zpm {pl:Zak} {s:St} {e:Env} {w0:World} {a:Act} {us0:List Nat} {as1 as2:List B} {es1 es2:List E} {us1 us2:List Nat} (h0:Rep e W0 s w0) (hsc:s.sc=true) (hle:Env.le e ex) (hx:Rel ex W0 sx a w)
  (hfl:sx.fl=s.fl) (hflr:sx.flr=s.flr) (hm1:Z3f sx pl.fr s.fr sx.fr=some (as1,es1,us1)) (hm2:Z6c sx pl.mem s.mem sx.mem=some (as2,es2,us2)) (hnd:Zf2 (us1++us2)=true) (has:∀ b ∈ as1++as2,b.den ex.R ex.r=true)
  (hrows:∀ (n:Nat) (b:Row),(Zav us0 0 s.rows)[n]?=some b→b.live=true→n ∉ us1++us2∧∃ x:Row,sx.rows[n]?=some x∧x.live=true∧b.ty=x.ty∧b.ks=x.ks∧b.c=x.c) :
  ∃ e2,Env.le e e2∧e2.r=e.r++(es1++es2).map (E.den ex.R ex.r)∧e2.R=e.R∧Rel e2 W0 (Z1h3 pl s us0) a w:=by
 have hN:=Z7c hnd
 obtain ⟨n1,n2,n3⟩:=List.nodup_append.1 hN
 obtain ⟨a1,a2,a2u,a3,a4⟩:=Z13l hx.rep hm1 (fun b hb=>has b (List.mem_append_left _ hb)) n1
 obtain ⟨b0,b1,b2,b3,b4⟩:=Z13m hx.rep hm2 (fun b hb=>has b (List.mem_append_right _ hb)) n2
 have hV:=VOK.app hx.rep a3 b3 hN
 generalize hvals:Zb3 ex pl.fr sx.fr++Zhr ex pl.mem sx.mem=vals at hV
 have hle2:Env.le e { r:=e.r++(es1++es2).map (E.den ex.R ex.r),β:=e.β,σ:=e.σ++vals,ω:=e.ω++Z13j ex pl.fr sx.fr,R:=e.R }:=⟨(es1++es2).map (E.den ex.R ex.r),[],vals,Z13j ex pl.fr sx.fr,by simp⟩
 generalize he2:({ r:=e.r++(es1++es2).map (E.den ex.R ex.r),β:=e.β,σ:=e.σ++vals,ω:=e.ω++Z13j ex pl.fr sx.fr,R:=e.R }:Env)=e2 at hle2
 have er:e2.r=e.r++(es1++es2).map (E.den ex.R ex.r):=by rw [← he2]
 have eβ:e2.β=e.β:=by rw [← he2]
 have eσ:e2.σ=e.σ++vals:=by rw [← he2]
 have eω:e2.ω=e.ω++Z13j ex pl.fr sx.fr:=by rw [← he2]
 have eR:e2.R=e.R:=by rw [← he2]
 have hsc':=hsc
 simp only [St.sc,Z1kr] at hsc'
 obtain ⟨⟨sf,sm⟩,sr,sh⟩:=hsc'
 rw [← h0.nv,← h0.nb,← h0.ng] at sf sm
 rw [← h0.nx] at sf
 rw [← h0.nv] at sr sh
 have cden:∀ c:SC,c.sc e.r.length e.β.length e.σ.length=true→c.den e2=c.den ex:=fun c hc=>(SC.den_le hle2 c hc).trans (SC.den_le hle c hc).symm
 have vden:∀ v ∈ s.fr,v.den e2=v.den ex∧∀ y,v=.w y→∀ c ∈ y.cells,c.den e2=c.den ex:=fun v hv=>by
  have h1:=List.all_eq_true.1 sf v hv
  refine ⟨(SV.den_le hle2 v h1).trans (SV.den_le hle v h1).symm,fun y hy c hc=>cden c ?_⟩
  subst hy
  cases y with
  | o c'=>simp only [SW.cells,List.mem_singleton] at hc; subst hc; exact h1
  | a cs=>exact List.all_eq_true.1 h1 c hc
 have hv:∀ (t:Nat) (n:Int),((es1++es2).map (E.den ex.R ex.r))[t]?=some n→e2.r.getD (s.nv + t) 0=n:=fun t n ht=>by
  rw [er,← h0.nv]
  simp only [List.getD]
  rw [List.getElem?_append_right (by omega),Nat.add_sub_cancel_left,ht]
  rfl
 have hsl:∀ v ∈ vals,∃ a l c,v=.slice a l c:=by
  intro v hv'
  obtain ⟨j,hj⟩:=List.getElem?_of_mem hv'
  rw [← hvals] at hj
  have key:∀ {rows:List Row} {vs:List Value} {e3:Env},Z8w w e3 rows vs→∀ {j:Nat} {v:Value},vs[j]?=some v→∃ a l c,v=.slice a l c:=by
   intro rows vs e3 hR j v hj
   have hlt:j < rows.length:=by rw [hR.1]; exact (List.getElem?_eq_some_iff.1 hj).1
   exact (hR.2 j rows[j] v (List.getElem?_eq_getElem hlt) hj).2.1
  rcases Nat.lt_or_ge j (Zb3 ex pl.fr sx.fr).length with hlt | hge
  ·rw [List.getElem?_append_left hlt] at hj
   exact Zsr hx.rep hm1 (fun b hb=>has b (List.mem_append_left _ hb)) v (List.mem_of_getElem? hj)
  ·rw [List.getElem?_append_right hge] at hj
   exact Zss hx.rep hm2 (fun b hb=>has b (List.mem_append_right _ hb)) v (List.mem_of_getElem? hj)
 have hg:∀ (t:Nat) (v:Value),vals[t]?=some v→(G.o (s.rows.length + t)).val e2=v:=fun t v ht=>by
  simp only [G.val]
  rw [eσ,← h0.ng]
  have:(e.σ++vals).getD (e.σ.length + t) undef=v:=by
   simp only [List.getD]
   rw [List.getElem?_append_right (by omega),Nat.add_sub_cancel_left,ht]
   rfl
  rw [this]
  exact Z3s (hsl v (List.mem_of_getElem? ht))
 have hu:∀ (t:Nat) (v:Value),(Z13j ex pl.fr sx.fr)[t]?=some v→e2.ω.getD (s.nx + t) undef=v:=fun t v ht=>by
  rw [eω,← h0.nx]
  simp only [List.getD]
  rw [List.getElem?_append_right (by omega),Nat.add_sub_cancel_left,ht]
  rfl
 rw [List.map_append] at hv
 rw [← hvals] at hg
 obtain ⟨a5,a6⟩:=a4 e2 s.nv s.rows.length s.nx vden (Z9z hv) (Z9z hg) hu
 obtain ⟨b5,b6,b7⟩:=b4 e2 (s.nv + nvS pl.fr) (s.rows.length + ngS pl.fr) (fun b hb c hc=>cden c (List.all_eq_true.1 (List.all_eq_true.1 sm b hb) c hc)) (fun t n ht=>by
  have:=Z6j hv t n ht
  rwa [List.length_map,a1,← Nat.add_assoc] at this) (fun t v ht=>by
  have:=Z6j hg t v ht
  rwa [a2,← Nat.add_assoc] at this)
 have hR:=a6.app b6
 rw [hvals] at hR hg
 have hold:∀ (n:Nat) (b:Row),(Zav us0 0 s.rows)[n]?=some b→b.live=true→n < s.rows.length∧n ∉ us1++us2∧(G.o n).val e2=(G.o n).val ex∧∃ x:Row,sx.rows[n]?=some x∧x.live=true∧Zt w b.ty b.ks ((G.o n).val e2) (b.c.den e2.R e2.r):=fun n b hb hl=>by
  obtain ⟨h1,x,h2,h3,h4,h5,h6⟩:=hrows n b hb hl
  obtain ⟨hb',_⟩:=Zko hb hl
  have hlt:=(List.getElem?_eq_some_iff.1 hb').1
  have hgs:(G.o n).sc e.r.length e.σ.length=true:=by simp only [G.sc,Z1ks]; rw [h0.ng]; exact hlt
  have hval:(G.o n).val e2=(G.o n).val ex:=(G.val_le hle2 _ hgs).trans (G.val_le hle _ hgs).symm
  refine ⟨hlt,h1,hval,x,h2,h3,?_⟩
  rw [hval,h4,h5]
  have hcd:b.c.den e2.R e2.r=x.c.den ex.R ex.r:=by
   rw [← h6]
   have hbs:=List.all_eq_true.1 sr b (List.mem_of_getElem? hb')
   have hle':=hle
   obtain ⟨p,_,_,_,q1,_,_,_,q5⟩:=hle'
   rw [er,q1,E.den_app _ _ _ _ hbs,E.den_app _ _ _ _ hbs]
   exact E.den_R _ _ _ _
  rw [hcd]
  exact hx.rep.row n x h2 h3
 have hcases:∀ (n:Nat) (b:Row),(Z1h3 pl s us0).rows[n]?=some b→b.live=true→(n < s.rows.length∧(Zav us0 0 s.rows)[n]?=some b)∨∃ j v,n=s.rows.length + j∧(Zow pl.fr s.nv++Zsc pl.mem (s.nv + nvS pl.fr))[j]?=some b∧vals[j]?=some v∧(G.o n).val e2=v:=by
  intro n b hb hl
  have hb':(Zav us0 0 s.rows++(Zow pl.fr s.nv++Zsc pl.mem (s.nv + nvS pl.fr)))[n]?=some b:=hb
  rcases Nat.lt_or_ge n s.rows.length with hn | hn
  ·rw [List.getElem?_append_left (by rw [Z4f]; exact hn)] at hb'
   exact .inl ⟨hn,hb'⟩
  ·rw [List.getElem?_append_right (by rw [Z4f]; exact hn),Z4f] at hb'
   have hj:=(List.getElem?_eq_some_iff.1 hb').1
   have hv':vals[n - s.rows.length]?=some (vals[n - s.rows.length]'(by rw [← hR.1]; exact hj)):=List.getElem?_eq_getElem (by rw [← hR.1]; exact hj)
   refine .inr ⟨n - s.rows.length,_,by omega,hb',hv',?_⟩
   have:=hg _ _ hv'
   rwa [show s.rows.length + (n - s.rows.length)=n by omega] at this
 have hβ:∀ n,n < s.mem.length→e.β.getD n 0=ex.β.getD n 0:=fun n hn=>by
  obtain ⟨_,p,_,_,_,q2,_⟩:=hle
  rw [q2,Z15 _ _ _ _ (by rw [h0.nb]; exact hn)]
 have hmem:∀ (n:Nat) (b:Blk),(Z1h3 pl s us0).mem[n]?=some b→n < s.mem.length∧∃ x:Blk,sx.mem[n]?=some x∧x.live=true∧b.ty=x.ty∧b.cells.map (SC.den e2)=x.cells.map (SC.den ex):=fun n b hb=>by
  have hb':(Z1af pl.mem s.mem (s.nv + nvS pl.fr) (s.rows.length + ngS pl.fr))[n]?=some b:=hb
  refine ⟨by rw [← b7]; exact (List.getElem?_eq_some_iff.1 hb').1,b5 n b hb'⟩
 have hnewblk:∀ v ∈ vals,∀ k,Z7 v=some k→∃ n b,n ∈ us1++us2∧sx.rows[n]?=some b∧b.live=true∧sx.flr≤n∧Z7 ((G.o n).val ex)=some k:=hV.2
 refine ⟨e2,hle2,er,eR,⟨⟨hx.rep.below,?_,?_,?_,?_,?_,?_,?_,?_,?_,?_,?_,h0.gl,?_⟩,?_,hx.defs⟩⟩
 ·rw [eβ,h0.nb]; exact b7.symm
 ·show e2.σ.length=(Zav us0 0 s.rows++(Zow pl.fr s.nv++Zsc pl.mem (s.nv + nvS pl.fr))).length
  rw [eσ,List.length_append,List.length_append,Z4f,h0.ng,hR.1]
 ·show e2.r.length=s.nv + (nvS pl.fr + nvM pl.mem)
  rw [er,List.length_append,List.length_map,List.length_append,a1,b1,h0.nv]
 ·show e2.ω.length=s.nx + nxS pl.fr
  rw [eω,List.length_append,a2u,h0.nx]
 ·intro n b hb hl
  obtain ⟨hn,x,h1,h2,h3,h4⟩:=hmem n b hb
  rw [eβ,hβ n hn,h4,h3]
  exact hx.rep.blk n x h1 h2
 ·intro n b hb hl hf
  obtain ⟨hn,x,h1,h2,h3,h4⟩:=hmem n b hb
  rw [eβ,hβ n hn]
  exact hx.rep.own n x h1 h2 (by rw [hfl]; exact hf)
 ·intro n m b c hb hc hlb hlc heq
  obtain ⟨hn,x,h1,h2,_⟩:=hmem n b hb
  obtain ⟨hm',y,h1',h2',_⟩:=hmem m c hc
  rw [eβ,hβ n hn,hβ m hm'] at heq
  exact hx.rep.sep n m x y h1 h1' h2 h2' heq
 ·intro n b hb hl
  rcases hcases n b hb hl with ⟨hn,hb'⟩ | ⟨j,v,rfl,hj,hv',hval⟩
  ·obtain ⟨_,_,_,_,_,_,h⟩:=hold n b hb' hl; exact h
  ·rw [hval]; exact (hR.2 j b v hj hv').2.2
 ·intro n b hb hl hf k hk
  rcases hcases n b hb hl with ⟨hn,hb'⟩ | ⟨j,v,rfl,hj,hv',hval⟩
  ·obtain ⟨_,_,hval,x,h1,h2,_⟩:=hold n b hb' hl
   rw [hval] at hk
   exact hx.rep.rown n x h1 h2 (by rw [hflr]; exact hf) k hk
  ·rw [hval] at hk
   obtain ⟨m,bb,_,h2,h3,h4,h5⟩:=hnewblk v (List.mem_of_getElem? hv') k hk
   exact hx.rep.rown m bb h2 h3 h4 k h5
 ·intro n m b c k hb hc hlb hlc hk hk'
  rcases hcases n b hb hlb with ⟨hn,hb'⟩ | ⟨j,v,rfl,hj,hv',hval⟩ <;> rcases hcases m c hc hlc with ⟨hm',hc'⟩ | ⟨j',v',rfl,hj',hv'',hval'⟩
  ·obtain ⟨_,_,hval,x,h1,h2,_⟩:=hold n b hb' hlb
   obtain ⟨_,_,hval',y,h1',h2',_⟩:=hold m c hc' hlc
   rw [hval] at hk
   rw [hval'] at hk'
   exact hx.rep.rsep n m x y k h1 h1' h2 h2' hk hk'
  ·obtain ⟨_,hnu,hval,x,h1,h2,_⟩:=hold n b hb' hlb
   rw [hval] at hk
   rw [hval'] at hk'
   obtain ⟨q,bb,h3,h4,h5,_,h7⟩:=hnewblk v' (List.mem_of_getElem? hv'') k hk'
   have:=hx.rep.rsep n q x bb k h1 h4 h2 h5 hk h7
   subst this
   exact absurd h3 hnu
  ·obtain ⟨_,hnu,hval'',x,h1,h2,_⟩:=hold m c hc' hlc
   rw [hval] at hk
   rw [hval''] at hk'
   obtain ⟨q,bb,h3,h4,h5,_,h7⟩:=hnewblk v (List.mem_of_getElem? hv') k hk
   have:=hx.rep.rsep m q x bb k h1 h4 h2 h5 hk' h7
   subst this
   exact absurd h3 hnu
  ·rw [hval] at hk
   rw [hval'] at hk'
   rw [Z78 hV.1 j j' v v' k hv' hv'' hk hk']
 ·intro n m b c hb hc hlb hlc
  obtain ⟨hn,x,h1,h2,_⟩:=hmem n b hb
  rw [eβ,hβ n hn]
  rcases hcases m c hc hlc with ⟨hm',hc'⟩ | ⟨j',v',rfl,hj',hv'',hval'⟩
  ·obtain ⟨_,_,hval,y,h1',h2',_⟩:=hold m c hc' hlc
   rw [hval]
   exact hx.rep.brs n m x y h1 h1' h2 h2'
  ·rw [hval']
   intro hk
   obtain ⟨q,bb,_,h4,h5,_,h7⟩:=hnewblk v' (List.mem_of_getElem? hv'') _ hk
   exact hx.rep.brs n q x bb h1 h4 h2 h5 h7
 ·intro i ks c hi
  have hi':s.hs[i]?=some (ks,c):=hi
  have:=h0.arg i ks c hi'
  have hcs:=List.all_eq_true.1 sh (ks,c) (List.mem_of_getElem? hi')
  rw [er,eR,E.den_app _ _ _ _ hcs]
  rw [show (G.a i).val e2=(G.a i).val e by simp only [G.val,eR]]
  exact this
 ·show a.tmps=((Z1ae pl.fr s.fr s.nv s.rows.length s.nx).map (SV.den e2)).toArray
  rw [a5]
  exact hx.tmps
end
end Go.Sx
namespace Go.Sx
open Go.RowKit
section
variable {P:Program} {Γ:List Sum} {Ψ:List Int→Prop} {bs:List (List Int→Prop)}
theorem Zhs:∀ (l:List Oper),Z9m l≤l.length
 | []=>by simp [Z9m]
 | o::l=>by
  have:=Zhs l
  simp only [Z9m,List.length_cons]
  split <;> omega
theorem Zst {s:St} {n:Nat} (h:Z12s s n=true):∃ b,s.mem[n]?=some b∧b.live=true:=by
 unfold Z12s at h
 split at h
 ·rename_i b hb
  exact ⟨b,hb,h⟩
 ·cases h
theorem Zc3 {R:Fo} {r:List Int}:∀ {l:List T},(Zot l).sat Γ R Ψ bs r→∀ t ∈ l,t.sat Γ R Ψ bs r
 | [],h,t,ht=>by cases ht
 | [x],h,t,ht=>by
  simp only [List.mem_singleton] at ht
  subst ht
  exact h
 | x::y::l,h,t,ht=>by
  simp only [Zot] at h
  rcases List.mem_cons.1 ht with rfl | ht
  ·exact h.1
  ·exact Zc3 h.2 t ht
mutual
theorem K.eqv_eq:∀ {k m:K},K.eqv k m=true→k=m
 | .i x,.i y,h=>by simp only [K.eqv,beq_iff_eq] at h; rw [h]
 | .b,.b,_=>rfl
 | .s t x,.s u y,h=>by
  simp only [K.eqv,Z1kr,beq_iff_eq] at h
  rw [h.1,K.eqvL_eq h.2]
 | .i _,.b,h=>by simp [K.eqv] at h
 | .i _,.s _ _,h=>by simp [K.eqv] at h
 | .b,.i _,h=>by simp [K.eqv] at h
 | .b,.s _ _,h=>by simp [K.eqv] at h
 | .s _ _,.i _,h=>by simp [K.eqv] at h
 | .s _ _,.b,h=>by simp [K.eqv] at h
theorem K.eqvL_eq:∀ {a b:List K},K.eqvL a b=true→a=b
 | [],[],_=>rfl
 | x::xs,y::ys,h=>by
  simp only [K.eqvL,Z1kr] at h
  rw [K.eqv_eq h.1,K.eqvL_eq h.2]
 | [],_::_,h=>by simp [K.eqvL] at h
 | _::_,[],h=>by simp [K.eqvL] at h
end
theorem Zpn:∀ {a b:List Blk},Zka a b=true→a=b
 | [],[],_=>rfl
 | ⟨x1,x2,x3⟩::xs,⟨y1,y2,y3⟩::ys,h=>by
  simp only [Zka,Z1kr,beq_iff_eq] at h
  rw [h.1.1,Zfq h.1.2.1,h.1.2.2,Zpn h.2]
 | [],_::_,h=>by simp [Zka] at h
 | _::_,[],h=>by simp [Zka] at h
theorem Zpo:∀ {a b:List Row},Zkb a b=true→a=b
 | [],[],_=>rfl
 | ⟨x1,x2,x3,x4⟩::xs,⟨y1,y2,y3,y4⟩::ys,h=>by
  simp only [Zkb,Z1kr,beq_iff_eq] at h
  rw [h.1.1,K.eqvL_eq h.1.2.1,E.same_eq _ _ h.1.2.2.1,h.1.2.2.2,Zpo h.2]
 | [],_::_,h=>by simp [Zkb] at h
 | _::_,[],h=>by simp [Zkb] at h
theorem Zvz:∀ {a b:List SV},Zza a b=true→a=b
 | [],[],_=>rfl
 | x::xs,y::ys,h=>by
  simp only [Zza,Z1kr] at h
  rw [SV.same_eq h.1,Zvz h.2]
 | [],_::_,h=>by simp [Zza] at h
 | _::_,[],h=>by simp [Zza] at h
theorem Zpp:∀ {a b:List (List K × E)},Zkc a b=true→a=b
 | [],[],_=>rfl
 | (x1,x2)::xs,(y1,y2)::ys,h=>by
  simp only [Zkc,Z1kr] at h
  rw [K.eqvL_eq h.1.1,E.same_eq _ _ h.1.2,Zpp h.2]
 | [],_::_,h=>by simp [Zkc] at h
 | _::_,[],h=>by simp [Zkc] at h
theorem Zpq:∀ {a b:List (Nat × List Int)},Zkd a b=true→a=b
 | [],[],_=>rfl
 | (x1,x2)::xs,(y1,y2)::ys,h=>by
  simp only [Zkd,Zz8,Z1kr,beq_iff_eq] at h
  rw [h.1.1,h.1.2,Zpq h.2]
 | [],_::_,h=>by simp [Zkd] at h
 | _::_,[],h=>by simp [Zkd] at h
theorem Zc4:∀ {a b:List E},Zf1 a b=true→a=b
 | [],[],_=>rfl
 | x::xs,y::ys,h=>by
  simp only [Zf1,Z1kr] at h
  rw [E.same_eq _ _ h.1,Zc4 h.2]
 | [],_::_,h=>by simp [Zf1] at h
 | _::_,[],h=>by simp [Zf1] at h
theorem Zht:∀ {a b:List (Nat × List E)},Z9l a b=true→a=b
 | [],[],_=>rfl
 | (x1,x2)::xs,(y1,y2)::ys,h=>by
  simp only [Z9l,Z1kr,beq_iff_eq] at h
  rw [h.1.1,Zc4 h.1.2,Zht h.2]
 | [],_::_,h=>by simp [Z9l] at h
 | _::_,[],h=>by simp [Z9l] at h
theorem St.same_eq {a b:St} (h:a.same b=true):a=b:=by
 obtain ⟨a1,a2,a3,a4,a5,a6,a7,a8,a9,a10⟩:=a
 obtain ⟨b1,b2,b3,b4,b5,b6,b7,b8,b9,b10⟩:=b
 simp only [St.same,Z1kr,beq_iff_eq] at h
 obtain ⟨⟨h1,h2,h3⟩,⟨h4,h5,h6,h7⟩,h8,h9,h10⟩:=h
 rw [Zvz h1,Zpn h2,Zpo h3,h4,h5,h6,h7,Zpq h8,Zpp h9,h10]
theorem Zsa.same_eq {a b:Zsa} (h:Zsa.same a b=true):a=b:=by
 simp only [Zsa.same,Z1kr] at h
 exact Prod.ext (Zht h.1) (St.same_eq h.2)
theorem Zhu:∀ {aZ:List B} {t:T},aZ.all isT=true→Z4a aZ t=t
 | [],t,_=>rfl
 | b::l,t,h=>by
  simp only [List.all_cons,Z1kr] at h
  obtain ⟨h1,h2⟩:=h
  cases b with
  | c x =>
   cases x with
   | true=>exact Zhu (aZ:=l) h2
   | false=>cases h1
  | _=>cases h1
theorem Z1hg {ih:Code→St→Z4x→T} {o:Oper} {s s1:St} {c:Option (Nat × List E)} (h:rawS P Γ o s=some (c,s1)) (k:St→T):opT P Γ ih o s k=Z4c c.toList (k s1):=by
 have one1:∀ {aZ:List B} {v:SV} {s':St},op1 P s o=some (aZ,v,s')→(if aZ.all isT then some ((none:Option (Nat × List E)),s'.put o.dst v) else none)=some (c,s1)→Z4a aZ (k (s'.put o.dst v))=Z4c c.toList (k s1):=by
  intro aZ v s' _ h
  split at h
  ·rename_i ha
   simp only [Option.some.injEq,Prod.mk.injEq] at h
   obtain ⟨rfl,rfl⟩:=h
   rw [Zhu ha]
   rfl
  ·cases h
 unfold rawS at h
 unfold opT
 split at h
 ·rename_i cc ho
  try simp only [ho]
  unfold Z1gw
  split at h
  ·rename_i F hcal
   try simp only [hcal]
   split at h
   ·rename_i fn caps hF
    try simp only [hF]
    split at h
    ·cases h
    ·rename_i hc
     try rw [if_neg hc]
     split at h
     ·rename_i g sum hfs
      try simp only [hfs]
      split at h
      ·cases h
      ·rename_i hgl
       try rw [if_neg hgl]
       split at h
       ·rename_i f hm
        try simp only [hm]
        split at h
        ·cases h
        ·rename_i hargs
         try rw [if_neg hargs]
         split at h
         ·rename_i aZ es kk hf
          try simp only [hf]
          split at h
          ·rename_i ha
           simp only [Option.some.injEq,Prod.mk.injEq] at h
           obtain ⟨rfl,rfl⟩:=h
           rw [Zhu ha]
           rfl
          ·cases h
         ·cases h
       ·rename_i hm
        try simp only [hm]
        split at h
        ·rename_i aZ es hf
         try simp only [hf]
         split at h
         ·rename_i ha
          simp only [Option.some.injEq,Prod.mk.injEq] at h
          obtain ⟨rfl,rfl⟩:=h
          rw [Zhu ha]
          rfl
         ·cases h
        ·cases h
     ·cases h
   ·cases h
  ·cases h
  ·rename_i b hb hcal
   split at h
   ·rename_i aZ v s' h1
    exact one1 h1 h
   ·cases h
  ·cases h
 ·rename_i t l cc ho
  try simp only [ho]
  unfold Z1ac
  split at h
  ·rename_i elem e1 e2 hu h1 h2
   try simp only [hu,h1,h2]
   split at h
   ·rename_i inf ks z hi hk hz
    try simp only [hi,hk,hz]
    split at h
    ·cases h
    ·rename_i hc
     try rw [if_neg hc]
     split at h
     ·rename_i es hes
      try simp only [hes]
      split at h
      ·rename_i ha
       simp only [Option.some.injEq,Prod.mk.injEq] at h
       obtain ⟨rfl,rfl⟩:=h
       rw [Zhu ha]
       rfl
      ·cases h
     ·cases h
   ·cases h
  ·cases h
 ·rename_i t ho
  try simp only [ho]
  split at h
  ·cases h
  ·rename_i hb
   have hb':bigZ P t=none:=by
    cases hz:bigZ P t with
    | none=>rfl
    | some x=>rw [hz] at hb; exact absurd rfl hb
   try simp only [hb']
   split at h
   ·rename_i aZ v s' h1
    try simp only [h1]
    exact one1 h1 h
   ·cases h
 ·rename_i h1 h2 h3
  split at h
  ·rename_i aZ v s' h4
   exact one1 h4 h
  ·cases h
theorem Zhv {R:Fo} {K:List T} (hK:K ≠ []):∀ {c:List (Nat × List E)} {r:List Int},(∀ t ∈ K,(Z4c c t).sat Γ R Ψ bs r)→(Z4c c (Zot K)).sat Γ R Ψ bs r
 | [],r,h=>by
  simp only [Z4c] at h ⊢
  induction K with
  | nil=>exact absurd rfl hK
  | cons x l ih =>
   cases l with
   | nil=>exact h x (by simp)
   | cons y l=>exact ⟨h x (by simp),ih (by simp) (fun t ht=>h t (List.mem_cons_of_mem _ ht))⟩
 | (g,es)::c,r,h=>by
  simp only [Z4c,T.sat] at h ⊢
  split
  ·rename_i s hs
   obtain ⟨x,hx⟩:=List.exists_mem_of_ne_nil _ hK
   have h0:=h x hx
   rw [hs] at h0
   refine ⟨h0.1,Zhv hK fun t ht=>?_⟩
   have h1:=h t ht
   rw [hs] at h1
   exact h1.2
  ·rename_i hs
   obtain ⟨x,hx⟩:=List.exists_mem_of_ne_nil _ hK
   have h0:=h x hx
   rw [hs] at h0
   exact h0
theorem Zzr (c d:List (Nat × List E)) (t:T):Z4c (c++d) t=Z4c c (Z4c d t):=by
 induction c with
 | nil=>rfl
 | cons x c ih=>simp only [Z1ki,Z4c,ih]
theorem Zm9:∀ {a b:List Bool},Zou a b=true→a=b
 | [],[],_=>rfl
 | true::l,true::m,h=>by rw [Zm9 (a:=l) (b:=m) h]
 | false::l,false::m,h=>by rw [Zm9 (a:=l) (b:=m) h]
 | [],_::_,h=>by simp [Zou] at h
 | _::_,[],h=>by simp [Zou] at h
 | true::l,false::m,h=>by simp [Zou] at h
 | false::l,true::m,h=>by simp [Zou] at h
theorem Zpr {x:Array Bool × Zsa} {l:Zzb}:x ∈ Z1ad x l∧∀ y ∈ l,y ∈ Z1ad x l:=by
 unfold Z1ad
 split
 ·rename_i h
  refine ⟨?_,fun y hy=>hy⟩
  obtain ⟨y,hy,hb⟩:=List.any_eq_true.1 h
  simp only [Z1kr] at hb
  have h1:=Array.toList_inj.1 (Zm9 hb.1)
  have h2:=Zsa.same_eq hb.2
  have:x=y:=Prod.ext h1 h2
  rw [this]; exact hy
 ·exact ⟨List.mem_cons_self ..,fun y hy=>List.mem_cons_of_mem _ hy⟩
theorem Zps {ops:Array Oper} {li:Array Bool} {c:List (Nat × List E)} {s:St}:∀ {l:List Nat} {acc r:Zzb},Z12u P Γ ops li c s l acc=some r →
  (∀ y ∈ acc,y ∈ r)∧∀ j ∈ l,∃ o d s1,ops[j]?=some o∧o.guard=none∧Zgx o=none∧rawS P Γ o s=some (d,s1)∧(li.setIfInBounds j true,(c++d.toList,s1)) ∈ r
 | [],acc,r,h=>by
  simp only [Z12u,Option.some.injEq] at h
  subst h
  exact ⟨fun y hy=>hy,fun j hj=>by cases hj⟩
 | j::l,acc,r,h=>by
  simp only [Z12u] at h
  split at h
  ·rename_i o ho
   split at h
   ·cases h
   ·rename_i hgd
    simp only [Bool.or_eq_true,not_or,Bool.not_eq_true,Option.isSome_eq_false_iff,Option.isNone_iff_eq_none] at hgd
    split at h
    ·rename_i d s1 hraw
     obtain ⟨h1,h2⟩:=Zps h
     refine ⟨fun y hy=>h1 y (Zpr.2 y hy),fun i hi=>?_⟩
     rcases List.mem_cons.1 hi with rfl | hi
     ·exact ⟨o,d,s1,ho,hgd.1,hgd.2,hraw,h1 _ Zpr.1⟩
     ·exact h2 i hi
    ·cases h
  ·cases h
theorem Zhw {ops:Array Oper}:∀ {l acc r:Zzb},Z12v P Γ ops l acc=some r →
  (∀ y ∈ acc,y ∈ r)∧∀ x ∈ l,Region.ready .any ops x.1 ≠ []∧∀ j ∈ Region.ready .any ops x.1,∃ o d s1,ops[j]?=some o∧o.guard=none∧Zgx o=none∧rawS P Γ o x.2.2=some (d,s1)∧(x.1.setIfInBounds j true,(x.2.1++d.toList,s1)) ∈ r
 | [],acc,r,h=>by
  simp only [Z12v,Option.some.injEq] at h
  subst h
  exact ⟨fun y hy=>hy,fun x hx=>by cases hx⟩
 | x::l,acc,r,h=>by
  simp only [Z12v] at h
  split at h
  ·cases h
  ·rename_i hne
   split at h
   ·rename_i acc' hO
    obtain ⟨o1,o2⟩:=Zps hO
    obtain ⟨d1,d2⟩:=Zhw h
    refine ⟨fun y hy=>d1 y (o1 y hy),fun z hz=>?_⟩
    rcases List.mem_cons.1 hz with rfl | hz
    ·refine ⟨hne,fun j hj=>?_⟩
     obtain ⟨o,d,s1,h1,h2,h3,h4,h5⟩:=o2 j hj
     exact ⟨o,d,s1,h1,h2,h3,h4,d1 _ h5⟩
    ·exact d2 z hz
   ·cases h
theorem Zhx {ops:Array Oper}:∀ {f:Nat} {fr:Zzb} {L:List Zsa},Zov P Γ ops f fr=some L→∀ x ∈ fr,∃ y ∈ L,∃ r,y.1=x.2.1++r
 | 0,fr,L,h,x,hx=>by
  simp only [Zov] at h
  split at h
  ·simp only [Option.some.injEq] at h; subst h
   exact ⟨x.2,List.mem_map_of_mem hx,[],by simp⟩
  ·cases h
 | f + 1,fr,L,h,x,hx=>by
  simp only [Zov] at h
  split at h
  ·simp only [Option.some.injEq] at h; subst h
   exact ⟨x.2,List.mem_map_of_mem hx,[],by simp⟩
  ·split at h
   ·rename_i fr' hD
    obtain ⟨hne,hs⟩:=(Zhw hD).2 x hx
    obtain ⟨j,hj⟩:=List.exists_mem_of_ne_nil _ hne
    obtain ⟨o,d,s1,_,_,_,_,hm⟩:=hs j hj
    obtain ⟨y,hy,r,hr⟩:=Zhx h _ hm
    exact ⟨y,hy,d.toList++r,by rw [hr]; simp⟩
   ·cases h
theorem Zhy (hG:Gok P Γ) {ih:Code→St→Z4x→T} (hih:IH P Γ ih) {W0:Bas} {ops:Array Oper} {Q:Exit→Act→World→Prop} {k:St→T} {L:List Zsa}:∀ (f:Nat) (fr:Zzb) (bs:List (List Int→Prop)) (x:Array Bool × Zsa) (e:Env) (a:Act) (w:World),Zov P Γ ops f fr=some L→x ∈ fr→Rel e W0 x.2.2 a w→x.2.2.dp=bs.length →
  (∀ y ∈ L,∀ r,y.1=x.2.1++r→(Z4c r (k y.2)).sat Γ e.R Ψ bs e.r)→(∀ a' w',Nx Γ Ψ bs W0 e x.2.2.fl x.2.2.flr k a' w'→Q .normal a' w')→wpAny P .any ops Q f x.1 a w
 | 0,fr,bs,x,e,a,w,hL,hx,h,hdp,hs,hQ=>by
  simp only [Zov] at hL
  split at hL
  ·rename_i hr
   simp only [Option.some.injEq] at hL
   have:=List.all_eq_true.1 hr x hx
   refine ⟨List.isEmpty_iff.1 this,hQ a w (Nx.here (Env.le_refl _) h rfl rfl hdp ?_)⟩
   exact hs x.2 (by rw [← hL]; exact List.mem_map_of_mem hx) [] (by simp)
  ·cases hL
 | f + 1,fr,bs,x,e,a,w,hL,hx,h,hdp,hs,hQ=>by
  simp only [Zov] at hL
  split at hL
  ·rename_i hr
   simp only [Option.some.injEq] at hL
   have hem:=List.isEmpty_iff.1 (List.all_eq_true.1 hr x hx)
   refine ⟨fun _=>hQ a w (Nx.here (Env.le_refl _) h rfl rfl hdp ?_),fun i hi=>?_⟩
   ·exact hs x.2 (by rw [← hL]; exact List.mem_map_of_mem hx) [] (by simp)
   ·rw [hem] at hi; cases hi
  ·split at hL
   ·rename_i fr' hD
    obtain ⟨hne,hst⟩:=(Zhw hD).2 x hx
    refine ⟨fun hr=>absurd hr hne,fun i hi=>?_⟩
    obtain ⟨o,d,s1,ho,hg,hp,hraw,hmem⟩:=hst i hi
    unfold wpOp
    rw [ho]
    simp only
    rw [if_pos (by unfold Region.wanted; rw [hg])]
    left
    obtain ⟨K,hK⟩:∃ K:List T,(∀ t ∈ K,∃ y ∈ L,∃ r,y.1=(x.2.1++d.toList)++r∧t=Z4c r (k y.2))∧∀ y ∈ L,∀ r,y.1=(x.2.1++d.toList)++r→Z4c r (k y.2) ∈ K:=by
     classical
     refine ⟨L.filterMap fun y=>if hh:∃ r,y.1=(x.2.1++d.toList)++r then some (Z4c hh.choose (k y.2)) else none,fun t ht=>?_,fun y hy r hr=>?_⟩
     ·obtain ⟨y,hy,he⟩:=List.mem_filterMap.1 ht
      split at he
      ·rename_i hh
       simp only [Option.some.injEq] at he
       exact ⟨y,hy,hh.choose,hh.choose_spec,he.symm⟩
      ·cases he
     ·refine List.mem_filterMap.2 ⟨y,hy,?_⟩
      have hh:∃ r,y.1=(x.2.1++d.toList)++r:=⟨r,hr⟩
      rw [dif_pos hh]
      have:hh.choose=r:=List.append_cancel_left (hh.choose_spec.symm.trans hr)
      rw [this]
    have hKne:K ≠ []:=by
     obtain ⟨y,hy,r,hr⟩:=Zhx hL _ hmem
     exact List.ne_nil_of_mem (hK.2 y hy r hr)
    have hsat:(Z4c d.toList (Zot K)).sat Γ e.R Ψ bs e.r:=by
     refine Zhv hKne fun t ht=>?_
     obtain ⟨y,hy,r,hr,rfl⟩:=hK.1 t ht
     have:=hs y hy (d.toList++r) (by rw [hr]; simp)
     rwa [Zzr] at this
    classical
    have hop:(opT P Γ ih o x.2.2 fun s3=>if s3=s1 then Zot K else .fail).sat Γ e.R Ψ bs e.r:=by
     rw [Z1hg hraw]
     simp only [if_true]
     exact hsat
    refine Oper.wp_mono' (Zhd hG hih h hdp hop) ?_
    rintro a3 w3 ⟨s3,e3,more,hle,hrel,hf,hfr,hd,hsat3⟩
    dsimp only at hsat3
    split at hsat3
    ·rename_i hsm
     subst hsm
     refine Zhy (k:=k) hG hih f fr' (bs++more) _ e3 a3 w3 hL hmem hrel hd (fun y hy r hr=>?_) ?_
     ·exact Zc3 hsat3 _ (hK.2 y hy r hr)
     ·rintro a' w' ⟨s',e',more',hle',hrel',hf',hfr',hd',hsat'⟩
      exact hQ a' w' ⟨s',e',more++more',hle.trans hle',hrel',hf'.trans hf,hfr'.trans hfr,by rw [← List.append_assoc]; exact hd',by rw [← List.append_assoc]; exact hsat'⟩
    ·exact hsat3.elim
   ·cases hL
theorem Zc5 (hG:Gok P Γ) {ih:Code→St→Z4x→T} (hih:IH P Γ ih) {W0:Bas} {ops:Array Oper} {Q:Exit→Act→World→Prop} {k:St→T}:∀ (f:Nat) (listed:Array Bool) (s:St) (bs:List (List Int→Prop)) (e:Env) (a:Act) (w:World),Rel e W0 s a w→s.dp=bs.length →
  (Zdl P Γ ih ops f listed s k).sat Γ e.R Ψ bs e.r→(∀ a' w',Nx Γ Ψ bs W0 e s.fl s.flr k a' w'→Q .normal a' w')→wpAny P .any ops Q f listed a w
 | 0,listed,s,bs,e,a,w,h,hdp,hs,hQ=>by
  simp only [Zdl] at hs
  split at hs
  ·rename_i hr
   exact ⟨List.isEmpty_iff.1 hr,hQ a w (Nx.here (Env.le_refl _) h rfl rfl hdp hs)⟩
  ·exact hs.elim
 | f + 1,listed,s,bs,e,a,w,h,hdp,hs,hQ=>by
  simp only [Zdl] at hs
  refine ⟨fun hr=>?_,fun i hi=>?_⟩
  ·rw [hr] at hs
   exact hQ a w (Nx.here (Env.le_refl _) h rfl rfl hdp hs)
  ·split at hs
   ·rename_i hr
    rw [hr] at hi
    cases hi
   ·have hs:=Zc3 hs _ (List.mem_map_of_mem hi)
    have next:∀ (s3:St) (e3:Env) (more:List (List Int→Prop)) (a3:Act) (w3:World),Env.le e e3→Rel e3 W0 s3 a3 w3→s3.fl=s.fl→s3.flr=s.flr→s3.dp=(bs++more).length→(Zdl P Γ ih ops f (listed.setIfInBounds i true) s3 k).sat Γ e3.R Ψ (bs++more) e3.r→wpAny P .any ops Q f (listed.setIfInBounds i true) a3 w3:=by
     intro s3 e3 more a3 w3 hle h3 hf hfr hd hs3
     refine Zc5 hG hih f _ s3 (bs++more) e3 a3 w3 h3 hd hs3 ?_
     rintro a' w' ⟨s',e',more',hle',hrel',hf',hfr',hd',hsat'⟩
     exact hQ a' w' ⟨s',e',more++more',hle.trans hle',hrel',hf'.trans hf,hfr'.trans hfr,by rw [← List.append_assoc]; exact hd',by rw [← List.append_assoc]; exact hsat'⟩
    unfold wpOp
    split at hs
    ·rename_i o ho
     rw [ho]
     simp only [Z55] at hs
     obtain ⟨x,h1,hs1⟩:=Z6g h hs
     simp only
     split at hs1
     ·rename_i hw
      rw [if_pos (Z5s h1 hw)]
      left
      obtain ⟨y,h2,hs2⟩:=Z6g h1 hs1
      refine Oper.wp_mono' (Zhd hG hih h2 hdp hs2) ?_
      rintro a3 w3 ⟨s3,e3,more,hle,hrel,hf,hfr,hd,hsat⟩
      exact next s3 e3 more a3 w3 hle hrel hf hfr hd hsat
     ·rename_i hw
      rw [if_neg (by rw [Z5s h1 hw]; simp)]
      have hput:=h1.put o.dst Z6
      exact next _ e [] _ w (Env.le_refl _) hput (Zm _ _ _).2.2.2.2.1 (Zm _ _ _).2.2.2.2.2 ((Z6f _ _ _).trans (by simpa using hdp)) (by simpa using hs1)
     ·exact hs1.elim
    ·exact hs.elim
theorem Zk4 (hm:P.follows .mixedOrders=true) (hG:Gok P Γ) {ih:Code→St→Z4x→T} (hih:IH P Γ ih) {ops:Array Oper} {s:St} {k:St→T} {W0:Bas} {e:Env} {a:Act} {w:World} {Q:Exit→Act→World→Prop}
  (h:Rel e W0 s a w) (hdp:s.dp=bs.length) (hs:(Zly P Γ ih ops s k).sat Γ e.R Ψ bs e.r) (hQ:∀ a' w',Nx Γ Ψ bs W0 e s.fl s.flr k a' w'→Q .normal a' w'):wpAny P .any ops Q ops.size (Array.replicate ops.size false) a { w with drawn:=w.drawn + 1 }:=by
 unfold Zly at hs
 dsimp only at hs
 split at hs
 ·have hdrew:Below w.heap.size w { w with drawn:=w.drawn + 1 }:=(Below.refl _ _).drew
  split at hs
  ·rename_i L hL
   exact Zhy (k:=k) hG hih _ _ bs _ e a _ hL (List.mem_singleton.2 rfl) ⟨h.rep.grown hdrew,h.tmps,h.defs⟩ hdp (fun y hy r hr=>by simp only [Z1kj] at hr; rw [← hr]; exact Zc3 hs _ (List.mem_map_of_mem hy)) hQ
  ·exact Zc5 hG hih _ _ s bs e a _ ⟨h.rep.grown hdrew,h.tmps,h.defs⟩ hdp hs hQ
 split at hs
 ·rename_i hc
  simp only [Z1kr] at hc
  obtain ⟨⟨hok,hsc⟩,hdst⟩:=hc
  generalize hN:ops.size - Zs9 (Zk2 ops) 0 ops.toList=N at hs hok
  have hNs:N≤ops.size:=by omega
  generalize hN1:Z9m (ops.toList.take N)=N1 at hs
  have hN1N:N1≤N:=by
   have:=Zhs (ops.toList.take N)
   simp only [List.length_take] at this
   omega
  generalize hXe:Zh3 ops s N1 ((ops.toList.take N).drop N1)=X at hs
  split at hs
  ·rename_i hc2
   simp only [Z1kr] at hc2
   obtain ⟨⟨hXall,hch⟩,hapt⟩:=hc2
   have hXl:∀ n ∈ X,s.fl≤n∧∃ b,s.mem[n]?=some b∧b.live=true:=by
    intro n hn
    have:=List.all_eq_true.1 hXall n hn
    simp only [Z1kr,Z1ks] at this
    exact ⟨this.1,Zst this.2⟩
   unfold Z1fa at hok
   simp only [Z1kr] at hok
   obtain ⟨_,hok⟩:=hok
   have hrow:∀ j oj,ops[j]?=some oj→((Zs8 oj).all (fun i=>decide (i < j)) &&
    (if j < N then (List.range j).all (fun i=>match ops[i]? with
     | none=>false
     | some oi=>(oi.dst.isNone || oi.dst != oj.dst) && (behind (Zk2 ops) j i || oi.apart ops oj))
    else forced (Zk2 ops) j))=true:=by
    intro j oj hoj
    have hlt:=(Array.getElem?_eq_some_iff.1 hoj).1
    have:=List.all_eq_true.1 hok j (by simpa using hlt)
    rw [hoj] at this
    exact this
   have hdeps:∀ j oj,ops[j]?=some oj→∀ e ∈ oj.after,Region.binds .any e=true→e.on < j:=by
    intro j oj hoj e he hb
    have:=hrow j oj hoj
    simp only [Z1kr] at this
    have h1:=List.all_eq_true.1 this.1 e.on (List.mem_map.2 ⟨e,List.mem_filter.2 ⟨by simpa using he,hb⟩,rfl⟩)
    simpa using h1
   have hforced:∀ j oj,N≤j→ops[j]?=some oj→∀ i,i < j→Z5c ops j i:=by
    intro j oj hj hoj i hi
    have:=hrow j oj hoj
    simp only [Z1kr] at this
    rw [if_neg (by omega)] at this
    have h1:=List.all_eq_true.1 this.2 i (by simpa using hi)
    exact Z7a h1
   have hpair:∀ i j oi oj,i < j→j < N→ops[i]?=some oi→ops[j]?=some oj→(oi.dst=none∨oi.dst ≠ oj.dst)∧(Z5c ops j i∨oi.apart ops oj=true):=by
    intro i j oi oj hij hj hoi hoj
    have:=hrow j oj hoj
    simp only [Z1kr] at this
    rw [if_pos hj] at this
    have h1:=List.all_eq_true.1 this.2 i (by simpa using hij)
    rw [hoi] at h1
    simp only [Z1kr,Bool.or_eq_true] at h1
    refine ⟨?_,?_⟩
    ·rcases h1.1 with h2 | h2
     ·exact .inl (by simpa using h2)
     ·exact .inr (by simpa using h2)
    ·rcases h1.2 with h2 | h2
     ·exact .inl (Z7a h2)
     ·exact .inr h2
   have hchain:∀ i j,N1≤j→j < i→i < N→Z5c ops i j:=by
    intro i j hj hji hi
    have:=List.all_eq_true.1 hch i (by simpa using hi)
    simp only [Bool.or_eq_true,Z1ks] at this
    rcases this with h1 | h1
    ·omega
    ·have h2:=List.all_eq_true.1 h1 j (by simpa using hji)
     simp only [Bool.or_eq_true,Z1ks] at h2
     rcases h2 with h2 | h2
     ·omega
     ·exact Z7a h2
   have hdl:∀ i o d,i < N→ops[i]?=some o→o.dst=some d→d < s.fr.length:=by
    intro i o d _ ho hd
    have:=Array.all_eq_true_iff_forall_mem.1 hdst o (Array.mem_of_getElem? ho)
    rw [hd] at this
    simpa using this
   have hu:∀ i j t,j < i→i < N→(ops[j]?).bind (·.dst)=some t→(ops[i]?).bind (·.dst) ≠ some t:=by
    intro i j t hji hi h1 h2
    have hil:i < ops.size:=by omega
    have hjl:j < ops.size:=by omega
    have hoi:ops[i]?=some ops[i]:=Array.getElem?_eq_getElem hil
    have hoj:ops[j]?=some ops[j]:=Array.getElem?_eq_getElem hjl
    rw [hoj] at h1
    rw [hoi] at h2
    simp only [Option.bind_some] at h1 h2
    rcases (hpair j i _ _ hji hi hoj hoi).1 with h3 | h3
    ·rw [h3] at h1; cases h1
    ·exact h3 (h1.trans h2.symm)
   have huniq:∀ i j t,i < N→j < N→(ops[i]?).bind (·.dst)=some t→(ops[j]?).bind (·.dst)=some t→i=j:=by
    intro i j t hi hj h1 h2
    rcases Nat.lt_trichotomy i j with h3 | h3 | h3
    ·exact absurd h2 (hu j i t h3 hj h1)
    ·exact h3
    ·exact absurd h1 (hu i j t h3 hi h2)
   have hscp:=St.scp_of_sc hsc
   obtain ⟨hscf,hscm⟩:=St.scp_spec hscp
   have hdrew:Below w.heap.size w { w with drawn:=w.drawn + 1 }:=(Below.refl _ _).drew
   have hB:Rep e W0 s { w with drawn:=w.drawn + 1 }:=h.rep.grown hdrew
   generalize hs0:({ s with mem:=Zh4 X 0 s.mem }:St)=s0 at hs
   have hkl:s0.mem.length=s.mem.length:=by rw [← hs0]; exact Z8u X s.mem 0
   have hkr:s0.rows=s.rows:=by rw [← hs0]
   have hkf:s0.fr=s.fr:=by rw [← hs0]
   have h0:Rep e W0 s0 { w with drawn:=w.drawn + 1 }:=by rw [← hs0]; exact hB.killM X
   have hkm:∀ (n:Nat) (b:Blk),s.mem[n]?=some b→∃ b':Blk,s0.mem[n]?=some b'∧b'.cells=b.cells:=by
    intro n b hb
    rw [← hs0]
    simp only [Zhk,hb,Option.map_some,Option.some.injEq,exists_eq_left']
    split <;> rfl
   have hXok:XOK e W0 s0 (fun k=>∃ n,n ∈ X∧k=e.β.getD n 0):=by
    refine ⟨?_,?_,?_⟩
    ·rintro n b hb hl ⟨m,hm,heq⟩
     rw [← hs0] at hb
     obtain ⟨b',h1,_,_,h4⟩:=Z3x hb
     obtain ⟨h5,h6,rfl⟩:=h4 hl
     obtain ⟨_,c,hc,hlc⟩:=hXl m hm
     have:=hB.sep n m b c h1 hc h5 hlc heq
     subst this
     exact h6 hm
    ·rintro n b k hb hl hk ⟨m,hm,rfl⟩
     rw [hkr] at hb
     obtain ⟨_,c,hc,hlc⟩:=hXl m hm
     exact hB.brs m n c b hc hb hlc hl hk
    ·rintro k ⟨m,hm,rfl⟩
     obtain ⟨h1,c,hc,hlc⟩:=hXl m hm
     exact hB.own m c hc hlc h1
   have hlex0:Lex s0 e a.tmps ops 0 (fun _=>⟨fun _=>undef,none⟩) s0 e.r []:=by
    refine ⟨⟨[],by simp⟩,h0.nv.symm,rfl,rfl,rfl,rfl,rfl,rfl,rfl,⟨[],by simp,rfl⟩,rfl,fun _ _=>rfl,fun _ _=>rfl,fun _ _=>rfl,?_,?_,?_,?_,List.nodup_nil⟩
    ·intro t _
     show some (a.tmps.getD t undef)=_
     rw [Z8r h t,hkf]
     rfl
    ·intro t ht
     rw [hkf,hkl,hkr] at ht
     by_cases htl:t < s.fr.length
     ·have:=hscf s.fr[t] (List.getElem_mem htl)
      rw [show s.fr.getD t Z6=s.fr[t] by simp [List.getD,htl]] at ht
      rw [this] at ht; cases ht
     ·rw [show s.fr.getD t Z6=Z6 by simp [List.getD,List.getElem?_eq_none (Nat.le_of_not_lt htl)]] at ht
      simp [Z6,SV.scp] at ht
    ·intro j i' hj
     simp at hj
    ·intro i' hi'
     omega
   have htw:Zpj s s0:=⟨hkl.symm,hkr.symm,hkf.symm,by rw [← hs0],by rw [← hs0],by rw [← hs0],by rw [← hs0],by rw [← hs0],by rw [← hs0],fun b hb=>by
    obtain ⟨n,hn⟩:=List.getElem?_of_mem hb
    obtain ⟨b',h1,h2⟩:=hkm n b hn
    exact ⟨b',List.mem_of_getElem? h1,h2.symm⟩⟩
   have htw':Zpj s0 s:=htw.symm' (fun b hb=>by
    obtain ⟨n,hn⟩:=List.getElem?_of_mem hb
    rw [← hs0] at hn
    obtain ⟨b',h1,_,h3,_⟩:=Z3x hn
    exact ⟨b',List.mem_of_getElem? h1,h3⟩)
   obtain ⟨ents0,sN,rN,al,hlex0',hpre0,hsat⟩:=Z7d hG hih h0 hXok (sf:=s) (sg:=Z9n (Zk2 ops) N1 N) hB htw htw' (N:=N1) (fun i j t hji hi=>hu i j t hji (by omega)) (fun i o d hi=>by rw [hkf]; exact hdl i o d (by omega)) (ops.toList.take N1) 0 (fun j hj=>by
     simp only [List.length_take,Array.length_toList] at hj
     rw [List.getElem?_take,if_pos (by omega)]
     simp) (by simp [Nat.min_eq_left (Nat.le_trans hN1N hNs)]) _ s0 e.r [] _ hlex0 (fun i' hi'=>by omega) hs
   split at hsat
   ·rename_i s3 hs3
    obtain ⟨ents,hents⟩:∃ ents:Nat→Ent,ents=fun i=>if i < N1 then ents0 i else (match (ops[i]?).map (·.op) with
     | some (Op.assign x)=>⟨fun _=>(sN.ev x).den (e.at rN),none⟩
     | _=>⟨fun _=>undef,none⟩):=⟨_,rfl⟩
    have hents1:∀ j,j < N1→ents j=ents0 j:=fun j hj=>by rw [hents]; simp only [hj,if_true]
    have hlex:=hlex0'.congr hents1
    have hpre:=fun i hi=>(hpre0 i hi).congrN hents1 hi
    have hval:∀ i,i < N1→(ents i).obj=none→∀ n,(ents i).val n=(ents i).val 0:=by
     intro i hi hob
     obtain ⟨_,_,h2,_⟩:=hpre i hi
     exact h2 hob
    have ha0:a.tmps.size=s0.fr.length:=by rw [h.tmps,hkf]; simp
    rw [← hkl,← hkr] at hs3
    obtain ⟨st,hst0,hstE,hstS⟩:=Zf6 hs3
    have hll:((ops.toList.take N).drop N1).length=N - N1:=by simp [Nat.min_eq_left hNs]
    have hlget:∀ c,((ops.toList.take N).drop N1)[c]?=if N1 + c < N then ops[N1 + c]? else none:=by
     intro c
     rw [List.getElem?_drop,List.getElem?_take]
     split <;> simp
    have hstep1:∀ c o,N1 + c < N→ops[N1 + c]?=some o→Zbp P X s0.mem.length s0.rows.length o (st c)=some (st (c + 1)):=by
     intro c o hc ho
     exact hstS c o (by rw [hlget,if_pos hc]; exact ho)
    have hsame:∀ c,c≤N - N1→st c={ sN with mem:=(st c).mem }∧(st c).mem.length=sN.mem.length:=by
     intro c hc
     obtain ⟨h1,h2⟩:=Z13b hstS c (by rw [hll]; exact hc)
     obtain ⟨news,hmem,hnl⟩:=hlex.mem
     refine ⟨?_,?_⟩
     ·rw [h1,hst0]
     ·rw [h2,hst0]
      simp only [List.length_append,List.length_drop,hmem]
      omega
    obtain ⟨news,hmem,hnl⟩:=hlex.mem
    have hst0m:∀ n,(st 0).mem[n]?=if n < s0.mem.length then s.mem[n]? else sN.mem[n]?:=by
     intro n
     rw [hst0]
     simp only [hkl]
     split
     ·rename_i hn
      rw [List.getElem?_append_left hn]
     ·rename_i hn
      rw [List.getElem?_append_right (by omega),List.getElem?_drop]
      congr 1
      omega
    have hcell:∀ (n:Nat) (b:Blk),s.mem[n]?=some b→b.cells.map (SC.den (e.at rN))=b.cells.map (SC.den e):=by
     intro n b hb
     obtain ⟨b',h1,h2⟩:=hkm n b hb
     have:=hlex.memd b' (List.mem_of_getElem? h1)
     rwa [h2] at this
    have hscp0:∀ (n:Nat) (b:Blk),(st 0).mem[n]?=some b→b.cells.all (SC.scp s0.mem.length s0.rows.length)=true:=by
     intro n b hb
     rw [hst0m] at hb
     split at hb
     ·rw [hkl,hkr]
      exact hscm b (List.mem_of_getElem? hb)
     ·rename_i hn
      have hlt:=(List.getElem?_eq_some_iff.1 hb).1
      have hml:sN.mem.length=s0.mem.length + al.length:=by rw [hmem]; simp [hnl]
      obtain ⟨_,b',h2,_,h4,_⟩:=hlex.alOK (n - s0.mem.length) (al[n - s0.mem.length]'(by omega)) (List.getElem?_eq_getElem (by omega))
      rw [show s0.mem.length + (n - s0.mem.length)=n by omega,hb] at h2
      simp only [Option.some.injEq] at h2
      subst h2
      exact h4
    have hlk:∀ c o,N1 + c < N→ops[N1 + c]?=some o→o ∈ (ops.toList.take N).drop N1:=fun c o hc ho=>List.mem_of_getElem? (i:=c) (by rw [hlget,if_pos hc]; exact ho)
    have hap:∀ c o,N1 + c < N→ops[N1 + c]?=some o→∀ t ∈ o.looksAt ops,∀ k,N1≤k→k < N→(ops[k]?).bind (·.dst) ≠ some t:=by
     intro c o hc ho t ht k h1 h2 hd
     obtain ⟨j,rfl⟩:∃ j,k=N1 + j:=⟨k - N1,by omega⟩
     have hil:N1 + j < ops.size:=by omega
     have hoi:ops[N1 + j]?=some ops[N1 + j]:=Array.getElem?_eq_getElem hil
     rw [hoi] at hd
     have:=List.all_eq_true.1 (List.all_eq_true.1 hapt o (hlk c o hc ho)) _ (hlk j _ h2 hoi)
     simp only [Option.bind_some] at hd
     rw [hd] at this
     simp only [Bool.not_eq_true',List.contains_eq_mem,decide_eq_false_iff_not] at this
     exact this ht
    have hXlt:∀ n ∈ X,n < s0.mem.length:=by
     intro n hn
     obtain ⟨_,b,hb,_⟩:=hXl n hn
     rw [hkl]
     exact (List.getElem?_eq_some_iff.1 hb).1
    have hLt:∀ c,N1 + c < N→(∃ o t ta x n off y b,ops[N1 + c]?=some o∧Lt P X s0.mem.length s0.rows.length o (st c) (st (c + 1)) t ta x n off y b∧sN.fr.getD ta Z6=.w (.o (.p n off))∧(Z88 ops s0.mem.length (e.at rN) al sN (fun n=>n ∈ X) st).tgt (N1 + c)=n) ∨
      ∃ o x d,ops[N1 + c]?=some o∧As s0.mem.length s0.rows.length o (st c) (st (c + 1)) x d∧(Z88 ops s0.mem.length (e.at rN) al sN (fun n=>n ∈ X) st).tgt (N1 + c)=sN.mem.length:=by
     intro c hc
     have hil:N1 + c < ops.size:=by omega
     have hoi:ops[N1 + c]?=some ops[N1 + c]:=Array.getElem?_eq_getElem hil
     rcases Z7e (hstep1 c _ hc hoi) with ⟨t,ta,x,n,off,y,b,hl⟩ | ⟨x,d,hl⟩
     ·have hslot:sN.fr.getD ta Z6=.w (.o (.p n off)):=by
       have:=hl.slot
       rw [(hsame c (by omega)).1] at this
       exact this
      refine .inl ⟨_,t,ta,x,n,off,y,b,hoi,hl,hslot,?_⟩
      unfold Z88
      simp only [hoi]
      unfold Zso
      rw [hl.op]
      simp only [hslot]
     ·refine .inr ⟨_,x,d,hoi,hl,?_⟩
      unfold Z88
      simp only [hoi]
      unfold Zso
      rw [hl.op]
    have hnwS:∀ n i,(Z88 ops s0.mem.length (e.at rN) al sN (fun n=>n ∈ X) st).nw n=some i→s0.mem.length≤n∧al[n - s0.mem.length]?=some i:=by
     intro n i hn
     have hn':(if n < s0.mem.length then none else al[n - s0.mem.length]?)=some i:=hn
     split at hn'
     ·cases hn'
     ·exact ⟨by omega,hn'⟩
    have hXcont:∀ n,n ∈ X→w.heap[e.β.getD n 0]?=some (Z3r (e.at rN) st n 0):=by
     intro n hn'
     obtain ⟨_,b,hb,hl⟩:=hXl n hn'
     unfold Z3r
     rw [hst0m,if_pos (hXlt n hn'),hb]
     simp only
     rw [hcell n b hb]
     exact hB.blk n b hb hl
    refine Z1hd (a0:=a.tmps) (w1:=w.heap.size) (C:=fun w'=>Cls { w with drawn:=w.drawn + 1 } (fun k=>∃ n,n ∈ X∧k=e.β.getD n 0) w') (CI:=fun i w'=>Cls { w with drawn:=w.drawn + 1 } (fun k=>Z9n (Zk2 ops) N1 N i=false∧∃ n,n ∈ X∧k=e.β.getD n 0) w') (S:=Z9n (Zk2 ops) N1 N) (D:=Z88 ops s0.mem.length (e.at rN) al sN (fun n=>n ∈ X) st) hNs hN1N hforced hdeps hpair (fun i o d hi ho hd=>by rw [ha0,hkf]; exact hdl i o d hi ho hd) (fun i w' hw'=>⟨hw'.os,hw'.tape,hw'.output,hw'.size,fun k hk hx=>hw'.block k hk (fun h=>hx h.2)⟩) ?_ ?_ hpre ?_ hchain (fun w' hw'=>hw'.size) ?_ ?_ ?_ ?_ ?_ ?_ ?_ ?_ ops.size _ a _ (fun _=>0) 0 (by simp) (fun i _=>by simp [Array.getD]) (by omega) (fun i h1 _=>by simp [Array.getD]; omega) ?_ (Cls.refl _ _) h.defs rfl ?_ ?_ ?_ ?_ ?_ ?_
    ·intro i w' hw' hS
     refine ⟨hw'.os,hw'.tape,hw'.output,hw'.size,fun k hk hx=>?_⟩
     by_cases hkx:∃ n,n ∈ X∧k=e.β.getD n 0
     ·have hSi:Z9n (Zk2 ops) N1 N i=true:=by
       cases hh:Z9n (Zk2 ops) N1 N i with
       | true=>rfl
       | false=>exact absurd ⟨hh,hkx⟩ hx
      obtain ⟨n,hn,rfl⟩:=hkx
      rw [hXcont n hn]
      exact hS hSi n hn
     ·exact hw'.block k hk hkx
    ·intro i hi k h1 h2
     have:=List.all_eq_true.1 hi k (by simpa using h2)
     simp only [Bool.or_eq_true,Z1ks] at this
     rcases this with h3 | h3
     ·omega
     ·exact Z7a h3
    ·intro i h1 h2
     obtain ⟨c,rfl⟩:∃ c,i=N1 + c:=⟨i - N1,by omega⟩
     have hil:N1 + c < ops.size:=by omega
     have hoi:ops[N1 + c]?=some ops[N1 + c]:=Array.getElem?_eq_getElem hil
     exact Z13d (Xa:=fun n=>n ∈ X) hlex h0 hval huniq hN1N h2 hoi (hsame c (by omega)).1 (fun x d hl=>by
      rw [hents]
      simp only [Nat.not_lt_of_le (Nat.le_add_right N1 c),if_false,hoi,Option.map_some,hl.op]) (hap c _ h2 hoi) (hstep1 c _ h2 hoi)
    ·intro w1 w2 g ob hw1 hsb hg
     exact hw1.but hsb hg
    ·intro n i hn
     obtain ⟨h1,h2⟩:=hnwS n i hn
     obtain ⟨h3,b,h4,_,_,h5,_⟩:=hlex.alOK _ i h2
     refine ⟨h3,?_⟩
     rw [h5]
     show _=some (Z3r (e.at rN) st n 0)
     unfold Z3r
     rw [hst0m,if_neg (by omega)]
     rw [show s0.mem.length + (n - s0.mem.length)=n by omega] at h4
     rw [h4]
    ·intro n n' i hn hn'
     obtain ⟨h1,h2⟩:=hnwS n i hn
     obtain ⟨h3,h4⟩:=hnwS n' i hn'
     have hl1:=(List.getElem?_eq_some_iff.1 h2).1
     have:=(List.getElem?_inj hl1 hlex.alND).1 (h2.trans h4.symm)
     omega
    ·intro n hn
     have hn':n ∈ X:=hn
     obtain ⟨_,b,hb,hl⟩:=hXl n hn'
     exact ⟨if_pos (hXlt n hn'),Z1c (hB.blk n b hb hl)⟩
    ·intro n n' hn hn' heq
     obtain ⟨_,b,hb,hl⟩:=hXl n hn
     obtain ⟨_,b',hb',hl'⟩:=hXl n' hn'
     exact hB.sep n n' b b' hb hb' hl hl' heq
    ·intro k h1 h2
     obtain ⟨c,rfl⟩:∃ c,k=N1 + c:=⟨k - N1,by omega⟩
     rcases hLt c h2 with ⟨o,t,ta,x,n,off,y,b,ho,hl,hslot,htg⟩ | ⟨o,x,d,ho,hl,htg⟩
     case inr =>
      rw [htg]
      have hml:sN.mem.length=s0.mem.length + al.length:=by rw [hmem]; simp [hnl]
      refine ⟨fun hd=>?_,fun j hn=>?_⟩
      ·rw [ho] at hd
       simp [hl.dst] at hd
      ·obtain ⟨h3,h4⟩:=hnwS _ j hn
       have:=(List.getElem?_eq_some_iff.1 h4).1
       omega
     rw [htg]
     have hnlt:n < sN.mem.length:=by
      rw [← (hsame c (by omega)).2]
      exact (List.getElem?_eq_some_iff.1 hl.blk).1
     have hml:sN.mem.length=s0.mem.length + al.length:=by rw [hmem]; simp [hnl]
     refine ⟨fun _ hn=>?_,fun j hn=>?_⟩
     ·rcases hl.at' with h3 | h3
      ·have hn':(if n < s0.mem.length then none else al[n - s0.mem.length]?)=none:=hn
       rw [if_neg (by omega),List.getElem?_eq_none_iff] at hn'
       omega
      ·exact h3
     ·obtain ⟨h3,h4⟩:=hnwS n j hn
      have hns:(sN.fr.getD ta Z6).scp s0.mem.length s0.rows.length=false:=by
       rw [hslot]; simpa [SV.scp,SW.scp,SC.scp] using h3
      obtain ⟨j',i',hj',hdt⟩:=hlex.nscp ta hns
      obtain ⟨h5,bb,_,_,_,_,mk,h6,_,h8⟩:=hlex.alOK j' i' hj'
      have hmk:=h8 ta hdt
      rw [hslot] at hmk
      have hnj:n=s0.mem.length + j':=by
       rcases h6 with h6 | ⟨l,cc,h6⟩
       ·rw [h6] at hmk
        simp only [one,SV.w.injEq,SW.o.injEq,SC.p.injEq] at hmk
        exact hmk.1
       ·rw [h6] at hmk
        simp [one] at hmk
      rw [hnj,Nat.add_sub_cancel_left,hj'] at h4
      simp only [Option.some.injEq] at h4
      subst h4
      have hjl:i' < ops.size:=by omega
      have hoj:ops[i']?=some ops[i']:=Array.getElem?_eq_getElem hjl
      rcases (hpair i' (N1 + c) _ _ (by omega) h2 hoj ho).2 with hr | hap
      ·exact hr
      ·rw [hoj] at hdt
       exact absurd (Z3h (ops:=ops) (by rw [hl.op]; simp [Op.operands])) ((Oper.apart_spec hap).1 ta hdt)
    ·intro k n h1 h2 hne
     obtain ⟨c,rfl⟩:∃ c,k=N1 + c:=⟨k - N1,by omega⟩
     rcases hLt c h2 with ⟨o,t,ta,x,n',off,y,b,ho,hl,hslot,htg⟩ | ⟨o,x,d,ho,hl,htg⟩
     case inr =>
      rw [show N1 + c - N1=c by omega]
      show Z3r (e.at rN) st n (c + 1)=Z3r (e.at rN) st n c
      unfold Z3r
      rw [hl.eq]
     rw [htg] at hne
     rw [show N1 + c - N1=c by omega]
     show Z3r (e.at rN) st n (c + 1)=Z3r (e.at rN) st n c
     unfold Z3r
     rw [hl.eq]
     simp only [List.getElem?_set_ne (Ne.symm hne)]
    ·intro act w' γ hw' hd hsz hγ hγX hγu hslot
     have hend:st (N - N1)=s3:=by rw [← hll]; exact hstE
     have h3m:=hsame (N - N1) (Nat.le_refl _)
     rw [hend] at h3m
     have hml:sN.mem.length=s0.mem.length + al.length:=by rw [hmem]; simp [hnl]
     have hb3:=fun (n:Nat) (b:Blk) (hb:s3.mem[n]?=some b)=>Z1ax hstS (N - N1) (by rw [hll]; exact Nat.le_refl _) n b (by rw [hend]; exact hb)
     have hlike:Env.like s0.mem.length s0.rows.length (e.at rN) { e with r:=rN,β:=e.β++al.map γ } :=
      ⟨rfl,rfl,rfl,fun n hn=>Z15 _ _ _ _ (by show n < e.β.length; rw [h0.nb]; exact hn),fun _ _=>rfl⟩
     obtain ⟨act0,hact0⟩:∃ act0:Act,act0={ act with tmps:=Array.ofFn (n:=a.tmps.size) fun t=>match Zu ops N1 t with | some i=>(ents i).val (γ i) | none=>a.tmps.getD t undef }:=⟨_,rfl⟩
     have hsz0:act0.tmps.size=a.tmps.size:=by rw [hact0]; simp
     have hslot0:∀ t,act0.tmps.getD t undef=match Zu ops N1 t with | some i=>(ents i).val (γ i) | none=>a.tmps.getD t undef:=by
      intro t
      by_cases ht:t < a.tmps.size
      ·rw [hact0]
       simp [Array.getD,ht]
      ·rw [show act0.tmps.getD t undef=undef by simp [Array.getD,hsz0,ht]]
       cases hw:Zu ops N1 t with
       | none=>simp [Array.getD,ht]
       | some i =>
        exfalso
        obtain ⟨h1,h2⟩:=Zl hw
        have hil:i < ops.size:=by omega
        have hoi:ops[i]?=some ops[i]:=Array.getElem?_eq_getElem hil
        rw [hoi] at h2
        have:=hdl i _ t (by omega) hoi h2
        rw [ha0,hkf] at ht
        exact ht this
     obtain ⟨hrel0,hle⟩:=hlex.done (γ:=γ) (act:=act0) hB h0 hXok ⟨hkl.symm,hkr.symm,by rw [← hs0],by rw [← hs0]⟩ ha0 (fun i j t hi hj=>huniq i j t (by omega) (by omega)) hval hw' (by rw [hact0]; exact hd) hsz0 (fun i hi=>by
       obtain ⟨j,hj⟩:=List.getElem?_of_mem hi
       exact (hγ (s0.mem.length + j) i (by
        show (if s0.mem.length + j < s0.mem.length then none else al[s0.mem.length + j - s0.mem.length]?)=some i
        rw [if_neg (by omega),Nat.add_sub_cancel_left]; exact hj)).1) hγu hslot0 (memF:=s3.mem) h3m.2 (fun n b hb hl hn=>by
       obtain ⟨⟨b',h1,_,h2⟩,_⟩:=hb3 n b hb
       rw [hst0m,if_pos hn] at h1
       exact ⟨b',h1,by rw [← h2]; exact hl⟩) (fun n b hb hl=>by
       obtain ⟨⟨b',h1,hty,h2⟩,hun,hsc3⟩:=hb3 n b hb
       rw [Z2m hlike (hsc3 hscp0)]
       have hcontb:Z3r (e.at rN) st n (N - N1)=.cells (b.cells.map (SC.den (e.at rN))).toArray b.ty (0,0):=by
        unfold Z3r
        rw [hend,hb]
       rcases Nat.lt_or_ge n s0.mem.length with hn | hn
       ·rw [show (e.β++al.map γ).getD n 0=e.β.getD n 0 from hlike.β n hn]
        by_cases hx:n ∈ X
        ·have:=hγX n hx
         rw [show (Z88 ops s0.mem.length (e.at rN) al sN (fun n=>n ∈ X) st).cont n (N - N1)=_ from hcontb] at this
         exact this
        ·have h4:=hun hn hx
         rw [hst0m,if_pos hn] at h4
         have h5:=hB.blk n b h4 hl
         rw [hw'.block _ (Z1c h5) (by
          rintro ⟨m,hm,heq⟩
          obtain ⟨_,c,hc,hlc⟩:=hXl m hm
          have:=hB.sep n m b c h4 hc hl hlc heq
          subst this
          exact hx hm),h5,hcell n b h4]
       ·have hlt:=(List.getElem?_eq_some_iff.1 hb).1
        obtain ⟨j,rfl⟩:∃ j,n=s0.mem.length + j:=⟨n - s0.mem.length,by omega⟩
        obtain ⟨i',hj⟩:∃ i',al[j]?=some i':=⟨al[j]'(by omega),List.getElem?_eq_getElem (by omega)⟩
        have h4:=(hγ (s0.mem.length + j) i' (by
         show (if s0.mem.length + j < s0.mem.length then none else al[s0.mem.length + j - s0.mem.length]?)=some _
         rw [if_neg (by omega),Nat.add_sub_cancel_left]; exact hj)).2
        rw [show (Z88 ops s0.mem.length (e.at rN) al sN (fun n=>n ∈ X) st).cont (s0.mem.length + j) (N - N1)=_ from hcontb] at h4
        have h5:(e.β++al.map γ).getD (s0.mem.length + j) 0=γ i':=by
         rw [← h0.nb]
         simp [List.getD,List.getElem?_append_right,hj]
        rw [h5]
        exact h4)
     have h3e:({ sN with mem:=s3.mem }:St)=s3:=h3m.1.symm
     rw [h3e] at hrel0
     have hfr3:s3.fr=sN.fr:=by rw [h3m.1]
     have hfl:s3.fr.length=a.tmps.size:=by rw [hfr3,ha0,hlex.len]
     have hev3:∀ x,s3.ev x=sN.ev x:=fun x=>by
      cases x <;> simp [St.ev,hfr3]
     have hrel:Rel { e with r:=rN,β:=e.β++al.map γ } W0 { s3 with fr:=Z58 s3 ((ops.toList.take N).drop N1) s3.fr } act w':=by
      refine ⟨hrel0.rep.fr _,?_,hd⟩
      have hsl0:∀ t,act0.tmps.getD t undef=(s3.fr.getD t Z6).den { e with r:=rN,β:=e.β++al.map γ }:=fun t=>Z8r hrel0 t
      apply Array.ext
      ·rw [hsz]; simp [Z9w,hfl]
      ·intro t h1 h2
       have hta:t < a.tmps.size:=by rw [← hsz]; exact h1
       rw [show act.tmps[t]=act.tmps.getD t undef by simp [Array.getD,h1],hslot t]
       have hgoal:((Z58 s3 ((ops.toList.take N).drop N1) s3.fr).map (SV.den { e with r:=rN,β:=e.β++al.map γ })).toArray[t]=((Z58 s3 ((ops.toList.take N).drop N1) s3.fr).getD t Z6).den { e with r:=rN,β:=e.β++al.map γ }:=by
        have h3:t < (Z58 s3 ((ops.toList.take N).drop N1) s3.fr).length:=by rw [Z9w,hfl]; exact hta
        simp [List.getD,h3]
       rw [hgoal]
       have hno:(∀ k,N1≤k→k < N→(ops[k]?).bind (·.dst) ≠ some t)→(Z58 s3 ((ops.toList.take N).drop N1) s3.fr).getD t Z6=s3.fr.getD t Z6:=by
        intro hn
        refine Z9x s3 _ _ fun o ho hdo=>?_
        obtain ⟨c,hc⟩:=List.getElem?_of_mem ho
        rw [hlget] at hc
        split at hc
        ·rename_i hcN
         exact hn (N1 + c) (by omega) hcN (by rw [hc]; exact hdo)
        ·cases hc
       cases hw:Zu ops N t with
       | none =>
        rw [hno (fun k h3 h4=>Z3w hw k h4),← hsl0 t,hslot0 t]
        cases hw1:Zu ops N1 t with
        | none=>rfl
        | some i =>
         obtain ⟨h3,h4⟩:=Zl hw1
         exact absurd h4 (Z3w hw i (by omega))
       | some i =>
        obtain ⟨hiN,hid⟩:=Zl hw
        rcases Nat.lt_or_ge i N1 with hi1 | hi1
        ·rw [hno (fun k h3 h4 h5=>by have:=huniq k i t h4 hiN h5 hid; omega),← hsl0 t,hslot0 t,Z5d hi1 hid (fun j hj hjd=>huniq j i t (by omega) hiN hjd hid)]
        ·obtain ⟨c,rfl⟩:∃ c,i=N1 + c:=⟨i - N1,by omega⟩
         rcases hLt c hiN with ⟨o,_,_,_,_,_,_,_,ho,hl,_⟩ | ⟨o,x,d,ho,hl,_⟩
         ·rw [ho] at hid
          simp [hl.dst] at hid
         ·rw [ho] at hid
          simp only [Option.bind_some,hl.dst,Option.some.injEq] at hid
          subst hid
          rw [Zhl s3 _ s3.fr c o (by rw [hlget,if_pos hiN]; exact ho) hl.op hl.dst (by rw [hfl]; exact hta) (fun j o' hj hdj=>by
           rw [hlget] at hj
           split at hj
           ·rename_i hjN
            have:=huniq (N1 + j) (N1 + c) d hjN hiN (by rw [hj]; exact hdj) (by rw [ho]; exact hl.dst)
            omega
           ·cases hj),hev3]
          have hsc:(sN.ev x).scp s0.mem.length s0.rows.length=true:=by
           have:=hl.scp
           rw [(hsame c (by omega)).1] at this
           exact this
          rw [hents]
          simp only [Nat.not_lt_of_le (Nat.le_add_right N1 c),if_false,ho,Option.map_some,hl.op]
          exact (SV.den_like hlike _ hsc).symm
     have hfl3:s3.fl=s.fl∧s3.flr=s.flr:=by
      rw [h3m.1]
      refine ⟨hlex.fl.trans ?_,hlex.flr.trans ?_⟩ <;> rw [← hs0]
     have hdp3:s3.dp=bs.length:=by
      rw [h3m.1]
      refine (hlex.dp.trans ?_).trans hdp
      rw [← hs0]
     refine Z79 hG hih _ _ k bs _ act w' hrel hdp3 hsat ?_
     rintro a'' w'' ⟨s'',e'',more,hle'',hrel'',hf,hfr,hd',hsat''⟩
     exact hQ a'' w'' ⟨s'',e'',more,hle.trans hle'',hrel'',hf.trans hfl3.1,hfr.trans hfl3.2,hd',hsat''⟩
    ·unfold cnt
     exact Nat.le_trans (List.length_filter_le _ _) (by simp)
    ·intro j oj _ hj
     simp [Array.getD] at hj
    ·intro n i _ hi
     simp [Array.getD] at hi
    ·intro n hn
     exact hXcont n hn
    ·intro i ob _ hi
     simp [Array.getD] at hi
    ·intro i j _ _ hi
     simp [Array.getD] at hi
    ·intro t
     unfold Zal
     cases Zu ops N t with
     | none=>rfl
     | some i=>simp [Array.getD]
   ·exact hsat.elim
  ·exact hs.elim
 ·exact hs.elim
theorem Px.mk {W0:Bas} {e e':Env} {s':St} {a:Act} {w:World} {fl flr:Nat} {k:Z4x} {out:Out} {more:List (List Int→Prop)} (hle:Env.le e e') (hrel:Rel e' W0 s' a w) (hf:s'.fl=fl) (hfr:s'.flr=flr) (hd:s'.dp=(bs++more).length) (hs:(k out s').sat Γ e'.R Ψ (bs++more) e'.r):Px Γ Ψ bs W0 e fl flr k out.exitOf a w :=
 ⟨out,s',e',more,rfl,hle,hrel,hf,hfr,hd,hs⟩
theorem Px.trans {W0:Bas} {e e':Env} {fl flr fl' flr':Nat} {k:Z4x} {x:Exit} {a:Act} {w:World} {more:List (List Int→Prop)} (hle:Env.le e e') (hf:fl'=fl) (hfr:flr'=flr) (h:Px Γ Ψ (bs++more) W0 e' fl' flr' k x a w):Px Γ Ψ bs W0 e fl flr k x a w:=by
 obtain ⟨out,s',e'',more',h1,h2,h3,h4,h5,h6,h7⟩:=h
 exact ⟨out,s',e'',more++more',h1,hle.trans h2,h3,h4.trans hf,h5.trans hfr,by rw [← List.append_assoc]; exact h6,by rw [← List.append_assoc]; exact h7⟩
theorem Zpt {body:Code} {Q Q':Exit→Act→World→Prop} (h:∀ x a w,Q x a w→Q' x a w):∀ (n:Nat) (a:Act) (w:World),Z74 (wps P body) Q n a w→Z74 (wps P body) Q' n a w:=by
 intro n
 induction n with
 | zero=>intro a w hr; exact hr
 | succ n ih =>
  intro a w hr
  rw [Z8k] at hr ⊢
  refine Z4p body hr ?_
  intro ex a' w' hx
  cases ex with
  | normal=>exact ih a' w' hx
  | _=>exact h _ _ _ hx
theorem Zhz {pl:Zak} {s x:St} {rows:List Row} {aZ:List B} {es:List E} {us:List Nat} (h:Zvg pl s rows x=some (aZ,es,us)) :
  ∃ as1 as2 es1 es2 us1 us2,aZ=as1++as2∧es=es1++es2∧us=us1++us2∧Z3f x pl.fr s.fr x.fr=some (as1,es1,us1)∧Z6c x pl.mem s.mem x.mem=some (as2,es2,us2)∧Zf2 (us1++us2)=true∧Zzc (us1++us2) 0 rows x.rows=true:=by
 unfold Zvg at h
 split at h
 ·rename_i as1 es1 us1 as2 es2 us2 h1 h2
  split at h
  ·rename_i hc
   simp only [Z1kr] at hc
   simp only [Option.some.injEq,Prod.mk.injEq] at h
   obtain ⟨rfl,rfl,rfl⟩:=h
   exact ⟨as1,as2,es1,es2,us1,us2,rfl,rfl,rfl,h1,h2,hc.1,hc.2⟩
  ·cases h
 ·cases h
theorem Zi0 {e:Env} {W0:Bas} {a:Act} {w:World} {k:St→T}:∀ (ts:List Nat) (s:St),Rel e W0 s a w→(Z12w ts s k).sat Γ e.R Ψ bs e.r→∃ x,Rel e W0 { s with fr:=x } a w∧(k { s with fr:=x }).sat Γ e.R Ψ bs e.r
 | [],s,h,hs=>⟨s.fr,h,hs⟩
 | t::ts,s,h,hs=>by
  unfold Z12w at hs
  split at hs
  ·exact Zi0 ts s h hs
  ·obtain ⟨x,h1,hs1⟩:=Z6g h hs
   obtain ⟨y,h2,hs2⟩:=Zi0 ts { s with fr:=x } h1 hs1
   exact ⟨y,h2,hs2⟩
theorem Zsu {ih:Code→St→Z4x→T} (hih:IH P Γ ih) {pl:Zak} {body:Code} {s:St} {k:Z4x} {W0:Bas} {e:Env} {a:Act} {w:World} (h:Rel e W0 s a w) (hdp:s.dp=bs.length)
  (hs:(Z1h5 ih pl body s k).sat Γ e.R Ψ bs e.r):∃ n,Z74 (wps P body) (Px Γ Ψ bs W0 e s.fl s.flr k) n a w:=by
 unfold Z1h5 at hs
 split at hs
 ·rename_i hsc
  split at hs
  ·rename_i aZ es us hm
   obtain ⟨has,hs⟩:=Z1y hs
   obtain ⟨I,μ,hI,hloop⟩:=hs
   obtain ⟨as1,as2,es1,es2,us1,us2,rfl,rfl,rfl,h1,h2,h3,_⟩:=Zhz hm
   have start:=Zpm (ex:=e) (sx:=s) (us0:=us1++us2) h.rep hsc (Env.le_refl _) h rfl rfl h1 h2 h3 has (fun n b hb hl=>by
    obtain ⟨hb',hn⟩:=Zko hb hl
    exact ⟨hn,b,hb',hl,rfl,rfl,rfl⟩)
   obtain ⟨e2,hle2,her,heR,hrel2⟩:=start
   have hlen:(es1++es2).length=nvS pl.fr + nvM pl.mem:=by
    have h4:=hrel2.rep.nv
    have h5:(Z1h3 pl s (us1++us2)).nv=s.nv + (nvS pl.fr + nvM pl.mem):=rfl
    rw [h5,her,List.length_append,List.length_map,h.rep.nv] at h4
    omega
   have key:∀ (n:Nat) (xs:List Int),xs.length=(es1++es2).length→I xs→μ xs < n→∀ (e2:Env) (a:Act) (w:World),Env.le e e2→e2.r=e.r++xs→e2.R=e.R→Rel e2 W0 (Z1h3 pl s (us1++us2)) a w →
     Z74 (wps P body) (Px Γ Ψ bs W0 e s.fl s.flr k) n a w:=by
    intro n
    induction n with
    | zero=>intro xs _ _ hlt; omega
    | succ n ihn =>
     intro xs hxl hIx hlt e2 a w hle2 her heR hrel2
     have hbody:=hloop xs hxl hIx
     rw [← her,← heR] at hbody
     rw [Z8k]
     refine Z4p body (hih body _ _ W0 Ψ _ e2 a w hrel2 (by show s.dp + 1=_; rw [hdp]; simp) hbody) ?_
     rintro ex a' w' ⟨out,s',e',more,rfl,hle',hrel',hf,hfr,hd,hsat⟩
     have hle3:=hle2.trans hle'
     cases out with
     | norm =>
      dsimp only at hsat
      obtain ⟨frx,hrelx,hsatx⟩:=Zi0 _ s' hrel' hsat
      clear hsat hrel'
      obtain ⟨sx,hsx⟩:∃ sx:St,sx={ s' with fr:=frx }:=⟨_,rfl⟩
      have hf:sx.fl=s.fl:=by rw [hsx]; exact hf
      have hfr:sx.flr=s.flr:=by rw [hsx]; exact hfr
      have hd:sx.dp=((bs++[fun ys=>I ys∧μ ys < μ xs])++more).length:=by rw [hsx]; exact hd
      rw [← hsx] at hrelx hsatx
      clear hsx
      revert hd
      revert hfr
      revert hf
      revert hsatx
      revert hrelx
      generalize sx=s'
      intro hrel' hsat hf hfr hd
      split at hsat
      ·rename_i bs' fs us' hm'
       obtain ⟨has',hsat⟩:=Z1y hsat
       have hback:∀ {d:Nat} {es:List E} {Rr:Fo} {r:List Int} {bb:List (List Int→Prop)} {p:List Int→Prop},bb[d]?=some p→(T.back d es).sat Γ Rr Ψ bb r→p (es.map (E.den Rr r)):=by
        intro d es Rr r bb p hp hb
        simp only [T.sat,hp] at hb
        exact hb
       have hget:((bs++[fun ys=>I ys∧μ ys < μ xs])++more)[s.dp]?=some (fun ys=>I ys∧μ ys < μ xs):=by
        rw [hdp,List.append_assoc,List.getElem?_append_right (Nat.le_refl _),Nat.sub_self]
        rfl
       obtain ⟨hIy,hμ⟩:=hback hget hsat
       obtain ⟨as1',as2',es1',es2',us1',us2',rfl,rfl,rfl,h1',h2',h3',h4'⟩:=Zhz hm'
       obtain ⟨e3,hle4,her4,heR4,hrel4⟩:=Zpm (ex:=e') (sx:=s') (us0:=us1++us2) h.rep hsc hle3 hrel' hf hfr h1' h2' h3' has' (fun n b hb hl=>by
        have:=Zkp h4' n b hb hl
        rwa [Nat.zero_add] at this)
       refine ihn _ ?_ hIy (by omega) e3 a' w' hle4 her4 heR4 hrel4
       have h5:=hrel4.rep.nv
       have h6:(Z1h3 pl s (us1++us2)).nv=s.nv + (nvS pl.fr + nvM pl.mem):=rfl
       rw [h6,her4,List.length_append,h.rep.nv] at h5
       omega
      ·exact hsat.elim
     | exit id=>exact Px.mk (out:=.exit id) (more:=[fun ys=>I ys∧μ ys < μ xs]++more) hle3 hrel' hf hfr (by rw [← List.append_assoc]; exact hd) (by rw [← List.append_assoc]; exact hsat)
     | ret=>exact Px.mk (out:=.ret) (more:=[fun ys=>I ys∧μ ys < μ xs]++more) hle3 hrel' hf hfr (by rw [← List.append_assoc]; exact hd) (by rw [← List.append_assoc]; exact hsat)
   exact ⟨_,key _ _ (by rw [List.length_map]) hI (Nat.lt_succ_self _) e2 a w hle2 her heR hrel2⟩
  ·exact hs.elim
 ·exact hs.elim
theorem Z3y (hm:P.follows .mixedOrders=true) {lp:St→Code→Option Zak} (hG:Gok P Γ):∀ f:Nat,IH P Γ (Zjt P lp Γ f)
 | 0=>fun c s k W0 Ψ bs e a w h _ hs=>hs.elim
 | f + 1=>by
  have ih:=Z3y hm (lp:=lp) hG f
  intro c s k W0 Ψ bs e a w h hdp hs
  cases c with
  | skip=>exact (Px.here (out:=.norm) rfl (Env.le_refl _) h rfl rfl hdp hs)
  | label l=>exact (Px.here (out:=.norm) rfl (Env.le_refl _) h rfl rfl hdp hs)
  | region id ops draw =>
   have fin:∀ a' w',Nx Γ Ψ bs W0 e s.fl s.flr (k .norm) a' w'→Px Γ Ψ bs W0 e s.fl s.flr k .normal a' w':=by
    rintro a' w' ⟨s',e',more,h1,h2,h3,h4,h5,h6⟩
    exact Px.mk (out:=.norm) h1 h2 h3 h4 h5 h6
   cases draw with
   | true=>exact Z1a8 hm (fun c a w hp=>by obtain ⟨out,_,_,_,hx,_⟩:=hp; cases out <;> cases hx) (fun ⟨a,w,hp⟩=>by obtain ⟨out,_,_,_,hx,_⟩:=hp; cases out <;> cases hx) (Zk4 hm hG ih h hdp hs fin)
   | false =>
    have alt:(Z55 P Γ (Zjt P lp Γ f) ops ops.toList s (k .norm)).sat Γ e.R Ψ bs e.r→wps P (.region id ops false) (Px Γ Ψ bs W0 e s.fl s.flr k) a w:=fun hs =>
     Zlu (Z79 hG ih ops.toList s (k .norm) bs e a w h hdp hs fin)
    have hs':(Z1gz P ops s (k .norm) (Z55 P Γ (Zjt P lp Γ f) ops ops.toList s (k .norm))).sat Γ e.R Ψ bs e.r:=hs
    unfold Z1gz at hs'
    split at hs'
    ·split at hs'
     ·rename_i aZ s' pend hsp
      split at hs'
      ·rename_i hun
       obtain ⟨has,hk⟩:=Z1y hs'
       have hsr:SpR e W0 s [] a w:=⟨h.rep,h.defs,by rw [h.tmps]; simp,fun t=>by rw [Z8r h t]; rfl,fun p hp=>(by cases hp),List.Pairwise.nil⟩
       refine Zlu (Z4r ops.toList s [] aZ s' pend e W0 a w hsp has hsr ?_)
       intro a' w' hsr'
       obtain ⟨e',h1,h2,h3,h4,h5,h6,h7⟩:=Zhp pend s' e hsr' hun
       have hst:=Z9y _ _ _ _ _ _ hsp
       exact fin a' w' (Nx.here h1 h4 (h5.trans (by rw [hst])) (h6.trans (by rw [hst])) (h7.trans (by rw [hst]; exact hdp)) (by rw [h2,h3]; exact hk))
      ·exact alt hs'
     ·exact alt hs'
    ·exact alt hs'
  | seq x y =>
   refine Z4p x (ih x s _ W0 Ψ bs e a w h hdp hs) ?_
   rintro ex a' w' ⟨out,s',e',more,rfl,hle,hrel,hf,hfr,hd,hsat⟩
   cases out with
   | norm=>exact Z4p y (ih y s' k W0 Ψ (bs++more) e' a' w' hrel hd hsat) (fun _ _ _ hp=>Px.trans hle hf hfr hp)
   | exit id=>exact Px.mk (out:=.exit id) hle hrel hf hfr hd hsat
   | ret=>exact Px.mk (out:=.ret) hle hrel hf hfr hd hsat
  | cond c x y =>
   cases c with
   | tmp t =>
    simp only [Zjt] at hs
    obtain ⟨z,h1,hs1⟩:=Z6g h hs
    have hev:∀ b,Zk0 { s with fr:=z } t=some (.c b)→a.eval (.tmp t)=.bool b:=by
     intro b hb
     rw [h1.eval (.tmp t)]
     show (({ s with fr:=z }:St).fr.getD t Z6).den e=_
     rw [(Z9t hb).2]
     rfl
    split at hs1
    ·rename_i hb
     exact ⟨true,(hev true hb),ih x { s with fr:=z } k W0 Ψ bs e a w h1 hdp hs1⟩
    ·rename_i hb
     exact ⟨false,(hev false hb),ih y { s with fr:=z } k W0 Ψ bs e a w h1 hdp hs1⟩
    ·exact hs1.elim
   | const v =>
    cases v with
    | bool b =>
     cases b with
     | true=>exact ⟨true,rfl,ih x s k W0 Ψ bs e a w h hdp hs⟩
     | false=>exact ⟨false,rfl,ih y s k W0 Ψ bs e a w h hdp hs⟩
    | _=>exact hs.elim
   | global g=>exact hs.elim
   | func g=>exact hs.elim
  | block id body =>
   refine Z4p body (ih body s _ W0 Ψ bs e a w h hdp hs) ?_
   rintro ex a' w' ⟨out,s',e',more,rfl,hle,hrel,hf,hfr,hd,hsat⟩
   cases out with
   | norm=>exact Px.mk (out:=.norm) hle hrel hf hfr hd hsat
   | exit id' =>
    dsimp only at hsat
    show if id'=id then _ else _
    split at hsat
    ·rename_i hid
     rw [if_pos hid]
     exact Px.mk (out:=.norm) hle hrel hf hfr hd hsat
    ·rename_i hid
     rw [if_neg hid]
     exact Px.mk (out:=.exit id') hle hrel hf hfr hd hsat
   | ret=>exact Px.mk (out:=.ret) hle hrel hf hfr hd hsat
  | loop body =>
   simp only [Zjt] at hs
   split at hs
   ·obtain ⟨n,hr⟩:=Zsu ih h hdp hs
    exact ⟨n,hr⟩
   ·have key:∀ (n:Nat) (s:St) (bs:List (List Int→Prop)) (e:Env) (a:Act) (w:World),Rel e W0 s a w→s.dp=bs.length→(Z1h4 (Zjt P lp Γ f) body n s k).sat Γ e.R Ψ bs e.r→Z74 (wps P body) (Px Γ Ψ bs W0 e s.fl s.flr k) n a w:=by
     intro n
     induction n with
     | zero=>intro s bs e a w _ _ hs; exact hs.elim
     | succ n ihn =>
      intro s bs e a w h hdp hs
      rw [Z8k]
      refine Z4p body (ih body s _ W0 Ψ bs e a w h hdp hs) ?_
      rintro ex a' w' ⟨out,s',e',more,rfl,hle,hrel,hf,hfr,hd,hsat⟩
      cases out with
      | norm=>exact Zpt (fun x a w hp=>Px.trans hle hf hfr hp) n a' w' (ihn s' (bs++more) e' a' w' hrel hd hsat)
      | exit id=>exact Px.mk (out:=.exit id) hle hrel hf hfr hd hsat
      | ret=>exact Px.mk (out:=.ret) hle hrel hf hfr hd hsat
    exact ⟨f,key f s bs e a w h hdp hs⟩
  | exit id=>exact (Px.here (out:=.exit id) rfl (Env.le_refl _) h rfl rfl hdp hs)
  | ret=>exact (Px.here (out:=.ret) rfl (Env.le_refl _) h rfl rfl hdp hs)
  | rangeFunc _ _ _ _=>exact hs.elim
  | scope _=>exact hs.elim
  | goto _=>exact hs.elim
  | refuse _=>exact hs.elim
theorem E.den_Rf (R R':Fo) (r:List Int):E.den R r=E.den R' r:=funext fun a=>E.den_R R R' r a
theorem B.den_R (R R':Fo) (r:List Int):∀ a:B,a.den R r=a.den R' r:=by
 intro a
 induction a <;> simp only [B.den,E.den_R R R'] <;> simp_all
theorem T.sat_R (R R':Fo):∀ (t:T) (bs:List (List Int→Prop)) (r:List Int),t.sat Γ R Ψ bs r=t.sat Γ R' Ψ bs r:=by
 intro t
 induction t with
 | ret es=>intro bs r; simp only [T.sat,E.den_Rf R R']
 | ite b t f iht ihf=>intro bs r; simp only [T.sat,B.den_R R R',iht bs r,ihf bs r]
 | asrt b t ih=>intro bs r; simp only [T.sat,B.den_R R R',ih bs r]
 | call g args t ih =>
  intro bs r
  simp only [T.sat,E.den_Rf R R']
  split
  ·rw [ih]
  ·rfl
 | loop n ini t ih=>intro bs r; simp only [T.sat,E.den_Rf R R',ih]
 | back d es =>
  intro bs r
  simp only [T.sat,E.den_Rf R R']
 | both t f iht ihf=>intro bs r; simp only [T.sat,iht bs r,ihf bs r]
 | fail=>intro bs r; rfl
theorem Zc6:∀ {ks:List K} {es:List E} {i:Nat} {kr:List K} {x:E},(hsE ks es)[i]?=some (kr,x)→∃ ty,(Z2p ks es)[i]?=some ⟨ty,kr,x,true⟩
 | [],_,i,kr,x,h=>by simp [hsE] at h
 | .i _::ks,[],i,kr,x,h=>by simp [hsE] at h
 | .b::ks,[],i,kr,x,h=>by simp [hsE] at h
 | .s _ _::ks,[],i,kr,x,h=>by simp [hsE] at h
 | .i _::ks,_::es,i,kr,x,h=>Zc6 (ks:=ks) (es:=es) (i:=i) h
 | .b::ks,_::es,i,kr,x,h=>Zc6 (ks:=ks) (es:=es) (i:=i) h
 | .s ty _::ks,_::es,0,kr,x,h=>by
  simp only [hsE,Z1ke,Option.some.injEq,Prod.mk.injEq] at h
  obtain ⟨rfl,rfl⟩:=h
  exact ⟨ty,rfl⟩
 | .s _ _::ks,_::es,i + 1,kr,x,h=>by
  obtain ⟨ty,h'⟩:=Zc6 (ks:=ks) (es:=es) (i:=i) (by simpa [hsE] using h)
  exact ⟨ty,by simpa [Z2p] using h'⟩
theorem Z53.slice {w:World} {ks:List K} {v:Value} {c:Int} (h:Z53 w ks v c):∃ a l cp,v=.slice a l cp:=by
 rcases h with ⟨⟨a,h⟩,_⟩ | ⟨b,off,cap,h,_⟩
 ·exact ⟨_,_,_,h⟩
 ·exact ⟨_,_,_,h⟩
theorem Zf7 (hm:P.follows .mixedOrders=true) (hG:Gok P Γ) {lp:St→Code→Option Zak} {gl:List (Nat × List Int)} {fuel:Nat} {fn:FuncId} {ps rs:List Sh} {xs:List Int} {vs:List Value} (w:World) (hx:Zaj (fun _ ks u n=>SlN w ks u n) ps vs xs)
  (hs:(Zq P lp gl Γ fuel fn ps rs).sat Γ [] Ψ [] xs) (hgl:Zoa gl w) :
  Calls P fn vs.toArray w fun x w'=>∃ ys v,x=.returned v∧Ψ ys∧Z54 (fun k=>w.heap.size≤k) w' rs v ys∧Below w.heap.size w w':=by
 unfold Zq at hs
 split at hs
 ·rename_i F hF
  split at hs
  ·rename_i body hb
   have hxl:=hx.len.1
   have hv:(Zh 0 (Zx ps)).map (E.den (Zg ps vs) xs)=xs:=by
    have:=Z4d (R:=Zg ps vs) (r:=[]) hxl
    simpa using this
   have hx':Zaj (fun _ ks u n=>SlN w ks u n) ps vs ((Zh 0 (Zx ps)).map (E.den (⟨xs,[],[],[],Zg ps vs⟩:Env).R (⟨xs,[],[],[],Zg ps vs⟩:Env).r)):=by
    show Zaj _ ps vs ((Zh 0 (Zx ps)).map (E.den (Zg ps vs) xs))
    rw [hv]; exact hx
   obtain ⟨r1,r2⟩:=Z3v hx'
   have hsl:∀ (j:Nat) (u:Value),(Zg ps vs)[j]?=some u→∃ a l cp,u=.slice a l cp:=fun j u hj=>by
    obtain ⟨b,hb'⟩:∃ b,(Z2p (Z77 ps) (Zh 0 (Zx ps)))[j]?=some b:=⟨_,List.getElem?_eq_getElem (by rw [← r1]; exact (List.getElem?_eq_some_iff.1 hj).1)⟩
    exact (r2 j b u hb' hj).now.slice
   have hden:((Zlw Z1aa 0 ps (Zh 0 (Zx ps))).map SV.w).map (SV.den ⟨xs,[],[],[],Zg ps vs⟩)=vs:=by
    rw [List.map_map]
    refine Zfo (e:=⟨xs,[],[],[],Zg ps vs⟩) hx' fun j u hj=>?_
    simp only [Z1aa,SC.den,G.val,Nat.zero_add,List.getD,hj,Option.getD_some]
    exact Z3s (hsl j u hj)
   have hrep:Rep ⟨xs,[],[],[],Zg ps vs⟩ ⟨w,fun _=>False⟩ ⟨Zh6 ps F.ntmps,[],[],Zx ps,0,0,0,gl,hsE (Z77 ps) (Zh 0 (Zx ps)),0⟩ w:=by
    refine ⟨Zv.refl _,rfl,rfl,hxl,rfl,?_,?_,?_,?_,?_,?_,?_,⟨hgl,fun _ _ _ hh=>hh⟩,?_⟩
    ·intro n b hb; simp at hb
    ·intro n b hb; simp at hb
    ·intro n m b c hb; simp at hb
    ·intro n b hb; simp at hb
    ·intro n b hb; simp at hb
    ·intro n m b c k hb; simp at hb
    ·intro n m b c hb; simp at hb
    ·intro i ks c hi
     obtain ⟨ty,hr⟩:=Zc6 hi
     have hlt:i < (Zg ps vs).length:=by rw [r1]; exact (List.getElem?_eq_some_iff.1 hr).1
     have hu:(Zg ps vs)[i]?=some (Zg ps vs)[i]:=List.getElem?_eq_getElem hlt
     have:=r2 i _ _ hr hu
     show SlN w ks (slV ((Zg ps vs).getD i undef)) _
     rw [show (Zg ps vs).getD i undef=(Zg ps vs)[i] by simp [List.getD,hu],Z3s (hsl i _ hu)]
     exact this
   rw [T.sat_R [] (Zg ps vs)] at hs
   have:=Zds (Z3y hm (lp:=lp) hG fuel) hrep (args:=(Zlw Z1aa 0 ps (Zh 0 (Zx ps))).map SV.w) (rs:=rs) (Ψ:=Ψ) (bs:=[]) rfl hF hb hs
   rw [hden] at this
   refine this.mono ?_
   rintro x w' ⟨ys,v,h1,h2,h3,h4⟩
   exact ⟨ys,v,h1,h2,Z54.up (fun k hk=>hk.elim id (fun hh=>hh.elim)) h3,h4.below⟩
  ·exact hs.elim
 ·exact hs.elim
theorem Sum.ok_ofL (hm:P.follows .mixedOrders=true) (hG:Gok P Γ) {lp:St→Code→Option Zak} {s:Sum} {fuel:Nat} {t:T} (ht:Zq P lp s.gl Γ fuel s.fn s.ps s.rs=t)
  (hsh:(s.ps++s.rs).all (fun sh=>sh.agg || sh.ks.length == 1)=true)
  (hs:∀ xs:List Int,xs.length=Zx s.ps→s.pre xs→t.sat Γ [] (fun ys=>ys=s.sem xs) [] xs)
  (hl:∀ xs:List Int,xs.length=Zx s.ps→s.pre xs→(s.sem xs).length=Zx s.rs):s.ok P:=by
 subst ht
 refine ⟨fun sh h=>?_,fun xs vs w hgl hx hpre=>⟨hl xs hx.len.1 hpre,?_⟩⟩
 ·have:=List.all_eq_true.1 hsh sh h
  simpa using this
 ·refine (Zf7 hm hG w hx (hs xs hx.len.1 hpre) hgl).mono ?_
  rintro e w' ⟨ys,v,rfl,rfl,hv,hb⟩
  exact ⟨v,rfl,hv,hb⟩
end
end Go.Sx
namespace Go.Sx
open Go.RowKit Go.ChangeShapes Go.WideShapes Go.ChangeAt
def Zfe (P:Program) (rec:TypeId→Option (List K)):List Field→Nat→Option (List K)
 | [],_=>some []
 | f::fs,off=>if f.offset=off then match rec f.type with
   | some ks=>if ks.length=P.cellsOf f.type then (Zfe P rec fs (off + ks.length)).map (ks++·) else none
   | none=>none
  else none
def Zdu (P:Program):Nat→TypeId→Option (List K)
 | 0,_=>none
 | d + 1,t=>match P.underlying t with
  | some (.int k)=>some [.i k]
  | some .bool=>some [.b]
  | some (.struct fs)=>match Zfe P (Zdu P d) fs.toList 0 with
   | some ks=>if ks.length=P.cellsOf t then some ks else none
   | none=>none
  | some (.array n e)=>match Zdu P d e with
   | some ks=>if ks.length=P.cellsOf e∧n * ks.length=P.cellsOf t then some (List.replicate n ks).flatten else none
   | none=>none
  | _=>none
theorem Za0:∀ {a b:List K},Z26 a=true→Z26 b=true→Z26 (a++b)=true
 | [],b,_,h=>h
 | .i _::a,b,h,h'=>Za0 (a:=a) (by simpa [Z26] using h) h'
 | .b::a,b,h,h'=>Za0 (a:=a) (by simpa [Z26] using h) h'
 | .s _ _::_,_,h,_=>by simp [Z26] at h
theorem Zkq {a:List K} (h:Z26 a=true):∀ n,Z26 (List.replicate n a).flatten=true
 | 0=>rfl
 | n + 1=>by rw [List.replicate_succ,List.flatten_cons]; exact Za0 h (Zkq h n)
theorem Zi1 {P:Program} {rec:TypeId→Option (List K)} (hr:∀ t ks,rec t=some ks→Z26 ks=true):∀ {fs:List Field} {off:Nat} {ks:List K},Zfe P rec fs off=some ks→Z26 ks=true
 | [],off,ks,h=>by simp only [Zfe,Option.some.injEq] at h; subst h; rfl
 | f::fs,off,ks,h=>by
  simp only [Zfe] at h
  split at h
  ·split at h
   ·rename_i k1 hk1
    split at h
    ·obtain ⟨k2,h2,rfl⟩:=Option.map_eq_some_iff.1 h
     exact Za0 (hr _ _ hk1) (Zi1 hr h2)
    ·cases h
   ·cases h
  ·cases h
theorem Zb5 {P:Program}:∀ {d:Nat} {t:TypeId} {ks:List K},Zdu P d t=some ks→Z26 ks=true
 | 0,_,_,h=>by simp [Zdu] at h
 | d + 1,t,ks,h=>by
  simp only [Zdu] at h
  split at h
  ·simp only [Option.some.injEq] at h; subst h; rfl
  ·simp only [Option.some.injEq] at h; subst h; rfl
  ·split at h
   ·rename_i k1 hk1
    split at h
    ·simp only [Option.some.injEq] at h; subst h
     exact Zi1 (fun t ks h=>Zb5 h) hk1
    ·cases h
   ·cases h
  ·split at h
   ·rename_i k1 hk1
    split at h
    ·simp only [Option.some.injEq] at h; subst h
     exact Zkq (Zb5 hk1) _
    ·cases h
   ·cases h
  ·cases h
def inK:K→Int→Prop
 | .i k,n=>(Lit.int k n).wf=true
 | .b,n=>n=0∨n=1
 | .s _ _,_=>True
def Z9:List K→List Int→Prop
 | [],[]=>True
 | k::ks,x::xs=>inK k x∧Z9 ks xs
 | _,_=>False
theorem Z1u:∀ {ks:List K} {xs:List Int},Z9 ks xs→xs.length=ks.length
 | [],[],_=>rfl
 | _::_,_::_,h=>by simp [Z1u h.2]
 | [],_::_,h=>h.elim
 | _::_,[],h=>h.elim
theorem Zb6:∀ {ks ls:List K} {xs ys:List Int},Z9 ks xs→Z9 ls ys→Z9 (ks++ls) (xs++ys)
 | [],_,[],_,_,h=>h
 | _::_,_,_::_,_,h,h'=>⟨h.1,Zb6 h.2 h'⟩
 | [],_,_::_,_,h,_=>h.elim
 | _::_,_,[],_,h,_=>h.elim
theorem Z5e:∀ {ks ls:List K} {xs ys:List Int},xs.length=ks.length→Za (ks++ls) (xs++ys)=Za ks xs++Za ls ys
 | [],_,[],_,_=>rfl
 | _::ks,ls,x::xs,ys,h=>by
  simp only [Z1ki,Za,List.length_cons,Nat.add_right_cancel_iff] at h ⊢
  rw [Z5e h]
 | [],_,_::_,_,h=>by simp at h
 | _::_,_,[],_,h=>by simp at h
section
variable {H:Type} {enc:TypeId × Value→H} {P:Program} {w:World} {base:Nat} {spare:Nat→Bool} {held:Bool}
theorem Zkr {fuel:Nat} {rec:TypeId→Option (List K)} {xs:List (DataW H × List MemPlace)} {cs:List Value}
    (hrec:∀ (t:TypeId) (ks:List K) (c:List Value) (x:DataW H × List MemPlace),rec t=some ks→DataW.trod enc P w base spare held fuel t c=some x→∃ ys,c=Za ks ys∧Z9 ks ys) :
    ∀ (fs:List Field) (off i:Nat) (ks:List K),Zfe P rec fs off=some ks→off + ks.length≤cs.length →
      (∀ j f,fs[j]?=some f→DataW.trod enc P w base spare held fuel f.type ((cs.drop f.offset).take (P.cellsOf f.type))=xs[i + j]?)→i + fs.length≤xs.length →
      ∃ ys,(cs.drop off).take ks.length=Za ks ys∧Z9 ks ys
  | [],off,i,ks,h,_,_,_=>by
    simp only [Zfe,Option.some.injEq] at h
    subst h
    exact ⟨[],by simp [Za],trivial⟩
  | f::fs,off,i,ks,h,hle,hx,hlen=>by
    simp only [Zfe] at h
    split at h
    · rename_i hoff
      split at h
      · rename_i k1 hk1
        split at h
        · rename_i hc
          simp only [Option.map_eq_some_iff] at h
          obtain ⟨k2,hk2,rfl⟩:=h
          simp only [List.length_append,List.length_cons] at hle hlen
          have h0:=hx 0 f rfl
          rw [Nat.add_zero,List.getElem?_eq_getElem (by omega)] at h0
          obtain ⟨y1,hy1,hr1⟩:=hrec f.type k1 _ _ hk1 h0
          obtain ⟨y2,hy2,hr2⟩:=Zkr (cs:=cs) (xs:=xs) hrec fs (off + k1.length) (i + 1) k2 hk2 (by omega) (fun j g hg=>by
            have:=hx (j + 1) g hg
            rwa [show i + (j + 1)=i + 1 + j by omega] at this) (by omega)
          refine ⟨y1++y2,?_,Zb6 hr1 hr2⟩
          rw [Z5e (Z1u hr1),← hy2,← hy1,hoff,← hc,List.length_append,List.take_add,List.drop_drop]
        · cases h
      · cases h
    · cases h
theorem Zpu {fuel:Nat} {e:TypeId} {ks:List K} {xs:List (DataW H × List MemPlace)} {cs:List Value} (hks:ks.length=P.cellsOf e)
    (hrec:∀ (c:List Value) (x:DataW H × List MemPlace),DataW.trod enc P w base spare held fuel e c=some x→∃ ys,c=Za ks ys∧Z9 ks ys) :
    ∀ (n i:Nat),(∀ j,j < n→DataW.trod enc P w base spare held fuel e ((cs.drop ((i + j) * P.cellsOf e)).take (P.cellsOf e))=xs[i + j]?)→i + n≤xs.length →
      ∃ ys,(cs.drop (i * ks.length)).take (n * ks.length)=Za (List.replicate n ks).flatten ys∧Z9 (List.replicate n ks).flatten ys
  | 0,i,_,_=>⟨[],by simp [Za],trivial⟩
  | n + 1,i,hx,hlen=>by
    have h0:=hx 0 (by omega)
    rw [Nat.add_zero,List.getElem?_eq_getElem (by omega)] at h0
    obtain ⟨y1,hy1,hr1⟩:=hrec _ _ h0
    obtain ⟨y2,hy2,hr2⟩:=Zpu (cs:=cs) (xs:=xs) hks hrec n (i + 1) (fun j hj=>by
      have:=hx (j + 1) (by omega)
      rwa [show i + (j + 1)=i + 1 + j by omega] at this) (by omega)
    refine ⟨y1++y2,?_,?_⟩
    · rw [List.replicate_succ,List.flatten_cons,Z5e (Z1u hr1),← hy2,← hy1,hks,Nat.add_mul,Nat.one_mul,Nat.add_comm (n * P.cellsOf e),List.take_add,List.drop_drop,Nat.add_mul,Nat.one_mul]
    · rw [List.replicate_succ,List.flatten_cons]
      exact Zb6 hr1 hr2
theorem Zfr:∀ (d fuel:Nat) (t:TypeId) (ks:List K) (cs:List Value) (x:DataW H × List MemPlace),Zdu P d t=some ks→DataW.trod enc P w base spare held fuel t cs=some x→∃ xs,cs=Za ks xs∧Z9 ks xs
 | 0,_,_,_,_,_,h,_=>by simp [Zdu] at h
 | d + 1,fuel,t,ks,cs,x,h,hd=>by
  unfold Zdu at h
  split at h
  ·rename_i k ht
   simp only [Option.some.injEq] at h
   subst h
   obtain ⟨n,rfl,_,hwf⟩:=DataW.trod_int ht hd
   exact ⟨[n],rfl,hwf,trivial⟩
  ·rename_i ht
   simp only [Option.some.injEq] at h
   subst h
   obtain ⟨b,rfl,_⟩:=DataW.trod_bool ht hd
   exact ⟨[if b then 1 else 0],by cases b <;> rfl,by cases b <;> simp [inK],trivial⟩
  ·rename_i fs ht
   split at h
   ·rename_i ks' hks
    split at h
    ·rename_i hc
     simp only [Option.some.injEq] at h
     subst h
     obtain ⟨xs,n,rfl,_,hcl,hxl,hf⟩:=DataW.trod_struct ht hd
     obtain ⟨ys,hy,hr⟩:=Zkr (cs:=cs) (xs:=xs) (fun t ks c x h1 h2=>Zfr d n t ks c x h1 h2) fs.toList 0 0 ks' hks (by omega) (fun j f hj=>by
      rw [Nat.zero_add]
      exact hf j f (by simpa using hj)) (by simp; omega)
     refine ⟨ys,?_,hr⟩
     rw [← hy,List.drop_zero,List.take_of_length_le (by omega)]
    ·cases h
   ·cases h
  ·rename_i n e ht
   split at h
   ·rename_i ks' hks
    split at h
    ·rename_i hc
     simp only [Option.some.injEq] at h
     subst h
     obtain ⟨xs,m,rfl,_,hcl,hxl,hf⟩:=DataW.trod_array ht hd
     obtain ⟨ys,hy,hr⟩:=Zpu (cs:=cs) (xs:=xs) hc.1 (fun c x h2=>Zfr d m e ks' c x hks h2) n 0 (fun j hj=>by
      rw [Nat.zero_add]
      exact hf j hj) (by omega)
     refine ⟨ys,?_,hr⟩
     rw [← hy,Nat.zero_mul,List.drop_zero,List.take_of_length_le (by omega)]
    ·cases h
   ·cases h
  ·cases h
theorem Zsv {r:Reach} {b0:Nat} {t:TypeId} {sh:Sh} {v:Value} {d:DataW H} {ps:List MemPlace} (hl:Zdu P 8 t=some sh.ks) (ha:Z85 P t=sh.agg) (hval:Value.okWide P w r b0 t v) (hd:DataW.Trod enc P w base spare held t v d ps) :
  ∃ xs,v=Z12m sh xs∧Z9 sh.ks xs:=by
 obtain ⟨fuel,hf⟩:=hd
 obtain ⟨xs,hxs,hr⟩:=Zfr 8 fuel t sh.ks v.cells.toList _ hl hf
 refine ⟨xs,?_,hr⟩
 unfold Z85 at ha
 unfold Value.okWide at hval
 cases hu:P.underlying t with
 | none=>simp [Zdu,hu] at hl
 | some dsc =>
  rw [hu] at ha hval
  cases dsc with
  | struct fs =>
   obtain ⟨cs,rfl,_⟩:=hval
   simp only at ha
   simp [Z12m,← ha,← hxs,Value.cells]
  | array n e =>
   obtain ⟨cs,rfl,_⟩:=hval
   simp only at ha
   simp [Z12m,← ha,← hxs,Value.cells]
  | int k =>
   obtain ⟨n,rfl⟩:=okWide_int hu (by unfold Value.okWide; rw [hu]; exact hval)
   simp only at ha
   simp [Z12m,← ha,← hxs,Value.cells]
  | bool =>
   obtain ⟨n,rfl⟩:=okWide_bool hu (by unfold Value.okWide; rw [hu]; exact hval)
   simp only at ha
   simp [Z12m,← ha,← hxs,Value.cells]
  | _=>simp [Zdu,hu] at hl
end
theorem Z13n {n:Int} (h:(Lit.int .i64 n).wf=true):-9223372036854775808≤n∧n≤9223372036854775807:=by
 simp only [Lit.wf,Z1kr,Z1ks] at h
 have h1:IntKind.i64.min=-9223372036854775808:=by decide
 have h2:IntKind.i64.max=9223372036854775807:=by decide
 rw [h1,h2] at h
 exact h
def Bo:Sh:=⟨false,[.b]⟩
def I1:Sh:=⟨false,[.i .i64]⟩
def An (n:Nat):Sh:=⟨true,List.replicate n (.i .i64)⟩
theorem Zks {w:World} {a:Addr}:∀ (n:Nat) (f:Nat→Nat) (cs:List Value),(List.range n).mapM (fun i=>w.cell? (a.add (f i)))=some cs→cs.length=n∧∀ j v,cs[j]?=some v→w.cell? (a.add (f j))=some v:=by
 have key:∀ (l:List Nat) (f:Nat→Nat) (cs:List Value),l.mapM (fun i=>w.cell? (a.add (f i)))=some cs→cs.length=l.length∧∀ (j:Nat) (v:Value),cs[j]?=some v→∃ i,l[j]?=some i∧w.cell? (a.add (f i))=some v:=by
  intro l
  induction l with
  | nil=>intro f cs h; simp at h; subst h; simp
  | cons x l ih =>
   intro f cs h
   simp only [List.mapM_cons,Option.bind_eq_bind,Option.pure_def,Option.bind_eq_some_iff,Option.some.injEq] at h
   obtain ⟨v,hv,vs,hvs,rfl⟩:=h
   obtain ⟨h1,h2⟩:=ih f vs hvs
   refine ⟨by simp [h1],fun j u hj=>?_⟩
   cases j with
   | zero=>simp only [Z1ke,Option.some.injEq] at hj; subst hj; exact ⟨x,rfl,hv⟩
   | succ j=>obtain ⟨i,h3,h4⟩:=h2 j u (by simpa using hj); exact ⟨i,by simpa using h3,h4⟩
 intro n f cs h
 obtain ⟨h1,h2⟩:=key _ f cs h
 refine ⟨by simpa using h1,fun j v hj=>?_⟩
 obtain ⟨i,h3,h4⟩:=h2 j v hj
 have hlt:j < n:=by have:=(List.getElem?_eq_some_iff.1 h3).1; simpa using this
 rw [List.getElem?_range hlt] at h3
 simp only [Option.some.injEq] at h3
 rw [h3]; exact h4
def Zma (ks:List K) (ys:List Int):Int:=if ks.length=1 then ys.getD 0 0 else cod ys
theorem Zc7 {ks:List K} {ys:List Int} (h:ys.length=ks.length):elt ks (Zma ks ys)=ys:=by
 unfold elt Zma
 by_cases h1:ks.length=1
 ·simp only [h1,if_true]
  rw [h1] at h
  match ys,h with
  | [y],_=>rfl
 ·simp only [h1,if_false,Z3]
theorem Z1hh {H:Type} {enc:TypeId × Value→H} {P:Program} {w:World} {base:Nat} {spare:Nat→Bool} {held:Bool} {r:Reach} {b0:Nat} {t e:TypeId} {ks:List K} {v:Value} {d:DataW H} {ps:List MemPlace}
  (hu:P.underlying t=some (.slice e)) (hl:Zdu P 8 e=some ks) (hc:ks.length=P.cellsOf e) (hcell:Cell.ok P w r b0 t v) {fuel:Nat} (hf:DataW.trod enc P w base spare held fuel t [v]=some (d,ps)) :
  ∃ l:List Int,Z53 w ks v (cod l)∧∀ x ∈ l,Z9 ks (elt ks x):=by
 rcases DataW.trod_slice hu hf with ⟨hv,_⟩ | ⟨a,len,cap,elems,rest,n,_,hv,_,hb,hle,hm,hlen,hel,_,_⟩
 ·simp only [List.cons.injEq,and_true] at hv
  exact ⟨[],.inl ⟨⟨_,hv⟩,by simp⟩,by simp⟩
 ·simp only [List.cons.injEq,and_true] at hv
  subst hv
  have hspot:a.spot=none:=by
   unfold Cell.ok at hcell
   rw [hu] at hcell
   exact hcell.2.2.2.1
  obtain ⟨b,off,sp⟩:=a
  simp only at hspot
  subst hspot
  have each:∀ i,i < len→∃ ys,Z9 ks ys∧∀ j u,(Za ks ys)[j]?=some u→w.cell? ⟨b,off + (i * ks.length + j),none⟩=some u:=by
   intro i hi
   have h1:=hel i hi
   rw [List.getElem?_eq_getElem (by omega),Option.bind_eq_some_iff] at h1
   obtain ⟨cs,h2,h3⟩:=h1
   obtain ⟨ys,h4,h5⟩:=Zfr 8 n e ks cs _ hl h3
   refine ⟨ys,h5,fun j u hj=>?_⟩
   unfold World.cells? at h2
   split at h2
   ·obtain ⟨_,h6⟩:=Zks _ (fun i=>i) cs h2
    rw [h4] at h6
    have:=h6 j u hj
    rw [Addr.add_lit,Addr.add_lit,← hc] at this
    rw [← this]
    congr 2
    omega
   ·cases h2
  have hys:∃ f:Nat→List Int,∀ i,i < len→Z9 ks (f i)∧∀ j u,(Za ks (f i))[j]?=some u→w.cell? ⟨b,off + (i * ks.length + j),none⟩=some u:=by
   refine ⟨fun i=>if h:i < len then Classical.choose (each i h) else [],fun i hi=>?_⟩
   simp only [hi,dif_pos]
   exact Classical.choose_spec (each i hi)
  obtain ⟨f,hf'⟩:=hys
  have hmem:∀ x ∈ (List.range len).map fun i=>Zma ks (f i),∃ i,i < len∧elt ks x=f i:=by
   intro x hx
   obtain ⟨i,hi,rfl⟩:=List.mem_map.1 hx
   have hi':i < len:=by simpa using hi
   exact ⟨i,hi',Zc7 (Z1u (hf' i hi').1)⟩
  refine ⟨(List.range len).map fun i=>Zma ks (f i),.inr ⟨b,off,cap,?_,?_,hm,?_,?_⟩,?_⟩
  ·rw [Z3]; simp
  ·rw [Z3]; simpa using hle
  ·rw [Z3]
   intro x hx
   obtain ⟨i,hi,h⟩:=hmem x hx
   rw [h]; exact Z1u (hf' i hi).1
  ·rw [Z3]
   intro j u hj
   have hall:∀ x ∈ (List.range len).map fun i=>Zma ks (f i),(elt ks x).length=ks.length:=fun x hx=>by
    obtain ⟨i,hi,h⟩:=hmem x hx
    rw [h]; exact Z1u (hf' i hi).1
   have hjl:=(List.getElem?_eq_some_iff.1 hj).1
   rw [Zw hall,List.length_map,List.length_range] at hjl
   have hk:0 < ks.length:=by
    rcases Nat.eq_zero_or_pos ks.length with h | h
    ·rw [h] at hjl; simp at hjl
    ·exact h
   have hi:j / ks.length < len:=by rw [Nat.div_lt_iff_lt_mul hk]; exact hjl
   have hjj:j / ks.length * ks.length + j % ks.length=j:=Nat.div_add_mod' j ks.length
   rw [← hjj] at hj
   rw [Z6e hall (by simpa using hi) (Nat.mod_lt _ hk)] at hj
   have hg:((List.range len).map fun i=>Zma ks (f i)).getD (j / ks.length) 0=Zma ks (f (j / ks.length)):=by
    simp [List.getD,hi]
   rw [hg,Zc7 (Z1u (hf' _ hi).1)] at hj
   have:=(hf' _ hi).2 _ u hj
   rwa [hjj] at this
  ·intro x hx
   obtain ⟨i,hi,h⟩:=hmem x hx
   rw [h]; exact (hf' i hi).1
theorem Z1az {H:Type} {enc:TypeId × Value→H} {P:Program} {w:World} {base:Nat} {spare:Nat→Bool} {held:Bool} {r:Reach} {b0:Nat} {t e:TypeId} {ks:List K} {v:Value} {d:DataW H} {ps:List MemPlace}
  (hu:P.underlying t=some (.slice e)) (hl:Zdu P 8 e=some ks) (hc:ks.length=P.cellsOf e) (hval:Value.okWide P w r b0 t v) (hd:DataW.Trod enc P w base spare held t v d ps) :
  ∃ l:List Int,ShR (fun _ ks u n=>SlN w ks u n) ⟨false,[.s e ks]⟩ v [cod l]∧∀ x ∈ l,Z9 ks (elt ks x):=by
 obtain ⟨a,len,cap,rfl⟩:=okWide_slice hu hval
 obtain ⟨fuel,hf⟩:=hd
 have hcell:Cell.ok P w r b0 t (.slice a len cap):=by
  unfold Value.okWide at hval
  rw [hu] at hval
  unfold Cell.okWide at hval
  rw [hu] at hval
  exact hval
 obtain ⟨l,h1,h2⟩:=Z1hh hu hl hc hcell (fuel:=fuel) hf
 exact ⟨l,⟨h1.toN (Zb5 hl),trivial⟩,h2⟩
theorem Zi2 {S:TypeId→List K→Value→Int→Prop}:∀ {ks:List K} {xs:List Int},nS ks=0→xs.length=ks.length→Z3q S ks (Za ks xs) xs
 | [],[],_,_=>trivial
 | .i k::ks,x::xs,h,hl=>⟨rfl,Zi2 (ks:=ks) h (by simpa using hl)⟩
 | .b::ks,x::xs,h,hl=>⟨rfl,Zi2 (ks:=ks) h (by simpa using hl)⟩
 | .s _ _::_,_,h,_=>by simp [nS] at h
 | [],_::_,_,h=>by simp at h
 | _::_,[],_,h=>by simp at h
theorem Z13o {S:TypeId→List K→Value→Int→Prop} {s:Sh} {xs:List Int} (hs:(s.agg || s.ks.length == 1)=true) (h:nS s.ks=0) (hl:xs.length=s.ks.length):ShR S s (Z12m s xs) xs:=by
 have:=Zi2 (S:=S) h hl
 unfold ShR Z12m
 cases ha:s.agg with
 | true=>simp only [if_true]; exact ⟨_,rfl,this⟩
 | false =>
  simp only [ha,Bool.false_or,beq_iff_eq] at hs
  simp only [Bool.false_eq_true,if_false]
  have h1:=Z19 hl
  rw [hs] at h1
  match hm:Za s.ks xs,h1 with
  | [v],_=>rw [hm] at this; exact this
theorem Z13p {P:Program} {Γ:List Sum} (hm:P.follows .mixedOrders=true) (hG:Gok P Γ) {lp:St→Code→Option Zak} {fuel:Nat} {gl:List (Nat × List Int)} {fn:FuncId} {ps:List Sh} {t:T} (ht:Zq P lp gl Γ fuel fn ps [Bo]=t) {xs:List Int} {vs:List Value} (w:World)
  (hx:Zaj (fun _ ks u n=>SlN w ks u n) ps vs xs) (hs:t.sat Γ [] (fun ys=>ys=[1]) [] xs) (hgl:Zoa gl w) :
  Calls P fn vs.toArray w fun e w'=>e=.returned (.bool true)∧Below w.heap.size w w':=by
 subst ht
 refine (Zf7 hm hG w hx hs hgl).mono ?_
 rintro e w' ⟨ys,v,rfl,rfl,hv,hb⟩
 exact ⟨by rw [Z9v (by rfl) hv]; rfl,hb⟩
end Go.Sx
set_option maxRecDepth 100000
namespace Go.Proofs.YtgcoidbaoigkeaaGreatDoor.facts
open Go.RowKit Go.ChangeShapes Go.WideShapes Go.ChangeAt Go.Sx
theorem own:ownKnob Tryz.prog.godebug=none:=by kernel_rfl
theorem laidOut:laidOutB Tryz.prog=true:=by kernel_rfl
theorem mixed:Tryz.prog.follows .mixedOrders=true:=by kernel_rfl
theorem Zzs:mapsRowed Tryz.prog=true:=by kernel_rfl
theorem stops:Tryz.prog.stops=[]:=by kernel_rfl
theorem stopKnobs:Tryz.prog.stopKnobs=[]:=by kernel_rfl
theorem plainKeys:Tryz.prog.plainKeys=true:=by kernel_rfl
theorem heard:Tryz.prog.stopsHeard=true:=by kernel_rfl
theorem initIs:Tryz.prog.initOrder = "harness b3924336b0480d2658ba0abf4705aba63770927102c8bae2dcedd6927e28cde3 cut at diorama/dioramatop.TopOnly diorama/dioramatop.TopFound diorama/dioramalaw18.FindFinds":=by kernel_rfl
theorem litIs : "harness b3924336b0480d2658ba0abf4705aba63770927102c8bae2dcedd6927e28cde3 cut at diorama/dioramatop.TopOnly diorama/dioramatop.TopFound diorama/dioramalaw18.FindFinds"=String.ofList ['h','a','r','n','e','s','s',' ','b','3','9','2','4','3','3','6','b','0','4','8','0','d','2','6','5','8','b','a','0','a','b','f','4','7','0','5','a','b','a','6','3','7','7','0','9','2','7','1','0','2','c','8','b','a','e','2','d','c','e','d','d','6','9','2','7','e','2','8','c','d','e','3',' ','c','u','t',' ','a','t',' ','d','i','o','r','a','m','a','/','d','i','o','r','a','m','a','t','o','p','.','T','o','p','O','n','l','y',' ','d','i','o','r','a','m','a','/','d','i','o','r','a','m','a','t','o','p','.','T','o','p','F','o','u','n','d',' ','d','i','o','r','a','m','a','/','d','i','o','r','a','m','a','l','a','w','1','8','.','F','i','n','d','F','i','n','d','s']:=by kernel_rfl
theorem words:wordsSigns Tryz.prog.initOrder.toList=[['h','a','r','n','e','s','s'],['b','3','9','2','4','3','3','6','b','0','4','8','0','d','2','6','5','8','b','a','0','a','b','f','4','7','0','5','a','b','a','6','3','7','7','0','9','2','7','1','0','2','c','8','b','a','e','2','d','c','e','d','d','6','9','2','7','e','2','8','c','d','e','3'],['c','u','t'],['a','t'],['d','i','o','r','a','m','a','/','d','i','o','r','a','m','a','t','o','p','.','T','o','p','O','n','l','y'],['d','i','o','r','a','m','a','/','d','i','o','r','a','m','a','t','o','p','.','T','o','p','F','o','u','n','d'],['d','i','o','r','a','m','a','/','d','i','o','r','a','m','a','l','a','w','1','8','.','F','i','n','d','F','i','n','d','s']]:=by
 rw [initIs,litIs,String.toList_ofList]
 kernel_rfl
theorem behind:behindMainWord [['h','a','r','n','e','s','s'],['b','3','9','2','4','3','3','6','b','0','4','8','0','d','2','6','5','8','b','a','0','a','b','f','4','7','0','5','a','b','a','6','3','7','7','0','9','2','7','1','0','2','c','8','b','a','e','2','d','c','e','d','d','6','9','2','7','e','2','8','c','d','e','3'],['c','u','t'],['a','t'],['d','i','o','r','a','m','a','/','d','i','o','r','a','m','a','t','o','p','.','T','o','p','O','n','l','y'],['d','i','o','r','a','m','a','/','d','i','o','r','a','m','a','t','o','p','.','T','o','p','F','o','u','n','d'],['d','i','o','r','a','m','a','/','d','i','o','r','a','m','a','l','a','w','1','8','.','F','i','n','d','F','i','n','d','s']]=[['c','u','t'],['a','t'],['d','i','o','r','a','m','a','/','d','i','o','r','a','m','a','t','o','p','.','T','o','p','O','n','l','y'],['d','i','o','r','a','m','a','/','d','i','o','r','a','m','a','t','o','p','.','T','o','p','F','o','u','n','d'],['d','i','o','r','a','m','a','/','d','i','o','r','a','m','a','l','a','w','1','8','.','F','i','n','d','F','i','n','d','s']]:=by kernel_rfl
theorem Zfs:behindMainWord (wordsSigns Tryz.prog.initOrder.toList)=[['c','u','t'],['a','t'],['d','i','o','r','a','m','a','/','d','i','o','r','a','m','a','t','o','p','.','T','o','p','O','n','l','y'],['d','i','o','r','a','m','a','/','d','i','o','r','a','m','a','t','o','p','.','T','o','p','F','o','u','n','d'],['d','i','o','r','a','m','a','/','d','i','o','r','a','m','a','l','a','w','1','8','.','F','i','n','d','F','i','n','d','s']]:=by rw [words,behind]
theorem strip:stripLifts liftWords [['c','u','t'],['a','t'],['d','i','o','r','a','m','a','/','d','i','o','r','a','m','a','t','o','p','.','T','o','p','O','n','l','y'],['d','i','o','r','a','m','a','/','d','i','o','r','a','m','a','t','o','p','.','T','o','p','F','o','u','n','d'],['d','i','o','r','a','m','a','/','d','i','o','r','a','m','a','l','a','w','1','8','.','F','i','n','d','F','i','n','d','s']]=([],[['c','u','t'],['a','t'],['d','i','o','r','a','m','a','/','d','i','o','r','a','m','a','t','o','p','.','T','o','p','O','n','l','y'],['d','i','o','r','a','m','a','/','d','i','o','r','a','m','a','t','o','p','.','T','o','p','F','o','u','n','d'],['d','i','o','r','a','m','a','/','d','i','o','r','a','m','a','l','a','w','1','8','.','F','i','n','d','F','i','n','d','s']]):=by kernel_rfl
theorem Z1hi {P:Program} {c:List Char} {rest:List (List Char)} (h:behindMainWord (wordsSigns P.initOrder.toList)=c::rest)
  (h1:(c == "gc".toList || c == "spec".toList)=false) (h2:(c == "cut".toList)=true):P.make=some .cut:=by
 unfold Program.make
 rw [h]
 simp only [h1,h2,Bool.true_or,if_true,Bool.false_eq_true,if_false]
theorem Zpv {P:Program} {ws rs:List (List Char)} (h:behindMainWord (wordsSigns P.initOrder.toList)=ws) (hs:stripLifts liftWords ws=([],rs)):P.headLifts=[]:=by
 unfold Program.headLifts
 rw [h]
 simp only [hs]
 split <;> rfl
theorem Zmb {P:Program} {ws:List (List Char)} (h:behindMainWord (wordsSigns P.initOrder.toList)=ws) (hl:P.headLifts=[])
  (h1:(ws.head? == some "carried".toList)=false):P.liftsFinal=false:=by
 unfold Program.liftsFinal
 simp only [h,hl,h1,Bool.false_and,Bool.false_or]
 rfl
theorem Zsw {P:Program} {c:List Char} {rest:List (List Char)} (h:behindMainWord (wordsSigns P.initOrder.toList)=c::rest) (hs:stripLifts liftWords (c::rest)=([],c::rest))
  (h1:(some c == some "cut".toList)=true) (h2:P.laysLater=false) (h3:P.bearsReflect=false) (h4:P.doorFits []=true):P.mayEnter=true:=by
 unfold Program.mayEnter
 rw [h]
 simp only [hs,List.head?_cons,h1,h2,h3,h4,Bool.not_false,Bool.or_true,Bool.and_true,Bool.true_and,List.contains_nil]
theorem mayEnter:Tryz.prog.mayEnter=true:=Zsw Zfs strip (by kernel_rfl) (by kernel_rfl) (by kernel_rfl) (by kernel_rfl)
theorem headLifts:Tryz.prog.headLifts=[]:=Zpv Zfs strip
theorem liftsFinal:Tryz.prog.liftsFinal=false:=Zmb Zfs headLifts (by kernel_rfl)
theorem make:Tryz.prog.make=some .cut:=Z1hi Zfs (by kernel_rfl) (by kernel_rfl)
theorem joined {f:FuncId} {fn:Func} {s:ChangeSpec} {c:OpenClaim}
  (h1:(c.wf (OpenSpec.ofChange s) && fn.params.all (Tryz.prog.readableRec ·) && namedTie Tryz.prog c.named s.vars && (c.stops == []) && (c.knobs == []) &&
   (c.maps == (fn.params.toList++s.plain.varTypes Tryz.prog).any (Tryz.prog.mapsRec ·)) && (c.ifaces == (fn.params.toList++s.plain.varTypes Tryz.prog).any (Tryz.prog.ifacesRec ·)) && (c.mapsOut == Tryz.prog.mapsAmong fn.resultTypes.toList))=true)
  (h2:((c.loops == (fn.params.toList++s.plain.varTypes Tryz.prog).any (Tryz.prog.loopsFrom ·)) && (c.wideKeys == (fn.params.toList++s.plain.varTypes Tryz.prog++fn.resultTypes.toList).any (Tryz.prog.wideKeysFrom ·)) &&
   s.vars.all (Tryz.prog.varReadable ·) && fn.resultTypes.all (fun t=>Tryz.prog.readableRec t && decide (t < Tryz.prog.types.size)) && (c.ifacesOut == fn.resultTypes.toList.any (Tryz.prog.ifacesRec ·)) && (c.loopsOut == fn.resultTypes.toList.any (Tryz.prog.loopsFrom ·)))=true)
  (h3:((c.kinds == (if c.domain.isEmpty then [] else fn.params.toList.map fun t=>match Tryz.prog.underlying t with | some (.int k)=>some k | _=>none)) && (c.pinned == c.pinnedBy) &&
   (c.veiled == (fn.params.toList++s.plain.varTypes Tryz.prog++fn.resultTypes.toList).any (Tryz.prog.veiledRec ·)) && c.veiledFits Tryz.prog fn.params.toList (fn.params.toList++s.plain.varTypes Tryz.prog++fn.resultTypes.toList))=true)
  (i1:(c.inPlace == Tryz.prog.inPlace f)=true) (i2:(c.unfollowed == Tryz.prog.unfollowed f)=true) (i3:(c.recurses == Tryz.prog.recurses f)=true) (i4:(c.named == Tryz.prog.varsNamed f)=true)
  (j1:c.plainKeys=true) (j2:c.lifted=false) (j3:c.make=.cut) (j4:c.shortTexts.isNone=true) :
  joinedFacts Tryz.prog f fn s c=true:=by
 unfold joinedFacts
 simp only [Z1kr] at h1 h2 h3
 obtain ⟨⟨⟨⟨⟨⟨⟨a1,a2⟩,a3⟩,a4⟩,a5⟩,a6⟩,a7⟩,a8⟩:=h1
 obtain ⟨⟨⟨⟨⟨b1,b2⟩,b3⟩,b4⟩,b5⟩,b6⟩:=h2
 obtain ⟨⟨⟨c1,c2⟩,c3⟩,c4⟩:=h3
 simp only [Z1kr]
 refine ⟨⟨⟨⟨⟨⟨⟨⟨⟨⟨⟨⟨⟨⟨⟨⟨⟨⟨⟨⟨⟨⟨⟨⟨⟨⟨⟨⟨⟨⟨⟨a1,laidOut⟩,Zzs⟩,a2⟩,a3⟩,a4⟩,by rw [stops]; rfl⟩,a5⟩,by rw [stopKnobs]; rfl⟩,i1⟩,i2⟩,i3⟩,i4⟩,a6⟩,a7⟩,a8⟩,b1⟩,b2⟩,b3⟩,b4⟩,b5⟩,b6⟩,by rw [j1,plainKeys]; rfl⟩,j4⟩,heard⟩,mayEnter⟩,by rw [j2,liftsFinal]; rfl⟩,by rw [make,j3]; rfl⟩,?_⟩,c2⟩,c3⟩,c4⟩
 exact c1
end Go.Proofs.YtgcoidbaoigkeaaGreatDoor.facts
namespace Go.Sx
open Go.RowKit
theorem Zf {x:Int} (h1:-9223372036854775808≤x) (h2:x≤9223372036854775807):IntKind.i64.wrap x=x:=by
 rw [IntKind.wrap_i64]; omega
theorem Zft {a b q r:Int} (hb:0 < b) (h:b * q + r=a) (h0:0≤r) (h1:r < b):a / b=q :=
 ((Int.ediv_emod_unique hb).2 ⟨by omega,h0,h1⟩).1
def up (a b:Int):Int:=-((-a) / b)
theorem Z13q {a b:Int} (hb:0 < b) (h:a.tmod b < 0):a.tdiv b - 1=a / b:=by
 have h1:=Int.mul_tdiv_add_tmod a b
 have h2:=Int.lt_tmod_of_pos a hb
 refine (Zft hb (r:=a.tmod b + b) ?_ (by omega) (by omega)).symm
 rw [Int.mul_sub]; omega
theorem Zi3 {a b:Int} (hb:0 < b) (h:0≤a.tmod b):a.tdiv b=a / b:=by
 have h1:=Int.mul_tdiv_add_tmod a b
 have h2:=Int.tmod_lt_of_pos a hb
 exact (Zft hb h1 h h2).symm
theorem up_pos {a b:Int} (hb:0 < b) (h:0 < a.tmod b):a.tdiv b + 1=up a b:=by
 have h1:=Int.mul_tdiv_add_tmod a b
 have h2:=Int.tmod_lt_of_pos a hb
 unfold up
 rw [Zft hb (q:=-(a.tdiv b + 1)) (r:=b - a.tmod b) (by rw [Int.mul_neg,Int.mul_add]; omega) (by omega) (by omega)]
 omega
theorem Z1ff {a b:Int} (hb:0 < b) (h:a.tmod b≤0):a.tdiv b=up a b:=by
 have h1:=Int.mul_tdiv_add_tmod a b
 have h2:=Int.lt_tmod_of_pos a hb
 unfold up
 rw [Zft hb (q:=-(a.tdiv b)) (r:=-a.tmod b) (by rw [Int.mul_neg]; omega) (by omega) (by omega)]
 omega
theorem Z6k {a b l h:Int} (hb:0 < b) (hl:l≤0) (hh:0≤h) (h1:l≤a) (h2:a≤h):l≤a / b∧a / b≤h:=by
 constructor
 ·rw [Int.le_ediv_iff_mul_le hb]
  have:l * b≤l * 1:=Int.mul_le_mul_of_nonpos_left hl (by omega)
  omega
 ·apply Int.ediv_le_of_le_mul hb
  have:h * 1≤h * b:=Int.mul_le_mul_of_nonneg_left (by omega) hh
  omega
theorem Zfu {a b l h:Int} (hb:0 < b) (hl:l≤0) (hh:0≤h) (h1:l≤a) (h2:a≤h):l≤up a b∧up a b≤h:=by
 have:=Z6k (a:=-a) (l:=-h) (h:=-l) hb (by omega) (by omega) (by omega) (by omega)
 unfold up
 omega
theorem Zzt {a b l h:Int} (hb:0 < b) (hl:l≤0) (hh:0≤h) (h1:l≤a) (h2:a≤h):l≤a.tdiv b∧a.tdiv b≤h:=by
 rcases Int.lt_or_le a 0 with hn | hn
 ·have h3:0≤(-a).tmod b:=Int.tmod_nonneg b (by omega)
  rw [Int.neg_tmod] at h3
  rw [Z1ff hb (by omega)]
  exact Zfu hb hl hh h1 h2
 ·rw [Zi3 hb (Int.tmod_nonneg b hn)]
  exact Z6k hb hl hh h1 h2
theorem Zw0 {a a' b:Int} (hb:0 < b) (h:a≤a'):a / b≤a' / b:=Int.ediv_le_ediv hb h
theorem Z16 {x y m n:Int} (hx:-m≤x∧x≤m) (hy:-n≤y∧y≤n):-(m * n)≤x * y∧x * y≤m * n:=by
 have hm:0≤m:=by omega
 have hn:0≤n:=by omega
 have h1:x.natAbs≤m.natAbs:=by omega
 have h2:y.natAbs≤n.natAbs:=by omega
 have h3:(x * y).natAbs≤(m * n).natAbs:=by
  rw [Int.natAbs_mul,Int.natAbs_mul]
  exact Nat.mul_le_mul h1 h2
 have h4:0≤m * n:=Int.mul_nonneg hm hn
 omega
def Z1b0 (n:Int):Prop:=-9223372036854775808≤n∧n≤9223372036854775807
theorem Zw1 {xs:List Int} (h:Z9 I1.ks xs):∃ a,xs=[a]∧Z1b0 a:=by
 match xs,h with
 | [a],h=>exact ⟨a,rfl,Z13n h.1⟩
def allIn:List Int→Prop
 | []=>True
 | x::xs=>Z1b0 x∧allIn xs
theorem Z13r:∀ {n:Nat} {xs:List Int},Z9 (An n).ks xs→xs.length=n∧allIn xs
 | 0,[],_=>⟨rfl,trivial⟩
 | 0,_::_,h=>h.elim
 | n + 1,[],h=>h.elim
 | n + 1,x::xs,h=>by
  have h':inK (.i .i64) x∧Z9 (An n).ks xs:=h
  obtain ⟨h1,h2⟩:=Z13r h'.2
  exact ⟨by simp [h1],Z13n h'.1,h2⟩
end Go.Sx
namespace Go.Sx
open Go.RowKit
structure Iv where
 lo:Int
 hi:Int
def Iv.has (v:Iv) (n:Int):Prop:=v.lo≤n∧n≤v.hi
def Ze:Option Iv→Int→Prop
 | none,_=>True
 | some v,n=>v.has n
inductive X where
 | c (n:Int)
 | v (i:Nat)
 | add (a b:X)
 | sub (a b:X)
 | mul (a b:X)
 | quo (a b:X)
 | rem (a b:X)
 | mn (a b:X)
 | mx (a b:X)
 | wr (k:IntKind) (a:X)
 | nl
 | ln (a:X)
 | l2 (o:L2) (a b:X)
 | l3 (a b x:X)
noncomputable def X.den (R:Fo) (r:List Int):X→Int
 | .c n=>n
 | .v i=>r.getD i 0
 | .add a b=>a.den R r + b.den R r
 | .sub a b=>a.den R r - b.den R r
 | .mul a b=>a.den R r * b.den R r
 | .quo a b=>(a.den R r).tdiv (b.den R r)
 | .rem a b=>(a.den R r).tmod (b.den R r)
 | .mn a b=>min (a.den R r) (b.den R r)
 | .mx a b=>max (a.den R r) (b.den R r)
 | .wr k a=>k.wrap (a.den R r)
 | .nl=>cod []
 | .ln a=>((dec (a.den R r)).length:Int)
 | .l2 o a b=>o.den (a.den R r) (b.den R r)
 | .l3 a b x=>cod ((dec (a.den R r)).set (b.den R r).toNat (x.den R r))
inductive XB where
 | c (b:Bool)
 | lt (a b:X)
 | le (a b:X)
 | eq (a b:X)
 | nz (a:X)
 | not (a:XB)
 | and (a b:XB)
 | or (a b:XB)
 | iff (a b:XB)
def XB.prop (R:Fo) (r:List Int):XB→Prop
 | .c b=>b=true
 | .lt a b=>a.den R r < b.den R r
 | .le a b=>a.den R r≤b.den R r
 | .eq a b=>a.den R r=b.den R r
 | .nz a=>a.den R r ≠ 0
 | .not a=>¬ a.prop R r
 | .and a b=>a.prop R r∧b.prop R r
 | .or a b=>a.prop R r∨b.prop R r
 | .iff a b=>(a.prop R r↔b.prop R r)
inductive TX where
 | ret (es:List X)
 | ite (b:XB) (t f:TX)
 | asrt (b:XB) (t:TX)
 | call (g:Nat) (args:List X) (t:TX)
 | callp (g:Nat) (args:List X) (t:TX)
 | loop (n:Nat) (iv:List (Option Iv)) (ini:List X) (t:TX)
 | back (d:Nat) (es:List X)
 | ok
 | fail
def Z17 (vs:List (Option Iv)) (r:List Int):Prop:=vs.length=r.length∧∀ i,Ze (vs.getD i none) (r.getD i 0)
def TX.sat (Γ:List Sum) (R:Fo) (Ψ:List Int→Prop):TX→List (List Int→Prop)→List Int→Prop
 | .ret es,_,r=>Ψ (es.map (X.den R r))
 | .ite b t f,bs,r=>(b.prop R r→t.sat Γ R Ψ bs r)∧(¬ b.prop R r→f.sat Γ R Ψ bs r)
 | .asrt b t,bs,r=>b.prop R r∧t.sat Γ R Ψ bs r
 | .call g args t,bs,r=>match Γ[g]? with
  | some s=>s.pre (args.map (X.den R r))∧t.sat Γ R Ψ bs (r++s.sem (args.map (X.den R r)))
  | none=>False
 | .callp g args t,bs,r=>match Γ[g]? with
  | some s=>t.sat Γ R Ψ bs (r++s.sem (args.map (X.den R r)))
  | none=>False
 | .loop n iv ini t,bs,r=>∃ (I:List Int→Prop) (μ:List Int→Nat),(∀ xs:List Int,xs.length=n→I xs→Z17 iv xs)∧I (ini.map (X.den R r)) ∧
   ∀ xs:List Int,xs.length=n→I xs→t.sat Γ R Ψ (bs++[fun ys=>I ys∧μ ys < μ xs]) (r++xs)
 | .back d es,bs,r=>match bs[d]? with
  | some p=>p (es.map (X.den R r))
  | none=>False
 | .ok,_,_=>True
 | .fail,_,_=>False
def i64v:Iv:=⟨-9223372036854775808,9223372036854775807⟩
def Zf8 (k:IntKind) (x:X) (v:Option Iv):X × Option Iv :=
 if k=.i64 then (match v with
  | some v=>if decide (-9223372036854775808≤v.lo) && decide (v.hi≤9223372036854775807) then (x,some v) else (.wr k x,some i64v)
  | none=>(.wr k x,some i64v))
 else (.wr k x,none)
def Zzu:Option Iv→Option Iv→Option Iv
 | some a,some b=>some ⟨a.lo + b.lo,a.hi + b.hi⟩
 | _,_=>none
def Z1b1:Option Iv→Option Iv→Option Iv
 | some a,some b=>some ⟨a.lo - b.hi,a.hi - b.lo⟩
 | _,_=>none
def Zsx:Option Iv→Option Iv→Option Iv
 | some a,some b=>some ⟨min (min (a.lo * b.lo) (a.lo * b.hi)) (min (a.hi * b.lo) (a.hi * b.hi)),max (max (a.lo * b.lo) (a.lo * b.hi)) (max (a.hi * b.lo) (a.hi * b.hi))⟩
 | _,_=>none
def Z1b2:Option Iv→Option Iv→Option Iv
 | some a,some b=>if 1≤b.lo then some ⟨min a.lo 0,max a.hi 0⟩ else none
 | _,_=>none
def Z1hj:Option Iv→Option Iv→Option Iv
 | some a,some b=>if 1≤b.lo then some ⟨if 0≤a.lo then 0 else 1 - b.hi,b.hi - 1⟩ else none
 | _,_=>none
def mnIv:Option Iv→Option Iv→Option Iv
 | some a,some b=>some ⟨min a.lo b.lo,min a.hi b.hi⟩
 | _,_=>none
def mxIv:Option Iv→Option Iv→Option Iv
 | some a,some b=>some ⟨max a.lo b.lo,max a.hi b.hi⟩
 | _,_=>none
def Z1i (vs:List (Option Iv)):E→X × Option Iv
 | .c n=>(.c n,some ⟨n,n⟩)
 | .v i=>(.v i,vs.getD i none)
 | .add k a b=>match Z1i vs a,Z1i vs b with
  | (xa,ia),(xb,ib)=>Zf8 k (.add xa xb) (Zzu ia ib)
 | .sub k a b=>match Z1i vs a,Z1i vs b with
  | (xa,ia),(xb,ib)=>Zf8 k (.sub xa xb) (Z1b1 ia ib)
 | .mul k a b=>match Z1i vs a,Z1i vs b with
  | (xa,ia),(xb,ib)=>Zf8 k (.mul xa xb) (Zsx ia ib)
 | .quo k a b=>match Z1i vs a,Z1i vs b with
  | (xa,ia),(xb,ib)=>Zf8 k (.quo xa xb) (Z1b2 ia ib)
 | .rem a b=>match Z1i vs a,Z1i vs b with
  | (xa,ia),(xb,ib)=>(.rem xa xb,Z1hj ia ib)
 | .mn a b=>match Z1i vs a,Z1i vs b with
  | (xa,ia),(xb,ib)=>(.mn xa xb,mnIv ia ib)
 | .mx a b=>match Z1i vs a,Z1i vs b with
  | (xa,ia),(xb,ib)=>(.mx xa xb,mxIv ia ib)
 | .cv k a=>match Z1i vs a with
  | (xa,ia)=>Zf8 k xa ia
 | .nl=>(.nl,none)
 | .ln a=>(.ln (Z1i vs a).1,none)
 | .l2 o a b=>(.l2 o (Z1i vs a).1 (Z1i vs b).1,none)
 | .l3 a b x=>(.l3 (Z1i vs a).1 (Z1i vs b).1 (Z1i vs x).1,none)
def Z6l (vs:List (Option Iv)):B→Bool→XB
 | .c b,x=>.c (b == x)
 | .lt a b,true=>.lt (Z1i vs a).1 (Z1i vs b).1
 | .lt a b,false=>.le (Z1i vs b).1 (Z1i vs a).1
 | .le a b,true=>.le (Z1i vs a).1 (Z1i vs b).1
 | .le a b,false=>.lt (Z1i vs b).1 (Z1i vs a).1
 | .eq a b,true=>.eq (Z1i vs a).1 (Z1i vs b).1
 | .eq a b,false=>.not (.eq (Z1i vs a).1 (Z1i vs b).1)
 | .nz a,true=>.nz (Z1i vs a).1
 | .nz a,false=>.eq (Z1i vs a).1 (.c 0)
 | .not a,x=>Z6l vs a (!x)
 | .and a b,true=>.and (Z6l vs a true) (Z6l vs b true)
 | .and a b,false=>.or (Z6l vs a false) (Z6l vs b false)
 | .beq a b,true=>.iff (Z6l vs a true) (Z6l vs b true)
 | .beq a b,false=>.not (.iff (Z6l vs a true) (Z6l vs b true))
def Zmc (vs:List (Option Iv)) (b:B):XB:=Z6l vs b true
def Zpw (vs:List (Option Iv)):B→Option Bool
 | .c b=>some b
 | .lt a b=>match (Z1i vs a).2,(Z1i vs b).2 with
  | some i,some j=>if i.hi < j.lo then some true else if j.hi≤i.lo then some false else none
  | _,_=>none
 | .le a b=>match (Z1i vs a).2,(Z1i vs b).2 with
  | some i,some j=>if i.hi≤j.lo then some true else if j.hi < i.lo then some false else none
  | _,_=>none
 | .eq a b=>match (Z1i vs a).2,(Z1i vs b).2 with
  | some i,some j=>if i.hi < j.lo then some false else if j.hi < i.lo then some false else if i.lo=i.hi∧j.lo=j.hi∧i.lo=j.lo then some true else none
  | _,_=>none
 | .nz a=>match (Z1i vs a).2 with
  | some i=>if i.hi < 0 then some true else if 0 < i.lo then some true else if i.lo=0∧i.hi=0 then some false else none
  | none=>none
 | .not a=>(Zpw vs a).map (!·)
 | .and a b=>match Zpw vs a,Zpw vs b with
  | some false,_=>some false
  | _,some false=>some false
  | some true,y=>y
  | _,_=>none
 | .beq _ _=>none
def Zi4 (vs:List (Option Iv)) (h:Option Iv) (d:Int):E→List (Option Iv)
 | .v i=>match h,vs.getD i none with
  | some h,some v=>vs.set i (some ⟨v.lo,min v.hi (h.hi - d)⟩)
  | _,_=>vs
 | .mx a b=>Zi4 (Zi4 vs h d a) h d b
 | _=>vs
def Zi5 (vs:List (Option Iv)) (h:Option Iv) (d:Int):E→List (Option Iv)
 | .v i=>match h,vs.getD i none with
  | some h,some v=>vs.set i (some ⟨max v.lo (h.lo + d),v.hi⟩)
  | _,_=>vs
 | .mn a b=>Zi5 (Zi5 vs h d a) h d b
 | _=>vs
def Z4k (vs:List (Option Iv)):B→Bool→List (Option Iv)
 | .lt a b,true=>Zi5 (Zi4 vs (Z1i vs b).2 1 a) (Z1i vs a).2 1 b
 | .lt a b,false=>Zi4 (Zi5 vs (Z1i vs b).2 0 a) (Z1i vs a).2 0 b
 | .le a b,true=>Zi5 (Zi4 vs (Z1i vs b).2 0 a) (Z1i vs a).2 0 b
 | .le a b,false=>Zi4 (Zi5 vs (Z1i vs b).2 1 a) (Z1i vs a).2 1 b
 | .eq a b,true=>Zi5 (Zi4 (Zi5 (Zi4 vs (Z1i vs b).2 0 a) (Z1i vs b).2 0 a) (Z1i vs a).2 0 b) (Z1i vs a).2 0 b
 | .nz a,false=>Zi5 (Zi4 vs (some ⟨0,0⟩) 0 a) (some ⟨0,0⟩) 0 a
 | .not a,x=>Z4k vs a (!x)
 | .and a b,true=>Z4k (Z4k vs a true) b true
 | _,_=>vs
def Z13s (vs:List (Option Iv)):Bool:=vs.any fun v=>match v with
 | some v=>decide (v.hi < v.lo)
 | none=>false
structure Inf where
 pin:List (Option Iv)
 out:List (Option Iv)→List (Option Iv)
def Inf.none:Inf:=⟨[],fun _=>[]⟩
def inIv:Option Iv→Option Iv→Bool
 | _,none=>true
 | some a,some b=>decide (b.lo≤a.lo) && decide (a.hi≤b.hi)
 | none,some _=>false
def Zzv:List (Option Iv)→List (Option Iv)→Bool
 | [],[]=>true
 | a::aZ,b::bs=>inIv a b && Zzv aZ bs
 | _,_=>false
def X.same:X→X→Bool
 | .c m,.c n=>m == n
 | .v m,.v n=>m == n
 | .add a b,.add a' b'=>a.same a' && b.same b'
 | .sub a b,.sub a' b'=>a.same a' && b.same b'
 | .mul a b,.mul a' b'=>a.same a' && b.same b'
 | .quo a b,.quo a' b'=>a.same a' && b.same b'
 | .rem a b,.rem a' b'=>a.same a' && b.same b'
 | .mn a b,.mn a' b'=>a.same a' && b.same b'
 | .mx a b,.mx a' b'=>a.same a' && b.same b'
 | .wr k a,.wr k' a'=>k == k' && a.same a'
 | .nl,.nl=>true
 | .ln a,.ln a'=>a.same a'
 | .l2 o a b,.l2 o' a' b'=>o == o' && (a.same a' && b.same b')
 | .l3 a b x,.l3 a' b' x'=>a.same a' && (b.same b' && x.same x')
 | _,_=>false
def Zc8:List X→List X→Bool
 | [],[]=>true
 | a::aZ,b::bs=>a.same b && Zc8 aZ bs
 | _,_=>false
def XB.same:XB→XB→Bool
 | .c m,.c n=>m == n
 | .lt a b,.lt a' b'=>a.same a' && b.same b'
 | .le a b,.le a' b'=>a.same a' && b.same b'
 | .eq a b,.eq a' b'=>a.same a' && b.same b'
 | .nz a,.nz a'=>a.same a'
 | .not a,.not a'=>a.same a'
 | .and a b,.and a' b'=>a.same a' && b.same b'
 | .or a b,.or a' b'=>a.same a' && b.same b'
 | .iff a b,.iff a' b'=>a.same a' && b.same b'
 | _,_=>false
def Zaq:List (Option Iv)→List (Option Iv)→Bool
 | [],[]=>true
 | none::l,none::l'=>Zaq l l'
 | some a::l,some b::l'=>(a.lo == b.lo && a.hi == b.hi) && Zaq l l'
 | _,_=>false
def TX.same:TX→TX→Bool
 | .ret a,.ret b=>Zc8 a b
 | .ite b t f,.ite b' t' f'=>b.same b' && (t.same t' && f.same f')
 | .asrt b t,.asrt b' t'=>b.same b' && t.same t'
 | .call g a t,.call g' a' t'=>g == g' && (Zc8 a a' && t.same t')
 | .callp g a t,.callp g' a' t'=>g == g' && (Zc8 a a' && t.same t')
 | .loop n iv a t,.loop n' iv' a' t'=>(n == n' && Zaq iv iv') && (Zc8 a a' && t.same t')
 | .back d a,.back d' a'=>d == d' && Zc8 a a'
 | .ok,.ok=>true
 | .fail,.fail=>true
 | _,_=>false
def Z13t (t f:TX):TX:=if t.same f then t else .fail
def Zsy:XB→XB
 | .c b=>.c (!b)
 | .lt a b=>.le b a
 | .le a b=>.lt b a
 | .not a=>a
 | .and a b=>.or (Zsy a) (Zsy b)
 | .or a b=>.and (Zsy a) (Zsy b)
 | a=>.not a
def Z1hk (b:XB) (t f:TX):TX:=match t,f with
 | .ok,f=>f
 | t,.ok=>t
 | .ret es,.ret es'=>if Zc8 es es' then .ret es else .ite b (.ret es) (.ret es')
 | .ret es,.ite b2 (.ret es2) f2=>if Zc8 es es2 then .ite (.or b b2) (.ret es) f2 else .ite b (.ret es) (.ite b2 (.ret es2) f2)
 | .ite b2 (.ret es2) t2,.ret es=>if Zc8 es es2 then .ite (.or (Zsy b) b2) (.ret es) t2 else .ite (Zsy b) (.ret es) (.ite b2 (.ret es2) t2)
 | t,.ret es=>.ite (Zsy b) (.ret es) t
 | t,f=>.ite b t f
def Z12:TX→TX
 | .ret es=>.ret es
 | .ite b t f=>Z1hk b (Z12 t) (Z12 f)
 | .asrt b t=>.asrt b (Z12 t)
 | .call g args t=>.call g args (Z12 t)
 | .callp g args t=>.callp g args (Z12 t)
 | .loop n iv ini t=>.loop n iv ini (Z12 t)
 | .back d es=>.back d es
 | .ok=>.ok
 | .fail=>.fail
theorem Z7f {x y a b:Int} (h1:a≤x) (h2:x≤b):min (a * y) (b * y)≤x * y∧x * y≤max (a * y) (b * y):=by
 rcases Int.le_total 0 y with hy | hy
 ·have h3:=Int.mul_le_mul_of_nonneg_right h1 hy
  have h4:=Int.mul_le_mul_of_nonneg_right h2 hy
  omega
 ·have h3:=Int.mul_le_mul_of_nonpos_right h1 hy
  have h4:=Int.mul_le_mul_of_nonpos_right h2 hy
  omega
theorem Zc9 {a b:Option Iv} {x y:Int} (ha:Ze a x) (hb:Ze b y):Ze (Zsx a b) (x * y):=by
 cases a <;> cases b <;> try trivial
 rename_i a b
 obtain ⟨h1,h2⟩:=ha
 obtain ⟨h3,h4⟩:=hb
 have h5:=Z7f (y:=y) h1 h2
 have h6:=Z7f (y:=a.lo) h3 h4
 have h7:=Z7f (y:=a.hi) h3 h4
 rw [Int.mul_comm b.lo,Int.mul_comm b.hi,Int.mul_comm y] at h6 h7
 simp only [Ze,Zsx,Iv.has]
 omega
theorem Z6m {k:IntKind} {x:X} {v:Option Iv} {R:Fo} {r:List Int} (h:Ze v (x.den R r)):(Zf8 k x v).1.den R r=k.wrap (x.den R r)∧Ze (Zf8 k x v).2 (k.wrap (x.den R r)):=by
 unfold Zf8
 split
 ·rename_i hk
  subst hk
  have hw:Ze (some i64v) (IntKind.i64.wrap (x.den R r)):=by
   simp only [Ze,Iv.has,i64v,IntKind.wrap_i64]
   omega
  split
  ·rename_i v
   split
   ·rename_i hc
    simp only [Z1kr,Z1ks] at hc
    have:IntKind.i64.wrap (x.den R r)=x.den R r:=by
     obtain ⟨h1,h2⟩:=h
     exact Zf (by omega) (by omega)
    rw [this]
    exact ⟨rfl,h⟩
   ·exact ⟨rfl,hw⟩
  ·exact ⟨rfl,hw⟩
 ·exact ⟨rfl,trivial⟩
theorem Zi6 {a b:Option Iv} {x y:Int} (ha:Ze a x) (hb:Ze b y):Ze (Zzu a b) (x + y):=by
 cases a <;> cases b <;> try trivial
 simp only [Ze,Zzu,Iv.has] at *
 omega
theorem Z13u {a b:Option Iv} {x y:Int} (ha:Ze a x) (hb:Ze b y):Ze (Z1b1 a b) (x - y):=by
 cases a <;> cases b <;> try trivial
 simp only [Ze,Z1b1,Iv.has] at *
 omega
theorem Z13v {a b:Option Iv} {x y:Int} (ha:Ze a x) (hb:Ze b y):Ze (Z1b2 a b) (x.tdiv y):=by
 cases a <;> cases b <;> try trivial
 rename_i a b
 simp only [Z1b2]
 split
 ·simp only [Ze,Iv.has] at *
  have:=Zzt (a:=x) (b:=y) (l:=min a.lo 0) (h:=max a.hi 0) (by omega) (by omega) (by omega) (by omega) (by omega)
  omega
 ·trivial
theorem Z13w {a b:Option Iv} {x y:Int} (ha:Ze a x) (hb:Ze b y):Ze (Z1hj a b) (x.tmod y):=by
 cases a <;> cases b <;> try trivial
 rename_i a b
 simp only [Z1hj]
 split
 ·simp only [Ze,Iv.has] at *
  have h1:=Int.lt_tmod_of_pos x (b:=y) (by omega)
  have h2:=Int.tmod_lt_of_pos x (b:=y) (by omega)
  split
  ·have:=Int.tmod_nonneg (a:=x) y (by omega)
   omega
  ·omega
 ·trivial
theorem Zfv {a b:Option Iv} {x y:Int} (ha:Ze a x) (hb:Ze b y):Ze (mnIv a b) (min x y):=by
 cases a <;> cases b <;> try trivial
 simp only [Ze,mnIv,Iv.has] at *
 omega
theorem Zfw {a b:Option Iv} {x y:Int} (ha:Ze a x) (hb:Ze b y):Ze (mxIv a b) (max x y):=by
 cases a <;> cases b <;> try trivial
 simp only [Ze,mxIv,Iv.has] at *
 omega
section
variable {R:Fo} {r:List Int} {vs:List (Option Iv)}
theorem Z1e (h:Z17 vs r):∀ e:E,(Z1i vs e).1.den R r=e.den R r∧Ze (Z1i vs e).2 (e.den R r):=by
 intro e
 induction e with
 | c n=>exact ⟨rfl,Int.le_refl _,Int.le_refl _⟩
 | v i=>exact ⟨rfl,h.2 i⟩
 | add k a b iha ihb =>
  simp only [Z1i,E.den]
  have:=Z6m (k:=k) (x:=.add (Z1i vs a).1 (Z1i vs b).1) (v:=Zzu (Z1i vs a).2 (Z1i vs b).2) (R:=R) (r:=r) (by simp only [X.den,iha.1,ihb.1]; exact Zi6 iha.2 ihb.2)
  simpa only [X.den,iha.1,ihb.1] using this
 | sub k a b iha ihb =>
  simp only [Z1i,E.den]
  have:=Z6m (k:=k) (x:=.sub (Z1i vs a).1 (Z1i vs b).1) (v:=Z1b1 (Z1i vs a).2 (Z1i vs b).2) (R:=R) (r:=r) (by simp only [X.den,iha.1,ihb.1]; exact Z13u iha.2 ihb.2)
  simpa only [X.den,iha.1,ihb.1] using this
 | mul k a b iha ihb =>
  simp only [Z1i,E.den]
  have:=Z6m (k:=k) (x:=.mul (Z1i vs a).1 (Z1i vs b).1) (v:=Zsx (Z1i vs a).2 (Z1i vs b).2) (R:=R) (r:=r) (by simp only [X.den,iha.1,ihb.1]; exact Zc9 iha.2 ihb.2)
  simpa only [X.den,iha.1,ihb.1] using this
 | quo k a b iha ihb =>
  simp only [Z1i,E.den]
  have:=Z6m (k:=k) (x:=.quo (Z1i vs a).1 (Z1i vs b).1) (v:=Z1b2 (Z1i vs a).2 (Z1i vs b).2) (R:=R) (r:=r) (by simp only [X.den,iha.1,ihb.1]; exact Z13v iha.2 ihb.2)
  simpa only [X.den,iha.1,ihb.1] using this
 | rem a b iha ihb =>
  simp only [Z1i,E.den,X.den,iha.1,ihb.1]
  exact ⟨trivial,Z13w iha.2 ihb.2⟩
 | mn a b iha ihb =>
  have hm:∀ x y:Int,(if y < x then y else x)=min x y:=fun x y=>by split <;> omega
  simp only [Z1i,E.den,X.den,iha.1,ihb.1,hm]
  exact ⟨trivial,Zfv iha.2 ihb.2⟩
 | mx a b iha ihb =>
  have hm:∀ x y:Int,(if y > x then y else x)=max x y:=fun x y=>by split <;> omega
  simp only [Z1i,E.den,X.den,iha.1,ihb.1,hm]
  exact ⟨trivial,Zfw iha.2 ihb.2⟩
 | cv k a iha =>
  simp only [Z1i,E.den]
  have:=Z6m (k:=k) (x:=(Z1i vs a).1) (v:=(Z1i vs a).2) (R:=R) (r:=r) (by rw [iha.1]; exact iha.2)
  rwa [iha.1] at this
 | nl=>exact ⟨rfl,trivial⟩
 | ln a iha=>simp only [Z1i,E.den,X.den,iha.1]; exact ⟨trivial,trivial⟩
 | l2 o a b iha ihb=>simp only [Z1i,E.den,X.den,iha.1,ihb.1]; exact ⟨trivial,trivial⟩
 | l3 a b x iha ihb ihx=>simp only [Z1i,E.den,X.den,iha.1,ihb.1,ihx.1]; exact ⟨trivial,trivial⟩
theorem Zzw (h:Z17 vs r):∀ (b:B) (x:Bool),(Z6l vs b x).prop R r↔b.den R r=x:=by
 intro b
 induction b with
 | c b=>intro x; simp [Z6l,XB.prop,B.den]
 | lt a b=>intro x; cases x <;> simp [Z6l,XB.prop,B.den,(Z1e h _).1]
 | le a b=>intro x; cases x <;> simp [Z6l,XB.prop,B.den,(Z1e h _).1]
 | eq a b=>intro x; cases x <;> simp [Z6l,XB.prop,B.den,(Z1e h _).1]
 | nz a=>intro x; cases x <;> simp [Z6l,XB.prop,X.den,B.den,(Z1e h _).1]
 | not a ih =>
  intro x
  simp only [Z6l,ih,B.den]
  cases a.den R r <;> cases x <;> simp
 | and a b iha ihb =>
  intro x
  cases x with
  | true=>simp [Z6l,XB.prop,B.den,iha,ihb]
  | false =>
   simp only [Z6l,XB.prop,B.den,iha,ihb]
   cases a.den R r <;> cases b.den R r <;> simp
 | beq a b iha ihb =>
  intro x
  cases x <;> simp only [Z6l,XB.prop,B.den,iha,ihb] <;> cases a.den R r <;> cases b.den R r <;> simp
theorem Zkt (h:Z17 vs r) (b:B):(Zmc vs b).prop R r↔b.den R r=true:=Zzw h b true
theorem Zi7 (h:Z17 vs r):∀ (b:B) (x:Bool),Zpw vs b=some x→b.den R r=x:=by
 intro b
 induction b with
 | c b=>intro x hx; simpa [Zpw,B.den] using hx
 | lt a b =>
  intro x hx
  have ha:=(Z1e (R:=R) h a).2
  have hb:=(Z1e (R:=R) h b).2
  simp only [Zpw] at hx
  split at hx
  ·rename_i i j hi hj
   rw [hi] at ha
   rw [hj] at hb
   simp only [Ze,Iv.has] at ha hb
   simp only [B.den]
   split at hx
   ·simp only [Option.some.injEq] at hx; subst hx; simp; omega
   ·split at hx
    ·simp only [Option.some.injEq] at hx; subst hx; simp; omega
    ·cases hx
  ·cases hx
 | le a b =>
  intro x hx
  have ha:=(Z1e (R:=R) h a).2
  have hb:=(Z1e (R:=R) h b).2
  simp only [Zpw] at hx
  split at hx
  ·rename_i i j hi hj
   rw [hi] at ha
   rw [hj] at hb
   simp only [Ze,Iv.has] at ha hb
   simp only [B.den]
   split at hx
   ·simp only [Option.some.injEq] at hx; subst hx; simp; omega
   ·split at hx
    ·simp only [Option.some.injEq] at hx; subst hx; simp; omega
    ·cases hx
  ·cases hx
 | eq a b =>
  intro x hx
  have ha:=(Z1e (R:=R) h a).2
  have hb:=(Z1e (R:=R) h b).2
  simp only [Zpw] at hx
  split at hx
  ·rename_i i j hi hj
   rw [hi] at ha
   rw [hj] at hb
   simp only [Ze,Iv.has] at ha hb
   simp only [B.den]
   split at hx
   ·simp only [Option.some.injEq] at hx; subst hx; simp; omega
   ·split at hx
    ·simp only [Option.some.injEq] at hx; subst hx; simp; omega
    ·split at hx
     ·simp only [Option.some.injEq] at hx; subst hx; simp; omega
     ·cases hx
  ·cases hx
 | nz a =>
  intro x hx
  have ha:=(Z1e (R:=R) h a).2
  simp only [Zpw] at hx
  split at hx
  ·rename_i i hi
   rw [hi] at ha
   simp only [Ze,Iv.has] at ha
   simp only [B.den]
   split at hx
   ·simp only [Option.some.injEq] at hx; subst hx; simp; omega
   ·split at hx
    ·simp only [Option.some.injEq] at hx; subst hx; simp; omega
    ·split at hx
     ·simp only [Option.some.injEq] at hx; subst hx; simp; omega
     ·cases hx
  ·cases hx
 | not a ih =>
  intro x hx
  simp only [Zpw,Option.map_eq_some_iff] at hx
  obtain ⟨y,hy,rfl⟩:=hx
  simp [B.den,ih y hy]
 | and a b iha ihb =>
  intro x hx
  simp only [Zpw] at hx
  cases h1:Zpw vs a with
  | none =>
   cases h2:Zpw vs b with
   | none=>rw [h1,h2] at hx; cases hx
   | some y =>
    rw [h1,h2] at hx
    cases y with
    | false =>
     simp only [Option.some.injEq] at hx
     subst hx
     simp [B.den,ihb _ h2]
    | true=>cases hx
  | some z =>
   cases z with
   | false =>
    rw [h1] at hx
    simp only [Option.some.injEq] at hx
    subst hx
    simp [B.den,iha _ h1]
   | true =>
    cases h2:Zpw vs b with
    | none=>rw [h1,h2] at hx; cases hx
    | some y =>
     rw [h1,h2] at hx
     cases y with
     | false =>
      simp only [Option.some.injEq] at hx
      subst hx
      simp [B.den,ihb _ h2]
     | true =>
      simp only [Option.some.injEq] at hx
      subst hx
      simp [B.den,iha _ h1,ihb _ h2]
 | beq a b=>intro x hx; simp [Zpw] at hx
theorem Zw2 (h:Z17 vs r) {i:Nat} {v:Iv} (hv:v.has (r.getD i 0)):Z17 (vs.set i (some v)) r:=by
 refine ⟨by simpa using h.1,fun j=>?_⟩
 simp only [List.getD,List.getElem?_set]
 by_cases hij:i=j
 ·subst hij
  by_cases hl:i < vs.length
  ·simp only [hl,if_true,Option.getD_some]
   exact hv
  ·simp only [hl,if_true,if_false,Option.getD_none]
   trivial
 ·simp only [hij,if_false]
  exact h.2 j
theorem Z7g {v:Option Iv} {d:Int}:∀ (e:E) (vs:List (Option Iv)),Z17 vs r→(∀ v',v=some v'→e.den R r≤v'.hi - d)→Z17 (Zi4 vs v d e) r:=by
 intro e
 induction e with
 | v i =>
  intro vs h hv
  simp only [Zi4]
  split
  ·rename_i v' w hw
   have h1:=h.2 i
   rw [hw] at h1
   have h2:=hv v' rfl
   refine Zw2 h ⟨h1.1,?_⟩
   have h3:=h1.2
   have h4:r.getD i 0≤v'.hi - d:=h2
   show r.getD i 0≤min w.hi (v'.hi - d)
   omega
  ·exact h
 | mx a b iha ihb =>
  intro vs h hv
  have hm:∀ x y:Int,(if y > x then y else x)=max x y:=fun x y=>by split <;> omega
  simp only [E.den,hm] at hv
  exact ihb _ (iha vs h (fun v' h'=>by have:=hv v' h'; omega)) (fun v' h'=>by have:=hv v' h'; omega)
 | _=>intro vs h hv; exact h
theorem Z7h {v:Option Iv} {d:Int}:∀ (e:E) (vs:List (Option Iv)),Z17 vs r→(∀ v',v=some v'→v'.lo + d≤e.den R r)→Z17 (Zi5 vs v d e) r:=by
 intro e
 induction e with
 | v i =>
  intro vs h hv
  simp only [Zi5]
  split
  ·rename_i v' w hw
   have h1:=h.2 i
   rw [hw] at h1
   have h2:=hv v' rfl
   refine Zw2 h ⟨?_,h1.2⟩
   have h3:=h1.1
   have h4:v'.lo + d≤r.getD i 0:=h2
   show max w.lo (v'.lo + d)≤r.getD i 0
   omega
  ·exact h
 | mn a b iha ihb =>
  intro vs h hv
  have hm:∀ x y:Int,(if y < x then y else x)=min x y:=fun x y=>by split <;> omega
  simp only [E.den,hm] at hv
  exact ihb _ (iha vs h (fun v' h'=>by have:=hv v' h'; omega)) (fun v' h'=>by have:=hv v' h'; omega)
 | _=>intro vs h hv; exact h
theorem Zi8:∀ (b:B) (x:Bool) (vs:List (Option Iv)),Z17 vs r→b.den R r=x→Z17 (Z4k vs b x) r:=by
 intro b
 induction b with
 | c b=>intro x vs h hx; cases x <;> exact h
 | lt a b =>
  intro x vs h hx
  have ha:=(Z1e (R:=R) h a).2
  have hb:=(Z1e (R:=R) h b).2
  simp only [B.den] at hx
  cases x with
  | true =>
   simp only [Z1ks] at hx
   refine Z7h (R:=R) _ _ (Z7g (R:=R) _ _ h ?_) ?_
   ·intro v hv; rw [hv] at hb; have:=hb.2; omega
   ·intro v hv; rw [hv] at ha; have:=ha.1; omega
  | false =>
   simp only [decide_eq_false_iff_not] at hx
   refine Z7g (R:=R) _ _ (Z7h (R:=R) _ _ h ?_) ?_
   ·intro v hv; rw [hv] at hb; have:=hb.1; omega
   ·intro v hv; rw [hv] at ha; have:=ha.2; omega
 | le a b =>
  intro x vs h hx
  have ha:=(Z1e (R:=R) h a).2
  have hb:=(Z1e (R:=R) h b).2
  simp only [B.den] at hx
  cases x with
  | true =>
   simp only [Z1ks] at hx
   refine Z7h (R:=R) _ _ (Z7g (R:=R) _ _ h ?_) ?_
   ·intro v hv; rw [hv] at hb; have:=hb.2; omega
   ·intro v hv; rw [hv] at ha; have:=ha.1; omega
  | false =>
   simp only [decide_eq_false_iff_not] at hx
   refine Z7g (R:=R) _ _ (Z7h (R:=R) _ _ h ?_) ?_
   ·intro v hv; rw [hv] at hb; have:=hb.1; omega
   ·intro v hv; rw [hv] at ha; have:=ha.2; omega
 | eq a b =>
  intro x vs h hx
  have ha:=(Z1e (R:=R) h a).2
  have hb:=(Z1e (R:=R) h b).2
  simp only [B.den] at hx
  cases x with
  | true =>
   simp only [beq_iff_eq] at hx
   refine Z7h (R:=R) _ _ (Z7g (R:=R) _ _ (Z7h (R:=R) _ _ (Z7g (R:=R) _ _ h ?_) ?_) ?_) ?_
   ·intro v hv; rw [hv] at hb; have:=hb.2; omega
   ·intro v hv; rw [hv] at hb; have:=hb.1; omega
   ·intro v hv; rw [hv] at ha; have:=ha.2; omega
   ·intro v hv; rw [hv] at ha; have:=ha.1; omega
  | false=>exact h
 | nz a =>
  intro x vs h hx
  simp only [B.den] at hx
  cases x with
  | true=>exact h
  | false =>
   simp only [bne_eq_false_iff_eq] at hx
   refine Z7h (R:=R) _ _ (Z7g (R:=R) _ _ h ?_) ?_
   ·intro v hv; simp only [Option.some.injEq] at hv; subst hv; simp [hx]
   ·intro v hv; simp only [Option.some.injEq] at hv; subst hv; simp [hx]
 | not a ih =>
  intro x vs h hx
  simp only [Z4k]
  refine ih _ vs h ?_
  simp only [B.den] at hx
  rw [← hx]; simp
 | and a b iha ihb =>
  intro x vs h hx
  cases x with
  | true =>
   simp only [B.den,Z1kr] at hx
   exact ihb true _ (iha true vs h hx.1) hx.2
  | false=>exact h
 | beq a b=>intro x vs h hx; cases x <;> exact h
theorem Zsz (h:Z17 vs r):Z13s vs=false:=by
 unfold Z13s
 rw [List.any_eq_false]
 intro v hv
 obtain ⟨i,hi⟩:=List.getElem?_of_mem hv
 have h1:=h.2 i
 rw [List.getD,hi] at h1
 cases v with
 | none=>simp
 | some v =>
  simp only [Option.getD_some,Ze,Iv.has] at h1
  simp; omega
def Z1g (s:Sum) (i:Inf):Prop:=(∀ xs,Z17 i.pin xs→s.pre xs)∧∀ vs xs,Z17 vs xs→s.pre xs→Z17 (i.out vs) (s.sem xs)
def Zj (Γ:List Sum) (outs:List Inf):Prop:=∀ g s,Γ[g]?=some s→Z1g s (outs.getD g .none)
theorem Z8:Zj [] []:=fun g s h=>by simp at h
theorem Z2 {Γ:List Sum} {outs:List Inf} {s:Sum} {o:Inf} (h:Z1g s o) (h':Zj Γ outs):Zj (s::Γ) (o::outs):=by
 intro g s' hg
 cases g with
 | zero =>
  simp only [Z1ke,Option.some.injEq] at hg
  subst hg
  exact h
 | succ g=>exact h' g s' (by simpa using hg)
theorem Z1b3 {a b:Option Iv} {n:Int} (h:inIv a b=true) (ha:Ze a n):Ze b n:=by
 cases a <;> cases b <;> try trivial
 simp only [inIv,Z1kr,Z1ks] at h
 simp only [Ze,Iv.has] at *
 omega
theorem Zw3:∀ {aZ bs:List (Option Iv)} {xs:List Int},Zzv aZ bs=true→Z17 aZ xs→Z17 bs xs
 | [],[],_,_,h=>h
 | [],_::_,_,h,_=>by simp [Zzv] at h
 | _::_,[],_,h,_=>by simp [Zzv] at h
 | a::aZ,b::bs,[],_,h=>by have:=h.1; simp at this
 | a::aZ,b::bs,x::xs,hi,h=>by
  simp only [Zzv,Z1kr] at hi
  obtain ⟨h1,h2⟩:=Zw3 (xs:=xs) hi.2 ⟨by have:=h.1; simpa using this,fun i=>h.2 (i + 1)⟩
  refine ⟨by simp [h1],fun i=>?_⟩
  cases i with
  | zero=>exact Z1b3 hi.1 (h.2 0)
  | succ i=>exact h2 i
theorem Z4:Z17 [] []:=⟨rfl,fun _=>trivial⟩
theorem Z1 {v:Option Iv} {x:Int} {vs:List (Option Iv)} {xs:List Int} (h:Ze v x) (h':Z17 vs xs):Z17 (v::vs) (x::xs):=by
 refine ⟨by simp [h'.1],fun i=>?_⟩
 cases i with
 | zero=>exact h
 | succ i=>exact h'.2 i
theorem Zca (h:Z17 vs r):∀ args:List E,Z17 (args.map fun e=>(Z1i vs e).2) (args.map (E.den R r))
 | []=>Z4
 | e::args=>Z1 (Z1e h e).2 (Zca h args)
theorem Z1n {us:List (Option Iv)} {x:List Int} (h:Z17 vs r) (h':Z17 us x):Z17 (vs++us) (r++x):=by
 refine ⟨by simp [h.1,h'.1],fun i=>?_⟩
 rcases Nat.lt_or_ge i vs.length with hi | hi
 ·have:=h.2 i
  simp only [List.getD] at this ⊢
  rw [List.getElem?_append_left hi,List.getElem?_append_left (by rw [← h.1]; exact hi)]
  exact this
 ·have:=h'.2 (i - vs.length)
  simp only [List.getD] at this ⊢
  rw [List.getElem?_append_right hi,List.getElem?_append_right (by rw [← h.1]; exact hi),← h.1]
  exact this
theorem X.same_eq:∀ a b:X,a.same b=true→a=b
 | .c m,b,h=>by cases b <;> simp [X.same] at h; rw [h]
 | .v m,b,h=>by cases b <;> simp [X.same] at h; rw [h]
 | .add x y,b,h=>by
  cases b <;> simp [X.same] at h
  rw [X.same_eq x _ h.1,X.same_eq y _ h.2]
 | .sub x y,b,h=>by
  cases b <;> simp [X.same] at h
  rw [X.same_eq x _ h.1,X.same_eq y _ h.2]
 | .mul x y,b,h=>by
  cases b <;> simp [X.same] at h
  rw [X.same_eq x _ h.1,X.same_eq y _ h.2]
 | .quo x y,b,h=>by
  cases b <;> simp [X.same] at h
  rw [X.same_eq x _ h.1,X.same_eq y _ h.2]
 | .rem x y,b,h=>by
  cases b <;> simp [X.same] at h
  rw [X.same_eq x _ h.1,X.same_eq y _ h.2]
 | .mn x y,b,h=>by
  cases b <;> simp [X.same] at h
  rw [X.same_eq x _ h.1,X.same_eq y _ h.2]
 | .mx x y,b,h=>by
  cases b <;> simp [X.same] at h
  rw [X.same_eq x _ h.1,X.same_eq y _ h.2]
 | .wr k x,b,h=>by cases b <;> simp [X.same] at h; rw [h.1,X.same_eq x _ h.2]
 | .nl,b,h=>by cases b <;> simp [X.same] at h; rfl
 | .ln x,b,h=>by cases b <;> simp [X.same] at h; rw [X.same_eq x _ h]
 | .l2 o x y,b,h=>by cases b <;> simp [X.same] at h; rw [h.1,X.same_eq x _ h.2.1,X.same_eq y _ h.2.2]
 | .l3 x y z,b,h=>by cases b <;> simp [X.same] at h; rw [X.same_eq x _ h.1,X.same_eq y _ h.2.1,X.same_eq z _ h.2.2]
theorem Z4s:∀ {aZ bs:List X},Zc8 aZ bs=true→aZ=bs
 | [],[],_=>rfl
 | [],_::_,h=>by simp [Zc8] at h
 | _::_,[],h=>by simp [Zc8] at h
 | a::aZ,b::bs,h=>by
  simp only [Zc8,Z1kr] at h
  rw [X.same_eq a b h.1,Z4s h.2]
theorem XB.same_eq:∀ a b:XB,a.same b=true→a=b
 | .c m,b,h=>by cases b <;> simp [XB.same] at h; rw [h]
 | .lt x y,b,h=>by cases b <;> simp [XB.same] at h; rw [X.same_eq x _ h.1,X.same_eq y _ h.2]
 | .le x y,b,h=>by cases b <;> simp [XB.same] at h; rw [X.same_eq x _ h.1,X.same_eq y _ h.2]
 | .eq x y,b,h=>by cases b <;> simp [XB.same] at h; rw [X.same_eq x _ h.1,X.same_eq y _ h.2]
 | .nz x,b,h=>by cases b <;> simp [XB.same] at h; rw [X.same_eq x _ h]
 | .not x,b,h=>by cases b <;> simp [XB.same] at h; rw [XB.same_eq x _ h]
 | .and x y,b,h=>by cases b <;> simp [XB.same] at h; rw [XB.same_eq x _ h.1,XB.same_eq y _ h.2]
 | .or x y,b,h=>by cases b <;> simp [XB.same] at h; rw [XB.same_eq x _ h.1,XB.same_eq y _ h.2]
 | .iff x y,b,h=>by cases b <;> simp [XB.same] at h; rw [XB.same_eq x _ h.1,XB.same_eq y _ h.2]
theorem Zi9:∀ {a b:List (Option Iv)},Zaq a b=true→a=b
 | [],[],_=>rfl
 | none::l,none::l',h=>by simp only [Zaq] at h; rw [Zi9 h]
 | some ⟨x,y⟩::l,some ⟨x',y'⟩::l',h=>by
  simp only [Zaq,Z1kr,beq_iff_eq] at h
  rw [h.1.1,h.1.2,Zi9 h.2]
 | [],_::_,h=>by simp [Zaq] at h
 | _::_,[],h=>by simp [Zaq] at h
 | none::_,some _::_,h=>by simp [Zaq] at h
 | some _::_,none::_,h=>by simp [Zaq] at h
theorem TX.same_eq:∀ a b:TX,a.same b=true→a=b
 | .ret x,b,h=>by cases b <;> simp [TX.same] at h; rw [Z4s h]
 | .ite x y z,b,h=>by cases b <;> simp [TX.same] at h; rw [XB.same_eq x _ h.1,TX.same_eq y _ h.2.1,TX.same_eq z _ h.2.2]
 | .asrt x y,b,h=>by cases b <;> simp [TX.same] at h; rw [XB.same_eq x _ h.1,TX.same_eq y _ h.2]
 | .call g x y,b,h=>by cases b <;> simp [TX.same] at h; rw [h.1,Z4s h.2.1,TX.same_eq y _ h.2.2]
 | .callp g x y,b,h=>by cases b <;> simp [TX.same] at h; rw [h.1,Z4s h.2.1,TX.same_eq y _ h.2.2]
 | .loop n iv x y,b,h=>by cases b <;> simp [TX.same] at h; rw [h.1.1,Zi9 h.1.2,Z4s h.2.1,TX.same_eq y _ h.2.2]
 | .back d x,b,h=>by cases b <;> simp [TX.same] at h; rw [h.1,Z4s h.2]
 | .ok,b,h=>by cases b <;> simp [TX.same] at h; rfl
 | .fail,b,h=>by cases b <;> simp [TX.same] at h; rfl
theorem Zzx {Γ:List Sum} {R:Fo} {Ψ:List Int→Prop} {bs:List (List Int→Prop)} {r:List Int} {t f:TX} (h:(Z13t t f).sat Γ R Ψ bs r):t.sat Γ R Ψ bs r∧f.sat Γ R Ψ bs r:=by
 unfold Z13t at h
 split at h
 ·rename_i hs
  have:=TX.same_eq _ _ hs
  exact ⟨h,this ▸ h⟩
 ·exact h.elim
end
theorem Z6n {R:Fo} {r:List Int}:∀ b:XB,(Zsy b).prop R r↔¬ b.prop R r:=by
 intro b
 induction b with
 | c b=>cases b <;> simp [Zsy,XB.prop]
 | lt a b=>simp [Zsy,XB.prop]
 | le a b=>simp [Zsy,XB.prop]
 | not a=>simp [Zsy,XB.prop,Z1km]
 | and a b iha ihb=>simp only [Zsy,XB.prop,iha,ihb,Classical.not_and_iff_not_or_not]
 | or a b iha ihb=>simp only [Zsy,XB.prop,iha,ihb,not_or]
 | _=>simp [Zsy,XB.prop]
theorem Z13x {Γ:List Sum} {R:Fo} {Ψ:List Int→Prop} {bs:List (List Int→Prop)} {r:List Int} {b:XB} {t f:TX} (h:(Z1hk b t f).sat Γ R Ψ bs r):(TX.ite b t f).sat Γ R Ψ bs r:=by
 unfold Z1hk at h
 split at h
 ·exact ⟨fun _=>trivial,fun _=>h⟩
 ·exact ⟨fun _=>h,fun _=>trivial⟩
 ·split at h
  ·rename_i hs
   have:=Z4s hs
   subst this
   exact ⟨fun _=>h,fun _=>h⟩
  ·exact h
 ·split at h
  ·rename_i hs
   have:=Z4s hs
   subst this
   obtain ⟨h1,h2⟩:=h
   exact ⟨fun hb=>h1 (.inl hb),fun hb=>⟨fun hb2=>h1 (.inr hb2),fun hb2=>h2 (fun h=>h.elim hb hb2)⟩⟩
  ·exact h
 ·split at h
  ·rename_i hs
   have:=Z4s hs
   subst this
   obtain ⟨h1,h2⟩:=h
   exact ⟨fun hb=>⟨fun hb2=>h1 (.inr hb2),fun hb2=>h2 (fun h=>h.elim (fun hn=>(Z6n b).1 hn hb) hb2)⟩,fun hb=>h1 (.inl ((Z6n b).2 hb))⟩
  ·obtain ⟨h1,h2⟩:=h
   exact ⟨fun hb=>h2 (fun hn=>(Z6n b).1 hn hb),fun hb=>h1 ((Z6n b).2 hb)⟩
 ·obtain ⟨h1,h2⟩:=h
  exact ⟨fun hb=>h2 (fun hn=>(Z6n b).1 hn hb),fun hb=>h1 ((Z6n b).2 hb)⟩
 ·exact h
theorem Z6o {Γ:List Sum} {R:Fo} {Ψ:List Int→Prop}:∀ (t:TX) (bs:List (List Int→Prop)) (r:List Int),(Z12 t).sat Γ R Ψ bs r→t.sat Γ R Ψ bs r:=by
 intro t
 induction t with
 | ret es=>intro bs r h; exact h
 | ite b t f iht ihf =>
  intro bs r h
  obtain ⟨h1,h2⟩:=Z13x h
  exact ⟨fun hb=>iht bs r (h1 hb),fun hb=>ihf bs r (h2 hb)⟩
 | asrt b t ih=>intro bs r h; exact ⟨h.1,ih bs r h.2⟩
 | call g args t ih =>
  intro bs r h
  simp only [Z12,TX.sat] at h ⊢
  split at h
  ·rename_i s hg
   exact ⟨h.1,ih bs _ h.2⟩
  ·exact h
 | callp g args t ih =>
  intro bs r h
  simp only [Z12,TX.sat] at h ⊢
  split at h
  ·exact ih bs _ h
  ·exact h
 | loop n iv ini t ih =>
  intro bs r h
  obtain ⟨I,μ,h1,h2,h3⟩:=h
  exact ⟨I,μ,h1,h2,fun xs hx hI=>ih _ _ (h3 xs hx hI)⟩
 | back d es=>intro bs r h; exact h
 | ok=>intro bs r h; trivial
 | fail=>intro bs r h; exact h
def mkS (gl:List (Nat × List Int)) (fn:FuncId) (ps rs:List Sh) (pin:List (Option Iv)) (sem:List Int→List Int):Sum:=⟨fn,ps,rs,sem,Z17 pin,gl,none⟩
def mkP (gl:List (Nat × List Int)) (fn:FuncId) (ps rs:List Sh) (pre:List Int→Prop) (sem:List Int→List Int):Sum:=⟨fn,ps,rs,sem,pre,gl,none⟩
def ivK:K→Option Iv
 | .i .i64=>some i64v
 | .i .u8=>some ⟨0,255⟩
 | .b=>some ⟨0,1⟩
 | _=>none
theorem inK_iv {k:K} {n:Int} (h:inK k n):Ze (ivK k) n:=by
 cases k with
 | i kk =>
  cases kk <;> try trivial
  ·exact Z13n h
  ·have h':(Lit.int .u8 n).wf=true:=h
   simp only [Lit.wf,Z1kr,Z1ks] at h'
   have h1:IntKind.u8.min=0:=by decide
   have h2:IntKind.u8.max=255:=by decide
   rw [h1,h2] at h'
   exact h'
 | b =>
  have h':n=0∨n=1:=h
  simp only [ivK,Ze,Iv.has]
  omega
 | s ty ks=>trivial
theorem Z1t:∀ {ks:List K} {xs:List Int},Z9 ks xs→Z17 (ks.map ivK) xs
 | [],[],_=>⟨rfl,fun i=>by simp [List.getD]; trivial⟩
 | [],_::_,h=>h.elim
 | _::_,[],h=>h.elim
 | k::ks,x::xs,h=>by
  obtain ⟨h1,h2⟩:=Z1t h.2
  refine ⟨by simp [h1],fun i=>?_⟩
  cases i with
  | zero=>exact inK_iv h.1
  | succ i=>exact h2 i
end Go.Sx
namespace Go.Sx
open Go.RowKit
structure Zde where
 eq:Bool
 a:X
 b:X
 yes:Bool
def Zde.holds (R:Fo) (r:List Int) (f:Zde):Prop :=
 (if f.eq=true then f.a.den R r=f.b.den R r else f.a.den R r≤f.b.den R r)↔f.yes=true
def Zpx (eq:Bool) (a b:X):List Zde→Option Bool
 | []=>none
 | f::fs=>if f.eq == eq && (f.a.same a && f.b.same b) then some f.yes else Zpx eq a b fs
def Z4l (fs:List Zde):XB→Option Bool
 | .c b=>some b
 | .le a b=>Zpx false a b fs
 | .lt a b=>(Zpx false b a fs).map (!·)
 | .eq a b=>Zpx true a b fs
 | .nz a=>(Zpx true a (.c 0) fs).map (!·)
 | .not a=>(Z4l fs a).map (!·)
 | .and a b=>match Z4l fs a,Z4l fs b with
  | some false,_=>some false
  | _,some false=>some false
  | some true,some true=>some true
  | _,_=>none
 | .or a b=>match Z4l fs a,Z4l fs b with
  | some true,_=>some true
  | _,some true=>some true
  | some false,some false=>some false
  | _,_=>none
 | .iff a b=>match Z4l fs a,Z4l fs b with
  | some x,some y=>some (x == y)
  | _,_=>none
def Z6p (fs:List Zde):XB→Bool→List Zde
 | .le a b,x=>⟨false,a,b,x⟩::fs
 | .lt a b,x=>⟨false,b,a,!x⟩::fs
 | .eq a b,x=>⟨true,a,b,x⟩::fs
 | .nz a,x=>⟨true,a,.c 0,!x⟩::fs
 | .not a,x=>Z6p fs a (!x)
 | .and a b,true=>Z6p (Z6p fs a true) b true
 | .or a b,false=>Z6p (Z6p fs a false) b false
 | .iff a b,x=>match Z4l fs a with
  | some y=>Z6p fs b (x == y)
  | none=>match Z4l fs b with
   | some y=>Z6p fs a (x == y)
   | none=>fs
 | _,_=>fs
def Zcb (fs:List Zde):XB→XB
 | .and a b=>match Z4l fs a,Z4l fs b with
  | some true,_=>Zcb fs b
  | _,some true=>Zcb fs a
  | _,_=>.and (Zcb fs a) (Zcb fs b)
 | .or a b=>match Z4l fs a,Z4l fs b with
  | some false,_=>Zcb fs b
  | _,some false=>Zcb fs a
  | _,_=>.or (Zcb fs a) (Zcb fs b)
 | .iff a b=>match Z4l fs a with
  | some true=>b
  | some false=>.not b
  | none=>match Z4l fs b with
   | some true=>a
   | some false=>.not a
   | none=>.iff a b
 | b=>b
def X.low (n:Nat):X→Bool
 | .c _=>true
 | .v i=>decide (i < n)
 | .add a b=>a.low n && b.low n
 | .sub a b=>a.low n && b.low n
 | .mul a b=>a.low n && b.low n
 | .quo a b=>a.low n && b.low n
 | .rem a b=>a.low n && b.low n
 | .mn a b=>a.low n && b.low n
 | .mx a b=>a.low n && b.low n
 | .wr _ a=>a.low n
 | .nl=>true
 | .ln a=>a.low n
 | .l2 _ a b=>a.low n && b.low n
 | .l3 a b x=>a.low n && (b.low n && x.low n)
theorem X.den_low {R:Fo} {r x:List Int}:∀ a:X,a.low r.length=true→a.den R (r++x)=a.den R r:=by
 intro a
 induction a with
 | c n=>intro _; rfl
 | v i =>
  intro h
  simp only [X.low,Z1ks] at h
  simp only [X.den,List.getD]
  rw [List.getElem?_append_left h]
 | wr k a ih=>intro h; simp only [X.den,ih h]
 | nl=>intro _; rfl
 | ln a ih=>intro h; simp only [X.den,ih h]
 | l2 o a b iha ihb =>
  intro h
  simp only [X.low,Z1kr] at h
  simp only [X.den,iha h.1,ihb h.2]
 | l3 a b x iha ihb ihx =>
  intro h
  simp only [X.low,Z1kr] at h
  simp only [X.den,iha h.1,ihb h.2.1,ihx h.2.2]
 | _ a b iha ihb =>
  intro h
  simp only [X.low,Z1kr] at h
  simp only [X.den,iha h.1,ihb h.2]
theorem Z6q {R:Fo} {r:List Int} {eq:Bool} {a b:X}:∀ {fs:List Zde} {x:Bool},(∀ f ∈ fs,f.holds R r)→Zpx eq a b fs=some x →
  ((if eq=true then a.den R r=b.den R r else a.den R r≤b.den R r)↔x=true)
 | [],_,_,h=>by simp [Zpx] at h
 | f::fs,x,hf,h=>by
  simp only [Zpx] at h
  split at h
  ·rename_i hc
   simp only [Z1kr,beq_iff_eq] at hc
   obtain ⟨h1,h2,h3⟩:=hc
   simp only [Option.some.injEq] at h
   have:=hf f (List.mem_cons_self ..)
   rw [Zde.holds,h1,X.same_eq _ _ h2,X.same_eq _ _ h3,h] at this
   exact this
  ·exact Z6q (fun g hg=>hf g (List.mem_cons_of_mem _ hg)) h
theorem Z1p {R:Fo} {r:List Int} {fs:List Zde} (hf:∀ f ∈ fs,f.holds R r):∀ (b:XB) (x:Bool),Z4l fs b=some x→(b.prop R r↔x=true):=by
 intro b
 induction b with
 | c b=>intro x h; simp only [Z4l,Option.some.injEq] at h; subst h; exact Iff.rfl
 | le a b=>intro x h; exact Z6q (eq:=false) hf h
 | lt a b =>
  intro x h
  simp only [Z4l,Option.map_eq_some_iff] at h
  obtain ⟨y,h1,rfl⟩:=h
  have:=Z6q (eq:=false) hf h1
  simp only [Bool.false_eq_true,if_false] at this
  simp only [XB.prop]
  rw [← Z1kq,this]
  cases y <;> simp
 | eq a b=>intro x h; exact Z6q (eq:=true) hf h
 | nz a =>
  intro x h
  simp only [Z4l,Option.map_eq_some_iff] at h
  obtain ⟨y,h1,rfl⟩:=h
  have:=Z6q (eq:=true) hf h1
  simp only [if_true,X.den] at this
  simp only [XB.prop,ne_eq,this]
  cases y <;> simp
 | not a ih =>
  intro x h
  simp only [Z4l,Option.map_eq_some_iff] at h
  obtain ⟨y,h1,rfl⟩:=h
  simp only [XB.prop,ih y h1]
  cases y <;> simp
 | and a b iha ihb =>
  intro x h
  simp only [Z4l] at h
  split at h
  ·rename_i h1
   simp only [Option.some.injEq] at h; subst h
   simp [XB.prop,iha _ h1]
  ·rename_i h1 _
   simp only [Option.some.injEq] at h; subst h
   simp [XB.prop,ihb _ h1]
  ·rename_i h1 h2
   simp only [Option.some.injEq] at h; subst h
   simp [XB.prop,iha _ h1,ihb _ h2]
  ·cases h
 | or a b iha ihb =>
  intro x h
  simp only [Z4l] at h
  split at h
  ·rename_i h1
   simp only [Option.some.injEq] at h; subst h
   simp [XB.prop,iha _ h1]
  ·rename_i h1 _
   simp only [Option.some.injEq] at h; subst h
   simp [XB.prop,ihb _ h1]
  ·rename_i h1 h2
   simp only [Option.some.injEq] at h; subst h
   simp [XB.prop,iha _ h1,ihb _ h2]
  ·cases h
 | iff a b iha ihb =>
  intro x h
  simp only [Z4l] at h
  split at h
  ·rename_i y z h1 h2
   simp only [Option.some.injEq] at h; subst h
   have q1:=iha _ h1
   have q2:=ihb _ h2
   simp only [XB.prop,q1,q2]
   cases y <;> cases z <;> simp
  ·cases h
theorem Zt0 {R:Fo} {r:List Int}:∀ (b:XB) (x:Bool) (fs:List Zde),(∀ f ∈ fs,f.holds R r)→(b.prop R r↔x=true)→∀ f ∈ Z6p fs b x,f.holds R r:=by
 intro b
 induction b with
 | le a b =>
  intro x fs hf hb f hm
  rcases List.mem_cons.1 hm with rfl | hm
  ·exact hb
  ·exact hf f hm
 | lt a b =>
  intro x fs hf hb f hm
  rcases List.mem_cons.1 hm with rfl | hm
  ·simp only [XB.prop] at hb
   simp only [Zde.holds,Bool.false_eq_true,if_false]
   rw [← Z1kp,hb]
   cases x <;> simp
  ·exact hf f hm
 | eq a b =>
  intro x fs hf hb f hm
  rcases List.mem_cons.1 hm with rfl | hm
  ·exact hb
  ·exact hf f hm
 | nz a =>
  intro x fs hf hb f hm
  rcases List.mem_cons.1 hm with rfl | hm
  ·simp only [XB.prop] at hb
   simp only [Zde.holds,if_true,X.den]
   cases x
   ·simp only [Bool.false_eq_true,iff_false,ne_eq,Z1km] at hb; simp [hb]
   ·simp only [iff_true,ne_eq] at hb; simp [hb]
  ·exact hf f hm
 | not a ih =>
  intro x fs hf hb
  refine ih (!x) fs hf ?_
  simp only [XB.prop] at hb
  cases x
  ·simp only [Bool.false_eq_true,iff_false,Z1km] at hb; simp [hb]
  ·simp only [iff_true] at hb; simp [hb]
 | and a b iha ihb =>
  intro x fs hf hb
  cases x with
  | true =>
   simp only [XB.prop,iff_true] at hb
   exact ihb true _ (iha true fs hf (by simp [hb.1])) (by simp [hb.2])
  | false=>exact hf
 | or a b iha ihb =>
  intro x fs hf hb
  cases x with
  | false =>
   simp only [XB.prop,Bool.false_eq_true,iff_false,not_or] at hb
   exact ihb false _ (iha false fs hf (by simp [hb.1])) (by simp [hb.2])
  | true=>exact hf
 | c b=>intro x fs hf _; exact hf
 | iff a b iha ihb =>
  intro x fs hf hb
  simp only [Z6p]
  split
  ·rename_i y h1
   have q:=Z1p hf _ _ h1
   refine ihb _ fs hf ?_
   simp only [XB.prop,q] at hb
   cases x <;> cases y <;> simp at hb ⊢ <;> exact hb
  ·split
   ·rename_i y h1
    have q:=Z1p hf _ _ h1
    refine iha _ fs hf ?_
    simp only [XB.prop,q] at hb
    cases x <;> cases y <;> simp at hb ⊢ <;> exact hb
   ·exact hf
theorem Zku {R:Fo} {r:List Int} {fs:List Zde} (hf:∀ f ∈ fs,f.holds R r):∀ b:XB,(Zcb fs b).prop R r↔b.prop R r:=by
 intro b
 induction b with
 | and a b iha ihb =>
  simp only [Zcb]
  split
  ·rename_i h1
   have:=Z1p hf _ _ h1
   simp only [iff_true] at this
   simp [XB.prop,ihb,this]
  ·rename_i h1 _
   have:=Z1p hf _ _ h1
   simp only [iff_true] at this
   simp [XB.prop,iha,this]
  ·simp [XB.prop,iha,ihb]
 | or a b iha ihb =>
  simp only [Zcb]
  split
  ·rename_i h1
   have:=Z1p hf _ _ h1
   simp only [Bool.false_eq_true,iff_false] at this
   simp [XB.prop,ihb,this]
  ·rename_i h1 _
   have:=Z1p hf _ _ h1
   simp only [Bool.false_eq_true,iff_false] at this
   simp [XB.prop,iha,this]
  ·simp [XB.prop,iha,ihb]
 | iff a b =>
  simp only [Zcb]
  split
  ·rename_i h1
   have:=Z1p hf _ _ h1
   simp only [iff_true] at this
   simp [XB.prop,this]
  ·rename_i h1
   have:=Z1p hf _ _ h1
   simp only [Bool.false_eq_true,iff_false] at this
   simp [XB.prop,this]
  ·split
   ·rename_i h1
    have:=Z1p hf _ _ h1
    simp only [iff_true] at this
    simp [XB.prop,this]
   ·rename_i h1
    have:=Z1p hf _ _ h1
    simp only [Bool.false_eq_true,iff_false] at this
    simp [XB.prop,this]
   ·exact Iff.rfl
 | _=>exact Iff.rfl
def Zde.low (n:Nat) (f:Zde):Bool:=f.a.low n && f.b.low n
def Z1fg (lv:List (Nat × List (Option Iv))) (m n:Nat):List (Option Iv):=match lv.find? (fun p=>p.1 == m && p.2.length == n) with
 | some p=>p.2
 | none=>List.replicate n none
def Zr (lv:List (Nat × List (Option Iv))) (outs:List Inf):List Zde→List (Option Iv)→T→TX
 | _,vs,.ret es=>.ret (es.map fun e=>(Z1i vs e).1)
 | fs,vs,.ite b t f=>match Zpw vs b with
  | some true=>Zr lv outs fs vs t
  | some false=>Zr lv outs fs vs f
  | none=>match Z4l fs (Zmc vs b) with
   | some true=>Zr lv outs fs vs t
   | some false=>Zr lv outs fs vs f
   | none=>.ite (Zcb fs (Zmc vs b)) (if Z13s (Z4k vs b true) then .ok else Zr lv outs ((Z6p fs (Zmc vs b) true).filter (Zde.low vs.length)) (Z4k vs b true) t)
     (if Z13s (Z4k vs b false) then .ok else Zr lv outs ((Z6p fs (Zmc vs b) false).filter (Zde.low vs.length)) (Z4k vs b false) f)
 | fs,vs,.asrt b t=>match Zpw vs b with
  | some true=>Zr lv outs fs vs t
  | _=>match Z4l fs (Zmc vs b) with
   | some true=>Zr lv outs fs vs t
   | _=>.asrt (Zcb fs (Zmc vs b)) (Zr lv outs ((Z6p fs (Zmc vs b) true).filter (Zde.low vs.length)) (Z4k vs b true) t)
 | fs,vs,.call g args t =>
  if Zzv (args.map fun e=>(Z1i vs e).2) (outs.getD g .none).pin then .callp g (args.map fun e=>(Z1i vs e).1) (Zr lv outs fs (vs++(outs.getD g .none).out (args.map fun e=>(Z1i vs e).2)) t)
  else .call g (args.map fun e=>(Z1i vs e).1) (Zr lv outs fs (vs++(outs.getD g .none).out (args.map fun e=>(Z1i vs e).2)) t)
 | fs,vs,.loop n ini t=>.loop n (Z1fg lv vs.length n) (ini.map fun e=>(Z1i vs e).1) (Zr lv outs fs (vs++Z1fg lv vs.length n) t)
 | _,vs,.back d es=>.back d (es.map fun e=>(Z1i vs e).1)
 | fs,vs,.both t f=>Z13t (Zr lv outs fs vs t) (Zr lv outs fs vs f)
 | _,_,.fail=>.fail
section
variable {R:Fo}
theorem Zw4:∀ (a:X) (m k:Nat),m≤k→a.low m=true→a.low k=true:=by
 intro a m k hmk
 induction a with
 | c n=>intro _; rfl
 | v i=>simp only [X.low,Z1ks]; omega
 | wr k a ih=>exact ih
 | nl=>intro _; rfl
 | ln a ih=>exact ih
 | l2 o a b iha ihb =>
  simp only [X.low,Z1kr]
  exact fun h=>⟨iha h.1,ihb h.2⟩
 | l3 a b x iha ihb ihx =>
  simp only [X.low,Z1kr]
  exact fun h=>⟨iha h.1,ihb h.2.1,ihx h.2.2⟩
 | _ a b iha ihb =>
  simp only [X.low,Z1kr]
  exact fun h=>⟨iha h.1,ihb h.2⟩
def Zdv (R:Fo) (fs:List Zde) (r:List Int):Prop:=∀ f ∈ fs,f.holds R r∧f.low r.length=true
theorem Zb7 {fs:List Zde} {r:List Int} (x:List Int) (h:Zdv R fs r):Zdv R fs (r++x):=by
 intro f hm
 obtain ⟨h1,h2⟩:=h f hm
 have h2':=h2
 simp only [Zde.low,Z1kr] at h2
 refine ⟨?_,?_⟩
 ·simp only [Zde.holds,X.den_low _ h2.1,X.den_low _ h2.2]
  exact h1
 ·simp only [Zde.low,Z1kr,List.length_append]
  exact ⟨Zw4 _ _ _ (by omega) h2.1,Zw4 _ _ _ (by omega) h2.2⟩
theorem Z7i {fs:List Zde} {r:List Int} (h:Zdv R fs r) {b:XB} {x:Bool} (hb:b.prop R r↔x=true):Zdv R ((Z6p fs b x).filter (Zde.low r.length)) r :=
 fun f hm=>⟨Zt0 b x fs (fun g hg=>(h g hg).1) hb f (List.mem_filter.1 hm).1,(List.mem_filter.1 hm).2⟩
theorem Z3z {lv:List (Nat × List (Option Iv))} {Γ:List Sum} {outs:List Inf} {Ψ:List Int→Prop} (ho:Zj Γ outs):∀ (t:T) (fs:List Zde) (vs:List (Option Iv)) (bs:List (List Int→Prop)) (r:List Int),Zdv R fs r→Z17 vs r→(Zr lv outs fs vs t).sat Γ R Ψ bs r→t.sat Γ R Ψ bs r:=by
 intro t
 induction t with
 | ret es =>
  intro fs vs bs r hf h hs
  simp only [Zr,TX.sat,List.map_map] at hs
  have:es.map (X.den R r ∘ fun e=>(Z1i vs e).1)=es.map (E.den R r):=List.map_congr_left fun e _=>(Z1e h e).1
  rw [this] at hs
  exact hs
 | ite b t f iht ihf =>
  intro fs vs bs r hf h hs
  simp only [Zr] at hs
  have hf1:∀ f ∈ fs,f.holds R r:=fun f hm=>(hf f hm).1
  have hcb:=Zkt (R:=R) h b
  have key:∀ x,b.den R r=x→Z13s (Z4k vs b x)=false∧Z17 (Z4k vs b x) r:=fun x hx=>⟨Zsz (Zi8 (R:=R) b x vs h hx),Zi8 (R:=R) b x vs h hx⟩
  split at hs
  ·rename_i hd
   have:=Zi7 (R:=R) h b true hd
   exact ⟨fun _=>iht fs vs bs r hf h hs,fun hf=>by rw [this] at hf; cases hf⟩
  ·rename_i hd
   have:=Zi7 (R:=R) h b false hd
   exact ⟨fun hf=>(by rw [this] at hf; cases hf),fun _=>ihf fs vs bs r hf h hs⟩
  ·split at hs
   ·rename_i hk
    have:=(hcb.1 ((Z1p hf1 _ _ hk).2 rfl))
    exact ⟨fun _=>iht fs vs bs r hf h hs,fun hb=>by rw [this] at hb; cases hb⟩
   ·rename_i hk
    have hn:¬ b.den R r=true:=fun hb=>by have:=(Z1p hf1 _ _ hk).1 (hcb.2 hb); cases this
    exact ⟨fun hb=>absurd hb hn,fun _=>ihf fs vs bs r hf h hs⟩
   ·obtain ⟨h1,h2⟩:=hs
    rw [Zku hf1] at h1 h2
    refine ⟨fun hb=>?_,fun hb=>?_⟩
    ·obtain ⟨k1,k2⟩:=key true hb
     have h3:=h1 (hcb.2 hb)
     rw [if_neg (by rw [k1]; simp)] at h3
     rw [h.1] at h3
     exact iht _ _ bs r (Z7i hf (by simp [hcb.2 hb])) k2 h3
    ·obtain ⟨k1,k2⟩:=key false hb
     have hnp:¬ (Zmc vs b).prop R r:=fun hp=>by have:=hcb.1 hp; rw [hb] at this; cases this
     have h3:=h2 hnp
     rw [if_neg (by rw [k1]; simp)] at h3
     rw [h.1] at h3
     exact ihf _ _ bs r (Z7i hf (by simp [hnp])) k2 h3
 | asrt b t ih =>
  intro fs vs bs r hf h hs
  simp only [Zr] at hs
  have hf1:∀ f ∈ fs,f.holds R r:=fun f hm=>(hf f hm).1
  have hcb:=Zkt (R:=R) h b
  split at hs
  ·rename_i hd
   exact ⟨Zi7 (R:=R) h b true hd,ih fs vs bs r hf h hs⟩
  ·split at hs
   ·rename_i hk
    exact ⟨hcb.1 ((Z1p hf1 _ _ hk).2 rfl),ih fs vs bs r hf h hs⟩
   ·obtain ⟨h1,h2⟩:=hs
    rw [Zku hf1] at h1
    have hb:=hcb.1 h1
    rw [h.1] at h2
    exact ⟨hb,ih _ _ bs r (Z7i hf (by simp [h1])) (Zi8 (R:=R) b true vs h hb) h2⟩
 | call g args t ih =>
  intro fs vs bs r hf h hs
  have hm:args.map (X.den R r ∘ fun e=>(Z1i vs e).1)=args.map (E.den R r):=List.map_congr_left fun e _=>(Z1e h e).1
  simp only [Zr] at hs
  simp only [T.sat]
  split at hs
  ·rename_i hin
   simp only [TX.sat,List.map_map,hm] at hs
   split at hs
   ·rename_i s hg
    rw [hg]
    obtain ⟨h1,h2⟩:=ho g s hg
    have h3:=Zw3 hin (Zca (R:=R) h args)
    exact ⟨h1 _ h3,ih _ _ bs _ (Zb7 _ hf) (Z1n h (h2 _ _ (Zca (R:=R) h args) (h1 _ h3))) hs⟩
   ·exact hs.elim
  ·simp only [TX.sat,List.map_map,hm] at hs
   split at hs
   ·rename_i s hg
    rw [hg]
    obtain ⟨h1,h2⟩:=ho g s hg
    exact ⟨hs.1,ih _ _ bs _ (Zb7 _ hf) (Z1n h (h2 _ _ (Zca (R:=R) h args) hs.1)) hs.2⟩
   ·exact hs.elim
 | loop n ini t ih =>
  intro fs vs bs r hf h hs
  have hm:ini.map (X.den R r ∘ fun e=>(Z1i vs e).1)=ini.map (E.den R r):=List.map_congr_left fun e _=>(Z1e h e).1
  simp only [Zr,TX.sat,List.map_map,hm] at hs
  obtain ⟨I,μ,h1,h2,h3⟩:=hs
  exact ⟨I,μ,h2,fun xs hx hI=>ih _ _ _ _ (Zb7 _ hf) (Z1n h (h1 xs hx hI)) (h3 xs hx hI)⟩
 | back d es =>
  intro fs vs bs r hf h hs
  have hm:es.map (X.den R r ∘ fun e=>(Z1i vs e).1)=es.map (E.den R r):=List.map_congr_left fun e _=>(Z1e h e).1
  simp only [Zr,TX.sat,List.map_map,hm] at hs
  exact hs
 | both t f iht ihf =>
  intro fs vs bs r hf h hs
  simp only [Zr] at hs
  obtain ⟨h1,h2⟩:=Zzx hs
  exact ⟨iht _ _ _ _ hf h h1,ihf _ _ _ _ hf h h2⟩
 | fail=>intro fs vs bs r _ h hs; exact hs.elim
end
theorem Z40 {R:Fo} {r:List Int}:Zdv R [] r:=fun f h=>by cases h
theorem Sum.okPL {P:Program} {Γ:List Sum} (hm:P.follows .mixedOrders=true) (hG:Gok P Γ) {lp:St→Code→Option Zak} {lv:List (Nat × List (Option Iv))} {gl:List (Nat × List Int)} {fuel:Nat} {outs:List Inf} (ho:Zj Γ outs) {fn:FuncId} {ps rs:List Sh} {pin:List (Option Iv)} {pre:List Int→Prop} {sem:List Int→List Int} {t:TX}
  (ht:Z12 (Zr lv outs [] pin (Zq P lp gl Γ fuel fn ps rs))=t)
  (hsh:(ps++rs).all (fun sh=>sh.agg || sh.ks.length == 1)=true)
  (hl:∀ xs:List Int,(sem xs).length=Zx rs)
  (hpre:∀ xs,pre xs→Z17 pin xs)
  (hs:∀ xs:List Int,xs.length=Zx ps→pre xs→t.sat Γ [] (fun ys=>ys=sem xs) [] xs):(mkP gl fn ps rs pre sem).ok P:=by
 subst ht
 exact Sum.ok_ofL hm hG rfl hsh (fun xs hx hp=>Z3z ho _ [] pin [] xs Z40 (hpre xs hp) (Z6o _ _ _ (hs xs hx hp))) (fun xs _ _=>hl xs)
theorem Sum.okF {P:Program} {Γ:List Sum} (hm:P.follows .mixedOrders=true) (hG:Gok P Γ) {lp:St→Code→Option Zak} {lv:List (Nat × List (Option Iv))} {gl:List (Nat × List Int)} {fuel:Nat} {outs:List Inf} (ho:Zj Γ outs) {fn:FuncId} {ps rs:List Sh} {pin:List (Option Iv)} {sem:List Int→List Int} {t:TX}
  (ht:Z12 (Zr lv outs [] pin (Zq P lp gl Γ fuel fn ps rs))=t)
  (hsh:(ps++rs).all (fun sh=>sh.agg || sh.ks.length == 1)=true)
  (hl:∀ xs:List Int,(sem xs).length=Zx rs)
  (hs:∀ xs:List Int,xs.length=Zx ps→Z17 pin xs→t.sat Γ [] (fun ys=>ys=sem xs) [] xs):(mkS gl fn ps rs pin sem).ok P :=
 Sum.okPL hm hG ho (pre:=Z17 pin) ht hsh hl (fun _ h=>h) hs
theorem Sum.okPF {P:Program} {Γ:List Sum} (hm:P.follows .mixedOrders=true) (hG:Gok P Γ) {lp:St→Code→Option Zak} {lv:List (Nat × List (Option Iv))} {gl:List (Nat × List Int)} {fuel:Nat} {outs:List Inf} (ho:Zj Γ outs) {fn:FuncId} {ps rs:List Sh} {pin:List (Option Iv)} {pre:List Int→Prop} {sem:List Int→List Int} {t:TX}
  (ht:Z12 (Zr lv outs [] pin (Zq P lp gl Γ fuel fn ps rs))=t)
  (hsh:(ps++rs).all (fun sh=>sh.agg || sh.ks.length == 1)=true)
  (hl:∀ xs:List Int,(sem xs).length=Zx rs)
  (hpre:∀ xs,pre xs→Z17 pin xs)
  (hs:∀ xs:List Int,xs.length=Zx ps→pre xs→t.sat Γ [] (fun ys=>ys=sem xs) [] xs):(mkP gl fn ps rs pre sem).ok P :=
 Sum.okPL hm hG ho ht hsh hl hpre hs
theorem lawFL {P:Program} {Γ:List Sum} (hm:P.follows .mixedOrders=true) (hG:Gok P Γ) {lp:St→Code→Option Zak} {lv:List (Nat × List (Option Iv))} {gl:List (Nat × List Int)} {fuel:Nat} {fn:FuncId} {ps:List Sh} {outs:List Inf} {vs:List (Option Iv)} {t:TX} (ho:Zj Γ outs)
  (ht:Z12 (Zr lv outs [] vs (Zq P lp gl Γ fuel fn ps [Bo]))=t) {xs:List Int} {us:List Value} (w:World) (hx:Zaj (fun _ ks u n=>SlN w ks u n) ps us xs)
  (hv:Z17 vs xs) (hs:t.sat Γ [] (fun ys=>ys=[1]) [] xs) (hgl:Zoa gl w) :
  Calls P fn us.toArray w fun e w'=>e=.returned (.bool true)∧Below w.heap.size w w':=by
 subst ht
 exact Z13p hm hG rfl w hx (Z3z ho _ [] vs [] xs Z40 hv (Z6o _ _ _ hs)) hgl
end Go.Sx
namespace Go.Sx
open Go.RowKit
def Z5f:Code→List Oper
 | .region _ ops _=>ops.toList
 | .seq a b=>Z5f a++Z5f b
 | .cond _ a b=>Z5f a++Z5f b
 | .block _ a=>Z5f a
 | .loop a=>Z5f a
 | .scope a=>Z5f a
 | _=>[]
def Zmd:Code→Nat × Nat
 | .region id ops _=>(id,((ops[0]?).bind (·.dst)).getD 0)
 | .seq a _=>Zmd a
 | .block _ a=>Zmd a
 | _=>(1000000,0)
def Za1 (l:List Oper) (t:Tmp):Option Oper:=l.find? fun o=>decide (o.dst=some t)
def Zt1 (l:List Oper):Nat→Tmp→Option TypeId
 | 0,_=>none
 | f + 1,t=>match Za1 l t with
  | some o=>(match o.op with
   | .move (.tmp u)=>Zt1 l f u
   | .assign (.tmp u)=>Zt1 l f u
   | .slice ty _ _ _ _=>some ty
   | .call c=>(match c.callee with
    | .builtin .append=>c.argTypes[0]?
    | _=>none)
   | _=>none)
  | none=>none
def Zkv (l:List Oper) (s:St):Nat→Tmp→Option Nat
 | 0,_=>none
 | f + 1,t=>match Za1 l t with
  | none=>(match s.fr.getD t Z6 with
   | .w (.o (.p n _))=>some n
   | _=>none)
  | some o=>(match o.op with
   | .fieldAddr _ (.tmp u) _=>Zkv l s f u
   | .indexAddr _ (.tmp u) _=>Zkv l s f u
   | .nilCheck (.tmp u)=>Zkv l s f u
   | .move (.tmp u)=>Zkv l s f u
   | _=>none)
def Zme (l:List Oper) (s:St):List Oper→List Nat
 | []=>[]
 | o::r=>match o.op with
  | .store _ (.tmp t) _=>(match Zkv l s 8 t with
   | some n=>n::Zme l s r
   | none=>Zme l s r)
  | _=>Zme l s r
def Z13y (l:List Oper) (s:St):Nat→Tmp→Option Nat
 | 0,_=>none
 | f + 1,t=>match Za1 l t with
  | none=>(match s.fr.getD t Z6 with
   | .w (.o (.go (.o n)))=>some n
   | .w (.o (.gv (.o n) _ _ _))=>some n
   | .w (.o (.gp (.o n) _ _ _))=>some n
   | _=>none)
  | some o=>(match o.op with
   | .fieldAddr _ (.tmp u) _=>Z13y l s f u
   | .indexAddr _ (.tmp u) _=>Z13y l s f u
   | .nilCheck (.tmp u)=>Z13y l s f u
   | .move (.tmp u)=>Z13y l s f u
   | .load _ (.tmp u)=>(match Zkv l s f u with
    | some n=>(match s.mem[n]? with
     | some b=>(match b.cells with
      | .go (.o m)::_=>some m
      | _=>none)
     | none=>none)
    | none=>none)
   | _=>none)
def Z5g (l:List Oper) (s:St):List Oper→List Nat
 | []=>[]
 | o::r=>match o.op with
  | .store _ (.tmp t) _=>(match Z13y l s 8 t with
   | some n=>n::Z5g l s r
   | none=>Z5g l s r)
  | _=>Z5g l s r
def Z7j (s:St) (ty:Option (TypeId × List K)):SC→Ck
 | .i k _=>.num (.i k)
 | .b _=>.num .b
 | .go (.o n)=>(match s.rows[n]? with
  | some b=>.row b.ty b.ks
  | none=>.keep)
 | .gv (.o n) _ _ _=>(match s.rows[n]? with
  | some b=>.row b.ty b.ks
  | none=>.keep)
 | .l (.slice none 0 0)=>(match ty with
  | some t=>.row t.1 t.2
  | none=>.keep)
 | _=>.keep
def Z1fh:SC→Bool
 | .i _ _=>true
 | .b _=>true
 | .go (.o _)=>true
 | .gv (.o _) _ _ _=>true
 | .l (.slice none 0 0)=>true
 | _=>false
def tyOf (P:Program) (l:List Oper) (t:Tmp):Option (TypeId × List K):=match Zt1 l 8 t with
 | some ty=>(match P.underlying ty with
  | some (.slice e)=>(Z1ab P 8 e).map fun ks=>(e,ks)
  | _=>none)
 | none=>none
def Z1b4 (l:List Oper) (t:Tmp):Bool:=l.any fun o=>o.op.operands.toList.any fun x=>match x with
 | .tmp u=>u == t
 | _=>false
def Z1b5 (P:Program) (l:List Oper) (s:St) (rw:List Nat) (t:Tmp) (v:SV):Sk :=
 if (Za1 l t).isNone then (match v with
  | .w (.o (.go (.o n)))=>if rw.contains n then (if Z1b4 l t then .cells [Z7j s none (.go (.o n))] else .un) else .keep
  | .w (.o (.gp (.o n) _ (.c 0) 0))=>if rw.contains n then (match s.rows[n]? with
   | some b=>.cells [.arr b.ty b.ks]
   | none=>.keep) else .keep
  | _=>if v.same v then .keep else .un) else
 match v with
 | .w (.o c)=>if Z1fh c then (match Z7j s (tyOf P l t) c with
  | .keep=>.un
  | p=>.cells [p]) else .un
 | .w (.a cs)=>if cs.all Z1fh then .cells (cs.map (Z7j s none)) else .un
 | _=>.un
def Z13z (P:Program) (l:List Oper) (s:St) (rw:List Nat):Nat→List SV→List Sk
 | _,[]=>[]
 | t,v::vs=>Z1b5 P l s rw t v::Z13z P l s rw (t + 1) vs
def Z140 (s:St) (rw ws:List Nat):Nat→List Blk→List (List Ck)
 | _,[]=>[]
 | n,b::bs=>(if ws.contains n then b.cells.map (Z7j s none) else b.cells.map fun c=>match c with
  | .go (.o m)=>if rw.contains m then Z7j s none c else Ck.keep
  | _=>Ck.keep)::Z140 s rw ws (n + 1) bs
def Z1b6 (P:Program) (s:St) (body:Code):Zak :=
 let l:=Z5f body
 let rw:=Z5g l s l
 ⟨Z13z P l s rw 0 s.fr,Z140 s rw (Zme l s l) 0 s.mem⟩
def Z5u (P:Program) (ks:List (Nat × Nat)):St→Code→Option Zak:=fun s body =>
 if ks.contains (Zmd body) then some (Z1b6 P s body) else none
end Go.Sx
namespace Go.Proofs.YtgcoidbaoigkeaaGreatDoor.fix
open Go.RowKit Go.Sx
def gl0:List (Nat × List Int):=[(0,[-4096,-4096,-4096,4096,4096,4096])]
def zz:Option Iv:=some i64v
def zs (n:Nat):List (Option Iv):=List.replicate n zz
def iv (a b:Int):Option Iv:=some ⟨a,b⟩
def ivs (n:Nat) (a b:Int):List (Option Iv):=List.replicate n (iv a b)
def pos:Option Iv:=iv 1 9223372036854775807
def Z1b7:Option Iv→Option Iv
 | some v=>some ⟨min v.lo 0,max v.hi 0⟩
 | none=>none
def ex3 (l:List Int):List Int:=[l.getD 0 0,l.getD 1 0,l.getD 2 0]
def ex4 (l:List Int):List Int:=[l.getD 0 0,l.getD 1 0,l.getD 2 0,l.getD 3 0]
def ex5 (l:List Int):List Int:=[l.getD 0 0,l.getD 1 0,l.getD 2 0,l.getD 3 0,l.getD 4 0]
def ex6 (l:List Int):List Int:=[l.getD 0 0,l.getD 1 0,l.getD 2 0,l.getD 3 0,l.getD 4 0,l.getD 5 0]
def ex7 (l:List Int):List Int:=[l.getD 0 0,l.getD 1 0,l.getD 2 0,l.getD 3 0,l.getD 4 0,l.getD 5 0,l.getD 6 0]
def Zfx (l:List Int):List Int:=[l.getD 0 0,l.getD 1 0,l.getD 2 0,l.getD 3 0,l.getD 4 0,l.getD 5 0,l.getD 6 0,l.getD 7 0,l.getD 8 0,l.getD 9 0,l.getD 10 0,l.getD 11 0,l.getD 12 0]
def Zam (l:List Int):List Int:=[l.getD 0 0,l.getD 1 0,l.getD 2 0,l.getD 3 0,l.getD 4 0,l.getD 5 0,l.getD 6 0,l.getD 7 0,l.getD 8 0,l.getD 9 0,l.getD 10 0,l.getD 11 0,l.getD 12 0,l.getD 13 0,l.getD 14 0,l.getD 15 0]
def er (b:Bool) (e:Int):Int:=if b=true then 0 else e
def b01 (b:Bool):Int:=if b=true then 1 else 0
def Zia:List (Option Iv):=[zz,pos]
def Z1f (x:List Int):List Int:=[x.getD 0 0 / x.getD 1 0,0]
def Z141 (v:List (Option Iv)):List (Option Iv):=[Z1b7 (v.getD 0 none),iv 0 0]
def Z1l:Sum:=mkS gl0 96 [I1,I1] [I1,I1] Zia Z1f
def Z8x:Inf:=⟨Zia,Z141⟩
def scB (x:List Int):List Int:=[min (x.getD 2 0 * x.getD 0 0) (x.getD 2 0 * x.getD 1 0),max (x.getD 2 0 * x.getD 0 0) (x.getD 2 0 * x.getD 1 0),0]
def Zb8:=ivs 2 (-32768) 32768++[iv (-1024) 1024]
def Zib (x:List Int):Prop:=Z17 Zb8 x∧x.getD 0 0≤x.getD 1 0
def Zb9 (x:List Int):List Int:=scB x
def Zt2 (v:List (Option Iv)):List (Option Iv):=ivs 2 (-33554432) 33554432++[iv 0 0]
def Zcc:Sum:=mkP gl0 127 [An 2,I1] [An 2,I1] Zib Zb9
def Zpy:Inf:=⟨[some ⟨1,0⟩],Zt2⟩
def Zic:=ivs 4 (-1073741824) 1073741824
def Zpz (x:List Int):Prop:=Z17 Zic x∧x.getD 0 0≤x.getD 1 0∧x.getD 2 0≤x.getD 3 0
def Zid (x:List Int):List Int:=[x.getD 0 0 + x.getD 2 0,x.getD 1 0 + x.getD 3 0,0]
def Z142 (v:List (Option Iv)):List (Option Iv):=ivs 2 (-2147483648) 2147483648++[iv 0 0]
def Zmf:Sum:=mkP gl0 128 [An 2,An 2] [An 2,I1] Zpz Zid
def Z143:Inf:=⟨[some ⟨1,0⟩],Z142⟩
def Zie:=ivs 2 (-1073741824) 1073741824++[iv 256 256]
def Zq0 (x:List Int):Prop:=Z17 Zie x∧x.getD 0 0≤x.getD 1 0
def Zif (x:List Int):List Int:=[x.getD 0 0 / 256,x.getD 1 0 / 256,0]
def Z144 (v:List (Option Iv)):List (Option Iv):=ivs 2 (-4194304) 4194304++[iv 0 0]
def Zmg:Sum:=mkP gl0 129 [An 2,I1] [An 2,I1] Zq0 Zif
def Z145:Inf:=⟨[some ⟨1,0⟩],Z144⟩
def Zmh:List (Option Iv):=[zz,pos]
def Zmi (x:List Int):List Int:=[up (x.getD 0 0) (x.getD 1 0),0]
def Z1b8 (v:List (Option Iv)):List (Option Iv):=[Z1b7 (v.getD 0 none),iv 0 0]
def Zw5:Sum:=mkS gl0 130 [I1,I1] [I1,I1] Zmh Zmi
def Z1fi:Inf:=⟨Zmh,Z1b8⟩
def Zju (m:Int) (x:List Int) (o:Nat):Bool:=decide ((-m≤x.getD o 0∧x.getD o 0≤m)∧(-m≤x.getD (o + 1) 0∧x.getD (o + 1) 0≤m)∧(-m≤x.getD (o + 2) 0∧x.getD (o + 2) 0≤m))
def Z35 (m:Int) (x:List Int) (o:Nat):Bool:=Zju m x o && (Zju m x (o + 3) && Zju m x (o + 6))
def dot (x:List Int) (o p:Nat):Int:=x.getD o 0 * x.getD p 0 + x.getD (o + 1) 0 * x.getD (p + 1) 0 + x.getD (o + 2) 0 * x.getD (p + 2) 0
def Z1b9 (v:List (Option Iv)) (o p:Nat):Option Iv:=Zzu (Zzu (Zsx (v.getD o none) (v.getD p none)) (Zsx (v.getD (o + 1) none) (v.getD (p + 1) none))) (Zsx (v.getD (o + 2) none) (v.getD (p + 2) none))
def Z1ba (k:Int):Option Iv→Option Iv
 | some v=>some ⟨v.lo / k,v.hi / k⟩
 | none=>none
def Zdw (x:List Int):List Int:=[er (Zju 4096 x 0) 20]
def Zdx:=zs 3
def Zzy (v:List (Option Iv)):List (Option Iv):=[iv 0 20]
def Zfy:Sum:=mkS gl0 52 [An 3] [I1] Zdx Zdw
def Zw6:Inf:=⟨Zdx,Zzy⟩
def Z8y (x:List Int):List Int:=[dot x 0 9 / 256,dot x 3 9 / 256,dot x 6 9 / 256]
def Zig:=ivs 9 (-1024) 1024++ivs 3 (-32768) 32768
def Z146 (v:List (Option Iv)):List (Option Iv):=[Z1ba 256 (Z1b9 v 0 9),Z1ba 256 (Z1b9 v 3 9),Z1ba 256 (Z1b9 v 6 9)]
def Zdy:Sum:=mkS gl0 193 [An 9,An 3] [An 3] Zig Z8y
def Z147:Inf:=⟨Zig,Z146⟩
def Z72 (x:List Int) (o:Nat):Bool:=Zju 32768 x o && (Zju 32768 x (o + 3) && decide (x.getD o 0≤x.getD (o + 3) 0∧x.getD (o + 1) 0≤x.getD (o + 4) 0∧x.getD (o + 2) 0≤x.getD (o + 5) 0))
def Z2s (x:List Int):List Int:=[er (Z72 x 0) 8]
def Zdz:=zs 6
def Zzz (v:List (Option Iv)):List (Option Iv):=[iv 0 8]
def Z32:Sum:=mkS gl0 64 [An 6] [I1] Zdz Z2s
def Zcd:Inf:=⟨Zdz,Zzz⟩
def z7 (e:Int):List Int:=[0,0,0,0,0,0,e]
def Z65 (x:List Int):Bool:=decide ((x.getD 6 0≤x.getD 0 0∧x.getD 7 0≤x.getD 1 0∧x.getD 8 0≤x.getD 2 0)∧(x.getD 3 0≤x.getD 9 0∧x.getD 4 0≤x.getD 10 0∧x.getD 5 0≤x.getD 11 0))
def Z6r (x:List Int):List Int:=[b01 (Z65 x)]
def Ze0:=zs 12
def Z100 (v:List (Option Iv)):List (Option Iv):=[iv 0 1]
def Zce:Sum:=mkS gl0 85 [An 6,An 6] [Bo] Ze0 Z6r
def Zw7:Inf:=⟨Ze0,Z100⟩
def Z1hl (x:List Int) (i:Nat):Int:=(min (x.getD i 0 * x.getD 9 0) (x.getD i 0 * x.getD 12 0) + min (x.getD (i + 1) 0 * x.getD 10 0) (x.getD (i + 1) 0 * x.getD 13 0) + min (x.getD (i + 2) 0 * x.getD 11 0) (x.getD (i + 2) 0 * x.getD 14 0)) / 256
def Zt3 (x:List Int) (i:Nat):Int:=(max (x.getD i 0 * x.getD 9 0) (x.getD i 0 * x.getD 12 0) + max (x.getD (i + 1) 0 * x.getD 10 0) (x.getD (i + 1) 0 * x.getD 13 0) + max (x.getD (i + 2) 0 * x.getD 11 0) (x.getD (i + 2) 0 * x.getD 14 0)) / 256
def Zo (x:List Int):List Int:=[Z1hl x 0,Z1hl x 3,Z1hl x 6,Zt3 x 0,Zt3 x 3,Zt3 x 6,0]
def Z8z (x:List Int):List Int:=if Z35 1024 x 0=true then if Z72 x 9=true then if Z72 (Zo x) 0=true then Zo x else z7 20 else z7 8 else z7 2
def Z5h (x:List Int):List Int:=ex7 (Z8z x)
def Zba:=zs 15
def Zt4 (v:List (Option Iv)):List (Option Iv):=ivs 6 (-32768) 32768++[iv 0 20]
def Zcf:Sum:=mkS gl0 86 [An 9,An 6] [An 6,I1] Zba Z5h
def Zq1:Inf:=⟨Zba,Zt4⟩
def lensB (x:List Int) (o:Nat):Bool:=decide ((1≤x.getD o 0∧x.getD o 0≤64)∧(256≤x.getD (o + 1) 0∧x.getD (o + 1) 0≤4096)∧(1≤x.getD (o + 2) 0∧x.getD (o + 2) 0≤64)∧(1≤x.getD (o + 3) 0∧x.getD (o + 3) 0≤64))
def Z2o (x:List Int) (o:Nat):Bool:=Zju 4096 x o && (Z35 256 x (o + 3) && lensB x (o + 12))
def Z41 (x:List Int):List Int:=[er (Z2o x 0) 150]
def Ze1:=zs 16
def Z101 (v:List (Option Iv)):List (Option Iv):=[iv 0 150]
def Z4t:Sum:=mkS gl0 29 [An 16] [I1] Ze1 Z41
def Zfz:Inf:=⟨Ze1,Z101⟩
def Zt5 (x:List Int) (o p q:Nat):Int:=x.getD o 0 * (x.getD p 0 - x.getD q 0) + x.getD (o + 1) 0 * (x.getD (p + 1) 0 - x.getD (q + 1) 0) + x.getD (o + 2) 0 * (x.getD (p + 2) 0 - x.getD (q + 2) 0)
def Z89 (x:List Int):List Int:=if Z2o x 0=true then if Zju 4096 x 16=true then [Zt5 x 3 16 0 / 256,Zt5 x 6 16 0 / 256,Zt5 x 9 16 0 / 256,0] else [0,0,0,20] else [0,0,0,150]
def Zg0 (x:List Int):List Int:=ex4 (Z89 x)
def Zg1:=zs 19
def Zw8 (v:List (Option Iv)):List (Option Iv):=ivs 3 (-24576) 24576++[iv 0 150]
def Zkw:Sum:=mkS gl0 122 [An 16,An 3] [An 3,I1] Zg1 Zg0
def Z1fj:Inf:=⟨Zg1,Zw8⟩
def Z1hm (x:List Int) (o w h:Nat):Bool:=decide ((0≤x.getD o 0∧x.getD o 0≤x.getD (o + 2) 0∧x.getD (o + 2) 0 < x.getD w 0)∧(0≤x.getD (o + 1) 0∧x.getD (o + 1) 0≤x.getD (o + 3) 0∧x.getD (o + 3) 0 < x.getD h 0))
def Z20 (x:List Int):Int:=if Z2o x 0=true then if Z1hm x 16 14 15=true then 0 else 2 else 150
def Z42 (x:List Int):List Int:=[Z20 x]
def Ze2:=zs 20
def Z102 (v:List (Option Iv)):List (Option Iv):=[iv 0 150]
def Z7k:Sum:=mkS gl0 10 [An 16,An 4] [I1] Ze2 Z42
def Zmj:Inf:=⟨Ze2,Z102⟩
def Z2z (x:List Int) (o:Nat):Bool:=Zju 4096 x o && (Zju 4096 x (o + 3) && decide (x.getD o 0≤x.getD (o + 3) 0∧x.getD (o + 1) 0≤x.getD (o + 4) 0∧x.getD (o + 2) 0≤x.getD (o + 5) 0))
def Z1hn:List (Option Iv):=[iv 8 512,iv 4 256,iv 256 32768,iv 256 32768]
def Z4y (x:List Int):List Int:=[x.getD 0 0 * x.getD 4 0 / (if (0≤x.getD 4 0↔x.getD 5 0 ≠ 0) then x.getD 2 0 else x.getD 3 0)]
def Za2:=Z1hn++[iv (-32768) 32768,iv 0 1]
def Z103 (v:List (Option Iv)):List (Option Iv):=[iv (-65536) 65536]
def Zg2:Sum:=mkS gl0 89 [An 4,I1,Bo] [I1] Za2 Z4y
def Zw9:Inf:=⟨Za2,Z103⟩
def Zmk (x:List Int):List Int:=[max (up (x.getD 4 0 - 4) 8) (x.getD 6 0),min ((x.getD 5 0 - 4) / 8) (x.getD 7 0),b01 (decide (max (up (x.getD 4 0 - 4) 8) (x.getD 6 0)≤min ((x.getD 5 0 - 4) / 8) (x.getD 7 0)))]
def Zg3:=zs 4++ivs 2 (-1048576) 1048576++zs 2
def Z1bb (v:List (Option Iv)):List (Option Iv):=[zz,zz,iv 0 1]
def Zwa:Sum:=mkS gl0 88 [An 4,I1,I1,I1,I1] [I1,I1,Bo] Zg3 Zmk
def Z1fk:Inf:=⟨Zg3,Z1bb⟩
def Z28 (x:List Int):List Int:=[x.getD 3 0,x.getD 4 0,x.getD 5 0,x.getD 6 0,x.getD 7 0,x.getD 8 0,x.getD 9 0,x.getD 10 0,x.getD 11 0,x.getD 16 0 - x.getD 0 0,x.getD 17 0 - x.getD 1 0,x.getD 18 0 - x.getD 2 0,x.getD 19 0 - x.getD 0 0,x.getD 20 0 - x.getD 1 0,x.getD 21 0 - x.getD 2 0]
def Zcg (x:List Int):List Int:=if Z2o x 0=true then if Z2z x 16=true then Zo (Z28 x) else z7 8 else z7 150
def Z3i (x:List Int):List Int:=ex7 (Zcg x)
def Zih:=zs 22
def Z148 (v:List (Option Iv)):List (Option Iv):=ivs 6 (-24576) 24576++[iv 0 150]
def Z7l:Sum:=mkS gl0 53 [An 16,An 6] [An 6,I1] Zih Z3i
def Zt6:Inf:=⟨Zih,Z148⟩
def vw (x:List Int) (i:Nat):Int:=(Zo (Z28 x)).getD i 0
def Z13 (x:List Int):Int:=max (vw x 2) (x.getD 13 0)
def Z4n (x:List Int):Int:=vw x 5
def Zii (f a b n:Int):Int:=8 * f * n / (if 0≤n then b else a)
def Zij (f a b n:Int):Int:=8 * f * n / (if 0≤n then a else b)
def Z90 (x:List Int):Int:=Zii (x.getD 12 0) (Z13 x) (Z4n x) (vw x 0) + 4 * x.getD 14 0
def Z5i (x:List Int):Int:=Zij (x.getD 12 0) (Z13 x) (Z4n x) (vw x 3) + 4 * x.getD 14 0
def Zt7 (x:List Int):Int:=4 * x.getD 15 0 - Zij (x.getD 12 0) (Z13 x) (Z4n x) (vw x 4)
def Zt8 (x:List Int):Int:=4 * x.getD 15 0 - Zii (x.getD 12 0) (Z13 x) (Z4n x) (vw x 1)
def Zt9 (x:List Int):Int:=max (up (Z90 x - 4) 8) (x.getD 22 0)
def Zta (x:List Int):Int:=max (up (Zt7 x - 4) 8) (x.getD 23 0)
def Ztb (x:List Int):Int:=min ((Z5i x - 4) / 8) (x.getD 24 0)
def Ztc (x:List Int):Int:=min ((Zt8 x - 4) / 8) (x.getD 25 0)
def winC (x:List Int):Bool:=Z1hm x 22 14 15
def Z6s (x:List Int):Bool:=decide (Z13 x≤Z4n x∧Zt9 x≤Ztb x∧Zta x≤Ztc x)
def Ze3 (x:List Int):List Int:=[Zt9 x,Zta x,Ztb x,Ztc x,16777216 / Z13 x,1,0]
def Z2h (x:List Int):List Int:=if Z2o x 0=true then if Z2z x 16=true then if winC x=true then if Z6s x=true then Ze3 x else z7 0 else z7 2 else z7 8 else z7 150
def Z4z (x:List Int):List Int:=ex7 (Z2h x)
def Ze4:=zs 26
def Z104 (v:List (Option Iv)):List (Option Iv):=ivs 4 0 63++[iv 0 65536,iv 0 1,iv 0 150]
def Zg4:Sum:=mkS gl0 54 [An 16,An 6,An 4] [An 5,Bo,I1] Ze4 Z4z
def Zwb:Inf:=⟨Ze4,Z104⟩
end Go.Proofs.YtgcoidbaoigkeaaGreatDoor.fix
namespace Go.Proofs.YtgcoidbaoigkeaaGreatDoor.fix
open Go.RowKit Go.ChangeShapes Go.WideShapes Go.Sx
theorem gl2 {α:Type} {l:List α} (h:l.length=2):∃ a b,l=[a,b]:=by
 match l,h with
 | [a,b],_=>exact ⟨a,b,rfl⟩
theorem gl3 {α:Type} {l:List α} (h:l.length=3):∃ a b c,l=[a,b,c]:=by
 match l,h with
 | [a,b,c],_=>exact ⟨a,b,c,rfl⟩
theorem gl6 {α:Type} {l:List α} (h:l.length=6):∃ a b c d e f,l=[a,b,c,d,e,f]:=by
 match l,h with
 | [a,b,c,d,e,f],_=>exact ⟨a,b,c,d,e,f,rfl⟩
theorem gName:Tryz.prog.globalNamed "diorama/frustum.world"=some 0:=by kernel_rfl
theorem gType:(Tryz.prog.globals[0]?).map (·.type)=some 75:=by kernel_rfl
theorem Z1bc:Tryz.prog.cellsOf 75=6:=by kernel_rfl
theorem Zwc:Tryz.prog.cellsOf 27=3:=by kernel_rfl
theorem Z1bd:Tryz.prog.cellsOf 3=1:=by kernel_rfl
theorem Zik {H:Type} {enc:TypeId × Value→H} {W:World} {base:Nat} {sp:Nat→Bool} {held:Bool} {fuel:Nat} {cs:List Value} {x:DataW H × List MemPlace}
  (h:DataW.trod enc Tryz.prog W base sp held fuel 27 cs=some x):∃ a b c,cs=[.int .i64 a,.int .i64 b,.int .i64 c]∧x.1=.agg [.lit (.int .i64 a),.lit (.int .i64 b),.lit (.int .i64 c)]:=by
 obtain ⟨xs,n,rfl,rfl,hcl,hxl,hf⟩:=DataW.trod_struct Tryz.underlying27 h
 rw [Zwc] at hcl
 obtain ⟨c0,c1,c2,rfl⟩:=gl3 hcl
 obtain ⟨x0,x1,x2,rfl⟩:=gl3 (show xs.length=3 from hxl)
 have h0:DataW.trod enc Tryz.prog W base sp held n 3 (([c0,c1,c2].drop 0).take (Tryz.prog.cellsOf 3))=some x0:=hf 0 _ rfl
 have h1:DataW.trod enc Tryz.prog W base sp held n 3 (([c0,c1,c2].drop 1).take (Tryz.prog.cellsOf 3))=some x1:=hf 1 _ rfl
 have h2:DataW.trod enc Tryz.prog W base sp held n 3 (([c0,c1,c2].drop 2).take (Tryz.prog.cellsOf 3))=some x2:=hf 2 _ rfl
 simp only [Z1bd,List.drop_zero,List.drop_succ_cons,List.take_succ_cons,List.take_zero,Z1ke,Z1kf] at h0 h1 h2
 obtain ⟨n0,e0,y0,_⟩:=DataW.trod_int Tryz.underlying3 h0
 obtain ⟨n1,e1,y1,_⟩:=DataW.trod_int Tryz.underlying3 h1
 obtain ⟨n2,e2,y2,_⟩:=DataW.trod_int Tryz.underlying3 h2
 simp only [List.cons.injEq,and_true] at e0 e1 e2
 subst e0 e1 e2 y0 y1 y2
 exact ⟨n0,n1,n2,rfl,rfl⟩
def Z91:Array Value:=#[.int .i64 (-4096),.int .i64 (-4096),.int .i64 (-4096),.int .i64 4096,.int .i64 4096,.int .i64 4096]
theorem Zml {W:World} (h:laidMet Tryz.prog [("diorama/frustum.world",Rows.laid_diorama_frustum_world)] W):W.var? Tryz.prog "diorama/frustum.world"=some Z91:=by
 obtain ⟨ps,⟨g,t,cs,fuel,p,q,hg,ht,hvar,hd,_,_⟩,_⟩:=h
 obtain rfl:=Option.some.inj (gName.symm.trans hg)
 obtain rfl:=Option.some.inj (gType.symm.trans ht)
 rw [hvar]
 congr 1
 obtain ⟨l⟩:=cs
 obtain ⟨xs,n,rfl,hx,hcl,hxl,hf⟩:=DataW.trod_struct Tryz.underlying75 hd
 rw [Z1bc] at hcl
 obtain ⟨c0,c1,c2,c3,c4,c5,rfl⟩:=gl6 (show l.length=6 from hcl)
 obtain ⟨x0,x1,rfl⟩:=gl2 (show xs.length=2 from hxl)
 have h0:DataW.trod (fun _=>()) Tryz.prog W 0 (fun _=>true) false n 27 (([c0,c1,c2,c3,c4,c5].drop 0).take (Tryz.prog.cellsOf 27))=some x0:=hf 0 _ rfl
 have h1:DataW.trod (fun _=>()) Tryz.prog W 0 (fun _=>true) false n 27 (([c0,c1,c2,c3,c4,c5].drop 3).take (Tryz.prog.cellsOf 27))=some x1:=hf 1 _ rfl
 simp only [Zwc,List.drop_zero,List.drop_succ_cons,List.take_succ_cons,List.take_zero,Z1ke,Z1kf] at h0 h1
 obtain ⟨m0,m1,m2,e0,y0⟩:=Zik h0
 obtain ⟨m3,m4,m5,e1,y1⟩:=Zik h1
 simp only [Prod.mk.injEq,Rows.laid_diorama_frustum_world,Z1kk,Z1kl,y0,y1,DataW.agg.injEq,List.cons.injEq,DataW.lit.injEq,Lit.int.injEq,and_true,true_and] at hx
 obtain ⟨⟨⟨f0,f1,f2⟩,f3,f4,f5⟩,_⟩:=hx
 simp only [List.cons.injEq,and_true] at e0 e1
 obtain ⟨rfl,rfl,rfl⟩:=e0
 obtain ⟨rfl,rfl,rfl⟩:=e1
 subst f0 f1 f2 f3 f4 f5
 rfl
theorem Zq2 {W:World} (h:laidMet Tryz.prog [("diorama/frustum.world",Rows.laid_diorama_frustum_world)] W):Zoa gl0 W:=by
 intro p hp j n hj
 simp only [gl0,List.mem_singleton] at hp
 subst hp
 have:=World.var?_cell gName (Zml h) j
 rw [this]
 match j,hj with
 | 0,hj=>simp at hj; subst hj; rfl
 | 1,hj=>simp at hj; subst hj; rfl
 | 2,hj=>simp at hj; subst hj; rfl
 | 3,hj=>simp at hj; subst hj; rfl
 | 4,hj=>simp at hj; subst hj; rfl
 | 5,hj=>simp at hj; subst hj; rfl
 | j + 6,hj=>simp at hj
set_option maxRecDepth 100000
noncomputable def Zil (os:Os):World :=
 { World.holding Tryz.prog os ⟨#[],#[],[]⟩ with heap:=(World.holding Tryz.prog os ⟨#[],#[],[]⟩).heap.modify 0 fun
   | .cells _ t frozen=>.cells Z91 t frozen
   | o=>o }
theorem Zch (os:Os) (args:Array Value):((Zil os).forCall (fun _ _=>0) ⟨#[],args,[]⟩).memory.heap[0]?=some (.cells Z91 75 (0,0)):=by kernel_rfl
theorem Zmm (os:Os) (args:Array Value):laidMet Tryz.prog [("diorama/frustum.world",Rows.laid_diorama_frustum_world)] ((Zil os).forCall (fun _ _=>0) ⟨#[],args,[]⟩).memory :=
 ⟨_,⟨0,75,Z91,8,[],[],by kernel_rfl,by kernel_rfl,by kernel_rfl,by kernel_rfl,rfl,rfl⟩,by decide,fun b off h=>by
  have h':MemPlace.cell b off ∈ [MemPlace.cell 0 0,.cell 0 1,.cell 0 2,.cell 0 3,.cell 0 4,.cell 0 5]:=h
  have hb:b=0:=by
   simp at h'
   omega
  subst hb
  refine ⟨⟨_,_,Zch os args⟩,fun u v hc=>?_⟩
  simp only [World.cell?,Zch os args] at hc
  simp at h'
  rcases h' with rfl | rfl | rfl | rfl | rfl | rfl <;> simp [Z91] at hc⟩
end Go.Proofs.YtgcoidbaoigkeaaGreatDoor.fix
namespace Go.Proofs.YtgcoidbaoigkeaaGreatDoor.fix
open Go.RowKit Go.Sx
def Z3d:List K:=[.i .i64,.i .i64,.i .i64,.i .i64,.i .i64,.i .i64]
def Bs:Sh:=⟨false,[.s 75 [.i .i64,.i .i64,.i .i64,.i .i64,.i .i64,.i .i64]]⟩
def Is:Sh:=⟨false,[.s 3 [.i .i64]]⟩
noncomputable def co (x:Int) (j:Nat):Int:=(dec x).getD j 0
noncomputable def Z3j (b:Int):List Int:=[co b 0,co b 1,co b 2,co b 3,co b 4,co b 5]
noncomputable def okB (b:Int):Bool:=Z2z (Z3j b) 0
noncomputable def Z80 (l x:List Int):Int:=if l.length≤256 then (if l.all okB=true then Z20 x else 8) else 4
noncomputable def Ze5 (x:List Int):List Int:=[Z80 (dec (x.getD 0 0)) (x.drop 1)]
def Ze6:List (Option Iv):=[none]++zs 20
def Zkx (x:List Int):Prop:=Z17 Ze6 x∧∀ b ∈ dec (x.getD 0 0),Z9 Z3d (dec b)
def Z105 (v:List (Option Iv)):List (Option Iv):=[iv 0 150]
noncomputable def Zg5:Sum:=mkP gl0 31 [Bs,An 16,An 4] [I1] Zkx Ze5
def Zwd:Inf:=⟨[some ⟨1,0⟩],Z105⟩
noncomputable def Z1be (b:Int) (x:List Int):List Int:=Z2h (x.take 16++(Z3j b++x.drop 16))
noncomputable def Z1s (b:Int) (x:List Int):Bool:=decide ((Z1be b x).getD 5 0 ≠ 0)
noncomputable def Z3k (l x:List Int):Nat→List Int
 | 0=>[]
 | i + 1=>if Z1s (l.getD i 0) x=true then Z3k l x i++[(i:Int)] else Z3k l x i
end Go.Proofs.YtgcoidbaoigkeaaGreatDoor.fix
namespace Go.Sx
open Go.RowKit
def Ztd (e:Env) (s:St) (k:Nat):Prop:=(∃ n b,s.mem[n]?=some b∧b.live=true∧s.fl≤n∧e.β.getD n 0=k)∨∃ n b,s.rows[n]?=some b∧b.live=true∧s.flr≤n∧Z7 ((G.o n).val e)=some k
theorem Za3 {e:Env} {W0:Bas} {s:St} {w:World} (h:Rep e W0 s w) {k:Nat} (hk:Ztd e s k):W0.may k:=by
 rcases hk with ⟨n,b,h1,h2,h3,rfl⟩ | ⟨n,b,h1,h2,h3,h4⟩
 ·exact h.own n b h1 h2 h3
 ·exact h.rown n b h1 h2 h3 k h4
theorem Zt.blk_cells {w:World} {ty:TypeId} {ks:List K} {v:Value} {c:Int} (h:Zt w ty ks v c) {k:Nat} (hk:Z7 v=some k):∃ o,w.heap[k]?=some o∧o.isCells=true:=by
 rcases h with ⟨h1,b,h2⟩ | ⟨h0,h1,h2⟩
 ·rw [h2] at hk; cases b <;> simp [Z7] at hk
 ·rcases h2.2 with ⟨hv,hn⟩ | ⟨g,cap,cur,hv,_,hc,hle,hm,hsz,ht⟩
  ·rw [hv] at hk; cases hk
  ·rw [hv] at hk
   simp only [Z7] at hk
   split at hk
   ·cases hk
   ·simp only [Option.some.injEq] at hk
    subst hk
    exact ⟨_,hc,rfl⟩
theorem Zky {e:Env} {W0:Bas} {s:St} {w:World} (h:Rep e W0 s w) {k:Nat} (hk:Ztd e s k):∃ o:Obj,w.heap[k]?=some o∧o.isCells=true:=by
 rcases hk with ⟨n,b,h1,h2,h3,rfl⟩ | ⟨n,b,h1,h2,h3,h4⟩
 ·exact ⟨_,h.blk n b h1 h2,rfl⟩
 ·exact (h.row n b h1 h2).blk_cells h4
theorem Zkz {α:Type} {l:List α} (h:l ≠ []):∃ x,l[0]?=some x:=by
 match l,h with
 | x::_,_=>exact ⟨x,rfl⟩
theorem Rep.rebase {e:Env} {W0:Bas} {s:St} {w:World} (h:Rep e W0 s w):Rep e ⟨w,Ztd e s⟩ s w:=by
 refine ⟨Zv.refl _,h.nb,h.ng,h.nv,h.nx,h.blk,?_,h.sep,h.row,?_,h.rsep,h.brs,⟨h.glw,?_⟩,?_⟩
 ·exact fun n b hb hl hf=>.inr (.inl ⟨n,b,hb,hl,hf,rfl⟩)
 ·exact fun n b hb hl hf k hk=>.inr (.inr ⟨n,b,hb,hl,hf,hk⟩)
 ·intro p hp hne hx
  rcases Za3 h hx with h1 | h1
  ·obtain ⟨x,hx0⟩:=Zkz hne
   have:=World.block_lt_of_cell? _ _ (h.gl.1 p hp 0 x hx0)
   exact absurd this (Nat.not_lt.2 h1)
  ·exact h.gl.2 p hp hne h1
 ·intro i ks c hi
  refine Z76.imp (fun ks v c ha hax=>?_) _ _ _ (h.arg i ks c hi)
  refine ⟨Z53.now ha hax h.below,fun hne k hk hx=>?_⟩
  rcases Za3 h hx with h1 | h1
  ·rcases ha with ⟨_,h2⟩ | ⟨g,off,cap,h2,_,_,_,h5⟩
   ·rw [h2] at hne
    exact hne rfl
   ·obtain ⟨x,hx0⟩:=Zkz hne
    have:=World.block_lt_of_cell? _ _ (h5 0 x hx0)
    rw [h2] at hk
    simp only [Zdi,Option.some.injEq] at hk
    subst hk
    exact absurd this (Nat.not_lt.2 h1)
  ·exact hax hne k hk h1
theorem Rep.turn {e:Env} {W0:Bas} {s:St} {w w':World} (h:Rep e W0 s w) {row:Option Nat} (hg:w.grownBy w' row) (hr:∀ r,row=some r→W0.may r∧∃ o:Obj,w.heap[r]?=some o∧o.isCells=false):Rep e W0 s w':=by
 refine h.grownRow hg (fun k hk=>(hr k hk).1) ?_ ?_
 ·intro n b hb hl hk
  obtain ⟨_,o,ho,hc⟩:=hr _ hk
  rw [h.blk n b hb hl] at ho
  simp only [Option.some.injEq] at ho
  subst ho
  cases hc
 ·intro n b hb hl k hk hk'
  obtain ⟨_,o,ho,hc⟩:=hr _ hk'
  obtain ⟨o',ho',hc'⟩:=(h.row n b hb hl).blk_cells hk
  rw [ho] at ho'
  simp only [Option.some.injEq] at ho'
  subst ho'
  rw [hc] at hc'
  cases hc'
def Z149 (s x:St):Bool:=(List.range s.mem.length).all fun n=>match s.mem[n]?,x.mem[n]? with
 | some b,some c=>!b.live || (c.live && decide (b.ty=c.ty) && Zop b.cells c.cells)
 | _,_=>false
def Zwe (m:Nat) (s x:St):Bool:=(List.range s.rows.length).all fun n=>match s.rows[n]?,x.rows[n]? with
 | some b,some c=>!b.live || (c.live && decide (b.ty=c.ty) && Z2g b.ks c.ks && (decide (n=m) || b.c.same c.c))
 | _,_=>false
theorem Zq3 {s x:St} (h:Z149 s x=true) {n:Nat} {b:Blk} (hb:s.mem[n]?=some b) (hl:b.live=true):∃ c,x.mem[n]?=some c∧c.live=true∧b.ty=c.ty∧b.cells=c.cells:=by
 have h1:=List.all_eq_true.1 h n (by simpa using (List.getElem?_eq_some_iff.1 hb).1)
 rw [hb] at h1
 cases hx:x.mem[n]? with
 | none=>rw [hx] at h1; cases h1
 | some c =>
  rw [hx] at h1
  simp only [hl,Bool.not_true,Bool.false_or,Z1kr,Z1ks] at h1
  exact ⟨c,rfl,h1.1.1,h1.1.2,Zfq h1.2⟩
theorem Zmn {m:Nat} {s x:St} (h:Zwe m s x=true) {n:Nat} {b:Row} (hb:s.rows[n]?=some b) (hl:b.live=true):∃ c,x.rows[n]?=some c∧c.live=true∧b.ty=c.ty∧b.ks=c.ks∧(n=m∨b.c=c.c):=by
 have h1:=List.all_eq_true.1 h n (by simpa using (List.getElem?_eq_some_iff.1 hb).1)
 rw [hb] at h1
 cases hx:x.rows[n]? with
 | none=>rw [hx] at h1; cases h1
 | some c =>
  rw [hx] at h1
  simp only [hl,Bool.not_true,Bool.false_or,Z1kr,Z1ks,Bool.or_eq_true] at h1
  exact ⟨c,rfl,h1.1.1.1,h1.1.1.2,Z1d h1.1.2,h1.2.imp id (fun h=>E.same_eq _ _ h)⟩
def Zry (m:Nat) (s:St):St:=match s.rows[m]? with
 | some b=>{ s with rows:=s.rows.set m { b with c:=.v s.nv },nv:=s.nv + 2,dp:=s.dp + 1 }
 | none=>s
theorem Rep.cut {e ex:Env} {W0:Bas} {s sx:St} {w0 wr w':World} {m:Nat} {bm:Row} {X:Nat→Prop} (h0:Rep e W0 s w0) (hsc:s.sc=true) (hle:Env.le e ex) (hb:Zv W0 wr) (hX:∀ k,X k→W0.may k)
  (hx:Rep ex ⟨wr,X⟩ sx w') (hm:s.rows[m]?=some bm) (hl:bm.live=true)
  (hmem:∀ (n:Nat) (b:Blk),s.mem[n]?=some b→b.live=true→∃ c,sx.mem[n]?=some c∧c.live=true∧b.ty=c.ty∧b.cells=c.cells)
  (hrow:∀ (n:Nat) (b:Row),s.rows[n]?=some b→b.live=true→∃ c,sx.rows[n]?=some c∧c.live=true∧b.ty=c.ty∧b.ks=c.ks∧(n=m∨b.c=c.c)) (i:Int) :
  ∃ bx,sx.rows[m]?=some bx∧Rep { e with r:=e.r++[bx.c.den ex.R ex.r,i] } W0 (Zry m s) w':=by
 obtain ⟨bx,hbx,hblx,hbt,hbk,_⟩:=hrow m bm hm hl
 refine ⟨bx,hbx,?_⟩
 have hgen:Zry m s={ s with rows:=s.rows.set m { bm with c:=.v s.nv },nv:=s.nv + 2,dp:=s.dp + 1 }:=by unfold Zry; rw [hm]
 rw [hgen]
 generalize he2:({ e with r:=e.r++[bx.c.den ex.R ex.r,i] }:Env)=e2
 have hle2:Env.le e e2:=by rw [← he2]; exact ⟨[bx.c.den ex.R ex.r,i],[],[],[],rfl,by simp,by simp,by simp,rfl⟩
 have er:e2.r=e.r++[bx.c.den ex.R ex.r,i]:=by rw [← he2]
 have eβ:e2.β=e.β:=by rw [← he2]
 have eσ:e2.σ=e.σ:=by rw [← he2]
 have eω:e2.ω=e.ω:=by rw [← he2]
 have eR:e2.R=e.R:=by rw [← he2]
 have hsc':=hsc
 simp only [St.sc,Z1kr] at hsc'
 obtain ⟨⟨sf,sm⟩,sr,sh⟩:=hsc'
 rw [← h0.nv,← h0.nb,← h0.ng] at sm
 rw [← h0.nv] at sr sh
 have cden:∀ c:SC,c.sc e.r.length e.β.length e.σ.length=true→c.den e2=c.den ex:=fun c hc=>(SC.den_le hle2 c hc).trans (SC.den_le hle c hc).symm
 have eden:∀ c:E,c.sc e.r.length=true→c.den e2.R e2.r=c.den ex.R ex.r:=fun c hc=>by
  have hle':=hle
  obtain ⟨p,_,_,_,q1,_,_,_,q5⟩:=hle'
  rw [er,q1,E.den_app _ _ _ _ hc,E.den_app _ _ _ _ hc]
  exact E.den_R _ _ _ _
 have gval:∀ n,n < s.rows.length→(G.o n).val e2=(G.o n).val e∧(G.o n).val ex=(G.o n).val e:=fun n hn=>by
  have hgs:(G.o n).sc e.r.length e.σ.length=true:=by simp only [G.sc,Z1ks]; rw [h0.ng]; exact hn
  exact ⟨G.val_le hle2 _ hgs,G.val_le hle _ hgs⟩
 have hβ:∀ n,n < s.mem.length→e.β.getD n 0=ex.β.getD n 0:=fun n hn=>by
  obtain ⟨_,p,_,_,_,q2,_⟩:=hle
  rw [q2,Z15 _ _ _ _ (by rw [h0.nb]; exact hn)]
 have hcases:∀ (n:Nat) (b:Row),(s.rows.set m { bm with c:=.v s.nv })[n]?=some b→(n=m∧b={ bm with c:=.v s.nv })∨(n ≠ m∧s.rows[n]?=some b):=fun n b hn=>by
  rcases Zn hn with ⟨h1,h2,_⟩ | h2
  ·exact .inl ⟨h1,h2⟩
  ·exact .inr h2
 have hmlt:=(List.getElem?_eq_some_iff.1 hm).1
 have hold:∀ (n:Nat) (b:Row),(s.rows.set m { bm with c:=.v s.nv })[n]?=some b→b.live=true→n < s.rows.length∧∃ b0:Row,s.rows[n]?=some b0∧b0.live=true:=fun n b hn hlb=>by
  rcases hcases n b hn with ⟨rfl,rfl⟩ | ⟨_,h2⟩
  ·exact ⟨hmlt,bm,hm,hl⟩
  ·exact ⟨(List.getElem?_eq_some_iff.1 h2).1,b,h2,hlb⟩
 refine ⟨?_,?_,?_,?_,?_,?_,?_,?_,?_,?_,?_,?_,h0.gl,?_⟩
 ·exact hb.trans (c:=⟨wr,X⟩) hx.below (fun k hk=>hk.elim (fun h=>.inl (Nat.le_trans hb.size h)) (hX k))
 ·rw [eβ]; exact h0.nb
 ·rw [eσ,h0.ng]; simp
 ·rw [er]; simp [h0.nv]
 ·rw [eω]; exact h0.nx
 ·intro n b hn hlb
  obtain ⟨c,hc,hlc,hty,hcc⟩:=hmem n b hn hlb
  have hlt:=(List.getElem?_eq_some_iff.1 hn).1
  rw [eβ,hβ n hlt,hty,hcc]
  rw [List.map_congr_left fun z hz=>cden z (List.all_eq_true.1 (List.all_eq_true.1 sm b (List.mem_of_getElem? hn)) z (by rw [hcc]; exact hz))]
  exact hx.blk n c hc hlc
 ·intro n b hn hlb hf
  rw [eβ]
  exact h0.own n b hn hlb hf
 ·intro n k b c hn hk hlb hlc heq
  rw [eβ] at heq
  exact h0.sep n k b c hn hk hlb hlc heq
 ·intro n b hn hlb
  obtain ⟨hlt,b0,hb0,hl0⟩:=hold n b hn hlb
  obtain ⟨c,hc,hlc,hty,hks,hcc⟩:=hrow n b0 hb0 hl0
  have hr:=hx.row n c hc hlc
  rw [(gval n hlt).1,← (gval n hlt).2]
  rcases hcases n b hn with ⟨rfl,rfl⟩ | ⟨hne,h2⟩
  ·rw [hm] at hb0
   simp only [Option.some.injEq] at hb0
   subst hb0
   rw [hbx] at hc
   simp only [Option.some.injEq] at hc
   subst hc
   show Zt w' bm.ty bm.ks _ ((E.v s.nv).den e2.R e2.r)
   rw [hbt,hbk]
   have:(E.v s.nv).den e2.R e2.r=bx.c.den ex.R ex.r:=by
    simp only [E.den]
    rw [er,← h0.nv]
    simp [List.getD]
   rw [this]
   exact hr
  ·rw [h2] at hb0
   simp only [Option.some.injEq] at hb0
   subst hb0
   rcases hcc with hcc | hcc
   ·exact absurd hcc hne
   rw [hty,hks,hcc,eden c.c (by rw [← hcc]; exact List.all_eq_true.1 sr b (List.mem_of_getElem? h2))]
   exact hr
 ·intro n b hn hlb hf k hk
  obtain ⟨hlt,b0,hb0,hl0⟩:=hold n b hn hlb
  rw [(gval n hlt).1] at hk
  exact h0.rown n b0 hb0 hl0 hf k hk
 ·intro n k b c j hn hk hlb hlc h1 h2
  obtain ⟨hlt,b0,hb0,hl0⟩:=hold n b hn hlb
  obtain ⟨hlt',c0,hc0,hl0'⟩:=hold k c hk hlc
  rw [(gval n hlt).1] at h1
  rw [(gval k hlt').1] at h2
  exact h0.rsep n k b0 c0 j hb0 hc0 hl0 hl0' h1 h2
 ·intro n k b c hn hk hlb hlc
  obtain ⟨hlt',c0,hc0,hl0'⟩:=hold k c hk hlc
  rw [(gval k hlt').1,eβ]
  exact h0.brs n k b c0 hn hc0 hlb hl0'
 ·intro j ks c hj
  show SlX W0 ks ((G.a j).val e2) (c.den e2.R e2.r)
  have h1:=h0.arg j ks c hj
  have h2:c.den e2.R e2.r=c.den e.R e.r:=by
   rw [er,E.den_app _ _ _ _ (List.all_eq_true.1 sh (ks,c) (List.mem_of_getElem? hj))]
   exact E.den_R _ _ _ _
  rw [h2,show (G.a j).val e2=(G.a j).val e by simp only [G.val,eR]]
  exact h1
theorem Rep.turn0 {e:Env} {W0:Bas} {s:St} {w:World} (h:Rep e W0 s w) {l:Nat} {o:Obj} (o':Obj) (hl:w.heap[l]?=some o) (hc:o.isCells=false):Rep e ⟨w.putObj l o',Ztd e s⟩ s (w.putObj l o'):=by
 have hg:=grownBy_putObj' w l o'
 have hno:∀ k,(∃ o:Obj,w.heap[k]?=some o∧o.isCells=true)→k ≠ l:=by
  rintro k ⟨ok,h1,h2⟩ rfl
  rw [hl] at h1
  simp only [Option.some.injEq] at h1
  subst h1
  rw [hc] at h2
  cases h2
 have hkeep:∀ k,(∃ o:Obj,w.heap[k]?=some o∧o.isCells=true)→(w.putObj l o').heap[k]?=w.heap[k]?:=fun k hk=>World.putObj_heap_other (hno k hk)
 have hcell:∀ (p:Addr) (v:Value),w.cell? p=some v→(w.putObj l o').cell? p=some v:=fun p v hp=>by
  rw [World.cell?_of_block (w:=w) (hkeep p.block ?_)]
  ·exact hp
  ·obtain ⟨o1,h1,h2⟩:=cells_of_cell hp
   exact ⟨o1,h1,h2⟩
 have hb:=h.rebase
 refine ⟨Zv.refl _,h.nb,h.ng,h.nv,h.nx,?_,?_,h.sep,?_,?_,h.rsep,h.brs,⟨fun p hp j n hj=>hcell _ _ (h.glw p hp j n hj),hb.gl.2⟩,?_⟩
 ·intro n b hn hlb
  have:=h.blk n b hn hlb
  rw [hkeep _ ⟨_,this,rfl⟩]
  exact this
 ·exact fun n b hn hlb hf=>.inr (.inl ⟨n,b,hn,hlb,hf,rfl⟩)
 ·intro n b hn hlb
  exact (h.row n b hn hlb).kept hg (fun k hk hk'=>by
   simp only [Option.some.injEq] at hk'
   exact hno k ((h.row n b hn hlb).blk_cells hk) hk'.symm)
 ·exact fun n b hn hlb hf k hk=>.inr (.inr ⟨n,b,hn,hlb,hf,hk⟩)
 ·intro i ks c hi
  refine Z76.imp (fun ks v c ha hax=>?_) _ _ _ (hb.arg i ks c hi)
  refine ⟨?_,hax⟩
  rcases ha with h1 | ⟨g,off,cap,h1,h2,h3,h4,h5⟩
  ·exact .inl h1
  ·exact .inr ⟨g,off,cap,h1,h2,h3,h4,fun j u hj=>hcell _ _ (h5 j u hj)⟩
end Go.Sx
namespace Go.Sx
open Go.RowKit
theorem Rep.rowTo {e:Env} {W0:Bas} {s:St} {w w':World} {n:Nat} {b:Row} {row:Option Nat} {x:Int} (h:Rep e W0 s w) (hsc:s.sc=true) (hb:s.rows[n]?=some b) (hl:b.live=true) (hf:s.flr≤n) (hg:w.grownBy w' row)
  (hr:∀ k,row=some k→Z7 ((G.o n).val e)=some k) (hrow:Zt w' b.ty b.ks ((G.o n).val e) x) :
  Rep { e with r:=e.r++[x] } W0 { s with rows:=s.rows.set n { b with c:=.v s.nv },nv:=s.nv + 1 } w':=by
 obtain ⟨hv,_,hle⟩:=h.vars hsc [x]
 have hx:(E.v s.nv).den e.R (e.r++[x])=x:=by
  simp only [E.den]
  rw [← h.nv]
  simp [List.getD]
 refine ⟨h.below.grown hg (fun k hk=>h.rown n b hb hl hf k (hr k hk)),hv.nb,by simpa using hv.ng,hv.nv,hv.nx,?_,hv.own,hv.sep,?_,?_,?_,?_,hv.gl,hv.arg⟩
 ·intro m c hm hlm
  have h1:=hv.blk m c hm hlm
  rw [hg.block _ (Z1c h1) (fun hk=>h.brs m n c b hm hb hlm hl (hr _ hk.symm))]
  exact h1
 ·intro m c hm hlm
  rcases Zn hm with ⟨rfl,rfl,_⟩ | ⟨hne,hm'⟩
  ·show Zt w' b.ty b.ks _ ((E.v s.nv).den e.R (e.r++[x]))
   rw [hx]
   exact hrow
  ·exact (hv.row m c hm' hlm).kept hg (fun k hk hk'=>hne (h.rsep m n c b k hm' hb hlm hl hk (hr k hk')))
 ·intro m c hm hlm hfm k hk
  rcases Zn hm with ⟨rfl,rfl,_⟩ | ⟨hne,hm'⟩
  ·exact h.rown m b hb hl hf k hk
  ·exact h.rown m c hm' hlm hfm k hk
 ·intro m j c d k hm hj hlm hlj h1 h2
  have hold:∀ (i:Nat) (z:Row),(s.rows.set n { b with c:=.v s.nv })[i]?=some z→z.live=true→∃ z0:Row,s.rows[i]?=some z0∧z0.live=true:=fun i z hi hz=>by
   rcases Zn hi with ⟨rfl,rfl,_⟩ | ⟨_,hi'⟩
   ·exact ⟨b,hb,hl⟩
   ·exact ⟨z,hi',hz⟩
  obtain ⟨c0,hc0,hl0⟩:=hold m c hm hlm
  obtain ⟨d0,hd0,hd1⟩:=hold j d hj hlj
  exact h.rsep m j c0 d0 k hc0 hd0 hl0 hd1 h1 h2
 ·intro m j c d hm hj hlm hlj
  rcases Zn hj with ⟨rfl,rfl,_⟩ | ⟨_,hj'⟩
  ·exact h.brs m j c b hm hb hlm hl
  ·exact h.brs m j c d hm hj' hlm hlj
def Z7m (l:List Int):List Int:=l.mergeSort fun x y=>decide (x≤y)
def Z1ho (P:Program) (fn:FuncId):Prop :=
 (∀ (blk off cap:Nat) (zs:List Int) (w:World),Go.Sort.Holds (Value.int .i64) w blk off zs.toArray→blk < w.heap.size→zs.length < 4611686018427387904 →
  Calls P fn #[.slice (some ⟨blk,off,none⟩) zs.length cap] w fun e w'=>e=.returned (.tuple #[])∧∃ n os,w'=Go.Sort.grow (Go.Sort.putRow (Value.int .i64) (Sort.ahead w n) blk off (zs.mergeSort fun x y=>decide (x≤y)).toArray) os) ∧
 ∀ (p:Option Addr) (cap:Nat) (w:World),Calls P fn #[.slice p 0 cap] w fun e w'=>e=.returned (.tuple #[])∧w'=w
def Z1hp (ty:TypeId) (s:St) (args:List SV):Option (List B × List E × (Nat→St × SV)):=match args with
 | [.w (.o (.go (.o n)))]=>match s.rows[n]? with
  | some b=>if b.live && decide (s.flr≤n) && decide (b.ty=ty) && Z2g b.ks [.i .i64] then some ([Z8f (Zrw b.c) (.c 1000000)],[b.c],fun nv=>({ s with rows:=s.rows.set n { b with c:=.v nv },nv:=nv + 1 },.t [])) else none
  | none=>none
 | _=>none
noncomputable def Zwf (x:List Int):List Int:=[cod (Z7m (dec (x.getD 0 0)))]
noncomputable def Z14a (gl:List (Nat × List Int)) (fn:FuncId) (ty:TypeId):Sum:=⟨fn,[],[],Zwf,fun _=>True,gl,some (Z1hp ty)⟩
theorem Z43 (l:List Int):Zi [.i .i64] l=l.map (Value.int .i64):=by
 induction l with
 | nil=>rfl
 | cons x l ih=>simp only [Zi,List.flatMap_cons] at ih ⊢; rw [ih]; rfl
theorem Zq4 (l:List Int):(Z7m l).length=l.length:=by simp [Z7m]
theorem Z1bf {P:Program} {gl:List (Nat × List Int)} {fn:FuncId} {ty:TypeId} (hS:Z1ho P fn):(Z14a gl fn ty).okA P:=by
 show (Z14a gl fn ty).okM P (Z1hp ty)
 intro W0 e s w args aZ es kk hrep hsc hargs hgl hf has hpre
 unfold Z1hp at hf
 split at hf
 ·rename_i n
  split at hf
  ·rename_i b hb
   split at hf
   ·rename_i hc
    simp only [Z1kr,Z1ks] at hc
    obtain ⟨⟨⟨hl,hfl⟩,hty⟩,hks⟩:=hc
    have hks':=Z1d hks
    simp only [Option.some.injEq,Prod.mk.injEq] at hf
    obtain ⟨rfl,rfl,rfl⟩:=hf
    have hlen:=has (Z8f (Zrw b.c) (.c 1000000)) (by simp)
    rw [Z31,Z1ks,Z4q] at hlen
    simp only [E.den] at hlen
    have hrow:=hrep.row n b hb hl
    have hargs':([SV.w (.o (.go (.o n)))].map (SV.den e)).toArray=#[(G.o n).val e]:=rfl
    rw [hargs']
    generalize hcode:b.c.den e.R e.r=c at *
    have hsem:(Z14a gl fn ty).sem ([b.c].map (E.den e.R e.r))=[cod (Z7m (dec c))]:=by
     show [cod (Z7m (dec (([b.c].map (E.den e.R e.r)).getD 0 0)))]=_
     simp only [Z1kk,Z1kl,Z1kg,hcode]
    rw [hsem]
    have hle:Env.le e { e with r:=e.r++[cod (Z7m (dec c))] }:=⟨[cod (Z7m (dec c))],[],[],[],by simp⟩
    have fin:∀ {w':World} {row:Option Nat},w.grownBy w' row→(∀ k,row=some k→Z7 ((G.o n).val e)=some k)→Zt w' b.ty b.ks ((G.o n).val e) (cod (Z7m (dec c))) →
      ∃ e',Ending.returned (.tuple #[])=.returned ((SV.t []).den e')∧Env.le e e'∧e'.r=e.r++[cod (Z7m (dec c))]∧Rep e' W0 { s with rows:=s.rows.set n { b with c:=.v s.nv },nv:=s.nv + 1 } w'∧s.fr=s.fr∧s.fl=s.fl∧s.flr=s.flr∧s.dp=s.dp :=
     fun hg hr hro=>⟨_,rfl,hle,rfl,hrep.rowTo hsc hb hl hfl hg hr hro,rfl,rfl,rfl,rfl⟩
    have none0:∀ (p:Option Addr) (cap:Nat),(G.o n).val e=.slice p 0 cap→dec c=[]→Calls P fn #[(G.o n).val e] w fun x w'=>∃ e',x=.returned ((SV.t []).den e')∧Env.le e e'∧e'.r=e.r++[cod (Z7m (dec c))]∧Rep e' W0 { s with rows:=s.rows.set n { b with c:=.v s.nv },nv:=s.nv + 1 } w'∧s.fr=s.fr∧s.fl=s.fl∧s.flr=s.flr∧s.dp=s.dp:=by
     intro p cap hv hn
     rw [hv]
     refine (hS.2 p cap w).mono ?_
     rintro x w' ⟨rfl,rfl⟩
     refine fin (row:=none) ⟨rfl,rfl,rfl,Nat.le_refl _,fun _ _ _=>rfl⟩ (fun k hk=>by cases hk) ?_
     have hcc:cod (Z7m (dec c))=cod (dec c):=by rw [hn,show Z7m []=[] by simp [Z7m]]
     rw [hcc]
     unfold Zt at hrow ⊢
     rw [Z3]
     exact hrow
    rcases hrow with ⟨hn,bb,hv⟩ | ⟨hk0,hel,hown⟩
    ·exact none0 _ _ hv hn
    ·rcases hown.2 with ⟨hv,hn⟩ | ⟨g,cap,cur,hv,_,hheap,hle1,hmx,hcs,htake⟩
     ·exact none0 _ _ hv (List.eq_nil_of_length_eq_zero hn)
     ·by_cases hz:(dec c).length=0
      ·refine none0 (some ⟨g,0,none⟩) cap ?_ (List.eq_nil_of_length_eq_zero hz)
       rw [hv,hz]
      ·rw [hks',Z43] at htake
       rw [hks'] at hcs
       simp only [List.length_cons,List.length_nil,Nat.zero_add,Nat.mul_one] at htake hcs
       have hH:=holds_of_blockI hheap htake
       rw [hv]
       refine (hS.1 g 0 cap (dec c) w hH (Z1c hheap) (by omega)).mono ?_
       rintro x w' ⟨rfl,m,os,rfl⟩
       have hro:=ownsRow_sortedI (n:=m) (os:=os) (ss:=dec c) (ts:=Z7m (dec c)) (base:=0) (by rw [Zq4]) (Nat.zero_le _) hheap hle1 hmx (by rw [hcs,Nat.mul_one])
       refine fin (row:=some g) (grownBy_sortedI _) (fun k hk=>?_) ?_
       ·simp only [Option.some.injEq] at hk
        subst hk
        rw [hv]
        have:cap ≠ 0:=by omega
        simp [Z7,this]
       ·refine .inr ⟨hk0,?_,?_⟩
        ·intro z _
         rw [hks']
         simp [elt]
        ·rw [Z3,Zq4,hv,hks',Z43]
         exact hro
   ·cases hf
  ·cases hf
 ·cases hf
end Go.Sx
namespace Go.Sx
open Go.RowKit
def Z1bg:Code→Bool
 | .seq x y=>Z1bg x || Z1bg y
 | .block _ c=>Z1bg c
 | .rangeFunc _ _ _ _=>true
 | _=>false
def Z1a2:List Code→Code
 | []=>.skip
 | y::r=>.seq y (Z1a2 r)
def Zwg (s:St):E:=Zs1 .i64 (.v (s.nv + 1)) (.c 1)
def rgS (m:Nat) (ks:List K) (p q:Tmp) (s:St):St :=
 { Zry m s with fr:=(s.fr.set p (one (.i .i64 (Zwg s)))).set q (.w (.a (Zdh (.o m) ks (.v s.nv) (Zwg s)))) }
def rgE (m:Nat) (s s4:St):T:=if Z149 s s4 && Zwe m s s4 then (match s4.rows[m]? with
 | some r4=>.back s.dp [r4.c,Zwg s]
 | none=>.fail) else .fail
def rgK (ex:Code→St→Z4x→T) (bd:Code) (m:Nat) (s:St):Z4x:=fun o s3=>match o with
 | .norm=>ex bd s3 fun o s4=>match o with
  | .norm=>rgE m s s4
  | _=>.fail
 | _=>.fail
def rgT (gf0:FuncId) (sz:Nat) (ex:Code→St→Z4x→T) (g:Operand) (p q:Tmp) (aZ bd:Code) (rest:List Code) (s:St) (k:Z4x):T:=match s.ev g with
 | .w (.o (.f gf [(nb,0)]))=>match s.mem[nb]? with
  | some blk=>match blk.cells with
   | [.go (.o m)]=>match s.rows[m]? with
    | some row=>if ((blk.live && row.live) && s.sc) && ((Zgw aZ && Zgw bd) && (decide (gf=gf0) && decide (row.ks.length=sz))) then
      .asrt (Z8f (Zrw row.c) (.c 1000000)) (.loop 2 [row.c,Zrw row.c] (.ite (Z8f (.v (s.nv + 1)) (.c 0)) (ex (Z1a2 rest) (Zry m s) k)
       (ex aZ (rgS m row.ks p q s) (rgK ex bd m s))))
     else .fail
    | none=>.fail
   | _=>.fail
  | none=>.fail
 | _=>.fail
def Z1fl (gf0:FuncId) (sz:Nat) (ex:Code→St→Z4x→T):Code→List Code→St→Z4x→T
 | .seq x y,rest,s,k=>if Z1bg x then Z1fl gf0 sz ex x (y::rest) s k else ex x s fun o s'=>match o with
  | .norm=>Z1fl gf0 sz ex y rest s' k
  | o=>k o s'
 | .block _ (.rangeFunc g ps aZ bd),rest,s,k=>match ps.toList with
  | [p,q]=>rgT gf0 sz ex g p q aZ bd rest s k
  | _=>.fail
 | _,_,_,_=>.fail
def Z14b (P:Program) (lp:St→Code→Option Zak) (gl:List (Nat × List Int)) (Γ:List Sum) (gf0:FuncId) (sz:Nat) (fuel:Nat) (fn:FuncId) (ps rs:List Sh):T:=match P.funcs[fn]? with
 | some F=>match F.body with
  | some body=>Z1fl gf0 sz (Zjt P lp Γ fuel) body [] ⟨Zh6 ps F.ntmps,[],[],Zx ps,0,0,0,gl,hsE (Z77 ps) (Zh 0 (Zx ps)),0⟩ (Zfc P F rs)
  | none=>.fail
 | none=>.fail
theorem Zt.len {w:World} {ty:TypeId} {ks:List K} {a:Option Addr} {l cap:Nat} {c:Int} (h:Zt w ty ks (.slice a l cap) c):(dec c).length=l:=by
 rcases h with ⟨h1,b,h2⟩ | ⟨h0,h1,h2⟩
 ·simp only [Value.slice.injEq] at h2; rw [h1,h2.2.1]; rfl
 ·rcases h2.2 with ⟨hv,hn⟩ | ⟨g,cap,cur,hv,_⟩
  ·simp only [Value.slice.injEq] at hv; rw [hn,hv.2.1]
  ·simp only [Value.slice.injEq] at hv; exact hv.2.1.symm
theorem Zim {P:Program} {fn:FuncId} (hc:Z2j P fn=true) (args:Array Value) (w:World):(callFunc fn args).run P w=.ok (.enter fn args) w:=by
 obtain ⟨Fn,body,h1,h2,h3⟩:=Zbz hc
 simp only [callFunc,Sem.run_bind,run_program,Result.andThen_ok,h1,h2,h3]
 simp
theorem Z14c {m:Nat} {s:St} {bm:Row} (hm:s.rows[m]?=some bm):Zry m s={ s with rows:=s.rows.set m { bm with c:=.v s.nv },nv:=s.nv + 2,dp:=s.dp + 1 }:=by unfold Zry; rw [hm]
section
variable {P:Program} {Γ:List Sum} {Ψ:List Int→Prop} {bs:List (List Int→Prop)}
theorem Z1fm {W0:Bas} {e:Env} {fl flr:Nat} {k:Z4x}:¬ LetsOut (Px Γ Ψ bs W0 e fl flr k):=by
 rintro ⟨a,w,out,_,_,_,h,_⟩
 cases out <;> cases h
theorem Zq5 {e e3:Env} {W0:Bas} {s s3:St} {w w3:World} (h:Rep e W0 s w) (h3:Rep e3 ⟨w,Ztd e s⟩ s3 w3) (k:Nat) (hk:Ztd e3 s3 k):W0.may k:=by
 rcases Za3 h3 hk with h1 | h1
 ·exact .inl (Nat.le_trans h.below.size h1)
 ·exact Za3 h h1
theorem Z1fn {e:Env} {W0:Bas} {s:St} {w:World} (h:Rep e W0 s w) (k:Nat) (hk:(Bas.mk w (Ztd e s)).may k):W0.may k:=by
 rcases hk with h1 | h1
 ·exact .inl (Nat.le_trans h.below.size h1)
 ·exact Za3 h h1
theorem Zin {e e3:Env} {W0:Bas} {s s3:St} {w w3:World} (h:Rep e W0 s w) (h3:Rep e3 ⟨w,Ztd e s⟩ s3 w3) {k:Nat} {o:Obj} (ho:w.heap[k]?=some o) (hc:o.isCells=false):w3.heap[k]?=some o:=by
 refine (h3.below.block k ?_).trans ho
 rintro (h1 | h1)
 ·exact absurd (Z1c ho) (Nat.not_lt.2 h1)
 ·obtain ⟨o',h2,h4⟩:=Zky h h1
  rw [ho] at h2
  simp only [Option.some.injEq] at h2
  subst h2
  rw [hc] at h4
  cases h4
theorem Z1bh {d:Nat} {es:List E} {R:Fo} {r:List Int} {bb:List (List Int→Prop)} {p:List Int→Prop} (hp:bb[d]?=some p) (hb:(T.back d es).sat Γ R Ψ bb r):p (es.map (E.den R r)):=by
 simp only [T.sat,hp] at hb
 exact hb
theorem Z14d {gf0:FuncId} {sz:Nat} (hBI:Z75 P gf0 sz) (hcal:Z2j P gf0=true) {ex:Code→St→Z4x→T} (hih:IH P Γ ex) {g:Operand} {p q:Tmp} {aZ bd:Code} {rest:List Code} {s:St} {k:Z4x} {W0:Bas} {e:Env} {a:Act} {w:World}
  (h:Rel e W0 s a w) (hdp:s.dp=bs.length) (hs:(rgT gf0 sz ex g p q aZ bd rest s k).sat Γ e.R Ψ bs e.r) {Q:Exit→Act→World→Prop}
  (hQ:∀ D e2 s' bs' W,Rel e2 W0 s' a W→s'.dp=bs'.length→w.heap.size≤D→W.heap[D]?=some (.deferred (some []))→(ex (Z1a2 rest) s' k).sat Γ e2.R Ψ bs' e2.r→Q .normal (Zey [{ target:=.collected D,args:=#[] }] a) W) :
  (Code.rangeFunc g #[p,q] aZ bd).wp P Q a w:=by
 unfold rgT at hs
 split at hs
 ·rename_i gf nb hev
  split at hs
  ·rename_i blk hblk
   split at hs
   ·rename_i m hcells
    split at hs
    ·rename_i row hrow
     split at hs
     ·rename_i hc
      simp only [Z1kr,Z1ks] at hc
      obtain ⟨⟨⟨hbl,hrl⟩,hsc⟩,⟨hcas,hcbd⟩,rfl,rfl⟩:=hc
      obtain ⟨hlen,I,μ,hI0,hloop⟩:=hs
      rw [Z31,Z1ks,Z4q] at hlen
      simp only [E.den] at hlen
      obtain ⟨ad,len,cap,hval⟩:=G.val_slice e (.o m)
      have hgen:=Z14c hrow
      have hmlt:=(List.getElem?_eq_some_iff.1 hrow).1
      have hlen0:(dec (row.c.den e.R e.r)).length=len:=by
       have:=h.rep.row m row hrow hrl
       rw [hval] at this
       exact this.len
      have hle2:∀ x y:Int,Env.le e { e with r:=e.r++[x,y] }:=fun x y=>⟨[x,y],[],[],[],by simp⟩
      have hscf:∀ v ∈ s.fr,v.sc e.r.length e.β.length e.σ.length e.ω.length=true:=by
       have:=hsc
       simp only [St.sc,Z1kr] at this
       intro v hv
       have:=List.all_eq_true.1 this.1.1 v hv
       rw [h.rep.nv,h.rep.nb,h.rep.ng,h.rep.nx]
       exact this
      have hfr:∀ x y:Int,a.tmps=(s.fr.map (SV.den { e with r:=e.r++[x,y] })).toArray:=fun x y=>by
       rw [h.tmps]
       congr 1
       exact (List.map_congr_left fun v hv=>SV.den_le (hle2 x y) v (hscf v hv)).symm
      have hrelG:∀ (x y:Int) (W:World),Rep { e with r:=e.r++[x,y] } W0 (Zry m s) W→Rel { e with r:=e.r++[x,y] } W0 (Zry m s) a W:=fun x y W hr =>
       ⟨hr,by rw [hfr x y,hgen],h.defs⟩
      have hgetv:∀ x y:Int,(e.r++[x,y]).getD s.nv 0=x∧(e.r++[x,y]).getD (s.nv + 1) 0=y:=fun x y=>by
       rw [← h.rep.nv]
       constructor
       ·simp [List.getD]
       ·simp [List.getD]
      have hvk:∀ (x y:Int) (W:World),Rep { e with r:=e.r++[x,y] } W0 (Zry m s) W→(dec x).length=len:=fun x y W hr=>by
       have hr':(Zry m s).rows[m]?=some { row with c:=.v s.nv }:=by rw [hgen]; simp [hmlt]
       have:=hr.row m _ hr' hrl
       rw [show (G.o m).val ({ e with r:=e.r++[x,y] }:Env)=(G.o m).val e from rfl,hval] at this
       have:=this.len
       simp only [E.den,(hgetv x y).1] at this
       exact this
      refine wpIn_wide.1 (Zjy (n:=0) hBI (Bs:=e.β.getD nb 0) (ad:=ad) (len:=len) (cap:=cap) ?_ (Zim hcal) (by omega)
       (fun i W=>∃ code:Int,I [code,(i:Int)]∧Rep { e with r:=e.r++[code,(i:Int)] } W0 (Zry m s) W) ?_ ?_ ?_ ?_ ?_)
      ·rw [h.eval g,hev]
       simp [SV.den,SW.den,SC.den,Z33]
      ·rintro i X Y r ⟨code,hI,hr⟩ hg hnc
       exact ⟨code,hI,hr.turn hg fun r hr'=>⟨.inl (Nat.le_trans h.rep.below.size (hnc r hr').1),(hnc r hr').2⟩⟩
      ·rintro i W ⟨code,hI,hr⟩
       have:=Zfl hr (n:=nb) (b:=blk) (by rw [hgen]; exact hblk) hbl 0 (by rw [hcells]; simp)
       rw [hcells] at this
       simp only [Z1kk,Z1kl,List.getD,Z1ke,Option.getD_some,SC.den] at this
       rw [← hval]
       exact this
      ·refine ⟨row.c.den e.R e.r,?_,?_⟩
       ·simp only [Z1kk,Z1kl,Z4q,hlen0] at hI0
        exact hI0
       ·obtain ⟨bx,hbx,hr⟩:=h.rep.cut (ex:=e) (sx:=s) (wr:=w) (X:=Ztd e s) (w':=w) hsc (Env.le_refl _) h.rep.below (fun k hk=>Za3 h.rep hk) h.rep.rebase hrow hrl
         (fun n b hb hl=>⟨b,hb,hl,rfl,rfl⟩) (fun n b hb hl=>⟨b,hb,hl,rfl,rfl,.inr rfl⟩) (len:Int)
        rw [hrow] at hbx
        simp only [Option.some.injEq] at hbx
        subst hbx
        exact hr
      ·rintro i W hi ⟨code,hIc,hr⟩
       have hsat:=hloop [code,((i + 1:Nat):Int)] rfl hIc
       have hrl2:=hvk _ _ W hr
       generalize he2:({ e with r:=e.r++[code,((i + 1:Nat):Int)] }:Env)=e2 at hr
       have e2r:e2.r=e.r++[code,((i + 1:Nat):Int)]:=by rw [← he2]
       have e2R:e2.R=e.R:=by rw [← he2]
       have hle:Env.le e e2:=by rw [← he2]; exact hle2 _ _
       have hv1:=hgetv code ((i + 1:Nat):Int)
       rw [← e2r] at hv1 hsat
       rw [← e2R] at hsat
       have hix:(Zwg s).den e2.R e2.r=(i:Int):=by
        unfold Zwg
        rw [Zbr]
        simp only [E.den,hv1.2]
        rw [Zm0 (by omega) (by omega)]
        omega
       have hsat2:=hsat.2 (by
        rw [Z31]
        simp only [E.den,hv1.2]
        simp)
       have hrowG:(Zry m s).rows[m]?=some { row with c:=.v s.nv }:=by rw [hgen]; simp [hmlt]
       have hgc:Z3o (Zry m s) (.o m)=some (row.ks,.v s.nv):=by
        simp only [Z3o,hrowG]
        simp [hrl]
       have hcode:(E.v s.nv).den e2.R e2.r=code:=by simp only [E.den,hv1.1]
       have hgv:(G.o m).val e2=.slice ad len cap:=by rw [← he2]; exact hval
       rcases hr.gread hgc with ⟨hv0,hn⟩ | ⟨b,off,cap',hv,hcle,hmm,hel,hcell⟩
       ·rw [hcode] at hn
        rw [hn] at hrl2
        simp at hrl2
        omega
       rw [hcode] at hv hcle hel hcell
       rw [hgv] at hv
       simp only [Value.slice.injEq] at hv
       obtain ⟨hv1',hv2',hv3'⟩:=hv
       have hilt:i < (dec code).length:=by rw [hrl2]; exact hi
       have hx:=hel ((dec code).getD i 0) (by simp [List.getD,hilt])
       have hnat:((Zwg s).den e2.R e2.r).toNat=i:=by rw [hix]; rfl
       have hden:(Zdh (.o m) row.ks (.v s.nv) (Zwg s)).map (SC.den e2)=Za row.ks (elt row.ks ((dec code).getD i 0)):=by
        have:=Z8p (e:=e2) (g:=.o m) (ks:=row.ks) (c:=.v s.nv) (ix:=Zwg s) (by rw [hcode,hnat]; exact hx)
        rw [hcode,hnat] at this
        exact this
       have hml:=Z19 hx
       refine ⟨b,off,(Zdh (.o m) row.ks (.v s.nv) (Zwg s)).map (SC.den e2),hv1',by rw [hden]; exact hml,?_,?_⟩
       ·intro j u hj
        rw [hden] at hj
        have hjl:j < row.ks.length:=by rw [← hml]; exact (List.getElem?_eq_some_iff.1 hj).1
        refine hcell _ _ ?_
        rw [Z6e hel hilt hjl]
        exact hj
       ·intro l md hl hlr
        obtain ⟨lr,hlr⟩:=hlr
        have hrelA:Rel e2 ⟨W,Ztd e2 (Zry m s)⟩ (rgS m row.ks p q s) { tmps:=(a.tmps.setIfInBounds p (.int .i64 (i:Nat))).setIfInBounds q (.agg ((Zdh (.o m) row.ks (.v s.nv) (Zwg s)).map (SC.den e2)).toArray),defers:=[] } W:=by
         refine ⟨hr.rebase.fr _,?_,rfl⟩
         have h1:=hfr code ((i + 1:Nat):Int)
         rw [he2] at h1
         show (a.tmps.setIfInBounds p _).setIfInBounds q _=(((s.fr.set p (one (.i .i64 (Zwg s)))).set q (.w (.a (Zdh (.o m) row.ks (.v s.nv) (Zwg s))))).map (SV.den e2)).toArray
         rw [h1]
         apply Array.ext'
         simp [List.map_set,SV.den,SW.den,SC.den,one,hix]
        have hdpA:(rgS m row.ks p q s).dp=(bs++[fun ys=>I ys∧μ ys < μ [code,((i + 1:Nat):Int)]]).length:=by
         unfold rgS
         rw [hgen]
         simp [hdp]
        refine wpIn_mono (Z1f6 l md aZ hcas Z1fm (hih aZ _ _ _ Ψ _ e2 _ W hrelA hdpA hsat2)) ?_
        rintro x a3 w3 ⟨out,s3,e3,more,rfl,hle3,hrel3,_,_,hd3,hsat3⟩
        cases out with
        | norm =>
         have hlr3:=Zin hr hrel3.rep hlr rfl
         refine ⟨⟨hrel3.rep.below.size,fun k o _ ho hc=>Zin hr hrel3.rep ho hc⟩,fun o'=>?_⟩
         have ht0:=hrel3.rep.turn0 o' hlr3 rfl
         have hrelB:Rel e3 ⟨w3.putObj l o',Ztd e3 s3⟩ s3 a3 (w3.putObj l o'):=⟨ht0,hrel3.tmps,hrel3.defs⟩
         refine wpIn_mono (Z1f6 l md bd hcbd Z1fm (hih bd _ _ _ Ψ _ e3 _ _ hrelB hd3 hsat3)) ?_
         rintro x a4 w4 ⟨out,s4,e4,more4,rfl,hle4,hrel4,_,_,hd4,hsat4⟩
         cases out with
         | norm =>
          dsimp only at hsat4
          unfold rgE at hsat4
          split at hsat4
          ·rename_i hkept
           simp only [Z1kr] at hkept
           split at hsat4
           ·rename_i r4 hr4
            have hback:=Z1bh (p:=fun ys=>I ys∧μ ys < μ [code,((i + 1:Nat):Int)]) (by
             rw [hdp,List.append_assoc,List.append_assoc,List.getElem?_append_right (Nat.le_refl _),Nat.sub_self]
             rfl) hsat4
            have hix4:(Zwg s).den e4.R e4.r=(i:Int):=by
             obtain ⟨x4,_,_,_,h4r,_⟩:=hle3.trans hle4
             rw [h4r,E.den_app _ _ _ _ (by unfold Zwg; rw [e2r]; simp [Zs1,E.sc,h.rep.nv]),E.den_R _ e2.R]
             exact hix
            refine ⟨rfl,⟨hrel4.rep.below.size,fun k o _ ho hc=>?_⟩,?_⟩
            ·refine (hrel4.rep.below.block k ?_).trans ho
             rintro (h1 | h1)
             ·exact absurd (Z1c ho) (Nat.not_lt.2 h1)
             ·obtain ⟨o'',h2,h4⟩:=Zky ht0 h1
              rw [ho] at h2
              simp only [Option.some.injEq] at h2
              subst h2
              rw [hc] at h4
              cases h4
            ·obtain ⟨bx,hbx,hcut⟩:=h.rep.cut (ex:=e4) (sx:=s4) (wr:=w3.putObj l o') (X:=Ztd e3 s3) (w':=w4) hsc (hle.trans (hle3.trans hle4))
              ((hr.below.trans hrel3.rep.below (Z1fn hr)).grown (grownBy_putObj' w3 l o') (fun k hk=>by
               simp only [Option.some.injEq] at hk
               subst hk
               exact .inl (Nat.le_trans h.rep.below.size hl)))
              (fun k hk=>Zq5 hr hrel3.rep k hk) hrel4.rep hrow hrl (fun n b hb hl=>Zq3 hkept.1 hb hl) (fun n b hb hl=>Zmn hkept.2 hb hl) (i:Int)
             rw [hr4] at hbx
             simp only [Option.some.injEq] at hbx
             subst hbx
             simp only [Z1kk,Z1kl,hix4] at hback
             exact ⟨_,hback.1,hcut⟩
           ·exact hsat4.elim
          ·exact hsat4.elim
         | exit id=>exact hsat4.elim
         | ret=>exact hsat4.elim
        | exit id=>exact hsat3.elim
        | ret=>exact hsat3.elim
      ·rintro D W hD ⟨code,hIc,hr⟩ hdef
       have hsat:=hloop [code,((0:Nat):Int)] rfl hIc
       have hv1:=hgetv code ((0:Nat):Int)
       have hsat1:=hsat.1 (by
        rw [Z31]
        simp only [E.den,hv1.2]
        simp)
       have:=hQ D _ (Zry m s) _ W (hrelG _ _ W hr) (by rw [hgen]; simp [hdp]) hD hdef hsat1
       rw [show ({ a with defers:={ target:=.collected D,args:=#[] }::a.defers }:Act)=Zey [{ target:=.collected D,args:=#[] }] a by unfold Zey; rw [h.defs]; rfl]
       exact this
     ·exact hs.elim
    ·exact hs.elim
   ·exact hs.elim
  ·exact hs.elim
 ·exact hs.elim
def Z1a3 (P:Program):List Code→(Exit→Act→World→Prop)→Exit→Act→World→Prop
 | [],Q=>Q
 | y::r,Q=>Exit.then (y.wp P (Z1a3 P r Q)) (Z1a3 P r Q)
theorem Za4 {Q:Exit→Act→World→Prop} {x:Exit} (hx:x ≠ .normal) {a:Act} {w:World} (h:Q x a w):∀ l:List Code,Z1a3 P l Q x a w
 | []=>h
 | y::r=>by
  have ih:=Za4 hx h r
  cases x <;> first | exact absurd rfl hx | exact ih
theorem Zmo {Q:Exit→Act→World→Prop}:∀ (l:List Code) {a:Act} {w:World},wps P (Z1a2 l) Q a w→Z1a3 P l Q .normal a w
 | [],a,w,h=>h
 | y::r,a,w,h=>by
  show y.wp P (Z1a3 P r Q) a w
  refine Zex y (Z4p y h ?_)
  intro x a' w' hx
  cases x with
  | normal=>exact Zmo r hx
  | _=>exact Za4 (Q:=Q) (by intro h; cases h) hx r
def RgR (Ψ:List Int→Prop) (w0:World) (rs:List Sh):Ending→World→Prop:=fun x w'=>∃ ys v,x=.returned v∧Ψ ys∧Z54 (fun k=>w0.heap.size≤k) w' rs v ys∧Below w0.heap.size w0 w'
theorem Zq6 {w0:World} (k:Nat) (h:(Bas.mk w0 (fun _=>False)).may k):w0.heap.size≤k:=h.elim id (fun hh=>hh.elim)
theorem Z106 {gf0:FuncId} {sz:Nat} (hBI:Z75 P gf0 sz) (hcal:Z2j P gf0=true) {ex:Code→St→Z4x→T} (hih:IH P Γ ex) {F:Func} {rs:List Sh} {w0:World} :
    ∀ (c:Code) (rest:List Code) (s:St) (bs:List (List Int→Prop)) (e:Env) (a:Act) (w:World),Rel e ⟨w0,fun _=>False⟩ s a w→s.dp=bs.length→(Z1fl gf0 sz ex c rest s (Zfc P F rs)).sat Γ e.R Ψ bs e.r →
      c.wp P (Z1a3 P rest (bodyPostM Fence.wide 0 P F (RgR Ψ w0 rs))) a w:=by
  have hfin:∀ {out:Out} {s':St} {bs:List (List Int→Prop)} {e:Env} {a:Act} {w:World},Rel e ⟨w0,fun _=>False⟩ s' a w→(Zfc P F rs out s').sat Γ e.R Ψ bs e.r→bodyPostM Fence.wide 0 P F (RgR Ψ w0 rs) out.exitOf a w:=by
    intro out s' bs e a w h hs
    obtain ⟨hne,ys,v,h1,h2,h3⟩:=Zc1 h hs
    have key:LeavesInM Fence.wide 0 P F a.tmps (RgR Ψ w0 rs) a.defers .returning w:=by
      rw [h.defs]
      exact ⟨v,h3,ys,v,rfl,h1,Z54.up Zq6 h2,h.rep.below.below⟩
    cases out with
    | norm=>exact key
    | exit id=>exact absurd rfl (hne id)
    | ret=>exact key
  intro c
  induction c with
  | seq x y ihx ihy =>
    intro rest s bs e a w h hdp hs
    simp only [Z1fl] at hs
    split at hs
    · exact wp_seq (ihx (y::rest) s bs e a w h hdp hs)
    · refine wp_seq (wp_mono (Zex x (hih x s _ _ Ψ bs e a w h hdp hs)) ?_)
      rintro ex' a' w' ⟨out,s',e',more,rfl,hle,hrel,hf,hfr,hd,hsat⟩
      cases out with
      | norm=>exact ihy rest s' (bs++more) e' a' w' hrel hd hsat
      | exit id=>exact Za4 (x:=.exit id) (by intro hh; cases hh) (hfin (out:=.exit id) hrel hsat) rest
      | ret=>exact Za4 (x:=.ret) (by intro hh; cases hh) (hfin (out:=.ret) hrel hsat) rest
  | block id c ih =>
    intro rest s bs e a w h hdp hs
    cases c with
    | rangeFunc g ps aZ bd =>
      simp only [Z1fl] at hs
      split at hs
      · rename_i p q hps
        obtain rfl:ps=#[p,q]:=by
          apply Array.ext'
          rw [hps]
        refine wp_block (Z14d hBI hcal hih h hdp hs ?_)
        intro D e2 s' bs' W hrel hd' hD hdef hsat
        show Z1a3 P rest _ .normal _ W
        refine Zmo rest (Z1a9 (Z1a2 rest) (hih (Z1a2 rest) s' _ ⟨W,Ztd e2 s'⟩ Ψ bs' e2 a W ⟨hrel.rep.rebase,hrel.tmps,hrel.defs⟩ hd' hsat) ?_)
        rintro x a' w' ⟨out,s4,e4,more,rfl,hle,hrel4,hf,hfr,hd4,hsat4⟩
        have hD4:=Zin hrel.rep hrel4.rep hdef rfl
        have ht:=hrel4.rep.turn0 (.deferred none) hD4 rfl
        have hrelD:Rel e4 ⟨w'.putObj D (.deferred none),Ztd e4 s4⟩ s4 a' (w'.putObj D (.deferred none)):=⟨ht,hrel4.tmps,hrel4.defs⟩
        obtain ⟨hne,ys,v,h1,h2,h3⟩:=Zc1 hrelD hsat4
        have hWs:=hrel.rep.below.size
        have hmay:∀ k,(Bas.mk (w'.putObj D (.deferred none)) (Ztd e4 s4)).may k→w0.heap.size≤k:=by
          rintro k (hk | hk)
          · have h5:=hrel4.rep.below.size
            simp only [World.putObj_size] at hk
            exact Nat.le_trans hWs (Nat.le_trans h5 hk)
          · exact Zq6 k (Zq5 hrel.rep hrel4.rep k hk)
        have hbel:Zv ⟨w0,fun _=>False⟩ (w'.putObj D (.deferred none)) :=
          (hrel.rep.below.trans hrel4.rep.below (Z1fn hrel.rep)).grown (grownBy_putObj' w' D _) (fun k hk=>by
            simp only [Option.some.injEq] at hk
            subst hk
            exact .inl (Nat.le_trans h.rep.below.size hD))
        have key:LeavesInM Fence.wide 0 P F (Zey [{ target:=.collected D,args:=#[] }] a').tmps (RgR Ψ w0 rs) (Zey [{ target:=.collected D,args:=#[] }] a').defers .returning w':=by
          unfold Zey
          rw [hrel4.defs]
          exact ⟨by simp,.inl ⟨D,_,rfl,run_takeDeferred hD4,v,h3,ys,v,rfl,h1,Z54.up hmay h2,hbel.below⟩⟩
        cases out with
        | norm=>exact key
        | exit id=>exact absurd rfl (hne id)
        | ret=>exact key
      · exact hs.elim
    | _=>simp only [Z1fl] at hs; exact hs.elim
  | _=>intro rest s bs e a w h hdp hs; simp only [Z1fl] at hs; exact hs.elim
theorem Zte (hm:P.follows .mixedOrders=true) (hG:Gok P Γ) {gf0:FuncId} {sz:Nat} (hBI:Z75 P gf0 sz) (hcal:Z2j P gf0=true) {lp:St→Code→Option Zak} {gl:List (Nat × List Int)} {fuel:Nat} {fn:FuncId} {ps rs:List Sh} {xs:List Int} {vs:List Value} (w:World) (hx:Zaj (fun _ ks u n=>SlN w ks u n) ps vs xs)
  (hs:(Z14b P lp gl Γ gf0 sz fuel fn ps rs).sat Γ [] Ψ [] xs) (hgl:Zoa gl w) :
  Calls P fn vs.toArray w fun x w'=>∃ ys v,x=.returned v∧Ψ ys∧Z54 (fun k=>w.heap.size≤k) w' rs v ys∧Below w.heap.size w w':=by
 unfold Z14b at hs
 split at hs
 ·rename_i F hF
  split at hs
  ·rename_i body hb
   have hxl:=hx.len.1
   have hv:(Zh 0 (Zx ps)).map (E.den (Zg ps vs) xs)=xs:=by
    have:=Z4d (R:=Zg ps vs) (r:=[]) hxl
    simpa using this
   have hx':Zaj (fun _ ks u n=>SlN w ks u n) ps vs ((Zh 0 (Zx ps)).map (E.den (⟨xs,[],[],[],Zg ps vs⟩:Env).R (⟨xs,[],[],[],Zg ps vs⟩:Env).r)):=by
    show Zaj _ ps vs ((Zh 0 (Zx ps)).map (E.den (Zg ps vs) xs))
    rw [hv]; exact hx
   obtain ⟨r1,r2⟩:=Z3v hx'
   have hsl:∀ (j:Nat) (u:Value),(Zg ps vs)[j]?=some u→∃ a l cp,u=.slice a l cp:=fun j u hj=>by
    obtain ⟨b,hb'⟩:∃ b,(Z2p (Z77 ps) (Zh 0 (Zx ps)))[j]?=some b:=⟨_,List.getElem?_eq_getElem (by rw [← r1]; exact (List.getElem?_eq_some_iff.1 hj).1)⟩
    exact (r2 j b u hb' hj).now.slice
   have hden:((Zlw Z1aa 0 ps (Zh 0 (Zx ps))).map SV.w).map (SV.den ⟨xs,[],[],[],Zg ps vs⟩)=vs:=by
    rw [List.map_map]
    refine Zfo (e:=⟨xs,[],[],[],Zg ps vs⟩) hx' fun j u hj=>?_
    simp only [Z1aa,SC.den,G.val,Nat.zero_add,List.getD,hj,Option.getD_some]
    exact Z3s (hsl j u hj)
   have hrep:Rep ⟨xs,[],[],[],Zg ps vs⟩ ⟨w,fun _=>False⟩ ⟨Zh6 ps F.ntmps,[],[],Zx ps,0,0,0,gl,hsE (Z77 ps) (Zh 0 (Zx ps)),0⟩ w:=by
    refine ⟨Zv.refl _,rfl,rfl,hxl,rfl,?_,?_,?_,?_,?_,?_,?_,⟨hgl,fun _ _ _ hh=>hh⟩,?_⟩
    ·intro n b hb; simp at hb
    ·intro n b hb; simp at hb
    ·intro n m b c hb; simp at hb
    ·intro n b hb; simp at hb
    ·intro n b hb; simp at hb
    ·intro n m b c k hb; simp at hb
    ·intro n m b c hb; simp at hb
    ·intro i ks c hi
     obtain ⟨ty,hr⟩:=Zc6 hi
     have hlt:i < (Zg ps vs).length:=by rw [r1]; exact (List.getElem?_eq_some_iff.1 hr).1
     have hu:(Zg ps vs)[i]?=some (Zg ps vs)[i]:=List.getElem?_eq_getElem hlt
     have:=r2 i _ _ hr hu
     show SlN w ks (slV ((Zg ps vs).getD i undef)) _
     rw [show (Zg ps vs).getD i undef=(Zg ps vs)[i] by simp [List.getD,hu],Z3s (hsl i _ hu)]
     exact this
   rw [T.sat_R [] (Zg ps vs)] at hs
   have hrel:Rel ⟨xs,[],[],[],Zg ps vs⟩ ⟨w,fun _=>False⟩ ⟨Zh6 ps F.ntmps,[],[],Zx ps,0,0,0,gl,hsE (Z77 ps) (Zh 0 (Zx ps)),0⟩ { tmps:=vs.toArray++Array.replicate (F.ntmps - vs.toArray.size) undef,defers:=[] } w:=by
    refine ⟨hrep,?_,rfl⟩
    apply Array.ext'
    have hl:((Zlw Z1aa 0 ps (Zh 0 (Zx ps))).map SV.w).length=vs.length:=by rw [← hden]; simp
    rw [Array.toList_append,List.toList_toArray]
    show vs++(Array.replicate (F.ntmps - vs.toArray.size) undef).toList=((((Zlw Z1aa 0 ps (Zh 0 (Zx ps))).map SV.w)++List.replicate (F.ntmps - ((Zlw Z1aa 0 ps (Zh 0 (Zx ps))).map SV.w).length) Z6).map (SV.den ⟨xs,[],[],[],Zg ps vs⟩))
    rw [List.map_append,hden,hl]
    simp [Z9u]
   refine callsIn_wide.1 (callsIn_of_wp_marks (F:=Fence.wide) (n:=0) hF hb trivial (wpIn_wide.2 ?_))
   exact Z106 hBI hcal (Z3y hm (lp:=lp) hG fuel) body [] _ [] _ _ w hrel rfl hs
  ·exact hs.elim
 ·exact hs.elim
theorem Sum.ok_ofRg (hm:P.follows .mixedOrders=true) (hG:Gok P Γ) {gf0:FuncId} {sz:Nat} (hBI:Z75 P gf0 sz) (hcal:Z2j P gf0=true) {lp:St→Code→Option Zak} {s:Sum} {fuel:Nat} {t:T} (ht:Z14b P lp s.gl Γ gf0 sz fuel s.fn s.ps s.rs=t)
  (hsh:(s.ps++s.rs).all (fun sh=>sh.agg || sh.ks.length == 1)=true)
  (hs:∀ xs:List Int,xs.length=Zx s.ps→s.pre xs→t.sat Γ [] (fun ys=>ys=s.sem xs) [] xs)
  (hl:∀ xs:List Int,xs.length=Zx s.ps→s.pre xs→(s.sem xs).length=Zx s.rs):s.ok P:=by
 subst ht
 refine ⟨fun sh h=>?_,fun xs vs w hgl hx hpre=>⟨hl xs hx.len.1 hpre,?_⟩⟩
 ·have:=List.all_eq_true.1 hsh sh h
  simpa using this
 ·refine (Zte hm hG hBI hcal w hx (hs xs hx.len.1 hpre) hgl).mono ?_
  rintro e w' ⟨ys,v,rfl,rfl,hv,hb⟩
  exact ⟨v,rfl,hv,hb⟩
theorem Sum.okRg (hm:P.follows .mixedOrders=true) (hG:Gok P Γ) {gf0:FuncId} {sz:Nat} (hBI:Z75 P gf0 sz) (hcal:Z2j P gf0=true) {lp:St→Code→Option Zak} {lv:List (Nat × List (Option Iv))} {gl:List (Nat × List Int)} {fuel:Nat} {outs:List Inf} (ho:Zj Γ outs) {fn:FuncId} {ps rs:List Sh} {pin:List (Option Iv)} {pre:List Int→Prop} {sem:List Int→List Int} {t:TX}
  (ht:Z12 (Zr lv outs [] pin (Z14b P lp gl Γ gf0 sz fuel fn ps rs))=t)
  (hsh:(ps++rs).all (fun sh=>sh.agg || sh.ks.length == 1)=true)
  (hl:∀ xs:List Int,(sem xs).length=Zx rs)
  (hpre:∀ xs,pre xs→Z17 pin xs)
  (hs:∀ xs:List Int,xs.length=Zx ps→pre xs→t.sat Γ [] (fun ys=>ys=sem xs) [] xs):(mkP gl fn ps rs pre sem).ok P:=by
 subst ht
 exact Sum.ok_ofRg hm hG hBI hcal rfl hsh (fun xs hx hp=>Z3z ho _ [] pin [] xs Z40 (hpre xs hp) (Z6o _ _ _ (hs xs hx hp))) (fun xs _ _=>hl xs)
end
end Go.Sx
namespace Go.Proofs.YtgcoidbaoigkeaaGreatDoor.fix
open Go.RowKit Go.Sx
def Z4u:List K:=[.i .i64,.i .i64,.i .i64,.i .i64,.i .i64,.i .i64,.i .i64,.i .i64,.i .i64]
def Tr:Sh:=⟨true,[.s 109 [.i .i64,.i .i64,.i .i64,.i .i64,.i .i64,.i .i64,.i .i64,.i .i64,.i .i64]]⟩
noncomputable def Z36 (b:Int):Bool:=Z72 (Z3j b) 0
noncomputable def Z21 (l:List Int):Int:=if l.length≤256 then (if l.all Z36=true then 0 else 8) else 4
noncomputable def Za5 (x:List Int):List Int:=[Z21 (dec (x.getD 0 0))]
def Ze7:List (Option Iv):=[none]
def Z107 (x:List Int):Prop:=Z17 Ze7 x∧∀ b ∈ dec (x.getD 0 0),Z9 Z3d (dec b)
def Z108 (v:List (Option Iv)):List (Option Iv):=[iv 0 8]
noncomputable def Za6:Sum:=mkP gl0 36 [Bs] [I1] Z107 Za5
def Zmp:Inf:=⟨[some ⟨1,0⟩],Z108⟩
noncomputable def Z5v (n:Int) (i:Nat) (b:Int) (s:List Int × List Int):Option (List Int × List Int) :=
 if s.2=[]∨s.2.getD (s.2.length - 1) 0 ≠ (i:Int) then none
 else if co b 6 ≠ -1∨co b 7 ≠ -1 then
  (if co b 6 ≠ (i:Int) + 1∨co b 7≤co b 6∨co b 8 ≠ -1 then none else some (s.1,s.2.take (s.2.length - 1)++[co b 7]++[co b 6]))
 else (if co b 8 < 0∨n≤co b 8∨s.1.getD (co b 8).toNat 0 ≠ 0 then none else some (s.1.set (co b 8).toNat 1,s.2.take (s.2.length - 1)))
noncomputable def Z5j (l:List Int) (n:Int):Nat→Option (List Int × List Int)
 | 0=>some (List.replicate n.toNat 0,if 0 < n then [0] else [])
 | i + 1=>(Z5j l n i).bind (Z5v n i (l.getD i 0))
def Ztf:Option (List Int × List Int)→Bool
 | some (_,[])=>true
 | _=>false
noncomputable def Z1m (l:List Int) (n:Int):Bool:=decide ((l.length:Int)=max 0 (2 * n - 1)) && Ztf (Z5j l n l.length)
noncomputable def Ze8 (x:List Int):List Int:=[b01 (Z1m (dec (x.getD 0 0)) (x.getD 1 0))]
def Ze9:List (Option Iv):=[none,iv 0 1000]
def Z109 (v:List (Option Iv)):List (Option Iv):=[iv 0 1]
noncomputable def Zg6:Sum:=mkS gl0 38 [Tr,I1] [Bo] Ze9 Ze8
def Zwh:Inf:=⟨Ze9,Z109⟩
end Go.Proofs.YtgcoidbaoigkeaaGreatDoor.fix
namespace Go.Proofs.YtgcoidbaoigkeaaGreatDoor.fix
open Go.RowKit Go.Sx
def Z8a (x:List Int):List Int:=[min (x.getD 0 0) (x.getD 6 0),min (x.getD 1 0) (x.getD 7 0),min (x.getD 2 0) (x.getD 8 0),max (x.getD 3 0) (x.getD 9 0),max (x.getD 4 0) (x.getD 10 0),max (x.getD 5 0) (x.getD 11 0),0]
def Zl0 (x:List Int):List Int:=ex6 (Z8a x)
def Zea:=zs 12
def Z10a (v:List (Option Iv)):List (Option Iv):=[mnIv (v.getD 0 none) (v.getD 6 none),mnIv (v.getD 1 none) (v.getD 7 none),mnIv (v.getD 2 none) (v.getD 8 none),mxIv (v.getD 3 none) (v.getD 9 none),mxIv (v.getD 4 none) (v.getD 10 none),mxIv (v.getD 5 none) (v.getD 11 none)]
def Zg7:Sum:=mkS gl0 69 [An 6,An 6] [An 6] Zea Zl0
def Zwi:Inf:=⟨Zea,Z10a⟩
def Ztg (x:List Int):List Int:=if (Z72 x 0 && Z72 x 6)=true then Z8a x else z7 8
def Z92 (x:List Int):List Int:=ex7 (Ztg x)
def Z93:=zs 12
def Z14e (v:List (Option Iv)):List (Option Iv):=ivs 6 (-32768) 32768++[iv 0 8]
def Z2x:Sum:=mkS gl0 41 [An 6,An 6] [An 6,I1] Z93 Z92
def Zeb:Inf:=⟨Z93,Z14e⟩
def Brs:Sh:=⟨false,[.s 109 [.i .i64,.i .i64,.i .i64,.i .i64,.i .i64,.i .i64,.i .i64,.i .i64,.i .i64]]⟩
noncomputable def Zq7 (x:List Int):List Int:=[cod (dec (x.getD 0 0))]
def Z14f:List (Option Iv):=[none]
def Z14g (x:List Int):Prop:=Z17 Z14f x∧(dec (x.getD 0 0)).length≤1000000
def Z14h (v:List (Option Iv)):List (Option Iv):=[none]
noncomputable def Zmq:Sum:=mkP gl0 39 [Brs] [Brs] Z14g Zq7
def Z14i:Inf:=⟨[some ⟨1,0⟩],Z14h⟩
noncomputable def Z4g (l out:List Int) (b:Int):List Int :=
 if co b 6 < 0 then Z3j (l.getD (co b 8).toNat 0) else ex6 (Z8a (Z3j (out.getD (co b 6).toNat 0)++Z3j (out.getD (co b 7).toNat 0)))
noncomputable def Z94 (l out:List Int) (i:Nat):List Int:=out.set i (cod (Z4g l out (out.getD i 0)++[co (out.getD i 0) 6,co (out.getD i 0) 7,co (out.getD i 0) 8]))
noncomputable def Z1q (l t:List Int):Nat→List Int
 | 0=>t
 | c + 1=>Z94 l (Z1q l t c) (t.length - 1 - c)
noncomputable def Z30 (l t:List Int):List Int:=Z1q l t t.length
noncomputable def Z1w (t l:List Int):Int:=if Z21 l=0 then (if Z1m t l.length=true then 0 else 8) else Z21 l
noncomputable def Zio (x:List Int):List Int:=[if Z1w (dec (x.getD 0 0)) (dec (x.getD 1 0))=0 then cod (Z30 (dec (x.getD 1 0)) (dec (x.getD 0 0))) else cod [],Z1w (dec (x.getD 0 0)) (dec (x.getD 1 0))]
def Zq8:List (Option Iv):=[none,none]
def Zq9 (x:List Int):Prop:=Z17 Zq8 x∧((dec (x.getD 0 0)).length≤1000∧(dec (x.getD 1 0)).length≤1000)∧(∀ b ∈ dec (x.getD 0 0),Z9 Z4u (dec b))∧∀ b ∈ dec (x.getD 1 0),Z9 Z3d (dec b)
def Z14j (v:List (Option Iv)):List (Option Iv):=[none,iv 0 8]
noncomputable def Z66:Sum:=mkP gl0 17 [Tr,Bs] [Tr,I1] Zq9 Zio
def Zth:Inf:=⟨[some ⟨1,0⟩],Z14j⟩
end Go.Proofs.YtgcoidbaoigkeaaGreatDoor.fix
namespace Go.Proofs.YtgcoidbaoigkeaaGreatDoor.fix
open Go.RowKit Go.Sx
noncomputable def nine (b:Int):List Int:=[co b 0,co b 1,co b 2,co b 3,co b 4,co b 5,co b 6,co b 7,co b 8]
noncomputable def Zk5 (a b:List Int):Bool:=decide (a.length=b.length) && (List.range a.length).all fun i=>decide (nine (a.getD i 0)=nine (b.getD i 0))
noncomputable def Zob (t l:List Int):Int:=if Z1w t l=0 then (if Zk5 (Z30 l t) t=true then 0 else 8) else Z1w t l
noncomputable def Zec (x:List Int):List Int:=[Zob (dec (x.getD 0 0)) (dec (x.getD 1 0))]
def Zed:List (Option Iv):=[none,none]
def Zl1 (x:List Int):Prop:=Z17 Zed x∧((dec (x.getD 0 0)).length≤1000∧(dec (x.getD 1 0)).length≤1000)∧(∀ b ∈ dec (x.getD 0 0),Z9 Z4u (dec b))∧∀ b ∈ dec (x.getD 1 0),Z9 Z3d (dec b)
def Z10b (v:List (Option Iv)):List (Option Iv):=[iv 0 8]
noncomputable def Zg8:Sum:=mkP gl0 70 [Tr,Bs] [I1] Zl1 Zec
def Zwj:Inf:=⟨[some ⟨1,0⟩],Z10b⟩
noncomputable def Zmr:Sum:=Z14a gl0 71 3
def Z14k:Inf:=⟨[none],fun _=>[none]⟩
noncomputable def lkN (t x:List Int):Nat→Nat→Int
 | 0,_=>0
 | f + 1,i=>if Z1s (t.getD i 0) x=true∧0≤co (t.getD i 0) 6 then 1 + (lkN t x f (co (t.getD i 0) 6).toNat + lkN t x f (co (t.getD i 0) 7).toNat) else 1
noncomputable def Z8b (t l x:List Int):Int:=if Zob t l=0 then Z80 l x else Zob t l
noncomputable def Zti (t x:List Int):Int:=if t.length=0 then 0 else lkN t x t.length 0
noncomputable def Zan (t l x:List Int):List Int:=if Z8b t l x=0 then [cod (Z3k l x l.length),Zti t x,0] else [cod [],0,Z8b t l x]
noncomputable def Zg9 (x:List Int):List Int:=[(Zan (dec (x.getD 0 0)) (dec (x.getD 1 0)) (x.drop 2)).getD 0 0,(Zan (dec (x.getD 0 0)) (dec (x.getD 1 0)) (x.drop 2)).getD 1 0,(Zan (dec (x.getD 0 0)) (dec (x.getD 1 0)) (x.drop 2)).getD 2 0]
def Zga:List (Option Iv):=[none,none]++zs 20
def Zms (x:List Int):Prop:=Z17 Zga x∧((dec (x.getD 0 0)).length≤1000∧(dec (x.getD 1 0)).length≤1000)∧(∀ b ∈ dec (x.getD 0 0),Z9 Z4u (dec b))∧∀ b ∈ dec (x.getD 1 0),Z9 Z3d (dec b)
def Z1bi (v:List (Option Iv)):List (Option Iv):=[none,iv 0 1000,iv 0 150]
noncomputable def Z14l:Sum:=mkP gl0 42 [Tr,Bs,An 16,An 4] [Is,I1,I1] Zms Zg9
def Z1fo:Inf:=⟨[some ⟨1,0⟩],Z1bi⟩
noncomputable def Z14m (x:List Int):List Int:=[(Zg9 x).getD 0 0,(Zg9 x).getD 2 0]
def Zqa:=Zga
def Z14n:=Zms
def Z14o (v:List (Option Iv)):List (Option Iv):=[none,iv 0 150]
noncomputable def Z67:Sum:=mkP gl0 18 [Tr,Bs,An 16,An 4] [Is,I1] Z14n Z14m
def Z14p:Inf:=⟨[some ⟨1,0⟩],Z14o⟩
noncomputable def Zc8 (a b:List Int):Bool:=decide (a=b)
end Go.Proofs.YtgcoidbaoigkeaaGreatDoor.fix
namespace Go.Proofs.YtgcoidbaoigkeaaGreatDoor.fix
open Go.RowKit Go.Sx
theorem noG:Gok Tryz.prog []:=by intro s h; cases h
theorem one {s:Sum} (h:s.ok Tryz.prog) (hm:s.m=none:=by rfl):Gok Tryz.prog [s]:=by
 intro x hx
 simp only [List.mem_singleton] at hx
 subst hx
 exact h.A hm
theorem more {s:Sum} {G:List Sum} (h:s.ok Tryz.prog) (hG:Gok Tryz.prog G) (hm:s.m=none:=by rfl):Gok Tryz.prog (s::G):=by
 intro x hx
 rcases List.mem_cons.1 hx with rfl | hx
 ·exact h.A hm
 ·exact hG x hx
theorem Z10c (b:Bool) {e:Int} (h:0≤e):Ze (iv 0 e) (er b e):=by
 unfold er
 split <;> exact ⟨by first | exact h | exact Int.le_refl _,by first | exact h | exact Int.le_refl _⟩
theorem Zf9 (b:Bool):Ze (iv 0 1) (b01 b):=by
 unfold b01
 split <;> exact ⟨by decide,by decide⟩
theorem Ztj (b:Bool) {e:Int} (h:e ≠ 0):er b e=0↔b=true:=by
 unfold er
 cases b <;> simp [h]
theorem Z5 {a b n:Int}:Ze (iv a b) n↔a≤n∧n≤b:=Iff.rfl
theorem Z14q {v:Option Iv} {a b:Int} (hb:1≤b) (h:Ze v a):Ze (Z1b7 v) (a / b):=by
 cases v with
 | none=>trivial
 | some v =>
  obtain ⟨h1,h2⟩:=h
  have:=Z6k (a:=a) (b:=b) (l:=min v.lo 0) (h:=max v.hi 0) (by omega) (by omega) (by omega) (by omega) (by omega)
  exact this
theorem Z1bj {v:Option Iv} {a b:Int} (hb:1≤b) (h:Ze v a):Ze (Z1b7 v) (up a b):=by
 cases v with
 | none=>trivial
 | some v =>
  obtain ⟨h1,h2⟩:=h
  have:=Zfu (a:=a) (b:=b) (l:=min v.lo 0) (h:=max v.hi 0) (by omega) (by omega) (by omega) (by omega) (by omega)
  exact this
theorem Zip {v:Option Iv} {a k:Int} (hk:0 < k) (h:Ze v a):Ze (Z1ba k v) (a / k):=by
 cases v with
 | none=>trivial
 | some v=>exact ⟨Zw0 hk h.1,Zw0 hk h.2⟩
theorem Ziq {vs:List (Option Iv)} {xs:List Int} (h:Z17 vs xs) (o p:Nat):Ze (Z1b9 vs o p) (dot xs o p) :=
 Zi6 (Zi6 (Zc9 (h.2 o) (h.2 p)) (Zc9 (h.2 (o + 1)) (h.2 (p + 1)))) (Zc9 (h.2 (o + 2)) (h.2 (p + 2)))
theorem Zb {p:Prop} [Decidable p]:decide p=true↔p:=decide_eq_true_iff
theorem Zdf {xs:List Int} (h:xs.length=2):∃ a0 a1,xs=[a0,a1]:=by
 match xs,h with
 | [a0,a1],_=>exact ⟨a0,a1,rfl⟩
theorem len3 {xs:List Int} (h:xs.length=3):∃ a0 a1 a2,xs=[a0,a1,a2]:=by
 match xs,h with
 | [a0,a1,a2],_=>exact ⟨a0,a1,a2,rfl⟩
theorem len4 {xs:List Int} (h:xs.length=4):∃ a0 a1 a2 a3,xs=[a0,a1,a2,a3]:=by
 match xs,h with
 | [a0,a1,a2,a3],_=>exact ⟨a0,a1,a2,a3,rfl⟩
theorem len5 {xs:List Int} (h:xs.length=5):∃ a0 a1 a2 a3 a4,xs=[a0,a1,a2,a3,a4]:=by
 match xs,h with
 | [a0,a1,a2,a3,a4],_=>exact ⟨a0,a1,a2,a3,a4,rfl⟩
theorem len6 {xs:List Int} (h:xs.length=6):∃ a0 a1 a2 a3 a4 a5,xs=[a0,a1,a2,a3,a4,a5]:=by
 match xs,h with
 | [a0,a1,a2,a3,a4,a5],_=>exact ⟨a0,a1,a2,a3,a4,a5,rfl⟩
theorem len10 {xs:List Int} (h:xs.length=10):∃ a0 a1 a2 a3 a4 a5 a6 a7 a8 a9,xs=[a0,a1,a2,a3,a4,a5,a6,a7,a8,a9]:=by
 match xs,h with
 | [a0,a1,a2,a3,a4,a5,a6,a7,a8,a9],_=>exact ⟨a0,a1,a2,a3,a4,a5,a6,a7,a8,a9,rfl⟩
theorem Z1bk {xs:List Int} (h:xs.length=12):∃ a0 a1 a2 a3 a4 a5 a6 a7 a8 a9 a10 a11,xs=[a0,a1,a2,a3,a4,a5,a6,a7,a8,a9,a10,a11]:=by
 match xs,h with
 | [a0,a1,a2,a3,a4,a5,a6,a7,a8,a9,a10,a11],_=>exact ⟨a0,a1,a2,a3,a4,a5,a6,a7,a8,a9,a10,a11,rfl⟩
theorem Z1bl {xs:List Int} (h:xs.length=15):∃ a0 a1 a2 a3 a4 a5 a6 a7 a8 a9 a10 a11 a12 a13 a14,xs=[a0,a1,a2,a3,a4,a5,a6,a7,a8,a9,a10,a11,a12,a13,a14]:=by
 match xs,h with
 | [a0,a1,a2,a3,a4,a5,a6,a7,a8,a9,a10,a11,a12,a13,a14],_=>exact ⟨a0,a1,a2,a3,a4,a5,a6,a7,a8,a9,a10,a11,a12,a13,a14,rfl⟩
theorem Z1bm {xs:List Int} (h:xs.length=16):∃ a0 a1 a2 a3 a4 a5 a6 a7 a8 a9 a10 a11 a12 a13 a14 a15,xs=[a0,a1,a2,a3,a4,a5,a6,a7,a8,a9,a10,a11,a12,a13,a14,a15]:=by
 match xs,h with
 | [a0,a1,a2,a3,a4,a5,a6,a7,a8,a9,a10,a11,a12,a13,a14,a15],_=>exact ⟨a0,a1,a2,a3,a4,a5,a6,a7,a8,a9,a10,a11,a12,a13,a14,a15,rfl⟩
theorem Z1hq {xs:List Int} (h:xs.length=17):∃ a0 a1 a2 a3 a4 a5 a6 a7 a8 a9 a10 a11 a12 a13 a14 a15 a16,xs=[a0,a1,a2,a3,a4,a5,a6,a7,a8,a9,a10,a11,a12,a13,a14,a15,a16]:=by
 match xs,h with
 | [a0,a1,a2,a3,a4,a5,a6,a7,a8,a9,a10,a11,a12,a13,a14,a15,a16],_=>exact ⟨a0,a1,a2,a3,a4,a5,a6,a7,a8,a9,a10,a11,a12,a13,a14,a15,a16,rfl⟩
theorem len19 {xs:List Int} (h:xs.length=19):∃ a0 a1 a2 a3 a4 a5 a6 a7 a8 a9 a10 a11 a12 a13 a14 a15 a16 a17 a18,xs=[a0,a1,a2,a3,a4,a5,a6,a7,a8,a9,a10,a11,a12,a13,a14,a15,a16,a17,a18]:=by
 match xs,h with
 | [a0,a1,a2,a3,a4,a5,a6,a7,a8,a9,a10,a11,a12,a13,a14,a15,a16,a17,a18],_=>exact ⟨a0,a1,a2,a3,a4,a5,a6,a7,a8,a9,a10,a11,a12,a13,a14,a15,a16,a17,a18,rfl⟩
theorem Z1hr {xs:List Int} (h:xs.length=20):∃ a0 a1 a2 a3 a4 a5 a6 a7 a8 a9 a10 a11 a12 a13 a14 a15 a16 a17 a18 a19,xs=[a0,a1,a2,a3,a4,a5,a6,a7,a8,a9,a10,a11,a12,a13,a14,a15,a16,a17,a18,a19]:=by
 match xs,h with
 | [a0,a1,a2,a3,a4,a5,a6,a7,a8,a9,a10,a11,a12,a13,a14,a15,a16,a17,a18,a19],_=>exact ⟨a0,a1,a2,a3,a4,a5,a6,a7,a8,a9,a10,a11,a12,a13,a14,a15,a16,a17,a18,a19,rfl⟩
theorem len21 {xs:List Int} (h:xs.length=21):∃ a0 a1 a2 a3 a4 a5 a6 a7 a8 a9 a10 a11 a12 a13 a14 a15 a16 a17 a18 a19 a20,xs=[a0,a1,a2,a3,a4,a5,a6,a7,a8,a9,a10,a11,a12,a13,a14,a15,a16,a17,a18,a19,a20]:=by
 match xs,h with
 | [a0,a1,a2,a3,a4,a5,a6,a7,a8,a9,a10,a11,a12,a13,a14,a15,a16,a17,a18,a19,a20],_=>exact ⟨a0,a1,a2,a3,a4,a5,a6,a7,a8,a9,a10,a11,a12,a13,a14,a15,a16,a17,a18,a19,a20,rfl⟩
theorem len7 {xs:List Int} (h:xs.length=7):∃ a0 a1 a2 a3 a4 a5 a6,xs=[a0,a1,a2,a3,a4,a5,a6]:=by
 match xs,h with
 | [a0,a1,a2,a3,a4,a5,a6],_=>exact ⟨a0,a1,a2,a3,a4,a5,a6,rfl⟩
theorem len8 {xs:List Int} (h:xs.length=8):∃ a0 a1 a2 a3 a4 a5 a6 a7,xs=[a0,a1,a2,a3,a4,a5,a6,a7]:=by
 match xs,h with
 | [a0,a1,a2,a3,a4,a5,a6,a7],_=>exact ⟨a0,a1,a2,a3,a4,a5,a6,a7,rfl⟩
theorem len11 {xs:List Int} (h:xs.length=11):∃ a0 a1 a2 a3 a4 a5 a6 a7 a8 a9 a10,xs=[a0,a1,a2,a3,a4,a5,a6,a7,a8,a9,a10]:=by
 match xs,h with
 | [a0,a1,a2,a3,a4,a5,a6,a7,a8,a9,a10],_=>exact ⟨a0,a1,a2,a3,a4,a5,a6,a7,a8,a9,a10,rfl⟩
theorem len22 {xs:List Int} (h:xs.length=22):∃ a0 a1 a2 a3 a4 a5 a6 a7 a8 a9 a10 a11 a12 a13 a14 a15 a16 a17 a18 a19 a20 a21,xs=[a0,a1,a2,a3,a4,a5,a6,a7,a8,a9,a10,a11,a12,a13,a14,a15,a16,a17,a18,a19,a20,a21]:=by
 match xs,h with
 | [a0,a1,a2,a3,a4,a5,a6,a7,a8,a9,a10,a11,a12,a13,a14,a15,a16,a17,a18,a19,a20,a21],_=>exact ⟨a0,a1,a2,a3,a4,a5,a6,a7,a8,a9,a10,a11,a12,a13,a14,a15,a16,a17,a18,a19,a20,a21,rfl⟩
theorem len26 {xs:List Int} (h:xs.length=26):∃ a0 a1 a2 a3 a4 a5 a6 a7 a8 a9 a10 a11 a12 a13 a14 a15 a16 a17 a18 a19 a20 a21 a22 a23 a24 a25,xs=[a0,a1,a2,a3,a4,a5,a6,a7,a8,a9,a10,a11,a12,a13,a14,a15,a16,a17,a18,a19,a20,a21,a22,a23,a24,a25]:=by
 match xs,h with
 | [a0,a1,a2,a3,a4,a5,a6,a7,a8,a9,a10,a11,a12,a13,a14,a15,a16,a17,a18,a19,a20,a21,a22,a23,a24,a25],_=>exact ⟨a0,a1,a2,a3,a4,a5,a6,a7,a8,a9,a10,a11,a12,a13,a14,a15,a16,a17,a18,a19,a20,a21,a22,a23,a24,a25,rfl⟩
noncomputable def Ztk:List Sum:=[]
def Z14r:List Inf:=[]
def Z14s:TX:=(.ite (.lt (.rem (.v 0) (.v 1)) (.c 0)) (.ret [(.wr .i64 (.sub (.quo (.v 0) (.v 1)) (.c 1))),(.c 0)])
(.ret [(.quo (.v 0) (.v 1)),(.c 0)]))
theorem Z10d:Z12 (Zr [] Z14r [] Zia (Zq Tryz.prog Z7x gl0 Ztk 1000 96 [I1,I1] [I1,I1]))=Z14s:=by kernel_rfl
theorem Z1hs:Gok Tryz.prog Ztk:=noG
theorem Z1ht:Zj Ztk Z14r:=Z8
noncomputable def Z14t:List Sum:=[]
def Z1fp:List Inf:=[]
def Z1fq:TX:=(.ite (.lt (.c 0) (.rem (.v 0) (.v 1))) (.ret [(.wr .i64 (.add (.quo (.v 0) (.v 1)) (.c 1))),(.c 0)])
(.ret [(.quo (.v 0) (.v 1)),(.c 0)]))
theorem Z14u:Z12 (Zr [] Z1fp [] Zmh (Zq Tryz.prog Z7x gl0 Z14t 1000 130 [I1,I1] [I1,I1]))=Z1fq:=by kernel_rfl
theorem g_ceil:Gok Tryz.prog Z14t:=noG
theorem o_ceil:Zj Z14t Z1fp:=Z8
theorem in2 {a b:Int} (h:Z17 [zz,pos] [a,b]):Z1b0 a∧1≤b∧b≤9223372036854775807:=⟨h.2 0,h.2 1⟩
theorem Z7n:Z1l.ok Tryz.prog:=Sum.okF facts.mixed Z1hs Z1ht Z10d rfl (fun _=>rfl) (by
 intro xs hx hp
 obtain ⟨a,b,rfl⟩:=Zdf hx
 obtain ⟨ha,hb,hb'⟩:=in2 hp
 simp only [Z14s,TX.sat,XB.prop,X.den,Z1kk,Z1kl,Z1ke,Z1kf,Z1ki,Z1kj,Z1kg,Z1kh,mkS,mkP,and_true,true_and,Z1kp,Z1kq,not_or,not_and,Z1km,ne_eq,Z1kn,Z1ko,Z1f]
 have hd:=Z6k (a:=a) (b:=b) (l:=-9223372036854775808) (h:=9223372036854775807) (by omega) (by omega) (by omega) ha.1 ha.2
 refine ⟨fun h=>?_,fun h=>?_⟩
 ·rw [Z13q (by omega) h,Zf hd.1 hd.2]
 ·rw [Zi3 (by omega) h])
theorem Z5k:Z1g Z1l Z8x:=⟨fun _ h=>h,fun vs xs h hp=>Z1 (Z14q (hp.2 1).1 (h.2 0)) (Z1 ⟨Int.le_refl _,Int.le_refl _⟩ Z4)⟩
theorem Z1hu:Zw5.ok Tryz.prog:=Sum.okF facts.mixed g_ceil o_ceil Z14u rfl (fun _=>rfl) (by
 intro xs hx hp
 obtain ⟨a,b,rfl⟩:=Zdf hx
 obtain ⟨ha,hb,hb'⟩:=in2 hp
 simp only [Z1fq,TX.sat,XB.prop,X.den,Z1kk,Z1kl,Z1ke,Z1kf,Z1ki,Z1kj,Z1kg,Z1kh,mkS,mkP,and_true,true_and,Z1kp,Z1kq,not_or,not_and,Z1km,ne_eq,Z1kn,Z1ko,Zmi]
 have hd:=Zfu (a:=a) (b:=b) (l:=-9223372036854775808) (h:=9223372036854775807) (by omega) (by omega) (by omega) ha.1 ha.2
 refine ⟨fun h=>?_,fun h=>?_⟩
 ·rw [up_pos (by omega) h,Zf hd.1 hd.2]
 ·rw [Z1ff (by omega) h])
theorem Z1bn:Z1g Zw5 Z1fi:=⟨fun _ h=>h,fun vs xs h hp=>Z1 (Z1bj (hp.2 1).1 (h.2 0)) (Z1 ⟨Int.le_refl _,Int.le_refl _⟩ Z4)⟩
theorem Zd {m:Int} {x:List Int} {o:Nat}:Zju m x o=true↔((-m≤x.getD o 0∧x.getD o 0≤m)∧(-m≤x.getD (o + 1) 0∧x.getD (o + 1) 0≤m)∧(-m≤x.getD (o + 2) 0∧x.getD (o + 2) 0≤m)):=decide_eq_true_iff
noncomputable def Zmt:List Sum:=[]
def Zwk:List Inf:=[]
def Zwl:TX:=(.ite (.or (.or (.lt (.v 0) (.c (-4096))) (.lt (.c 4096) (.v 0))) (.or (.or (.lt (.v 1) (.c (-4096))) (.lt (.c 4096) (.v 1))) (.or (.lt (.v 2) (.c (-4096))) (.lt (.c 4096) (.v 2))))) (.ret [(.c 20)])
(.ret [(.c 0)]))
theorem Ztl:Z12 (Zr [] Zwk [] Zdx (Zq Tryz.prog Z7x gl0 Zmt 1000 52 [An 3] [I1]))=Zwl:=by kernel_rfl
theorem Z1bo:Gok Tryz.prog Zmt:=noG
theorem Z1bp:Zj Zmt Zwk:=Z8
theorem Z14v:Zfy.ok Tryz.prog:=Sum.okF facts.mixed Z1bo Z1bp Ztl rfl (fun _=>rfl) (by
 intro xs hx hp
 obtain ⟨a0,a1,a2,rfl⟩:=len3 hx
 simp only [Zwl,TX.sat,XB.prop,X.den,Z1kk,Z1kl,Z1ke,Z1kf,Z1ki,Z1kj,Z1kg,Z1kh,mkS,mkP,and_true,true_and,Z1kp,Z1kq,not_or,not_and,Z1km,ne_eq,Z1kn,Z1ko,Zdw,er,Zd]
 repeat' first | refine And.intro ?_ ?_ | intro _
 all_goals first | rfl | (split <;> first | rfl | omega))
theorem Z10e:Z1g Zfy Zw6:=⟨fun _ h=>h,fun vs xs h hp=>Z1 (Z10c _ (by omega)) Z4⟩
noncomputable def Zmu:List Sum:=[Z1l]
def Z14w:List Inf:=[Z8x]
def Z14x:TX:=(.callp 0 [(.add (.add (.add (.c 0) (.mul (.v 0) (.v 9))) (.mul (.v 1) (.v 10))) (.mul (.v 2) (.v 11))),(.c 256)] (.callp 0 [(.add (.add (.add (.c 0) (.mul (.v 3) (.v 9))) (.mul (.v 4) (.v 10))) (.mul (.v 5) (.v 11))),(.c 256)] (.callp 0 [(.add (.add (.add (.c 0) (.mul (.v 6) (.v 9))) (.mul (.v 7) (.v 10))) (.mul (.v 8) (.v 11))),(.c 256)] (.ret [(.v 12),(.v 14),(.v 16)]))))
theorem Z10f:Z12 (Zr [] Z14w [] Zig (Zq Tryz.prog Z7x gl0 Zmu 1000 193 [An 9,An 3] [An 3]))=Z14x:=by kernel_rfl
theorem Z1hv:Gok Tryz.prog Zmu:=(fix.one Z7n)
theorem Z1hw:Zj Zmu Z14w:=(Z2 Z5k Z8)
theorem Z1bq:Zdy.ok Tryz.prog:=Sum.okF facts.mixed Z1hv Z1hw Z10f rfl (fun _=>rfl) (by
 intro xs hx hp
 obtain ⟨a0,a1,a2,a3,a4,a5,a6,a7,a8,a9,a10,a11,rfl⟩:=Z1bk hx
 simp only [Z14x,Zmu,Z1l,TX.sat,XB.prop,X.den,Z1kk,Z1kl,Z1ke,Z1kf,Z1ki,Z1kj,Z1kg,Z1kh,mkS,mkP,and_true,true_and,Z1kp,Z1kq,not_or,not_and,Z1km,ne_eq,Z1kn,Z1ko,Z8y,Z1f,dot,Nat.reduceAdd,Int.zero_add])
theorem Z14y:Z1g Zdy Z147:=⟨fun _ h=>h,fun vs xs h hp=>Z1 (Zip (by omega) (Ziq h 0 9)) (Z1 (Zip (by omega) (Ziq h 3 9)) (Z1 (Zip (by omega) (Ziq h 6 9)) Z4))⟩
end Go.Proofs.YtgcoidbaoigkeaaGreatDoor.fix
