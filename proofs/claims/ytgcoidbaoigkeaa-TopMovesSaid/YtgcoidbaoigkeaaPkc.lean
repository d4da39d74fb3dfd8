/-
  Symbolic execution of the model, and what functions of the program come to: part 3.
-/
import Derived.ProofKit
import Derived.OpenShut
import Derived.Carry
import Derived.Test.YtgcoidbaoigkeaaRows
import Derived.KernelRfl
import Derived.Test.YtgcoidbaoigkeaaPkb
set_option linter.unusedVariables false
set_option linter.unusedSimpArgs false
open List renaming getElem?_cons_zero → Z18e, getElem?_cons_succ → Z18f, getD_cons_zero → Z18g, getD_cons_succ → Z18h, cons_append → Z18i, nil_append → Z18j, map_cons → Z18k, map_nil → Z18l
namespace Go.Sx
open Go.RowKit
theorem Z10a {a b:Value} (h:Z15g a b=true):a=b:=by
 unfold Z15g at h
 split at h
 ·rfl
 ·rfl
 ·simp only [Z18r,beq_iff_eq] at h
  rw [h.1,h.2]
 ·cases h
theorem Zgc:∀ {a b:List (Nat × Nat)},Zag a b=true→a=b
 | [],[],_=>rfl
 | x::xs,y::ys,h=>by
  simp only [Zag,Z18r,beq_iff_eq] at h
  rw [Zgc h.2,Prod.ext h.1.1 h.1.2]
 | [],_::_,h=>by simp [Zag] at h
 | _::_,[],h=>by simp [Zag] at h
theorem SC.same_eq {a b:SC} (h:a.same b=true):a=b:=by
 cases a <;> cases b <;> simp only [SC.same,Z18r,beq_iff_eq,Bool.false_eq_true] at h
 ·rw [h.1,E.same_eq _ _ h.2]
 ·rw [B.same_eq _ _ h]
 ·rw [h.1,h.2]
 ·rw [h.1.1,h.1.2,h.2.1,h.2.2]
 ·rw [G.same_eq _ _ h]
 ·rw [G.same_eq _ _ h.1.1,h.1.2,E.same_eq _ _ h.2.1,E.same_eq _ _ h.2.2]
 ·rw [G.same_eq _ _ h.1.1,h.1.2,E.same_eq _ _ h.2.1,h.2.2]
 ·rw [G.same_eq _ _ h]
 ·rw [h.1,Zgc h.2]
 ·rw [Z10a h]
theorem Zhh:∀ {a b:List SC},Zmg a b=true→a=b
 | [],[],_=>rfl
 | x::xs,y::ys,h=>by
  simp only [Zmg,Z18r] at h
  rw [SC.same_eq h.1,Zhh h.2]
 | [],_::_,h=>by simp [Zmg] at h
 | _::_,[],h=>by simp [Zmg] at h
theorem SW.same_eq {a b:SW} (h:a.same b=true):a=b:=by
 cases a <;> cases b <;> simp only [SW.same,Bool.false_eq_true] at h
 ·rw [SC.same_eq h]
 ·rw [Zhh h]
theorem Zpf:∀ {a b:List SW},Zrs a b=true→a=b
 | [],[],_=>rfl
 | x::xs,y::ys,h=>by
  simp only [Zrs,Z18r] at h
  rw [SW.same_eq h.1,Zpf h.2]
 | [],_::_,h=>by simp [Zrs] at h
 | _::_,[],h=>by simp [Zrs] at h
theorem SV.same_eq {a b:SV} (h:a.same b=true):a=b:=by
 cases a <;> cases b <;> simp only [SV.same,beq_iff_eq,Bool.false_eq_true] at h
 ·rw [SW.same_eq h]
 ·rw [Zpf h]
 ·rw [h]
section
variable {ex e2:Env} {W0:Bas} {sx:St} {w:World}
def VOK (ex:Env) (sx:St) (vals:List Value) (us:List Nat):Prop :=
 Zje vals∧∀ v ∈ vals,∀ k,Z6 v=some k→∃ n b,n ∈ us∧sx.rows[n]?=some b∧b.live=true∧sx.flr≤n∧Z6 ((G.o n).val ex)=some k
theorem VOK.nil (ex:Env) (sx:St):VOK ex sx [] []:=⟨List.Pairwise.nil,fun v hv=>by simp at hv⟩
theorem VOK.app (hrep:Rep ex W0 sx w) {a b:List Value} {us ts:List Nat} (ha:VOK ex sx a us) (hb:VOK ex sx b ts) (hn:(us++ts).Nodup):VOK ex sx (a++b) (us++ts):=by
 refine ⟨List.pairwise_append.2 ⟨ha.1,hb.1,fun u hu v hv k hk hk'=>?_⟩,fun v hv k hk=>?_⟩
 ·obtain ⟨n,b1,h1,h2,h3,_,h5⟩:=ha.2 u hu k hk
  obtain ⟨m,b2,h1',h2',h3',_,h5'⟩:=hb.2 v hv k hk'
  have:=hrep.rsep n m b1 b2 k h2 h2' h3 h3' h5 h5'
  subst this
  exact (List.nodup_append.1 hn).2.2 n h1 n h1' rfl
 ·rcases List.mem_append.1 hv with hv | hv
  ·obtain ⟨n,b,h1,h2⟩:=ha.2 v hv k hk
   exact ⟨n,b,List.mem_append_left _ h1,h2⟩
  ·obtain ⟨n,b,h1,h2⟩:=hb.2 v hv k hk
   exact ⟨n,b,List.mem_append_right _ h1,h2⟩
def Z6q (w:World) (e2:Env) (rows:List Row) (vals:List Value):Prop :=
 rows.length=vals.length∧∀ (j:Nat) (b:Row) (v:Value),rows[j]?=some b→vals[j]?=some v→b.live=true∧(∃ a l c,v=.slice a l c)∧Zs w b.ty b.ks v (b.c.den e2.R e2.r)
theorem Z6q.app {r1 r2:List Row} {v1 v2:List Value} (h1:Z6q w e2 r1 v1) (h2:Z6q w e2 r2 v2):Z6q w e2 (r1++r2) (v1++v2):=by
 refine ⟨by simp [h1.1,h2.1],fun j b v hb hv=>?_⟩
 rcases Nat.lt_or_ge j r1.length with hj | hj
 ·rw [List.getElem?_append_left hj] at hb
  rw [List.getElem?_append_left (by rw [← h1.1]; exact hj)] at hv
  exact h1.2 j b v hb hv
 ·rw [List.getElem?_append_right hj] at hb
  rw [List.getElem?_append_right (by rw [← h1.1]; exact hj),← h1.1] at hv
  exact h2.2 _ b v hb hv
theorem Zv4 (hrep:Rep ex W0 sx w) {ty:TypeId} {ks:List K} {c:SC} {aZ:List B} {x:E} {u:List Nat} (h:rowM sx ty ks c=some (aZ,x,u)) (has:∀ b ∈ aZ,b.den ex.R ex.r=true) :
  Zs w ty ks (c.den ex) (x.den ex.R ex.r)∧VOK ex sx [c.den ex] u∧∃ a l cp,c.den ex=.slice a l cp:=by
 have single:∀ {v:Value} {u:List Nat},(∀ k,Z6 v=some k→∃ n b,n ∈ u∧sx.rows[n]?=some b∧b.live=true∧sx.flr≤n∧Z6 ((G.o n).val ex)=some k)→VOK ex sx [v] u:=by
  intro v u h
  exact ⟨List.pairwise_singleton _ _,fun v' hv'=>by simp only [List.mem_singleton] at hv'; subst hv'; exact h⟩
 unfold rowM at h
 split at h
 ·simp only [Option.some.injEq,Prod.mk.injEq] at h
  obtain ⟨rfl,rfl,rfl⟩:=h
  exact ⟨.inl ⟨by simp [E.den],_,rfl⟩,single (fun k hk=>by cases hk),_,_,_,rfl⟩
 ·rename_i g
  split at h
  ·rename_i hg
   simp only [Option.some.injEq,Prod.mk.injEq] at h
   obtain ⟨rfl,rfl,rfl⟩:=h
   obtain ⟨⟨ks',c'⟩,hg'⟩:=Option.isSome_iff_exists.1 hg
   obtain ⟨a,l,c,hv⟩:=G.val_slice ex g
   have hd:(SC.gz g).den ex=.slice a 0 0:=by simp only [SC.den]; rw [hv]; rfl
   rw [hd]
   exact ⟨.inl ⟨by simp [E.den],_,rfl⟩,single (fun k hk=>by cases a <;> simp [Z6] at hk),_,_,_,rfl⟩
  ·cases h
 ·rename_i n
  split at h
  ·rename_i b hb
   split at h
   ·rename_i hc
    simp only [Z18r,Z18s] at hc
    obtain ⟨⟨⟨hl,hf⟩,hty⟩,hks⟩:=hc
    simp only [Option.some.injEq,Prod.mk.injEq] at h
    obtain ⟨rfl,rfl,rfl⟩:=h
    subst hty
    rw [← Z26 hks]
    exact ⟨hrep.row n b hb hl,single (fun k hk=>⟨n,b,by simp,hb,hl,hf,hk⟩),G.val_slice ex (.o n)⟩
   ·cases h
  ·cases h
 ·rename_i n size hi
  split at h
  ·rename_i b hb
   split at h
   ·rename_i hc
    simp only [Z18r,Z18s] at hc
    obtain ⟨⟨⟨⟨hl,hf⟩,hty⟩,hks⟩,hsz⟩:=hc
    simp only [Option.some.injEq,Prod.mk.injEq] at h
    obtain ⟨rfl,rfl,rfl⟩:=h
    subst hty
    rw [← Z26 hks]
    obtain ⟨v1,v2,v3⟩:=Zbf has
    simp only [E.den] at v2
    obtain ⟨ht1,ht2⟩:=(hrep.row n b hb hl).take (c':=(Z8u b.c hi).den ex.R ex.r) (hi:=(hi.den ex.R ex.r).toNat) (by rw [Zaj,Z4]) (by omega) size
    have hval:(SC.gv (.o n) size (.c 0) hi).den ex=Zfj size ((G.o n).val ex) 0 (hi.den ex.R ex.r).toNat:=rfl
    rw [hval]
    refine ⟨ht1,single (fun k hk=>⟨n,b,by simp,hb,hl,hf,by rw [← ht2]; exact hk⟩),?_⟩
    obtain ⟨a,l,cp,hv⟩:=G.val_slice ex (.o n)
    rw [hv]
    exact ⟨_,_,_,rfl⟩
   ·cases h
  ·cases h
 ·cases h
theorem Z160 (hrep:Rep ex W0 sx w) {ty:TypeId} {ks:List K} {c:SC} {x:E} {u:Nat} (h:arrM sx ty ks c=some (x,u)) :
  Zs w ty ks ((G.o u).val ex) (x.den ex.R ex.r)∧VOK ex sx [(G.o u).val ex] [u]∧c.den ex=.pointer (atV ks.length ((G.o u).val ex) 0 0):=by
 unfold arrM at h
 split at h
 ·rename_i n size
  split at h
  ·rename_i b hb
   split at h
   ·rename_i hc
    simp only [Z18r,Z18s] at hc
    obtain ⟨⟨⟨⟨hl,hf⟩,hty⟩,hks⟩,hsz⟩:=hc
    simp only [Option.some.injEq,Prod.mk.injEq] at h
    obtain ⟨rfl,rfl⟩:=h
    subst hty
    rw [← Z26 hks] at hsz ⊢
    subst hsz
    refine ⟨hrep.row n b hb hl,⟨List.pairwise_singleton _ _,fun v' hv'=>?_⟩,rfl⟩
    simp only [List.mem_singleton] at hv'
    subst hv'
    exact fun k hk=>⟨n,b,by simp,hb,hl,hf,hk⟩
   ·cases h
  ·cases h
 ·cases h
def arrV (ex:Env):SC→Value
 | .gp (.o n) _ _ _=>slV (ex.σ.getD n undef)
 | _=>.slice none 0 0
theorem Zv5 {ty:TypeId} {ks:List K} {c:SC} {x:E} {u:Nat} (h:arrM sx ty ks c=some (x,u)):arrV ex c=(G.o u).val ex:=by
 unfold arrM at h
 split at h
 ·split at h
  ·split at h
   ·simp only [Option.some.injEq,Prod.mk.injEq] at h
    obtain ⟨_,rfl⟩:=h
    rfl
   ·cases h
  ·cases h
 ·cases h
noncomputable def Z3h (ex:Env):List Ck→List SC→List Value
 | .arr _ _::l,x::xs=>arrV ex x::Z3h ex l xs
 | .row _ _::l,x::xs=>x.den ex::Z3h ex l xs
 | _::l,_::xs=>Z3h ex l xs
 | _,_=>[]
theorem Zdk (hrep:Rep ex W0 sx w):∀ {l:List Ck} {cs xs:List SC} {aZ:List B} {es:List E} {us:List Nat},Z2a sx l cs xs=some (aZ,es,us)→(∀ b ∈ aZ,b.den ex.R ex.r=true)→us.Nodup →
  es.length=nvC l∧(Z3h ex l xs).length=ngC l∧VOK ex sx (Z3h ex l xs) us∧∀ (e2:Env) (nv ng:Nat),(∀ c ∈ cs,c.den e2=c.den ex)→(∀ (t:Nat) (n:Int),(es.map (E.den ex.R ex.r))[t]?=some n→e2.r.getD (nv + t) 0=n) →
   (∀ (t:Nat) (v:Value),(Z3h ex l xs)[t]?=some v→(G.o (ng + t)).val e2=v)→(Zmk l cs nv ng).map (SC.den e2)=xs.map (SC.den ex)∧Z6q w e2 (Zfp l nv) (Z3h ex l xs):=by
 intro l
 induction l with
 | nil =>
  intro cs xs aZ es us h _ _
  cases cs <;> cases xs <;> simp only [Z2a,Option.some.injEq,Prod.mk.injEq,reduceCtorEq] at h
  obtain ⟨rfl,rfl,rfl⟩:=h
  exact ⟨rfl,rfl,VOK.nil _ _,fun e2 nv ng _ _ _=>⟨rfl,rfl,fun j b v hb=>by simp [Zfp] at hb⟩⟩
 | cons p l ih =>
  intro cs xs aZ es us h has hnd
  cases cs with
  | nil=>cases p <;> simp [Z2a] at h
  | cons c cs =>
   cases xs with
   | nil=>cases p <;> simp [Z2a] at h
   | cons x xs =>
    cases p with
    | keep =>
     simp only [Z2a] at h
     split at h
     ·rename_i hs
      have hcx:=SC.same_eq hs
      subst hcx
      obtain ⟨h1,h2,h3,h4⟩:=ih h has hnd
      refine ⟨h1,h2,h3,fun e2 nv ng hc hv hg=>?_⟩
      obtain ⟨h5,h6⟩:=h4 e2 nv ng (fun c hc'=>hc c (by simp [hc'])) hv hg
      exact ⟨by simp only [Zmk,Z18k,h5,hc c (by simp)],h6⟩
     ·cases h
    | num k =>
     simp only [Z2a] at h
     split at h
     ·rename_i xe as1 es1 us1 hf hm
      simp only [Option.some.injEq,Prod.mk.injEq] at h
      obtain ⟨rfl,rfl,rfl⟩:=h
      obtain ⟨h1,h2,h3,h4⟩:=ih hm has hnd
      refine ⟨by simp [nvC,h1],by simpa [Z3h,ngC] using h2,by simpa [Z3h] using h3,fun e2 nv ng hc hv hg=>?_⟩
      obtain ⟨h5,h6⟩:=h4 e2 (nv + 1) ng (fun c hc'=>hc c (by simp [hc'])) (fun t n ht=>by
       have:=hv (t + 1) n (by simpa using ht)
       rwa [show nv + (t + 1)=nv + 1 + t by omega] at this) (fun t v ht=>hg t v (by simpa [Z3h] using ht))
      have h0:=hv 0 (xe.den ex.R ex.r) rfl
      rw [Nat.add_zero] at h0
      obtain ⟨_,hd⟩:=Z2p (e:=ex) hf
      simp only [Z18k,Z18l,Z7,List.cons.injEq,and_true] at hd
      refine ⟨?_,by simpa [Zfp,Z3h] using h6⟩
      cases k with
      | i k =>
       simp only [Zmk,Z18k,h5,hd,K.mk]
       congr 1
       simp only [SC.den,E.den,h0]
      | b =>
       simp only [Zmk,Z18k,h5,hd,K.mk]
       congr 1
       simp only [SC.den,B.den,E.den,h0]
      | s ty kr=>cases x <;> simp [Z2j] at hf
     ·cases h
    | row ty ks =>
     simp only [Z2a] at h
     split at h
     ·rename_i as1 xe u1 as2 es2 us2 hr hm
      simp only [Option.some.injEq,Prod.mk.injEq] at h
      obtain ⟨rfl,rfl,rfl⟩:=h
      obtain ⟨h1,h2,h3,h4⟩:=ih hm (fun b hb=>has b (List.mem_append_right _ hb)) (List.nodup_append.1 hnd).2.1
      obtain ⟨r1,r2,r3⟩:=Zv4 hrep hr (fun b hb=>has b (List.mem_append_left _ hb))
      refine ⟨by simp [nvC,h1],by simp [Z3h,ngC,h2],by simpa [Z3h] using VOK.app hrep r2 h3 hnd,fun e2 nv ng hc hv hg=>?_⟩
      obtain ⟨h5,h6⟩:=h4 e2 (nv + 1) (ng + 1) (fun c hc'=>hc c (by simp [hc'])) (fun t n ht=>by
       have:=hv (t + 1) n (by simpa using ht)
       rwa [show nv + (t + 1)=nv + 1 + t by omega] at this) (fun t v ht=>by
       have:=hg (t + 1) v (by simpa [Z3h] using ht)
       rwa [show ng + (t + 1)=ng + 1 + t by omega] at this)
      have h0:=hv 0 (xe.den ex.R ex.r) rfl
      rw [Nat.add_zero] at h0
      have hg0:=hg 0 (x.den ex) rfl
      rw [Nat.add_zero] at hg0
      refine ⟨?_,?_⟩
      ·simp only [Zmk,Z18k,h5]
       congr 1
      ·have hone:Z6q w e2 [(⟨ty,ks,.v nv,true⟩:Row)] [x.den ex]:=⟨rfl,fun j b v hb hv'=>by
        cases j with
        | zero =>
         simp only [Z18e,Option.some.injEq] at hb hv'
         subst hb; subst hv'
         refine ⟨rfl,r3,?_⟩
         show Zs w ty ks _ (e2.r.getD nv 0)
         rw [h0]
         exact r1
        | succ j=>simp at hb⟩
       exact hone.app h6
     ·cases h
    | arr ty ks =>
     simp only [Z2a] at h
     split at h
     ·rename_i xe u1 as2 es2 us2 hr hm
      simp only [Option.some.injEq,Prod.mk.injEq] at h
      obtain ⟨rfl,rfl,rfl⟩:=h
      obtain ⟨h1,h2,h3,h4⟩:=ih hm has (List.nodup_append.1 hnd).2.1
      obtain ⟨r1,r2,r3⟩:=Z160 hrep hr
      have r4:=Zv5 (ex:=ex) hr
      rw [← r4] at r2
      refine ⟨by simp [nvC,h1],by simp [Z3h,ngC,h2],by simpa [Z3h] using VOK.app hrep r2 h3 hnd,fun e2 nv ng hc hv hg=>?_⟩
      obtain ⟨h5,h6⟩:=h4 e2 (nv + 1) (ng + 1) (fun c hc'=>hc c (by simp [hc'])) (fun t n ht=>by
       have:=hv (t + 1) n (by simpa using ht)
       rwa [show nv + (t + 1)=nv + 1 + t by omega] at this) (fun t v ht=>by
       have:=hg (t + 1) v (by simpa [Z3h] using ht)
       rwa [show ng + (t + 1)=ng + 1 + t by omega] at this)
      have h0:=hv 0 (xe.den ex.R ex.r) rfl
      rw [Nat.add_zero] at h0
      have hg0:=hg 0 (arrV ex x) rfl
      rw [Nat.add_zero,r4] at hg0
      refine ⟨?_,?_⟩
      ·simp only [Zmk,Z18k,h5]
       congr 1
       rw [r3]
       simp only [SC.den,hg0,E.den]
       rfl
      ·have hone:Z6q w e2 [(⟨ty,ks,.v nv,true⟩:Row)] [arrV ex x]:=⟨rfl,fun j b v hb hv'=>by
        cases j with
        | zero =>
         simp only [Z18e,Option.some.injEq] at hb hv'
         subst hb; subst hv'
         rw [r4]
         refine ⟨rfl,G.val_slice ex (.o u1),?_⟩
         show Zs w ty ks _ (e2.r.getD nv 0)
         rw [h0]
         exact r1
        | succ j=>simp at hb⟩
       exact hone.app h6
     ·cases h
noncomputable def Zv6 (ex:Env) (p:List Ck) (x:SV):List Value:=match x with
 | .w y=>Z3h ex p y.cells
 | _=>[]
noncomputable def Z8i (ex:Env):List Sk→List SV→List Value
 | .cells p::l,x::xs=>Zv6 ex p x++Z8i ex l xs
 | _::l,_::xs=>Z8i ex l xs
 | _,_=>[]
noncomputable def Zv7 (ex:Env):List Sk→List SV→List Value
 | .un::l,x::xs=>x.den ex::Zv7 ex l xs
 | _::l,_::xs=>Zv7 ex l xs
 | _,_=>[]
theorem Z7j {α:Type} {P:Nat→α→Prop} {a b:List α} (h:∀ (t:Nat) (n:α),(a++b)[t]?=some n→P t n):∀ (t:Nat) (n:α),a[t]?=some n→P t n:=fun t n ht=>h t n (by
 rw [List.getElem?_append_left (List.getElem?_eq_some_iff.1 ht).1]; exact ht)
theorem Z4z {α:Type} {P:Nat→α→Prop} {a b:List α} (h:∀ (t:Nat) (n:α),(a++b)[t]?=some n→P t n):∀ (t:Nat) (n:α),b[t]?=some n→P (a.length + t) n:=fun t n ht=>h _ n (by
 rw [List.getElem?_append_right (by omega),Nat.add_sub_cancel_left]; exact ht)
theorem Zv8 (hrep:Rep ex W0 sx w) {l:List Ck} {v x:SV} {aZ:List B} {es:List E} {us:List Nat} (h:Zou sx l v x=some (aZ,es,us)) (has:∀ b ∈ aZ,b.den ex.R ex.r=true) (hnd:us.Nodup) :
  es.length=nvC l∧(Zv6 ex l x).length=ngC l∧VOK ex sx (Zv6 ex l x) us∧∀ (e2:Env) (nv ng:Nat),(∀ y,v=.w y→∀ c ∈ y.cells,c.den e2=c.den ex)→(∀ (t:Nat) (n:Int),(es.map (E.den ex.R ex.r))[t]?=some n→e2.r.getD (nv + t) 0=n) →
   (∀ (t:Nat) (v:Value),(Zv6 ex l x)[t]?=some v→(G.o (ng + t)).val e2=v)→(genV l v nv ng).den e2=x.den ex∧Z6q w e2 (Zfp l nv) (Zv6 ex l x):=by
 unfold Zou at h
 split at h
 ·rename_i c d
  obtain ⟨h1,h2,h3,h4⟩:=Zdk hrep h has hnd
  refine ⟨h1,h2,h3,fun e2 nv ng hc hv hg=>?_⟩
  obtain ⟨h5,h6⟩:=h4 e2 nv ng (hc _ rfl) hv hg
  refine ⟨?_,h6⟩
  cases hgc:Zmk l [c] nv ng with
  | nil=>rw [hgc] at h5; simp at h5
  | cons c' r =>
   rw [hgc] at h5
   simp only [Z18k,Z18l,List.cons.injEq] at h5
   simp only [genV,hgc]
   exact h5.1
 ·rename_i cs ds
  obtain ⟨h1,h2,h3,h4⟩:=Zdk hrep h has hnd
  refine ⟨h1,h2,h3,fun e2 nv ng hc hv hg=>?_⟩
  obtain ⟨h5,h6⟩:=h4 e2 nv ng (hc _ rfl) hv hg
  refine ⟨?_,h6⟩
  simp only [genV,SV.den,SW.den,h5]
 ·cases h
theorem Zv9 (hrep:Rep ex W0 sx w):∀ {l:List Sk} {vs xs:List SV} {aZ:List B} {es:List E} {us:List Nat},Z2l sx l vs xs=some (aZ,es,us)→(∀ b ∈ aZ,b.den ex.R ex.r=true)→us.Nodup →
  es.length=nvS l∧(Z8i ex l xs).length=ngS l∧(Zv7 ex l xs).length=nxS l∧VOK ex sx (Z8i ex l xs) us∧∀ (e2:Env) (nv ng nx:Nat),(∀ v ∈ vs,v.den e2=v.den ex∧∀ y,v=.w y→∀ c ∈ y.cells,c.den e2=c.den ex) →
   (∀ (t:Nat) (n:Int),(es.map (E.den ex.R ex.r))[t]?=some n→e2.r.getD (nv + t) 0=n)→(∀ (t:Nat) (v:Value),(Z8i ex l xs)[t]?=some v→(G.o (ng + t)).val e2=v) →
   (∀ (t:Nat) (v:Value),(Zv7 ex l xs)[t]?=some v→e2.ω.getD (nx + t) undef=v)→(Zzr l vs nv ng nx).map (SV.den e2)=xs.map (SV.den ex)∧Z6q w e2 (Zjo l nv) (Z8i ex l xs):=by
 intro l
 induction l with
 | nil =>
  intro vs xs aZ es us h _ _
  cases vs <;> cases xs <;> simp only [Z2l,Option.some.injEq,Prod.mk.injEq,reduceCtorEq] at h
  obtain ⟨rfl,rfl,rfl⟩:=h
  exact ⟨rfl,rfl,rfl,VOK.nil _ _,fun e2 nv ng nx _ _ _ _=>⟨rfl,rfl,fun j b v hb=>by simp [Zjo] at hb⟩⟩
 | cons p l ih =>
  intro vs xs aZ es us h has hnd
  cases vs with
  | nil=>cases p <;> simp [Z2l] at h
  | cons v vs =>
   cases xs with
   | nil=>cases p <;> simp [Z2l] at h
   | cons x xs =>
    cases p with
    | keep =>
     simp only [Z2l] at h
     split at h
     ·rename_i hs
      have hcx:=SV.same_eq hs
      subst hcx
      obtain ⟨h1,h2,h2u,h3,h4⟩:=ih h has hnd
      refine ⟨h1,h2,h2u,h3,fun e2 nv ng nx hc hv hg hu=>?_⟩
      obtain ⟨h5,h6⟩:=h4 e2 nv ng nx (fun c hc'=>hc c (by simp [hc'])) hv hg hu
      exact ⟨by simp only [Zzr,Z18k,h5,(hc v (by simp)).1],h6⟩
     ·cases h
    | un =>
     simp only [Z2l] at h
     obtain ⟨h1,h2,h2u,h3,h4⟩:=ih h has hnd
     refine ⟨h1,h2,by simp [Zv7,nxS,h2u],h3,fun e2 nv ng nx hc hv hg hu=>?_⟩
     obtain ⟨h5,h6⟩:=h4 e2 nv ng (nx + 1) (fun c hc'=>hc c (by simp [hc'])) hv hg (fun t v ht=>by
      have:=hu (t + 1) v (by simpa [Zv7] using ht)
      rwa [show nx + (t + 1)=nx + 1 + t by omega] at this)
     have h0:=hu 0 (x.den ex) rfl
     rw [Nat.add_zero] at h0
     exact ⟨by simp only [Zzr,Z18k,h5,SV.den,h0],h6⟩
    | cells p =>
     simp only [Z2l] at h
     split at h
     ·rename_i as1 es1 us1 as2 es2 us2 hm1 hm2
      simp only [Option.some.injEq,Prod.mk.injEq] at h
      obtain ⟨rfl,rfl,rfl⟩:=h
      obtain ⟨n1,n2,n3⟩:=List.nodup_append.1 hnd
      obtain ⟨a1,a2,a3,a4⟩:=Zv8 hrep hm1 (fun b hb=>has b (List.mem_append_left _ hb)) n1
      obtain ⟨b1,b2,b2u,b3,b4⟩:=ih hm2 (fun b hb=>has b (List.mem_append_right _ hb)) n2
      refine ⟨by simp [nvS,a1,b1],by simp [Z8i,ngS,a2,b2],b2u,VOK.app hrep a3 b3 hnd,fun e2 nv ng nx hc hv hg hu=>?_⟩
      rw [List.map_append] at hv
      simp only [Z8i] at hg
      obtain ⟨a5,a6⟩:=a4 e2 nv ng (fun y hy=>(hc v (by simp)).2 y hy) (Z7j hv) (Z7j hg)
      obtain ⟨b5,b6⟩:=b4 e2 (nv + nvC p) (ng + ngC p) nx (fun c hc'=>hc c (by simp [hc'])) (fun t n ht=>by
       have:=Z4z hv t n ht
       rwa [List.length_map,a1,← Nat.add_assoc] at this) (fun t v ht=>by
       have:=Z4z hg t v ht
       rwa [a2,← Nat.add_assoc] at this) hu
      exact ⟨by simp only [Zzr,Z18k,a5,b5],a6.app b6⟩
     ·cases h
noncomputable def Zdl (ex:Env):List (List Ck)→List Blk→List Value
 | p::l,x::xs=>Z3h ex p x.cells++Zdl ex l xs
 | _,_=>[]
theorem Zva (hrep:Rep ex W0 sx w):∀ {l:List (List Ck)} {bs xs:List Blk} {aZ:List B} {es:List E} {us:List Nat},Z4s sx l bs xs=some (aZ,es,us)→(∀ b ∈ aZ,b.den ex.R ex.r=true)→us.Nodup →
  l.length=bs.length∧es.length=nvM l∧(Zdl ex l xs).length=(l.map ngC).sum∧VOK ex sx (Zdl ex l xs) us∧∀ (e2:Env) (nv ng:Nat),(∀ b ∈ bs,∀ c ∈ b.cells,c.den e2=c.den ex) →
   (∀ (t:Nat) (n:Int),(es.map (E.den ex.R ex.r))[t]?=some n→e2.r.getD (nv + t) 0=n)→(∀ (t:Nat) (v:Value),(Zdl ex l xs)[t]?=some v→(G.o (ng + t)).val e2=v) →
   (∀ (n:Nat) (b:Blk),(Zzs l bs nv ng)[n]?=some b→∃ x:Blk,xs[n]?=some x∧x.live=true∧b.ty=x.ty∧b.cells.map (SC.den e2)=x.cells.map (SC.den ex))∧Z6q w e2 (Zml l nv) (Zdl ex l xs)∧(Zzs l bs nv ng).length=bs.length:=by
 intro l
 induction l with
 | nil =>
  intro bs xs aZ es us h _ _
  cases bs <;> simp only [Z4s,Option.some.injEq,Prod.mk.injEq,reduceCtorEq] at h
  obtain ⟨rfl,rfl,rfl⟩:=h
  exact ⟨rfl,rfl,rfl,VOK.nil _ _,fun e2 nv ng _ _ _=>⟨fun n b hb=>by simp [Zzs] at hb,⟨rfl,fun j b v hb=>by simp [Zml] at hb⟩,rfl⟩⟩
 | cons p l ih =>
  intro bs xs aZ es us h has hnd
  cases bs with
  | nil=>simp [Z4s] at h
  | cons b bs =>
   cases xs with
   | nil=>simp [Z4s] at h
   | cons x xs =>
    simp only [Z4s] at h
    split at h
    ·rename_i hc
     simp only [Z18r,Z18s] at hc
     split at h
     ·rename_i as1 es1 us1 as2 es2 us2 hm1 hm2
      simp only [Option.some.injEq,Prod.mk.injEq] at h
      obtain ⟨rfl,rfl,rfl⟩:=h
      obtain ⟨n1,n2,n3⟩:=List.nodup_append.1 hnd
      obtain ⟨a1,a2,a3,a4⟩:=Zdk hrep hm1 (fun b hb=>has b (List.mem_append_left _ hb)) n1
      obtain ⟨b0,b1,b2,b3,b4⟩:=ih hm2 (fun b hb=>has b (List.mem_append_right _ hb)) n2
      refine ⟨by simp [b0],by simp [nvM,a1,b1],by simp [Zdl,a2,b2],VOK.app hrep a3 b3 hnd,fun e2 nv ng hcc hv hg=>?_⟩
      rw [List.map_append] at hv
      simp only [Zdl] at hg
      obtain ⟨a5,a6⟩:=a4 e2 nv ng (hcc b (by simp)) (Z7j hv) (Z7j hg)
      obtain ⟨b5,b6,b7⟩:=b4 e2 (nv + nvC p) (ng + ngC p) (fun b hb=>hcc b (by simp [hb])) (fun t n ht=>by
       have:=Z4z hv t n ht
       rwa [List.length_map,a1,← Nat.add_assoc] at this) (fun t v ht=>by
       have:=Z4z hg t v ht
       rwa [a2,← Nat.add_assoc] at this)
      refine ⟨fun n b' hb'=>?_,a6.app b6,by simp [Zzs,b7]⟩
      cases n with
      | zero =>
       simp only [Zzs,Z18e,Option.some.injEq] at hb'
       subst hb'
       exact ⟨x,rfl,hc.1.2,hc.2,a5⟩
      | succ n =>
       obtain ⟨y,h1,h2⟩:=b5 n b' (by simpa [Zzs] using hb')
       exact ⟨y,by simpa using h1,h2⟩
     ·cases h
    ·cases h
theorem Zkg (us:List Nat):∀ (l:List Row) (k n:Nat),(Z64 us k l)[n]?=(l[n]?).map fun b=>if us.contains (k + n) then { b with live:=false } else b
 | [],k,n=>by simp [Z64]
 | b::l,k,0=>by simp [Z64]
 | b::l,k,n + 1=>by
  simp only [Z64,Z18f]
  rw [Zkg us l (k + 1) n]
  simp only [Nat.add_assoc,Nat.add_comm 1 n]
theorem Z2g (us:List Nat):∀ (l:List Row) (k:Nat),(Z64 us k l).length=l.length
 | [],_=>rfl
 | _::l,k=>by simp [Z64,Z2g us l (k + 1)]
theorem Zao {us:List Nat} {l:List Row} {n:Nat} {b:Row} (h:(Z64 us 0 l)[n]?=some b) (hl:b.live=true):l[n]?=some b∧n ∉ us:=by
 rw [Zkg,Option.map_eq_some_iff] at h
 obtain ⟨b',h1,h2⟩:=h
 simp only [Nat.zero_add] at h2
 split at h2
 ·subst h2; cases hl
 ·rename_i hn
  subst h2
  exact ⟨h1,by simpa using hn⟩
theorem Zgd {us:List Nat}:∀ {l xs:List Row} {k:Nat},Zrv us k l xs=true→∀ (n:Nat) (b:Row),l[n]?=some b→b.live=true→k + n ∉ us∧∃ x:Row,xs[n]?=some x∧x.live=true∧b.ty=x.ty∧b.ks=x.ks∧b.c=x.c
 | [],_,_,_,n,b,hb,_=>by simp at hb
 | b0::l,[],k,h,_,_,_,_=>by simp [Zrv] at h
 | b0::l,x::xs,k,h,n,b,hb,hl=>by
  simp only [Zrv,Z18r] at h
  cases n with
  | zero =>
   simp only [Z18e,Option.some.injEq] at hb
   subst hb
   have h1:=h.1
   simp only [hl,Bool.not_true,Bool.false_or,Z18r,Z18s,Bool.not_eq_true'] at h1
   obtain ⟨⟨⟨⟨h2,h3⟩,h4⟩,h5⟩,h6⟩:=h1
   exact ⟨by simpa using h6,x,rfl,h2,h3,Z26 h4,E.same_eq _ _ h5⟩
  | succ n =>
   obtain ⟨h1,y,h2⟩:=Zgd h.2 n b (by simpa using hb) hl
   exact ⟨by rwa [show k + (n + 1)=k + 1 + n by omega],y,by simpa using h2⟩
theorem Zdm {v:Value} (h:∃ a l c,v=.slice a l c):slV v=v:=by
 obtain ⟨a,l,c,rfl⟩:=h
 rfl
theorem E.den_R (R R':Fo) (r:List Int):∀ a:E,a.den R r=a.den R' r:=by
 intro a
 induction a <;> simp only [E.den] <;> simp_all
theorem Z8j (hrep:Rep ex W0 sx w):∀ {l:List Ck} {cs xs:List SC} {aZ:List B} {es:List E} {us:List Nat},Z2a sx l cs xs=some (aZ,es,us)→(∀ b ∈ aZ,b.den ex.R ex.r=true)→∀ v ∈ Z3h ex l xs,∃ a l c,v=.slice a l c:=by
 intro l
 induction l with
 | nil=>intro cs xs aZ es us _ _ v hv; cases xs <;> simp [Z3h] at hv
 | cons p l ih =>
  intro cs xs aZ es us h has v hv
  cases cs with
  | nil=>cases p <;> simp [Z2a] at h
  | cons c cs =>
   cases xs with
   | nil=>cases p <;> simp [Z2a] at h
   | cons x xs =>
    cases p with
    | keep =>
     simp only [Z2a] at h
     split at h
     ·exact ih h has v (by simpa [Z3h] using hv)
     ·cases h
    | num k =>
     simp only [Z2a] at h
     split at h
     ·rename_i xe as1 es1 us1 hf hm
      simp only [Option.some.injEq,Prod.mk.injEq] at h
      obtain ⟨rfl,rfl,rfl⟩:=h
      exact ih hm has v (by simpa [Z3h] using hv)
     ·cases h
    | row ty ks =>
     simp only [Z2a] at h
     split at h
     ·rename_i as1 xe u1 as2 es2 us2 hr hm
      simp only [Option.some.injEq,Prod.mk.injEq] at h
      obtain ⟨rfl,rfl,rfl⟩:=h
      simp only [Z3h,List.mem_cons] at hv
      rcases hv with rfl | hv
      ·exact (Zv4 hrep hr (fun b hb=>has b (List.mem_append_left _ hb))).2.2
      ·exact ih hm (fun b hb=>has b (List.mem_append_right _ hb)) v hv
     ·cases h
    | arr ty ks =>
     simp only [Z2a] at h
     split at h
     ·rename_i xe u1 as2 es2 us2 hr hm
      simp only [Option.some.injEq,Prod.mk.injEq] at h
      obtain ⟨rfl,rfl,rfl⟩:=h
      simp only [Z3h,List.mem_cons] at hv
      rcases hv with rfl | hv
      ·rw [Zv5 hr]
       exact G.val_slice ex (.o u1)
      ·exact ih hm has v hv
     ·cases h
theorem Zn0 (hrep:Rep ex W0 sx w):∀ {l:List Sk} {vs xs:List SV} {aZ:List B} {es:List E} {us:List Nat},Z2l sx l vs xs=some (aZ,es,us)→(∀ b ∈ aZ,b.den ex.R ex.r=true)→∀ v ∈ Z8i ex l xs,∃ a l c,v=.slice a l c:=by
 intro l
 induction l with
 | nil=>intro cs xs aZ es us _ _ v hv; cases xs <;> simp [Z8i] at hv
 | cons p l ih =>
  intro vs xs aZ es us h has v hv
  cases vs with
  | nil=>cases p <;> simp [Z2l] at h
  | cons c cs =>
   cases xs with
   | nil=>cases p <;> simp [Z2l] at h
   | cons x xs =>
    cases p with
    | keep =>
     simp only [Z2l] at h
     split at h
     ·exact ih h has v (by simpa [Z8i] using hv)
     ·cases h
    | un =>
     simp only [Z2l] at h
     exact ih h has v (by simpa [Z8i] using hv)
    | cells p =>
     simp only [Z2l] at h
     split at h
     ·rename_i as1 es1 us1 as2 es2 us2 hm1 hm2
      simp only [Option.some.injEq,Prod.mk.injEq] at h
      obtain ⟨rfl,rfl,rfl⟩:=h
      simp only [Z8i,List.mem_append] at hv
      rcases hv with hv | hv
      ·unfold Zou at hm1
       split at hm1
       ·exact Z8j hrep hm1 (fun b hb=>has b (List.mem_append_left _ hb)) v hv
       ·exact Z8j hrep hm1 (fun b hb=>has b (List.mem_append_left _ hb)) v hv
       ·cases hm1
      ·exact ih hm2 (fun b hb=>has b (List.mem_append_right _ hb)) v hv
     ·cases h
theorem Zn1 (hrep:Rep ex W0 sx w):∀ {l:List (List Ck)} {bs xs:List Blk} {aZ:List B} {es:List E} {us:List Nat},Z4s sx l bs xs=some (aZ,es,us)→(∀ b ∈ aZ,b.den ex.R ex.r=true)→∀ v ∈ Zdl ex l xs,∃ a l c,v=.slice a l c:=by
 intro l
 induction l with
 | nil=>intro cs xs aZ es us _ _ v hv; cases xs <;> simp [Zdl] at hv
 | cons p l ih =>
  intro vs xs aZ es us h has v hv
  cases vs with
  | nil=>simp [Z4s] at h
  | cons c cs =>
   cases xs with
   | nil=>simp [Z4s] at h
   | cons x xs =>
    simp only [Z4s] at h
    split at h
    ·split at h
     ·rename_i as1 es1 us1 as2 es2 us2 hm1 hm2
      simp only [Option.some.injEq,Prod.mk.injEq] at h
      obtain ⟨rfl,rfl,rfl⟩:=h
      simp only [Zdl,List.mem_append] at hv
      rcases hv with hv | hv
      ·exact Z8j hrep hm1 (fun b hb=>has b (List.mem_append_left _ hb)) v hv
      ·exact ih hm2 (fun b hb=>has b (List.mem_append_right _ hb)) v hv
     ·cases h
    ·cases h
theorem Zkh {pl:Zai} {s:St} {e:Env} {w0:World} {a:Act} {us0:List Nat} {as1 as2:List B} {es1 es2:List E} {us1 us2:List Nat} (h0:Rep e W0 s w0) (hsc:s.sc=true) (hle:Env.le e ex) (hx:Rel ex W0 sx a w)
  (hfl:sx.fl=s.fl) (hflr:sx.flr=s.flr) (hm1:Z2l sx pl.fr s.fr sx.fr=some (as1,es1,us1)) (hm2:Z4s sx pl.mem s.mem sx.mem=some (as2,es2,us2)) (hnd:Zbc (us1++us2)=true) (has:∀ b ∈ as1++as2,b.den ex.R ex.r=true)
  (hrows:∀ (n:Nat) (b:Row),(Z64 us0 0 s.rows)[n]?=some b→b.live=true→n ∉ us1++us2∧∃ x:Row,sx.rows[n]?=some x∧x.live=true∧b.ty=x.ty∧b.ks=x.ks∧b.c=x.c) :
  ∃ e2,Env.le e e2∧e2.r=e.r++(es1++es2).map (E.den ex.R ex.r)∧e2.R=e.R∧Rel e2 W0 (Z15o pl s us0) a w:=by
 have hN:=Z5k hnd
 obtain ⟨n1,n2,n3⟩:=List.nodup_append.1 hN
 obtain ⟨a1,a2,a2u,a3,a4⟩:=Zv9 hx.rep hm1 (fun b hb=>has b (List.mem_append_left _ hb)) n1
 obtain ⟨b0,b1,b2,b3,b4⟩:=Zva hx.rep hm2 (fun b hb=>has b (List.mem_append_right _ hb)) n2
 have hV:=VOK.app hx.rep a3 b3 hN
 generalize hvals:Z8i ex pl.fr sx.fr++Zdl ex pl.mem sx.mem=vals at hV
 have hle2:Env.le e { r:=e.r++(es1++es2).map (E.den ex.R ex.r),β:=e.β,σ:=e.σ++vals,ω:=e.ω++Zv7 ex pl.fr sx.fr,R:=e.R }:=⟨(es1++es2).map (E.den ex.R ex.r),[],vals,Zv7 ex pl.fr sx.fr,by simp⟩
 generalize he2:({ r:=e.r++(es1++es2).map (E.den ex.R ex.r),β:=e.β,σ:=e.σ++vals,ω:=e.ω++Zv7 ex pl.fr sx.fr,R:=e.R }:Env)=e2 at hle2
 have er:e2.r=e.r++(es1++es2).map (E.den ex.R ex.r):=by rw [← he2]
 have eβ:e2.β=e.β:=by rw [← he2]
 have eσ:e2.σ=e.σ++vals:=by rw [← he2]
 have eω:e2.ω=e.ω++Zv7 ex pl.fr sx.fr:=by rw [← he2]
 have eR:e2.R=e.R:=by rw [← he2]
 have hsc':=hsc
 simp only [St.sc,Z18r] at hsc'
 obtain ⟨⟨sf,sm⟩,sr,sh⟩:=hsc'
 rw [← h0.nv,← h0.nb,← h0.ng] at sf sm
 rw [← h0.nx] at sf
 rw [← h0.nv] at sr sh
 have cden:∀ c:SC,c.sc e.r.length e.β.length e.σ.length=true→c.den e2=c.den ex:=fun c hc=>(SC.den_le hle2 c hc).trans (SC.den_le hle c hc).symm
 have vden:∀ v ∈ s.fr,v.den e2=v.den ex∧∀ y,v=.w y→∀ c ∈ y.cells,c.den e2=c.den ex:=fun v hv=>by
  have h1:=List.all_eq_true.1 sf v hv
  refine ⟨(SV.den_le hle2 v h1).trans (SV.den_le hle v h1).symm,fun y hy c hc=>cden c ?_⟩
  subst hy
  cases y with
  | o c'=>simp only [SW.cells,List.mem_singleton] at hc; subst hc; exact h1
  | a cs=>exact List.all_eq_true.1 h1 c hc
 have hv:∀ (t:Nat) (n:Int),((es1++es2).map (E.den ex.R ex.r))[t]?=some n→e2.r.getD (s.nv + t) 0=n:=fun t n ht=>by
  rw [er,← h0.nv]
  simp only [List.getD]
  rw [List.getElem?_append_right (by omega),Nat.add_sub_cancel_left,ht]
  rfl
 have hsl:∀ v ∈ vals,∃ a l c,v=.slice a l c:=by
  intro v hv'
  obtain ⟨j,hj⟩:=List.getElem?_of_mem hv'
  rw [← hvals] at hj
  have key:∀ {rows:List Row} {vs:List Value} {e3:Env},Z6q w e3 rows vs→∀ {j:Nat} {v:Value},vs[j]?=some v→∃ a l c,v=.slice a l c:=by
   intro rows vs e3 hR j v hj
   have hlt:j < rows.length:=by rw [hR.1]; exact (List.getElem?_eq_some_iff.1 hj).1
   exact (hR.2 j rows[j] v (List.getElem?_eq_getElem hlt) hj).2.1
  rcases Nat.lt_or_ge j (Z8i ex pl.fr sx.fr).length with hlt | hge
  ·rw [List.getElem?_append_left hlt] at hj
   exact Zn0 hx.rep hm1 (fun b hb=>has b (List.mem_append_left _ hb)) v (List.mem_of_getElem? hj)
  ·rw [List.getElem?_append_right hge] at hj
   exact Zn1 hx.rep hm2 (fun b hb=>has b (List.mem_append_right _ hb)) v (List.mem_of_getElem? hj)
 have hg:∀ (t:Nat) (v:Value),vals[t]?=some v→(G.o (s.rows.length + t)).val e2=v:=fun t v ht=>by
  simp only [G.val]
  rw [eσ,← h0.ng]
  have:(e.σ++vals).getD (e.σ.length + t) undef=v:=by
   simp only [List.getD]
   rw [List.getElem?_append_right (by omega),Nat.add_sub_cancel_left,ht]
   rfl
  rw [this]
  exact Zdm (hsl v (List.mem_of_getElem? ht))
 have hu:∀ (t:Nat) (v:Value),(Zv7 ex pl.fr sx.fr)[t]?=some v→e2.ω.getD (s.nx + t) undef=v:=fun t v ht=>by
  rw [eω,← h0.nx]
  simp only [List.getD]
  rw [List.getElem?_append_right (by omega),Nat.add_sub_cancel_left,ht]
  rfl
 rw [List.map_append] at hv
 rw [← hvals] at hg
 obtain ⟨a5,a6⟩:=a4 e2 s.nv s.rows.length s.nx vden (Z7j hv) (Z7j hg) hu
 obtain ⟨b5,b6,b7⟩:=b4 e2 (s.nv + nvS pl.fr) (s.rows.length + ngS pl.fr) (fun b hb c hc=>cden c (List.all_eq_true.1 (List.all_eq_true.1 sm b hb) c hc)) (fun t n ht=>by
  have:=Z4z hv t n ht
  rwa [List.length_map,a1,← Nat.add_assoc] at this) (fun t v ht=>by
  have:=Z4z hg t v ht
  rwa [a2,← Nat.add_assoc] at this)
 have hR:=a6.app b6
 rw [hvals] at hR hg
 have hold:∀ (n:Nat) (b:Row),(Z64 us0 0 s.rows)[n]?=some b→b.live=true→n < s.rows.length∧n ∉ us1++us2∧(G.o n).val e2=(G.o n).val ex∧∃ x:Row,sx.rows[n]?=some x∧x.live=true∧Zs w b.ty b.ks ((G.o n).val e2) (b.c.den e2.R e2.r):=fun n b hb hl=>by
  obtain ⟨h1,x,h2,h3,h4,h5,h6⟩:=hrows n b hb hl
  obtain ⟨hb',_⟩:=Zao hb hl
  have hlt:=(List.getElem?_eq_some_iff.1 hb').1
  have hgs:(G.o n).sc e.r.length e.σ.length=true:=by simp only [G.sc,Z18s]; rw [h0.ng]; exact hlt
  have hval:(G.o n).val e2=(G.o n).val ex:=(G.val_le hle2 _ hgs).trans (G.val_le hle _ hgs).symm
  refine ⟨hlt,h1,hval,x,h2,h3,?_⟩
  rw [hval,h4,h5]
  have hcd:b.c.den e2.R e2.r=x.c.den ex.R ex.r:=by
   rw [← h6]
   have hbs:=List.all_eq_true.1 sr b (List.mem_of_getElem? hb')
   have hle':=hle
   obtain ⟨p,_,_,_,q1,_,_,_,q5⟩:=hle'
   rw [er,q1,E.den_app _ _ _ _ hbs,E.den_app _ _ _ _ hbs]
   exact E.den_R _ _ _ _
  rw [hcd]
  exact hx.rep.row n x h2 h3
 have hcases:∀ (n:Nat) (b:Row),(Z15o pl s us0).rows[n]?=some b→b.live=true→(n < s.rows.length∧(Z64 us0 0 s.rows)[n]?=some b)∨∃ j v,n=s.rows.length + j∧(Zjo pl.fr s.nv++Zml pl.mem (s.nv + nvS pl.fr))[j]?=some b∧vals[j]?=some v∧(G.o n).val e2=v:=by
  intro n b hb hl
  have hb':(Z64 us0 0 s.rows++(Zjo pl.fr s.nv++Zml pl.mem (s.nv + nvS pl.fr)))[n]?=some b:=hb
  rcases Nat.lt_or_ge n s.rows.length with hn | hn
  ·rw [List.getElem?_append_left (by rw [Z2g]; exact hn)] at hb'
   exact .inl ⟨hn,hb'⟩
  ·rw [List.getElem?_append_right (by rw [Z2g]; exact hn),Z2g] at hb'
   have hj:=(List.getElem?_eq_some_iff.1 hb').1
   have hv':vals[n - s.rows.length]?=some (vals[n - s.rows.length]'(by rw [← hR.1]; exact hj)):=List.getElem?_eq_getElem (by rw [← hR.1]; exact hj)
   refine .inr ⟨n - s.rows.length,_,by omega,hb',hv',?_⟩
   have:=hg _ _ hv'
   rwa [show s.rows.length + (n - s.rows.length)=n by omega] at this
 have hβ:∀ n,n < s.mem.length→e.β.getD n 0=ex.β.getD n 0:=fun n hn=>by
  obtain ⟨_,p,_,_,_,q2,_⟩:=hle
  rw [q2,Z12 _ _ _ _ (by rw [h0.nb]; exact hn)]
 have hmem:∀ (n:Nat) (b:Blk),(Z15o pl s us0).mem[n]?=some b→n < s.mem.length∧∃ x:Blk,sx.mem[n]?=some x∧x.live=true∧b.ty=x.ty∧b.cells.map (SC.den e2)=x.cells.map (SC.den ex):=fun n b hb=>by
  have hb':(Zzs pl.mem s.mem (s.nv + nvS pl.fr) (s.rows.length + ngS pl.fr))[n]?=some b:=hb
  refine ⟨by rw [← b7]; exact (List.getElem?_eq_some_iff.1 hb').1,b5 n b hb'⟩
 have hnewblk:∀ v ∈ vals,∀ k,Z6 v=some k→∃ n b,n ∈ us1++us2∧sx.rows[n]?=some b∧b.live=true∧sx.flr≤n∧Z6 ((G.o n).val ex)=some k:=hV.2
 refine ⟨e2,hle2,er,eR,⟨⟨hx.rep.below,?_,?_,?_,?_,?_,?_,?_,?_,?_,?_,?_,h0.gl,?_⟩,?_,hx.defs⟩⟩
 ·rw [eβ,h0.nb]; exact b7.symm
 ·show e2.σ.length=(Z64 us0 0 s.rows++(Zjo pl.fr s.nv++Zml pl.mem (s.nv + nvS pl.fr))).length
  rw [eσ,List.length_append,List.length_append,Z2g,h0.ng,hR.1]
 ·show e2.r.length=s.nv + (nvS pl.fr + nvM pl.mem)
  rw [er,List.length_append,List.length_map,List.length_append,a1,b1,h0.nv]
 ·show e2.ω.length=s.nx + nxS pl.fr
  rw [eω,List.length_append,a2u,h0.nx]
 ·intro n b hb hl
  obtain ⟨hn,x,h1,h2,h3,h4⟩:=hmem n b hb
  rw [eβ,hβ n hn,h4,h3]
  exact hx.rep.blk n x h1 h2
 ·intro n b hb hl hf
  obtain ⟨hn,x,h1,h2,h3,h4⟩:=hmem n b hb
  rw [eβ,hβ n hn]
  exact hx.rep.own n x h1 h2 (by rw [hfl]; exact hf)
 ·intro n m b c hb hc hlb hlc heq
  obtain ⟨hn,x,h1,h2,_⟩:=hmem n b hb
  obtain ⟨hm',y,h1',h2',_⟩:=hmem m c hc
  rw [eβ,hβ n hn,hβ m hm'] at heq
  exact hx.rep.sep n m x y h1 h1' h2 h2' heq
 ·intro n b hb hl
  rcases hcases n b hb hl with ⟨hn,hb'⟩ | ⟨j,v,rfl,hj,hv',hval⟩
  ·obtain ⟨_,_,_,_,_,_,h⟩:=hold n b hb' hl; exact h
  ·rw [hval]; exact (hR.2 j b v hj hv').2.2
 ·intro n b hb hl hf k hk
  rcases hcases n b hb hl with ⟨hn,hb'⟩ | ⟨j,v,rfl,hj,hv',hval⟩
  ·obtain ⟨_,_,hval,x,h1,h2,_⟩:=hold n b hb' hl
   rw [hval] at hk
   exact hx.rep.rown n x h1 h2 (by rw [hflr]; exact hf) k hk
  ·rw [hval] at hk
   obtain ⟨m,bb,_,h2,h3,h4,h5⟩:=hnewblk v (List.mem_of_getElem? hv') k hk
   exact hx.rep.rown m bb h2 h3 h4 k h5
 ·intro n m b c k hb hc hlb hlc hk hk'
  rcases hcases n b hb hlb with ⟨hn,hb'⟩ | ⟨j,v,rfl,hj,hv',hval⟩ <;> rcases hcases m c hc hlc with ⟨hm',hc'⟩ | ⟨j',v',rfl,hj',hv'',hval'⟩
  ·obtain ⟨_,_,hval,x,h1,h2,_⟩:=hold n b hb' hlb
   obtain ⟨_,_,hval',y,h1',h2',_⟩:=hold m c hc' hlc
   rw [hval] at hk
   rw [hval'] at hk'
   exact hx.rep.rsep n m x y k h1 h1' h2 h2' hk hk'
  ·obtain ⟨_,hnu,hval,x,h1,h2,_⟩:=hold n b hb' hlb
   rw [hval] at hk
   rw [hval'] at hk'
   obtain ⟨q,bb,h3,h4,h5,_,h7⟩:=hnewblk v' (List.mem_of_getElem? hv'') k hk'
   have:=hx.rep.rsep n q x bb k h1 h4 h2 h5 hk h7
   subst this
   exact absurd h3 hnu
  ·obtain ⟨_,hnu,hval'',x,h1,h2,_⟩:=hold m c hc' hlc
   rw [hval] at hk
   rw [hval''] at hk'
   obtain ⟨q,bb,h3,h4,h5,_,h7⟩:=hnewblk v (List.mem_of_getElem? hv') k hk
   have:=hx.rep.rsep m q x bb k h1 h4 h2 h5 hk' h7
   subst this
   exact absurd h3 hnu
  ·rw [hval] at hk
   rw [hval'] at hk'
   rw [Z5h hV.1 j j' v v' k hv' hv'' hk hk']
 ·intro n m b c hb hc hlb hlc
  obtain ⟨hn,x,h1,h2,_⟩:=hmem n b hb
  rw [eβ,hβ n hn]
  rcases hcases m c hc hlc with ⟨hm',hc'⟩ | ⟨j',v',rfl,hj',hv'',hval'⟩
  ·obtain ⟨_,_,hval,y,h1',h2',_⟩:=hold m c hc' hlc
   rw [hval]
   exact hx.rep.brs n m x y h1 h1' h2 h2'
  ·rw [hval']
   intro hk
   obtain ⟨q,bb,_,h4,h5,_,h7⟩:=hnewblk v' (List.mem_of_getElem? hv'') _ hk
   exact hx.rep.brs n q x bb h1 h4 h2 h5 h7
 ·intro i ks c hi
  have hi':s.hs[i]?=some (ks,c):=hi
  have:=h0.arg i ks c hi'
  have hcs:=List.all_eq_true.1 sh (ks,c) (List.mem_of_getElem? hi')
  rw [er,eR,E.den_app _ _ _ _ hcs]
  rw [show (G.a i).val e2=(G.a i).val e by simp only [G.val,eR]]
  exact this
 ·show a.tmps=((Zzr pl.fr s.fr s.nv s.rows.length s.nx).map (SV.den e2)).toArray
  rw [a5]
  exact hx.tmps
end
end Go.Sx
namespace Go.Sx
open Go.RowKit
section
variable {P:Program} {Γ:List Sum} {Ψ:List Int→Prop} {bs:List (List Int→Prop)}
theorem Zdn:∀ (l:List Oper),Z76 l≤l.length
 | []=>by simp [Z76]
 | o::l=>by
  have:=Zdn l
  simp only [Z76,List.length_cons]
  split <;> omega
theorem Zn2 {s:St} {n:Nat} (h:Zui s n=true):∃ b,s.mem[n]?=some b∧b.live=true:=by
 unfold Zui at h
 split at h
 ·rename_i b hb
  exact ⟨b,hb,h⟩
 ·cases h
theorem Z9c {R:Fo} {r:List Int}:∀ {l:List T},(Zjl l).sat Γ R Ψ bs r→∀ t ∈ l,t.sat Γ R Ψ bs r
 | [],h,t,ht=>by cases ht
 | [x],h,t,ht=>by
  simp only [List.mem_singleton] at ht
  subst ht
  exact h
 | x::y::l,h,t,ht=>by
  simp only [Zjl] at h
  rcases List.mem_cons.1 ht with rfl | ht
  ·exact h.1
  ·exact Z9c h.2 t ht
mutual
theorem K.eqv_eq:∀ {k m:K},K.eqv k m=true→k=m
 | .i x,.i y,h=>by simp only [K.eqv,beq_iff_eq] at h; rw [h]
 | .b,.b,_=>rfl
 | .s t x,.s u y,h=>by
  simp only [K.eqv,Z18r,beq_iff_eq] at h
  rw [h.1,K.eqvL_eq h.2]
 | .i _,.b,h=>by simp [K.eqv] at h
 | .i _,.s _ _,h=>by simp [K.eqv] at h
 | .b,.i _,h=>by simp [K.eqv] at h
 | .b,.s _ _,h=>by simp [K.eqv] at h
 | .s _ _,.i _,h=>by simp [K.eqv] at h
 | .s _ _,.b,h=>by simp [K.eqv] at h
theorem K.eqvL_eq:∀ {a b:List K},K.eqvL a b=true→a=b
 | [],[],_=>rfl
 | x::xs,y::ys,h=>by
  simp only [K.eqvL,Z18r] at h
  rw [K.eqv_eq h.1,K.eqvL_eq h.2]
 | [],_::_,h=>by simp [K.eqvL] at h
 | _::_,[],h=>by simp [K.eqvL] at h
end
theorem Zki:∀ {a b:List Blk},Zfx a b=true→a=b
 | [],[],_=>rfl
 | ⟨x1,x2,x3⟩::xs,⟨y1,y2,y3⟩::ys,h=>by
  simp only [Zfx,Z18r,beq_iff_eq] at h
  rw [h.1.1,Zhh h.1.2.1,h.1.2.2,Zki h.2]
 | [],_::_,h=>by simp [Zfx] at h
 | _::_,[],h=>by simp [Zfx] at h
theorem Zkj:∀ {a b:List Row},Zfy a b=true→a=b
 | [],[],_=>rfl
 | ⟨x1,x2,x3,x4⟩::xs,⟨y1,y2,y3,y4⟩::ys,h=>by
  simp only [Zfy,Z18r,beq_iff_eq] at h
  rw [h.1.1,K.eqvL_eq h.1.2.1,E.same_eq _ _ h.1.2.2.1,h.1.2.2.2,Zkj h.2]
 | [],_::_,h=>by simp [Zfy] at h
 | _::_,[],h=>by simp [Zfy] at h
theorem Zpg:∀ {a b:List SV},Zrt a b=true→a=b
 | [],[],_=>rfl
 | x::xs,y::ys,h=>by
  simp only [Zrt,Z18r] at h
  rw [SV.same_eq h.1,Zpg h.2]
 | [],_::_,h=>by simp [Zrt] at h
 | _::_,[],h=>by simp [Zrt] at h
theorem Zkk:∀ {a b:List (List K × E)},Zfz a b=true→a=b
 | [],[],_=>rfl
 | (x1,x2)::xs,(y1,y2)::ys,h=>by
  simp only [Zfz,Z18r] at h
  rw [K.eqvL_eq h.1.1,E.same_eq _ _ h.1.2,Zkk h.2]
 | [],_::_,h=>by simp [Zfz] at h
 | _::_,[],h=>by simp [Zfz] at h
theorem Zkl:∀ {a b:List (Nat × List Int)},Zg0 a b=true→a=b
 | [],[],_=>rfl
 | (x1,x2)::xs,(y1,y2)::ys,h=>by
  simp only [Zg0,Zud,Z18r,beq_iff_eq] at h
  rw [h.1.1,h.1.2,Zkl h.2]
 | [],_::_,h=>by simp [Zg0] at h
 | _::_,[],h=>by simp [Zg0] at h
theorem Z9d:∀ {a b:List E},Zbb a b=true→a=b
 | [],[],_=>rfl
 | x::xs,y::ys,h=>by
  simp only [Zbb,Z18r] at h
  rw [E.same_eq _ _ h.1,Z9d h.2]
 | [],_::_,h=>by simp [Zbb] at h
 | _::_,[],h=>by simp [Zbb] at h
theorem Zdo:∀ {a b:List (Nat × List E)},Z75 a b=true→a=b
 | [],[],_=>rfl
 | (x1,x2)::xs,(y1,y2)::ys,h=>by
  simp only [Z75,Z18r,beq_iff_eq] at h
  rw [h.1.1,Z9d h.1.2,Zdo h.2]
 | [],_::_,h=>by simp [Z75] at h
 | _::_,[],h=>by simp [Z75] at h
theorem St.same_eq {a b:St} (h:a.same b=true):a=b:=by
 obtain ⟨a1,a2,a3,a4,a5,a6,a7,a8,a9,a10⟩:=a
 obtain ⟨b1,b2,b3,b4,b5,b6,b7,b8,b9,b10⟩:=b
 simp only [St.same,Z18r,beq_iff_eq] at h
 obtain ⟨⟨h1,h2,h3⟩,⟨h4,h5,h6,h7⟩,h8,h9,h10⟩:=h
 rw [Zpg h1,Zki h2,Zkj h3,h4,h5,h6,h7,Zkl h8,Zkk h9,h10]
theorem Zmj.same_eq {a b:Zmj} (h:Zmj.same a b=true):a=b:=by
 simp only [Zmj.same,Z18r] at h
 exact Prod.ext (Zdo h.1) (St.same_eq h.2)
theorem Zdp:∀ {aZ:List B} {t:T},aZ.all isT=true→Z3m aZ t=t
 | [],t,_=>rfl
 | b::l,t,h=>by
  simp only [List.all_cons,Z18r] at h
  obtain ⟨h1,h2⟩:=h
  cases b with
  | c x =>
   cases x with
   | true=>exact Zdp (aZ:=l) h2
   | false=>cases h1
  | _=>cases h1
theorem Z161 {ih:Code→St→Z80→T} {o:Oper} {s s1:St} {c:Option (Nat × List E)} (h:rawS P Γ o s=some (c,s1)) (k:St→T):opT P Γ ih o s k=Z3b c.toList (k s1):=by
 have one1:∀ {aZ:List B} {v:SV} {s':St},op1 P s o=some (aZ,v,s')→(if aZ.all isT then some ((none:Option (Nat × List E)),s'.put o.dst v) else none)=some (c,s1)→Z3m aZ (k (s'.put o.dst v))=Z3b c.toList (k s1):=by
  intro aZ v s' _ h
  split at h
  ·rename_i ha
   simp only [Option.some.injEq,Prod.mk.injEq] at h
   obtain ⟨rfl,rfl⟩:=h
   rw [Zdp ha]
   rfl
  ·cases h
 unfold rawS at h
 unfold opT
 split at h
 ·rename_i cc ho
  try simp only [ho]
  unfold Z15h
  split at h
  ·rename_i F hcal
   try simp only [hcal]
   split at h
   ·rename_i fn caps hF
    try simp only [hF]
    split at h
    ·cases h
    ·rename_i hc
     try rw [if_neg hc]
     split at h
     ·rename_i g sum hfs
      try simp only [hfs]
      split at h
      ·cases h
      ·rename_i hgl
       try rw [if_neg hgl]
       split at h
       ·rename_i f hm
        try simp only [hm]
        split at h
        ·cases h
        ·rename_i hargs
         try rw [if_neg hargs]
         split at h
         ·rename_i aZ es kk hf
          try simp only [hf]
          split at h
          ·rename_i ha
           simp only [Option.some.injEq,Prod.mk.injEq] at h
           obtain ⟨rfl,rfl⟩:=h
           rw [Zdp ha]
           rfl
          ·cases h
         ·cases h
       ·rename_i hm
        try simp only [hm]
        split at h
        ·rename_i aZ es hf
         try simp only [hf]
         split at h
         ·rename_i ha
          simp only [Option.some.injEq,Prod.mk.injEq] at h
          obtain ⟨rfl,rfl⟩:=h
          rw [Zdp ha]
          rfl
         ·cases h
        ·cases h
     ·cases h
   ·cases h
  ·cases h
  ·rename_i b hb hcal
   split at h
   ·rename_i aZ v s' h1
    exact one1 h1 h
   ·cases h
  ·cases h
 ·rename_i t l cc ho
  try simp only [ho]
  unfold Zzp
  split at h
  ·rename_i elem e1 e2 hu h1 h2
   try simp only [hu,h1,h2]
   split at h
   ·rename_i inf ks z hi hk hz
    try simp only [hi,hk,hz]
    split at h
    ·cases h
    ·rename_i hc
     try rw [if_neg hc]
     split at h
     ·rename_i es hes
      try simp only [hes]
      split at h
      ·rename_i ha
       simp only [Option.some.injEq,Prod.mk.injEq] at h
       obtain ⟨rfl,rfl⟩:=h
       rw [Zdp ha]
       rfl
      ·cases h
     ·cases h
   ·cases h
  ·cases h
 ·rename_i t ho
  try simp only [ho]
  split at h
  ·cases h
  ·rename_i hb
   have hb':bigZ P t=none:=by
    cases hz:bigZ P t with
    | none=>rfl
    | some x=>rw [hz] at hb; exact absurd rfl hb
   try simp only [hb']
   split at h
   ·rename_i aZ v s' h1
    try simp only [h1]
    exact one1 h1 h
   ·cases h
 ·rename_i h1 h2 h3
  split at h
  ·rename_i aZ v s' h4
   exact one1 h4 h
  ·cases h
theorem Zdq {R:Fo} {K:List T} (hK:K ≠ []):∀ {c:List (Nat × List E)} {r:List Int},(∀ t ∈ K,(Z3b c t).sat Γ R Ψ bs r)→(Z3b c (Zjl K)).sat Γ R Ψ bs r
 | [],r,h=>by
  simp only [Z3b] at h ⊢
  induction K with
  | nil=>exact absurd rfl hK
  | cons x l ih =>
   cases l with
   | nil=>exact h x (by simp)
   | cons y l=>exact ⟨h x (by simp),ih (by simp) (fun t ht=>h t (List.mem_cons_of_mem _ ht))⟩
 | (g,es)::c,r,h=>by
  simp only [Z3b,T.sat] at h ⊢
  split
  ·rename_i s hs
   obtain ⟨x,hx⟩:=List.exists_mem_of_ne_nil _ hK
   have h0:=h x hx
   rw [hs] at h0
   refine ⟨h0.1,Zdq hK fun t ht=>?_⟩
   have h1:=h t ht
   rw [hs] at h1
   exact h1.2
  ·rename_i hs
   obtain ⟨x,hx⟩:=List.exists_mem_of_ne_nil _ hK
   have h0:=h x hx
   rw [hs] at h0
   exact h0
theorem Zsb (c d:List (Nat × List E)) (t:T):Z3b (c++d) t=Z3b c (Z3b d t):=by
 induction c with
 | nil=>rfl
 | cons x c ih=>simp only [Z18i,Z3b,ih]
theorem Zhi:∀ {a b:List Bool},Zjm a b=true→a=b
 | [],[],_=>rfl
 | true::l,true::m,h=>by rw [Zhi (a:=l) (b:=m) h]
 | false::l,false::m,h=>by rw [Zhi (a:=l) (b:=m) h]
 | [],_::_,h=>by simp [Zjm] at h
 | _::_,[],h=>by simp [Zjm] at h
 | true::l,false::m,h=>by simp [Zjm] at h
 | false::l,true::m,h=>by simp [Zjm] at h
theorem Zkm {x:Array Bool × Zmj} {l:Zru}:x ∈ Zzq x l∧∀ y ∈ l,y ∈ Zzq x l:=by
 unfold Zzq
 split
 ·rename_i h
  refine ⟨?_,fun y hy=>hy⟩
  obtain ⟨y,hy,hb⟩:=List.any_eq_true.1 h
  simp only [Z18r] at hb
  have h1:=Array.toList_inj.1 (Zhi hb.1)
  have h2:=Zmj.same_eq hb.2
  have:x=y:=Prod.ext h1 h2
  rw [this]; exact hy
 ·exact ⟨List.mem_cons_self ..,fun y hy=>List.mem_cons_of_mem _ hy⟩
theorem Zkn {ops:Array Oper} {li:Array Bool} {c:List (Nat × List E)} {s:St}:∀ {l:List Nat} {acc r:Zru},Zuk P Γ ops li c s l acc=some r →
  (∀ y ∈ acc,y ∈ r)∧∀ j ∈ l,∃ o d s1,ops[j]?=some o∧o.guard=none∧Z88 o=none∧rawS P Γ o s=some (d,s1)∧(li.setIfInBounds j true,(c++d.toList,s1)) ∈ r
 | [],acc,r,h=>by
  simp only [Zuk,Option.some.injEq] at h
  subst h
  exact ⟨fun y hy=>hy,fun j hj=>by cases hj⟩
 | j::l,acc,r,h=>by
  simp only [Zuk] at h
  split at h
  ·rename_i o ho
   split at h
   ·cases h
   ·rename_i hgd
    simp only [Bool.or_eq_true,not_or,Bool.not_eq_true,Option.isSome_eq_false_iff,Option.isNone_iff_eq_none] at hgd
    split at h
    ·rename_i d s1 hraw
     obtain ⟨h1,h2⟩:=Zkn h
     refine ⟨fun y hy=>h1 y (Zkm.2 y hy),fun i hi=>?_⟩
     rcases List.mem_cons.1 hi with rfl | hi
     ·exact ⟨o,d,s1,ho,hgd.1,hgd.2,hraw,h1 _ Zkm.1⟩
     ·exact h2 i hi
    ·cases h
  ·cases h
theorem Zdr {ops:Array Oper}:∀ {l acc r:Zru},Zul P Γ ops l acc=some r →
  (∀ y ∈ acc,y ∈ r)∧∀ x ∈ l,Region.ready .any ops x.1 ≠ []∧∀ j ∈ Region.ready .any ops x.1,∃ o d s1,ops[j]?=some o∧o.guard=none∧Z88 o=none∧rawS P Γ o x.2.2=some (d,s1)∧(x.1.setIfInBounds j true,(x.2.1++d.toList,s1)) ∈ r
 | [],acc,r,h=>by
  simp only [Zul,Option.some.injEq] at h
  subst h
  exact ⟨fun y hy=>hy,fun x hx=>by cases hx⟩
 | x::l,acc,r,h=>by
  simp only [Zul] at h
  split at h
  ·cases h
  ·rename_i hne
   split at h
   ·rename_i acc' hO
    obtain ⟨o1,o2⟩:=Zkn hO
    obtain ⟨d1,d2⟩:=Zdr h
    refine ⟨fun y hy=>d1 y (o1 y hy),fun z hz=>?_⟩
    rcases List.mem_cons.1 hz with rfl | hz
    ·refine ⟨hne,fun j hj=>?_⟩
     obtain ⟨o,d,s1,h1,h2,h3,h4,h5⟩:=o2 j hj
     exact ⟨o,d,s1,h1,h2,h3,h4,d1 _ h5⟩
    ·exact d2 z hz
   ·cases h
theorem Zds {ops:Array Oper}:∀ {f:Nat} {fr:Zru} {L:List Zmj},Zjn P Γ ops f fr=some L→∀ x ∈ fr,∃ y ∈ L,∃ r,y.1=x.2.1++r
 | 0,fr,L,h,x,hx=>by
  simp only [Zjn] at h
  split at h
  ·simp only [Option.some.injEq] at h; subst h
   exact ⟨x.2,List.mem_map_of_mem hx,[],by simp⟩
  ·cases h
 | f + 1,fr,L,h,x,hx=>by
  simp only [Zjn] at h
  split at h
  ·simp only [Option.some.injEq] at h; subst h
   exact ⟨x.2,List.mem_map_of_mem hx,[],by simp⟩
  ·split at h
   ·rename_i fr' hD
    obtain ⟨hne,hs⟩:=(Zdr hD).2 x hx
    obtain ⟨j,hj⟩:=List.exists_mem_of_ne_nil _ hne
    obtain ⟨o,d,s1,_,_,_,_,hm⟩:=hs j hj
    obtain ⟨y,hy,r,hr⟩:=Zds h _ hm
    exact ⟨y,hy,d.toList++r,by rw [hr]; simp⟩
   ·cases h
theorem Zdt (hG:Gok P Γ) {ih:Code→St→Z80→T} (hih:IH P Γ ih) {W0:Bas} {ops:Array Oper} {Q:Exit→Act→World→Prop} {k:St→T} {L:List Zmj}:∀ (f:Nat) (fr:Zru) (bs:List (List Int→Prop)) (x:Array Bool × Zmj) (e:Env) (a:Act) (w:World),Zjn P Γ ops f fr=some L→x ∈ fr→Rel e W0 x.2.2 a w→x.2.2.dp=bs.length →
  (∀ y ∈ L,∀ r,y.1=x.2.1++r→(Z3b r (k y.2)).sat Γ e.R Ψ bs e.r)→(∀ a' w',Nx Γ Ψ bs W0 e x.2.2.fl x.2.2.flr k a' w'→Q .normal a' w')→wpAny P .any ops Q f x.1 a w
 | 0,fr,bs,x,e,a,w,hL,hx,h,hdp,hs,hQ=>by
  simp only [Zjn] at hL
  split at hL
  ·rename_i hr
   simp only [Option.some.injEq] at hL
   have:=List.all_eq_true.1 hr x hx
   refine ⟨List.isEmpty_iff.1 this,hQ a w (Nx.here (Env.le_refl _) h rfl rfl hdp ?_)⟩
   exact hs x.2 (by rw [← hL]; exact List.mem_map_of_mem hx) [] (by simp)
  ·cases hL
 | f + 1,fr,bs,x,e,a,w,hL,hx,h,hdp,hs,hQ=>by
  simp only [Zjn] at hL
  split at hL
  ·rename_i hr
   simp only [Option.some.injEq] at hL
   have hem:=List.isEmpty_iff.1 (List.all_eq_true.1 hr x hx)
   refine ⟨fun _=>hQ a w (Nx.here (Env.le_refl _) h rfl rfl hdp ?_),fun i hi=>?_⟩
   ·exact hs x.2 (by rw [← hL]; exact List.mem_map_of_mem hx) [] (by simp)
   ·rw [hem] at hi; cases hi
  ·split at hL
   ·rename_i fr' hD
    obtain ⟨hne,hst⟩:=(Zdr hD).2 x hx
    refine ⟨fun hr=>absurd hr hne,fun i hi=>?_⟩
    obtain ⟨o,d,s1,ho,hg,hp,hraw,hmem⟩:=hst i hi
    unfold wpOp
    rw [ho]
    simp only
    rw [if_pos (by unfold Region.wanted; rw [hg])]
    left
    obtain ⟨K,hK⟩:∃ K:List T,(∀ t ∈ K,∃ y ∈ L,∃ r,y.1=(x.2.1++d.toList)++r∧t=Z3b r (k y.2))∧∀ y ∈ L,∀ r,y.1=(x.2.1++d.toList)++r→Z3b r (k y.2) ∈ K:=by
     classical
     refine ⟨L.filterMap fun y=>if hh:∃ r,y.1=(x.2.1++d.toList)++r then some (Z3b hh.choose (k y.2)) else none,fun t ht=>?_,fun y hy r hr=>?_⟩
     ·obtain ⟨y,hy,he⟩:=List.mem_filterMap.1 ht
      split at he
      ·rename_i hh
       simp only [Option.some.injEq] at he
       exact ⟨y,hy,hh.choose,hh.choose_spec,he.symm⟩
      ·cases he
     ·refine List.mem_filterMap.2 ⟨y,hy,?_⟩
      have hh:∃ r,y.1=(x.2.1++d.toList)++r:=⟨r,hr⟩
      rw [dif_pos hh]
      have:hh.choose=r:=List.append_cancel_left (hh.choose_spec.symm.trans hr)
      rw [this]
    have hKne:K ≠ []:=by
     obtain ⟨y,hy,r,hr⟩:=Zds hL _ hmem
     exact List.ne_nil_of_mem (hK.2 y hy r hr)
    have hsat:(Z3b d.toList (Zjl K)).sat Γ e.R Ψ bs e.r:=by
     refine Zdq hKne fun t ht=>?_
     obtain ⟨y,hy,r,hr,rfl⟩:=hK.1 t ht
     have:=hs y hy (d.toList++r) (by rw [hr]; simp)
     rwa [Zsb] at this
    classical
    have hop:(opT P Γ ih o x.2.2 fun s3=>if s3=s1 then Zjl K else .fail).sat Γ e.R Ψ bs e.r:=by
     rw [Z161 hraw]
     simp only [if_true]
     exact hsat
    refine Oper.wp_mono' (Z6l hG hih h hdp hop) ?_
    rintro a3 w3 ⟨s3,e3,more,hle,hrel,hf,hfr,hd,hsat3⟩
    dsimp only at hsat3
    split at hsat3
    ·rename_i hsm
     subst hsm
     refine Zdt (k:=k) hG hih f fr' (bs++more) _ e3 a3 w3 hL hmem hrel hd (fun y hy r hr=>?_) ?_
     ·exact Z9c hsat3 _ (hK.2 y hy r hr)
     ·rintro a' w' ⟨s',e',more',hle',hrel',hf',hfr',hd',hsat'⟩
      exact hQ a' w' ⟨s',e',more++more',hle.trans hle',hrel',hf'.trans hf,hfr'.trans hfr,by rw [← List.append_assoc]; exact hd',by rw [← List.append_assoc]; exact hsat'⟩
    ·exact hsat3.elim
   ·cases hL
theorem Z9e (hG:Gok P Γ) {ih:Code→St→Z80→T} (hih:IH P Γ ih) {W0:Bas} {ops:Array Oper} {Q:Exit→Act→World→Prop} {k:St→T}:∀ (f:Nat) (listed:Array Bool) (s:St) (bs:List (List Int→Prop)) (e:Env) (a:Act) (w:World),Rel e W0 s a w→s.dp=bs.length →
  (Zah P Γ ih ops f listed s k).sat Γ e.R Ψ bs e.r→(∀ a' w',Nx Γ Ψ bs W0 e s.fl s.flr k a' w'→Q .normal a' w')→wpAny P .any ops Q f listed a w
 | 0,listed,s,bs,e,a,w,h,hdp,hs,hQ=>by
  simp only [Zah] at hs
  split at hs
  ·rename_i hr
   exact ⟨List.isEmpty_iff.1 hr,hQ a w (Nx.here (Env.le_refl _) h rfl rfl hdp hs)⟩
  ·exact hs.elim
 | f + 1,listed,s,bs,e,a,w,h,hdp,hs,hQ=>by
  simp only [Zah] at hs
  refine ⟨fun hr=>?_,fun i hi=>?_⟩
  ·rw [hr] at hs
   exact hQ a w (Nx.here (Env.le_refl _) h rfl rfl hdp hs)
  ·split at hs
   ·rename_i hr
    rw [hr] at hi
    cases hi
   ·have hs:=Z9c hs _ (List.mem_map_of_mem hi)
    have next:∀ (s3:St) (e3:Env) (more:List (List Int→Prop)) (a3:Act) (w3:World),Env.le e e3→Rel e3 W0 s3 a3 w3→s3.fl=s.fl→s3.flr=s.flr→s3.dp=(bs++more).length→(Zah P Γ ih ops f (listed.setIfInBounds i true) s3 k).sat Γ e3.R Ψ (bs++more) e3.r→wpAny P .any ops Q f (listed.setIfInBounds i true) a3 w3:=by
     intro s3 e3 more a3 w3 hle h3 hf hfr hd hs3
     refine Z9e hG hih f _ s3 (bs++more) e3 a3 w3 h3 hd hs3 ?_
     rintro a' w' ⟨s',e',more',hle',hrel',hf',hfr',hd',hsat'⟩
     exact hQ a' w' ⟨s',e',more++more',hle.trans hle',hrel',hf'.trans hf,hfr'.trans hfr,by rw [← List.append_assoc]; exact hd',by rw [← List.append_assoc]; exact hsat'⟩
    unfold wpOp
    split at hs
    ·rename_i o ho
     rw [ho]
     simp only [Z3g] at hs
     obtain ⟨x,h1,hs1⟩:=Z4w h hs
     simp only
     split at hs1
     ·rename_i hw
      rw [if_pos (Z4i h1 hw)]
      left
      obtain ⟨y,h2,hs2⟩:=Z4w h1 hs1
      refine Oper.wp_mono' (Z6l hG hih h2 hdp hs2) ?_
      rintro a3 w3 ⟨s3,e3,more,hle,hrel,hf,hfr,hd,hsat⟩
      exact next s3 e3 more a3 w3 hle hrel hf hfr hd hsat
     ·rename_i hw
      rw [if_neg (by rw [Z4i h1 hw]; simp)]
      have hput:=h1.put o.dst Z5
      exact next _ e [] _ w (Env.le_refl _) hput (Zn _ _ _).2.2.2.2.1 (Zn _ _ _).2.2.2.2.2 ((Z4v _ _ _).trans (by simpa using hdp)) (by simpa using hs1)
     ·exact hs1.elim
    ·exact hs.elim
theorem Zfr (hm:P.follows .mixedOrders=true) (hG:Gok P Γ) {ih:Code→St→Z80→T} (hih:IH P Γ ih) {ops:Array Oper} {s:St} {k:St→T} {W0:Bas} {e:Env} {a:Act} {w:World} {Q:Exit→Act→World→Prop}
  (h:Rel e W0 s a w) (hdp:s.dp=bs.length) (hs:(Zh6 P Γ ih ops s k).sat Γ e.R Ψ bs e.r) (hQ:∀ a' w',Nx Γ Ψ bs W0 e s.fl s.flr k a' w'→Q .normal a' w'):wpAny P .any ops Q ops.size (Array.replicate ops.size false) a { w with drawn:=w.drawn + 1 }:=by
 unfold Zh6 at hs
 dsimp only at hs
 split at hs
 ·have hdrew:Below w.heap.size w { w with drawn:=w.drawn + 1 }:=(Below.refl _ _).drew
  split at hs
  ·rename_i L hL
   exact Zdt (k:=k) hG hih _ _ bs _ e a _ hL (List.mem_singleton.2 rfl) ⟨h.rep.grown hdrew,h.tmps,h.defs⟩ hdp (fun y hy r hr=>by simp only [Z18j] at hr; rw [← hr]; exact Z9c hs _ (List.mem_map_of_mem hy)) hQ
  ·exact Z9e hG hih _ _ s bs e a _ ⟨h.rep.grown hdrew,h.tmps,h.defs⟩ hdp hs hQ
 split at hs
 ·rename_i hc
  simp only [Z18r] at hc
  obtain ⟨⟨hok,hsc⟩,hdst⟩:=hc
  generalize hN:ops.size - Zmi (Zfo ops) 0 ops.toList=N at hs hok
  have hNs:N≤ops.size:=by omega
  generalize hN1:Z76 (ops.toList.take N)=N1 at hs
  have hN1N:N1≤N:=by
   have:=Zdn (ops.toList.take N)
   simp only [List.length_take] at this
   omega
  generalize hXe:Zcz ops s N1 ((ops.toList.take N).drop N1)=X at hs
  split at hs
  ·rename_i hc2
   simp only [Z18r] at hc2
   obtain ⟨⟨hXall,hch⟩,hapt⟩:=hc2
   have hXl:∀ n ∈ X,s.fl≤n∧∃ b,s.mem[n]?=some b∧b.live=true:=by
    intro n hn
    have:=List.all_eq_true.1 hXall n hn
    simp only [Z18r,Z18s] at this
    exact ⟨this.1,Zn2 this.2⟩
   unfold Z13w at hok
   simp only [Z18r] at hok
   obtain ⟨_,hok⟩:=hok
   have hrow:∀ j oj,ops[j]?=some oj→((Zmh oj).all (fun i=>decide (i < j)) &&
    (if j < N then (List.range j).all (fun i=>match ops[i]? with
     | none=>false
     | some oi=>(oi.dst.isNone || oi.dst != oj.dst) && (behind (Zfo ops) j i || oi.apart ops oj))
    else forced (Zfo ops) j))=true:=by
    intro j oj hoj
    have hlt:=(Array.getElem?_eq_some_iff.1 hoj).1
    have:=List.all_eq_true.1 hok j (by simpa using hlt)
    rw [hoj] at this
    exact this
   have hdeps:∀ j oj,ops[j]?=some oj→∀ e ∈ oj.after,Region.binds .any e=true→e.on < j:=by
    intro j oj hoj e he hb
    have:=hrow j oj hoj
    simp only [Z18r] at this
    have h1:=List.all_eq_true.1 this.1 e.on (List.mem_map.2 ⟨e,List.mem_filter.2 ⟨by simpa using he,hb⟩,rfl⟩)
    simpa using h1
   have hforced:∀ j oj,N≤j→ops[j]?=some oj→∀ i,i < j→Z44 ops j i:=by
    intro j oj hj hoj i hi
    have:=hrow j oj hoj
    simp only [Z18r] at this
    rw [if_neg (by omega)] at this
    have h1:=List.all_eq_true.1 this.2 i (by simpa using hi)
    exact Z5i h1
   have hpair:∀ i j oi oj,i < j→j < N→ops[i]?=some oi→ops[j]?=some oj→(oi.dst=none∨oi.dst ≠ oj.dst)∧(Z44 ops j i∨oi.apart ops oj=true):=by
    intro i j oi oj hij hj hoi hoj
    have:=hrow j oj hoj
    simp only [Z18r] at this
    rw [if_pos hj] at this
    have h1:=List.all_eq_true.1 this.2 i (by simpa using hij)
    rw [hoi] at h1
    simp only [Z18r,Bool.or_eq_true] at h1
    refine ⟨?_,?_⟩
    ·rcases h1.1 with h2 | h2
     ·exact .inl (by simpa using h2)
     ·exact .inr (by simpa using h2)
    ·rcases h1.2 with h2 | h2
     ·exact .inl (Z5i h2)
     ·exact .inr h2
   have hchain:∀ i j,N1≤j→j < i→i < N→Z44 ops i j:=by
    intro i j hj hji hi
    have:=List.all_eq_true.1 hch i (by simpa using hi)
    simp only [Bool.or_eq_true,Z18s] at this
    rcases this with h1 | h1
    ·omega
    ·have h2:=List.all_eq_true.1 h1 j (by simpa using hji)
     simp only [Bool.or_eq_true,Z18s] at h2
     rcases h2 with h2 | h2
     ·omega
     ·exact Z5i h2
   have hdl:∀ i o d,i < N→ops[i]?=some o→o.dst=some d→d < s.fr.length:=by
    intro i o d _ ho hd
    have:=Array.all_eq_true_iff_forall_mem.1 hdst o (Array.mem_of_getElem? ho)
    rw [hd] at this
    simpa using this
   have hu:∀ i j t,j < i→i < N→(ops[j]?).bind (·.dst)=some t→(ops[i]?).bind (·.dst) ≠ some t:=by
    intro i j t hji hi h1 h2
    have hil:i < ops.size:=by omega
    have hjl:j < ops.size:=by omega
    have hoi:ops[i]?=some ops[i]:=Array.getElem?_eq_getElem hil
    have hoj:ops[j]?=some ops[j]:=Array.getElem?_eq_getElem hjl
    rw [hoj] at h1
    rw [hoi] at h2
    simp only [Option.bind_some] at h1 h2
    rcases (hpair j i _ _ hji hi hoj hoi).1 with h3 | h3
    ·rw [h3] at h1; cases h1
    ·exact h3 (h1.trans h2.symm)
   have huniq:∀ i j t,i < N→j < N→(ops[i]?).bind (·.dst)=some t→(ops[j]?).bind (·.dst)=some t→i=j:=by
    intro i j t hi hj h1 h2
    rcases Nat.lt_trichotomy i j with h3 | h3 | h3
    ·exact absurd h2 (hu j i t h3 hj h1)
    ·exact h3
    ·exact absurd h1 (hu i j t h3 hi h2)
   have hscp:=St.scp_of_sc hsc
   obtain ⟨hscf,hscm⟩:=St.scp_spec hscp
   have hdrew:Below w.heap.size w { w with drawn:=w.drawn + 1 }:=(Below.refl _ _).drew
   have hB:Rep e W0 s { w with drawn:=w.drawn + 1 }:=h.rep.grown hdrew
   generalize hs0:({ s with mem:=Zd0 X 0 s.mem }:St)=s0 at hs
   have hkl:s0.mem.length=s.mem.length:=by rw [← hs0]; exact Z6o X s.mem 0
   have hkr:s0.rows=s.rows:=by rw [← hs0]
   have hkf:s0.fr=s.fr:=by rw [← hs0]
   have h0:Rep e W0 s0 { w with drawn:=w.drawn + 1 }:=by rw [← hs0]; exact hB.killM X
   have hkm:∀ (n:Nat) (b:Blk),s.mem[n]?=some b→∃ b':Blk,s0.mem[n]?=some b'∧b'.cells=b.cells:=by
    intro n b hb
    rw [← hs0]
    simp only [Zde,hb,Option.map_some,Option.some.injEq,exists_eq_left']
    split <;> rfl
   have hXok:XOK e W0 s0 (fun k=>∃ n,n ∈ X∧k=e.β.getD n 0):=by
    refine ⟨?_,?_,?_⟩
    ·rintro n b hb hl ⟨m,hm,heq⟩
     rw [← hs0] at hb
     obtain ⟨b',h1,_,_,h4⟩:=Z32 hb
     obtain ⟨h5,h6,rfl⟩:=h4 hl
     obtain ⟨_,c,hc,hlc⟩:=hXl m hm
     have:=hB.sep n m b c h1 hc h5 hlc heq
     subst this
     exact h6 hm
    ·rintro n b k hb hl hk ⟨m,hm,rfl⟩
     rw [hkr] at hb
     obtain ⟨_,c,hc,hlc⟩:=hXl m hm
     exact hB.brs m n c b hc hb hlc hl hk
    ·rintro k ⟨m,hm,rfl⟩
     obtain ⟨h1,c,hc,hlc⟩:=hXl m hm
     exact hB.own m c hc hlc h1
   have hlex0:Lex s0 e a.tmps ops 0 (fun _=>⟨fun _=>undef,none⟩) s0 e.r []:=by
    refine ⟨⟨[],by simp⟩,h0.nv.symm,rfl,rfl,rfl,rfl,rfl,rfl,rfl,⟨[],by simp,rfl⟩,rfl,fun _ _=>rfl,fun _ _=>rfl,fun _ _=>rfl,?_,?_,?_,?_,List.nodup_nil⟩
    ·intro t _
     show some (a.tmps.getD t undef)=_
     rw [Z6j h t,hkf]
     rfl
    ·intro t ht
     rw [hkf,hkl,hkr] at ht
     by_cases htl:t < s.fr.length
     ·have:=hscf s.fr[t] (List.getElem_mem htl)
      rw [show s.fr.getD t Z5=s.fr[t] by simp [List.getD,htl]] at ht
      rw [this] at ht; cases ht
     ·rw [show s.fr.getD t Z5=Z5 by simp [List.getD,List.getElem?_eq_none (Nat.le_of_not_lt htl)]] at ht
      simp [Z5,SV.scp] at ht
    ·intro j i' hj
     simp at hj
    ·intro i' hi'
     omega
   have htw:Zke s s0:=⟨hkl.symm,hkr.symm,hkf.symm,by rw [← hs0],by rw [← hs0],by rw [← hs0],by rw [← hs0],by rw [← hs0],by rw [← hs0],fun b hb=>by
    obtain ⟨n,hn⟩:=List.getElem?_of_mem hb
    obtain ⟨b',h1,h2⟩:=hkm n b hn
    exact ⟨b',List.mem_of_getElem? h1,h2.symm⟩⟩
   have htw':Zke s0 s:=htw.symm' (fun b hb=>by
    obtain ⟨n,hn⟩:=List.getElem?_of_mem hb
    rw [← hs0] at hn
    obtain ⟨b',h1,_,h3,_⟩:=Z32 hn
    exact ⟨b',List.mem_of_getElem? h1,h3⟩)
   obtain ⟨ents0,sN,rN,al,hlex0',hpre0,hsat⟩:=Z5l hG hih h0 hXok (sf:=s) (sg:=Z77 (Zfo ops) N1 N) hB htw htw' (N:=N1) (fun i j t hji hi=>hu i j t hji (by omega)) (fun i o d hi=>by rw [hkf]; exact hdl i o d (by omega)) (ops.toList.take N1) 0 (fun j hj=>by
     simp only [List.length_take,Array.length_toList] at hj
     rw [List.getElem?_take,if_pos (by omega)]
     simp) (by simp [Nat.min_eq_left (Nat.le_trans hN1N hNs)]) _ s0 e.r [] _ hlex0 (fun i' hi'=>by omega) hs
   split at hsat
   ·rename_i s3 hs3
    obtain ⟨ents,hents⟩:∃ ents:Nat→Ent,ents=fun i=>if i < N1 then ents0 i else (match (ops[i]?).map (·.op) with
     | some (Op.assign x)=>⟨fun _=>(sN.ev x).den (e.at rN),none⟩
     | _=>⟨fun _=>undef,none⟩):=⟨_,rfl⟩
    have hents1:∀ j,j < N1→ents j=ents0 j:=fun j hj=>by rw [hents]; simp only [hj,if_true]
    have hlex:=hlex0'.congr hents1
    have hpre:=fun i hi=>(hpre0 i hi).congrN hents1 hi
    have hval:∀ i,i < N1→(ents i).obj=none→∀ n,(ents i).val n=(ents i).val 0:=by
     intro i hi hob
     obtain ⟨_,_,h2,_⟩:=hpre i hi
     exact h2 hob
    have ha0:a.tmps.size=s0.fr.length:=by rw [h.tmps,hkf]; simp
    rw [← hkl,← hkr] at hs3
    obtain ⟨st,hst0,hstE,hstS⟩:=Zbh hs3
    have hll:((ops.toList.take N).drop N1).length=N - N1:=by simp [Nat.min_eq_left hNs]
    have hlget:∀ c,((ops.toList.take N).drop N1)[c]?=if N1 + c < N then ops[N1 + c]? else none:=by
     intro c
     rw [List.getElem?_drop,List.getElem?_take]
     split <;> simp
    have hstep1:∀ c o,N1 + c < N→ops[N1 + c]?=some o→Z8y P X s0.mem.length s0.rows.length o (st c)=some (st (c + 1)):=by
     intro c o hc ho
     exact hstS c o (by rw [hlget,if_pos hc]; exact ho)
    have hsame:∀ c,c≤N - N1→st c={ sN with mem:=(st c).mem }∧(st c).mem.length=sN.mem.length:=by
     intro c hc
     obtain ⟨h1,h2⟩:=Zuz hstS c (by rw [hll]; exact hc)
     obtain ⟨news,hmem,hnl⟩:=hlex.mem
     refine ⟨?_,?_⟩
     ·rw [h1,hst0]
     ·rw [h2,hst0]
      simp only [List.length_append,List.length_drop,hmem]
      omega
    obtain ⟨news,hmem,hnl⟩:=hlex.mem
    have hst0m:∀ n,(st 0).mem[n]?=if n < s0.mem.length then s.mem[n]? else sN.mem[n]?:=by
     intro n
     rw [hst0]
     simp only [hkl]
     split
     ·rename_i hn
      rw [List.getElem?_append_left hn]
     ·rename_i hn
      rw [List.getElem?_append_right (by omega),List.getElem?_drop]
      congr 1
      omega
    have hcell:∀ (n:Nat) (b:Blk),s.mem[n]?=some b→b.cells.map (SC.den (e.at rN))=b.cells.map (SC.den e):=by
     intro n b hb
     obtain ⟨b',h1,h2⟩:=hkm n b hb
     have:=hlex.memd b' (List.mem_of_getElem? h1)
     rwa [h2] at this
    have hscp0:∀ (n:Nat) (b:Blk),(st 0).mem[n]?=some b→b.cells.all (SC.scp s0.mem.length s0.rows.length)=true:=by
     intro n b hb
     rw [hst0m] at hb
     split at hb
     ·rw [hkl,hkr]
      exact hscm b (List.mem_of_getElem? hb)
     ·rename_i hn
      have hlt:=(List.getElem?_eq_some_iff.1 hb).1
      have hml:sN.mem.length=s0.mem.length + al.length:=by rw [hmem]; simp [hnl]
      obtain ⟨_,b',h2,_,h4,_⟩:=hlex.alOK (n - s0.mem.length) (al[n - s0.mem.length]'(by omega)) (List.getElem?_eq_getElem (by omega))
      rw [show s0.mem.length + (n - s0.mem.length)=n by omega,hb] at h2
      simp only [Option.some.injEq] at h2
      subst h2
      exact h4
    have hlk:∀ c o,N1 + c < N→ops[N1 + c]?=some o→o ∈ (ops.toList.take N).drop N1:=fun c o hc ho=>List.mem_of_getElem? (i:=c) (by rw [hlget,if_pos hc]; exact ho)
    have hap:∀ c o,N1 + c < N→ops[N1 + c]?=some o→∀ t ∈ o.looksAt ops,∀ k,N1≤k→k < N→(ops[k]?).bind (·.dst) ≠ some t:=by
     intro c o hc ho t ht k h1 h2 hd
     obtain ⟨j,rfl⟩:∃ j,k=N1 + j:=⟨k - N1,by omega⟩
     have hil:N1 + j < ops.size:=by omega
     have hoi:ops[N1 + j]?=some ops[N1 + j]:=Array.getElem?_eq_getElem hil
     rw [hoi] at hd
     have:=List.all_eq_true.1 (List.all_eq_true.1 hapt o (hlk c o hc ho)) _ (hlk j _ h2 hoi)
     simp only [Option.bind_some] at hd
     rw [hd] at this
     simp only [Bool.not_eq_true',List.contains_eq_mem,decide_eq_false_iff_not] at this
     exact this ht
    have hXlt:∀ n ∈ X,n < s0.mem.length:=by
     intro n hn
     obtain ⟨_,b,hb,_⟩:=hXl n hn
     rw [hkl]
     exact (List.getElem?_eq_some_iff.1 hb).1
    have hLt:∀ c,N1 + c < N→(∃ o t ta x n off y b,ops[N1 + c]?=some o∧Lt P X s0.mem.length s0.rows.length o (st c) (st (c + 1)) t ta x n off y b∧sN.fr.getD ta Z5=.w (.o (.p n off))∧(Z65 ops s0.mem.length (e.at rN) al sN (fun n=>n ∈ X) st).tgt (N1 + c)=n) ∨
      ∃ o x d,ops[N1 + c]?=some o∧As s0.mem.length s0.rows.length o (st c) (st (c + 1)) x d∧(Z65 ops s0.mem.length (e.at rN) al sN (fun n=>n ∈ X) st).tgt (N1 + c)=sN.mem.length:=by
     intro c hc
     have hil:N1 + c < ops.size:=by omega
     have hoi:ops[N1 + c]?=some ops[N1 + c]:=Array.getElem?_eq_getElem hil
     rcases Z5m (hstep1 c _ hc hoi) with ⟨t,ta,x,n,off,y,b,hl⟩ | ⟨x,d,hl⟩
     ·have hslot:sN.fr.getD ta Z5=.w (.o (.p n off)):=by
       have:=hl.slot
       rw [(hsame c (by omega)).1] at this
       exact this
      refine .inl ⟨_,t,ta,x,n,off,y,b,hoi,hl,hslot,?_⟩
      unfold Z65
      simp only [hoi]
      unfold Zmx
      rw [hl.op]
      simp only [hslot]
     ·refine .inr ⟨_,x,d,hoi,hl,?_⟩
      unfold Z65
      simp only [hoi]
      unfold Zmx
      rw [hl.op]
    have hnwS:∀ n i,(Z65 ops s0.mem.length (e.at rN) al sN (fun n=>n ∈ X) st).nw n=some i→s0.mem.length≤n∧al[n - s0.mem.length]?=some i:=by
     intro n i hn
     have hn':(if n < s0.mem.length then none else al[n - s0.mem.length]?)=some i:=hn
     split at hn'
     ·cases hn'
     ·exact ⟨by omega,hn'⟩
    have hXcont:∀ n,n ∈ X→w.heap[e.β.getD n 0]?=some (Z2x (e.at rN) st n 0):=by
     intro n hn'
     obtain ⟨_,b,hb,hl⟩:=hXl n hn'
     unfold Z2x
     rw [hst0m,if_pos (hXlt n hn'),hb]
     simp only
     rw [hcell n b hb]
     exact hB.blk n b hb hl
    refine Z15y (a0:=a.tmps) (w1:=w.heap.size) (C:=fun w'=>Cls { w with drawn:=w.drawn + 1 } (fun k=>∃ n,n ∈ X∧k=e.β.getD n 0) w') (CI:=fun i w'=>Cls { w with drawn:=w.drawn + 1 } (fun k=>Z77 (Zfo ops) N1 N i=false∧∃ n,n ∈ X∧k=e.β.getD n 0) w') (S:=Z77 (Zfo ops) N1 N) (D:=Z65 ops s0.mem.length (e.at rN) al sN (fun n=>n ∈ X) st) hNs hN1N hforced hdeps hpair (fun i o d hi ho hd=>by rw [ha0,hkf]; exact hdl i o d hi ho hd) (fun i w' hw'=>⟨hw'.os,hw'.tape,hw'.output,hw'.size,fun k hk hx=>hw'.block k hk (fun h=>hx h.2)⟩) ?_ ?_ hpre ?_ hchain (fun w' hw'=>hw'.size) ?_ ?_ ?_ ?_ ?_ ?_ ?_ ?_ ops.size _ a _ (fun _=>0) 0 (by simp) (fun i _=>by simp [Array.getD]) (by omega) (fun i h1 _=>by simp [Array.getD]; omega) ?_ (Cls.refl _ _) h.defs rfl ?_ ?_ ?_ ?_ ?_ ?_
    ·intro i w' hw' hS
     refine ⟨hw'.os,hw'.tape,hw'.output,hw'.size,fun k hk hx=>?_⟩
     by_cases hkx:∃ n,n ∈ X∧k=e.β.getD n 0
     ·have hSi:Z77 (Zfo ops) N1 N i=true:=by
       cases hh:Z77 (Zfo ops) N1 N i with
       | true=>rfl
       | false=>exact absurd ⟨hh,hkx⟩ hx
      obtain ⟨n,hn,rfl⟩:=hkx
      rw [hXcont n hn]
      exact hS hSi n hn
     ·exact hw'.block k hk hkx
    ·intro i hi k h1 h2
     have:=List.all_eq_true.1 hi k (by simpa using h2)
     simp only [Bool.or_eq_true,Z18s] at this
     rcases this with h3 | h3
     ·omega
     ·exact Z5i h3
    ·intro i h1 h2
     obtain ⟨c,rfl⟩:∃ c,i=N1 + c:=⟨i - N1,by omega⟩
     have hil:N1 + c < ops.size:=by omega
     have hoi:ops[N1 + c]?=some ops[N1 + c]:=Array.getElem?_eq_getElem hil
     exact Zv1 (Xa:=fun n=>n ∈ X) hlex h0 hval huniq hN1N h2 hoi (hsame c (by omega)).1 (fun x d hl=>by
      rw [hents]
      simp only [Nat.not_lt_of_le (Nat.le_add_right N1 c),if_false,hoi,Option.map_some,hl.op]) (hap c _ h2 hoi) (hstep1 c _ h2 hoi)
    ·intro w1 w2 g ob hw1 hsb hg
     exact hw1.but hsb hg
    ·intro n i hn
     obtain ⟨h1,h2⟩:=hnwS n i hn
     obtain ⟨h3,b,h4,_,_,h5,_⟩:=hlex.alOK _ i h2
     refine ⟨h3,?_⟩
     rw [h5]
     show _=some (Z2x (e.at rN) st n 0)
     unfold Z2x
     rw [hst0m,if_neg (by omega)]
     rw [show s0.mem.length + (n - s0.mem.length)=n by omega] at h4
     rw [h4]
    ·intro n n' i hn hn'
     obtain ⟨h1,h2⟩:=hnwS n i hn
     obtain ⟨h3,h4⟩:=hnwS n' i hn'
     have hl1:=(List.getElem?_eq_some_iff.1 h2).1
     have:=(List.getElem?_inj hl1 hlex.alND).1 (h2.trans h4.symm)
     omega
    ·intro n hn
     have hn':n ∈ X:=hn
     obtain ⟨_,b,hb,hl⟩:=hXl n hn'
     exact ⟨if_pos (hXlt n hn'),Z1g (hB.blk n b hb hl)⟩
    ·intro n n' hn hn' heq
     obtain ⟨_,b,hb,hl⟩:=hXl n hn
     obtain ⟨_,b',hb',hl'⟩:=hXl n' hn'
     exact hB.sep n n' b b' hb hb' hl hl' heq
    ·intro k h1 h2
     obtain ⟨c,rfl⟩:∃ c,k=N1 + c:=⟨k - N1,by omega⟩
     rcases hLt c h2 with ⟨o,t,ta,x,n,off,y,b,ho,hl,hslot,htg⟩ | ⟨o,x,d,ho,hl,htg⟩
     case inr =>
      rw [htg]
      have hml:sN.mem.length=s0.mem.length + al.length:=by rw [hmem]; simp [hnl]
      refine ⟨fun hd=>?_,fun j hn=>?_⟩
      ·rw [ho] at hd
       simp [hl.dst] at hd
      ·obtain ⟨h3,h4⟩:=hnwS _ j hn
       have:=(List.getElem?_eq_some_iff.1 h4).1
       omega
     rw [htg]
     have hnlt:n < sN.mem.length:=by
      rw [← (hsame c (by omega)).2]
      exact (List.getElem?_eq_some_iff.1 hl.blk).1
     have hml:sN.mem.length=s0.mem.length + al.length:=by rw [hmem]; simp [hnl]
     refine ⟨fun _ hn=>?_,fun j hn=>?_⟩
     ·rcases hl.at' with h3 | h3
      ·have hn':(if n < s0.mem.length then none else al[n - s0.mem.length]?)=none:=hn
       rw [if_neg (by omega),List.getElem?_eq_none_iff] at hn'
       omega
      ·exact h3
     ·obtain ⟨h3,h4⟩:=hnwS n j hn
      have hns:(sN.fr.getD ta Z5).scp s0.mem.length s0.rows.length=false:=by
       rw [hslot]; simpa [SV.scp,SW.scp,SC.scp] using h3
      obtain ⟨j',i',hj',hdt⟩:=hlex.nscp ta hns
      obtain ⟨h5,bb,_,_,_,_,mk,h6,_,h8⟩:=hlex.alOK j' i' hj'
      have hmk:=h8 ta hdt
      rw [hslot] at hmk
      have hnj:n=s0.mem.length + j':=by
       rcases h6 with h6 | ⟨l,cc,h6⟩
       ·rw [h6] at hmk
        simp only [one,SV.w.injEq,SW.o.injEq,SC.p.injEq] at hmk
        exact hmk.1
       ·rw [h6] at hmk
        simp [one] at hmk
      rw [hnj,Nat.add_sub_cancel_left,hj'] at h4
      simp only [Option.some.injEq] at h4
      subst h4
      have hjl:i' < ops.size:=by omega
      have hoj:ops[i']?=some ops[i']:=Array.getElem?_eq_getElem hjl
      rcases (hpair i' (N1 + c) _ _ (by omega) h2 hoj ho).2 with hr | hap
      ·exact hr
      ·rw [hoj] at hdt
       exact absurd (Z2q (ops:=ops) (by rw [hl.op]; simp [Op.operands])) ((Oper.apart_spec hap).1 ta hdt)
    ·intro k n h1 h2 hne
     obtain ⟨c,rfl⟩:∃ c,k=N1 + c:=⟨k - N1,by omega⟩
     rcases hLt c h2 with ⟨o,t,ta,x,n',off,y,b,ho,hl,hslot,htg⟩ | ⟨o,x,d,ho,hl,htg⟩
     case inr =>
      rw [show N1 + c - N1=c by omega]
      show Z2x (e.at rN) st n (c + 1)=Z2x (e.at rN) st n c
      unfold Z2x
      rw [hl.eq]
     rw [htg] at hne
     rw [show N1 + c - N1=c by omega]
     show Z2x (e.at rN) st n (c + 1)=Z2x (e.at rN) st n c
     unfold Z2x
     rw [hl.eq]
     simp only [List.getElem?_set_ne (Ne.symm hne)]
    ·intro act w' γ hw' hd hsz hγ hγX hγu hslot
     have hend:st (N - N1)=s3:=by rw [← hll]; exact hstE
     have h3m:=hsame (N - N1) (Nat.le_refl _)
     rw [hend] at h3m
     have hml:sN.mem.length=s0.mem.length + al.length:=by rw [hmem]; simp [hnl]
     have hb3:=fun (n:Nat) (b:Blk) (hb:s3.mem[n]?=some b)=>Z109 hstS (N - N1) (by rw [hll]; exact Nat.le_refl _) n b (by rw [hend]; exact hb)
     have hlike:Env.like s0.mem.length s0.rows.length (e.at rN) { e with r:=rN,β:=e.β++al.map γ } :=
      ⟨rfl,rfl,rfl,fun n hn=>Z12 _ _ _ _ (by show n < e.β.length; rw [h0.nb]; exact hn),fun _ _=>rfl⟩
     obtain ⟨act0,hact0⟩:∃ act0:Act,act0={ act with tmps:=Array.ofFn (n:=a.tmps.size) fun t=>match Zo ops N1 t with | some i=>(ents i).val (γ i) | none=>a.tmps.getD t undef }:=⟨_,rfl⟩
     have hsz0:act0.tmps.size=a.tmps.size:=by rw [hact0]; simp
     have hslot0:∀ t,act0.tmps.getD t undef=match Zo ops N1 t with | some i=>(ents i).val (γ i) | none=>a.tmps.getD t undef:=by
      intro t
      by_cases ht:t < a.tmps.size
      ·rw [hact0]
       simp [Array.getD,ht]
      ·rw [show act0.tmps.getD t undef=undef by simp [Array.getD,hsz0,ht]]
       cases hw:Zo ops N1 t with
       | none=>simp [Array.getD,ht]
       | some i =>
        exfalso
        obtain ⟨h1,h2⟩:=Zj hw
        have hil:i < ops.size:=by omega
        have hoi:ops[i]?=some ops[i]:=Array.getElem?_eq_getElem hil
        rw [hoi] at h2
        have:=hdl i _ t (by omega) hoi h2
        rw [ha0,hkf] at ht
        exact ht this
     obtain ⟨hrel0,hle⟩:=hlex.done (γ:=γ) (act:=act0) hB h0 hXok ⟨hkl.symm,hkr.symm,by rw [← hs0],by rw [← hs0]⟩ ha0 (fun i j t hi hj=>huniq i j t (by omega) (by omega)) hval hw' (by rw [hact0]; exact hd) hsz0 (fun i hi=>by
       obtain ⟨j,hj⟩:=List.getElem?_of_mem hi
       exact (hγ (s0.mem.length + j) i (by
        show (if s0.mem.length + j < s0.mem.length then none else al[s0.mem.length + j - s0.mem.length]?)=some i
        rw [if_neg (by omega),Nat.add_sub_cancel_left]; exact hj)).1) hγu hslot0 (memF:=s3.mem) h3m.2 (fun n b hb hl hn=>by
       obtain ⟨⟨b',h1,_,h2⟩,_⟩:=hb3 n b hb
       rw [hst0m,if_pos hn] at h1
       exact ⟨b',h1,by rw [← h2]; exact hl⟩) (fun n b hb hl=>by
       obtain ⟨⟨b',h1,hty,h2⟩,hun,hsc3⟩:=hb3 n b hb
       rw [Z21 hlike (hsc3 hscp0)]
       have hcontb:Z2x (e.at rN) st n (N - N1)=.cells (b.cells.map (SC.den (e.at rN))).toArray b.ty (0,0):=by
        unfold Z2x
        rw [hend,hb]
       rcases Nat.lt_or_ge n s0.mem.length with hn | hn
       ·rw [show (e.β++al.map γ).getD n 0=e.β.getD n 0 from hlike.β n hn]
        by_cases hx:n ∈ X
        ·have:=hγX n hx
         rw [show (Z65 ops s0.mem.length (e.at rN) al sN (fun n=>n ∈ X) st).cont n (N - N1)=_ from hcontb] at this
         exact this
        ·have h4:=hun hn hx
         rw [hst0m,if_pos hn] at h4
         have h5:=hB.blk n b h4 hl
         rw [hw'.block _ (Z1g h5) (by
          rintro ⟨m,hm,heq⟩
          obtain ⟨_,c,hc,hlc⟩:=hXl m hm
          have:=hB.sep n m b c h4 hc hl hlc heq
          subst this
          exact hx hm),h5,hcell n b h4]
       ·have hlt:=(List.getElem?_eq_some_iff.1 hb).1
        obtain ⟨j,rfl⟩:∃ j,n=s0.mem.length + j:=⟨n - s0.mem.length,by omega⟩
        obtain ⟨i',hj⟩:∃ i',al[j]?=some i':=⟨al[j]'(by omega),List.getElem?_eq_getElem (by omega)⟩
        have h4:=(hγ (s0.mem.length + j) i' (by
         show (if s0.mem.length + j < s0.mem.length then none else al[s0.mem.length + j - s0.mem.length]?)=some _
         rw [if_neg (by omega),Nat.add_sub_cancel_left]; exact hj)).2
        rw [show (Z65 ops s0.mem.length (e.at rN) al sN (fun n=>n ∈ X) st).cont (s0.mem.length + j) (N - N1)=_ from hcontb] at h4
        have h5:(e.β++al.map γ).getD (s0.mem.length + j) 0=γ i':=by
         rw [← h0.nb]
         simp [List.getD,List.getElem?_append_right,hj]
        rw [h5]
        exact h4)
     have h3e:({ sN with mem:=s3.mem }:St)=s3:=h3m.1.symm
     rw [h3e] at hrel0
     have hfr3:s3.fr=sN.fr:=by rw [h3m.1]
     have hfl:s3.fr.length=a.tmps.size:=by rw [hfr3,ha0,hlex.len]
     have hev3:∀ x,s3.ev x=sN.ev x:=fun x=>by
      cases x <;> simp [St.ev,hfr3]
     have hrel:Rel { e with r:=rN,β:=e.β++al.map γ } W0 { s3 with fr:=Z41 s3 ((ops.toList.take N).drop N1) s3.fr } act w':=by
      refine ⟨hrel0.rep.fr _,?_,hd⟩
      have hsl0:∀ t,act0.tmps.getD t undef=(s3.fr.getD t Z5).den { e with r:=rN,β:=e.β++al.map γ }:=fun t=>Z6j hrel0 t
      apply Array.ext
      ·rw [hsz]; simp [Z7g,hfl]
      ·intro t h1 h2
       have hta:t < a.tmps.size:=by rw [← hsz]; exact h1
       rw [show act.tmps[t]=act.tmps.getD t undef by simp [Array.getD,h1],hslot t]
       have hgoal:((Z41 s3 ((ops.toList.take N).drop N1) s3.fr).map (SV.den { e with r:=rN,β:=e.β++al.map γ })).toArray[t]=((Z41 s3 ((ops.toList.take N).drop N1) s3.fr).getD t Z5).den { e with r:=rN,β:=e.β++al.map γ }:=by
        have h3:t < (Z41 s3 ((ops.toList.take N).drop N1) s3.fr).length:=by rw [Z7g,hfl]; exact hta
        simp [List.getD,h3]
       rw [hgoal]
       have hno:(∀ k,N1≤k→k < N→(ops[k]?).bind (·.dst) ≠ some t)→(Z41 s3 ((ops.toList.take N).drop N1) s3.fr).getD t Z5=s3.fr.getD t Z5:=by
        intro hn
        refine Z7h s3 _ _ fun o ho hdo=>?_
        obtain ⟨c,hc⟩:=List.getElem?_of_mem ho
        rw [hlget] at hc
        split at hc
        ·rename_i hcN
         exact hn (N1 + c) (by omega) hcN (by rw [hc]; exact hdo)
        ·cases hc
       cases hw:Zo ops N t with
       | none =>
        rw [hno (fun k h3 h4=>Z31 hw k h4),← hsl0 t,hslot0 t]
        cases hw1:Zo ops N1 t with
        | none=>rfl
        | some i =>
         obtain ⟨h3,h4⟩:=Zj hw1
         exact absurd h4 (Z31 hw i (by omega))
       | some i =>
        obtain ⟨hiN,hid⟩:=Zj hw
        rcases Nat.lt_or_ge i N1 with hi1 | hi1
        ·rw [hno (fun k h3 h4 h5=>by have:=huniq k i t h4 hiN h5 hid; omega),← hsl0 t,hslot0 t,Z45 hi1 hid (fun j hj hjd=>huniq j i t (by omega) hiN hjd hid)]
        ·obtain ⟨c,rfl⟩:∃ c,i=N1 + c:=⟨i - N1,by omega⟩
         rcases hLt c hiN with ⟨o,_,_,_,_,_,_,_,ho,hl,_⟩ | ⟨o,x,d,ho,hl,_⟩
         ·rw [ho] at hid
          simp [hl.dst] at hid
         ·rw [ho] at hid
          simp only [Option.bind_some,hl.dst,Option.some.injEq] at hid
          subst hid
          rw [Zdf s3 _ s3.fr c o (by rw [hlget,if_pos hiN]; exact ho) hl.op hl.dst (by rw [hfl]; exact hta) (fun j o' hj hdj=>by
           rw [hlget] at hj
           split at hj
           ·rename_i hjN
            have:=huniq (N1 + j) (N1 + c) d hjN hiN (by rw [hj]; exact hdj) (by rw [ho]; exact hl.dst)
            omega
           ·cases hj),hev3]
          have hsc:(sN.ev x).scp s0.mem.length s0.rows.length=true:=by
           have:=hl.scp
           rw [(hsame c (by omega)).1] at this
           exact this
          rw [hents]
          simp only [Nat.not_lt_of_le (Nat.le_add_right N1 c),if_false,ho,Option.map_some,hl.op]
          exact (SV.den_like hlike _ hsc).symm
     have hfl3:s3.fl=s.fl∧s3.flr=s.flr:=by
      rw [h3m.1]
      refine ⟨hlex.fl.trans ?_,hlex.flr.trans ?_⟩ <;> rw [← hs0]
     have hdp3:s3.dp=bs.length:=by
      rw [h3m.1]
      refine (hlex.dp.trans ?_).trans hdp
      rw [← hs0]
     refine Z3o hG hih _ _ k bs _ act w' hrel hdp3 hsat ?_
     rintro a'' w'' ⟨s'',e'',more,hle'',hrel'',hf,hfr,hd',hsat''⟩
     exact hQ a'' w'' ⟨s'',e'',more,hle.trans hle'',hrel'',hf.trans hfl3.1,hfr.trans hfl3.2,hd',hsat''⟩
    ·unfold cnt
     exact Nat.le_trans (List.length_filter_le _ _) (by simp)
    ·intro j oj _ hj
     simp [Array.getD] at hj
    ·intro n i _ hi
     simp [Array.getD] at hi
    ·intro n hn
     exact hXcont n hn
    ·intro i ob _ hi
     simp [Array.getD] at hi
    ·intro i j _ _ hi
     simp [Array.getD] at hi
    ·intro t
     unfold Z81
     cases Zo ops N t with
     | none=>rfl
     | some i=>simp [Array.getD]
   ·exact hsat.elim
  ·exact hs.elim
 ·exact hs.elim
theorem Px.mk {W0:Bas} {e e':Env} {s':St} {a:Act} {w:World} {fl flr:Nat} {k:Z80} {out:Out} {more:List (List Int→Prop)} (hle:Env.le e e') (hrel:Rel e' W0 s' a w) (hf:s'.fl=fl) (hfr:s'.flr=flr) (hd:s'.dp=(bs++more).length) (hs:(k out s').sat Γ e'.R Ψ (bs++more) e'.r):Px Γ Ψ bs W0 e fl flr k out.exitOf a w :=
 ⟨out,s',e',more,rfl,hle,hrel,hf,hfr,hd,hs⟩
theorem Px.trans {W0:Bas} {e e':Env} {fl flr fl' flr':Nat} {k:Z80} {x:Exit} {a:Act} {w:World} {more:List (List Int→Prop)} (hle:Env.le e e') (hf:fl'=fl) (hfr:flr'=flr) (h:Px Γ Ψ (bs++more) W0 e' fl' flr' k x a w):Px Γ Ψ bs W0 e fl flr k x a w:=by
 obtain ⟨out,s',e'',more',h1,h2,h3,h4,h5,h6,h7⟩:=h
 exact ⟨out,s',e'',more++more',h1,hle.trans h2,h3,h4.trans hf,h5.trans hfr,by rw [← List.append_assoc]; exact h6,by rw [← List.append_assoc]; exact h7⟩
theorem Zko {body:Code} {Q Q':Exit→Act→World→Prop} (h:∀ x a w,Q x a w→Q' x a w):∀ (n:Nat) (a:Act) (w:World),Z3w (wps P body) Q n a w→Z3w (wps P body) Q' n a w:=by
 intro n
 induction n with
 | zero=>intro a w hr; exact hr
 | succ n ih =>
  intro a w hr
  rw [Z4h] at hr ⊢
  refine Z1r body hr ?_
  intro ex a' w' hx
  cases ex with
  | normal=>exact ih a' w' hx
  | _=>exact h _ _ _ hx
theorem Zdu {pl:Zai} {s x:St} {rows:List Row} {aZ:List B} {es:List E} {us:List Nat} (h:Zov pl s rows x=some (aZ,es,us)) :
  ∃ as1 as2 es1 es2 us1 us2,aZ=as1++as2∧es=es1++es2∧us=us1++us2∧Z2l x pl.fr s.fr x.fr=some (as1,es1,us1)∧Z4s x pl.mem s.mem x.mem=some (as2,es2,us2)∧Zbc (us1++us2)=true∧Zrv (us1++us2) 0 rows x.rows=true:=by
 unfold Zov at h
 split at h
 ·rename_i as1 es1 us1 as2 es2 us2 h1 h2
  split at h
  ·rename_i hc
   simp only [Z18r] at hc
   simp only [Option.some.injEq,Prod.mk.injEq] at h
   obtain ⟨rfl,rfl,rfl⟩:=h
   exact ⟨as1,as2,es1,es2,us1,us2,rfl,rfl,rfl,h1,h2,hc.1,hc.2⟩
  ·cases h
 ·cases h
theorem Zdv {e:Env} {W0:Bas} {a:Act} {w:World} {k:St→T}:∀ (ts:List Nat) (s:St),Rel e W0 s a w→(Zum ts s k).sat Γ e.R Ψ bs e.r→∃ x,Rel e W0 { s with fr:=x } a w∧(k { s with fr:=x }).sat Γ e.R Ψ bs e.r
 | [],s,h,hs=>⟨s.fr,h,hs⟩
 | t::ts,s,h,hs=>by
  unfold Zum at hs
  split at hs
  ·exact Zdv ts s h hs
  ·obtain ⟨x,h1,hs1⟩:=Z4w h hs
   obtain ⟨y,h2,hs2⟩:=Zdv ts { s with fr:=x } h1 hs1
   exact ⟨y,h2,hs2⟩
theorem Zn3 {ih:Code→St→Z80→T} (hih:IH P Γ ih) {pl:Zai} {body:Code} {s:St} {k:Z80} {W0:Bas} {e:Env} {a:Act} {w:World} (h:Rel e W0 s a w) (hdp:s.dp=bs.length)
  (hs:(Z15q ih pl body s k).sat Γ e.R Ψ bs e.r):∃ n,Z3w (wps P body) (Px Γ Ψ bs W0 e s.fl s.flr k) n a w:=by
 unfold Z15q at hs
 split at hs
 ·rename_i hsc
  split at hs
  ·rename_i aZ es us hm
   obtain ⟨has,hs⟩:=Z22 hs
   obtain ⟨I,μ,hI,hloop⟩:=hs
   obtain ⟨as1,as2,es1,es2,us1,us2,rfl,rfl,rfl,h1,h2,h3,_⟩:=Zdu hm
   have start:=Zkh (ex:=e) (sx:=s) (us0:=us1++us2) h.rep hsc (Env.le_refl _) h rfl rfl h1 h2 h3 has (fun n b hb hl=>by
    obtain ⟨hb',hn⟩:=Zao hb hl
    exact ⟨hn,b,hb',hl,rfl,rfl,rfl⟩)
   obtain ⟨e2,hle2,her,heR,hrel2⟩:=start
   have hlen:(es1++es2).length=nvS pl.fr + nvM pl.mem:=by
    have h4:=hrel2.rep.nv
    have h5:(Z15o pl s (us1++us2)).nv=s.nv + (nvS pl.fr + nvM pl.mem):=rfl
    rw [h5,her,List.length_append,List.length_map,h.rep.nv] at h4
    omega
   have key:∀ (n:Nat) (xs:List Int),xs.length=(es1++es2).length→I xs→μ xs < n→∀ (e2:Env) (a:Act) (w:World),Env.le e e2→e2.r=e.r++xs→e2.R=e.R→Rel e2 W0 (Z15o pl s (us1++us2)) a w →
     Z3w (wps P body) (Px Γ Ψ bs W0 e s.fl s.flr k) n a w:=by
    intro n
    induction n with
    | zero=>intro xs _ _ hlt; omega
    | succ n ihn =>
     intro xs hxl hIx hlt e2 a w hle2 her heR hrel2
     have hbody:=hloop xs hxl hIx
     rw [← her,← heR] at hbody
     rw [Z4h]
     refine Z1r body (hih body _ _ W0 Ψ _ e2 a w hrel2 (by show s.dp + 1=_; rw [hdp]; simp) hbody) ?_
     rintro ex a' w' ⟨out,s',e',more,rfl,hle',hrel',hf,hfr,hd,hsat⟩
     have hle3:=hle2.trans hle'
     cases out with
     | norm =>
      dsimp only at hsat
      obtain ⟨frx,hrelx,hsatx⟩:=Zdv _ s' hrel' hsat
      clear hsat hrel'
      obtain ⟨sx,hsx⟩:∃ sx:St,sx={ s' with fr:=frx }:=⟨_,rfl⟩
      have hf:sx.fl=s.fl:=by rw [hsx]; exact hf
      have hfr:sx.flr=s.flr:=by rw [hsx]; exact hfr
      have hd:sx.dp=((bs++[fun ys=>I ys∧μ ys < μ xs])++more).length:=by rw [hsx]; exact hd
      rw [← hsx] at hrelx hsatx
      clear hsx
      revert hd
      revert hfr
      revert hf
      revert hsatx
      revert hrelx
      generalize sx=s'
      intro hrel' hsat hf hfr hd
      split at hsat
      ·rename_i bs' fs us' hm'
       obtain ⟨has',hsat⟩:=Z22 hsat
       have hback:∀ {d:Nat} {es:List E} {Rr:Fo} {r:List Int} {bb:List (List Int→Prop)} {p:List Int→Prop},bb[d]?=some p→(T.back d es).sat Γ Rr Ψ bb r→p (es.map (E.den Rr r)):=by
        intro d es Rr r bb p hp hb
        simp only [T.sat,hp] at hb
        exact hb
       have hget:((bs++[fun ys=>I ys∧μ ys < μ xs])++more)[s.dp]?=some (fun ys=>I ys∧μ ys < μ xs):=by
        rw [hdp,List.append_assoc,List.getElem?_append_right (Nat.le_refl _),Nat.sub_self]
        rfl
       obtain ⟨hIy,hμ⟩:=hback hget hsat
       obtain ⟨as1',as2',es1',es2',us1',us2',rfl,rfl,rfl,h1',h2',h3',h4'⟩:=Zdu hm'
       obtain ⟨e3,hle4,her4,heR4,hrel4⟩:=Zkh (ex:=e') (sx:=s') (us0:=us1++us2) h.rep hsc hle3 hrel' hf hfr h1' h2' h3' has' (fun n b hb hl=>by
        have:=Zgd h4' n b hb hl
        rwa [Nat.zero_add] at this)
       refine ihn _ ?_ hIy (by omega) e3 a' w' hle4 her4 heR4 hrel4
       have h5:=hrel4.rep.nv
       have h6:(Z15o pl s (us1++us2)).nv=s.nv + (nvS pl.fr + nvM pl.mem):=rfl
       rw [h6,her4,List.length_append,h.rep.nv] at h5
       omega
      ·exact hsat.elim
     | exit id=>exact Px.mk (out:=.exit id) (more:=[fun ys=>I ys∧μ ys < μ xs]++more) hle3 hrel' hf hfr (by rw [← List.append_assoc]; exact hd) (by rw [← List.append_assoc]; exact hsat)
     | ret=>exact Px.mk (out:=.ret) (more:=[fun ys=>I ys∧μ ys < μ xs]++more) hle3 hrel' hf hfr (by rw [← List.append_assoc]; exact hd) (by rw [← List.append_assoc]; exact hsat)
   exact ⟨_,key _ _ (by rw [List.length_map]) hI (Nat.lt_succ_self _) e2 a w hle2 her heR hrel2⟩
  ·exact hs.elim
 ·exact hs.elim
theorem Z7k (hm:P.follows .mixedOrders=true) {lp:St→Code→Option Zai} (hG:Gok P Γ):∀ f:Nat,IH P Γ (Zfq P lp Γ f)
 | 0=>fun c s k W0 Ψ bs e a w h _ hs=>hs.elim
 | f + 1=>by
  have ih:=Z7k hm (lp:=lp) hG f
  intro c s k W0 Ψ bs e a w h hdp hs
  cases c with
  | skip=>exact (Px.here (out:=.norm) rfl (Env.le_refl _) h rfl rfl hdp hs)
  | label l=>exact (Px.here (out:=.norm) rfl (Env.le_refl _) h rfl rfl hdp hs)
  | region id ops draw =>
   have fin:∀ a' w',Nx Γ Ψ bs W0 e s.fl s.flr (k .norm) a' w'→Px Γ Ψ bs W0 e s.fl s.flr k .normal a' w':=by
    rintro a' w' ⟨s',e',more,h1,h2,h3,h4,h5,h6⟩
    exact Px.mk (out:=.norm) h1 h2 h3 h4 h5 h6
   cases draw with
   | true=>exact Zzo hm (fun c a w hp=>by obtain ⟨out,_,_,_,hx,_⟩:=hp; cases out <;> cases hx) (fun ⟨a,w,hp⟩=>by obtain ⟨out,_,_,_,hx,_⟩:=hp; cases out <;> cases hx) (Zfr hm hG ih h hdp hs fin)
   | false =>
    have alt:(Z3g P Γ (Zfq P lp Γ f) ops ops.toList s (k .norm)).sat Γ e.R Ψ bs e.r→wps P (.region id ops false) (Px Γ Ψ bs W0 e s.fl s.flr k) a w:=fun hs =>
     Zbu (Z3o hG ih ops.toList s (k .norm) bs e a w h hdp hs fin)
    have hs':(Z15k P ops s (k .norm) (Z3g P Γ (Zfq P lp Γ f) ops ops.toList s (k .norm))).sat Γ e.R Ψ bs e.r:=hs
    unfold Z15k at hs'
    split at hs'
    ·split at hs'
     ·rename_i aZ s' pend hsp
      split at hs'
      ·rename_i hun
       obtain ⟨has,hk⟩:=Z22 hs'
       have hsr:SpR e W0 s [] a w:=⟨h.rep,h.defs,by rw [h.tmps]; simp,fun t=>by rw [Z6j h t]; rfl,fun p hp=>(by cases hp),List.Pairwise.nil⟩
       refine Zbu (Z3p ops.toList s [] aZ s' pend e W0 a w hsp has hsr ?_)
       intro a' w' hsr'
       obtain ⟨e',h1,h2,h3,h4,h5,h6,h7⟩:=Zdj pend s' e hsr' hun
       have hst:=Z7i _ _ _ _ _ _ hsp
       exact fin a' w' (Nx.here h1 h4 (h5.trans (by rw [hst])) (h6.trans (by rw [hst])) (h7.trans (by rw [hst]; exact hdp)) (by rw [h2,h3]; exact hk))
      ·exact alt hs'
     ·exact alt hs'
    ·exact alt hs'
  | seq x y =>
   refine Z1r x (ih x s _ W0 Ψ bs e a w h hdp hs) ?_
   rintro ex a' w' ⟨out,s',e',more,rfl,hle,hrel,hf,hfr,hd,hsat⟩
   cases out with
   | norm=>exact Z1r y (ih y s' k W0 Ψ (bs++more) e' a' w' hrel hd hsat) (fun _ _ _ hp=>Px.trans hle hf hfr hp)
   | exit id=>exact Px.mk (out:=.exit id) hle hrel hf hfr hd hsat
   | ret=>exact Px.mk (out:=.ret) hle hrel hf hfr hd hsat
  | cond c x y =>
   cases c with
   | tmp t =>
    simp only [Zfq] at hs
    obtain ⟨z,h1,hs1⟩:=Z4w h hs
    have hev:∀ b,Zfm { s with fr:=z } t=some (.c b)→a.eval (.tmp t)=.bool b:=by
     intro b hb
     rw [h1.eval (.tmp t)]
     show (({ s with fr:=z }:St).fr.getD t Z5).den e=_
     rw [(Z7e hb).2]
     rfl
    split at hs1
    ·rename_i hb
     exact ⟨true,(hev true hb),ih x { s with fr:=z } k W0 Ψ bs e a w h1 hdp hs1⟩
    ·rename_i hb
     exact ⟨false,(hev false hb),ih y { s with fr:=z } k W0 Ψ bs e a w h1 hdp hs1⟩
    ·exact hs1.elim
   | const v =>
    cases v with
    | bool b =>
     cases b with
     | true=>exact ⟨true,rfl,ih x s k W0 Ψ bs e a w h hdp hs⟩
     | false=>exact ⟨false,rfl,ih y s k W0 Ψ bs e a w h hdp hs⟩
    | _=>exact hs.elim
   | global g=>exact hs.elim
   | func g=>exact hs.elim
  | block id body =>
   refine Z1r body (ih body s _ W0 Ψ bs e a w h hdp hs) ?_
   rintro ex a' w' ⟨out,s',e',more,rfl,hle,hrel,hf,hfr,hd,hsat⟩
   cases out with
   | norm=>exact Px.mk (out:=.norm) hle hrel hf hfr hd hsat
   | exit id' =>
    dsimp only at hsat
    show if id'=id then _ else _
    split at hsat
    ·rename_i hid
     rw [if_pos hid]
     exact Px.mk (out:=.norm) hle hrel hf hfr hd hsat
    ·rename_i hid
     rw [if_neg hid]
     exact Px.mk (out:=.exit id') hle hrel hf hfr hd hsat
   | ret=>exact Px.mk (out:=.ret) hle hrel hf hfr hd hsat
  | loop body =>
   simp only [Zfq] at hs
   split at hs
   ·obtain ⟨n,hr⟩:=Zn3 ih h hdp hs
    exact ⟨n,hr⟩
   ·have key:∀ (n:Nat) (s:St) (bs:List (List Int→Prop)) (e:Env) (a:Act) (w:World),Rel e W0 s a w→s.dp=bs.length→(Z15p (Zfq P lp Γ f) body n s k).sat Γ e.R Ψ bs e.r→Z3w (wps P body) (Px Γ Ψ bs W0 e s.fl s.flr k) n a w:=by
     intro n
     induction n with
     | zero=>intro s bs e a w _ _ hs; exact hs.elim
     | succ n ihn =>
      intro s bs e a w h hdp hs
      rw [Z4h]
      refine Z1r body (ih body s _ W0 Ψ bs e a w h hdp hs) ?_
      rintro ex a' w' ⟨out,s',e',more,rfl,hle,hrel,hf,hfr,hd,hsat⟩
      cases out with
      | norm=>exact Zko (fun x a w hp=>Px.trans hle hf hfr hp) n a' w' (ihn s' (bs++more) e' a' w' hrel hd hsat)
      | exit id=>exact Px.mk (out:=.exit id) hle hrel hf hfr hd hsat
      | ret=>exact Px.mk (out:=.ret) hle hrel hf hfr hd hsat
    exact ⟨f,key f s bs e a w h hdp hs⟩
  | exit id=>exact (Px.here (out:=.exit id) rfl (Env.le_refl _) h rfl rfl hdp hs)
  | ret=>exact (Px.here (out:=.ret) rfl (Env.le_refl _) h rfl rfl hdp hs)
  | rangeFunc _ _ _ _=>exact hs.elim
  | scope _=>exact hs.elim
  | goto _=>exact hs.elim
  | refuse _=>exact hs.elim
theorem E.den_Rf (R R':Fo) (r:List Int):E.den R r=E.den R' r:=funext fun a=>E.den_R R R' r a
theorem B.den_R (R R':Fo) (r:List Int):∀ a:B,a.den R r=a.den R' r:=by
 intro a
 induction a <;> simp only [B.den,E.den_R R R'] <;> simp_all
theorem T.sat_R (R R':Fo):∀ (t:T) (bs:List (List Int→Prop)) (r:List Int),t.sat Γ R Ψ bs r=t.sat Γ R' Ψ bs r:=by
 intro t
 induction t with
 | ret es=>intro bs r; simp only [T.sat,E.den_Rf R R']
 | ite b t f iht ihf=>intro bs r; simp only [T.sat,B.den_R R R',iht bs r,ihf bs r]
 | asrt b t ih=>intro bs r; simp only [T.sat,B.den_R R R',ih bs r]
 | call g args t ih =>
  intro bs r
  simp only [T.sat,E.den_Rf R R']
  split
  ·rw [ih]
  ·rfl
 | loop n ini t ih=>intro bs r; simp only [T.sat,E.den_Rf R R',ih]
 | back d es =>
  intro bs r
  simp only [T.sat,E.den_Rf R R']
 | both t f iht ihf=>intro bs r; simp only [T.sat,iht bs r,ihf bs r]
 | any n g args t ih =>
  intro bs r
  simp only [T.sat,E.den_Rf R R',ih]
 | fail=>intro bs r; rfl
theorem Z7l:∀ {ks:List K} {es:List E} {i:Nat} {kr:List K} {x:E},(hsE ks es)[i]?=some (kr,x)→∃ ty,(Z1v ks es)[i]?=some ⟨ty,kr,x,true⟩
 | [],_,i,kr,x,h=>by simp [hsE] at h
 | .i _::ks,[],i,kr,x,h=>by simp [hsE] at h
 | .b::ks,[],i,kr,x,h=>by simp [hsE] at h
 | .s _ _::ks,[],i,kr,x,h=>by simp [hsE] at h
 | .i _::ks,_::es,i,kr,x,h=>Z7l (ks:=ks) (es:=es) (i:=i) h
 | .b::ks,_::es,i,kr,x,h=>Z7l (ks:=ks) (es:=es) (i:=i) h
 | .s ty _::ks,_::es,0,kr,x,h=>by
  simp only [hsE,Z18e,Option.some.injEq,Prod.mk.injEq] at h
  obtain ⟨rfl,rfl⟩:=h
  exact ⟨ty,rfl⟩
 | .s _ _::ks,_::es,i + 1,kr,x,h=>by
  obtain ⟨ty,h'⟩:=Z7l (ks:=ks) (es:=es) (i:=i) (by simpa [hsE] using h)
  exact ⟨ty,by simpa [Z1v] using h'⟩
theorem Z5a.slice {w:World} {ks:List K} {v:Value} {c:Int} (h:Z5a w ks v c):∃ a l cp,v=.slice a l cp:=by
 rcases h with ⟨⟨a,h⟩,_⟩ | ⟨b,off,cap,h,_⟩
 ·exact ⟨_,_,_,h⟩
 ·exact ⟨_,_,_,h⟩
theorem Zkp (hm:P.follows .mixedOrders=true) (hG:Gok P Γ) {lp:St→Code→Option Zai} {gl:List (Nat × List Int)} {fuel:Nat} {fn:FuncId} {ps rs:List Sh} {xs:List Int} {vs:List Value} (w:World) (hx:Z63 (fun _ ks u n=>SlN w ks u n) ps vs xs)
  (hs:(Zx P lp gl Γ fuel fn ps rs).sat Γ [] Ψ [] xs) (hgl:Zm8 gl w) :
  Calls P fn vs.toArray w fun x w'=>∃ ys v,x=.returned v∧Ψ ys∧Z8x (fun k=>w.heap.size≤k) w' rs v ys∧Below w.heap.size w w':=by
 unfold Zx at hs
 split at hs
 ·rename_i F hF
  split at hs
  ·rename_i body hb
   have hxl:=hx.len.1
   have hv:(Z8 0 (Zg ps)).map (E.den (Z9 ps vs) xs)=xs:=by
    have:=Z2f (R:=Z9 ps vs) (r:=[]) hxl
    simpa using this
   have hx':Z63 (fun _ ks u n=>SlN w ks u n) ps vs ((Z8 0 (Zg ps)).map (E.den (⟨xs,[],[],[],Z9 ps vs⟩:Env).R (⟨xs,[],[],[],Z9 ps vs⟩:Env).r)):=by
    show Z63 _ ps vs ((Z8 0 (Zg ps)).map (E.den (Z9 ps vs) xs))
    rw [hv]; exact hx
   obtain ⟨r1,r2⟩:=Z2d hx'
   have hsl:∀ (j:Nat) (u:Value),(Z9 ps vs)[j]?=some u→∃ a l cp,u=.slice a l cp:=fun j u hj=>by
    obtain ⟨b,hb'⟩:∃ b,(Z1v (Z3u ps) (Z8 0 (Zg ps)))[j]?=some b:=⟨_,List.getElem?_eq_getElem (by rw [← r1]; exact (List.getElem?_eq_some_iff.1 hj).1)⟩
    exact (r2 j b u hb' hj).now.slice
   have hden:((Zcv Zos 0 ps (Z8 0 (Zg ps))).map SV.w).map (SV.den ⟨xs,[],[],[],Z9 ps vs⟩)=vs:=by
    rw [List.map_map]
    refine Z99 (e:=⟨xs,[],[],[],Z9 ps vs⟩) hx' fun j u hj=>?_
    simp only [Zos,SC.den,G.val,Nat.zero_add,List.getD,hj,Option.getD_some]
    exact Zdm (hsl j u hj)
   have hrep:Rep ⟨xs,[],[],[],Z9 ps vs⟩ ⟨w,fun _=>False⟩ ⟨Z6f ps F.ntmps,[],[],Zg ps,0,0,0,gl,hsE (Z3u ps) (Z8 0 (Zg ps)),0⟩ w:=by
    refine ⟨Zm.refl _,rfl,rfl,hxl,rfl,?_,?_,?_,?_,?_,?_,?_,⟨hgl,fun _ _ _ hh=>hh⟩,?_⟩
    ·intro n b hb; simp at hb
    ·intro n b hb; simp at hb
    ·intro n m b c hb; simp at hb
    ·intro n b hb; simp at hb
    ·intro n b hb; simp at hb
    ·intro n m b c k hb; simp at hb
    ·intro n m b c hb; simp at hb
    ·intro i ks c hi
     obtain ⟨ty,hr⟩:=Z7l hi
     have hlt:i < (Z9 ps vs).length:=by rw [r1]; exact (List.getElem?_eq_some_iff.1 hr).1
     have hu:(Z9 ps vs)[i]?=some (Z9 ps vs)[i]:=List.getElem?_eq_getElem hlt
     have:=r2 i _ _ hr hu
     show SlN w ks (slV ((Z9 ps vs).getD i undef)) _
     rw [show (Z9 ps vs).getD i undef=(Z9 ps vs)[i] by simp [List.getD,hu],Zdm (hsl i _ hu)]
     exact this
   rw [T.sat_R [] (Z9 ps vs)] at hs
   have:=Zga (Z7k hm (lp:=lp) hG fuel) hrep (args:=(Zcv Zos 0 ps (Z8 0 (Zg ps))).map SV.w) (rs:=rs) (Ψ:=Ψ) (bs:=[]) rfl hF hb hs
   rw [hden] at this
   refine this.mono ?_
   rintro x w' ⟨ys,v,h1,h2,h3,h4⟩
   exact ⟨ys,v,h1,h2,Z8x.up (fun k hk=>hk.elim id (fun hh=>hh.elim)) h3,h4.below⟩
  ·exact hs.elim
 ·exact hs.elim
theorem Sum.ok_ofL (hm:P.follows .mixedOrders=true) (hG:Gok P Γ) {lp:St→Code→Option Zai} {s:Sum} {fuel:Nat} {t:T} (ht:Zx P lp s.gl Γ fuel s.fn s.ps s.rs=t)
  (hsh:(s.ps++s.rs).all (fun sh=>sh.agg || sh.ks.length == 1)=true)
  (hs:∀ xs:List Int,xs.length=Zg s.ps→s.pre xs→t.sat Γ [] (fun ys=>ys=s.sem xs) [] xs)
  (hl:∀ xs:List Int,xs.length=Zg s.ps→s.pre xs→(s.sem xs).length=Zg s.rs):s.ok P:=by
 subst ht
 refine ⟨fun sh h=>?_,fun xs vs w hgl hx hpre=>⟨hl xs hx.len.1 hpre,?_⟩⟩
 ·have:=List.all_eq_true.1 hsh sh h
  simpa using this
 ·refine (Zkp hm hG w hx (hs xs hx.len.1 hpre) hgl).mono ?_
  rintro e w' ⟨ys,v,rfl,rfl,hv,hb⟩
  exact ⟨v,rfl,hv,hb⟩
end
end Go.Sx
namespace Go.Sx
open Go.RowKit Go.ChangeShapes Go.WideShapes Go.ChangeAt
def Zhj (P:Program) (rec:TypeId→Option (List K)):List Field→Nat→Option (List K)
 | [],_=>some []
 | f::fs,off=>if f.offset=off then match rec f.type with
   | some ks=>if ks.length=P.cellsOf f.type then (Zhj P rec fs (off + ks.length)).map (ks++·) else none
   | none=>none
  else none
def Zkq (P:Program):Nat→TypeId→Option (List K)
 | 0,_=>none
 | d + 1,t=>match P.underlying t with
  | some (.int k)=>some [.i k]
  | some .bool=>some [.b]
  | some (.struct fs)=>match Zhj P (Zkq P d) fs.toList 0 with
   | some ks=>if ks.length=P.cellsOf t then some ks else none
   | none=>none
  | some (.array n e)=>match Zkq P d e with
   | some ks=>if ks.length=P.cellsOf e∧n * ks.length=P.cellsOf t then some (List.replicate n ks).flatten else none
   | none=>none
  | _=>none
def inK:K→Int→Prop
 | .i k,n=>(Lit.int k n).wf=true
 | .b,n=>n=0∨n=1
 | .s _ _,_=>True
def Zd:List K→List Int→Prop
 | [],[]=>True
 | k::ks,x::xs=>inK k x∧Zd ks xs
 | _,_=>False
theorem Z1t:∀ {ks:List K} {xs:List Int},Zd ks xs→xs.length=ks.length
 | [],[],_=>rfl
 | _::_,_::_,h=>by simp [Z1t h.2]
 | [],_::_,h=>h.elim
 | _::_,[],h=>h.elim
theorem Z8k:∀ {ks ls:List K} {xs ys:List Int},Zd ks xs→Zd ls ys→Zd (ks++ls) (xs++ys)
 | [],_,[],_,_,h=>h
 | _::_,_,_::_,_,h,h'=>⟨h.1,Z8k h.2 h'⟩
 | [],_,_::_,_,h,_=>h.elim
 | _::_,_,[],_,h,_=>h.elim
theorem Z46:∀ {ks ls:List K} {xs ys:List Int},xs.length=ks.length→Z7 (ks++ls) (xs++ys)=Z7 ks xs++Z7 ls ys
 | [],_,[],_,_=>rfl
 | _::ks,ls,x::xs,ys,h=>by
  simp only [Z18i,Z7,List.length_cons,Nat.add_right_cancel_iff] at h ⊢
  rw [Z46 h]
 | [],_,_::_,_,h=>by simp at h
 | _::_,_,[],_,h=>by simp at h
section
variable {H:Type} {enc:TypeId × Value→H} {P:Program} {w:World} {base:Nat} {spare:Nat→Bool} {held:Bool}
theorem Zge {fuel:Nat} {rec:TypeId→Option (List K)} {xs:List (DataW H × List MemPlace)} {cs:List Value}
    (hrec:∀ (t:TypeId) (ks:List K) (c:List Value) (x:DataW H × List MemPlace),rec t=some ks→DataW.trod enc P w base spare held fuel t c=some x→∃ ys,c=Z7 ks ys∧Zd ks ys) :
    ∀ (fs:List Field) (off i:Nat) (ks:List K),Zhj P rec fs off=some ks→off + ks.length≤cs.length →
      (∀ j f,fs[j]?=some f→DataW.trod enc P w base spare held fuel f.type ((cs.drop f.offset).take (P.cellsOf f.type))=xs[i + j]?)→i + fs.length≤xs.length →
      ∃ ys,(cs.drop off).take ks.length=Z7 ks ys∧Zd ks ys
  | [],off,i,ks,h,_,_,_=>by
    simp only [Zhj,Option.some.injEq] at h
    subst h
    exact ⟨[],by simp [Z7],trivial⟩
  | f::fs,off,i,ks,h,hle,hx,hlen=>by
    simp only [Zhj] at h
    split at h
    · rename_i hoff
      split at h
      · rename_i k1 hk1
        split at h
        · rename_i hc
          simp only [Option.map_eq_some_iff] at h
          obtain ⟨k2,hk2,rfl⟩:=h
          simp only [List.length_append,List.length_cons] at hle hlen
          have h0:=hx 0 f rfl
          rw [Nat.add_zero,List.getElem?_eq_getElem (by omega)] at h0
          obtain ⟨y1,hy1,hr1⟩:=hrec f.type k1 _ _ hk1 h0
          obtain ⟨y2,hy2,hr2⟩:=Zge (cs:=cs) (xs:=xs) hrec fs (off + k1.length) (i + 1) k2 hk2 (by omega) (fun j g hg=>by
            have:=hx (j + 1) g hg
            rwa [show i + (j + 1)=i + 1 + j by omega] at this) (by omega)
          refine ⟨y1++y2,?_,Z8k hr1 hr2⟩
          rw [Z46 (Z1t hr1),← hy2,← hy1,hoff,← hc,List.length_append,List.take_add,List.drop_drop]
        · cases h
      · cases h
    · cases h
theorem Zkr {fuel:Nat} {e:TypeId} {ks:List K} {xs:List (DataW H × List MemPlace)} {cs:List Value} (hks:ks.length=P.cellsOf e)
    (hrec:∀ (c:List Value) (x:DataW H × List MemPlace),DataW.trod enc P w base spare held fuel e c=some x→∃ ys,c=Z7 ks ys∧Zd ks ys) :
    ∀ (n i:Nat),(∀ j,j < n→DataW.trod enc P w base spare held fuel e ((cs.drop ((i + j) * P.cellsOf e)).take (P.cellsOf e))=xs[i + j]?)→i + n≤xs.length →
      ∃ ys,(cs.drop (i * ks.length)).take (n * ks.length)=Z7 (List.replicate n ks).flatten ys∧Zd (List.replicate n ks).flatten ys
  | 0,i,_,_=>⟨[],by simp [Z7],trivial⟩
  | n + 1,i,hx,hlen=>by
    have h0:=hx 0 (by omega)
    rw [Nat.add_zero,List.getElem?_eq_getElem (by omega)] at h0
    obtain ⟨y1,hy1,hr1⟩:=hrec _ _ h0
    obtain ⟨y2,hy2,hr2⟩:=Zkr (cs:=cs) (xs:=xs) hks hrec n (i + 1) (fun j hj=>by
      have:=hx (j + 1) (by omega)
      rwa [show i + (j + 1)=i + 1 + j by omega] at this) (by omega)
    refine ⟨y1++y2,?_,?_⟩
    · rw [List.replicate_succ,List.flatten_cons,Z46 (Z1t hr1),← hy2,← hy1,hks,Nat.add_mul,Nat.one_mul,Nat.add_comm (n * P.cellsOf e),List.take_add,List.drop_drop,Nat.add_mul,Nat.one_mul]
    · rw [List.replicate_succ,List.flatten_cons]
      exact Z8k hr1 hr2
theorem Zhk:∀ (d fuel:Nat) (t:TypeId) (ks:List K) (cs:List Value) (x:DataW H × List MemPlace),Zkq P d t=some ks→DataW.trod enc P w base spare held fuel t cs=some x→∃ xs,cs=Z7 ks xs∧Zd ks xs
 | 0,_,_,_,_,_,h,_=>by simp [Zkq] at h
 | d + 1,fuel,t,ks,cs,x,h,hd=>by
  unfold Zkq at h
  split at h
  ·rename_i k ht
   simp only [Option.some.injEq] at h
   subst h
   obtain ⟨n,rfl,_,hwf⟩:=DataW.trod_int ht hd
   exact ⟨[n],rfl,hwf,trivial⟩
  ·rename_i ht
   simp only [Option.some.injEq] at h
   subst h
   obtain ⟨b,rfl,_⟩:=DataW.trod_bool ht hd
   exact ⟨[if b then 1 else 0],by cases b <;> rfl,by cases b <;> simp [inK],trivial⟩
  ·rename_i fs ht
   split at h
   ·rename_i ks' hks
    split at h
    ·rename_i hc
     simp only [Option.some.injEq] at h
     subst h
     obtain ⟨xs,n,rfl,_,hcl,hxl,hf⟩:=DataW.trod_struct ht hd
     obtain ⟨ys,hy,hr⟩:=Zge (cs:=cs) (xs:=xs) (fun t ks c x h1 h2=>Zhk d n t ks c x h1 h2) fs.toList 0 0 ks' hks (by omega) (fun j f hj=>by
      rw [Nat.zero_add]
      exact hf j f (by simpa using hj)) (by simp; omega)
     refine ⟨ys,?_,hr⟩
     rw [← hy,List.drop_zero,List.take_of_length_le (by omega)]
    ·cases h
   ·cases h
  ·rename_i n e ht
   split at h
   ·rename_i ks' hks
    split at h
    ·rename_i hc
     simp only [Option.some.injEq] at h
     subst h
     obtain ⟨xs,m,rfl,_,hcl,hxl,hf⟩:=DataW.trod_array ht hd
     obtain ⟨ys,hy,hr⟩:=Zkr (cs:=cs) (xs:=xs) hc.1 (fun c x h2=>Zhk d m e ks' c x hks h2) n 0 (fun j hj=>by
      rw [Nat.zero_add]
      exact hf j hj) (by omega)
     refine ⟨ys,?_,hr⟩
     rw [← hy,Nat.zero_mul,List.drop_zero,List.take_of_length_le (by omega)]
    ·cases h
   ·cases h
  ·cases h
theorem Zn4 {r:Reach} {b0:Nat} {t:TypeId} {sh:Sh} {v:Value} {d:DataW H} {ps:List MemPlace} (hl:Zkq P 8 t=some sh.ks) (ha:Z60 P t=sh.agg) (hval:Value.okWide P w r b0 t v) (hd:DataW.Trod enc P w base spare held t v d ps) :
  ∃ xs,v=Zua sh xs∧Zd sh.ks xs:=by
 obtain ⟨fuel,hf⟩:=hd
 obtain ⟨xs,hxs,hr⟩:=Zhk 8 fuel t sh.ks v.cells.toList _ hl hf
 refine ⟨xs,?_,hr⟩
 unfold Z60 at ha
 unfold Value.okWide at hval
 cases hu:P.underlying t with
 | none=>simp [Zkq,hu] at hl
 | some dsc =>
  rw [hu] at ha hval
  cases dsc with
  | struct fs =>
   obtain ⟨cs,rfl,_⟩:=hval
   simp only at ha
   simp [Zua,← ha,← hxs,Value.cells]
  | array n e =>
   obtain ⟨cs,rfl,_⟩:=hval
   simp only at ha
   simp [Zua,← ha,← hxs,Value.cells]
  | int k =>
   obtain ⟨n,rfl⟩:=okWide_int hu (by unfold Value.okWide; rw [hu]; exact hval)
   simp only at ha
   simp [Zua,← ha,← hxs,Value.cells]
  | bool =>
   obtain ⟨n,rfl⟩:=okWide_bool hu (by unfold Value.okWide; rw [hu]; exact hval)
   simp only at ha
   simp [Zua,← ha,← hxs,Value.cells]
  | _=>simp [Zkq,hu] at hl
end
theorem Z141 {n:Int} (h:(Lit.int .i64 n).wf=true):-9223372036854775808≤n∧n≤9223372036854775807:=by
 simp only [Lit.wf,Z18r,Z18s] at h
 have h1:IntKind.i64.min=-9223372036854775808:=by decide
 have h2:IntKind.i64.max=9223372036854775807:=by decide
 rw [h1,h2] at h
 exact h
def Bo:Sh:=⟨false,[.b]⟩
def I1:Sh:=⟨false,[.i .i64]⟩
def An (n:Nat):Sh:=⟨true,List.replicate n (.i .i64)⟩
theorem Zsc {w:World} {a:Addr}:∀ (n:Nat) (f:Nat→Nat) (cs:List Value),(List.range n).mapM (fun i=>w.cell? (a.add (f i)))=some cs→cs.length=n∧∀ j v,cs[j]?=some v→w.cell? (a.add (f j))=some v:=by
 have key:∀ (l:List Nat) (f:Nat→Nat) (cs:List Value),l.mapM (fun i=>w.cell? (a.add (f i)))=some cs→cs.length=l.length∧∀ (j:Nat) (v:Value),cs[j]?=some v→∃ i,l[j]?=some i∧w.cell? (a.add (f i))=some v:=by
  intro l
  induction l with
  | nil=>intro f cs h; simp at h; subst h; simp
  | cons x l ih =>
   intro f cs h
   simp only [List.mapM_cons,Option.bind_eq_bind,Option.pure_def,Option.bind_eq_some_iff,Option.some.injEq] at h
   obtain ⟨v,hv,vs,hvs,rfl⟩:=h
   obtain ⟨h1,h2⟩:=ih f vs hvs
   refine ⟨by simp [h1],fun j u hj=>?_⟩
   cases j with
   | zero=>simp only [Z18e,Option.some.injEq] at hj; subst hj; exact ⟨x,rfl,hv⟩
   | succ j=>obtain ⟨i,h3,h4⟩:=h2 j u (by simpa using hj); exact ⟨i,by simpa using h3,h4⟩
 intro n f cs h
 obtain ⟨h1,h2⟩:=key _ f cs h
 refine ⟨by simpa using h1,fun j v hj=>?_⟩
 obtain ⟨i,h3,h4⟩:=h2 j v hj
 have hlt:j < n:=by have:=(List.getElem?_eq_some_iff.1 h3).1; simpa using this
 rw [List.getElem?_range hlt] at h3
 simp only [Option.some.injEq] at h3
 rw [h3]; exact h4
def Z10b (ks:List K) (ys:List Int):Int:=if ks.length=1 then ys.getD 0 0 else cod ys
theorem Zks {ks:List K} {ys:List Int} (h:ys.length=ks.length):elt ks (Z10b ks ys)=ys:=by
 unfold elt Z10b
 by_cases h1:ks.length=1
 ·simp only [h1,if_true]
  rw [h1] at h
  match ys,h with
  | [y],_=>rfl
 ·simp only [h1,if_false,Z4]
theorem Zdw {S:TypeId→List K→Value→Int→Prop}:∀ {ks:List K} {xs:List Int},nS ks=0→xs.length=ks.length→Z2k S ks (Z7 ks xs) xs
 | [],[],_,_=>trivial
 | .i k::ks,x::xs,h,hl=>⟨rfl,Zdw (ks:=ks) h (by simpa using hl)⟩
 | .b::ks,x::xs,h,hl=>⟨rfl,Zdw (ks:=ks) h (by simpa using hl)⟩
 | .s _ _::_,_,h,_=>by simp [nS] at h
 | [],_::_,_,h=>by simp at h
 | _::_,[],_,h=>by simp at h
theorem Zvb {S:TypeId→List K→Value→Int→Prop} {s:Sh} {xs:List Int} (hs:(s.agg || s.ks.length == 1)=true) (h:nS s.ks=0) (hl:xs.length=s.ks.length):ShR S s (Zua s xs) xs:=by
 have:=Zdw (S:=S) h hl
 unfold ShR Zua
 cases ha:s.agg with
 | true=>simp only [if_true]; exact ⟨_,rfl,this⟩
 | false =>
  simp only [ha,Bool.false_or,beq_iff_eq] at hs
  simp only [Bool.false_eq_true,if_false]
  have h1:=Z16 hl
  rw [hs] at h1
  match hm:Z7 s.ks xs,h1 with
  | [v],_=>rw [hm] at this; exact this
end Go.Sx
set_option maxRecDepth 100000
namespace Go.Proofs.Ytgcoidbaoigkeaa.facts
open Go.RowKit Go.ChangeShapes Go.WideShapes Go.ChangeAt Go.Sx
theorem own:ownKnob Try.prog.godebug=none:=by kernel_rfl
theorem laidOut:laidOutB Try.prog=true:=by kernel_rfl
theorem mixed:Try.prog.follows .mixedOrders=true:=by kernel_rfl
theorem Zsd:mapsRowed Try.prog=true:=by kernel_rfl
theorem stops:Try.prog.stops=[]:=by kernel_rfl
theorem stopKnobs:Try.prog.stopKnobs=[]:=by kernel_rfl
theorem plainKeys:Try.prog.plainKeys=true:=by kernel_rfl
theorem heard:Try.prog.stopsHeard=true:=by kernel_rfl
theorem initIs:Try.prog.initOrder = "harness 7ae9aa31b04f278814b45122058fd5a940985668b5ba045db3c2f471391479f5 cut at diorama/dioramatop.TopMoves diorama/dioramalaw16.TreeRefits diorama/dioramalaw16.TreeBuilds diorama/dioramalaw16.TreeOnce diorama/dioramalaw16.TreeNames diorama/dioramalaw16.TreeHolds":=by kernel_rfl
theorem litIs : "harness 7ae9aa31b04f278814b45122058fd5a940985668b5ba045db3c2f471391479f5 cut at diorama/dioramatop.TopMoves diorama/dioramalaw16.TreeRefits diorama/dioramalaw16.TreeBuilds diorama/dioramalaw16.TreeOnce diorama/dioramalaw16.TreeNames diorama/dioramalaw16.TreeHolds"=String.ofList ['h','a','r','n','e','s','s',' ','7','a','e','9','a','a','3','1','b','0','4','f','2','7','8','8','1','4','b','4','5','1','2','2','0','5','8','f','d','5','a','9','4','0','9','8','5','6','6','8','b','5','b','a','0','4','5','d','b','3','c','2','f','4','7','1','3','9','1','4','7','9','f','5',' ','c','u','t',' ','a','t',' ','d','i','o','r','a','m','a','/','d','i','o','r','a','m','a','t','o','p','.','T','o','p','M','o','v','e','s',' ','d','i','o','r','a','m','a','/','d','i','o','r','a','m','a','l','a','w','1','6','.','T','r','e','e','R','e','f','i','t','s',' ','d','i','o','r','a','m','a','/','d','i','o','r','a','m','a','l','a','w','1','6','.','T','r','e','e','B','u','i','l','d','s',' ','d','i','o','r','a','m','a','/','d','i','o','r','a','m','a','l','a','w','1','6','.','T','r','e','e','O','n','c','e',' ','d','i','o','r','a','m','a','/','d','i','o','r','a','m','a','l','a','w','1','6','.','T','r','e','e','N','a','m','e','s',' ','d','i','o','r','a','m','a','/','d','i','o','r','a','m','a','l','a','w','1','6','.','T','r','e','e','H','o','l','d','s']:=by kernel_rfl
theorem words:wordsSigns Try.prog.initOrder.toList=[['h','a','r','n','e','s','s'],['7','a','e','9','a','a','3','1','b','0','4','f','2','7','8','8','1','4','b','4','5','1','2','2','0','5','8','f','d','5','a','9','4','0','9','8','5','6','6','8','b','5','b','a','0','4','5','d','b','3','c','2','f','4','7','1','3','9','1','4','7','9','f','5'],['c','u','t'],['a','t'],['d','i','o','r','a','m','a','/','d','i','o','r','a','m','a','t','o','p','.','T','o','p','M','o','v','e','s'],['d','i','o','r','a','m','a','/','d','i','o','r','a','m','a','l','a','w','1','6','.','T','r','e','e','R','e','f','i','t','s'],['d','i','o','r','a','m','a','/','d','i','o','r','a','m','a','l','a','w','1','6','.','T','r','e','e','B','u','i','l','d','s'],['d','i','o','r','a','m','a','/','d','i','o','r','a','m','a','l','a','w','1','6','.','T','r','e','e','O','n','c','e'],['d','i','o','r','a','m','a','/','d','i','o','r','a','m','a','l','a','w','1','6','.','T','r','e','e','N','a','m','e','s'],['d','i','o','r','a','m','a','/','d','i','o','r','a','m','a','l','a','w','1','6','.','T','r','e','e','H','o','l','d','s']]:=by
 rw [initIs,litIs,String.toList_ofList]
 kernel_rfl
theorem behind:behindMainWord [['h','a','r','n','e','s','s'],['7','a','e','9','a','a','3','1','b','0','4','f','2','7','8','8','1','4','b','4','5','1','2','2','0','5','8','f','d','5','a','9','4','0','9','8','5','6','6','8','b','5','b','a','0','4','5','d','b','3','c','2','f','4','7','1','3','9','1','4','7','9','f','5'],['c','u','t'],['a','t'],['d','i','o','r','a','m','a','/','d','i','o','r','a','m','a','t','o','p','.','T','o','p','M','o','v','e','s'],['d','i','o','r','a','m','a','/','d','i','o','r','a','m','a','l','a','w','1','6','.','T','r','e','e','R','e','f','i','t','s'],['d','i','o','r','a','m','a','/','d','i','o','r','a','m','a','l','a','w','1','6','.','T','r','e','e','B','u','i','l','d','s'],['d','i','o','r','a','m','a','/','d','i','o','r','a','m','a','l','a','w','1','6','.','T','r','e','e','O','n','c','e'],['d','i','o','r','a','m','a','/','d','i','o','r','a','m','a','l','a','w','1','6','.','T','r','e','e','N','a','m','e','s'],['d','i','o','r','a','m','a','/','d','i','o','r','a','m','a','l','a','w','1','6','.','T','r','e','e','H','o','l','d','s']]=[['c','u','t'],['a','t'],['d','i','o','r','a','m','a','/','d','i','o','r','a','m','a','t','o','p','.','T','o','p','M','o','v','e','s'],['d','i','o','r','a','m','a','/','d','i','o','r','a','m','a','l','a','w','1','6','.','T','r','e','e','R','e','f','i','t','s'],['d','i','o','r','a','m','a','/','d','i','o','r','a','m','a','l','a','w','1','6','.','T','r','e','e','B','u','i','l','d','s'],['d','i','o','r','a','m','a','/','d','i','o','r','a','m','a','l','a','w','1','6','.','T','r','e','e','O','n','c','e'],['d','i','o','r','a','m','a','/','d','i','o','r','a','m','a','l','a','w','1','6','.','T','r','e','e','N','a','m','e','s'],['d','i','o','r','a','m','a','/','d','i','o','r','a','m','a','l','a','w','1','6','.','T','r','e','e','H','o','l','d','s']]:=by kernel_rfl
theorem Zc0:behindMainWord (wordsSigns Try.prog.initOrder.toList)=[['c','u','t'],['a','t'],['d','i','o','r','a','m','a','/','d','i','o','r','a','m','a','t','o','p','.','T','o','p','M','o','v','e','s'],['d','i','o','r','a','m','a','/','d','i','o','r','a','m','a','l','a','w','1','6','.','T','r','e','e','R','e','f','i','t','s'],['d','i','o','r','a','m','a','/','d','i','o','r','a','m','a','l','a','w','1','6','.','T','r','e','e','B','u','i','l','d','s'],['d','i','o','r','a','m','a','/','d','i','o','r','a','m','a','l','a','w','1','6','.','T','r','e','e','O','n','c','e'],['d','i','o','r','a','m','a','/','d','i','o','r','a','m','a','l','a','w','1','6','.','T','r','e','e','N','a','m','e','s'],['d','i','o','r','a','m','a','/','d','i','o','r','a','m','a','l','a','w','1','6','.','T','r','e','e','H','o','l','d','s']]:=by rw [words,behind]
theorem strip:stripLifts liftWords [['c','u','t'],['a','t'],['d','i','o','r','a','m','a','/','d','i','o','r','a','m','a','t','o','p','.','T','o','p','M','o','v','e','s'],['d','i','o','r','a','m','a','/','d','i','o','r','a','m','a','l','a','w','1','6','.','T','r','e','e','R','e','f','i','t','s'],['d','i','o','r','a','m','a','/','d','i','o','r','a','m','a','l','a','w','1','6','.','T','r','e','e','B','u','i','l','d','s'],['d','i','o','r','a','m','a','/','d','i','o','r','a','m','a','l','a','w','1','6','.','T','r','e','e','O','n','c','e'],['d','i','o','r','a','m','a','/','d','i','o','r','a','m','a','l','a','w','1','6','.','T','r','e','e','N','a','m','e','s'],['d','i','o','r','a','m','a','/','d','i','o','r','a','m','a','l','a','w','1','6','.','T','r','e','e','H','o','l','d','s']]=([],[['c','u','t'],['a','t'],['d','i','o','r','a','m','a','/','d','i','o','r','a','m','a','t','o','p','.','T','o','p','M','o','v','e','s'],['d','i','o','r','a','m','a','/','d','i','o','r','a','m','a','l','a','w','1','6','.','T','r','e','e','R','e','f','i','t','s'],['d','i','o','r','a','m','a','/','d','i','o','r','a','m','a','l','a','w','1','6','.','T','r','e','e','B','u','i','l','d','s'],['d','i','o','r','a','m','a','/','d','i','o','r','a','m','a','l','a','w','1','6','.','T','r','e','e','O','n','c','e'],['d','i','o','r','a','m','a','/','d','i','o','r','a','m','a','l','a','w','1','6','.','T','r','e','e','N','a','m','e','s'],['d','i','o','r','a','m','a','/','d','i','o','r','a','m','a','l','a','w','1','6','.','T','r','e','e','H','o','l','d','s']]):=by kernel_rfl
theorem Z162 {P:Program} {c:List Char} {rest:List (List Char)} (h:behindMainWord (wordsSigns P.initOrder.toList)=c::rest)
  (h1:(c == "gc".toList || c == "spec".toList)=false) (h2:(c == "cut".toList)=true):P.make=some .cut:=by
 unfold Program.make
 rw [h]
 simp only [h1,h2,Bool.true_or,if_true,Bool.false_eq_true,if_false]
theorem Zkt {P:Program} {ws rs:List (List Char)} (h:behindMainWord (wordsSigns P.initOrder.toList)=ws) (hs:stripLifts liftWords ws=([],rs)):P.headLifts=[]:=by
 unfold Program.headLifts
 rw [h]
 simp only [hs]
 split <;> rfl
theorem Zhl {P:Program} {ws:List (List Char)} (h:behindMainWord (wordsSigns P.initOrder.toList)=ws) (hl:P.headLifts=[])
  (h1:(ws.head? == some "carried".toList)=false):P.liftsFinal=false:=by
 unfold Program.liftsFinal
 simp only [h,hl,h1,Bool.false_and,Bool.false_or]
 rfl
theorem Zn5 {P:Program} {c:List Char} {rest:List (List Char)} (h:behindMainWord (wordsSigns P.initOrder.toList)=c::rest) (hs:stripLifts liftWords (c::rest)=([],c::rest))
  (h1:(some c == some "cut".toList)=true) (h2:P.laysLater=false) (h3:P.bearsReflect=false) (h4:P.doorFits []=true):P.mayEnter=true:=by
 unfold Program.mayEnter
 rw [h]
 simp only [hs,List.head?_cons,h1,h2,h3,h4,Bool.not_false,Bool.or_true,Bool.and_true,Bool.true_and,List.contains_nil]
theorem mayEnter:Try.prog.mayEnter=true:=Zn5 Zc0 strip (by kernel_rfl) (by kernel_rfl) (by kernel_rfl) (by kernel_rfl)
theorem headLifts:Try.prog.headLifts=[]:=Zkt Zc0 strip
theorem liftsFinal:Try.prog.liftsFinal=false:=Zhl Zc0 headLifts (by kernel_rfl)
theorem make:Try.prog.make=some .cut:=Z162 Zc0 (by kernel_rfl) (by kernel_rfl)
theorem joined {f:FuncId} {fn:Func} {s:ChangeSpec} {c:OpenClaim}
  (h1:(c.wf (OpenSpec.ofChange s) && fn.params.all (Try.prog.readableRec ·) && namedTie Try.prog c.named s.vars && (c.stops == []) && (c.knobs == []) &&
   (c.maps == (fn.params.toList++s.plain.varTypes Try.prog).any (Try.prog.mapsRec ·)) && (c.ifaces == (fn.params.toList++s.plain.varTypes Try.prog).any (Try.prog.ifacesRec ·)) && (c.mapsOut == Try.prog.mapsAmong fn.resultTypes.toList))=true)
  (h2:((c.loops == (fn.params.toList++s.plain.varTypes Try.prog).any (Try.prog.loopsFrom ·)) && (c.wideKeys == (fn.params.toList++s.plain.varTypes Try.prog++fn.resultTypes.toList).any (Try.prog.wideKeysFrom ·)) &&
   s.vars.all (Try.prog.varReadable ·) && fn.resultTypes.all (fun t=>Try.prog.readableRec t && decide (t < Try.prog.types.size)) && (c.ifacesOut == fn.resultTypes.toList.any (Try.prog.ifacesRec ·)) && (c.loopsOut == fn.resultTypes.toList.any (Try.prog.loopsFrom ·)))=true)
  (h3:((c.kinds == (if c.domain.isEmpty then [] else fn.params.toList.map fun t=>match Try.prog.underlying t with | some (.int k)=>some k | _=>none)) && (c.pinned == c.pinnedBy) &&
   (c.veiled == (fn.params.toList++s.plain.varTypes Try.prog++fn.resultTypes.toList).any (Try.prog.veiledRec ·)) && c.veiledFits Try.prog fn.params.toList (fn.params.toList++s.plain.varTypes Try.prog++fn.resultTypes.toList))=true)
  (i1:(c.inPlace == Try.prog.inPlace f)=true) (i2:(c.unfollowed == Try.prog.unfollowed f)=true) (i3:(c.recurses == Try.prog.recurses f)=true) (i4:(c.named == Try.prog.varsNamed f)=true)
  (j1:c.plainKeys=true) (j2:c.lifted=false) (j3:c.make=.cut) (j4:c.shortTexts.isNone=true) :
  joinedFacts Try.prog f fn s c=true:=by
 unfold joinedFacts
 simp only [Z18r] at h1 h2 h3
 obtain ⟨⟨⟨⟨⟨⟨⟨a1,a2⟩,a3⟩,a4⟩,a5⟩,a6⟩,a7⟩,a8⟩:=h1
 obtain ⟨⟨⟨⟨⟨b1,b2⟩,b3⟩,b4⟩,b5⟩,b6⟩:=h2
 obtain ⟨⟨⟨c1,c2⟩,c3⟩,c4⟩:=h3
 simp only [Z18r]
 refine ⟨⟨⟨⟨⟨⟨⟨⟨⟨⟨⟨⟨⟨⟨⟨⟨⟨⟨⟨⟨⟨⟨⟨⟨⟨⟨⟨⟨⟨⟨⟨a1,laidOut⟩,Zsd⟩,a2⟩,a3⟩,a4⟩,by rw [stops]; rfl⟩,a5⟩,by rw [stopKnobs]; rfl⟩,i1⟩,i2⟩,i3⟩,i4⟩,a6⟩,a7⟩,a8⟩,b1⟩,b2⟩,b3⟩,b4⟩,b5⟩,b6⟩,by rw [j1,plainKeys]; rfl⟩,j4⟩,heard⟩,mayEnter⟩,by rw [j2,liftsFinal]; rfl⟩,by rw [make,j3]; rfl⟩,?_⟩,c2⟩,c3⟩,c4⟩
 exact c1
end Go.Proofs.Ytgcoidbaoigkeaa.facts
namespace Go.Sx
open Go.RowKit
theorem Z10 {x:Int} (h1:-9223372036854775808≤x) (h2:x≤9223372036854775807):IntKind.i64.wrap x=x:=by
 rw [IntKind.wrap_i64]; omega
theorem Zhm {a b q r:Int} (hb:0 < b) (h:b * q + r=a) (h0:0≤r) (h1:r < b):a / b=q :=
 ((Int.ediv_emod_unique hb).2 ⟨by omega,h0,h1⟩).1
def up (a b:Int):Int:=-((-a) / b)
theorem Zvc {a b:Int} (hb:0 < b) (h:a.tmod b < 0):a.tdiv b - 1=a / b:=by
 have h1:=Int.mul_tdiv_add_tmod a b
 have h2:=Int.lt_tmod_of_pos a hb
 refine (Zhm hb (r:=a.tmod b + b) ?_ (by omega) (by omega)).symm
 rw [Int.mul_sub]; omega
theorem Zdx {a b:Int} (hb:0 < b) (h:0≤a.tmod b):a.tdiv b=a / b:=by
 have h1:=Int.mul_tdiv_add_tmod a b
 have h2:=Int.tmod_lt_of_pos a hb
 exact (Zhm hb h1 h h2).symm
theorem up_neg {a b:Int} (hb:0 < b) (h:a.tmod b≤0):a.tdiv b=up a b:=by
 have h1:=Int.mul_tdiv_add_tmod a b
 have h2:=Int.lt_tmod_of_pos a hb
 unfold up
 rw [Zhm hb (q:=-(a.tdiv b)) (r:=-a.tmod b) (by rw [Int.mul_neg]; omega) (by omega) (by omega)]
 omega
theorem Z9f {a b l h:Int} (hb:0 < b) (hl:l≤0) (hh:0≤h) (h1:l≤a) (h2:a≤h):l≤a / b∧a / b≤h:=by
 constructor
 ·rw [Int.le_ediv_iff_mul_le hb]
  have:l * b≤l * 1:=Int.mul_le_mul_of_nonpos_left hl (by omega)
  omega
 ·apply Int.ediv_le_of_le_mul hb
  have:h * 1≤h * b:=Int.mul_le_mul_of_nonneg_left (by omega) hh
  omega
theorem Z10c {a b l h:Int} (hb:0 < b) (hl:l≤0) (hh:0≤h) (h1:l≤a) (h2:a≤h):l≤up a b∧up a b≤h:=by
 have:=Z9f (a:=-a) (l:=-h) (h:=-l) hb (by omega) (by omega) (by omega) (by omega)
 unfold up
 omega
theorem Zse {a b l h:Int} (hb:0 < b) (hl:l≤0) (hh:0≤h) (h1:l≤a) (h2:a≤h):l≤a.tdiv b∧a.tdiv b≤h:=by
 rcases Int.lt_or_le a 0 with hn | hn
 ·have h3:0≤(-a).tmod b:=Int.tmod_nonneg b (by omega)
  rw [Int.neg_tmod] at h3
  rw [up_neg hb (by omega)]
  exact Z10c hb hl hh h1 h2
 ·rw [Zdx hb (Int.tmod_nonneg b hn)]
  exact Z9f hb hl hh h1 h2
theorem Zph {a a' b:Int} (hb:0 < b) (h:a≤a'):a / b≤a' / b:=Int.ediv_le_ediv hb h
theorem Z28 {x y m n:Int} (hx:-m≤x∧x≤m) (hy:-n≤y∧y≤n):-(m * n)≤x * y∧x * y≤m * n:=by
 have hm:0≤m:=by omega
 have hn:0≤n:=by omega
 have h1:x.natAbs≤m.natAbs:=by omega
 have h2:y.natAbs≤n.natAbs:=by omega
 have h3:(x * y).natAbs≤(m * n).natAbs:=by
  rw [Int.natAbs_mul,Int.natAbs_mul]
  exact Nat.mul_le_mul h1 h2
 have h4:0≤m * n:=Int.mul_nonneg hm hn
 omega
def In64 (n:Int):Prop:=-9223372036854775808≤n∧n≤9223372036854775807
def allIn:List Int→Prop
 | []=>True
 | x::xs=>In64 x∧allIn xs
theorem Zku:∀ {n:Nat} {xs:List Int},Zd (An n).ks xs→xs.length=n∧allIn xs
 | 0,[],_=>⟨rfl,trivial⟩
 | 0,_::_,h=>h.elim
 | n + 1,[],h=>h.elim
 | n + 1,x::xs,h=>by
  have h':inK (.i .i64) x∧Zd (An n).ks xs:=h
  obtain ⟨h1,h2⟩:=Zku h'.2
  exact ⟨by simp [h1],Z141 h'.1,h2⟩
end Go.Sx
namespace Go.Sx
open Go.RowKit
structure Iv where
 lo:Int
 hi:Int
def Iv.has (v:Iv) (n:Int):Prop:=v.lo≤n∧n≤v.hi
def Zh:Option Iv→Int→Prop
 | none,_=>True
 | some v,n=>v.has n
inductive X where
 | c (n:Int)
 | v (i:Nat)
 | add (a b:X)
 | sub (a b:X)
 | mul (a b:X)
 | quo (a b:X)
 | rem (a b:X)
 | mn (a b:X)
 | mx (a b:X)
 | wr (k:IntKind) (a:X)
 | nl
 | ln (a:X)
 | l2 (o:L2) (a b:X)
 | l3 (a b x:X)
noncomputable def X.den (R:Fo) (r:List Int):X→Int
 | .c n=>n
 | .v i=>r.getD i 0
 | .add a b=>a.den R r + b.den R r
 | .sub a b=>a.den R r - b.den R r
 | .mul a b=>a.den R r * b.den R r
 | .quo a b=>(a.den R r).tdiv (b.den R r)
 | .rem a b=>(a.den R r).tmod (b.den R r)
 | .mn a b=>min (a.den R r) (b.den R r)
 | .mx a b=>max (a.den R r) (b.den R r)
 | .wr k a=>k.wrap (a.den R r)
 | .nl=>cod []
 | .ln a=>((dec (a.den R r)).length:Int)
 | .l2 o a b=>o.den (a.den R r) (b.den R r)
 | .l3 a b x=>cod ((dec (a.den R r)).set (b.den R r).toNat (x.den R r))
inductive XB where
 | c (b:Bool)
 | lt (a b:X)
 | le (a b:X)
 | eq (a b:X)
 | nz (a:X)
 | not (a:XB)
 | and (a b:XB)
 | or (a b:XB)
 | iff (a b:XB)
def XB.prop (R:Fo) (r:List Int):XB→Prop
 | .c b=>b=true
 | .lt a b=>a.den R r < b.den R r
 | .le a b=>a.den R r≤b.den R r
 | .eq a b=>a.den R r=b.den R r
 | .nz a=>a.den R r ≠ 0
 | .not a=>¬ a.prop R r
 | .and a b=>a.prop R r∧b.prop R r
 | .or a b=>a.prop R r∨b.prop R r
 | .iff a b=>(a.prop R r↔b.prop R r)
inductive TX where
 | ret (es:List X)
 | ite (b:XB) (t f:TX)
 | asrt (b:XB) (t:TX)
 | call (g:Nat) (args:List X) (t:TX)
 | callp (g:Nat) (args:List X) (t:TX)
 | loop (n:Nat) (iv:List (Option Iv)) (ini:List X) (t:TX)
 | back (d:Nat) (es:List X)
 | any (n g:Nat) (args:List X) (t:TX)
 | ok
 | fail
def Zq (vs:List (Option Iv)) (r:List Int):Prop:=vs.length=r.length∧∀ i,Zh (vs.getD i none) (r.getD i 0)
def TX.sat (Γ:List Sum) (R:Fo) (Ψ:List Int→Prop):TX→List (List Int→Prop)→List Int→Prop
 | .ret es,_,r=>Ψ (es.map (X.den R r))
 | .ite b t f,bs,r=>(b.prop R r→t.sat Γ R Ψ bs r)∧(¬ b.prop R r→f.sat Γ R Ψ bs r)
 | .asrt b t,bs,r=>b.prop R r∧t.sat Γ R Ψ bs r
 | .call g args t,bs,r=>match Γ[g]? with
  | some s=>s.pre (args.map (X.den R r))∧t.sat Γ R Ψ bs (r++s.sem (args.map (X.den R r)))
  | none=>False
 | .callp g args t,bs,r=>match Γ[g]? with
  | some s=>t.sat Γ R Ψ bs (r++s.sem (args.map (X.den R r)))
  | none=>False
 | .loop n iv ini t,bs,r=>∃ (I:List Int→Prop) (μ:List Int→Nat),(∀ xs:List Int,xs.length=n→I xs→Zq iv xs)∧I (ini.map (X.den R r)) ∧
   ∀ xs:List Int,xs.length=n→I xs→t.sat Γ R Ψ (bs++[fun ys=>I ys∧μ ys < μ xs]) (r++xs)
 | .back d es,bs,r=>match bs[d]? with
  | some p=>p (es.map (X.den R r))
  | none=>False
 | .any n g args t,bs,r=>match Γ[g]? with
  | some s=>s.pre (args.map (X.den R r))∧∀ ys:List Int,ys.length=n→Zcs Γ g (args.map (X.den R r)++ys)→t.sat Γ R Ψ bs (r++ys)
  | none=>False
 | .ok,_,_=>True
 | .fail,_,_=>False
def i64v:Iv:=⟨-9223372036854775808,9223372036854775807⟩
def Zbi (k:IntKind) (x:X) (v:Option Iv):X × Option Iv :=
 if k=.i64 then (match v with
  | some v=>if decide (-9223372036854775808≤v.lo) && decide (v.hi≤9223372036854775807) then (x,some v) else (.wr k x,some i64v)
  | none=>(.wr k x,some i64v))
 else (.wr k x,none)
def Zsf:Option Iv→Option Iv→Option Iv
 | some a,some b=>some ⟨a.lo + b.lo,a.hi + b.hi⟩
 | _,_=>none
def Z10d:Option Iv→Option Iv→Option Iv
 | some a,some b=>some ⟨a.lo - b.hi,a.hi - b.lo⟩
 | _,_=>none
def Zn6:Option Iv→Option Iv→Option Iv
 | some a,some b=>some ⟨min (min (a.lo * b.lo) (a.lo * b.hi)) (min (a.hi * b.lo) (a.hi * b.hi)),max (max (a.lo * b.lo) (a.lo * b.hi)) (max (a.hi * b.lo) (a.hi * b.hi))⟩
 | _,_=>none
def Z10e:Option Iv→Option Iv→Option Iv
 | some a,some b=>if 1≤b.lo then some ⟨min a.lo 0,max a.hi 0⟩ else none
 | _,_=>none
def Z163:Option Iv→Option Iv→Option Iv
 | some a,some b=>if 1≤b.lo then some ⟨if 0≤a.lo then 0 else 1 - b.hi,b.hi - 1⟩ else none
 | _,_=>none
def mnIv:Option Iv→Option Iv→Option Iv
 | some a,some b=>some ⟨min a.lo b.lo,min a.hi b.hi⟩
 | _,_=>none
def mxIv:Option Iv→Option Iv→Option Iv
 | some a,some b=>some ⟨max a.lo b.lo,max a.hi b.hi⟩
 | _,_=>none
def Z18 (vs:List (Option Iv)):E→X × Option Iv
 | .c n=>(.c n,some ⟨n,n⟩)
 | .v i=>(.v i,vs.getD i none)
 | .add k a b=>match Z18 vs a,Z18 vs b with
  | (xa,ia),(xb,ib)=>Zbi k (.add xa xb) (Zsf ia ib)
 | .sub k a b=>match Z18 vs a,Z18 vs b with
  | (xa,ia),(xb,ib)=>Zbi k (.sub xa xb) (Z10d ia ib)
 | .mul k a b=>match Z18 vs a,Z18 vs b with
  | (xa,ia),(xb,ib)=>Zbi k (.mul xa xb) (Zn6 ia ib)
 | .quo k a b=>match Z18 vs a,Z18 vs b with
  | (xa,ia),(xb,ib)=>Zbi k (.quo xa xb) (Z10e ia ib)
 | .rem a b=>match Z18 vs a,Z18 vs b with
  | (xa,ia),(xb,ib)=>(.rem xa xb,Z163 ia ib)
 | .mn a b=>match Z18 vs a,Z18 vs b with
  | (xa,ia),(xb,ib)=>(.mn xa xb,mnIv ia ib)
 | .mx a b=>match Z18 vs a,Z18 vs b with
  | (xa,ia),(xb,ib)=>(.mx xa xb,mxIv ia ib)
 | .cv k a=>match Z18 vs a with
  | (xa,ia)=>Zbi k xa ia
 | .nl=>(.nl,none)
 | .ln a=>(.ln (Z18 vs a).1,none)
 | .l2 o a b=>(.l2 o (Z18 vs a).1 (Z18 vs b).1,none)
 | .l3 a b x=>(.l3 (Z18 vs a).1 (Z18 vs b).1 (Z18 vs x).1,none)
def Z50 (vs:List (Option Iv)):B→Bool→XB
 | .c b,x=>.c (b == x)
 | .lt a b,true=>.lt (Z18 vs a).1 (Z18 vs b).1
 | .lt a b,false=>.le (Z18 vs b).1 (Z18 vs a).1
 | .le a b,true=>.le (Z18 vs a).1 (Z18 vs b).1
 | .le a b,false=>.lt (Z18 vs b).1 (Z18 vs a).1
 | .eq a b,true=>.eq (Z18 vs a).1 (Z18 vs b).1
 | .eq a b,false=>.not (.eq (Z18 vs a).1 (Z18 vs b).1)
 | .nz a,true=>.nz (Z18 vs a).1
 | .nz a,false=>.eq (Z18 vs a).1 (.c 0)
 | .not a,x=>Z50 vs a (!x)
 | .and a b,true=>.and (Z50 vs a true) (Z50 vs b true)
 | .and a b,false=>.or (Z50 vs a false) (Z50 vs b false)
 | .beq a b,true=>.iff (Z50 vs a true) (Z50 vs b true)
 | .beq a b,false=>.not (.iff (Z50 vs a true) (Z50 vs b true))
def Zhn (vs:List (Option Iv)) (b:B):XB:=Z50 vs b true
def Zkv (vs:List (Option Iv)):B→Option Bool
 | .c b=>some b
 | .lt a b=>match (Z18 vs a).2,(Z18 vs b).2 with
  | some i,some j=>if i.hi < j.lo then some true else if j.hi≤i.lo then some false else none
  | _,_=>none
 | .le a b=>match (Z18 vs a).2,(Z18 vs b).2 with
  | some i,some j=>if i.hi≤j.lo then some true else if j.hi < i.lo then some false else none
  | _,_=>none
 | .eq a b=>match (Z18 vs a).2,(Z18 vs b).2 with
  | some i,some j=>if i.hi < j.lo then some false else if j.hi < i.lo then some false else if i.lo=i.hi∧j.lo=j.hi∧i.lo=j.lo then some true else none
  | _,_=>none
 | .nz a=>match (Z18 vs a).2 with
  | some i=>if i.hi < 0 then some true else if 0 < i.lo then some true else if i.lo=0∧i.hi=0 then some false else none
  | none=>none
 | .not a=>(Zkv vs a).map (!·)
 | .and a b=>match Zkv vs a,Zkv vs b with
  | some false,_=>some false
  | _,some false=>some false
  | some true,y=>y
  | _,_=>none
 | .beq _ _=>none
def Zdy (vs:List (Option Iv)) (h:Option Iv) (d:Int):E→List (Option Iv)
 | .v i=>match h,vs.getD i none with
  | some h,some v=>vs.set i (some ⟨v.lo,min v.hi (h.hi - d)⟩)
  | _,_=>vs
 | .mx a b=>Zdy (Zdy vs h d a) h d b
 | _=>vs
def Zdz (vs:List (Option Iv)) (h:Option Iv) (d:Int):E→List (Option Iv)
 | .v i=>match h,vs.getD i none with
  | some h,some v=>vs.set i (some ⟨max v.lo (h.lo + d),v.hi⟩)
  | _,_=>vs
 | .mn a b=>Zdz (Zdz vs h d a) h d b
 | _=>vs
def Z3i (vs:List (Option Iv)):B→Bool→List (Option Iv)
 | .lt a b,true=>Zdz (Zdy vs (Z18 vs b).2 1 a) (Z18 vs a).2 1 b
 | .lt a b,false=>Zdy (Zdz vs (Z18 vs b).2 0 a) (Z18 vs a).2 0 b
 | .le a b,true=>Zdz (Zdy vs (Z18 vs b).2 0 a) (Z18 vs a).2 0 b
 | .le a b,false=>Zdy (Zdz vs (Z18 vs b).2 1 a) (Z18 vs a).2 1 b
 | .eq a b,true=>Zdz (Zdy (Zdz (Zdy vs (Z18 vs b).2 0 a) (Z18 vs b).2 0 a) (Z18 vs a).2 0 b) (Z18 vs a).2 0 b
 | .nz a,false=>Zdz (Zdy vs (some ⟨0,0⟩) 0 a) (some ⟨0,0⟩) 0 a
 | .not a,x=>Z3i vs a (!x)
 | .and a b,true=>Z3i (Z3i vs a true) b true
 | _,_=>vs
def Zvd (vs:List (Option Iv)):Bool:=vs.any fun v=>match v with
 | some v=>decide (v.hi < v.lo)
 | none=>false
structure Inf where
 pin:List (Option Iv)
 out:List (Option Iv)→List (Option Iv)
def Inf.none:Inf:=⟨[],fun _=>[]⟩
def inIv:Option Iv→Option Iv→Bool
 | _,none=>true
 | some a,some b=>decide (b.lo≤a.lo) && decide (a.hi≤b.hi)
 | none,some _=>false
def Zsg:List (Option Iv)→List (Option Iv)→Bool
 | [],[]=>true
 | a::aZ,b::bs=>inIv a b && Zsg aZ bs
 | _,_=>false
def X.same:X→X→Bool
 | .c m,.c n=>m == n
 | .v m,.v n=>m == n
 | .add a b,.add a' b'=>a.same a' && b.same b'
 | .sub a b,.sub a' b'=>a.same a' && b.same b'
 | .mul a b,.mul a' b'=>a.same a' && b.same b'
 | .quo a b,.quo a' b'=>a.same a' && b.same b'
 | .rem a b,.rem a' b'=>a.same a' && b.same b'
 | .mn a b,.mn a' b'=>a.same a' && b.same b'
 | .mx a b,.mx a' b'=>a.same a' && b.same b'
 | .wr k a,.wr k' a'=>k == k' && a.same a'
 | .nl,.nl=>true
 | .ln a,.ln a'=>a.same a'
 | .l2 o a b,.l2 o' a' b'=>o == o' && (a.same a' && b.same b')
 | .l3 a b x,.l3 a' b' x'=>a.same a' && (b.same b' && x.same x')
 | _,_=>false
def Z9g:List X→List X→Bool
 | [],[]=>true
 | a::aZ,b::bs=>a.same b && Z9g aZ bs
 | _,_=>false
def XB.same:XB→XB→Bool
 | .c m,.c n=>m == n
 | .lt a b,.lt a' b'=>a.same a' && b.same b'
 | .le a b,.le a' b'=>a.same a' && b.same b'
 | .eq a b,.eq a' b'=>a.same a' && b.same b'
 | .nz a,.nz a'=>a.same a'
 | .not a,.not a'=>a.same a'
 | .and a b,.and a' b'=>a.same a' && b.same b'
 | .or a b,.or a' b'=>a.same a' && b.same b'
 | .iff a b,.iff a' b'=>a.same a' && b.same b'
 | _,_=>false
def Z85:List (Option Iv)→List (Option Iv)→Bool
 | [],[]=>true
 | none::l,none::l'=>Z85 l l'
 | some a::l,some b::l'=>(a.lo == b.lo && a.hi == b.hi) && Z85 l l'
 | _,_=>false
def TX.same:TX→TX→Bool
 | .ret a,.ret b=>Z9g a b
 | .ite b t f,.ite b' t' f'=>b.same b' && (t.same t' && f.same f')
 | .asrt b t,.asrt b' t'=>b.same b' && t.same t'
 | .call g a t,.call g' a' t'=>g == g' && (Z9g a a' && t.same t')
 | .callp g a t,.callp g' a' t'=>g == g' && (Z9g a a' && t.same t')
 | .loop n iv a t,.loop n' iv' a' t'=>(n == n' && Z85 iv iv') && (Z9g a a' && t.same t')
 | .back d a,.back d' a'=>d == d' && Z9g a a'
 | .any n g a t,.any n' g' a' t'=>(n == n' && g == g') && (Z9g a a' && t.same t')
 | .ok,.ok=>true
 | .fail,.fail=>true
 | _,_=>false
def Zve (t f:TX):TX:=if t.same f then t else .fail
def Zn7:XB→XB
 | .c b=>.c (!b)
 | .lt a b=>.le b a
 | .le a b=>.lt b a
 | .not a=>a
 | .and a b=>.or (Zn7 a) (Zn7 b)
 | .or a b=>.and (Zn7 a) (Zn7 b)
 | a=>.not a
def Z164 (b:XB) (t f:TX):TX:=match t,f with
 | .ok,f=>f
 | t,.ok=>t
 | .ret es,.ret es'=>if Z9g es es' then .ret es else .ite b (.ret es) (.ret es')
 | .ret es,.ite b2 (.ret es2) f2=>if Z9g es es2 then .ite (.or b b2) (.ret es) f2 else .ite b (.ret es) (.ite b2 (.ret es2) f2)
 | .ite b2 (.ret es2) t2,.ret es=>if Z9g es es2 then .ite (.or (Zn7 b) b2) (.ret es) t2 else .ite (Zn7 b) (.ret es) (.ite b2 (.ret es2) t2)
 | t,.ret es=>.ite (Zn7 b) (.ret es) t
 | t,f=>.ite b t f
def Z17:TX→TX
 | .ret es=>.ret es
 | .ite b t f=>Z164 b (Z17 t) (Z17 f)
 | .asrt b t=>.asrt b (Z17 t)
 | .call g args t=>.call g args (Z17 t)
 | .callp g args t=>.callp g args (Z17 t)
 | .loop n iv ini t=>.loop n iv ini (Z17 t)
 | .back d es=>.back d es
 | .any n g args t=>.any n g args (Z17 t)
 | .ok=>.ok
 | .fail=>.fail
theorem Z8l {x y a b:Int} (h1:a≤x) (h2:x≤b):min (a * y) (b * y)≤x * y∧x * y≤max (a * y) (b * y):=by
 rcases Int.le_total 0 y with hy | hy
 ·have h3:=Int.mul_le_mul_of_nonneg_right h1 hy
  have h4:=Int.mul_le_mul_of_nonneg_right h2 hy
  omega
 ·have h3:=Int.mul_le_mul_of_nonpos_right h1 hy
  have h4:=Int.mul_le_mul_of_nonpos_right h2 hy
  omega
theorem Z9h {a b:Option Iv} {x y:Int} (ha:Zh a x) (hb:Zh b y):Zh (Zn6 a b) (x * y):=by
 cases a <;> cases b <;> try trivial
 rename_i a b
 obtain ⟨h1,h2⟩:=ha
 obtain ⟨h3,h4⟩:=hb
 have h5:=Z8l (y:=y) h1 h2
 have h6:=Z8l (y:=a.lo) h3 h4
 have h7:=Z8l (y:=a.hi) h3 h4
 rw [Int.mul_comm b.lo,Int.mul_comm b.hi,Int.mul_comm y] at h6 h7
 simp only [Zh,Zn6,Iv.has]
 omega
theorem Z51 {k:IntKind} {x:X} {v:Option Iv} {R:Fo} {r:List Int} (h:Zh v (x.den R r)):(Zbi k x v).1.den R r=k.wrap (x.den R r)∧Zh (Zbi k x v).2 (k.wrap (x.den R r)):=by
 unfold Zbi
 split
 ·rename_i hk
  subst hk
  have hw:Zh (some i64v) (IntKind.i64.wrap (x.den R r)):=by
   simp only [Zh,Iv.has,i64v,IntKind.wrap_i64]
   omega
  split
  ·rename_i v
   split
   ·rename_i hc
    simp only [Z18r,Z18s] at hc
    have:IntKind.i64.wrap (x.den R r)=x.den R r:=by
     obtain ⟨h1,h2⟩:=h
     exact Z10 (by omega) (by omega)
    rw [this]
    exact ⟨rfl,h⟩
   ·exact ⟨rfl,hw⟩
  ·exact ⟨rfl,hw⟩
 ·exact ⟨rfl,trivial⟩
theorem Ze0 {a b:Option Iv} {x y:Int} (ha:Zh a x) (hb:Zh b y):Zh (Zsf a b) (x + y):=by
 cases a <;> cases b <;> try trivial
 simp only [Zh,Zsf,Iv.has] at *
 omega
theorem Zvf {a b:Option Iv} {x y:Int} (ha:Zh a x) (hb:Zh b y):Zh (Z10d a b) (x - y):=by
 cases a <;> cases b <;> try trivial
 simp only [Zh,Z10d,Iv.has] at *
 omega
theorem Zvg {a b:Option Iv} {x y:Int} (ha:Zh a x) (hb:Zh b y):Zh (Z10e a b) (x.tdiv y):=by
 cases a <;> cases b <;> try trivial
 rename_i a b
 simp only [Z10e]
 split
 ·simp only [Zh,Iv.has] at *
  have:=Zse (a:=x) (b:=y) (l:=min a.lo 0) (h:=max a.hi 0) (by omega) (by omega) (by omega) (by omega) (by omega)
  omega
 ·trivial
theorem Zvh {a b:Option Iv} {x y:Int} (ha:Zh a x) (hb:Zh b y):Zh (Z163 a b) (x.tmod y):=by
 cases a <;> cases b <;> try trivial
 rename_i a b
 simp only [Z163]
 split
 ·simp only [Zh,Iv.has] at *
  have h1:=Int.lt_tmod_of_pos x (b:=y) (by omega)
  have h2:=Int.tmod_lt_of_pos x (b:=y) (by omega)
  split
  ·have:=Int.tmod_nonneg (a:=x) y (by omega)
   omega
  ·omega
 ·trivial
theorem Z10f {a b:Option Iv} {x y:Int} (ha:Zh a x) (hb:Zh b y):Zh (mnIv a b) (min x y):=by
 cases a <;> cases b <;> try trivial
 simp only [Zh,mnIv,Iv.has] at *
 omega
theorem Z10g {a b:Option Iv} {x y:Int} (ha:Zh a x) (hb:Zh b y):Zh (mxIv a b) (max x y):=by
 cases a <;> cases b <;> try trivial
 simp only [Zh,mxIv,Iv.has] at *
 omega
section
variable {R:Fo} {r:List Int} {vs:List (Option Iv)}
theorem Z13 (h:Zq vs r):∀ e:E,(Z18 vs e).1.den R r=e.den R r∧Zh (Z18 vs e).2 (e.den R r):=by
 intro e
 induction e with
 | c n=>exact ⟨rfl,Int.le_refl _,Int.le_refl _⟩
 | v i=>exact ⟨rfl,h.2 i⟩
 | add k a b iha ihb =>
  simp only [Z18,E.den]
  have:=Z51 (k:=k) (x:=.add (Z18 vs a).1 (Z18 vs b).1) (v:=Zsf (Z18 vs a).2 (Z18 vs b).2) (R:=R) (r:=r) (by simp only [X.den,iha.1,ihb.1]; exact Ze0 iha.2 ihb.2)
  simpa only [X.den,iha.1,ihb.1] using this
 | sub k a b iha ihb =>
  simp only [Z18,E.den]
  have:=Z51 (k:=k) (x:=.sub (Z18 vs a).1 (Z18 vs b).1) (v:=Z10d (Z18 vs a).2 (Z18 vs b).2) (R:=R) (r:=r) (by simp only [X.den,iha.1,ihb.1]; exact Zvf iha.2 ihb.2)
  simpa only [X.den,iha.1,ihb.1] using this
 | mul k a b iha ihb =>
  simp only [Z18,E.den]
  have:=Z51 (k:=k) (x:=.mul (Z18 vs a).1 (Z18 vs b).1) (v:=Zn6 (Z18 vs a).2 (Z18 vs b).2) (R:=R) (r:=r) (by simp only [X.den,iha.1,ihb.1]; exact Z9h iha.2 ihb.2)
  simpa only [X.den,iha.1,ihb.1] using this
 | quo k a b iha ihb =>
  simp only [Z18,E.den]
  have:=Z51 (k:=k) (x:=.quo (Z18 vs a).1 (Z18 vs b).1) (v:=Z10e (Z18 vs a).2 (Z18 vs b).2) (R:=R) (r:=r) (by simp only [X.den,iha.1,ihb.1]; exact Zvg iha.2 ihb.2)
  simpa only [X.den,iha.1,ihb.1] using this
 | rem a b iha ihb =>
  simp only [Z18,E.den,X.den,iha.1,ihb.1]
  exact ⟨trivial,Zvh iha.2 ihb.2⟩
 | mn a b iha ihb =>
  have hm:∀ x y:Int,(if y < x then y else x)=min x y:=fun x y=>by split <;> omega
  simp only [Z18,E.den,X.den,iha.1,ihb.1,hm]
  exact ⟨trivial,Z10f iha.2 ihb.2⟩
 | mx a b iha ihb =>
  have hm:∀ x y:Int,(if y > x then y else x)=max x y:=fun x y=>by split <;> omega
  simp only [Z18,E.den,X.den,iha.1,ihb.1,hm]
  exact ⟨trivial,Z10g iha.2 ihb.2⟩
 | cv k a iha =>
  simp only [Z18,E.den]
  have:=Z51 (k:=k) (x:=(Z18 vs a).1) (v:=(Z18 vs a).2) (R:=R) (r:=r) (by rw [iha.1]; exact iha.2)
  rwa [iha.1] at this
 | nl=>exact ⟨rfl,trivial⟩
 | ln a iha=>simp only [Z18,E.den,X.den,iha.1]; exact ⟨trivial,trivial⟩
 | l2 o a b iha ihb=>simp only [Z18,E.den,X.den,iha.1,ihb.1]; exact ⟨trivial,trivial⟩
 | l3 a b x iha ihb ihx=>simp only [Z18,E.den,X.den,iha.1,ihb.1,ihx.1]; exact ⟨trivial,trivial⟩
theorem Zsh (h:Zq vs r):∀ (b:B) (x:Bool),(Z50 vs b x).prop R r↔b.den R r=x:=by
 intro b
 induction b with
 | c b=>intro x; simp [Z50,XB.prop,B.den]
 | lt a b=>intro x; cases x <;> simp [Z50,XB.prop,B.den,(Z13 h _).1]
 | le a b=>intro x; cases x <;> simp [Z50,XB.prop,B.den,(Z13 h _).1]
 | eq a b=>intro x; cases x <;> simp [Z50,XB.prop,B.den,(Z13 h _).1]
 | nz a=>intro x; cases x <;> simp [Z50,XB.prop,X.den,B.den,(Z13 h _).1]
 | not a ih =>
  intro x
  simp only [Z50,ih,B.den]
  cases a.den R r <;> cases x <;> simp
 | and a b iha ihb =>
  intro x
  cases x with
  | true=>simp [Z50,XB.prop,B.den,iha,ihb]
  | false =>
   simp only [Z50,XB.prop,B.den,iha,ihb]
   cases a.den R r <;> cases b.den R r <;> simp
 | beq a b iha ihb =>
  intro x
  cases x <;> simp only [Z50,XB.prop,B.den,iha,ihb] <;> cases a.den R r <;> cases b.den R r <;> simp
theorem Zgf (h:Zq vs r) (b:B):(Zhn vs b).prop R r↔b.den R r=true:=Zsh h b true
theorem Ze1 (h:Zq vs r):∀ (b:B) (x:Bool),Zkv vs b=some x→b.den R r=x:=by
 intro b
 induction b with
 | c b=>intro x hx; simpa [Zkv,B.den] using hx
 | lt a b =>
  intro x hx
  have ha:=(Z13 (R:=R) h a).2
  have hb:=(Z13 (R:=R) h b).2
  simp only [Zkv] at hx
  split at hx
  ·rename_i i j hi hj
   rw [hi] at ha
   rw [hj] at hb
   simp only [Zh,Iv.has] at ha hb
   simp only [B.den]
   split at hx
   ·simp only [Option.some.injEq] at hx; subst hx; simp; omega
   ·split at hx
    ·simp only [Option.some.injEq] at hx; subst hx; simp; omega
    ·cases hx
  ·cases hx
 | le a b =>
  intro x hx
  have ha:=(Z13 (R:=R) h a).2
  have hb:=(Z13 (R:=R) h b).2
  simp only [Zkv] at hx
  split at hx
  ·rename_i i j hi hj
   rw [hi] at ha
   rw [hj] at hb
   simp only [Zh,Iv.has] at ha hb
   simp only [B.den]
   split at hx
   ·simp only [Option.some.injEq] at hx; subst hx; simp; omega
   ·split at hx
    ·simp only [Option.some.injEq] at hx; subst hx; simp; omega
    ·cases hx
  ·cases hx
 | eq a b =>
  intro x hx
  have ha:=(Z13 (R:=R) h a).2
  have hb:=(Z13 (R:=R) h b).2
  simp only [Zkv] at hx
  split at hx
  ·rename_i i j hi hj
   rw [hi] at ha
   rw [hj] at hb
   simp only [Zh,Iv.has] at ha hb
   simp only [B.den]
   split at hx
   ·simp only [Option.some.injEq] at hx; subst hx; simp; omega
   ·split at hx
    ·simp only [Option.some.injEq] at hx; subst hx; simp; omega
    ·split at hx
     ·simp only [Option.some.injEq] at hx; subst hx; simp; omega
     ·cases hx
  ·cases hx
 | nz a =>
  intro x hx
  have ha:=(Z13 (R:=R) h a).2
  simp only [Zkv] at hx
  split at hx
  ·rename_i i hi
   rw [hi] at ha
   simp only [Zh,Iv.has] at ha
   simp only [B.den]
   split at hx
   ·simp only [Option.some.injEq] at hx; subst hx; simp; omega
   ·split at hx
    ·simp only [Option.some.injEq] at hx; subst hx; simp; omega
    ·split at hx
     ·simp only [Option.some.injEq] at hx; subst hx; simp; omega
     ·cases hx
  ·cases hx
 | not a ih =>
  intro x hx
  simp only [Zkv,Option.map_eq_some_iff] at hx
  obtain ⟨y,hy,rfl⟩:=hx
  simp [B.den,ih y hy]
 | and a b iha ihb =>
  intro x hx
  simp only [Zkv] at hx
  cases h1:Zkv vs a with
  | none =>
   cases h2:Zkv vs b with
   | none=>rw [h1,h2] at hx; cases hx
   | some y =>
    rw [h1,h2] at hx
    cases y with
    | false =>
     simp only [Option.some.injEq] at hx
     subst hx
     simp [B.den,ihb _ h2]
    | true=>cases hx
  | some z =>
   cases z with
   | false =>
    rw [h1] at hx
    simp only [Option.some.injEq] at hx
    subst hx
    simp [B.den,iha _ h1]
   | true =>
    cases h2:Zkv vs b with
    | none=>rw [h1,h2] at hx; cases hx
    | some y =>
     rw [h1,h2] at hx
     cases y with
     | false =>
      simp only [Option.some.injEq] at hx
      subst hx
      simp [B.den,ihb _ h2]
     | true =>
      simp only [Option.some.injEq] at hx
      subst hx
      simp [B.den,iha _ h1,ihb _ h2]
 | beq a b=>intro x hx; simp [Zkv] at hx
theorem Zpi (h:Zq vs r) {i:Nat} {v:Iv} (hv:v.has (r.getD i 0)):Zq (vs.set i (some v)) r:=by
 refine ⟨by simpa using h.1,fun j=>?_⟩
 simp only [List.getD,List.getElem?_set]
 by_cases hij:i=j
 ·subst hij
  by_cases hl:i < vs.length
  ·simp only [hl,if_true,Option.getD_some]
   exact hv
  ·simp only [hl,if_true,if_false,Option.getD_none]
   trivial
 ·simp only [hij,if_false]
  exact h.2 j
theorem Z5n {v:Option Iv} {d:Int}:∀ (e:E) (vs:List (Option Iv)),Zq vs r→(∀ v',v=some v'→e.den R r≤v'.hi - d)→Zq (Zdy vs v d e) r:=by
 intro e
 induction e with
 | v i =>
  intro vs h hv
  simp only [Zdy]
  split
  ·rename_i v' w hw
   have h1:=h.2 i
   rw [hw] at h1
   have h2:=hv v' rfl
   refine Zpi h ⟨h1.1,?_⟩
   have h3:=h1.2
   have h4:r.getD i 0≤v'.hi - d:=h2
   show r.getD i 0≤min w.hi (v'.hi - d)
   omega
  ·exact h
 | mx a b iha ihb =>
  intro vs h hv
  have hm:∀ x y:Int,(if y > x then y else x)=max x y:=fun x y=>by split <;> omega
  simp only [E.den,hm] at hv
  exact ihb _ (iha vs h (fun v' h'=>by have:=hv v' h'; omega)) (fun v' h'=>by have:=hv v' h'; omega)
 | _=>intro vs h hv; exact h
theorem Z5o {v:Option Iv} {d:Int}:∀ (e:E) (vs:List (Option Iv)),Zq vs r→(∀ v',v=some v'→v'.lo + d≤e.den R r)→Zq (Zdz vs v d e) r:=by
 intro e
 induction e with
 | v i =>
  intro vs h hv
  simp only [Zdz]
  split
  ·rename_i v' w hw
   have h1:=h.2 i
   rw [hw] at h1
   have h2:=hv v' rfl
   refine Zpi h ⟨?_,h1.2⟩
   have h3:=h1.1
   have h4:v'.lo + d≤r.getD i 0:=h2
   show max w.lo (v'.lo + d)≤r.getD i 0
   omega
  ·exact h
 | mn a b iha ihb =>
  intro vs h hv
  have hm:∀ x y:Int,(if y < x then y else x)=min x y:=fun x y=>by split <;> omega
  simp only [E.den,hm] at hv
  exact ihb _ (iha vs h (fun v' h'=>by have:=hv v' h'; omega)) (fun v' h'=>by have:=hv v' h'; omega)
 | _=>intro vs h hv; exact h
theorem Ze2:∀ (b:B) (x:Bool) (vs:List (Option Iv)),Zq vs r→b.den R r=x→Zq (Z3i vs b x) r:=by
 intro b
 induction b with
 | c b=>intro x vs h hx; cases x <;> exact h
 | lt a b =>
  intro x vs h hx
  have ha:=(Z13 (R:=R) h a).2
  have hb:=(Z13 (R:=R) h b).2
  simp only [B.den] at hx
  cases x with
  | true =>
   simp only [Z18s] at hx
   refine Z5o (R:=R) _ _ (Z5n (R:=R) _ _ h ?_) ?_
   ·intro v hv; rw [hv] at hb; have:=hb.2; omega
   ·intro v hv; rw [hv] at ha; have:=ha.1; omega
  | false =>
   simp only [decide_eq_false_iff_not] at hx
   refine Z5n (R:=R) _ _ (Z5o (R:=R) _ _ h ?_) ?_
   ·intro v hv; rw [hv] at hb; have:=hb.1; omega
   ·intro v hv; rw [hv] at ha; have:=ha.2; omega
 | le a b =>
  intro x vs h hx
  have ha:=(Z13 (R:=R) h a).2
  have hb:=(Z13 (R:=R) h b).2
  simp only [B.den] at hx
  cases x with
  | true =>
   simp only [Z18s] at hx
   refine Z5o (R:=R) _ _ (Z5n (R:=R) _ _ h ?_) ?_
   ·intro v hv; rw [hv] at hb; have:=hb.2; omega
   ·intro v hv; rw [hv] at ha; have:=ha.1; omega
  | false =>
   simp only [decide_eq_false_iff_not] at hx
   refine Z5n (R:=R) _ _ (Z5o (R:=R) _ _ h ?_) ?_
   ·intro v hv; rw [hv] at hb; have:=hb.1; omega
   ·intro v hv; rw [hv] at ha; have:=ha.2; omega
 | eq a b =>
  intro x vs h hx
  have ha:=(Z13 (R:=R) h a).2
  have hb:=(Z13 (R:=R) h b).2
  simp only [B.den] at hx
  cases x with
  | true =>
   simp only [beq_iff_eq] at hx
   refine Z5o (R:=R) _ _ (Z5n (R:=R) _ _ (Z5o (R:=R) _ _ (Z5n (R:=R) _ _ h ?_) ?_) ?_) ?_
   ·intro v hv; rw [hv] at hb; have:=hb.2; omega
   ·intro v hv; rw [hv] at hb; have:=hb.1; omega
   ·intro v hv; rw [hv] at ha; have:=ha.2; omega
   ·intro v hv; rw [hv] at ha; have:=ha.1; omega
  | false=>exact h
 | nz a =>
  intro x vs h hx
  simp only [B.den] at hx
  cases x with
  | true=>exact h
  | false =>
   simp only [bne_eq_false_iff_eq] at hx
   refine Z5o (R:=R) _ _ (Z5n (R:=R) _ _ h ?_) ?_
   ·intro v hv; simp only [Option.some.injEq] at hv; subst hv; simp [hx]
   ·intro v hv; simp only [Option.some.injEq] at hv; subst hv; simp [hx]
 | not a ih =>
  intro x vs h hx
  simp only [Z3i]
  refine ih _ vs h ?_
  simp only [B.den] at hx
  rw [← hx]; simp
 | and a b iha ihb =>
  intro x vs h hx
  cases x with
  | true =>
   simp only [B.den,Z18r] at hx
   exact ihb true _ (iha true vs h hx.1) hx.2
  | false=>exact h
 | beq a b=>intro x vs h hx; cases x <;> exact h
theorem Zn8 (h:Zq vs r):Zvd vs=false:=by
 unfold Zvd
 rw [List.any_eq_false]
 intro v hv
 obtain ⟨i,hi⟩:=List.getElem?_of_mem hv
 have h1:=h.2 i
 rw [List.getD,hi] at h1
 cases v with
 | none=>simp
 | some v =>
  simp only [Option.getD_some,Zh,Iv.has] at h1
  simp; omega
def Z1i (s:Sum) (i:Inf):Prop:=(∀ xs,Zq i.pin xs→s.pre xs)∧∀ vs xs,Zq vs xs→s.pre xs→Zq (i.out vs) (s.sem xs)
def Zr (Γ:List Sum) (outs:List Inf):Prop:=∀ g s,Γ[g]?=some s→Z1i s (outs.getD g .none)
theorem Za:Zr [] []:=fun g s h=>by simp at h
theorem Z3 {Γ:List Sum} {outs:List Inf} {s:Sum} {o:Inf} (h:Z1i s o) (h':Zr Γ outs):Zr (s::Γ) (o::outs):=by
 intro g s' hg
 cases g with
 | zero =>
  simp only [Z18e,Option.some.injEq] at hg
  subst hg
  exact h
 | succ g=>exact h' g s' (by simpa using hg)
theorem Z10h {a b:Option Iv} {n:Int} (h:inIv a b=true) (ha:Zh a n):Zh b n:=by
 cases a <;> cases b <;> try trivial
 simp only [inIv,Z18r,Z18s] at h
 simp only [Zh,Iv.has] at *
 omega
theorem Zpj:∀ {aZ bs:List (Option Iv)} {xs:List Int},Zsg aZ bs=true→Zq aZ xs→Zq bs xs
 | [],[],_,_,h=>h
 | [],_::_,_,h,_=>by simp [Zsg] at h
 | _::_,[],_,h,_=>by simp [Zsg] at h
 | a::aZ,b::bs,[],_,h=>by have:=h.1; simp at this
 | a::aZ,b::bs,x::xs,hi,h=>by
  simp only [Zsg,Z18r] at hi
  obtain ⟨h1,h2⟩:=Zpj (xs:=xs) hi.2 ⟨by have:=h.1; simpa using this,fun i=>h.2 (i + 1)⟩
  refine ⟨by simp [h1],fun i=>?_⟩
  cases i with
  | zero=>exact Z10h hi.1 (h.2 0)
  | succ i=>exact h2 i
theorem Z2:Zq [] []:=⟨rfl,fun _=>trivial⟩
theorem Z1 {v:Option Iv} {x:Int} {vs:List (Option Iv)} {xs:List Int} (h:Zh v x) (h':Zq vs xs):Zq (v::vs) (x::xs):=by
 refine ⟨by simp [h'.1],fun i=>?_⟩
 cases i with
 | zero=>exact h
 | succ i=>exact h'.2 i
theorem Z9i (h:Zq vs r):∀ args:List E,Zq (args.map fun e=>(Z18 vs e).2) (args.map (E.den R r))
 | []=>Z2
 | e::args=>Z1 (Z13 h e).2 (Z9i h args)
theorem Zw {us:List (Option Iv)} {x:List Int} (h:Zq vs r) (h':Zq us x):Zq (vs++us) (r++x):=by
 refine ⟨by simp [h.1,h'.1],fun i=>?_⟩
 rcases Nat.lt_or_ge i vs.length with hi | hi
 ·have:=h.2 i
  simp only [List.getD] at this ⊢
  rw [List.getElem?_append_left hi,List.getElem?_append_left (by rw [← h.1]; exact hi)]
  exact this
 ·have:=h'.2 (i - vs.length)
  simp only [List.getD] at this ⊢
  rw [List.getElem?_append_right hi,List.getElem?_append_right (by rw [← h.1]; exact hi),← h.1]
  exact this
theorem X.same_eq:∀ a b:X,a.same b=true→a=b
 | .c m,b,h=>by cases b <;> simp [X.same] at h; rw [h]
 | .v m,b,h=>by cases b <;> simp [X.same] at h; rw [h]
 | .add x y,b,h=>by
  cases b <;> simp [X.same] at h
  rw [X.same_eq x _ h.1,X.same_eq y _ h.2]
 | .sub x y,b,h=>by
  cases b <;> simp [X.same] at h
  rw [X.same_eq x _ h.1,X.same_eq y _ h.2]
 | .mul x y,b,h=>by
  cases b <;> simp [X.same] at h
  rw [X.same_eq x _ h.1,X.same_eq y _ h.2]
 | .quo x y,b,h=>by
  cases b <;> simp [X.same] at h
  rw [X.same_eq x _ h.1,X.same_eq y _ h.2]
 | .rem x y,b,h=>by
  cases b <;> simp [X.same] at h
  rw [X.same_eq x _ h.1,X.same_eq y _ h.2]
 | .mn x y,b,h=>by
  cases b <;> simp [X.same] at h
  rw [X.same_eq x _ h.1,X.same_eq y _ h.2]
 | .mx x y,b,h=>by
  cases b <;> simp [X.same] at h
  rw [X.same_eq x _ h.1,X.same_eq y _ h.2]
 | .wr k x,b,h=>by cases b <;> simp [X.same] at h; rw [h.1,X.same_eq x _ h.2]
 | .nl,b,h=>by cases b <;> simp [X.same] at h; rfl
 | .ln x,b,h=>by cases b <;> simp [X.same] at h; rw [X.same_eq x _ h]
 | .l2 o x y,b,h=>by cases b <;> simp [X.same] at h; rw [h.1,X.same_eq x _ h.2.1,X.same_eq y _ h.2.2]
 | .l3 x y z,b,h=>by cases b <;> simp [X.same] at h; rw [X.same_eq x _ h.1,X.same_eq y _ h.2.1,X.same_eq z _ h.2.2]
theorem Z37:∀ {aZ bs:List X},Z9g aZ bs=true→aZ=bs
 | [],[],_=>rfl
 | [],_::_,h=>by simp [Z9g] at h
 | _::_,[],h=>by simp [Z9g] at h
 | a::aZ,b::bs,h=>by
  simp only [Z9g,Z18r] at h
  rw [X.same_eq a b h.1,Z37 h.2]
theorem XB.same_eq:∀ a b:XB,a.same b=true→a=b
 | .c m,b,h=>by cases b <;> simp [XB.same] at h; rw [h]
 | .lt x y,b,h=>by cases b <;> simp [XB.same] at h; rw [X.same_eq x _ h.1,X.same_eq y _ h.2]
 | .le x y,b,h=>by cases b <;> simp [XB.same] at h; rw [X.same_eq x _ h.1,X.same_eq y _ h.2]
 | .eq x y,b,h=>by cases b <;> simp [XB.same] at h; rw [X.same_eq x _ h.1,X.same_eq y _ h.2]
 | .nz x,b,h=>by cases b <;> simp [XB.same] at h; rw [X.same_eq x _ h]
 | .not x,b,h=>by cases b <;> simp [XB.same] at h; rw [XB.same_eq x _ h]
 | .and x y,b,h=>by cases b <;> simp [XB.same] at h; rw [XB.same_eq x _ h.1,XB.same_eq y _ h.2]
 | .or x y,b,h=>by cases b <;> simp [XB.same] at h; rw [XB.same_eq x _ h.1,XB.same_eq y _ h.2]
 | .iff x y,b,h=>by cases b <;> simp [XB.same] at h; rw [XB.same_eq x _ h.1,XB.same_eq y _ h.2]
theorem Ze3:∀ {a b:List (Option Iv)},Z85 a b=true→a=b
 | [],[],_=>rfl
 | none::l,none::l',h=>by simp only [Z85] at h; rw [Ze3 h]
 | some ⟨x,y⟩::l,some ⟨x',y'⟩::l',h=>by
  simp only [Z85,Z18r,beq_iff_eq] at h
  rw [h.1.1,h.1.2,Ze3 h.2]
 | [],_::_,h=>by simp [Z85] at h
 | _::_,[],h=>by simp [Z85] at h
 | none::_,some _::_,h=>by simp [Z85] at h
 | some _::_,none::_,h=>by simp [Z85] at h
theorem TX.same_eq:∀ a b:TX,a.same b=true→a=b
 | .ret x,b,h=>by cases b <;> simp [TX.same] at h; rw [Z37 h]
 | .ite x y z,b,h=>by cases b <;> simp [TX.same] at h; rw [XB.same_eq x _ h.1,TX.same_eq y _ h.2.1,TX.same_eq z _ h.2.2]
 | .asrt x y,b,h=>by cases b <;> simp [TX.same] at h; rw [XB.same_eq x _ h.1,TX.same_eq y _ h.2]
 | .call g x y,b,h=>by cases b <;> simp [TX.same] at h; rw [h.1,Z37 h.2.1,TX.same_eq y _ h.2.2]
 | .callp g x y,b,h=>by cases b <;> simp [TX.same] at h; rw [h.1,Z37 h.2.1,TX.same_eq y _ h.2.2]
 | .loop n iv x y,b,h=>by cases b <;> simp [TX.same] at h; rw [h.1.1,Ze3 h.1.2,Z37 h.2.1,TX.same_eq y _ h.2.2]
 | .back d x,b,h=>by cases b <;> simp [TX.same] at h; rw [h.1,Z37 h.2]
 | .any n g x y,b,h=>by cases b <;> simp [TX.same] at h; rw [h.1.1,h.1.2,Z37 h.2.1,TX.same_eq y _ h.2.2]
 | .ok,b,h=>by cases b <;> simp [TX.same] at h; rfl
 | .fail,b,h=>by cases b <;> simp [TX.same] at h; rfl
theorem vs_rep {n:Nat} {ys:List Int} (h:ys.length=n):Zq (List.replicate n none) ys:=by
 refine ⟨by rw [List.length_replicate,h],fun i=>?_⟩
 have:(List.replicate n (none:Option Iv)).getD i none=none:=by
  simp only [List.getD,List.getElem?_replicate]
  split <;> rfl
 rw [this]
 trivial
theorem Zsi {Γ:List Sum} {R:Fo} {Ψ:List Int→Prop} {bs:List (List Int→Prop)} {r:List Int} {t f:TX} (h:(Zve t f).sat Γ R Ψ bs r):t.sat Γ R Ψ bs r∧f.sat Γ R Ψ bs r:=by
 unfold Zve at h
 split at h
 ·rename_i hs
  have:=TX.same_eq _ _ hs
  exact ⟨h,this ▸ h⟩
 ·exact h.elim
end
theorem Z52 {R:Fo} {r:List Int}:∀ b:XB,(Zn7 b).prop R r↔¬ b.prop R r:=by
 intro b
 induction b with
 | c b=>cases b <;> simp [Zn7,XB.prop]
 | lt a b=>simp [Zn7,XB.prop]
 | le a b=>simp [Zn7,XB.prop]
 | not a=>simp [Zn7,XB.prop,Z18m]
 | and a b iha ihb=>simp only [Zn7,XB.prop,iha,ihb,Classical.not_and_iff_not_or_not]
 | or a b iha ihb=>simp only [Zn7,XB.prop,iha,ihb,not_or]
 | _=>simp [Zn7,XB.prop]
theorem Zvi {Γ:List Sum} {R:Fo} {Ψ:List Int→Prop} {bs:List (List Int→Prop)} {r:List Int} {b:XB} {t f:TX} (h:(Z164 b t f).sat Γ R Ψ bs r):(TX.ite b t f).sat Γ R Ψ bs r:=by
 unfold Z164 at h
 split at h
 ·exact ⟨fun _=>trivial,fun _=>h⟩
 ·exact ⟨fun _=>h,fun _=>trivial⟩
 ·split at h
  ·rename_i hs
   have:=Z37 hs
   subst this
   exact ⟨fun _=>h,fun _=>h⟩
  ·exact h
 ·split at h
  ·rename_i hs
   have:=Z37 hs
   subst this
   obtain ⟨h1,h2⟩:=h
   exact ⟨fun hb=>h1 (.inl hb),fun hb=>⟨fun hb2=>h1 (.inr hb2),fun hb2=>h2 (fun h=>h.elim hb hb2)⟩⟩
  ·exact h
 ·split at h
  ·rename_i hs
   have:=Z37 hs
   subst this
   obtain ⟨h1,h2⟩:=h
   exact ⟨fun hb=>⟨fun hb2=>h1 (.inr hb2),fun hb2=>h2 (fun h=>h.elim (fun hn=>(Z52 b).1 hn hb) hb2)⟩,fun hb=>h1 (.inl ((Z52 b).2 hb))⟩
  ·obtain ⟨h1,h2⟩:=h
   exact ⟨fun hb=>h2 (fun hn=>(Z52 b).1 hn hb),fun hb=>h1 ((Z52 b).2 hb)⟩
 ·obtain ⟨h1,h2⟩:=h
  exact ⟨fun hb=>h2 (fun hn=>(Z52 b).1 hn hb),fun hb=>h1 ((Z52 b).2 hb)⟩
 ·exact h
theorem Ze4 {Γ:List Sum} {R:Fo} {Ψ:List Int→Prop}:∀ (t:TX) (bs:List (List Int→Prop)) (r:List Int),(Z17 t).sat Γ R Ψ bs r→t.sat Γ R Ψ bs r:=by
 intro t
 induction t with
 | ret es=>intro bs r h; exact h
 | ite b t f iht ihf =>
  intro bs r h
  obtain ⟨h1,h2⟩:=Zvi h
  exact ⟨fun hb=>iht bs r (h1 hb),fun hb=>ihf bs r (h2 hb)⟩
 | asrt b t ih=>intro bs r h; exact ⟨h.1,ih bs r h.2⟩
 | call g args t ih =>
  intro bs r h
  simp only [Z17,TX.sat] at h ⊢
  split at h
  ·rename_i s hg
   exact ⟨h.1,ih bs _ h.2⟩
  ·exact h
 | callp g args t ih =>
  intro bs r h
  simp only [Z17,TX.sat] at h ⊢
  split at h
  ·exact ih bs _ h
  ·exact h
 | loop n iv ini t ih =>
  intro bs r h
  obtain ⟨I,μ,h1,h2,h3⟩:=h
  exact ⟨I,μ,h1,h2,fun xs hx hI=>ih _ _ (h3 xs hx hI)⟩
 | back d es=>intro bs r h; exact h
 | any n g args t ih =>
  intro bs r h
  simp only [Z17,TX.sat] at h ⊢
  split at h
  ·exact ⟨h.1,fun ys hy hr=>ih bs _ (h.2 ys hy hr)⟩
  ·exact h
 | ok=>intro bs r h; trivial
 | fail=>intro bs r h; exact h
def mkS (gl:List (Nat × List Int)) (fn:FuncId) (ps rs:List Sh) (pin:List (Option Iv)) (sem:List Int→List Int):Sum:=⟨fn,ps,rs,sem,Zq pin,gl,none⟩
def mkP (gl:List (Nat × List Int)) (fn:FuncId) (ps rs:List Sh) (pre:List Int→Prop) (sem:List Int→List Int):Sum:=⟨fn,ps,rs,sem,pre,gl,none⟩
def ivK:K→Option Iv
 | .i .i64=>some i64v
 | .i .u8=>some ⟨0,255⟩
 | .b=>some ⟨0,1⟩
 | _=>none
theorem Zpk {k:K} {n:Int} (h:inK k n):Zh (ivK k) n:=by
 cases k with
 | i kk =>
  cases kk <;> try trivial
  ·exact Z141 h
  ·have h':(Lit.int .u8 n).wf=true:=h
   simp only [Lit.wf,Z18r,Z18s] at h'
   have h1:IntKind.u8.min=0:=by decide
   have h2:IntKind.u8.max=255:=by decide
   rw [h1,h2] at h'
   exact h'
 | b =>
  have h':n=0∨n=1:=h
  simp only [ivK,Zh,Iv.has]
  omega
 | s ty ks=>trivial
theorem Z1m:∀ {ks:List K} {xs:List Int},Zd ks xs→Zq (ks.map ivK) xs
 | [],[],_=>⟨rfl,fun i=>by simp [List.getD]; trivial⟩
 | [],_::_,h=>h.elim
 | _::_,[],h=>h.elim
 | k::ks,x::xs,h=>by
  obtain ⟨h1,h2⟩:=Z1m h.2
  refine ⟨by simp [h1],fun i=>?_⟩
  cases i with
  | zero=>exact Zpk h.1
  | succ i=>exact h2 i
end Go.Sx
namespace Go.Sx
open Go.RowKit
structure Zad where
 eq:Bool
 a:X
 b:X
 yes:Bool
def Zad.holds (R:Fo) (r:List Int) (f:Zad):Prop :=
 (if f.eq=true then f.a.den R r=f.b.den R r else f.a.den R r≤f.b.den R r)↔f.yes=true
def Zkw (eq:Bool) (a b:X):List Zad→Option Bool
 | []=>none
 | f::fs=>if f.eq == eq && (f.a.same a && f.b.same b) then some f.yes else Zkw eq a b fs
def Z3j (fs:List Zad):XB→Option Bool
 | .c b=>some b
 | .le a b=>Zkw false a b fs
 | .lt a b=>(Zkw false b a fs).map (!·)
 | .eq a b=>Zkw true a b fs
 | .nz a=>(Zkw true a (.c 0) fs).map (!·)
 | .not a=>(Z3j fs a).map (!·)
 | .and a b=>match Z3j fs a,Z3j fs b with
  | some false,_=>some false
  | _,some false=>some false
  | some true,some true=>some true
  | _,_=>none
 | .or a b=>match Z3j fs a,Z3j fs b with
  | some true,_=>some true
  | _,some true=>some true
  | some false,some false=>some false
  | _,_=>none
 | .iff a b=>match Z3j fs a,Z3j fs b with
  | some x,some y=>some (x == y)
  | _,_=>none
def Z53 (fs:List Zad):XB→Bool→List Zad
 | .le a b,x=>⟨false,a,b,x⟩::fs
 | .lt a b,x=>⟨false,b,a,!x⟩::fs
 | .eq a b,x=>⟨true,a,b,x⟩::fs
 | .nz a,x=>⟨true,a,.c 0,!x⟩::fs
 | .not a,x=>Z53 fs a (!x)
 | .and a b,true=>Z53 (Z53 fs a true) b true
 | .or a b,false=>Z53 (Z53 fs a false) b false
 | .iff a b,x=>match Z3j fs a with
  | some y=>Z53 fs b (x == y)
  | none=>match Z3j fs b with
   | some y=>Z53 fs a (x == y)
   | none=>fs
 | _,_=>fs
def Z9j (fs:List Zad):XB→XB
 | .and a b=>match Z3j fs a,Z3j fs b with
  | some true,_=>Z9j fs b
  | _,some true=>Z9j fs a
  | _,_=>.and (Z9j fs a) (Z9j fs b)
 | .or a b=>match Z3j fs a,Z3j fs b with
  | some false,_=>Z9j fs b
  | _,some false=>Z9j fs a
  | _,_=>.or (Z9j fs a) (Z9j fs b)
 | .iff a b=>match Z3j fs a with
  | some true=>b
  | some false=>.not b
  | none=>match Z3j fs b with
   | some true=>a
   | some false=>.not a
   | none=>.iff a b
 | b=>b
def X.low (n:Nat):X→Bool
 | .c _=>true
 | .v i=>decide (i < n)
 | .add a b=>a.low n && b.low n
 | .sub a b=>a.low n && b.low n
 | .mul a b=>a.low n && b.low n
 | .quo a b=>a.low n && b.low n
 | .rem a b=>a.low n && b.low n
 | .mn a b=>a.low n && b.low n
 | .mx a b=>a.low n && b.low n
 | .wr _ a=>a.low n
 | .nl=>true
 | .ln a=>a.low n
 | .l2 _ a b=>a.low n && b.low n
 | .l3 a b x=>a.low n && (b.low n && x.low n)
theorem X.den_low {R:Fo} {r x:List Int}:∀ a:X,a.low r.length=true→a.den R (r++x)=a.den R r:=by
 intro a
 induction a with
 | c n=>intro _; rfl
 | v i =>
  intro h
  simp only [X.low,Z18s] at h
  simp only [X.den,List.getD]
  rw [List.getElem?_append_left h]
 | wr k a ih=>intro h; simp only [X.den,ih h]
 | nl=>intro _; rfl
 | ln a ih=>intro h; simp only [X.den,ih h]
 | l2 o a b iha ihb =>
  intro h
  simp only [X.low,Z18r] at h
  simp only [X.den,iha h.1,ihb h.2]
 | l3 a b x iha ihb ihx =>
  intro h
  simp only [X.low,Z18r] at h
  simp only [X.den,iha h.1,ihb h.2.1,ihx h.2.2]
 | _ a b iha ihb =>
  intro h
  simp only [X.low,Z18r] at h
  simp only [X.den,iha h.1,ihb h.2]
theorem Z54 {R:Fo} {r:List Int} {eq:Bool} {a b:X}:∀ {fs:List Zad} {x:Bool},(∀ f ∈ fs,f.holds R r)→Zkw eq a b fs=some x →
  ((if eq=true then a.den R r=b.den R r else a.den R r≤b.den R r)↔x=true)
 | [],_,_,h=>by simp [Zkw] at h
 | f::fs,x,hf,h=>by
  simp only [Zkw] at h
  split at h
  ·rename_i hc
   simp only [Z18r,beq_iff_eq] at hc
   obtain ⟨h1,h2,h3⟩:=hc
   simp only [Option.some.injEq] at h
   have:=hf f (List.mem_cons_self ..)
   rw [Zad.holds,h1,X.same_eq _ _ h2,X.same_eq _ _ h3,h] at this
   exact this
  ·exact Z54 (fun g hg=>hf g (List.mem_cons_of_mem _ hg)) h
theorem Z1e {R:Fo} {r:List Int} {fs:List Zad} (hf:∀ f ∈ fs,f.holds R r):∀ (b:XB) (x:Bool),Z3j fs b=some x→(b.prop R r↔x=true):=by
 intro b
 induction b with
 | c b=>intro x h; simp only [Z3j,Option.some.injEq] at h; subst h; exact Iff.rfl
 | le a b=>intro x h; exact Z54 (eq:=false) hf h
 | lt a b =>
  intro x h
  simp only [Z3j,Option.map_eq_some_iff] at h
  obtain ⟨y,h1,rfl⟩:=h
  have:=Z54 (eq:=false) hf h1
  simp only [Bool.false_eq_true,if_false] at this
  simp only [XB.prop]
  rw [← Z18q,this]
  cases y <;> simp
 | eq a b=>intro x h; exact Z54 (eq:=true) hf h
 | nz a =>
  intro x h
  simp only [Z3j,Option.map_eq_some_iff] at h
  obtain ⟨y,h1,rfl⟩:=h
  have:=Z54 (eq:=true) hf h1
  simp only [if_true,X.den] at this
  simp only [XB.prop,ne_eq,this]
  cases y <;> simp
 | not a ih =>
  intro x h
  simp only [Z3j,Option.map_eq_some_iff] at h
  obtain ⟨y,h1,rfl⟩:=h
  simp only [XB.prop,ih y h1]
  cases y <;> simp
 | and a b iha ihb =>
  intro x h
  simp only [Z3j] at h
  split at h
  ·rename_i h1
   simp only [Option.some.injEq] at h; subst h
   simp [XB.prop,iha _ h1]
  ·rename_i h1 _
   simp only [Option.some.injEq] at h; subst h
   simp [XB.prop,ihb _ h1]
  ·rename_i h1 h2
   simp only [Option.some.injEq] at h; subst h
   simp [XB.prop,iha _ h1,ihb _ h2]
  ·cases h
 | or a b iha ihb =>
  intro x h
  simp only [Z3j] at h
  split at h
  ·rename_i h1
   simp only [Option.some.injEq] at h; subst h
   simp [XB.prop,iha _ h1]
  ·rename_i h1 _
   simp only [Option.some.injEq] at h; subst h
   simp [XB.prop,ihb _ h1]
  ·rename_i h1 h2
   simp only [Option.some.injEq] at h; subst h
   simp [XB.prop,iha _ h1,ihb _ h2]
  ·cases h
 | iff a b iha ihb =>
  intro x h
  simp only [Z3j] at h
  split at h
  ·rename_i y z h1 h2
   simp only [Option.some.injEq] at h; subst h
   have q1:=iha _ h1
   have q2:=ihb _ h2
   simp only [XB.prop,q1,q2]
   cases y <;> cases z <;> simp
  ·cases h
theorem Zn9 {R:Fo} {r:List Int}:∀ (b:XB) (x:Bool) (fs:List Zad),(∀ f ∈ fs,f.holds R r)→(b.prop R r↔x=true)→∀ f ∈ Z53 fs b x,f.holds R r:=by
 intro b
 induction b with
 | le a b =>
  intro x fs hf hb f hm
  rcases List.mem_cons.1 hm with rfl | hm
  ·exact hb
  ·exact hf f hm
 | lt a b =>
  intro x fs hf hb f hm
  rcases List.mem_cons.1 hm with rfl | hm
  ·simp only [XB.prop] at hb
   simp only [Zad.holds,Bool.false_eq_true,if_false]
   rw [← Z18p,hb]
   cases x <;> simp
  ·exact hf f hm
 | eq a b =>
  intro x fs hf hb f hm
  rcases List.mem_cons.1 hm with rfl | hm
  ·exact hb
  ·exact hf f hm
 | nz a =>
  intro x fs hf hb f hm
  rcases List.mem_cons.1 hm with rfl | hm
  ·simp only [XB.prop] at hb
   simp only [Zad.holds,if_true,X.den]
   cases x
   ·simp only [Bool.false_eq_true,iff_false,ne_eq,Z18m] at hb; simp [hb]
   ·simp only [iff_true,ne_eq] at hb; simp [hb]
  ·exact hf f hm
 | not a ih =>
  intro x fs hf hb
  refine ih (!x) fs hf ?_
  simp only [XB.prop] at hb
  cases x
  ·simp only [Bool.false_eq_true,iff_false,Z18m] at hb; simp [hb]
  ·simp only [iff_true] at hb; simp [hb]
 | and a b iha ihb =>
  intro x fs hf hb
  cases x with
  | true =>
   simp only [XB.prop,iff_true] at hb
   exact ihb true _ (iha true fs hf (by simp [hb.1])) (by simp [hb.2])
  | false=>exact hf
 | or a b iha ihb =>
  intro x fs hf hb
  cases x with
  | false =>
   simp only [XB.prop,Bool.false_eq_true,iff_false,not_or] at hb
   exact ihb false _ (iha false fs hf (by simp [hb.1])) (by simp [hb.2])
  | true=>exact hf
 | c b=>intro x fs hf _; exact hf
 | iff a b iha ihb =>
  intro x fs hf hb
  simp only [Z53]
  split
  ·rename_i y h1
   have q:=Z1e hf _ _ h1
   refine ihb _ fs hf ?_
   simp only [XB.prop,q] at hb
   cases x <;> cases y <;> simp at hb ⊢ <;> exact hb
  ·split
   ·rename_i y h1
    have q:=Z1e hf _ _ h1
    refine iha _ fs hf ?_
    simp only [XB.prop,q] at hb
    cases x <;> cases y <;> simp at hb ⊢ <;> exact hb
   ·exact hf
theorem Zgg {R:Fo} {r:List Int} {fs:List Zad} (hf:∀ f ∈ fs,f.holds R r):∀ b:XB,(Z9j fs b).prop R r↔b.prop R r:=by
 intro b
 induction b with
 | and a b iha ihb =>
  simp only [Z9j]
  split
  ·rename_i h1
   have:=Z1e hf _ _ h1
   simp only [iff_true] at this
   simp [XB.prop,ihb,this]
  ·rename_i h1 _
   have:=Z1e hf _ _ h1
   simp only [iff_true] at this
   simp [XB.prop,iha,this]
  ·simp [XB.prop,iha,ihb]
 | or a b iha ihb =>
  simp only [Z9j]
  split
  ·rename_i h1
   have:=Z1e hf _ _ h1
   simp only [Bool.false_eq_true,iff_false] at this
   simp [XB.prop,ihb,this]
  ·rename_i h1 _
   have:=Z1e hf _ _ h1
   simp only [Bool.false_eq_true,iff_false] at this
   simp [XB.prop,iha,this]
  ·simp [XB.prop,iha,ihb]
 | iff a b =>
  simp only [Z9j]
  split
  ·rename_i h1
   have:=Z1e hf _ _ h1
   simp only [iff_true] at this
   simp [XB.prop,this]
  ·rename_i h1
   have:=Z1e hf _ _ h1
   simp only [Bool.false_eq_true,iff_false] at this
   simp [XB.prop,this]
  ·split
   ·rename_i h1
    have:=Z1e hf _ _ h1
    simp only [iff_true] at this
    simp [XB.prop,this]
   ·rename_i h1
    have:=Z1e hf _ _ h1
    simp only [Bool.false_eq_true,iff_false] at this
    simp [XB.prop,this]
   ·exact Iff.rfl
 | _=>exact Iff.rfl
def Zad.low (n:Nat) (f:Zad):Bool:=f.a.low n && f.b.low n
def Z142 (lv:List (Nat × List (Option Iv))) (m n:Nat):List (Option Iv):=match lv.find? (fun p=>p.1 == m && p.2.length == n) with
 | some p=>p.2
 | none=>List.replicate n none
def Zu (lv:List (Nat × List (Option Iv))) (outs:List Inf):List Zad→List (Option Iv)→T→TX
 | _,vs,.ret es=>.ret (es.map fun e=>(Z18 vs e).1)
 | fs,vs,.ite b t f=>match Zkv vs b with
  | some true=>Zu lv outs fs vs t
  | some false=>Zu lv outs fs vs f
  | none=>match Z3j fs (Zhn vs b) with
   | some true=>Zu lv outs fs vs t
   | some false=>Zu lv outs fs vs f
   | none=>.ite (Z9j fs (Zhn vs b)) (if Zvd (Z3i vs b true) then .ok else Zu lv outs ((Z53 fs (Zhn vs b) true).filter (Zad.low vs.length)) (Z3i vs b true) t)
     (if Zvd (Z3i vs b false) then .ok else Zu lv outs ((Z53 fs (Zhn vs b) false).filter (Zad.low vs.length)) (Z3i vs b false) f)
 | fs,vs,.asrt b t=>match Zkv vs b with
  | some true=>Zu lv outs fs vs t
  | _=>match Z3j fs (Zhn vs b) with
   | some true=>Zu lv outs fs vs t
   | _=>.asrt (Z9j fs (Zhn vs b)) (Zu lv outs ((Z53 fs (Zhn vs b) true).filter (Zad.low vs.length)) (Z3i vs b true) t)
 | fs,vs,.call g args t =>
  if Zsg (args.map fun e=>(Z18 vs e).2) (outs.getD g .none).pin then .callp g (args.map fun e=>(Z18 vs e).1) (Zu lv outs fs (vs++(outs.getD g .none).out (args.map fun e=>(Z18 vs e).2)) t)
  else .call g (args.map fun e=>(Z18 vs e).1) (Zu lv outs fs (vs++(outs.getD g .none).out (args.map fun e=>(Z18 vs e).2)) t)
 | fs,vs,.loop n ini t=>.loop n (Z142 lv vs.length n) (ini.map fun e=>(Z18 vs e).1) (Zu lv outs fs (vs++Z142 lv vs.length n) t)
 | _,vs,.back d es=>.back d (es.map fun e=>(Z18 vs e).1)
 | fs,vs,.both t f=>Zve (Zu lv outs fs vs t) (Zu lv outs fs vs f)
 | fs,vs,.any n g args t=>.any n g (args.map fun e=>(Z18 vs e).1) (Zu lv outs fs (vs++List.replicate n none) t)
 | _,_,.fail=>.fail
section
variable {R:Fo}
theorem Zpl:∀ (a:X) (m k:Nat),m≤k→a.low m=true→a.low k=true:=by
 intro a m k hmk
 induction a with
 | c n=>intro _; rfl
 | v i=>simp only [X.low,Z18s]; omega
 | wr k a ih=>exact ih
 | nl=>intro _; rfl
 | ln a ih=>exact ih
 | l2 o a b iha ihb =>
  simp only [X.low,Z18r]
  exact fun h=>⟨iha h.1,ihb h.2⟩
 | l3 a b x iha ihb ihx =>
  simp only [X.low,Z18r]
  exact fun h=>⟨iha h.1,ihb h.2.1,ihx h.2.2⟩
 | _ a b iha ihb =>
  simp only [X.low,Z18r]
  exact fun h=>⟨iha h.1,ihb h.2⟩
def Zap (R:Fo) (fs:List Zad) (r:List Int):Prop:=∀ f ∈ fs,f.holds R r∧f.low r.length=true
theorem Z5p {fs:List Zad} {r:List Int} (x:List Int) (h:Zap R fs r):Zap R fs (r++x):=by
 intro f hm
 obtain ⟨h1,h2⟩:=h f hm
 have h2':=h2
 simp only [Zad.low,Z18r] at h2
 refine ⟨?_,?_⟩
 ·simp only [Zad.holds,X.den_low _ h2.1,X.den_low _ h2.2]
  exact h1
 ·simp only [Zad.low,Z18r,List.length_append]
  exact ⟨Zpl _ _ _ (by omega) h2.1,Zpl _ _ _ (by omega) h2.2⟩
theorem Z5q {fs:List Zad} {r:List Int} (h:Zap R fs r) {b:XB} {x:Bool} (hb:b.prop R r↔x=true):Zap R ((Z53 fs b x).filter (Zad.low r.length)) r :=
 fun f hm=>⟨Zn9 b x fs (fun g hg=>(h g hg).1) hb f (List.mem_filter.1 hm).1,(List.mem_filter.1 hm).2⟩
theorem Z8m {lv:List (Nat × List (Option Iv))} {Γ:List Sum} {outs:List Inf} {Ψ:List Int→Prop} (ho:Zr Γ outs):∀ (t:T) (fs:List Zad) (vs:List (Option Iv)) (bs:List (List Int→Prop)) (r:List Int),Zap R fs r→Zq vs r→(Zu lv outs fs vs t).sat Γ R Ψ bs r→t.sat Γ R Ψ bs r:=by
 intro t
 induction t with
 | ret es =>
  intro fs vs bs r hf h hs
  simp only [Zu,TX.sat,List.map_map] at hs
  have:es.map (X.den R r ∘ fun e=>(Z18 vs e).1)=es.map (E.den R r):=List.map_congr_left fun e _=>(Z13 h e).1
  rw [this] at hs
  exact hs
 | ite b t f iht ihf =>
  intro fs vs bs r hf h hs
  simp only [Zu] at hs
  have hf1:∀ f ∈ fs,f.holds R r:=fun f hm=>(hf f hm).1
  have hcb:=Zgf (R:=R) h b
  have key:∀ x,b.den R r=x→Zvd (Z3i vs b x)=false∧Zq (Z3i vs b x) r:=fun x hx=>⟨Zn8 (Ze2 (R:=R) b x vs h hx),Ze2 (R:=R) b x vs h hx⟩
  split at hs
  ·rename_i hd
   have:=Ze1 (R:=R) h b true hd
   exact ⟨fun _=>iht fs vs bs r hf h hs,fun hf=>by rw [this] at hf; cases hf⟩
  ·rename_i hd
   have:=Ze1 (R:=R) h b false hd
   exact ⟨fun hf=>(by rw [this] at hf; cases hf),fun _=>ihf fs vs bs r hf h hs⟩
  ·split at hs
   ·rename_i hk
    have:=(hcb.1 ((Z1e hf1 _ _ hk).2 rfl))
    exact ⟨fun _=>iht fs vs bs r hf h hs,fun hb=>by rw [this] at hb; cases hb⟩
   ·rename_i hk
    have hn:¬ b.den R r=true:=fun hb=>by have:=(Z1e hf1 _ _ hk).1 (hcb.2 hb); cases this
    exact ⟨fun hb=>absurd hb hn,fun _=>ihf fs vs bs r hf h hs⟩
   ·obtain ⟨h1,h2⟩:=hs
    rw [Zgg hf1] at h1 h2
    refine ⟨fun hb=>?_,fun hb=>?_⟩
    ·obtain ⟨k1,k2⟩:=key true hb
     have h3:=h1 (hcb.2 hb)
     rw [if_neg (by rw [k1]; simp)] at h3
     rw [h.1] at h3
     exact iht _ _ bs r (Z5q hf (by simp [hcb.2 hb])) k2 h3
    ·obtain ⟨k1,k2⟩:=key false hb
     have hnp:¬ (Zhn vs b).prop R r:=fun hp=>by have:=hcb.1 hp; rw [hb] at this; cases this
     have h3:=h2 hnp
     rw [if_neg (by rw [k1]; simp)] at h3
     rw [h.1] at h3
     exact ihf _ _ bs r (Z5q hf (by simp [hnp])) k2 h3
 | asrt b t ih =>
  intro fs vs bs r hf h hs
  simp only [Zu] at hs
  have hf1:∀ f ∈ fs,f.holds R r:=fun f hm=>(hf f hm).1
  have hcb:=Zgf (R:=R) h b
  split at hs
  ·rename_i hd
   exact ⟨Ze1 (R:=R) h b true hd,ih fs vs bs r hf h hs⟩
  ·split at hs
   ·rename_i hk
    exact ⟨hcb.1 ((Z1e hf1 _ _ hk).2 rfl),ih fs vs bs r hf h hs⟩
   ·obtain ⟨h1,h2⟩:=hs
    rw [Zgg hf1] at h1
    have hb:=hcb.1 h1
    rw [h.1] at h2
    exact ⟨hb,ih _ _ bs r (Z5q hf (by simp [h1])) (Ze2 (R:=R) b true vs h hb) h2⟩
 | call g args t ih =>
  intro fs vs bs r hf h hs
  have hm:args.map (X.den R r ∘ fun e=>(Z18 vs e).1)=args.map (E.den R r):=List.map_congr_left fun e _=>(Z13 h e).1
  simp only [Zu] at hs
  simp only [T.sat]
  split at hs
  ·rename_i hin
   simp only [TX.sat,List.map_map,hm] at hs
   split at hs
   ·rename_i s hg
    rw [hg]
    obtain ⟨h1,h2⟩:=ho g s hg
    have h3:=Zpj hin (Z9i (R:=R) h args)
    exact ⟨h1 _ h3,ih _ _ bs _ (Z5p _ hf) (Zw h (h2 _ _ (Z9i (R:=R) h args) (h1 _ h3))) hs⟩
   ·exact hs.elim
  ·simp only [TX.sat,List.map_map,hm] at hs
   split at hs
   ·rename_i s hg
    rw [hg]
    obtain ⟨h1,h2⟩:=ho g s hg
    exact ⟨hs.1,ih _ _ bs _ (Z5p _ hf) (Zw h (h2 _ _ (Z9i (R:=R) h args) hs.1)) hs.2⟩
   ·exact hs.elim
 | loop n ini t ih =>
  intro fs vs bs r hf h hs
  have hm:ini.map (X.den R r ∘ fun e=>(Z18 vs e).1)=ini.map (E.den R r):=List.map_congr_left fun e _=>(Z13 h e).1
  simp only [Zu,TX.sat,List.map_map,hm] at hs
  obtain ⟨I,μ,h1,h2,h3⟩:=hs
  exact ⟨I,μ,h2,fun xs hx hI=>ih _ _ _ _ (Z5p _ hf) (Zw h (h1 xs hx hI)) (h3 xs hx hI)⟩
 | back d es =>
  intro fs vs bs r hf h hs
  have hm:es.map (X.den R r ∘ fun e=>(Z18 vs e).1)=es.map (E.den R r):=List.map_congr_left fun e _=>(Z13 h e).1
  simp only [Zu,TX.sat,List.map_map,hm] at hs
  exact hs
 | both t f iht ihf =>
  intro fs vs bs r hf h hs
  simp only [Zu] at hs
  obtain ⟨h1,h2⟩:=Zsi hs
  exact ⟨iht _ _ _ _ hf h h1,ihf _ _ _ _ hf h h2⟩
 | any n g args t ih =>
  intro fs vs bs r hf h hs
  have hm:args.map (X.den R r ∘ fun e=>(Z18 vs e).1)=args.map (E.den R r):=List.map_congr_left fun e _=>(Z13 h e).1
  simp only [Zu,TX.sat,List.map_map,hm] at hs
  simp only [T.sat]
  split at hs
  ·rename_i s hg
   rw [hg]
   exact ⟨hs.1,fun ys hy hr=>ih _ _ bs _ (Z5p _ hf) (Zw h (vs_rep hy)) (hs.2 ys hy hr)⟩
  ·exact hs.elim
 | fail=>intro fs vs bs r _ h hs; exact hs.elim
end
theorem Z8n {R:Fo} {r:List Int}:Zap R [] r:=fun f h=>by cases h
theorem Sum.okPL {P:Program} {Γ:List Sum} (hm:P.follows .mixedOrders=true) (hG:Gok P Γ) {lp:St→Code→Option Zai} {lv:List (Nat × List (Option Iv))} {gl:List (Nat × List Int)} {fuel:Nat} {outs:List Inf} (ho:Zr Γ outs) {fn:FuncId} {ps rs:List Sh} {pin:List (Option Iv)} {pre:List Int→Prop} {sem:List Int→List Int} {t:TX}
  (ht:Z17 (Zu lv outs [] pin (Zx P lp gl Γ fuel fn ps rs))=t)
  (hsh:(ps++rs).all (fun sh=>sh.agg || sh.ks.length == 1)=true)
  (hl:∀ xs:List Int,(sem xs).length=Zg rs)
  (hpre:∀ xs,pre xs→Zq pin xs)
  (hs:∀ xs:List Int,xs.length=Zg ps→pre xs→t.sat Γ [] (fun ys=>ys=sem xs) [] xs):(mkP gl fn ps rs pre sem).ok P:=by
 subst ht
 exact Sum.ok_ofL hm hG rfl hsh (fun xs hx hp=>Z8m ho _ [] pin [] xs Z8n (hpre xs hp) (Ze4 _ _ _ (hs xs hx hp))) (fun xs _ _=>hl xs)
theorem Sum.okF {P:Program} {Γ:List Sum} (hm:P.follows .mixedOrders=true) (hG:Gok P Γ) {lp:St→Code→Option Zai} {lv:List (Nat × List (Option Iv))} {gl:List (Nat × List Int)} {fuel:Nat} {outs:List Inf} (ho:Zr Γ outs) {fn:FuncId} {ps rs:List Sh} {pin:List (Option Iv)} {sem:List Int→List Int} {t:TX}
  (ht:Z17 (Zu lv outs [] pin (Zx P lp gl Γ fuel fn ps rs))=t)
  (hsh:(ps++rs).all (fun sh=>sh.agg || sh.ks.length == 1)=true)
  (hl:∀ xs:List Int,(sem xs).length=Zg rs)
  (hs:∀ xs:List Int,xs.length=Zg ps→Zq pin xs→t.sat Γ [] (fun ys=>ys=sem xs) [] xs):(mkS gl fn ps rs pin sem).ok P :=
 Sum.okPL hm hG ho (pre:=Zq pin) ht hsh hl (fun _ h=>h) hs
theorem Sum.okPF {P:Program} {Γ:List Sum} (hm:P.follows .mixedOrders=true) (hG:Gok P Γ) {lp:St→Code→Option Zai} {lv:List (Nat × List (Option Iv))} {gl:List (Nat × List Int)} {fuel:Nat} {outs:List Inf} (ho:Zr Γ outs) {fn:FuncId} {ps rs:List Sh} {pin:List (Option Iv)} {pre:List Int→Prop} {sem:List Int→List Int} {t:TX}
  (ht:Z17 (Zu lv outs [] pin (Zx P lp gl Γ fuel fn ps rs))=t)
  (hsh:(ps++rs).all (fun sh=>sh.agg || sh.ks.length == 1)=true)
  (hl:∀ xs:List Int,(sem xs).length=Zg rs)
  (hpre:∀ xs,pre xs→Zq pin xs)
  (hs:∀ xs:List Int,xs.length=Zg ps→pre xs→t.sat Γ [] (fun ys=>ys=sem xs) [] xs):(mkP gl fn ps rs pre sem).ok P :=
 Sum.okPL hm hG ho ht hsh hl hpre hs
end Go.Sx
namespace Go.Sx
open Go.RowKit
def Z3k:Code→List Oper
 | .region _ ops _=>ops.toList
 | .seq a b=>Z3k a++Z3k b
 | .cond _ a b=>Z3k a++Z3k b
 | .block _ a=>Z3k a
 | .loop a=>Z3k a
 | .scope a=>Z3k a
 | _=>[]
def Ze5:Code→Nat × Nat
 | .region id ops _=>(id,((ops[0]?).bind (·.dst)).getD 0)
 | .seq a _=>Ze5 a
 | .block _ a=>Ze5 a
 | _=>(1000000,0)
def Z7m (l:List Oper) (t:Tmp):Option Oper:=l.find? fun o=>decide (o.dst=some t)
def Zna (l:List Oper):Nat→Tmp→Option TypeId
 | 0,_=>none
 | f + 1,t=>match Z7m l t with
  | some o=>(match o.op with
   | .move (.tmp u)=>Zna l f u
   | .assign (.tmp u)=>Zna l f u
   | .slice ty _ _ _ _=>some ty
   | .call c=>(match c.callee with
    | .builtin .append=>c.argTypes[0]?
    | _=>none)
   | _=>none)
  | none=>none
def Zgh (l:List Oper) (s:St):Nat→Tmp→Option Nat
 | 0,_=>none
 | f + 1,t=>match Z7m l t with
  | none=>(match s.fr.getD t Z5 with
   | .w (.o (.p n _))=>some n
   | _=>none)
  | some o=>(match o.op with
   | .fieldAddr _ (.tmp u) _=>Zgh l s f u
   | .indexAddr _ (.tmp u) _=>Zgh l s f u
   | .nilCheck (.tmp u)=>Zgh l s f u
   | .move (.tmp u)=>Zgh l s f u
   | _=>none)
def Zho (l:List Oper) (s:St):List Oper→List Nat
 | []=>[]
 | o::r=>match o.op with
  | .store _ (.tmp t) _=>(match Zgh l s 8 t with
   | some n=>n::Zho l s r
   | none=>Zho l s r)
  | _=>Zho l s r
def Zvj (l:List Oper) (s:St):Nat→Tmp→Option Nat
 | 0,_=>none
 | f + 1,t=>match Z7m l t with
  | none=>(match s.fr.getD t Z5 with
   | .w (.o (.go (.o n)))=>some n
   | .w (.o (.gv (.o n) _ _ _))=>some n
   | .w (.o (.gp (.o n) _ _ _))=>some n
   | _=>none)
  | some o=>(match o.op with
   | .fieldAddr _ (.tmp u) _=>Zvj l s f u
   | .indexAddr _ (.tmp u) _=>Zvj l s f u
   | .nilCheck (.tmp u)=>Zvj l s f u
   | .move (.tmp u)=>Zvj l s f u
   | .load _ (.tmp u)=>(match Zgh l s f u with
    | some n=>(match s.mem[n]? with
     | some b=>(match b.cells with
      | .go (.o m)::_=>some m
      | _=>none)
     | none=>none)
    | none=>none)
   | _=>none)
def Z33 (l:List Oper) (s:St):List Oper→List Nat
 | []=>[]
 | o::r=>match o.op with
  | .store _ (.tmp t) _=>(match Zvj l s 8 t with
   | some n=>n::Z33 l s r
   | none=>Z33 l s r)
  | _=>Z33 l s r
def Z2r (s:St) (ty:Option (TypeId × List K)):SC→Ck
 | .i k _=>.num (.i k)
 | .b _=>.num .b
 | .go (.o n)=>(match s.rows[n]? with
  | some b=>.row b.ty b.ks
  | none=>.keep)
 | .gv (.o n) _ _ _=>(match s.rows[n]? with
  | some b=>.row b.ty b.ks
  | none=>.keep)
 | .l (.slice none 0 0)=>(match ty with
  | some t=>.row t.1 t.2
  | none=>.keep)
 | _=>.keep
def Z143:SC→Bool
 | .i _ _=>true
 | .b _=>true
 | .go (.o _)=>true
 | .gv (.o _) _ _ _=>true
 | .l (.slice none 0 0)=>true
 | _=>false
def tyOf (P:Program) (l:List Oper) (t:Tmp):Option (TypeId × List K):=match Zna l 8 t with
 | some ty=>(match P.underlying ty with
  | some (.slice e)=>(Zze P 8 e).map fun ks=>(e,ks)
  | _=>none)
 | none=>none
def Z10i (l:List Oper) (t:Tmp):Bool:=l.any fun o=>o.op.operands.toList.any fun x=>match x with
 | .tmp u=>u == t
 | _=>false
def Z10j (P:Program) (l:List Oper) (s:St) (rw:List Nat) (t:Tmp) (v:SV):Sk :=
 if (Z7m l t).isNone then (match v with
  | .w (.o (.go (.o n)))=>if rw.contains n then (if Z10i l t then .cells [Z2r s none (.go (.o n))] else .un) else .keep
  | .w (.o (.gp (.o n) _ (.c 0) 0))=>if rw.contains n then (match s.rows[n]? with
   | some b=>.cells [.arr b.ty b.ks]
   | none=>.keep) else .keep
  | _=>if v.same v then .keep else .un) else
 match v with
 | .w (.o c)=>if Z143 c then (match Z2r s (tyOf P l t) c with
  | .keep=>.un
  | p=>.cells [p]) else .un
 | .w (.a cs)=>if cs.all Z143 then .cells (cs.map (Z2r s none)) else .un
 | _=>.un
def Zpm (P:Program) (l:List Oper) (s:St) (rw:List Nat):Nat→List SV→List Sk
 | _,[]=>[]
 | t,v::vs=>Z10j P l s rw t v::Zpm P l s rw (t + 1) vs
def Zvk (s:St) (rw ws:List Nat):Nat→List Blk→List (List Ck)
 | _,[]=>[]
 | n,b::bs=>(if ws.contains n then b.cells.map (Z2r s none) else b.cells.map fun c=>match c with
  | .go (.o m)=>if rw.contains m then Z2r s none c else Ck.keep
  | _=>Ck.keep)::Zvk s rw ws (n + 1) bs
def Z10k (P:Program) (s:St) (body:Code):Zai :=
 let l:=Z3k body
 let rw:=Z33 l s l
 ⟨Zpm P l s rw 0 s.fr,Zvk s rw (Zho l s l) 0 s.mem⟩
def Zbj (P:Program) (ks:List (Nat × Nat)):St→Code→Option Zai:=fun s body =>
 if ks.contains (Ze5 body) then some (Z10k P s body) else none
end Go.Sx
namespace Go.Proofs.Ytgcoidbaoigkeaa.fix
open Go.RowKit Go.Sx
def gl0:List (Nat × List Int):=[]
def zz:Option Iv:=some i64v
def zs (n:Nat):List (Option Iv):=List.replicate n zz
def iv (a b:Int):Option Iv:=some ⟨a,b⟩
def ivs (n:Nat) (a b:Int):List (Option Iv):=List.replicate n (iv a b)
def pos:Option Iv:=iv 1 9223372036854775807
def hull0:Option Iv→Option Iv
 | some v=>some ⟨min v.lo 0,max v.hi 0⟩
 | none=>none
def ex3 (l:List Int):List Int:=[l.getD 0 0,l.getD 1 0,l.getD 2 0]
def ex4 (l:List Int):List Int:=[l.getD 0 0,l.getD 1 0,l.getD 2 0,l.getD 3 0]
def ex5 (l:List Int):List Int:=[l.getD 0 0,l.getD 1 0,l.getD 2 0,l.getD 3 0,l.getD 4 0]
def ex6 (l:List Int):List Int:=[l.getD 0 0,l.getD 1 0,l.getD 2 0,l.getD 3 0,l.getD 4 0,l.getD 5 0]
def ex7 (l:List Int):List Int:=[l.getD 0 0,l.getD 1 0,l.getD 2 0,l.getD 3 0,l.getD 4 0,l.getD 5 0,l.getD 6 0]
def Zkx (l:List Int):List Int:=[l.getD 0 0,l.getD 1 0,l.getD 2 0,l.getD 3 0,l.getD 4 0,l.getD 5 0,l.getD 6 0,l.getD 7 0,l.getD 8 0,l.getD 9 0,l.getD 10 0,l.getD 11 0,l.getD 12 0]
def Zbk (l:List Int):List Int:=[l.getD 0 0,l.getD 1 0,l.getD 2 0,l.getD 3 0,l.getD 4 0,l.getD 5 0,l.getD 6 0,l.getD 7 0,l.getD 8 0,l.getD 9 0,l.getD 10 0,l.getD 11 0,l.getD 12 0,l.getD 13 0,l.getD 14 0,l.getD 15 0]
def er (b:Bool) (e:Int):Int:=if b=true then 0 else e
def b01 (b:Bool):Int:=if b=true then 1 else 0
def Ze6:List (Option Iv):=[zz,pos]
def Z1h (x:List Int):List Int:=[x.getD 0 0 / x.getD 1 0,0]
def Zvl (v:List (Option Iv)):List (Option Iv):=[hull0 (v.getD 0 none),iv 0 0]
def Z1u:Sum:=mkS gl0 112 [I1,I1] [I1,I1] Ze6 Z1h
def Ze7:Inf:=⟨Ze6,Zvl⟩
def Zhp (m:Int) (x:List Int) (o:Nat):Bool:=decide ((-m≤x.getD o 0∧x.getD o 0≤m)∧(-m≤x.getD (o + 1) 0∧x.getD (o + 1) 0≤m)∧(-m≤x.getD (o + 2) 0∧x.getD (o + 2) 0≤m))
def Z66 (m:Int) (x:List Int) (o:Nat):Bool:=Zhp m x o && (Zhp m x (o + 3) && Zhp m x (o + 6))
def dot (x:List Int) (o p:Nat):Int:=x.getD o 0 * x.getD p 0 + x.getD (o + 1) 0 * x.getD (p + 1) 0 + x.getD (o + 2) 0 * x.getD (p + 2) 0
def Z10l (v:List (Option Iv)) (o p:Nat):Option Iv:=Zsf (Zsf (Zn6 (v.getD o none) (v.getD p none)) (Zn6 (v.getD (o + 1) none) (v.getD (p + 1) none))) (Zn6 (v.getD (o + 2) none) (v.getD (p + 2) none))
def Z10m (k:Int):Option Iv→Option Iv
 | some v=>some ⟨v.lo / k,v.hi / k⟩
 | none=>none
def Zaq (x:List Int):List Int:=[er (Zhp 4096 x 0) 20]
def Zar:=zs 3
def Zsj (v:List (Option Iv)):List (Option Iv):=[iv 0 20]
def Zc1:Sum:=mkS gl0 66 [An 3] [I1] Zar Zaq
def Zpn:Inf:=⟨Zar,Zsj⟩
def Z6r (x:List Int):List Int:=[dot x 0 9 / 256,dot x 3 9 / 256,dot x 6 9 / 256]
def Ze8:=ivs 9 (-1024) 1024++ivs 3 (-32768) 32768
def Zvm (v:List (Option Iv)):List (Option Iv):=[Z10m 256 (Z10l v 0 9),Z10m 256 (Z10l v 3 9),Z10m 256 (Z10l v 6 9)]
def Zas:Sum:=mkS gl0 138 [An 9,An 3] [An 3] Ze8 Z6r
def Zvn:Inf:=⟨Ze8,Zvm⟩
def lensB (x:List Int) (o:Nat):Bool:=decide ((1≤x.getD o 0∧x.getD o 0≤64)∧(256≤x.getD (o + 1) 0∧x.getD (o + 1) 0≤4096)∧(1≤x.getD (o + 2) 0∧x.getD (o + 2) 0≤64)∧(1≤x.getD (o + 3) 0∧x.getD (o + 3) 0≤64))
def Z4g (x:List Int) (o:Nat):Bool:=Zhp 4096 x o && (Z66 256 x (o + 3) && lensB x (o + 12))
def Z7n (x:List Int):List Int:=[er (Z4g x 0) 150]
def Zat:=zs 16
def Zsk (v:List (Option Iv)):List (Option Iv):=[iv 0 150]
def Z4k:Sum:=mkS gl0 35 [An 16] [I1] Zat Z7n
def Zc2:Inf:=⟨Zat,Zsk⟩
def Zma (x:List Int) (o p q:Nat):Int:=x.getD o 0 * (x.getD p 0 - x.getD q 0) + x.getD (o + 1) 0 * (x.getD (p + 1) 0 - x.getD (q + 1) 0) + x.getD (o + 2) 0 * (x.getD (p + 2) 0 - x.getD (q + 2) 0)
def Zbs (x:List Int):List Int:=if Z4g x 0=true then if Zhp 4096 x 16=true then [Zma x 3 16 0 / 256,Zma x 6 16 0 / 256,Zma x 9 16 0 / 256,0] else [0,0,0,20] else [0,0,0,150]
def Zc3 (x:List Int):List Int:=ex4 (Zbs x)
def Zc4:=zs 19
def Zpo (v:List (Option Iv)):List (Option Iv):=ivs 3 (-24576) 24576++[iv 0 150]
def Zgi:Sum:=mkS gl0 83 [An 16,An 3] [An 3,I1] Zc4 Zc3
def Z144:Inf:=⟨Zc4,Zpo⟩
end Go.Proofs.Ytgcoidbaoigkeaa.fix
namespace Go.Proofs.Ytgcoidbaoigkeaa.fix
open Go.RowKit Go.Sx
theorem noG:Gok Try.prog []:=by intro s h; cases h
theorem one {s:Sum} (h:s.ok Try.prog) (hm:s.m=none:=by rfl):Gok Try.prog [s]:=by
 intro x hx
 simp only [List.mem_singleton] at hx
 subst hx
 exact h.A hm
theorem more {s:Sum} {G:List Sum} (h:s.ok Try.prog) (hG:Gok Try.prog G) (hm:s.m=none:=by rfl):Gok Try.prog (s::G):=by
 intro x hx
 rcases List.mem_cons.1 hx with rfl | hx
 ·exact h.A hm
 ·exact hG x hx
theorem Zvo (b:Bool) {e:Int} (h:0≤e):Zh (iv 0 e) (er b e):=by
 unfold er
 split <;> exact ⟨by first | exact h | exact Int.le_refl _,by first | exact h | exact Int.le_refl _⟩
theorem Zgj (b:Bool):Zh (iv 0 1) (b01 b):=by
 unfold b01
 split <;> exact ⟨by decide,by decide⟩
theorem Znb (b:Bool) {e:Int} (h:e ≠ 0):er b e=0↔b=true:=by
 unfold er
 cases b <;> simp [h]
theorem Zc {a b n:Int}:Zh (iv a b) n↔a≤n∧n≤b:=Iff.rfl
theorem Zvp {v:Option Iv} {a b:Int} (hb:1≤b) (h:Zh v a):Zh (hull0 v) (a / b):=by
 cases v with
 | none=>trivial
 | some v =>
  obtain ⟨h1,h2⟩:=h
  have:=Z9f (a:=a) (b:=b) (l:=min v.lo 0) (h:=max v.hi 0) (by omega) (by omega) (by omega) (by omega) (by omega)
  exact this
theorem Ze9 {v:Option Iv} {a k:Int} (hk:0 < k) (h:Zh v a):Zh (Z10m k v) (a / k):=by
 cases v with
 | none=>trivial
 | some v=>exact ⟨Zph hk h.1,Zph hk h.2⟩
theorem Zea {vs:List (Option Iv)} {xs:List Int} (h:Zq vs xs) (o p:Nat):Zh (Z10l vs o p) (dot xs o p) :=
 Ze0 (Ze0 (Z9h (h.2 o) (h.2 p)) (Z9h (h.2 (o + 1)) (h.2 (p + 1)))) (Z9h (h.2 (o + 2)) (h.2 (p + 2)))
theorem Ze {p:Prop} [Decidable p]:decide p=true↔p:=decide_eq_true_iff
theorem Zfh {xs:List Int} (h:xs.length=2):∃ a0 a1,xs=[a0,a1]:=by
 match xs,h with
 | [a0,a1],_=>exact ⟨a0,a1,rfl⟩
theorem len3 {xs:List Int} (h:xs.length=3):∃ a0 a1 a2,xs=[a0,a1,a2]:=by
 match xs,h with
 | [a0,a1,a2],_=>exact ⟨a0,a1,a2,rfl⟩
theorem len4 {xs:List Int} (h:xs.length=4):∃ a0 a1 a2 a3,xs=[a0,a1,a2,a3]:=by
 match xs,h with
 | [a0,a1,a2,a3],_=>exact ⟨a0,a1,a2,a3,rfl⟩
theorem len5 {xs:List Int} (h:xs.length=5):∃ a0 a1 a2 a3 a4,xs=[a0,a1,a2,a3,a4]:=by
 match xs,h with
 | [a0,a1,a2,a3,a4],_=>exact ⟨a0,a1,a2,a3,a4,rfl⟩
theorem len6 {xs:List Int} (h:xs.length=6):∃ a0 a1 a2 a3 a4 a5,xs=[a0,a1,a2,a3,a4,a5]:=by
 match xs,h with
 | [a0,a1,a2,a3,a4,a5],_=>exact ⟨a0,a1,a2,a3,a4,a5,rfl⟩
theorem len9 {xs:List Int} (h:xs.length=9):∃ a0 a1 a2 a3 a4 a5 a6 a7 a8,xs=[a0,a1,a2,a3,a4,a5,a6,a7,a8]:=by
 match xs,h with
 | [a0,a1,a2,a3,a4,a5,a6,a7,a8],_=>exact ⟨a0,a1,a2,a3,a4,a5,a6,a7,a8,rfl⟩
theorem len10 {xs:List Int} (h:xs.length=10):∃ a0 a1 a2 a3 a4 a5 a6 a7 a8 a9,xs=[a0,a1,a2,a3,a4,a5,a6,a7,a8,a9]:=by
 match xs,h with
 | [a0,a1,a2,a3,a4,a5,a6,a7,a8,a9],_=>exact ⟨a0,a1,a2,a3,a4,a5,a6,a7,a8,a9,rfl⟩
theorem Z165 {xs:List Int} (h:xs.length=12):∃ a0 a1 a2 a3 a4 a5 a6 a7 a8 a9 a10 a11,xs=[a0,a1,a2,a3,a4,a5,a6,a7,a8,a9,a10,a11]:=by
 match xs,h with
 | [a0,a1,a2,a3,a4,a5,a6,a7,a8,a9,a10,a11],_=>exact ⟨a0,a1,a2,a3,a4,a5,a6,a7,a8,a9,a10,a11,rfl⟩
theorem Z166 {xs:List Int} (h:xs.length=15):∃ a0 a1 a2 a3 a4 a5 a6 a7 a8 a9 a10 a11 a12 a13 a14,xs=[a0,a1,a2,a3,a4,a5,a6,a7,a8,a9,a10,a11,a12,a13,a14]:=by
 match xs,h with
 | [a0,a1,a2,a3,a4,a5,a6,a7,a8,a9,a10,a11,a12,a13,a14],_=>exact ⟨a0,a1,a2,a3,a4,a5,a6,a7,a8,a9,a10,a11,a12,a13,a14,rfl⟩
theorem Znc {xs:List Int} (h:xs.length=16):∃ a0 a1 a2 a3 a4 a5 a6 a7 a8 a9 a10 a11 a12 a13 a14 a15,xs=[a0,a1,a2,a3,a4,a5,a6,a7,a8,a9,a10,a11,a12,a13,a14,a15]:=by
 match xs,h with
 | [a0,a1,a2,a3,a4,a5,a6,a7,a8,a9,a10,a11,a12,a13,a14,a15],_=>exact ⟨a0,a1,a2,a3,a4,a5,a6,a7,a8,a9,a10,a11,a12,a13,a14,a15,rfl⟩
theorem Z167 {xs:List Int} (h:xs.length=17):∃ a0 a1 a2 a3 a4 a5 a6 a7 a8 a9 a10 a11 a12 a13 a14 a15 a16,xs=[a0,a1,a2,a3,a4,a5,a6,a7,a8,a9,a10,a11,a12,a13,a14,a15,a16]:=by
 match xs,h with
 | [a0,a1,a2,a3,a4,a5,a6,a7,a8,a9,a10,a11,a12,a13,a14,a15,a16],_=>exact ⟨a0,a1,a2,a3,a4,a5,a6,a7,a8,a9,a10,a11,a12,a13,a14,a15,a16,rfl⟩
theorem len19 {xs:List Int} (h:xs.length=19):∃ a0 a1 a2 a3 a4 a5 a6 a7 a8 a9 a10 a11 a12 a13 a14 a15 a16 a17 a18,xs=[a0,a1,a2,a3,a4,a5,a6,a7,a8,a9,a10,a11,a12,a13,a14,a15,a16,a17,a18]:=by
 match xs,h with
 | [a0,a1,a2,a3,a4,a5,a6,a7,a8,a9,a10,a11,a12,a13,a14,a15,a16,a17,a18],_=>exact ⟨a0,a1,a2,a3,a4,a5,a6,a7,a8,a9,a10,a11,a12,a13,a14,a15,a16,a17,a18,rfl⟩
theorem len20 {xs:List Int} (h:xs.length=20):∃ a0 a1 a2 a3 a4 a5 a6 a7 a8 a9 a10 a11 a12 a13 a14 a15 a16 a17 a18 a19,xs=[a0,a1,a2,a3,a4,a5,a6,a7,a8,a9,a10,a11,a12,a13,a14,a15,a16,a17,a18,a19]:=by
 match xs,h with
 | [a0,a1,a2,a3,a4,a5,a6,a7,a8,a9,a10,a11,a12,a13,a14,a15,a16,a17,a18,a19],_=>exact ⟨a0,a1,a2,a3,a4,a5,a6,a7,a8,a9,a10,a11,a12,a13,a14,a15,a16,a17,a18,a19,rfl⟩
theorem len21 {xs:List Int} (h:xs.length=21):∃ a0 a1 a2 a3 a4 a5 a6 a7 a8 a9 a10 a11 a12 a13 a14 a15 a16 a17 a18 a19 a20,xs=[a0,a1,a2,a3,a4,a5,a6,a7,a8,a9,a10,a11,a12,a13,a14,a15,a16,a17,a18,a19,a20]:=by
 match xs,h with
 | [a0,a1,a2,a3,a4,a5,a6,a7,a8,a9,a10,a11,a12,a13,a14,a15,a16,a17,a18,a19,a20],_=>exact ⟨a0,a1,a2,a3,a4,a5,a6,a7,a8,a9,a10,a11,a12,a13,a14,a15,a16,a17,a18,a19,a20,rfl⟩
theorem len7 {xs:List Int} (h:xs.length=7):∃ a0 a1 a2 a3 a4 a5 a6,xs=[a0,a1,a2,a3,a4,a5,a6]:=by
 match xs,h with
 | [a0,a1,a2,a3,a4,a5,a6],_=>exact ⟨a0,a1,a2,a3,a4,a5,a6,rfl⟩
theorem len8 {xs:List Int} (h:xs.length=8):∃ a0 a1 a2 a3 a4 a5 a6 a7,xs=[a0,a1,a2,a3,a4,a5,a6,a7]:=by
 match xs,h with
 | [a0,a1,a2,a3,a4,a5,a6,a7],_=>exact ⟨a0,a1,a2,a3,a4,a5,a6,a7,rfl⟩
theorem len11 {xs:List Int} (h:xs.length=11):∃ a0 a1 a2 a3 a4 a5 a6 a7 a8 a9 a10,xs=[a0,a1,a2,a3,a4,a5,a6,a7,a8,a9,a10]:=by
 match xs,h with
 | [a0,a1,a2,a3,a4,a5,a6,a7,a8,a9,a10],_=>exact ⟨a0,a1,a2,a3,a4,a5,a6,a7,a8,a9,a10,rfl⟩
noncomputable def Znd:List Sum:=[]
def Zvq:List Inf:=[]
def Zvr:TX:=(.ite (.lt (.rem (.v 0) (.v 1)) (.c 0)) (.ret [(.wr .i64 (.sub (.quo (.v 0) (.v 1)) (.c 1))),(.c 0)])
(.ret [(.quo (.v 0) (.v 1)),(.c 0)]))
theorem Zsl:Z17 (Zu [] Zvq [] Ze6 (Zx Try.prog Zbe gl0 Znd 1000 112 [I1,I1] [I1,I1]))=Zvr:=by kernel_rfl
theorem Z168:Gok Try.prog Znd:=noG
theorem Z169:Zr Znd Zvq:=Za
theorem in2 {a b:Int} (h:Zq [zz,pos] [a,b]):In64 a∧1≤b∧b≤9223372036854775807:=⟨h.2 0,h.2 1⟩
theorem Zc5:Z1u.ok Try.prog:=Sum.okF facts.mixed Z168 Z169 Zsl rfl (fun _=>rfl) (by
 intro xs hx hp
 obtain ⟨a,b,rfl⟩:=Zfh hx
 obtain ⟨ha,hb,hb'⟩:=in2 hp
 simp only [Zvr,TX.sat,XB.prop,X.den,Z18k,Z18l,Z18e,Z18f,Z18i,Z18j,Z18g,Z18h,mkS,mkP,and_true,true_and,Z18p,Z18q,not_or,not_and,Z18m,ne_eq,Z18n,Z18o,Z1h]
 have hd:=Z9f (a:=a) (b:=b) (l:=-9223372036854775808) (h:=9223372036854775807) (by omega) (by omega) (by omega) ha.1 ha.2
 refine ⟨fun h=>?_,fun h=>?_⟩
 ·rw [Zvc (by omega) h,Z10 hd.1 hd.2]
 ·rw [Zdx (by omega) h])
theorem Z9k:Z1i Z1u Ze7:=⟨fun _ h=>h,fun vs xs h hp=>Z1 (Zvp (hp.2 1).1 (h.2 0)) (Z1 ⟨Int.le_refl _,Int.le_refl _⟩ Z2)⟩
theorem Zt {m:Int} {x:List Int} {o:Nat}:Zhp m x o=true↔((-m≤x.getD o 0∧x.getD o 0≤m)∧(-m≤x.getD (o + 1) 0∧x.getD (o + 1) 0≤m)∧(-m≤x.getD (o + 2) 0∧x.getD (o + 2) 0≤m)):=decide_eq_true_iff
noncomputable def Zhq:List Sum:=[]
def Zpp:List Inf:=[]
def Zpq:TX:=(.ite (.or (.or (.lt (.v 0) (.c (-4096))) (.lt (.c 4096) (.v 0))) (.or (.or (.lt (.v 1) (.c (-4096))) (.lt (.c 4096) (.v 1))) (.or (.lt (.v 2) (.c (-4096))) (.lt (.c 4096) (.v 2))))) (.ret [(.c 20)])
(.ret [(.c 0)]))
theorem Zne:Z17 (Zu [] Zpp [] Zar (Zx Try.prog Zbe gl0 Zhq 1000 66 [An 3] [I1]))=Zpq:=by kernel_rfl
theorem Z10n:Gok Try.prog Zhq:=noG
theorem Z10o:Zr Zhq Zpp:=Za
theorem Zvs:Zc1.ok Try.prog:=Sum.okF facts.mixed Z10n Z10o Zne rfl (fun _=>rfl) (by
 intro xs hx hp
 obtain ⟨a0,a1,a2,rfl⟩:=len3 hx
 simp only [Zpq,TX.sat,XB.prop,X.den,Z18k,Z18l,Z18e,Z18f,Z18i,Z18j,Z18g,Z18h,mkS,mkP,and_true,true_and,Z18p,Z18q,not_or,not_and,Z18m,ne_eq,Z18n,Z18o,Zaq,er,Zt]
 repeat' first | refine And.intro ?_ ?_ | intro _
 all_goals first | rfl | (split <;> first | rfl | omega))
theorem Zsm:Z1i Zc1 Zpn:=⟨fun _ h=>h,fun vs xs h hp=>Z1 (Zvo _ (by omega)) Z2⟩
noncomputable def Zhr:List Sum:=[Z1u]
def Zvt:List Inf:=[Ze7]
def Zvu:TX:=(.callp 0 [(.add (.add (.add (.c 0) (.mul (.v 0) (.v 9))) (.mul (.v 1) (.v 10))) (.mul (.v 2) (.v 11))),(.c 256)] (.callp 0 [(.add (.add (.add (.c 0) (.mul (.v 3) (.v 9))) (.mul (.v 4) (.v 10))) (.mul (.v 5) (.v 11))),(.c 256)] (.callp 0 [(.add (.add (.add (.c 0) (.mul (.v 6) (.v 9))) (.mul (.v 7) (.v 10))) (.mul (.v 8) (.v 11))),(.c 256)] (.ret [(.v 12),(.v 14),(.v 16)]))))
theorem Zsn:Z17 (Zu [] Zvt [] Ze8 (Zx Try.prog Zbe gl0 Zhr 1000 138 [An 9,An 3] [An 3]))=Zvu:=by kernel_rfl
theorem Z16a:Gok Try.prog Zhr:=(fix.one Zc5)
theorem Z16b:Zr Zhr Zvt:=(Z3 Z9k Za)
theorem Z10p:Zas.ok Try.prog:=Sum.okF facts.mixed Z16a Z16b Zsn rfl (fun _=>rfl) (by
 intro xs hx hp
 obtain ⟨a0,a1,a2,a3,a4,a5,a6,a7,a8,a9,a10,a11,rfl⟩:=Z165 hx
 simp only [Zvu,Zhr,Z1u,TX.sat,XB.prop,X.den,Z18k,Z18l,Z18e,Z18f,Z18i,Z18j,Z18g,Z18h,mkS,mkP,and_true,true_and,Z18p,Z18q,not_or,not_and,Z18m,ne_eq,Z18n,Z18o,Z6r,Z1h,dot,Nat.reduceAdd,Int.zero_add])
theorem Zvv:Z1i Zas Zvn:=⟨fun _ h=>h,fun vs xs h hp=>Z1 (Ze9 (by omega) (Zea h 0 9)) (Z1 (Ze9 (by omega) (Zea h 3 9)) (Z1 (Ze9 (by omega) (Zea h 6 9)) Z2))⟩
end Go.Proofs.Ytgcoidbaoigkeaa.fix
namespace Go.Proofs.Ytgcoidbaoigkeaa.fix
open Go.RowKit Go.Sx
theorem Z1k (xs:List Int) (h:Zq [some ⟨1,0⟩] xs):False:=by
 have h1:1≤xs.getD 0 0∧xs.getD 0 0≤0:=h.2 0
 omega
end Go.Proofs.Ytgcoidbaoigkeaa.fix
namespace Go.Proofs.Ytgcoidbaoigkeaa.fix
open Go.RowKit Go.Sx
end Go.Proofs.Ytgcoidbaoigkeaa.fix
namespace Go.Proofs.Ytgcoidbaoigkeaa.fix
open Go.RowKit Go.Sx
theorem Z11 {x:List Int} {o:Nat}:lensB x o=true↔((1≤x.getD o 0∧x.getD o 0≤64)∧(256≤x.getD (o + 1) 0∧x.getD (o + 1) 0≤4096)∧(1≤x.getD (o + 2) 0∧x.getD (o + 2) 0≤64)∧(1≤x.getD (o + 3) 0∧x.getD (o + 3) 0≤64)):=decide_eq_true_iff
noncomputable def Z9l:List Sum:=[]
def Zpr:List Inf:=[]
def Zhs:TX:=(.ite (.or (.or (.lt (.v 0) (.c (-4096))) (.lt (.c 4096) (.v 0))) (.or (.or (.lt (.v 1) (.c (-4096))) (.lt (.c 4096) (.v 1))) (.or (.or (.lt (.v 2) (.c (-4096))) (.lt (.c 4096) (.v 2))) (.or (.or (.lt (.v 12) (.c 1)) (.lt (.c 64) (.v 12))) (.or (.or (.lt (.v 13) (.c 256)) (.lt (.c 4096) (.v 13))) (.or (.or (.lt (.v 14) (.c 1)) (.lt (.c 64) (.v 14))) (.or (.or (.lt (.v 15) (.c 1)) (.lt (.c 64) (.v 15))) (.or (.or (.lt (.v 3) (.c (-256))) (.lt (.c 256) (.v 3))) (.or (.or (.lt (.v 4) (.c (-256))) (.lt (.c 256) (.v 4))) (.or (.or (.lt (.v 5) (.c (-256))) (.lt (.c 256) (.v 5))) (.or (.or (.lt (.v 6) (.c (-256))) (.lt (.c 256) (.v 6))) (.or (.or (.lt (.v 7) (.c (-256))) (.lt (.c 256) (.v 7))) (.or (.or (.lt (.v 8) (.c (-256))) (.lt (.c 256) (.v 8))) (.or (.or (.lt (.v 9) (.c (-256))) (.lt (.c 256) (.v 9))) (.or (.or (.lt (.v 10) (.c (-256))) (.lt (.c 256) (.v 10))) (.or (.lt (.v 11) (.c (-256))) (.lt (.c 256) (.v 11)))))))))))))))))) (.ret [(.c 150)])
(.ret [(.c 0)]))
theorem Znf:Z17 (Zu [] Zpr [] Zat (Zx Try.prog Zbe gl0 Z9l 1000 35 [An 16] [I1]))=Zhs:=by kernel_rfl
theorem Z10q:Gok Try.prog Z9l:=noG
theorem Z10r:Zr Z9l Zpr:=Za
theorem Zeb:Z4k.ok Try.prog:=Sum.okF facts.mixed Z10q Z10r Znf rfl (fun _=>rfl) (by
 intro xs hx hp
 obtain ⟨a0,a1,a2,a3,a4,a5,a6,a7,a8,a9,a10,a11,a12,a13,a14,a15,rfl⟩:=Znc hx
 by_cases hc0:Z4g [a0,a1,a2,a3,a4,a5,a6,a7,a8,a9,a10,a11,a12,a13,a14,a15] 0=true
 ·have hd0:=hc0
  try simp only [Z4g,Z66,Z11,Z18r,Zt,TX.sat,XB.prop,X.den,Z18k,Z18l,Z18e,Z18f,Z18i,Z18j,Z18g,Z18h,mkS,mkP,and_true,true_and,Z18p,Z18q,not_or,not_and,Z18m,ne_eq,Z18n,Z18o,Nat.reduceAdd,Nat.zero_add] at hd0
  simp only [Zhs,Z9l,TX.sat,XB.prop,X.den,Z18k,Z18l,Z18e,Z18f,Z18i,Z18j,Z18g,Z18h,mkS,mkP,and_true,true_and,Z18p,Z18q,not_or,not_and,Z18m,ne_eq,Z18n,Z18o,Z7n,hc0,ex3,ex4,ex5,ex6,Zkx,Zbk,er,b01,Ze,if_true,if_false,reduceIte,Bool.false_eq_true,Nat.reduceAdd,Nat.zero_add]
  clear hc0
  repeat' first | exact trivial | refine And.intro ?_ ?_ | intro _
  all_goals first | trivial | rfl | omega | (simp [Int.max_comm,Int.min_comm]; done) | (simp only [List.cons.injEq,and_true,true_and]; omega) | (split <;> first | trivial | rfl | omega)
 ·have hd0:=hc0
  try simp only [Z4g,Z66,Z11,Z18r,Zt,TX.sat,XB.prop,X.den,Z18k,Z18l,Z18e,Z18f,Z18i,Z18j,Z18g,Z18h,mkS,mkP,and_true,true_and,Z18p,Z18q,not_or,not_and,Z18m,ne_eq,Z18n,Z18o,Nat.reduceAdd,Nat.zero_add] at hd0
  simp only [Zhs,Z9l,TX.sat,XB.prop,X.den,Z18k,Z18l,Z18e,Z18f,Z18i,Z18j,Z18g,Z18h,mkS,mkP,and_true,true_and,Z18p,Z18q,not_or,not_and,Z18m,ne_eq,Z18n,Z18o,Z7n,hc0,ex3,ex4,ex5,ex6,Zkx,Zbk,er,b01,Ze,if_true,if_false,reduceIte,Bool.false_eq_true,Nat.reduceAdd,Nat.zero_add]
  clear hc0
  repeat' first | exact trivial | refine And.intro ?_ ?_ | intro _
  all_goals first | trivial | rfl | omega | (simp [Int.max_comm,Int.min_comm]; done) | (simp only [List.cons.injEq,and_true,true_and]; omega) | (split <;> first | trivial | rfl | omega))
theorem Zau:Z1i Z4k Zc2:=⟨fun _ h=>h,fun vs xs h hp=>Z1 (Zvo _ (by omega)) Z2⟩
noncomputable def Zgk:List Sum:=[Zas]
def Z145:List Inf:=[Zvn]
def Zps:TX:=(.ite (.or (.or (.lt (.v 0) (.c (-4096))) (.lt (.c 4096) (.v 0))) (.or (.or (.lt (.v 1) (.c (-4096))) (.lt (.c 4096) (.v 1))) (.or (.or (.lt (.v 2) (.c (-4096))) (.lt (.c 4096) (.v 2))) (.or (.or (.lt (.v 12) (.c 1)) (.lt (.c 64) (.v 12))) (.or (.or (.lt (.v 13) (.c 256)) (.lt (.c 4096) (.v 13))) (.or (.or (.lt (.v 14) (.c 1)) (.lt (.c 64) (.v 14))) (.or (.or (.lt (.v 15) (.c 1)) (.lt (.c 64) (.v 15))) (.or (.or (.lt (.v 3) (.c (-256))) (.lt (.c 256) (.v 3))) (.or (.or (.lt (.v 4) (.c (-256))) (.lt (.c 256) (.v 4))) (.or (.or (.lt (.v 5) (.c (-256))) (.lt (.c 256) (.v 5))) (.or (.or (.lt (.v 6) (.c (-256))) (.lt (.c 256) (.v 6))) (.or (.or (.lt (.v 7) (.c (-256))) (.lt (.c 256) (.v 7))) (.or (.or (.lt (.v 8) (.c (-256))) (.lt (.c 256) (.v 8))) (.or (.or (.lt (.v 9) (.c (-256))) (.lt (.c 256) (.v 9))) (.or (.or (.lt (.v 10) (.c (-256))) (.lt (.c 256) (.v 10))) (.or (.lt (.v 11) (.c (-256))) (.lt (.c 256) (.v 11)))))))))))))))))) (.ret [(.c 0),(.c 0),(.c 0),(.c 150)])
(.ite (.or (.or (.lt (.v 16) (.c (-4096))) (.lt (.c 4096) (.v 16))) (.or (.or (.lt (.v 17) (.c (-4096))) (.lt (.c 4096) (.v 17))) (.or (.lt (.v 18) (.c (-4096))) (.lt (.c 4096) (.v 18))))) (.ret [(.c 0),(.c 0),(.c 0),(.c 20)])
(.callp 0 [(.v 3),(.v 4),(.v 5),(.v 6),(.v 7),(.v 8),(.v 9),(.v 10),(.v 11),(.sub (.v 16) (.v 0)),(.sub (.v 17) (.v 1)),(.sub (.v 18) (.v 2))] (.ret [(.v 19),(.v 20),(.v 21),(.c 0)]))))
theorem Zvw:Z17 (Zu [] Z145 [] Zc4 (Zx Try.prog Zbe gl0 Zgk 1000 83 [An 16,An 3] [An 3,I1]))=Zps:=by kernel_rfl
theorem g_view:Gok Try.prog Zgk:=(fix.one Z10p)
theorem o_view:Zr Zgk Z145:=(Z3 Zvv Za)
theorem Z16c:Zgi.ok Try.prog:=Sum.okF facts.mixed g_view o_view Zvw rfl (fun _=>rfl) (by
 intro xs hx hp
 obtain ⟨a0,a1,a2,a3,a4,a5,a6,a7,a8,a9,a10,a11,a12,a13,a14,a15,a16,a17,a18,rfl⟩:=len19 hx
 by_cases hc0:Z4g [a0,a1,a2,a3,a4,a5,a6,a7,a8,a9,a10,a11,a12,a13,a14,a15,a16,a17,a18] 0=true
 ·by_cases hc1:Zhp 4096 [a0,a1,a2,a3,a4,a5,a6,a7,a8,a9,a10,a11,a12,a13,a14,a15,a16,a17,a18] 16=true
  ·have hd0:=hc0
   try simp only [Z4g,Z66,Z11,Z18r,Zt,TX.sat,XB.prop,X.den,Z18k,Z18l,Z18e,Z18f,Z18i,Z18j,Z18g,Z18h,mkS,mkP,and_true,true_and,Z18p,Z18q,not_or,not_and,Z18m,ne_eq,Z18n,Z18o,Nat.reduceAdd,Nat.zero_add] at hd0
   have hd1:=hc1
   try simp only [Z4g,Z66,Z11,Z18r,Zt,TX.sat,XB.prop,X.den,Z18k,Z18l,Z18e,Z18f,Z18i,Z18j,Z18g,Z18h,mkS,mkP,and_true,true_and,Z18p,Z18q,not_or,not_and,Z18m,ne_eq,Z18n,Z18o,Nat.reduceAdd,Nat.zero_add] at hd1
   simp only [Zps,Zgk,Zas,TX.sat,XB.prop,X.den,Z18k,Z18l,Z18e,Z18f,Z18i,Z18j,Z18g,Z18h,mkS,mkP,and_true,true_and,Z18p,Z18q,not_or,not_and,Z18m,ne_eq,Z18n,Z18o,Z6r,dot,Zma,Zc3,Zbs,hc0,hc1,ex3,ex4,ex5,ex6,Zkx,Zbk,er,b01,Ze,if_true,if_false,reduceIte,Bool.false_eq_true,Nat.reduceAdd,Nat.zero_add]
   clear hc0 hc1
   repeat' first | exact trivial | refine And.intro ?_ ?_ | intro _
   all_goals first | trivial | rfl | omega | (simp [Int.max_comm,Int.min_comm]; done) | (simp only [List.cons.injEq,and_true,true_and]; omega) | (split <;> first | trivial | rfl | omega)
  ·have hd0:=hc0
   try simp only [Z4g,Z66,Z11,Z18r,Zt,TX.sat,XB.prop,X.den,Z18k,Z18l,Z18e,Z18f,Z18i,Z18j,Z18g,Z18h,mkS,mkP,and_true,true_and,Z18p,Z18q,not_or,not_and,Z18m,ne_eq,Z18n,Z18o,Nat.reduceAdd,Nat.zero_add] at hd0
   have hd1:=hc1
   try simp only [Z4g,Z66,Z11,Z18r,Zt,TX.sat,XB.prop,X.den,Z18k,Z18l,Z18e,Z18f,Z18i,Z18j,Z18g,Z18h,mkS,mkP,and_true,true_and,Z18p,Z18q,not_or,not_and,Z18m,ne_eq,Z18n,Z18o,Nat.reduceAdd,Nat.zero_add] at hd1
   simp only [Zps,Zgk,Zas,TX.sat,XB.prop,X.den,Z18k,Z18l,Z18e,Z18f,Z18i,Z18j,Z18g,Z18h,mkS,mkP,and_true,true_and,Z18p,Z18q,not_or,not_and,Z18m,ne_eq,Z18n,Z18o,Z6r,dot,Zma,Zc3,Zbs,hc0,hc1,ex3,ex4,ex5,ex6,Zkx,Zbk,er,b01,Ze,if_true,if_false,reduceIte,Bool.false_eq_true,Nat.reduceAdd,Nat.zero_add]
   clear hc0 hc1
   repeat' first | exact trivial | refine And.intro ?_ ?_ | intro _
   all_goals first | trivial | rfl | omega | (simp [Int.max_comm,Int.min_comm]; done) | (simp only [List.cons.injEq,and_true,true_and]; omega) | (split <;> first | trivial | rfl | omega)
 ·have hd0:=hc0
  try simp only [Z4g,Z66,Z11,Z18r,Zt,TX.sat,XB.prop,X.den,Z18k,Z18l,Z18e,Z18f,Z18i,Z18j,Z18g,Z18h,mkS,mkP,and_true,true_and,Z18p,Z18q,not_or,not_and,Z18m,ne_eq,Z18n,Z18o,Nat.reduceAdd,Nat.zero_add] at hd0
  simp only [Zps,Zgk,Zas,TX.sat,XB.prop,X.den,Z18k,Z18l,Z18e,Z18f,Z18i,Z18j,Z18g,Z18h,mkS,mkP,and_true,true_and,Z18p,Z18q,not_or,not_and,Z18m,ne_eq,Z18n,Z18o,Z6r,dot,Zma,Zc3,Zbs,hc0,ex3,ex4,ex5,ex6,Zkx,Zbk,er,b01,Ze,if_true,if_false,reduceIte,Bool.false_eq_true,Nat.reduceAdd,Nat.zero_add]
  clear hc0
  repeat' first | exact trivial | refine And.intro ?_ ?_ | intro _
  all_goals first | trivial | rfl | omega | (simp [Int.max_comm,Int.min_comm]; done) | (simp only [List.cons.injEq,and_true,true_and]; omega) | (split <;> first | trivial | rfl | omega))
theorem Zng {x:List Int} {o p q:Nat} {m n:Int} (hm:0≤m) (hn:0≤n) (h1:Zhp m x o=true) (h2:Zhp n x p=true) (h3:Zhp n x q=true):-(3 * (m * (2 * n)))≤Zma x o p q∧Zma x o p q≤3 * (m * (2 * n)):=by
 rw [Zt] at h1 h2 h3
 have k1:=Z28 (n:=2 * n) (y:=x.getD p 0 - x.getD q 0) h1.1 (by omega)
 have k2:=Z28 (n:=2 * n) (y:=x.getD (p + 1) 0 - x.getD (q + 1) 0) h1.2.1 (by omega)
 have k3:=Z28 (n:=2 * n) (y:=x.getD (p + 2) 0 - x.getD (q + 2) 0) h1.2.2 (by omega)
 unfold Zma
 omega
theorem Zpt:Z1i Zgi Z144:=⟨fun _ h=>h,fun vs xs h hp=>by
 show Zq (ivs 3 (-24576) 24576++[iv 0 150]) (ex4 (Zbs xs))
 unfold Zbs
 split
 ·rename_i hc
  split
  ·rename_i hv
   simp only [Z4g,Z66,Z18r,Nat.reduceAdd] at hc
   obtain ⟨h0,⟨h1,h2,h3⟩,_⟩:=hc
   have k1:=Zng (by omega) (by omega) h1 hv h0
   have k2:=Zng (by omega) (by omega) h2 hv h0
   have k3:=Zng (by omega) (by omega) h3 hv h0
   exact Z1 (Zc.2 (by show _≤Zma xs 3 16 0 / 256∧Zma xs 3 16 0 / 256≤_; omega)) (Z1 (Zc.2 (by show _≤Zma xs 6 16 0 / 256∧Zma xs 6 16 0 / 256≤_; omega)) (Z1 (Zc.2 (by show _≤Zma xs 9 16 0 / 256∧Zma xs 9 16 0 / 256≤_; omega)) (Z1 (Zc.2 (by simp)) Z2)))
  ·exact Z1 (Zc.2 (by simp)) (Z1 (Zc.2 (by simp)) (Z1 (Zc.2 (by simp)) (Z1 (Zc.2 (by simp)) Z2)))
 ·exact Z1 (Zc.2 (by simp)) (Z1 (Zc.2 (by simp)) (Z1 (Zc.2 (by simp)) (Z1 (Zc.2 (by simp)) Z2)))⟩
theorem Z9m {x:List Int} (h:Z4g x 0=true):(1≤x.getD 12 0∧x.getD 12 0≤64)∧(256≤x.getD 13 0∧x.getD 13 0≤4096)∧(1≤x.getD 14 0∧x.getD 14 0≤64)∧(1≤x.getD 15 0∧x.getD 15 0≤64):=by
 simp only [Z4g,Z18r,Z11,Nat.reduceAdd,Nat.zero_add] at h
 exact h.2.2
theorem Zky {f n z:Int} (hf:0≤f∧f≤64) (hn:-32768≤n∧n≤32768) (hz:256≤z):-65536≤8 * f * n / z∧8 * f * n / z≤65536:=by
 have:=Z28 (x:=8 * f) (y:=n) (m:=512) (n:=32768) (by omega) hn
 constructor
 ·rw [Int.le_ediv_iff_mul_le (by omega)]
  omega
 ·apply Int.ediv_le_of_le_mul (by omega)
  omega
theorem Z10s {a b:Int} (hb:0 < b) (ha:0≤a):a.tdiv b=a / b:=Zdx hb (Int.tmod_nonneg b ha)
end Go.Proofs.Ytgcoidbaoigkeaa.fix
namespace Go.Proofs.Ytgcoidbaoigkeaa.fix
open Go.RowKit Go.Sx
def Bs:Sh:=⟨false,[.s 64 [.i .i64,.i .i64,.i .i64,.i .i64,.i .i64,.i .i64]]⟩
def Is:Sh:=⟨false,[.s 3 [.i .i64]]⟩
noncomputable def co (x:Int) (j:Nat):Int:=(dec x).getD j 0
end Go.Proofs.Ytgcoidbaoigkeaa.fix
namespace Go.Proofs.Ytgcoidbaoigkeaa.fix
open Go.RowKit Go.Sx
theorem Z24:dec (cod ([]:List Int))=[]:=Z4 _
theorem Zv {n:Nat} {xs:List Int} (h:xs.length=n):Zq (List.replicate n none) xs:=by
 refine ⟨by simp [h],fun i=>?_⟩
 have:(List.replicate n (none:Option Iv)).getD i none=none:=by
  simp only [List.getD,List.getElem?_replicate]
  split <;> rfl
 rw [this]
 trivial
theorem Z7o {p:Int→Bool} {l:List Int} {i:Nat} (h:∀ j,j < i→p (l.getD j 0)=true) (hi:l.length≤i):l.all p=true:=by
 rw [List.all_eq_true]
 intro x hx
 obtain ⟨j,hj,rfl⟩:=List.getElem_of_mem hx
 have:=h j (by omega)
 rwa [show l.getD j 0=l[j] by simp [List.getD,hj]] at this
theorem Zav {p:Int→Bool} {l:List Int} {i:Nat} (hi:i < l.length) (h:¬ p (l.getD i 0)=true):¬ l.all p=true:=by
 rw [List.all_eq_true]
 intro hh
 refine h (hh _ ?_)
 rw [show l.getD i 0=l[i] by simp [List.getD,hi]]
 exact List.getElem_mem hi
theorem Zy {l:List Int} {i:Nat} (hi:i < l.length):l.getD i 0 ∈ l:=by
 rw [show l.getD i 0=l[i] by simp [List.getD,hi]]
 exact List.getElem_mem hi
theorem zc (n:Int) (h:-9223372036854775808≤n) (h':n≤9223372036854775807):Zh zz n:=⟨h,h'⟩
end Go.Proofs.Ytgcoidbaoigkeaa.fix
namespace Go.Proofs.Ytgcoidbaoigkeaa.fix
open Go.RowKit Go.Sx
def Zz (x:List Int) (o:Nat):Bool:=Zhp 32768 x o && decide ((0≤x.getD (o + 3) 0∧x.getD (o + 3) 0≤255)∧(0≤x.getD (o + 4) 0∧x.getD (o + 4) 0≤255))
def Z29 (x:List Int):List Int:=[er (Zz x 0) 8]
def Zaw:=zs 5
def Zso (v:List (Option Iv)):List (Option Iv):=[iv 0 8]
def Z38:Sum:=mkS gl0 111 [An 5] [I1] Zaw Z29
def Zht:Inf:=⟨Zaw,Zso⟩
def Z9n (x:List Int):Bool:=decide (256≤x.getD 0 0∧x.getD 0 0≤4096)
def Z4p (x:List Int):Bool:=decide (x.getD 3 0 < x.getD 0 0∧x.getD 0 0≤x.getD 8 0)
def Z8o (x:List Int) (o:Nat):Int:=x.getD o 0 + (x.getD (o + 5) 0 - x.getD o 0) * (x.getD 0 0 - x.getD 3 0) / (x.getD 8 0 - x.getD 3 0)
def Z16d (x:List Int):List Int:=[Z8o x 1,Z8o x 2,x.getD 0 0,Z8o x 4,Z8o x 5,0]
def Zzf (x:List Int):List Int:=if Z9n x=true then if (Zz x 1 && Zz x 6)=true then if Z4p x=true then Z16d x else [0,0,0,0,0,6] else [0,0,0,0,0,8] else [0,0,0,0,0,2]
def Z8p (x:List Int):List Int:=ex6 (Zzf x)
def Znh:=zs 11
def Z16e (v:List (Option Iv)):List (Option Iv):=ivs 2 (-32768) 32768++[iv 0 4096]++ivs 2 0 255++[iv 0 8]
def Z10t:Sum:=mkS gl0 110 [I1,An 5,An 5] [An 5,I1] Znh Z8p
def i_cut:Inf:=⟨Znh,Z16e⟩
def U8:Sh:=⟨false,[.i .u8]⟩
def Vs:Sh:=⟨false,[.s 27 [.i .i64,.i .i64,.i .i64]]⟩
noncomputable def okP (x:Int):Bool:=decide ((-32768≤co x 0∧co x 0≤32768)∧(-32768≤co x 1∧co x 1≤32768)∧(-32768≤co x 2∧co x 2≤32768))
noncomputable def Zsp (b:List Int) (x:Int):List Int:=[min (b.getD 0 0) (co x 0),min (b.getD 1 0) (co x 1),min (b.getD 2 0) (co x 2),max (b.getD 3 0) (co x 0),max (b.getD 4 0) (co x 1),max (b.getD 5 0) (co x 2)]
noncomputable def boxV (x:Int):List Int:=[co x 0,co x 1,co x 2,co x 0,co x 1,co x 2]
noncomputable def Z55:List Int→List Int
 | []=>[0,0,0,0,0,0]
 | x::l=>l.foldl Zsp (boxV x)
noncomputable def Zvx (l:List Int):List Int:=if 1≤l.length∧l.length≤4096 then (if l.all okP=true then Z55 l++[0] else [0,0,0,0,0,0,20]) else [0,0,0,0,0,0,4]
noncomputable def Zhu (x:List Int):List Int:=ex7 (Zvx (dec (x.getD 0 0)))
def Z16f (v:List (Option Iv)):List (Option Iv):=ivs 6 (-32768) 32768++[iv 0 20]
noncomputable def Z10u:Sum:=mkS gl0 97 [Vs] [An 6,I1] [none] Zhu
def i_bof:Inf:=⟨[none],Z16f⟩
def Ts:Sh:=⟨false,[.s 162 (List.replicate 15 (.i .i64))]⟩
def Z6s (x:List Int) (i:Nat):List Int:=[x.getD (1 + 5 * i) 0,x.getD (2 + 5 * i) 0,x.getD (3 + 5 * i) 0,x.getD (4 + 5 * i) 0,x.getD (5 + 5 * i) 0]
def Z4l (x:List Int) (i:Nat):Bool:=decide (x.getD 0 0≤x.getD (3 + 5 * i) 0)
def Ztw (n:Int) (a b:List Int):List Int:=[Z8o (n::(a++b)) 1,Z8o (n::(a++b)) 2,n,Z8o (n::(a++b)) 4,Z8o (n::(a++b)) 5]
def Zni (x:List Int) (i j:Nat):List (List Int) :=
 if Z4l x i=true then (if Z4l x j=true then [Z6s x i] else [Z6s x i,Ztw (x.getD 0 0) (Z6s x j) (Z6s x i)])
 else (if Z4l x j=true then [Ztw (x.getD 0 0) (Z6s x i) (Z6s x j)] else [])
def Zkz (x:List Int):List (List Int):=Zni x 0 1++(Zni x 1 2++Zni x 2 0)
def Zec:List (List Int)→List (List Int)
 | p::q::r::l=>(p++(q++r))::Zec (p::r::l)
 | _=>[]
def nearT (x:List Int):Bool:=Zz x 1 && (Zz x 6 && Zz x 11)
noncomputable def Zvy (x:List Int):Int:=cod ((Zec (Zkz x)).map cod)
noncomputable def Z67 (x:List Int):List Int:=if Z9n x=true then (if nearT x=true then [Zvy x,0] else [cod [],8]) else [cod [],2]
noncomputable def Zl0 (x:List Int):List Int:=[(Z67 x).getD 0 0,(Z67 x).getD 1 0]
def Zvz (v:List (Option Iv)):List (Option Iv):=[none,iv 0 8]
noncomputable def Zhv:Sum:=mkS gl0 84 [I1,An 15] [Ts,I1] (zs 16) Zl0
def Zw0:Inf:=⟨(zs 16),Zvz⟩
def Zsq (x:List Int) (o:Nat):Bool:=decide ((-131072≤x.getD o 0∧x.getD o 0≤131072)∧(-131072≤x.getD (o + 1) 0∧x.getD (o + 1) 0≤131072)∧(1≤x.getD (o + 2) 0∧x.getD (o + 2) 0≤65536) ∧
 (0≤x.getD (o + 3) 0∧x.getD (o + 3) 0≤255)∧(0≤x.getD (o + 4) 0∧x.getD (o + 4) 0≤255))
def Z7p (x:List Int):Bool:=Zsq x 0 && (Zsq x 5 && Zsq x 10)
def Z19 (x:List Int):Int:=(x.getD 5 0 - x.getD 0 0) * (x.getD 11 0 - x.getD 1 0) - (x.getD 10 0 - x.getD 0 0) * (x.getD 6 0 - x.getD 1 0)
def Zhw (x:List Int):List Int:=if Z7p x=true then [Z19 x,0] else [0,8]
def Z9o (x:List Int):List Int:=[(Zhw x).getD 0 0,(Zhw x).getD 1 0]
def Zhx:=zs 15
def Z10v (v:List (Option Iv)):List (Option Iv):=[iv (-137438953472) 137438953472,iv 0 8]
def Zgl:Sum:=mkS gl0 113 [An 15] [I1,I1] Zhx Z9o
def Zw1:Inf:=⟨Zhx,Z10v⟩
def Z4m (x:List Int):List Int:=if Z7p x=true then if x.getD 15 0=0 then [b01 (decide (Z19 x ≠ 0)),0] else if x.getD 15 0=1 then [b01 (decide (0 < Z19 x)),0] else if x.getD 15 0=2 then [b01 (decide (Z19 x < 0)),0] else [0,2] else [0,8]
def Zl1 (x:List Int):List Int:=[(Z4m x).getD 0 0,(Z4m x).getD 1 0]
def Zed:=zs 15++[iv 0 255]
def Zw2 (v:List (Option Iv)):List (Option Iv):=[iv 0 1,iv 0 8]
def Zee:Sum:=mkS gl0 86 [An 15,U8] [Bo,I1] Zed Zl1
def Zw3:Inf:=⟨Zed,Zw2⟩
def Zw4 (x:List Int):List Int:=[x.getD 0 0,x.getD 1 0,x.getD 2 0,x.getD 3 0,x.getD 4 0,x.getD 10 0,x.getD 11 0,x.getD 12 0,x.getD 13 0,x.getD 14 0,x.getD 5 0,x.getD 6 0,x.getD 7 0,x.getD 8 0,x.getD 9 0,0]
def idT (x:List Int):List Int:=[x.getD 0 0,x.getD 1 0,x.getD 2 0,x.getD 3 0,x.getD 4 0,x.getD 5 0,x.getD 6 0,x.getD 7 0,x.getD 8 0,x.getD 9 0,x.getD 10 0,x.getD 11 0,x.getD 12 0,x.getD 13 0,x.getD 14 0,0]
def z16 (e:Int):List Int:=[0,0,0,0,0,0,0,0,0,0,0,0,0,0,0,e]
def Z9p (x:List Int):List Int:=if Z7p x=true then if Z19 x=0 then z16 6 else if Z19 x < 0 then Zw4 x else idT x else z16 8
def Zl2 (x:List Int):List Int:=Zbk (Z9p x)
def Z9q:=zs 15
def Zef (v:List (Option Iv)):List (Option Iv):=(ivs 2 (-131072) 131072++[iv 0 65536]++ivs 2 0 255)++(ivs 2 (-131072) 131072++[iv 0 65536]++ivs 2 0 255)++(ivs 2 (-131072) 131072++[iv 0 65536]++ivs 2 0 255)++[iv 0 8]
def Zhy:Sum:=mkS gl0 87 [An 15] [An 15,I1] Z9q Zl2
def Zw5:Inf:=⟨Z9q,Zef⟩
def Z86 (x:List Int):List Int:=if Z4g x 0=true then if Zz x 16=true then if x.getD 18 0 < x.getD 13 0 then [0,0,0,0,0,6] else
 [8 * x.getD 12 0 * x.getD 16 0 / x.getD 18 0 + 4 * x.getD 14 0,4 * x.getD 15 0 - 8 * x.getD 12 0 * x.getD 17 0 / x.getD 18 0,(16777216:Int).tdiv (x.getD 18 0),x.getD 19 0,x.getD 20 0,0] else [0,0,0,0,0,8] else [0,0,0,0,0,150]
def Z6t (x:List Int):List Int:=ex6 (Z86 x)
def Z47:=zs 21
def Z9r (v:List (Option Iv)):List (Option Iv):=ivs 2 (-65792) 65792++[iv 0 65536]++ivs 2 0 255++[iv 0 150]
def Z4q:Sum:=mkS gl0 85 [An 16,An 5] [An 5,I1] Z47 Z6t
def Zw6:Inf:=⟨Z47,Z9r⟩
def pixB (x:List Int) (o:Nat):Bool:=decide (0≤x.getD o 0∧x.getD o 0 < 64∧0≤x.getD (o + 1) 0∧x.getD (o + 1) 0 < 64)
def wgt (x:List Int) (a b p:Nat):Int:=(x.getD b 0 - x.getD a 0) * (8 * x.getD (p + 1) 0 + 4 - x.getD (a + 1) 0) - (8 * x.getD p 0 + 4 - x.getD a 0) * (x.getD (b + 1) 0 - x.getD (a + 1) 0)
def Z48 (x:List Int):Int:=if Z7p x=true then if 0 < Z19 x then 0 else 6 else 8
def Z2y (x:List Int):List Int:=if Z48 x=0 then if pixB x 15=true then [wgt x 5 10 15,wgt x 10 0 15,wgt x 0 5 15,0] else [0,0,0,2] else [0,0,0,Z48 x]
def Z56 (x:List Int):List Int:=ex4 (Z2y x)
def Zeg:=zs 17
def Zw7 (v:List (Option Iv)):List (Option Iv):=ivs 3 (-137438953472) 137438953472++[iv 0 8]
def Zhz:Sum:=mkS gl0 115 [An 15,I1,I1] [An 3,I1] Zeg Z56
def Zw8:Inf:=⟨Zeg,Zw7⟩
def ownsB (x:List Int) (a b:Nat):Bool:=decide (x.getD (b + 1) 0 < x.getD (a + 1) 0∨(x.getD (b + 1) 0=x.getD (a + 1) 0∧x.getD a 0 < x.getD b 0))
def Z10w (x:List Int) (a b p:Nat):Bool:=decide (0 < wgt x a b p∨(wgt x a b p=0∧ownsB x a b=true))
def Ztx (x:List Int):Bool:=Z10w x 5 10 15 && (Z10w x 10 0 15 && Z10w x 0 5 15)
def Z6u (x:List Int):List Int:=if (Z2y x).getD 3 0=0 then [b01 (Ztx x),0] else [0,(Z2y x).getD 3 0]
def Z57 (x:List Int):List Int:=[(Z6u x).getD 0 0,(Z6u x).getD 1 0]
def Zax:=zs 17
def Zsr (v:List (Option Iv)):List (Option Iv):=[iv 0 1,iv 0 8]
def Z7q:Sum:=mkS gl0 114 [An 15,I1,I1] [Bo,I1] Zax Z57
def Zpu:Inf:=⟨Zax,Zsr⟩
def Z58 (x:List Int):Int:=wgt x 5 10 15 * x.getD 2 0 + wgt x 10 0 15 * x.getD 7 0 + wgt x 0 5 15 * x.getD 12 0
def Znj (x:List Int) (o:Nat):Int:=wgt x 5 10 15 * x.getD 2 0 * x.getD o 0 + wgt x 10 0 15 * x.getD 7 0 * x.getD (o + 5) 0 + wgt x 0 5 15 * x.getD 12 0 * x.getD (o + 10) 0
def atL (x:List Int):List Int:=if (Z2y x).getD 3 0=0 then if Ztx x=true then [8 * x.getD 15 0 + 4,8 * x.getD 16 0 + 4,Z58 x / Z19 x,Znj x 3 / Z58 x,Znj x 4 / Z58 x,0] else [0,0,0,0,0,6] else [0,0,0,0,0,(Z2y x).getD 3 0]
def Z9s (x:List Int):List Int:=ex6 (atL x)
def Zc6:=zs 17
def Zi0 (v:List (Option Iv)):List (Option Iv):=ivs 2 0 511++[iv 0 65536]++ivs 2 0 255++[iv 0 8]
def Z9t:Sum:=mkS gl0 88 [An 15,I1,I1] [An 5,I1] Zc6 Z9s
def Zpv:Inf:=⟨Zc6,Zi0⟩
end Go.Proofs.Ytgcoidbaoigkeaa.fix
namespace Go.Sx
open Go.RowKit
def elTy (P:Program) (ty:TypeId):Option (TypeId × List K):=match P.underlying ty with
 | some (.slice e)=>(Zze P 8 e).map fun ks=>(e,ks)
 | _=>none
def Zl3 (l:List Oper) (root:Tmp→Option Nat):Nat→Tmp→Option Nat
 | 0,_=>none
 | f + 1,t=>match Z7m l t with
  | none=>root t
  | some o=>(match o.op with
   | .fieldAddr _ (.tmp u) _=>Zl3 l root f u
   | .indexAddr _ (.tmp u) _=>Zl3 l root f u
   | .nilCheck (.tmp u)=>Zl3 l root f u
   | .move (.tmp u)=>Zl3 l root f u
   | _=>none)
def Z7r (P:Program) (l:List Oper) (root:Tmp→Option Nat):List Oper→List (Nat × Option (TypeId × List K))
 | []=>[]
 | o::r=>match o.op with
  | .store ty (.tmp t) _=>(match Zl3 l root 8 t with
   | some n=>(n,elTy P ty)::Z7r P l root r
   | none=>Z7r P l root r)
  | _=>Z7r P l root r
def Z16g (l:List Oper) (s:St):Nat→Tmp→Option (FuncId × List (Nat × Nat))
 | 0,_=>none
 | f + 1,t=>match Z7m l t with
  | none=>(match s.fr.getD t Z5 with
   | .w (.o (.f fn caps))=>some (fn,caps)
   | _=>none)
  | some o=>(match o.op with
   | .move (.tmp u)=>Z16g l s f u
   | .assign (.tmp u)=>Z16g l s f u
   | _=>none)
def Z2h (P:Program) (l:List Oper) (s:St):List Oper→List (Nat × Option (TypeId × List K))
 | []=>[]
 | o::r=>match o.op with
  | .call c=>(match c.callee with
   | .value (.tmp t)=>(match Z16g l s 8 t with
    | some (fn,caps)=>(match P.funcs[fn]? with
     | some F=>(match F.body with
      | some b=>Z7r P (Z3k b) (fun u=>(caps[u - F.params.size]?).map (·.1)) (Z3k b)++Z2h P l s r
      | none=>Z2h P l s r)
     | none=>Z2h P l s r)
    | none=>Z2h P l s r)
   | _=>Z2h P l s r)
  | _=>Z2h P l s r
def Zpw (s:St) (rw:List Nat) (ws:List (Nat × Option (TypeId × List K))):Nat→List Blk→List (List Ck)
 | _,[]=>[]
 | n,b::bs=>(if ws.any (fun w=>w.1 == n) then b.cells.map (Z2r s ((ws.filter fun w=>w.1 == n).findSome? (·.2))) else b.cells.map fun c=>match c with
  | .go (.o m)=>if rw.contains m then Z2r s none c else Ck.keep
  | _=>Ck.keep)::Zpw s rw ws (n + 1) bs
def Zw9 (P:Program) (s:St) (body:Code):Zai :=
 let l:=Z3k body
 let rw:=Z33 l s l
 let ws:=Z7r P l (fun t=>match s.fr.getD t Z5 with
  | .w (.o (.p n _))=>some n
  | _=>none) l++Z2h P l s l
 ⟨Zpm P l s rw 0 s.fr,Zpw s rw ws 0 s.mem⟩
def Znk (P:Program) (ks:List (Nat × Nat)):St→Code→Option Zai:=fun s body =>
 if ks.contains (Ze5 body) then some (Zw9 P s body) else none
end Go.Sx
namespace Go.Proofs.Ytgcoidbaoigkeaa.fix
open Go.RowKit Go.Sx
def Z5r:List K:=[.i .i64,.i .i64,.i .i64]
def Zwa:List K:=[.i .i64,.i .i64]
def Zss:List K:=[.i .u8,.i .u8,.i .u8,.i .u8]
def Lk_ks:List K:=[.i .u8,.i .u8,.i .u8,.i .u8,.i .i64,.i .u8,.i .i64,.b,.i .i64]
def Z3d:List K:=[.s 27 Z5r,.s 149 Zwa,.s 28 Z5r,.i .u8,.i .u8,.i .u8,.i .u8,.i .i64,.i .u8,.i .i64,.b,.i .i64,.i .i64,.i .i64,.i .i64,.i .i64,.i .i64,.i .i64]
def Z68:List K:=[.i .i64,.i .i64,.s 33 Zss]
def Lk:Sh:=⟨true,Lk_ks⟩
def It:Sh:=⟨true,Z3d⟩
def Tx:Sh:=⟨true,Z68⟩
def Txs:Sh:=⟨false,[.s 89 Z68]⟩
def Sho:Sh:=⟨true,[.s 83 Z3d,.s 89 Z68]⟩
def Ss:Sh:=⟨false,[.s 125 (List.replicate 15 (.i .i64))]⟩
def Z6v:List K:=[.i .i64,.i .i64,.i .i64,.i .i64,.i .i64,.i .i64]
noncomputable def Zfs (w h c:Int):Bool:=decide ((0 < w∧w≤16)∧(0 < h∧h≤16)∧((dec c).length:Int)=w * h)
noncomputable def Zc7 (x:List Int):List Int:=[er (Zfs (x.getD 0 0) (x.getD 1 0) (x.getD 2 0)) 8]
def Zi1:List (Option Iv):=[zz,zz,none]
def Z10x (v:List (Option Iv)):List (Option Iv):=[iv 0 8]
noncomputable def Zgm:Sum:=mkS gl0 94 [Tx] [I1] Zi1 Zc7
def Zwb:Inf:=⟨Zi1,Z10x⟩
noncomputable def texB (x:Int):Bool:=Zfs (co x 0) (co x 1) (ctN (co x 2))
noncomputable def Zeh (l:List Int):Int:=if l.length≤16 then (if l.all texB=true then 0 else 8) else 4
noncomputable def Zc8 (x:List Int):List Int:=[Zeh (dec (x.getD 0 0))]
def Zi2:List (Option Iv):=[none]
def Zpx (x:List Int):Prop:=Zq Zi2 x∧∀ b ∈ dec (x.getD 0 0),Zd Z68 (dec b)
def Z10y (v:List (Option Iv)):List (Option Iv):=[iv 0 8]
noncomputable def Zgn:Sum:=mkP gl0 62 [Txs] [I1] Zpx Zc8
def Zwc:Inf:=⟨[some ⟨1,0⟩],Z10y⟩
def Zay (x:List Int):Bool:=decide ((-1≤x.getD 4 0∧x.getD 4 0 < x.getD 9 0)∧x.getD 5 0≤2∧(-1024≤x.getD 6 0∧x.getD 6 0≤1024)∧(0≤x.getD 8 0∧x.getD 8 0≤15))
def Z7s (x:List Int):List Int:=[if 0≤x.getD 9 0∧x.getD 9 0≤16 then er (Zay x) 8 else 2]
def Zaz:List (Option Iv):=ivs 4 0 255++[zz,iv 0 255,zz,iv 0 1,zz,zz]
def Zst (v:List (Option Iv)):List (Option Iv):=[iv 0 8]
def Z7t:Sum:=mkS gl0 96 [Lk,I1] [I1] Zaz Z7s
def Zi3:Inf:=⟨Zaz,Zst⟩
noncomputable def okW (v:Int):Bool:=Zhp 4096 [co v 0,co v 1,co v 2] 0
noncomputable def uvB (u:Int):Bool:=decide ((0≤co u 0∧0≤co u 1)∧(co u 0≤255∧co u 1≤255))
noncomputable def Zwd (n:Nat) (t:Int):Bool:=decide ((0≤co t 0∧0≤co t 1∧0≤co t 2)∧(co t 0 < n∧co t 1 < n∧co t 2 < n))
def Z16h (x:List Int):Bool:=decide (0≤x.getD 18 0∧x.getD 18 0≤16) && Zay [x.getD 3 0,x.getD 4 0,x.getD 5 0,x.getD 6 0,x.getD 7 0,x.getD 8 0,x.getD 9 0,x.getD 10 0,x.getD 11 0,x.getD 18 0]
noncomputable def Z10z (V:List Int) (x:List Int):Bool:=decide ([x.getD 12 0,x.getD 13 0,x.getD 14 0,x.getD 15 0,x.getD 16 0,x.getD 17 0]=Z55 V)
noncomputable def Zty (x:List Int):Bool :=
 decide ((dec (x.getD 0 0)).length≤64∧(dec (x.getD 1 0)).length=(dec (x.getD 0 0)).length∧(dec (x.getD 2 0)).length≤64) && (Z16h x &&
 ((dec (x.getD 0 0)).all okW && ((dec (x.getD 1 0)).all uvB && ((dec (x.getD 2 0)).all (Zwd (dec (x.getD 0 0)).length) && Z10z (dec (x.getD 0 0)) x))))
noncomputable def Zi4 (x:List Int):List Int:=[b01 (Zty x)]
def Zi5:List (Option Iv):=[none,none,none]++ivs 4 0 255++[zz,iv 0 255,zz,iv 0 1,zz]++zs 7
def Z110 (x:List Int):Prop:=Zq Zi5 x∧∀ v ∈ dec (x.getD 0 0),Zd Z5r (dec v)
def Z111 (v:List (Option Iv)):List (Option Iv):=[iv 0 1]
noncomputable def Zpy:Sum:=mkP gl0 65 [It,I1] [Bo] Z110 Zi4
def Z146:Inf:=⟨[some ⟨1,0⟩],Z111⟩
noncomputable def Zb0 (b n:Int):List Int:=[ctN (co b 0),ctN (co b 1),ctN (co b 2),co b 3,co b 4,co b 5,co b 6,co b 7,co b 8,co b 9,co b 10,co b 11,co b 12,co b 13,co b 14,co b 15,co b 16,co b 17,n]
noncomputable def Z3e (x:List Int):Int :=
 if (dec (x.getD 0 0)).length≤256∧(dec (x.getD 1 0)).length≤16 then
  (if Zeh (dec (x.getD 1 0))=0∧(dec (x.getD 0 0)).all (fun b=>Zty (Zb0 b (dec (x.getD 1 0)).length))=true then 0 else 8)
 else 4
noncomputable def Zgo (x:List Int):List Int:=[Z3e x]
def Zb1:List (Option Iv):=[none,none]
def Z49 (I T:List Int):Prop:=(∀ b ∈ I,Zd Z3d (dec b)∧(∀ v ∈ dec (ctN (co b 0)),Zd Z5r (dec v))∧(∀ v ∈ dec (ctN (co b 1)),Zd Zwa (dec v))∧(∀ v ∈ dec (ctN (co b 2)),Zd Z5r (dec v)))∧(∀ b ∈ T,Zd Z68 (dec b))
def Zsu (x:List Int):Prop:=Zq Zb1 x∧Z49 (dec (x.getD 0 0)) (dec (x.getD 1 0))
def Zsv (v:List (Option Iv)):List (Option Iv):=[iv 0 8]
noncomputable def Z3q:Sum:=mkP gl0 34 [Sho] [I1] Zsu Zgo
def Zi6:Inf:=⟨[some ⟨1,0⟩],Zsv⟩
noncomputable def Zk (b:Int):List Int:=dec (ctN (co b 0))
noncomputable def Zbt (b:Int):List Int:=dec (ctN (co b 1))
noncomputable def Z1p (b:Int):List Int:=dec (ctN (co b 2))
noncomputable def Z3r (c:List Int) (v:Int):List Int:=Zbs (c++[co v 0,co v 1,co v 2])
noncomputable def Zi7 (c:List Int) (b n:Int):List Int:=[(Z3r c ((Zk b).getD n.toNat 0)).getD 0 0,(Z3r c ((Zk b).getD n.toNat 0)).getD 1 0,(Z3r c ((Zk b).getD n.toNat 0)).getD 2 0,co ((Zbt b).getD n.toNat 0) 0,co ((Zbt b).getD n.toNat 0) 1]
noncomputable def Znl (c:List Int) (b t:Int):List Int:=Zi7 c b (co t 0)++(Zi7 c b (co t 1)++Zi7 c b (co t 2))
noncomputable def Znm (c:List Int) (b t:Int):List Int:=dec ((Z67 (c.getD 13 0::Znl c b t)).getD 0 0)
noncomputable def Zl4 (c:List Int) (l:Int) (o:Nat):List Int:=Z86 (c++[co l o,co l (o + 1),co l (o + 2),co l (o + 3),co l (o + 4)])
noncomputable def five (l:List Int):List Int:=[l.getD 0 0,l.getD 1 0,l.getD 2 0,l.getD 3 0,l.getD 4 0]
noncomputable def Zl5 (c:List Int) (l:Int):List Int:=five (Zl4 c l 0)++(five (Zl4 c l 5)++five (Zl4 c l 10))
def Z112 (l:List Int):List Int:=[l.getD 0 0,l.getD 1 0,l.getD 2 0,l.getD 3 0,l.getD 4 0,l.getD 5 0,l.getD 6 0,l.getD 7 0,l.getD 8 0,l.getD 9 0,l.getD 10 0,l.getD 11 0,l.getD 12 0,l.getD 13 0,l.getD 14 0]
noncomputable def Zi8 (c:List Int) (cull l:Int):Option Int:=if (Z4m (Zl5 c l++[cull])).getD 0 0=1 then some (cod (Z112 (Z9p (Zl5 c l)))) else none
noncomputable def Z5z (c:List Int) (b t:Int):List Int:=(Znm c b t).filterMap (Zi8 c (co b 8))
noncomputable def Zl6 (I c:List Int) (i k:Int):List Int:=Z5z c (I.getD i.toNat 0) ((Z1p (I.getD i.toNat 0)).getD k.toNat 0)
noncomputable def Zwe (x:List Int):List Int:=[cod (Zl6 (dec (x.getD 0 0)) ((x.drop 2).take 16) (x.getD 18 0) (x.getD 19 0))]
def Zl7:List (Option Iv):=[none,none]++zs 18
def Zwf (x:List Int):Prop:=Zq Zl7 x∧Z49 (dec (x.getD 0 0)) (dec (x.getD 1 0))∧(0≤x.getD 18 0∧x.getD 18 0 < (dec (x.getD 0 0)).length∧0≤x.getD 19 0∧x.getD 19 0 < (Z1p ((dec (x.getD 0 0)).getD (x.getD 18 0).toNat 0)).length) ∧
 Z3e [x.getD 0 0,x.getD 1 0]=0∧Z4g ((x.drop 2).take 16) 0=true
def Zwg (v:List (Option Iv)):List (Option Iv):=[none]
noncomputable def Zb2:Sum:=mkP gl0 52 [Sho,An 16,I1,I1] [Ss] Zwf Zwe
def Zwh:Inf:=⟨[some ⟨1,0⟩],Zwg⟩
noncomputable def Z1q (p:Int):List Int:=[co p 0,co p 1,co p 2,co p 3,co p 4,co p 5,co p 6,co p 7,co p 8,co p 9,co p 10,co p 11,co p 12,co p 13,co p 14]
noncomputable def Z69 (b:Int) (i k n:Nat) (p:Int):Int:=cod (Z1q p++[co b 9,(i:Int),(k:Int),(n:Int),0,0])
noncomputable def Z3l (b:Int) (i k:Nat) (P:List Int):Nat→List Int
 | 0=>[]
 | n + 1=>Z3l b i k P n++[Z69 b i k n (P.getD n 0)]
noncomputable def Zpz (l:List Int) (pt:Nat→Nat→List Int) (i:Nat):Nat→List Int
 | 0=>[]
 | k + 1=>Zpz l pt i k++Z3l (l.getD i 0) i k (pt i k) (pt i k).length
noncomputable def Z6a (l:List Int) (pt:Nat→Nat→List Int):Nat→List Int
 | 0=>[]
 | i + 1=>Z6a l pt i++Zpz l pt i (Z1p (l.getD i 0)).length
noncomputable def ptS (l c:List Int) (i k:Nat):List Int:=Z5z c (l.getD i 0) ((Z1p (l.getD i 0)).getD k 0)
noncomputable def Z2s (l c:List Int):List Int:=Z6a l (ptS l c) l.length
noncomputable def Z2t (x y p:Int):Option Int :=
 if (atL (Z1q p++[x,y])).getD 5 0=0 then some (cod [IntKind.i64.wrap (co p 15 + (atL (Z1q p++[x,y])).getD 2 0),co p 16,co p 17,co p 18,(atL (Z1q p++[x,y])).getD 3 0,(atL (Z1q p++[x,y])).getD 4 0]) else none
end Go.Proofs.Ytgcoidbaoigkeaa.fix
namespace Go.Proofs.Ytgcoidbaoigkeaa.fix
open Go.RowKit Go.Sx
def Zi9 (x:List Int):List Int:=[if x.getD 0 0 < x.getD 1 0 then -1 else if x.getD 1 0 < x.getD 0 0 then 1 else 0]
def Zia:List (Option Iv):=zs 2
def Z113 (v:List (Option Iv)):List (Option Iv):=[iv (-1) 1]
def Zq0:Sum:=mkS gl0 60 [I1,I1] [I1] Zia Zi9
def Z147:Inf:=⟨Zia,Z113⟩
def Z9u:List Int→Int
 | []=>0
 | x::l=>if x=0 then Z9u l else x
noncomputable def Znn (x:List Int):List Int:=[Z9u (dec (x.getD 0 0))]
def Zwi:List (Option Iv):=[none]
def Z16i (x:List Int):Prop:=Zq Zwi x∧(dec (x.getD 0 0)).length≤1000
def Z16j (v:List (Option Iv)):List (Option Iv):=[none]
noncomputable def Z114:Sum:=mkP gl0 89 [Is] [I1] Z16i Znn
def i_orI:Inf:=⟨[some ⟨1,0⟩],Z16j⟩
def Zei (x:List Int):Bool:=decide (x.getD 6 0 < x.getD 0 0∨(x.getD 6 0=x.getD 0 0∧(x.getD 1 0 < x.getD 7 0∨(x.getD 1 0=x.getD 7 0∧(x.getD 2 0 < x.getD 8 0∨(x.getD 2 0=x.getD 8 0∧x.getD 3 0 < x.getD 9 0))))))
def Zgp (x:List Int):List Int:=[b01 (Zei x)]
def Zb3:List (Option Iv):=zs 12
def Zsw (v:List (Option Iv)):List (Option Iv):=[iv 0 1]
def Zc9:Sum:=mkS gl0 55 [An 6,An 6] [Bo] Zb3 Zgp
def Zq1:Inf:=⟨Zb3,Zsw⟩
noncomputable def Z1d (l acc:List Int) (f:Int):List Int :=
 if co (l.getD (co f 1).toNat 0) 10=0∧(acc.getD 6 0=0∨Zei [co f 0,co f 1,co f 2,co f 3,co f 4,co f 5,acc.getD 0 0,acc.getD 1 0,acc.getD 2 0,acc.getD 3 0,acc.getD 4 0,acc.getD 5 0]=true) then [co f 0,co f 1,co f 2,co f 3,co f 4,co f 5,1] else acc
def Zq2:List Int:=[-2048,-1,-1,0,0,0,0]
end Go.Proofs.Ytgcoidbaoigkeaa.fix
namespace Go.Proofs.Ytgcoidbaoigkeaa.fix
open Go.RowKit Go.Sx
theorem Zl8:∀ {ks:List K} {xs:List Int} {j:Nat} {k:K},Zd ks xs→ks[j]?=some k→inK k (xs.getD j 0)
 | k::ks,x::xs,0,k',h,hk=>by
  simp only [Z18e,Option.some.injEq] at hk
  subst hk
  exact h.1
 | k::ks,x::xs,j + 1,k',h,hk=>by
  simp only [Z18f] at hk
  show inK k' (xs.getD j 0)
  exact Zl8 h.2 hk
 | [],[],_,_,_,hk=>by simp at hk
 | [],_::_,_,_,h,_=>h.elim
 | _::_,[],_,_,h,_=>h.elim
def Cl:Sh:=⟨true,Zss⟩
def u8m (a b:Int):Int:=IntKind.u8.wrap ((a * b).tdiv 255)
def Zno (x:List Int):List Int:=[u8m (x.getD 0 0) (x.getD 4 0),u8m (x.getD 1 0) (x.getD 5 0),u8m (x.getD 2 0) (x.getD 6 0),u8m (x.getD 3 0) (x.getD 7 0)]
def Znp:List (Option Iv):=ivs 8 0 255
def Z16k (v:List (Option Iv)):List (Option Iv):=ivs 4 0 255
def Z115:Sum:=mkS gl0 117 [Cl,Cl] [Cl] Znp Zno
def i_mix:Inf:=⟨Znp,Z16k⟩
def layV (a x y:Int):Int:=IntKind.u8.wrap ((x * a + y * (255 - a)).tdiv 255)
def Z7u (x:List Int):List Int:=[layV (x.getD 3 0) (x.getD 0 0) (x.getD 4 0),layV (x.getD 3 0) (x.getD 1 0) (x.getD 5 0),layV (x.getD 3 0) (x.getD 2 0) (x.getD 6 0),layV (x.getD 3 0) 255 (x.getD 7 0)]
def Zib:List (Option Iv):=ivs 8 0 255
def Z116 (v:List (Option Iv)):List (Option Iv):=ivs 4 0 255
def Zq3:Sum:=mkS gl0 61 [Cl,Cl] [Cl] Zib Z7u
def Z148:Inf:=⟨Zib,Z116⟩
def Zzg (u v:Int):Bool:=decide ((0≤u∧0≤v)∧(u≤255∧v≤255))
noncomputable def txlV (w h c u v:Int):Int:=(dec c).getD ((v * h).tdiv 256 * w + (u * w).tdiv 256).toNat 0
noncomputable def tatL (w h c u v:Int):List Int :=
 if Zfs w h c=true then (if Zzg u v=true then [co (txlV w h c u v) 0,co (txlV w h c u v) 1,co (txlV w h c u v) 2,co (txlV w h c u v) 3,0] else [0,0,0,0,2]) else [0,0,0,0,8]
noncomputable def Znq (x:List Int):List Int:=ex5 (tatL (x.getD 0 0) (x.getD 1 0) (x.getD 2 0) (x.getD 3 0) (x.getD 4 0))
def Znr:List (Option Iv):=[zz,zz,none,zz,zz]
def Z16l (x:List Int):Prop:=Zq Znr x∧∀ e ∈ dec (x.getD 2 0),Zd Zss (dec e)
def Z16m (v:List (Option Iv)):List (Option Iv):=ivs 4 0 255++[iv 0 8]
noncomputable def Z117:Sum:=mkP gl0 116 [Tx,I1,I1] [Cl,I1] Z16l Znq
def i_tat:Inf:=⟨[some ⟨1,0⟩],Z16m⟩
def Z9v (T:List Int):Prop:=∀ b ∈ T,∀ e ∈ dec (ctN (co b 2)),Zd Zss (dec e)
def mixT (x R:List Int):List Int:=Zno [x.getD 0 0,x.getD 1 0,x.getD 2 0,x.getD 3 0,R.getD 0 0,R.getD 1 0,R.getD 2 0,R.getD 3 0]++[R.getD 4 0]
noncomputable def Z87 (x:List Int) (T:List Int) (u v:Int):List Int :=
 if Zeh T=0 then
  (if Zay [x.getD 0 0,x.getD 1 0,x.getD 2 0,x.getD 3 0,x.getD 4 0,x.getD 5 0,x.getD 6 0,x.getD 7 0,x.getD 8 0,(T.length:Int)]=true then
   (if Zzg u v=true then
    (if x.getD 4 0 < 0 then [x.getD 0 0,x.getD 1 0,x.getD 2 0,x.getD 3 0,0]
    else mixT x (tatL (co (T.getD (x.getD 4 0).toNat 0) 0) (co (T.getD (x.getD 4 0).toNat 0) 1) (ctN (co (T.getD (x.getD 4 0).toNat 0) 2)) u v))
   else [0,0,0,0,2])
  else [0,0,0,0,8])
 else [0,0,0,0,Zeh T]
def Zwj (x:List Int):List Int:=[x.getD 0 0,x.getD 1 0,x.getD 2 0,x.getD 3 0,x.getD 4 0,x.getD 5 0,x.getD 6 0,x.getD 7 0,x.getD 8 0]
noncomputable def Zej (x:List Int):List Int:=ex5 (Z87 (Zwj x) (dec (x.getD 9 0)) (x.getD 10 0) (x.getD 11 0))
def Z9w:List (Option Iv):=ivs 4 0 255++[zz,iv 0 255,zz,iv 0 1,zz,none,zz,zz]
def Zl9 (x:List Int):Prop:=Zq Z9w x∧(∀ b ∈ dec (x.getD 9 0),Zd Z68 (dec b))∧Z9v (dec (x.getD 9 0))
def Zwk (v:List (Option Iv)):List (Option Iv):=ivs 4 0 255++[iv 0 8]
noncomputable def Zic:Sum:=mkP gl0 90 [Lk,Txs,I1,I1] [Cl,I1] Zl9 Zej
def Zwl:Inf:=⟨[some ⟨1,0⟩],Zwk⟩
def Pa_ks:List K:=List.replicate 21 (.i .i64)
def Scn:Sh:=⟨true,[.s 83 Z3d,.s 89 Z68,.s 127 Pa_ks]⟩
noncomputable def Zns (p:Int):List Int:=[co p 0,co p 1,co p 2,co p 3,co p 4,co p 5,co p 6,co p 7,co p 8,co p 9,co p 10,co p 11,co p 12,co p 13,co p 14,co p 15,co p 16,co p 17,co p 18,co p 19,co p 20]
def Zid (I S:List Int):Prop:=S.length≤100000∧∀ p ∈ S,Zq (zs 21) (Zns p)∧0≤co p 16∧co p 16 < (I.length:Int)
noncomputable def Znt (I F:List Int):List Int:=F.foldl (Z1d I) Zq2
noncomputable def Zie (x:List Int):List Int:=ex7 (Znt (dec (x.getD 0 0)) ((dec (x.getD 2 0)).filterMap (Z2t (x.getD 3 0) (x.getD 4 0))))
def Zif:List (Option Iv):=[none,none,none,zz,zz]
def Z118 (x:List Int):Prop:=Zq Zif x∧Zid (dec (x.getD 0 0)) (dec (x.getD 2 0))
def Z119 (v:List (Option Iv)):List (Option Iv):=zs 6++[iv 0 1]
noncomputable def Z9x:Sum:=mkP gl0 31 [Scn,I1,I1] [An 6,Bo] Z118 Zie
def Zwm:Inf:=⟨[some ⟨1,0⟩],Z119⟩
end Go.Proofs.Ytgcoidbaoigkeaa.fix
