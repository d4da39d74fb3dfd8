/-
  Symbolic execution of the model, and what functions of the program come to: part 6.
-/
import Derived.Test.YtgcoidbaoigkeaaRows
import Derived.Test.YtgcoidbaoigkeaaPke
set_option linter.unusedVariables false
set_option linter.unusedSimpArgs false
open List renaming getElem?_cons_zero → Z18e, getElem?_cons_succ → Z18f, getD_cons_zero → Z18g, getD_cons_succ → Z18h, cons_append → Z18i, nil_append → Z18j, map_cons → Z18k, map_nil → Z18l
namespace Go.Proofs.Ytgcoidbaoigkeaa.fix
open Go.RowKit Go.Sx
theorem Zre {P:Program} {s:Sum} (hp:s.ps=[]) (hr:s.rs=[]) (hpre:¬ s.pre []):s.ok P:=by
 refine ⟨fun sh h=>?_,fun xs vs w _ hx hpr=>?_⟩
 ·rw [hp,hr] at h
  cases h
 ·rw [hp] at hx
  obtain ⟨rfl,rfl⟩:=hx
  exact absurd hpr hpre
theorem Zj0 {s:Sum} (hsem:∀ xs,s.sem xs=[]):Z1i s Ztk :=
 ⟨fun xs h=>(Z1k xs h).elim,fun vs xs h hp=>by rw [hsem]; exact ⟨rfl,fun i=>by simp [Ztk,Zh]⟩⟩
theorem ok_ac0:Z182.ok Try.prog:=Zre rfl rfl (fun h=>h rfl)
theorem Ztl {ow:List Bool}:¬ Za8 ow []:=by
 rintro ⟨c,es,x,zs,h,_⟩
 cases h
theorem ok_ac1:Z183.ok Try.prog:=Zre rfl rfl Ztl
noncomputable def Zrf:List Sum:=[]
def Z14z:List Inf:=[]
def Z150:TX:=(.ret [(.wr .i64 (.add (.v 0) (.v 3))),(.wr .i64 (.add (.v 1) (.v 4))),(.wr .i64 (.add (.v 2) (.v 5)))])
theorem Zyv:Z17 (Zu [] Z14z [] Ziz (Zx Try.prog Zbe gl0 Zrf 1000 33 [An 3,An 3] [An 3]))=Z150:=by kernel_rfl
theorem g_plus:Gok Try.prog Zrf:=noG
theorem o_plus:Zr Zrf Z14z:=Za
theorem Z184:Zf6.ok Try.prog:=Sum.okF facts.mixed g_plus o_plus Zyv rfl (fun _=>rfl) (by
 intro xs hx hp
 obtain ⟨a0,a1,a2,a3,a4,a5,rfl⟩:=len6 hx
 unfold Z150 Zrf
 simp only [TX.sat,XB.prop]
 simp only [X.den,TX.sat,XB.prop,X.den,Z18k,Z18l,Z18e,Z18f,Z18i,Z18j,Z18g,Z18h,mkS,mkP,and_true,true_and,Z18p,Z18q,not_or,not_and,Z18m,ne_eq,Z18n,Z18o]
 rfl)
theorem Zoh (n:Int):Zh zz (IntKind.i64.wrap n):=by
 rw [IntKind.wrap_i64]
 exact ⟨show (-9223372036854775808:Int)≤_ by omega,show _≤(9223372036854775807:Int) by omega⟩
theorem Z135:Z1i Zf6 Z14y:=⟨fun _ h=>h,fun vs xs h hp=>Z1 (Zoh _) (Z1 (Zoh _) (Z1 (Zoh _) Z2))⟩
theorem Z185:Gok Try.prog Zb6:=more ok_ac0 (more ok_ac1 (more Z184 (more Zeq (one Zeb))))
theorem Z186:Zr Zb6 Zyt:=Z3 (Zj0 fun _=>rfl) (Z3 (Zj0 fun _=>rfl) (Z3 Z135 (Z3 Zgv (Z3 Zau Za))))
theorem Zyw:∀ l,Za8 Zcm l→Zcs Zb6 0 l:=fun l h=>h
theorem Zm0:∀ {n:Nat} {es zs:List Int},zOK (List.replicate n false) es zs→zs=es
 | 0,[],[],_=>rfl
 | 0,[],_::_,h=>h.elim
 | 0,_::_,[],h=>h.elim
 | 0,_::_,_::_,h=>h.elim
 | n + 1,[],[],h=>h.elim
 | n + 1,[],_::_,h=>h.elim
 | n + 1,_::_,[],h=>h.elim
 | n + 1,e::es,z::zs,h=>by
  obtain ⟨h1,h2⟩:=h
  rw [if_neg (by decide)] at h1
  rw [h1,Zm0 h2]
theorem Z136 {c e0 x:Int} {es:List Int} (h:Za8 Zcm (c::((e0::es)++[x]))):∃ z,dec (ctN z)=dec e0∧dec x=dec c++[cod (z::es)]:=by
 obtain ⟨c',es',x',zs,h1,h2,h3⟩:=h
 simp only [List.cons.injEq] at h1
 obtain ⟨rfl,h1⟩:=h1
 obtain ⟨h4,h5⟩:=List.append_inj' h1 rfl
 simp only [List.cons.injEq,and_true] at h5
 subst h4 h5
 cases zs with
 | nil=>exact h3.elim
 | cons z zs =>
  obtain ⟨g1,g2⟩:=h3
  rw [if_pos rfl] at g1
  rw [Zm0 (n:=17) g2] at h2
  exact ⟨z,g1,h2⟩
noncomputable def Z4e (d:List Int) (v:Int):Int:=cod (Z7y [co v 0,co v 1,co v 2,d.getD 0 0,d.getD 1 0,d.getD 2 0])
def movB (d:List Int) (b b':Int):Prop:=Zd Z3d (dec b')∧Zk b'=(Zk b).map (Z4e d)∧∀ j,1≤j→j≤11→co b' j=co b j
def movL (d I X:List Int):Prop:=X.length=I.length∧∀ i,i < I.length→movB d (I.getD i 0) (X.getD i 0)
theorem Ztm (d:List Int) (v:Int):Zd Z5r (dec (Z4e d v)):=by
 have h:∀ n:Int,inK (.i .i64) (IntKind.i64.wrap n):=fun n=>by
  show (Lit.int .i64 _).wf=true
  rw [IntKind.wrap_i64]
  simp only [Lit.wf,Z18r,Z18s]
  exact ⟨show (-9223372036854775808:Int)≤_ by omega,show _≤(9223372036854775807:Int) by omega⟩
 unfold Z4e
 rw [Z4]
 exact ⟨h _,h _,h _,trivial⟩
theorem Zm1 {d I X T:List Int} (h:Z49 I T) (hm:movL d I X):Z49 X T:=by
 refine ⟨fun b hb=>?_,h.2⟩
 obtain ⟨i,hi,rfl⟩:=Z125 hb
 rw [hm.1] at hi
 obtain ⟨m1,m2,m3⟩:=hm.2 i hi
 obtain ⟨h0,h1,h2,h3⟩:=h.1 _ (show I.getD i 0 ∈ I from Zy hi)
 refine ⟨m1,fun v hv=>?_,?_,?_⟩
 ·have hv:v ∈ Zk (X.getD i 0):=hv
  rw [m2] at hv
  obtain ⟨z,_,rfl⟩:=List.mem_map.1 hv
  exact Ztm d z
 ·rw [m3 1 (by omega) (by omega)]; exact h2
 ·rw [m3 2 (by omega) (by omega)]; exact h3
def Zoi:TX:=(.loop 2 [none,none] [(.c 0),(.c 0)] (.ite (.lt (.v 21) (.ln (.v 0))) (.asrt (.le (.c 0) (.v 21)) (.loop 2 [none,none] [.nl,(.c 0)] (.ite (.lt (.v 24) (.ln (.l2 .at (.l2 .at (.l2 .at (.v 0) (.v 21)) (.c 0)) (.c 4)))) (.asrt (.le (.c 0) (.v 24)) (.call 2 [(.l2 .at (.l2 .at (.l2 .at (.l2 .at (.l2 .at (.v 0) (.v 21)) (.c 0)) (.c 4)) (.v 24)) (.c 0)),(.l2 .at (.l2 .at (.l2 .at (.l2 .at (.l2 .at (.v 0) (.v 21)) (.c 0)) (.c 4)) (.v 24)) (.c 1)),(.l2 .at (.l2 .at (.l2 .at (.l2 .at (.l2 .at (.v 0) (.v 21)) (.c 0)) (.c 4)) (.v 24)) (.c 2)),(.v 18),(.v 19),(.v 20)] (.asrt (.le (.ln (.l2 .snoc (.v 23) (.l2 .cons (.v 25) (.l2 .cons (.v 26) (.l2 .cons (.v 27) .nl))))) (.c 1000000)) (.back 1 [(.l2 .snoc (.v 23) (.l2 .cons (.v 25) (.l2 .cons (.v 26) (.l2 .cons (.v 27) .nl)))),(.wr .i64 (.add (.v 24) (.c 1)))]))))
(.ite (.lt (.c 0) (.ln (.v 23))) (.call 2 [(.l2 .at (.l2 .at (.v 0) (.v 21)) (.c 12)),(.l2 .at (.l2 .at (.v 0) (.v 21)) (.c 13)),(.l2 .at (.l2 .at (.v 0) (.v 21)) (.c 14)),(.v 18),(.v 19),(.v 20)] (.call 2 [(.l2 .at (.l2 .at (.v 0) (.v 21)) (.c 15)),(.l2 .at (.l2 .at (.v 0) (.v 21)) (.c 16)),(.l2 .at (.l2 .at (.v 0) (.v 21)) (.c 17)),(.v 18),(.v 19),(.v 20)] (.asrt (.le (.ln (.v 22)) (.c 999999)) (.any 1 0 [(.v 22),(.v 23),(.l2 .at (.l2 .at (.v 0) (.v 21)) (.c 1)),(.l2 .at (.l2 .at (.v 0) (.v 21)) (.c 2)),(.l2 .at (.l2 .at (.v 0) (.v 21)) (.c 3)),(.l2 .at (.l2 .at (.v 0) (.v 21)) (.c 4)),(.l2 .at (.l2 .at (.v 0) (.v 21)) (.c 5)),(.l2 .at (.l2 .at (.v 0) (.v 21)) (.c 6)),(.l2 .at (.l2 .at (.v 0) (.v 21)) (.c 7)),(.l2 .at (.l2 .at (.v 0) (.v 21)) (.c 8)),(.l2 .at (.l2 .at (.v 0) (.v 21)) (.c 9)),(.l2 .at (.l2 .at (.v 0) (.v 21)) (.c 10)),(.l2 .at (.l2 .at (.v 0) (.v 21)) (.c 11)),(.v 25),(.v 26),(.v 27),(.v 28),(.v 29),(.v 30)] (.back 0 [(.wr .i64 (.add (.v 21) (.c 1))),(.v 31)])))))
(.asrt (.le (.ln (.v 22)) (.c 999999)) (.any 1 0 [(.v 22),(.v 23),(.l2 .at (.l2 .at (.v 0) (.v 21)) (.c 1)),(.l2 .at (.l2 .at (.v 0) (.v 21)) (.c 2)),(.l2 .at (.l2 .at (.v 0) (.v 21)) (.c 3)),(.l2 .at (.l2 .at (.v 0) (.v 21)) (.c 4)),(.l2 .at (.l2 .at (.v 0) (.v 21)) (.c 5)),(.l2 .at (.l2 .at (.v 0) (.v 21)) (.c 6)),(.l2 .at (.l2 .at (.v 0) (.v 21)) (.c 7)),(.l2 .at (.l2 .at (.v 0) (.v 21)) (.c 8)),(.l2 .at (.l2 .at (.v 0) (.v 21)) (.c 9)),(.l2 .at (.l2 .at (.v 0) (.v 21)) (.c 10)),(.l2 .at (.l2 .at (.v 0) (.v 21)) (.c 11)),(.l2 .at (.l2 .at (.v 0) (.v 21)) (.c 12)),(.l2 .at (.l2 .at (.v 0) (.v 21)) (.c 13)),(.l2 .at (.l2 .at (.v 0) (.v 21)) (.c 14)),(.l2 .at (.l2 .at (.v 0) (.v 21)) (.c 15)),(.l2 .at (.l2 .at (.v 0) (.v 21)) (.c 16)),(.l2 .at (.l2 .at (.v 0) (.v 21)) (.c 17))] (.back 0 [(.wr .i64 (.add (.v 21) (.c 1))),(.v 25)])))))))
(.callp 2 [(.v 2),(.v 3),(.v 4),(.v 18),(.v 19),(.v 20)] (.call 3 [(.v 22),(.v 1)] (.ite (.not (.eq (.v 26) (.c 0))) (.ret [(.v 22),(.v 23),(.v 24),(.v 25),(.v 5),(.v 6),(.v 7),(.v 8),(.v 9),(.v 10),(.v 11),(.v 12),(.v 13),(.v 14),(.v 15),(.v 16),(.v 17),(.c 0)])
(.callp 4 [(.v 23),(.v 24),(.v 25),(.v 5),(.v 6),(.v 7),(.v 8),(.v 9),(.v 10),(.v 11),(.v 12),(.v 13),(.v 14),(.v 15),(.v 16),(.v 17)] (.ite (.eq (.v 27) (.c 0)) (.ret [(.v 22),(.v 23),(.v 24),(.v 25),(.v 5),(.v 6),(.v 7),(.v 8),(.v 9),(.v 10),(.v 11),(.v 12),(.v 13),(.v 14),(.v 15),(.v 16),(.v 17),(.c 1)])
(.ret [(.v 22),(.v 23),(.v 24),(.v 25),(.v 5),(.v 6),(.v 7),(.v 8),(.v 9),(.v 10),(.v 11),(.v 12),(.v 13),(.v 14),(.v 15),(.v 16),(.v 17),(.c 0)]))))))))
theorem Ztn:Z17 (Zu [] Zyt [] ([none,none]++zs 19) (Z133 Try.prog (Znk Try.prog [(8,29)]) Zb6 Zyu 14 Zf7 1000 12 [Sho,An 16,An 3]))=Zoi:=by kernel_rfl
def movR (cI cT:Int) (C d ys:List Int):Prop:=∃ X k,ys=X::([IntKind.i64.wrap (C.getD 0 0 + d.getD 0 0),IntKind.i64.wrap (C.getD 1 0 + d.getD 1 0),IntKind.i64.wrap (C.getD 2 0 + d.getD 2 0)]++C.drop 3++[k])∧movL d (dec cI) (dec X) ∧
 (k=0∨k=1∧Z3e [X,cT]=0∧Z4g ([IntKind.i64.wrap (C.getD 0 0 + d.getD 0 0),IntKind.i64.wrap (C.getD 1 0 + d.getD 1 0),IntKind.i64.wrap (C.getD 2 0 + d.getD 2 0)]++C.drop 3) 0=true)
set_option maxHeartbeats 2000000 in
theorem Zyx (cI cT c0 c1 c2 c3 c4 c5 c6 c7 c8 c9 c10 c11 c12 c13 c14 c15 d0 d1 d2:Int) (hv:Zq ([none,none]++zs 19) [cI,cT,c0,c1,c2,c3,c4,c5,c6,c7,c8,c9,c10,c11,c12,c13,c14,c15,d0,d1,d2]) (hr:Z49 (dec cI) (dec cT)) (hl:(dec cI).length≤999999) (hvl:∀ b ∈ dec cI,(Zk b).length≤999999) :
  Zoi.sat Zb6 [] (movR cI cT [c0,c1,c2,c3,c4,c5,c6,c7,c8,c9,c10,c11,c12,c13,c14,c15] [d0,d1,d2]) [] [cI,cT,c0,c1,c2,c3,c4,c5,c6,c7,c8,c9,c10,c11,c12,c13,c14,c15,d0,d1,d2]:=by
 unfold Zoi Zb6
 simp only [TX.sat,XB.prop]
 simp only [X.den,L2.den,TX.sat,XB.prop,X.den,Z18k,Z18l,Z18e,Z18f,Z18i,Z18j,Z18g,Z18h,mkS,mkP,and_true,true_and,Z18p,Z18q,not_or,not_and,Z18m,ne_eq,Z18n,Z18o]
 obtain ⟨I,hIe⟩:∃ I,I=dec cI:=⟨_,rfl⟩
 have hcoe:∀ x j,(dec x).getD j 0=co x j:=fun _ _=>rfl
 rw [← hIe] at hr hl hvl ⊢
 have k18:=hv.2 18
 have k19:=hv.2 19
 have k20:=hv.2 20
 have hw:∀ {n:Nat},n < 1000000→IntKind.i64.wrap ((n:Int) + 1)=((n + 1:Nat):Int):=fun hn=>by rw [Z10 (by omega) (by omega)]; omega
 refine ⟨fun xs=>∃ i:Nat,xs.getD 0 0=(i:Int)∧i≤I.length∧(dec (xs.getD 1 0)).length=i∧∀ j,j < i→movB [d0,d1,d2] (I.getD j 0) ((dec (xs.getD 1 0)).getD j 0),fun xs=>I.length - (xs.getD 0 0).toNat,fun xs hx _=>Zv (n:=2) hx,⟨0,rfl,Nat.zero_le _,by rw [show (([0,0]:List Int).getD 1 0)=0 from rfl,Z2o]; rfl,fun j hj=>by omega⟩,?_⟩
 intro xs hx hA
 obtain ⟨n0,o,rfl⟩:=Zfh hx
 obtain ⟨i,hi,hil,hol,ho⟩:=hA
 simp only [TX.sat,XB.prop,X.den,Z18k,Z18l,Z18e,Z18f,Z18i,Z18j,Z18g,Z18h,mkS,mkP,and_true,true_and,Z18p,Z18q,not_or,not_and,Z18m,ne_eq,Z18n,Z18o] at hi hol ho ⊢
 subst hi
 refine ⟨fun hlt=>⟨by omega,?_⟩,fun hge=>?_⟩
 ·have hlt':i < I.length:=by omega
  have hmem:=Zy hlt'
  obtain ⟨h0,h1,h2,h3⟩:=hr.1 _ hmem
  have hvb:=hvl _ hmem
  have hb18:=Z1t h0
  simp only [Int.toNat_natCast,hcoe,show Int.toNat 0=0 from rfl,show Int.toNat 1=1 from rfl,show Int.toNat 2=2 from rfl,show Int.toNat 3=3 from rfl,show Int.toNat 4=4 from rfl,show Int.toNat 5=5 from rfl,show Int.toNat 6=6 from rfl,show Int.toNat 7=7 from rfl,show Int.toNat 8=8 from rfl,show Int.toNat 9=9 from rfl,show Int.toNat 10=10 from rfl,show Int.toNat 11=11 from rfl,show Int.toNat 12=12 from rfl,show Int.toNat 13=13 from rfl,show Int.toNat 14=14 from rfl,show Int.toNat 15=15 from rfl,show Int.toNat 16=16 from rfl,show Int.toNat 17=17 from rfl]
  have hvb':∀ y,(dec (co y 4))=dec (ctN y):=fun y=>rfl
  simp only [hvb']
  obtain ⟨V,hVe⟩:∃ V,V=Zk (I.getD i 0):=⟨_,rfl⟩
  have hVd:dec (ctN (co (I.getD i 0) 0))=V:=hVe.symm
  rw [hVd] at h1 ⊢
  rw [← hVe] at hvb
  have hrk:∀ {j:Nat} {k:K},Z3d[j]?=some k→inK k (co (I.getD i 0) j):=fun hk=>Zl8 h0 hk
  have hw3:∀ n:Int,inK (.i .i64) (IntKind.i64.wrap n):=fun n=>by
   show (Lit.int .i64 _).wf=true
   rw [IntKind.wrap_i64]
   simp only [Lit.wf,Z18r,Z18s]
   exact ⟨show (-9223372036854775808:Int)≤_ by omega,show _≤(9223372036854775807:Int) by omega⟩
  have hstep:∀ (l x:Int) (q12 q13 q14 q15 q16 q17:Int),dec l=V.map (Z4e [d0,d1,d2])→inK (.i .i64) q12→inK (.i .i64) q13→inK (.i .i64) q14→inK (.i .i64) q15→inK (.i .i64) q16→inK (.i .i64) q17 →
    Zcs [Z182,Z183,Zf6,Z3q,Z4k] 0 (o::((l::[co (I.getD i 0) 1,co (I.getD i 0) 2,co (I.getD i 0) 3,co (I.getD i 0) 4,co (I.getD i 0) 5,co (I.getD i 0) 6,co (I.getD i 0) 7,co (I.getD i 0) 8,co (I.getD i 0) 9,co (I.getD i 0) 10,co (I.getD i 0) 11,q12,q13,q14,q15,q16,q17])++[x])) →
    ∃ m:Nat,((i + 1:Nat):Int)=(m:Int)∧m≤I.length∧(dec x).length=m∧∀ j,j < m→movB [d0,d1,d2] (I.getD j 0) ((dec x).getD j 0):=by
   intro l x q12 q13 q14 q15 q16 q17 hl q12h q13h q14h q15h q16h q17h hrel
   obtain ⟨z,z1,z2⟩:=Z136 hrel
   refine ⟨i + 1,rfl,by omega,by rw [z2,List.length_append,hol]; rfl,fun j hj=>?_⟩
   by_cases hji:j < i
   ·rw [z2]
    have:=ho j hji
    simp only [List.getD] at this ⊢
    rwa [List.getElem?_append_left (by omega)]
   ·have hij:j=i:=by omega
    rw [hij,z2]
    have hg:(dec o++[cod (z::[co (I.getD i 0) 1,co (I.getD i 0) 2,co (I.getD i 0) 3,co (I.getD i 0) 4,co (I.getD i 0) 5,co (I.getD i 0) 6,co (I.getD i 0) 7,co (I.getD i 0) 8,co (I.getD i 0) 9,co (I.getD i 0) 10,co (I.getD i 0) 11,q12,q13,q14,q15,q16,q17])]).getD i 0=cod (z::[co (I.getD i 0) 1,co (I.getD i 0) 2,co (I.getD i 0) 3,co (I.getD i 0) 4,co (I.getD i 0) 5,co (I.getD i 0) 6,co (I.getD i 0) 7,co (I.getD i 0) 8,co (I.getD i 0) 9,co (I.getD i 0) 10,co (I.getD i 0) 11,q12,q13,q14,q15,q16,q17]):=by
     simp only [List.getD]
     rw [List.getElem?_append_right (by omega),hol,Nat.sub_self]
     rfl
    rw [hg]
    refine ⟨?_,?_,?_⟩
    ·rw [Z4]
     exact ⟨trivial,trivial,trivial,hrk (j:=3) rfl,hrk (j:=4) rfl,hrk (j:=5) rfl,hrk (j:=6) rfl,hrk (j:=7) rfl,hrk (j:=8) rfl,hrk (j:=9) rfl,hrk (j:=10) rfl,hrk (j:=11) rfl,q12h,q13h,q14h,q15h,q16h,q17h,trivial⟩
    ·unfold Zk
     rw [Zgw,hVd]
     show dec (ctN z)=_
     rw [z1,hl]
    ·intro m h1 h11
     rw [Zgw]
     have:m=1∨m=2∨m=3∨m=4∨m=5∨m=6∨m=7∨m=8∨m=9∨m=10∨m=11:=by omega
     rcases this with rfl | rfl | rfl | rfl | rfl | rfl | rfl | rfl | rfl | rfl | rfl <;> rfl
  refine ⟨fun xs=>∃ m:Nat,xs.getD 1 0=(m:Int)∧m≤V.length∧dec (xs.getD 0 0)=(V.take m).map (Z4e [d0,d1,d2]),fun xs=>V.length - (xs.getD 1 0).toNat,fun xs hx _=>Zv (n:=2) hx,⟨0,rfl,Nat.zero_le _,by rw [show (([cod [],0]:List Int).getD 0 0)=cod [] from rfl,Z24]; rfl⟩,?_⟩
  intro xs hx hB
  obtain ⟨l,n1,rfl⟩:=Zfh hx
  obtain ⟨m,hm,hml,hld⟩:=hB
  simp only [TX.sat,XB.prop,X.den,Z18k,Z18l,Z18e,Z18f,Z18i,Z18j,Z18g,Z18h,mkS,mkP,and_true,true_and,Z18p,Z18q,not_or,not_and,Z18m,ne_eq,Z18n,Z18o] at hm hld ⊢
  subst hm
  simp only [Int.toNat_natCast]
  have hVm:∀ q:Nat,co (co (co (I.getD i 0) 0) 4) q=V.getD q 0:=fun q=>by rw [hVe]; rfl
  have hps:∀ l,Zf6.sem l=Z7y l:=fun _=>rfl
  have p3:∀ {a b c:Int},inK (.i .i64) a→inK (.i .i64) b→inK (.i .i64) c→Zf6.pre [a,b,c,d0,d1,d2]:=fun ha hb hc=>Z1 (Zpk ha) (Z1 (Zpk hb) (Z1 (Zpk hc) (Z1 k18 (Z1 k19 (Z1 k20 Z2)))))
  simp only [hVm,hps,Z7y,TX.sat,XB.prop,X.den,Z18k,Z18l,Z18e,Z18f,Z18i,Z18j,Z18g,Z18h,mkS,mkP,and_true,true_and,Z18p,Z18q,not_or,not_and,Z18m,ne_eq,Z18n,Z18o,Z4]
  refine ⟨fun hmlt=>⟨by omega,?_⟩,fun hmge=>?_⟩
  ·have hmV:m < V.length:=by omega
   have hvr:=h1 _ (Zy hmV)
   have htake:V.take (m + 1)=V.take m++[V.getD m 0]:=by
    rw [List.take_succ_eq_append_getElem hmV]
    rw [show V.getD m 0=V[m] by simp [List.getD,hmV]]
   refine ⟨p3 (Zl8 (j:=0) hvr rfl) (Zl8 (j:=1) hvr rfl) (Zl8 (j:=2) hvr rfl),?_,⟨m + 1,hw (by omega),by omega,?_⟩,?_⟩
   ·rw [hld,List.length_append,List.length_map,List.length_take,List.length_singleton]
    omega
   ·rw [htake,List.map_append,hld]
    rfl
   ·rw [hw (by omega)]
    omega
  ·have hmV:m=V.length:=by omega
   have hlV:dec l=V.map (Z4e [d0,d1,d2]):=by rw [hld,hmV,List.take_length]
   refine ⟨fun hpos=>⟨p3 (hrk (j:=12) rfl) (hrk (j:=13) rfl) (hrk (j:=14) rfl),p3 (hrk (j:=15) rfl) (hrk (j:=16) rfl) (hrk (j:=17) rfl),by omega,List.cons_ne_nil _ _,fun ys hy hrel=>?_⟩,fun hneg=>⟨by omega,List.cons_ne_nil _ _,fun ys hy hrel=>?_⟩⟩
   ·obtain ⟨x,rfl⟩:=len1 hy
    simp only [TX.sat,XB.prop,X.den,Z18k,Z18l,Z18e,Z18f,Z18i,Z18j,Z18g,Z18h,mkS,mkP,and_true,true_and,Z18p,Z18q,not_or,not_and,Z18m,ne_eq,Z18n,Z18o]
    rw [hw (by omega)]
    exact ⟨hstep l x _ _ _ _ _ _ hlV (hw3 _) (hw3 _) (hw3 _) (hw3 _) (hw3 _) (hw3 _) hrel,by omega⟩
   ·obtain ⟨x,rfl⟩:=len1 hy
    simp only [TX.sat,XB.prop,X.den,Z18k,Z18l,Z18e,Z18f,Z18i,Z18j,Z18g,Z18h,mkS,mkP,and_true,true_and,Z18p,Z18q,not_or,not_and,Z18m,ne_eq,Z18n,Z18o]
    rw [hw (by omega)]
    exact ⟨hstep l x _ _ _ _ _ _ hlV (hrk (j:=12) rfl) (hrk (j:=13) rfl) (hrk (j:=14) rfl) (hrk (j:=15) rfl) (hrk (j:=16) rfl) (hrk (j:=17) rfl) hrel,by omega⟩
 ·have hin:i=I.length:=by omega
  have hps:∀ l,Zf6.sem l=Z7y l:=fun _=>rfl
  have hci:Z3q.sem [o,cT]=[Z3e [o,cT]]:=rfl
  have hcc:∀ l,Z4k.sem l=[er (Z4g l 0) 150]:=fun _=>rfl
  have hmov:movL [d0,d1,d2] I (dec o):=⟨by rw [hol,hin],fun j hj=>ho j (by omega)⟩
  simp only [hps,hci,hcc,Z7y,TX.sat,XB.prop,X.den,Z18k,Z18l,Z18e,Z18f,Z18i,Z18j,Z18g,Z18h,mkS,mkP,and_true,true_and,Z18p,Z18q,not_or,not_and,Z18m,ne_eq,Z18n,Z18o]
  rw [hIe] at hmov
  refine ⟨⟨Zv (n:=2) rfl,Zm1 hr (by rw [hIe]; exact hmov)⟩,fun _=>⟨o,0,rfl,hmov,.inl rfl⟩,fun hs=>⟨fun hc=>⟨o,1,rfl,hmov,.inr ⟨rfl,hs,(Znb _ (by decide)).1 hc⟩⟩,fun _=>⟨o,0,rfl,hmov,.inl rfl⟩⟩⟩
end Go.Proofs.Ytgcoidbaoigkeaa.fix
namespace Go.Proofs.Ytgcoidbaoigkeaa.fix
open Go.RowKit Go.Sx
def Z137 (l:List Int):Prop:=l.length=21∧Zq ([none,none]++zs 19) l∧Z49 (dec (l.getD 0 0)) (dec (l.getD 1 0))∧(dec (l.getD 0 0)).length≤999999∧∀ b ∈ dec (l.getD 0 0),(Zk b).length≤999999
def Z138 (l:List Int):Prop:=movR (l.getD 0 0) (l.getD 1 0) ((l.drop 2).take 16) ((l.drop 18).take 3) (l.drop 21)
noncomputable def Zm2:Sum:=mkP [] 99999 [] [] Z137 (fun _=>[])
noncomputable def Zrg:Sum:=mkP [] 99999 [] [] Z138 (fun _=>[])
def Z151:Inf:=Ztk
def Z152:Inf:=Ztk
theorem Z187:Zm2.ok Try.prog:=Zre rfl rfl (by rintro ⟨h,_⟩; cases h)
theorem Z188:Zrg.ok Try.prog:=Zre rfl rfl (by rintro ⟨X,k,h,_⟩; cases h)
theorem Z139:Z1i Zm2 Z151:=Zj0 fun _=>rfl
theorem Z13a:Z1i Zrg Z152:=Zj0 fun _=>rfl
def vs16 (nv:Nat):List SC:=[.i .i64 (.v (nv + 1)),.i .i64 (.v (nv + 2)),.i .i64 (.v (nv + 3)),.i .i64 (.v (nv + 4)),.i .i64 (.v (nv + 5)),.i .i64 (.v (nv + 6)),.i .i64 (.v (nv + 7)),.i .i64 (.v (nv + 8)),.i .i64 (.v (nv + 9)),.i .i64 (.v (nv + 10)),.i .i64 (.v (nv + 11)),.i .i64 (.v (nv + 12)),.i .i64 (.v (nv + 13)),.i .i64 (.v (nv + 14)),.i .i64 (.v (nv + 15)),.i .i64 (.v (nv + 16))]
def movE (m0:Nat) (s:St) (i0 i1:Nat) (cam by_:List SC):Option (E × E × List E × List E):=match s.hs[i0]?,s.hs[i1]?,isIs cam,isIs by_ with
 | some (kI,cI),some (kT,cT),some ces,some des=>if Z4d kI Z3d && (Z4d kT Z68 && (decide (s.hs.length=m0) && (amSt m0 s && (decide (ces.length=16) && decide (des.length=3))))) then some (cI,cT,ces,des) else none
 | _,_,_,_=>none
def Zj1 (m0:Nat):RbF:=fun s args=>match args with
 | [.w (.a [.go (.a i0),.go (.a i1)]),.w (.a cam),.w (.a by_)]=>(match movE m0 s i0 i1 cam by_ with
  | some (cI,cT,ces,des)=>some (cI::cT::(ces++des),fun nv=>({ s with rows:=s.rows,nv:=s.nv + 18,hs:=s.hs++[(Z3d,.v s.nv)] },.t [.a [.go (.a m0),.go (.a i1)],.a (vs16 s.nv),.o (.b (.nz (.v (s.nv + 17))))]))
  | none=>none)
 | _=>none
theorem isI_eq {c:SC} {e:E} (h:isI c=some e):c=.i .i64 e:=by
 unfold isI at h
 split at h
 ·cases h; rfl
 ·cases h
theorem Zj2:∀ {cs:List SC} {es:List E},isIs cs=some es→cs=es.map (SC.i .i64)
 | [],es,h=>by cases h; rfl
 | c::cs,es,h=>by
  simp only [isIs] at h
  split at h
  ·rename_i e es' h1 h2
   simp only [Option.some.injEq] at h
   subst h
   rw [isI_eq h1,Zj2 h2]
   rfl
  ·cases h
theorem isB_eq {c:SC} {x:B} (h:isB c=some x):c=.b x:=by
 unfold isB at h
 split at h
 ·cases h; rfl
 ·cases h
theorem Z153 {j:Nat} {x:SC} (hx:isG j x=true):x=.go (.a j):=by
 unfold isG at hx
 split at hx
 ·rename_i k
  have:k=j:=by simpa using hx
  rw [this]
 ·cases hx
theorem Zm3 {acc:Option (Nat × E)} {s:St} {v:SV} {ob:Option B} {es:List E} (h:Zf7 acc s v=some (ob,es)):∃ i c ces x,acc=some (i,c)∧v=.t [.a [.go (.a i),.go (.a 1)],.a (ces.map (SC.i .i64)),.o (.b x)]∧ob=some x∧es=c::ces:=by
 unfold Zf7 at h
 split at h
 ·rename_i i c a b cam bb
  split at h
  ·rename_i hc
   simp only [Z18r] at hc
   split at h
   ·rename_i es' x h1 h2
    simp only [Option.some.injEq,Prod.mk.injEq] at h
    exact ⟨i,c,es',x,rfl,by rw [Z153 hc.1,Z153 hc.2,Zj2 h1,isB_eq h2],h.1.symm,h.2.symm⟩
   ·cases h
  ·cases h
 ·cases h
theorem Zb7 {S:TypeId→List K→Value→Int→Prop}:∀ (l:List Int),Z2k S (List.replicate l.length (.i .i64)) (l.map (Value.int .i64)) l
 | []=>trivial
 | x::l=>⟨rfl,Zb7 l⟩
theorem Zj3 (e:Env) (es:List E):(es.map (SC.i .i64)).map (SC.den e)=(es.map (E.den e.R e.r)).map (Value.int .i64):=by
 rw [List.map_map,List.map_map]
 rfl
theorem Zoj {r ys:List Int} {n j:Nat} (h:r.length=n):(r++ys).getD (n + j) 0=ys.getD j 0:=by
 simp only [List.getD]
 rw [List.getElem?_append_right (by omega),h,Nat.add_sub_cancel_left]
theorem Zyy {Γ:List Sum} {g m0:Nat} (h0:Γ[g]?=some Zm2) (h1:Γ[g + 1]?=some Zrg):RbM Try.prog Γ 18 g m0 12 (Zj1 m0):=by
 intro W0 e s w args es kk sm h hsc hasc hR hf hsm hpre
 rw [h0] at hsm
 simp only [Option.some.injEq] at hsm
 subst hsm
 unfold Zj1 at hf
 split at hf
 case h_2=>cases hf
 rename_i i0 i1 cam by_
 split at hf
 case h_2=>cases hf
 rename_i cI cT ces des he
 simp only [Option.some.injEq,Prod.mk.injEq] at hf
 obtain ⟨rfl,rfl⟩:=hf
 unfold movE at he
 split at he
 case h_2=>cases he
 rename_i kI cI' kT cT' ces' des' hI hT hcam hby
 split at he
 case isFalse=>cases he
 rename_i hc
 simp only [Option.some.injEq,Prod.mk.injEq] at he
 obtain ⟨rfl,rfl,rfl,rfl⟩:=he
 simp only [Z18r,Z18s] at hc
 obtain ⟨kd1,kd2,hhl,ham,hc16,hd3⟩:=hc
 have kd1:=Z3n kd1
 have kd2:=Z3n kd2
 have hcam:=Zj2 hcam
 have hby:=Zj2 hby
 subst kd1 kd2 hcam hby
 subst hR
 have hlen:s.rows.length=s.rows.length:=rfl
 have hk:∀ (j:Nat) (c:Row),s.rows[j]?=some c→c.live=true→s.rows[j]?=some c:=fun j c h1 h2=>h1
 have hr1:=(h.kill hlen hk).rebase
 obtain ⟨Xc,hXe⟩:∃ Xc,Xc=Zzh e { s with rows:=s.rows }:=⟨_,rfl⟩
 rw [← hXe] at hr1
 have hXc:∀ k,Xc k→k < w.heap.size:=by
  rw [hXe]
  rintro k (⟨m,c,g1,g2,g3,rfl⟩ | ⟨m,c,g1,g2,g3,g4⟩)
  ·exact Z1g (h.blk m c g1 g2)
  ·exact (h.row m c g1 g2).blk_lt g4
 obtain ⟨C,hC⟩:∃ C,C=ces'.map (E.den e.R e.r):=⟨_,rfl⟩
 obtain ⟨d,hd⟩:∃ d,d=des'.map (E.den e.R e.r):=⟨_,rfl⟩
 have hCl:C.length=16:=by rw [hC,List.length_map]; exact hc16
 have hdl:d.length=3:=by rw [hd,List.length_map]; exact hd3
 have hes:(cI'::cT'::(ces'++des')).map (E.den e.R e.r)=cI'.den e.R e.r::cT'.den e.R e.r::(C++d):=by
  rw [Z18k,Z18k,List.map_append,hC,hd]
 rw [hes] at hpre ⊢
 have hargs:([SV.w (.a [.go (.a i0),.go (.a i1)]),SV.w (.a (ces'.map (SC.i .i64))),SV.w (.a (des'.map (SC.i .i64)))].map (SV.den e))=[.agg #[(G.a i0).val e,(G.a i1).val e],.agg (C.map (Value.int .i64)).toArray,.agg (d.map (Value.int .i64)).toArray]:=by
  simp only [Z18k,Z18l,SV.den,SW.den]
  rw [Zj3,Zj3,← hC,← hd]
  rfl
 rw [hargs]
 have hx:Z63 (fun _ ks u n=>Z2b w Xc (.s 0 ks) u n) [Sho,An 16,An 3] [.agg #[(G.a i0).val e,(G.a i1).val e],.agg (C.map (Value.int .i64)).toArray,.agg (d.map (Value.int .i64)).toArray] (cI'.den e.R e.r::cT'.den e.R e.r::(C++d)):=by
  refine ⟨_,_,[cI'.den e.R e.r,cT'.den e.R e.r],C++d,rfl,rfl,?_,_,_,C,d,rfl,rfl,?_,_,_,d,[],rfl,by simp,?_,rfl,rfl⟩
  ·exact ⟨[(G.a i0).val e,(G.a i1).val e],rfl,hr1.arg i0 _ _ hI,hr1.arg i1 _ _ hT,trivial⟩
  ·refine ⟨_,rfl,?_⟩
   have:=Zb7 (S:=fun _ ks u n=>Z2b w Xc (.s 0 ks) u n) C
   rw [hCl] at this
   exact this
  ·refine ⟨_,rfl,?_⟩
   have:=Zb7 (S:=fun _ ks u n=>Z2b w Xc (.s 0 ks) u n) d
   rw [hdl] at this
   exact this
 obtain ⟨c0,c1,c2,c3,c4,c5,c6,c7,c8,c9,c10,c11,c12,c13,c14,c15,rfl⟩:=Znc hCl
 obtain ⟨d0,d1,d2,rfl⟩:=len3 hdl
 obtain ⟨_,p1,p2,p3,p4⟩:=hpre
 have hs:=Zyx (cI'.den e.R e.r) (cT'.den e.R e.r) c0 c1 c2 c3 c4 c5 c6 c7 c8 c9 c10 c11 c12 c13 c14 c15 d0 d1 d2 p1 p2 p3 p4
 have hrun:=Zys hXc (show GlZ Zyu.gl w Xc from ⟨fun p hp=>(by cases hp),fun p hp=>(by cases hp)⟩) facts.mixed Z185 Zyw Z186 Ztn hx p1 hs
 refine hrun.mono ?_
 rintro x w' ⟨ec,Wc,sc,acc,v,ob,es',L⟩
 obtain ⟨i,c,ces2,bx,rfl,rfl,rfl,rfl⟩:=Zm3 L.fin
 have hpost:=L.post
 obtain ⟨X,k,hk1,hk2,hk3⟩:=id hpost
 have hsl:=L.sl hXc
 obtain ⟨u,hu⟩:∃ u,u=Zck ec (some (i,c)):=⟨_,rfl⟩
 obtain ⟨Q,hQ⟩:∃ Q,Q=ces2.map (E.den ec.R ec.r):=⟨_,rfl⟩
 obtain ⟨bv,hbv⟩:∃ bv,bv=bx.den ec.R ec.r:=⟨_,rfl⟩
 have hys:(c::ces2).map (E.den ec.R ec.r)++obV ec (some bx)=c.den ec.R ec.r::(Q++[if bv=true then 1 else 0]):=by
  rw [Z18k,hQ,hbv]
  rfl
 rw [hys] at hk1 hpost
 simp only [List.cons.injEq] at hk1
 obtain ⟨hk0,hk1⟩:=hk1
 have hQl:Q.length=16:=by
  have:=congrArg List.length hk1
  simp only [List.length_append,List.length_cons,List.length_nil,List.length_drop] at this
  omega
 rw [← hu] at hsl
 have husl:slV u=u:=by rw [hu]; exact Zrd _ _
 obtain ⟨ys,hyse⟩:∃ ys,ys=c.den ec.R ec.r::(Q++[if bv=true then 1 else 0]):=⟨_,rfl⟩
 rw [← hyse] at hpost
 have hyl:ys.length=18:=by rw [hyse]; simp [hQl]
 have hcE:(E.v s.nv).den (e.R++[u]) (e.r++ys)=c.den ec.R ec.r:=by
  simp only [E.den]
  have:=Zoj (r:=e.r) (ys:=ys) (j:=0) h.nv
  rw [Nat.add_zero] at this
  rw [this,hyse]
  rfl
 obtain ⟨q1,q2,q3,q4⟩:=h.addSl (ks:=Z3d) (u:=u) (cE:=.v s.nv) (ys:=ys) L.below hsc hhl ham hlen hk husl (by
  rw [hcE]
  unfold SlX
  rw [← hXe]
  exact hsl)
 rw [hyl] at q1
 refine ⟨ys,_,_,hyl,?_,?_,rfl,q1,rfl,List.map_congr_left q2,rfl,q3,q4⟩
 ·unfold Zcs
  rw [h1]
  exact hpost
 ·rw [L.ret]
  obtain ⟨y,hy⟩:=L.R
  congr 1
  have e1:(SC.go (.a i)).den ec=u:=by rw [hu]; rfl
  have e2:(SC.go (.a 1)).den ec=(G.a i1).val e:=by
   simp only [SC.den,G.val,hy]
   exact Zyp _
  have hlt1:i1 < e.R.length:=by rw [← hhl]; exact (List.getElem?_eq_some_iff.1 hT).1
  have e3:(SC.go (.a e.R.length)).den { e with r:=e.r++ys,R:=e.R++[u] }=u:=by
   simp only [SC.den,G.val]
   rw [show (e.R++[u]).getD e.R.length undef=u by simp [List.getD]]
   exact husl
  have e4:(SC.go (.a i1)).den { e with r:=e.r++ys,R:=e.R++[u] }=(G.a i1).val e:=by
   simp only [SC.den,G.val]
   rw [Z1l undef hlt1]
  have e5:(vs16 s.nv).map (SC.den { e with r:=e.r++ys,R:=e.R++[u] })=Q.map (Value.int .i64):=by
   obtain ⟨l0,l1,l2,l3,l4,l5,l6,l7,l8,l9,l10,l11,l12,l13,l14,l15,rfl⟩:=Znc hQl
   have hg:∀ j,(e.r++ys).getD (s.nv + j) 0=ys.getD j 0:=fun j=>Zoj h.nv
   simp only [vs16,Z18k,Z18l,SC.den,E.den,hg]
   rw [hyse]
   rfl
  have e6:(SC.b (.nz (.v (s.nv + 17)))).den { e with r:=e.r++ys,R:=e.R++[u] }=(SC.b bx).den ec:=by
   have hg:(e.r++ys).getD (s.nv + 17) 0=ys.getD 17 0:=Zoj h.nv
   obtain ⟨l0,l1,l2,l3,l4,l5,l6,l7,l8,l9,l10,l11,l12,l13,l14,l15,rfl⟩:=Znc hQl
   simp only [SC.den,B.den,E.den,hg]
   rw [hyse,← hbv]
   cases bv <;> rfl
  simp only [SV.den,Z18k,Z18l,SW.den,e1,e2,e3,e4,e5,e6]
  rw [Zj3,← hQ]
end Go.Proofs.Ytgcoidbaoigkeaa.fix
namespace Go.Sx
open Go.RowKit
def Zh0:List E→List E→Bool
 | [],[]=>true
 | x::xs,y::ys=>x.same y && Zh0 xs ys
 | _,_=>false
theorem Zm4:∀ {a b:List E},Zh0 a b=true→a=b
 | [],[],_=>rfl
 | x::xs,y::ys,h=>by
  simp only [Zh0,Z18r] at h
  rw [E.same_eq _ _ h.1,Zm4 h.2]
 | [],_::_,h=>by simp [Zh0] at h
 | _::_,[],h=>by simp [Zh0] at h
def cnC (A C:List E) (es:List E) (nv n:Nat):List E:=if Zh0 es A then C else Z8 nv n
def cnF (ps rs:List Sh) (A C:List E):St→List SV→Option (List B × List E × (Nat→St × SV)):=fun s args=>match Zbq s ps args with
 | some (aZ,es)=>some (aZ,es,fun nv=>({ s with nv:=s.nv + Zg rs,rows:=s.rows++Z1v (Z3u rs) (cnC A C es nv (Zg rs)) },Zjf Zm9 s.rows.length rs (cnC A C es nv (Zg rs))))
 | none=>none
def cnS (s:Sum) (A C:List E):Sum:={ s with m:=some (cnF s.ps s.rs A C) }
theorem Z154 {P:Program} {s0:Sum} {A C:List E} {ks:List Int} (hok0:s0.ok P) (hA:∀ (R:Fo) (r:List Int),A.map (E.den R r)=ks) (hC:∀ (R:Fo) (r:List Int),C.map (E.den R r)=s0.sem ks):(cnS s0 A C).okA P:=by
 show (cnS s0 A C).okM P (cnF s0.ps s0.rs A C)
 intro W0 e s w args aZ es kk hrep0 hsc hargs hgl hf has hpre
 unfold cnF at hf
 split at hf
 ·rename_i as' es' hfl
  simp only [Option.some.injEq,Prod.mk.injEq] at hf
  obtain ⟨rfl,rfl,rfl⟩:=hf
  obtain ⟨hlen,hden⟩:=Z98 hrep0 hfl has
  obtain ⟨_,hok⟩:=hok0
  obtain ⟨hl,hcalls⟩:=hok _ _ w (Zhd hgl hrep0.glw) hden hpre
  obtain ⟨D,hD⟩:∃ D,cnC A C es' s.nv (Zg s0.rs)=D:=⟨_,rfl⟩
  have hDd:D.map (E.den e.R (e.r++s0.sem (es'.map (E.den e.R e.r))))=s0.sem (es'.map (E.den e.R e.r)):=by
   rw [← hD]
   unfold cnC
   split
   ·rename_i hs
    have:=Zm4 hs
    subst this
    rw [hC,hA]
   ·rw [← hrep0.nv]
    exact Z2f hl
  dsimp only [cnS] at hcalls ⊢
  rw [hD]
  refine hcalls.mono fun x w' ⟨v,hx,⟨vs,hv,hres,hap⟩,hb⟩=>?_
  obtain ⟨hrep,hfr,hle⟩:=hrep0.vars hsc (s0.sem (es'.map (E.den e.R e.r)))
  have hrep2:=hrep.grown hb
  have hres':Z63 (fun ty ks u n=>Zs w' ty ks u n∧∀ k,Z6 u=some k→w.heap.size≤k) s0.rs vs (D.map (E.den ({ e with r:=e.r++s0.sem (es'.map (E.den e.R e.r)) }:Env).R ({ e with r:=e.r++s0.sem (es'.map (E.den e.R e.r)) }:Env).r)):=by
   show Z63 _ s0.rs vs (D.map (E.den e.R (e.r++s0.sem (es'.map (E.den e.R e.r)))))
   rw [hDd]
   exact hres
  obtain ⟨r1,r2⟩:=Z2d hres'
  have hslice:∀ {ty ks u n},Zs w' ty ks u n→∃ a l c,u=.slice a l c:=by
   intro ty ks u n hr
   rcases hr with ⟨_,b,h2⟩ | ⟨_,_,h2⟩
   ·exact ⟨_,_,_,h2⟩
   ·rcases h2.2 with ⟨h3,_⟩ | ⟨g,cap,cur,h3,_⟩
    ·exact ⟨_,_,_,h3⟩
    ·exact ⟨_,_,_,h3⟩
  have hscp:({ s with nv:=s.nv + (s0.sem (es'.map (E.den e.R e.r))).length }:St).scp=true:=(St.sc_scp hsc:s.scp=true)
  obtain ⟨hrep3,hlike⟩:=hrep2.addRows hscp (rows:=Z1v (Z3u s0.rs) D) (vals:=Z9 s0.rs vs) r1
   (fun j b u hj hu _=>⟨hslice (r2 j b u hj hu).1,(r2 j b u hj hu).1⟩)
   (fun j b u k hj hu _ hk=>by
    have hge:=(r2 j b u hj hu).2 k hk
    refine ⟨.inl (Nat.le_trans hrep0.below.size hge),fun n c hc hlc heq=>?_,fun n c hc hlc heq=>?_⟩
    ·have:=Z1g (hrep0.blk n c hc hlc)
     have heq':e.β.getD n 0=k:=heq
     omega
    ·have:=(hrep0.row n c hc hlc).blk_lt heq
     omega)
   (Z5h hap)
  rw [hl] at hrep3
  have hle2:Env.le e { e with r:=e.r++s0.sem (es'.map (E.den e.R e.r)),σ:=e.σ++Z9 s0.rs vs }:=⟨s0.sem (es'.map (E.den e.R e.r)),[],Z9 s0.rs vs,[],by simp⟩
  have hresv:(Zjf Zm9 s.rows.length s0.rs D).den { e with r:=e.r++s0.sem (es'.map (E.den e.R e.r)),σ:=e.σ++Z9 s0.rs vs }=v:=by
   rw [hv]
   refine Zhe (e:={ e with r:=e.r++s0.sem (es'.map (E.den e.R e.r)),σ:=e.σ++Z9 s0.rs vs }) hres' fun j u hj=>?_
   obtain ⟨b,hb'⟩:∃ b,(Z1v (Z3u s0.rs) D)[j]?=some b:=⟨_,List.getElem?_eq_getElem (by rw [← r1]; exact (List.getElem?_eq_some_iff.1 hj).1)⟩
   obtain ⟨aa,ll,cc,hsl⟩:=hslice (r2 j b u hb' hj).1
   simp only [Zm9,SC.den,G.val]
   have:(e.σ++Z9 s0.rs vs).getD (s.rows.length + j) undef=u:=by
    simp only [List.getD]
    rw [List.getElem?_append_right (by rw [hrep0.ng]; omega),hrep0.ng,show s.rows.length + j - s.rows.length=j by omega,hj]
    rfl
   rw [this,hsl]
   rfl
  refine ⟨_,?_,hle2,rfl,hrep3,rfl,rfl,rfl,rfl⟩
  rw [hx,← hresv]
 ·cases hf
end Go.Sx
namespace Go.Proofs.Ytgcoidbaoigkeaa.fix
open Go.RowKit Go.Sx
def cE (l:List Int):E:=Z6b (l.map E.c)
theorem Zrh (l:List Int) (R:Fo) (r:List Int):(cE l).den R r=cod l:=by
 unfold cE
 rw [Z1w,List.map_map]
 congr 1
 conv=>rhs; rw [← List.map_id l]
 exact List.map_congr_left fun x _=>rfl
def Zto:List Int:=[256,-40,-40,512,0,0,-40,40,512,0,0,40,-40,512,0,0]
end Go.Proofs.Ytgcoidbaoigkeaa.fix
namespace Go.Proofs.Ytgcoidbaoigkeaa.fix
open Go.RowKit Go.Sx
def Z5u:List Int:=[0,0,0,256,0,0,0,256,0,0,0,256,64,256,4,4]
def Z1b:List Int:=[0,0,0,0,-1,0,0,0,0,-40,-40,512,40,40,512]
noncomputable def Zzj:List Int:=[cod [-40,-40,512],cod [40,-40,512],cod [-40,40,512]]
noncomputable def U_ex:List Int:=[cod [0,0],cod [0,0],cod [0,0]]
noncomputable def T_ex:List Int:=[cod [0,2,1]]
def E_v:E:=Z6b [cE [-40,-40,512],cE [40,-40,512],cE [-40,40,512]]
def E_u:E:=Z6b [cE [0,0],cE [0,0],cE [0,0]]
def E_t:E:=Z6b [cE [0,2,1]]
def kr_ex:List K:=[.i .u8,.i .u8,.i .u8,.i .u8,.i .i64,.i .u8,.i .i64,.b,.i .i64,.i .i64,.i .i64,.i .i64,.i .i64,.i .i64,.i .i64]
def Zri (ps:List Sh) (K:List Int) (s:St) (args:List SV):Bool:=match args with
 | .w (.a [c0,c1])::rest=>Z180 s 27 149 28 Z5r Zwa Z5r kr_ex c0 E_v E_u E_t (Z1b.map E.c) && (okSl s Z68 c1 .nl && (match Zbq s ps rest with
  | some ([],es)=>Zbb es (K.map E.c)
  | _=>false))
 | _=>false
theorem Z13b (l:List Int) (R:Fo) (r:List Int):(l.map E.c).map (E.den R r)=l:=by
 rw [List.map_map]
 conv=>rhs; rw [← List.map_id l]
 exact List.map_congr_left fun x _=>rfl
theorem Z13c (w:World):∀ xs,Z5d w (fun _=>False) kr_ex xs:=fun xs=>Z5d.plain rfl
structure ExI (I:Int) (n0 n1 n2:Int):Prop where
 is:dec I=[cod (n0::n1::n2::Z1b)]
 v:dec (ctN n0)=Zzj
 u:dec (ctN n1)=U_ex
 t:dec (ctN n2)=T_ex
theorem Zf8 {ps:List Sh} {K:List Int} {e:Env} {W0:Bas} {s:St} {w:World} {args:List SV} (h:Rep e W0 s w) (hc:Zri ps K s args=true) :
  ∃ I T n0 n1 n2,ExI I n0 n1 n2∧dec T=[]∧Z63 (fun _ ks u n=>SlN w ks u n) (Sho::ps) (args.map (SV.den e)) ([I,T]++K):=by
 unfold Zri at hc
 split at hc
 ·rename_i c0 c1 rest
  simp only [Z18r] at hc
  obtain ⟨h0,h1,h2⟩:=hc
  split at h2
  ·rename_i es hfl
   have hes:=Z9d h2
   subst hes
   obtain ⟨n0,n1,n2,a0,a1,a2,a3⟩:=Ztg h (Z13c w) h0
   have a4:=Za7 h h1
   obtain ⟨_,hden⟩:=Z98 h hfl (fun b hb=>by cases hb)
   rw [Z13b] at a3 hden
   refine ⟨cod [cod (n0::n1::n2::Z1b)],cod [],n0,n1,n2,⟨Z4 _,?_,?_,?_⟩,Z4 _,?_⟩
   ·rw [a0]; simp only [E_v,Z1w,Z18k,Z18l,Zrh,Z4]; rfl
   ·rw [a1]; simp only [E_u,Z1w,Z18k,Z18l,Zrh,Z4]; rfl
   ·rw [a2]; simp only [E_t,Z1w,Z18k,Z18l,Zrh,Z4]; rfl
   ·refine ⟨_,_,[cod [cod (n0::n1::n2::Z1b)],cod []],K,rfl,rfl,?_,hden⟩
    unfold ShR
    exact ⟨[c0.den e,c1.den e],rfl,a3,a4,trivial⟩
  ·cases h2
 ·cases hc
theorem Zok (l:List Int) (j:Nat):co (cod l) j=l.getD j 0:=by unfold co; rw [Z4]
section
variable {I T n0 n1 n2:Int} (h:ExI I n0 n1 n2) (hT:dec T=[])
theorem Z13d:Zk (cod (n0::n1::n2::Z1b))=dec (ctN n0):=by unfold Zk; rw [Zok]; rfl
theorem ex_uv:Zbt (cod (n0::n1::n2::Z1b))=dec (ctN n1):=by unfold Zbt; rw [Zok]; rfl
theorem Zyz:Z1p (cod (n0::n1::n2::Z1b))=dec (ctN n2):=by unfold Z1p; rw [Zok]; rfl
theorem Z13e:Z55 Zzj=[-40,-40,512,40,40,512]:=by
 simp only [Zzj,Z55,List.foldl_cons,List.foldl_nil,boxV,Zsp,Zok,Z18g,Z18h]
 decide
include h in
theorem ex_may:Zty (Zb0 (cod (n0::n1::n2::Z1b)) 0)=true:=by
 have hx:Zb0 (cod (n0::n1::n2::Z1b)) 0=ctN n0::ctN n1::ctN n2::(Z1b++[0]):=by
  unfold Zb0
  simp only [Zok]
  rfl
 rw [hx]
 unfold Zty Z10z
 simp only [Z18g,Z18h,h.v,h.u,h.t,Z13e]
 have e1:Zzj.all okW=true:=by
  simp only [Zzj,List.all_cons,List.all_nil,okW,Zok]
  decide
 have e2:U_ex.all uvB=true:=by
  simp only [U_ex,List.all_cons,List.all_nil,uvB,Zok]
  decide
 have e3:T_ex.all (Zwd Zzj.length)=true:=by
  have:Zzj.length=3:=rfl
  rw [this]
  simp only [T_ex,List.all_cons,List.all_nil,Zwd,Zok]
  decide
 rw [e1,e2,e3]
 have l1:Zzj.length=3:=rfl
 have l2:U_ex.length=3:=rfl
 have l3:T_ex.length=1:=rfl
 rw [l1,l2,l3]
 simp only [Z16h,Zay,Z1b,Z18g,Z18h,Z18i,Z18j]
 decide
include h hT in
theorem Zz0:Z3e [I,T]=0:=by
 unfold Z3e
 simp only [Z18g,Z18h,h.is,hT]
 rw [if_pos ⟨by simp,by simp⟩,if_pos]
 refine ⟨by simp [Zeh],?_⟩
 rw [List.all_cons,List.all_nil,Bool.and_true]
 exact ex_may h
include h hT in
theorem Zrj:Z49 (dec I) (dec T):=by
 rw [h.is,hT]
 refine ⟨fun b hb=>?_,fun b hb=>by cases hb⟩
 rw [List.mem_singleton.1 hb]
 refine ⟨?_,?_,?_,?_⟩
 ·rw [Z4]
  exact ⟨trivial,trivial,trivial,rfl,rfl,rfl,rfl,rfl,rfl,rfl,.inl rfl,rfl,rfl,rfl,rfl,rfl,rfl,rfl,trivial⟩
 ·rw [Zok,Z18g,h.v]
  intro v hv
  simp only [Zzj,List.mem_cons,List.not_mem_nil,or_false] at hv
  rcases hv with rfl | rfl | rfl <;> (rw [Z4]; exact ⟨rfl,rfl,rfl,trivial⟩)
 ·rw [Zok,Z18h,Z18g,h.u]
  intro v hv
  simp only [U_ex,List.mem_cons,List.not_mem_nil,or_false] at hv
  rcases hv with rfl | rfl | rfl <;> (rw [Z4]; exact ⟨rfl,rfl,trivial⟩)
 ·rw [Zok,Z18h,Z18h,Z18g,h.t]
  intro v hv
  simp only [T_ex,List.mem_cons,List.not_mem_nil,or_false] at hv
  rw [hv,Z4]
  exact ⟨rfl,rfl,rfl,trivial⟩
def Z4b:List Int:=[-24,56,32768,0,0,-24,-24,32768,0,0,56,56,32768,0,0]
theorem Z13f:(Z67 Zto).getD 0 0=cod [cod [-40,-40,512,0,0,-40,40,512,0,0,40,-40,512,0,0]]:=by
 have h:Z67 Zto=[Zvy Zto,0]:=by
  unfold Z67
  rw [if_pos (by decide),if_pos (by decide)]
 have h2:Zec (Zkz Zto)=[[-40,-40,512,0,0,-40,40,512,0,0,40,-40,512,0,0]]:=by
  have hp:Zkz Zto=[[-40,-40,512,0,0],[-40,40,512,0,0],[40,-40,512,0,0]]:=by decide +kernel
  rw [hp,Zec,Zec]
  all_goals simp
 rw [h]
 unfold Zvy
 rw [h2]
 rfl
include h in
theorem ex_tri:(256::Znl Z5u (cod (n0::n1::n2::Z1b)) (cod [0,2,1]))=Zto:=by
 have v0:∀ x y z:Int,Z3r Z5u (cod [x,y,z])=Zbs (Z5u++[x,y,z]):=fun x y z=>by
  unfold Z3r
  simp only [Zok]
  rfl
 have w0:Zbs (Z5u++[-40,-40,512])=[-40,-40,512,0]:=by decide +kernel
 have w1:Zbs (Z5u++[40,-40,512])=[40,-40,512,0]:=by decide +kernel
 have w2:Zbs (Z5u++[-40,40,512])=[-40,40,512,0]:=by decide +kernel
 unfold Znl Zi7
 rw [Z13d,ex_uv,h.v,h.u]
 simp only [Zok,Z18g,Z18h,show Int.toNat 0=0 from rfl,show Int.toNat 1=1 from rfl,show Int.toNat 2=2 from rfl,Zzj,U_ex,v0,w0,w1,w2]
 rfl
include h in
theorem Z13g:Zl6 (dec I) Z5u 0 0=[cod Z4b]:=by
 have hd:Zl6 (dec I) Z5u 0 0=Z5z Z5u (cod (n0::n1::n2::Z1b)) (cod [0,2,1]):=by
  unfold Zl6
  rw [h.is]
  show Z5z Z5u (cod (n0::n1::n2::Z1b)) ((Z1p (cod (n0::n1::n2::Z1b))).getD 0 0)=_
  rw [Zyz,h.t]
  rfl
 rw [hd]
 unfold Z5z Znm
 have h13:Z5u.getD 13 0=256:=rfl
 rw [h13,ex_tri h,Z13f,Z4]
 have hsp:Zl5 Z5u (cod [-40,-40,512,0,0,-40,40,512,0,0,40,-40,512,0,0])=Z4b:=by
  unfold Zl5 Zl4
  simp only [Zok]
  decide +kernel
 have hc:co (cod (n0::n1::n2::Z1b)) 8=0:=by rw [Zok]; rfl
 rw [hc]
 have hp:Zi8 Z5u 0 (cod [-40,-40,512,0,0,-40,40,512,0,0,40,-40,512,0,0])=some (cod Z4b):=by
  unfold Zi8
  rw [hsp,if_pos (by decide +kernel)]
  have:Z112 (Z9p Z4b)=Z4b:=by decide +kernel
  rw [this]
 rw [List.filterMap_cons,hp,List.filterMap_nil]
end
noncomputable def Zf9:Sum:=exS Z3q (Zri [] []) [.c 0] [0]
def Zm5:Inf:=⟨[],fun _=>[iv 0 0]⟩
theorem Ztp:Zf9.okA Try.prog:=Z14w Zeq (fun R r=>rfl) (fun e W0 s w args hrep hc=>by
 obtain ⟨I,T,n0,n1,n2,hI,hT,hs⟩:=Zf8 hrep hc
 refine ⟨_,hs,⟨Zv (n:=2) rfl,Zrj hI hT⟩,?_⟩
 show [Z3e [I,T]]=[0]
 rw [Zz0 hI hT])
theorem Zol:Z1i Zf9 Zm5:=⟨fun _ _=>trivial,fun _ _ _ _=>Z1 ⟨Int.le_refl _,Int.le_refl _⟩ Z2⟩
def Zz1:List E:=[Z6b [cE Z4b]]
noncomputable def Zj4:Sum:=exS Zb2 (Zri [An 16,I1,I1] (Z5u++[0,0])) Zz1 [cod [cod Z4b]]
def Zrk:Inf:=⟨[],fun _=>[none]⟩
theorem Zz2:Zj4.okA Try.prog:=Z14w Zqv (fun R r=>by
 simp only [Zz1,Z18k,Z18l,Z1w,Zrh]) (fun e W0 s w args hrep hc=>by
 obtain ⟨I,T,n0,n1,n2,hI,hT,hs⟩:=Zf8 hrep hc
 have z:∀ n:Int,-5000≤n∧n≤5000→Zh zz n:=fun n hn=>zc n (by omega) (by omega)
 refine ⟨_,hs,⟨Z1 trivial (Z1 trivial (Z1 (z _ (by decide)) (Z1 (z _ (by decide)) (Z1 (z _ (by decide)) (Z1 (z _ (by decide)) (Z1 (z _ (by decide)) (Z1 (z _ (by decide)) (Z1 (z _ (by decide)) (Z1 (z _ (by decide)) (Z1 (z _ (by decide)) (Z1 (z _ (by decide)) (Z1 (z _ (by decide)) (Z1 (z _ (by decide)) (Z1 (z _ (by decide)) (Z1 (z _ (by decide)) (Z1 (z _ (by decide)) (Z1 (z _ (by decide)) (Z1 (z _ (by decide)) (Z1 (z _ (by decide)) Z2))))))))))))))))))),Zrj hI hT,?_,Zz0 hI hT,(show Z4g Z5u 0=true by decide +kernel)⟩,?_⟩
 ·show (0:Int)≤0∧(0:Int) < ((dec I).length:Int)∧(0:Int)≤0∧(0:Int) < ((Z1p ((dec I).getD (Int.toNat 0) 0)).length:Int)
  rw [hI.is]
  show (0:Int)≤0∧(0:Int) < 1∧(0:Int)≤0∧(0:Int) < ((Z1p (cod (n0::n1::n2::Z1b))).length:Int)
  rw [Zyz,hI.t]
  decide
 ·show [cod (Zl6 (dec I) Z5u 0 0)]=[cod [cod Z4b]]
  rw [Z13g hI])
theorem Ztq:Z1i Zj4 Zrk:=⟨fun _ _=>trivial,fun _ _ _ _=>Z1 trivial Z2⟩
noncomputable def Zfa:Sum:=cnS Z4k (Z5u.map E.c) [.c 0]
def Zm6:Inf:=Zc2
theorem Ztr:Zfa.okA Try.prog:=Z154 (ks:=Z5u) Zeb (fun R r=>Z13b _ R r) (fun R r=>by
 show [(0:Int)]=Z7n Z5u
 decide +kernel)
theorem Zom:Z1i Zfa Zm6:=Zau
noncomputable def Zon:Sum:=cnS Z9t ((Z4b++[0,2]).map E.c) ([4,20,32768,0,0,0].map E.c)
def Zz3:Inf:=Zpv
theorem Z13h:Zon.okA Try.prog:=Z154 (ks:=Z4b++[0,2]) Zo1 (fun R r=>Z13b _ R r) (fun R r=>by
 rw [Z13b]
 show _=Z9s (Z4b++[0,2])
 decide +kernel)
theorem Zz4:Z1i Zon Zz3:=Zcd
def Zz5 (x:List Int):List Int:=[1]
def Zz6 (v:List (Option Iv)):List (Option Iv):=[iv 1 1]
def Zj5:Sum:=mkS gl0 9 [] [Bo] [] Zz5
def Zz7:Inf:=⟨[],Zz6⟩
end Go.Proofs.Ytgcoidbaoigkeaa.fix
namespace Go.Proofs.Ytgcoidbaoigkeaa.fix
open Go.RowKit Go.Sx
noncomputable def Zj6:List Sum:=[Zf9,Zfa,Zj4,Zon]
def Zz8:List Inf:=[Zm5,Zm6,Zrk,Zz3]
def Zz9:TX:=(.callp 0 [] (.callp 1 [(.c 0),(.c 0),(.c 0),(.c 256),(.c 0),(.c 0),(.c 0),(.c 256),(.c 0),(.c 0),(.c 0),(.c 256),(.c 64),(.c 256),(.c 4),(.c 4)] (.callp 2 [] (.callp 3 [(.c (-24)),(.c 56),(.c 32768),(.c 0),(.c 0),(.c (-24)),(.c (-24)),(.c 32768),(.c 0),(.c 0),(.c 56),(.c 56),(.c 32768),(.c 0),(.c 0),(.c 0),(.c 2)] (.ret [(.c 1)])))))
theorem Zts:Z17 (Zu [] Zz8 [] [] (Zx Try.prog Zbe gl0 Zj6 1000 9 [] [Bo]))=Zz9:=by kernel_rfl
theorem Z189:Gok Try.prog Zj6:=(Z17p Ztp (Z17p Ztr (Z17p Zz2 (fix.oneA Z13h))))
theorem Z18a:Zr Zj6 Zz8:=(Z3 Zol (Z3 Zom (Z3 Ztq (Z3 Zz4 Za))))
theorem Z13i:Zj5.ok Try.prog:=Sum.okF facts.mixed Z189 Z18a Zts rfl (fun _=>rfl) (by
 intro xs hx hp
 simp only [Zz9,Zj6,TX.sat,XB.prop,X.den,Z18k,Z18l,Z18e,Z18f,Z18i,Z18j,Z18g,Z18h,mkS,mkP,and_true,true_and,Z18p,Z18q,not_or,not_and,Z18m,ne_eq,Z18n,Z18o]
 rfl)
theorem Zza:Z1i Zj5 Zz7:=⟨fun _ h=>h,fun _ _ _ _=>Z1 ⟨Int.le_refl _,Int.le_refl _⟩ Z2⟩
end Go.Proofs.Ytgcoidbaoigkeaa.fix
namespace Go.Sx
open Go.RowKit Go.ChangeShapes Go.WideShapes Go.ChangeAt
def Zfb (P:Program):Nat→TypeId→Option (List K)
 | 0,_=>none
 | d + 1,t=>match P.underlying t with
  | some (.int k)=>some [.i k]
  | some .bool=>some [.b]
  | some (.slice e)=>match Zfb P d e with
   | some ks=>if ks.length=P.cellsOf e∧0 < ks.length then some [.s e ks] else none
   | none=>none
  | some (.struct fs)=>match Zhj P (Zfb P d) fs.toList 0 with
   | some ks=>if ks.length=P.cellsOf t then some ks else none
   | none=>none
  | some (.array n e)=>match Zfb P d e with
   | some ks=>if ks.length=P.cellsOf e∧n * ks.length=P.cellsOf t then some (List.replicate n ks).flatten else none
   | none=>none
  | _=>none
mutual
def okK (w:World):K→Int→Prop
 | .i k,n=>(Lit.int k n).wf=true
 | .b,n=>n=0∨n=1
 | .s _ ks,n=>Z5a w ks (hdV n) (ctN n)∧∀ x ∈ dec (ctN n),okL w ks (elt ks x)
def okL (w:World):List K→List Int→Prop
 | [],[]=>True
 | k::ks,x::xs=>okK w k x∧okL w ks xs
 | _,_=>False
end
theorem Z72 {w:World}:∀ {ks:List K} {xs:List Int},okL w ks xs→xs.length=ks.length
 | [],[],_=>rfl
 | _::_,_::_,h=>by
  simp only [okL] at h
  simp [Z72 h.2]
 | [],_::_,h=>by simp [okL] at h
 | _::_,[],h=>by simp [okL] at h
theorem Zoo {w:World}:∀ {ks ls:List K} {xs ys:List Int},okL w ks xs→okL w ls ys→okL w (ks++ls) (xs++ys)
 | [],_,[],_,_,h=>h
 | _::_,_,_::_,_,h,h'=>by
  simp only [okL,Z18i] at h ⊢
  exact ⟨h.1,Zoo h.2 h'⟩
 | [],_,_::_,_,h,_=>by simp [okL] at h
 | _::_,_,[],_,h,_=>by simp [okL] at h
theorem Z4c {w:World}:∀ {ks:List K} {xs:List Int},okL w ks xs→Zd ks xs
 | [],[],_=>trivial
 | k::ks,x::xs,h=>by
  simp only [okL] at h
  refine ⟨?_,Z4c h.2⟩
  cases k with
  | i k=>have:=h.1; simp only [okK] at this; exact this
  | b=>have:=h.1; simp only [okK] at this; exact this
  | s t l=>trivial
 | [],_::_,h=>by simp [okL] at h
 | _::_,[],h=>by simp [okL] at h
theorem Zfc {w:World} {t:TypeId} {ks:List K} {n:Int} (h:okK w (.s t ks) n):Z5a w ks (hdV n) (ctN n)∧∀ x ∈ dec (ctN n),okL w ks (elt ks x):=by
 simp only [okK] at h
 exact h
mutual
theorem Z18b {w:World}:∀ (k:K) (n:Int),okK w k n→Z2b w (fun _=>False) k (hdV n) (ctN n)
 | .i k,n,h=>by simp only [Z2b]
 | .b,n,h=>by simp only [Z2b]
 | .s t ks,n,h=>by
  rw [Z2b]
  have h:=Zfc h
  exact ⟨⟨h.1,fun _ _ _ hh=>hh⟩,fun x hx=>okL_N ks (elt ks x) (h.2 x hx)⟩
theorem okL_N {w:World}:∀ (ks:List K) (xs:List Int),okL w ks xs→Z5d w (fun _=>False) ks xs
 | [],[],h=>by simp only [Z5d]
 | k::ks,x::xs,h=>by
  simp only [okL] at h
  simp only [Z5d]
  exact ⟨Z18b k x h.1,okL_N ks xs h.2⟩
 | [],_::_,h=>by simp [okL] at h
 | _::_,[],h=>by simp [okL] at h
end
theorem Zzb {w:World} {a:Addr} {sp:Nat} (h:a.spot=some sp):w.cell? a=none:=by
 unfold World.cell?
 split
 ·rw [h]
  rfl
 ·rfl
theorem Zh1 {w:World} {base:Nat} {a:Addr} {sp n:Nat} (h:a.spot=some sp) (hn:0 < n):w.cells? base a n=none:=by
 unfold World.cells?
 split
 ·obtain ⟨m,rfl⟩:∃ m,n=m + 1:=⟨n - 1,by omega⟩
  rw [List.range_succ_eq_map,List.mapM_cons,Zzb (a:=a.add 0) (sp:=sp) h]
  rfl
 ·rfl
section
variable {H:Type} {enc:TypeId × Value→H} {P:Program} {w:World} {base:Nat} {spare:Nat→Bool} {held:Bool}
theorem Zfd {fuel:Nat} {rec:TypeId→Option (List K)} {xs:List (DataW H × List MemPlace)} {cs:List Value} 
    (hrec:∀ (t:TypeId) (ks:List K) (c:List Value) (x:DataW H × List MemPlace),rec t=some ks→DataW.trod enc P w base spare held fuel t c=some x→∃ ys,c=Z7 ks ys∧okL w ks ys) :
    ∀ (fs:List Field) (off i:Nat) (ks:List K),Zhj P rec fs off=some ks→off + ks.length≤cs.length →
      (∀ j f,fs[j]?=some f→DataW.trod enc P w base spare held fuel f.type ((cs.drop f.offset).take (P.cellsOf f.type))=xs[i + j]?)→i + fs.length≤xs.length →
      ∃ ys,(cs.drop off).take ks.length=Z7 ks ys∧okL w ks ys
  | [],off,i,ks,h,_,_,_=>by
    simp only [Zhj,Option.some.injEq] at h
    subst h
    exact ⟨[],by simp [Z7],by simp [okL]⟩
  | f::fs,off,i,ks,h,hle,hx,hlen=>by
    simp only [Zhj] at h
    split at h
    · rename_i hoff
      split at h
      · rename_i k1 hk1
        split at h
        · rename_i hc
          simp only [Option.map_eq_some_iff] at h
          obtain ⟨k2,hk2,rfl⟩:=h
          simp only [List.length_append,List.length_cons] at hle hlen
          have h0:=hx 0 f rfl
          rw [Nat.add_zero,List.getElem?_eq_getElem (by omega)] at h0
          obtain ⟨y1,hy1,hr1⟩:=hrec f.type k1 _ _ hk1 h0
          obtain ⟨y2,hy2,hr2⟩:=Zfd (cs:=cs) (xs:=xs) hrec fs (off + k1.length) (i + 1) k2 hk2 (by omega) (fun j g hg=>by
            have:=hx (j + 1) g hg
            rwa [show i + (j + 1)=i + 1 + j by omega] at this) (by omega)
          refine ⟨y1++y2,?_,Zoo hr1 hr2⟩
          rw [Z46 (Z72 hr1),← hy2,← hy1,hoff,← hc,List.length_append,List.take_add,List.drop_drop]
        · cases h
      · cases h
    · cases h
theorem Zh2 {fuel:Nat} {e:TypeId} {ks:List K} {xs:List (DataW H × List MemPlace)} {cs:List Value} (hks:ks.length=P.cellsOf e)
    (hrec:∀ (c:List Value) (x:DataW H × List MemPlace),DataW.trod enc P w base spare held fuel e c=some x→∃ ys,c=Z7 ks ys∧okL w ks ys) :
    ∀ (n i:Nat),(∀ j,j < n→DataW.trod enc P w base spare held fuel e ((cs.drop ((i + j) * P.cellsOf e)).take (P.cellsOf e))=xs[i + j]?)→i + n≤xs.length →
      ∃ ys,(cs.drop (i * ks.length)).take (n * ks.length)=Z7 (List.replicate n ks).flatten ys∧okL w (List.replicate n ks).flatten ys
  | 0,i,_,_=>⟨[],by simp [Z7],by simp [okL]⟩
  | n + 1,i,hx,hlen=>by
    have h0:=hx 0 (by omega)
    rw [Nat.add_zero,List.getElem?_eq_getElem (by omega)] at h0
    obtain ⟨y1,hy1,hr1⟩:=hrec _ _ h0
    obtain ⟨y2,hy2,hr2⟩:=Zh2 (cs:=cs) (xs:=xs) hks hrec n (i + 1) (fun j hj=>by
      have:=hx (j + 1) (by omega)
      rwa [show i + (j + 1)=i + 1 + j by omega] at this) (by omega)
    refine ⟨y1++y2,?_,?_⟩
    · rw [List.replicate_succ,List.flatten_cons,Z46 (Z72 hr1),← hy2,← hy1,hks,Nat.add_mul,Nat.one_mul,Nat.add_comm (n * P.cellsOf e),List.take_add,List.drop_drop,Nat.add_mul,Nat.one_mul]
    · rw [List.replicate_succ,List.flatten_cons]
      exact Zoo hr1 hr2
theorem Z13j {e:TypeId} {ks:List K} {cs0:List Value} {x:DataW H × List MemPlace} {t:TypeId} (hsp:∀ k,spare k=true) (hu:P.underlying t=some (.slice e)) (hc:ks.length=P.cellsOf e) (hpos:0 < ks.length)
  {fuel:Nat} (hrec:∀ (n:Nat) (c:List Value) (y:DataW H × List MemPlace),n < fuel→DataW.trod enc P w base spare held n e c=some y→∃ ys,c=Z7 ks ys∧okL w ks ys)
  (hf:DataW.trod enc P w base spare held fuel t cs0=some x):∃ n,cs0=[hdV n]∧okK w (.s e ks) n:=by
 rcases DataW.trod_slice hu hf with ⟨hv,_⟩ | ⟨a,len,cap,elems,rest,n,hfu,hv,_,hb,hle,hm,hlen,hel,hrest,_⟩
 ·refine ⟨0,by rw [hv,Z94],?_⟩
  simp only [okK]
  rw [Z94,Zh8,Z2o]
  exact ⟨.inl ⟨⟨_,rfl⟩,Z2o⟩,fun x hx=>by cases hx⟩
 ·subst hv
  obtain ⟨b,off,sp⟩:=a
  cases sp with
  | some sp =>
   have hcap:cap=0:=by
    rcases Nat.eq_zero_or_pos len with h0 | h0
    ·rcases Nat.eq_zero_or_pos cap with h1 | h1
     ·exact h1
     ·obtain ⟨r1,r2⟩:=hrest (hsp _)
      have h2:=r2 0 (by omega)
      rw [show (len + 0) * P.cellsOf e=0 by rw [h0]; simp,Zh1 (a:=(⟨b,off,some sp⟩:Addr).add 0) (sp:=sp) rfl (by omega),List.getElem?_eq_getElem (by omega)] at h2
      cases h2
    ·have h2:=hel 0 h0
     rw [Nat.zero_mul,Zh1 (a:=(⟨b,off,some sp⟩:Addr).add 0) (sp:=sp) rfl (by omega),List.getElem?_eq_getElem (by omega)] at h2
     cases h2
   have hl0:len=0:=by omega
   subst hcap hl0
   refine ⟨cod [(b:Int),(off:Int),0,0,cod [],(sp:Int)],?_,?_⟩
   ·unfold hdV
    rw [Z4]
    simp
   ·simp only [okK]
    have h1:ctN (cod [(b:Int),(off:Int),0,0,cod [],(sp:Int)])=cod []:=by
     unfold ctN
     rw [Z4]
     rfl
    rw [h1,Z4]
    refine ⟨.inl ⟨?_,Z4 []⟩,fun x hx=>by cases hx⟩
    unfold hdV
    rw [Z4]
    exact ⟨_,rfl⟩
  | none =>
  simp only at hb
  have each:∀ i,i < len→∃ ys,okL w ks ys∧∀ j u,(Z7 ks ys)[j]?=some u→w.cell? ⟨b,off + (i * ks.length + j),none⟩=some u:=by
   intro i hi
   have h1:=hel i hi
   rw [List.getElem?_eq_getElem (by omega),Option.bind_eq_some_iff] at h1
   obtain ⟨cs,h2,h3⟩:=h1
   unfold World.cells? at h2
   split at h2
   ·rename_i hbb
    obtain ⟨_,h6⟩:=Zsc _ (fun i=>i) cs h2
    obtain ⟨ys,h4,h5⟩:=hrec n cs _ (by omega) h3
    refine ⟨ys,h5,fun j u hj=>?_⟩
    rw [h4] at h6
    have:=h6 j u hj
    rw [Addr.add_lit,Addr.add_lit,← hc] at this
    rw [← this]
    congr 2
    omega
   ·cases h2
  have hys:∃ f:Nat→List Int,∀ i,i < len→okL w ks (f i)∧∀ j u,(Z7 ks (f i))[j]?=some u→w.cell? ⟨b,off + (i * ks.length + j),none⟩=some u:=by
   refine ⟨fun i=>if h:i < len then Classical.choose (each i h) else [],fun i hi=>?_⟩
   simp only [hi,dif_pos]
   exact Classical.choose_spec (each i hi)
  obtain ⟨f,hf'⟩:=hys
  obtain ⟨L,hL⟩:∃ L,L=(List.range len).map fun i=>Z10b ks (f i):=⟨_,rfl⟩
  have hmem:∀ x ∈ L,∃ i,i < len∧elt ks x=f i:=by
   intro x hx
   rw [hL] at hx
   obtain ⟨i,hi,rfl⟩:=List.mem_map.1 hx
   have hi':i < len:=by simpa using hi
   exact ⟨i,hi',Zks (Z72 (hf' i hi').1)⟩
  have hLl:L.length=len:=by rw [hL]; simp
  have hn:hdV (cod [(b:Int),(off:Int),(len:Int),(cap:Int),cod L])=.slice (some ⟨b,off,none⟩) len cap:=by
   unfold hdV
   rw [Z4]
   simp only
   rw [if_pos (by omega)]
   simp
  have hct:ctN (cod [(b:Int),(off:Int),(len:Int),(cap:Int),cod L])=cod L:=by
   unfold ctN
   rw [Z4]
   rfl
  refine ⟨cod [(b:Int),(off:Int),(len:Int),(cap:Int),cod L],by rw [hn],?_⟩
  simp only [okK]
  rw [hn,hct,Z4]
  refine ⟨.inr ⟨b,off,cap,?_,?_,hm,?_,?_⟩,?_⟩
  ·rw [Z4,hLl]
  ·rw [Z4,hLl]; exact hle
  ·rw [Z4]
   intro x hx
   obtain ⟨i,hi,h⟩:=hmem x hx
   rw [h]; exact Z72 (hf' i hi).1
  ·rw [Z4]
   intro j u hj
   have hall:∀ x ∈ L,(elt ks x).length=ks.length:=fun x hx=>by
    obtain ⟨i,hi,h⟩:=hmem x hx
    rw [h]; exact Z72 (hf' i hi).1
   have hjl:=(List.getElem?_eq_some_iff.1 hj).1
   rw [Zl hall,hLl] at hjl
   have hk:0 < ks.length:=by
    rcases Nat.eq_zero_or_pos ks.length with h | h
    ·rw [h] at hjl; simp at hjl
    ·exact h
   have hi:j / ks.length < len:=by rw [Nat.div_lt_iff_lt_mul hk]; exact hjl
   have hjj:j / ks.length * ks.length + j % ks.length=j:=Nat.div_add_mod' j ks.length
   rw [← hjj] at hj
   rw [Z4u hall (by rw [hLl]; exact hi) (Nat.mod_lt _ hk)] at hj
   have hg:L.getD (j / ks.length) 0=Z10b ks (f (j / ks.length)):=by
    rw [hL]
    simp [List.getD,hi]
   rw [hg,Zks (Z72 (hf' _ hi).1)] at hj
   have:=(hf' _ hi).2 _ u hj
   rwa [hjj] at this
  ·intro x hx
   obtain ⟨i,hi,h⟩:=hmem x hx
   rw [h]; exact (hf' i hi).1
theorem Zab (hsp:∀ k,spare k=true):∀ (d fuel:Nat) (t:TypeId) (ks:List K) (cs:List Value) (x:DataW H × List MemPlace),Zfb P d t=some ks→DataW.trod enc P w base spare held fuel t cs=some x→∃ xs,cs=Z7 ks xs∧okL w ks xs
 | 0,_,_,_,_,_,h,_=>by simp [Zfb] at h
 | d + 1,fuel,t,ks,cs,x,h,hd=>by
  unfold Zfb at h
  split at h
  ·rename_i k ht
   simp only [Option.some.injEq] at h
   subst h
   obtain ⟨n,rfl,_,hwf⟩:=DataW.trod_int ht hd
   exact ⟨[n],rfl,by simp only [okL,okK]; exact ⟨hwf,trivial⟩⟩
  ·rename_i ht
   simp only [Option.some.injEq] at h
   subst h
   obtain ⟨b,rfl,_⟩:=DataW.trod_bool ht hd
   exact ⟨[if b then 1 else 0],by cases b <;> rfl,by cases b <;> simp [okL,okK]⟩
  ·rename_i e ht
   split at h
   ·rename_i ks' hks
    split at h
    ·rename_i hc
     simp only [Option.some.injEq] at h
     subst h
     obtain ⟨n,hn,hok⟩:=Z13j (cs0:=cs) hsp ht hc.1 hc.2 (fun n c y _ h2=>Zab hsp d n e ks' c y hks h2) hd
     exact ⟨[n],by rw [hn]; rfl,by rw [okL,okL]; exact ⟨hok,trivial⟩⟩
    ·cases h
   ·cases h
  ·rename_i fs ht
   split at h
   ·rename_i ks' hks
    split at h
    ·rename_i hc
     simp only [Option.some.injEq] at h
     subst h
     obtain ⟨xs,n,rfl,_,hcl,hxl,hf⟩:=DataW.trod_struct ht hd
     obtain ⟨ys,hy,hr⟩:=Zfd (cs:=cs) (xs:=xs) (fun t ks c x h1 h2=>Zab hsp d n t ks c x h1 h2) fs.toList 0 0 ks' hks (by omega) (fun j f hj=>by
      rw [Nat.zero_add]
      exact hf j f (by simpa using hj)) (by simp; omega)
     refine ⟨ys,?_,hr⟩
     rw [← hy,List.drop_zero,List.take_of_length_le (by omega)]
    ·cases h
   ·cases h
  ·rename_i n e ht
   split at h
   ·rename_i ks' hks
    split at h
    ·rename_i hc
     simp only [Option.some.injEq] at h
     subst h
     obtain ⟨xs,m,rfl,_,hcl,hxl,hf⟩:=DataW.trod_array ht hd
     obtain ⟨ys,hy,hr⟩:=Zh2 (cs:=cs) (xs:=xs) hc.1 (fun c x h2=>Zab hsp d m e ks' c x hks h2) n 0 (fun j hj=>by
      rw [Nat.zero_add]
      exact hf j hj) (by omega)
     refine ⟨ys,?_,hr⟩
     rw [← hy,Nat.zero_mul,List.drop_zero,List.take_of_length_le (by omega)]
    ·cases h
   ·cases h
  ·cases h
theorem Z13k {r:Reach} {b0:Nat} {t e1 e2:TypeId} {fs:Array Field} {k1 k2:List K} {v:Value} {d:DataW H} {ps:List MemPlace} (hsp:∀ k,spare k=true)
  (hu:P.underlying t=some (.struct fs)) (hl:Zfb P 8 t=some [.s e1 k1,.s e2 k2]) (hval:Value.okWide P w r b0 t v) (hd:DataW.Trod enc P w base spare held t v d ps) :
  ∃ I T:Int,ShR (fun _ ks u n=>SlN w ks u n) ⟨true,[.s e1 k1,.s e2 k2]⟩ v [I,T]∧(∀ x ∈ dec I,okL w k1 (elt k1 x))∧∀ x ∈ dec T,okL w k2 (elt k2 x):=by
 unfold Value.okWide at hval
 rw [hu] at hval
 obtain ⟨cs,rfl,hsz,ts,hts,_,hcell⟩:=hval
 obtain ⟨fuel,hf⟩:=hd
 obtain ⟨xs,hxs,hok⟩:=Zab hsp 8 fuel t _ cs.toList _ hl hf
 have hlen:=Z72 hok
 obtain ⟨n1,n2,rfl⟩:∃ n1 n2,xs=[n1,n2]:=by
  match xs,hlen with
  | [n1,n2],_=>exact ⟨n1,n2,rfl⟩
 simp only [okL] at hok
 refine ⟨ctN n1,ctN n2,?_,(Zfc hok.1).2,(Zfc hok.2.1).2⟩
 unfold ShR
 simp only [if_true]
 exact ⟨[hdV n1,hdV n2],by rw [show cs=cs.toList.toArray by simp,hxs]; rfl,Z18b _ _ hok.1,Z18b _ _ hok.2.1,trivial⟩
end
end Go.Sx
namespace Go.Proofs.Ytgcoidbaoigkeaa.fix
open Go.RowKit Go.Sx
theorem Zm7 {w:World}:∀ {ks:List K} {xs:List Int} {j:Nat} {k:K},okL w ks xs→ks[j]?=some k→okK w k (xs.getD j 0)
 | k::ks,x::xs,0,k',h,hk=>by
  simp only [okL] at h
  simp only [Z18e,Option.some.injEq] at hk
  subst hk
  exact h.1
 | k::ks,x::xs,j + 1,k',h,hk=>by
  simp only [okL] at h
  simp only [Z18f] at hk
  show okK w k' (xs.getD j 0)
  exact Zm7 h.2 hk
 | [],[],_,_,_,hk=>by simp at hk
 | [],_::_,_,_,h,_=>by simp [okL] at h
 | _::_,[],_,_,h,_=>by simp [okL] at h
theorem Z13l {w:World} {I T:Int} (hi:∀ x ∈ dec I,okL w Z3d (elt Z3d x)) (ht:∀ x ∈ dec T,okL w Z68 (elt Z68 x)):Z49 (dec I) (dec T):=by
 refine ⟨fun b hb=>?_,fun b hb=>Z4c (ht b hb)⟩
 have h:okL w Z3d (dec b):=hi b hb
 have h0:=(Zfc (Zm7 (j:=0) h rfl)).2
 have h1:=(Zfc (Zm7 (j:=1) h rfl)).2
 have h2:=(Zfc (Zm7 (j:=2) h rfl)).2
 exact ⟨Z4c h,fun v hv=>Z4c (h0 v hv),fun v hv=>Z4c (h1 v hv),fun v hv=>Z4c (h2 v hv)⟩
end Go.Proofs.Ytgcoidbaoigkeaa.fix

namespace Go.Proofs.Ytgcoidbaoigkeaa.fix
open Go.RowKit Go.Sx Go.Sort
def Z3t (I I':List Int):Prop:=I.length=I'.length∧∀ i j:Nat,3≤j→j≤11→co (I.getD i 0) j=co (I'.getD i 0) j
theorem Ztt {I I':List Int} (h:Z3t I I'):Z1d I=Z1d I':=by
 funext acc f
 unfold Z1d
 rw [h.2 _ 10 (by omega) (by omega)]
theorem Z13m {I I':List Int} (h:Z3t I I'):Zsx I=Zsx I':=by
 funext f
 unfold Zsx
 rw [h.2 _ 11 (by omega) (by omega)]
theorem Z18c {I I':List Int} (h:Z3t I I') {M:Nat}:(cfB I:Fg M→Fg M→Int)=cfB I':=by
 funext x y
 unfold cfB
 rw [Z13m h]
open Classical in
noncomputable def stbA (M:Nat) (cf:Fg M→Fg M→Int) (l:List Int):List Int :=
 if h:∃ d d':Array (Fg M),d.toList.map Fg.v=l∧sst.Stb (ltOf cf) d.size d d'∧PermIn 0 d.size d d' then (Classical.choose (Classical.choose_spec h)).toList.map Fg.v else l
theorem Z155 (I l:List Int):Zfi I l=stbA (I.length - 1) (cfB I) l:=rfl
theorem Z13n {I I':List Int} (h:Z3t I I') (l:List Int):Zfi I l=Zfi I' l:=by
 rw [Z155,Z155,Z18c h,h.1]
theorem Ztu {I I':List Int} (h:Z3t I I') (n:Nat):Zb4 (I.getD n 0)=Zb4 (I'.getD n 0):=by
 unfold Zb4
 rw [h.2 n 3 (by omega) (by omega),h.2 n 4 (by omega) (by omega),h.2 n 5 (by omega) (by omega),h.2 n 6 (by omega) (by omega),h.2 n 7 (by omega) (by omega),h.2 n 8 (by omega) (by omega),h.2 n 9 (by omega) (by omega),h.2 n 10 (by omega) (by omega),h.2 n 11 (by omega) (by omega)]
theorem Zh3 {I I':List Int} (h:Z3t I I') (T:List Int):Zek I T=Zek I' T:=by
 funext f
 unfold Zek
 rw [Ztu h]
theorem Zfe {I I':List Int} (h:Z3t I I') (F:List Int):Znt I F=Znt I' F:=by
 unfold Znt
 rw [Ztt h]
theorem Z13o {I I':List Int} (h:Z3t I I') (T F g:List Int):Z11c I T F g=Z11c I' T F g:=by
 have h1:Z6x I F=Z6x I' F:=by
  unfold Z6x
  rw [Zfe h]
  congr 1
  funext f
  rw [h.2 _ 10 (by omega) (by omega)]
 have h2:Zny I T=Zny I' T:=by
  funext g f
  unfold Zny
  rw [Zh3 h]
 have h3:Z4r I T F g=Z4r I' T F g:=by
  unfold Z4r
  rw [Zfe h,Zh3 h]
 unfold Z11c
 rw [h1,h2,h3,Z13n h]
theorem Zff {b b':Int} {i k:Nat} {P:List Int} (h:co b 9=co b' 9):∀ n,Z3l b i k P n=Z3l b' i k P n
 | 0=>rfl
 | n + 1=>by rw [Z3l,Z3l,Zff h n]; unfold Z69; rw [h]
theorem Zfg {l l':List Int} {pt pt':Nat→Nat→List Int} {i:Nat} (h:co (l.getD i 0) 9=co (l'.getD i 0) 9):∀ n,(∀ k,k < n→pt i k=pt' i k)→Zpz l pt i n=Zpz l' pt' i n
 | 0,_=>rfl
 | n + 1,hp=>by rw [Zpz,Zpz,Zfg h n (fun k hk=>hp k (by omega)),hp n (by omega),Zff h]
theorem Zbp {l l':List Int} {pt pt':Nat→Nat→List Int}:∀ n,(∀ i,i < n→Z1p (l.getD i 0)=Z1p (l'.getD i 0)∧co (l.getD i 0) 9=co (l'.getD i 0) 9∧∀ k,k < (Z1p (l'.getD i 0)).length→pt i k=pt' i k)→Z6a l pt n=Z6a l' pt' n
 | 0,_=>rfl
 | n + 1,h=>by
  obtain ⟨h1,h2,h3⟩:=h n (by omega)
  rw [Z6a,Z6a,Zbp n (fun i hi=>h i (by omega)),h1,Zfg h2 _ h3]
section
variable {c0 c1 c2 c3 c4 c5 c6 c7 c8 c9 c10 c11 c12 c13 c14 c15 e0 e1 e2 d0 d1 d2:Int} (hc:Z4g [c0,c1,c2,c3,c4,c5,c6,c7,c8,c9,c10,c11,c12,c13,c14,c15] 0=true) (he:Z4g [e0,e1,e2,c3,c4,c5,c6,c7,c8,c9,c10,c11,c12,c13,c14,c15] 0=true) (h0:e0=c0 + d0) (h1:e1=c1 + d1) (h2:e2=c2 + d2)
include hc he in
theorem Z13p (l:Int) (o:Nat):Zl4 [e0,e1,e2,c3,c4,c5,c6,c7,c8,c9,c10,c11,c12,c13,c14,c15] l o=Zl4 [c0,c1,c2,c3,c4,c5,c6,c7,c8,c9,c10,c11,c12,c13,c14,c15] l o:=by
 unfold Zl4 Z86
 have k1:Z4g ([e0,e1,e2,c3,c4,c5,c6,c7,c8,c9,c10,c11,c12,c13,c14,c15]++[co l o,co l (o + 1),co l (o + 2),co l (o + 3),co l (o + 4)]) 0=true:=he
 have k2:Z4g ([c0,c1,c2,c3,c4,c5,c6,c7,c8,c9,c10,c11,c12,c13,c14,c15]++[co l o,co l (o + 1),co l (o + 2),co l (o + 3),co l (o + 4)]) 0=true:=hc
 rw [if_pos k1,if_pos k2]
 rfl
include hc he h0 h1 h2 in
theorem Z13q {v v':Int} (w:okW v=true) (w':okW v'=true) (k0:co v' 0=co v 0 + d0) (k1:co v' 1=co v 1 + d1) (k2:co v' 2=co v 2 + d2):Z3r [e0,e1,e2,c3,c4,c5,c6,c7,c8,c9,c10,c11,c12,c13,c14,c15] v'=Z3r [c0,c1,c2,c3,c4,c5,c6,c7,c8,c9,c10,c11,c12,c13,c14,c15] v:=by
 unfold Z3r Zbs
 have q1:Z4g ([e0,e1,e2,c3,c4,c5,c6,c7,c8,c9,c10,c11,c12,c13,c14,c15]++[co v' 0,co v' 1,co v' 2]) 0=true:=he
 have q2:Z4g ([c0,c1,c2,c3,c4,c5,c6,c7,c8,c9,c10,c11,c12,c13,c14,c15]++[co v 0,co v 1,co v 2]) 0=true:=hc
 have q3:Zhp 4096 ([e0,e1,e2,c3,c4,c5,c6,c7,c8,c9,c10,c11,c12,c13,c14,c15]++[co v' 0,co v' 1,co v' 2]) 16=true:=w'
 have q4:Zhp 4096 ([c0,c1,c2,c3,c4,c5,c6,c7,c8,c9,c10,c11,c12,c13,c14,c15]++[co v 0,co v 1,co v 2]) 16=true:=w
 rw [if_pos q1,if_pos q2,if_pos q3,if_pos q4]
 have m0:co v' 0 - e0=co v 0 - c0:=by omega
 have m1:co v' 1 - e1=co v 1 - c1:=by omega
 have m2:co v' 2 - e2=co v 2 - c2:=by omega
 unfold Zma
 simp only [TX.sat,XB.prop,X.den,Z18k,Z18l,Z18e,Z18f,Z18i,Z18j,Z18g,Z18h,mkS,mkP,and_true,true_and,Z18p,Z18q,not_or,not_and,Z18m,ne_eq,Z18n,Z18o,Nat.reduceAdd]
 rw [m0,m1,m2]
include hc he h0 h1 h2 in
theorem Z13r {b b' n:Int} (hV:Zk b'=(Zk b).map (Z4e [d0,d1,d2])) (hU:Zbt b'=Zbt b) (hn:0≤n∧n < ((Zk b).length:Int)) (w:∀ v ∈ Zk b,okW v=true) (w':∀ v ∈ Zk b',okW v=true) (hd:(-8192≤d0∧d0≤8192)∧(-8192≤d1∧d1≤8192)∧(-8192≤d2∧d2≤8192)) :
  Zi7 [e0,e1,e2,c3,c4,c5,c6,c7,c8,c9,c10,c11,c12,c13,c14,c15] b' n=Zi7 [c0,c1,c2,c3,c4,c5,c6,c7,c8,c9,c10,c11,c12,c13,c14,c15] b n:=by
 have hlt:n.toNat < (Zk b).length:=by omega
 have hg:(Zk b').getD n.toNat 0=Z4e [d0,d1,d2] ((Zk b).getD n.toNat 0):=by
  rw [hV]
  simp [List.getD,hlt]
 have hm:=Zy hlt
 have hm':(Zk b').getD n.toNat 0 ∈ Zk b':=Zy (by rw [hV,List.length_map]; exact hlt)
 have hw:=w _ hm
 have hw':=w' _ hm'
 unfold Zi7
 rw [hU]
 have hb:=hw
 unfold okW Zhp at hb
 simp only [TX.sat,XB.prop,X.den,Z18k,Z18l,Z18e,Z18f,Z18i,Z18j,Z18g,Z18h,mkS,mkP,and_true,true_and,Z18p,Z18q,not_or,not_and,Z18m,ne_eq,Z18n,Z18o,Z18s,Nat.zero_add,Nat.reduceAdd] at hb
 have hv:Z3r [e0,e1,e2,c3,c4,c5,c6,c7,c8,c9,c10,c11,c12,c13,c14,c15] ((Zk b').getD n.toNat 0)=Z3r [c0,c1,c2,c3,c4,c5,c6,c7,c8,c9,c10,c11,c12,c13,c14,c15] ((Zk b).getD n.toNat 0):=by
  refine Z13q hc he h0 h1 h2 hw hw' ?_ ?_ ?_
  ·rw [hg]
   unfold Z4e
   rw [Zgw]
   show IntKind.i64.wrap (co _ 0 + d0)=_
   rw [Z10 (by omega) (by omega)]
  ·rw [hg]
   unfold Z4e
   rw [Zgw]
   show IntKind.i64.wrap (co _ 1 + d1)=_
   rw [Z10 (by omega) (by omega)]
  ·rw [hg]
   unfold Z4e
   rw [Zgw]
   show IntKind.i64.wrap (co _ 2 + d2)=_
   rw [Z10 (by omega) (by omega)]
 rw [hv]
include hc he h0 h1 h2 in
theorem Zzc {I X T:Int} (hd:(-8192≤d0∧d0≤8192)∧(-8192≤d1∧d1≤8192)∧(-8192≤d2∧d2≤8192)) (hI:Z3e [I,T]=0) (hX:Z3e [X,T]=0) (hm:movL [d0,d1,d2] (dec I) (dec X)) :
  Z2s (dec X) [e0,e1,e2,c3,c4,c5,c6,c7,c8,c9,c10,c11,c12,c13,c14,c15]=Z2s (dec I) [c0,c1,c2,c3,c4,c5,c6,c7,c8,c9,c10,c11,c12,c13,c14,c15]:=by
 unfold Z2s
 rw [hm.1]
 refine Zbp _ fun i hi=>?_
 obtain ⟨m1,m2,m3⟩:=hm.2 i hi
 have mI:=Zbl ((Z34 hI).2.2.2 _ (show (dec I).getD i 0 ∈ dec I from Zy hi))
 have mX:=Zbl ((Z34 hX).2.2.2 _ (show (dec X).getD i 0 ∈ dec X from Zy (by rw [hm.1]; exact hi)))
 obtain ⟨b,hb⟩:∃ b,b=(dec I).getD i 0:=⟨_,rfl⟩
 obtain ⟨b',hb'⟩:∃ b',b'=(dec X).getD i 0:=⟨_,rfl⟩
 have ptI:∀ k,ptS (dec I) [c0,c1,c2,c3,c4,c5,c6,c7,c8,c9,c10,c11,c12,c13,c14,c15] i k=Z5z [c0,c1,c2,c3,c4,c5,c6,c7,c8,c9,c10,c11,c12,c13,c14,c15] b ((Z1p b).getD k 0):=fun k=>by rw [hb]; rfl
 have ptX:∀ k,ptS (dec X) [e0,e1,e2,c3,c4,c5,c6,c7,c8,c9,c10,c11,c12,c13,c14,c15] i k=Z5z [e0,e1,e2,c3,c4,c5,c6,c7,c8,c9,c10,c11,c12,c13,c14,c15] b' ((Z1p b').getD k 0):=fun k=>by rw [hb']; rfl
 rw [← hb] at m2 m3 mI ⊢
 rw [← hb'] at m2 m3 mX ⊢
 have hT:Z1p b'=Z1p b:=by unfold Z1p; rw [m3 2 (by omega) (by omega)]
 have hU:Zbt b'=Zbt b:=by unfold Zbt; rw [m3 1 (by omega) (by omega)]
 refine ⟨hT,m3 9 (by omega) (by omega),fun k hk=>?_⟩
 rw [ptI,ptX,hT]
 have htn:=mI.2.2.2.1 _ (Zy hk)
 simp only [Zwd,decide_eq_true_iff] at htn
 have hcr:∀ n,0≤n∧n < ((Zk b).length:Int)→Zi7 [e0,e1,e2,c3,c4,c5,c6,c7,c8,c9,c10,c11,c12,c13,c14,c15] b' n=Zi7 [c0,c1,c2,c3,c4,c5,c6,c7,c8,c9,c10,c11,c12,c13,c14,c15] b n:=fun n hn=>Z13r hc he h0 h1 h2 m2 hU hn mI.2.1 mX.2.1 hd
 unfold Z5z
 have hl:Znm [e0,e1,e2,c3,c4,c5,c6,c7,c8,c9,c10,c11,c12,c13,c14,c15] b' ((Z1p b).getD k 0)=Znm [c0,c1,c2,c3,c4,c5,c6,c7,c8,c9,c10,c11,c12,c13,c14,c15] b ((Z1p b).getD k 0):=by
  unfold Znm Znl
  rw [hcr _ ⟨htn.1.1,htn.2.1⟩,hcr _ ⟨htn.1.2.1,htn.2.2.1⟩,hcr _ ⟨htn.1.2.2,htn.2.2.2⟩]
  rfl
 have hp:Zi8 [e0,e1,e2,c3,c4,c5,c6,c7,c8,c9,c10,c11,c12,c13,c14,c15] (co b' 8)=Zi8 [c0,c1,c2,c3,c4,c5,c6,c7,c8,c9,c10,c11,c12,c13,c14,c15] (co b 8):=by
  funext l
  unfold Zi8 Zl5
  rw [m3 8 (by omega) (by omega)]
  simp only [Z13p hc he]
 rw [hl,hp]
include hc he h0 h1 h2 in
theorem Z18d {I X T:Int} {g:List Int} (hd:(-8192≤d0∧d0≤8192)∧(-8192≤d1∧d1≤8192)∧(-8192≤d2∧d2≤8192)) (hI:Z3e [I,T]=0) (hX:Z3e [X,T]=0) (hm:movL [d0,d1,d2] (dec I) (dec X)) (W H:Int) :
  Z17s (dec X) (dec T) (Z2s (dec X) [e0,e1,e2,c3,c4,c5,c6,c7,c8,c9,c10,c11,c12,c13,c14,c15]) g W H=Z17s (dec I) (dec T) (Z2s (dec I) [c0,c1,c2,c3,c4,c5,c6,c7,c8,c9,c10,c11,c12,c13,c14,c15]) g W H:=by
 rw [Zzc hc he h0 h1 h2 hd hI hX hm]
 have hlk:Z3t (dec X) (dec I):=⟨hm.1,fun i j h3 h11=>by
  by_cases hi:i < (dec I).length
  ·exact (hm.2 i hi).2.2 j (by omega) h11
  ·have k1:(dec X).getD i 0=0:=by simp [List.getD,hm.1,hi]
   have k2:(dec I).getD i 0=0:=by simp [List.getD,hi]
   rw [k1,k2]⟩
 have e1:colP (dec X) (dec T) (Z2s (dec I) [c0,c1,c2,c3,c4,c5,c6,c7,c8,c9,c10,c11,c12,c13,c14,c15]) g=colP (dec I) (dec T) (Z2s (dec I) [c0,c1,c2,c3,c4,c5,c6,c7,c8,c9,c10,c11,c12,c13,c14,c15]) g:=by
  funext x y
  unfold colP
  rw [Z13o hlk]
 have e2:∀ j,Zzi (dec X) (Z2s (dec I) [c0,c1,c2,c3,c4,c5,c6,c7,c8,c9,c10,c11,c12,c13,c14,c15]) j=Zzi (dec I) (Z2s (dec I) [c0,c1,c2,c3,c4,c5,c6,c7,c8,c9,c10,c11,c12,c13,c14,c15]) j:=fun j=>by
  funext x y
  unfold Zzi
  rw [Zfe hlk]
 unfold Z17s
 rw [e1,e2,e2,e2]
end
end Go.Proofs.Ytgcoidbaoigkeaa.fix
