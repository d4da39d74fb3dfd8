/-
  The law TopMoves is answered with true, whatever its arguments, which stay as they were.
-/
import Derived.Test.YtgcoidbaoigkeaaRows
import Derived.SevenTiedAt
import Derived.Test.YtgcoidbaoigkeaaPkf
set_option linter.unusedVariables false
set_option linter.unusedSimpArgs false
open List renaming getElem?_cons_zero → Z18e, getElem?_cons_succ → Z18f, getD_cons_zero → Z18g, getD_cons_succ → Z18h, cons_append → Z18i, nil_append → Z18j, map_cons → Z18k, map_nil → Z18l
namespace Go.Proofs.Ytgcoidbaoigkeaa.topMoves
open Go.RowKit Go.ChangeShapes Go.WideShapes Go.ChangeAt Go.Sx fix
theorem showRT_of {w:World} {I T:Int} (hi:∀ x ∈ dec I,okL w Z3d (elt Z3d x)) (ht:∀ x ∈ dec T,okL w Z68 (elt Z68 x)):Z49 (dec I) (dec T)∧Z9v (dec T) :=
 ⟨Z13l hi ht,fun b hb e he=>by
  have h2:=(Zfc (Zm7 (j:=2) (ht b hb) rfl)).2
  exact Z4c (h2 e he)⟩
noncomputable def G_TopMoves:List Sum:=[Zj5,Z5t,Zm2,Zrg,Zf1]
def I_TopMoves:List Inf:=[Zz7,Zya,Z151,Z152,Zyh]
def t_TopMoves:TX:=(.callp 0 [] (.loop 2 [none,none] [(.c 0),(.c 0)] (.ite (.and (.lt (.v 27) (.ln (.v 0))) (.lt (.v 27) (.c 300))) (.asrt (.le (.c 0) (.v 27)) (.back 0 [(.wr .i64 (.add (.v 26) (.wr .i64 (.add (.wr .i64 (.add (.mn (.ln (.l2 .at (.l2 .at (.l2 .at (.v 0) (.v 27)) (.c 0)) (.c 4))) (.c 10000)) (.mn (.ln (.l2 .at (.l2 .at (.l2 .at (.v 0) (.v 27)) (.c 1)) (.c 4))) (.c 10000)))) (.wr .i64 (.mul (.c 2) (.mn (.ln (.l2 .at (.l2 .at (.l2 .at (.v 0) (.v 27)) (.c 2)) (.c 4))) (.c 10000)))))))),(.wr .i64 (.add (.v 27) (.c 1)))]))
(.loop 2 [none,none] [(.v 26),(.c 0)] (.ite (.and (.lt (.v 29) (.ln (.v 1))) (.lt (.v 29) (.c 100))) (.asrt (.le (.c 0) (.v 29)) (.back 1 [(.wr .i64 (.add (.v 28) (.wr .i64 (.quo (.mn (.ln (.l2 .at (.l2 .at (.l2 .at (.v 1) (.v 29)) (.c 2)) (.c 4))) (.c 10000)) (.c 20))))),(.wr .i64 (.add (.v 29) (.c 1)))]))
(.ite (.or (.or (.lt (.c 100) (.ln (.v 0))) (.lt (.c 600) (.v 28))) (.lt (.c 40) (.ln (.v 1)))) (.ret [(.c 1)])
(.call 1 [(.v 0),(.v 1),(.v 2),(.v 3),(.v 4),(.v 5),(.v 6),(.v 7),(.v 8),(.v 9),(.v 10),(.v 11),(.v 12),(.v 13),(.v 14),(.v 15),(.v 16),(.v 17),(.v 18),(.v 19),(.v 20),(.v 21)] (.ite (.or (.or (.not (.eq (.v 36) (.c 0))) (.lt (.c 8192) (.mx (.mx (.v 22) (.v 23)) (.v 24)))) (.lt (.mn (.mn (.v 22) (.v 23)) (.v 24)) (.c (-8192)))) (.ret [(.c 1)])
(.any 18 2 [(.v 0),(.v 1),(.v 2),(.v 3),(.v 4),(.v 5),(.v 6),(.v 7),(.v 8),(.v 9),(.v 10),(.v 11),(.v 12),(.v 13),(.v 14),(.v 15),(.v 16),(.v 17),(.v 22),(.v 23),(.v 24)] (.ite (.eq (.v 54) (.c 0)) (.ret [(.c 1)])
(.call 1 [(.v 37),(.v 1),(.v 38),(.v 39),(.v 40),(.v 41),(.v 42),(.v 43),(.v 44),(.v 45),(.v 46),(.v 47),(.v 48),(.v 49),(.v 50),(.v 51),(.v 52),(.v 53),(.v 18),(.v 19),(.v 20),(.v 21)] (.ite (.not (.eq (.v 61) (.c 0))) (.ret [(.c 0)])
(.call 4 [(.v 30),(.v 31),(.v 32),(.v 33),(.v 34),(.v 35),(.v 55),(.v 56),(.v 57),(.v 58),(.v 59),(.v 60)] (.ite (.nz (.v 62)) (.ret [(.c 1)])
(.ret [(.c 0)])))))))))))))))
theorem tree_TopMoves:Z17 (Zu [] I_TopMoves [] ([none,none]++zs 16++ivs 4 0 255++zs 3) (Z12y Try.prog (Zbj Try.prog [(3,6),(7,46)]) gl0 G_TopMoves 7 18 2 12 (Zj1 2) 1000 3 [Sho,An 16,Cl,An 3] [Bo]))=t_TopMoves:=by kernel_rfl
theorem g_TopMoves:Gok Try.prog G_TopMoves:=(more Z13i (more Z12t (more Z187 (more Z188 (fix.one Z12u)))))
theorem o_TopMoves:Zr G_TopMoves I_TopMoves:=(Z3 Zza (Z3 Zye (Z3 Z139 (Z3 Z13a (Z3 Zyi Za)))))
set_option maxHeartbeats 4000000 in
theorem sat_top (I T c0 c1 c2 c3 c4 c5 c6 c7 c8 c9 c10 c11 c12 c13 c14 c15 g0 g1 g2 g3 d0 d1 d2 f0 f1 f2 f3 f4 f5 Fe:Int)
  (hW:Z5t.sem [I,T,c0,c1,c2,c3,c4,c5,c6,c7,c8,c9,c10,c11,c12,c13,c14,c15,g0,g1,g2,g3]=[f0,f1,f2,f3,f4,f5,Fe]) (pW:Z5t.pre [I,T,c0,c1,c2,c3,c4,c5,c6,c7,c8,c9,c10,c11,c12,c13,c14,c15,g0,g1,g2,g3])
  (hall:Fe=0→((-8192≤d0∧d0≤8192)∧(-8192≤d1∧d1≤8192)∧(-8192≤d2∧d2≤8192))→Zm2.pre [I,T,c0,c1,c2,c3,c4,c5,c6,c7,c8,c9,c10,c11,c12,c13,c14,c15,d0,d1,d2] ∧
   ∀ Z e0 e1 e2 k:Int,movR I T [c0,c1,c2,c3,c4,c5,c6,c7,c8,c9,c10,c11,c12,c13,c14,c15] [d0,d1,d2] [Z,e0,e1,e2,c3,c4,c5,c6,c7,c8,c9,c10,c11,c12,c13,c14,c15,k]→k ≠ 0→Z5t.pre [Z,T,e0,e1,e2,c3,c4,c5,c6,c7,c8,c9,c10,c11,c12,c13,c14,c15,g0,g1,g2,g3]∧Z5t.sem [Z,T,e0,e1,e2,c3,c4,c5,c6,c7,c8,c9,c10,c11,c12,c13,c14,c15,g0,g1,g2,g3]=[f0,f1,f2,f3,f4,f5,0]∧Zf1.pre [f0,f1,f2,f3,f4,f5,f0,f1,f2,f3,f4,f5]) :
  t_TopMoves.sat G_TopMoves [] (fun ys=>ys=[1]) [] [I,T,c0,c1,c2,c3,c4,c5,c6,c7,c8,c9,c10,c11,c12,c13,c14,c15,g0,g1,g2,g3,d0,d1,d2]:=by
 have hD:Zj5.sem []=[1]:=rfl
 have hS:∀ l,Zf1.sem l=[1]:=fun _=>rfl
 unfold t_TopMoves G_TopMoves
 simp only [TX.sat,XB.prop]
 simp only [X.den,L2.den,TX.sat,XB.prop,X.den,Z18k,Z18l,Z18e,Z18f,Z18i,Z18j,Z18g,Z18h,mkS,mkP,and_true,true_and,Z18p,Z18q,not_or,not_and,Z18m,ne_eq,Z18n,Z18o]
 simp only [hD,hW,TX.sat,XB.prop,X.den,Z18k,Z18l,Z18e,Z18f,Z18i,Z18j,Z18g,Z18h,mkS,mkP,and_true,true_and,Z18p,Z18q,not_or,not_and,Z18m,ne_eq,Z18n,Z18o]
 refine ⟨fun xs=>∃ i:Nat,xs.getD 1 0=(i:Int)∧i≤300,fun xs=>300 - (xs.getD 1 0).toNat,fun xs hx _=>Zv (n:=2) hx,⟨0,rfl,by omega⟩,?_⟩
 intro xs hx hA
 obtain ⟨a0,a1,rfl⟩:=Zfh hx
 obtain ⟨i,hi,hil⟩:=hA
 simp only [TX.sat,XB.prop,X.den,Z18k,Z18l,Z18e,Z18f,Z18i,Z18j,Z18g,Z18h,mkS,mkP,and_true,true_and,Z18p,Z18q,not_or,not_and,Z18m,ne_eq,Z18n,Z18o] at hi ⊢
 subst hi
 refine ⟨fun hlt=>⟨by omega,?_⟩,fun hge=>?_⟩
 ·have hw:IntKind.i64.wrap ((i:Int) + 1)=((i + 1:Nat):Int):=by rw [Z10 (by omega) (by omega)]; omega
  refine ⟨⟨i + 1,hw,by omega⟩,?_⟩
  rw [hw,Int.toNat_natCast,Int.toNat_natCast]
  omega
 clear hge hil
 refine ⟨fun xs=>∃ i:Nat,xs.getD 1 0=(i:Int)∧i≤100,fun xs=>100 - (xs.getD 1 0).toNat,fun xs hx _=>Zv (n:=2) hx,⟨0,rfl,by omega⟩,?_⟩
 intro xs hx hA
 obtain ⟨b0,b1,rfl⟩:=Zfh hx
 obtain ⟨i,hi,hil⟩:=hA
 simp only [TX.sat,XB.prop,X.den,Z18k,Z18l,Z18e,Z18f,Z18i,Z18j,Z18g,Z18h,mkS,mkP,and_true,true_and,Z18p,Z18q,not_or,not_and,Z18m,ne_eq,Z18n,Z18o] at hi ⊢
 subst hi
 refine ⟨fun hlt=>⟨by omega,?_⟩,fun hge=>?_⟩
 ·have hw:IntKind.i64.wrap ((i:Int) + 1)=((i + 1:Nat):Int):=by rw [Z10 (by omega) (by omega)]; omega
  refine ⟨⟨i + 1,hw,by omega⟩,?_⟩
  rw [hw,Int.toNat_natCast,Int.toNat_natCast]
  omega
 clear hge hil
 refine ⟨fun _=>trivial,fun _=>⟨pW,fun _=>trivial,fun hok=>?_⟩⟩
 obtain ⟨q1,q2⟩:=hall (by omega) (by omega)
 refine ⟨q1,fun ys hy hr=>?_⟩
 have hr':movR I T [c0,c1,c2,c3,c4,c5,c6,c7,c8,c9,c10,c11,c12,c13,c14,c15] [d0,d1,d2] ys:=hr
 obtain ⟨Z,k,hys,hm,hk⟩:=id hr'
 obtain ⟨e0,he0⟩:∃ e,e=IntKind.i64.wrap (c0 + d0):=⟨_,rfl⟩
 obtain ⟨e1,he1⟩:∃ e,e=IntKind.i64.wrap (c1 + d1):=⟨_,rfl⟩
 obtain ⟨e2,he2⟩:∃ e,e=IntKind.i64.wrap (c2 + d2):=⟨_,rfl⟩
 have hys':ys=[Z,e0,e1,e2,c3,c4,c5,c6,c7,c8,c9,c10,c11,c12,c13,c14,c15,k]:=by
  rw [hys,he0,he1,he2]
  rfl
 subst hys'
 simp only [TX.sat,XB.prop,X.den,Z18k,Z18l,Z18e,Z18f,Z18i,Z18j,Z18g,Z18h,mkS,mkP,and_true,true_and,Z18p,Z18q,not_or,not_and,Z18m,ne_eq,Z18n,Z18o]
 refine ⟨fun _=>trivial,fun hk0=>?_⟩
 obtain ⟨r1,r2,r3⟩:=q2 Z e0 e1 e2 k hr' hk0
 simp only [r2,hS,TX.sat,XB.prop,X.den,Z18k,Z18l,Z18e,Z18f,Z18i,Z18j,Z18g,Z18h,mkS,mkP,and_true,true_and,Z18p,Z18q,not_or,not_and,Z18m,ne_eq,Z18n,Z18o]
 exact ⟨r1,fun h=>h.elim,fun _=>⟨r3,fun _=>trivial,fun h=>absurd h (by decide)⟩⟩
theorem pins (I T:Int) (hr0:Z49 (dec I) (dec T)∧Z9v (dec T)) (xs1:List Int) (hr1:Zd (An 16).ks xs1) (xs2:List Int) (hr2:Zd (⟨true,List.replicate 4 (.i .u8)⟩:Sh).ks xs2) (xs3:List Int) (hr3:Zd (An 3).ks xs3):Zq ([none,none]++zs 16++ivs 4 0 255++zs 3) ([I,T]++(xs1++(xs2++(xs3++[])))):=by
 have v1:=Z1m hr1
 have v2:=Z1m hr2
 have v3:=Z1m hr3
 obtain ⟨h1,i1⟩:=Zku hr1
 obtain ⟨c0,c1,c2,c3,c4,c5,c6,c7,c8,c9,c10,c11,c12,c13,c14,c15,rfl⟩:=Znc h1
 obtain ⟨g0,g1,g2,g3,rfl⟩:=len4 (show xs2.length=4 from Z1t hr2)
 obtain ⟨h3,i3⟩:=Zku hr3
 obtain ⟨d0,d1,d2,rfl⟩:=len3 h3
 exact Z1 (trivial) (Z1 (trivial) (Z1 (v1.2 0) (Z1 (v1.2 1) (Z1 (v1.2 2) (Z1 (v1.2 3) (Z1 (v1.2 4) (Z1 (v1.2 5) (Z1 (v1.2 6) (Z1 (v1.2 7) (Z1 (v1.2 8) (Z1 (v1.2 9) (Z1 (v1.2 10) (Z1 (v1.2 11) (Z1 (v1.2 12) (Z1 (v1.2 13) (Z1 (v1.2 14) (Z1 (v1.2 15) (Z1 (v2.2 0) (Z1 (v2.2 1) (Z1 (v2.2 2) (Z1 (v2.2 3) (Z1 (v3.2 0) (Z1 (v3.2 1) (Z1 (v3.2 2) Z2))))))))))))))))))))))))
set_option maxHeartbeats 4000000 in
theorem plain (I T:Int) (hr0:Z49 (dec I) (dec T)∧Z9v (dec T)) (xs1:List Int) (hr1:Zd (An 16).ks xs1) (xs2:List Int) (hr2:Zd (⟨true,List.replicate 4 (.i .u8)⟩:Sh).ks xs2) (xs3:List Int) (hr3:Zd (An 3).ks xs3):t_TopMoves.sat G_TopMoves [] (fun ys=>ys=[1]) [] ([I,T]++(xs1++(xs2++(xs3++[])))):=by
 have v1:=Z1m hr1
 have v2:=Z1m hr2
 have v3:=Z1m hr3
 obtain ⟨h1,i1⟩:=Zku hr1
 obtain ⟨c0,c1,c2,c3,c4,c5,c6,c7,c8,c9,c10,c11,c12,c13,c14,c15,rfl⟩:=Znc h1
 obtain ⟨g0,g1,g2,g3,rfl⟩:=len4 (show xs2.length=4 from Z1t hr2)
 obtain ⟨h3,i3⟩:=Zku hr3
 obtain ⟨d0,d1,d2,rfl⟩:=len3 h3
 obtain ⟨hr,hT⟩:=hr0
 have pW:Z5t.pre [I,T,c0,c1,c2,c3,c4,c5,c6,c7,c8,c9,c10,c11,c12,c13,c14,c15,g0,g1,g2,g3]:=⟨Z1 (trivial) (Z1 (trivial) (Z1 (v1.2 0) (Z1 (v1.2 1) (Z1 (v1.2 2) (Z1 (v1.2 3) (Z1 (v1.2 4) (Z1 (v1.2 5) (Z1 (v1.2 6) (Z1 (v1.2 7) (Z1 (v1.2 8) (Z1 (v1.2 9) (Z1 (v1.2 10) (Z1 (v1.2 11) (Z1 (v1.2 12) (Z1 (v1.2 13) (Z1 (v1.2 14) (Z1 (v1.2 15) (Z1 (v2.2 0) (Z1 (v2.2 1) (Z1 (v2.2 2) (Z1 (v2.2 3) Z2))))))))))))))))))))),hr,hT⟩
 have hE:∀ Z c0 c1 c2 c3 c4 c5 c6 c7 c8 c9 c10 c11 c12 c13 c14 c15:Int,Z14v [Z,T,c0,c1,c2,c3,c4,c5,c6,c7,c8,c9,c10,c11,c12,c13,c14,c15,g0,g1,g2,g3]=if Z3e [Z,T]=0 then (if Z4g [c0,c1,c2,c3,c4,c5,c6,c7,c8,c9,c10,c11,c12,c13,c14,c15] 0=true then 0 else 150) else Z3e [Z,T]:=fun _ _ _ _ _ _ _ _ _ _ _ _ _ _ _ _ _=>rfl
 have semI:∀ Z c0 c1 c2 c3 c4 c5 c6 c7 c8 c9 c10 c11 c12 c13 c14 c15:Int,Z5t.sem [Z,T,c0,c1,c2,c3,c4,c5,c6,c7,c8,c9,c10,c11,c12,c13,c14,c15,g0,g1,g2,g3]=if Z14v [Z,T,c0,c1,c2,c3,c4,c5,c6,c7,c8,c9,c10,c11,c12,c13,c14,c15,g0,g1,g2,g3]=0 then Z17s (dec Z) (dec T) (Z2s (dec Z) [c0,c1,c2,c3,c4,c5,c6,c7,c8,c9,c10,c11,c12,c13,c14,c15]) [g0,g1,g2,g3] c14 c15 else [0,0,cod [],cod [],cod [],cod [],Z14v [Z,T,c0,c1,c2,c3,c4,c5,c6,c7,c8,c9,c10,c11,c12,c13,c14,c15,g0,g1,g2,g3]]:=fun _ _ _ _ _ _ _ _ _ _ _ _ _ _ _ _ _=>rfl
 by_cases hF:Z14v [I,T,c0,c1,c2,c3,c4,c5,c6,c7,c8,c9,c10,c11,c12,c13,c14,c15,g0,g1,g2,g3]=0
 case neg =>
  exact sat_top I T c0 c1 c2 c3 c4 c5 c6 c7 c8 c9 c10 c11 c12 c13 c14 c15 g0 g1 g2 g3 d0 d1 d2 0 0 (cod []) (cod []) (cod []) (cod []) _ (by rw [semI,if_neg hF]) pW (fun h=>absurd h hF)
 have hgood:Z3e [I,T]=0∧Z4g [c0,c1,c2,c3,c4,c5,c6,c7,c8,c9,c10,c11,c12,c13,c14,c15] 0=true:=by
  have h:=hF
  rw [hE] at h
  split at h
  ·rename_i k1
   split at h
   ·rename_i k2
    exact ⟨k1,k2⟩
   ·exact absurd h (by decide)
  ·rename_i k1
   exact absurd h k1
 obtain ⟨k1,k2⟩:=hgood
 have hl:=(Z34 k1).1
 have hcw:(-4096≤c0∧c0≤4096)∧(-4096≤c1∧c1≤4096)∧(-4096≤c2∧c2≤4096):=by
  have:=k2
  unfold Z4g at this
  simp only [Z18r] at this
  have h:=this.1
  unfold Zhp at h
  simp only [TX.sat,XB.prop,X.den,Z18k,Z18l,Z18e,Z18f,Z18i,Z18j,Z18g,Z18h,mkS,mkP,and_true,true_and,Z18p,Z18q,not_or,not_and,Z18m,ne_eq,Z18n,Z18o,Z18s,Nat.zero_add,Nat.reduceAdd] at h
  exact h
 obtain ⟨_,_,h14,h15⟩:=Z9m k2
 have h14':1≤c14∧c14≤64:=h14
 have h15':1≤c15∧c15≤64:=h15
 obtain ⟨S,hS⟩:∃ S,S=Z2s (dec I) [c0,c1,c2,c3,c4,c5,c6,c7,c8,c9,c10,c11,c12,c13,c14,c15]:=⟨_,rfl⟩
 refine sat_top I T c0 c1 c2 c3 c4 c5 c6 c7 c8 c9 c10 c11 c12 c13 c14 c15 g0 g1 g2 g3 d0 d1 d2 c14 c15 (cod (Zbo (colP (dec I) (dec T) S [g0,g1,g2,g3]) c14.toNat c15.toNat)) (cod (Zbo (Zzi (dec I) S 0) c14.toNat c15.toNat)) (cod (Zbo (Zzi (dec I) S 1) c14.toNat c15.toNat)) (cod (Zbo (Zzi (dec I) S 2) c14.toNat c15.toNat)) 0 (by rw [semI,if_pos hF,← hS]; rfl) pW (fun _ hd=>⟨?_,fun Z e0 e1 e2 k hR hk0=>?_⟩)
 ·exact ⟨rfl,Z1 (trivial) (Z1 (trivial) (Z1 (v1.2 0) (Z1 (v1.2 1) (Z1 (v1.2 2) (Z1 (v1.2 3) (Z1 (v1.2 4) (Z1 (v1.2 5) (Z1 (v1.2 6) (Z1 (v1.2 7) (Z1 (v1.2 8) (Z1 (v1.2 9) (Z1 (v1.2 10) (Z1 (v1.2 11) (Z1 (v1.2 12) (Z1 (v1.2 13) (Z1 (v1.2 14) (Z1 (v1.2 15) (Z1 (v3.2 0) (Z1 (v3.2 1) (Z1 (v3.2 2) Z2)))))))))))))))))))),hr,by show (dec I).length≤999999; omega,fun b hb=>by have:=(Zbl ((Z34 k1).2.2.2 b hb)).1.1; omega⟩
 ·obtain ⟨Y,k',hys,hm,hk⟩:=hR
  simp only [Z18g,Z18h,List.drop_succ_cons,List.drop_zero,Z18i,Z18j,List.cons.injEq,and_true,true_and] at hys hk
  obtain ⟨rfl,w0,w1,w2,rfl⟩:=hys
  rw [Z10 (by omega) (by omega)] at w0 w1 w2
  rw [Z10 (by omega) (by omega),Z10 (by omega) (by omega),Z10 (by omega) (by omega),← w0,← w1,← w2] at hk
  have hk:=hk.resolve_left hk0
  obtain ⟨_,hX,hC⟩:=hk
  refine ⟨⟨Z1 (trivial) (Z1 (trivial) (Z1 (zc _ (by omega) (by omega)) (Z1 (zc _ (by omega) (by omega)) (Z1 (zc _ (by omega) (by omega)) (Z1 (v1.2 3) (Z1 (v1.2 4) (Z1 (v1.2 5) (Z1 (v1.2 6) (Z1 (v1.2 7) (Z1 (v1.2 8) (Z1 (v1.2 9) (Z1 (v1.2 10) (Z1 (v1.2 11) (Z1 (v1.2 12) (Z1 (v1.2 13) (Z1 (v1.2 14) (Z1 (v1.2 15) (Z1 (v2.2 0) (Z1 (v2.2 1) (Z1 (v2.2 2) (Z1 (v2.2 3) Z2))))))))))))))))))))),Zm1 hr hm,hT⟩,?_,?_⟩
  ·rw [semI,hE,if_pos hX,if_pos hC,if_pos rfl,Z18d k2 hC w0 w1 w2 hd k1 hX hm,← hS]
   rfl
  ·refine ⟨Zv (n:=12) rfl,rfl,fun j h2 h5=>?_⟩
   have hal:∀ f:Int→Int→Int,(dec (cod (Zbo f c14.toNat c15.toNat))).length≤1000000:=fun f=>by
    rw [Z4,Zix]
    have:c15.toNat * c14.toNat≤64 * 64:=Nat.mul_le_mul (by omega) (by omega)
    omega
   have:j=2∨j=3∨j=4∨j=5:=by omega
   rcases this with rfl | rfl | rfl | rfl <;> exact hal _
theorem hM:RbM Try.prog G_TopMoves 18 2 2 12 (Zj1 2):=Zyy rfl rfl
set_option maxRecDepth 100000 in
theorem lifted (os:Os) (started:os.Started) (H:Type) (enc:TypeId × Value→H) :
  ReturnsInHanded {} Try.checked os 3 .any (Rows.topMovesSpec.pre6 enc Try.prog Try.f3 Rows.topMovesRow.domain false) (Rows.topMovesSpec.post enc Try.prog Try.f3 false true false false):=by
 refine returnsInHanded_of_change (C:=Try.checked) facts.own started (by kernel_rfl) Try.func3
  (ChangeSpec.witness6 (enc:=enc) (C:=Try.checked) false ⟨#[],#[.agg #[.slice none 0 0,.slice none 0 0],.agg #[.int .i64 0,.int .i64 0,.int .i64 0,.int .i64 0,.int .i64 0,.int .i64 0,.int .i64 0,.int .i64 0,.int .i64 0,.int .i64 0,.int .i64 0,.int .i64 0,.int .i64 0,.int .i64 0,.int .i64 0,.int .i64 0],.agg #[.int .u8 0,.int .u8 0,.int .u8 0,.int .u8 0],.agg #[.int .i64 0,.int .i64 0,.int .i64 0]],[]⟩ 8 (by kernel_rfl) (by kernel_rfl) (by kernel_rfl) (by kernel_rfl)) ?_
 intro W base args ds gs before hval0 hW hcnd _
 have hval:∀ (j:Nat) t v,Try.f3.params[j]?=some t→args[j]?=some v→Value.okWide Try.prog W .any base t v:=hval0
 have hW':=hW
 obtain ⟨p,q,hA0,hV,rfl,hfz,hnd⟩:=hW
 have hA:DataW.TrodAll enc Try.prog W 0 (fun _=>true) true Try.f3.params.toList args.toList ds p:=hA0
 rw [Try.params3] at hA hval
 obtain ⟨v0,vs0,d0,ds0,p0,q0,hargs,rfl,rfl,h0,r0⟩:=trodAll_cons hA
 obtain ⟨v1,vs1,d1,ds1,p1,q1,rfl,rfl,rfl,h1,r1⟩:=trodAll_cons r0
 obtain ⟨v2,vs2,d2,ds2,p2,q2,rfl,rfl,rfl,h2,r2⟩:=trodAll_cons r1
 obtain ⟨v3,vs3,d3,ds3,p3,q3,rfl,rfl,rfl,h3,r3⟩:=trodAll_cons r2
 obtain ⟨rfl,rfl,rfl⟩:=trodAll_nil r3
 obtain rfl:args=#[v0,v1,v2,v3]:=by cases args; simp_all
 obtain ⟨rfl,rfl⟩:=trodVars_none hV
 have k0:=h0
 have lt0:∀ x ∈ p0,x.block < W.heap.size:=by obtain ⟨m,hm⟩:=k0; exact DataW.trod_lt m _ _ _ hm
 have k1:=h1
 have lt1:∀ x ∈ p1,x.block < W.heap.size:=by obtain ⟨m,hm⟩:=k1; exact DataW.trod_lt m _ _ _ hm
 have k2:=h2
 have lt2:∀ x ∈ p2,x.block < W.heap.size:=by obtain ⟨m,hm⟩:=k2; exact DataW.trod_lt m _ _ _ hm
 have k3:=h3
 have lt3:∀ x ∈ p3,x.block < W.heap.size:=by obtain ⟨m,hm⟩:=k3; exact DataW.trod_lt m _ _ _ hm
 obtain ⟨I0,T0,hs0,hi0,ht0⟩:=Z13k (e1:=83) (k1:=Z3d) (e2:=89) (k2:=Z68) (fun _=>rfl) Try.underlying25 (by kernel_rfl) (hval 0 25 v0 rfl rfl) h0
 have hr0:=showRT_of hi0 ht0
 obtain ⟨xs1,hv1,hr1⟩:=Zn4 (sh:=An 16) (by kernel_rfl) (by kernel_rfl) (hval 1 31 v1 rfl rfl) h1
 have hs1:ShR (fun _ ks u n=>SlN W ks u n) (An 16) v1 xs1:=by rw [hv1]; exact Zvb rfl rfl (Z1t hr1)
 obtain ⟨xs2,hv2,hr2⟩:=Zn4 (sh:=⟨true,List.replicate 4 (.i .u8)⟩) (by kernel_rfl) (by kernel_rfl) (hval 2 33 v2 rfl rfl) h2
 have hs2:ShR (fun _ ks u n=>SlN W ks u n) (⟨true,List.replicate 4 (.i .u8)⟩) v2 xs2:=by rw [hv2]; exact Zvb rfl rfl (Z1t hr2)
 obtain ⟨xs3,hv3,hr3⟩:=Zn4 (sh:=An 3) (by kernel_rfl) (by kernel_rfl) (hval 3 27 v3 rfl rfl) h3
 have hs3:ShR (fun _ ks u n=>SlN W ks u n) (An 3) v3 xs3:=by rw [hv3]; exact Zvb rfl rfl (Z1t hr3)
 clear hA0 hval0
 have hx:Z63 (fun _ ks u n=>SlN W ks u n) [Sho,An 16,⟨true,List.replicate 4 (.i .u8)⟩,An 3] [v0,v1,v2,v3] ([I0,T0]++(xs1++(xs2++(xs3++[])))):=⟨_,_,_,_,rfl,rfl,hs0,⟨_,_,_,_,rfl,rfl,hs1,⟨_,_,_,_,rfl,rfl,hs2,⟨_,_,_,_,rfl,rfl,hs3,⟨rfl,rfl⟩⟩⟩⟩⟩
 have hcalls:=lawG facts.mixed g_TopMoves hM o_TopMoves tree_TopMoves W hx rfl (pins I0 T0 hr0 xs1 hr1 xs2 hr2 xs3 hr3) (plain I0 T0 hr0 xs1 hr1 xs2 hr2 xs3 hr3) (fun p hp=>by cases hp)
 refine hcalls.mono fun e W' ⟨he,bel⟩=>?_
 subst he
 exact ⟨_,rfl,_,_,_,[],_,[],hW',trodAll_mk1 (shut_bool Try.underlying4 _),(trodAll_cons_mk (Below.trod facts.laidOut (by kernel_rfl) (of_decide_eq_true (by kernel_rfl)) k0 bel lt0) (trodAll_cons_mk (Below.trod facts.laidOut (by kernel_rfl) (of_decide_eq_true (by kernel_rfl)) k1 bel lt1) (trodAll_cons_mk (Below.trod facts.laidOut (by kernel_rfl) (of_decide_eq_true (by kernel_rfl)) k2 bel lt2) (trodAll_cons_mk (Below.trod facts.laidOut (by kernel_rfl) (of_decide_eq_true (by kernel_rfl)) k3 bel lt3) trodAll_mk0)))),rfl,bel.frame _,fun h=>by cases h⟩
theorem over:Rows.topMovesRow.holds Try.pinned (OpenSpec.ofChange Rows.topMovesSpec) :=
 OpenClaim.holds_of_wide 3 Try.f3 rfl rfl rfl rfl rfl rfl rfl ⟨rfl,rfl,rfl,rfl,rfl⟩ rfl rfl rfl rfl rfl (by kernel_rfl) Try.func3
  (facts.joined (by kernel_rfl) (by kernel_rfl) (by kernel_rfl) (by kernel_rfl) (by kernel_rfl) (by kernel_rfl) (by kernel_rfl) rfl rfl rfl rfl)
  (of_decide_eq_true (by kernel_rfl)) (by unfold Func.isWrapper; first | (rw [if_pos (by decide +kernel)]; kernel_rfl) | (rw [if_neg (by decide +kernel)]; exact ⟨rfl,rfl⟩))
  (fun os started H enc _=>lifted os started H enc)
theorem proved:Rows.TopMovesSaid:=over
#print axioms proved
end Go.Proofs.Ytgcoidbaoigkeaa.topMoves
