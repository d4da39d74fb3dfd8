/-
  The law TopOnly is answered with true, whatever its arguments, which stay as they were.
-/
import Derived.Test.YtgcoidbaoigkeaaGreatDoorRows
import Derived.Test.YtgcoidbaoigkeaaGreatDoorCards
import Derived.Test.YtgcoidbaoigkeaaGreatDoorTie
import Derived.SevenTiedAt
import Derived.Test.YtgcoidbaoigkeaaGreatDoorPkf
set_option linter.unusedVariables false
set_option linter.unusedSimpArgs false
open List renaming getElem?_cons_zero → Z1gq, getElem?_cons_succ → Z1gr, getD_cons_zero → Z1gs, getD_cons_succ → Z1gt, cons_append → Z1gu, nil_append → Z1gv, map_cons → Z1gw, map_nil → Z1gx
namespace Go.Proofs.YtgcoidbaoigkeaaGreatDoor.topOnly
open Go.RowKit Go.ChangeShapes Go.WideShapes Go.ChangeAt Go.Sx fix
theorem range_at:∀ {ks:List K} {xs:List Int} {j:Nat} {k:K},Zc ks xs→ks[j]?=some k→inK k (xs.getD j 0)
 | k::ks,x::xs,0,k',h,hk=>by
  simp only [Z1gq,Option.some.injEq] at hk
  subst hk
  exact h.1
 | k::ks,x::xs,j + 1,k',h,hk=>by
  simp only [Z1gr] at hk
  show inK k' (xs.getD j 0)
  exact range_at h.2 hk
 | [],[],_,_,_,hk=>by simp at hk
 | [],_::_,_,_,h,_=>h.elim
 | _::_,[],_,_,h,_=>h.elim
theorem boxI_range {b:Int} (h:Zc Z39 (dec b)):Zc Zrd (dec (Zi1 b)):=by
 unfold Zi1
 rw [Z4]
 exact ⟨range_at (j:=12) h rfl,range_at (j:=13) h rfl,range_at (j:=14) h rfl,range_at (j:=15) h rfl,range_at (j:=16) h rfl,range_at (j:=17) h rfl,trivial⟩
theorem show_okB {I T:Int} (h:Z2k [I,T]=0):∀ x ∈ (dec I).map Zi1,okB x=true:=by
 obtain ⟨hl,_,_,hm⟩:=Z1z h
 intro x hx
 obtain ⟨b,hb,rfl⟩:=List.mem_map.1 hx
 exact Z156 (hm b hb)
theorem showRT_of {w:World} {I T:Int} (hi:∀ x ∈ dec I,okL w Z39 (elt Z39 x)) (ht:∀ x ∈ dec T,okL w Z7e (elt Z7e x)):Z3o (dec I) (dec T)∧Zc4 (dec T) :=
 ⟨Z1b9 hi ht,fun b hb e he=>by
  have h2:=(Zhy (Zq3 (j:=2) (ht b hb) rfl)).2
  exact Z50 (h2 e he)⟩
noncomputable def G_TopOnly:List Sum:=[Zmg,Zc3,Z47,Zq1,Zof,Zpx,Zwk,Z6t]
def I_TopOnly:List Inf:=[Z15q,Z1c4,Zef,Z1d0,Z1bp,Z1cx,Z1cy,Z14x]
def t_TopOnly:TX:=(.callp 0 [] (.loop 2 [none,none] [(.c 0),(.c 0)] (.ite (.and (.lt (.v 30) (.ln (.v 0))) (.lt (.v 30) (.c 300))) (.asrt (.le (.c 0) (.v 30)) (.back 0 [(.wr .i64 (.add (.v 29) (.wr .i64 (.add (.wr .i64 (.add (.mn (.ln (.l2 .at (.l2 .at (.l2 .at (.v 0) (.v 30)) (.c 0)) (.c 4))) (.c 10000)) (.mn (.ln (.l2 .at (.l2 .at (.l2 .at (.v 0) (.v 30)) (.c 1)) (.c 4))) (.c 10000)))) (.wr .i64 (.mul (.c 2) (.mn (.ln (.l2 .at (.l2 .at (.l2 .at (.v 0) (.v 30)) (.c 2)) (.c 4))) (.c 10000)))))))),(.wr .i64 (.add (.v 30) (.c 1)))]))
(.loop 2 [none,none] [(.v 29),(.c 0)] (.ite (.and (.lt (.v 32) (.ln (.v 1))) (.lt (.v 32) (.c 100))) (.asrt (.le (.c 0) (.v 32)) (.back 1 [(.wr .i64 (.add (.v 31) (.wr .i64 (.quo (.mn (.ln (.l2 .at (.l2 .at (.l2 .at (.v 1) (.v 32)) (.c 2)) (.c 4))) (.c 10000)) (.c 20))))),(.wr .i64 (.add (.v 32) (.c 1)))]))
(.ite (.or (.or (.lt (.c 100) (.ln (.v 0))) (.lt (.c 600) (.v 31))) (.lt (.c 40) (.ln (.v 1)))) (.ret [(.c 1)])
(.call 1 [(.v 0),(.v 1),(.v 2),(.v 3),(.v 4),(.v 5),(.v 6),(.v 7),(.v 8),(.v 9),(.v 10),(.v 11),(.v 12),(.v 13),(.v 14),(.v 15),(.v 16),(.v 17),(.v 26),(.v 27)] (.ite (.or (.not (.eq (.v 40) (.c 0))) (.or (.or (.or (.lt (.v 26) (.v 22)) (.lt (.v 24) (.v 26))) (.lt (.v 27) (.v 23))) (.lt (.v 25) (.v 27)))) (.ret [(.c 1)])
(.callp 2 [(.v 2),(.v 3),(.v 4),(.v 5),(.v 6),(.v 7),(.v 8),(.v 9),(.v 10),(.v 11),(.v 12),(.v 13),(.v 14),(.v 15),(.v 16),(.v 17),(.v 22),(.v 23),(.v 24),(.v 25)] (.ite (.not (.eq (.v 41) (.c 0))) (.ret [(.c 1)])
(.call 3 [(.v 0),(.v 1)] (.call 4 [(.v 42),(.v 2),(.v 3),(.v 4),(.v 5),(.v 6),(.v 7),(.v 8),(.v 9),(.v 10),(.v 11),(.v 12),(.v 13),(.v 14),(.v 15),(.v 16),(.v 17),(.v 22),(.v 23),(.v 24),(.v 25)] (.any 1 5 [(.v 0),(.v 1),(.v 43)] (.call 1 [(.v 45),(.v 1),(.v 2),(.v 3),(.v 4),(.v 5),(.v 6),(.v 7),(.v 8),(.v 9),(.v 10),(.v 11),(.v 12),(.v 13),(.v 14),(.v 15),(.v 16),(.v 17),(.v 26),(.v 27)] (.call 7 [(.v 0),(.v 1),(.v 2),(.v 3),(.v 4),(.v 5),(.v 6),(.v 7),(.v 8),(.v 9),(.v 10),(.v 11),(.v 12),(.v 13),(.v 14),(.v 15),(.v 16),(.v 17),(.v 18),(.v 19),(.v 20),(.v 21),(.v 26),(.v 27)] (.call 7 [(.v 45),(.v 1),(.v 2),(.v 3),(.v 4),(.v 5),(.v 6),(.v 7),(.v 8),(.v 9),(.v 10),(.v 11),(.v 12),(.v 13),(.v 14),(.v 15),(.v 16),(.v 17),(.v 18),(.v 19),(.v 20),(.v 21),(.v 26),(.v 27)] (.ite (.and (.and (.and (.and (.and (.and (.and (.nz (.v 28)) (.eq (.v 44) (.c 0))) (.eq (.v 53) (.c 0))) (.eq (.v 58) (.c 0))) (.eq (.v 63) (.c 0))) (.and (.eq (.v 33) (.v 46)) (.and (.eq (.v 34) (.v 47)) (.and (.eq (.v 35) (.v 48)) (.and (.eq (.v 36) (.v 49)) (.and (.eq (.v 37) (.v 50)) (.eq (.v 38) (.v 51)))))))) (.iff (.nz (.v 39)) (.nz (.v 52)))) (.and (.eq (.v 54) (.v 59)) (.and (.eq (.v 55) (.v 60)) (.and (.eq (.v 56) (.v 61)) (.eq (.v 57) (.v 62)))))) (.ret [(.c 1)])
(.ret [(.c 0)]))))))))))))))))))
theorem tree_TopOnly:Z13 (Zs [] I_TopOnly [] ([none,none]++zs 16++ivs 4 0 255++zs 6) (Z1ah Tryz.prog (Z9p Tryz.prog [(3,6),(7,46)]) gl0 G_TopOnly 8 1 5 13 (Zwl 2) 1000 3 [Sho,An 16,Cl,An 4,I1,I1] [Bo]))=t_TopOnly:=by kernel_rfl
theorem g_TopOnly:Gok Tryz.prog G_TopOnly:=(more Z1b0 (more Z1fx (more Zgz (more Z1go (more Z1en (more Z1gj (more Z1gk (fix.one Z1aa))))))))
theorem o_TopOnly:Zi G_TopOnly I_TopOnly:=(Z3 Z15t (Z3 Z19v (Z3 Zd7 (Z3 Z1b3 (Z3 Z188 (Z3 Z1aq (Z3 Z1ar (Z3 Z15u Z6))))))))
set_option maxHeartbeats 4000000 in
theorem sat_top (I T c0 c1 c2 c3 c4 c5 c6 c7 c8 c9 c10 c11 c12 c13 c14 c15 g0 g1 g2 g3 w0 w1 w2 w3 x y a0 a1 a2 a3 a4 a5 a6 Fe We B FU p0 p1 p2 p3:Int)
  (hW:Zc3.sem [I,T,c0,c1,c2,c3,c4,c5,c6,c7,c8,c9,c10,c11,c12,c13,c14,c15,x,y]=[a0,a1,a2,a3,a4,a5,a6,Fe]) (pW:Zc3.pre [I,T,c0,c1,c2,c3,c4,c5,c6,c7,c8,c9,c10,c11,c12,c13,c14,c15,x,y]) (hN:Z47.sem [c0,c1,c2,c3,c4,c5,c6,c7,c8,c9,c10,c11,c12,c13,c14,c15,w0,w1,w2,w3]=[We]) (hB:Zq1.sem [I,T]=[B])
  (hall:Fe=0→We=0→(w0≤x∧w1≤y∧x≤w2∧y≤w3)→Zq1.pre [I,T]∧Zof.pre [B,c0,c1,c2,c3,c4,c5,c6,c7,c8,c9,c10,c11,c12,c13,c14,c15,w0,w1,w2,w3]∧Zof.sem [B,c0,c1,c2,c3,c4,c5,c6,c7,c8,c9,c10,c11,c12,c13,c14,c15,w0,w1,w2,w3]=[FU,0]∧Zpx.pre [I,T,FU]∧Z6t.pre [I,T,c0,c1,c2,c3,c4,c5,c6,c7,c8,c9,c10,c11,c12,c13,c14,c15,g0,g1,g2,g3,x,y]∧Z6t.sem [I,T,c0,c1,c2,c3,c4,c5,c6,c7,c8,c9,c10,c11,c12,c13,c14,c15,g0,g1,g2,g3,x,y]=[p0,p1,p2,p3,0] ∧
   ∀ X,Zwj [I,T,FU,X]→Zc3.pre [X,T,c0,c1,c2,c3,c4,c5,c6,c7,c8,c9,c10,c11,c12,c13,c14,c15,x,y]∧Zc3.sem [X,T,c0,c1,c2,c3,c4,c5,c6,c7,c8,c9,c10,c11,c12,c13,c14,c15,x,y]=[a0,a1,a2,a3,a4,a5,a6,0]∧Z6t.pre [X,T,c0,c1,c2,c3,c4,c5,c6,c7,c8,c9,c10,c11,c12,c13,c14,c15,g0,g1,g2,g3,x,y]∧Z6t.sem [X,T,c0,c1,c2,c3,c4,c5,c6,c7,c8,c9,c10,c11,c12,c13,c14,c15,g0,g1,g2,g3,x,y]=[p0,p1,p2,p3,0]) :
  t_TopOnly.sat G_TopOnly [] (fun ys=>ys=[1]) [] [I,T,c0,c1,c2,c3,c4,c5,c6,c7,c8,c9,c10,c11,c12,c13,c14,c15,g0,g1,g2,g3,w0,w1,w2,w3,x,y]:=by
 have hD:Zmg.sem []=[1]:=rfl
 unfold t_TopOnly G_TopOnly
 simp only [TX.sat,XB.prop]
 simp only [X.den,L2.den,TX.sat,XB.prop,X.den,Z1gw,Z1gx,Z1gq,Z1gr,Z1gu,Z1gv,Z1gs,Z1gt,mkS,mkP,and_true,true_and,Z1h1,Z1h2,not_or,not_and,Z1gy,ne_eq,Z1gz,Z1h0]
 have hco:∀ x j,(dec x).getD j 0=co x j:=fun _ _=>rfl
 simp only [hD,hW,hN,hB,TX.sat,XB.prop,X.den,Z1gw,Z1gx,Z1gq,Z1gr,Z1gu,Z1gv,Z1gs,Z1gt,mkS,mkP,and_true,true_and,Z1h1,Z1h2,not_or,not_and,Z1gy,ne_eq,Z1gz,Z1h0]
 refine ⟨fun xs=>∃ i:Nat,xs.getD 1 0=(i:Int)∧i≤300,fun xs=>300 - (xs.getD 1 0).toNat,fun xs hx _=>Zy (n:=2) hx,⟨0,rfl,by omega⟩,?_⟩
 intro xs hx hA
 obtain ⟨d0,d1,rfl⟩:=Zdu hx
 obtain ⟨i,hi,hil⟩:=hA
 simp only [TX.sat,XB.prop,X.den,Z1gw,Z1gx,Z1gq,Z1gr,Z1gu,Z1gv,Z1gs,Z1gt,mkS,mkP,and_true,true_and,Z1h1,Z1h2,not_or,not_and,Z1gy,ne_eq,Z1gz,Z1h0] at hi ⊢
 subst hi
 refine ⟨fun hlt=>⟨by omega,?_⟩,fun hge=>?_⟩
 ·have hw:IntKind.i64.wrap ((i:Int) + 1)=((i + 1:Nat):Int):=by rw [Zo (by omega) (by omega)]; omega
  refine ⟨⟨i + 1,hw,by omega⟩,?_⟩
  rw [hw,Int.toNat_natCast,Int.toNat_natCast]
  omega
 clear hge hil
 refine ⟨fun xs=>∃ i:Nat,xs.getD 1 0=(i:Int)∧i≤100,fun xs=>100 - (xs.getD 1 0).toNat,fun xs hx _=>Zy (n:=2) hx,⟨0,rfl,by omega⟩,?_⟩
 intro xs hx hA
 obtain ⟨e0,e1,rfl⟩:=Zdu hx
 obtain ⟨i,hi,hil⟩:=hA
 simp only [TX.sat,XB.prop,X.den,Z1gw,Z1gx,Z1gq,Z1gr,Z1gu,Z1gv,Z1gs,Z1gt,mkS,mkP,and_true,true_and,Z1h1,Z1h2,not_or,not_and,Z1gy,ne_eq,Z1gz,Z1h0] at hi ⊢
 subst hi
 refine ⟨fun hlt=>⟨by omega,?_⟩,fun hge=>?_⟩
 ·have hw:IntKind.i64.wrap ((i:Int) + 1)=((i + 1:Nat):Int):=by rw [Zo (by omega) (by omega)]; omega
  refine ⟨⟨i + 1,hw,by omega⟩,?_⟩
  rw [hw,Int.toNat_natCast,Int.toNat_natCast]
  omega
 clear hge hil
 refine ⟨fun _=>trivial,fun _=>⟨pW,fun _=>trivial,fun hok=>?_⟩⟩
 refine ⟨fun _=>trivial,fun hwe=>?_⟩
 have hFe:Fe=0:=by omega
 have hWe:We=0:=by omega
 obtain ⟨q1,q2,q3,q4,q5,q6,q7⟩:=hall hFe hWe (by omega)
 simp only [q3,TX.sat,XB.prop,X.den,Z1gw,Z1gx,Z1gq,Z1gr,Z1gu,Z1gv,Z1gs,Z1gt,mkS,mkP,and_true,true_and,Z1h1,Z1h2,not_or,not_and,Z1gy,ne_eq,Z1gz,Z1h0]
 refine ⟨q1,q2,q4,fun ys hy hr=>?_⟩
 obtain ⟨Z,rfl⟩:=len1 hy
 obtain ⟨r1,r2,r3,r4⟩:=q7 Z hr
 simp only [TX.sat,XB.prop,X.den,Z1gw,Z1gx,Z1gq,Z1gr,Z1gu,Z1gv,Z1gs,Z1gt,mkS,mkP,and_true,true_and,Z1h1,Z1h2,not_or,not_and,Z1gy,ne_eq,Z1gz,Z1h0]
 simp only [r2,q6,r4,TX.sat,XB.prop,X.den,Z1gw,Z1gx,Z1gq,Z1gr,Z1gu,Z1gv,Z1gs,Z1gt,mkS,mkP,and_true,true_and,Z1h1,Z1h2,not_or,not_and,Z1gy,ne_eq,Z1gz,Z1h0]
 refine ⟨r1,q5,r3,fun _=>trivial,fun hbad=>?_⟩
 exact (hbad (by decide) trivial trivial trivial).elim
theorem pins (I T:Int) (hr0:Z3o (dec I) (dec T)∧Zc4 (dec T)) (xs1:List Int) (hr1:Zc (An 16).ks xs1) (xs2:List Int) (hr2:Zc (⟨true,List.replicate 4 (.i .u8)⟩:Sh).ks xs2) (xs3:List Int) (hr3:Zc (An 4).ks xs3) (xs4:List Int) (hr4:Zc I1.ks xs4) (xs5:List Int) (hr5:Zc I1.ks xs5):Zr ([none,none]++zs 16++ivs 4 0 255++zs 6) ([I,T]++(xs1++(xs2++(xs3++(xs4++(xs5++[])))))):=by
 have v1:=Z1g hr1
 have v2:=Z1g hr2
 have v3:=Z1g hr3
 have v4:=Z1g hr4
 have v5:=Z1g hr5
 obtain ⟨h1,i1⟩:=Zo7 hr1
 obtain ⟨c0,c1,c2,c3,c4,c5,c6,c7,c8,c9,c10,c11,c12,c13,c14,c15,rfl⟩:=Z17i h1
 obtain ⟨g0,g1,g2,g3,rfl⟩:=len4 (show xs2.length=4 from Z1s hr2)
 obtain ⟨h3,i3⟩:=Zo7 hr3
 obtain ⟨w0,w1,w2,w3,rfl⟩:=len4 h3
 obtain ⟨x,rfl,i4⟩:=Zty hr4
 obtain ⟨y,rfl,i5⟩:=Zty hr5
 exact Z1 (trivial) (Z1 (trivial) (Z1 (v1.2 0) (Z1 (v1.2 1) (Z1 (v1.2 2) (Z1 (v1.2 3) (Z1 (v1.2 4) (Z1 (v1.2 5) (Z1 (v1.2 6) (Z1 (v1.2 7) (Z1 (v1.2 8) (Z1 (v1.2 9) (Z1 (v1.2 10) (Z1 (v1.2 11) (Z1 (v1.2 12) (Z1 (v1.2 13) (Z1 (v1.2 14) (Z1 (v1.2 15) (Z1 (v2.2 0) (Z1 (v2.2 1) (Z1 (v2.2 2) (Z1 (v2.2 3) (Z1 (v3.2 0) (Z1 (v3.2 1) (Z1 (v3.2 2) (Z1 (v3.2 3) (Z1 (v4.2 0) (Z1 (v5.2 0) Z2)))))))))))))))))))))))))))
theorem showE_dec {a b T:Int} (h:dec a=dec b):Z2k [a,T]=Z2k [b,T]:=by
 unfold Z2k
 simp only [TX.sat,XB.prop,X.den,Z1gw,Z1gx,Z1gq,Z1gr,Z1gu,Z1gv,Z1gs,Z1gt,mkS,mkP,and_true,true_and,Z1h1,Z1h2,not_or,not_and,Z1gy,ne_eq,Z1gz,Z1h0]
 rw [h]
theorem winL_8 (I C:List Int) (x y:Int):∃ a0 a1 a2 a3 a4 a5 a6,Z1c3 I C x y=[a0,a1,a2,a3,a4,a5,a6,0]:=by
 unfold Z1c3 Z1ez
 split
 ·exact ⟨_,_,_,_,_,_,_,rfl⟩
 ·exact ⟨_,_,_,_,_,_,_,rfl⟩
set_option maxHeartbeats 4000000 in
theorem plain (I T:Int) (hr0:Z3o (dec I) (dec T)∧Zc4 (dec T)) (xs1:List Int) (hr1:Zc (An 16).ks xs1) (xs2:List Int) (hr2:Zc (⟨true,List.replicate 4 (.i .u8)⟩:Sh).ks xs2) (xs3:List Int) (hr3:Zc (An 4).ks xs3) (xs4:List Int) (hr4:Zc I1.ks xs4) (xs5:List Int) (hr5:Zc I1.ks xs5):t_TopOnly.sat G_TopOnly [] (fun ys=>ys=[1]) [] ([I,T]++(xs1++(xs2++(xs3++(xs4++(xs5++[])))))):=by
 have v1:=Z1g hr1
 have v2:=Z1g hr2
 have v3:=Z1g hr3
 have v4:=Z1g hr4
 have v5:=Z1g hr5
 obtain ⟨h1,i1⟩:=Zo7 hr1
 obtain ⟨c0,c1,c2,c3,c4,c5,c6,c7,c8,c9,c10,c11,c12,c13,c14,c15,rfl⟩:=Z17i h1
 obtain ⟨g0,g1,g2,g3,rfl⟩:=len4 (show xs2.length=4 from Z1s hr2)
 obtain ⟨h3,i3⟩:=Zo7 hr3
 obtain ⟨w0,w1,w2,w3,rfl⟩:=len4 h3
 obtain ⟨x,rfl,i4⟩:=Zty hr4
 obtain ⟨y,rfl,i5⟩:=Zty hr5
 obtain ⟨hr,hT⟩:=hr0
 have pW:∀ Z:Int,Z3o (dec Z) (dec T)→Zc3.pre [Z,T,c0,c1,c2,c3,c4,c5,c6,c7,c8,c9,c10,c11,c12,c13,c14,c15,x,y]:=fun Z h=>⟨Z1 (trivial) (Z1 (trivial) (Z1 (v1.2 0) (Z1 (v1.2 1) (Z1 (v1.2 2) (Z1 (v1.2 3) (Z1 (v1.2 4) (Z1 (v1.2 5) (Z1 (v1.2 6) (Z1 (v1.2 7) (Z1 (v1.2 8) (Z1 (v1.2 9) (Z1 (v1.2 10) (Z1 (v1.2 11) (Z1 (v1.2 12) (Z1 (v1.2 13) (Z1 (v1.2 14) (Z1 (v1.2 15) (Z1 (v4.2 0) (Z1 (v5.2 0) Z2))))))))))))))))))),h⟩
 have pP:∀ Z:Int,Z3o (dec Z) (dec T)→Z6t.pre [Z,T,c0,c1,c2,c3,c4,c5,c6,c7,c8,c9,c10,c11,c12,c13,c14,c15,g0,g1,g2,g3,x,y]:=fun Z h=>⟨Z1 (trivial) (Z1 (trivial) (Z1 (v1.2 0) (Z1 (v1.2 1) (Z1 (v1.2 2) (Z1 (v1.2 3) (Z1 (v1.2 4) (Z1 (v1.2 5) (Z1 (v1.2 6) (Z1 (v1.2 7) (Z1 (v1.2 8) (Z1 (v1.2 9) (Z1 (v1.2 10) (Z1 (v1.2 11) (Z1 (v1.2 12) (Z1 (v1.2 13) (Z1 (v1.2 14) (Z1 (v1.2 15) (Z1 (v2.2 0) (Z1 (v2.2 1) (Z1 (v2.2 2) (Z1 (v2.2 3) (Z1 (v4.2 0) (Z1 (v5.2 0) Z2))))))))))))))))))))))),h,hT⟩
 have hFe:∀ Z:Int,frE [Z,T,c0,c1,c2,c3,c4,c5,c6,c7,c8,c9,c10,c11,c12,c13,c14,c15,x,y]=if Z2k [Z,T]=0 then (if Z2b [c0,c1,c2,c3,c4,c5,c6,c7,c8,c9,c10,c11,c12,c13,c14,c15] 0=true then (if 0≤x∧x < c14∧0≤y∧y < c15 then 0 else 2) else 150) else Z2k [Z,T]:=fun _=>rfl
 have hgood:frE [I,T,c0,c1,c2,c3,c4,c5,c6,c7,c8,c9,c10,c11,c12,c13,c14,c15,x,y]=0→Z2k [I,T]=0∧Z2b [c0,c1,c2,c3,c4,c5,c6,c7,c8,c9,c10,c11,c12,c13,c14,c15] 0=true∧(0≤x∧x < c14∧0≤y∧y < c15):=by
  intro h
  rw [hFe] at h
  split at h
  ·rename_i k1
   split at h
   ·rename_i k2
    split at h
    ·rename_i k3
     exact ⟨k1,k2,k3⟩
    ·exact absurd h (by decide)
   ·exact absurd h (by decide)
  ·rename_i k1
   exact absurd h k1
 have semW:∀ Z:Int,Zc3.sem [Z,T,c0,c1,c2,c3,c4,c5,c6,c7,c8,c9,c10,c11,c12,c13,c14,c15,x,y]=if frE [Z,T,c0,c1,c2,c3,c4,c5,c6,c7,c8,c9,c10,c11,c12,c13,c14,c15,x,y]=0 then Z1c3 (dec Z) [c0,c1,c2,c3,c4,c5,c6,c7,c8,c9,c10,c11,c12,c13,c14,c15] x y else [0,0,0,0,0,0,0,frE [Z,T,c0,c1,c2,c3,c4,c5,c6,c7,c8,c9,c10,c11,c12,c13,c14,c15,x,y]]:=fun _=>rfl
 have semP:∀ Z:Int,Z6t.sem [Z,T,c0,c1,c2,c3,c4,c5,c6,c7,c8,c9,c10,c11,c12,c13,c14,c15,g0,g1,g2,g3,x,y]=if frE [Z,T,c0,c1,c2,c3,c4,c5,c6,c7,c8,c9,c10,c11,c12,c13,c14,c15,x,y]=0 then ex4 (Zzp (dec Z) (dec T) (Z36 (dec Z) [c0,c1,c2,c3,c4,c5,c6,c7,c8,c9,c10,c11,c12,c13,c14,c15] x y) [g0,g1,g2,g3])++[0] else [0,0,0,0,frE [Z,T,c0,c1,c2,c3,c4,c5,c6,c7,c8,c9,c10,c11,c12,c13,c14,c15,x,y]]:=fun _=>rfl
 by_cases hF:frE [I,T,c0,c1,c2,c3,c4,c5,c6,c7,c8,c9,c10,c11,c12,c13,c14,c15,x,y]=0
 case neg =>
  exact sat_top I T c0 c1 c2 c3 c4 c5 c6 c7 c8 c9 c10 c11 c12 c13 c14 c15 g0 g1 g2 g3 w0 w1 w2 w3 x y 0 0 0 0 0 0 0 (frE [I,T,c0,c1,c2,c3,c4,c5,c6,c7,c8,c9,c10,c11,c12,c13,c14,c15,x,y]) (Z2q [c0,c1,c2,c3,c4,c5,c6,c7,c8,c9,c10,c11,c12,c13,c14,c15,w0,w1,w2,w3]) (cod ((dec I).map Zi1)) 0 0 0 0 0 (by rw [semW,if_neg hF]) (pW I hr) rfl rfl (fun h=>absurd h hF)
 obtain ⟨a0,a1,a2,a3,a4,a5,a6,hwl⟩:=winL_8 (dec I) [c0,c1,c2,c3,c4,c5,c6,c7,c8,c9,c10,c11,c12,c13,c14,c15] x y
 obtain ⟨k1,k2,k3⟩:=hgood hF
 have hl:=(Z1z k1).1
 obtain ⟨F,hFF⟩:∃ F,F=Z36 (dec I) [c0,c1,c2,c3,c4,c5,c6,c7,c8,c9,c10,c11,c12,c13,c14,c15] x y:=⟨_,rfl⟩
 obtain ⟨V,hV⟩:∃ V,V=Zzp (dec I) (dec T) F [g0,g1,g2,g3]:=⟨_,rfl⟩
 obtain ⟨U,hU⟩:∃ U,U=Z70 ((dec I).map Zi1) [c0,c1,c2,c3,c4,c5,c6,c7,c8,c9,c10,c11,c12,c13,c14,c15,w0,w1,w2,w3] ((dec I).map Zi1).length:=⟨_,rfl⟩
 refine sat_top I T c0 c1 c2 c3 c4 c5 c6 c7 c8 c9 c10 c11 c12 c13 c14 c15 g0 g1 g2 g3 w0 w1 w2 w3 x y a0 a1 a2 a3 a4 a5 a6 (frE [I,T,c0,c1,c2,c3,c4,c5,c6,c7,c8,c9,c10,c11,c12,c13,c14,c15,x,y]) (Z2q [c0,c1,c2,c3,c4,c5,c6,c7,c8,c9,c10,c11,c12,c13,c14,c15,w0,w1,w2,w3]) (cod ((dec I).map Zi1)) (cod U) (V.getD 0 0) (V.getD 1 0) (V.getD 2 0) (V.getD 3 0) (by rw [semW,if_pos hF,hwl,hF]) (pW I hr) rfl rfl (fun _ hWe hin=>⟨?_,?_,?_,?_,pP I hr,?_,fun Z hZ=>?_⟩)
 ·exact ⟨Zy (n:=2) rfl,by show (dec I).length≤1000000; omega⟩
 ·refine ⟨Z1 (trivial) (Z1 (v1.2 0) (Z1 (v1.2 1) (Z1 (v1.2 2) (Z1 (v1.2 3) (Z1 (v1.2 4) (Z1 (v1.2 5) (Z1 (v1.2 6) (Z1 (v1.2 7) (Z1 (v1.2 8) (Z1 (v1.2 9) (Z1 (v1.2 10) (Z1 (v1.2 11) (Z1 (v1.2 12) (Z1 (v1.2 13) (Z1 (v1.2 14) (Z1 (v1.2 15) (Z1 (v3.2 0) (Z1 (v3.2 1) (Z1 (v3.2 2) (Z1 (v3.2 3) Z2)))))))))))))))))))),?_⟩
  show ∀ b ∈ dec (cod ((dec I).map Zi1)),Zc Zrd (dec b)
  rw [Z4]
  intro b hb
  obtain ⟨z,hz,rfl⟩:=List.mem_map.1 hb
  exact boxI_range (hr.1 z hz).1
 ·show [(Zre (dec (cod ((dec I).map Zi1))) [c0,c1,c2,c3,c4,c5,c6,c7,c8,c9,c10,c11,c12,c13,c14,c15,w0,w1,w2,w3]).getD 0 0,(Zre (dec (cod ((dec I).map Zi1))) [c0,c1,c2,c3,c4,c5,c6,c7,c8,c9,c10,c11,c12,c13,c14,c15,w0,w1,w2,w3]).getD 1 0]=_
  have hA:Zbk ((dec I).map Zi1) [c0,c1,c2,c3,c4,c5,c6,c7,c8,c9,c10,c11,c12,c13,c14,c15,w0,w1,w2,w3]=0:=by
   unfold Zbk
   rw [if_pos (by rw [List.length_map]; exact hl),if_pos (List.all_eq_true.2 (show_okB k1))]
   exact hWe
  rw [Z4]
  unfold Zre
  rw [if_pos hA,hU]
  rfl
 ·refine ⟨I,T,cod U,rfl,fun b hb=>Z1s (hr.1 b hb).1,by omega,?_⟩
  rw [Z4,hU]
  have h2:=Zbt (l:=(dec I).map Zi1) (x:=[c0,c1,c2,c3,c4,c5,c6,c7,c8,c9,c10,c11,c12,c13,c14,c15,w0,w1,w2,w3]) ((dec I).map Zi1).length
  rw [List.length_map] at h2
  rw [List.length_map]
  omega
 ·rw [semP,if_pos hF,← hFF,← hV]
  rfl
 ·obtain ⟨i,t,u,z,he,hz⟩:=hZ
  simp only [List.cons.injEq,and_true] at he
  obtain ⟨rfl,rfl,rfl,rfl⟩:=he
  rw [Z4] at hz
  have hin':∀ f ∈ Z36 (dec I) [c0,c1,c2,c3,c4,c5,c6,c7,c8,c9,c10,c11,c12,c13,c14,c15] x y,co f 1 ∈ U:=fun f hf=>by
   rw [hU,List.length_map]
   exact Zst k1 k2 hWe ⟨hin.1,hin.2.1,hin.2.2.1,hin.2.2.2⟩ hf
  have hfr:Z36 (dec Z) [c0,c1,c2,c3,c4,c5,c6,c7,c8,c9,c10,c11,c12,c13,c14,c15] x y=F:=by rw [hz,Zz4 hin',hFF]
  have hlk:Z3u (dec Z) (dec I):=by rw [hz]; exact Z157 _ _
  have hrZ:Z3o (dec Z) (dec T):=by rw [hz]; exact Zz2 U hr
  have hEZ:Z2k [Z,T]=0:=by
   rw [showE_dec (b:=cod (Zam (dec I) U)) (by rw [Z4]; exact hz)]
   exact Zz3 (by rw [showE_dec (b:=I) (Z4 _)]; exact k1)
  have hFZ:frE [Z,T,c0,c1,c2,c3,c4,c5,c6,c7,c8,c9,c10,c11,c12,c13,c14,c15,x,y]=0:=by rw [hFe,if_pos hEZ,if_pos k2,if_pos k3]
  refine ⟨pW Z hrZ,?_,pP Z hrZ,?_⟩
  ·rw [semW,if_pos hFZ,← hwl]
   unfold Z1c3
   rw [hfr,Zjt hlk,hFF]
  ·rw [semP,if_pos hFZ,hfr,Z1b6 hlk,← hV]
   rfl
theorem hM:RbM Tryz.prog G_TopOnly 1 5 2 13 (Zwl 2):=Z1as rfl rfl
set_option maxRecDepth 100000 in
theorem lifted (os:Os) (started:os.Started) (H:Type) (enc:TypeId × Value→H) :
  ReturnsInHanded {} Tryz.checked os 3 .any (fun w args=>(Rows.topOnlySpec.pre enc Tryz.prog Tryz.f3 Rows.topOnlyRow.domain false w args∧laidMet Tryz.prog [("diorama/frustum.world",Rows.laid_diorama_frustum_world)] w)∧sizedMet enc Tryz.prog Tryz.f3 (OpenSpec.ofChange Rows.topOnlySpec) false w args) (Rows.topOnlySpec.post enc Tryz.prog Tryz.f3 false true false false):=by
 refine returnsInHanded_of_change_and (C:=Tryz.checked) (X:=fun w _=>laidMet Tryz.prog [("diorama/frustum.world",Rows.laid_diorama_frustum_world)] w) (fun _ _ _ hh h=>h.of_heap hh) facts.own started (by kernel_rfl) Tryz.func3
  (ChangeSpec.witness_at (enc:=enc) (C:=Tryz.checked) (os:=os) (X:=fun w _=>laidMet Tryz.prog [("diorama/frustum.world",Rows.laid_diorama_frustum_world)] w) false (Zgv os) #[.agg #[.slice none 0 0,.slice none 0 0],.agg #[.int .i64 0,.int .i64 0,.int .i64 0,.int .i64 0,.int .i64 0,.int .i64 0,.int .i64 0,.int .i64 0,.int .i64 0,.int .i64 0,.int .i64 0,.int .i64 0,.int .i64 0,.int .i64 0,.int .i64 0,.int .i64 0],.agg #[.int .u8 0,.int .u8 0,.int .u8 0,.int .u8 0],.agg #[.int .i64 0,.int .i64 0,.int .i64 0,.int .i64 0],.int .i64 0,.int .i64 0] 8 rfl (by kernel_rfl) (by kernel_rfl) (by kernel_rfl) (by kernel_rfl) (by kernel_rfl) (Zks os _)) ?_
 intro W base args ds gs before hval0 hW hcnd _ hL _
 have hval:∀ (j:Nat) t v,Tryz.f3.params[j]?=some t→args[j]?=some v→Value.okWide Tryz.prog W .any base t v:=hval0
 have hW':=hW
 obtain ⟨p,q,hA0,hV,rfl,hfz,hnd⟩:=hW
 have hA:DataW.TrodAll enc Tryz.prog W 0 (fun _=>true) true Tryz.f3.params.toList args.toList ds p:=hA0
 rw [Tryz.params3] at hA hval
 obtain ⟨v0,vs0,d0,ds0,p0,q0,hargs,rfl,rfl,h0,r0⟩:=trodAll_cons hA
 obtain ⟨v1,vs1,d1,ds1,p1,q1,rfl,rfl,rfl,h1,r1⟩:=trodAll_cons r0
 obtain ⟨v2,vs2,d2,ds2,p2,q2,rfl,rfl,rfl,h2,r2⟩:=trodAll_cons r1
 obtain ⟨v3,vs3,d3,ds3,p3,q3,rfl,rfl,rfl,h3,r3⟩:=trodAll_cons r2
 obtain ⟨v4,vs4,d4,ds4,p4,q4,rfl,rfl,rfl,h4,r4⟩:=trodAll_cons r3
 obtain ⟨v5,vs5,d5,ds5,p5,q5,rfl,rfl,rfl,h5,r5⟩:=trodAll_cons r4
 obtain ⟨rfl,rfl,rfl⟩:=trodAll_nil r5
 obtain rfl:args=#[v0,v1,v2,v3,v4,v5]:=by cases args; simp_all
 obtain ⟨rfl,rfl⟩:=trodVars_none hV
 have k0:=h0
 have lt0:∀ x ∈ p0,x.block < W.heap.size:=by obtain ⟨m,hm⟩:=k0; exact DataW.trod_lt m _ _ _ hm
 have k1:=h1
 have lt1:∀ x ∈ p1,x.block < W.heap.size:=by obtain ⟨m,hm⟩:=k1; exact DataW.trod_lt m _ _ _ hm
 have k2:=h2
 have lt2:∀ x ∈ p2,x.block < W.heap.size:=by obtain ⟨m,hm⟩:=k2; exact DataW.trod_lt m _ _ _ hm
 have k3:=h3
 have lt3:∀ x ∈ p3,x.block < W.heap.size:=by obtain ⟨m,hm⟩:=k3; exact DataW.trod_lt m _ _ _ hm
 have k4:=h4
 have lt4:∀ x ∈ p4,x.block < W.heap.size:=by obtain ⟨m,hm⟩:=k4; exact DataW.trod_lt m _ _ _ hm
 have k5:=h5
 have lt5:∀ x ∈ p5,x.block < W.heap.size:=by obtain ⟨m,hm⟩:=k5; exact DataW.trod_lt m _ _ _ hm
 obtain ⟨I0,T0,hs0,hi0,ht0⟩:=Z1b8 (e1:=85) (k1:=Z39) (e2:=88) (k2:=Z7e) (fun _=>rfl) Tryz.underlying25 (by kernel_rfl) (hval 0 25 v0 rfl rfl) h0
 have hr0:=showRT_of hi0 ht0
 obtain ⟨xs1,hv1,hr1⟩:=Zga (sh:=An 16) (by kernel_rfl) (by kernel_rfl) (hval 1 31 v1 rfl rfl) h1
 have hs1:ShR (fun _ ks u n=>SlN W ks u n) (An 16) v1 xs1:=by rw [hv1]; exact Zo5 rfl rfl (Z1s hr1)
 obtain ⟨xs2,hv2,hr2⟩:=Zga (sh:=⟨true,List.replicate 4 (.i .u8)⟩) (by kernel_rfl) (by kernel_rfl) (hval 2 33 v2 rfl rfl) h2
 have hs2:ShR (fun _ ks u n=>SlN W ks u n) (⟨true,List.replicate 4 (.i .u8)⟩) v2 xs2:=by rw [hv2]; exact Zo5 rfl rfl (Z1s hr2)
 obtain ⟨xs3,hv3,hr3⟩:=Zga (sh:=An 4) (by kernel_rfl) (by kernel_rfl) (hval 3 35 v3 rfl rfl) h3
 have hs3:ShR (fun _ ks u n=>SlN W ks u n) (An 4) v3 xs3:=by rw [hv3]; exact Zo5 rfl rfl (Z1s hr3)
 obtain ⟨xs4,hv4,hr4⟩:=Zga (sh:=I1) (by kernel_rfl) (by kernel_rfl) (hval 4 3 v4 rfl rfl) h4
 have hs4:ShR (fun _ ks u n=>SlN W ks u n) (I1) v4 xs4:=by rw [hv4]; exact Zo5 rfl rfl (Z1s hr4)
 obtain ⟨xs5,hv5,hr5⟩:=Zga (sh:=I1) (by kernel_rfl) (by kernel_rfl) (hval 5 3 v5 rfl rfl) h5
 have hs5:ShR (fun _ ks u n=>SlN W ks u n) (I1) v5 xs5:=by rw [hv5]; exact Zo5 rfl rfl (Z1s hr5)
 clear hA0 hval0
 have hx:Z76 (fun _ ks u n=>SlN W ks u n) [Sho,An 16,⟨true,List.replicate 4 (.i .u8)⟩,An 4,I1,I1] [v0,v1,v2,v3,v4,v5] ([I0,T0]++(xs1++(xs2++(xs3++(xs4++(xs5++[])))))):=⟨_,_,_,_,rfl,rfl,hs0,⟨_,_,_,_,rfl,rfl,hs1,⟨_,_,_,_,rfl,rfl,hs2,⟨_,_,_,_,rfl,rfl,hs3,⟨_,_,_,_,rfl,rfl,hs4,⟨_,_,_,_,rfl,rfl,hs5,⟨rfl,rfl⟩⟩⟩⟩⟩⟩⟩
 have hcalls:=lawG facts.mixed g_TopOnly hM o_TopOnly tree_TopOnly W hx rfl (pins I0 T0 hr0 xs1 hr1 xs2 hr2 xs3 hr3 xs4 hr4 xs5 hr5) (plain I0 T0 hr0 xs1 hr1 xs2 hr2 xs3 hr3 xs4 hr4 xs5 hr5) (Zoe hL)
 refine hcalls.mono fun e W' ⟨he,bel⟩=>?_
 subst he
 exact ⟨_,rfl,_,_,_,[],_,[],hW',trodAll_mk1 (shut_bool Tryz.underlying4 _),(trodAll_cons_mk (Below.trod facts.laidOut (by kernel_rfl) (of_decide_eq_true (by kernel_rfl)) k0 bel lt0) (trodAll_cons_mk (Below.trod facts.laidOut (by kernel_rfl) (of_decide_eq_true (by kernel_rfl)) k1 bel lt1) (trodAll_cons_mk (Below.trod facts.laidOut (by kernel_rfl) (of_decide_eq_true (by kernel_rfl)) k2 bel lt2) (trodAll_cons_mk (Below.trod facts.laidOut (by kernel_rfl) (of_decide_eq_true (by kernel_rfl)) k3 bel lt3) (trodAll_cons_mk (Below.trod facts.laidOut (by kernel_rfl) (of_decide_eq_true (by kernel_rfl)) k4 bel lt4) (trodAll_cons_mk (Below.trod facts.laidOut (by kernel_rfl) (of_decide_eq_true (by kernel_rfl)) k5 bel lt5) trodAll_mk0)))))),rfl,bel.frame _,fun h=>by cases h⟩
theorem over:Rows.topOnlyRow.holds Tryz.pinned (OpenSpec.ofChange Rows.topOnlySpec) :=
 OpenClaim.holds_of_wide 3 Tryz.f3 rfl rfl rfl rfl rfl rfl rfl ⟨rfl,rfl,rfl,rfl,rfl⟩ rfl rfl rfl rfl rfl (by kernel_rfl) Tryz.func3
  (facts.joined (by kernel_rfl) (by kernel_rfl) (by kernel_rfl) (by kernel_rfl) (by kernel_rfl) (by kernel_rfl) (by kernel_rfl) rfl rfl rfl rfl)
  (of_decide_eq_true (by kernel_rfl)) (by unfold Func.isWrapper; first | (rw [if_pos (by decide +kernel)]; kernel_rfl) | (rw [if_neg (by decide +kernel)]; exact ⟨rfl,rfl⟩))
  (fun os started H enc _=>lifted os started H enc)
theorem noStand:(Tryz.f3.params.all fun t=>!Tryz.prog.wantsStandIn t)=true:=by kernel_rfl
theorem proved:Rows.TopOnlyCardSaid :=
 Claim7.holds_tied_plain_at .later [] [.data] true (true, "b3924336b0480d2658ba0abf4705aba63770927102c8bae2dcedd6927e28cde3") false over (fun _ h=>by cases h) (by kernel_rfl) (fun _ h=>by cases h) topOnly_row_tie rfl ⟨rfl,rfl⟩ (by kernel_rfl) rfl
  (fun f fn hf hfn=>by
   obtain rfl:f=3:=Option.some.inj ((show Tryz.prog.funcNamed Rows.topOnlyRow.func=some 3 by kernel_rfl).symm.trans hf) |>.symm
   obtain rfl:fn=Tryz.f3:=(Option.some.inj (Tryz.func3.symm.trans hfn)).symm
   refine ⟨by kernel_rfl,fun j t ht=>?_⟩
   have:=Array.all_eq_true_iff_forall_mem.1 noStand t (Array.mem_of_getElem? ht)
   exact (by simpa using this:Tryz.prog.wantsStandIn t=false))
  (by kernel_rfl)
#print axioms proved
end Go.Proofs.YtgcoidbaoigkeaaGreatDoor.topOnly
