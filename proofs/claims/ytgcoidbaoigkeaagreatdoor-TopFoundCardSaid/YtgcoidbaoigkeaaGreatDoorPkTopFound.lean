/-
  The law TopFound is answered with true, whatever its arguments, which stay as they were.
-/
import Derived.Test.YtgcoidbaoigkeaaGreatDoorRows
import Derived.Test.YtgcoidbaoigkeaaGreatDoorCards
import Derived.Test.YtgcoidbaoigkeaaGreatDoorTie
import Derived.SevenTiedAt
import Derived.Test.YtgcoidbaoigkeaaGreatDoorPkf
set_option linter.unusedVariables false
set_option linter.unusedSimpArgs false
open List renaming getElem?_cons_zero → Z1ke, getElem?_cons_succ → Z1kf, getD_cons_zero → Z1kg, getD_cons_succ → Z1kh, cons_append → Z1ki, nil_append → Z1kj, map_cons → Z1kk, map_nil → Z1kl
namespace Go.Proofs.YtgcoidbaoigkeaaGreatDoor.topFound
open Go.RowKit Go.ChangeShapes Go.WideShapes Go.ChangeAt Go.Sx fix
noncomputable def G_TopFound:List Sum:=[Zo8,Zbj,Z49,Z66,Z67]
def I_TopFound:List Inf:=[Z19v,Z17o,Zyp,Zth,Z14p]
def t_TopFound:TX:=(.callp 0 [] (.loop 2 [none,none] [(.c 0),(.c 0)] (.ite (.and (.lt (.v 23) (.ln (.v 0))) (.lt (.v 23) (.c 300))) (.asrt (.le (.c 0) (.v 23)) (.back 0 [(.wr .i64 (.add (.v 22) (.wr .i64 (.add (.wr .i64 (.add (.mn (.ln (.l2 .at (.l2 .at (.l2 .at (.v 0) (.v 23)) (.c 0)) (.c 4))) (.c 10000)) (.mn (.ln (.l2 .at (.l2 .at (.l2 .at (.v 0) (.v 23)) (.c 1)) (.c 4))) (.c 10000)))) (.wr .i64 (.mul (.c 2) (.mn (.ln (.l2 .at (.l2 .at (.l2 .at (.v 0) (.v 23)) (.c 2)) (.c 4))) (.c 10000)))))))),(.wr .i64 (.add (.v 23) (.c 1)))]))
(.loop 2 [none,none] [(.v 22),(.c 0)] (.ite (.and (.lt (.v 25) (.ln (.v 1))) (.lt (.v 25) (.c 100))) (.asrt (.le (.c 0) (.v 25)) (.back 1 [(.wr .i64 (.add (.v 24) (.wr .i64 (.quo (.mn (.ln (.l2 .at (.l2 .at (.l2 .at (.v 1) (.v 25)) (.c 2)) (.c 4))) (.c 10000)) (.c 20))))),(.wr .i64 (.add (.v 25) (.c 1)))]))
(.ite (.or (.or (.lt (.c 100) (.ln (.v 0))) (.lt (.c 600) (.v 24))) (.lt (.c 40) (.ln (.v 1)))) (.ret [(.c 1)])
(.call 1 [(.v 0),(.v 1),(.v 2),(.v 3),(.v 4),(.v 5),(.v 6),(.v 7),(.v 8),(.v 9),(.v 10),(.v 11),(.v 12),(.v 13),(.v 14),(.v 15),(.v 16),(.v 17),(.v 18),(.v 19)] (.ite (.or (.not (.eq (.v 27) (.c 0))) (.lt (.c 200) (.ln (.v 20)))) (.ret [(.c 1)])
(.loop 2 [none,none] [.nl,(.c 0)] (.ite (.lt (.v 29) (.ln (.v 0))) (.asrt (.le (.c 0) (.v 29)) (.asrt (.le (.ln (.l2 .snoc (.v 28) (.l2 .cons (.l2 .at (.l2 .at (.v 0) (.v 29)) (.c 12)) (.l2 .cons (.l2 .at (.l2 .at (.v 0) (.v 29)) (.c 13)) (.l2 .cons (.l2 .at (.l2 .at (.v 0) (.v 29)) (.c 14)) (.l2 .cons (.l2 .at (.l2 .at (.v 0) (.v 29)) (.c 15)) (.l2 .cons (.l2 .at (.l2 .at (.v 0) (.v 29)) (.c 16)) (.l2 .cons (.l2 .at (.l2 .at (.v 0) (.v 29)) (.c 17)) .nl)))))))) (.c 1000000)) (.back 2 [(.l2 .snoc (.v 28) (.l2 .cons (.l2 .at (.l2 .at (.v 0) (.v 29)) (.c 12)) (.l2 .cons (.l2 .at (.l2 .at (.v 0) (.v 29)) (.c 13)) (.l2 .cons (.l2 .at (.l2 .at (.v 0) (.v 29)) (.c 14)) (.l2 .cons (.l2 .at (.l2 .at (.v 0) (.v 29)) (.c 15)) (.l2 .cons (.l2 .at (.l2 .at (.v 0) (.v 29)) (.c 16)) (.l2 .cons (.l2 .at (.l2 .at (.v 0) (.v 29)) (.c 17)) .nl))))))),(.wr .i64 (.add (.v 29) (.c 1)))])))
(.call 2 [(.v 20)] (.ite (.eq (.v 31) (.c 0)) (.call 3 [(.v 30),(.v 28)] (.ite (.not (.eq (.v 33) (.c 0))) (.call 2 [(.v 28)] (.call 4 [(.v 34),(.v 28),(.v 2),(.v 3),(.v 4),(.v 5),(.v 6),(.v 7),(.v 8),(.v 9),(.v 10),(.v 11),(.v 12),(.v 13),(.v 14),(.v 15),(.v 16),(.v 17),(.v 18),(.v 19),(.v 18),(.v 19)] (.ite (.or (.not (.eq (.v 35) (.c 0))) (.not (.eq (.v 37) (.c 0)))) (.ret [(.c 0)])
(.loop 2 [none,none] [(.c 0),(.c 0)] (.ite (.le (.ln (.v 26)) (.v 39)) (.ret [(.c 1)])
(.asrt (.le (.c 0) (.v 39)) (.loop 2 [none,none] [(.c 0),(.c 0)] (.ite (.le (.ln (.v 36)) (.v 41)) (.ret [(.c 0)])
(.asrt (.le (.c 0) (.v 41)) (.ite (.eq (.l2 .at (.v 36) (.v 41)) (.l2 .at (.l2 .at (.v 26) (.v 39)) (.c 1))) (.back 3 [(.v 38),(.wr .i64 (.add (.v 39) (.c 1)))])
(.back 4 [(.v 40),(.wr .i64 (.add (.v 41) (.c 1)))])))))))))))
(.call 4 [(.v 32),(.v 28),(.v 2),(.v 3),(.v 4),(.v 5),(.v 6),(.v 7),(.v 8),(.v 9),(.v 10),(.v 11),(.v 12),(.v 13),(.v 14),(.v 15),(.v 16),(.v 17),(.v 18),(.v 19),(.v 18),(.v 19)] (.ite (.not (.eq (.v 35) (.c 0))) (.ret [(.c 0)])
(.loop 2 [none,none] [(.c 0),(.c 0)] (.ite (.le (.ln (.v 26)) (.v 37)) (.ret [(.c 1)])
(.asrt (.le (.c 0) (.v 37)) (.loop 2 [none,none] [(.c 0),(.c 0)] (.ite (.le (.ln (.v 34)) (.v 39)) (.ret [(.c 0)])
(.asrt (.le (.c 0) (.v 39)) (.ite (.eq (.l2 .at (.v 34) (.v 39)) (.l2 .at (.l2 .at (.v 26) (.v 37)) (.c 1))) (.back 3 [(.v 36),(.wr .i64 (.add (.v 37) (.c 1)))])
(.back 4 [(.v 38),(.wr .i64 (.add (.v 39) (.c 1)))]))))))))))))
(.call 2 [(.v 28)] (.call 4 [(.v 32),(.v 28),(.v 2),(.v 3),(.v 4),(.v 5),(.v 6),(.v 7),(.v 8),(.v 9),(.v 10),(.v 11),(.v 12),(.v 13),(.v 14),(.v 15),(.v 16),(.v 17),(.v 18),(.v 19),(.v 18),(.v 19)] (.ite (.or (.not (.eq (.v 33) (.c 0))) (.not (.eq (.v 35) (.c 0)))) (.ret [(.c 0)])
(.loop 2 [none,none] [(.c 0),(.c 0)] (.ite (.le (.ln (.v 26)) (.v 37)) (.ret [(.c 1)])
(.asrt (.le (.c 0) (.v 37)) (.loop 2 [none,none] [(.c 0),(.c 0)] (.ite (.le (.ln (.v 34)) (.v 39)) (.ret [(.c 0)])
(.asrt (.le (.c 0) (.v 39)) (.ite (.eq (.l2 .at (.v 34) (.v 39)) (.l2 .at (.l2 .at (.v 26) (.v 37)) (.c 1))) (.back 3 [(.v 36),(.wr .i64 (.add (.v 37) (.c 1)))])
(.back 4 [(.v 38),(.wr .i64 (.add (.v 39) (.c 1)))])))))))))))))))))))))))
theorem tree_TopFound:Z12 (Zr [] I_TopFound [] ([none,none]++zs 18++[none]) (Zq Tryz.prog (Z5u Tryz.prog [(3,6),(7,46),(3,5),(17,84),(2,6)]) gl0 G_TopFound 1000 4 [Sho,An 16,I1,I1,Bs] [Bo]))=t_TopFound:=by kernel_rfl
theorem g_TopFound:Gok Tryz.prog G_TopFound:=(more Z1f1 (more Z1e1 (more Z19c (more Zxb (fix.one Z1cv)))))
theorem o_TopFound:Zj G_TopFound I_TopFound:=(Z2 Z19y (Z2 Z183 (Z2 Z11y (Z2 Zqp (Z2 Z16a Z8)))))
set_option maxHeartbeats 4000000 in
theorem sat_top (I T c0 c1 c2 c3 c4 c5 c6 c7 c8 c9 c10 c11 c12 c13 c14 c15 x y o FLc Fe t0 e0 t1 e1 t2:Int) (FU:List Int)
  (hF:Zbj.sem [I,T,c0,c1,c2,c3,c4,c5,c6,c7,c8,c9,c10,c11,c12,c13,c14,c15,x,y]=[FLc,Fe]) (pF:Zbj.pre [I,T,c0,c1,c2,c3,c4,c5,c6,c7,c8,c9,c10,c11,c12,c13,c14,c15,x,y]) (hO:Z49.sem [o]=[t0,e0]) (hR:Z66.sem [t0,cod ((dec I).map Z62)]=[t1,e1])
  (hN:Fe=0→Z49.sem [cod ((dec I).map Z62)]=[t2,0]) (hI:Fe=0→(dec I).length≤256) (pO:Z49.pre [o]) (pN:Fe=0→Z49.pre [cod ((dec I).map Z62)])
  (pR:Fe=0→(dec o).length≤200→e0=0→Z66.pre [t0,cod ((dec I).map Z62)])
  (q1:Fe=0→(dec o).length≤200→e0=0→e1=0→Z67.pre [t1,cod ((dec I).map Z62),c0,c1,c2,c3,c4,c5,c6,c7,c8,c9,c10,c11,c12,c13,c14,c15,x,y,x,y]∧Z67.sem [t1,cod ((dec I).map Z62),c0,c1,c2,c3,c4,c5,c6,c7,c8,c9,c10,c11,c12,c13,c14,c15,x,y,x,y]=[cod FU,0])
  (q2:Fe=0→Z67.pre [t2,cod ((dec I).map Z62),c0,c1,c2,c3,c4,c5,c6,c7,c8,c9,c10,c11,c12,c13,c14,c15,x,y,x,y]∧Z67.sem [t2,cod ((dec I).map Z62),c0,c1,c2,c3,c4,c5,c6,c7,c8,c9,c10,c11,c12,c13,c14,c15,x,y,x,y]=[cod FU,0])
  (hfound:Fe=0→∀ f ∈ dec FLc,co f 1 ∈ FU) (hFl:(dec FLc).length≤1000000) (hUl:Fe=0→FU.length≤1000000) :
  t_TopFound.sat G_TopFound [] (fun ys=>ys=[1]) [] [I,T,c0,c1,c2,c3,c4,c5,c6,c7,c8,c9,c10,c11,c12,c13,c14,c15,x,y,o]:=by
 have hD:Zo8.sem []=[1]:=rfl
 unfold t_TopFound G_TopFound
 simp only [TX.sat,XB.prop]
 simp only [X.den,L2.den,TX.sat,XB.prop,X.den,Z1kk,Z1kl,Z1ke,Z1kf,Z1ki,Z1kj,Z1kg,Z1kh,mkS,mkP,and_true,true_and,Z1kp,Z1kq,not_or,not_and,Z1km,ne_eq,Z1kn,Z1ko]
 have hco:∀ x j,(dec x).getD j 0=co x j:=fun _ _=>rfl
 simp only [hD,hF,hO,TX.sat,XB.prop,X.den,Z1kk,Z1kl,Z1ke,Z1kf,Z1ki,Z1kj,Z1kg,Z1kh,mkS,mkP,and_true,true_and,Z1kp,Z1kq,not_or,not_and,Z1km,ne_eq,Z1kn,Z1ko]
 refine ⟨fun xs=>∃ i:Nat,xs.getD 1 0=(i:Int)∧i≤300,fun xs=>300 - (xs.getD 1 0).toNat,fun xs hx _=>Zp (n:=2) hx,⟨0,rfl,by omega⟩,?_⟩
 intro xs hx hA
 obtain ⟨d0,d1,rfl⟩:=Zdf hx
 obtain ⟨i,hi,hil⟩:=hA
 simp only [TX.sat,XB.prop,X.den,Z1kk,Z1kl,Z1ke,Z1kf,Z1ki,Z1kj,Z1kg,Z1kh,mkS,mkP,and_true,true_and,Z1kp,Z1kq,not_or,not_and,Z1km,ne_eq,Z1kn,Z1ko] at hi ⊢
 subst hi
 refine ⟨fun hlt=>⟨by omega,?_⟩,fun hge=>?_⟩
 ·have hw:IntKind.i64.wrap ((i:Int) + 1)=((i + 1:Nat):Int):=by rw [Zf (by omega) (by omega)]; omega
  refine ⟨⟨i + 1,hw,by omega⟩,?_⟩
  rw [hw,Int.toNat_natCast,Int.toNat_natCast]
  omega
 clear hge hil
 refine ⟨fun xs=>∃ i:Nat,xs.getD 1 0=(i:Int)∧i≤100,fun xs=>100 - (xs.getD 1 0).toNat,fun xs hx _=>Zp (n:=2) hx,⟨0,rfl,by omega⟩,?_⟩
 intro xs hx hA
 obtain ⟨d0,d1,rfl⟩:=Zdf hx
 obtain ⟨i,hi,hil⟩:=hA
 simp only [TX.sat,XB.prop,X.den,Z1kk,Z1kl,Z1ke,Z1kf,Z1ki,Z1kj,Z1kg,Z1kh,mkS,mkP,and_true,true_and,Z1kp,Z1kq,not_or,not_and,Z1km,ne_eq,Z1kn,Z1ko] at hi ⊢
 subst hi
 refine ⟨fun hlt=>⟨by omega,?_⟩,fun hge=>?_⟩
 ·have hw:IntKind.i64.wrap ((i:Int) + 1)=((i + 1:Nat):Int):=by rw [Zf (by omega) (by omega)]; omega
  refine ⟨⟨i + 1,hw,by omega⟩,?_⟩
  rw [hw,Int.toNat_natCast,Int.toNat_natCast]
  omega
 clear hge hil
 refine ⟨fun _=>trivial,fun _=>⟨pF,fun _=>trivial,fun hok=>?_⟩⟩
 have hFe:Fe=0:=hok.1
 have hol:(dec o).length≤200:=by omega
 have hfnd:=hfound hFe
 have hI':=hI hFe
 have hUl':=hUl hFe
 refine ⟨fun xs=>∃ i:Nat,xs.getD 1 0=(i:Int)∧i≤(dec I).length∧dec (xs.getD 0 0)=((dec I).take i).map Z62∧cod (dec (xs.getD 0 0))=xs.getD 0 0,fun xs=>(dec I).length - (xs.getD 1 0).toNat,fun xs hx _=>Zp (n:=2) hx,⟨0,rfl,by omega,Z37,by simp [Z3]⟩,?_⟩
 intro ys hy hB
 obtain ⟨b0,b1,rfl⟩:=Zdf hy
 obtain ⟨n,hn,hnl,hnd,hnc⟩:=hB
 simp only [TX.sat,XB.prop,X.den,Z1kk,Z1kl,Z1ke,Z1kf,Z1ki,Z1kj,Z1kg,Z1kh,mkS,mkP,and_true,true_and,Z1kp,Z1kq,not_or,not_and,Z1km,ne_eq,Z1kn,Z1ko] at hn hnd hnc ⊢
 subst hn
 simp only [Int.toNat_natCast,show Int.toNat 0=0 from rfl,show Int.toNat 1=1 from rfl,show Int.toNat 2=2 from rfl,show Int.toNat 3=3 from rfl,show Int.toNat 4=4 from rfl,show Int.toNat 12=12 from rfl,show Int.toNat 13=13 from rfl,show Int.toNat 14=14 from rfl,show Int.toNat 15=15 from rfl,show Int.toNat 16=16 from rfl,show Int.toNat 17=17 from rfl,hco,Z3]
 refine ⟨fun hlt=>⟨by omega,?_,⟨n + 1,?_,by omega,?_⟩,?_⟩,fun hge=>?_⟩
 ·rw [hnd,List.length_append,List.length_map,List.length_take,List.length_singleton]
  omega
 ·rw [Zf (by omega) (by omega)]; omega
 ·have hnI:n < (dec I).length:=by omega
  have htake:(dec I).take (n + 1)=(dec I).take n++[(dec I).getD n 0]:=by
   rw [List.take_succ_eq_append_getElem hnI]
   rw [show (dec I).getD n 0=(dec I)[n] by simp [List.getD,hnI]]
  rw [hnd,htake,List.map_append]
  exact ⟨rfl,trivial⟩
 ·rw [Zf (by omega) (by omega)]
  omega
 have hnn:n=(dec I).length:=by omega
 have hb:b0=cod ((dec I).map Z62):=by
  rw [← hnc,hnd,hnn,List.take_length]
 subst hb
 simp only [hR,hN hFe,TX.sat,XB.prop,X.den,Z1kk,Z1kl,Z1ke,Z1kf,Z1ki,Z1kj,Z1kg,Z1kh,mkS,mkP,and_true,true_and,Z1kp,Z1kq,not_or,not_and,Z1km,ne_eq,Z1kn,Z1ko]
 clear hnd hnc hge hy
 refine ⟨pO,fun h0=>⟨pR hFe hol h0,fun h1=>?_,fun h1=>?_⟩,fun h0=>?_⟩
 ·have hq:=q2 hFe
  simp only [hq.2,TX.sat,XB.prop,X.den,Z1kk,Z1kl,Z1ke,Z1kf,Z1ki,Z1kj,Z1kg,Z1kh,mkS,mkP,and_true,true_and,Z1kp,Z1kq,not_or,not_and,Z1km,ne_eq,Z1kn,Z1ko]
  refine ⟨pN hFe,hq.1,fun hbad=>(hbad.elim id id).elim,fun _=>?_⟩
  ·refine ⟨fun xs=>∃ m:Nat,xs.getD 1 0=(m:Int)∧m≤(dec FLc).length,fun xs=>(dec FLc).length - (xs.getD 1 0).toNat,fun xs hx _=>Zp (n:=2) hx,⟨0,rfl,by omega⟩,?_⟩
   intro zs hz hJ
   obtain ⟨e0,e1,rfl⟩:=Zdf hz
   obtain ⟨m,hm,hml⟩:=hJ
   simp only [TX.sat,XB.prop,X.den,Z1kk,Z1kl,Z1ke,Z1kf,Z1ki,Z1kj,Z1kg,Z1kh,mkS,mkP,and_true,true_and,Z1kp,Z1kq,not_or,not_and,Z1km,ne_eq,Z1kn,Z1ko] at hm ⊢
   subst hm
   simp only [Int.toNat_natCast,show Int.toNat 0=0 from rfl,show Int.toNat 1=1 from rfl,show Int.toNat 2=2 from rfl,show Int.toNat 3=3 from rfl,show Int.toNat 4=4 from rfl,show Int.toNat 12=12 from rfl,show Int.toNat 13=13 from rfl,show Int.toNat 14=14 from rfl,show Int.toNat 15=15 from rfl,show Int.toNat 16=16 from rfl,show Int.toNat 17=17 from rfl]
   refine ⟨fun _=>trivial,fun hlt=>⟨by omega,?_⟩⟩
   have hmL:m < (dec FLc).length:=by omega
   have hin:=hfnd _ (Z10 hmL)
   refine ⟨fun xs=>∃ q:Nat,xs.getD 1 0=(q:Int)∧q≤FU.length∧∀ j,j < q→FU.getD j 0 ≠ co ((dec FLc).getD m 0) 1,fun xs=>FU.length - (xs.getD 1 0).toNat,fun xs hx _=>Zp (n:=2) hx,⟨0,rfl,by omega,fun j hj=>by omega⟩,?_⟩
   intro us hu hK
   obtain ⟨f0,f1,rfl⟩:=Zdf hu
   obtain ⟨q,hq,hql,hqn⟩:=hK
   simp only [TX.sat,XB.prop,X.den,Z1kk,Z1kl,Z1ke,Z1kf,Z1ki,Z1kj,Z1kg,Z1kh,mkS,mkP,and_true,true_and,Z1kp,Z1kq,not_or,not_and,Z1km,ne_eq,Z1kn,Z1ko] at hq ⊢
   subst hq
   simp only [Int.toNat_natCast,show Int.toNat 0=0 from rfl,show Int.toNat 1=1 from rfl,show Int.toNat 2=2 from rfl,show Int.toNat 3=3 from rfl,show Int.toNat 4=4 from rfl,show Int.toNat 12=12 from rfl,show Int.toNat 13=13 from rfl,show Int.toNat 14=14 from rfl,show Int.toNat 15=15 from rfl,show Int.toNat 16=16 from rfl,show Int.toNat 17=17 from rfl,Z3,hco]
   refine ⟨fun hge=>?_,fun hlt2=>⟨by omega,fun heq=>?_,fun hne=>?_⟩⟩
   ·obtain ⟨j,hj,e⟩:=Znx hin
    exact absurd e.symm (hqn j (by omega))
   ·have hw:IntKind.i64.wrap ((m:Int) + 1)=((m + 1:Nat):Int):=by rw [Zf (by omega) (by omega)]; omega
    refine ⟨⟨m + 1,hw,by omega⟩,?_⟩
    rw [hw,Int.toNat_natCast]
    omega
   ·have hw:IntKind.i64.wrap ((q:Int) + 1)=((q + 1:Nat):Int):=by rw [Zf (by omega) (by omega)]; omega
    refine ⟨⟨q + 1,hw,by omega,fun j hj=>?_⟩,?_⟩
    ·by_cases hjq:j=q
     ·rw [hjq,← Zoc]; exact hne
     ·exact hqn j (by omega)
    ·rw [hw,Int.toNat_natCast]
     omega
 ·have hq:=q1 hFe hol h0 h1
  simp only [hq.2,TX.sat,XB.prop,X.den,Z1kk,Z1kl,Z1ke,Z1kf,Z1ki,Z1kj,Z1kg,Z1kh,mkS,mkP,and_true,true_and,Z1kp,Z1kq,not_or,not_and,Z1km,ne_eq,Z1kn,Z1ko]
  refine ⟨hq.1,fun hbad=>hbad.elim,fun _=>?_⟩
  ·refine ⟨fun xs=>∃ m:Nat,xs.getD 1 0=(m:Int)∧m≤(dec FLc).length,fun xs=>(dec FLc).length - (xs.getD 1 0).toNat,fun xs hx _=>Zp (n:=2) hx,⟨0,rfl,by omega⟩,?_⟩
   intro zs hz hJ
   obtain ⟨e0,e1,rfl⟩:=Zdf hz
   obtain ⟨m,hm,hml⟩:=hJ
   simp only [TX.sat,XB.prop,X.den,Z1kk,Z1kl,Z1ke,Z1kf,Z1ki,Z1kj,Z1kg,Z1kh,mkS,mkP,and_true,true_and,Z1kp,Z1kq,not_or,not_and,Z1km,ne_eq,Z1kn,Z1ko] at hm ⊢
   subst hm
   simp only [Int.toNat_natCast,show Int.toNat 0=0 from rfl,show Int.toNat 1=1 from rfl,show Int.toNat 2=2 from rfl,show Int.toNat 3=3 from rfl,show Int.toNat 4=4 from rfl,show Int.toNat 12=12 from rfl,show Int.toNat 13=13 from rfl,show Int.toNat 14=14 from rfl,show Int.toNat 15=15 from rfl,show Int.toNat 16=16 from rfl,show Int.toNat 17=17 from rfl]
   refine ⟨fun _=>trivial,fun hlt=>⟨by omega,?_⟩⟩
   have hmL:m < (dec FLc).length:=by omega
   have hin:=hfnd _ (Z10 hmL)
   refine ⟨fun xs=>∃ q:Nat,xs.getD 1 0=(q:Int)∧q≤FU.length∧∀ j,j < q→FU.getD j 0 ≠ co ((dec FLc).getD m 0) 1,fun xs=>FU.length - (xs.getD 1 0).toNat,fun xs hx _=>Zp (n:=2) hx,⟨0,rfl,by omega,fun j hj=>by omega⟩,?_⟩
   intro us hu hK
   obtain ⟨f0,f1,rfl⟩:=Zdf hu
   obtain ⟨q,hq,hql,hqn⟩:=hK
   simp only [TX.sat,XB.prop,X.den,Z1kk,Z1kl,Z1ke,Z1kf,Z1ki,Z1kj,Z1kg,Z1kh,mkS,mkP,and_true,true_and,Z1kp,Z1kq,not_or,not_and,Z1km,ne_eq,Z1kn,Z1ko] at hq ⊢
   subst hq
   simp only [Int.toNat_natCast,show Int.toNat 0=0 from rfl,show Int.toNat 1=1 from rfl,show Int.toNat 2=2 from rfl,show Int.toNat 3=3 from rfl,show Int.toNat 4=4 from rfl,show Int.toNat 12=12 from rfl,show Int.toNat 13=13 from rfl,show Int.toNat 14=14 from rfl,show Int.toNat 15=15 from rfl,show Int.toNat 16=16 from rfl,show Int.toNat 17=17 from rfl,Z3,hco]
   refine ⟨fun hge=>?_,fun hlt2=>⟨by omega,fun heq=>?_,fun hne=>?_⟩⟩
   ·obtain ⟨j,hj,e⟩:=Znx hin
    exact absurd e.symm (hqn j (by omega))
   ·have hw:IntKind.i64.wrap ((m:Int) + 1)=((m + 1:Nat):Int):=by rw [Zf (by omega) (by omega)]; omega
    refine ⟨⟨m + 1,hw,by omega⟩,?_⟩
    rw [hw,Int.toNat_natCast]
    omega
   ·have hw:IntKind.i64.wrap ((q:Int) + 1)=((q + 1:Nat):Int):=by rw [Zf (by omega) (by omega)]; omega
    refine ⟨⟨q + 1,hw,by omega,fun j hj=>?_⟩,?_⟩
    ·by_cases hjq:j=q
     ·rw [hjq,← Zoc]; exact hne
     ·exact hqn j (by omega)
    ·rw [hw,Int.toNat_natCast]
     omega
 ·have hq:=q2 hFe
  simp only [hq.2,TX.sat,XB.prop,X.den,Z1kk,Z1kl,Z1ke,Z1kf,Z1ki,Z1kj,Z1kg,Z1kh,mkS,mkP,and_true,true_and,Z1kp,Z1kq,not_or,not_and,Z1km,ne_eq,Z1kn,Z1ko]
  refine ⟨pN hFe,hq.1,fun hbad=>(hbad.elim id id).elim,fun _=>?_⟩
  ·refine ⟨fun xs=>∃ m:Nat,xs.getD 1 0=(m:Int)∧m≤(dec FLc).length,fun xs=>(dec FLc).length - (xs.getD 1 0).toNat,fun xs hx _=>Zp (n:=2) hx,⟨0,rfl,by omega⟩,?_⟩
   intro zs hz hJ
   obtain ⟨e0,e1,rfl⟩:=Zdf hz
   obtain ⟨m,hm,hml⟩:=hJ
   simp only [TX.sat,XB.prop,X.den,Z1kk,Z1kl,Z1ke,Z1kf,Z1ki,Z1kj,Z1kg,Z1kh,mkS,mkP,and_true,true_and,Z1kp,Z1kq,not_or,not_and,Z1km,ne_eq,Z1kn,Z1ko] at hm ⊢
   subst hm
   simp only [Int.toNat_natCast,show Int.toNat 0=0 from rfl,show Int.toNat 1=1 from rfl,show Int.toNat 2=2 from rfl,show Int.toNat 3=3 from rfl,show Int.toNat 4=4 from rfl,show Int.toNat 12=12 from rfl,show Int.toNat 13=13 from rfl,show Int.toNat 14=14 from rfl,show Int.toNat 15=15 from rfl,show Int.toNat 16=16 from rfl,show Int.toNat 17=17 from rfl]
   refine ⟨fun _=>trivial,fun hlt=>⟨by omega,?_⟩⟩
   have hmL:m < (dec FLc).length:=by omega
   have hin:=hfnd _ (Z10 hmL)
   refine ⟨fun xs=>∃ q:Nat,xs.getD 1 0=(q:Int)∧q≤FU.length∧∀ j,j < q→FU.getD j 0 ≠ co ((dec FLc).getD m 0) 1,fun xs=>FU.length - (xs.getD 1 0).toNat,fun xs hx _=>Zp (n:=2) hx,⟨0,rfl,by omega,fun j hj=>by omega⟩,?_⟩
   intro us hu hK
   obtain ⟨f0,f1,rfl⟩:=Zdf hu
   obtain ⟨q,hq,hql,hqn⟩:=hK
   simp only [TX.sat,XB.prop,X.den,Z1kk,Z1kl,Z1ke,Z1kf,Z1ki,Z1kj,Z1kg,Z1kh,mkS,mkP,and_true,true_and,Z1kp,Z1kq,not_or,not_and,Z1km,ne_eq,Z1kn,Z1ko] at hq ⊢
   subst hq
   simp only [Int.toNat_natCast,show Int.toNat 0=0 from rfl,show Int.toNat 1=1 from rfl,show Int.toNat 2=2 from rfl,show Int.toNat 3=3 from rfl,show Int.toNat 4=4 from rfl,show Int.toNat 12=12 from rfl,show Int.toNat 13=13 from rfl,show Int.toNat 14=14 from rfl,show Int.toNat 15=15 from rfl,show Int.toNat 16=16 from rfl,show Int.toNat 17=17 from rfl,Z3,hco]
   refine ⟨fun hge=>?_,fun hlt2=>⟨by omega,fun heq=>?_,fun hne=>?_⟩⟩
   ·obtain ⟨j,hj,e⟩:=Znx hin
    exact absurd e.symm (hqn j (by omega))
   ·have hw:IntKind.i64.wrap ((m:Int) + 1)=((m + 1:Nat):Int):=by rw [Zf (by omega) (by omega)]; omega
    refine ⟨⟨m + 1,hw,by omega⟩,?_⟩
    rw [hw,Int.toNat_natCast]
    omega
   ·have hw:IntKind.i64.wrap ((q:Int) + 1)=((q + 1:Nat):Int):=by rw [Zf (by omega) (by omega)]; omega
    refine ⟨⟨q + 1,hw,by omega,fun j hj=>?_⟩,?_⟩
    ·by_cases hjq:j=q
     ·rw [hjq,← Zoc]; exact hne
     ·exact hqn j (by omega)
    ·rw [hw,Int.toNat_natCast]
     omega
theorem pins (I T:Int) (hr0:Zk7 (dec I) (dec T)) (xs1:List Int) (hr1:Z9 (An 16).ks xs1) (xs2:List Int) (hr2:Z9 I1.ks xs2) (xs3:List Int) (hr3:Z9 I1.ks xs3) (l4:List Int) (hr4:∀ x ∈ l4,Z9 Z3d (elt Z3d x)):Z17 ([none,none]++zs 18++[none]) ([I,T]++(xs1++(xs2++(xs3++([cod l4]++[]))))):=by
 have v1:=Z1t hr1
 have v2:=Z1t hr2
 have v3:=Z1t hr3
 obtain ⟨h1,i1⟩:=Z13r hr1
 obtain ⟨c0,c1,c2,c3,c4,c5,c6,c7,c8,c9,c10,c11,c12,c13,c14,c15,rfl⟩:=Z1bm h1
 obtain ⟨x,rfl,i2⟩:=Zw1 hr2
 obtain ⟨y,rfl,i3⟩:=Zw1 hr3
 exact Z1 (trivial) (Z1 (trivial) (Z1 (v1.2 0) (Z1 (v1.2 1) (Z1 (v1.2 2) (Z1 (v1.2 3) (Z1 (v1.2 4) (Z1 (v1.2 5) (Z1 (v1.2 6) (Z1 (v1.2 7) (Z1 (v1.2 8) (Z1 (v1.2 9) (Z1 (v1.2 10) (Z1 (v1.2 11) (Z1 (v1.2 12) (Z1 (v1.2 13) (Z1 (v1.2 14) (Z1 (v1.2 15) (Z1 (v2.2 0) (Z1 (v3.2 0) (Z1 (trivial) Z4))))))))))))))))))))
theorem plain (I T:Int) (hr0:Zk7 (dec I) (dec T)) (xs1:List Int) (hr1:Z9 (An 16).ks xs1) (xs2:List Int) (hr2:Z9 I1.ks xs2) (xs3:List Int) (hr3:Z9 I1.ks xs3) (l4:List Int) (hr4:∀ x ∈ l4,Z9 Z3d (elt Z3d x)):t_TopFound.sat G_TopFound [] (fun ys=>ys=[1]) [] ([I,T]++(xs1++(xs2++(xs3++([cod l4]++[]))))):=by
 have v1:=Z1t hr1
 have v2:=Z1t hr2
 have v3:=Z1t hr3
 obtain ⟨h1,i1⟩:=Z13r hr1
 obtain ⟨c0,c1,c2,c3,c4,c5,c6,c7,c8,c9,c10,c11,c12,c13,c14,c15,rfl⟩:=Z1bm h1
 obtain ⟨x,rfl,i2⟩:=Zw1 hr2
 obtain ⟨y,rfl,i3⟩:=Zw1 hr3
 have hel4:∀ b ∈ l4,Z9 Z3d (dec b):=hr4
 have pF:Zbj.pre [I,T,c0,c1,c2,c3,c4,c5,c6,c7,c8,c9,c10,c11,c12,c13,c14,c15,x,y]:=⟨Z1 (trivial) (Z1 (trivial) (Z1 (v1.2 0) (Z1 (v1.2 1) (Z1 (v1.2 2) (Z1 (v1.2 3) (Z1 (v1.2 4) (Z1 (v1.2 5) (Z1 (v1.2 6) (Z1 (v1.2 7) (Z1 (v1.2 8) (Z1 (v1.2 9) (Z1 (v1.2 10) (Z1 (v1.2 11) (Z1 (v1.2 12) (Z1 (v1.2 13) (Z1 (v1.2 14) (Z1 (v1.2 15) (Z1 (v2.2 0) (Z1 (v3.2 0) Z4))))))))))))))))))),hr0⟩
 have hFe:frE [I,T,c0,c1,c2,c3,c4,c5,c6,c7,c8,c9,c10,c11,c12,c13,c14,c15,x,y]=if Z4v [I,T]=0 then (if Z2o [c0,c1,c2,c3,c4,c5,c6,c7,c8,c9,c10,c11,c12,c13,c14,c15] 0=true then (if 0≤x∧x < c14∧0≤y∧y < c15 then 0 else 2) else 150) else Z4v [I,T]:=rfl
 have hgood:frE [I,T,c0,c1,c2,c3,c4,c5,c6,c7,c8,c9,c10,c11,c12,c13,c14,c15,x,y]=0→Z4v [I,T]=0∧Z2o [c0,c1,c2,c3,c4,c5,c6,c7,c8,c9,c10,c11,c12,c13,c14,c15] 0=true∧(0≤x∧x < c14∧0≤y∧y < c15):=by
  intro h
  rw [hFe] at h
  split at h
  ·rename_i k1
   split at h
   ·rename_i k2
    split at h
    ·rename_i k3
     exact ⟨k1,k2,k3⟩
    ·exact absurd h (by decide)
   ·exact absurd h (by decide)
  ·rename_i k1
   exact absurd h k1
 have hB:∀ b ∈ (dec I).map Z62,Z9 Z3d (dec b):=fun b hb=>by
  obtain ⟨z,hz,rfl⟩:=List.mem_map.1 hb
  exact Z127 (hr0.1 z hz).1
 have pB:∀ l:List Int,(∀ b ∈ l,Z9 Z3d (dec b))→Z49.pre [cod l]:=fun l h=>⟨Zp (n:=1) rfl,by show ∀ b ∈ dec (cod l),_; rw [Z3]; exact h⟩
 have hol:∀ b ∈ l4,Z21 l4=0→Z36 b=true:=fun b hb h=>(Zj0 h).2 b hb
 have preR:∀ t l:List Int,t.length≤1000→l.length≤1000→(∀ b ∈ t,Z9 Z4u (dec b))→(∀ b ∈ l,Z9 Z3d (dec b))→Z66.pre [cod t,cod l]:=fun t l h1 h2 h3 h4 =>
  ⟨Zp (n:=2) rfl,⟨by show (dec (cod t)).length≤1000; rw [Z3]; exact h1,by show (dec (cod l)).length≤1000; rw [Z3]; exact h2⟩,by show ∀ b ∈ dec (cod t),_; rw [Z3]; exact h3,by show ∀ b ∈ dec (cod l),_; rw [Z3]; exact h4⟩
 have preQ:∀ t l:List Int,t.length≤1000→l.length≤1000→(∀ b ∈ t,Z9 Z4u (dec b))→(∀ b ∈ l,Z9 Z3d (dec b))→Z67.pre [cod t,cod l,c0,c1,c2,c3,c4,c5,c6,c7,c8,c9,c10,c11,c12,c13,c14,c15,x,y,x,y]:=fun t l h1 h2 h3 h4 =>
  ⟨Z1 (trivial) (Z1 (trivial) (Z1 (v1.2 0) (Z1 (v1.2 1) (Z1 (v1.2 2) (Z1 (v1.2 3) (Z1 (v1.2 4) (Z1 (v1.2 5) (Z1 (v1.2 6) (Z1 (v1.2 7) (Z1 (v1.2 8) (Z1 (v1.2 9) (Z1 (v1.2 10) (Z1 (v1.2 11) (Z1 (v1.2 12) (Z1 (v1.2 13) (Z1 (v1.2 14) (Z1 (v1.2 15) (Z1 (v2.2 0) (Z1 (v3.2 0) (Z1 (v2.2 0) (Z1 (v3.2 0) Z4))))))))))))))))))))),⟨by show (dec (cod t)).length≤1000; rw [Z3]; exact h1,by show (dec (cod l)).length≤1000; rw [Z3]; exact h2⟩,by show ∀ b ∈ dec (cod t),_; rw [Z3]; exact h3,by show ∀ b ∈ dec (cod l),_; rw [Z3]; exact h4⟩
 have semQ:∀ t:List Int,frE [I,T,c0,c1,c2,c3,c4,c5,c6,c7,c8,c9,c10,c11,c12,c13,c14,c15,x,y]=0→Z9i ((dec I).map Z62) t→Z67.pre [cod t,cod ((dec I).map Z62),c0,c1,c2,c3,c4,c5,c6,c7,c8,c9,c10,c11,c12,c13,c14,c15,x,y,x,y]∧Z67.sem [cod t,cod ((dec I).map Z62),c0,c1,c2,c3,c4,c5,c6,c7,c8,c9,c10,c11,c12,c13,c14,c15,x,y,x,y]=[cod (Z3k ((dec I).map Z62) [c0,c1,c2,c3,c4,c5,c6,c7,c8,c9,c10,c11,c12,c13,c14,c15,x,y,x,y] (dec I).length),0]:=by
  intro t h ht
  obtain ⟨k1,k2,k3⟩:=hgood h
  have hl:=(Z38 k1).1
  have hbs:=Zah k1
  have htl:=Z1kd ht (by rw [List.length_map]; exact hl)
  refine ⟨preQ t _ (by omega) (by rw [List.length_map]; omega) (Zlt (fun z hz=>Z19z (hbs.1 z hz)) (by rw [List.length_map]; omega) (by omega) ht) hB,?_⟩
  obtain ⟨l1,l2⟩:=Z1f3 (t:=t) k1 k2 k3 ht
  show [(Zan (dec (cod t)) (dec (cod ((dec I).map Z62))) [c0,c1,c2,c3,c4,c5,c6,c7,c8,c9,c10,c11,c12,c13,c14,c15,x,y,x,y]).getD 0 0,(Zan (dec (cod t)) (dec (cod ((dec I).map Z62))) [c0,c1,c2,c3,c4,c5,c6,c7,c8,c9,c10,c11,c12,c13,c14,c15,x,y,x,y]).getD 2 0]=_
  rw [Z3,Z3,l1,l2]
 have hsemR:∀ t l:List Int,Z66.sem [cod t,cod l]=[if Z1w t l=0 then cod (Z30 l t) else cod [],Z1w t l]:=fun t l=>by
  show [if Z1w (dec (cod t)) (dec (cod l))=0 then cod (Z30 (dec (cod l)) (dec (cod t))) else cod [],Z1w (dec (cod t)) (dec (cod l))]=_
  rw [Z3,Z3]
 have hsemB:∀ l:List Int,Z49.sem [cod l]=[if Z21 l=0 then cod (Zbl l) else cod [],Z21 l]:=fun l=>by
  show [if Z21 (dec (cod l))=0 then cod (Zbl (dec (cod l))) else cod [],Z21 (dec (cod l))]=_
  rw [Z3]
 obtain ⟨told,hto⟩:∃ t,t=if Z21 l4=0 then Zbl l4 else []:=⟨_,rfl⟩
 have hsO:Z49.sem [cod l4]=[cod told,Z21 l4]:=by
  rw [hsemB,hto]
  split <;> rfl
 obtain ⟨tref,htr⟩:∃ t,t=if Z1w told ((dec I).map Z62)=0 then Z30 ((dec I).map Z62) told else []:=⟨_,rfl⟩
 have hsR:Z66.sem [cod told,cod ((dec I).map Z62)]=[cod tref,Z1w told ((dec I).map Z62)]:=by
  rw [hsemR,htr]
  split <;> rfl
 have hlenF:(Zy1 (dec I) [c0,c1,c2,c3,c4,c5,c6,c7,c8,c9,c10,c11,c12,c13,c14,c15]).length≤1000000∨¬ frE [I,T,c0,c1,c2,c3,c4,c5,c6,c7,c8,c9,c10,c11,c12,c13,c14,c15,x,y]=0:=by
  by_cases h:frE [I,T,c0,c1,c2,c3,c4,c5,c6,c7,c8,c9,c10,c11,c12,c13,c14,c15,x,y]=0
  ·left
   obtain ⟨k1,_⟩:=hgood h
   have:=Zjh (l:=dec I) (pt:=ptS (dec I) [c0,c1,c2,c3,c4,c5,c6,c7,c8,c9,c10,c11,c12,c13,c14,c15]) (fun i k=>Zre) (fun i hi=>(Zjd ((Z38 k1).2.2.2 _ (Z10 hi))).1.2.2) (dec I).length (Nat.le_refl _)
   have hl:=(Z38 k1).1
   have h2:(Zy1 (dec I) [c0,c1,c2,c3,c4,c5,c6,c7,c8,c9,c10,c11,c12,c13,c14,c15]).length≤384 * (dec I).length:=this
   omega
  ·exact .inr h
 obtain ⟨FL,hFL⟩:∃ l,l=if frE [I,T,c0,c1,c2,c3,c4,c5,c6,c7,c8,c9,c10,c11,c12,c13,c14,c15,x,y]=0 then Zfa (dec I) [c0,c1,c2,c3,c4,c5,c6,c7,c8,c9,c10,c11,c12,c13,c14,c15] x y else []:=⟨_,rfl⟩
 have hsF:Zbj.sem [I,T,c0,c1,c2,c3,c4,c5,c6,c7,c8,c9,c10,c11,c12,c13,c14,c15,x,y]=[cod FL,frE [I,T,c0,c1,c2,c3,c4,c5,c6,c7,c8,c9,c10,c11,c12,c13,c14,c15,x,y]]:=by
  show Z9d [I,T,c0,c1,c2,c3,c4,c5,c6,c7,c8,c9,c10,c11,c12,c13,c14,c15,x,y]=_
  unfold Z9d
  rw [hFL]
  show [if frE [I,T,c0,c1,c2,c3,c4,c5,c6,c7,c8,c9,c10,c11,c12,c13,c14,c15,x,y]=0 then cod (Zfa (dec I) [c0,c1,c2,c3,c4,c5,c6,c7,c8,c9,c10,c11,c12,c13,c14,c15] x y) else cod [],frE [I,T,c0,c1,c2,c3,c4,c5,c6,c7,c8,c9,c10,c11,c12,c13,c14,c15,x,y]]=_
  split <;> rfl
 refine sat_top I T c0 c1 c2 c3 c4 c5 c6 c7 c8 c9 c10 c11 c12 c13 c14 c15 x y (cod l4) (cod FL) (frE [I,T,c0,c1,c2,c3,c4,c5,c6,c7,c8,c9,c10,c11,c12,c13,c14,c15,x,y]) (cod told) (Z21 l4) (cod tref) (Z1w told ((dec I).map Z62)) (cod (Zbl ((dec I).map Z62))) (Z3k ((dec I).map Z62) [c0,c1,c2,c3,c4,c5,c6,c7,c8,c9,c10,c11,c12,c13,c14,c15,x,y,x,y] (dec I).length)
  hsF pF hsO hsR (fun h=>?_) (fun h=>(Z38 (hgood h).1).1) (pB l4 hel4) (fun h=>pB _ hB) (fun h hl he=>?_) (fun h hl he hr=>?_) (fun h=>semQ _ h (Z19l _)) (fun h=>?_) ?_ (fun h=>?_)
 ·rw [hsemB,(Zah (hgood h).1).2,if_pos rfl]
 ·rw [Z3] at hl
  rw [hto,if_pos he]
  have htl:=Zyv (L:=l4)
  exact preR _ _ (by omega) (by rw [List.length_map]; have:=(Z38 (hgood h).1).1; omega) (Zlt (fun z hz=>hol z hz he) (by omega) (by omega) (Z19l l4)) hB
 ·have hsh:Z1m told (((dec I).map Z62).length:Int)=true:=by
   unfold Z1w at hr
   rw [if_pos (Zah (hgood h).1).2] at hr
   split at hr
   ·assumption
   ·exact absurd hr (by decide)
  rw [htr,if_pos hr]
  exact semQ _ h (Z1et hsh)
 ·rw [Z3,hFL,if_pos h]
  intro f hf
  obtain ⟨k1,k2,k3⟩:=hgood h
  exact Z11k k1 k2 k3 hf
 ·rw [Z3,hFL]
  split
  ·rename_i h
   unfold Zfa
   rcases hlenF with h2 | h2
   ·exact Nat.le_trans (List.length_filterMap_le _ _) h2
   ·exact absurd h h2
  ·decide
 ·have h2:=Zit (l:=(dec I).map Z62) (x:=[c0,c1,c2,c3,c4,c5,c6,c7,c8,c9,c10,c11,c12,c13,c14,c15,x,y,x,y]) (dec I).length
  have:=(Z38 (hgood h).1).1
  omega
set_option maxRecDepth 100000 in
theorem lifted (os:Os) (started:os.Started) (H:Type) (enc:TypeId × Value→H) :
  ReturnsInHanded {} Tryz.checked os 4 .any (fun w args=>(Rows.topFoundSpec.pre enc Tryz.prog Tryz.f4 Rows.topFoundRow.domain false w args∧laidMet Tryz.prog [("diorama/frustum.world",Rows.laid_diorama_frustum_world)] w)∧sizedMet enc Tryz.prog Tryz.f4 (OpenSpec.ofChange Rows.topFoundSpec) false w args) (Rows.topFoundSpec.post enc Tryz.prog Tryz.f4 false true false false):=by
 refine returnsInHanded_of_change_and (C:=Tryz.checked) (X:=fun w _=>laidMet Tryz.prog [("diorama/frustum.world",Rows.laid_diorama_frustum_world)] w) (fun _ _ _ hh h=>h.of_heap hh) facts.own started (by kernel_rfl) Tryz.func4
  (ChangeSpec.witness_at (enc:=enc) (C:=Tryz.checked) (os:=os) (X:=fun w _=>laidMet Tryz.prog [("diorama/frustum.world",Rows.laid_diorama_frustum_world)] w) false (Zil os) #[.agg #[.slice none 0 0,.slice none 0 0],.agg #[.int .i64 0,.int .i64 0,.int .i64 0,.int .i64 0,.int .i64 0,.int .i64 0,.int .i64 0,.int .i64 0,.int .i64 0,.int .i64 0,.int .i64 0,.int .i64 0,.int .i64 0,.int .i64 0,.int .i64 0,.int .i64 0],.int .i64 0,.int .i64 0,.slice none 0 0] 8 rfl (by kernel_rfl) (by kernel_rfl) (by kernel_rfl) (by kernel_rfl) (by kernel_rfl) (Zmm os _)) ?_
 intro W base args ds gs before hval0 hW hcnd _ hL _
 have hval:∀ (j:Nat) t v,Tryz.f4.params[j]?=some t→args[j]?=some v→Value.okWide Tryz.prog W .any base t v:=hval0
 have hW':=hW
 obtain ⟨p,q,hA0,hV,rfl,hfz,hnd⟩:=hW
 have hA:DataW.TrodAll enc Tryz.prog W 0 (fun _=>true) true Tryz.f4.params.toList args.toList ds p:=hA0
 rw [Tryz.params4] at hA hval
 obtain ⟨v0,vs0,d0,ds0,p0,q0,hargs,rfl,rfl,h0,r0⟩:=trodAll_cons hA
 obtain ⟨v1,vs1,d1,ds1,p1,q1,rfl,rfl,rfl,h1,r1⟩:=trodAll_cons r0
 obtain ⟨v2,vs2,d2,ds2,p2,q2,rfl,rfl,rfl,h2,r2⟩:=trodAll_cons r1
 obtain ⟨v3,vs3,d3,ds3,p3,q3,rfl,rfl,rfl,h3,r3⟩:=trodAll_cons r2
 obtain ⟨v4,vs4,d4,ds4,p4,q4,rfl,rfl,rfl,h4,r4⟩:=trodAll_cons r3
 obtain ⟨rfl,rfl,rfl⟩:=trodAll_nil r4
 obtain rfl:args=#[v0,v1,v2,v3,v4]:=by cases args; simp_all
 obtain ⟨rfl,rfl⟩:=trodVars_none hV
 have k0:=h0
 have lt0:∀ x ∈ p0,x.block < W.heap.size:=by obtain ⟨m,hm⟩:=k0; exact DataW.trod_lt m _ _ _ hm
 have k1:=h1
 have lt1:∀ x ∈ p1,x.block < W.heap.size:=by obtain ⟨m,hm⟩:=k1; exact DataW.trod_lt m _ _ _ hm
 have k2:=h2
 have lt2:∀ x ∈ p2,x.block < W.heap.size:=by obtain ⟨m,hm⟩:=k2; exact DataW.trod_lt m _ _ _ hm
 have k3:=h3
 have lt3:∀ x ∈ p3,x.block < W.heap.size:=by obtain ⟨m,hm⟩:=k3; exact DataW.trod_lt m _ _ _ hm
 have k4:=h4
 have lt4:∀ x ∈ p4,x.block < W.heap.size:=by obtain ⟨m,hm⟩:=k4; exact DataW.trod_lt m _ _ _ hm
 obtain ⟨I0,T0,hs0,hi0,ht0⟩:=Z1e5 (e1:=85) (k1:=Zk6) (e2:=88) (k2:=Zjb) (fun _=>rfl) Tryz.underlying25 (by kernel_rfl) (hval 0 25 v0 rfl rfl) h0
 have hr0:=Z1e6 hi0 ht0
 obtain ⟨xs1,hv1,hr1⟩:=Zsv (sh:=An 16) (by kernel_rfl) (by kernel_rfl) (hval 1 31 v1 rfl rfl) h1
 have hs1:ShR (fun _ ks u n=>SlN W ks u n) (An 16) v1 xs1:=by rw [hv1]; exact Z13o rfl rfl (Z1u hr1)
 obtain ⟨xs2,hv2,hr2⟩:=Zsv (sh:=I1) (by kernel_rfl) (by kernel_rfl) (hval 2 3 v2 rfl rfl) h2
 have hs2:ShR (fun _ ks u n=>SlN W ks u n) (I1) v2 xs2:=by rw [hv2]; exact Z13o rfl rfl (Z1u hr2)
 obtain ⟨xs3,hv3,hr3⟩:=Zsv (sh:=I1) (by kernel_rfl) (by kernel_rfl) (hval 3 3 v3 rfl rfl) h3
 have hs3:ShR (fun _ ks u n=>SlN W ks u n) (I1) v3 xs3:=by rw [hv3]; exact Z13o rfl rfl (Z1u hr3)
 obtain ⟨l4,hs4,hr4⟩:=Z1az (ks:=Z3d) Tryz.underlying48 (by kernel_rfl) (by kernel_rfl) (hval 4 48 v4 rfl rfl) h4
 clear hA0 hval0
 have hx:Zaj (fun _ ks u n=>SlN W ks u n) [Sho,An 16,I1,I1,Bs] [v0,v1,v2,v3,v4] ([I0,T0]++(xs1++(xs2++(xs3++([cod l4]++[]))))):=⟨_,_,_,_,rfl,rfl,hs0,⟨_,_,_,_,rfl,rfl,hs1,⟨_,_,_,_,rfl,rfl,hs2,⟨_,_,_,_,rfl,rfl,hs3,⟨_,_,_,_,rfl,rfl,hs4,⟨rfl,rfl⟩⟩⟩⟩⟩⟩
 have hcalls:=lawFL facts.mixed g_TopFound o_TopFound tree_TopFound W hx (pins I0 T0 hr0 xs1 hr1 xs2 hr2 xs3 hr3 l4 hr4) (plain I0 T0 hr0 xs1 hr1 xs2 hr2 xs3 hr3 l4 hr4) (Zq2 hL)
 refine hcalls.mono fun e W' ⟨he,bel⟩=>?_
 subst he
 exact ⟨_,rfl,_,_,_,[],_,[],hW',trodAll_mk1 (shut_bool Tryz.underlying4 _),(trodAll_cons_mk (Below.trod facts.laidOut (by kernel_rfl) (of_decide_eq_true (by kernel_rfl)) k0 bel lt0) (trodAll_cons_mk (Below.trod facts.laidOut (by kernel_rfl) (of_decide_eq_true (by kernel_rfl)) k1 bel lt1) (trodAll_cons_mk (Below.trod facts.laidOut (by kernel_rfl) (of_decide_eq_true (by kernel_rfl)) k2 bel lt2) (trodAll_cons_mk (Below.trod facts.laidOut (by kernel_rfl) (of_decide_eq_true (by kernel_rfl)) k3 bel lt3) (trodAll_cons_mk (Below.trod facts.laidOut (by kernel_rfl) (of_decide_eq_true (by kernel_rfl)) k4 bel lt4) trodAll_mk0))))),rfl,bel.frame _,fun h=>by cases h⟩
theorem over:Rows.topFoundRow.holds Tryz.pinned (OpenSpec.ofChange Rows.topFoundSpec) :=
 OpenClaim.holds_of_wide 4 Tryz.f4 rfl rfl rfl rfl rfl rfl rfl ⟨rfl,rfl,rfl,rfl,rfl⟩ rfl rfl rfl rfl rfl (by kernel_rfl) Tryz.func4
  (facts.joined (by kernel_rfl) (by kernel_rfl) (by kernel_rfl) (by kernel_rfl) (by kernel_rfl) (by kernel_rfl) (by kernel_rfl) rfl rfl rfl rfl)
  (of_decide_eq_true (by kernel_rfl)) (by unfold Func.isWrapper; first | (rw [if_pos (by decide +kernel)]; kernel_rfl) | (rw [if_neg (by decide +kernel)]; exact ⟨rfl,rfl⟩))
  (fun os started H enc _=>lifted os started H enc)
theorem noStand:(Tryz.f4.params.all fun t=>!Tryz.prog.wantsStandIn t)=true:=by kernel_rfl
theorem proved:Rows.TopFoundCardSaid :=
 Claim7.holds_tied_plain_at .later [] [.data] true (true, "b3924336b0480d2658ba0abf4705aba63770927102c8bae2dcedd6927e28cde3") false over (fun _ h=>by cases h) (by kernel_rfl) (fun _ h=>by cases h) topFound_row_tie rfl ⟨rfl,rfl⟩ (by kernel_rfl) rfl
  (fun f fn hf hfn=>by
   obtain rfl:f=4:=Option.some.inj ((show Tryz.prog.funcNamed Rows.topFoundRow.func=some 4 by kernel_rfl).symm.trans hf) |>.symm
   obtain rfl:fn=Tryz.f4:=(Option.some.inj (Tryz.func4.symm.trans hfn)).symm
   refine ⟨by kernel_rfl,fun j t ht=>?_⟩
   have:=Array.all_eq_true_iff_forall_mem.1 noStand t (Array.mem_of_getElem? ht)
   exact (by simpa using this:Tryz.prog.wantsStandIn t=false))
  (by kernel_rfl)
#print axioms proved
end Go.Proofs.YtgcoidbaoigkeaaGreatDoor.topFound
