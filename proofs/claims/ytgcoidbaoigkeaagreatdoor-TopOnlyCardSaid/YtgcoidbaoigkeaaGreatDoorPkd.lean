/-
  Symbolic execution of the model, and what functions of the program come to: part 4.
-/
import Derived.RangeFuncBox
import Derived.RangeFuncLeaves
import Derived.Shelf.Abstract
import Derived.WalkKit
import Derived.OwnWalkIn
import Derived.TacticsInMore
import Derived.LoopNIn
import Derived.LoopIn
import Derived.Test.YtgcoidbaoigkeaaGreatDoorProg
import Derived.Shelf.Sort.Plain
import Derived.Shelf.Slices.In.SortNone
import Derived.Ground.Names2Prog
import Derived.Lib.SliceRun
import Derived.Sort.LotA
import Derived.Shelf.GgSortMore.Stable
import Derived.Below
import Derived.Shelf.SlSortCmp.KitK
import Derived.Shelf.SlSortCmp.InsertionK
import Derived.Shelf.Small.Wraps
import Derived.Test.YtgcoidbaoigkeaaGreatDoorPkc
set_option linter.unusedVariables false
set_option linter.unusedSimpArgs false
open List renaming getElem?_cons_zero → Z1gq, getElem?_cons_succ → Z1gr, getD_cons_zero → Z1gs, getD_cons_succ → Z1gt, cons_append → Z1gu, nil_append → Z1gv, map_cons → Z1gw, map_nil → Z1gx
namespace Go.Proofs.YtgcoidbaoigkeaaGreatDoor.fix
open Go.RowKit Go.Sx
theorem Z181 (a m c d n:Int):Z4c [8 * a,m,c,d,n,0]=[Zrb a c d n]:=by
 unfold Z4c Zrb
 simp only [TX.sat,XB.prop,X.den,Z1gw,Z1gx,Z1gq,Z1gr,Z1gu,Z1gv,Z1gs,Z1gt,mkS,mkP,and_true,true_and,Z1h1,Z1h2,not_or,not_and,Z1gy,ne_eq,Z1gz,Z1h0]
 by_cases h:0≤n <;> simp [h]
theorem Z182 (a m c d n:Int):Z4c [8 * a,m,c,d,n,1]=[Zrc a c d n]:=by
 unfold Z4c Zrc
 simp only [TX.sat,XB.prop,X.den,Z1gw,Z1gx,Z1gq,Z1gr,Z1gu,Z1gv,Z1gs,Z1gt,mkS,mkP,and_true,true_and,Z1h1,Z1h2,not_or,not_and,Z1gy,ne_eq,Z1gz,Z1h0]
 by_cases h:0≤n <;> simp [h]
theorem Z12d {f a b n:Int} (hf:0≤f∧f≤64) (hn:-32768≤n∧n≤32768) (ha:256≤a) (hb:256≤b):-65536≤Zrb f a b n∧Zrb f a b n≤65536:=by
 unfold Zrb
 split
 ·exact Z5v hf hn hb
 ·exact Z5v hf hn ha
theorem Z12e {f a b n:Int} (hf:0≤f∧f≤64) (hn:-32768≤n∧n≤32768) (ha:256≤a) (hb:256≤b):-65536≤Zrc f a b n∧Zrc f a b n≤65536:=by
 unfold Zrc
 split
 ·exact Z5v hf hn ha
 ·exact Z5v hf hn hb
theorem Zuq {f m c d n k:Int} (hf:1≤f∧f≤64) (hm:1≤m∧m≤64) (hc:256≤c∧c≤32768) (hd:256≤d∧d≤32768) (hn:-32768≤n∧n≤32768) (hk:0≤k∧k≤1):Zr Z93 [8 * f,4 * m,c,d,n,k] :=
 Z1 (Z7.2 (by omega)) (Z1 (Z7.2 (by omega)) (Z1 hc (Z1 hd (Z1 hn (Z1 hk Z2)))))
theorem Z1bw {f m c d l h u v:Int} (hf:1≤f∧f≤64) (hm:1≤m∧m≤64) (hc:256≤c∧c≤32768) (hd:256≤d∧d≤32768) (hl:-1048576≤l∧l≤1048576) (hh:-1048576≤h∧h≤1048576) (hu:Z16v u) (hv:Z16v v):Zr Zeh [8 * f,4 * m,c,d,l,h,u,v] :=
 Z1 (v:=zz) ⟨by show -9223372036854775808≤_; omega,by show _≤9223372036854775807; omega⟩ (Z1 (v:=zz) ⟨by show -9223372036854775808≤_; omega,by show _≤9223372036854775807; omega⟩ (Z1 (v:=zz) ⟨by show -9223372036854775808≤_; omega,by show _≤9223372036854775807; omega⟩ (Z1 (v:=zz) ⟨by show -9223372036854775808≤_; omega,by show _≤9223372036854775807; omega⟩ (Z1 hl (Z1 hh (Z1 hu (Z1 hv Z2)))))))
theorem Zrt {x:List Int} (h:Z2b x 0=true):(1≤x.getD 12 0∧x.getD 12 0≤64)∧(256≤x.getD 13 0∧x.getD 13 0≤4096)∧(1≤x.getD 14 0∧x.getD 14 0≤64)∧(1≤x.getD 15 0∧x.getD 15 0≤64):=Zom h
theorem Z96 {x:List Int}:Z9q x=true↔(Z1n x≤Z6z x∧Z11j x≤Z11l x∧Z11k x≤Z11m x):=decide_eq_true_iff
theorem Z12f {k n:Int} (hk:0≤k∧k≤8) (h:1≤n∧n≤64):IntKind.i64.wrap (k * n)=k * n:=by
 have:=Z17 (x:=k) (y:=n) (m:=8) (n:=64) (by omega) (by omega)
 exact Zo (by omega) (by omega)
noncomputable def Z6n:List Sum:=[Z6l,Z47,Zeg,Zu7]
def Zur:List Inf:=[Zra,Zef,Zu6,Z1bo]
def Zbs:TX:=(.callp 0 [(.v 0),(.v 1),(.v 2),(.v 3),(.v 4),(.v 5),(.v 6),(.v 7),(.v 8),(.v 9),(.v 10),(.v 11),(.v 12),(.v 13),(.v 14),(.v 15),(.v 16),(.v 17),(.v 18),(.v 19),(.v 20),(.v 21)] (.ite (.not (.eq (.v 32) (.c 0))) (.ret [(.c 0),(.c 0),(.c 0),(.c 0),(.c 0),(.c 0),(.v 32)])
(.callp 1 [(.v 0),(.v 1),(.v 2),(.v 3),(.v 4),(.v 5),(.v 6),(.v 7),(.v 8),(.v 9),(.v 10),(.v 11),(.v 12),(.v 13),(.v 14),(.v 15),(.v 22),(.v 23),(.v 24),(.v 25)] (.ite (.not (.eq (.v 33) (.c 0))) (.ret [(.c 0),(.c 0),(.c 0),(.c 0),(.c 0),(.c 0),(.v 33)])
(.ite (.lt (.v 31) (.mx (.v 28) (.v 13))) (.ret [(.c 0),(.c 0),(.c 0),(.c 0),(.c 0),(.c 0),(.c 0)])
(.call 2 [(.wr .i64 (.mul (.c 8) (.v 12))),(.wr .i64 (.mul (.c 4) (.v 14))),(.mx (.v 28) (.v 13)),(.v 31),(.v 26),(.c 0)] (.call 2 [(.wr .i64 (.mul (.c 8) (.v 12))),(.wr .i64 (.mul (.c 4) (.v 14))),(.mx (.v 28) (.v 13)),(.v 31),(.v 29),(.c 1)] (.call 3 [(.wr .i64 (.mul (.c 8) (.v 12))),(.wr .i64 (.mul (.c 4) (.v 14))),(.mx (.v 28) (.v 13)),(.v 31),(.wr .i64 (.add (.v 34) (.wr .i64 (.mul (.c 4) (.v 14))))),(.wr .i64 (.add (.v 35) (.wr .i64 (.mul (.c 4) (.v 14))))),(.v 22),(.v 24)] (.call 2 [(.wr .i64 (.mul (.c 8) (.v 12))),(.wr .i64 (.mul (.c 4) (.v 15))),(.mx (.v 28) (.v 13)),(.v 31),(.v 30),(.c 1)] (.call 2 [(.wr .i64 (.mul (.c 8) (.v 12))),(.wr .i64 (.mul (.c 4) (.v 15))),(.mx (.v 28) (.v 13)),(.v 31),(.v 27),(.c 0)] (.call 3 [(.wr .i64 (.mul (.c 8) (.v 12))),(.wr .i64 (.mul (.c 4) (.v 15))),(.mx (.v 28) (.v 13)),(.v 31),(.wr .i64 (.sub (.wr .i64 (.mul (.c 4) (.v 15))) (.v 39))),(.wr .i64 (.sub (.wr .i64 (.mul (.c 4) (.v 15))) (.v 40))),(.v 23),(.v 25)] (.ite (.or (.eq (.v 38) (.c 0)) (.eq (.v 43) (.c 0))) (.ret [(.c 0),(.c 0),(.c 0),(.c 0),(.c 0),(.c 0),(.c 0)])
(.asrt (.not (.eq (.mx (.v 28) (.v 13)) (.c 0))) (.ret [(.v 36),(.v 41),(.v 37),(.v 42),(.wr .i64 (.quo (.c 16777216) (.mx (.v 28) (.v 13)))),(.c 1),(.c 0)]))))))))))))))
theorem Zru:Z13 (Zs [] Zur [] Zd4 (Zn Tryz.prog Z78 gl0 Z6n 1000 54 [An 16,An 6,An 4] [An 5,Bo,I1]))=Zbs:=by kernel_rfl
theorem Z183:Gok Tryz.prog Z6n:=(more Zum (more Zgz (more Z12c (fix.one Z1em))))
theorem Z184:Zi Z6n Zur:=(Z3 Zon (Z3 Zd7 (Z3 Zy9 (Z3 Z180 Z6))))
set_option maxRecDepth 4000 in
theorem Z12g:Zei.ok Tryz.prog:=Sum.okF facts.mixed Z183 Z184 Zru rfl (fun _=>rfl) (by
 intro xs hx hp
 obtain ⟨a0,a1,a2,a3,a4,a5,a6,a7,a8,a9,a10,a11,a12,a13,a14,a15,a16,a17,a18,a19,a20,a21,a22,a23,a24,a25,rfl⟩:=len26 hx
 have w22:Z16v a22:=hp.2 22
 have w23:Z16v a23:=hp.2 23
 have w24:Z16v a24:=hp.2 24
 have w25:Z16v a25:=hp.2 25
 have e1:Zbh [a0,a1,a2,a3,a4,a5,a6,a7,a8,a9,a10,a11,a12,a13,a14,a15,a16,a17,a18,a19,a20,a21]=if Z2b [a0,a1,a2,a3,a4,a5,a6,a7,a8,a9,a10,a11,a12,a13,a14,a15,a16,a17,a18,a19,a20,a21,a22,a23,a24,a25] 0=true then if Z33 [a0,a1,a2,a3,a4,a5,a6,a7,a8,a9,a10,a11,a12,a13,a14,a15,a16,a17,a18,a19,a20,a21,a22,a23,a24,a25] 16=true then Zq (Z23 [a0,a1,a2,a3,a4,a5,a6,a7,a8,a9,a10,a11,a12,a13,a14,a15,a16,a17,a18,a19,a20,a21,a22,a23,a24,a25]) else z7 8 else z7 150:=rfl
 have e2:Z2q [a0,a1,a2,a3,a4,a5,a6,a7,a8,a9,a10,a11,a12,a13,a14,a15,a22,a23,a24,a25]=if Z2b [a0,a1,a2,a3,a4,a5,a6,a7,a8,a9,a10,a11,a12,a13,a14,a15,a16,a17,a18,a19,a20,a21,a22,a23,a24,a25] 0=true then if winC [a0,a1,a2,a3,a4,a5,a6,a7,a8,a9,a10,a11,a12,a13,a14,a15,a16,a17,a18,a19,a20,a21,a22,a23,a24,a25]=true then 0 else 2 else 150:=rfl
 have hn:Z1n [a0,a1,a2,a3,a4,a5,a6,a7,a8,a9,a10,a11,a12,a13,a14,a15,a16,a17,a18,a19,a20,a21,a22,a23,a24,a25]=max ((Zq (Z23 [a0,a1,a2,a3,a4,a5,a6,a7,a8,a9,a10,a11,a12,a13,a14,a15,a16,a17,a18,a19,a20,a21,a22,a23,a24,a25])).getD 2 0) a13:=rfl
 have hf:Z6z [a0,a1,a2,a3,a4,a5,a6,a7,a8,a9,a10,a11,a12,a13,a14,a15,a16,a17,a18,a19,a20,a21,a22,a23,a24,a25]=(Zq (Z23 [a0,a1,a2,a3,a4,a5,a6,a7,a8,a9,a10,a11,a12,a13,a14,a15,a16,a17,a18,a19,a20,a21,a22,a23,a24,a25])).getD 5 0:=rfl
 clear hx hp
 by_cases hc:Z2b [a0,a1,a2,a3,a4,a5,a6,a7,a8,a9,a10,a11,a12,a13,a14,a15,a16,a17,a18,a19,a20,a21,a22,a23,a24,a25] 0=true
 ·by_cases hw:Z33 [a0,a1,a2,a3,a4,a5,a6,a7,a8,a9,a10,a11,a12,a13,a14,a15,a16,a17,a18,a19,a20,a21,a22,a23,a24,a25] 16=true
  ·by_cases hv:winC [a0,a1,a2,a3,a4,a5,a6,a7,a8,a9,a10,a11,a12,a13,a14,a15,a16,a17,a18,a19,a20,a21,a22,a23,a24,a25]=true
   ·obtain ⟨s1,s2,s3⟩:=Zrr hc hw
    have kl:=Zrt hc
    simp only [TX.sat,XB.prop,X.den,Z1gw,Z1gx,Z1gq,Z1gr,Z1gu,Z1gv,Z1gs,Z1gt,mkS,mkP,and_true,true_and,Z1h1,Z1h2,not_or,not_and,Z1gy,ne_eq,Z1gz,Z1h0] at kl
    obtain ⟨kf,kn,kw,kh⟩:=kl
    have m0:=Z12f (k:=8) (by omega) kf
    have m1:=Z12f (k:=4) (by omega) kw
    have m2:=Z12f (k:=4) (by omega) kh
    simp only [Zbs,Z6n,Z6l,Z47,Zeg,Zu7,TX.sat,XB.prop,X.den,Z1gw,Z1gx,Z1gq,Z1gr,Z1gu,Z1gv,Z1gs,Z1gt,mkS,mkP,and_true,true_and,Z1h1,Z1h2,not_or,not_and,Z1gy,ne_eq,Z1gz,Z1h0,Z34,Z3l,Zkq,Z4d,Z3m,e1,e2,hc,hw,hv,if_true,reduceIte,ex7,m0,m1,m2,Z181,Z182,← hn,← hf]
    have q0:(Zq (Z23 [a0,a1,a2,a3,a4,a5,a6,a7,a8,a9,a10,a11,a12,a13,a14,a15,a16,a17,a18,a19,a20,a21,a22,a23,a24,a25])).getD 0 0=vw [a0,a1,a2,a3,a4,a5,a6,a7,a8,a9,a10,a11,a12,a13,a14,a15,a16,a17,a18,a19,a20,a21,a22,a23,a24,a25] 0:=rfl
    have q1:(Zq (Z23 [a0,a1,a2,a3,a4,a5,a6,a7,a8,a9,a10,a11,a12,a13,a14,a15,a16,a17,a18,a19,a20,a21,a22,a23,a24,a25])).getD 1 0=vw [a0,a1,a2,a3,a4,a5,a6,a7,a8,a9,a10,a11,a12,a13,a14,a15,a16,a17,a18,a19,a20,a21,a22,a23,a24,a25] 1:=rfl
    have q2:(Zq (Z23 [a0,a1,a2,a3,a4,a5,a6,a7,a8,a9,a10,a11,a12,a13,a14,a15,a16,a17,a18,a19,a20,a21,a22,a23,a24,a25])).getD 2 0=vw [a0,a1,a2,a3,a4,a5,a6,a7,a8,a9,a10,a11,a12,a13,a14,a15,a16,a17,a18,a19,a20,a21,a22,a23,a24,a25] 2:=rfl
    have q3:(Zq (Z23 [a0,a1,a2,a3,a4,a5,a6,a7,a8,a9,a10,a11,a12,a13,a14,a15,a16,a17,a18,a19,a20,a21,a22,a23,a24,a25])).getD 3 0=vw [a0,a1,a2,a3,a4,a5,a6,a7,a8,a9,a10,a11,a12,a13,a14,a15,a16,a17,a18,a19,a20,a21,a22,a23,a24,a25] 3:=rfl
    have q4:(Zq (Z23 [a0,a1,a2,a3,a4,a5,a6,a7,a8,a9,a10,a11,a12,a13,a14,a15,a16,a17,a18,a19,a20,a21,a22,a23,a24,a25])).getD 4 0=vw [a0,a1,a2,a3,a4,a5,a6,a7,a8,a9,a10,a11,a12,a13,a14,a15,a16,a17,a18,a19,a20,a21,a22,a23,a24,a25] 4:=rfl
    have q5:Z6z [a0,a1,a2,a3,a4,a5,a6,a7,a8,a9,a10,a11,a12,a13,a14,a15,a16,a17,a18,a19,a20,a21,a22,a23,a24,a25]=vw [a0,a1,a2,a3,a4,a5,a6,a7,a8,a9,a10,a11,a12,a13,a14,a15,a16,a17,a18,a19,a20,a21,a22,a23,a24,a25] 5:=rfl
    have q6:(Zq (Z23 [a0,a1,a2,a3,a4,a5,a6,a7,a8,a9,a10,a11,a12,a13,a14,a15,a16,a17,a18,a19,a20,a21,a22,a23,a24,a25])).getD 6 0=0:=rfl
    rw [q2] at hn
    simp only [q0,q1,q3,q4,q6]
    by_cases hz:Z1n [a0,a1,a2,a3,a4,a5,a6,a7,a8,a9,a10,a11,a12,a13,a14,a15,a16,a17,a18,a19,a20,a21,a22,a23,a24,a25]≤Z6z [a0,a1,a2,a3,a4,a5,a6,a7,a8,a9,a10,a11,a12,a13,a14,a15,a16,a17,a18,a19,a20,a21,a22,a23,a24,a25]
    ·have k1:256≤Z1n [a0,a1,a2,a3,a4,a5,a6,a7,a8,a9,a10,a11,a12,a13,a14,a15,a16,a17,a18,a19,a20,a21,a22,a23,a24,a25]∧Z1n [a0,a1,a2,a3,a4,a5,a6,a7,a8,a9,a10,a11,a12,a13,a14,a15,a16,a17,a18,a19,a20,a21,a22,a23,a24,a25]≤32768:=by omega
     have k2:256≤Z6z [a0,a1,a2,a3,a4,a5,a6,a7,a8,a9,a10,a11,a12,a13,a14,a15,a16,a17,a18,a19,a20,a21,a22,a23,a24,a25]∧Z6z [a0,a1,a2,a3,a4,a5,a6,a7,a8,a9,a10,a11,a12,a13,a14,a15,a16,a17,a18,a19,a20,a21,a22,a23,a24,a25]≤32768:=by omega
     have g0:=Z12d (f:=a12) (a:=Z1n [a0,a1,a2,a3,a4,a5,a6,a7,a8,a9,a10,a11,a12,a13,a14,a15,a16,a17,a18,a19,a20,a21,a22,a23,a24,a25]) (b:=Z6z [a0,a1,a2,a3,a4,a5,a6,a7,a8,a9,a10,a11,a12,a13,a14,a15,a16,a17,a18,a19,a20,a21,a22,a23,a24,a25]) (n:=vw [a0,a1,a2,a3,a4,a5,a6,a7,a8,a9,a10,a11,a12,a13,a14,a15,a16,a17,a18,a19,a20,a21,a22,a23,a24,a25] 0) (by omega) (by omega) k1.1 k2.1
     have g3:=Z12e (f:=a12) (a:=Z1n [a0,a1,a2,a3,a4,a5,a6,a7,a8,a9,a10,a11,a12,a13,a14,a15,a16,a17,a18,a19,a20,a21,a22,a23,a24,a25]) (b:=Z6z [a0,a1,a2,a3,a4,a5,a6,a7,a8,a9,a10,a11,a12,a13,a14,a15,a16,a17,a18,a19,a20,a21,a22,a23,a24,a25]) (n:=vw [a0,a1,a2,a3,a4,a5,a6,a7,a8,a9,a10,a11,a12,a13,a14,a15,a16,a17,a18,a19,a20,a21,a22,a23,a24,a25] 3) (by omega) (by omega) k1.1 k2.1
     have g4:=Z12e (f:=a12) (a:=Z1n [a0,a1,a2,a3,a4,a5,a6,a7,a8,a9,a10,a11,a12,a13,a14,a15,a16,a17,a18,a19,a20,a21,a22,a23,a24,a25]) (b:=Z6z [a0,a1,a2,a3,a4,a5,a6,a7,a8,a9,a10,a11,a12,a13,a14,a15,a16,a17,a18,a19,a20,a21,a22,a23,a24,a25]) (n:=vw [a0,a1,a2,a3,a4,a5,a6,a7,a8,a9,a10,a11,a12,a13,a14,a15,a16,a17,a18,a19,a20,a21,a22,a23,a24,a25] 4) (by omega) (by omega) k1.1 k2.1
     have g1:=Z12d (f:=a12) (a:=Z1n [a0,a1,a2,a3,a4,a5,a6,a7,a8,a9,a10,a11,a12,a13,a14,a15,a16,a17,a18,a19,a20,a21,a22,a23,a24,a25]) (b:=Z6z [a0,a1,a2,a3,a4,a5,a6,a7,a8,a9,a10,a11,a12,a13,a14,a15,a16,a17,a18,a19,a20,a21,a22,a23,a24,a25]) (n:=vw [a0,a1,a2,a3,a4,a5,a6,a7,a8,a9,a10,a11,a12,a13,a14,a15,a16,a17,a18,a19,a20,a21,a22,a23,a24,a25] 1) (by omega) (by omega) k1.1 k2.1
     have p0:IntKind.i64.wrap (Zrb a12 (Z1n [a0,a1,a2,a3,a4,a5,a6,a7,a8,a9,a10,a11,a12,a13,a14,a15,a16,a17,a18,a19,a20,a21,a22,a23,a24,a25]) (Z6z [a0,a1,a2,a3,a4,a5,a6,a7,a8,a9,a10,a11,a12,a13,a14,a15,a16,a17,a18,a19,a20,a21,a22,a23,a24,a25]) (vw [a0,a1,a2,a3,a4,a5,a6,a7,a8,a9,a10,a11,a12,a13,a14,a15,a16,a17,a18,a19,a20,a21,a22,a23,a24,a25] 0) + 4 * a14)=Zgs [a0,a1,a2,a3,a4,a5,a6,a7,a8,a9,a10,a11,a12,a13,a14,a15,a16,a17,a18,a19,a20,a21,a22,a23,a24,a25]:=Zo (by omega) (by omega)
     have p3:IntKind.i64.wrap (Zrc a12 (Z1n [a0,a1,a2,a3,a4,a5,a6,a7,a8,a9,a10,a11,a12,a13,a14,a15,a16,a17,a18,a19,a20,a21,a22,a23,a24,a25]) (Z6z [a0,a1,a2,a3,a4,a5,a6,a7,a8,a9,a10,a11,a12,a13,a14,a15,a16,a17,a18,a19,a20,a21,a22,a23,a24,a25]) (vw [a0,a1,a2,a3,a4,a5,a6,a7,a8,a9,a10,a11,a12,a13,a14,a15,a16,a17,a18,a19,a20,a21,a22,a23,a24,a25] 3) + 4 * a14)=Zbi [a0,a1,a2,a3,a4,a5,a6,a7,a8,a9,a10,a11,a12,a13,a14,a15,a16,a17,a18,a19,a20,a21,a22,a23,a24,a25]:=Zo (by omega) (by omega)
     have p4:IntKind.i64.wrap (4 * a15 - Zrc a12 (Z1n [a0,a1,a2,a3,a4,a5,a6,a7,a8,a9,a10,a11,a12,a13,a14,a15,a16,a17,a18,a19,a20,a21,a22,a23,a24,a25]) (Z6z [a0,a1,a2,a3,a4,a5,a6,a7,a8,a9,a10,a11,a12,a13,a14,a15,a16,a17,a18,a19,a20,a21,a22,a23,a24,a25]) (vw [a0,a1,a2,a3,a4,a5,a6,a7,a8,a9,a10,a11,a12,a13,a14,a15,a16,a17,a18,a19,a20,a21,a22,a23,a24,a25] 4))=Z179 [a0,a1,a2,a3,a4,a5,a6,a7,a8,a9,a10,a11,a12,a13,a14,a15,a16,a17,a18,a19,a20,a21,a22,a23,a24,a25]:=Zo (by omega) (by omega)
     have p1:IntKind.i64.wrap (4 * a15 - Zrb a12 (Z1n [a0,a1,a2,a3,a4,a5,a6,a7,a8,a9,a10,a11,a12,a13,a14,a15,a16,a17,a18,a19,a20,a21,a22,a23,a24,a25]) (Z6z [a0,a1,a2,a3,a4,a5,a6,a7,a8,a9,a10,a11,a12,a13,a14,a15,a16,a17,a18,a19,a20,a21,a22,a23,a24,a25]) (vw [a0,a1,a2,a3,a4,a5,a6,a7,a8,a9,a10,a11,a12,a13,a14,a15,a16,a17,a18,a19,a20,a21,a22,a23,a24,a25] 1))=Z17a [a0,a1,a2,a3,a4,a5,a6,a7,a8,a9,a10,a11,a12,a13,a14,a15,a16,a17,a18,a19,a20,a21,a22,a23,a24,a25]:=Zo (by omega) (by omega)
     have r0:Zgs [a0,a1,a2,a3,a4,a5,a6,a7,a8,a9,a10,a11,a12,a13,a14,a15,a16,a17,a18,a19,a20,a21,a22,a23,a24,a25]=Zrb a12 (Z1n [a0,a1,a2,a3,a4,a5,a6,a7,a8,a9,a10,a11,a12,a13,a14,a15,a16,a17,a18,a19,a20,a21,a22,a23,a24,a25]) (Z6z [a0,a1,a2,a3,a4,a5,a6,a7,a8,a9,a10,a11,a12,a13,a14,a15,a16,a17,a18,a19,a20,a21,a22,a23,a24,a25]) (vw [a0,a1,a2,a3,a4,a5,a6,a7,a8,a9,a10,a11,a12,a13,a14,a15,a16,a17,a18,a19,a20,a21,a22,a23,a24,a25] 0) + 4 * a14:=rfl
     have r3:Zbi [a0,a1,a2,a3,a4,a5,a6,a7,a8,a9,a10,a11,a12,a13,a14,a15,a16,a17,a18,a19,a20,a21,a22,a23,a24,a25]=Zrc a12 (Z1n [a0,a1,a2,a3,a4,a5,a6,a7,a8,a9,a10,a11,a12,a13,a14,a15,a16,a17,a18,a19,a20,a21,a22,a23,a24,a25]) (Z6z [a0,a1,a2,a3,a4,a5,a6,a7,a8,a9,a10,a11,a12,a13,a14,a15,a16,a17,a18,a19,a20,a21,a22,a23,a24,a25]) (vw [a0,a1,a2,a3,a4,a5,a6,a7,a8,a9,a10,a11,a12,a13,a14,a15,a16,a17,a18,a19,a20,a21,a22,a23,a24,a25] 3) + 4 * a14:=rfl
     have r4:Z179 [a0,a1,a2,a3,a4,a5,a6,a7,a8,a9,a10,a11,a12,a13,a14,a15,a16,a17,a18,a19,a20,a21,a22,a23,a24,a25]=4 * a15 - Zrc a12 (Z1n [a0,a1,a2,a3,a4,a5,a6,a7,a8,a9,a10,a11,a12,a13,a14,a15,a16,a17,a18,a19,a20,a21,a22,a23,a24,a25]) (Z6z [a0,a1,a2,a3,a4,a5,a6,a7,a8,a9,a10,a11,a12,a13,a14,a15,a16,a17,a18,a19,a20,a21,a22,a23,a24,a25]) (vw [a0,a1,a2,a3,a4,a5,a6,a7,a8,a9,a10,a11,a12,a13,a14,a15,a16,a17,a18,a19,a20,a21,a22,a23,a24,a25] 4):=rfl
     have r1:Z17a [a0,a1,a2,a3,a4,a5,a6,a7,a8,a9,a10,a11,a12,a13,a14,a15,a16,a17,a18,a19,a20,a21,a22,a23,a24,a25]=4 * a15 - Zrb a12 (Z1n [a0,a1,a2,a3,a4,a5,a6,a7,a8,a9,a10,a11,a12,a13,a14,a15,a16,a17,a18,a19,a20,a21,a22,a23,a24,a25]) (Z6z [a0,a1,a2,a3,a4,a5,a6,a7,a8,a9,a10,a11,a12,a13,a14,a15,a16,a17,a18,a19,a20,a21,a22,a23,a24,a25]) (vw [a0,a1,a2,a3,a4,a5,a6,a7,a8,a9,a10,a11,a12,a13,a14,a15,a16,a17,a18,a19,a20,a21,a22,a23,a24,a25] 1):=rfl
     have t0:max (up (Zgs [a0,a1,a2,a3,a4,a5,a6,a7,a8,a9,a10,a11,a12,a13,a14,a15,a16,a17,a18,a19,a20,a21,a22,a23,a24,a25] - 4) 8) a22=Z11j [a0,a1,a2,a3,a4,a5,a6,a7,a8,a9,a10,a11,a12,a13,a14,a15,a16,a17,a18,a19,a20,a21,a22,a23,a24,a25]:=rfl
     have t1:min ((Zbi [a0,a1,a2,a3,a4,a5,a6,a7,a8,a9,a10,a11,a12,a13,a14,a15,a16,a17,a18,a19,a20,a21,a22,a23,a24,a25] - 4) / 8) a24=Z11l [a0,a1,a2,a3,a4,a5,a6,a7,a8,a9,a10,a11,a12,a13,a14,a15,a16,a17,a18,a19,a20,a21,a22,a23,a24,a25]:=rfl
     have t2:max (up (Z179 [a0,a1,a2,a3,a4,a5,a6,a7,a8,a9,a10,a11,a12,a13,a14,a15,a16,a17,a18,a19,a20,a21,a22,a23,a24,a25] - 4) 8) a23=Z11k [a0,a1,a2,a3,a4,a5,a6,a7,a8,a9,a10,a11,a12,a13,a14,a15,a16,a17,a18,a19,a20,a21,a22,a23,a24,a25]:=rfl
     have t3:min ((Z17a [a0,a1,a2,a3,a4,a5,a6,a7,a8,a9,a10,a11,a12,a13,a14,a15,a16,a17,a18,a19,a20,a21,a22,a23,a24,a25] - 4) / 8) a25=Z11m [a0,a1,a2,a3,a4,a5,a6,a7,a8,a9,a10,a11,a12,a13,a14,a15,a16,a17,a18,a19,a20,a21,a22,a23,a24,a25]:=rfl
     have hd:(16777216:Int).tdiv (Z1n [a0,a1,a2,a3,a4,a5,a6,a7,a8,a9,a10,a11,a12,a13,a14,a15,a16,a17,a18,a19,a20,a21,a22,a23,a24,a25])=16777216 / Z1n [a0,a1,a2,a3,a4,a5,a6,a7,a8,a9,a10,a11,a12,a13,a14,a15,a16,a17,a18,a19,a20,a21,a22,a23,a24,a25]:=Zuk (by omega) (by omega)
     have hd2:0≤16777216 / Z1n [a0,a1,a2,a3,a4,a5,a6,a7,a8,a9,a10,a11,a12,a13,a14,a15,a16,a17,a18,a19,a20,a21,a22,a23,a24,a25]∧16777216 / Z1n [a0,a1,a2,a3,a4,a5,a6,a7,a8,a9,a10,a11,a12,a13,a14,a15,a16,a17,a18,a19,a20,a21,a22,a23,a24,a25]≤16777216:=Z5m (by omega) (by omega) (by omega) (by omega) (by omega)
     have hd3:IntKind.i64.wrap (16777216 / Z1n [a0,a1,a2,a3,a4,a5,a6,a7,a8,a9,a10,a11,a12,a13,a14,a15,a16,a17,a18,a19,a20,a21,a22,a23,a24,a25])=16777216 / Z1n [a0,a1,a2,a3,a4,a5,a6,a7,a8,a9,a10,a11,a12,a13,a14,a15,a16,a17,a18,a19,a20,a21,a22,a23,a24,a25]:=Zo (by omega) (by omega)
     simp only [p0,p1,p3,p4,t0,t1,t2,t3,hd,hd3]
     have hsh:Z9q [a0,a1,a2,a3,a4,a5,a6,a7,a8,a9,a10,a11,a12,a13,a14,a15,a16,a17,a18,a19,a20,a21,a22,a23,a24,a25]=true↔(Z11j [a0,a1,a2,a3,a4,a5,a6,a7,a8,a9,a10,a11,a12,a13,a14,a15,a16,a17,a18,a19,a20,a21,a22,a23,a24,a25]≤Z11l [a0,a1,a2,a3,a4,a5,a6,a7,a8,a9,a10,a11,a12,a13,a14,a15,a16,a17,a18,a19,a20,a21,a22,a23,a24,a25]∧Z11k [a0,a1,a2,a3,a4,a5,a6,a7,a8,a9,a10,a11,a12,a13,a14,a15,a16,a17,a18,a19,a20,a21,a22,a23,a24,a25]≤Z11m [a0,a1,a2,a3,a4,a5,a6,a7,a8,a9,a10,a11,a12,a13,a14,a15,a16,a17,a18,a19,a20,a21,a22,a23,a24,a25]):=by
      rw [Z96]
      exact ⟨fun h=>h.2,fun h=>⟨hz,h⟩⟩
     have z1:Zgs [a0,a1,a2,a3,a4,a5,a6,a7,a8,a9,a10,a11,a12,a13,a14,a15,a16,a17,a18,a19,a20,a21,a22,a23,a24,a25] - 4=Zgs [a0,a1,a2,a3,a4,a5,a6,a7,a8,a9,a10,a11,a12,a13,a14,a15,a16,a17,a18,a19,a20,a21,a22,a23,a24,a25] - 4:=rfl
     refine ⟨fun h=>absurd h (by simp),fun _=>⟨fun h=>absurd h (by simp),fun _=>⟨fun h=>absurd h (by omega),fun _=>?_⟩⟩⟩
     have v0:=Zuq (k:=0) kf kw k1 k2 (n:=vw [a0,a1,a2,a3,a4,a5,a6,a7,a8,a9,a10,a11,a12,a13,a14,a15,a16,a17,a18,a19,a20,a21,a22,a23,a24,a25] 0) (by omega) (by omega)
     have v3:=Zuq (k:=1) kf kw k1 k2 (n:=vw [a0,a1,a2,a3,a4,a5,a6,a7,a8,a9,a10,a11,a12,a13,a14,a15,a16,a17,a18,a19,a20,a21,a22,a23,a24,a25] 3) (by omega) (by omega)
     have v4:=Zuq (k:=1) kf kh k1 k2 (n:=vw [a0,a1,a2,a3,a4,a5,a6,a7,a8,a9,a10,a11,a12,a13,a14,a15,a16,a17,a18,a19,a20,a21,a22,a23,a24,a25] 4) (by omega) (by omega)
     have v1:=Zuq (k:=0) kf kh k1 k2 (n:=vw [a0,a1,a2,a3,a4,a5,a6,a7,a8,a9,a10,a11,a12,a13,a14,a15,a16,a17,a18,a19,a20,a21,a22,a23,a24,a25] 1) (by omega) (by omega)
     have b0:=Z1bw kf kw k1 k2 (l:=Zgs [a0,a1,a2,a3,a4,a5,a6,a7,a8,a9,a10,a11,a12,a13,a14,a15,a16,a17,a18,a19,a20,a21,a22,a23,a24,a25]) (h:=Zbi [a0,a1,a2,a3,a4,a5,a6,a7,a8,a9,a10,a11,a12,a13,a14,a15,a16,a17,a18,a19,a20,a21,a22,a23,a24,a25]) (by omega) (by omega) w22 w24
     have b1:=Z1bw kf kh k1 k2 (l:=Z179 [a0,a1,a2,a3,a4,a5,a6,a7,a8,a9,a10,a11,a12,a13,a14,a15,a16,a17,a18,a19,a20,a21,a22,a23,a24,a25]) (h:=Z17a [a0,a1,a2,a3,a4,a5,a6,a7,a8,a9,a10,a11,a12,a13,a14,a15,a16,a17,a18,a19,a20,a21,a22,a23,a24,a25]) (by omega) (by omega) w23 w25
     have hnz:¬ Z1n [a0,a1,a2,a3,a4,a5,a6,a7,a8,a9,a10,a11,a12,a13,a14,a15,a16,a17,a18,a19,a20,a21,a22,a23,a24,a25]=0:=by omega
     have hP:Zgt [a0,a1,a2,a3,a4,a5,a6,a7,a8,a9,a10,a11,a12,a13,a14,a15,a16,a17,a18,a19,a20,a21,a22,a23,a24,a25]=[Z11j [a0,a1,a2,a3,a4,a5,a6,a7,a8,a9,a10,a11,a12,a13,a14,a15,a16,a17,a18,a19,a20,a21,a22,a23,a24,a25],Z11k [a0,a1,a2,a3,a4,a5,a6,a7,a8,a9,a10,a11,a12,a13,a14,a15,a16,a17,a18,a19,a20,a21,a22,a23,a24,a25],Z11l [a0,a1,a2,a3,a4,a5,a6,a7,a8,a9,a10,a11,a12,a13,a14,a15,a16,a17,a18,a19,a20,a21,a22,a23,a24,a25],Z11m [a0,a1,a2,a3,a4,a5,a6,a7,a8,a9,a10,a11,a12,a13,a14,a15,a16,a17,a18,a19,a20,a21,a22,a23,a24,a25],16777216 / Z1n [a0,a1,a2,a3,a4,a5,a6,a7,a8,a9,a10,a11,a12,a13,a14,a15,a16,a17,a18,a19,a20,a21,a22,a23,a24,a25],1,0]:=rfl
     rw [hP]
     clear r0 r1 r3 r4 p0 p1 p3 p4 t0 t1 t2 t3 g0 g1 g3 g4 hd hd2 hd3 s1 s2 s3 e1 e2 q0 q1 q2 q3 q4 q5 q6 hP
     refine ⟨v0,v3,b0,v4,v1,b1,?_⟩
     clear v0 v3 b0 v4 v1 b1
     generalize Z9q [a0,a1,a2,a3,a4,a5,a6,a7,a8,a9,a10,a11,a12,a13,a14,a15,a16,a17,a18,a19,a20,a21,a22,a23,a24,a25]=S at *
     generalize Z11j [a0,a1,a2,a3,a4,a5,a6,a7,a8,a9,a10,a11,a12,a13,a14,a15,a16,a17,a18,a19,a20,a21,a22,a23,a24,a25]=X0 at *
     generalize Z11l [a0,a1,a2,a3,a4,a5,a6,a7,a8,a9,a10,a11,a12,a13,a14,a15,a16,a17,a18,a19,a20,a21,a22,a23,a24,a25]=X1 at *
     generalize Z11k [a0,a1,a2,a3,a4,a5,a6,a7,a8,a9,a10,a11,a12,a13,a14,a15,a16,a17,a18,a19,a20,a21,a22,a23,a24,a25]=Y0 at *
     generalize Z11m [a0,a1,a2,a3,a4,a5,a6,a7,a8,a9,a10,a11,a12,a13,a14,a15,a16,a17,a18,a19,a20,a21,a22,a23,a24,a25]=Y1 at *
     by_cases h1:X0≤X1 <;> by_cases h2:Y0≤Y1 <;> cases S <;> simp_all [b01,z7]
    ·have hsh:¬ Z9q [a0,a1,a2,a3,a4,a5,a6,a7,a8,a9,a10,a11,a12,a13,a14,a15,a16,a17,a18,a19,a20,a21,a22,a23,a24,a25]=true:=fun h=>hz (Z96.1 h).1
     rw [if_neg hsh]
     simp only [z7,TX.sat,XB.prop,X.den,Z1gw,Z1gx,Z1gq,Z1gr,Z1gu,Z1gv,Z1gs,Z1gt,mkS,mkP,and_true,true_and,Z1h1,Z1h2,not_or,not_and,Z1gy,ne_eq,Z1gz,Z1h0]
     refine ⟨fun h=>absurd h (by simp),fun _=>⟨fun h=>absurd h (by simp),fun _=>⟨fun _=>by first | rfl | trivial,fun h=>absurd h (by omega)⟩⟩⟩
   ·simp only [Zbs,Z6n,Z6l,Z47,TX.sat,XB.prop,X.den,Z1gw,Z1gx,Z1gq,Z1gr,Z1gu,Z1gv,Z1gs,Z1gt,mkS,mkP,and_true,true_and,Z1h1,Z1h2,not_or,not_and,Z1gy,ne_eq,Z1gz,Z1h0,Z34,Z3l,Z4d,Z3m,e1,e2,hc,hw,hv,if_true,if_false,reduceIte,ex7,Bool.false_eq_true,z7]
    have q6:(Zq (Z23 [a0,a1,a2,a3,a4,a5,a6,a7,a8,a9,a10,a11,a12,a13,a14,a15,a16,a17,a18,a19,a20,a21,a22,a23,a24,a25])).getD 6 0=0:=rfl
    rw [q6]
    refine ⟨fun h=>absurd h (by simp),fun _=>⟨fun _=>by first | rfl | trivial,fun h=>absurd h (by decide)⟩⟩
  ·simp only [Zbs,Z6n,Z6l,TX.sat,XB.prop,X.den,Z1gw,Z1gx,Z1gq,Z1gr,Z1gu,Z1gv,Z1gs,Z1gt,mkS,mkP,and_true,true_and,Z1h1,Z1h2,not_or,not_and,Z1gy,ne_eq,Z1gz,Z1h0,Z34,Z4d,Z3m,e1,hc,hw,if_true,if_false,reduceIte,ex7,Bool.false_eq_true,z7]
   exact ⟨fun _=>trivial,fun h=>absurd h (by decide)⟩
 ·simp only [Zbs,Z6n,Z6l,TX.sat,XB.prop,X.den,Z1gw,Z1gx,Z1gq,Z1gr,Z1gu,Z1gv,Z1gs,Z1gt,mkS,mkP,and_true,true_and,Z1h1,Z1h2,not_or,not_and,Z1gy,ne_eq,Z1gz,Z1h0,Z34,Z4d,Z3m,e1,hc,if_false,reduceIte,ex7,Bool.false_eq_true,z7]
  exact ⟨fun _=>trivial,fun h=>absurd h (by decide)⟩)
theorem Zya:Z18 Zei Zu8:=⟨fun _ h=>h,fun vs xs h hp=>by
 show Zr (ivs 4 0 63++[iv 0 65536,iv 0 1,iv 0 150]) (ex7 (Z3m xs))
 have z:∀ e:Int,0≤e→e≤150→Zr (ivs 4 0 63++[iv 0 65536,iv 0 1,iv 0 150]) (ex7 (z7 e)):=fun e h1 h2 =>
  Z1 (Z7.2 (by simp [z7])) (Z1 (Z7.2 (by simp [z7])) (Z1 (Z7.2 (by simp [z7])) (Z1 (Z7.2 (by simp [z7])) (Z1 (Z7.2 (by simp [z7])) (Z1 (Z7.2 (by simp [z7])) (Z1 ⟨h1,h2⟩ Z2))))))
 unfold Z3m
 split
 ·rename_i hc
  split
  ·rename_i hw
   split
   ·rename_i hv
    split
    ·rename_i hs
     have kl:=Zrt hc
     have ks:=Z96.1 hs
     have kv:=Z5u.1 hv
     simp only [Nat.reduceAdd] at kv
     have x0:Z11j xs=max (up (Zgs xs - 4) 8) (xs.getD 22 0):=rfl
     have y0:Z11k xs=max (up (Z179 xs - 4) 8) (xs.getD 23 0):=rfl
     have x1:Z11l xs=min ((Zbi xs - 4) / 8) (xs.getD 24 0):=rfl
     have y1:Z11m xs=min ((Z17a xs - 4) / 8) (xs.getD 25 0):=rfl
     have hn:Z1n xs=max (vw xs 2) (xs.getD 13 0):=rfl
     have hd:0≤16777216 / Z1n xs∧16777216 / Z1n xs≤65536:=by
      constructor
      ·rw [Int.le_ediv_iff_mul_le (by omega)]; omega
      ·apply Int.ediv_le_of_le_mul (by omega); omega
     exact Z1 (Z7.2 (by show 0≤Z11j xs∧Z11j xs≤63; omega)) (Z1 (Z7.2 (by show 0≤Z11k xs∧Z11k xs≤63; omega)) (Z1 (Z7.2 (by show 0≤Z11l xs∧Z11l xs≤63; omega)) (Z1 (Z7.2 (by show 0≤Z11m xs∧Z11m xs≤63; omega)) (Z1 hd (Z1 (Z7.2 (by simp [Zgt])) (Z1 (Z7.2 (by simp [Zgt])) Z2))))))
    ·exact z 0 (by omega) (by omega)
   ·exact z 2 (by omega) (by omega)
  ·exact z 8 (by omega) (by omega)
 ·exact z 150 (by omega) (by omega)⟩
end Go.Proofs.YtgcoidbaoigkeaaGreatDoor.fix
namespace Go.Proofs.YtgcoidbaoigkeaaGreatDoor.fix
open Go.RowKit Go.Sx
noncomputable def Zen:List Sum:=[Z6l,Z47]
def Zus:List Inf:=[Zra,Zef]
def Zut:TX:=(.ite (.lt (.c 256) (.ln (.v 0))) (.ret [(.c 4)])
(.loop 2 [none,none] [(.c 0),(.c 0)] (.ite (.lt (.v 22) (.ln (.v 0))) (.asrt (.le (.c 0) (.v 22)) (.call 0 [(.c 0),(.c 0),(.c 0),(.c 0),(.c 0),(.c 0),(.c 0),(.c 0),(.c 0),(.c 0),(.c 0),(.c 0),(.c 1),(.c 256),(.c 1),(.c 1),(.l2 .at (.l2 .at (.v 0) (.v 22)) (.c 0)),(.l2 .at (.l2 .at (.v 0) (.v 22)) (.c 1)),(.l2 .at (.l2 .at (.v 0) (.v 22)) (.c 2)),(.l2 .at (.l2 .at (.v 0) (.v 22)) (.c 3)),(.l2 .at (.l2 .at (.v 0) (.v 22)) (.c 4)),(.l2 .at (.l2 .at (.v 0) (.v 22)) (.c 5))] (.ite (.not (.eq (.v 29) (.c 0))) (.ret [(.c 8)])
(.back 0 [(.v 21),(.wr .i64 (.add (.v 22) (.c 1)))]))))
(.callp 1 [(.v 1),(.v 2),(.v 3),(.v 4),(.v 5),(.v 6),(.v 7),(.v 8),(.v 9),(.v 10),(.v 11),(.v 12),(.v 13),(.v 14),(.v 15),(.v 16),(.v 17),(.v 18),(.v 19),(.v 20)] (.ret [(.v 23)])))))
theorem Zrv:Z13 (Zs [] Zus [] Zd6 (Zn Tryz.prog (Z9p Tryz.prog [(5,19)]) gl0 Zen 1000 31 [Bs,An 16,An 4] [I1]))=Zut:=by kernel_rfl
theorem Z185:Gok Tryz.prog Zen:=(more Zum (fix.one Zgz))
theorem Z186:Zi Zen Zus:=(Z3 Zon (Z3 Zd7 Z6))
theorem Z29:dec (cod ([]:List Int))=[]:=Z4 _
theorem Zy {n:Nat} {xs:List Int} (h:xs.length=n):Zr (List.replicate n none) xs:=by
 refine ⟨by simp [h],fun i=>?_⟩
 have:(List.replicate n (none:Option Iv)).getD i none=none:=by
  simp only [List.getD,List.getElem?_replicate]
  split <;> rfl
 rw [this]
 trivial
theorem Z6o {p:Int→Bool} {l:List Int} {i:Nat} (h:∀ j,j < i→p (l.getD j 0)=true) (hi:l.length≤i):l.all p=true:=by
 rw [List.all_eq_true]
 intro x hx
 obtain ⟨j,hj,rfl⟩:=List.getElem_of_mem hx
 have:=h j (by omega)
 rwa [show l.getD j 0=l[j] by simp [List.getD,hj]] at this
theorem Zaf {p:Int→Bool} {l:List Int} {i:Nat} (hi:i < l.length) (h:¬ p (l.getD i 0)=true):¬ l.all p=true:=by
 rw [List.all_eq_true]
 intro hh
 refine h (hh _ ?_)
 rw [show l.getD i 0=l[i] by simp [List.getD,hi]]
 exact List.getElem_mem hi
theorem Zx {l:List Int} {i:Nat} (hi:i < l.length):l.getD i 0 ∈ l:=by
 rw [show l.getD i 0=l[i] by simp [List.getD,hi]]
 exact List.getElem_mem hi
theorem Z1bx {xs:List Int} (h:xs.length=21):∃ a c0 c1 c2 c3 c4 c5 c6 c7 c8 c9 c10 c11 c12 c13 c14 c15 w0 w1 w2 w3,xs=[a,c0,c1,c2,c3,c4,c5,c6,c7,c8,c9,c10,c11,c12,c13,c14,c15,w0,w1,w2,w3]:=by
 match xs,h with
 | [a,c0,c1,c2,c3,c4,c5,c6,c7,c8,c9,c10,c11,c12,c13,c14,c15,w0,w1,w2,w3],_=>exact ⟨_,_,_,_,_,_,_,_,_,_,_,_,_,_,_,_,_,_,_,_,_,rfl⟩
theorem Z1by {b:Int} (h:Zc Zrd (dec b)):Zh zz (co b 0)∧Zh zz (co b 1)∧Zh zz (co b 2)∧Zh zz (co b 3)∧Zh zz (co b 4)∧Zh zz (co b 5):=by
 have:=Z1g h
 exact ⟨this.2 0,this.2 1,this.2 2,this.2 3,this.2 4,this.2 5⟩
theorem zc (n:Int) (h:-9223372036854775808≤n) (h':n≤9223372036854775807):Zh zz n:=⟨h,h'⟩
theorem Z187 (b0 b1 b2 b3 b4 b5:Int):(Zbh [0,0,0,0,0,0,0,0,0,0,0,0,1,256,1,1,b0,b1,b2,b3,b4,b5]).getD 6 0=if Z33 [b0,b1,b2,b3,b4,b5] 0=true then 0 else 8:=by
 unfold Zbh
 rw [if_pos (show Z2b [0,0,0,0,0,0,0,0,0,0,0,0,1,256,1,1,b0,b1,b2,b3,b4,b5] 0=true from rfl)]
 rw [show Z33 [0,0,0,0,0,0,0,0,0,0,0,0,1,256,1,1,b0,b1,b2,b3,b4,b5] 16=Z33 [b0,b1,b2,b3,b4,b5] 0 from rfl]
 split <;> rfl
theorem Z12h:Zej.ok Tryz.prog:=Sum.okPF (pin:=Zd6) facts.mixed Z185 Z186 Zrv rfl (fun _=>rfl) (fun xs h=>h.1) (by
 intro xs hx hp
 obtain ⟨a,c0,c1,c2,c3,c4,c5,c6,c7,c8,c9,c10,c11,c12,c13,c14,c15,w0,w1,w2,w3,rfl⟩:=Z1bx hx
 have hel:∀ b ∈ dec a,Zc Zrd (dec b):=hp.2
 clear hp
 simp only [Zut,Zen,Z6l,Z47,TX.sat,XB.prop,X.den,Z1gw,Z1gx,Z1gq,Z1gr,Z1gu,Z1gv,Z1gs,Z1gt,mkS,mkP,and_true,true_and,Z1h1,Z1h2,not_or,not_and,Z1gy,ne_eq,Z1gz,Z1h0,Zd5,Z34,Z3l,ex7,L2.den,List.drop_succ_cons,List.drop_zero]
 generalize dec a=l at hel ⊢
 unfold Zbk
 refine ⟨fun h=>?_,fun h=>?_⟩
 ·rw [if_neg (by omega)]
 rw [if_pos (by omega)]
 refine ⟨fun xs=>∃ i:Nat,xs.getD 1 0=(i:Int)∧i≤l.length∧∀ j,j < i→okB (l.getD j 0)=true,fun xs=>l.length - (xs.getD 1 0).toNat,fun xs hx _=>Zy (n:=2) hx,⟨0,rfl,by omega,fun j hj=>by omega⟩,?_⟩
 intro xs hx hI
 obtain ⟨d0,d1,rfl⟩:=Zdu hx
 obtain ⟨i,hi,hle,hall⟩:=hI
 simp only [Z1gs,Z1gt,Z1gu,Z1gv] at hi ⊢
 subst hi
 have hco:∀ x j,(dec x).getD j 0=co x j:=fun _ _=>rfl
 simp only [Int.toNat_natCast,hco,show Int.toNat 0=0 from rfl,show Int.toNat 1=1 from rfl,show Int.toNat 2=2 from rfl,show Int.toNat 3=3 from rfl,show Int.toNat 4=4 from rfl,show Int.toNat 5=5 from rfl,Z187]
 refine ⟨fun hlt=>?_,fun hge=>?_⟩
 ·have hil:i < l.length:=by omega
  obtain ⟨e0,e1,e2,e3,e4,e5⟩:=Z1by (hel _ (Zx hil))
  have z0:Zh zz 0:=zc 0 (by decide) (by decide)
  have z1:Zh zz 1:=zc 1 (by decide) (by decide)
  have z256:Zh zz 256:=zc 256 (by decide) (by decide)
  refine ⟨by omega,Z1 z0 (Z1 z0 (Z1 z0 (Z1 z0 (Z1 z0 (Z1 z0 (Z1 z0 (Z1 z0 (Z1 z0 (Z1 z0 (Z1 z0 (Z1 z0 (Z1 z1 (Z1 z256 (Z1 z1 (Z1 z1 (Z1 e0 (Z1 e1 (Z1 e2 (Z1 e3 (Z1 e4 (Z1 e5 Z2))))))))))))))))))))),?_⟩
  have hok:okB (l.getD i 0)=Z33 [co (l.getD i 0) 0,co (l.getD i 0) 1,co (l.getD i 0) 2,co (l.getD i 0) 3,co (l.getD i 0) 4,co (l.getD i 0) 5] 0:=rfl
  rw [← hok]
  by_cases hb:okB (l.getD i 0)=true
  ·refine ⟨fun h=>absurd (if_pos hb) h,fun _=>?_⟩
   have hw:IntKind.i64.wrap ((i:Int) + 1)=((i + 1:Nat):Int):=by rw [Zo (by omega) (by omega)]; omega
   rw [hw]
   refine ⟨⟨i + 1,rfl,by omega,fun j hj=>?_⟩,by rw [Int.toNat_natCast]; omega⟩
   rcases Nat.lt_or_ge j i with h1 | h1
   ·exact hall j h1
   ·have:j=i:=by omega
    subst this
    exact hb
  ·refine ⟨fun _=>?_,fun h=>?_⟩
   ·rw [if_neg (Zaf hil hb)]
   ·rw [if_neg hb] at h
    exact absurd h (by decide)
 ·rw [if_pos (Z6o hall (by omega))])
theorem Z12i (x:List Int):0≤Z2q x∧Z2q x≤150:=by
 unfold Z2q
 split
 ·split <;> decide
 ·decide
theorem Zuu (l x:List Int):Zh (iv 0 150) (Zbk l x):=by
 unfold Zbk
 split
 ·split
  ·exact Z12i x
  ·exact ⟨by show (0:Int)≤8; decide,by show (8:Int)≤150; decide⟩
 ·exact ⟨by show (0:Int)≤4; decide,by show (4:Int)≤150; decide⟩
theorem Zyb:Z18 Zej Zua:=⟨fun xs h=>(Z14 xs h).elim,fun vs xs h hp=>Z1 (Zuu _ _) Z2⟩
noncomputable def Zuv:List Sum:=[Zej,Zei]
def Z1bz:List Inf:=[Zua,Zu8]
def Z1c0:TX:=(.call 0 [(.v 0),(.v 1),(.v 2),(.v 3),(.v 4),(.v 5),(.v 6),(.v 7),(.v 8),(.v 9),(.v 10),(.v 11),(.v 12),(.v 13),(.v 14),(.v 15),(.v 16),(.v 17),(.v 18),(.v 19),(.v 20)] (.ite (.not (.eq (.v 21) (.c 0))) (.ret [.nl,(.v 21)])
(.loop 2 [none,none] [.nl,(.c 0)] (.ite (.le (.ln (.v 0)) (.v 23)) (.ret [(.v 22),(.c 0)])
(.asrt (.le (.c 0) (.v 23)) (.call 1 [(.v 1),(.v 2),(.v 3),(.v 4),(.v 5),(.v 6),(.v 7),(.v 8),(.v 9),(.v 10),(.v 11),(.v 12),(.v 13),(.v 14),(.v 15),(.v 16),(.l2 .at (.l2 .at (.v 0) (.v 23)) (.c 0)),(.l2 .at (.l2 .at (.v 0) (.v 23)) (.c 1)),(.l2 .at (.l2 .at (.v 0) (.v 23)) (.c 2)),(.l2 .at (.l2 .at (.v 0) (.v 23)) (.c 3)),(.l2 .at (.l2 .at (.v 0) (.v 23)) (.c 4)),(.l2 .at (.l2 .at (.v 0) (.v 23)) (.c 5)),(.v 17),(.v 18),(.v 19),(.v 20)] (.ite (.nz (.v 29)) (.asrt (.le (.ln (.l2 .snoc (.v 22) (.v 23))) (.c 1000000)) (.back 0 [(.l2 .snoc (.v 22) (.v 23)),(.wr .i64 (.add (.v 23) (.c 1)))]))
(.back 0 [(.v 22),(.wr .i64 (.add (.v 23) (.c 1)))]))))))))
theorem Z12j:Z13 (Zs [] Z1bz [] Zkt (Zn Tryz.prog (Z9p Tryz.prog [(5,21)]) gl0 Zuv 1000 11 [Bs,An 16,An 4] [Is,I1]))=Z1c0:=by kernel_rfl
theorem g_fall:Gok Tryz.prog Zuv:=(more Z12h (fix.one Z12g))
theorem o_fall:Zi Zuv Z1bz:=(Z3 Zyb (Z3 Zya Z6))
theorem Z97 {l x:List Int} {i:Nat}:Z70 l x (i + 1)=if Z9r (l.getD i 0) x=true then Z70 l x i++[(i:Int)] else Z70 l x i:=rfl
theorem Zbt {l x:List Int}:∀ i,(Z70 l x i).length≤i
 | 0=>Nat.le_refl _
 | i + 1=>by
  rw [Z97]
  split
  ·rw [List.length_append]
   have:=Zbt (l:=l) (x:=x) i
   simp only [List.length_cons,List.length_nil]
   omega
  ·exact Nat.le_succ_of_le (Zbt i)
theorem Z1en:Zof.ok Tryz.prog:=Sum.okPF (pin:=Zkt) facts.mixed g_fall o_fall Z12j rfl (fun _=>rfl) (fun xs h=>h.1) (by
 intro xs hx hp
 obtain ⟨a,c0,c1,c2,c3,c4,c5,c6,c7,c8,c9,c10,c11,c12,c13,c14,c15,w0,w1,w2,w3,rfl⟩:=Z1bx hx
 have hpre:Zj8 [a,c0,c1,c2,c3,c4,c5,c6,c7,c8,c9,c10,c11,c12,c13,c14,c15,w0,w1,w2,w3]:=hp
 have hel:∀ b ∈ dec a,Zc Zrd (dec b):=hp.2
 have hv:=hp.1
 clear hp
 simp only [Z1c0,Zuv,Zej,Zei,TX.sat,XB.prop,X.den,Z1gw,Z1gx,Z1gq,Z1gr,Z1gu,Z1gv,Z1gs,Z1gt,mkS,mkP,and_true,true_and,Z1h1,Z1h2,not_or,not_and,Z1gy,ne_eq,Z1gz,Z1h0,Zub,Zd5,Z4d,ex7,L2.den,List.drop_succ_cons,List.drop_zero]
 refine ⟨hpre,?_⟩
 clear hpre
 generalize dec a=l at hel ⊢
 unfold Zre
 refine ⟨fun h=>?_,fun h=>?_⟩
 ·rw [if_neg h]
  rfl
 rw [if_pos h]
 have h256:l.length≤256:=by
  unfold Zbk at h
  split at h
  ·assumption
  ·exact absurd h (by decide)
 refine ⟨fun xs=>∃ i:Nat,xs.getD 1 0=(i:Int)∧i≤l.length∧dec (xs.getD 0 0)=Z70 l [c0,c1,c2,c3,c4,c5,c6,c7,c8,c9,c10,c11,c12,c13,c14,c15,w0,w1,w2,w3] i∧cod (dec (xs.getD 0 0))=xs.getD 0 0,fun xs=>l.length - (xs.getD 1 0).toNat,fun xs hx _=>Zy (n:=2) hx,⟨0,rfl,by omega,Z29,by simp [Z4]⟩,?_⟩
 intro xs hx hI
 obtain ⟨d0,d1,rfl⟩:=Zdu hx
 obtain ⟨i,hi,hle,hd,hcd⟩:=hI
 simp only [Z1gs,Z1gt,Z1gu,Z1gv] at hi hd hcd ⊢
 subst hi
 have hco:∀ x j,(dec x).getD j 0=co x j:=fun _ _=>rfl
 simp only [Int.toNat_natCast,hco,show Int.toNat 0=0 from rfl,show Int.toNat 1=1 from rfl,show Int.toNat 2=2 from rfl,show Int.toNat 3=3 from rfl,show Int.toNat 4=4 from rfl,show Int.toNat 5=5 from rfl,Z4]
 refine ⟨fun hge=>?_,fun hlt=>?_⟩
 ·have:i=l.length:=by omega
  subst this
  rw [← hd,hcd]
 ·have hil:i < l.length:=by omega
  obtain ⟨e0,e1,e2,e3,e4,e5⟩:=Z1by (hel _ (Zx hil))
  have hw:IntKind.i64.wrap ((i:Int) + 1)=((i + 1:Nat):Int):=by rw [Zo (by omega) (by omega)]; omega
  have hsh:Z3m [c0,c1,c2,c3,c4,c5,c6,c7,c8,c9,c10,c11,c12,c13,c14,c15,co (l.getD i 0) 0,co (l.getD i 0) 1,co (l.getD i 0) 2,co (l.getD i 0) 3,co (l.getD i 0) 4,co (l.getD i 0) 5,w0,w1,w2,w3]=Z1e5 (l.getD i 0) [c0,c1,c2,c3,c4,c5,c6,c7,c8,c9,c10,c11,c12,c13,c14,c15,w0,w1,w2,w3]:=rfl
  have hfl:=Zbt (l:=l) (x:=[c0,c1,c2,c3,c4,c5,c6,c7,c8,c9,c10,c11,c12,c13,c14,c15,w0,w1,w2,w3]) i
  rw [hsh,hw,hd]
  refine ⟨by omega,Z1 (hv.2 1) (Z1 (hv.2 2) (Z1 (hv.2 3) (Z1 (hv.2 4) (Z1 (hv.2 5) (Z1 (hv.2 6) (Z1 (hv.2 7) (Z1 (hv.2 8) (Z1 (hv.2 9) (Z1 (hv.2 10) (Z1 (hv.2 11) (Z1 (hv.2 12) (Z1 (hv.2 13) (Z1 (hv.2 14) (Z1 (hv.2 15) (Z1 (hv.2 16) (Z1 e0 (Z1 e1 (Z1 e2 (Z1 e3 (Z1 e4 (Z1 e5 (Z1 (hv.2 17) (Z1 (hv.2 18) (Z1 (hv.2 19) (Z1 (hv.2 20) Z2))))))))))))))))))))))))),fun hs=>⟨?_,?_,?_⟩,fun hs=>⟨?_,?_⟩⟩
  ·rw [List.length_append]
   simp only [List.length_cons,List.length_nil]
   omega
  ·refine ⟨i + 1,rfl,by omega,?_,trivial⟩
   rw [Z97,if_pos (by simp only [Z9r,Z1h4]; exact hs)]
  ·rw [Int.toNat_natCast]; omega
  ·refine ⟨i + 1,rfl,by omega,?_,by rw [← hd]; exact hcd⟩
   rw [Z97,if_neg (by simp only [Z9r,Z1h4]; exact fun hh=>hh hs)]
  ·rw [Int.toNat_natCast]; omega)
theorem Z188:Z18 Zof Z1bp:=⟨fun xs h=>(Z14 xs h).elim,fun vs xs h hp=>by
 refine Z1 trivial (Z1 ?_ Z2)
 unfold Zre
 split
 ·exact ⟨by show (0:Int)≤0; decide,by show (0:Int)≤150; decide⟩
 ·exact Zuu _ _⟩
end Go.Proofs.YtgcoidbaoigkeaaGreatDoor.fix
namespace Go.Proofs.YtgcoidbaoigkeaaGreatDoor.fix
open Go.RowKit Go.Sx
end Go.Proofs.YtgcoidbaoigkeaaGreatDoor.fix
namespace Go.Proofs.YtgcoidbaoigkeaaGreatDoor.fix
open Go.RowKit Go.Sx
inductive BT where
 | leaf (i:Nat)
 | node (i:Nat) (a b:BT)
def BT.root:BT→Nat
 | .leaf i=>i
 | .node i _ _=>i
def BT.size:BT→Nat
 | .leaf _=>1
 | .node _ a b=>a.size + b.size + 1
def BT.At (l:List Int) (n:Int):BT→Nat→Nat→Prop
 | .leaf i,s,e=>s=i∧e=i + 1∧i < l.length∧co (l.getD i 0) 6=-1∧co (l.getD i 0) 7=-1∧0≤co (l.getD i 0) 8∧co (l.getD i 0) 8 < n
 | .node i a b,s,e=>s=i∧i < l.length∧∃ m,a.At l n (i + 1) m∧b.At l n m e∧co (l.getD i 0) 6=(i:Int) + 1∧co (l.getD i 0) 7=(m:Int)∧co (l.getD i 0) 8=-1
theorem BT.At.le {l:List Int} {n:Int}:∀ {t:BT} {s e:Nat},t.At l n s e→e=s + t.size∧t.root=s∧e≤l.length
 | .leaf i,s,e,h=>by
  obtain ⟨rfl,rfl,h1,_⟩:=h
  exact ⟨rfl,rfl,h1⟩
 | .node i a b,s,e,h=>by
  obtain ⟨rfl,h1,m,h2,h3,_⟩:=h
  have e1:=h2.le
  have e2:=h3.le
  exact ⟨by simp only [BT.size]; omega,rfl,e2.2.2⟩
structure Zuw (se se':List Int) (its:List Nat):Prop where
 len:se'.length=se.length
 nodup:its.Nodup
 zero:∀ k ∈ its,se.getD k 0=0
 iff:∀ k,se'.getD k 0 ≠ 0↔se.getD k 0 ≠ 0∨k ∈ its
theorem Zuw.trans {a b c:List Int} {x y:List Nat} (h:Zuw a b x) (k:Zuw b c y):Zuw a c (x++y):=by
 refine ⟨k.len.trans h.len,?_,?_,?_⟩
 ·rw [List.nodup_append]
  refine ⟨h.nodup,k.nodup,fun u hu v hv huv=>?_⟩
  subst huv
  exact (h.iff u).2 (.inr hu) (k.zero u hv)
 ·intro u hu
  rcases List.mem_append.1 hu with hu | hu
  ·exact h.zero u hu
  ·by_cases hz:a.getD u 0=0
   ·exact hz
   ·exact absurd (k.zero u hu) ((h.iff u).2 (.inl hz))
 ·intro u
  rw [k.iff,h.iff,List.mem_append]
  exact or_assoc
end Go.Proofs.YtgcoidbaoigkeaaGreatDoor.fix
namespace Go.Proofs
open Go.RowKit Go.Shelf Go.Sx
end Go.Proofs
namespace Go.Proofs
open Go.Shelf
end Go.Proofs
namespace Go.Proofs.YtgcoidbaoigkeaaGreatDoor.fix
open Go.RowKit Go.Sx Go.Shelf
end Go.Proofs.YtgcoidbaoigkeaaGreatDoor.fix
namespace Go.Proofs.YtgcoidbaoigkeaaGreatDoor.fix
open Go.RowKit Go.Sx
end Go.Proofs.YtgcoidbaoigkeaaGreatDoor.fix
namespace Go.Proofs.YtgcoidbaoigkeaaGreatDoor.fix
open Go.RowKit Go.Sx
theorem oneA {s:Sum} (h:s.okA Tryz.prog):Gok Tryz.prog [s]:=by
 intro x hx
 simp only [List.mem_singleton] at hx
 subst hx
 exact h
theorem Z1eo {s:Sum} {G:List Sum} (h:s.okA Tryz.prog) (hG:Gok Tryz.prog G):Gok Tryz.prog (s::G):=by
 intro x hx
 rcases List.mem_cons.1 hx with rfl | hx
 ·exact h
 ·exact hG x hx
end Go.Proofs.YtgcoidbaoigkeaaGreatDoor.fix
namespace Go.Proofs.YtgcoidbaoigkeaaGreatDoor.fix
open Go.RowKit Go.Sx
theorem Z189 {m l h v:Int} (h1:l≤v) (h2:v≤h):min (m * l) (m * h)≤m * v∧m * v≤max (m * l) (m * h):=by
 have:=Z6f (y:=m) h1 h2
 rw [Int.mul_comm l,Int.mul_comm h,Int.mul_comm v] at this
 exact this
theorem mid3 {a b c d e f x y z:Int} (h1:min a b≤x∧x≤max a b) (h2:min c d≤y∧y≤max c d) (h3:min e f≤z∧z≤max e f):(min a b + min c d + min e f) / 256≤(x + y + z) / 256∧(x + y + z) / 256≤(max a b + max c d + max e f) / 256 :=
 ⟨Int.ediv_le_ediv (by omega) (by omega),Int.ediv_le_ediv (by omega) (by omega)⟩
theorem Zux {a x y:Int} (h0:0≤a) (hx:0 < x) (h:x≤y):a / y≤a / x:=by
 rw [Int.le_ediv_iff_mul_le hx]
 have h1:0≤a / y:=Int.ediv_nonneg h0 (by omega)
 have h2:a / y * x≤a / y * y:=Int.mul_le_mul_of_nonneg_left h h1
 have h3:a / y * y≤a:=Int.ediv_mul_le a (by omega)
 omega
theorem Zoo {a x y:Int} (h0:a≤0) (hx:0 < x) (h:x≤y):a / x≤a / y:=by
 rw [Int.le_ediv_iff_mul_le (show 0 < y by omega)]
 have h1:a / x≤0:=by
  apply Int.ediv_le_of_le_mul hx
  omega
 have h2:a / x * y≤a / x * x:=Int.mul_le_mul_of_nonpos_left h1 h
 have h3:a / x * x≤a:=Int.ediv_mul_le a (by omega)
 omega
theorem Zuy {f a b n m z:Int} (hf:0≤f) (ha:0 < a) (h1:a≤z) (h2:z≤b):(n≤m→Zrb f a b n≤8 * f * m / z)∧(m≤n→8 * f * m / z≤Zrc f a b n):=by
 have hz:0 < z:=by omega
 have hb:0 < b:=by omega
 have h8:0≤8 * f:=by omega
 refine ⟨fun hnm=>?_,fun hmn=>?_⟩
 ·have hk:8 * f * n≤8 * f * m:=Int.mul_le_mul_of_nonneg_left hnm h8
  have hq:8 * f * n / z≤8 * f * m / z:=Int.ediv_le_ediv hz hk
  refine Int.le_trans ?_ hq
  unfold Zrb
  split
  ·rename_i hn
   have h0:0≤8 * f * n:=Int.mul_nonneg h8 hn
   exact Zux h0 hz h2
  ·rename_i hn
   have h0:8 * f * n≤0:=Int.mul_nonpos_of_nonneg_of_nonpos h8 (by omega)
   exact Zoo h0 ha h1
 ·have hk:8 * f * m≤8 * f * n:=Int.mul_le_mul_of_nonneg_left hmn h8
  have hq:8 * f * m / z≤8 * f * n / z:=Int.ediv_le_ediv hz hk
  refine Int.le_trans hq ?_
  unfold Zrc
  split
  ·rename_i hn
   have h0:0≤8 * f * n:=Int.mul_nonneg h8 hn
   exact Zux h0 ha h1
  ·rename_i hn
   have h0:8 * f * n≤0:=Int.mul_nonpos_of_nonneg_of_nonpos h8 (by omega)
   exact Zoo h0 hz h2
theorem up_le {a x:Int} (h:a≤8 * x):up a 8≤x:=by unfold up; omega
end Go.Proofs.YtgcoidbaoigkeaaGreatDoor.fix
namespace Go.Proofs.YtgcoidbaoigkeaaGreatDoor.fix
open Go.RowKit Go.Sx
end Go.Proofs.YtgcoidbaoigkeaaGreatDoor.fix
namespace Go.Proofs.YtgcoidbaoigkeaaGreatDoor.fix
open Go.RowKit Go.Sx
theorem Z12k {xs:List Int} (h:xs.length=20):∃ c0 c1 c2 c3 c4 c5 c6 c7 c8 c9 c10 c11 c12 c13 c14 c15 w0 w1 w2 w3,xs=[c0,c1,c2,c3,c4,c5,c6,c7,c8,c9,c10,c11,c12,c13,c14,c15,w0,w1,w2,w3]:=by
 match xs,h with
 | [c0,c1,c2,c3,c4,c5,c6,c7,c8,c9,c10,c11,c12,c13,c14,c15,w0,w1,w2,w3],_=>exact ⟨_,_,_,_,_,_,_,_,_,_,_,_,_,_,_,_,_,_,_,_,rfl⟩
noncomputable def Zzk (b:Int) (x:List Int):List Int:=x.take 16++(six6 b++x.drop 16)
theorem Z1ep {b:Int} {x:List Int} (hx:x.length=20) (hw:Z2q x=0) (hb:okB b=true):(Z3m (Zzk b x)).getD 6 0=0∧Z9r b x=Z9q (Zzk b x):=by
 have hc:Z2b x 0=true∧winB x 16 14 15=true:=by
  unfold Z2q at hw
  split at hw
  ·rename_i h1
   split at hw
   ·rename_i h2
    exact ⟨h1,h2⟩
   ·exact absurd hw (by decide)
  ·exact absurd hw (by decide)
 have h1:Z2b (Zzk b x) 0=true:=by
  obtain ⟨c0,c1,c2,c3,c4,c5,c6,c7,c8,c9,c10,c11,c12,c13,c14,c15,w0,w1,w2,w3,rfl⟩:=Z12k hx
  exact hc.1
 have h2:winC (Zzk b x)=true:=by
  obtain ⟨c0,c1,c2,c3,c4,c5,c6,c7,c8,c9,c10,c11,c12,c13,c14,c15,w0,w1,w2,w3,rfl⟩:=Z12k hx
  exact hc.2
 have h3:Z33 (Zzk b x) 16=true:=by
  obtain ⟨c0,c1,c2,c3,c4,c5,c6,c7,c8,c9,c10,c11,c12,c13,c14,c15,w0,w1,w2,w3,rfl⟩:=Z12k hx
  exact hb
 have hS:Z3m (Zzk b x)=if Z9q (Zzk b x)=true then Zgt (Zzk b x) else z7 0:=by
  unfold Z3m
  rw [if_pos h1,if_pos h3,if_pos h2]
 refine ⟨?_,?_⟩
 ·rw [hS]
  split <;> rfl
 ·unfold Z9r Z1e5
  show decide ((Z3m (Zzk b x)).getD 5 0 ≠ 0)=_
  rw [hS]
  cases h:Z9q (Zzk b x) with
  | true=>rfl
  | false=>rfl
noncomputable def Z12l (t x:List Int):BT→Int
 | .leaf _=>1
 | .node i a b=>if Z9r (t.getD i 0) x=true then 1 + (Z12l t x a + Z12l t x b) else 1
theorem BT.At.cnt {t l x:List Int}:∀ {T:BT} {s e:Nat},T.At t l.length s e→∀ f,T.size≤f→lkN t x f s=Z12l t x T
 | .leaf i,s,e,h,f,hf=>by
  obtain ⟨rfl,rfl,h1,h2,_⟩:=h
  obtain ⟨f,rfl⟩:∃ g,f=g + 1:=⟨f - 1,by simp only [BT.size] at hf; omega⟩
  unfold lkN Z12l
  rw [if_neg (by omega)]
 | .node i a b,s,e,h,f,hf=>by
  obtain ⟨rfl,h1,m,h2,h3,h4,h5,h6⟩:=h
  simp only [BT.size] at hf
  obtain ⟨f,rfl⟩:∃ g,f=g + 1:=⟨f - 1,by omega⟩
  have k1:=h2.cnt (x:=x) f (by omega)
  have k2:=h3.cnt (x:=x) f (by omega)
  have e1:(co (t.getD s 0) 6).toNat=s + 1:=by omega
  have e2:(co (t.getD s 0) 7).toNat=m:=by omega
  unfold lkN Z12l
  rw [e1,e2,k1,k2]
  by_cases hs:Z9r (t.getD s 0) x=true
  ·rw [if_pos ⟨hs,by omega⟩,if_pos hs]
  ·rw [if_neg (fun hh=>hs hh.1),if_neg hs]
end Go.Proofs.YtgcoidbaoigkeaaGreatDoor.fix
namespace Go.Proofs.YtgcoidbaoigkeaaGreatDoor.fix
open Go.RowKit Go.Sx
theorem Zjb {l x:List Int} {z:Int}:∀ n,z ∈ Z70 l x n↔∃ j:Nat,j < n∧z=(j:Int)∧Z9r (l.getD j 0) x=true
 | 0=>by simp [Z70]
 | n + 1=>by
  have ih:=@Zjb l x z n
  rw [Z97]
  split
  ·rename_i h
   rw [List.mem_append,ih,List.mem_singleton]
   constructor
   ·rintro (⟨j,h1,h2,h3⟩ | rfl)
    ·exact ⟨j,by omega,h2,h3⟩
    ·exact ⟨n,by omega,rfl,h⟩
   ·rintro ⟨j,h1,h2,h3⟩
    by_cases hj:j=n
    ·subst hj
     exact .inr h2
    ·exact .inl ⟨j,by omega,h2,h3⟩
  ·rename_i h
   rw [ih]
   constructor
   ·rintro ⟨j,h1,h2,h3⟩
    exact ⟨j,by omega,h2,h3⟩
   ·rintro ⟨j,h1,h2,h3⟩
    have hj:j ≠ n:=fun e=>by subst e; exact h h3
    exact ⟨j,by omega,h2,h3⟩
end Go.Proofs.YtgcoidbaoigkeaaGreatDoor.fix
namespace Go.Proofs.YtgcoidbaoigkeaaGreatDoor.fix
open Go.RowKit Go.Sx
end Go.Proofs.YtgcoidbaoigkeaaGreatDoor.fix
namespace Go.Proofs.YtgcoidbaoigkeaaGreatDoor.fix
open Go.RowKit Go.Sx
end Go.Proofs.YtgcoidbaoigkeaaGreatDoor.fix
namespace Go.Proofs.YtgcoidbaoigkeaaGreatDoor.fix
open Go.RowKit Go.Sx
def Z16 (x:List Int) (o:Nat):Bool:=Zj6 32768 x o && decide ((0≤x.getD (o + 3) 0∧x.getD (o + 3) 0≤255)∧(0≤x.getD (o + 4) 0∧x.getD (o + 4) 0≤255))
def Z2j (x:List Int):List Int:=[er (Z16 x 0) 8]
def Zd9:=zs 5
def Zyc (v:List (Option Iv)):List (Option Iv):=[iv 0 8]
def Z3t:Sum:=mkS gl0 177 [An 5] [I1] Zd9 Z2j
def Zl4:Inf:=⟨Zd9,Zyc⟩
def Zbu (x:List Int):Bool:=decide (256≤x.getD 0 0∧x.getD 0 0≤4096)
def Z5b (x:List Int):Bool:=decide (x.getD 3 0 < x.getD 0 0∧x.getD 0 0≤x.getD 8 0)
def Zag (x:List Int) (o:Nat):Int:=x.getD o 0 + (x.getD (o + 5) 0 - x.getD o 0) * (x.getD 0 0 - x.getD 3 0) / (x.getD 8 0 - x.getD 3 0)
def Z1eq (x:List Int):List Int:=[Zag x 1,Zag x 2,x.getD 0 0,Zag x 4,Zag x 5,0]
def Z15z (x:List Int):List Int:=if Zbu x=true then if (Z16 x 1 && Z16 x 6)=true then if Z5b x=true then Z1eq x else [0,0,0,0,0,6] else [0,0,0,0,0,8] else [0,0,0,0,0,2]
def Zah (x:List Int):List Int:=ex6 (Z15z x)
def Zrw:=zs 11
def Z1er (v:List (Option Iv)):List (Option Iv):=ivs 2 (-32768) 32768++[iv 0 4096]++ivs 2 0 255++[iv 0 8]
def Z18a:Sum:=mkS gl0 176 [I1,An 5,An 5] [An 5,I1] Zrw Zah
def i_cut:Inf:=⟨Zrw,Z1er⟩
def U8:Sh:=⟨false,[.i .u8]⟩
def Vs:Sh:=⟨false,[.s 27 [.i .i64,.i .i64,.i .i64]]⟩
noncomputable def okP (x:Int):Bool:=decide ((-32768≤co x 0∧co x 0≤32768)∧(-32768≤co x 1∧co x 1≤32768)∧(-32768≤co x 2∧co x 2≤32768))
noncomputable def Zda (b:List Int) (x:Int):List Int:=[min (b.getD 0 0) (co x 0),min (b.getD 1 0) (co x 1),min (b.getD 2 0) (co x 2),max (b.getD 3 0) (co x 0),max (b.getD 4 0) (co x 1),max (b.getD 5 0) (co x 2)]
noncomputable def boxV (x:Int):List Int:=[co x 0,co x 1,co x 2,co x 0,co x 1,co x 2]
noncomputable def Z2u:List Int→List Int
 | []=>[0,0,0,0,0,0]
 | x::l=>l.foldl Zda (boxV x)
noncomputable def Z12m (l:List Int):List Int:=if 1≤l.length∧l.length≤4096 then (if l.all okP=true then Z2u l++[0] else [0,0,0,0,0,0,20]) else [0,0,0,0,0,0,4]
noncomputable def Zl5 (x:List Int):List Int:=ex7 (Z12m (dec (x.getD 0 0)))
def Z1es (v:List (Option Iv)):List (Option Iv):=ivs 6 (-32768) 32768++[iv 0 20]
noncomputable def Z18b:Sum:=mkS gl0 173 [Vs] [An 6,I1] [none] Zl5
def i_bof:Inf:=⟨[none],Z1es⟩
def Ts:Sh:=⟨false,[.s 218 (List.replicate 15 (.i .i64))]⟩
def Z83 (x:List Int) (i:Nat):List Int:=[x.getD (1 + 5 * i) 0,x.getD (2 + 5 * i) 0,x.getD (3 + 5 * i) 0,x.getD (4 + 5 * i) 0,x.getD (5 + 5 * i) 0]
def Z57 (x:List Int) (i:Nat):Bool:=decide (x.getD 0 0≤x.getD (3 + 5 * i) 0)
def Zzl (n:Int) (a b:List Int):List Int:=[Zag (n::(a++b)) 1,Zag (n::(a++b)) 2,n,Zag (n::(a++b)) 4,Zag (n::(a++b)) 5]
def Zrx (x:List Int) (i j:Nat):List (List Int) :=
 if Z57 x i=true then (if Z57 x j=true then [Z83 x i] else [Z83 x i,Zzl (x.getD 0 0) (Z83 x j) (Z83 x i)])
 else (if Z57 x j=true then [Zzl (x.getD 0 0) (Z83 x i) (Z83 x j)] else [])
def Zop (x:List Int):List (List Int):=Zrx x 0 1++(Zrx x 1 2++Zrx x 2 0)
def Zh0:List (List Int)→List (List Int)
 | p::q::r::l=>(p++(q++r))::Zh0 (p::r::l)
 | _=>[]
def nearT (x:List Int):Bool:=Z16 x 1 && (Z16 x 6 && Z16 x 11)
noncomputable def Z12n (x:List Int):Int:=cod ((Zh0 (Zop x)).map cod)
noncomputable def Z7c (x:List Int):List Int:=if Zbu x=true then (if nearT x=true then [Z12n x,0] else [cod [],8]) else [cod [],2]
noncomputable def Zoq (x:List Int):List Int:=[(Z7c x).getD 0 0,(Z7c x).getD 1 0]
def Z12o (v:List (Option Iv)):List (Option Iv):=[none,iv 0 8]
noncomputable def Zl6:Sum:=mkS gl0 123 [I1,An 15] [Ts,I1] (zs 16) Zoq
def Z12p:Inf:=⟨(zs 16),Z12o⟩
def Zyd (x:List Int) (o:Nat):Bool:=decide ((-131072≤x.getD o 0∧x.getD o 0≤131072)∧(-131072≤x.getD (o + 1) 0∧x.getD (o + 1) 0≤131072)∧(1≤x.getD (o + 2) 0∧x.getD (o + 2) 0≤65536) ∧
 (0≤x.getD (o + 3) 0∧x.getD (o + 3) 0≤255)∧(0≤x.getD (o + 4) 0∧x.getD (o + 4) 0≤255))
def Z7h (x:List Int):Bool:=Zyd x 0 && (Zyd x 5 && Zyd x 10)
def Z11 (x:List Int):Int:=(x.getD 5 0 - x.getD 0 0) * (x.getD 11 0 - x.getD 1 0) - (x.getD 10 0 - x.getD 0 0) * (x.getD 6 0 - x.getD 1 0)
def Zl7 (x:List Int):List Int:=if Z7h x=true then [Z11 x,0] else [0,8]
def Zbv (x:List Int):List Int:=[(Zl7 x).getD 0 0,(Zl7 x).getD 1 0]
def Zl8:=zs 15
def Z18c (v:List (Option Iv)):List (Option Iv):=[iv (-137438953472) 137438953472,iv 0 8]
def Zjc:Sum:=mkS gl0 178 [An 15] [I1,I1] Zl8 Zbv
def Z12q:Inf:=⟨Zl8,Z18c⟩
def Z58 (x:List Int):List Int:=if Z7h x=true then if x.getD 15 0=0 then [b01 (decide (Z11 x ≠ 0)),0] else if x.getD 15 0=1 then [b01 (decide (0 < Z11 x)),0] else if x.getD 15 0=2 then [b01 (decide (Z11 x < 0)),0] else [0,2] else [0,8]
def Zor (x:List Int):List Int:=[(Z58 x).getD 0 0,(Z58 x).getD 1 0]
def Zh1:=zs 15++[iv 0 255]
def Z12r (v:List (Option Iv)):List (Option Iv):=[iv 0 1,iv 0 8]
def Zh2:Sum:=mkS gl0 125 [An 15,U8] [Bo,I1] Zh1 Zor
def Z12s:Inf:=⟨Zh1,Z12r⟩
def Zye (x:List Int):List Int:=[x.getD 0 0,x.getD 1 0,x.getD 2 0,x.getD 3 0,x.getD 4 0,x.getD 10 0,x.getD 11 0,x.getD 12 0,x.getD 13 0,x.getD 14 0,x.getD 5 0,x.getD 6 0,x.getD 7 0,x.getD 8 0,x.getD 9 0,0]
def idT (x:List Int):List Int:=[x.getD 0 0,x.getD 1 0,x.getD 2 0,x.getD 3 0,x.getD 4 0,x.getD 5 0,x.getD 6 0,x.getD 7 0,x.getD 8 0,x.getD 9 0,x.getD 10 0,x.getD 11 0,x.getD 12 0,x.getD 13 0,x.getD 14 0,0]
def z16 (e:Int):List Int:=[0,0,0,0,0,0,0,0,0,0,0,0,0,0,0,e]
def Z71 (x:List Int):List Int:=if Z7h x=true then if Z11 x=0 then z16 6 else if Z11 x < 0 then Zye x else idT x else z16 8
def Zos (x:List Int):List Int:=Z9k (Z71 x)
def Zbw:=zs 15
def Zh3 (v:List (Option Iv)):List (Option Iv):=(ivs 2 (-131072) 131072++[iv 0 65536]++ivs 2 0 255)++(ivs 2 (-131072) 131072++[iv 0 65536]++ivs 2 0 255)++(ivs 2 (-131072) 131072++[iv 0 65536]++ivs 2 0 255)++[iv 0 8]
def Zl9:Sum:=mkS gl0 126 [An 15] [An 15,I1] Zbw Zos
def Z12t:Inf:=⟨Zbw,Zh3⟩
def Z5x (x:List Int):List Int:=if Z2b x 0=true then if Z16 x 16=true then if x.getD 18 0 < x.getD 13 0 then [0,0,0,0,0,6] else
 [8 * x.getD 12 0 * x.getD 16 0 / x.getD 18 0 + 4 * x.getD 14 0,4 * x.getD 15 0 - 8 * x.getD 12 0 * x.getD 17 0 / x.getD 18 0,(16777216:Int).tdiv (x.getD 18 0),x.getD 19 0,x.getD 20 0,0] else [0,0,0,0,0,8] else [0,0,0,0,0,150]
def Z84 (x:List Int):List Int:=ex6 (Z5x x)
def Z4w:=zs 21
def Zbx (v:List (Option Iv)):List (Option Iv):=ivs 2 (-65792) 65792++[iv 0 65536]++ivs 2 0 255++[iv 0 150]
def Z5c:Sum:=mkS gl0 124 [An 16,An 5] [An 5,I1] Z4w Z84
def Z12u:Inf:=⟨Z4w,Zbx⟩
def pixB (x:List Int) (o:Nat):Bool:=decide (0≤x.getD o 0∧x.getD o 0 < 64∧0≤x.getD (o + 1) 0∧x.getD (o + 1) 0 < 64)
def wgt (x:List Int) (a b p:Nat):Int:=(x.getD b 0 - x.getD a 0) * (8 * x.getD (p + 1) 0 + 4 - x.getD (a + 1) 0) - (8 * x.getD p 0 + 4 - x.getD a 0) * (x.getD (b + 1) 0 - x.getD (a + 1) 0)
def Z4x (x:List Int):Int:=if Z7h x=true then if 0 < Z11 x then 0 else 6 else 8
def Z35 (x:List Int):List Int:=if Z4x x=0 then if pixB x 15=true then [wgt x 5 10 15,wgt x 10 0 15,wgt x 0 5 15,0] else [0,0,0,2] else [0,0,0,Z4x x]
def Z5y (x:List Int):List Int:=ex4 (Z35 x)
def Zh4:=zs 17
def Z12v (v:List (Option Iv)):List (Option Iv):=ivs 3 (-137438953472) 137438953472++[iv 0 8]
def Zla:Sum:=mkS gl0 95 [An 15,I1,I1] [An 3,I1] Zh4 Z5y
def Z12w:Inf:=⟨Zh4,Z12v⟩
def ownsB (x:List Int) (a b:Nat):Bool:=decide (x.getD (b + 1) 0 < x.getD (a + 1) 0∨(x.getD (b + 1) 0=x.getD (a + 1) 0∧x.getD a 0 < x.getD b 0))
def Z18d (x:List Int) (a b p:Nat):Bool:=decide (0 < wgt x a b p∨(wgt x a b p=0∧ownsB x a b=true))
def Zq5 (x:List Int):Bool:=Z18d x 5 10 15 && (Z18d x 10 0 15 && Z18d x 0 5 15)
def Z85 (x:List Int):List Int:=if (Z35 x).getD 3 0=0 then [b01 (Zq5 x),0] else [0,(Z35 x).getD 3 0]
def Z5z (x:List Int):List Int:=[(Z85 x).getD 0 0,(Z85 x).getD 1 0]
def Zdb:=zs 17
def Zyf (v:List (Option Iv)):List (Option Iv):=[iv 0 1,iv 0 8]
def Z98:Sum:=mkS gl0 94 [An 15,I1,I1] [Bo,I1] Zdb Z5z
def Zuz:Inf:=⟨Zdb,Zyf⟩
def Z60 (x:List Int):Int:=wgt x 5 10 15 * x.getD 2 0 + wgt x 10 0 15 * x.getD 7 0 + wgt x 0 5 15 * x.getD 12 0
def Zry (x:List Int) (o:Nat):Int:=wgt x 5 10 15 * x.getD 2 0 * x.getD o 0 + wgt x 10 0 15 * x.getD 7 0 * x.getD (o + 5) 0 + wgt x 0 5 15 * x.getD 12 0 * x.getD (o + 10) 0
def atL (x:List Int):List Int:=if (Z35 x).getD 3 0=0 then if Zq5 x=true then [8 * x.getD 15 0 + 4,8 * x.getD 16 0 + 4,Z60 x / Z11 x,Zry x 3 / Z60 x,Zry x 4 / Z60 x,0] else [0,0,0,0,0,6] else [0,0,0,0,0,(Z35 x).getD 3 0]
def Zby (x:List Int):List Int:=ex6 (atL x)
def Zbz:=zs 17
def Zlb (v:List (Option Iv)):List (Option Iv):=ivs 2 0 511++[iv 0 65536]++ivs 2 0 255++[iv 0 8]
def Z72:Sum:=mkS gl0 61 [An 15,I1,I1] [An 5,I1] Zbz Zby
def Zot:Inf:=⟨Zbz,Zlb⟩
end Go.Proofs.YtgcoidbaoigkeaaGreatDoor.fix
namespace Go.Sx
open Go.RowKit
def elTy (P:Program) (ty:TypeId):Option (TypeId × List K):=match P.underlying ty with
 | some (.slice e)=>(Z167 P 8 e).map fun ks=>(e,ks)
 | _=>none
def Zou (l:List Oper) (root:Tmp→Option Nat):Nat→Tmp→Option Nat
 | 0,_=>none
 | f + 1,t=>match Z92 l t with
  | none=>root t
  | some o=>(match o.op with
   | .fieldAddr _ (.tmp u) _=>Zou l root f u
   | .indexAddr _ (.tmp u) _=>Zou l root f u
   | .nilCheck (.tmp u)=>Zou l root f u
   | .move (.tmp u)=>Zou l root f u
   | _=>none)
def Zc0 (P:Program) (l:List Oper) (root:Tmp→Option Nat):List Oper→List (Nat × Option (TypeId × List K))
 | []=>[]
 | o::r=>match o.op with
  | .store ty (.tmp t) _=>(match Zou l root 8 t with
   | some n=>(n,elTy P ty)::Zc0 P l root r
   | none=>Zc0 P l root r)
  | _=>Zc0 P l root r
def Z1et (l:List Oper) (s:St):Nat→Tmp→Option (FuncId × List (Nat × Nat))
 | 0,_=>none
 | f + 1,t=>match Z92 l t with
  | none=>(match s.fr.getD t Z5 with
   | .w (.o (.f fn caps))=>some (fn,caps)
   | _=>none)
  | some o=>(match o.op with
   | .move (.tmp u)=>Z1et l s f u
   | .assign (.tmp u)=>Z1et l s f u
   | _=>none)
def Z3n (P:Program) (l:List Oper) (s:St):List Oper→List (Nat × Option (TypeId × List K))
 | []=>[]
 | o::r=>match o.op with
  | .call c=>(match c.callee with
   | .value (.tmp t)=>(match Z1et l s 8 t with
    | some (fn,caps)=>(match P.funcs[fn]? with
     | some F=>(match F.body with
      | some b=>Zc0 P (Z4r b) (fun u=>(caps[u - F.params.size]?).map (·.1)) (Z4r b)++Z3n P l s r
      | none=>Z3n P l s r)
     | none=>Z3n P l s r)
    | none=>Z3n P l s r)
   | _=>Z3n P l s r)
  | _=>Z3n P l s r
def Zv0 (s:St) (rw:List Nat) (ws:List (Nat × Option (TypeId × List K))):Nat→List Blk→List (List Ck)
 | _,[]=>[]
 | n,b::bs=>(if ws.any (fun w=>w.1 == n) then b.cells.map (Z6k s ((ws.filter fun w=>w.1 == n).findSome? (·.2))) else b.cells.map fun c=>match c with
  | .go (.o m)=>if rw.contains m then Z6k s none c else Ck.keep
  | _=>Ck.keep)::Zv0 s rw ws (n + 1) bs
def Z12x (P:Program) (s:St) (body:Code):Zdy :=
 let l:=Z4r body
 let rw:=Z4s l s l
 let ws:=Zc0 P l (fun t=>match s.fr.getD t Z5 with
  | .w (.o (.p n _))=>some n
  | _=>none) l++Z3n P l s l
 ⟨Z119 P l s rw 0 s.fr,Zv0 s rw ws 0 s.mem⟩
def Zh5 (P:Program) (ks:List (Nat × Nat)):St→Code→Option Zdy:=fun s body =>
 if ks.contains (Zkj body) then some (Z12x P s body) else none
end Go.Sx
namespace Go.Proofs.YtgcoidbaoigkeaaGreatDoor.fix
open Go.RowKit Go.Sx
def Z7d:List K:=[.i .i64,.i .i64,.i .i64]
def Z12y:List K:=[.i .i64,.i .i64]
def Z12z:List K:=[.i .u8,.i .u8,.i .u8,.i .u8]
def Lk_ks:List K:=[.i .u8,.i .u8,.i .u8,.i .u8,.i .i64,.i .u8,.i .i64,.b,.i .i64]
def Z39:List K:=[.s 27 Z7d,.s 146 Z12y,.s 28 Z7d,.i .u8,.i .u8,.i .u8,.i .u8,.i .i64,.i .u8,.i .i64,.b,.i .i64,.i .i64,.i .i64,.i .i64,.i .i64,.i .i64,.i .i64]
def Z7e:List K:=[.i .i64,.i .i64,.s 33 Z12z]
def Lk:Sh:=⟨true,Lk_ks⟩
def It:Sh:=⟨true,Z39⟩
def Tx:Sh:=⟨true,Z7e⟩
def Txs:Sh:=⟨false,[.s 88 Z7e]⟩
def Sho:Sh:=⟨true,[.s 85 Z39,.s 88 Z7e]⟩
def Ss:Sh:=⟨false,[.s 139 (List.replicate 15 (.i .i64))]⟩
def Z7f:List K:=[.i .i64,.i .i64,.i .i64,.i .i64,.i .i64,.i .i64]
def Frs:Sh:=⟨false,[.s 39 Z7f]⟩
noncomputable def Zif (w h c:Int):Bool:=decide ((0 < w∧w≤16)∧(0 < h∧h≤16)∧((dec c).length:Int)=w * h)
noncomputable def Zeo (x:List Int):List Int:=[er (Zif (x.getD 0 0) (x.getD 1 0) (x.getD 2 0)) 8]
def Zlc:List (Option Iv):=[zz,zz,none]
def Z18e (v:List (Option Iv)):List (Option Iv):=[iv 0 8]
noncomputable def Zjd:Sum:=mkS gl0 171 [Tx] [I1] Zlc Zeo
def Z130:Inf:=⟨Zlc,Z18e⟩
noncomputable def texB (x:Int):Bool:=Zif (co x 0) (co x 1) (ctN (co x 2))
noncomputable def Zh6 (l:List Int):Int:=if l.length≤16 then (if l.all texB=true then 0 else 8) else 4
noncomputable def Zep (x:List Int):List Int:=[Zh6 (dec (x.getD 0 0))]
def Zld:List (Option Iv):=[none]
def Zv1 (x:List Int):Prop:=Zr Zld x∧∀ b ∈ dec (x.getD 0 0),Zc Z7e (dec b)
def Z18f (v:List (Option Iv)):List (Option Iv):=[iv 0 8]
noncomputable def Zje:Sum:=mkP gl0 118 [Txs] [I1] Zv1 Zep
def Z131:Inf:=⟨[some ⟨1,0⟩],Z18f⟩
def Zdc (x:List Int):Bool:=decide ((-1≤x.getD 4 0∧x.getD 4 0 < x.getD 9 0)∧x.getD 5 0≤2∧(-1024≤x.getD 6 0∧x.getD 6 0≤1024)∧(0≤x.getD 8 0∧x.getD 8 0≤15))
def Z99 (x:List Int):List Int:=[if 0≤x.getD 9 0∧x.getD 9 0≤16 then er (Zdc x) 8 else 2]
def Zdd:List (Option Iv):=ivs 4 0 255++[zz,iv 0 255,zz,iv 0 1,zz,zz]
def Zyg (v:List (Option Iv)):List (Option Iv):=[iv 0 8]
def Z9a:Sum:=mkS gl0 131 [Lk,I1] [I1] Zdd Z99
def Zle:Inf:=⟨Zdd,Zyg⟩
noncomputable def okW (v:Int):Bool:=Zj6 4096 [co v 0,co v 1,co v 2] 0
noncomputable def uvB (u:Int):Bool:=decide ((0≤co u 0∧0≤co u 1)∧(co u 0≤255∧co u 1≤255))
noncomputable def Zzm (n:Nat) (t:Int):Bool:=decide ((0≤co t 0∧0≤co t 1∧0≤co t 2)∧(co t 0 < n∧co t 1 < n∧co t 2 < n))
def Z1eu (x:List Int):Bool:=decide (0≤x.getD 18 0∧x.getD 18 0≤16) && Zdc [x.getD 3 0,x.getD 4 0,x.getD 5 0,x.getD 6 0,x.getD 7 0,x.getD 8 0,x.getD 9 0,x.getD 10 0,x.getD 11 0,x.getD 18 0]
noncomputable def Z18g (V:List Int) (x:List Int):Bool:=decide ([x.getD 12 0,x.getD 13 0,x.getD 14 0,x.getD 15 0,x.getD 16 0,x.getD 17 0]=Z2u V)
noncomputable def Zov (x:List Int):Bool :=
 decide ((dec (x.getD 0 0)).length≤64∧(dec (x.getD 1 0)).length=(dec (x.getD 0 0)).length∧(dec (x.getD 2 0)).length≤64) && (Z1eu x &&
 ((dec (x.getD 0 0)).all okW && ((dec (x.getD 1 0)).all uvB && ((dec (x.getD 2 0)).all (Zzm (dec (x.getD 0 0)).length) && Z18g (dec (x.getD 0 0)) x))))
noncomputable def Zlf (x:List Int):List Int:=[b01 (Zov x)]
def Zlg:List (Option Iv):=[none,none,none]++ivs 4 0 255++[zz,iv 0 255,zz,iv 0 1,zz]++zs 7
def Z18h (x:List Int):Prop:=Zr Zlg x∧∀ v ∈ dec (x.getD 0 0),Zc Z7d (dec v)
def Z18i (v:List (Option Iv)):List (Option Iv):=[iv 0 1]
noncomputable def Zv2:Sum:=mkP gl0 121 [It,I1] [Bo] Z18h Zlf
def Z1c1:Inf:=⟨[some ⟨1,0⟩],Z18i⟩
noncomputable def Z6p (b n:Int):List Int:=[ctN (co b 0),ctN (co b 1),ctN (co b 2),co b 3,co b 4,co b 5,co b 6,co b 7,co b 8,co b 9,co b 10,co b 11,co b 12,co b 13,co b 14,co b 15,co b 16,co b 17,n]
noncomputable def Z2k (x:List Int):Int :=
 if (dec (x.getD 0 0)).length≤256∧(dec (x.getD 1 0)).length≤16 then
  (if Zh6 (dec (x.getD 1 0))=0∧(dec (x.getD 0 0)).all (fun b=>Zov (Z6p b (dec (x.getD 1 0)).length))=true then 0 else 8)
 else 4
noncomputable def Zjf (x:List Int):List Int:=[Z2k x]
def Zde:List (Option Iv):=[none,none]
def Z3o (I T:List Int):Prop:=(∀ b ∈ I,Zc Z39 (dec b)∧(∀ v ∈ dec (ctN (co b 0)),Zc Z7d (dec v))∧(∀ v ∈ dec (ctN (co b 1)),Zc Z12y (dec v))∧(∀ v ∈ dec (ctN (co b 2)),Zc Z7d (dec v)))∧(∀ b ∈ T,Zc Z7e (dec b))
def Zyh (x:List Int):Prop:=Zr Zde x∧Z3o (dec (x.getD 0 0)) (dec (x.getD 1 0))
def Zyi (v:List (Option Iv)):List (Option Iv):=[iv 0 8]
noncomputable def Z48:Sum:=mkP gl0 81 [Sho] [I1] Zyh Zjf
def Zlh:Inf:=⟨[some ⟨1,0⟩],Zyi⟩
noncomputable def Zf (b:Int):List Int:=dec (ctN (co b 0))
noncomputable def Zjg (b:Int):List Int:=dec (ctN (co b 1))
noncomputable def Z1t (b:Int):List Int:=dec (ctN (co b 2))
noncomputable def Z1v (c:List Int) (v:Int):List Int:=Z7a (c++[co v 0,co v 1,co v 2])
noncomputable def Z18j (c:List Int) (b n:Int):List Int:=[(Z1v c ((Zf b).getD n.toNat 0)).getD 0 0,(Z1v c ((Zf b).getD n.toNat 0)).getD 1 0,(Z1v c ((Zf b).getD n.toNat 0)).getD 2 0,co ((Zjg b).getD n.toNat 0) 0,co ((Zjg b).getD n.toNat 0) 1]
noncomputable def Zh7 (c:List Int) (b t:Int):List Int:=Z18j c b (co t 0)++(Z18j c b (co t 1)++Z18j c b (co t 2))
noncomputable def Zyj (c:List Int) (b t:Int):List Int:=dec ((Z7c (c.getD 13 0::Zh7 c b t)).getD 0 0)
noncomputable def Z132 (c:List Int) (l:Int) (o:Nat):List Int:=Z5x (c++[co l o,co l (o + 1),co l (o + 2),co l (o + 3),co l (o + 4)])
noncomputable def five (l:List Int):List Int:=[l.getD 0 0,l.getD 1 0,l.getD 2 0,l.getD 3 0,l.getD 4 0]
noncomputable def Zow (c:List Int) (l:Int):List Int:=five (Z132 c l 0)++(five (Z132 c l 5)++five (Z132 c l 10))
def Ze0 (l:List Int):List Int:=[l.getD 0 0,l.getD 1 0,l.getD 2 0,l.getD 3 0,l.getD 4 0,l.getD 5 0,l.getD 6 0,l.getD 7 0,l.getD 8 0,l.getD 9 0,l.getD 10 0,l.getD 11 0,l.getD 12 0,l.getD 13 0,l.getD 14 0]
noncomputable def Zrz (c:List Int) (cull l:Int):Option Int:=if (Z58 (Zow c l++[cull])).getD 0 0=1 then some (cod (Ze0 (Z71 (Zow c l)))) else none
noncomputable def Z9s (c:List Int) (b t:Int):List Int:=(Zyj c b t).filterMap (Zrz c (co b 8))
noncomputable def Zox (I c:List Int) (i k:Int):List Int:=Z9s c (I.getD i.toNat 0) ((Z1t (I.getD i.toNat 0)).getD k.toNat 0)
noncomputable def Z133 (x:List Int):List Int:=[cod (Zox (dec (x.getD 0 0)) ((x.drop 2).take 16) (x.getD 18 0) (x.getD 19 0))]
def Zoy:List (Option Iv):=[none,none]++zs 18
def Z134 (x:List Int):Prop:=Zr Zoy x∧Z3o (dec (x.getD 0 0)) (dec (x.getD 1 0))∧(0≤x.getD 18 0∧x.getD 18 0 < (dec (x.getD 0 0)).length∧0≤x.getD 19 0∧x.getD 19 0 < (Z1t ((dec (x.getD 0 0)).getD (x.getD 18 0).toNat 0)).length) ∧
 Z2k [x.getD 0 0,x.getD 1 0]=0∧Z2b ((x.drop 2).take 16) 0=true
def Z135 (v:List (Option Iv)):List (Option Iv):=[none]
noncomputable def Z6q:Sum:=mkP gl0 82 [Sho,An 16,I1,I1] [Ss] Z134 Z133
def Zs0:Inf:=⟨[some ⟨1,0⟩],Z135⟩
noncomputable def Z1c (p:Int):List Int:=[co p 0,co p 1,co p 2,co p 3,co p 4,co p 5,co p 6,co p 7,co p 8,co p 9,co p 10,co p 11,co p 12,co p 13,co p 14]
noncomputable def Z7g (b:Int) (i k n:Nat) (p:Int):Int:=cod (Z1c p++[co b 9,(i:Int),(k:Int),(n:Int),0,0])
noncomputable def Z3e (b:Int) (i k:Nat) (P:List Int):Nat→List Int
 | 0=>[]
 | n + 1=>Z3e b i k P n++[Z7g b i k n (P.getD n 0)]
noncomputable def Zjh (l:List Int) (pt:Nat→Nat→List Int) (i:Nat):Nat→List Int
 | 0=>[]
 | k + 1=>Zjh l pt i k++Z3e (l.getD i 0) i k (pt i k) (pt i k).length
noncomputable def Z3p (l:List Int) (pt:Nat→Nat→List Int):Nat→List Int
 | 0=>[]
 | i + 1=>Z3p l pt i++Zjh l pt i (Z1t (l.getD i 0)).length
noncomputable def ptS (l c:List Int) (i k:Nat):List Int:=Z9s c (l.getD i 0) ((Z1t (l.getD i 0)).getD k 0)
noncomputable def Zh8 (l c:List Int):List Int:=Z3p l (ptS l c) l.length
noncomputable def Z1y (x y p:Int):Option Int :=
 if (atL (Z1c p++[x,y])).getD 5 0=0 then some (cod [IntKind.i64.wrap (co p 15 + (atL (Z1c p++[x,y])).getD 2 0),co p 16,co p 17,co p 18,(atL (Z1c p++[x,y])).getD 3 0,(atL (Z1c p++[x,y])).getD 4 0]) else none
noncomputable def Z36 (l c:List Int) (x y:Int):List Int:=(Zh8 l c).filterMap (Z1y x y)
noncomputable def frE (x:List Int):Int:=if Z2k x=0 then (if Z2b ((x.drop 2).take 16) 0=true then (if 0≤x.getD 18 0∧x.getD 18 0 < x.getD 16 0∧0≤x.getD 19 0∧x.getD 19 0 < x.getD 17 0 then 0 else 2) else 150) else Z2k x
noncomputable def Z136 (x:List Int):List Int:=[if frE x=0 then cod (Z36 (dec (x.getD 0 0)) ((x.drop 2).take 16) (x.getD 18 0) (x.getD 19 0)) else cod [],frE x]
def Zoz:List (Option Iv):=[none,none]++zs 18
def Z137 (x:List Int):Prop:=Zr Zoz x∧Z3o (dec (x.getD 0 0)) (dec (x.getD 1 0))
def Z138 (v:List (Option Iv)):List (Option Iv):=[none,iv 0 150]
noncomputable def Z1ev:Sum:=mkP gl0 15 [Sho,An 16,I1,I1] [Frs,I1] Z137 Z136
def Z1ew:Inf:=⟨[some ⟨1,0⟩],Z138⟩
end Go.Proofs.YtgcoidbaoigkeaaGreatDoor.fix
namespace Go.Proofs.YtgcoidbaoigkeaaGreatDoor.fix
open Go.RowKit Go.Sx
def Zli (x:List Int):List Int:=[if x.getD 0 0 < x.getD 1 0 then -1 else if x.getD 1 0 < x.getD 0 0 then 1 else 0]
def Zlj:List (Option Iv):=zs 2
def Z18k (v:List (Option Iv)):List (Option Iv):=[iv (-1) 1]
def Zv3:Sum:=mkS gl0 59 [I1,I1] [I1] Zlj Zli
def Z1c2:Inf:=⟨Zlj,Z18k⟩
def Zc1:List Int→Int
 | []=>0
 | x::l=>if x=0 then Zc1 l else x
noncomputable def Zs1 (x:List Int):List Int:=[Zc1 (dec (x.getD 0 0))]
def Z139:List (Option Iv):=[none]
def Z1ex (x:List Int):Prop:=Zr Z139 x∧(dec (x.getD 0 0)).length≤1000
def Z1ey (v:List (Option Iv)):List (Option Iv):=[none]
noncomputable def Z18l:Sum:=mkP gl0 83 [Is] [I1] Z1ex Zs1
def i_orI:Inf:=⟨[some ⟨1,0⟩],Z1ey⟩
def Zc2 (x:List Int):Bool:=decide (x.getD 6 0 < x.getD 0 0∨(x.getD 6 0=x.getD 0 0∧(x.getD 1 0 < x.getD 7 0∨(x.getD 1 0=x.getD 7 0∧(x.getD 2 0 < x.getD 8 0∨(x.getD 2 0=x.getD 8 0∧x.getD 3 0 < x.getD 9 0))))))
def Zji (x:List Int):List Int:=[b01 (Zc2 x)]
def Zdf:List (Option Iv):=zs 12
def Zyk (v:List (Option Iv)):List (Option Iv):=[iv 0 1]
def Z9b:Sum:=mkS gl0 51 [An 6,An 6] [Bo] Zdf Zji
def Zlk:Inf:=⟨Zdf,Zyk⟩
noncomputable def Z15 (l acc:List Int) (f:Int):List Int :=
 if co (l.getD (co f 1).toNat 0) 10=0∧(acc.getD 6 0=0∨Zc2 [co f 0,co f 1,co f 2,co f 3,co f 4,co f 5,acc.getD 0 0,acc.getD 1 0,acc.getD 2 0,acc.getD 3 0,acc.getD 4 0,acc.getD 5 0]=true) then [co f 0,co f 1,co f 2,co f 3,co f 4,co f 5,1] else acc
def Zll:List Int:=[-2048,-1,-1,0,0,0,0]
def Z1ez (w:List Int):List Int:=if w.getD 6 0=0 then [0,0,0,0,0,0,0,0] else [w.getD 0 0,w.getD 1 0,w.getD 2 0,w.getD 3 0,w.getD 4 0,w.getD 5 0,1,0]
noncomputable def Z1c3 (l c:List Int) (x y:Int):List Int:=Z1ez ((Z36 l c x y).foldl (Z15 l) Zll)
noncomputable def Z6r (x:List Int):List Int:=if frE x=0 then Z1c3 (dec (x.getD 0 0)) ((x.drop 2).take 16) (x.getD 18 0) (x.getD 19 0) else [0,0,0,0,0,0,0,frE x]
def Zv4:List (Option Iv):=[none,none]++zs 18
def Z18m (x:List Int):Prop:=Zr Zv4 x∧Z3o (dec (x.getD 0 0)) (dec (x.getD 1 0))
def Zv5 (v:List (Option Iv)):List (Option Iv):=[none,none,none,none,none,none,iv 0 1,iv 0 150]
noncomputable def Zc3:Sum:=mkP gl0 8 [Sho,An 16,I1,I1] [An 6,Bo,I1] Z18m Z6r
def Z1c4:Inf:=⟨[some ⟨1,0⟩],Zv5⟩
end Go.Proofs.YtgcoidbaoigkeaaGreatDoor.fix
namespace Go.Proofs.YtgcoidbaoigkeaaGreatDoor.fix
open Go.RowKit Go.Sx
theorem Z1c5:∀ {ks:List K} {xs:List Int} {j:Nat} {k:K},Zc ks xs→ks[j]?=some k→inK k (xs.getD j 0)
 | k::ks,x::xs,0,k',h,hk=>by
  simp only [Z1gq,Option.some.injEq] at hk
  subst hk
  exact h.1
 | k::ks,x::xs,j + 1,k',h,hk=>by
  simp only [Z1gr] at hk
  show inK k' (xs.getD j 0)
  exact Z1c5 h.2 hk
 | [],[],_,_,_,hk=>by simp at hk
 | [],_::_,_,_,h,_=>h.elim
 | _::_,[],_,_,h,_=>h.elim
def Cl:Sh:=⟨true,Z12z⟩
def u8m (a b:Int):Int:=IntKind.u8.wrap ((a * b).tdiv 255)
def Zs2 (x:List Int):List Int:=[u8m (x.getD 0 0) (x.getD 4 0),u8m (x.getD 1 0) (x.getD 5 0),u8m (x.getD 2 0) (x.getD 6 0),u8m (x.getD 3 0) (x.getD 7 0)]
def Zs3:List (Option Iv):=ivs 8 0 255
def Z1f0 (v:List (Option Iv)):List (Option Iv):=ivs 4 0 255
def Z18n:Sum:=mkS gl0 133 [Cl,Cl] [Cl] Zs3 Zs2
def i_mix:Inf:=⟨Zs3,Z1f0⟩
def layV (a x y:Int):Int:=IntKind.u8.wrap ((x * a + y * (255 - a)).tdiv 255)
def Z9c (x:List Int):List Int:=[layV (x.getD 3 0) (x.getD 0 0) (x.getD 4 0),layV (x.getD 3 0) (x.getD 1 0) (x.getD 5 0),layV (x.getD 3 0) (x.getD 2 0) (x.getD 6 0),layV (x.getD 3 0) 255 (x.getD 7 0)]
def Zlm:List (Option Iv):=ivs 8 0 255
def Z18o (v:List (Option Iv)):List (Option Iv):=ivs 4 0 255
def Zv6:Sum:=mkS gl0 60 [Cl,Cl] [Cl] Zlm Z9c
def Z1c6:Inf:=⟨Zlm,Z18o⟩
def Z160 (u v:Int):Bool:=decide ((0≤u∧0≤v)∧(u≤255∧v≤255))
noncomputable def txlV (w h c u v:Int):Int:=(dec c).getD ((v * h).tdiv 256 * w + (u * w).tdiv 256).toNat 0
noncomputable def tatL (w h c u v:Int):List Int :=
 if Zif w h c=true then (if Z160 u v=true then [co (txlV w h c u v) 0,co (txlV w h c u v) 1,co (txlV w h c u v) 2,co (txlV w h c u v) 3,0] else [0,0,0,0,2]) else [0,0,0,0,8]
noncomputable def Zs4 (x:List Int):List Int:=ex5 (tatL (x.getD 0 0) (x.getD 1 0) (x.getD 2 0) (x.getD 3 0) (x.getD 4 0))
def Zs5:List (Option Iv):=[zz,zz,none,zz,zz]
def Z1f1 (x:List Int):Prop:=Zr Zs5 x∧∀ e ∈ dec (x.getD 2 0),Zc Z12z (dec e)
def Z1f2 (v:List (Option Iv)):List (Option Iv):=ivs 4 0 255++[iv 0 8]
noncomputable def Z18p:Sum:=mkP gl0 132 [Tx,I1,I1] [Cl,I1] Z1f1 Zs4
def i_tat:Inf:=⟨[some ⟨1,0⟩],Z1f2⟩
def Zc4 (T:List Int):Prop:=∀ b ∈ T,∀ e ∈ dec (ctN (co b 2)),Zc Z12z (dec e)
def mixT (x R:List Int):List Int:=Zs2 [x.getD 0 0,x.getD 1 0,x.getD 2 0,x.getD 3 0,R.getD 0 0,R.getD 1 0,R.getD 2 0,R.getD 3 0]++[R.getD 4 0]
noncomputable def Z9t (x:List Int) (T:List Int) (u v:Int):List Int :=
 if Zh6 T=0 then
  (if Zdc [x.getD 0 0,x.getD 1 0,x.getD 2 0,x.getD 3 0,x.getD 4 0,x.getD 5 0,x.getD 6 0,x.getD 7 0,x.getD 8 0,(T.length:Int)]=true then
   (if Z160 u v=true then
    (if x.getD 4 0 < 0 then [x.getD 0 0,x.getD 1 0,x.getD 2 0,x.getD 3 0,0]
    else mixT x (tatL (co (T.getD (x.getD 4 0).toNat 0) 0) (co (T.getD (x.getD 4 0).toNat 0) 1) (ctN (co (T.getD (x.getD 4 0).toNat 0) 2)) u v))
   else [0,0,0,0,2])
  else [0,0,0,0,8])
 else [0,0,0,0,Zh6 T]
def Z13a (x:List Int):List Int:=[x.getD 0 0,x.getD 1 0,x.getD 2 0,x.getD 3 0,x.getD 4 0,x.getD 5 0,x.getD 6 0,x.getD 7 0,x.getD 8 0]
noncomputable def Zh9 (x:List Int):List Int:=ex5 (Z9t (Z13a x) (dec (x.getD 9 0)) (x.getD 10 0) (x.getD 11 0))
def Zc5:List (Option Iv):=ivs 4 0 255++[zz,iv 0 255,zz,iv 0 1,zz,none,zz,zz]
def Zp0 (x:List Int):Prop:=Zr Zc5 x∧(∀ b ∈ dec (x.getD 9 0),Zc Z7e (dec b))∧Zc4 (dec (x.getD 9 0))
def Z13b (v:List (Option Iv)):List (Option Iv):=ivs 4 0 255++[iv 0 8]
noncomputable def Zln:Sum:=mkP gl0 90 [Lk,Txs,I1,I1] [Cl,I1] Zp0 Zh9
def Z13c:Inf:=⟨[some ⟨1,0⟩],Z13b⟩
def Pa_ks:List K:=List.replicate 21 (.i .i64)
def Scn:Sh:=⟨true,[.s 85 Z39,.s 88 Z7e,.s 141 Pa_ks]⟩
noncomputable def Zs6 (p:Int):List Int:=[co p 0,co p 1,co p 2,co p 3,co p 4,co p 5,co p 6,co p 7,co p 8,co p 9,co p 10,co p 11,co p 12,co p 13,co p 14,co p 15,co p 16,co p 17,co p 18,co p 19,co p 20]
def Zlo (I S:List Int):Prop:=S.length≤100000∧∀ p ∈ S,Zr (zs 21) (Zs6 p)∧0≤co p 16∧co p 16 < (I.length:Int)
noncomputable def Zv7 (I F:List Int):List Int:=F.foldl (Z15 I) Zll
noncomputable def Z18q (x:List Int):List Int:=ex7 (Zv7 (dec (x.getD 0 0)) ((dec (x.getD 2 0)).filterMap (Z1y (x.getD 3 0) (x.getD 4 0))))
def Zlp:List (Option Iv):=[none,none,none,zz,zz]
def Z18r (x:List Int):Prop:=Zr Zlp x∧Zlo (dec (x.getD 0 0)) (dec (x.getD 2 0))
def Z18s (v:List (Option Iv)):List (Option Iv):=zs 6++[iv 0 1]
noncomputable def Zjj:Sum:=mkP gl0 28 [Scn,I1,I1] [An 6,Bo] Z18r Z18q
def Z1c7:Inf:=⟨[some ⟨1,0⟩],Z18s⟩
end Go.Proofs.YtgcoidbaoigkeaaGreatDoor.fix
namespace Go.Proofs.YtgcoidbaoigkeaaGreatDoor.stab
open Go.Sort
variable {α:Type} [Inhabited α]
def Rot (d:Array α) (a m b:Nat) (d':Array α):Prop:=d'.size=d.size∧∀ k,d'[k]! = if k < a∨b≤k then d[k]! else if k < a + (b - m) then d[k + (m - a)]! else d[k - (b - m)]!
def Swr (d:Array α) (a b n:Nat) (d':Array α):Prop:=d'.size=d.size∧∀ k,d'[k]! = if a≤k∧k < a + n then d[k + (b - a)]! else if b≤k∧k < b + n then d[k - (b - a)]! else d[k]!
theorem Swr.start (d:Array α) (a b:Nat):Swr d a b 0 d:=⟨rfl,fun k=>by rw [if_neg (by omega),if_neg (by omega)]⟩
theorem Swr.step {d d':Array α} {a b n:Nat} (h:Swr d a b n d') (hab:a + n < b) (hb:b + n < d.size):Swr d a b (n + 1) (swp d' (a + n) (b + n)):=by
 refine ⟨by rw [swp_size]; exact h.1,fun k=>?_⟩
 have hs:=h.1
 by_cases h1:k=a + n
 ·subst h1
  rw [swp_left _ _ _ (by omega) (by omega),h.2,if_neg (by omega),if_neg (by omega),if_pos (by omega)]
  congr 1
  omega
 ·by_cases h2:k=b + n
  ·subst h2
   rw [swp_right _ _ _ (by omega),h.2,if_neg (by omega),if_neg (by omega),if_neg (by omega),if_pos (by omega)]
   congr 1
   omega
  ·rw [swp_other _ _ _ _ h1 h2,h.2]
   by_cases h3:a≤k∧k < a + n
   ·rw [if_pos h3,if_pos (by omega)]
   ·rw [if_neg h3,if_neg (show ¬ (a≤k∧k < a + (n + 1)) by omega)]
    by_cases h4:b≤k∧k < b + n
    ·rw [if_pos h4,if_pos (by omega)]
    ·rw [if_neg h4,if_neg (by omega)]
theorem Rot.front {d d1 d2:Array α} {l m j i:Nat} (h1:Swr d l m j d1) (hi:j < i) (hl:l + i=m) (h2:Rot d1 (l + j) m (m + j) d2):Rot d l m (m + j) d2:=by
 refine ⟨h2.1.trans h1.1,fun k=>?_⟩
 rw [h2.2]
 by_cases c1:k < l∨m + j≤k
 ·rw [if_pos (by omega),if_pos c1,h1.2,if_neg (by omega),if_neg (by omega)]
 ·rw [if_neg c1]
  by_cases c2:k < l + j
  ·rw [if_pos (by omega),h1.2,if_pos (by omega),if_pos (by omega)]
  ·rw [if_neg (by omega),if_neg (by omega:¬ k < l + (m + j - m))]
   by_cases c3:k < l + j + (m + j - m)
   ·rw [if_pos c3,h1.2]
    rw [if_neg (by omega),if_pos (by omega)]
    congr 1
    omega
   ·rw [if_neg c3,h1.2,if_neg (by omega),if_neg (by omega)]
theorem Rot.back {d d1 d2:Array α} {l m j i:Nat} (h1:Swr d l (m + j - i) i d1) (hi:i < j) (hl:l + i=m) (h2:Rot d1 l m (m + j - i) d2):Rot d l m (m + j) d2:=by
 refine ⟨h2.1.trans h1.1,fun k=>?_⟩
 rw [h2.2]
 by_cases c1:k < l∨m + j≤k
 ·rw [if_pos (by omega),if_pos c1,h1.2,if_neg (by omega),if_neg (by omega)]
 ·rw [if_neg c1]
  by_cases c2:m + j - i≤k
  ·rw [if_pos (by omega),if_neg (by omega),h1.2,if_neg (by omega),if_pos (by omega)]
   congr 1
   omega
  ·rw [if_neg (by omega)]
   by_cases c3:k < l + (m + j - i - m)
   ·rw [if_pos c3,if_pos (by omega),h1.2,if_neg (by omega),if_neg (by omega)]
   ·rw [if_neg c3,h1.2,if_pos (by omega)]
    by_cases c4:k < l + (m + j - m)
    ·rw [if_pos c4]
     congr 1
     omega
    ·omega
theorem Rot.even {d d1:Array α} {l m i:Nat} (h1:Swr d l m i d1) (hl:l + i=m):Rot d l m (m + i) d1:=by
 refine ⟨h1.1,fun k=>?_⟩
 rw [h1.2]
 by_cases c1:k < l∨m + i≤k
 ·rw [if_neg (by omega),if_neg (by omega),if_pos c1]
 ·rw [if_neg c1]
  by_cases c2:k < l + (m + i - m)
  ·rw [if_pos (by omega),if_pos c2]
  ·rw [if_neg (by omega),if_pos (by omega),if_neg c2]
   congr 1
   omega
theorem Rot.none {d:Array α} {a m b:Nat} (hm:a≤m∧m≤b) (h:m=a∨m=b):Rot d a m b d:=by
 refine ⟨rfl,fun k=>?_⟩
 by_cases c1:k < a∨b≤k
 ·rw [if_pos c1]
 ·rw [if_neg c1]
  by_cases c2:k < a + (b - m)
  ·rw [if_pos c2]
   congr 1
   omega
  ·rw [if_neg c2]
   congr 1
   omega
theorem Rot.up {d d':Array α} {a k:Nat} (h:Rot d a (a + 1) (k + 1) d') (hak:a≤k) (hk:k + 1 < d.size):Rot d a (a + 1) (k + 2) (swp d' k (k + 1)):=by
 have hs:=h.1
 refine ⟨by rw [swp_size]; exact h.1,fun x=>?_⟩
 by_cases h1:x=k
 ·subst h1
  rw [swp_left _ _ _ (by omega) (by omega),h.2,if_pos (by omega),if_neg (by omega),if_pos (by omega)]
  congr 1
  omega
 ·by_cases h2:x=k + 1
  ·subst h2
   rw [swp_right _ _ _ (by omega),h.2]
   by_cases c:k < a∨k + 1≤k
   ·omega
   ·rw [if_neg c,if_neg (by omega),if_neg (by omega),if_neg (by omega)]
    congr 1
    omega
  ·rw [swp_other _ _ _ _ h1 h2,h.2]
   by_cases c1:x < a∨k + 1≤x
   ·rw [if_pos c1,if_pos (by omega)]
   ·rw [if_neg c1,if_neg (show ¬ (x < a∨k + 2≤x) by omega),if_pos (show x < a + (k + 1 - (a + 1)) by omega),if_pos (show x < a + (k + 2 - (a + 1)) by omega)]
theorem Rot.down {d d':Array α} {k m:Nat} (h:Rot d k m (m + 1) d') (hk:k≤m) (h0:0 < k) (hm:m < d.size):Rot d (k - 1) m (m + 1) (swp d' k (k - 1)):=by
 have hs:=h.1
 refine ⟨by rw [swp_size]; exact h.1,fun x=>?_⟩
 by_cases h1:x=k
 ·subst h1
  rw [swp_left _ _ _ (by omega) (by omega),h.2,if_pos (by omega),if_neg (by omega),if_neg (by omega)]
  congr 1
  omega
 ·by_cases h2:x=k - 1
  ·subst h2
   rw [swp_right _ _ _ (by omega),h.2,if_neg (by omega),if_pos (by omega),if_neg (by omega),if_pos (by omega)]
   congr 1
   omega
  ·rw [swp_other _ _ _ _ h1 h2,h.2]
   by_cases c1:x < k∨m + 1≤x
   ·rw [if_pos c1,if_pos (by omega)]
   ·rw [if_neg c1,if_neg (show ¬ (x < k - 1∨m + 1≤x) by omega),if_neg (show ¬ x < k + (m + 1 - m) by omega),if_neg (show ¬ x < k - 1 + (m + 1 - m) by omega)]
variable {lt:α→α→Bool}
theorem Rot.at1 {d d':Array α} {a m b k:Nat} (h:Rot d a m b d') (h1:a≤k) (h2:k < a + (b - m)) (h3:k < b):d'[k]! = d[k + (m - a)]! := by rw [h.2,if_neg (by omega),if_pos h2]
theorem Rot.at2 {d d':Array α} {a m b k:Nat} (h:Rot d a m b d') (h1:a + (b - m)≤k) (h3:k < b) (h0:a≤k):d'[k]! = d[k - (b - m)]! := by rw [h.2,if_neg (by omega),if_neg (by omega)]
theorem Rot.out {d d':Array α} {a m b k:Nat} (h:Rot d a m b d') (h1:k < a∨b≤k):d'[k]! = d[k]! := by rw [h.2,if_pos h1]
theorem parts {d d1:Array α} {a s m e b mid:Nat} (hA:SortedIn lt a m d) (hB:SortedIn lt m b d) (h:Rot d s m e d1) (h1:a≤s∧s≤m∧m≤e∧e≤b) (hmid:mid=s + (e - m)) :
  SortedIn lt a s d1∧SortedIn lt s mid d1∧SortedIn lt mid e d1∧SortedIn lt e b d1:=by
 refine ⟨fun i j c1 c2 c3=>?_,fun i j c1 c2 c3=>?_,fun i j c1 c2 c3=>?_,fun i j c1 c2 c3=>?_⟩
 ·rw [h.out (by omega),h.out (by omega)]
  exact hA i j c1 c2 (by omega)
 ·rw [h.at1 (k:=i) (by omega) (by omega) (by omega),h.at1 (k:=j) (by omega) (by omega) (by omega)]
  exact hB _ _ (by omega) (by omega) (by omega)
 ·rw [h.at2 (k:=i) (by omega) (by omega) (by omega),h.at2 (k:=j) (by omega) (by omega) (by omega)]
  exact hA _ _ (by omega) (by omega) (by omega)
 ·rw [h.out (by omega),h.out (by omega)]
  exact hB i j (by omega) c2 c3
theorem SortedIn.le_of (hS:SWO lt) {d:Array α} {a b i j:Nat} (h:SortedIn lt a b d) (hi:a≤i) (hij:i≤j) (hj:j < b):lt d[j]! d[i]! = false:=by
 rcases Nat.lt_or_ge i j with c | c
 ·exact h i j hi c hj
 ·have:i=j:=by omega
  subst this
  exact hS.irrefl _
theorem Z13d (hS:SWO lt) {d d1:Array α} {a s m e b mid:Nat} (hA:SortedIn lt a m d) (hB:SortedIn lt m b d) (h:Rot d s m e d1) (h1:a≤s∧s≤m∧m≤e∧e≤b) (hmid:mid=s + (e - m))
  (hlo:s=a∨e=b∨lt d[e]! d[s - 1]! = false) (hhi:s=m∨e=m∨lt d[e - 1]! d[s]! = true):∀ i j,a≤i→i < mid→mid≤j→j < b→lt d1[j]! d1[i]! = false:=by
 have g1:∀ x y,a≤x→x < s→s≤y→y < m→lt d[y]! d[x]! = false:=fun x y q1 q2 q3 q4=>hA x y q1 (by omega) q4
 have g2:∀ x y,a≤x→x < s→e≤y→y < b→lt d[y]! d[x]! = false:=fun x y q1 q2 q3 q4=>by
  have h3:lt d[e]! d[s - 1]! = false:=by
   rcases hlo with h | h | h
   ·omega
   ·omega
   ·exact h
  exact hS.ntrans _ _ _ (SortedIn.le_of hS hB (by omega:m≤e) q3 q4) (hS.ntrans _ _ _ h3 (SortedIn.le_of hS hA q1 (by omega:x≤s - 1) (by omega)))
 have g3:∀ x y,m≤x→x < e→s≤y→y < m→lt d[y]! d[x]! = false:=fun x y q1 q2 q3 q4=>by
  have h3:lt d[e - 1]! d[s]! = true:=by
   rcases hhi with h | h | h
   ·omega
   ·omega
   ·exact h
  have h4:=hS.asymmA h3
  exact hS.ntrans _ _ _ (SortedIn.le_of hS hA (by omega:a≤s) q3 q4) (hS.ntrans _ _ _ h4 (SortedIn.le_of hS hB q1 (by omega:x≤e - 1) (by omega)))
 have g4:∀ x y,m≤x→x < e→e≤y→y < b→lt d[y]! d[x]! = false:=fun x y q1 q2 q3 q4=>hB x y q1 (by omega) q4
 intro i j c1 c2 c3 c4
 by_cases k1:i < s
 ·rw [h.out (k:=i) (by omega)]
  by_cases k2:j < e
  ·rw [h.at2 (k:=j) (by omega) (by omega) (by omega)]
   exact g1 _ _ c1 k1 (by omega) (by omega)
  ·rw [h.out (k:=j) (by omega)]
   exact g2 _ _ c1 k1 (by omega) c4
 ·rw [h.at1 (k:=i) (by omega) (by omega) (by omega)]
  by_cases k2:j < e
  ·rw [h.at2 (k:=j) (by omega) (by omega) (by omega)]
   exact g3 _ _ (by omega) (by omega) (by omega) (by omega)
  ·rw [h.out (k:=j) (by omega)]
   exact g4 _ _ (by omega) (by omega) (by omega) c4
theorem joined {d:Array α} {a mid b:Nat} (h1:SortedIn lt a mid d) (h2:SortedIn lt mid b d) (h3:∀ i j,a≤i→i < mid→mid≤j→j < b→lt d[j]! d[i]! = false):SortedIn lt a b d:=fun i j c1 c2 c3=>by
 by_cases k1:j < mid
 ·exact h1 i j c1 c2 k1
 ·by_cases k2:i < mid
  ·exact h3 i j c1 k2 (by omega) c3
  ·exact h2 i j (by omega) c2 c3
theorem Z59 {d d':Array α} {a b:Nat} (h:SortedIn lt a b d) (he:∀ k,a≤k→k < b→d'[k]! = d[k]!):SortedIn lt a b d':=fun i j c1 c2 c3=>by
 rw [he i c1 (by omega),he j (by omega) c3]
 exact h i j c1 c2 c3
theorem Z13e {d d':Array α} {a mid b:Nat} (hm:a≤mid∧mid≤b) (hb:b≤d.size) (h3:∀ i j,a≤i→i < mid→mid≤j→j < b→lt d[j]! d[i]! = false) (hP:PermIn a mid d d'∨PermIn mid b d d'):∀ i j,a≤i→i < mid→mid≤j→j < b→lt d'[j]! d'[i]! = false:=by
 rcases hP with hP | hP
 ·intro i j c1 c2 c3 c4
  rw [hP.2.1 j (by omega)]
  exact permIn_all d d' a mid (fun x=>lt d[j]! x=false) (by omega) hP (fun k q1 q2=>h3 k j q1 q2 c3 c4) i c1 c2
 ·intro i j c1 c2 c3 c4
  rw [hP.2.1 i (by omega)]
  exact permIn_all d d' mid b (fun x=>lt x d[i]! = false) (by omega) hP (fun k q1 q2=>h3 i k c1 c2 q1 q2) j c3 c4
def Z1i (lt:α→α→Bool) (a m b:Nat) (d d':Array α):Prop:=PermIn a b d d'∧(SortedIn lt a m d→SortedIn lt m b d→SortedIn lt a b d')
theorem Zp1 (hS:SWO lt) {d d':Array α} {a b i:Nat} (hR:Rot d a (a + 1) i d') (hP:PermIn a b d d') (hi:a + 1≤i∧i≤b) (h1:i=a + 1∨lt d[i - 1]! d[a]! = true) (h2:i=b∨lt d[i]! d[a]! = false):Z1i lt a (a + 1) b d d':=by
 refine ⟨hP,fun hA hB=>?_⟩
 obtain ⟨p1,p2,p3,p4⟩:=parts (mid:=a + (i - (a + 1))) hA hB hR (by omega) rfl
 refine joined p2 (mid:=a + (i - (a + 1))) (joined p3 p4 fun x y c1 c2 c3 c4=>?_) (Z13d hS hA hB hR (by omega) rfl (by omega) (by
  rcases h1 with h | h
  ·exact .inr (.inl h)
  ·exact .inr (.inr h)))
 have hx:x=i - 1:=by omega
 subst hx
 rw [hR.at2 (k:=i - 1) (by omega) (by omega) (by omega),hR.out (k:=y) (by omega),show i - 1 - (i - (a + 1))=a by omega]
 have h3:lt d[i]! d[a]! = false:=by
  rcases h2 with h | h
  ·omega
  ·exact h
 exact hS.ntrans _ _ _ (SortedIn.le_of hS hB (by omega:a + 1≤i) c3 c4) h3
theorem Zs7 (hS:SWO lt) {d d':Array α} {a m i:Nat} (hR:Rot d i m (m + 1) d') (hP:PermIn a (m + 1) d d') (hi:a≤i∧i≤m) (h1:i=a∨lt d[m]! d[i - 1]! = false) (h2:i=m∨lt d[m]! d[i]! = true):Z1i lt a m (m + 1) d d':=by
 refine ⟨hP,fun hA hB=>?_⟩
 obtain ⟨p1,p2,p3,p4⟩:=parts (mid:=i + (m + 1 - m)) hA hB hR (by omega) rfl
 refine joined (mid:=i + (m + 1 - m)) (joined p1 p2 fun x y c1 c2 c3 c4=>?_) p3 (Z13d hS hA hB hR (by omega) rfl (by omega) (by
  rcases h2 with h | h
  ·exact .inl h
  ·exact .inr (.inr h)))
 have hy:y=i:=by omega
 subst hy
 rw [hR.out (k:=x) (by omega),hR.at1 (k:=y) (by omega) (by omega) (by omega),show y + (m - y)=m by omega]
 have h3:lt d[m]! d[y - 1]! = false:=by
  rcases h1 with h | h
  ·omega
  ·exact h
 exact hS.ntrans _ _ _ h3 (SortedIn.le_of hS hA c1 (by omega:x≤y - 1) (by omega))
theorem Zjk (hS:SWO lt) {d d1 d2 d3:Array α} {a s m e b mid:Nat} (hsz:b≤d.size) (hR:Rot d s m e d1) (hP:PermIn a b d d1) (h1:a≤s∧s≤m∧m≤e∧e≤b) (hmid:mid=s + (e - m))
  (hlo:s=a∨e=b∨lt d[e]! d[s - 1]! = false) (hhi:s=m∨e=m∨lt d[e - 1]! d[s]! = true)
  (hL:(Z1i lt a s mid d1 d2∨(s=a∨s=mid)∧d2=d1)) (hG:(Z1i lt mid e b d2 d3∨(e=mid∨e=b)∧d3=d2)):Z1i lt a m b d d3:=by
 have q1:PermIn a mid d1 d2:=by
  rcases hL with h | ⟨_,h⟩
  ·exact h.1
  ·rw [h]; exact permIn_refl _ _ _
 have q2:PermIn mid b d2 d3:=by
  rcases hG with h | ⟨_,h⟩
  ·exact h.1
  ·rw [h]; exact permIn_refl _ _ _
 have s1:=hP.1
 have s2:=q1.1
 have s3:=q2.1
 refine ⟨permIn_trans _ _ _ _ _ hP (permIn_trans _ _ _ _ _ (permIn_mono _ _ a mid a b (Nat.le_refl _) (by omega) (by omega) q1) (permIn_mono _ _ mid b a b (by omega) (Nat.le_refl _) (by omega) q2)),fun hA hB=>?_⟩
 obtain ⟨p1,p2,p3,p4⟩:=parts hA hB hR h1 hmid
 have hb:=Z13d hS hA hB hR h1 hmid hlo hhi
 have r1:SortedIn lt a mid d2:=by
  rcases hL with h | ⟨h | h,h'⟩
  ·exact h.2 p1 p2
  ·subst h'; subst h; exact p2
  ·subst h'; rw [← h]; exact p1
 have r2:SortedIn lt mid b d3:=by
  have k3:SortedIn lt mid e d2:=Z59 p3 fun k c1 c2=>q1.2.1 k (by omega)
  have k4:SortedIn lt e b d2:=Z59 p4 fun k c1 c2=>q1.2.1 k (by omega)
  rcases hG with h | ⟨h | h,h'⟩
  ·exact h.2 k3 k4
  ·subst h'; rw [← h]; exact k4
  ·subst h'; rw [← h]; exact k3
 have r3:SortedIn lt a mid d3:=Z59 r1 fun k c1 c2=>q2.2.1 k (by omega)
 exact joined r3 r2 (Z13e (by omega) (by omega) (Z13e (by omega) (by omega) hb (.inl q1)) (.inr q2))
end Go.Proofs.YtgcoidbaoigkeaaGreatDoor.stab
namespace Go.Proofs.YtgcoidbaoigkeaaGreatDoor.stab
open Go.Shelf Go.RowKit Go.Lib Go.Sort
variable {α:Type} [Inhabited α]
def Zk (enc:α→Value) (w:World) (blk off n:Nat) (dk:Array α) (os:Array Obj):World:=Sort.grow (putRow enc { w with drawn:=n } blk off dk) os
def SW (enc:α→Value) (w0:World) (blk off:Nat) (dk:Array α) (W:World):Prop:=∃ n os,W=Zk enc w0 blk off n dk os
section
variable {enc:α→Value} {w0 W:World} {blk off:Nat} {dk:Array α}
theorem Zp2 (enc:α→Value) (w:World) (blk off n m:Nat) (dk dk':Array α) (os os':Array Obj) (hblk:blk < w.heap.size) (h:dk'.size=dk.size) :
  Zk enc (Zk enc w blk off n dk os) blk off m dk' os'=Zk enc w blk off m dk' (os++os'):=by
 unfold Zk
 show Sort.grow (putRow enc (Sort.grow (putRow enc { w with drawn:=m } blk off dk) os) blk off dk') os'=_
 rw [putRow_grow enc _ os blk off dk' (by rw [size_putRow]; exact hblk),putRow_putRow enc _ blk off dk dk' h,grow_grow]
theorem SW.start (h:Holds enc w0 blk off dk):SW enc w0 blk off dk w0:=⟨w0.drawn,#[],by unfold Zk; rw [grow_empty]; exact (putRow_self enc w0 blk off dk h).symm⟩
theorem SW.alloc (h:SW enc w0 blk off dk W) (o:Obj):SW enc w0 blk off dk (W.alloc o):=by
 obtain ⟨n,os,rfl⟩:=h
 exact ⟨n,os++#[o],by unfold Zk; rw [alloc_eq_grow,grow_grow]⟩
theorem SW.le (h:SW enc w0 blk off dk W):w0.heap.size≤W.heap.size:=by
 obtain ⟨n,os,rfl⟩:=h
 unfold Zk
 rw [size_grow,size_putRow]
 show w0.heap.size≤w0.heap.size + _
 omega
theorem SW.on (h:SW enc w0 blk off dk W) (hblk:blk < w0.heap.size) (m:Nat) (dk':Array α) (os':Array Obj) (hs:dk'.size=dk.size):SW enc w0 blk off dk' (Zk enc W blk off m dk' os'):=by
 obtain ⟨n,os,rfl⟩:=h
 exact ⟨m,_,Zp2 enc w0 blk off n m dk dk' os os' hblk hs⟩
theorem SW.holds (h:SW enc w0 blk off dk W) (hblk:blk < w0.heap.size) {d0:Array α} (h0:Holds enc w0 blk off d0) (hs:dk.size=d0.size):Holds enc W blk off dk:=by
 obtain ⟨n,os,rfl⟩:=h
 unfold Zk
 rw [← putRow_grow enc { w0 with drawn:=n } os blk off dk hblk]
 exact holds_putRow enc _ blk off d0 dk (holds_grow enc _ _ blk off d0 hblk h0) hs
theorem SW.lt (h:SW enc w0 blk off dk W) (hblk:blk < w0.heap.size):blk < W.heap.size:=Nat.lt_of_lt_of_le hblk h.le
theorem SW.swap (h:SW enc w0 blk off dk W) (hblk:blk < w0.heap.size) (i j:Nat) (hi:i < dk.size) (hj:j < dk.size) :
  SW enc w0 blk off (swp dk i j) ((W.setCell ⟨blk,off + i,none⟩ (enc dk[j]!)).setCell ⟨blk,off + j,none⟩ (enc dk[i]!)):=by
 obtain ⟨n,os,rfl⟩:=h
 refine ⟨n,os,?_⟩
 unfold Zk
 rw [← putRow_grow enc { w0 with drawn:=n } os blk off dk hblk,putRow_swp enc _ blk off dk i j hi hj,putRow_grow enc { w0 with drawn:=n } os blk off _ hblk]
end
theorem Zc6 (enc:α→Value) (w:World) (o:Obj) (blk off n:Nat) (X:Array α) (hblk:blk < w.heap.size):putRow enc (Sort.ahead (w.alloc o) n) blk off X=Zk enc w blk off (w.drawn + n) X #[o]:=by
 unfold Zk
 rw [alloc_eq_grow,ahead_grow,putRow_grow enc (Sort.ahead w n) _ blk off _ hblk]
 rfl
def Grew (W W':World):Prop:=∃ n os,W'=Sort.grow { W with drawn:=n } os
theorem Grew.refl (W:World):Grew W W:=⟨W.drawn,#[],by rw [grow_empty]⟩
theorem Z86 {enc:α→Value} {w0 W W':World} {blk off:Nat} {dk:Array α} (h:SW enc w0 blk off dk W) (hG:Grew W W'):SW enc w0 blk off dk W':=by
 obtain ⟨q,os',rfl⟩:=hG
 obtain ⟨n,os,rfl⟩:=h
 exact ⟨q,os++os',by unfold Zk; rw [← grow_grow]; rfl⟩
end Go.Proofs.YtgcoidbaoigkeaaGreatDoor.stab
namespace Go.Proofs.YtgcoidbaoigkeaaGreatDoor.stab
open Go.Shelf Go.RowKit Go.Lib Go.Sort
variable {P:Program} {ρ:Ren} {α:Type} [Inhabited α]
set_option maxHeartbeats 1600000 in
set_option maxRecDepth 1000000 in
theorem Zlq (L:LaysGt.n49 P ρ) (enc:α→Value) (lf:Fn) (la lb:Array Value) (sf:Nat) (sb:Array Value) (blk off a b n:Nat) (d:Array α) (w:World)
  (hswap:SwapSwaps P sf sb enc blk off d.size) (hH:Holds enc w blk off d) (hblk:blk < w.heap.size) (hab:a + n≤b) (hb:b + n≤d.size) (hsz:d.size < 4611686018427387904) :
  Calls P (ρ.f 49) #[.agg #[.func lf la lb,.func (.func sf) #[] sb],.int .i64 a,.int .i64 b,.int .i64 n] w fun e w'=>e=.returned (.tuple #[])∧∃ m d',w'=putRow enc (Sort.ahead (w.alloc (.cells #[.func lf la lb,.func (.func sf) #[] sb] (ρ.t 42))) m) blk off d'∧Swr d a b n d'∧PermIn a (b + n) d d':=by
 have mixed:=L.mixed; have t0:=L.t0; have a0:=L.a0; have z0:=L.z0; have v0:=L.v0; have t3:=L.t3; have a3:=L.a3; have z3:=L.z3; have v3:=L.v3; have t4:=L.t4; have a4:=L.a4; have z4:=L.z4; have v4:=L.v4; have t26:=L.t26; have a26:=L.a26; have z26:=L.z26; have v26:=L.v26; have t38:=L.t38; have a38:=L.a38; have z38:=L.z38; have v38:=L.v38; have t42:=L.t42; have a42:=L.a42; have z42:=L.z42; have v42:=L.v42
 have u42:=run_underlying L.t42
 have hH1:Holds enc (w.alloc (.cells #[.func lf la lb,.func (.func sf) #[] sb] (ρ.t 42))) blk off d:=by rw [alloc_eq_grow]; exact holds_grow enc w _ blk off d hblk hH
 go_enter L.f49,BodyGt.n49_ntmps ρ
 go_wp2
 go_loopg [8] n (fun k s8 wr=>∃ (i m:Nat) (dk:Array α),s8=.int .i64 i∧i + k=n∧wr=putRow enc (Sort.ahead (w.alloc (.cells #[.func lf la lb,.func (.func sf) #[] sb] (ρ.t 42))) m) blk off dk∧Swr d a b i dk∧PermIn a (b + n) d dk)
 case atStart=>exact ⟨0,0,d,rfl,by omega,(putRow_self enc _ blk off d hH1).symm,Swr.start d a b,permIn_refl _ _ _⟩
 case round =>
  obtain ⟨i,m,dk,rfl,hk,hwr,hS,hP⟩:=hrel
  have hds:dk.size=d.size:=hS.1
  by_cases hlt:i < n
  ·have hHk:Holds enc wr blk off dk:=by rw [hwr]; exact holds_putRow enc _ blk off d dk (holds_ahead enc _ m blk off d hH1) hds
   have c1:wr.cell? ⟨w.heap.size,1,none⟩=some (.func (.func sf) #[] sb):=by
    rw [hwr,cell?_putRow_other enc _ blk off dk _ (Or.inl (by show w.heap.size ≠ blk; omega))]; show ((w.alloc (.cells #[.func lf la lb,.func (.func sf) #[] sb] (ρ.t 42)))).cell? _=_; simp
   have hs:=hswap wr dk hHk hds (a + i) (b + i) (by omega) (by omega)
   rw [show (((a + i:Nat):Int))=(a:Int) + i by omega,show (((b + i:Nat):Int))=(b:Int) + i by omega] at hs
   have A:Aside (wr=putRow enc (Sort.ahead (w.alloc (.cells #[.func lf la lb,.func (.func sf) #[] sb] (ρ.t 42))) m) blk off dk∧Swr d a b i dk∧PermIn a (b + n) d dk):=⟨hwr,hS,hP⟩
   clear hwr hHk hH hH1 hswap hS hP
   go_wp2
   go_roundg (gk - 1)
   case measure=>omega
   case rel =>
    obtain ⟨hwr,hS,hP⟩:=A.out
    exact ⟨i + 1,m,swp dk (a + i) (b + i),by simp,by omega,
     by rw [hwr,← putRow_swp enc _ blk off dk (a + i) (b + i) (by omega) (by omega)],
     hS.step (by omega) (by omega),permIn_trans _ _ _ _ _ hP (swp_permIn _ _ _ _ _ (by omega) (by omega) (by omega) (by omega) (by omega))⟩
  ·go_wp2
   go_end0
   have:i=n:=by omega
   subst this
   exact ⟨rfl,m,dk,rfl,hS,hP⟩
theorem Zs8 (L:LaysGt.n49 P ρ) (enc:α→Value) (lf:Fn) (la lb:Array Value) (sf:Nat) (sb:Array Value) (blk off a b n:Nat) (d:Array α) (w:World)
  (hswap:SwapSwaps P sf sb enc blk off d.size) (hH:Holds enc w blk off d) (hblk:blk < w.heap.size) (hab:a + n≤b) (hb:b + n≤d.size) (hsz:d.size < 4611686018427387904) :
  Calls P (ρ.f 49) #[.agg #[.func lf la lb,.func (.func sf) #[] sb],.int .i64 a,.int .i64 b,.int .i64 n] w fun e w'=>e=.returned (.tuple #[])∧∃ m os d',w'=Zk enc w blk off m d' os∧Swr d a b n d'∧PermIn a (b + n) d d' :=
 (Zlq L enc lf la lb sf sb blk off a b n d w hswap hH hblk hab hb hsz).mono fun _ _ ⟨he,m,d',hw,h1,h2⟩=>⟨he,_,_,d',hw.trans (Zc6 enc w _ blk off m _ hblk),h1,h2⟩
end Go.Proofs.YtgcoidbaoigkeaaGreatDoor.stab
namespace Go.Proofs.YtgcoidbaoigkeaaGreatDoor.stab
open Go.Shelf Go.RowKit Go.Lib Go.Sort
variable {P:Program} {ρ:Ren} {α:Type} [Inhabited α]
def Dat (bx:Nat) (f0 f1:Value) (W:World):Prop:=bx < W.heap.size∧W.cell? ⟨bx,0,none⟩=some f0∧W.cell? ⟨bx,1,none⟩=some f1
theorem Z13f (enc:α→Value) (w:World) (blk off n:Nat) (dk:Array α) (os:Array Obj) (k i:Nat) (hk:k < w.heap.size) (hne:k ≠ blk):(Zk enc w blk off n dk os).cell? ⟨k,i,none⟩=w.cell? ⟨k,i,none⟩:=by
 unfold Zk
 rw [cell?_grow _ _ _ (by rw [size_putRow]; exact hk),cell?_putRow_other enc _ blk off _ _ (Or.inl hne)]
 rfl
theorem Z1f3 (enc:α→Value) (w:World) (blk off n:Nat) (dk:Array α) (os:Array Obj):w.heap.size≤(Zk enc w blk off n dk os).heap.size:=by
 unfold Zk
 rw [size_grow,size_putRow]
 show w.heap.size≤w.heap.size + _
 omega
theorem Dat.on {bx:Nat} {f0 f1:Value} {W:World} (h:Dat bx f0 f1 W) (enc:α→Value) (blk off n:Nat) (dk:Array α) (os:Array Obj) (hne:bx ≠ blk):Dat bx f0 f1 (Zk enc W blk off n dk os) :=
 ⟨Nat.lt_of_lt_of_le h.1 (Z1f3 enc W blk off n dk os),by rw [Z13f enc W blk off n dk os bx 0 h.1 hne]; exact h.2.1,by rw [Z13f enc W blk off n dk os bx 1 h.1 hne]; exact h.2.2⟩
theorem Dat.drewN {bx:Nat} {f0 f1:Value} {W:World} (h:Dat bx f0 f1 W) (q:Nat):Dat bx f0 f1 (W.drewN q):=h
theorem Dat.set {bx:Nat} {f0 f1:Value} {W:World} (h:Dat bx f0 f1 W) (a:Addr) (v:Value) (ha:a.block ≠ bx):Dat bx f0 f1 (W.setCell a v):=by
 refine ⟨by simpa using h.1,?_,?_⟩
 ·rw [World.cell?_setCell_other]
  ·exact h.2.1
  ·intro e; exact ha (by rw [e])
 ·rw [World.cell?_setCell_other]
  ·exact h.2.2
  ·intro e; exact ha (by rw [e])
theorem Dat.start (w:World) (f0 f1:Value) (t:TypeId):Dat w.heap.size f0 f1 (w.alloc (.cells #[f0,f1] t)):=⟨by simp,by simp,by simp⟩
theorem Dat.grew {bx:Nat} {f0 f1:Value} {W W':World} (h:Dat bx f0 f1 W) (hG:Grew W W'):Dat bx f0 f1 W':=by
 obtain ⟨q,os,rfl⟩:=hG
 obtain ⟨h1,h2,h3⟩:=h
 refine ⟨by rw [size_grow]; exact Nat.lt_of_lt_of_le h1 (Nat.le_add_right _ _),?_,?_⟩
 ·rw [cell?_grow _ _ _ (by exact h1)]; exact h2
 ·rw [cell?_grow _ _ _ (by exact h1)]; exact h3
def Zc7 (P:Program) (g:Nat) (lb:Array Value) (enc:α→Value) (lt:α→α→Bool) (blk off size:Nat) (w:World):Prop :=
  ∀ (W:World) (dk:Array α),SW enc w blk off dk W→dk.size=size→∀ i j:Nat,i < size→j < size →
    Calls P g (#[.int .i64 i,.int .i64 j]++lb) W fun e w'=>e=.returned (.bool (lt dk[i]! dk[j]!))∧Grew W w'
theorem Zeq {P:Program} {enc:α→Value} {w0 W:World} {blk off:Nat} {dk:Array α} {g:Nat} {lb:Array Value} {lt:α→α→Bool} {size:Nat} (h:SW enc w0 blk off dk W) (hL:Zc7 P g lb enc lt blk off size w0) (hs:dk.size=size) (i j:Nat) (hi:i < size) (hj:j < size) :
  Calls P g (#[.int .i64 i,.int .i64 j]++lb) W fun e w'=>e=.returned (.bool (lt dk[i]! dk[j]!))∧Grew W w':=hL W dk h hs i j hi hj
theorem Zp3 {P:Program} {enc:α→Value} {w0 W:World} {blk off:Nat} {dk:Array α} {g:Nat} {lb:Array Value} {lt:α→α→Bool} {size:Nat} (h:SW enc w0 blk off dk W) (hL:Zc7 P g lb enc lt blk off size w0) (hblk:blk < w0.heap.size) (hs:dk.size=size):Zc7 P g lb enc lt blk off size W:=fun W' dk' h' hs' i j hi hj=>by
 obtain ⟨n,os,rfl⟩:=h'
 exact hL _ dk' (h.on hblk n dk' os (hs'.trans hs.symm)) hs' i j hi hj
theorem Zc7.grow {P:Program} {enc:α→Value} {w:World} {blk off:Nat} {g:Nat} {lb:Array Value} {lt:α→α→Bool} {size:Nat} (hL:Zc7 P g lb enc lt blk off size w) (hblk:blk < w.heap.size) (os0:Array Obj):Zc7 P g lb enc lt blk off size (Sort.grow w os0):=fun W' dk' h' hs' i j hi hj=>by
 obtain ⟨n,os,rfl⟩:=h'
 refine hL _ dk' ⟨n,os0++os,?_⟩ hs' i j hi hj
 unfold Zk
 show Sort.grow (putRow enc (Sort.grow { w with drawn:=n } os0) blk off dk') os=_
 rw [putRow_grow enc { w with drawn:=n } _ blk off _ hblk,grow_grow]
set_option maxHeartbeats 1600000 in
set_option maxRecDepth 1000000 in
theorem Zv8 (L:LaysGt.n42 P ρ) (enc:α→Value) (lf:Fn) (la lb:Array Value) (sf:Nat) (sb:Array Value) (blk off a m b:Nat) (d:Array α) (w:World)
  (hswap:SwapSwaps P sf sb enc blk off d.size) (hH:Holds enc w blk off d) (hblk:blk < w.heap.size) (ham:a < m) (hmb:m < b) (hb:b≤d.size) (hsz:d.size < 4611686018427387904) :
  Calls P (ρ.f 42) #[.agg #[.func lf la lb,.func (.func sf) #[] sb],.int .i64 a,.int .i64 m,.int .i64 b] w fun e w'=>e=.returned (.tuple #[])∧∃ n os d',w'=Zk enc w blk off n d' os∧Rot d a m b d'∧PermIn a b d d':=by
 have mixed:=L.mixed; have t0:=L.t0; have a0:=L.a0; have z0:=L.z0; have v0:=L.v0; have t3:=L.t3; have a3:=L.a3; have z3:=L.z3; have v3:=L.v3; have t4:=L.t4; have a4:=L.a4; have z4:=L.z4; have v4:=L.v4; have t26:=L.t26; have a26:=L.a26; have z26:=L.z26; have v26:=L.v26; have t38:=L.t38; have a38:=L.a38; have z38:=L.z38; have v38:=L.v38; have t42:=L.t42; have a42:=L.a42; have z42:=L.z42; have v42:=L.v42
 have u42:=run_underlying L.t42
 have e49:∀ args w,(callFunc (ρ.f 49) args).run P w=.ok (.enter (ρ.f 49) args) w:=enters_of L.f49 (by kernel_rfl) rfl
 have LS:LaysGt.n49 P ρ:={ L with }
 have hSW:=(SW.start hH).alloc (.cells #[.func lf la lb,.func (.func sf) #[] sb] (ρ.t 42))
 have hD:=Dat.start w (.func lf la lb) (.func (.func sf) #[] sb) (ρ.t 42)
 have hne:w.heap.size ≠ blk:=by omega
 go_enter L.f42,BodyGt.n42_ntmps ρ
 go_wp2
 go_loopg [8,9] (b - a) (fun k s8 s9 wr=>∃ (i j:Nat) (dk:Array α),s8=.int .i64 i∧s9=.int .i64 j∧0 < i∧0 < j∧a + i≤m∧m + j≤b∧i + j≤k∧SW enc w blk off dk wr∧Dat w.heap.size (.func lf la lb) (.func (.func sf) #[] sb) wr ∧
  (∀ d',Rot dk (m - i) m (m + j) d'→Rot d a m b d')∧PermIn a b d dk)
 case atStart=>exact ⟨m - a,b - m,d,by congr 1; omega,by congr 1; omega,by omega,by omega,by omega,by omega,by omega,hSW,hD,fun d' h=>by rwa [show m - (m - a)=a by omega,show m + (b - m)=b by omega] at h,permIn_refl _ _ _⟩
 case round =>
  obtain ⟨i,j,dk,rfl,rfl,hi0,hj0,hi,hj,hk,hS,hDk,hRo,hP⟩:=hrel
  have hds:dk.size=d.size:=hP.1
  have hHk:Holds enc wr blk off dk:=hS.holds hblk hH hds
  have hbk:blk < wr.heap.size:=hS.lt hblk
  obtain ⟨q0,c0,c1⟩:=hDk
  have sw:∀ (a' b' n':Nat),a' + n'≤b'→b' + n'≤dk.size→Calls P (ρ.f 49) #[.agg #[.func lf la lb,.func (.func sf) #[] sb],.int .i64 a',.int .i64 b',.int .i64 n'] wr fun e w'=>e=.returned (.tuple #[])∧∃ m os d',w'=Zk enc wr blk off m d' os∧Swr dk a' b' n' d'∧PermIn a' (b' + n') dk d' :=
   fun a' b' n' h1 h2=>Zs8 LS enc lf la lb sf sb blk off a' b' n' dk wr (by rw [hds]; exact hswap) hHk hbk h1 h2 (by omega)
  have A:Aside (SW enc w blk off dk wr∧Dat w.heap.size (.func lf la lb) (.func (.func sf) #[] sb) wr∧(∀ d',Rot dk (m - i) m (m + j) d'→Rot d a m b d')∧PermIn a b d dk∧dk.size=d.size):=⟨hS,⟨q0,c0,c1⟩,hRo,hP,hds⟩
  have hdb:b≤dk.size:=by omega
  have hdz:dk.size < 4611686018427387904:=by omega
  clear hS hRo hP hds hHk hbk hswap hH hSW hD
  by_cases hij:i=j
  ·subst hij
   have hc:=sw (m - i) m i (by omega) (by omega)
   rw [show (((m - i:Nat):Int))=(m:Int) - i by omega] at hc
   clear sw
   go_wp2_with (go_at_fn (ρ.f 49); refine hc.mono ?_; rintro e w1 ⟨rfl,n,os,d1,rfl,h1,h2⟩)
   go_end0
   obtain ⟨hS,hDk,hRo,hP,hds⟩:=A.out
   obtain ⟨n',os',e'⟩:=hS.on hblk n d1 os h2.1
   exact ⟨rfl,n',os',d1,e',hRo d1 (Rot.even h1 (by omega)),permIn_trans _ _ _ _ _ hP (permIn_mono _ _ _ _ _ _ (by omega) (by omega) (by omega) h2)⟩
  ·by_cases hgt:j < i
   ·have hc:=sw (m - i) m j (by omega) (by omega)
    rw [show (((m - i:Nat):Int))=(m:Int) - i by omega] at hc
    clear sw
    go_wp2_with (go_at_fn (ρ.f 49); refine hc.mono ?_; rintro e w1 ⟨rfl,n,os,d1,rfl,h1,h2⟩)
    go_roundg (i - j + j)
    case measure=>omega
    case rel =>
     obtain ⟨hS,hDk,hRo,hP,hds⟩:=A.out
     exact ⟨i - j,j,d1,by congr 1; omega,rfl,by omega,by omega,by omega,by omega,by omega,hS.on hblk n d1 os h2.1,hDk.on enc blk off n d1 os hne,
      fun d' h=>hRo d' (Rot.front (i:=i) h1 hgt (by omega) (by rwa [show m - (i - j)=m - i + j by omega] at h)),permIn_trans _ _ _ _ _ hP (permIn_mono _ _ _ _ _ _ (by omega) (by omega) (by omega) h2)⟩
   ·have hc:=sw (m - i) (m + j - i) i (by omega) (by omega)
    rw [show (((m - i:Nat):Int))=(m:Int) - i by omega,show (((m + j - i:Nat):Int))=(m:Int) + j - i by omega] at hc
    clear sw
    go_wp2_with (go_at_fn (ρ.f 49); refine hc.mono ?_; rintro e w1 ⟨rfl,n,os,d1,rfl,h1,h2⟩)
    go_roundg (i + (j - i))
    case measure=>omega
    case rel =>
     obtain ⟨hS,hDk,hRo,hP,hds⟩:=A.out
     exact ⟨i,j - i,d1,rfl,by congr 1; omega,by omega,by omega,by omega,by omega,by omega,hS.on hblk n d1 os h2.1,hDk.on enc blk off n d1 os hne,
      fun d' h=>hRo d' (Rot.back (i:=i) h1 (by omega) (by omega) (by rwa [show m + (j - i)=m + j - i by omega] at h)),permIn_trans _ _ _ _ _ hP (permIn_mono _ _ _ _ _ _ (by omega) (by omega) (by omega) h2)⟩
end Go.Proofs.YtgcoidbaoigkeaaGreatDoor.stab
namespace Go.Proofs.YtgcoidbaoigkeaaGreatDoor.stab
open Go.Shelf Go.RowKit Go.Lib Go.Sort
variable {P:Program} {ρ:Ren} {α:Type} [Inhabited α]
theorem Z37 (i j:Nat):(((i + j) / 2:Nat):Int)=((i:Int) + j) / 2:=by omega
set_option maxHeartbeats 3200000 in
set_option maxRecDepth 1000000 in
theorem Zp4 (L:LaysGt.n30 P ρ) (enc:α→Value) (lt:α→α→Bool) (hO:SWO lt) (g:Nat) (lb:Array Value) (sf:Nat) (sb:Array Value) (blk off:Nat)
  (eg:∀ args w,(callFunc g args).run P w=.ok (.enter g args) w) (a m b:Nat) (d:Array α) (w:World) (hless:Zc7 P g lb enc lt blk off d.size w) (hswap:SwapSwaps P sf sb enc blk off d.size)
  (hH:Holds enc w blk off d) (hblk:blk < w.heap.size) (ham:a < m) (hmb:m < b) (hb:b≤d.size) (hsz:d.size < 4611686018427387904) (hone:m=a + 1) :
  Calls P (ρ.f 30) #[.agg #[.func (.func g) #[] lb,.func (.func sf) #[] sb],.int .i64 a,.int .i64 m,.int .i64 b] w fun e w'=>e=.returned (.tuple #[])∧∃ n os d',w'=Zk enc w blk off n d' os∧Z1i lt a m b d d':=by
 have mixed:=L.mixed; have t0:=L.t0; have a0:=L.a0; have z0:=L.z0; have v0:=L.v0; have t3:=L.t3; have a3:=L.a3; have z3:=L.z3; have v3:=L.v3; have t4:=L.t4; have a4:=L.a4; have z4:=L.z4; have v4:=L.v4; have t26:=L.t26; have a26:=L.a26; have z26:=L.z26; have v26:=L.v26; have t38:=L.t38; have a38:=L.a38; have z38:=L.z38; have v38:=L.v38; have t42:=L.t42; have a42:=L.a42; have z42:=L.z42; have v42:=L.v42; have t47:=L.t47; have a47:=L.a47; have z47:=L.z47; have v47:=L.v47
 have u42:=run_underlying L.t42
 have hSW:=(SW.start hH).alloc (.cells #[.func (.func g) #[] lb,.func (.func sf) #[] sb] (ρ.t 42))
 have hD:=Dat.start w (.func (.func g) #[] lb) (.func (.func sf) #[] sb) (ρ.t 42)
 have hne:blk ≠ w.heap.size:=by omega
 have h1:(m:Int) - a=1:=by omega
 have M:Aside (m=a + 1):=hone
 clear hone
 go_enter L.f30,BodyGt.n30_ntmps ρ
 go_wp2
 go_loopg [8,9] (b - m) (fun k s8 s9 wr=>∃ (i j:Nat),s8=.int .i64 i∧s9=.int .i64 j∧m≤i∧i≤j∧j≤b∧j - i≤k∧SW enc w blk off d wr∧Dat w.heap.size (.func (.func g) #[] lb) (.func (.func sf) #[] sb) wr ∧
  (i=m∨lt d[i - 1]! d[a]! = true)∧(j=b∨lt d[j]! d[a]! = false))
 case atStart=>exact ⟨m,b,rfl,rfl,by omega,by omega,by omega,by omega,hSW,hD,.inl rfl,.inl rfl⟩
 case round =>
  obtain ⟨i,j,rfl,rfl,hi0,hij,hj,hk,hS,hDk,he1,he2⟩:=hrel
  obtain ⟨q0,c0,c1⟩:=id hDk
  have A:Aside (SW enc w blk off d wr∧Dat w.heap.size (.func (.func g) #[] lb) (.func (.func sf) #[] sb) wr∧(i=m∨lt d[i - 1]! d[a]! = true)∧(j=b∨lt d[j]! d[a]! = false)):=⟨hS,hDk,he1,he2⟩
  by_cases hlt:i < j
  ·have hl:=Zeq hS hless rfl ((i + j) / 2) a (by omega) (by omega)
   rw [Z37] at hl
   clear hS hDk he1 he2 hSW hD hless hswap hH
   cases hlv:lt d[(i + j) / 2]! d[a]! with
   | true =>
    rw [hlv] at hl
    have V:Aside (lt d[(i + j) / 2]! d[a]! = true):=hlv
    clear hlv
    go_wp2_with (go_at_fn g; refine hl.mono ?_; rintro e w' ⟨rfl,hG⟩)
    go_roundg (j - ((i + j) / 2 + 1))
    case measure=>omega
    case rel =>
     obtain ⟨hS,hDk,he1,he2⟩:=A.out
     exact ⟨(i + j) / 2 + 1,j,by congr 1,rfl,by omega,by omega,by omega,by omega,Z86 hS hG,hDk.grew hG,.inr V.out,he2⟩
   | false =>
    rw [hlv] at hl
    have V:Aside (lt d[(i + j) / 2]! d[a]! = false):=hlv
    clear hlv
    go_wp2_with (go_at_fn g; refine hl.mono ?_; rintro e w' ⟨rfl,hG⟩)
    go_roundg ((i + j) / 2 - i)
    case measure=>omega
    case rel =>
     obtain ⟨hS,hDk,he1,he2⟩:=A.out
     exact ⟨i,(i + j) / 2,rfl,by congr 1,by omega,by omega,by omega,by omega,Z86 hS hG,hDk.grew hG,he1,.inr V.out⟩
  ·have hje:j=i:=by omega
   subst hje
   clear hS hDk he1 he2 hSW hD hless
   go_wp2
   go_loopg [11] (j - 1 - a) (fun k s11 wr2=>∃ (x:Nat) (dk:Array α),s11=.int .i64 x∧a≤x∧x + 1≤j∧j - 1 - x≤k∧SW enc w blk off dk wr2∧Dat w.heap.size (.func (.func g) #[] lb) (.func (.func sf) #[] sb) wr2∧Rot d a (a + 1) (x + 1) dk∧PermIn a b d dk)
   case atStart =>
    obtain ⟨hS,hDk,he1,he2⟩:=A.out
    exact ⟨a,d,rfl,by omega,by omega,by omega,hS,hDk,Rot.none (by omega) (.inr rfl),permIn_refl _ _ _⟩
   case round =>
    obtain ⟨x,dk,rfl,hx0,hx1,hxk,hS2,hD2,hR,hP⟩:=hrel
    have hds:dk.size=d.size:=hP.1
    obtain ⟨q2,c2,c3⟩:=id hD2
    by_cases hlt2:x + 1 < j
    ·have hs:=hswap wr dk (hS2.holds hblk hH hds) hds x (x + 1) (by omega) (by omega)
     rw [show (((x + 1:Nat):Int))=(x:Int) + 1 by omega] at hs
     have B:Aside (SW enc w blk off dk wr∧Dat w.heap.size (.func (.func g) #[] lb) (.func (.func sf) #[] sb) wr∧Rot d a (a + 1) (x + 1) dk∧PermIn a b d dk∧dk.size=d.size):=⟨hS2,hD2,hR,hP,hds⟩
     clear hS2 hD2 hR hP hds hswap hH c0 c1 q0
     go_wp2
     go_roundg (j - 1 - (x + 1))
     case measure=>omega
     case rel =>
      obtain ⟨hS2,hD2,hR,hP,hds⟩:=B.out
      exact ⟨x + 1,swp dk x (x + 1),by congr 1,by omega,by omega,by omega,hS2.swap hblk x (x + 1) (by omega) (by omega),(hD2.set _ _ hne).set _ _ hne,
       hR.up (by omega) (by omega),permIn_trans _ _ _ _ _ hP (swp_permIn _ _ _ _ _ (by omega) (by omega) (by omega) (by omega) (by omega))⟩
    ·go_wp2
     refine bodyPost_ret (results_none rfl _ _ _) rfl ?_
     obtain ⟨hS,hDk,he1,he2⟩:=A.out
     obtain ⟨n,os,e'⟩:=hS2
     obtain rfl:=M.out
     have:x + 1=j:=by omega
     rw [this] at hR
     exact ⟨rfl,n,os,dk,e',Zp1 hO hR hP (by omega) he1 he2⟩
set_option maxHeartbeats 3200000 in
set_option maxRecDepth 1000000 in
theorem Zv9 (L:LaysGt.n30 P ρ) (enc:α→Value) (lt:α→α→Bool) (hO:SWO lt) (g:Nat) (lb:Array Value) (sf:Nat) (sb:Array Value) (blk off:Nat)
  (eg:∀ args w,(callFunc g args).run P w=.ok (.enter g args) w) (a m b:Nat) (d:Array α) (w:World) (hless:Zc7 P g lb enc lt blk off d.size w) (hswap:SwapSwaps P sf sb enc blk off d.size)
  (hH:Holds enc w blk off d) (hblk:blk < w.heap.size) (ham:a < m) (hmb:m < b) (hb:b≤d.size) (hsz:d.size < 4611686018427387904) (htwo:m ≠ a + 1) (hone:b=m + 1) :
  Calls P (ρ.f 30) #[.agg #[.func (.func g) #[] lb,.func (.func sf) #[] sb],.int .i64 a,.int .i64 m,.int .i64 b] w fun e w'=>e=.returned (.tuple #[])∧∃ n os d',w'=Zk enc w blk off n d' os∧Z1i lt a m b d d':=by
 have mixed:=L.mixed; have t0:=L.t0; have a0:=L.a0; have z0:=L.z0; have v0:=L.v0; have t3:=L.t3; have a3:=L.a3; have z3:=L.z3; have v3:=L.v3; have t4:=L.t4; have a4:=L.a4; have z4:=L.z4; have v4:=L.v4; have t26:=L.t26; have a26:=L.a26; have z26:=L.z26; have v26:=L.v26; have t38:=L.t38; have a38:=L.a38; have z38:=L.z38; have v38:=L.v38; have t42:=L.t42; have a42:=L.a42; have z42:=L.z42; have v42:=L.v42; have t47:=L.t47; have a47:=L.a47; have z47:=L.z47; have v47:=L.v47
 have u42:=run_underlying L.t42
 have hSW:=(SW.start hH).alloc (.cells #[.func (.func g) #[] lb,.func (.func sf) #[] sb] (ρ.t 42))
 have hD:=Dat.start w (.func (.func g) #[] lb) (.func (.func sf) #[] sb) (ρ.t 42)
 have hne:blk ≠ w.heap.size:=by omega
 have h1:(b:Int) - m=1:=by omega
 have h2:¬ (m:Int) - a=1:=by omega
 have h3:((m:Int) - a == 1)=false:=by simp only [beq_eq_false_iff_ne,ne_eq]; exact h2
 have M:Aside (b=m + 1):=hone
 clear hone htwo
 go_enter L.f30,BodyGt.n30_ntmps ρ
 go_wp2
 go_loopg [12,13] (m - a) (fun k s8 s9 wr=>∃ (i j:Nat),s8=.int .i64 i∧s9=.int .i64 j∧a≤i∧i≤j∧j≤m∧j - i≤k∧SW enc w blk off d wr∧Dat w.heap.size (.func (.func g) #[] lb) (.func (.func sf) #[] sb) wr ∧
  (i=a∨lt d[m]! d[i - 1]! = false)∧(j=m∨lt d[m]! d[j]! = true))
 case atStart=>exact ⟨a,m,rfl,rfl,by omega,by omega,by omega,by omega,hSW,hD,.inl rfl,.inl rfl⟩
 case round =>
  obtain ⟨i,j,rfl,rfl,hi0,hij,hj,hk,hS,hDk,he1,he2⟩:=hrel
  obtain ⟨q0,c0,c1⟩:=id hDk
  have A:Aside (SW enc w blk off d wr∧Dat w.heap.size (.func (.func g) #[] lb) (.func (.func sf) #[] sb) wr∧(i=a∨lt d[m]! d[i - 1]! = false)∧(j=m∨lt d[m]! d[j]! = true)):=⟨hS,hDk,he1,he2⟩
  by_cases hlt:i < j
  ·have hl:=Zeq hS hless rfl m ((i + j) / 2) (by omega) (by omega)
   rw [Z37] at hl
   clear hS hDk he1 he2 hSW hD hless hswap hH
   cases hlv:lt d[m]! d[(i + j) / 2]! with
   | false =>
    rw [hlv] at hl
    have V:Aside (lt d[m]! d[(i + j) / 2]! = false):=hlv
    clear hlv
    go_wp2_with (go_at_fn g; refine hl.mono ?_; rintro e w' ⟨rfl,hG⟩)
    go_roundg (j - ((i + j) / 2 + 1))
    case measure=>omega
    case rel =>
     obtain ⟨hS,hDk,he1,he2⟩:=A.out
     exact ⟨(i + j) / 2 + 1,j,by congr 1,rfl,by omega,by omega,by omega,by omega,Z86 hS hG,hDk.grew hG,.inr V.out,he2⟩
   | true =>
    rw [hlv] at hl
    have V:Aside (lt d[m]! d[(i + j) / 2]! = true):=hlv
    clear hlv
    go_wp2_with (go_at_fn g; refine hl.mono ?_; rintro e w' ⟨rfl,hG⟩)
    go_roundg ((i + j) / 2 - i)
    case measure=>omega
    case rel =>
     obtain ⟨hS,hDk,he1,he2⟩:=A.out
     exact ⟨i,(i + j) / 2,rfl,by congr 1,by omega,by omega,by omega,by omega,Z86 hS hG,hDk.grew hG,he1,.inr V.out⟩
  ·have hje:j=i:=by omega
   subst hje
   clear hS hDk he1 he2 hSW hD hless
   go_wp2
   go_loopg [15] (m - j) (fun k s11 wr2=>∃ (x:Nat) (dk:Array α),s11=.int .i64 x∧x≤m∧j≤x∧x - j≤k∧SW enc w blk off dk wr2∧Dat w.heap.size (.func (.func g) #[] lb) (.func (.func sf) #[] sb) wr2∧Rot d x m (m + 1) dk∧PermIn a b d dk)
   case atStart =>
    obtain ⟨hS,hDk,he1,he2⟩:=A.out
    exact ⟨m,d,rfl,by omega,by omega,by omega,hS,hDk,Rot.none (by omega) (.inl rfl),permIn_refl _ _ _⟩
   case round =>
    obtain ⟨x,dk,rfl,hx0,hx1,hxk,hS2,hD2,hR,hP⟩:=hrel
    have hds:dk.size=d.size:=hP.1
    obtain ⟨q2,c2,c3⟩:=id hD2
    by_cases hlt2:j < x
    ·have hs:=hswap wr dk (hS2.holds hblk hH hds) hds x (x - 1) (by omega) (by omega)
     rw [show (((x - 1:Nat):Int))=(x:Int) - 1 by omega] at hs
     have B:Aside (SW enc w blk off dk wr∧Dat w.heap.size (.func (.func g) #[] lb) (.func (.func sf) #[] sb) wr∧Rot d x m (m + 1) dk∧PermIn a b d dk∧dk.size=d.size):=⟨hS2,hD2,hR,hP,hds⟩
     clear hS2 hD2 hR hP hds hswap hH c0 c1 q0
     go_wp2
     go_roundg (x - 1 - j)
     case measure=>omega
     case rel =>
      obtain ⟨hS2,hD2,hR,hP,hds⟩:=B.out
      exact ⟨x - 1,swp dk x (x - 1),by congr 1; omega,by omega,by omega,by omega,hS2.swap hblk x (x - 1) (by omega) (by omega),(hD2.set _ _ hne).set _ _ hne,
       hR.down (by omega) (by omega) (by omega),permIn_trans _ _ _ _ _ hP (swp_permIn _ _ _ _ _ (by omega) (by omega) (by omega) (by omega) (by omega))⟩
    ·go_wp2
     refine bodyPost_ret (results_none rfl _ _ _) rfl ?_
     obtain ⟨hS,hDk,he1,he2⟩:=A.out
     obtain ⟨n,os,e'⟩:=hS2
     obtain rfl:=M.out
     have:x=j:=by omega
     subst this
     exact ⟨rfl,n,os,dk,e',Zs7 hO hR hP (by omega) he1 he2⟩
end Go.Proofs.YtgcoidbaoigkeaaGreatDoor.stab
namespace Go.Proofs.YtgcoidbaoigkeaaGreatDoor.stab
open Go.Shelf Go.RowKit Go.Lib Go.Sort
variable {P:Program} {ρ:Ren} {α:Type} [Inhabited α]
set_option maxHeartbeats 6400000 in
set_option maxRecDepth 1000000 in
theorem Zva (L:LaysGt.n30 P ρ) (enc:α→Value) (lt:α→α→Bool) (hO:SWO lt) (g:Nat) (lb:Array Value) (sf:Nat) (sb:Array Value) (blk off:Nat)
  (eg:∀ args w,(callFunc g args).run P w=.ok (.enter g args) w) (a m b:Nat) (d:Array α) (w:World) (hless:Zc7 P g lb enc lt blk off d.size w) (hswap:SwapSwaps P sf sb enc blk off d.size)
  (hH:Holds enc w blk off d) (hblk:blk < w.heap.size) (ham:a + 1 < m) (hmb:m + 1 < b) (hb:b≤d.size) (hsz:d.size < 4611686018427387904) (hcase:m≤(a + b) / 2)
  (ih:∀ (a' m' b':Nat) (d':Array α) (w':World),b' - a' < b - a→Zc7 P g lb enc lt blk off d'.size w'→SwapSwaps P sf sb enc blk off d'.size→Holds enc w' blk off d'→blk < w'.heap.size→a' < m'→m' < b'→b'≤d'.size→d'.size < 4611686018427387904 →
   Calls P (ρ.f 30) #[.agg #[.func (.func g) #[] lb,.func (.func sf) #[] sb],.int .i64 a',.int .i64 m',.int .i64 b'] w' fun e w''=>e=.returned (.tuple #[])∧∃ n os d'',w''=Zk enc w' blk off n d'' os∧Z1i lt a' m' b' d' d'') :
  Calls P (ρ.f 30) #[.agg #[.func (.func g) #[] lb,.func (.func sf) #[] sb],.int .i64 a,.int .i64 m,.int .i64 b] w fun e w'=>e=.returned (.tuple #[])∧∃ n os d',w'=Zk enc w blk off n d' os∧Z1i lt a m b d d':=by
 have mixed:=L.mixed; have t0:=L.t0; have a0:=L.a0; have z0:=L.z0; have v0:=L.v0; have t3:=L.t3; have a3:=L.a3; have z3:=L.z3; have v3:=L.v3; have t4:=L.t4; have a4:=L.a4; have z4:=L.z4; have v4:=L.v4; have t26:=L.t26; have a26:=L.a26; have z26:=L.z26; have v26:=L.v26; have t38:=L.t38; have a38:=L.a38; have z38:=L.z38; have v38:=L.v38; have t42:=L.t42; have a42:=L.a42; have z42:=L.z42; have v42:=L.v42; have t47:=L.t47; have a47:=L.a47; have z47:=L.z47; have v47:=L.v47
 have u42:=run_underlying L.t42
 have e30:∀ args w,(callFunc (ρ.f 30) args).run P w=.ok (.enter (ρ.f 30) args) w:=enters_of L.f30 (by kernel_rfl) rfl
 have e42:∀ args w,(callFunc (ρ.f 42) args).run P w=.ok (.enter (ρ.f 42) args) w:=enters_of L.f42 (by kernel_rfl) rfl
 have LR:LaysGt.n42 P ρ:={ L with }
 have hSW:=(SW.start hH).alloc (.cells #[.func (.func g) #[] lb,.func (.func sf) #[] sb] (ρ.t 42))
 have hD:=Dat.start w (.func (.func g) #[] lb) (.func (.func sf) #[] sb) (ρ.t 42)
 have hne:blk ≠ w.heap.size:=by omega
 have sub:∀ (a' m' b':Nat) (dk:Array α) (W:World),SW enc w blk off dk W→dk.size=d.size→b' - a' < b - a→a' < m'→m' < b'→b'≤d.size →
   Calls P (ρ.f 30) #[.agg #[.func (.func g) #[] lb,.func (.func sf) #[] sb],.int .i64 a',.int .i64 m',.int .i64 b'] W fun e w''=>e=.returned (.tuple #[])∧∃ d'',SW enc w blk off d'' w''∧(Dat w.heap.size (.func (.func g) #[] lb) (.func (.func sf) #[] sb) W→Dat w.heap.size (.func (.func g) #[] lb) (.func (.func sf) #[] sb) w'')∧d''.size=d.size∧Z1i lt a' m' b' dk d'':=fun a' m' b' dk W hS hs h1 h2 h3 h4 =>
  (ih a' m' b' dk W h1 (Zp3 hS (by rw [hs]; exact hless) hblk rfl) (by rw [hs]; exact hswap) (hS.holds hblk hH hs) (hS.lt hblk) h2 h3 (by omega) (by omega)).mono fun _ _ ⟨he,n,os,d'',hw,hM⟩ =>
   have hz:d''.size=dk.size:=hM.1.1
   ⟨he,d'',by rw [hw]; exact hS.on hblk n d'' os hz,fun h=>by rw [hw]; exact h.on enc blk off n d'' os (Ne.symm hne),hz.trans hs,hM⟩
 have rot:∀ (s e:Nat) (W:World),SW enc w blk off d W→s < m→m < e→e≤d.size →
   Calls P (ρ.f 42) #[.agg #[.func (.func g) #[] lb,.func (.func sf) #[] sb],.int .i64 s,.int .i64 m,.int .i64 e] W fun e' w''=>e'=.returned (.tuple #[])∧∃ d'',SW enc w blk off d'' w''∧(Dat w.heap.size (.func (.func g) #[] lb) (.func (.func sf) #[] sb) W→Dat w.heap.size (.func (.func g) #[] lb) (.func (.func sf) #[] sb) w'')∧d''.size=d.size∧Rot d s m e d''∧PermIn s e d d'':=fun s e W hS h1 h2 h3 =>
  (Zv8 LR enc (.func g) #[] lb sf sb blk off s m e d W hswap (hS.holds hblk hH rfl) (hS.lt hblk) h1 h2 h3 hsz).mono fun _ _ ⟨he,n,os,d'',hw,hR,hP⟩ =>
   ⟨he,d'',by rw [hw]; exact hS.on hblk n d'' os hP.1,fun h=>by rw [hw]; exact h.on enc blk off n d'' os (Ne.symm hne),hP.1,hR,hP⟩
 have h1:¬ (m:Int) - a=1:=by omega
 have h2:((m:Int) - a == 1)=false:=by simp only [beq_eq_false_iff_ne,ne_eq]; exact h1
 have h3:¬ (b:Int) - m=1:=by omega
 have h4:((b:Int) - m == 1)=false:=by simp only [beq_eq_false_iff_ne,ne_eq]; exact h3
 have h5:(m:Int)≤((a:Int) + b) / 2:=by omega
 have K:Aside ((∀ (a' m' b':Nat) (dk:Array α) (W:World),SW enc w blk off dk W→dk.size=d.size→b' - a' < b - a→a' < m'→m' < b'→b'≤d.size →
   Calls P (ρ.f 30) #[.agg #[.func (.func g) #[] lb,.func (.func sf) #[] sb],.int .i64 a',.int .i64 m',.int .i64 b'] W fun e w''=>e=.returned (.tuple #[])∧∃ d'',SW enc w blk off d'' w''∧(Dat w.heap.size (.func (.func g) #[] lb) (.func (.func sf) #[] sb) W→Dat w.heap.size (.func (.func g) #[] lb) (.func (.func sf) #[] sb) w'')∧d''.size=d.size∧Z1i lt a' m' b' dk d'') ∧
  (∀ (s e:Nat) (W:World),SW enc w blk off d W→s < m→m < e→e≤d.size →
   Calls P (ρ.f 42) #[.agg #[.func (.func g) #[] lb,.func (.func sf) #[] sb],.int .i64 s,.int .i64 m,.int .i64 e] W fun e' w''=>e'=.returned (.tuple #[])∧∃ d'',SW enc w blk off d'' w''∧(Dat w.heap.size (.func (.func g) #[] lb) (.func (.func sf) #[] sb) W→Dat w.heap.size (.func (.func g) #[] lb) (.func (.func sf) #[] sb) w'')∧d''.size=d.size∧Rot d s m e d''∧PermIn s e d d'') ∧
  Zc7 P g lb enc lt blk off d.size w):=⟨sub,rot,hless⟩
 clear sub rot ih hless hswap hH
 go_enter L.f30,BodyGt.n30_ntmps ρ
 go_wp2
 go_loopg [18,19] (b - a) (fun k s8 s9 wr=>∃ (s r:Nat),s8=.int .i64 s∧s9=.int .i64 r∧a≤s∧s≤r∧r≤m∧r - s≤k∧SW enc w blk off d wr∧Dat w.heap.size (.func (.func g) #[] lb) (.func (.func sf) #[] sb) wr ∧
  (s=a∨lt d[(a + b) / 2 + m - s]! d[s - 1]! = false)∧(r=m∨lt d[(a + b) / 2 + m - 1 - r]! d[r]! = true))
 case atStart=>exact ⟨a,m,by first | rfl | (congr 1; omega),by first | rfl | (congr 1; omega),by omega,by omega,by omega,by omega,hSW,hD,.inl rfl,.inl rfl⟩
 case round =>
  obtain ⟨s,r,rfl,rfl,hs0,hsr,hr0,hk,hS,hDk,he1,he2⟩:=hrel
  obtain ⟨q0,c0,c1⟩:=id hDk
  obtain ⟨sub,rot,hless⟩:=K.out
  have A:Aside (SW enc w blk off d wr∧Dat w.heap.size (.func (.func g) #[] lb) (.func (.func sf) #[] sb) wr∧(s=a∨lt d[(a + b) / 2 + m - s]! d[s - 1]! = false)∧(r=m∨lt d[(a + b) / 2 + m - 1 - r]! d[r]! = true)):=⟨hS,hDk,he1,he2⟩
  by_cases hlt:s < r
  ·have hl:=Zeq hS hless rfl ((a + b) / 2 + m - 1 - (s + r) / 2) ((s + r) / 2) (by omega) (by omega)
   rw [Z37 s r,show (((a + b) / 2 + m - 1 - (s + r) / 2:Nat):Int)=((a:Int) + b) / 2 + m - 1 - ((s:Int) + r) / 2 by omega] at hl
   clear hS hDk he1 he2 hSW hD hless sub rot
   cases hlv:lt d[(a + b) / 2 + m - 1 - (s + r) / 2]! d[(s + r) / 2]! with
   | false =>
    rw [hlv] at hl
    have V:Aside (lt d[(a + b) / 2 + m - 1 - (s + r) / 2]! d[(s + r) / 2]! = false):=hlv
    clear hlv
    go_wp2_with (go_at_fn g; refine hl.mono ?_; rintro e w' ⟨rfl,hG⟩)
    go_roundg (r - ((s + r) / 2 + 1))
    case measure=>omega
    case rel =>
     obtain ⟨hS,hDk,he1,he2⟩:=A.out
     exact ⟨(s + r) / 2 + 1,r,by congr 1,rfl,by omega,by omega,by omega,by omega,Z86 hS hG,hDk.grew hG,.inr (by
      rw [show (a + b) / 2 + m - ((s + r) / 2 + 1)=(a + b) / 2 + m - 1 - (s + r) / 2 by omega]
      exact V.out),he2⟩
   | true =>
    rw [hlv] at hl
    have V:Aside (lt d[(a + b) / 2 + m - 1 - (s + r) / 2]! d[(s + r) / 2]! = true):=hlv
    clear hlv
    go_wp2_with (go_at_fn g; refine hl.mono ?_; rintro e w' ⟨rfl,hG⟩)
    go_roundg ((s + r) / 2 - s)
    case measure=>omega
    case rel =>
     obtain ⟨hS,hDk,he1,he2⟩:=A.out
     exact ⟨s,(s + r) / 2,rfl,by congr 1,by omega,by omega,by omega,by omega,Z86 hS hG,hDk.grew hG,he1,.inr V.out⟩
  ·have hrs:r=s:=by omega
   subst hrs
   obtain ⟨e,he⟩:∃ e:Nat,e=(a + b) / 2 + m - r:=⟨_,rfl⟩
   obtain ⟨mid,hmid⟩:∃ mid:Nat,mid=(a + b) / 2:=⟨_,rfl⟩
   have heI:(e:Int)=((a:Int) + b) / 2 + m - r:=by omega
   have hmI:(mid:Int)=((a:Int) + b) / 2:=by omega
   have hlo:r=a∨e=b∨lt d[e]! d[r - 1]! = false:=by
    rcases he1 with h | h
    ·omega
    ·exact .inr (.inr (by rw [he]; exact h))
   have hhi:r=m∨e=m∨lt d[e - 1]! d[r]! = true:=by
    rcases he2 with h | h
    ·omega
    ·exact .inr (.inr (by rw [he,show (a + b) / 2 + m - r - 1=(a + b) / 2 + m - 1 - r by omega]; exact h))
   have hfin:∀ {d1 d2 d3:Array α},Rot d r m e d1→PermIn a b d d1→(Z1i lt a r mid d1 d2∨(r=a∨r=mid)∧d2=d1)→(Z1i lt mid e b d2 d3∨(e=mid∨e=b)∧d3=d2)→Z1i lt a m b d d3:=fun g1 g2 g3 g4=>Zjk hO hb g1 g2 (by omega) (by omega) hlo hhi g3 g4
   have FIN:Aside (∀ {d1 d2 d3:Array α},Rot d r m e d1→PermIn a b d d1→(Z1i lt a r mid d1 d2∨(r=a∨r=mid)∧d2=d1)→(Z1i lt mid e b d2 d3∨(e=mid∨e=b)∧d3=d2)→Z1i lt a m b d d3):=hfin
   have E:Aside (e=(a + b) / 2 + m - r∧mid=(a + b) / 2∧(e:Int)=((a:Int) + b) / 2 + m - r∧(mid:Int)=((a:Int) + b) / 2):=⟨he,hmid,heI,hmI⟩
   clear hlo hhi hfin hSW hD he1 he2 hless
   by_cases c1:r < m
   ·by_cases c3:a < r
    ·by_cases c6:e < b
     ·obtain ⟨he,hmid,heI,hmI⟩:=E.out
      have hc1:=rot r e wr hS (by omega) (by omega) (by omega)
      rw [heI] at hc1
      have B0:Aside (SW enc w blk off d wr∧Dat w.heap.size (.func (.func g) #[] lb) (.func (.func sf) #[] sb) wr):=⟨hS,hDk⟩
      clear hS hDk rot sub he hmid heI hmI
      go_wp2_with (go_at_fn (ρ.f 42); refine hc1.mono ?_; rintro x1 w1 ⟨rfl,d1,hS1,hT1,hz1,hR,hQ⟩; have hD1:=hT1 (B0.out).2; have B1:Aside (SW enc w blk off d1 w1∧Dat w.heap.size (.func (.func g) #[] lb) (.func (.func sf) #[] sb) w1):=⟨hS1,hD1⟩; obtain ⟨q1,k1,l1⟩:=hD1; clear hS1 hT1 hc1; have M1:Aside (Rot d r m e d1∧PermIn r e d d1∧d1.size=d.size):=⟨hR,hQ,hz1⟩; clear hR hQ; have hc2:=(K.out).1 a r mid d1 w1 (B1.out).1 hz1 (by have:=E.out; omega) (by omega) (by have:=E.out; omega) (by have:=E.out; omega); rw [(E.out).2.2.2] at hc2; clear hz1)
      go_wp2_with (go_at_fn (ρ.f 30); refine hc2.mono ?_; rintro x2 w2 ⟨rfl,d2,hS2,hT2,hz2,hM2⟩; have hD2:=hT2 (B1.out).2; have B2:Aside (SW enc w blk off d2 w2∧Dat w.heap.size (.func (.func g) #[] lb) (.func (.func sf) #[] sb) w2):=⟨hS2,hD2⟩; obtain ⟨q2,k2,l2⟩:=hD2; clear hS2 hT2 hc2; have M2:Aside (Z1i lt a r mid d1 d2∧d2.size=d.size):=⟨hM2,hz2⟩; clear hM2; have hc3:=(K.out).1 mid e b d2 w2 (B2.out).1 hz2 (by have:=E.out; omega) (by have:=E.out; omega) (by have:=E.out; omega) (by omega); rw [(E.out).2.2.2,(E.out).2.2.1] at hc3; clear hz2)
      go_wp2_with (go_at_fn (ρ.f 30); refine hc3.mono ?_; rintro x3 w3 ⟨rfl,d3,hS3,hT3,hz3,hM3⟩; have hD3:=hT3 (B2.out).2; have B3:Aside (SW enc w blk off d3 w3∧Dat w.heap.size (.func (.func g) #[] lb) (.func (.func sf) #[] sb) w3):=⟨hS3,hD3⟩; obtain ⟨q3,k3,l3⟩:=hD3; clear hS3 hT3 hc3; have M3:Aside (Z1i lt mid e b d2 d3∧d3.size=d.size):=⟨hM3,hz3⟩; clear hM3; clear hz3)
      go_end0
      obtain ⟨he,hmid,heI,hmI⟩:=E.out
      obtain ⟨n,os,e'⟩:=(B3.out).1
      exact ⟨rfl,n,os,d3,e',FIN.out (M1.out).1 (permIn_mono _ _ _ _ _ _ (by omega) (by omega) (by omega) (M1.out).2.1) (.inl (M2.out).1) (.inl (M3.out).1)⟩
     ·exfalso; omega
    ·by_cases c6:e < b
     ·obtain ⟨he,hmid,heI,hmI⟩:=E.out
      have hc1:=rot r e wr hS (by omega) (by omega) (by omega)
      rw [heI] at hc1
      have B0:Aside (SW enc w blk off d wr∧Dat w.heap.size (.func (.func g) #[] lb) (.func (.func sf) #[] sb) wr):=⟨hS,hDk⟩
      clear hS hDk rot sub he hmid heI hmI
      go_wp2_with (go_at_fn (ρ.f 42); refine hc1.mono ?_; rintro x1 w1 ⟨rfl,d1,hS1,hT1,hz1,hR,hQ⟩; have hD1:=hT1 (B0.out).2; have B1:Aside (SW enc w blk off d1 w1∧Dat w.heap.size (.func (.func g) #[] lb) (.func (.func sf) #[] sb) w1):=⟨hS1,hD1⟩; obtain ⟨q1,k1,l1⟩:=hD1; clear hS1 hT1 hc1; have M1:Aside (Rot d r m e d1∧PermIn r e d d1∧d1.size=d.size):=⟨hR,hQ,hz1⟩; clear hR hQ; have hc2:=(K.out).1 mid e b d1 w1 (B1.out).1 hz1 (by have:=E.out; omega) (by have:=E.out; omega) (by have:=E.out; omega) (by omega); rw [(E.out).2.2.2,(E.out).2.2.1] at hc2; clear hz1)
      go_wp2_with (go_at_fn (ρ.f 30); refine hc2.mono ?_; rintro x2 w2 ⟨rfl,d2,hS2,hT2,hz2,hM2⟩; have hD2:=hT2 (B1.out).2; have B2:Aside (SW enc w blk off d2 w2∧Dat w.heap.size (.func (.func g) #[] lb) (.func (.func sf) #[] sb) w2):=⟨hS2,hD2⟩; obtain ⟨q2,k2,l2⟩:=hD2; clear hS2 hT2 hc2; have M2:Aside (Z1i lt mid e b d1 d2∧d2.size=d.size):=⟨hM2,hz2⟩; clear hM2; clear hz2)
      go_end0
      obtain ⟨he,hmid,heI,hmI⟩:=E.out
      obtain ⟨n,os,e'⟩:=(B2.out).1
      exact ⟨rfl,n,os,d2,e',FIN.out (M1.out).1 (permIn_mono _ _ _ _ _ _ (by omega) (by omega) (by omega) (M1.out).2.1) (.inr ⟨by omega,rfl⟩) (.inl (M2.out).1)⟩
     ·obtain ⟨he,hmid,heI,hmI⟩:=E.out
      have hc1:=rot r e wr hS (by omega) (by omega) (by omega)
      rw [heI] at hc1
      have B0:Aside (SW enc w blk off d wr∧Dat w.heap.size (.func (.func g) #[] lb) (.func (.func sf) #[] sb) wr):=⟨hS,hDk⟩
      clear hS hDk rot sub he hmid heI hmI
      go_wp2_with (go_at_fn (ρ.f 42); refine hc1.mono ?_; rintro x1 w1 ⟨rfl,d1,hS1,hT1,hz1,hR,hQ⟩; have hD1:=hT1 (B0.out).2; have B1:Aside (SW enc w blk off d1 w1∧Dat w.heap.size (.func (.func g) #[] lb) (.func (.func sf) #[] sb) w1):=⟨hS1,hD1⟩; obtain ⟨q1,k1,l1⟩:=hD1; clear hS1 hT1 hc1; have M1:Aside (Rot d r m e d1∧PermIn r e d d1∧d1.size=d.size):=⟨hR,hQ,hz1⟩; clear hR hQ; clear hz1)
      go_end0
      obtain ⟨he,hmid,heI,hmI⟩:=E.out
      obtain ⟨n,os,e'⟩:=(B1.out).1
      exact ⟨rfl,n,os,d1,e',FIN.out (M1.out).1 (permIn_mono _ _ _ _ _ _ (by omega) (by omega) (by omega) (M1.out).2.1) (.inr ⟨by omega,rfl⟩) (.inr ⟨by omega,rfl⟩)⟩
   ·by_cases c4:r < mid
    ·obtain ⟨he,hmid,heI,hmI⟩:=E.out
     have hc1:=sub a r mid d wr hS rfl (by omega) (by omega) (by omega) (by omega)
     rw [hmI] at hc1
     have B0:Aside (SW enc w blk off d wr∧Dat w.heap.size (.func (.func g) #[] lb) (.func (.func sf) #[] sb) wr):=⟨hS,hDk⟩
     clear hS hDk rot sub he hmid heI hmI
     go_wp2_with (go_at_fn (ρ.f 30); refine hc1.mono ?_; rintro x1 w1 ⟨rfl,d1,hS1,hT1,hz1,hM1⟩; have hD1:=hT1 (B0.out).2; have B1:Aside (SW enc w blk off d1 w1∧Dat w.heap.size (.func (.func g) #[] lb) (.func (.func sf) #[] sb) w1):=⟨hS1,hD1⟩; obtain ⟨q1,k1,l1⟩:=hD1; clear hS1 hT1 hc1; have M1:Aside (Z1i lt a r mid d d1∧d1.size=d.size):=⟨hM1,hz1⟩; clear hM1; clear hz1)
     go_end0
     obtain ⟨he,hmid,heI,hmI⟩:=E.out
     obtain ⟨n,os,e'⟩:=(B1.out).1
     exact ⟨rfl,n,os,d1,e',FIN.out (Rot.none (by omega) (by omega)) (permIn_refl _ _ _) (.inl (M1.out).1) (.inr ⟨by omega,rfl⟩)⟩
    ·obtain ⟨he,hmid,heI,hmI⟩:=E.out
     have B0:Aside (SW enc w blk off d wr∧Dat w.heap.size (.func (.func g) #[] lb) (.func (.func sf) #[] sb) wr):=⟨hS,hDk⟩
     clear hS hDk rot sub he hmid heI hmI
     go_wp2
     go_end0
     obtain ⟨he,hmid,heI,hmI⟩:=E.out
     obtain ⟨n,os,e'⟩:=(B0.out).1
     exact ⟨rfl,n,os,d,e',FIN.out (Rot.none (by omega) (by omega)) (permIn_refl _ _ _) (.inr ⟨by omega,rfl⟩) (.inr ⟨by omega,rfl⟩)⟩
set_option maxHeartbeats 6400000 in
set_option maxRecDepth 1000000 in
theorem Zvb (L:LaysGt.n30 P ρ) (enc:α→Value) (lt:α→α→Bool) (hO:SWO lt) (g:Nat) (lb:Array Value) (sf:Nat) (sb:Array Value) (blk off:Nat)
  (eg:∀ args w,(callFunc g args).run P w=.ok (.enter g args) w) (a m b:Nat) (d:Array α) (w:World) (hless:Zc7 P g lb enc lt blk off d.size w) (hswap:SwapSwaps P sf sb enc blk off d.size)
  (hH:Holds enc w blk off d) (hblk:blk < w.heap.size) (ham:a + 1 < m) (hmb:m + 1 < b) (hb:b≤d.size) (hsz:d.size < 4611686018427387904) (hcase:(a + b) / 2 < m)
  (ih:∀ (a' m' b':Nat) (d':Array α) (w':World),b' - a' < b - a→Zc7 P g lb enc lt blk off d'.size w'→SwapSwaps P sf sb enc blk off d'.size→Holds enc w' blk off d'→blk < w'.heap.size→a' < m'→m' < b'→b'≤d'.size→d'.size < 4611686018427387904 →
   Calls P (ρ.f 30) #[.agg #[.func (.func g) #[] lb,.func (.func sf) #[] sb],.int .i64 a',.int .i64 m',.int .i64 b'] w' fun e w''=>e=.returned (.tuple #[])∧∃ n os d'',w''=Zk enc w' blk off n d'' os∧Z1i lt a' m' b' d' d'') :
  Calls P (ρ.f 30) #[.agg #[.func (.func g) #[] lb,.func (.func sf) #[] sb],.int .i64 a,.int .i64 m,.int .i64 b] w fun e w'=>e=.returned (.tuple #[])∧∃ n os d',w'=Zk enc w blk off n d' os∧Z1i lt a m b d d':=by
 have mixed:=L.mixed; have t0:=L.t0; have a0:=L.a0; have z0:=L.z0; have v0:=L.v0; have t3:=L.t3; have a3:=L.a3; have z3:=L.z3; have v3:=L.v3; have t4:=L.t4; have a4:=L.a4; have z4:=L.z4; have v4:=L.v4; have t26:=L.t26; have a26:=L.a26; have z26:=L.z26; have v26:=L.v26; have t38:=L.t38; have a38:=L.a38; have z38:=L.z38; have v38:=L.v38; have t42:=L.t42; have a42:=L.a42; have z42:=L.z42; have v42:=L.v42; have t47:=L.t47; have a47:=L.a47; have z47:=L.z47; have v47:=L.v47
 have u42:=run_underlying L.t42
 have e30:∀ args w,(callFunc (ρ.f 30) args).run P w=.ok (.enter (ρ.f 30) args) w:=enters_of L.f30 (by kernel_rfl) rfl
 have e42:∀ args w,(callFunc (ρ.f 42) args).run P w=.ok (.enter (ρ.f 42) args) w:=enters_of L.f42 (by kernel_rfl) rfl
 have LR:LaysGt.n42 P ρ:={ L with }
 have hSW:=(SW.start hH).alloc (.cells #[.func (.func g) #[] lb,.func (.func sf) #[] sb] (ρ.t 42))
 have hD:=Dat.start w (.func (.func g) #[] lb) (.func (.func sf) #[] sb) (ρ.t 42)
 have hne:blk ≠ w.heap.size:=by omega
 have sub:∀ (a' m' b':Nat) (dk:Array α) (W:World),SW enc w blk off dk W→dk.size=d.size→b' - a' < b - a→a' < m'→m' < b'→b'≤d.size →
   Calls P (ρ.f 30) #[.agg #[.func (.func g) #[] lb,.func (.func sf) #[] sb],.int .i64 a',.int .i64 m',.int .i64 b'] W fun e w''=>e=.returned (.tuple #[])∧∃ d'',SW enc w blk off d'' w''∧(Dat w.heap.size (.func (.func g) #[] lb) (.func (.func sf) #[] sb) W→Dat w.heap.size (.func (.func g) #[] lb) (.func (.func sf) #[] sb) w'')∧d''.size=d.size∧Z1i lt a' m' b' dk d'':=fun a' m' b' dk W hS hs h1 h2 h3 h4 =>
  (ih a' m' b' dk W h1 (Zp3 hS (by rw [hs]; exact hless) hblk rfl) (by rw [hs]; exact hswap) (hS.holds hblk hH hs) (hS.lt hblk) h2 h3 (by omega) (by omega)).mono fun _ _ ⟨he,n,os,d'',hw,hM⟩ =>
   have hz:d''.size=dk.size:=hM.1.1
   ⟨he,d'',by rw [hw]; exact hS.on hblk n d'' os hz,fun h=>by rw [hw]; exact h.on enc blk off n d'' os (Ne.symm hne),hz.trans hs,hM⟩
 have rot:∀ (s e:Nat) (W:World),SW enc w blk off d W→s < m→m < e→e≤d.size →
   Calls P (ρ.f 42) #[.agg #[.func (.func g) #[] lb,.func (.func sf) #[] sb],.int .i64 s,.int .i64 m,.int .i64 e] W fun e' w''=>e'=.returned (.tuple #[])∧∃ d'',SW enc w blk off d'' w''∧(Dat w.heap.size (.func (.func g) #[] lb) (.func (.func sf) #[] sb) W→Dat w.heap.size (.func (.func g) #[] lb) (.func (.func sf) #[] sb) w'')∧d''.size=d.size∧Rot d s m e d''∧PermIn s e d d'':=fun s e W hS h1 h2 h3 =>
  (Zv8 LR enc (.func g) #[] lb sf sb blk off s m e d W hswap (hS.holds hblk hH rfl) (hS.lt hblk) h1 h2 h3 hsz).mono fun _ _ ⟨he,n,os,d'',hw,hR,hP⟩ =>
   ⟨he,d'',by rw [hw]; exact hS.on hblk n d'' os hP.1,fun h=>by rw [hw]; exact h.on enc blk off n d'' os (Ne.symm hne),hP.1,hR,hP⟩
 have h1:¬ (m:Int) - a=1:=by omega
 have h2:((m:Int) - a == 1)=false:=by simp only [beq_eq_false_iff_ne,ne_eq]; exact h1
 have h3:¬ (b:Int) - m=1:=by omega
 have h4:((b:Int) - m == 1)=false:=by simp only [beq_eq_false_iff_ne,ne_eq]; exact h3
 have h5:((a:Int) + b) / 2 < m:=by omega
 have h6:decide (((a:Int) + b) / 2 < (m:Int))=true:=decide_eq_true h5
 have h7:decide ((m:Int) > ((a:Int) + b) / 2)=true:=decide_eq_true h5
 have K:Aside ((∀ (a' m' b':Nat) (dk:Array α) (W:World),SW enc w blk off dk W→dk.size=d.size→b' - a' < b - a→a' < m'→m' < b'→b'≤d.size →
   Calls P (ρ.f 30) #[.agg #[.func (.func g) #[] lb,.func (.func sf) #[] sb],.int .i64 a',.int .i64 m',.int .i64 b'] W fun e w''=>e=.returned (.tuple #[])∧∃ d'',SW enc w blk off d'' w''∧(Dat w.heap.size (.func (.func g) #[] lb) (.func (.func sf) #[] sb) W→Dat w.heap.size (.func (.func g) #[] lb) (.func (.func sf) #[] sb) w'')∧d''.size=d.size∧Z1i lt a' m' b' dk d'') ∧
  (∀ (s e:Nat) (W:World),SW enc w blk off d W→s < m→m < e→e≤d.size →
   Calls P (ρ.f 42) #[.agg #[.func (.func g) #[] lb,.func (.func sf) #[] sb],.int .i64 s,.int .i64 m,.int .i64 e] W fun e' w''=>e'=.returned (.tuple #[])∧∃ d'',SW enc w blk off d'' w''∧(Dat w.heap.size (.func (.func g) #[] lb) (.func (.func sf) #[] sb) W→Dat w.heap.size (.func (.func g) #[] lb) (.func (.func sf) #[] sb) w'')∧d''.size=d.size∧Rot d s m e d''∧PermIn s e d d'') ∧
  Zc7 P g lb enc lt blk off d.size w):=⟨sub,rot,hless⟩
 clear sub rot ih hless hswap hH
 go_enter L.f30,BodyGt.n30_ntmps ρ
 go_wp2
 go_loopg [18,19] (b - a) (fun k s8 s9 wr=>∃ (s r:Nat),s8=.int .i64 s∧s9=.int .i64 r∧(a + b) / 2 + m - b≤s∧s≤r∧r≤(a + b) / 2∧r - s≤k∧SW enc w blk off d wr∧Dat w.heap.size (.func (.func g) #[] lb) (.func (.func sf) #[] sb) wr ∧
  (s=(a + b) / 2 + m - b∨lt d[(a + b) / 2 + m - s]! d[s - 1]! = false)∧(r=(a + b) / 2∨lt d[(a + b) / 2 + m - 1 - r]! d[r]! = true))
 case atStart=>exact ⟨(a + b) / 2 + m - b,(a + b) / 2,by first | rfl | (congr 1; omega),by first | rfl | (congr 1; omega),by omega,by omega,by omega,by omega,hSW,hD,.inl rfl,.inl rfl⟩
 case round =>
  obtain ⟨s,r,rfl,rfl,hs0,hsr,hr0,hk,hS,hDk,he1,he2⟩:=hrel
  obtain ⟨q0,c0,c1⟩:=id hDk
  obtain ⟨sub,rot,hless⟩:=K.out
  have A:Aside (SW enc w blk off d wr∧Dat w.heap.size (.func (.func g) #[] lb) (.func (.func sf) #[] sb) wr∧(s=(a + b) / 2 + m - b∨lt d[(a + b) / 2 + m - s]! d[s - 1]! = false)∧(r=(a + b) / 2∨lt d[(a + b) / 2 + m - 1 - r]! d[r]! = true)):=⟨hS,hDk,he1,he2⟩
  by_cases hlt:s < r
  ·have hl:=Zeq hS hless rfl ((a + b) / 2 + m - 1 - (s + r) / 2) ((s + r) / 2) (by omega) (by omega)
   rw [Z37 s r,show (((a + b) / 2 + m - 1 - (s + r) / 2:Nat):Int)=((a:Int) + b) / 2 + m - 1 - ((s:Int) + r) / 2 by omega] at hl
   clear hS hDk he1 he2 hSW hD hless sub rot
   cases hlv:lt d[(a + b) / 2 + m - 1 - (s + r) / 2]! d[(s + r) / 2]! with
   | false =>
    rw [hlv] at hl
    have V:Aside (lt d[(a + b) / 2 + m - 1 - (s + r) / 2]! d[(s + r) / 2]! = false):=hlv
    clear hlv
    go_wp2_with (go_at_fn g; refine hl.mono ?_; rintro e w' ⟨rfl,hG⟩)
    go_roundg (r - ((s + r) / 2 + 1))
    case measure=>omega
    case rel =>
     obtain ⟨hS,hDk,he1,he2⟩:=A.out
     exact ⟨(s + r) / 2 + 1,r,by congr 1,rfl,by omega,by omega,by omega,by omega,Z86 hS hG,hDk.grew hG,.inr (by
      rw [show (a + b) / 2 + m - ((s + r) / 2 + 1)=(a + b) / 2 + m - 1 - (s + r) / 2 by omega]
      exact V.out),he2⟩
   | true =>
    rw [hlv] at hl
    have V:Aside (lt d[(a + b) / 2 + m - 1 - (s + r) / 2]! d[(s + r) / 2]! = true):=hlv
    clear hlv
    go_wp2_with (go_at_fn g; refine hl.mono ?_; rintro e w' ⟨rfl,hG⟩)
    go_roundg ((s + r) / 2 - s)
    case measure=>omega
    case rel =>
     obtain ⟨hS,hDk,he1,he2⟩:=A.out
     exact ⟨s,(s + r) / 2,rfl,by congr 1,by omega,by omega,by omega,by omega,Z86 hS hG,hDk.grew hG,he1,.inr V.out⟩
  ·have hrs:r=s:=by omega
   subst hrs
   obtain ⟨e,he⟩:∃ e:Nat,e=(a + b) / 2 + m - r:=⟨_,rfl⟩
   obtain ⟨mid,hmid⟩:∃ mid:Nat,mid=(a + b) / 2:=⟨_,rfl⟩
   have heI:(e:Int)=((a:Int) + b) / 2 + m - r:=by omega
   have hmI:(mid:Int)=((a:Int) + b) / 2:=by omega
   have hlo:r=a∨e=b∨lt d[e]! d[r - 1]! = false:=by
    rcases he1 with h | h
    ·omega
    ·exact .inr (.inr (by rw [he]; exact h))
   have hhi:r=m∨e=m∨lt d[e - 1]! d[r]! = true:=by
    rcases he2 with h | h
    ·omega
    ·exact .inr (.inr (by rw [he,show (a + b) / 2 + m - r - 1=(a + b) / 2 + m - 1 - r by omega]; exact h))
   have hfin:∀ {d1 d2 d3:Array α},Rot d r m e d1→PermIn a b d d1→(Z1i lt a r mid d1 d2∨(r=a∨r=mid)∧d2=d1)→(Z1i lt mid e b d2 d3∨(e=mid∨e=b)∧d3=d2)→Z1i lt a m b d d3:=fun g1 g2 g3 g4=>Zjk hO hb g1 g2 (by omega) (by omega) hlo hhi g3 g4
   have FIN:Aside (∀ {d1 d2 d3:Array α},Rot d r m e d1→PermIn a b d d1→(Z1i lt a r mid d1 d2∨(r=a∨r=mid)∧d2=d1)→(Z1i lt mid e b d2 d3∨(e=mid∨e=b)∧d3=d2)→Z1i lt a m b d d3):=hfin
   have E:Aside (e=(a + b) / 2 + m - r∧mid=(a + b) / 2∧(e:Int)=((a:Int) + b) / 2 + m - r∧(mid:Int)=((a:Int) + b) / 2):=⟨he,hmid,heI,hmI⟩
   clear hlo hhi hfin hSW hD he1 he2 hless
   by_cases c2:m < e
   ·by_cases c3:a < r
    ·by_cases c6:e < b
     ·obtain ⟨he,hmid,heI,hmI⟩:=E.out
      have hc1:=rot r e wr hS (by omega) (by omega) (by omega)
      rw [heI] at hc1
      have B0:Aside (SW enc w blk off d wr∧Dat w.heap.size (.func (.func g) #[] lb) (.func (.func sf) #[] sb) wr):=⟨hS,hDk⟩
      clear hS hDk rot sub he hmid heI hmI
      go_wp2_with (go_at_fn (ρ.f 42); refine hc1.mono ?_; rintro x1 w1 ⟨rfl,d1,hS1,hT1,hz1,hR,hQ⟩; have hD1:=hT1 (B0.out).2; have B1:Aside (SW enc w blk off d1 w1∧Dat w.heap.size (.func (.func g) #[] lb) (.func (.func sf) #[] sb) w1):=⟨hS1,hD1⟩; obtain ⟨q1,k1,l1⟩:=hD1; clear hS1 hT1 hc1; have M1:Aside (Rot d r m e d1∧PermIn r e d d1∧d1.size=d.size):=⟨hR,hQ,hz1⟩; clear hR hQ; have hc2:=(K.out).1 a r mid d1 w1 (B1.out).1 hz1 (by have:=E.out; omega) (by omega) (by have:=E.out; omega) (by have:=E.out; omega); rw [(E.out).2.2.2] at hc2; clear hz1)
      go_wp2_with (go_at_fn (ρ.f 30); refine hc2.mono ?_; rintro x2 w2 ⟨rfl,d2,hS2,hT2,hz2,hM2⟩; have hD2:=hT2 (B1.out).2; have B2:Aside (SW enc w blk off d2 w2∧Dat w.heap.size (.func (.func g) #[] lb) (.func (.func sf) #[] sb) w2):=⟨hS2,hD2⟩; obtain ⟨q2,k2,l2⟩:=hD2; clear hS2 hT2 hc2; have M2:Aside (Z1i lt a r mid d1 d2∧d2.size=d.size):=⟨hM2,hz2⟩; clear hM2; have hc3:=(K.out).1 mid e b d2 w2 (B2.out).1 hz2 (by have:=E.out; omega) (by have:=E.out; omega) (by have:=E.out; omega) (by omega); rw [(E.out).2.2.2,(E.out).2.2.1] at hc3; clear hz2)
      go_wp2_with (go_at_fn (ρ.f 30); refine hc3.mono ?_; rintro x3 w3 ⟨rfl,d3,hS3,hT3,hz3,hM3⟩; have hD3:=hT3 (B2.out).2; have B3:Aside (SW enc w blk off d3 w3∧Dat w.heap.size (.func (.func g) #[] lb) (.func (.func sf) #[] sb) w3):=⟨hS3,hD3⟩; obtain ⟨q3,k3,l3⟩:=hD3; clear hS3 hT3 hc3; have M3:Aside (Z1i lt mid e b d2 d3∧d3.size=d.size):=⟨hM3,hz3⟩; clear hM3; clear hz3)
      go_end0
      obtain ⟨he,hmid,heI,hmI⟩:=E.out
      obtain ⟨n,os,e'⟩:=(B3.out).1
      exact ⟨rfl,n,os,d3,e',FIN.out (M1.out).1 (permIn_mono _ _ _ _ _ _ (by omega) (by omega) (by omega) (M1.out).2.1) (.inl (M2.out).1) (.inl (M3.out).1)⟩
     ·obtain ⟨he,hmid,heI,hmI⟩:=E.out
      have hc1:=rot r e wr hS (by omega) (by omega) (by omega)
      rw [heI] at hc1
      have B0:Aside (SW enc w blk off d wr∧Dat w.heap.size (.func (.func g) #[] lb) (.func (.func sf) #[] sb) wr):=⟨hS,hDk⟩
      clear hS hDk rot sub he hmid heI hmI
      go_wp2_with (go_at_fn (ρ.f 42); refine hc1.mono ?_; rintro x1 w1 ⟨rfl,d1,hS1,hT1,hz1,hR,hQ⟩; have hD1:=hT1 (B0.out).2; have B1:Aside (SW enc w blk off d1 w1∧Dat w.heap.size (.func (.func g) #[] lb) (.func (.func sf) #[] sb) w1):=⟨hS1,hD1⟩; obtain ⟨q1,k1,l1⟩:=hD1; clear hS1 hT1 hc1; have M1:Aside (Rot d r m e d1∧PermIn r e d d1∧d1.size=d.size):=⟨hR,hQ,hz1⟩; clear hR hQ; have hc2:=(K.out).1 a r mid d1 w1 (B1.out).1 hz1 (by have:=E.out; omega) (by omega) (by have:=E.out; omega) (by have:=E.out; omega); rw [(E.out).2.2.2] at hc2; clear hz1)
      go_wp2_with (go_at_fn (ρ.f 30); refine hc2.mono ?_; rintro x2 w2 ⟨rfl,d2,hS2,hT2,hz2,hM2⟩; have hD2:=hT2 (B1.out).2; have B2:Aside (SW enc w blk off d2 w2∧Dat w.heap.size (.func (.func g) #[] lb) (.func (.func sf) #[] sb) w2):=⟨hS2,hD2⟩; obtain ⟨q2,k2,l2⟩:=hD2; clear hS2 hT2 hc2; have M2:Aside (Z1i lt a r mid d1 d2∧d2.size=d.size):=⟨hM2,hz2⟩; clear hM2; clear hz2)
      go_end0
      obtain ⟨he,hmid,heI,hmI⟩:=E.out
      obtain ⟨n,os,e'⟩:=(B2.out).1
      exact ⟨rfl,n,os,d2,e',FIN.out (M1.out).1 (permIn_mono _ _ _ _ _ _ (by omega) (by omega) (by omega) (M1.out).2.1) (.inl (M2.out).1) (.inr ⟨by omega,rfl⟩)⟩
    ·by_cases c6:e < b
     ·exfalso; omega
     ·obtain ⟨he,hmid,heI,hmI⟩:=E.out
      have hc1:=rot r e wr hS (by omega) (by omega) (by omega)
      rw [heI] at hc1
      have B0:Aside (SW enc w blk off d wr∧Dat w.heap.size (.func (.func g) #[] lb) (.func (.func sf) #[] sb) wr):=⟨hS,hDk⟩
      clear hS hDk rot sub he hmid heI hmI
      go_wp2_with (go_at_fn (ρ.f 42); refine hc1.mono ?_; rintro x1 w1 ⟨rfl,d1,hS1,hT1,hz1,hR,hQ⟩; have hD1:=hT1 (B0.out).2; have B1:Aside (SW enc w blk off d1 w1∧Dat w.heap.size (.func (.func g) #[] lb) (.func (.func sf) #[] sb) w1):=⟨hS1,hD1⟩; obtain ⟨q1,k1,l1⟩:=hD1; clear hS1 hT1 hc1; have M1:Aside (Rot d r m e d1∧PermIn r e d d1∧d1.size=d.size):=⟨hR,hQ,hz1⟩; clear hR hQ; clear hz1)
      go_end0
      obtain ⟨he,hmid,heI,hmI⟩:=E.out
      obtain ⟨n,os,e'⟩:=(B1.out).1
      exact ⟨rfl,n,os,d1,e',FIN.out (M1.out).1 (permIn_mono _ _ _ _ _ _ (by omega) (by omega) (by omega) (M1.out).2.1) (.inr ⟨by omega,rfl⟩) (.inr ⟨by omega,rfl⟩)⟩
   ·obtain ⟨he,hmid,heI,hmI⟩:=E.out
    have hc1:=sub mid e b d wr hS rfl (by omega) (by omega) (by omega) (by omega)
    rw [hmI,heI] at hc1
    have B0:Aside (SW enc w blk off d wr∧Dat w.heap.size (.func (.func g) #[] lb) (.func (.func sf) #[] sb) wr):=⟨hS,hDk⟩
    clear hS hDk rot sub he hmid heI hmI
    go_wp2_with (go_at_fn (ρ.f 30); refine hc1.mono ?_; rintro x1 w1 ⟨rfl,d1,hS1,hT1,hz1,hM1⟩; have hD1:=hT1 (B0.out).2; have B1:Aside (SW enc w blk off d1 w1∧Dat w.heap.size (.func (.func g) #[] lb) (.func (.func sf) #[] sb) w1):=⟨hS1,hD1⟩; obtain ⟨q1,k1,l1⟩:=hD1; clear hS1 hT1 hc1; have M1:Aside (Z1i lt mid e b d d1∧d1.size=d.size):=⟨hM1,hz1⟩; clear hM1; clear hz1)
    go_end0
    obtain ⟨he,hmid,heI,hmI⟩:=E.out
    obtain ⟨n,os,e'⟩:=(B1.out).1
    exact ⟨rfl,n,os,d1,e',FIN.out (Rot.none (by omega) (by omega)) (permIn_refl _ _ _) (.inr ⟨by omega,rfl⟩) (.inl (M1.out).1)⟩
end Go.Proofs.YtgcoidbaoigkeaaGreatDoor.stab
namespace Go.Proofs.YtgcoidbaoigkeaaGreatDoor.stab
open Go.Shelf Go.RowKit Go.Lib Go.Sort
variable {P:Program} {ρ:Ren} {α:Type} [Inhabited α]
end Go.Proofs.YtgcoidbaoigkeaaGreatDoor.stab
namespace Go.Proofs.YtgcoidbaoigkeaaGreatDoor.stab
open Go.Shelf Go.RowKit Go.Lib Go.Sort
variable {P:Program} {ρ:Ren} {α:Type} [Inhabited α] {lt:α→α→Bool}
def Blk (lt:α→α→Bool) (bs n:Nat) (d:Array α):Prop:=∀ q,SortedIn lt (bs * q) (min (bs * q + bs) n) d
theorem kept {d d':Array α} {a b x y:Nat} (hP:PermIn a b d d') (h:SortedIn lt x y d) (hd:y≤a∨b≤x):SortedIn lt x y d':=Z59 h fun k c1 c2=>hP.2.1 k (by omega)
end Go.Proofs.YtgcoidbaoigkeaaGreatDoor.stab
namespace Go.Proofs.YtgcoidbaoigkeaaGreatDoor.sst
open Go.Shelf Go.RowKit Go.Lib Go.Sort
open YtgcoidbaoigkeaaGreatDoor.stab (Rot Swr)
variable {α:Type} [Inhabited α]
theorem mix:Tryz.prog.follows .mixedOrders=true:=by kernel_rfl
set_option maxHeartbeats 1600000 in
set_option maxRecDepth 1000000 in
theorem Zs9 (k:Nat) (zE:∀ w,(Go.sizeOf 39).run Tryz.prog w=.ok k w) (enc:α→List Value) (fn:Value) (blk off cap a b n:Nat) (d0 d:Array α) (w0 w:World)
  (R:RowK enc k w0 blk off d0) (hS:SWK enc k w0 blk off d w) (hds:d.size=d0.size) (hab:a + n≤b) (hb:b + n≤d.size) (hsz:d.size < 4611686018427387904) :
  Calls Tryz.prog 197 #[.slice (some ⟨blk,off,none⟩) d.size cap,.int .i64 a,.int .i64 b,.int .i64 n,fn] w fun e w'=>e=.returned (.tuple #[])∧∃ d',SWK enc k w0 blk off d' w'∧Swr d a b n d'∧PermIn a (b + n) d d':=by
 have mixed:=mix; have t3:=Tryz.underlying3; have a3:=Tryz.isAgg3; have z3:=Tryz.sizeOf3; have v3:=Tryz.zeroValue3; have t4:=Tryz.underlying4; have a4:=Tryz.isAgg4
 have t22:=Tryz.underlying54; have u22:=run_underlying Tryz.underlying54; have aE:=Tryz.isAgg39
 go_enter Tryz.func197,Tryz.ntmps197
 go_wp2
 go_loopg [10] n (fun kk s8 wr=>∃ (i:Nat) (dk:Array α),s8=.int .i64 i∧i + kk=n∧SWK enc k w0 blk off dk wr∧Swr d a b i dk∧PermIn a (b + n) d dk)
 case atStart=>exact ⟨0,d,rfl,by omega,hS,Swr.start d a b,permIn_refl _ _ _⟩
 case round =>
  obtain ⟨i,dk,rfl,hk,hSk,hW,hP⟩:=hrel
  have hdk:dk.size=d.size:=hW.1
  by_cases hlt:i < n
  ·obtain ⟨A,hA⟩:∃ A:Nat,A=a + i:=⟨_,rfl⟩
   obtain ⟨B,hB⟩:∃ B:Nat,B=b + i:=⟨_,rfl⟩
   have hltz:(i:Int) < (n:Int):=by omega
   have eA:(a:Int) + (i:Int)=(A:Int):=by omega
   have eB:(b:Int) + (i:Int)=(B:Int):=by omega
   have nA:((A:Int)).toNat=A:=by omega
   have nB:((B:Int)).toNat=B:=by omega
   have wA:IntKind.i64.wrap (A:Int)=(A:Int):=by rw [IntKind.wrap_i64]; omega
   have wB:IntKind.i64.wrap (B:Int)=(B:Int):=by rw [IntKind.wrap_i64]; omega
   have Az:(A:Int) < (d.size:Int):=by omega
   have Bz:(B:Int) < (d.size:Int):=by omega
   have lB:=hSk.ld1 R (hdk.trans hds) Tryz.prog B (by omega)
   have lA:=hSk.ld1 R (hdk.trans hds) Tryz.prog A (by omega)
   have s1:=hSk.st1 R (hdk.trans hds) Tryz.prog A (by omega) dk[B]!
   have s2:=hSk.st2 R (hdk.trans hds) Tryz.prog A B (by omega) (by omega) dk[B]! dk[A]!
   have hsA:(enc dk[A]!).length=k:=R.hk _
   have hsB:(enc dk[B]!).length=k:=R.hk _
   have hsw:=hSk.swapped R A B (by omega) (by omega)
   have AS:Aside (SWK enc k w0 blk off (swp dk A B) ((wr.drew.setCells blk (off + A * k) (enc dk[B]!)).setCells blk (off + B * k) (enc dk[A]!))∧Swr d a b i dk∧PermIn a (b + n) d dk∧A=a + i∧B=b + i):=⟨hsw,hW,hP,hA,hB⟩
   clear hsw hW hP hSk hS
   generalize enc dk[A]! = cA at lA s2 hsA AS
   generalize enc dk[B]! = cB at lB s1 s2 hsB AS
   clear hA hB
   go_wp2_with fail
   go_big_region_o
   all_goals go_wp2
   go_roundg (gk - 1)
   case measure=>omega
   case rel =>
    obtain ⟨hsw,hW,hP,hA,hB⟩:=AS.out
    subst hA hB
    exact ⟨i + 1,_,by simp,by omega,hsw,hW.step (by omega) (by omega),permIn_trans _ _ _ _ _ hP (swp_permIn _ _ _ _ _ (by omega) (by omega) (by omega) (by omega) (by omega))⟩
  ·have hltz:¬ (i:Int) < (n:Int):=by omega
   go_wp2
   go_end0
   have:i=n:=by omega
   subst this
   exact ⟨rfl,dk,hSk,hW,hP⟩
set_option maxHeartbeats 1600000 in
set_option maxRecDepth 1000000 in
theorem Zvc (k:Nat) (zE:∀ w,(Go.sizeOf 39).run Tryz.prog w=.ok k w) (enc:α→List Value) (fn:Value) (blk off cap a m b:Nat) (d0 d:Array α) (w0 w:World)
  (R:RowK enc k w0 blk off d0) (hS:SWK enc k w0 blk off d w) (hds:d.size=d0.size) (ham:a < m) (hmb:m < b) (hb:b≤d.size) (hsz:d.size < 4611686018427387904) :
  Calls Tryz.prog 182 #[.slice (some ⟨blk,off,none⟩) d.size cap,.int .i64 a,.int .i64 m,.int .i64 b,fn] w fun e w'=>e=.returned (.tuple #[])∧∃ d',SWK enc k w0 blk off d' w'∧Rot d a m b d'∧PermIn a b d d':=by
 have mixed:=mix; have t3:=Tryz.underlying3; have a3:=Tryz.isAgg3; have z3:=Tryz.sizeOf3; have v3:=Tryz.zeroValue3; have t4:=Tryz.underlying4; have a4:=Tryz.isAgg4
 have t22:=Tryz.underlying54; have u22:=run_underlying Tryz.underlying54; have aE:=Tryz.isAgg39
 have HDS:Aside (d.size=d0.size):=hds
 clear hds
 have e49:∀ args w,(callFunc 197 args).run Tryz.prog w=.ok (.enter 197 args) w:=enters_of Tryz.func197 (by kernel_rfl) rfl
 go_enter Tryz.func182,Tryz.ntmps182
 go_wp2
 go_loopg [10,11] (b - a) (fun kk s8 s9 wr=>∃ (i j:Nat) (dk:Array α),s8=.int .i64 i∧s9=.int .i64 j∧0 < i∧0 < j∧a + i≤m∧m + j≤b∧i + j≤kk∧SWK enc k w0 blk off dk wr ∧
  (∀ d',Rot dk (m - i) m (m + j) d'→Rot d a m b d')∧PermIn a b d dk)
 case atStart=>exact ⟨m - a,b - m,d,by congr 1; omega,by congr 1; omega,by omega,by omega,by omega,by omega,by omega,hS,fun d' h=>by rwa [show m - (m - a)=a by omega,show m + (b - m)=b by omega] at h,permIn_refl _ _ _⟩
 case round =>
  obtain ⟨i,j,dk,rfl,rfl,hi0,hj0,hi,hj,hk,hSk,hRo,hP⟩:=hrel
  have hdk:dk.size=d.size:=hP.1
  have sw:∀ (a' b' n':Nat),a' + n'≤b'→b' + n'≤dk.size→Calls Tryz.prog 197 #[.slice (some ⟨blk,off,none⟩) d.size cap,.int .i64 a',.int .i64 b',.int .i64 n',fn] wr fun e w'=>e=.returned (.tuple #[])∧∃ d',SWK enc k w0 blk off d' w'∧Swr dk a' b' n' d'∧PermIn a' (b' + n') dk d' :=
   fun a' b' n' h1 h2=>by
    rw [← hdk]
    exact Zs9 k zE enc fn blk off cap a' b' n' d0 dk w0 wr R hSk (hdk.trans HDS.out) h1 h2 (by omega)
  have A:Aside ((∀ d',Rot dk (m - i) m (m + j) d'→Rot d a m b d')∧PermIn a b d dk∧dk.size=d.size):=⟨hRo,hP,hdk⟩
  have hdb:b≤dk.size:=by omega
  have hdz:dk.size < 4611686018427387904:=by omega
  clear hSk hRo hP hS
  by_cases hij:i=j
  ·subst hij
   have hc:=sw (m - i) m i (by omega) (by omega)
   rw [show (((m - i:Nat):Int))=(m:Int) - i by omega] at hc
   clear sw
   go_wp2_with (go_at_fn 197; refine hc.mono ?_; rintro e w1 ⟨rfl,d1,hS1,h1,h2⟩)
   go_end0
   obtain ⟨hRo,hP,hds⟩:=A.out
   exact ⟨rfl,d1,hS1,hRo d1 (stab.Rot.even h1 (by omega)),permIn_trans _ _ _ _ _ hP (permIn_mono _ _ _ _ _ _ (by omega) (by omega) (by omega) h2)⟩
  ·by_cases hgt:j < i
   ·have hc:=sw (m - i) m j (by omega) (by omega)
    rw [show (((m - i:Nat):Int))=(m:Int) - i by omega] at hc
    clear sw
    go_wp2_with (go_at_fn 197; refine hc.mono ?_; rintro e w1 ⟨rfl,d1,hS1,h1,h2⟩)
    go_roundg (i - j + j)
    case measure=>omega
    case rel =>
     obtain ⟨hRo,hP,hds⟩:=A.out
     exact ⟨i - j,j,d1,by congr 1; omega,rfl,by omega,by omega,by omega,by omega,by omega,hS1,
      fun d' h=>hRo d' (stab.Rot.front (i:=i) h1 hgt (by omega) (by rwa [show m - (i - j)=m - i + j by omega] at h)),permIn_trans _ _ _ _ _ hP (permIn_mono _ _ _ _ _ _ (by omega) (by omega) (by omega) h2)⟩
   ·have hc:=sw (m - i) (m + j - i) i (by omega) (by omega)
    rw [show (((m - i:Nat):Int))=(m:Int) - i by omega,show (((m + j - i:Nat):Int))=(m:Int) + j - i by omega] at hc
    clear sw
    go_wp2_with (go_at_fn 197; refine hc.mono ?_; rintro e w1 ⟨rfl,d1,hS1,h1,h2⟩)
    go_roundg (i + (j - i))
    case measure=>omega
    case rel =>
     obtain ⟨hRo,hP,hds⟩:=A.out
     exact ⟨i,j - i,d1,rfl,by congr 1; omega,by omega,by omega,by omega,by omega,by omega,hS1,
      fun d' h=>hRo d' (stab.Rot.back (i:=i) h1 (by omega) (by omega) (by rwa [show m + (j - i)=m + j - i by omega] at h)),permIn_trans _ _ _ _ _ hP (permIn_mono _ _ _ _ _ _ (by omega) (by omega) (by omega) h2)⟩
end Go.Proofs.YtgcoidbaoigkeaaGreatDoor.sst
namespace Go.Proofs.YtgcoidbaoigkeaaGreatDoor.sst
open Go.Shelf Go.RowKit Go.Lib Go.Sort
open YtgcoidbaoigkeaaGreatDoor.stab (Rot Swr Z37)
variable {α:Type} [Inhabited α]
inductive Bs (p:Nat→Bool):Nat→Nat→Nat→Prop
 | stop {i:Nat}:Bs p i i i
 | left {i j r:Nat}:i < j→p ((i + j) / 2)=true→Bs p i ((i + j) / 2) r→Bs p i j r
 | right {i j r:Nat}:i < j→p ((i + j) / 2)=false→Bs p ((i + j) / 2 + 1) j r→Bs p i j r
theorem Bs.det {p:Nat→Bool} {i j r r':Nat} (h:Bs p i j r):Bs p i j r'→r=r':=by
 induction h with
 | stop=>intro h'; cases h' with
  | stop=>rfl
  | left h1=>omega
  | right h1=>omega
 | left h1 h2 _ ih=>intro h'; cases h' with
  | stop=>omega
  | left _ _ h3=>exact ih h3
  | right _ h3=>rw [h2] at h3; cases h3
 | right h1 h2 _ ih=>intro h'; cases h' with
  | stop=>omega
  | left _ h3=>rw [h2] at h3; cases h3
  | right _ _ h3=>exact ih h3
theorem Rot.det {d d1 d2:Array α} {a m b:Nat} (h1:Rot d a m b d1) (h2:Rot d a m b d2):d1=d2:=by
 apply Array.ext (h1.1.trans h2.1.symm)
 intro k c1 c2
 have:=(h1.2 k).trans (h2.2 k).symm
 rwa [getElem!_pos d1 k c1,getElem!_pos d2 k c2] at this
theorem Z1c8 {β:Type} {p q:Prop} {x y z:β} (ih:p→q→x=y) (h:¬ (p∧q)→x=z) (g:¬ (p∧q)→y=z):x=y:=by
 by_cases c:p∧q
 ·exact ih c.1 c.2
 ·exact (h c).trans (g c).symm
inductive Mg (lt:α→α→Bool):Nat→Nat→Nat→Array α→Array α→Prop
 | first {a b i:Nat} {d d':Array α}:Bs (fun h=>!lt d[h]! d[a]!) (a + 1) b i→Rot d a (a + 1) i d'→Mg lt a (a + 1) b d d'
 | last {a m i:Nat} {d d':Array α}:m ≠ a + 1→Bs (fun h=>lt d[m]! d[h]!) a m i→Rot d i m (m + 1) d'→Mg lt a m (m + 1) d d'
 | mid {a m b mid s e s0 r0:Nat} {d d1 d2 d3:Array α}:m ≠ a + 1→b ≠ m + 1→mid=(a + b) / 2→(m≤mid∧s0=a∧r0=m∨mid < m∧s0=mid + m - b∧r0=mid)→Bs (fun c=>lt d[mid + m - 1 - c]! d[c]!) s0 r0 s→e=mid + m - s→Rot d s m e d1 →
   (a < s→s < mid→Mg lt a s mid d1 d2)→(¬ (a < s∧s < mid)→d2=d1)→(mid < e→e < b→Mg lt mid e b d2 d3)→(¬ (mid < e∧e < b)→d3=d2)→Mg lt a m b d d3
theorem Mg.det {lt:α→α→Bool} {a m b:Nat} {d d1:Array α} (h:Mg lt a m b d d1):∀ d2,Mg lt a m b d d2→d1=d2:=by
 induction h with
 | first h1 h2 =>
  intro d2 h'
  cases h' with
  | first g1 g2=>rw [h1.det g1] at h2; exact Rot.det h2 g2
  | last g=>exact absurd rfl g
  | mid g=>exact absurd rfl g
 | last h0 h1 h2 =>
  intro d2 h'
  cases h' with
  | first=>exact absurd rfl h0
  | last _ g1 g2=>rw [h1.det g1] at h2; exact Rot.det h2 g2
  | mid _ g=>exact absurd rfl g
 | mid h0 h1 h2 h3 h4 h5 h6 h7 h8 h9 h10 ih1 ih2 =>
  intro dd h'
  cases h' with
  | first=>exact absurd rfl h0
  | last=>exact absurd rfl h1
  | mid _ _ g2 g3 g4 g5 g6 g7 g8 g9 g10 =>
   subst h2 g2
   have e0:=And.intro (show _=_ from by rcases h3 with ⟨_,q1,q2⟩ | ⟨_,q1,q2⟩ <;> rcases g3 with ⟨_,p1,p2⟩ | ⟨_,p1,p2⟩ <;> first | exact q1.trans p1.symm | omega) (show _=_ from by rcases h3 with ⟨_,q1,q2⟩ | ⟨_,q1,q2⟩ <;> rcases g3 with ⟨_,p1,p2⟩ | ⟨_,p1,p2⟩ <;> first | exact q2.trans p2.symm | omega)
   rw [e0.1,e0.2] at h4
   have e1:=h4.det g4
   subst e1
   subst h5 g5
   have e2:=Rot.det h6 g6
   subst e2
   have e3:=Z1c8 (fun c c'=>ih1 c c' _ (g7 c c')) h8 g8
   subst e3
   exact Z1c8 (fun c c'=>ih2 c c' _ (g9 c c')) h10 g10
set_option maxHeartbeats 3200000 in
set_option maxRecDepth 1000000 in
theorem Zp4 (k:Nat) (zE:∀ w,(Go.sizeOf 39).run Tryz.prog w=.ok k w) (enc:α→List Value) (cf:α→α→Int) (g:Nat) (cb:Array Value) (blk off cap a m b:Nat) (d0 d:Array α) (w0 w:World)
  (eg:∀ args w,(callFunc g args).run Tryz.prog w=.ok (.enter g args) w) (hC:CmpLays Tryz.prog g cb enc k cf blk off d0.size w0) (R:RowK enc k w0 blk off d0) (hS:SWK enc k w0 blk off d w) (hds:d.size=d0.size) (ham:a < m) (hmb:m < b) (hb:b≤d.size) (hsz:d.size < 4611686018427387904) (hone:m=a + 1) :
  Calls Tryz.prog 135 #[.slice (some ⟨blk,off,none⟩) d.size cap,.int .i64 a,.int .i64 m,.int .i64 b,.func (.func g) #[] cb] w fun e w'=>e=.returned (.tuple #[])∧∃ d',SWK enc k w0 blk off d' w'∧Mg (ltOf cf) a m b d d'∧PermIn a b d d':=by
 have mixed:=mix; have t3:=Tryz.underlying3; have a3:=Tryz.isAgg3; have z3:=Tryz.sizeOf3; have v3:=Tryz.zeroValue3; have t4:=Tryz.underlying4; have a4:=Tryz.isAgg4
 have t22:=Tryz.underlying54; have u22:=run_underlying Tryz.underlying54; have aE:=Tryz.isAgg39; have t47:=Tryz.underlying207; have a47:=Tryz.isAgg207; have z47:=Tryz.sizeOf207; have v47:=Tryz.zeroValue207
 have HDS:Aside (d.size=d0.size):=hds
 have h1:(m:Int) - a=1:=by omega
 have M:Aside (m=a + 1):=hone
 clear hone hds
 go_enter Tryz.func135,Tryz.ntmps135
 go_wp2
 go_loopg [10,11] (b - a) (fun kk s8 s9 wr=>∃ (i j:Nat),s8=.int .i64 i∧s9=.int .i64 j∧m≤i∧i≤j∧j≤b∧j - i≤kk∧SWK enc k w0 blk off d wr∧Hid (∀ r,Bs (fun h=>!ltOf cf d[h]! d[a]!) i j r→Bs (fun h=>!ltOf cf d[h]! d[a]!) m b r))
 case atStart=>exact ⟨m,b,rfl,rfl,by omega,by omega,by omega,by omega,hS,(show Hid _ from fun r h=>h)⟩
 case round =>
  obtain ⟨i,j,rfl,rfl,hi0,hij,hj,hk,hSk,hB⟩:=hrel
  by_cases hlt:i < j
  ·obtain ⟨H,hH⟩:∃ H:Nat,H=(i + j) / 2:=⟨_,rfl⟩
   have hltz:(i:Int) < (j:Int):=by omega
   have eH:((i:Int) + (j:Int)) / 2=(H:Int):=by omega
   have nH:((H:Int)).toNat=H:=by omega
   have Hz:(H:Int) < (d.size:Int):=by omega
   have az:(a:Int) < (d.size:Int):=by omega
   have lH:=fun n' os'=>hSk.ld R HDS.out Tryz.prog H (by omega) n' os'
   have lA:=fun n' os'=>hSk.ld R HDS.out Tryz.prog a (by omega) n' os'
   have hcg:=fun n' os'=>hSk.cmp hC HDS.out d[H]! d[a]! n' os'
   have hgr:=fun n' os'=>hSk.grown n' os'
   obtain ⟨z,hz⟩:∃ z,z=cf d[H]! d[a]! := ⟨_,rfl⟩
   rw [← hz] at hcg
   have hsH:(enc d[H]!).length=k:=R.hk _
   have hsA:(enc d[a]!).length=k:=R.hk _
   have AS:Aside (SWK enc k w0 blk off d wr∧(∀ r,Bs (fun h=>!ltOf cf d[h]! d[a]!) i j r→Bs (fun h=>!ltOf cf d[h]! d[a]!) m b r)∧H=(i + j) / 2∧z=cf d[H]! d[a]! ∧ ∀ n' os',SWK enc k w0 blk off d (grow (wr.drewN n') os')):=⟨hSk,hB.out,hH,hz,hgr⟩
   have hHb:i≤H∧H < j:=by omega
   clear hSk hB hH hz hgr hS
   generalize enc d[H]! = cH at lH hsH hcg
   generalize enc d[a]! = cA at lA hsA hcg
   by_cases hlv:z < 0
   ·go_wp2_with fail
    go_quiet_grown (first | (go_at_fn g; refine Calls.grown_of (hcg _ _)))
    go_wp2
    go_roundg (j - (H + 1))
    case measure=>omega
    case rel =>
     obtain ⟨hSk,hB,hH,hz,hgr⟩:=AS.out
     exact ⟨H + 1,j,by first | rfl | go_num | (congr 1; omega),rfl,by omega,by omega,by omega,by omega,hgr _ _,(show Hid _ from fun r h=>hB r (.right hlt (by rw [← hH,Bool.not_eq_false']; unfold ltOf; rw [← hz]; exact decide_eq_true hlv) (by rw [← hH]; exact h)))⟩
   ·go_wp2_with fail
    go_quiet_grown (first | (go_at_fn g; refine Calls.grown_of (hcg _ _)))
    go_wp2
    go_roundg (H - i)
    case measure=>omega
    case rel =>
     obtain ⟨hSk,hB,hH,hz,hgr⟩:=AS.out
     exact ⟨i,H,rfl,rfl,by omega,by omega,by omega,by omega,hgr _ _,(show Hid _ from fun r h=>hB r (.left hlt (by rw [← hH,Bool.not_eq_true']; unfold ltOf; rw [← hz]; exact decide_eq_false (by omega)) (by rw [← hH]; exact h)))⟩
  ·have hje:j=i:=by omega
   subst hje
   have hltz:¬ (j:Int) < (j:Int):=by omega
   have BB:Aside (Bs (fun h=>!ltOf cf d[h]! d[a]!) m b j):=hB.out j .stop
   clear hB hS
   go_wp2
   go_loopg [13] (j - 1 - a) (fun kk s11 wr2=>∃ (x:Nat) (dk:Array α),s11=.int .i64 x∧x < j∧a≤x∧j - 1 - x≤kk∧SWK enc k w0 blk off dk wr2∧Hid (Rot d a (a + 1) (x + 1) dk∧PermIn a b d dk))
   case atStart=>exact ⟨a,d,rfl,by omega,by omega,by omega,hSk,(show Hid _ from ⟨stab.Rot.none (by omega) (.inr rfl),permIn_refl _ _ _⟩)⟩
   case round =>
    obtain ⟨x,dk,rfl,hx0,hx1,hxk,hS2,hRP⟩:=hrel
    have hdk:dk.size=d.size:=hRP.out.2.1
    by_cases hlt2:x + 1 < j
    ·obtain ⟨Y,hY⟩:∃ Y:Nat,Y=x + 1:=⟨_,rfl⟩
     have hltz2:(x:Int) < (j:Int) - 1:=by omega
     have eY:(x:Int) + 1=(Y:Int):=by omega
     have nY:((Y:Int)).toNat=Y:=by omega
     have wY:IntKind.i64.wrap (Y:Int)=(Y:Int):=by rw [IntKind.wrap_i64]; omega
     have Yz:(Y:Int) < (d.size:Int):=by omega
     have Xz:(x:Int) < (d.size:Int):=by omega
     have lY:=hS2.ld1 R (hdk.trans HDS.out) Tryz.prog Y (by omega)
     have lX:=hS2.ld1 R (hdk.trans HDS.out) Tryz.prog x (by omega)
     have s1:=hS2.st1 R (hdk.trans HDS.out) Tryz.prog x (by omega) dk[Y]!
     have s2:=hS2.st2 R (hdk.trans HDS.out) Tryz.prog x Y (by omega) (by omega) dk[Y]! dk[x]!
     have hsX:(enc dk[x]!).length=k:=R.hk _
     have hsY:(enc dk[Y]!).length=k:=R.hk _
     have hsw:=hS2.swapped R x Y (by omega) (by omega)
     have AS:Aside (SWK enc k w0 blk off (swp dk x Y) ((wr.drew.setCells blk (off + x * k) (enc dk[Y]!)).setCells blk (off + Y * k) (enc dk[x]!))∧Rot d a (a + 1) (x + 1) dk∧PermIn a b d dk∧Y=x + 1):=⟨hsw,hRP.out.1,hRP.out.2,hY⟩
     clear hsw hRP hS2
     generalize enc dk[x]! = cX at lX s2 hsX AS
     generalize enc dk[Y]! = cY at lY s1 s2 hsY AS
     have hYx:Y=x + 1:=hY
     clear hY
     have HY:Aside (Y=x + 1):=hYx
     clear hYx
     go_wp2_with fail
     go_big_region_o
     all_goals go_wp2
     go_roundg (j - 1 - (x + 1))
     case measure=>omega
     case rel =>
      obtain ⟨hsw,hR,hP,hY⟩:=AS.out
      subst hY
      exact ⟨x + 1,_,by first | rfl | go_num | (congr 1; omega),by omega,by omega,by omega,hsw,(show Hid _ from ⟨hR.up (by omega) (by omega),permIn_trans _ _ _ _ _ hP (swp_permIn _ _ _ _ _ (by omega) (by omega) (by omega) (by omega) (by omega))⟩)⟩
    ·have hltz2:¬ (x:Int) < (j:Int) - 1:=by omega
     go_wp2
     refine bodyPost_ret (results_none rfl _ _ _) rfl ?_
     obtain ⟨hR,hP⟩:=hRP.out
     obtain rfl:=M.out
     have:x + 1=j:=by omega
     rw [this] at hR
     exact ⟨rfl,dk,hS2,.first BB.out hR,hP⟩
end Go.Proofs.YtgcoidbaoigkeaaGreatDoor.sst
namespace Go.Proofs.YtgcoidbaoigkeaaGreatDoor.sst
open Go.Shelf Go.RowKit Go.Lib Go.Sort
open YtgcoidbaoigkeaaGreatDoor.stab (Rot Swr Z37)
variable {α:Type} [Inhabited α]
set_option maxHeartbeats 6400000 in
set_option maxRecDepth 1000000 in
theorem Zv9 (k:Nat) (zE:∀ w,(Go.sizeOf 39).run Tryz.prog w=.ok k w) (enc:α→List Value) (cf:α→α→Int) (g:Nat) (cb:Array Value) (blk off cap a m b:Nat) (d0 d:Array α) (w0 w:World)
  (eg:∀ args w,(callFunc g args).run Tryz.prog w=.ok (.enter g args) w) (hC:CmpLays Tryz.prog g cb enc k cf blk off d0.size w0) (R:RowK enc k w0 blk off d0) (hS:SWK enc k w0 blk off d w) (hds:d.size=d0.size) (ham:a < m) (hmb:m < b) (hb:b≤d.size) (hsz:d.size < 4611686018427387904) (htwo:m ≠ a + 1) (hone:b=m + 1) :
  Calls Tryz.prog 135 #[.slice (some ⟨blk,off,none⟩) d.size cap,.int .i64 a,.int .i64 m,.int .i64 b,.func (.func g) #[] cb] w fun e w'=>e=.returned (.tuple #[])∧∃ d',SWK enc k w0 blk off d' w'∧Mg (ltOf cf) a m b d d'∧PermIn a b d d':=by
 have mixed:=mix; have t3:=Tryz.underlying3; have a3:=Tryz.isAgg3; have z3:=Tryz.sizeOf3; have v3:=Tryz.zeroValue3; have t4:=Tryz.underlying4; have a4:=Tryz.isAgg4; have v4:=Tryz.zeroValue4
 have t22:=Tryz.underlying54; have u22:=run_underlying Tryz.underlying54; have aE:=Tryz.isAgg39; have t47:=Tryz.underlying207; have a47:=Tryz.isAgg207; have z47:=Tryz.sizeOf207; have v47:=Tryz.zeroValue207
 have HDS:Aside (d.size=d0.size):=hds
 have h1:(b:Int) - m=1:=by omega
 have h2:¬ (m:Int) - a=1:=by omega
 have h3:((m:Int) - a == 1)=false:=by simp only [beq_eq_false_iff_ne,ne_eq]; exact h2
 have M:Aside (b=m + 1):=hone
 have MT:Aside (m ≠ a + 1):=htwo
 clear hone hds htwo
 go_enter Tryz.func135,Tryz.ntmps135
 go_wp2
 go_loopg [14,15] (m - a) (fun kk s8 s9 wr=>∃ (i j:Nat),s8=.int .i64 i∧s9=.int .i64 j∧a≤i∧i≤j∧j≤m∧j - i≤kk∧SWK enc k w0 blk off d wr∧Hid (∀ r,Bs (fun h=>ltOf cf d[m]! d[h]!) i j r→Bs (fun h=>ltOf cf d[m]! d[h]!) a m r))
 case atStart=>exact ⟨a,m,rfl,rfl,by omega,by omega,by omega,by omega,hS,(show Hid _ from fun r h=>h)⟩
 case round =>
  obtain ⟨i,j,rfl,rfl,hi0,hij,hj,hk,hSk,hB⟩:=hrel
  by_cases hlt:i < j
  ·obtain ⟨H,hH⟩:∃ H:Nat,H=(i + j) / 2:=⟨_,rfl⟩
   have hltz:(i:Int) < (j:Int):=by omega
   have eH:((i:Int) + (j:Int)) / 2=(H:Int):=by omega
   have nH:((H:Int)).toNat=H:=by omega
   have Hz:(H:Int) < (d.size:Int):=by omega
   have az:(m:Int) < (d.size:Int):=by omega
   have l1:=fun n' os'=>hSk.ld R HDS.out Tryz.prog m (by omega) n' os'
   have l2:=fun n' os'=>hSk.ld R HDS.out Tryz.prog H (by omega) n' os'
   have hcg:=fun n' os'=>hSk.cmp hC HDS.out d[m]! d[H]! n' os'
   have hgr:=fun n' os'=>hSk.grown n' os'
   obtain ⟨z,hz⟩:∃ z,z=cf d[m]! d[H]! := ⟨_,rfl⟩
   rw [← hz] at hcg
   have hs1:(enc d[m]!).length=k:=R.hk _
   have hs2:(enc d[H]!).length=k:=R.hk _
   have AS:Aside (SWK enc k w0 blk off d wr∧(∀ r,Bs (fun h=>ltOf cf d[m]! d[h]!) i j r→Bs (fun h=>ltOf cf d[m]! d[h]!) a m r)∧H=(i + j) / 2∧z=cf d[m]! d[H]! ∧ ∀ n' os',SWK enc k w0 blk off d (grow (wr.drewN n') os')):=⟨hSk,hB.out,hH,hz,hgr⟩
   have hHb:i≤H∧H < j:=by omega
   clear hSk hB hH hz hgr hS
   generalize enc d[m]! = cH at l1 hs1 hcg
   generalize enc d[H]! = cA at l2 hs2 hcg
   by_cases hlv:z < 0
   ·have hlv3:¬ 0≤z:=by omega
    go_wp2_with fail
    go_quiet_grown (first | (go_at_fn g; refine Calls.grown_of (hcg _ _)))
    go_wp2
    go_roundg (H - i)
    case measure=>omega
    case rel =>
     obtain ⟨hSk,hB,hH,hz,hgr⟩:=AS.out
     exact ⟨i,H,rfl,rfl,by omega,by omega,by omega,by omega,hgr _ _,(show Hid _ from fun r h=>hB r (.left hlt (by rw [← hH]; unfold ltOf; rw [← hz]; exact decide_eq_true hlv) (by rw [← hH]; exact h)))⟩
   ·have hlv3:decide (z < 0)=false:=decide_eq_false hlv
    go_wp2_with fail
    go_quiet_grown (first | (go_at_fn g; refine Calls.grown_of (hcg _ _)))
    go_wp2
    go_roundg (j - (H + 1))
    case measure=>omega
    case rel =>
     obtain ⟨hSk,hB,hH,hz,hgr⟩:=AS.out
     exact ⟨H + 1,j,by first | rfl | go_num | (congr 1; omega),rfl,by omega,by omega,by omega,by omega,hgr _ _,(show Hid _ from fun r h=>hB r (.right hlt (by rw [← hH]; unfold ltOf; rw [← hz]; exact decide_eq_false (by omega)) (by rw [← hH]; exact h)))⟩
  ·have hje:j=i:=by omega
   subst hje
   have hltz:¬ (j:Int) < (j:Int):=by omega
   have BB:Aside (Bs (fun h=>ltOf cf d[m]! d[h]!) a m j):=hB.out j .stop
   clear hB hS
   go_wp2
   go_loopg [17] (m - j) (fun kk s11 wr2=>∃ (x:Nat) (dk:Array α),s11=.int .i64 x∧x≤m∧j≤x∧x - j≤kk∧SWK enc k w0 blk off dk wr2∧Hid (Rot d x m (m + 1) dk∧PermIn a b d dk))
   case atStart=>exact ⟨m,d,rfl,by omega,by omega,by omega,hSk,(show Hid _ from ⟨stab.Rot.none (by omega) (.inl rfl),permIn_refl _ _ _⟩)⟩
   case round =>
    obtain ⟨x,dk,rfl,hx0,hx1,hxk,hS2,hRP⟩:=hrel
    have hdk:dk.size=d.size:=hRP.out.2.1
    by_cases hlt2:j < x
    ·obtain ⟨Y,hY⟩:∃ Y:Nat,Y=x - 1:=⟨_,rfl⟩
     have hltz2:(j:Int) < (x:Int):=by omega
     have eY:(x:Int) - 1=(Y:Int):=by omega
     have nY:((Y:Int)).toNat=Y:=by omega
     have wY:IntKind.i64.wrap (Y:Int)=(Y:Int):=by rw [IntKind.wrap_i64]; omega
     have Yz:(Y:Int) < (d.size:Int):=by omega
     have Xz:(x:Int) < (d.size:Int):=by omega
     have lY:=hS2.ld1 R (hdk.trans HDS.out) Tryz.prog Y (by omega)
     have lX:=hS2.ld1 R (hdk.trans HDS.out) Tryz.prog x (by omega)
     have s1:=hS2.st1 R (hdk.trans HDS.out) Tryz.prog x (by omega) dk[Y]!
     have s2:=hS2.st2 R (hdk.trans HDS.out) Tryz.prog x Y (by omega) (by omega) dk[Y]! dk[x]!
     have hsX:(enc dk[x]!).length=k:=R.hk _
     have hsY:(enc dk[Y]!).length=k:=R.hk _
     have hsw:=hS2.swapped R x Y (by omega) (by omega)
     have AS:Aside (SWK enc k w0 blk off (swp dk x Y) ((wr.drew.setCells blk (off + x * k) (enc dk[Y]!)).setCells blk (off + Y * k) (enc dk[x]!))∧Rot d x m (m + 1) dk∧PermIn a b d dk∧Y=x - 1):=⟨hsw,hRP.out.1,hRP.out.2,hY⟩
     have hYx:Y < x∧x≤Y + 1:=by omega
     clear hsw hRP hS2 hY
     generalize enc dk[x]! = cX at lX s2 hsX AS
     generalize enc dk[Y]! = cY at lY s1 s2 hsY AS
     go_wp2_with fail
     go_big_region_o
     all_goals go_wp2
     go_roundg (x - 1 - j)
     case measure=>omega
     case rel =>
      obtain ⟨hsw,hR,hP,hY⟩:=AS.out
      subst hY
      exact ⟨x - 1,_,by first | rfl | go_num | (congr 1; omega),by omega,by omega,by omega,hsw,(show Hid _ from ⟨hR.down (by omega) (by omega) (by omega),permIn_trans _ _ _ _ _ hP (swp_permIn _ _ _ _ _ (by omega) (by omega) (by omega) (by omega) (by omega))⟩)⟩
    ·have hltz2:¬ (j:Int) < (x:Int):=by omega
     go_wp2
     refine bodyPost_ret (results_none rfl _ _ _) rfl ?_
     obtain ⟨hR,hP⟩:=hRP.out
     obtain rfl:=M.out
     have:x=j:=by omega
     subst this
     exact ⟨rfl,dk,hS2,.last MT.out BB.out hR,hP⟩
end Go.Proofs.YtgcoidbaoigkeaaGreatDoor.sst
namespace Go.Proofs.YtgcoidbaoigkeaaGreatDoor.sst
open Go.Shelf Go.RowKit Go.Lib Go.Sort
open YtgcoidbaoigkeaaGreatDoor.stab (Rot Swr Z37)
variable {α:Type} [Inhabited α]
set_option maxHeartbeats 6400000 in
set_option maxRecDepth 1000000 in
theorem Zva (k:Nat) (zE:∀ w,(Go.sizeOf 39).run Tryz.prog w=.ok k w) (enc:α→List Value) (cf:α→α→Int) (g:Nat) (cb:Array Value) (blk off cap a m b:Nat) (d0 d:Array α) (w0 w:World)
  (eg:∀ args w,(callFunc g args).run Tryz.prog w=.ok (.enter g args) w) (hC:CmpLays Tryz.prog g cb enc k cf blk off d0.size w0) (R:RowK enc k w0 blk off d0) (hS:SWK enc k w0 blk off d w) (hds:d.size=d0.size) (ham:a < m) (hmb:m < b) (hb:b≤d.size) (hsz:d.size < 4611686018427387904) (htwo:a + 1 < m) (hone:m + 1 < b) (hcase:m≤(a + b) / 2)
  (ih:∀ (a' m' b':Nat) (d':Array α) (w':World),b' - a' < b - a→SWK enc k w0 blk off d' w'→d'.size=d0.size→a' < m'→m' < b'→b'≤d'.size →
   Calls Tryz.prog 135 #[.slice (some ⟨blk,off,none⟩) d'.size cap,.int .i64 a',.int .i64 m',.int .i64 b',.func (.func g) #[] cb] w' fun e w''=>e=.returned (.tuple #[])∧∃ d'',SWK enc k w0 blk off d'' w''∧Mg (ltOf cf) a' m' b' d' d''∧PermIn a' b' d' d'') :
  Calls Tryz.prog 135 #[.slice (some ⟨blk,off,none⟩) d.size cap,.int .i64 a,.int .i64 m,.int .i64 b,.func (.func g) #[] cb] w fun e w'=>e=.returned (.tuple #[])∧∃ d',SWK enc k w0 blk off d' w'∧Mg (ltOf cf) a m b d d'∧PermIn a b d d':=by
 have mixed:=mix; have t3:=Tryz.underlying3; have a3:=Tryz.isAgg3; have z3:=Tryz.sizeOf3; have v3:=Tryz.zeroValue3; have t4:=Tryz.underlying4; have a4:=Tryz.isAgg4; have v4:=Tryz.zeroValue4
 have t22:=Tryz.underlying54; have u22:=run_underlying Tryz.underlying54; have aE:=Tryz.isAgg39; have t47:=Tryz.underlying207; have a47:=Tryz.isAgg207; have z47:=Tryz.sizeOf207; have v47:=Tryz.zeroValue207
 have HDS:Aside (d.size=d0.size):=hds
 have e30:∀ args w,(callFunc 135 args).run Tryz.prog w=.ok (.enter 135 args) w:=enters_of Tryz.func135 (by kernel_rfl) rfl
 have e42:∀ args w,(callFunc 182 args).run Tryz.prog w=.ok (.enter 182 args) w:=enters_of Tryz.func182 (by kernel_rfl) rfl
 have sub:∀ (a' m' b':Nat) (dk:Array α) (W:World),SWK enc k w0 blk off dk W→dk.size=d.size→b' - a' < b - a→a' < m'→m' < b'→b'≤d.size →
   Calls Tryz.prog 135 #[.slice (some ⟨blk,off,none⟩) d.size cap,.int .i64 a',.int .i64 m',.int .i64 b',.func (.func g) #[] cb] W fun e w''=>e=.returned (.tuple #[])∧∃ d'',SWK enc k w0 blk off d'' w''∧d''.size=d.size∧Mg (ltOf cf) a' m' b' dk d''∧PermIn a' b' dk d'':=fun a' m' b' dk W hS hs h1 h2 h3 h4=>by
  rw [← hs] at h4 ⊢
  exact (ih a' m' b' dk W h1 hS (hs.trans hds) h2 h3 h4).mono fun _ _ ⟨he,d'',hw,hM,hP⟩=>⟨he,d'',hw,hP.1,hM,hP⟩
 have rot:∀ (s e:Nat) (W:World),SWK enc k w0 blk off d W→s < m→m < e→e≤d.size →
   Calls Tryz.prog 182 #[.slice (some ⟨blk,off,none⟩) d.size cap,.int .i64 s,.int .i64 m,.int .i64 e,.func (.func g) #[] cb] W fun e' w''=>e'=.returned (.tuple #[])∧∃ d'',SWK enc k w0 blk off d'' w''∧d''.size=d.size∧Rot d s m e d''∧PermIn s e d d'':=fun s e W hS h1 h2 h3 =>
  (Zvc k zE enc _ blk off cap s m e d0 d w0 W R hS hds h1 h2 h3 hsz).mono fun _ _ ⟨he,d'',hw,hR,hP⟩=>⟨he,d'',hw,hP.1,hR,hP⟩
 obtain ⟨mid,hmid⟩:∃ mid:Nat,mid=(a + b) / 2:=⟨_,rfl⟩
 have hmI:((a:Int) + b) / 2=(mid:Int):=by omega
 have h1:¬ (m:Int) - a=1:=by omega
 have h2:((m:Int) - a == 1)=false:=by simp only [beq_eq_false_iff_ne,ne_eq]; exact h1
 have h3:¬ (b:Int) - m=1:=by omega
 have h4:((b:Int) - m == 1)=false:=by simp only [beq_eq_false_iff_ne,ne_eq]; exact h3
 have h5:¬ (mid:Int) < (m:Int):=by omega
 have MB:Aside (mid=(a + b) / 2):=hmid
 have mb:2 * mid≤a + b∧a + b≤2 * mid + 1:=by omega
 have K:Aside ((∀ (a' m' b':Nat) (dk:Array α) (W:World),SWK enc k w0 blk off dk W→dk.size=d.size→b' - a' < b - a→a' < m'→m' < b'→b'≤d.size →
   Calls Tryz.prog 135 #[.slice (some ⟨blk,off,none⟩) d.size cap,.int .i64 a',.int .i64 m',.int .i64 b',.func (.func g) #[] cb] W fun e w''=>e=.returned (.tuple #[])∧∃ d'',SWK enc k w0 blk off d'' w''∧d''.size=d.size∧Mg (ltOf cf) a' m' b' dk d''∧PermIn a' b' dk d'') ∧
  (∀ (s e:Nat) (W:World),SWK enc k w0 blk off d W→s < m→m < e→e≤d.size →
   Calls Tryz.prog 182 #[.slice (some ⟨blk,off,none⟩) d.size cap,.int .i64 s,.int .i64 m,.int .i64 e,.func (.func g) #[] cb] W fun e' w''=>e'=.returned (.tuple #[])∧∃ d'',SWK enc k w0 blk off d'' w''∧d''.size=d.size∧Rot d s m e d''∧PermIn s e d d'')):=⟨sub,rot⟩
 clear sub rot ih hds hcase hmid
 go_enter Tryz.func135,Tryz.ntmps135
 go_wp2
 go_loopg [20,21] (b - a) (fun kk s8 s9 wr=>∃ (s r:Nat),s8=.int .i64 s∧s9=.int .i64 r∧a≤s∧s≤r∧r≤m∧r - s≤kk∧SWK enc k w0 blk off d wr∧Hid (∀ q,Bs (fun c=>ltOf cf d[mid + m - 1 - c]! d[c]!) s r q→Bs (fun c=>ltOf cf d[mid + m - 1 - c]! d[c]!) a m q))
 case atStart=>exact ⟨a,m,by first | rfl | (congr 1; omega),by first | rfl | (congr 1; omega),by omega,by omega,by omega,by omega,hS,(show Hid _ from fun r h=>h)⟩
 case round =>
  obtain ⟨s,r,rfl,rfl,hs0,hsr,hr0,hk,hSk,hB⟩:=hrel
  by_cases hlt:s < r
  ·obtain ⟨H,hH⟩:∃ H:Nat,H=(s + r) / 2:=⟨_,rfl⟩
   obtain ⟨G,hG⟩:∃ G:Nat,G=mid + m - 1 - H:=⟨_,rfl⟩
   have hltz:(s:Int) < (r:Int):=by omega
   have eH:((s:Int) + (r:Int)) / 2=(H:Int):=by omega
   have hHb:s≤H∧H < r:=by omega
   have eG:(mid:Int) + (m:Int) - 1 - (H:Int)=(G:Int):=by omega
   have nH:((H:Int)).toNat=H:=by omega
   have nG:((G:Int)).toNat=G:=by omega
   have wG:IntKind.i64.wrap (G:Int)=(G:Int):=by rw [IntKind.wrap_i64]; omega
   have Hz:(H:Int) < (d.size:Int):=by omega
   have Gz:(G:Int) < (d.size:Int):=by omega
   have l1:=fun n' os'=>hSk.ld R HDS.out Tryz.prog G (by omega) n' os'
   have l2:=fun n' os'=>hSk.ld R HDS.out Tryz.prog H (by omega) n' os'
   have hcg:=fun n' os'=>hSk.cmp hC HDS.out d[G]! d[H]! n' os'
   have hgr:=fun n' os'=>hSk.grown n' os'
   obtain ⟨z,hz⟩:∃ z,z=cf d[G]! d[H]! := ⟨_,rfl⟩
   rw [← hz] at hcg
   have hs1:(enc d[G]!).length=k:=R.hk _
   have hs2:(enc d[H]!).length=k:=R.hk _
   have AS:Aside (SWK enc k w0 blk off d wr∧(∀ q,Bs (fun c=>ltOf cf d[mid + m - 1 - c]! d[c]!) s r q→Bs (fun c=>ltOf cf d[mid + m - 1 - c]! d[c]!) a m q)∧H=(s + r) / 2∧z=cf d[G]! d[H]! ∧ (∀ n' os',SWK enc k w0 blk off d (grow (wr.drewN n') os'))∧G=mid + m - 1 - H):=⟨hSk,hB.out,hH,hz,hgr,hG⟩
   clear hSk hB hH hz hgr hS hG
   generalize enc d[G]! = cH at l1 hs1 hcg
   generalize enc d[H]! = cA at l2 hs2 hcg
   by_cases hlv:z < 0
   ·have hlv3:¬ 0≤z:=by omega
    go_wp2_with fail
    go_quiet_grown (first | (go_at_fn g; refine Calls.grown_of (hcg _ _)))
    go_wp2
    go_roundg (H - s)
    case measure=>omega
    case rel =>
     obtain ⟨hSk,hB,hH,hz,hgr,hG⟩:=AS.out
     exact ⟨s,H,rfl,rfl,by omega,by omega,by omega,by omega,hgr _ _,(show Hid _ from fun q h=>hB q (.left hlt (by rw [← hH,← hG]; unfold ltOf; rw [← hz]; exact decide_eq_true hlv) (by rw [← hH]; exact h)))⟩
   ·have hlv3:decide (z < 0)=false:=decide_eq_false hlv
    go_wp2_with fail
    go_quiet_grown (first | (go_at_fn g; refine Calls.grown_of (hcg _ _)))
    go_wp2
    go_roundg (r - (H + 1))
    case measure=>omega
    case rel =>
     obtain ⟨hSk,hB,hH,hz,hgr,hG⟩:=AS.out
     exact ⟨H + 1,r,by first | rfl | go_num | (congr 1; omega),rfl,by omega,by omega,by omega,by omega,hgr _ _,(show Hid _ from fun q h=>hB q (.right hlt (by rw [← hH,← hG]; unfold ltOf; rw [← hz]; exact decide_eq_false (by omega)) (by rw [← hH]; exact h)))⟩
  ·have hrs:r=s:=by omega
   subst hrs
   have hltz:¬ (r:Int) < (r:Int):=by omega
   obtain ⟨e,he⟩:∃ e:Nat,e=mid + m - r:=⟨_,rfl⟩
   have heI:(mid:Int) + m - r=(e:Int):=by omega
   have er:e + r=mid + m:=by omega
   have BB:Aside (Bs (fun c=>ltOf cf d[mid + m - 1 - c]! d[c]!) a m r):=hB.out r .stop
   have FIN:Aside (∀ {d1 d2 d3:Array α},Rot d r m e d1→PermIn a b d d1→(a < r→r < mid→Mg (ltOf cf) a r mid d1 d2∧PermIn a mid d1 d2)→(¬ (a < r∧r < mid)→d2=d1)→(mid < e→e < b→Mg (ltOf cf) mid e b d2 d3∧PermIn mid b d2 d3)→(¬ (mid < e∧e < b)→d3=d2)→Mg (ltOf cf) a m b d d3∧PermIn a b d d3):=by
    intro d1 d2 d3 q1 q2 q3 q4 q5 q6
    have z1:=q2.1
    have p2:PermIn a b d1 d2:=by
     by_cases c:a < r∧r < mid
     ·exact permIn_mono _ _ _ _ _ _ (Nat.le_refl _) (by omega) (by omega) (q3 c.1 c.2).2
     ·rw [q4 c]; exact permIn_refl _ _ _
    have z2:=p2.1
    have p3:PermIn a b d2 d3:=by
     by_cases c:mid < e∧e < b
     ·exact permIn_mono _ _ _ _ _ _ (by omega) (Nat.le_refl _) (by omega) (q5 c.1 c.2).2
     ·rw [q6 c]; exact permIn_refl _ _ _
    exact ⟨.mid (s0:=a) (r0:=m) (by omega) (by omega) MB.out (.inl ⟨by omega,rfl,rfl⟩) BB.out he q1 (fun c c'=>(q3 c c').1) q4 (fun c c'=>(q5 c c').1) q6,permIn_trans _ _ _ _ _ q2 (permIn_trans _ _ _ _ _ p2 p3)⟩
   clear hS hB he
   have B0:Aside (SWK enc k w0 blk off d wr):=hSk
   clear hSk
   by_cases c1:r < m∧r < mid
   ·have c1I:(r:Int) < (m:Int):=by omega
    have c2I:(m:Int) < (e:Int):=by omega
    by_cases c3:a < r
    ·have c3I:(a:Int) < (r:Int):=by omega
     have c4I:(r:Int) < (mid:Int):=by omega
     by_cases c5:e < b
     ·have c5I:(mid:Int) < (e:Int):=by omega
      have c6I:(e:Int) < (b:Int):=by omega
      go_wp2_with fail
      refine ((K.out).2 r e _ (B0.out) (by omega) (by omega) (by omega)).mono ?_; rintro x1 w1 ⟨rfl,d1,hS1,hz1,hR1,hQ1⟩; have B1:Aside (SWK enc k w0 blk off d1 w1):=hS1; have M1:Aside (Rot d r m e d1∧PermIn r e d d1∧d1.size=d.size):=⟨hR1,hQ1,hz1⟩; clear hS1 hR1 hQ1 hz1
      dsimp only
      go_wp2_with fail
      refine ((K.out).1 a r mid d1 _ (B1.out) (M1.out).2.2 (by omega) (by omega) (by omega) (by omega)).mono ?_; rintro x2 w2 ⟨rfl,d2,hS2,hz2,hM2⟩; have B2:Aside (SWK enc k w0 blk off d2 w2):=hS2; have M2:Aside ((Mg (ltOf cf) a r mid d1 d2∧PermIn a mid d1 d2)∧d2.size=d.size):=⟨hM2,hz2⟩; clear hS2 hM2 hz2
      dsimp only
      go_wp2_with fail
      refine ((K.out).1 mid e b d2 _ (B2.out) (M2.out).2 (by omega) (by omega) (by omega) (by omega)).mono ?_; rintro x3 w3 ⟨rfl,d3,hS3,hz3,hM3⟩; have B3:Aside (SWK enc k w0 blk off d3 w3):=hS3; have M3:Aside ((Mg (ltOf cf) mid e b d2 d3∧PermIn mid b d2 d3)∧d3.size=d.size):=⟨hM3,hz3⟩; clear hS3 hM3 hz3
      dsimp only
      go_wp2_with fail
      go_end0
      exact ⟨rfl,_,B3.out,FIN.out (M1.out).1 (permIn_mono _ _ _ _ _ _ (by omega) (by omega) (by omega) (M1.out).2.1) (fun _ _=>(M2.out).1) (fun c=>absurd c (by omega)) (fun _ _=>(M3.out).1) (fun c=>absurd c (by omega))⟩
     ·have c5I:(mid:Int) < (e:Int):=by omega
      have c6I:¬ (e:Int) < (b:Int):=by omega
      go_wp2_with fail
      refine ((K.out).2 r e _ (B0.out) (by omega) (by omega) (by omega)).mono ?_; rintro x1 w1 ⟨rfl,d1,hS1,hz1,hR1,hQ1⟩; have B1:Aside (SWK enc k w0 blk off d1 w1):=hS1; have M1:Aside (Rot d r m e d1∧PermIn r e d d1∧d1.size=d.size):=⟨hR1,hQ1,hz1⟩; clear hS1 hR1 hQ1 hz1
      dsimp only
      go_wp2_with fail
      refine ((K.out).1 a r mid d1 _ (B1.out) (M1.out).2.2 (by omega) (by omega) (by omega) (by omega)).mono ?_; rintro x2 w2 ⟨rfl,d2,hS2,hz2,hM2⟩; have B2:Aside (SWK enc k w0 blk off d2 w2):=hS2; have M2:Aside ((Mg (ltOf cf) a r mid d1 d2∧PermIn a mid d1 d2)∧d2.size=d.size):=⟨hM2,hz2⟩; clear hS2 hM2 hz2
      dsimp only
      go_wp2_with fail
      go_end0
      exact ⟨rfl,_,B2.out,FIN.out (M1.out).1 (permIn_mono _ _ _ _ _ _ (by omega) (by omega) (by omega) (M1.out).2.1) (fun _ _=>(M2.out).1) (fun c=>absurd c (by omega)) (fun c c2=>absurd c (by omega)) (fun _=>rfl)⟩
    ·have c3I:¬ (a:Int) < (r:Int):=by omega
     by_cases c5:e < b
     ·have c5I:(mid:Int) < (e:Int):=by omega
      have c6I:(e:Int) < (b:Int):=by omega
      go_wp2_with fail
      refine ((K.out).2 r e _ (B0.out) (by omega) (by omega) (by omega)).mono ?_; rintro x1 w1 ⟨rfl,d1,hS1,hz1,hR1,hQ1⟩; have B1:Aside (SWK enc k w0 blk off d1 w1):=hS1; have M1:Aside (Rot d r m e d1∧PermIn r e d d1∧d1.size=d.size):=⟨hR1,hQ1,hz1⟩; clear hS1 hR1 hQ1 hz1
      dsimp only
      go_wp2_with fail
      refine ((K.out).1 mid e b d1 _ (B1.out) (M1.out).2.2 (by omega) (by omega) (by omega) (by omega)).mono ?_; rintro x2 w2 ⟨rfl,d2,hS2,hz2,hM2⟩; have B2:Aside (SWK enc k w0 blk off d2 w2):=hS2; have M2:Aside ((Mg (ltOf cf) mid e b d1 d2∧PermIn mid b d1 d2)∧d2.size=d.size):=⟨hM2,hz2⟩; clear hS2 hM2 hz2
      dsimp only
      go_wp2_with fail
      go_end0
      exact ⟨rfl,_,B2.out,FIN.out (M1.out).1 (permIn_mono _ _ _ _ _ _ (by omega) (by omega) (by omega) (M1.out).2.1) (fun c c2=>absurd c (by omega)) (fun _=>rfl) (fun _ _=>(M2.out).1) (fun c=>absurd c (by omega))⟩
     ·have c5I:(mid:Int) < (e:Int):=by omega
      have c6I:¬ (e:Int) < (b:Int):=by omega
      go_wp2_with fail
      refine ((K.out).2 r e _ (B0.out) (by omega) (by omega) (by omega)).mono ?_; rintro x1 w1 ⟨rfl,d1,hS1,hz1,hR1,hQ1⟩; have B1:Aside (SWK enc k w0 blk off d1 w1):=hS1; have M1:Aside (Rot d r m e d1∧PermIn r e d d1∧d1.size=d.size):=⟨hR1,hQ1,hz1⟩; clear hS1 hR1 hQ1 hz1
      dsimp only
      go_wp2_with fail
      go_end0
      exact ⟨rfl,_,B1.out,FIN.out (M1.out).1 (permIn_mono _ _ _ _ _ _ (by omega) (by omega) (by omega) (M1.out).2.1) (fun c c2=>absurd c (by omega)) (fun _=>rfl) (fun c c2=>absurd c (by omega)) (fun _=>rfl)⟩
   ·have c1I:¬ (r:Int) < (m:Int):=by omega
    have c3I:(a:Int) < (r:Int):=by omega
    have c5I:¬ (mid:Int) < (e:Int):=by omega
    by_cases c4:r < mid
    ·have c4I:(r:Int) < (mid:Int):=by omega
     go_wp2_with fail
     refine ((K.out).1 a r mid d _ (B0.out) rfl (by omega) (by omega) (by omega) (by omega)).mono ?_; rintro x1 w1 ⟨rfl,d1,hS1,hz1,hM1⟩; have B1:Aside (SWK enc k w0 blk off d1 w1):=hS1; have M1:Aside ((Mg (ltOf cf) a r mid d d1∧PermIn a mid d d1)∧d1.size=d.size):=⟨hM1,hz1⟩; clear hS1 hM1 hz1
     dsimp only
     go_wp2_with fail
     go_end0
     exact ⟨rfl,_,B1.out,FIN.out (stab.Rot.none (by omega) (by omega)) (permIn_refl _ _ _) (fun _ _=>(M1.out).1) (fun c=>absurd c (by omega)) (fun c c2=>absurd c (by omega)) (fun _=>rfl)⟩
    ·have c4I:¬ (r:Int) < (mid:Int):=by omega
     go_wp2
     go_end0
     exact ⟨rfl,_,B0.out,FIN.out (stab.Rot.none (by omega) (by omega)) (permIn_refl _ _ _) (fun c c2=>absurd c (by omega)) (fun _=>rfl) (fun c c2=>absurd c (by omega)) (fun _=>rfl)⟩
end Go.Proofs.YtgcoidbaoigkeaaGreatDoor.sst
namespace Go.Proofs.YtgcoidbaoigkeaaGreatDoor.sst
open Go.Shelf Go.RowKit Go.Lib Go.Sort
open YtgcoidbaoigkeaaGreatDoor.stab (Rot Swr Z37)
variable {α:Type} [Inhabited α]
set_option maxHeartbeats 6400000 in
set_option maxRecDepth 1000000 in
theorem Zvb (k:Nat) (zE:∀ w,(Go.sizeOf 39).run Tryz.prog w=.ok k w) (enc:α→List Value) (cf:α→α→Int) (g:Nat) (cb:Array Value) (blk off cap a m b:Nat) (d0 d:Array α) (w0 w:World)
  (eg:∀ args w,(callFunc g args).run Tryz.prog w=.ok (.enter g args) w) (hC:CmpLays Tryz.prog g cb enc k cf blk off d0.size w0) (R:RowK enc k w0 blk off d0) (hS:SWK enc k w0 blk off d w) (hds:d.size=d0.size) (ham:a < m) (hmb:m < b) (hb:b≤d.size) (hsz:d.size < 4611686018427387904) (htwo:a + 1 < m) (hone:m + 1 < b) (hcase:(a + b) / 2 < m)
  (ih:∀ (a' m' b':Nat) (d':Array α) (w':World),b' - a' < b - a→SWK enc k w0 blk off d' w'→d'.size=d0.size→a' < m'→m' < b'→b'≤d'.size →
   Calls Tryz.prog 135 #[.slice (some ⟨blk,off,none⟩) d'.size cap,.int .i64 a',.int .i64 m',.int .i64 b',.func (.func g) #[] cb] w' fun e w''=>e=.returned (.tuple #[])∧∃ d'',SWK enc k w0 blk off d'' w''∧Mg (ltOf cf) a' m' b' d' d''∧PermIn a' b' d' d'') :
  Calls Tryz.prog 135 #[.slice (some ⟨blk,off,none⟩) d.size cap,.int .i64 a,.int .i64 m,.int .i64 b,.func (.func g) #[] cb] w fun e w'=>e=.returned (.tuple #[])∧∃ d',SWK enc k w0 blk off d' w'∧Mg (ltOf cf) a m b d d'∧PermIn a b d d':=by
 have mixed:=mix; have t3:=Tryz.underlying3; have a3:=Tryz.isAgg3; have z3:=Tryz.sizeOf3; have v3:=Tryz.zeroValue3; have t4:=Tryz.underlying4; have a4:=Tryz.isAgg4; have v4:=Tryz.zeroValue4
 have t22:=Tryz.underlying54; have u22:=run_underlying Tryz.underlying54; have aE:=Tryz.isAgg39; have t47:=Tryz.underlying207; have a47:=Tryz.isAgg207; have z47:=Tryz.sizeOf207; have v47:=Tryz.zeroValue207
 have HDS:Aside (d.size=d0.size):=hds
 have e30:∀ args w,(callFunc 135 args).run Tryz.prog w=.ok (.enter 135 args) w:=enters_of Tryz.func135 (by kernel_rfl) rfl
 have e42:∀ args w,(callFunc 182 args).run Tryz.prog w=.ok (.enter 182 args) w:=enters_of Tryz.func182 (by kernel_rfl) rfl
 have sub:∀ (a' m' b':Nat) (dk:Array α) (W:World),SWK enc k w0 blk off dk W→dk.size=d.size→b' - a' < b - a→a' < m'→m' < b'→b'≤d.size →
   Calls Tryz.prog 135 #[.slice (some ⟨blk,off,none⟩) d.size cap,.int .i64 a',.int .i64 m',.int .i64 b',.func (.func g) #[] cb] W fun e w''=>e=.returned (.tuple #[])∧∃ d'',SWK enc k w0 blk off d'' w''∧d''.size=d.size∧Mg (ltOf cf) a' m' b' dk d''∧PermIn a' b' dk d'':=fun a' m' b' dk W hS hs h1 h2 h3 h4=>by
  rw [← hs] at h4 ⊢
  exact (ih a' m' b' dk W h1 hS (hs.trans hds) h2 h3 h4).mono fun _ _ ⟨he,d'',hw,hM,hP⟩=>⟨he,d'',hw,hP.1,hM,hP⟩
 have rot:∀ (s e:Nat) (W:World),SWK enc k w0 blk off d W→s < m→m < e→e≤d.size →
   Calls Tryz.prog 182 #[.slice (some ⟨blk,off,none⟩) d.size cap,.int .i64 s,.int .i64 m,.int .i64 e,.func (.func g) #[] cb] W fun e' w''=>e'=.returned (.tuple #[])∧∃ d'',SWK enc k w0 blk off d'' w''∧d''.size=d.size∧Rot d s m e d''∧PermIn s e d d'':=fun s e W hS h1 h2 h3 =>
  (Zvc k zE enc _ blk off cap s m e d0 d w0 W R hS hds h1 h2 h3 hsz).mono fun _ _ ⟨he,d'',hw,hR,hP⟩=>⟨he,d'',hw,hP.1,hR,hP⟩
 obtain ⟨mid,hmid⟩:∃ mid:Nat,mid=(a + b) / 2:=⟨_,rfl⟩
 have hmI:((a:Int) + b) / 2=(mid:Int):=by omega
 have h1:¬ (m:Int) - a=1:=by omega
 have h2:((m:Int) - a == 1)=false:=by simp only [beq_eq_false_iff_ne,ne_eq]; exact h1
 have h3:¬ (b:Int) - m=1:=by omega
 have h4:((b:Int) - m == 1)=false:=by simp only [beq_eq_false_iff_ne,ne_eq]; exact h3
 have h5:(mid:Int) < (m:Int):=by omega
 obtain ⟨s0,hs0⟩:∃ s0:Nat,s0=mid + m - b:=⟨_,rfl⟩
 have hs0I:(mid:Int) + m - b=(s0:Int):=by omega
 have MB:Aside (mid=(a + b) / 2∧s0=mid + m - b):=⟨hmid,hs0⟩
 have mb:2 * mid≤a + b∧a + b≤2 * mid + 1:=by omega
 have sb:s0 + b=mid + m:=by omega
 have K:Aside ((∀ (a' m' b':Nat) (dk:Array α) (W:World),SWK enc k w0 blk off dk W→dk.size=d.size→b' - a' < b - a→a' < m'→m' < b'→b'≤d.size →
   Calls Tryz.prog 135 #[.slice (some ⟨blk,off,none⟩) d.size cap,.int .i64 a',.int .i64 m',.int .i64 b',.func (.func g) #[] cb] W fun e w''=>e=.returned (.tuple #[])∧∃ d'',SWK enc k w0 blk off d'' w''∧d''.size=d.size∧Mg (ltOf cf) a' m' b' dk d''∧PermIn a' b' dk d'') ∧
  (∀ (s e:Nat) (W:World),SWK enc k w0 blk off d W→s < m→m < e→e≤d.size →
   Calls Tryz.prog 182 #[.slice (some ⟨blk,off,none⟩) d.size cap,.int .i64 s,.int .i64 m,.int .i64 e,.func (.func g) #[] cb] W fun e' w''=>e'=.returned (.tuple #[])∧∃ d'',SWK enc k w0 blk off d'' w''∧d''.size=d.size∧Rot d s m e d''∧PermIn s e d d'')):=⟨sub,rot⟩
 clear sub rot ih hds hcase hmid hs0
 go_enter Tryz.func135,Tryz.ntmps135
 go_wp2
 go_loopg [20,21] (b - a) (fun kk s8 s9 wr=>∃ (s r:Nat),s8=.int .i64 s∧s9=.int .i64 r∧s0≤s∧s≤r∧r≤mid∧r - s≤kk∧SWK enc k w0 blk off d wr∧Hid (∀ q,Bs (fun c=>ltOf cf d[mid + m - 1 - c]! d[c]!) s r q→Bs (fun c=>ltOf cf d[mid + m - 1 - c]! d[c]!) s0 mid q))
 case atStart=>exact ⟨s0,mid,by first | rfl | (congr 1; omega),by first | rfl | (congr 1; omega),by omega,by omega,by omega,by omega,hS,(show Hid _ from fun r h=>h)⟩
 case round =>
  obtain ⟨s,r,rfl,rfl,hs0,hsr,hr0,hk,hSk,hB⟩:=hrel
  by_cases hlt:s < r
  ·obtain ⟨H,hH⟩:∃ H:Nat,H=(s + r) / 2:=⟨_,rfl⟩
   obtain ⟨G,hG⟩:∃ G:Nat,G=mid + m - 1 - H:=⟨_,rfl⟩
   have hltz:(s:Int) < (r:Int):=by omega
   have eH:((s:Int) + (r:Int)) / 2=(H:Int):=by omega
   have hHb:s≤H∧H < r:=by omega
   have eG:(mid:Int) + (m:Int) - 1 - (H:Int)=(G:Int):=by omega
   have nH:((H:Int)).toNat=H:=by omega
   have nG:((G:Int)).toNat=G:=by omega
   have wG:IntKind.i64.wrap (G:Int)=(G:Int):=by rw [IntKind.wrap_i64]; omega
   have Hz:(H:Int) < (d.size:Int):=by omega
   have Gz:(G:Int) < (d.size:Int):=by omega
   have l1:=fun n' os'=>hSk.ld R HDS.out Tryz.prog G (by omega) n' os'
   have l2:=fun n' os'=>hSk.ld R HDS.out Tryz.prog H (by omega) n' os'
   have hcg:=fun n' os'=>hSk.cmp hC HDS.out d[G]! d[H]! n' os'
   have hgr:=fun n' os'=>hSk.grown n' os'
   obtain ⟨z,hz⟩:∃ z,z=cf d[G]! d[H]! := ⟨_,rfl⟩
   rw [← hz] at hcg
   have hs1:(enc d[G]!).length=k:=R.hk _
   have hs2:(enc d[H]!).length=k:=R.hk _
   have AS:Aside (SWK enc k w0 blk off d wr∧(∀ q,Bs (fun c=>ltOf cf d[mid + m - 1 - c]! d[c]!) s r q→Bs (fun c=>ltOf cf d[mid + m - 1 - c]! d[c]!) s0 mid q)∧H=(s + r) / 2∧z=cf d[G]! d[H]! ∧ (∀ n' os',SWK enc k w0 blk off d (grow (wr.drewN n') os'))∧G=mid + m - 1 - H):=⟨hSk,hB.out,hH,hz,hgr,hG⟩
   clear hSk hB hH hz hgr hS hG
   generalize enc d[G]! = cH at l1 hs1 hcg
   generalize enc d[H]! = cA at l2 hs2 hcg
   by_cases hlv:z < 0
   ·have hlv3:¬ 0≤z:=by omega
    go_wp2_with fail
    go_quiet_grown (first | (go_at_fn g; refine Calls.grown_of (hcg _ _)))
    go_wp2
    go_roundg (H - s)
    case measure=>omega
    case rel =>
     obtain ⟨hSk,hB,hH,hz,hgr,hG⟩:=AS.out
     exact ⟨s,H,rfl,rfl,by omega,by omega,by omega,by omega,hgr _ _,(show Hid _ from fun q h=>hB q (.left hlt (by rw [← hH,← hG]; unfold ltOf; rw [← hz]; exact decide_eq_true hlv) (by rw [← hH]; exact h)))⟩
   ·have hlv3:decide (z < 0)=false:=decide_eq_false hlv
    go_wp2_with fail
    go_quiet_grown (first | (go_at_fn g; refine Calls.grown_of (hcg _ _)))
    go_wp2
    go_roundg (r - (H + 1))
    case measure=>omega
    case rel =>
     obtain ⟨hSk,hB,hH,hz,hgr,hG⟩:=AS.out
     exact ⟨H + 1,r,by first | rfl | go_num | (congr 1; omega),rfl,by omega,by omega,by omega,by omega,hgr _ _,(show Hid _ from fun q h=>hB q (.right hlt (by rw [← hH,← hG]; unfold ltOf; rw [← hz]; exact decide_eq_false (by omega)) (by rw [← hH]; exact h)))⟩
  ·have hrs:r=s:=by omega
   subst hrs
   have hltz:¬ (r:Int) < (r:Int):=by omega
   obtain ⟨e,he⟩:∃ e:Nat,e=mid + m - r:=⟨_,rfl⟩
   have heI:(mid:Int) + m - r=(e:Int):=by omega
   have er:e + r=mid + m:=by omega
   have BB:Aside (Bs (fun c=>ltOf cf d[mid + m - 1 - c]! d[c]!) s0 mid r):=hB.out r .stop
   have FIN:Aside (∀ {d1 d2 d3:Array α},Rot d r m e d1→PermIn a b d d1→(a < r→r < mid→Mg (ltOf cf) a r mid d1 d2∧PermIn a mid d1 d2)→(¬ (a < r∧r < mid)→d2=d1)→(mid < e→e < b→Mg (ltOf cf) mid e b d2 d3∧PermIn mid b d2 d3)→(¬ (mid < e∧e < b)→d3=d2)→Mg (ltOf cf) a m b d d3∧PermIn a b d d3):=by
    intro d1 d2 d3 q1 q2 q3 q4 q5 q6
    have z1:=q2.1
    have p2:PermIn a b d1 d2:=by
     by_cases c:a < r∧r < mid
     ·exact permIn_mono _ _ _ _ _ _ (Nat.le_refl _) (by omega) (by omega) (q3 c.1 c.2).2
     ·rw [q4 c]; exact permIn_refl _ _ _
    have z2:=p2.1
    have p3:PermIn a b d2 d3:=by
     by_cases c:mid < e∧e < b
     ·exact permIn_mono _ _ _ _ _ _ (by omega) (Nat.le_refl _) (by omega) (q5 c.1 c.2).2
     ·rw [q6 c]; exact permIn_refl _ _ _
    exact ⟨.mid (s0:=s0) (r0:=mid) (by omega) (by omega) MB.out.1 (.inr ⟨by omega,MB.out.2,rfl⟩) BB.out he q1 (fun c c'=>(q3 c c').1) q4 (fun c c'=>(q5 c c').1) q6,permIn_trans _ _ _ _ _ q2 (permIn_trans _ _ _ _ _ p2 p3)⟩
   clear hS hB he
   have B0:Aside (SWK enc k w0 blk off d wr):=hSk
   clear hSk
   by_cases c1:r < m∧r < mid
   ·have c1I:(r:Int) < (m:Int):=by omega
    have c2I:(m:Int) < (e:Int):=by omega
    by_cases c3:a < r
    ·have c3I:(a:Int) < (r:Int):=by omega
     have c4I:(r:Int) < (mid:Int):=by omega
     by_cases c5:e < b
     ·have c5I:(mid:Int) < (e:Int):=by omega
      have c6I:(e:Int) < (b:Int):=by omega
      go_wp2_with fail
      refine ((K.out).2 r e _ (B0.out) (by omega) (by omega) (by omega)).mono ?_; rintro x1 w1 ⟨rfl,d1,hS1,hz1,hR1,hQ1⟩; have B1:Aside (SWK enc k w0 blk off d1 w1):=hS1; have M1:Aside (Rot d r m e d1∧PermIn r e d d1∧d1.size=d.size):=⟨hR1,hQ1,hz1⟩; clear hS1 hR1 hQ1 hz1
      dsimp only
      go_wp2_with fail
      refine ((K.out).1 a r mid d1 _ (B1.out) (M1.out).2.2 (by omega) (by omega) (by omega) (by omega)).mono ?_; rintro x2 w2 ⟨rfl,d2,hS2,hz2,hM2⟩; have B2:Aside (SWK enc k w0 blk off d2 w2):=hS2; have M2:Aside ((Mg (ltOf cf) a r mid d1 d2∧PermIn a mid d1 d2)∧d2.size=d.size):=⟨hM2,hz2⟩; clear hS2 hM2 hz2
      dsimp only
      go_wp2_with fail
      refine ((K.out).1 mid e b d2 _ (B2.out) (M2.out).2 (by omega) (by omega) (by omega) (by omega)).mono ?_; rintro x3 w3 ⟨rfl,d3,hS3,hz3,hM3⟩; have B3:Aside (SWK enc k w0 blk off d3 w3):=hS3; have M3:Aside ((Mg (ltOf cf) mid e b d2 d3∧PermIn mid b d2 d3)∧d3.size=d.size):=⟨hM3,hz3⟩; clear hS3 hM3 hz3
      dsimp only
      go_wp2_with fail
      go_end0
      exact ⟨rfl,_,B3.out,FIN.out (M1.out).1 (permIn_mono _ _ _ _ _ _ (by omega) (by omega) (by omega) (M1.out).2.1) (fun _ _=>(M2.out).1) (fun c=>absurd c (by omega)) (fun _ _=>(M3.out).1) (fun c=>absurd c (by omega))⟩
     ·have c5I:(mid:Int) < (e:Int):=by omega
      have c6I:¬ (e:Int) < (b:Int):=by omega
      go_wp2_with fail
      refine ((K.out).2 r e _ (B0.out) (by omega) (by omega) (by omega)).mono ?_; rintro x1 w1 ⟨rfl,d1,hS1,hz1,hR1,hQ1⟩; have B1:Aside (SWK enc k w0 blk off d1 w1):=hS1; have M1:Aside (Rot d r m e d1∧PermIn r e d d1∧d1.size=d.size):=⟨hR1,hQ1,hz1⟩; clear hS1 hR1 hQ1 hz1
      dsimp only
      go_wp2_with fail
      refine ((K.out).1 a r mid d1 _ (B1.out) (M1.out).2.2 (by omega) (by omega) (by omega) (by omega)).mono ?_; rintro x2 w2 ⟨rfl,d2,hS2,hz2,hM2⟩; have B2:Aside (SWK enc k w0 blk off d2 w2):=hS2; have M2:Aside ((Mg (ltOf cf) a r mid d1 d2∧PermIn a mid d1 d2)∧d2.size=d.size):=⟨hM2,hz2⟩; clear hS2 hM2 hz2
      dsimp only
      go_wp2_with fail
      go_end0
      exact ⟨rfl,_,B2.out,FIN.out (M1.out).1 (permIn_mono _ _ _ _ _ _ (by omega) (by omega) (by omega) (M1.out).2.1) (fun _ _=>(M2.out).1) (fun c=>absurd c (by omega)) (fun c c2=>absurd c (by omega)) (fun _=>rfl)⟩
    ·have c3I:¬ (a:Int) < (r:Int):=by omega
     by_cases c5:e < b
     ·have c5I:(mid:Int) < (e:Int):=by omega
      have c6I:(e:Int) < (b:Int):=by omega
      go_wp2_with fail
      refine ((K.out).2 r e _ (B0.out) (by omega) (by omega) (by omega)).mono ?_; rintro x1 w1 ⟨rfl,d1,hS1,hz1,hR1,hQ1⟩; have B1:Aside (SWK enc k w0 blk off d1 w1):=hS1; have M1:Aside (Rot d r m e d1∧PermIn r e d d1∧d1.size=d.size):=⟨hR1,hQ1,hz1⟩; clear hS1 hR1 hQ1 hz1
      dsimp only
      go_wp2_with fail
      refine ((K.out).1 mid e b d1 _ (B1.out) (M1.out).2.2 (by omega) (by omega) (by omega) (by omega)).mono ?_; rintro x2 w2 ⟨rfl,d2,hS2,hz2,hM2⟩; have B2:Aside (SWK enc k w0 blk off d2 w2):=hS2; have M2:Aside ((Mg (ltOf cf) mid e b d1 d2∧PermIn mid b d1 d2)∧d2.size=d.size):=⟨hM2,hz2⟩; clear hS2 hM2 hz2
      dsimp only
      go_wp2_with fail
      go_end0
      exact ⟨rfl,_,B2.out,FIN.out (M1.out).1 (permIn_mono _ _ _ _ _ _ (by omega) (by omega) (by omega) (M1.out).2.1) (fun c c2=>absurd c (by omega)) (fun _=>rfl) (fun _ _=>(M2.out).1) (fun c=>absurd c (by omega))⟩
     ·have c5I:(mid:Int) < (e:Int):=by omega
      have c6I:¬ (e:Int) < (b:Int):=by omega
      go_wp2_with fail
      refine ((K.out).2 r e _ (B0.out) (by omega) (by omega) (by omega)).mono ?_; rintro x1 w1 ⟨rfl,d1,hS1,hz1,hR1,hQ1⟩; have B1:Aside (SWK enc k w0 blk off d1 w1):=hS1; have M1:Aside (Rot d r m e d1∧PermIn r e d d1∧d1.size=d.size):=⟨hR1,hQ1,hz1⟩; clear hS1 hR1 hQ1 hz1
      dsimp only
      go_wp2_with fail
      go_end0
      exact ⟨rfl,_,B1.out,FIN.out (M1.out).1 (permIn_mono _ _ _ _ _ _ (by omega) (by omega) (by omega) (M1.out).2.1) (fun c c2=>absurd c (by omega)) (fun _=>rfl) (fun c c2=>absurd c (by omega)) (fun _=>rfl)⟩
   ·have c1I:(r:Int) < (m:Int):=by omega
    have c2I:¬ (m:Int) < (e:Int):=by omega
    have c4I:¬ (r:Int) < (mid:Int):=by omega
    have c5I:(mid:Int) < (e:Int):=by omega
    have c6I:(e:Int) < (b:Int):=by omega
    by_cases c3:a < r
    ·have c3I:(a:Int) < (r:Int):=by omega
     go_wp2_with fail
     refine ((K.out).1 mid e b d _ (B0.out) rfl (by omega) (by omega) (by omega) (by omega)).mono ?_; rintro x1 w1 ⟨rfl,d1,hS1,hz1,hM1⟩; have B1:Aside (SWK enc k w0 blk off d1 w1):=hS1; have M1:Aside ((Mg (ltOf cf) mid e b d d1∧PermIn mid b d d1)∧d1.size=d.size):=⟨hM1,hz1⟩; clear hS1 hM1 hz1
     dsimp only
     go_wp2_with fail
     go_end0
     exact ⟨rfl,_,B1.out,FIN.out (stab.Rot.none (by omega) (by omega)) (permIn_refl _ _ _) (fun c c2=>absurd c (by omega)) (fun _=>rfl) (fun _ _=>(M1.out).1) (fun c=>absurd c (by omega))⟩
    ·have c3I:¬ (a:Int) < (r:Int):=by omega
     go_wp2_with fail
     refine ((K.out).1 mid e b d _ (B0.out) rfl (by omega) (by omega) (by omega) (by omega)).mono ?_; rintro x1 w1 ⟨rfl,d1,hS1,hz1,hM1⟩; have B1:Aside (SWK enc k w0 blk off d1 w1):=hS1; have M1:Aside ((Mg (ltOf cf) mid e b d d1∧PermIn mid b d d1)∧d1.size=d.size):=⟨hM1,hz1⟩; clear hS1 hM1 hz1
     dsimp only
     go_wp2_with fail
     go_end0
     exact ⟨rfl,_,B1.out,FIN.out (stab.Rot.none (by omega) (by omega)) (permIn_refl _ _ _) (fun c c2=>absurd c (by omega)) (fun _=>rfl) (fun _ _=>(M1.out).1) (fun c=>absurd c (by omega))⟩
end Go.Proofs.YtgcoidbaoigkeaaGreatDoor.sst
namespace Go.Proofs.YtgcoidbaoigkeaaGreatDoor.sst
open Go.Shelf Go.RowKit Go.Lib Go.Sort
open YtgcoidbaoigkeaaGreatDoor.stab (Rot Swr Z37)
variable {α:Type} [Inhabited α]
theorem Zjl (k:Nat) (zE:∀ w,(Go.sizeOf 39).run Tryz.prog w=.ok k w) (enc:α→List Value) (cf:α→α→Int) (g:Nat) (cb:Array Value) (blk off cap:Nat) (d0:Array α) (w0:World)
  (eg:∀ args w,(callFunc g args).run Tryz.prog w=.ok (.enter g args) w) (hC:CmpLays Tryz.prog g cb enc k cf blk off d0.size w0) (R:RowK enc k w0 blk off d0) (hsz:d0.size < 4611686018427387904):∀ (N a m b:Nat) (d:Array α) (w:World),b - a≤N→SWK enc k w0 blk off d w→d.size=d0.size→a < m→m < b→b≤d.size →
  Calls Tryz.prog 135 #[.slice (some ⟨blk,off,none⟩) d.size cap,.int .i64 a,.int .i64 m,.int .i64 b,.func (.func g) #[] cb] w fun e w'=>e=.returned (.tuple #[])∧∃ d',SWK enc k w0 blk off d' w'∧Mg (ltOf cf) a m b d d'∧PermIn a b d d'
 | 0,a,m,b,d,w,hN,hS,hds,h1,h2,h3=>by omega
 | N + 1,a,m,b,d,w,hN,hS,hds,h1,h2,h3=>by
  by_cases c1:m=a + 1
  ·exact Zp4 k zE enc cf g cb blk off cap a m b d0 d w0 w eg hC R hS hds h1 h2 h3 (by omega) c1
  ·by_cases c2:b=m + 1
   ·exact Zv9 k zE enc cf g cb blk off cap a m b d0 d w0 w eg hC R hS hds h1 h2 h3 (by omega) c1 c2
   ·have ih:=fun (a' m' b':Nat) (d':Array α) (w':World) (q0:b' - a' < b - a) (q1:SWK enc k w0 blk off d' w') (q2:d'.size=d0.size) (q3:a' < m') (q4:m' < b') (q5:b'≤d'.size)=>Zjl k zE enc cf g cb blk off cap d0 w0 eg hC R hsz N a' m' b' d' w' (by omega) q1 q2 q3 q4 q5
    by_cases c3:m≤(a + b) / 2
    ·exact Zva k zE enc cf g cb blk off cap a m b d0 d w0 w eg hC R hS hds h1 h2 h3 (by omega) (by omega) (by omega) c3 ih
    ·exact Zvb k zE enc cf g cb blk off cap a m b d0 d w0 w eg hC R hS hds h1 h2 h3 (by omega) (by omega) (by omega) (by omega) ih
end Go.Proofs.YtgcoidbaoigkeaaGreatDoor.sst
namespace Go.Proofs.YtgcoidbaoigkeaaGreatDoor.sst
open Go.Shelf Go.RowKit Go.Lib Go.Sort
variable {α:Type} [Inhabited α]
def Z18t:Ren:=⟨fun | 20=>134 | n=>n,fun | 24=>39 | 22=>54 | 3=>3 | 25=>135 | 4=>4 | 0=>0 | n=>n,fun | n=>n⟩
theorem insC:SlLaysF0.n20 Tryz.prog Z18t:={
 mixed:=by kernel_rfl
 f20:=⟨"slices.insertionSortCmpFunc[diorama/api.Frag]",by kernel_rfl,Tryz.func134.trans (congrArg some (by kernel_rfl))⟩
 t0:=Tryz.underlying0
 a0:=Tryz.isAgg0
 z0:=Tryz.sizeOf0
 v0:=Tryz.zeroValue0
 t3:=Tryz.underlying3
 a3:=Tryz.isAgg3
 z3:=Tryz.sizeOf3
 v3:=Tryz.zeroValue3
 t4:=Tryz.underlying4
 a4:=Tryz.isAgg4
 z4:=Tryz.sizeOf4
 v4:=Tryz.zeroValue4
 t22:=Tryz.underlying54
 a22:=Tryz.isAgg54
 z22:=Tryz.sizeOf54
 v22:=Tryz.zeroValue54
 t25:=Tryz.underlying135
 a25:=Tryz.isAgg135
 z25:=Tryz.sizeOf135
 v25:=Tryz.zeroValue135 }
theorem Zc8 (lt:α→α→Bool) (a b i:Nat) (hib:i < b):∀ (j:Nat) (d:Array α),a≤j→j≤i→b≤d.size→PermIn a b d (insInner lt a j d)
 | 0,d,_,_,_=>by
  unfold insInner
  exact permIn_refl _ _ _
 | j + 1,d,haj,hji,hb=>by
  unfold insInner
  split
  ·rename_i hc
   simp only [Bool.and_eq_true,decide_eq_true_eq] at hc
   have ih:=Zc8 lt a b i hib j (swp d (j + 1) j) (by omega) (by omega) (by rw [swp_size]; exact hb)
   exact permIn_trans _ _ _ a b (swp_permIn d a b (j + 1) j haj (by omega) (by omega) (by omega) hb) ih
  ·exact permIn_refl _ _ _
theorem Zc9 (lt:α→α→Bool) (a b:Nat):∀ (n i:Nat) (d:Array α),b - i=n→a≤i→b≤d.size→PermIn a b d (insOuter lt a b i d)
 | 0,i,d,hn,_,hb=>by
  rw [insOuter,if_neg (by omega)]
  exact permIn_refl _ _ _
 | n + 1,i,d,hn,hai,hb=>by
  have hlt:i < b:=by omega
  rw [insOuter,if_pos hlt]
  have h1:=Zc8 lt a b i hlt i d (by omega) (Nat.le_refl _) hb
  exact permIn_trans _ _ _ a b h1 (Zc9 lt a b n (i + 1) _ (by omega) (by omega) (by rw [h1.1]; exact hb))
theorem Z9l (lt:α→α→Bool) (d:Array α) (a b:Nat) (hb:b≤d.size):PermIn a b d (insertionSort lt d a b):=by
 unfold insertionSort
 exact Zc9 lt a b _ (a + 1) d rfl (by omega) hb
inductive Zzn (lt:α→α→Bool) (n:Nat):Nat→Array α→Array α→Prop
 | step {a:Nat} {d d':Array α}:a + 20≤n→Zzn lt n (a + 20) (insertionSort lt d a (a + 20)) d'→Zzn lt n a d d'
 | stop {a:Nat} {d:Array α}:¬ a + 20≤n→Zzn lt n a d (insertionSort lt d a n)
inductive Zzo (lt:α→α→Bool) (n bs:Nat):Nat→Array α→Array α→Prop
 | step {a:Nat} {d d1 d':Array α}:a + 2 * bs≤n→Mg lt a (a + bs) (a + 2 * bs) d d1→Zzo lt n bs (a + 2 * bs) d1 d'→Zzo lt n bs a d d'
 | last {a:Nat} {d d':Array α}:¬ a + 2 * bs≤n→a + bs < n→Mg lt a (a + bs) n d d'→Zzo lt n bs a d d'
 | stop {a:Nat} {d:Array α}:¬ a + 2 * bs≤n→¬ a + bs < n→Zzo lt n bs a d d
inductive StP (lt:α→α→Bool) (n:Nat):Nat→Array α→Array α→Prop
 | step {bs:Nat} {d d1 d':Array α}:bs < n→Zzo lt n bs 0 d d1→StP lt n (2 * bs) d1 d'→StP lt n bs d d'
 | stop {bs:Nat} {d:Array α}:¬ bs < n→StP lt n bs d d
theorem Zzn.det {lt:α→α→Bool} {n a:Nat} {d d1:Array α} (h:Zzn lt n a d d1):∀ d2,Zzn lt n a d d2→d1=d2:=by
 induction h with
 | step h1 _ ih=>intro d2 h'; cases h' with
  | step _ g=>exact ih _ g
  | stop g=>exact absurd h1 g
 | stop h1=>intro d2 h'; cases h' with
  | step g=>exact absurd g h1
  | stop=>rfl
theorem Zzo.det {lt:α→α→Bool} {n bs a:Nat} {d d1:Array α} (h:Zzo lt n bs a d d1):∀ d2,Zzo lt n bs a d d2→d1=d2:=by
 induction h with
 | step h1 h2 _ ih=>intro d2 h'; cases h' with
  | step _ g1 g2=>rw [h2.det _ g1] at ih; exact ih _ g2
  | last g=>exact absurd h1 g
  | stop g=>exact absurd h1 g
 | last h1 h2 h3=>intro d2 h'; cases h' with
  | step g=>exact absurd g h1
  | last _ _ g=>exact h3.det _ g
  | stop _ g=>exact absurd h2 g
 | stop h1 h2=>intro d2 h'; cases h' with
  | step g=>exact absurd g h1
  | last _ g=>exact absurd g h2
  | stop=>rfl
theorem StP.det {lt:α→α→Bool} {n bs:Nat} {d d1:Array α} (h:StP lt n bs d d1):∀ d2,StP lt n bs d d2→d1=d2:=by
 induction h with
 | step h1 h2 _ ih=>intro d2 h'; cases h' with
  | step _ g1 g2=>rw [h2.det _ g1] at ih; exact ih _ g2
  | stop g=>exact absurd h1 g
 | stop h1=>intro d2 h'; cases h' with
  | step g=>exact absurd g h1
  | stop=>rfl
def Stb (lt:α→α→Bool) (n:Nat) (d d':Array α):Prop:=∃ d1,Zzn lt n 0 d d1∧StP lt n 20 d1 d'
theorem Stb.det {lt:α→α→Bool} {n:Nat} {d d1 d2:Array α} (h1:Stb lt n d d1) (h2:Stb lt n d d2):d1=d2:=by
 obtain ⟨x,a1,a2⟩:=h1
 obtain ⟨y,b1,b2⟩:=h2
 rw [a1.det _ b1] at a2
 exact a2.det _ b2
set_option maxHeartbeats 6400000 in
set_option maxRecDepth 1000000 in
theorem Z18u (k:Nat) (zE:∀ w,(Go.sizeOf 39).run Tryz.prog w=.ok k w) (enc:α→List Value) (cf:α→α→Int) (g:Nat) (cb:Array Value) (blk off cap n:Nat) (d:Array α) (w:World)
  (eg:∀ args w,(callFunc g args).run Tryz.prog w=.ok (.enter g args) w) (hC:CmpLays Tryz.prog g cb enc k cf blk off d.size w) (R:RowK enc k w blk off d) (hn:n=d.size) (hsz:d.size < 1000000000) :
  Calls Tryz.prog 91 #[.slice (some ⟨blk,off,none⟩) n cap,.int .i64 n,.func (.func g) #[] cb] w fun e w'=>e=.returned (.tuple #[])∧∃ d',SWK enc k w blk off d' w'∧Stb (ltOf cf) n d d'∧PermIn 0 n d d':=by
 have mixed:=mix; have t3:=Tryz.underlying3; have a3:=Tryz.isAgg3; have z3:=Tryz.sizeOf3; have v3:=Tryz.zeroValue3; have t4:=Tryz.underlying4; have a4:=Tryz.isAgg4
 have t22:=Tryz.underlying54; have u22:=run_underlying Tryz.underlying54; have aE:=Tryz.isAgg39
 have e29:∀ args w,(callFunc 134 args).run Tryz.prog w=.ok (.enter 134 args) w:=enters_of Tryz.func134 (by kernel_rfl) rfl
 have e30:∀ args w,(callFunc 135 args).run Tryz.prog w=.ok (.enter 135 args) w:=enters_of Tryz.func135 (by kernel_rfl) rfl
 have hS0:SWK enc k w blk off d w:=SWK.start R.hH
 have ins:∀ (a b:Nat) (dk:Array α) (W:World),SWK enc k w blk off dk W→dk.size=n→a≤b→b≤n →
   Calls Tryz.prog 134 #[.slice (some ⟨blk,off,none⟩) n cap,.int .i64 a,.int .i64 b,.func (.func g) #[] cb] W fun e w''=>e=.returned (.tuple #[])∧SWK enc k w blk off (insertionSort (ltOf cf) dk a b) w''∧(insertionSort (ltOf cf) dk a b).size=n∧PermIn a b dk (insertionSort (ltOf cf) dk a b):=fun a b dk W hS hs h1 h2=>by
  have hC':CmpLays Tryz.prog g cb enc k cf blk off dk.size W:=fun m os dk' hs' x y=>by
   have h:=hS.on R.hblk m dk' os hs'
   have:=h.cmp hC (by omega) x y 0 #[]
   simpa only [World.drewN_zero,grow_empty] using this
  have hP:=Z9l (ltOf cf) dk a b (by omega)
  have:=AnyQ.insertionSortCmpFunc insC k (fun w=>Tryz.isAgg39 w) zE enc R.hk R.h1 cf g cb blk off cap a b dk W eg hC' (hS.holds R.hblk R.hH (hs.trans hn)) (hS.lt R.hblk) h1 (by omega) (by omega)
  rw [hs] at this
  refine this.mono ?_
  rintro e w'' ⟨he,m,os,rfl⟩
  exact ⟨he,hS.on R.hblk m _ os hP.1,hP.1.trans hs,hP⟩
 have mer:∀ (a m b:Nat) (dk:Array α) (W:World),SWK enc k w blk off dk W→dk.size=n→a < m→m < b→b≤n →
   Calls Tryz.prog 135 #[.slice (some ⟨blk,off,none⟩) n cap,.int .i64 a,.int .i64 m,.int .i64 b,.func (.func g) #[] cb] W fun e w''=>e=.returned (.tuple #[])∧∃ d'',SWK enc k w blk off d'' w''∧d''.size=n∧Mg (ltOf cf) a m b dk d''∧PermIn a b dk d'':=fun a m b dk W hS hs h1 h2 h3=>by
  rw [← hs] at h3 ⊢
  exact (Zjl k zE enc cf g cb blk off cap d w eg hC R (by omega) (b - a) a m b dk W (Nat.le_refl _) hS (hs.trans hn) h1 h2 h3).mono fun _ _ ⟨he,d'',hw,hM,hP⟩=>⟨he,d'',hw,hP.1,hM,hP⟩
 have hnz:n < 1000000000:=by omega
 have N:Aside (n=d.size):=hn
 clear hC hn hsz
 go_enter Tryz.func91,Tryz.ntmps91
 go_wp2
 go_loopg [7,8] n (fun kk s5 s6 wr=>∃ (a:Nat) (dk:Array α),s5=.int .i64 a∧s6=.int .i64 ((a:Int) + 20)∧a≤n∧n - a≤kk∧SWK enc k w blk off dk wr∧Hid (PermIn 0 n d dk∧∀ d',Zzn (ltOf cf) n a dk d'→Zzn (ltOf cf) n 0 d d'))
 case atStart=>exact ⟨0,d,rfl,rfl,by omega,by omega,hS0,(show Hid _ from ⟨permIn_refl _ _ _,fun _ h=>h⟩)⟩
 case round =>
  obtain ⟨a,dk,rfl,rfl,han,hk,hS,hPB⟩:=hrel
  have hz:dk.size=n:=by have:=hPB.out.1.1; have:=N.out; omega
  have A:Aside (PermIn 0 n d dk∧(∀ d',Zzn (ltOf cf) n a dk d'→Zzn (ltOf cf) n 0 d d')∧dk.size=d.size):=⟨hPB.out.1,hPB.out.2,hPB.out.1.1⟩
  by_cases hlt:a + 20≤n
  ·have hc:=ins a (a + 20) dk wr hS hz (by omega) hlt
   rw [show (((a + 20:Nat):Int))=(a:Int) + 20 by omega] at hc
   clear hS hPB ins mer hz hS0
   have hltI:(a:Int) + 20≤n:=by omega
   go_wp2_with (go_at_fn 134; refine hc.mono ?_; rintro e w1 ⟨rfl,hS1,hz1,hP1⟩)
   go_roundg (n - (a + 20))
   case measure=>omega
   case rel =>
    obtain ⟨hP,hB,hs⟩:=A.out
    exact ⟨a + 20,_,by congr 1,by congr 1,by omega,by omega,hS1,(show Hid _ from ⟨permIn_trans _ _ _ _ _ hP (permIn_mono _ _ _ _ _ _ (by omega) (by omega) (by have:=N.out; omega) hP1),fun d' h=>hB d' (.step hlt h)⟩)⟩
  ·have hc:=ins a n dk wr hS hz han (Nat.le_refl _)
   have hgeI:¬ (a:Int) + 20≤n:=by omega
   clear hS hPB hS0 ins hz
   go_wp2_with (go_at_fn 134; refine hc.mono ?_; rintro e w1 ⟨rfl,hS1,hz1,hP1⟩)
   obtain ⟨d1,hd1⟩:∃ d1,d1=insertionSort (ltOf cf) dk a n:=⟨_,rfl⟩
   have A1:Aside (SWK enc k w blk off d1 w1∧PermIn 0 n d d1∧Zzn (ltOf cf) n 0 d d1):=by
    obtain ⟨hP,hB,hs⟩:=A.out
    rw [hd1]
    exact ⟨hS1,permIn_trans _ _ _ _ _ hP (permIn_mono _ _ _ _ _ _ (by omega) (by omega) (by have:=N.out; omega) hP1),hB _ (.stop hlt)⟩
   clear A hS1 hz1 hP1 hgeI hlt hk hd1 hc
   go_loopg [6] n (fun kk s4 wr=>∃ (bs:Nat) (dk:Array α),s4=.int .i64 bs∧0 < bs∧bs≤2 * n + 20∧n - bs≤kk∧SWK enc k w blk off dk wr∧Hid (PermIn 0 n d dk∧∀ d',StP (ltOf cf) n bs dk d'→StP (ltOf cf) n 20 d1 d'))
   case atStart =>
    obtain ⟨hS,hP,hB⟩:=A1.out
    exact ⟨20,d1,rfl,by omega,by omega,by omega,hS,(show Hid _ from ⟨hP,fun _ h=>h⟩)⟩
   case round =>
    obtain ⟨bs,dk,rfl,hb0,hbn,hk,hS,hPB⟩:=hrel
    by_cases hlt:bs < n
    ·have A2:Aside (SWK enc k w blk off dk wr∧PermIn 0 n d dk∧∀ d',StP (ltOf cf) n bs dk d'→StP (ltOf cf) n 20 d1 d'):=⟨hS,hPB.out.1,hPB.out.2⟩
     have M:Aside (∀ (a m b:Nat) (dk:Array α) (W:World),SWK enc k w blk off dk W→dk.size=n→a < m→m < b→b≤n →
   Calls Tryz.prog 135 #[.slice (some ⟨blk,off,none⟩) n cap,.int .i64 a,.int .i64 m,.int .i64 b,.func (.func g) #[] cb] W fun e w''=>e=.returned (.tuple #[])∧∃ d'',SWK enc k w blk off d'' w''∧d''.size=n∧Mg (ltOf cf) a m b dk d''∧PermIn a b dk d''):=mer
     clear hS hPB mer
     go_wp2
     go_loopg [7,8] n (fun kk s5 s6 wr=>∃ (a:Nat) (dj:Array α),s5=.int .i64 a∧s6=.int .i64 ((a:Int) + 2 * bs)∧a≤n∧n - a≤kk∧SWK enc k w blk off dj wr∧Hid (PermIn 0 n d dj∧∀ d',Zzo (ltOf cf) n bs a dj d'→Zzo (ltOf cf) n bs 0 dk d'))
     case atStart =>
      obtain ⟨hS,hP,hB⟩:=A2.out
      exact ⟨0,dk,rfl,by congr 1; omega,by omega,by omega,hS,(show Hid _ from ⟨hP,fun _ h=>h⟩)⟩
     case round =>
      obtain ⟨a',dj,rfl,rfl,han',hk',hS,hPB⟩:=hrel
      have hz:dj.size=n:=by have:=hPB.out.1.1; have:=N.out; omega
      have A:Aside (SWK enc k w blk off dj wr∧PermIn 0 n d dj∧(∀ d',Zzo (ltOf cf) n bs a' dj d'→Zzo (ltOf cf) n bs 0 dk d')∧dj.size=d.size):=⟨hS,hPB.out.1,hPB.out.2,hPB.out.1.1⟩
      by_cases hlt2:a' + 2 * bs≤n
      ·have hc:=M.out a' (a' + bs) (a' + 2 * bs) dj wr hS hz (by omega) (by omega) hlt2
       rw [show (((a' + bs:Nat):Int))=(a':Int) + bs by omega,show (((a' + 2 * bs:Nat):Int))=(a':Int) + 2 * bs by omega] at hc
       clear hS hPB hz
       have hltI:(a':Int) + 2 * bs≤n:=by omega
       go_wp2_with (go_at_fn 135; refine hc.mono ?_; rintro e w2 ⟨rfl,d2,hS2,hz2,hM2,hP2⟩)
       go_roundg (n - (a' + 2 * bs))
       case measure=>omega
       case rel =>
        obtain ⟨hS,hP,hB,hs⟩:=A.out
        exact ⟨a' + 2 * bs,d2,by congr 1,by congr 1,by omega,by omega,hS2,(show Hid _ from ⟨permIn_trans _ _ _ _ _ hP (permIn_mono _ _ _ _ _ _ (by omega) (by omega) (by have:=N.out; omega) hP2),fun d' h=>hB d' (.step hlt2 hM2 h)⟩)⟩
      ·have hgeI:¬ (a':Int) + 2 * bs≤n:=by omega
       by_cases hm:a' + bs < n
       ·have hc:=M.out a' (a' + bs) n dj wr hS hz (by omega) (by omega) (Nat.le_refl _)
        rw [show (((a' + bs:Nat):Int))=(a':Int) + bs by omega] at hc
        clear hS hPB hz
        have hltI:(a':Int) + bs < n:=by omega
        go_wp2_with (go_at_fn 135; refine hc.mono ?_; rintro e w2 ⟨rfl,d2,hS2,hz2,hM2,hP2⟩)
        go_roundg (n - 2 * bs)
        case measure=>omega
        case rel =>
         obtain ⟨hS,hP,hB,hs⟩:=A.out
         obtain ⟨_,hP',hB'⟩:=A2.out
         exact ⟨2 * bs,d2,by congr 1; omega,by omega,by omega,by omega,hS2,(show Hid _ from ⟨permIn_trans _ _ _ _ _ hP (permIn_mono _ _ _ _ _ _ (by omega) (by omega) (by have:=N.out; omega) hP2),fun d' h=>hB' d' (.step hlt (hB _ (.last hlt2 hm hM2)) h)⟩)⟩
       ·clear hPB hz
        have hltI:¬ (a':Int) + bs < n:=by omega
        go_wp2
        go_roundg (n - 2 * bs)
        case measure=>omega
        case rel =>
         obtain ⟨hS,hP,hB,hs⟩:=A.out
         obtain ⟨_,hP',hB'⟩:=A2.out
         exact ⟨2 * bs,dj,by congr 1; omega,by omega,by omega,by omega,hS,(show Hid _ from ⟨hP,fun d' h=>hB' d' (.step hlt (hB _ (.stop hlt2 hm)) h)⟩)⟩
    ·have hltI:¬ (bs:Int) < n:=by omega
     go_wp2
     go_end0
     obtain ⟨_,_,hI⟩:=A1.out
     exact ⟨rfl,dk,hS,⟨d1,hI,hPB.out.2 _ (.stop hlt)⟩,hPB.out.1⟩
set_option maxHeartbeats 1600000 in
set_option maxRecDepth 1000000 in
theorem sortStable_c (k:Nat) (zE:∀ w,(Go.sizeOf 39).run Tryz.prog w=.ok k w) (enc:α→List Value) (cf:α→α→Int) (g:Nat) (cb:Array Value) (blk off cap n:Nat) (d:Array α) (w:World)
  (eg:∀ args w,(callFunc g args).run Tryz.prog w=.ok (.enter g args) w) (hC:CmpLays Tryz.prog g cb enc k cf blk off d.size w) (R:RowK enc k w blk off d) (hn:n=d.size) (hsz:d.size < 1000000000) :
  Calls Tryz.prog 57 #[.slice (some ⟨blk,off,none⟩) n cap,.func (.func g) #[] cb] w fun e w'=>e=.returned (.tuple #[])∧∃ d',SWK enc k w blk off d' w'∧Stb (ltOf cf) n d d'∧PermIn 0 n d d':=by
 have mixed:=mix; have t3:=Tryz.underlying3; have a3:=Tryz.isAgg3; have z3:=Tryz.sizeOf3
 have t22:=Tryz.underlying54; have u22:=run_underlying Tryz.underlying54
 have e91:∀ args w,(callFunc 91 args).run Tryz.prog w=.ok (.enter 91 args) w:=enters_of Tryz.func91 (by kernel_rfl) rfl
 have hc:=Z18u k zE enc cf g cb blk off cap n d w eg hC R hn hsz
 clear hC R hn hsz
 go_enter Tryz.func57,Tryz.ntmps57
 go_wp2_with (go_at_fn 91; refine hc.mono ?_; rintro e w1 ⟨rfl,h⟩)
 go_end0
 exact ⟨rfl,h⟩
end Go.Proofs.YtgcoidbaoigkeaaGreatDoor.sst
namespace Go.Proofs.YtgcoidbaoigkeaaGreatDoor.fix
open Go.RowKit Go.Sx Go.Sort
noncomputable def Zyl (I:List Int) (f:Int):Int:=co (I.getD (co f 1).toNat 0) 11
structure Fg (M:Nat) where
 v:Int
 h:0≤co v 1∧co v 1≤(M:Int)
theorem co_fz:co (cod [0,0,0,0,0,0]) 1=0:=by unfold co; rw [Z4]; rfl
noncomputable instance (M:Nat):Inhabited (Fg M):=⟨⟨cod [0,0,0,0,0,0],by rw [co_fz]; exact ⟨Int.le_refl _,Int.natCast_nonneg _⟩⟩⟩
noncomputable def cfB {M:Nat} (I:List Int) (x y:Fg M):Int:=Lib.compareInt (Zyl I x.v) (Zyl I y.v)
open Classical in
noncomputable def Zi0 (I:List Int) (l:List Int):List Int :=
 if h:∃ d d':Array (Fg (I.length - 1)),d.toList.map Fg.v=l∧sst.Stb (ltOf (cfB I)) d.size d d'∧PermIn 0 d.size d d' then (Classical.choose (Classical.choose_spec h)).toList.map Fg.v else l
noncomputable def Z1f4 (x:List Int):List Int:=[cod (Zi0 (dec (x.getD 1 0)) (dec (x.getD 0 0)))]
def Zsa (x:List Int):Prop:=∀ f ∈ dec (x.getD 0 0),0≤co f 1∧co f 1 < ((dec (x.getD 1 0)).length:Int)
def fCst (s:St) (args:List SV):Option (List B × List E × (Nat→St × SV)):=match args with
 | [.w (.o (.go (.o n))),.w (.o (.f gf [(nb,0)]))]=>match s.rows[n]?,s.mem[nb]?,s.hs[0]? with
  | some r,some b,some (ks,cl)=>match b.cells with
   | .go (.a 0)::_=>if ((decide (gf=58) && (r.live && b.live)) && (decide (s.flr≤n) && decide (r.ty=39))) && (Z3d r.ks Z7f && K.eqvL ks Z39)
     then some ([Z65 (Zt5 r.c) (.c 1000000)],[r.c,cl],fun nv=>({ s with rows:=s.rows.set n { r with c:=.v nv },nv:=nv + 1 },.t [])) else none
   | _=>none
  | _,_,_=>none
 | _=>none
noncomputable def Zp5:Sum:=⟨57,[],[],Z1f4,Zsa,gl0,some fCst⟩
def i_cst:Inf:=⟨[some ⟨1,0⟩],fun _=>[none]⟩
noncomputable def Zdg (b:Int):List Int:=[co b 3,co b 4,co b 5,co b 6,co b 7,co b 8,co b 9,co b 10,co b 11]
noncomputable def Zha (I T:List Int) (f:Int):List Int:=ex4 (Z9t (Zdg (I.getD (co f 1).toNat 0)) T (co f 4) (co f 5))
noncomputable def Z4e (x:List Int):List Int:=ex4 (Z9t (Zdg ((dec (x.getD 0 0)).getD (x.getD 4 0).toNat 0)) (dec (x.getD 1 0)) (x.getD 7 0) (x.getD 8 0))
def Z9d:List (Option Iv):=[none,none,none]++zs 6
def Zym (x:List Int):Prop:=Zr Z9d x∧Z3o (dec (x.getD 0 0)) (dec (x.getD 1 0))∧Zc4 (dec (x.getD 1 0))∧0≤x.getD 4 0∧x.getD 4 0 < ((dec (x.getD 0 0)).length:Int)
def Zyn (v:List (Option Iv)):List (Option Iv):=ivs 4 0 255
noncomputable def Z6s:Sum:=mkP gl0 55 [Scn,An 6] [Cl] Zym Z4e
def Zvd:Inf:=⟨[some ⟨1,0⟩],Zyn⟩
noncomputable def Z5d (I T F g:List Int):List Int:=if (Zv7 I F).getD 6 0=0 then g else Zha I T (cod ((Zv7 I F).take 6))
open Classical in
noncomputable def Z87 (I F:List Int):List Int:=F.filter fun f=>decide (co (I.getD (co f 1).toNat 0) 10 ≠ 0∧((Zv7 I F).getD 6 0=0∨(Zv7 I F).getD 0 0 < co f 0))
noncomputable def Zsb (I T:List Int) (g:List Int) (f:Int):List Int:=Z9c (Zha I T f++g)
noncomputable def Zzp (I T F g:List Int):List Int:=(Zi0 I (Z87 I F)).foldl (Zsb I T) (Z5d I T F g)
noncomputable def Zlr (x:List Int):List Int:=ex4 (Zzp (dec (x.getD 0 0)) (dec (x.getD 1 0)) ((dec (x.getD 2 0)).filterMap (Z1y (x.getD 7 0) (x.getD 8 0))) [x.getD 3 0,x.getD 4 0,x.getD 5 0,x.getD 6 0])
def Zls:List (Option Iv):=[none,none,none]++ivs 4 0 255++[zz,zz]
def Z18v (x:List Int):Prop:=Zr Zls x∧Zlo (dec (x.getD 0 0)) (dec (x.getD 2 0))∧Z3o (dec (x.getD 0 0)) (dec (x.getD 1 0))∧Zc4 (dec (x.getD 1 0))
def Z18w (v:List (Option Iv)):List (Option Iv):=ivs 4 0 255
noncomputable def Zp6:Sum:=mkP gl0 33 [Scn,Cl,I1,I1] [Cl] Z18v Zlr
def Z1c9:Inf:=⟨[some ⟨1,0⟩],Z18w⟩
end Go.Proofs.YtgcoidbaoigkeaaGreatDoor.fix
namespace Go.Proofs.YtgcoidbaoigkeaaGreatDoor.sst
open Go.Shelf Go.RowKit Go.Lib Go.Sort
def Z18x:Ren:=⟨fun | 122=>59 | 215=>92 | n=>n,fun | 3=>3 | 4=>4 | n=>n,fun | n=>n⟩
theorem cmpC:Lays.n122 Tryz.prog Z18x:={
 mixed:=by kernel_rfl
 f122:=Tryz.func59.trans (congrArg some (by kernel_rfl))
 f215:=Tryz.func92.trans (congrArg some (by kernel_rfl))
 t3:=Tryz.underlying3
 a3:=Tryz.isAgg3
 z3:=Tryz.sizeOf3
 v3:=Tryz.zeroValue3
 t4:=Tryz.underlying4
 a4:=Tryz.isAgg4
 z4:=Tryz.sizeOf4
 v4:=Tryz.zeroValue4 }
theorem Z18y (W:World) (a b:Obj):((W.alloc a).alloc b).heap.size=W.heap.size + 2:=by
 show ((W.heap.push a).push b).size=_
 rw [Array.size_push,Array.size_push]
theorem Z1f5 (W:World) (b:Obj) (cs:Array Value) (t:TypeId) (f:Nat × Nat) (k:Nat):((W.alloc (.cells cs t f)).alloc b).cell? ⟨W.heap.size,k,none⟩=cs[k]?:=by
 have h:((W.alloc (.cells cs t f)).alloc b).heap[W.heap.size]?=some (.cells cs t f):=by
  show ((W.heap.push _).push b)[W.heap.size]?=_
  rw [Array.getElem?_push,if_neg (by rw [Array.size_push]; omega),Array.getElem?_push,if_pos rfl]
 unfold World.cell?
 simp only [h]
 rfl
theorem Z1f6 (W:World) (a:Obj) (cs:Array Value) (t:TypeId) (f:Nat × Nat) (k:Nat):((W.alloc a).alloc (.cells cs t f)).cell? ⟨W.heap.size + 1,k,none⟩=cs[k]?:=by
 have h:((W.alloc a).alloc (.cells cs t f)).heap[W.heap.size + 1]?=some (.cells cs t f):=by
  show ((W.heap.push a).push _)[W.heap.size + 1]?=_
  rw [Array.getElem?_push,if_pos (by rw [Array.size_push])]
 unfold World.cell?
 simp only [h]
 rfl
set_option maxHeartbeats 4000000 in
set_option maxRecDepth 1000000 in
theorem bins_c (W:World) (bs bI off len cap i j:Nat) (x0 x2 x3 x4 x5 y0 y2 y3 y4 y5 zx zy:Int) (hb:bs < W.heap.size) (hI:bI < W.heap.size) (hS:W.cell? ⟨bs,0,none⟩=some (.slice (some ⟨bI,off,none⟩) len cap)) (hi:i < len) (hj:j < len)
  (hx:W.cell? ⟨bI,off + i * 18 + 3 + 8,none⟩=some (.int .i64 zx)) (hy:W.cell? ⟨bI,off + j * 18 + 3 + 8,none⟩=some (.int .i64 zy)) :
  Calls Tryz.prog 58 #[.agg #[.int .i64 x0,.int .i64 i,.int .i64 x2,.int .i64 x3,.int .i64 x4,.int .i64 x5],.agg #[.int .i64 y0,.int .i64 j,.int .i64 y2,.int .i64 y3,.int .i64 y4,.int .i64 y5],.pointer (some ⟨bs,0,none⟩)] W fun e w'=>e=.returned (.int .i64 (Lib.compareInt zx zy))∧∃ q os',w'=grow (W.drewN q) os':=by
 have mixed:=mix
 have e59:∀ args w,(callFunc 59 args).run Tryz.prog w=.ok (.enter 59 args) w:=enters_of Tryz.func59 (by kernel_rfl) rfl
 have hcon:=fun W'=>Any.cmp_Compare_int cmpC zx zy W'
 change ∀ W',Calls Tryz.prog 59 _ _ _ at hcon
 generalize Lib.compareInt zx zy=r at hcon ⊢
 have hcg:∀ w n' os',Calls Tryz.prog 59 #[.int .i64 zx,.int .i64 zy] (grow (World.drewN w n') os') fun e w''=>e=.returned (.int .i64 r)∧∃ q os'',w''=grow ((grow (World.drewN w n') os').drewN q) os'':=fun w n' os' =>
  (hcon _).mono fun _ _ ⟨he,hw⟩=>⟨he,0,#[],by rw [hw,World.drewN_zero,grow_empty]⟩
 obtain ⟨W2,hW2⟩:∃ W2,W2=(W.alloc (.cells #[.int .i64 x0,.int .i64 i,.int .i64 x2,.int .i64 x3,.int .i64 x4,.int .i64 x5] 39 (0,0))).alloc (.cells #[.int .i64 y0,.int .i64 j,.int .i64 y2,.int .i64 y3,.int .i64 y4,.int .i64 y5] 39 (0,0)):=⟨_,rfl⟩
 have old:∀ {b o:Nat} {v:Value},b < W.heap.size→W.cell? ⟨b,o,none⟩=some v→W2.cell? ⟨b,o,none⟩=some v:=fun hb h=>by
  rw [hW2,alloc_eq_grow,alloc_eq_grow,grow_grow,cell?_grow _ _ _ (by exact hb)]
  exact h
 have hz:W2.heap.size=W.heap.size + 2:=by rw [hW2]; exact Z18y _ _ _
 have c1:=fun n os=>cell_grown (w:=W2) (a:=⟨bs,0,none⟩) (by show bs < _; omega) (old hb hS) n os
 have c2:=fun n os=>cell_grown (w:=W2) (a:=⟨bI,off + i * 18 + 3 + 8,none⟩) (by show bI < _; omega) (old hI hx) n os
 have c3:=fun n os=>cell_grown (w:=W2) (a:=⟨bI,off + j * 18 + 3 + 8,none⟩) (by show bI < _; omega) (old hI hy) n os
 have c4:=fun n os=>cell_grown (w:=W2) (a:=⟨W.heap.size,1,none⟩) (v:=.int .i64 i) (by show W.heap.size < _; omega) (by rw [hW2]; exact Z1f5 _ _ _ _ _ _) n os
 have c5:=fun n os=>cell_grown (w:=W2) (a:=⟨W.heap.size + 1,1,none⟩) (v:=.int .i64 j) (by show W.heap.size + 1 < _; omega) (by rw [hW2]; exact Z1f6 _ _ _ _ _ _) n os
 have FIN:Aside (∀ nq osq,∃ q os',grow (W2.drewN nq) osq=grow (W.drewN q) os'):=fun nq osq=>⟨nq,_,by rw [hW2,alloc_eq_grow,alloc_eq_grow,grow_grow,show ∀ X:Array Obj,(grow W X).drewN nq=grow (W.drewN nq) X from fun _=>rfl,grow_grow]⟩
 have hiI:(i:Int) < (len:Int):=by omega
 have hjI:(j:Int) < (len:Int):=by omega
 go_enter Tryz.func58,Tryz.ntmps58
 go_wp2_with fail
 simp only [← hW2]
 clear hW2 old hz hS hx hy hb hI
 go_quiet_grown (first | (go_at_fn 59; refine Calls.grown_of (hcg _ _ _)))
 go_wp2
 go_ret
 exact ⟨rfl,FIN.out _ _⟩
end Go.Proofs.YtgcoidbaoigkeaaGreatDoor.sst
namespace Go.Proofs.YtgcoidbaoigkeaaGreatDoor.fix
open Go.RowKit Go.Sx
theorem Z1e {x:List Int} {o:Nat}:Zyd x o=true↔((-131072≤x.getD o 0∧x.getD o 0≤131072)∧(-131072≤x.getD (o + 1) 0∧x.getD (o + 1) 0≤131072)∧(1≤x.getD (o + 2) 0∧x.getD (o + 2) 0≤65536) ∧
 (0≤x.getD (o + 3) 0∧x.getD (o + 3) 0≤255)∧(0≤x.getD (o + 4) 0∧x.getD (o + 4) 0≤255)):=decide_eq_true_iff
noncomputable def Zai:List Sum:=[Z1m]
def Z13g:List Inf:=[Z7y]
def Zhb:TX:=(.ite (.or (.or (.lt (.v 0) (.c (-4096))) (.lt (.c 4096) (.v 0))) (.or (.or (.lt (.v 1) (.c (-4096))) (.lt (.c 4096) (.v 1))) (.or (.or (.lt (.v 2) (.c (-4096))) (.lt (.c 4096) (.v 2))) (.or (.or (.lt (.v 12) (.c 1)) (.lt (.c 64) (.v 12))) (.or (.or (.lt (.v 13) (.c 256)) (.lt (.c 4096) (.v 13))) (.or (.or (.lt (.v 14) (.c 1)) (.lt (.c 64) (.v 14))) (.or (.or (.lt (.v 15) (.c 1)) (.lt (.c 64) (.v 15))) (.or (.or (.lt (.v 3) (.c (-256))) (.lt (.c 256) (.v 3))) (.or (.or (.lt (.v 4) (.c (-256))) (.lt (.c 256) (.v 4))) (.or (.or (.lt (.v 5) (.c (-256))) (.lt (.c 256) (.v 5))) (.or (.or (.lt (.v 6) (.c (-256))) (.lt (.c 256) (.v 6))) (.or (.or (.lt (.v 7) (.c (-256))) (.lt (.c 256) (.v 7))) (.or (.or (.lt (.v 8) (.c (-256))) (.lt (.c 256) (.v 8))) (.or (.or (.lt (.v 9) (.c (-256))) (.lt (.c 256) (.v 9))) (.or (.or (.lt (.v 10) (.c (-256))) (.lt (.c 256) (.v 10))) (.or (.lt (.v 11) (.c (-256))) (.lt (.c 256) (.v 11)))))))))))))))))) (.ret [(.c 0),(.c 0),(.c 0),(.c 0),(.c 0),(.c 150)])
(.ite (.or (.or (.lt (.v 16) (.c (-32768))) (.lt (.c 32768) (.v 16))) (.or (.or (.lt (.v 17) (.c (-32768))) (.lt (.c 32768) (.v 17))) (.or (.or (.lt (.v 18) (.c (-32768))) (.lt (.c 32768) (.v 18))) (.or (.or (.lt (.v 19) (.c 0)) (.lt (.c 255) (.v 19))) (.or (.lt (.v 20) (.c 0)) (.lt (.c 255) (.v 20))))))) (.ret [(.c 0),(.c 0),(.c 0),(.c 0),(.c 0),(.c 8)])
(.ite (.lt (.v 18) (.v 13)) (.ret [(.c 0),(.c 0),(.c 0),(.c 0),(.c 0),(.c 6)])
(.callp 0 [(.mul (.mul (.c 8) (.v 12)) (.v 16)),(.v 18)] (.callp 0 [(.mul (.mul (.c 8) (.v 12)) (.v 17)),(.v 18)] (.ret [(.add (.v 21) (.mul (.c 4) (.v 14))),(.sub (.mul (.c 4) (.v 15)) (.v 23)),(.quo (.c 16777216) (.v 18)),(.v 19),(.v 20),(.c 0)]))))))
theorem Zyo:Z13 (Zs [] Z13g [] Z4w (Zn Tryz.prog Z78 gl0 Zai 1000 124 [An 16,An 5] [An 5,I1]))=Zhb:=by kernel_rfl
theorem Z1f7:Gok Tryz.prog Zai:=(fix.one Z6m)
theorem Z1f8:Zi Zai Z13g:=(Z3 Z4u Z6)
theorem Z18z:Z5c.ok Tryz.prog:=Sum.okF facts.mixed Z1f7 Z1f8 Zyo rfl (fun _=>rfl) (by
 intro xs hx hp
 obtain ⟨a0,a1,a2,a3,a4,a5,a6,a7,a8,a9,a10,a11,a12,a13,a14,a15,a16,a17,a18,a19,a20,rfl⟩:=len21 hx
 by_cases hc0:Z2b [a0,a1,a2,a3,a4,a5,a6,a7,a8,a9,a10,a11,a12,a13,a14,a15,a16,a17,a18,a19,a20] 0=true
 ·by_cases hc1:Z16 [a0,a1,a2,a3,a4,a5,a6,a7,a8,a9,a10,a11,a12,a13,a14,a15,a16,a17,a18,a19,a20] 16=true
  ·by_cases hc2:¬ a18 < a13
   ·have hd0:=hc0
    try simp only [Z2b,Z2p,Zv,Z1h3,Zg,Z16,Zd,TX.sat,XB.prop,X.den,Z1gw,Z1gx,Z1gq,Z1gr,Z1gu,Z1gv,Z1gs,Z1gt,mkS,mkP,and_true,true_and,Z1h1,Z1h2,not_or,not_and,Z1gy,ne_eq,Z1gz,Z1h0,Nat.reduceAdd,Nat.zero_add] at hd0
    have hd1:=hc1
    try simp only [Z2b,Z2p,Zv,Z1h3,Zg,Z16,Zd,TX.sat,XB.prop,X.den,Z1gw,Z1gx,Z1gq,Z1gr,Z1gu,Z1gv,Z1gs,Z1gt,mkS,mkP,and_true,true_and,Z1h1,Z1h2,not_or,not_and,Z1gy,ne_eq,Z1gz,Z1h0,Nat.reduceAdd,Nat.zero_add] at hd1
    have hd2:=hc2
    try simp only [Z2b,Z2p,Zv,Z1h3,Zg,Z16,Zd,TX.sat,XB.prop,X.den,Z1gw,Z1gx,Z1gq,Z1gr,Z1gu,Z1gv,Z1gs,Z1gt,mkS,mkP,and_true,true_and,Z1h1,Z1h2,not_or,not_and,Z1gy,ne_eq,Z1gz,Z1h0,Nat.reduceAdd,Nat.zero_add] at hd2
    simp only [Zhb,Zai,Z1m,TX.sat,XB.prop,X.den,Z1gw,Z1gx,Z1gq,Z1gr,Z1gu,Z1gv,Z1gs,Z1gt,mkS,mkP,and_true,true_and,Z1h1,Z1h2,not_or,not_and,Z1gy,ne_eq,Z1gz,Z1h0,Z1d,Z84,Z5x,hc0,hc1,hc2,ex3,ex4,ex5,ex6,Zeb,Z9k,er,b01,Zd,if_true,if_false,reduceIte,Bool.false_eq_true,Nat.reduceAdd,Nat.zero_add]
    clear hc0 hc1 hc2
    repeat' first | exact trivial | refine And.intro ?_ ?_ | intro _
    all_goals first | trivial | rfl | omega | (simp [Int.max_comm,Int.min_comm]; done) | (simp only [List.cons.injEq,and_true,true_and]; omega) | (split <;> first | trivial | rfl | omega)
   ·have hd0:=hc0
    try simp only [Z2b,Z2p,Zv,Z1h3,Zg,Z16,Zd,TX.sat,XB.prop,X.den,Z1gw,Z1gx,Z1gq,Z1gr,Z1gu,Z1gv,Z1gs,Z1gt,mkS,mkP,and_true,true_and,Z1h1,Z1h2,not_or,not_and,Z1gy,ne_eq,Z1gz,Z1h0,Nat.reduceAdd,Nat.zero_add] at hd0
    have hd1:=hc1
    try simp only [Z2b,Z2p,Zv,Z1h3,Zg,Z16,Zd,TX.sat,XB.prop,X.den,Z1gw,Z1gx,Z1gq,Z1gr,Z1gu,Z1gv,Z1gs,Z1gt,mkS,mkP,and_true,true_and,Z1h1,Z1h2,not_or,not_and,Z1gy,ne_eq,Z1gz,Z1h0,Nat.reduceAdd,Nat.zero_add] at hd1
    have hd2:=hc2
    try simp only [Z2b,Z2p,Zv,Z1h3,Zg,Z16,Zd,TX.sat,XB.prop,X.den,Z1gw,Z1gx,Z1gq,Z1gr,Z1gu,Z1gv,Z1gs,Z1gt,mkS,mkP,and_true,true_and,Z1h1,Z1h2,not_or,not_and,Z1gy,ne_eq,Z1gz,Z1h0,Nat.reduceAdd,Nat.zero_add] at hd2
    simp only [Zhb,Zai,Z1m,TX.sat,XB.prop,X.den,Z1gw,Z1gx,Z1gq,Z1gr,Z1gu,Z1gv,Z1gs,Z1gt,mkS,mkP,and_true,true_and,Z1h1,Z1h2,not_or,not_and,Z1gy,ne_eq,Z1gz,Z1h0,Z1d,Z84,Z5x,hc0,hc1,hc2,ex3,ex4,ex5,ex6,Zeb,Z9k,er,b01,Zd,if_true,if_false,reduceIte,Bool.false_eq_true,Nat.reduceAdd,Nat.zero_add]
    clear hc0 hc1 hc2
    repeat' first | exact trivial | refine And.intro ?_ ?_ | intro _
    all_goals first | trivial | rfl | omega | (simp [Int.max_comm,Int.min_comm]; done) | (simp only [List.cons.injEq,and_true,true_and]; omega) | (split <;> first | trivial | rfl | omega)
  ·have hd0:=hc0
   try simp only [Z2b,Z2p,Zv,Z1h3,Zg,Z16,Zd,TX.sat,XB.prop,X.den,Z1gw,Z1gx,Z1gq,Z1gr,Z1gu,Z1gv,Z1gs,Z1gt,mkS,mkP,and_true,true_and,Z1h1,Z1h2,not_or,not_and,Z1gy,ne_eq,Z1gz,Z1h0,Nat.reduceAdd,Nat.zero_add] at hd0
   have hd1:=hc1
   try simp only [Z2b,Z2p,Zv,Z1h3,Zg,Z16,Zd,TX.sat,XB.prop,X.den,Z1gw,Z1gx,Z1gq,Z1gr,Z1gu,Z1gv,Z1gs,Z1gt,mkS,mkP,and_true,true_and,Z1h1,Z1h2,not_or,not_and,Z1gy,ne_eq,Z1gz,Z1h0,Nat.reduceAdd,Nat.zero_add] at hd1
   simp only [Zhb,Zai,Z1m,TX.sat,XB.prop,X.den,Z1gw,Z1gx,Z1gq,Z1gr,Z1gu,Z1gv,Z1gs,Z1gt,mkS,mkP,and_true,true_and,Z1h1,Z1h2,not_or,not_and,Z1gy,ne_eq,Z1gz,Z1h0,Z1d,Z84,Z5x,hc0,hc1,ex3,ex4,ex5,ex6,Zeb,Z9k,er,b01,Zd,if_true,if_false,reduceIte,Bool.false_eq_true,Nat.reduceAdd,Nat.zero_add]
   clear hc0 hc1
   repeat' first | exact trivial | refine And.intro ?_ ?_ | intro _
   all_goals first | trivial | rfl | omega | (simp [Int.max_comm,Int.min_comm]; done) | (simp only [List.cons.injEq,and_true,true_and]; omega) | (split <;> first | trivial | rfl | omega)
 ·have hd0:=hc0
  try simp only [Z2b,Z2p,Zv,Z1h3,Zg,Z16,Zd,TX.sat,XB.prop,X.den,Z1gw,Z1gx,Z1gq,Z1gr,Z1gu,Z1gv,Z1gs,Z1gt,mkS,mkP,and_true,true_and,Z1h1,Z1h2,not_or,not_and,Z1gy,ne_eq,Z1gz,Z1h0,Nat.reduceAdd,Nat.zero_add] at hd0
  simp only [Zhb,Zai,Z1m,TX.sat,XB.prop,X.den,Z1gw,Z1gx,Z1gq,Z1gr,Z1gu,Z1gv,Z1gs,Z1gt,mkS,mkP,and_true,true_and,Z1h1,Z1h2,not_or,not_and,Z1gy,ne_eq,Z1gz,Z1h0,Z1d,Z84,Z5x,hc0,ex3,ex4,ex5,ex6,Zeb,Z9k,er,b01,Zd,if_true,if_false,reduceIte,Bool.false_eq_true,Nat.reduceAdd,Nat.zero_add]
  clear hc0
  repeat' first | exact trivial | refine And.intro ?_ ?_ | intro _
  all_goals first | trivial | rfl | omega | (simp [Int.max_comm,Int.min_comm]; done) | (simp only [List.cons.injEq,and_true,true_and]; omega) | (split <;> first | trivial | rfl | omega))
theorem Z190 {x:List Int} (h:Z16 x 16=true):(-32768≤x.getD 16 0∧x.getD 16 0≤32768)∧(-32768≤x.getD 17 0∧x.getD 17 0≤32768)∧(-32768≤x.getD 18 0∧x.getD 18 0≤32768)∧(0≤x.getD 19 0∧x.getD 19 0≤255)∧(0≤x.getD 20 0∧x.getD 20 0≤255):=by
 simp only [Z16,Z1h3,Zg,Zd,Nat.reduceAdd] at h
 exact ⟨h.1.1,h.1.2.1,h.1.2.2,h.2.1,h.2.2⟩
theorem Z88:Z18 Z5c Z12u:=⟨fun _ h=>h,fun vs xs h hp=>by
 show Zr (ivs 2 (-65792) 65792++[iv 0 65536]++ivs 2 0 255++[iv 0 150]) (ex6 (Z5x xs))
 have z:∀ e:Int,0≤e→e≤150→Zr (ivs 2 (-65792) 65792++[iv 0 65536]++ivs 2 0 255++[iv 0 150]) (ex6 [0,0,0,0,0,e]):=fun e h1 h2 =>
  Z1 (Z7.2 (by simp)) (Z1 (Z7.2 (by simp)) (Z1 (Z7.2 (by simp)) (Z1 (Z7.2 (by simp)) (Z1 (Z7.2 (by simp)) (Z1 ⟨h1,h2⟩ Z2)))))
 unfold Z5x
 split
 ·rename_i hc
  split
  ·rename_i hpt
   split
   ·exact z 6 (by omega) (by omega)
   ·rename_i hz
    obtain ⟨k1,k2,k3,k4⟩:=Zom hc
    obtain ⟨j1,j2,j3,j4,j5⟩:=Z190 hpt
    have m1:=Z5v (f:=xs.getD 12 0) (z:=xs.getD 18 0) (by omega) j1 (by omega)
    have m2:=Z5v (f:=xs.getD 12 0) (z:=xs.getD 18 0) (by omega) j2 (by omega)
    have m3:0≤(16777216:Int).tdiv (xs.getD 18 0)∧(16777216:Int).tdiv (xs.getD 18 0)≤65536:=by
     rw [Zuk (by omega) (by omega)]
     constructor
     ·rw [Int.le_ediv_iff_mul_le (by omega)]; omega
     ·apply Int.ediv_le_of_le_mul (by omega); omega
    have w1:-65792≤8 * xs.getD 12 0 * xs.getD 16 0 / xs.getD 18 0 + 4 * xs.getD 14 0∧8 * xs.getD 12 0 * xs.getD 16 0 / xs.getD 18 0 + 4 * xs.getD 14 0≤65792:=by omega
    have w2:-65792≤4 * xs.getD 15 0 - 8 * xs.getD 12 0 * xs.getD 17 0 / xs.getD 18 0∧4 * xs.getD 15 0 - 8 * xs.getD 12 0 * xs.getD 17 0 / xs.getD 18 0≤65792:=by omega
    exact Z1 w1 (Z1 w2 (Z1 m3 (Z1 j4 (Z1 j5 (Z1 (Z7.2 (by simp)) Z2)))))
  ·exact z 8 (by omega) (by omega)
 ·exact z 150 (by omega) (by omega)⟩
noncomputable def Zp7:List Sum:=[]
def Z1ca:List Inf:=[]
def Z13h:TX:=(.ite (.or (.or (.lt (.v 0) (.c (-131072))) (.lt (.c 131072) (.v 0))) (.or (.or (.lt (.v 1) (.c (-131072))) (.lt (.c 131072) (.v 1))) (.or (.or (.lt (.v 2) (.c 1)) (.lt (.c 65536) (.v 2))) (.or (.or (.lt (.v 3) (.c 0)) (.lt (.c 255) (.v 3))) (.or (.or (.lt (.v 4) (.c 0)) (.lt (.c 255) (.v 4))) (.or (.or (.lt (.v 5) (.c (-131072))) (.lt (.c 131072) (.v 5))) (.or (.or (.lt (.v 6) (.c (-131072))) (.lt (.c 131072) (.v 6))) (.or (.or (.lt (.v 7) (.c 1)) (.lt (.c 65536) (.v 7))) (.or (.or (.lt (.v 8) (.c 0)) (.lt (.c 255) (.v 8))) (.or (.or (.lt (.v 9) (.c 0)) (.lt (.c 255) (.v 9))) (.or (.or (.lt (.v 10) (.c (-131072))) (.lt (.c 131072) (.v 10))) (.or (.or (.lt (.v 11) (.c (-131072))) (.lt (.c 131072) (.v 11))) (.or (.or (.lt (.v 12) (.c 1)) (.lt (.c 65536) (.v 12))) (.or (.or (.lt (.v 13) (.c 0)) (.lt (.c 255) (.v 13))) (.or (.lt (.v 14) (.c 0)) (.lt (.c 255) (.v 14))))))))))))))))) (.ret [(.c 0),(.c 8)])
(.ret [(.sub (.mul (.sub (.v 5) (.v 0)) (.sub (.v 11) (.v 1))) (.mul (.sub (.v 10) (.v 0)) (.sub (.v 6) (.v 1)))),(.c 0)]))
theorem Z13i:Z13 (Zs [] Z1ca [] Zl8 (Zn Tryz.prog Z78 gl0 Zp7 1000 178 [An 15] [I1,I1]))=Z13h:=by kernel_rfl
theorem g_area:Gok Tryz.prog Zp7:=noG
theorem o_area:Zi Zp7 Z1ca:=Z6
theorem Z13j:Zjc.ok Tryz.prog:=Sum.okF facts.mixed g_area o_area Z13i rfl (fun _=>rfl) (by
 intro xs hx hp
 obtain ⟨a0,a1,a2,a3,a4,a5,a6,a7,a8,a9,a10,a11,a12,a13,a14,rfl⟩:=Z17h hx
 by_cases hc0:Z7h [a0,a1,a2,a3,a4,a5,a6,a7,a8,a9,a10,a11,a12,a13,a14]=true
 ·have hd0:=hc0
  try simp only [Z7h,Z1h3,Z1e,TX.sat,XB.prop,X.den,Z1gw,Z1gx,Z1gq,Z1gr,Z1gu,Z1gv,Z1gs,Z1gt,mkS,mkP,and_true,true_and,Z1h1,Z1h2,not_or,not_and,Z1gy,ne_eq,Z1gz,Z1h0,Nat.reduceAdd,Nat.zero_add] at hd0
  simp only [Z13h,Zp7,TX.sat,XB.prop,X.den,Z1gw,Z1gx,Z1gq,Z1gr,Z1gu,Z1gv,Z1gs,Z1gt,mkS,mkP,and_true,true_and,Z1h1,Z1h2,not_or,not_and,Z1gy,ne_eq,Z1gz,Z1h0,Z11,Zbv,Zl7,hc0,ex3,ex4,ex5,ex6,Zeb,Z9k,er,b01,Zd,if_true,if_false,reduceIte,Bool.false_eq_true,Nat.reduceAdd,Nat.zero_add]
  clear hc0
  repeat' first | exact trivial | refine And.intro ?_ ?_ | intro _
  all_goals first | trivial | rfl | omega | (simp [Int.max_comm,Int.min_comm]; done) | (simp only [List.cons.injEq,and_true,true_and]; omega) | (split <;> first | trivial | rfl | omega)
 ·have hd0:=hc0
  try simp only [Z7h,Z1h3,Z1e,TX.sat,XB.prop,X.den,Z1gw,Z1gx,Z1gq,Z1gr,Z1gu,Z1gv,Z1gs,Z1gt,mkS,mkP,and_true,true_and,Z1h1,Z1h2,not_or,not_and,Z1gy,ne_eq,Z1gz,Z1h0,Nat.reduceAdd,Nat.zero_add] at hd0
  simp only [Z13h,Zp7,TX.sat,XB.prop,X.den,Z1gw,Z1gx,Z1gq,Z1gr,Z1gu,Z1gv,Z1gs,Z1gt,mkS,mkP,and_true,true_and,Z1h1,Z1h2,not_or,not_and,Z1gy,ne_eq,Z1gz,Z1h0,Z11,Zbv,Zl7,hc0,ex3,ex4,ex5,ex6,Zeb,Z9k,er,b01,Zd,if_true,if_false,reduceIte,Bool.false_eq_true,Nat.reduceAdd,Nat.zero_add]
  clear hc0
  repeat' first | exact trivial | refine And.intro ?_ ?_ | intro _
  all_goals first | trivial | rfl | omega | (simp [Int.max_comm,Int.min_comm]; done) | (simp only [List.cons.injEq,and_true,true_and]; omega) | (split <;> first | trivial | rfl | omega))
theorem Zve {x:List Int} (h:Z7h x=true):-137438953472≤Z11 x∧Z11 x≤137438953472:=by
 simp only [Z7h,Z1h3,Z1e,Nat.reduceAdd,Nat.zero_add] at h
 have k1:=Z17 (x:=x.getD 5 0 - x.getD 0 0) (y:=x.getD 11 0 - x.getD 1 0) (m:=262144) (n:=262144) (by omega) (by omega)
 have k2:=Z17 (x:=x.getD 10 0 - x.getD 0 0) (y:=x.getD 6 0 - x.getD 1 0) (m:=262144) (n:=262144) (by omega) (by omega)
 unfold Z11
 omega
theorem Zvf:Z18 Zjc Z12q:=⟨fun _ h=>h,fun vs xs h hp=>by
 show Zr [iv (-137438953472) 137438953472,iv 0 8] [(Zl7 xs).getD 0 0,(Zl7 xs).getD 1 0]
 unfold Zl7
 split
 ·rename_i hc
  exact Z1 (Z7.2 (Zve hc)) (Z1 (Z7.2 (by simp)) Z2)
 ·exact Z1 (Z7.2 (by simp)) (Z1 (Z7.2 (by simp)) Z2)⟩
noncomputable def Zlt:List Sum:=[Zjc]
def Z13k:List Inf:=[Z12q]
def Z13l:TX:=(.callp 0 [(.v 0),(.v 1),(.v 2),(.v 3),(.v 4),(.v 5),(.v 6),(.v 7),(.v 8),(.v 9),(.v 10),(.v 11),(.v 12),(.v 13),(.v 14)] (.ite (.not (.eq (.v 17) (.c 0))) (.ret [(.c 0),(.v 17)])
(.ite (.eq (.v 15) (.c 0)) (.ite (.not (.eq (.v 16) (.c 0))) (.ret [(.c 1),(.c 0)])
(.ret [(.c 0),(.c 0)]))
(.ite (.eq (.v 15) (.c 1)) (.ite (.lt (.c 0) (.v 16)) (.ret [(.c 1),(.c 0)])
(.ret [(.c 0),(.c 0)]))
(.ite (.not (.eq (.v 15) (.c 2))) (.ret [(.c 0),(.c 2)])
(.ite (.lt (.v 16) (.c 0)) (.ret [(.c 1),(.c 0)])
(.ret [(.c 0),(.c 0)])))))))
theorem Zyp:Z13 (Zs [] Z13k [] Zh1 (Zn Tryz.prog Z78 gl0 Zlt 1000 125 [An 15,U8] [Bo,I1]))=Z13l:=by kernel_rfl
theorem Z1f9:Gok Tryz.prog Zlt:=(fix.one Z13j)
theorem Z1fa:Zi Zlt Z13k:=(Z3 Zvf Z6)
theorem Z191:Zh2.ok Tryz.prog:=Sum.okF facts.mixed Z1f9 Z1fa Zyp rfl (fun _=>rfl) (by
 intro xs hx hp
 obtain ⟨a0,a1,a2,a3,a4,a5,a6,a7,a8,a9,a10,a11,a12,a13,a14,a15,rfl⟩:=Z17i hx
 have e1:Z7h [a0,a1,a2,a3,a4,a5,a6,a7,a8,a9,a10,a11,a12,a13,a14,a15]=Z7h [a0,a1,a2,a3,a4,a5,a6,a7,a8,a9,a10,a11,a12,a13,a14]:=rfl
 have e2:Z11 [a0,a1,a2,a3,a4,a5,a6,a7,a8,a9,a10,a11,a12,a13,a14,a15]=Z11 [a0,a1,a2,a3,a4,a5,a6,a7,a8,a9,a10,a11,a12,a13,a14]:=rfl
 simp only [Z13l,Zlt,Zjc,TX.sat,XB.prop,X.den,Z1gw,Z1gx,Z1gq,Z1gr,Z1gu,Z1gv,Z1gs,Z1gt,mkS,mkP,and_true,true_and,Z1h1,Z1h2,not_or,not_and,Z1gy,ne_eq,Z1gz,Z1h0,Zbv,Zl7,Zor,Z58,e1,e2]
 generalize Z11 _=n
 clear hp hx e1 e2
 cases Z7h _ with
 | true =>
  rcases (by omega:n < 0∨n=0∨0 < n) with hn | hn | hn <;> rcases (by omega:a15=0∨a15=1∨a15=2∨(a15 ≠ 0∧a15 ≠ 1∧a15 ≠ 2)) with hk | hk | hk | ⟨hk0,hk1,hk2⟩ <;> simp [*,b01] <;> omega
 | false=>simp)
theorem Z13m:Z18 Zh2 Z12s:=⟨fun _ h=>h,fun vs xs h hp=>by
 show Zr [iv 0 1,iv 0 8] [(Z58 xs).getD 0 0,(Z58 xs).getD 1 0]
 unfold Z58
 repeat' split
 ·exact Z1 (Zdt _) (Z1 (Z7.2 (by simp)) Z2)
 ·exact Z1 (Zdt _) (Z1 (Z7.2 (by simp)) Z2)
 ·exact Z1 (Zdt _) (Z1 (Z7.2 (by simp)) Z2)
 ·exact Z1 (Z7.2 (by simp)) (Z1 (Z7.2 (by simp)) Z2)
 ·exact Z1 (Z7.2 (by simp)) (Z1 (Z7.2 (by simp)) Z2)⟩
noncomputable def Zlu:List Sum:=[Zjc]
def Z13n:List Inf:=[Z12q]
def Z13o:TX:=(.callp 0 [(.v 0),(.v 1),(.v 2),(.v 3),(.v 4),(.v 5),(.v 6),(.v 7),(.v 8),(.v 9),(.v 10),(.v 11),(.v 12),(.v 13),(.v 14)] (.ite (.not (.eq (.v 16) (.c 0))) (.ret [(.c 0),(.c 0),(.c 0),(.c 0),(.c 0),(.c 0),(.c 0),(.c 0),(.c 0),(.c 0),(.c 0),(.c 0),(.c 0),(.c 0),(.c 0),(.v 16)])
(.ite (.eq (.v 15) (.c 0)) (.ret [(.c 0),(.c 0),(.c 0),(.c 0),(.c 0),(.c 0),(.c 0),(.c 0),(.c 0),(.c 0),(.c 0),(.c 0),(.c 0),(.c 0),(.c 0),(.c 6)])
(.ite (.lt (.v 15) (.c 0)) (.ret [(.v 0),(.v 1),(.v 2),(.v 3),(.v 4),(.v 10),(.v 11),(.v 12),(.v 13),(.v 14),(.v 5),(.v 6),(.v 7),(.v 8),(.v 9),(.c 0)])
(.ret [(.v 0),(.v 1),(.v 2),(.v 3),(.v 4),(.v 5),(.v 6),(.v 7),(.v 8),(.v 9),(.v 10),(.v 11),(.v 12),(.v 13),(.v 14),(.c 0)])))))
theorem Zyq:Z13 (Zs [] Z13n [] Zbw (Zn Tryz.prog Z78 gl0 Zlu 1000 126 [An 15] [An 15,I1]))=Z13o:=by kernel_rfl
theorem Z1fb:Gok Tryz.prog Zlu:=(fix.one Z13j)
theorem Z1fc:Zi Zlu Z13n:=(Z3 Zvf Z6)
theorem Z192:Zl9.ok Tryz.prog:=Sum.okF facts.mixed Z1fb Z1fc Zyq rfl (fun _=>rfl) (by
 intro xs hx hp
 obtain ⟨a0,a1,a2,a3,a4,a5,a6,a7,a8,a9,a10,a11,a12,a13,a14,rfl⟩:=Z17h hx
 simp only [Z13o,Zlu,Zjc,TX.sat,XB.prop,X.den,Z1gw,Z1gx,Z1gq,Z1gr,Z1gu,Z1gv,Z1gs,Z1gt,mkS,mkP,and_true,true_and,Z1h1,Z1h2,not_or,not_and,Z1gy,ne_eq,Z1gz,Z1h0,Zbv,Zl7,Zos,Z71]
 generalize Z11 _=n
 clear hp hx
 cases Z7h _ with
 | true =>
  rcases (by omega:n < 0∨n=0∨0 < n) with hn | hn | hn
  ·have h0:n ≠ 0:=by omega
   have h1:¬ 0≤n:=by omega
   simp [hn,h0,h1,z16,idT,Zye,Z9k]
  ·simp [hn,z16,idT,Zye,Z9k]
  ·have h0:n ≠ 0:=by omega
   have h1:¬ n < 0:=by omega
   simp [h0,h1,z16,idT,Zye,Z9k]
 | false=>simp [z16,Z9k])
theorem Z13p {x:List Int} (h:Z7h x=true):Zr (ivs 2 (-131072) 131072++[iv 0 65536]++ivs 2 0 255) [x.getD 0 0,x.getD 1 0,x.getD 2 0,x.getD 3 0,x.getD 4 0] ∧
  Zr (ivs 2 (-131072) 131072++[iv 0 65536]++ivs 2 0 255) [x.getD 5 0,x.getD 6 0,x.getD 7 0,x.getD 8 0,x.getD 9 0] ∧
  Zr (ivs 2 (-131072) 131072++[iv 0 65536]++ivs 2 0 255) [x.getD 10 0,x.getD 11 0,x.getD 12 0,x.getD 13 0,x.getD 14 0]:=by
 simp only [Z7h,Z1h3,Z1e,Nat.reduceAdd,Nat.zero_add] at h
 obtain ⟨⟨h0,h1,h2,h3,h4⟩,⟨h5,h6,h7,h8,h9⟩,h10,h11,h12,h13,h14⟩:=h
 exact ⟨Z1 h0 (Z1 h1 (Z1 ⟨by show 0≤x.getD 2 0; omega,h2.2⟩ (Z1 h3 (Z1 h4 Z2)))),Z1 h5 (Z1 h6 (Z1 ⟨by show 0≤x.getD 7 0; omega,h7.2⟩ (Z1 h8 (Z1 h9 Z2)))),
  Z1 h10 (Z1 h11 (Z1 ⟨by show 0≤x.getD 12 0; omega,h12.2⟩ (Z1 h13 (Z1 h14 Z2))))⟩
theorem Z13q (e:Int) (h1:0≤e) (h2:e≤8):Zr (Zh3 []) (Z9k (z16 e)):=by
 refine Z1 (Z7.2 ?_) (Z1 (Z7.2 ?_) (Z1 (Z7.2 ?_) (Z1 (Z7.2 ?_) (Z1 (Z7.2 ?_) (Z1 (Z7.2 ?_) (Z1 (Z7.2 ?_) (Z1 (Z7.2 ?_) (Z1 (Z7.2 ?_) (Z1 (Z7.2 ?_) (Z1 (Z7.2 ?_) (Z1 (Z7.2 ?_) (Z1 (Z7.2 ?_) (Z1 (Z7.2 ?_) (Z1 (Z7.2 ?_) (Z1 ⟨h1,h2⟩ Z2))))))))))))))) <;> simp [z16]
theorem Zp8:Z18 Zl9 Z12t:=⟨fun _ h=>h,fun vs xs h hp=>by
 show Zr (Zh3 []) (Z9k (Z71 xs))
 unfold Z71
 split
 ·rename_i hc
  obtain ⟨t1,t2,t3⟩:=Z13p hc
  split
  ·exact Z13q 6 (by omega) (by omega)
  ·split
   ·exact Zw (Zw (Zw t1 t3) t2) (Z1 (Z7.2 (by simp [Zye])) Z2)
   ·exact Zw (Zw (Zw t1 t2) t3) (Z1 (Z7.2 (by simp [idT])) Z2)
 ·exact Z13q 8 (by omega) (by omega)⟩
theorem Z27 {x:List Int} {o:Nat}:pixB x o=true↔(0≤x.getD o 0∧x.getD o 0 < 64∧0≤x.getD (o + 1) 0∧x.getD (o + 1) 0 < 64):=decide_eq_true_iff
theorem Z13r {x:List Int} {a b p:Nat} (ha:Zyd x a=true) (hb:Zyd x b=true) (hp:pixB x p=true):-137438953472≤wgt x a b p∧wgt x a b p≤137438953472:=by
 rw [Z1e] at ha hb
 rw [Z27] at hp
 have k1:=Z17 (x:=x.getD b 0 - x.getD a 0) (y:=8 * x.getD (p + 1) 0 + 4 - x.getD (a + 1) 0) (m:=262144) (n:=262144) (by omega) (by omega)
 have k2:=Z17 (x:=8 * x.getD p 0 + 4 - x.getD a 0) (y:=x.getD (b + 1) 0 - x.getD (a + 1) 0) (m:=262144) (n:=262144) (by omega) (by omega)
 unfold wgt
 omega
noncomputable def Zaj:List Sum:=[]
def Z13s:List Inf:=[]
def Zhc:TX:=(.ite (.or (.or (.lt (.v 0) (.c (-131072))) (.lt (.c 131072) (.v 0))) (.or (.or (.lt (.v 1) (.c (-131072))) (.lt (.c 131072) (.v 1))) (.or (.or (.lt (.v 2) (.c 1)) (.lt (.c 65536) (.v 2))) (.or (.or (.lt (.v 3) (.c 0)) (.lt (.c 255) (.v 3))) (.or (.or (.lt (.v 4) (.c 0)) (.lt (.c 255) (.v 4))) (.or (.or (.lt (.v 5) (.c (-131072))) (.lt (.c 131072) (.v 5))) (.or (.or (.lt (.v 6) (.c (-131072))) (.lt (.c 131072) (.v 6))) (.or (.or (.lt (.v 7) (.c 1)) (.lt (.c 65536) (.v 7))) (.or (.or (.lt (.v 8) (.c 0)) (.lt (.c 255) (.v 8))) (.or (.or (.lt (.v 9) (.c 0)) (.lt (.c 255) (.v 9))) (.or (.or (.lt (.v 10) (.c (-131072))) (.lt (.c 131072) (.v 10))) (.or (.or (.lt (.v 11) (.c (-131072))) (.lt (.c 131072) (.v 11))) (.or (.or (.lt (.v 12) (.c 1)) (.lt (.c 65536) (.v 12))) (.or (.or (.lt (.v 13) (.c 0)) (.lt (.c 255) (.v 13))) (.or (.lt (.v 14) (.c 0)) (.lt (.c 255) (.v 14))))))))))))))))) (.ret [(.c 0),(.c 0),(.c 0),(.c 8)])
(.ite (.le (.sub (.mul (.sub (.v 5) (.v 0)) (.sub (.v 11) (.v 1))) (.mul (.sub (.v 10) (.v 0)) (.sub (.v 6) (.v 1)))) (.c 0)) (.ret [(.c 0),(.c 0),(.c 0),(.c 6)])
(.ite (.or (.lt (.mn (.v 15) (.v 16)) (.c 0)) (.le (.c 64) (.mx (.v 15) (.v 16)))) (.ret [(.c 0),(.c 0),(.c 0),(.c 2)])
(.ret [(.sub (.mul (.sub (.v 10) (.v 5)) (.sub (.add (.mul (.c 8) (.v 16)) (.c 4)) (.v 6))) (.mul (.sub (.add (.mul (.c 8) (.v 15)) (.c 4)) (.v 5)) (.sub (.v 11) (.v 6)))),(.sub (.mul (.sub (.v 0) (.v 10)) (.sub (.add (.mul (.c 8) (.v 16)) (.c 4)) (.v 11))) (.mul (.sub (.add (.mul (.c 8) (.v 15)) (.c 4)) (.v 10)) (.sub (.v 1) (.v 11)))),(.sub (.mul (.sub (.v 5) (.v 0)) (.sub (.add (.mul (.c 8) (.v 16)) (.c 4)) (.v 1))) (.mul (.sub (.add (.mul (.c 8) (.v 15)) (.c 4)) (.v 0)) (.sub (.v 6) (.v 1)))),(.c 0)]))))
theorem Zyr:Z13 (Zs [] Z13s [] Zh4 (Zn Tryz.prog Z78 gl0 Zaj 1000 95 [An 15,I1,I1] [An 3,I1]))=Zhc:=by kernel_rfl
theorem Z1fd:Gok Tryz.prog Zaj:=noG
theorem Z1fe:Zi Zaj Z13s:=Z6
theorem Z193:Zla.ok Tryz.prog:=Sum.okF facts.mixed Z1fd Z1fe Zyr rfl (fun _=>rfl) (by
 intro xs hx hp
 obtain ⟨a0,a1,a2,a3,a4,a5,a6,a7,a8,a9,a10,a11,a12,a13,a14,a15,a16,rfl⟩:=Z1e6 hx
 by_cases hc0:Z7h [a0,a1,a2,a3,a4,a5,a6,a7,a8,a9,a10,a11,a12,a13,a14,a15,a16]=true
 ·by_cases hc1:0 < (a5 - a0) * (a11 - a1) - (a10 - a0) * (a6 - a1)
  ·by_cases hc2:pixB [a0,a1,a2,a3,a4,a5,a6,a7,a8,a9,a10,a11,a12,a13,a14,a15,a16] 15=true
   ·have hd0:=hc0
    try simp only [Z7h,Z1h3,Z1e,Z27,TX.sat,XB.prop,X.den,Z1gw,Z1gx,Z1gq,Z1gr,Z1gu,Z1gv,Z1gs,Z1gt,mkS,mkP,and_true,true_and,Z1h1,Z1h2,not_or,not_and,Z1gy,ne_eq,Z1gz,Z1h0,Nat.reduceAdd,Nat.zero_add] at hd0
    have hd1:=hc1
    try simp only [Z7h,Z1h3,Z1e,Z27,TX.sat,XB.prop,X.den,Z1gw,Z1gx,Z1gq,Z1gr,Z1gu,Z1gv,Z1gs,Z1gt,mkS,mkP,and_true,true_and,Z1h1,Z1h2,not_or,not_and,Z1gy,ne_eq,Z1gz,Z1h0,Nat.reduceAdd,Nat.zero_add] at hd1
    have hd2:=hc2
    try simp only [Z7h,Z1h3,Z1e,Z27,TX.sat,XB.prop,X.den,Z1gw,Z1gx,Z1gq,Z1gr,Z1gu,Z1gv,Z1gs,Z1gt,mkS,mkP,and_true,true_and,Z1h1,Z1h2,not_or,not_and,Z1gy,ne_eq,Z1gz,Z1h0,Nat.reduceAdd,Nat.zero_add] at hd2
    simp only [Zhc,Zaj,TX.sat,XB.prop,X.den,Z1gw,Z1gx,Z1gq,Z1gr,Z1gu,Z1gv,Z1gs,Z1gt,mkS,mkP,and_true,true_and,Z1h1,Z1h2,not_or,not_and,Z1gy,ne_eq,Z1gz,Z1h0,Z4x,Z11,wgt,Z5y,Z35,hc0,hc1,hc2,ex3,ex4,ex5,ex6,Zeb,Z9k,er,b01,Zd,if_true,if_false,reduceIte,Bool.false_eq_true,Nat.reduceAdd,Nat.zero_add]
    clear hc0 hc1 hc2
    repeat' first | exact trivial | refine And.intro ?_ ?_ | intro _
    all_goals first | trivial | rfl | omega | (simp [Int.max_comm,Int.min_comm]; done) | (simp only [List.cons.injEq,and_true,true_and]; omega) | (split <;> first | trivial | rfl | omega)
   ·have hd0:=hc0
    try simp only [Z7h,Z1h3,Z1e,Z27,TX.sat,XB.prop,X.den,Z1gw,Z1gx,Z1gq,Z1gr,Z1gu,Z1gv,Z1gs,Z1gt,mkS,mkP,and_true,true_and,Z1h1,Z1h2,not_or,not_and,Z1gy,ne_eq,Z1gz,Z1h0,Nat.reduceAdd,Nat.zero_add] at hd0
    have hd1:=hc1
    try simp only [Z7h,Z1h3,Z1e,Z27,TX.sat,XB.prop,X.den,Z1gw,Z1gx,Z1gq,Z1gr,Z1gu,Z1gv,Z1gs,Z1gt,mkS,mkP,and_true,true_and,Z1h1,Z1h2,not_or,not_and,Z1gy,ne_eq,Z1gz,Z1h0,Nat.reduceAdd,Nat.zero_add] at hd1
    have hd2:=hc2
    try simp only [Z7h,Z1h3,Z1e,Z27,TX.sat,XB.prop,X.den,Z1gw,Z1gx,Z1gq,Z1gr,Z1gu,Z1gv,Z1gs,Z1gt,mkS,mkP,and_true,true_and,Z1h1,Z1h2,not_or,not_and,Z1gy,ne_eq,Z1gz,Z1h0,Nat.reduceAdd,Nat.zero_add] at hd2
    simp only [Zhc,Zaj,TX.sat,XB.prop,X.den,Z1gw,Z1gx,Z1gq,Z1gr,Z1gu,Z1gv,Z1gs,Z1gt,mkS,mkP,and_true,true_and,Z1h1,Z1h2,not_or,not_and,Z1gy,ne_eq,Z1gz,Z1h0,Z4x,Z11,wgt,Z5y,Z35,hc0,hc1,hc2,ex3,ex4,ex5,ex6,Zeb,Z9k,er,b01,Zd,if_true,if_false,reduceIte,Bool.false_eq_true,Nat.reduceAdd,Nat.zero_add]
    clear hc0 hc1 hc2
    repeat' first | exact trivial | refine And.intro ?_ ?_ | intro _
    all_goals first | trivial | rfl | omega | (simp [Int.max_comm,Int.min_comm]; done) | (simp only [List.cons.injEq,and_true,true_and]; omega) | (split <;> first | trivial | rfl | omega)
  ·have hd0:=hc0
   try simp only [Z7h,Z1h3,Z1e,Z27,TX.sat,XB.prop,X.den,Z1gw,Z1gx,Z1gq,Z1gr,Z1gu,Z1gv,Z1gs,Z1gt,mkS,mkP,and_true,true_and,Z1h1,Z1h2,not_or,not_and,Z1gy,ne_eq,Z1gz,Z1h0,Nat.reduceAdd,Nat.zero_add] at hd0
   have hd1:=hc1
   try simp only [Z7h,Z1h3,Z1e,Z27,TX.sat,XB.prop,X.den,Z1gw,Z1gx,Z1gq,Z1gr,Z1gu,Z1gv,Z1gs,Z1gt,mkS,mkP,and_true,true_and,Z1h1,Z1h2,not_or,not_and,Z1gy,ne_eq,Z1gz,Z1h0,Nat.reduceAdd,Nat.zero_add] at hd1
   simp only [Zhc,Zaj,TX.sat,XB.prop,X.den,Z1gw,Z1gx,Z1gq,Z1gr,Z1gu,Z1gv,Z1gs,Z1gt,mkS,mkP,and_true,true_and,Z1h1,Z1h2,not_or,not_and,Z1gy,ne_eq,Z1gz,Z1h0,Z4x,Z11,wgt,Z5y,Z35,hc0,hc1,ex3,ex4,ex5,ex6,Zeb,Z9k,er,b01,Zd,if_true,if_false,reduceIte,Bool.false_eq_true,Nat.reduceAdd,Nat.zero_add]
   clear hc0 hc1
   repeat' first | exact trivial | refine And.intro ?_ ?_ | intro _
   all_goals first | trivial | rfl | omega | (simp [Int.max_comm,Int.min_comm]; done) | (simp only [List.cons.injEq,and_true,true_and]; omega) | (split <;> first | trivial | rfl | omega)
 ·have hd0:=hc0
  try simp only [Z7h,Z1h3,Z1e,Z27,TX.sat,XB.prop,X.den,Z1gw,Z1gx,Z1gq,Z1gr,Z1gu,Z1gv,Z1gs,Z1gt,mkS,mkP,and_true,true_and,Z1h1,Z1h2,not_or,not_and,Z1gy,ne_eq,Z1gz,Z1h0,Nat.reduceAdd,Nat.zero_add] at hd0
  simp only [Zhc,Zaj,TX.sat,XB.prop,X.den,Z1gw,Z1gx,Z1gq,Z1gr,Z1gu,Z1gv,Z1gs,Z1gt,mkS,mkP,and_true,true_and,Z1h1,Z1h2,not_or,not_and,Z1gy,ne_eq,Z1gz,Z1h0,Z4x,Z11,wgt,Z5y,Z35,hc0,ex3,ex4,ex5,ex6,Zeb,Z9k,er,b01,Zd,if_true,if_false,reduceIte,Bool.false_eq_true,Nat.reduceAdd,Nat.zero_add]
  clear hc0
  repeat' first | exact trivial | refine And.intro ?_ ?_ | intro _
  all_goals first | trivial | rfl | omega | (simp [Int.max_comm,Int.min_comm]; done) | (simp only [List.cons.injEq,and_true,true_and]; omega) | (split <;> first | trivial | rfl | omega))
theorem Zhd {x:List Int} (h:Z4x x=0):Z7h x=true∧0 < Z11 x:=by
 unfold Z4x at h
 split at h
 ·split at h
  ·rename_i h1 h2; exact ⟨h1,h2⟩
  ·omega
 ·omega
theorem Zer {x:List Int} (h:(Z35 x).getD 3 0=0):Z7h x=true∧0 < Z11 x∧pixB x 15=true∧Z35 x=[wgt x 5 10 15,wgt x 10 0 15,wgt x 0 5 15,0]:=by
 unfold Z35 at h ⊢
 split at h
 ·rename_i he
  rw [if_pos he]
  obtain ⟨h1,h2⟩:=Zhd he
  split at h
  ·rename_i hp
   rw [if_pos hp]
   exact ⟨h1,h2,hp,rfl⟩
  ·simp at h
 ·rename_i he
  exact absurd h he
theorem Zhe:Z18 Zla Z12w:=⟨fun _ h=>h,fun vs xs h hp=>by
 show Zr (ivs 3 (-137438953472) 137438953472++[iv 0 8]) (ex4 (Z35 xs))
 unfold Z35
 split
 ·rename_i he
  obtain ⟨h1,h2⟩:=Zhd he
  split
  ·rename_i hpx
   simp only [Z7h,Z1h3] at h1
   exact Z1 (Z7.2 (Z13r h1.2.1 h1.2.2 hpx)) (Z1 (Z7.2 (Z13r h1.2.2 h1.1 hpx)) (Z1 (Z7.2 (Z13r h1.1 h1.2.1 hpx)) (Z1 (Z7.2 (by simp)) Z2)))
  ·exact Z1 (Z7.2 (by simp)) (Z1 (Z7.2 (by simp)) (Z1 (Z7.2 (by simp)) (Z1 (Z7.2 (by simp)) Z2)))
 ·have h8:0≤Z4x xs∧Z4x xs≤8:=by unfold Z4x; split; split <;> simp; simp
  exact Z1 (Z7.2 (by simp)) (Z1 (Z7.2 (by simp)) (Z1 (Z7.2 (by simp)) (Z1 h8 Z2)))⟩
noncomputable def Zes:List Sum:=[Zla]
def Zvg:List Inf:=[Z12w]
def Zvh:TX:=(.callp 0 [(.v 0),(.v 1),(.v 2),(.v 3),(.v 4),(.v 5),(.v 6),(.v 7),(.v 8),(.v 9),(.v 10),(.v 11),(.v 12),(.v 13),(.v 14),(.v 15),(.v 16)] (.ite (.not (.eq (.v 20) (.c 0))) (.ret [(.c 0),(.v 20)])
(.ite (.or (.or (.lt (.v 17) (.c 0)) (.and (.eq (.v 17) (.c 0)) (.and (.le (.v 6) (.v 11)) (.or (.not (.eq (.v 11) (.v 6))) (.le (.v 10) (.v 5)))))) (.or (.or (.lt (.v 18) (.c 0)) (.and (.eq (.v 18) (.c 0)) (.and (.le (.v 11) (.v 1)) (.or (.not (.eq (.v 1) (.v 11))) (.le (.v 0) (.v 10)))))) (.or (.lt (.v 19) (.c 0)) (.and (.eq (.v 19) (.c 0)) (.and (.le (.v 1) (.v 6)) (.or (.not (.eq (.v 6) (.v 1))) (.le (.v 5) (.v 0)))))))) (.ret [(.c 0),(.c 0)])
(.ret [(.c 1),(.c 0)]))))
theorem Zsc:Z13 (Zs [] Zvg [] Zdb (Zn Tryz.prog Z78 gl0 Zes 1000 94 [An 15,I1,I1] [Bo,I1]))=Zvh:=by kernel_rfl
theorem Z194:Gok Tryz.prog Zes:=(fix.one Z193)
theorem Z195:Zi Zes Zvg:=(Z3 Zhe Z6)
theorem Zvi {x:List Int}:Zq5 x=true↔(0 < wgt x 5 10 15∨(wgt x 5 10 15=0∧(x.getD 11 0 < x.getD 6 0∨(x.getD 11 0=x.getD 6 0∧x.getD 5 0 < x.getD 10 0)))) ∧
  (0 < wgt x 10 0 15∨(wgt x 10 0 15=0∧(x.getD 1 0 < x.getD 11 0∨(x.getD 1 0=x.getD 11 0∧x.getD 10 0 < x.getD 0 0)))) ∧
  (0 < wgt x 0 5 15∨(wgt x 0 5 15=0∧(x.getD 6 0 < x.getD 1 0∨(x.getD 6 0=x.getD 1 0∧x.getD 0 0 < x.getD 5 0)))):=by
 simp only [Zq5,Z18d,ownsB,Z1h3,Zd,Nat.reduceAdd,Nat.zero_add]
theorem Z13t:Z98.ok Tryz.prog:=Sum.okF facts.mixed Z194 Z195 Zsc rfl (fun _=>rfl) (by
 intro xs hx hp
 obtain ⟨a0,a1,a2,a3,a4,a5,a6,a7,a8,a9,a10,a11,a12,a13,a14,a15,a16,rfl⟩:=Z1e6 hx
 have hE:=@Zer [a0,a1,a2,a3,a4,a5,a6,a7,a8,a9,a10,a11,a12,a13,a14,a15,a16]
 have hh:=@Zvi [a0,a1,a2,a3,a4,a5,a6,a7,a8,a9,a10,a11,a12,a13,a14,a15,a16]
 simp only [TX.sat,XB.prop,X.den,Z1gw,Z1gx,Z1gq,Z1gr,Z1gu,Z1gv,Z1gs,Z1gt,mkS,mkP,and_true,true_and,Z1h1,Z1h2,not_or,not_and,Z1gy,ne_eq,Z1gz,Z1h0] at hh
 simp only [Zvh,Zes,Zla,TX.sat,XB.prop,X.den,Z1gw,Z1gx,Z1gq,Z1gr,Z1gu,Z1gv,Z1gs,Z1gt,mkS,mkP,and_true,true_and,Z1h1,Z1h2,not_or,not_and,Z1gy,ne_eq,Z1gz,Z1h0,Z5y,Z5z,Z85,ex4]
 clear hp hx
 by_cases he:(Z35 [a0,a1,a2,a3,a4,a5,a6,a7,a8,a9,a10,a11,a12,a13,a14,a15,a16]).getD 3 0=0
 ·obtain ⟨_,_,_,hv⟩:=hE he
  rw [hv]
  simp only [TX.sat,XB.prop,X.den,Z1gw,Z1gx,Z1gq,Z1gr,Z1gu,Z1gv,Z1gs,Z1gt,mkS,mkP,and_true,true_and,Z1h1,Z1h2,not_or,not_and,Z1gy,ne_eq,Z1gz,Z1h0,if_true,reduceIte]
  generalize wgt _ 5 10 15=w0 at *
  generalize wgt _ 10 0 15=w1 at *
  generalize wgt _ 0 5 15=w2 at *
  refine ⟨fun h=>h.elim,fun _=>⟨fun h=>?_,fun h=>?_⟩⟩
  ·have:Zq5 [a0,a1,a2,a3,a4,a5,a6,a7,a8,a9,a10,a11,a12,a13,a14,a15,a16]=false:=by
    rw [← Bool.not_eq_true,hh]; omega
   rw [this]; rfl
  ·have:Zq5 [a0,a1,a2,a3,a4,a5,a6,a7,a8,a9,a10,a11,a12,a13,a14,a15,a16]=true:=by
    rw [hh]; omega
   rw [this]; rfl
 ·rw [if_neg he]
  exact ⟨fun _=>rfl,fun h=>absurd h he⟩)
theorem Zys:Z18 Z98 Zuz:=⟨fun _ h=>h,fun vs xs h hp=>by
 show Zr [iv 0 1,iv 0 8] [(Z85 xs).getD 0 0,(Z85 xs).getD 1 0]
 have h8:=(Zhe.2 vs xs h hp).2 3
 unfold Z85
 split
 ·exact Z1 (Zdt _) (Z1 (Z7.2 (by simp)) Z2)
 ·exact Z1 (Z7.2 (by simp)) (Z1 h8 Z2)⟩
theorem Z196 (x:List Int):wgt x 5 10 15 + wgt x 10 0 15 + wgt x 0 5 15=Z11 x:=by
 simp only [wgt,Z11,Nat.reduceAdd,Nat.zero_add]
 grind
theorem Zet {x:List Int} (h:Zq5 x=true):0≤wgt x 5 10 15∧0≤wgt x 10 0 15∧0≤wgt x 0 5 15:=by
 rw [Zvi] at h
 omega
theorem Zak {w d m n:Int} (hw:0≤w) (h1:m≤d) (h2:d≤n):w * m≤w * d∧w * d≤w * n :=
 ⟨Int.mul_le_mul_of_nonneg_left h1 hw,Int.mul_le_mul_of_nonneg_left h2 hw⟩
theorem Zlv {w0 w1 w2 d0 d1 d2 m n:Int} (h0:0≤w0) (h1:0≤w1) (h2:0≤w2) (k0:m≤d0∧d0≤n) (k1:m≤d1∧d1≤n) (k2:m≤d2∧d2≤n) :
  (w0 + w1 + w2) * m≤w0 * d0 + w1 * d1 + w2 * d2∧w0 * d0 + w1 * d1 + w2 * d2≤(w0 + w1 + w2) * n:=by
 have e0:=Zak h0 k0.1 k0.2
 have e1:=Zak h1 k1.1 k1.2
 have e2:=Zak h2 k2.1 k2.2
 rw [Int.add_mul,Int.add_mul,Int.add_mul,Int.add_mul]
 omega
theorem Z89 {x:List Int} (h:Z7h x=true):((-131072≤x.getD 0 0∧x.getD 0 0≤131072)∧(-131072≤x.getD 1 0∧x.getD 1 0≤131072)∧(1≤x.getD 2 0∧x.getD 2 0≤65536)∧(0≤x.getD 3 0∧x.getD 3 0≤255)∧(0≤x.getD 4 0∧x.getD 4 0≤255)) ∧
  ((-131072≤x.getD 5 0∧x.getD 5 0≤131072)∧(-131072≤x.getD 6 0∧x.getD 6 0≤131072)∧(1≤x.getD 7 0∧x.getD 7 0≤65536)∧(0≤x.getD 8 0∧x.getD 8 0≤255)∧(0≤x.getD 9 0∧x.getD 9 0≤255)) ∧
  ((-131072≤x.getD 10 0∧x.getD 10 0≤131072)∧(-131072≤x.getD 11 0∧x.getD 11 0≤131072)∧(1≤x.getD 12 0∧x.getD 12 0≤65536)∧(0≤x.getD 13 0∧x.getD 13 0≤255)∧(0≤x.getD 14 0∧x.getD 14 0≤255)):=by
 simp only [Z7h,Z1h3,Z1e,Nat.reduceAdd,Nat.zero_add] at h
 exact h
theorem Z13u {x:List Int} (h:Z7h x=true) (hh:Zq5 x=true):Z11 x≤Z60 x∧Z60 x≤Z11 x * 65536:=by
 obtain ⟨⟨_,_,h2,_⟩,⟨_,_,h7,_⟩,_,_,h12,_⟩:=Z89 h
 obtain ⟨w0,w1,w2⟩:=Zet hh
 have:=Zlv w0 w1 w2 h2 h7 h12
 rw [Z196] at this
 unfold Z60
 omega
theorem Z1cb {x:List Int} {o:Nat} (h:Z7h x=true) (hh:Zq5 x=true) (h3:0≤x.getD o 0∧x.getD o 0≤255) (h8:0≤x.getD (o + 5) 0∧x.getD (o + 5) 0≤255) (h13:0≤x.getD (o + 10) 0∧x.getD (o + 10) 0≤255):0≤Zry x o∧Zry x o≤Z60 x * 255:=by
 obtain ⟨⟨_,_,h2,_⟩,⟨_,_,h7,_⟩,_,_,h12,_⟩:=Z89 h
 obtain ⟨w0,w1,w2⟩:=Zet hh
 have:=Zlv (Int.mul_nonneg w0 (by omega:0≤x.getD 2 0)) (Int.mul_nonneg w1 (by omega:0≤x.getD 7 0)) (Int.mul_nonneg w2 (by omega:0≤x.getD 12 0)) h3 h8 h13
 unfold Zry Z60
 omega
theorem Zvj {x:List Int} (h:Z7h x=true) (ht:0 < Z11 x) (hh:Zq5 x=true):1≤Z11 x∧Z11 x≤137438953472∧1≤Z60 x∧Z60 x≤9007199254740992∧(0≤Zry x 3∧Zry x 3≤Z60 x * 255)∧(0≤Zry x 4∧Zry x 4≤Z60 x * 255):=by
 have k1:=Zve h
 have k2:=Z13u h hh
 obtain ⟨⟨_,_,_,h3,h4⟩,⟨_,_,_,h8,h9⟩,_,_,_,h13,h14⟩:=Z89 h
 have k3:=Z1cb (o:=3) h hh h3 h8 h13
 have k4:=Z1cb (o:=4) h hh h4 h9 h14
 omega
theorem Zvk {a b:Int} (h1:-9223372036854775808≤a) (h2:a≤9223372036854775807) (h3:1≤b) (h4:b≤9223372036854775807):Zr [zz,pos] [a,b]:=Z1 ⟨h1,h2⟩ (Z1 ⟨h3,h4⟩ Z2)
noncomputable def Zjm:List Sum:=[Z98,Z1m]
def Z1cc:List Inf:=[Zuz,Z7y]
def Zvl:TX:=(.callp 0 [(.v 0),(.v 1),(.v 2),(.v 3),(.v 4),(.v 5),(.v 6),(.v 7),(.v 8),(.v 9),(.v 10),(.v 11),(.v 12),(.v 13),(.v 14),(.v 15),(.v 16)] (.ite (.not (.eq (.v 18) (.c 0))) (.ret [(.c 0),(.c 0),(.c 0),(.c 0),(.c 0),(.v 18)])
(.ite (.eq (.v 17) (.c 0)) (.ret [(.c 0),(.c 0),(.c 0),(.c 0),(.c 0),(.c 6)])
(.ite (.or (.or (.lt (.v 0) (.c (-131072))) (.lt (.c 131072) (.v 0))) (.or (.or (.lt (.v 1) (.c (-131072))) (.lt (.c 131072) (.v 1))) (.or (.or (.lt (.v 2) (.c 1)) (.lt (.c 65536) (.v 2))) (.or (.or (.lt (.v 3) (.c 0)) (.lt (.c 255) (.v 3))) (.or (.or (.lt (.v 4) (.c 0)) (.lt (.c 255) (.v 4))) (.or (.or (.lt (.v 5) (.c (-131072))) (.lt (.c 131072) (.v 5))) (.or (.or (.lt (.v 6) (.c (-131072))) (.lt (.c 131072) (.v 6))) (.or (.or (.lt (.v 7) (.c 1)) (.lt (.c 65536) (.v 7))) (.or (.or (.lt (.v 8) (.c 0)) (.lt (.c 255) (.v 8))) (.or (.or (.lt (.v 9) (.c 0)) (.lt (.c 255) (.v 9))) (.or (.or (.lt (.v 10) (.c (-131072))) (.lt (.c 131072) (.v 10))) (.or (.or (.lt (.v 11) (.c (-131072))) (.lt (.c 131072) (.v 11))) (.or (.or (.lt (.v 12) (.c 1)) (.lt (.c 65536) (.v 12))) (.or (.or (.lt (.v 13) (.c 0)) (.lt (.c 255) (.v 13))) (.or (.lt (.v 14) (.c 0)) (.lt (.c 255) (.v 14))))))))))))))))) (.ret [(.c 0),(.c 0),(.c 0),(.c 0),(.c 0),(.c 8)])
(.ite (.le (.sub (.mul (.sub (.v 5) (.v 0)) (.sub (.v 11) (.v 1))) (.mul (.sub (.v 10) (.v 0)) (.sub (.v 6) (.v 1)))) (.c 0)) (.ret [(.c 0),(.c 0),(.c 0),(.c 0),(.c 0),(.c 6)])
(.ite (.or (.lt (.mn (.v 15) (.v 16)) (.c 0)) (.le (.c 64) (.mx (.v 15) (.v 16)))) (.ret [(.c 0),(.c 0),(.c 0),(.c 0),(.c 0),(.c 2)])
(.call 1 [(.add (.add (.add (.c 0) (.mul (.mul (.sub (.mul (.sub (.v 10) (.v 5)) (.sub (.add (.mul (.c 8) (.v 16)) (.c 4)) (.v 6))) (.mul (.sub (.add (.mul (.c 8) (.v 15)) (.c 4)) (.v 5)) (.sub (.v 11) (.v 6)))) (.v 2)) (.c 1))) (.mul (.mul (.sub (.mul (.sub (.v 0) (.v 10)) (.sub (.add (.mul (.c 8) (.v 16)) (.c 4)) (.v 11))) (.mul (.sub (.add (.mul (.c 8) (.v 15)) (.c 4)) (.v 10)) (.sub (.v 1) (.v 11)))) (.v 7)) (.c 1))) (.mul (.mul (.sub (.mul (.sub (.v 5) (.v 0)) (.sub (.add (.mul (.c 8) (.v 16)) (.c 4)) (.v 1))) (.mul (.sub (.add (.mul (.c 8) (.v 15)) (.c 4)) (.v 0)) (.sub (.v 6) (.v 1)))) (.v 12)) (.c 1))),(.add (.add (.add (.c 0) (.sub (.mul (.sub (.v 10) (.v 5)) (.sub (.add (.mul (.c 8) (.v 16)) (.c 4)) (.v 6))) (.mul (.sub (.add (.mul (.c 8) (.v 15)) (.c 4)) (.v 5)) (.sub (.v 11) (.v 6))))) (.sub (.mul (.sub (.v 0) (.v 10)) (.sub (.add (.mul (.c 8) (.v 16)) (.c 4)) (.v 11))) (.mul (.sub (.add (.mul (.c 8) (.v 15)) (.c 4)) (.v 10)) (.sub (.v 1) (.v 11))))) (.sub (.mul (.sub (.v 5) (.v 0)) (.sub (.add (.mul (.c 8) (.v 16)) (.c 4)) (.v 1))) (.mul (.sub (.add (.mul (.c 8) (.v 15)) (.c 4)) (.v 0)) (.sub (.v 6) (.v 1)))))] (.call 1 [(.add (.add (.add (.c 0) (.mul (.mul (.sub (.mul (.sub (.v 10) (.v 5)) (.sub (.add (.mul (.c 8) (.v 16)) (.c 4)) (.v 6))) (.mul (.sub (.add (.mul (.c 8) (.v 15)) (.c 4)) (.v 5)) (.sub (.v 11) (.v 6)))) (.v 2)) (.v 3))) (.mul (.mul (.sub (.mul (.sub (.v 0) (.v 10)) (.sub (.add (.mul (.c 8) (.v 16)) (.c 4)) (.v 11))) (.mul (.sub (.add (.mul (.c 8) (.v 15)) (.c 4)) (.v 10)) (.sub (.v 1) (.v 11)))) (.v 7)) (.v 8))) (.mul (.mul (.sub (.mul (.sub (.v 5) (.v 0)) (.sub (.add (.mul (.c 8) (.v 16)) (.c 4)) (.v 1))) (.mul (.sub (.add (.mul (.c 8) (.v 15)) (.c 4)) (.v 0)) (.sub (.v 6) (.v 1)))) (.v 12)) (.v 13))),(.add (.add (.add (.c 0) (.mul (.mul (.sub (.mul (.sub (.v 10) (.v 5)) (.sub (.add (.mul (.c 8) (.v 16)) (.c 4)) (.v 6))) (.mul (.sub (.add (.mul (.c 8) (.v 15)) (.c 4)) (.v 5)) (.sub (.v 11) (.v 6)))) (.v 2)) (.c 1))) (.mul (.mul (.sub (.mul (.sub (.v 0) (.v 10)) (.sub (.add (.mul (.c 8) (.v 16)) (.c 4)) (.v 11))) (.mul (.sub (.add (.mul (.c 8) (.v 15)) (.c 4)) (.v 10)) (.sub (.v 1) (.v 11)))) (.v 7)) (.c 1))) (.mul (.mul (.sub (.mul (.sub (.v 5) (.v 0)) (.sub (.add (.mul (.c 8) (.v 16)) (.c 4)) (.v 1))) (.mul (.sub (.add (.mul (.c 8) (.v 15)) (.c 4)) (.v 0)) (.sub (.v 6) (.v 1)))) (.v 12)) (.c 1)))] (.call 1 [(.add (.add (.add (.c 0) (.mul (.mul (.sub (.mul (.sub (.v 10) (.v 5)) (.sub (.add (.mul (.c 8) (.v 16)) (.c 4)) (.v 6))) (.mul (.sub (.add (.mul (.c 8) (.v 15)) (.c 4)) (.v 5)) (.sub (.v 11) (.v 6)))) (.v 2)) (.v 4))) (.mul (.mul (.sub (.mul (.sub (.v 0) (.v 10)) (.sub (.add (.mul (.c 8) (.v 16)) (.c 4)) (.v 11))) (.mul (.sub (.add (.mul (.c 8) (.v 15)) (.c 4)) (.v 10)) (.sub (.v 1) (.v 11)))) (.v 7)) (.v 9))) (.mul (.mul (.sub (.mul (.sub (.v 5) (.v 0)) (.sub (.add (.mul (.c 8) (.v 16)) (.c 4)) (.v 1))) (.mul (.sub (.add (.mul (.c 8) (.v 15)) (.c 4)) (.v 0)) (.sub (.v 6) (.v 1)))) (.v 12)) (.v 14))),(.add (.add (.add (.c 0) (.mul (.mul (.sub (.mul (.sub (.v 10) (.v 5)) (.sub (.add (.mul (.c 8) (.v 16)) (.c 4)) (.v 6))) (.mul (.sub (.add (.mul (.c 8) (.v 15)) (.c 4)) (.v 5)) (.sub (.v 11) (.v 6)))) (.v 2)) (.c 1))) (.mul (.mul (.sub (.mul (.sub (.v 0) (.v 10)) (.sub (.add (.mul (.c 8) (.v 16)) (.c 4)) (.v 11))) (.mul (.sub (.add (.mul (.c 8) (.v 15)) (.c 4)) (.v 10)) (.sub (.v 1) (.v 11)))) (.v 7)) (.c 1))) (.mul (.mul (.sub (.mul (.sub (.v 5) (.v 0)) (.sub (.add (.mul (.c 8) (.v 16)) (.c 4)) (.v 1))) (.mul (.sub (.add (.mul (.c 8) (.v 15)) (.c 4)) (.v 0)) (.sub (.v 6) (.v 1)))) (.v 12)) (.c 1)))] (.ret [(.add (.mul (.c 8) (.v 15)) (.c 4)),(.add (.mul (.c 8) (.v 16)) (.c 4)),(.v 19),(.v 21),(.v 23),(.c 0)]))))))))))
theorem Z13v:Z13 (Zs [] Z1cc [] Zbz (Zn Tryz.prog Z78 gl0 Zjm 1000 61 [An 15,I1,I1] [An 5,I1]))=Zvl:=by kernel_rfl
theorem g_plat:Gok Tryz.prog Zjm:=(more Z13t (fix.one Z6m))
theorem o_plat:Zi Zjm Z1cc:=(Z3 Zys (Z3 Z4u Z6))
theorem Zlw:Z72.ok Tryz.prog:=Sum.okF facts.mixed g_plat o_plat Z13v rfl (fun _=>rfl) (by
 intro xs hx hp
 obtain ⟨a0,a1,a2,a3,a4,a5,a6,a7,a8,a9,a10,a11,a12,a13,a14,a15,a16,rfl⟩:=Z1e6 hx
 have hE:=@Zer [a0,a1,a2,a3,a4,a5,a6,a7,a8,a9,a10,a11,a12,a13,a14,a15,a16]
 clear hp hx
 by_cases he:(Z35 [a0,a1,a2,a3,a4,a5,a6,a7,a8,a9,a10,a11,a12,a13,a14,a15,a16]).getD 3 0=0
 ·obtain ⟨h1,h2,h3,hv⟩:=hE he
  have hc:Z85 [a0,a1,a2,a3,a4,a5,a6,a7,a8,a9,a10,a11,a12,a13,a14,a15,a16]=_:=if_pos he
  have hA:atL [a0,a1,a2,a3,a4,a5,a6,a7,a8,a9,a10,a11,a12,a13,a14,a15,a16]=_:=if_pos he
  cases hh:Zq5 [a0,a1,a2,a3,a4,a5,a6,a7,a8,a9,a10,a11,a12,a13,a14,a15,a16] with
  | true =>
   rw [hh] at hc
   rw [if_pos hh] at hA
   obtain ⟨f1,f2,f3,f4,f5,f6⟩:=Zvj h1 h2 hh
   have hs:=Z196 [a0,a1,a2,a3,a4,a5,a6,a7,a8,a9,a10,a11,a12,a13,a14,a15,a16]
   have g0:(a10 - a5) * (8 * a16 + 4 - a6) - (8 * a15 + 4 - a5) * (a11 - a6)=wgt [a0,a1,a2,a3,a4,a5,a6,a7,a8,a9,a10,a11,a12,a13,a14,a15,a16] 5 10 15:=rfl
   have g1:(a0 - a10) * (8 * a16 + 4 - a11) - (8 * a15 + 4 - a10) * (a1 - a11)=wgt [a0,a1,a2,a3,a4,a5,a6,a7,a8,a9,a10,a11,a12,a13,a14,a15,a16] 10 0 15:=rfl
   have g2:(a5 - a0) * (8 * a16 + 4 - a1) - (8 * a15 + 4 - a0) * (a6 - a1)=wgt [a0,a1,a2,a3,a4,a5,a6,a7,a8,a9,a10,a11,a12,a13,a14,a15,a16] 0 5 15:=rfl
   have g3:(a5 - a0) * (a11 - a1) - (a10 - a0) * (a6 - a1)=Z11 [a0,a1,a2,a3,a4,a5,a6,a7,a8,a9,a10,a11,a12,a13,a14,a15,a16]:=rfl
   have e1:wgt [a0,a1,a2,a3,a4,a5,a6,a7,a8,a9,a10,a11,a12,a13,a14,a15,a16] 5 10 15 * a2 + wgt [a0,a1,a2,a3,a4,a5,a6,a7,a8,a9,a10,a11,a12,a13,a14,a15,a16] 10 0 15 * a7 + wgt [a0,a1,a2,a3,a4,a5,a6,a7,a8,a9,a10,a11,a12,a13,a14,a15,a16] 0 5 15 * a12=Z60 [a0,a1,a2,a3,a4,a5,a6,a7,a8,a9,a10,a11,a12,a13,a14,a15,a16]:=rfl
   have e2:wgt [a0,a1,a2,a3,a4,a5,a6,a7,a8,a9,a10,a11,a12,a13,a14,a15,a16] 5 10 15 * a2 * a3 + wgt [a0,a1,a2,a3,a4,a5,a6,a7,a8,a9,a10,a11,a12,a13,a14,a15,a16] 10 0 15 * a7 * a8 + wgt [a0,a1,a2,a3,a4,a5,a6,a7,a8,a9,a10,a11,a12,a13,a14,a15,a16] 0 5 15 * a12 * a13=Zry [a0,a1,a2,a3,a4,a5,a6,a7,a8,a9,a10,a11,a12,a13,a14,a15,a16] 3:=rfl
   have e3:wgt [a0,a1,a2,a3,a4,a5,a6,a7,a8,a9,a10,a11,a12,a13,a14,a15,a16] 5 10 15 * a2 * a4 + wgt [a0,a1,a2,a3,a4,a5,a6,a7,a8,a9,a10,a11,a12,a13,a14,a15,a16] 10 0 15 * a7 * a9 + wgt [a0,a1,a2,a3,a4,a5,a6,a7,a8,a9,a10,a11,a12,a13,a14,a15,a16] 0 5 15 * a12 * a14=Zry [a0,a1,a2,a3,a4,a5,a6,a7,a8,a9,a10,a11,a12,a13,a14,a15,a16] 4:=rfl
   have ht:=Z89 h1
   simp only [TX.sat,XB.prop,X.den,Z1gw,Z1gx,Z1gq,Z1gr,Z1gu,Z1gv,Z1gs,Z1gt,mkS,mkP,and_true,true_and,Z1h1,Z1h2,not_or,not_and,Z1gy,ne_eq,Z1gz,Z1h0] at ht
   have hpx:=Z27.1 h3
   simp only [TX.sat,XB.prop,X.den,Z1gw,Z1gx,Z1gq,Z1gr,Z1gu,Z1gv,Z1gs,Z1gt,mkS,mkP,and_true,true_and,Z1h1,Z1h2,not_or,not_and,Z1gy,ne_eq,Z1gz,Z1h0,Nat.reduceAdd] at hpx
   simp only [Zvl,Zjm,Z98,Z1m,TX.sat,XB.prop,X.den,Z1gw,Z1gx,Z1gq,Z1gr,Z1gu,Z1gv,Z1gs,Z1gt,mkS,mkP,and_true,true_and,Z1h1,Z1h2,not_or,not_and,Z1gy,ne_eq,Z1gz,Z1h0,Z5z,Z1d,Zby,hc,hA,ex6,b01,g0,g1,g2,g3,Int.zero_add,Int.mul_one,e1,e2,e3,hs]
   clear hE hc hA hv he g0 g1 g2 g3 e1 e2 e3 hs h1 h3 hh
   simp only [if_true,reduceIte]
   refine ⟨fun h=>h.elim,fun _=>⟨fun h=>absurd h (by decide),fun _=>⟨fun h=>?_,fun _=>⟨fun h=>?_,fun _=>⟨fun h=>?_,fun _=>?_⟩⟩⟩⟩⟩
   ·omega
   ·omega
   ·omega
   ·exact ⟨Zvk (by omega) (by omega) (by omega) (by omega),Zvk (by omega) (by omega) (by omega) (by omega),Zvk (by omega) (by omega) (by omega) (by omega)⟩
  | false =>
   rw [hh] at hc
   rw [if_neg (by rw [hh]; simp)] at hA
   simp only [Zvl,Zjm,Z98,Z1m,TX.sat,XB.prop,X.den,Z1gw,Z1gx,Z1gq,Z1gr,Z1gu,Z1gv,Z1gs,Z1gt,mkS,mkP,and_true,true_and,Z1h1,Z1h2,not_or,not_and,Z1gy,ne_eq,Z1gz,Z1h0,Z5z,Z1d,Zby,hc,hA,ex6,b01]
   exact ⟨fun h=>h.elim,fun _=>⟨fun _=>trivial,fun h=>absurd rfl h⟩⟩
 ·have hc:Z85 [a0,a1,a2,a3,a4,a5,a6,a7,a8,a9,a10,a11,a12,a13,a14,a15,a16]=_:=if_neg he
  have hA:atL [a0,a1,a2,a3,a4,a5,a6,a7,a8,a9,a10,a11,a12,a13,a14,a15,a16]=_:=if_neg he
  simp only [Zvl,Zjm,Z98,Z1m,TX.sat,XB.prop,X.den,Z1gw,Z1gx,Z1gq,Z1gr,Z1gu,Z1gv,Z1gs,Z1gt,mkS,mkP,and_true,true_and,Z1h1,Z1h2,not_or,not_and,Z1gy,ne_eq,Z1gz,Z1h0,Z5z,Z1d,Zby,hc,hA,ex6,b01]
  exact ⟨fun _=>trivial,fun h=>absurd h he⟩)
theorem Zal {a b m n:Int} (hb:0 < b) (h1:b * m≤a) (h2:a≤b * n):m≤a / b∧a / b≤n:=by
 constructor
 ·rw [Int.le_ediv_iff_mul_le hb,Int.mul_comm]
  exact h1
 ·refine Int.ediv_le_of_le_mul hb ?_
  rw [Int.mul_comm]
  exact h2
theorem Zyt {x:List Int} (h:Z7h x=true) (ht:0 < Z11 x) (hh:Zq5 x=true):(1≤Z60 x / Z11 x∧Z60 x / Z11 x≤65536)∧(0≤Zry x 3 / Z60 x∧Zry x 3 / Z60 x≤255)∧(0≤Zry x 4 / Z60 x∧Zry x 4 / Z60 x≤255):=by
 obtain ⟨f1,f2,f3,f4,f5,f6⟩:=Zvj h ht hh
 have k:=Z13u h hh
 exact ⟨Zal ht (by omega) k.2,Zal (by omega) (by omega) (by omega),Zal (by omega) (by omega) (by omega)⟩
theorem at_z {e:Int} (h1:0≤e) (h2:e≤8):Zr (Zlb []) (ex6 [0,0,0,0,0,e]) :=
 Z1 (Z7.2 (by simp)) (Z1 (Z7.2 (by simp)) (Z1 (Z7.2 (by simp)) (Z1 (Z7.2 (by simp)) (Z1 (Z7.2 (by simp)) (Z1 ⟨h1,h2⟩ Z2)))))
theorem Z9e:Z18 Z72 Zot:=⟨fun _ h=>h,fun vs xs h hp=>by
 show Zr (Zlb []) (ex6 (atL xs))
 have h8:0≤(Z35 xs).getD 3 0∧(Z35 xs).getD 3 0≤8:=(Zhe.2 vs xs h hp).2 3
 unfold atL
 split
 ·rename_i he
  obtain ⟨h1,h2,h3,_⟩:=Zer he
  split
  ·rename_i hh
   obtain ⟨k1,k2,k3⟩:=Zyt h1 h2 hh
   rw [Z27] at h3
   have h3':0≤xs.getD 15 0∧xs.getD 15 0 < 64∧0≤xs.getD 16 0∧xs.getD 16 0 < 64:=h3
   have w1:0≤8 * xs.getD 15 0 + 4∧8 * xs.getD 15 0 + 4≤511:=by omega
   have w2:0≤8 * xs.getD 16 0 + 4∧8 * xs.getD 16 0 + 4≤511:=by omega
   exact Z1 w1 (Z1 w2 (Z1 ⟨by show 0≤Z60 xs / Z11 xs; omega,k1.2⟩ (Z1 k2 (Z1 k3 (Z1 (Z7.2 (by simp)) Z2)))))
  ·exact at_z (by omega) (by omega)
 ·exact at_z h8.1 h8.2⟩
end Go.Proofs.YtgcoidbaoigkeaaGreatDoor.fix
