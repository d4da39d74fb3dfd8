/-
  Symbolic execution of the model, and what functions of the program come to: part 5.
-/
import Derived.Test.YtgcoidbaoigkeaaGreatDoorRows
import Derived.Test.YtgcoidbaoigkeaaGreatDoorPkd
set_option linter.unusedVariables false
set_option linter.unusedSimpArgs false
open List renaming getElem?_cons_zero → Z1ke, getElem?_cons_succ → Z1kf, getD_cons_zero → Z1kg, getD_cons_succ → Z1kh, cons_append → Z1ki, nil_append → Z1kj, map_cons → Z1kk, map_nil → Z1kl
namespace Go.Proofs.YtgcoidbaoigkeaaGreatDoor.fix
open Go.RowKit Go.Sx
noncomputable def Zcx:List Sum:=[]
def Zxt:List Inf:=[]
def Znm:TX:=(.ite (.or (.or (.lt (.v 0) (.c (-32768))) (.lt (.c 32768) (.v 0))) (.or (.or (.lt (.v 1) (.c (-32768))) (.lt (.c 32768) (.v 1))) (.or (.or (.lt (.v 2) (.c (-32768))) (.lt (.c 32768) (.v 2))) (.or (.or (.lt (.v 3) (.c 0)) (.lt (.c 255) (.v 3))) (.or (.lt (.v 4) (.c 0)) (.lt (.c 255) (.v 4))))))) (.ret [(.c 8)])
(.ret [(.c 0)]))
theorem Zue:Z12 (Zr [] Zxt [] Zem (Zq Tryz.prog Z7x gl0 Zcx 1000 177 [An 5] [I1]))=Znm:=by kernel_rfl
theorem Z1d8:Gok Tryz.prog Zcx:=noG
theorem Z1d9:Zj Zcx Zxt:=Z8
theorem Zr3:Z48.ok Tryz.prog:=Sum.okF facts.mixed Z1d8 Z1d9 Zue rfl (fun _=>rfl) (by
 intro xs hx hp
 obtain ⟨a0,a1,a2,a3,a4,rfl⟩:=len5 hx
 by_cases hc0:Z14 [a0,a1,a2,a3,a4] 0=true
 ·have hd0:=hc0
  try simp only [Z14,Z1kr,Zd,Zb,TX.sat,XB.prop,X.den,Z1kk,Z1kl,Z1ke,Z1kf,Z1ki,Z1kj,Z1kg,Z1kh,mkS,mkP,and_true,true_and,Z1kp,Z1kq,not_or,not_and,Z1km,ne_eq,Z1kn,Z1ko,Nat.reduceAdd,Nat.zero_add] at hd0
  simp only [Znm,Zcx,TX.sat,XB.prop,X.den,Z1kk,Z1kl,Z1ke,Z1kf,Z1ki,Z1kj,Z1kg,Z1kh,mkS,mkP,and_true,true_and,Z1kp,Z1kq,not_or,not_and,Z1km,ne_eq,Z1kn,Z1ko,Z2u,hc0,ex3,ex4,ex5,ex6,Zfx,Zam,er,b01,Zb,if_true,if_false,reduceIte,Bool.false_eq_true,Nat.reduceAdd,Nat.zero_add]
  clear hc0
  repeat' first | exact trivial | refine And.intro ?_ ?_ | intro _
  all_goals first | trivial | rfl | omega | (simp [Int.max_comm,Int.min_comm]; done) | (simp only [List.cons.injEq,and_true,true_and]; omega) | (split <;> first | trivial | rfl | omega)
 ·have hd0:=hc0
  try simp only [Z14,Z1kr,Zd,Zb,TX.sat,XB.prop,X.den,Z1kk,Z1kl,Z1ke,Z1kf,Z1ki,Z1kj,Z1kg,Z1kh,mkS,mkP,and_true,true_and,Z1kp,Z1kq,not_or,not_and,Z1km,ne_eq,Z1kn,Z1ko,Nat.reduceAdd,Nat.zero_add] at hd0
  simp only [Znm,Zcx,TX.sat,XB.prop,X.den,Z1kk,Z1kl,Z1ke,Z1kf,Z1ki,Z1kj,Z1kg,Z1kh,mkS,mkP,and_true,true_and,Z1kp,Z1kq,not_or,not_and,Z1km,ne_eq,Z1kn,Z1ko,Z2u,hc0,ex3,ex4,ex5,ex6,Zfx,Zam,er,b01,Zb,if_true,if_false,reduceIte,Bool.false_eq_true,Nat.reduceAdd,Nat.zero_add]
  clear hc0
  repeat' first | exact trivial | refine And.intro ?_ ?_ | intro _
  all_goals first | trivial | rfl | omega | (simp [Int.max_comm,Int.min_comm]; done) | (simp only [List.cons.injEq,and_true,true_and]; omega) | (split <;> first | trivial | rfl | omega))
theorem Zlb:Z1g Z48 Zna:=⟨fun _ h=>h,fun vs xs h hp=>Z1 (Z10c _ (by omega)) Z4⟩
theorem Zcy {x:List Int} {o:Nat} (h:Z14 x o=true):(-32768≤x.getD o 0∧x.getD o 0≤32768)∧(-32768≤x.getD (o + 1) 0∧x.getD (o + 1) 0≤32768)∧(-32768≤x.getD (o + 2) 0∧x.getD (o + 2) 0≤32768)∧(0≤x.getD (o + 3) 0∧x.getD (o + 3) 0≤255)∧(0≤x.getD (o + 4) 0∧x.getD (o + 4) 0≤255):=by
 simp only [Z14,Z1kr,Zd,Zb] at h
 exact ⟨h.1.1,h.1.2.1,h.1.2.2,h.2.1,h.2.2⟩
theorem Z1da {d p q:Int} (hp:0≤p) (hq:p≤q) (h0:0 < q):min 0 d≤d * p / q∧d * p / q≤max 0 d:=by
 rcases Int.le_total 0 d with hd | hd
 ·have h1:0≤d * p:=Int.mul_nonneg hd hp
  have h2:d * p≤d * q:=Int.mul_le_mul_of_nonneg_left hq hd
  have h3:0≤d * p / q:=Int.ediv_nonneg h1 (by omega)
  have h4:d * p / q≤d:=by
   apply Int.ediv_le_of_le_mul h0
   exact h2
  omega
 ·have h1:d * p≤0:=Int.mul_nonpos_of_nonpos_of_nonneg hd hp
  have h2:d * q≤d * p:=Int.mul_le_mul_of_nonpos_left hd hq
  have h3:d≤d * p / q:=by
   rw [Int.le_ediv_iff_mul_le h0]
   exact h2
  have h4:d * p / q≤0:=by
   apply Int.ediv_le_of_le_mul h0
   omega
  omega
theorem Z174 {a b p q:Int} (hp:0≤p) (hq:p≤q) (h0:0 < q):min a b≤a + (b - a) * p / q∧a + (b - a) * p / q≤max a b:=by
 have:=Z1da (d:=b - a) hp hq h0
 omega
theorem Zr4 {x:List Int} (h:Z68 x=true):x.getD 3 0 < x.getD 0 0∧x.getD 0 0≤x.getD 8 0:=by simpa only [Z68,Zb] using h
theorem Z61 {x:List Int} {o:Nat} (hb:Z68 x=true):min (x.getD o 0) (x.getD (o + 5) 0)≤Zbd x o∧Zbd x o≤max (x.getD o 0) (x.getD (o + 5) 0):=by
 have:=Zr4 hb
 exact Z174 (by omega) (by omega) (by omega)
theorem Z175 {x:List Int} (h:Zcs x=true):256≤x.getD 0 0∧x.getD 0 0≤4096:=by simpa only [Zcs,Zb] using h
theorem Z176 {x:List Int} (hn:Zcs x=true) (h1:Z14 x 1=true) (h6:Z14 x 6=true) (hb:Z68 x=true) :
  (-32768≤Zbd x 1∧Zbd x 1≤32768)∧(-32768≤Zbd x 2∧Zbd x 2≤32768)∧(0≤Zbd x 4∧Zbd x 4≤255)∧(0≤Zbd x 5∧Zbd x 5≤255):=by
 have p:=Zcy h1
 have q:=Zcy h6
 simp only [Nat.reduceAdd] at p q
 have m1:min (x.getD 1 0) (x.getD 6 0)≤Zbd x 1∧Zbd x 1≤max (x.getD 1 0) (x.getD 6 0):=Z61 hb
 have m2:min (x.getD 2 0) (x.getD 7 0)≤Zbd x 2∧Zbd x 2≤max (x.getD 2 0) (x.getD 7 0):=Z61 hb
 have m4:min (x.getD 4 0) (x.getD 9 0)≤Zbd x 4∧Zbd x 4≤max (x.getD 4 0) (x.getD 9 0):=Z61 hb
 have m5:min (x.getD 5 0) (x.getD 10 0)≤Zbd x 5∧Zbd x 5≤max (x.getD 5 0) (x.getD 10 0):=Z61 hb
 omega
theorem Z1ix:Z1g Z1cw i_cut:=⟨fun _ h=>h,fun vs xs h hp=>by
 show Z17 (ivs 2 (-32768) 32768++[iv 0 4096]++ivs 2 0 255++[iv 0 8]) (ex6 (Z1a4 xs))
 have z:∀ e:Int,0≤e→e≤8→Z17 (ivs 2 (-32768) 32768++[iv 0 4096]++ivs 2 0 255++[iv 0 8]) (ex6 [0,0,0,0,0,e]):=fun e h1 h2 =>
  Z1 (Z5.2 (by simp)) (Z1 (Z5.2 (by simp)) (Z1 (Z5.2 (by simp)) (Z1 (Z5.2 (by simp)) (Z1 (Z5.2 (by simp)) (Z1 ⟨h1,h2⟩ Z4)))))
 unfold Z1a4
 split
 ·rename_i hn
  split
  ·rename_i hpp
   simp only [Z1kr] at hpp
   split
   ·rename_i hb
    obtain ⟨f1,f2,f4,f5⟩:=Z176 hn hpp.1 hpp.2 hb
    have:=Z175 hn
    exact Z1 f1 (Z1 f2 (Z1 (Z5.2 (by show 0≤xs.getD 0 0∧xs.getD 0 0≤4096; omega)) (Z1 f4 (Z1 f5 (Z1 (Z5.2 (by simp [Z1im])) Z4)))))
   ·exact z 6 (by omega) (by omega)
  ·exact z 8 (by omega) (by omega)
 ·exact z 2 (by omega) (by omega)⟩
theorem Zgk {a b p q:Int} (ha:-32768≤a∧a≤32768) (hb:-32768≤b∧b≤32768) (hp:0≤p∧p≤65536) (hq:p≤q∧q≤65536) (h0:0 < q) :
  IntKind.i64.wrap (b - a)=b - a∧IntKind.i64.wrap ((b - a) * p)=(b - a) * p∧IntKind.i64.wrap (a + (b - a) * p / q)=a + (b - a) * p / q∧Z17 [zz,pos] [(b - a) * p,q]:=by
 have h1:=Z16 (x:=b - a) (y:=p) (m:=65536) (n:=65536) (by omega) (by omega)
 have h2:=Z174 (a:=a) (b:=b) hp.1 hq.1 h0
 exact ⟨Zf (by omega) (by omega),Zf (by omega) (by omega),Zf (by omega) (by omega),Zxq (by omega) (by omega) (by omega) (by omega)⟩
noncomputable def Zr5:List Sum:=[Z48,Z1l]
def I_cut:List Inf:=[Zna,Z8x]
def Z118:TX:=(.ite (.or (.lt (.v 0) (.c 256)) (.lt (.c 4096) (.v 0))) (.ret [(.c 0),(.c 0),(.c 0),(.c 0),(.c 0),(.c 2)])
(.callp 0 [(.v 1),(.v 2),(.v 3),(.v 4),(.v 5)] (.ite (.not (.eq (.v 11) (.c 0))) (.ret [(.c 0),(.c 0),(.c 0),(.c 0),(.c 0),(.v 11)])
(.callp 0 [(.v 6),(.v 7),(.v 8),(.v 9),(.v 10)] (.ite (.not (.eq (.v 12) (.c 0))) (.ret [(.c 0),(.c 0),(.c 0),(.c 0),(.c 0),(.v 12)])
(.ite (.or (.le (.v 0) (.v 3)) (.lt (.v 8) (.v 0))) (.ret [(.c 0),(.c 0),(.c 0),(.c 0),(.c 0),(.c 6)])
(.call 1 [(.wr .i64 (.mul (.wr .i64 (.sub (.v 6) (.v 1))) (.wr .i64 (.sub (.v 0) (.v 3))))),(.wr .i64 (.sub (.v 8) (.v 3)))] (.call 1 [(.wr .i64 (.mul (.wr .i64 (.sub (.v 7) (.v 2))) (.wr .i64 (.sub (.v 0) (.v 3))))),(.wr .i64 (.sub (.v 8) (.v 3)))] (.call 1 [(.wr .i64 (.mul (.wr .i64 (.sub (.v 9) (.v 4))) (.wr .i64 (.sub (.v 0) (.v 3))))),(.wr .i64 (.sub (.v 8) (.v 3)))] (.call 1 [(.wr .i64 (.mul (.wr .i64 (.sub (.v 10) (.v 5))) (.wr .i64 (.sub (.v 0) (.v 3))))),(.wr .i64 (.sub (.v 8) (.v 3)))] (.ret [(.wr .i64 (.add (.v 1) (.v 13))),(.wr .i64 (.add (.v 2) (.v 15))),(.v 0),(.wr .i64 (.add (.v 4) (.v 17))),(.wr .i64 (.add (.v 5) (.v 19))),(.c 0)])))))))))))
theorem Z1db:Z12 (Zr [] I_cut [] Zua (Zq Tryz.prog Z7x gl0 Zr5 1000 176 [I1,An 5,An 5] [An 5,I1]))=Z118:=by kernel_rfl
theorem g_cut:Gok Tryz.prog Zr5:=(more Zr3 (fix.one Z7n))
theorem o_cut:Zj Zr5 I_cut:=(Z2 Zlb (Z2 Z5k Z8))
theorem ok_cut:Z1cw.ok Tryz.prog:=Sum.okF facts.mixed g_cut o_cut Z1db rfl (fun _=>rfl) (by
 intro xs hx hp
 obtain ⟨a0,a1,a2,a3,a4,a5,a6,a7,a8,a9,a10,rfl⟩:=len11 hx
 have e1:Z14 [a1,a2,a3,a4,a5] 0=Z14 [a0,a1,a2,a3,a4,a5,a6,a7,a8,a9,a10] 1:=rfl
 have e2:Z14 [a6,a7,a8,a9,a10] 0=Z14 [a0,a1,a2,a3,a4,a5,a6,a7,a8,a9,a10] 6:=rfl
 clear hx hp
 by_cases hn:Zcs [a0,a1,a2,a3,a4,a5,a6,a7,a8,a9,a10]=true
 ·have kn:=Z175 hn
  simp only [TX.sat,XB.prop,X.den,Z1kk,Z1kl,Z1ke,Z1kf,Z1ki,Z1kj,Z1kg,Z1kh,mkS,mkP,and_true,true_and,Z1kp,Z1kq,not_or,not_and,Z1km,ne_eq,Z1kn,Z1ko] at kn
  by_cases h1:Z14 [a0,a1,a2,a3,a4,a5,a6,a7,a8,a9,a10] 1=true
  ·by_cases h6:Z14 [a0,a1,a2,a3,a4,a5,a6,a7,a8,a9,a10] 6=true
   ·have k1:=Zcy h1
    have k6:=Zcy h6
    simp only [TX.sat,XB.prop,X.den,Z1kk,Z1kl,Z1ke,Z1kf,Z1ki,Z1kj,Z1kg,Z1kh,mkS,mkP,and_true,true_and,Z1kp,Z1kq,not_or,not_and,Z1km,ne_eq,Z1kn,Z1ko,Nat.reduceAdd] at k1 k6
    by_cases hb:Z68 [a0,a1,a2,a3,a4,a5,a6,a7,a8,a9,a10]=true
    ·have kb:=Zr4 hb
     simp only [TX.sat,XB.prop,X.den,Z1kk,Z1kl,Z1ke,Z1kf,Z1ki,Z1kj,Z1kg,Z1kh,mkS,mkP,and_true,true_and,Z1kp,Z1kq,not_or,not_and,Z1km,ne_eq,Z1kn,Z1ko] at kb
     have w0:IntKind.i64.wrap (a0 - a3)=a0 - a3:=Zf (by omega) (by omega)
     have w8:IntKind.i64.wrap (a8 - a3)=a8 - a3:=Zf (by omega) (by omega)
     obtain ⟨u1,v1,x1,p1⟩:=Zgk (a:=a1) (b:=a6) (p:=a0 - a3) (q:=a8 - a3) k1.1 k6.1 (by omega) (by omega) (by omega)
     obtain ⟨u2,v2,x2,p2⟩:=Zgk (a:=a2) (b:=a7) (p:=a0 - a3) (q:=a8 - a3) k1.2.1 k6.2.1 (by omega) (by omega) (by omega)
     obtain ⟨u4,v4,x4,p4⟩:=Zgk (a:=a4) (b:=a9) (p:=a0 - a3) (q:=a8 - a3) (by omega) (by omega) (by omega) (by omega) (by omega)
     obtain ⟨u5,v5,x5,p5⟩:=Zgk (a:=a5) (b:=a10) (p:=a0 - a3) (q:=a8 - a3) (by omega) (by omega) (by omega) (by omega) (by omega)
     simp only [Z118,Zr5,Z48,Z1l,TX.sat,XB.prop,X.den,Z1kk,Z1kl,Z1ke,Z1kf,Z1ki,Z1kj,Z1kg,Z1kh,mkS,mkP,and_true,true_and,Z1kp,Z1kq,not_or,not_and,Z1km,ne_eq,Z1kn,Z1ko,Zbe,Z2u,Z1f,e1,e2,Z1a4,hn,h1,h6,hb,er,Z1im,ex6,Zbd,Nat.reduceAdd,if_true,reduceIte,Bool.and_self,w0,w8,u1,u2,u4,u5,v1,v2,v4,v5,x1,x2,x4,x5]
     repeat' first | exact trivial | assumption | refine And.intro ?_ ?_ | intro _
     all_goals first | trivial | assumption | omega | (simp; done)
    ·have kb:¬ (a3 < a0∧a0≤a8):=fun h=>hb (by simp only [Z68,Zb,TX.sat,XB.prop,X.den,Z1kk,Z1kl,Z1ke,Z1kf,Z1ki,Z1kj,Z1kg,Z1kh,mkS,mkP,and_true,true_and,Z1kp,Z1kq,not_or,not_and,Z1km,ne_eq,Z1kn,Z1ko]; exact h)
     simp only [Z118,Zr5,Z48,Z1l,TX.sat,XB.prop,X.den,Z1kk,Z1kl,Z1ke,Z1kf,Z1ki,Z1kj,Z1kg,Z1kh,mkS,mkP,and_true,true_and,Z1kp,Z1kq,not_or,not_and,Z1km,ne_eq,Z1kn,Z1ko,Zbe,Z2u,Z1f,e1,e2,Z1a4,hn,h1,h6,hb,er,Z1im,ex6,Zbd,Nat.reduceAdd,if_true,if_false,reduceIte,Bool.and_self]
     repeat' first | exact trivial | assumption | refine And.intro ?_ ?_ | intro _
     all_goals first | trivial | assumption | omega | (simp; done)
   ·simp only [Z118,Zr5,Z48,Z1l,TX.sat,XB.prop,X.den,Z1kk,Z1kl,Z1ke,Z1kf,Z1ki,Z1kj,Z1kg,Z1kh,mkS,mkP,and_true,true_and,Z1kp,Z1kq,not_or,not_and,Z1km,ne_eq,Z1kn,Z1ko,Zbe,Z2u,Z1f,e1,e2,Z1a4,hn,h1,h6,er,Z1im,ex6,Zbd,Nat.reduceAdd,if_true,if_false,reduceIte,Bool.and_false,Bool.false_eq_true]
    repeat' first | exact trivial | assumption | refine And.intro ?_ ?_ | intro _
    all_goals first | trivial | assumption | omega | (simp; done)
  ·simp only [Z118,Zr5,Z48,Z1l,TX.sat,XB.prop,X.den,Z1kk,Z1kl,Z1ke,Z1kf,Z1ki,Z1kj,Z1kg,Z1kh,mkS,mkP,and_true,true_and,Z1kp,Z1kq,not_or,not_and,Z1km,ne_eq,Z1kn,Z1ko,Zbe,Z2u,Z1f,e1,e2,Z1a4,hn,h1,er,Z1im,ex6,Zbd,Nat.reduceAdd,if_true,if_false,reduceIte,Bool.false_and,Bool.false_eq_true]
   repeat' first | exact trivial | assumption | refine And.intro ?_ ?_ | intro _
   all_goals first | trivial | assumption | omega | (simp; done)
 ·have kn:¬ (256≤a0∧a0≤4096):=fun h=>hn (by simp only [Zcs,Zb,TX.sat,XB.prop,X.den,Z1kk,Z1kl,Z1ke,Z1kf,Z1ki,Z1kj,Z1kg,Z1kh,mkS,mkP,and_true,true_and,Z1kp,Z1kq,not_or,not_and,Z1km,ne_eq,Z1kn,Z1ko]; exact h)
  simp only [Z118,Zr5,Z48,Z1l,TX.sat,XB.prop,X.den,Z1kk,Z1kl,Z1ke,Z1kf,Z1ki,Z1kj,Z1kg,Z1kh,mkS,mkP,and_true,true_and,Z1kp,Z1kq,not_or,not_and,Z1km,ne_eq,Z1kn,Z1ko,Zbe,Z2u,Z1f,e1,e2,Z1a4,hn,er,Z1im,ex6,Zbd,Nat.reduceAdd,if_true,if_false,reduceIte,Bool.false_and,Bool.false_eq_true]
  repeat' first | exact trivial | assumption | refine And.intro ?_ ?_ | intro _
  all_goals first | trivial | assumption | omega | (simp; done))
noncomputable def Znn:List Sum:=[Z48,Z1cw]
def Z177:List Inf:=[Zna,i_cut]
def Z178:TX:=(.ite (.or (.lt (.v 0) (.c 256)) (.lt (.c 4096) (.v 0))) (.ret [.nl,(.c 2)])
(.callp 0 [(.v 1),(.v 2),(.v 3),(.v 4),(.v 5)] (.ite (.not (.eq (.v 16) (.c 0))) (.ret [.nl,(.v 16)])
(.callp 0 [(.v 6),(.v 7),(.v 8),(.v 9),(.v 10)] (.ite (.not (.eq (.v 17) (.c 0))) (.ret [.nl,(.v 17)])
(.callp 0 [(.v 11),(.v 12),(.v 13),(.v 14),(.v 15)] (.ite (.not (.eq (.v 18) (.c 0))) (.ret [.nl,(.v 18)])
(.ite (.le (.v 0) (.v 3)) (.ite (.le (.v 0) (.v 8)) (.ite (.le (.v 0) (.v 13)) (.ret [(.l2 .snoc .nl (.l2 .cons (.v 1) (.l2 .cons (.v 2) (.l2 .cons (.v 3) (.l2 .cons (.v 4) (.l2 .cons (.v 5) (.l2 .cons (.v 6) (.l2 .cons (.v 7) (.l2 .cons (.v 8) (.l2 .cons (.v 9) (.l2 .cons (.v 10) (.l2 .cons (.v 11) (.l2 .cons (.v 12) (.l2 .cons (.v 13) (.l2 .cons (.v 14) (.l2 .cons (.v 15) .nl)))))))))))))))),(.c 0)])
(.callp 1 [(.v 0),(.v 11),(.v 12),(.v 13),(.v 14),(.v 15),(.v 6),(.v 7),(.v 8),(.v 9),(.v 10)] (.callp 1 [(.v 0),(.v 11),(.v 12),(.v 13),(.v 14),(.v 15),(.v 1),(.v 2),(.v 3),(.v 4),(.v 5)] (.ret [(.l2 .snoc (.l2 .snoc .nl (.l2 .cons (.v 1) (.l2 .cons (.v 2) (.l2 .cons (.v 3) (.l2 .cons (.v 4) (.l2 .cons (.v 5) (.l2 .cons (.v 6) (.l2 .cons (.v 7) (.l2 .cons (.v 8) (.l2 .cons (.v 9) (.l2 .cons (.v 10) (.l2 .cons (.v 19) (.l2 .cons (.v 20) (.l2 .cons (.v 21) (.l2 .cons (.v 22) (.l2 .cons (.v 23) .nl)))))))))))))))) (.l2 .cons (.v 1) (.l2 .cons (.v 2) (.l2 .cons (.v 3) (.l2 .cons (.v 4) (.l2 .cons (.v 5) (.l2 .cons (.v 19) (.l2 .cons (.v 20) (.l2 .cons (.v 21) (.l2 .cons (.v 22) (.l2 .cons (.v 23) (.l2 .cons (.v 25) (.l2 .cons (.v 26) (.l2 .cons (.v 27) (.l2 .cons (.v 28) (.l2 .cons (.v 29) .nl)))))))))))))))),(.c 0)]))))
(.callp 1 [(.v 0),(.v 6),(.v 7),(.v 8),(.v 9),(.v 10),(.v 1),(.v 2),(.v 3),(.v 4),(.v 5)] (.ite (.not (.le (.v 0) (.v 13))) (.callp 1 [(.v 0),(.v 11),(.v 12),(.v 13),(.v 14),(.v 15),(.v 1),(.v 2),(.v 3),(.v 4),(.v 5)] (.ret [(.l2 .snoc .nl (.l2 .cons (.v 1) (.l2 .cons (.v 2) (.l2 .cons (.v 3) (.l2 .cons (.v 4) (.l2 .cons (.v 5) (.l2 .cons (.v 19) (.l2 .cons (.v 20) (.l2 .cons (.v 21) (.l2 .cons (.v 22) (.l2 .cons (.v 23) (.l2 .cons (.v 25) (.l2 .cons (.v 26) (.l2 .cons (.v 27) (.l2 .cons (.v 28) (.l2 .cons (.v 29) .nl)))))))))))))))),(.c 0)]))
(.callp 1 [(.v 0),(.v 6),(.v 7),(.v 8),(.v 9),(.v 10),(.v 11),(.v 12),(.v 13),(.v 14),(.v 15)] (.ret [(.l2 .snoc (.l2 .snoc .nl (.l2 .cons (.v 1) (.l2 .cons (.v 2) (.l2 .cons (.v 3) (.l2 .cons (.v 4) (.l2 .cons (.v 5) (.l2 .cons (.v 19) (.l2 .cons (.v 20) (.l2 .cons (.v 21) (.l2 .cons (.v 22) (.l2 .cons (.v 23) (.l2 .cons (.v 25) (.l2 .cons (.v 26) (.l2 .cons (.v 27) (.l2 .cons (.v 28) (.l2 .cons (.v 29) .nl)))))))))))))))) (.l2 .cons (.v 1) (.l2 .cons (.v 2) (.l2 .cons (.v 3) (.l2 .cons (.v 4) (.l2 .cons (.v 5) (.l2 .cons (.v 25) (.l2 .cons (.v 26) (.l2 .cons (.v 27) (.l2 .cons (.v 28) (.l2 .cons (.v 29) (.l2 .cons (.v 11) (.l2 .cons (.v 12) (.l2 .cons (.v 13) (.l2 .cons (.v 14) (.l2 .cons (.v 15) .nl)))))))))))))))),(.c 0)])))))
(.ite (.not (.le (.v 0) (.v 8))) (.ite (.not (.le (.v 0) (.v 13))) (.ret [.nl,(.c 0)])
(.callp 1 [(.v 0),(.v 6),(.v 7),(.v 8),(.v 9),(.v 10),(.v 11),(.v 12),(.v 13),(.v 14),(.v 15)] (.callp 1 [(.v 0),(.v 1),(.v 2),(.v 3),(.v 4),(.v 5),(.v 11),(.v 12),(.v 13),(.v 14),(.v 15)] (.ret [(.l2 .snoc .nl (.l2 .cons (.v 19) (.l2 .cons (.v 20) (.l2 .cons (.v 21) (.l2 .cons (.v 22) (.l2 .cons (.v 23) (.l2 .cons (.v 11) (.l2 .cons (.v 12) (.l2 .cons (.v 13) (.l2 .cons (.v 14) (.l2 .cons (.v 15) (.l2 .cons (.v 25) (.l2 .cons (.v 26) (.l2 .cons (.v 27) (.l2 .cons (.v 28) (.l2 .cons (.v 29) .nl)))))))))))))))),(.c 0)]))))
(.callp 1 [(.v 0),(.v 1),(.v 2),(.v 3),(.v 4),(.v 5),(.v 6),(.v 7),(.v 8),(.v 9),(.v 10)] (.ite (.le (.v 0) (.v 13)) (.callp 1 [(.v 0),(.v 1),(.v 2),(.v 3),(.v 4),(.v 5),(.v 11),(.v 12),(.v 13),(.v 14),(.v 15)] (.ret [(.l2 .snoc (.l2 .snoc .nl (.l2 .cons (.v 19) (.l2 .cons (.v 20) (.l2 .cons (.v 21) (.l2 .cons (.v 22) (.l2 .cons (.v 23) (.l2 .cons (.v 6) (.l2 .cons (.v 7) (.l2 .cons (.v 8) (.l2 .cons (.v 9) (.l2 .cons (.v 10) (.l2 .cons (.v 11) (.l2 .cons (.v 12) (.l2 .cons (.v 13) (.l2 .cons (.v 14) (.l2 .cons (.v 15) .nl)))))))))))))))) (.l2 .cons (.v 19) (.l2 .cons (.v 20) (.l2 .cons (.v 21) (.l2 .cons (.v 22) (.l2 .cons (.v 23) (.l2 .cons (.v 11) (.l2 .cons (.v 12) (.l2 .cons (.v 13) (.l2 .cons (.v 14) (.l2 .cons (.v 15) (.l2 .cons (.v 25) (.l2 .cons (.v 26) (.l2 .cons (.v 27) (.l2 .cons (.v 28) (.l2 .cons (.v 29) .nl)))))))))))))))),(.c 0)]))
(.callp 1 [(.v 0),(.v 11),(.v 12),(.v 13),(.v 14),(.v 15),(.v 6),(.v 7),(.v 8),(.v 9),(.v 10)] (.ret [(.l2 .snoc .nl (.l2 .cons (.v 19) (.l2 .cons (.v 20) (.l2 .cons (.v 21) (.l2 .cons (.v 22) (.l2 .cons (.v 23) (.l2 .cons (.v 6) (.l2 .cons (.v 7) (.l2 .cons (.v 8) (.l2 .cons (.v 9) (.l2 .cons (.v 10) (.l2 .cons (.v 25) (.l2 .cons (.v 26) (.l2 .cons (.v 27) (.l2 .cons (.v 28) (.l2 .cons (.v 29) .nl)))))))))))))))),(.c 0)])))))))))))))
theorem Z119:Z12 (Zr [] Z177 [] (zs 16) (Zq Tryz.prog Z7x gl0 Znn 1000 123 [I1,An 15] [Ts,I1]))=Z178:=by kernel_rfl
theorem Z1iy:Gok Tryz.prog Znn:=(more Zr3 (fix.one ok_cut))
theorem Z1iz:Zj Znn Z177:=(Z2 Zlb (Z2 Z1ix Z8))
theorem Z1g2 {xs:List Int} (h:xs.length=16):∃ a0 a1 a2 a3 a4 a5 a6 a7 a8 a9 a10 a11 a12 a13 a14 a15,xs=[a0,a1,a2,a3,a4,a5,a6,a7,a8,a9,a10,a11,a12,a13,a14,a15]:=by
 match xs,h with
 | [a0,a1,a2,a3,a4,a5,a6,a7,a8,a9,a10,a11,a12,a13,a14,a15],_=>exact ⟨_,_,_,_,_,_,_,_,_,_,_,_,_,_,_,_,rfl⟩
theorem Zab {n a0 a1 a2 a3 a4 b0 b1 b2 b3 b4:Int} (hn:Zcs [n]=true) (ha:Z14 [a0,a1,a2,a3,a4] 0=true) (hb:Z14 [b0,b1,b2,b3,b4] 0=true) (h1:a2 < n) (h2:n≤b2) :
  Z1a4 [n,a0,a1,a2,a3,a4,b0,b1,b2,b3,b4]=Z12a n [a0,a1,a2,a3,a4] [b0,b1,b2,b3,b4]++[0]:=by
 have e1:Zcs [n,a0,a1,a2,a3,a4,b0,b1,b2,b3,b4]=true:=hn
 have e2:Z14 [n,a0,a1,a2,a3,a4,b0,b1,b2,b3,b4] 1=true:=ha
 have e3:Z14 [n,a0,a1,a2,a3,a4,b0,b1,b2,b3,b4] 6=true:=hb
 have e4:Z68 [n,a0,a1,a2,a3,a4,b0,b1,b2,b3,b4]=true:=by
  simp only [Z68,Z1ks,Z1kg,Z1kh]
  exact ⟨h1,h2⟩
 unfold Z1a4
 rw [e1,e2,e3,e4]
 rfl
theorem Z1dc:Znc.ok Tryz.prog:=Sum.okF facts.mixed Z1iy Z1iz Z119 rfl (fun _=>rfl) (by
 intro xs hx hp
 obtain ⟨n,a0,a1,a2,a3,a4,b0,b1,b2,b3,b4,c0,c1,c2,c3,c4,rfl⟩:=Z1g2 hx
 simp only [Z178,Znn,Z48,Z1cw,TX.sat,XB.prop,X.den,Z1kk,Z1kl,Z1ke,Z1kf,Z1ki,Z1kj,Z1kg,Z1kh,mkS,mkP,and_true,true_and,Z1kp,Z1kq,not_or,not_and,Z1km,ne_eq,Z1kn,Z1ko,Zqy,Z2u,Zbe,ex6,L2.den]
 have eN:Zcs [n,a0,a1,a2,a3,a4,b0,b1,b2,b3,b4,c0,c1,c2,c3,c4]=Zcs [n]:=rfl
 have eT:nearT [n,a0,a1,a2,a3,a4,b0,b1,b2,b3,b4,c0,c1,c2,c3,c4]=(Z14 [a0,a1,a2,a3,a4] 0 && (Z14 [b0,b1,b2,b3,b4] 0 && Z14 [c0,c1,c2,c3,c4] 0)):=rfl
 have eN':Zcs [n]=true↔¬ (n < 256∨4096 < n):=by simp only [Zcs,Z1ks,Z1kg]; omega
 unfold Z8d
 rw [eN,eT]
 refine ⟨fun h=>?_,fun hn=>?_⟩
 ·rw [if_neg (by rw [eN']; exact not_not_intro h)]
  rfl
 have hN:Zcs [n]=true:=eN'.2 (by omega)
 rw [if_pos hN]
 by_cases ha:Z14 [a0,a1,a2,a3,a4] 0=true
 case neg =>
  have ha':=Bool.eq_false_iff.2 ha
  simp only [ha',er,  if_true,if_false,reduceIte,Bool.false_eq_true,Bool.false_and,Bool.and_false,Bool.and_self,TX.sat,XB.prop,X.den,Z1kk,Z1kl,Z1ke,Z1kf,Z1ki,Z1kj,Z1kg,Z1kh,mkS,mkP,and_true,true_and,Z1kp,Z1kq,not_or,not_and,Z1km,ne_eq,Z1kn,Z1ko,Bool.true_and,Z37]
  simp
 by_cases hb:Z14 [b0,b1,b2,b3,b4] 0=true
 case neg =>
  have hb':=Bool.eq_false_iff.2 hb
  simp only [hb',er,ha,  if_true,if_false,reduceIte,Bool.false_eq_true,Bool.false_and,Bool.and_false,Bool.and_self,TX.sat,XB.prop,X.den,Z1kk,Z1kl,Z1ke,Z1kf,Z1ki,Z1kj,Z1kg,Z1kh,mkS,mkP,and_true,true_and,Z1kp,Z1kq,not_or,not_and,Z1km,ne_eq,Z1kn,Z1ko,Bool.true_and,Z37]
  simp
 by_cases hc:Z14 [c0,c1,c2,c3,c4] 0=true
 case neg =>
  have hc':=Bool.eq_false_iff.2 hc
  simp only [hc',er,ha,hb,  if_true,if_false,reduceIte,Bool.false_eq_true,Bool.false_and,Bool.and_false,Bool.and_self,TX.sat,XB.prop,X.den,Z1kk,Z1kl,Z1ke,Z1kf,Z1ki,Z1kj,Z1kg,Z1kh,mkS,mkP,and_true,true_and,Z1kp,Z1kq,not_or,not_and,Z1km,ne_eq,Z1kn,Z1ko,Bool.true_and,Z37]
  simp
 have hz:er true 8=0:=rfl
 have kab:=Zab (n:=n) hN ha hb
 have kac:=Zab (n:=n) hN ha hc
 have kba:=Zab (n:=n) hN hb ha
 have kbc:=Zab (n:=n) hN hb hc
 have kca:=Zab (n:=n) hN hc ha
 have kcb:=Zab (n:=n) hN hc hb
 simp only [ha,hb,hc,hz,Bool.and_self,if_true,TX.sat,XB.prop,X.den,Z1kk,Z1kl,Z1ke,Z1kf,Z1ki,Z1kj,Z1kg,Z1kh,mkS,mkP,and_true,true_and,Z1kp,Z1kq,not_or,not_and,Z1km,ne_eq,Z1kn,Z1ko]
 unfold Z16c Zqx Zub
 by_cases g0:n≤a2 <;> by_cases g1:n≤b2 <;> by_cases g2:n≤c2
 ·simp only [g0,g1,g2,Int.not_lt.2 g0,Int.not_lt.2 g1,Int.not_lt.2 g2,Z5z,Z98,Zj1,Z12a,TX.sat,XB.prop,X.den,Z1kk,Z1kl,Z1ke,Z1kf,Z1ki,Z1kj,Z1kg,Z1kh,mkS,mkP,and_true,true_and,Z1kp,Z1kq,not_or,not_and,Z1km,ne_eq,Z1kn,Z1ko,Nat.reduceMul,Nat.reduceAdd,decide_true,decide_false,if_true,if_false,reduceIte,Bool.false_eq_true,Z1kk,Z1kl,List.append_nil,Z3,Z37,true_implies,false_implies,forall_const,Z1kn,Z1ko,implies_true,iff_false,iff_true]
 ·have g2':=Int.not_le.1 g2
  simp only [kca g2' g0,kcb g2' g1,g0,g1,g2,Int.not_lt.2 g0,Int.not_lt.2 g1,g2',Z5z,Z98,Zj1,Z12a,TX.sat,XB.prop,X.den,Z1kk,Z1kl,Z1ke,Z1kf,Z1ki,Z1kj,Z1kg,Z1kh,mkS,mkP,and_true,true_and,Z1kp,Z1kq,not_or,not_and,Z1km,ne_eq,Z1kn,Z1ko,Nat.reduceMul,Nat.reduceAdd,decide_true,decide_false,if_true,if_false,reduceIte,Bool.false_eq_true,Z1kk,Z1kl,List.append_nil,Z3,Z37,true_implies,false_implies,forall_const,Z1kn,Z1ko,implies_true,iff_false,iff_true]
 ·have g1':=Int.not_le.1 g1
  simp only [kba g1' g0,kbc g1' g2,g0,g1,g2,Int.not_lt.2 g0,g1',Int.not_lt.2 g2,Z5z,Z98,Zj1,Z12a,TX.sat,XB.prop,X.den,Z1kk,Z1kl,Z1ke,Z1kf,Z1ki,Z1kj,Z1kg,Z1kh,mkS,mkP,and_true,true_and,Z1kp,Z1kq,not_or,not_and,Z1km,ne_eq,Z1kn,Z1ko,Nat.reduceMul,Nat.reduceAdd,decide_true,decide_false,if_true,if_false,reduceIte,Bool.false_eq_true,Z1kk,Z1kl,List.append_nil,Z3,Z37,true_implies,false_implies,forall_const,Z1kn,Z1ko,implies_true,iff_false,iff_true]
 ·have g1':=Int.not_le.1 g1
  have g2':=Int.not_le.1 g2
  simp only [kba g1' g0,kca g2' g0,g0,g1,g2,Int.not_lt.2 g0,g1',g2',Z5z,Z98,Zj1,Z12a,TX.sat,XB.prop,X.den,Z1kk,Z1kl,Z1ke,Z1kf,Z1ki,Z1kj,Z1kg,Z1kh,mkS,mkP,and_true,true_and,Z1kp,Z1kq,not_or,not_and,Z1km,ne_eq,Z1kn,Z1ko,Nat.reduceMul,Nat.reduceAdd,decide_true,decide_false,if_true,if_false,reduceIte,Bool.false_eq_true,Z1kk,Z1kl,List.append_nil,Z3,Z37,true_implies,false_implies,forall_const,Z1kn,Z1ko,implies_true,iff_false,iff_true]
 ·have g0':=Int.not_le.1 g0
  simp only [kab g0' g1,kac g0' g2,g0,g1,g2,g0',Int.not_lt.2 g1,Int.not_lt.2 g2,Z5z,Z98,Zj1,Z12a,TX.sat,XB.prop,X.den,Z1kk,Z1kl,Z1ke,Z1kf,Z1ki,Z1kj,Z1kg,Z1kh,mkS,mkP,and_true,true_and,Z1kp,Z1kq,not_or,not_and,Z1km,ne_eq,Z1kn,Z1ko,Nat.reduceMul,Nat.reduceAdd,decide_true,decide_false,if_true,if_false,reduceIte,Bool.false_eq_true,Z1kk,Z1kl,List.append_nil,Z3,Z37,true_implies,false_implies,forall_const,Z1kn,Z1ko,implies_true,iff_false,iff_true]
 ·have g0':=Int.not_le.1 g0
  have g2':=Int.not_le.1 g2
  simp only [kab g0' g1,kcb g2' g1,g0,g1,g2,g0',Int.not_lt.2 g1,g2',Z5z,Z98,Zj1,Z12a,TX.sat,XB.prop,X.den,Z1kk,Z1kl,Z1ke,Z1kf,Z1ki,Z1kj,Z1kg,Z1kh,mkS,mkP,and_true,true_and,Z1kp,Z1kq,not_or,not_and,Z1km,ne_eq,Z1kn,Z1ko,Nat.reduceMul,Nat.reduceAdd,decide_true,decide_false,if_true,if_false,reduceIte,Bool.false_eq_true,Z1kk,Z1kl,List.append_nil,Z3,Z37,true_implies,false_implies,forall_const,Z1kn,Z1ko,implies_true,iff_false,iff_true]
 ·have g0':=Int.not_le.1 g0
  have g1':=Int.not_le.1 g1
  simp only [kac g0' g2,kbc g1' g2,g0,g1,g2,g0',g1',Int.not_lt.2 g2,Z5z,Z98,Zj1,Z12a,TX.sat,XB.prop,X.den,Z1kk,Z1kl,Z1ke,Z1kf,Z1ki,Z1kj,Z1kg,Z1kh,mkS,mkP,and_true,true_and,Z1kp,Z1kq,not_or,not_and,Z1km,ne_eq,Z1kn,Z1ko,Nat.reduceMul,Nat.reduceAdd,decide_true,decide_false,if_true,if_false,reduceIte,Bool.false_eq_true,Z1kk,Z1kl,List.append_nil,Z3,Z37,true_implies,false_implies,forall_const,Z1kn,Z1ko,implies_true,iff_false,iff_true]
 ·have g0':=Int.not_le.1 g0
  have g1':=Int.not_le.1 g1
  have g2':=Int.not_le.1 g2
  simp only [g0,g1,g2,g0',g1',g2',Z5z,Z98,Zj1,Z12a,TX.sat,XB.prop,X.den,Z1kk,Z1kl,Z1ke,Z1kf,Z1ki,Z1kj,Z1kg,Z1kh,mkS,mkP,and_true,true_and,Z1kp,Z1kq,not_or,not_and,Z1km,ne_eq,Z1kn,Z1ko,Nat.reduceMul,Nat.reduceAdd,decide_true,decide_false,if_true,if_false,reduceIte,Bool.false_eq_true,Z1kk,Z1kl,List.append_nil,Z3,Z37,true_implies,false_implies,forall_const,Z1kn,Z1ko,implies_true,iff_false,iff_true]
  try trace_state)
theorem Z179 (b:Bool) (x:Int):Ze (iv 0 8) ((if b=true then [x,0] else [cod [],8]).getD 1 0):=by
 cases b
 ·exact ⟨by show (0:Int)≤8; decide,by show (8:Int)≤8; decide⟩
 ·exact ⟨by show (0:Int)≤0; decide,by show (0:Int)≤8; decide⟩
theorem Z1j0 (xs:List Int):Z17 [none,iv 0 8] [(Z8d xs).getD 0 0,(Z8d xs).getD 1 0]:=by
 refine Z1 trivial (Z1 ?_ Z4)
 unfold Z8d
 split
 ·exact Z179 _ _
 ·exact ⟨by show (0:Int)≤2; decide,by show (2:Int)≤8; decide⟩
theorem Z17a:Z1g Znc Z16e:=⟨fun xs h=>h,fun vs xs h hp=>Z1j0 _⟩
noncomputable def Z1dd:List Sum:=[]
def I_bof:List Inf:=[]
def Z1j1:TX:=(.ite (.or (.eq (.ln (.v 0)) (.c 0)) (.lt (.c 4096) (.ln (.v 0)))) (.ret [(.c 0),(.c 0),(.c 0),(.c 0),(.c 0),(.c 0),(.c 4)])
(.loop 8 [none,none,none,none,none,none,none,none] [(.c 0),(.c 0),(.c 0),(.c 0),(.c 0),(.c 0),(.c 0),(.c 0)] (.ite (.lt (.v 2) (.ln (.v 0))) (.asrt (.le (.c 0) (.v 2)) (.ite (.or (.or (.lt (.l2 .at (.l2 .at (.v 0) (.v 2)) (.c 0)) (.c (-32768))) (.lt (.c 32768) (.l2 .at (.l2 .at (.v 0) (.v 2)) (.c 0)))) (.or (.or (.lt (.l2 .at (.l2 .at (.v 0) (.v 2)) (.c 1)) (.c (-32768))) (.lt (.c 32768) (.l2 .at (.l2 .at (.v 0) (.v 2)) (.c 1)))) (.or (.lt (.l2 .at (.l2 .at (.v 0) (.v 2)) (.c 2)) (.c (-32768))) (.lt (.c 32768) (.l2 .at (.l2 .at (.v 0) (.v 2)) (.c 2)))))) (.ret [(.c 0),(.c 0),(.c 0),(.c 0),(.c 0),(.c 0),(.c 20)])
(.back 0 [(.v 1),(.wr .i64 (.add (.v 2) (.c 1))),(.v 3),(.v 4),(.v 5),(.v 6),(.v 7),(.v 8)])))
(.asrt (.lt (.c 0) (.ln (.v 0))) (.asrt (.le (.c 1) (.ln (.v 0))) (.asrt (.le (.ln (.v 0)) (.ln (.v 0))) (.loop 7 [none,none,none,none,none,none,none] [(.c 0),(.l2 .at (.l2 .at (.v 0) (.c 0)) (.c 0)),(.l2 .at (.l2 .at (.v 0) (.c 0)) (.c 1)),(.l2 .at (.l2 .at (.v 0) (.c 0)) (.c 2)),(.l2 .at (.l2 .at (.v 0) (.c 0)) (.c 0)),(.l2 .at (.l2 .at (.v 0) (.c 0)) (.c 1)),(.l2 .at (.l2 .at (.v 0) (.c 0)) (.c 2))] (.ite (.le (.wr .i64 (.sub (.ln (.v 0)) (.c 1))) (.v 9)) (.ret [(.v 10),(.v 11),(.v 12),(.v 13),(.v 14),(.v 15),(.c 0)])
(.asrt (.le (.c 0) (.v 9)) (.asrt (.le (.c 0) (.wr .i64 (.add (.c 1) (.v 9)))) (.asrt (.lt (.wr .i64 (.add (.c 1) (.v 9))) (.ln (.v 0))) (.back 1 [(.wr .i64 (.add (.v 9) (.c 1))),(.mn (.v 10) (.l2 .at (.l2 .at (.v 0) (.wr .i64 (.add (.c 1) (.v 9)))) (.c 0))),(.mn (.v 11) (.l2 .at (.l2 .at (.v 0) (.wr .i64 (.add (.c 1) (.v 9)))) (.c 1))),(.mn (.v 12) (.l2 .at (.l2 .at (.v 0) (.wr .i64 (.add (.c 1) (.v 9)))) (.c 2))),(.mx (.v 13) (.l2 .at (.l2 .at (.v 0) (.wr .i64 (.add (.c 1) (.v 9)))) (.c 0))),(.mx (.v 14) (.l2 .at (.l2 .at (.v 0) (.wr .i64 (.add (.c 1) (.v 9)))) (.c 1))),(.mx (.v 15) (.l2 .at (.l2 .at (.v 0) (.wr .i64 (.add (.c 1) (.v 9)))) (.c 2)))]))))))))))))
theorem Z1de:Z12 (Zr [] I_bof [] [none] (Zq Tryz.prog (Z5u Tryz.prog [(4,20),(11,52)]) gl0 Z1dd 1000 173 [Vs] [An 6,I1]))=Z1j1:=by kernel_rfl
theorem g_bof:Gok Tryz.prog Z1dd:=noG
theorem o_bof:Zj Z1dd I_bof:=Z8
theorem tn0:Int.toNat 0=0:=rfl
theorem tn1:Int.toNat 1=1:=rfl
theorem tn2:Int.toNat 2=2:=rfl
theorem Zja (x:Int):okP x=true↔((-32768≤co x 0∧co x 0≤32768)∧(-32768≤co x 1∧co x 1≤32768)∧(-32768≤co x 2∧co x 2≤32768)):=by
 unfold okP
 exact decide_eq_true_iff
noncomputable def upto (l:List Int) (i:Nat):List Int:=Z3b (l.take i)
theorem Zep:∀ l:List Int,(Z3b l).length=6
 | []=>rfl
 | x::l=>by
  have:∀ (l:List Int) (b:List Int),b.length=6→(l.foldl Zen b).length=6:=by
   intro l
   induction l with
   | nil=>intro b h; exact h
   | cons y l ih=>intro b h; exact ih _ rfl
  exact this l _ rfl
theorem Z1df {l:List Int} (h:0 < l.length):upto l 1=boxV (l.getD 0 0):=by
 match l,h with
 | x::l,_=>rfl
theorem Z17b {l:List Int} {i:Nat} (h1:1≤i) (h2:i < l.length):upto l (i + 1)=Zen (upto l i) (l.getD i 0):=by
 unfold upto
 rw [List.take_succ_eq_append_getElem h2]
 have:l.take i ≠ []:=by
  intro h
  have:=congrArg List.length h
  rw [List.length_take,List.length_nil] at this
  omega
 match hl:l.take i,this with
 | x::m,_ =>
  simp only [Z1ki,Z3b,List.foldl_append,List.foldl_cons,List.foldl_nil]
  rw [show l.getD i 0=l[i] by simp [List.getD,h2]]
theorem Z1dg (l:List Int):upto l l.length=Z3b l:=by unfold upto; rw [List.take_length]
theorem Z1g3 {l:List Int} (h:l.length=7):ex7 l=l:=by
 obtain ⟨a0,a1,a2,a3,a4,a5,a6,rfl⟩:=len7 h
 rfl
theorem Z1j2 (l:List Int):(Z16b l).length=7:=by
 unfold Z16b
 split
 ·split
  ·simp [Zep]
  ·rfl
 ·rfl
theorem six {l:List Int} (h:l.length=6):l=[l.getD 0 0,l.getD 1 0,l.getD 2 0,l.getD 3 0,l.getD 4 0,l.getD 5 0]:=by
 match l,h with
 | [a,b,c,d,e,f],_=>rfl
theorem Z1j3 (c:Int):Z1j1.sat Z1dd [] (fun ys=>ys=Znb [c]) [] [c]:=by
 have hsem:Znb [c]=Z16b (dec c):=Z1g3 (Z1j2 _)
 rw [hsem]
 generalize hl:dec c=l
 simp only [Z1j1,TX.sat,XB.prop,X.den,L2.den,Z1kk,Z1kl,Z1kg,Z1kh,Z1ki,Z1kj,hl]
 refine ⟨fun h=>?_,fun h=>?_⟩
 ·unfold Z16b
  rw [if_neg (by omega)]
 have hlen:1≤l.length∧l.length≤4096:=by omega
 refine ⟨fun xs=>∃ i:Nat,xs.getD 1 0=(i:Int)∧i≤l.length∧∀ j,j < i→okP (l.getD j 0)=true,fun xs=>l.length - (xs.getD 1 0).toNat,fun xs hx _=>Zp hx,⟨0,rfl,by omega,fun j hj=>by omega⟩,?_⟩
 intro xs hx hI
 obtain ⟨a0,a1,a2,a3,a4,a5,a6,a7,rfl⟩:=len8 hx
 obtain ⟨i,hi,hle,hall⟩:=hI
 simp only [Z1kg,Z1kh,Z1ki,Z1kj,Z1ke] at hi ⊢
 subst hi
 refine ⟨fun hlt=>⟨by omega,fun hbad=>?_,fun hgood=>?_⟩,fun hge=>⟨by omega,by omega,Int.le_refl _,?_⟩⟩
 ·unfold Z16b
  rw [if_pos hlen,if_neg (Z96 (i:=i) (by omega) ?_)]
  rw [Zja]
  simp only [co]
  simp only [Int.toNat_natCast,tn0,tn1,tn2] at hbad
  omega
 ·rw [Zf (by omega) (by omega)]
  refine ⟨⟨i + 1,by omega,by omega,fun j hj=>?_⟩,by simp only [Int.toNat_natCast]; omega⟩
  rcases Nat.lt_or_ge j i with h1 | h1
  ·exact hall j h1
  ·have:j=i:=by omega
   subst this
   rw [Zja]
   simp only [co]
   simp only [Int.toNat_natCast,tn0,tn1,tn2] at hgood
   omega
 ·have hok:l.all okP=true:=Z5w hall (by omega)
  have hw:IntKind.i64.wrap ((l.length:Int) - 1)=(l.length:Int) - 1:=Zf (by omega) (by omega)
  refine ⟨fun xs=>∃ i:Nat,xs.getD 0 0=(i:Int)∧i + 1≤l.length∧xs.drop 1=upto l (i + 1),fun xs=>l.length - (xs.getD 0 0).toNat,fun xs hx _=>Zp hx,⟨0,rfl,by omega,?_⟩,?_⟩
  ·rw [Z1df (by omega)]
   simp [boxV,co]
  ·intro ys hy hJ
   obtain ⟨b0,b1,b2,b3,b4,b5,b6,rfl⟩:=len7 hy
   obtain ⟨k,hk,hkl,hbox⟩:=hJ
   simp only [Z1kg,Z1kh,Z1ki,Z1kj,Z1ke,Z1kf,List.drop_succ_cons,List.drop_zero] at hk hbox ⊢
   subst hk
   rw [hw]
   refine ⟨fun hend=>?_,fun hgo=>?_⟩
   ·unfold Z16b
    rw [if_pos hlen,if_pos hok,← Z1dg,show l.length=k + 1 by omega,← hbox]
    rfl
   ·have h1:IntKind.i64.wrap (1 + (k:Int))=((k + 1:Nat):Int):=by rw [Zf (by omega) (by omega)]; omega
    have h2:IntKind.i64.wrap ((k:Int) + 1)=((k + 1:Nat):Int):=by rw [Zf (by omega) (by omega)]; omega
    rw [h1,h2]
    refine ⟨by omega,by omega,by omega,⟨k + 1,rfl,by omega,?_⟩,by simp only [Int.toNat_natCast]; omega⟩
    rw [Z17b (by omega) (by omega),← hbox]
    simp [Zen,co]
theorem len1 {xs:List Int} (h:xs.length=1):∃ a,xs=[a]:=by
 match xs,h with
 | [a],_=>exact ⟨a,rfl⟩
theorem ok_bof:Z1cx.ok Tryz.prog:=Sum.okF facts.mixed g_bof o_bof Z1de rfl (fun _=>rfl) (by
 intro xs hx hp
 obtain ⟨a,rfl⟩:=len1 hx
 exact Z1j3 a)
def in6 (b:List Int):Prop:=∀ j,j < 6→-32768≤b.getD j 0∧b.getD j 0≤32768
theorem Z17c {a0 a1 a2 a3 a4 a5:Int} (h0:-32768≤a0∧a0≤32768) (h1:-32768≤a1∧a1≤32768) (h2:-32768≤a2∧a2≤32768) (h3:-32768≤a3∧a3≤32768) (h4:-32768≤a4∧a4≤32768) (h5:-32768≤a5∧a5≤32768):in6 [a0,a1,a2,a3,a4,a5]:=by
 intro j hj
 match j,hj with
 | 0,_=>exact h0
 | 1,_=>exact h1
 | 2,_=>exact h2
 | 3,_=>exact h3
 | 4,_=>exact h4
 | 5,_=>exact h5
theorem Z1dh {l:List Int} (h:l.all okP=true) (hn:l ≠ []):in6 (Z3b l):=by
 match l,hn with
 | x::l,_ =>
  simp only [List.all_cons,Z1kr] at h
  have key:∀ (l:List Int) (b:List Int),l.all okP=true→in6 b→in6 (l.foldl Zen b):=by
   intro l
   induction l with
   | nil=>intro b _ hb; exact hb
   | cons y l ih =>
    intro b hl hb
    simp only [List.all_cons,Z1kr] at hl
    have hy:=(Zja y).1 hl.1
    refine ih _ hl.2 ?_
    have q0:=hb 0 (by omega)
    have q1:=hb 1 (by omega)
    have q2:=hb 2 (by omega)
    have q3:=hb 3 (by omega)
    have q4:=hb 4 (by omega)
    have q5:=hb 5 (by omega)
    exact Z17c (by omega) (by omega) (by omega) (by omega) (by omega) (by omega)
  refine key l _ h.2 ?_
  have hx:=(Zja x).1 h.1
  exact Z17c hx.1 hx.2.1 hx.2.2 hx.1 hx.2.1 hx.2.2
theorem of_iv (l:List Int):Z17 (ivs 6 (-32768) 32768++[iv 0 20]) (ex7 (Z16b l)):=by
 have key:∀ (b:List Int) (e:Int),b.length=6→in6 b→0≤e∧e≤20→Z17 (ivs 6 (-32768) 32768++[iv 0 20]) (ex7 (b++[e])):=by
  intro b e hb h he
  rw [Z1g3 (by simp [hb])]
  rw [six hb]
  exact Z1 (h 0 (by omega)) (Z1 (h 1 (by omega)) (Z1 (h 2 (by omega)) (Z1 (h 3 (by omega)) (Z1 (h 4 (by omega)) (Z1 (h 5 (by omega)) (Z1 he Z4))))))
 have z6:in6 [0,0,0,0,0,0]:=Z17c (by omega) (by omega) (by omega) (by omega) (by omega) (by omega)
 unfold Z16b
 split
 ·rename_i hlen
  split
  ·rename_i hok
   exact key _ 0 (Zep l) (Z1dh hok (by intro h; rw [h] at hlen; simp at hlen)) (by omega)
  ·exact key [0,0,0,0,0,0] 20 rfl z6 (by omega)
 ·exact key [0,0,0,0,0,0] 4 rfl z6 (by omega)
theorem Z1j4:Z1g Z1cx i_bof:=⟨fun xs h=>h,fun vs xs h hp=>of_iv _⟩
end Go.Proofs.YtgcoidbaoigkeaaGreatDoor.fix
namespace Go.Sx
open Go.RowKit
def elTy (P:Program) (ty:TypeId):Option (TypeId × List K):=match P.underlying ty with
 | some (.slice e)=>(Z1ab P 8 e).map fun ks=>(e,ks)
 | _=>none
def Zr6 (l:List Oper) (root:Tmp→Option Nat):Nat→Tmp→Option Nat
 | 0,_=>none
 | f + 1,t=>match Za1 l t with
  | none=>root t
  | some o=>(match o.op with
   | .fieldAddr _ (.tmp u) _=>Zr6 l root f u
   | .indexAddr _ (.tmp u) _=>Zr6 l root f u
   | .nilCheck (.tmp u)=>Zr6 l root f u
   | .move (.tmp u)=>Zr6 l root f u
   | _=>none)
def Zcz (P:Program) (l:List Oper) (root:Tmp→Option Nat):List Oper→List (Nat × Option (TypeId × List K))
 | []=>[]
 | o::r=>match o.op with
  | .store ty (.tmp t) _=>(match Zr6 l root 8 t with
   | some n=>(n,elTy P ty)::Zcz P l root r
   | none=>Zcz P l root r)
  | _=>Zcz P l root r
def Z1j5 (l:List Oper) (s:St):Nat→Tmp→Option (FuncId × List (Nat × Nat))
 | 0,_=>none
 | f + 1,t=>match Za1 l t with
  | none=>(match s.fr.getD t Z6 with
   | .w (.o (.f fn caps))=>some (fn,caps)
   | _=>none)
  | some o=>(match o.op with
   | .move (.tmp u)=>Z1j5 l s f u
   | .assign (.tmp u)=>Z1j5 l s f u
   | _=>none)
def Z44 (P:Program) (l:List Oper) (s:St):List Oper→List (Nat × Option (TypeId × List K))
 | []=>[]
 | o::r=>match o.op with
  | .call c=>(match c.callee with
   | .value (.tmp t)=>(match Z1j5 l s 8 t with
    | some (fn,caps)=>(match P.funcs[fn]? with
     | some F=>(match F.body with
      | some b=>Zcz P (Z5f b) (fun u=>(caps[u - F.params.size]?).map (·.1)) (Z5f b)++Z44 P l s r
      | none=>Z44 P l s r)
     | none=>Z44 P l s r)
    | none=>Z44 P l s r)
   | _=>Z44 P l s r)
  | _=>Z44 P l s r
def Zxu (s:St) (rw:List Nat) (ws:List (Nat × Option (TypeId × List K))):Nat→List Blk→List (List Ck)
 | _,[]=>[]
 | n,b::bs=>(if ws.any (fun w=>w.1 == n) then b.cells.map (Z7j s ((ws.filter fun w=>w.1 == n).findSome? (·.2))) else b.cells.map fun c=>match c with
  | .go (.o m)=>if rw.contains m then Z7j s none c else Ck.keep
  | _=>Ck.keep)::Zxu s rw ws (n + 1) bs
def Z17d (P:Program) (s:St) (body:Code):Zak :=
 let l:=Z5f body
 let rw:=Z5g l s l
 let ws:=Zcz P l (fun t=>match s.fr.getD t Z6 with
  | .w (.o (.p n _))=>some n
  | _=>none) l++Z44 P l s l
 ⟨Z13z P l s rw 0 s.fr,Zxu s rw ws 0 s.mem⟩
def Z1j6 (P:Program) (ks:List (Nat × Nat)):St→Code→Option Zak:=fun s body =>
 if ks.contains (Zmd body) then some (Z17d P s body) else none
end Go.Sx
namespace Go.Proofs.YtgcoidbaoigkeaaGreatDoor.fix
open Go.RowKit Go.Sx
def Z8e:List K:=[.i .i64,.i .i64,.i .i64]
def Z17e:List K:=[.i .i64,.i .i64]
def Co_ks:List K:=[.i .u8,.i .u8,.i .u8,.i .u8]
def Lk_ks:List K:=[.i .u8,.i .u8,.i .u8,.i .u8,.i .i64,.i .u8,.i .i64,.b,.i .i64]
def Zk6:List K:=[.s 27 Z8e,.s 146 Z17e,.s 28 Z8e,.i .u8,.i .u8,.i .u8,.i .u8,.i .i64,.i .u8,.i .i64,.b,.i .i64,.i .i64,.i .i64,.i .i64,.i .i64,.i .i64,.i .i64]
def Zjb:List K:=[.i .i64,.i .i64,.s 33 Co_ks]
def Lk:Sh:=⟨true,Lk_ks⟩
def It:Sh:=⟨true,Zk6⟩
def Tx:Sh:=⟨true,Zjb⟩
def Txs:Sh:=⟨false,[.s 88 Zjb]⟩
def Sho:Sh:=⟨true,[.s 85 Zk6,.s 88 Zjb]⟩
def Ss:Sh:=⟨false,[.s 139 (List.replicate 15 (.i .i64))]⟩
def Fr_ks:List K:=[.i .i64,.i .i64,.i .i64,.i .i64,.i .i64,.i .i64]
def Frs:Sh:=⟨false,[.s 39 Fr_ks]⟩
noncomputable def Z1di (w h c:Int):Bool:=decide ((0 < w∧w≤16)∧(0 < h∧h≤16)∧((dec c).length:Int)=w * h)
noncomputable def Zno (x:List Int):List Int:=[er (Z1di (x.getD 0 0) (x.getD 1 0) (x.getD 2 0)) 8]
def Znp:List (Option Iv):=[zz,zz,none]
def Z1dj (v:List (Option Iv)):List (Option Iv):=[iv 0 8]
noncomputable def Zxv:Sum:=mkS gl0 171 [Tx] [I1] Znp Zno
def Z1g4:Inf:=⟨Znp,Z1dj⟩
noncomputable def texB (x:Int):Bool:=Z1di (co x 0) (co x 1) (ctN (co x 2))
noncomputable def Zuf (l:List Int):Int:=if l.length≤16 then (if l.all texB=true then 0 else 8) else 4
noncomputable def Znq (x:List Int):List Int:=[Zuf (dec (x.getD 0 0))]
def Znr:List (Option Iv):=[none]
def Zxw (x:List Int):Prop:=Z17 Znr x∧∀ b ∈ dec (x.getD 0 0),Z9 Zjb (dec b)
def Z1dk (v:List (Option Iv)):List (Option Iv):=[iv 0 8]
noncomputable def Zxx:Sum:=mkP gl0 118 [Txs] [I1] Zxw Znq
def Z1g5:Inf:=⟨[some ⟨1,0⟩],Z1dk⟩
def Zns (x:List Int):Bool:=decide ((-1≤x.getD 4 0∧x.getD 4 0 < x.getD 9 0)∧x.getD 5 0≤2∧(-1024≤x.getD 6 0∧x.getD 6 0≤1024)∧(0≤x.getD 8 0∧x.getD 8 0≤15))
def Zeq (x:List Int):List Int:=[if 0≤x.getD 9 0∧x.getD 9 0≤16 then er (Zns x) 8 else 2]
def Zer:List (Option Iv):=ivs 4 0 255++[zz,iv 0 255,zz,iv 0 1,zz,zz]
def Z11a (v:List (Option Iv)):List (Option Iv):=[iv 0 8]
def Zgl:Sum:=mkS gl0 131 [Lk,I1] [I1] Zer Zeq
def Zxy:Inf:=⟨Zer,Z11a⟩
noncomputable def okW (v:Int):Bool:=Zju 4096 [co v 0,co v 1,co v 2] 0
noncomputable def uvB (u:Int):Bool:=decide ((0≤co u 0∧0≤co u 1)∧(co u 0≤255∧co u 1≤255))
noncomputable def Z17f (n:Nat) (t:Int):Bool:=decide ((0≤co t 0∧0≤co t 1∧0≤co t 2)∧(co t 0 < n∧co t 1 < n∧co t 2 < n))
def Z1j7 (x:List Int):Bool:=decide (0≤x.getD 18 0∧x.getD 18 0≤16) && Zns [x.getD 3 0,x.getD 4 0,x.getD 5 0,x.getD 6 0,x.getD 7 0,x.getD 8 0,x.getD 9 0,x.getD 10 0,x.getD 11 0,x.getD 18 0]
noncomputable def Z1dl (V:List Int) (x:List Int):Bool:=decide ([x.getD 12 0,x.getD 13 0,x.getD 14 0,x.getD 15 0,x.getD 16 0,x.getD 17 0]=Z3b V)
noncomputable def Z11b (x:List Int):Bool :=
 decide ((dec (x.getD 0 0)).length≤64∧(dec (x.getD 1 0)).length=(dec (x.getD 0 0)).length∧(dec (x.getD 2 0)).length≤64) && (Z1j7 x &&
 ((dec (x.getD 0 0)).all okW && ((dec (x.getD 1 0)).all uvB && ((dec (x.getD 2 0)).all (Z17f (dec (x.getD 0 0)).length) && Z1dl (dec (x.getD 0 0)) x))))
noncomputable def Znt (x:List Int):List Int:=[b01 (Z11b x)]
def Znu:List (Option Iv):=[none,none,none]++ivs 4 0 255++[zz,iv 0 255,zz,iv 0 1,zz]++zs 7
def Z1dm (x:List Int):Prop:=Z17 Znu x∧∀ v ∈ dec (x.getD 0 0),Z9 Z8e (dec v)
def Z1dn (v:List (Option Iv)):List (Option Iv):=[iv 0 1]
noncomputable def Zxz:Sum:=mkP gl0 121 [It,I1] [Bo] Z1dm Znt
def Z1g6:Inf:=⟨[some ⟨1,0⟩],Z1dn⟩
noncomputable def Zd0 (b n:Int):List Int:=[ctN (co b 0),ctN (co b 1),ctN (co b 2),co b 3,co b 4,co b 5,co b 6,co b 7,co b 8,co b 9,co b 10,co b 11,co b 12,co b 13,co b 14,co b 15,co b 16,co b 17,n]
noncomputable def Z4v (x:List Int):Int :=
 if (dec (x.getD 0 0)).length≤256∧(dec (x.getD 1 0)).length≤16 then
  (if Zuf (dec (x.getD 1 0))=0∧(dec (x.getD 0 0)).all (fun b=>Z11b (Zd0 b (dec (x.getD 1 0)).length))=true then 0 else 8)
 else 4
noncomputable def Zlc (x:List Int):List Int:=[Z4v x]
def Zes:List (Option Iv):=[none,none]
def Zk7 (I T:List Int):Prop:=(∀ b ∈ I,Z9 Zk6 (dec b)∧(∀ v ∈ dec (ctN (co b 0)),Z9 Z8e (dec v))∧(∀ v ∈ dec (ctN (co b 1)),Z9 Z17e (dec v))∧(∀ v ∈ dec (ctN (co b 2)),Z9 Z8e (dec v)))∧(∀ b ∈ T,Z9 Zjb (dec b))
def Z11c (x:List Int):Prop:=Z17 Zes x∧Zk7 (dec (x.getD 0 0)) (dec (x.getD 1 0))
def Z11d (v:List (Option Iv)):List (Option Iv):=[iv 0 8]
noncomputable def Zac:Sum:=mkP gl0 81 [Sho] [I1] Z11c Zlc
def Zy0:Inf:=⟨[some ⟨1,0⟩],Z11d⟩
noncomputable def Zc (b:Int):List Int:=dec (ctN (co b 0))
noncomputable def Zld (b:Int):List Int:=dec (ctN (co b 1))
noncomputable def Z2y (b:Int):List Int:=dec (ctN (co b 2))
noncomputable def Z1v (c:List Int) (v:Int):List Int:=Z89 (c++[co v 0,co v 1,co v 2])
noncomputable def Z1do (c:List Int) (b n:Int):List Int:=[(Z1v c ((Zc b).getD n.toNat 0)).getD 0 0,(Z1v c ((Zc b).getD n.toNat 0)).getD 1 0,(Z1v c ((Zc b).getD n.toNat 0)).getD 2 0,co ((Zld b).getD n.toNat 0) 0,co ((Zld b).getD n.toNat 0) 1]
noncomputable def Zjv (c:List Int) (b t:Int):List Int:=Z1do c b (co t 0)++(Z1do c b (co t 1)++Z1do c b (co t 2))
noncomputable def Z11e (c:List Int) (b t:Int):List Int:=dec ((Z8d (c.getD 13 0::Zjv c b t)).getD 0 0)
noncomputable def Z17g (c:List Int) (l:Int) (o:Nat):List Int:=Z6w (c++[co l o,co l (o + 1),co l (o + 2),co l (o + 3),co l (o + 4)])
noncomputable def five (l:List Int):List Int:=[l.getD 0 0,l.getD 1 0,l.getD 2 0,l.getD 3 0,l.getD 4 0]
noncomputable def Zr7 (c:List Int) (l:Int):List Int:=five (Z17g c l 0)++(five (Z17g c l 5)++five (Z17g c l 10))
def Zff (l:List Int):List Int:=[l.getD 0 0,l.getD 1 0,l.getD 2 0,l.getD 3 0,l.getD 4 0,l.getD 5 0,l.getD 6 0,l.getD 7 0,l.getD 8 0,l.getD 9 0,l.getD 10 0,l.getD 11 0,l.getD 12 0,l.getD 13 0,l.getD 14 0]
noncomputable def Zug (c:List Int) (cull l:Int):Option Int:=if (Z60 (Zr7 c l++[cull])).getD 0 0=1 then some (cod (Zff (Z83 (Zr7 c l)))) else none
noncomputable def Zar (c:List Int) (b t:Int):List Int:=(Z11e c b t).filterMap (Zug c (co b 8))
noncomputable def Zr8 (I c:List Int) (i k:Int):List Int:=Zar c (I.getD i.toNat 0) ((Z2y (I.getD i.toNat 0)).getD k.toNat 0)
noncomputable def Z17h (x:List Int):List Int:=[cod (Zr8 (dec (x.getD 0 0)) ((x.drop 2).take 16) (x.getD 18 0) (x.getD 19 0))]
def Zr9:List (Option Iv):=[none,none]++zs 18
def Z17i (x:List Int):Prop:=Z17 Zr9 x∧Zk7 (dec (x.getD 0 0)) (dec (x.getD 1 0))∧(0≤x.getD 18 0∧x.getD 18 0 < (dec (x.getD 0 0)).length∧0≤x.getD 19 0∧x.getD 19 0 < (Z2y ((dec (x.getD 0 0)).getD (x.getD 18 0).toNat 0)).length) ∧
 Z4v [x.getD 0 0,x.getD 1 0]=0∧Z2o ((x.drop 2).take 16) 0=true
def Z17j (v:List (Option Iv)):List (Option Iv):=[none]
noncomputable def Zet:Sum:=mkP gl0 82 [Sho,An 16,I1,I1] [Ss] Z17i Z17h
def Z17k:Inf:=⟨[some ⟨1,0⟩],Z17j⟩
noncomputable def Z2a (p:Int):List Int:=[co p 0,co p 1,co p 2,co p 3,co p 4,co p 5,co p 6,co p 7,co p 8,co p 9,co p 10,co p 11,co p 12,co p 13,co p 14]
noncomputable def Zra (b:Int) (i k n:Nat) (p:Int):Int:=cod (Z2a p++[co b 9,(i:Int),(k:Int),(n:Int),0,0])
noncomputable def Z6a (b:Int) (i k:Nat) (P:List Int):Nat→List Int
 | 0=>[]
 | n + 1=>Z6a b i k P n++[Zra b i k n (P.getD n 0)]
noncomputable def Z1a5 (l:List Int) (pt:Nat→Nat→List Int) (i:Nat):Nat→List Int
 | 0=>[]
 | k + 1=>Z1a5 l pt i k++Z6a (l.getD i 0) i k (pt i k) (pt i k).length
noncomputable def Zfg (l:List Int) (pt:Nat→Nat→List Int):Nat→List Int
 | 0=>[]
 | i + 1=>Zfg l pt i++Z1a5 l pt i (Z2y (l.getD i 0)).length
noncomputable def ptS (l c:List Int) (i k:Nat):List Int:=Zar c (l.getD i 0) ((Z2y (l.getD i 0)).getD k 0)
noncomputable def Zy1 (l c:List Int):List Int:=Zfg l (ptS l c) l.length
noncomputable def Z17l (x y p:Int):Option Int :=
 if (atL (Z2a p++[x,y])).getD 5 0=0 then some (cod [IntKind.i64.wrap (co p 15 + (atL (Z2a p++[x,y])).getD 2 0),co p 16,co p 17,co p 18,(atL (Z2a p++[x,y])).getD 3 0,(atL (Z2a p++[x,y])).getD 4 0]) else none
noncomputable def Zfa (l c:List Int) (x y:Int):List Int:=(Zy1 l c).filterMap (Z17l x y)
noncomputable def frE (x:List Int):Int:=if Z4v x=0 then (if Z2o ((x.drop 2).take 16) 0=true then (if 0≤x.getD 18 0∧x.getD 18 0 < x.getD 16 0∧0≤x.getD 19 0∧x.getD 19 0 < x.getD 17 0 then 0 else 2) else 150) else Z4v x
noncomputable def Z9d (x:List Int):List Int:=[if frE x=0 then cod (Zfa (dec (x.getD 0 0)) ((x.drop 2).take 16) (x.getD 18 0) (x.getD 19 0)) else cod [],frE x]
def Zrb:List (Option Iv):=[none,none]++zs 18
def Z17m (x:List Int):Prop:=Z17 Zrb x∧Zk7 (dec (x.getD 0 0)) (dec (x.getD 1 0))
def Z17n (v:List (Option Iv)):List (Option Iv):=[none,iv 0 150]
noncomputable def Zbj:Sum:=mkP gl0 15 [Sho,An 16,I1,I1] [Frs,I1] Z17m Z9d
def Z17o:Inf:=⟨[some ⟨1,0⟩],Z17n⟩
end Go.Proofs.YtgcoidbaoigkeaaGreatDoor.fix
namespace Go.Proofs.YtgcoidbaoigkeaaGreatDoor.fix
open Go.RowKit Go.Sx
noncomputable def Zy2:List Sum:=[]
def Z1g7:List Inf:=[]
def Z1g8:TX:=(.ite (.or (.or (.le (.v 0) (.c 0)) (.lt (.c 16) (.v 0))) (.or (.or (.le (.v 1) (.c 0)) (.lt (.c 16) (.v 1))) (.not (.eq (.ln (.v 2)) (.mul (.v 0) (.v 1)))))) (.ret [(.c 8)])
(.ret [(.c 0)]))
theorem Z17p:Z12 (Zr [] Z1g7 [] Znp (Zq Tryz.prog Z7x gl0 Zy2 1000 171 [Tx] [I1]))=Z1g8:=by kernel_rfl
theorem g_texc:Gok Tryz.prog Zy2:=noG
theorem o_texc:Zj Zy2 Z1g7:=Z8
theorem Z1j8:Zxv.ok Tryz.prog:=Sum.okF facts.mixed g_texc o_texc Z17p rfl (fun _=>rfl) (by
 intro xs hx hp
 obtain ⟨w,h,c,rfl⟩:=len3 hx
 simp only [Z1g8,Zy2,TX.sat,XB.prop,X.den,Z1kk,Z1kl,Z1ke,Z1kf,Z1ki,Z1kj,Z1kg,Z1kh,mkS,mkP,and_true,true_and,Z1kp,Z1kq,not_or,not_and,Z1km,ne_eq,Z1kn,Z1ko,Zno,L2.den]
 unfold Z1di er
 refine ⟨fun g=>?_,fun g=>?_⟩
 ·rw [if_neg]
  rw [decide_eq_true_iff]
  omega
 ·rw [if_pos]
  rw [decide_eq_true_iff]
  omega)
theorem Z1dp:Z1g Zxv Z1g4:=⟨fun xs h=>h,fun vs xs h hp=>Z1 (Z10c _ (by omega)) Z4⟩
noncomputable def Zy3:List Sum:=[Zxv]
def Z1g9:List Inf:=[Z1g4]
def Z1ga:TX:=(.ite (.lt (.c 16) (.ln (.v 0))) (.ret [(.c 4)])
(.loop 2 [none,none] [(.c 0),(.c 0)] (.ite (.le (.ln (.v 0)) (.v 2)) (.ret [(.c 0)])
(.asrt (.le (.c 0) (.v 2)) (.call 0 [(.l2 .at (.l2 .at (.v 0) (.v 2)) (.c 0)),(.l2 .at (.l2 .at (.v 0) (.v 2)) (.c 1)),(.l2 .at (.l2 .at (.l2 .at (.v 0) (.v 2)) (.c 2)) (.c 4))] (.ite (.not (.eq (.v 3) (.c 0))) (.ret [(.v 3)])
(.back 0 [(.v 1),(.wr .i64 (.add (.v 2) (.c 1)))])))))))
theorem Z17q:Z12 (Zr [] Z1g9 [] Znr (Zq Tryz.prog (Z5u Tryz.prog [(4,12)]) gl0 Zy3 1000 118 [Txs] [I1]))=Z1ga:=by kernel_rfl
theorem g_texs:Gok Tryz.prog Zy3:=(fix.one Z1j8)
theorem o_texs:Zj Zy3 Z1g9:=(Z2 Z1dp Z8)
theorem tex_vs {b:Int} (h:Z9 Zjb (dec b)):Z17 [zz,zz,none] [co b 0,co b 1,ctN (co b 2)]:=by
 have:=Z1t h
 exact Z1 (this.2 0) (Z1 (this.2 1) (Z1 trivial Z4))
theorem Z1j9:Zxx.ok Tryz.prog:=Sum.okPF (pin:=Znr) facts.mixed g_texs o_texs Z17q rfl (fun _=>rfl) (fun xs h=>h.1) (by
 intro xs hx hp
 obtain ⟨a,rfl⟩:=len1 hx
 have hel:∀ b ∈ dec a,Z9 Zjb (dec b):=hp.2
 clear hp
 simp only [Z1ga,Zy3,Zxv,TX.sat,XB.prop,X.den,Z1kk,Z1kl,Z1ke,Z1kf,Z1ki,Z1kj,Z1kg,Z1kh,mkS,mkP,and_true,true_and,Z1kp,Z1kq,not_or,not_and,Z1km,ne_eq,Z1kn,Z1ko,Znq,Zno,L2.den]
 generalize dec a=l at hel ⊢
 unfold Zuf
 refine ⟨fun h=>?_,fun h=>?_⟩
 ·rw [if_neg (by omega)]
 rw [if_pos (by omega)]
 refine ⟨fun xs=>∃ i:Nat,xs.getD 1 0=(i:Int)∧i≤l.length∧∀ j,j < i→texB (l.getD j 0)=true,fun xs=>l.length - (xs.getD 1 0).toNat,fun xs hx _=>Zp (n:=2) hx,⟨0,rfl,by omega,fun j hj=>by omega⟩,?_⟩
 intro xs hx hI
 obtain ⟨d0,d1,rfl⟩:=Zdf hx
 obtain ⟨i,hi,hle,hall⟩:=hI
 simp only [Z1kg,Z1kh,Z1ki,Z1kj] at hi ⊢
 subst hi
 have hco:∀ x j,(dec x).getD j 0=co x j:=fun _ _=>rfl
 have hct:∀ x,co x 4=ctN x:=fun _=>rfl
 simp only [Int.toNat_natCast,hco,show Int.toNat 0=0 from rfl,show Int.toNat 1=1 from rfl,show Int.toNat 2=2 from rfl,show Int.toNat 3=3 from rfl,show Int.toNat 4=4 from rfl,show Int.toNat 5=5 from rfl,hct]
 refine ⟨fun hge=>?_,fun hlt=>?_⟩
 ·rw [if_pos (Z5w hall (by omega))]
 ·have hil:i < l.length:=by omega
  refine ⟨by omega,tex_vs (hel _ (Z10 hil)),?_⟩
  have hok:texB (l.getD i 0)=Z1di (co (l.getD i 0) 0) (co (l.getD i 0) 1) (ctN (co (l.getD i 0) 2)):=rfl
  rw [← hok]
  by_cases hb:texB (l.getD i 0)=true
  ·refine ⟨fun h=>absurd (if_pos hb) h,fun _=>?_⟩
   have hw:IntKind.i64.wrap ((i:Int) + 1)=((i + 1:Nat):Int):=by rw [Zf (by omega) (by omega)]; omega
   rw [hw]
   refine ⟨⟨i + 1,rfl,by omega,fun j hj=>?_⟩,by rw [Int.toNat_natCast]; omega⟩
   rcases Nat.lt_or_ge j i with h1 | h1
   ·exact hall j h1
   ·have:j=i:=by omega
    subst this
    exact hb
  ·refine ⟨fun _=>?_,fun h=>?_⟩
   ·rw [if_neg (Z96 hil hb)]
    rw [er,if_neg hb]
   ·rw [er,if_neg hb] at h
    exact absurd h (by decide))
theorem Z1dq:Z1g Zxx Z1g5:=⟨fun xs h=>(Z1a xs h).elim,fun vs xs h hp=>Z1 (by
  show Ze (iv 0 8) (Zuf _)
  unfold Zuf
  split
  ·split
   ·exact ⟨by decide,by decide⟩
   ·exact ⟨by decide,by decide⟩
  ·exact ⟨by decide,by decide⟩) Z4⟩
noncomputable def Zgm:List Sum:=[]
def Zy4:List Inf:=[]
def Zy5:TX:=(.ite (.or (.lt (.v 9) (.c 0)) (.lt (.c 16) (.v 9))) (.ret [(.c 2)])
(.ite (.or (.or (.lt (.v 4) (.c (-1))) (.le (.v 9) (.v 4))) (.or (.lt (.c 2) (.v 5)) (.or (.or (.lt (.v 6) (.c (-1024))) (.lt (.c 1024) (.v 6))) (.or (.lt (.v 8) (.c 0)) (.lt (.c 15) (.v 8)))))) (.ret [(.c 8)])
(.ret [(.c 0)])))
theorem Zuh:Z12 (Zr [] Zy4 [] Zer (Zq Tryz.prog Z7x gl0 Zgm 1000 131 [Lk,I1] [I1]))=Zy5:=by kernel_rfl
theorem Z1dr:Gok Tryz.prog Zgm:=noG
theorem Z1ds:Zj Zgm Zy4:=Z8
theorem Z17r:Zgl.ok Tryz.prog:=Sum.okF facts.mixed Z1dr Z1ds Zuh rfl (fun _=>rfl) (by
 intro xs hx hp
 obtain ⟨c0,c1,c2,c3,c4,c5,c6,c7,c8,n,rfl⟩:=len10 hx
 simp only [Zy5,Zgm,TX.sat,XB.prop,X.den,Z1kk,Z1kl,Z1ke,Z1kf,Z1ki,Z1kj,Z1kg,Z1kh,mkS,mkP,and_true,true_and,Z1kp,Z1kq,not_or,not_and,Z1km,ne_eq,Z1kn,Z1ko,Zeq,L2.den]
 unfold Zns er
 simp only [TX.sat,XB.prop,X.den,Z1kk,Z1kl,Z1ke,Z1kf,Z1ki,Z1kj,Z1kg,Z1kh,mkS,mkP,and_true,true_and,Z1kp,Z1kq,not_or,not_and,Z1km,ne_eq,Z1kn,Z1ko]
 refine ⟨fun g=>?_,fun g=>⟨fun k=>?_,fun k=>?_⟩⟩
 ·rw [if_neg (by omega)]
 ·rw [if_pos (by omega),if_neg]
  rw [decide_eq_true_iff]
  omega
 ·rw [if_pos (by omega),if_pos]
  rw [decide_eq_true_iff]
  omega)
theorem Z11f:Z1g Zgl Zxy:=⟨fun xs h=>h,fun vs xs h hp=>Z1 (by
  split
  ·exact Z10c _ (by omega)
  ·exact ⟨by decide,by decide⟩) Z4⟩
noncomputable def Zy6:List Sum:=[Zgl,Zfy,Z1cx]
def Z1gb:List Inf:=[Zxy,Zw6,i_bof]
def Z1gc:TX:=(.ite (.or (.lt (.c 64) (.ln (.v 0))) (.or (.not (.eq (.ln (.v 1)) (.ln (.v 0)))) (.lt (.c 64) (.ln (.v 2))))) (.ret [(.c 0)])
(.callp 0 [(.v 3),(.v 4),(.v 5),(.v 6),(.v 7),(.v 8),(.v 9),(.v 10),(.v 11),(.v 18)] (.ite (.not (.eq (.v 19) (.c 0))) (.ret [(.c 0)])
(.loop 2 [none,none] [(.c 0),(.c 0)] (.ite (.lt (.v 21) (.ln (.v 0))) (.asrt (.le (.c 0) (.v 21)) (.call 1 [(.l2 .at (.l2 .at (.v 0) (.v 21)) (.c 0)),(.l2 .at (.l2 .at (.v 0) (.v 21)) (.c 1)),(.l2 .at (.l2 .at (.v 0) (.v 21)) (.c 2))] (.ite (.not (.eq (.v 22) (.c 0))) (.ret [(.c 0)])
(.asrt (.lt (.v 21) (.ln (.v 1))) (.ite (.or (.lt (.mn (.l2 .at (.l2 .at (.v 1) (.v 21)) (.c 0)) (.l2 .at (.l2 .at (.v 1) (.v 21)) (.c 1))) (.c 0)) (.lt (.c 255) (.mx (.l2 .at (.l2 .at (.v 1) (.v 21)) (.c 0)) (.l2 .at (.l2 .at (.v 1) (.v 21)) (.c 1))))) (.ret [(.c 0)])
(.back 0 [(.v 20),(.wr .i64 (.add (.v 21) (.c 1)))]))))))
(.loop 2 [none,none] [(.v 20),(.c 0)] (.ite (.lt (.v 23) (.ln (.v 2))) (.asrt (.le (.c 0) (.v 23)) (.ite (.or (.lt (.mn (.mn (.l2 .at (.l2 .at (.v 2) (.v 23)) (.c 0)) (.l2 .at (.l2 .at (.v 2) (.v 23)) (.c 1))) (.l2 .at (.l2 .at (.v 2) (.v 23)) (.c 2))) (.c 0)) (.le (.ln (.v 0)) (.mx (.mx (.l2 .at (.l2 .at (.v 2) (.v 23)) (.c 0)) (.l2 .at (.l2 .at (.v 2) (.v 23)) (.c 1))) (.l2 .at (.l2 .at (.v 2) (.v 23)) (.c 2))))) (.ret [(.c 0)])
(.back 1 [(.v 22),(.wr .i64 (.add (.v 23) (.c 1)))])))
(.callp 2 [(.v 0)] (.ite (.and (.and (.and (.eq (.v 24) (.v 12)) (.and (.eq (.v 25) (.v 13)) (.eq (.v 26) (.v 14)))) (.and (.eq (.v 27) (.v 15)) (.and (.eq (.v 28) (.v 16)) (.eq (.v 29) (.v 17))))) (.or (.eq (.v 30) (.c 0)) (.eq (.ln (.v 0)) (.c 0)))) (.ret [(.c 1)])
(.ret [(.c 0)]))))))))))
theorem Z17s:Z12 (Zr [] Z1gb [] ([none,none,none]++ivs 4 0 255++[zz,iv 0 255,zz,iv 0 1,zz]++zs 7) (Zq Tryz.prog (Z5u Tryz.prog [(5,41),(11,85)]) gl0 Zy6 1000 121 [It,I1] [Bo]))=Z1gc:=by kernel_rfl
theorem g_imay:Gok Tryz.prog Zy6:=(more Z17r (more Z14v (fix.one ok_bof)))
theorem o_imay:Zj Zy6 Z1gb:=(Z2 Z11f (Z2 Z10e (Z2 Z1j4 Z8)))
theorem Zui {b:Int} (h:Z9 Z8e (dec b)):Z17 (zs 3) [co b 0,co b 1,co b 2]:=by
 have:=Z1t h
 exact Z1 (this.2 0) (Z1 (this.2 1) (Z1 (this.2 2) Z4))
theorem Z17t {y:List Int} (n:Int):(if 0≤n∧n≤16 then er (Zns y) 8 else 2)=0↔(decide (0≤n∧n≤16) && Zns y)=true:=by
 unfold er
 split
 ·rename_i h
  cases Zns y <;> simp [h]
 ·rename_i h
  simp [h]
theorem Z4i {b:Bool} (h:¬ b=true):b01 b=0:=if_neg h
theorem Znv {b:Bool} (h:b=true):b01 b=1:=if_pos h
theorem okW_P {l:List Int} (h:l.all okW=true):l.all okP=true:=by
 rw [List.all_eq_true] at h ⊢
 intro x hx
 have:=h x hx
 simp only [okW,Zju,decide_eq_true_iff,Z1kg,Z1kh,Nat.zero_add] at this
 rw [Zja]
 omega
theorem Z1ja:Zxz.ok Tryz.prog:=Sum.okPF (pin:=Znu) facts.mixed g_imay o_imay Z17s rfl (fun _=>rfl) (fun xs h=>h.1) (by
 intro xs hx hp
 obtain ⟨V,U,T,c3,c4,c5,c6,c7,c8,c9,c10,c11,c12,c13,c14,c15,c16,c17,n,rfl⟩:=len19 hx
 have hel:∀ v ∈ dec V,Z9 Z8e (dec v):=hp.2
 have hv:=hp.1
 clear hp
 simp only [Z1gc,Zy6,Zgl,Zfy,Z1cx,TX.sat,XB.prop,X.den,Z1kk,Z1kl,Z1ke,Z1kf,Z1ki,Z1kj,Z1kg,Z1kh,mkS,mkP,and_true,true_and,Z1kp,Z1kq,not_or,not_and,Z1km,ne_eq,Z1kn,Z1ko,Znt,Zeq,Zdw,Znb,ex7,L2.den]
 unfold Z11b Z1j7 Z1dl
 simp only [TX.sat,XB.prop,X.den,Z1kk,Z1kl,Z1ke,Z1kf,Z1ki,Z1kj,Z1kg,Z1kh,mkS,mkP,and_true,true_and,Z1kp,Z1kq,not_or,not_and,Z1km,ne_eq,Z1kn,Z1ko]
 generalize dec V=v at hel ⊢
 generalize dec U=u
 generalize dec T=t
 have hlook:=Z17t (y:=[c3,c4,c5,c6,c7,c8,c9,c10,c11,n]) n
 generalize (decide (0≤n∧n≤16) && Zns [c3,c4,c5,c6,c7,c8,c9,c10,c11,n])=F at hlook ⊢
 generalize (if 0≤n∧n≤16 then er (Zns [c3,c4,c5,c6,c7,c8,c9,c10,c11,n]) 8 else 2)=E at hlook ⊢
 refine ⟨fun h=>?_,fun h=>⟨fun hE=>?_,fun hE=>?_⟩⟩
 ·rw [Z4i]
  rw [Z1kr,decide_eq_true_iff]
  omega
 ·rw [Z4i]
  rw [Z1kr,Z1kr]
  exact fun g=>hE (hlook.2 g.2.1)
 have hF:F=true:=hlook.1 hE
 have hA:v.length≤64∧u.length=v.length∧t.length≤64:=by omega
 rw [hF,decide_eq_true hA]
 simp only [Bool.true_and]
 refine ⟨fun xs=>∃ i:Nat,xs.getD 1 0=(i:Int)∧i≤v.length∧(∀ j,j < i→okW (v.getD j 0)=true)∧∀ j,j < i→uvB (u.getD j 0)=true,fun xs=>v.length - (xs.getD 1 0).toNat,fun xs hx _=>Zp (n:=2) hx,⟨0,rfl,by omega,fun j hj=>by omega,fun j hj=>by omega⟩,?_⟩
 intro xs hx hI
 obtain ⟨d0,d1,rfl⟩:=Zdf hx
 obtain ⟨i,hi,hle,hall,hallu⟩:=hI
 simp only [Z1kg,Z1kh,Z1ki,Z1kj] at hi ⊢
 subst hi
 have hco:∀ x j,(dec x).getD j 0=co x j:=fun _ _=>rfl
 simp only [Int.toNat_natCast,hco,show Int.toNat 0=0 from rfl,show Int.toNat 1=1 from rfl,show Int.toNat 2=2 from rfl]
 refine ⟨fun hlt=>?_,fun hge=>?_⟩
 ·have hil:i < v.length:=by omega
  refine ⟨by omega,Zui (hel _ (Z10 hil)),?_⟩
  have hok:okW (v.getD i 0)=Zju 4096 [co (v.getD i 0) 0,co (v.getD i 0) 1,co (v.getD i 0) 2] 0:=rfl
  rw [← hok]
  by_cases hb:okW (v.getD i 0)=true
  ·refine ⟨fun h=>absurd (if_pos hb) h,fun _=>⟨by omega,fun hbad=>?_,fun hgood=>?_⟩⟩
   ·rw [Z4i]
    rw [Z1kr,Z1kr]
    intro g
    refine Z96 (i:=i) (by omega) ?_ g.2.1
    simp only [uvB,decide_eq_true_iff]
    omega
   ·have hw:IntKind.i64.wrap ((i:Int) + 1)=((i + 1:Nat):Int):=by rw [Zf (by omega) (by omega)]; omega
    rw [hw]
    refine ⟨⟨i + 1,rfl,by omega,fun j hj=>?_,fun j hj=>?_⟩,by rw [Int.toNat_natCast]; omega⟩
    ·rcases Nat.lt_or_ge j i with h1 | h1
     ·exact hall j h1
     ·have:j=i:=by omega
      subst this
      exact hb
    ·rcases Nat.lt_or_ge j i with h1 | h1
     ·exact hallu j h1
     ·have:j=i:=by omega
      subst this
      simp only [uvB,decide_eq_true_iff]
      omega
  ·refine ⟨fun _=>?_,fun h=>?_⟩
   ·rw [Z4i]
    rw [Z1kr]
    exact fun g=>Z96 hil hb g.1
   ·rw [er,if_neg hb] at h
    exact absurd h (by decide)
 have hV:v.all okW=true:=Z5w hall (by omega)
 have hU:u.all uvB=true:=Z5w hallu (by omega)
 rw [hV,hU]
 simp only [Bool.true_and]
 refine ⟨fun xs=>∃ i:Nat,xs.getD 1 0=(i:Int)∧i≤t.length∧∀ j,j < i→Z17f v.length (t.getD j 0)=true,fun xs=>t.length - (xs.getD 1 0).toNat,fun xs hx _=>Zp (n:=2) hx,⟨0,rfl,by omega,fun j hj=>by omega⟩,?_⟩
 intro xs hx hI
 obtain ⟨f0,f1,rfl⟩:=Zdf hx
 obtain ⟨k,hk,hkl,hallt⟩:=hI
 simp only [Z1kg,Z1kh,Z1ki,Z1kj] at hk ⊢
 subst hk
 simp only [Int.toNat_natCast,hco,show Int.toNat 0=0 from rfl,show Int.toNat 1=1 from rfl,show Int.toNat 2=2 from rfl]
 refine ⟨fun hlt=>⟨by omega,fun hbad=>?_,fun hgood=>?_⟩,fun hend=>?_⟩
 ·rw [Z4i]
  rw [Z1kr]
  intro g
  refine Z96 (i:=k) (by omega) ?_ g.1
  simp only [Z17f,decide_eq_true_iff]
  omega
 ·have hw:IntKind.i64.wrap ((k:Int) + 1)=((k + 1:Nat):Int):=by rw [Zf (by omega) (by omega)]; omega
  rw [hw]
  refine ⟨⟨k + 1,rfl,by omega,fun j hj=>?_⟩,by rw [Int.toNat_natCast]; omega⟩
  rcases Nat.lt_or_ge j k with h1 | h1
  ·exact hallt j h1
  ·have:j=k:=by omega
   subst this
   simp only [Z17f,decide_eq_true_iff]
   omega
 have hT:t.all (Z17f v.length)=true:=Z5w hallt (by omega)
 rw [hT]
 simp only [Bool.true_and]
 have hbof:Z16b v=if 1≤v.length then Z3b v++[0] else [0,0,0,0,0,0,4]:=by
  unfold Z16b
  rw [okW_P hV]
  by_cases h1:1≤v.length
  ·rw [if_pos ⟨h1,by omega⟩,if_pos rfl,if_pos h1]
  ·rw [if_neg (fun g=>h1 g.1),if_neg h1]
 have h6:=six (Zep v)
 have hz:v.length=0→Z3b v=[0,0,0,0,0,0]:=by
  intro h0
  rw [List.eq_nil_of_length_eq_zero h0]
  rfl
 by_cases h1:1≤v.length
 ·rw [if_pos h1] at hbof
  rw [hbof]
  generalize Z3b v=b at h6 ⊢
  rw [h6]
  simp only [TX.sat,XB.prop,X.den,Z1kk,Z1kl,Z1ke,Z1kf,Z1ki,Z1kj,Z1kg,Z1kh,mkS,mkP,and_true,true_and,Z1kp,Z1kq,not_or,not_and,Z1km,ne_eq,Z1kn,Z1ko,List.cons.injEq,and_true]
  refine ⟨fun g=>?_,fun g=>?_⟩
  ·rw [Znv]
   rw [decide_eq_true_iff]
   omega
  ·rw [Z4i]
   rw [decide_eq_true_iff]
   intro q
   exact (g ⟨⟨by omega,by omega,by omega⟩,by omega,by omega,by omega⟩).1
 ·rw [if_neg h1] at hbof
  rw [hbof,hz (by omega)]
  simp only [TX.sat,XB.prop,X.den,Z1kk,Z1kl,Z1ke,Z1kf,Z1ki,Z1kj,Z1kg,Z1kh,mkS,mkP,and_true,true_and,Z1kp,Z1kq,not_or,not_and,Z1km,ne_eq,Z1kn,Z1ko,List.cons.injEq,and_true]
  refine ⟨fun g=>?_,fun g=>?_⟩
  ·rw [Znv]
   rw [decide_eq_true_iff]
   omega
  ·rw [Z4i]
   rw [decide_eq_true_iff]
   omega)
theorem Z1dt:Z1g Zxz Z1g6:=⟨fun xs h=>(Z1a xs h).elim,fun vs xs h hp=>Z1 (Zf9 _) Z4⟩
noncomputable def Zgn:List Sum:=[Zxx,Zxz]
def Zy7:List Inf:=[Z1g5,Z1g6]
def Zy8:TX:=(.ite (.or (.lt (.c 256) (.ln (.v 0))) (.lt (.c 16) (.ln (.v 1)))) (.ret [(.c 4)])
(.call 0 [(.v 1)] (.ite (.not (.eq (.v 2) (.c 0))) (.ret [(.c 8)])
(.loop 2 [none,none] [(.c 0),(.c 0)] (.ite (.le (.ln (.v 0)) (.v 4)) (.ret [(.c 0)])
(.asrt (.le (.c 0) (.v 4)) (.call 1 [(.l2 .at (.l2 .at (.l2 .at (.v 0) (.v 4)) (.c 0)) (.c 4)),(.l2 .at (.l2 .at (.l2 .at (.v 0) (.v 4)) (.c 1)) (.c 4)),(.l2 .at (.l2 .at (.l2 .at (.v 0) (.v 4)) (.c 2)) (.c 4)),(.l2 .at (.l2 .at (.v 0) (.v 4)) (.c 3)),(.l2 .at (.l2 .at (.v 0) (.v 4)) (.c 4)),(.l2 .at (.l2 .at (.v 0) (.v 4)) (.c 5)),(.l2 .at (.l2 .at (.v 0) (.v 4)) (.c 6)),(.l2 .at (.l2 .at (.v 0) (.v 4)) (.c 7)),(.l2 .at (.l2 .at (.v 0) (.v 4)) (.c 8)),(.l2 .at (.l2 .at (.v 0) (.v 4)) (.c 9)),(.l2 .at (.l2 .at (.v 0) (.v 4)) (.c 10)),(.l2 .at (.l2 .at (.v 0) (.v 4)) (.c 11)),(.l2 .at (.l2 .at (.v 0) (.v 4)) (.c 12)),(.l2 .at (.l2 .at (.v 0) (.v 4)) (.c 13)),(.l2 .at (.l2 .at (.v 0) (.v 4)) (.c 14)),(.l2 .at (.l2 .at (.v 0) (.v 4)) (.c 15)),(.l2 .at (.l2 .at (.v 0) (.v 4)) (.c 16)),(.l2 .at (.l2 .at (.v 0) (.v 4)) (.c 17)),(.ln (.v 1))] (.ite (.eq (.v 5) (.c 0)) (.ret [(.c 8)])
(.back 0 [(.v 3),(.wr .i64 (.add (.v 4) (.c 1)))])))))))))
theorem Zuj:Z12 (Zr [] Zy7 [] Zes (Zq Tryz.prog (Z5u Tryz.prog [(2,9)]) gl0 Zgn 1000 81 [Sho] [I1]))=Zy8:=by kernel_rfl
theorem Z1du:Gok Tryz.prog Zgn:=(more Z1j9 (fix.one Z1ja))
theorem Z1dv:Zj Zgn Zy7:=(Z2 Z1dq (Z2 Z1dt Z8))
theorem Z1jb {b n:Int} (h:Z9 Zk6 (dec b)) (hn:Ze zz n):Z17 Znu (Zd0 b n):=by
 have:=Z1t h
 exact Z1 trivial (Z1 trivial (Z1 trivial (Z1 (this.2 3) (Z1 (this.2 4) (Z1 (this.2 5) (Z1 (this.2 6) (Z1 (this.2 7) (Z1 (this.2 8) (Z1 (this.2 9) (Z1 (this.2 10) (Z1 (this.2 11) (Z1 (this.2 12) (Z1 (this.2 13) (Z1 (this.2 14) (Z1 (this.2 15) (Z1 (this.2 16) (Z1 (this.2 17) (Z1 hn Z4))))))))))))))))))
theorem Zrc:Zac.ok Tryz.prog:=Sum.okPF (pin:=Zes) facts.mixed Z1du Z1dv Zuj rfl (fun _=>rfl) (fun xs h=>h.1) (by
 intro xs hx hp
 obtain ⟨I,T,rfl⟩:=Zdf hx
 have hr:Zk7 (dec I) (dec T):=hp.2
 clear hp
 simp only [Zy8,Zgn,Zxx,Zxz,TX.sat,XB.prop,X.den,Z1kk,Z1kl,Z1ke,Z1kf,Z1ki,Z1kj,Z1kg,Z1kh,mkS,mkP,and_true,true_and,Z1kp,Z1kq,not_or,not_and,Z1km,ne_eq,Z1kn,Z1ko,Zlc,Znq,Znt,L2.den]
 have hpt:Zxw [T]:=⟨Z1 trivial Z4,hr.2⟩
 unfold Z4v
 simp only [TX.sat,XB.prop,X.den,Z1kk,Z1kl,Z1ke,Z1kf,Z1ki,Z1kj,Z1kg,Z1kh,mkS,mkP,and_true,true_and,Z1kp,Z1kq,not_or,not_and,Z1km,ne_eq,Z1kn,Z1ko]
 refine ⟨fun h=>?_,fun h=>⟨hpt,?_⟩⟩
 ·rw [if_neg (by omega)]
 rw [if_pos (by omega)]
 clear hpt
 have hel:=hr.1
 have hlt:(dec T).length≤16:=by omega
 generalize dec T=t at hlt ⊢
 generalize dec I=l at hel h ⊢
 refine ⟨fun hE=>?_,fun hE=>?_⟩
 ·rw [if_neg (fun g=>hE g.1)]
 simp only [hE,true_and]
 refine ⟨fun xs=>∃ i:Nat,xs.getD 1 0=(i:Int)∧i≤l.length∧∀ j,j < i→Z11b (Zd0 (l.getD j 0) t.length)=true,fun xs=>l.length - (xs.getD 1 0).toNat,fun xs hx _=>Zp (n:=2) hx,⟨0,rfl,by omega,fun j hj=>by omega⟩,?_⟩
 intro xs hx hI
 obtain ⟨d0,d1,rfl⟩:=Zdf hx
 obtain ⟨i,hi,hle,hall⟩:=hI
 simp only [Z1kg,Z1kh,Z1ki,Z1kj] at hi ⊢
 subst hi
 have hco:∀ x j,(dec x).getD j 0=co x j:=fun _ _=>rfl
 have hct:∀ x,co (co x 0) 4=ctN (co x 0)∧co (co x 1) 4=ctN (co x 1)∧co (co x 2) 4=ctN (co x 2):=fun _=>⟨rfl,rfl,rfl⟩
 have tn:∀ k:Nat,Int.toNat (OfNat.ofNat k:Int)=k:=fun _=>rfl
 simp only [Int.toNat_natCast,hco,tn,show Int.toNat 0=0 from rfl,show Int.toNat 1=1 from rfl,show Int.toNat 2=2 from rfl,show Int.toNat 3=3 from rfl,show Int.toNat 4=4 from rfl,show Int.toNat 5=5 from rfl,show Int.toNat 6=6 from rfl,show Int.toNat 7=7 from rfl,show Int.toNat 8=8 from rfl,show Int.toNat 9=9 from rfl,show Int.toNat 10=10 from rfl,show Int.toNat 11=11 from rfl,show Int.toNat 12=12 from rfl,show Int.toNat 13=13 from rfl,show Int.toNat 14=14 from rfl,show Int.toNat 15=15 from rfl,show Int.toNat 16=16 from rfl,show Int.toNat 17=17 from rfl]
 simp only [(hct _).1,(hct _).2.1,(hct _).2.2]
 refine ⟨fun hge=>?_,fun hlt2=>?_⟩
 ·rw [if_pos (Z5w (p:=fun b=>Z11b (Zd0 b t.length)) hall (by omega))]
 ·have hil:i < l.length:=by omega
  have hit:=hel _ (Z10 hil)
  refine ⟨by omega,⟨Z1jb hit.1 (zc _ (by omega) (by omega)),hit.2.1⟩,?_⟩
  have hok:[ctN (co (l.getD i 0) 0),ctN (co (l.getD i 0) 1),ctN (co (l.getD i 0) 2),co (l.getD i 0) 3,co (l.getD i 0) 4,co (l.getD i 0) 5,co (l.getD i 0) 6,co (l.getD i 0) 7,co (l.getD i 0) 8,co (l.getD i 0) 9,co (l.getD i 0) 10,co (l.getD i 0) 11,co (l.getD i 0) 12,co (l.getD i 0) 13,co (l.getD i 0) 14,co (l.getD i 0) 15,co (l.getD i 0) 16,co (l.getD i 0) 17,(t.length:Int)]=Zd0 (l.getD i 0) t.length:=rfl
  rw [hok]
  by_cases hb:Z11b (Zd0 (l.getD i 0) t.length)=true
  ·rw [Znv hb]
   refine ⟨fun h=>absurd h (by decide),fun _=>?_⟩
   have hw:IntKind.i64.wrap ((i:Int) + 1)=((i + 1:Nat):Int):=by rw [Zf (by omega) (by omega)]; omega
   rw [hw]
   refine ⟨⟨i + 1,rfl,by omega,fun j hj=>?_⟩,by rw [Int.toNat_natCast]; omega⟩
   rcases Nat.lt_or_ge j i with h1 | h1
   ·exact hall j h1
   ·have:j=i:=by omega
    subst this
    exact hb
  ·rw [Z4i hb]
   refine ⟨fun _=>?_,fun h=>absurd rfl h⟩
   rw [if_neg (Z96 (p:=fun b=>Z11b (Zd0 b t.length)) hil hb)])
theorem Zle:Z1g Zac Zy0:=⟨fun xs h=>(Z1a xs h).elim,fun vs xs h hp=>Z1 (by
  show Ze (iv 0 8) (Z4v _)
  unfold Z4v
  split
  ·split
   ·exact ⟨by decide,by decide⟩
   ·exact ⟨by decide,by decide⟩
  ·exact ⟨by decide,by decide⟩) Z4⟩
end Go.Proofs.YtgcoidbaoigkeaaGreatDoor.fix
namespace Go.Proofs.YtgcoidbaoigkeaaGreatDoor.fix
open Go.RowKit Go.Sx
noncomputable def Zjc:List Sum:=[Zkw,Znc,Z69,Zj3,Znf]
def Z17u:List Inf:=[Z1fj,Z16e,Z16j,Z16h,Z16i]
def Zuk:TX:=(.asrt (.le (.c 0) (.v 18)) (.asrt (.lt (.v 18) (.ln (.v 0))) (.asrt (.le (.c 0) (.v 19)) (.asrt (.lt (.v 19) (.ln (.l2 .at (.l2 .at (.l2 .at (.v 0) (.v 18)) (.c 2)) (.c 4)))) (.asrt (.le (.c 0) (.l2 .at (.l2 .at (.l2 .at (.l2 .at (.l2 .at (.v 0) (.v 18)) (.c 2)) (.c 4)) (.v 19)) (.c 0))) (.asrt (.lt (.l2 .at (.l2 .at (.l2 .at (.l2 .at (.l2 .at (.v 0) (.v 18)) (.c 2)) (.c 4)) (.v 19)) (.c 0)) (.ln (.l2 .at (.l2 .at (.l2 .at (.v 0) (.v 18)) (.c 0)) (.c 4)))) (.call 0 [(.v 2),(.v 3),(.v 4),(.v 5),(.v 6),(.v 7),(.v 8),(.v 9),(.v 10),(.v 11),(.v 12),(.v 13),(.v 14),(.v 15),(.v 16),(.v 17),(.l2 .at (.l2 .at (.l2 .at (.l2 .at (.l2 .at (.v 0) (.v 18)) (.c 0)) (.c 4)) (.l2 .at (.l2 .at (.l2 .at (.l2 .at (.l2 .at (.v 0) (.v 18)) (.c 2)) (.c 4)) (.v 19)) (.c 0))) (.c 0)),(.l2 .at (.l2 .at (.l2 .at (.l2 .at (.l2 .at (.v 0) (.v 18)) (.c 0)) (.c 4)) (.l2 .at (.l2 .at (.l2 .at (.l2 .at (.l2 .at (.v 0) (.v 18)) (.c 2)) (.c 4)) (.v 19)) (.c 0))) (.c 1)),(.l2 .at (.l2 .at (.l2 .at (.l2 .at (.l2 .at (.v 0) (.v 18)) (.c 0)) (.c 4)) (.l2 .at (.l2 .at (.l2 .at (.l2 .at (.l2 .at (.v 0) (.v 18)) (.c 2)) (.c 4)) (.v 19)) (.c 0))) (.c 2))] (.asrt (.lt (.l2 .at (.l2 .at (.l2 .at (.l2 .at (.l2 .at (.v 0) (.v 18)) (.c 2)) (.c 4)) (.v 19)) (.c 0)) (.ln (.l2 .at (.l2 .at (.l2 .at (.v 0) (.v 18)) (.c 1)) (.c 4)))) (.asrt (.le (.c 0) (.l2 .at (.l2 .at (.l2 .at (.l2 .at (.l2 .at (.v 0) (.v 18)) (.c 2)) (.c 4)) (.v 19)) (.c 1))) (.asrt (.lt (.l2 .at (.l2 .at (.l2 .at (.l2 .at (.l2 .at (.v 0) (.v 18)) (.c 2)) (.c 4)) (.v 19)) (.c 1)) (.ln (.l2 .at (.l2 .at (.l2 .at (.v 0) (.v 18)) (.c 0)) (.c 4)))) (.call 0 [(.v 2),(.v 3),(.v 4),(.v 5),(.v 6),(.v 7),(.v 8),(.v 9),(.v 10),(.v 11),(.v 12),(.v 13),(.v 14),(.v 15),(.v 16),(.v 17),(.l2 .at (.l2 .at (.l2 .at (.l2 .at (.l2 .at (.v 0) (.v 18)) (.c 0)) (.c 4)) (.l2 .at (.l2 .at (.l2 .at (.l2 .at (.l2 .at (.v 0) (.v 18)) (.c 2)) (.c 4)) (.v 19)) (.c 1))) (.c 0)),(.l2 .at (.l2 .at (.l2 .at (.l2 .at (.l2 .at (.v 0) (.v 18)) (.c 0)) (.c 4)) (.l2 .at (.l2 .at (.l2 .at (.l2 .at (.l2 .at (.v 0) (.v 18)) (.c 2)) (.c 4)) (.v 19)) (.c 1))) (.c 1)),(.l2 .at (.l2 .at (.l2 .at (.l2 .at (.l2 .at (.v 0) (.v 18)) (.c 0)) (.c 4)) (.l2 .at (.l2 .at (.l2 .at (.l2 .at (.l2 .at (.v 0) (.v 18)) (.c 2)) (.c 4)) (.v 19)) (.c 1))) (.c 2))] (.asrt (.lt (.l2 .at (.l2 .at (.l2 .at (.l2 .at (.l2 .at (.v 0) (.v 18)) (.c 2)) (.c 4)) (.v 19)) (.c 1)) (.ln (.l2 .at (.l2 .at (.l2 .at (.v 0) (.v 18)) (.c 1)) (.c 4)))) (.asrt (.le (.c 0) (.l2 .at (.l2 .at (.l2 .at (.l2 .at (.l2 .at (.v 0) (.v 18)) (.c 2)) (.c 4)) (.v 19)) (.c 2))) (.asrt (.lt (.l2 .at (.l2 .at (.l2 .at (.l2 .at (.l2 .at (.v 0) (.v 18)) (.c 2)) (.c 4)) (.v 19)) (.c 2)) (.ln (.l2 .at (.l2 .at (.l2 .at (.v 0) (.v 18)) (.c 0)) (.c 4)))) (.call 0 [(.v 2),(.v 3),(.v 4),(.v 5),(.v 6),(.v 7),(.v 8),(.v 9),(.v 10),(.v 11),(.v 12),(.v 13),(.v 14),(.v 15),(.v 16),(.v 17),(.l2 .at (.l2 .at (.l2 .at (.l2 .at (.l2 .at (.v 0) (.v 18)) (.c 0)) (.c 4)) (.l2 .at (.l2 .at (.l2 .at (.l2 .at (.l2 .at (.v 0) (.v 18)) (.c 2)) (.c 4)) (.v 19)) (.c 2))) (.c 0)),(.l2 .at (.l2 .at (.l2 .at (.l2 .at (.l2 .at (.v 0) (.v 18)) (.c 0)) (.c 4)) (.l2 .at (.l2 .at (.l2 .at (.l2 .at (.l2 .at (.v 0) (.v 18)) (.c 2)) (.c 4)) (.v 19)) (.c 2))) (.c 1)),(.l2 .at (.l2 .at (.l2 .at (.l2 .at (.l2 .at (.v 0) (.v 18)) (.c 0)) (.c 4)) (.l2 .at (.l2 .at (.l2 .at (.l2 .at (.l2 .at (.v 0) (.v 18)) (.c 2)) (.c 4)) (.v 19)) (.c 2))) (.c 2))] (.asrt (.lt (.l2 .at (.l2 .at (.l2 .at (.l2 .at (.l2 .at (.v 0) (.v 18)) (.c 2)) (.c 4)) (.v 19)) (.c 2)) (.ln (.l2 .at (.l2 .at (.l2 .at (.v 0) (.v 18)) (.c 1)) (.c 4)))) (.call 1 [(.v 15),(.v 20),(.v 21),(.v 22),(.l2 .at (.l2 .at (.l2 .at (.l2 .at (.l2 .at (.v 0) (.v 18)) (.c 1)) (.c 4)) (.l2 .at (.l2 .at (.l2 .at (.l2 .at (.l2 .at (.v 0) (.v 18)) (.c 2)) (.c 4)) (.v 19)) (.c 0))) (.c 0)),(.l2 .at (.l2 .at (.l2 .at (.l2 .at (.l2 .at (.v 0) (.v 18)) (.c 1)) (.c 4)) (.l2 .at (.l2 .at (.l2 .at (.l2 .at (.l2 .at (.v 0) (.v 18)) (.c 2)) (.c 4)) (.v 19)) (.c 0))) (.c 1)),(.v 24),(.v 25),(.v 26),(.l2 .at (.l2 .at (.l2 .at (.l2 .at (.l2 .at (.v 0) (.v 18)) (.c 1)) (.c 4)) (.l2 .at (.l2 .at (.l2 .at (.l2 .at (.l2 .at (.v 0) (.v 18)) (.c 2)) (.c 4)) (.v 19)) (.c 1))) (.c 0)),(.l2 .at (.l2 .at (.l2 .at (.l2 .at (.l2 .at (.v 0) (.v 18)) (.c 1)) (.c 4)) (.l2 .at (.l2 .at (.l2 .at (.l2 .at (.l2 .at (.v 0) (.v 18)) (.c 2)) (.c 4)) (.v 19)) (.c 1))) (.c 1)),(.v 28),(.v 29),(.v 30),(.l2 .at (.l2 .at (.l2 .at (.l2 .at (.l2 .at (.v 0) (.v 18)) (.c 1)) (.c 4)) (.l2 .at (.l2 .at (.l2 .at (.l2 .at (.l2 .at (.v 0) (.v 18)) (.c 2)) (.c 4)) (.v 19)) (.c 2))) (.c 0)),(.l2 .at (.l2 .at (.l2 .at (.l2 .at (.l2 .at (.v 0) (.v 18)) (.c 1)) (.c 4)) (.l2 .at (.l2 .at (.l2 .at (.l2 .at (.l2 .at (.v 0) (.v 18)) (.c 2)) (.c 4)) (.v 19)) (.c 2))) (.c 1))] (.loop 2 [none,none] [.nl,(.c 0)] (.ite (.le (.ln (.v 32)) (.v 35)) (.ret [(.v 34)])
(.asrt (.le (.c 0) (.v 35)) (.call 2 [(.v 2),(.v 3),(.v 4),(.v 5),(.v 6),(.v 7),(.v 8),(.v 9),(.v 10),(.v 11),(.v 12),(.v 13),(.v 14),(.v 15),(.v 16),(.v 17),(.l2 .at (.l2 .at (.v 32) (.v 35)) (.c 0)),(.l2 .at (.l2 .at (.v 32) (.v 35)) (.c 1)),(.l2 .at (.l2 .at (.v 32) (.v 35)) (.c 2)),(.l2 .at (.l2 .at (.v 32) (.v 35)) (.c 3)),(.l2 .at (.l2 .at (.v 32) (.v 35)) (.c 4))] (.call 2 [(.v 2),(.v 3),(.v 4),(.v 5),(.v 6),(.v 7),(.v 8),(.v 9),(.v 10),(.v 11),(.v 12),(.v 13),(.v 14),(.v 15),(.v 16),(.v 17),(.l2 .at (.l2 .at (.v 32) (.v 35)) (.c 5)),(.l2 .at (.l2 .at (.v 32) (.v 35)) (.c 6)),(.l2 .at (.l2 .at (.v 32) (.v 35)) (.c 7)),(.l2 .at (.l2 .at (.v 32) (.v 35)) (.c 8)),(.l2 .at (.l2 .at (.v 32) (.v 35)) (.c 9))] (.call 2 [(.v 2),(.v 3),(.v 4),(.v 5),(.v 6),(.v 7),(.v 8),(.v 9),(.v 10),(.v 11),(.v 12),(.v 13),(.v 14),(.v 15),(.v 16),(.v 17),(.l2 .at (.l2 .at (.v 32) (.v 35)) (.c 10)),(.l2 .at (.l2 .at (.v 32) (.v 35)) (.c 11)),(.l2 .at (.l2 .at (.v 32) (.v 35)) (.c 12)),(.l2 .at (.l2 .at (.v 32) (.v 35)) (.c 13)),(.l2 .at (.l2 .at (.v 32) (.v 35)) (.c 14))] (.call 3 [(.v 36),(.v 37),(.v 38),(.v 39),(.v 40),(.v 42),(.v 43),(.v 44),(.v 45),(.v 46),(.v 48),(.v 49),(.v 50),(.v 51),(.v 52),(.l2 .at (.l2 .at (.v 0) (.v 18)) (.c 8))] (.ite (.nz (.v 54)) (.callp 4 [(.v 36),(.v 37),(.v 38),(.v 39),(.v 40),(.v 42),(.v 43),(.v 44),(.v 45),(.v 46),(.v 48),(.v 49),(.v 50),(.v 51),(.v 52)] (.asrt (.le (.ln (.l2 .snoc (.v 34) (.l2 .cons (.v 56) (.l2 .cons (.v 57) (.l2 .cons (.v 58) (.l2 .cons (.v 59) (.l2 .cons (.v 60) (.l2 .cons (.v 61) (.l2 .cons (.v 62) (.l2 .cons (.v 63) (.l2 .cons (.v 64) (.l2 .cons (.v 65) (.l2 .cons (.v 66) (.l2 .cons (.v 67) (.l2 .cons (.v 68) (.l2 .cons (.v 69) (.l2 .cons (.v 70) .nl))))))))))))))))) (.c 1000000)) (.back 0 [(.l2 .snoc (.v 34) (.l2 .cons (.v 56) (.l2 .cons (.v 57) (.l2 .cons (.v 58) (.l2 .cons (.v 59) (.l2 .cons (.v 60) (.l2 .cons (.v 61) (.l2 .cons (.v 62) (.l2 .cons (.v 63) (.l2 .cons (.v 64) (.l2 .cons (.v 65) (.l2 .cons (.v 66) (.l2 .cons (.v 67) (.l2 .cons (.v 68) (.l2 .cons (.v 69) (.l2 .cons (.v 70) .nl)))))))))))))))),(.wr .i64 (.add (.v 35) (.c 1)))])))
(.back 0 [(.v 34),(.wr .i64 (.add (.v 35) (.c 1)))]))))))))))))))))))))))))))
theorem Z11g:Z12 (Zr [] Z17u [] ([none,none]++zs 18) (Zq Tryz.prog (Z5u Tryz.prog [(11,75)]) gl0 Zjc 1000 82 [Sho,An 16,I1,I1] [Ss]))=Zuk:=by kernel_rfl
theorem Z1jc:Gok Tryz.prog Zjc:=(more Z1i3 (more Z1dc (more Z1d0 (more Z1d2 (fix.one Z1d3)))))
theorem Z1jd:Zj Zjc Z17u:=(Z2 Zwr (Z2 Z17a (Z2 Z9b (Z2 Z16t (Z2 Zr2 Z8)))))
theorem Z38 {I T:Int} (h:Z4v [I,T]=0):(dec I).length≤256∧(dec T).length≤16∧Zuf (dec T)=0∧∀ b ∈ dec I,Z11b (Zd0 b (dec T).length)=true:=by
 unfold Z4v at h
 simp only [Z1kg,Z1kh] at h
 split at h
 ·rename_i h1
  split at h
  ·rename_i h2
   exact ⟨h1.1,h1.2,h2.1,fun b hb=>List.all_eq_true.1 h2.2 b hb⟩
  ·exact absurd h (by decide)
 ·exact absurd h (by decide)
theorem Zjd {b n:Int} (h:Z11b (Zd0 b n)=true):((Zc b).length≤64∧(Zld b).length=(Zc b).length∧(Z2y b).length≤64)∧(∀ v ∈ Zc b,okW v=true)∧(∀ u ∈ Zld b,uvB u=true) ∧
  (∀ t ∈ Z2y b,Z17f (Zc b).length t=true)∧[co b 12,co b 13,co b 14,co b 15,co b 16,co b 17]=Z3b (Zc b):=by
 simp only [Z11b,Zd0,Z1dl,Z1kr,decide_eq_true_iff,Z1kg,Z1kh] at h
 obtain ⟨h1,h2,h3,h4,h5,h6⟩:=h
 exact ⟨h1,fun v hv=>List.all_eq_true.1 h3 v hv,fun v hv=>List.all_eq_true.1 h4 v hv,fun v hv=>List.all_eq_true.1 h5 v hv,h6⟩
def mnC (x:List Int) (j:Nat):Int:=min (x.getD (1 + j) 0) (min (x.getD (6 + j) 0) (x.getD (11 + j) 0))
def mxC (x:List Int) (j:Nat):Int:=max (x.getD (1 + j) 0) (max (x.getD (6 + j) 0) (x.getD (11 + j) 0))
def Zul (x p:List Int):Prop:=∃ u0 u1 u2 u3 u4,p=[u0,u1,u2,u3,u4]∧x.getD 0 0≤u2∧(mnC x 0≤u0∧u0≤mxC x 0)∧(mnC x 1≤u1∧u1≤mxC x 1)∧(mnC x 2≤u2∧u2≤mxC x 2)∧(mnC x 3≤u3∧u3≤mxC x 3)∧(mnC x 4≤u4∧u4≤mxC x 4)
theorem Zy9:∀ (ps:List (List Int)) (t:List Int),t ∈ Zj1 ps→∃ p q r,p ∈ ps∧q ∈ ps∧r ∈ ps∧t=p++(q++r)
 | [],t,h=>by simp [Zj1] at h
 | [_],t,h=>by simp [Zj1] at h
 | [_,_],t,h=>by simp [Zj1] at h
 | p::q::r::l,t,h=>by
  simp only [Zj1,List.mem_cons] at h
  rcases h with rfl | h
  ·exact ⟨p,q,r,by simp,by simp,by simp,rfl⟩
  ·obtain ⟨x,y,z,hx,hy,hz,e⟩:=Zy9 (p::r::l) t h
   have sub:∀ u ∈ p::r::l,u ∈ p::q::r::l:=by
    intro u hu
    simp only [List.mem_cons] at hu ⊢
    rcases hu with h | h | h
    ·exact .inl h
    ·exact .inr (.inr (.inl h))
    ·exact .inr (.inr (.inr h))
   exact ⟨x,y,z,sub _ hx,sub _ hy,sub _ hz,e⟩
termination_by ps=>ps.length
theorem Zya:∀ ps:List (List Int),(Zj1 ps).length≤ps.length
 | []=>by simp [Zj1]
 | [_]=>by simp [Zj1]
 | [_,_]=>by simp [Zj1]
 | p::q::r::l=>by
  have:=Zya (p::r::l)
  simp only [Zj1,List.length_cons] at this ⊢
  omega
termination_by ps=>ps.length
theorem Zad {n a0 a1 a2 a3 a4 b0 b1 b2 b3 b4:Int} (h1:a2 < n) (h2:n≤b2):∃ u0 u1 u3 u4,Z12a n [a0,a1,a2,a3,a4] [b0,b1,b2,b3,b4]=[u0,u1,n,u3,u4] ∧
  (min a0 b0≤u0∧u0≤max a0 b0)∧(min a1 b1≤u1∧u1≤max a1 b1)∧(min a3 b3≤u3∧u3≤max a3 b3)∧(min a4 b4≤u4∧u4≤max a4 b4):=by
 have hb:Z68 (n::([a0,a1,a2,a3,a4]++[b0,b1,b2,b3,b4]))=true:=decide_eq_true (show a2 < n∧n≤b2 from ⟨h1,h2⟩)
 exact ⟨_,_,_,_,rfl,Z61 (o:=1) hb,Z61 (o:=2) hb,Z61 (o:=4) hb,Z61 (o:=5) hb⟩
theorem Zje {n a0 a1 a2 a3 a4 b0 b1 b2 b3 b4 d0 d1 d2 d3 d4:Int} (p:List Int) (h:p ∈ Zqx [n,a0,a1,a2,a3,a4,b0,b1,b2,b3,b4,d0,d1,d2,d3,d4]) :
  Zul [n,a0,a1,a2,a3,a4,b0,b1,b2,b3,b4,d0,d1,d2,d3,d4] p:=by
 have corner:∀ {u0 u1 u2 u3 u4:Int},p=[u0,u1,u2,u3,u4]→n≤u2→(min a0 (min b0 d0)≤u0∧u0≤max a0 (max b0 d0))→(min a1 (min b1 d1)≤u1∧u1≤max a1 (max b1 d1))→(min a2 (min b2 d2)≤u2∧u2≤max a2 (max b2 d2)) →
   (min a3 (min b3 d3)≤u3∧u3≤max a3 (max b3 d3))→(min a4 (min b4 d4)≤u4∧u4≤max a4 (max b4 d4))→Zul [n,a0,a1,a2,a3,a4,b0,b1,b2,b3,b4,d0,d1,d2,d3,d4] p:=fun e h0 k0 k1 k2 k3 k4=>⟨_,_,_,_,_,e,h0,k0,k1,k2,k3,k4⟩
 have fA:Z5z [n,a0,a1,a2,a3,a4,b0,b1,b2,b3,b4,d0,d1,d2,d3,d4] 0=decide (n≤a2):=rfl
 have fB:Z5z [n,a0,a1,a2,a3,a4,b0,b1,b2,b3,b4,d0,d1,d2,d3,d4] 1=decide (n≤b2):=rfl
 have fD:Z5z [n,a0,a1,a2,a3,a4,b0,b1,b2,b3,b4,d0,d1,d2,d3,d4] 2=decide (n≤d2):=rfl
 have cA:Z98 [n,a0,a1,a2,a3,a4,b0,b1,b2,b3,b4,d0,d1,d2,d3,d4] 0=[a0,a1,a2,a3,a4]:=rfl
 have cB:Z98 [n,a0,a1,a2,a3,a4,b0,b1,b2,b3,b4,d0,d1,d2,d3,d4] 1=[b0,b1,b2,b3,b4]:=rfl
 have cD:Z98 [n,a0,a1,a2,a3,a4,b0,b1,b2,b3,b4,d0,d1,d2,d3,d4] 2=[d0,d1,d2,d3,d4]:=rfl
 unfold Zqx at h
 rw [List.mem_append,List.mem_append] at h
 unfold Zub at h
 rw [fA,fB,fD,cA,cB,cD] at h
 simp only [decide_eq_true_iff,Z1kg] at h
 rcases h with h | h | h
 ·split at h
  ·split at h
   ·simp only [List.mem_singleton] at h
    exact corner h (by omega) (by omega) (by omega) (by omega) (by omega) (by omega)
   ·rename_i g1 g2
    obtain ⟨u0,u1,u3,u4,e,k0,k1,k3,k4⟩:=Zad (n:=n) (a0:=b0) (a1:=b1) (a2:=b2) (a3:=b3) (a4:=b4) (b0:=a0) (b1:=a1) (b2:=a2) (b3:=a3) (b4:=a4) (by omega) g1
    rw [e] at h
    simp only [List.mem_cons,List.not_mem_nil,or_false] at h
    rcases h with h | h
    ·exact corner h (by omega) (by omega) (by omega) (by omega) (by omega) (by omega)
    ·exact corner h (by omega) (by omega) (by omega) (by omega) (by omega) (by omega)
  ·split at h
   ·rename_i g1 g2
    obtain ⟨u0,u1,u3,u4,e,k0,k1,k3,k4⟩:=Zad (n:=n) (a0:=a0) (a1:=a1) (a2:=a2) (a3:=a3) (a4:=a4) (b0:=b0) (b1:=b1) (b2:=b2) (b3:=b3) (b4:=b4) (by omega) g2
    rw [e] at h
    simp only [List.mem_singleton] at h
    exact corner h (by omega) (by omega) (by omega) (by omega) (by omega) (by omega)
   ·exact absurd h (List.not_mem_nil)
 ·split at h
  ·split at h
   ·simp only [List.mem_singleton] at h
    exact corner h (by omega) (by omega) (by omega) (by omega) (by omega) (by omega)
   ·rename_i g1 g2
    obtain ⟨u0,u1,u3,u4,e,k0,k1,k3,k4⟩:=Zad (n:=n) (a0:=d0) (a1:=d1) (a2:=d2) (a3:=d3) (a4:=d4) (b0:=b0) (b1:=b1) (b2:=b2) (b3:=b3) (b4:=b4) (by omega) g1
    rw [e] at h
    simp only [List.mem_cons,List.not_mem_nil,or_false] at h
    rcases h with h | h
    ·exact corner h (by omega) (by omega) (by omega) (by omega) (by omega) (by omega)
    ·exact corner h (by omega) (by omega) (by omega) (by omega) (by omega) (by omega)
  ·split at h
   ·rename_i g1 g2
    obtain ⟨u0,u1,u3,u4,e,k0,k1,k3,k4⟩:=Zad (n:=n) (a0:=b0) (a1:=b1) (a2:=b2) (a3:=b3) (a4:=b4) (b0:=d0) (b1:=d1) (b2:=d2) (b3:=d3) (b4:=d4) (by omega) g2
    rw [e] at h
    simp only [List.mem_singleton] at h
    exact corner h (by omega) (by omega) (by omega) (by omega) (by omega) (by omega)
   ·exact absurd h (List.not_mem_nil)
 ·split at h
  ·split at h
   ·simp only [List.mem_singleton] at h
    exact corner h (by omega) (by omega) (by omega) (by omega) (by omega) (by omega)
   ·rename_i g1 g2
    obtain ⟨u0,u1,u3,u4,e,k0,k1,k3,k4⟩:=Zad (n:=n) (a0:=a0) (a1:=a1) (a2:=a2) (a3:=a3) (a4:=a4) (b0:=d0) (b1:=d1) (b2:=d2) (b3:=d3) (b4:=d4) (by omega) g1
    rw [e] at h
    simp only [List.mem_cons,List.not_mem_nil,or_false] at h
    rcases h with h | h
    ·exact corner h (by omega) (by omega) (by omega) (by omega) (by omega) (by omega)
    ·exact corner h (by omega) (by omega) (by omega) (by omega) (by omega) (by omega)
  ·split at h
   ·rename_i g1 g2
    obtain ⟨u0,u1,u3,u4,e,k0,k1,k3,k4⟩:=Zad (n:=n) (a0:=d0) (a1:=d1) (a2:=d2) (a3:=d3) (a4:=d4) (b0:=a0) (b1:=a1) (b2:=a2) (b3:=a3) (b4:=a4) (by omega) g2
    rw [e] at h
    simp only [List.mem_singleton] at h
    exact corner h (by omega) (by omega) (by omega) (by omega) (by omega) (by omega)
   ·exact absurd h (List.not_mem_nil)
theorem Z1dw (x:List Int):(Zqx x).length≤6:=by
 have hs:∀ i j,(Zub x i j).length≤2:=by
  intro i j
  unfold Zub
  split
  ·split <;> simp
  ·split <;> simp
 have h0:=hs 0 1
 have h1:=hs 1 2
 have h2:=hs 2 0
 unfold Zqx
 rw [List.length_append,List.length_append]
 omega
theorem Zd1 {x:List Int} (hx:x.length=16):(dec ((Z8d x).getD 0 0)).length≤6∧∀ l ∈ dec ((Z8d x).getD 0 0),∃ p q r,Zul x p∧Zul x q∧Zul x r∧dec l=p++(q++r):=by
 obtain ⟨n,a0,a1,a2,a3,a4,b0,b1,b2,b3,b4,d0,d1,d2,d3,d4,rfl⟩:=Z1g2 hx
 unfold Z8d
 split
 ·split
  ·simp only [Z1kg,Z16c,Z3]
   constructor
   ·rw [List.length_map]
    exact Nat.le_trans (Zya _) (Z1dw _)
   ·intro l hl
    obtain ⟨t,ht,rfl⟩:=List.mem_map.1 hl
    obtain ⟨p,q,r,hp,hq,hr,e⟩:=Zy9 _ _ ht
    exact ⟨p,q,r,Zje p hp,Zje q hq,Zje r hr,by rw [Z3,e]⟩
  ·simp only [Z1kg,Z3]
   exact ⟨by simp,fun l hl=>absurd hl (List.not_mem_nil)⟩
 ·simp only [Z1kg,Z3]
  exact ⟨by simp,fun l hl=>absurd hl (List.not_mem_nil)⟩
theorem Z1dx (x:List Int):(Z60 x).getD 0 0=0∨(Z60 x).getD 0 0=1:=by
 have hb:∀ b,b01 b=0∨b01 b=1:=fun b=>by cases b <;> simp [b01]
 unfold Z60
 split
 ·split
  ·exact hb _
  ·split
   ·exact hb _
   ·split
    ·exact hb _
    ·exact .inl rfl
 ·exact .inl rfl
set_option maxHeartbeats 2000000 in
theorem Z17v (I T c0 c1 c2 c3 c4 c5 c6 c7 c8 c9 c10 c11 c12 c13 c14 c15 i k b t:Int) (hbe:(dec I).getD i.toNat 0=b) (hte:(Z2y b).getD k.toNat 0=t) (L:List Int) (hLL:Z11e [c0,c1,c2,c3,c4,c5,c6,c7,c8,c9,c10,c11,c12,c13,c14,c15] b t=L) (sp:Int→Nat→List Int) (hsp:∀ l o,Z17g [c0,c1,c2,c3,c4,c5,c6,c7,c8,c9,c10,c11,c12,c13,c14,c15] l o=sp l o) (pp:Int→Option Int) (hpp:∀ l,pp l=Zug [c0,c1,c2,c3,c4,c5,c6,c7,c8,c9,c10,c11,c12,c13,c14,c15] (co b 8) l) (sq:Int→List Int) (hsq:∀ l,sq l=Zr7 [c0,c1,c2,c3,c4,c5,c6,c7,c8,c9,c10,c11,c12,c13,c14,c15] l)
  (hv:Z17 (zs 16) [c0,c1,c2,c3,c4,c5,c6,c7,c8,c9,c10,c11,c12,c13,c14,c15])
  (hrb:Z9 Zk6 (dec b)∧(∀ v ∈ Zc b,Z9 Z8e (dec v))∧(∀ v ∈ Zld b,Z9 Z17e (dec v))∧∀ v ∈ Z2y b,Z9 Z8e (dec v))
  (hb:0≤i∧i < (dec I).length∧0≤k∧k < (Z2y b).length) (hmb:(Zc b).length≤64∧(Zld b).length=(Zc b).length)
  (htn:(0≤co t 0∧0≤co t 1∧0≤co t 2)∧co t 0 < (Zc b).length∧co t 1 < (Zc b).length∧co t 2 < (Zc b).length)
  (hnp:Z17 (zs 16) (c13::Zjv [c0,c1,c2,c3,c4,c5,c6,c7,c8,c9,c10,c11,c12,c13,c14,c15] b t)) (hLn:L.length≤1000) (hel:∀ l ∈ L,Z17 (zs 15) [co l 0,co l 1,co l 2,co l 3,co l 4,co l 5,co l 6,co l 7,co l 8,co l 9,co l 10,co l 11,co l 12,co l 13,co l 14]) :
  Zuk.sat Zjc [] (fun ys=>ys=[cod (L.filterMap pp)]) [] [I,T,c0,c1,c2,c3,c4,c5,c6,c7,c8,c9,c10,c11,c12,c13,c14,c15,i,k]:=by
 unfold Zuk Zjc
 simp only [TX.sat,XB.prop]
 simp only [X.den,L2.den,TX.sat,XB.prop,X.den,Z1kk,Z1kl,Z1ke,Z1kf,Z1ki,Z1kj,Z1kg,Z1kh,mkS,mkP,and_true,true_and,Z1kp,Z1kq,not_or,not_and,Z1km,ne_eq,Z1kn,Z1ko]
 have hco:∀ x j,(dec x).getD j 0=co x j:=fun _ _=>rfl
 have hV:∀ b,dec (co (co b 0) 4)=Zc b:=fun _=>rfl
 have hU:∀ b,dec (co (co b 1) 4)=Zld b:=fun _=>rfl
 have hT:∀ b,dec (co (co b 2) 4)=Z2y b:=fun _=>rfl
 simp only [hbe,hco,hV,hU,hT,hte,show Int.toNat 0=0 from rfl,show Int.toNat 1=1 from rfl,show Int.toNat 2=2 from rfl,show Int.toNat 4=4 from rfl]
 have vw3:∀ v,Zkw.sem [c0,c1,c2,c3,c4,c5,c6,c7,c8,c9,c10,c11,c12,c13,c14,c15,co v 0,co v 1,co v 2]=[(Z1v [c0,c1,c2,c3,c4,c5,c6,c7,c8,c9,c10,c11,c12,c13,c14,c15] v).getD 0 0,(Z1v [c0,c1,c2,c3,c4,c5,c6,c7,c8,c9,c10,c11,c12,c13,c14,c15] v).getD 1 0,(Z1v [c0,c1,c2,c3,c4,c5,c6,c7,c8,c9,c10,c11,c12,c13,c14,c15] v).getD 2 0,(Z1v [c0,c1,c2,c3,c4,c5,c6,c7,c8,c9,c10,c11,c12,c13,c14,c15] v).getD 3 0]:=fun _=>rfl
 simp only [vw3,TX.sat,XB.prop,X.den,Z1kk,Z1kl,Z1ke,Z1kf,Z1ki,Z1kj,Z1kg,Z1kh,mkS,mkP,and_true,true_and,Z1kp,Z1kq,not_or,not_and,Z1km,ne_eq,Z1kn,Z1ko]
 have cn:Znc.sem [c13,(Z1v [c0,c1,c2,c3,c4,c5,c6,c7,c8,c9,c10,c11,c12,c13,c14,c15] ((Zc b).getD (co t 0).toNat 0)).getD 0 0,(Z1v [c0,c1,c2,c3,c4,c5,c6,c7,c8,c9,c10,c11,c12,c13,c14,c15] ((Zc b).getD (co t 0).toNat 0)).getD 1 0,(Z1v [c0,c1,c2,c3,c4,c5,c6,c7,c8,c9,c10,c11,c12,c13,c14,c15] ((Zc b).getD (co t 0).toNat 0)).getD 2 0,co ((Zld b).getD (co t 0).toNat 0) 0,co ((Zld b).getD (co t 0).toNat 0) 1,(Z1v [c0,c1,c2,c3,c4,c5,c6,c7,c8,c9,c10,c11,c12,c13,c14,c15] ((Zc b).getD (co t 1).toNat 0)).getD 0 0,(Z1v [c0,c1,c2,c3,c4,c5,c6,c7,c8,c9,c10,c11,c12,c13,c14,c15] ((Zc b).getD (co t 1).toNat 0)).getD 1 0,(Z1v [c0,c1,c2,c3,c4,c5,c6,c7,c8,c9,c10,c11,c12,c13,c14,c15] ((Zc b).getD (co t 1).toNat 0)).getD 2 0,co ((Zld b).getD (co t 1).toNat 0) 0,co ((Zld b).getD (co t 1).toNat 0) 1,(Z1v [c0,c1,c2,c3,c4,c5,c6,c7,c8,c9,c10,c11,c12,c13,c14,c15] ((Zc b).getD (co t 2).toNat 0)).getD 0 0,(Z1v [c0,c1,c2,c3,c4,c5,c6,c7,c8,c9,c10,c11,c12,c13,c14,c15] ((Zc b).getD (co t 2).toNat 0)).getD 1 0,(Z1v [c0,c1,c2,c3,c4,c5,c6,c7,c8,c9,c10,c11,c12,c13,c14,c15] ((Zc b).getD (co t 2).toNat 0)).getD 2 0,co ((Zld b).getD (co t 2).toNat 0) 0,co ((Zld b).getD (co t 2).toNat 0) 1]=[(Z8d (c13::Zjv [c0,c1,c2,c3,c4,c5,c6,c7,c8,c9,c10,c11,c12,c13,c14,c15] b t)).getD 0 0,(Z8d (c13::Zjv [c0,c1,c2,c3,c4,c5,c6,c7,c8,c9,c10,c11,c12,c13,c14,c15] b t)).getD 1 0]:=rfl
 simp only [cn,TX.sat,XB.prop,X.den,Z1kk,Z1kl,Z1ke,Z1kf,Z1ki,Z1kj,Z1kg,Z1kh,mkS,mkP,and_true,true_and,Z1kp,Z1kq,not_or,not_and,Z1km,ne_eq,Z1kn,Z1ko]
 have hL:dec ((Z8d (c13::Zjv [c0,c1,c2,c3,c4,c5,c6,c7,c8,c9,c10,c11,c12,c13,c14,c15] b t)).getD 0 0)=Z11e [c0,c1,c2,c3,c4,c5,c6,c7,c8,c9,c10,c11,c12,c13,c14,c15] b t:=rfl
 have hLj:∀ j,co ((Z8d (c13::Zjv [c0,c1,c2,c3,c4,c5,c6,c7,c8,c9,c10,c11,c12,c13,c14,c15] b t)).getD 0 0) j=L.getD j 0:=fun j=>by rw [← hLL]; rfl
 simp only [hL,hLL,hLj]
 clear cn vw3 hL hLj
 have pl0:∀ l,Z69.sem [c0,c1,c2,c3,c4,c5,c6,c7,c8,c9,c10,c11,c12,c13,c14,c15,co l 0,co l 1,co l 2,co l 3,co l 4]=[(sp l 0).getD 0 0,(sp l 0).getD 1 0,(sp l 0).getD 2 0,(sp l 0).getD 3 0,(sp l 0).getD 4 0,(sp l 0).getD 5 0]:=fun l=>by rw [← hsp]; rfl
 have pl5:∀ l,Z69.sem [c0,c1,c2,c3,c4,c5,c6,c7,c8,c9,c10,c11,c12,c13,c14,c15,co l 5,co l 6,co l 7,co l 8,co l 9]=[(sp l 5).getD 0 0,(sp l 5).getD 1 0,(sp l 5).getD 2 0,(sp l 5).getD 3 0,(sp l 5).getD 4 0,(sp l 5).getD 5 0]:=fun l=>by rw [← hsp]; rfl
 have pl10:∀ l,Z69.sem [c0,c1,c2,c3,c4,c5,c6,c7,c8,c9,c10,c11,c12,c13,c14,c15,co l 10,co l 11,co l 12,co l 13,co l 14]=[(sp l 10).getD 0 0,(sp l 10).getD 1 0,(sp l 10).getD 2 0,(sp l 10).getD 3 0,(sp l 10).getD 4 0,(sp l 10).getD 5 0]:=fun l=>by rw [← hsp]; rfl
 have sh:∀ l u,Zj3.sem [(sp l 0).getD 0 0,(sp l 0).getD 1 0,(sp l 0).getD 2 0,(sp l 0).getD 3 0,(sp l 0).getD 4 0,(sp l 5).getD 0 0,(sp l 5).getD 1 0,(sp l 5).getD 2 0,(sp l 5).getD 3 0,(sp l 5).getD 4 0,(sp l 10).getD 0 0,(sp l 10).getD 1 0,(sp l 10).getD 2 0,(sp l 10).getD 3 0,(sp l 10).getD 4 0,u]=[(Z60 (sq l++[u])).getD 0 0,(Z60 (sq l++[u])).getD 1 0]:=fun l u=>by rw [hsq,← hsp,← hsp,← hsp]; rfl
 have fr:∀ l,Znf.sem [(sp l 0).getD 0 0,(sp l 0).getD 1 0,(sp l 0).getD 2 0,(sp l 0).getD 3 0,(sp l 0).getD 4 0,(sp l 5).getD 0 0,(sp l 5).getD 1 0,(sp l 5).getD 2 0,(sp l 5).getD 3 0,(sp l 5).getD 4 0,(sp l 10).getD 0 0,(sp l 10).getD 1 0,(sp l 10).getD 2 0,(sp l 10).getD 3 0,(sp l 10).getD 4 0]=Zam (Z83 (sq l)):=fun l=>by rw [hsq,← hsp,← hsp,← hsp]; rfl
 have pv:∀ v,Z9 Z8e (dec v)→Zkw.pre ([c0,c1,c2,c3,c4,c5,c6,c7,c8,c9,c10,c11,c12,c13,c14,c15]++[co v 0,co v 1,co v 2]):=fun v h=>Z1n hv (Zui h)
 have q0:Z9 Z8e (dec ((Zc b).getD (co t 0).toNat 0)):=hrb.2.1 _ (Z10 (by omega))
 have q1:Z9 Z8e (dec ((Zc b).getD (co t 1).toNat 0)):=hrb.2.1 _ (Z10 (by omega))
 have q2:Z9 Z8e (dec ((Zc b).getD (co t 2).toNat 0)):=hrb.2.1 _ (Z10 (by omega))
 refine ⟨hb.1,hb.2.1,hb.2.2.1,hb.2.2.2,htn.1.1,htn.2.1,?_,by omega,htn.1.2.1,htn.2.2.1,?_,by omega,htn.1.2.2,htn.2.2.2,?_,by omega,?_,?_⟩
 ·exact pv _ q0
 ·exact pv _ q1
 ·exact pv _ q2
 ·exact hnp
 refine ⟨fun xs=>∃ i:Nat,xs.getD 1 0=(i:Int)∧i≤L.length∧dec (xs.getD 0 0)=(L.take i).filterMap pp∧cod (dec (xs.getD 0 0))=xs.getD 0 0,fun xs=>L.length - (xs.getD 1 0).toNat,fun xs hx _=>Zp (n:=2) hx,⟨0,rfl,by omega,Z37,by simp [Z3]⟩,?_⟩
 intro xs hx hI
 obtain ⟨d0,d1,rfl⟩:=Zdf hx
 obtain ⟨j,hj,hle,hd,hcd⟩:=hI
 simp only [Z1kg,Z1kh,Z1ki,Z1kj] at hj hd hcd ⊢
 subst hj
 simp only [Int.toNat_natCast,show Int.toNat 3=3 from rfl,show Int.toNat 5=5 from rfl,show Int.toNat 6=6 from rfl,show Int.toNat 7=7 from rfl,show Int.toNat 8=8 from rfl,show Int.toNat 9=9 from rfl,show Int.toNat 10=10 from rfl,show Int.toNat 11=11 from rfl,show Int.toNat 12=12 from rfl,show Int.toNat 13=13 from rfl,show Int.toNat 14=14 from rfl]
 simp only [pl0,pl5,pl10,TX.sat,XB.prop,X.den,Z1kk,Z1kl,Z1ke,Z1kf,Z1ki,Z1kj,Z1kg,Z1kh,mkS,mkP,and_true,true_and,Z1kp,Z1kq,not_or,not_and,Z1km,ne_eq,Z1kn,Z1ko]
 simp only [sh,fr,Zam,TX.sat,XB.prop,X.den,Z1kk,Z1kl,Z1ke,Z1kf,Z1ki,Z1kj,Z1kg,Z1kh,mkS,mkP,and_true,true_and,Z1kp,Z1kq,not_or,not_and,Z1km,ne_eq,Z1kn,Z1ko]
 simp only [Z3]
 refine ⟨fun hge=>?_,fun hlt=>?_⟩
 ·have:j=L.length:=by omega
  rw [← hcd,hd,this,List.take_length]
 ·have hjl:j < L.length:=by omega
  have htake:L.take (j + 1)=L.take j++[L.getD j 0]:=by
   rw [List.take_succ_eq_append_getElem hjl]
   rw [show L.getD j 0=L[j] by simp [List.getD,hjl]]
  have hmem:L.getD j 0 ∈ L:=Z10 hjl
  have hdl:(dec d0).length≤j:=by
   rw [hd]
   exact Nat.le_trans (List.length_filterMap_le _ _) (List.length_take_le _ _)
  have hw:IntKind.i64.wrap ((j:Int) + 1)=((j + 1:Nat):Int):=by rw [Zf (by omega) (by omega)]; omega
  have he:=hel _ hmem
  have p0:Z69.pre ([c0,c1,c2,c3,c4,c5,c6,c7,c8,c9,c10,c11,c12,c13,c14,c15]++[co (L.getD j 0) 0,co (L.getD j 0) 1,co (L.getD j 0) 2,co (L.getD j 0) 3,co (L.getD j 0) 4]):=Z1n hv (Z1 (he.2 0) (Z1 (he.2 1) (Z1 (he.2 2) (Z1 (he.2 3) (Z1 (he.2 4) (Z4))))))
  have p5:Z69.pre ([c0,c1,c2,c3,c4,c5,c6,c7,c8,c9,c10,c11,c12,c13,c14,c15]++[co (L.getD j 0) 5,co (L.getD j 0) 6,co (L.getD j 0) 7,co (L.getD j 0) 8,co (L.getD j 0) 9]):=Z1n hv (Z1 (he.2 5) (Z1 (he.2 6) (Z1 (he.2 7) (Z1 (he.2 8) (Z1 (he.2 9) (Z4))))))
  have p10:Z69.pre ([c0,c1,c2,c3,c4,c5,c6,c7,c8,c9,c10,c11,c12,c13,c14,c15]++[co (L.getD j 0) 10,co (L.getD j 0) 11,co (L.getD j 0) 12,co (L.getD j 0) 13,co (L.getD j 0) 14]):=Z1n hv (Z1 (he.2 10) (Z1 (he.2 11) (Z1 (he.2 12) (Z1 (he.2 13) (Z1 (he.2 14) (Z4))))))
  have o0:Z17 (Zcv []) [(sp (L.getD j 0) 0).getD 0 0,(sp (L.getD j 0) 0).getD 1 0,(sp (L.getD j 0) 0).getD 2 0,(sp (L.getD j 0) 0).getD 3 0,(sp (L.getD j 0) 0).getD 4 0,(sp (L.getD j 0) 0).getD 5 0]:=pl0 (L.getD j 0) ▸ Z9b.2 Z5l _ p0 p0
  have o5:Z17 (Zcv []) [(sp (L.getD j 0) 5).getD 0 0,(sp (L.getD j 0) 5).getD 1 0,(sp (L.getD j 0) 5).getD 2 0,(sp (L.getD j 0) 5).getD 3 0,(sp (L.getD j 0) 5).getD 4 0,(sp (L.getD j 0) 5).getD 5 0]:=pl5 (L.getD j 0) ▸ Z9b.2 Z5l _ p5 p5
  have o10:Z17 (Zcv []) [(sp (L.getD j 0) 10).getD 0 0,(sp (L.getD j 0) 10).getD 1 0,(sp (L.getD j 0) 10).getD 2 0,(sp (L.getD j 0) 10).getD 3 0,(sp (L.getD j 0) 10).getD 4 0,(sp (L.getD j 0) 10).getD 5 0]:=pl10 (L.getD j 0) ▸ Z9b.2 Z5l _ p10 p10
  have hcull:Ze (iv 0 255) (co b 8):=(Z1t hrb.1).2 8
  have wide:∀ {a c x:Int},Ze (iv a c) x→-9223372036854775808≤a→c≤9223372036854775807→Ze zz x:=fun h h1 h2=>⟨Int.le_trans h1 h.1,Int.le_trans h.2 h2⟩
  have psh:Zj3.pre ([(sp (L.getD j 0) 0).getD 0 0,(sp (L.getD j 0) 0).getD 1 0,(sp (L.getD j 0) 0).getD 2 0,(sp (L.getD j 0) 0).getD 3 0,(sp (L.getD j 0) 0).getD 4 0,(sp (L.getD j 0) 5).getD 0 0,(sp (L.getD j 0) 5).getD 1 0,(sp (L.getD j 0) 5).getD 2 0,(sp (L.getD j 0) 5).getD 3 0,(sp (L.getD j 0) 5).getD 4 0,(sp (L.getD j 0) 10).getD 0 0,(sp (L.getD j 0) 10).getD 1 0,(sp (L.getD j 0) 10).getD 2 0,(sp (L.getD j 0) 10).getD 3 0,(sp (L.getD j 0) 10).getD 4 0]++[co b 8]):=Z1 (wide (o0.2 0) (by decide) (by decide)) (Z1 (wide (o0.2 1) (by decide) (by decide)) (Z1 (wide (o0.2 2) (by decide) (by decide)) (Z1 (wide (o0.2 3) (by decide) (by decide)) (Z1 (wide (o0.2 4) (by decide) (by decide)) (Z1 (wide (o5.2 0) (by decide) (by decide)) (Z1 (wide (o5.2 1) (by decide) (by decide)) (Z1 (wide (o5.2 2) (by decide) (by decide)) (Z1 (wide (o5.2 3) (by decide) (by decide)) (Z1 (wide (o5.2 4) (by decide) (by decide)) (Z1 (wide (o10.2 0) (by decide) (by decide)) (Z1 (wide (o10.2 1) (by decide) (by decide)) (Z1 (wide (o10.2 2) (by decide) (by decide)) (Z1 (wide (o10.2 3) (by decide) (by decide)) (Z1 (wide (o10.2 4) (by decide) (by decide)) (Z1 (hcull) (Z4))))))))))))))))
  have hpart:=hpp (L.getD j 0)
  unfold Zug at hpart
  rw [← hsq] at hpart
  have h01:(Z60 (sq (L.getD j 0)++[co b 8])).getD 0 0=0∨(Z60 (sq (L.getD j 0)++[co b 8])).getD 0 0=1:=Z1dx _
  refine ⟨by omega,p0,p5,p10,psh,fun hn=>⟨?_,⟨j + 1,hw,by omega,?_,trivial⟩,?_⟩,fun hz=>⟨⟨j + 1,hw,by omega,?_,hcd⟩,?_⟩⟩
  ·rw [List.length_append,List.length_singleton]
   omega
  ·rw [if_pos (h01.resolve_left hn)] at hpart
   rw [htake,List.filterMap_append,hd]
   simp only [List.filterMap_cons,hpart,List.filterMap_nil]
   rfl
  ·rw [hw,Int.toNat_natCast]
   omega
  ·rw [if_neg (by rw [hz]; decide)] at hpart
   rw [htake,List.filterMap_append,hd]
   simp only [List.filterMap_cons,hpart,List.filterMap_nil,List.append_nil]
  ·rw [hw,Int.toNat_natCast]
   omega
theorem Zum {x p:List Int} (hx:Z17 (zs 16) x) (h:Zul x p):∃ u0 u1 u2 u3 u4,p=[u0,u1,u2,u3,u4]∧Ze zz u0∧Ze zz u1∧Ze zz u2∧Ze zz u3∧Ze zz u4:=by
 obtain ⟨u0,u1,u2,u3,u4,e,_,h0,h1,h2,h3,h4⟩:=h
 have key:∀ j (u:Int),j < 5→mnC x j≤u→u≤mxC x j→Ze zz u:=by
  intro j u hj k1 k2
  have zx:∀ i,i < 16→-9223372036854775808≤x.getD i 0∧x.getD i 0≤9223372036854775807:=by
   intro i hi
   have:=hx.2 i
   have hz:(zs 16).getD i none=zz:=by
    unfold zs List.getD
    rw [List.getElem?_replicate,if_pos hi]
    rfl
   rw [hz] at this
   exact this
  have e1:=zx (1 + j) (by omega)
  have e2:=zx (6 + j) (by omega)
  have e3:=zx (11 + j) (by omega)
  unfold mnC at k1
  unfold mxC at k2
  exact zc u (by omega) (by omega)
 exact ⟨u0,u1,u2,u3,u4,e,key 0 u0 (by omega) h0.1 h0.2,key 1 u1 (by omega) h1.1 h1.2,key 2 u2 (by omega) h2.1 h2.2,key 3 u3 (by omega) h3.1 h3.2,key 4 u4 (by omega) h4.1 h4.2⟩
theorem Z17w {x:List Int} (hl:x.length=16) (hx:Z17 (zs 16) x):∀ l ∈ dec ((Z8d x).getD 0 0),Z17 (zs 15) [co l 0,co l 1,co l 2,co l 3,co l 4,co l 5,co l 6,co l 7,co l 8,co l 9,co l 10,co l 11,co l 12,co l 13,co l 14]:=by
 intro l h
 obtain ⟨p,q,r,hp,hq,hr,e⟩:=(Zd1 hl).2 l h
 obtain ⟨a0,a1,a2,a3,a4,rfl,p0,p1,p2,p3,p4⟩:=Zum hx hp
 obtain ⟨b0,b1,b2,b3,b4,rfl,q0,q1,q2,q3,q4⟩:=Zum hx hq
 obtain ⟨d0,d1,d2,d3,d4,rfl,r0,r1,r2,r3,r4⟩:=Zum hx hr
 unfold co
 rw [e]
 exact Z1 (p0) (Z1 (p1) (Z1 (p2) (Z1 (p3) (Z1 (p4) (Z1 (q0) (Z1 (q1) (Z1 (q2) (Z1 (q3) (Z1 (q4) (Z1 (r0) (Z1 (r1) (Z1 (r2) (Z1 (r3) (Z1 (r4) (Z4)))))))))))))))
theorem Z17x {c0 c1 c2 c3 c4 c5 c6 c7 c8 c9 c10 c11 c12 c13 c14 c15 b t:Int} (hv:Z17 (zs 16) [c0,c1,c2,c3,c4,c5,c6,c7,c8,c9,c10,c11,c12,c13,c14,c15]) (h1:∀ v ∈ Zc b,Z9 Z8e (dec v)) (h2:∀ v ∈ Zld b,Z9 Z17e (dec v)) (hl:(Zld b).length=(Zc b).length)
  (htn:(0≤co t 0∧0≤co t 1∧0≤co t 2)∧co t 0 < (Zc b).length∧co t 1 < (Zc b).length∧co t 2 < (Zc b).length):Z17 (zs 16) (c13::Zjv [c0,c1,c2,c3,c4,c5,c6,c7,c8,c9,c10,c11,c12,c13,c14,c15] b t):=by
 have pv:∀ v,Z9 Z8e (dec v)→Zkw.pre ([c0,c1,c2,c3,c4,c5,c6,c7,c8,c9,c10,c11,c12,c13,c14,c15]++[co v 0,co v 1,co v 2]):=fun v h=>Z1n hv (Zui h)
 have bv:∀ v,Z9 Z8e (dec v)→Z17 (Zw8 []) (ex4 (Z1v [c0,c1,c2,c3,c4,c5,c6,c7,c8,c9,c10,c11,c12,c13,c14,c15] v)):=fun v h=>Zwr.2 Zg1 _ (pv v h) (pv v h)
 have wide:∀ {a c x:Int},Ze (iv a c) x→-9223372036854775808≤a→c≤9223372036854775807→Ze zz x:=fun h h1 h2=>⟨Int.le_trans h1 h.1,Int.le_trans h.2 h2⟩
 have v0:=bv _ (h1 ((Zc b).getD (co t 0).toNat 0) (Z10 (by omega)))
 have v1:=bv _ (h1 ((Zc b).getD (co t 1).toNat 0) (Z10 (by omega)))
 have v2:=bv _ (h1 ((Zc b).getD (co t 2).toNat 0) (Z10 (by omega)))
 have u0:=Z1t (h2 ((Zld b).getD (co t 0).toNat 0) (Z10 (by omega)))
 have u1:=Z1t (h2 ((Zld b).getD (co t 1).toNat 0) (Z10 (by omega)))
 have u2:=Z1t (h2 ((Zld b).getD (co t 2).toNat 0) (Z10 (by omega)))
 exact Z1 (hv.2 13) (Z1 (wide (v0.2 0) (by decide) (by decide)) (Z1 (wide (v0.2 1) (by decide) (by decide)) (Z1 (wide (v0.2 2) (by decide) (by decide)) (Z1 (u0.2 0) (Z1 (u0.2 1) (Z1 (wide (v1.2 0) (by decide) (by decide)) (Z1 (wide (v1.2 1) (by decide) (by decide)) (Z1 (wide (v1.2 2) (by decide) (by decide)) (Z1 (u1.2 0) (Z1 (u1.2 1) (Z1 (wide (v2.2 0) (by decide) (by decide)) (Z1 (wide (v2.2 1) (by decide) (by decide)) (Z1 (wide (v2.2 2) (by decide) (by decide)) (Z1 (u2.2 0) (Z1 (u2.2 1) (Z4))))))))))))))))
theorem Zyb:Zet.ok Tryz.prog:=Sum.okPF (pin:=Zr9) facts.mixed Z1jc Z1jd Z11g rfl (fun _=>rfl) (fun xs h=>h.1) (by
 intro xs hx hp
 obtain ⟨I,T,c0,c1,c2,c3,c4,c5,c6,c7,c8,c9,c10,c11,c12,c13,c14,c15,i,k,rfl⟩:=Z1hr hx
 obtain ⟨hv,hr,hb,hE,hc⟩:=hp
 replace hr:Zk7 (dec I) (dec T):=hr
 replace hE:Z4v [I,T]=0:=hE
 replace hb:0≤i∧i < (dec I).length∧0≤k∧k < (Z2y ((dec I).getD i.toNat 0)).length:=hb
 obtain ⟨_,_,_,hmay⟩:=Z38 hE
 have hbl:(dec I).getD i.toNat 0 ∈ dec I:=Z10 (by omega)
 have hrb:=hr.1 _ hbl
 have hmb:=Zjd (hmay _ hbl)
 have htl:(Z2y ((dec I).getD i.toNat 0)).getD k.toNat 0 ∈ Z2y ((dec I).getD i.toNat 0):=Z10 (by omega)
 have htn:=hmb.2.2.2.1 _ htl
 simp only [Z17f,decide_eq_true_iff] at htn
 have hv16:Z17 (zs 16) [c0,c1,c2,c3,c4,c5,c6,c7,c8,c9,c10,c11,c12,c13,c14,c15]:=Z1 (hv.2 2) (Z1 (hv.2 3) (Z1 (hv.2 4) (Z1 (hv.2 5) (Z1 (hv.2 6) (Z1 (hv.2 7) (Z1 (hv.2 8) (Z1 (hv.2 9) (Z1 (hv.2 10) (Z1 (hv.2 11) (Z1 (hv.2 12) (Z1 (hv.2 13) (Z1 (hv.2 14) (Z1 (hv.2 15) (Z1 (hv.2 16) (Z1 (hv.2 17) (Z4))))))))))))))))
 have hnp:=Z17x hv16 hrb.2.1 hrb.2.2.1 hmb.1.2.1 htn
 exact Z17v I T c0 c1 c2 c3 c4 c5 c6 c7 c8 c9 c10 c11 c12 c13 c14 c15 i k _ _ rfl rfl _ rfl _ (fun _ _=>rfl) _ (fun _=>rfl) _ (fun _=>rfl) hv16 hrb hb ⟨hmb.1.1,hmb.1.2.1⟩ htn hnp (Nat.le_trans (Zd1 (x:=c13::Zjv [c0,c1,c2,c3,c4,c5,c6,c7,c8,c9,c10,c11,c12,c13,c14,c15] _ _) rfl).1 (by decide)) (Z17w rfl hnp))
theorem Z17y:Z1g Zet Z17k:=⟨fun xs h=>(Z1a xs h).elim,fun vs xs h hp=>Z1 trivial Z4⟩
end Go.Proofs.YtgcoidbaoigkeaaGreatDoor.fix
namespace Go.Proofs.YtgcoidbaoigkeaaGreatDoor.fix
open Go.RowKit Go.Sx
noncomputable def Zjf:List Sum:=[Zac,Z4t,Zet,Zl9]
def Z17z:List Inf:=[Zy0,Zfz,Z17k,Z16m]
def Zun:TX:=(.call 0 [(.v 0),(.v 1)] (.ite (.not (.eq (.v 20) (.c 0))) (.ret [.nl,(.v 20)])
(.callp 1 [(.v 2),(.v 3),(.v 4),(.v 5),(.v 6),(.v 7),(.v 8),(.v 9),(.v 10),(.v 11),(.v 12),(.v 13),(.v 14),(.v 15),(.v 16),(.v 17)] (.ite (.not (.eq (.v 21) (.c 0))) (.ret [.nl,(.v 21)])
(.ite (.or (.or (.or (.lt (.v 18) (.c 0)) (.le (.v 16) (.v 18))) (.lt (.v 19) (.c 0))) (.le (.v 17) (.v 19))) (.ret [.nl,(.c 2)])
(.loop 2 [none,none] [(.c 0),.nl] (.ite (.lt (.v 22) (.ln (.v 0))) (.asrt (.le (.c 0) (.v 22)) (.loop 2 [none,none] [(.c 0),(.v 23)] (.ite (.lt (.v 24) (.ln (.l2 .at (.l2 .at (.l2 .at (.v 0) (.v 22)) (.c 2)) (.c 4)))) (.call 2 [(.v 0),(.v 1),(.v 2),(.v 3),(.v 4),(.v 5),(.v 6),(.v 7),(.v 8),(.v 9),(.v 10),(.v 11),(.v 12),(.v 13),(.v 14),(.v 15),(.v 16),(.v 17),(.v 22),(.v 24)] (.loop 2 [none,none] [(.c 0),(.v 25)] (.ite (.lt (.v 27) (.ln (.v 26))) (.asrt (.le (.c 0) (.v 27)) (.asrt (.le (.ln (.l2 .snoc (.v 28) (.l2 .cons (.l2 .at (.l2 .at (.v 26) (.v 27)) (.c 0)) (.l2 .cons (.l2 .at (.l2 .at (.v 26) (.v 27)) (.c 1)) (.l2 .cons (.l2 .at (.l2 .at (.v 26) (.v 27)) (.c 2)) (.l2 .cons (.l2 .at (.l2 .at (.v 26) (.v 27)) (.c 3)) (.l2 .cons (.l2 .at (.l2 .at (.v 26) (.v 27)) (.c 4)) (.l2 .cons (.l2 .at (.l2 .at (.v 26) (.v 27)) (.c 5)) (.l2 .cons (.l2 .at (.l2 .at (.v 26) (.v 27)) (.c 6)) (.l2 .cons (.l2 .at (.l2 .at (.v 26) (.v 27)) (.c 7)) (.l2 .cons (.l2 .at (.l2 .at (.v 26) (.v 27)) (.c 8)) (.l2 .cons (.l2 .at (.l2 .at (.v 26) (.v 27)) (.c 9)) (.l2 .cons (.l2 .at (.l2 .at (.v 26) (.v 27)) (.c 10)) (.l2 .cons (.l2 .at (.l2 .at (.v 26) (.v 27)) (.c 11)) (.l2 .cons (.l2 .at (.l2 .at (.v 26) (.v 27)) (.c 12)) (.l2 .cons (.l2 .at (.l2 .at (.v 26) (.v 27)) (.c 13)) (.l2 .cons (.l2 .at (.l2 .at (.v 26) (.v 27)) (.c 14)) (.l2 .cons (.l2 .at (.l2 .at (.v 0) (.v 22)) (.c 9)) (.l2 .cons (.v 22) (.l2 .cons (.v 24) (.l2 .cons (.v 27) (.l2 .cons (.c 0) (.l2 .cons (.c 0) .nl))))))))))))))))))))))) (.c 1000000)) (.back 2 [(.wr .i64 (.add (.v 27) (.c 1))),(.l2 .snoc (.v 28) (.l2 .cons (.l2 .at (.l2 .at (.v 26) (.v 27)) (.c 0)) (.l2 .cons (.l2 .at (.l2 .at (.v 26) (.v 27)) (.c 1)) (.l2 .cons (.l2 .at (.l2 .at (.v 26) (.v 27)) (.c 2)) (.l2 .cons (.l2 .at (.l2 .at (.v 26) (.v 27)) (.c 3)) (.l2 .cons (.l2 .at (.l2 .at (.v 26) (.v 27)) (.c 4)) (.l2 .cons (.l2 .at (.l2 .at (.v 26) (.v 27)) (.c 5)) (.l2 .cons (.l2 .at (.l2 .at (.v 26) (.v 27)) (.c 6)) (.l2 .cons (.l2 .at (.l2 .at (.v 26) (.v 27)) (.c 7)) (.l2 .cons (.l2 .at (.l2 .at (.v 26) (.v 27)) (.c 8)) (.l2 .cons (.l2 .at (.l2 .at (.v 26) (.v 27)) (.c 9)) (.l2 .cons (.l2 .at (.l2 .at (.v 26) (.v 27)) (.c 10)) (.l2 .cons (.l2 .at (.l2 .at (.v 26) (.v 27)) (.c 11)) (.l2 .cons (.l2 .at (.l2 .at (.v 26) (.v 27)) (.c 12)) (.l2 .cons (.l2 .at (.l2 .at (.v 26) (.v 27)) (.c 13)) (.l2 .cons (.l2 .at (.l2 .at (.v 26) (.v 27)) (.c 14)) (.l2 .cons (.l2 .at (.l2 .at (.v 0) (.v 22)) (.c 9)) (.l2 .cons (.v 22) (.l2 .cons (.v 24) (.l2 .cons (.v 27) (.l2 .cons (.c 0) (.l2 .cons (.c 0) .nl))))))))))))))))))))))])))
(.back 1 [(.wr .i64 (.add (.v 24) (.c 1))),(.v 28)]))))
(.back 0 [(.wr .i64 (.add (.v 22) (.c 1))),(.v 25)]))))
(.loop 2 [none,none] [(.c 0),.nl] (.ite (.le (.ln (.v 23)) (.v 24)) (.ret [(.v 25),(.c 0)])
(.asrt (.le (.c 0) (.v 24)) (.call 3 [(.l2 .at (.l2 .at (.v 23) (.v 24)) (.c 0)),(.l2 .at (.l2 .at (.v 23) (.v 24)) (.c 1)),(.l2 .at (.l2 .at (.v 23) (.v 24)) (.c 2)),(.l2 .at (.l2 .at (.v 23) (.v 24)) (.c 3)),(.l2 .at (.l2 .at (.v 23) (.v 24)) (.c 4)),(.l2 .at (.l2 .at (.v 23) (.v 24)) (.c 5)),(.l2 .at (.l2 .at (.v 23) (.v 24)) (.c 6)),(.l2 .at (.l2 .at (.v 23) (.v 24)) (.c 7)),(.l2 .at (.l2 .at (.v 23) (.v 24)) (.c 8)),(.l2 .at (.l2 .at (.v 23) (.v 24)) (.c 9)),(.l2 .at (.l2 .at (.v 23) (.v 24)) (.c 10)),(.l2 .at (.l2 .at (.v 23) (.v 24)) (.c 11)),(.l2 .at (.l2 .at (.v 23) (.v 24)) (.c 12)),(.l2 .at (.l2 .at (.v 23) (.v 24)) (.c 13)),(.l2 .at (.l2 .at (.v 23) (.v 24)) (.c 14)),(.v 18),(.v 19)] (.ite (.eq (.v 31) (.c 0)) (.asrt (.le (.ln (.l2 .snoc (.v 25) (.l2 .cons (.wr .i64 (.add (.l2 .at (.l2 .at (.v 23) (.v 24)) (.c 15)) (.v 28))) (.l2 .cons (.l2 .at (.l2 .at (.v 23) (.v 24)) (.c 16)) (.l2 .cons (.l2 .at (.l2 .at (.v 23) (.v 24)) (.c 17)) (.l2 .cons (.l2 .at (.l2 .at (.v 23) (.v 24)) (.c 18)) (.l2 .cons (.v 29) (.l2 .cons (.v 30) .nl)))))))) (.c 1000000)) (.back 1 [(.wr .i64 (.add (.v 24) (.c 1))),(.l2 .snoc (.v 25) (.l2 .cons (.wr .i64 (.add (.l2 .at (.l2 .at (.v 23) (.v 24)) (.c 15)) (.v 28))) (.l2 .cons (.l2 .at (.l2 .at (.v 23) (.v 24)) (.c 16)) (.l2 .cons (.l2 .at (.l2 .at (.v 23) (.v 24)) (.c 17)) (.l2 .cons (.l2 .at (.l2 .at (.v 23) (.v 24)) (.c 18)) (.l2 .cons (.v 29) (.l2 .cons (.v 30) .nl)))))))]))
(.back 1 [(.wr .i64 (.add (.v 24) (.c 1))),(.v 25)])))))))))))))
theorem Z11h:Z12 (Zr [] Z17z [] ([none,none]++zs 18) (Zq Tryz.prog (Z1j6 Tryz.prog [(3,17),(6,25),(9,34),(2,17)]) gl0 Zjf 1000 15 [Sho,An 16,I1,I1] [Frs,I1]))=Zun:=by kernel_rfl
theorem Z1je:Gok Tryz.prog Zjf:=(more Zrc (more Zis (more Zyb (fix.one Z173))))
theorem Z1jf:Zj Zjf Z17z:=(Z2 Zle (Z2 Zee (Z2 Z17y (Z2 Zxs Z8))))
theorem Zjg {b:Int} {i k:Nat} {P:List Int}:∀ n,(Z6a b i k P n).length=n
 | 0=>rfl
 | n + 1=>by rw [Z6a,List.length_append,Zjg n]; rfl
theorem Znw {l:List Int} {pt:Nat→Nat→List Int} {i:Nat} (h:∀ k,(pt i k).length≤6):∀ k,(Z1a5 l pt i k).length≤6 * k
 | 0=>Nat.le_refl _
 | k + 1=>by
  have:=Znw (l:=l) h k
  have:=h k
  rw [Z1a5,List.length_append,Zjg]
  omega
theorem Zjh {l:List Int} {pt:Nat→Nat→List Int} (h:∀ i k,(pt i k).length≤6) (ht:∀ i,i < l.length→(Z2y (l.getD i 0)).length≤64):∀ i,i≤l.length→(Zfg l pt i).length≤384 * i
 | 0,_=>Nat.le_refl _
 | i + 1,hi=>by
  have h1:=Zjh (l:=l) h ht i (by omega)
  have h2:=Znw (l:=l) (h i) (Z2y (l.getD i 0)).length
  have h3:=ht i (by omega)
  rw [Zfg,List.length_append]
  omega
set_option maxHeartbeats 2000000 in
theorem Z180 (I0 T0 c0 c1 c2 c3 c4 c5 c6 c7 c8 c9 c10 c11 c12 c13 c14 c15 x y E0 E1:Int) (l S:List Int) (pt:Nat→Nat→List Int) (at_:Int→List Int) (R:List Int) (ff:Int→Option Int) (hl:dec I0=l)
  (hE0:Zac.sem [I0,T0]=[E0]) (hp0:Zac.pre [I0,T0]) (hE1:Z4t.sem [c0,c1,c2,c3,c4,c5,c6,c7,c8,c9,c10,c11,c12,c13,c14,c15]=[E1])
  (hps:E0=0→E1=0→∀ i k:Nat,i < l.length→k < (Z2y (l.getD i 0)).length→Zet.pre [I0,T0,c0,c1,c2,c3,c4,c5,c6,c7,c8,c9,c10,c11,c12,c13,c14,c15,(i:Int),(k:Int)])
  (hpt:∀ i k:Nat,Zet.sem [I0,T0,c0,c1,c2,c3,c4,c5,c6,c7,c8,c9,c10,c11,c12,c13,c14,c15,(i:Int),(k:Int)]=[cod (pt i k)])
  (h6:∀ i k,(pt i k).length≤6) (h64:E0=0→l.length≤256∧∀ i,i < l.length→(Z2y (l.getD i 0)).length≤64)
  (hS:Zfg l pt l.length=S) (hat:∀ p,Zl9.sem [co p 0,co p 1,co p 2,co p 3,co p 4,co p 5,co p 6,co p 7,co p 8,co p 9,co p 10,co p 11,co p 12,co p 13,co p 14,x,y]=[(at_ p).getD 0 0,(at_ p).getD 1 0,(at_ p).getD 2 0,(at_ p).getD 3 0,(at_ p).getD 4 0,(at_ p).getD 5 0])
  (hpp:E0=0→E1=0→∀ p ∈ S,Zl9.pre [co p 0,co p 1,co p 2,co p 3,co p 4,co p 5,co p 6,co p 7,co p 8,co p 9,co p 10,co p 11,co p 12,co p 13,co p 14,x,y])
  (hff:∀ p,ff p=if (at_ p).getD 5 0=0 then some (cod [IntKind.i64.wrap (co p 15 + (at_ p).getD 2 0),co p 16,co p 17,co p 18,(at_ p).getD 3 0,(at_ p).getD 4 0]) else none)
  (hR0:¬ E0=0→R=[cod [],E0]) (hR1:E0=0→¬ E1=0→R=[cod [],E1]) (hR2:E0=0→E1=0→¬ (0≤x∧x < c14∧0≤y∧y < c15)→R=[cod [],2])
  (hR3:E0=0→E1=0→(0≤x∧x < c14∧0≤y∧y < c15)→R=[cod (S.filterMap ff),0]) :
  Zun.sat Zjf [] (fun ys=>ys=R) [] [I0,T0,c0,c1,c2,c3,c4,c5,c6,c7,c8,c9,c10,c11,c12,c13,c14,c15,x,y]:=by
 unfold Zun Zjf
 simp only [TX.sat,XB.prop]
 simp only [X.den,L2.den,TX.sat,XB.prop,X.den,Z1kk,Z1kl,Z1ke,Z1kf,Z1ki,Z1kj,Z1kg,Z1kh,mkS,mkP,and_true,true_and,Z1kp,Z1kq,not_or,not_and,Z1km,ne_eq,Z1kn,Z1ko]
 have hco:∀ x j,(dec x).getD j 0=co x j:=fun _ _=>rfl
 have hT:∀ b,dec (co (co b 2) 4)=Z2y b:=fun _=>rfl
 simp only [hl,hco,hT,hE0,hE1,TX.sat,XB.prop,X.den,Z1kk,Z1kl,Z1ke,Z1kf,Z1ki,Z1kj,Z1kg,Z1kh,mkS,mkP,and_true,true_and,Z1kp,Z1kq,not_or,not_and,Z1km,ne_eq,Z1kn,Z1ko]
 refine ⟨hp0,fun h0=>?_,fun h0=>⟨fun h1=>?_,fun h1=>⟨fun h2=>?_,fun h2=>?_⟩⟩⟩
 ·exact (hR0 h0).symm
 ·exact (hR1 h0 h1).symm
 ·exact (hR2 h0 h1 (by omega)).symm
 refine ⟨fun xs=>∃ i:Nat,xs.getD 0 0=(i:Int)∧i≤l.length∧dec (xs.getD 1 0)=Zfg l pt i∧cod (dec (xs.getD 1 0))=xs.getD 1 0,fun xs=>l.length - (xs.getD 0 0).toNat,fun xs hx _=>Zp (n:=2) hx,⟨0,rfl,by omega,Z37,by simp [Z3]⟩,?_⟩
 intro xs hx hI
 obtain ⟨d0,d1,rfl⟩:=Zdf hx
 obtain ⟨i,hi,hle,hd,hcd⟩:=hI
 simp only [TX.sat,XB.prop,X.den,Z1kk,Z1kl,Z1ke,Z1kf,Z1ki,Z1kj,Z1kg,Z1kh,mkS,mkP,and_true,true_and,Z1kp,Z1kq,not_or,not_and,Z1km,ne_eq,Z1kn,Z1ko] at hi hd hcd ⊢
 subst hi
 simp only [Int.toNat_natCast,hT,show Int.toNat 0=0 from rfl,show Int.toNat 1=1 from rfl,show Int.toNat 2=2 from rfl,show Int.toNat 3=3 from rfl,show Int.toNat 4=4 from rfl,show Int.toNat 5=5 from rfl,show Int.toNat 6=6 from rfl,show Int.toNat 7=7 from rfl,show Int.toNat 8=8 from rfl,show Int.toNat 9=9 from rfl,show Int.toNat 10=10 from rfl,show Int.toNat 11=11 from rfl,show Int.toNat 12=12 from rfl,show Int.toNat 13=13 from rfl,show Int.toNat 14=14 from rfl,show Int.toNat 15=15 from rfl,show Int.toNat 16=16 from rfl,show Int.toNat 17=17 from rfl,show Int.toNat 18=18 from rfl,show Int.toNat 19=19 from rfl,show Int.toNat 20=20 from rfl]
 obtain ⟨h256,h64'⟩:=h64 h0
 have hil:=Zjh (l:=l) h6 h64' i hle
 refine ⟨fun hlt=>⟨by omega,?_⟩,fun hge=>?_⟩
 ·refine ⟨fun xs=>∃ k:Nat,xs.getD 0 0=(k:Int)∧k≤(Z2y (l.getD i 0)).length∧dec (xs.getD 1 0)=Zfg l pt i++Z1a5 l pt i k∧cod (dec (xs.getD 1 0))=xs.getD 1 0,fun xs=>(Z2y (l.getD i 0)).length - (xs.getD 0 0).toNat,fun xs hx _=>Zp (n:=2) hx,⟨0,rfl,by omega,by rw [Z1a5,List.append_nil]; exact hd,hcd⟩,?_⟩
  intro ys hy hJ
  obtain ⟨e0,e1,rfl⟩:=Zdf hy
  obtain ⟨k,hk,hkl,hkd,hkc⟩:=hJ
  simp only [TX.sat,XB.prop,X.den,Z1kk,Z1kl,Z1ke,Z1kf,Z1ki,Z1kj,Z1kg,Z1kh,mkS,mkP,and_true,true_and,Z1kp,Z1kq,not_or,not_and,Z1km,ne_eq,Z1kn,Z1ko] at hk hkd hkc ⊢
  subst hk
  simp only [hpt,TX.sat,XB.prop,X.den,Z1kk,Z1kl,Z1ke,Z1kf,Z1ki,Z1kj,Z1kg,Z1kh,mkS,mkP,and_true,true_and,Z1kp,Z1kq,not_or,not_and,Z1km,ne_eq,Z1kn,Z1ko,Z3,Int.toNat_natCast]
  have hkt:=Znw (l:=l) (h6 i) k
  have ht64:=h64' i (by omega)
  refine ⟨fun hlt1=>⟨hps h0 h1 i k (by omega) (by omega),?_⟩,fun hge1=>?_⟩
  ·refine ⟨fun xs=>∃ n:Nat,xs.getD 0 0=(n:Int)∧n≤(pt i k).length∧dec (xs.getD 1 0)=Zfg l pt i++Z1a5 l pt i k++Z6a (l.getD i 0) i k (pt i k) n∧cod (dec (xs.getD 1 0))=xs.getD 1 0,fun xs=>(pt i k).length - (xs.getD 0 0).toNat,fun xs hx _=>Zp (n:=2) hx,⟨0,rfl,by omega,by rw [Z6a,List.append_nil]; exact hkd,hkc⟩,?_⟩
   intro zs hz hK
   obtain ⟨f0,f1,rfl⟩:=Zdf hz
   obtain ⟨n,hn,hnl,hnd,hnc⟩:=hK
   simp only [TX.sat,XB.prop,X.den,Z1kk,Z1kl,Z1ke,Z1kf,Z1ki,Z1kj,Z1kg,Z1kh,mkS,mkP,and_true,true_and,Z1kp,Z1kq,not_or,not_and,Z1km,ne_eq,Z1kn,Z1ko] at hn hnd hnc ⊢
   subst hn
   have hcp:∀ j,co (cod (pt i k)) j=(pt i k).getD j 0:=fun j=>by rw [← hco,Z3]
   simp only [TX.sat,XB.prop,X.den,Z1kk,Z1kl,Z1ke,Z1kf,Z1ki,Z1kj,Z1kg,Z1kh,mkS,mkP,and_true,true_and,Z1kp,Z1kq,not_or,not_and,Z1km,ne_eq,Z1kn,Z1ko,Z3,Int.toNat_natCast,hcp,show Int.toNat 0=0 from rfl,show Int.toNat 1=1 from rfl,show Int.toNat 2=2 from rfl,show Int.toNat 3=3 from rfl,show Int.toNat 4=4 from rfl,show Int.toNat 5=5 from rfl,show Int.toNat 6=6 from rfl,show Int.toNat 7=7 from rfl,show Int.toNat 8=8 from rfl,show Int.toNat 9=9 from rfl,show Int.toNat 10=10 from rfl,show Int.toNat 11=11 from rfl,show Int.toNat 12=12 from rfl,show Int.toNat 13=13 from rfl,show Int.toNat 14=14 from rfl,show Int.toNat 15=15 from rfl,show Int.toNat 16=16 from rfl,show Int.toNat 17=17 from rfl,show Int.toNat 18=18 from rfl,show Int.toNat 19=19 from rfl,show Int.toNat 20=20 from rfl]
   have h6':=h6 i k
   refine ⟨fun hlt2=>⟨by omega,?_,⟨n + 1,?_,by omega,?_⟩,?_⟩,fun hge2=>?_⟩
   ·rw [hnd,List.length_append,List.length_append,List.length_append,Zjg,List.length_singleton]
    omega
   ·rw [Zf (by omega) (by omega)]
    omega
   ·rw [hnd,Z6a,← List.append_assoc]
    rfl
   ·rw [Zf (by omega) (by omega)]
    omega
   ·have hnn:n=(pt i k).length:=by omega
    refine ⟨⟨k + 1,?_,by omega,?_,hnc⟩,?_⟩
    ·rw [Zf (by omega) (by omega)]
     omega
    ·rw [hnd,hnn,Z1a5,← List.append_assoc]
    ·rw [Zf (by omega) (by omega)]
     omega
  ·have hkk:k=(Z2y (l.getD i 0)).length:=by omega
   refine ⟨⟨i + 1,?_,by omega,?_,hkc⟩,?_⟩
   ·rw [Zf (by omega) (by omega)]
    omega
   ·rw [hkd,hkk,Zfg]
   ·rw [Zf (by omega) (by omega)]
    omega
 ·have hii:i=l.length:=by omega
  rw [hii] at hd
  rw [hd,hS]
  rw [hii] at hil
  rw [hS] at hil
  refine ⟨fun xs=>∃ m:Nat,xs.getD 0 0=(m:Int)∧m≤S.length∧dec (xs.getD 1 0)=(S.take m).filterMap ff∧cod (dec (xs.getD 1 0))=xs.getD 1 0,fun xs=>S.length - (xs.getD 0 0).toNat,fun xs hx _=>Zp (n:=2) hx,⟨0,rfl,by omega,Z37,by simp [Z3]⟩,?_⟩
  intro ys hy hJ
  obtain ⟨e0,e1,rfl⟩:=Zdf hy
  obtain ⟨m,hm,hml,hmd,hmc⟩:=hJ
  simp only [TX.sat,XB.prop,X.den,Z1kk,Z1kl,Z1ke,Z1kf,Z1ki,Z1kj,Z1kg,Z1kh,mkS,mkP,and_true,true_and,Z1kp,Z1kq,not_or,not_and,Z1km,ne_eq,Z1kn,Z1ko] at hm hmd hmc ⊢
  subst hm
  have hcS:∀ j,co d1 j=S.getD j 0:=fun j=>by rw [← hco,hd,hS]
  simp only [Int.toNat_natCast,hcS,show Int.toNat 0=0 from rfl,show Int.toNat 1=1 from rfl,show Int.toNat 2=2 from rfl,show Int.toNat 3=3 from rfl,show Int.toNat 4=4 from rfl,show Int.toNat 5=5 from rfl,show Int.toNat 6=6 from rfl,show Int.toNat 7=7 from rfl,show Int.toNat 8=8 from rfl,show Int.toNat 9=9 from rfl,show Int.toNat 10=10 from rfl,show Int.toNat 11=11 from rfl,show Int.toNat 12=12 from rfl,show Int.toNat 13=13 from rfl,show Int.toNat 14=14 from rfl,show Int.toNat 15=15 from rfl,show Int.toNat 16=16 from rfl,show Int.toNat 17=17 from rfl,show Int.toNat 18=18 from rfl,show Int.toNat 19=19 from rfl,show Int.toNat 20=20 from rfl]
  simp only [hat,TX.sat,XB.prop,X.den,Z1kk,Z1kl,Z1ke,Z1kf,Z1ki,Z1kj,Z1kg,Z1kh,mkS,mkP,and_true,true_and,Z1kp,Z1kq,not_or,not_and,Z1km,ne_eq,Z1kn,Z1ko,Z3]
  refine ⟨fun hge1=>?_,fun hlt1=>?_⟩
  ·have:m=S.length:=by omega
   rw [hR3 h0 h1 (by omega),← hmc,hmd,this,List.take_length]
  ·have hmS:m < S.length:=by omega
   have htake:S.take (m + 1)=S.take m++[S.getD m 0]:=by
    rw [List.take_succ_eq_append_getElem hmS]
    rw [show S.getD m 0=S[m] by simp [List.getD,hmS]]
   have hmem:S.getD m 0 ∈ S:=Z10 hmS
   have hw:IntKind.i64.wrap ((m:Int) + 1)=((m + 1:Nat):Int):=by rw [Zf (by omega) (by omega)]; omega
   have hfl:(dec e1).length≤m:=by
    rw [hmd]
    exact Nat.le_trans (List.length_filterMap_le _ _) (List.length_take_le _ _)
   have hfm:=hff (S.getD m 0)
   refine ⟨by omega,hpp h0 h1 _ hmem,fun hz=>⟨?_,⟨m + 1,hw,by omega,?_⟩,?_⟩,fun hz=>⟨⟨m + 1,hw,by omega,?_,hmc⟩,?_⟩⟩
   ·rw [List.length_append,List.length_singleton]
    omega
   ·rw [if_pos hz] at hfm
    rw [htake,List.filterMap_append,hmd]
    simp only [List.filterMap_cons,hfm,List.filterMap_nil]
   ·rw [hw,Int.toNat_natCast]
    omega
   ·rw [if_neg hz] at hfm
    rw [htake,List.filterMap_append,hmd]
    simp only [List.filterMap_cons,hfm,List.filterMap_nil,List.append_nil]
   ·rw [hw,Int.toNat_natCast]
    omega
end Go.Proofs.YtgcoidbaoigkeaaGreatDoor.fix
namespace Go.Proofs.YtgcoidbaoigkeaaGreatDoor.fix
open Go.RowKit Go.Sx
theorem Znx {l:List Int} {p:Int} (h:p ∈ l):∃ m,m < l.length∧p=l.getD m 0:=by
 obtain ⟨m,hm,e⟩:=List.getElem_of_mem h
 exact ⟨m,hm,by rw [← e]; simp [List.getD,hm]⟩
theorem Zrd {b p:Int} {i k:Nat} {P:List Int}:∀ {n},p ∈ Z6a b i k P n→∃ m,m < n∧p=Zra b i k m (P.getD m 0)
 | 0,h=>by cases h
 | n + 1,h=>by
  rw [Z6a,List.mem_append,List.mem_singleton] at h
  rcases h with h | h
  ·obtain ⟨m,hm,e⟩:=Zrd h
   exact ⟨m,by omega,e⟩
  ·exact ⟨n,by omega,h⟩
theorem Zyc {l:List Int} {pt:Nat→Nat→List Int} {i:Nat} {p:Int}:∀ {n},p ∈ Z1a5 l pt i n→∃ k m,k < n∧m < (pt i k).length∧p=Zra (l.getD i 0) i k m ((pt i k).getD m 0)
 | 0,h=>by cases h
 | n + 1,h=>by
  rw [Z1a5,List.mem_append] at h
  rcases h with h | h
  ·obtain ⟨k,m,hk,hm,e⟩:=Zyc h
   exact ⟨k,m,by omega,hm,e⟩
  ·obtain ⟨m,hm,e⟩:=Zrd h
   exact ⟨n,m,by omega,hm,e⟩
theorem Zji {l:List Int} {pt:Nat→Nat→List Int} {p:Int}:∀ {n},p ∈ Zfg l pt n→∃ i k m,i < n∧k < (Z2y (l.getD i 0)).length∧m < (pt i k).length∧p=Zra (l.getD i 0) i k m ((pt i k).getD m 0)
 | 0,h=>by cases h
 | n + 1,h=>by
  rw [Zfg,List.mem_append] at h
  rcases h with h | h
  ·obtain ⟨i,k,m,hi,hk,hm,e⟩:=Zji h
   exact ⟨i,k,m,by omega,hk,hm,e⟩
  ·obtain ⟨k,m,hk,hm,e⟩:=Zyc h
   exact ⟨n,k,m,by omega,hk,hm,e⟩
theorem Z181 (b:Int) (i k n:Nat) (p:Int):Z2a (Zra b i k n p)=Z2a p:=by
 unfold Zra
 generalize hq:Z2a p=q
 have hl:q.length=15:=by rw [← hq]; rfl
 obtain ⟨q0,q1,q2,q3,q4,q5,q6,q7,q8,q9,q10,q11,q12,q13,q14,rfl⟩:=Z1bl hl
 unfold Z2a co
 rw [Z3]
 rfl
theorem Z182 (b:Int) (i k n:Nat) (p:Int):co (Zra b i k n p) 16=(i:Int):=by
 unfold Zra co
 rw [Z3]
 rfl
theorem Z1jg (l:List Int):Z2a (cod (Zff l))=Zff l:=by
 unfold Z2a co
 rw [Z3]
 rfl
theorem Z23 {a c x:Int} (h:Ze (iv a c) x) (h1:-9223372036854775808≤a) (h2:c≤9223372036854775807):Ze zz x:=⟨Int.le_trans h1 h.1,Int.le_trans h.2 h2⟩
theorem Zny {c0 c1 c2 c3 c4 c5 c6 c7 c8 c9 c10 c11 c12 c13 c14 c15 l0 l1 l2 l3 l4:Int} (hv:Z17 (zs 16) [c0,c1,c2,c3,c4,c5,c6,c7,c8,c9,c10,c11,c12,c13,c14,c15]) (h:Z17 (zs 5) [l0,l1,l2,l3,l4]):Z17 (zs 5) (five (Z6w [c0,c1,c2,c3,c4,c5,c6,c7,c8,c9,c10,c11,c12,c13,c14,c15,l0,l1,l2,l3,l4])):=by
 have p:Z69.pre ([c0,c1,c2,c3,c4,c5,c6,c7,c8,c9,c10,c11,c12,c13,c14,c15]++[l0,l1,l2,l3,l4]):=Z1n hv h
 have o:=Z9b.2 Z5l _ p p
 exact Z1 (Z23 (o.2 0) (by decide) (by decide)) (Z1 (Z23 (o.2 1) (by decide) (by decide)) (Z1 (Z23 (o.2 2) (by decide) (by decide)) (Z1 (Z23 (o.2 3) (by decide) (by decide)) (Z1 (Z23 (o.2 4) (by decide) (by decide)) Z4))))
theorem Z1jh {c0 c1 c2 c3 c4 c5 c6 c7 c8 c9 c10 c11 c12 c13 c14 c15 lq:Int} (hv:Z17 (zs 16) [c0,c1,c2,c3,c4,c5,c6,c7,c8,c9,c10,c11,c12,c13,c14,c15]) (he:Z17 (zs 15) [co lq 0,co lq 1,co lq 2,co lq 3,co lq 4,co lq 5,co lq 6,co lq 7,co lq 8,co lq 9,co lq 10,co lq 11,co lq 12,co lq 13,co lq 14]):Z17 (zs 15) (Zr7 [c0,c1,c2,c3,c4,c5,c6,c7,c8,c9,c10,c11,c12,c13,c14,c15] lq):=by
 have h0:=Zny (l0:=co lq 0) (l1:=co lq 1) (l2:=co lq 2) (l3:=co lq 3) (l4:=co lq 4) hv (Z1 (he.2 0) (Z1 (he.2 1) (Z1 (he.2 2) (Z1 (he.2 3) (Z1 (he.2 4) Z4)))))
 have h5:=Zny (l0:=co lq 5) (l1:=co lq 6) (l2:=co lq 7) (l3:=co lq 8) (l4:=co lq 9) hv (Z1 (he.2 5) (Z1 (he.2 6) (Z1 (he.2 7) (Z1 (he.2 8) (Z1 (he.2 9) Z4)))))
 have h10:=Zny (l0:=co lq 10) (l1:=co lq 11) (l2:=co lq 12) (l3:=co lq 13) (l4:=co lq 14) hv (Z1 (he.2 10) (Z1 (he.2 11) (Z1 (he.2 12) (Z1 (he.2 13) (Z1 (he.2 14) Z4)))))
 exact Z1n h0 (Z1n h5 h10)
theorem Z1dy {s:List Int} (h:Z17 (zs 15) s):Z17 (zs 15) (Zff (Z83 s)):=by
 have o:=Zr2.2 Zcu _ h h
 exact Z1 (Z23 (o.2 0) (by decide) (by decide)) (Z1 (Z23 (o.2 1) (by decide) (by decide)) (Z1 (Z23 (o.2 2) (by decide) (by decide)) (Z1 (Z23 (o.2 3) (by decide) (by decide)) (Z1 (Z23 (o.2 4) (by decide) (by decide)) (Z1 (Z23 (o.2 5) (by decide) (by decide)) (Z1 (Z23 (o.2 6) (by decide) (by decide)) (Z1 (Z23 (o.2 7) (by decide) (by decide)) (Z1 (Z23 (o.2 8) (by decide) (by decide)) (Z1 (Z23 (o.2 9) (by decide) (by decide)) (Z1 (Z23 (o.2 10) (by decide) (by decide)) (Z1 (Z23 (o.2 11) (by decide) (by decide)) (Z1 (Z23 (o.2 12) (by decide) (by decide)) (Z1 (Z23 (o.2 13) (by decide) (by decide)) (Z1 (Z23 (o.2 14) (by decide) (by decide)) Z4))))))))))))))
theorem Z1dz {c0 c1 c2 c3 c4 c5 c6 c7 c8 c9 c10 c11 c12 c13 c14 c15 b t q:Int} (hv:Z17 (zs 16) [c0,c1,c2,c3,c4,c5,c6,c7,c8,c9,c10,c11,c12,c13,c14,c15]) (hn:Z17 (zs 16) (c13::Zjv [c0,c1,c2,c3,c4,c5,c6,c7,c8,c9,c10,c11,c12,c13,c14,c15] b t)) (h:q ∈ Zar [c0,c1,c2,c3,c4,c5,c6,c7,c8,c9,c10,c11,c12,c13,c14,c15] b t):Z17 (zs 15) (Z2a q):=by
 unfold Zar at h
 obtain ⟨lq,hl,hp⟩:=List.mem_filterMap.1 h
 unfold Zug at hp
 split at hp
 ·simp only [Option.some.injEq] at hp
  have e:Z2a q=Zff (Z83 (Zr7 [c0,c1,c2,c3,c4,c5,c6,c7,c8,c9,c10,c11,c12,c13,c14,c15] lq)):=by
   rw [← hp]
   unfold Z2a co
   rw [Z3]
   rfl
  rw [e]
  exact Z1dy (Z1jh hv (Z17w (x:=c13::Zjv [c0,c1,c2,c3,c4,c5,c6,c7,c8,c9,c10,c11,c12,c13,c14,c15] b t) rfl hn lq hl))
 ·cases hp
theorem Zre {c0 c1 c2 c3 c4 c5 c6 c7 c8 c9 c10 c11 c12 c13 c14 c15 b t:Int}:(Zar [c0,c1,c2,c3,c4,c5,c6,c7,c8,c9,c10,c11,c12,c13,c14,c15] b t).length≤6:=by
 unfold Zar
 exact Nat.le_trans (List.length_filterMap_le _ _) (Zd1 (x:=c13::Zjv [c0,c1,c2,c3,c4,c5,c6,c7,c8,c9,c10,c11,c12,c13,c14,c15] b t) rfl).1
theorem Z1e0 {l:List Int} {pt:Nat→Nat→List Int} (h:∀ i k,i < l.length→k < (Z2y (l.getD i 0)).length→∀ q ∈ pt i k,Z17 (zs 15) (Z2a q)):∀ p ∈ Zfg l pt l.length,Z17 (zs 15) (Z2a p):=by
 intro p hp
 obtain ⟨i,k,m,hi,hk,hm,rfl⟩:=Zji hp
 rw [Z181]
 exact h i k hi hk _ (Z10 hm)
set_option maxHeartbeats 1000000 in
theorem Z1e1:Zbj.ok Tryz.prog:=Sum.okPF (pin:=Zrb) facts.mixed Z1je Z1jf Z11h rfl (fun _=>rfl) (fun xs h=>h.1) (by
 intro xs hx hp
 obtain ⟨I,T,c0,c1,c2,c3,c4,c5,c6,c7,c8,c9,c10,c11,c12,c13,c14,c15,x,y,rfl⟩:=Z1hr hx
 obtain ⟨hv,hr⟩:=hp
 replace hr:Zk7 (dec I) (dec T):=hr
 have hv16:Z17 (zs 16) [c0,c1,c2,c3,c4,c5,c6,c7,c8,c9,c10,c11,c12,c13,c14,c15]:=Z1 (hv.2 2) (Z1 (hv.2 3) (Z1 (hv.2 4) (Z1 (hv.2 5) (Z1 (hv.2 6) (Z1 (hv.2 7) (Z1 (hv.2 8) (Z1 (hv.2 9) (Z1 (hv.2 10) (Z1 (hv.2 11) (Z1 (hv.2 12) (Z1 (hv.2 13) (Z1 (hv.2 14) (Z1 (hv.2 15) (Z1 (hv.2 16) (Z1 (hv.2 17) Z4)))))))))))))))
 have hfr:∀ e,frE [I,T,c0,c1,c2,c3,c4,c5,c6,c7,c8,c9,c10,c11,c12,c13,c14,c15,x,y]=e→Z9d [I,T,c0,c1,c2,c3,c4,c5,c6,c7,c8,c9,c10,c11,c12,c13,c14,c15,x,y]=[if e=0 then cod (Zfa (dec I) [c0,c1,c2,c3,c4,c5,c6,c7,c8,c9,c10,c11,c12,c13,c14,c15] x y) else cod [],e]:=fun e h=>by
  unfold Z9d
  rw [h]
  rfl
 have hE:frE [I,T,c0,c1,c2,c3,c4,c5,c6,c7,c8,c9,c10,c11,c12,c13,c14,c15,x,y]=if Z4v [I,T]=0 then (if Z2o [c0,c1,c2,c3,c4,c5,c6,c7,c8,c9,c10,c11,c12,c13,c14,c15] 0=true then (if 0≤x∧x < c14∧0≤y∧y < c15 then 0 else 2) else 150) else Z4v [I,T]:=rfl
 have hcam:er (Z2o [c0,c1,c2,c3,c4,c5,c6,c7,c8,c9,c10,c11,c12,c13,c14,c15] 0) 150=0↔Z2o [c0,c1,c2,c3,c4,c5,c6,c7,c8,c9,c10,c11,c12,c13,c14,c15] 0=true:=Ztj _ (by decide)
 have htri:Z4v [I,T]=0→∀ i k:Nat,i < (dec I).length→k < (Z2y ((dec I).getD i 0)).length→Z17 (zs 16) (c13::Zjv [c0,c1,c2,c3,c4,c5,c6,c7,c8,c9,c10,c11,c12,c13,c14,c15] ((dec I).getD i 0) ((Z2y ((dec I).getD i 0)).getD k 0)):=by
  intro h0 i k hi hk
  have hmem:(dec I).getD i 0 ∈ dec I:=Z10 hi
  have hrb:=hr.1 _ hmem
  have hmb:=Zjd ((Z38 h0).2.2.2 _ hmem)
  have htn:=hmb.2.2.2.1 _ (Z10 hk)
  simp only [Z17f,decide_eq_true_iff] at htn
  exact Z17x hv16 hrb.2.1 hrb.2.2.1 hmb.1.2.1 htn
 exact Z180 I T c0 c1 c2 c3 c4 c5 c6 c7 c8 c9 c10 c11 c12 c13 c14 c15 x y (Z4v [I,T]) (er (Z2o [c0,c1,c2,c3,c4,c5,c6,c7,c8,c9,c10,c11,c12,c13,c14,c15] 0) 150) (dec I) (Zy1 (dec I) [c0,c1,c2,c3,c4,c5,c6,c7,c8,c9,c10,c11,c12,c13,c14,c15]) (ptS (dec I) [c0,c1,c2,c3,c4,c5,c6,c7,c8,c9,c10,c11,c12,c13,c14,c15]) (fun p=>atL (Z2a p++[x,y])) _ (Z17l x y) rfl rfl ⟨Zp (n:=2) rfl,hr⟩ rfl
  (fun h0 h1 i k hi hk=>⟨Z1 trivial (Z1 trivial (Z1n hv16 (Z1 (zc _ (by omega) (by have:=(Z38 h0).1; omega)) (Z1 (zc _ (by omega) (by
   have:=(Zjd ((Z38 h0).2.2.2 _ (Z10 hi))).1.2.2; omega)) Z4)))),hr,⟨by show (0:Int)≤(i:Int); omega,by show (i:Int) < _; exact Int.ofNat_lt.2 hi,by show (0:Int)≤(k:Int); omega,by show (k:Int) < _; exact Int.ofNat_lt.2 hk⟩,h0,hcam.1 h1⟩)
  (fun i k=>rfl) (fun i k=>Zre) (fun h0=>⟨(Z38 h0).1,fun i hi=>(Zjd ((Z38 h0).2.2.2 _ (Z10 hi))).1.2.2⟩) rfl (fun p=>rfl)
  (fun h0 h1 p hp=>by
   have h15:Z17 (zs 15) (Z2a p):=Z1e0 (pt:=ptS (dec I) [c0,c1,c2,c3,c4,c5,c6,c7,c8,c9,c10,c11,c12,c13,c14,c15]) (fun i k hi hk q hq=>Z1dz hv16 (htri h0 i k hi hk) hq) p hp
   exact Z1n h15 (Z1 (hv.2 18) (Z1 (hv.2 19) Z4)))
  (fun p=>rfl)
  (fun h0=>by rw [hfr _ hE,if_neg h0,if_neg h0])
  (fun h0 h1=>by
   have h1':¬ Z2o [c0,c1,c2,c3,c4,c5,c6,c7,c8,c9,c10,c11,c12,c13,c14,c15] 0=true:=fun h=>h1 (hcam.2 h)
   rw [hfr _ hE,if_pos h0,if_neg h1',if_neg (by decide)]
   cases hb:Z2o [c0,c1,c2,c3,c4,c5,c6,c7,c8,c9,c10,c11,c12,c13,c14,c15] 0 with
   | true=>exact absurd hb h1'
   | false=>rfl)
  (fun h0 h1 h2=>by rw [hfr _ hE,if_pos h0,if_pos (hcam.1 h1),if_neg h2,if_neg (by decide)])
  (fun h0 h1 h2=>by rw [hfr _ hE,if_pos h0,if_pos (hcam.1 h1),if_pos h2,if_pos rfl]; rfl))
theorem Z183:Z1g Zbj Z17o:=⟨fun xs h=>(Z1a xs h).elim,fun vs xs h hp=>Z1 trivial (Z1 (by
  show Ze (iv 0 150) (frE _)
  have h0:=(Zle.2 [none,none] [xs.getD 0 0,xs.getD 1 0] (Zp (n:=2) rfl) ⟨Zp (n:=2) rfl,hp.2⟩).2 0
  have h1:Ze (iv 0 8) (Z4v xs):=h0
  unfold frE
  split
  ·split
   ·split
    ·exact ⟨by decide,by decide⟩
    ·exact ⟨by decide,by decide⟩
   ·exact ⟨by decide,by decide⟩
  ·exact ⟨h1.1,Int.le_trans h1.2 (by decide)⟩) Z4)⟩
end Go.Proofs.YtgcoidbaoigkeaaGreatDoor.fix
namespace Go.Proofs.YtgcoidbaoigkeaaGreatDoor.fix
open Go.RowKit Go.Sx
theorem Z1e2 (x:List Int):wgt x 5 10 15 * x.getD 0 0 + wgt x 10 0 15 * x.getD 5 0 + wgt x 0 5 15 * x.getD 10 0=Zz x * (8 * x.getD 15 0 + 4):=by
 simp only [wgt,Zz,Nat.reduceAdd,Nat.zero_add]
 grind
theorem Z1e3 (x:List Int):wgt x 5 10 15 * x.getD 1 0 + wgt x 10 0 15 * x.getD 6 0 + wgt x 0 5 15 * x.getD 11 0=Zz x * (8 * x.getD 16 0 + 4):=by
 simp only [wgt,Zz,Nat.reduceAdd,Nat.zero_add]
 grind
def Z4w (p a b c:Int):Prop:=(a≤p∨b≤p∨c≤p)∧(p≤a∨p≤b∨p≤c)
theorem mid_x {x:List Int} (hT:0 < Zz x) (h:Zrz x=true):Z4w (8 * x.getD 15 0 + 4) (x.getD 0 0) (x.getD 5 0) (x.getD 10 0):=by
 obtain ⟨w0,w1,w2⟩:=Zgj h
 have k:=Znl w0 w1 w2 (d0:=x.getD 0 0) (d1:=x.getD 5 0) (d2:=x.getD 10 0) (m:=min (x.getD 0 0) (min (x.getD 5 0) (x.getD 10 0))) (n:=max (x.getD 0 0) (max (x.getD 5 0) (x.getD 10 0))) (by omega) (by omega) (by omega)
 rw [Z1d7,Z1e2] at k
 have a:=Int.le_of_mul_le_mul_left k.1 hT
 have b:=Int.le_of_mul_le_mul_left k.2 hT
 unfold Z4w
 omega
theorem mid_y {x:List Int} (hT:0 < Zz x) (h:Zrz x=true):Z4w (8 * x.getD 16 0 + 4) (x.getD 1 0) (x.getD 6 0) (x.getD 11 0):=by
 obtain ⟨w0,w1,w2⟩:=Zgj h
 have k:=Znl w0 w1 w2 (d0:=x.getD 1 0) (d1:=x.getD 6 0) (d2:=x.getD 11 0) (m:=min (x.getD 1 0) (min (x.getD 6 0) (x.getD 11 0))) (n:=max (x.getD 1 0) (max (x.getD 6 0) (x.getD 11 0))) (by omega) (by omega) (by omega)
 rw [Z1d7,Z1e3] at k
 have a:=Int.le_of_mul_le_mul_left k.1 hT
 have b:=Int.le_of_mul_le_mul_left k.2 hT
 unfold Z4w
 omega
theorem at_ok {x:List Int} (h:(atL x).getD 5 0=0):0 < Zz x∧Zrz x=true∧pixB x 15=true:=by
 unfold atL at h
 by_cases he:(Z3l x).getD 3 0=0
 ·rw [if_pos he] at h
  by_cases hh:Zrz x=true
  ·obtain ⟨_,h1,h2,_⟩:=Zgh he
   exact ⟨h1,hh,h2⟩
  ·rw [if_neg hh] at h
   exact absurd h (by decide)
 ·rw [if_neg he] at h
  exact absurd h he
theorem Z184 {s:List Int} {px py:Int} (h:(atL (Zff (Z83 s)++[px,py])).getD 5 0=0) :
  Z8g s=true∧Z4w (8 * px + 4) (s.getD 0 0) (s.getD 5 0) (s.getD 10 0)∧Z4w (8 * py + 4) (s.getD 1 0) (s.getD 6 0) (s.getD 11 0):=by
 obtain ⟨h1,h2,_⟩:=at_ok h
 have hx:=mid_x h1 h2
 have hy:=mid_y h1 h2
 clear h h2
 unfold Z83 at hx hy h1
 by_cases ht:Z8g s=true
 ·rw [if_pos ht] at hx hy h1
  by_cases h0:Zz s=0
  ·rw [if_pos h0] at h1
   exact absurd h1 (by simp [Zz,Zff,z16])
  ·rw [if_neg h0] at hx hy h1
   clear h1
   by_cases hn:Zz s < 0
   ·rw [if_pos hn] at hx hy
    simp only [Zff,Z110,Z1ki,Z1kj,TX.sat,XB.prop,X.den,Z1kk,Z1kl,Z1ke,Z1kf,Z1ki,Z1kj,Z1kg,Z1kh,mkS,mkP,and_true,true_and,Z1kp,Z1kq,not_or,not_and,Z1km,ne_eq,Z1kn,Z1ko] at hx hy
    unfold Z4w at hx hy ⊢
    exact ⟨ht,⟨by omega,by omega⟩,by omega,by omega⟩
   ·rw [if_neg hn] at hx hy
    simp only [Zff,idT,Z1ki,Z1kj,TX.sat,XB.prop,X.den,Z1kk,Z1kl,Z1ke,Z1kf,Z1ki,Z1kj,Z1kg,Z1kh,mkS,mkP,and_true,true_and,Z1kp,Z1kq,not_or,not_and,Z1km,ne_eq,Z1kn,Z1ko] at hx hy
    exact ⟨ht,hx,hy⟩
 ·rw [if_neg ht] at h1
  exact absurd h1 (by simp [Zz,Zff,z16])
theorem Znz {c0 c1 c2 c3 c4 c5 c6 c7 c8 c9 c10 c11 c12 c13 c14 c15 u0 u1 u2 u3 u4:Int} (h:1≤(Z6w [c0,c1,c2,c3,c4,c5,c6,c7,c8,c9,c10,c11,c12,c13,c14,c15,u0,u1,u2,u3,u4]).getD 2 0):c13≤u2 ∧
  (Z6w [c0,c1,c2,c3,c4,c5,c6,c7,c8,c9,c10,c11,c12,c13,c14,c15,u0,u1,u2,u3,u4]).getD 0 0=8 * c12 * u0 / u2 + 4 * c14∧(Z6w [c0,c1,c2,c3,c4,c5,c6,c7,c8,c9,c10,c11,c12,c13,c14,c15,u0,u1,u2,u3,u4]).getD 1 0=4 * c15 - 8 * c12 * u1 / u2:=by
 unfold Z6w at h ⊢
 split at h
 ·rename_i k1
  rw [if_pos k1]
  split at h
  ·rename_i k2
   rw [if_pos k2]
   split at h
   ·exact absurd h (by decide)
   ·rename_i k3
    rw [if_neg k3]
    simp only [TX.sat,XB.prop,X.den,Z1kk,Z1kl,Z1ke,Z1kf,Z1ki,Z1kj,Z1kg,Z1kh,mkS,mkP,and_true,true_and,Z1kp,Z1kq,not_or,not_and,Z1km,ne_eq,Z1kn,Z1ko] at k3 ⊢
    omega
  ·exact absurd h (by decide)
 ·exact absurd h (by decide)
def inV (b:List Int) (v:Int):Prop:=(b.getD 0 0≤co v 0∧co v 0≤b.getD 3 0)∧(b.getD 1 0≤co v 1∧co v 1≤b.getD 4 0)∧(b.getD 2 0≤co v 2∧co v 2≤b.getD 5 0)
theorem Zuo:∀ (l b:List Int),(∀ v,inV b v→inV (l.foldl Zen b) v)∧∀ v ∈ l,inV (l.foldl Zen b) v
 | [],b=>⟨fun v h=>h,fun v h=>by cases h⟩
 | x::l,b=>by
  obtain ⟨h1,h2⟩:=Zuo l (Zen b x)
  rw [List.foldl_cons]
  refine ⟨fun v hv=>h1 v ?_,fun v hv=>?_⟩
  ·unfold inV Zen at *
   simp only [TX.sat,XB.prop,X.den,Z1kk,Z1kl,Z1ke,Z1kf,Z1ki,Z1kj,Z1kg,Z1kh,mkS,mkP,and_true,true_and,Z1kp,Z1kq,not_or,not_and,Z1km,ne_eq,Z1kn,Z1ko]
   omega
  ·rcases List.mem_cons.1 hv with rfl | hv
   ·refine h1 v ?_
    unfold inV Zen
    simp only [TX.sat,XB.prop,X.den,Z1kk,Z1kl,Z1ke,Z1kf,Z1ki,Z1kj,Z1kg,Z1kh,mkS,mkP,and_true,true_and,Z1kp,Z1kq,not_or,not_and,Z1km,ne_eq,Z1kn,Z1ko]
    omega
   ·exact h2 v hv
theorem Z185 {l:List Int}:∀ v ∈ l,inV (Z3b l) v:=by
 cases l with
 | nil=>intro v h; cases h
 | cons x l =>
  intro v hv
  unfold Z3b
  rcases List.mem_cons.1 hv with rfl | hv
  ·refine (Zuo l _).1 v ?_
   unfold inV boxV
   simp only [TX.sat,XB.prop,X.den,Z1kk,Z1kl,Z1ke,Z1kf,Z1ki,Z1kj,Z1kg,Z1kh,mkS,mkP,and_true,true_and,Z1kp,Z1kq,not_or,not_and,Z1km,ne_eq,Z1kn,Z1ko]
   omega
  ·exact (Zuo l _).2 v hv
def Zup (b:List Int):Prop:=((-4096≤b.getD 0 0∧b.getD 0 0≤b.getD 3 0∧b.getD 3 0≤4096)∧(-4096≤b.getD 1 0∧b.getD 1 0≤b.getD 4 0∧b.getD 4 0≤4096)∧(-4096≤b.getD 2 0∧b.getD 2 0≤b.getD 5 0∧b.getD 5 0≤4096))
theorem Zuq {v:Int}:okW v=true↔((-4096≤co v 0∧co v 0≤4096)∧(-4096≤co v 1∧co v 1≤4096)∧(-4096≤co v 2∧co v 2≤4096)):=by
 unfold okW
 rw [Zd]
 simp only [TX.sat,XB.prop,X.den,Z1kk,Z1kl,Z1ke,Z1kf,Z1ki,Z1kj,Z1kg,Z1kh,mkS,mkP,and_true,true_and,Z1kp,Z1kq,not_or,not_and,Z1km,ne_eq,Z1kn,Z1ko,Nat.zero_add,Nat.reduceAdd]
theorem Zrf:∀ (l b:List Int),Zup b→(∀ v ∈ l,okW v=true)→Zup (l.foldl Zen b)
 | [],b,h,_=>h
 | x::l,b,h,hl=>by
  rw [List.foldl_cons]
  refine Zrf l _ ?_ fun v hv=>hl v (List.mem_cons_of_mem _ hv)
  have hx:=Zuq.1 (hl x (List.mem_cons_self ..))
  unfold Zup Zen at *
  simp only [TX.sat,XB.prop,X.den,Z1kk,Z1kl,Z1ke,Z1kf,Z1ki,Z1kj,Z1kg,Z1kh,mkS,mkP,and_true,true_and,Z1kp,Z1kq,not_or,not_and,Z1km,ne_eq,Z1kn,Z1ko]
  omega
theorem Z11i {l:List Int} (h:∀ v ∈ l,okW v=true):Zup (Z3b l):=by
 cases l with
 | nil=>unfold Zup Z3b; simp
 | cons x l =>
  unfold Z3b
  refine Zrf l _ ?_ fun v hv=>h v (List.mem_cons_of_mem _ hv)
  have hx:=Zuq.1 (h x (List.mem_cons_self ..))
  unfold Zup boxV
  simp only [TX.sat,XB.prop,X.den,Z1kk,Z1kl,Z1ke,Z1kf,Z1ki,Z1kj,Z1kg,Z1kh,mkS,mkP,and_true,true_and,Z1kp,Z1kq,not_or,not_and,Z1km,ne_eq,Z1kn,Z1ko]
  omega
theorem Z1ji {c0 c1 c2 c3 c4 c5 c6 c7 c8 c9 c10 c11 c12 c13 c14 c15 b0 b1 b2 b3 b4 b5 w0 w1 w2 w3 v0 v1 v2:Int} (hc:Z2o [c0,c1,c2,c3,c4,c5,c6,c7,c8,c9,c10,c11,c12,c13,c14,c15,b0,b1,b2,b3,b4,b5,w0,w1,w2,w3] 0=true) (hv:(-4096≤v0∧v0≤4096)∧(-4096≤v1∧v1≤4096)∧(-4096≤v2∧v2≤4096))
  (h0:b0≤v0∧v0≤b3) (h1:b1≤v1∧v1≤b4) (h2:b2≤v2∧v2≤b5) :
  (vw [c0,c1,c2,c3,c4,c5,c6,c7,c8,c9,c10,c11,c12,c13,c14,c15,b0,b1,b2,b3,b4,b5,w0,w1,w2,w3] 0≤(Z89 [c0,c1,c2,c3,c4,c5,c6,c7,c8,c9,c10,c11,c12,c13,c14,c15,v0,v1,v2]).getD 0 0∧(Z89 [c0,c1,c2,c3,c4,c5,c6,c7,c8,c9,c10,c11,c12,c13,c14,c15,v0,v1,v2]).getD 0 0≤vw [c0,c1,c2,c3,c4,c5,c6,c7,c8,c9,c10,c11,c12,c13,c14,c15,b0,b1,b2,b3,b4,b5,w0,w1,w2,w3] 3) ∧
  (vw [c0,c1,c2,c3,c4,c5,c6,c7,c8,c9,c10,c11,c12,c13,c14,c15,b0,b1,b2,b3,b4,b5,w0,w1,w2,w3] 1≤(Z89 [c0,c1,c2,c3,c4,c5,c6,c7,c8,c9,c10,c11,c12,c13,c14,c15,v0,v1,v2]).getD 1 0∧(Z89 [c0,c1,c2,c3,c4,c5,c6,c7,c8,c9,c10,c11,c12,c13,c14,c15,v0,v1,v2]).getD 1 0≤vw [c0,c1,c2,c3,c4,c5,c6,c7,c8,c9,c10,c11,c12,c13,c14,c15,b0,b1,b2,b3,b4,b5,w0,w1,w2,w3] 4) ∧
  (vw [c0,c1,c2,c3,c4,c5,c6,c7,c8,c9,c10,c11,c12,c13,c14,c15,b0,b1,b2,b3,b4,b5,w0,w1,w2,w3] 2≤(Z89 [c0,c1,c2,c3,c4,c5,c6,c7,c8,c9,c10,c11,c12,c13,c14,c15,v0,v1,v2]).getD 2 0∧(Z89 [c0,c1,c2,c3,c4,c5,c6,c7,c8,c9,c10,c11,c12,c13,c14,c15,v0,v1,v2]).getD 2 0≤vw [c0,c1,c2,c3,c4,c5,c6,c7,c8,c9,c10,c11,c12,c13,c14,c15,b0,b1,b2,b3,b4,b5,w0,w1,w2,w3] 5):=by
 have e1:Z2o [c0,c1,c2,c3,c4,c5,c6,c7,c8,c9,c10,c11,c12,c13,c14,c15,v0,v1,v2] 0=Z2o [c0,c1,c2,c3,c4,c5,c6,c7,c8,c9,c10,c11,c12,c13,c14,c15,b0,b1,b2,b3,b4,b5,w0,w1,w2,w3] 0:=rfl
 have e2:Zju 4096 [c0,c1,c2,c3,c4,c5,c6,c7,c8,c9,c10,c11,c12,c13,c14,c15,v0,v1,v2] 16=true:=by
  rw [Zd]
  simp only [TX.sat,XB.prop,X.den,Z1kk,Z1kl,Z1ke,Z1kf,Z1ki,Z1kj,Z1kg,Z1kh,mkS,mkP,and_true,true_and,Z1kp,Z1kq,not_or,not_and,Z1km,ne_eq,Z1kn,Z1ko,Nat.reduceAdd]
  omega
 have q0:b0 - c0≤v0 - c0∧v0 - c0≤b3 - c0:=by omega
 have q1:b1 - c1≤v1 - c1∧v1 - c1≤b4 - c1:=by omega
 have q2:b2 - c2≤v2 - c2∧v2 - c2≤b5 - c2:=by omega
 have m0:=mid3 (Z161 (m:=c3) q0.1 q0.2) (Z161 (m:=c4) q1.1 q1.2) (Z161 (m:=c5) q2.1 q2.2)
 have m3:=mid3 (Z161 (m:=c6) q0.1 q0.2) (Z161 (m:=c7) q1.1 q1.2) (Z161 (m:=c8) q2.1 q2.2)
 have m6:=mid3 (Z161 (m:=c9) q0.1 q0.2) (Z161 (m:=c10) q1.1 q1.2) (Z161 (m:=c11) q2.1 q2.2)
 unfold Z89
 rw [if_pos (e1.trans hc),if_pos e2]
 exact ⟨m0,m3,m6⟩
theorem Z186 {c0 c1 c2 c3 c4 c5 c6 c7 c8 c9 c10 c11 c12 c13 c14 c15 b0 b1 b2 b3 b4 b5 w0 w1 w2 w3 m0 z0 m1 z1 m2 z2 m3 z3 px py:Int} (hc:Z2o [c0,c1,c2,c3,c4,c5,c6,c7,c8,c9,c10,c11,c12,c13,c14,c15,b0,b1,b2,b3,b4,b5,w0,w1,w2,w3] 0=true) (hwin:w0=px∧w1=py∧w2=px∧w3=py)
  (k0:Z13 [c0,c1,c2,c3,c4,c5,c6,c7,c8,c9,c10,c11,c12,c13,c14,c15,b0,b1,b2,b3,b4,b5,w0,w1,w2,w3]≤z0∧z0≤Z4n [c0,c1,c2,c3,c4,c5,c6,c7,c8,c9,c10,c11,c12,c13,c14,c15,b0,b1,b2,b3,b4,b5,w0,w1,w2,w3]) (k1:Z13 [c0,c1,c2,c3,c4,c5,c6,c7,c8,c9,c10,c11,c12,c13,c14,c15,b0,b1,b2,b3,b4,b5,w0,w1,w2,w3]≤z1∧z1≤Z4n [c0,c1,c2,c3,c4,c5,c6,c7,c8,c9,c10,c11,c12,c13,c14,c15,b0,b1,b2,b3,b4,b5,w0,w1,w2,w3]) (k2:Z13 [c0,c1,c2,c3,c4,c5,c6,c7,c8,c9,c10,c11,c12,c13,c14,c15,b0,b1,b2,b3,b4,b5,w0,w1,w2,w3]≤z2∧z2≤Z4n [c0,c1,c2,c3,c4,c5,c6,c7,c8,c9,c10,c11,c12,c13,c14,c15,b0,b1,b2,b3,b4,b5,w0,w1,w2,w3]) (k3:Z13 [c0,c1,c2,c3,c4,c5,c6,c7,c8,c9,c10,c11,c12,c13,c14,c15,b0,b1,b2,b3,b4,b5,w0,w1,w2,w3]≤z3∧z3≤Z4n [c0,c1,c2,c3,c4,c5,c6,c7,c8,c9,c10,c11,c12,c13,c14,c15,b0,b1,b2,b3,b4,b5,w0,w1,w2,w3])
  (g0:vw [c0,c1,c2,c3,c4,c5,c6,c7,c8,c9,c10,c11,c12,c13,c14,c15,b0,b1,b2,b3,b4,b5,w0,w1,w2,w3] 0≤m0) (g1:m1≤vw [c0,c1,c2,c3,c4,c5,c6,c7,c8,c9,c10,c11,c12,c13,c14,c15,b0,b1,b2,b3,b4,b5,w0,w1,w2,w3] 3) (g2:m2≤vw [c0,c1,c2,c3,c4,c5,c6,c7,c8,c9,c10,c11,c12,c13,c14,c15,b0,b1,b2,b3,b4,b5,w0,w1,w2,w3] 4) (g3:vw [c0,c1,c2,c3,c4,c5,c6,c7,c8,c9,c10,c11,c12,c13,c14,c15,b0,b1,b2,b3,b4,b5,w0,w1,w2,w3] 1≤m3)
  (p0:8 * c12 * m0 / z0 + 4 * c14≤8 * px + 4) (p1:8 * px + 4≤8 * c12 * m1 / z1 + 4 * c14)
  (p2:4 * c15 - 8 * c12 * m2 / z2≤8 * py + 4) (p3:8 * py + 4≤4 * c15 - 8 * c12 * m3 / z3):Z6s [c0,c1,c2,c3,c4,c5,c6,c7,c8,c9,c10,c11,c12,c13,c14,c15,b0,b1,b2,b3,b4,b5,w0,w1,w2,w3]=true:=by
 have kl:=Zn2 hc
 simp only [TX.sat,XB.prop,X.den,Z1kk,Z1kl,Z1ke,Z1kf,Z1ki,Z1kj,Z1kg,Z1kh,mkS,mkP,and_true,true_and,Z1kp,Z1kq,not_or,not_and,Z1km,ne_eq,Z1kn,Z1ko] at kl
 have n1:Z13 [c0,c1,c2,c3,c4,c5,c6,c7,c8,c9,c10,c11,c12,c13,c14,c15,b0,b1,b2,b3,b4,b5,w0,w1,w2,w3]=max (vw [c0,c1,c2,c3,c4,c5,c6,c7,c8,c9,c10,c11,c12,c13,c14,c15,b0,b1,b2,b3,b4,b5,w0,w1,w2,w3] 2) c13:=rfl
 have hnp:0 < Z13 [c0,c1,c2,c3,c4,c5,c6,c7,c8,c9,c10,c11,c12,c13,c14,c15,b0,b1,b2,b3,b4,b5,w0,w1,w2,w3]:=by omega
 have G0:=(Zl5 (f:=c12) (n:=vw [c0,c1,c2,c3,c4,c5,c6,c7,c8,c9,c10,c11,c12,c13,c14,c15,b0,b1,b2,b3,b4,b5,w0,w1,w2,w3] 0) (m:=m0) (by omega) hnp k0.1 k0.2).1 g0
 have G1:=(Zl5 (f:=c12) (n:=vw [c0,c1,c2,c3,c4,c5,c6,c7,c8,c9,c10,c11,c12,c13,c14,c15,b0,b1,b2,b3,b4,b5,w0,w1,w2,w3] 3) (m:=m1) (by omega) hnp k1.1 k1.2).2 g1
 have G2:=(Zl5 (f:=c12) (n:=vw [c0,c1,c2,c3,c4,c5,c6,c7,c8,c9,c10,c11,c12,c13,c14,c15,b0,b1,b2,b3,b4,b5,w0,w1,w2,w3] 4) (m:=m2) (by omega) hnp k2.1 k2.2).2 g2
 have G3:=(Zl5 (f:=c12) (n:=vw [c0,c1,c2,c3,c4,c5,c6,c7,c8,c9,c10,c11,c12,c13,c14,c15,b0,b1,b2,b3,b4,b5,w0,w1,w2,w3] 1) (m:=m3) (by omega) hnp k3.1 k3.2).1 g3
 have L1:Z90 [c0,c1,c2,c3,c4,c5,c6,c7,c8,c9,c10,c11,c12,c13,c14,c15,b0,b1,b2,b3,b4,b5,w0,w1,w2,w3]=Zii c12 (Z13 [c0,c1,c2,c3,c4,c5,c6,c7,c8,c9,c10,c11,c12,c13,c14,c15,b0,b1,b2,b3,b4,b5,w0,w1,w2,w3]) (Z4n [c0,c1,c2,c3,c4,c5,c6,c7,c8,c9,c10,c11,c12,c13,c14,c15,b0,b1,b2,b3,b4,b5,w0,w1,w2,w3]) (vw [c0,c1,c2,c3,c4,c5,c6,c7,c8,c9,c10,c11,c12,c13,c14,c15,b0,b1,b2,b3,b4,b5,w0,w1,w2,w3] 0) + 4 * c14:=rfl
 have R1:Z5i [c0,c1,c2,c3,c4,c5,c6,c7,c8,c9,c10,c11,c12,c13,c14,c15,b0,b1,b2,b3,b4,b5,w0,w1,w2,w3]=Zij c12 (Z13 [c0,c1,c2,c3,c4,c5,c6,c7,c8,c9,c10,c11,c12,c13,c14,c15,b0,b1,b2,b3,b4,b5,w0,w1,w2,w3]) (Z4n [c0,c1,c2,c3,c4,c5,c6,c7,c8,c9,c10,c11,c12,c13,c14,c15,b0,b1,b2,b3,b4,b5,w0,w1,w2,w3]) (vw [c0,c1,c2,c3,c4,c5,c6,c7,c8,c9,c10,c11,c12,c13,c14,c15,b0,b1,b2,b3,b4,b5,w0,w1,w2,w3] 3) + 4 * c14:=rfl
 have T1:Zt7 [c0,c1,c2,c3,c4,c5,c6,c7,c8,c9,c10,c11,c12,c13,c14,c15,b0,b1,b2,b3,b4,b5,w0,w1,w2,w3]=4 * c15 - Zij c12 (Z13 [c0,c1,c2,c3,c4,c5,c6,c7,c8,c9,c10,c11,c12,c13,c14,c15,b0,b1,b2,b3,b4,b5,w0,w1,w2,w3]) (Z4n [c0,c1,c2,c3,c4,c5,c6,c7,c8,c9,c10,c11,c12,c13,c14,c15,b0,b1,b2,b3,b4,b5,w0,w1,w2,w3]) (vw [c0,c1,c2,c3,c4,c5,c6,c7,c8,c9,c10,c11,c12,c13,c14,c15,b0,b1,b2,b3,b4,b5,w0,w1,w2,w3] 4):=rfl
 have B1:Zt8 [c0,c1,c2,c3,c4,c5,c6,c7,c8,c9,c10,c11,c12,c13,c14,c15,b0,b1,b2,b3,b4,b5,w0,w1,w2,w3]=4 * c15 - Zii c12 (Z13 [c0,c1,c2,c3,c4,c5,c6,c7,c8,c9,c10,c11,c12,c13,c14,c15,b0,b1,b2,b3,b4,b5,w0,w1,w2,w3]) (Z4n [c0,c1,c2,c3,c4,c5,c6,c7,c8,c9,c10,c11,c12,c13,c14,c15,b0,b1,b2,b3,b4,b5,w0,w1,w2,w3]) (vw [c0,c1,c2,c3,c4,c5,c6,c7,c8,c9,c10,c11,c12,c13,c14,c15,b0,b1,b2,b3,b4,b5,w0,w1,w2,w3] 1):=rfl
 have ux:=up_le (a:=Z90 [c0,c1,c2,c3,c4,c5,c6,c7,c8,c9,c10,c11,c12,c13,c14,c15,b0,b1,b2,b3,b4,b5,w0,w1,w2,w3] - 4) (x:=px) (by omega)
 have uy:=up_le (a:=Zt7 [c0,c1,c2,c3,c4,c5,c6,c7,c8,c9,c10,c11,c12,c13,c14,c15,b0,b1,b2,b3,b4,b5,w0,w1,w2,w3] - 4) (x:=py) (by omega)
 have dx:px≤(Z5i [c0,c1,c2,c3,c4,c5,c6,c7,c8,c9,c10,c11,c12,c13,c14,c15,b0,b1,b2,b3,b4,b5,w0,w1,w2,w3] - 4) / 8:=by omega
 have dy:py≤(Zt8 [c0,c1,c2,c3,c4,c5,c6,c7,c8,c9,c10,c11,c12,c13,c14,c15,b0,b1,b2,b3,b4,b5,w0,w1,w2,w3] - 4) / 8:=by omega
 have X0:Zt9 [c0,c1,c2,c3,c4,c5,c6,c7,c8,c9,c10,c11,c12,c13,c14,c15,b0,b1,b2,b3,b4,b5,w0,w1,w2,w3]=max (up (Z90 [c0,c1,c2,c3,c4,c5,c6,c7,c8,c9,c10,c11,c12,c13,c14,c15,b0,b1,b2,b3,b4,b5,w0,w1,w2,w3] - 4) 8) w0:=rfl
 have Y0:Zta [c0,c1,c2,c3,c4,c5,c6,c7,c8,c9,c10,c11,c12,c13,c14,c15,b0,b1,b2,b3,b4,b5,w0,w1,w2,w3]=max (up (Zt7 [c0,c1,c2,c3,c4,c5,c6,c7,c8,c9,c10,c11,c12,c13,c14,c15,b0,b1,b2,b3,b4,b5,w0,w1,w2,w3] - 4) 8) w1:=rfl
 have X1:Ztb [c0,c1,c2,c3,c4,c5,c6,c7,c8,c9,c10,c11,c12,c13,c14,c15,b0,b1,b2,b3,b4,b5,w0,w1,w2,w3]=min ((Z5i [c0,c1,c2,c3,c4,c5,c6,c7,c8,c9,c10,c11,c12,c13,c14,c15,b0,b1,b2,b3,b4,b5,w0,w1,w2,w3] - 4) / 8) w2:=rfl
 have Y1:Ztc [c0,c1,c2,c3,c4,c5,c6,c7,c8,c9,c10,c11,c12,c13,c14,c15,b0,b1,b2,b3,b4,b5,w0,w1,w2,w3]=min ((Zt8 [c0,c1,c2,c3,c4,c5,c6,c7,c8,c9,c10,c11,c12,c13,c14,c15,b0,b1,b2,b3,b4,b5,w0,w1,w2,w3] - 4) / 8) w3:=rfl
 obtain ⟨q0,q1,q2,q3⟩:=hwin
 clear L1 R1 T1 B1 G0 G1 G2 G3 p0 p1 p2 p3 g0 g1 g2 g3
 refine Z50.2 ⟨by omega,?_,?_⟩
 ·rw [X0,X1]
  clear X0 X1 Y0 Y1 uy dy
  omega
 ·rw [Y0,Y1]
  clear X0 X1 Y0 Y1 ux dx
  omega
theorem Z187 {c0 c1 c2 c3 c4 c5 c6 c7 c8 c9 c10 c11 c12 c13 c14 c15 b0 b1 b2 b3 b4 b5 w0 w1 w2 w3 bb t lq:Int} (hc:Z2o [c0,c1,c2,c3,c4,c5,c6,c7,c8,c9,c10,c11,c12,c13,c14,c15,b0,b1,b2,b3,b4,b5,w0,w1,w2,w3] 0=true) (hb:[b0,b1,b2,b3,b4,b5]=Z3b (Zc bb)) (hv:∀ v ∈ Zc bb,okW v=true)
  (htn:(0≤co t 0∧0≤co t 1∧0≤co t 2)∧co t 0 < (Zc bb).length∧co t 1 < (Zc bb).length∧co t 2 < (Zc bb).length) (hl:lq ∈ Z11e [c0,c1,c2,c3,c4,c5,c6,c7,c8,c9,c10,c11,c12,c13,c14,c15] bb t) :
  ∀ o,o=0∨o=5∨o=10→(vw [c0,c1,c2,c3,c4,c5,c6,c7,c8,c9,c10,c11,c12,c13,c14,c15,b0,b1,b2,b3,b4,b5,w0,w1,w2,w3] 0≤co lq o∧co lq o≤vw [c0,c1,c2,c3,c4,c5,c6,c7,c8,c9,c10,c11,c12,c13,c14,c15,b0,b1,b2,b3,b4,b5,w0,w1,w2,w3] 3)∧(vw [c0,c1,c2,c3,c4,c5,c6,c7,c8,c9,c10,c11,c12,c13,c14,c15,b0,b1,b2,b3,b4,b5,w0,w1,w2,w3] 1≤co lq (o + 1)∧co lq (o + 1)≤vw [c0,c1,c2,c3,c4,c5,c6,c7,c8,c9,c10,c11,c12,c13,c14,c15,b0,b1,b2,b3,b4,b5,w0,w1,w2,w3] 4)∧(Z13 [c0,c1,c2,c3,c4,c5,c6,c7,c8,c9,c10,c11,c12,c13,c14,c15,b0,b1,b2,b3,b4,b5,w0,w1,w2,w3]≤co lq (o + 2)∧co lq (o + 2)≤Z4n [c0,c1,c2,c3,c4,c5,c6,c7,c8,c9,c10,c11,c12,c13,c14,c15,b0,b1,b2,b3,b4,b5,w0,w1,w2,w3]):=by
 have seen:∀ n:Int,0≤n→n < (Zc bb).length→(vw [c0,c1,c2,c3,c4,c5,c6,c7,c8,c9,c10,c11,c12,c13,c14,c15,b0,b1,b2,b3,b4,b5,w0,w1,w2,w3] 0≤(Z1v [c0,c1,c2,c3,c4,c5,c6,c7,c8,c9,c10,c11,c12,c13,c14,c15] ((Zc bb).getD n.toNat 0)).getD 0 0∧(Z1v [c0,c1,c2,c3,c4,c5,c6,c7,c8,c9,c10,c11,c12,c13,c14,c15] ((Zc bb).getD n.toNat 0)).getD 0 0≤vw [c0,c1,c2,c3,c4,c5,c6,c7,c8,c9,c10,c11,c12,c13,c14,c15,b0,b1,b2,b3,b4,b5,w0,w1,w2,w3] 3) ∧
   (vw [c0,c1,c2,c3,c4,c5,c6,c7,c8,c9,c10,c11,c12,c13,c14,c15,b0,b1,b2,b3,b4,b5,w0,w1,w2,w3] 1≤(Z1v [c0,c1,c2,c3,c4,c5,c6,c7,c8,c9,c10,c11,c12,c13,c14,c15] ((Zc bb).getD n.toNat 0)).getD 1 0∧(Z1v [c0,c1,c2,c3,c4,c5,c6,c7,c8,c9,c10,c11,c12,c13,c14,c15] ((Zc bb).getD n.toNat 0)).getD 1 0≤vw [c0,c1,c2,c3,c4,c5,c6,c7,c8,c9,c10,c11,c12,c13,c14,c15,b0,b1,b2,b3,b4,b5,w0,w1,w2,w3] 4)∧(vw [c0,c1,c2,c3,c4,c5,c6,c7,c8,c9,c10,c11,c12,c13,c14,c15,b0,b1,b2,b3,b4,b5,w0,w1,w2,w3] 2≤(Z1v [c0,c1,c2,c3,c4,c5,c6,c7,c8,c9,c10,c11,c12,c13,c14,c15] ((Zc bb).getD n.toNat 0)).getD 2 0∧(Z1v [c0,c1,c2,c3,c4,c5,c6,c7,c8,c9,c10,c11,c12,c13,c14,c15] ((Zc bb).getD n.toNat 0)).getD 2 0≤vw [c0,c1,c2,c3,c4,c5,c6,c7,c8,c9,c10,c11,c12,c13,c14,c15,b0,b1,b2,b3,b4,b5,w0,w1,w2,w3] 5):=by
  intro n h1 h2
  have hm:(Zc bb).getD n.toNat 0 ∈ Zc bb:=Z10 (by omega)
  have hin:=Z185 _ hm
  rw [← hb] at hin
  have ho:=Zuq.1 (hv _ hm)
  obtain ⟨i0,i1,i2⟩:=hin
  simp only [TX.sat,XB.prop,X.den,Z1kk,Z1kl,Z1ke,Z1kf,Z1ki,Z1kj,Z1kg,Z1kh,mkS,mkP,and_true,true_and,Z1kp,Z1kq,not_or,not_and,Z1km,ne_eq,Z1kn,Z1ko] at i0 i1 i2
  exact Z1ji hc ho i0 i1 i2
 have s0:=seen (co t 0) htn.1.1 htn.2.1
 have s1:=seen (co t 1) htn.1.2.1 htn.2.2.1
 have s2:=seen (co t 2) htn.1.2.2 htn.2.2.2
 have n1:Z13 [c0,c1,c2,c3,c4,c5,c6,c7,c8,c9,c10,c11,c12,c13,c14,c15,b0,b1,b2,b3,b4,b5,w0,w1,w2,w3]=max (vw [c0,c1,c2,c3,c4,c5,c6,c7,c8,c9,c10,c11,c12,c13,c14,c15,b0,b1,b2,b3,b4,b5,w0,w1,w2,w3] 2) c13:=rfl
 have f1:Z4n [c0,c1,c2,c3,c4,c5,c6,c7,c8,c9,c10,c11,c12,c13,c14,c15,b0,b1,b2,b3,b4,b5,w0,w1,w2,w3]=vw [c0,c1,c2,c3,c4,c5,c6,c7,c8,c9,c10,c11,c12,c13,c14,c15,b0,b1,b2,b3,b4,b5,w0,w1,w2,w3] 5:=rfl
 have key:∀ u,Zul (c13::Zjv [c0,c1,c2,c3,c4,c5,c6,c7,c8,c9,c10,c11,c12,c13,c14,c15] bb t) u→∃ u0 u1 u2 u3 u4,u=[u0,u1,u2,u3,u4]∧(vw [c0,c1,c2,c3,c4,c5,c6,c7,c8,c9,c10,c11,c12,c13,c14,c15,b0,b1,b2,b3,b4,b5,w0,w1,w2,w3] 0≤u0∧u0≤vw [c0,c1,c2,c3,c4,c5,c6,c7,c8,c9,c10,c11,c12,c13,c14,c15,b0,b1,b2,b3,b4,b5,w0,w1,w2,w3] 3)∧(vw [c0,c1,c2,c3,c4,c5,c6,c7,c8,c9,c10,c11,c12,c13,c14,c15,b0,b1,b2,b3,b4,b5,w0,w1,w2,w3] 1≤u1∧u1≤vw [c0,c1,c2,c3,c4,c5,c6,c7,c8,c9,c10,c11,c12,c13,c14,c15,b0,b1,b2,b3,b4,b5,w0,w1,w2,w3] 4)∧(Z13 [c0,c1,c2,c3,c4,c5,c6,c7,c8,c9,c10,c11,c12,c13,c14,c15,b0,b1,b2,b3,b4,b5,w0,w1,w2,w3]≤u2∧u2≤Z4n [c0,c1,c2,c3,c4,c5,c6,c7,c8,c9,c10,c11,c12,c13,c14,c15,b0,b1,b2,b3,b4,b5,w0,w1,w2,w3]):=by
  rintro u ⟨u0,u1,u2,u3,u4,rfl,h0,h1,h2,h3,_⟩
  refine ⟨u0,u1,u2,u3,u4,rfl,?_⟩
  have m0:mnC (c13::Zjv [c0,c1,c2,c3,c4,c5,c6,c7,c8,c9,c10,c11,c12,c13,c14,c15] bb t) 0=min ((Z1v [c0,c1,c2,c3,c4,c5,c6,c7,c8,c9,c10,c11,c12,c13,c14,c15] ((Zc bb).getD (co t 0).toNat 0)).getD 0 0) (min ((Z1v [c0,c1,c2,c3,c4,c5,c6,c7,c8,c9,c10,c11,c12,c13,c14,c15] ((Zc bb).getD (co t 1).toNat 0)).getD 0 0) ((Z1v [c0,c1,c2,c3,c4,c5,c6,c7,c8,c9,c10,c11,c12,c13,c14,c15] ((Zc bb).getD (co t 2).toNat 0)).getD 0 0)):=rfl
  have m1:mnC (c13::Zjv [c0,c1,c2,c3,c4,c5,c6,c7,c8,c9,c10,c11,c12,c13,c14,c15] bb t) 1=min ((Z1v [c0,c1,c2,c3,c4,c5,c6,c7,c8,c9,c10,c11,c12,c13,c14,c15] ((Zc bb).getD (co t 0).toNat 0)).getD 1 0) (min ((Z1v [c0,c1,c2,c3,c4,c5,c6,c7,c8,c9,c10,c11,c12,c13,c14,c15] ((Zc bb).getD (co t 1).toNat 0)).getD 1 0) ((Z1v [c0,c1,c2,c3,c4,c5,c6,c7,c8,c9,c10,c11,c12,c13,c14,c15] ((Zc bb).getD (co t 2).toNat 0)).getD 1 0)):=rfl
  have m2:mnC (c13::Zjv [c0,c1,c2,c3,c4,c5,c6,c7,c8,c9,c10,c11,c12,c13,c14,c15] bb t) 2=min ((Z1v [c0,c1,c2,c3,c4,c5,c6,c7,c8,c9,c10,c11,c12,c13,c14,c15] ((Zc bb).getD (co t 0).toNat 0)).getD 2 0) (min ((Z1v [c0,c1,c2,c3,c4,c5,c6,c7,c8,c9,c10,c11,c12,c13,c14,c15] ((Zc bb).getD (co t 1).toNat 0)).getD 2 0) ((Z1v [c0,c1,c2,c3,c4,c5,c6,c7,c8,c9,c10,c11,c12,c13,c14,c15] ((Zc bb).getD (co t 2).toNat 0)).getD 2 0)):=rfl
  have x0:mxC (c13::Zjv [c0,c1,c2,c3,c4,c5,c6,c7,c8,c9,c10,c11,c12,c13,c14,c15] bb t) 0=max ((Z1v [c0,c1,c2,c3,c4,c5,c6,c7,c8,c9,c10,c11,c12,c13,c14,c15] ((Zc bb).getD (co t 0).toNat 0)).getD 0 0) (max ((Z1v [c0,c1,c2,c3,c4,c5,c6,c7,c8,c9,c10,c11,c12,c13,c14,c15] ((Zc bb).getD (co t 1).toNat 0)).getD 0 0) ((Z1v [c0,c1,c2,c3,c4,c5,c6,c7,c8,c9,c10,c11,c12,c13,c14,c15] ((Zc bb).getD (co t 2).toNat 0)).getD 0 0)):=rfl
  have x1:mxC (c13::Zjv [c0,c1,c2,c3,c4,c5,c6,c7,c8,c9,c10,c11,c12,c13,c14,c15] bb t) 1=max ((Z1v [c0,c1,c2,c3,c4,c5,c6,c7,c8,c9,c10,c11,c12,c13,c14,c15] ((Zc bb).getD (co t 0).toNat 0)).getD 1 0) (max ((Z1v [c0,c1,c2,c3,c4,c5,c6,c7,c8,c9,c10,c11,c12,c13,c14,c15] ((Zc bb).getD (co t 1).toNat 0)).getD 1 0) ((Z1v [c0,c1,c2,c3,c4,c5,c6,c7,c8,c9,c10,c11,c12,c13,c14,c15] ((Zc bb).getD (co t 2).toNat 0)).getD 1 0)):=rfl
  have x2:mxC (c13::Zjv [c0,c1,c2,c3,c4,c5,c6,c7,c8,c9,c10,c11,c12,c13,c14,c15] bb t) 2=max ((Z1v [c0,c1,c2,c3,c4,c5,c6,c7,c8,c9,c10,c11,c12,c13,c14,c15] ((Zc bb).getD (co t 0).toNat 0)).getD 2 0) (max ((Z1v [c0,c1,c2,c3,c4,c5,c6,c7,c8,c9,c10,c11,c12,c13,c14,c15] ((Zc bb).getD (co t 1).toNat 0)).getD 2 0) ((Z1v [c0,c1,c2,c3,c4,c5,c6,c7,c8,c9,c10,c11,c12,c13,c14,c15] ((Zc bb).getD (co t 2).toNat 0)).getD 2 0)):=rfl
  have hn:c13≤u2:=h0
  rw [m0,x0] at h1
  rw [m1,x1] at h2
  rw [m2,x2] at h3
  rw [n1,f1]
  clear m0 m1 m2 x0 x1 x2 n1 f1 seen h0
  omega
 obtain ⟨p,q,r,hp,hq,hr,e⟩:=(Zd1 (x:=c13::Zjv [c0,c1,c2,c3,c4,c5,c6,c7,c8,c9,c10,c11,c12,c13,c14,c15] bb t) rfl).2 lq hl
 obtain ⟨p0,p1,p2,p3,p4,rfl,kp⟩:=key p hp
 obtain ⟨q0,q1,q2,q3,q4,rfl,kq⟩:=key q hq
 obtain ⟨r0,r1,r2,r3,r4,rfl,kr⟩:=key r hr
 clear s0 s1 s2 seen key n1 f1
 unfold co
 rw [e]
 intro o ho
 rcases ho with rfl | rfl | rfl
 ·exact kp
 ·exact kq
 ·exact kr
theorem Z11j {c0 c1 c2 c3 c4 c5 c6 c7 c8 c9 c10 c11 c12 c13 c14 c15 b0 b1 b2 b3 b4 b5 w0 w1 w2 w3 bb t lq px py:Int} (hc:Z2o [c0,c1,c2,c3,c4,c5,c6,c7,c8,c9,c10,c11,c12,c13,c14,c15,b0,b1,b2,b3,b4,b5,w0,w1,w2,w3] 0=true) (hwin:w0=px∧w1=py∧w2=px∧w3=py) (hb:[b0,b1,b2,b3,b4,b5]=Z3b (Zc bb)) (hv:∀ v ∈ Zc bb,okW v=true)
  (htn:(0≤co t 0∧0≤co t 1∧0≤co t 2)∧co t 0 < (Zc bb).length∧co t 1 < (Zc bb).length∧co t 2 < (Zc bb).length) (hl:lq ∈ Z11e [c0,c1,c2,c3,c4,c5,c6,c7,c8,c9,c10,c11,c12,c13,c14,c15] bb t)
  (hat:(atL (Zff (Z83 (Zr7 [c0,c1,c2,c3,c4,c5,c6,c7,c8,c9,c10,c11,c12,c13,c14,c15] lq))++[px,py])).getD 5 0=0):Z6s [c0,c1,c2,c3,c4,c5,c6,c7,c8,c9,c10,c11,c12,c13,c14,c15,b0,b1,b2,b3,b4,b5,w0,w1,w2,w3]=true:=by
 obtain ⟨ht,hx,hy⟩:=Z184 hat
 have hs:=Z187 hc hb hv htn hl
 obtain ⟨⟨_,_,d0,_⟩,⟨_,_,d1,_⟩,_,_,d2,_⟩:=Z9c ht
 obtain ⟨x0,y0,z0⟩:=hs 0 (.inl rfl)
 obtain ⟨x5,y5,z5⟩:=hs 5 (.inr (.inl rfl))
 obtain ⟨x10,y10,z10⟩:=hs 10 (.inr (.inr rfl))
 clear hs ht hat
 obtain ⟨_,e0,e1⟩:=@Znz c0 c1 c2 c3 c4 c5 c6 c7 c8 c9 c10 c11 c12 c13 c14 c15 (co lq 0) (co lq 1) (co lq 2) (co lq 3) (co lq 4) d0.1
 obtain ⟨_,e5,e6⟩:=@Znz c0 c1 c2 c3 c4 c5 c6 c7 c8 c9 c10 c11 c12 c13 c14 c15 (co lq 5) (co lq 6) (co lq 7) (co lq 8) (co lq 9) d1.1
 obtain ⟨_,e10,e11⟩:=@Znz c0 c1 c2 c3 c4 c5 c6 c7 c8 c9 c10 c11 c12 c13 c14 c15 (co lq 10) (co lq 11) (co lq 12) (co lq 13) (co lq 14) d2.1
 have hx:Z4w (8 * px + 4) (8 * c12 * co lq 0 / co lq 2 + 4 * c14) (8 * c12 * co lq 5 / co lq 7 + 4 * c14) (8 * c12 * co lq 10 / co lq 12 + 4 * c14):=by
  rw [← e0,← e5,← e10]; exact hx
 have hy:Z4w (8 * py + 4) (4 * c15 - 8 * c12 * co lq 1 / co lq 2) (4 * c15 - 8 * c12 * co lq 6 / co lq 7) (4 * c15 - 8 * c12 * co lq 11 / co lq 12):=by
  rw [← e1,← e6,← e11]; exact hy
 clear e0 e1 e5 e6 e10 e11 d0 d1 d2
 have A:∃ m z,(Z13 [c0,c1,c2,c3,c4,c5,c6,c7,c8,c9,c10,c11,c12,c13,c14,c15,b0,b1,b2,b3,b4,b5,w0,w1,w2,w3]≤z∧z≤Z4n [c0,c1,c2,c3,c4,c5,c6,c7,c8,c9,c10,c11,c12,c13,c14,c15,b0,b1,b2,b3,b4,b5,w0,w1,w2,w3])∧vw [c0,c1,c2,c3,c4,c5,c6,c7,c8,c9,c10,c11,c12,c13,c14,c15,b0,b1,b2,b3,b4,b5,w0,w1,w2,w3] 0≤m∧8 * c12 * m / z + 4 * c14≤8 * px + 4:=by
  rcases hx.1 with h | h | h
  ·exact ⟨_,_,z0,x0.1,h⟩
  ·exact ⟨_,_,z5,x5.1,h⟩
  ·exact ⟨_,_,z10,x10.1,h⟩
 have A':∃ m z,(Z13 [c0,c1,c2,c3,c4,c5,c6,c7,c8,c9,c10,c11,c12,c13,c14,c15,b0,b1,b2,b3,b4,b5,w0,w1,w2,w3]≤z∧z≤Z4n [c0,c1,c2,c3,c4,c5,c6,c7,c8,c9,c10,c11,c12,c13,c14,c15,b0,b1,b2,b3,b4,b5,w0,w1,w2,w3])∧m≤vw [c0,c1,c2,c3,c4,c5,c6,c7,c8,c9,c10,c11,c12,c13,c14,c15,b0,b1,b2,b3,b4,b5,w0,w1,w2,w3] 3∧8 * px + 4≤8 * c12 * m / z + 4 * c14:=by
  rcases hx.2 with h | h | h
  ·exact ⟨_,_,z0,x0.2,h⟩
  ·exact ⟨_,_,z5,x5.2,h⟩
  ·exact ⟨_,_,z10,x10.2,h⟩
 have D:∃ m z,(Z13 [c0,c1,c2,c3,c4,c5,c6,c7,c8,c9,c10,c11,c12,c13,c14,c15,b0,b1,b2,b3,b4,b5,w0,w1,w2,w3]≤z∧z≤Z4n [c0,c1,c2,c3,c4,c5,c6,c7,c8,c9,c10,c11,c12,c13,c14,c15,b0,b1,b2,b3,b4,b5,w0,w1,w2,w3])∧m≤vw [c0,c1,c2,c3,c4,c5,c6,c7,c8,c9,c10,c11,c12,c13,c14,c15,b0,b1,b2,b3,b4,b5,w0,w1,w2,w3] 4∧4 * c15 - 8 * c12 * m / z≤8 * py + 4:=by
  rcases hy.1 with h | h | h
  ·exact ⟨_,_,z0,y0.2,h⟩
  ·exact ⟨_,_,z5,y5.2,h⟩
  ·exact ⟨_,_,z10,y10.2,h⟩
 have D':∃ m z,(Z13 [c0,c1,c2,c3,c4,c5,c6,c7,c8,c9,c10,c11,c12,c13,c14,c15,b0,b1,b2,b3,b4,b5,w0,w1,w2,w3]≤z∧z≤Z4n [c0,c1,c2,c3,c4,c5,c6,c7,c8,c9,c10,c11,c12,c13,c14,c15,b0,b1,b2,b3,b4,b5,w0,w1,w2,w3])∧vw [c0,c1,c2,c3,c4,c5,c6,c7,c8,c9,c10,c11,c12,c13,c14,c15,b0,b1,b2,b3,b4,b5,w0,w1,w2,w3] 1≤m∧8 * py + 4≤4 * c15 - 8 * c12 * m / z:=by
  rcases hy.2 with h | h | h
  ·exact ⟨_,_,z0,y0.1,h⟩
  ·exact ⟨_,_,z5,y5.1,h⟩
  ·exact ⟨_,_,z10,y10.1,h⟩
 obtain ⟨m0,u0,k0,g0,p0⟩:=A
 obtain ⟨m1,u1,k1,g1,p1⟩:=A'
 obtain ⟨m2,u2,k2,g2,p2⟩:=D
 obtain ⟨m3,u3,k3,g3,p3⟩:=D'
 exact Z186 hc hwin k0 k1 k2 k3 g0 g1 g2 g3 p0 p1 p2 p3
theorem Z188 {l c:List Int} {x y f:Int} (h:f ∈ Zfa l c x y):∃ (i k:Nat) (q:Int),i < l.length∧k < (Z2y (l.getD i 0)).length∧q ∈ ptS l c i k∧(atL (Z2a q++[x,y])).getD 5 0=0∧co f 1=(i:Int):=by
 unfold Zfa at h
 obtain ⟨p,hp,hf⟩:=List.mem_filterMap.1 h
 obtain ⟨i,k,m,hi,hk,hm,rfl⟩:=Zji hp
 unfold Z17l at hf
 split at hf
 ·rename_i h0
  rw [Z181] at h0
  simp only [Option.some.injEq] at hf
  refine ⟨i,k,_,hi,hk,Z10 hm,h0,?_⟩
  rw [← hf]
  have:=Z182 (l.getD i 0) i k m ((ptS l c i k).getD m 0)
  unfold co at this ⊢
  rw [Z3]
  exact this
 ·cases hf
noncomputable def Z62 (b:Int):Int:=cod [co b 12,co b 13,co b 14,co b 15,co b 16,co b 17]
theorem Zyd (b:Int):Z3j (Z62 b)=[co b 12,co b 13,co b 14,co b 15,co b 16,co b 17]:=by
 unfold Z3j Z62
 have:∀ l j,co (cod l) j=l.getD j 0:=fun l j=>by unfold co; rw [Z3]
 simp only [this,TX.sat,XB.prop,X.den,Z1kk,Z1kl,Z1ke,Z1kf,Z1ki,Z1kj,Z1kg,Z1kh,mkS,mkP,and_true,true_and,Z1kp,Z1kq,not_or,not_and,Z1km,ne_eq,Z1kn,Z1ko]
theorem Z189 {b n:Int} (h:Z11b (Zd0 b n)=true):okB (Z62 b)=true:=by
 obtain ⟨_,hv,_,_,hb⟩:=Zjd h
 have hw:=Z11i hv
 rw [← hb] at hw
 unfold Zup at hw
 simp only [TX.sat,XB.prop,X.den,Z1kk,Z1kl,Z1ke,Z1kf,Z1ki,Z1kj,Z1kg,Z1kh,mkS,mkP,and_true,true_and,Z1kp,Z1kq,not_or,not_and,Z1km,ne_eq,Z1kn,Z1ko] at hw
 unfold okB
 rw [Zyd,Z3a]
 simp only [TX.sat,XB.prop,X.den,Z1kk,Z1kl,Z1ke,Z1kf,Z1ki,Z1kj,Z1kg,Z1kh,mkS,mkP,and_true,true_and,Z1kp,Z1kq,not_or,not_and,Z1km,ne_eq,Z1kn,Z1ko,Nat.zero_add,Nat.reduceAdd]
 omega
theorem Z11k {c0 c1 c2 c3 c4 c5 c6 c7 c8 c9 c10 c11 c12 c13 c14 c15 x y I T f:Int} (hE:Z4v [I,T]=0) (hc:Z2o [c0,c1,c2,c3,c4,c5,c6,c7,c8,c9,c10,c11,c12,c13,c14,c15] 0=true) (hp:0≤x∧x < c14∧0≤y∧y < c15) (hf:f ∈ Zfa (dec I) [c0,c1,c2,c3,c4,c5,c6,c7,c8,c9,c10,c11,c12,c13,c14,c15] x y) :
  co f 1 ∈ Z3k ((dec I).map Z62) [c0,c1,c2,c3,c4,c5,c6,c7,c8,c9,c10,c11,c12,c13,c14,c15,x,y,x,y] (dec I).length:=by
 obtain ⟨i,k,q,hi,hk,hq,hat,e⟩:=Z188 hf
 have hmem:(dec I).getD i 0 ∈ dec I:=Z10 hi
 have hmay:=(Z38 hE).2.2.2 _ hmem
 obtain ⟨_,hv,_,htri,hb⟩:=Zjd hmay
 have hok:=Z189 hmay
 have htm:(Z2y ((dec I).getD i 0)).getD k 0 ∈ Z2y ((dec I).getD i 0):=Z10 hk
 have htn:=htri _ htm
 simp only [Z17f,decide_eq_true_iff] at htn
 rw [e,Za9]
 refine ⟨i,hi,rfl,?_⟩
 have hg:((dec I).map Z62).getD i 0=Z62 ((dec I).getD i 0):=by simp [List.getD,hi]
 rw [hg]
 have hwin:Z20 [c0,c1,c2,c3,c4,c5,c6,c7,c8,c9,c10,c11,c12,c13,c14,c15,x,y,x,y]=0:=by
  unfold Z20
  have h1:Z2o [c0,c1,c2,c3,c4,c5,c6,c7,c8,c9,c10,c11,c12,c13,c14,c15,x,y,x,y] 0=true:=hc
  have h2:Z1hm [c0,c1,c2,c3,c4,c5,c6,c7,c8,c9,c10,c11,c12,c13,c14,c15,x,y,x,y] 16 14 15=true:=by
   rw [Z4h]
   simp only [TX.sat,XB.prop,X.den,Z1kk,Z1kl,Z1ke,Z1kf,Z1ki,Z1kj,Z1kg,Z1kh,mkS,mkP,and_true,true_and,Z1kp,Z1kq,not_or,not_and,Z1km,ne_eq,Z1kn,Z1ko,Nat.reduceAdd]
   omega
  rw [if_pos h1,if_pos h2]
 rw [(Zu6 (x:=[c0,c1,c2,c3,c4,c5,c6,c7,c8,c9,c10,c11,c12,c13,c14,c15,x,y,x,y]) rfl hwin hok).2]
 have ha:Z129 (Z62 ((dec I).getD i 0)) [c0,c1,c2,c3,c4,c5,c6,c7,c8,c9,c10,c11,c12,c13,c14,c15,x,y,x,y]=[c0,c1,c2,c3,c4,c5,c6,c7,c8,c9,c10,c11,c12,c13,c14,c15,co ((dec I).getD i 0) 12,co ((dec I).getD i 0) 13,co ((dec I).getD i 0) 14,co ((dec I).getD i 0) 15,co ((dec I).getD i 0) 16,co ((dec I).getD i 0) 17,x,y,x,y]:=by
  unfold Z129
  rw [Zyd]
  rfl
 rw [ha]
 unfold ptS Zar at hq
 obtain ⟨lq,hl,hpart⟩:=List.mem_filterMap.1 hq
 unfold Zug at hpart
 split at hpart
 ·simp only [Option.some.injEq] at hpart
  rw [← hpart,Z1jg] at hat
  exact Z11j hc ⟨rfl,rfl,rfl,rfl⟩ hb hv htn hl hat
 ·cases hpart
end Go.Proofs.YtgcoidbaoigkeaaGreatDoor.fix
namespace Go.Sx
open Go.RowKit Go.ChangeShapes Go.WideShapes Go.ChangeAt
def Zjj (P:Program):Nat→TypeId→Option (List K)
 | 0,_=>none
 | d + 1,t=>match P.underlying t with
  | some (.int k)=>some [.i k]
  | some .bool=>some [.b]
  | some (.slice e)=>match Zjj P d e with
   | some ks=>if ks.length=P.cellsOf e∧0 < ks.length then some [.s e ks] else none
   | none=>none
  | some (.struct fs)=>match Zfe P (Zjj P d) fs.toList 0 with
   | some ks=>if ks.length=P.cellsOf t then some ks else none
   | none=>none
  | some (.array n e)=>match Zjj P d e with
   | some ks=>if ks.length=P.cellsOf e∧n * ks.length=P.cellsOf t then some (List.replicate n ks).flatten else none
   | none=>none
  | _=>none
mutual
def okK (w:World):K→Int→Prop
 | .i k,n=>(Lit.int k n).wf=true
 | .b,n=>n=0∨n=1
 | .s _ ks,n=>Z53 w ks (hdV n) (ctN n)∧∀ x ∈ dec (ctN n),okL w ks (elt ks x)
def okL (w:World):List K→List Int→Prop
 | [],[]=>True
 | k::ks,x::xs=>okK w k x∧okL w ks xs
 | _,_=>False
end
theorem Z9e {w:World}:∀ {ks:List K} {xs:List Int},okL w ks xs→xs.length=ks.length
 | [],[],_=>rfl
 | _::_,_::_,h=>by
  simp only [okL] at h
  simp [Z9e h.2]
 | [],_::_,h=>by simp [okL] at h
 | _::_,[],h=>by simp [okL] at h
theorem Zur {w:World}:∀ {ks ls:List K} {xs ys:List Int},okL w ks xs→okL w ls ys→okL w (ks++ls) (xs++ys)
 | [],_,[],_,_,h=>h
 | _::_,_,_::_,_,h,h'=>by
  simp only [okL,Z1ki] at h ⊢
  exact ⟨h.1,Zur h.2 h'⟩
 | [],_,_::_,_,h,_=>by simp [okL] at h
 | _::_,_,[],_,h,_=>by simp [okL] at h
theorem Z70 {w:World}:∀ {ks:List K} {xs:List Int},okL w ks xs→Z9 ks xs
 | [],[],_=>trivial
 | k::ks,x::xs,h=>by
  simp only [okL] at h
  refine ⟨?_,Z70 h.2⟩
  cases k with
  | i k=>have:=h.1; simp only [okK] at this; exact this
  | b=>have:=h.1; simp only [okK] at this; exact this
  | s t l=>trivial
 | [],_::_,h=>by simp [okL] at h
 | _::_,[],h=>by simp [okL] at h
theorem Zlf {w:World} {t:TypeId} {ks:List K} {n:Int} (h:okK w (.s t ks) n):Z53 w ks (hdV n) (ctN n)∧∀ x ∈ dec (ctN n),okL w ks (elt ks x):=by
 simp only [okK] at h
 exact h
mutual
theorem Z1jj {w:World}:∀ (k:K) (n:Int),okK w k n→Z76 w (fun _=>False) k (hdV n) (ctN n)
 | .i k,n,h=>by simp only [Z76]
 | .b,n,h=>by simp only [Z76]
 | .s t ks,n,h=>by
  rw [Z76]
  have h:=Zlf h
  exact ⟨⟨h.1,fun _ _ _ hh=>hh⟩,fun x hx=>okL_N ks (elt ks x) (h.2 x hx)⟩
theorem okL_N {w:World}:∀ (ks:List K) (xs:List Int),okL w ks xs→Zdc w (fun _=>False) ks xs
 | [],[],h=>by simp only [Zdc]
 | k::ks,x::xs,h=>by
  simp only [okL] at h
  simp only [Zdc]
  exact ⟨Z1jj k x h.1,okL_N ks xs h.2⟩
 | [],_::_,h=>by simp [okL] at h
 | _::_,[],h=>by simp [okL] at h
end
theorem Z18a {w:World} {a:Addr} {sp:Nat} (h:a.spot=some sp):w.cell? a=none:=by
 unfold World.cell?
 split
 ·rw [h]
  rfl
 ·rfl
theorem Zlg {w:World} {base:Nat} {a:Addr} {sp n:Nat} (h:a.spot=some sp) (hn:0 < n):w.cells? base a n=none:=by
 unfold World.cells?
 split
 ·obtain ⟨m,rfl⟩:∃ m,n=m + 1:=⟨n - 1,by omega⟩
  rw [List.range_succ_eq_map,List.mapM_cons,Z18a (a:=a.add 0) (sp:=sp) h]
  rfl
 ·rfl
section
variable {H:Type} {enc:TypeId × Value→H} {P:Program} {w:World} {base:Nat} {spare:Nat→Bool} {held:Bool}
theorem Zjk {fuel:Nat} {rec:TypeId→Option (List K)} {xs:List (DataW H × List MemPlace)} {cs:List Value} 
    (hrec:∀ (t:TypeId) (ks:List K) (c:List Value) (x:DataW H × List MemPlace),rec t=some ks→DataW.trod enc P w base spare held fuel t c=some x→∃ ys,c=Za ks ys∧okL w ks ys) :
    ∀ (fs:List Field) (off i:Nat) (ks:List K),Zfe P rec fs off=some ks→off + ks.length≤cs.length →
      (∀ j f,fs[j]?=some f→DataW.trod enc P w base spare held fuel f.type ((cs.drop f.offset).take (P.cellsOf f.type))=xs[i + j]?)→i + fs.length≤xs.length →
      ∃ ys,(cs.drop off).take ks.length=Za ks ys∧okL w ks ys
  | [],off,i,ks,h,_,_,_=>by
    simp only [Zfe,Option.some.injEq] at h
    subst h
    exact ⟨[],by simp [Za],by simp [okL]⟩
  | f::fs,off,i,ks,h,hle,hx,hlen=>by
    simp only [Zfe] at h
    split at h
    · rename_i hoff
      split at h
      · rename_i k1 hk1
        split at h
        · rename_i hc
          simp only [Option.map_eq_some_iff] at h
          obtain ⟨k2,hk2,rfl⟩:=h
          simp only [List.length_append,List.length_cons] at hle hlen
          have h0:=hx 0 f rfl
          rw [Nat.add_zero,List.getElem?_eq_getElem (by omega)] at h0
          obtain ⟨y1,hy1,hr1⟩:=hrec f.type k1 _ _ hk1 h0
          obtain ⟨y2,hy2,hr2⟩:=Zjk (cs:=cs) (xs:=xs) hrec fs (off + k1.length) (i + 1) k2 hk2 (by omega) (fun j g hg=>by
            have:=hx (j + 1) g hg
            rwa [show i + (j + 1)=i + 1 + j by omega] at this) (by omega)
          refine ⟨y1++y2,?_,Zur hr1 hr2⟩
          rw [Z5e (Z9e hr1),← hy2,← hy1,hoff,← hc,List.length_append,List.take_add,List.drop_drop]
        · cases h
      · cases h
    · cases h
theorem Zlh {fuel:Nat} {e:TypeId} {ks:List K} {xs:List (DataW H × List MemPlace)} {cs:List Value} (hks:ks.length=P.cellsOf e)
    (hrec:∀ (c:List Value) (x:DataW H × List MemPlace),DataW.trod enc P w base spare held fuel e c=some x→∃ ys,c=Za ks ys∧okL w ks ys) :
    ∀ (n i:Nat),(∀ j,j < n→DataW.trod enc P w base spare held fuel e ((cs.drop ((i + j) * P.cellsOf e)).take (P.cellsOf e))=xs[i + j]?)→i + n≤xs.length →
      ∃ ys,(cs.drop (i * ks.length)).take (n * ks.length)=Za (List.replicate n ks).flatten ys∧okL w (List.replicate n ks).flatten ys
  | 0,i,_,_=>⟨[],by simp [Za],by simp [okL]⟩
  | n + 1,i,hx,hlen=>by
    have h0:=hx 0 (by omega)
    rw [Nat.add_zero,List.getElem?_eq_getElem (by omega)] at h0
    obtain ⟨y1,hy1,hr1⟩:=hrec _ _ h0
    obtain ⟨y2,hy2,hr2⟩:=Zlh (cs:=cs) (xs:=xs) hks hrec n (i + 1) (fun j hj=>by
      have:=hx (j + 1) (by omega)
      rwa [show i + (j + 1)=i + 1 + j by omega] at this) (by omega)
    refine ⟨y1++y2,?_,?_⟩
    · rw [List.replicate_succ,List.flatten_cons,Z5e (Z9e hr1),← hy2,← hy1,hks,Nat.add_mul,Nat.one_mul,Nat.add_comm (n * P.cellsOf e),List.take_add,List.drop_drop,Nat.add_mul,Nat.one_mul]
    · rw [List.replicate_succ,List.flatten_cons]
      exact Zur hr1 hr2
theorem Z1e4 {e:TypeId} {ks:List K} {cs0:List Value} {x:DataW H × List MemPlace} {t:TypeId} (hsp:∀ k,spare k=true) (hu:P.underlying t=some (.slice e)) (hc:ks.length=P.cellsOf e) (hpos:0 < ks.length)
  {fuel:Nat} (hrec:∀ (n:Nat) (c:List Value) (y:DataW H × List MemPlace),n < fuel→DataW.trod enc P w base spare held n e c=some y→∃ ys,c=Za ks ys∧okL w ks ys)
  (hf:DataW.trod enc P w base spare held fuel t cs0=some x):∃ n,cs0=[hdV n]∧okK w (.s e ks) n:=by
 rcases DataW.trod_slice hu hf with ⟨hv,_⟩ | ⟨a,len,cap,elems,rest,n,hfu,hv,_,hb,hle,hm,hlen,hel,hrest,_⟩
 ·refine ⟨0,by rw [hv,Zfk],?_⟩
  simp only [okK]
  rw [Zfk,Zm1,Z5r]
  exact ⟨.inl ⟨⟨_,rfl⟩,Z5r⟩,fun x hx=>by cases hx⟩
 ·subst hv
  obtain ⟨b,off,sp⟩:=a
  cases sp with
  | some sp =>
   have hcap:cap=0:=by
    rcases Nat.eq_zero_or_pos len with h0 | h0
    ·rcases Nat.eq_zero_or_pos cap with h1 | h1
     ·exact h1
     ·obtain ⟨r1,r2⟩:=hrest (hsp _)
      have h2:=r2 0 (by omega)
      rw [show (len + 0) * P.cellsOf e=0 by rw [h0]; simp,Zlg (a:=(⟨b,off,some sp⟩:Addr).add 0) (sp:=sp) rfl (by omega),List.getElem?_eq_getElem (by omega)] at h2
      cases h2
    ·have h2:=hel 0 h0
     rw [Nat.zero_mul,Zlg (a:=(⟨b,off,some sp⟩:Addr).add 0) (sp:=sp) rfl (by omega),List.getElem?_eq_getElem (by omega)] at h2
     cases h2
   have hl0:len=0:=by omega
   subst hcap hl0
   refine ⟨cod [(b:Int),(off:Int),0,0,cod [],(sp:Int)],?_,?_⟩
   ·unfold hdV
    rw [Z3]
    simp
   ·simp only [okK]
    have h1:ctN (cod [(b:Int),(off:Int),0,0,cod [],(sp:Int)])=cod []:=by
     unfold ctN
     rw [Z3]
     rfl
    rw [h1,Z3]
    refine ⟨.inl ⟨?_,Z3 []⟩,fun x hx=>by cases hx⟩
    unfold hdV
    rw [Z3]
    exact ⟨_,rfl⟩
  | none =>
  simp only at hb
  have each:∀ i,i < len→∃ ys,okL w ks ys∧∀ j u,(Za ks ys)[j]?=some u→w.cell? ⟨b,off + (i * ks.length + j),none⟩=some u:=by
   intro i hi
   have h1:=hel i hi
   rw [List.getElem?_eq_getElem (by omega),Option.bind_eq_some_iff] at h1
   obtain ⟨cs,h2,h3⟩:=h1
   unfold World.cells? at h2
   split at h2
   ·rename_i hbb
    obtain ⟨_,h6⟩:=Zks _ (fun i=>i) cs h2
    obtain ⟨ys,h4,h5⟩:=hrec n cs _ (by omega) h3
    refine ⟨ys,h5,fun j u hj=>?_⟩
    rw [h4] at h6
    have:=h6 j u hj
    rw [Addr.add_lit,Addr.add_lit,← hc] at this
    rw [← this]
    congr 2
    omega
   ·cases h2
  have hys:∃ f:Nat→List Int,∀ i,i < len→okL w ks (f i)∧∀ j u,(Za ks (f i))[j]?=some u→w.cell? ⟨b,off + (i * ks.length + j),none⟩=some u:=by
   refine ⟨fun i=>if h:i < len then Classical.choose (each i h) else [],fun i hi=>?_⟩
   simp only [hi,dif_pos]
   exact Classical.choose_spec (each i hi)
  obtain ⟨f,hf'⟩:=hys
  obtain ⟨L,hL⟩:∃ L,L=(List.range len).map fun i=>Zma ks (f i):=⟨_,rfl⟩
  have hmem:∀ x ∈ L,∃ i,i < len∧elt ks x=f i:=by
   intro x hx
   rw [hL] at hx
   obtain ⟨i,hi,rfl⟩:=List.mem_map.1 hx
   have hi':i < len:=by simpa using hi
   exact ⟨i,hi',Zc7 (Z9e (hf' i hi').1)⟩
  have hLl:L.length=len:=by rw [hL]; simp
  have hn:hdV (cod [(b:Int),(off:Int),(len:Int),(cap:Int),cod L])=.slice (some ⟨b,off,none⟩) len cap:=by
   unfold hdV
   rw [Z3]
   simp only
   rw [if_pos (by omega)]
   simp
  have hct:ctN (cod [(b:Int),(off:Int),(len:Int),(cap:Int),cod L])=cod L:=by
   unfold ctN
   rw [Z3]
   rfl
  refine ⟨cod [(b:Int),(off:Int),(len:Int),(cap:Int),cod L],by rw [hn],?_⟩
  simp only [okK]
  rw [hn,hct,Z3]
  refine ⟨.inr ⟨b,off,cap,?_,?_,hm,?_,?_⟩,?_⟩
  ·rw [Z3,hLl]
  ·rw [Z3,hLl]; exact hle
  ·rw [Z3]
   intro x hx
   obtain ⟨i,hi,h⟩:=hmem x hx
   rw [h]; exact Z9e (hf' i hi).1
  ·rw [Z3]
   intro j u hj
   have hall:∀ x ∈ L,(elt ks x).length=ks.length:=fun x hx=>by
    obtain ⟨i,hi,h⟩:=hmem x hx
    rw [h]; exact Z9e (hf' i hi).1
   have hjl:=(List.getElem?_eq_some_iff.1 hj).1
   rw [Zw hall,hLl] at hjl
   have hk:0 < ks.length:=by
    rcases Nat.eq_zero_or_pos ks.length with h | h
    ·rw [h] at hjl; simp at hjl
    ·exact h
   have hi:j / ks.length < len:=by rw [Nat.div_lt_iff_lt_mul hk]; exact hjl
   have hjj:j / ks.length * ks.length + j % ks.length=j:=Nat.div_add_mod' j ks.length
   rw [← hjj] at hj
   rw [Z6e hall (by rw [hLl]; exact hi) (Nat.mod_lt _ hk)] at hj
   have hg:L.getD (j / ks.length) 0=Zma ks (f (j / ks.length)):=by
    rw [hL]
    simp [List.getD,hi]
   rw [hg,Zc7 (Z9e (hf' _ hi).1)] at hj
   have:=(hf' _ hi).2 _ u hj
   rwa [hjj] at this
  ·intro x hx
   obtain ⟨i,hi,h⟩:=hmem x hx
   rw [h]; exact (hf' i hi).1
theorem Zd2 (hsp:∀ k,spare k=true):∀ (d fuel:Nat) (t:TypeId) (ks:List K) (cs:List Value) (x:DataW H × List MemPlace),Zjj P d t=some ks→DataW.trod enc P w base spare held fuel t cs=some x→∃ xs,cs=Za ks xs∧okL w ks xs
 | 0,_,_,_,_,_,h,_=>by simp [Zjj] at h
 | d + 1,fuel,t,ks,cs,x,h,hd=>by
  unfold Zjj at h
  split at h
  ·rename_i k ht
   simp only [Option.some.injEq] at h
   subst h
   obtain ⟨n,rfl,_,hwf⟩:=DataW.trod_int ht hd
   exact ⟨[n],rfl,by simp only [okL,okK]; exact ⟨hwf,trivial⟩⟩
  ·rename_i ht
   simp only [Option.some.injEq] at h
   subst h
   obtain ⟨b,rfl,_⟩:=DataW.trod_bool ht hd
   exact ⟨[if b then 1 else 0],by cases b <;> rfl,by cases b <;> simp [okL,okK]⟩
  ·rename_i e ht
   split at h
   ·rename_i ks' hks
    split at h
    ·rename_i hc
     simp only [Option.some.injEq] at h
     subst h
     obtain ⟨n,hn,hok⟩:=Z1e4 (cs0:=cs) hsp ht hc.1 hc.2 (fun n c y _ h2=>Zd2 hsp d n e ks' c y hks h2) hd
     exact ⟨[n],by rw [hn]; rfl,by rw [okL,okL]; exact ⟨hok,trivial⟩⟩
    ·cases h
   ·cases h
  ·rename_i fs ht
   split at h
   ·rename_i ks' hks
    split at h
    ·rename_i hc
     simp only [Option.some.injEq] at h
     subst h
     obtain ⟨xs,n,rfl,_,hcl,hxl,hf⟩:=DataW.trod_struct ht hd
     obtain ⟨ys,hy,hr⟩:=Zjk (cs:=cs) (xs:=xs) (fun t ks c x h1 h2=>Zd2 hsp d n t ks c x h1 h2) fs.toList 0 0 ks' hks (by omega) (fun j f hj=>by
      rw [Nat.zero_add]
      exact hf j f (by simpa using hj)) (by simp; omega)
     refine ⟨ys,?_,hr⟩
     rw [← hy,List.drop_zero,List.take_of_length_le (by omega)]
    ·cases h
   ·cases h
  ·rename_i n e ht
   split at h
   ·rename_i ks' hks
    split at h
    ·rename_i hc
     simp only [Option.some.injEq] at h
     subst h
     obtain ⟨xs,m,rfl,_,hcl,hxl,hf⟩:=DataW.trod_array ht hd
     obtain ⟨ys,hy,hr⟩:=Zlh (cs:=cs) (xs:=xs) hc.1 (fun c x h2=>Zd2 hsp d m e ks' c x hks h2) n 0 (fun j hj=>by
      rw [Nat.zero_add]
      exact hf j hj) (by omega)
     refine ⟨ys,?_,hr⟩
     rw [← hy,Nat.zero_mul,List.drop_zero,List.take_of_length_le (by omega)]
    ·cases h
   ·cases h
  ·cases h
theorem Z1e5 {r:Reach} {b0:Nat} {t e1 e2:TypeId} {fs:Array Field} {k1 k2:List K} {v:Value} {d:DataW H} {ps:List MemPlace} (hsp:∀ k,spare k=true)
  (hu:P.underlying t=some (.struct fs)) (hl:Zjj P 8 t=some [.s e1 k1,.s e2 k2]) (hval:Value.okWide P w r b0 t v) (hd:DataW.Trod enc P w base spare held t v d ps) :
  ∃ I T:Int,ShR (fun _ ks u n=>SlN w ks u n) ⟨true,[.s e1 k1,.s e2 k2]⟩ v [I,T]∧(∀ x ∈ dec I,okL w k1 (elt k1 x))∧∀ x ∈ dec T,okL w k2 (elt k2 x):=by
 unfold Value.okWide at hval
 rw [hu] at hval
 obtain ⟨cs,rfl,hsz,ts,hts,_,hcell⟩:=hval
 obtain ⟨fuel,hf⟩:=hd
 obtain ⟨xs,hxs,hok⟩:=Zd2 hsp 8 fuel t _ cs.toList _ hl hf
 have hlen:=Z9e hok
 obtain ⟨n1,n2,rfl⟩:∃ n1 n2,xs=[n1,n2]:=by
  match xs,hlen with
  | [n1,n2],_=>exact ⟨n1,n2,rfl⟩
 simp only [okL] at hok
 refine ⟨ctN n1,ctN n2,?_,(Zlf hok.1).2,(Zlf hok.2.1).2⟩
 unfold ShR
 simp only [if_true]
 exact ⟨[hdV n1,hdV n2],by rw [show cs=cs.toList.toArray by simp,hxs]; rfl,Z1jj _ _ hok.1,Z1jj _ _ hok.2.1,trivial⟩
end
end Go.Sx
namespace Go.Proofs.YtgcoidbaoigkeaaGreatDoor.fix
open Go.RowKit Go.Sx
theorem Zye {w:World}:∀ {ks:List K} {xs:List Int} {j:Nat} {k:K},okL w ks xs→ks[j]?=some k→okK w k (xs.getD j 0)
 | k::ks,x::xs,0,k',h,hk=>by
  simp only [okL] at h
  simp only [Z1ke,Option.some.injEq] at hk
  subst hk
  exact h.1
 | k::ks,x::xs,j + 1,k',h,hk=>by
  simp only [okL] at h
  simp only [Z1kf] at hk
  show okK w k' (xs.getD j 0)
  exact Zye h.2 hk
 | [],[],_,_,_,hk=>by simp at hk
 | [],_::_,_,_,h,_=>by simp [okL] at h
 | _::_,[],_,_,h,_=>by simp [okL] at h
theorem Z1e6 {w:World} {I T:Int} (hi:∀ x ∈ dec I,okL w Zk6 (elt Zk6 x)) (ht:∀ x ∈ dec T,okL w Zjb (elt Zjb x)):Zk7 (dec I) (dec T):=by
 refine ⟨fun b hb=>?_,fun b hb=>Z70 (ht b hb)⟩
 have h:okL w Zk6 (dec b):=hi b hb
 have h0:=(Zlf (Zye (j:=0) h rfl)).2
 have h1:=(Zlf (Zye (j:=1) h rfl)).2
 have h2:=(Zlf (Zye (j:=2) h rfl)).2
 exact ⟨Z70 h,fun v hv=>Z70 (h0 v hv),fun v hv=>Z70 (h1 v hv),fun v hv=>Z70 (h2 v hv)⟩
end Go.Proofs.YtgcoidbaoigkeaaGreatDoor.fix
namespace Go.Proofs.YtgcoidbaoigkeaaGreatDoor.fix
open Go.RowKit Go.Sx
end Go.Proofs.YtgcoidbaoigkeaaGreatDoor.fix
namespace Go.Sx
open Go.RowKit
abbrev SpF:=St→TypeId→SC→FuncId→List (Nat × Nat)→Option (List E × (Nat→St))
def Zrg (P:Program) (t:TypeId):Bool:=match P.underlying t with
 | some (.interface _)=>false
 | some _=>true
 | none=>false
section
variable (P:Program) (g:Nat) (fS:FuncId) (f:SpF)
def sp3 (t:TypeId) (v1:SC) (n1:Nat) (o3:Oper) (s:St) (k:St→T):T:=match o3.op with
 | .call c=>match c.callee,c.args.toList with
  | .value F,[y1,y2]=>match s.ev F,s.ev y1,s.ev y2 with
   | .w (.o (.f fn [])),.un n,.w (.o (.f gf caps))=>if (decide (fn=fS) && decide (n=n1)) && (Z2j P fS && (s.sc && v1.sc s.nv s.mem.length s.rows.length)) then (match f s t v1 gf caps with
    | some (es,kk)=>.call g es (k ((kk s.nv).put o3.dst (.t [])))
    | none=>.fail) else .fail
   | _,_,_=>.fail
  | _,_=>.fail
 | _=>.fail
def sp2 (t:TypeId) (v1:SC) (n1:Nat) (o2 o3:Oper) (s:St) (k:St→T):T:=match op1 P s o2 with
 | some (aZ,v,s')=>Z4a aZ (sp3 P g fS f t v1 n1 o3 (s'.put o2.dst v) k)
 | none=>.fail
def sp1 (o1 o2 o3:Oper) (s:St) (k:St→T):T:=match o1.op with
 | .makeInterface t (.tmp d)=>if Zrg P t && s.sc then (match s.ev (.tmp d) with
  | .w (.o v1)=>sp2 P g fS f t v1 s.nx o2 o3 (({ s with nx:=s.nx + 1 }:St).put o1.dst (.un s.nx)) k
  | _=>.fail) else .fail
 | _=>.fail
def sp0 (ops:Array Oper) (s:St) (k:St→T):T:=match ops.toList with
 | [o0,o1,o2,o3]=>if (o0.guard.isNone && o1.guard.isNone) && (o2.guard.isNone && o3.guard.isNone) then (match op1 P s o0 with
  | some (aZ,v,s')=>Z4a aZ (sp1 P g fS f o1 o2 o3 (s'.put o0.dst v) k)
  | none=>.fail) else .fail
 | _=>.fail
end
def SpM (P:Program) (fS:FuncId) (sum:Sum) (f:SpF):Prop :=
  ∀ (W0:Bas) (e:Env) (s:St) (w:World) (t:TypeId) (v:SC) (gf:FuncId) (caps:List (Nat × Nat)) (es:List E) (kk:Nat→St),Rep e W0 s w→s.sc=true→v.sc s.nv s.mem.length s.rows.length=true →
    f s t v gf caps=some (es,kk)→sum.pre (es.map (E.den e.R e.r)) →
    Calls P fS #[.iface t (v.den e),(SC.f gf caps).den e] w fun x w'=>x=.returned (.tuple #[])∧∃ e',Env.le e e'∧e'.r=e.r++sum.sem (es.map (E.den e.R e.r))∧Rep e' W0 (kk s.nv) w' ∧
      (kk s.nv).fr=s.fr∧(kk s.nv).fl=s.fl∧(kk s.nv).flr=s.flr∧(kk s.nv).dp=s.dp
section
variable {P:Program} {Γ:List Sum} {Ψ:List Int→Prop} {g:Nat} {fS:FuncId} {f:SpF} {sum:Sum}
theorem Z1jk {e e':Env} (h:Env.le e e') {n:Nat} (hn:n < e.ω.length):e'.ω.getD n undef=e.ω.getD n undef:=by
 obtain ⟨_,_,_,d,_,_,_,hω,_⟩:=h
 rw [hω,Z15 _ _ _ _ hn]
theorem Z18b (hg:Γ[g]?=some sum) (hM:SpM P fS sum f) {W0:Bas} {ops:Array Oper} {Q:Exit→Act→World→Prop} {t:TypeId} {v1:SC} {n1:Nat} {o3:Oper} {s:St} {k:St→T} {bs:List (List Int→Prop)} {e:Env} {a:Act} {w:World}
  (hgd:o3.guard=none) (h:Rel e W0 s a w) (hdp:s.dp=bs.length) (hn:e.ω.getD n1 undef=.iface t (v1.den e)) (hs:(sp3 P g fS f t v1 n1 o3 s k).sat Γ e.R Ψ bs e.r) (hQ:∀ a' w',Nx Γ Ψ bs W0 e s.fl s.flr k a' w'→Q .normal a' w'):wpList P ops Q [o3] a w:=by
 refine wpList_plain hgd fun K hK=>?_
 have hK':∀ a' w',Nx Γ Ψ bs W0 e s.fl s.flr k a' w'→K a' w':=fun a' w' hh=>hK a' w' (by unfold wpList; exact hQ a' w' hh)
 unfold sp3 at hs
 split at hs
 ·rename_i c ho
  split at hs
  ·rename_i F y1 y2 hcal hargs
   split at hs
   ·rename_i fn n gf caps hF hy1 hy2
    split at hs
    ·rename_i hc
     simp only [Z1kr,Z1ks] at hc
     obtain ⟨⟨rfl,rfl⟩,hcl,hsc,hv1⟩:=hc
     split at hs
     ·rename_i es kk hf
      simp only [T.sat,hg] at hs
      obtain ⟨hpre,hs⟩:=hs
      have hevF:a.eval F=.func (.func fn) #[] #[]:=by
       rw [h.eval F,hF]
       simp [SV.den,SW.den,SC.den]
      have hrun:=Zha hcl ho hcal hevF w
      have hargs':c.args.map a.eval++#[]=#[.iface t (v1.den e),(SC.f gf caps).den e]:=by
       apply Array.ext'
       simp only [Array.append_empty,Array.toList_map,hargs,Z1kk,Z1kl,h.eval,hy1,hy2,SV.den,SW.den,hn]
      rw [hargs'] at hrun
      unfold Oper.wp
      rw [hrun]
      simp only [Oper.upon_enter]
      refine (hM W0 e s w t v1 gf caps es kk h.rep hsc hv1 hf hpre).mono ?_
      rintro x w' ⟨rfl,e',hle,hr,hrep,h1,h2,h3,h4⟩
      have hfr:s.fr.map (SV.den e')=s.fr.map (SV.den e):=by
       refine List.map_congr_left fun v hv=>SV.den_le hle v ?_
       simp only [St.sc,Z1kr] at hsc
       obtain ⟨⟨hf,_⟩,_⟩:=hsc
       rw [← h.rep.nv,← h.rep.nb,← h.rep.ng,← h.rep.nx] at hf
       exact List.all_eq_true.1 hf v hv
      have hrel:Rel e' W0 (kk s.nv) a w':=⟨hrep,by rw [h.tmps,h1,hfr],h.defs⟩
      have hR:e'.R=e.R:=by obtain ⟨_,_,_,_,_,_,_,_,hR⟩:=hle; exact hR
      have hput:=hrel.put o3.dst (.t [])
      exact hK' _ _ (Nx.here hle hput (((Zm _ o3.dst (.t [])).2.2.2.2.1).trans h2) (((Zm _ o3.dst (.t [])).2.2.2.2.2).trans h3) ((Z6f _ _ _).trans (h4.trans hdp)) (by rw [hr,hR]; exact hs))
     ·exact hs.elim
    ·exact hs.elim
   ·exact hs.elim
  ·exact hs.elim
 ·exact hs.elim
theorem Z18c (hg:Γ[g]?=some sum) (hM:SpM P fS sum f) {W0:Bas} {ops:Array Oper} {Q:Exit→Act→World→Prop} {t:TypeId} {v1:SC} {n1:Nat} {o2 o3:Oper} {s:St} {k:St→T} {bs:List (List Int→Prop)} {e:Env} {a:Act} {w:World}
  (hg2:o2.guard=none) (hg3:o3.guard=none) (h:Rel e W0 s a w) (hdp:s.dp=bs.length) (hnl:n1 < e.ω.length) (hv1:v1.sc e.r.length e.β.length e.σ.length=true) (hn:e.ω.getD n1 undef=.iface t (v1.den e))
  (hs:(sp2 P g fS f t v1 n1 o2 o3 s k).sat Γ e.R Ψ bs e.r) (hQ:∀ a' w',Nx Γ Ψ bs W0 e s.fl s.flr k a' w'→Q .normal a' w'):wpList P ops Q [o2,o3] a w:=by
 unfold sp2 at hs
 split at hs
 ·rename_i aZ v s' h1
  obtain ⟨has,hs'⟩:=Z1y hs
  refine wpList_plain hg2 fun K hK=>?_
  refine Oper.wp_mono' (Zm5 (k:=fun x=>sp3 P g fS f t v1 n1 o3 x k) h (Z5b h1 h.rep (fun x _=>h.eval x) has) hdp hs') ?_
  rintro a3 w3 ⟨s3,e3,more,hle,hrel,hf,hfr,hd,hsat⟩
  have hden:v1.den e3=v1.den e:=SC.den_le hle v1 hv1
  refine hK _ _ (Z18b hg hM hg3 hrel hd (by rw [Z1jk hle hnl,hn,hden]) hsat ?_)
  rintro a' w' ⟨s',e',more',hle',hrel',hf',hfr',hd',hsat'⟩
  exact hQ a' w' ⟨s',e',more++more',hle.trans hle',hrel',hf'.trans hf,hfr'.trans hfr,by rw [← List.append_assoc]; exact hd',by rw [← List.append_assoc]; exact hsat'⟩
 ·exact hs.elim
theorem Z18d (hg:Γ[g]?=some sum) (hM:SpM P fS sum f) {W0:Bas} {ops:Array Oper} {Q:Exit→Act→World→Prop} {o1 o2 o3:Oper} {s:St} {k:St→T} {bs:List (List Int→Prop)} {e:Env} {a:Act} {w:World}
  (hg1:o1.guard=none) (hg2:o2.guard=none) (hg3:o3.guard=none) (h:Rel e W0 s a w) (hdp:s.dp=bs.length)
  (hs:(sp1 P g fS f o1 o2 o3 s k).sat Γ e.R Ψ bs e.r) (hQ:∀ a' w',Nx Γ Ψ bs W0 e s.fl s.flr k a' w'→Q .normal a' w'):wpList P ops Q [o1,o2,o3] a w:=by
 unfold sp1 at hs
 split at hs
 ·rename_i t d0 ho
  split at hs
  ·rename_i hc
   simp only [Z1kr] at hc
   obtain ⟨hct,hsc⟩:=hc
   split at hs
   ·rename_i v1 hx
    refine wpList_plain hg1 fun K hK=>?_
    have hev:a.eval (.tmp d0)=v1.den e:=by rw [h.eval (.tmp d0),hx]; rfl
    have hrun:(execOp a.eval o1).run P w=.ok (.value (.iface t (v1.den e))) w:=by
     unfold Zrg at hct
     split at hct
     ·cases hct
     ·rename_i d hni hd
      simp only [execOp,ho,Instr.makeInterface,Sem.run_bind,run_underlying hd,Result.andThen_ok,hev]
      cases d with
      | interface ms=>exact absurd rfl (hni ms)
      | _=>simp [Sem.run_pure]
     ·cases hct
    unfold Oper.wp
    rw [hrun]
    simp only [Oper.upon_value]
    have hscp:=hsc
    simp only [St.sc,Z1kr] at hscp
    obtain ⟨⟨hf,_⟩,_⟩:=hscp
    rw [← h.rep.nv,← h.rep.nb,← h.rep.ng,← h.rep.nx] at hf
    have hrep:=h.rep.un (.iface t (v1.den e)) s.fr
    have hle:Env.le e { e with ω:=e.ω++[.iface t (v1.den e)] }:=⟨[],[],[],[.iface t (v1.den e)],by simp⟩
    have hrel:Rel { e with ω:=e.ω++[.iface t (v1.den e)] } W0 { s with nx:=s.nx + 1 } a w:=⟨hrep,by
     rw [h.tmps]
     congr 1
     exact List.map_congr_left fun v hv=>(SV.den_le hle v (List.all_eq_true.1 hf v hv)).symm,h.defs⟩
    have hput:=hrel.put o1.dst (.un s.nx)
    have hval:(SV.un s.nx).den { e with ω:=e.ω++[.iface t (v1.den e)] }=.iface t (v1.den e):=by
     simp only [SV.den]
     rw [← h.rep.nx]
     simp [List.getD]
    rw [hval] at hput
    have hv1:v1.sc e.r.length e.β.length e.σ.length=true:=by
     have:SV.sc e.r.length e.β.length e.σ.length e.ω.length (s.ev (.tmp d0))=true:=by
      simp only [St.ev]
      by_cases hd:d0 < s.fr.length
      ·simp only [List.getD,List.getElem?_eq_getElem hd,Option.getD_some]
       exact List.all_eq_true.1 hf _ (List.getElem_mem hd)
      ·simp only [List.getD,List.getElem?_eq_none (Nat.le_of_not_lt hd),Option.getD_none]
       rfl
     rw [hx] at this
     exact this
    refine hK _ _ (Z18c (n1:=s.nx) hg hM hg2 hg3 hput ((Z6f _ _ _).trans hdp) (by simp [h.rep.nx]) (by exact hv1) ?_ hs ?_)
    ·have hden:v1.den { e with ω:=e.ω++[.iface t (v1.den e)] }=v1.den e:=SC.den_le hle v1 hv1
     rw [hden]
     simp only [← h.rep.nx]
     simp [List.getD]
    ·rintro a' w' ⟨s',e',more',hle',hrel',hf',hfr',hd',hsat'⟩
     exact hQ a' w' ⟨s',e',more',hle.trans hle',hrel',hf'.trans (Zm _ _ _).2.2.2.2.1,hfr'.trans (Zm _ _ _).2.2.2.2.2,hd',hsat'⟩
   ·exact hs.elim
  ·exact hs.elim
 ·exact hs.elim
theorem Z18e (hg:Γ[g]?=some sum) (hM:SpM P fS sum f) {W0:Bas} {ops:Array Oper} {Q:Exit→Act→World→Prop} {s:St} {k:St→T} {bs:List (List Int→Prop)} {e:Env} {a:Act} {w:World} (h:Rel e W0 s a w) (hdp:s.dp=bs.length)
  (hs:(sp0 P g fS f ops s k).sat Γ e.R Ψ bs e.r) (hQ:∀ a' w',Nx Γ Ψ bs W0 e s.fl s.flr k a' w'→Q .normal a' w'):wpList P ops Q ops.toList a w:=by
 unfold sp0 at hs
 split at hs
 ·rename_i o0 o1 o2 o3 hops
  split at hs
  ·rename_i hgs
   simp only [Z1kr,Option.isNone_iff_eq_none] at hgs
   obtain ⟨⟨g0,g1⟩,g2,g3⟩:=hgs
   split at hs
   ·rename_i aZ v s' h1
    obtain ⟨has,hs'⟩:=Z1y hs
    rw [hops]
    refine wpList_plain g0 fun K hK=>?_
    refine Oper.wp_mono' (Zm5 (k:=fun x=>sp1 P g fS f o1 o2 o3 x k) h (Z5b h1 h.rep (fun x _=>h.eval x) has) hdp hs') ?_
    rintro a3 w3 ⟨s3,e3,more,hle,hrel,hf,hfr,hd,hsat⟩
    refine hK _ _ (Z18d hg hM g1 g2 g3 hrel hd hsat ?_)
    rintro a' w' ⟨s',e',more',hle',hrel',hf',hfr',hd',hsat'⟩
    exact hQ a' w' ⟨s',e',more++more',hle.trans hle',hrel',hf'.trans hf,hfr'.trans hfr,by rw [← List.append_assoc]; exact hd',by rw [← List.append_assoc]; exact hsat'⟩
   ·exact hs.elim
  ·exact hs.elim
 ·exact hs.elim
end
def Z1e7 (id0:Nat):Code→Bool
 | .seq x y=>Z1e7 id0 x || Z1e7 id0 y
 | .region id _ _=>id == id0
 | _=>false
def Z1jl (id0:Nat) (sp:Array Oper→St→(St→T)→T) (ex:Code→St→Z4x→T):Code→List Code→St→Z4x→T
 | .seq x y,rest,s,k=>if Z1e7 id0 x then Z1jl id0 sp ex x (y::rest) s k else ex x s fun o s'=>match o with
  | .norm=>if Z1e7 id0 y then Z1jl id0 sp ex y rest s' k else ex (Z1a2 (y::rest)) s' k
  | o=>k o s'
 | .region id ops d,rest,s,k=>if id == id0 && !d then sp ops s fun s'=>ex (Z1a2 rest) s' k else .fail
 | _,_,_,_=>.fail
section
variable {P:Program} {Γ:List Sum} {Ψ:List Int→Prop} {g:Nat} {fS:FuncId} {f:SpF} {sum:Sum}
theorem Z11l (hg:Γ[g]?=some sum) (hM:SpM P fS sum f) {id0:Nat} {ex:Code→St→Z4x→T} (hih:IH P Γ ex) {W0:Bas} {k:Z4x} :
    ∀ (c:Code) (rest:List Code) (s:St) (bs:List (List Int→Prop)) (e:Env) (a:Act) (w:World),Rel e W0 s a w→s.dp=bs.length→(Z1jl id0 (sp0 P g fS f) ex c rest s k).sat Γ e.R Ψ bs e.r →
      c.wp P (Z1a3 P rest (Px Γ Ψ bs W0 e s.fl s.flr k)) a w:=by
  have up:∀ {bs more:List (List Int→Prop)} {e e':Env} {fl flr fl' flr':Nat} {x:Exit} {a:Act} {w:World},Env.le e e'→fl'=fl→flr'=flr→Px Γ Ψ (bs++more) W0 e' fl' flr' k x a w→Px Γ Ψ bs W0 e fl flr k x a w:=by
    rintro bs more e e' fl flr fl' flr' x a w hle h1 h2 ⟨out,s',e2,more',hx,hle',hrel,hf,hfr,hd,hsat⟩
    exact ⟨out,s',e2,more++more',hx,hle.trans hle',hrel,hf.trans h1,hfr.trans h2,by rw [← List.append_assoc]; exact hd,by rw [← List.append_assoc]; exact hsat⟩
  have seqQ_mono:∀ (l:List Code) {Q Q':Exit→Act→World→Prop},(∀ x a w,Q x a w→Q' x a w)→∀ x a w,Z1a3 P l Q x a w→Z1a3 P l Q' x a w:=by
    intro l
    induction l with
    | nil=>intro Q Q' hQ x a w h; exact hQ x a w h
    | cons y r ih =>
      intro Q Q' hQ x a w h
      have h1:=ih hQ
      cases x with
      | normal=>exact wp_mono h h1
      | _=>exact h1 _ _ _ h
  intro c
  induction c with
  | seq x y ihx ihy =>
    intro rest s bs e a w h hdp hs
    simp only [Z1jl] at hs
    split at hs
    · exact wp_seq (ihx (y::rest) s bs e a w h hdp hs)
    · refine wp_seq (wp_mono (Zex x (hih x s _ _ Ψ bs e a w h hdp hs)) ?_)
      rintro ex' a' w' ⟨out,s',e',more,rfl,hle,hrel,hf,hfr,hd,hsat⟩
      cases out with
      | norm =>
        dsimp only at hsat
        split at hsat
        · exact wp_mono (ihy rest s' (bs++more) e' a' w' hrel hd hsat) (seqQ_mono rest fun x a w hh=>up hle hf hfr hh)
        · have:=Zmo (y::rest) (hih (Z1a2 (y::rest)) s' _ W0 Ψ (bs++more) e' a' w' hrel hd hsat)
          exact seqQ_mono (y::rest) (fun x a w hh=>up hle hf hfr hh) _ _ _ this
      | exit id=>exact Za4 (x:=.exit id) (by intro hh; cases hh) ⟨.exit id,s',e',more,rfl,hle,hrel,hf,hfr,hd,hsat⟩ rest
      | ret=>exact Za4 (x:=.ret) (by intro hh; cases hh) ⟨.ret,s',e',more,rfl,hle,hrel,hf,hfr,hd,hsat⟩ rest
  | region id ops d =>
    intro rest s bs e a w h hdp hs
    simp only [Z1jl] at hs
    split at hs
    · rename_i hc
      simp only [Z1kr,Bool.not_eq_true'] at hc
      obtain ⟨_,rfl⟩:=hc
      refine Zex _ (Zlu (Z18e hg hM h hdp hs ?_))
      rintro a' w' ⟨s',e',more,hle,hrel,hf,hfr,hd,hsat⟩
      have:=Zmo rest (hih (Z1a2 rest) s' _ W0 Ψ (bs++more) e' a' w' hrel hd hsat)
      exact seqQ_mono rest (fun x a w hh=>up hle hf hfr hh) _ _ _ this
    · exact hs.elim
  | _=>intro rest s bs e a w h hdp hs; simp only [Z1jl] at hs; exact hs.elim
theorem Zrh {W0:Bas} {e:Env} {s:St} {w:World} {args:List SV} {fn:FuncId} {F:Func} {body:Code} {k:Z4x} {R:Ending→World→Prop} {bs:List (List Int→Prop)} (h:Rep e W0 s w)
  (hF:P.funcs[fn]?=some F) (hb:F.body=some body)
  (hw:∀ a,Rel e W0 { s with fr:=args++List.replicate (F.ntmps - args.length) Z6 } a w→body.wp P (Px Γ Ψ bs W0 e s.fl s.flr k) a w)
  (hk:∀ out s' e' a' w' more,Rel e' W0 s' a' w'→Env.le e e'→(k out s').sat Γ e'.R Ψ (bs++more) e'.r→(∀ id,out ≠ .exit id)∧∃ v,(results F a'.tmps).run P w'=.ok v w'∧R (.returned v) w') :
  Calls P fn (args.map (SV.den e)).toArray w R:=by
 refine calls_of_wp hF hb ?_
 have hrel:Rel e W0 { s with fr:=args++List.replicate (F.ntmps - args.length) Z6 } { tmps:=(args.map (SV.den e)).toArray++Array.replicate (F.ntmps - (args.map (SV.den e)).toArray.size) undef,defers:=[] } w :=
  ⟨h.fr _,by
   apply Array.ext'
   simp [Z9u],rfl⟩
 refine wp_mono (hw _ hrel) ?_
 rintro x a' w' ⟨out,s',e',more,rfl,hle,hrel',hf,hfr,hd,hsat⟩
 obtain ⟨hne,v,h1,h2⟩:=hk out s' e' a' w' more hrel' hle hsat
 cases out with
 | norm=>exact ⟨hrel'.defs,_,h1,h2⟩
 | exit id=>exact absurd rfl (hne id)
 | ret=>exact ⟨hrel'.defs,_,h1,h2⟩
end
end Go.Sx
namespace Go.Sx
open Go.RowKit
def Z1gd (P:Program) (lp:St→Code→Option Zak) (Γ:List Sum) (fuel:Nat) (fn:FuncId) (s:St) (args:List SV) (k:Func→Z4x):T:=match P.funcs[fn]? with
 | some F=>match F.body with
  | some body=>Zjt P lp Γ fuel body { s with fr:=args++List.replicate (F.ntmps - args.length) Z6 } (k F)
  | none=>.fail
 | none=>.fail
def ownB (P:Program) (lp:St→Code→Option Zak) (Γ:List Sum) (fuel:Nat) (fn:FuncId) (s:St) (args:List SV) (id0 g:Nat) (fS:FuncId) (f:SpF) (k:Func→Z4x):T:=match P.funcs[fn]? with
 | some F=>match F.body with
  | some body=>Z1jl id0 (sp0 P g fS f) (Zjt P lp Γ fuel) body [] { s with fr:=args++List.replicate (F.ntmps - args.length) Z6 } (k F)
  | none=>.fail
 | none=>.fail
section
variable {P:Program} {Γ:List Sum} {Ψ:List Int→Prop}
theorem Z18f (hm:P.follows .mixedOrders=true) (hG:Gok P Γ) {lp:St→Code→Option Zak} {fuel:Nat} {fn:FuncId} {s:St} {args:List SV} {rs:List Sh} {W0:Bas} {e:Env} {w:World} (h:Rep e W0 s w) (hdp:s.dp=0)
  (hs:(Z1gd P lp Γ fuel fn s args fun F=>Zfc P F rs).sat Γ e.R Ψ [] e.r):Calls P fn (args.map (SV.den e)).toArray w fun x w'=>∃ ys v,x=.returned v∧Ψ ys∧Z54 W0.may w' rs v ys∧Zv W0 w':=by
 unfold Z1gd at hs
 split at hs
 ·rename_i F hF
  split at hs
  ·rename_i body hb
   exact Zds (bs:=[]) (Z3y hm (lp:=lp) hG fuel) h (by simpa using hdp) hF hb hs
  ·exact hs.elim
 ·exact hs.elim
theorem Z1e8 (hm:P.follows .mixedOrders=true) (hG:Gok P Γ) {lp:St→Code→Option Zak} {fuel:Nat} {fn:FuncId} {s:St} {args:List SV} {W0:Bas} {e:Env} {w:World} {k:Func→Z4x} {R:Ending→World→Prop} (h:Rep e W0 s w) (hdp:s.dp=0)
  (hs:(Z1gd P lp Γ fuel fn s args k).sat Γ e.R Ψ [] e.r)
  (hk:∀ F out s' e' a' w' more,Rel e' W0 s' a' w'→Env.le e e'→(k F out s').sat Γ e'.R Ψ more e'.r→(∀ id,out ≠ .exit id)∧∃ v,(results F a'.tmps).run P w'=.ok v w'∧R (.returned v) w') :
  Calls P fn (args.map (SV.den e)).toArray w R:=by
 unfold Z1gd at hs
 split at hs
 ·rename_i F hF
  split at hs
  ·rename_i body hb
   refine Zrh (Γ:=Γ) (Ψ:=Ψ) (bs:=[]) (k:=k F) h hF hb (fun a hrel=>?_) (fun out s' e' a' w' more hrel hle hsat=>hk F out s' e' a' w' _ hrel hle hsat)
   have:=Z3y hm (lp:=lp) hG fuel body { s with fr:=args++List.replicate (F.ntmps - args.length) Z6 } (k F) W0 Ψ [] e a w hrel (by simpa using hdp) hs
   exact Zex body this
  ·exact hs.elim
 ·exact hs.elim
theorem Z1e9 (hm:P.follows .mixedOrders=true) (hG:Gok P Γ) {lp:St→Code→Option Zak} {fuel:Nat} {fn:FuncId} {s:St} {args:List SV} {W0:Bas} {e:Env} {w:World} {id0 g:Nat} {fS:FuncId} {f:SpF} {sum:Sum} {k:Func→Z4x} {R:Ending→World→Prop}
  (hg:Γ[g]?=some sum) (hM:SpM P fS sum f) (h:Rep e W0 s w) (hdp:s.dp=0)
  (hs:(ownB P lp Γ fuel fn s args id0 g fS f k).sat Γ e.R Ψ [] e.r)
  (hk:∀ F out s' e' a' w' more,Rel e' W0 s' a' w'→Env.le e e'→(k F out s').sat Γ e'.R Ψ more e'.r→(∀ id,out ≠ .exit id)∧∃ v,(results F a'.tmps).run P w'=.ok v w'∧R (.returned v) w') :
  Calls P fn (args.map (SV.den e)).toArray w R:=by
 unfold ownB at hs
 split at hs
 ·rename_i F hF
  split at hs
  ·rename_i body hb
   refine Zrh (Γ:=Γ) (Ψ:=Ψ) (bs:=[]) (k:=k F) h hF hb (fun a hrel=>?_) (fun out s' e' a' w' more hrel hle hsat=>hk F out s' e' a' w' _ hrel hle hsat)
   have:=Z11l hg hM (Z3y hm (lp:=lp) hG fuel) body [] _ [] e a w hrel (by simpa using hdp) hs
   exact this
  ·exact hs.elim
 ·exact hs.elim
theorem Z11m {T0:T} (hm:P.follows .mixedOrders=true) (hG:Gok P Γ) {lp:St→Code→Option Zak} {fuel:Nat} {fn:FuncId} {s:St} {args:List SV} {rs:List Sh} {W0:Bas} {e:Env} {w:World} (h:Rep e W0 s w) (hdp:s.dp=0)
  (hT:Z1gd P lp Γ fuel fn s args (fun F=>Zfc P F rs)=T0) (hs:T0.sat Γ [] Ψ [] e.r):Calls P fn (args.map (SV.den e)).toArray w fun x w'=>∃ ys v,x=.returned v∧Ψ ys∧Z54 W0.may w' rs v ys∧Zv W0 w':=by
 rw [T.sat_R [] e.R] at hs
 subst hT
 exact Z18f hm hG h hdp hs
theorem Z18g {T0:T} (hm:P.follows .mixedOrders=true) (hG:Gok P Γ) {lp:St→Code→Option Zak} {fuel:Nat} {fn:FuncId} {s:St} {args:List SV} {W0:Bas} {e:Env} {w:World} {k:Func→Z4x} {R:Ending→World→Prop} (h:Rep e W0 s w) (hdp:s.dp=0)
  (hT:Z1gd P lp Γ fuel fn s args k=T0) (hs:T0.sat Γ [] Ψ [] e.r)
  (hk:∀ F out s' e' a' w' more,Rel e' W0 s' a' w'→Env.le e e'→(k F out s').sat Γ e'.R Ψ more e'.r→(∀ id,out ≠ .exit id)∧∃ v,(results F a'.tmps).run P w'=.ok v w'∧R (.returned v) w') :
  Calls P fn (args.map (SV.den e)).toArray w R:=by
 rw [T.sat_R [] e.R] at hs
 subst hT
 exact Z1e8 hm hG h hdp hs hk
theorem Z18h {T0:T} (hm:P.follows .mixedOrders=true) (hG:Gok P Γ) {lp:St→Code→Option Zak} {fuel:Nat} {fn:FuncId} {s:St} {args:List SV} {W0:Bas} {e:Env} {w:World} {id0 g:Nat} {fS:FuncId} {f:SpF} {sum:Sum} {k:Func→Z4x} {R:Ending→World→Prop}
  (hg:Γ[g]?=some sum) (hM:SpM P fS sum f) (h:Rep e W0 s w) (hdp:s.dp=0)
  (hT:ownB P lp Γ fuel fn s args id0 g fS f k=T0) (hs:T0.sat Γ [] Ψ [] e.r)
  (hk:∀ F out s' e' a' w' more,Rel e' W0 s' a' w'→Env.le e e'→(k F out s').sat Γ e'.R Ψ more e'.r→(∀ id,out ≠ .exit id)∧∃ v,(results F a'.tmps).run P w'=.ok v w'∧R (.returned v) w') :
  Calls P fn (args.map (SV.den e)).toArray w R:=by
 rw [T.sat_R [] e.R] at hs
 subst hT
 exact Z1e9 hm hG hg hM h hdp hs hk
end
end Go.Sx
namespace Go.Proofs.YtgcoidbaoigkeaaGreatDoor.fix
open Go.RowKit Go.Sx
noncomputable def keyA (l:List Int) (ax:Nat) (x:Int):Int:=co (l.getD x.toNat 0) ax + co (l.getD x.toNat 0) (ax + 3)
noncomputable def ltK (l:List Int) (ax:Nat) (x y:Int):Bool:=decide (keyA l ax x < keyA l ax y∨(keyA l ax x=keyA l ax y∧x < y))
noncomputable def Zbk (l:List Int) (ax:Nat) (s:List Int):List Int:=s.mergeSort fun x y=>!ltK l ax y x
noncomputable def Z45 (ax:Int):St:={ fr:=[],mem:=[⟨48,[.go (.a 0)],true⟩,⟨45,[.go (.a 1)],true⟩,⟨3,[.i .i64 (.c ax)],true⟩],rows:=[],nv:=4,nx:=0,fl:=3,flr:=0,gl:=gl0,hs:=[(Z3d,.v 0),([.i .i64],.v 1)] }
noncomputable def Z18i:List SV:=[Go.Sx.one (.i .i64 (.v 2)),Go.Sx.one (.i .i64 (.v 3)),Go.Sx.one (.p 0 0),Go.Sx.one (.p 1 0),Go.Sx.one (.p 2 0)]
noncomputable def Zri (ax:Int):T:=Z1gd Tryz.prog Z7x [] 1000 67 (Z45 ax) Z18i fun F=>Zfc Tryz.prog F [Bo]
def Zae:List (Option Iv):=[none,none,iv 0 1000,iv 0 1000]
end Go.Proofs.YtgcoidbaoigkeaaGreatDoor.fix
namespace Go.Proofs.YtgcoidbaoigkeaaGreatDoor.fix
open Go.RowKit Go.Sx
def Zus:TX:=(.asrt (.lt (.v 2) (.ln (.v 1))) (.asrt (.le (.c 0) (.l2 .at (.v 1) (.v 2))) (.asrt (.lt (.l2 .at (.v 1) (.v 2)) (.ln (.v 0))) (.asrt (.lt (.v 3) (.ln (.v 1))) (.asrt (.le (.c 0) (.l2 .at (.v 1) (.v 3))) (.asrt (.lt (.l2 .at (.v 1) (.v 3)) (.ln (.v 0))) (.ite (.not (.eq (.wr .i64 (.add (.l2 .at (.l2 .at (.v 0) (.l2 .at (.v 1) (.v 2))) (.c 0)) (.l2 .at (.l2 .at (.v 0) (.l2 .at (.v 1) (.v 2))) (.c 3)))) (.wr .i64 (.add (.l2 .at (.l2 .at (.v 0) (.l2 .at (.v 1) (.v 3))) (.c 0)) (.l2 .at (.l2 .at (.v 0) (.l2 .at (.v 1) (.v 3))) (.c 3)))))) (.ite (.lt (.wr .i64 (.add (.l2 .at (.l2 .at (.v 0) (.l2 .at (.v 1) (.v 2))) (.c 0)) (.l2 .at (.l2 .at (.v 0) (.l2 .at (.v 1) (.v 2))) (.c 3)))) (.wr .i64 (.add (.l2 .at (.l2 .at (.v 0) (.l2 .at (.v 1) (.v 3))) (.c 0)) (.l2 .at (.l2 .at (.v 0) (.l2 .at (.v 1) (.v 3))) (.c 3))))) (.ret [(.c 1)])
(.ret [(.c 0)]))
(.ite (.lt (.l2 .at (.v 1) (.v 2)) (.l2 .at (.v 1) (.v 3))) (.ret [(.c 1)])
(.ret [(.c 0)])))))))))
def Zut:TX:=(.asrt (.lt (.v 2) (.ln (.v 1))) (.asrt (.le (.c 0) (.l2 .at (.v 1) (.v 2))) (.asrt (.lt (.l2 .at (.v 1) (.v 2)) (.ln (.v 0))) (.asrt (.lt (.v 3) (.ln (.v 1))) (.asrt (.le (.c 0) (.l2 .at (.v 1) (.v 3))) (.asrt (.lt (.l2 .at (.v 1) (.v 3)) (.ln (.v 0))) (.ite (.not (.eq (.wr .i64 (.add (.l2 .at (.l2 .at (.v 0) (.l2 .at (.v 1) (.v 2))) (.c 1)) (.l2 .at (.l2 .at (.v 0) (.l2 .at (.v 1) (.v 2))) (.c 4)))) (.wr .i64 (.add (.l2 .at (.l2 .at (.v 0) (.l2 .at (.v 1) (.v 3))) (.c 1)) (.l2 .at (.l2 .at (.v 0) (.l2 .at (.v 1) (.v 3))) (.c 4)))))) (.ite (.lt (.wr .i64 (.add (.l2 .at (.l2 .at (.v 0) (.l2 .at (.v 1) (.v 2))) (.c 1)) (.l2 .at (.l2 .at (.v 0) (.l2 .at (.v 1) (.v 2))) (.c 4)))) (.wr .i64 (.add (.l2 .at (.l2 .at (.v 0) (.l2 .at (.v 1) (.v 3))) (.c 1)) (.l2 .at (.l2 .at (.v 0) (.l2 .at (.v 1) (.v 3))) (.c 4))))) (.ret [(.c 1)])
(.ret [(.c 0)]))
(.ite (.lt (.l2 .at (.v 1) (.v 2)) (.l2 .at (.v 1) (.v 3))) (.ret [(.c 1)])
(.ret [(.c 0)])))))))))
def Zuu:TX:=(.asrt (.lt (.v 2) (.ln (.v 1))) (.asrt (.le (.c 0) (.l2 .at (.v 1) (.v 2))) (.asrt (.lt (.l2 .at (.v 1) (.v 2)) (.ln (.v 0))) (.asrt (.lt (.v 3) (.ln (.v 1))) (.asrt (.le (.c 0) (.l2 .at (.v 1) (.v 3))) (.asrt (.lt (.l2 .at (.v 1) (.v 3)) (.ln (.v 0))) (.ite (.not (.eq (.wr .i64 (.add (.l2 .at (.l2 .at (.v 0) (.l2 .at (.v 1) (.v 2))) (.c 2)) (.l2 .at (.l2 .at (.v 0) (.l2 .at (.v 1) (.v 2))) (.c 5)))) (.wr .i64 (.add (.l2 .at (.l2 .at (.v 0) (.l2 .at (.v 1) (.v 3))) (.c 2)) (.l2 .at (.l2 .at (.v 0) (.l2 .at (.v 1) (.v 3))) (.c 5)))))) (.ite (.lt (.wr .i64 (.add (.l2 .at (.l2 .at (.v 0) (.l2 .at (.v 1) (.v 2))) (.c 2)) (.l2 .at (.l2 .at (.v 0) (.l2 .at (.v 1) (.v 2))) (.c 5)))) (.wr .i64 (.add (.l2 .at (.l2 .at (.v 0) (.l2 .at (.v 1) (.v 3))) (.c 2)) (.l2 .at (.l2 .at (.v 0) (.l2 .at (.v 1) (.v 3))) (.c 5))))) (.ret [(.c 1)])
(.ret [(.c 0)]))
(.ite (.lt (.l2 .at (.v 1) (.v 2)) (.l2 .at (.v 1) (.v 3))) (.ret [(.c 1)])
(.ret [(.c 0)])))))))))
theorem Z11n:Z12 (Zr [] [] [] Zae (Zri ((0:Nat):Int)))=Zus:=by kernel_rfl
theorem Z11o:Z12 (Zr [] [] [] Zae (Zri ((1:Nat):Int)))=Zut:=by kernel_rfl
theorem Z11p:Z12 (Zr [] [] [] Zae (Zri ((2:Nat):Int)))=Zuu:=by kernel_rfl
structure Zuv (cL cS i j:Int):Prop where
 i0:0≤i
 i1:i < ((dec cS).length:Int)
 j0:0≤j
 j1:j < ((dec cS).length:Int)
 len:(dec cS).length≤1000
 its:∀ x ∈ dec cS,0≤x∧x < ((dec cL).length:Int)
 bxs:∀ b ∈ dec cL,Z36 b=true
theorem Zo0 {b:Int} (h:Z36 b=true):∀ k,k < 6→-32768≤co b k∧co b k≤32768:=by
 unfold Z36 at h
 rw [Z22] at h
 simp only [Z3j,Z1kg,Z1kh,Nat.zero_add] at h
 intro k hk
 match k,hk with
 | 0,_=>exact h.1.1
 | 1,_=>exact h.1.2.1
 | 2,_=>exact h.1.2.2
 | 3,_=>exact h.2.1.1
 | 4,_=>exact h.2.1.2.1
 | 5,_=>exact h.2.1.2.2
theorem Z1ea {cL cS i j:Int} (h:Zuv cL cS i j) (ax:Nat) (hax:ax < 3) {T0:T} (hT:Zri ax=T0):T0.sat [] [] (fun ys=>ys=[b01 (ltK (dec cL) ax ((dec cS).getD i.toNat 0) ((dec cS).getD j.toNat 0))]) [] [cL,cS,i,j]:=by
 have hv:Z17 Zae [cL,cS,i,j]:=Z1 trivial (Z1 trivial (Z1 ⟨h.i0,by have:=h.i1; have:=h.len; show i≤(1000:Int); omega⟩ (Z1 ⟨h.j0,by have:=h.j1; have:=h.len; show j≤(1000:Int); omega⟩ Z4)))
 have hx:=h.its _ (Z10 (l:=dec cS) (i:=i.toNat) (by have:=h.i0; have:=h.i1; omega))
 have hy:=h.its _ (Z10 (l:=dec cS) (i:=j.toNat) (by have:=h.j0; have:=h.j1; omega))
 have bx:=Zo0 (h.bxs _ (Z10 (l:=dec cL) (i:=((dec cS).getD i.toNat 0).toNat) (by omega)))
 have byy:=Zo0 (h.bxs _ (Z10 (l:=dec cL) (i:=((dec cS).getD j.toNat 0).toNat) (by omega)))
 have i1:=h.i1
 have j1:=h.j1
 clear h
 have hco:∀ x k,(dec x).getD k 0=co x k:=fun _ _=>rfl
 have key:∀ (Ψ:List Int→Prop) (t:T) (tx:TX),Z12 (Zr [] [] [] Zae t)=tx→tx.sat [] [] Ψ [] [cL,cS,i,j]→t.sat [] [] Ψ [] [cL,cS,i,j]:=by
  rintro Ψ t tx rfl h
  exact Z3z Z8 _ [] Zae [] _ Z40 hv (Z6o _ _ _ h)
 have hcase:ax=0∨ax=1∨ax=2:=by omega
 rcases hcase with hq | hq | hq
 ·subst hq
  refine key _ _ Zus (by rw [← hT]; exact Z11n) ?_
  clear key hv hT
  simp only [Zus,TX.sat,XB.prop,X.den,Z1kk,Z1kl,Z1ke,Z1kf,Z1ki,Z1kj,Z1kg,Z1kh,mkS,mkP,and_true,true_and,Z1kp,Z1kq,not_or,not_and,Z1km,ne_eq,Z1kn,Z1ko,L2.den]
  generalize dec cS=S at *
  generalize dec cL=L at *
  simp only [hco,show Int.toNat 0=0 from rfl,show Int.toNat 3=3 from rfl]
  generalize S.getD i.toNat 0=x at *
  generalize S.getD j.toNat 0=y at *
  have k1:=bx 0 (by omega); have k2:=bx 3 (by omega); have k3:=byy 0 (by omega); have k4:=byy 3 (by omega)
  rw [Zf (by omega) (by omega),Zf (by omega) (by omega)]
  have hd:ltK L 0 x y=decide (co (L.getD x.toNat 0) 0 + co (L.getD x.toNat 0) 3 < co (L.getD y.toNat 0) 0 + co (L.getD y.toNat 0) 3∨(co (L.getD x.toNat 0) 0 + co (L.getD x.toNat 0) 3=co (L.getD y.toNat 0) 0 + co (L.getD y.toNat 0) 3∧x < y)):=rfl
  rw [hd]
  refine ⟨by omega,by omega,by omega,by omega,by omega,by omega,fun hne=>⟨fun hl=>?_,fun hl=>?_⟩,fun heq=>⟨fun hl=>?_,fun hl=>?_⟩⟩
  ·rw [decide_eq_true (by omega)]; rfl
  ·rw [decide_eq_false (by omega)]; rfl
  ·rw [decide_eq_true (by omega)]; rfl
  ·rw [decide_eq_false (by omega)]; rfl
 ·subst hq
  refine key _ _ Zut (by rw [← hT]; exact Z11o) ?_
  clear key hv hT
  simp only [Zut,TX.sat,XB.prop,X.den,Z1kk,Z1kl,Z1ke,Z1kf,Z1ki,Z1kj,Z1kg,Z1kh,mkS,mkP,and_true,true_and,Z1kp,Z1kq,not_or,not_and,Z1km,ne_eq,Z1kn,Z1ko,L2.den]
  generalize dec cS=S at *
  generalize dec cL=L at *
  simp only [hco,show Int.toNat 1=1 from rfl,show Int.toNat 4=4 from rfl]
  generalize S.getD i.toNat 0=x at *
  generalize S.getD j.toNat 0=y at *
  have k1:=bx 1 (by omega); have k2:=bx 4 (by omega); have k3:=byy 1 (by omega); have k4:=byy 4 (by omega)
  rw [Zf (by omega) (by omega),Zf (by omega) (by omega)]
  have hd:ltK L 1 x y=decide (co (L.getD x.toNat 0) 1 + co (L.getD x.toNat 0) 4 < co (L.getD y.toNat 0) 1 + co (L.getD y.toNat 0) 4∨(co (L.getD x.toNat 0) 1 + co (L.getD x.toNat 0) 4=co (L.getD y.toNat 0) 1 + co (L.getD y.toNat 0) 4∧x < y)):=rfl
  rw [hd]
  refine ⟨by omega,by omega,by omega,by omega,by omega,by omega,fun hne=>⟨fun hl=>?_,fun hl=>?_⟩,fun heq=>⟨fun hl=>?_,fun hl=>?_⟩⟩
  ·rw [decide_eq_true (by omega)]; rfl
  ·rw [decide_eq_false (by omega)]; rfl
  ·rw [decide_eq_true (by omega)]; rfl
  ·rw [decide_eq_false (by omega)]; rfl
 ·subst hq
  refine key _ _ Zuu (by rw [← hT]; exact Z11p) ?_
  clear key hv hT
  simp only [Zuu,TX.sat,XB.prop,X.den,Z1kk,Z1kl,Z1ke,Z1kf,Z1ki,Z1kj,Z1kg,Z1kh,mkS,mkP,and_true,true_and,Z1kp,Z1kq,not_or,not_and,Z1km,ne_eq,Z1kn,Z1ko,L2.den]
  generalize dec cS=S at *
  generalize dec cL=L at *
  simp only [hco,show Int.toNat 2=2 from rfl,show Int.toNat 5=5 from rfl]
  generalize S.getD i.toNat 0=x at *
  generalize S.getD j.toNat 0=y at *
  have k1:=bx 2 (by omega); have k2:=bx 5 (by omega); have k3:=byy 2 (by omega); have k4:=byy 5 (by omega)
  rw [Zf (by omega) (by omega),Zf (by omega) (by omega)]
  have hd:ltK L 2 x y=decide (co (L.getD x.toNat 0) 2 + co (L.getD x.toNat 0) 5 < co (L.getD y.toNat 0) 2 + co (L.getD y.toNat 0) 5∨(co (L.getD x.toNat 0) 2 + co (L.getD x.toNat 0) 5=co (L.getD y.toNat 0) 2 + co (L.getD y.toNat 0) 5∧x < y)):=rfl
  rw [hd]
  refine ⟨by omega,by omega,by omega,by omega,by omega,by omega,fun hne=>⟨fun hl=>?_,fun hl=>?_⟩,fun heq=>⟨fun hl=>?_,fun hl=>?_⟩⟩
  ·rw [decide_eq_true (by omega)]; rfl
  ·rw [decide_eq_false (by omega)]; rfl
  ·rw [decide_eq_true (by omega)]; rfl
  ·rw [decide_eq_false (by omega)]; rfl
theorem less_c {w:World} {b4 b5 b11:Nat} {vL vS:Value} {cL cS i j:Int} {ax:Nat} (hax:ax < 3) (hgl:Zoa gl0 w) (h4:w.heap[b4]?=some (.cells #[vL] 48 (0,0))) (h5:w.heap[b5]?=some (.cells #[vS] 45 (0,0)))
  (h11:w.heap[b11]?=some (.cells #[.int .i64 ax] 3 (0,0))) (n1:b4 ≠ b5) (n2:b4 ≠ b11) (n3:b5 ≠ b11) (hL:Z53 w Z3d vL cL) (hS:Z53 w [.i .i64] vS cS) (hp:Zuv cL cS i j) :
  Calls Tryz.prog 67 #[.int .i64 i,.int .i64 j,.pointer (some ⟨b4,0,none⟩),.pointer (some ⟨b5,0,none⟩),.pointer (some ⟨b11,0,none⟩)] w fun x w' =>
   x=.returned (.bool (ltK (dec cL) ax ((dec cS).getD i.toNat 0) ((dec cS).getD j.toNat 0)))∧Below w.heap.size w w':=by
 obtain ⟨aL,lL,kL,rfl⟩:=hL.slice
 obtain ⟨aS,lS,kS,rfl⟩:=hS.slice
 have hrep:Rep ⟨[cL,cS,i,j],[b4,b5,b11],[],[],[.slice aL lL kL,.slice aS lS kS]⟩ ⟨w,fun _=>False⟩ (Z45 ax) w:=by
  refine ⟨Zv.refl _,rfl,rfl,rfl,rfl,?_,?_,?_,?_,?_,?_,?_,⟨hgl,fun _ _ _ hh=>hh⟩,?_⟩
  ·intro n b hb hl
   match n,hb with
   | 0,hb=>simp only [Z45,Z1ke,Option.some.injEq] at hb; subst hb; exact h4
   | 1,hb=>simp only [Z45,Z1kf,Z1ke,Option.some.injEq] at hb; subst hb; exact h5
   | 2,hb=>simp only [Z45,Z1kf,Z1ke,Option.some.injEq] at hb; subst hb; exact h11
   | n + 3,hb=>simp [Z45] at hb
  ·intro n b hb hl hfl
   have:n < 3:=(List.getElem?_eq_some_iff.1 hb).1
   have hfl:3≤n:=hfl
   omega
  ·intro n m b c hb hc _ _ he
   have hn:n < 3:=(List.getElem?_eq_some_iff.1 hb).1
   have hm:m < 3:=(List.getElem?_eq_some_iff.1 hc).1
   match n,m,hn,hm,he with
   | 0,0,_,_,_=>rfl
   | 1,1,_,_,_=>rfl
   | 2,2,_,_,_=>rfl
   | 0,1,_,_,he=>exact absurd he n1
   | 1,0,_,_,he=>exact absurd he.symm n1
   | 0,2,_,_,he=>exact absurd he n2
   | 2,0,_,_,he=>exact absurd he.symm n2
   | 1,2,_,_,he=>exact absurd he n3
   | 2,1,_,_,he=>exact absurd he.symm n3
  ·intro n b hb; simp [Z45] at hb
  ·intro n b hb; simp [Z45] at hb
  ·intro n m b c k hb; simp [Z45] at hb
  ·intro n m b c _ hb; simp [Z45] at hb
  ·intro n ks c hi
   match n,hi with
   | 0,hi=>simp only [Z45,Z1ke,Option.some.injEq,Prod.mk.injEq] at hi; obtain ⟨rfl,rfl⟩:=hi; exact hL.toN rfl
   | 1,hi=>simp only [Z45,Z1kf,Z1ke,Option.some.injEq,Prod.mk.injEq] at hi; obtain ⟨rfl,rfl⟩:=hi; exact hS.toN rfl
   | n + 2,hi=>simp [Z45] at hi
 obtain ⟨T0,hT⟩:∃ T0,Zri ax=T0:=⟨_,rfl⟩
 have hs:=Z1ea hp ax hax hT
 have hc:=Z11m (Γ:=[]) (Ψ:=fun ys=>ys=[b01 (ltK (dec cL) ax ((dec cS).getD i.toNat 0) ((dec cS).getD j.toNat 0))]) facts.mixed noG (lp:=Z7x) (fuel:=1000) (fn:=67) (args:=Z18i) (rs:=[Bo]) hrep rfl hT hs
 refine hc.mono ?_
 rintro x w' ⟨ys,v,rfl,rfl,hres,hb⟩
 refine ⟨?_,hb.below⟩
 rw [Z9v (by rfl) hres]
 cases ltK (dec cL) ax ((dec cS).getD i.toNat 0) ((dec cS).getD j.toNat 0) <;> rfl
end Go.Proofs.YtgcoidbaoigkeaaGreatDoor.fix
