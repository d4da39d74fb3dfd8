/-
  Symbolic execution of the model, and what functions of the program come to: part 5.
-/
import Derived.Sort.OwnSortedInts
import Derived.Test.YtgcoidbaoigkeaaGreatDoorPkd
set_option linter.unusedVariables false
set_option linter.unusedSimpArgs false
open List renaming getElem?_cons_zero → Z1gq, getElem?_cons_succ → Z1gr, getD_cons_zero → Z1gs, getD_cons_succ → Z1gt, cons_append → Z1gu, nil_append → Z1gv, map_cons → Z1gw, map_nil → Z1gx
namespace Go.Proofs.YtgcoidbaoigkeaaGreatDoor.fix
open Go.RowKit Go.Sx
noncomputable def Zca:List Sum:=[]
def Zvm:List Inf:=[]
def Zlx:TX:=(.ite (.or (.or (.lt (.v 0) (.c (-32768))) (.lt (.c 32768) (.v 0))) (.or (.or (.lt (.v 1) (.c (-32768))) (.lt (.c 32768) (.v 1))) (.or (.or (.lt (.v 2) (.c (-32768))) (.lt (.c 32768) (.v 2))) (.or (.or (.lt (.v 3) (.c 0)) (.lt (.c 255) (.v 3))) (.or (.lt (.v 4) (.c 0)) (.lt (.c 255) (.v 4))))))) (.ret [(.c 8)])
(.ret [(.c 0)]))
theorem Zsd:Z13 (Zs [] Zvm [] Zd9 (Zn Tryz.prog Z78 gl0 Zca 1000 177 [An 5] [I1]))=Zlx:=by kernel_rfl
theorem Z197:Gok Tryz.prog Zca:=noG
theorem Z198:Zi Zca Zvm:=Z6
theorem Zp9:Z3t.ok Tryz.prog:=Sum.okF facts.mixed Z197 Z198 Zsd rfl (fun _=>rfl) (by
 intro xs hx hp
 obtain ⟨a0,a1,a2,a3,a4,rfl⟩:=len5 hx
 by_cases hc0:Z16 [a0,a1,a2,a3,a4] 0=true
 ·have hd0:=hc0
  try simp only [Z16,Z1h3,Zg,Zd,TX.sat,XB.prop,X.den,Z1gw,Z1gx,Z1gq,Z1gr,Z1gu,Z1gv,Z1gs,Z1gt,mkS,mkP,and_true,true_and,Z1h1,Z1h2,not_or,not_and,Z1gy,ne_eq,Z1gz,Z1h0,Nat.reduceAdd,Nat.zero_add] at hd0
  simp only [Zlx,Zca,TX.sat,XB.prop,X.den,Z1gw,Z1gx,Z1gq,Z1gr,Z1gu,Z1gv,Z1gs,Z1gt,mkS,mkP,and_true,true_and,Z1h1,Z1h2,not_or,not_and,Z1gy,ne_eq,Z1gz,Z1h0,Z2j,hc0,ex3,ex4,ex5,ex6,Zeb,Z9k,er,b01,Zd,if_true,if_false,reduceIte,Bool.false_eq_true,Nat.reduceAdd,Nat.zero_add]
  clear hc0
  repeat' first | exact trivial | refine And.intro ?_ ?_ | intro _
  all_goals first | trivial | rfl | omega | (simp [Int.max_comm,Int.min_comm]; done) | (simp only [List.cons.injEq,and_true,true_and]; omega) | (split <;> first | trivial | rfl | omega)
 ·have hd0:=hc0
  try simp only [Z16,Z1h3,Zg,Zd,TX.sat,XB.prop,X.den,Z1gw,Z1gx,Z1gq,Z1gr,Z1gu,Z1gv,Z1gs,Z1gt,mkS,mkP,and_true,true_and,Z1h1,Z1h2,not_or,not_and,Z1gy,ne_eq,Z1gz,Z1h0,Nat.reduceAdd,Nat.zero_add] at hd0
  simp only [Zlx,Zca,TX.sat,XB.prop,X.den,Z1gw,Z1gx,Z1gq,Z1gr,Z1gu,Z1gv,Z1gs,Z1gt,mkS,mkP,and_true,true_and,Z1h1,Z1h2,not_or,not_and,Z1gy,ne_eq,Z1gz,Z1h0,Z2j,hc0,ex3,ex4,ex5,ex6,Zeb,Z9k,er,b01,Zd,if_true,if_false,reduceIte,Bool.false_eq_true,Nat.reduceAdd,Nat.zero_add]
  clear hc0
  repeat' first | exact trivial | refine And.intro ?_ ?_ | intro _
  all_goals first | trivial | rfl | omega | (simp [Int.max_comm,Int.min_comm]; done) | (simp only [List.cons.injEq,and_true,true_and]; omega) | (split <;> first | trivial | rfl | omega))
theorem Zjn:Z18 Z3t Zl4:=⟨fun _ h=>h,fun vs xs h hp=>Z1 (Zxz _ (by omega)) Z2⟩
theorem Zcb {x:List Int} {o:Nat} (h:Z16 x o=true):(-32768≤x.getD o 0∧x.getD o 0≤32768)∧(-32768≤x.getD (o + 1) 0∧x.getD (o + 1) 0≤32768)∧(-32768≤x.getD (o + 2) 0∧x.getD (o + 2) 0≤32768)∧(0≤x.getD (o + 3) 0∧x.getD (o + 3) 0≤255)∧(0≤x.getD (o + 4) 0∧x.getD (o + 4) 0≤255):=by
 simp only [Z16,Z1h3,Zg,Zd] at h
 exact ⟨h.1.1,h.1.2.1,h.1.2.2,h.2.1,h.2.2⟩
theorem Z199 {d p q:Int} (hp:0≤p) (hq:p≤q) (h0:0 < q):min 0 d≤d * p / q∧d * p / q≤max 0 d:=by
 rcases Int.le_total 0 d with hd | hd
 ·have h1:0≤d * p:=Int.mul_nonneg hd hp
  have h2:d * p≤d * q:=Int.mul_le_mul_of_nonneg_left hq hd
  have h3:0≤d * p / q:=Int.ediv_nonneg h1 (by omega)
  have h4:d * p / q≤d:=by
   apply Int.ediv_le_of_le_mul h0
   exact h2
  omega
 ·have h1:d * p≤0:=Int.mul_nonpos_of_nonpos_of_nonneg hd hp
  have h2:d * q≤d * p:=Int.mul_le_mul_of_nonpos_left hd hq
  have h3:d≤d * p / q:=by
   rw [Int.le_ediv_iff_mul_le h0]
   exact h2
  have h4:d * p / q≤0:=by
   apply Int.ediv_le_of_le_mul h0
   omega
  omega
theorem Z13w {a b p q:Int} (hp:0≤p) (hq:p≤q) (h0:0 < q):min a b≤a + (b - a) * p / q∧a + (b - a) * p / q≤max a b:=by
 have:=Z199 (d:=b - a) hp hq h0
 omega
theorem Zpa {x:List Int} (h:Z5b x=true):x.getD 3 0 < x.getD 0 0∧x.getD 0 0≤x.getD 8 0:=by simpa only [Z5b,Zd] using h
theorem Z5a {x:List Int} {o:Nat} (hb:Z5b x=true):min (x.getD o 0) (x.getD (o + 5) 0)≤Zag x o∧Zag x o≤max (x.getD o 0) (x.getD (o + 5) 0):=by
 have:=Zpa hb
 exact Z13w (by omega) (by omega) (by omega)
theorem Z13x {x:List Int} (h:Zbu x=true):256≤x.getD 0 0∧x.getD 0 0≤4096:=by simpa only [Zbu,Zd] using h
theorem Z13y {x:List Int} (hn:Zbu x=true) (h1:Z16 x 1=true) (h6:Z16 x 6=true) (hb:Z5b x=true) :
  (-32768≤Zag x 1∧Zag x 1≤32768)∧(-32768≤Zag x 2∧Zag x 2≤32768)∧(0≤Zag x 4∧Zag x 4≤255)∧(0≤Zag x 5∧Zag x 5≤255):=by
 have p:=Zcb h1
 have q:=Zcb h6
 simp only [Nat.reduceAdd] at p q
 have m1:min (x.getD 1 0) (x.getD 6 0)≤Zag x 1∧Zag x 1≤max (x.getD 1 0) (x.getD 6 0):=Z5a hb
 have m2:min (x.getD 2 0) (x.getD 7 0)≤Zag x 2∧Zag x 2≤max (x.getD 2 0) (x.getD 7 0):=Z5a hb
 have m4:min (x.getD 4 0) (x.getD 9 0)≤Zag x 4∧Zag x 4≤max (x.getD 4 0) (x.getD 9 0):=Z5a hb
 have m5:min (x.getD 5 0) (x.getD 10 0)≤Zag x 5∧Zag x 5≤max (x.getD 5 0) (x.getD 10 0):=Z5a hb
 omega
theorem Z1ff:Z18 Z18a i_cut:=⟨fun _ h=>h,fun vs xs h hp=>by
 show Zr (ivs 2 (-32768) 32768++[iv 0 4096]++ivs 2 0 255++[iv 0 8]) (ex6 (Z15z xs))
 have z:∀ e:Int,0≤e→e≤8→Zr (ivs 2 (-32768) 32768++[iv 0 4096]++ivs 2 0 255++[iv 0 8]) (ex6 [0,0,0,0,0,e]):=fun e h1 h2 =>
  Z1 (Z7.2 (by simp)) (Z1 (Z7.2 (by simp)) (Z1 (Z7.2 (by simp)) (Z1 (Z7.2 (by simp)) (Z1 (Z7.2 (by simp)) (Z1 ⟨h1,h2⟩ Z2)))))
 unfold Z15z
 split
 ·rename_i hn
  split
  ·rename_i hpp
   simp only [Z1h3] at hpp
   split
   ·rename_i hb
    obtain ⟨f1,f2,f4,f5⟩:=Z13y hn hpp.1 hpp.2 hb
    have:=Z13x hn
    exact Z1 f1 (Z1 f2 (Z1 (Z7.2 (by show 0≤xs.getD 0 0∧xs.getD 0 0≤4096; omega)) (Z1 f4 (Z1 f5 (Z1 (Z7.2 (by simp [Z1eq])) Z2)))))
   ·exact z 6 (by omega) (by omega)
  ·exact z 8 (by omega) (by omega)
 ·exact z 2 (by omega) (by omega)⟩
theorem Zeu {a b p q:Int} (ha:-32768≤a∧a≤32768) (hb:-32768≤b∧b≤32768) (hp:0≤p∧p≤65536) (hq:p≤q∧q≤65536) (h0:0 < q) :
  IntKind.i64.wrap (b - a)=b - a∧IntKind.i64.wrap ((b - a) * p)=(b - a) * p∧IntKind.i64.wrap (a + (b - a) * p / q)=a + (b - a) * p / q∧Zr [zz,pos] [(b - a) * p,q]:=by
 have h1:=Z17 (x:=b - a) (y:=p) (m:=65536) (n:=65536) (by omega) (by omega)
 have h2:=Z13w (a:=a) (b:=b) hp.1 hq.1 h0
 exact ⟨Zo (by omega) (by omega),Zo (by omega) (by omega),Zo (by omega) (by omega),Zvk (by omega) (by omega) (by omega) (by omega)⟩
noncomputable def Zpb:List Sum:=[Z3t,Z1m]
def I_cut:List Inf:=[Zl4,Z7y]
def Zyu:TX:=(.ite (.or (.lt (.v 0) (.c 256)) (.lt (.c 4096) (.v 0))) (.ret [(.c 0),(.c 0),(.c 0),(.c 0),(.c 0),(.c 2)])
(.callp 0 [(.v 1),(.v 2),(.v 3),(.v 4),(.v 5)] (.ite (.not (.eq (.v 11) (.c 0))) (.ret [(.c 0),(.c 0),(.c 0),(.c 0),(.c 0),(.v 11)])
(.callp 0 [(.v 6),(.v 7),(.v 8),(.v 9),(.v 10)] (.ite (.not (.eq (.v 12) (.c 0))) (.ret [(.c 0),(.c 0),(.c 0),(.c 0),(.c 0),(.v 12)])
(.ite (.or (.le (.v 0) (.v 3)) (.lt (.v 8) (.v 0))) (.ret [(.c 0),(.c 0),(.c 0),(.c 0),(.c 0),(.c 6)])
(.call 1 [(.wr .i64 (.mul (.wr .i64 (.sub (.v 6) (.v 1))) (.wr .i64 (.sub (.v 0) (.v 3))))),(.wr .i64 (.sub (.v 8) (.v 3)))] (.call 1 [(.wr .i64 (.mul (.wr .i64 (.sub (.v 7) (.v 2))) (.wr .i64 (.sub (.v 0) (.v 3))))),(.wr .i64 (.sub (.v 8) (.v 3)))] (.call 1 [(.wr .i64 (.mul (.wr .i64 (.sub (.v 9) (.v 4))) (.wr .i64 (.sub (.v 0) (.v 3))))),(.wr .i64 (.sub (.v 8) (.v 3)))] (.call 1 [(.wr .i64 (.mul (.wr .i64 (.sub (.v 10) (.v 5))) (.wr .i64 (.sub (.v 0) (.v 3))))),(.wr .i64 (.sub (.v 8) (.v 3)))] (.ret [(.wr .i64 (.add (.v 1) (.v 13))),(.wr .i64 (.add (.v 2) (.v 15))),(.v 0),(.wr .i64 (.add (.v 4) (.v 17))),(.wr .i64 (.add (.v 5) (.v 19))),(.c 0)])))))))))))
theorem Z19a:Z13 (Zs [] I_cut [] Zrw (Zn Tryz.prog Z78 gl0 Zpb 1000 176 [I1,An 5,An 5] [An 5,I1]))=Zyu:=by kernel_rfl
theorem g_cut:Gok Tryz.prog Zpb:=(more Zp9 (fix.one Z6m))
theorem o_cut:Zi Zpb I_cut:=(Z3 Zjn (Z3 Z4u Z6))
theorem ok_cut:Z18a.ok Tryz.prog:=Sum.okF facts.mixed g_cut o_cut Z19a rfl (fun _=>rfl) (by
 intro xs hx hp
 obtain ⟨a0,a1,a2,a3,a4,a5,a6,a7,a8,a9,a10,rfl⟩:=len11 hx
 have e1:Z16 [a1,a2,a3,a4,a5] 0=Z16 [a0,a1,a2,a3,a4,a5,a6,a7,a8,a9,a10] 1:=rfl
 have e2:Z16 [a6,a7,a8,a9,a10] 0=Z16 [a0,a1,a2,a3,a4,a5,a6,a7,a8,a9,a10] 6:=rfl
 clear hx hp
 by_cases hn:Zbu [a0,a1,a2,a3,a4,a5,a6,a7,a8,a9,a10]=true
 ·have kn:=Z13x hn
  simp only [TX.sat,XB.prop,X.den,Z1gw,Z1gx,Z1gq,Z1gr,Z1gu,Z1gv,Z1gs,Z1gt,mkS,mkP,and_true,true_and,Z1h1,Z1h2,not_or,not_and,Z1gy,ne_eq,Z1gz,Z1h0] at kn
  by_cases h1:Z16 [a0,a1,a2,a3,a4,a5,a6,a7,a8,a9,a10] 1=true
  ·by_cases h6:Z16 [a0,a1,a2,a3,a4,a5,a6,a7,a8,a9,a10] 6=true
   ·have k1:=Zcb h1
    have k6:=Zcb h6
    simp only [TX.sat,XB.prop,X.den,Z1gw,Z1gx,Z1gq,Z1gr,Z1gu,Z1gv,Z1gs,Z1gt,mkS,mkP,and_true,true_and,Z1h1,Z1h2,not_or,not_and,Z1gy,ne_eq,Z1gz,Z1h0,Nat.reduceAdd] at k1 k6
    by_cases hb:Z5b [a0,a1,a2,a3,a4,a5,a6,a7,a8,a9,a10]=true
    ·have kb:=Zpa hb
     simp only [TX.sat,XB.prop,X.den,Z1gw,Z1gx,Z1gq,Z1gr,Z1gu,Z1gv,Z1gs,Z1gt,mkS,mkP,and_true,true_and,Z1h1,Z1h2,not_or,not_and,Z1gy,ne_eq,Z1gz,Z1h0] at kb
     have w0:IntKind.i64.wrap (a0 - a3)=a0 - a3:=Zo (by omega) (by omega)
     have w8:IntKind.i64.wrap (a8 - a3)=a8 - a3:=Zo (by omega) (by omega)
     obtain ⟨u1,v1,x1,p1⟩:=Zeu (a:=a1) (b:=a6) (p:=a0 - a3) (q:=a8 - a3) k1.1 k6.1 (by omega) (by omega) (by omega)
     obtain ⟨u2,v2,x2,p2⟩:=Zeu (a:=a2) (b:=a7) (p:=a0 - a3) (q:=a8 - a3) k1.2.1 k6.2.1 (by omega) (by omega) (by omega)
     obtain ⟨u4,v4,x4,p4⟩:=Zeu (a:=a4) (b:=a9) (p:=a0 - a3) (q:=a8 - a3) (by omega) (by omega) (by omega) (by omega) (by omega)
     obtain ⟨u5,v5,x5,p5⟩:=Zeu (a:=a5) (b:=a10) (p:=a0 - a3) (q:=a8 - a3) (by omega) (by omega) (by omega) (by omega) (by omega)
     simp only [Zyu,Zpb,Z3t,Z1m,TX.sat,XB.prop,X.den,Z1gw,Z1gx,Z1gq,Z1gr,Z1gu,Z1gv,Z1gs,Z1gt,mkS,mkP,and_true,true_and,Z1h1,Z1h2,not_or,not_and,Z1gy,ne_eq,Z1gz,Z1h0,Zah,Z2j,Z1d,e1,e2,Z15z,hn,h1,h6,hb,er,Z1eq,ex6,Zag,Nat.reduceAdd,if_true,reduceIte,Bool.and_self,w0,w8,u1,u2,u4,u5,v1,v2,v4,v5,x1,x2,x4,x5]
     repeat' first | exact trivial | assumption | refine And.intro ?_ ?_ | intro _
     all_goals first | trivial | assumption | omega | (simp; done)
    ·have kb:¬ (a3 < a0∧a0≤a8):=fun h=>hb (by simp only [Z5b,Zd,TX.sat,XB.prop,X.den,Z1gw,Z1gx,Z1gq,Z1gr,Z1gu,Z1gv,Z1gs,Z1gt,mkS,mkP,and_true,true_and,Z1h1,Z1h2,not_or,not_and,Z1gy,ne_eq,Z1gz,Z1h0]; exact h)
     simp only [Zyu,Zpb,Z3t,Z1m,TX.sat,XB.prop,X.den,Z1gw,Z1gx,Z1gq,Z1gr,Z1gu,Z1gv,Z1gs,Z1gt,mkS,mkP,and_true,true_and,Z1h1,Z1h2,not_or,not_and,Z1gy,ne_eq,Z1gz,Z1h0,Zah,Z2j,Z1d,e1,e2,Z15z,hn,h1,h6,hb,er,Z1eq,ex6,Zag,Nat.reduceAdd,if_true,if_false,reduceIte,Bool.and_self]
     repeat' first | exact trivial | assumption | refine And.intro ?_ ?_ | intro _
     all_goals first | trivial | assumption | omega | (simp; done)
   ·simp only [Zyu,Zpb,Z3t,Z1m,TX.sat,XB.prop,X.den,Z1gw,Z1gx,Z1gq,Z1gr,Z1gu,Z1gv,Z1gs,Z1gt,mkS,mkP,and_true,true_and,Z1h1,Z1h2,not_or,not_and,Z1gy,ne_eq,Z1gz,Z1h0,Zah,Z2j,Z1d,e1,e2,Z15z,hn,h1,h6,er,Z1eq,ex6,Zag,Nat.reduceAdd,if_true,if_false,reduceIte,Bool.and_false,Bool.false_eq_true]
    repeat' first | exact trivial | assumption | refine And.intro ?_ ?_ | intro _
    all_goals first | trivial | assumption | omega | (simp; done)
  ·simp only [Zyu,Zpb,Z3t,Z1m,TX.sat,XB.prop,X.den,Z1gw,Z1gx,Z1gq,Z1gr,Z1gu,Z1gv,Z1gs,Z1gt,mkS,mkP,and_true,true_and,Z1h1,Z1h2,not_or,not_and,Z1gy,ne_eq,Z1gz,Z1h0,Zah,Z2j,Z1d,e1,e2,Z15z,hn,h1,er,Z1eq,ex6,Zag,Nat.reduceAdd,if_true,if_false,reduceIte,Bool.false_and,Bool.false_eq_true]
   repeat' first | exact trivial | assumption | refine And.intro ?_ ?_ | intro _
   all_goals first | trivial | assumption | omega | (simp; done)
 ·have kn:¬ (256≤a0∧a0≤4096):=fun h=>hn (by simp only [Zbu,Zd,TX.sat,XB.prop,X.den,Z1gw,Z1gx,Z1gq,Z1gr,Z1gu,Z1gv,Z1gs,Z1gt,mkS,mkP,and_true,true_and,Z1h1,Z1h2,not_or,not_and,Z1gy,ne_eq,Z1gz,Z1h0]; exact h)
  simp only [Zyu,Zpb,Z3t,Z1m,TX.sat,XB.prop,X.den,Z1gw,Z1gx,Z1gq,Z1gr,Z1gu,Z1gv,Z1gs,Z1gt,mkS,mkP,and_true,true_and,Z1h1,Z1h2,not_or,not_and,Z1gy,ne_eq,Z1gz,Z1h0,Zah,Z2j,Z1d,e1,e2,Z15z,hn,er,Z1eq,ex6,Zag,Nat.reduceAdd,if_true,if_false,reduceIte,Bool.false_and,Bool.false_eq_true]
  repeat' first | exact trivial | assumption | refine And.intro ?_ ?_ | intro _
  all_goals first | trivial | assumption | omega | (simp; done))
noncomputable def Zly:List Sum:=[Z3t,Z18a]
def Z13z:List Inf:=[Zl4,i_cut]
def Z140:TX:=(.ite (.or (.lt (.v 0) (.c 256)) (.lt (.c 4096) (.v 0))) (.ret [.nl,(.c 2)])
(.callp 0 [(.v 1),(.v 2),(.v 3),(.v 4),(.v 5)] (.ite (.not (.eq (.v 16) (.c 0))) (.ret [.nl,(.v 16)])
(.callp 0 [(.v 6),(.v 7),(.v 8),(.v 9),(.v 10)] (.ite (.not (.eq (.v 17) (.c 0))) (.ret [.nl,(.v 17)])
(.callp 0 [(.v 11),(.v 12),(.v 13),(.v 14),(.v 15)] (.ite (.not (.eq (.v 18) (.c 0))) (.ret [.nl,(.v 18)])
(.ite (.le (.v 0) (.v 3)) (.ite (.le (.v 0) (.v 8)) (.ite (.le (.v 0) (.v 13)) (.ret [(.l2 .snoc .nl (.l2 .cons (.v 1) (.l2 .cons (.v 2) (.l2 .cons (.v 3) (.l2 .cons (.v 4) (.l2 .cons (.v 5) (.l2 .cons (.v 6) (.l2 .cons (.v 7) (.l2 .cons (.v 8) (.l2 .cons (.v 9) (.l2 .cons (.v 10) (.l2 .cons (.v 11) (.l2 .cons (.v 12) (.l2 .cons (.v 13) (.l2 .cons (.v 14) (.l2 .cons (.v 15) .nl)))))))))))))))),(.c 0)])
(.callp 1 [(.v 0),(.v 11),(.v 12),(.v 13),(.v 14),(.v 15),(.v 6),(.v 7),(.v 8),(.v 9),(.v 10)] (.callp 1 [(.v 0),(.v 11),(.v 12),(.v 13),(.v 14),(.v 15),(.v 1),(.v 2),(.v 3),(.v 4),(.v 5)] (.ret [(.l2 .snoc (.l2 .snoc .nl (.l2 .cons (.v 1) (.l2 .cons (.v 2) (.l2 .cons (.v 3) (.l2 .cons (.v 4) (.l2 .cons (.v 5) (.l2 .cons (.v 6) (.l2 .cons (.v 7) (.l2 .cons (.v 8) (.l2 .cons (.v 9) (.l2 .cons (.v 10) (.l2 .cons (.v 19) (.l2 .cons (.v 20) (.l2 .cons (.v 21) (.l2 .cons (.v 22) (.l2 .cons (.v 23) .nl)))))))))))))))) (.l2 .cons (.v 1) (.l2 .cons (.v 2) (.l2 .cons (.v 3) (.l2 .cons (.v 4) (.l2 .cons (.v 5) (.l2 .cons (.v 19) (.l2 .cons (.v 20) (.l2 .cons (.v 21) (.l2 .cons (.v 22) (.l2 .cons (.v 23) (.l2 .cons (.v 25) (.l2 .cons (.v 26) (.l2 .cons (.v 27) (.l2 .cons (.v 28) (.l2 .cons (.v 29) .nl)))))))))))))))),(.c 0)]))))
(.callp 1 [(.v 0),(.v 6),(.v 7),(.v 8),(.v 9),(.v 10),(.v 1),(.v 2),(.v 3),(.v 4),(.v 5)] (.ite (.not (.le (.v 0) (.v 13))) (.callp 1 [(.v 0),(.v 11),(.v 12),(.v 13),(.v 14),(.v 15),(.v 1),(.v 2),(.v 3),(.v 4),(.v 5)] (.ret [(.l2 .snoc .nl (.l2 .cons (.v 1) (.l2 .cons (.v 2) (.l2 .cons (.v 3) (.l2 .cons (.v 4) (.l2 .cons (.v 5) (.l2 .cons (.v 19) (.l2 .cons (.v 20) (.l2 .cons (.v 21) (.l2 .cons (.v 22) (.l2 .cons (.v 23) (.l2 .cons (.v 25) (.l2 .cons (.v 26) (.l2 .cons (.v 27) (.l2 .cons (.v 28) (.l2 .cons (.v 29) .nl)))))))))))))))),(.c 0)]))
(.callp 1 [(.v 0),(.v 6),(.v 7),(.v 8),(.v 9),(.v 10),(.v 11),(.v 12),(.v 13),(.v 14),(.v 15)] (.ret [(.l2 .snoc (.l2 .snoc .nl (.l2 .cons (.v 1) (.l2 .cons (.v 2) (.l2 .cons (.v 3) (.l2 .cons (.v 4) (.l2 .cons (.v 5) (.l2 .cons (.v 19) (.l2 .cons (.v 20) (.l2 .cons (.v 21) (.l2 .cons (.v 22) (.l2 .cons (.v 23) (.l2 .cons (.v 25) (.l2 .cons (.v 26) (.l2 .cons (.v 27) (.l2 .cons (.v 28) (.l2 .cons (.v 29) .nl)))))))))))))))) (.l2 .cons (.v 1) (.l2 .cons (.v 2) (.l2 .cons (.v 3) (.l2 .cons (.v 4) (.l2 .cons (.v 5) (.l2 .cons (.v 25) (.l2 .cons (.v 26) (.l2 .cons (.v 27) (.l2 .cons (.v 28) (.l2 .cons (.v 29) (.l2 .cons (.v 11) (.l2 .cons (.v 12) (.l2 .cons (.v 13) (.l2 .cons (.v 14) (.l2 .cons (.v 15) .nl)))))))))))))))),(.c 0)])))))
(.ite (.not (.le (.v 0) (.v 8))) (.ite (.not (.le (.v 0) (.v 13))) (.ret [.nl,(.c 0)])
(.callp 1 [(.v 0),(.v 6),(.v 7),(.v 8),(.v 9),(.v 10),(.v 11),(.v 12),(.v 13),(.v 14),(.v 15)] (.callp 1 [(.v 0),(.v 1),(.v 2),(.v 3),(.v 4),(.v 5),(.v 11),(.v 12),(.v 13),(.v 14),(.v 15)] (.ret [(.l2 .snoc .nl (.l2 .cons (.v 19) (.l2 .cons (.v 20) (.l2 .cons (.v 21) (.l2 .cons (.v 22) (.l2 .cons (.v 23) (.l2 .cons (.v 11) (.l2 .cons (.v 12) (.l2 .cons (.v 13) (.l2 .cons (.v 14) (.l2 .cons (.v 15) (.l2 .cons (.v 25) (.l2 .cons (.v 26) (.l2 .cons (.v 27) (.l2 .cons (.v 28) (.l2 .cons (.v 29) .nl)))))))))))))))),(.c 0)]))))
(.callp 1 [(.v 0),(.v 1),(.v 2),(.v 3),(.v 4),(.v 5),(.v 6),(.v 7),(.v 8),(.v 9),(.v 10)] (.ite (.le (.v 0) (.v 13)) (.callp 1 [(.v 0),(.v 1),(.v 2),(.v 3),(.v 4),(.v 5),(.v 11),(.v 12),(.v 13),(.v 14),(.v 15)] (.ret [(.l2 .snoc (.l2 .snoc .nl (.l2 .cons (.v 19) (.l2 .cons (.v 20) (.l2 .cons (.v 21) (.l2 .cons (.v 22) (.l2 .cons (.v 23) (.l2 .cons (.v 6) (.l2 .cons (.v 7) (.l2 .cons (.v 8) (.l2 .cons (.v 9) (.l2 .cons (.v 10) (.l2 .cons (.v 11) (.l2 .cons (.v 12) (.l2 .cons (.v 13) (.l2 .cons (.v 14) (.l2 .cons (.v 15) .nl)))))))))))))))) (.l2 .cons (.v 19) (.l2 .cons (.v 20) (.l2 .cons (.v 21) (.l2 .cons (.v 22) (.l2 .cons (.v 23) (.l2 .cons (.v 11) (.l2 .cons (.v 12) (.l2 .cons (.v 13) (.l2 .cons (.v 14) (.l2 .cons (.v 15) (.l2 .cons (.v 25) (.l2 .cons (.v 26) (.l2 .cons (.v 27) (.l2 .cons (.v 28) (.l2 .cons (.v 29) .nl)))))))))))))))),(.c 0)]))
(.callp 1 [(.v 0),(.v 11),(.v 12),(.v 13),(.v 14),(.v 15),(.v 6),(.v 7),(.v 8),(.v 9),(.v 10)] (.ret [(.l2 .snoc .nl (.l2 .cons (.v 19) (.l2 .cons (.v 20) (.l2 .cons (.v 21) (.l2 .cons (.v 22) (.l2 .cons (.v 23) (.l2 .cons (.v 6) (.l2 .cons (.v 7) (.l2 .cons (.v 8) (.l2 .cons (.v 9) (.l2 .cons (.v 10) (.l2 .cons (.v 25) (.l2 .cons (.v 26) (.l2 .cons (.v 27) (.l2 .cons (.v 28) (.l2 .cons (.v 29) .nl)))))))))))))))),(.c 0)])))))))))))))
theorem Zyv:Z13 (Zs [] Z13z [] (zs 16) (Zn Tryz.prog Z78 gl0 Zly 1000 123 [I1,An 15] [Ts,I1]))=Z140:=by kernel_rfl
theorem Z1fg:Gok Tryz.prog Zly:=(more Zp9 (fix.one ok_cut))
theorem Z1fh:Zi Zly Z13z:=(Z3 Zjn (Z3 Z1ff Z6))
theorem Z1cd {xs:List Int} (h:xs.length=16):∃ a0 a1 a2 a3 a4 a5 a6 a7 a8 a9 a10 a11 a12 a13 a14 a15,xs=[a0,a1,a2,a3,a4,a5,a6,a7,a8,a9,a10,a11,a12,a13,a14,a15]:=by
 match xs,h with
 | [a0,a1,a2,a3,a4,a5,a6,a7,a8,a9,a10,a11,a12,a13,a14,a15],_=>exact ⟨_,_,_,_,_,_,_,_,_,_,_,_,_,_,_,_,rfl⟩
theorem Z9f {n a0 a1 a2 a3 a4 b0 b1 b2 b3 b4:Int} (hn:Zbu [n]=true) (ha:Z16 [a0,a1,a2,a3,a4] 0=true) (hb:Z16 [b0,b1,b2,b3,b4] 0=true) (h1:a2 < n) (h2:n≤b2) :
  Z15z [n,a0,a1,a2,a3,a4,b0,b1,b2,b3,b4]=Zzl n [a0,a1,a2,a3,a4] [b0,b1,b2,b3,b4]++[0]:=by
 have e1:Zbu [n,a0,a1,a2,a3,a4,b0,b1,b2,b3,b4]=true:=hn
 have e2:Z16 [n,a0,a1,a2,a3,a4,b0,b1,b2,b3,b4] 1=true:=ha
 have e3:Z16 [n,a0,a1,a2,a3,a4,b0,b1,b2,b3,b4] 6=true:=hb
 have e4:Z5b [n,a0,a1,a2,a3,a4,b0,b1,b2,b3,b4]=true:=by
  simp only [Z5b,Z1h4,Z1gs,Z1gt]
  exact ⟨h1,h2⟩
 unfold Z15z
 rw [e1,e2,e3,e4]
 rfl
theorem Z19b:Zl6.ok Tryz.prog:=Sum.okF facts.mixed Z1fg Z1fh Zyv rfl (fun _=>rfl) (by
 intro xs hx hp
 obtain ⟨n,a0,a1,a2,a3,a4,b0,b1,b2,b3,b4,c0,c1,c2,c3,c4,rfl⟩:=Z1cd hx
 simp only [Z140,Zly,Z3t,Z18a,TX.sat,XB.prop,X.den,Z1gw,Z1gx,Z1gq,Z1gr,Z1gu,Z1gv,Z1gs,Z1gt,mkS,mkP,and_true,true_and,Z1h1,Z1h2,not_or,not_and,Z1gy,ne_eq,Z1gz,Z1h0,Zoq,Z2j,Zah,ex6,L2.den]
 have eN:Zbu [n,a0,a1,a2,a3,a4,b0,b1,b2,b3,b4,c0,c1,c2,c3,c4]=Zbu [n]:=rfl
 have eT:nearT [n,a0,a1,a2,a3,a4,b0,b1,b2,b3,b4,c0,c1,c2,c3,c4]=(Z16 [a0,a1,a2,a3,a4] 0 && (Z16 [b0,b1,b2,b3,b4] 0 && Z16 [c0,c1,c2,c3,c4] 0)):=rfl
 have eN':Zbu [n]=true↔¬ (n < 256∨4096 < n):=by simp only [Zbu,Z1h4,Z1gs]; omega
 unfold Z7c
 rw [eN,eT]
 refine ⟨fun h=>?_,fun hn=>?_⟩
 ·rw [if_neg (by rw [eN']; exact not_not_intro h)]
  rfl
 have hN:Zbu [n]=true:=eN'.2 (by omega)
 rw [if_pos hN]
 by_cases ha:Z16 [a0,a1,a2,a3,a4] 0=true
 case neg =>
  have ha':=Bool.eq_false_iff.2 ha
  simp only [ha',er,  if_true,if_false,reduceIte,Bool.false_eq_true,Bool.false_and,Bool.and_false,Bool.and_self,TX.sat,XB.prop,X.den,Z1gw,Z1gx,Z1gq,Z1gr,Z1gu,Z1gv,Z1gs,Z1gt,mkS,mkP,and_true,true_and,Z1h1,Z1h2,not_or,not_and,Z1gy,ne_eq,Z1gz,Z1h0,Bool.true_and,Z29]
  simp
 by_cases hb:Z16 [b0,b1,b2,b3,b4] 0=true
 case neg =>
  have hb':=Bool.eq_false_iff.2 hb
  simp only [hb',er,ha,  if_true,if_false,reduceIte,Bool.false_eq_true,Bool.false_and,Bool.and_false,Bool.and_self,TX.sat,XB.prop,X.den,Z1gw,Z1gx,Z1gq,Z1gr,Z1gu,Z1gv,Z1gs,Z1gt,mkS,mkP,and_true,true_and,Z1h1,Z1h2,not_or,not_and,Z1gy,ne_eq,Z1gz,Z1h0,Bool.true_and,Z29]
  simp
 by_cases hc:Z16 [c0,c1,c2,c3,c4] 0=true
 case neg =>
  have hc':=Bool.eq_false_iff.2 hc
  simp only [hc',er,ha,hb,  if_true,if_false,reduceIte,Bool.false_eq_true,Bool.false_and,Bool.and_false,Bool.and_self,TX.sat,XB.prop,X.den,Z1gw,Z1gx,Z1gq,Z1gr,Z1gu,Z1gv,Z1gs,Z1gt,mkS,mkP,and_true,true_and,Z1h1,Z1h2,not_or,not_and,Z1gy,ne_eq,Z1gz,Z1h0,Bool.true_and,Z29]
  simp
 have hz:er true 8=0:=rfl
 have kab:=Z9f (n:=n) hN ha hb
 have kac:=Z9f (n:=n) hN ha hc
 have kba:=Z9f (n:=n) hN hb ha
 have kbc:=Z9f (n:=n) hN hb hc
 have kca:=Z9f (n:=n) hN hc ha
 have kcb:=Z9f (n:=n) hN hc hb
 simp only [ha,hb,hc,hz,Bool.and_self,if_true,TX.sat,XB.prop,X.den,Z1gw,Z1gx,Z1gq,Z1gr,Z1gu,Z1gv,Z1gs,Z1gt,mkS,mkP,and_true,true_and,Z1h1,Z1h2,not_or,not_and,Z1gy,ne_eq,Z1gz,Z1h0]
 unfold Z12n Zop Zrx
 by_cases g0:n≤a2 <;> by_cases g1:n≤b2 <;> by_cases g2:n≤c2
 ·simp only [g0,g1,g2,Int.not_lt.2 g0,Int.not_lt.2 g1,Int.not_lt.2 g2,Z57,Z83,Zh0,Zzl,TX.sat,XB.prop,X.den,Z1gw,Z1gx,Z1gq,Z1gr,Z1gu,Z1gv,Z1gs,Z1gt,mkS,mkP,and_true,true_and,Z1h1,Z1h2,not_or,not_and,Z1gy,ne_eq,Z1gz,Z1h0,Nat.reduceMul,Nat.reduceAdd,decide_true,decide_false,if_true,if_false,reduceIte,Bool.false_eq_true,Z1gw,Z1gx,List.append_nil,Z4,Z29,true_implies,false_implies,forall_const,Z1gz,Z1h0,implies_true,iff_false,iff_true]
 ·have g2':=Int.not_le.1 g2
  simp only [kca g2' g0,kcb g2' g1,g0,g1,g2,Int.not_lt.2 g0,Int.not_lt.2 g1,g2',Z57,Z83,Zh0,Zzl,TX.sat,XB.prop,X.den,Z1gw,Z1gx,Z1gq,Z1gr,Z1gu,Z1gv,Z1gs,Z1gt,mkS,mkP,and_true,true_and,Z1h1,Z1h2,not_or,not_and,Z1gy,ne_eq,Z1gz,Z1h0,Nat.reduceMul,Nat.reduceAdd,decide_true,decide_false,if_true,if_false,reduceIte,Bool.false_eq_true,Z1gw,Z1gx,List.append_nil,Z4,Z29,true_implies,false_implies,forall_const,Z1gz,Z1h0,implies_true,iff_false,iff_true]
 ·have g1':=Int.not_le.1 g1
  simp only [kba g1' g0,kbc g1' g2,g0,g1,g2,Int.not_lt.2 g0,g1',Int.not_lt.2 g2,Z57,Z83,Zh0,Zzl,TX.sat,XB.prop,X.den,Z1gw,Z1gx,Z1gq,Z1gr,Z1gu,Z1gv,Z1gs,Z1gt,mkS,mkP,and_true,true_and,Z1h1,Z1h2,not_or,not_and,Z1gy,ne_eq,Z1gz,Z1h0,Nat.reduceMul,Nat.reduceAdd,decide_true,decide_false,if_true,if_false,reduceIte,Bool.false_eq_true,Z1gw,Z1gx,List.append_nil,Z4,Z29,true_implies,false_implies,forall_const,Z1gz,Z1h0,implies_true,iff_false,iff_true]
 ·have g1':=Int.not_le.1 g1
  have g2':=Int.not_le.1 g2
  simp only [kba g1' g0,kca g2' g0,g0,g1,g2,Int.not_lt.2 g0,g1',g2',Z57,Z83,Zh0,Zzl,TX.sat,XB.prop,X.den,Z1gw,Z1gx,Z1gq,Z1gr,Z1gu,Z1gv,Z1gs,Z1gt,mkS,mkP,and_true,true_and,Z1h1,Z1h2,not_or,not_and,Z1gy,ne_eq,Z1gz,Z1h0,Nat.reduceMul,Nat.reduceAdd,decide_true,decide_false,if_true,if_false,reduceIte,Bool.false_eq_true,Z1gw,Z1gx,List.append_nil,Z4,Z29,true_implies,false_implies,forall_const,Z1gz,Z1h0,implies_true,iff_false,iff_true]
 ·have g0':=Int.not_le.1 g0
  simp only [kab g0' g1,kac g0' g2,g0,g1,g2,g0',Int.not_lt.2 g1,Int.not_lt.2 g2,Z57,Z83,Zh0,Zzl,TX.sat,XB.prop,X.den,Z1gw,Z1gx,Z1gq,Z1gr,Z1gu,Z1gv,Z1gs,Z1gt,mkS,mkP,and_true,true_and,Z1h1,Z1h2,not_or,not_and,Z1gy,ne_eq,Z1gz,Z1h0,Nat.reduceMul,Nat.reduceAdd,decide_true,decide_false,if_true,if_false,reduceIte,Bool.false_eq_true,Z1gw,Z1gx,List.append_nil,Z4,Z29,true_implies,false_implies,forall_const,Z1gz,Z1h0,implies_true,iff_false,iff_true]
 ·have g0':=Int.not_le.1 g0
  have g2':=Int.not_le.1 g2
  simp only [kab g0' g1,kcb g2' g1,g0,g1,g2,g0',Int.not_lt.2 g1,g2',Z57,Z83,Zh0,Zzl,TX.sat,XB.prop,X.den,Z1gw,Z1gx,Z1gq,Z1gr,Z1gu,Z1gv,Z1gs,Z1gt,mkS,mkP,and_true,true_and,Z1h1,Z1h2,not_or,not_and,Z1gy,ne_eq,Z1gz,Z1h0,Nat.reduceMul,Nat.reduceAdd,decide_true,decide_false,if_true,if_false,reduceIte,Bool.false_eq_true,Z1gw,Z1gx,List.append_nil,Z4,Z29,true_implies,false_implies,forall_const,Z1gz,Z1h0,implies_true,iff_false,iff_true]
 ·have g0':=Int.not_le.1 g0
  have g1':=Int.not_le.1 g1
  simp only [kac g0' g2,kbc g1' g2,g0,g1,g2,g0',g1',Int.not_lt.2 g2,Z57,Z83,Zh0,Zzl,TX.sat,XB.prop,X.den,Z1gw,Z1gx,Z1gq,Z1gr,Z1gu,Z1gv,Z1gs,Z1gt,mkS,mkP,and_true,true_and,Z1h1,Z1h2,not_or,not_and,Z1gy,ne_eq,Z1gz,Z1h0,Nat.reduceMul,Nat.reduceAdd,decide_true,decide_false,if_true,if_false,reduceIte,Bool.false_eq_true,Z1gw,Z1gx,List.append_nil,Z4,Z29,true_implies,false_implies,forall_const,Z1gz,Z1h0,implies_true,iff_false,iff_true]
 ·have g0':=Int.not_le.1 g0
  have g1':=Int.not_le.1 g1
  have g2':=Int.not_le.1 g2
  simp only [g0,g1,g2,g0',g1',g2',Z57,Z83,Zh0,Zzl,TX.sat,XB.prop,X.den,Z1gw,Z1gx,Z1gq,Z1gr,Z1gu,Z1gv,Z1gs,Z1gt,mkS,mkP,and_true,true_and,Z1h1,Z1h2,not_or,not_and,Z1gy,ne_eq,Z1gz,Z1h0,Nat.reduceMul,Nat.reduceAdd,decide_true,decide_false,if_true,if_false,reduceIte,Bool.false_eq_true,Z1gw,Z1gx,List.append_nil,Z4,Z29,true_implies,false_implies,forall_const,Z1gz,Z1h0,implies_true,iff_false,iff_true]
  try trace_state)
theorem Z141 (b:Bool) (x:Int):Zh (iv 0 8) ((if b=true then [x,0] else [cod [],8]).getD 1 0):=by
 cases b
 ·exact ⟨by show (0:Int)≤8; decide,by show (8:Int)≤8; decide⟩
 ·exact ⟨by show (0:Int)≤0; decide,by show (0:Int)≤8; decide⟩
theorem Z1fi (xs:List Int):Zr [none,iv 0 8] [(Z7c xs).getD 0 0,(Z7c xs).getD 1 0]:=by
 refine Z1 trivial (Z1 ?_ Z2)
 unfold Z7c
 split
 ·exact Z141 _ _
 ·exact ⟨by show (0:Int)≤2; decide,by show (2:Int)≤8; decide⟩
theorem Z142:Z18 Zl6 Z12p:=⟨fun xs h=>h,fun vs xs h hp=>Z1fi _⟩
noncomputable def Z19c:List Sum:=[]
def I_bof:List Inf:=[]
def Z1fj:TX:=(.ite (.or (.eq (.ln (.v 0)) (.c 0)) (.lt (.c 4096) (.ln (.v 0)))) (.ret [(.c 0),(.c 0),(.c 0),(.c 0),(.c 0),(.c 0),(.c 4)])
(.loop 8 [none,none,none,none,none,none,none,none] [(.c 0),(.c 0),(.c 0),(.c 0),(.c 0),(.c 0),(.c 0),(.c 0)] (.ite (.lt (.v 2) (.ln (.v 0))) (.asrt (.le (.c 0) (.v 2)) (.ite (.or (.or (.lt (.l2 .at (.l2 .at (.v 0) (.v 2)) (.c 0)) (.c (-32768))) (.lt (.c 32768) (.l2 .at (.l2 .at (.v 0) (.v 2)) (.c 0)))) (.or (.or (.lt (.l2 .at (.l2 .at (.v 0) (.v 2)) (.c 1)) (.c (-32768))) (.lt (.c 32768) (.l2 .at (.l2 .at (.v 0) (.v 2)) (.c 1)))) (.or (.lt (.l2 .at (.l2 .at (.v 0) (.v 2)) (.c 2)) (.c (-32768))) (.lt (.c 32768) (.l2 .at (.l2 .at (.v 0) (.v 2)) (.c 2)))))) (.ret [(.c 0),(.c 0),(.c 0),(.c 0),(.c 0),(.c 0),(.c 20)])
(.back 0 [(.v 1),(.wr .i64 (.add (.v 2) (.c 1))),(.v 3),(.v 4),(.v 5),(.v 6),(.v 7),(.v 8)])))
(.asrt (.lt (.c 0) (.ln (.v 0))) (.asrt (.le (.c 1) (.ln (.v 0))) (.asrt (.le (.ln (.v 0)) (.ln (.v 0))) (.loop 7 [none,none,none,none,none,none,none] [(.c 0),(.l2 .at (.l2 .at (.v 0) (.c 0)) (.c 0)),(.l2 .at (.l2 .at (.v 0) (.c 0)) (.c 1)),(.l2 .at (.l2 .at (.v 0) (.c 0)) (.c 2)),(.l2 .at (.l2 .at (.v 0) (.c 0)) (.c 0)),(.l2 .at (.l2 .at (.v 0) (.c 0)) (.c 1)),(.l2 .at (.l2 .at (.v 0) (.c 0)) (.c 2))] (.ite (.le (.wr .i64 (.sub (.ln (.v 0)) (.c 1))) (.v 9)) (.ret [(.v 10),(.v 11),(.v 12),(.v 13),(.v 14),(.v 15),(.c 0)])
(.asrt (.le (.c 0) (.v 9)) (.asrt (.le (.c 0) (.wr .i64 (.add (.c 1) (.v 9)))) (.asrt (.lt (.wr .i64 (.add (.c 1) (.v 9))) (.ln (.v 0))) (.back 1 [(.wr .i64 (.add (.v 9) (.c 1))),(.mn (.v 10) (.l2 .at (.l2 .at (.v 0) (.wr .i64 (.add (.c 1) (.v 9)))) (.c 0))),(.mn (.v 11) (.l2 .at (.l2 .at (.v 0) (.wr .i64 (.add (.c 1) (.v 9)))) (.c 1))),(.mn (.v 12) (.l2 .at (.l2 .at (.v 0) (.wr .i64 (.add (.c 1) (.v 9)))) (.c 2))),(.mx (.v 13) (.l2 .at (.l2 .at (.v 0) (.wr .i64 (.add (.c 1) (.v 9)))) (.c 0))),(.mx (.v 14) (.l2 .at (.l2 .at (.v 0) (.wr .i64 (.add (.c 1) (.v 9)))) (.c 1))),(.mx (.v 15) (.l2 .at (.l2 .at (.v 0) (.wr .i64 (.add (.c 1) (.v 9)))) (.c 2)))]))))))))))))
theorem Z19d:Z13 (Zs [] I_bof [] [none] (Zn Tryz.prog (Z9p Tryz.prog [(4,20),(11,52)]) gl0 Z19c 1000 173 [Vs] [An 6,I1]))=Z1fj:=by kernel_rfl
theorem g_bof:Gok Tryz.prog Z19c:=noG
theorem o_bof:Zi Z19c I_bof:=Z6
theorem tn0:Int.toNat 0=0:=rfl
theorem tn1:Int.toNat 1=1:=rfl
theorem tn2:Int.toNat 2=2:=rfl
theorem Zhf (x:Int):okP x=true↔((-32768≤co x 0∧co x 0≤32768)∧(-32768≤co x 1∧co x 1≤32768)∧(-32768≤co x 2∧co x 2≤32768)):=by
 unfold okP
 exact decide_eq_true_iff
noncomputable def upto (l:List Int) (i:Nat):List Int:=Z2u (l.take i)
theorem Zdh:∀ l:List Int,(Z2u l).length=6
 | []=>rfl
 | x::l=>by
  have:∀ (l:List Int) (b:List Int),b.length=6→(l.foldl Zda b).length=6:=by
   intro l
   induction l with
   | nil=>intro b h; exact h
   | cons y l ih=>intro b h; exact ih _ rfl
  exact this l _ rfl
theorem Z19e {l:List Int} (h:0 < l.length):upto l 1=boxV (l.getD 0 0):=by
 match l,h with
 | x::l,_=>rfl
theorem Z143 {l:List Int} {i:Nat} (h1:1≤i) (h2:i < l.length):upto l (i + 1)=Zda (upto l i) (l.getD i 0):=by
 unfold upto
 rw [List.take_succ_eq_append_getElem h2]
 have:l.take i ≠ []:=by
  intro h
  have:=congrArg List.length h
  rw [List.length_take,List.length_nil] at this
  omega
 match hl:l.take i,this with
 | x::m,_ =>
  simp only [Z1gu,Z2u,List.foldl_append,List.foldl_cons,List.foldl_nil]
  rw [show l.getD i 0=l[i] by simp [List.getD,h2]]
theorem Z19f (l:List Int):upto l l.length=Z2u l:=by unfold upto; rw [List.take_length]
theorem Z1ce {l:List Int} (h:l.length=7):ex7 l=l:=by
 obtain ⟨a0,a1,a2,a3,a4,a5,a6,rfl⟩:=len7 h
 rfl
theorem Z1fk (l:List Int):(Z12m l).length=7:=by
 unfold Z12m
 split
 ·split
  ·simp [Zdh]
  ·rfl
 ·rfl
theorem six {l:List Int} (h:l.length=6):l=[l.getD 0 0,l.getD 1 0,l.getD 2 0,l.getD 3 0,l.getD 4 0,l.getD 5 0]:=by
 match l,h with
 | [a,b,c,d,e,f],_=>rfl
theorem Z1fl (c:Int):Z1fj.sat Z19c [] (fun ys=>ys=Zl5 [c]) [] [c]:=by
 have hsem:Zl5 [c]=Z12m (dec c):=Z1ce (Z1fk _)
 rw [hsem]
 generalize hl:dec c=l
 simp only [Z1fj,TX.sat,XB.prop,X.den,L2.den,Z1gw,Z1gx,Z1gs,Z1gt,Z1gu,Z1gv,hl]
 refine ⟨fun h=>?_,fun h=>?_⟩
 ·unfold Z12m
  rw [if_neg (by omega)]
 have hlen:1≤l.length∧l.length≤4096:=by omega
 refine ⟨fun xs=>∃ i:Nat,xs.getD 1 0=(i:Int)∧i≤l.length∧∀ j,j < i→okP (l.getD j 0)=true,fun xs=>l.length - (xs.getD 1 0).toNat,fun xs hx _=>Zy hx,⟨0,rfl,by omega,fun j hj=>by omega⟩,?_⟩
 intro xs hx hI
 obtain ⟨a0,a1,a2,a3,a4,a5,a6,a7,rfl⟩:=len8 hx
 obtain ⟨i,hi,hle,hall⟩:=hI
 simp only [Z1gs,Z1gt,Z1gu,Z1gv,Z1gq] at hi ⊢
 subst hi
 refine ⟨fun hlt=>⟨by omega,fun hbad=>?_,fun hgood=>?_⟩,fun hge=>⟨by omega,by omega,Int.le_refl _,?_⟩⟩
 ·unfold Z12m
  rw [if_pos hlen,if_neg (Zaf (i:=i) (by omega) ?_)]
  rw [Zhf]
  simp only [co]
  simp only [Int.toNat_natCast,tn0,tn1,tn2] at hbad
  omega
 ·rw [Zo (by omega) (by omega)]
  refine ⟨⟨i + 1,by omega,by omega,fun j hj=>?_⟩,by simp only [Int.toNat_natCast]; omega⟩
  rcases Nat.lt_or_ge j i with h1 | h1
  ·exact hall j h1
  ·have:j=i:=by omega
   subst this
   rw [Zhf]
   simp only [co]
   simp only [Int.toNat_natCast,tn0,tn1,tn2] at hgood
   omega
 ·have hok:l.all okP=true:=Z6o hall (by omega)
  have hw:IntKind.i64.wrap ((l.length:Int) - 1)=(l.length:Int) - 1:=Zo (by omega) (by omega)
  refine ⟨fun xs=>∃ i:Nat,xs.getD 0 0=(i:Int)∧i + 1≤l.length∧xs.drop 1=upto l (i + 1),fun xs=>l.length - (xs.getD 0 0).toNat,fun xs hx _=>Zy hx,⟨0,rfl,by omega,?_⟩,?_⟩
  ·rw [Z19e (by omega)]
   simp [boxV,co]
  ·intro ys hy hJ
   obtain ⟨b0,b1,b2,b3,b4,b5,b6,rfl⟩:=len7 hy
   obtain ⟨k,hk,hkl,hbox⟩:=hJ
   simp only [Z1gs,Z1gt,Z1gu,Z1gv,Z1gq,Z1gr,List.drop_succ_cons,List.drop_zero] at hk hbox ⊢
   subst hk
   rw [hw]
   refine ⟨fun hend=>?_,fun hgo=>?_⟩
   ·unfold Z12m
    rw [if_pos hlen,if_pos hok,← Z19f,show l.length=k + 1 by omega,← hbox]
    rfl
   ·have h1:IntKind.i64.wrap (1 + (k:Int))=((k + 1:Nat):Int):=by rw [Zo (by omega) (by omega)]; omega
    have h2:IntKind.i64.wrap ((k:Int) + 1)=((k + 1:Nat):Int):=by rw [Zo (by omega) (by omega)]; omega
    rw [h1,h2]
    refine ⟨by omega,by omega,by omega,⟨k + 1,rfl,by omega,?_⟩,by simp only [Int.toNat_natCast]; omega⟩
    rw [Z143 (by omega) (by omega),← hbox]
    simp [Zda,co]
theorem len1 {xs:List Int} (h:xs.length=1):∃ a,xs=[a]:=by
 match xs,h with
 | [a],_=>exact ⟨a,rfl⟩
theorem ok_bof:Z18b.ok Tryz.prog:=Sum.okF facts.mixed g_bof o_bof Z19d rfl (fun _=>rfl) (by
 intro xs hx hp
 obtain ⟨a,rfl⟩:=len1 hx
 exact Z1fl a)
def in6 (b:List Int):Prop:=∀ j,j < 6→-32768≤b.getD j 0∧b.getD j 0≤32768
theorem Z144 {a0 a1 a2 a3 a4 a5:Int} (h0:-32768≤a0∧a0≤32768) (h1:-32768≤a1∧a1≤32768) (h2:-32768≤a2∧a2≤32768) (h3:-32768≤a3∧a3≤32768) (h4:-32768≤a4∧a4≤32768) (h5:-32768≤a5∧a5≤32768):in6 [a0,a1,a2,a3,a4,a5]:=by
 intro j hj
 match j,hj with
 | 0,_=>exact h0
 | 1,_=>exact h1
 | 2,_=>exact h2
 | 3,_=>exact h3
 | 4,_=>exact h4
 | 5,_=>exact h5
theorem Z19g {l:List Int} (h:l.all okP=true) (hn:l ≠ []):in6 (Z2u l):=by
 match l,hn with
 | x::l,_ =>
  simp only [List.all_cons,Z1h3] at h
  have key:∀ (l:List Int) (b:List Int),l.all okP=true→in6 b→in6 (l.foldl Zda b):=by
   intro l
   induction l with
   | nil=>intro b _ hb; exact hb
   | cons y l ih =>
    intro b hl hb
    simp only [List.all_cons,Z1h3] at hl
    have hy:=(Zhf y).1 hl.1
    refine ih _ hl.2 ?_
    have q0:=hb 0 (by omega)
    have q1:=hb 1 (by omega)
    have q2:=hb 2 (by omega)
    have q3:=hb 3 (by omega)
    have q4:=hb 4 (by omega)
    have q5:=hb 5 (by omega)
    exact Z144 (by omega) (by omega) (by omega) (by omega) (by omega) (by omega)
  refine key l _ h.2 ?_
  have hx:=(Zhf x).1 h.1
  exact Z144 hx.1 hx.2.1 hx.2.2 hx.1 hx.2.1 hx.2.2
theorem of_iv (l:List Int):Zr (ivs 6 (-32768) 32768++[iv 0 20]) (ex7 (Z12m l)):=by
 have key:∀ (b:List Int) (e:Int),b.length=6→in6 b→0≤e∧e≤20→Zr (ivs 6 (-32768) 32768++[iv 0 20]) (ex7 (b++[e])):=by
  intro b e hb h he
  rw [Z1ce (by simp [hb])]
  rw [six hb]
  exact Z1 (h 0 (by omega)) (Z1 (h 1 (by omega)) (Z1 (h 2 (by omega)) (Z1 (h 3 (by omega)) (Z1 (h 4 (by omega)) (Z1 (h 5 (by omega)) (Z1 he Z2))))))
 have z6:in6 [0,0,0,0,0,0]:=Z144 (by omega) (by omega) (by omega) (by omega) (by omega) (by omega)
 unfold Z12m
 split
 ·rename_i hlen
  split
  ·rename_i hok
   exact key _ 0 (Zdh l) (Z19g hok (by intro h; rw [h] at hlen; simp at hlen)) (by omega)
  ·exact key [0,0,0,0,0,0] 20 rfl z6 (by omega)
 ·exact key [0,0,0,0,0,0] 4 rfl z6 (by omega)
theorem Z1fm:Z18 Z18b i_bof:=⟨fun xs h=>h,fun vs xs h hp=>of_iv _⟩
end Go.Proofs.YtgcoidbaoigkeaaGreatDoor.fix
namespace Go.Proofs.YtgcoidbaoigkeaaGreatDoor.fix
open Go.RowKit Go.Sx
noncomputable def Zvn:List Sum:=[]
def Z1cf:List Inf:=[]
def Z1cg:TX:=(.ite (.or (.or (.le (.v 0) (.c 0)) (.lt (.c 16) (.v 0))) (.or (.or (.le (.v 1) (.c 0)) (.lt (.c 16) (.v 1))) (.not (.eq (.ln (.v 2)) (.mul (.v 0) (.v 1)))))) (.ret [(.c 8)])
(.ret [(.c 0)]))
theorem Z145:Z13 (Zs [] Z1cf [] Zlc (Zn Tryz.prog Z78 gl0 Zvn 1000 171 [Tx] [I1]))=Z1cg:=by kernel_rfl
theorem g_texc:Gok Tryz.prog Zvn:=noG
theorem o_texc:Zi Zvn Z1cf:=Z6
theorem Z146:Zjd.ok Tryz.prog:=Sum.okF facts.mixed g_texc o_texc Z145 rfl (fun _=>rfl) (by
 intro xs hx hp
 obtain ⟨w,h,c,rfl⟩:=len3 hx
 simp only [Z1cg,Zvn,TX.sat,XB.prop,X.den,Z1gw,Z1gx,Z1gq,Z1gr,Z1gu,Z1gv,Z1gs,Z1gt,mkS,mkP,and_true,true_and,Z1h1,Z1h2,not_or,not_and,Z1gy,ne_eq,Z1gz,Z1h0,Zeo,L2.den]
 unfold Zif er
 refine ⟨fun g=>?_,fun g=>?_⟩
 ·rw [if_neg]
  rw [decide_eq_true_iff]
  omega
 ·rw [if_pos]
  rw [decide_eq_true_iff]
  omega)
theorem Zvo:Z18 Zjd Z130:=⟨fun xs h=>h,fun vs xs h hp=>Z1 (Zxz _ (by omega)) Z2⟩
noncomputable def Zvp:List Sum:=[Zjd]
def Z1ch:List Inf:=[Z130]
def Z1ci:TX:=(.ite (.lt (.c 16) (.ln (.v 0))) (.ret [(.c 4)])
(.loop 2 [none,none] [(.c 0),(.c 0)] (.ite (.le (.ln (.v 0)) (.v 2)) (.ret [(.c 0)])
(.asrt (.le (.c 0) (.v 2)) (.call 0 [(.l2 .at (.l2 .at (.v 0) (.v 2)) (.c 0)),(.l2 .at (.l2 .at (.v 0) (.v 2)) (.c 1)),(.l2 .at (.l2 .at (.l2 .at (.v 0) (.v 2)) (.c 2)) (.c 4))] (.ite (.not (.eq (.v 3) (.c 0))) (.ret [(.v 3)])
(.back 0 [(.v 1),(.wr .i64 (.add (.v 2) (.c 1)))])))))))
theorem Z147:Z13 (Zs [] Z1ch [] Zld (Zn Tryz.prog (Z9p Tryz.prog [(4,12)]) gl0 Zvp 1000 118 [Txs] [I1]))=Z1ci:=by kernel_rfl
theorem g_texs:Gok Tryz.prog Zvp:=(fix.one Z146)
theorem o_texs:Zi Zvp Z1ch:=(Z3 Zvo Z6)
theorem Z1cj {b:Int} (h:Zc Z7e (dec b)):Zr [zz,zz,none] [co b 0,co b 1,ctN (co b 2)]:=by
 have:=Z1g h
 exact Z1 (this.2 0) (Z1 (this.2 1) (Z1 trivial Z2))
theorem Z148:Zje.ok Tryz.prog:=Sum.okPF (pin:=Zld) facts.mixed g_texs o_texs Z147 rfl (fun _=>rfl) (fun xs h=>h.1) (by
 intro xs hx hp
 obtain ⟨a,rfl⟩:=len1 hx
 have hel:∀ b ∈ dec a,Zc Z7e (dec b):=hp.2
 clear hp
 simp only [Z1ci,Zvp,Zjd,TX.sat,XB.prop,X.den,Z1gw,Z1gx,Z1gq,Z1gr,Z1gu,Z1gv,Z1gs,Z1gt,mkS,mkP,and_true,true_and,Z1h1,Z1h2,not_or,not_and,Z1gy,ne_eq,Z1gz,Z1h0,Zep,Zeo,L2.den]
 generalize dec a=l at hel ⊢
 unfold Zh6
 refine ⟨fun h=>?_,fun h=>?_⟩
 ·rw [if_neg (by omega)]
 rw [if_pos (by omega)]
 refine ⟨fun xs=>∃ i:Nat,xs.getD 1 0=(i:Int)∧i≤l.length∧∀ j,j < i→texB (l.getD j 0)=true,fun xs=>l.length - (xs.getD 1 0).toNat,fun xs hx _=>Zy (n:=2) hx,⟨0,rfl,by omega,fun j hj=>by omega⟩,?_⟩
 intro xs hx hI
 obtain ⟨d0,d1,rfl⟩:=Zdu hx
 obtain ⟨i,hi,hle,hall⟩:=hI
 simp only [Z1gs,Z1gt,Z1gu,Z1gv] at hi ⊢
 subst hi
 have hco:∀ x j,(dec x).getD j 0=co x j:=fun _ _=>rfl
 have hct:∀ x,co x 4=ctN x:=fun _=>rfl
 simp only [Int.toNat_natCast,hco,show Int.toNat 0=0 from rfl,show Int.toNat 1=1 from rfl,show Int.toNat 2=2 from rfl,show Int.toNat 3=3 from rfl,show Int.toNat 4=4 from rfl,show Int.toNat 5=5 from rfl,hct]
 refine ⟨fun hge=>?_,fun hlt=>?_⟩
 ·rw [if_pos (Z6o hall (by omega))]
 ·have hil:i < l.length:=by omega
  refine ⟨by omega,Z1cj (hel _ (Zx hil)),?_⟩
  have hok:texB (l.getD i 0)=Zif (co (l.getD i 0) 0) (co (l.getD i 0) 1) (ctN (co (l.getD i 0) 2)):=rfl
  rw [← hok]
  by_cases hb:texB (l.getD i 0)=true
  ·refine ⟨fun h=>absurd (if_pos hb) h,fun _=>?_⟩
   have hw:IntKind.i64.wrap ((i:Int) + 1)=((i + 1:Nat):Int):=by rw [Zo (by omega) (by omega)]; omega
   rw [hw]
   refine ⟨⟨i + 1,rfl,by omega,fun j hj=>?_⟩,by rw [Int.toNat_natCast]; omega⟩
   rcases Nat.lt_or_ge j i with h1 | h1
   ·exact hall j h1
   ·have:j=i:=by omega
    subst this
    exact hb
  ·refine ⟨fun _=>?_,fun h=>?_⟩
   ·rw [if_neg (Zaf hil hb)]
    rw [er,if_neg hb]
   ·rw [er,if_neg hb] at h
    exact absurd h (by decide))
theorem Zvq:Z18 Zje Z131:=⟨fun xs h=>(Z14 xs h).elim,fun vs xs h hp=>Z1 (by
  show Zh (iv 0 8) (Zh6 _)
  unfold Zh6
  split
  ·split
   ·exact ⟨by decide,by decide⟩
   ·exact ⟨by decide,by decide⟩
  ·exact ⟨by decide,by decide⟩) Z2⟩
noncomputable def Zev:List Sum:=[]
def Zvr:List Inf:=[]
def Zvs:TX:=(.ite (.or (.lt (.v 9) (.c 0)) (.lt (.c 16) (.v 9))) (.ret [(.c 2)])
(.ite (.or (.or (.lt (.v 4) (.c (-1))) (.le (.v 9) (.v 4))) (.or (.lt (.c 2) (.v 5)) (.or (.or (.lt (.v 6) (.c (-1024))) (.lt (.c 1024) (.v 6))) (.or (.lt (.v 8) (.c 0)) (.lt (.c 15) (.v 8)))))) (.ret [(.c 8)])
(.ret [(.c 0)])))
theorem Zse:Z13 (Zs [] Zvr [] Zdd (Zn Tryz.prog Z78 gl0 Zev 1000 131 [Lk,I1] [I1]))=Zvs:=by kernel_rfl
theorem Z19h:Gok Tryz.prog Zev:=noG
theorem Z19i:Zi Zev Zvr:=Z6
theorem Zpc:Z9a.ok Tryz.prog:=Sum.okF facts.mixed Z19h Z19i Zse rfl (fun _=>rfl) (by
 intro xs hx hp
 obtain ⟨c0,c1,c2,c3,c4,c5,c6,c7,c8,n,rfl⟩:=len10 hx
 simp only [Zvs,Zev,TX.sat,XB.prop,X.den,Z1gw,Z1gx,Z1gq,Z1gr,Z1gu,Z1gv,Z1gs,Z1gt,mkS,mkP,and_true,true_and,Z1h1,Z1h2,not_or,not_and,Z1gy,ne_eq,Z1gz,Z1h0,Z99,L2.den]
 unfold Zdc er
 simp only [TX.sat,XB.prop,X.den,Z1gw,Z1gx,Z1gq,Z1gr,Z1gu,Z1gv,Z1gs,Z1gt,mkS,mkP,and_true,true_and,Z1h1,Z1h2,not_or,not_and,Z1gy,ne_eq,Z1gz,Z1h0]
 refine ⟨fun g=>?_,fun g=>⟨fun k=>?_,fun k=>?_⟩⟩
 ·rw [if_neg (by omega)]
 ·rw [if_pos (by omega),if_neg]
  rw [decide_eq_true_iff]
  omega
 ·rw [if_pos (by omega),if_pos]
  rw [decide_eq_true_iff]
  omega)
theorem Zjo:Z18 Z9a Zle:=⟨fun xs h=>h,fun vs xs h hp=>Z1 (by
  split
  ·exact Zxz _ (by omega)
  ·exact ⟨by decide,by decide⟩) Z2⟩
noncomputable def Zvt:List Sum:=[Z9a,Zec,Z18b]
def Z1ck:List Inf:=[Zle,Zu3,i_bof]
def Z1cl:TX:=(.ite (.or (.lt (.c 64) (.ln (.v 0))) (.or (.not (.eq (.ln (.v 1)) (.ln (.v 0)))) (.lt (.c 64) (.ln (.v 2))))) (.ret [(.c 0)])
(.callp 0 [(.v 3),(.v 4),(.v 5),(.v 6),(.v 7),(.v 8),(.v 9),(.v 10),(.v 11),(.v 18)] (.ite (.not (.eq (.v 19) (.c 0))) (.ret [(.c 0)])
(.loop 2 [none,none] [(.c 0),(.c 0)] (.ite (.lt (.v 21) (.ln (.v 0))) (.asrt (.le (.c 0) (.v 21)) (.call 1 [(.l2 .at (.l2 .at (.v 0) (.v 21)) (.c 0)),(.l2 .at (.l2 .at (.v 0) (.v 21)) (.c 1)),(.l2 .at (.l2 .at (.v 0) (.v 21)) (.c 2))] (.ite (.not (.eq (.v 22) (.c 0))) (.ret [(.c 0)])
(.asrt (.lt (.v 21) (.ln (.v 1))) (.ite (.or (.lt (.mn (.l2 .at (.l2 .at (.v 1) (.v 21)) (.c 0)) (.l2 .at (.l2 .at (.v 1) (.v 21)) (.c 1))) (.c 0)) (.lt (.c 255) (.mx (.l2 .at (.l2 .at (.v 1) (.v 21)) (.c 0)) (.l2 .at (.l2 .at (.v 1) (.v 21)) (.c 1))))) (.ret [(.c 0)])
(.back 0 [(.v 20),(.wr .i64 (.add (.v 21) (.c 1)))]))))))
(.loop 2 [none,none] [(.v 20),(.c 0)] (.ite (.lt (.v 23) (.ln (.v 2))) (.asrt (.le (.c 0) (.v 23)) (.ite (.or (.lt (.mn (.mn (.l2 .at (.l2 .at (.v 2) (.v 23)) (.c 0)) (.l2 .at (.l2 .at (.v 2) (.v 23)) (.c 1))) (.l2 .at (.l2 .at (.v 2) (.v 23)) (.c 2))) (.c 0)) (.le (.ln (.v 0)) (.mx (.mx (.l2 .at (.l2 .at (.v 2) (.v 23)) (.c 0)) (.l2 .at (.l2 .at (.v 2) (.v 23)) (.c 1))) (.l2 .at (.l2 .at (.v 2) (.v 23)) (.c 2))))) (.ret [(.c 0)])
(.back 1 [(.v 22),(.wr .i64 (.add (.v 23) (.c 1)))])))
(.callp 2 [(.v 0)] (.ite (.and (.and (.and (.eq (.v 24) (.v 12)) (.and (.eq (.v 25) (.v 13)) (.eq (.v 26) (.v 14)))) (.and (.eq (.v 27) (.v 15)) (.and (.eq (.v 28) (.v 16)) (.eq (.v 29) (.v 17))))) (.or (.eq (.v 30) (.c 0)) (.eq (.ln (.v 0)) (.c 0)))) (.ret [(.c 1)])
(.ret [(.c 0)]))))))))))
theorem Z149:Z13 (Zs [] Z1ck [] ([none,none,none]++ivs 4 0 255++[zz,iv 0 255,zz,iv 0 1,zz]++zs 7) (Zn Tryz.prog (Z9p Tryz.prog [(5,41),(11,85)]) gl0 Zvt 1000 121 [It,I1] [Bo]))=Z1cl:=by kernel_rfl
theorem g_imay:Gok Tryz.prog Zvt:=(more Zpc (more Z11t (fix.one ok_bof)))
theorem o_imay:Zi Zvt Z1ck:=(Z3 Zjo (Z3 Zy1 (Z3 Z1fm Z6)))
theorem Zsf {b:Int} (h:Zc Z7d (dec b)):Zr (zs 3) [co b 0,co b 1,co b 2]:=by
 have:=Z1g h
 exact Z1 (this.2 0) (Z1 (this.2 1) (Z1 (this.2 2) Z2))
theorem Z14a {y:List Int} (n:Int):(if 0≤n∧n≤16 then er (Zdc y) 8 else 2)=0↔(decide (0≤n∧n≤16) && Zdc y)=true:=by
 unfold er
 split
 ·rename_i h
  cases Zdc y <;> simp [h]
 ·rename_i h
  simp [h]
theorem Z3y {b:Bool} (h:¬ b=true):b01 b=0:=if_neg h
theorem Zlz {b:Bool} (h:b=true):b01 b=1:=if_pos h
theorem okW_P {l:List Int} (h:l.all okW=true):l.all okP=true:=by
 rw [List.all_eq_true] at h ⊢
 intro x hx
 have:=h x hx
 simp only [okW,Zj6,decide_eq_true_iff,Z1gs,Z1gt,Nat.zero_add] at this
 rw [Zhf]
 omega
theorem Z1fn:Zv2.ok Tryz.prog:=Sum.okPF (pin:=Zlg) facts.mixed g_imay o_imay Z149 rfl (fun _=>rfl) (fun xs h=>h.1) (by
 intro xs hx hp
 obtain ⟨V,U,T,c3,c4,c5,c6,c7,c8,c9,c10,c11,c12,c13,c14,c15,c16,c17,n,rfl⟩:=len19 hx
 have hel:∀ v ∈ dec V,Zc Z7d (dec v):=hp.2
 have hv:=hp.1
 clear hp
 simp only [Z1cl,Zvt,Z9a,Zec,Z18b,TX.sat,XB.prop,X.den,Z1gw,Z1gx,Z1gq,Z1gr,Z1gu,Z1gv,Z1gs,Z1gt,mkS,mkP,and_true,true_and,Z1h1,Z1h2,not_or,not_and,Z1gy,ne_eq,Z1gz,Z1h0,Zlf,Z99,Zcx,Zl5,ex7,L2.den]
 unfold Zov Z1eu Z18g
 simp only [TX.sat,XB.prop,X.den,Z1gw,Z1gx,Z1gq,Z1gr,Z1gu,Z1gv,Z1gs,Z1gt,mkS,mkP,and_true,true_and,Z1h1,Z1h2,not_or,not_and,Z1gy,ne_eq,Z1gz,Z1h0]
 generalize dec V=v at hel ⊢
 generalize dec U=u
 generalize dec T=t
 have hlook:=Z14a (y:=[c3,c4,c5,c6,c7,c8,c9,c10,c11,n]) n
 generalize (decide (0≤n∧n≤16) && Zdc [c3,c4,c5,c6,c7,c8,c9,c10,c11,n])=F at hlook ⊢
 generalize (if 0≤n∧n≤16 then er (Zdc [c3,c4,c5,c6,c7,c8,c9,c10,c11,n]) 8 else 2)=E at hlook ⊢
 refine ⟨fun h=>?_,fun h=>⟨fun hE=>?_,fun hE=>?_⟩⟩
 ·rw [Z3y]
  rw [Z1h3,decide_eq_true_iff]
  omega
 ·rw [Z3y]
  rw [Z1h3,Z1h3]
  exact fun g=>hE (hlook.2 g.2.1)
 have hF:F=true:=hlook.1 hE
 have hA:v.length≤64∧u.length=v.length∧t.length≤64:=by omega
 rw [hF,decide_eq_true hA]
 simp only [Bool.true_and]
 refine ⟨fun xs=>∃ i:Nat,xs.getD 1 0=(i:Int)∧i≤v.length∧(∀ j,j < i→okW (v.getD j 0)=true)∧∀ j,j < i→uvB (u.getD j 0)=true,fun xs=>v.length - (xs.getD 1 0).toNat,fun xs hx _=>Zy (n:=2) hx,⟨0,rfl,by omega,fun j hj=>by omega,fun j hj=>by omega⟩,?_⟩
 intro xs hx hI
 obtain ⟨d0,d1,rfl⟩:=Zdu hx
 obtain ⟨i,hi,hle,hall,hallu⟩:=hI
 simp only [Z1gs,Z1gt,Z1gu,Z1gv] at hi ⊢
 subst hi
 have hco:∀ x j,(dec x).getD j 0=co x j:=fun _ _=>rfl
 simp only [Int.toNat_natCast,hco,show Int.toNat 0=0 from rfl,show Int.toNat 1=1 from rfl,show Int.toNat 2=2 from rfl]
 refine ⟨fun hlt=>?_,fun hge=>?_⟩
 ·have hil:i < v.length:=by omega
  refine ⟨by omega,Zsf (hel _ (Zx hil)),?_⟩
  have hok:okW (v.getD i 0)=Zj6 4096 [co (v.getD i 0) 0,co (v.getD i 0) 1,co (v.getD i 0) 2] 0:=rfl
  rw [← hok]
  by_cases hb:okW (v.getD i 0)=true
  ·refine ⟨fun h=>absurd (if_pos hb) h,fun _=>⟨by omega,fun hbad=>?_,fun hgood=>?_⟩⟩
   ·rw [Z3y]
    rw [Z1h3,Z1h3]
    intro g
    refine Zaf (i:=i) (by omega) ?_ g.2.1
    simp only [uvB,decide_eq_true_iff]
    omega
   ·have hw:IntKind.i64.wrap ((i:Int) + 1)=((i + 1:Nat):Int):=by rw [Zo (by omega) (by omega)]; omega
    rw [hw]
    refine ⟨⟨i + 1,rfl,by omega,fun j hj=>?_,fun j hj=>?_⟩,by rw [Int.toNat_natCast]; omega⟩
    ·rcases Nat.lt_or_ge j i with h1 | h1
     ·exact hall j h1
     ·have:j=i:=by omega
      subst this
      exact hb
    ·rcases Nat.lt_or_ge j i with h1 | h1
     ·exact hallu j h1
     ·have:j=i:=by omega
      subst this
      simp only [uvB,decide_eq_true_iff]
      omega
  ·refine ⟨fun _=>?_,fun h=>?_⟩
   ·rw [Z3y]
    rw [Z1h3]
    exact fun g=>Zaf hil hb g.1
   ·rw [er,if_neg hb] at h
    exact absurd h (by decide)
 have hV:v.all okW=true:=Z6o hall (by omega)
 have hU:u.all uvB=true:=Z6o hallu (by omega)
 rw [hV,hU]
 simp only [Bool.true_and]
 refine ⟨fun xs=>∃ i:Nat,xs.getD 1 0=(i:Int)∧i≤t.length∧∀ j,j < i→Zzm v.length (t.getD j 0)=true,fun xs=>t.length - (xs.getD 1 0).toNat,fun xs hx _=>Zy (n:=2) hx,⟨0,rfl,by omega,fun j hj=>by omega⟩,?_⟩
 intro xs hx hI
 obtain ⟨f0,f1,rfl⟩:=Zdu hx
 obtain ⟨k,hk,hkl,hallt⟩:=hI
 simp only [Z1gs,Z1gt,Z1gu,Z1gv] at hk ⊢
 subst hk
 simp only [Int.toNat_natCast,hco,show Int.toNat 0=0 from rfl,show Int.toNat 1=1 from rfl,show Int.toNat 2=2 from rfl]
 refine ⟨fun hlt=>⟨by omega,fun hbad=>?_,fun hgood=>?_⟩,fun hend=>?_⟩
 ·rw [Z3y]
  rw [Z1h3]
  intro g
  refine Zaf (i:=k) (by omega) ?_ g.1
  simp only [Zzm,decide_eq_true_iff]
  omega
 ·have hw:IntKind.i64.wrap ((k:Int) + 1)=((k + 1:Nat):Int):=by rw [Zo (by omega) (by omega)]; omega
  rw [hw]
  refine ⟨⟨k + 1,rfl,by omega,fun j hj=>?_⟩,by rw [Int.toNat_natCast]; omega⟩
  rcases Nat.lt_or_ge j k with h1 | h1
  ·exact hallt j h1
  ·have:j=k:=by omega
   subst this
   simp only [Zzm,decide_eq_true_iff]
   omega
 have hT:t.all (Zzm v.length)=true:=Z6o hallt (by omega)
 rw [hT]
 simp only [Bool.true_and]
 have hbof:Z12m v=if 1≤v.length then Z2u v++[0] else [0,0,0,0,0,0,4]:=by
  unfold Z12m
  rw [okW_P hV]
  by_cases h1:1≤v.length
  ·rw [if_pos ⟨h1,by omega⟩,if_pos rfl,if_pos h1]
  ·rw [if_neg (fun g=>h1 g.1),if_neg h1]
 have h6:=six (Zdh v)
 have hz:v.length=0→Z2u v=[0,0,0,0,0,0]:=by
  intro h0
  rw [List.eq_nil_of_length_eq_zero h0]
  rfl
 by_cases h1:1≤v.length
 ·rw [if_pos h1] at hbof
  rw [hbof]
  generalize Z2u v=b at h6 ⊢
  rw [h6]
  simp only [TX.sat,XB.prop,X.den,Z1gw,Z1gx,Z1gq,Z1gr,Z1gu,Z1gv,Z1gs,Z1gt,mkS,mkP,and_true,true_and,Z1h1,Z1h2,not_or,not_and,Z1gy,ne_eq,Z1gz,Z1h0,List.cons.injEq,and_true]
  refine ⟨fun g=>?_,fun g=>?_⟩
  ·rw [Zlz]
   rw [decide_eq_true_iff]
   omega
  ·rw [Z3y]
   rw [decide_eq_true_iff]
   intro q
   exact (g ⟨⟨by omega,by omega,by omega⟩,by omega,by omega,by omega⟩).1
 ·rw [if_neg h1] at hbof
  rw [hbof,hz (by omega)]
  simp only [TX.sat,XB.prop,X.den,Z1gw,Z1gx,Z1gq,Z1gr,Z1gu,Z1gv,Z1gs,Z1gt,mkS,mkP,and_true,true_and,Z1h1,Z1h2,not_or,not_and,Z1gy,ne_eq,Z1gz,Z1h0,List.cons.injEq,and_true]
  refine ⟨fun g=>?_,fun g=>?_⟩
  ·rw [Zlz]
   rw [decide_eq_true_iff]
   omega
  ·rw [Z3y]
   rw [decide_eq_true_iff]
   omega)
theorem Z19j:Z18 Zv2 Z1c1:=⟨fun xs h=>(Z14 xs h).elim,fun vs xs h hp=>Z1 (Zdt _) Z2⟩
noncomputable def Zew:List Sum:=[Zje,Zv2]
def Zvu:List Inf:=[Z131,Z1c1]
def Zvv:TX:=(.ite (.or (.lt (.c 256) (.ln (.v 0))) (.lt (.c 16) (.ln (.v 1)))) (.ret [(.c 4)])
(.call 0 [(.v 1)] (.ite (.not (.eq (.v 2) (.c 0))) (.ret [(.c 8)])
(.loop 2 [none,none] [(.c 0),(.c 0)] (.ite (.le (.ln (.v 0)) (.v 4)) (.ret [(.c 0)])
(.asrt (.le (.c 0) (.v 4)) (.call 1 [(.l2 .at (.l2 .at (.l2 .at (.v 0) (.v 4)) (.c 0)) (.c 4)),(.l2 .at (.l2 .at (.l2 .at (.v 0) (.v 4)) (.c 1)) (.c 4)),(.l2 .at (.l2 .at (.l2 .at (.v 0) (.v 4)) (.c 2)) (.c 4)),(.l2 .at (.l2 .at (.v 0) (.v 4)) (.c 3)),(.l2 .at (.l2 .at (.v 0) (.v 4)) (.c 4)),(.l2 .at (.l2 .at (.v 0) (.v 4)) (.c 5)),(.l2 .at (.l2 .at (.v 0) (.v 4)) (.c 6)),(.l2 .at (.l2 .at (.v 0) (.v 4)) (.c 7)),(.l2 .at (.l2 .at (.v 0) (.v 4)) (.c 8)),(.l2 .at (.l2 .at (.v 0) (.v 4)) (.c 9)),(.l2 .at (.l2 .at (.v 0) (.v 4)) (.c 10)),(.l2 .at (.l2 .at (.v 0) (.v 4)) (.c 11)),(.l2 .at (.l2 .at (.v 0) (.v 4)) (.c 12)),(.l2 .at (.l2 .at (.v 0) (.v 4)) (.c 13)),(.l2 .at (.l2 .at (.v 0) (.v 4)) (.c 14)),(.l2 .at (.l2 .at (.v 0) (.v 4)) (.c 15)),(.l2 .at (.l2 .at (.v 0) (.v 4)) (.c 16)),(.l2 .at (.l2 .at (.v 0) (.v 4)) (.c 17)),(.ln (.v 1))] (.ite (.eq (.v 5) (.c 0)) (.ret [(.c 8)])
(.back 0 [(.v 3),(.wr .i64 (.add (.v 4) (.c 1)))])))))))))
theorem Zsg:Z13 (Zs [] Zvu [] Zde (Zn Tryz.prog (Z9p Tryz.prog [(2,9)]) gl0 Zew 1000 81 [Sho] [I1]))=Zvv:=by kernel_rfl
theorem Z19k:Gok Tryz.prog Zew:=(more Z148 (fix.one Z1fn))
theorem Z19l:Zi Zew Zvu:=(Z3 Zvq (Z3 Z19j Z6))
theorem Z1fo {b n:Int} (h:Zc Z39 (dec b)) (hn:Zh zz n):Zr Zlg (Z6p b n):=by
 have:=Z1g h
 exact Z1 trivial (Z1 trivial (Z1 trivial (Z1 (this.2 3) (Z1 (this.2 4) (Z1 (this.2 5) (Z1 (this.2 6) (Z1 (this.2 7) (Z1 (this.2 8) (Z1 (this.2 9) (Z1 (this.2 10) (Z1 (this.2 11) (Z1 (this.2 12) (Z1 (this.2 13) (Z1 (this.2 14) (Z1 (this.2 15) (Z1 (this.2 16) (Z1 (this.2 17) (Z1 hn Z2))))))))))))))))))
theorem Zhg:Z48.ok Tryz.prog:=Sum.okPF (pin:=Zde) facts.mixed Z19k Z19l Zsg rfl (fun _=>rfl) (fun xs h=>h.1) (by
 intro xs hx hp
 obtain ⟨I,T,rfl⟩:=Zdu hx
 have hr:Z3o (dec I) (dec T):=hp.2
 clear hp
 simp only [Zvv,Zew,Zje,Zv2,TX.sat,XB.prop,X.den,Z1gw,Z1gx,Z1gq,Z1gr,Z1gu,Z1gv,Z1gs,Z1gt,mkS,mkP,and_true,true_and,Z1h1,Z1h2,not_or,not_and,Z1gy,ne_eq,Z1gz,Z1h0,Zjf,Zep,Zlf,L2.den]
 have hpt:Zv1 [T]:=⟨Z1 trivial Z2,hr.2⟩
 unfold Z2k
 simp only [TX.sat,XB.prop,X.den,Z1gw,Z1gx,Z1gq,Z1gr,Z1gu,Z1gv,Z1gs,Z1gt,mkS,mkP,and_true,true_and,Z1h1,Z1h2,not_or,not_and,Z1gy,ne_eq,Z1gz,Z1h0]
 refine ⟨fun h=>?_,fun h=>⟨hpt,?_⟩⟩
 ·rw [if_neg (by omega)]
 rw [if_pos (by omega)]
 clear hpt
 have hel:=hr.1
 have hlt:(dec T).length≤16:=by omega
 generalize dec T=t at hlt ⊢
 generalize dec I=l at hel h ⊢
 refine ⟨fun hE=>?_,fun hE=>?_⟩
 ·rw [if_neg (fun g=>hE g.1)]
 simp only [hE,true_and]
 refine ⟨fun xs=>∃ i:Nat,xs.getD 1 0=(i:Int)∧i≤l.length∧∀ j,j < i→Zov (Z6p (l.getD j 0) t.length)=true,fun xs=>l.length - (xs.getD 1 0).toNat,fun xs hx _=>Zy (n:=2) hx,⟨0,rfl,by omega,fun j hj=>by omega⟩,?_⟩
 intro xs hx hI
 obtain ⟨d0,d1,rfl⟩:=Zdu hx
 obtain ⟨i,hi,hle,hall⟩:=hI
 simp only [Z1gs,Z1gt,Z1gu,Z1gv] at hi ⊢
 subst hi
 have hco:∀ x j,(dec x).getD j 0=co x j:=fun _ _=>rfl
 have hct:∀ x,co (co x 0) 4=ctN (co x 0)∧co (co x 1) 4=ctN (co x 1)∧co (co x 2) 4=ctN (co x 2):=fun _=>⟨rfl,rfl,rfl⟩
 have tn:∀ k:Nat,Int.toNat (OfNat.ofNat k:Int)=k:=fun _=>rfl
 simp only [Int.toNat_natCast,hco,tn,show Int.toNat 0=0 from rfl,show Int.toNat 1=1 from rfl,show Int.toNat 2=2 from rfl,show Int.toNat 3=3 from rfl,show Int.toNat 4=4 from rfl,show Int.toNat 5=5 from rfl,show Int.toNat 6=6 from rfl,show Int.toNat 7=7 from rfl,show Int.toNat 8=8 from rfl,show Int.toNat 9=9 from rfl,show Int.toNat 10=10 from rfl,show Int.toNat 11=11 from rfl,show Int.toNat 12=12 from rfl,show Int.toNat 13=13 from rfl,show Int.toNat 14=14 from rfl,show Int.toNat 15=15 from rfl,show Int.toNat 16=16 from rfl,show Int.toNat 17=17 from rfl]
 simp only [(hct _).1,(hct _).2.1,(hct _).2.2]
 refine ⟨fun hge=>?_,fun hlt2=>?_⟩
 ·rw [if_pos (Z6o (p:=fun b=>Zov (Z6p b t.length)) hall (by omega))]
 ·have hil:i < l.length:=by omega
  have hit:=hel _ (Zx hil)
  refine ⟨by omega,⟨Z1fo hit.1 (zc _ (by omega) (by omega)),hit.2.1⟩,?_⟩
  have hok:[ctN (co (l.getD i 0) 0),ctN (co (l.getD i 0) 1),ctN (co (l.getD i 0) 2),co (l.getD i 0) 3,co (l.getD i 0) 4,co (l.getD i 0) 5,co (l.getD i 0) 6,co (l.getD i 0) 7,co (l.getD i 0) 8,co (l.getD i 0) 9,co (l.getD i 0) 10,co (l.getD i 0) 11,co (l.getD i 0) 12,co (l.getD i 0) 13,co (l.getD i 0) 14,co (l.getD i 0) 15,co (l.getD i 0) 16,co (l.getD i 0) 17,(t.length:Int)]=Z6p (l.getD i 0) t.length:=rfl
  rw [hok]
  by_cases hb:Zov (Z6p (l.getD i 0) t.length)=true
  ·rw [Zlz hb]
   refine ⟨fun h=>absurd h (by decide),fun _=>?_⟩
   have hw:IntKind.i64.wrap ((i:Int) + 1)=((i + 1:Nat):Int):=by rw [Zo (by omega) (by omega)]; omega
   rw [hw]
   refine ⟨⟨i + 1,rfl,by omega,fun j hj=>?_⟩,by rw [Int.toNat_natCast]; omega⟩
   rcases Nat.lt_or_ge j i with h1 | h1
   ·exact hall j h1
   ·have:j=i:=by omega
    subst this
    exact hb
  ·rw [Z3y hb]
   refine ⟨fun _=>?_,fun h=>absurd rfl h⟩
   rw [if_neg (Zaf (p:=fun b=>Zov (Z6p b t.length)) hil hb)])
theorem Zdi:Z18 Z48 Zlh:=⟨fun xs h=>(Z14 xs h).elim,fun vs xs h hp=>Z1 (by
  show Zh (iv 0 8) (Z2k _)
  unfold Z2k
  split
  ·split
   ·exact ⟨by decide,by decide⟩
   ·exact ⟨by decide,by decide⟩
  ·exact ⟨by decide,by decide⟩) Z2⟩
end Go.Proofs.YtgcoidbaoigkeaaGreatDoor.fix
namespace Go.Proofs.YtgcoidbaoigkeaaGreatDoor.fix
open Go.RowKit Go.Sx
noncomputable def Zhh:List Sum:=[Zj7,Zl6,Z5c,Zh2,Zl9]
def Z14b:List Inf:=[Z1bn,Z12p,Z12u,Z12s,Z12t]
def Zsh:TX:=(.asrt (.le (.c 0) (.v 18)) (.asrt (.lt (.v 18) (.ln (.v 0))) (.asrt (.le (.c 0) (.v 19)) (.asrt (.lt (.v 19) (.ln (.l2 .at (.l2 .at (.l2 .at (.v 0) (.v 18)) (.c 2)) (.c 4)))) (.asrt (.le (.c 0) (.l2 .at (.l2 .at (.l2 .at (.l2 .at (.l2 .at (.v 0) (.v 18)) (.c 2)) (.c 4)) (.v 19)) (.c 0))) (.asrt (.lt (.l2 .at (.l2 .at (.l2 .at (.l2 .at (.l2 .at (.v 0) (.v 18)) (.c 2)) (.c 4)) (.v 19)) (.c 0)) (.ln (.l2 .at (.l2 .at (.l2 .at (.v 0) (.v 18)) (.c 0)) (.c 4)))) (.call 0 [(.v 2),(.v 3),(.v 4),(.v 5),(.v 6),(.v 7),(.v 8),(.v 9),(.v 10),(.v 11),(.v 12),(.v 13),(.v 14),(.v 15),(.v 16),(.v 17),(.l2 .at (.l2 .at (.l2 .at (.l2 .at (.l2 .at (.v 0) (.v 18)) (.c 0)) (.c 4)) (.l2 .at (.l2 .at (.l2 .at (.l2 .at (.l2 .at (.v 0) (.v 18)) (.c 2)) (.c 4)) (.v 19)) (.c 0))) (.c 0)),(.l2 .at (.l2 .at (.l2 .at (.l2 .at (.l2 .at (.v 0) (.v 18)) (.c 0)) (.c 4)) (.l2 .at (.l2 .at (.l2 .at (.l2 .at (.l2 .at (.v 0) (.v 18)) (.c 2)) (.c 4)) (.v 19)) (.c 0))) (.c 1)),(.l2 .at (.l2 .at (.l2 .at (.l2 .at (.l2 .at (.v 0) (.v 18)) (.c 0)) (.c 4)) (.l2 .at (.l2 .at (.l2 .at (.l2 .at (.l2 .at (.v 0) (.v 18)) (.c 2)) (.c 4)) (.v 19)) (.c 0))) (.c 2))] (.asrt (.lt (.l2 .at (.l2 .at (.l2 .at (.l2 .at (.l2 .at (.v 0) (.v 18)) (.c 2)) (.c 4)) (.v 19)) (.c 0)) (.ln (.l2 .at (.l2 .at (.l2 .at (.v 0) (.v 18)) (.c 1)) (.c 4)))) (.asrt (.le (.c 0) (.l2 .at (.l2 .at (.l2 .at (.l2 .at (.l2 .at (.v 0) (.v 18)) (.c 2)) (.c 4)) (.v 19)) (.c 1))) (.asrt (.lt (.l2 .at (.l2 .at (.l2 .at (.l2 .at (.l2 .at (.v 0) (.v 18)) (.c 2)) (.c 4)) (.v 19)) (.c 1)) (.ln (.l2 .at (.l2 .at (.l2 .at (.v 0) (.v 18)) (.c 0)) (.c 4)))) (.call 0 [(.v 2),(.v 3),(.v 4),(.v 5),(.v 6),(.v 7),(.v 8),(.v 9),(.v 10),(.v 11),(.v 12),(.v 13),(.v 14),(.v 15),(.v 16),(.v 17),(.l2 .at (.l2 .at (.l2 .at (.l2 .at (.l2 .at (.v 0) (.v 18)) (.c 0)) (.c 4)) (.l2 .at (.l2 .at (.l2 .at (.l2 .at (.l2 .at (.v 0) (.v 18)) (.c 2)) (.c 4)) (.v 19)) (.c 1))) (.c 0)),(.l2 .at (.l2 .at (.l2 .at (.l2 .at (.l2 .at (.v 0) (.v 18)) (.c 0)) (.c 4)) (.l2 .at (.l2 .at (.l2 .at (.l2 .at (.l2 .at (.v 0) (.v 18)) (.c 2)) (.c 4)) (.v 19)) (.c 1))) (.c 1)),(.l2 .at (.l2 .at (.l2 .at (.l2 .at (.l2 .at (.v 0) (.v 18)) (.c 0)) (.c 4)) (.l2 .at (.l2 .at (.l2 .at (.l2 .at (.l2 .at (.v 0) (.v 18)) (.c 2)) (.c 4)) (.v 19)) (.c 1))) (.c 2))] (.asrt (.lt (.l2 .at (.l2 .at (.l2 .at (.l2 .at (.l2 .at (.v 0) (.v 18)) (.c 2)) (.c 4)) (.v 19)) (.c 1)) (.ln (.l2 .at (.l2 .at (.l2 .at (.v 0) (.v 18)) (.c 1)) (.c 4)))) (.asrt (.le (.c 0) (.l2 .at (.l2 .at (.l2 .at (.l2 .at (.l2 .at (.v 0) (.v 18)) (.c 2)) (.c 4)) (.v 19)) (.c 2))) (.asrt (.lt (.l2 .at (.l2 .at (.l2 .at (.l2 .at (.l2 .at (.v 0) (.v 18)) (.c 2)) (.c 4)) (.v 19)) (.c 2)) (.ln (.l2 .at (.l2 .at (.l2 .at (.v 0) (.v 18)) (.c 0)) (.c 4)))) (.call 0 [(.v 2),(.v 3),(.v 4),(.v 5),(.v 6),(.v 7),(.v 8),(.v 9),(.v 10),(.v 11),(.v 12),(.v 13),(.v 14),(.v 15),(.v 16),(.v 17),(.l2 .at (.l2 .at (.l2 .at (.l2 .at (.l2 .at (.v 0) (.v 18)) (.c 0)) (.c 4)) (.l2 .at (.l2 .at (.l2 .at (.l2 .at (.l2 .at (.v 0) (.v 18)) (.c 2)) (.c 4)) (.v 19)) (.c 2))) (.c 0)),(.l2 .at (.l2 .at (.l2 .at (.l2 .at (.l2 .at (.v 0) (.v 18)) (.c 0)) (.c 4)) (.l2 .at (.l2 .at (.l2 .at (.l2 .at (.l2 .at (.v 0) (.v 18)) (.c 2)) (.c 4)) (.v 19)) (.c 2))) (.c 1)),(.l2 .at (.l2 .at (.l2 .at (.l2 .at (.l2 .at (.v 0) (.v 18)) (.c 0)) (.c 4)) (.l2 .at (.l2 .at (.l2 .at (.l2 .at (.l2 .at (.v 0) (.v 18)) (.c 2)) (.c 4)) (.v 19)) (.c 2))) (.c 2))] (.asrt (.lt (.l2 .at (.l2 .at (.l2 .at (.l2 .at (.l2 .at (.v 0) (.v 18)) (.c 2)) (.c 4)) (.v 19)) (.c 2)) (.ln (.l2 .at (.l2 .at (.l2 .at (.v 0) (.v 18)) (.c 1)) (.c 4)))) (.call 1 [(.v 15),(.v 20),(.v 21),(.v 22),(.l2 .at (.l2 .at (.l2 .at (.l2 .at (.l2 .at (.v 0) (.v 18)) (.c 1)) (.c 4)) (.l2 .at (.l2 .at (.l2 .at (.l2 .at (.l2 .at (.v 0) (.v 18)) (.c 2)) (.c 4)) (.v 19)) (.c 0))) (.c 0)),(.l2 .at (.l2 .at (.l2 .at (.l2 .at (.l2 .at (.v 0) (.v 18)) (.c 1)) (.c 4)) (.l2 .at (.l2 .at (.l2 .at (.l2 .at (.l2 .at (.v 0) (.v 18)) (.c 2)) (.c 4)) (.v 19)) (.c 0))) (.c 1)),(.v 24),(.v 25),(.v 26),(.l2 .at (.l2 .at (.l2 .at (.l2 .at (.l2 .at (.v 0) (.v 18)) (.c 1)) (.c 4)) (.l2 .at (.l2 .at (.l2 .at (.l2 .at (.l2 .at (.v 0) (.v 18)) (.c 2)) (.c 4)) (.v 19)) (.c 1))) (.c 0)),(.l2 .at (.l2 .at (.l2 .at (.l2 .at (.l2 .at (.v 0) (.v 18)) (.c 1)) (.c 4)) (.l2 .at (.l2 .at (.l2 .at (.l2 .at (.l2 .at (.v 0) (.v 18)) (.c 2)) (.c 4)) (.v 19)) (.c 1))) (.c 1)),(.v 28),(.v 29),(.v 30),(.l2 .at (.l2 .at (.l2 .at (.l2 .at (.l2 .at (.v 0) (.v 18)) (.c 1)) (.c 4)) (.l2 .at (.l2 .at (.l2 .at (.l2 .at (.l2 .at (.v 0) (.v 18)) (.c 2)) (.c 4)) (.v 19)) (.c 2))) (.c 0)),(.l2 .at (.l2 .at (.l2 .at (.l2 .at (.l2 .at (.v 0) (.v 18)) (.c 1)) (.c 4)) (.l2 .at (.l2 .at (.l2 .at (.l2 .at (.l2 .at (.v 0) (.v 18)) (.c 2)) (.c 4)) (.v 19)) (.c 2))) (.c 1))] (.loop 2 [none,none] [.nl,(.c 0)] (.ite (.le (.ln (.v 32)) (.v 35)) (.ret [(.v 34)])
(.asrt (.le (.c 0) (.v 35)) (.call 2 [(.v 2),(.v 3),(.v 4),(.v 5),(.v 6),(.v 7),(.v 8),(.v 9),(.v 10),(.v 11),(.v 12),(.v 13),(.v 14),(.v 15),(.v 16),(.v 17),(.l2 .at (.l2 .at (.v 32) (.v 35)) (.c 0)),(.l2 .at (.l2 .at (.v 32) (.v 35)) (.c 1)),(.l2 .at (.l2 .at (.v 32) (.v 35)) (.c 2)),(.l2 .at (.l2 .at (.v 32) (.v 35)) (.c 3)),(.l2 .at (.l2 .at (.v 32) (.v 35)) (.c 4))] (.call 2 [(.v 2),(.v 3),(.v 4),(.v 5),(.v 6),(.v 7),(.v 8),(.v 9),(.v 10),(.v 11),(.v 12),(.v 13),(.v 14),(.v 15),(.v 16),(.v 17),(.l2 .at (.l2 .at (.v 32) (.v 35)) (.c 5)),(.l2 .at (.l2 .at (.v 32) (.v 35)) (.c 6)),(.l2 .at (.l2 .at (.v 32) (.v 35)) (.c 7)),(.l2 .at (.l2 .at (.v 32) (.v 35)) (.c 8)),(.l2 .at (.l2 .at (.v 32) (.v 35)) (.c 9))] (.call 2 [(.v 2),(.v 3),(.v 4),(.v 5),(.v 6),(.v 7),(.v 8),(.v 9),(.v 10),(.v 11),(.v 12),(.v 13),(.v 14),(.v 15),(.v 16),(.v 17),(.l2 .at (.l2 .at (.v 32) (.v 35)) (.c 10)),(.l2 .at (.l2 .at (.v 32) (.v 35)) (.c 11)),(.l2 .at (.l2 .at (.v 32) (.v 35)) (.c 12)),(.l2 .at (.l2 .at (.v 32) (.v 35)) (.c 13)),(.l2 .at (.l2 .at (.v 32) (.v 35)) (.c 14))] (.call 3 [(.v 36),(.v 37),(.v 38),(.v 39),(.v 40),(.v 42),(.v 43),(.v 44),(.v 45),(.v 46),(.v 48),(.v 49),(.v 50),(.v 51),(.v 52),(.l2 .at (.l2 .at (.v 0) (.v 18)) (.c 8))] (.ite (.nz (.v 54)) (.callp 4 [(.v 36),(.v 37),(.v 38),(.v 39),(.v 40),(.v 42),(.v 43),(.v 44),(.v 45),(.v 46),(.v 48),(.v 49),(.v 50),(.v 51),(.v 52)] (.asrt (.le (.ln (.l2 .snoc (.v 34) (.l2 .cons (.v 56) (.l2 .cons (.v 57) (.l2 .cons (.v 58) (.l2 .cons (.v 59) (.l2 .cons (.v 60) (.l2 .cons (.v 61) (.l2 .cons (.v 62) (.l2 .cons (.v 63) (.l2 .cons (.v 64) (.l2 .cons (.v 65) (.l2 .cons (.v 66) (.l2 .cons (.v 67) (.l2 .cons (.v 68) (.l2 .cons (.v 69) (.l2 .cons (.v 70) .nl))))))))))))))))) (.c 1000000)) (.back 0 [(.l2 .snoc (.v 34) (.l2 .cons (.v 56) (.l2 .cons (.v 57) (.l2 .cons (.v 58) (.l2 .cons (.v 59) (.l2 .cons (.v 60) (.l2 .cons (.v 61) (.l2 .cons (.v 62) (.l2 .cons (.v 63) (.l2 .cons (.v 64) (.l2 .cons (.v 65) (.l2 .cons (.v 66) (.l2 .cons (.v 67) (.l2 .cons (.v 68) (.l2 .cons (.v 69) (.l2 .cons (.v 70) .nl)))))))))))))))),(.wr .i64 (.add (.v 35) (.c 1)))])))
(.back 0 [(.v 34),(.wr .i64 (.add (.v 35) (.c 1)))]))))))))))))))))))))))))))
theorem Zyw:Z13 (Zs [] Z14b [] ([none,none]++zs 18) (Zn Tryz.prog (Z9p Tryz.prog [(11,75)]) gl0 Zhh 1000 82 [Sho,An 16,I1,I1] [Ss]))=Zsh:=by kernel_rfl
theorem Z1fp:Gok Tryz.prog Zhh:=(more Z1ej (more Z19b (more Z18z (more Z191 (fix.one Z192)))))
theorem Z1fq:Zi Zhh Z14b:=(Z3 Zuj (Z3 Z142 (Z3 Z88 (Z3 Z13m (Z3 Zp8 Z6)))))
theorem Z1z {I T:Int} (h:Z2k [I,T]=0):(dec I).length≤256∧(dec T).length≤16∧Zh6 (dec T)=0∧∀ b ∈ dec I,Zov (Z6p b (dec T).length)=true:=by
 unfold Z2k at h
 simp only [Z1gs,Z1gt] at h
 split at h
 ·rename_i h1
  split at h
  ·rename_i h2
   exact ⟨h1.1,h1.2,h2.1,fun b hb=>List.all_eq_true.1 h2.2 b hb⟩
  ·exact absurd h (by decide)
 ·exact absurd h (by decide)
theorem Z8a {b n:Int} (h:Zov (Z6p b n)=true):((Zf b).length≤64∧(Zjg b).length=(Zf b).length∧(Z1t b).length≤64)∧(∀ v ∈ Zf b,okW v=true)∧(∀ u ∈ Zjg b,uvB u=true) ∧
  (∀ t ∈ Z1t b,Zzm (Zf b).length t=true)∧[co b 12,co b 13,co b 14,co b 15,co b 16,co b 17]=Z2u (Zf b):=by
 simp only [Zov,Z6p,Z18g,Z1h3,decide_eq_true_iff,Z1gs,Z1gt] at h
 obtain ⟨h1,h2,h3,h4,h5,h6⟩:=h
 exact ⟨h1,fun v hv=>List.all_eq_true.1 h3 v hv,fun v hv=>List.all_eq_true.1 h4 v hv,fun v hv=>List.all_eq_true.1 h5 v hv,h6⟩
def mnC (x:List Int) (j:Nat):Int:=min (x.getD (1 + j) 0) (min (x.getD (6 + j) 0) (x.getD (11 + j) 0))
def mxC (x:List Int) (j:Nat):Int:=max (x.getD (1 + j) 0) (max (x.getD (6 + j) 0) (x.getD (11 + j) 0))
def Zsi (x p:List Int):Prop:=∃ u0 u1 u2 u3 u4,p=[u0,u1,u2,u3,u4]∧x.getD 0 0≤u2∧(mnC x 0≤u0∧u0≤mxC x 0)∧(mnC x 1≤u1∧u1≤mxC x 1)∧(mnC x 2≤u2∧u2≤mxC x 2)∧(mnC x 3≤u3∧u3≤mxC x 3)∧(mnC x 4≤u4∧u4≤mxC x 4)
theorem Zvw:∀ (ps:List (List Int)) (t:List Int),t ∈ Zh0 ps→∃ p q r,p ∈ ps∧q ∈ ps∧r ∈ ps∧t=p++(q++r)
 | [],t,h=>by simp [Zh0] at h
 | [_],t,h=>by simp [Zh0] at h
 | [_,_],t,h=>by simp [Zh0] at h
 | p::q::r::l,t,h=>by
  simp only [Zh0,List.mem_cons] at h
  rcases h with rfl | h
  ·exact ⟨p,q,r,by simp,by simp,by simp,rfl⟩
  ·obtain ⟨x,y,z,hx,hy,hz,e⟩:=Zvw (p::r::l) t h
   have sub:∀ u ∈ p::r::l,u ∈ p::q::r::l:=by
    intro u hu
    simp only [List.mem_cons] at hu ⊢
    rcases hu with h | h | h
    ·exact .inl h
    ·exact .inr (.inr (.inl h))
    ·exact .inr (.inr (.inr h))
   exact ⟨x,y,z,sub _ hx,sub _ hy,sub _ hz,e⟩
termination_by ps=>ps.length
theorem Zvx:∀ ps:List (List Int),(Zh0 ps).length≤ps.length
 | []=>by simp [Zh0]
 | [_]=>by simp [Zh0]
 | [_,_]=>by simp [Zh0]
 | p::q::r::l=>by
  have:=Zvx (p::r::l)
  simp only [Zh0,List.length_cons] at this ⊢
  omega
termination_by ps=>ps.length
theorem Z9g {n a0 a1 a2 a3 a4 b0 b1 b2 b3 b4:Int} (h1:a2 < n) (h2:n≤b2):∃ u0 u1 u3 u4,Zzl n [a0,a1,a2,a3,a4] [b0,b1,b2,b3,b4]=[u0,u1,n,u3,u4] ∧
  (min a0 b0≤u0∧u0≤max a0 b0)∧(min a1 b1≤u1∧u1≤max a1 b1)∧(min a3 b3≤u3∧u3≤max a3 b3)∧(min a4 b4≤u4∧u4≤max a4 b4):=by
 have hb:Z5b (n::([a0,a1,a2,a3,a4]++[b0,b1,b2,b3,b4]))=true:=decide_eq_true (show a2 < n∧n≤b2 from ⟨h1,h2⟩)
 exact ⟨_,_,_,_,rfl,Z5a (o:=1) hb,Z5a (o:=2) hb,Z5a (o:=4) hb,Z5a (o:=5) hb⟩
theorem Zhi {n a0 a1 a2 a3 a4 b0 b1 b2 b3 b4 d0 d1 d2 d3 d4:Int} (p:List Int) (h:p ∈ Zop [n,a0,a1,a2,a3,a4,b0,b1,b2,b3,b4,d0,d1,d2,d3,d4]) :
  Zsi [n,a0,a1,a2,a3,a4,b0,b1,b2,b3,b4,d0,d1,d2,d3,d4] p:=by
 have corner:∀ {u0 u1 u2 u3 u4:Int},p=[u0,u1,u2,u3,u4]→n≤u2→(min a0 (min b0 d0)≤u0∧u0≤max a0 (max b0 d0))→(min a1 (min b1 d1)≤u1∧u1≤max a1 (max b1 d1))→(min a2 (min b2 d2)≤u2∧u2≤max a2 (max b2 d2)) →
   (min a3 (min b3 d3)≤u3∧u3≤max a3 (max b3 d3))→(min a4 (min b4 d4)≤u4∧u4≤max a4 (max b4 d4))→Zsi [n,a0,a1,a2,a3,a4,b0,b1,b2,b3,b4,d0,d1,d2,d3,d4] p:=fun e h0 k0 k1 k2 k3 k4=>⟨_,_,_,_,_,e,h0,k0,k1,k2,k3,k4⟩
 have fA:Z57 [n,a0,a1,a2,a3,a4,b0,b1,b2,b3,b4,d0,d1,d2,d3,d4] 0=decide (n≤a2):=rfl
 have fB:Z57 [n,a0,a1,a2,a3,a4,b0,b1,b2,b3,b4,d0,d1,d2,d3,d4] 1=decide (n≤b2):=rfl
 have fD:Z57 [n,a0,a1,a2,a3,a4,b0,b1,b2,b3,b4,d0,d1,d2,d3,d4] 2=decide (n≤d2):=rfl
 have cA:Z83 [n,a0,a1,a2,a3,a4,b0,b1,b2,b3,b4,d0,d1,d2,d3,d4] 0=[a0,a1,a2,a3,a4]:=rfl
 have cB:Z83 [n,a0,a1,a2,a3,a4,b0,b1,b2,b3,b4,d0,d1,d2,d3,d4] 1=[b0,b1,b2,b3,b4]:=rfl
 have cD:Z83 [n,a0,a1,a2,a3,a4,b0,b1,b2,b3,b4,d0,d1,d2,d3,d4] 2=[d0,d1,d2,d3,d4]:=rfl
 unfold Zop at h
 rw [List.mem_append,List.mem_append] at h
 unfold Zrx at h
 rw [fA,fB,fD,cA,cB,cD] at h
 simp only [decide_eq_true_iff,Z1gs] at h
 rcases h with h | h | h
 ·split at h
  ·split at h
   ·simp only [List.mem_singleton] at h
    exact corner h (by omega) (by omega) (by omega) (by omega) (by omega) (by omega)
   ·rename_i g1 g2
    obtain ⟨u0,u1,u3,u4,e,k0,k1,k3,k4⟩:=Z9g (n:=n) (a0:=b0) (a1:=b1) (a2:=b2) (a3:=b3) (a4:=b4) (b0:=a0) (b1:=a1) (b2:=a2) (b3:=a3) (b4:=a4) (by omega) g1
    rw [e] at h
    simp only [List.mem_cons,List.not_mem_nil,or_false] at h
    rcases h with h | h
    ·exact corner h (by omega) (by omega) (by omega) (by omega) (by omega) (by omega)
    ·exact corner h (by omega) (by omega) (by omega) (by omega) (by omega) (by omega)
  ·split at h
   ·rename_i g1 g2
    obtain ⟨u0,u1,u3,u4,e,k0,k1,k3,k4⟩:=Z9g (n:=n) (a0:=a0) (a1:=a1) (a2:=a2) (a3:=a3) (a4:=a4) (b0:=b0) (b1:=b1) (b2:=b2) (b3:=b3) (b4:=b4) (by omega) g2
    rw [e] at h
    simp only [List.mem_singleton] at h
    exact corner h (by omega) (by omega) (by omega) (by omega) (by omega) (by omega)
   ·exact absurd h (List.not_mem_nil)
 ·split at h
  ·split at h
   ·simp only [List.mem_singleton] at h
    exact corner h (by omega) (by omega) (by omega) (by omega) (by omega) (by omega)
   ·rename_i g1 g2
    obtain ⟨u0,u1,u3,u4,e,k0,k1,k3,k4⟩:=Z9g (n:=n) (a0:=d0) (a1:=d1) (a2:=d2) (a3:=d3) (a4:=d4) (b0:=b0) (b1:=b1) (b2:=b2) (b3:=b3) (b4:=b4) (by omega) g1
    rw [e] at h
    simp only [List.mem_cons,List.not_mem_nil,or_false] at h
    rcases h with h | h
    ·exact corner h (by omega) (by omega) (by omega) (by omega) (by omega) (by omega)
    ·exact corner h (by omega) (by omega) (by omega) (by omega) (by omega) (by omega)
  ·split at h
   ·rename_i g1 g2
    obtain ⟨u0,u1,u3,u4,e,k0,k1,k3,k4⟩:=Z9g (n:=n) (a0:=b0) (a1:=b1) (a2:=b2) (a3:=b3) (a4:=b4) (b0:=d0) (b1:=d1) (b2:=d2) (b3:=d3) (b4:=d4) (by omega) g2
    rw [e] at h
    simp only [List.mem_singleton] at h
    exact corner h (by omega) (by omega) (by omega) (by omega) (by omega) (by omega)
   ·exact absurd h (List.not_mem_nil)
 ·split at h
  ·split at h
   ·simp only [List.mem_singleton] at h
    exact corner h (by omega) (by omega) (by omega) (by omega) (by omega) (by omega)
   ·rename_i g1 g2
    obtain ⟨u0,u1,u3,u4,e,k0,k1,k3,k4⟩:=Z9g (n:=n) (a0:=a0) (a1:=a1) (a2:=a2) (a3:=a3) (a4:=a4) (b0:=d0) (b1:=d1) (b2:=d2) (b3:=d3) (b4:=d4) (by omega) g1
    rw [e] at h
    simp only [List.mem_cons,List.not_mem_nil,or_false] at h
    rcases h with h | h
    ·exact corner h (by omega) (by omega) (by omega) (by omega) (by omega) (by omega)
    ·exact corner h (by omega) (by omega) (by omega) (by omega) (by omega) (by omega)
  ·split at h
   ·rename_i g1 g2
    obtain ⟨u0,u1,u3,u4,e,k0,k1,k3,k4⟩:=Z9g (n:=n) (a0:=d0) (a1:=d1) (a2:=d2) (a3:=d3) (a4:=d4) (b0:=a0) (b1:=a1) (b2:=a2) (b3:=a3) (b4:=a4) (by omega) g2
    rw [e] at h
    simp only [List.mem_singleton] at h
    exact corner h (by omega) (by omega) (by omega) (by omega) (by omega) (by omega)
   ·exact absurd h (List.not_mem_nil)
theorem Z19m (x:List Int):(Zop x).length≤6:=by
 have hs:∀ i j,(Zrx x i j).length≤2:=by
  intro i j
  unfold Zrx
  split
  ·split <;> simp
  ·split <;> simp
 have h0:=hs 0 1
 have h1:=hs 1 2
 have h2:=hs 2 0
 unfold Zop
 rw [List.length_append,List.length_append]
 omega
theorem Zcc {x:List Int} (hx:x.length=16):(dec ((Z7c x).getD 0 0)).length≤6∧∀ l ∈ dec ((Z7c x).getD 0 0),∃ p q r,Zsi x p∧Zsi x q∧Zsi x r∧dec l=p++(q++r):=by
 obtain ⟨n,a0,a1,a2,a3,a4,b0,b1,b2,b3,b4,d0,d1,d2,d3,d4,rfl⟩:=Z1cd hx
 unfold Z7c
 split
 ·split
  ·simp only [Z1gs,Z12n,Z4]
   constructor
   ·rw [List.length_map]
    exact Nat.le_trans (Zvx _) (Z19m _)
   ·intro l hl
    obtain ⟨t,ht,rfl⟩:=List.mem_map.1 hl
    obtain ⟨p,q,r,hp,hq,hr,e⟩:=Zvw _ _ ht
    exact ⟨p,q,r,Zhi p hp,Zhi q hq,Zhi r hr,by rw [Z4,e]⟩
  ·simp only [Z1gs,Z4]
   exact ⟨by simp,fun l hl=>absurd hl (List.not_mem_nil)⟩
 ·simp only [Z1gs,Z4]
  exact ⟨by simp,fun l hl=>absurd hl (List.not_mem_nil)⟩
theorem Z19n (x:List Int):(Z58 x).getD 0 0=0∨(Z58 x).getD 0 0=1:=by
 have hb:∀ b,b01 b=0∨b01 b=1:=fun b=>by cases b <;> simp [b01]
 unfold Z58
 split
 ·split
  ·exact hb _
  ·split
   ·exact hb _
   ·split
    ·exact hb _
    ·exact .inl rfl
 ·exact .inl rfl
set_option maxHeartbeats 2000000 in
theorem Z14c (I T c0 c1 c2 c3 c4 c5 c6 c7 c8 c9 c10 c11 c12 c13 c14 c15 i k b t:Int) (hbe:(dec I).getD i.toNat 0=b) (hte:(Z1t b).getD k.toNat 0=t) (L:List Int) (hLL:Zyj [c0,c1,c2,c3,c4,c5,c6,c7,c8,c9,c10,c11,c12,c13,c14,c15] b t=L) (sp:Int→Nat→List Int) (hsp:∀ l o,Z132 [c0,c1,c2,c3,c4,c5,c6,c7,c8,c9,c10,c11,c12,c13,c14,c15] l o=sp l o) (pp:Int→Option Int) (hpp:∀ l,pp l=Zrz [c0,c1,c2,c3,c4,c5,c6,c7,c8,c9,c10,c11,c12,c13,c14,c15] (co b 8) l) (sq:Int→List Int) (hsq:∀ l,sq l=Zow [c0,c1,c2,c3,c4,c5,c6,c7,c8,c9,c10,c11,c12,c13,c14,c15] l)
  (hv:Zr (zs 16) [c0,c1,c2,c3,c4,c5,c6,c7,c8,c9,c10,c11,c12,c13,c14,c15])
  (hrb:Zc Z39 (dec b)∧(∀ v ∈ Zf b,Zc Z7d (dec v))∧(∀ v ∈ Zjg b,Zc Z12y (dec v))∧∀ v ∈ Z1t b,Zc Z7d (dec v))
  (hb:0≤i∧i < (dec I).length∧0≤k∧k < (Z1t b).length) (hmb:(Zf b).length≤64∧(Zjg b).length=(Zf b).length)
  (htn:(0≤co t 0∧0≤co t 1∧0≤co t 2)∧co t 0 < (Zf b).length∧co t 1 < (Zf b).length∧co t 2 < (Zf b).length)
  (hnp:Zr (zs 16) (c13::Zh7 [c0,c1,c2,c3,c4,c5,c6,c7,c8,c9,c10,c11,c12,c13,c14,c15] b t)) (hLn:L.length≤1000) (hel:∀ l ∈ L,Zr (zs 15) [co l 0,co l 1,co l 2,co l 3,co l 4,co l 5,co l 6,co l 7,co l 8,co l 9,co l 10,co l 11,co l 12,co l 13,co l 14]) :
  Zsh.sat Zhh [] (fun ys=>ys=[cod (L.filterMap pp)]) [] [I,T,c0,c1,c2,c3,c4,c5,c6,c7,c8,c9,c10,c11,c12,c13,c14,c15,i,k]:=by
 unfold Zsh Zhh
 simp only [TX.sat,XB.prop]
 simp only [X.den,L2.den,TX.sat,XB.prop,X.den,Z1gw,Z1gx,Z1gq,Z1gr,Z1gu,Z1gv,Z1gs,Z1gt,mkS,mkP,and_true,true_and,Z1h1,Z1h2,not_or,not_and,Z1gy,ne_eq,Z1gz,Z1h0]
 have hco:∀ x j,(dec x).getD j 0=co x j:=fun _ _=>rfl
 have hV:∀ b,dec (co (co b 0) 4)=Zf b:=fun _=>rfl
 have hU:∀ b,dec (co (co b 1) 4)=Zjg b:=fun _=>rfl
 have hT:∀ b,dec (co (co b 2) 4)=Z1t b:=fun _=>rfl
 simp only [hbe,hco,hV,hU,hT,hte,show Int.toNat 0=0 from rfl,show Int.toNat 1=1 from rfl,show Int.toNat 2=2 from rfl,show Int.toNat 4=4 from rfl]
 have vw3:∀ v,Zj7.sem [c0,c1,c2,c3,c4,c5,c6,c7,c8,c9,c10,c11,c12,c13,c14,c15,co v 0,co v 1,co v 2]=[(Z1v [c0,c1,c2,c3,c4,c5,c6,c7,c8,c9,c10,c11,c12,c13,c14,c15] v).getD 0 0,(Z1v [c0,c1,c2,c3,c4,c5,c6,c7,c8,c9,c10,c11,c12,c13,c14,c15] v).getD 1 0,(Z1v [c0,c1,c2,c3,c4,c5,c6,c7,c8,c9,c10,c11,c12,c13,c14,c15] v).getD 2 0,(Z1v [c0,c1,c2,c3,c4,c5,c6,c7,c8,c9,c10,c11,c12,c13,c14,c15] v).getD 3 0]:=fun _=>rfl
 simp only [vw3,TX.sat,XB.prop,X.den,Z1gw,Z1gx,Z1gq,Z1gr,Z1gu,Z1gv,Z1gs,Z1gt,mkS,mkP,and_true,true_and,Z1h1,Z1h2,not_or,not_and,Z1gy,ne_eq,Z1gz,Z1h0]
 have cn:Zl6.sem [c13,(Z1v [c0,c1,c2,c3,c4,c5,c6,c7,c8,c9,c10,c11,c12,c13,c14,c15] ((Zf b).getD (co t 0).toNat 0)).getD 0 0,(Z1v [c0,c1,c2,c3,c4,c5,c6,c7,c8,c9,c10,c11,c12,c13,c14,c15] ((Zf b).getD (co t 0).toNat 0)).getD 1 0,(Z1v [c0,c1,c2,c3,c4,c5,c6,c7,c8,c9,c10,c11,c12,c13,c14,c15] ((Zf b).getD (co t 0).toNat 0)).getD 2 0,co ((Zjg b).getD (co t 0).toNat 0) 0,co ((Zjg b).getD (co t 0).toNat 0) 1,(Z1v [c0,c1,c2,c3,c4,c5,c6,c7,c8,c9,c10,c11,c12,c13,c14,c15] ((Zf b).getD (co t 1).toNat 0)).getD 0 0,(Z1v [c0,c1,c2,c3,c4,c5,c6,c7,c8,c9,c10,c11,c12,c13,c14,c15] ((Zf b).getD (co t 1).toNat 0)).getD 1 0,(Z1v [c0,c1,c2,c3,c4,c5,c6,c7,c8,c9,c10,c11,c12,c13,c14,c15] ((Zf b).getD (co t 1).toNat 0)).getD 2 0,co ((Zjg b).getD (co t 1).toNat 0) 0,co ((Zjg b).getD (co t 1).toNat 0) 1,(Z1v [c0,c1,c2,c3,c4,c5,c6,c7,c8,c9,c10,c11,c12,c13,c14,c15] ((Zf b).getD (co t 2).toNat 0)).getD 0 0,(Z1v [c0,c1,c2,c3,c4,c5,c6,c7,c8,c9,c10,c11,c12,c13,c14,c15] ((Zf b).getD (co t 2).toNat 0)).getD 1 0,(Z1v [c0,c1,c2,c3,c4,c5,c6,c7,c8,c9,c10,c11,c12,c13,c14,c15] ((Zf b).getD (co t 2).toNat 0)).getD 2 0,co ((Zjg b).getD (co t 2).toNat 0) 0,co ((Zjg b).getD (co t 2).toNat 0) 1]=[(Z7c (c13::Zh7 [c0,c1,c2,c3,c4,c5,c6,c7,c8,c9,c10,c11,c12,c13,c14,c15] b t)).getD 0 0,(Z7c (c13::Zh7 [c0,c1,c2,c3,c4,c5,c6,c7,c8,c9,c10,c11,c12,c13,c14,c15] b t)).getD 1 0]:=rfl
 simp only [cn,TX.sat,XB.prop,X.den,Z1gw,Z1gx,Z1gq,Z1gr,Z1gu,Z1gv,Z1gs,Z1gt,mkS,mkP,and_true,true_and,Z1h1,Z1h2,not_or,not_and,Z1gy,ne_eq,Z1gz,Z1h0]
 have hL:dec ((Z7c (c13::Zh7 [c0,c1,c2,c3,c4,c5,c6,c7,c8,c9,c10,c11,c12,c13,c14,c15] b t)).getD 0 0)=Zyj [c0,c1,c2,c3,c4,c5,c6,c7,c8,c9,c10,c11,c12,c13,c14,c15] b t:=rfl
 have hLj:∀ j,co ((Z7c (c13::Zh7 [c0,c1,c2,c3,c4,c5,c6,c7,c8,c9,c10,c11,c12,c13,c14,c15] b t)).getD 0 0) j=L.getD j 0:=fun j=>by rw [← hLL]; rfl
 simp only [hL,hLL,hLj]
 clear cn vw3 hL hLj
 have pl0:∀ l,Z5c.sem [c0,c1,c2,c3,c4,c5,c6,c7,c8,c9,c10,c11,c12,c13,c14,c15,co l 0,co l 1,co l 2,co l 3,co l 4]=[(sp l 0).getD 0 0,(sp l 0).getD 1 0,(sp l 0).getD 2 0,(sp l 0).getD 3 0,(sp l 0).getD 4 0,(sp l 0).getD 5 0]:=fun l=>by rw [← hsp]; rfl
 have pl5:∀ l,Z5c.sem [c0,c1,c2,c3,c4,c5,c6,c7,c8,c9,c10,c11,c12,c13,c14,c15,co l 5,co l 6,co l 7,co l 8,co l 9]=[(sp l 5).getD 0 0,(sp l 5).getD 1 0,(sp l 5).getD 2 0,(sp l 5).getD 3 0,(sp l 5).getD 4 0,(sp l 5).getD 5 0]:=fun l=>by rw [← hsp]; rfl
 have pl10:∀ l,Z5c.sem [c0,c1,c2,c3,c4,c5,c6,c7,c8,c9,c10,c11,c12,c13,c14,c15,co l 10,co l 11,co l 12,co l 13,co l 14]=[(sp l 10).getD 0 0,(sp l 10).getD 1 0,(sp l 10).getD 2 0,(sp l 10).getD 3 0,(sp l 10).getD 4 0,(sp l 10).getD 5 0]:=fun l=>by rw [← hsp]; rfl
 have sh:∀ l u,Zh2.sem [(sp l 0).getD 0 0,(sp l 0).getD 1 0,(sp l 0).getD 2 0,(sp l 0).getD 3 0,(sp l 0).getD 4 0,(sp l 5).getD 0 0,(sp l 5).getD 1 0,(sp l 5).getD 2 0,(sp l 5).getD 3 0,(sp l 5).getD 4 0,(sp l 10).getD 0 0,(sp l 10).getD 1 0,(sp l 10).getD 2 0,(sp l 10).getD 3 0,(sp l 10).getD 4 0,u]=[(Z58 (sq l++[u])).getD 0 0,(Z58 (sq l++[u])).getD 1 0]:=fun l u=>by rw [hsq,← hsp,← hsp,← hsp]; rfl
 have fr:∀ l,Zl9.sem [(sp l 0).getD 0 0,(sp l 0).getD 1 0,(sp l 0).getD 2 0,(sp l 0).getD 3 0,(sp l 0).getD 4 0,(sp l 5).getD 0 0,(sp l 5).getD 1 0,(sp l 5).getD 2 0,(sp l 5).getD 3 0,(sp l 5).getD 4 0,(sp l 10).getD 0 0,(sp l 10).getD 1 0,(sp l 10).getD 2 0,(sp l 10).getD 3 0,(sp l 10).getD 4 0]=Z9k (Z71 (sq l)):=fun l=>by rw [hsq,← hsp,← hsp,← hsp]; rfl
 have pv:∀ v,Zc Z7d (dec v)→Zj7.pre ([c0,c1,c2,c3,c4,c5,c6,c7,c8,c9,c10,c11,c12,c13,c14,c15]++[co v 0,co v 1,co v 2]):=fun v h=>Zw hv (Zsf h)
 have q0:Zc Z7d (dec ((Zf b).getD (co t 0).toNat 0)):=hrb.2.1 _ (Zx (by omega))
 have q1:Zc Z7d (dec ((Zf b).getD (co t 1).toNat 0)):=hrb.2.1 _ (Zx (by omega))
 have q2:Zc Z7d (dec ((Zf b).getD (co t 2).toNat 0)):=hrb.2.1 _ (Zx (by omega))
 refine ⟨hb.1,hb.2.1,hb.2.2.1,hb.2.2.2,htn.1.1,htn.2.1,?_,by omega,htn.1.2.1,htn.2.2.1,?_,by omega,htn.1.2.2,htn.2.2.2,?_,by omega,?_,?_⟩
 ·exact pv _ q0
 ·exact pv _ q1
 ·exact pv _ q2
 ·exact hnp
 refine ⟨fun xs=>∃ i:Nat,xs.getD 1 0=(i:Int)∧i≤L.length∧dec (xs.getD 0 0)=(L.take i).filterMap pp∧cod (dec (xs.getD 0 0))=xs.getD 0 0,fun xs=>L.length - (xs.getD 1 0).toNat,fun xs hx _=>Zy (n:=2) hx,⟨0,rfl,by omega,Z29,by simp [Z4]⟩,?_⟩
 intro xs hx hI
 obtain ⟨d0,d1,rfl⟩:=Zdu hx
 obtain ⟨j,hj,hle,hd,hcd⟩:=hI
 simp only [Z1gs,Z1gt,Z1gu,Z1gv] at hj hd hcd ⊢
 subst hj
 simp only [Int.toNat_natCast,show Int.toNat 3=3 from rfl,show Int.toNat 5=5 from rfl,show Int.toNat 6=6 from rfl,show Int.toNat 7=7 from rfl,show Int.toNat 8=8 from rfl,show Int.toNat 9=9 from rfl,show Int.toNat 10=10 from rfl,show Int.toNat 11=11 from rfl,show Int.toNat 12=12 from rfl,show Int.toNat 13=13 from rfl,show Int.toNat 14=14 from rfl]
 simp only [pl0,pl5,pl10,TX.sat,XB.prop,X.den,Z1gw,Z1gx,Z1gq,Z1gr,Z1gu,Z1gv,Z1gs,Z1gt,mkS,mkP,and_true,true_and,Z1h1,Z1h2,not_or,not_and,Z1gy,ne_eq,Z1gz,Z1h0]
 simp only [sh,fr,Z9k,TX.sat,XB.prop,X.den,Z1gw,Z1gx,Z1gq,Z1gr,Z1gu,Z1gv,Z1gs,Z1gt,mkS,mkP,and_true,true_and,Z1h1,Z1h2,not_or,not_and,Z1gy,ne_eq,Z1gz,Z1h0]
 simp only [Z4]
 refine ⟨fun hge=>?_,fun hlt=>?_⟩
 ·have:j=L.length:=by omega
  rw [← hcd,hd,this,List.take_length]
 ·have hjl:j < L.length:=by omega
  have htake:L.take (j + 1)=L.take j++[L.getD j 0]:=by
   rw [List.take_succ_eq_append_getElem hjl]
   rw [show L.getD j 0=L[j] by simp [List.getD,hjl]]
  have hmem:L.getD j 0 ∈ L:=Zx hjl
  have hdl:(dec d0).length≤j:=by
   rw [hd]
   exact Nat.le_trans (List.length_filterMap_le _ _) (List.length_take_le _ _)
  have hw:IntKind.i64.wrap ((j:Int) + 1)=((j + 1:Nat):Int):=by rw [Zo (by omega) (by omega)]; omega
  have he:=hel _ hmem
  have p0:Z5c.pre ([c0,c1,c2,c3,c4,c5,c6,c7,c8,c9,c10,c11,c12,c13,c14,c15]++[co (L.getD j 0) 0,co (L.getD j 0) 1,co (L.getD j 0) 2,co (L.getD j 0) 3,co (L.getD j 0) 4]):=Zw hv (Z1 (he.2 0) (Z1 (he.2 1) (Z1 (he.2 2) (Z1 (he.2 3) (Z1 (he.2 4) (Z2))))))
  have p5:Z5c.pre ([c0,c1,c2,c3,c4,c5,c6,c7,c8,c9,c10,c11,c12,c13,c14,c15]++[co (L.getD j 0) 5,co (L.getD j 0) 6,co (L.getD j 0) 7,co (L.getD j 0) 8,co (L.getD j 0) 9]):=Zw hv (Z1 (he.2 5) (Z1 (he.2 6) (Z1 (he.2 7) (Z1 (he.2 8) (Z1 (he.2 9) (Z2))))))
  have p10:Z5c.pre ([c0,c1,c2,c3,c4,c5,c6,c7,c8,c9,c10,c11,c12,c13,c14,c15]++[co (L.getD j 0) 10,co (L.getD j 0) 11,co (L.getD j 0) 12,co (L.getD j 0) 13,co (L.getD j 0) 14]):=Zw hv (Z1 (he.2 10) (Z1 (he.2 11) (Z1 (he.2 12) (Z1 (he.2 13) (Z1 (he.2 14) (Z2))))))
  have o0:Zr (Zbx []) [(sp (L.getD j 0) 0).getD 0 0,(sp (L.getD j 0) 0).getD 1 0,(sp (L.getD j 0) 0).getD 2 0,(sp (L.getD j 0) 0).getD 3 0,(sp (L.getD j 0) 0).getD 4 0,(sp (L.getD j 0) 0).getD 5 0]:=pl0 (L.getD j 0) ▸ Z88.2 Z4w _ p0 p0
  have o5:Zr (Zbx []) [(sp (L.getD j 0) 5).getD 0 0,(sp (L.getD j 0) 5).getD 1 0,(sp (L.getD j 0) 5).getD 2 0,(sp (L.getD j 0) 5).getD 3 0,(sp (L.getD j 0) 5).getD 4 0,(sp (L.getD j 0) 5).getD 5 0]:=pl5 (L.getD j 0) ▸ Z88.2 Z4w _ p5 p5
  have o10:Zr (Zbx []) [(sp (L.getD j 0) 10).getD 0 0,(sp (L.getD j 0) 10).getD 1 0,(sp (L.getD j 0) 10).getD 2 0,(sp (L.getD j 0) 10).getD 3 0,(sp (L.getD j 0) 10).getD 4 0,(sp (L.getD j 0) 10).getD 5 0]:=pl10 (L.getD j 0) ▸ Z88.2 Z4w _ p10 p10
  have hcull:Zh (iv 0 255) (co b 8):=(Z1g hrb.1).2 8
  have wide:∀ {a c x:Int},Zh (iv a c) x→-9223372036854775808≤a→c≤9223372036854775807→Zh zz x:=fun h h1 h2=>⟨Int.le_trans h1 h.1,Int.le_trans h.2 h2⟩
  have psh:Zh2.pre ([(sp (L.getD j 0) 0).getD 0 0,(sp (L.getD j 0) 0).getD 1 0,(sp (L.getD j 0) 0).getD 2 0,(sp (L.getD j 0) 0).getD 3 0,(sp (L.getD j 0) 0).getD 4 0,(sp (L.getD j 0) 5).getD 0 0,(sp (L.getD j 0) 5).getD 1 0,(sp (L.getD j 0) 5).getD 2 0,(sp (L.getD j 0) 5).getD 3 0,(sp (L.getD j 0) 5).getD 4 0,(sp (L.getD j 0) 10).getD 0 0,(sp (L.getD j 0) 10).getD 1 0,(sp (L.getD j 0) 10).getD 2 0,(sp (L.getD j 0) 10).getD 3 0,(sp (L.getD j 0) 10).getD 4 0]++[co b 8]):=Z1 (wide (o0.2 0) (by decide) (by decide)) (Z1 (wide (o0.2 1) (by decide) (by decide)) (Z1 (wide (o0.2 2) (by decide) (by decide)) (Z1 (wide (o0.2 3) (by decide) (by decide)) (Z1 (wide (o0.2 4) (by decide) (by decide)) (Z1 (wide (o5.2 0) (by decide) (by decide)) (Z1 (wide (o5.2 1) (by decide) (by decide)) (Z1 (wide (o5.2 2) (by decide) (by decide)) (Z1 (wide (o5.2 3) (by decide) (by decide)) (Z1 (wide (o5.2 4) (by decide) (by decide)) (Z1 (wide (o10.2 0) (by decide) (by decide)) (Z1 (wide (o10.2 1) (by decide) (by decide)) (Z1 (wide (o10.2 2) (by decide) (by decide)) (Z1 (wide (o10.2 3) (by decide) (by decide)) (Z1 (wide (o10.2 4) (by decide) (by decide)) (Z1 (hcull) (Z2))))))))))))))))
  have hpart:=hpp (L.getD j 0)
  unfold Zrz at hpart
  rw [← hsq] at hpart
  have h01:(Z58 (sq (L.getD j 0)++[co b 8])).getD 0 0=0∨(Z58 (sq (L.getD j 0)++[co b 8])).getD 0 0=1:=Z19n _
  refine ⟨by omega,p0,p5,p10,psh,fun hn=>⟨?_,⟨j + 1,hw,by omega,?_,trivial⟩,?_⟩,fun hz=>⟨⟨j + 1,hw,by omega,?_,hcd⟩,?_⟩⟩
  ·rw [List.length_append,List.length_singleton]
   omega
  ·rw [if_pos (h01.resolve_left hn)] at hpart
   rw [htake,List.filterMap_append,hd]
   simp only [List.filterMap_cons,hpart,List.filterMap_nil]
   rfl
  ·rw [hw,Int.toNat_natCast]
   omega
  ·rw [if_neg (by rw [hz]; decide)] at hpart
   rw [htake,List.filterMap_append,hd]
   simp only [List.filterMap_cons,hpart,List.filterMap_nil,List.append_nil]
  ·rw [hw,Int.toNat_natCast]
   omega
theorem Zsj {x p:List Int} (hx:Zr (zs 16) x) (h:Zsi x p):∃ u0 u1 u2 u3 u4,p=[u0,u1,u2,u3,u4]∧Zh zz u0∧Zh zz u1∧Zh zz u2∧Zh zz u3∧Zh zz u4:=by
 obtain ⟨u0,u1,u2,u3,u4,e,_,h0,h1,h2,h3,h4⟩:=h
 have key:∀ j (u:Int),j < 5→mnC x j≤u→u≤mxC x j→Zh zz u:=by
  intro j u hj k1 k2
  have zx:∀ i,i < 16→-9223372036854775808≤x.getD i 0∧x.getD i 0≤9223372036854775807:=by
   intro i hi
   have:=hx.2 i
   have hz:(zs 16).getD i none=zz:=by
    unfold zs List.getD
    rw [List.getElem?_replicate,if_pos hi]
    rfl
   rw [hz] at this
   exact this
  have e1:=zx (1 + j) (by omega)
  have e2:=zx (6 + j) (by omega)
  have e3:=zx (11 + j) (by omega)
  unfold mnC at k1
  unfold mxC at k2
  exact zc u (by omega) (by omega)
 exact ⟨u0,u1,u2,u3,u4,e,key 0 u0 (by omega) h0.1 h0.2,key 1 u1 (by omega) h1.1 h1.2,key 2 u2 (by omega) h2.1 h2.2,key 3 u3 (by omega) h3.1 h3.2,key 4 u4 (by omega) h4.1 h4.2⟩
theorem Z14d {x:List Int} (hl:x.length=16) (hx:Zr (zs 16) x):∀ l ∈ dec ((Z7c x).getD 0 0),Zr (zs 15) [co l 0,co l 1,co l 2,co l 3,co l 4,co l 5,co l 6,co l 7,co l 8,co l 9,co l 10,co l 11,co l 12,co l 13,co l 14]:=by
 intro l h
 obtain ⟨p,q,r,hp,hq,hr,e⟩:=(Zcc hl).2 l h
 obtain ⟨a0,a1,a2,a3,a4,rfl,p0,p1,p2,p3,p4⟩:=Zsj hx hp
 obtain ⟨b0,b1,b2,b3,b4,rfl,q0,q1,q2,q3,q4⟩:=Zsj hx hq
 obtain ⟨d0,d1,d2,d3,d4,rfl,r0,r1,r2,r3,r4⟩:=Zsj hx hr
 unfold co
 rw [e]
 exact Z1 (p0) (Z1 (p1) (Z1 (p2) (Z1 (p3) (Z1 (p4) (Z1 (q0) (Z1 (q1) (Z1 (q2) (Z1 (q3) (Z1 (q4) (Z1 (r0) (Z1 (r1) (Z1 (r2) (Z1 (r3) (Z1 (r4) (Z2)))))))))))))))
theorem Zsk {c0 c1 c2 c3 c4 c5 c6 c7 c8 c9 c10 c11 c12 c13 c14 c15 b t:Int} (hv:Zr (zs 16) [c0,c1,c2,c3,c4,c5,c6,c7,c8,c9,c10,c11,c12,c13,c14,c15]) (h1:∀ v ∈ Zf b,Zc Z7d (dec v)) (h2:∀ v ∈ Zjg b,Zc Z12y (dec v)) (hl:(Zjg b).length=(Zf b).length)
  (htn:(0≤co t 0∧0≤co t 1∧0≤co t 2)∧co t 0 < (Zf b).length∧co t 1 < (Zf b).length∧co t 2 < (Zf b).length):Zr (zs 16) (c13::Zh7 [c0,c1,c2,c3,c4,c5,c6,c7,c8,c9,c10,c11,c12,c13,c14,c15] b t):=by
 have pv:∀ v,Zc Z7d (dec v)→Zj7.pre ([c0,c1,c2,c3,c4,c5,c6,c7,c8,c9,c10,c11,c12,c13,c14,c15]++[co v 0,co v 1,co v 2]):=fun v h=>Zw hv (Zsf h)
 have bv:∀ v,Zc Z7d (dec v)→Zr (Zu5 []) (ex4 (Z1v [c0,c1,c2,c3,c4,c5,c6,c7,c8,c9,c10,c11,c12,c13,c14,c15] v)):=fun v h=>Zuj.2 Zee _ (pv v h) (pv v h)
 have wide:∀ {a c x:Int},Zh (iv a c) x→-9223372036854775808≤a→c≤9223372036854775807→Zh zz x:=fun h h1 h2=>⟨Int.le_trans h1 h.1,Int.le_trans h.2 h2⟩
 have v0:=bv _ (h1 ((Zf b).getD (co t 0).toNat 0) (Zx (by omega)))
 have v1:=bv _ (h1 ((Zf b).getD (co t 1).toNat 0) (Zx (by omega)))
 have v2:=bv _ (h1 ((Zf b).getD (co t 2).toNat 0) (Zx (by omega)))
 have u0:=Z1g (h2 ((Zjg b).getD (co t 0).toNat 0) (Zx (by omega)))
 have u1:=Z1g (h2 ((Zjg b).getD (co t 1).toNat 0) (Zx (by omega)))
 have u2:=Z1g (h2 ((Zjg b).getD (co t 2).toNat 0) (Zx (by omega)))
 exact Z1 (hv.2 13) (Z1 (wide (v0.2 0) (by decide) (by decide)) (Z1 (wide (v0.2 1) (by decide) (by decide)) (Z1 (wide (v0.2 2) (by decide) (by decide)) (Z1 (u0.2 0) (Z1 (u0.2 1) (Z1 (wide (v1.2 0) (by decide) (by decide)) (Z1 (wide (v1.2 1) (by decide) (by decide)) (Z1 (wide (v1.2 2) (by decide) (by decide)) (Z1 (u1.2 0) (Z1 (u1.2 1) (Z1 (wide (v2.2 0) (by decide) (by decide)) (Z1 (wide (v2.2 1) (by decide) (by decide)) (Z1 (wide (v2.2 2) (by decide) (by decide)) (Z1 (u2.2 0) (Z1 (u2.2 1) (Z2))))))))))))))))
theorem Zm0:Z6q.ok Tryz.prog:=Sum.okPF (pin:=Zoy) facts.mixed Z1fp Z1fq Zyw rfl (fun _=>rfl) (fun xs h=>h.1) (by
 intro xs hx hp
 obtain ⟨I,T,c0,c1,c2,c3,c4,c5,c6,c7,c8,c9,c10,c11,c12,c13,c14,c15,i,k,rfl⟩:=Z1e7 hx
 obtain ⟨hv,hr,hb,hE,hc⟩:=hp
 replace hr:Z3o (dec I) (dec T):=hr
 replace hE:Z2k [I,T]=0:=hE
 replace hb:0≤i∧i < (dec I).length∧0≤k∧k < (Z1t ((dec I).getD i.toNat 0)).length:=hb
 obtain ⟨_,_,_,hmay⟩:=Z1z hE
 have hbl:(dec I).getD i.toNat 0 ∈ dec I:=Zx (by omega)
 have hrb:=hr.1 _ hbl
 have hmb:=Z8a (hmay _ hbl)
 have htl:(Z1t ((dec I).getD i.toNat 0)).getD k.toNat 0 ∈ Z1t ((dec I).getD i.toNat 0):=Zx (by omega)
 have htn:=hmb.2.2.2.1 _ htl
 simp only [Zzm,decide_eq_true_iff] at htn
 have hv16:Zr (zs 16) [c0,c1,c2,c3,c4,c5,c6,c7,c8,c9,c10,c11,c12,c13,c14,c15]:=Z1 (hv.2 2) (Z1 (hv.2 3) (Z1 (hv.2 4) (Z1 (hv.2 5) (Z1 (hv.2 6) (Z1 (hv.2 7) (Z1 (hv.2 8) (Z1 (hv.2 9) (Z1 (hv.2 10) (Z1 (hv.2 11) (Z1 (hv.2 12) (Z1 (hv.2 13) (Z1 (hv.2 14) (Z1 (hv.2 15) (Z1 (hv.2 16) (Z1 (hv.2 17) (Z2))))))))))))))))
 have hnp:=Zsk hv16 hrb.2.1 hrb.2.2.1 hmb.1.2.1 htn
 exact Z14c I T c0 c1 c2 c3 c4 c5 c6 c7 c8 c9 c10 c11 c12 c13 c14 c15 i k _ _ rfl rfl _ rfl _ (fun _ _=>rfl) _ (fun _=>rfl) _ (fun _=>rfl) hv16 hrb hb ⟨hmb.1.1,hmb.1.2.1⟩ htn hnp (Nat.le_trans (Zcc (x:=c13::Zh7 [c0,c1,c2,c3,c4,c5,c6,c7,c8,c9,c10,c11,c12,c13,c14,c15] _ _) rfl).1 (by decide)) (Z14d rfl hnp))
theorem Zpd:Z18 Z6q Zs0:=⟨fun xs h=>(Z14 xs h).elim,fun vs xs h hp=>Z1 trivial Z2⟩
end Go.Proofs.YtgcoidbaoigkeaaGreatDoor.fix
namespace Go.Proofs.YtgcoidbaoigkeaaGreatDoor.fix
open Go.RowKit Go.Sx
theorem Zcd {b:Int} {i k:Nat} {P:List Int}:∀ n,(Z3e b i k P n).length=n
 | 0=>rfl
 | n + 1=>by rw [Z3e,List.length_append,Zcd n]; rfl
theorem Zex {l:List Int} {pt:Nat→Nat→List Int} {i:Nat} (h:∀ k,(pt i k).length≤6):∀ k,(Zjh l pt i k).length≤6 * k
 | 0=>Nat.le_refl _
 | k + 1=>by
  have:=Zex (l:=l) h k
  have:=h k
  rw [Zjh,List.length_append,Zcd]
  omega
theorem Zce {l:List Int} {pt:Nat→Nat→List Int} (h:∀ i k,(pt i k).length≤6) (ht:∀ i,i < l.length→(Z1t (l.getD i 0)).length≤64):∀ i,i≤l.length→(Z3p l pt i).length≤384 * i
 | 0,_=>Nat.le_refl _
 | i + 1,hi=>by
  have h1:=Zce (l:=l) h ht i (by omega)
  have h2:=Zex (l:=l) (h i) (Z1t (l.getD i 0)).length
  have h3:=ht i (by omega)
  rw [Z3p,List.length_append]
  omega
end Go.Proofs.YtgcoidbaoigkeaaGreatDoor.fix
namespace Go.Proofs.YtgcoidbaoigkeaaGreatDoor.fix
open Go.RowKit Go.Sx
theorem Zvy {l:List Int} {p:Int} (h:p ∈ l):∃ m,m < l.length∧p=l.getD m 0:=by
 obtain ⟨m,hm,e⟩:=List.getElem_of_mem h
 exact ⟨m,hm,by rw [← e]; simp [List.getD,hm]⟩
theorem Zpe {b p:Int} {i k:Nat} {P:List Int}:∀ {n},p ∈ Z3e b i k P n→∃ m,m < n∧p=Z7g b i k m (P.getD m 0)
 | 0,h=>by cases h
 | n + 1,h=>by
  rw [Z3e,List.mem_append,List.mem_singleton] at h
  rcases h with h | h
  ·obtain ⟨m,hm,e⟩:=Zpe h
   exact ⟨m,by omega,e⟩
  ·exact ⟨n,by omega,h⟩
theorem Zm1 {l:List Int} {pt:Nat→Nat→List Int} {i:Nat} {p:Int}:∀ {n},p ∈ Zjh l pt i n→∃ k m,k < n∧m < (pt i k).length∧p=Z7g (l.getD i 0) i k m ((pt i k).getD m 0)
 | 0,h=>by cases h
 | n + 1,h=>by
  rw [Zjh,List.mem_append] at h
  rcases h with h | h
  ·obtain ⟨k,m,hk,hm,e⟩:=Zm1 h
   exact ⟨k,m,by omega,hm,e⟩
  ·obtain ⟨m,hm,e⟩:=Zpe h
   exact ⟨n,m,by omega,hm,e⟩
theorem Z61 {l:List Int} {pt:Nat→Nat→List Int} {p:Int}:∀ {n},p ∈ Z3p l pt n→∃ i k m,i < n∧k < (Z1t (l.getD i 0)).length∧m < (pt i k).length∧p=Z7g (l.getD i 0) i k m ((pt i k).getD m 0)
 | 0,h=>by cases h
 | n + 1,h=>by
  rw [Z3p,List.mem_append] at h
  rcases h with h | h
  ·obtain ⟨i,k,m,hi,hk,hm,e⟩:=Z61 h
   exact ⟨i,k,m,by omega,hk,hm,e⟩
  ·obtain ⟨k,m,hk,hm,e⟩:=Zm1 h
   exact ⟨n,k,m,by omega,hk,hm,e⟩
theorem Z14e (b:Int) (i k n:Nat) (p:Int):Z1c (Z7g b i k n p)=Z1c p:=by
 unfold Z7g
 generalize hq:Z1c p=q
 have hl:q.length=15:=by rw [← hq]; rfl
 obtain ⟨q0,q1,q2,q3,q4,q5,q6,q7,q8,q9,q10,q11,q12,q13,q14,rfl⟩:=Z17h hl
 unfold Z1c co
 rw [Z4]
 rfl
theorem Z8b (b:Int) (i k n:Nat) (p:Int):co (Z7g b i k n p) 16=(i:Int):=by
 unfold Z7g co
 rw [Z4]
 rfl
theorem Z1fr (l:List Int):Z1c (cod (Ze0 l))=Ze0 l:=by
 unfold Z1c co
 rw [Z4]
 rfl
theorem Z1o {a c x:Int} (h:Zh (iv a c) x) (h1:-9223372036854775808≤a) (h2:c≤9223372036854775807):Zh zz x:=⟨Int.le_trans h1 h.1,Int.le_trans h.2 h2⟩
theorem Zm2 {c0 c1 c2 c3 c4 c5 c6 c7 c8 c9 c10 c11 c12 c13 c14 c15 l0 l1 l2 l3 l4:Int} (hv:Zr (zs 16) [c0,c1,c2,c3,c4,c5,c6,c7,c8,c9,c10,c11,c12,c13,c14,c15]) (h:Zr (zs 5) [l0,l1,l2,l3,l4]):Zr (zs 5) (five (Z5x [c0,c1,c2,c3,c4,c5,c6,c7,c8,c9,c10,c11,c12,c13,c14,c15,l0,l1,l2,l3,l4])):=by
 have p:Z5c.pre ([c0,c1,c2,c3,c4,c5,c6,c7,c8,c9,c10,c11,c12,c13,c14,c15]++[l0,l1,l2,l3,l4]):=Zw hv h
 have o:=Z88.2 Z4w _ p p
 exact Z1 (Z1o (o.2 0) (by decide) (by decide)) (Z1 (Z1o (o.2 1) (by decide) (by decide)) (Z1 (Z1o (o.2 2) (by decide) (by decide)) (Z1 (Z1o (o.2 3) (by decide) (by decide)) (Z1 (Z1o (o.2 4) (by decide) (by decide)) Z2))))
theorem Z1fs {c0 c1 c2 c3 c4 c5 c6 c7 c8 c9 c10 c11 c12 c13 c14 c15 lq:Int} (hv:Zr (zs 16) [c0,c1,c2,c3,c4,c5,c6,c7,c8,c9,c10,c11,c12,c13,c14,c15]) (he:Zr (zs 15) [co lq 0,co lq 1,co lq 2,co lq 3,co lq 4,co lq 5,co lq 6,co lq 7,co lq 8,co lq 9,co lq 10,co lq 11,co lq 12,co lq 13,co lq 14]):Zr (zs 15) (Zow [c0,c1,c2,c3,c4,c5,c6,c7,c8,c9,c10,c11,c12,c13,c14,c15] lq):=by
 have h0:=Zm2 (l0:=co lq 0) (l1:=co lq 1) (l2:=co lq 2) (l3:=co lq 3) (l4:=co lq 4) hv (Z1 (he.2 0) (Z1 (he.2 1) (Z1 (he.2 2) (Z1 (he.2 3) (Z1 (he.2 4) Z2)))))
 have h5:=Zm2 (l0:=co lq 5) (l1:=co lq 6) (l2:=co lq 7) (l3:=co lq 8) (l4:=co lq 9) hv (Z1 (he.2 5) (Z1 (he.2 6) (Z1 (he.2 7) (Z1 (he.2 8) (Z1 (he.2 9) Z2)))))
 have h10:=Zm2 (l0:=co lq 10) (l1:=co lq 11) (l2:=co lq 12) (l3:=co lq 13) (l4:=co lq 14) hv (Z1 (he.2 10) (Z1 (he.2 11) (Z1 (he.2 12) (Z1 (he.2 13) (Z1 (he.2 14) Z2)))))
 exact Zw h0 (Zw h5 h10)
theorem Z19o {s:List Int} (h:Zr (zs 15) s):Zr (zs 15) (Ze0 (Z71 s)):=by
 have o:=Zp8.2 Zbw _ h h
 exact Z1 (Z1o (o.2 0) (by decide) (by decide)) (Z1 (Z1o (o.2 1) (by decide) (by decide)) (Z1 (Z1o (o.2 2) (by decide) (by decide)) (Z1 (Z1o (o.2 3) (by decide) (by decide)) (Z1 (Z1o (o.2 4) (by decide) (by decide)) (Z1 (Z1o (o.2 5) (by decide) (by decide)) (Z1 (Z1o (o.2 6) (by decide) (by decide)) (Z1 (Z1o (o.2 7) (by decide) (by decide)) (Z1 (Z1o (o.2 8) (by decide) (by decide)) (Z1 (Z1o (o.2 9) (by decide) (by decide)) (Z1 (Z1o (o.2 10) (by decide) (by decide)) (Z1 (Z1o (o.2 11) (by decide) (by decide)) (Z1 (Z1o (o.2 12) (by decide) (by decide)) (Z1 (Z1o (o.2 13) (by decide) (by decide)) (Z1 (Z1o (o.2 14) (by decide) (by decide)) Z2))))))))))))))
theorem Zm3 {c0 c1 c2 c3 c4 c5 c6 c7 c8 c9 c10 c11 c12 c13 c14 c15 b t q:Int} (hv:Zr (zs 16) [c0,c1,c2,c3,c4,c5,c6,c7,c8,c9,c10,c11,c12,c13,c14,c15]) (hn:Zr (zs 16) (c13::Zh7 [c0,c1,c2,c3,c4,c5,c6,c7,c8,c9,c10,c11,c12,c13,c14,c15] b t)) (h:q ∈ Z9s [c0,c1,c2,c3,c4,c5,c6,c7,c8,c9,c10,c11,c12,c13,c14,c15] b t):Zr (zs 15) (Z1c q):=by
 unfold Z9s at h
 obtain ⟨lq,hl,hp⟩:=List.mem_filterMap.1 h
 unfold Zrz at hp
 split at hp
 ·simp only [Option.some.injEq] at hp
  have e:Z1c q=Ze0 (Z71 (Zow [c0,c1,c2,c3,c4,c5,c6,c7,c8,c9,c10,c11,c12,c13,c14,c15] lq)):=by
   rw [← hp]
   unfold Z1c co
   rw [Z4]
   rfl
  rw [e]
  exact Z19o (Z1fs hv (Z14d (x:=c13::Zh7 [c0,c1,c2,c3,c4,c5,c6,c7,c8,c9,c10,c11,c12,c13,c14,c15] b t) rfl hn lq hl))
 ·cases hp
theorem Z8c {c0 c1 c2 c3 c4 c5 c6 c7 c8 c9 c10 c11 c12 c13 c14 c15 b t:Int}:(Z9s [c0,c1,c2,c3,c4,c5,c6,c7,c8,c9,c10,c11,c12,c13,c14,c15] b t).length≤6:=by
 unfold Z9s
 exact Nat.le_trans (List.length_filterMap_le _ _) (Zcc (x:=c13::Zh7 [c0,c1,c2,c3,c4,c5,c6,c7,c8,c9,c10,c11,c12,c13,c14,c15] b t) rfl).1
theorem Zm4 {l:List Int} {pt:Nat→Nat→List Int} (h:∀ i k,i < l.length→k < (Z1t (l.getD i 0)).length→∀ q ∈ pt i k,Zr (zs 15) (Z1c q)):∀ p ∈ Z3p l pt l.length,Zr (zs 15) (Z1c p):=by
 intro p hp
 obtain ⟨i,k,m,hi,hk,hm,rfl⟩:=Z61 hp
 rw [Z14e]
 exact h i k hi hk _ (Zx hm)
theorem Z14f:Z18 Z1ev Z1ew:=⟨fun xs h=>(Z14 xs h).elim,fun vs xs h hp=>Z1 trivial (Z1 (by
  show Zh (iv 0 150) (frE _)
  have h0:=(Zdi.2 [none,none] [xs.getD 0 0,xs.getD 1 0] (Zy (n:=2) rfl) ⟨Zy (n:=2) rfl,hp.2⟩).2 0
  have h1:Zh (iv 0 8) (Z2k xs):=h0
  unfold frE
  split
  ·split
   ·split
    ·exact ⟨by decide,by decide⟩
    ·exact ⟨by decide,by decide⟩
   ·exact ⟨by decide,by decide⟩
  ·exact ⟨h1.1,Int.le_trans h1.2 (by decide)⟩) Z2)⟩
end Go.Proofs.YtgcoidbaoigkeaaGreatDoor.fix
namespace Go.Proofs.YtgcoidbaoigkeaaGreatDoor.fix
open Go.RowKit Go.Sx
noncomputable def Zvz:List Sum:=[]
def Z1cm:List Inf:=[]
def Z1cn:TX:=(.ite (.not (.eq (.v 0) (.v 0))) (.ite (.not (.eq (.v 1) (.v 1))) (.ret [(.c 0)])
(.ret [(.c (-1))]))
(.ite (.not (.eq (.v 1) (.v 1))) (.ret [(.c 1)])
(.ite (.lt (.v 0) (.v 1)) (.ret [(.c (-1))])
(.ite (.lt (.v 1) (.v 0)) (.ret [(.c 1)])
(.ret [(.c 0)])))))
theorem Z14g:Z13 (Zs [] Z1cm [] Zlj (Zn Tryz.prog Z78 gl0 Zvz 1000 59 [I1,I1] [I1]))=Z1cn:=by kernel_rfl
theorem g_cmpI:Gok Tryz.prog Zvz:=noG
theorem o_cmpI:Zi Zvz Z1cm:=Z6
theorem Z1ft:Zv3.ok Tryz.prog:=Sum.okF facts.mixed g_cmpI o_cmpI Z14g rfl (fun _=>rfl) (by
 intro xs hx hp
 obtain ⟨a,b,rfl⟩:=Zdu hx
 simp only [Z1cn,Zvz,TX.sat,XB.prop,X.den,Z1gw,Z1gx,Z1gq,Z1gr,Z1gu,Z1gv,Z1gs,Z1gt,mkS,mkP,and_true,true_and,Z1h1,Z1h2,not_or,not_and,Z1gy,ne_eq,Z1gz,Z1h0,Zli]
 refine ⟨fun h=>h.elim,fun _=>⟨fun h=>h.elim,fun _=>⟨fun h=>by rw [if_pos h],fun h=>⟨fun h2=>by rw [if_neg (by omega),if_pos h2],fun h2=>by rw [if_neg (by omega),if_neg (by omega)]⟩⟩⟩⟩)
theorem Z19p:Z18 Zv3 Z1c2:=⟨fun _ h=>h,fun vs xs h hp=>Z1 (Z7.2 (by split; omega; split <;> omega)) Z2⟩
noncomputable def Z19q:List Sum:=[]
def I_orI:List Inf:=[]
def t_orI:TX:=(.loop 2 [none,none] [(.c 0),(.c 0)] (.ite (.le (.ln (.v 0)) (.v 2)) (.ret [(.c 0)])
(.asrt (.le (.c 0) (.v 2)) (.ite (.not (.eq (.l2 .at (.v 0) (.v 2)) (.c 0))) (.ret [(.l2 .at (.v 0) (.v 2))])
(.back 0 [(.v 1),(.wr .i64 (.add (.v 2) (.c 1)))])))))
theorem Z19r:Z13 (Zs [] I_orI [] [none] (Zn Tryz.prog (Z9p Tryz.prog [(3,9)]) gl0 Z19q 1000 83 [Is] [I1]))=t_orI:=by kernel_rfl
theorem g_orI:Gok Tryz.prog Z19q:=noG
theorem o_orI:Zi Z19q I_orI:=Z6
theorem ok_orI:Z18l.ok Tryz.prog:=Sum.okPF (pin:=Z139) facts.mixed g_orI o_orI Z19r rfl (fun _=>rfl) (fun xs h=>h.1) (by
 intro xs hx hp
 obtain ⟨a,rfl⟩:∃ a,xs=[a]:=by
  match xs,hx with
  | [a],_=>exact ⟨a,rfl⟩
 have hl:(dec a).length≤1000:=hp.2
 simp only [t_orI,Z19q,TX.sat,XB.prop,X.den,Z1gw,Z1gx,Z1gq,Z1gr,Z1gu,Z1gv,Z1gs,Z1gt,mkS,mkP,and_true,true_and,Z1h1,Z1h2,not_or,not_and,Z1gy,ne_eq,Z1gz,Z1h0,Zs1,L2.den]
 generalize dec a=l at hl
 refine ⟨fun xs=>∃ i:Nat,xs.getD 1 0=(i:Int)∧i≤l.length∧Zc1 (l.drop i)=Zc1 l,fun xs=>l.length - (xs.getD 1 0).toNat,fun xs hx _=>Zy (n:=2) hx,⟨0,rfl,by omega,rfl⟩,?_⟩
 intro ys hy hI
 obtain ⟨d0,d1,rfl⟩:=Zdu hy
 obtain ⟨i,hi,hil,hf⟩:=hI
 simp only [TX.sat,XB.prop,X.den,Z1gw,Z1gx,Z1gq,Z1gr,Z1gu,Z1gv,Z1gs,Z1gt,mkS,mkP,and_true,true_and,Z1h1,Z1h2,not_or,not_and,Z1gy,ne_eq,Z1gz,Z1h0] at hi ⊢
 subst hi
 simp only [Int.toNat_natCast]
 refine ⟨fun hge=>?_,fun hlt=>⟨by omega,fun hne=>?_,fun h0=>?_⟩⟩
 ·have:i=l.length:=by omega
  rw [← hf,this,List.drop_length]
  rfl
 ·have hil':i < l.length:=by omega
  have hd:l.drop i=l.getD i 0::l.drop (i + 1):=by
   rw [List.drop_eq_getElem_cons hil',show l.getD i 0=l[i] by simp [List.getD,hil']]
  rw [← hf,hd,Zc1,if_neg hne]
 ·have hil':i < l.length:=by omega
  have hd:l.drop i=l.getD i 0::l.drop (i + 1):=by
   rw [List.drop_eq_getElem_cons hil',show l.getD i 0=l[i] by simp [List.getD,hil']]
  rw [hd,Zc1,if_pos h0] at hf
  have hw:IntKind.i64.wrap ((i:Int) + 1)=((i + 1:Nat):Int):=by rw [Zo (by omega) (by omega)]; omega
  refine ⟨⟨i + 1,hw,by omega,hf⟩,?_⟩
  rw [hw,Int.toNat_natCast]
  omega)
theorem Z1fu:Z18 Z18l i_orI:=⟨fun xs h=>(Z14 xs h).elim,fun vs xs h hp=>Z1 trivial Z2⟩
noncomputable def Zey:List Sum:=[Zv3,Z18l]
def Zw0:List Inf:=[Z1c2,i_orI]
def Zw1:TX:=(.callp 0 [(.v 6),(.v 0)] (.callp 0 [(.v 1),(.v 7)] (.callp 0 [(.v 2),(.v 8)] (.callp 0 [(.v 3),(.v 9)] (.call 1 [(.l2 .cons (.v 12) (.l2 .cons (.v 13) (.l2 .cons (.v 14) (.l2 .cons (.v 15) .nl))))] (.ite (.lt (.v 16) (.c 0)) (.ret [(.c 1)])
(.ret [(.c 0)])))))))
theorem Zsl:Z13 (Zs [] Zw0 [] Zdf (Zn Tryz.prog Z78 gl0 Zey 1000 51 [An 6,An 6] [Bo]))=Zw1:=by kernel_rfl
theorem Z19s:Gok Tryz.prog Zey:=(more Z1ft (fix.one ok_orI))
theorem Z19t:Zi Zey Zw0:=(Z3 Z19p (Z3 Z1fu Z6))
theorem first4 {p q r s:Int}:Zc1 [p,q,r,s] < 0↔(p < 0∨(p=0∧(q < 0∨(q=0∧(r < 0∨(r=0∧s < 0)))))):=by
 simp only [Zc1]
 split
 ·split
  ·split
   ·split <;> omega
   ·omega
  ·omega
 ·omega
theorem Zw2 {a b:Int}:(if a < b then (-1:Int) else if b < a then 1 else 0) < 0↔a < b:=by
 split
 ·omega
 ·split <;> omega
theorem Z14h {a b:Int}:(if a < b then (-1:Int) else if b < a then 1 else 0)=0↔a=b:=by
 split
 ·omega
 ·split <;> omega
theorem Zpf:Z9b.ok Tryz.prog:=Sum.okF facts.mixed Z19s Z19t Zsl rfl (fun _=>rfl) (by
 intro xs hx hp
 obtain ⟨a0,a1,a2,a3,a4,a5,a6,a7,a8,a9,a10,a11,rfl⟩:=Z17g hx
 simp only [Zw1,Zey,Zv3,Z18l,TX.sat,XB.prop,X.den,Z1gw,Z1gx,Z1gq,Z1gr,Z1gu,Z1gv,Z1gs,Z1gt,mkS,mkP,and_true,true_and,Z1h1,Z1h2,not_or,not_and,Z1gy,ne_eq,Z1gz,Z1h0,Zli,Zs1,Zji,L2.den,Z4,Z29]
 have key:Zc2 [a0,a1,a2,a3,a4,a5,a6,a7,a8,a9,a10,a11]=true↔Zc1 [if a6 < a0 then (-1:Int) else if a0 < a6 then 1 else 0,if a1 < a7 then (-1:Int) else if a7 < a1 then 1 else 0,if a2 < a8 then (-1:Int) else if a8 < a2 then 1 else 0,if a3 < a9 then (-1:Int) else if a9 < a3 then 1 else 0] < 0:=by
  rw [first4,Zw2,Zw2,Zw2,Zw2,Z14h,Z14h,Z14h]
  unfold Zc2
  rw [decide_eq_true_iff]
  simp only [TX.sat,XB.prop,X.den,Z1gw,Z1gx,Z1gq,Z1gr,Z1gu,Z1gv,Z1gs,Z1gt,mkS,mkP,and_true,true_and,Z1h1,Z1h2,not_or,not_and,Z1gy,ne_eq,Z1gz,Z1h0]
 refine ⟨⟨Zy (n:=1) rfl,by show (dec (cod _)).length≤1000; rw [Z4]; simp⟩,fun h=>?_,fun h=>?_⟩
 ·rw [key.2 h]; rfl
 ·cases hb:Zc2 [a0,a1,a2,a3,a4,a5,a6,a7,a8,a9,a10,a11] with
  | true=>exact absurd (key.1 hb) (by omega)
  | false=>rfl)
theorem Zjp:Z18 Z9b Zlk:=⟨fun _ h=>h,fun vs xs h hp=>Z1 (Zdt _) Z2⟩
noncomputable def Zpg:List Sum:=[Z48,Z32,Z6q,Z72,Z9b]
def Z1co:List Inf:=[Zlh,Zbg,Zs0,Zot,Zlk]
def Z14i:TX:=(.call 0 [(.v 0),(.v 1)] (.ite (.not (.eq (.v 20) (.c 0))) (.ret [(.c 0),(.c 0),(.c 0),(.c 0),(.c 0),(.c 0),(.c 0),(.v 20)])
(.callp 1 [(.v 2),(.v 3),(.v 4),(.v 5),(.v 6),(.v 7),(.v 8),(.v 9),(.v 10),(.v 11),(.v 12),(.v 13),(.v 14),(.v 15),(.v 16),(.v 17)] (.ite (.not (.eq (.v 21) (.c 0))) (.ret [(.c 0),(.c 0),(.c 0),(.c 0),(.c 0),(.c 0),(.c 0),(.v 21)])
(.ite (.or (.or (.or (.lt (.v 18) (.c 0)) (.le (.v 16) (.v 18))) (.lt (.v 19) (.c 0))) (.le (.v 17) (.v 19))) (.ret [(.c 0),(.c 0),(.c 0),(.c 0),(.c 0),(.c 0),(.c 0),(.c 2)])
(.loop 2 [none,none] [(.c 0),.nl] (.ite (.lt (.v 22) (.ln (.v 0))) (.asrt (.le (.c 0) (.v 22)) (.loop 2 [none,none] [(.c 0),(.v 23)] (.ite (.lt (.v 24) (.ln (.l2 .at (.l2 .at (.l2 .at (.v 0) (.v 22)) (.c 2)) (.c 4)))) (.call 2 [(.v 0),(.v 1),(.v 2),(.v 3),(.v 4),(.v 5),(.v 6),(.v 7),(.v 8),(.v 9),(.v 10),(.v 11),(.v 12),(.v 13),(.v 14),(.v 15),(.v 16),(.v 17),(.v 22),(.v 24)] (.loop 2 [none,none] [(.c 0),(.v 25)] (.ite (.lt (.v 27) (.ln (.v 26))) (.asrt (.le (.c 0) (.v 27)) (.asrt (.le (.ln (.l2 .snoc (.v 28) (.l2 .cons (.l2 .at (.l2 .at (.v 26) (.v 27)) (.c 0)) (.l2 .cons (.l2 .at (.l2 .at (.v 26) (.v 27)) (.c 1)) (.l2 .cons (.l2 .at (.l2 .at (.v 26) (.v 27)) (.c 2)) (.l2 .cons (.l2 .at (.l2 .at (.v 26) (.v 27)) (.c 3)) (.l2 .cons (.l2 .at (.l2 .at (.v 26) (.v 27)) (.c 4)) (.l2 .cons (.l2 .at (.l2 .at (.v 26) (.v 27)) (.c 5)) (.l2 .cons (.l2 .at (.l2 .at (.v 26) (.v 27)) (.c 6)) (.l2 .cons (.l2 .at (.l2 .at (.v 26) (.v 27)) (.c 7)) (.l2 .cons (.l2 .at (.l2 .at (.v 26) (.v 27)) (.c 8)) (.l2 .cons (.l2 .at (.l2 .at (.v 26) (.v 27)) (.c 9)) (.l2 .cons (.l2 .at (.l2 .at (.v 26) (.v 27)) (.c 10)) (.l2 .cons (.l2 .at (.l2 .at (.v 26) (.v 27)) (.c 11)) (.l2 .cons (.l2 .at (.l2 .at (.v 26) (.v 27)) (.c 12)) (.l2 .cons (.l2 .at (.l2 .at (.v 26) (.v 27)) (.c 13)) (.l2 .cons (.l2 .at (.l2 .at (.v 26) (.v 27)) (.c 14)) (.l2 .cons (.l2 .at (.l2 .at (.v 0) (.v 22)) (.c 9)) (.l2 .cons (.v 22) (.l2 .cons (.v 24) (.l2 .cons (.v 27) (.l2 .cons (.c 0) (.l2 .cons (.c 0) .nl))))))))))))))))))))))) (.c 1000000)) (.back 2 [(.wr .i64 (.add (.v 27) (.c 1))),(.l2 .snoc (.v 28) (.l2 .cons (.l2 .at (.l2 .at (.v 26) (.v 27)) (.c 0)) (.l2 .cons (.l2 .at (.l2 .at (.v 26) (.v 27)) (.c 1)) (.l2 .cons (.l2 .at (.l2 .at (.v 26) (.v 27)) (.c 2)) (.l2 .cons (.l2 .at (.l2 .at (.v 26) (.v 27)) (.c 3)) (.l2 .cons (.l2 .at (.l2 .at (.v 26) (.v 27)) (.c 4)) (.l2 .cons (.l2 .at (.l2 .at (.v 26) (.v 27)) (.c 5)) (.l2 .cons (.l2 .at (.l2 .at (.v 26) (.v 27)) (.c 6)) (.l2 .cons (.l2 .at (.l2 .at (.v 26) (.v 27)) (.c 7)) (.l2 .cons (.l2 .at (.l2 .at (.v 26) (.v 27)) (.c 8)) (.l2 .cons (.l2 .at (.l2 .at (.v 26) (.v 27)) (.c 9)) (.l2 .cons (.l2 .at (.l2 .at (.v 26) (.v 27)) (.c 10)) (.l2 .cons (.l2 .at (.l2 .at (.v 26) (.v 27)) (.c 11)) (.l2 .cons (.l2 .at (.l2 .at (.v 26) (.v 27)) (.c 12)) (.l2 .cons (.l2 .at (.l2 .at (.v 26) (.v 27)) (.c 13)) (.l2 .cons (.l2 .at (.l2 .at (.v 26) (.v 27)) (.c 14)) (.l2 .cons (.l2 .at (.l2 .at (.v 0) (.v 22)) (.c 9)) (.l2 .cons (.v 22) (.l2 .cons (.v 24) (.l2 .cons (.v 27) (.l2 .cons (.c 0) (.l2 .cons (.c 0) .nl))))))))))))))))))))))])))
(.back 1 [(.wr .i64 (.add (.v 24) (.c 1))),(.v 28)]))))
(.back 0 [(.wr .i64 (.add (.v 22) (.c 1))),(.v 25)]))))
(.loop 8 [none,none,none,none,none,none,none,none] [(.c 0),(.c (-2048)),(.c (-1)),(.c (-1)),(.c 0),(.c 0),(.c 0),(.c 0)] (.ite (.lt (.v 24) (.ln (.v 23))) (.asrt (.le (.c 0) (.v 24)) (.call 3 [(.l2 .at (.l2 .at (.v 23) (.v 24)) (.c 0)),(.l2 .at (.l2 .at (.v 23) (.v 24)) (.c 1)),(.l2 .at (.l2 .at (.v 23) (.v 24)) (.c 2)),(.l2 .at (.l2 .at (.v 23) (.v 24)) (.c 3)),(.l2 .at (.l2 .at (.v 23) (.v 24)) (.c 4)),(.l2 .at (.l2 .at (.v 23) (.v 24)) (.c 5)),(.l2 .at (.l2 .at (.v 23) (.v 24)) (.c 6)),(.l2 .at (.l2 .at (.v 23) (.v 24)) (.c 7)),(.l2 .at (.l2 .at (.v 23) (.v 24)) (.c 8)),(.l2 .at (.l2 .at (.v 23) (.v 24)) (.c 9)),(.l2 .at (.l2 .at (.v 23) (.v 24)) (.c 10)),(.l2 .at (.l2 .at (.v 23) (.v 24)) (.c 11)),(.l2 .at (.l2 .at (.v 23) (.v 24)) (.c 12)),(.l2 .at (.l2 .at (.v 23) (.v 24)) (.c 13)),(.l2 .at (.l2 .at (.v 23) (.v 24)) (.c 14)),(.v 18),(.v 19)] (.ite (.eq (.v 37) (.c 0)) (.asrt (.le (.c 0) (.l2 .at (.l2 .at (.v 23) (.v 24)) (.c 16))) (.asrt (.lt (.l2 .at (.l2 .at (.v 23) (.v 24)) (.c 16)) (.ln (.v 0))) (.ite (.eq (.l2 .at (.l2 .at (.v 0) (.l2 .at (.l2 .at (.v 23) (.v 24)) (.c 16))) (.c 10)) (.c 0)) (.ite (.eq (.v 31) (.c 0)) (.back 1 [(.wr .i64 (.add (.v 24) (.c 1))),(.wr .i64 (.add (.l2 .at (.l2 .at (.v 23) (.v 24)) (.c 15)) (.v 34))),(.l2 .at (.l2 .at (.v 23) (.v 24)) (.c 16)),(.l2 .at (.l2 .at (.v 23) (.v 24)) (.c 17)),(.l2 .at (.l2 .at (.v 23) (.v 24)) (.c 18)),(.v 35),(.v 36),(.c 1)])
(.call 4 [(.wr .i64 (.add (.l2 .at (.l2 .at (.v 23) (.v 24)) (.c 15)) (.v 34))),(.l2 .at (.l2 .at (.v 23) (.v 24)) (.c 16)),(.l2 .at (.l2 .at (.v 23) (.v 24)) (.c 17)),(.l2 .at (.l2 .at (.v 23) (.v 24)) (.c 18)),(.v 35),(.v 36),(.v 25),(.v 26),(.v 27),(.v 28),(.v 29),(.v 30)] (.ite (.nz (.v 38)) (.back 1 [(.wr .i64 (.add (.v 24) (.c 1))),(.wr .i64 (.add (.l2 .at (.l2 .at (.v 23) (.v 24)) (.c 15)) (.v 34))),(.l2 .at (.l2 .at (.v 23) (.v 24)) (.c 16)),(.l2 .at (.l2 .at (.v 23) (.v 24)) (.c 17)),(.l2 .at (.l2 .at (.v 23) (.v 24)) (.c 18)),(.v 35),(.v 36),(.c 1)])
(.back 1 [(.wr .i64 (.add (.v 24) (.c 1))),(.v 25),(.v 26),(.v 27),(.v 28),(.v 29),(.v 30),(.v 31)]))))
(.back 1 [(.wr .i64 (.add (.v 24) (.c 1))),(.v 25),(.v 26),(.v 27),(.v 28),(.v 29),(.v 30),(.v 31)]))))
(.back 1 [(.wr .i64 (.add (.v 24) (.c 1))),(.v 25),(.v 26),(.v 27),(.v 28),(.v 29),(.v 30),(.v 31)]))))
(.ite (.eq (.v 31) (.c 0)) (.ret [(.c 0),(.c 0),(.c 0),(.c 0),(.c 0),(.c 0),(.c 0),(.c 0)])
(.ret [(.v 25),(.v 26),(.v 27),(.v 28),(.v 29),(.v 30),(.c 1),(.c 0)])))))))))))
theorem Z14j:Z13 (Zs [] Z1co [] ([none,none]++zs 18) (Zn Tryz.prog (Zh5 Tryz.prog [(3,17),(6,25),(9,34),(2,17)]) gl0 Zpg 1000 8 [Sho,An 16,I1,I1] [An 6,Bo,I1]))=Z14i:=by kernel_rfl
theorem g_winI:Gok Tryz.prog Zpg:=(more Zhg (more Zbr (more Zm0 (more Zlw (fix.one Zpf)))))
theorem o_winI:Zi Zpg Z1co:=(Z3 Zdi (Z3 Z94 (Z3 Zpd (Z3 Z9e (Z3 Zjp Z6)))))
theorem Z14k {b:Bool} (h:¬ [b01 b].getD 0 0=0):b=true:=by
 cases b with
 | true=>rfl
 | false=>exact absurd rfl h
theorem Zig (l:List Int) (j:Nat):co (cod l) j=l.getD j 0:=by unfold co; rw [Z4]
theorem Zsm:Zr (zs 7) Zll:=by
 have z:∀ n:Int,-5000≤n∧n≤5000→Zh zz n:=fun n h=>zc n (by omega) (by omega)
 exact Z1 (z _ (by decide)) (Z1 (z _ (by decide)) (Z1 (z _ (by decide)) (Z1 (z _ (by decide)) (Z1 (z _ (by decide)) (Z1 (z _ (by decide)) (Z1 (z _ (by decide)) Z2))))))
theorem Zm5 {l:List Int}:∀ (F acc:List Int),Zr (zs 7) acc→(∀ f ∈ F,Zr (zs 6) [co f 0,co f 1,co f 2,co f 3,co f 4,co f 5])→Zr (zs 7) (F.foldl (Z15 l) acc)
 | [],acc,h,_=>h
 | f::F,acc,h,hF=>by
  rw [List.foldl_cons]
  refine Zm5 F _ ?_ fun g hg=>hF g (List.mem_cons_of_mem _ hg)
  unfold Z15
  split
  ·exact Zw (hF f (List.mem_cons_self ..)) (Z1 (zc 1 (by decide) (by decide)) Z2)
  ·exact h
set_option maxHeartbeats 2000000 in
theorem Z19u (I0 T0 c0 c1 c2 c3 c4 c5 c6 c7 c8 c9 c10 c11 c12 c13 c14 c15 x y E0 E1:Int) (l S:List Int) (pt:Nat→Nat→List Int) (at_:Int→List Int) (R:List Int) (ff:Int→Option Int) (hl:dec I0=l)
  (hE0:Z48.sem [I0,T0]=[E0]) (hp0:Z48.pre [I0,T0]) (hE1:Z32.sem [c0,c1,c2,c3,c4,c5,c6,c7,c8,c9,c10,c11,c12,c13,c14,c15]=[E1])
  (hps:E0=0→E1=0→∀ i k:Nat,i < l.length→k < (Z1t (l.getD i 0)).length→Z6q.pre [I0,T0,c0,c1,c2,c3,c4,c5,c6,c7,c8,c9,c10,c11,c12,c13,c14,c15,(i:Int),(k:Int)])
  (hpt:∀ i k:Nat,Z6q.sem [I0,T0,c0,c1,c2,c3,c4,c5,c6,c7,c8,c9,c10,c11,c12,c13,c14,c15,(i:Int),(k:Int)]=[cod (pt i k)])
  (h6:∀ i k,(pt i k).length≤6) (h64:E0=0→l.length≤256∧∀ i,i < l.length→(Z1t (l.getD i 0)).length≤64)
  (hS:Z3p l pt l.length=S) (hat:∀ p,Z72.sem [co p 0,co p 1,co p 2,co p 3,co p 4,co p 5,co p 6,co p 7,co p 8,co p 9,co p 10,co p 11,co p 12,co p 13,co p 14,x,y]=[(at_ p).getD 0 0,(at_ p).getD 1 0,(at_ p).getD 2 0,(at_ p).getD 3 0,(at_ p).getD 4 0,(at_ p).getD 5 0])
  (hpp:E0=0→E1=0→∀ p ∈ S,Z72.pre [co p 0,co p 1,co p 2,co p 3,co p 4,co p 5,co p 6,co p 7,co p 8,co p 9,co p 10,co p 11,co p 12,co p 13,co p 14,x,y])
  (hff:∀ p,ff p=if (at_ p).getD 5 0=0 then some (cod [IntKind.i64.wrap (co p 15 + (at_ p).getD 2 0),co p 16,co p 17,co p 18,(at_ p).getD 3 0,(at_ p).getD 4 0]) else none)
  (hvs:E0=0→E1=0→∀ f ∈ S.filterMap ff,Zr (zs 6) [co f 0,co f 1,co f 2,co f 3,co f 4,co f 5]) (hit:∀ p ∈ S,0≤co p 16∧co p 16 < (l.length:Int)) (hnr:∀ z,Z9b.sem z=[b01 (Zc2 z)]) (W:List Int) (hW:(S.filterMap ff).foldl (Z15 l) Zll=W)
  (hR0:¬ E0=0→R=[0,0,0,0,0,0,0,E0]) (hR1:E0=0→¬ E1=0→R=[0,0,0,0,0,0,0,E1]) (hR2:E0=0→E1=0→¬ (0≤x∧x < c14∧0≤y∧y < c15)→R=[0,0,0,0,0,0,0,2])
  (hR3:E0=0→E1=0→(0≤x∧x < c14∧0≤y∧y < c15)→R=Z1ez W) :
  Z14i.sat Zpg [] (fun ys=>ys=R) [] [I0,T0,c0,c1,c2,c3,c4,c5,c6,c7,c8,c9,c10,c11,c12,c13,c14,c15,x,y]:=by
 unfold Z14i Zpg
 simp only [TX.sat,XB.prop]
 simp only [X.den,L2.den,TX.sat,XB.prop,X.den,Z1gw,Z1gx,Z1gq,Z1gr,Z1gu,Z1gv,Z1gs,Z1gt,mkS,mkP,and_true,true_and,Z1h1,Z1h2,not_or,not_and,Z1gy,ne_eq,Z1gz,Z1h0]
 have hco:∀ x j,(dec x).getD j 0=co x j:=fun _ _=>rfl
 have hT:∀ b,dec (co (co b 2) 4)=Z1t b:=fun _=>rfl
 simp only [hl,hco,hT,hE0,hE1,TX.sat,XB.prop,X.den,Z1gw,Z1gx,Z1gq,Z1gr,Z1gu,Z1gv,Z1gs,Z1gt,mkS,mkP,and_true,true_and,Z1h1,Z1h2,not_or,not_and,Z1gy,ne_eq,Z1gz,Z1h0]
 refine ⟨hp0,fun h0=>?_,fun h0=>⟨fun h1=>?_,fun h1=>⟨fun h2=>?_,fun h2=>?_⟩⟩⟩
 ·exact (hR0 h0).symm
 ·exact (hR1 h0 h1).symm
 ·exact (hR2 h0 h1 (by omega)).symm
 refine ⟨fun xs=>∃ i:Nat,xs.getD 0 0=(i:Int)∧i≤l.length∧dec (xs.getD 1 0)=Z3p l pt i∧cod (dec (xs.getD 1 0))=xs.getD 1 0,fun xs=>l.length - (xs.getD 0 0).toNat,fun xs hx _=>Zy (n:=2) hx,⟨0,rfl,by omega,Z29,by simp [Z4]⟩,?_⟩
 intro xs hx hI
 obtain ⟨d0,d1,rfl⟩:=Zdu hx
 obtain ⟨i,hi,hle,hd,hcd⟩:=hI
 simp only [TX.sat,XB.prop,X.den,Z1gw,Z1gx,Z1gq,Z1gr,Z1gu,Z1gv,Z1gs,Z1gt,mkS,mkP,and_true,true_and,Z1h1,Z1h2,not_or,not_and,Z1gy,ne_eq,Z1gz,Z1h0] at hi hd hcd ⊢
 subst hi
 simp only [Int.toNat_natCast,hT,show Int.toNat 0=0 from rfl,show Int.toNat 1=1 from rfl,show Int.toNat 2=2 from rfl,show Int.toNat 3=3 from rfl,show Int.toNat 4=4 from rfl,show Int.toNat 5=5 from rfl,show Int.toNat 6=6 from rfl,show Int.toNat 7=7 from rfl,show Int.toNat 8=8 from rfl,show Int.toNat 9=9 from rfl,show Int.toNat 10=10 from rfl,show Int.toNat 11=11 from rfl,show Int.toNat 12=12 from rfl,show Int.toNat 13=13 from rfl,show Int.toNat 14=14 from rfl,show Int.toNat 15=15 from rfl,show Int.toNat 16=16 from rfl,show Int.toNat 17=17 from rfl,show Int.toNat 18=18 from rfl,show Int.toNat 19=19 from rfl,show Int.toNat 20=20 from rfl]
 obtain ⟨h256,h64'⟩:=h64 h0
 have hil:=Zce (l:=l) h6 h64' i hle
 refine ⟨fun hlt=>⟨by omega,?_⟩,fun hge=>?_⟩
 ·refine ⟨fun xs=>∃ k:Nat,xs.getD 0 0=(k:Int)∧k≤(Z1t (l.getD i 0)).length∧dec (xs.getD 1 0)=Z3p l pt i++Zjh l pt i k∧cod (dec (xs.getD 1 0))=xs.getD 1 0,fun xs=>(Z1t (l.getD i 0)).length - (xs.getD 0 0).toNat,fun xs hx _=>Zy (n:=2) hx,⟨0,rfl,by omega,by rw [Zjh,List.append_nil]; exact hd,hcd⟩,?_⟩
  intro ys hy hJ
  obtain ⟨e0,e1,rfl⟩:=Zdu hy
  obtain ⟨k,hk,hkl,hkd,hkc⟩:=hJ
  simp only [TX.sat,XB.prop,X.den,Z1gw,Z1gx,Z1gq,Z1gr,Z1gu,Z1gv,Z1gs,Z1gt,mkS,mkP,and_true,true_and,Z1h1,Z1h2,not_or,not_and,Z1gy,ne_eq,Z1gz,Z1h0] at hk hkd hkc ⊢
  subst hk
  simp only [hpt,TX.sat,XB.prop,X.den,Z1gw,Z1gx,Z1gq,Z1gr,Z1gu,Z1gv,Z1gs,Z1gt,mkS,mkP,and_true,true_and,Z1h1,Z1h2,not_or,not_and,Z1gy,ne_eq,Z1gz,Z1h0,Z4,Int.toNat_natCast]
  have hkt:=Zex (l:=l) (h6 i) k
  have ht64:=h64' i (by omega)
  refine ⟨fun hlt1=>⟨hps h0 h1 i k (by omega) (by omega),?_⟩,fun hge1=>?_⟩
  ·refine ⟨fun xs=>∃ n:Nat,xs.getD 0 0=(n:Int)∧n≤(pt i k).length∧dec (xs.getD 1 0)=Z3p l pt i++Zjh l pt i k++Z3e (l.getD i 0) i k (pt i k) n∧cod (dec (xs.getD 1 0))=xs.getD 1 0,fun xs=>(pt i k).length - (xs.getD 0 0).toNat,fun xs hx _=>Zy (n:=2) hx,⟨0,rfl,by omega,by rw [Z3e,List.append_nil]; exact hkd,hkc⟩,?_⟩
   intro zs hz hK
   obtain ⟨f0,f1,rfl⟩:=Zdu hz
   obtain ⟨n,hn,hnl,hnd,hnc⟩:=hK
   simp only [TX.sat,XB.prop,X.den,Z1gw,Z1gx,Z1gq,Z1gr,Z1gu,Z1gv,Z1gs,Z1gt,mkS,mkP,and_true,true_and,Z1h1,Z1h2,not_or,not_and,Z1gy,ne_eq,Z1gz,Z1h0] at hn hnd hnc ⊢
   subst hn
   have hcp:∀ j,co (cod (pt i k)) j=(pt i k).getD j 0:=fun j=>by rw [← hco,Z4]
   simp only [TX.sat,XB.prop,X.den,Z1gw,Z1gx,Z1gq,Z1gr,Z1gu,Z1gv,Z1gs,Z1gt,mkS,mkP,and_true,true_and,Z1h1,Z1h2,not_or,not_and,Z1gy,ne_eq,Z1gz,Z1h0,Z4,Int.toNat_natCast,hcp,show Int.toNat 0=0 from rfl,show Int.toNat 1=1 from rfl,show Int.toNat 2=2 from rfl,show Int.toNat 3=3 from rfl,show Int.toNat 4=4 from rfl,show Int.toNat 5=5 from rfl,show Int.toNat 6=6 from rfl,show Int.toNat 7=7 from rfl,show Int.toNat 8=8 from rfl,show Int.toNat 9=9 from rfl,show Int.toNat 10=10 from rfl,show Int.toNat 11=11 from rfl,show Int.toNat 12=12 from rfl,show Int.toNat 13=13 from rfl,show Int.toNat 14=14 from rfl,show Int.toNat 15=15 from rfl,show Int.toNat 16=16 from rfl,show Int.toNat 17=17 from rfl,show Int.toNat 18=18 from rfl,show Int.toNat 19=19 from rfl,show Int.toNat 20=20 from rfl]
   have h6':=h6 i k
   refine ⟨fun hlt2=>⟨by omega,?_,⟨n + 1,?_,by omega,?_⟩,?_⟩,fun hge2=>?_⟩
   ·rw [hnd,List.length_append,List.length_append,List.length_append,Zcd,List.length_singleton]
    omega
   ·rw [Zo (by omega) (by omega)]
    omega
   ·rw [hnd,Z3e,← List.append_assoc]
    rfl
   ·rw [Zo (by omega) (by omega)]
    omega
   ·have hnn:n=(pt i k).length:=by omega
    refine ⟨⟨k + 1,?_,by omega,?_,hnc⟩,?_⟩
    ·rw [Zo (by omega) (by omega)]
     omega
    ·rw [hnd,hnn,Zjh,← List.append_assoc]
    ·rw [Zo (by omega) (by omega)]
     omega
  ·have hkk:k=(Z1t (l.getD i 0)).length:=by omega
   refine ⟨⟨i + 1,?_,by omega,?_,hkc⟩,?_⟩
   ·rw [Zo (by omega) (by omega)]
    omega
   ·rw [hkd,hkk,Z3p]
   ·rw [Zo (by omega) (by omega)]
    omega
 ·have hii:i=l.length:=by omega
  rw [hii] at hd
  rw [hd,hS]
  rw [hii] at hil
  rw [hS] at hil
  refine ⟨fun xs=>∃ m:Nat,xs.getD 0 0=(m:Int)∧m≤S.length∧[xs.getD 1 0,xs.getD 2 0,xs.getD 3 0,xs.getD 4 0,xs.getD 5 0,xs.getD 6 0,xs.getD 7 0]=((S.take m).filterMap ff).foldl (Z15 l) Zll,fun xs=>S.length - (xs.getD 0 0).toNat,fun xs hx _=>Zy (n:=8) hx,⟨0,rfl,by omega,rfl⟩,?_⟩
  intro ys hy hJ
  obtain ⟨e0,e1,e2,e3,e4,e5,e6,e7,rfl⟩:=len8 hy
  obtain ⟨m,hm,hml,hmd⟩:=hJ
  simp only [TX.sat,XB.prop,X.den,Z1gw,Z1gx,Z1gq,Z1gr,Z1gu,Z1gv,Z1gs,Z1gt,mkS,mkP,and_true,true_and,Z1h1,Z1h2,not_or,not_and,Z1gy,ne_eq,Z1gz,Z1h0] at hm hmd ⊢
  subst hm
  have hcS:∀ j,co d1 j=S.getD j 0:=fun j=>by rw [← hco,hd,hS]
  simp only [Int.toNat_natCast,hcS,show Int.toNat 0=0 from rfl,show Int.toNat 1=1 from rfl,show Int.toNat 2=2 from rfl,show Int.toNat 3=3 from rfl,show Int.toNat 4=4 from rfl,show Int.toNat 5=5 from rfl,show Int.toNat 6=6 from rfl,show Int.toNat 7=7 from rfl,show Int.toNat 8=8 from rfl,show Int.toNat 9=9 from rfl,show Int.toNat 10=10 from rfl,show Int.toNat 11=11 from rfl,show Int.toNat 12=12 from rfl,show Int.toNat 13=13 from rfl,show Int.toNat 14=14 from rfl,show Int.toNat 15=15 from rfl,show Int.toNat 16=16 from rfl,show Int.toNat 17=17 from rfl,show Int.toNat 18=18 from rfl,show Int.toNat 19=19 from rfl,show Int.toNat 20=20 from rfl]
  simp only [hat,TX.sat,XB.prop,X.den,Z1gw,Z1gx,Z1gq,Z1gr,Z1gu,Z1gv,Z1gs,Z1gt,mkS,mkP,and_true,true_and,Z1h1,Z1h2,not_or,not_and,Z1gy,ne_eq,Z1gz,Z1h0,Z4]
  refine ⟨fun hlt1=>?_,fun hge1=>?_⟩
  ·have hmS:m < S.length:=by omega
   have htake:S.take (m + 1)=S.take m++[S.getD m 0]:=by
    rw [List.take_succ_eq_append_getElem hmS]
    rw [show S.getD m 0=S[m] by simp [List.getD,hmS]]
   have hmem:S.getD m 0 ∈ S:=Zx hmS
   have hw:IntKind.i64.wrap ((m:Int) + 1)=((m + 1:Nat):Int):=by rw [Zo (by omega) (by omega)]; omega
   have hfm:=hff (S.getD m 0)
   have hip:=hit _ hmem
   have hfold:∀ f,ff (S.getD m 0)=some f→((S.take (m + 1)).filterMap ff).foldl (Z15 l) Zll=Z15 l [e1,e2,e3,e4,e5,e6,e7] f:=fun f hf=>by
    rw [htake,List.filterMap_append,List.foldl_append,← hmd]
    simp only [List.filterMap_cons,hf,List.filterMap_nil,List.foldl_cons,List.foldl_nil]
   refine ⟨by omega,hpp h0 h1 _ hmem,fun hz=>?_,fun hz=>⟨⟨m + 1,hw,by omega,?_⟩,?_⟩⟩
   ·rw [if_pos hz] at hfm
    have hF:=hfold _ hfm
    have hstep:∀ a b c d e f:Int,Z15 l [e1,e2,e3,e4,e5,e6,e7] (cod [a,b,c,d,e,f])=if co (l.getD b.toNat 0) 10=0∧(e7=0∨Zc2 [a,b,c,d,e,f,e1,e2,e3,e4,e5,e6]=true) then [a,b,c,d,e,f,1] else [e1,e2,e3,e4,e5,e6,e7]:=fun a b c d e f=>by
     unfold Z15
     simp only [Zig,TX.sat,XB.prop,X.den,Z1gw,Z1gx,Z1gq,Z1gr,Z1gu,Z1gv,Z1gs,Z1gt,mkS,mkP,and_true,true_and,Z1h1,Z1h2,not_or,not_and,Z1gy,ne_eq,Z1gz,Z1h0]
    rw [hstep] at hF
    have hmemF:∀ f,ff (S.getD m 0)=some f→Zr (zs 6) [co f 0,co f 1,co f 2,co f 3,co f 4,co f 5]:=fun f hf=>hvs h0 h1 f (List.mem_filterMap.2 ⟨_,hmem,hf⟩)
    have v6:=hmemF _ hfm
    simp only [Zig,TX.sat,XB.prop,X.den,Z1gw,Z1gx,Z1gq,Z1gr,Z1gu,Z1gv,Z1gs,Z1gt,mkS,mkP,and_true,true_and,Z1h1,Z1h2,not_or,not_and,Z1gy,ne_eq,Z1gz,Z1h0] at v6
    have v7:Zr (zs 7) [e1,e2,e3,e4,e5,e6,e7]:=by
     rw [hmd]
     refine Zm5 _ _ Zsm fun f hf=>?_
     obtain ⟨p,hp,hpf⟩:=List.mem_filterMap.1 hf
     exact hvs h0 h1 f (List.mem_filterMap.2 ⟨p,List.mem_of_mem_take hp,hpf⟩)
    have hmeas:S.length - (IntKind.i64.wrap ((m:Int) + 1)).toNat < S.length - m:=by
     rw [hw,Int.toNat_natCast]
     omega
    refine ⟨hip.1,hip.2,fun hbl=>⟨fun his=>⟨⟨m + 1,hw,by omega,?_⟩,hmeas⟩,fun his=>⟨Zw v6 (Z1 (v7.2 0) (Z1 (v7.2 1) (Z1 (v7.2 2) (Z1 (v7.2 3) (Z1 (v7.2 4) (Z1 (v7.2 5) Z2)))))),fun hnz=>⟨⟨m + 1,hw,by omega,?_⟩,hmeas⟩,fun hzz=>⟨⟨m + 1,hw,by omega,?_⟩,hmeas⟩⟩⟩,fun hbl=>⟨⟨m + 1,hw,by omega,?_⟩,hmeas⟩⟩
    ·rw [hF,if_pos ⟨hbl,.inl his⟩]
    ·rw [hnr] at hnz
     rw [hF,if_pos ⟨hbl,.inr (Z14k hnz)⟩]
    ·rw [hnr] at hzz
     rw [hF,if_neg]
     rintro ⟨_,h5 | h5⟩
     ·exact his h5
     ·rw [h5] at hzz
      exact absurd hzz (by decide)
    ·rw [hF,if_neg]
     exact fun h5=>hbl h5.1
   ·rw [if_neg hz] at hfm
    rw [htake,List.filterMap_append]
    simp only [List.filterMap_cons,hfm,List.filterMap_nil,List.append_nil]
    exact hmd
   ·rw [hw,Int.toNat_natCast]
    omega
  ·have:m=S.length:=by omega
   rw [this,List.take_length,hW] at hmd
   rw [hR3 h0 h1 (by omega),← hmd]
   unfold Z1ez
   simp only [TX.sat,XB.prop,X.den,Z1gw,Z1gx,Z1gq,Z1gr,Z1gu,Z1gv,Z1gs,Z1gt,mkS,mkP,and_true,true_and,Z1h1,Z1h2,not_or,not_and,Z1gy,ne_eq,Z1gz,Z1h0]
   refine ⟨fun h=>by rw [if_pos h],fun h=>by rw [if_neg h]⟩
theorem Z14l (n:Int):Zh zz (IntKind.i64.wrap n):=by
 rw [IntKind.wrap_i64]
 exact zc _ (by omega) (by omega)
theorem Zw3 (b:Int) (i k n:Nat) (p:Int):co (Z7g b i k n p) 17=(k:Int)∧co (Z7g b i k n p) 18=(n:Int):=by
 unfold Z7g co
 rw [Z4]
 exact ⟨rfl,rfl⟩
theorem Zw4 {l:List Int} {pt:Nat→Nat→List Int}:∀ p ∈ Z3p l pt l.length,0≤co p 16∧co p 16 < (l.length:Int):=by
 intro p hp
 obtain ⟨i,k,m,hi,hk,hm,rfl⟩:=Z61 hp
 rw [Z8b]
 omega
theorem Z1fv {l:List Int} {pt:Nat→Nat→List Int} {x y:Int} (hl:l.length≤256) (h64:∀ i,i < l.length→(Z1t (l.getD i 0)).length≤64) (h6:∀ i k,(pt i k).length≤6)
  (hv:∀ p ∈ Z3p l pt l.length,Zr (zs 17) (Z1c p++[x,y])):∀ f ∈ (Z3p l pt l.length).filterMap (Z1y x y),Zr (zs 6) [co f 0,co f 1,co f 2,co f 3,co f 4,co f 5]:=by
 intro f hf
 obtain ⟨p,hp,hpf⟩:=List.mem_filterMap.1 hf
 have h17:=hv p hp
 have ho:=Z9e.2 Zbz _ h17 h17
 have h3:Zh (iv 0 255) ((atL (Z1c p++[x,y])).getD 3 0):=ho.2 3
 have h4:Zh (iv 0 255) ((atL (Z1c p++[x,y])).getD 4 0):=ho.2 4
 obtain ⟨i,k,m,hi,hk,hm,rfl⟩:=Z61 hp
 have e1:=Z8b (l.getD i 0) i k m ((pt i k).getD m 0)
 obtain ⟨e2,e3⟩:=Zw3 (l.getD i 0) i k m ((pt i k).getD m 0)
 have hk':=h64 i hi
 have hm':=h6 i k
 unfold Z1y at hpf
 split at hpf
 ·simp only [Option.some.injEq] at hpf
  rw [← hpf]
  simp only [Zig,TX.sat,XB.prop,X.den,Z1gw,Z1gx,Z1gq,Z1gr,Z1gu,Z1gv,Z1gs,Z1gt,mkS,mkP,and_true,true_and,Z1h1,Z1h2,not_or,not_and,Z1gy,ne_eq,Z1gz,Z1h0,e1,e2,e3]
  exact Z1 (Z14l _) (Z1 (zc _ (by omega) (by omega)) (Z1 (zc _ (by omega) (by omega)) (Z1 (zc _ (by omega) (by omega)) (Z1 (Z1o h3 (by decide) (by decide)) (Z1 (Z1o h4 (by decide) (by decide)) Z2)))))
 ·cases hpf
theorem Z1fw (xs:List Int):(Z6r xs).length=Zj [An 6,Bo,I1]:=by
 unfold Z6r Z1c3 Z1ez
 split
 ·split <;> rfl
 ·rfl
set_option maxHeartbeats 1000000 in
theorem Z1fx:Zc3.ok Tryz.prog:=Sum.okPF (pin:=Zv4) facts.mixed g_winI o_winI Z14j rfl Z1fw (fun xs h=>h.1) (by
 intro xs hx hp
 obtain ⟨I,T,c0,c1,c2,c3,c4,c5,c6,c7,c8,c9,c10,c11,c12,c13,c14,c15,x,y,rfl⟩:=Z1e7 hx
 obtain ⟨hv,hr⟩:=hp
 replace hr:Z3o (dec I) (dec T):=hr
 have hv16:Zr (zs 16) [c0,c1,c2,c3,c4,c5,c6,c7,c8,c9,c10,c11,c12,c13,c14,c15]:=Z1 (hv.2 2) (Z1 (hv.2 3) (Z1 (hv.2 4) (Z1 (hv.2 5) (Z1 (hv.2 6) (Z1 (hv.2 7) (Z1 (hv.2 8) (Z1 (hv.2 9) (Z1 (hv.2 10) (Z1 (hv.2 11) (Z1 (hv.2 12) (Z1 (hv.2 13) (Z1 (hv.2 14) (Z1 (hv.2 15) (Z1 (hv.2 16) (Z1 (hv.2 17) Z2)))))))))))))))
 have hfr:∀ e,frE [I,T,c0,c1,c2,c3,c4,c5,c6,c7,c8,c9,c10,c11,c12,c13,c14,c15,x,y]=e→Z6r [I,T,c0,c1,c2,c3,c4,c5,c6,c7,c8,c9,c10,c11,c12,c13,c14,c15,x,y]=if e=0 then Z1ez ((Z36 (dec I) [c0,c1,c2,c3,c4,c5,c6,c7,c8,c9,c10,c11,c12,c13,c14,c15] x y).foldl (Z15 (dec I)) Zll) else [0,0,0,0,0,0,0,e]:=fun e h=>by
  unfold Z6r Z1c3
  rw [h]
  rfl
 have hE:frE [I,T,c0,c1,c2,c3,c4,c5,c6,c7,c8,c9,c10,c11,c12,c13,c14,c15,x,y]=if Z2k [I,T]=0 then (if Z2b [c0,c1,c2,c3,c4,c5,c6,c7,c8,c9,c10,c11,c12,c13,c14,c15] 0=true then (if 0≤x∧x < c14∧0≤y∧y < c15 then 0 else 2) else 150) else Z2k [I,T]:=rfl
 have hcam:er (Z2b [c0,c1,c2,c3,c4,c5,c6,c7,c8,c9,c10,c11,c12,c13,c14,c15] 0) 150=0↔Z2b [c0,c1,c2,c3,c4,c5,c6,c7,c8,c9,c10,c11,c12,c13,c14,c15] 0=true:=Zrg _ (by decide)
 have htri:Z2k [I,T]=0→∀ i k:Nat,i < (dec I).length→k < (Z1t ((dec I).getD i 0)).length→Zr (zs 16) (c13::Zh7 [c0,c1,c2,c3,c4,c5,c6,c7,c8,c9,c10,c11,c12,c13,c14,c15] ((dec I).getD i 0) ((Z1t ((dec I).getD i 0)).getD k 0)):=by
  intro h0 i k hi hk
  have hmem:(dec I).getD i 0 ∈ dec I:=Zx hi
  have hrb:=hr.1 _ hmem
  have hmb:=Z8a ((Z1z h0).2.2.2 _ hmem)
  have htn:=hmb.2.2.2.1 _ (Zx hk)
  simp only [Zzm,decide_eq_true_iff] at htn
  exact Zsk hv16 hrb.2.1 hrb.2.2.1 hmb.1.2.1 htn
 exact Z19u I T c0 c1 c2 c3 c4 c5 c6 c7 c8 c9 c10 c11 c12 c13 c14 c15 x y (Z2k [I,T]) (er (Z2b [c0,c1,c2,c3,c4,c5,c6,c7,c8,c9,c10,c11,c12,c13,c14,c15] 0) 150) (dec I) (Zh8 (dec I) [c0,c1,c2,c3,c4,c5,c6,c7,c8,c9,c10,c11,c12,c13,c14,c15]) (ptS (dec I) [c0,c1,c2,c3,c4,c5,c6,c7,c8,c9,c10,c11,c12,c13,c14,c15]) (fun p=>atL (Z1c p++[x,y])) _ (Z1y x y) rfl rfl ⟨Zy (n:=2) rfl,hr⟩ rfl
  (fun h0 h1 i k hi hk=>⟨Z1 trivial (Z1 trivial (Zw hv16 (Z1 (zc _ (by omega) (by have:=(Z1z h0).1; omega)) (Z1 (zc _ (by omega) (by
   have:=(Z8a ((Z1z h0).2.2.2 _ (Zx hi))).1.2.2; omega)) Z2)))),hr,⟨by show (0:Int)≤(i:Int); omega,by show (i:Int) < _; exact Int.ofNat_lt.2 hi,by show (0:Int)≤(k:Int); omega,by show (k:Int) < _; exact Int.ofNat_lt.2 hk⟩,h0,hcam.1 h1⟩)
  (fun i k=>rfl) (fun i k=>Z8c) (fun h0=>⟨(Z1z h0).1,fun i hi=>(Z8a ((Z1z h0).2.2.2 _ (Zx hi))).1.2.2⟩) rfl (fun p=>rfl)
  (fun h0 h1 p hp=>by
   have h15:Zr (zs 15) (Z1c p):=Zm4 (pt:=ptS (dec I) [c0,c1,c2,c3,c4,c5,c6,c7,c8,c9,c10,c11,c12,c13,c14,c15]) (fun i k hi hk q hq=>Zm3 hv16 (htri h0 i k hi hk) hq) p hp
   exact Zw h15 (Z1 (hv.2 18) (Z1 (hv.2 19) Z2)))
  (fun p=>rfl)
  (fun h0 h1=>Z1fv (pt:=ptS (dec I) [c0,c1,c2,c3,c4,c5,c6,c7,c8,c9,c10,c11,c12,c13,c14,c15]) (Z1z h0).1 (fun i hi=>(Z8a ((Z1z h0).2.2.2 _ (Zx hi))).1.2.2) (fun i k=>Z8c) (fun p hp=>by
   have h15:Zr (zs 15) (Z1c p):=Zm4 (pt:=ptS (dec I) [c0,c1,c2,c3,c4,c5,c6,c7,c8,c9,c10,c11,c12,c13,c14,c15]) (fun i k hi hk q hq=>Zm3 hv16 (htri h0 i k hi hk) hq) p hp
   exact Zw h15 (Z1 (hv.2 18) (Z1 (hv.2 19) Z2))))
  (fun p hp=>Zw4 p hp) (fun z=>rfl) _ rfl
  (fun h0=>by rw [hfr _ hE,if_neg h0,if_neg h0])
  (fun h0 h1=>by
   have h1':¬ Z2b [c0,c1,c2,c3,c4,c5,c6,c7,c8,c9,c10,c11,c12,c13,c14,c15] 0=true:=fun h=>h1 (hcam.2 h)
   rw [hfr _ hE,if_pos h0,if_neg h1',if_neg (by decide)]
   cases hb:Z2b [c0,c1,c2,c3,c4,c5,c6,c7,c8,c9,c10,c11,c12,c13,c14,c15] 0 with
   | true=>exact absurd hb h1'
   | false=>rfl)
  (fun h0 h1 h2=>by rw [hfr _ hE,if_pos h0,if_pos (hcam.1 h1),if_neg h2,if_neg (by decide)])
  (fun h0 h1 h2=>by rw [hfr _ hE,if_pos h0,if_pos (hcam.1 h1),if_pos h2,if_pos rfl]; rfl))
theorem Z19v:Z18 Zc3 Z1c4:=⟨fun xs h=>(Z14 xs h).elim,fun vs xs h hp=>by
 show Zr (Zv5 []) (Z6r xs)
 unfold Z6r
 split
 ·unfold Z1c3 Z1ez
  split
  ·exact Z1 trivial (Z1 trivial (Z1 trivial (Z1 trivial (Z1 trivial (Z1 trivial (Z1 ⟨Int.le_refl 0,(show (0:Int)≤1 by decide)⟩ (Z1 ⟨Int.le_refl 0,(show (0:Int)≤150 by decide)⟩ Z2)))))))
  ·exact Z1 trivial (Z1 trivial (Z1 trivial (Z1 trivial (Z1 trivial (Z1 trivial (Z1 ⟨(show (0:Int)≤1 by decide),Int.le_refl 1⟩ (Z1 ⟨Int.le_refl 0,(show (0:Int)≤150 by decide)⟩ Z2)))))))
 ·have h1:Zh (iv 0 150) (frE xs):=(Z14f.2 Zoz xs hp.1 hp).2 1
  exact Z1 trivial (Z1 trivial (Z1 trivial (Z1 trivial (Z1 trivial (Z1 trivial (Z1 ⟨Int.le_refl 0,(show (0:Int)≤1 by decide)⟩ (Z1 h1 Z2)))))))⟩
end Go.Proofs.YtgcoidbaoigkeaaGreatDoor.fix
namespace Go.Proofs.YtgcoidbaoigkeaaGreatDoor.fix
open Go.RowKit Go.Sx
noncomputable def Z19w:List Sum:=[]
def I_mix:List Inf:=[]
def t_mix:TX:=(.ret [(.wr .u8 (.quo (.mul (.v 0) (.v 4)) (.c 255))),(.wr .u8 (.quo (.mul (.v 1) (.v 5)) (.c 255))),(.wr .u8 (.quo (.mul (.v 2) (.v 6)) (.c 255))),(.wr .u8 (.quo (.mul (.v 3) (.v 7)) (.c 255)))])
theorem Z19x:Z13 (Zs [] I_mix [] Zs3 (Zn Tryz.prog Z78 gl0 Z19w 1000 133 [Cl,Cl] [Cl]))=t_mix:=by kernel_rfl
theorem g_mix:Gok Tryz.prog Z19w:=noG
theorem o_mix:Zi Z19w I_mix:=Z6
theorem ok_mix:Z18n.ok Tryz.prog:=Sum.okF facts.mixed g_mix o_mix Z19x rfl (fun _=>rfl) (by
 intro xs hx hp
 obtain ⟨a0,a1,a2,a3,a4,a5,a6,a7,rfl⟩:=len8 hx
 simp only [t_mix,Z19w,TX.sat,XB.prop,X.den,Z1gw,Z1gx,Z1gq,Z1gr,Z1gu,Z1gv,Z1gs,Z1gt,mkS,mkP,and_true,true_and,Z1h1,Z1h2,not_or,not_and,Z1gy,ne_eq,Z1gz,Z1h0,Zs2,u8m])
theorem Z49 (n:Int):Zh (iv 0 255) (IntKind.u8.wrap n):=by
 have h:IntKind.u8.wrap n=n % 256:=rfl
 rw [h]
 show 0≤n % 256∧n % 256≤255
 omega
theorem Z1fy:Z18 Z18n i_mix:=⟨fun _ h=>h,fun vs xs h hp=>Z1 (Z49 _) (Z1 (Z49 _) (Z1 (Z49 _) (Z1 (Z49 _) Z2)))⟩
noncomputable def Zw5:List Sum:=[]
def Z1cp:List Inf:=[]
def Z1cq:TX:=(.ret [(.wr .u8 (.quo (.add (.mul (.v 0) (.v 3)) (.mul (.v 4) (.sub (.c 255) (.v 3)))) (.c 255))),(.wr .u8 (.quo (.add (.mul (.v 1) (.v 3)) (.mul (.v 5) (.sub (.c 255) (.v 3)))) (.c 255))),(.wr .u8 (.quo (.add (.mul (.v 2) (.v 3)) (.mul (.v 6) (.sub (.c 255) (.v 3)))) (.c 255))),(.wr .u8 (.quo (.add (.mul (.c 255) (.v 3)) (.mul (.v 7) (.sub (.c 255) (.v 3)))) (.c 255)))])
theorem Z14m:Z13 (Zs [] Z1cp [] Zlm (Zn Tryz.prog Z78 gl0 Zw5 1000 60 [Cl,Cl] [Cl]))=Z1cq:=by kernel_rfl
theorem g_over:Gok Tryz.prog Zw5:=noG
theorem o_over:Zi Zw5 Z1cp:=Z6
theorem Z1fz:Zv6.ok Tryz.prog:=Sum.okF facts.mixed g_over o_over Z14m rfl (fun _=>rfl) (by
 intro xs hx hp
 obtain ⟨a0,a1,a2,a3,a4,a5,a6,a7,rfl⟩:=len8 hx
 simp only [Z1cq,Zw5,TX.sat,XB.prop,X.den,Z1gw,Z1gx,Z1gq,Z1gr,Z1gu,Z1gv,Z1gs,Z1gt,mkS,mkP,and_true,true_and,Z1h1,Z1h2,not_or,not_and,Z1gy,ne_eq,Z1gz,Z1h0,Z9c,layV])
theorem Z19y:Z18 Zv6 Z1c6:=⟨fun _ h=>h,fun vs xs h hp=>Z1 (Z49 _) (Z1 (Z49 _) (Z1 (Z49 _) (Z1 (Z49 _) Z2)))⟩
noncomputable def Z19z:List Sum:=[Zjd]
def I_tat:List Inf:=[Z130]
def t_tat:TX:=(.callp 0 [(.v 0),(.v 1),(.v 2)] (.ite (.not (.eq (.v 5) (.c 0))) (.ret [(.c 0),(.c 0),(.c 0),(.c 0),(.v 5)])
(.ite (.or (.lt (.mn (.v 3) (.v 4)) (.c 0)) (.lt (.c 255) (.mx (.v 3) (.v 4)))) (.ret [(.c 0),(.c 0),(.c 0),(.c 0),(.c 2)])
(.asrt (.le (.c 0) (.wr .i64 (.mul (.v 4) (.v 1)))) (.asrt (.le (.wr .i64 (.mul (.v 4) (.v 1))) (.c 4611686018427387904)) (.asrt (.le (.c 0) (.wr .i64 (.mul (.v 3) (.v 0)))) (.asrt (.le (.wr .i64 (.mul (.v 3) (.v 0))) (.c 4611686018427387904)) (.asrt (.le (.c 0) (.wr .i64 (.add (.wr .i64 (.mul (.quo (.wr .i64 (.mul (.v 4) (.v 1))) (.c 256)) (.v 0))) (.quo (.wr .i64 (.mul (.v 3) (.v 0))) (.c 256))))) (.asrt (.lt (.wr .i64 (.add (.wr .i64 (.mul (.quo (.wr .i64 (.mul (.v 4) (.v 1))) (.c 256)) (.v 0))) (.quo (.wr .i64 (.mul (.v 3) (.v 0))) (.c 256)))) (.ln (.v 2))) (.ret [(.l2 .at (.l2 .at (.v 2) (.wr .i64 (.add (.wr .i64 (.mul (.quo (.wr .i64 (.mul (.v 4) (.v 1))) (.c 256)) (.v 0))) (.quo (.wr .i64 (.mul (.v 3) (.v 0))) (.c 256))))) (.c 0)),(.l2 .at (.l2 .at (.v 2) (.wr .i64 (.add (.wr .i64 (.mul (.quo (.wr .i64 (.mul (.v 4) (.v 1))) (.c 256)) (.v 0))) (.quo (.wr .i64 (.mul (.v 3) (.v 0))) (.c 256))))) (.c 1)),(.l2 .at (.l2 .at (.v 2) (.wr .i64 (.add (.wr .i64 (.mul (.quo (.wr .i64 (.mul (.v 4) (.v 1))) (.c 256)) (.v 0))) (.quo (.wr .i64 (.mul (.v 3) (.v 0))) (.c 256))))) (.c 2)),(.l2 .at (.l2 .at (.v 2) (.wr .i64 (.add (.wr .i64 (.mul (.quo (.wr .i64 (.mul (.v 4) (.v 1))) (.c 256)) (.v 0))) (.quo (.wr .i64 (.mul (.v 3) (.v 0))) (.c 256))))) (.c 3)),(.c 0)]))))))))))
theorem Z1a0:Z13 (Zs [] I_tat [] Zs5 (Zn Tryz.prog Z78 gl0 Z19z 1000 132 [Tx,I1,I1] [Cl,I1]))=t_tat:=by kernel_rfl
theorem g_tat:Gok Tryz.prog Z19z:=(fix.one Z146)
theorem o_tat:Zi Z19z I_tat:=(Z3 Zvo Z6)
theorem wrs {n:Int} (h0:0≤n) (h1:n≤100000000):IntKind.i64.wrap n=n:=Zo (by omega) (by omega)
theorem q256 {a b:Int} (ha:0≤a∧a≤255) (hb:0 < b∧b≤16):0≤(a * b).tdiv 256∧(a * b).tdiv 256 < b:=by
 have h1:0≤a * b:=Int.mul_nonneg ha.1 (by omega)
 have h2:a * b≤255 * b:=Int.mul_le_mul_of_nonneg_right ha.2 (by omega)
 rw [Int.tdiv_eq_ediv_of_nonneg h1]
 omega
theorem ok_tat:Z18p.ok Tryz.prog:=Sum.okPF (pin:=Zs5) facts.mixed g_tat o_tat Z1a0 rfl (fun _=>rfl) (fun xs h=>h.1) (by
 intro xs hx hp
 obtain ⟨w,h,c,u,v,rfl⟩:=len5 hx
 clear hp
 simp only [t_tat,Z19z,Zjd,TX.sat,XB.prop,X.den,Z1gw,Z1gx,Z1gq,Z1gr,Z1gu,Z1gv,Z1gs,Z1gt,mkS,mkP,and_true,true_and,Z1h1,Z1h2,not_or,not_and,Z1gy,ne_eq,Z1gz,Z1h0,Zs4,Zeo,L2.den,tatL,show Int.toNat 0=0 from rfl,show Int.toNat 1=1 from rfl,show Int.toNat 2=2 from rfl,show Int.toNat 3=3 from rfl]
 by_cases ht:Zif w h c=true
 ·rw [(Zrg _ (show (8:Int) ≠ 0 by decide)).2 ht,if_pos ht]
  refine ⟨fun hh=>absurd rfl hh,fun _=>⟨fun hh=>?_,fun hh=>?_⟩⟩
  ·have hu:¬ Z160 u v=true:=by
    unfold Z160
    rw [decide_eq_true_iff]
    omega
   rw [if_neg hu]
   rfl
  ·have hu:Z160 u v=true:=by
    unfold Z160
    rw [decide_eq_true_iff]
    omega
   have hu':=of_decide_eq_true hu
   unfold Zif at ht
   rw [decide_eq_true_iff] at ht
   obtain ⟨⟨w0,w1⟩,⟨h0,h1⟩,hl⟩:=ht
   rw [if_pos hu]
   have e1:=q256 (a:=v) (b:=h) ⟨hu'.1.2,hu'.2.2⟩ ⟨h0,h1⟩
   have e2:=q256 (a:=u) (b:=w) ⟨hu'.1.1,hu'.2.1⟩ ⟨w0,w1⟩
   have m1:0≤v * h∧v * h≤255 * 16:=⟨Int.mul_nonneg hu'.1.2 (by omega),Int.le_trans (Int.mul_le_mul_of_nonneg_right hu'.2.2 (by omega)) (by omega)⟩
   have m2:0≤u * w∧u * w≤255 * 16:=⟨Int.mul_nonneg hu'.1.1 (by omega),Int.le_trans (Int.mul_le_mul_of_nonneg_right hu'.2.1 (by omega)) (by omega)⟩
   have m3:0≤(v * h).tdiv 256 * w∧(v * h).tdiv 256 * w≤(h - 1) * w:=⟨Int.mul_nonneg e1.1 (by omega),Int.mul_le_mul_of_nonneg_right (by omega) (by omega)⟩
   have m4:(h - 1) * w≤16 * 16:=Int.le_trans (Int.mul_le_mul_of_nonneg_right (show h - 1≤16 by omega) (by omega)) (by omega)
   have m5:(h - 1) * w=w * h - w:=by rw [Int.sub_mul,Int.one_mul,Int.mul_comm]
   rw [wrs m1.1 (by omega),wrs m2.1 (by omega),wrs m3.1 (by omega),wrs (show 0≤(v * h).tdiv 256 * w + (u * w).tdiv 256 by omega) (by omega)]
   refine ⟨m1.1,by omega,m2.1,by omega,by omega,by omega,rfl⟩
 ·have hz:er (Zif w h c) 8=8:=by
   cases hb:Zif w h c with
   | true=>exact absurd hb ht
   | false=>rfl
  rw [hz]
  refine ⟨fun _=>by rw [if_neg ht]; rfl,fun hh=>absurd hh (by decide)⟩)
theorem Z1cr {w h c u v:Int} (hc:∀ e ∈ dec c,Zc Z12z (dec e)):Zr (ivs 4 0 255++[iv 0 8]) (ex5 (tatL w h c u v)):=by
 have z:∀ n:Int,0≤n→n≤8→Zh (iv 0 8) n:=fun n h1 h2=>⟨h1,h2⟩
 have z5:∀ n:Int,0≤n→n≤255→Zh (iv 0 255) n:=fun n h1 h2=>⟨h1,h2⟩
 have zr:∀ n:Int,0≤n→n≤8→Zr (ivs 4 0 255++[iv 0 8]) (ex5 [0,0,0,0,n]):=fun n h1 h2=>Z1 (z5 0 (by decide) (by decide)) (Z1 (z5 0 (by decide) (by decide)) (Z1 (z5 0 (by decide) (by decide)) (Z1 (z5 0 (by decide) (by decide)) (Z1 (z n h1 h2) Z2))))
 unfold tatL
 split
 ·rename_i ht
  split
  ·rename_i hu
   unfold Zif at ht
   rw [decide_eq_true_iff] at ht
   obtain ⟨⟨w0,w1⟩,⟨h0,h1⟩,hl⟩:=ht
   have hu':=of_decide_eq_true hu
   have e1:=q256 (a:=v) (b:=h) ⟨hu'.1.2,hu'.2.2⟩ ⟨h0,h1⟩
   have e2:=q256 (a:=u) (b:=w) ⟨hu'.1.1,hu'.2.1⟩ ⟨w0,w1⟩
   have m3:0≤(v * h).tdiv 256 * w∧(v * h).tdiv 256 * w≤(h - 1) * w:=⟨Int.mul_nonneg e1.1 (by omega),Int.mul_le_mul_of_nonneg_right (by omega) (by omega)⟩
   have m5:(h - 1) * w=w * h - w:=by rw [Int.sub_mul,Int.one_mul,Int.mul_comm]
   have hr:=hc (txlV w h c u v) (Zx (by omega))
   have k:=Z1g hr
   exact Z1 (k.2 0) (Z1 (k.2 1) (Z1 (k.2 2) (Z1 (k.2 3) (Z1 (z 0 (by decide) (by decide)) Z2))))
  ·exact zr 2 (by decide) (by decide)
 ·exact zr 8 (by decide) (by decide)
theorem Z1g0:Z18 Z18p i_tat:=⟨fun xs h=>(Z14 xs h).elim,fun vs xs h hp=>Z1cr hp.2⟩
noncomputable def Zm6:List Sum:=[Zje,Z9a,Z18p,Z18n]
def Z14n:List Inf:=[Z131,Zle,i_tat,i_mix]
def Z14o:TX:=(.call 0 [(.v 9)] (.ite (.not (.eq (.v 12) (.c 0))) (.ret [(.c 0),(.c 0),(.c 0),(.c 0),(.v 12)])
(.call 1 [(.v 0),(.v 1),(.v 2),(.v 3),(.v 4),(.v 5),(.v 6),(.v 7),(.v 8),(.ln (.v 9))] (.ite (.not (.eq (.v 13) (.c 0))) (.ret [(.c 0),(.c 0),(.c 0),(.c 0),(.v 13)])
(.ite (.or (.lt (.mn (.v 10) (.v 11)) (.c 0)) (.lt (.c 255) (.mx (.v 10) (.v 11)))) (.ret [(.c 0),(.c 0),(.c 0),(.c 0),(.c 2)])
(.ite (.lt (.v 4) (.c 0)) (.ret [(.v 0),(.v 1),(.v 2),(.v 3),(.c 0)])
(.asrt (.lt (.v 4) (.ln (.v 9))) (.call 2 [(.l2 .at (.l2 .at (.v 9) (.v 4)) (.c 0)),(.l2 .at (.l2 .at (.v 9) (.v 4)) (.c 1)),(.l2 .at (.l2 .at (.l2 .at (.v 9) (.v 4)) (.c 2)) (.c 4)),(.v 10),(.v 11)] (.callp 3 [(.v 0),(.v 1),(.v 2),(.v 3),(.v 14),(.v 15),(.v 16),(.v 17)] (.ret [(.v 19),(.v 20),(.v 21),(.v 22),(.v 18)]))))))))))
theorem Zyx:Z13 (Zs [] Z14n [] Zc5 (Zn Tryz.prog Z78 gl0 Zm6 1000 90 [Lk,Txs,I1,I1] [Cl,I1]))=Z14o:=by kernel_rfl
theorem Z1g1:Gok Tryz.prog Zm6:=(more Z148 (more Zpc (more ok_tat (fix.one ok_mix))))
theorem Z1g2:Zi Zm6 Z14n:=(Z3 Zvq (Z3 Zjo (Z3 Z1g0 (Z3 Z1fy Z6))))
theorem Z1a1:Zln.ok Tryz.prog:=Sum.okPF (pin:=Zc5) facts.mixed Z1g1 Z1g2 Zyx rfl (fun _=>rfl) (fun xs h=>h.1) (by
 intro xs hx hp
 obtain ⟨l0,l1,l2,l3,l4,l5,l6,l7,l8,T,u,v,rfl⟩:=Z17g hx
 obtain ⟨hv,hr,hT⟩:=hp
 replace hr:∀ b ∈ dec T,Zc Z7e (dec b):=hr
 replace hT:Zc4 (dec T):=hT
 have hco:∀ x j,(dec x).getD j 0=co x j:=fun _ _=>rfl
 have hct:∀ x,co x 4=ctN x:=fun _=>rfl
 simp only [Z14o,Zm6,Zje,Z9a,Z18p,Z18n,TX.sat,XB.prop,X.den,Z1gw,Z1gx,Z1gq,Z1gr,Z1gu,Z1gv,Z1gs,Z1gt,mkS,mkP,and_true,true_and,Z1h1,Z1h2,not_or,not_and,Z1gy,ne_eq,Z1gz,Z1h0,Zh9,Zep,Z99,Zs4,L2.den,Z9t,Z13a,show Int.toNat 0=0 from rfl,show Int.toNat 1=1 from rfl,show Int.toNat 2=2 from rfl,show Int.toNat 3=3 from rfl,show Int.toNat 4=4 from rfl,hco,hct]
 refine ⟨⟨Zy (n:=1) rfl,hr⟩,fun h=>?_,fun h=>?_⟩
 ·rw [if_neg h]; rfl
 rw [if_pos h]
 have hT16:(dec T).length≤16:=by
  unfold Zh6 at h
  split at h
  ·assumption
  ·exact absurd h (by decide)
 refine ⟨Z1 (hv.2 0) (Z1 (hv.2 1) (Z1 (hv.2 2) (Z1 (hv.2 3) (Z1 (hv.2 4) (Z1 (hv.2 5) (Z1 (hv.2 6) (Z1 (hv.2 7) (Z1 (hv.2 8) (Z1 (zc _ (by omega) (by omega)) Z2))))))))),?_⟩
 rw [if_pos (show (0:Int)≤((dec T).length:Int)∧((dec T).length:Int)≤16 by omega)]
 cases hb:Zdc [l0,l1,l2,l3,l4,l5,l6,l7,l8,((dec T).length:Int)] with
 | false=>exact ⟨fun _=>by rw [if_neg (by decide)]; rfl,fun hh=>absurd hh (by decide)⟩
 | true =>
  refine ⟨fun hh=>absurd rfl hh,fun _=>?_⟩
  rw [if_pos rfl]
  have hl4:-1≤l4∧l4 < ((dec T).length:Int):=by
   unfold Zdc at hb
   simp only [TX.sat,XB.prop,X.den,Z1gw,Z1gx,Z1gq,Z1gr,Z1gu,Z1gv,Z1gs,Z1gt,mkS,mkP,and_true,true_and,Z1h1,Z1h2,not_or,not_and,Z1gy,ne_eq,Z1gz,Z1h0,Z1h4] at hb
   exact hb.1
  refine ⟨fun hh=>?_,fun hh=>?_⟩
  ·have hu:¬ Z160 u v=true:=by
    unfold Z160
    rw [decide_eq_true_iff]
    omega
   rw [if_neg hu]
   rfl
  have hu:Z160 u v=true:=by
   unfold Z160
   rw [decide_eq_true_iff]
   omega
  rw [if_pos hu]
  refine ⟨fun h4=>by rw [if_pos h4]; rfl,fun h4=>?_⟩
  rw [if_neg (by omega)]
  have hmem:(dec T).getD l4.toNat 0 ∈ dec T:=Zx (by omega)
  have htv:=Z1cj (hr _ hmem)
  have hcoT:co T l4.toNat=(dec T).getD l4.toNat 0:=rfl
  rw [hcoT]
  refine ⟨by omega,⟨Z1 (htv.2 0) (Z1 (htv.2 1) (Z1 trivial (Z1 (hv.2 10) (Z1 (hv.2 11) Z2)))),fun e he=>hT _ hmem e he⟩,?_⟩
  generalize tatL (co ((dec T).getD l4.toNat 0) 0) (co ((dec T).getD l4.toNat 0) 1) (ctN (co ((dec T).getD l4.toNat 0) 2)) u v=R
  rfl)
theorem Zph:Z18 Zln Z13c:=⟨fun xs h=>(Z14 xs h).elim,fun vs xs h hp=>by
 show Zr (ivs 4 0 255++[iv 0 8]) (ex5 (Z9t (Z13a xs) (dec (xs.getD 9 0)) (xs.getD 10 0) (xs.getD 11 0)))
 obtain ⟨hv,hr,hT⟩:=hp
 have z5:∀ n:Int,0≤n→n≤255→Zh (iv 0 255) n:=fun n h1 h2=>⟨h1,h2⟩
 have zr:∀ n:Int,0≤n→n≤8→Zr (ivs 4 0 255++[iv 0 8]) (ex5 [0,0,0,0,n]):=fun n h1 h2=>Z1 (z5 0 (by decide) (by decide)) (Z1 (z5 0 (by decide) (by decide)) (Z1 (z5 0 (by decide) (by decide)) (Z1 (z5 0 (by decide) (by decide)) (Z1 ⟨h1,h2⟩ Z2))))
 unfold Z9t Z13a
 simp only [TX.sat,XB.prop,X.den,Z1gw,Z1gx,Z1gq,Z1gr,Z1gu,Z1gv,Z1gs,Z1gt,mkS,mkP,and_true,true_and,Z1h1,Z1h2,not_or,not_and,Z1gy,ne_eq,Z1gz,Z1h0]
 split
 ·split
  ·split
   ·split
    ·exact Z1 (hv.2 0) (Z1 (hv.2 1) (Z1 (hv.2 2) (Z1 (hv.2 3) (Z1 (show Zh (iv 0 8) 0 from ⟨by decide,by decide⟩) Z2))))
    ·rename_i hb _ hn
     have hmem:(dec (xs.getD 9 0)).getD (xs.getD 4 0).toNat 0 ∈ dec (xs.getD 9 0):=Zx (by
      unfold Zdc at hb
      simp only [TX.sat,XB.prop,X.den,Z1gw,Z1gx,Z1gq,Z1gr,Z1gu,Z1gv,Z1gs,Z1gt,mkS,mkP,and_true,true_and,Z1h1,Z1h2,not_or,not_and,Z1gy,ne_eq,Z1gz,Z1h0,Z1h4] at hb
      omega)
     have ht:=(Z1cr (w:=co ((dec (xs.getD 9 0)).getD (xs.getD 4 0).toNat 0) 0) (h:=co ((dec (xs.getD 9 0)).getD (xs.getD 4 0).toNat 0) 1) (u:=xs.getD 10 0) (v:=xs.getD 11 0) (hT _ hmem)).2 4
     exact Z1 (Z49 _) (Z1 (Z49 _) (Z1 (Z49 _) (Z1 (Z49 _) (Z1 ht Z2))))
   ·exact zr 2 (by decide) (by decide)
  ·exact zr 8 (by decide) (by decide)
 ·refine zr _ ?_ ?_ <;> (unfold Zh6; split <;> first | decide | (split <;> decide))⟩
end Go.Proofs.YtgcoidbaoigkeaaGreatDoor.fix
namespace Go.Proofs.YtgcoidbaoigkeaaGreatDoor.sst
open Go.Shelf Go.RowKit Go.Lib Go.Sort
variable {α:Type} [Inhabited α]
set_option maxHeartbeats 1600000 in
set_option maxRecDepth 1000000 in
theorem ins_0 (p:Option Addr) (cap:Nat) (fn:Value) (w:World):Calls Tryz.prog 134 #[.slice p 0 cap,.int .i64 0,.int .i64 0,fn] w fun e w'=>e=.returned (.tuple #[])∧∃ m,w'=w.drewN m:=by
 have mixed:=mix
 go_enter Tryz.func134,Tryz.ntmps134
 go_wp2
 go_loopg [8] 0 (fun kk s8 wr=>s8=.int .i64 1∧wr=w)
 case atStart=>exact ⟨rfl,rfl⟩
 case round =>
  obtain ⟨rfl,rfl⟩:=hrel
  go_wp2
  go_end0
  exact ⟨rfl,0,rfl⟩
set_option maxHeartbeats 1600000 in
set_option maxRecDepth 1000000 in
theorem Z1a2 (p:Option Addr) (cap:Nat) (fn:Value) (w:World):Calls Tryz.prog 91 #[.slice p 0 cap,.int .i64 0,fn] w fun e w'=>e=.returned (.tuple #[])∧∃ m,w'=w.drewN m:=by
 have mixed:=mix
 have hc:=fun w=>ins_0 p cap fn w
 go_enter Tryz.func91,Tryz.ntmps91
 go_wp2
 go_loopg [7,8] 0 (fun kk s5 s6 wr=>s5=.int .i64 0∧s6=.int .i64 20∧wr=w)
 case atStart=>exact ⟨rfl,rfl,rfl⟩
 case round =>
  obtain ⟨rfl,rfl,rfl⟩:=hrel
  go_wp2_with fail
  refine (hc _).mono ?_; rintro e w1 ⟨rfl,m,rfl⟩
  dsimp only
  go_wp2_with fail
  go_loopg [6] 0 (fun kk s4 w2=>s4=.int .i64 20∧∃ m,w2=wr.drewN m)
  case atStart=>exact ⟨rfl,_,rfl⟩
  case round =>
   obtain ⟨rfl,m2,rfl⟩:=hrel
   go_wp2
   go_end0
   exact ⟨rfl,m2,rfl⟩
set_option maxHeartbeats 1600000 in
set_option maxRecDepth 1000000 in
theorem sortStable_0 (p:Option Addr) (cap:Nat) (fn:Value) (w:World):Calls Tryz.prog 57 #[.slice p 0 cap,fn] w fun e w'=>e=.returned (.tuple #[])∧∃ m,w'=w.drewN m:=by
 have mixed:=mix
 have hc:=fun w=>Z1a2 p cap fn w
 go_enter Tryz.func57,Tryz.ntmps57
 go_wp2_with fail
 refine (hc _).mono ?_; rintro e w1 ⟨rfl,m,rfl⟩
 dsimp only
 go_wp2_with fail
 go_end0
 exact ⟨rfl,m,rfl⟩
end Go.Proofs.YtgcoidbaoigkeaaGreatDoor.sst
namespace Go.Proofs.YtgcoidbaoigkeaaGreatDoor.fix
open Go.RowKit Go.Sx Go.Sort
theorem v_inj {M:Nat}:∀ {a b:Fg M},a.v=b.v→a=b
 | ⟨_,_⟩,⟨_,_⟩,rfl=>rfl
theorem Zpi {M:Nat}:∀ (a b:List (Fg M)),a.map Fg.v=b.map Fg.v→a=b
 | [],[],_=>rfl
 | x::a,y::b,h=>by
  simp only [Z1gw,List.cons.injEq] at h
  rw [v_inj h.1,Zpi a b h.2]
 | [],_::_,h=>by cases h
 | _::_,[],h=>by cases h
theorem Zdv {α:Type} [Inhabited α] {d d':Array α} (hP:PermIn 0 d.size d d'):d'.toList.Perm d.toList:=by
 have h3:=hP.2.2
 have e1:d'.extract 0 d.size=d':=by rw [← hP.1]; exact Array.extract_size
 have e2:d.extract 0 d.size=d:=Array.extract_size
 rwa [e1,e2] at h3
theorem Z1g3 {I l:List Int} {d d':Array (Fg (I.length - 1))} (h1:d.toList.map Fg.v=l) (h2:sst.Stb (ltOf (cfB I)) d.size d d') (h3:PermIn 0 d.size d d'):Zi0 I l=d'.toList.map Fg.v:=by
 have hex:∃ d d':Array (Fg (I.length - 1)),d.toList.map Fg.v=l∧sst.Stb (ltOf (cfB I)) d.size d d'∧PermIn 0 d.size d d':=⟨d,d',h1,h2,h3⟩
 unfold Zi0
 rw [dif_pos hex]
 generalize hX:Classical.choose (Classical.choose_spec hex)=X
 obtain ⟨q1,q2,q3⟩:=Classical.choose_spec (Classical.choose_spec hex)
 rw [hX] at q2
 clear q3
 generalize Classical.choose hex=D at q1 q2
 have hd:D=d:=by
  apply Array.ext'
  exact Zpi _ _ (q1.trans h1.symm)
 subst hd
 rw [q2.det h2]
theorem Z8d (I l:List Int):(Zi0 I l).Perm l:=by
 unfold Zi0
 split
 ·rename_i hex
  generalize hX:Classical.choose (Classical.choose_spec hex)=X
  obtain ⟨q1,q2,q3⟩:=Classical.choose_spec (Classical.choose_spec hex)
  rw [hX] at q3
  clear q2
  generalize Classical.choose hex=D at q1 q3
  rw [← q1]
  exact (Zdv q3).map Fg.v
 ·exact List.Perm.refl _
theorem Z1a3 (I:List Int):Zi0 I []=[]:=(Z8d I []).eq_nil
noncomputable def Zdw {M:Nat} (x:Fg M):List Value:=[.int .i64 (co x.v 0),.int .i64 (co x.v 1),.int .i64 (co x.v 2),.int .i64 (co x.v 3),.int .i64 (co x.v 4),.int .i64 (co x.v 5)]
theorem Z1g4 {M:Nat} (x:Fg M) (h:(elt Z7f x.v).length=Z7f.length):Z9 Z7f (elt Z7f x.v)=Zdw x:=by
 have e:elt Z7f x.v=dec x.v:=rfl
 rw [e] at h ⊢
 obtain ⟨a0,a1,a2,a3,a4,a5,hd⟩:=len6 (xs:=dec x.v) h
 unfold Zdw co
 rw [hd]
 rfl
theorem Zjq {M:Nat} {d:Array (Fg M)} (h:∀ x ∈ d.toList.map Fg.v,(elt Z7f x).length=Z7f.length):(flatK Zdw 6 d).toList=Ze Z7f (d.toList.map Fg.v):=by
 have hl:(Ze Z7f (d.toList.map Fg.v)).length=d.size * 6:=by
  rw [Zp h]
  simp [Z7f]
 apply List.ext_getElem?
 intro t
 by_cases ht:t < d.size * 6
 ·have h1:t / 6 < d.size:=by omega
  have h2:t % 6 < 6:=Nat.mod_lt _ (by decide)
  have hc:=Z5g (ks:=Z7f) (j:=t % 6) h (show t / 6 < (d.toList.map Fg.v).length by simpa using h1) h2
  have e6:t / 6 * Z7f.length + t % 6=t:=by
   show t / 6 * 6 + t % 6=t
   omega
  rw [e6] at hc
  have hx:(d.toList.map Fg.v).getD (t / 6) 0=(d[t / 6]!).v:=by
   simp only [List.getD,List.getElem?_map,Array.getElem?_toList]
   rw [Array.getElem?_eq_getElem h1,getElem!_pos d _ h1]
   rfl
  rw [hc,hx,Z1g4]
  ·have hs:t < (flatK Zdw 6 d).size:=by rw [size_flatK]; exact ht
   rw [Array.getElem?_toList,Array.getElem?_eq_getElem hs]
   have:=get_flatK Zdw 6 d t ht
   rw [getElem!_pos (flatK Zdw 6 d) t hs] at this
   rw [this]
   have hl6:t % 6 < (Zdw d[t / 6]!).length:=h2
   rw [getElem!_pos (Zdw d[t / 6]!) (t % 6) hl6,List.getElem?_eq_getElem hl6]
  ·refine h _ ?_
   rw [← hx]
   exact Zx (by simpa using h1)
 ·rw [List.getElem?_eq_none (by rw [Array.length_toList,size_flatK]; omega),List.getElem?_eq_none (by rw [hl]; omega)]
theorem Zhj {w:World} {g:Nat} {cur F:Array Value} {e:TypeId} (hb:w.heap[g]?=some (.cells cur e (0,0))) (ht:cur.toList.take F.size=F.toList):Holds id w g 0 F:=by
 intro j hj
 refine ⟨?_,by simp [World.frozen?,hb]⟩
 have h1:(cur.toList.take F.size)[j]?=F.toList[j]?:=by rw [ht]
 rw [List.getElem?_take_of_lt hj] at h1
 simp only [World.cell?,hb,Nat.zero_add]
 simp only [Option.isSome_none,Bool.false_eq_true,if_false]
 rw [← Array.getElem?_toList,h1,Array.getElem?_toList,Array.getElem?_eq_getElem hj]
 rw [getElem!_pos F j hj]
 rfl
theorem Zpj {w:World} {g n:Nat} {os:Array Obj} {cur:Array Value} {e:TypeId} {fr:Nat × Nat} (F:Array Value) (hb:w.heap[g]?=some (.cells cur e fr)) :
  (grow (putRow id (Sort.ahead w n) g 0 F) os).heap[g]?=some (.cells (putCells id 0 F cur) e fr):=by
 have hg:g < w.heap.size:=(Array.getElem?_eq_some_iff.1 hb).1
 rw [heap_grow_old _ _ (by simpa using hg)]
 simp [putRow,mapBlock,Sort.ahead,Array.getElem?_modify,hb]
 rfl
theorem Zhk {w:World} {g n:Nat} {os:Array Obj} (F:Array Value):w.grownBy (grow (putRow id (Sort.ahead w n) g 0 F) os) (some g):=by
 refine ⟨rfl,rfl,rfl,by simp,fun k hk hne=>?_⟩
 rw [heap_grow_old _ _ (by simpa using hk)]
 have:g ≠ k:=fun e=>hne (by rw [e])
 simp [putRow,mapBlock,Sort.ahead,Array.getElem?_modify,this]
theorem Zih (cur F:Array Value) (h:F.size≤cur.size):(putCells id 0 F cur).toList.take F.size=F.toList:=by
 apply List.ext_getElem?
 intro j
 by_cases hj:j < F.size
 ·rw [List.getElem?_take_of_lt hj,Array.getElem?_toList]
  simp [putCells,hj,show j < cur.size by omega]
 ·rw [List.getElem?_take_eq_none (by omega),List.getElem?_eq_none (by simp; omega)]
theorem Zjr:∀ {ks:List K} {xs:List Int} {j:Nat} {k:K},xs.length=ks.length→ks[j]?=some k→(Z9 ks xs)[j]?=some (k.mk (xs.getD j 0))
 | k::ks,x::xs,0,k',_,hk=>by
  simp only [Z1gq,Option.some.injEq] at hk
  subst hk
  rfl
 | k::ks,x::xs,j + 1,k',h,hk=>by
  simp only [Z1gr] at hk
  simp only [Z9,Z1gr]
  exact Zjr (by simpa using h) hk
 | [],_,_,_,_,hk=>by simp at hk
 | _::_,[],_,_,h,_=>by simp at h
theorem ok_cst:Zp5.okA Tryz.prog:=by
 show Zp5.okM Tryz.prog fCst
 intro W0 e s w args bs2 es kk hrep hsc hargs hgl hf has hpre
 unfold fCst at hf
 split at hf
 case h_2=>cases hf
 rename_i n gf nb
 split at hf
 case h_2=>cases hf
 rename_i r b ks cl hr hb hh
 split at hf
 case h_2=>cases hf
 rename_i rest hcells
 split at hf
 case isFalse=>cases hf
 rename_i hc
 simp only [Z1h3,Z1h4] at hc
 obtain ⟨⟨⟨rfl,hl,hbl⟩,hfl,hty⟩,hks,hki⟩:=hc
 have hks':=Z2a hks
 have hki':=K.eqvL_eq hki
 subst hki'
 simp only [Option.some.injEq,Prod.mk.injEq] at hf
 obtain ⟨rfl,rfl,rfl⟩:=hf
 have hlen:=has (Z65 (Zt5 r.c) (.c 1000000)) (by simp)
 rw [Z2y,Z1h4,Z68] at hlen
 simp only [E.den] at hlen
 have hrow:=hrep.row n r hr hl
 have hI:=hrep.arg 0 _ cl hh
 have hblk:=hrep.blk nb b hb hbl
 generalize hvI:(G.a 0).val e=vI at hI
 generalize hcode:r.c.den e.R e.r=c at *
 generalize hcI:cl.den e.R e.r=cI at *
 have hargs':([SV.w (.o (.go (.o n))),SV.w (.o (.f 58 [(nb,0)]))].map (SV.den e)).toArray=#[(G.o n).val e,.func (.func 58) #[] #[.pointer (some ⟨e.β.getD nb 0,0,none⟩)]]:=rfl
 rw [hargs']
 have hsem:Zp5.sem ([r.c,cl].map (E.den e.R e.r))=[cod (Zi0 (dec cI) (dec c))]:=by
  show [cod (Zi0 (dec (([r.c,cl].map (E.den e.R e.r)).getD 1 0)) (dec (([r.c,cl].map (E.den e.R e.r)).getD 0 0)))]=_
  simp only [Z1gw,Z1gx,Z1gs,Z1gt,hcode,hcI]
 have hpre':∀ f ∈ dec c,0≤co f 1∧co f 1 < ((dec cI).length:Int):=by
  have:Zsa ([r.c,cl].map (E.den e.R e.r)):=hpre
  unfold Zsa at this
  simp only [Z1gw,Z1gx,Z1gs,Z1gt,hcode,hcI] at this
  exact this
 rw [hsem]
 have fin:∀ {w':World} {row:Option Nat},w.grownBy w' row→(∀ k,row=some k→Z8 ((G.o n).val e)=some k)→Z12 w' r.ty r.ks ((G.o n).val e) (cod (Zi0 (dec cI) (dec c))) →
   ∃ e',Ending.returned (.tuple #[])=.returned ((SV.t []).den e')∧Env.le e e'∧e'.r=e.r++[cod (Zi0 (dec cI) (dec c))]∧Rep e' W0 { s with rows:=s.rows.set n { r with c:=.v s.nv },nv:=s.nv + 1 } w'∧s.fr=s.fr∧s.fl=s.fl∧s.flr=s.flr∧s.dp=s.dp :=
  fun hg hr' hro=>⟨_,rfl,⟨[cod (Zi0 (dec cI) (dec c))],[],[],[],by simp⟩,rfl,hrep.rowTo hsc hr hl hfl hg hr' hro,rfl,rfl,rfl,rfl⟩
 have none0:∀ (p:Option Addr) (cap:Nat),(G.o n).val e=.slice p 0 cap→dec c=[]→Calls Tryz.prog Zp5.fn #[(G.o n).val e,.func (.func 58) #[] #[.pointer (some ⟨e.β.getD nb 0,0,none⟩)]] w fun x w'=>∃ e',x=.returned ((SV.t []).den e')∧Env.le e e'∧e'.r=e.r++[cod (Zi0 (dec cI) (dec c))]∧Rep e' W0 { s with rows:=s.rows.set n { r with c:=.v s.nv },nv:=s.nv + 1 } w'∧s.fr=s.fr∧s.fl=s.fl∧s.flr=s.flr∧s.dp=s.dp:=by
  intro p cap hv hn
  rw [hv]
  refine (sst.sortStable_0 p cap _ w).mono ?_
  rintro x w' ⟨rfl,m,rfl⟩
  have hg:w.grownBy (w.drewN m) none:=⟨rfl,rfl,rfl,Nat.le_refl _,fun _ _ _=>rfl⟩
  refine fin (row:=none) hg (fun k hk=>by cases hk) ?_
  have h1:=hrow.kept hg (fun k _ hk=>by cases hk)
  have hcc:dec (cod (Zi0 (dec cI) (dec c)))=dec c:=by rw [Z4,hn,Z1a3]
  unfold Z12 at h1 ⊢
  rw [hcc]
  exact h1
 rcases hrow with ⟨hn,bb,hv⟩ | ⟨hk0,hel,hown⟩
 ·exact none0 _ _ hv hn
 ·rcases hown.2 with ⟨hv,hn⟩ | ⟨g,cap,cur,hv,_,hheap,hle1,hmx,hcs,htake⟩
  ·exact none0 _ _ hv (List.eq_nil_of_length_eq_zero hn)
  ·by_cases hz:(dec c).length=0
   ·refine none0 (some ⟨g,0,none⟩) cap ?_ (List.eq_nil_of_length_eq_zero hz)
    rw [hv,hz]
   ·have hIne:0 < (dec cI).length:=by
     obtain ⟨f,hf⟩:=List.exists_mem_of_length_pos (Nat.pos_of_ne_zero hz)
     have:=hpre' f hf
     omega
    have hIw:=hI.now hrep.below
    rcases hIw with ⟨_,h0⟩ | ⟨bI,off,capI,hvI2,hleI,hmI,helI,hcellI⟩
    ·rw [h0] at hIne
     exact absurd hIne (by decide)
    have hg:W0.may g:=hrep.rown n r hr hl hfl g (by rw [hv]; show (if cap=0 then none else some g)=some g; rw [if_neg (by omega)])
    have hbs:e.β.getD nb 0 ≠ g:=fun he=>hrep.brs nb n b r hb hr hbl hl (by rw [hv]; show (if cap=0 then none else some g)=_; rw [if_neg (by omega),he])
    have hcI0:Ze Z39 (dec cI) ≠ []:=by
     intro h0
     have:=Zp helI
     rw [h0] at this
     simp [Z39] at this
     omega
    have hbIg:bI ≠ g:=by
     rintro rfl
     obtain ⟨ha,hax⟩:=hI.base
     rcases hg with hg | hg
     ·rcases ha with ⟨_,h2⟩ | ⟨g',off',cap',h2,_,_,_,h5⟩
      ·rw [h2] at hIne
       exact absurd hIne (by decide)
      ·obtain ⟨x,hx0⟩:=Z5t hcI0
       have:=World.block_lt_of_cell? _ _ (h5 0 x hx0)
       rw [hvI2] at h2
       simp only [Value.slice.injEq,Option.some.injEq,Addr.mk.injEq] at h2
       obtain ⟨⟨rfl,_⟩,_⟩:=h2
       exact absurd this (Nat.not_lt.2 hg)
     ·exact hax hcI0 bI (by rw [hvI2]; rfl) hg
    obtain ⟨d,hd⟩:∃ d:Array (Fg ((dec cI).length - 1)),d.toList.map Fg.v=dec c :=
     ⟨((dec c).pmap (fun f h=>⟨f,h⟩) (fun f hf=>by have:=hpre' f hf; omega)).toArray,by simp [List.map_pmap]⟩
    have hds:d.size=(dec c).length:=by
     have:=congrArg List.length hd
     rwa [List.length_map,Array.length_toList] at this
    rw [hks'] at hel htake hcs
    have hel':∀ x ∈ d.toList.map Fg.v,(elt Z7f x).length=Z7f.length:=by rw [hd]; exact hel
    have hF:=Zjq hel'
    have hFs:(flatK Zdw 6 d).size=(dec c).length * 6:=by rw [size_flatK,hds]
    have hH:HoldsK Zdw 6 w g 0 d:=Zhj hheap (by rw [hFs,hF,hd]; exact htake)
    have R:RowK Zdw 6 w g 0 d:=⟨fun _=>rfl,fun x v hv=>by
     simp only [Zdw,List.mem_cons,List.not_mem_nil,or_false] at hv
     rcases hv with rfl | rfl | rfl | rfl | rfl | rfl <;> rfl,hH,Z1r hheap⟩
    have hcb:=Ze4 hrep (n:=nb) (b:=b) hb hbl 0 (by rw [hcells]; simp)
    rw [hcells] at hcb
    simp only [Z1gw,List.getD,Z1gq,Option.getD_some,SC.den] at hcb
    have hvI3:(G.a 0).val e=.slice (some ⟨bI,off,none⟩) (dec cI).length capI:=hvI.trans hvI2
    have hcb2:w.cell? ⟨e.β.getD nb 0,0,none⟩=some (.slice (some ⟨bI,off,none⟩) (dec cI).length capI):=by rw [← hvI3]; exact hcb
    have hbin:∀ i,i < (dec cI).length→w.cell? ⟨bI,off + i * 18 + 3 + 8,none⟩=some (.int .i64 (co ((dec cI).getD i 0) 11)):=fun i hi=>by
     have h1:=Z5g (ks:=Z39) (j:=11) helI hi (by decide)
     rw [Zjr (helI _ (Zx hi)) (show Z39[11]?=some (.i .i64) from rfl)] at h1
     have h2:=hcellI _ _ h1
     rw [show off + i * 18 + 3 + 8=off + (i * Z39.length + 11) by show _=off + (i * 18 + 11); omega]
     exact h2
    have hC:CmpLays (α:=Fg ((dec cI).length - 1)) Tryz.prog 58 #[.pointer (some ⟨e.β.getD nb 0,0,none⟩)] Zdw 6 (cfB (dec cI)) g 0 d.size w:=by
     intro m os dk hs x y
     have cellW:∀ {b' o':Nat} {v:Value},b' ≠ g→w.cell? ⟨b',o',none⟩=some v→(sortWorldK Zdw 6 w g 0 m dk os).cell? ⟨b',o',none⟩=some v:=fun hb' h=>by
      unfold sortWorldK
      rw [cell?_grow _ _ _ (by rw [size_putRowK]; exact World.block_lt_of_cell? _ _ h),cell?_putRowK_other Zdw 6 _ g 0 dk _ hb']
      exact h
     have hsz:=size_sortWorldK_c Zdw 6 w g 0 m dk os
     obtain ⟨i,hi⟩:∃ i:Nat,co x.v 1=(i:Int):=⟨(co x.v 1).toNat,(Int.toNat_of_nonneg x.h.1).symm⟩
     obtain ⟨j,hj⟩:∃ j:Nat,co y.v 1=(j:Int):=⟨(co y.v 1).toNat,(Int.toNat_of_nonneg y.h.1).symm⟩
     have hil:i < (dec cI).length:=by have:=x.h.2; omega
     have hjl:j < (dec cI).length:=by have:=y.h.2; omega
     have q:=sst.bins_c (sortWorldK Zdw 6 w g 0 m dk os) (e.β.getD nb 0) bI off (dec cI).length capI i j (co x.v 0) (co x.v 2) (co x.v 3) (co x.v 4) (co x.v 5) (co y.v 0) (co y.v 2) (co y.v 3) (co y.v 4) (co y.v 5) (co ((dec cI).getD i 0) 11) (co ((dec cI).getD j 0) 11)
      (Nat.lt_of_lt_of_le (World.block_lt_of_cell? _ _ hcb2) hsz) (Nat.lt_of_lt_of_le (World.block_lt_of_cell? _ _ (hbin i hil)) hsz) (cellW hbs hcb2) hil hjl (cellW hbIg (hbin i hil)) (cellW hbIg (hbin j hjl))
     have e1:(Zdw x).toArray=#[.int .i64 (co x.v 0),.int .i64 (i:Int),.int .i64 (co x.v 2),.int .i64 (co x.v 3),.int .i64 (co x.v 4),.int .i64 (co x.v 5)]:=by unfold Zdw; rw [hi]
     have e2:(Zdw y).toArray=#[.int .i64 (co y.v 0),.int .i64 (j:Int),.int .i64 (co y.v 2),.int .i64 (co y.v 3),.int .i64 (co y.v 4),.int .i64 (co y.v 5)]:=by unfold Zdw; rw [hj]
     have e3:cfB (dec cI) x y=Lib.compareInt (co ((dec cI).getD i 0) 11) (co ((dec cI).getD j 0) 11):=by unfold cfB Zyl; rw [hi,hj,Int.toNat_natCast,Int.toNat_natCast]
     rw [e1,e2,e3]
     exact q
    have hrun:=sst.sortStable_c 6 Tryz.sizeOf39 Zdw (cfB (dec cI)) 58 #[.pointer (some ⟨e.β.getD nb 0,0,none⟩)] g 0 cap d.size d w (enters_of Tryz.func58 (by kernel_rfl) rfl) hC R rfl (by omega)
    rw [hv,← hds]
    refine hrun.mono ?_
    rintro x w' ⟨rfl,d',⟨m,os,rfl⟩,hSt,hP⟩
    have hds':d'.size=d.size:=hP.1
    have hst:=Z1g3 hd hSt hP
    have hperm:=Zdv hP
    have hel2:∀ z ∈ d'.toList.map Fg.v,(elt Z7f z).length=Z7f.length:=fun z hz=>hel' z ((hperm.map Fg.v).mem_iff.1 hz)
    have hF2:=Zjq hel2
    have hF2s:(flatK Zdw 6 d').size=(dec c).length * 6:=by rw [size_flatK,hds',hds]
    have hro:Z12 (sortWorldK Zdw 6 w g 0 m d' os) r.ty r.ks ((G.o n).val e) (cod (Zi0 (dec cI) (dec c))):=by
     rw [hst]
     refine .inr ⟨hk0,?_,?_⟩
     ·rw [hks',Z4]
      exact hel2
     ·rw [hks',Z4,hv]
      have hl2:(d'.toList.map Fg.v).length=(dec c).length:=by rw [List.length_map,Array.length_toList,hds',hds]
      rw [← hF2,hl2]
      refine ⟨by rw [Array.length_toList,hF2s]; rfl,.inr ⟨g,cap,putCells id 0 (flatK Zdw 6 d') cur,rfl,Nat.zero_le _,Zpj _ hheap,hle1,hmx,by rw [← hcs]; simp [putCells],?_⟩⟩
      have:=Zih cur (flatK Zdw 6 d') (by rw [hF2s,hcs]; exact Nat.mul_le_mul_right 6 hle1)
      rw [hF2s] at this
      exact this
    exact fin (row:=some g) (Zhk _) (fun k hk=>by
     simp only [Option.some.injEq] at hk
     subst hk
     rw [hv]
     show (if cap=0 then none else some g)=some g
     rw [if_neg (by omega)]) hro
theorem Z1g5:Z18 Zp5 i_cst:=⟨fun xs h=>(Z14 xs h).elim,fun vs xs h hp=>Z1 trivial Z2⟩
end Go.Proofs.YtgcoidbaoigkeaaGreatDoor.fix
namespace Go.Proofs.YtgcoidbaoigkeaaGreatDoor.fix
open Go.RowKit Go.Sx
noncomputable def Zez:List Sum:=[Zln]
def Zw6:List Inf:=[Z13c]
def Zw7:TX:=(.asrt (.le (.c 0) (.v 4)) (.asrt (.lt (.v 4) (.ln (.v 0))) (.call 0 [(.l2 .at (.l2 .at (.v 0) (.v 4)) (.c 3)),(.l2 .at (.l2 .at (.v 0) (.v 4)) (.c 4)),(.l2 .at (.l2 .at (.v 0) (.v 4)) (.c 5)),(.l2 .at (.l2 .at (.v 0) (.v 4)) (.c 6)),(.l2 .at (.l2 .at (.v 0) (.v 4)) (.c 7)),(.l2 .at (.l2 .at (.v 0) (.v 4)) (.c 8)),(.l2 .at (.l2 .at (.v 0) (.v 4)) (.c 9)),(.l2 .at (.l2 .at (.v 0) (.v 4)) (.c 10)),(.l2 .at (.l2 .at (.v 0) (.v 4)) (.c 11)),(.v 1),(.v 7),(.v 8)] (.ret [(.v 9),(.v 10),(.v 11),(.v 12)]))))
theorem Zsn:Z13 (Zs [] Zw6 [] Z9d (Zn Tryz.prog Z78 gl0 Zez 1000 55 [Scn,An 6] [Cl]))=Zw7:=by kernel_rfl
theorem Z1a4:Gok Tryz.prog Zez:=(fix.one Z1a1)
theorem Z1a5:Zi Zez Zw6:=(Z3 Zph Z6)
theorem Zm7 {b:Int} (h:Zc Z39 (dec b)):Zr (ivs 4 0 255++[zz,iv 0 255,zz,iv 0 1,zz]) (Zdg b):=by
 have v:=Z1g h
 exact Z1 (v.2 3) (Z1 (v.2 4) (Z1 (v.2 5) (Z1 (v.2 6) (Z1 (v.2 7) (Z1 (v.2 8) (Z1 (v.2 9) (Z1 (v.2 10) (Z1 (v.2 11) Z2))))))))
theorem Z14p:Z6s.ok Tryz.prog:=Sum.okPF (pin:=Z9d) facts.mixed Z1a4 Z1a5 Zsn rfl (fun _=>rfl) (fun xs h=>h.1) (by
 intro xs hx hp
 obtain ⟨I,T,S,f0,f1,f2,f3,f4,f5,rfl⟩:=len9 hx
 obtain ⟨hv,hr,hT,h0,h1⟩:=hp
 replace hr:Z3o (dec I) (dec T):=hr
 replace hT:Zc4 (dec T):=hT
 replace h0:0≤f1:=h0
 replace h1:f1 < ((dec I).length:Int):=h1
 have hco:∀ x j,(dec x).getD j 0=co x j:=fun _ _=>rfl
 simp only [Zw7,Zez,Zln,TX.sat,XB.prop,X.den,Z1gw,Z1gx,Z1gq,Z1gr,Z1gu,Z1gv,Z1gs,Z1gt,mkS,mkP,and_true,true_and,Z1h1,Z1h2,not_or,not_and,Z1gy,ne_eq,Z1gz,Z1h0,Z4e,Zh9,Z13a,L2.den,Zdg,show Int.toNat 0=0 from rfl,show Int.toNat 1=1 from rfl,show Int.toNat 2=2 from rfl,show Int.toNat 3=3 from rfl,show Int.toNat 4=4 from rfl,show Int.toNat 5=5 from rfl,show Int.toNat 6=6 from rfl,show Int.toNat 7=7 from rfl,show Int.toNat 8=8 from rfl,show Int.toNat 9=9 from rfl,show Int.toNat 10=10 from rfl,show Int.toNat 11=11 from rfl,show Int.toNat 12=12 from rfl,show Int.toNat 13=13 from rfl,show Int.toNat 14=14 from rfl,show Int.toNat 15=15 from rfl,show Int.toNat 16=16 from rfl,show Int.toNat 17=17 from rfl,show Int.toNat 18=18 from rfl,show Int.toNat 19=19 from rfl,show Int.toNat 20=20 from rfl,hco]
 have hmem:(dec I).getD f1.toNat 0 ∈ dec I:=Zx (by omega)
 have hcoI:co I f1.toNat=(dec I).getD f1.toNat 0:=rfl
 rw [hcoI]
 have hl:=Zm7 (hr.1 _ hmem).1
 refine ⟨h0,h1,⟨Zw (vs:=ivs 4 0 255++[zz,iv 0 255,zz,iv 0 1,zz]) (us:=[none,zz,zz]) (r:=Zdg ((dec I).getD f1.toNat 0)) (x:=[T,f4,f5]) hl (Z1 trivial (Z1 (hv.2 7) (Z1 (hv.2 8) Z2))),hr.2,hT⟩,?_⟩
 rfl)
theorem Zjs:Z18 Z6s Zvd:=⟨fun xs h=>(Z14 xs h).elim,fun vs xs h hp=>by
 obtain ⟨hv,hr,hT,h0,h1⟩:=hp
 have hmem:(dec (xs.getD 0 0)).getD (xs.getD 4 0).toNat 0 ∈ dec (xs.getD 0 0):=Zx (by omega)
 have hl:=Zm7 (hr.1 _ hmem).1
 have hp2:Zp0 (Zdg ((dec (xs.getD 0 0)).getD (xs.getD 4 0).toNat 0)++[xs.getD 1 0,xs.getD 7 0,xs.getD 8 0]):=⟨Zw (vs:=ivs 4 0 255++[zz,iv 0 255,zz,iv 0 1,zz]) (us:=[none,zz,zz]) hl (Z1 trivial (Z1 (hv.2 7) (Z1 (hv.2 8) Z2))),hr.2,hT⟩
 have o:=Zph.2 Zc5 _ hp2.1 hp2
 exact Z1 (o.2 0) (Z1 (o.2 1) (Z1 (o.2 2) (Z1 (o.2 3) Z2)))⟩
theorem Zpk {I T:List Int} {f0 f1 f2 f3 f4 f5:Int} (hr:Z3o I T) (hT:Zc4 T) (hf:Zr (zs 6) [f0,f1,f2,f3,f4,f5]) (h0:0≤f1) (h1:f1 < (I.length:Int)):Zr (ivs 4 0 255) (ex4 (Z9t (Zdg (I.getD f1.toNat 0)) T f4 f5)):=by
 have hp:Z6s.pre [cod I,cod T,0,f0,f1,f2,f3,f4,f5]:=⟨Z1 trivial (Z1 trivial (Z1 trivial hf)),by
  show Z3o (dec (cod I)) (dec (cod T)); rw [Z4,Z4]; exact hr,by
  show Zc4 (dec (cod T)); rw [Z4]; exact hT,h0,by
  show f1 < ((dec (cod I)).length:Int); rw [Z4]; exact h1⟩
 have o:=Zjs.2 Z9d _ hp.1 hp
 have e:Z6s.sem [cod I,cod T,0,f0,f1,f2,f3,f4,f5]=Z4e [cod I,cod T,0,f0,f1,f2,f3,f4,f5]:=rfl
 rw [e] at o
 unfold Z4e at o
 simp only [TX.sat,XB.prop,X.den,Z1gw,Z1gx,Z1gq,Z1gr,Z1gu,Z1gv,Z1gs,Z1gt,mkS,mkP,and_true,true_and,Z1h1,Z1h2,not_or,not_and,Z1gy,ne_eq,Z1gz,Z1h0,Z4] at o
 exact o
noncomputable def Zpl:List Sum:=[Z72,Z9b]
def Z1cs:List Inf:=[Zot,Zlk]
def Z14q:TX:=(.loop 8 [none,none,none,none,none,none,none,none] [(.c 0),(.c (-2048)),(.c (-1)),(.c (-1)),(.c 0),(.c 0),(.c 0),(.c 0)] (.ite (.lt (.v 5) (.ln (.v 2))) (.asrt (.le (.c 0) (.v 5)) (.call 0 [(.l2 .at (.l2 .at (.v 2) (.v 5)) (.c 0)),(.l2 .at (.l2 .at (.v 2) (.v 5)) (.c 1)),(.l2 .at (.l2 .at (.v 2) (.v 5)) (.c 2)),(.l2 .at (.l2 .at (.v 2) (.v 5)) (.c 3)),(.l2 .at (.l2 .at (.v 2) (.v 5)) (.c 4)),(.l2 .at (.l2 .at (.v 2) (.v 5)) (.c 5)),(.l2 .at (.l2 .at (.v 2) (.v 5)) (.c 6)),(.l2 .at (.l2 .at (.v 2) (.v 5)) (.c 7)),(.l2 .at (.l2 .at (.v 2) (.v 5)) (.c 8)),(.l2 .at (.l2 .at (.v 2) (.v 5)) (.c 9)),(.l2 .at (.l2 .at (.v 2) (.v 5)) (.c 10)),(.l2 .at (.l2 .at (.v 2) (.v 5)) (.c 11)),(.l2 .at (.l2 .at (.v 2) (.v 5)) (.c 12)),(.l2 .at (.l2 .at (.v 2) (.v 5)) (.c 13)),(.l2 .at (.l2 .at (.v 2) (.v 5)) (.c 14)),(.v 3),(.v 4)] (.ite (.eq (.v 18) (.c 0)) (.asrt (.le (.c 0) (.l2 .at (.l2 .at (.v 2) (.v 5)) (.c 16))) (.asrt (.lt (.l2 .at (.l2 .at (.v 2) (.v 5)) (.c 16)) (.ln (.v 0))) (.ite (.eq (.l2 .at (.l2 .at (.v 0) (.l2 .at (.l2 .at (.v 2) (.v 5)) (.c 16))) (.c 10)) (.c 0)) (.ite (.eq (.v 12) (.c 0)) (.back 0 [(.wr .i64 (.add (.v 5) (.c 1))),(.wr .i64 (.add (.l2 .at (.l2 .at (.v 2) (.v 5)) (.c 15)) (.v 15))),(.l2 .at (.l2 .at (.v 2) (.v 5)) (.c 16)),(.l2 .at (.l2 .at (.v 2) (.v 5)) (.c 17)),(.l2 .at (.l2 .at (.v 2) (.v 5)) (.c 18)),(.v 16),(.v 17),(.c 1)])
(.call 1 [(.wr .i64 (.add (.l2 .at (.l2 .at (.v 2) (.v 5)) (.c 15)) (.v 15))),(.l2 .at (.l2 .at (.v 2) (.v 5)) (.c 16)),(.l2 .at (.l2 .at (.v 2) (.v 5)) (.c 17)),(.l2 .at (.l2 .at (.v 2) (.v 5)) (.c 18)),(.v 16),(.v 17),(.v 6),(.v 7),(.v 8),(.v 9),(.v 10),(.v 11)] (.ite (.nz (.v 19)) (.back 0 [(.wr .i64 (.add (.v 5) (.c 1))),(.wr .i64 (.add (.l2 .at (.l2 .at (.v 2) (.v 5)) (.c 15)) (.v 15))),(.l2 .at (.l2 .at (.v 2) (.v 5)) (.c 16)),(.l2 .at (.l2 .at (.v 2) (.v 5)) (.c 17)),(.l2 .at (.l2 .at (.v 2) (.v 5)) (.c 18)),(.v 16),(.v 17),(.c 1)])
(.back 0 [(.wr .i64 (.add (.v 5) (.c 1))),(.v 6),(.v 7),(.v 8),(.v 9),(.v 10),(.v 11),(.v 12)]))))
(.back 0 [(.wr .i64 (.add (.v 5) (.c 1))),(.v 6),(.v 7),(.v 8),(.v 9),(.v 10),(.v 11),(.v 12)]))))
(.back 0 [(.wr .i64 (.add (.v 5) (.c 1))),(.v 6),(.v 7),(.v 8),(.v 9),(.v 10),(.v 11),(.v 12)]))))
(.ite (.nz (.v 12)) (.ret [(.v 6),(.v 7),(.v 8),(.v 9),(.v 10),(.v 11),(.c 1)])
(.ret [(.v 6),(.v 7),(.v 8),(.v 9),(.v 10),(.v 11),(.c 0)]))))
theorem Z14r:Z13 (Zs [] Z1cs [] Zlp (Zn Tryz.prog (Zh5 Tryz.prog [(2,17)]) gl0 Zpl 1000 28 [Scn,I1,I1] [An 6,Bo]))=Z14q:=by kernel_rfl
theorem g_winS:Gok Tryz.prog Zpl:=(more Zlw (fix.one Zpf))
theorem o_winS:Zi Zpl Z1cs:=(Z3 Z9e (Z3 Zjp Z6))
theorem Zso {l:List Int}:∀ (F acc:List Int),(acc.getD 6 0=0∨acc.getD 6 0=1)→((F.foldl (Z15 l) acc).getD 6 0=0∨(F.foldl (Z15 l) acc).getD 6 0=1)
 | [],acc,h=>h
 | f::F,acc,h=>by
  rw [List.foldl_cons]
  refine Zso F _ ?_
  unfold Z15
  split
  ·exact .inr rfl
  ·exact h
theorem Zw8 {l:List Int}:∀ (F acc:List Int),acc.length=7→(F.foldl (Z15 l) acc).length=7
 | [],acc,h=>h
 | f::F,acc,h=>by
  rw [List.foldl_cons]
  refine Zw8 F _ ?_
  unfold Z15
  split
  ·rfl
  ·exact h
set_option maxHeartbeats 2000000 in
theorem Z1a6 (I0 T0 S0 x y:Int) (l S:List Int) (at_:Int→List Int) (R:List Int) (ff:Int→Option Int) (hl:dec I0=l) (hS:dec S0=S) (hlen:S.length≤100000)
  (hat:∀ p,Z72.sem [co p 0,co p 1,co p 2,co p 3,co p 4,co p 5,co p 6,co p 7,co p 8,co p 9,co p 10,co p 11,co p 12,co p 13,co p 14,x,y]=[(at_ p).getD 0 0,(at_ p).getD 1 0,(at_ p).getD 2 0,(at_ p).getD 3 0,(at_ p).getD 4 0,(at_ p).getD 5 0])
  (hpp:∀ p ∈ S,Z72.pre [co p 0,co p 1,co p 2,co p 3,co p 4,co p 5,co p 6,co p 7,co p 8,co p 9,co p 10,co p 11,co p 12,co p 13,co p 14,x,y])
  (hff:∀ p,ff p=if (at_ p).getD 5 0=0 then some (cod [IntKind.i64.wrap (co p 15 + (at_ p).getD 2 0),co p 16,co p 17,co p 18,(at_ p).getD 3 0,(at_ p).getD 4 0]) else none)
  (hvs:∀ f ∈ S.filterMap ff,Zr (zs 6) [co f 0,co f 1,co f 2,co f 3,co f 4,co f 5]) (hit:∀ p ∈ S,0≤co p 16∧co p 16 < (l.length:Int)) (hnr:∀ z,Z9b.sem z=[b01 (Zc2 z)]) (W:List Int) (hW:(S.filterMap ff).foldl (Z15 l) Zll=W)
  (hR:R=ex7 W) :
  Z14q.sat Zpl [] (fun ys=>ys=R) [] [I0,T0,S0,x,y]:=by
 unfold Z14q Zpl
 simp only [TX.sat,XB.prop]
 simp only [X.den,L2.den,TX.sat,XB.prop,X.den,Z1gw,Z1gx,Z1gq,Z1gr,Z1gu,Z1gv,Z1gs,Z1gt,mkS,mkP,and_true,true_and,Z1h1,Z1h2,not_or,not_and,Z1gy,ne_eq,Z1gz,Z1h0]
 have hco:∀ x j,(dec x).getD j 0=co x j:=fun _ _=>rfl
 have hcS:∀ j,co S0 j=S.getD j 0:=fun j=>by rw [← hco,hS]
 simp only [hl,hS,hco,hcS,TX.sat,XB.prop,X.den,Z1gw,Z1gx,Z1gq,Z1gr,Z1gu,Z1gv,Z1gs,Z1gt,mkS,mkP,and_true,true_and,Z1h1,Z1h2,not_or,not_and,Z1gy,ne_eq,Z1gz,Z1h0,show Int.toNat 0=0 from rfl,show Int.toNat 1=1 from rfl,show Int.toNat 2=2 from rfl,show Int.toNat 3=3 from rfl,show Int.toNat 4=4 from rfl,show Int.toNat 5=5 from rfl,show Int.toNat 6=6 from rfl,show Int.toNat 7=7 from rfl,show Int.toNat 8=8 from rfl,show Int.toNat 9=9 from rfl,show Int.toNat 10=10 from rfl,show Int.toNat 11=11 from rfl,show Int.toNat 12=12 from rfl,show Int.toNat 13=13 from rfl,show Int.toNat 14=14 from rfl,show Int.toNat 15=15 from rfl,show Int.toNat 16=16 from rfl,show Int.toNat 17=17 from rfl,show Int.toNat 18=18 from rfl,show Int.toNat 19=19 from rfl,show Int.toNat 20=20 from rfl]
 refine ⟨fun xs=>∃ m:Nat,xs.getD 0 0=(m:Int)∧m≤S.length∧[xs.getD 1 0,xs.getD 2 0,xs.getD 3 0,xs.getD 4 0,xs.getD 5 0,xs.getD 6 0,xs.getD 7 0]=((S.take m).filterMap ff).foldl (Z15 l) Zll,fun xs=>S.length - (xs.getD 0 0).toNat,fun xs hx _=>Zy (n:=8) hx,⟨0,rfl,by omega,rfl⟩,?_⟩
 intro ys hy hJ
 obtain ⟨e0,e1,e2,e3,e4,e5,e6,e7,rfl⟩:=len8 hy
 obtain ⟨m,hm,hml,hmd⟩:=hJ
 simp only [TX.sat,XB.prop,X.den,Z1gw,Z1gx,Z1gq,Z1gr,Z1gu,Z1gv,Z1gs,Z1gt,mkS,mkP,and_true,true_and,Z1h1,Z1h2,not_or,not_and,Z1gy,ne_eq,Z1gz,Z1h0] at hm hmd ⊢
 subst hm
 simp only [Int.toNat_natCast,hcS,show Int.toNat 0=0 from rfl,show Int.toNat 1=1 from rfl,show Int.toNat 2=2 from rfl,show Int.toNat 3=3 from rfl,show Int.toNat 4=4 from rfl,show Int.toNat 5=5 from rfl,show Int.toNat 6=6 from rfl,show Int.toNat 7=7 from rfl,show Int.toNat 8=8 from rfl,show Int.toNat 9=9 from rfl,show Int.toNat 10=10 from rfl,show Int.toNat 11=11 from rfl,show Int.toNat 12=12 from rfl,show Int.toNat 13=13 from rfl,show Int.toNat 14=14 from rfl,show Int.toNat 15=15 from rfl,show Int.toNat 16=16 from rfl,show Int.toNat 17=17 from rfl,show Int.toNat 18=18 from rfl,show Int.toNat 19=19 from rfl,show Int.toNat 20=20 from rfl]
 simp only [hat,TX.sat,XB.prop,X.den,Z1gw,Z1gx,Z1gq,Z1gr,Z1gu,Z1gv,Z1gs,Z1gt,mkS,mkP,and_true,true_and,Z1h1,Z1h2,not_or,not_and,Z1gy,ne_eq,Z1gz,Z1h0,Z4]
 refine ⟨fun hlt1=>?_,fun hge1=>?_⟩
 ·have hmS:m < S.length:=by omega
  have htake:S.take (m + 1)=S.take m++[S.getD m 0]:=by
   rw [List.take_succ_eq_append_getElem hmS]
   rw [show S.getD m 0=S[m] by simp [List.getD,hmS]]
  have hmem:S.getD m 0 ∈ S:=Zx hmS
  have hw:IntKind.i64.wrap ((m:Int) + 1)=((m + 1:Nat):Int):=by rw [Zo (by omega) (by omega)]; omega
  have hfm:=hff (S.getD m 0)
  have hip:=hit _ hmem
  have hfold:∀ f,ff (S.getD m 0)=some f→((S.take (m + 1)).filterMap ff).foldl (Z15 l) Zll=Z15 l [e1,e2,e3,e4,e5,e6,e7] f:=fun f hf=>by
   rw [htake,List.filterMap_append,List.foldl_append,← hmd]
   simp only [List.filterMap_cons,hf,List.filterMap_nil,List.foldl_cons,List.foldl_nil]
  refine ⟨by omega,hpp _ hmem,fun hz=>?_,fun hz=>⟨⟨m + 1,hw,by omega,?_⟩,?_⟩⟩
  ·rw [if_pos hz] at hfm
   have hF:=hfold _ hfm
   have hstep:∀ a b c d e f:Int,Z15 l [e1,e2,e3,e4,e5,e6,e7] (cod [a,b,c,d,e,f])=if co (l.getD b.toNat 0) 10=0∧(e7=0∨Zc2 [a,b,c,d,e,f,e1,e2,e3,e4,e5,e6]=true) then [a,b,c,d,e,f,1] else [e1,e2,e3,e4,e5,e6,e7]:=fun a b c d e f=>by
    unfold Z15
    simp only [Zig,TX.sat,XB.prop,X.den,Z1gw,Z1gx,Z1gq,Z1gr,Z1gu,Z1gv,Z1gs,Z1gt,mkS,mkP,and_true,true_and,Z1h1,Z1h2,not_or,not_and,Z1gy,ne_eq,Z1gz,Z1h0]
   rw [hstep] at hF
   have hmemF:∀ f,ff (S.getD m 0)=some f→Zr (zs 6) [co f 0,co f 1,co f 2,co f 3,co f 4,co f 5]:=fun f hf=>hvs f (List.mem_filterMap.2 ⟨_,hmem,hf⟩)
   have v6:=hmemF _ hfm
   simp only [Zig,TX.sat,XB.prop,X.den,Z1gw,Z1gx,Z1gq,Z1gr,Z1gu,Z1gv,Z1gs,Z1gt,mkS,mkP,and_true,true_and,Z1h1,Z1h2,not_or,not_and,Z1gy,ne_eq,Z1gz,Z1h0] at v6
   have v7:Zr (zs 7) [e1,e2,e3,e4,e5,e6,e7]:=by
    rw [hmd]
    refine Zm5 _ _ Zsm fun f hf=>?_
    obtain ⟨p,hp,hpf⟩:=List.mem_filterMap.1 hf
    exact hvs f (List.mem_filterMap.2 ⟨p,List.mem_of_mem_take hp,hpf⟩)
   have hmeas:S.length - (IntKind.i64.wrap ((m:Int) + 1)).toNat < S.length - m:=by
    rw [hw,Int.toNat_natCast]
    omega
   refine ⟨hip.1,hip.2,fun hbl=>⟨fun his=>⟨⟨m + 1,hw,by omega,?_⟩,hmeas⟩,fun his=>⟨Zw v6 (Z1 (v7.2 0) (Z1 (v7.2 1) (Z1 (v7.2 2) (Z1 (v7.2 3) (Z1 (v7.2 4) (Z1 (v7.2 5) Z2)))))),fun hnz=>⟨⟨m + 1,hw,by omega,?_⟩,hmeas⟩,fun hzz=>⟨⟨m + 1,hw,by omega,?_⟩,hmeas⟩⟩⟩,fun hbl=>⟨⟨m + 1,hw,by omega,?_⟩,hmeas⟩⟩
   ·rw [hF,if_pos ⟨hbl,.inl his⟩]
   ·rw [hnr] at hnz
    rw [hF,if_pos ⟨hbl,.inr (Z14k hnz)⟩]
   ·rw [hnr] at hzz
    rw [hF,if_neg]
    rintro ⟨_,h5 | h5⟩
    ·exact his h5
    ·rw [h5] at hzz
     exact absurd hzz (by decide)
   ·rw [hF,if_neg]
    exact fun h5=>hbl h5.1
  ·rw [if_neg hz] at hfm
   rw [htake,List.filterMap_append]
   simp only [List.filterMap_cons,hfm,List.filterMap_nil,List.append_nil]
   exact hmd
  ·rw [hw,Int.toNat_natCast]
   omega
 ·have:m=S.length:=by omega
  rw [this,List.take_length,hW] at hmd
  rw [hR,← hmd]
  have hor:e7=0∨e7=1:=by
   have:=Zso (l:=l) (S.filterMap ff) Zll (.inl rfl)
   rw [hW,← hmd] at this
   exact this
  unfold ex7
  simp only [TX.sat,XB.prop,X.den,Z1gw,Z1gx,Z1gq,Z1gr,Z1gu,Z1gv,Z1gs,Z1gt,mkS,mkP,and_true,true_and,Z1h1,Z1h2,not_or,not_and,Z1gy,ne_eq,Z1gz,Z1h0]
  refine ⟨fun h=>?_,fun h=>?_⟩
  ·rcases hor with h1 | h1
   ·exact absurd h1 h
   ·rw [h1]
  ·rw [h]
theorem Zm8 {p x y:Int} (h:Zr (zs 21) (Zs6 p)) (hx:Zh zz x) (hy:Zh zz y):Zr (zs 17) (Z1c p++[x,y]):=Z1 (h.2 0) (Z1 (h.2 1) (Z1 (h.2 2) (Z1 (h.2 3) (Z1 (h.2 4) (Z1 (h.2 5) (Z1 (h.2 6) (Z1 (h.2 7) (Z1 (h.2 8) (Z1 (h.2 9) (Z1 (h.2 10) (Z1 (h.2 11) (Z1 (h.2 12) (Z1 (h.2 13) (Z1 (h.2 14) (Z1 hx (Z1 hy Z2))))))))))))))))
theorem Zf0 {S:List Int} {x y:Int} (hx:Zh zz x) (hy:Zh zz y) (h:∀ p ∈ S,Zr (zs 21) (Zs6 p)):∀ f ∈ S.filterMap (Z1y x y),Zr (zs 6) [co f 0,co f 1,co f 2,co f 3,co f 4,co f 5]:=by
 intro f hf
 obtain ⟨p,hp,hpf⟩:=List.mem_filterMap.1 hf
 have h21:=h p hp
 have h17:=Zm8 h21 hx hy
 have ho:=Z9e.2 Zbz _ h17 h17
 have h3:Zh (iv 0 255) ((atL (Z1c p++[x,y])).getD 3 0):=ho.2 3
 have h4:Zh (iv 0 255) ((atL (Z1c p++[x,y])).getD 4 0):=ho.2 4
 unfold Z1y at hpf
 split at hpf
 ·simp only [Option.some.injEq] at hpf
  rw [← hpf]
  simp only [Zig,TX.sat,XB.prop,X.den,Z1gw,Z1gx,Z1gq,Z1gr,Z1gu,Z1gv,Z1gs,Z1gt,mkS,mkP,and_true,true_and,Z1h1,Z1h2,not_or,not_and,Z1gy,ne_eq,Z1gz,Z1h0]
  exact Z1 (Z14l _) (Z1 (h21.2 16) (Z1 (h21.2 17) (Z1 (h21.2 18) (Z1 (Z1o h3 (by decide) (by decide)) (Z1 (Z1o h4 (by decide) (by decide)) Z2)))))
 ·cases hpf
theorem Zw9 {S:List Int} {x y:Int} {n:Int} (h:∀ p ∈ S,0≤co p 16∧co p 16 < n):∀ f ∈ S.filterMap (Z1y x y),0≤co f 1∧co f 1 < n:=by
 intro f hf
 obtain ⟨p,hp,hpf⟩:=List.mem_filterMap.1 hf
 unfold Z1y at hpf
 split at hpf
 ·simp only [Option.some.injEq] at hpf
  rw [← hpf,Zig]
  exact h p hp
 ·cases hpf
theorem Z1g6:Zjj.ok Tryz.prog:=Sum.okPF (pin:=Zlp) facts.mixed g_winS o_winS Z14r rfl (fun _=>rfl) (fun xs h=>h.1) (by
 intro xs hx hp
 obtain ⟨I,T,S,x,y,rfl⟩:=len5 hx
 obtain ⟨hv,hs,hp⟩:=hp
 replace hs:(dec S).length≤100000:=hs
 replace hp:∀ p ∈ dec S,Zr (zs 21) (Zs6 p)∧0≤co p 16∧co p 16 < ((dec I).length:Int):=hp
 exact Z1a6 I T S x y (dec I) (dec S) (fun p=>atL (Z1c p++[x,y])) _ (Z1y x y) rfl rfl hs (fun p=>rfl) (fun p hm=>Zm8 (hp p hm).1 (hv.2 3) (hv.2 4)) (fun p=>rfl) (Zf0 (hv.2 3) (hv.2 4) fun p hm=>(hp p hm).1) (fun p hm=>(hp p hm).2) (fun z=>rfl) _ rfl rfl)
theorem Z1a7:Z18 Zjj Z1c7:=⟨fun xs h=>(Z14 xs h).elim,fun vs xs h hp=>by
 obtain ⟨hv,hs,hp⟩:=hp
 have v7:=Zm5 (l:=dec (xs.getD 0 0)) ((dec (xs.getD 2 0)).filterMap (Z1y (xs.getD 3 0) (xs.getD 4 0))) Zll Zsm (Zf0 (hv.2 3) (hv.2 4) fun p hm=>(hp p hm).1)
 have hor:=Zso (l:=dec (xs.getD 0 0)) ((dec (xs.getD 2 0)).filterMap (Z1y (xs.getD 3 0) (xs.getD 4 0))) Zll (.inl rfl)
 have h01:∀ n:Int,(n=0∨n=1)→Zh (iv 0 1) n:=fun n h=>by
  rcases h with rfl | rfl
  ·exact ⟨by decide,by decide⟩
  ·exact ⟨by decide,by decide⟩
 exact Z1 (v7.2 0) (Z1 (v7.2 1) (Z1 (v7.2 2) (Z1 (v7.2 3) (Z1 (v7.2 4) (Z1 (v7.2 5) (Z1 (h01 _ hor) Z2))))))⟩
end Go.Proofs.YtgcoidbaoigkeaaGreatDoor.fix
namespace Go.Proofs.YtgcoidbaoigkeaaGreatDoor.fix
open Go.RowKit Go.Sx
theorem Zm9 {l:List Int}:∀ (F acc:List Int),(F.foldl (Z15 l) acc=acc)∨∃ f ∈ F,F.foldl (Z15 l) acc=[co f 0,co f 1,co f 2,co f 3,co f 4,co f 5,1]
 | [],acc=>.inl rfl
 | f::F,acc=>by
  rw [List.foldl_cons]
  rcases Zm9 F (Z15 l acc f) with h | ⟨g,hg,h⟩
  ·rw [h]
   unfold Z15
   split
   ·exact .inr ⟨f,List.mem_cons_self ..,rfl⟩
   ·exact .inl rfl
  ·exact .inr ⟨g,List.mem_cons_of_mem _ hg,h⟩
noncomputable def Zpm:List Sum:=[Zjj,Z72,Z6s,Zv6,Zp5]
def Z1ct:List Inf:=[Z1c7,Zot,Zvd,Z1c6,i_cst]
def Z14s:TX:=(.call 0 [(.v 0),(.v 1),(.v 2),(.v 7),(.v 8)] (.ite (.nz (.v 15)) (.call 2 [(.v 0),(.v 1),(.v 2),(.v 9),(.v 10),(.v 11),(.v 12),(.v 13),(.v 14)] (.loop 2 [none,none] [(.c 0),.nl] (.ite (.lt (.v 20) (.ln (.v 2))) (.asrt (.le (.c 0) (.v 20)) (.call 1 [(.l2 .at (.l2 .at (.v 2) (.v 20)) (.c 0)),(.l2 .at (.l2 .at (.v 2) (.v 20)) (.c 1)),(.l2 .at (.l2 .at (.v 2) (.v 20)) (.c 2)),(.l2 .at (.l2 .at (.v 2) (.v 20)) (.c 3)),(.l2 .at (.l2 .at (.v 2) (.v 20)) (.c 4)),(.l2 .at (.l2 .at (.v 2) (.v 20)) (.c 5)),(.l2 .at (.l2 .at (.v 2) (.v 20)) (.c 6)),(.l2 .at (.l2 .at (.v 2) (.v 20)) (.c 7)),(.l2 .at (.l2 .at (.v 2) (.v 20)) (.c 8)),(.l2 .at (.l2 .at (.v 2) (.v 20)) (.c 9)),(.l2 .at (.l2 .at (.v 2) (.v 20)) (.c 10)),(.l2 .at (.l2 .at (.v 2) (.v 20)) (.c 11)),(.l2 .at (.l2 .at (.v 2) (.v 20)) (.c 12)),(.l2 .at (.l2 .at (.v 2) (.v 20)) (.c 13)),(.l2 .at (.l2 .at (.v 2) (.v 20)) (.c 14)),(.v 7),(.v 8)] (.ite (.eq (.v 27) (.c 0)) (.asrt (.le (.c 0) (.l2 .at (.l2 .at (.v 2) (.v 20)) (.c 16))) (.asrt (.lt (.l2 .at (.l2 .at (.v 2) (.v 20)) (.c 16)) (.ln (.v 0))) (.ite (.and (.nz (.l2 .at (.l2 .at (.v 0) (.l2 .at (.l2 .at (.v 2) (.v 20)) (.c 16))) (.c 10))) (.lt (.v 9) (.wr .i64 (.add (.l2 .at (.l2 .at (.v 2) (.v 20)) (.c 15)) (.v 24))))) (.asrt (.le (.ln (.l2 .snoc (.v 21) (.l2 .cons (.wr .i64 (.add (.l2 .at (.l2 .at (.v 2) (.v 20)) (.c 15)) (.v 24))) (.l2 .cons (.l2 .at (.l2 .at (.v 2) (.v 20)) (.c 16)) (.l2 .cons (.l2 .at (.l2 .at (.v 2) (.v 20)) (.c 17)) (.l2 .cons (.l2 .at (.l2 .at (.v 2) (.v 20)) (.c 18)) (.l2 .cons (.v 25) (.l2 .cons (.v 26) .nl)))))))) (.c 1000000)) (.back 0 [(.wr .i64 (.add (.v 20) (.c 1))),(.l2 .snoc (.v 21) (.l2 .cons (.wr .i64 (.add (.l2 .at (.l2 .at (.v 2) (.v 20)) (.c 15)) (.v 24))) (.l2 .cons (.l2 .at (.l2 .at (.v 2) (.v 20)) (.c 16)) (.l2 .cons (.l2 .at (.l2 .at (.v 2) (.v 20)) (.c 17)) (.l2 .cons (.l2 .at (.l2 .at (.v 2) (.v 20)) (.c 18)) (.l2 .cons (.v 25) (.l2 .cons (.v 26) .nl)))))))]))
(.back 0 [(.wr .i64 (.add (.v 20) (.c 1))),(.v 21)]))))
(.back 0 [(.wr .i64 (.add (.v 20) (.c 1))),(.v 21)]))))
(.asrt (.le (.ln (.v 21)) (.c 1000000)) (.call 4 [(.v 21),(.v 0)] (.loop 5 [none,none,none,none,none] [(.c 0),(.v 16),(.v 17),(.v 18),(.v 19)] (.ite (.le (.ln (.v 22)) (.v 23)) (.ret [(.v 24),(.v 25),(.v 26),(.v 27)])
(.asrt (.le (.c 0) (.v 23)) (.call 2 [(.v 0),(.v 1),(.v 2),(.l2 .at (.l2 .at (.v 22) (.v 23)) (.c 0)),(.l2 .at (.l2 .at (.v 22) (.v 23)) (.c 1)),(.l2 .at (.l2 .at (.v 22) (.v 23)) (.c 2)),(.l2 .at (.l2 .at (.v 22) (.v 23)) (.c 3)),(.l2 .at (.l2 .at (.v 22) (.v 23)) (.c 4)),(.l2 .at (.l2 .at (.v 22) (.v 23)) (.c 5))] (.call 3 [(.v 28),(.v 29),(.v 30),(.v 31),(.v 24),(.v 25),(.v 26),(.v 27)] (.back 1 [(.wr .i64 (.add (.v 23) (.c 1))),(.v 32),(.v 33),(.v 34),(.v 35)])))))))))))
(.loop 2 [none,none] [(.c 0),.nl] (.ite (.lt (.v 16) (.ln (.v 2))) (.asrt (.le (.c 0) (.v 16)) (.call 1 [(.l2 .at (.l2 .at (.v 2) (.v 16)) (.c 0)),(.l2 .at (.l2 .at (.v 2) (.v 16)) (.c 1)),(.l2 .at (.l2 .at (.v 2) (.v 16)) (.c 2)),(.l2 .at (.l2 .at (.v 2) (.v 16)) (.c 3)),(.l2 .at (.l2 .at (.v 2) (.v 16)) (.c 4)),(.l2 .at (.l2 .at (.v 2) (.v 16)) (.c 5)),(.l2 .at (.l2 .at (.v 2) (.v 16)) (.c 6)),(.l2 .at (.l2 .at (.v 2) (.v 16)) (.c 7)),(.l2 .at (.l2 .at (.v 2) (.v 16)) (.c 8)),(.l2 .at (.l2 .at (.v 2) (.v 16)) (.c 9)),(.l2 .at (.l2 .at (.v 2) (.v 16)) (.c 10)),(.l2 .at (.l2 .at (.v 2) (.v 16)) (.c 11)),(.l2 .at (.l2 .at (.v 2) (.v 16)) (.c 12)),(.l2 .at (.l2 .at (.v 2) (.v 16)) (.c 13)),(.l2 .at (.l2 .at (.v 2) (.v 16)) (.c 14)),(.v 7),(.v 8)] (.ite (.eq (.v 23) (.c 0)) (.asrt (.le (.c 0) (.l2 .at (.l2 .at (.v 2) (.v 16)) (.c 16))) (.asrt (.lt (.l2 .at (.l2 .at (.v 2) (.v 16)) (.c 16)) (.ln (.v 0))) (.ite (.nz (.l2 .at (.l2 .at (.v 0) (.l2 .at (.l2 .at (.v 2) (.v 16)) (.c 16))) (.c 10))) (.asrt (.le (.ln (.l2 .snoc (.v 17) (.l2 .cons (.wr .i64 (.add (.l2 .at (.l2 .at (.v 2) (.v 16)) (.c 15)) (.v 20))) (.l2 .cons (.l2 .at (.l2 .at (.v 2) (.v 16)) (.c 16)) (.l2 .cons (.l2 .at (.l2 .at (.v 2) (.v 16)) (.c 17)) (.l2 .cons (.l2 .at (.l2 .at (.v 2) (.v 16)) (.c 18)) (.l2 .cons (.v 21) (.l2 .cons (.v 22) .nl)))))))) (.c 1000000)) (.back 0 [(.wr .i64 (.add (.v 16) (.c 1))),(.l2 .snoc (.v 17) (.l2 .cons (.wr .i64 (.add (.l2 .at (.l2 .at (.v 2) (.v 16)) (.c 15)) (.v 20))) (.l2 .cons (.l2 .at (.l2 .at (.v 2) (.v 16)) (.c 16)) (.l2 .cons (.l2 .at (.l2 .at (.v 2) (.v 16)) (.c 17)) (.l2 .cons (.l2 .at (.l2 .at (.v 2) (.v 16)) (.c 18)) (.l2 .cons (.v 21) (.l2 .cons (.v 22) .nl)))))))]))
(.back 0 [(.wr .i64 (.add (.v 16) (.c 1))),(.v 17)]))))
(.back 0 [(.wr .i64 (.add (.v 16) (.c 1))),(.v 17)]))))
(.asrt (.le (.ln (.v 17)) (.c 1000000)) (.call 4 [(.v 17),(.v 0)] (.loop 5 [none,none,none,none,none] [(.c 0),(.v 3),(.v 4),(.v 5),(.v 6)] (.ite (.le (.ln (.v 18)) (.v 19)) (.ret [(.v 20),(.v 21),(.v 22),(.v 23)])
(.asrt (.le (.c 0) (.v 19)) (.call 2 [(.v 0),(.v 1),(.v 2),(.l2 .at (.l2 .at (.v 18) (.v 19)) (.c 0)),(.l2 .at (.l2 .at (.v 18) (.v 19)) (.c 1)),(.l2 .at (.l2 .at (.v 18) (.v 19)) (.c 2)),(.l2 .at (.l2 .at (.v 18) (.v 19)) (.c 3)),(.l2 .at (.l2 .at (.v 18) (.v 19)) (.c 4)),(.l2 .at (.l2 .at (.v 18) (.v 19)) (.c 5))] (.call 3 [(.v 24),(.v 25),(.v 26),(.v 27),(.v 20),(.v 21),(.v 22),(.v 23)] (.back 1 [(.wr .i64 (.add (.v 19) (.c 1))),(.v 28),(.v 29),(.v 30),(.v 31)]))))))))))))
theorem Z14t:Z13 (Zs [] Z1ct [] Zls (Zn Tryz.prog (Zh5 Tryz.prog [(2,17),(8,36)]) gl0 Zpm 1000 33 [Scn,Cl,I1,I1] [Cl]))=Z14s:=by kernel_rfl
theorem g_colS:Gok Tryz.prog Zpm:=(more Z1g6 (more Zlw (more Z14p (more Z1fz (fix.oneA ok_cst)))))
theorem o_colS:Zi Zpm Z1ct:=(Z3 Z1a7 (Z3 Z9e (Z3 Zjs (Z3 Z19y (Z3 Z1g5 Z6)))))
set_option maxHeartbeats 4000000 in
theorem Z1a8 (I0 T0 S0 g0 g1 g2 g3 x y w0 w1 w2 w3 w4 w5 w6:Int) (l T S F:List Int) (at_:Int→List Int) (R:List Int) (ff:Int→Option Int) (hl:dec I0=l) (hT:dec T0=T) (hS:dec S0=S) (hlen:S.length≤100000)
  (hat:∀ p,Z72.sem [co p 0,co p 1,co p 2,co p 3,co p 4,co p 5,co p 6,co p 7,co p 8,co p 9,co p 10,co p 11,co p 12,co p 13,co p 14,x,y]=[(at_ p).getD 0 0,(at_ p).getD 1 0,(at_ p).getD 2 0,(at_ p).getD 3 0,(at_ p).getD 4 0,(at_ p).getD 5 0])
  (hpp:∀ p ∈ S,Z72.pre [co p 0,co p 1,co p 2,co p 3,co p 4,co p 5,co p 6,co p 7,co p 8,co p 9,co p 10,co p 11,co p 12,co p 13,co p 14,x,y])
  (hff:∀ p,ff p=if (at_ p).getD 5 0=0 then some (cod [IntKind.i64.wrap (co p 15 + (at_ p).getD 2 0),co p 16,co p 17,co p 18,(at_ p).getD 3 0,(at_ p).getD 4 0]) else none)
  (hit:∀ p ∈ S,0≤co p 16∧co p 16 < (l.length:Int)) (hF:S.filterMap ff=F) (hFv:∀ f ∈ F,Zr (zs 6) [co f 0,co f 1,co f 2,co f 3,co f 4,co f 5]∧0≤co f 1∧co f 1 < (l.length:Int))
  (hw:Zjj.sem [I0,T0,S0,x,y]=[w0,w1,w2,w3,w4,w5,w6]) (pw:Zjj.pre [I0,T0,S0,x,y]) (hW:Zv7 l F=[w0,w1,w2,w3,w4,w5,w6])
  (hP:∀ f0 f1 f2 f3 f4 f5,Z6s.sem [I0,T0,S0,f0,f1,f2,f3,f4,f5]=ex4 (Z9t (Zdg (l.getD f1.toNat 0)) T f4 f5))
  (hpn:∀ f0 f1 f2 f3 f4 f5,Zr (zs 6) [f0,f1,f2,f3,f4,f5]→0≤f1→f1 < (l.length:Int)→Z6s.pre [I0,T0,S0,f0,f1,f2,f3,f4,f5]∧Zr (ivs 4 0 255) (ex4 (Z9t (Zdg (l.getD f1.toNat 0)) T f4 f5)))
  (hO:∀ z,Zv6.sem z=Z9c z) (hC:∀ c,Zp5.sem [c,I0]=[cod (Zi0 l (dec c))]) (hcp:∀ L:List Int,(∀ f ∈ L,0≤co f 1∧co f 1 < (l.length:Int))→Zp5.pre [cod L,I0]) (hgv:Zr (ivs 4 0 255) [g0,g1,g2,g3])
  (hR:R=ex4 (Zzp l T F [g0,g1,g2,g3])) :
  Z14s.sat Zpm [] (fun ys=>ys=R) [] [I0,T0,S0,g0,g1,g2,g3,x,y]:=by
 unfold Z14s Zpm
 simp only [TX.sat,XB.prop]
 simp only [X.den,L2.den,TX.sat,XB.prop,X.den,Z1gw,Z1gx,Z1gq,Z1gr,Z1gu,Z1gv,Z1gs,Z1gt,mkS,mkP,and_true,true_and,Z1h1,Z1h2,not_or,not_and,Z1gy,ne_eq,Z1gz,Z1h0]
 have hco:∀ x j,(dec x).getD j 0=co x j:=fun _ _=>rfl
 have hcS:∀ j,co S0 j=S.getD j 0:=fun j=>by rw [← hco,hS]
 simp only [hl,hS,hco,hcS,hw,TX.sat,XB.prop,X.den,Z1gw,Z1gx,Z1gq,Z1gr,Z1gu,Z1gv,Z1gs,Z1gt,mkS,mkP,and_true,true_and,Z1h1,Z1h2,not_or,not_and,Z1gy,ne_eq,Z1gz,Z1h0,show Int.toNat 0=0 from rfl,show Int.toNat 1=1 from rfl,show Int.toNat 2=2 from rfl,show Int.toNat 3=3 from rfl,show Int.toNat 4=4 from rfl,show Int.toNat 5=5 from rfl,show Int.toNat 6=6 from rfl,show Int.toNat 7=7 from rfl,show Int.toNat 8=8 from rfl,show Int.toNat 9=9 from rfl,show Int.toNat 10=10 from rfl,show Int.toNat 11=11 from rfl,show Int.toNat 12=12 from rfl,show Int.toNat 13=13 from rfl,show Int.toNat 14=14 from rfl,show Int.toNat 15=15 from rfl,show Int.toNat 16=16 from rfl,show Int.toNat 17=17 from rfl,show Int.toNat 18=18 from rfl,show Int.toNat 19=19 from rfl,show Int.toNat 20=20 from rfl]
 have hFl:F.length≤100000:=by rw [← hF]; exact Nat.le_trans (List.length_filterMap_le _ _) hlen
 obtain ⟨ov,hovd⟩:∃ ov:Int→Bool,ov=fun f=>decide (co (l.getD (co f 1).toNat 0) 10 ≠ 0∧(w6=0∨w0 < co f 0)):=⟨_,rfl⟩
 have hov:∀ f,ov f=true↔(co (l.getD (co f 1).toNat 0) 10 ≠ 0∧(w6=0∨w0 < co f 0)):=fun f=>by rw [hovd]; exact decide_eq_true_iff
 have hOv:F.filter ov=Z87 l F:=by
  rw [hovd]
  unfold Z87
  rw [hW]
  simp only [TX.sat,XB.prop,X.den,Z1gw,Z1gx,Z1gq,Z1gr,Z1gu,Z1gv,Z1gs,Z1gt,mkS,mkP,and_true,true_and,Z1h1,Z1h2,not_or,not_and,Z1gy,ne_eq,Z1gz,Z1h0]
 refine ⟨pw,fun h6=>?_,fun h6=>?_⟩
 ·-- an opaque fragment shows
  have h0:¬ w6=0:=h6
  have hwf:∃ f ∈ F,[w0,w1,w2,w3,w4,w5,w6]=[co f 0,co f 1,co f 2,co f 3,co f 4,co f 5,1]:=by
   rcases Zm9 (l:=l) F Zll with h | h
   ·rw [show F.foldl (Z15 l) Zll=Zv7 l F from rfl,hW] at h
    have:=congrArg (fun q=>q.getD 6 0) h
    exact absurd this h0
   ·rw [show F.foldl (Z15 l) Zll=Zv7 l F from rfl,hW] at h
    exact h
  obtain ⟨f,hfF,hfe⟩:=hwf
  simp only [List.cons.injEq,and_true] at hfe
  obtain ⟨k0,k1,k2,k3,k4,k5,_⟩:=hfe
  have hpw:=hpn w0 w1 w2 w3 w4 w5 (by rw [k0,k1,k2,k3,k4,k5]; exact (hFv f hfF).1) (by rw [k1]; exact (hFv f hfF).2.1) (by rw [k1]; exact (hFv f hfF).2.2)
  have hqv:=hpw.2
  simp only [hP,TX.sat,XB.prop,X.den,Z1gw,Z1gx,Z1gq,Z1gr,Z1gu,Z1gv,Z1gs,Z1gt,mkS,mkP,and_true,true_and,Z1h1,Z1h2,not_or,not_and,Z1gy,ne_eq,Z1gz,Z1h0]
  obtain ⟨q0,q1,q2,q3,hq⟩:∃ q0 q1 q2 q3,ex4 (Z9t (Zdg (l.getD w1.toNat 0)) T w4 w5)=[q0,q1,q2,q3]:=⟨_,_,_,_,rfl⟩
  rw [hq] at hqv
  simp only [hq,TX.sat,XB.prop,X.den,Z1gw,Z1gx,Z1gq,Z1gr,Z1gu,Z1gv,Z1gs,Z1gt,mkS,mkP,and_true,true_and,Z1h1,Z1h2,not_or,not_and,Z1gy,ne_eq,Z1gz,Z1h0]
  have hgr:Z5d l T F [g0,g1,g2,g3]=[q0,q1,q2,q3]:=by
   unfold Z5d
   rw [hW,if_neg (show ¬ [w0,w1,w2,w3,w4,w5,w6].getD 6 0=0 from h6),← hq]
   unfold Zha
   simp only [Zig,TX.sat,XB.prop,X.den,Z1gw,Z1gx,Z1gq,Z1gr,Z1gu,Z1gv,Z1gs,Z1gt,mkS,mkP,and_true,true_and,Z1h1,Z1h2,not_or,not_and,Z1gy,ne_eq,Z1gz,Z1h0,List.take_succ_cons,List.take_zero]
  refine ⟨hpw.1,⟨fun xs=>∃ m:Nat,xs.getD 0 0=(m:Int)∧m≤S.length∧dec (xs.getD 1 0)=((S.take m).filterMap ff).filter ov∧cod (dec (xs.getD 1 0))=xs.getD 1 0,fun xs=>S.length - (xs.getD 0 0).toNat,fun xs hx _=>Zy (n:=2) hx,⟨0,rfl,by omega,Z29,by simp [Z4]⟩,?_⟩⟩
  intro ys hy hJ
  obtain ⟨e0,e1,rfl⟩:=Zdu hy
  obtain ⟨m,hm,hml,hmd,hmc⟩:=hJ
  simp only [TX.sat,XB.prop,X.den,Z1gw,Z1gx,Z1gq,Z1gr,Z1gu,Z1gv,Z1gs,Z1gt,mkS,mkP,and_true,true_and,Z1h1,Z1h2,not_or,not_and,Z1gy,ne_eq,Z1gz,Z1h0] at hm hmd hmc ⊢
  subst hm
  simp only [Int.toNat_natCast,hcS,show Int.toNat 0=0 from rfl,show Int.toNat 1=1 from rfl,show Int.toNat 2=2 from rfl,show Int.toNat 3=3 from rfl,show Int.toNat 4=4 from rfl,show Int.toNat 5=5 from rfl,show Int.toNat 6=6 from rfl,show Int.toNat 7=7 from rfl,show Int.toNat 8=8 from rfl,show Int.toNat 9=9 from rfl,show Int.toNat 10=10 from rfl,show Int.toNat 11=11 from rfl,show Int.toNat 12=12 from rfl,show Int.toNat 13=13 from rfl,show Int.toNat 14=14 from rfl,show Int.toNat 15=15 from rfl,show Int.toNat 16=16 from rfl,show Int.toNat 17=17 from rfl,show Int.toNat 18=18 from rfl,show Int.toNat 19=19 from rfl,show Int.toNat 20=20 from rfl]
  simp only [hat,TX.sat,XB.prop,X.den,Z1gw,Z1gx,Z1gq,Z1gr,Z1gu,Z1gv,Z1gs,Z1gt,mkS,mkP,and_true,true_and,Z1h1,Z1h2,not_or,not_and,Z1gy,ne_eq,Z1gz,Z1h0,Z4]
  refine ⟨fun hlt1=>?_,fun hge1=>?_⟩
  ·have hmS:m < S.length:=by omega
   have htake:S.take (m + 1)=S.take m++[S.getD m 0]:=by
    rw [List.take_succ_eq_append_getElem hmS]
    rw [show S.getD m 0=S[m] by simp [List.getD,hmS]]
   have hmem:S.getD m 0 ∈ S:=Zx hmS
   have hw:IntKind.i64.wrap ((m:Int) + 1)=((m + 1:Nat):Int):=by rw [Zo (by omega) (by omega)]; omega
   have hfm:=hff (S.getD m 0)
   have hip:=hit _ hmem
   have hmeas:S.length - (IntKind.i64.wrap ((m:Int) + 1)).toNat < S.length - m:=by
    rw [hw,Int.toNat_natCast]
    omega
   have hlen1:(dec e1).length≤m:=by
    rw [hmd]
    exact Nat.le_trans (List.length_filter_le _ _) (Nat.le_trans (List.length_filterMap_le _ _) (List.length_take_le _ _))
   have hnone:ff (S.getD m 0)=none→((S.take (m + 1)).filterMap ff).filter ov=dec e1:=fun hf=>by
    rw [htake,List.filterMap_append]
    simp only [List.filterMap_cons,hf,List.filterMap_nil,List.append_nil]
    exact hmd.symm
   have hsome:∀ f,ff (S.getD m 0)=some f→((S.take (m + 1)).filterMap ff).filter ov=if ov f=true then dec e1++[f] else dec e1:=fun f hf=>by
    rw [htake,List.filterMap_append]
    simp only [List.filterMap_cons,hf,List.filterMap_nil]
    rw [List.filter_append,← hmd]
    by_cases hov:ov f=true
    ·rw [if_pos hov,List.filter_cons_of_pos hov,List.filter_nil]
    ·rw [if_neg hov,List.filter_cons_of_neg hov,List.filter_nil,List.append_nil]
   refine ⟨by omega,hpp _ hmem,fun hz=>⟨hip.1,hip.2,fun hbl=>⟨?_,⟨m + 1,hw,by omega,?_⟩,hmeas⟩,fun hbl=>⟨⟨m + 1,hw,by omega,?_,hmc⟩,hmeas⟩⟩,fun hz=>⟨⟨m + 1,hw,by omega,?_,hmc⟩,hmeas⟩⟩
   ·rw [List.length_append,List.length_singleton]
    omega
   ·rw [if_pos hz] at hfm
    rw [hsome _ hfm,if_pos]
    refine (hov _).2 ?_
    simp only [Zig,TX.sat,XB.prop,X.den,Z1gw,Z1gx,Z1gq,Z1gr,Z1gu,Z1gv,Z1gs,Z1gt,mkS,mkP,and_true,true_and,Z1h1,Z1h2,not_or,not_and,Z1gy,ne_eq,Z1gz,Z1h0]
    exact ⟨hbl.1,.inr hbl.2⟩
   ·rw [if_pos hz] at hfm
    rw [hsome _ hfm,if_neg]
    intro h5
    have h6:=(hov _).1 h5
    simp only [Zig,TX.sat,XB.prop,X.den,Z1gw,Z1gx,Z1gq,Z1gr,Z1gu,Z1gv,Z1gs,Z1gt,mkS,mkP,and_true,true_and,Z1h1,Z1h2,not_or,not_and,Z1gy,ne_eq,Z1gz,Z1h0] at h6
    exact absurd (h6.2.resolve_left h0) (Int.not_lt.2 (hbl h6.1))
   ·rw [if_neg hz] at hfm
    rw [hnone hfm]
  ·have hmm:m=S.length:=by omega
   rw [hmm,List.take_length,hF,hOv] at hmd
   have he1:e1=cod (Z87 l F):=by rw [← hmc,hmd]
   subst he1
   have hol:(Z87 l F).length≤100000:=Nat.le_trans (List.length_filter_le _ _) hFl
   simp only [hC,Z4,TX.sat,XB.prop,X.den,Z1gw,Z1gx,Z1gq,Z1gr,Z1gu,Z1gv,Z1gs,Z1gt,mkS,mkP,and_true,true_and,Z1h1,Z1h2,not_or,not_and,Z1gy,ne_eq,Z1gz,Z1h0]
   obtain ⟨B,hB⟩:∃ B,B=Zi0 l (Z87 l F):=⟨_,rfl⟩
   have hBm:∀ f ∈ B,f ∈ F:=fun f hf=>by
    rw [hB] at hf
    exact (List.mem_filter.1 ((Z8d l (Z87 l F)).mem_iff.1 hf)).1
   have hBl:B.length≤100000:=by rw [hB,(Z8d l (Z87 l F)).length_eq]; exact hol
   rw [← hB]
   refine ⟨by omega,hcp _ fun f hf=>(hFv f (List.mem_filter.1 hf).1).2,⟨fun xs=>∃ m:Nat,xs.getD 0 0=(m:Int)∧m≤B.length∧[xs.getD 1 0,xs.getD 2 0,xs.getD 3 0,xs.getD 4 0]=(B.take m).foldl (Zsb l T) [q0,q1,q2,q3]∧Zr (ivs 4 0 255) [xs.getD 1 0,xs.getD 2 0,xs.getD 3 0,xs.getD 4 0],fun xs=>B.length - (xs.getD 0 0).toNat,fun xs hx _=>Zy (n:=5) hx,⟨0,rfl,by omega,rfl,hqv⟩,?_⟩⟩
   intro zs2 hz hK
   obtain ⟨d0,d1,d2,d3,d4,rfl⟩:=len5 hz
   obtain ⟨n,hn,hnl,hnd,hnv⟩:=hK
   simp only [TX.sat,XB.prop,X.den,Z1gw,Z1gx,Z1gq,Z1gr,Z1gu,Z1gv,Z1gs,Z1gt,mkS,mkP,and_true,true_and,Z1h1,Z1h2,not_or,not_and,Z1gy,ne_eq,Z1gz,Z1h0] at hn hnd hnv ⊢
   subst hn
   have hcB:∀ j,co (cod B) j=B.getD j 0:=fun j=>Zig _ _
   simp only [Int.toNat_natCast,hcB,show Int.toNat 0=0 from rfl,show Int.toNat 1=1 from rfl,show Int.toNat 2=2 from rfl,show Int.toNat 3=3 from rfl,show Int.toNat 4=4 from rfl,show Int.toNat 5=5 from rfl,show Int.toNat 6=6 from rfl,show Int.toNat 7=7 from rfl,show Int.toNat 8=8 from rfl,show Int.toNat 9=9 from rfl,show Int.toNat 10=10 from rfl,show Int.toNat 11=11 from rfl,show Int.toNat 12=12 from rfl,show Int.toNat 13=13 from rfl,show Int.toNat 14=14 from rfl,show Int.toNat 15=15 from rfl,show Int.toNat 16=16 from rfl,show Int.toNat 17=17 from rfl,show Int.toNat 18=18 from rfl,show Int.toNat 19=19 from rfl,show Int.toNat 20=20 from rfl]
   simp only [hP,hO,Z9c,TX.sat,XB.prop,X.den,Z1gw,Z1gx,Z1gq,Z1gr,Z1gu,Z1gv,Z1gs,Z1gt,mkS,mkP,and_true,true_and,Z1h1,Z1h2,not_or,not_and,Z1gy,ne_eq,Z1gz,Z1h0]
   refine ⟨fun hge=>?_,fun hlt=>?_⟩
   ·have:n=B.length:=by omega
    rw [this,List.take_length] at hnd
    rw [hR,Zzp,hgr,← hB,← hnd]
    rfl
   ·have hnB:n < B.length:=by omega
    have htake:B.take (n + 1)=B.take n++[B.getD n 0]:=by
     rw [List.take_succ_eq_append_getElem hnB]
     rw [show B.getD n 0=B[n] by simp [List.getD,hnB]]
    have hmem:=hFv _ (hBm _ (Zx hnB))
    have hw:IntKind.i64.wrap ((n:Int) + 1)=((n + 1:Nat):Int):=by rw [Zo (by omega) (by omega)]; omega
    have hpt:=hpn _ _ _ _ _ _ hmem.1 hmem.2.1 hmem.2.2
    refine ⟨by omega,hpt.1,Zw hpt.2 hnv,⟨n + 1,hw,by omega,?_,Z1 (Z49 _) (Z1 (Z49 _) (Z1 (Z49 _) (Z1 (Z49 _) Z2)))⟩,?_⟩
    ·rw [htake,List.foldl_append,← hnd]
     rfl
    ·rw [hw,Int.toNat_natCast]
     omega
 ·-- none
  have hqv:=hgv
  have hgr:Z5d l T F [g0,g1,g2,g3]=[g0,g1,g2,g3]:=by
   unfold Z5d
   rw [hW,if_pos (show [w0,w1,w2,w3,w4,w5,w6].getD 6 0=0 from h6)]
  refine ⟨fun xs=>∃ m:Nat,xs.getD 0 0=(m:Int)∧m≤S.length∧dec (xs.getD 1 0)=((S.take m).filterMap ff).filter ov∧cod (dec (xs.getD 1 0))=xs.getD 1 0,fun xs=>S.length - (xs.getD 0 0).toNat,fun xs hx _=>Zy (n:=2) hx,⟨0,rfl,by omega,Z29,by simp [Z4]⟩,?_⟩
  intro ys hy hJ
  obtain ⟨e0,e1,rfl⟩:=Zdu hy
  obtain ⟨m,hm,hml,hmd,hmc⟩:=hJ
  simp only [TX.sat,XB.prop,X.den,Z1gw,Z1gx,Z1gq,Z1gr,Z1gu,Z1gv,Z1gs,Z1gt,mkS,mkP,and_true,true_and,Z1h1,Z1h2,not_or,not_and,Z1gy,ne_eq,Z1gz,Z1h0] at hm hmd hmc ⊢
  subst hm
  simp only [Int.toNat_natCast,hcS,show Int.toNat 0=0 from rfl,show Int.toNat 1=1 from rfl,show Int.toNat 2=2 from rfl,show Int.toNat 3=3 from rfl,show Int.toNat 4=4 from rfl,show Int.toNat 5=5 from rfl,show Int.toNat 6=6 from rfl,show Int.toNat 7=7 from rfl,show Int.toNat 8=8 from rfl,show Int.toNat 9=9 from rfl,show Int.toNat 10=10 from rfl,show Int.toNat 11=11 from rfl,show Int.toNat 12=12 from rfl,show Int.toNat 13=13 from rfl,show Int.toNat 14=14 from rfl,show Int.toNat 15=15 from rfl,show Int.toNat 16=16 from rfl,show Int.toNat 17=17 from rfl,show Int.toNat 18=18 from rfl,show Int.toNat 19=19 from rfl,show Int.toNat 20=20 from rfl]
  simp only [hat,TX.sat,XB.prop,X.den,Z1gw,Z1gx,Z1gq,Z1gr,Z1gu,Z1gv,Z1gs,Z1gt,mkS,mkP,and_true,true_and,Z1h1,Z1h2,not_or,not_and,Z1gy,ne_eq,Z1gz,Z1h0,Z4]
  refine ⟨fun hlt1=>?_,fun hge1=>?_⟩
  ·have hmS:m < S.length:=by omega
   have htake:S.take (m + 1)=S.take m++[S.getD m 0]:=by
    rw [List.take_succ_eq_append_getElem hmS]
    rw [show S.getD m 0=S[m] by simp [List.getD,hmS]]
   have hmem:S.getD m 0 ∈ S:=Zx hmS
   have hw:IntKind.i64.wrap ((m:Int) + 1)=((m + 1:Nat):Int):=by rw [Zo (by omega) (by omega)]; omega
   have hfm:=hff (S.getD m 0)
   have hip:=hit _ hmem
   have hmeas:S.length - (IntKind.i64.wrap ((m:Int) + 1)).toNat < S.length - m:=by
    rw [hw,Int.toNat_natCast]
    omega
   have hlen1:(dec e1).length≤m:=by
    rw [hmd]
    exact Nat.le_trans (List.length_filter_le _ _) (Nat.le_trans (List.length_filterMap_le _ _) (List.length_take_le _ _))
   have hnone:ff (S.getD m 0)=none→((S.take (m + 1)).filterMap ff).filter ov=dec e1:=fun hf=>by
    rw [htake,List.filterMap_append]
    simp only [List.filterMap_cons,hf,List.filterMap_nil,List.append_nil]
    exact hmd.symm
   have hsome:∀ f,ff (S.getD m 0)=some f→((S.take (m + 1)).filterMap ff).filter ov=if ov f=true then dec e1++[f] else dec e1:=fun f hf=>by
    rw [htake,List.filterMap_append]
    simp only [List.filterMap_cons,hf,List.filterMap_nil]
    rw [List.filter_append,← hmd]
    by_cases hov:ov f=true
    ·rw [if_pos hov,List.filter_cons_of_pos hov,List.filter_nil]
    ·rw [if_neg hov,List.filter_cons_of_neg hov,List.filter_nil,List.append_nil]
   refine ⟨by omega,hpp _ hmem,fun hz=>⟨hip.1,hip.2,fun hbl=>⟨?_,⟨m + 1,hw,by omega,?_⟩,hmeas⟩,fun hbl=>⟨⟨m + 1,hw,by omega,?_,hmc⟩,hmeas⟩⟩,fun hz=>⟨⟨m + 1,hw,by omega,?_,hmc⟩,hmeas⟩⟩
   ·rw [List.length_append,List.length_singleton]
    omega
   ·rw [if_pos hz] at hfm
    rw [hsome _ hfm,if_pos]
    refine (hov _).2 ?_
    simp only [Zig,TX.sat,XB.prop,X.den,Z1gw,Z1gx,Z1gq,Z1gr,Z1gu,Z1gv,Z1gs,Z1gt,mkS,mkP,and_true,true_and,Z1h1,Z1h2,not_or,not_and,Z1gy,ne_eq,Z1gz,Z1h0]
    exact ⟨hbl,.inl h6⟩
   ·rw [if_pos hz] at hfm
    rw [hsome _ hfm,if_neg]
    intro h5
    have h7:=(hov _).1 h5
    simp only [Zig,TX.sat,XB.prop,X.den,Z1gw,Z1gx,Z1gq,Z1gr,Z1gu,Z1gv,Z1gs,Z1gt,mkS,mkP,and_true,true_and,Z1h1,Z1h2,not_or,not_and,Z1gy,ne_eq,Z1gz,Z1h0] at h7
    exact h7.1 hbl
   ·rw [if_neg hz] at hfm
    rw [hnone hfm]
  ·have hmm:m=S.length:=by omega
   rw [hmm,List.take_length,hF,hOv] at hmd
   have he1:e1=cod (Z87 l F):=by rw [← hmc,hmd]
   subst he1
   have hol:(Z87 l F).length≤100000:=Nat.le_trans (List.length_filter_le _ _) hFl
   simp only [hC,Z4,TX.sat,XB.prop,X.den,Z1gw,Z1gx,Z1gq,Z1gr,Z1gu,Z1gv,Z1gs,Z1gt,mkS,mkP,and_true,true_and,Z1h1,Z1h2,not_or,not_and,Z1gy,ne_eq,Z1gz,Z1h0]
   obtain ⟨B,hB⟩:∃ B,B=Zi0 l (Z87 l F):=⟨_,rfl⟩
   have hBm:∀ f ∈ B,f ∈ F:=fun f hf=>by
    rw [hB] at hf
    exact (List.mem_filter.1 ((Z8d l (Z87 l F)).mem_iff.1 hf)).1
   have hBl:B.length≤100000:=by rw [hB,(Z8d l (Z87 l F)).length_eq]; exact hol
   rw [← hB]
   refine ⟨by omega,hcp _ fun f hf=>(hFv f (List.mem_filter.1 hf).1).2,⟨fun xs=>∃ m:Nat,xs.getD 0 0=(m:Int)∧m≤B.length∧[xs.getD 1 0,xs.getD 2 0,xs.getD 3 0,xs.getD 4 0]=(B.take m).foldl (Zsb l T) [g0,g1,g2,g3]∧Zr (ivs 4 0 255) [xs.getD 1 0,xs.getD 2 0,xs.getD 3 0,xs.getD 4 0],fun xs=>B.length - (xs.getD 0 0).toNat,fun xs hx _=>Zy (n:=5) hx,⟨0,rfl,by omega,rfl,hqv⟩,?_⟩⟩
   intro zs2 hz hK
   obtain ⟨d0,d1,d2,d3,d4,rfl⟩:=len5 hz
   obtain ⟨n,hn,hnl,hnd,hnv⟩:=hK
   simp only [TX.sat,XB.prop,X.den,Z1gw,Z1gx,Z1gq,Z1gr,Z1gu,Z1gv,Z1gs,Z1gt,mkS,mkP,and_true,true_and,Z1h1,Z1h2,not_or,not_and,Z1gy,ne_eq,Z1gz,Z1h0] at hn hnd hnv ⊢
   subst hn
   have hcB:∀ j,co (cod B) j=B.getD j 0:=fun j=>Zig _ _
   simp only [Int.toNat_natCast,hcB,show Int.toNat 0=0 from rfl,show Int.toNat 1=1 from rfl,show Int.toNat 2=2 from rfl,show Int.toNat 3=3 from rfl,show Int.toNat 4=4 from rfl,show Int.toNat 5=5 from rfl,show Int.toNat 6=6 from rfl,show Int.toNat 7=7 from rfl,show Int.toNat 8=8 from rfl,show Int.toNat 9=9 from rfl,show Int.toNat 10=10 from rfl,show Int.toNat 11=11 from rfl,show Int.toNat 12=12 from rfl,show Int.toNat 13=13 from rfl,show Int.toNat 14=14 from rfl,show Int.toNat 15=15 from rfl,show Int.toNat 16=16 from rfl,show Int.toNat 17=17 from rfl,show Int.toNat 18=18 from rfl,show Int.toNat 19=19 from rfl,show Int.toNat 20=20 from rfl]
   simp only [hP,hO,Z9c,TX.sat,XB.prop,X.den,Z1gw,Z1gx,Z1gq,Z1gr,Z1gu,Z1gv,Z1gs,Z1gt,mkS,mkP,and_true,true_and,Z1h1,Z1h2,not_or,not_and,Z1gy,ne_eq,Z1gz,Z1h0]
   refine ⟨fun hge=>?_,fun hlt=>?_⟩
   ·have:n=B.length:=by omega
    rw [this,List.take_length] at hnd
    rw [hR,Zzp,hgr,← hB,← hnd]
    rfl
   ·have hnB:n < B.length:=by omega
    have htake:B.take (n + 1)=B.take n++[B.getD n 0]:=by
     rw [List.take_succ_eq_append_getElem hnB]
     rw [show B.getD n 0=B[n] by simp [List.getD,hnB]]
    have hmem:=hFv _ (hBm _ (Zx hnB))
    have hw:IntKind.i64.wrap ((n:Int) + 1)=((n + 1:Nat):Int):=by rw [Zo (by omega) (by omega)]; omega
    have hpt:=hpn _ _ _ _ _ _ hmem.1 hmem.2.1 hmem.2.2
    refine ⟨by omega,hpt.1,Zw hpt.2 hnv,⟨n + 1,hw,by omega,?_,Z1 (Z49 _) (Z1 (Z49 _) (Z1 (Z49 _) (Z1 (Z49 _) Z2)))⟩,?_⟩
    ·rw [htake,List.foldl_append,← hnd]
     rfl
    ·rw [hw,Int.toNat_natCast]
     omega
set_option maxHeartbeats 2000000 in
theorem Z1g7:Zp6.ok Tryz.prog:=Sum.okPF (pin:=Zls) facts.mixed g_colS o_colS Z14t rfl (fun _=>rfl) (fun xs h=>h.1) (by
 intro xs hx hp
 obtain ⟨I,T,S,g0,g1,g2,g3,x,y,rfl⟩:=len9 hx
 obtain ⟨hv,⟨hs,hp⟩,hr,hT⟩:=hp
 replace hs:(dec S).length≤100000:=hs
 replace hp:∀ p ∈ dec S,Zr (zs 21) (Zs6 p)∧0≤co p 16∧co p 16 < ((dec I).length:Int):=hp
 replace hr:Z3o (dec I) (dec T):=hr
 replace hT:Zc4 (dec T):=hT
 obtain ⟨w0,w1,w2,w3,w4,w5,w6,hw⟩:=len7 (Zw8 (l:=dec I) ((dec S).filterMap (Z1y x y)) Zll rfl)
 have hws:Zjj.sem [I,T,S,x,y]=[w0,w1,w2,w3,w4,w5,w6]:=by
  show ex7 (((dec S).filterMap (Z1y x y)).foldl (Z15 (dec I)) Zll)=_
  rw [hw]
  rfl
 exact Z1a8 I T S g0 g1 g2 g3 x y w0 w1 w2 w3 w4 w5 w6 (dec I) (dec T) (dec S) _ (fun p=>atL (Z1c p++[x,y])) _ (Z1y x y) rfl rfl rfl hs (fun p=>rfl) (fun p hm=>Zm8 (hp p hm).1 (hv.2 7) (hv.2 8)) (fun p=>rfl)
  (fun p hm=>(hp p hm).2) rfl (fun f hf=>⟨Zf0 (hv.2 7) (hv.2 8) (fun p hm=>(hp p hm).1) f hf,Zw9 (fun p hm=>(hp p hm).2) f hf⟩) hws ⟨Z1 trivial (Z1 trivial (Z1 trivial (Z1 (hv.2 7) (Z1 (hv.2 8) Z2)))),hs,hp⟩ hw
  (fun f0 f1 f2 f3 f4 f5=>by
   show Z4e _=_
   unfold Z4e
   simp only [TX.sat,XB.prop,X.den,Z1gw,Z1gx,Z1gq,Z1gr,Z1gu,Z1gv,Z1gs,Z1gt,mkS,mkP,and_true,true_and,Z1h1,Z1h2,not_or,not_and,Z1gy,ne_eq,Z1gz,Z1h0]) (fun f0 f1 f2 f3 f4 f5 h h0 h1=>⟨⟨Z1 trivial (Z1 trivial (Z1 trivial h)),hr,hT,h0,h1⟩,Zpk hr hT h h0 h1⟩)
  (fun _=>rfl) (fun _=>rfl) (fun L hL f hf=>by
   have hf':f ∈ dec (cod L):=hf
   rw [Z4] at hf'
   exact hL f hf') (Z1 (hv.2 3) (Z1 (hv.2 4) (Z1 (hv.2 5) (Z1 (hv.2 6) Z2)))) rfl)
theorem Z14u {I T:List Int}:∀ (L g:List Int),Zr (ivs 4 0 255) g→Zr (ivs 4 0 255) (L.foldl (Zsb I T) g)
 | [],g,h=>h
 | f::L,g,h=>by
  rw [List.foldl_cons]
  exact Z14u L _ (Z1 (Z49 _) (Z1 (Z49 _) (Z1 (Z49 _) (Z1 (Z49 _) Z2))))
end Go.Proofs.YtgcoidbaoigkeaaGreatDoor.fix
namespace Go.Proofs.YtgcoidbaoigkeaaGreatDoor.fix
open Go.RowKit Go.Sx
theorem Z1a9:Z18 Zp6 Z1c9:=⟨fun xs h=>(Z14 xs h).elim,fun vs xs h hp=>by
 have hlen:=hp.1.1
 obtain ⟨I,T,S,g0,g1,g2,g3,x,y,rfl⟩:=len9 (hlen.symm.trans rfl)
 obtain ⟨hv,⟨hs,hp⟩,hr,hT⟩:=hp
 replace hs:(dec S).length≤100000:=hs
 replace hp:∀ p ∈ dec S,Zr (zs 21) (Zs6 p)∧0≤co p 16∧co p 16 < ((dec I).length:Int):=hp
 replace hr:Z3o (dec I) (dec T):=hr
 replace hT:Zc4 (dec T):=hT
 have hg:Zr (ivs 4 0 255) (Z5d (dec I) (dec T) ((dec S).filterMap (Z1y x y)) [g0,g1,g2,g3]):=by
  unfold Z5d
  split
  ·exact Z1 (hv.2 3) (Z1 (hv.2 4) (Z1 (hv.2 5) (Z1 (hv.2 6) Z2)))
  ·rename_i h6
   rcases Zm9 (l:=dec I) ((dec S).filterMap (Z1y x y)) Zll with h | ⟨f,hfF,hfe⟩
   ·exact absurd (show (Zv7 (dec I) ((dec S).filterMap (Z1y x y))).getD 6 0=0 by unfold Zv7; rw [h]; rfl) h6
   ·have hf6:=Zf0 (hv.2 7) (hv.2 8) (fun p hm=>(hp p hm).1) f hfF
    have hfi:=Zw9 (fun p hm=>(hp p hm).2) f hfF
    unfold Zha Zv7
    rw [hfe]
    simp only [Zig,TX.sat,XB.prop,X.den,Z1gw,Z1gx,Z1gq,Z1gr,Z1gu,Z1gv,Z1gs,Z1gt,mkS,mkP,and_true,true_and,Z1h1,Z1h2,not_or,not_and,Z1gy,ne_eq,Z1gz,Z1h0,List.take_succ_cons,List.take_zero]
    exact Zpk hr hT hf6 hfi.1 hfi.2
 have:=Z14u (I:=dec I) (T:=dec T) (Zi0 (dec I) (Z87 (dec I) ((dec S).filterMap (Z1y x y)))) _ hg
 exact Z1 (this.2 0) (Z1 (this.2 1) (Z1 (this.2 2) (Z1 (this.2 3) Z2)))⟩
noncomputable def pixE (x:List Int):Int:=frE (x.getD 0 0::x.getD 1 0::((x.drop 2).take 16++[x.getD 22 0,x.getD 23 0]))
noncomputable def Z4y (x:List Int):List Int:=if pixE x=0 then ex4 (Zzp (dec (x.getD 0 0)) (dec (x.getD 1 0)) (Z36 (dec (x.getD 0 0)) ((x.drop 2).take 16) (x.getD 22 0) (x.getD 23 0)) [x.getD 18 0,x.getD 19 0,x.getD 20 0,x.getD 21 0])++[0] else [0,0,0,0,pixE x]
def Zhl:List (Option Iv):=[none,none]++zs 16++ivs 4 0 255++[zz,zz]
def Z14v (x:List Int):Prop:=Zr Zhl x∧Z3o (dec (x.getD 0 0)) (dec (x.getD 1 0))∧Zc4 (dec (x.getD 1 0))
def Z14w (v:List (Option Iv)):List (Option Iv):=[none,none,none,none,none]
noncomputable def Z6t:Sum:=mkP gl0 14 [Sho,An 16,Cl,I1,I1] [Cl,I1] Z14v Z4y
def Z14x:Inf:=⟨[some ⟨1,0⟩],Z14w⟩
end Go.Proofs.YtgcoidbaoigkeaaGreatDoor.fix
namespace Go.Proofs.YtgcoidbaoigkeaaGreatDoor.fix
open Go.RowKit Go.Sx
noncomputable def Zhm:List Sum:=[Z48,Z32,Z6q,Zp6]
def Z14y:List Inf:=[Zlh,Zbg,Zs0,Z1c9]
def Zsp:TX:=(.call 0 [(.v 0),(.v 1)] (.ite (.not (.eq (.v 24) (.c 0))) (.ret [(.c 0),(.c 0),(.c 0),(.c 0),(.v 24)])
(.callp 1 [(.v 2),(.v 3),(.v 4),(.v 5),(.v 6),(.v 7),(.v 8),(.v 9),(.v 10),(.v 11),(.v 12),(.v 13),(.v 14),(.v 15),(.v 16),(.v 17)] (.ite (.not (.eq (.v 25) (.c 0))) (.ret [(.c 0),(.c 0),(.c 0),(.c 0),(.v 25)])
(.ite (.or (.or (.or (.lt (.v 22) (.c 0)) (.le (.v 16) (.v 22))) (.lt (.v 23) (.c 0))) (.le (.v 17) (.v 23))) (.ret [(.c 0),(.c 0),(.c 0),(.c 0),(.c 2)])
(.loop 2 [none,none] [(.c 0),.nl] (.ite (.lt (.v 26) (.ln (.v 0))) (.asrt (.le (.c 0) (.v 26)) (.loop 2 [none,none] [(.c 0),(.v 27)] (.ite (.lt (.v 28) (.ln (.l2 .at (.l2 .at (.l2 .at (.v 0) (.v 26)) (.c 2)) (.c 4)))) (.call 2 [(.v 0),(.v 1),(.v 2),(.v 3),(.v 4),(.v 5),(.v 6),(.v 7),(.v 8),(.v 9),(.v 10),(.v 11),(.v 12),(.v 13),(.v 14),(.v 15),(.v 16),(.v 17),(.v 26),(.v 28)] (.loop 2 [none,none] [(.c 0),(.v 29)] (.ite (.lt (.v 31) (.ln (.v 30))) (.asrt (.le (.c 0) (.v 31)) (.asrt (.le (.ln (.l2 .snoc (.v 32) (.l2 .cons (.l2 .at (.l2 .at (.v 30) (.v 31)) (.c 0)) (.l2 .cons (.l2 .at (.l2 .at (.v 30) (.v 31)) (.c 1)) (.l2 .cons (.l2 .at (.l2 .at (.v 30) (.v 31)) (.c 2)) (.l2 .cons (.l2 .at (.l2 .at (.v 30) (.v 31)) (.c 3)) (.l2 .cons (.l2 .at (.l2 .at (.v 30) (.v 31)) (.c 4)) (.l2 .cons (.l2 .at (.l2 .at (.v 30) (.v 31)) (.c 5)) (.l2 .cons (.l2 .at (.l2 .at (.v 30) (.v 31)) (.c 6)) (.l2 .cons (.l2 .at (.l2 .at (.v 30) (.v 31)) (.c 7)) (.l2 .cons (.l2 .at (.l2 .at (.v 30) (.v 31)) (.c 8)) (.l2 .cons (.l2 .at (.l2 .at (.v 30) (.v 31)) (.c 9)) (.l2 .cons (.l2 .at (.l2 .at (.v 30) (.v 31)) (.c 10)) (.l2 .cons (.l2 .at (.l2 .at (.v 30) (.v 31)) (.c 11)) (.l2 .cons (.l2 .at (.l2 .at (.v 30) (.v 31)) (.c 12)) (.l2 .cons (.l2 .at (.l2 .at (.v 30) (.v 31)) (.c 13)) (.l2 .cons (.l2 .at (.l2 .at (.v 30) (.v 31)) (.c 14)) (.l2 .cons (.l2 .at (.l2 .at (.v 0) (.v 26)) (.c 9)) (.l2 .cons (.v 26) (.l2 .cons (.v 28) (.l2 .cons (.v 31) (.l2 .cons (.c 0) (.l2 .cons (.c 0) .nl))))))))))))))))))))))) (.c 1000000)) (.back 2 [(.wr .i64 (.add (.v 31) (.c 1))),(.l2 .snoc (.v 32) (.l2 .cons (.l2 .at (.l2 .at (.v 30) (.v 31)) (.c 0)) (.l2 .cons (.l2 .at (.l2 .at (.v 30) (.v 31)) (.c 1)) (.l2 .cons (.l2 .at (.l2 .at (.v 30) (.v 31)) (.c 2)) (.l2 .cons (.l2 .at (.l2 .at (.v 30) (.v 31)) (.c 3)) (.l2 .cons (.l2 .at (.l2 .at (.v 30) (.v 31)) (.c 4)) (.l2 .cons (.l2 .at (.l2 .at (.v 30) (.v 31)) (.c 5)) (.l2 .cons (.l2 .at (.l2 .at (.v 30) (.v 31)) (.c 6)) (.l2 .cons (.l2 .at (.l2 .at (.v 30) (.v 31)) (.c 7)) (.l2 .cons (.l2 .at (.l2 .at (.v 30) (.v 31)) (.c 8)) (.l2 .cons (.l2 .at (.l2 .at (.v 30) (.v 31)) (.c 9)) (.l2 .cons (.l2 .at (.l2 .at (.v 30) (.v 31)) (.c 10)) (.l2 .cons (.l2 .at (.l2 .at (.v 30) (.v 31)) (.c 11)) (.l2 .cons (.l2 .at (.l2 .at (.v 30) (.v 31)) (.c 12)) (.l2 .cons (.l2 .at (.l2 .at (.v 30) (.v 31)) (.c 13)) (.l2 .cons (.l2 .at (.l2 .at (.v 30) (.v 31)) (.c 14)) (.l2 .cons (.l2 .at (.l2 .at (.v 0) (.v 26)) (.c 9)) (.l2 .cons (.v 26) (.l2 .cons (.v 28) (.l2 .cons (.v 31) (.l2 .cons (.c 0) (.l2 .cons (.c 0) .nl))))))))))))))))))))))])))
(.back 1 [(.wr .i64 (.add (.v 28) (.c 1))),(.v 32)]))))
(.back 0 [(.wr .i64 (.add (.v 26) (.c 1))),(.v 29)]))))
(.call 3 [(.v 0),(.v 1),(.v 27),(.v 18),(.v 19),(.v 20),(.v 21),(.v 22),(.v 23)] (.ret [(.v 28),(.v 29),(.v 30),(.v 31),(.c 0)])))))))))
theorem Zyy:Z13 (Zs [] Z14y [] Zhl (Zn Tryz.prog (Zh5 Tryz.prog [(3,17),(6,25),(9,34)]) gl0 Zhm 1000 14 [Sho,An 16,Cl,I1,I1] [Cl,I1]))=Zsp:=by kernel_rfl
theorem Z1g8:Gok Tryz.prog Zhm:=(more Zhg (more Zbr (more Zm0 (fix.one Z1g7))))
theorem Z1g9:Zi Zhm Z14y:=(Z3 Zdi (Z3 Z94 (Z3 Zpd (Z3 Z1a9 Z6))))
set_option maxHeartbeats 2000000 in
theorem Z14z (I0 T0 c0 c1 c2 c3 c4 c5 c6 c7 c8 c9 c10 c11 c12 c13 c14 c15 g0 g1 g2 g3 x y E0 E1 q0 q1 q2 q3:Int) (l S:List Int) (pt:Nat→Nat→List Int) (R:List Int) (hl:dec I0=l)
  (hE0:Z48.sem [I0,T0]=[E0]) (hp0:Z48.pre [I0,T0]) (hE1:Z32.sem [c0,c1,c2,c3,c4,c5,c6,c7,c8,c9,c10,c11,c12,c13,c14,c15]=[E1])
  (hps:E0=0→E1=0→∀ i k:Nat,i < l.length→k < (Z1t (l.getD i 0)).length→Z6q.pre [I0,T0,c0,c1,c2,c3,c4,c5,c6,c7,c8,c9,c10,c11,c12,c13,c14,c15,(i:Int),(k:Int)])
  (hpt:∀ i k:Nat,Z6q.sem [I0,T0,c0,c1,c2,c3,c4,c5,c6,c7,c8,c9,c10,c11,c12,c13,c14,c15,(i:Int),(k:Int)]=[cod (pt i k)])
  (h6:∀ i k,(pt i k).length≤6) (h64:E0=0→l.length≤256∧∀ i,i < l.length→(Z1t (l.getD i 0)).length≤64)
  (hS:Z3p l pt l.length=S) (hcp:E0=0→E1=0→Zp6.pre [I0,T0,cod S,g0,g1,g2,g3,x,y]) (hcs:Zp6.sem [I0,T0,cod S,g0,g1,g2,g3,x,y]=[q0,q1,q2,q3])
  (hR0:¬ E0=0→R=[0,0,0,0,E0]) (hR1:E0=0→¬ E1=0→R=[0,0,0,0,E1]) (hR2:E0=0→E1=0→¬ (0≤x∧x < c14∧0≤y∧y < c15)→R=[0,0,0,0,2])
  (hR3:E0=0→E1=0→(0≤x∧x < c14∧0≤y∧y < c15)→R=[q0,q1,q2,q3,0]) :
  Zsp.sat Zhm [] (fun ys=>ys=R) [] [I0,T0,c0,c1,c2,c3,c4,c5,c6,c7,c8,c9,c10,c11,c12,c13,c14,c15,g0,g1,g2,g3,x,y]:=by
 unfold Zsp Zhm
 simp only [TX.sat,XB.prop]
 simp only [X.den,L2.den,TX.sat,XB.prop,X.den,Z1gw,Z1gx,Z1gq,Z1gr,Z1gu,Z1gv,Z1gs,Z1gt,mkS,mkP,and_true,true_and,Z1h1,Z1h2,not_or,not_and,Z1gy,ne_eq,Z1gz,Z1h0]
 have hco:∀ x j,(dec x).getD j 0=co x j:=fun _ _=>rfl
 have hT:∀ b,dec (co (co b 2) 4)=Z1t b:=fun _=>rfl
 simp only [hl,hco,hT,hE0,hE1,TX.sat,XB.prop,X.den,Z1gw,Z1gx,Z1gq,Z1gr,Z1gu,Z1gv,Z1gs,Z1gt,mkS,mkP,and_true,true_and,Z1h1,Z1h2,not_or,not_and,Z1gy,ne_eq,Z1gz,Z1h0]
 refine ⟨hp0,fun h0=>?_,fun h0=>⟨fun h1=>?_,fun h1=>⟨fun h2=>?_,fun h2=>?_⟩⟩⟩
 ·exact (hR0 h0).symm
 ·exact (hR1 h0 h1).symm
 ·exact (hR2 h0 h1 (by omega)).symm
 refine ⟨fun xs=>∃ i:Nat,xs.getD 0 0=(i:Int)∧i≤l.length∧dec (xs.getD 1 0)=Z3p l pt i∧cod (dec (xs.getD 1 0))=xs.getD 1 0,fun xs=>l.length - (xs.getD 0 0).toNat,fun xs hx _=>Zy (n:=2) hx,⟨0,rfl,by omega,Z29,by simp [Z4]⟩,?_⟩
 intro xs hx hI
 obtain ⟨d0,d1,rfl⟩:=Zdu hx
 obtain ⟨i,hi,hle,hd,hcd⟩:=hI
 simp only [TX.sat,XB.prop,X.den,Z1gw,Z1gx,Z1gq,Z1gr,Z1gu,Z1gv,Z1gs,Z1gt,mkS,mkP,and_true,true_and,Z1h1,Z1h2,not_or,not_and,Z1gy,ne_eq,Z1gz,Z1h0] at hi hd hcd ⊢
 subst hi
 simp only [Int.toNat_natCast,hT,show Int.toNat 0=0 from rfl,show Int.toNat 1=1 from rfl,show Int.toNat 2=2 from rfl,show Int.toNat 3=3 from rfl,show Int.toNat 4=4 from rfl,show Int.toNat 5=5 from rfl,show Int.toNat 6=6 from rfl,show Int.toNat 7=7 from rfl,show Int.toNat 8=8 from rfl,show Int.toNat 9=9 from rfl,show Int.toNat 10=10 from rfl,show Int.toNat 11=11 from rfl,show Int.toNat 12=12 from rfl,show Int.toNat 13=13 from rfl,show Int.toNat 14=14 from rfl,show Int.toNat 15=15 from rfl,show Int.toNat 16=16 from rfl,show Int.toNat 17=17 from rfl,show Int.toNat 18=18 from rfl,show Int.toNat 19=19 from rfl,show Int.toNat 20=20 from rfl]
 obtain ⟨h256,h64'⟩:=h64 h0
 have hil:=Zce (l:=l) h6 h64' i hle
 refine ⟨fun hlt=>⟨by omega,?_⟩,fun hge=>?_⟩
 ·refine ⟨fun xs=>∃ k:Nat,xs.getD 0 0=(k:Int)∧k≤(Z1t (l.getD i 0)).length∧dec (xs.getD 1 0)=Z3p l pt i++Zjh l pt i k∧cod (dec (xs.getD 1 0))=xs.getD 1 0,fun xs=>(Z1t (l.getD i 0)).length - (xs.getD 0 0).toNat,fun xs hx _=>Zy (n:=2) hx,⟨0,rfl,by omega,by rw [Zjh,List.append_nil]; exact hd,hcd⟩,?_⟩
  intro ys hy hJ
  obtain ⟨e0,e1,rfl⟩:=Zdu hy
  obtain ⟨k,hk,hkl,hkd,hkc⟩:=hJ
  simp only [TX.sat,XB.prop,X.den,Z1gw,Z1gx,Z1gq,Z1gr,Z1gu,Z1gv,Z1gs,Z1gt,mkS,mkP,and_true,true_and,Z1h1,Z1h2,not_or,not_and,Z1gy,ne_eq,Z1gz,Z1h0] at hk hkd hkc ⊢
  subst hk
  simp only [hpt,TX.sat,XB.prop,X.den,Z1gw,Z1gx,Z1gq,Z1gr,Z1gu,Z1gv,Z1gs,Z1gt,mkS,mkP,and_true,true_and,Z1h1,Z1h2,not_or,not_and,Z1gy,ne_eq,Z1gz,Z1h0,Z4,Int.toNat_natCast]
  have hkt:=Zex (l:=l) (h6 i) k
  have ht64:=h64' i (by omega)
  refine ⟨fun hlt1=>⟨hps h0 h1 i k (by omega) (by omega),?_⟩,fun hge1=>?_⟩
  ·refine ⟨fun xs=>∃ n:Nat,xs.getD 0 0=(n:Int)∧n≤(pt i k).length∧dec (xs.getD 1 0)=Z3p l pt i++Zjh l pt i k++Z3e (l.getD i 0) i k (pt i k) n∧cod (dec (xs.getD 1 0))=xs.getD 1 0,fun xs=>(pt i k).length - (xs.getD 0 0).toNat,fun xs hx _=>Zy (n:=2) hx,⟨0,rfl,by omega,by rw [Z3e,List.append_nil]; exact hkd,hkc⟩,?_⟩
   intro zs hz hK
   obtain ⟨f0,f1,rfl⟩:=Zdu hz
   obtain ⟨n,hn,hnl,hnd,hnc⟩:=hK
   simp only [TX.sat,XB.prop,X.den,Z1gw,Z1gx,Z1gq,Z1gr,Z1gu,Z1gv,Z1gs,Z1gt,mkS,mkP,and_true,true_and,Z1h1,Z1h2,not_or,not_and,Z1gy,ne_eq,Z1gz,Z1h0] at hn hnd hnc ⊢
   subst hn
   have hcp:∀ j,co (cod (pt i k)) j=(pt i k).getD j 0:=fun j=>by rw [← hco,Z4]
   simp only [TX.sat,XB.prop,X.den,Z1gw,Z1gx,Z1gq,Z1gr,Z1gu,Z1gv,Z1gs,Z1gt,mkS,mkP,and_true,true_and,Z1h1,Z1h2,not_or,not_and,Z1gy,ne_eq,Z1gz,Z1h0,Z4,Int.toNat_natCast,hcp,show Int.toNat 0=0 from rfl,show Int.toNat 1=1 from rfl,show Int.toNat 2=2 from rfl,show Int.toNat 3=3 from rfl,show Int.toNat 4=4 from rfl,show Int.toNat 5=5 from rfl,show Int.toNat 6=6 from rfl,show Int.toNat 7=7 from rfl,show Int.toNat 8=8 from rfl,show Int.toNat 9=9 from rfl,show Int.toNat 10=10 from rfl,show Int.toNat 11=11 from rfl,show Int.toNat 12=12 from rfl,show Int.toNat 13=13 from rfl,show Int.toNat 14=14 from rfl,show Int.toNat 15=15 from rfl,show Int.toNat 16=16 from rfl,show Int.toNat 17=17 from rfl,show Int.toNat 18=18 from rfl,show Int.toNat 19=19 from rfl,show Int.toNat 20=20 from rfl]
   have h6':=h6 i k
   refine ⟨fun hlt2=>⟨by omega,?_,⟨n + 1,?_,by omega,?_⟩,?_⟩,fun hge2=>?_⟩
   ·rw [hnd,List.length_append,List.length_append,List.length_append,Zcd,List.length_singleton]
    omega
   ·rw [Zo (by omega) (by omega)]
    omega
   ·rw [hnd,Z3e,← List.append_assoc]
    rfl
   ·rw [Zo (by omega) (by omega)]
    omega
   ·have hnn:n=(pt i k).length:=by omega
    refine ⟨⟨k + 1,?_,by omega,?_,hnc⟩,?_⟩
    ·rw [Zo (by omega) (by omega)]
     omega
    ·rw [hnd,hnn,Zjh,← List.append_assoc]
    ·rw [Zo (by omega) (by omega)]
     omega
  ·have hkk:k=(Z1t (l.getD i 0)).length:=by omega
   refine ⟨⟨i + 1,?_,by omega,?_,hkc⟩,?_⟩
   ·rw [Zo (by omega) (by omega)]
    omega
   ·rw [hkd,hkk,Z3p]
   ·rw [Zo (by omega) (by omega)]
    omega
 ·have hii:i=l.length:=by omega
  rw [hii] at hd
  have hd1:d1=cod S:=by rw [← hcd,hd,hS]
  subst hd1
  refine ⟨hcp h0 h1,?_⟩
  simp only [hcs,TX.sat,XB.prop,X.den,Z1gw,Z1gx,Z1gq,Z1gr,Z1gu,Z1gv,Z1gs,Z1gt,mkS,mkP,and_true,true_and,Z1h1,Z1h2,not_or,not_and,Z1gy,ne_eq,Z1gz,Z1h0]
  exact (hR3 h0 h1 (by omega)).symm
theorem sceneP {I T:Int} {c0 c1 c2 c3 c4 c5 c6 c7 c8 c9 c10 c11 c12 c13 c14 c15:Int} (hv16:Zr (zs 16) [c0,c1,c2,c3,c4,c5,c6,c7,c8,c9,c10,c11,c12,c13,c14,c15]) (hr:Z3o (dec I) (dec T)) (h0:Z2k [I,T]=0):Zlo (dec I) (Zh8 (dec I) [c0,c1,c2,c3,c4,c5,c6,c7,c8,c9,c10,c11,c12,c13,c14,c15]):=by
 have htri:∀ i k:Nat,i < (dec I).length→k < (Z1t ((dec I).getD i 0)).length→Zr (zs 16) (c13::Zh7 [c0,c1,c2,c3,c4,c5,c6,c7,c8,c9,c10,c11,c12,c13,c14,c15] ((dec I).getD i 0) ((Z1t ((dec I).getD i 0)).getD k 0)):=by
  intro i k hi hk
  have hmem:(dec I).getD i 0 ∈ dec I:=Zx hi
  have hrb:=hr.1 _ hmem
  have hmb:=Z8a ((Z1z h0).2.2.2 _ hmem)
  have htn:=hmb.2.2.2.1 _ (Zx hk)
  simp only [Zzm,decide_eq_true_iff] at htn
  exact Zsk hv16 hrb.2.1 hrb.2.2.1 hmb.1.2.1 htn
 have h15:∀ p ∈ Z3p (dec I) (ptS (dec I) [c0,c1,c2,c3,c4,c5,c6,c7,c8,c9,c10,c11,c12,c13,c14,c15]) (dec I).length,Zr (zs 15) (Z1c p):=Zm4 (pt:=ptS (dec I) [c0,c1,c2,c3,c4,c5,c6,c7,c8,c9,c10,c11,c12,c13,c14,c15]) (fun i k hi hk q hq=>Zm3 hv16 (htri i k hi hk) hq)
 have h64:∀ i,i < (dec I).length→(Z1t ((dec I).getD i 0)).length≤64:=fun i hi=>(Z8a ((Z1z h0).2.2.2 _ (Zx hi))).1.2.2
 refine ⟨?_,fun p hp=>⟨?_,Zw4 p hp⟩⟩
 ·have:=Zce (l:=dec I) (pt:=ptS (dec I) [c0,c1,c2,c3,c4,c5,c6,c7,c8,c9,c10,c11,c12,c13,c14,c15]) (fun i k=>Z8c) h64 (dec I).length (Nat.le_refl _)
  have hl:=(Z1z h0).1
  have h2:(Zh8 (dec I) [c0,c1,c2,c3,c4,c5,c6,c7,c8,c9,c10,c11,c12,c13,c14,c15]).length≤384 * (dec I).length:=this
  omega
 ·have h1:=h15 p hp
  have hl:=(Z1z h0).1
  obtain ⟨i,k,m,hi,hk,hm,rfl⟩:=Z61 hp
  have e1:=Z8b ((dec I).getD i 0) i k m ((ptS (dec I) [c0,c1,c2,c3,c4,c5,c6,c7,c8,c9,c10,c11,c12,c13,c14,c15] i k).getD m 0)
  obtain ⟨e2,e3⟩:=Zw3 ((dec I).getD i 0) i k m ((ptS (dec I) [c0,c1,c2,c3,c4,c5,c6,c7,c8,c9,c10,c11,c12,c13,c14,c15] i k).getD m 0)
  have hk':=h64 i hi
  have hm':(ptS (dec I) [c0,c1,c2,c3,c4,c5,c6,c7,c8,c9,c10,c11,c12,c13,c14,c15] i k).length≤6:=Z8c
  have e0:co (Z7g ((dec I).getD i 0) i k m ((ptS (dec I) [c0,c1,c2,c3,c4,c5,c6,c7,c8,c9,c10,c11,c12,c13,c14,c15] i k).getD m 0)) 15=co ((dec I).getD i 0) 9:=by
   unfold Z7g
   rw [Zig]
   rfl
  have e4:co (Z7g ((dec I).getD i 0) i k m ((ptS (dec I) [c0,c1,c2,c3,c4,c5,c6,c7,c8,c9,c10,c11,c12,c13,c14,c15] i k).getD m 0)) 19=0:=by
   unfold Z7g
   rw [Zig]
   rfl
  have e5:co (Z7g ((dec I).getD i 0) i k m ((ptS (dec I) [c0,c1,c2,c3,c4,c5,c6,c7,c8,c9,c10,c11,c12,c13,c14,c15] i k).getD m 0)) 20=0:=by
   unfold Z7g
   rw [Zig]
   rfl
  have hb:=(Zm7 (hr.1 _ (Zx hi)).1).2 6
  unfold Zs6
  rw [e0,e1,e2,e3,e4,e5]
  exact Zw (vs:=zs 15) (us:=zs 6) h1 (Z1 hb (Z1 (zc _ (by omega) (by omega)) (Z1 (zc _ (by omega) (by omega)) (Z1 (zc _ (by omega) (by omega)) (Z1 (zc _ (by omega) (by omega)) (Z1 (zc _ (by omega) (by omega)) Z2))))))
theorem Z1ga (I T F:List Int) (g:List Int):∃ q0 q1 q2 q3,ex4 (Zzp I T F g)=[q0,q1,q2,q3]:=⟨_,_,_,_,rfl⟩
theorem Z150 (xs:List Int):(Z4y xs).length=Zj [Cl,I1]:=by
 unfold Z4y
 split <;> rfl
set_option maxHeartbeats 1000000 in
theorem Z1aa:Z6t.ok Tryz.prog:=Sum.okPF (pin:=Zhl) facts.mixed Z1g8 Z1g9 Zyy rfl Z150 (fun xs h=>h.1) (by
 intro xs hx hp
 obtain ⟨I,T,c0,c1,c2,c3,c4,c5,c6,c7,c8,c9,c10,c11,c12,c13,c14,c15,g0,g1,g2,g3,x,y,rfl⟩:=len24 hx
 obtain ⟨hv,hr,hT⟩:=hp
 replace hr:Z3o (dec I) (dec T):=hr
 replace hT:Zc4 (dec T):=hT
 have hv16:Zr (zs 16) [c0,c1,c2,c3,c4,c5,c6,c7,c8,c9,c10,c11,c12,c13,c14,c15]:=Z1 (hv.2 2) (Z1 (hv.2 3) (Z1 (hv.2 4) (Z1 (hv.2 5) (Z1 (hv.2 6) (Z1 (hv.2 7) (Z1 (hv.2 8) (Z1 (hv.2 9) (Z1 (hv.2 10) (Z1 (hv.2 11) (Z1 (hv.2 12) (Z1 (hv.2 13) (Z1 (hv.2 14) (Z1 (hv.2 15) (Z1 (hv.2 16) (Z1 (hv.2 17) Z2)))))))))))))))
 have hpx:pixE [I,T,c0,c1,c2,c3,c4,c5,c6,c7,c8,c9,c10,c11,c12,c13,c14,c15,g0,g1,g2,g3,x,y]=frE [I,T,c0,c1,c2,c3,c4,c5,c6,c7,c8,c9,c10,c11,c12,c13,c14,c15,x,y]:=rfl
 have hfr:∀ e,frE [I,T,c0,c1,c2,c3,c4,c5,c6,c7,c8,c9,c10,c11,c12,c13,c14,c15,x,y]=e→Z4y [I,T,c0,c1,c2,c3,c4,c5,c6,c7,c8,c9,c10,c11,c12,c13,c14,c15,g0,g1,g2,g3,x,y]=if e=0 then ex4 (Zzp (dec I) (dec T) (Z36 (dec I) [c0,c1,c2,c3,c4,c5,c6,c7,c8,c9,c10,c11,c12,c13,c14,c15] x y) [g0,g1,g2,g3])++[0] else [0,0,0,0,e]:=fun e h=>by
  unfold Z4y
  rw [hpx,h]
  simp only [TX.sat,XB.prop,X.den,Z1gw,Z1gx,Z1gq,Z1gr,Z1gu,Z1gv,Z1gs,Z1gt,mkS,mkP,and_true,true_and,Z1h1,Z1h2,not_or,not_and,Z1gy,ne_eq,Z1gz,Z1h0]
  rfl
 have hE:frE [I,T,c0,c1,c2,c3,c4,c5,c6,c7,c8,c9,c10,c11,c12,c13,c14,c15,x,y]=if Z2k [I,T]=0 then (if Z2b [c0,c1,c2,c3,c4,c5,c6,c7,c8,c9,c10,c11,c12,c13,c14,c15] 0=true then (if 0≤x∧x < c14∧0≤y∧y < c15 then 0 else 2) else 150) else Z2k [I,T]:=rfl
 have hcam:er (Z2b [c0,c1,c2,c3,c4,c5,c6,c7,c8,c9,c10,c11,c12,c13,c14,c15] 0) 150=0↔Z2b [c0,c1,c2,c3,c4,c5,c6,c7,c8,c9,c10,c11,c12,c13,c14,c15] 0=true:=Zrg _ (by decide)
 obtain ⟨q0,q1,q2,q3,hq⟩:=Z1ga (dec I) (dec T) (Z36 (dec I) [c0,c1,c2,c3,c4,c5,c6,c7,c8,c9,c10,c11,c12,c13,c14,c15] x y) [g0,g1,g2,g3]
 exact Z14z I T c0 c1 c2 c3 c4 c5 c6 c7 c8 c9 c10 c11 c12 c13 c14 c15 g0 g1 g2 g3 x y (Z2k [I,T]) (er (Z2b [c0,c1,c2,c3,c4,c5,c6,c7,c8,c9,c10,c11,c12,c13,c14,c15] 0) 150) q0 q1 q2 q3 (dec I) (Zh8 (dec I) [c0,c1,c2,c3,c4,c5,c6,c7,c8,c9,c10,c11,c12,c13,c14,c15]) (ptS (dec I) [c0,c1,c2,c3,c4,c5,c6,c7,c8,c9,c10,c11,c12,c13,c14,c15]) _ rfl rfl ⟨Zy (n:=2) rfl,hr⟩ rfl
  (fun h0 h1 i k hi hk=>⟨Z1 trivial (Z1 trivial (Zw hv16 (Z1 (zc _ (by omega) (by have:=(Z1z h0).1; omega)) (Z1 (zc _ (by omega) (by
   have:=(Z8a ((Z1z h0).2.2.2 _ (Zx hi))).1.2.2; omega)) Z2)))),hr,⟨by show (0:Int)≤(i:Int); omega,by show (i:Int) < _; exact Int.ofNat_lt.2 hi,by show (0:Int)≤(k:Int); omega,by show (k:Int) < _; exact Int.ofNat_lt.2 hk⟩,h0,hcam.1 h1⟩)
  (fun i k=>rfl) (fun i k=>Z8c) (fun h0=>⟨(Z1z h0).1,fun i hi=>(Z8a ((Z1z h0).2.2.2 _ (Zx hi))).1.2.2⟩) rfl
  (fun h0 h1=>⟨Z1 trivial (Z1 trivial (Z1 trivial (Z1 (hv.2 18) (Z1 (hv.2 19) (Z1 (hv.2 20) (Z1 (hv.2 21) (Z1 (hv.2 22) (Z1 (hv.2 23) Z2)))))))),by
   show Zlo (dec I) (dec (cod (Zh8 (dec I) [c0,c1,c2,c3,c4,c5,c6,c7,c8,c9,c10,c11,c12,c13,c14,c15]))); rw [Z4]; exact sceneP hv16 hr h0,hr,hT⟩)
  (by
   show Zlr _=_
   unfold Zlr
   simp only [TX.sat,XB.prop,X.den,Z1gw,Z1gx,Z1gq,Z1gr,Z1gu,Z1gv,Z1gs,Z1gt,mkS,mkP,and_true,true_and,Z1h1,Z1h2,not_or,not_and,Z1gy,ne_eq,Z1gz,Z1h0,Z4]
   exact hq)
  (fun h0=>by rw [hfr _ hE,if_neg h0,if_neg h0])
  (fun h0 h1=>by
   have h1':¬ Z2b [c0,c1,c2,c3,c4,c5,c6,c7,c8,c9,c10,c11,c12,c13,c14,c15] 0=true:=fun h=>h1 (hcam.2 h)
   rw [hfr _ hE,if_pos h0,if_neg h1',if_neg (by decide)]
   cases hb:Z2b [c0,c1,c2,c3,c4,c5,c6,c7,c8,c9,c10,c11,c12,c13,c14,c15] 0 with
   | true=>exact absurd hb h1'
   | false=>rfl)
  (fun h0 h1 h2=>by rw [hfr _ hE,if_pos h0,if_pos (hcam.1 h1),if_neg h2,if_neg (by decide)])
  (fun h0 h1 h2=>by rw [hfr _ hE,if_pos h0,if_pos (hcam.1 h1),if_pos h2,if_pos rfl,hq]; rfl))
end Go.Proofs.YtgcoidbaoigkeaaGreatDoor.fix
namespace Go.Proofs.YtgcoidbaoigkeaaGreatDoor.fix
open Go.RowKit Go.Sx
theorem Z1ab (x:List Int):wgt x 5 10 15 * x.getD 0 0 + wgt x 10 0 15 * x.getD 5 0 + wgt x 0 5 15 * x.getD 10 0=Z11 x * (8 * x.getD 15 0 + 4):=by
 simp only [wgt,Z11,Nat.reduceAdd,Nat.zero_add]
 grind
theorem Z1ac (x:List Int):wgt x 5 10 15 * x.getD 1 0 + wgt x 10 0 15 * x.getD 6 0 + wgt x 0 5 15 * x.getD 11 0=Z11 x * (8 * x.getD 16 0 + 4):=by
 simp only [wgt,Z11,Nat.reduceAdd,Nat.zero_add]
 grind
def Z4a (p a b c:Int):Prop:=(a≤p∨b≤p∨c≤p)∧(p≤a∨p≤b∨p≤c)
theorem mid_x {x:List Int} (hT:0 < Z11 x) (h:Zq5 x=true):Z4a (8 * x.getD 15 0 + 4) (x.getD 0 0) (x.getD 5 0) (x.getD 10 0):=by
 obtain ⟨w0,w1,w2⟩:=Zet h
 have k:=Zlv w0 w1 w2 (d0:=x.getD 0 0) (d1:=x.getD 5 0) (d2:=x.getD 10 0) (m:=min (x.getD 0 0) (min (x.getD 5 0) (x.getD 10 0))) (n:=max (x.getD 0 0) (max (x.getD 5 0) (x.getD 10 0))) (by omega) (by omega) (by omega)
 rw [Z196,Z1ab] at k
 have a:=Int.le_of_mul_le_mul_left k.1 hT
 have b:=Int.le_of_mul_le_mul_left k.2 hT
 unfold Z4a
 omega
theorem mid_y {x:List Int} (hT:0 < Z11 x) (h:Zq5 x=true):Z4a (8 * x.getD 16 0 + 4) (x.getD 1 0) (x.getD 6 0) (x.getD 11 0):=by
 obtain ⟨w0,w1,w2⟩:=Zet h
 have k:=Zlv w0 w1 w2 (d0:=x.getD 1 0) (d1:=x.getD 6 0) (d2:=x.getD 11 0) (m:=min (x.getD 1 0) (min (x.getD 6 0) (x.getD 11 0))) (n:=max (x.getD 1 0) (max (x.getD 6 0) (x.getD 11 0))) (by omega) (by omega) (by omega)
 rw [Z196,Z1ac] at k
 have a:=Int.le_of_mul_le_mul_left k.1 hT
 have b:=Int.le_of_mul_le_mul_left k.2 hT
 unfold Z4a
 omega
theorem at_ok {x:List Int} (h:(atL x).getD 5 0=0):0 < Z11 x∧Zq5 x=true∧pixB x 15=true:=by
 unfold atL at h
 by_cases he:(Z35 x).getD 3 0=0
 ·rw [if_pos he] at h
  by_cases hh:Zq5 x=true
  ·obtain ⟨_,h1,h2,_⟩:=Zer he
   exact ⟨h1,hh,h2⟩
  ·rw [if_neg hh] at h
   exact absurd h (by decide)
 ·rw [if_neg he] at h
  exact absurd h he
theorem Z151 {s:List Int} {px py:Int} (h:(atL (Ze0 (Z71 s)++[px,py])).getD 5 0=0) :
  Z7h s=true∧Z4a (8 * px + 4) (s.getD 0 0) (s.getD 5 0) (s.getD 10 0)∧Z4a (8 * py + 4) (s.getD 1 0) (s.getD 6 0) (s.getD 11 0):=by
 obtain ⟨h1,h2,_⟩:=at_ok h
 have hx:=mid_x h1 h2
 have hy:=mid_y h1 h2
 clear h h2
 unfold Z71 at hx hy h1
 by_cases ht:Z7h s=true
 ·rw [if_pos ht] at hx hy h1
  by_cases h0:Z11 s=0
  ·rw [if_pos h0] at h1
   exact absurd h1 (by simp [Z11,Ze0,z16])
  ·rw [if_neg h0] at hx hy h1
   clear h1
   by_cases hn:Z11 s < 0
   ·rw [if_pos hn] at hx hy
    simp only [Ze0,Zye,Z1gu,Z1gv,TX.sat,XB.prop,X.den,Z1gw,Z1gx,Z1gq,Z1gr,Z1gu,Z1gv,Z1gs,Z1gt,mkS,mkP,and_true,true_and,Z1h1,Z1h2,not_or,not_and,Z1gy,ne_eq,Z1gz,Z1h0] at hx hy
    unfold Z4a at hx hy ⊢
    exact ⟨ht,⟨by omega,by omega⟩,by omega,by omega⟩
   ·rw [if_neg hn] at hx hy
    simp only [Ze0,idT,Z1gu,Z1gv,TX.sat,XB.prop,X.den,Z1gw,Z1gx,Z1gq,Z1gr,Z1gu,Z1gv,Z1gs,Z1gt,mkS,mkP,and_true,true_and,Z1h1,Z1h2,not_or,not_and,Z1gy,ne_eq,Z1gz,Z1h0] at hx hy
    exact ⟨ht,hx,hy⟩
 ·rw [if_neg ht] at h1
  exact absurd h1 (by simp [Z11,Ze0,z16])
theorem Zma {c0 c1 c2 c3 c4 c5 c6 c7 c8 c9 c10 c11 c12 c13 c14 c15 u0 u1 u2 u3 u4:Int} (h:1≤(Z5x [c0,c1,c2,c3,c4,c5,c6,c7,c8,c9,c10,c11,c12,c13,c14,c15,u0,u1,u2,u3,u4]).getD 2 0):c13≤u2 ∧
  (Z5x [c0,c1,c2,c3,c4,c5,c6,c7,c8,c9,c10,c11,c12,c13,c14,c15,u0,u1,u2,u3,u4]).getD 0 0=8 * c12 * u0 / u2 + 4 * c14∧(Z5x [c0,c1,c2,c3,c4,c5,c6,c7,c8,c9,c10,c11,c12,c13,c14,c15,u0,u1,u2,u3,u4]).getD 1 0=4 * c15 - 8 * c12 * u1 / u2:=by
 unfold Z5x at h ⊢
 split at h
 ·rename_i k1
  rw [if_pos k1]
  split at h
  ·rename_i k2
   rw [if_pos k2]
   split at h
   ·exact absurd h (by decide)
   ·rename_i k3
    rw [if_neg k3]
    simp only [TX.sat,XB.prop,X.den,Z1gw,Z1gx,Z1gq,Z1gr,Z1gu,Z1gv,Z1gs,Z1gt,mkS,mkP,and_true,true_and,Z1h1,Z1h2,not_or,not_and,Z1gy,ne_eq,Z1gz,Z1h0] at k3 ⊢
    omega
  ·exact absurd h (by decide)
 ·exact absurd h (by decide)
def inV (b:List Int) (v:Int):Prop:=(b.getD 0 0≤co v 0∧co v 0≤b.getD 3 0)∧(b.getD 1 0≤co v 1∧co v 1≤b.getD 4 0)∧(b.getD 2 0≤co v 2∧co v 2≤b.getD 5 0)
theorem Zsq:∀ (l b:List Int),(∀ v,inV b v→inV (l.foldl Zda b) v)∧∀ v ∈ l,inV (l.foldl Zda b) v
 | [],b=>⟨fun v h=>h,fun v h=>by cases h⟩
 | x::l,b=>by
  obtain ⟨h1,h2⟩:=Zsq l (Zda b x)
  rw [List.foldl_cons]
  refine ⟨fun v hv=>h1 v ?_,fun v hv=>?_⟩
  ·unfold inV Zda at *
   simp only [TX.sat,XB.prop,X.den,Z1gw,Z1gx,Z1gq,Z1gr,Z1gu,Z1gv,Z1gs,Z1gt,mkS,mkP,and_true,true_and,Z1h1,Z1h2,not_or,not_and,Z1gy,ne_eq,Z1gz,Z1h0]
   omega
  ·rcases List.mem_cons.1 hv with rfl | hv
   ·refine h1 v ?_
    unfold inV Zda
    simp only [TX.sat,XB.prop,X.den,Z1gw,Z1gx,Z1gq,Z1gr,Z1gu,Z1gv,Z1gs,Z1gt,mkS,mkP,and_true,true_and,Z1h1,Z1h2,not_or,not_and,Z1gy,ne_eq,Z1gz,Z1h0]
    omega
   ·exact h2 v hv
theorem Z152 {l:List Int}:∀ v ∈ l,inV (Z2u l) v:=by
 cases l with
 | nil=>intro v h; cases h
 | cons x l =>
  intro v hv
  unfold Z2u
  rcases List.mem_cons.1 hv with rfl | hv
  ·refine (Zsq l _).1 v ?_
   unfold inV boxV
   simp only [TX.sat,XB.prop,X.den,Z1gw,Z1gx,Z1gq,Z1gr,Z1gu,Z1gv,Z1gs,Z1gt,mkS,mkP,and_true,true_and,Z1h1,Z1h2,not_or,not_and,Z1gy,ne_eq,Z1gz,Z1h0]
   omega
  ·exact (Zsq l _).2 v hv
def Zsr (b:List Int):Prop:=((-4096≤b.getD 0 0∧b.getD 0 0≤b.getD 3 0∧b.getD 3 0≤4096)∧(-4096≤b.getD 1 0∧b.getD 1 0≤b.getD 4 0∧b.getD 4 0≤4096)∧(-4096≤b.getD 2 0∧b.getD 2 0≤b.getD 5 0∧b.getD 5 0≤4096))
theorem Zss {v:Int}:okW v=true↔((-4096≤co v 0∧co v 0≤4096)∧(-4096≤co v 1∧co v 1≤4096)∧(-4096≤co v 2∧co v 2≤4096)):=by
 unfold okW
 rw [Zg]
 simp only [TX.sat,XB.prop,X.den,Z1gw,Z1gx,Z1gq,Z1gr,Z1gu,Z1gv,Z1gs,Z1gt,mkS,mkP,and_true,true_and,Z1h1,Z1h2,not_or,not_and,Z1gy,ne_eq,Z1gz,Z1h0,Nat.zero_add,Nat.reduceAdd]
theorem Zpn:∀ (l b:List Int),Zsr b→(∀ v ∈ l,okW v=true)→Zsr (l.foldl Zda b)
 | [],b,h,_=>h
 | x::l,b,h,hl=>by
  rw [List.foldl_cons]
  refine Zpn l _ ?_ fun v hv=>hl v (List.mem_cons_of_mem _ hv)
  have hx:=Zss.1 (hl x (List.mem_cons_self ..))
  unfold Zsr Zda at *
  simp only [TX.sat,XB.prop,X.den,Z1gw,Z1gx,Z1gq,Z1gr,Z1gu,Z1gv,Z1gs,Z1gt,mkS,mkP,and_true,true_and,Z1h1,Z1h2,not_or,not_and,Z1gy,ne_eq,Z1gz,Z1h0]
  omega
theorem Zyz {l:List Int} (h:∀ v ∈ l,okW v=true):Zsr (Z2u l):=by
 cases l with
 | nil=>unfold Zsr Z2u; simp
 | cons x l =>
  unfold Z2u
  refine Zpn l _ ?_ fun v hv=>h v (List.mem_cons_of_mem _ hv)
  have hx:=Zss.1 (h x (List.mem_cons_self ..))
  unfold Zsr boxV
  simp only [TX.sat,XB.prop,X.den,Z1gw,Z1gx,Z1gq,Z1gr,Z1gu,Z1gv,Z1gs,Z1gt,mkS,mkP,and_true,true_and,Z1h1,Z1h2,not_or,not_and,Z1gy,ne_eq,Z1gz,Z1h0]
  omega
theorem Z1gb {c0 c1 c2 c3 c4 c5 c6 c7 c8 c9 c10 c11 c12 c13 c14 c15 b0 b1 b2 b3 b4 b5 w0 w1 w2 w3 v0 v1 v2:Int} (hc:Z2b [c0,c1,c2,c3,c4,c5,c6,c7,c8,c9,c10,c11,c12,c13,c14,c15,b0,b1,b2,b3,b4,b5,w0,w1,w2,w3] 0=true) (hv:(-4096≤v0∧v0≤4096)∧(-4096≤v1∧v1≤4096)∧(-4096≤v2∧v2≤4096))
  (h0:b0≤v0∧v0≤b3) (h1:b1≤v1∧v1≤b4) (h2:b2≤v2∧v2≤b5) :
  (vw [c0,c1,c2,c3,c4,c5,c6,c7,c8,c9,c10,c11,c12,c13,c14,c15,b0,b1,b2,b3,b4,b5,w0,w1,w2,w3] 0≤(Z7a [c0,c1,c2,c3,c4,c5,c6,c7,c8,c9,c10,c11,c12,c13,c14,c15,v0,v1,v2]).getD 0 0∧(Z7a [c0,c1,c2,c3,c4,c5,c6,c7,c8,c9,c10,c11,c12,c13,c14,c15,v0,v1,v2]).getD 0 0≤vw [c0,c1,c2,c3,c4,c5,c6,c7,c8,c9,c10,c11,c12,c13,c14,c15,b0,b1,b2,b3,b4,b5,w0,w1,w2,w3] 3) ∧
  (vw [c0,c1,c2,c3,c4,c5,c6,c7,c8,c9,c10,c11,c12,c13,c14,c15,b0,b1,b2,b3,b4,b5,w0,w1,w2,w3] 1≤(Z7a [c0,c1,c2,c3,c4,c5,c6,c7,c8,c9,c10,c11,c12,c13,c14,c15,v0,v1,v2]).getD 1 0∧(Z7a [c0,c1,c2,c3,c4,c5,c6,c7,c8,c9,c10,c11,c12,c13,c14,c15,v0,v1,v2]).getD 1 0≤vw [c0,c1,c2,c3,c4,c5,c6,c7,c8,c9,c10,c11,c12,c13,c14,c15,b0,b1,b2,b3,b4,b5,w0,w1,w2,w3] 4) ∧
  (vw [c0,c1,c2,c3,c4,c5,c6,c7,c8,c9,c10,c11,c12,c13,c14,c15,b0,b1,b2,b3,b4,b5,w0,w1,w2,w3] 2≤(Z7a [c0,c1,c2,c3,c4,c5,c6,c7,c8,c9,c10,c11,c12,c13,c14,c15,v0,v1,v2]).getD 2 0∧(Z7a [c0,c1,c2,c3,c4,c5,c6,c7,c8,c9,c10,c11,c12,c13,c14,c15,v0,v1,v2]).getD 2 0≤vw [c0,c1,c2,c3,c4,c5,c6,c7,c8,c9,c10,c11,c12,c13,c14,c15,b0,b1,b2,b3,b4,b5,w0,w1,w2,w3] 5):=by
 have e1:Z2b [c0,c1,c2,c3,c4,c5,c6,c7,c8,c9,c10,c11,c12,c13,c14,c15,v0,v1,v2] 0=Z2b [c0,c1,c2,c3,c4,c5,c6,c7,c8,c9,c10,c11,c12,c13,c14,c15,b0,b1,b2,b3,b4,b5,w0,w1,w2,w3] 0:=rfl
 have e2:Zj6 4096 [c0,c1,c2,c3,c4,c5,c6,c7,c8,c9,c10,c11,c12,c13,c14,c15,v0,v1,v2] 16=true:=by
  rw [Zg]
  simp only [TX.sat,XB.prop,X.den,Z1gw,Z1gx,Z1gq,Z1gr,Z1gu,Z1gv,Z1gs,Z1gt,mkS,mkP,and_true,true_and,Z1h1,Z1h2,not_or,not_and,Z1gy,ne_eq,Z1gz,Z1h0,Nat.reduceAdd]
  omega
 have q0:b0 - c0≤v0 - c0∧v0 - c0≤b3 - c0:=by omega
 have q1:b1 - c1≤v1 - c1∧v1 - c1≤b4 - c1:=by omega
 have q2:b2 - c2≤v2 - c2∧v2 - c2≤b5 - c2:=by omega
 have m0:=mid3 (Z189 (m:=c3) q0.1 q0.2) (Z189 (m:=c4) q1.1 q1.2) (Z189 (m:=c5) q2.1 q2.2)
 have m3:=mid3 (Z189 (m:=c6) q0.1 q0.2) (Z189 (m:=c7) q1.1 q1.2) (Z189 (m:=c8) q2.1 q2.2)
 have m6:=mid3 (Z189 (m:=c9) q0.1 q0.2) (Z189 (m:=c10) q1.1 q1.2) (Z189 (m:=c11) q2.1 q2.2)
 unfold Z7a
 rw [if_pos (e1.trans hc),if_pos e2]
 exact ⟨m0,m3,m6⟩
theorem Z153 {c0 c1 c2 c3 c4 c5 c6 c7 c8 c9 c10 c11 c12 c13 c14 c15 b0 b1 b2 b3 b4 b5 w0 w1 w2 w3 m0 z0 m1 z1 m2 z2 m3 z3 px py:Int} (hc:Z2b [c0,c1,c2,c3,c4,c5,c6,c7,c8,c9,c10,c11,c12,c13,c14,c15,b0,b1,b2,b3,b4,b5,w0,w1,w2,w3] 0=true) (hwin:w0≤px∧w1≤py∧px≤w2∧py≤w3)
  (k0:Z1n [c0,c1,c2,c3,c4,c5,c6,c7,c8,c9,c10,c11,c12,c13,c14,c15,b0,b1,b2,b3,b4,b5,w0,w1,w2,w3]≤z0∧z0≤Z6z [c0,c1,c2,c3,c4,c5,c6,c7,c8,c9,c10,c11,c12,c13,c14,c15,b0,b1,b2,b3,b4,b5,w0,w1,w2,w3]) (k1:Z1n [c0,c1,c2,c3,c4,c5,c6,c7,c8,c9,c10,c11,c12,c13,c14,c15,b0,b1,b2,b3,b4,b5,w0,w1,w2,w3]≤z1∧z1≤Z6z [c0,c1,c2,c3,c4,c5,c6,c7,c8,c9,c10,c11,c12,c13,c14,c15,b0,b1,b2,b3,b4,b5,w0,w1,w2,w3]) (k2:Z1n [c0,c1,c2,c3,c4,c5,c6,c7,c8,c9,c10,c11,c12,c13,c14,c15,b0,b1,b2,b3,b4,b5,w0,w1,w2,w3]≤z2∧z2≤Z6z [c0,c1,c2,c3,c4,c5,c6,c7,c8,c9,c10,c11,c12,c13,c14,c15,b0,b1,b2,b3,b4,b5,w0,w1,w2,w3]) (k3:Z1n [c0,c1,c2,c3,c4,c5,c6,c7,c8,c9,c10,c11,c12,c13,c14,c15,b0,b1,b2,b3,b4,b5,w0,w1,w2,w3]≤z3∧z3≤Z6z [c0,c1,c2,c3,c4,c5,c6,c7,c8,c9,c10,c11,c12,c13,c14,c15,b0,b1,b2,b3,b4,b5,w0,w1,w2,w3])
  (g0:vw [c0,c1,c2,c3,c4,c5,c6,c7,c8,c9,c10,c11,c12,c13,c14,c15,b0,b1,b2,b3,b4,b5,w0,w1,w2,w3] 0≤m0) (g1:m1≤vw [c0,c1,c2,c3,c4,c5,c6,c7,c8,c9,c10,c11,c12,c13,c14,c15,b0,b1,b2,b3,b4,b5,w0,w1,w2,w3] 3) (g2:m2≤vw [c0,c1,c2,c3,c4,c5,c6,c7,c8,c9,c10,c11,c12,c13,c14,c15,b0,b1,b2,b3,b4,b5,w0,w1,w2,w3] 4) (g3:vw [c0,c1,c2,c3,c4,c5,c6,c7,c8,c9,c10,c11,c12,c13,c14,c15,b0,b1,b2,b3,b4,b5,w0,w1,w2,w3] 1≤m3)
  (p0:8 * c12 * m0 / z0 + 4 * c14≤8 * px + 4) (p1:8 * px + 4≤8 * c12 * m1 / z1 + 4 * c14)
  (p2:4 * c15 - 8 * c12 * m2 / z2≤8 * py + 4) (p3:8 * py + 4≤4 * c15 - 8 * c12 * m3 / z3):Z9q [c0,c1,c2,c3,c4,c5,c6,c7,c8,c9,c10,c11,c12,c13,c14,c15,b0,b1,b2,b3,b4,b5,w0,w1,w2,w3]=true:=by
 have kl:=Zrt hc
 simp only [TX.sat,XB.prop,X.den,Z1gw,Z1gx,Z1gq,Z1gr,Z1gu,Z1gv,Z1gs,Z1gt,mkS,mkP,and_true,true_and,Z1h1,Z1h2,not_or,not_and,Z1gy,ne_eq,Z1gz,Z1h0] at kl
 have n1:Z1n [c0,c1,c2,c3,c4,c5,c6,c7,c8,c9,c10,c11,c12,c13,c14,c15,b0,b1,b2,b3,b4,b5,w0,w1,w2,w3]=max (vw [c0,c1,c2,c3,c4,c5,c6,c7,c8,c9,c10,c11,c12,c13,c14,c15,b0,b1,b2,b3,b4,b5,w0,w1,w2,w3] 2) c13:=rfl
 have hnp:0 < Z1n [c0,c1,c2,c3,c4,c5,c6,c7,c8,c9,c10,c11,c12,c13,c14,c15,b0,b1,b2,b3,b4,b5,w0,w1,w2,w3]:=by omega
 have G0:=(Zuy (f:=c12) (n:=vw [c0,c1,c2,c3,c4,c5,c6,c7,c8,c9,c10,c11,c12,c13,c14,c15,b0,b1,b2,b3,b4,b5,w0,w1,w2,w3] 0) (m:=m0) (by omega) hnp k0.1 k0.2).1 g0
 have G1:=(Zuy (f:=c12) (n:=vw [c0,c1,c2,c3,c4,c5,c6,c7,c8,c9,c10,c11,c12,c13,c14,c15,b0,b1,b2,b3,b4,b5,w0,w1,w2,w3] 3) (m:=m1) (by omega) hnp k1.1 k1.2).2 g1
 have G2:=(Zuy (f:=c12) (n:=vw [c0,c1,c2,c3,c4,c5,c6,c7,c8,c9,c10,c11,c12,c13,c14,c15,b0,b1,b2,b3,b4,b5,w0,w1,w2,w3] 4) (m:=m2) (by omega) hnp k2.1 k2.2).2 g2
 have G3:=(Zuy (f:=c12) (n:=vw [c0,c1,c2,c3,c4,c5,c6,c7,c8,c9,c10,c11,c12,c13,c14,c15,b0,b1,b2,b3,b4,b5,w0,w1,w2,w3] 1) (m:=m3) (by omega) hnp k3.1 k3.2).1 g3
 have L1:Zgs [c0,c1,c2,c3,c4,c5,c6,c7,c8,c9,c10,c11,c12,c13,c14,c15,b0,b1,b2,b3,b4,b5,w0,w1,w2,w3]=Zrb c12 (Z1n [c0,c1,c2,c3,c4,c5,c6,c7,c8,c9,c10,c11,c12,c13,c14,c15,b0,b1,b2,b3,b4,b5,w0,w1,w2,w3]) (Z6z [c0,c1,c2,c3,c4,c5,c6,c7,c8,c9,c10,c11,c12,c13,c14,c15,b0,b1,b2,b3,b4,b5,w0,w1,w2,w3]) (vw [c0,c1,c2,c3,c4,c5,c6,c7,c8,c9,c10,c11,c12,c13,c14,c15,b0,b1,b2,b3,b4,b5,w0,w1,w2,w3] 0) + 4 * c14:=rfl
 have R1:Zbi [c0,c1,c2,c3,c4,c5,c6,c7,c8,c9,c10,c11,c12,c13,c14,c15,b0,b1,b2,b3,b4,b5,w0,w1,w2,w3]=Zrc c12 (Z1n [c0,c1,c2,c3,c4,c5,c6,c7,c8,c9,c10,c11,c12,c13,c14,c15,b0,b1,b2,b3,b4,b5,w0,w1,w2,w3]) (Z6z [c0,c1,c2,c3,c4,c5,c6,c7,c8,c9,c10,c11,c12,c13,c14,c15,b0,b1,b2,b3,b4,b5,w0,w1,w2,w3]) (vw [c0,c1,c2,c3,c4,c5,c6,c7,c8,c9,c10,c11,c12,c13,c14,c15,b0,b1,b2,b3,b4,b5,w0,w1,w2,w3] 3) + 4 * c14:=rfl
 have T1:Z179 [c0,c1,c2,c3,c4,c5,c6,c7,c8,c9,c10,c11,c12,c13,c14,c15,b0,b1,b2,b3,b4,b5,w0,w1,w2,w3]=4 * c15 - Zrc c12 (Z1n [c0,c1,c2,c3,c4,c5,c6,c7,c8,c9,c10,c11,c12,c13,c14,c15,b0,b1,b2,b3,b4,b5,w0,w1,w2,w3]) (Z6z [c0,c1,c2,c3,c4,c5,c6,c7,c8,c9,c10,c11,c12,c13,c14,c15,b0,b1,b2,b3,b4,b5,w0,w1,w2,w3]) (vw [c0,c1,c2,c3,c4,c5,c6,c7,c8,c9,c10,c11,c12,c13,c14,c15,b0,b1,b2,b3,b4,b5,w0,w1,w2,w3] 4):=rfl
 have B1:Z17a [c0,c1,c2,c3,c4,c5,c6,c7,c8,c9,c10,c11,c12,c13,c14,c15,b0,b1,b2,b3,b4,b5,w0,w1,w2,w3]=4 * c15 - Zrb c12 (Z1n [c0,c1,c2,c3,c4,c5,c6,c7,c8,c9,c10,c11,c12,c13,c14,c15,b0,b1,b2,b3,b4,b5,w0,w1,w2,w3]) (Z6z [c0,c1,c2,c3,c4,c5,c6,c7,c8,c9,c10,c11,c12,c13,c14,c15,b0,b1,b2,b3,b4,b5,w0,w1,w2,w3]) (vw [c0,c1,c2,c3,c4,c5,c6,c7,c8,c9,c10,c11,c12,c13,c14,c15,b0,b1,b2,b3,b4,b5,w0,w1,w2,w3] 1):=rfl
 have ux:=up_le (a:=Zgs [c0,c1,c2,c3,c4,c5,c6,c7,c8,c9,c10,c11,c12,c13,c14,c15,b0,b1,b2,b3,b4,b5,w0,w1,w2,w3] - 4) (x:=px) (by omega)
 have uy:=up_le (a:=Z179 [c0,c1,c2,c3,c4,c5,c6,c7,c8,c9,c10,c11,c12,c13,c14,c15,b0,b1,b2,b3,b4,b5,w0,w1,w2,w3] - 4) (x:=py) (by omega)
 have dx:px≤(Zbi [c0,c1,c2,c3,c4,c5,c6,c7,c8,c9,c10,c11,c12,c13,c14,c15,b0,b1,b2,b3,b4,b5,w0,w1,w2,w3] - 4) / 8:=by omega
 have dy:py≤(Z17a [c0,c1,c2,c3,c4,c5,c6,c7,c8,c9,c10,c11,c12,c13,c14,c15,b0,b1,b2,b3,b4,b5,w0,w1,w2,w3] - 4) / 8:=by omega
 have X0:Z11j [c0,c1,c2,c3,c4,c5,c6,c7,c8,c9,c10,c11,c12,c13,c14,c15,b0,b1,b2,b3,b4,b5,w0,w1,w2,w3]=max (up (Zgs [c0,c1,c2,c3,c4,c5,c6,c7,c8,c9,c10,c11,c12,c13,c14,c15,b0,b1,b2,b3,b4,b5,w0,w1,w2,w3] - 4) 8) w0:=rfl
 have Y0:Z11k [c0,c1,c2,c3,c4,c5,c6,c7,c8,c9,c10,c11,c12,c13,c14,c15,b0,b1,b2,b3,b4,b5,w0,w1,w2,w3]=max (up (Z179 [c0,c1,c2,c3,c4,c5,c6,c7,c8,c9,c10,c11,c12,c13,c14,c15,b0,b1,b2,b3,b4,b5,w0,w1,w2,w3] - 4) 8) w1:=rfl
 have X1:Z11l [c0,c1,c2,c3,c4,c5,c6,c7,c8,c9,c10,c11,c12,c13,c14,c15,b0,b1,b2,b3,b4,b5,w0,w1,w2,w3]=min ((Zbi [c0,c1,c2,c3,c4,c5,c6,c7,c8,c9,c10,c11,c12,c13,c14,c15,b0,b1,b2,b3,b4,b5,w0,w1,w2,w3] - 4) / 8) w2:=rfl
 have Y1:Z11m [c0,c1,c2,c3,c4,c5,c6,c7,c8,c9,c10,c11,c12,c13,c14,c15,b0,b1,b2,b3,b4,b5,w0,w1,w2,w3]=min ((Z17a [c0,c1,c2,c3,c4,c5,c6,c7,c8,c9,c10,c11,c12,c13,c14,c15,b0,b1,b2,b3,b4,b5,w0,w1,w2,w3] - 4) / 8) w3:=rfl
 obtain ⟨q0,q1,q2,q3⟩:=hwin
 clear L1 R1 T1 B1 G0 G1 G2 G3 p0 p1 p2 p3 g0 g1 g2 g3
 refine Z96.2 ⟨by omega,?_,?_⟩
 ·rw [X0,X1]
  clear X0 X1 Y0 Y1 uy dy
  omega
 ·rw [Y0,Y1]
  clear X0 X1 Y0 Y1 ux dx
  omega
theorem Z154 {c0 c1 c2 c3 c4 c5 c6 c7 c8 c9 c10 c11 c12 c13 c14 c15 b0 b1 b2 b3 b4 b5 w0 w1 w2 w3 bb t lq:Int} (hc:Z2b [c0,c1,c2,c3,c4,c5,c6,c7,c8,c9,c10,c11,c12,c13,c14,c15,b0,b1,b2,b3,b4,b5,w0,w1,w2,w3] 0=true) (hb:[b0,b1,b2,b3,b4,b5]=Z2u (Zf bb)) (hv:∀ v ∈ Zf bb,okW v=true)
  (htn:(0≤co t 0∧0≤co t 1∧0≤co t 2)∧co t 0 < (Zf bb).length∧co t 1 < (Zf bb).length∧co t 2 < (Zf bb).length) (hl:lq ∈ Zyj [c0,c1,c2,c3,c4,c5,c6,c7,c8,c9,c10,c11,c12,c13,c14,c15] bb t) :
  ∀ o,o=0∨o=5∨o=10→(vw [c0,c1,c2,c3,c4,c5,c6,c7,c8,c9,c10,c11,c12,c13,c14,c15,b0,b1,b2,b3,b4,b5,w0,w1,w2,w3] 0≤co lq o∧co lq o≤vw [c0,c1,c2,c3,c4,c5,c6,c7,c8,c9,c10,c11,c12,c13,c14,c15,b0,b1,b2,b3,b4,b5,w0,w1,w2,w3] 3)∧(vw [c0,c1,c2,c3,c4,c5,c6,c7,c8,c9,c10,c11,c12,c13,c14,c15,b0,b1,b2,b3,b4,b5,w0,w1,w2,w3] 1≤co lq (o + 1)∧co lq (o + 1)≤vw [c0,c1,c2,c3,c4,c5,c6,c7,c8,c9,c10,c11,c12,c13,c14,c15,b0,b1,b2,b3,b4,b5,w0,w1,w2,w3] 4)∧(Z1n [c0,c1,c2,c3,c4,c5,c6,c7,c8,c9,c10,c11,c12,c13,c14,c15,b0,b1,b2,b3,b4,b5,w0,w1,w2,w3]≤co lq (o + 2)∧co lq (o + 2)≤Z6z [c0,c1,c2,c3,c4,c5,c6,c7,c8,c9,c10,c11,c12,c13,c14,c15,b0,b1,b2,b3,b4,b5,w0,w1,w2,w3]):=by
 have seen:∀ n:Int,0≤n→n < (Zf bb).length→(vw [c0,c1,c2,c3,c4,c5,c6,c7,c8,c9,c10,c11,c12,c13,c14,c15,b0,b1,b2,b3,b4,b5,w0,w1,w2,w3] 0≤(Z1v [c0,c1,c2,c3,c4,c5,c6,c7,c8,c9,c10,c11,c12,c13,c14,c15] ((Zf bb).getD n.toNat 0)).getD 0 0∧(Z1v [c0,c1,c2,c3,c4,c5,c6,c7,c8,c9,c10,c11,c12,c13,c14,c15] ((Zf bb).getD n.toNat 0)).getD 0 0≤vw [c0,c1,c2,c3,c4,c5,c6,c7,c8,c9,c10,c11,c12,c13,c14,c15,b0,b1,b2,b3,b4,b5,w0,w1,w2,w3] 3) ∧
   (vw [c0,c1,c2,c3,c4,c5,c6,c7,c8,c9,c10,c11,c12,c13,c14,c15,b0,b1,b2,b3,b4,b5,w0,w1,w2,w3] 1≤(Z1v [c0,c1,c2,c3,c4,c5,c6,c7,c8,c9,c10,c11,c12,c13,c14,c15] ((Zf bb).getD n.toNat 0)).getD 1 0∧(Z1v [c0,c1,c2,c3,c4,c5,c6,c7,c8,c9,c10,c11,c12,c13,c14,c15] ((Zf bb).getD n.toNat 0)).getD 1 0≤vw [c0,c1,c2,c3,c4,c5,c6,c7,c8,c9,c10,c11,c12,c13,c14,c15,b0,b1,b2,b3,b4,b5,w0,w1,w2,w3] 4)∧(vw [c0,c1,c2,c3,c4,c5,c6,c7,c8,c9,c10,c11,c12,c13,c14,c15,b0,b1,b2,b3,b4,b5,w0,w1,w2,w3] 2≤(Z1v [c0,c1,c2,c3,c4,c5,c6,c7,c8,c9,c10,c11,c12,c13,c14,c15] ((Zf bb).getD n.toNat 0)).getD 2 0∧(Z1v [c0,c1,c2,c3,c4,c5,c6,c7,c8,c9,c10,c11,c12,c13,c14,c15] ((Zf bb).getD n.toNat 0)).getD 2 0≤vw [c0,c1,c2,c3,c4,c5,c6,c7,c8,c9,c10,c11,c12,c13,c14,c15,b0,b1,b2,b3,b4,b5,w0,w1,w2,w3] 5):=by
  intro n h1 h2
  have hm:(Zf bb).getD n.toNat 0 ∈ Zf bb:=Zx (by omega)
  have hin:=Z152 _ hm
  rw [← hb] at hin
  have ho:=Zss.1 (hv _ hm)
  obtain ⟨i0,i1,i2⟩:=hin
  simp only [TX.sat,XB.prop,X.den,Z1gw,Z1gx,Z1gq,Z1gr,Z1gu,Z1gv,Z1gs,Z1gt,mkS,mkP,and_true,true_and,Z1h1,Z1h2,not_or,not_and,Z1gy,ne_eq,Z1gz,Z1h0] at i0 i1 i2
  exact Z1gb hc ho i0 i1 i2
 have s0:=seen (co t 0) htn.1.1 htn.2.1
 have s1:=seen (co t 1) htn.1.2.1 htn.2.2.1
 have s2:=seen (co t 2) htn.1.2.2 htn.2.2.2
 have n1:Z1n [c0,c1,c2,c3,c4,c5,c6,c7,c8,c9,c10,c11,c12,c13,c14,c15,b0,b1,b2,b3,b4,b5,w0,w1,w2,w3]=max (vw [c0,c1,c2,c3,c4,c5,c6,c7,c8,c9,c10,c11,c12,c13,c14,c15,b0,b1,b2,b3,b4,b5,w0,w1,w2,w3] 2) c13:=rfl
 have f1:Z6z [c0,c1,c2,c3,c4,c5,c6,c7,c8,c9,c10,c11,c12,c13,c14,c15,b0,b1,b2,b3,b4,b5,w0,w1,w2,w3]=vw [c0,c1,c2,c3,c4,c5,c6,c7,c8,c9,c10,c11,c12,c13,c14,c15,b0,b1,b2,b3,b4,b5,w0,w1,w2,w3] 5:=rfl
 have key:∀ u,Zsi (c13::Zh7 [c0,c1,c2,c3,c4,c5,c6,c7,c8,c9,c10,c11,c12,c13,c14,c15] bb t) u→∃ u0 u1 u2 u3 u4,u=[u0,u1,u2,u3,u4]∧(vw [c0,c1,c2,c3,c4,c5,c6,c7,c8,c9,c10,c11,c12,c13,c14,c15,b0,b1,b2,b3,b4,b5,w0,w1,w2,w3] 0≤u0∧u0≤vw [c0,c1,c2,c3,c4,c5,c6,c7,c8,c9,c10,c11,c12,c13,c14,c15,b0,b1,b2,b3,b4,b5,w0,w1,w2,w3] 3)∧(vw [c0,c1,c2,c3,c4,c5,c6,c7,c8,c9,c10,c11,c12,c13,c14,c15,b0,b1,b2,b3,b4,b5,w0,w1,w2,w3] 1≤u1∧u1≤vw [c0,c1,c2,c3,c4,c5,c6,c7,c8,c9,c10,c11,c12,c13,c14,c15,b0,b1,b2,b3,b4,b5,w0,w1,w2,w3] 4)∧(Z1n [c0,c1,c2,c3,c4,c5,c6,c7,c8,c9,c10,c11,c12,c13,c14,c15,b0,b1,b2,b3,b4,b5,w0,w1,w2,w3]≤u2∧u2≤Z6z [c0,c1,c2,c3,c4,c5,c6,c7,c8,c9,c10,c11,c12,c13,c14,c15,b0,b1,b2,b3,b4,b5,w0,w1,w2,w3]):=by
  rintro u ⟨u0,u1,u2,u3,u4,rfl,h0,h1,h2,h3,_⟩
  refine ⟨u0,u1,u2,u3,u4,rfl,?_⟩
  have m0:mnC (c13::Zh7 [c0,c1,c2,c3,c4,c5,c6,c7,c8,c9,c10,c11,c12,c13,c14,c15] bb t) 0=min ((Z1v [c0,c1,c2,c3,c4,c5,c6,c7,c8,c9,c10,c11,c12,c13,c14,c15] ((Zf bb).getD (co t 0).toNat 0)).getD 0 0) (min ((Z1v [c0,c1,c2,c3,c4,c5,c6,c7,c8,c9,c10,c11,c12,c13,c14,c15] ((Zf bb).getD (co t 1).toNat 0)).getD 0 0) ((Z1v [c0,c1,c2,c3,c4,c5,c6,c7,c8,c9,c10,c11,c12,c13,c14,c15] ((Zf bb).getD (co t 2).toNat 0)).getD 0 0)):=rfl
  have m1:mnC (c13::Zh7 [c0,c1,c2,c3,c4,c5,c6,c7,c8,c9,c10,c11,c12,c13,c14,c15] bb t) 1=min ((Z1v [c0,c1,c2,c3,c4,c5,c6,c7,c8,c9,c10,c11,c12,c13,c14,c15] ((Zf bb).getD (co t 0).toNat 0)).getD 1 0) (min ((Z1v [c0,c1,c2,c3,c4,c5,c6,c7,c8,c9,c10,c11,c12,c13,c14,c15] ((Zf bb).getD (co t 1).toNat 0)).getD 1 0) ((Z1v [c0,c1,c2,c3,c4,c5,c6,c7,c8,c9,c10,c11,c12,c13,c14,c15] ((Zf bb).getD (co t 2).toNat 0)).getD 1 0)):=rfl
  have m2:mnC (c13::Zh7 [c0,c1,c2,c3,c4,c5,c6,c7,c8,c9,c10,c11,c12,c13,c14,c15] bb t) 2=min ((Z1v [c0,c1,c2,c3,c4,c5,c6,c7,c8,c9,c10,c11,c12,c13,c14,c15] ((Zf bb).getD (co t 0).toNat 0)).getD 2 0) (min ((Z1v [c0,c1,c2,c3,c4,c5,c6,c7,c8,c9,c10,c11,c12,c13,c14,c15] ((Zf bb).getD (co t 1).toNat 0)).getD 2 0) ((Z1v [c0,c1,c2,c3,c4,c5,c6,c7,c8,c9,c10,c11,c12,c13,c14,c15] ((Zf bb).getD (co t 2).toNat 0)).getD 2 0)):=rfl
  have x0:mxC (c13::Zh7 [c0,c1,c2,c3,c4,c5,c6,c7,c8,c9,c10,c11,c12,c13,c14,c15] bb t) 0=max ((Z1v [c0,c1,c2,c3,c4,c5,c6,c7,c8,c9,c10,c11,c12,c13,c14,c15] ((Zf bb).getD (co t 0).toNat 0)).getD 0 0) (max ((Z1v [c0,c1,c2,c3,c4,c5,c6,c7,c8,c9,c10,c11,c12,c13,c14,c15] ((Zf bb).getD (co t 1).toNat 0)).getD 0 0) ((Z1v [c0,c1,c2,c3,c4,c5,c6,c7,c8,c9,c10,c11,c12,c13,c14,c15] ((Zf bb).getD (co t 2).toNat 0)).getD 0 0)):=rfl
  have x1:mxC (c13::Zh7 [c0,c1,c2,c3,c4,c5,c6,c7,c8,c9,c10,c11,c12,c13,c14,c15] bb t) 1=max ((Z1v [c0,c1,c2,c3,c4,c5,c6,c7,c8,c9,c10,c11,c12,c13,c14,c15] ((Zf bb).getD (co t 0).toNat 0)).getD 1 0) (max ((Z1v [c0,c1,c2,c3,c4,c5,c6,c7,c8,c9,c10,c11,c12,c13,c14,c15] ((Zf bb).getD (co t 1).toNat 0)).getD 1 0) ((Z1v [c0,c1,c2,c3,c4,c5,c6,c7,c8,c9,c10,c11,c12,c13,c14,c15] ((Zf bb).getD (co t 2).toNat 0)).getD 1 0)):=rfl
  have x2:mxC (c13::Zh7 [c0,c1,c2,c3,c4,c5,c6,c7,c8,c9,c10,c11,c12,c13,c14,c15] bb t) 2=max ((Z1v [c0,c1,c2,c3,c4,c5,c6,c7,c8,c9,c10,c11,c12,c13,c14,c15] ((Zf bb).getD (co t 0).toNat 0)).getD 2 0) (max ((Z1v [c0,c1,c2,c3,c4,c5,c6,c7,c8,c9,c10,c11,c12,c13,c14,c15] ((Zf bb).getD (co t 1).toNat 0)).getD 2 0) ((Z1v [c0,c1,c2,c3,c4,c5,c6,c7,c8,c9,c10,c11,c12,c13,c14,c15] ((Zf bb).getD (co t 2).toNat 0)).getD 2 0)):=rfl
  have hn:c13≤u2:=h0
  rw [m0,x0] at h1
  rw [m1,x1] at h2
  rw [m2,x2] at h3
  rw [n1,f1]
  clear m0 m1 m2 x0 x1 x2 n1 f1 seen h0
  omega
 obtain ⟨p,q,r,hp,hq,hr,e⟩:=(Zcc (x:=c13::Zh7 [c0,c1,c2,c3,c4,c5,c6,c7,c8,c9,c10,c11,c12,c13,c14,c15] bb t) rfl).2 lq hl
 obtain ⟨p0,p1,p2,p3,p4,rfl,kp⟩:=key p hp
 obtain ⟨q0,q1,q2,q3,q4,rfl,kq⟩:=key q hq
 obtain ⟨r0,r1,r2,r3,r4,rfl,kr⟩:=key r hr
 clear s0 s1 s2 seen key n1 f1
 unfold co
 rw [e]
 intro o ho
 rcases ho with rfl | rfl | rfl
 ·exact kp
 ·exact kq
 ·exact kr
theorem Zz0 {c0 c1 c2 c3 c4 c5 c6 c7 c8 c9 c10 c11 c12 c13 c14 c15 b0 b1 b2 b3 b4 b5 w0 w1 w2 w3 bb t lq px py:Int} (hc:Z2b [c0,c1,c2,c3,c4,c5,c6,c7,c8,c9,c10,c11,c12,c13,c14,c15,b0,b1,b2,b3,b4,b5,w0,w1,w2,w3] 0=true) (hwin:w0≤px∧w1≤py∧px≤w2∧py≤w3) (hb:[b0,b1,b2,b3,b4,b5]=Z2u (Zf bb)) (hv:∀ v ∈ Zf bb,okW v=true)
  (htn:(0≤co t 0∧0≤co t 1∧0≤co t 2)∧co t 0 < (Zf bb).length∧co t 1 < (Zf bb).length∧co t 2 < (Zf bb).length) (hl:lq ∈ Zyj [c0,c1,c2,c3,c4,c5,c6,c7,c8,c9,c10,c11,c12,c13,c14,c15] bb t)
  (hat:(atL (Ze0 (Z71 (Zow [c0,c1,c2,c3,c4,c5,c6,c7,c8,c9,c10,c11,c12,c13,c14,c15] lq))++[px,py])).getD 5 0=0):Z9q [c0,c1,c2,c3,c4,c5,c6,c7,c8,c9,c10,c11,c12,c13,c14,c15,b0,b1,b2,b3,b4,b5,w0,w1,w2,w3]=true:=by
 obtain ⟨ht,hx,hy⟩:=Z151 hat
 have hs:=Z154 hc hb hv htn hl
 obtain ⟨⟨_,_,d0,_⟩,⟨_,_,d1,_⟩,_,_,d2,_⟩:=Z89 ht
 obtain ⟨x0,y0,z0⟩:=hs 0 (.inl rfl)
 obtain ⟨x5,y5,z5⟩:=hs 5 (.inr (.inl rfl))
 obtain ⟨x10,y10,z10⟩:=hs 10 (.inr (.inr rfl))
 clear hs ht hat
 obtain ⟨_,e0,e1⟩:=@Zma c0 c1 c2 c3 c4 c5 c6 c7 c8 c9 c10 c11 c12 c13 c14 c15 (co lq 0) (co lq 1) (co lq 2) (co lq 3) (co lq 4) d0.1
 obtain ⟨_,e5,e6⟩:=@Zma c0 c1 c2 c3 c4 c5 c6 c7 c8 c9 c10 c11 c12 c13 c14 c15 (co lq 5) (co lq 6) (co lq 7) (co lq 8) (co lq 9) d1.1
 obtain ⟨_,e10,e11⟩:=@Zma c0 c1 c2 c3 c4 c5 c6 c7 c8 c9 c10 c11 c12 c13 c14 c15 (co lq 10) (co lq 11) (co lq 12) (co lq 13) (co lq 14) d2.1
 have hx:Z4a (8 * px + 4) (8 * c12 * co lq 0 / co lq 2 + 4 * c14) (8 * c12 * co lq 5 / co lq 7 + 4 * c14) (8 * c12 * co lq 10 / co lq 12 + 4 * c14):=by
  rw [← e0,← e5,← e10]; exact hx
 have hy:Z4a (8 * py + 4) (4 * c15 - 8 * c12 * co lq 1 / co lq 2) (4 * c15 - 8 * c12 * co lq 6 / co lq 7) (4 * c15 - 8 * c12 * co lq 11 / co lq 12):=by
  rw [← e1,← e6,← e11]; exact hy
 clear e0 e1 e5 e6 e10 e11 d0 d1 d2
 have A:∃ m z,(Z1n [c0,c1,c2,c3,c4,c5,c6,c7,c8,c9,c10,c11,c12,c13,c14,c15,b0,b1,b2,b3,b4,b5,w0,w1,w2,w3]≤z∧z≤Z6z [c0,c1,c2,c3,c4,c5,c6,c7,c8,c9,c10,c11,c12,c13,c14,c15,b0,b1,b2,b3,b4,b5,w0,w1,w2,w3])∧vw [c0,c1,c2,c3,c4,c5,c6,c7,c8,c9,c10,c11,c12,c13,c14,c15,b0,b1,b2,b3,b4,b5,w0,w1,w2,w3] 0≤m∧8 * c12 * m / z + 4 * c14≤8 * px + 4:=by
  rcases hx.1 with h | h | h
  ·exact ⟨_,_,z0,x0.1,h⟩
  ·exact ⟨_,_,z5,x5.1,h⟩
  ·exact ⟨_,_,z10,x10.1,h⟩
 have A':∃ m z,(Z1n [c0,c1,c2,c3,c4,c5,c6,c7,c8,c9,c10,c11,c12,c13,c14,c15,b0,b1,b2,b3,b4,b5,w0,w1,w2,w3]≤z∧z≤Z6z [c0,c1,c2,c3,c4,c5,c6,c7,c8,c9,c10,c11,c12,c13,c14,c15,b0,b1,b2,b3,b4,b5,w0,w1,w2,w3])∧m≤vw [c0,c1,c2,c3,c4,c5,c6,c7,c8,c9,c10,c11,c12,c13,c14,c15,b0,b1,b2,b3,b4,b5,w0,w1,w2,w3] 3∧8 * px + 4≤8 * c12 * m / z + 4 * c14:=by
  rcases hx.2 with h | h | h
  ·exact ⟨_,_,z0,x0.2,h⟩
  ·exact ⟨_,_,z5,x5.2,h⟩
  ·exact ⟨_,_,z10,x10.2,h⟩
 have D:∃ m z,(Z1n [c0,c1,c2,c3,c4,c5,c6,c7,c8,c9,c10,c11,c12,c13,c14,c15,b0,b1,b2,b3,b4,b5,w0,w1,w2,w3]≤z∧z≤Z6z [c0,c1,c2,c3,c4,c5,c6,c7,c8,c9,c10,c11,c12,c13,c14,c15,b0,b1,b2,b3,b4,b5,w0,w1,w2,w3])∧m≤vw [c0,c1,c2,c3,c4,c5,c6,c7,c8,c9,c10,c11,c12,c13,c14,c15,b0,b1,b2,b3,b4,b5,w0,w1,w2,w3] 4∧4 * c15 - 8 * c12 * m / z≤8 * py + 4:=by
  rcases hy.1 with h | h | h
  ·exact ⟨_,_,z0,y0.2,h⟩
  ·exact ⟨_,_,z5,y5.2,h⟩
  ·exact ⟨_,_,z10,y10.2,h⟩
 have D':∃ m z,(Z1n [c0,c1,c2,c3,c4,c5,c6,c7,c8,c9,c10,c11,c12,c13,c14,c15,b0,b1,b2,b3,b4,b5,w0,w1,w2,w3]≤z∧z≤Z6z [c0,c1,c2,c3,c4,c5,c6,c7,c8,c9,c10,c11,c12,c13,c14,c15,b0,b1,b2,b3,b4,b5,w0,w1,w2,w3])∧vw [c0,c1,c2,c3,c4,c5,c6,c7,c8,c9,c10,c11,c12,c13,c14,c15,b0,b1,b2,b3,b4,b5,w0,w1,w2,w3] 1≤m∧8 * py + 4≤4 * c15 - 8 * c12 * m / z:=by
  rcases hy.2 with h | h | h
  ·exact ⟨_,_,z0,y0.1,h⟩
  ·exact ⟨_,_,z5,y5.1,h⟩
  ·exact ⟨_,_,z10,y10.1,h⟩
 obtain ⟨m0,u0,k0,g0,p0⟩:=A
 obtain ⟨m1,u1,k1,g1,p1⟩:=A'
 obtain ⟨m2,u2,k2,g2,p2⟩:=D
 obtain ⟨m3,u3,k3,g3,p3⟩:=D'
 exact Z153 hc hwin k0 k1 k2 k3 g0 g1 g2 g3 p0 p1 p2 p3
theorem Z155 {l c:List Int} {x y f:Int} (h:f ∈ Z36 l c x y):∃ (i k:Nat) (q:Int),i < l.length∧k < (Z1t (l.getD i 0)).length∧q ∈ ptS l c i k∧(atL (Z1c q++[x,y])).getD 5 0=0∧co f 1=(i:Int):=by
 unfold Z36 at h
 obtain ⟨p,hp,hf⟩:=List.mem_filterMap.1 h
 obtain ⟨i,k,m,hi,hk,hm,rfl⟩:=Z61 hp
 unfold Z1y at hf
 split at hf
 ·rename_i h0
  rw [Z14e] at h0
  simp only [Option.some.injEq] at hf
  refine ⟨i,k,_,hi,hk,Zx hm,h0,?_⟩
  rw [← hf]
  have:=Z8b (l.getD i 0) i k m ((ptS l c i k).getD m 0)
  unfold co at this ⊢
  rw [Z4]
  exact this
 ·cases hf
noncomputable def Zi1 (b:Int):Int:=cod [co b 12,co b 13,co b 14,co b 15,co b 16,co b 17]
theorem Zwa (b:Int):six6 (Zi1 b)=[co b 12,co b 13,co b 14,co b 15,co b 16,co b 17]:=by
 unfold six6 Zi1
 have:∀ l j,co (cod l) j=l.getD j 0:=fun l j=>by unfold co; rw [Z4]
 simp only [this,TX.sat,XB.prop,X.den,Z1gw,Z1gx,Z1gq,Z1gr,Z1gu,Z1gv,Z1gs,Z1gt,mkS,mkP,and_true,true_and,Z1h1,Z1h2,not_or,not_and,Z1gy,ne_eq,Z1gz,Z1h0]
theorem Z156 {b n:Int} (h:Zov (Z6p b n)=true):okB (Zi1 b)=true:=by
 obtain ⟨_,hv,_,_,hb⟩:=Z8a h
 have hw:=Zyz hv
 rw [← hb] at hw
 unfold Zsr at hw
 simp only [TX.sat,XB.prop,X.den,Z1gw,Z1gx,Z1gq,Z1gr,Z1gu,Z1gv,Z1gs,Z1gt,mkS,mkP,and_true,true_and,Z1h1,Z1h2,not_or,not_and,Z1gy,ne_eq,Z1gz,Z1h0] at hw
 unfold okB
 rw [Zwa,Z5w]
 simp only [TX.sat,XB.prop,X.den,Z1gw,Z1gx,Z1gq,Z1gr,Z1gu,Z1gv,Z1gs,Z1gt,mkS,mkP,and_true,true_and,Z1h1,Z1h2,not_or,not_and,Z1gy,ne_eq,Z1gz,Z1h0,Nat.zero_add,Nat.reduceAdd]
 omega
theorem Zst {c0 c1 c2 c3 c4 c5 c6 c7 c8 c9 c10 c11 c12 c13 c14 c15 w0 w1 w2 w3 x y I T f:Int} (hE:Z2k [I,T]=0) (hc:Z2b [c0,c1,c2,c3,c4,c5,c6,c7,c8,c9,c10,c11,c12,c13,c14,c15] 0=true) (hwin:Z2q [c0,c1,c2,c3,c4,c5,c6,c7,c8,c9,c10,c11,c12,c13,c14,c15,w0,w1,w2,w3]=0) (hp:w0≤x∧w1≤y∧x≤w2∧y≤w3) (hf:f ∈ Z36 (dec I) [c0,c1,c2,c3,c4,c5,c6,c7,c8,c9,c10,c11,c12,c13,c14,c15] x y) :
  co f 1 ∈ Z70 ((dec I).map Zi1) [c0,c1,c2,c3,c4,c5,c6,c7,c8,c9,c10,c11,c12,c13,c14,c15,w0,w1,w2,w3] (dec I).length:=by
 obtain ⟨i,k,q,hi,hk,hq,hat,e⟩:=Z155 hf
 have hmem:(dec I).getD i 0 ∈ dec I:=Zx hi
 have hmay:=(Z1z hE).2.2.2 _ hmem
 obtain ⟨_,hv,_,htri,hb⟩:=Z8a hmay
 have hok:=Z156 hmay
 have htm:(Z1t ((dec I).getD i 0)).getD k 0 ∈ Z1t ((dec I).getD i 0):=Zx hk
 have htn:=htri _ htm
 simp only [Zzm,decide_eq_true_iff] at htn
 rw [e,Zjb]
 refine ⟨i,hi,rfl,?_⟩
 have hg:((dec I).map Zi1).getD i 0=Zi1 ((dec I).getD i 0):=by simp [List.getD,hi]
 rw [hg]
 rw [(Z1ep (x:=[c0,c1,c2,c3,c4,c5,c6,c7,c8,c9,c10,c11,c12,c13,c14,c15,w0,w1,w2,w3]) rfl hwin hok).2]
 have ha:Zzk (Zi1 ((dec I).getD i 0)) [c0,c1,c2,c3,c4,c5,c6,c7,c8,c9,c10,c11,c12,c13,c14,c15,w0,w1,w2,w3]=[c0,c1,c2,c3,c4,c5,c6,c7,c8,c9,c10,c11,c12,c13,c14,c15,co ((dec I).getD i 0) 12,co ((dec I).getD i 0) 13,co ((dec I).getD i 0) 14,co ((dec I).getD i 0) 15,co ((dec I).getD i 0) 16,co ((dec I).getD i 0) 17,w0,w1,w2,w3]:=by
  unfold Zzk
  rw [Zwa]
  rfl
 rw [ha]
 unfold ptS Z9s at hq
 obtain ⟨lq,hl,hpart⟩:=List.mem_filterMap.1 hq
 unfold Zrz at hpart
 split at hpart
 ·simp only [Option.some.injEq] at hpart
  rw [← hpart,Z1fr] at hat
  exact Zz0 hc hp hb hv htn hl hat
 ·cases hpart
end Go.Proofs.YtgcoidbaoigkeaaGreatDoor.fix
namespace Go.Proofs.YtgcoidbaoigkeaaGreatDoor.fix
open Go.RowKit Go.Sx
noncomputable def Zb9 (b:Int):Int:=cod [co b 0,co b 1,0,co b 3,co b 4,co b 5,co b 6,co b 7,co b 8,co b 9,co b 10,co b 11,co b 12,co b 13,co b 14,co b 15,co b 16,co b 17]
theorem Z1k (b:Int) {j:Nat} (h:j < 18) (h2:j ≠ 2):co (Zb9 b) j=co b j:=by
 have:j=0∨j=1∨j=3∨j=4∨j=5∨j=6∨j=7∨j=8∨j=9∨j=10∨j=11∨j=12∨j=13∨j=14∨j=15∨j=16∨j=17:=by omega
 unfold Zb9
 rw [Zig]
 rcases this with rfl | rfl | rfl | rfl | rfl | rfl | rfl | rfl | rfl | rfl | rfl | rfl | rfl | rfl | rfl | rfl | rfl <;> rfl
theorem Zhn (b:Int):co (Zb9 b) 2=0:=by
 unfold Zb9
 rw [Zig]
 rfl
theorem Zz1 (b:Int):Z1t (Zb9 b)=[]:=by
 unfold Z1t
 rw [Zhn,Z8n,Z22]
open Classical in
noncomputable def Ze1 (L:List Int) (i:Nat) (b:Int):Int:=if (i:Int) ∈ L then b else Zb9 b
noncomputable def Zpo (I L:List Int):Nat→List Int
 | 0=>[]
 | i + 1=>Zpo I L i++[Ze1 L i (I.getD i 0)]
theorem Z62 (I L:List Int):∀ n,(Zpo I L n).length=n
 | 0=>rfl
 | n + 1=>by rw [Zpo,List.length_append,Z62 I L n]; rfl
theorem Zwb (I L:List Int):∀ {n i:Nat},i < n→(Zpo I L n).getD i 0=Ze1 L i (I.getD i 0)
 | n + 1,i,h=>by
  rw [Zpo]
  by_cases hi:i < n
  ·rw [← Zwb I L hi]
   simp only [List.getD]
   rw [List.getElem?_append_left (by rw [Z62]; exact hi)]
  ·have:i=n:=by omega
   subst this
   simp only [List.getD]
   rw [List.getElem?_append_right (by rw [Z62]; omega),Z62,Nat.sub_self]
   rfl
noncomputable def Zam (I L:List Int):List Int:=Zpo I L I.length
theorem Z8e (I L:List Int):(Zam I L).length=I.length:=Z62 I L _
theorem Zmb (I L:List Int) {i:Nat} (h:i < I.length):(Zam I L).getD i 0=Ze1 L i (I.getD i 0):=Zwb I L h
theorem Zpp {I L:List Int} {b:Int} (h:b ∈ Zam I L):∃ i,i < I.length∧b=Ze1 L i (I.getD i 0):=by
 obtain ⟨i,hi,e⟩:=Zvy h
 rw [Z8e] at hi
 exact ⟨i,hi,by rw [e,Zmb I L hi]⟩
theorem Zan (L:List Int) (i:Nat) (b:Int):Ze1 L i b=b∨Ze1 L i b=Zb9 b:=by
 unfold Ze1
 split
 ·exact .inl rfl
 ·exact .inr rfl
theorem Z1ad (L:List Int) (i:Nat) (b:Int) {j:Nat} (h:j < 18) (h2:j ≠ 2):co (Ze1 L i b) j=co b j:=by
 rcases Zan L i b with e | e
 ·rw [e]
 ·rw [e,Z1k b h h2]
def Z3u (I I':List Int):Prop:=I.length=I'.length∧∀ i j:Nat,3≤j→j≤11→co (I.getD i 0) j=co (I'.getD i 0) j
theorem Z157 (I L:List Int):Z3u (Zam I L) I:=by
 refine ⟨Z8e I L,fun i j h3 h11=>?_⟩
 by_cases hi:i < I.length
 ·rw [Zmb I L hi,Z1ad L i _ (by omega) (by omega)]
 ·have h1:I.getD i 0=0:=by simp [List.getD,hi]
  have h2:(Zam I L).getD i 0=0:=by simp [List.getD,Z8e,hi]
  rw [h1,h2]
theorem Zjt {I I':List Int} (h:Z3u I I'):Z15 I=Z15 I':=by
 funext acc f
 unfold Z15
 rw [h.2 _ 10 (by omega) (by omega)]
theorem Zsu {b:Int} (h:Zc Z39 (dec b)):Zc Z39 (dec (Zb9 b)):=by
 have k:∀ {j:Nat} {q:K},Z39[j]?=some q→inK q (co b j):=fun hk=>Z1c5 h hk
 unfold Zb9
 rw [Z4]
 exact ⟨k (j:=0) rfl,k (j:=1) rfl,trivial,k (j:=3) rfl,k (j:=4) rfl,k (j:=5) rfl,k (j:=6) rfl,k (j:=7) rfl,k (j:=8) rfl,k (j:=9) rfl,k (j:=10) rfl,k (j:=11) rfl,k (j:=12) rfl,k (j:=13) rfl,k (j:=14) rfl,k (j:=15) rfl,k (j:=16) rfl,k (j:=17) rfl,trivial⟩
theorem Zz2 {I T:List Int} (L:List Int) (h:Z3o I T):Z3o (Zam I L) T:=by
 refine ⟨fun b hb=>?_,h.2⟩
 obtain ⟨i,hi,rfl⟩:=Zpp hb
 obtain ⟨h0,h1,h2,h3⟩:=h.1 _ (Zx hi)
 rcases Zan L i (I.getD i 0) with e | e
 ·rw [e]; exact ⟨h0,h1,h2,h3⟩
 ·rw [e]
  refine ⟨Zsu h0,?_,?_,?_⟩
  ·rw [Z1k _ (by omega) (by omega)]; exact h1
  ·rw [Z1k _ (by omega) (by omega)]; exact h2
  ·rw [Zhn,Z8n,Z22]; exact fun v hv=>by cases hv
theorem Z158 {b n:Int} (h:Zov (Z6p b n)=true):Zov (Z6p (Zb9 b) n)=true:=by
 have hx:Z6p (Zb9 b) n=[ctN (co b 0),ctN (co b 1),0,co b 3,co b 4,co b 5,co b 6,co b 7,co b 8,co b 9,co b 10,co b 11,co b 12,co b 13,co b 14,co b 15,co b 16,co b 17,n]:=by
  unfold Z6p
  rw [Zhn,Z8n]
  simp only [Z1k b (show 0 < 18 by omega) (by omega),Z1k b (show 1 < 18 by omega) (by omega),Z1k b (show 3 < 18 by omega) (by omega),Z1k b (show 4 < 18 by omega) (by omega),Z1k b (show 5 < 18 by omega) (by omega),Z1k b (show 6 < 18 by omega) (by omega),Z1k b (show 7 < 18 by omega) (by omega),Z1k b (show 8 < 18 by omega) (by omega),Z1k b (show 9 < 18 by omega) (by omega),Z1k b (show 10 < 18 by omega) (by omega),Z1k b (show 11 < 18 by omega) (by omega),Z1k b (show 12 < 18 by omega) (by omega),Z1k b (show 13 < 18 by omega) (by omega),Z1k b (show 14 < 18 by omega) (by omega),Z1k b (show 15 < 18 by omega) (by omega),Z1k b (show 16 < 18 by omega) (by omega),Z1k b (show 17 < 18 by omega) (by omega)]
 rw [hx]
 unfold Zov Z6p at h
 unfold Zov
 simp only [TX.sat,XB.prop,X.den,Z1gw,Z1gx,Z1gq,Z1gr,Z1gu,Z1gv,Z1gs,Z1gt,mkS,mkP,and_true,true_and,Z1h1,Z1h2,not_or,not_and,Z1gy,ne_eq,Z1gz,Z1h0,Z1h3,Z1h4] at h ⊢
 obtain ⟨⟨a1,a2,a3⟩,a4,a5,a6,a7,a8⟩:=h
 refine ⟨⟨a1,a2,?_⟩,?_,a5,a6,?_,?_⟩
 ·rw [Z22]; decide
 ·exact a4
 ·rw [Z22]; rfl
 ·exact a8
theorem Zz3 {I L:List Int} {T:Int} (h:Z2k [cod I,T]=0):Z2k [cod (Zam I L),T]=0:=by
 obtain ⟨h1,h2,h3,h4⟩:=Z1z h
 rw [Z4] at h1 h4
 unfold Z2k
 simp only [TX.sat,XB.prop,X.den,Z1gw,Z1gx,Z1gq,Z1gr,Z1gu,Z1gv,Z1gs,Z1gt,mkS,mkP,and_true,true_and,Z1h1,Z1h2,not_or,not_and,Z1gy,ne_eq,Z1gz,Z1h0,Z4,Z8e]
 rw [if_pos ⟨h1,h2⟩,if_pos]
 refine ⟨h3,List.all_eq_true.2 fun b hb=>?_⟩
 obtain ⟨i,hi,rfl⟩:=Zpp hb
 have:=h4 _ (Zx hi)
 rcases Zan L i (I.getD i 0) with e | e
 ·rw [e]; exact this
 ·rw [e]; exact Z158 this
theorem Zho {b b':Int} {i k:Nat} {P:List Int} (h:co b 9=co b' 9):∀ n,Z3e b i k P n=Z3e b' i k P n
 | 0=>rfl
 | n + 1=>by rw [Z3e,Z3e,Zho h n]; unfold Z7g; rw [h]
theorem Zju {l l':List Int} {pt pt':Nat→Nat→List Int} {i:Nat} (h:co (l.getD i 0) 9=co (l'.getD i 0) 9) (hp:∀ k,pt i k=pt' i k):∀ n,Zjh l pt i n=Zjh l' pt' i n
 | 0=>rfl
 | n + 1=>by rw [Zjh,Zjh,Zju h hp n,hp n,Zho h]
theorem Z9u {f:Int→Option Int}:∀ {l:List Int},(∀ x ∈ l,f x=none)→l.filterMap f=[]
 | [],_=>rfl
 | x::l,h=>by rw [List.filterMap_cons_none (h x (List.mem_cons_self ..)),Z9u fun y hy=>h y (List.mem_cons_of_mem _ hy)]
theorem Zpq {l:List Int} {pt:Nat→Nat→List Int} {i k:Nat} {p:Int}:∀ {n},i < n→p ∈ Zjh l pt i (Z1t (l.getD i 0)).length→p ∈ Z3p l pt n
 | n + 1,h,hp=>by
  rw [Z3p,List.mem_append]
  by_cases hi:i < n
  ·exact .inl (Zpq (k:=k) hi hp)
  ·have:i=n:=by omega
   subst this
   exact .inr hp
theorem Zsv {x y:Int} {l:List Int} {pt:Nat→Nat→List Int} {i n:Nat} {p f:Int} (hp:p ∈ Zjh l pt i n) (hf:Z1y x y p=some f):co f 1=(i:Int):=by
 obtain ⟨k,m,_,_,rfl⟩:=Zm1 hp
 unfold Z1y at hf
 split at hf
 ·simp only [Option.some.injEq] at hf
  rw [← hf,Zig]
  exact Z8b _ _ _ _ _
 ·cases hf
theorem Zjv {I L c:List Int} {x y:Int} (h:∀ f ∈ Z36 I c x y,co f 1 ∈ L):∀ n,n≤I.length→(Z3p (Zam I L) (ptS (Zam I L) c) n).filterMap (Z1y x y)=(Z3p I (ptS I c) n).filterMap (Z1y x y)
 | 0,_=>rfl
 | n + 1,hn=>by
  rw [Z3p,Z3p,List.filterMap_append,List.filterMap_append,Zjv h n (by omega)]
  congr 1
  have hat:=Zmb I L (show n < I.length by omega)
  unfold Ze1 at hat
  split at hat
  ·have hpt:∀ k,ptS (Zam I L) c n k=ptS I c n k:=fun k=>by unfold ptS; rw [hat]
   rw [hat,Zju (l:=Zam I L) (l':=I) (by rw [hat]) hpt]
  ·rename_i hni
   rw [hat,Zz1]
   show [].filterMap (Z1y x y)=_
   rw [List.filterMap_nil]
   refine (Z9u fun p hp=>?_).symm
   cases hf:Z1y x y p with
   | none=>rfl
   | some f =>
    have hin:f ∈ Z36 I c x y:=List.mem_filterMap.2 ⟨p,Zpq (k:=0) (show n < I.length by omega) hp,hf⟩
    have:=h f hin
    rw [Zsv hp hf] at this
    exact absurd this hni
theorem Zz4 {I L c:List Int} {x y:Int} (h:∀ f ∈ Z36 I c x y,co f 1 ∈ L):Z36 (Zam I L) c x y=Z36 I c x y:=by
 unfold Z36 Zh8
 rw [Z8e]
 exact Zjv h _ (Nat.le_refl _)
end Go.Proofs.YtgcoidbaoigkeaaGreatDoor.fix
namespace Go.Sx
open Go.RowKit
abbrev SpF:=St→TypeId→SC→FuncId→List (Nat × Nat)→Option (List E × (Nat→St))
section
variable (P:Program) (g:Nat) (fS:FuncId) (f:SpF)
end
section
variable {P:Program} {Γ:List Sum} {Ψ:List Int→Prop} {g:Nat} {fS:FuncId} {f:SpF} {sum:Sum}
end
def Z1ae (id0:Nat):Code→Bool
 | .seq x y=>Z1ae id0 x || Z1ae id0 y
 | .region id _ _=>id == id0
 | _=>false
section
variable {P:Program} {Γ:List Sum} {Ψ:List Int→Prop} {g:Nat} {fS:FuncId} {f:SpF} {sum:Sum}
end
end Go.Sx
namespace Go.Sx
open Go.RowKit
section
variable {P:Program} {Γ:List Sum} {Ψ:List Int→Prop}
end
end Go.Sx
