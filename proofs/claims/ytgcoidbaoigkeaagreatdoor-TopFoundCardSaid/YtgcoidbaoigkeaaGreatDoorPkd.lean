/-
  Symbolic execution of the model, and what functions of the program come to: part 4.
-/
import Derived.RangeFuncBox
import Derived.RangeFuncLeaves
import Derived.Shelf.Abstract
import Derived.WalkKit
import Derived.OwnWalkIn
import Derived.TacticsInMore
import Derived.LoopNIn
import Derived.LoopIn
import Derived.Test.YtgcoidbaoigkeaaGreatDoorProg
import Derived.Shelf.Sort.Plain
import Derived.Shelf.Slices.In.SortNone
import Derived.Ground.Names2Prog
import Derived.Lib.SliceRun
import Derived.Test.YtgcoidbaoigkeaaGreatDoorPkc
set_option linter.unusedVariables false
set_option linter.unusedSimpArgs false
open List renaming getElem?_cons_zero → Z1ke, getElem?_cons_succ → Z1kf, getD_cons_zero → Z1kg, getD_cons_succ → Z1kh, cons_append → Z1ki, nil_append → Z1kj, map_cons → Z1kk, map_nil → Z1kl
namespace Go.Proofs.YtgcoidbaoigkeaaGreatDoor.fix
open Go.RowKit Go.Sx
theorem Z22 {x:List Int} {o:Nat}:Z72 x o=true↔(((-32768≤x.getD o 0∧x.getD o 0≤32768)∧(-32768≤x.getD (o + 1) 0∧x.getD (o + 1) 0≤32768)∧(-32768≤x.getD (o + 2) 0∧x.getD (o + 2) 0≤32768)) ∧
  ((-32768≤x.getD (o + 3) 0∧x.getD (o + 3) 0≤32768)∧(-32768≤x.getD (o + 4) 0∧x.getD (o + 4) 0≤32768)∧(-32768≤x.getD (o + 5) 0∧x.getD (o + 5) 0≤32768)) ∧
  (x.getD o 0≤x.getD (o + 3) 0∧x.getD (o + 1) 0≤x.getD (o + 4) 0∧x.getD (o + 2) 0≤x.getD (o + 5) 0)):=by
 simp only [Z72,Z1kr,Zd,Zb,Nat.add_assoc,Nat.reduceAdd]
theorem Z1a (xs:List Int) (h:Z17 [some ⟨1,0⟩] xs):False:=by
 have h1:1≤xs.getD 0 0∧xs.getD 0 0≤0:=h.2 0
 omega
noncomputable def Zir:List Sum:=[]
def Zqb:List Inf:=[]
def Zqc:TX:=(.ite (.or (.or (.lt (.v 0) (.c (-1099511627776))) (.lt (.c 1099511627776) (.v 1))) (.lt (.v 1) (.v 0))) (.ret [(.c 0),(.c 0),(.c 8)])
(.ite (.lt (.v 2) (.c 0)) (.ite (.or (.or (.lt (.mul (.v 2) (.v 1)) (.c (-1099511627776))) (.lt (.c 1099511627776) (.mul (.v 2) (.v 0)))) (.lt (.mul (.v 2) (.v 0)) (.mul (.v 2) (.v 1)))) (.ret [(.c 0),(.c 0),(.c 20)])
(.ret [(.mul (.v 2) (.v 1)),(.mul (.v 2) (.v 0)),(.c 0)]))
(.ite (.or (.or (.lt (.mul (.v 2) (.v 0)) (.c (-1099511627776))) (.lt (.c 1099511627776) (.mul (.v 2) (.v 1)))) (.lt (.mul (.v 2) (.v 1)) (.mul (.v 2) (.v 0)))) (.ret [(.c 0),(.c 0),(.c 20)])
(.ret [(.mul (.v 2) (.v 0)),(.mul (.v 2) (.v 1)),(.c 0)]))))
theorem Zqd:Z12 (Zr [] Zqb [] Zb8 (Zq Tryz.prog Z7x gl0 Zir 1000 127 [An 2,I1] [An 2,I1]))=Zqc:=by kernel_rfl
theorem Z14z:Gok Tryz.prog Zir:=noG
theorem Z150:Zj Zir Zqb:=Z8
theorem Z10g:Zcc.ok Tryz.prog:=Sum.okPF (pin:=Zb8) facts.mixed Z14z Z150 Zqd rfl (fun _=>rfl) (fun xs h=>h.1) (by
 intro xs hx hp
 obtain ⟨a0,a1,a2,rfl⟩:=len3 hx
 obtain ⟨hp,hl⟩:=hp
 have k0:-32768≤a0∧a0≤32768:=hp.2 0
 have k1:-32768≤a1∧a1≤32768:=hp.2 1
 have k2:-1024≤a2∧a2≤1024:=hp.2 2
 have hl:a0≤a1:=hl
 have m0:=Z16 (x:=a2) (y:=a0) k2 k0
 have m1:=Z16 (x:=a2) (y:=a1) k2 k1
 have n0:a2 < 0→a2 * a1≤a2 * a0:=fun h=>Int.mul_le_mul_of_nonpos_left (by omega) hl
 have n1:0≤a2→a2 * a0≤a2 * a1:=fun h=>Int.mul_le_mul_of_nonneg_left hl h
 simp only [Zqc,TX.sat,XB.prop,X.den,Z1kk,Z1kl,Z1ke,Z1kf,Z1ki,Z1kj,Z1kg,Z1kh,mkS,mkP,and_true,true_and,Z1kp,Z1kq,not_or,not_and,Z1km,ne_eq,Z1kn,Z1ko,Zb9,scB]
 clear hx hp
 generalize a2 * a0=p at *
 generalize a2 * a1=q at *
 refine ⟨fun h=>absurd h (by omega),fun _=>⟨fun h=>⟨fun h'=>absurd h' (by omega),fun _=>?_⟩,fun h=>⟨fun h'=>absurd h' (by omega),fun _=>?_⟩⟩⟩
 ·have:=n0 h
  rw [Int.min_eq_right this,Int.max_eq_left this]
 ·have:=n1 (by omega)
  rw [Int.min_eq_left this,Int.max_eq_right this])
theorem Ztm:Z1g Zcc Zpy:=⟨fun xs h=>(Z1a xs h).elim,fun vs xs h hp=>by
  have k0:-32768≤xs.getD 0 0∧xs.getD 0 0≤32768:=hp.1.2 0
  have k1:-32768≤xs.getD 1 0∧xs.getD 1 0≤32768:=hp.1.2 1
  have k2:-1024≤xs.getD 2 0∧xs.getD 2 0≤1024:=hp.1.2 2
  have m0:=Z16 (x:=xs.getD 2 0) (y:=xs.getD 0 0) k2 k0
  have m1:=Z16 (x:=xs.getD 2 0) (y:=xs.getD 1 0) k2 k1
  exact Z1 (Z5.2 (by omega)) (Z1 (Z5.2 (by omega)) (Z1 (Z5.2 (by omega)) Z4))⟩
noncomputable def Ztn:List Sum:=[]
def Z151:List Inf:=[]
def Z152:TX:=(.ite (.or (.or (.or (.lt (.v 0) (.c (-1099511627776))) (.lt (.c 1099511627776) (.v 1))) (.lt (.v 1) (.v 0))) (.or (.or (.lt (.v 2) (.c (-1099511627776))) (.lt (.c 1099511627776) (.v 3))) (.lt (.v 3) (.v 2)))) (.ret [(.c 0),(.c 0),(.c 8)])
(.ite (.or (.or (.lt (.add (.v 0) (.v 2)) (.c (-1099511627776))) (.lt (.c 1099511627776) (.add (.v 1) (.v 3)))) (.lt (.add (.v 1) (.v 3)) (.add (.v 0) (.v 2)))) (.ret [(.c 0),(.c 0),(.c 20)])
(.ret [(.add (.v 0) (.v 2)),(.add (.v 1) (.v 3)),(.c 0)])))
theorem Z10h:Z12 (Zr [] Z151 [] Zic (Zq Tryz.prog Z7x gl0 Ztn 1000 128 [An 2,An 2] [An 2,I1]))=Z152:=by kernel_rfl
theorem Z1hx:Gok Tryz.prog Ztn:=noG
theorem Z1hy:Zj Ztn Z151:=Z8
theorem Z1br:Zmf.ok Tryz.prog:=Sum.okPF (pin:=Zic) facts.mixed Z1hx Z1hy Z10h rfl (fun _=>rfl) (fun xs h=>h.1) (by
 intro xs hx hp
 obtain ⟨a0,a1,a2,a3,rfl⟩:=len4 hx
 obtain ⟨hp,hl⟩:=hp
 have k0:-1073741824≤a0∧a0≤1073741824:=hp.2 0
 have k1:-1073741824≤a1∧a1≤1073741824:=hp.2 1
 have k2:-1073741824≤a2∧a2≤1073741824:=hp.2 2
 have k3:-1073741824≤a3∧a3≤1073741824:=hp.2 3
 have hl:a0≤a1∧a2≤a3:=hl
 simp only [Z152,TX.sat,XB.prop,X.den,Z1kk,Z1kl,Z1ke,Z1kf,Z1ki,Z1kj,Z1kg,Z1kh,mkS,mkP,and_true,true_and,Z1kp,Z1kq,not_or,not_and,Z1km,ne_eq,Z1kn,Z1ko,Zid]
 exact ⟨fun h=>absurd h (by omega),fun _=>⟨fun h'=>absurd h' (by omega),fun _=>trivial⟩⟩)
theorem Z153:Z1g Zmf Z143:=⟨fun xs h=>(Z1a xs h).elim,fun vs xs h hp=>by
  have k0:-1073741824≤xs.getD 0 0∧xs.getD 0 0≤1073741824:=hp.1.2 0
  have k1:-1073741824≤xs.getD 1 0∧xs.getD 1 0≤1073741824:=hp.1.2 1
  have k2:-1073741824≤xs.getD 2 0∧xs.getD 2 0≤1073741824:=hp.1.2 2
  have k3:-1073741824≤xs.getD 3 0∧xs.getD 3 0≤1073741824:=hp.1.2 3
  exact Z1 (Z5.2 (by omega)) (Z1 (Z5.2 (by omega)) (Z1 (Z5.2 (by omega)) Z4))⟩
noncomputable def Zmv:List Sum:=[Z1l]
def Z154:List Inf:=[Z8x]
def Z155:TX:=(.ite (.or (.or (.lt (.v 0) (.c (-1099511627776))) (.lt (.c 1099511627776) (.v 1))) (.lt (.v 1) (.v 0))) (.ret [(.c 0),(.c 0),(.c 8)])
(.callp 0 [(.v 0),(.v 2)] (.callp 0 [(.v 1),(.v 2)] (.ret [(.v 3),(.v 5),(.c 0)]))))
theorem Z10i:Z12 (Zr [] Z154 [] Zie (Zq Tryz.prog Z7x gl0 Zmv 1000 129 [An 2,I1] [An 2,I1]))=Z155:=by kernel_rfl
theorem Z1hz:Gok Tryz.prog Zmv:=(fix.one Z7n)
theorem Z1i0:Zj Zmv Z154:=(Z2 Z5k Z8)
theorem Z1bs:Zmg.ok Tryz.prog:=Sum.okPF (pin:=Zie) facts.mixed Z1hz Z1i0 Z10i rfl (fun _=>rfl) (fun xs h=>h.1) (by
 intro xs hx hp
 obtain ⟨a0,a1,a2,rfl⟩:=len3 hx
 obtain ⟨hp,hl⟩:=hp
 have k0:-1073741824≤a0∧a0≤1073741824:=hp.2 0
 have k1:-1073741824≤a1∧a1≤1073741824:=hp.2 1
 have k2:256≤a2∧a2≤256:=hp.2 2
 have hl:a0≤a1:=hl
 obtain rfl:a2=256:=by omega
 simp only [Z155,Zmv,Z1l,TX.sat,XB.prop,X.den,Z1kk,Z1kl,Z1ke,Z1kf,Z1ki,Z1kj,Z1kg,Z1kh,mkS,mkP,and_true,true_and,Z1kp,Z1kq,not_or,not_and,Z1km,ne_eq,Z1kn,Z1ko,Zif,Z1f]
 exact ⟨fun h=>absurd h (by omega),fun _=>trivial⟩)
theorem Z156:Z1g Zmg Z145:=⟨fun xs h=>(Z1a xs h).elim,fun vs xs h hp=>by
  have k0:-1073741824≤xs.getD 0 0∧xs.getD 0 0≤1073741824:=hp.1.2 0
  have k1:-1073741824≤xs.getD 1 0∧xs.getD 1 0≤1073741824:=hp.1.2 1
  exact Z1 (Z5.2 (by omega)) (Z1 (Z5.2 (by omega)) (Z1 (Z5.2 (by omega)) Z4))⟩
noncomputable def Zci:List Sum:=[]
def Zwm:List Inf:=[]
def Zmw:TX:=(.ite (.or (.or (.lt (.v 0) (.c (-32768))) (.lt (.c 32768) (.v 0))) (.or (.or (.lt (.v 3) (.c (-32768))) (.lt (.c 32768) (.v 3))) (.or (.lt (.v 3) (.v 0)) (.or (.or (.lt (.v 1) (.c (-32768))) (.lt (.c 32768) (.v 1))) (.or (.or (.lt (.v 4) (.c (-32768))) (.lt (.c 32768) (.v 4))) (.or (.lt (.v 4) (.v 1)) (.or (.or (.lt (.v 2) (.c (-32768))) (.lt (.c 32768) (.v 2))) (.or (.or (.lt (.v 5) (.c (-32768))) (.lt (.c 32768) (.v 5))) (.lt (.v 5) (.v 2)))))))))) (.ret [(.c 8)])
(.ret [(.c 0)]))
theorem Zto:Z12 (Zr [] Zwm [] Zdz (Zq Tryz.prog Z7x gl0 Zci 1000 64 [An 6] [I1]))=Zmw:=by kernel_rfl
theorem Z1bt:Gok Tryz.prog Zci:=noG
theorem Z1bu:Zj Zci Zwm:=Z8
theorem Zcj:Z32.ok Tryz.prog:=Sum.okF facts.mixed Z1bt Z1bu Zto rfl (fun _=>rfl) (by
 intro xs hx hp
 obtain ⟨a0,a1,a2,a3,a4,a5,rfl⟩:=len6 hx
 by_cases hc0:Z72 [a0,a1,a2,a3,a4,a5] 0=true
 ·have hd0:=hc0
  try simp only [Z22,TX.sat,XB.prop,X.den,Z1kk,Z1kl,Z1ke,Z1kf,Z1ki,Z1kj,Z1kg,Z1kh,mkS,mkP,and_true,true_and,Z1kp,Z1kq,not_or,not_and,Z1km,ne_eq,Z1kn,Z1ko,Nat.reduceAdd,Nat.zero_add] at hd0
  simp only [Zmw,Zci,TX.sat,XB.prop,X.den,Z1kk,Z1kl,Z1ke,Z1kf,Z1ki,Z1kj,Z1kg,Z1kh,mkS,mkP,and_true,true_and,Z1kp,Z1kq,not_or,not_and,Z1km,ne_eq,Z1kn,Z1ko,Z2s,hc0,ex3,ex4,ex5,ex6,Zfx,Zam,er,b01,Zb,if_true,if_false,reduceIte,Bool.false_eq_true,Nat.reduceAdd,Nat.zero_add]
  clear hc0
  repeat' first | exact trivial | refine And.intro ?_ ?_ | intro _
  all_goals first | trivial | rfl | omega | (simp [Int.max_comm,Int.min_comm]; done) | (simp only [List.cons.injEq,and_true,true_and]; omega) | (split <;> first | trivial | rfl | omega)
 ·have hd0:=hc0
  try simp only [Z22,TX.sat,XB.prop,X.den,Z1kk,Z1kl,Z1ke,Z1kf,Z1ki,Z1kj,Z1kg,Z1kh,mkS,mkP,and_true,true_and,Z1kp,Z1kq,not_or,not_and,Z1km,ne_eq,Z1kn,Z1ko,Nat.reduceAdd,Nat.zero_add] at hd0
  simp only [Zmw,Zci,TX.sat,XB.prop,X.den,Z1kk,Z1kl,Z1ke,Z1kf,Z1ki,Z1kj,Z1kg,Z1kh,mkS,mkP,and_true,true_and,Z1kp,Z1kq,not_or,not_and,Z1km,ne_eq,Z1kn,Z1ko,Z2s,hc0,ex3,ex4,ex5,ex6,Zfx,Zam,er,b01,Zb,if_true,if_false,reduceIte,Bool.false_eq_true,Nat.reduceAdd,Nat.zero_add]
  clear hc0
  repeat' first | exact trivial | refine And.intro ?_ ?_ | intro _
  all_goals first | trivial | rfl | omega | (simp [Int.max_comm,Int.min_comm]; done) | (simp only [List.cons.injEq,and_true,true_and]; omega) | (split <;> first | trivial | rfl | omega))
theorem Za7:Z1g Z32 Zcd:=⟨fun _ h=>h,fun vs xs h hp=>Z1 (Z10c _ (by omega)) Z4⟩
theorem Z1i1 {e:Int} (h:0≤e∧e≤20):Z17 (ivs 6 (-32768) 32768++[iv 0 20]) (ex7 (z7 e)) :=
 Z1 (Z5.2 (by simp [z7])) (Z1 (Z5.2 (by simp [z7])) (Z1 (Z5.2 (by simp [z7])) (Z1 (Z5.2 (by simp [z7])) (Z1 (Z5.2 (by simp [z7])) (Z1 (Z5.2 (by simp [z7])) (Z1 (Z5.2 (by simp [z7,h])) Z4))))))
noncomputable def Zck:List Sum:=[]
def Zwn:List Inf:=[]
def Zmx:TX:=(.ite (.or (.lt (.v 0) (.v 6)) (.or (.lt (.v 9) (.v 3)) (.or (.lt (.v 1) (.v 7)) (.or (.lt (.v 10) (.v 4)) (.or (.lt (.v 2) (.v 8)) (.lt (.v 11) (.v 5))))))) (.ret [(.c 0)])
(.ret [(.c 1)]))
theorem Ztp:Z12 (Zr [] Zwn [] Ze0 (Zq Tryz.prog Z7x gl0 Zck 1000 85 [An 6,An 6] [Bo]))=Zmx:=by kernel_rfl
theorem Z1bv:Gok Tryz.prog Zck:=noG
theorem Z1bw:Zj Zck Zwn:=Z8
theorem Z157:Zce.ok Tryz.prog:=Sum.okF facts.mixed Z1bv Z1bw Ztp rfl (fun _=>rfl) (by
 intro xs hx hp
 obtain ⟨a0,a1,a2,a3,a4,a5,a6,a7,a8,a9,a10,a11,rfl⟩:=Z1bk hx
 by_cases hc0:Z65 [a0,a1,a2,a3,a4,a5,a6,a7,a8,a9,a10,a11]=true
 ·have hd0:=hc0
  try simp only [Z65,Zb,TX.sat,XB.prop,X.den,Z1kk,Z1kl,Z1ke,Z1kf,Z1ki,Z1kj,Z1kg,Z1kh,mkS,mkP,and_true,true_and,Z1kp,Z1kq,not_or,not_and,Z1km,ne_eq,Z1kn,Z1ko,Nat.reduceAdd,Nat.zero_add] at hd0
  simp only [Zmx,Zck,TX.sat,XB.prop,X.den,Z1kk,Z1kl,Z1ke,Z1kf,Z1ki,Z1kj,Z1kg,Z1kh,mkS,mkP,and_true,true_and,Z1kp,Z1kq,not_or,not_and,Z1km,ne_eq,Z1kn,Z1ko,Z6r,hc0,ex3,ex4,ex5,ex6,Zfx,Zam,er,b01,Zb,if_true,if_false,reduceIte,Bool.false_eq_true,Nat.reduceAdd,Nat.zero_add]
  clear hc0
  repeat' first | exact trivial | refine And.intro ?_ ?_ | intro _
  all_goals first | trivial | rfl | omega | (simp [Int.max_comm,Int.min_comm]; done) | (simp only [List.cons.injEq,and_true,true_and]; omega) | (split <;> first | trivial | rfl | omega)
 ·have hd0:=hc0
  try simp only [Z65,Zb,TX.sat,XB.prop,X.den,Z1kk,Z1kl,Z1ke,Z1kf,Z1ki,Z1kj,Z1kg,Z1kh,mkS,mkP,and_true,true_and,Z1kp,Z1kq,not_or,not_and,Z1km,ne_eq,Z1kn,Z1ko,Nat.reduceAdd,Nat.zero_add] at hd0
  simp only [Zmx,Zck,TX.sat,XB.prop,X.den,Z1kk,Z1kl,Z1ke,Z1kf,Z1ki,Z1kj,Z1kg,Z1kh,mkS,mkP,and_true,true_and,Z1kp,Z1kq,not_or,not_and,Z1km,ne_eq,Z1kn,Z1ko,Z6r,hc0,ex3,ex4,ex5,ex6,Zfx,Zam,er,b01,Zb,if_true,if_false,reduceIte,Bool.false_eq_true,Nat.reduceAdd,Nat.zero_add]
  clear hc0
  repeat' first | exact trivial | refine And.intro ?_ ?_ | intro _
  all_goals first | trivial | rfl | omega | (simp [Int.max_comm,Int.min_comm]; done) | (simp only [List.cons.injEq,and_true,true_and]; omega) | (split <;> first | trivial | rfl | omega))
theorem Z10j:Z1g Zce Zw7:=⟨fun _ h=>h,fun vs xs h hp=>Z1 (Zf9 _) Z4⟩
theorem Z1i2 {x:List Int} (h:Z35 1024 x 0=true):((-1024≤x.getD 0 0∧x.getD 0 0≤1024)∧(-1024≤x.getD 1 0∧x.getD 1 0≤1024)∧(-1024≤x.getD 2 0∧x.getD 2 0≤1024)) ∧
  ((-1024≤x.getD 3 0∧x.getD 3 0≤1024)∧(-1024≤x.getD 4 0∧x.getD 4 0≤1024)∧(-1024≤x.getD 5 0∧x.getD 5 0≤1024)) ∧
  ((-1024≤x.getD 6 0∧x.getD 6 0≤1024)∧(-1024≤x.getD 7 0∧x.getD 7 0≤1024)∧(-1024≤x.getD 8 0∧x.getD 8 0≤1024)):=by
 simp only [Z35,Z1kr,Zd,Nat.reduceAdd,Nat.zero_add] at h
 exact h
theorem Zcl {a b m:Int} (h1:-32768≤a) (h2:b≤32768) (h3:a≤b) (h4:-1024≤m∧m≤1024):Zib [a,b,m] :=
 ⟨Z1 (Z5.2 (by omega)) (Z1 (Z5.2 (by omega)) (Z1 (Z5.2 (by omega)) Z4)),h3⟩
theorem Zcm {a b c d:Int} (h1:-1073741824≤a) (h2:b≤1073741824) (h3:a≤b) (h4:-1073741824≤c) (h5:d≤1073741824) (h6:c≤d):Zpz [a,b,c,d] :=
 ⟨Z1 (Z5.2 (by omega)) (Z1 (Z5.2 (by omega)) (Z1 (Z5.2 (by omega)) (Z1 (Z5.2 (by omega)) Z4))),h3,h6⟩
theorem Z158 {a b:Int} (h1:-1073741824≤a) (h2:b≤1073741824) (h3:a≤b):Zq0 [a,b,256] :=
 ⟨Z1 (Z5.2 (by omega)) (Z1 (Z5.2 (by omega)) (Z1 (Z5.2 (by omega)) Z4)),h3⟩
theorem Z2i {m a:Int} (h4:-1024≤m∧m≤1024) (h:-32768≤a∧a≤32768):-33554432≤m * a∧m * a≤33554432:=by
 have:=Z16 h4 h
 omega
noncomputable def Z95:List Sum:=[Z32,Zcc,Zmf,Zmg]
def Zqe:List Inf:=[Zcd,Zpy,Z143,Z145]
def Zcn:TX:=(.ite (.or (.or (.lt (.v 0) (.c (-1024))) (.lt (.c 1024) (.v 0))) (.or (.or (.lt (.v 1) (.c (-1024))) (.lt (.c 1024) (.v 1))) (.or (.or (.lt (.v 2) (.c (-1024))) (.lt (.c 1024) (.v 2))) (.or (.or (.lt (.v 3) (.c (-1024))) (.lt (.c 1024) (.v 3))) (.or (.or (.lt (.v 4) (.c (-1024))) (.lt (.c 1024) (.v 4))) (.or (.or (.lt (.v 5) (.c (-1024))) (.lt (.c 1024) (.v 5))) (.or (.or (.lt (.v 6) (.c (-1024))) (.lt (.c 1024) (.v 6))) (.or (.or (.lt (.v 7) (.c (-1024))) (.lt (.c 1024) (.v 7))) (.or (.lt (.v 8) (.c (-1024))) (.lt (.c 1024) (.v 8))))))))))) (.ret [(.c 0),(.c 0),(.c 0),(.c 0),(.c 0),(.c 0),(.c 2)])
(.callp 0 [(.v 9),(.v 10),(.v 11),(.v 12),(.v 13),(.v 14)] (.ite (.not (.eq (.v 15) (.c 0))) (.ret [(.c 0),(.c 0),(.c 0),(.c 0),(.c 0),(.c 0),(.v 15)])
(.call 1 [(.v 9),(.v 12),(.v 0)] (.call 2 [(.c 0),(.c 0),(.v 16),(.v 17)] (.call 1 [(.v 10),(.v 13),(.v 1)] (.call 2 [(.v 19),(.v 20),(.v 22),(.v 23)] (.call 1 [(.v 11),(.v 14),(.v 2)] (.call 2 [(.v 25),(.v 26),(.v 28),(.v 29)] (.call 3 [(.v 31),(.v 32),(.c 256)] (.call 1 [(.v 9),(.v 12),(.v 3)] (.call 2 [(.c 0),(.c 0),(.v 37),(.v 38)] (.call 1 [(.v 10),(.v 13),(.v 4)] (.call 2 [(.v 40),(.v 41),(.v 43),(.v 44)] (.call 1 [(.v 11),(.v 14),(.v 5)] (.call 2 [(.v 46),(.v 47),(.v 49),(.v 50)] (.call 3 [(.v 52),(.v 53),(.c 256)] (.call 1 [(.v 9),(.v 12),(.v 6)] (.call 2 [(.c 0),(.c 0),(.v 58),(.v 59)] (.call 1 [(.v 10),(.v 13),(.v 7)] (.call 2 [(.v 61),(.v 62),(.v 64),(.v 65)] (.call 1 [(.v 11),(.v 14),(.v 8)] (.call 2 [(.v 67),(.v 68),(.v 70),(.v 71)] (.call 3 [(.v 73),(.v 74),(.c 256)] (.callp 0 [(.v 34),(.v 55),(.v 76),(.v 35),(.v 56),(.v 77)] (.ite (.not (.eq (.v 79) (.c 0))) (.ret [(.c 0),(.c 0),(.c 0),(.c 0),(.c 0),(.c 0),(.c 20)])
(.ret [(.v 34),(.v 55),(.v 76),(.v 35),(.v 56),(.v 77),(.c 0)])))))))))))))))))))))))))))
theorem Zqf:Z12 (Zr [] Zqe [] Zba (Zq Tryz.prog Z7x gl0 Z95 1000 86 [An 9,An 6] [An 6,I1]))=Zcn:=by kernel_rfl
theorem Z159:Gok Tryz.prog Z95:=(more Zcj (more Z10g (more Z1br (fix.one Z1bs))))
theorem Z15a:Zj Z95 Zqe:=(Z2 Za7 (Z2 Ztm (Z2 Z153 (Z2 Z156 Z8))))
theorem Z10k:Zcf.ok Tryz.prog:=Sum.okF facts.mixed Z159 Z15a Zqf rfl (fun _=>rfl) (by
 intro xs hx hp
 obtain ⟨a0,a1,a2,a3,a4,a5,a6,a7,a8,a9,a10,a11,a12,a13,a14,rfl⟩:=Z1bl hx
 have e1:Z72 [a9,a10,a11,a12,a13,a14] 0=Z72 [a0,a1,a2,a3,a4,a5,a6,a7,a8,a9,a10,a11,a12,a13,a14] 9:=rfl
 clear hx hp
 by_cases hr:Z35 1024 [a0,a1,a2,a3,a4,a5,a6,a7,a8,a9,a10,a11,a12,a13,a14] 0=true
 ·have kr:=Z1i2 hr
  simp only [TX.sat,XB.prop,X.den,Z1kk,Z1kl,Z1ke,Z1kf,Z1ki,Z1kj,Z1kg,Z1kh,mkS,mkP,and_true,true_and,Z1kp,Z1kq,not_or,not_and,Z1km,ne_eq,Z1kn,Z1ko] at kr
  by_cases hb:Z72 [a0,a1,a2,a3,a4,a5,a6,a7,a8,a9,a10,a11,a12,a13,a14] 9=true
  ·have kb:=Z22.1 hb
   simp only [TX.sat,XB.prop,X.den,Z1kk,Z1kl,Z1ke,Z1kf,Z1ki,Z1kj,Z1kg,Z1kh,mkS,mkP,and_true,true_and,Z1kp,Z1kq,not_or,not_and,Z1km,ne_eq,Z1kn,Z1ko,Nat.reduceAdd] at kb
   have e2:Z72 [Z1hl [a0,a1,a2,a3,a4,a5,a6,a7,a8,a9,a10,a11,a12,a13,a14] 0,Z1hl [a0,a1,a2,a3,a4,a5,a6,a7,a8,a9,a10,a11,a12,a13,a14] 3,Z1hl [a0,a1,a2,a3,a4,a5,a6,a7,a8,a9,a10,a11,a12,a13,a14] 6,Zt3 [a0,a1,a2,a3,a4,a5,a6,a7,a8,a9,a10,a11,a12,a13,a14] 0,Zt3 [a0,a1,a2,a3,a4,a5,a6,a7,a8,a9,a10,a11,a12,a13,a14] 3,Zt3 [a0,a1,a2,a3,a4,a5,a6,a7,a8,a9,a10,a11,a12,a13,a14] 6] 0 =
    Z72 (Zo [a0,a1,a2,a3,a4,a5,a6,a7,a8,a9,a10,a11,a12,a13,a14]) 0:=rfl
   simp only [Z1hl,Zt3,TX.sat,XB.prop,X.den,Z1kk,Z1kl,Z1ke,Z1kf,Z1ki,Z1kj,Z1kg,Z1kh,mkS,mkP,and_true,true_and,Z1kp,Z1kq,not_or,not_and,Z1km,ne_eq,Z1kn,Z1ko,Nat.reduceAdd,Nat.zero_add] at e2
   simp only [Zcn,Z95,Z32,Zcc,Zmf,Zmg,TX.sat,XB.prop,X.den,Z1kk,Z1kl,Z1ke,Z1kf,Z1ki,Z1kj,Z1kg,Z1kh,mkS,mkP,and_true,true_and,Z1kp,Z1kq,not_or,not_and,Z1km,ne_eq,Z1kn,Z1ko,Z2s,Zb9,scB,Zid,Zif,Int.zero_add,e1,e2,hb,er,if_true,reduceIte,Z5h,Z8z,hr]
   have q0:=Z2i kr.1.1 kb.1.1
   have q1:=Z2i kr.1.2.1 kb.1.2.1
   have q2:=Z2i kr.1.2.2 kb.1.2.2
   have q3:=Z2i kr.2.1.1 kb.1.1
   have q4:=Z2i kr.2.1.2.1 kb.1.2.1
   have q5:=Z2i kr.2.1.2.2 kb.1.2.2
   have q6:=Z2i kr.2.2.1 kb.1.1
   have q7:=Z2i kr.2.2.2.1 kb.1.2.1
   have q8:=Z2i kr.2.2.2.2 kb.1.2.2
   have r0:=Z2i kr.1.1 kb.2.1.1
   have r1:=Z2i kr.1.2.1 kb.2.1.2.1
   have r2:=Z2i kr.1.2.2 kb.2.1.2.2
   have r3:=Z2i kr.2.1.1 kb.2.1.1
   have r4:=Z2i kr.2.1.2.1 kb.2.1.2.1
   have r5:=Z2i kr.2.1.2.2 kb.2.1.2.2
   have r6:=Z2i kr.2.2.1 kb.2.1.1
   have r7:=Z2i kr.2.2.2.1 kb.2.1.2.1
   have r8:=Z2i kr.2.2.2.2 kb.2.1.2.2
   refine ⟨fun h=>absurd h (by omega),fun _=>⟨fun h=>absurd h (by simp),fun _=>?_⟩⟩
   refine ⟨Zcl (by omega) (by omega) (by omega) (by omega),Zcm (by omega) (by omega) (by omega) (by omega) (by omega) (by omega),Zcl (by omega) (by omega) (by omega) (by omega),Zcm (by omega) (by omega) (by omega) (by omega) (by omega) (by omega),Zcl (by omega) (by omega) (by omega) (by omega),Zcm (by omega) (by omega) (by omega) (by omega) (by omega) (by omega),Z158 (by omega) (by omega) (by omega),
    Zcl (by omega) (by omega) (by omega) (by omega),Zcm (by omega) (by omega) (by omega) (by omega) (by omega) (by omega),Zcl (by omega) (by omega) (by omega) (by omega),Zcm (by omega) (by omega) (by omega) (by omega) (by omega) (by omega),Zcl (by omega) (by omega) (by omega) (by omega),Zcm (by omega) (by omega) (by omega) (by omega) (by omega) (by omega),Z158 (by omega) (by omega) (by omega),
    Zcl (by omega) (by omega) (by omega) (by omega),Zcm (by omega) (by omega) (by omega) (by omega) (by omega) (by omega),Zcl (by omega) (by omega) (by omega) (by omega),Zcm (by omega) (by omega) (by omega) (by omega) (by omega) (by omega),Zcl (by omega) (by omega) (by omega) (by omega),Zcm (by omega) (by omega) (by omega) (by omega) (by omega) (by omega),Z158 (by omega) (by omega) (by omega),?_⟩
   clear q0 q1 q2 q3 q4 q5 q6 q7 q8 r0 r1 r2 r3 r4 r5 r6 r7 r8 e1 e2
   refine ⟨fun h=>?_,fun h=>?_⟩
   ·have:Z72 (Zo [a0,a1,a2,a3,a4,a5,a6,a7,a8,a9,a10,a11,a12,a13,a14]) 0=false:=by
     cases hh:Z72 (Zo [a0,a1,a2,a3,a4,a5,a6,a7,a8,a9,a10,a11,a12,a13,a14]) 0 with
     | false=>rfl
     | true=>rw [hh] at h; exact absurd h (by simp)
    rw [this]; rfl
   ·have:Z72 (Zo [a0,a1,a2,a3,a4,a5,a6,a7,a8,a9,a10,a11,a12,a13,a14]) 0=true:=by
     cases hh:Z72 (Zo [a0,a1,a2,a3,a4,a5,a6,a7,a8,a9,a10,a11,a12,a13,a14]) 0 with
     | true=>rfl
     | false=>rw [hh] at h; exact absurd h (by simp)
    rw [this]; rfl
  ·simp only [Zcn,Z95,Z32,TX.sat,XB.prop,X.den,Z1kk,Z1kl,Z1ke,Z1kf,Z1ki,Z1kj,Z1kg,Z1kh,mkS,mkP,and_true,true_and,Z1kp,Z1kq,not_or,not_and,Z1km,ne_eq,Z1kn,Z1ko,Z2s,e1,hb,er,if_false,reduceIte,Z5h,Z8z,hr,if_true,Bool.false_eq_true,z7,ex7]
   refine ⟨fun h=>absurd h (by omega),fun _=>⟨fun _=>?_,fun h=>absurd h (by simp)⟩⟩
   trivial
 ·have kr:¬ (((-1024≤a0∧a0≤1024)∧(-1024≤a1∧a1≤1024)∧(-1024≤a2∧a2≤1024))∧((-1024≤a3∧a3≤1024)∧(-1024≤a4∧a4≤1024)∧(-1024≤a5∧a5≤1024))∧((-1024≤a6∧a6≤1024)∧(-1024≤a7∧a7≤1024)∧(-1024≤a8∧a8≤1024))):=fun h=>hr (by
   simp only [Z35,Z1kr,Zd,Nat.reduceAdd,Nat.zero_add,TX.sat,XB.prop,X.den,Z1kk,Z1kl,Z1ke,Z1kf,Z1ki,Z1kj,Z1kg,Z1kh,mkS,mkP,and_true,true_and,Z1kp,Z1kq,not_or,not_and,Z1km,ne_eq,Z1kn,Z1ko]; exact h)
  simp only [Zcn,TX.sat,XB.prop,X.den,Z1kk,Z1kl,Z1ke,Z1kf,Z1ki,Z1kj,Z1kg,Z1kh,mkS,mkP,and_true,true_and,Z1kp,Z1kq,not_or,not_and,Z1km,ne_eq,Z1kn,Z1ko,Z5h,Z8z,hr,if_false,reduceIte,Bool.false_eq_true,z7,ex7]
  exact ⟨fun _=>trivial,fun h=>absurd h (by omega)⟩)
theorem Ztq:Z1g Zcf Zq1:=⟨fun _ h=>h,fun vs xs h hp=>by
 show Z17 (ivs 6 (-32768) 32768++[iv 0 20]) (ex7 (Z8z xs))
 unfold Z8z
 split
 ·split
  ·split
   ·rename_i hc
    have kb:=Z22.1 hc
    exact Z1 kb.1.1 (Z1 kb.1.2.1 (Z1 kb.1.2.2 (Z1 kb.2.1.1 (Z1 kb.2.1.2.1 (Z1 kb.2.1.2.2 (Z1 (Z5.2 (by simp [Zo])) Z4))))))
   ·exact Z1i1 (by omega)
  ·exact Z1i1 (by omega)
 ·exact Z1i1 (by omega)⟩
end Go.Proofs.YtgcoidbaoigkeaaGreatDoor.fix
namespace Go.Proofs.YtgcoidbaoigkeaaGreatDoor.fix
open Go.RowKit Go.Sx
end Go.Proofs.YtgcoidbaoigkeaaGreatDoor.fix
namespace Go.Proofs.YtgcoidbaoigkeaaGreatDoor.fix
open Go.RowKit Go.Sx
theorem Zs {x:List Int} {o:Nat}:lensB x o=true↔((1≤x.getD o 0∧x.getD o 0≤64)∧(256≤x.getD (o + 1) 0∧x.getD (o + 1) 0≤4096)∧(1≤x.getD (o + 2) 0∧x.getD (o + 2) 0≤64)∧(1≤x.getD (o + 3) 0∧x.getD (o + 3) 0≤64)):=decide_eq_true_iff
theorem Z4h {x:List Int} {o w h:Nat}:Z1hm x o w h=true↔((0≤x.getD o 0∧x.getD o 0≤x.getD (o + 2) 0∧x.getD (o + 2) 0 < x.getD w 0)∧(0≤x.getD (o + 1) 0∧x.getD (o + 1) 0≤x.getD (o + 3) 0∧x.getD (o + 3) 0 < x.getD h 0)):=decide_eq_true_iff
noncomputable def Zco:List Sum:=[]
def Zwo:List Inf:=[]
def Zmy:TX:=(.ite (.or (.or (.lt (.v 0) (.c (-4096))) (.lt (.c 4096) (.v 0))) (.or (.or (.lt (.v 1) (.c (-4096))) (.lt (.c 4096) (.v 1))) (.or (.or (.lt (.v 2) (.c (-4096))) (.lt (.c 4096) (.v 2))) (.or (.or (.lt (.v 12) (.c 1)) (.lt (.c 64) (.v 12))) (.or (.or (.lt (.v 13) (.c 256)) (.lt (.c 4096) (.v 13))) (.or (.or (.lt (.v 14) (.c 1)) (.lt (.c 64) (.v 14))) (.or (.or (.lt (.v 15) (.c 1)) (.lt (.c 64) (.v 15))) (.or (.or (.lt (.v 3) (.c (-256))) (.lt (.c 256) (.v 3))) (.or (.or (.lt (.v 4) (.c (-256))) (.lt (.c 256) (.v 4))) (.or (.or (.lt (.v 5) (.c (-256))) (.lt (.c 256) (.v 5))) (.or (.or (.lt (.v 6) (.c (-256))) (.lt (.c 256) (.v 6))) (.or (.or (.lt (.v 7) (.c (-256))) (.lt (.c 256) (.v 7))) (.or (.or (.lt (.v 8) (.c (-256))) (.lt (.c 256) (.v 8))) (.or (.or (.lt (.v 9) (.c (-256))) (.lt (.c 256) (.v 9))) (.or (.or (.lt (.v 10) (.c (-256))) (.lt (.c 256) (.v 10))) (.or (.lt (.v 11) (.c (-256))) (.lt (.c 256) (.v 11)))))))))))))))))) (.ret [(.c 150)])
(.ret [(.c 0)]))
theorem Ztr:Z12 (Zr [] Zwo [] Ze1 (Zq Tryz.prog Z7x gl0 Zco 1000 29 [An 16] [I1]))=Zmy:=by kernel_rfl
theorem Z1bx:Gok Tryz.prog Zco:=noG
theorem Z1by:Zj Zco Zwo:=Z8
theorem Zis:Z4t.ok Tryz.prog:=Sum.okF facts.mixed Z1bx Z1by Ztr rfl (fun _=>rfl) (by
 intro xs hx hp
 obtain ⟨a0,a1,a2,a3,a4,a5,a6,a7,a8,a9,a10,a11,a12,a13,a14,a15,rfl⟩:=Z1bm hx
 by_cases hc0:Z2o [a0,a1,a2,a3,a4,a5,a6,a7,a8,a9,a10,a11,a12,a13,a14,a15] 0=true
 ·have hd0:=hc0
  try simp only [Z2o,Z35,Zs,Z1kr,Zd,TX.sat,XB.prop,X.den,Z1kk,Z1kl,Z1ke,Z1kf,Z1ki,Z1kj,Z1kg,Z1kh,mkS,mkP,and_true,true_and,Z1kp,Z1kq,not_or,not_and,Z1km,ne_eq,Z1kn,Z1ko,Nat.reduceAdd,Nat.zero_add] at hd0
  simp only [Zmy,Zco,TX.sat,XB.prop,X.den,Z1kk,Z1kl,Z1ke,Z1kf,Z1ki,Z1kj,Z1kg,Z1kh,mkS,mkP,and_true,true_and,Z1kp,Z1kq,not_or,not_and,Z1km,ne_eq,Z1kn,Z1ko,Z41,hc0,ex3,ex4,ex5,ex6,Zfx,Zam,er,b01,Zb,if_true,if_false,reduceIte,Bool.false_eq_true,Nat.reduceAdd,Nat.zero_add]
  clear hc0
  repeat' first | exact trivial | refine And.intro ?_ ?_ | intro _
  all_goals first | trivial | rfl | omega | (simp [Int.max_comm,Int.min_comm]; done) | (simp only [List.cons.injEq,and_true,true_and]; omega) | (split <;> first | trivial | rfl | omega)
 ·have hd0:=hc0
  try simp only [Z2o,Z35,Zs,Z1kr,Zd,TX.sat,XB.prop,X.den,Z1kk,Z1kl,Z1ke,Z1kf,Z1ki,Z1kj,Z1kg,Z1kh,mkS,mkP,and_true,true_and,Z1kp,Z1kq,not_or,not_and,Z1km,ne_eq,Z1kn,Z1ko,Nat.reduceAdd,Nat.zero_add] at hd0
  simp only [Zmy,Zco,TX.sat,XB.prop,X.den,Z1kk,Z1kl,Z1ke,Z1kf,Z1ki,Z1kj,Z1kg,Z1kh,mkS,mkP,and_true,true_and,Z1kp,Z1kq,not_or,not_and,Z1km,ne_eq,Z1kn,Z1ko,Z41,hc0,ex3,ex4,ex5,ex6,Zfx,Zam,er,b01,Zb,if_true,if_false,reduceIte,Bool.false_eq_true,Nat.reduceAdd,Nat.zero_add]
  clear hc0
  repeat' first | exact trivial | refine And.intro ?_ ?_ | intro _
  all_goals first | trivial | rfl | omega | (simp [Int.max_comm,Int.min_comm]; done) | (simp only [List.cons.injEq,and_true,true_and]; omega) | (split <;> first | trivial | rfl | omega))
theorem Zee:Z1g Z4t Zfz:=⟨fun _ h=>h,fun vs xs h hp=>Z1 (Z10c _ (by omega)) Z4⟩
noncomputable def Zl2:List Sum:=[Zdy]
def Z1fr:List Inf:=[Z147]
def Zwp:TX:=(.ite (.or (.or (.lt (.v 0) (.c (-4096))) (.lt (.c 4096) (.v 0))) (.or (.or (.lt (.v 1) (.c (-4096))) (.lt (.c 4096) (.v 1))) (.or (.or (.lt (.v 2) (.c (-4096))) (.lt (.c 4096) (.v 2))) (.or (.or (.lt (.v 12) (.c 1)) (.lt (.c 64) (.v 12))) (.or (.or (.lt (.v 13) (.c 256)) (.lt (.c 4096) (.v 13))) (.or (.or (.lt (.v 14) (.c 1)) (.lt (.c 64) (.v 14))) (.or (.or (.lt (.v 15) (.c 1)) (.lt (.c 64) (.v 15))) (.or (.or (.lt (.v 3) (.c (-256))) (.lt (.c 256) (.v 3))) (.or (.or (.lt (.v 4) (.c (-256))) (.lt (.c 256) (.v 4))) (.or (.or (.lt (.v 5) (.c (-256))) (.lt (.c 256) (.v 5))) (.or (.or (.lt (.v 6) (.c (-256))) (.lt (.c 256) (.v 6))) (.or (.or (.lt (.v 7) (.c (-256))) (.lt (.c 256) (.v 7))) (.or (.or (.lt (.v 8) (.c (-256))) (.lt (.c 256) (.v 8))) (.or (.or (.lt (.v 9) (.c (-256))) (.lt (.c 256) (.v 9))) (.or (.or (.lt (.v 10) (.c (-256))) (.lt (.c 256) (.v 10))) (.or (.lt (.v 11) (.c (-256))) (.lt (.c 256) (.v 11)))))))))))))))))) (.ret [(.c 0),(.c 0),(.c 0),(.c 150)])
(.ite (.or (.or (.lt (.v 16) (.c (-4096))) (.lt (.c 4096) (.v 16))) (.or (.or (.lt (.v 17) (.c (-4096))) (.lt (.c 4096) (.v 17))) (.or (.lt (.v 18) (.c (-4096))) (.lt (.c 4096) (.v 18))))) (.ret [(.c 0),(.c 0),(.c 0),(.c 20)])
(.callp 0 [(.v 3),(.v 4),(.v 5),(.v 6),(.v 7),(.v 8),(.v 9),(.v 10),(.v 11),(.sub (.v 16) (.v 0)),(.sub (.v 17) (.v 1)),(.sub (.v 18) (.v 2))] (.ret [(.v 19),(.v 20),(.v 21),(.c 0)]))))
theorem Z15b:Z12 (Zr [] Z1fr [] Zg1 (Zq Tryz.prog Z7x gl0 Zl2 1000 122 [An 16,An 3] [An 3,I1]))=Zwp:=by kernel_rfl
theorem g_view:Gok Tryz.prog Zl2:=(fix.one Z1bq)
theorem o_view:Zj Zl2 Z1fr:=(Z2 Z14y Z8)
theorem Z1i3:Zkw.ok Tryz.prog:=Sum.okF facts.mixed g_view o_view Z15b rfl (fun _=>rfl) (by
 intro xs hx hp
 obtain ⟨a0,a1,a2,a3,a4,a5,a6,a7,a8,a9,a10,a11,a12,a13,a14,a15,a16,a17,a18,rfl⟩:=len19 hx
 by_cases hc0:Z2o [a0,a1,a2,a3,a4,a5,a6,a7,a8,a9,a10,a11,a12,a13,a14,a15,a16,a17,a18] 0=true
 ·by_cases hc1:Zju 4096 [a0,a1,a2,a3,a4,a5,a6,a7,a8,a9,a10,a11,a12,a13,a14,a15,a16,a17,a18] 16=true
  ·have hd0:=hc0
   try simp only [Z2o,Z35,Zs,Z1kr,Zd,TX.sat,XB.prop,X.den,Z1kk,Z1kl,Z1ke,Z1kf,Z1ki,Z1kj,Z1kg,Z1kh,mkS,mkP,and_true,true_and,Z1kp,Z1kq,not_or,not_and,Z1km,ne_eq,Z1kn,Z1ko,Nat.reduceAdd,Nat.zero_add] at hd0
   have hd1:=hc1
   try simp only [Z2o,Z35,Zs,Z1kr,Zd,TX.sat,XB.prop,X.den,Z1kk,Z1kl,Z1ke,Z1kf,Z1ki,Z1kj,Z1kg,Z1kh,mkS,mkP,and_true,true_and,Z1kp,Z1kq,not_or,not_and,Z1km,ne_eq,Z1kn,Z1ko,Nat.reduceAdd,Nat.zero_add] at hd1
   simp only [Zwp,Zl2,Zdy,TX.sat,XB.prop,X.den,Z1kk,Z1kl,Z1ke,Z1kf,Z1ki,Z1kj,Z1kg,Z1kh,mkS,mkP,and_true,true_and,Z1kp,Z1kq,not_or,not_and,Z1km,ne_eq,Z1kn,Z1ko,Z8y,dot,Zt5,Zg0,Z89,hc0,hc1,ex3,ex4,ex5,ex6,Zfx,Zam,er,b01,Zb,if_true,if_false,reduceIte,Bool.false_eq_true,Nat.reduceAdd,Nat.zero_add]
   clear hc0 hc1
   repeat' first | exact trivial | refine And.intro ?_ ?_ | intro _
   all_goals first | trivial | rfl | omega | (simp [Int.max_comm,Int.min_comm]; done) | (simp only [List.cons.injEq,and_true,true_and]; omega) | (split <;> first | trivial | rfl | omega)
  ·have hd0:=hc0
   try simp only [Z2o,Z35,Zs,Z1kr,Zd,TX.sat,XB.prop,X.den,Z1kk,Z1kl,Z1ke,Z1kf,Z1ki,Z1kj,Z1kg,Z1kh,mkS,mkP,and_true,true_and,Z1kp,Z1kq,not_or,not_and,Z1km,ne_eq,Z1kn,Z1ko,Nat.reduceAdd,Nat.zero_add] at hd0
   have hd1:=hc1
   try simp only [Z2o,Z35,Zs,Z1kr,Zd,TX.sat,XB.prop,X.den,Z1kk,Z1kl,Z1ke,Z1kf,Z1ki,Z1kj,Z1kg,Z1kh,mkS,mkP,and_true,true_and,Z1kp,Z1kq,not_or,not_and,Z1km,ne_eq,Z1kn,Z1ko,Nat.reduceAdd,Nat.zero_add] at hd1
   simp only [Zwp,Zl2,Zdy,TX.sat,XB.prop,X.den,Z1kk,Z1kl,Z1ke,Z1kf,Z1ki,Z1kj,Z1kg,Z1kh,mkS,mkP,and_true,true_and,Z1kp,Z1kq,not_or,not_and,Z1km,ne_eq,Z1kn,Z1ko,Z8y,dot,Zt5,Zg0,Z89,hc0,hc1,ex3,ex4,ex5,ex6,Zfx,Zam,er,b01,Zb,if_true,if_false,reduceIte,Bool.false_eq_true,Nat.reduceAdd,Nat.zero_add]
   clear hc0 hc1
   repeat' first | exact trivial | refine And.intro ?_ ?_ | intro _
   all_goals first | trivial | rfl | omega | (simp [Int.max_comm,Int.min_comm]; done) | (simp only [List.cons.injEq,and_true,true_and]; omega) | (split <;> first | trivial | rfl | omega)
 ·have hd0:=hc0
  try simp only [Z2o,Z35,Zs,Z1kr,Zd,TX.sat,XB.prop,X.den,Z1kk,Z1kl,Z1ke,Z1kf,Z1ki,Z1kj,Z1kg,Z1kh,mkS,mkP,and_true,true_and,Z1kp,Z1kq,not_or,not_and,Z1km,ne_eq,Z1kn,Z1ko,Nat.reduceAdd,Nat.zero_add] at hd0
  simp only [Zwp,Zl2,Zdy,TX.sat,XB.prop,X.den,Z1kk,Z1kl,Z1ke,Z1kf,Z1ki,Z1kj,Z1kg,Z1kh,mkS,mkP,and_true,true_and,Z1kp,Z1kq,not_or,not_and,Z1km,ne_eq,Z1kn,Z1ko,Z8y,dot,Zt5,Zg0,Z89,hc0,ex3,ex4,ex5,ex6,Zfx,Zam,er,b01,Zb,if_true,if_false,reduceIte,Bool.false_eq_true,Nat.reduceAdd,Nat.zero_add]
  clear hc0
  repeat' first | exact trivial | refine And.intro ?_ ?_ | intro _
  all_goals first | trivial | rfl | omega | (simp [Int.max_comm,Int.min_comm]; done) | (simp only [List.cons.injEq,and_true,true_and]; omega) | (split <;> first | trivial | rfl | omega))
noncomputable def Za8:List Sum:=[]
def Zwq:List Inf:=[]
def Zgb:TX:=(.ite (.or (.or (.lt (.v 0) (.c (-4096))) (.lt (.c 4096) (.v 0))) (.or (.or (.lt (.v 1) (.c (-4096))) (.lt (.c 4096) (.v 1))) (.or (.or (.lt (.v 2) (.c (-4096))) (.lt (.c 4096) (.v 2))) (.or (.or (.lt (.v 12) (.c 1)) (.lt (.c 64) (.v 12))) (.or (.or (.lt (.v 13) (.c 256)) (.lt (.c 4096) (.v 13))) (.or (.or (.lt (.v 14) (.c 1)) (.lt (.c 64) (.v 14))) (.or (.or (.lt (.v 15) (.c 1)) (.lt (.c 64) (.v 15))) (.or (.or (.lt (.v 3) (.c (-256))) (.lt (.c 256) (.v 3))) (.or (.or (.lt (.v 4) (.c (-256))) (.lt (.c 256) (.v 4))) (.or (.or (.lt (.v 5) (.c (-256))) (.lt (.c 256) (.v 5))) (.or (.or (.lt (.v 6) (.c (-256))) (.lt (.c 256) (.v 6))) (.or (.or (.lt (.v 7) (.c (-256))) (.lt (.c 256) (.v 7))) (.or (.or (.lt (.v 8) (.c (-256))) (.lt (.c 256) (.v 8))) (.or (.or (.lt (.v 9) (.c (-256))) (.lt (.c 256) (.v 9))) (.or (.or (.lt (.v 10) (.c (-256))) (.lt (.c 256) (.v 10))) (.or (.lt (.v 11) (.c (-256))) (.lt (.c 256) (.v 11)))))))))))))))))) (.ret [(.c 150)])
(.ite (.or (.or (.lt (.v 18) (.mx (.c 0) (.v 16))) (.lt (.sub (.v 14) (.c 1)) (.v 18))) (.or (.or (.lt (.v 19) (.mx (.c 0) (.v 17))) (.lt (.sub (.v 15) (.c 1)) (.v 19))) (.or (.lt (.v 16) (.c 0)) (.lt (.v 17) (.c 0))))) (.ret [(.c 2)])
(.ret [(.c 0)])))
theorem Zts:Z12 (Zr [] Zwq [] Ze2 (Zq Tryz.prog Z7x gl0 Za8 1000 10 [An 16,An 4] [I1]))=Zgb:=by kernel_rfl
theorem Z1bz:Gok Tryz.prog Za8:=noG
theorem Z1c0:Zj Za8 Zwq:=Z8
theorem Zqg:Z7k.ok Tryz.prog:=Sum.okF facts.mixed Z1bz Z1c0 Zts rfl (fun _=>rfl) (by
 intro xs hx hp
 obtain ⟨a0,a1,a2,a3,a4,a5,a6,a7,a8,a9,a10,a11,a12,a13,a14,a15,a16,a17,a18,a19,rfl⟩:=Z1hr hx
 by_cases hc0:Z2o [a0,a1,a2,a3,a4,a5,a6,a7,a8,a9,a10,a11,a12,a13,a14,a15,a16,a17,a18,a19] 0=true
 ·by_cases hc1:Z1hm [a0,a1,a2,a3,a4,a5,a6,a7,a8,a9,a10,a11,a12,a13,a14,a15,a16,a17,a18,a19] 16 14 15=true
  ·have hd0:=hc0
   try simp only [Z2o,Z35,Zs,Z1kr,Zd,Z4h,TX.sat,XB.prop,X.den,Z1kk,Z1kl,Z1ke,Z1kf,Z1ki,Z1kj,Z1kg,Z1kh,mkS,mkP,and_true,true_and,Z1kp,Z1kq,not_or,not_and,Z1km,ne_eq,Z1kn,Z1ko,Nat.reduceAdd,Nat.zero_add] at hd0
   have hd1:=hc1
   try simp only [Z2o,Z35,Zs,Z1kr,Zd,Z4h,TX.sat,XB.prop,X.den,Z1kk,Z1kl,Z1ke,Z1kf,Z1ki,Z1kj,Z1kg,Z1kh,mkS,mkP,and_true,true_and,Z1kp,Z1kq,not_or,not_and,Z1km,ne_eq,Z1kn,Z1ko,Nat.reduceAdd,Nat.zero_add] at hd1
   simp only [Zgb,Za8,TX.sat,XB.prop,X.den,Z1kk,Z1kl,Z1ke,Z1kf,Z1ki,Z1kj,Z1kg,Z1kh,mkS,mkP,and_true,true_and,Z1kp,Z1kq,not_or,not_and,Z1km,ne_eq,Z1kn,Z1ko,Z42,Z20,hc0,hc1,ex3,ex4,ex5,ex6,Zfx,Zam,er,b01,Zb,if_true,if_false,reduceIte,Bool.false_eq_true,Nat.reduceAdd,Nat.zero_add]
   clear hc0 hc1
   repeat' first | exact trivial | refine And.intro ?_ ?_ | intro _
   all_goals first | trivial | rfl | omega | (simp [Int.max_comm,Int.min_comm]; done) | (simp only [List.cons.injEq,and_true,true_and]; omega) | (split <;> first | trivial | rfl | omega)
  ·have hd0:=hc0
   try simp only [Z2o,Z35,Zs,Z1kr,Zd,Z4h,TX.sat,XB.prop,X.den,Z1kk,Z1kl,Z1ke,Z1kf,Z1ki,Z1kj,Z1kg,Z1kh,mkS,mkP,and_true,true_and,Z1kp,Z1kq,not_or,not_and,Z1km,ne_eq,Z1kn,Z1ko,Nat.reduceAdd,Nat.zero_add] at hd0
   have hd1:=hc1
   try simp only [Z2o,Z35,Zs,Z1kr,Zd,Z4h,TX.sat,XB.prop,X.den,Z1kk,Z1kl,Z1ke,Z1kf,Z1ki,Z1kj,Z1kg,Z1kh,mkS,mkP,and_true,true_and,Z1kp,Z1kq,not_or,not_and,Z1km,ne_eq,Z1kn,Z1ko,Nat.reduceAdd,Nat.zero_add] at hd1
   simp only [Zgb,Za8,TX.sat,XB.prop,X.den,Z1kk,Z1kl,Z1ke,Z1kf,Z1ki,Z1kj,Z1kg,Z1kh,mkS,mkP,and_true,true_and,Z1kp,Z1kq,not_or,not_and,Z1km,ne_eq,Z1kn,Z1ko,Z42,Z20,hc0,hc1,ex3,ex4,ex5,ex6,Zfx,Zam,er,b01,Zb,if_true,if_false,reduceIte,Bool.false_eq_true,Nat.reduceAdd,Nat.zero_add]
   clear hc0 hc1
   repeat' first | exact trivial | refine And.intro ?_ ?_ | intro _
   all_goals first | trivial | rfl | omega | (simp [Int.max_comm,Int.min_comm]; done) | (simp only [List.cons.injEq,and_true,true_and]; omega) | (split <;> first | trivial | rfl | omega)
 ·have hd0:=hc0
  try simp only [Z2o,Z35,Zs,Z1kr,Zd,Z4h,TX.sat,XB.prop,X.den,Z1kk,Z1kl,Z1ke,Z1kf,Z1ki,Z1kj,Z1kg,Z1kh,mkS,mkP,and_true,true_and,Z1kp,Z1kq,not_or,not_and,Z1km,ne_eq,Z1kn,Z1ko,Nat.reduceAdd,Nat.zero_add] at hd0
  simp only [Zgb,Za8,TX.sat,XB.prop,X.den,Z1kk,Z1kl,Z1ke,Z1kf,Z1ki,Z1kj,Z1kg,Z1kh,mkS,mkP,and_true,true_and,Z1kp,Z1kq,not_or,not_and,Z1km,ne_eq,Z1kn,Z1ko,Z42,Z20,hc0,ex3,ex4,ex5,ex6,Zfx,Zam,er,b01,Zb,if_true,if_false,reduceIte,Bool.false_eq_true,Nat.reduceAdd,Nat.zero_add]
  clear hc0
  repeat' first | exact trivial | refine And.intro ?_ ?_ | intro _
  all_goals first | trivial | rfl | omega | (simp [Int.max_comm,Int.min_comm]; done) | (simp only [List.cons.injEq,and_true,true_and]; omega) | (split <;> first | trivial | rfl | omega))
theorem Ztt {x:List Int} {o p q:Nat} {m n:Int} (hm:0≤m) (hn:0≤n) (h1:Zju m x o=true) (h2:Zju n x p=true) (h3:Zju n x q=true):-(3 * (m * (2 * n)))≤Zt5 x o p q∧Zt5 x o p q≤3 * (m * (2 * n)):=by
 rw [Zd] at h1 h2 h3
 have k1:=Z16 (n:=2 * n) (y:=x.getD p 0 - x.getD q 0) h1.1 (by omega)
 have k2:=Z16 (n:=2 * n) (y:=x.getD (p + 1) 0 - x.getD (q + 1) 0) h1.2.1 (by omega)
 have k3:=Z16 (n:=2 * n) (y:=x.getD (p + 2) 0 - x.getD (q + 2) 0) h1.2.2 (by omega)
 unfold Zt5
 omega
theorem Zwr:Z1g Zkw Z1fj:=⟨fun _ h=>h,fun vs xs h hp=>by
 show Z17 (ivs 3 (-24576) 24576++[iv 0 150]) (ex4 (Z89 xs))
 unfold Z89
 split
 ·rename_i hc
  split
  ·rename_i hv
   simp only [Z2o,Z35,Z1kr,Nat.reduceAdd] at hc
   obtain ⟨h0,⟨h1,h2,h3⟩,_⟩:=hc
   have k1:=Ztt (by omega) (by omega) h1 hv h0
   have k2:=Ztt (by omega) (by omega) h2 hv h0
   have k3:=Ztt (by omega) (by omega) h3 hv h0
   exact Z1 (Z5.2 (by show _≤Zt5 xs 3 16 0 / 256∧Zt5 xs 3 16 0 / 256≤_; omega)) (Z1 (Z5.2 (by show _≤Zt5 xs 6 16 0 / 256∧Zt5 xs 6 16 0 / 256≤_; omega)) (Z1 (Z5.2 (by show _≤Zt5 xs 9 16 0 / 256∧Zt5 xs 9 16 0 / 256≤_; omega)) (Z1 (Z5.2 (by simp)) Z4)))
  ·exact Z1 (Z5.2 (by simp)) (Z1 (Z5.2 (by simp)) (Z1 (Z5.2 (by simp)) (Z1 (Z5.2 (by simp)) Z4)))
 ·exact Z1 (Z5.2 (by simp)) (Z1 (Z5.2 (by simp)) (Z1 (Z5.2 (by simp)) (Z1 (Z5.2 (by simp)) Z4)))⟩
theorem Zl3:Z1g Z7k Zmj:=⟨fun _ h=>h,fun vs xs h hp=>Z1 (Z5.2 (by unfold Z20; split; split <;> simp; simp)) Z4⟩
theorem Zqh {x:List Int} (h:Z2o x 0=true):(1≤x.getD 12 0∧x.getD 12 0≤64)∧(256≤x.getD 13 0∧x.getD 13 0≤4096)∧(1≤x.getD 14 0∧x.getD 14 0≤64)∧(1≤x.getD 15 0∧x.getD 15 0≤64):=by
 simp only [Z2o,Z1kr,Zs,Nat.reduceAdd,Nat.zero_add] at h
 exact h.2.2
theorem Z6t {f n z:Int} (hf:0≤f∧f≤64) (hn:-32768≤n∧n≤32768) (hz:256≤z):-65536≤8 * f * n / z∧8 * f * n / z≤65536:=by
 have:=Z16 (x:=8 * f) (y:=n) (m:=512) (n:=32768) (by omega) hn
 constructor
 ·rw [Int.le_ediv_iff_mul_le (by omega)]
  omega
 ·apply Int.ediv_le_of_le_mul (by omega)
  omega
theorem Zws {a b:Int} (hb:0 < b) (ha:0≤a):a.tdiv b=a / b:=Zi3 hb (Int.tmod_nonneg b ha)
end Go.Proofs.YtgcoidbaoigkeaaGreatDoor.fix
namespace Go.Proofs.YtgcoidbaoigkeaaGreatDoor.fix
open Go.RowKit Go.Sx
theorem Z3a {x:List Int} {o:Nat}:Z2z x o=true↔(((-4096≤x.getD o 0∧x.getD o 0≤4096)∧(-4096≤x.getD (o + 1) 0∧x.getD (o + 1) 0≤4096)∧(-4096≤x.getD (o + 2) 0∧x.getD (o + 2) 0≤4096)) ∧
  ((-4096≤x.getD (o + 3) 0∧x.getD (o + 3) 0≤4096)∧(-4096≤x.getD (o + 4) 0∧x.getD (o + 4) 0≤4096)∧(-4096≤x.getD (o + 5) 0∧x.getD (o + 5) 0≤4096)) ∧
  (x.getD o 0≤x.getD (o + 3) 0∧x.getD (o + 1) 0≤x.getD (o + 4) 0∧x.getD (o + 2) 0≤x.getD (o + 5) 0)):=by
 simp only [Z2z,Z1kr,Zd,Zb,Nat.add_assoc,Nat.reduceAdd]
theorem Z1c1 (x:List Int) (o:Nat):Z2z x o=(Z72 x o && (Zju 4096 x o && Zju 4096 x (o + 3))):=by
 rw [Bool.eq_iff_iff]
 simp only [Z3a,Z1kr,Z22,Zd,Nat.add_assoc,Nat.reduceAdd]
 omega
theorem Zwt (a0 a1 a2 a3 a4 a5:Int):Z2z [a0,a1,a2,a3,a4,a5] 0=(Z72 [a0,a1,a2,a3,a4,a5] 0 && Z65 [a0,a1,a2,a3,a4,a5,-4096,-4096,-4096,4096,4096,4096]):=by
 rw [Bool.eq_iff_iff]
 simp only [Z3a,Z1kr,Z22,Z65,Zb,TX.sat,XB.prop,X.den,Z1kk,Z1kl,Z1ke,Z1kf,Z1ki,Z1kj,Z1kg,Z1kh,mkS,mkP,and_true,true_and,Z1kp,Z1kq,not_or,not_and,Z1km,ne_eq,Z1kn,Z1ko,Nat.add_assoc,Nat.reduceAdd,Nat.zero_add]
 omega
theorem Zmz {x:List Int} (h:Z2o x 0=true):((-4096≤x.getD 0 0∧x.getD 0 0≤4096)∧(-4096≤x.getD 1 0∧x.getD 1 0≤4096)∧(-4096≤x.getD 2 0∧x.getD 2 0≤4096)) ∧
  (((-256≤x.getD 3 0∧x.getD 3 0≤256)∧(-256≤x.getD 4 0∧x.getD 4 0≤256)∧(-256≤x.getD 5 0∧x.getD 5 0≤256)) ∧
  ((-256≤x.getD 6 0∧x.getD 6 0≤256)∧(-256≤x.getD 7 0∧x.getD 7 0≤256)∧(-256≤x.getD 8 0∧x.getD 8 0≤256)) ∧
  ((-256≤x.getD 9 0∧x.getD 9 0≤256)∧(-256≤x.getD 10 0∧x.getD 10 0≤256)∧(-256≤x.getD 11 0∧x.getD 11 0≤256))):=by
 simp only [Z2o,Z35,Z1kr,Zd,Nat.reduceAdd,Nat.zero_add] at h
 exact ⟨h.1,h.2.1⟩
theorem Z8c {m a:Int} (h4:-256≤m∧m≤256) (h:-8192≤a∧a≤8192):-2097152≤m * a∧m * a≤2097152:=by
 have:=Z16 h4 h
 omega
theorem lowA {p q r s t u:Int} (hp:-2097152≤p∧p≤2097152) (hq:-2097152≤q∧q≤2097152) (hr:-2097152≤r∧r≤2097152) (hs:-2097152≤s∧s≤2097152) (ht:-2097152≤t∧t≤2097152) (hu:-2097152≤u∧u≤2097152) :
  (-24576≤(min p q + min r s + min t u) / 256∧(min p q + min r s + min t u) / 256≤24576)∧(-24576≤(max p q + max r s + max t u) / 256∧(max p q + max r s + max t u) / 256≤24576)∧(min p q + min r s + min t u) / 256≤(max p q + max r s + max t u) / 256:=by omega
theorem Ztu {x:List Int} (hc:Z2o x 0=true) (hw:Z2z x 16=true):((-24576≤vw x 0∧vw x 0≤24576)∧(-24576≤vw x 1∧vw x 1≤24576)∧(-24576≤vw x 2∧vw x 2≤24576)) ∧
  ((-24576≤vw x 3∧vw x 3≤24576)∧(-24576≤vw x 4∧vw x 4≤24576)∧(-24576≤vw x 5∧vw x 5≤24576))∧(vw x 0≤vw x 3∧vw x 1≤vw x 4∧vw x 2≤vw x 5):=by
 obtain ⟨p,m⟩:=Zmz hc
 have b:=Z3a.1 hw
 simp only [Nat.reduceAdd] at b
 have d0:-8192≤x.getD 16 0 - x.getD 0 0∧x.getD 16 0 - x.getD 0 0≤8192:=by omega
 have d1:-8192≤x.getD 17 0 - x.getD 1 0∧x.getD 17 0 - x.getD 1 0≤8192:=by omega
 have d2:-8192≤x.getD 18 0 - x.getD 2 0∧x.getD 18 0 - x.getD 2 0≤8192:=by omega
 have e0:-8192≤x.getD 19 0 - x.getD 0 0∧x.getD 19 0 - x.getD 0 0≤8192:=by omega
 have e1:-8192≤x.getD 20 0 - x.getD 1 0∧x.getD 20 0 - x.getD 1 0≤8192:=by omega
 have e2:-8192≤x.getD 21 0 - x.getD 2 0∧x.getD 21 0 - x.getD 2 0≤8192:=by omega
 obtain ⟨l0,h0,o0⟩:=lowA (Z8c m.1.1 d0) (Z8c m.1.1 e0) (Z8c m.1.2.1 d1) (Z8c m.1.2.1 e1) (Z8c m.1.2.2 d2) (Z8c m.1.2.2 e2)
 obtain ⟨l1,h1,o1⟩:=lowA (Z8c m.2.1.1 d0) (Z8c m.2.1.1 e0) (Z8c m.2.1.2.1 d1) (Z8c m.2.1.2.1 e1) (Z8c m.2.1.2.2 d2) (Z8c m.2.1.2.2 e2)
 obtain ⟨l2,h2,o2⟩:=lowA (Z8c m.2.2.1 d0) (Z8c m.2.2.1 e0) (Z8c m.2.2.2.1 d1) (Z8c m.2.2.2.1 e1) (Z8c m.2.2.2.2 d2) (Z8c m.2.2.2.2 e2)
 exact ⟨⟨l0,l1,l2⟩,⟨h0,h1,h2⟩,o0,o1,o2⟩
theorem Z1c2 {x:List Int} (hc:Z2o x 0=true) (hw:Z2z x 16=true):Z35 1024 (Z28 x) 0=true∧Z72 (Z28 x) 9=true∧Z72 (Zo (Z28 x)) 0=true:=by
 have hs:=Ztu hc hw
 obtain ⟨p,m⟩:=Zmz hc
 have b:=Z3a.1 hw
 simp only [Nat.reduceAdd] at b
 refine ⟨?_,?_,?_⟩
 ·simp only [Z35,Z1kr,Zd,Z28,TX.sat,XB.prop,X.den,Z1kk,Z1kl,Z1ke,Z1kf,Z1ki,Z1kj,Z1kg,Z1kh,mkS,mkP,and_true,true_and,Z1kp,Z1kq,not_or,not_and,Z1km,ne_eq,Z1kn,Z1ko,Nat.reduceAdd,Nat.zero_add]
  clear hs b p
  omega
 ·simp only [Z22,Z28,TX.sat,XB.prop,X.den,Z1kk,Z1kl,Z1ke,Z1kf,Z1ki,Z1kj,Z1kg,Z1kh,mkS,mkP,and_true,true_and,Z1kp,Z1kq,not_or,not_and,Z1km,ne_eq,Z1kn,Z1ko,Nat.reduceAdd,Nat.zero_add]
  clear hs m
  omega
 ·rw [Z22]
  have hs':((-24576≤(Zo (Z28 x)).getD 0 0∧(Zo (Z28 x)).getD 0 0≤24576)∧(-24576≤(Zo (Z28 x)).getD 1 0∧(Zo (Z28 x)).getD 1 0≤24576)∧(-24576≤(Zo (Z28 x)).getD 2 0∧(Zo (Z28 x)).getD 2 0≤24576)) ∧
   ((-24576≤(Zo (Z28 x)).getD 3 0∧(Zo (Z28 x)).getD 3 0≤24576)∧(-24576≤(Zo (Z28 x)).getD 4 0∧(Zo (Z28 x)).getD 4 0≤24576)∧(-24576≤(Zo (Z28 x)).getD 5 0∧(Zo (Z28 x)).getD 5 0≤24576))∧((Zo (Z28 x)).getD 0 0≤(Zo (Z28 x)).getD 3 0∧(Zo (Z28 x)).getD 1 0≤(Zo (Z28 x)).getD 4 0∧(Zo (Z28 x)).getD 2 0≤(Zo (Z28 x)).getD 5 0):=hs
  simp only [Nat.reduceAdd,Nat.zero_add]
  omega
theorem Zn0 {x:List Int} (hc:Z2o x 0=true) (hw:Z2z x 16=true):Z8z (Z28 x)=Zo (Z28 x):=by
 obtain ⟨h1,h2,h3⟩:=Z1c2 hc hw
 unfold Z8z
 rw [if_pos h1,if_pos h2,if_pos h3]
noncomputable def Zef:List Sum:=[Z4t,Z32,Zce,Zcf]
def Z15c:List Inf:=[Zfz,Zcd,Zw7,Zq1]
def Zn1:TX:=(.callp 0 [(.v 0),(.v 1),(.v 2),(.v 3),(.v 4),(.v 5),(.v 6),(.v 7),(.v 8),(.v 9),(.v 10),(.v 11),(.v 12),(.v 13),(.v 14),(.v 15)] (.ite (.not (.eq (.v 22) (.c 0))) (.ret [(.c 0),(.c 0),(.c 0),(.c 0),(.c 0),(.c 0),(.v 22)])
(.callp 1 [(.v 16),(.v 17),(.v 18),(.v 19),(.v 20),(.v 21)] (.ite (.not (.eq (.v 23) (.c 0))) (.ret [(.c 0),(.c 0),(.c 0),(.c 0),(.c 0),(.c 0),(.c 8)])
(.callp 2 [(.v 16),(.v 17),(.v 18),(.v 19),(.v 20),(.v 21),(.c (-4096)),(.c (-4096)),(.c (-4096)),(.c 4096),(.c 4096),(.c 4096)] (.ite (.eq (.v 24) (.c 0)) (.ret [(.c 0),(.c 0),(.c 0),(.c 0),(.c 0),(.c 0),(.c 8)])
(.callp 3 [(.v 3),(.v 4),(.v 5),(.v 6),(.v 7),(.v 8),(.v 9),(.v 10),(.v 11),(.wr .i64 (.sub (.v 16) (.v 0))),(.wr .i64 (.sub (.v 17) (.v 1))),(.wr .i64 (.sub (.v 18) (.v 2))),(.wr .i64 (.sub (.v 19) (.v 0))),(.wr .i64 (.sub (.v 20) (.v 1))),(.wr .i64 (.sub (.v 21) (.v 2)))] (.ret [(.v 25),(.v 26),(.v 27),(.v 28),(.v 29),(.v 30),(.v 31)]))))))))
theorem Z10l:Z12 (Zr [] Z15c [] Zih (Zq Tryz.prog Z7x gl0 Zef 1000 53 [An 16,An 6] [An 6,I1]))=Zn1:=by kernel_rfl
theorem Z1i4:Gok Tryz.prog Zef:=(more Zis (more Zcj (more Z157 (fix.one Z10k))))
theorem Z1i5:Zj Zef Z15c:=(Z2 Zee (Z2 Za7 (Z2 Z10j (Z2 Ztq Z8))))
theorem Zwu:Z7l.ok Tryz.prog:=Sum.okF facts.mixed Z1i4 Z1i5 Z10l rfl (fun _=>rfl) (by
 intro xs hx hp
 obtain ⟨a0,a1,a2,a3,a4,a5,a6,a7,a8,a9,a10,a11,a12,a13,a14,a15,a16,a17,a18,a19,a20,a21,rfl⟩:=len22 hx
 have e1:Z2o [a0,a1,a2,a3,a4,a5,a6,a7,a8,a9,a10,a11,a12,a13,a14,a15] 0=Z2o [a0,a1,a2,a3,a4,a5,a6,a7,a8,a9,a10,a11,a12,a13,a14,a15,a16,a17,a18,a19,a20,a21] 0:=rfl
 have e2:Z2z [a0,a1,a2,a3,a4,a5,a6,a7,a8,a9,a10,a11,a12,a13,a14,a15,a16,a17,a18,a19,a20,a21] 16=Z2z [a16,a17,a18,a19,a20,a21] 0:=rfl
 have e3:Z72 [a16,a17,a18,a19,a20,a21] 0=Z72 [a0,a1,a2,a3,a4,a5,a6,a7,a8,a9,a10,a11,a12,a13,a14,a15,a16,a17,a18,a19,a20,a21] 16:=rfl
 have hL:=@Zn0 [a0,a1,a2,a3,a4,a5,a6,a7,a8,a9,a10,a11,a12,a13,a14,a15,a16,a17,a18,a19,a20,a21]
 have hW:=@Z3a [a0,a1,a2,a3,a4,a5,a6,a7,a8,a9,a10,a11,a12,a13,a14,a15,a16,a17,a18,a19,a20,a21] 16
 have hC:=@Zmz [a0,a1,a2,a3,a4,a5,a6,a7,a8,a9,a10,a11,a12,a13,a14,a15,a16,a17,a18,a19,a20,a21]
 simp only [TX.sat,XB.prop,X.den,Z1kk,Z1kl,Z1ke,Z1kf,Z1ki,Z1kj,Z1kg,Z1kh,mkS,mkP,and_true,true_and,Z1kp,Z1kq,not_or,not_and,Z1km,ne_eq,Z1kn,Z1ko,Nat.reduceAdd] at hW hC
 simp only [Z28,TX.sat,XB.prop,X.den,Z1kk,Z1kl,Z1ke,Z1kf,Z1ki,Z1kj,Z1kg,Z1kh,mkS,mkP,and_true,true_and,Z1kp,Z1kq,not_or,not_and,Z1km,ne_eq,Z1kn,Z1ko] at hL
 clear hx hp
 by_cases hc:Z2o [a0,a1,a2,a3,a4,a5,a6,a7,a8,a9,a10,a11,a12,a13,a14,a15,a16,a17,a18,a19,a20,a21] 0=true
 ·by_cases hw:Z2z [a0,a1,a2,a3,a4,a5,a6,a7,a8,a9,a10,a11,a12,a13,a14,a15,a16,a17,a18,a19,a20,a21] 16=true
  ·have b:=hW.1 hw
   obtain ⟨p,m⟩:=hC hc
   have v:=hL hc hw
   have hw':=hw
   rw [e2,Zwt,Z1kr] at hw'
   obtain ⟨hb,hi⟩:=hw'
   have w0:IntKind.i64.wrap (a16 - a0)=a16 - a0:=Zf (by omega) (by omega)
   have w1:IntKind.i64.wrap (a17 - a1)=a17 - a1:=Zf (by omega) (by omega)
   have w2:IntKind.i64.wrap (a18 - a2)=a18 - a2:=Zf (by omega) (by omega)
   have w3:IntKind.i64.wrap (a19 - a0)=a19 - a0:=Zf (by omega) (by omega)
   have w4:IntKind.i64.wrap (a20 - a1)=a20 - a1:=Zf (by omega) (by omega)
   have w5:IntKind.i64.wrap (a21 - a2)=a21 - a2:=Zf (by omega) (by omega)
   simp only [Zn1,Zef,Z4t,Z32,Zce,Zcf,TX.sat,XB.prop,X.den,Z1kk,Z1kl,Z1ke,Z1kf,Z1ki,Z1kj,Z1kg,Z1kh,mkS,mkP,and_true,true_and,Z1kp,Z1kq,not_or,not_and,Z1km,ne_eq,Z1kn,Z1ko,Z41,Z2s,Z6r,Z5h,Z3i,Zcg,e1,hc,hw,hb,hi,er,b01,if_true,reduceIte,ex7,w0,w1,w2,w3,w4,w5,v,Z28]
   clear hL hW hC b p m v w0 w1 w2 w3 w4 w5 hi hb
   refine ⟨fun h=>absurd h (by simp),fun _=>⟨fun h=>absurd h (by simp),fun _=>⟨fun h=>absurd h (by simp),fun _=>?_⟩⟩⟩
   first | rfl | trivial
  ·have hw':=hw
   rw [e2,Zwt,Z1kr] at hw'
   simp only [Zn1,Zef,Z4t,Z32,Zce,TX.sat,XB.prop,X.den,Z1kk,Z1kl,Z1ke,Z1kf,Z1ki,Z1kj,Z1kg,Z1kh,mkS,mkP,and_true,true_and,Z1kp,Z1kq,not_or,not_and,Z1km,ne_eq,Z1kn,Z1ko,Z41,Z2s,Z6r,Z3i,Zcg,e1,hc,hw,er,b01,if_true,if_false,reduceIte,ex7,Bool.false_eq_true,z7]
   clear hL hW hC hw e1 e2 e3 hc
   generalize Z72 _ 0=p at *
   generalize Z65 _=q at *
   cases p <;> cases q <;> simp_all
 ·simp only [Zn1,Zef,Z4t,TX.sat,XB.prop,X.den,Z1kk,Z1kl,Z1ke,Z1kf,Z1ki,Z1kj,Z1kg,Z1kh,mkS,mkP,and_true,true_and,Z1kp,Z1kq,not_or,not_and,Z1km,ne_eq,Z1kn,Z1ko,Z41,Z3i,Zcg,e1,hc,er,if_false,reduceIte,ex7,Bool.false_eq_true,z7]
  exact ⟨fun _=>trivial,fun h=>absurd h (by decide)⟩)
theorem Zqi:Z1g Z7l Zt6:=⟨fun _ h=>h,fun vs xs h hp=>by
 show Z17 (ivs 6 (-24576) 24576++[iv 0 150]) (ex7 (Zcg xs))
 have z:∀ e:Int,0≤e→e≤150→Z17 (ivs 6 (-24576) 24576++[iv 0 150]) (ex7 (z7 e)):=fun e h1 h2 =>
  Z1 (Z5.2 (by simp [z7])) (Z1 (Z5.2 (by simp [z7])) (Z1 (Z5.2 (by simp [z7])) (Z1 (Z5.2 (by simp [z7])) (Z1 (Z5.2 (by simp [z7])) (Z1 (Z5.2 (by simp [z7])) (Z1 ⟨h1,h2⟩ Z4))))))
 unfold Zcg
 split
 ·rename_i hc
  split
  ·rename_i hw
   obtain ⟨s1,s2,_⟩:=Ztu hc hw
   exact Z1 s1.1 (Z1 s1.2.1 (Z1 s1.2.2 (Z1 s2.1 (Z1 s2.2.1 (Z1 s2.2.2 (Z1 (Z5.2 (by simp [Zo])) Z4))))))
  ·exact z 8 (by omega) (by omega)
 ·exact z 150 (by omega) (by omega)⟩
noncomputable def Zgc:List Sum:=[Z1l]
def Zwv:List Inf:=[Z8x]
def Zww:TX:=(.ite (.iff (.le (.c 0) (.v 4)) (.nz (.v 5))) (.callp 0 [(.mul (.v 0) (.v 4)),(.v 2)] (.ret [(.v 6)]))
(.callp 0 [(.mul (.v 0) (.v 4)),(.v 3)] (.ret [(.v 6)])))
theorem Ztv:Z12 (Zr [] Zwv [] Za2 (Zq Tryz.prog Z7x gl0 Zgc 1000 89 [An 4,I1,Bo] [I1]))=Zww:=by kernel_rfl
theorem Z1c3:Gok Tryz.prog Zgc:=(fix.one Z7n)
theorem Z1c4:Zj Zgc Zwv:=(Z2 Z5k Z8)
noncomputable def Zwx:List Sum:=[Z1l,Zw5]
def Z1fs:List Inf:=[Z8x,Z1fi]
def Z1ft:TX:=(.callp 1 [(.sub (.v 4) (.c 4)),(.c 8)] (.callp 0 [(.sub (.v 5) (.c 4)),(.c 8)] (.ite (.le (.mx (.v 8) (.v 6)) (.mn (.v 10) (.v 7))) (.ret [(.mx (.v 8) (.v 6)),(.mn (.v 10) (.v 7)),(.c 1)])
(.ret [(.mx (.v 8) (.v 6)),(.mn (.v 10) (.v 7)),(.c 0)]))))
theorem Z15d:Z12 (Zr [] Z1fs [] Zg3 (Zq Tryz.prog Z7x gl0 Zwx 1000 88 [An 4,I1,I1,I1,I1] [I1,I1,Bo]))=Z1ft:=by kernel_rfl
theorem g_fpix:Gok Tryz.prog Zwx:=(more Z7n (fix.one Z1hu))
theorem o_fpix:Zj Zwx Z1fs:=(Z2 Z5k (Z2 Z1bn Z8))
theorem Z15e:Zg2.ok Tryz.prog:=Sum.okF facts.mixed Z1c3 Z1c4 Ztv rfl (fun _=>rfl) (by
 intro xs hx hp
 obtain ⟨a0,a1,a2,a3,a4,a5,rfl⟩:=len6 hx
 simp only [Zww,Zgc,Z1l,TX.sat,XB.prop,X.den,Z1kk,Z1kl,Z1ke,Z1kf,Z1ki,Z1kj,Z1kg,Z1kh,mkS,mkP,and_true,true_and,Z1kp,Z1kq,not_or,not_and,Z1km,ne_eq,Z1kn,Z1ko,Z4y,Z1f]
 exact ⟨fun h=>by rw [if_pos h],fun h=>by rw [if_neg h]⟩)
theorem Z10m:Z1g Zg2 Zw9:=⟨fun _ h=>h,fun vs xs h hp=>by
 have h0:8≤xs.getD 0 0∧xs.getD 0 0≤512:=hp.2 0
 have h2:256≤xs.getD 2 0∧xs.getD 2 0≤32768:=hp.2 2
 have h3:256≤xs.getD 3 0∧xs.getD 3 0≤32768:=hp.2 3
 have h4:-32768≤xs.getD 4 0∧xs.getD 4 0≤32768:=hp.2 4
 refine Z1 ?_ Z4
 have hm:=Z16 (x:=xs.getD 0 0) (y:=xs.getD 4 0) (m:=512) (n:=32768) (by omega) h4
 have key:∀ z:Int,256≤z→-65536≤xs.getD 0 0 * xs.getD 4 0 / z∧xs.getD 0 0 * xs.getD 4 0 / z≤65536:=by
  intro z hz
  constructor
  ·rw [Int.le_ediv_iff_mul_le (by omega)]; omega
  ·apply Int.ediv_le_of_le_mul (by omega); omega
 show Ze (iv (-65536) 65536) (xs.getD 0 0 * xs.getD 4 0 / (if (0≤xs.getD 4 0↔xs.getD 5 0 ≠ 0) then xs.getD 2 0 else xs.getD 3 0))
 split
 ·exact key _ h2.1
 ·exact key _ h3.1⟩
theorem Z1i6:Zwa.ok Tryz.prog:=Sum.okF facts.mixed g_fpix o_fpix Z15d rfl (fun _=>rfl) (by
 intro xs hx hp
 obtain ⟨a0,a1,a2,a3,a4,a5,a6,a7,rfl⟩:=len8 hx
 simp only [Z1ft,Zwx,Z1l,Zw5,TX.sat,XB.prop,X.den,Z1kk,Z1kl,Z1ke,Z1kf,Z1ki,Z1kj,Z1kg,Z1kh,mkS,mkP,and_true,true_and,Z1kp,Z1kq,not_or,not_and,Z1km,ne_eq,Z1kn,Z1ko,Zmk,Z1f,Zmi,b01,Zb]
 exact ⟨fun h=>by rw [if_pos h],fun h=>by rw [if_neg (by omega)]⟩)
theorem mx_in {a b:Int} (ha:-9223372036854775808≤a∧a≤9223372036854775807) (hb:-9223372036854775808≤b∧b≤9223372036854775807):-9223372036854775808≤max a b∧max a b≤9223372036854775807:=by omega
theorem mn_in {a b:Int} (ha:-9223372036854775808≤a∧a≤9223372036854775807) (hb:-9223372036854775808≤b∧b≤9223372036854775807):-9223372036854775808≤min a b∧min a b≤9223372036854775807:=by omega
theorem Z1c5:Z1g Zwa Z1fk:=⟨fun _ h=>h,fun vs xs h hp=>by
 have h4:-1048576≤xs.getD 4 0∧xs.getD 4 0≤1048576:=hp.2 4
 have h5:-1048576≤xs.getD 5 0∧xs.getD 5 0≤1048576:=hp.2 5
 have u1:=Zfu (a:=xs.getD 4 0 - 4) (b:=8) (l:=-1048580) (h:=1048580) (by omega) (by omega) (by omega) (by omega) (by omega)
 have u2:=Z6k (a:=xs.getD 5 0 - 4) (b:=8) (l:=-1048580) (h:=1048580) (by omega) (by omega) (by omega) (by omega) (by omega)
 exact Z1 (mx_in (by omega) (hp.2 6)) (Z1 (mn_in (by omega) (hp.2 7)) (Z1 (Zf9 _) Z4))⟩
end Go.Proofs.YtgcoidbaoigkeaaGreatDoor.fix
namespace Go.Proofs.YtgcoidbaoigkeaaGreatDoor.fix
open Go.RowKit Go.Sx
theorem Z1c6 (a m c d n:Int):Z4y [8 * a,m,c,d,n,0]=[Zii a c d n]:=by
 unfold Z4y Zii
 simp only [TX.sat,XB.prop,X.den,Z1kk,Z1kl,Z1ke,Z1kf,Z1ki,Z1kj,Z1kg,Z1kh,mkS,mkP,and_true,true_and,Z1kp,Z1kq,not_or,not_and,Z1km,ne_eq,Z1kn,Z1ko]
 by_cases h:0≤n <;> simp [h]
theorem Z1c7 (a m c d n:Int):Z4y [8 * a,m,c,d,n,1]=[Zij a c d n]:=by
 unfold Z4y Zij
 simp only [TX.sat,XB.prop,X.den,Z1kk,Z1kl,Z1ke,Z1kf,Z1ki,Z1kj,Z1kg,Z1kh,mkS,mkP,and_true,true_and,Z1kp,Z1kq,not_or,not_and,Z1km,ne_eq,Z1kn,Z1ko]
 by_cases h:0≤n <;> simp [h]
theorem Z15f {f a b n:Int} (hf:0≤f∧f≤64) (hn:-32768≤n∧n≤32768) (ha:256≤a) (hb:256≤b):-65536≤Zii f a b n∧Zii f a b n≤65536:=by
 unfold Zii
 split
 ·exact Z6t hf hn hb
 ·exact Z6t hf hn ha
theorem Z15g {f a b n:Int} (hf:0≤f∧f≤64) (hn:-32768≤n∧n≤32768) (ha:256≤a) (hb:256≤b):-65536≤Zij f a b n∧Zij f a b n≤65536:=by
 unfold Zij
 split
 ·exact Z6t hf hn ha
 ·exact Z6t hf hn hb
theorem Zwy {f m c d n k:Int} (hf:1≤f∧f≤64) (hm:1≤m∧m≤64) (hc:256≤c∧c≤32768) (hd:256≤d∧d≤32768) (hn:-32768≤n∧n≤32768) (hk:0≤k∧k≤1):Z17 Za2 [8 * f,4 * m,c,d,n,k] :=
 Z1 (Z5.2 (by omega)) (Z1 (Z5.2 (by omega)) (Z1 hc (Z1 hd (Z1 hn (Z1 hk Z4)))))
theorem Z1fu {f m c d l h u v:Int} (hf:1≤f∧f≤64) (hm:1≤m∧m≤64) (hc:256≤c∧c≤32768) (hd:256≤d∧d≤32768) (hl:-1048576≤l∧l≤1048576) (hh:-1048576≤h∧h≤1048576) (hu:Z1b0 u) (hv:Z1b0 v):Z17 Zg3 [8 * f,4 * m,c,d,l,h,u,v] :=
 Z1 (v:=zz) ⟨by show -9223372036854775808≤_; omega,by show _≤9223372036854775807; omega⟩ (Z1 (v:=zz) ⟨by show -9223372036854775808≤_; omega,by show _≤9223372036854775807; omega⟩ (Z1 (v:=zz) ⟨by show -9223372036854775808≤_; omega,by show _≤9223372036854775807; omega⟩ (Z1 (v:=zz) ⟨by show -9223372036854775808≤_; omega,by show _≤9223372036854775807; omega⟩ (Z1 hl (Z1 hh (Z1 hu (Z1 hv Z4)))))))
theorem Zn2 {x:List Int} (h:Z2o x 0=true):(1≤x.getD 12 0∧x.getD 12 0≤64)∧(256≤x.getD 13 0∧x.getD 13 0≤4096)∧(1≤x.getD 14 0∧x.getD 14 0≤64)∧(1≤x.getD 15 0∧x.getD 15 0≤64):=Zqh h
theorem Z50 {x:List Int}:Z6s x=true↔(Z13 x≤Z4n x∧Zt9 x≤Ztb x∧Zta x≤Ztc x):=decide_eq_true_iff
theorem Z15h {k n:Int} (hk:0≤k∧k≤8) (h:1≤n∧n≤64):IntKind.i64.wrap (k * n)=k * n:=by
 have:=Z16 (x:=k) (y:=n) (m:=8) (n:=64) (by omega) (by omega)
 exact Zf (by omega) (by omega)
noncomputable def Z7o:List Sum:=[Z7l,Z7k,Zg2,Zwa]
def Zwz:List Inf:=[Zt6,Zmj,Zw9,Z1fk]
def Zcp:TX:=(.callp 0 [(.v 0),(.v 1),(.v 2),(.v 3),(.v 4),(.v 5),(.v 6),(.v 7),(.v 8),(.v 9),(.v 10),(.v 11),(.v 12),(.v 13),(.v 14),(.v 15),(.v 16),(.v 17),(.v 18),(.v 19),(.v 20),(.v 21)] (.ite (.not (.eq (.v 32) (.c 0))) (.ret [(.c 0),(.c 0),(.c 0),(.c 0),(.c 0),(.c 0),(.v 32)])
(.callp 1 [(.v 0),(.v 1),(.v 2),(.v 3),(.v 4),(.v 5),(.v 6),(.v 7),(.v 8),(.v 9),(.v 10),(.v 11),(.v 12),(.v 13),(.v 14),(.v 15),(.v 22),(.v 23),(.v 24),(.v 25)] (.ite (.not (.eq (.v 33) (.c 0))) (.ret [(.c 0),(.c 0),(.c 0),(.c 0),(.c 0),(.c 0),(.v 33)])
(.ite (.lt (.v 31) (.mx (.v 28) (.v 13))) (.ret [(.c 0),(.c 0),(.c 0),(.c 0),(.c 0),(.c 0),(.c 0)])
(.call 2 [(.wr .i64 (.mul (.c 8) (.v 12))),(.wr .i64 (.mul (.c 4) (.v 14))),(.mx (.v 28) (.v 13)),(.v 31),(.v 26),(.c 0)] (.call 2 [(.wr .i64 (.mul (.c 8) (.v 12))),(.wr .i64 (.mul (.c 4) (.v 14))),(.mx (.v 28) (.v 13)),(.v 31),(.v 29),(.c 1)] (.call 3 [(.wr .i64 (.mul (.c 8) (.v 12))),(.wr .i64 (.mul (.c 4) (.v 14))),(.mx (.v 28) (.v 13)),(.v 31),(.wr .i64 (.add (.v 34) (.wr .i64 (.mul (.c 4) (.v 14))))),(.wr .i64 (.add (.v 35) (.wr .i64 (.mul (.c 4) (.v 14))))),(.v 22),(.v 24)] (.call 2 [(.wr .i64 (.mul (.c 8) (.v 12))),(.wr .i64 (.mul (.c 4) (.v 15))),(.mx (.v 28) (.v 13)),(.v 31),(.v 30),(.c 1)] (.call 2 [(.wr .i64 (.mul (.c 8) (.v 12))),(.wr .i64 (.mul (.c 4) (.v 15))),(.mx (.v 28) (.v 13)),(.v 31),(.v 27),(.c 0)] (.call 3 [(.wr .i64 (.mul (.c 8) (.v 12))),(.wr .i64 (.mul (.c 4) (.v 15))),(.mx (.v 28) (.v 13)),(.v 31),(.wr .i64 (.sub (.wr .i64 (.mul (.c 4) (.v 15))) (.v 39))),(.wr .i64 (.sub (.wr .i64 (.mul (.c 4) (.v 15))) (.v 40))),(.v 23),(.v 25)] (.ite (.or (.eq (.v 38) (.c 0)) (.eq (.v 43) (.c 0))) (.ret [(.c 0),(.c 0),(.c 0),(.c 0),(.c 0),(.c 0),(.c 0)])
(.asrt (.not (.eq (.mx (.v 28) (.v 13)) (.c 0))) (.ret [(.v 36),(.v 41),(.v 37),(.v 42),(.wr .i64 (.quo (.c 16777216) (.mx (.v 28) (.v 13)))),(.c 1),(.c 0)]))))))))))))))
theorem Ztw:Z12 (Zr [] Zwz [] Ze4 (Zq Tryz.prog Z7x gl0 Z7o 1000 54 [An 16,An 6,An 4] [An 5,Bo,I1]))=Zcp:=by kernel_rfl
theorem Z1c8:Gok Tryz.prog Z7o:=(more Zwu (more Zqg (more Z15e (fix.one Z1i6))))
theorem Z1c9:Zj Z7o Zwz:=(Z2 Zqi (Z2 Zl3 (Z2 Z10m (Z2 Z1c5 Z8))))
set_option maxRecDepth 4000 in
theorem Z15i:Zg4.ok Tryz.prog:=Sum.okF facts.mixed Z1c8 Z1c9 Ztw rfl (fun _=>rfl) (by
 intro xs hx hp
 obtain ⟨a0,a1,a2,a3,a4,a5,a6,a7,a8,a9,a10,a11,a12,a13,a14,a15,a16,a17,a18,a19,a20,a21,a22,a23,a24,a25,rfl⟩:=len26 hx
 have w22:Z1b0 a22:=hp.2 22
 have w23:Z1b0 a23:=hp.2 23
 have w24:Z1b0 a24:=hp.2 24
 have w25:Z1b0 a25:=hp.2 25
 have e1:Zcg [a0,a1,a2,a3,a4,a5,a6,a7,a8,a9,a10,a11,a12,a13,a14,a15,a16,a17,a18,a19,a20,a21]=if Z2o [a0,a1,a2,a3,a4,a5,a6,a7,a8,a9,a10,a11,a12,a13,a14,a15,a16,a17,a18,a19,a20,a21,a22,a23,a24,a25] 0=true then if Z2z [a0,a1,a2,a3,a4,a5,a6,a7,a8,a9,a10,a11,a12,a13,a14,a15,a16,a17,a18,a19,a20,a21,a22,a23,a24,a25] 16=true then Zo (Z28 [a0,a1,a2,a3,a4,a5,a6,a7,a8,a9,a10,a11,a12,a13,a14,a15,a16,a17,a18,a19,a20,a21,a22,a23,a24,a25]) else z7 8 else z7 150:=rfl
 have e2:Z20 [a0,a1,a2,a3,a4,a5,a6,a7,a8,a9,a10,a11,a12,a13,a14,a15,a22,a23,a24,a25]=if Z2o [a0,a1,a2,a3,a4,a5,a6,a7,a8,a9,a10,a11,a12,a13,a14,a15,a16,a17,a18,a19,a20,a21,a22,a23,a24,a25] 0=true then if winC [a0,a1,a2,a3,a4,a5,a6,a7,a8,a9,a10,a11,a12,a13,a14,a15,a16,a17,a18,a19,a20,a21,a22,a23,a24,a25]=true then 0 else 2 else 150:=rfl
 have hn:Z13 [a0,a1,a2,a3,a4,a5,a6,a7,a8,a9,a10,a11,a12,a13,a14,a15,a16,a17,a18,a19,a20,a21,a22,a23,a24,a25]=max ((Zo (Z28 [a0,a1,a2,a3,a4,a5,a6,a7,a8,a9,a10,a11,a12,a13,a14,a15,a16,a17,a18,a19,a20,a21,a22,a23,a24,a25])).getD 2 0) a13:=rfl
 have hf:Z4n [a0,a1,a2,a3,a4,a5,a6,a7,a8,a9,a10,a11,a12,a13,a14,a15,a16,a17,a18,a19,a20,a21,a22,a23,a24,a25]=(Zo (Z28 [a0,a1,a2,a3,a4,a5,a6,a7,a8,a9,a10,a11,a12,a13,a14,a15,a16,a17,a18,a19,a20,a21,a22,a23,a24,a25])).getD 5 0:=rfl
 clear hx hp
 by_cases hc:Z2o [a0,a1,a2,a3,a4,a5,a6,a7,a8,a9,a10,a11,a12,a13,a14,a15,a16,a17,a18,a19,a20,a21,a22,a23,a24,a25] 0=true
 ·by_cases hw:Z2z [a0,a1,a2,a3,a4,a5,a6,a7,a8,a9,a10,a11,a12,a13,a14,a15,a16,a17,a18,a19,a20,a21,a22,a23,a24,a25] 16=true
  ·by_cases hv:winC [a0,a1,a2,a3,a4,a5,a6,a7,a8,a9,a10,a11,a12,a13,a14,a15,a16,a17,a18,a19,a20,a21,a22,a23,a24,a25]=true
   ·obtain ⟨s1,s2,s3⟩:=Ztu hc hw
    have kl:=Zn2 hc
    simp only [TX.sat,XB.prop,X.den,Z1kk,Z1kl,Z1ke,Z1kf,Z1ki,Z1kj,Z1kg,Z1kh,mkS,mkP,and_true,true_and,Z1kp,Z1kq,not_or,not_and,Z1km,ne_eq,Z1kn,Z1ko] at kl
    obtain ⟨kf,kn,kw,kh⟩:=kl
    have m0:=Z15h (k:=8) (by omega) kf
    have m1:=Z15h (k:=4) (by omega) kw
    have m2:=Z15h (k:=4) (by omega) kh
    simp only [Zcp,Z7o,Z7l,Z7k,Zg2,Zwa,TX.sat,XB.prop,X.den,Z1kk,Z1kl,Z1ke,Z1kf,Z1ki,Z1kj,Z1kg,Z1kh,mkS,mkP,and_true,true_and,Z1kp,Z1kq,not_or,not_and,Z1km,ne_eq,Z1kn,Z1ko,Z3i,Z42,Zmk,Z4z,Z2h,e1,e2,hc,hw,hv,if_true,reduceIte,ex7,m0,m1,m2,Z1c6,Z1c7,← hn,← hf]
    have q0:(Zo (Z28 [a0,a1,a2,a3,a4,a5,a6,a7,a8,a9,a10,a11,a12,a13,a14,a15,a16,a17,a18,a19,a20,a21,a22,a23,a24,a25])).getD 0 0=vw [a0,a1,a2,a3,a4,a5,a6,a7,a8,a9,a10,a11,a12,a13,a14,a15,a16,a17,a18,a19,a20,a21,a22,a23,a24,a25] 0:=rfl
    have q1:(Zo (Z28 [a0,a1,a2,a3,a4,a5,a6,a7,a8,a9,a10,a11,a12,a13,a14,a15,a16,a17,a18,a19,a20,a21,a22,a23,a24,a25])).getD 1 0=vw [a0,a1,a2,a3,a4,a5,a6,a7,a8,a9,a10,a11,a12,a13,a14,a15,a16,a17,a18,a19,a20,a21,a22,a23,a24,a25] 1:=rfl
    have q2:(Zo (Z28 [a0,a1,a2,a3,a4,a5,a6,a7,a8,a9,a10,a11,a12,a13,a14,a15,a16,a17,a18,a19,a20,a21,a22,a23,a24,a25])).getD 2 0=vw [a0,a1,a2,a3,a4,a5,a6,a7,a8,a9,a10,a11,a12,a13,a14,a15,a16,a17,a18,a19,a20,a21,a22,a23,a24,a25] 2:=rfl
    have q3:(Zo (Z28 [a0,a1,a2,a3,a4,a5,a6,a7,a8,a9,a10,a11,a12,a13,a14,a15,a16,a17,a18,a19,a20,a21,a22,a23,a24,a25])).getD 3 0=vw [a0,a1,a2,a3,a4,a5,a6,a7,a8,a9,a10,a11,a12,a13,a14,a15,a16,a17,a18,a19,a20,a21,a22,a23,a24,a25] 3:=rfl
    have q4:(Zo (Z28 [a0,a1,a2,a3,a4,a5,a6,a7,a8,a9,a10,a11,a12,a13,a14,a15,a16,a17,a18,a19,a20,a21,a22,a23,a24,a25])).getD 4 0=vw [a0,a1,a2,a3,a4,a5,a6,a7,a8,a9,a10,a11,a12,a13,a14,a15,a16,a17,a18,a19,a20,a21,a22,a23,a24,a25] 4:=rfl
    have q5:Z4n [a0,a1,a2,a3,a4,a5,a6,a7,a8,a9,a10,a11,a12,a13,a14,a15,a16,a17,a18,a19,a20,a21,a22,a23,a24,a25]=vw [a0,a1,a2,a3,a4,a5,a6,a7,a8,a9,a10,a11,a12,a13,a14,a15,a16,a17,a18,a19,a20,a21,a22,a23,a24,a25] 5:=rfl
    have q6:(Zo (Z28 [a0,a1,a2,a3,a4,a5,a6,a7,a8,a9,a10,a11,a12,a13,a14,a15,a16,a17,a18,a19,a20,a21,a22,a23,a24,a25])).getD 6 0=0:=rfl
    rw [q2] at hn
    simp only [q0,q1,q3,q4,q6]
    by_cases hz:Z13 [a0,a1,a2,a3,a4,a5,a6,a7,a8,a9,a10,a11,a12,a13,a14,a15,a16,a17,a18,a19,a20,a21,a22,a23,a24,a25]≤Z4n [a0,a1,a2,a3,a4,a5,a6,a7,a8,a9,a10,a11,a12,a13,a14,a15,a16,a17,a18,a19,a20,a21,a22,a23,a24,a25]
    ·have k1:256≤Z13 [a0,a1,a2,a3,a4,a5,a6,a7,a8,a9,a10,a11,a12,a13,a14,a15,a16,a17,a18,a19,a20,a21,a22,a23,a24,a25]∧Z13 [a0,a1,a2,a3,a4,a5,a6,a7,a8,a9,a10,a11,a12,a13,a14,a15,a16,a17,a18,a19,a20,a21,a22,a23,a24,a25]≤32768:=by omega
     have k2:256≤Z4n [a0,a1,a2,a3,a4,a5,a6,a7,a8,a9,a10,a11,a12,a13,a14,a15,a16,a17,a18,a19,a20,a21,a22,a23,a24,a25]∧Z4n [a0,a1,a2,a3,a4,a5,a6,a7,a8,a9,a10,a11,a12,a13,a14,a15,a16,a17,a18,a19,a20,a21,a22,a23,a24,a25]≤32768:=by omega
     have g0:=Z15f (f:=a12) (a:=Z13 [a0,a1,a2,a3,a4,a5,a6,a7,a8,a9,a10,a11,a12,a13,a14,a15,a16,a17,a18,a19,a20,a21,a22,a23,a24,a25]) (b:=Z4n [a0,a1,a2,a3,a4,a5,a6,a7,a8,a9,a10,a11,a12,a13,a14,a15,a16,a17,a18,a19,a20,a21,a22,a23,a24,a25]) (n:=vw [a0,a1,a2,a3,a4,a5,a6,a7,a8,a9,a10,a11,a12,a13,a14,a15,a16,a17,a18,a19,a20,a21,a22,a23,a24,a25] 0) (by omega) (by omega) k1.1 k2.1
     have g3:=Z15g (f:=a12) (a:=Z13 [a0,a1,a2,a3,a4,a5,a6,a7,a8,a9,a10,a11,a12,a13,a14,a15,a16,a17,a18,a19,a20,a21,a22,a23,a24,a25]) (b:=Z4n [a0,a1,a2,a3,a4,a5,a6,a7,a8,a9,a10,a11,a12,a13,a14,a15,a16,a17,a18,a19,a20,a21,a22,a23,a24,a25]) (n:=vw [a0,a1,a2,a3,a4,a5,a6,a7,a8,a9,a10,a11,a12,a13,a14,a15,a16,a17,a18,a19,a20,a21,a22,a23,a24,a25] 3) (by omega) (by omega) k1.1 k2.1
     have g4:=Z15g (f:=a12) (a:=Z13 [a0,a1,a2,a3,a4,a5,a6,a7,a8,a9,a10,a11,a12,a13,a14,a15,a16,a17,a18,a19,a20,a21,a22,a23,a24,a25]) (b:=Z4n [a0,a1,a2,a3,a4,a5,a6,a7,a8,a9,a10,a11,a12,a13,a14,a15,a16,a17,a18,a19,a20,a21,a22,a23,a24,a25]) (n:=vw [a0,a1,a2,a3,a4,a5,a6,a7,a8,a9,a10,a11,a12,a13,a14,a15,a16,a17,a18,a19,a20,a21,a22,a23,a24,a25] 4) (by omega) (by omega) k1.1 k2.1
     have g1:=Z15f (f:=a12) (a:=Z13 [a0,a1,a2,a3,a4,a5,a6,a7,a8,a9,a10,a11,a12,a13,a14,a15,a16,a17,a18,a19,a20,a21,a22,a23,a24,a25]) (b:=Z4n [a0,a1,a2,a3,a4,a5,a6,a7,a8,a9,a10,a11,a12,a13,a14,a15,a16,a17,a18,a19,a20,a21,a22,a23,a24,a25]) (n:=vw [a0,a1,a2,a3,a4,a5,a6,a7,a8,a9,a10,a11,a12,a13,a14,a15,a16,a17,a18,a19,a20,a21,a22,a23,a24,a25] 1) (by omega) (by omega) k1.1 k2.1
     have p0:IntKind.i64.wrap (Zii a12 (Z13 [a0,a1,a2,a3,a4,a5,a6,a7,a8,a9,a10,a11,a12,a13,a14,a15,a16,a17,a18,a19,a20,a21,a22,a23,a24,a25]) (Z4n [a0,a1,a2,a3,a4,a5,a6,a7,a8,a9,a10,a11,a12,a13,a14,a15,a16,a17,a18,a19,a20,a21,a22,a23,a24,a25]) (vw [a0,a1,a2,a3,a4,a5,a6,a7,a8,a9,a10,a11,a12,a13,a14,a15,a16,a17,a18,a19,a20,a21,a22,a23,a24,a25] 0) + 4 * a14)=Z90 [a0,a1,a2,a3,a4,a5,a6,a7,a8,a9,a10,a11,a12,a13,a14,a15,a16,a17,a18,a19,a20,a21,a22,a23,a24,a25]:=Zf (by omega) (by omega)
     have p3:IntKind.i64.wrap (Zij a12 (Z13 [a0,a1,a2,a3,a4,a5,a6,a7,a8,a9,a10,a11,a12,a13,a14,a15,a16,a17,a18,a19,a20,a21,a22,a23,a24,a25]) (Z4n [a0,a1,a2,a3,a4,a5,a6,a7,a8,a9,a10,a11,a12,a13,a14,a15,a16,a17,a18,a19,a20,a21,a22,a23,a24,a25]) (vw [a0,a1,a2,a3,a4,a5,a6,a7,a8,a9,a10,a11,a12,a13,a14,a15,a16,a17,a18,a19,a20,a21,a22,a23,a24,a25] 3) + 4 * a14)=Z5i [a0,a1,a2,a3,a4,a5,a6,a7,a8,a9,a10,a11,a12,a13,a14,a15,a16,a17,a18,a19,a20,a21,a22,a23,a24,a25]:=Zf (by omega) (by omega)
     have p4:IntKind.i64.wrap (4 * a15 - Zij a12 (Z13 [a0,a1,a2,a3,a4,a5,a6,a7,a8,a9,a10,a11,a12,a13,a14,a15,a16,a17,a18,a19,a20,a21,a22,a23,a24,a25]) (Z4n [a0,a1,a2,a3,a4,a5,a6,a7,a8,a9,a10,a11,a12,a13,a14,a15,a16,a17,a18,a19,a20,a21,a22,a23,a24,a25]) (vw [a0,a1,a2,a3,a4,a5,a6,a7,a8,a9,a10,a11,a12,a13,a14,a15,a16,a17,a18,a19,a20,a21,a22,a23,a24,a25] 4))=Zt7 [a0,a1,a2,a3,a4,a5,a6,a7,a8,a9,a10,a11,a12,a13,a14,a15,a16,a17,a18,a19,a20,a21,a22,a23,a24,a25]:=Zf (by omega) (by omega)
     have p1:IntKind.i64.wrap (4 * a15 - Zii a12 (Z13 [a0,a1,a2,a3,a4,a5,a6,a7,a8,a9,a10,a11,a12,a13,a14,a15,a16,a17,a18,a19,a20,a21,a22,a23,a24,a25]) (Z4n [a0,a1,a2,a3,a4,a5,a6,a7,a8,a9,a10,a11,a12,a13,a14,a15,a16,a17,a18,a19,a20,a21,a22,a23,a24,a25]) (vw [a0,a1,a2,a3,a4,a5,a6,a7,a8,a9,a10,a11,a12,a13,a14,a15,a16,a17,a18,a19,a20,a21,a22,a23,a24,a25] 1))=Zt8 [a0,a1,a2,a3,a4,a5,a6,a7,a8,a9,a10,a11,a12,a13,a14,a15,a16,a17,a18,a19,a20,a21,a22,a23,a24,a25]:=Zf (by omega) (by omega)
     have r0:Z90 [a0,a1,a2,a3,a4,a5,a6,a7,a8,a9,a10,a11,a12,a13,a14,a15,a16,a17,a18,a19,a20,a21,a22,a23,a24,a25]=Zii a12 (Z13 [a0,a1,a2,a3,a4,a5,a6,a7,a8,a9,a10,a11,a12,a13,a14,a15,a16,a17,a18,a19,a20,a21,a22,a23,a24,a25]) (Z4n [a0,a1,a2,a3,a4,a5,a6,a7,a8,a9,a10,a11,a12,a13,a14,a15,a16,a17,a18,a19,a20,a21,a22,a23,a24,a25]) (vw [a0,a1,a2,a3,a4,a5,a6,a7,a8,a9,a10,a11,a12,a13,a14,a15,a16,a17,a18,a19,a20,a21,a22,a23,a24,a25] 0) + 4 * a14:=rfl
     have r3:Z5i [a0,a1,a2,a3,a4,a5,a6,a7,a8,a9,a10,a11,a12,a13,a14,a15,a16,a17,a18,a19,a20,a21,a22,a23,a24,a25]=Zij a12 (Z13 [a0,a1,a2,a3,a4,a5,a6,a7,a8,a9,a10,a11,a12,a13,a14,a15,a16,a17,a18,a19,a20,a21,a22,a23,a24,a25]) (Z4n [a0,a1,a2,a3,a4,a5,a6,a7,a8,a9,a10,a11,a12,a13,a14,a15,a16,a17,a18,a19,a20,a21,a22,a23,a24,a25]) (vw [a0,a1,a2,a3,a4,a5,a6,a7,a8,a9,a10,a11,a12,a13,a14,a15,a16,a17,a18,a19,a20,a21,a22,a23,a24,a25] 3) + 4 * a14:=rfl
     have r4:Zt7 [a0,a1,a2,a3,a4,a5,a6,a7,a8,a9,a10,a11,a12,a13,a14,a15,a16,a17,a18,a19,a20,a21,a22,a23,a24,a25]=4 * a15 - Zij a12 (Z13 [a0,a1,a2,a3,a4,a5,a6,a7,a8,a9,a10,a11,a12,a13,a14,a15,a16,a17,a18,a19,a20,a21,a22,a23,a24,a25]) (Z4n [a0,a1,a2,a3,a4,a5,a6,a7,a8,a9,a10,a11,a12,a13,a14,a15,a16,a17,a18,a19,a20,a21,a22,a23,a24,a25]) (vw [a0,a1,a2,a3,a4,a5,a6,a7,a8,a9,a10,a11,a12,a13,a14,a15,a16,a17,a18,a19,a20,a21,a22,a23,a24,a25] 4):=rfl
     have r1:Zt8 [a0,a1,a2,a3,a4,a5,a6,a7,a8,a9,a10,a11,a12,a13,a14,a15,a16,a17,a18,a19,a20,a21,a22,a23,a24,a25]=4 * a15 - Zii a12 (Z13 [a0,a1,a2,a3,a4,a5,a6,a7,a8,a9,a10,a11,a12,a13,a14,a15,a16,a17,a18,a19,a20,a21,a22,a23,a24,a25]) (Z4n [a0,a1,a2,a3,a4,a5,a6,a7,a8,a9,a10,a11,a12,a13,a14,a15,a16,a17,a18,a19,a20,a21,a22,a23,a24,a25]) (vw [a0,a1,a2,a3,a4,a5,a6,a7,a8,a9,a10,a11,a12,a13,a14,a15,a16,a17,a18,a19,a20,a21,a22,a23,a24,a25] 1):=rfl
     have t0:max (up (Z90 [a0,a1,a2,a3,a4,a5,a6,a7,a8,a9,a10,a11,a12,a13,a14,a15,a16,a17,a18,a19,a20,a21,a22,a23,a24,a25] - 4) 8) a22=Zt9 [a0,a1,a2,a3,a4,a5,a6,a7,a8,a9,a10,a11,a12,a13,a14,a15,a16,a17,a18,a19,a20,a21,a22,a23,a24,a25]:=rfl
     have t1:min ((Z5i [a0,a1,a2,a3,a4,a5,a6,a7,a8,a9,a10,a11,a12,a13,a14,a15,a16,a17,a18,a19,a20,a21,a22,a23,a24,a25] - 4) / 8) a24=Ztb [a0,a1,a2,a3,a4,a5,a6,a7,a8,a9,a10,a11,a12,a13,a14,a15,a16,a17,a18,a19,a20,a21,a22,a23,a24,a25]:=rfl
     have t2:max (up (Zt7 [a0,a1,a2,a3,a4,a5,a6,a7,a8,a9,a10,a11,a12,a13,a14,a15,a16,a17,a18,a19,a20,a21,a22,a23,a24,a25] - 4) 8) a23=Zta [a0,a1,a2,a3,a4,a5,a6,a7,a8,a9,a10,a11,a12,a13,a14,a15,a16,a17,a18,a19,a20,a21,a22,a23,a24,a25]:=rfl
     have t3:min ((Zt8 [a0,a1,a2,a3,a4,a5,a6,a7,a8,a9,a10,a11,a12,a13,a14,a15,a16,a17,a18,a19,a20,a21,a22,a23,a24,a25] - 4) / 8) a25=Ztc [a0,a1,a2,a3,a4,a5,a6,a7,a8,a9,a10,a11,a12,a13,a14,a15,a16,a17,a18,a19,a20,a21,a22,a23,a24,a25]:=rfl
     have hd:(16777216:Int).tdiv (Z13 [a0,a1,a2,a3,a4,a5,a6,a7,a8,a9,a10,a11,a12,a13,a14,a15,a16,a17,a18,a19,a20,a21,a22,a23,a24,a25])=16777216 / Z13 [a0,a1,a2,a3,a4,a5,a6,a7,a8,a9,a10,a11,a12,a13,a14,a15,a16,a17,a18,a19,a20,a21,a22,a23,a24,a25]:=Zws (by omega) (by omega)
     have hd2:0≤16777216 / Z13 [a0,a1,a2,a3,a4,a5,a6,a7,a8,a9,a10,a11,a12,a13,a14,a15,a16,a17,a18,a19,a20,a21,a22,a23,a24,a25]∧16777216 / Z13 [a0,a1,a2,a3,a4,a5,a6,a7,a8,a9,a10,a11,a12,a13,a14,a15,a16,a17,a18,a19,a20,a21,a22,a23,a24,a25]≤16777216:=Z6k (by omega) (by omega) (by omega) (by omega) (by omega)
     have hd3:IntKind.i64.wrap (16777216 / Z13 [a0,a1,a2,a3,a4,a5,a6,a7,a8,a9,a10,a11,a12,a13,a14,a15,a16,a17,a18,a19,a20,a21,a22,a23,a24,a25])=16777216 / Z13 [a0,a1,a2,a3,a4,a5,a6,a7,a8,a9,a10,a11,a12,a13,a14,a15,a16,a17,a18,a19,a20,a21,a22,a23,a24,a25]:=Zf (by omega) (by omega)
     simp only [p0,p1,p3,p4,t0,t1,t2,t3,hd,hd3]
     have hsh:Z6s [a0,a1,a2,a3,a4,a5,a6,a7,a8,a9,a10,a11,a12,a13,a14,a15,a16,a17,a18,a19,a20,a21,a22,a23,a24,a25]=true↔(Zt9 [a0,a1,a2,a3,a4,a5,a6,a7,a8,a9,a10,a11,a12,a13,a14,a15,a16,a17,a18,a19,a20,a21,a22,a23,a24,a25]≤Ztb [a0,a1,a2,a3,a4,a5,a6,a7,a8,a9,a10,a11,a12,a13,a14,a15,a16,a17,a18,a19,a20,a21,a22,a23,a24,a25]∧Zta [a0,a1,a2,a3,a4,a5,a6,a7,a8,a9,a10,a11,a12,a13,a14,a15,a16,a17,a18,a19,a20,a21,a22,a23,a24,a25]≤Ztc [a0,a1,a2,a3,a4,a5,a6,a7,a8,a9,a10,a11,a12,a13,a14,a15,a16,a17,a18,a19,a20,a21,a22,a23,a24,a25]):=by
      rw [Z50]
      exact ⟨fun h=>h.2,fun h=>⟨hz,h⟩⟩
     have z1:Z90 [a0,a1,a2,a3,a4,a5,a6,a7,a8,a9,a10,a11,a12,a13,a14,a15,a16,a17,a18,a19,a20,a21,a22,a23,a24,a25] - 4=Z90 [a0,a1,a2,a3,a4,a5,a6,a7,a8,a9,a10,a11,a12,a13,a14,a15,a16,a17,a18,a19,a20,a21,a22,a23,a24,a25] - 4:=rfl
     refine ⟨fun h=>absurd h (by simp),fun _=>⟨fun h=>absurd h (by simp),fun _=>⟨fun h=>absurd h (by omega),fun _=>?_⟩⟩⟩
     have v0:=Zwy (k:=0) kf kw k1 k2 (n:=vw [a0,a1,a2,a3,a4,a5,a6,a7,a8,a9,a10,a11,a12,a13,a14,a15,a16,a17,a18,a19,a20,a21,a22,a23,a24,a25] 0) (by omega) (by omega)
     have v3:=Zwy (k:=1) kf kw k1 k2 (n:=vw [a0,a1,a2,a3,a4,a5,a6,a7,a8,a9,a10,a11,a12,a13,a14,a15,a16,a17,a18,a19,a20,a21,a22,a23,a24,a25] 3) (by omega) (by omega)
     have v4:=Zwy (k:=1) kf kh k1 k2 (n:=vw [a0,a1,a2,a3,a4,a5,a6,a7,a8,a9,a10,a11,a12,a13,a14,a15,a16,a17,a18,a19,a20,a21,a22,a23,a24,a25] 4) (by omega) (by omega)
     have v1:=Zwy (k:=0) kf kh k1 k2 (n:=vw [a0,a1,a2,a3,a4,a5,a6,a7,a8,a9,a10,a11,a12,a13,a14,a15,a16,a17,a18,a19,a20,a21,a22,a23,a24,a25] 1) (by omega) (by omega)
     have b0:=Z1fu kf kw k1 k2 (l:=Z90 [a0,a1,a2,a3,a4,a5,a6,a7,a8,a9,a10,a11,a12,a13,a14,a15,a16,a17,a18,a19,a20,a21,a22,a23,a24,a25]) (h:=Z5i [a0,a1,a2,a3,a4,a5,a6,a7,a8,a9,a10,a11,a12,a13,a14,a15,a16,a17,a18,a19,a20,a21,a22,a23,a24,a25]) (by omega) (by omega) w22 w24
     have b1:=Z1fu kf kh k1 k2 (l:=Zt7 [a0,a1,a2,a3,a4,a5,a6,a7,a8,a9,a10,a11,a12,a13,a14,a15,a16,a17,a18,a19,a20,a21,a22,a23,a24,a25]) (h:=Zt8 [a0,a1,a2,a3,a4,a5,a6,a7,a8,a9,a10,a11,a12,a13,a14,a15,a16,a17,a18,a19,a20,a21,a22,a23,a24,a25]) (by omega) (by omega) w23 w25
     have hnz:¬ Z13 [a0,a1,a2,a3,a4,a5,a6,a7,a8,a9,a10,a11,a12,a13,a14,a15,a16,a17,a18,a19,a20,a21,a22,a23,a24,a25]=0:=by omega
     have hP:Ze3 [a0,a1,a2,a3,a4,a5,a6,a7,a8,a9,a10,a11,a12,a13,a14,a15,a16,a17,a18,a19,a20,a21,a22,a23,a24,a25]=[Zt9 [a0,a1,a2,a3,a4,a5,a6,a7,a8,a9,a10,a11,a12,a13,a14,a15,a16,a17,a18,a19,a20,a21,a22,a23,a24,a25],Zta [a0,a1,a2,a3,a4,a5,a6,a7,a8,a9,a10,a11,a12,a13,a14,a15,a16,a17,a18,a19,a20,a21,a22,a23,a24,a25],Ztb [a0,a1,a2,a3,a4,a5,a6,a7,a8,a9,a10,a11,a12,a13,a14,a15,a16,a17,a18,a19,a20,a21,a22,a23,a24,a25],Ztc [a0,a1,a2,a3,a4,a5,a6,a7,a8,a9,a10,a11,a12,a13,a14,a15,a16,a17,a18,a19,a20,a21,a22,a23,a24,a25],16777216 / Z13 [a0,a1,a2,a3,a4,a5,a6,a7,a8,a9,a10,a11,a12,a13,a14,a15,a16,a17,a18,a19,a20,a21,a22,a23,a24,a25],1,0]:=rfl
     rw [hP]
     clear r0 r1 r3 r4 p0 p1 p3 p4 t0 t1 t2 t3 g0 g1 g3 g4 hd hd2 hd3 s1 s2 s3 e1 e2 q0 q1 q2 q3 q4 q5 q6 hP
     refine ⟨v0,v3,b0,v4,v1,b1,?_⟩
     clear v0 v3 b0 v4 v1 b1
     generalize Z6s [a0,a1,a2,a3,a4,a5,a6,a7,a8,a9,a10,a11,a12,a13,a14,a15,a16,a17,a18,a19,a20,a21,a22,a23,a24,a25]=S at *
     generalize Zt9 [a0,a1,a2,a3,a4,a5,a6,a7,a8,a9,a10,a11,a12,a13,a14,a15,a16,a17,a18,a19,a20,a21,a22,a23,a24,a25]=X0 at *
     generalize Ztb [a0,a1,a2,a3,a4,a5,a6,a7,a8,a9,a10,a11,a12,a13,a14,a15,a16,a17,a18,a19,a20,a21,a22,a23,a24,a25]=X1 at *
     generalize Zta [a0,a1,a2,a3,a4,a5,a6,a7,a8,a9,a10,a11,a12,a13,a14,a15,a16,a17,a18,a19,a20,a21,a22,a23,a24,a25]=Y0 at *
     generalize Ztc [a0,a1,a2,a3,a4,a5,a6,a7,a8,a9,a10,a11,a12,a13,a14,a15,a16,a17,a18,a19,a20,a21,a22,a23,a24,a25]=Y1 at *
     by_cases h1:X0≤X1 <;> by_cases h2:Y0≤Y1 <;> cases S <;> simp_all [b01,z7]
    ·have hsh:¬ Z6s [a0,a1,a2,a3,a4,a5,a6,a7,a8,a9,a10,a11,a12,a13,a14,a15,a16,a17,a18,a19,a20,a21,a22,a23,a24,a25]=true:=fun h=>hz (Z50.1 h).1
     rw [if_neg hsh]
     simp only [z7,TX.sat,XB.prop,X.den,Z1kk,Z1kl,Z1ke,Z1kf,Z1ki,Z1kj,Z1kg,Z1kh,mkS,mkP,and_true,true_and,Z1kp,Z1kq,not_or,not_and,Z1km,ne_eq,Z1kn,Z1ko]
     refine ⟨fun h=>absurd h (by simp),fun _=>⟨fun h=>absurd h (by simp),fun _=>⟨fun _=>by first | rfl | trivial,fun h=>absurd h (by omega)⟩⟩⟩
   ·simp only [Zcp,Z7o,Z7l,Z7k,TX.sat,XB.prop,X.den,Z1kk,Z1kl,Z1ke,Z1kf,Z1ki,Z1kj,Z1kg,Z1kh,mkS,mkP,and_true,true_and,Z1kp,Z1kq,not_or,not_and,Z1km,ne_eq,Z1kn,Z1ko,Z3i,Z42,Z4z,Z2h,e1,e2,hc,hw,hv,if_true,if_false,reduceIte,ex7,Bool.false_eq_true,z7]
    have q6:(Zo (Z28 [a0,a1,a2,a3,a4,a5,a6,a7,a8,a9,a10,a11,a12,a13,a14,a15,a16,a17,a18,a19,a20,a21,a22,a23,a24,a25])).getD 6 0=0:=rfl
    rw [q6]
    refine ⟨fun h=>absurd h (by simp),fun _=>⟨fun _=>by first | rfl | trivial,fun h=>absurd h (by decide)⟩⟩
  ·simp only [Zcp,Z7o,Z7l,TX.sat,XB.prop,X.den,Z1kk,Z1kl,Z1ke,Z1kf,Z1ki,Z1kj,Z1kg,Z1kh,mkS,mkP,and_true,true_and,Z1kp,Z1kq,not_or,not_and,Z1km,ne_eq,Z1kn,Z1ko,Z3i,Z4z,Z2h,e1,hc,hw,if_true,if_false,reduceIte,ex7,Bool.false_eq_true,z7]
   exact ⟨fun _=>trivial,fun h=>absurd h (by decide)⟩
 ·simp only [Zcp,Z7o,Z7l,TX.sat,XB.prop,X.den,Z1kk,Z1kl,Z1ke,Z1kf,Z1ki,Z1kj,Z1kg,Z1kh,mkS,mkP,and_true,true_and,Z1kp,Z1kq,not_or,not_and,Z1km,ne_eq,Z1kn,Z1ko,Z3i,Z4z,Z2h,e1,hc,if_false,reduceIte,ex7,Bool.false_eq_true,z7]
  exact ⟨fun _=>trivial,fun h=>absurd h (by decide)⟩)
theorem Z10n:Z1g Zg4 Zwb:=⟨fun _ h=>h,fun vs xs h hp=>by
 show Z17 (ivs 4 0 63++[iv 0 65536,iv 0 1,iv 0 150]) (ex7 (Z2h xs))
 have z:∀ e:Int,0≤e→e≤150→Z17 (ivs 4 0 63++[iv 0 65536,iv 0 1,iv 0 150]) (ex7 (z7 e)):=fun e h1 h2 =>
  Z1 (Z5.2 (by simp [z7])) (Z1 (Z5.2 (by simp [z7])) (Z1 (Z5.2 (by simp [z7])) (Z1 (Z5.2 (by simp [z7])) (Z1 (Z5.2 (by simp [z7])) (Z1 (Z5.2 (by simp [z7])) (Z1 ⟨h1,h2⟩ Z4))))))
 unfold Z2h
 split
 ·rename_i hc
  split
  ·rename_i hw
   split
   ·rename_i hv
    split
    ·rename_i hs
     have kl:=Zn2 hc
     have ks:=Z50.1 hs
     have kv:=Z4h.1 hv
     simp only [Nat.reduceAdd] at kv
     have x0:Zt9 xs=max (up (Z90 xs - 4) 8) (xs.getD 22 0):=rfl
     have y0:Zta xs=max (up (Zt7 xs - 4) 8) (xs.getD 23 0):=rfl
     have x1:Ztb xs=min ((Z5i xs - 4) / 8) (xs.getD 24 0):=rfl
     have y1:Ztc xs=min ((Zt8 xs - 4) / 8) (xs.getD 25 0):=rfl
     have hn:Z13 xs=max (vw xs 2) (xs.getD 13 0):=rfl
     have hd:0≤16777216 / Z13 xs∧16777216 / Z13 xs≤65536:=by
      constructor
      ·rw [Int.le_ediv_iff_mul_le (by omega)]; omega
      ·apply Int.ediv_le_of_le_mul (by omega); omega
     exact Z1 (Z5.2 (by show 0≤Zt9 xs∧Zt9 xs≤63; omega)) (Z1 (Z5.2 (by show 0≤Zta xs∧Zta xs≤63; omega)) (Z1 (Z5.2 (by show 0≤Ztb xs∧Ztb xs≤63; omega)) (Z1 (Z5.2 (by show 0≤Ztc xs∧Ztc xs≤63; omega)) (Z1 hd (Z1 (Z5.2 (by simp [Ze3])) (Z1 (Z5.2 (by simp [Ze3])) Z4))))))
    ·exact z 0 (by omega) (by omega)
   ·exact z 2 (by omega) (by omega)
  ·exact z 8 (by omega) (by omega)
 ·exact z 150 (by omega) (by omega)⟩
end Go.Proofs.YtgcoidbaoigkeaaGreatDoor.fix
namespace Go.Proofs.YtgcoidbaoigkeaaGreatDoor.fix
open Go.RowKit Go.Sx
noncomputable def Zgd:List Sum:=[Z7l,Z7k]
def Zx0:List Inf:=[Zt6,Zmj]
def Zx1:TX:=(.ite (.lt (.c 256) (.ln (.v 0))) (.ret [(.c 4)])
(.loop 2 [none,none] [(.c 0),(.c 0)] (.ite (.lt (.v 22) (.ln (.v 0))) (.asrt (.le (.c 0) (.v 22)) (.call 0 [(.c 0),(.c 0),(.c 0),(.c 0),(.c 0),(.c 0),(.c 0),(.c 0),(.c 0),(.c 0),(.c 0),(.c 0),(.c 1),(.c 256),(.c 1),(.c 1),(.l2 .at (.l2 .at (.v 0) (.v 22)) (.c 0)),(.l2 .at (.l2 .at (.v 0) (.v 22)) (.c 1)),(.l2 .at (.l2 .at (.v 0) (.v 22)) (.c 2)),(.l2 .at (.l2 .at (.v 0) (.v 22)) (.c 3)),(.l2 .at (.l2 .at (.v 0) (.v 22)) (.c 4)),(.l2 .at (.l2 .at (.v 0) (.v 22)) (.c 5))] (.ite (.not (.eq (.v 29) (.c 0))) (.ret [(.c 8)])
(.back 0 [(.v 21),(.wr .i64 (.add (.v 22) (.c 1)))]))))
(.callp 1 [(.v 1),(.v 2),(.v 3),(.v 4),(.v 5),(.v 6),(.v 7),(.v 8),(.v 9),(.v 10),(.v 11),(.v 12),(.v 13),(.v 14),(.v 15),(.v 16),(.v 17),(.v 18),(.v 19),(.v 20)] (.ret [(.v 23)])))))
theorem Ztx:Z12 (Zr [] Zx0 [] Ze6 (Zq Tryz.prog (Z5u Tryz.prog [(5,19)]) gl0 Zgd 1000 31 [Bs,An 16,An 4] [I1]))=Zx1:=by kernel_rfl
theorem Z1ca:Gok Tryz.prog Zgd:=(more Zwu (fix.one Zqg))
theorem Z1cb:Zj Zgd Zx0:=(Z2 Zqi (Z2 Zl3 Z8))
theorem Z37:dec (cod ([]:List Int))=[]:=Z3 _
theorem Zp {n:Nat} {xs:List Int} (h:xs.length=n):Z17 (List.replicate n none) xs:=by
 refine ⟨by simp [h],fun i=>?_⟩
 have:(List.replicate n (none:Option Iv)).getD i none=none:=by
  simp only [List.getD,List.getElem?_replicate]
  split <;> rfl
 rw [this]
 trivial
theorem Z5w {p:Int→Bool} {l:List Int} {i:Nat} (h:∀ j,j < i→p (l.getD j 0)=true) (hi:l.length≤i):l.all p=true:=by
 rw [List.all_eq_true]
 intro x hx
 obtain ⟨j,hj,rfl⟩:=List.getElem_of_mem hx
 have:=h j (by omega)
 rwa [show l.getD j 0=l[j] by simp [List.getD,hj]] at this
theorem Z96 {p:Int→Bool} {l:List Int} {i:Nat} (hi:i < l.length) (h:¬ p (l.getD i 0)=true):¬ l.all p=true:=by
 rw [List.all_eq_true]
 intro hh
 refine h (hh _ ?_)
 rw [show l.getD i 0=l[i] by simp [List.getD,hi]]
 exact List.getElem_mem hi
theorem Z10 {l:List Int} {i:Nat} (hi:i < l.length):l.getD i 0 ∈ l:=by
 rw [show l.getD i 0=l[i] by simp [List.getD,hi]]
 exact List.getElem_mem hi
theorem len21x {xs:List Int} (h:xs.length=21):∃ a c0 c1 c2 c3 c4 c5 c6 c7 c8 c9 c10 c11 c12 c13 c14 c15 w0 w1 w2 w3,xs=[a,c0,c1,c2,c3,c4,c5,c6,c7,c8,c9,c10,c11,c12,c13,c14,c15,w0,w1,w2,w3]:=by
 match xs,h with
 | [a,c0,c1,c2,c3,c4,c5,c6,c7,c8,c9,c10,c11,c12,c13,c14,c15,w0,w1,w2,w3],_=>exact ⟨_,_,_,_,_,_,_,_,_,_,_,_,_,_,_,_,_,_,_,_,_,rfl⟩
theorem Z1fv {b:Int} (h:Z9 Z3d (dec b)):Ze zz (co b 0)∧Ze zz (co b 1)∧Ze zz (co b 2)∧Ze zz (co b 3)∧Ze zz (co b 4)∧Ze zz (co b 5):=by
 have:=Z1t h
 exact ⟨this.2 0,this.2 1,this.2 2,this.2 3,this.2 4,this.2 5⟩
theorem zc (n:Int) (h:-9223372036854775808≤n) (h':n≤9223372036854775807):Ze zz n:=⟨h,h'⟩
theorem Z1cc (b0 b1 b2 b3 b4 b5:Int):(Zcg [0,0,0,0,0,0,0,0,0,0,0,0,1,256,1,1,b0,b1,b2,b3,b4,b5]).getD 6 0=if Z2z [b0,b1,b2,b3,b4,b5] 0=true then 0 else 8:=by
 unfold Zcg
 rw [if_pos (show Z2o [0,0,0,0,0,0,0,0,0,0,0,0,1,256,1,1,b0,b1,b2,b3,b4,b5] 0=true from rfl)]
 rw [show Z2z [0,0,0,0,0,0,0,0,0,0,0,0,1,256,1,1,b0,b1,b2,b3,b4,b5] 16=Z2z [b0,b1,b2,b3,b4,b5] 0 from rfl]
 split <;> rfl
theorem Z15j:Zg5.ok Tryz.prog:=Sum.okPF (pin:=Ze6) facts.mixed Z1ca Z1cb Ztx rfl (fun _=>rfl) (fun xs h=>h.1) (by
 intro xs hx hp
 obtain ⟨a,c0,c1,c2,c3,c4,c5,c6,c7,c8,c9,c10,c11,c12,c13,c14,c15,w0,w1,w2,w3,rfl⟩:=len21x hx
 have hel:∀ b ∈ dec a,Z9 Z3d (dec b):=hp.2
 clear hp
 simp only [Zx1,Zgd,Z7l,Z7k,TX.sat,XB.prop,X.den,Z1kk,Z1kl,Z1ke,Z1kf,Z1ki,Z1kj,Z1kg,Z1kh,mkS,mkP,and_true,true_and,Z1kp,Z1kq,not_or,not_and,Z1km,ne_eq,Z1kn,Z1ko,Ze5,Z3i,Z42,ex7,L2.den,List.drop_succ_cons,List.drop_zero]
 generalize dec a=l at hel ⊢
 unfold Z80
 refine ⟨fun h=>?_,fun h=>?_⟩
 ·rw [if_neg (by omega)]
 rw [if_pos (by omega)]
 refine ⟨fun xs=>∃ i:Nat,xs.getD 1 0=(i:Int)∧i≤l.length∧∀ j,j < i→okB (l.getD j 0)=true,fun xs=>l.length - (xs.getD 1 0).toNat,fun xs hx _=>Zp (n:=2) hx,⟨0,rfl,by omega,fun j hj=>by omega⟩,?_⟩
 intro xs hx hI
 obtain ⟨d0,d1,rfl⟩:=Zdf hx
 obtain ⟨i,hi,hle,hall⟩:=hI
 simp only [Z1kg,Z1kh,Z1ki,Z1kj] at hi ⊢
 subst hi
 have hco:∀ x j,(dec x).getD j 0=co x j:=fun _ _=>rfl
 simp only [Int.toNat_natCast,hco,show Int.toNat 0=0 from rfl,show Int.toNat 1=1 from rfl,show Int.toNat 2=2 from rfl,show Int.toNat 3=3 from rfl,show Int.toNat 4=4 from rfl,show Int.toNat 5=5 from rfl,Z1cc]
 refine ⟨fun hlt=>?_,fun hge=>?_⟩
 ·have hil:i < l.length:=by omega
  obtain ⟨e0,e1,e2,e3,e4,e5⟩:=Z1fv (hel _ (Z10 hil))
  have z0:Ze zz 0:=zc 0 (by decide) (by decide)
  have z1:Ze zz 1:=zc 1 (by decide) (by decide)
  have z256:Ze zz 256:=zc 256 (by decide) (by decide)
  refine ⟨by omega,Z1 z0 (Z1 z0 (Z1 z0 (Z1 z0 (Z1 z0 (Z1 z0 (Z1 z0 (Z1 z0 (Z1 z0 (Z1 z0 (Z1 z0 (Z1 z0 (Z1 z1 (Z1 z256 (Z1 z1 (Z1 z1 (Z1 e0 (Z1 e1 (Z1 e2 (Z1 e3 (Z1 e4 (Z1 e5 Z4))))))))))))))))))))),?_⟩
  have hok:okB (l.getD i 0)=Z2z [co (l.getD i 0) 0,co (l.getD i 0) 1,co (l.getD i 0) 2,co (l.getD i 0) 3,co (l.getD i 0) 4,co (l.getD i 0) 5] 0:=rfl
  rw [← hok]
  by_cases hb:okB (l.getD i 0)=true
  ·refine ⟨fun h=>absurd (if_pos hb) h,fun _=>?_⟩
   have hw:IntKind.i64.wrap ((i:Int) + 1)=((i + 1:Nat):Int):=by rw [Zf (by omega) (by omega)]; omega
   rw [hw]
   refine ⟨⟨i + 1,rfl,by omega,fun j hj=>?_⟩,by rw [Int.toNat_natCast]; omega⟩
   rcases Nat.lt_or_ge j i with h1 | h1
   ·exact hall j h1
   ·have:j=i:=by omega
    subst this
    exact hb
  ·refine ⟨fun _=>?_,fun h=>?_⟩
   ·rw [if_neg (Z96 hil hb)]
   ·rw [if_neg hb] at h
    exact absurd h (by decide)
 ·rw [if_pos (Z5w hall (by omega))])
theorem Z15k (x:List Int):0≤Z20 x∧Z20 x≤150:=by
 unfold Z20
 split
 ·split <;> decide
 ·decide
theorem Zx2 (l x:List Int):Ze (iv 0 150) (Z80 l x):=by
 unfold Z80
 split
 ·split
  ·exact Z15k x
  ·exact ⟨by show (0:Int)≤8; decide,by show (8:Int)≤150; decide⟩
 ·exact ⟨by show (0:Int)≤4; decide,by show (4:Int)≤150; decide⟩
theorem Z10o:Z1g Zg5 Zwd:=⟨fun xs h=>(Z1a xs h).elim,fun vs xs h hp=>Z1 (Zx2 _ _) Z4⟩
theorem Zeg {l x:List Int} {i:Nat}:Z3k l x (i + 1)=if Z1s (l.getD i 0) x=true then Z3k l x i++[(i:Int)] else Z3k l x i:=rfl
theorem Zit {l x:List Int}:∀ i,(Z3k l x i).length≤i
 | 0=>Nat.le_refl _
 | i + 1=>by
  rw [Zeg]
  split
  ·rw [List.length_append]
   have:=Zit (l:=l) (x:=x) i
   simp only [List.length_cons,List.length_nil]
   omega
  ·exact Nat.le_succ_of_le (Zit i)
end Go.Proofs.YtgcoidbaoigkeaaGreatDoor.fix
namespace Go.Proofs.YtgcoidbaoigkeaaGreatDoor.fix
open Go.RowKit Go.Sx
noncomputable def Zge:List Sum:=[Z32]
def Zx3:List Inf:=[Zcd]
def Zx4:TX:=(.ite (.lt (.c 256) (.ln (.v 0))) (.ret [(.c 4)])
(.loop 2 [none,none] [(.c 0),(.c 0)] (.ite (.le (.ln (.v 0)) (.v 2)) (.ret [(.c 0)])
(.asrt (.le (.c 0) (.v 2)) (.call 0 [(.l2 .at (.l2 .at (.v 0) (.v 2)) (.c 0)),(.l2 .at (.l2 .at (.v 0) (.v 2)) (.c 1)),(.l2 .at (.l2 .at (.v 0) (.v 2)) (.c 2)),(.l2 .at (.l2 .at (.v 0) (.v 2)) (.c 3)),(.l2 .at (.l2 .at (.v 0) (.v 2)) (.c 4)),(.l2 .at (.l2 .at (.v 0) (.v 2)) (.c 5))] (.ite (.not (.eq (.v 3) (.c 0))) (.ret [(.c 8)])
(.back 0 [(.v 1),(.wr .i64 (.add (.v 2) (.c 1)))])))))))
theorem Zty:Z12 (Zr [] Zx3 [] Ze7 (Zq Tryz.prog (Z5u Tryz.prog [(2,9)]) gl0 Zge 1000 36 [Bs] [I1]))=Zx4:=by kernel_rfl
theorem Z1cd:Gok Tryz.prog Zge:=(fix.one Zcj)
theorem Z1ce:Zj Zge Zx3:=(Z2 Za7 Z8)
theorem Zqj:Za6.ok Tryz.prog:=Sum.okPF (pin:=Ze7) facts.mixed Z1cd Z1ce Zty rfl (fun _=>rfl) (fun xs h=>h.1) (by
 intro xs hx hp
 obtain ⟨a,rfl⟩:∃ a,xs=[a]:=by
  match xs,hx with
  | [a],_=>exact ⟨a,rfl⟩
 have hel:∀ b ∈ dec a,Z9 Z3d (dec b):=hp.2
 clear hp
 simp only [Zx4,Zge,Z32,TX.sat,XB.prop,X.den,Z1kk,Z1kl,Z1ke,Z1kf,Z1ki,Z1kj,Z1kg,Z1kh,mkS,mkP,and_true,true_and,Z1kp,Z1kq,not_or,not_and,Z1km,ne_eq,Z1kn,Z1ko,Za5,Z2s,L2.den]
 generalize dec a=l at hel ⊢
 unfold Z21
 refine ⟨fun h=>?_,fun h=>?_⟩
 ·rw [if_neg (by omega)]
 rw [if_pos (by omega)]
 refine ⟨fun xs=>∃ i:Nat,xs.getD 1 0=(i:Int)∧i≤l.length∧∀ j,j < i→Z36 (l.getD j 0)=true,fun xs=>l.length - (xs.getD 1 0).toNat,fun xs hx _=>Zp (n:=2) hx,⟨0,rfl,by omega,fun j hj=>by omega⟩,?_⟩
 intro xs hx hI
 obtain ⟨d0,d1,rfl⟩:=Zdf hx
 obtain ⟨i,hi,hle,hall⟩:=hI
 simp only [Z1kg,Z1kh,Z1ki,Z1kj] at hi ⊢
 subst hi
 have hco:∀ x j,(dec x).getD j 0=co x j:=fun _ _=>rfl
 simp only [Int.toNat_natCast,hco,show Int.toNat 0=0 from rfl,show Int.toNat 1=1 from rfl,show Int.toNat 2=2 from rfl,show Int.toNat 3=3 from rfl,show Int.toNat 4=4 from rfl,show Int.toNat 5=5 from rfl]
 refine ⟨fun hge=>?_,fun hlt=>?_⟩
 ·rw [if_pos (Z5w hall (by omega))]
 ·have hil:i < l.length:=by omega
  obtain ⟨e0,e1,e2,e3,e4,e5⟩:=Z1fv (hel _ (Z10 hil))
  refine ⟨by omega,Z1 e0 (Z1 e1 (Z1 e2 (Z1 e3 (Z1 e4 (Z1 e5 Z4))))),?_⟩
  have hok:Z36 (l.getD i 0)=Z72 [co (l.getD i 0) 0,co (l.getD i 0) 1,co (l.getD i 0) 2,co (l.getD i 0) 3,co (l.getD i 0) 4,co (l.getD i 0) 5] 0:=rfl
  rw [← hok]
  by_cases hb:Z36 (l.getD i 0)=true
  ·refine ⟨fun h=>absurd ((Ztj _ (by decide)).2 hb) h,fun _=>?_⟩
   have hw:IntKind.i64.wrap ((i:Int) + 1)=((i + 1:Nat):Int):=by rw [Zf (by omega) (by omega)]; omega
   rw [hw]
   refine ⟨⟨i + 1,rfl,by omega,fun j hj=>?_⟩,by rw [Int.toNat_natCast]; omega⟩
   rcases Nat.lt_or_ge j i with h1 | h1
   ·exact hall j h1
   ·have:j=i:=by omega
    subst this
    exact hb
  ·refine ⟨fun _=>?_,fun h=>?_⟩
   ·rw [if_neg (Z96 hil hb)]
   ·exact absurd ((Ztj _ (by decide)).1 h) hb)
theorem Zl4:Z1g Za6 Zmp:=⟨fun xs h=>(Z1a xs h).elim,fun vs xs h hp=>by
 refine Z1 ?_ Z4
 unfold Z21
 split
 ·split
  ·exact ⟨by show (0:Int)≤0; decide,by show (0:Int)≤8; decide⟩
  ·exact ⟨by show (0:Int)≤8; decide,by show (8:Int)≤8; decide⟩
 ·exact ⟨by show (0:Int)≤4; decide,by show (4:Int)≤8; decide⟩⟩
noncomputable def Zgf:List Sum:=[]
def Zx5:List Inf:=[]
def Zx6:TX:=(.ite (.not (.eq (.ln (.v 0)) (.mx (.c 0) (.sub (.mul (.c 2) (.v 1)) (.c 1))))) (.ret [(.c 0)])
(.asrt (.eq (.v 1) (.v 1)) (.ite (.lt (.c 0) (.v 1)) (.loop 4 [none,none,none,none] [(.c 0),(.l2 .rep (.v 1) (.c 0)),(.l2 .snoc .nl (.c 0)),(.c 0)] (.ite (.lt (.v 5) (.ln (.v 0))) (.asrt (.le (.c 0) (.v 5)) (.asrt (.or (.eq (.ln (.v 4)) (.c 0)) (.le (.c 0) (.wr .i64 (.sub (.ln (.v 4)) (.c 1))))) (.asrt (.or (.eq (.ln (.v 4)) (.c 0)) (.lt (.wr .i64 (.sub (.ln (.v 4)) (.c 1))) (.ln (.v 4)))) (.asrt (.or (.eq (.ln (.v 4)) (.c 0)) (.le (.c 0) (.wr .i64 (.sub (.ln (.v 4)) (.c 1))))) (.asrt (.or (.eq (.ln (.v 4)) (.c 0)) (.lt (.wr .i64 (.sub (.ln (.v 4)) (.c 1))) (.ln (.v 4)))) (.ite (.or (.eq (.ln (.v 4)) (.c 0)) (.not (.eq (.l2 .at (.v 4) (.wr .i64 (.sub (.ln (.v 4)) (.c 1)))) (.v 5)))) (.ret [(.c 0)])
(.asrt (.le (.c 0) (.wr .i64 (.sub (.ln (.v 4)) (.c 1)))) (.asrt (.le (.wr .i64 (.sub (.ln (.v 4)) (.c 1))) (.ln (.v 4))) (.ite (.or (.not (.eq (.l2 .at (.l2 .at (.v 0) (.v 5)) (.c 6)) (.c (-1)))) (.not (.eq (.l2 .at (.l2 .at (.v 0) (.v 5)) (.c 7)) (.c (-1))))) (.ite (.or (.or (.not (.eq (.l2 .at (.l2 .at (.v 0) (.v 5)) (.c 6)) (.wr .i64 (.add (.v 5) (.c 1))))) (.le (.l2 .at (.l2 .at (.v 0) (.v 5)) (.c 7)) (.l2 .at (.l2 .at (.v 0) (.v 5)) (.c 6)))) (.not (.eq (.l2 .at (.l2 .at (.v 0) (.v 5)) (.c 8)) (.c (-1))))) (.ret [(.c 0)])
(.asrt (.le (.ln (.l2 .snoc (.l2 .snoc (.l2 .take (.v 4) (.wr .i64 (.sub (.ln (.v 4)) (.c 1)))) (.l2 .at (.l2 .at (.v 0) (.v 5)) (.c 7))) (.l2 .at (.l2 .at (.v 0) (.v 5)) (.c 6)))) (.c 1000000)) (.back 0 [(.v 2),(.v 3),(.l2 .snoc (.l2 .snoc (.l2 .take (.v 4) (.wr .i64 (.sub (.ln (.v 4)) (.c 1)))) (.l2 .at (.l2 .at (.v 0) (.v 5)) (.c 7))) (.l2 .at (.l2 .at (.v 0) (.v 5)) (.c 6))),(.wr .i64 (.add (.v 5) (.c 1)))])))
(.asrt (.or (.or (.lt (.l2 .at (.l2 .at (.v 0) (.v 5)) (.c 8)) (.c 0)) (.le (.v 1) (.l2 .at (.l2 .at (.v 0) (.v 5)) (.c 8)))) (.le (.c 0) (.l2 .at (.l2 .at (.v 0) (.v 5)) (.c 8)))) (.asrt (.or (.or (.lt (.l2 .at (.l2 .at (.v 0) (.v 5)) (.c 8)) (.c 0)) (.le (.v 1) (.l2 .at (.l2 .at (.v 0) (.v 5)) (.c 8)))) (.lt (.l2 .at (.l2 .at (.v 0) (.v 5)) (.c 8)) (.ln (.v 3)))) (.asrt (.or (.or (.lt (.l2 .at (.l2 .at (.v 0) (.v 5)) (.c 8)) (.c 0)) (.le (.v 1) (.l2 .at (.l2 .at (.v 0) (.v 5)) (.c 8)))) (.le (.c 0) (.l2 .at (.l2 .at (.v 0) (.v 5)) (.c 8)))) (.asrt (.or (.or (.lt (.l2 .at (.l2 .at (.v 0) (.v 5)) (.c 8)) (.c 0)) (.le (.v 1) (.l2 .at (.l2 .at (.v 0) (.v 5)) (.c 8)))) (.lt (.l2 .at (.l2 .at (.v 0) (.v 5)) (.c 8)) (.ln (.v 3)))) (.ite (.or (.or (.lt (.l2 .at (.l2 .at (.v 0) (.v 5)) (.c 8)) (.c 0)) (.le (.v 1) (.l2 .at (.l2 .at (.v 0) (.v 5)) (.c 8)))) (.nz (.l2 .at (.v 3) (.l2 .at (.l2 .at (.v 0) (.v 5)) (.c 8))))) (.ret [(.c 0)])
(.asrt (.lt (.l2 .at (.l2 .at (.v 0) (.v 5)) (.c 8)) (.ln (.v 3))) (.back 0 [(.v 2),(.l3 (.v 3) (.l2 .at (.l2 .at (.v 0) (.v 5)) (.c 8)) (.c 1)),(.l2 .take (.v 4) (.wr .i64 (.sub (.ln (.v 4)) (.c 1)))),(.wr .i64 (.add (.v 5) (.c 1)))]))))))))))))))))
(.ite (.eq (.ln (.v 4)) (.c 0)) (.ret [(.c 1)])
(.ret [(.c 0)]))))
(.loop 4 [none,none,none,none] [(.c 0),(.l2 .rep (.v 1) (.c 0)),.nl,(.c 0)] (.ite (.lt (.v 5) (.ln (.v 0))) (.asrt (.le (.c 0) (.v 5)) (.asrt (.or (.eq (.ln (.v 4)) (.c 0)) (.le (.c 0) (.wr .i64 (.sub (.ln (.v 4)) (.c 1))))) (.asrt (.or (.eq (.ln (.v 4)) (.c 0)) (.lt (.wr .i64 (.sub (.ln (.v 4)) (.c 1))) (.ln (.v 4)))) (.asrt (.or (.eq (.ln (.v 4)) (.c 0)) (.le (.c 0) (.wr .i64 (.sub (.ln (.v 4)) (.c 1))))) (.asrt (.or (.eq (.ln (.v 4)) (.c 0)) (.lt (.wr .i64 (.sub (.ln (.v 4)) (.c 1))) (.ln (.v 4)))) (.ite (.or (.eq (.ln (.v 4)) (.c 0)) (.not (.eq (.l2 .at (.v 4) (.wr .i64 (.sub (.ln (.v 4)) (.c 1)))) (.v 5)))) (.ret [(.c 0)])
(.asrt (.le (.c 0) (.wr .i64 (.sub (.ln (.v 4)) (.c 1)))) (.asrt (.le (.wr .i64 (.sub (.ln (.v 4)) (.c 1))) (.ln (.v 4))) (.ite (.or (.not (.eq (.l2 .at (.l2 .at (.v 0) (.v 5)) (.c 6)) (.c (-1)))) (.not (.eq (.l2 .at (.l2 .at (.v 0) (.v 5)) (.c 7)) (.c (-1))))) (.ite (.or (.or (.not (.eq (.l2 .at (.l2 .at (.v 0) (.v 5)) (.c 6)) (.wr .i64 (.add (.v 5) (.c 1))))) (.le (.l2 .at (.l2 .at (.v 0) (.v 5)) (.c 7)) (.l2 .at (.l2 .at (.v 0) (.v 5)) (.c 6)))) (.not (.eq (.l2 .at (.l2 .at (.v 0) (.v 5)) (.c 8)) (.c (-1))))) (.ret [(.c 0)])
(.asrt (.le (.ln (.l2 .snoc (.l2 .snoc (.l2 .take (.v 4) (.wr .i64 (.sub (.ln (.v 4)) (.c 1)))) (.l2 .at (.l2 .at (.v 0) (.v 5)) (.c 7))) (.l2 .at (.l2 .at (.v 0) (.v 5)) (.c 6)))) (.c 1000000)) (.back 0 [(.v 2),(.v 3),(.l2 .snoc (.l2 .snoc (.l2 .take (.v 4) (.wr .i64 (.sub (.ln (.v 4)) (.c 1)))) (.l2 .at (.l2 .at (.v 0) (.v 5)) (.c 7))) (.l2 .at (.l2 .at (.v 0) (.v 5)) (.c 6))),(.wr .i64 (.add (.v 5) (.c 1)))])))
(.asrt (.or (.or (.lt (.l2 .at (.l2 .at (.v 0) (.v 5)) (.c 8)) (.c 0)) (.le (.v 1) (.l2 .at (.l2 .at (.v 0) (.v 5)) (.c 8)))) (.le (.c 0) (.l2 .at (.l2 .at (.v 0) (.v 5)) (.c 8)))) (.asrt (.or (.or (.lt (.l2 .at (.l2 .at (.v 0) (.v 5)) (.c 8)) (.c 0)) (.le (.v 1) (.l2 .at (.l2 .at (.v 0) (.v 5)) (.c 8)))) (.lt (.l2 .at (.l2 .at (.v 0) (.v 5)) (.c 8)) (.ln (.v 3)))) (.asrt (.or (.or (.lt (.l2 .at (.l2 .at (.v 0) (.v 5)) (.c 8)) (.c 0)) (.le (.v 1) (.l2 .at (.l2 .at (.v 0) (.v 5)) (.c 8)))) (.le (.c 0) (.l2 .at (.l2 .at (.v 0) (.v 5)) (.c 8)))) (.asrt (.or (.or (.lt (.l2 .at (.l2 .at (.v 0) (.v 5)) (.c 8)) (.c 0)) (.le (.v 1) (.l2 .at (.l2 .at (.v 0) (.v 5)) (.c 8)))) (.lt (.l2 .at (.l2 .at (.v 0) (.v 5)) (.c 8)) (.ln (.v 3)))) (.ite (.or (.or (.lt (.l2 .at (.l2 .at (.v 0) (.v 5)) (.c 8)) (.c 0)) (.le (.v 1) (.l2 .at (.l2 .at (.v 0) (.v 5)) (.c 8)))) (.nz (.l2 .at (.v 3) (.l2 .at (.l2 .at (.v 0) (.v 5)) (.c 8))))) (.ret [(.c 0)])
(.asrt (.lt (.l2 .at (.l2 .at (.v 0) (.v 5)) (.c 8)) (.ln (.v 3))) (.back 0 [(.v 2),(.l3 (.v 3) (.l2 .at (.l2 .at (.v 0) (.v 5)) (.c 8)) (.c 1)),(.l2 .take (.v 4) (.wr .i64 (.sub (.ln (.v 4)) (.c 1)))),(.wr .i64 (.add (.v 5) (.c 1)))]))))))))))))))))
(.ite (.eq (.ln (.v 4)) (.c 0)) (.ret [(.c 1)])
(.ret [(.c 0)])))))))
theorem Ztz:Z12 (Zr [] Zx5 [] Ze9 (Zq Tryz.prog (Z5u Tryz.prog [(8,28)]) gl0 Zgf 1000 38 [Tr,I1] [Bo]))=Zx6:=by kernel_rfl
theorem Z1cf:Gok Tryz.prog Zgf:=noG
theorem Z1cg:Zj Zgf Zx5:=Z8
theorem Z2t {l:List Int} {n:Int} {i:Nat}:Z5j l n (i + 1)=(Z5j l n i).bind (Z5v n i (l.getD i 0)):=rfl
theorem Zeh {l:List Int} {n:Int} {i:Nat} (h:Z5j l n i=none):∀ k,Z5j l n (i + k)=none
 | 0=>h
 | k + 1=>by rw [show i + (k + 1)=(i + k) + 1 by omega,Z2t,Zeh h k]; rfl
theorem Ziu {l:List Int} {n:Int} {i:Nat} (hi:i≤l.length) (h:Z5j l n i=none):Z1m l n=false:=by
 unfold Z1m
 have:=Zeh h (l.length - i)
 rw [show i + (l.length - i)=l.length by omega] at this
 rw [this]
 simp [Ztf]
theorem Z15l:Zg6.ok Tryz.prog:=Sum.okF facts.mixed Z1cf Z1cg Ztz rfl (fun _=>rfl) (by
 intro xs hx hp
 obtain ⟨a,n,rfl⟩:=Zdf hx
 have hn:0≤n∧n≤1000:=hp.2 1
 clear hp
 simp only [Zx6,Zgf,TX.sat,XB.prop,X.den,Z1kk,Z1kl,Z1ke,Z1kf,Z1ki,Z1kj,Z1kg,Z1kh,mkS,mkP,and_true,true_and,Z1kp,Z1kq,not_or,not_and,Z1km,ne_eq,Z1kn,Z1ko,Ze8,L2.den]
 generalize dec a=l
 refine ⟨fun h=>?_,fun hlen=>?_⟩
 ·unfold Z1m
  rw [decide_eq_false (by simpa using h)]
  rfl
 have hll:l.length≤2000:=by omega
 refine ⟨fun h0=>?_,fun h0=>?_⟩
 all_goals
  refine ⟨fun xs=>∃ i:Nat,xs.getD 3 0=(i:Int)∧i≤l.length∧Z5j l n i=some (dec (xs.getD 1 0),dec (xs.getD 2 0))∧(dec (xs.getD 1 0)).length=n.toNat∧(dec (xs.getD 2 0)).length≤i + 1,fun xs=>l.length - (xs.getD 3 0).toNat,fun xs hx _=>Zp (n:=4) hx,⟨0,rfl,by omega,by simp [Z5j,h0,Z3,show ¬ (0 < n)↔¬ 0 < n from Iff.rfl,if_neg],by simp [Z3],by simp [Z3]⟩,?_⟩
  intro xs hx hI
  obtain ⟨d0,d1,d2,d3,rfl⟩:=len4 hx
  obtain ⟨i,hi,hle,hrun,hsl,hnl⟩:=hI
  simp only [Z1kg,Z1kh,Z1ki,Z1kj] at hi hrun hsl hnl ⊢
  subst hi
  generalize hse:dec d1=se at *
  generalize hnx:dec d2=nx at *
  have hco:∀ x j,(dec x).getD j 0=co x j:=fun _ _=>rfl
  have hw:IntKind.i64.wrap ((i:Int) + 1)=((i + 1:Nat):Int):=by rw [Zf (by omega) (by omega)]; omega
  have hwk:IntKind.i64.wrap ((nx.length:Int) - 1)=(nx.length:Int) - 1:=Zf (by omega) (by omega)
  simp only [Int.toNat_natCast,hco,Z3,hw,hwk,show Int.toNat 6=6 from rfl,show Int.toNat 7=7 from rfl,show Int.toNat 8=8 from rfl]
  generalize hb:l.getD i 0=b at *
  have hstep:Z5j l n (i + 1)=Z5v n i b (se,nx):=by rw [Z2t,hrun,hb]; rfl
  have htn:((nx.length:Int) - 1).toNat=nx.length - 1:=by omega
  refine ⟨fun hlt=>?_,fun hge=>?_⟩
  ·refine ⟨by omega,by omega,by omega,by omega,by omega,fun hbad=>?_,fun hok=>?_⟩
   ·rw [Ziu (i:=i + 1) (by omega)]
    ·rfl
    ·rw [hstep]
     unfold Z5v
     rw [if_pos]
     show nx=[]∨nx.getD (nx.length - 1) 0 ≠ (i:Int)
     rcases hbad with h | h
     ·exact .inl (List.eq_nil_of_length_eq_zero (by omega))
     ·exact .inr (by rw [htn] at h; exact h)
   ·have hno:Z1m l n=false→[(0:Int)]=[b01 (Z1m l n)]:=fun h=>by rw [h]; rfl
    have hn0:¬ (nx=[]∨nx.getD (nx.length - 1) 0 ≠ (i:Int)):=by
     rw [htn] at hok
     rintro (h | h)
     ·exact hok.1 (by rw [h]; rfl)
     ·exact h hok.2
    have hs1:Z5v n i b (se,nx)=(if co b 6 ≠ -1∨co b 7 ≠ -1 then
      (if co b 6 ≠ (i:Int) + 1∨co b 7≤co b 6∨co b 8 ≠ -1 then none else some (se,nx.take (nx.length - 1)++[co b 7]++[co b 6]))
     else (if co b 8 < 0∨n≤co b 8∨se.getD (co b 8).toNat 0 ≠ 0 then none else some (se.set (co b 8).toNat 1,nx.take (nx.length - 1)))):=by
     unfold Z5v
     rw [if_neg hn0]
    rw [hs1] at hstep
    rw [htn]
    have hk:nx.length ≠ 0:=by omega
    refine ⟨by omega,by omega,fun hbr=>?_,fun hlf=>?_⟩
    ·rw [if_pos hbr] at hstep
     refine ⟨fun hbad=>hno (Ziu (i:=i + 1) (by omega) ?_),fun hgood=>?_⟩
     ·rw [hstep,if_pos]
      rcases hbad with (h | h) | h
      ·exact .inl (by omega)
      ·exact .inr (.inl h)
      ·exact .inr (.inr h)
     ·rw [if_neg (by omega)] at hstep
      refine ⟨by simp only [List.length_append,List.length_take,List.length_cons,List.length_nil]; omega,⟨i + 1,rfl,by omega,hstep,hsl,by simp only [List.length_append,List.length_take,List.length_cons,List.length_nil]; omega⟩,by omega⟩
    ·rw [if_neg (by omega)] at hstep
     refine ⟨by omega,by omega,by omega,by omega,fun hbad=>hno (Ziu (i:=i + 1) (by omega) ?_),fun hgood=>?_⟩
     ·rw [hstep,if_pos]
      rcases hbad with (h | h) | h
      ·exact .inl h
      ·exact .inr (.inl h)
      ·exact .inr (.inr h)
     ·rw [if_neg (by
       rintro (h | h | h)
       ·omega
       ·omega
       ·exact h hgood.2)] at hstep
      refine ⟨by omega,⟨i + 1,rfl,by omega,hstep,by rw [List.length_set]; exact hsl,by rw [List.length_take]; omega⟩,by omega⟩
  ·have hil:i=l.length:=by omega
   subst hil
   refine ⟨fun h=>?_,fun h=>?_⟩
   ·unfold Z1m
    rw [decide_eq_true (by omega),hrun,List.eq_nil_of_length_eq_zero (l:=nx) (by omega)]
    rfl
   ·unfold Z1m
    rw [hrun]
    match nx,h with
    | x::m,_=>simp [Ztf,b01])
theorem Z10p:Z1g Zg6 Zwh:=⟨fun xs h=>h,fun vs xs h hp=>Z1 (Zf9 _) Z4⟩
end Go.Proofs.YtgcoidbaoigkeaaGreatDoor.fix
namespace Go.Proofs.YtgcoidbaoigkeaaGreatDoor.fix
open Go.RowKit Go.Sx
inductive BT where
 | leaf (i:Nat)
 | node (i:Nat) (a b:BT)
def BT.root:BT→Nat
 | .leaf i=>i
 | .node i _ _=>i
def BT.size:BT→Nat
 | .leaf _=>1
 | .node _ a b=>a.size + b.size + 1
def BT.leaves:BT→List Nat
 | .leaf i=>[i]
 | .node _ a b=>a.leaves++b.leaves
def BT.At (l:List Int) (n:Int):BT→Nat→Nat→Prop
 | .leaf i,s,e=>s=i∧e=i + 1∧i < l.length∧co (l.getD i 0) 6=-1∧co (l.getD i 0) 7=-1∧0≤co (l.getD i 0) 8∧co (l.getD i 0) 8 < n
 | .node i a b,s,e=>s=i∧i < l.length∧∃ m,a.At l n (i + 1) m∧b.At l n m e∧co (l.getD i 0) 6=(i:Int) + 1∧co (l.getD i 0) 7=(m:Int)∧co (l.getD i 0) 8=-1
noncomputable def itm (l:List Int) (i:Nat):Nat:=(co (l.getD i 0) 8).toNat
theorem BT.size_leaves:∀ t:BT,t.size + 1=2 * t.leaves.length
 | .leaf _=>rfl
 | .node _ a b=>by
  have h1:=a.size_leaves
  have h2:=b.size_leaves
  simp only [BT.size,BT.leaves,List.length_append]
  omega
theorem BT.At.le {l:List Int} {n:Int}:∀ {t:BT} {s e:Nat},t.At l n s e→e=s + t.size∧t.root=s∧e≤l.length
 | .leaf i,s,e,h=>by
  obtain ⟨rfl,rfl,h1,_⟩:=h
  exact ⟨rfl,rfl,h1⟩
 | .node i a b,s,e,h=>by
  obtain ⟨rfl,h1,m,h2,h3,_⟩:=h
  have e1:=h2.le
  have e2:=h3.le
  exact ⟨by simp only [BT.size]; omega,rfl,e2.2.2⟩
theorem BT.At.leaf_in {l:List Int} {n:Int}:∀ {t:BT} {s e:Nat},t.At l n s e→∀ i ∈ t.leaves,s≤i∧i < e∧0≤co (l.getD i 0) 8∧co (l.getD i 0) 8 < n∧co (l.getD i 0) 6=-1
 | .leaf i,s,e,h,k,hk=>by
  obtain ⟨rfl,rfl,h1,h2,h3,h4,h5⟩:=h
  simp only [BT.leaves,List.mem_singleton] at hk
  subst hk
  exact ⟨by omega,by omega,h4,h5,h2⟩
 | .node i a b,s,e,h,k,hk=>by
  obtain ⟨rfl,h1,m,h2,h3,_⟩:=h
  have e1:=h2.le
  have e2:=h3.le
  simp only [BT.leaves,List.mem_append] at hk
  rcases hk with hk | hk
  ·have:=h2.leaf_in k hk; omega
  ·have:=h3.leaf_in k hk; omega
structure Zqk (se se':List Int) (its:List Nat):Prop where
 len:se'.length=se.length
 nodup:its.Nodup
 zero:∀ k ∈ its,se.getD k 0=0
 iff:∀ k,se'.getD k 0 ≠ 0↔se.getD k 0 ≠ 0∨k ∈ its
theorem Zqk.trans {a b c:List Int} {x y:List Nat} (h:Zqk a b x) (k:Zqk b c y):Zqk a c (x++y):=by
 refine ⟨k.len.trans h.len,?_,?_,?_⟩
 ·rw [List.nodup_append]
  refine ⟨h.nodup,k.nodup,fun u hu v hv huv=>?_⟩
  subst huv
  exact (h.iff u).2 (.inr hu) (k.zero u hv)
 ·intro u hu
  rcases List.mem_append.1 hu with hu | hu
  ·exact h.zero u hu
  ·by_cases hz:a.getD u 0=0
   ·exact hz
   ·exact absurd (k.zero u hu) ((h.iff u).2 (.inl hz))
 ·intro u
  rw [k.iff,h.iff,List.mem_append]
  exact or_assoc
theorem Zei {l:List Int} {n:Int} (hfin:Ztf (Z5j l n l.length)=true) {i:Nat} (hi:i≤l.length):∃ s,Z5j l n i=some s:=by
 cases h:Z5j l n i with
 | some s=>exact ⟨s,rfl⟩
 | none =>
  have:=Zeh h (l.length - i)
  rw [show i + (l.length - i)=l.length by omega] at this
  rw [this] at hfin
  cases hfin
theorem Zej {se S:List Int} {x:Int}:Ztf (some (se,S++[x]))=false:=by
 cases S <;> rfl
theorem Ziv (S:List Int) (x:Int):(S++[x]).take ((S++[x]).length - 1)=S:=by simp
theorem Z6u (S:List Int) (x:Int):(S++[x]).getD ((S++[x]).length - 1) 0=x:=by simp [List.getD]
theorem parse {l:List Int} {n:Int} (hfin:Ztf (Z5j l n l.length)=true):∀ (k i:Nat) (se S:List Int),l.length - i≤k→i≤l.length→se.length=n.toNat→Z5j l n i=some (se,S++[(i:Int)]) →
  ∃ t e se',BT.At l n t i e∧i < e∧e≤l.length∧Z5j l n e=some (se',S)∧Zqk se se' (t.leaves.map (itm l)):=by
 intro k
 induction k with
 | zero =>
  intro i se S hk hi hse hrun
  have:i=l.length:=by omega
  subst this
  rw [hrun,Zej] at hfin
  cases hfin
 | succ k ih =>
  intro i se S hk hi hse hrun
  have hlt:i < l.length:=by
   rcases Nat.lt_or_ge i l.length with h | h
   ·exact h
   ·have:i=l.length:=by omega
    subst this
    rw [hrun,Zej] at hfin
    cases hfin
  obtain ⟨s1,hs1⟩:=Zei hfin (i:=i + 1) (by omega)
  have hstep:=hs1
  rw [Z2t,hrun] at hstep
  simp only [Option.bind_some,Z5v,Ziv,Z6u] at hstep
  rw [if_neg (by simp)] at hstep
  split at hstep
  ·split at hstep
   ·cases hstep
   ·rename_i hb hg
    simp only [not_or,Z1kq,ne_eq,Z1km] at hg
    simp only [Option.some.injEq] at hstep
    subst hstep
    rw [hg.1] at hs1
    obtain ⟨t1,m,se1,a1,a2,a3,a4,a5⟩:=ih (i + 1) se (S++[co (l.getD i 0) 7]) (by omega) (by omega) hse (by rw [hs1]; simp)
    have hm:m < l.length:=by
     rcases Nat.lt_or_ge m l.length with h | h
     ·exact h
     ·have:m=l.length:=by omega
      subst this
      rw [a4,Zej] at hfin
      cases hfin
    have h7:co (l.getD i 0) 7=(m:Int):=by
     obtain ⟨s2,hs2⟩:=Zei hfin (i:=m + 1) (by omega)
     rw [Z2t,a4] at hs2
     simp only [Option.bind_some,Z5v,Z6u] at hs2
     split at hs2
     ·cases hs2
     ·rename_i hh
      simp only [not_or,ne_eq,Z1km] at hh
      exact hh.2
    rw [h7] at a4
    obtain ⟨t2,e,se2,b1,b2,b3,b4,b5⟩:=ih m se1 S (by omega) (by omega) (by rw [a5.len]; exact hse) a4
    refine ⟨.node i t1 t2,e,se2,⟨rfl,hlt,m,a1,b1,hg.1,h7,hg.2.2⟩,by omega,b3,b4,?_⟩
    rw [BT.leaves,List.map_append]
    exact a5.trans b5
  ·split at hstep
   ·cases hstep
   ·rename_i hb hg
    simp only [not_or,Z1kp,Z1kq,ne_eq,Z1km] at hg hb
    simp only [Option.some.injEq] at hstep
    subst hstep
    refine ⟨.leaf i,i + 1,_,⟨rfl,rfl,hlt,hb.1,hb.2,hg.1,hg.2.1⟩,by omega,by omega,hs1,?_⟩
    have hkl:(co (l.getD i 0) 8).toNat < se.length:=by omega
    refine ⟨by simp,by simp [BT.leaves],?_,?_⟩
    ·intro u hu
     simp only [BT.leaves,Z1kk,Z1kl,List.mem_singleton,itm] at hu
     subst hu
     exact hg.2.2
    ·intro u
     simp only [BT.leaves,Z1kk,Z1kl,List.mem_singleton,itm]
     have hz:=hg.2.2
     generalize (co (l.getD i 0) 8).toNat=q at hkl hz
     by_cases hu:u=q
     ·subst hu
      simp [List.getD,hkl]
     ·simp [List.getD,List.getElem?_set_ne (Ne.symm hu),hu]
theorem Ziw:∀ (n:Nat) (l:List Nat),l.Nodup→(∀ x ∈ l,x < n)→l.length≤n
 | 0,l,_,h=>by
  cases l with
  | nil=>exact Nat.le_refl _
  | cons x l=>exact absurd (h x (by simp)) (by omega)
 | n + 1,l,hn,h=>by
  by_cases hm:n ∈ l
  ·have:=Ziw n (l.erase n) (hn.erase n) (fun x hx=>by
    have h1:=h x (List.mem_of_mem_erase hx)
    have h2:x ≠ n:=fun e=>by
     subst e
     exact (List.Nodup.not_mem_erase hn) hx
    omega)
   rw [List.length_erase_of_mem hm] at this
   omega
  ·have:=Ziw n l hn (fun x hx=>by
    have h1:=h x hx
    have h2:x ≠ n:=fun e=>hm (e ▸ hx)
    omega)
   omega
theorem Zql:∀ (n:Nat) (l:List Nat),l.Nodup→(∀ x ∈ l,x < n)→l.length=n→∀ k,k < n→k ∈ l
 | 0,l,_,_,_,k,hk=>by omega
 | n + 1,l,hn,h,hl,k,hk=>by
  have hm:n ∈ l:=by
   refine Classical.byContradiction fun hm=>?_
   have:=Ziw n l hn (fun x hx=>by
    have h1:=h x hx
    have h2:x ≠ n:=fun e=>hm (e ▸ hx)
    omega)
   omega
  by_cases hkn:k=n
  ·subst hkn; exact hm
  ·refine List.mem_of_mem_erase (Zql n (l.erase n) (hn.erase n) (fun x hx=>?_) ?_ k (by omega))
   ·have h1:=h x (List.mem_of_mem_erase hx)
    have h2:x ≠ n:=fun e=>by
     subst e
     exact (List.Nodup.not_mem_erase hn) hx
    omega
   ·rw [List.length_erase_of_mem hm]
    omega
theorem Zix {l:List Int} {n:Int} (h:Z1m l n=true) (hn:0 < n):∃ t,BT.At l n t 0 l.length∧(t.leaves.map (itm l)).Nodup∧(∀ k ∈ t.leaves.map (itm l),k < n.toNat)∧∀ k,k < n.toNat→k ∈ t.leaves.map (itm l):=by
 unfold Z1m at h
 simp only [Z1kr,Z1ks] at h
 obtain ⟨hlen,hfin⟩:=h
 obtain ⟨t,e,se',h1,h2,h3,h4,h5⟩:=parse hfin l.length 0 (List.replicate n.toNat 0) [] (by omega) (by omega) (by rw [List.length_replicate]) (by simp [Z5j,hn])
 have he:e=l.length:=by
  rcases Nat.lt_or_ge e l.length with h | h
  ·obtain ⟨s2,hs2⟩:=Zei hfin (i:=e + 1) (by omega)
   rw [Z2t,h4] at hs2
   simp [Z5v] at hs2
  ·omega
 subst he
 have hall:∀ k ∈ t.leaves.map (itm l),k < n.toNat:=by
  intro k hk
  obtain ⟨i,hi,rfl⟩:=List.mem_map.1 hk
  have:=h1.leaf_in i hi
  unfold itm
  omega
 refine ⟨t,h1,h5.nodup,hall,Zql _ _ h5.nodup hall ?_⟩
 have h6:=h1.le.1
 have h7:=t.size_leaves
 rw [List.length_map]
 omega
theorem Zek {l:List Int} {n:Int} (h:Z1m l n=true):(l.length:Int)=max 0 (2 * n - 1):=by
 unfold Z1m at h
 simp only [Z1kr,Z1ks] at h
 exact h.1
theorem BT.At.branch {l:List Int} {n:Int}:∀ {t:BT} {s e:Nat},t.At l n s e→∀ i,s≤i→i < e →
  (co (l.getD i 0) 6=-1∧co (l.getD i 0) 7=-1∧0≤co (l.getD i 0) 8∧co (l.getD i 0) 8 < n)∨(co (l.getD i 0) 6=(i:Int) + 1∧(i:Int) + 1 < co (l.getD i 0) 7∧co (l.getD i 0) 7 < (e:Int)∧co (l.getD i 0) 8=-1)
 | .leaf j,s,e,h,i,h1,h2=>by
  obtain ⟨rfl,rfl,h3,h4,h5,h6,h7⟩:=h
  have:i=s:=by omega
  subst this
  exact .inl ⟨h4,h5,h6,h7⟩
 | .node j a b,s,e,h,i,h1,h2=>by
  obtain ⟨rfl,h3,m,h4,h5,h6,h7,h8⟩:=h
  have e1:=h4.le
  have e2:=h5.le
  have p1:0 < a.size:=by have:=a.size_leaves; omega
  have p2:0 < b.size:=by have:=b.size_leaves; omega
  by_cases hi:i=s
  ·subst hi
   exact .inr ⟨h6,by omega,by omega,h8⟩
  ·by_cases hm:i < m
   ·rcases h4.branch i (by omega) hm with h | h
    ·exact .inl h
    ·exact .inr (by omega)
   ·rcases h5.branch i (by omega) h2 with h | h
    ·exact .inl h
    ·exact .inr (by omega)
end Go.Proofs.YtgcoidbaoigkeaaGreatDoor.fix
namespace Go.Proofs
open Go.RowKit Go.Shelf Go.Sx
set_option maxRecDepth 100000 in
set_option maxHeartbeats 2000000 in
theorem YtgcoidbaoigkeaaGreatDoor.back_iter:Z75 Tryz.prog 68 9:=by
 intro l Bs ad len cap J W hlen hBs hY h0
 have hB0:=hBs _ _ h0
 refine (callsIn_wide (n:=3)).1 (callsIn_of_wp (fn:=Tryz.f68) (by kernel_rfl) (by rfl) trivial ?_ rfl)
 try rw [show Tryz.f68.ntmps=19 from rfl]
 simp only [List.size_toArray,List.length_cons,List.length_nil,Nat.reduceAdd,Nat.reduceSub,Array.replicate_succ,Array.replicate_zero,List.push_toArray,List.append_toArray,Z1kj,Z1ki]
 gi_wp2
 gi_loopw [3] (fun i wr=>∃ k:Nat,k≤len∧i=.int .i64 ((k:Int) - 1)∧J k wr) (fun i _=>(intOf i + 1).toNat)
 case atStart=>exact ⟨len,Nat.le_refl _,rfl,h0⟩
 case round =>
  obtain ⟨k,hk,rfl,hJs⟩:=hrel
  have hBk:=hBs _ _ hJs
  by_cases hlt:0 < k
  ·obtain ⟨i,rfl⟩:∃ i,k=i + 1:=⟨k - 1,by omega⟩
   obtain ⟨b,off,cs,rfl,hcs,hcell,hyield⟩:=hY i wr (by omega) hJs
   obtain ⟨fn,tmps,assign,body,hy,hR⟩:=hyield 2
   have hi1:(((i + 1:Nat):Int) - 1)=(i:Int):=by omega
   rw [hi1]
   obtain ⟨c0,c1,c2,c3,c4,c5,c6,c7,c8,rfl⟩:∃ c0 c1 c2 c3 c4 c5 c6 c7 c8,cs=[c0,c1,c2,c3,c4,c5,c6,c7,c8]:=by
    match cs,hcs with
    | [c0,c1,c2,c3,c4,c5,c6,c7,c8],_=>exact ⟨_,_,_,_,_,_,_,_,_,rfl⟩
   have hc0:=hcell 0 c0 rfl
   have hc1:=hcell 1 c1 rfl
   have hc2:=hcell 2 c2 rfl
   have hc3:=hcell 3 c3 rfl
   have hc4:=hcell 4 c4 rfl
   have hc5:=hcell 5 c5 rfl
   have hc6:=hcell 6 c6 rfl
   have hc7:=hcell 7 c7 rfl
   have hc8:=hcell 8 c8 rfl
   simp only [← Nat.add_assoc,Nat.add_zero] at hc0 hc1 hc2 hc3 hc4 hc5 hc6 hc7 hc8
   clear hcell hyield hY hBs hB0
   gi_wp2
   refine hR.mono ?_
   rintro e W3 ⟨rfl,hJ3⟩
   gi_wp2
   go_roundw
   case rel=>exact ⟨i,by omega,by simp,hJ3⟩
   case measure=>simp [intOf]
  ·obtain rfl:k=0:=by omega
   gi_wp2
   go_end0
   exact ⟨⟨_,rfl⟩,hJs⟩
end Go.Proofs
namespace Go.Proofs
open Go.Shelf
def Tryz.lays189_ren:Go.Shelf.Ren:=⟨fun | 189=>71 | 125=>107 | 257=>106 | 128=>163 | 129=>164 | 294=>154 | 295=>155 | 296=>156 | 297=>157 | 298=>158 | 299=>159 | 216=>160 | 300=>161 | 301=>162 | 328=>184 | 329=>185 | 330=>186 | 331=>187 | 332=>188 | 215=>92 | 343=>199 | n=>n,fun | 28=>45 | 3=>3 | 46=>207 | 0=>0 | 51=>254 | 53=>256 | 4=>4 | 183=>247 | 182=>246 | 131=>251 | 5=>5 | 9=>9 | 218=>274 | 222=>278 | 228=>288 | 229=>72 | n=>n,fun | n=>n⟩
theorem Tryz.lays189:Go.Proofs.Lays.n189 Tryz.prog Tryz.lays189_ren:={
 mixed:=by kernel_rfl
 f125:=Tryz.func107.trans (congrArg some (by kernel_rfl))
 f128:=Tryz.func163.trans (congrArg some (by kernel_rfl))
 f129:=Tryz.func164.trans (congrArg some (by kernel_rfl))
 f189:=Tryz.func71.trans (congrArg some (by kernel_rfl))
 f215:=Tryz.func92.trans (congrArg some (by kernel_rfl))
 f216:=Tryz.func160.trans (congrArg some (by kernel_rfl))
 f257:=Tryz.func106.trans (congrArg some (by kernel_rfl))
 f294:=Tryz.func154.trans (congrArg some (by kernel_rfl))
 f295:=Tryz.func155.trans (congrArg some (by kernel_rfl))
 f296:=Tryz.func156.trans (congrArg some (by kernel_rfl))
 f297:=Tryz.func157.trans (congrArg some (by kernel_rfl))
 f298:=Tryz.func158.trans (congrArg some (by kernel_rfl))
 f299:=Tryz.func159.trans (congrArg some (by kernel_rfl))
 f300:=Tryz.func161.trans (congrArg some (by kernel_rfl))
 f301:=Tryz.func162.trans (congrArg some (by kernel_rfl))
 f328:=Tryz.func184.trans (congrArg some (by kernel_rfl))
 f329:=Tryz.func185.trans (congrArg some (by kernel_rfl))
 f330:=Tryz.func186.trans (congrArg some (by kernel_rfl))
 f331:=Tryz.func187.trans (congrArg some (by kernel_rfl))
 f332:=Tryz.func188.trans (congrArg some (by kernel_rfl))
 f343:=Tryz.func199.trans (congrArg some (by kernel_rfl))
 t0:=Tryz.underlying0
 a0:=Tryz.isAgg0
 z0:=Tryz.sizeOf0
 v0:=Tryz.zeroValue0
 t3:=Tryz.underlying3
 a3:=Tryz.isAgg3
 z3:=Tryz.sizeOf3
 v3:=Tryz.zeroValue3
 t4:=Tryz.underlying4
 a4:=Tryz.isAgg4
 z4:=Tryz.sizeOf4
 v4:=Tryz.zeroValue4
 t5:=Tryz.underlying5
 a5:=Tryz.isAgg5
 z5:=Tryz.sizeOf5
 v5:=Tryz.zeroValue5
 t9:=Tryz.underlying9
 a9:=Tryz.isAgg9
 z9:=Tryz.sizeOf9
 v9:=Tryz.zeroValue9
 t28:=Tryz.underlying45
 a28:=Tryz.isAgg45
 z28:=Tryz.sizeOf45
 v28:=Tryz.zeroValue45
 t46:=Tryz.underlying207
 a46:=Tryz.isAgg207
 z46:=Tryz.sizeOf207
 v46:=Tryz.zeroValue207
 t51:=Tryz.underlying254
 a51:=Tryz.isAgg254
 z51:=Tryz.sizeOf254
 v51:=Tryz.zeroValue254
 t53:=Tryz.underlying256
 a53:=Tryz.isAgg256
 z53:=Tryz.sizeOf256
 v53:=Tryz.zeroValue256
 t131:=Tryz.underlying251
 a131:=Tryz.isAgg251
 z131:=Tryz.sizeOf251
 v131:=Tryz.zeroValue251
 t182:=Tryz.underlying246
 a182:=Tryz.isAgg246
 z182:=Tryz.sizeOf246
 v182:=Tryz.zeroValue246
 t183:=Tryz.underlying247
 a183:=Tryz.isAgg247
 z183:=Tryz.sizeOf247
 v183:=Tryz.zeroValue247
 t218:=Tryz.underlying274
 a218:=Tryz.isAgg274
 z218:=Tryz.sizeOf274
 v218:=Tryz.zeroValue274
 t222:=Tryz.underlying278
 a222:=Tryz.isAgg278
 z222:=Tryz.sizeOf278
 v222:=Tryz.zeroValue278
 t228:=Tryz.underlying288
 a228:=Tryz.isAgg288
 z228:=Tryz.sizeOf288
 v228:=Tryz.zeroValue288
 t229:=Tryz.underlying72
 a229:=Tryz.isAgg72
 z229:=Tryz.sizeOf72
 v229:=Tryz.zeroValue72 }
open Go.Sort Go.RowKit in
theorem Tryz.slices_Sort_int (blk off cap:Nat) (zs:List Int) (w:World) (hH:Holds (Value.int .i64) w blk off zs.toArray) (hblk:blk < w.heap.size) (hsz:zs.length < 4611686018427387904) :
  Calls Tryz.prog 71 #[.slice (some ⟨blk,off,none⟩) zs.length cap] w fun e w' =>
   e=.returned (.tuple #[])∧∃ n os,w'=grow (putRow (Value.int .i64) (Sort.ahead w n) blk off (zs.mergeSort fun x y=>decide (x≤y)).toArray) os:=Any.slices_Sort_int Tryz.lays189 blk off cap zs w hH hblk hsz
theorem Tryz.slices_Sort_int_none (p:Option Addr) (cap:Nat) (w:World) :
  Calls Tryz.prog 71 #[.slice p 0 cap] w fun e w'=>e=.returned (.tuple #[])∧w'=w:=Any.slices_Sort_int_none Tryz.lays189 p cap w
end Go.Proofs
namespace Go.Proofs.YtgcoidbaoigkeaaGreatDoor.fix
open Go.RowKit Go.Sx Go.Shelf
theorem Z15m:Tryz.prog.underlying 57=some (.slice 109):=by kernel_rfl
set_option maxRecDepth 100000 in
set_option maxHeartbeats 2000000 in
theorem Z15n (w:World):Calls Tryz.prog 39 #[.slice none 0 0] w fun e w'=>e=.returned (.slice none 0 0)∧w'=w:=by
 have qT:∀ (w:World) (a:Option Addr) (n c:Nat),(binOp .eql 57 (.slice a n c) (.slice none 0 0)).run Tryz.prog w=.ok (.bool a.isNone) w:=fun w a n c=>Lib.run_eql_slice_nil w _ _ a n c 0 0 Z15m
 refine calls_of_wp (fn:=Tryz.f39) (by kernel_rfl) (by rfl) ?_
 try rw [show Tryz.f39.ntmps=8 from rfl]
 simp only [List.size_toArray,List.length_cons,List.length_nil,Nat.reduceAdd,Nat.reduceSub,Array.replicate_succ,Array.replicate_zero,List.push_toArray,List.append_toArray,Z1kj,Z1ki]
 go_wp2
 exact ⟨rfl,_,results_tmp rfl _ _ _,rfl,rfl⟩
noncomputable def Z15o:Code:=match Tryz.f39.body with
 | some (.seq _ (.seq _ b))=>b
 | _=>.skip
def Z81:St:=⟨[.w (.o (.go (.a 0))),Z6,.w (.o (.l (.slice none 0 0))),.w (.o (.go (.a 0))),.w (.o (.b (.c false))),Z6,Z6,Z6],[],[],1,0,0,0,[],[(Z4u,.v 0)],0⟩
theorem Zu0:Zjt Tryz.prog Z7x [] 100 Z15o Z81 (Zfc Tryz.prog Tryz.f39 [Brs])=.asrt (.le (.ln (.v 0)) (.c 1000000)) (.ret [.v 0]):=by kernel_rfl
theorem Z15p {w:World} {ty:TypeId} {ks:List K} {u:Value} {c:Int} (h:Zt w ty ks u c):Zt w ty ks u (cod (dec c)):=by
 unfold Zt
 rw [Z3]
 exact h
theorem Z15q {B:Nat→Prop} {w:World} {u:Value} {c:Int} (h:Zt w 109 Z4u u c) (hB:∀ k,Z7 u=some k→B k):Z54 B w [Brs] u [c] :=
 ⟨[u],rfl,⟨u,[],[c],[],rfl,rfl,⟨⟨h,hB⟩,trivial⟩,rfl,rfl⟩,List.pairwise_singleton _ _⟩
theorem Zu1 {B:Nat→Prop} {w:World} {u:Value} {c:Int} (h:Z54 B w [Brs] u [c]):Zt w 109 Z4u u c∧∀ k,Z7 u=some k→B k:=by
 obtain ⟨vs,rfl,⟨v,vr,ys,yr,rfl,h1,h2,rfl,rfl⟩,_⟩:=h
 rw [List.append_nil] at h1
 subst h1
 exact h2.1
set_option maxRecDepth 100000 in
set_option maxHeartbeats 2000000 in
theorem Z10q (ad:Addr) (len cap:Nat) (c:Int) (w:World) (hs:Z53 w Z4u (.slice (some ad) len cap) c) (hl:(dec c).length≤1000000) :
  Calls Tryz.prog 39 #[.slice (some ad) len cap] w fun e w'=>∃ ys u,e=.returned u∧ys=[c]∧Z54 (fun k=>w.heap.size≤k) w' [Brs] u ys∧Below w.heap.size w w':=by
 have qT:∀ (w:World) (a:Option Addr) (n c:Nat),(binOp .eql 57 (.slice a n c) (.slice none 0 0)).run Tryz.prog w=.ok (.bool a.isNone) w:=fun w a n c=>Lib.run_eql_slice_nil w _ _ a n c 0 0 Z15m
 refine calls_of_wp (fn:=Tryz.f39) (by kernel_rfl) (by rfl) ?_
 try rw [show Tryz.f39.ntmps=8 from rfl]
 simp only [List.size_toArray,List.length_cons,List.length_nil,Nat.reduceAdd,Nat.reduceSub,Array.replicate_succ,Array.replicate_zero,List.push_toArray,List.append_toArray,Z1kj,Z1ki]
 refine wp_seq (wp_mono (Q:=fun e a' w'=>e=.normal∧w'=w∧a'={ tmps:=#[.slice (some ad) len cap,undef,.slice none 0 0,undef,undef,undef,undef,undef],defers:=[] }) (by go_wp2) ?_)
 rintro e a' w' ⟨rfl,rfl,rfl⟩
 show Code.wp _ _ _ _ _
 refine wp_seq (wp_mono (Q:=fun e a' w''=>e=.normal∧w''=w'∧a'={ tmps:=#[.slice (some ad) len cap,undef,.slice none 0 0,.slice (some ad) len cap,.bool false,undef,undef,undef],defers:=[] }) (by go_wp2) ?_)
 rintro e a' w'' ⟨rfl,rfl,rfl⟩
 show Code.wp _ Z15o _ _ _
 have hrep:Rep ⟨[c],[],[],[],[.slice (some ad) len cap]⟩ ⟨w'',fun _=>False⟩ Z81 w'':=by
  refine ⟨Zv.refl _,rfl,rfl,rfl,rfl,?_,?_,?_,?_,?_,?_,?_,⟨fun p hp=>(by cases hp),fun _ _ _ hh=>hh⟩,?_⟩
  ·intro n b hb; simp [Z81] at hb
  ·intro n b hb; simp [Z81] at hb
  ·intro n m b c hb; simp [Z81] at hb
  ·intro n b hb; simp [Z81] at hb
  ·intro n b hb; simp [Z81] at hb
  ·intro n m b c k hb; simp [Z81] at hb
  ·intro n m b c hb; simp [Z81] at hb
  ·intro i ks c' hi
   match i,hi with
   | 0,hi =>
    simp only [Z81,Z1ke,Option.some.injEq,Prod.mk.injEq] at hi
    obtain ⟨rfl,rfl⟩:=hi
    exact hs.toN rfl
 have hrel:Rel ⟨[c],[],[],[],[.slice (some ad) len cap]⟩ ⟨w'',fun _=>False⟩ Z81 { tmps:=#[.slice (some ad) len cap,undef,.slice none 0 0,.slice (some ad) len cap,.bool false,undef,undef,undef],defers:=[] } w'':=⟨hrep,rfl,rfl⟩
 have hex:=Z3y (Γ:=[]) facts.mixed (lp:=Z7x) (fun s h=>(by cases h)) 100 Z15o Z81 (Zfc Tryz.prog Tryz.f39 [Brs]) ⟨w'',fun _=>False⟩ (fun ys=>ys=[c]) [] _ _ w'' hrel rfl (by
  rw [Zu0]
  refine ⟨?_,?_⟩
  ·simp only [B.den,E.den,Z1ks,Z1kg]
   omega
  ·simp only [T.sat,Z1kk,Z1kl,E.den,Z1kg])
 refine wp_mono (Zex _ hex) ?_
 rintro x a' w' ⟨out,s',e',more,rfl,hle,hrel',hf,hfr,hd,hsat⟩
 obtain ⟨hne,ys,v,h1,h2,h3⟩:=Zc1 hrel' hsat
 have hbel:=hrel'.rep.below.below
 cases out with
 | norm=>exact ⟨hrel'.defs,_,h3,ys,v,rfl,h1,Z54.up (fun k hk=>hk.elim id (fun hh=>hh.elim)) h2,hbel⟩
 | exit id=>exact absurd rfl (hne id)
 | ret=>exact ⟨hrel'.defs,_,h3,ys,v,rfl,h1,Z54.up (fun k hk=>hk.elim id (fun hh=>hh.elim)) h2,hbel⟩
theorem Z1ch:Zmq.ok Tryz.prog:=by
 refine ⟨fun sh h=>?_,fun xs vs w hgl hx hpre=>⟨rfl,?_⟩⟩
 ·have h':sh ∈ [Brs,Brs]:=h
  simp only [List.mem_cons,List.mem_nil_iff,or_false,or_self] at h'
  subst h'
  exact .inr rfl
 ·obtain ⟨v,vr,ys,yr,rfl,rfl,h1,rfl,rfl⟩:=hx
  rw [List.append_nil] at hpre ⊢
  obtain ⟨c,rfl,hs⟩:∃ c,ys=[c]∧Z53 w Z4u v c:=by
   match ys,h1 with
   | [c],h1=>exact ⟨c,rfl,h1.1.now⟩
   | [],h1=>exact h1.elim
   | _::_::_,h1=>exact h1.2.elim
  have hl:(dec c).length≤1000000:=hpre.2
  show Calls _ _ #[v] w _
  have some':∀ (ad:Addr) (len cap:Nat),Z53 w Z4u (.slice (some ad) len cap) c→Calls Tryz.prog 39 #[.slice (some ad) len cap] w fun e w'=>∃ v,e=.returned v∧Z54 (fun k=>w.heap.size≤k) w' [Brs] v [cod (dec c)]∧Below w.heap.size w w':=fun ad len cap h=>by
   refine (Z10q ad len cap c w h hl).mono ?_
   rintro e w' ⟨ys,u,rfl,rfl,hr,hb⟩
   obtain ⟨h3,h4⟩:=Zu1 hr
   exact ⟨u,rfl,Z15q (Z15p h3) h4,hb⟩
  rcases hs with ⟨⟨a,rfl⟩,hn⟩ | ⟨b,off,cap,rfl,h2⟩
  ·cases a with
   | none =>
    refine (Z15n w).mono ?_
    rintro e w' ⟨rfl,rfl⟩
    exact ⟨_,rfl,Z15q (Z15p (.inl ⟨hn,_,rfl⟩)) (fun k hk=>by cases hk),Below.refl _ _⟩
   | some ad=>exact some' ad 0 0 (.inl ⟨⟨_,rfl⟩,hn⟩)
  ·exact some' _ _ cap (.inr ⟨b,off,cap,rfl,h2⟩)
theorem Z15r:Z1g Zmq Z14i:=⟨fun xs h=>(Z1a xs h).elim,fun vs xs h hp=>Z1 trivial Z4⟩
end Go.Proofs.YtgcoidbaoigkeaaGreatDoor.fix
namespace Go.Proofs.YtgcoidbaoigkeaaGreatDoor.fix
open Go.RowKit Go.Sx
noncomputable def Zn3:List Sum:=[]
def Zx7:List Inf:=[]
def Z1ci:TX:=(.ret [(.mn (.v 0) (.v 6)),(.mn (.v 1) (.v 7)),(.mn (.v 2) (.v 8)),(.mx (.v 3) (.v 9)),(.mx (.v 4) (.v 10)),(.mx (.v 5) (.v 11))])
theorem Zu2:Z12 (Zr [] Zx7 [] Zea (Zq Tryz.prog Z7x gl0 Zn3 1000 69 [An 6,An 6] [An 6]))=Z1ci:=by kernel_rfl
theorem Z1cj:Gok Tryz.prog Zn3:=noG
theorem Z1ck:Zj Zn3 Zx7:=Z8
theorem Z15s:Zg7.ok Tryz.prog:=Sum.okF facts.mixed Z1cj Z1ck Zu2 rfl (fun _=>rfl) (by
 intro xs hx hp
 obtain ⟨a0,a1,a2,a3,a4,a5,a6,a7,a8,a9,a10,a11,rfl⟩:=Z1bk hx
 rfl)
theorem Z10r:Z1g Zg7 Zwi:=⟨fun _ h=>h,fun vs xs h hp=>Z1 (Zfv (h.2 0) (h.2 6)) (Z1 (Zfv (h.2 1) (h.2 7)) (Z1 (Zfv (h.2 2) (h.2 8)) (Z1 (Zfw (h.2 3) (h.2 9)) (Z1 (Zfw (h.2 4) (h.2 10)) (Z1 (Zfw (h.2 5) (h.2 11)) Z4)))))⟩
noncomputable def Zn4:List Sum:=[Z32,Zg7]
def Z15t:List Inf:=[Zcd,Zwi]
def Z15u:TX:=(.callp 0 [(.v 0),(.v 1),(.v 2),(.v 3),(.v 4),(.v 5)] (.ite (.not (.eq (.v 12) (.c 0))) (.ret [(.c 0),(.c 0),(.c 0),(.c 0),(.c 0),(.c 0),(.c 8)])
(.callp 0 [(.v 6),(.v 7),(.v 8),(.v 9),(.v 10),(.v 11)] (.ite (.not (.eq (.v 13) (.c 0))) (.ret [(.c 0),(.c 0),(.c 0),(.c 0),(.c 0),(.c 0),(.c 8)])
(.callp 1 [(.v 0),(.v 1),(.v 2),(.v 3),(.v 4),(.v 5),(.v 6),(.v 7),(.v 8),(.v 9),(.v 10),(.v 11)] (.ret [(.v 14),(.v 15),(.v 16),(.v 17),(.v 18),(.v 19),(.c 0)]))))))
theorem Z10s:Z12 (Zr [] Z15t [] Z93 (Zq Tryz.prog Z7x gl0 Zn4 1000 41 [An 6,An 6] [An 6,I1]))=Z15u:=by kernel_rfl
theorem Z1i7:Gok Tryz.prog Zn4:=(more Zcj (fix.one Z15s))
theorem Z1i8:Zj Zn4 Z15t:=(Z2 Za7 (Z2 Z10r Z8))
theorem Zn5:Z2x.ok Tryz.prog:=Sum.okF facts.mixed Z1i7 Z1i8 Z10s rfl (fun _=>rfl) (by
 intro xs hx hp
 obtain ⟨a0,a1,a2,a3,a4,a5,a6,a7,a8,a9,a10,a11,rfl⟩:=Z1bk hx
 have e1:Z72 [a0,a1,a2,a3,a4,a5,a6,a7,a8,a9,a10,a11] 0=Z72 [a0,a1,a2,a3,a4,a5] 0:=rfl
 have e2:Z72 [a0,a1,a2,a3,a4,a5,a6,a7,a8,a9,a10,a11] 6=Z72 [a6,a7,a8,a9,a10,a11] 0:=rfl
 simp only [Z15u,Zn4,Z32,Zg7,TX.sat,XB.prop,X.den,Z1kk,Z1kl,Z1ke,Z1kf,Z1ki,Z1kj,Z1kg,Z1kh,mkS,mkP,and_true,true_and,Z1kp,Z1kq,not_or,not_and,Z1km,ne_eq,Z1kn,Z1ko,Z2s,Zl0,Z92,Ztg,e1,e2]
 clear hx hp
 generalize Z72 [a0,a1,a2,a3,a4,a5] 0=p
 generalize Z72 [a6,a7,a8,a9,a10,a11] 0=q
 cases p <;> cases q <;> simp [er,Z8a,z7,ex6,ex7])
theorem Ziy:Z1g Z2x Zeb:=⟨fun _ h=>h,fun vs xs h hp=>by
 show Z17 (ivs 6 (-32768) 32768++[iv 0 8]) (ex7 (Ztg xs))
 unfold Ztg
 split
 ·rename_i hc
  simp only [Z1kr,Z22,Nat.reduceAdd,Nat.zero_add] at hc
  exact Z1 (Z5.2 (by show _≤min _ _∧min _ _≤_; omega)) (Z1 (Z5.2 (by show _≤min _ _∧min _ _≤_; omega)) (Z1 (Z5.2 (by show _≤min _ _∧min _ _≤_; omega)) (Z1 (Z5.2 (by show _≤max _ _∧max _ _≤_; omega)) (Z1 (Z5.2 (by show _≤max _ _∧max _ _≤_; omega)) (Z1 (Z5.2 (by show _≤max _ _∧max _ _≤_; omega)) (Z1 (Z5.2 (by simp [Z8a])) Z4))))))
 ·exact Z1 (Z5.2 (by simp [z7])) (Z1 (Z5.2 (by simp [z7])) (Z1 (Z5.2 (by simp [z7])) (Z1 (Z5.2 (by simp [z7])) (Z1 (Z5.2 (by simp [z7])) (Z1 (Z5.2 (by simp [z7])) (Z1 (Z5.2 (by simp [z7])) Z4))))))⟩
theorem Ziz (l t:List Int):∀ c,(Z1q l t c).length=t.length
 | 0=>rfl
 | c + 1=>by rw [Z1q,Z94,List.length_set]; exact Ziz l t c
theorem Z97 (l t:List Int) (c:Nat):Z1q l t (c + 1)=Z94 l (Z1q l t c) (t.length - 1 - c):=rfl
theorem Z7p (l:List Int) (i j:Nat) (x:Int):(l.set i x).getD j 0=if i=j∧j < l.length then x else l.getD j 0:=by
 simp only [List.getD,List.getElem?_set]
 by_cases h:i=j
 ·subst h
  by_cases hl:i < l.length
  ·simp [hl]
  ·simp [hl]
 ·simp [h]
theorem Z82 (l:List Int) (j:Nat):co (cod l) j=l.getD j 0:=by unfold co; rw [Z3]
theorem Z15v (l out:List Int) (b:Int):(Z4g l out b).length=6:=by unfold Z4g; split <;> rfl
theorem Zx8 (l out:List Int) (b x y z:Int):Z3j (cod (Z4g l out b++[x,y,z]))=Z4g l out b∧co (cod (Z4g l out b++[x,y,z])) 6=x∧co (cod (Z4g l out b++[x,y,z])) 7=y∧co (cod (Z4g l out b++[x,y,z])) 8=z:=by
 have h:=Z15v l out b
 generalize Z4g l out b=q at h
 match q,h with
 | [a0,a1,a2,a3,a4,a5],_ =>
  simp only [Z3j,Z82]
  exact ⟨rfl,rfl,rfl,rfl⟩
theorem Zu3 (l t:List Int) (i:Nat):∀ c,co ((Z1q l t c).getD i 0) 6=co (t.getD i 0) 6∧co ((Z1q l t c).getD i 0) 7=co (t.getD i 0) 7∧co ((Z1q l t c).getD i 0) 8=co (t.getD i 0) 8
 | 0=>⟨rfl,rfl,rfl⟩
 | c + 1=>by
  have ih:=Zu3 l t i c
  rw [Z97,Z94,Z7p]
  split
  ·rename_i h
   obtain ⟨_,h1,h2,h3⟩:=Zx8 l (Z1q l t c) ((Z1q l t c).getD (t.length - 1 - c) 0) (co ((Z1q l t c).getD (t.length - 1 - c) 0) 6) (co ((Z1q l t c).getD (t.length - 1 - c) 0) 7) (co ((Z1q l t c).getD (t.length - 1 - c) 0) 8)
   rw [h1,h2,h3,h.1]
   exact ih
  ·exact ih
theorem Zcq {b:Int}:Z36 b=Z72 (Z3j b) 0:=rfl
theorem Zqm {b:Int}:Z36 b=true↔(((-32768≤co b 0∧co b 0≤32768)∧(-32768≤co b 1∧co b 1≤32768)∧(-32768≤co b 2∧co b 2≤32768))∧((-32768≤co b 3∧co b 3≤32768)∧(-32768≤co b 4∧co b 4≤32768)∧(-32768≤co b 5∧co b 5≤32768))∧co b 0≤co b 3∧co b 1≤co b 4∧co b 2≤co b 5):=by
 rw [Zcq,Z22]
 rfl
theorem Zx9 {a b:Int} (ha:Z36 a=true) (hb:Z36 b=true):Z72 (ex6 (Z8a (Z3j a++Z3j b))) 0=true:=by
 rw [Zqm] at ha hb
 rw [Z22]
 show (((-32768≤min (co a 0) (co b 0)∧min (co a 0) (co b 0)≤32768)∧(-32768≤min (co a 1) (co b 1)∧min (co a 1) (co b 1)≤32768)∧(-32768≤min (co a 2) (co b 2)∧min (co a 2) (co b 2)≤32768))∧((-32768≤max (co a 3) (co b 3)∧max (co a 3) (co b 3)≤32768)∧(-32768≤max (co a 4) (co b 4)∧max (co a 4) (co b 4)≤32768)∧(-32768≤max (co a 5) (co b 5)∧max (co a 5) (co b 5)≤32768))∧min (co a 0) (co b 0)≤max (co a 3) (co b 3)∧min (co a 1) (co b 1)≤max (co a 4) (co b 4)∧min (co a 2) (co b 2)≤max (co a 5) (co b 5))
 omega
def Shp (t:List Int) (n:Nat):Prop:=∀ i,i < t.length→(co (t.getD i 0) 6=-1∧co (t.getD i 0) 7=-1∧0≤co (t.getD i 0) 8∧co (t.getD i 0) 8 < (n:Int)) ∨
 (co (t.getD i 0) 6=(i:Int) + 1∧(i:Int) + 1 < co (t.getD i 0) 7∧co (t.getD i 0) 7 < (t.length:Int)∧co (t.getD i 0) 8=-1)
theorem Z6v {t:List Int} {n:Nat} (h:Z1m t n=true):Shp t n:=by
 intro i hi
 have hl:=Zek h
 obtain ⟨bt,h1,_⟩:=Zix h (by omega)
 exact h1.branch i (Nat.zero_le _) hi
theorem Z1i9 {l t:List Int} (hs:Shp t l.length) (hb:∀ x ∈ l,Z36 x=true):∀ c,c≤t.length→∀ i,t.length - c≤i→i < t.length→Z36 ((Z1q l t c).getD i 0)=true
 | 0,_,i,h1,h2=>by omega
 | c + 1,hc,i,h1,h2=>by
  have ih:=Z1i9 hs hb c (by omega)
  rw [Z97,Z94,Z7p,Ziz]
  split
  ·rename_i h
   have hco:=Zu3 l t (t.length - 1 - c) c
   rw [Zcq,(Zx8 _ _ _ _ _ _).1]
   unfold Z4g
   rw [hco.1,hco.2.1,hco.2.2]
   rcases hs (t.length - 1 - c) (by omega) with hlf | hnd
   ·rw [if_pos (by omega)]
    refine hb _ (Z10 ?_)
    omega
   ·rw [if_neg (by omega)]
    exact Zx9 (ih _ (by omega) (by omega)) (ih _ (by omega) (by omega))
  ·rename_i h
   exact ih i (by omega) h2
theorem Zj0 {l:List Int} (h:Z21 l=0):l.length≤256∧∀ x ∈ l,Z36 x=true:=by
 unfold Z21 at h
 split at h
 ·rename_i h1
  split at h
  ·rename_i h2
   exact ⟨h1,List.all_eq_true.1 h2⟩
  ·exact absurd h (by decide)
 ·exact absurd h (by decide)
theorem Zqn (l:List Int):0≤Z21 l∧Z21 l≤8:=by
 unfold Z21
 split
 ·split <;> decide
 ·decide
theorem Zqo (t l:List Int):0≤Z1w t l∧Z1w t l≤8:=by
 unfold Z1w
 split
 ·split <;> decide
 ·exact Zqn l
theorem Z15w {a b:Int} (ha:Z36 a=true) (hb:Z36 b=true):Ztg [co a 0,co a 1,co a 2,co a 3,co a 4,co a 5,co b 0,co b 1,co b 2,co b 3,co b 4,co b 5]=Z8a (Z3j a++Z3j b):=by
 unfold Ztg
 rw [if_pos]
 ·rfl
 ·rw [Z1kr]
  exact ⟨ha,hb⟩
theorem Zxa {b:Int} (h:Z36 b=true):Ze zz (co b 0)∧Ze zz (co b 1)∧Ze zz (co b 2)∧Ze zz (co b 3)∧Ze zz (co b 4)∧Ze zz (co b 5):=by
 rw [Zqm] at h
 exact ⟨zc _ (by omega) (by omega),zc _ (by omega) (by omega),zc _ (by omega) (by omega),zc _ (by omega) (by omega),zc _ (by omega) (by omega),zc _ (by omega) (by omega)⟩
noncomputable def Zn6:List Sum:=[Za6,Zg6,Zmq,Z2x]
def Z15x:List Inf:=[Zmp,Zwh,Z14i,Zeb]
def Z15y:TX:=(.call 0 [(.v 1)] (.ite (.not (.eq (.v 2) (.c 0))) (.ret [.nl,(.v 2)])
(.call 1 [(.v 0),(.ln (.v 1))] (.ite (.eq (.v 3) (.c 0)) (.ret [.nl,(.c 8)])
(.call 2 [(.v 0)] (.asrt (.le (.ln (.v 4)) (.c 1000000)) (.loop 2 [none,none] [(.v 4),(.ln (.v 4))] (.ite (.le (.v 6) (.c 0)) (.ret [(.v 5),(.c 0)])
(.ite (.lt (.l2 .at (.l2 .at (.v 5) (.wr .i64 (.sub (.v 6) (.c 1)))) (.c 6)) (.c 0)) (.asrt (.le (.c 0) (.l2 .at (.l2 .at (.v 5) (.wr .i64 (.sub (.v 6) (.c 1)))) (.c 8))) (.asrt (.lt (.l2 .at (.l2 .at (.v 5) (.wr .i64 (.sub (.v 6) (.c 1)))) (.c 8)) (.ln (.v 1))) (.asrt (.le (.c 0) (.wr .i64 (.sub (.v 6) (.c 1)))) (.asrt (.lt (.wr .i64 (.sub (.v 6) (.c 1))) (.ln (.v 5))) (.back 0 [(.l3 (.v 5) (.wr .i64 (.sub (.v 6) (.c 1))) (.l2 .cons (.l2 .at (.l2 .at (.v 1) (.l2 .at (.l2 .at (.v 5) (.wr .i64 (.sub (.v 6) (.c 1)))) (.c 8))) (.c 0)) (.l2 .cons (.l2 .at (.l2 .at (.v 1) (.l2 .at (.l2 .at (.v 5) (.wr .i64 (.sub (.v 6) (.c 1)))) (.c 8))) (.c 1)) (.l2 .cons (.l2 .at (.l2 .at (.v 1) (.l2 .at (.l2 .at (.v 5) (.wr .i64 (.sub (.v 6) (.c 1)))) (.c 8))) (.c 2)) (.l2 .cons (.l2 .at (.l2 .at (.v 1) (.l2 .at (.l2 .at (.v 5) (.wr .i64 (.sub (.v 6) (.c 1)))) (.c 8))) (.c 3)) (.l2 .cons (.l2 .at (.l2 .at (.v 1) (.l2 .at (.l2 .at (.v 5) (.wr .i64 (.sub (.v 6) (.c 1)))) (.c 8))) (.c 4)) (.l2 .cons (.l2 .at (.l2 .at (.v 1) (.l2 .at (.l2 .at (.v 5) (.wr .i64 (.sub (.v 6) (.c 1)))) (.c 8))) (.c 5)) (.l2 .cons (.l2 .at (.l2 .at (.v 5) (.wr .i64 (.sub (.v 6) (.c 1)))) (.c 6)) (.l2 .cons (.l2 .at (.l2 .at (.v 5) (.wr .i64 (.sub (.v 6) (.c 1)))) (.c 7)) (.l2 .cons (.l2 .at (.l2 .at (.v 5) (.wr .i64 (.sub (.v 6) (.c 1)))) (.c 8)) .nl)))))))))),(.wr .i64 (.sub (.v 6) (.c 1)))])))))
(.asrt (.lt (.l2 .at (.l2 .at (.v 5) (.wr .i64 (.sub (.v 6) (.c 1)))) (.c 6)) (.ln (.v 5))) (.asrt (.le (.c 0) (.l2 .at (.l2 .at (.v 5) (.wr .i64 (.sub (.v 6) (.c 1)))) (.c 7))) (.asrt (.lt (.l2 .at (.l2 .at (.v 5) (.wr .i64 (.sub (.v 6) (.c 1)))) (.c 7)) (.ln (.v 5))) (.call 3 [(.l2 .at (.l2 .at (.v 5) (.l2 .at (.l2 .at (.v 5) (.wr .i64 (.sub (.v 6) (.c 1)))) (.c 6))) (.c 0)),(.l2 .at (.l2 .at (.v 5) (.l2 .at (.l2 .at (.v 5) (.wr .i64 (.sub (.v 6) (.c 1)))) (.c 6))) (.c 1)),(.l2 .at (.l2 .at (.v 5) (.l2 .at (.l2 .at (.v 5) (.wr .i64 (.sub (.v 6) (.c 1)))) (.c 6))) (.c 2)),(.l2 .at (.l2 .at (.v 5) (.l2 .at (.l2 .at (.v 5) (.wr .i64 (.sub (.v 6) (.c 1)))) (.c 6))) (.c 3)),(.l2 .at (.l2 .at (.v 5) (.l2 .at (.l2 .at (.v 5) (.wr .i64 (.sub (.v 6) (.c 1)))) (.c 6))) (.c 4)),(.l2 .at (.l2 .at (.v 5) (.l2 .at (.l2 .at (.v 5) (.wr .i64 (.sub (.v 6) (.c 1)))) (.c 6))) (.c 5)),(.l2 .at (.l2 .at (.v 5) (.l2 .at (.l2 .at (.v 5) (.wr .i64 (.sub (.v 6) (.c 1)))) (.c 7))) (.c 0)),(.l2 .at (.l2 .at (.v 5) (.l2 .at (.l2 .at (.v 5) (.wr .i64 (.sub (.v 6) (.c 1)))) (.c 7))) (.c 1)),(.l2 .at (.l2 .at (.v 5) (.l2 .at (.l2 .at (.v 5) (.wr .i64 (.sub (.v 6) (.c 1)))) (.c 7))) (.c 2)),(.l2 .at (.l2 .at (.v 5) (.l2 .at (.l2 .at (.v 5) (.wr .i64 (.sub (.v 6) (.c 1)))) (.c 7))) (.c 3)),(.l2 .at (.l2 .at (.v 5) (.l2 .at (.l2 .at (.v 5) (.wr .i64 (.sub (.v 6) (.c 1)))) (.c 7))) (.c 4)),(.l2 .at (.l2 .at (.v 5) (.l2 .at (.l2 .at (.v 5) (.wr .i64 (.sub (.v 6) (.c 1)))) (.c 7))) (.c 5))] (.asrt (.le (.c 0) (.wr .i64 (.sub (.v 6) (.c 1)))) (.asrt (.lt (.wr .i64 (.sub (.v 6) (.c 1))) (.ln (.v 5))) (.back 0 [(.l3 (.v 5) (.wr .i64 (.sub (.v 6) (.c 1))) (.l2 .cons (.v 7) (.l2 .cons (.v 8) (.l2 .cons (.v 9) (.l2 .cons (.v 10) (.l2 .cons (.v 11) (.l2 .cons (.v 12) (.l2 .cons (.l2 .at (.l2 .at (.v 5) (.wr .i64 (.sub (.v 6) (.c 1)))) (.c 6)) (.l2 .cons (.l2 .at (.l2 .at (.v 5) (.wr .i64 (.sub (.v 6) (.c 1)))) (.c 7)) (.l2 .cons (.l2 .at (.l2 .at (.v 5) (.wr .i64 (.sub (.v 6) (.c 1)))) (.c 8)) .nl)))))))))),(.wr .i64 (.sub (.v 6) (.c 1)))]))))))))))))))))
theorem Z10t:Z12 (Zr [] Z15x [] Zq8 (Z14b Tryz.prog Z7x gl0 Zn6 68 9 1000 17 [Tr,Bs] [Tr,I1]))=Z15y:=by kernel_rfl
theorem Z1ia:Gok Tryz.prog Zn6:=(more Zqj (more Z15l (more Z1ch (fix.one Zn5))))
theorem Z1ib:Zj Zn6 Z15x:=(Z2 Zl4 (Z2 Z10p (Z2 Z15r (Z2 Ziy Z8))))
theorem Zn7:Z2j Tryz.prog 68=true:=by kernel_rfl
theorem zz12 {a b:Int} (ha:Z36 a=true) (hb:Z36 b=true):Z17 Z93 [co a 0,co a 1,co a 2,co a 3,co a 4,co a 5,co b 0,co b 1,co b 2,co b 3,co b 4,co b 5]:=by
 obtain ⟨h0,h1,h2,h3,h4,h5⟩:=Zxa ha
 obtain ⟨k0,k1,k2,k3,k4,k5⟩:=Zxa hb
 exact Z1 h0 (Z1 h1 (Z1 h2 (Z1 h3 (Z1 h4 (Z1 h5 (Z1 k0 (Z1 k1 (Z1 k2 (Z1 k3 (Z1 k4 (Z1 k5 Z4)))))))))))
theorem Zxb:Z66.ok Tryz.prog:=Sum.okRg facts.mixed Z1ia back_iter Zn7 Z1ib Z10t rfl (fun _=>rfl) (fun xs h=>h.1) (by
 intro xs hx hp
 obtain ⟨a,b,rfl⟩:=Zdf hx
 have hlen:=hp.2.1
 have hel:=hp.2.2.2
 clear hp
 simp only [Z1kg,Z1kh] at hlen hel
 simp only [Z15y,Zn6,Za6,Zg6,Zmq,Z2x,TX.sat,XB.prop,X.den,Z1kk,Z1kl,Z1ke,Z1kf,Z1ki,Z1kj,Z1kg,Z1kh,mkS,mkP,and_true,true_and,Z1kp,Z1kq,not_or,not_and,Z1km,ne_eq,Z1kn,Z1ko,Za5,Ze8,Zq7,Z92,Zio,ex7,L2.den]
 refine ⟨⟨Zp (n:=1) rfl,hel⟩,?_⟩
 generalize hta:dec a=t at hlen ⊢
 generalize dec b=l at hlen hel ⊢
 refine ⟨fun hbx=>?_,fun hbx=>?_⟩
 ·have:Z1w t l=Z21 l:=by unfold Z1w; rw [if_neg hbx]
  rw [this,if_neg hbx]
 obtain ⟨hl256,hbok⟩:=Zj0 hbx
 refine ⟨Z1 trivial (Z1 ⟨by show (0:Int)≤_; omega,by show _≤(1000:Int); omega⟩ Z4),fun hsh=>?_,fun hsh=>?_⟩
 ·have:Z1w t l=8:=by
   unfold Z1w
   rw [if_pos hbx,if_neg]
   intro h
   rw [h] at hsh
   exact absurd hsh (by decide)
  rw [this]
  rfl
 have hshp:Z1m t (l.length:Int)=true:=by
  cases h:Z1m t (l.length:Int) with
  | true=>rfl
  | false=>rw [h] at hsh; exact absurd rfl hsh
 have hE:Z1w t l=0:=by unfold Z1w; rw [if_pos hbx,if_pos hshp]
 have hS:=Z6v hshp
 rw [hE]
 simp only [Z3]
 refine ⟨⟨Zp (n:=1) rfl,by show (dec a).length≤1000000; rw [hta]; omega⟩,by omega,fun xs=>∃ i:Nat,xs.getD 1 0=(i:Int)∧i≤t.length∧xs.getD 0 0=cod (Z1q l t (t.length - i)),fun xs=>(xs.getD 1 0).toNat,fun xs hx _=>Zp (n:=2) hx,⟨t.length,rfl,Nat.le_refl _,by rw [Nat.sub_self]; rfl⟩,?_⟩
 intro xs hx hI
 obtain ⟨d0,d1,rfl⟩:=Zdf hx
 obtain ⟨i,hi,hle,hd⟩:=hI
 simp only [Z1kg,Z1kh,Z1ki,Z1kj] at hi hd ⊢
 subst hi hd
 refine ⟨fun h0=>?_,fun h0=>?_⟩
 ·have:i=0:=by omega
  subst this
  rfl
 obtain ⟨k,rfl⟩:∃ k,i=k + 1:=⟨i - 1,by omega⟩
 have hw:IntKind.i64.wrap (((k + 1:Nat):Int) - 1)=(k:Int):=by rw [Zf (by omega) (by omega)]; omega
 have hco:∀ x j,(dec x).getD j 0=co x j:=fun _ _=>rfl
 rw [hw]
 simp only [Z3,hco,Int.toNat_natCast,show Int.toNat 0=0 from rfl,show Int.toNat 1=1 from rfl,show Int.toNat 2=2 from rfl,show Int.toNat 3=3 from rfl,show Int.toNat 4=4 from rfl,show Int.toNat 5=5 from rfl,show Int.toNat 6=6 from rfl,show Int.toNat 7=7 from rfl,show Int.toNat 8=8 from rfl]
 generalize hc:t.length - (k + 1)=c
 have hk:t.length - 1 - c=k:=by omega
 have hRl:=Ziz l t c
 have hco6:=Zu3 l t k c
 have hok:=Z1i9 hS hbok c (by omega)
 have hnext:t.length - k=c + 1:=by omega
 have hstep:Z1q l t (c + 1)=(Z1q l t c).set k (cod (Z4g l (Z1q l t c) ((Z1q l t c).getD k 0)++[co ((Z1q l t c).getD k 0) 6,co ((Z1q l t c).getD k 0) 7,co ((Z1q l t c).getD k 0) 8])):=by
  rw [Z97,Z94,hk]
 have hsk:=hS k (by omega)
 rw [← hco6.1,← hco6.2.1,← hco6.2.2] at hsk
 generalize hR:Z1q l t c=R at *
 generalize hbb:R.getD k 0=bb at *
 refine ⟨fun hlf=>?_,fun hnd=>?_⟩
 ·have hlf':=hsk.resolve_right (by omega)
  refine ⟨hlf'.2.2.1,hlf'.2.2.2,by omega,by omega,⟨k,rfl,by omega,?_⟩,by omega⟩
  rw [hnext,hstep]
  unfold Z4g
  rw [if_pos hlf]
  rfl
 ·have hnd':=hsk.resolve_left (by omega)
  have ha:=hok (co bb 6).toNat (by omega) (by omega)
  have hb:=hok (co bb 7).toNat (by omega) (by omega)
  refine ⟨by omega,by omega,by omega,zz12 ha hb,?_⟩
  rw [Z15w ha hb]
  refine ⟨by omega,by omega,⟨k,rfl,by omega,?_⟩,by omega⟩
  rw [hnext,hstep]
  unfold Z4g
  rw [if_neg (by omega)]
  rfl)
theorem Zqp:Z1g Z66 Zth:=⟨fun xs h=>(Z1a xs h).elim,fun vs xs h hp=>Z1 trivial (Z1 (Zqo _ _) Z4)⟩
end Go.Proofs.YtgcoidbaoigkeaaGreatDoor.fix
namespace Go.Proofs.YtgcoidbaoigkeaaGreatDoor.fix
open Go.RowKit Go.Sx
theorem oneA {s:Sum} (h:s.okA Tryz.prog):Gok Tryz.prog [s]:=by
 intro x hx
 simp only [List.mem_singleton] at hx
 subst hx
 exact h
theorem Z1ic {s:Sum} {G:List Sum} (h:s.okA Tryz.prog) (hG:Gok Tryz.prog G):Gok Tryz.prog (s::G):=by
 intro x hx
 rcases List.mem_cons.1 hx with rfl | hx
 ·exact h
 ·exact hG x hx
theorem Z1cl {a b:List Int} {i:Nat} (hi:i < a.length) (h:nine (a.getD i 0) ≠ nine (b.getD i 0)):Zk5 a b=false:=by
 unfold Zk5
 rw [Bool.and_eq_false_iff]
 refine .inr ?_
 rw [List.all_eq_false]
 exact ⟨i,by simpa using hi,by simpa using h⟩
theorem Zqq {a b:List Int} (hl:a.length=b.length) (h:∀ i,i < a.length→nine (a.getD i 0)=nine (b.getD i 0)):Zk5 a b=true:=by
 unfold Zk5
 rw [Z1kr]
 refine ⟨decide_eq_true hl,List.all_eq_true.2 fun i hi=>?_⟩
 simp only [List.mem_range] at hi
 exact decide_eq_true (h i hi)
theorem Z10u {a b:List Int} (h:Zk5 a b=true):a.length=b.length∧∀ i,i < a.length→nine (a.getD i 0)=nine (b.getD i 0):=by
 unfold Zk5 at h
 rw [Z1kr] at h
 refine ⟨of_decide_eq_true h.1,fun i hi=>?_⟩
 exact of_decide_eq_true (List.all_eq_true.1 h.2 i (by simpa using hi))
theorem Zn8 {a b:Int}:nine a=nine b↔(co a 0=co b 0∧co a 1=co b 1∧co a 2=co b 2∧co a 3=co b 3∧co a 4=co b 4∧co a 5=co b 5∧co a 6=co b 6∧co a 7=co b 7∧co a 8=co b 8):=by
 unfold nine
 simp only [List.cons.injEq,and_true]
noncomputable def Zgg:List Sum:=[Z66]
def Zxc:List Inf:=[Zth]
def Zxd:TX:=(.call 0 [(.v 0),(.v 1)] (.ite (.not (.eq (.v 3) (.c 0))) (.ret [(.v 3)])
(.ite (.not (.eq (.ln (.v 2)) (.ln (.v 0)))) (.ret [(.c 8)])
(.loop 2 [none,none] [(.c 0),(.c 0)] (.ite (.le (.ln (.v 2)) (.v 5)) (.ret [(.c 0)])
(.asrt (.le (.c 0) (.v 5)) (.asrt (.lt (.v 5) (.ln (.v 0))) (.ite (.or (.or (.or (.not (.eq (.l2 .at (.l2 .at (.v 2) (.v 5)) (.c 0)) (.l2 .at (.l2 .at (.v 0) (.v 5)) (.c 0)))) (.or (.not (.eq (.l2 .at (.l2 .at (.v 2) (.v 5)) (.c 1)) (.l2 .at (.l2 .at (.v 0) (.v 5)) (.c 1)))) (.not (.eq (.l2 .at (.l2 .at (.v 2) (.v 5)) (.c 2)) (.l2 .at (.l2 .at (.v 0) (.v 5)) (.c 2)))))) (.or (.not (.eq (.l2 .at (.l2 .at (.v 2) (.v 5)) (.c 3)) (.l2 .at (.l2 .at (.v 0) (.v 5)) (.c 3)))) (.or (.not (.eq (.l2 .at (.l2 .at (.v 2) (.v 5)) (.c 4)) (.l2 .at (.l2 .at (.v 0) (.v 5)) (.c 4)))) (.not (.eq (.l2 .at (.l2 .at (.v 2) (.v 5)) (.c 5)) (.l2 .at (.l2 .at (.v 0) (.v 5)) (.c 5))))))) (.or (.not (.eq (.l2 .at (.l2 .at (.v 2) (.v 5)) (.c 6)) (.l2 .at (.l2 .at (.v 0) (.v 5)) (.c 6)))) (.or (.not (.eq (.l2 .at (.l2 .at (.v 2) (.v 5)) (.c 7)) (.l2 .at (.l2 .at (.v 0) (.v 5)) (.c 7)))) (.not (.eq (.l2 .at (.l2 .at (.v 2) (.v 5)) (.c 8)) (.l2 .at (.l2 .at (.v 0) (.v 5)) (.c 8))))))) (.ret [(.c 8)])
(.back 0 [(.v 4),(.wr .i64 (.add (.v 5) (.c 1)))])))))))))
theorem Zu4:Z12 (Zr [] Zxc [] Zed (Zq Tryz.prog (Z5u Tryz.prog [(4,14)]) gl0 Zgg 1000 70 [Tr,Bs] [I1]))=Zxd:=by kernel_rfl
theorem Z1cm:Gok Tryz.prog Zgg:=(fix.one Zxb)
theorem Z1cn:Zj Zgg Zxc:=(Z2 Zqp Z8)
theorem Z15z:Zg8.ok Tryz.prog:=Sum.okPF (pin:=Zed) facts.mixed Z1cm Z1cn Zu4 rfl (fun _=>rfl) (fun xs h=>h.1) (by
 intro xs hx hp
 obtain ⟨a,b,rfl⟩:=Zdf hx
 have hpre:Zq9 [a,b]:=hp
 have hlen:=hp.2.1
 clear hp
 simp only [Z1kg,Z1kh] at hlen
 simp only [Zxd,Zgg,Z66,TX.sat,XB.prop,X.den,Z1kk,Z1kl,Z1ke,Z1kf,Z1ki,Z1kj,Z1kg,Z1kh,mkS,mkP,and_true,true_and,Z1kp,Z1kq,not_or,not_and,Z1km,ne_eq,Z1kn,Z1ko,Zio,Zec,L2.den]
 refine ⟨hpre,?_⟩
 clear hpre
 generalize dec a=t at hlen ⊢
 generalize dec b=l at hlen ⊢
 refine ⟨fun hE=>?_,fun hE=>?_⟩
 ·have:Zob t l=Z1w t l:=by unfold Zob; rw [if_neg hE]
  rw [this]
 have hE':Z1w t l=0:=hE
 rw [if_pos hE',Z3]
 have hC:Zob t l=if Zk5 (Z30 l t) t=true then 0 else 8:=by unfold Zob; rw [if_pos hE']
 rw [hC]
 have hRl:(Z30 l t).length=t.length:=Ziz l t t.length
 generalize Z30 l t=R at hRl ⊢
 refine ⟨fun h=>absurd (by rw [hRl]) h,fun _=>?_⟩
 refine ⟨fun xs=>∃ i:Nat,xs.getD 1 0=(i:Int)∧i≤t.length∧∀ j,j < i→nine (R.getD j 0)=nine (t.getD j 0),fun xs=>t.length - (xs.getD 1 0).toNat,fun xs hx _=>Zp (n:=2) hx,⟨0,rfl,by omega,fun j hj=>by omega⟩,?_⟩
 intro xs hx hI
 obtain ⟨d0,d1,rfl⟩:=Zdf hx
 obtain ⟨i,hi,hle,hall⟩:=hI
 simp only [Z1kg,Z1kh,Z1ki,Z1kj] at hi ⊢
 subst hi
 have hco:∀ x j,(dec x).getD j 0=co x j:=fun _ _=>rfl
 simp only [hco,Int.toNat_natCast,show Int.toNat 0=0 from rfl,show Int.toNat 1=1 from rfl,show Int.toNat 2=2 from rfl,show Int.toNat 3=3 from rfl,show Int.toNat 4=4 from rfl,show Int.toNat 5=5 from rfl,show Int.toNat 6=6 from rfl,show Int.toNat 7=7 from rfl,show Int.toNat 8=8 from rfl]
 refine ⟨fun hge=>?_,fun hlt=>?_⟩
 ·rw [if_pos (Zqq hRl fun j hj=>hall j (by omega))]
 ·have hil:i < R.length:=by omega
  refine ⟨by omega,by omega,fun hne=>?_,fun heq=>?_⟩
  ·rw [Z1cl hil (fun h=>by rw [Zn8] at h; omega)]
   rfl
  ·have hw:IntKind.i64.wrap ((i:Int) + 1)=((i + 1:Nat):Int):=by rw [Zf (by omega) (by omega)]; omega
   rw [hw]
   refine ⟨⟨i + 1,rfl,by omega,fun j hj=>?_⟩,by rw [Int.toNat_natCast]; omega⟩
   rcases Nat.lt_or_ge j i with h1 | h1
   ·exact hall j h1
   ·have:j=i:=by omega
    subst this
    rw [Zn8]
    omega)
theorem Z160 (t l:List Int):0≤Zob t l∧Zob t l≤8:=by
 unfold Zob
 split
 ·split <;> decide
 ·exact Zqo t l
theorem Z10v:Z1g Zg8 Zwj:=⟨fun xs h=>(Z1a xs h).elim,fun vs xs h hp=>Z1 (Z160 _ _) Z4⟩
end Go.Proofs.YtgcoidbaoigkeaaGreatDoor.fix
namespace Go.Proofs.YtgcoidbaoigkeaaGreatDoor.fix
open Go.RowKit Go.Sx
theorem Z161 {m l h v:Int} (h1:l≤v) (h2:v≤h):min (m * l) (m * h)≤m * v∧m * v≤max (m * l) (m * h):=by
 have:=Z7f (y:=m) h1 h2
 rw [Int.mul_comm l,Int.mul_comm h,Int.mul_comm v] at this
 exact this
theorem mid3 {a b c d e f x y z:Int} (h1:min a b≤x∧x≤max a b) (h2:min c d≤y∧y≤max c d) (h3:min e f≤z∧z≤max e f):(min a b + min c d + min e f) / 256≤(x + y + z) / 256∧(x + y + z) / 256≤(max a b + max c d + max e f) / 256 :=
 ⟨Int.ediv_le_ediv (by omega) (by omega),Int.ediv_le_ediv (by omega) (by omega)⟩
theorem Z1id {m l h l' h':Int} (h1:l'≤l) (h0:l≤h) (h2:h≤h'):min (m * l') (m * h')≤min (m * l) (m * h)∧max (m * l) (m * h)≤max (m * l') (m * h'):=by
 have k1:=Z161 (m:=m) (l:=l') (h:=h') (v:=l) (by omega) (by omega)
 have k2:=Z161 (m:=m) (l:=l') (h:=h') (v:=h) (by omega) (by omega)
 omega
theorem Z10w {a b c a' b' c':Int} (h1:a'≤a) (h2:b'≤b) (h3:c'≤c):(a' + b' + c') / 256≤(a + b + c) / 256:=Int.ediv_le_ediv (by omega) (by omega)
theorem Zqr {x:List Int} (h:(Z2h x).getD 6 0=0):Z2o x 0=true∧Z2z x 16=true∧winC x=true∧Z2h x=if Z6s x=true then Ze3 x else z7 0:=by
 unfold Z2h at h ⊢
 split
 ·rename_i h1
  rw [if_pos h1] at h
  split
  ·rename_i h2
   rw [if_pos h2] at h
   split
   ·rename_i h3
    exact ⟨h1,h2,h3,rfl⟩
   ·rename_i h3
    rw [if_neg h3] at h
    exact absurd h (by decide)
  ·rename_i h2
   rw [if_neg h2] at h
   exact absurd h (by decide)
 ·rename_i h1
  rw [if_neg h1] at h
  exact absurd h (by decide)
theorem Zxe {a x y:Int} (h0:0≤a) (hx:0 < x) (h:x≤y):a / y≤a / x:=by
 rw [Int.le_ediv_iff_mul_le hx]
 have h1:0≤a / y:=Int.ediv_nonneg h0 (by omega)
 have h2:a / y * x≤a / y * y:=Int.mul_le_mul_of_nonneg_left h h1
 have h3:a / y * y≤a:=Int.ediv_mul_le a (by omega)
 omega
theorem Zqs {a x y:Int} (h0:a≤0) (hx:0 < x) (h:x≤y):a / x≤a / y:=by
 rw [Int.le_ediv_iff_mul_le (show 0 < y by omega)]
 have h1:a / x≤0:=by
  apply Int.ediv_le_of_le_mul hx
  omega
 have h2:a / x * y≤a / x * x:=Int.mul_le_mul_of_nonpos_left h1 h
 have h3:a / x * x≤a:=Int.ediv_mul_le a (by omega)
 omega
theorem Zl5 {f a b n m z:Int} (hf:0≤f) (ha:0 < a) (h1:a≤z) (h2:z≤b):(n≤m→Zii f a b n≤8 * f * m / z)∧(m≤n→8 * f * m / z≤Zij f a b n):=by
 have hz:0 < z:=by omega
 have hb:0 < b:=by omega
 have h8:0≤8 * f:=by omega
 refine ⟨fun hnm=>?_,fun hmn=>?_⟩
 ·have hk:8 * f * n≤8 * f * m:=Int.mul_le_mul_of_nonneg_left hnm h8
  have hq:8 * f * n / z≤8 * f * m / z:=Int.ediv_le_ediv hz hk
  refine Int.le_trans ?_ hq
  unfold Zii
  split
  ·rename_i hn
   have h0:0≤8 * f * n:=Int.mul_nonneg h8 hn
   exact Zxe h0 hz h2
  ·rename_i hn
   have h0:8 * f * n≤0:=Int.mul_nonpos_of_nonneg_of_nonpos h8 (by omega)
   exact Zqs h0 ha h1
 ·have hk:8 * f * m≤8 * f * n:=Int.mul_le_mul_of_nonneg_left hmn h8
  have hq:8 * f * m / z≤8 * f * n / z:=Int.ediv_le_ediv hz hk
  refine Int.le_trans hq ?_
  unfold Zij
  split
  ·rename_i hn
   have h0:0≤8 * f * n:=Int.mul_nonneg h8 hn
   exact Zxe h0 ha h1
  ·rename_i hn
   have h0:8 * f * n≤0:=Int.mul_nonpos_of_nonneg_of_nonpos h8 (by omega)
   exact Zqs h0 hz h2
theorem Zqt {f a b n a' b' n':Int} (hf:0≤f) (ha:0 < a') (h1:a'≤a) (h0:a≤b) (h2:b≤b') (hn:n'≤n):Zii f a' b' n'≤Zii f a b n:=by
 have:∃ z,a≤z∧z≤b∧Zii f a b n=8 * f * n / z:=by
  unfold Zii
  split
  ·exact ⟨b,h0,Int.le_refl _,rfl⟩
  ·exact ⟨a,Int.le_refl _,h0,rfl⟩
 obtain ⟨z,hz1,hz2,h⟩:=this
 rw [h]
 exact (Zl5 hf ha (by omega) (by omega)).1 hn
theorem Zqu {f a b n a' b' n':Int} (hf:0≤f) (ha:0 < a') (h1:a'≤a) (h0:a≤b) (h2:b≤b') (hn:n≤n'):Zij f a b n≤Zij f a' b' n':=by
 have:∃ z,a≤z∧z≤b∧Zij f a b n=8 * f * n / z:=by
  unfold Zij
  split
  ·exact ⟨a,Int.le_refl _,h0,rfl⟩
  ·exact ⟨b,h0,Int.le_refl _,rfl⟩
 obtain ⟨z,hz1,hz2,h⟩:=this
 rw [h]
 exact (Zl5 hf ha (by omega) (by omega)).2 hn
theorem Z162 {a b:Int} (h:a≤b):up a 8≤up b 8:=by unfold up; omega
theorem up_le {a x:Int} (h:a≤8 * x):up a 8≤x:=by unfold up; omega
end Go.Proofs.YtgcoidbaoigkeaaGreatDoor.fix
namespace Go.Proofs.YtgcoidbaoigkeaaGreatDoor.fix
open Go.RowKit Go.Sx
theorem Zu5 (a0 a1 a2 a3 a4 a5 a6 a7 a8 a9 a10 a11 a12 a13 a14 a15 a16 a17 a18 a19 a20 a21 a22 a23 a24 a25 a26 a27 a28 a29 a30 a31:Int) (ha:(Z2h [a0,a1,a2,a3,a4,a5,a6,a7,a8,a9,a10,a11,a12,a13,a14,a15,a16,a17,a18,a19,a20,a21,a28,a29,a30,a31]).getD 6 0=0) (hb:(Z2h [a0,a1,a2,a3,a4,a5,a6,a7,a8,a9,a10,a11,a12,a13,a14,a15,a22,a23,a24,a25,a26,a27,a28,a29,a30,a31]).getD 6 0=0) (hi:Z65 [a16,a17,a18,a19,a20,a21,a22,a23,a24,a25,a26,a27]=true) (hs:Z6s [a0,a1,a2,a3,a4,a5,a6,a7,a8,a9,a10,a11,a12,a13,a14,a15,a16,a17,a18,a19,a20,a21,a28,a29,a30,a31]=true):Z6s [a0,a1,a2,a3,a4,a5,a6,a7,a8,a9,a10,a11,a12,a13,a14,a15,a22,a23,a24,a25,a26,a27,a28,a29,a30,a31]=true:=by
 obtain ⟨hc,hw,hwin,hv⟩:=Zqr ha
 obtain ⟨_,hw',_,hv'⟩:=Zqr hb
 have kw:=Z3a.1 hw
 simp only [TX.sat,XB.prop,X.den,Z1kk,Z1kl,Z1ke,Z1kf,Z1ki,Z1kj,Z1kg,Z1kh,mkS,mkP,and_true,true_and,Z1kp,Z1kq,not_or,not_and,Z1km,ne_eq,Z1kn,Z1ko,Nat.reduceAdd] at kw
 simp only [Z65,Zb,TX.sat,XB.prop,X.den,Z1kk,Z1kl,Z1ke,Z1kf,Z1ki,Z1kj,Z1kg,Z1kh,mkS,mkP,and_true,true_and,Z1kp,Z1kq,not_or,not_and,Z1km,ne_eq,Z1kn,Z1ko] at hi
 have kl:=Zn2 hc
 simp only [TX.sat,XB.prop,X.den,Z1kk,Z1kl,Z1ke,Z1kf,Z1ki,Z1kj,Z1kg,Z1kh,mkS,mkP,and_true,true_and,Z1kp,Z1kq,not_or,not_and,Z1km,ne_eq,Z1kn,Z1ko] at kl
 have d0:a22 - a0≤a16 - a0∧a16 - a0≤a19 - a0∧a19 - a0≤a25 - a0:=by omega
 have d1:a23 - a1≤a17 - a1∧a17 - a1≤a20 - a1∧a20 - a1≤a26 - a1:=by omega
 have d2:a24 - a2≤a18 - a2∧a18 - a2≤a21 - a2∧a21 - a2≤a27 - a2:=by omega
 have r0:=fun m=>Z1id (m:=m) d0.1 d0.2.1 d0.2.2
 have r1:=fun m=>Z1id (m:=m) d1.1 d1.2.1 d1.2.2
 have r2:=fun m=>Z1id (m:=m) d2.1 d2.2.1 d2.2.2
 have v0:vw [a0,a1,a2,a3,a4,a5,a6,a7,a8,a9,a10,a11,a12,a13,a14,a15,a22,a23,a24,a25,a26,a27,a28,a29,a30,a31] 0≤vw [a0,a1,a2,a3,a4,a5,a6,a7,a8,a9,a10,a11,a12,a13,a14,a15,a16,a17,a18,a19,a20,a21,a28,a29,a30,a31] 0:=Z10w (r0 a3).1 (r1 a4).1 (r2 a5).1
 have v1:vw [a0,a1,a2,a3,a4,a5,a6,a7,a8,a9,a10,a11,a12,a13,a14,a15,a22,a23,a24,a25,a26,a27,a28,a29,a30,a31] 1≤vw [a0,a1,a2,a3,a4,a5,a6,a7,a8,a9,a10,a11,a12,a13,a14,a15,a16,a17,a18,a19,a20,a21,a28,a29,a30,a31] 1:=Z10w (r0 a6).1 (r1 a7).1 (r2 a8).1
 have v2:vw [a0,a1,a2,a3,a4,a5,a6,a7,a8,a9,a10,a11,a12,a13,a14,a15,a22,a23,a24,a25,a26,a27,a28,a29,a30,a31] 2≤vw [a0,a1,a2,a3,a4,a5,a6,a7,a8,a9,a10,a11,a12,a13,a14,a15,a16,a17,a18,a19,a20,a21,a28,a29,a30,a31] 2:=Z10w (r0 a9).1 (r1 a10).1 (r2 a11).1
 have v3:vw [a0,a1,a2,a3,a4,a5,a6,a7,a8,a9,a10,a11,a12,a13,a14,a15,a16,a17,a18,a19,a20,a21,a28,a29,a30,a31] 3≤vw [a0,a1,a2,a3,a4,a5,a6,a7,a8,a9,a10,a11,a12,a13,a14,a15,a22,a23,a24,a25,a26,a27,a28,a29,a30,a31] 3:=Z10w (r0 a3).2 (r1 a4).2 (r2 a5).2
 have v4:vw [a0,a1,a2,a3,a4,a5,a6,a7,a8,a9,a10,a11,a12,a13,a14,a15,a16,a17,a18,a19,a20,a21,a28,a29,a30,a31] 4≤vw [a0,a1,a2,a3,a4,a5,a6,a7,a8,a9,a10,a11,a12,a13,a14,a15,a22,a23,a24,a25,a26,a27,a28,a29,a30,a31] 4:=Z10w (r0 a6).2 (r1 a7).2 (r2 a8).2
 have v5:vw [a0,a1,a2,a3,a4,a5,a6,a7,a8,a9,a10,a11,a12,a13,a14,a15,a16,a17,a18,a19,a20,a21,a28,a29,a30,a31] 5≤vw [a0,a1,a2,a3,a4,a5,a6,a7,a8,a9,a10,a11,a12,a13,a14,a15,a22,a23,a24,a25,a26,a27,a28,a29,a30,a31] 5:=Z10w (r0 a9).2 (r1 a10).2 (r2 a11).2
 obtain ⟨hz,hx,hy⟩:=Z50.1 hs
 have n1:Z13 [a0,a1,a2,a3,a4,a5,a6,a7,a8,a9,a10,a11,a12,a13,a14,a15,a16,a17,a18,a19,a20,a21,a28,a29,a30,a31]=max (vw [a0,a1,a2,a3,a4,a5,a6,a7,a8,a9,a10,a11,a12,a13,a14,a15,a16,a17,a18,a19,a20,a21,a28,a29,a30,a31] 2) a13:=rfl
 have n2:Z13 [a0,a1,a2,a3,a4,a5,a6,a7,a8,a9,a10,a11,a12,a13,a14,a15,a22,a23,a24,a25,a26,a27,a28,a29,a30,a31]=max (vw [a0,a1,a2,a3,a4,a5,a6,a7,a8,a9,a10,a11,a12,a13,a14,a15,a22,a23,a24,a25,a26,a27,a28,a29,a30,a31] 2) a13:=rfl
 have f1:Z4n [a0,a1,a2,a3,a4,a5,a6,a7,a8,a9,a10,a11,a12,a13,a14,a15,a16,a17,a18,a19,a20,a21,a28,a29,a30,a31]=vw [a0,a1,a2,a3,a4,a5,a6,a7,a8,a9,a10,a11,a12,a13,a14,a15,a16,a17,a18,a19,a20,a21,a28,a29,a30,a31] 5:=rfl
 have f2:Z4n [a0,a1,a2,a3,a4,a5,a6,a7,a8,a9,a10,a11,a12,a13,a14,a15,a22,a23,a24,a25,a26,a27,a28,a29,a30,a31]=vw [a0,a1,a2,a3,a4,a5,a6,a7,a8,a9,a10,a11,a12,a13,a14,a15,a22,a23,a24,a25,a26,a27,a28,a29,a30,a31] 5:=rfl
 have hn:Z13 [a0,a1,a2,a3,a4,a5,a6,a7,a8,a9,a10,a11,a12,a13,a14,a15,a22,a23,a24,a25,a26,a27,a28,a29,a30,a31]≤Z13 [a0,a1,a2,a3,a4,a5,a6,a7,a8,a9,a10,a11,a12,a13,a14,a15,a16,a17,a18,a19,a20,a21,a28,a29,a30,a31]:=by omega
 have hf:Z4n [a0,a1,a2,a3,a4,a5,a6,a7,a8,a9,a10,a11,a12,a13,a14,a15,a16,a17,a18,a19,a20,a21,a28,a29,a30,a31]≤Z4n [a0,a1,a2,a3,a4,a5,a6,a7,a8,a9,a10,a11,a12,a13,a14,a15,a22,a23,a24,a25,a26,a27,a28,a29,a30,a31]:=by omega
 have hp:0 < Z13 [a0,a1,a2,a3,a4,a5,a6,a7,a8,a9,a10,a11,a12,a13,a14,a15,a22,a23,a24,a25,a26,a27,a28,a29,a30,a31]:=by omega
 have g0:=Zqt (f:=a12) (by omega) hp hn hz hf v0
 have g1:=Zqt (f:=a12) (by omega) hp hn hz hf v1
 have g3:=Zqu (f:=a12) (by omega) hp hn hz hf v3
 have g4:=Zqu (f:=a12) (by omega) hp hn hz hf v4
 have L1:Z90 [a0,a1,a2,a3,a4,a5,a6,a7,a8,a9,a10,a11,a12,a13,a14,a15,a16,a17,a18,a19,a20,a21,a28,a29,a30,a31]=Zii a12 (Z13 [a0,a1,a2,a3,a4,a5,a6,a7,a8,a9,a10,a11,a12,a13,a14,a15,a16,a17,a18,a19,a20,a21,a28,a29,a30,a31]) (Z4n [a0,a1,a2,a3,a4,a5,a6,a7,a8,a9,a10,a11,a12,a13,a14,a15,a16,a17,a18,a19,a20,a21,a28,a29,a30,a31]) (vw [a0,a1,a2,a3,a4,a5,a6,a7,a8,a9,a10,a11,a12,a13,a14,a15,a16,a17,a18,a19,a20,a21,a28,a29,a30,a31] 0) + 4 * a14:=rfl
 have L2:Z90 [a0,a1,a2,a3,a4,a5,a6,a7,a8,a9,a10,a11,a12,a13,a14,a15,a22,a23,a24,a25,a26,a27,a28,a29,a30,a31]=Zii a12 (Z13 [a0,a1,a2,a3,a4,a5,a6,a7,a8,a9,a10,a11,a12,a13,a14,a15,a22,a23,a24,a25,a26,a27,a28,a29,a30,a31]) (Z4n [a0,a1,a2,a3,a4,a5,a6,a7,a8,a9,a10,a11,a12,a13,a14,a15,a22,a23,a24,a25,a26,a27,a28,a29,a30,a31]) (vw [a0,a1,a2,a3,a4,a5,a6,a7,a8,a9,a10,a11,a12,a13,a14,a15,a22,a23,a24,a25,a26,a27,a28,a29,a30,a31] 0) + 4 * a14:=rfl
 have R1:Z5i [a0,a1,a2,a3,a4,a5,a6,a7,a8,a9,a10,a11,a12,a13,a14,a15,a16,a17,a18,a19,a20,a21,a28,a29,a30,a31]=Zij a12 (Z13 [a0,a1,a2,a3,a4,a5,a6,a7,a8,a9,a10,a11,a12,a13,a14,a15,a16,a17,a18,a19,a20,a21,a28,a29,a30,a31]) (Z4n [a0,a1,a2,a3,a4,a5,a6,a7,a8,a9,a10,a11,a12,a13,a14,a15,a16,a17,a18,a19,a20,a21,a28,a29,a30,a31]) (vw [a0,a1,a2,a3,a4,a5,a6,a7,a8,a9,a10,a11,a12,a13,a14,a15,a16,a17,a18,a19,a20,a21,a28,a29,a30,a31] 3) + 4 * a14:=rfl
 have R2:Z5i [a0,a1,a2,a3,a4,a5,a6,a7,a8,a9,a10,a11,a12,a13,a14,a15,a22,a23,a24,a25,a26,a27,a28,a29,a30,a31]=Zij a12 (Z13 [a0,a1,a2,a3,a4,a5,a6,a7,a8,a9,a10,a11,a12,a13,a14,a15,a22,a23,a24,a25,a26,a27,a28,a29,a30,a31]) (Z4n [a0,a1,a2,a3,a4,a5,a6,a7,a8,a9,a10,a11,a12,a13,a14,a15,a22,a23,a24,a25,a26,a27,a28,a29,a30,a31]) (vw [a0,a1,a2,a3,a4,a5,a6,a7,a8,a9,a10,a11,a12,a13,a14,a15,a22,a23,a24,a25,a26,a27,a28,a29,a30,a31] 3) + 4 * a14:=rfl
 have T1:Zt7 [a0,a1,a2,a3,a4,a5,a6,a7,a8,a9,a10,a11,a12,a13,a14,a15,a16,a17,a18,a19,a20,a21,a28,a29,a30,a31]=4 * a15 - Zij a12 (Z13 [a0,a1,a2,a3,a4,a5,a6,a7,a8,a9,a10,a11,a12,a13,a14,a15,a16,a17,a18,a19,a20,a21,a28,a29,a30,a31]) (Z4n [a0,a1,a2,a3,a4,a5,a6,a7,a8,a9,a10,a11,a12,a13,a14,a15,a16,a17,a18,a19,a20,a21,a28,a29,a30,a31]) (vw [a0,a1,a2,a3,a4,a5,a6,a7,a8,a9,a10,a11,a12,a13,a14,a15,a16,a17,a18,a19,a20,a21,a28,a29,a30,a31] 4):=rfl
 have T2:Zt7 [a0,a1,a2,a3,a4,a5,a6,a7,a8,a9,a10,a11,a12,a13,a14,a15,a22,a23,a24,a25,a26,a27,a28,a29,a30,a31]=4 * a15 - Zij a12 (Z13 [a0,a1,a2,a3,a4,a5,a6,a7,a8,a9,a10,a11,a12,a13,a14,a15,a22,a23,a24,a25,a26,a27,a28,a29,a30,a31]) (Z4n [a0,a1,a2,a3,a4,a5,a6,a7,a8,a9,a10,a11,a12,a13,a14,a15,a22,a23,a24,a25,a26,a27,a28,a29,a30,a31]) (vw [a0,a1,a2,a3,a4,a5,a6,a7,a8,a9,a10,a11,a12,a13,a14,a15,a22,a23,a24,a25,a26,a27,a28,a29,a30,a31] 4):=rfl
 have B1:Zt8 [a0,a1,a2,a3,a4,a5,a6,a7,a8,a9,a10,a11,a12,a13,a14,a15,a16,a17,a18,a19,a20,a21,a28,a29,a30,a31]=4 * a15 - Zii a12 (Z13 [a0,a1,a2,a3,a4,a5,a6,a7,a8,a9,a10,a11,a12,a13,a14,a15,a16,a17,a18,a19,a20,a21,a28,a29,a30,a31]) (Z4n [a0,a1,a2,a3,a4,a5,a6,a7,a8,a9,a10,a11,a12,a13,a14,a15,a16,a17,a18,a19,a20,a21,a28,a29,a30,a31]) (vw [a0,a1,a2,a3,a4,a5,a6,a7,a8,a9,a10,a11,a12,a13,a14,a15,a16,a17,a18,a19,a20,a21,a28,a29,a30,a31] 1):=rfl
 have B2:Zt8 [a0,a1,a2,a3,a4,a5,a6,a7,a8,a9,a10,a11,a12,a13,a14,a15,a22,a23,a24,a25,a26,a27,a28,a29,a30,a31]=4 * a15 - Zii a12 (Z13 [a0,a1,a2,a3,a4,a5,a6,a7,a8,a9,a10,a11,a12,a13,a14,a15,a22,a23,a24,a25,a26,a27,a28,a29,a30,a31]) (Z4n [a0,a1,a2,a3,a4,a5,a6,a7,a8,a9,a10,a11,a12,a13,a14,a15,a22,a23,a24,a25,a26,a27,a28,a29,a30,a31]) (vw [a0,a1,a2,a3,a4,a5,a6,a7,a8,a9,a10,a11,a12,a13,a14,a15,a22,a23,a24,a25,a26,a27,a28,a29,a30,a31] 1):=rfl
 have ux:=Z162 (a:=Z90 [a0,a1,a2,a3,a4,a5,a6,a7,a8,a9,a10,a11,a12,a13,a14,a15,a22,a23,a24,a25,a26,a27,a28,a29,a30,a31] - 4) (b:=Z90 [a0,a1,a2,a3,a4,a5,a6,a7,a8,a9,a10,a11,a12,a13,a14,a15,a16,a17,a18,a19,a20,a21,a28,a29,a30,a31] - 4) (by omega)
 have uy:=Z162 (a:=Zt7 [a0,a1,a2,a3,a4,a5,a6,a7,a8,a9,a10,a11,a12,a13,a14,a15,a22,a23,a24,a25,a26,a27,a28,a29,a30,a31] - 4) (b:=Zt7 [a0,a1,a2,a3,a4,a5,a6,a7,a8,a9,a10,a11,a12,a13,a14,a15,a16,a17,a18,a19,a20,a21,a28,a29,a30,a31] - 4) (by omega)
 have dx:(Z5i [a0,a1,a2,a3,a4,a5,a6,a7,a8,a9,a10,a11,a12,a13,a14,a15,a16,a17,a18,a19,a20,a21,a28,a29,a30,a31] - 4) / 8≤(Z5i [a0,a1,a2,a3,a4,a5,a6,a7,a8,a9,a10,a11,a12,a13,a14,a15,a22,a23,a24,a25,a26,a27,a28,a29,a30,a31] - 4) / 8:=by omega
 have dy:(Zt8 [a0,a1,a2,a3,a4,a5,a6,a7,a8,a9,a10,a11,a12,a13,a14,a15,a16,a17,a18,a19,a20,a21,a28,a29,a30,a31] - 4) / 8≤(Zt8 [a0,a1,a2,a3,a4,a5,a6,a7,a8,a9,a10,a11,a12,a13,a14,a15,a22,a23,a24,a25,a26,a27,a28,a29,a30,a31] - 4) / 8:=by omega
 have X0:Zt9 [a0,a1,a2,a3,a4,a5,a6,a7,a8,a9,a10,a11,a12,a13,a14,a15,a16,a17,a18,a19,a20,a21,a28,a29,a30,a31]=max (up (Z90 [a0,a1,a2,a3,a4,a5,a6,a7,a8,a9,a10,a11,a12,a13,a14,a15,a16,a17,a18,a19,a20,a21,a28,a29,a30,a31] - 4) 8) a28:=rfl
 have X0':Zt9 [a0,a1,a2,a3,a4,a5,a6,a7,a8,a9,a10,a11,a12,a13,a14,a15,a22,a23,a24,a25,a26,a27,a28,a29,a30,a31]=max (up (Z90 [a0,a1,a2,a3,a4,a5,a6,a7,a8,a9,a10,a11,a12,a13,a14,a15,a22,a23,a24,a25,a26,a27,a28,a29,a30,a31] - 4) 8) a28:=rfl
 have Y0:Zta [a0,a1,a2,a3,a4,a5,a6,a7,a8,a9,a10,a11,a12,a13,a14,a15,a16,a17,a18,a19,a20,a21,a28,a29,a30,a31]=max (up (Zt7 [a0,a1,a2,a3,a4,a5,a6,a7,a8,a9,a10,a11,a12,a13,a14,a15,a16,a17,a18,a19,a20,a21,a28,a29,a30,a31] - 4) 8) a29:=rfl
 have Y0':Zta [a0,a1,a2,a3,a4,a5,a6,a7,a8,a9,a10,a11,a12,a13,a14,a15,a22,a23,a24,a25,a26,a27,a28,a29,a30,a31]=max (up (Zt7 [a0,a1,a2,a3,a4,a5,a6,a7,a8,a9,a10,a11,a12,a13,a14,a15,a22,a23,a24,a25,a26,a27,a28,a29,a30,a31] - 4) 8) a29:=rfl
 have X1:Ztb [a0,a1,a2,a3,a4,a5,a6,a7,a8,a9,a10,a11,a12,a13,a14,a15,a16,a17,a18,a19,a20,a21,a28,a29,a30,a31]=min ((Z5i [a0,a1,a2,a3,a4,a5,a6,a7,a8,a9,a10,a11,a12,a13,a14,a15,a16,a17,a18,a19,a20,a21,a28,a29,a30,a31] - 4) / 8) a30:=rfl
 have X1':Ztb [a0,a1,a2,a3,a4,a5,a6,a7,a8,a9,a10,a11,a12,a13,a14,a15,a22,a23,a24,a25,a26,a27,a28,a29,a30,a31]=min ((Z5i [a0,a1,a2,a3,a4,a5,a6,a7,a8,a9,a10,a11,a12,a13,a14,a15,a22,a23,a24,a25,a26,a27,a28,a29,a30,a31] - 4) / 8) a30:=rfl
 have Y1:Ztc [a0,a1,a2,a3,a4,a5,a6,a7,a8,a9,a10,a11,a12,a13,a14,a15,a16,a17,a18,a19,a20,a21,a28,a29,a30,a31]=min ((Zt8 [a0,a1,a2,a3,a4,a5,a6,a7,a8,a9,a10,a11,a12,a13,a14,a15,a16,a17,a18,a19,a20,a21,a28,a29,a30,a31] - 4) / 8) a31:=rfl
 have Y1':Ztc [a0,a1,a2,a3,a4,a5,a6,a7,a8,a9,a10,a11,a12,a13,a14,a15,a22,a23,a24,a25,a26,a27,a28,a29,a30,a31]=min ((Zt8 [a0,a1,a2,a3,a4,a5,a6,a7,a8,a9,a10,a11,a12,a13,a14,a15,a22,a23,a24,a25,a26,a27,a28,a29,a30,a31] - 4) / 8) a31:=rfl
 have c1:Zt9 [a0,a1,a2,a3,a4,a5,a6,a7,a8,a9,a10,a11,a12,a13,a14,a15,a22,a23,a24,a25,a26,a27,a28,a29,a30,a31]≤Zt9 [a0,a1,a2,a3,a4,a5,a6,a7,a8,a9,a10,a11,a12,a13,a14,a15,a16,a17,a18,a19,a20,a21,a28,a29,a30,a31]∧Ztb [a0,a1,a2,a3,a4,a5,a6,a7,a8,a9,a10,a11,a12,a13,a14,a15,a16,a17,a18,a19,a20,a21,a28,a29,a30,a31]≤Ztb [a0,a1,a2,a3,a4,a5,a6,a7,a8,a9,a10,a11,a12,a13,a14,a15,a22,a23,a24,a25,a26,a27,a28,a29,a30,a31]∧Zta [a0,a1,a2,a3,a4,a5,a6,a7,a8,a9,a10,a11,a12,a13,a14,a15,a22,a23,a24,a25,a26,a27,a28,a29,a30,a31]≤Zta [a0,a1,a2,a3,a4,a5,a6,a7,a8,a9,a10,a11,a12,a13,a14,a15,a16,a17,a18,a19,a20,a21,a28,a29,a30,a31]∧Ztc [a0,a1,a2,a3,a4,a5,a6,a7,a8,a9,a10,a11,a12,a13,a14,a15,a16,a17,a18,a19,a20,a21,a28,a29,a30,a31]≤Ztc [a0,a1,a2,a3,a4,a5,a6,a7,a8,a9,a10,a11,a12,a13,a14,a15,a22,a23,a24,a25,a26,a27,a28,a29,a30,a31]:=by
  rw [X0,X0',X1,X1',Y0,Y0',Y1,Y1']
  clear X0 X0' X1 X1' Y0 Y0' Y1 Y1' L1 L2 R1 R2 T1 T2 B1 B2 g0 g1 g3 g4
  refine ⟨?_,?_,?_,?_⟩ <;> omega
 exact Z50.2 ⟨by omega,by omega,by omega⟩
end Go.Proofs.YtgcoidbaoigkeaaGreatDoor.fix
namespace Go.Proofs.YtgcoidbaoigkeaaGreatDoor.fix
open Go.RowKit Go.Sx
theorem Z163 (l t:List Int) (c i:Nat) (hi:t.length - c≤i):∀ d,c + d≤t.length→(Z1q l t (c + d)).getD i 0=(Z1q l t c).getD i 0
 | 0,_=>rfl
 | d + 1,h=>by
  rw [show c + (d + 1)=(c + d) + 1 by omega,Z97,Z94,Z7p,if_neg (by omega)]
  exact Z163 l t c i hi d (by omega)
theorem Z1co {a b:Int} (h:nine a=nine b):Z3j a=Z3j b:=by
 rw [Zn8] at h
 obtain ⟨h0,h1,h2,h3,h4,h5,_⟩:=h
 unfold Z3j
 rw [h0,h1,h2,h3,h4,h5]
theorem Z1cp {t l:List Int} (h:Zob t l=0):Z21 l=0∧Z1m t l.length=true∧∀ i,i < t.length→Z3j (t.getD i 0)=Z4g l t (t.getD i 0):=by
 have hE:Z1w t l=0:=by
  unfold Zob at h
  split at h
  ·assumption
  ·exact h
 have hS:Zk5 (Z30 l t) t=true:=by
  unfold Zob at h
  rw [if_pos hE] at h
  split at h
  ·assumption
  ·exact absurd h (by decide)
 have hb:Z21 l=0:=by
  unfold Z1w at hE
  split at hE
  ·assumption
  ·exact hE
 have hsh:Z1m t l.length=true:=by
  unfold Z1w at hE
  rw [if_pos hb] at hE
  split at hE
  ·assumption
  ·exact absurd hE (by decide)
 refine ⟨hb,hsh,fun i hi=>?_⟩
 have hshp:=Z6v hsh i hi
 obtain ⟨hlen,hsame⟩:=Z10u hS
 have hsix:∀ j,j < t.length→Z3j ((Z30 l t).getD j 0)=Z3j (t.getD j 0):=fun j hj=>Z1co (hsame j (by omega))
 have hkeep:∀ c j,c≤t.length→t.length - c≤j→(Z30 l t).getD j 0=(Z1q l t c).getD j 0:=fun c j hc hj=>by
  have:=Z163 l t c j hj (t.length - c) (by omega)
  rw [show c + (t.length - c)=t.length by omega] at this
  exact this
 have h1:(Z30 l t).getD i 0=cod (Z4g l (Z1q l t (t.length - i - 1)) ((Z1q l t (t.length - i - 1)).getD i 0)++[co ((Z1q l t (t.length - i - 1)).getD i 0) 6,co ((Z1q l t (t.length - i - 1)).getD i 0) 7,co ((Z1q l t (t.length - i - 1)).getD i 0) 8]):=by
  rw [hkeep (t.length - i - 1 + 1) i (by omega) (by omega),Z97,Z94,Z7p,Ziz,show t.length - 1 - (t.length - i - 1)=i by omega,if_pos ⟨rfl,hi⟩]
 have h2:=hsix i hi
 rw [h1,(Zx8 _ _ _ _ _ _).1] at h2
 rw [← h2]
 have hco:=Zu3 l t i (t.length - i - 1)
 unfold Z4g
 rw [hco.1,hco.2.1,hco.2.2]
 rcases hshp with hlf | hnd
 ·rw [if_pos (by omega),if_pos (by omega)]
 ·rw [if_neg (by omega),if_neg (by omega)]
  rw [← hkeep (t.length - i - 1) (co (t.getD i 0) 6).toNat (by omega) (by omega),← hkeep (t.length - i - 1) (co (t.getD i 0) 7).toNat (by omega) (by omega),hsix _ (by omega),hsix _ (by omega)]
def inC (p q:Int):Prop:=(co q 0≤co p 0∧co q 1≤co p 1∧co q 2≤co p 2)∧(co p 3≤co q 3∧co p 4≤co q 4∧co p 5≤co q 5)
theorem Z1ie {p q:Int}:Z65 [co p 0,co p 1,co p 2,co p 3,co p 4,co p 5,co q 0,co q 1,co q 2,co q 3,co q 4,co q 5]=true↔inC p q:=decide_eq_true_iff
theorem Z1cq (p:Int):inC p p:=by unfold inC; omega
theorem Zqv {p q r:Int} (h:inC p q) (k:inC q r):inC p r:=by unfold inC at *; omega
theorem Zxf {c a b:Int} (h:Z3j c=ex6 (Z8a (Z3j a++Z3j b))):(co c 0=min (co a 0) (co b 0)∧co c 1=min (co a 1) (co b 1)∧co c 2=min (co a 2) (co b 2))∧(co c 3=max (co a 3) (co b 3)∧co c 4=max (co a 4) (co b 4)∧co c 5=max (co a 5) (co b 5)):=by
 have h':[co c 0,co c 1,co c 2,co c 3,co c 4,co c 5]=[min (co a 0) (co b 0),min (co a 1) (co b 1),min (co a 2) (co b 2),max (co a 3) (co b 3),max (co a 4) (co b 4),max (co a 5) (co b 5)]:=h
 simp only [List.cons.injEq,and_true] at h'
 obtain ⟨h0,h1,h2,h3,h4,h5⟩:=h'
 exact ⟨⟨h0,h1,h2⟩,h3,h4,h5⟩
theorem Z1if {b:Int}:okB b=true↔(((-4096≤co b 0∧co b 0≤4096)∧(-4096≤co b 1∧co b 1≤4096)∧(-4096≤co b 2∧co b 2≤4096))∧((-4096≤co b 3∧co b 3≤4096)∧(-4096≤co b 4∧co b 4≤4096)∧(-4096≤co b 5∧co b 5≤4096))∧(co b 0≤co b 3∧co b 1≤co b 4∧co b 2≤co b 5)):=by
 unfold okB
 rw [Z3a]
 rfl
theorem Z164 {a b:Int} (h:Z3j a=Z3j b):okB a=okB b:=by unfold okB; rw [h]
theorem Z165 {a b:Int} {x:List Int} (h:Z3j a=Z3j b):Z1s a x=Z1s b x:=by unfold Z1s Z1be; rw [h]
def Zel (t l:List Int):Prop:=∀ i,i < t.length→Z3j (t.getD i 0)=Z4g l t (t.getD i 0)
theorem Zn9 {t l:List Int} (hB:Zel t l) {i:Nat} (hi:i < t.length) (h6:co (t.getD i 0) 6=-1):Z3j (t.getD i 0)=Z3j (l.getD (itm t i) 0):=by
 rw [hB i hi]
 unfold Z4g itm
 rw [if_pos (by omega)]
theorem Zxg {t l:List Int} (hB:Zel t l) {i m:Nat} (hi:i < t.length) (h6:co (t.getD i 0) 6=(i:Int) + 1) (h7:co (t.getD i 0) 7=(m:Int)):Z3j (t.getD i 0)=ex6 (Z8a (Z3j (t.getD (i + 1) 0)++Z3j (t.getD m 0))):=by
 rw [hB i hi]
 unfold Z4g
 rw [if_neg (by omega),h6,h7,show ((i:Int) + 1).toNat=i + 1 by omega,Int.toNat_natCast]
theorem BT.At.boxOK {t l:List Int} (hB:Zel t l) (hl:∀ x ∈ l,okB x=true):∀ {T:BT} {s e:Nat},T.At t l.length s e→okB (t.getD s 0)=true
 | .leaf i,s,e,h=>by
  obtain ⟨rfl,rfl,h1,h2,h3,h4,h5⟩:=h
  rw [Z164 (Zn9 hB h1 h2)]
  exact hl _ (Z10 (i:=itm t s) (by unfold itm; omega))
 | .node i a b,s,e,h=>by
  obtain ⟨rfl,h1,m,h2,h3,h4,h5,h6⟩:=h
  have k1:=h2.boxOK hB hl
  have k2:=h3.boxOK hB hl
  have hj:=Zxf (Zxg hB h1 h4 h5)
  rw [Z1if] at k1 k2 ⊢
  omega
theorem BT.At.inside {t l:List Int} (hB:Zel t l):∀ {T:BT} {s e:Nat},T.At t l.length s e→∀ i ∈ T.leaves,inC (t.getD i 0) (t.getD s 0)
 | .leaf j,s,e,h,i,hi=>by
  obtain ⟨rfl,_⟩:=h
  simp only [BT.leaves,List.mem_singleton] at hi
  subst hi
  exact Z1cq _
 | .node j a b,s,e,h,i,hi=>by
  obtain ⟨rfl,h1,m,h2,h3,h4,h5,h6⟩:=h
  have hj:=Zxf (Zxg hB h1 h4 h5)
  simp only [BT.leaves,List.mem_append] at hi
  rcases hi with hi | hi
  ·exact Zqv (h2.inside hB i hi) (by unfold inC; omega)
  ·exact Zqv (h3.inside hB i hi) (by unfold inC; omega)
theorem Zxh {xs:List Int} (h:xs.length=20):∃ c0 c1 c2 c3 c4 c5 c6 c7 c8 c9 c10 c11 c12 c13 c14 c15 w0 w1 w2 w3,xs=[c0,c1,c2,c3,c4,c5,c6,c7,c8,c9,c10,c11,c12,c13,c14,c15,w0,w1,w2,w3]:=by
 match xs,h with
 | [c0,c1,c2,c3,c4,c5,c6,c7,c8,c9,c10,c11,c12,c13,c14,c15,w0,w1,w2,w3],_=>exact ⟨_,_,_,_,_,_,_,_,_,_,_,_,_,_,_,_,_,_,_,_,rfl⟩
noncomputable def Z129 (b:Int) (x:List Int):List Int:=x.take 16++(Z3j b++x.drop 16)
theorem Zu6 {b:Int} {x:List Int} (hx:x.length=20) (hw:Z20 x=0) (hb:okB b=true):(Z2h (Z129 b x)).getD 6 0=0∧Z1s b x=Z6s (Z129 b x):=by
 have hc:Z2o x 0=true∧Z1hm x 16 14 15=true:=by
  unfold Z20 at hw
  split at hw
  ·rename_i h1
   split at hw
   ·rename_i h2
    exact ⟨h1,h2⟩
   ·exact absurd hw (by decide)
  ·exact absurd hw (by decide)
 have h1:Z2o (Z129 b x) 0=true:=by
  obtain ⟨c0,c1,c2,c3,c4,c5,c6,c7,c8,c9,c10,c11,c12,c13,c14,c15,w0,w1,w2,w3,rfl⟩:=Zxh hx
  exact hc.1
 have h2:winC (Z129 b x)=true:=by
  obtain ⟨c0,c1,c2,c3,c4,c5,c6,c7,c8,c9,c10,c11,c12,c13,c14,c15,w0,w1,w2,w3,rfl⟩:=Zxh hx
  exact hc.2
 have h3:Z2z (Z129 b x) 16=true:=by
  obtain ⟨c0,c1,c2,c3,c4,c5,c6,c7,c8,c9,c10,c11,c12,c13,c14,c15,w0,w1,w2,w3,rfl⟩:=Zxh hx
  exact hb
 have hS:Z2h (Z129 b x)=if Z6s (Z129 b x)=true then Ze3 (Z129 b x) else z7 0:=by
  unfold Z2h
  rw [if_pos h1,if_pos h3,if_pos h2]
 refine ⟨?_,?_⟩
 ·rw [hS]
  split <;> rfl
 ·unfold Z1s Z1be
  show decide ((Z2h (Z129 b x)).getD 5 0 ≠ 0)=_
  rw [hS]
  cases h:Z6s (Z129 b x) with
  | true=>rfl
  | false=>rfl
theorem Zu7 {b b':Int} {x:List Int} (hx:x.length=20) (hw:Z20 x=0) (hb:okB b=true) (hb':okB b'=true) (hin:inC b b') (hs:Z1s b x=true):Z1s b' x=true:=by
 obtain ⟨h1,h2⟩:=Zu6 hx hw hb
 obtain ⟨h3,h4⟩:=Zu6 hx hw hb'
 rw [h2] at hs
 rw [h4]
 obtain ⟨c0,c1,c2,c3,c4,c5,c6,c7,c8,c9,c10,c11,c12,c13,c14,c15,w0,w1,w2,w3,rfl⟩:=Zxh hx
 exact Zu5 _ _ _ _ _ _ _ _ _ _ _ _ _ _ _ _ _ _ _ _ _ _ _ _ _ _ _ _ _ _ _ _ h1 h3 (Z1ie.2 hin) hs
noncomputable def Z1o (t x:List Int):BT→List Int
 | .leaf i=>if Z1s (t.getD i 0) x=true then [co (t.getD i 0) 8] else []
 | .node i a b=>if Z1s (t.getD i 0) x=true then Z1o t x a++Z1o t x b else []
noncomputable def Zbb (t x:List Int):BT→Int
 | .leaf _=>1
 | .node i a b=>if Z1s (t.getD i 0) x=true then 1 + (Zbb t x a + Zbb t x b) else 1
theorem Z5x (t x:List Int):∀ T:BT,1≤Zbb t x T∧Zbb t x T≤(T.size:Int)
 | .leaf _=>⟨Int.le_refl _,Int.le_refl _⟩
 | .node i a b=>by
  have h1:=Z5x t x a
  have h2:=Z5x t x b
  simp only [Zbb,BT.size]
  split <;> omega
theorem BT.At.cnt {t l x:List Int}:∀ {T:BT} {s e:Nat},T.At t l.length s e→∀ f,T.size≤f→lkN t x f s=Zbb t x T
 | .leaf i,s,e,h,f,hf=>by
  obtain ⟨rfl,rfl,h1,h2,_⟩:=h
  obtain ⟨f,rfl⟩:∃ g,f=g + 1:=⟨f - 1,by simp only [BT.size] at hf; omega⟩
  unfold lkN Zbb
  rw [if_neg (by omega)]
 | .node i a b,s,e,h,f,hf=>by
  obtain ⟨rfl,h1,m,h2,h3,h4,h5,h6⟩:=h
  simp only [BT.size] at hf
  obtain ⟨f,rfl⟩:∃ g,f=g + 1:=⟨f - 1,by omega⟩
  have k1:=h2.cnt (x:=x) f (by omega)
  have k2:=h3.cnt (x:=x) f (by omega)
  have e1:(co (t.getD s 0) 6).toNat=s + 1:=by omega
  have e2:(co (t.getD s 0) 7).toNat=m:=by omega
  unfold lkN Zbb
  rw [e1,e2,k1,k2]
  by_cases hs:Z1s (t.getD s 0) x=true
  ·rw [if_pos ⟨hs,by omega⟩,if_pos hs]
  ·rw [if_neg (fun hh=>hs hh.1),if_neg hs]
theorem BT.At.items {t l x:List Int} (hB:Zel t l) (hl:∀ z ∈ l,okB z=true) (hx:x.length=20) (hw:Z20 x=0):∀ {T:BT} {s e:Nat},T.At t l.length s e→Z1o t x T=(T.leaves.filter fun i=>Z1s (t.getD i 0) x).map fun i=>co (t.getD i 0) 8
 | .leaf i,s,e,h=>by
  unfold Z1o
  simp only [BT.leaves,List.filter_cons,List.filter_nil]
  split <;> rfl
 | .node i a b,s,e,h=>by
  have hall:=h
  obtain ⟨rfl,h1,m,h2,h3,h4,h5,h6⟩:=h
  have k1:=h2.items hB hl hx hw
  have k2:=h3.items hB hl hx hw
  unfold Z1o
  rw [k1,k2]
  by_cases hs:Z1s (t.getD s 0) x=true
  ·rw [if_pos hs,BT.leaves,List.filter_append,List.map_append]
  ·rw [if_neg hs]
   have:(BT.node s a b).leaves.filter (fun i=>Z1s (t.getD i 0) x)=[]:=by
    rw [List.filter_eq_nil_iff]
    intro i hi hsh
    refine hs (Zu7 hx hw ?_ (hall.boxOK hB hl) (hall.inside hB i hi) hsh)
    have hlf:=hall.leaf_in i hi
    have hil:i < t.length:=by have:=hall.le.2.2; omega
    rw [Z164 (Zn9 hB hil hlf.2.2.2.2)]
    exact hl _ (Z10 (i:=itm t i) (by unfold itm; omega))
   rw [this]
   rfl
end Go.Proofs.YtgcoidbaoigkeaaGreatDoor.fix
namespace Go.Proofs.YtgcoidbaoigkeaaGreatDoor.fix
open Go.RowKit Go.Sx
theorem Za9 {l x:List Int} {z:Int}:∀ n,z ∈ Z3k l x n↔∃ j:Nat,j < n∧z=(j:Int)∧Z1s (l.getD j 0) x=true
 | 0=>by simp [Z3k]
 | n + 1=>by
  have ih:=@Za9 l x z n
  rw [Zeg]
  split
  ·rename_i h
   rw [List.mem_append,ih,List.mem_singleton]
   constructor
   ·rintro (⟨j,h1,h2,h3⟩ | rfl)
    ·exact ⟨j,by omega,h2,h3⟩
    ·exact ⟨n,by omega,rfl,h⟩
   ·rintro ⟨j,h1,h2,h3⟩
    by_cases hj:j=n
    ·subst hj
     exact .inr h2
    ·exact .inl ⟨j,by omega,h2,h3⟩
  ·rename_i h
   rw [ih]
   constructor
   ·rintro ⟨j,h1,h2,h3⟩
    exact ⟨j,by omega,h2,h3⟩
   ·rintro ⟨j,h1,h2,h3⟩
    have hj:j ≠ n:=fun e=>by subst e; exact h h3
    exact ⟨j,by omega,h2,h3⟩
theorem Zcr (l x:List Int):∀ n,(Z3k l x n).Pairwise (· < ·)
 | 0=>List.Pairwise.nil
 | n + 1=>by
  rw [Zeg]
  split
  ·rw [List.pairwise_append]
   refine ⟨Zcr l x n,List.pairwise_singleton _ _,fun a ha b hb=>?_⟩
   obtain ⟨j,h1,h2,_⟩:=(Za9 n).1 ha
   rw [List.mem_singleton] at hb
   omega
  ·exact Zcr l x n
theorem Z1cr (l:List Int):(Z7m l).Pairwise (·≤·):=by
 have:=List.pairwise_mergeSort (le:=fun x y:Int=>decide (x≤y)) (by intro a b c; simp only [Z1ks]; omega) (by intro a b; simp only [Bool.or_eq_true,Z1ks]; omega) l
 exact this.imp (fun h=>of_decide_eq_true h)
theorem Z1cs {t l x:List Int} (hB:Zel t l) (hl:∀ z ∈ l,okB z=true) (hx:x.length=20) (hw:Z20 x=0) {T:BT} (hT:T.At t l.length 0 t.length) (hnd:(T.leaves.map (itm t)).Nodup)
  (hlt:∀ k ∈ T.leaves.map (itm t),k < l.length) (hall:∀ k,k < l.length→k ∈ T.leaves.map (itm t)):Z7m (Z1o t x T)=Z3k l x l.length:=by
 have hitm:∀ i ∈ T.leaves,co (t.getD i 0) 8=(itm t i:Int):=fun i hi=>by
  have:=hT.leaf_in i hi
  unfold itm
  omega
 have hshow:∀ i ∈ T.leaves,Z1s (t.getD i 0) x=Z1s (l.getD (itm t i) 0) x:=fun i hi=>by
  have:=hT.leaf_in i hi
  exact Z165 (Zn9 hB (by omega) this.2.2.2.2)
 have h1:Z1o t x T=((T.leaves.filter fun i=>Z1s (t.getD i 0) x).map (itm t)).map fun k:Nat=>(k:Int):=by
  rw [hT.items hB hl hx hw,List.map_map]
  refine List.map_congr_left fun i hi=>hitm i (List.mem_filter.1 hi).1
 have hperm:(Z7m (Z1o t x T)).Perm (Z3k l x l.length):=by
  refine (List.mergeSort_perm _ _).trans ?_
  rw [List.perm_ext_iff_of_nodup]
  ·intro z
   rw [Za9,h1]
   simp only [List.mem_map,List.mem_filter]
   constructor
   ·rintro ⟨k,⟨i,⟨hi,hs⟩,rfl⟩,rfl⟩
    exact ⟨itm t i,hlt _ (List.mem_map_of_mem hi),rfl,by rw [← hshow i hi]; exact hs⟩
   ·rintro ⟨j,hj,rfl,hs⟩
    obtain ⟨i,hi,rfl⟩:=List.mem_map.1 (hall j hj)
    exact ⟨_,⟨i,⟨hi,by rw [hshow i hi]; exact hs⟩,rfl⟩,rfl⟩
  ·rw [h1]
   have h2:((T.leaves.filter fun i=>Z1s (t.getD i 0) x).map (itm t)).Nodup:=hnd.sublist (List.filter_sublist.map _)
   exact List.Pairwise.map _ (fun a b hab h=>hab (by omega)) h2
  ·exact (Zcr l x _).imp (fun h=>by omega)
 refine List.Perm.eq_of_pairwise (le:=(·≤·)) (fun a b _ _ h1 h2=>by omega) (Z1cr _) ((Zcr l x _).imp fun h=>by omega) hperm
def Z2k (F:List BT):List Int:=(F.map fun T=>(T.root:Int)).reverse
noncomputable def Zl6 (t x:List Int):List BT→Int
 | []=>0
 | T::F=>Zbb t x T + Zl6 t x F
theorem Z5y (t x:List Int):∀ F:List BT,(F.length:Int)≤Zl6 t x F
 | []=>Int.le_refl _
 | T::F=>by
  have h1:=(Z5x t x T).1
  have h2:=Z5y t x F
  simp only [List.length_cons,Zl6]
  omega
theorem Zbc (t x:List Int):∀ T:BT,(Z1o t x T).length≤T.size
 | .leaf i=>by
  simp only [Z1o,BT.size]
  split <;> simp
 | .node i a b=>by
  have h1:=Zbc t x a
  have h2:=Zbc t x b
  simp only [Z1o,BT.size]
  split
  ·rw [List.length_append]; omega
  ·simp
theorem Z29 (T:BT) (F:List BT):Z2k (T::F)=Z2k F++[(T.root:Int)]:=by simp [Z2k]
theorem Z2f (F:List BT):(Z2k F).length=F.length:=by simp [Z2k]
theorem Zl7 {t l x:List Int} (hC:Zob t l=0) (hA:Z80 l x=0) (hx:x.length=20) (ht:t.length≤1000):∃ F:List BT,Z2k F=(if 0 < t.length then [0] else [])∧(∀ T ∈ F,∃ s e,T.At t l.length s e)∧Z7m (F.flatMap (Z1o t x))=Z3k l x l.length∧(F.flatMap (Z1o t x)).length≤1000∧Zl6 t x F=Zti t x∧Zl6 t x F≤t.length:=by
 obtain ⟨hb,hsh,hB⟩:=Z1cp hC
 have hlen:=Zek hsh
 have hl:∀ z ∈ l,okB z=true:=by
  unfold Z80 at hA
  split at hA
  ·split at hA
   ·rename_i h
    exact List.all_eq_true.1 h
   ·exact absurd hA (by decide)
  ·exact absurd hA (by decide)
 have hw:Z20 x=0:=by
  unfold Z80 at hA
  split at hA
  ·split at hA
   ·exact hA
   ·exact absurd hA (by decide)
  ·exact absurd hA (by decide)
 by_cases h0:0 < t.length
 ·obtain ⟨T,h1,h2,h3,h4⟩:=Zix hsh (by omega)
  have e1:=h1.le
  have hc:=Z5x t x T
  have hi:=Zbc t x T
  refine ⟨[T],?_,?_,?_,?_,?_,?_⟩
  ·rw [if_pos h0,Z29,e1.2.1]
   rfl
  ·intro T' hT'
   rw [List.mem_singleton] at hT'
   subst hT'
   exact ⟨_,_,h1⟩
  ·simp only [List.flatMap_cons,List.flatMap_nil,List.append_nil]
   exact Z1cs hB hl hx hw h1 h2 (fun k hk=>by have:=h3 k hk; omega) (fun k hk=>h4 k (by omega))
  ·simp only [List.flatMap_cons,List.flatMap_nil,List.append_nil]
   omega
  ·simp only [Zl6]
   unfold Zti
   rw [if_neg (by omega),h1.cnt t.length (by omega)]
   omega
  ·simp only [Zl6]
   omega
 ·have hl0:l.length=0:=by omega
  have ht0:t.length=0:=by omega
  refine ⟨[],(by rw [if_neg h0]; rfl),(fun T hT=>(by cases hT)),?_,(by simp),?_,(by simp [Zl6])⟩
  ·rw [hl0]
   simp [Z7m,Z3k]
  ·unfold Zti
   rw [if_pos ht0]
   rfl
end Go.Proofs.YtgcoidbaoigkeaaGreatDoor.fix
namespace Go.Proofs.YtgcoidbaoigkeaaGreatDoor.fix
open Go.RowKit Go.Sx
theorem Z1ct:Zmr.okA Tryz.prog:=Z1bf ⟨Tryz.slices_Sort_int,Tryz.slices_Sort_int_none⟩
theorem Z166:Z1g Zmr Z14k:=⟨fun xs h=>trivial,fun vs xs h hp=>Z1 trivial Z4⟩
theorem Z1fw {xs:List Int} (h:xs.length=22):∃ a b c0 c1 c2 c3 c4 c5 c6 c7 c8 c9 c10 c11 c12 c13 c14 c15 w0 w1 w2 w3,xs=[a,b,c0,c1,c2,c3,c4,c5,c6,c7,c8,c9,c10,c11,c12,c13,c14,c15,w0,w1,w2,w3]:=by
 match xs,h with
 | [a,b,c0,c1,c2,c3,c4,c5,c6,c7,c8,c9,c10,c11,c12,c13,c14,c15,w0,w1,w2,w3],_=>exact ⟨_,_,_,_,_,_,_,_,_,_,_,_,_,_,_,_,_,_,_,_,_,_,rfl⟩
theorem Zqw {t x:List Int} {T:BT} (h:¬ Z1s (t.getD T.root 0) x=true):Z1o t x T=[]∧Zbb t x T=1:=by
 cases T with
 | leaf i=>exact ⟨by unfold Z1o; exact if_neg h,rfl⟩
 | node i a b=>exact ⟨by unfold Z1o; exact if_neg h,by unfold Zbb; exact if_neg h⟩
noncomputable def Zxi:List Sum:=[Zg8,Zg5,Zg4,Zmr]
def Z1fx:List Inf:=[Zwj,Zwd,Zwb,Z14k]
def Z1fy:TX:=(.call 0 [(.v 0),(.v 1)] (.ite (.not (.eq (.v 22) (.c 0))) (.ret [.nl,(.c 0),(.v 22)])
(.call 1 [(.v 1),(.v 2),(.v 3),(.v 4),(.v 5),(.v 6),(.v 7),(.v 8),(.v 9),(.v 10),(.v 11),(.v 12),(.v 13),(.v 14),(.v 15),(.v 16),(.v 17),(.v 18),(.v 19),(.v 20),(.v 21)] (.ite (.not (.eq (.v 23) (.c 0))) (.ret [.nl,(.c 0),(.v 23)])
(.ite (.lt (.c 0) (.ln (.v 0))) (.loop 3 [none,none,none] [.nl,(.c 0),(.l2 .snoc .nl (.c 0))] (.ite (.lt (.c 0) (.ln (.v 26))) (.asrt (.le (.c 0) (.wr .i64 (.sub (.ln (.v 26)) (.c 1)))) (.asrt (.lt (.wr .i64 (.sub (.ln (.v 26)) (.c 1))) (.ln (.v 26))) (.asrt (.le (.c 0) (.l2 .at (.v 26) (.wr .i64 (.sub (.ln (.v 26)) (.c 1))))) (.asrt (.lt (.l2 .at (.v 26) (.wr .i64 (.sub (.ln (.v 26)) (.c 1)))) (.ln (.v 0))) (.asrt (.le (.wr .i64 (.sub (.ln (.v 26)) (.c 1))) (.ln (.v 26))) (.call 2 [(.v 2),(.v 3),(.v 4),(.v 5),(.v 6),(.v 7),(.v 8),(.v 9),(.v 10),(.v 11),(.v 12),(.v 13),(.v 14),(.v 15),(.v 16),(.v 17),(.l2 .at (.l2 .at (.v 0) (.l2 .at (.v 26) (.wr .i64 (.sub (.ln (.v 26)) (.c 1))))) (.c 0)),(.l2 .at (.l2 .at (.v 0) (.l2 .at (.v 26) (.wr .i64 (.sub (.ln (.v 26)) (.c 1))))) (.c 1)),(.l2 .at (.l2 .at (.v 0) (.l2 .at (.v 26) (.wr .i64 (.sub (.ln (.v 26)) (.c 1))))) (.c 2)),(.l2 .at (.l2 .at (.v 0) (.l2 .at (.v 26) (.wr .i64 (.sub (.ln (.v 26)) (.c 1))))) (.c 3)),(.l2 .at (.l2 .at (.v 0) (.l2 .at (.v 26) (.wr .i64 (.sub (.ln (.v 26)) (.c 1))))) (.c 4)),(.l2 .at (.l2 .at (.v 0) (.l2 .at (.v 26) (.wr .i64 (.sub (.ln (.v 26)) (.c 1))))) (.c 5)),(.v 18),(.v 19),(.v 20),(.v 21)] (.ite (.eq (.v 32) (.c 0)) (.back 0 [(.v 24),(.wr .i64 (.add (.v 25) (.c 1))),(.l2 .take (.v 26) (.wr .i64 (.sub (.ln (.v 26)) (.c 1))))])
(.ite (.lt (.l2 .at (.l2 .at (.v 0) (.l2 .at (.v 26) (.wr .i64 (.sub (.ln (.v 26)) (.c 1))))) (.c 6)) (.c 0)) (.asrt (.le (.ln (.l2 .snoc (.v 24) (.l2 .at (.l2 .at (.v 0) (.l2 .at (.v 26) (.wr .i64 (.sub (.ln (.v 26)) (.c 1))))) (.c 8)))) (.c 1000000)) (.back 0 [(.l2 .snoc (.v 24) (.l2 .at (.l2 .at (.v 0) (.l2 .at (.v 26) (.wr .i64 (.sub (.ln (.v 26)) (.c 1))))) (.c 8))),(.wr .i64 (.add (.v 25) (.c 1))),(.l2 .take (.v 26) (.wr .i64 (.sub (.ln (.v 26)) (.c 1))))]))
(.asrt (.le (.ln (.l2 .snoc (.l2 .snoc (.l2 .take (.v 26) (.wr .i64 (.sub (.ln (.v 26)) (.c 1)))) (.l2 .at (.l2 .at (.v 0) (.l2 .at (.v 26) (.wr .i64 (.sub (.ln (.v 26)) (.c 1))))) (.c 7))) (.l2 .at (.l2 .at (.v 0) (.l2 .at (.v 26) (.wr .i64 (.sub (.ln (.v 26)) (.c 1))))) (.c 6)))) (.c 1000000)) (.back 0 [(.v 24),(.wr .i64 (.add (.v 25) (.c 1))),(.l2 .snoc (.l2 .snoc (.l2 .take (.v 26) (.wr .i64 (.sub (.ln (.v 26)) (.c 1)))) (.l2 .at (.l2 .at (.v 0) (.l2 .at (.v 26) (.wr .i64 (.sub (.ln (.v 26)) (.c 1))))) (.c 7))) (.l2 .at (.l2 .at (.v 0) (.l2 .at (.v 26) (.wr .i64 (.sub (.ln (.v 26)) (.c 1))))) (.c 6)))]))))))))))
(.asrt (.le (.ln (.v 24)) (.c 1000000)) (.callp 3 [(.v 24)] (.ret [(.v 27),(.v 25),(.c 0)])))))
(.loop 3 [none,none,none] [.nl,(.c 0),.nl] (.ite (.lt (.c 0) (.ln (.v 26))) (.asrt (.le (.c 0) (.wr .i64 (.sub (.ln (.v 26)) (.c 1)))) (.asrt (.lt (.wr .i64 (.sub (.ln (.v 26)) (.c 1))) (.ln (.v 26))) (.asrt (.le (.c 0) (.l2 .at (.v 26) (.wr .i64 (.sub (.ln (.v 26)) (.c 1))))) (.asrt (.lt (.l2 .at (.v 26) (.wr .i64 (.sub (.ln (.v 26)) (.c 1)))) (.ln (.v 0))) (.asrt (.le (.wr .i64 (.sub (.ln (.v 26)) (.c 1))) (.ln (.v 26))) (.call 2 [(.v 2),(.v 3),(.v 4),(.v 5),(.v 6),(.v 7),(.v 8),(.v 9),(.v 10),(.v 11),(.v 12),(.v 13),(.v 14),(.v 15),(.v 16),(.v 17),(.l2 .at (.l2 .at (.v 0) (.l2 .at (.v 26) (.wr .i64 (.sub (.ln (.v 26)) (.c 1))))) (.c 0)),(.l2 .at (.l2 .at (.v 0) (.l2 .at (.v 26) (.wr .i64 (.sub (.ln (.v 26)) (.c 1))))) (.c 1)),(.l2 .at (.l2 .at (.v 0) (.l2 .at (.v 26) (.wr .i64 (.sub (.ln (.v 26)) (.c 1))))) (.c 2)),(.l2 .at (.l2 .at (.v 0) (.l2 .at (.v 26) (.wr .i64 (.sub (.ln (.v 26)) (.c 1))))) (.c 3)),(.l2 .at (.l2 .at (.v 0) (.l2 .at (.v 26) (.wr .i64 (.sub (.ln (.v 26)) (.c 1))))) (.c 4)),(.l2 .at (.l2 .at (.v 0) (.l2 .at (.v 26) (.wr .i64 (.sub (.ln (.v 26)) (.c 1))))) (.c 5)),(.v 18),(.v 19),(.v 20),(.v 21)] (.ite (.eq (.v 32) (.c 0)) (.back 0 [(.v 24),(.wr .i64 (.add (.v 25) (.c 1))),(.l2 .take (.v 26) (.wr .i64 (.sub (.ln (.v 26)) (.c 1))))])
(.ite (.lt (.l2 .at (.l2 .at (.v 0) (.l2 .at (.v 26) (.wr .i64 (.sub (.ln (.v 26)) (.c 1))))) (.c 6)) (.c 0)) (.asrt (.le (.ln (.l2 .snoc (.v 24) (.l2 .at (.l2 .at (.v 0) (.l2 .at (.v 26) (.wr .i64 (.sub (.ln (.v 26)) (.c 1))))) (.c 8)))) (.c 1000000)) (.back 0 [(.l2 .snoc (.v 24) (.l2 .at (.l2 .at (.v 0) (.l2 .at (.v 26) (.wr .i64 (.sub (.ln (.v 26)) (.c 1))))) (.c 8))),(.wr .i64 (.add (.v 25) (.c 1))),(.l2 .take (.v 26) (.wr .i64 (.sub (.ln (.v 26)) (.c 1))))]))
(.asrt (.le (.ln (.l2 .snoc (.l2 .snoc (.l2 .take (.v 26) (.wr .i64 (.sub (.ln (.v 26)) (.c 1)))) (.l2 .at (.l2 .at (.v 0) (.l2 .at (.v 26) (.wr .i64 (.sub (.ln (.v 26)) (.c 1))))) (.c 7))) (.l2 .at (.l2 .at (.v 0) (.l2 .at (.v 26) (.wr .i64 (.sub (.ln (.v 26)) (.c 1))))) (.c 6)))) (.c 1000000)) (.back 0 [(.v 24),(.wr .i64 (.add (.v 25) (.c 1))),(.l2 .snoc (.l2 .snoc (.l2 .take (.v 26) (.wr .i64 (.sub (.ln (.v 26)) (.c 1)))) (.l2 .at (.l2 .at (.v 0) (.l2 .at (.v 26) (.wr .i64 (.sub (.ln (.v 26)) (.c 1))))) (.c 7))) (.l2 .at (.l2 .at (.v 0) (.l2 .at (.v 26) (.wr .i64 (.sub (.ln (.v 26)) (.c 1))))) (.c 6)))]))))))))))
(.asrt (.le (.ln (.v 24)) (.c 1000000)) (.callp 3 [(.v 24)] (.ret [(.v 27),(.v 25),(.c 0)]))))))))))
theorem Z167:Z12 (Zr [] Z1fx [] Zga (Zq Tryz.prog (Z5u Tryz.prog [(10,35)]) gl0 Zxi 1000 42 [Tr,Bs,An 16,An 4] [Is,I1,I1]))=Z1fy:=by kernel_rfl
theorem g_look:Gok Tryz.prog Zxi:=(more Z15z (more Z15j (more Z15i (fix.oneA Z1ct))))
theorem o_look:Zj Zxi Z1fx:=(Z2 Z10v (Z2 Z10o (Z2 Z10n (Z2 Z166 Z8))))
theorem Z1ig:Z14l.ok Tryz.prog:=Sum.okPF (pin:=Zga) facts.mixed g_look o_look Z167 rfl (fun _=>rfl) (fun xs h=>h.1) (by
 intro xs hx hp
 obtain ⟨a,b,c0,c1,c2,c3,c4,c5,c6,c7,c8,c9,c10,c11,c12,c13,c14,c15,w0,w1,w2,w3,rfl⟩:=Z1fw hx
 have hv:=hp.1
 have hlen:=hp.2.1
 have hel1:=hp.2.2.1
 have hel2:=hp.2.2.2
 have hpre:Zl1 [a,b]:=⟨Zp (n:=2) rfl,hp.2⟩
 have hpreA:Zkx [b,c0,c1,c2,c3,c4,c5,c6,c7,c8,c9,c10,c11,c12,c13,c14,c15,w0,w1,w2,w3]:=⟨Z1 trivial (Z1 (hv.2 2) (Z1 (hv.2 3) (Z1 (hv.2 4) (Z1 (hv.2 5) (Z1 (hv.2 6) (Z1 (hv.2 7) (Z1 (hv.2 8) (Z1 (hv.2 9) (Z1 (hv.2 10) (Z1 (hv.2 11) (Z1 (hv.2 12) (Z1 (hv.2 13) (Z1 (hv.2 14) (Z1 (hv.2 15) (Z1 (hv.2 16) (Z1 (hv.2 17) (Z1 (hv.2 18) (Z1 (hv.2 19) (Z1 (hv.2 20) (Z1 (hv.2 21) Z4)))))))))))))))))))),hel2⟩
 clear hp
 simp only [Z1kg,Z1kh] at hlen hel1 hel2
 simp only [Z1fy,Zxi,Zg8,Zg5,Zg4,Zmr,Z14a,TX.sat,XB.prop,X.den,Z1kk,Z1kl,Z1ke,Z1kf,Z1ki,Z1kj,Z1kg,Z1kh,mkS,mkP,and_true,true_and,Z1kp,Z1kq,not_or,not_and,Z1km,ne_eq,Z1kn,Z1ko,Zec,Ze5,Zg9,Z4z,Zwf,ex7,L2.den,List.drop_succ_cons,List.drop_zero]
 refine ⟨hpre,?_⟩
 clear hpre
 generalize dec a=t at hlen hel1 ⊢
 generalize hlb:dec b=l at hlen hel2 ⊢
 have hL:∀ y:List Int,Zan t l y=if Z8b t l y=0 then [cod (Z3k l y l.length),Zti t y,0] else [cod [],0,Z8b t l y]:=fun _=>rfl
 refine ⟨fun hE=>?_,fun hC=>?_⟩
 ·have:Z8b t l [c0,c1,c2,c3,c4,c5,c6,c7,c8,c9,c10,c11,c12,c13,c14,c15,w0,w1,w2,w3]=Zob t l:=by unfold Z8b; rw [if_neg hE]
  rw [hL,this,if_neg hE]
  rfl
 refine ⟨hpreA,fun hE=>?_,fun hA=>?_⟩
 ·have:Z8b t l [c0,c1,c2,c3,c4,c5,c6,c7,c8,c9,c10,c11,c12,c13,c14,c15,w0,w1,w2,w3]=Z80 l [c0,c1,c2,c3,c4,c5,c6,c7,c8,c9,c10,c11,c12,c13,c14,c15,w0,w1,w2,w3]:=by unfold Z8b; rw [if_pos hC]
  rw [hL,this,if_neg hE]
  rfl
 have hlk:Z8b t l [c0,c1,c2,c3,c4,c5,c6,c7,c8,c9,c10,c11,c12,c13,c14,c15,w0,w1,w2,w3]=0:=by unfold Z8b; rw [if_pos hC]; exact hA
 rw [hL,if_pos hlk]
 simp only [TX.sat,XB.prop,X.den,Z1kk,Z1kl,Z1ke,Z1kf,Z1ki,Z1kj,Z1kg,Z1kh,mkS,mkP,and_true,true_and,Z1kp,Z1kq,not_or,not_and,Z1km,ne_eq,Z1kn,Z1ko]
 obtain ⟨F0,hF1,hF2,hF3,hF4,hF5,hF6⟩:=Zl7 hC hA rfl hlen.1
 clear hpreA hL hlk
 obtain ⟨X,hX⟩:∃ X:List Int,X=[c0,c1,c2,c3,c4,c5,c6,c7,c8,c9,c10,c11,c12,c13,c14,c15,w0,w1,w2,w3]:=⟨_,rfl⟩
 rw [← hX] at hF3 hF4 hF5 hF6 ⊢
 have hsh:∀ b':Int,Z2h [c0,c1,c2,c3,c4,c5,c6,c7,c8,c9,c10,c11,c12,c13,c14,c15,co b' 0,co b' 1,co b' 2,co b' 3,co b' 4,co b' 5,w0,w1,w2,w3]=Z1be b' X:=fun _=>by rw [hX]; rfl
 refine ⟨fun h0=>?_,fun h0=>?_⟩
 ·rw [if_pos (by omega)] at hF1
  have hini:dec (cod (dec (cod [])++[0]))=Z2k F0:=by rw [hF1]; simp [Z3]
  refine ⟨fun xs=>∃ F:List BT,dec (xs.getD 2 0)=Z2k F∧(∀ T ∈ F,∃ s e,T.At t l.length s e)∧dec (xs.getD 0 0)++F.flatMap (Z1o t X)=F0.flatMap (Z1o t X)∧xs.getD 1 0 + Zl6 t X F=Zl6 t X F0∧0≤xs.getD 1 0,fun xs=>(Zl6 t X F0 - xs.getD 1 0).toNat,fun xs hx _=>Zp (n:=3) hx,⟨F0,hini,hF2,by simp [Z3],by simp,by simp⟩,?_⟩
  intro xs hx hI
  obtain ⟨d0,d1,d2,rfl⟩:=len3 hx
  obtain ⟨F,hf1,hf2,hf3,hf4,hf5⟩:=hI
  simp only [Z1kg,Z1kh,Z1ki,Z1kj] at hf1 hf3 hf4 hf5 ⊢
  have hco:∀ x j,(dec x).getD j 0=co x j:=fun _ _=>rfl
  simp only [hf1]
  have hcl:=Z5y t X F
  have hcl0:=Z5y t X F0
  have hil:(dec d0).length≤1000:=by
   have:=congrArg List.length hf3
   rw [List.length_append] at this
   omega
  refine ⟨fun hlt=>?_,fun hge=>?_⟩
  ·cases F with
   | nil=>simp [Z2k] at hlt
   | cons T F =>
    obtain ⟨s,e,hT⟩:=hf2 T (List.mem_cons_self ..)
    have e1:=hT.le
    have hsz:=T.size_leaves
    have hrl:(Z2k (T::F)).length=F.length + 1:=by rw [Z2f]; rfl
    have hw:IntKind.i64.wrap (((Z2k (T::F)).length:Int) - 1)=(F.length:Int):=by
     simp only [List.length_cons] at hcl
     rw [hrl,Zf (by omega) (by omega)]
     omega
    have hget:(Z2k (T::F)).getD F.length 0=(s:Int):=by
     rw [Z29,e1.2.1,show F.length=(Z2k F++[(s:Int)]).length - 1 by simp [Z2f]]
     exact Z6u _ _
    have htake:(Z2k (T::F)).take F.length=Z2k F:=by
     rw [Z29,← Z2f F]
     simp
    have hw1:IntKind.i64.wrap (d1 + 1)=d1 + 1:=Zf (by omega) (by omega)
    simp only [hw,hw1,Int.toNat_natCast,hget,htake,hco,Z3,show Int.toNat 0=0 from rfl,show Int.toNat 1=1 from rfl,show Int.toNat 2=2 from rfl,show Int.toNat 3=3 from rfl,show Int.toNat 4=4 from rfl,show Int.toNat 5=5 from rfl,show Int.toNat 6=6 from rfl,show Int.toNat 7=7 from rfl,show Int.toNat 8=8 from rfl,hsh]
    have hzz:=Z1t (hel1 _ (Z10 (l:=t) (i:=s) (by omega)))
    have z0:Ze zz (co (t.getD s 0) 0):=hzz.2 0
    have z1:Ze zz (co (t.getD s 0) 1):=hzz.2 1
    have z2:Ze zz (co (t.getD s 0) 2):=hzz.2 2
    have z3:Ze zz (co (t.getD s 0) 3):=hzz.2 3
    have z4:Ze zz (co (t.getD s 0) 4):=hzz.2 4
    have z5:Ze zz (co (t.getD s 0) 5):=hzz.2 5
    simp only [List.flatMap_cons,Zl6] at hf3 hf4 hcl
    have hclF:=Z5y t X F
    have hF0n:(0:Int)≤F.length:=Int.natCast_nonneg _
    have hfF:∀ T' ∈ F,∃ s e,T'.At t l.length s e:=fun T' h'=>hf2 T' (List.mem_cons_of_mem _ h')
    refine ⟨by omega,by omega,by omega,by omega,by omega,Z1 (hv.2 2) (Z1 (hv.2 3) (Z1 (hv.2 4) (Z1 (hv.2 5) (Z1 (hv.2 6) (Z1 (hv.2 7) (Z1 (hv.2 8) (Z1 (hv.2 9) (Z1 (hv.2 10) (Z1 (hv.2 11) (Z1 (hv.2 12) (Z1 (hv.2 13) (Z1 (hv.2 14) (Z1 (hv.2 15) (Z1 (hv.2 16) (Z1 (hv.2 17) (Z1 z0 (Z1 z1 (Z1 z2 (Z1 z3 (Z1 z4 (Z1 z5 (Z1 (hv.2 18) (Z1 (hv.2 19) (Z1 (hv.2 20) (Z1 (hv.2 21) Z4))))))))))))))))))))))))),fun hhid=>?_,fun hshow=>?_⟩
    ·have hno:¬ Z1s (t.getD s 0) X=true:=by simp only [Z1s,Z1ks]; exact fun hh=>hh hhid
     obtain ⟨k1,k2⟩:=Zqw (T:=T) (t:=t) (x:=X) (by rw [e1.2.1]; exact hno)
     rw [k1] at hf3
     rw [k2] at hf4
     exact ⟨⟨F,rfl,hfF,hf3,by omega,by omega⟩,by omega⟩
    ·have hyes:Z1s (t.getD s 0) X=true:=by simp only [Z1s,Z1ks]; exact hshow
     cases T with
     | leaf i =>
      obtain ⟨rfl,rfl,g1,g2,g3,g4,g5⟩:=hT
      simp only [Z1o,Zbb,hyes,if_true] at hf3 hf4
      refine ⟨fun _=>⟨by simp only [List.length_append,List.length_cons,List.length_nil]; omega,⟨F,rfl,hfF,by rw [List.append_assoc]; exact hf3,by omega,by omega⟩,by omega⟩,fun hh=>by omega⟩
     | node i p q =>
      obtain ⟨rfl,g1,m,g2,g3,g4,g5,g6⟩:=hT
      have q1:=g2.le
      have q2:=g3.le
      have n1:=(Z5x t X p).1
      have n2:=(Z5x t X q).1
      simp only [Z1o,Zbb,hyes,if_true] at hf3 hf4 hcl
      refine ⟨fun hh=>by omega,fun _=>⟨by simp only [List.length_append,List.length_cons,List.length_nil,Z2f]; omega,⟨p::q::F,?_,?_,?_,?_,by omega⟩,by omega⟩⟩
      ·rw [Z29,Z29,q1.2.1,q2.2.1,g4,g5]
       rfl
      ·intro T' h'
       rcases List.mem_cons.1 h' with rfl | h'
       ·exact ⟨_,_,g2⟩
       ·rcases List.mem_cons.1 h' with rfl | h'
        ·exact ⟨_,_,g3⟩
        ·exact hfF T' h'
      ·simp only [List.flatMap_cons]
       rw [← hf3,List.append_assoc]
      ·simp only [Zl6]
       omega
  ·have hF:F=[]:=List.eq_nil_of_length_eq_zero (by rw [Z2f] at hge; omega)
   subst hF
   simp only [List.flatMap_nil,List.append_nil,Zl6] at hf3 hf4
   refine ⟨by omega,?_⟩
   rw [hf3,hF3,← hF5,← hf4,Int.add_zero]
 ·rw [if_neg (by omega)] at hF1
  have hini:dec (cod [])=Z2k F0:=by rw [hF1]; simp [Z3]
  refine ⟨fun xs=>∃ F:List BT,dec (xs.getD 2 0)=Z2k F∧(∀ T ∈ F,∃ s e,T.At t l.length s e)∧dec (xs.getD 0 0)++F.flatMap (Z1o t X)=F0.flatMap (Z1o t X)∧xs.getD 1 0 + Zl6 t X F=Zl6 t X F0∧0≤xs.getD 1 0,fun xs=>(Zl6 t X F0 - xs.getD 1 0).toNat,fun xs hx _=>Zp (n:=3) hx,⟨F0,hini,hF2,by simp [Z3],by simp,by simp⟩,?_⟩
  intro xs hx hI
  obtain ⟨d0,d1,d2,rfl⟩:=len3 hx
  obtain ⟨F,hf1,hf2,hf3,hf4,hf5⟩:=hI
  simp only [Z1kg,Z1kh,Z1ki,Z1kj] at hf1 hf3 hf4 hf5 ⊢
  have hco:∀ x j,(dec x).getD j 0=co x j:=fun _ _=>rfl
  simp only [hf1]
  have hcl:=Z5y t X F
  have hcl0:=Z5y t X F0
  have hil:(dec d0).length≤1000:=by
   have:=congrArg List.length hf3
   rw [List.length_append] at this
   omega
  refine ⟨fun hlt=>?_,fun hge=>?_⟩
  ·cases F with
   | nil=>simp [Z2k] at hlt
   | cons T F =>
    obtain ⟨s,e,hT⟩:=hf2 T (List.mem_cons_self ..)
    have e1:=hT.le
    have hsz:=T.size_leaves
    have hrl:(Z2k (T::F)).length=F.length + 1:=by rw [Z2f]; rfl
    have hw:IntKind.i64.wrap (((Z2k (T::F)).length:Int) - 1)=(F.length:Int):=by
     simp only [List.length_cons] at hcl
     rw [hrl,Zf (by omega) (by omega)]
     omega
    have hget:(Z2k (T::F)).getD F.length 0=(s:Int):=by
     rw [Z29,e1.2.1,show F.length=(Z2k F++[(s:Int)]).length - 1 by simp [Z2f]]
     exact Z6u _ _
    have htake:(Z2k (T::F)).take F.length=Z2k F:=by
     rw [Z29,← Z2f F]
     simp
    have hw1:IntKind.i64.wrap (d1 + 1)=d1 + 1:=Zf (by omega) (by omega)
    simp only [hw,hw1,Int.toNat_natCast,hget,htake,hco,Z3,show Int.toNat 0=0 from rfl,show Int.toNat 1=1 from rfl,show Int.toNat 2=2 from rfl,show Int.toNat 3=3 from rfl,show Int.toNat 4=4 from rfl,show Int.toNat 5=5 from rfl,show Int.toNat 6=6 from rfl,show Int.toNat 7=7 from rfl,show Int.toNat 8=8 from rfl,hsh]
    have hzz:=Z1t (hel1 _ (Z10 (l:=t) (i:=s) (by omega)))
    have z0:Ze zz (co (t.getD s 0) 0):=hzz.2 0
    have z1:Ze zz (co (t.getD s 0) 1):=hzz.2 1
    have z2:Ze zz (co (t.getD s 0) 2):=hzz.2 2
    have z3:Ze zz (co (t.getD s 0) 3):=hzz.2 3
    have z4:Ze zz (co (t.getD s 0) 4):=hzz.2 4
    have z5:Ze zz (co (t.getD s 0) 5):=hzz.2 5
    simp only [List.flatMap_cons,Zl6] at hf3 hf4 hcl
    have hclF:=Z5y t X F
    have hF0n:(0:Int)≤F.length:=Int.natCast_nonneg _
    have hfF:∀ T' ∈ F,∃ s e,T'.At t l.length s e:=fun T' h'=>hf2 T' (List.mem_cons_of_mem _ h')
    refine ⟨by omega,by omega,by omega,by omega,by omega,Z1 (hv.2 2) (Z1 (hv.2 3) (Z1 (hv.2 4) (Z1 (hv.2 5) (Z1 (hv.2 6) (Z1 (hv.2 7) (Z1 (hv.2 8) (Z1 (hv.2 9) (Z1 (hv.2 10) (Z1 (hv.2 11) (Z1 (hv.2 12) (Z1 (hv.2 13) (Z1 (hv.2 14) (Z1 (hv.2 15) (Z1 (hv.2 16) (Z1 (hv.2 17) (Z1 z0 (Z1 z1 (Z1 z2 (Z1 z3 (Z1 z4 (Z1 z5 (Z1 (hv.2 18) (Z1 (hv.2 19) (Z1 (hv.2 20) (Z1 (hv.2 21) Z4))))))))))))))))))))))))),fun hhid=>?_,fun hshow=>?_⟩
    ·have hno:¬ Z1s (t.getD s 0) X=true:=by simp only [Z1s,Z1ks]; exact fun hh=>hh hhid
     obtain ⟨k1,k2⟩:=Zqw (T:=T) (t:=t) (x:=X) (by rw [e1.2.1]; exact hno)
     rw [k1] at hf3
     rw [k2] at hf4
     exact ⟨⟨F,rfl,hfF,hf3,by omega,by omega⟩,by omega⟩
    ·have hyes:Z1s (t.getD s 0) X=true:=by simp only [Z1s,Z1ks]; exact hshow
     cases T with
     | leaf i =>
      obtain ⟨rfl,rfl,g1,g2,g3,g4,g5⟩:=hT
      simp only [Z1o,Zbb,hyes,if_true] at hf3 hf4
      refine ⟨fun _=>⟨by simp only [List.length_append,List.length_cons,List.length_nil]; omega,⟨F,rfl,hfF,by rw [List.append_assoc]; exact hf3,by omega,by omega⟩,by omega⟩,fun hh=>by omega⟩
     | node i p q =>
      obtain ⟨rfl,g1,m,g2,g3,g4,g5,g6⟩:=hT
      have q1:=g2.le
      have q2:=g3.le
      have n1:=(Z5x t X p).1
      have n2:=(Z5x t X q).1
      simp only [Z1o,Zbb,hyes,if_true] at hf3 hf4 hcl
      refine ⟨fun hh=>by omega,fun _=>⟨by simp only [List.length_append,List.length_cons,List.length_nil,Z2f]; omega,⟨p::q::F,?_,?_,?_,?_,by omega⟩,by omega⟩⟩
      ·rw [Z29,Z29,q1.2.1,q2.2.1,g4,g5]
       rfl
      ·intro T' h'
       rcases List.mem_cons.1 h' with rfl | h'
       ·exact ⟨_,_,g2⟩
       ·rcases List.mem_cons.1 h' with rfl | h'
        ·exact ⟨_,_,g3⟩
        ·exact hfF T' h'
      ·simp only [List.flatMap_cons]
       rw [← hf3,List.append_assoc]
      ·simp only [Zl6]
       omega
  ·have hF:F=[]:=List.eq_nil_of_length_eq_zero (by rw [Z2f] at hge; omega)
   subst hF
   simp only [List.flatMap_nil,List.append_nil,Zl6] at hf3 hf4
   refine ⟨by omega,?_⟩
   rw [hf3,hF3,← hF5,← hf4,Int.add_zero])
theorem Z1ih (t l x:List Int):0≤Z8b t l x∧Z8b t l x≤150:=by
 unfold Z8b
 split
 ·exact Zx2 l x
 ·have:=Z160 t l
  omega
end Go.Proofs.YtgcoidbaoigkeaaGreatDoor.fix
namespace Go.Proofs.YtgcoidbaoigkeaaGreatDoor.fix
open Go.RowKit Go.Sx
theorem Z168 (t l x:List Int):(Zan t l x).getD 2 0=Z8b t l x:=by
 unfold Zan
 split
 ·rename_i h; rw [h]; rfl
 ·rfl
theorem Z1ii {t l x:List Int} (hx:x.length=20) (ht:t.length≤1000):0≤(Zan t l x).getD 1 0∧(Zan t l x).getD 1 0≤1000:=by
 unfold Zan
 split
 ·rename_i h
  have hC:Zob t l=0:=by
   unfold Z8b at h
   split at h
   ·assumption
   ·exact h
  have hA:Z80 l x=0:=by
   unfold Z8b at h
   rw [if_pos hC] at h
   exact h
  obtain ⟨F,_,_,_,_,h5,h6⟩:=Zl7 hC hA hx ht
  have:=Z5y t x F
  show 0≤Zti t x∧Zti t x≤1000
  omega
 ·exact ⟨by show (0:Int)≤0; decide,by show (0:Int)≤1000; decide⟩
theorem Zu8 {xs:List Int} (hp:Zms xs):Ze (iv 0 1000) ((Zan (dec (xs.getD 0 0)) (dec (xs.getD 1 0)) (xs.drop 2)).getD 1 0)∧Ze (iv 0 150) ((Zan (dec (xs.getD 0 0)) (dec (xs.getD 1 0)) (xs.drop 2)).getD 2 0):=by
 have hl:xs.length=22:=hp.1.1.symm
 refine ⟨Z1ii (by simp [hl]) hp.2.1.1,?_⟩
 rw [Z168]
 exact Z1ih _ _ _
theorem Z1cu:Z1g Z14l Z1fo:=⟨fun xs h=>(Z1a xs h).elim,fun vs xs h hp=>Z1 trivial (Z1 (Zu8 hp).1 (Z1 (Zu8 hp).2 Z4))⟩
noncomputable def Zu9:List Sum:=[Z14l]
def Z169:List Inf:=[Z1fo]
def Z1ij:TX:=(.call 0 [(.v 0),(.v 1),(.v 2),(.v 3),(.v 4),(.v 5),(.v 6),(.v 7),(.v 8),(.v 9),(.v 10),(.v 11),(.v 12),(.v 13),(.v 14),(.v 15),(.v 16),(.v 17),(.v 18),(.v 19),(.v 20),(.v 21)] (.ret [(.v 22),(.v 24)]))
theorem Z10x:Z12 (Zr [] Z169 [] Zqa (Zq Tryz.prog Z7x gl0 Zu9 1000 18 [Tr,Bs,An 16,An 4] [Is,I1]))=Z1ij:=by kernel_rfl
theorem Z1ik:Gok Tryz.prog Zu9:=(fix.one Z1ig)
theorem Z1il:Zj Zu9 Z169:=(Z2 Z1cu Z8)
theorem Z1cv:Z67.ok Tryz.prog:=Sum.okPF (pin:=Zqa) facts.mixed Z1ik Z1il Z10x rfl (fun _=>rfl) (fun xs h=>h.1) (by
 intro xs hx hp
 obtain ⟨a,b,c0,c1,c2,c3,c4,c5,c6,c7,c8,c9,c10,c11,c12,c13,c14,c15,w0,w1,w2,w3,rfl⟩:=Z1fw hx
 exact ⟨hp,rfl⟩)
theorem Z16a:Z1g Z67 Z14p:=⟨fun xs h=>(Z1a xs h).elim,fun vs xs h hp=>Z1 trivial (Z1 (Zu8 hp).2 Z4)⟩
end Go.Proofs.YtgcoidbaoigkeaaGreatDoor.fix
namespace Go.Proofs.YtgcoidbaoigkeaaGreatDoor.fix
open Go.RowKit Go.Sx
def Z14 (x:List Int) (o:Nat):Bool:=Zju 32768 x o && decide ((0≤x.getD (o + 3) 0∧x.getD (o + 3) 0≤255)∧(0≤x.getD (o + 4) 0∧x.getD (o + 4) 0≤255))
def Z2u (x:List Int):List Int:=[er (Z14 x 0) 8]
def Zem:=zs 5
def Z10y (v:List (Option Iv)):List (Option Iv):=[iv 0 8]
def Z48:Sum:=mkS gl0 177 [An 5] [I1] Zem Z2u
def Zna:Inf:=⟨Zem,Z10y⟩
def Zcs (x:List Int):Bool:=decide (256≤x.getD 0 0∧x.getD 0 0≤4096)
def Z68 (x:List Int):Bool:=decide (x.getD 3 0 < x.getD 0 0∧x.getD 0 0≤x.getD 8 0)
def Zbd (x:List Int) (o:Nat):Int:=x.getD o 0 + (x.getD (o + 5) 0 - x.getD o 0) * (x.getD 0 0 - x.getD 3 0) / (x.getD 8 0 - x.getD 3 0)
def Z1im (x:List Int):List Int:=[Zbd x 1,Zbd x 2,x.getD 0 0,Zbd x 4,Zbd x 5,0]
def Z1a4 (x:List Int):List Int:=if Zcs x=true then if (Z14 x 1 && Z14 x 6)=true then if Z68 x=true then Z1im x else [0,0,0,0,0,6] else [0,0,0,0,0,8] else [0,0,0,0,0,2]
def Zbe (x:List Int):List Int:=ex6 (Z1a4 x)
def Zua:=zs 11
def Z1in (v:List (Option Iv)):List (Option Iv):=ivs 2 (-32768) 32768++[iv 0 4096]++ivs 2 0 255++[iv 0 8]
def Z1cw:Sum:=mkS gl0 176 [I1,An 5,An 5] [An 5,I1] Zua Zbe
def i_cut:Inf:=⟨Zua,Z1in⟩
def U8:Sh:=⟨false,[.i .u8]⟩
def Vs:Sh:=⟨false,[.s 27 [.i .i64,.i .i64,.i .i64]]⟩
noncomputable def okP (x:Int):Bool:=decide ((-32768≤co x 0∧co x 0≤32768)∧(-32768≤co x 1∧co x 1≤32768)∧(-32768≤co x 2∧co x 2≤32768))
noncomputable def Zen (b:List Int) (x:Int):List Int:=[min (b.getD 0 0) (co x 0),min (b.getD 1 0) (co x 1),min (b.getD 2 0) (co x 2),max (b.getD 3 0) (co x 0),max (b.getD 4 0) (co x 1),max (b.getD 5 0) (co x 2)]
noncomputable def boxV (x:Int):List Int:=[co x 0,co x 1,co x 2,co x 0,co x 1,co x 2]
noncomputable def Z3b:List Int→List Int
 | []=>[0,0,0,0,0,0]
 | x::l=>l.foldl Zen (boxV x)
noncomputable def Z16b (l:List Int):List Int:=if 1≤l.length∧l.length≤4096 then (if l.all okP=true then Z3b l++[0] else [0,0,0,0,0,0,20]) else [0,0,0,0,0,0,4]
noncomputable def Znb (x:List Int):List Int:=ex7 (Z16b (dec (x.getD 0 0)))
def Z1io (v:List (Option Iv)):List (Option Iv):=ivs 6 (-32768) 32768++[iv 0 20]
noncomputable def Z1cx:Sum:=mkS gl0 173 [Vs] [An 6,I1] [none] Znb
def i_bof:Inf:=⟨[none],Z1io⟩
def Ts:Sh:=⟨false,[.s 218 (List.replicate 15 (.i .i64))]⟩
def Z98 (x:List Int) (i:Nat):List Int:=[x.getD (1 + 5 * i) 0,x.getD (2 + 5 * i) 0,x.getD (3 + 5 * i) 0,x.getD (4 + 5 * i) 0,x.getD (5 + 5 * i) 0]
def Z5z (x:List Int) (i:Nat):Bool:=decide (x.getD 0 0≤x.getD (3 + 5 * i) 0)
def Z12a (n:Int) (a b:List Int):List Int:=[Zbd (n::(a++b)) 1,Zbd (n::(a++b)) 2,n,Zbd (n::(a++b)) 4,Zbd (n::(a++b)) 5]
def Zub (x:List Int) (i j:Nat):List (List Int) :=
 if Z5z x i=true then (if Z5z x j=true then [Z98 x i] else [Z98 x i,Z12a (x.getD 0 0) (Z98 x j) (Z98 x i)])
 else (if Z5z x j=true then [Z12a (x.getD 0 0) (Z98 x i) (Z98 x j)] else [])
def Zqx (x:List Int):List (List Int):=Zub x 0 1++(Zub x 1 2++Zub x 2 0)
def Zj1:List (List Int)→List (List Int)
 | p::q::r::l=>(p++(q++r))::Zj1 (p::r::l)
 | _=>[]
def nearT (x:List Int):Bool:=Z14 x 1 && (Z14 x 6 && Z14 x 11)
noncomputable def Z16c (x:List Int):Int:=cod ((Zj1 (Zqx x)).map cod)
noncomputable def Z8d (x:List Int):List Int:=if Zcs x=true then (if nearT x=true then [Z16c x,0] else [cod [],8]) else [cod [],2]
noncomputable def Zqy (x:List Int):List Int:=[(Z8d x).getD 0 0,(Z8d x).getD 1 0]
def Z16d (v:List (Option Iv)):List (Option Iv):=[none,iv 0 8]
noncomputable def Znc:Sum:=mkS gl0 123 [I1,An 15] [Ts,I1] (zs 16) Zqy
def Z16e:Inf:=⟨(zs 16),Z16d⟩
def Z10z (x:List Int) (o:Nat):Bool:=decide ((-131072≤x.getD o 0∧x.getD o 0≤131072)∧(-131072≤x.getD (o + 1) 0∧x.getD (o + 1) 0≤131072)∧(1≤x.getD (o + 2) 0∧x.getD (o + 2) 0≤65536) ∧
 (0≤x.getD (o + 3) 0∧x.getD (o + 3) 0≤255)∧(0≤x.getD (o + 4) 0∧x.getD (o + 4) 0≤255))
def Z8g (x:List Int):Bool:=Z10z x 0 && (Z10z x 5 && Z10z x 10)
def Zz (x:List Int):Int:=(x.getD 5 0 - x.getD 0 0) * (x.getD 11 0 - x.getD 1 0) - (x.getD 10 0 - x.getD 0 0) * (x.getD 6 0 - x.getD 1 0)
def Znd (x:List Int):List Int:=if Z8g x=true then [Zz x,0] else [0,8]
def Zct (x:List Int):List Int:=[(Znd x).getD 0 0,(Znd x).getD 1 0]
def Zne:=zs 15
def Z1cy (v:List (Option Iv)):List (Option Iv):=[iv (-137438953472) 137438953472,iv 0 8]
def Zl8:Sum:=mkS gl0 178 [An 15] [I1,I1] Zne Zct
def Z16f:Inf:=⟨Zne,Z1cy⟩
def Z60 (x:List Int):List Int:=if Z8g x=true then if x.getD 15 0=0 then [b01 (decide (Zz x ≠ 0)),0] else if x.getD 15 0=1 then [b01 (decide (0 < Zz x)),0] else if x.getD 15 0=2 then [b01 (decide (Zz x < 0)),0] else [0,2] else [0,8]
def Zqz (x:List Int):List Int:=[(Z60 x).getD 0 0,(Z60 x).getD 1 0]
def Zj2:=zs 15++[iv 0 255]
def Z16g (v:List (Option Iv)):List (Option Iv):=[iv 0 1,iv 0 8]
def Zj3:Sum:=mkS gl0 125 [An 15,U8] [Bo,I1] Zj2 Zqz
def Z16h:Inf:=⟨Zj2,Z16g⟩
def Z110 (x:List Int):List Int:=[x.getD 0 0,x.getD 1 0,x.getD 2 0,x.getD 3 0,x.getD 4 0,x.getD 10 0,x.getD 11 0,x.getD 12 0,x.getD 13 0,x.getD 14 0,x.getD 5 0,x.getD 6 0,x.getD 7 0,x.getD 8 0,x.getD 9 0,0]
def idT (x:List Int):List Int:=[x.getD 0 0,x.getD 1 0,x.getD 2 0,x.getD 3 0,x.getD 4 0,x.getD 5 0,x.getD 6 0,x.getD 7 0,x.getD 8 0,x.getD 9 0,x.getD 10 0,x.getD 11 0,x.getD 12 0,x.getD 13 0,x.getD 14 0,0]
def z16 (e:Int):List Int:=[0,0,0,0,0,0,0,0,0,0,0,0,0,0,0,e]
def Z83 (x:List Int):List Int:=if Z8g x=true then if Zz x=0 then z16 6 else if Zz x < 0 then Z110 x else idT x else z16 8
def Zr0 (x:List Int):List Int:=Zam (Z83 x)
def Zcu:=zs 15
def Zj4 (v:List (Option Iv)):List (Option Iv):=(ivs 2 (-131072) 131072++[iv 0 65536]++ivs 2 0 255)++(ivs 2 (-131072) 131072++[iv 0 65536]++ivs 2 0 255)++(ivs 2 (-131072) 131072++[iv 0 65536]++ivs 2 0 255)++[iv 0 8]
def Znf:Sum:=mkS gl0 126 [An 15] [An 15,I1] Zcu Zr0
def Z16i:Inf:=⟨Zcu,Zj4⟩
def Z6w (x:List Int):List Int:=if Z2o x 0=true then if Z14 x 16=true then if x.getD 18 0 < x.getD 13 0 then [0,0,0,0,0,6] else
 [8 * x.getD 12 0 * x.getD 16 0 / x.getD 18 0 + 4 * x.getD 14 0,4 * x.getD 15 0 - 8 * x.getD 12 0 * x.getD 17 0 / x.getD 18 0,(16777216:Int).tdiv (x.getD 18 0),x.getD 19 0,x.getD 20 0,0] else [0,0,0,0,0,8] else [0,0,0,0,0,150]
def Z99 (x:List Int):List Int:=ex6 (Z6w x)
def Z5l:=zs 21
def Zcv (v:List (Option Iv)):List (Option Iv):=ivs 2 (-65792) 65792++[iv 0 65536]++ivs 2 0 255++[iv 0 150]
def Z69:Sum:=mkS gl0 124 [An 16,An 5] [An 5,I1] Z5l Z99
def Z16j:Inf:=⟨Z5l,Zcv⟩
def pixB (x:List Int) (o:Nat):Bool:=decide (0≤x.getD o 0∧x.getD o 0 < 64∧0≤x.getD (o + 1) 0∧x.getD (o + 1) 0 < 64)
def wgt (x:List Int) (a b p:Nat):Int:=(x.getD b 0 - x.getD a 0) * (8 * x.getD (p + 1) 0 + 4 - x.getD (a + 1) 0) - (8 * x.getD p 0 + 4 - x.getD a 0) * (x.getD (b + 1) 0 - x.getD (a + 1) 0)
def Z5m (x:List Int):Int:=if Z8g x=true then if 0 < Zz x then 0 else 6 else 8
def Z3l (x:List Int):List Int:=if Z5m x=0 then if pixB x 15=true then [wgt x 5 10 15,wgt x 10 0 15,wgt x 0 5 15,0] else [0,0,0,2] else [0,0,0,Z5m x]
def Z6x (x:List Int):List Int:=ex4 (Z3l x)
def Zj5:=zs 17
def Z16k (v:List (Option Iv)):List (Option Iv):=ivs 3 (-137438953472) 137438953472++[iv 0 8]
def Zng:Sum:=mkS gl0 95 [An 15,I1,I1] [An 3,I1] Zj5 Z6x
def Z16l:Inf:=⟨Zj5,Z16k⟩
def ownsB (x:List Int) (a b:Nat):Bool:=decide (x.getD (b + 1) 0 < x.getD (a + 1) 0∨(x.getD (b + 1) 0=x.getD (a + 1) 0∧x.getD a 0 < x.getD b 0))
def Z1cz (x:List Int) (a b p:Nat):Bool:=decide (0 < wgt x a b p∨(wgt x a b p=0∧ownsB x a b=true))
def Zrz (x:List Int):Bool:=Z1cz x 5 10 15 && (Z1cz x 10 0 15 && Z1cz x 0 5 15)
def Z9a (x:List Int):List Int:=if (Z3l x).getD 3 0=0 then [b01 (Zrz x),0] else [0,(Z3l x).getD 3 0]
def Z6y (x:List Int):List Int:=[(Z9a x).getD 0 0,(Z9a x).getD 1 0]
def Zeo:=zs 17
def Z111 (v:List (Option Iv)):List (Option Iv):=[iv 0 1,iv 0 8]
def Zaa:Sum:=mkS gl0 94 [An 15,I1,I1] [Bo,I1] Zeo Z6y
def Zxj:Inf:=⟨Zeo,Z111⟩
def Z6z (x:List Int):Int:=wgt x 5 10 15 * x.getD 2 0 + wgt x 10 0 15 * x.getD 7 0 + wgt x 0 5 15 * x.getD 12 0
def Zuc (x:List Int) (o:Nat):Int:=wgt x 5 10 15 * x.getD 2 0 * x.getD o 0 + wgt x 10 0 15 * x.getD 7 0 * x.getD (o + 5) 0 + wgt x 0 5 15 * x.getD 12 0 * x.getD (o + 10) 0
def atL (x:List Int):List Int:=if (Z3l x).getD 3 0=0 then if Zrz x=true then [8 * x.getD 15 0 + 4,8 * x.getD 16 0 + 4,Z6z x / Zz x,Zuc x 3 / Z6z x,Zuc x 4 / Z6z x,0] else [0,0,0,0,0,6] else [0,0,0,0,0,(Z3l x).getD 3 0]
def Zcw (x:List Int):List Int:=ex6 (atL x)
def Znh:=zs 17
def Zni (v:List (Option Iv)):List (Option Iv):=ivs 2 0 511++[iv 0 65536]++ivs 2 0 255++[iv 0 8]
def Zl9:Sum:=mkS gl0 61 [An 15,I1,I1] [An 5,I1] Znh Zcw
def Z16m:Inf:=⟨Znh,Zni⟩
end Go.Proofs.YtgcoidbaoigkeaaGreatDoor.fix
namespace Go.Proofs.YtgcoidbaoigkeaaGreatDoor.fix
open Go.RowKit Go.Sx
theorem Z1h {x:List Int} {o:Nat}:Z10z x o=true↔((-131072≤x.getD o 0∧x.getD o 0≤131072)∧(-131072≤x.getD (o + 1) 0∧x.getD (o + 1) 0≤131072)∧(1≤x.getD (o + 2) 0∧x.getD (o + 2) 0≤65536) ∧
 (0≤x.getD (o + 3) 0∧x.getD (o + 3) 0≤255)∧(0≤x.getD (o + 4) 0∧x.getD (o + 4) 0≤255)):=decide_eq_true_iff
noncomputable def Zbf:List Sum:=[Z1l]
def Z16n:List Inf:=[Z8x]
def Zj6:TX:=(.ite (.or (.or (.lt (.v 0) (.c (-4096))) (.lt (.c 4096) (.v 0))) (.or (.or (.lt (.v 1) (.c (-4096))) (.lt (.c 4096) (.v 1))) (.or (.or (.lt (.v 2) (.c (-4096))) (.lt (.c 4096) (.v 2))) (.or (.or (.lt (.v 12) (.c 1)) (.lt (.c 64) (.v 12))) (.or (.or (.lt (.v 13) (.c 256)) (.lt (.c 4096) (.v 13))) (.or (.or (.lt (.v 14) (.c 1)) (.lt (.c 64) (.v 14))) (.or (.or (.lt (.v 15) (.c 1)) (.lt (.c 64) (.v 15))) (.or (.or (.lt (.v 3) (.c (-256))) (.lt (.c 256) (.v 3))) (.or (.or (.lt (.v 4) (.c (-256))) (.lt (.c 256) (.v 4))) (.or (.or (.lt (.v 5) (.c (-256))) (.lt (.c 256) (.v 5))) (.or (.or (.lt (.v 6) (.c (-256))) (.lt (.c 256) (.v 6))) (.or (.or (.lt (.v 7) (.c (-256))) (.lt (.c 256) (.v 7))) (.or (.or (.lt (.v 8) (.c (-256))) (.lt (.c 256) (.v 8))) (.or (.or (.lt (.v 9) (.c (-256))) (.lt (.c 256) (.v 9))) (.or (.or (.lt (.v 10) (.c (-256))) (.lt (.c 256) (.v 10))) (.or (.lt (.v 11) (.c (-256))) (.lt (.c 256) (.v 11)))))))))))))))))) (.ret [(.c 0),(.c 0),(.c 0),(.c 0),(.c 0),(.c 150)])
(.ite (.or (.or (.lt (.v 16) (.c (-32768))) (.lt (.c 32768) (.v 16))) (.or (.or (.lt (.v 17) (.c (-32768))) (.lt (.c 32768) (.v 17))) (.or (.or (.lt (.v 18) (.c (-32768))) (.lt (.c 32768) (.v 18))) (.or (.or (.lt (.v 19) (.c 0)) (.lt (.c 255) (.v 19))) (.or (.lt (.v 20) (.c 0)) (.lt (.c 255) (.v 20))))))) (.ret [(.c 0),(.c 0),(.c 0),(.c 0),(.c 0),(.c 8)])
(.ite (.lt (.v 18) (.v 13)) (.ret [(.c 0),(.c 0),(.c 0),(.c 0),(.c 0),(.c 6)])
(.callp 0 [(.mul (.mul (.c 8) (.v 12)) (.v 16)),(.v 18)] (.callp 0 [(.mul (.mul (.c 8) (.v 12)) (.v 17)),(.v 18)] (.ret [(.add (.v 21) (.mul (.c 4) (.v 14))),(.sub (.mul (.c 4) (.v 15)) (.v 23)),(.quo (.c 16777216) (.v 18)),(.v 19),(.v 20),(.c 0)]))))))
theorem Z112:Z12 (Zr [] Z16n [] Z5l (Zq Tryz.prog Z7x gl0 Zbf 1000 124 [An 16,An 5] [An 5,I1]))=Zj6:=by kernel_rfl
theorem Z1ip:Gok Tryz.prog Zbf:=(fix.one Z7n)
theorem Z1iq:Zj Zbf Z16n:=(Z2 Z5k Z8)
theorem Z1d0:Z69.ok Tryz.prog:=Sum.okF facts.mixed Z1ip Z1iq Z112 rfl (fun _=>rfl) (by
 intro xs hx hp
 obtain ⟨a0,a1,a2,a3,a4,a5,a6,a7,a8,a9,a10,a11,a12,a13,a14,a15,a16,a17,a18,a19,a20,rfl⟩:=len21 hx
 by_cases hc0:Z2o [a0,a1,a2,a3,a4,a5,a6,a7,a8,a9,a10,a11,a12,a13,a14,a15,a16,a17,a18,a19,a20] 0=true
 ·by_cases hc1:Z14 [a0,a1,a2,a3,a4,a5,a6,a7,a8,a9,a10,a11,a12,a13,a14,a15,a16,a17,a18,a19,a20] 16=true
  ·by_cases hc2:¬ a18 < a13
   ·have hd0:=hc0
    try simp only [Z2o,Z35,Zs,Z1kr,Zd,Z14,Zb,TX.sat,XB.prop,X.den,Z1kk,Z1kl,Z1ke,Z1kf,Z1ki,Z1kj,Z1kg,Z1kh,mkS,mkP,and_true,true_and,Z1kp,Z1kq,not_or,not_and,Z1km,ne_eq,Z1kn,Z1ko,Nat.reduceAdd,Nat.zero_add] at hd0
    have hd1:=hc1
    try simp only [Z2o,Z35,Zs,Z1kr,Zd,Z14,Zb,TX.sat,XB.prop,X.den,Z1kk,Z1kl,Z1ke,Z1kf,Z1ki,Z1kj,Z1kg,Z1kh,mkS,mkP,and_true,true_and,Z1kp,Z1kq,not_or,not_and,Z1km,ne_eq,Z1kn,Z1ko,Nat.reduceAdd,Nat.zero_add] at hd1
    have hd2:=hc2
    try simp only [Z2o,Z35,Zs,Z1kr,Zd,Z14,Zb,TX.sat,XB.prop,X.den,Z1kk,Z1kl,Z1ke,Z1kf,Z1ki,Z1kj,Z1kg,Z1kh,mkS,mkP,and_true,true_and,Z1kp,Z1kq,not_or,not_and,Z1km,ne_eq,Z1kn,Z1ko,Nat.reduceAdd,Nat.zero_add] at hd2
    simp only [Zj6,Zbf,Z1l,TX.sat,XB.prop,X.den,Z1kk,Z1kl,Z1ke,Z1kf,Z1ki,Z1kj,Z1kg,Z1kh,mkS,mkP,and_true,true_and,Z1kp,Z1kq,not_or,not_and,Z1km,ne_eq,Z1kn,Z1ko,Z1f,Z99,Z6w,hc0,hc1,hc2,ex3,ex4,ex5,ex6,Zfx,Zam,er,b01,Zb,if_true,if_false,reduceIte,Bool.false_eq_true,Nat.reduceAdd,Nat.zero_add]
    clear hc0 hc1 hc2
    repeat' first | exact trivial | refine And.intro ?_ ?_ | intro _
    all_goals first | trivial | rfl | omega | (simp [Int.max_comm,Int.min_comm]; done) | (simp only [List.cons.injEq,and_true,true_and]; omega) | (split <;> first | trivial | rfl | omega)
   ·have hd0:=hc0
    try simp only [Z2o,Z35,Zs,Z1kr,Zd,Z14,Zb,TX.sat,XB.prop,X.den,Z1kk,Z1kl,Z1ke,Z1kf,Z1ki,Z1kj,Z1kg,Z1kh,mkS,mkP,and_true,true_and,Z1kp,Z1kq,not_or,not_and,Z1km,ne_eq,Z1kn,Z1ko,Nat.reduceAdd,Nat.zero_add] at hd0
    have hd1:=hc1
    try simp only [Z2o,Z35,Zs,Z1kr,Zd,Z14,Zb,TX.sat,XB.prop,X.den,Z1kk,Z1kl,Z1ke,Z1kf,Z1ki,Z1kj,Z1kg,Z1kh,mkS,mkP,and_true,true_and,Z1kp,Z1kq,not_or,not_and,Z1km,ne_eq,Z1kn,Z1ko,Nat.reduceAdd,Nat.zero_add] at hd1
    have hd2:=hc2
    try simp only [Z2o,Z35,Zs,Z1kr,Zd,Z14,Zb,TX.sat,XB.prop,X.den,Z1kk,Z1kl,Z1ke,Z1kf,Z1ki,Z1kj,Z1kg,Z1kh,mkS,mkP,and_true,true_and,Z1kp,Z1kq,not_or,not_and,Z1km,ne_eq,Z1kn,Z1ko,Nat.reduceAdd,Nat.zero_add] at hd2
    simp only [Zj6,Zbf,Z1l,TX.sat,XB.prop,X.den,Z1kk,Z1kl,Z1ke,Z1kf,Z1ki,Z1kj,Z1kg,Z1kh,mkS,mkP,and_true,true_and,Z1kp,Z1kq,not_or,not_and,Z1km,ne_eq,Z1kn,Z1ko,Z1f,Z99,Z6w,hc0,hc1,hc2,ex3,ex4,ex5,ex6,Zfx,Zam,er,b01,Zb,if_true,if_false,reduceIte,Bool.false_eq_true,Nat.reduceAdd,Nat.zero_add]
    clear hc0 hc1 hc2
    repeat' first | exact trivial | refine And.intro ?_ ?_ | intro _
    all_goals first | trivial | rfl | omega | (simp [Int.max_comm,Int.min_comm]; done) | (simp only [List.cons.injEq,and_true,true_and]; omega) | (split <;> first | trivial | rfl | omega)
  ·have hd0:=hc0
   try simp only [Z2o,Z35,Zs,Z1kr,Zd,Z14,Zb,TX.sat,XB.prop,X.den,Z1kk,Z1kl,Z1ke,Z1kf,Z1ki,Z1kj,Z1kg,Z1kh,mkS,mkP,and_true,true_and,Z1kp,Z1kq,not_or,not_and,Z1km,ne_eq,Z1kn,Z1ko,Nat.reduceAdd,Nat.zero_add] at hd0
   have hd1:=hc1
   try simp only [Z2o,Z35,Zs,Z1kr,Zd,Z14,Zb,TX.sat,XB.prop,X.den,Z1kk,Z1kl,Z1ke,Z1kf,Z1ki,Z1kj,Z1kg,Z1kh,mkS,mkP,and_true,true_and,Z1kp,Z1kq,not_or,not_and,Z1km,ne_eq,Z1kn,Z1ko,Nat.reduceAdd,Nat.zero_add] at hd1
   simp only [Zj6,Zbf,Z1l,TX.sat,XB.prop,X.den,Z1kk,Z1kl,Z1ke,Z1kf,Z1ki,Z1kj,Z1kg,Z1kh,mkS,mkP,and_true,true_and,Z1kp,Z1kq,not_or,not_and,Z1km,ne_eq,Z1kn,Z1ko,Z1f,Z99,Z6w,hc0,hc1,ex3,ex4,ex5,ex6,Zfx,Zam,er,b01,Zb,if_true,if_false,reduceIte,Bool.false_eq_true,Nat.reduceAdd,Nat.zero_add]
   clear hc0 hc1
   repeat' first | exact trivial | refine And.intro ?_ ?_ | intro _
   all_goals first | trivial | rfl | omega | (simp [Int.max_comm,Int.min_comm]; done) | (simp only [List.cons.injEq,and_true,true_and]; omega) | (split <;> first | trivial | rfl | omega)
 ·have hd0:=hc0
  try simp only [Z2o,Z35,Zs,Z1kr,Zd,Z14,Zb,TX.sat,XB.prop,X.den,Z1kk,Z1kl,Z1ke,Z1kf,Z1ki,Z1kj,Z1kg,Z1kh,mkS,mkP,and_true,true_and,Z1kp,Z1kq,not_or,not_and,Z1km,ne_eq,Z1kn,Z1ko,Nat.reduceAdd,Nat.zero_add] at hd0
  simp only [Zj6,Zbf,Z1l,TX.sat,XB.prop,X.den,Z1kk,Z1kl,Z1ke,Z1kf,Z1ki,Z1kj,Z1kg,Z1kh,mkS,mkP,and_true,true_and,Z1kp,Z1kq,not_or,not_and,Z1km,ne_eq,Z1kn,Z1ko,Z1f,Z99,Z6w,hc0,ex3,ex4,ex5,ex6,Zfx,Zam,er,b01,Zb,if_true,if_false,reduceIte,Bool.false_eq_true,Nat.reduceAdd,Nat.zero_add]
  clear hc0
  repeat' first | exact trivial | refine And.intro ?_ ?_ | intro _
  all_goals first | trivial | rfl | omega | (simp [Int.max_comm,Int.min_comm]; done) | (simp only [List.cons.injEq,and_true,true_and]; omega) | (split <;> first | trivial | rfl | omega))
theorem Z1d1 {x:List Int} (h:Z14 x 16=true):(-32768≤x.getD 16 0∧x.getD 16 0≤32768)∧(-32768≤x.getD 17 0∧x.getD 17 0≤32768)∧(-32768≤x.getD 18 0∧x.getD 18 0≤32768)∧(0≤x.getD 19 0∧x.getD 19 0≤255)∧(0≤x.getD 20 0∧x.getD 20 0≤255):=by
 simp only [Z14,Z1kr,Zd,Zb,Nat.reduceAdd] at h
 exact ⟨h.1.1,h.1.2.1,h.1.2.2,h.2.1,h.2.2⟩
theorem Z9b:Z1g Z69 Z16j:=⟨fun _ h=>h,fun vs xs h hp=>by
 show Z17 (ivs 2 (-65792) 65792++[iv 0 65536]++ivs 2 0 255++[iv 0 150]) (ex6 (Z6w xs))
 have z:∀ e:Int,0≤e→e≤150→Z17 (ivs 2 (-65792) 65792++[iv 0 65536]++ivs 2 0 255++[iv 0 150]) (ex6 [0,0,0,0,0,e]):=fun e h1 h2 =>
  Z1 (Z5.2 (by simp)) (Z1 (Z5.2 (by simp)) (Z1 (Z5.2 (by simp)) (Z1 (Z5.2 (by simp)) (Z1 (Z5.2 (by simp)) (Z1 ⟨h1,h2⟩ Z4)))))
 unfold Z6w
 split
 ·rename_i hc
  split
  ·rename_i hpt
   split
   ·exact z 6 (by omega) (by omega)
   ·rename_i hz
    obtain ⟨k1,k2,k3,k4⟩:=Zqh hc
    obtain ⟨j1,j2,j3,j4,j5⟩:=Z1d1 hpt
    have m1:=Z6t (f:=xs.getD 12 0) (z:=xs.getD 18 0) (by omega) j1 (by omega)
    have m2:=Z6t (f:=xs.getD 12 0) (z:=xs.getD 18 0) (by omega) j2 (by omega)
    have m3:0≤(16777216:Int).tdiv (xs.getD 18 0)∧(16777216:Int).tdiv (xs.getD 18 0)≤65536:=by
     rw [Zws (by omega) (by omega)]
     constructor
     ·rw [Int.le_ediv_iff_mul_le (by omega)]; omega
     ·apply Int.ediv_le_of_le_mul (by omega); omega
    have w1:-65792≤8 * xs.getD 12 0 * xs.getD 16 0 / xs.getD 18 0 + 4 * xs.getD 14 0∧8 * xs.getD 12 0 * xs.getD 16 0 / xs.getD 18 0 + 4 * xs.getD 14 0≤65792:=by omega
    have w2:-65792≤4 * xs.getD 15 0 - 8 * xs.getD 12 0 * xs.getD 17 0 / xs.getD 18 0∧4 * xs.getD 15 0 - 8 * xs.getD 12 0 * xs.getD 17 0 / xs.getD 18 0≤65792:=by omega
    exact Z1 w1 (Z1 w2 (Z1 m3 (Z1 j4 (Z1 j5 (Z1 (Z5.2 (by simp)) Z4)))))
  ·exact z 8 (by omega) (by omega)
 ·exact z 150 (by omega) (by omega)⟩
noncomputable def Zr1:List Sum:=[]
def Z1fz:List Inf:=[]
def Z16o:TX:=(.ite (.or (.or (.lt (.v 0) (.c (-131072))) (.lt (.c 131072) (.v 0))) (.or (.or (.lt (.v 1) (.c (-131072))) (.lt (.c 131072) (.v 1))) (.or (.or (.lt (.v 2) (.c 1)) (.lt (.c 65536) (.v 2))) (.or (.or (.lt (.v 3) (.c 0)) (.lt (.c 255) (.v 3))) (.or (.or (.lt (.v 4) (.c 0)) (.lt (.c 255) (.v 4))) (.or (.or (.lt (.v 5) (.c (-131072))) (.lt (.c 131072) (.v 5))) (.or (.or (.lt (.v 6) (.c (-131072))) (.lt (.c 131072) (.v 6))) (.or (.or (.lt (.v 7) (.c 1)) (.lt (.c 65536) (.v 7))) (.or (.or (.lt (.v 8) (.c 0)) (.lt (.c 255) (.v 8))) (.or (.or (.lt (.v 9) (.c 0)) (.lt (.c 255) (.v 9))) (.or (.or (.lt (.v 10) (.c (-131072))) (.lt (.c 131072) (.v 10))) (.or (.or (.lt (.v 11) (.c (-131072))) (.lt (.c 131072) (.v 11))) (.or (.or (.lt (.v 12) (.c 1)) (.lt (.c 65536) (.v 12))) (.or (.or (.lt (.v 13) (.c 0)) (.lt (.c 255) (.v 13))) (.or (.lt (.v 14) (.c 0)) (.lt (.c 255) (.v 14))))))))))))))))) (.ret [(.c 0),(.c 8)])
(.ret [(.sub (.mul (.sub (.v 5) (.v 0)) (.sub (.v 11) (.v 1))) (.mul (.sub (.v 10) (.v 0)) (.sub (.v 6) (.v 1)))),(.c 0)]))
theorem Z16p:Z12 (Zr [] Z1fz [] Zne (Zq Tryz.prog Z7x gl0 Zr1 1000 178 [An 15] [I1,I1]))=Z16o:=by kernel_rfl
theorem g_area:Gok Tryz.prog Zr1:=noG
theorem o_area:Zj Zr1 Z1fz:=Z8
theorem Z16q:Zl8.ok Tryz.prog:=Sum.okF facts.mixed g_area o_area Z16p rfl (fun _=>rfl) (by
 intro xs hx hp
 obtain ⟨a0,a1,a2,a3,a4,a5,a6,a7,a8,a9,a10,a11,a12,a13,a14,rfl⟩:=Z1bl hx
 by_cases hc0:Z8g [a0,a1,a2,a3,a4,a5,a6,a7,a8,a9,a10,a11,a12,a13,a14]=true
 ·have hd0:=hc0
  try simp only [Z8g,Z1kr,Z1h,TX.sat,XB.prop,X.den,Z1kk,Z1kl,Z1ke,Z1kf,Z1ki,Z1kj,Z1kg,Z1kh,mkS,mkP,and_true,true_and,Z1kp,Z1kq,not_or,not_and,Z1km,ne_eq,Z1kn,Z1ko,Nat.reduceAdd,Nat.zero_add] at hd0
  simp only [Z16o,Zr1,TX.sat,XB.prop,X.den,Z1kk,Z1kl,Z1ke,Z1kf,Z1ki,Z1kj,Z1kg,Z1kh,mkS,mkP,and_true,true_and,Z1kp,Z1kq,not_or,not_and,Z1km,ne_eq,Z1kn,Z1ko,Zz,Zct,Znd,hc0,ex3,ex4,ex5,ex6,Zfx,Zam,er,b01,Zb,if_true,if_false,reduceIte,Bool.false_eq_true,Nat.reduceAdd,Nat.zero_add]
  clear hc0
  repeat' first | exact trivial | refine And.intro ?_ ?_ | intro _
  all_goals first | trivial | rfl | omega | (simp [Int.max_comm,Int.min_comm]; done) | (simp only [List.cons.injEq,and_true,true_and]; omega) | (split <;> first | trivial | rfl | omega)
 ·have hd0:=hc0
  try simp only [Z8g,Z1kr,Z1h,TX.sat,XB.prop,X.den,Z1kk,Z1kl,Z1ke,Z1kf,Z1ki,Z1kj,Z1kg,Z1kh,mkS,mkP,and_true,true_and,Z1kp,Z1kq,not_or,not_and,Z1km,ne_eq,Z1kn,Z1ko,Nat.reduceAdd,Nat.zero_add] at hd0
  simp only [Z16o,Zr1,TX.sat,XB.prop,X.den,Z1kk,Z1kl,Z1ke,Z1kf,Z1ki,Z1kj,Z1kg,Z1kh,mkS,mkP,and_true,true_and,Z1kp,Z1kq,not_or,not_and,Z1km,ne_eq,Z1kn,Z1ko,Zz,Zct,Znd,hc0,ex3,ex4,ex5,ex6,Zfx,Zam,er,b01,Zb,if_true,if_false,reduceIte,Bool.false_eq_true,Nat.reduceAdd,Nat.zero_add]
  clear hc0
  repeat' first | exact trivial | refine And.intro ?_ ?_ | intro _
  all_goals first | trivial | rfl | omega | (simp [Int.max_comm,Int.min_comm]; done) | (simp only [List.cons.injEq,and_true,true_and]; omega) | (split <;> first | trivial | rfl | omega))
theorem Zxk {x:List Int} (h:Z8g x=true):-137438953472≤Zz x∧Zz x≤137438953472:=by
 simp only [Z8g,Z1kr,Z1h,Nat.reduceAdd,Nat.zero_add] at h
 have k1:=Z16 (x:=x.getD 5 0 - x.getD 0 0) (y:=x.getD 11 0 - x.getD 1 0) (m:=262144) (n:=262144) (by omega) (by omega)
 have k2:=Z16 (x:=x.getD 10 0 - x.getD 0 0) (y:=x.getD 6 0 - x.getD 1 0) (m:=262144) (n:=262144) (by omega) (by omega)
 unfold Zz
 omega
theorem Zxl:Z1g Zl8 Z16f:=⟨fun _ h=>h,fun vs xs h hp=>by
 show Z17 [iv (-137438953472) 137438953472,iv 0 8] [(Znd xs).getD 0 0,(Znd xs).getD 1 0]
 unfold Znd
 split
 ·rename_i hc
  exact Z1 (Z5.2 (Zxk hc)) (Z1 (Z5.2 (by simp)) Z4)
 ·exact Z1 (Z5.2 (by simp)) (Z1 (Z5.2 (by simp)) Z4)⟩
noncomputable def Znj:List Sum:=[Zl8]
def Z16r:List Inf:=[Z16f]
def Z16s:TX:=(.callp 0 [(.v 0),(.v 1),(.v 2),(.v 3),(.v 4),(.v 5),(.v 6),(.v 7),(.v 8),(.v 9),(.v 10),(.v 11),(.v 12),(.v 13),(.v 14)] (.ite (.not (.eq (.v 17) (.c 0))) (.ret [(.c 0),(.v 17)])
(.ite (.eq (.v 15) (.c 0)) (.ite (.not (.eq (.v 16) (.c 0))) (.ret [(.c 1),(.c 0)])
(.ret [(.c 0),(.c 0)]))
(.ite (.eq (.v 15) (.c 1)) (.ite (.lt (.c 0) (.v 16)) (.ret [(.c 1),(.c 0)])
(.ret [(.c 0),(.c 0)]))
(.ite (.not (.eq (.v 15) (.c 2))) (.ret [(.c 0),(.c 2)])
(.ite (.lt (.v 16) (.c 0)) (.ret [(.c 1),(.c 0)])
(.ret [(.c 0),(.c 0)])))))))
theorem Z113:Z12 (Zr [] Z16r [] Zj2 (Zq Tryz.prog Z7x gl0 Znj 1000 125 [An 15,U8] [Bo,I1]))=Z16s:=by kernel_rfl
theorem Z1ir:Gok Tryz.prog Znj:=(fix.one Z16q)
theorem Z1is:Zj Znj Z16r:=(Z2 Zxl Z8)
theorem Z1d2:Zj3.ok Tryz.prog:=Sum.okF facts.mixed Z1ir Z1is Z113 rfl (fun _=>rfl) (by
 intro xs hx hp
 obtain ⟨a0,a1,a2,a3,a4,a5,a6,a7,a8,a9,a10,a11,a12,a13,a14,a15,rfl⟩:=Z1bm hx
 have e1:Z8g [a0,a1,a2,a3,a4,a5,a6,a7,a8,a9,a10,a11,a12,a13,a14,a15]=Z8g [a0,a1,a2,a3,a4,a5,a6,a7,a8,a9,a10,a11,a12,a13,a14]:=rfl
 have e2:Zz [a0,a1,a2,a3,a4,a5,a6,a7,a8,a9,a10,a11,a12,a13,a14,a15]=Zz [a0,a1,a2,a3,a4,a5,a6,a7,a8,a9,a10,a11,a12,a13,a14]:=rfl
 simp only [Z16s,Znj,Zl8,TX.sat,XB.prop,X.den,Z1kk,Z1kl,Z1ke,Z1kf,Z1ki,Z1kj,Z1kg,Z1kh,mkS,mkP,and_true,true_and,Z1kp,Z1kq,not_or,not_and,Z1km,ne_eq,Z1kn,Z1ko,Zct,Znd,Zqz,Z60,e1,e2]
 generalize Zz _=n
 clear hp hx e1 e2
 cases Z8g _ with
 | true =>
  rcases (by omega:n < 0∨n=0∨0 < n) with hn | hn | hn <;> rcases (by omega:a15=0∨a15=1∨a15=2∨(a15 ≠ 0∧a15 ≠ 1∧a15 ≠ 2)) with hk | hk | hk | ⟨hk0,hk1,hk2⟩ <;> simp [*,b01] <;> omega
 | false=>simp)
theorem Z16t:Z1g Zj3 Z16h:=⟨fun _ h=>h,fun vs xs h hp=>by
 show Z17 [iv 0 1,iv 0 8] [(Z60 xs).getD 0 0,(Z60 xs).getD 1 0]
 unfold Z60
 repeat' split
 ·exact Z1 (Zf9 _) (Z1 (Z5.2 (by simp)) Z4)
 ·exact Z1 (Zf9 _) (Z1 (Z5.2 (by simp)) Z4)
 ·exact Z1 (Zf9 _) (Z1 (Z5.2 (by simp)) Z4)
 ·exact Z1 (Z5.2 (by simp)) (Z1 (Z5.2 (by simp)) Z4)
 ·exact Z1 (Z5.2 (by simp)) (Z1 (Z5.2 (by simp)) Z4)⟩
noncomputable def Znk:List Sum:=[Zl8]
def Z16u:List Inf:=[Z16f]
def Z16v:TX:=(.callp 0 [(.v 0),(.v 1),(.v 2),(.v 3),(.v 4),(.v 5),(.v 6),(.v 7),(.v 8),(.v 9),(.v 10),(.v 11),(.v 12),(.v 13),(.v 14)] (.ite (.not (.eq (.v 16) (.c 0))) (.ret [(.c 0),(.c 0),(.c 0),(.c 0),(.c 0),(.c 0),(.c 0),(.c 0),(.c 0),(.c 0),(.c 0),(.c 0),(.c 0),(.c 0),(.c 0),(.v 16)])
(.ite (.eq (.v 15) (.c 0)) (.ret [(.c 0),(.c 0),(.c 0),(.c 0),(.c 0),(.c 0),(.c 0),(.c 0),(.c 0),(.c 0),(.c 0),(.c 0),(.c 0),(.c 0),(.c 0),(.c 6)])
(.ite (.lt (.v 15) (.c 0)) (.ret [(.v 0),(.v 1),(.v 2),(.v 3),(.v 4),(.v 10),(.v 11),(.v 12),(.v 13),(.v 14),(.v 5),(.v 6),(.v 7),(.v 8),(.v 9),(.c 0)])
(.ret [(.v 0),(.v 1),(.v 2),(.v 3),(.v 4),(.v 5),(.v 6),(.v 7),(.v 8),(.v 9),(.v 10),(.v 11),(.v 12),(.v 13),(.v 14),(.c 0)])))))
theorem Z114:Z12 (Zr [] Z16u [] Zcu (Zq Tryz.prog Z7x gl0 Znk 1000 126 [An 15] [An 15,I1]))=Z16v:=by kernel_rfl
theorem Z1it:Gok Tryz.prog Znk:=(fix.one Z16q)
theorem Z1iu:Zj Znk Z16u:=(Z2 Zxl Z8)
theorem Z1d3:Znf.ok Tryz.prog:=Sum.okF facts.mixed Z1it Z1iu Z114 rfl (fun _=>rfl) (by
 intro xs hx hp
 obtain ⟨a0,a1,a2,a3,a4,a5,a6,a7,a8,a9,a10,a11,a12,a13,a14,rfl⟩:=Z1bl hx
 simp only [Z16v,Znk,Zl8,TX.sat,XB.prop,X.den,Z1kk,Z1kl,Z1ke,Z1kf,Z1ki,Z1kj,Z1kg,Z1kh,mkS,mkP,and_true,true_and,Z1kp,Z1kq,not_or,not_and,Z1km,ne_eq,Z1kn,Z1ko,Zct,Znd,Zr0,Z83]
 generalize Zz _=n
 clear hp hx
 cases Z8g _ with
 | true =>
  rcases (by omega:n < 0∨n=0∨0 < n) with hn | hn | hn
  ·have h0:n ≠ 0:=by omega
   have h1:¬ 0≤n:=by omega
   simp [hn,h0,h1,z16,idT,Z110,Zam]
  ·simp [hn,z16,idT,Z110,Zam]
  ·have h0:n ≠ 0:=by omega
   have h1:¬ n < 0:=by omega
   simp [h0,h1,z16,idT,Z110,Zam]
 | false=>simp [z16,Zam])
theorem Z16w {x:List Int} (h:Z8g x=true):Z17 (ivs 2 (-131072) 131072++[iv 0 65536]++ivs 2 0 255) [x.getD 0 0,x.getD 1 0,x.getD 2 0,x.getD 3 0,x.getD 4 0] ∧
  Z17 (ivs 2 (-131072) 131072++[iv 0 65536]++ivs 2 0 255) [x.getD 5 0,x.getD 6 0,x.getD 7 0,x.getD 8 0,x.getD 9 0] ∧
  Z17 (ivs 2 (-131072) 131072++[iv 0 65536]++ivs 2 0 255) [x.getD 10 0,x.getD 11 0,x.getD 12 0,x.getD 13 0,x.getD 14 0]:=by
 simp only [Z8g,Z1kr,Z1h,Nat.reduceAdd,Nat.zero_add] at h
 obtain ⟨⟨h0,h1,h2,h3,h4⟩,⟨h5,h6,h7,h8,h9⟩,h10,h11,h12,h13,h14⟩:=h
 exact ⟨Z1 h0 (Z1 h1 (Z1 ⟨by show 0≤x.getD 2 0; omega,h2.2⟩ (Z1 h3 (Z1 h4 Z4)))),Z1 h5 (Z1 h6 (Z1 ⟨by show 0≤x.getD 7 0; omega,h7.2⟩ (Z1 h8 (Z1 h9 Z4)))),
  Z1 h10 (Z1 h11 (Z1 ⟨by show 0≤x.getD 12 0; omega,h12.2⟩ (Z1 h13 (Z1 h14 Z4))))⟩
theorem Z16x (e:Int) (h1:0≤e) (h2:e≤8):Z17 (Zj4 []) (Zam (z16 e)):=by
 refine Z1 (Z5.2 ?_) (Z1 (Z5.2 ?_) (Z1 (Z5.2 ?_) (Z1 (Z5.2 ?_) (Z1 (Z5.2 ?_) (Z1 (Z5.2 ?_) (Z1 (Z5.2 ?_) (Z1 (Z5.2 ?_) (Z1 (Z5.2 ?_) (Z1 (Z5.2 ?_) (Z1 (Z5.2 ?_) (Z1 (Z5.2 ?_) (Z1 (Z5.2 ?_) (Z1 (Z5.2 ?_) (Z1 (Z5.2 ?_) (Z1 ⟨h1,h2⟩ Z4))))))))))))))) <;> simp [z16]
theorem Zr2:Z1g Znf Z16i:=⟨fun _ h=>h,fun vs xs h hp=>by
 show Z17 (Zj4 []) (Zam (Z83 xs))
 unfold Z83
 split
 ·rename_i hc
  obtain ⟨t1,t2,t3⟩:=Z16w hc
  split
  ·exact Z16x 6 (by omega) (by omega)
  ·split
   ·exact Z1n (Z1n (Z1n t1 t3) t2) (Z1 (Z5.2 (by simp [Z110])) Z4)
   ·exact Z1n (Z1n (Z1n t1 t2) t3) (Z1 (Z5.2 (by simp [idT])) Z4)
 ·exact Z16x 8 (by omega) (by omega)⟩
theorem Z2d {x:List Int} {o:Nat}:pixB x o=true↔(0≤x.getD o 0∧x.getD o 0 < 64∧0≤x.getD (o + 1) 0∧x.getD (o + 1) 0 < 64):=decide_eq_true_iff
theorem Z16y {x:List Int} {a b p:Nat} (ha:Z10z x a=true) (hb:Z10z x b=true) (hp:pixB x p=true):-137438953472≤wgt x a b p∧wgt x a b p≤137438953472:=by
 rw [Z1h] at ha hb
 rw [Z2d] at hp
 have k1:=Z16 (x:=x.getD b 0 - x.getD a 0) (y:=8 * x.getD (p + 1) 0 + 4 - x.getD (a + 1) 0) (m:=262144) (n:=262144) (by omega) (by omega)
 have k2:=Z16 (x:=8 * x.getD p 0 + 4 - x.getD a 0) (y:=x.getD (b + 1) 0 - x.getD (a + 1) 0) (m:=262144) (n:=262144) (by omega) (by omega)
 unfold wgt
 omega
noncomputable def Zbg:List Sum:=[]
def Z16z:List Inf:=[]
def Zj7:TX:=(.ite (.or (.or (.lt (.v 0) (.c (-131072))) (.lt (.c 131072) (.v 0))) (.or (.or (.lt (.v 1) (.c (-131072))) (.lt (.c 131072) (.v 1))) (.or (.or (.lt (.v 2) (.c 1)) (.lt (.c 65536) (.v 2))) (.or (.or (.lt (.v 3) (.c 0)) (.lt (.c 255) (.v 3))) (.or (.or (.lt (.v 4) (.c 0)) (.lt (.c 255) (.v 4))) (.or (.or (.lt (.v 5) (.c (-131072))) (.lt (.c 131072) (.v 5))) (.or (.or (.lt (.v 6) (.c (-131072))) (.lt (.c 131072) (.v 6))) (.or (.or (.lt (.v 7) (.c 1)) (.lt (.c 65536) (.v 7))) (.or (.or (.lt (.v 8) (.c 0)) (.lt (.c 255) (.v 8))) (.or (.or (.lt (.v 9) (.c 0)) (.lt (.c 255) (.v 9))) (.or (.or (.lt (.v 10) (.c (-131072))) (.lt (.c 131072) (.v 10))) (.or (.or (.lt (.v 11) (.c (-131072))) (.lt (.c 131072) (.v 11))) (.or (.or (.lt (.v 12) (.c 1)) (.lt (.c 65536) (.v 12))) (.or (.or (.lt (.v 13) (.c 0)) (.lt (.c 255) (.v 13))) (.or (.lt (.v 14) (.c 0)) (.lt (.c 255) (.v 14))))))))))))))))) (.ret [(.c 0),(.c 0),(.c 0),(.c 8)])
(.ite (.le (.sub (.mul (.sub (.v 5) (.v 0)) (.sub (.v 11) (.v 1))) (.mul (.sub (.v 10) (.v 0)) (.sub (.v 6) (.v 1)))) (.c 0)) (.ret [(.c 0),(.c 0),(.c 0),(.c 6)])
(.ite (.or (.lt (.mn (.v 15) (.v 16)) (.c 0)) (.le (.c 64) (.mx (.v 15) (.v 16)))) (.ret [(.c 0),(.c 0),(.c 0),(.c 2)])
(.ret [(.sub (.mul (.sub (.v 10) (.v 5)) (.sub (.add (.mul (.c 8) (.v 16)) (.c 4)) (.v 6))) (.mul (.sub (.add (.mul (.c 8) (.v 15)) (.c 4)) (.v 5)) (.sub (.v 11) (.v 6)))),(.sub (.mul (.sub (.v 0) (.v 10)) (.sub (.add (.mul (.c 8) (.v 16)) (.c 4)) (.v 11))) (.mul (.sub (.add (.mul (.c 8) (.v 15)) (.c 4)) (.v 10)) (.sub (.v 1) (.v 11)))),(.sub (.mul (.sub (.v 5) (.v 0)) (.sub (.add (.mul (.c 8) (.v 16)) (.c 4)) (.v 1))) (.mul (.sub (.add (.mul (.c 8) (.v 15)) (.c 4)) (.v 0)) (.sub (.v 6) (.v 1)))),(.c 0)]))))
theorem Z115:Z12 (Zr [] Z16z [] Zj5 (Zq Tryz.prog Z7x gl0 Zbg 1000 95 [An 15,I1,I1] [An 3,I1]))=Zj7:=by kernel_rfl
theorem Z1iv:Gok Tryz.prog Zbg:=noG
theorem Z1iw:Zj Zbg Z16z:=Z8
theorem Z1d4:Zng.ok Tryz.prog:=Sum.okF facts.mixed Z1iv Z1iw Z115 rfl (fun _=>rfl) (by
 intro xs hx hp
 obtain ⟨a0,a1,a2,a3,a4,a5,a6,a7,a8,a9,a10,a11,a12,a13,a14,a15,a16,rfl⟩:=Z1hq hx
 by_cases hc0:Z8g [a0,a1,a2,a3,a4,a5,a6,a7,a8,a9,a10,a11,a12,a13,a14,a15,a16]=true
 ·by_cases hc1:0 < (a5 - a0) * (a11 - a1) - (a10 - a0) * (a6 - a1)
  ·by_cases hc2:pixB [a0,a1,a2,a3,a4,a5,a6,a7,a8,a9,a10,a11,a12,a13,a14,a15,a16] 15=true
   ·have hd0:=hc0
    try simp only [Z8g,Z1kr,Z1h,Z2d,TX.sat,XB.prop,X.den,Z1kk,Z1kl,Z1ke,Z1kf,Z1ki,Z1kj,Z1kg,Z1kh,mkS,mkP,and_true,true_and,Z1kp,Z1kq,not_or,not_and,Z1km,ne_eq,Z1kn,Z1ko,Nat.reduceAdd,Nat.zero_add] at hd0
    have hd1:=hc1
    try simp only [Z8g,Z1kr,Z1h,Z2d,TX.sat,XB.prop,X.den,Z1kk,Z1kl,Z1ke,Z1kf,Z1ki,Z1kj,Z1kg,Z1kh,mkS,mkP,and_true,true_and,Z1kp,Z1kq,not_or,not_and,Z1km,ne_eq,Z1kn,Z1ko,Nat.reduceAdd,Nat.zero_add] at hd1
    have hd2:=hc2
    try simp only [Z8g,Z1kr,Z1h,Z2d,TX.sat,XB.prop,X.den,Z1kk,Z1kl,Z1ke,Z1kf,Z1ki,Z1kj,Z1kg,Z1kh,mkS,mkP,and_true,true_and,Z1kp,Z1kq,not_or,not_and,Z1km,ne_eq,Z1kn,Z1ko,Nat.reduceAdd,Nat.zero_add] at hd2
    simp only [Zj7,Zbg,TX.sat,XB.prop,X.den,Z1kk,Z1kl,Z1ke,Z1kf,Z1ki,Z1kj,Z1kg,Z1kh,mkS,mkP,and_true,true_and,Z1kp,Z1kq,not_or,not_and,Z1km,ne_eq,Z1kn,Z1ko,Z5m,Zz,wgt,Z6x,Z3l,hc0,hc1,hc2,ex3,ex4,ex5,ex6,Zfx,Zam,er,b01,Zb,if_true,if_false,reduceIte,Bool.false_eq_true,Nat.reduceAdd,Nat.zero_add]
    clear hc0 hc1 hc2
    repeat' first | exact trivial | refine And.intro ?_ ?_ | intro _
    all_goals first | trivial | rfl | omega | (simp [Int.max_comm,Int.min_comm]; done) | (simp only [List.cons.injEq,and_true,true_and]; omega) | (split <;> first | trivial | rfl | omega)
   ·have hd0:=hc0
    try simp only [Z8g,Z1kr,Z1h,Z2d,TX.sat,XB.prop,X.den,Z1kk,Z1kl,Z1ke,Z1kf,Z1ki,Z1kj,Z1kg,Z1kh,mkS,mkP,and_true,true_and,Z1kp,Z1kq,not_or,not_and,Z1km,ne_eq,Z1kn,Z1ko,Nat.reduceAdd,Nat.zero_add] at hd0
    have hd1:=hc1
    try simp only [Z8g,Z1kr,Z1h,Z2d,TX.sat,XB.prop,X.den,Z1kk,Z1kl,Z1ke,Z1kf,Z1ki,Z1kj,Z1kg,Z1kh,mkS,mkP,and_true,true_and,Z1kp,Z1kq,not_or,not_and,Z1km,ne_eq,Z1kn,Z1ko,Nat.reduceAdd,Nat.zero_add] at hd1
    have hd2:=hc2
    try simp only [Z8g,Z1kr,Z1h,Z2d,TX.sat,XB.prop,X.den,Z1kk,Z1kl,Z1ke,Z1kf,Z1ki,Z1kj,Z1kg,Z1kh,mkS,mkP,and_true,true_and,Z1kp,Z1kq,not_or,not_and,Z1km,ne_eq,Z1kn,Z1ko,Nat.reduceAdd,Nat.zero_add] at hd2
    simp only [Zj7,Zbg,TX.sat,XB.prop,X.den,Z1kk,Z1kl,Z1ke,Z1kf,Z1ki,Z1kj,Z1kg,Z1kh,mkS,mkP,and_true,true_and,Z1kp,Z1kq,not_or,not_and,Z1km,ne_eq,Z1kn,Z1ko,Z5m,Zz,wgt,Z6x,Z3l,hc0,hc1,hc2,ex3,ex4,ex5,ex6,Zfx,Zam,er,b01,Zb,if_true,if_false,reduceIte,Bool.false_eq_true,Nat.reduceAdd,Nat.zero_add]
    clear hc0 hc1 hc2
    repeat' first | exact trivial | refine And.intro ?_ ?_ | intro _
    all_goals first | trivial | rfl | omega | (simp [Int.max_comm,Int.min_comm]; done) | (simp only [List.cons.injEq,and_true,true_and]; omega) | (split <;> first | trivial | rfl | omega)
  ·have hd0:=hc0
   try simp only [Z8g,Z1kr,Z1h,Z2d,TX.sat,XB.prop,X.den,Z1kk,Z1kl,Z1ke,Z1kf,Z1ki,Z1kj,Z1kg,Z1kh,mkS,mkP,and_true,true_and,Z1kp,Z1kq,not_or,not_and,Z1km,ne_eq,Z1kn,Z1ko,Nat.reduceAdd,Nat.zero_add] at hd0
   have hd1:=hc1
   try simp only [Z8g,Z1kr,Z1h,Z2d,TX.sat,XB.prop,X.den,Z1kk,Z1kl,Z1ke,Z1kf,Z1ki,Z1kj,Z1kg,Z1kh,mkS,mkP,and_true,true_and,Z1kp,Z1kq,not_or,not_and,Z1km,ne_eq,Z1kn,Z1ko,Nat.reduceAdd,Nat.zero_add] at hd1
   simp only [Zj7,Zbg,TX.sat,XB.prop,X.den,Z1kk,Z1kl,Z1ke,Z1kf,Z1ki,Z1kj,Z1kg,Z1kh,mkS,mkP,and_true,true_and,Z1kp,Z1kq,not_or,not_and,Z1km,ne_eq,Z1kn,Z1ko,Z5m,Zz,wgt,Z6x,Z3l,hc0,hc1,ex3,ex4,ex5,ex6,Zfx,Zam,er,b01,Zb,if_true,if_false,reduceIte,Bool.false_eq_true,Nat.reduceAdd,Nat.zero_add]
   clear hc0 hc1
   repeat' first | exact trivial | refine And.intro ?_ ?_ | intro _
   all_goals first | trivial | rfl | omega | (simp [Int.max_comm,Int.min_comm]; done) | (simp only [List.cons.injEq,and_true,true_and]; omega) | (split <;> first | trivial | rfl | omega)
 ·have hd0:=hc0
  try simp only [Z8g,Z1kr,Z1h,Z2d,TX.sat,XB.prop,X.den,Z1kk,Z1kl,Z1ke,Z1kf,Z1ki,Z1kj,Z1kg,Z1kh,mkS,mkP,and_true,true_and,Z1kp,Z1kq,not_or,not_and,Z1km,ne_eq,Z1kn,Z1ko,Nat.reduceAdd,Nat.zero_add] at hd0
  simp only [Zj7,Zbg,TX.sat,XB.prop,X.den,Z1kk,Z1kl,Z1ke,Z1kf,Z1ki,Z1kj,Z1kg,Z1kh,mkS,mkP,and_true,true_and,Z1kp,Z1kq,not_or,not_and,Z1km,ne_eq,Z1kn,Z1ko,Z5m,Zz,wgt,Z6x,Z3l,hc0,ex3,ex4,ex5,ex6,Zfx,Zam,er,b01,Zb,if_true,if_false,reduceIte,Bool.false_eq_true,Nat.reduceAdd,Nat.zero_add]
  clear hc0
  repeat' first | exact trivial | refine And.intro ?_ ?_ | intro _
  all_goals first | trivial | rfl | omega | (simp [Int.max_comm,Int.min_comm]; done) | (simp only [List.cons.injEq,and_true,true_and]; omega) | (split <;> first | trivial | rfl | omega))
theorem Zj8 {x:List Int} (h:Z5m x=0):Z8g x=true∧0 < Zz x:=by
 unfold Z5m at h
 split at h
 ·split at h
  ·rename_i h1 h2; exact ⟨h1,h2⟩
  ·omega
 ·omega
theorem Zgh {x:List Int} (h:(Z3l x).getD 3 0=0):Z8g x=true∧0 < Zz x∧pixB x 15=true∧Z3l x=[wgt x 5 10 15,wgt x 10 0 15,wgt x 0 5 15,0]:=by
 unfold Z3l at h ⊢
 split at h
 ·rename_i he
  rw [if_pos he]
  obtain ⟨h1,h2⟩:=Zj8 he
  split at h
  ·rename_i hp
   rw [if_pos hp]
   exact ⟨h1,h2,hp,rfl⟩
  ·simp at h
 ·rename_i he
  exact absurd h he
theorem Zj9:Z1g Zng Z16l:=⟨fun _ h=>h,fun vs xs h hp=>by
 show Z17 (ivs 3 (-137438953472) 137438953472++[iv 0 8]) (ex4 (Z3l xs))
 unfold Z3l
 split
 ·rename_i he
  obtain ⟨h1,h2⟩:=Zj8 he
  split
  ·rename_i hpx
   simp only [Z8g,Z1kr] at h1
   exact Z1 (Z5.2 (Z16y h1.2.1 h1.2.2 hpx)) (Z1 (Z5.2 (Z16y h1.2.2 h1.1 hpx)) (Z1 (Z5.2 (Z16y h1.1 h1.2.1 hpx)) (Z1 (Z5.2 (by simp)) Z4)))
  ·exact Z1 (Z5.2 (by simp)) (Z1 (Z5.2 (by simp)) (Z1 (Z5.2 (by simp)) (Z1 (Z5.2 (by simp)) Z4)))
 ·have h8:0≤Z5m xs∧Z5m xs≤8:=by unfold Z5m; split; split <;> simp; simp
  exact Z1 (Z5.2 (by simp)) (Z1 (Z5.2 (by simp)) (Z1 (Z5.2 (by simp)) (Z1 h8 Z4)))⟩
noncomputable def Zgi:List Sum:=[Zng]
def Zxm:List Inf:=[Z16l]
def Zxn:TX:=(.callp 0 [(.v 0),(.v 1),(.v 2),(.v 3),(.v 4),(.v 5),(.v 6),(.v 7),(.v 8),(.v 9),(.v 10),(.v 11),(.v 12),(.v 13),(.v 14),(.v 15),(.v 16)] (.ite (.not (.eq (.v 20) (.c 0))) (.ret [(.c 0),(.v 20)])
(.ite (.or (.or (.lt (.v 17) (.c 0)) (.and (.eq (.v 17) (.c 0)) (.and (.le (.v 6) (.v 11)) (.or (.not (.eq (.v 11) (.v 6))) (.le (.v 10) (.v 5)))))) (.or (.or (.lt (.v 18) (.c 0)) (.and (.eq (.v 18) (.c 0)) (.and (.le (.v 11) (.v 1)) (.or (.not (.eq (.v 1) (.v 11))) (.le (.v 0) (.v 10)))))) (.or (.lt (.v 19) (.c 0)) (.and (.eq (.v 19) (.c 0)) (.and (.le (.v 1) (.v 6)) (.or (.not (.eq (.v 6) (.v 1))) (.le (.v 5) (.v 0)))))))) (.ret [(.c 0),(.c 0)])
(.ret [(.c 1),(.c 0)]))))
theorem Zud:Z12 (Zr [] Zxm [] Zeo (Zq Tryz.prog Z7x gl0 Zgi 1000 94 [An 15,I1,I1] [Bo,I1]))=Zxn:=by kernel_rfl
theorem Z1d5:Gok Tryz.prog Zgi:=(fix.one Z1d4)
theorem Z1d6:Zj Zgi Zxm:=(Z2 Zj9 Z8)
theorem Zxo {x:List Int}:Zrz x=true↔(0 < wgt x 5 10 15∨(wgt x 5 10 15=0∧(x.getD 11 0 < x.getD 6 0∨(x.getD 11 0=x.getD 6 0∧x.getD 5 0 < x.getD 10 0)))) ∧
  (0 < wgt x 10 0 15∨(wgt x 10 0 15=0∧(x.getD 1 0 < x.getD 11 0∨(x.getD 1 0=x.getD 11 0∧x.getD 10 0 < x.getD 0 0)))) ∧
  (0 < wgt x 0 5 15∨(wgt x 0 5 15=0∧(x.getD 6 0 < x.getD 1 0∨(x.getD 6 0=x.getD 1 0∧x.getD 0 0 < x.getD 5 0)))):=by
 simp only [Zrz,Z1cz,ownsB,Z1kr,Zb,Nat.reduceAdd,Nat.zero_add]
theorem Z170:Zaa.ok Tryz.prog:=Sum.okF facts.mixed Z1d5 Z1d6 Zud rfl (fun _=>rfl) (by
 intro xs hx hp
 obtain ⟨a0,a1,a2,a3,a4,a5,a6,a7,a8,a9,a10,a11,a12,a13,a14,a15,a16,rfl⟩:=Z1hq hx
 have hE:=@Zgh [a0,a1,a2,a3,a4,a5,a6,a7,a8,a9,a10,a11,a12,a13,a14,a15,a16]
 have hh:=@Zxo [a0,a1,a2,a3,a4,a5,a6,a7,a8,a9,a10,a11,a12,a13,a14,a15,a16]
 simp only [TX.sat,XB.prop,X.den,Z1kk,Z1kl,Z1ke,Z1kf,Z1ki,Z1kj,Z1kg,Z1kh,mkS,mkP,and_true,true_and,Z1kp,Z1kq,not_or,not_and,Z1km,ne_eq,Z1kn,Z1ko] at hh
 simp only [Zxn,Zgi,Zng,TX.sat,XB.prop,X.den,Z1kk,Z1kl,Z1ke,Z1kf,Z1ki,Z1kj,Z1kg,Z1kh,mkS,mkP,and_true,true_and,Z1kp,Z1kq,not_or,not_and,Z1km,ne_eq,Z1kn,Z1ko,Z6x,Z6y,Z9a,ex4]
 clear hp hx
 by_cases he:(Z3l [a0,a1,a2,a3,a4,a5,a6,a7,a8,a9,a10,a11,a12,a13,a14,a15,a16]).getD 3 0=0
 ·obtain ⟨_,_,_,hv⟩:=hE he
  rw [hv]
  simp only [TX.sat,XB.prop,X.den,Z1kk,Z1kl,Z1ke,Z1kf,Z1ki,Z1kj,Z1kg,Z1kh,mkS,mkP,and_true,true_and,Z1kp,Z1kq,not_or,not_and,Z1km,ne_eq,Z1kn,Z1ko,if_true,reduceIte]
  generalize wgt _ 5 10 15=w0 at *
  generalize wgt _ 10 0 15=w1 at *
  generalize wgt _ 0 5 15=w2 at *
  refine ⟨fun h=>h.elim,fun _=>⟨fun h=>?_,fun h=>?_⟩⟩
  ·have:Zrz [a0,a1,a2,a3,a4,a5,a6,a7,a8,a9,a10,a11,a12,a13,a14,a15,a16]=false:=by
    rw [← Bool.not_eq_true,hh]; omega
   rw [this]; rfl
  ·have:Zrz [a0,a1,a2,a3,a4,a5,a6,a7,a8,a9,a10,a11,a12,a13,a14,a15,a16]=true:=by
    rw [hh]; omega
   rw [this]; rfl
 ·rw [if_neg he]
  exact ⟨fun _=>rfl,fun h=>absurd h he⟩)
theorem Z116:Z1g Zaa Zxj:=⟨fun _ h=>h,fun vs xs h hp=>by
 show Z17 [iv 0 1,iv 0 8] [(Z9a xs).getD 0 0,(Z9a xs).getD 1 0]
 have h8:=(Zj9.2 vs xs h hp).2 3
 unfold Z9a
 split
 ·exact Z1 (Zf9 _) (Z1 (Z5.2 (by simp)) Z4)
 ·exact Z1 (Z5.2 (by simp)) (Z1 h8 Z4)⟩
theorem Z1d7 (x:List Int):wgt x 5 10 15 + wgt x 10 0 15 + wgt x 0 5 15=Zz x:=by
 simp only [wgt,Zz,Nat.reduceAdd,Nat.zero_add]
 grind
theorem Zgj {x:List Int} (h:Zrz x=true):0≤wgt x 5 10 15∧0≤wgt x 10 0 15∧0≤wgt x 0 5 15:=by
 rw [Zxo] at h
 omega
theorem Zbh {w d m n:Int} (hw:0≤w) (h1:m≤d) (h2:d≤n):w * m≤w * d∧w * d≤w * n :=
 ⟨Int.mul_le_mul_of_nonneg_left h1 hw,Int.mul_le_mul_of_nonneg_left h2 hw⟩
theorem Znl {w0 w1 w2 d0 d1 d2 m n:Int} (h0:0≤w0) (h1:0≤w1) (h2:0≤w2) (k0:m≤d0∧d0≤n) (k1:m≤d1∧d1≤n) (k2:m≤d2∧d2≤n) :
  (w0 + w1 + w2) * m≤w0 * d0 + w1 * d1 + w2 * d2∧w0 * d0 + w1 * d1 + w2 * d2≤(w0 + w1 + w2) * n:=by
 have e0:=Zbh h0 k0.1 k0.2
 have e1:=Zbh h1 k1.1 k1.2
 have e2:=Zbh h2 k2.1 k2.2
 rw [Int.add_mul,Int.add_mul,Int.add_mul,Int.add_mul]
 omega
theorem Z9c {x:List Int} (h:Z8g x=true):((-131072≤x.getD 0 0∧x.getD 0 0≤131072)∧(-131072≤x.getD 1 0∧x.getD 1 0≤131072)∧(1≤x.getD 2 0∧x.getD 2 0≤65536)∧(0≤x.getD 3 0∧x.getD 3 0≤255)∧(0≤x.getD 4 0∧x.getD 4 0≤255)) ∧
  ((-131072≤x.getD 5 0∧x.getD 5 0≤131072)∧(-131072≤x.getD 6 0∧x.getD 6 0≤131072)∧(1≤x.getD 7 0∧x.getD 7 0≤65536)∧(0≤x.getD 8 0∧x.getD 8 0≤255)∧(0≤x.getD 9 0∧x.getD 9 0≤255)) ∧
  ((-131072≤x.getD 10 0∧x.getD 10 0≤131072)∧(-131072≤x.getD 11 0∧x.getD 11 0≤131072)∧(1≤x.getD 12 0∧x.getD 12 0≤65536)∧(0≤x.getD 13 0∧x.getD 13 0≤255)∧(0≤x.getD 14 0∧x.getD 14 0≤255)):=by
 simp only [Z8g,Z1kr,Z1h,Nat.reduceAdd,Nat.zero_add] at h
 exact h
theorem Z171 {x:List Int} (h:Z8g x=true) (hh:Zrz x=true):Zz x≤Z6z x∧Z6z x≤Zz x * 65536:=by
 obtain ⟨⟨_,_,h2,_⟩,⟨_,_,h7,_⟩,_,_,h12,_⟩:=Z9c h
 obtain ⟨w0,w1,w2⟩:=Zgj hh
 have:=Znl w0 w1 w2 h2 h7 h12
 rw [Z1d7] at this
 unfold Z6z
 omega
theorem Z1g0 {x:List Int} {o:Nat} (h:Z8g x=true) (hh:Zrz x=true) (h3:0≤x.getD o 0∧x.getD o 0≤255) (h8:0≤x.getD (o + 5) 0∧x.getD (o + 5) 0≤255) (h13:0≤x.getD (o + 10) 0∧x.getD (o + 10) 0≤255):0≤Zuc x o∧Zuc x o≤Z6z x * 255:=by
 obtain ⟨⟨_,_,h2,_⟩,⟨_,_,h7,_⟩,_,_,h12,_⟩:=Z9c h
 obtain ⟨w0,w1,w2⟩:=Zgj hh
 have:=Znl (Int.mul_nonneg w0 (by omega:0≤x.getD 2 0)) (Int.mul_nonneg w1 (by omega:0≤x.getD 7 0)) (Int.mul_nonneg w2 (by omega:0≤x.getD 12 0)) h3 h8 h13
 unfold Zuc Z6z
 omega
theorem Zxp {x:List Int} (h:Z8g x=true) (ht:0 < Zz x) (hh:Zrz x=true):1≤Zz x∧Zz x≤137438953472∧1≤Z6z x∧Z6z x≤9007199254740992∧(0≤Zuc x 3∧Zuc x 3≤Z6z x * 255)∧(0≤Zuc x 4∧Zuc x 4≤Z6z x * 255):=by
 have k1:=Zxk h
 have k2:=Z171 h hh
 obtain ⟨⟨_,_,_,h3,h4⟩,⟨_,_,_,h8,h9⟩,_,_,_,h13,h14⟩:=Z9c h
 have k3:=Z1g0 (o:=3) h hh h3 h8 h13
 have k4:=Z1g0 (o:=4) h hh h4 h9 h14
 omega
theorem Zxq {a b:Int} (h1:-9223372036854775808≤a) (h2:a≤9223372036854775807) (h3:1≤b) (h4:b≤9223372036854775807):Z17 [zz,pos] [a,b]:=Z1 ⟨h1,h2⟩ (Z1 ⟨h3,h4⟩ Z4)
noncomputable def Zla:List Sum:=[Zaa,Z1l]
def Z1g1:List Inf:=[Zxj,Z8x]
def Zxr:TX:=(.callp 0 [(.v 0),(.v 1),(.v 2),(.v 3),(.v 4),(.v 5),(.v 6),(.v 7),(.v 8),(.v 9),(.v 10),(.v 11),(.v 12),(.v 13),(.v 14),(.v 15),(.v 16)] (.ite (.not (.eq (.v 18) (.c 0))) (.ret [(.c 0),(.c 0),(.c 0),(.c 0),(.c 0),(.v 18)])
(.ite (.eq (.v 17) (.c 0)) (.ret [(.c 0),(.c 0),(.c 0),(.c 0),(.c 0),(.c 6)])
(.ite (.or (.or (.lt (.v 0) (.c (-131072))) (.lt (.c 131072) (.v 0))) (.or (.or (.lt (.v 1) (.c (-131072))) (.lt (.c 131072) (.v 1))) (.or (.or (.lt (.v 2) (.c 1)) (.lt (.c 65536) (.v 2))) (.or (.or (.lt (.v 3) (.c 0)) (.lt (.c 255) (.v 3))) (.or (.or (.lt (.v 4) (.c 0)) (.lt (.c 255) (.v 4))) (.or (.or (.lt (.v 5) (.c (-131072))) (.lt (.c 131072) (.v 5))) (.or (.or (.lt (.v 6) (.c (-131072))) (.lt (.c 131072) (.v 6))) (.or (.or (.lt (.v 7) (.c 1)) (.lt (.c 65536) (.v 7))) (.or (.or (.lt (.v 8) (.c 0)) (.lt (.c 255) (.v 8))) (.or (.or (.lt (.v 9) (.c 0)) (.lt (.c 255) (.v 9))) (.or (.or (.lt (.v 10) (.c (-131072))) (.lt (.c 131072) (.v 10))) (.or (.or (.lt (.v 11) (.c (-131072))) (.lt (.c 131072) (.v 11))) (.or (.or (.lt (.v 12) (.c 1)) (.lt (.c 65536) (.v 12))) (.or (.or (.lt (.v 13) (.c 0)) (.lt (.c 255) (.v 13))) (.or (.lt (.v 14) (.c 0)) (.lt (.c 255) (.v 14))))))))))))))))) (.ret [(.c 0),(.c 0),(.c 0),(.c 0),(.c 0),(.c 8)])
(.ite (.le (.sub (.mul (.sub (.v 5) (.v 0)) (.sub (.v 11) (.v 1))) (.mul (.sub (.v 10) (.v 0)) (.sub (.v 6) (.v 1)))) (.c 0)) (.ret [(.c 0),(.c 0),(.c 0),(.c 0),(.c 0),(.c 6)])
(.ite (.or (.lt (.mn (.v 15) (.v 16)) (.c 0)) (.le (.c 64) (.mx (.v 15) (.v 16)))) (.ret [(.c 0),(.c 0),(.c 0),(.c 0),(.c 0),(.c 2)])
(.call 1 [(.add (.add (.add (.c 0) (.mul (.mul (.sub (.mul (.sub (.v 10) (.v 5)) (.sub (.add (.mul (.c 8) (.v 16)) (.c 4)) (.v 6))) (.mul (.sub (.add (.mul (.c 8) (.v 15)) (.c 4)) (.v 5)) (.sub (.v 11) (.v 6)))) (.v 2)) (.c 1))) (.mul (.mul (.sub (.mul (.sub (.v 0) (.v 10)) (.sub (.add (.mul (.c 8) (.v 16)) (.c 4)) (.v 11))) (.mul (.sub (.add (.mul (.c 8) (.v 15)) (.c 4)) (.v 10)) (.sub (.v 1) (.v 11)))) (.v 7)) (.c 1))) (.mul (.mul (.sub (.mul (.sub (.v 5) (.v 0)) (.sub (.add (.mul (.c 8) (.v 16)) (.c 4)) (.v 1))) (.mul (.sub (.add (.mul (.c 8) (.v 15)) (.c 4)) (.v 0)) (.sub (.v 6) (.v 1)))) (.v 12)) (.c 1))),(.add (.add (.add (.c 0) (.sub (.mul (.sub (.v 10) (.v 5)) (.sub (.add (.mul (.c 8) (.v 16)) (.c 4)) (.v 6))) (.mul (.sub (.add (.mul (.c 8) (.v 15)) (.c 4)) (.v 5)) (.sub (.v 11) (.v 6))))) (.sub (.mul (.sub (.v 0) (.v 10)) (.sub (.add (.mul (.c 8) (.v 16)) (.c 4)) (.v 11))) (.mul (.sub (.add (.mul (.c 8) (.v 15)) (.c 4)) (.v 10)) (.sub (.v 1) (.v 11))))) (.sub (.mul (.sub (.v 5) (.v 0)) (.sub (.add (.mul (.c 8) (.v 16)) (.c 4)) (.v 1))) (.mul (.sub (.add (.mul (.c 8) (.v 15)) (.c 4)) (.v 0)) (.sub (.v 6) (.v 1)))))] (.call 1 [(.add (.add (.add (.c 0) (.mul (.mul (.sub (.mul (.sub (.v 10) (.v 5)) (.sub (.add (.mul (.c 8) (.v 16)) (.c 4)) (.v 6))) (.mul (.sub (.add (.mul (.c 8) (.v 15)) (.c 4)) (.v 5)) (.sub (.v 11) (.v 6)))) (.v 2)) (.v 3))) (.mul (.mul (.sub (.mul (.sub (.v 0) (.v 10)) (.sub (.add (.mul (.c 8) (.v 16)) (.c 4)) (.v 11))) (.mul (.sub (.add (.mul (.c 8) (.v 15)) (.c 4)) (.v 10)) (.sub (.v 1) (.v 11)))) (.v 7)) (.v 8))) (.mul (.mul (.sub (.mul (.sub (.v 5) (.v 0)) (.sub (.add (.mul (.c 8) (.v 16)) (.c 4)) (.v 1))) (.mul (.sub (.add (.mul (.c 8) (.v 15)) (.c 4)) (.v 0)) (.sub (.v 6) (.v 1)))) (.v 12)) (.v 13))),(.add (.add (.add (.c 0) (.mul (.mul (.sub (.mul (.sub (.v 10) (.v 5)) (.sub (.add (.mul (.c 8) (.v 16)) (.c 4)) (.v 6))) (.mul (.sub (.add (.mul (.c 8) (.v 15)) (.c 4)) (.v 5)) (.sub (.v 11) (.v 6)))) (.v 2)) (.c 1))) (.mul (.mul (.sub (.mul (.sub (.v 0) (.v 10)) (.sub (.add (.mul (.c 8) (.v 16)) (.c 4)) (.v 11))) (.mul (.sub (.add (.mul (.c 8) (.v 15)) (.c 4)) (.v 10)) (.sub (.v 1) (.v 11)))) (.v 7)) (.c 1))) (.mul (.mul (.sub (.mul (.sub (.v 5) (.v 0)) (.sub (.add (.mul (.c 8) (.v 16)) (.c 4)) (.v 1))) (.mul (.sub (.add (.mul (.c 8) (.v 15)) (.c 4)) (.v 0)) (.sub (.v 6) (.v 1)))) (.v 12)) (.c 1)))] (.call 1 [(.add (.add (.add (.c 0) (.mul (.mul (.sub (.mul (.sub (.v 10) (.v 5)) (.sub (.add (.mul (.c 8) (.v 16)) (.c 4)) (.v 6))) (.mul (.sub (.add (.mul (.c 8) (.v 15)) (.c 4)) (.v 5)) (.sub (.v 11) (.v 6)))) (.v 2)) (.v 4))) (.mul (.mul (.sub (.mul (.sub (.v 0) (.v 10)) (.sub (.add (.mul (.c 8) (.v 16)) (.c 4)) (.v 11))) (.mul (.sub (.add (.mul (.c 8) (.v 15)) (.c 4)) (.v 10)) (.sub (.v 1) (.v 11)))) (.v 7)) (.v 9))) (.mul (.mul (.sub (.mul (.sub (.v 5) (.v 0)) (.sub (.add (.mul (.c 8) (.v 16)) (.c 4)) (.v 1))) (.mul (.sub (.add (.mul (.c 8) (.v 15)) (.c 4)) (.v 0)) (.sub (.v 6) (.v 1)))) (.v 12)) (.v 14))),(.add (.add (.add (.c 0) (.mul (.mul (.sub (.mul (.sub (.v 10) (.v 5)) (.sub (.add (.mul (.c 8) (.v 16)) (.c 4)) (.v 6))) (.mul (.sub (.add (.mul (.c 8) (.v 15)) (.c 4)) (.v 5)) (.sub (.v 11) (.v 6)))) (.v 2)) (.c 1))) (.mul (.mul (.sub (.mul (.sub (.v 0) (.v 10)) (.sub (.add (.mul (.c 8) (.v 16)) (.c 4)) (.v 11))) (.mul (.sub (.add (.mul (.c 8) (.v 15)) (.c 4)) (.v 10)) (.sub (.v 1) (.v 11)))) (.v 7)) (.c 1))) (.mul (.mul (.sub (.mul (.sub (.v 5) (.v 0)) (.sub (.add (.mul (.c 8) (.v 16)) (.c 4)) (.v 1))) (.mul (.sub (.add (.mul (.c 8) (.v 15)) (.c 4)) (.v 0)) (.sub (.v 6) (.v 1)))) (.v 12)) (.c 1)))] (.ret [(.add (.mul (.c 8) (.v 15)) (.c 4)),(.add (.mul (.c 8) (.v 16)) (.c 4)),(.v 19),(.v 21),(.v 23),(.c 0)]))))))))))
theorem Z172:Z12 (Zr [] Z1g1 [] Znh (Zq Tryz.prog Z7x gl0 Zla 1000 61 [An 15,I1,I1] [An 5,I1]))=Zxr:=by kernel_rfl
theorem g_plat:Gok Tryz.prog Zla:=(more Z170 (fix.one Z7n))
theorem o_plat:Zj Zla Z1g1:=(Z2 Z116 (Z2 Z5k Z8))
theorem Z173:Zl9.ok Tryz.prog:=Sum.okF facts.mixed g_plat o_plat Z172 rfl (fun _=>rfl) (by
 intro xs hx hp
 obtain ⟨a0,a1,a2,a3,a4,a5,a6,a7,a8,a9,a10,a11,a12,a13,a14,a15,a16,rfl⟩:=Z1hq hx
 have hE:=@Zgh [a0,a1,a2,a3,a4,a5,a6,a7,a8,a9,a10,a11,a12,a13,a14,a15,a16]
 clear hp hx
 by_cases he:(Z3l [a0,a1,a2,a3,a4,a5,a6,a7,a8,a9,a10,a11,a12,a13,a14,a15,a16]).getD 3 0=0
 ·obtain ⟨h1,h2,h3,hv⟩:=hE he
  have hc:Z9a [a0,a1,a2,a3,a4,a5,a6,a7,a8,a9,a10,a11,a12,a13,a14,a15,a16]=_:=if_pos he
  have hA:atL [a0,a1,a2,a3,a4,a5,a6,a7,a8,a9,a10,a11,a12,a13,a14,a15,a16]=_:=if_pos he
  cases hh:Zrz [a0,a1,a2,a3,a4,a5,a6,a7,a8,a9,a10,a11,a12,a13,a14,a15,a16] with
  | true =>
   rw [hh] at hc
   rw [if_pos hh] at hA
   obtain ⟨f1,f2,f3,f4,f5,f6⟩:=Zxp h1 h2 hh
   have hs:=Z1d7 [a0,a1,a2,a3,a4,a5,a6,a7,a8,a9,a10,a11,a12,a13,a14,a15,a16]
   have g0:(a10 - a5) * (8 * a16 + 4 - a6) - (8 * a15 + 4 - a5) * (a11 - a6)=wgt [a0,a1,a2,a3,a4,a5,a6,a7,a8,a9,a10,a11,a12,a13,a14,a15,a16] 5 10 15:=rfl
   have g1:(a0 - a10) * (8 * a16 + 4 - a11) - (8 * a15 + 4 - a10) * (a1 - a11)=wgt [a0,a1,a2,a3,a4,a5,a6,a7,a8,a9,a10,a11,a12,a13,a14,a15,a16] 10 0 15:=rfl
   have g2:(a5 - a0) * (8 * a16 + 4 - a1) - (8 * a15 + 4 - a0) * (a6 - a1)=wgt [a0,a1,a2,a3,a4,a5,a6,a7,a8,a9,a10,a11,a12,a13,a14,a15,a16] 0 5 15:=rfl
   have g3:(a5 - a0) * (a11 - a1) - (a10 - a0) * (a6 - a1)=Zz [a0,a1,a2,a3,a4,a5,a6,a7,a8,a9,a10,a11,a12,a13,a14,a15,a16]:=rfl
   have e1:wgt [a0,a1,a2,a3,a4,a5,a6,a7,a8,a9,a10,a11,a12,a13,a14,a15,a16] 5 10 15 * a2 + wgt [a0,a1,a2,a3,a4,a5,a6,a7,a8,a9,a10,a11,a12,a13,a14,a15,a16] 10 0 15 * a7 + wgt [a0,a1,a2,a3,a4,a5,a6,a7,a8,a9,a10,a11,a12,a13,a14,a15,a16] 0 5 15 * a12=Z6z [a0,a1,a2,a3,a4,a5,a6,a7,a8,a9,a10,a11,a12,a13,a14,a15,a16]:=rfl
   have e2:wgt [a0,a1,a2,a3,a4,a5,a6,a7,a8,a9,a10,a11,a12,a13,a14,a15,a16] 5 10 15 * a2 * a3 + wgt [a0,a1,a2,a3,a4,a5,a6,a7,a8,a9,a10,a11,a12,a13,a14,a15,a16] 10 0 15 * a7 * a8 + wgt [a0,a1,a2,a3,a4,a5,a6,a7,a8,a9,a10,a11,a12,a13,a14,a15,a16] 0 5 15 * a12 * a13=Zuc [a0,a1,a2,a3,a4,a5,a6,a7,a8,a9,a10,a11,a12,a13,a14,a15,a16] 3:=rfl
   have e3:wgt [a0,a1,a2,a3,a4,a5,a6,a7,a8,a9,a10,a11,a12,a13,a14,a15,a16] 5 10 15 * a2 * a4 + wgt [a0,a1,a2,a3,a4,a5,a6,a7,a8,a9,a10,a11,a12,a13,a14,a15,a16] 10 0 15 * a7 * a9 + wgt [a0,a1,a2,a3,a4,a5,a6,a7,a8,a9,a10,a11,a12,a13,a14,a15,a16] 0 5 15 * a12 * a14=Zuc [a0,a1,a2,a3,a4,a5,a6,a7,a8,a9,a10,a11,a12,a13,a14,a15,a16] 4:=rfl
   have ht:=Z9c h1
   simp only [TX.sat,XB.prop,X.den,Z1kk,Z1kl,Z1ke,Z1kf,Z1ki,Z1kj,Z1kg,Z1kh,mkS,mkP,and_true,true_and,Z1kp,Z1kq,not_or,not_and,Z1km,ne_eq,Z1kn,Z1ko] at ht
   have hpx:=Z2d.1 h3
   simp only [TX.sat,XB.prop,X.den,Z1kk,Z1kl,Z1ke,Z1kf,Z1ki,Z1kj,Z1kg,Z1kh,mkS,mkP,and_true,true_and,Z1kp,Z1kq,not_or,not_and,Z1km,ne_eq,Z1kn,Z1ko,Nat.reduceAdd] at hpx
   simp only [Zxr,Zla,Zaa,Z1l,TX.sat,XB.prop,X.den,Z1kk,Z1kl,Z1ke,Z1kf,Z1ki,Z1kj,Z1kg,Z1kh,mkS,mkP,and_true,true_and,Z1kp,Z1kq,not_or,not_and,Z1km,ne_eq,Z1kn,Z1ko,Z6y,Z1f,Zcw,hc,hA,ex6,b01,g0,g1,g2,g3,Int.zero_add,Int.mul_one,e1,e2,e3,hs]
   clear hE hc hA hv he g0 g1 g2 g3 e1 e2 e3 hs h1 h3 hh
   simp only [if_true,reduceIte]
   refine ⟨fun h=>h.elim,fun _=>⟨fun h=>absurd h (by decide),fun _=>⟨fun h=>?_,fun _=>⟨fun h=>?_,fun _=>⟨fun h=>?_,fun _=>?_⟩⟩⟩⟩⟩
   ·omega
   ·omega
   ·omega
   ·exact ⟨Zxq (by omega) (by omega) (by omega) (by omega),Zxq (by omega) (by omega) (by omega) (by omega),Zxq (by omega) (by omega) (by omega) (by omega)⟩
  | false =>
   rw [hh] at hc
   rw [if_neg (by rw [hh]; simp)] at hA
   simp only [Zxr,Zla,Zaa,Z1l,TX.sat,XB.prop,X.den,Z1kk,Z1kl,Z1ke,Z1kf,Z1ki,Z1kj,Z1kg,Z1kh,mkS,mkP,and_true,true_and,Z1kp,Z1kq,not_or,not_and,Z1km,ne_eq,Z1kn,Z1ko,Z6y,Z1f,Zcw,hc,hA,ex6,b01]
   exact ⟨fun h=>h.elim,fun _=>⟨fun _=>trivial,fun h=>absurd rfl h⟩⟩
 ·have hc:Z9a [a0,a1,a2,a3,a4,a5,a6,a7,a8,a9,a10,a11,a12,a13,a14,a15,a16]=_:=if_neg he
  have hA:atL [a0,a1,a2,a3,a4,a5,a6,a7,a8,a9,a10,a11,a12,a13,a14,a15,a16]=_:=if_neg he
  simp only [Zxr,Zla,Zaa,Z1l,TX.sat,XB.prop,X.den,Z1kk,Z1kl,Z1ke,Z1kf,Z1ki,Z1kj,Z1kg,Z1kh,mkS,mkP,and_true,true_and,Z1kp,Z1kq,not_or,not_and,Z1km,ne_eq,Z1kn,Z1ko,Z6y,Z1f,Zcw,hc,hA,ex6,b01]
  exact ⟨fun _=>trivial,fun h=>absurd h he⟩)
theorem Zbi {a b m n:Int} (hb:0 < b) (h1:b * m≤a) (h2:a≤b * n):m≤a / b∧a / b≤n:=by
 constructor
 ·rw [Int.le_ediv_iff_mul_le hb,Int.mul_comm]
  exact h1
 ·refine Int.ediv_le_of_le_mul hb ?_
  rw [Int.mul_comm]
  exact h2
theorem Z117 {x:List Int} (h:Z8g x=true) (ht:0 < Zz x) (hh:Zrz x=true):(1≤Z6z x / Zz x∧Z6z x / Zz x≤65536)∧(0≤Zuc x 3 / Z6z x∧Zuc x 3 / Z6z x≤255)∧(0≤Zuc x 4 / Z6z x∧Zuc x 4 / Z6z x≤255):=by
 obtain ⟨f1,f2,f3,f4,f5,f6⟩:=Zxp h ht hh
 have k:=Z171 h hh
 exact ⟨Zbi ht (by omega) k.2,Zbi (by omega) (by omega) (by omega),Zbi (by omega) (by omega) (by omega)⟩
theorem at_z {e:Int} (h1:0≤e) (h2:e≤8):Z17 (Zni []) (ex6 [0,0,0,0,0,e]) :=
 Z1 (Z5.2 (by simp)) (Z1 (Z5.2 (by simp)) (Z1 (Z5.2 (by simp)) (Z1 (Z5.2 (by simp)) (Z1 (Z5.2 (by simp)) (Z1 ⟨h1,h2⟩ Z4)))))
theorem Zxs:Z1g Zl9 Z16m:=⟨fun _ h=>h,fun vs xs h hp=>by
 show Z17 (Zni []) (ex6 (atL xs))
 have h8:0≤(Z3l xs).getD 3 0∧(Z3l xs).getD 3 0≤8:=(Zj9.2 vs xs h hp).2 3
 unfold atL
 split
 ·rename_i he
  obtain ⟨h1,h2,h3,_⟩:=Zgh he
  split
  ·rename_i hh
   obtain ⟨k1,k2,k3⟩:=Z117 h1 h2 hh
   rw [Z2d] at h3
   have h3':0≤xs.getD 15 0∧xs.getD 15 0 < 64∧0≤xs.getD 16 0∧xs.getD 16 0 < 64:=h3
   have w1:0≤8 * xs.getD 15 0 + 4∧8 * xs.getD 15 0 + 4≤511:=by omega
   have w2:0≤8 * xs.getD 16 0 + 4∧8 * xs.getD 16 0 + 4≤511:=by omega
   exact Z1 w1 (Z1 w2 (Z1 ⟨by show 0≤Z6z xs / Zz xs; omega,k1.2⟩ (Z1 k2 (Z1 k3 (Z1 (Z5.2 (by simp)) Z4)))))
  ·exact at_z (by omega) (by omega)
 ·exact at_z h8.1 h8.2⟩
end Go.Proofs.YtgcoidbaoigkeaaGreatDoor.fix
