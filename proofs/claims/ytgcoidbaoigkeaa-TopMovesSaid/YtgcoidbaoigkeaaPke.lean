/-
  Symbolic execution of the model, and what functions of the program come to: part 5.
-/
import Derived.Sort.OwnSortedInts
import Derived.Test.YtgcoidbaoigkeaaPkd
set_option linter.unusedVariables false
set_option linter.unusedSimpArgs false
open List renaming getElem?_cons_zero → Z18e, getElem?_cons_succ → Z18f, getD_cons_zero → Z18g, getD_cons_succ → Z18h, cons_append → Z18i, nil_append → Z18j, map_cons → Z18k, map_nil → Z18l
namespace Go.Proofs.Ytgcoidbaoigkeaa.fix
open Go.RowKit Go.Sx
noncomputable def Zer:List Sum:=[Zgi,Zhv,Z4q,Zee,Zhy]
def Zxn:List Inf:=[Z144,Zw0,Zw6,Zw3,Zw5]
def Zo6:TX:=(.asrt (.le (.c 0) (.v 18)) (.asrt (.lt (.v 18) (.ln (.v 0))) (.asrt (.le (.c 0) (.v 19)) (.asrt (.lt (.v 19) (.ln (.l2 .at (.l2 .at (.l2 .at (.v 0) (.v 18)) (.c 2)) (.c 4)))) (.asrt (.le (.c 0) (.l2 .at (.l2 .at (.l2 .at (.l2 .at (.l2 .at (.v 0) (.v 18)) (.c 2)) (.c 4)) (.v 19)) (.c 0))) (.asrt (.lt (.l2 .at (.l2 .at (.l2 .at (.l2 .at (.l2 .at (.v 0) (.v 18)) (.c 2)) (.c 4)) (.v 19)) (.c 0)) (.ln (.l2 .at (.l2 .at (.l2 .at (.v 0) (.v 18)) (.c 0)) (.c 4)))) (.call 0 [(.v 2),(.v 3),(.v 4),(.v 5),(.v 6),(.v 7),(.v 8),(.v 9),(.v 10),(.v 11),(.v 12),(.v 13),(.v 14),(.v 15),(.v 16),(.v 17),(.l2 .at (.l2 .at (.l2 .at (.l2 .at (.l2 .at (.v 0) (.v 18)) (.c 0)) (.c 4)) (.l2 .at (.l2 .at (.l2 .at (.l2 .at (.l2 .at (.v 0) (.v 18)) (.c 2)) (.c 4)) (.v 19)) (.c 0))) (.c 0)),(.l2 .at (.l2 .at (.l2 .at (.l2 .at (.l2 .at (.v 0) (.v 18)) (.c 0)) (.c 4)) (.l2 .at (.l2 .at (.l2 .at (.l2 .at (.l2 .at (.v 0) (.v 18)) (.c 2)) (.c 4)) (.v 19)) (.c 0))) (.c 1)),(.l2 .at (.l2 .at (.l2 .at (.l2 .at (.l2 .at (.v 0) (.v 18)) (.c 0)) (.c 4)) (.l2 .at (.l2 .at (.l2 .at (.l2 .at (.l2 .at (.v 0) (.v 18)) (.c 2)) (.c 4)) (.v 19)) (.c 0))) (.c 2))] (.asrt (.lt (.l2 .at (.l2 .at (.l2 .at (.l2 .at (.l2 .at (.v 0) (.v 18)) (.c 2)) (.c 4)) (.v 19)) (.c 0)) (.ln (.l2 .at (.l2 .at (.l2 .at (.v 0) (.v 18)) (.c 1)) (.c 4)))) (.asrt (.le (.c 0) (.l2 .at (.l2 .at (.l2 .at (.l2 .at (.l2 .at (.v 0) (.v 18)) (.c 2)) (.c 4)) (.v 19)) (.c 1))) (.asrt (.lt (.l2 .at (.l2 .at (.l2 .at (.l2 .at (.l2 .at (.v 0) (.v 18)) (.c 2)) (.c 4)) (.v 19)) (.c 1)) (.ln (.l2 .at (.l2 .at (.l2 .at (.v 0) (.v 18)) (.c 0)) (.c 4)))) (.call 0 [(.v 2),(.v 3),(.v 4),(.v 5),(.v 6),(.v 7),(.v 8),(.v 9),(.v 10),(.v 11),(.v 12),(.v 13),(.v 14),(.v 15),(.v 16),(.v 17),(.l2 .at (.l2 .at (.l2 .at (.l2 .at (.l2 .at (.v 0) (.v 18)) (.c 0)) (.c 4)) (.l2 .at (.l2 .at (.l2 .at (.l2 .at (.l2 .at (.v 0) (.v 18)) (.c 2)) (.c 4)) (.v 19)) (.c 1))) (.c 0)),(.l2 .at (.l2 .at (.l2 .at (.l2 .at (.l2 .at (.v 0) (.v 18)) (.c 0)) (.c 4)) (.l2 .at (.l2 .at (.l2 .at (.l2 .at (.l2 .at (.v 0) (.v 18)) (.c 2)) (.c 4)) (.v 19)) (.c 1))) (.c 1)),(.l2 .at (.l2 .at (.l2 .at (.l2 .at (.l2 .at (.v 0) (.v 18)) (.c 0)) (.c 4)) (.l2 .at (.l2 .at (.l2 .at (.l2 .at (.l2 .at (.v 0) (.v 18)) (.c 2)) (.c 4)) (.v 19)) (.c 1))) (.c 2))] (.asrt (.lt (.l2 .at (.l2 .at (.l2 .at (.l2 .at (.l2 .at (.v 0) (.v 18)) (.c 2)) (.c 4)) (.v 19)) (.c 1)) (.ln (.l2 .at (.l2 .at (.l2 .at (.v 0) (.v 18)) (.c 1)) (.c 4)))) (.asrt (.le (.c 0) (.l2 .at (.l2 .at (.l2 .at (.l2 .at (.l2 .at (.v 0) (.v 18)) (.c 2)) (.c 4)) (.v 19)) (.c 2))) (.asrt (.lt (.l2 .at (.l2 .at (.l2 .at (.l2 .at (.l2 .at (.v 0) (.v 18)) (.c 2)) (.c 4)) (.v 19)) (.c 2)) (.ln (.l2 .at (.l2 .at (.l2 .at (.v 0) (.v 18)) (.c 0)) (.c 4)))) (.call 0 [(.v 2),(.v 3),(.v 4),(.v 5),(.v 6),(.v 7),(.v 8),(.v 9),(.v 10),(.v 11),(.v 12),(.v 13),(.v 14),(.v 15),(.v 16),(.v 17),(.l2 .at (.l2 .at (.l2 .at (.l2 .at (.l2 .at (.v 0) (.v 18)) (.c 0)) (.c 4)) (.l2 .at (.l2 .at (.l2 .at (.l2 .at (.l2 .at (.v 0) (.v 18)) (.c 2)) (.c 4)) (.v 19)) (.c 2))) (.c 0)),(.l2 .at (.l2 .at (.l2 .at (.l2 .at (.l2 .at (.v 0) (.v 18)) (.c 0)) (.c 4)) (.l2 .at (.l2 .at (.l2 .at (.l2 .at (.l2 .at (.v 0) (.v 18)) (.c 2)) (.c 4)) (.v 19)) (.c 2))) (.c 1)),(.l2 .at (.l2 .at (.l2 .at (.l2 .at (.l2 .at (.v 0) (.v 18)) (.c 0)) (.c 4)) (.l2 .at (.l2 .at (.l2 .at (.l2 .at (.l2 .at (.v 0) (.v 18)) (.c 2)) (.c 4)) (.v 19)) (.c 2))) (.c 2))] (.asrt (.lt (.l2 .at (.l2 .at (.l2 .at (.l2 .at (.l2 .at (.v 0) (.v 18)) (.c 2)) (.c 4)) (.v 19)) (.c 2)) (.ln (.l2 .at (.l2 .at (.l2 .at (.v 0) (.v 18)) (.c 1)) (.c 4)))) (.call 1 [(.v 15),(.v 20),(.v 21),(.v 22),(.l2 .at (.l2 .at (.l2 .at (.l2 .at (.l2 .at (.v 0) (.v 18)) (.c 1)) (.c 4)) (.l2 .at (.l2 .at (.l2 .at (.l2 .at (.l2 .at (.v 0) (.v 18)) (.c 2)) (.c 4)) (.v 19)) (.c 0))) (.c 0)),(.l2 .at (.l2 .at (.l2 .at (.l2 .at (.l2 .at (.v 0) (.v 18)) (.c 1)) (.c 4)) (.l2 .at (.l2 .at (.l2 .at (.l2 .at (.l2 .at (.v 0) (.v 18)) (.c 2)) (.c 4)) (.v 19)) (.c 0))) (.c 1)),(.v 24),(.v 25),(.v 26),(.l2 .at (.l2 .at (.l2 .at (.l2 .at (.l2 .at (.v 0) (.v 18)) (.c 1)) (.c 4)) (.l2 .at (.l2 .at (.l2 .at (.l2 .at (.l2 .at (.v 0) (.v 18)) (.c 2)) (.c 4)) (.v 19)) (.c 1))) (.c 0)),(.l2 .at (.l2 .at (.l2 .at (.l2 .at (.l2 .at (.v 0) (.v 18)) (.c 1)) (.c 4)) (.l2 .at (.l2 .at (.l2 .at (.l2 .at (.l2 .at (.v 0) (.v 18)) (.c 2)) (.c 4)) (.v 19)) (.c 1))) (.c 1)),(.v 28),(.v 29),(.v 30),(.l2 .at (.l2 .at (.l2 .at (.l2 .at (.l2 .at (.v 0) (.v 18)) (.c 1)) (.c 4)) (.l2 .at (.l2 .at (.l2 .at (.l2 .at (.l2 .at (.v 0) (.v 18)) (.c 2)) (.c 4)) (.v 19)) (.c 2))) (.c 0)),(.l2 .at (.l2 .at (.l2 .at (.l2 .at (.l2 .at (.v 0) (.v 18)) (.c 1)) (.c 4)) (.l2 .at (.l2 .at (.l2 .at (.l2 .at (.l2 .at (.v 0) (.v 18)) (.c 2)) (.c 4)) (.v 19)) (.c 2))) (.c 1))] (.loop 2 [none,none] [.nl,(.c 0)] (.ite (.le (.ln (.v 32)) (.v 35)) (.ret [(.v 34)])
(.asrt (.le (.c 0) (.v 35)) (.call 2 [(.v 2),(.v 3),(.v 4),(.v 5),(.v 6),(.v 7),(.v 8),(.v 9),(.v 10),(.v 11),(.v 12),(.v 13),(.v 14),(.v 15),(.v 16),(.v 17),(.l2 .at (.l2 .at (.v 32) (.v 35)) (.c 0)),(.l2 .at (.l2 .at (.v 32) (.v 35)) (.c 1)),(.l2 .at (.l2 .at (.v 32) (.v 35)) (.c 2)),(.l2 .at (.l2 .at (.v 32) (.v 35)) (.c 3)),(.l2 .at (.l2 .at (.v 32) (.v 35)) (.c 4))] (.call 2 [(.v 2),(.v 3),(.v 4),(.v 5),(.v 6),(.v 7),(.v 8),(.v 9),(.v 10),(.v 11),(.v 12),(.v 13),(.v 14),(.v 15),(.v 16),(.v 17),(.l2 .at (.l2 .at (.v 32) (.v 35)) (.c 5)),(.l2 .at (.l2 .at (.v 32) (.v 35)) (.c 6)),(.l2 .at (.l2 .at (.v 32) (.v 35)) (.c 7)),(.l2 .at (.l2 .at (.v 32) (.v 35)) (.c 8)),(.l2 .at (.l2 .at (.v 32) (.v 35)) (.c 9))] (.call 2 [(.v 2),(.v 3),(.v 4),(.v 5),(.v 6),(.v 7),(.v 8),(.v 9),(.v 10),(.v 11),(.v 12),(.v 13),(.v 14),(.v 15),(.v 16),(.v 17),(.l2 .at (.l2 .at (.v 32) (.v 35)) (.c 10)),(.l2 .at (.l2 .at (.v 32) (.v 35)) (.c 11)),(.l2 .at (.l2 .at (.v 32) (.v 35)) (.c 12)),(.l2 .at (.l2 .at (.v 32) (.v 35)) (.c 13)),(.l2 .at (.l2 .at (.v 32) (.v 35)) (.c 14))] (.call 3 [(.v 36),(.v 37),(.v 38),(.v 39),(.v 40),(.v 42),(.v 43),(.v 44),(.v 45),(.v 46),(.v 48),(.v 49),(.v 50),(.v 51),(.v 52),(.l2 .at (.l2 .at (.v 0) (.v 18)) (.c 8))] (.ite (.nz (.v 54)) (.callp 4 [(.v 36),(.v 37),(.v 38),(.v 39),(.v 40),(.v 42),(.v 43),(.v 44),(.v 45),(.v 46),(.v 48),(.v 49),(.v 50),(.v 51),(.v 52)] (.asrt (.le (.ln (.l2 .snoc (.v 34) (.l2 .cons (.v 56) (.l2 .cons (.v 57) (.l2 .cons (.v 58) (.l2 .cons (.v 59) (.l2 .cons (.v 60) (.l2 .cons (.v 61) (.l2 .cons (.v 62) (.l2 .cons (.v 63) (.l2 .cons (.v 64) (.l2 .cons (.v 65) (.l2 .cons (.v 66) (.l2 .cons (.v 67) (.l2 .cons (.v 68) (.l2 .cons (.v 69) (.l2 .cons (.v 70) .nl))))))))))))))))) (.c 1000000)) (.back 0 [(.l2 .snoc (.v 34) (.l2 .cons (.v 56) (.l2 .cons (.v 57) (.l2 .cons (.v 58) (.l2 .cons (.v 59) (.l2 .cons (.v 60) (.l2 .cons (.v 61) (.l2 .cons (.v 62) (.l2 .cons (.v 63) (.l2 .cons (.v 64) (.l2 .cons (.v 65) (.l2 .cons (.v 66) (.l2 .cons (.v 67) (.l2 .cons (.v 68) (.l2 .cons (.v 69) (.l2 .cons (.v 70) .nl)))))))))))))))),(.wr .i64 (.add (.v 35) (.c 1)))])))
(.back 0 [(.v 34),(.wr .i64 (.add (.v 35) (.c 1)))]))))))))))))))))))))))))))
theorem Zt8:Z17 (Zu [] Zxn [] ([none,none]++zs 18) (Zx Try.prog (Zbj Try.prog [(11,75)]) gl0 Zer 1000 52 [Sho,An 16,I1,I1] [Ss]))=Zo6:=by kernel_rfl
theorem Z179:Gok Try.prog Zer:=(more Z16c (more Z11s (more Z11h (more Z11j (fix.one Z11k)))))
theorem Z17a:Zr Zer Zxn:=(Z3 Zpt (Z3 Zxe (Z3 Z6y (Z3 Zwx (Z3 Zlh Za)))))
theorem Z34 {I T:Int} (h:Z3e [I,T]=0):(dec I).length≤256∧(dec T).length≤16∧Zeh (dec T)=0∧∀ b ∈ dec I,Zty (Zb0 b (dec T).length)=true:=by
 unfold Z3e at h
 simp only [Z18g,Z18h] at h
 split at h
 ·rename_i h1
  split at h
  ·rename_i h2
   exact ⟨h1.1,h1.2,h2.1,fun b hb=>List.all_eq_true.1 h2.2 b hb⟩
  ·exact absurd h (by decide)
 ·exact absurd h (by decide)
theorem Zbl {b n:Int} (h:Zty (Zb0 b n)=true):((Zk b).length≤64∧(Zbt b).length=(Zk b).length∧(Z1p b).length≤64)∧(∀ v ∈ Zk b,okW v=true)∧(∀ u ∈ Zbt b,uvB u=true) ∧
  (∀ t ∈ Z1p b,Zwd (Zk b).length t=true)∧[co b 12,co b 13,co b 14,co b 15,co b 16,co b 17]=Z55 (Zk b):=by
 simp only [Zty,Zb0,Z10z,Z18r,decide_eq_true_iff,Z18g,Z18h] at h
 obtain ⟨h1,h2,h3,h4,h5,h6⟩:=h
 exact ⟨h1,fun v hv=>List.all_eq_true.1 h3 v hv,fun v hv=>List.all_eq_true.1 h4 v hv,fun v hv=>List.all_eq_true.1 h5 v hv,h6⟩
def mnC (x:List Int) (j:Nat):Int:=min (x.getD (1 + j) 0) (min (x.getD (6 + j) 0) (x.getD (11 + j) 0))
def mxC (x:List Int) (j:Nat):Int:=max (x.getD (1 + j) 0) (max (x.getD (6 + j) 0) (x.getD (11 + j) 0))
def Zt9 (x p:List Int):Prop:=∃ u0 u1 u2 u3 u4,p=[u0,u1,u2,u3,u4]∧x.getD 0 0≤u2∧(mnC x 0≤u0∧u0≤mxC x 0)∧(mnC x 1≤u1∧u1≤mxC x 1)∧(mnC x 2≤u2∧u2≤mxC x 2)∧(mnC x 3≤u3∧u3≤mxC x 3)∧(mnC x 4≤u4∧u4≤mxC x 4)
theorem Zqt:∀ (ps:List (List Int)) (t:List Int),t ∈ Zec ps→∃ p q r,p ∈ ps∧q ∈ ps∧r ∈ ps∧t=p++(q++r)
 | [],t,h=>by simp [Zec] at h
 | [_],t,h=>by simp [Zec] at h
 | [_,_],t,h=>by simp [Zec] at h
 | p::q::r::l,t,h=>by
  simp only [Zec,List.mem_cons] at h
  rcases h with rfl | h
  ·exact ⟨p,q,r,by simp,by simp,by simp,rfl⟩
  ·obtain ⟨x,y,z,hx,hy,hz,e⟩:=Zqt (p::r::l) t h
   have sub:∀ u ∈ p::r::l,u ∈ p::q::r::l:=by
    intro u hu
    simp only [List.mem_cons] at hu ⊢
    rcases hu with h | h | h
    ·exact .inl h
    ·exact .inr (.inr (.inl h))
    ·exact .inr (.inr (.inr h))
   exact ⟨x,y,z,sub _ hx,sub _ hy,sub _ hz,e⟩
termination_by ps=>ps.length
theorem Zqu:∀ ps:List (List Int),(Zec ps).length≤ps.length
 | []=>by simp [Zec]
 | [_]=>by simp [Zec]
 | [_,_]=>by simp [Zec]
 | p::q::r::l=>by
  have:=Zqu (p::r::l)
  simp only [Zec,List.length_cons] at this ⊢
  omega
termination_by ps=>ps.length
theorem Z7x {n a0 a1 a2 a3 a4 b0 b1 b2 b3 b4:Int} (h1:a2 < n) (h2:n≤b2):∃ u0 u1 u3 u4,Ztw n [a0,a1,a2,a3,a4] [b0,b1,b2,b3,b4]=[u0,u1,n,u3,u4] ∧
  (min a0 b0≤u0∧u0≤max a0 b0)∧(min a1 b1≤u1∧u1≤max a1 b1)∧(min a3 b3≤u3∧u3≤max a3 b3)∧(min a4 b4≤u4∧u4≤max a4 b4):=by
 have hb:Z4p (n::([a0,a1,a2,a3,a4]++[b0,b1,b2,b3,b4]))=true:=decide_eq_true (show a2 < n∧n≤b2 from ⟨h1,h2⟩)
 exact ⟨_,_,_,_,rfl,Z4o (o:=1) hb,Z4o (o:=2) hb,Z4o (o:=4) hb,Z4o (o:=5) hb⟩
theorem Zes {n a0 a1 a2 a3 a4 b0 b1 b2 b3 b4 d0 d1 d2 d3 d4:Int} (p:List Int) (h:p ∈ Zkz [n,a0,a1,a2,a3,a4,b0,b1,b2,b3,b4,d0,d1,d2,d3,d4]) :
  Zt9 [n,a0,a1,a2,a3,a4,b0,b1,b2,b3,b4,d0,d1,d2,d3,d4] p:=by
 have corner:∀ {u0 u1 u2 u3 u4:Int},p=[u0,u1,u2,u3,u4]→n≤u2→(min a0 (min b0 d0)≤u0∧u0≤max a0 (max b0 d0))→(min a1 (min b1 d1)≤u1∧u1≤max a1 (max b1 d1))→(min a2 (min b2 d2)≤u2∧u2≤max a2 (max b2 d2)) →
   (min a3 (min b3 d3)≤u3∧u3≤max a3 (max b3 d3))→(min a4 (min b4 d4)≤u4∧u4≤max a4 (max b4 d4))→Zt9 [n,a0,a1,a2,a3,a4,b0,b1,b2,b3,b4,d0,d1,d2,d3,d4] p:=fun e h0 k0 k1 k2 k3 k4=>⟨_,_,_,_,_,e,h0,k0,k1,k2,k3,k4⟩
 have fA:Z4l [n,a0,a1,a2,a3,a4,b0,b1,b2,b3,b4,d0,d1,d2,d3,d4] 0=decide (n≤a2):=rfl
 have fB:Z4l [n,a0,a1,a2,a3,a4,b0,b1,b2,b3,b4,d0,d1,d2,d3,d4] 1=decide (n≤b2):=rfl
 have fD:Z4l [n,a0,a1,a2,a3,a4,b0,b1,b2,b3,b4,d0,d1,d2,d3,d4] 2=decide (n≤d2):=rfl
 have cA:Z6s [n,a0,a1,a2,a3,a4,b0,b1,b2,b3,b4,d0,d1,d2,d3,d4] 0=[a0,a1,a2,a3,a4]:=rfl
 have cB:Z6s [n,a0,a1,a2,a3,a4,b0,b1,b2,b3,b4,d0,d1,d2,d3,d4] 1=[b0,b1,b2,b3,b4]:=rfl
 have cD:Z6s [n,a0,a1,a2,a3,a4,b0,b1,b2,b3,b4,d0,d1,d2,d3,d4] 2=[d0,d1,d2,d3,d4]:=rfl
 unfold Zkz at h
 rw [List.mem_append,List.mem_append] at h
 unfold Zni at h
 rw [fA,fB,fD,cA,cB,cD] at h
 simp only [decide_eq_true_iff,Z18g] at h
 rcases h with h | h | h
 ·split at h
  ·split at h
   ·simp only [List.mem_singleton] at h
    exact corner h (by omega) (by omega) (by omega) (by omega) (by omega) (by omega)
   ·rename_i g1 g2
    obtain ⟨u0,u1,u3,u4,e,k0,k1,k3,k4⟩:=Z7x (n:=n) (a0:=b0) (a1:=b1) (a2:=b2) (a3:=b3) (a4:=b4) (b0:=a0) (b1:=a1) (b2:=a2) (b3:=a3) (b4:=a4) (by omega) g1
    rw [e] at h
    simp only [List.mem_cons,List.not_mem_nil,or_false] at h
    rcases h with h | h
    ·exact corner h (by omega) (by omega) (by omega) (by omega) (by omega) (by omega)
    ·exact corner h (by omega) (by omega) (by omega) (by omega) (by omega) (by omega)
  ·split at h
   ·rename_i g1 g2
    obtain ⟨u0,u1,u3,u4,e,k0,k1,k3,k4⟩:=Z7x (n:=n) (a0:=a0) (a1:=a1) (a2:=a2) (a3:=a3) (a4:=a4) (b0:=b0) (b1:=b1) (b2:=b2) (b3:=b3) (b4:=b4) (by omega) g2
    rw [e] at h
    simp only [List.mem_singleton] at h
    exact corner h (by omega) (by omega) (by omega) (by omega) (by omega) (by omega)
   ·exact absurd h (List.not_mem_nil)
 ·split at h
  ·split at h
   ·simp only [List.mem_singleton] at h
    exact corner h (by omega) (by omega) (by omega) (by omega) (by omega) (by omega)
   ·rename_i g1 g2
    obtain ⟨u0,u1,u3,u4,e,k0,k1,k3,k4⟩:=Z7x (n:=n) (a0:=d0) (a1:=d1) (a2:=d2) (a3:=d3) (a4:=d4) (b0:=b0) (b1:=b1) (b2:=b2) (b3:=b3) (b4:=b4) (by omega) g1
    rw [e] at h
    simp only [List.mem_cons,List.not_mem_nil,or_false] at h
    rcases h with h | h
    ·exact corner h (by omega) (by omega) (by omega) (by omega) (by omega) (by omega)
    ·exact corner h (by omega) (by omega) (by omega) (by omega) (by omega) (by omega)
  ·split at h
   ·rename_i g1 g2
    obtain ⟨u0,u1,u3,u4,e,k0,k1,k3,k4⟩:=Z7x (n:=n) (a0:=b0) (a1:=b1) (a2:=b2) (a3:=b3) (a4:=b4) (b0:=d0) (b1:=d1) (b2:=d2) (b3:=d3) (b4:=d4) (by omega) g2
    rw [e] at h
    simp only [List.mem_singleton] at h
    exact corner h (by omega) (by omega) (by omega) (by omega) (by omega) (by omega)
   ·exact absurd h (List.not_mem_nil)
 ·split at h
  ·split at h
   ·simp only [List.mem_singleton] at h
    exact corner h (by omega) (by omega) (by omega) (by omega) (by omega) (by omega)
   ·rename_i g1 g2
    obtain ⟨u0,u1,u3,u4,e,k0,k1,k3,k4⟩:=Z7x (n:=n) (a0:=a0) (a1:=a1) (a2:=a2) (a3:=a3) (a4:=a4) (b0:=d0) (b1:=d1) (b2:=d2) (b3:=d3) (b4:=d4) (by omega) g1
    rw [e] at h
    simp only [List.mem_cons,List.not_mem_nil,or_false] at h
    rcases h with h | h
    ·exact corner h (by omega) (by omega) (by omega) (by omega) (by omega) (by omega)
    ·exact corner h (by omega) (by omega) (by omega) (by omega) (by omega) (by omega)
  ·split at h
   ·rename_i g1 g2
    obtain ⟨u0,u1,u3,u4,e,k0,k1,k3,k4⟩:=Z7x (n:=n) (a0:=d0) (a1:=d1) (a2:=d2) (a3:=d3) (a4:=d4) (b0:=a0) (b1:=a1) (b2:=a2) (b3:=a3) (b4:=a4) (by omega) g2
    rw [e] at h
    simp only [List.mem_singleton] at h
    exact corner h (by omega) (by omega) (by omega) (by omega) (by omega) (by omega)
   ·exact absurd h (List.not_mem_nil)
theorem Z123 (x:List Int):(Zkz x).length≤6:=by
 have hs:∀ i j,(Zni x i j).length≤2:=by
  intro i j
  unfold Zni
  split
  ·split <;> simp
  ·split <;> simp
 have h0:=hs 0 1
 have h1:=hs 1 2
 have h2:=hs 2 0
 unfold Zkz
 rw [List.length_append,List.length_append]
 omega
theorem Zet {x:List Int} (hx:x.length=16):(dec ((Z67 x).getD 0 0)).length≤6∧∀ l ∈ dec ((Z67 x).getD 0 0),∃ p q r,Zt9 x p∧Zt9 x q∧Zt9 x r∧dec l=p++(q++r):=by
 obtain ⟨n,a0,a1,a2,a3,a4,b0,b1,b2,b3,b4,d0,d1,d2,d3,d4,rfl⟩:=Z14f hx
 unfold Z67
 split
 ·split
  ·simp only [Z18g,Zvy,Z4]
   constructor
   ·rw [List.length_map]
    exact Nat.le_trans (Zqu _) (Z123 _)
   ·intro l hl
    obtain ⟨t,ht,rfl⟩:=List.mem_map.1 hl
    obtain ⟨p,q,r,hp,hq,hr,e⟩:=Zqt _ _ ht
    exact ⟨p,q,r,Zes p hp,Zes q hq,Zes r hr,by rw [Z4,e]⟩
  ·simp only [Z18g,Z4]
   exact ⟨by simp,fun l hl=>absurd hl (List.not_mem_nil)⟩
 ·simp only [Z18g,Z4]
  exact ⟨by simp,fun l hl=>absurd hl (List.not_mem_nil)⟩
theorem Z124 (x:List Int):(Z4m x).getD 0 0=0∨(Z4m x).getD 0 0=1:=by
 have hb:∀ b,b01 b=0∨b01 b=1:=fun b=>by cases b <;> simp [b01]
 unfold Z4m
 split
 ·split
  ·exact hb _
  ·split
   ·exact hb _
   ·split
    ·exact hb _
    ·exact .inl rfl
 ·exact .inl rfl
set_option maxHeartbeats 2000000 in
theorem Zxo (I T c0 c1 c2 c3 c4 c5 c6 c7 c8 c9 c10 c11 c12 c13 c14 c15 i k b t:Int) (hbe:(dec I).getD i.toNat 0=b) (hte:(Z1p b).getD k.toNat 0=t) (L:List Int) (hLL:Znm [c0,c1,c2,c3,c4,c5,c6,c7,c8,c9,c10,c11,c12,c13,c14,c15] b t=L) (sp:Int→Nat→List Int) (hsp:∀ l o,Zl4 [c0,c1,c2,c3,c4,c5,c6,c7,c8,c9,c10,c11,c12,c13,c14,c15] l o=sp l o) (pp:Int→Option Int) (hpp:∀ l,pp l=Zi8 [c0,c1,c2,c3,c4,c5,c6,c7,c8,c9,c10,c11,c12,c13,c14,c15] (co b 8) l) (sq:Int→List Int) (hsq:∀ l,sq l=Zl5 [c0,c1,c2,c3,c4,c5,c6,c7,c8,c9,c10,c11,c12,c13,c14,c15] l)
  (hv:Zq (zs 16) [c0,c1,c2,c3,c4,c5,c6,c7,c8,c9,c10,c11,c12,c13,c14,c15])
  (hrb:Zd Z3d (dec b)∧(∀ v ∈ Zk b,Zd Z5r (dec v))∧(∀ v ∈ Zbt b,Zd Zwa (dec v))∧∀ v ∈ Z1p b,Zd Z5r (dec v))
  (hb:0≤i∧i < (dec I).length∧0≤k∧k < (Z1p b).length) (hmb:(Zk b).length≤64∧(Zbt b).length=(Zk b).length)
  (htn:(0≤co t 0∧0≤co t 1∧0≤co t 2)∧co t 0 < (Zk b).length∧co t 1 < (Zk b).length∧co t 2 < (Zk b).length)
  (hnp:Zq (zs 16) (c13::Znl [c0,c1,c2,c3,c4,c5,c6,c7,c8,c9,c10,c11,c12,c13,c14,c15] b t)) (hLn:L.length≤1000) (hel:∀ l ∈ L,Zq (zs 15) [co l 0,co l 1,co l 2,co l 3,co l 4,co l 5,co l 6,co l 7,co l 8,co l 9,co l 10,co l 11,co l 12,co l 13,co l 14]) :
  Zo6.sat Zer [] (fun ys=>ys=[cod (L.filterMap pp)]) [] [I,T,c0,c1,c2,c3,c4,c5,c6,c7,c8,c9,c10,c11,c12,c13,c14,c15,i,k]:=by
 unfold Zo6 Zer
 simp only [TX.sat,XB.prop]
 simp only [X.den,L2.den,TX.sat,XB.prop,X.den,Z18k,Z18l,Z18e,Z18f,Z18i,Z18j,Z18g,Z18h,mkS,mkP,and_true,true_and,Z18p,Z18q,not_or,not_and,Z18m,ne_eq,Z18n,Z18o]
 have hco:∀ x j,(dec x).getD j 0=co x j:=fun _ _=>rfl
 have hV:∀ b,dec (co (co b 0) 4)=Zk b:=fun _=>rfl
 have hU:∀ b,dec (co (co b 1) 4)=Zbt b:=fun _=>rfl
 have hT:∀ b,dec (co (co b 2) 4)=Z1p b:=fun _=>rfl
 simp only [hbe,hco,hV,hU,hT,hte,show Int.toNat 0=0 from rfl,show Int.toNat 1=1 from rfl,show Int.toNat 2=2 from rfl,show Int.toNat 4=4 from rfl]
 have vw3:∀ v,Zgi.sem [c0,c1,c2,c3,c4,c5,c6,c7,c8,c9,c10,c11,c12,c13,c14,c15,co v 0,co v 1,co v 2]=[(Z3r [c0,c1,c2,c3,c4,c5,c6,c7,c8,c9,c10,c11,c12,c13,c14,c15] v).getD 0 0,(Z3r [c0,c1,c2,c3,c4,c5,c6,c7,c8,c9,c10,c11,c12,c13,c14,c15] v).getD 1 0,(Z3r [c0,c1,c2,c3,c4,c5,c6,c7,c8,c9,c10,c11,c12,c13,c14,c15] v).getD 2 0,(Z3r [c0,c1,c2,c3,c4,c5,c6,c7,c8,c9,c10,c11,c12,c13,c14,c15] v).getD 3 0]:=fun _=>rfl
 simp only [vw3,TX.sat,XB.prop,X.den,Z18k,Z18l,Z18e,Z18f,Z18i,Z18j,Z18g,Z18h,mkS,mkP,and_true,true_and,Z18p,Z18q,not_or,not_and,Z18m,ne_eq,Z18n,Z18o]
 have cn:Zhv.sem [c13,(Z3r [c0,c1,c2,c3,c4,c5,c6,c7,c8,c9,c10,c11,c12,c13,c14,c15] ((Zk b).getD (co t 0).toNat 0)).getD 0 0,(Z3r [c0,c1,c2,c3,c4,c5,c6,c7,c8,c9,c10,c11,c12,c13,c14,c15] ((Zk b).getD (co t 0).toNat 0)).getD 1 0,(Z3r [c0,c1,c2,c3,c4,c5,c6,c7,c8,c9,c10,c11,c12,c13,c14,c15] ((Zk b).getD (co t 0).toNat 0)).getD 2 0,co ((Zbt b).getD (co t 0).toNat 0) 0,co ((Zbt b).getD (co t 0).toNat 0) 1,(Z3r [c0,c1,c2,c3,c4,c5,c6,c7,c8,c9,c10,c11,c12,c13,c14,c15] ((Zk b).getD (co t 1).toNat 0)).getD 0 0,(Z3r [c0,c1,c2,c3,c4,c5,c6,c7,c8,c9,c10,c11,c12,c13,c14,c15] ((Zk b).getD (co t 1).toNat 0)).getD 1 0,(Z3r [c0,c1,c2,c3,c4,c5,c6,c7,c8,c9,c10,c11,c12,c13,c14,c15] ((Zk b).getD (co t 1).toNat 0)).getD 2 0,co ((Zbt b).getD (co t 1).toNat 0) 0,co ((Zbt b).getD (co t 1).toNat 0) 1,(Z3r [c0,c1,c2,c3,c4,c5,c6,c7,c8,c9,c10,c11,c12,c13,c14,c15] ((Zk b).getD (co t 2).toNat 0)).getD 0 0,(Z3r [c0,c1,c2,c3,c4,c5,c6,c7,c8,c9,c10,c11,c12,c13,c14,c15] ((Zk b).getD (co t 2).toNat 0)).getD 1 0,(Z3r [c0,c1,c2,c3,c4,c5,c6,c7,c8,c9,c10,c11,c12,c13,c14,c15] ((Zk b).getD (co t 2).toNat 0)).getD 2 0,co ((Zbt b).getD (co t 2).toNat 0) 0,co ((Zbt b).getD (co t 2).toNat 0) 1]=[(Z67 (c13::Znl [c0,c1,c2,c3,c4,c5,c6,c7,c8,c9,c10,c11,c12,c13,c14,c15] b t)).getD 0 0,(Z67 (c13::Znl [c0,c1,c2,c3,c4,c5,c6,c7,c8,c9,c10,c11,c12,c13,c14,c15] b t)).getD 1 0]:=rfl
 simp only [cn,TX.sat,XB.prop,X.den,Z18k,Z18l,Z18e,Z18f,Z18i,Z18j,Z18g,Z18h,mkS,mkP,and_true,true_and,Z18p,Z18q,not_or,not_and,Z18m,ne_eq,Z18n,Z18o]
 have hL:dec ((Z67 (c13::Znl [c0,c1,c2,c3,c4,c5,c6,c7,c8,c9,c10,c11,c12,c13,c14,c15] b t)).getD 0 0)=Znm [c0,c1,c2,c3,c4,c5,c6,c7,c8,c9,c10,c11,c12,c13,c14,c15] b t:=rfl
 have hLj:∀ j,co ((Z67 (c13::Znl [c0,c1,c2,c3,c4,c5,c6,c7,c8,c9,c10,c11,c12,c13,c14,c15] b t)).getD 0 0) j=L.getD j 0:=fun j=>by rw [← hLL]; rfl
 simp only [hL,hLL,hLj]
 clear cn vw3 hL hLj
 have pl0:∀ l,Z4q.sem [c0,c1,c2,c3,c4,c5,c6,c7,c8,c9,c10,c11,c12,c13,c14,c15,co l 0,co l 1,co l 2,co l 3,co l 4]=[(sp l 0).getD 0 0,(sp l 0).getD 1 0,(sp l 0).getD 2 0,(sp l 0).getD 3 0,(sp l 0).getD 4 0,(sp l 0).getD 5 0]:=fun l=>by rw [← hsp]; rfl
 have pl5:∀ l,Z4q.sem [c0,c1,c2,c3,c4,c5,c6,c7,c8,c9,c10,c11,c12,c13,c14,c15,co l 5,co l 6,co l 7,co l 8,co l 9]=[(sp l 5).getD 0 0,(sp l 5).getD 1 0,(sp l 5).getD 2 0,(sp l 5).getD 3 0,(sp l 5).getD 4 0,(sp l 5).getD 5 0]:=fun l=>by rw [← hsp]; rfl
 have pl10:∀ l,Z4q.sem [c0,c1,c2,c3,c4,c5,c6,c7,c8,c9,c10,c11,c12,c13,c14,c15,co l 10,co l 11,co l 12,co l 13,co l 14]=[(sp l 10).getD 0 0,(sp l 10).getD 1 0,(sp l 10).getD 2 0,(sp l 10).getD 3 0,(sp l 10).getD 4 0,(sp l 10).getD 5 0]:=fun l=>by rw [← hsp]; rfl
 have sh:∀ l u,Zee.sem [(sp l 0).getD 0 0,(sp l 0).getD 1 0,(sp l 0).getD 2 0,(sp l 0).getD 3 0,(sp l 0).getD 4 0,(sp l 5).getD 0 0,(sp l 5).getD 1 0,(sp l 5).getD 2 0,(sp l 5).getD 3 0,(sp l 5).getD 4 0,(sp l 10).getD 0 0,(sp l 10).getD 1 0,(sp l 10).getD 2 0,(sp l 10).getD 3 0,(sp l 10).getD 4 0,u]=[(Z4m (sq l++[u])).getD 0 0,(Z4m (sq l++[u])).getD 1 0]:=fun l u=>by rw [hsq,← hsp,← hsp,← hsp]; rfl
 have fr:∀ l,Zhy.sem [(sp l 0).getD 0 0,(sp l 0).getD 1 0,(sp l 0).getD 2 0,(sp l 0).getD 3 0,(sp l 0).getD 4 0,(sp l 5).getD 0 0,(sp l 5).getD 1 0,(sp l 5).getD 2 0,(sp l 5).getD 3 0,(sp l 5).getD 4 0,(sp l 10).getD 0 0,(sp l 10).getD 1 0,(sp l 10).getD 2 0,(sp l 10).getD 3 0,(sp l 10).getD 4 0]=Zbk (Z9p (sq l)):=fun l=>by rw [hsq,← hsp,← hsp,← hsp]; rfl
 have pv:∀ v,Zd Z5r (dec v)→Zgi.pre ([c0,c1,c2,c3,c4,c5,c6,c7,c8,c9,c10,c11,c12,c13,c14,c15]++[co v 0,co v 1,co v 2]):=fun v h=>Zw hv (Zo4 h)
 have q0:Zd Z5r (dec ((Zk b).getD (co t 0).toNat 0)):=hrb.2.1 _ (Zy (by omega))
 have q1:Zd Z5r (dec ((Zk b).getD (co t 1).toNat 0)):=hrb.2.1 _ (Zy (by omega))
 have q2:Zd Z5r (dec ((Zk b).getD (co t 2).toNat 0)):=hrb.2.1 _ (Zy (by omega))
 refine ⟨hb.1,hb.2.1,hb.2.2.1,hb.2.2.2,htn.1.1,htn.2.1,?_,by omega,htn.1.2.1,htn.2.2.1,?_,by omega,htn.1.2.2,htn.2.2.2,?_,by omega,?_,?_⟩
 ·exact pv _ q0
 ·exact pv _ q1
 ·exact pv _ q2
 ·exact hnp
 refine ⟨fun xs=>∃ i:Nat,xs.getD 1 0=(i:Int)∧i≤L.length∧dec (xs.getD 0 0)=(L.take i).filterMap pp∧cod (dec (xs.getD 0 0))=xs.getD 0 0,fun xs=>L.length - (xs.getD 1 0).toNat,fun xs hx _=>Zv (n:=2) hx,⟨0,rfl,by omega,Z24,by simp [Z4]⟩,?_⟩
 intro xs hx hI
 obtain ⟨d0,d1,rfl⟩:=Zfh hx
 obtain ⟨j,hj,hle,hd,hcd⟩:=hI
 simp only [Z18g,Z18h,Z18i,Z18j] at hj hd hcd ⊢
 subst hj
 simp only [Int.toNat_natCast,show Int.toNat 3=3 from rfl,show Int.toNat 5=5 from rfl,show Int.toNat 6=6 from rfl,show Int.toNat 7=7 from rfl,show Int.toNat 8=8 from rfl,show Int.toNat 9=9 from rfl,show Int.toNat 10=10 from rfl,show Int.toNat 11=11 from rfl,show Int.toNat 12=12 from rfl,show Int.toNat 13=13 from rfl,show Int.toNat 14=14 from rfl]
 simp only [pl0,pl5,pl10,TX.sat,XB.prop,X.den,Z18k,Z18l,Z18e,Z18f,Z18i,Z18j,Z18g,Z18h,mkS,mkP,and_true,true_and,Z18p,Z18q,not_or,not_and,Z18m,ne_eq,Z18n,Z18o]
 simp only [sh,fr,Zbk,TX.sat,XB.prop,X.den,Z18k,Z18l,Z18e,Z18f,Z18i,Z18j,Z18g,Z18h,mkS,mkP,and_true,true_and,Z18p,Z18q,not_or,not_and,Z18m,ne_eq,Z18n,Z18o]
 simp only [Z4]
 refine ⟨fun hge=>?_,fun hlt=>?_⟩
 ·have:j=L.length:=by omega
  rw [← hcd,hd,this,List.take_length]
 ·have hjl:j < L.length:=by omega
  have htake:L.take (j + 1)=L.take j++[L.getD j 0]:=by
   rw [List.take_succ_eq_append_getElem hjl]
   rw [show L.getD j 0=L[j] by simp [List.getD,hjl]]
  have hmem:L.getD j 0 ∈ L:=Zy hjl
  have hdl:(dec d0).length≤j:=by
   rw [hd]
   exact Nat.le_trans (List.length_filterMap_le _ _) (List.length_take_le _ _)
  have hw:IntKind.i64.wrap ((j:Int) + 1)=((j + 1:Nat):Int):=by rw [Z10 (by omega) (by omega)]; omega
  have he:=hel _ hmem
  have p0:Z4q.pre ([c0,c1,c2,c3,c4,c5,c6,c7,c8,c9,c10,c11,c12,c13,c14,c15]++[co (L.getD j 0) 0,co (L.getD j 0) 1,co (L.getD j 0) 2,co (L.getD j 0) 3,co (L.getD j 0) 4]):=Zw hv (Z1 (he.2 0) (Z1 (he.2 1) (Z1 (he.2 2) (Z1 (he.2 3) (Z1 (he.2 4) (Z2))))))
  have p5:Z4q.pre ([c0,c1,c2,c3,c4,c5,c6,c7,c8,c9,c10,c11,c12,c13,c14,c15]++[co (L.getD j 0) 5,co (L.getD j 0) 6,co (L.getD j 0) 7,co (L.getD j 0) 8,co (L.getD j 0) 9]):=Zw hv (Z1 (he.2 5) (Z1 (he.2 6) (Z1 (he.2 7) (Z1 (he.2 8) (Z1 (he.2 9) (Z2))))))
  have p10:Z4q.pre ([c0,c1,c2,c3,c4,c5,c6,c7,c8,c9,c10,c11,c12,c13,c14,c15]++[co (L.getD j 0) 10,co (L.getD j 0) 11,co (L.getD j 0) 12,co (L.getD j 0) 13,co (L.getD j 0) 14]):=Zw hv (Z1 (he.2 10) (Z1 (he.2 11) (Z1 (he.2 12) (Z1 (he.2 13) (Z1 (he.2 14) (Z2))))))
  have o0:Zq (Z9r []) [(sp (L.getD j 0) 0).getD 0 0,(sp (L.getD j 0) 0).getD 1 0,(sp (L.getD j 0) 0).getD 2 0,(sp (L.getD j 0) 0).getD 3 0,(sp (L.getD j 0) 0).getD 4 0,(sp (L.getD j 0) 0).getD 5 0]:=pl0 (L.getD j 0) ▸ Z6y.2 Z47 _ p0 p0
  have o5:Zq (Z9r []) [(sp (L.getD j 0) 5).getD 0 0,(sp (L.getD j 0) 5).getD 1 0,(sp (L.getD j 0) 5).getD 2 0,(sp (L.getD j 0) 5).getD 3 0,(sp (L.getD j 0) 5).getD 4 0,(sp (L.getD j 0) 5).getD 5 0]:=pl5 (L.getD j 0) ▸ Z6y.2 Z47 _ p5 p5
  have o10:Zq (Z9r []) [(sp (L.getD j 0) 10).getD 0 0,(sp (L.getD j 0) 10).getD 1 0,(sp (L.getD j 0) 10).getD 2 0,(sp (L.getD j 0) 10).getD 3 0,(sp (L.getD j 0) 10).getD 4 0,(sp (L.getD j 0) 10).getD 5 0]:=pl10 (L.getD j 0) ▸ Z6y.2 Z47 _ p10 p10
  have hcull:Zh (iv 0 255) (co b 8):=(Z1m hrb.1).2 8
  have wide:∀ {a c x:Int},Zh (iv a c) x→-9223372036854775808≤a→c≤9223372036854775807→Zh zz x:=fun h h1 h2=>⟨Int.le_trans h1 h.1,Int.le_trans h.2 h2⟩
  have psh:Zee.pre ([(sp (L.getD j 0) 0).getD 0 0,(sp (L.getD j 0) 0).getD 1 0,(sp (L.getD j 0) 0).getD 2 0,(sp (L.getD j 0) 0).getD 3 0,(sp (L.getD j 0) 0).getD 4 0,(sp (L.getD j 0) 5).getD 0 0,(sp (L.getD j 0) 5).getD 1 0,(sp (L.getD j 0) 5).getD 2 0,(sp (L.getD j 0) 5).getD 3 0,(sp (L.getD j 0) 5).getD 4 0,(sp (L.getD j 0) 10).getD 0 0,(sp (L.getD j 0) 10).getD 1 0,(sp (L.getD j 0) 10).getD 2 0,(sp (L.getD j 0) 10).getD 3 0,(sp (L.getD j 0) 10).getD 4 0]++[co b 8]):=Z1 (wide (o0.2 0) (by decide) (by decide)) (Z1 (wide (o0.2 1) (by decide) (by decide)) (Z1 (wide (o0.2 2) (by decide) (by decide)) (Z1 (wide (o0.2 3) (by decide) (by decide)) (Z1 (wide (o0.2 4) (by decide) (by decide)) (Z1 (wide (o5.2 0) (by decide) (by decide)) (Z1 (wide (o5.2 1) (by decide) (by decide)) (Z1 (wide (o5.2 2) (by decide) (by decide)) (Z1 (wide (o5.2 3) (by decide) (by decide)) (Z1 (wide (o5.2 4) (by decide) (by decide)) (Z1 (wide (o10.2 0) (by decide) (by decide)) (Z1 (wide (o10.2 1) (by decide) (by decide)) (Z1 (wide (o10.2 2) (by decide) (by decide)) (Z1 (wide (o10.2 3) (by decide) (by decide)) (Z1 (wide (o10.2 4) (by decide) (by decide)) (Z1 (hcull) (Z2))))))))))))))))
  have hpart:=hpp (L.getD j 0)
  unfold Zi8 at hpart
  rw [← hsq] at hpart
  have h01:(Z4m (sq (L.getD j 0)++[co b 8])).getD 0 0=0∨(Z4m (sq (L.getD j 0)++[co b 8])).getD 0 0=1:=Z124 _
  refine ⟨by omega,p0,p5,p10,psh,fun hn=>⟨?_,⟨j + 1,hw,by omega,?_,trivial⟩,?_⟩,fun hz=>⟨⟨j + 1,hw,by omega,?_,hcd⟩,?_⟩⟩
  ·rw [List.length_append,List.length_singleton]
   omega
  ·rw [if_pos (h01.resolve_left hn)] at hpart
   rw [htake,List.filterMap_append,hd]
   simp only [List.filterMap_cons,hpart,List.filterMap_nil]
   rfl
  ·rw [hw,Int.toNat_natCast]
   omega
  ·rw [if_neg (by rw [hz]; decide)] at hpart
   rw [htake,List.filterMap_append,hd]
   simp only [List.filterMap_cons,hpart,List.filterMap_nil,List.append_nil]
  ·rw [hw,Int.toNat_natCast]
   omega
theorem Zo7 {x p:List Int} (hx:Zq (zs 16) x) (h:Zt9 x p):∃ u0 u1 u2 u3 u4,p=[u0,u1,u2,u3,u4]∧Zh zz u0∧Zh zz u1∧Zh zz u2∧Zh zz u3∧Zh zz u4:=by
 obtain ⟨u0,u1,u2,u3,u4,e,_,h0,h1,h2,h3,h4⟩:=h
 have key:∀ j (u:Int),j < 5→mnC x j≤u→u≤mxC x j→Zh zz u:=by
  intro j u hj k1 k2
  have zx:∀ i,i < 16→-9223372036854775808≤x.getD i 0∧x.getD i 0≤9223372036854775807:=by
   intro i hi
   have:=hx.2 i
   have hz:(zs 16).getD i none=zz:=by
    unfold zs List.getD
    rw [List.getElem?_replicate,if_pos hi]
    rfl
   rw [hz] at this
   exact this
  have e1:=zx (1 + j) (by omega)
  have e2:=zx (6 + j) (by omega)
  have e3:=zx (11 + j) (by omega)
  unfold mnC at k1
  unfold mxC at k2
  exact zc u (by omega) (by omega)
 exact ⟨u0,u1,u2,u3,u4,e,key 0 u0 (by omega) h0.1 h0.2,key 1 u1 (by omega) h1.1 h1.2,key 2 u2 (by omega) h2.1 h2.2,key 3 u3 (by omega) h3.1 h3.2,key 4 u4 (by omega) h4.1 h4.2⟩
theorem Zxp {x:List Int} (hl:x.length=16) (hx:Zq (zs 16) x):∀ l ∈ dec ((Z67 x).getD 0 0),Zq (zs 15) [co l 0,co l 1,co l 2,co l 3,co l 4,co l 5,co l 6,co l 7,co l 8,co l 9,co l 10,co l 11,co l 12,co l 13,co l 14]:=by
 intro l h
 obtain ⟨p,q,r,hp,hq,hr,e⟩:=(Zet hl).2 l h
 obtain ⟨a0,a1,a2,a3,a4,rfl,p0,p1,p2,p3,p4⟩:=Zo7 hx hp
 obtain ⟨b0,b1,b2,b3,b4,rfl,q0,q1,q2,q3,q4⟩:=Zo7 hx hq
 obtain ⟨d0,d1,d2,d3,d4,rfl,r0,r1,r2,r3,r4⟩:=Zo7 hx hr
 unfold co
 rw [e]
 exact Z1 (p0) (Z1 (p1) (Z1 (p2) (Z1 (p3) (Z1 (p4) (Z1 (q0) (Z1 (q1) (Z1 (q2) (Z1 (q3) (Z1 (q4) (Z1 (r0) (Z1 (r1) (Z1 (r2) (Z1 (r3) (Z1 (r4) (Z2)))))))))))))))
theorem Zxq {c0 c1 c2 c3 c4 c5 c6 c7 c8 c9 c10 c11 c12 c13 c14 c15 b t:Int} (hv:Zq (zs 16) [c0,c1,c2,c3,c4,c5,c6,c7,c8,c9,c10,c11,c12,c13,c14,c15]) (h1:∀ v ∈ Zk b,Zd Z5r (dec v)) (h2:∀ v ∈ Zbt b,Zd Zwa (dec v)) (hl:(Zbt b).length=(Zk b).length)
  (htn:(0≤co t 0∧0≤co t 1∧0≤co t 2)∧co t 0 < (Zk b).length∧co t 1 < (Zk b).length∧co t 2 < (Zk b).length):Zq (zs 16) (c13::Znl [c0,c1,c2,c3,c4,c5,c6,c7,c8,c9,c10,c11,c12,c13,c14,c15] b t):=by
 have pv:∀ v,Zd Z5r (dec v)→Zgi.pre ([c0,c1,c2,c3,c4,c5,c6,c7,c8,c9,c10,c11,c12,c13,c14,c15]++[co v 0,co v 1,co v 2]):=fun v h=>Zw hv (Zo4 h)
 have bv:∀ v,Zd Z5r (dec v)→Zq (Zpo []) (ex4 (Z3r [c0,c1,c2,c3,c4,c5,c6,c7,c8,c9,c10,c11,c12,c13,c14,c15] v)):=fun v h=>Zpt.2 Zc4 _ (pv v h) (pv v h)
 have wide:∀ {a c x:Int},Zh (iv a c) x→-9223372036854775808≤a→c≤9223372036854775807→Zh zz x:=fun h h1 h2=>⟨Int.le_trans h1 h.1,Int.le_trans h.2 h2⟩
 have v0:=bv _ (h1 ((Zk b).getD (co t 0).toNat 0) (Zy (by omega)))
 have v1:=bv _ (h1 ((Zk b).getD (co t 1).toNat 0) (Zy (by omega)))
 have v2:=bv _ (h1 ((Zk b).getD (co t 2).toNat 0) (Zy (by omega)))
 have u0:=Z1m (h2 ((Zbt b).getD (co t 0).toNat 0) (Zy (by omega)))
 have u1:=Z1m (h2 ((Zbt b).getD (co t 1).toNat 0) (Zy (by omega)))
 have u2:=Z1m (h2 ((Zbt b).getD (co t 2).toNat 0) (Zy (by omega)))
 exact Z1 (hv.2 13) (Z1 (wide (v0.2 0) (by decide) (by decide)) (Z1 (wide (v0.2 1) (by decide) (by decide)) (Z1 (wide (v0.2 2) (by decide) (by decide)) (Z1 (u0.2 0) (Z1 (u0.2 1) (Z1 (wide (v1.2 0) (by decide) (by decide)) (Z1 (wide (v1.2 1) (by decide) (by decide)) (Z1 (wide (v1.2 2) (by decide) (by decide)) (Z1 (u1.2 0) (Z1 (u1.2 1) (Z1 (wide (v2.2 0) (by decide) (by decide)) (Z1 (wide (v2.2 1) (by decide) (by decide)) (Z1 (wide (v2.2 2) (by decide) (by decide)) (Z1 (u2.2 0) (Z1 (u2.2 1) (Z2))))))))))))))))
theorem Zqv:Zb2.ok Try.prog:=Sum.okPF (pin:=Zl7) facts.mixed Z179 Z17a Zt8 rfl (fun _=>rfl) (fun xs h=>h.1) (by
 intro xs hx hp
 obtain ⟨I,T,c0,c1,c2,c3,c4,c5,c6,c7,c8,c9,c10,c11,c12,c13,c14,c15,i,k,rfl⟩:=len20 hx
 obtain ⟨hv,hr,hb,hE,hc⟩:=hp
 replace hr:Z49 (dec I) (dec T):=hr
 replace hE:Z3e [I,T]=0:=hE
 replace hb:0≤i∧i < (dec I).length∧0≤k∧k < (Z1p ((dec I).getD i.toNat 0)).length:=hb
 obtain ⟨_,_,_,hmay⟩:=Z34 hE
 have hbl:(dec I).getD i.toNat 0 ∈ dec I:=Zy (by omega)
 have hrb:=hr.1 _ hbl
 have hmb:=Zbl (hmay _ hbl)
 have htl:(Z1p ((dec I).getD i.toNat 0)).getD k.toNat 0 ∈ Z1p ((dec I).getD i.toNat 0):=Zy (by omega)
 have htn:=hmb.2.2.2.1 _ htl
 simp only [Zwd,decide_eq_true_iff] at htn
 have hv16:Zq (zs 16) [c0,c1,c2,c3,c4,c5,c6,c7,c8,c9,c10,c11,c12,c13,c14,c15]:=Z1 (hv.2 2) (Z1 (hv.2 3) (Z1 (hv.2 4) (Z1 (hv.2 5) (Z1 (hv.2 6) (Z1 (hv.2 7) (Z1 (hv.2 8) (Z1 (hv.2 9) (Z1 (hv.2 10) (Z1 (hv.2 11) (Z1 (hv.2 12) (Z1 (hv.2 13) (Z1 (hv.2 14) (Z1 (hv.2 15) (Z1 (hv.2 16) (Z1 (hv.2 17) (Z2))))))))))))))))
 have hnp:=Zxq hv16 hrb.2.1 hrb.2.2.1 hmb.1.2.1 htn
 exact Zxo I T c0 c1 c2 c3 c4 c5 c6 c7 c8 c9 c10 c11 c12 c13 c14 c15 i k _ _ rfl rfl _ rfl _ (fun _ _=>rfl) _ (fun _=>rfl) _ (fun _=>rfl) hv16 hrb hb ⟨hmb.1.1,hmb.1.2.1⟩ htn hnp (Nat.le_trans (Zet (x:=c13::Znl [c0,c1,c2,c3,c4,c5,c6,c7,c8,c9,c10,c11,c12,c13,c14,c15] _ _) rfl).1 (by decide)) (Zxp rfl hnp))
theorem Zxr:Z1i Zb2 Zwh:=⟨fun xs h=>(Z1k xs h).elim,fun vs xs h hp=>Z1 trivial Z2⟩
end Go.Proofs.Ytgcoidbaoigkeaa.fix
namespace Go.Proofs.Ytgcoidbaoigkeaa.fix
open Go.RowKit Go.Sx
theorem Zeu {b:Int} {i k:Nat} {P:List Int}:∀ n,(Z3l b i k P n).length=n
 | 0=>rfl
 | n + 1=>by rw [Z3l,List.length_append,Zeu n]; rfl
theorem Ziq {l:List Int} {pt:Nat→Nat→List Int} {i:Nat} (h:∀ k,(pt i k).length≤6):∀ k,(Zpz l pt i k).length≤6 * k
 | 0=>Nat.le_refl _
 | k + 1=>by
  have:=Ziq (l:=l) h k
  have:=h k
  rw [Zpz,List.length_append,Zeu]
  omega
theorem Zev {l:List Int} {pt:Nat→Nat→List Int} (h:∀ i k,(pt i k).length≤6) (ht:∀ i,i < l.length→(Z1p (l.getD i 0)).length≤64):∀ i,i≤l.length→(Z6a l pt i).length≤384 * i
 | 0,_=>Nat.le_refl _
 | i + 1,hi=>by
  have h1:=Zev (l:=l) h ht i (by omega)
  have h2:=Ziq (l:=l) (h i) (Z1p (l.getD i 0)).length
  have h3:=ht i (by omega)
  rw [Z6a,List.length_append]
  omega
end Go.Proofs.Ytgcoidbaoigkeaa.fix
namespace Go.Proofs.Ytgcoidbaoigkeaa.fix
open Go.RowKit Go.Sx
theorem Z125 {l:List Int} {p:Int} (h:p ∈ l):∃ m,m < l.length∧p=l.getD m 0:=by
 obtain ⟨m,hm,e⟩:=List.getElem_of_mem h
 exact ⟨m,hm,by rw [← e]; simp [List.getD,hm]⟩
theorem Zlm {b p:Int} {i k:Nat} {P:List Int}:∀ {n},p ∈ Z3l b i k P n→∃ m,m < n∧p=Z69 b i k m (P.getD m 0)
 | 0,h=>by cases h
 | n + 1,h=>by
  rw [Z3l,List.mem_append,List.mem_singleton] at h
  rcases h with h | h
  ·obtain ⟨m,hm,e⟩:=Zlm h
   exact ⟨m,by omega,e⟩
  ·exact ⟨n,by omega,h⟩
theorem Zqw {l:List Int} {pt:Nat→Nat→List Int} {i:Nat} {p:Int}:∀ {n},p ∈ Zpz l pt i n→∃ k m,k < n∧m < (pt i k).length∧p=Z69 (l.getD i 0) i k m ((pt i k).getD m 0)
 | 0,h=>by cases h
 | n + 1,h=>by
  rw [Zpz,List.mem_append] at h
  rcases h with h | h
  ·obtain ⟨k,m,hk,hm,e⟩:=Zqw h
   exact ⟨k,m,by omega,hm,e⟩
  ·obtain ⟨m,hm,e⟩:=Zlm h
   exact ⟨n,m,by omega,hm,e⟩
theorem Za5 {l:List Int} {pt:Nat→Nat→List Int} {p:Int}:∀ {n},p ∈ Z6a l pt n→∃ i k m,i < n∧k < (Z1p (l.getD i 0)).length∧m < (pt i k).length∧p=Z69 (l.getD i 0) i k m ((pt i k).getD m 0)
 | 0,h=>by cases h
 | n + 1,h=>by
  rw [Z6a,List.mem_append] at h
  rcases h with h | h
  ·obtain ⟨i,k,m,hi,hk,hm,e⟩:=Za5 h
   exact ⟨i,k,m,by omega,hk,hm,e⟩
  ·obtain ⟨k,m,hk,hm,e⟩:=Zqw h
   exact ⟨n,k,m,by omega,hk,hm,e⟩
theorem Z17b (b:Int) (i k n:Nat) (p:Int):Z1q (Z69 b i k n p)=Z1q p:=by
 unfold Z69
 generalize hq:Z1q p=q
 have hl:q.length=15:=by rw [← hq]; rfl
 obtain ⟨q0,q1,q2,q3,q4,q5,q6,q7,q8,q9,q10,q11,q12,q13,q14,rfl⟩:=Z166 hl
 unfold Z1q co
 rw [Z4]
 rfl
theorem Zln (b:Int) (i k n:Nat) (p:Int):co (Z69 b i k n p) 16=(i:Int):=by
 unfold Z69 co
 rw [Z4]
 rfl
theorem Z1j {a c x:Int} (h:Zh (iv a c) x) (h1:-9223372036854775808≤a) (h2:c≤9223372036854775807):Zh zz x:=⟨Int.le_trans h1 h.1,Int.le_trans h.2 h2⟩
theorem Zir {c0 c1 c2 c3 c4 c5 c6 c7 c8 c9 c10 c11 c12 c13 c14 c15 l0 l1 l2 l3 l4:Int} (hv:Zq (zs 16) [c0,c1,c2,c3,c4,c5,c6,c7,c8,c9,c10,c11,c12,c13,c14,c15]) (h:Zq (zs 5) [l0,l1,l2,l3,l4]):Zq (zs 5) (five (Z86 [c0,c1,c2,c3,c4,c5,c6,c7,c8,c9,c10,c11,c12,c13,c14,c15,l0,l1,l2,l3,l4])):=by
 have p:Z4q.pre ([c0,c1,c2,c3,c4,c5,c6,c7,c8,c9,c10,c11,c12,c13,c14,c15]++[l0,l1,l2,l3,l4]):=Zw hv h
 have o:=Z6y.2 Z47 _ p p
 exact Z1 (Z1j (o.2 0) (by decide) (by decide)) (Z1 (Z1j (o.2 1) (by decide) (by decide)) (Z1 (Z1j (o.2 2) (by decide) (by decide)) (Z1 (Z1j (o.2 3) (by decide) (by decide)) (Z1 (Z1j (o.2 4) (by decide) (by decide)) Z2))))
theorem Z17c {c0 c1 c2 c3 c4 c5 c6 c7 c8 c9 c10 c11 c12 c13 c14 c15 lq:Int} (hv:Zq (zs 16) [c0,c1,c2,c3,c4,c5,c6,c7,c8,c9,c10,c11,c12,c13,c14,c15]) (he:Zq (zs 15) [co lq 0,co lq 1,co lq 2,co lq 3,co lq 4,co lq 5,co lq 6,co lq 7,co lq 8,co lq 9,co lq 10,co lq 11,co lq 12,co lq 13,co lq 14]):Zq (zs 15) (Zl5 [c0,c1,c2,c3,c4,c5,c6,c7,c8,c9,c10,c11,c12,c13,c14,c15] lq):=by
 have h0:=Zir (l0:=co lq 0) (l1:=co lq 1) (l2:=co lq 2) (l3:=co lq 3) (l4:=co lq 4) hv (Z1 (he.2 0) (Z1 (he.2 1) (Z1 (he.2 2) (Z1 (he.2 3) (Z1 (he.2 4) Z2)))))
 have h5:=Zir (l0:=co lq 5) (l1:=co lq 6) (l2:=co lq 7) (l3:=co lq 8) (l4:=co lq 9) hv (Z1 (he.2 5) (Z1 (he.2 6) (Z1 (he.2 7) (Z1 (he.2 8) (Z1 (he.2 9) Z2)))))
 have h10:=Zir (l0:=co lq 10) (l1:=co lq 11) (l2:=co lq 12) (l3:=co lq 13) (l4:=co lq 14) hv (Z1 (he.2 10) (Z1 (he.2 11) (Z1 (he.2 12) (Z1 (he.2 13) (Z1 (he.2 14) Z2)))))
 exact Zw h0 (Zw h5 h10)
theorem Z126 {s:List Int} (h:Zq (zs 15) s):Zq (zs 15) (Z112 (Z9p s)):=by
 have o:=Zlh.2 Z9q _ h h
 exact Z1 (Z1j (o.2 0) (by decide) (by decide)) (Z1 (Z1j (o.2 1) (by decide) (by decide)) (Z1 (Z1j (o.2 2) (by decide) (by decide)) (Z1 (Z1j (o.2 3) (by decide) (by decide)) (Z1 (Z1j (o.2 4) (by decide) (by decide)) (Z1 (Z1j (o.2 5) (by decide) (by decide)) (Z1 (Z1j (o.2 6) (by decide) (by decide)) (Z1 (Z1j (o.2 7) (by decide) (by decide)) (Z1 (Z1j (o.2 8) (by decide) (by decide)) (Z1 (Z1j (o.2 9) (by decide) (by decide)) (Z1 (Z1j (o.2 10) (by decide) (by decide)) (Z1 (Z1j (o.2 11) (by decide) (by decide)) (Z1 (Z1j (o.2 12) (by decide) (by decide)) (Z1 (Z1j (o.2 13) (by decide) (by decide)) (Z1 (Z1j (o.2 14) (by decide) (by decide)) Z2))))))))))))))
theorem Z127 {c0 c1 c2 c3 c4 c5 c6 c7 c8 c9 c10 c11 c12 c13 c14 c15 b t q:Int} (hv:Zq (zs 16) [c0,c1,c2,c3,c4,c5,c6,c7,c8,c9,c10,c11,c12,c13,c14,c15]) (hn:Zq (zs 16) (c13::Znl [c0,c1,c2,c3,c4,c5,c6,c7,c8,c9,c10,c11,c12,c13,c14,c15] b t)) (h:q ∈ Z5z [c0,c1,c2,c3,c4,c5,c6,c7,c8,c9,c10,c11,c12,c13,c14,c15] b t):Zq (zs 15) (Z1q q):=by
 unfold Z5z at h
 obtain ⟨lq,hl,hp⟩:=List.mem_filterMap.1 h
 unfold Zi8 at hp
 split at hp
 ·simp only [Option.some.injEq] at hp
  have e:Z1q q=Z112 (Z9p (Zl5 [c0,c1,c2,c3,c4,c5,c6,c7,c8,c9,c10,c11,c12,c13,c14,c15] lq)):=by
   rw [← hp]
   unfold Z1q co
   rw [Z4]
   rfl
  rw [e]
  exact Z126 (Z17c hv (Zxp (x:=c13::Znl [c0,c1,c2,c3,c4,c5,c6,c7,c8,c9,c10,c11,c12,c13,c14,c15] b t) rfl hn lq hl))
 ·cases hp
theorem Zew {c0 c1 c2 c3 c4 c5 c6 c7 c8 c9 c10 c11 c12 c13 c14 c15 b t:Int}:(Z5z [c0,c1,c2,c3,c4,c5,c6,c7,c8,c9,c10,c11,c12,c13,c14,c15] b t).length≤6:=by
 unfold Z5z
 exact Nat.le_trans (List.length_filterMap_le _ _) (Zet (x:=c13::Znl [c0,c1,c2,c3,c4,c5,c6,c7,c8,c9,c10,c11,c12,c13,c14,c15] b t) rfl).1
theorem Z128 {l:List Int} {pt:Nat→Nat→List Int} (h:∀ i k,i < l.length→k < (Z1p (l.getD i 0)).length→∀ q ∈ pt i k,Zq (zs 15) (Z1q q)):∀ p ∈ Z6a l pt l.length,Zq (zs 15) (Z1q p):=by
 intro p hp
 obtain ⟨i,k,m,hi,hk,hm,rfl⟩:=Za5 hp
 rw [Z17b]
 exact h i k hi hk _ (Zy hm)
end Go.Proofs.Ytgcoidbaoigkeaa.fix
namespace Go.Proofs.Ytgcoidbaoigkeaa.fix
open Go.RowKit Go.Sx
noncomputable def Zqx:List Sum:=[]
def Z14o:List Inf:=[]
def Z14p:TX:=(.ite (.not (.eq (.v 0) (.v 0))) (.ite (.not (.eq (.v 1) (.v 1))) (.ret [(.c 0)])
(.ret [(.c (-1))]))
(.ite (.not (.eq (.v 1) (.v 1))) (.ret [(.c 1)])
(.ite (.lt (.v 0) (.v 1)) (.ret [(.c (-1))])
(.ite (.lt (.v 1) (.v 0)) (.ret [(.c 1)])
(.ret [(.c 0)])))))
theorem Zxs:Z17 (Zu [] Z14o [] Zia (Zx Try.prog Zbe gl0 Zqx 1000 60 [I1,I1] [I1]))=Z14p:=by kernel_rfl
theorem g_cmpI:Gok Try.prog Zqx:=noG
theorem o_cmpI:Zr Zqx Z14o:=Za
theorem Z17d:Zq0.ok Try.prog:=Sum.okF facts.mixed g_cmpI o_cmpI Zxs rfl (fun _=>rfl) (by
 intro xs hx hp
 obtain ⟨a,b,rfl⟩:=Zfh hx
 simp only [Z14p,Zqx,TX.sat,XB.prop,X.den,Z18k,Z18l,Z18e,Z18f,Z18i,Z18j,Z18g,Z18h,mkS,mkP,and_true,true_and,Z18p,Z18q,not_or,not_and,Z18m,ne_eq,Z18n,Z18o,Zi9]
 refine ⟨fun h=>h.elim,fun _=>⟨fun h=>h.elim,fun _=>⟨fun h=>by rw [if_pos h],fun h=>⟨fun h2=>by rw [if_neg (by omega),if_pos h2],fun h2=>by rw [if_neg (by omega),if_neg (by omega)]⟩⟩⟩⟩)
theorem Z129:Z1i Zq0 Z147:=⟨fun _ h=>h,fun vs xs h hp=>Z1 (Zc.2 (by split; omega; split <;> omega)) Z2⟩
noncomputable def Z12a:List Sum:=[]
def I_orI:List Inf:=[]
def t_orI:TX:=(.loop 2 [none,none] [(.c 0),(.c 0)] (.ite (.le (.ln (.v 0)) (.v 2)) (.ret [(.c 0)])
(.asrt (.le (.c 0) (.v 2)) (.ite (.not (.eq (.l2 .at (.v 0) (.v 2)) (.c 0))) (.ret [(.l2 .at (.v 0) (.v 2))])
(.back 0 [(.v 1),(.wr .i64 (.add (.v 2) (.c 1)))])))))
theorem Z12b:Z17 (Zu [] I_orI [] [none] (Zx Try.prog (Zbj Try.prog [(3,9)]) gl0 Z12a 1000 89 [Is] [I1]))=t_orI:=by kernel_rfl
theorem g_orI:Gok Try.prog Z12a:=noG
theorem o_orI:Zr Z12a I_orI:=Za
theorem ok_orI:Z114.ok Try.prog:=Sum.okPF (pin:=Zwi) facts.mixed g_orI o_orI Z12b rfl (fun _=>rfl) (fun xs h=>h.1) (by
 intro xs hx hp
 obtain ⟨a,rfl⟩:∃ a,xs=[a]:=by
  match xs,hx with
  | [a],_=>exact ⟨a,rfl⟩
 have hl:(dec a).length≤1000:=hp.2
 simp only [t_orI,Z12a,TX.sat,XB.prop,X.den,Z18k,Z18l,Z18e,Z18f,Z18i,Z18j,Z18g,Z18h,mkS,mkP,and_true,true_and,Z18p,Z18q,not_or,not_and,Z18m,ne_eq,Z18n,Z18o,Znn,L2.den]
 generalize dec a=l at hl
 refine ⟨fun xs=>∃ i:Nat,xs.getD 1 0=(i:Int)∧i≤l.length∧Z9u (l.drop i)=Z9u l,fun xs=>l.length - (xs.getD 1 0).toNat,fun xs hx _=>Zv (n:=2) hx,⟨0,rfl,by omega,rfl⟩,?_⟩
 intro ys hy hI
 obtain ⟨d0,d1,rfl⟩:=Zfh hy
 obtain ⟨i,hi,hil,hf⟩:=hI
 simp only [TX.sat,XB.prop,X.den,Z18k,Z18l,Z18e,Z18f,Z18i,Z18j,Z18g,Z18h,mkS,mkP,and_true,true_and,Z18p,Z18q,not_or,not_and,Z18m,ne_eq,Z18n,Z18o] at hi ⊢
 subst hi
 simp only [Int.toNat_natCast]
 refine ⟨fun hge=>?_,fun hlt=>⟨by omega,fun hne=>?_,fun h0=>?_⟩⟩
 ·have:i=l.length:=by omega
  rw [← hf,this,List.drop_length]
  rfl
 ·have hil':i < l.length:=by omega
  have hd:l.drop i=l.getD i 0::l.drop (i + 1):=by
   rw [List.drop_eq_getElem_cons hil',show l.getD i 0=l[i] by simp [List.getD,hil']]
  rw [← hf,hd,Z9u,if_neg hne]
 ·have hil':i < l.length:=by omega
  have hd:l.drop i=l.getD i 0::l.drop (i + 1):=by
   rw [List.drop_eq_getElem_cons hil',show l.getD i 0=l[i] by simp [List.getD,hil']]
  rw [hd,Z9u,if_pos h0] at hf
  have hw:IntKind.i64.wrap ((i:Int) + 1)=((i + 1:Nat):Int):=by rw [Z10 (by omega) (by omega)]; omega
  refine ⟨⟨i + 1,hw,by omega,hf⟩,?_⟩
  rw [hw,Int.toNat_natCast]
  omega)
theorem Z17e:Z1i Z114 i_orI:=⟨fun xs h=>(Z1k xs h).elim,fun vs xs h hp=>Z1 trivial Z2⟩
noncomputable def Zch:List Sum:=[Zq0,Z114]
def Zqy:List Inf:=[Z147,i_orI]
def Zqz:TX:=(.callp 0 [(.v 6),(.v 0)] (.callp 0 [(.v 1),(.v 7)] (.callp 0 [(.v 2),(.v 8)] (.callp 0 [(.v 3),(.v 9)] (.call 1 [(.l2 .cons (.v 12) (.l2 .cons (.v 13) (.l2 .cons (.v 14) (.l2 .cons (.v 15) .nl))))] (.ite (.lt (.v 16) (.c 0)) (.ret [(.c 1)])
(.ret [(.c 0)])))))))
theorem Zo8:Z17 (Zu [] Zqy [] Zb3 (Zx Try.prog Zbe gl0 Zch 1000 55 [An 6,An 6] [Bo]))=Zqz:=by kernel_rfl
theorem Z12c:Gok Try.prog Zch:=(more Z17d (fix.one ok_orI))
theorem Z12d:Zr Zch Zqy:=(Z3 Z129 (Z3 Z17e Za))
theorem first4 {p q r s:Int}:Z9u [p,q,r,s] < 0↔(p < 0∨(p=0∧(q < 0∨(q=0∧(r < 0∨(r=0∧s < 0)))))):=by
 simp only [Z9u]
 split
 ·split
  ·split
   ·split <;> omega
   ·omega
  ·omega
 ·omega
theorem Zr0 {a b:Int}:(if a < b then (-1:Int) else if b < a then 1 else 0) < 0↔a < b:=by
 split
 ·omega
 ·split <;> omega
theorem Zxt {a b:Int}:(if a < b then (-1:Int) else if b < a then 1 else 0)=0↔a=b:=by
 split
 ·omega
 ·split <;> omega
theorem Zxu:Zc9.ok Try.prog:=Sum.okF facts.mixed Z12c Z12d Zo8 rfl (fun _=>rfl) (by
 intro xs hx hp
 obtain ⟨a0,a1,a2,a3,a4,a5,a6,a7,a8,a9,a10,a11,rfl⟩:=Z165 hx
 simp only [Zqz,Zch,Zq0,Z114,TX.sat,XB.prop,X.den,Z18k,Z18l,Z18e,Z18f,Z18i,Z18j,Z18g,Z18h,mkS,mkP,and_true,true_and,Z18p,Z18q,not_or,not_and,Z18m,ne_eq,Z18n,Z18o,Zi9,Znn,Zgp,L2.den,Z4,Z24]
 have key:Zei [a0,a1,a2,a3,a4,a5,a6,a7,a8,a9,a10,a11]=true↔Z9u [if a6 < a0 then (-1:Int) else if a0 < a6 then 1 else 0,if a1 < a7 then (-1:Int) else if a7 < a1 then 1 else 0,if a2 < a8 then (-1:Int) else if a8 < a2 then 1 else 0,if a3 < a9 then (-1:Int) else if a9 < a3 then 1 else 0] < 0:=by
  rw [first4,Zr0,Zr0,Zr0,Zr0,Zxt,Zxt,Zxt]
  unfold Zei
  rw [decide_eq_true_iff]
  simp only [TX.sat,XB.prop,X.den,Z18k,Z18l,Z18e,Z18f,Z18i,Z18j,Z18g,Z18h,mkS,mkP,and_true,true_and,Z18p,Z18q,not_or,not_and,Z18m,ne_eq,Z18n,Z18o]
 refine ⟨⟨Zv (n:=1) rfl,by show (dec (cod _)).length≤1000; rw [Z4]; simp⟩,fun h=>?_,fun h=>?_⟩
 ·rw [key.2 h]; rfl
 ·cases hb:Zei [a0,a1,a2,a3,a4,a5,a6,a7,a8,a9,a10,a11] with
  | true=>exact absurd (key.1 hb) (by omega)
  | false=>rfl)
theorem Zta:Z1i Zc9 Zq1:=⟨fun _ h=>h,fun vs xs h hp=>Z1 (Zgj _) Z2⟩
theorem Z17f {b:Bool} (h:¬ [b01 b].getD 0 0=0):b=true:=by
 cases b with
 | true=>rfl
 | false=>exact absurd rfl h
theorem Zgw (l:List Int) (j:Nat):co (cod l) j=l.getD j 0:=by unfold co; rw [Z4]
theorem Zxv:Zq (zs 7) Zq2:=by
 have z:∀ n:Int,-5000≤n∧n≤5000→Zh zz n:=fun n h=>zc n (by omega) (by omega)
 exact Z1 (z _ (by decide)) (Z1 (z _ (by decide)) (Z1 (z _ (by decide)) (Z1 (z _ (by decide)) (Z1 (z _ (by decide)) (Z1 (z _ (by decide)) (Z1 (z _ (by decide)) Z2))))))
theorem Zo9 {l:List Int}:∀ (F acc:List Int),Zq (zs 7) acc→(∀ f ∈ F,Zq (zs 6) [co f 0,co f 1,co f 2,co f 3,co f 4,co f 5])→Zq (zs 7) (F.foldl (Z1d l) acc)
 | [],acc,h,_=>h
 | f::F,acc,h,hF=>by
  rw [List.foldl_cons]
  refine Zo9 F _ ?_ fun g hg=>hF g (List.mem_cons_of_mem _ hg)
  unfold Z1d
  split
  ·exact Zw (hF f (List.mem_cons_self ..)) (Z1 (zc 1 (by decide) (by decide)) Z2)
  ·exact h
theorem Z17g (n:Int):Zh zz (IntKind.i64.wrap n):=by
 rw [IntKind.wrap_i64]
 exact zc _ (by omega) (by omega)
theorem Z12e (b:Int) (i k n:Nat) (p:Int):co (Z69 b i k n p) 17=(k:Int)∧co (Z69 b i k n p) 18=(n:Int):=by
 unfold Z69 co
 rw [Z4]
 exact ⟨rfl,rfl⟩
theorem Z12f {l:List Int} {pt:Nat→Nat→List Int}:∀ p ∈ Z6a l pt l.length,0≤co p 16∧co p 16 < (l.length:Int):=by
 intro p hp
 obtain ⟨i,k,m,hi,hk,hm,rfl⟩:=Za5 hp
 rw [Zln]
 omega
end Go.Proofs.Ytgcoidbaoigkeaa.fix
namespace Go.Proofs.Ytgcoidbaoigkeaa.fix
open Go.RowKit Go.Sx
noncomputable def Z12g:List Sum:=[]
def I_mix:List Inf:=[]
def t_mix:TX:=(.ret [(.wr .u8 (.quo (.mul (.v 0) (.v 4)) (.c 255))),(.wr .u8 (.quo (.mul (.v 1) (.v 5)) (.c 255))),(.wr .u8 (.quo (.mul (.v 2) (.v 6)) (.c 255))),(.wr .u8 (.quo (.mul (.v 3) (.v 7)) (.c 255)))])
theorem Z12h:Z17 (Zu [] I_mix [] Znp (Zx Try.prog Zbe gl0 Z12g 1000 117 [Cl,Cl] [Cl]))=t_mix:=by kernel_rfl
theorem g_mix:Gok Try.prog Z12g:=noG
theorem o_mix:Zr Z12g I_mix:=Za
theorem ok_mix:Z115.ok Try.prog:=Sum.okF facts.mixed g_mix o_mix Z12h rfl (fun _=>rfl) (by
 intro xs hx hp
 obtain ⟨a0,a1,a2,a3,a4,a5,a6,a7,rfl⟩:=len8 hx
 simp only [t_mix,Z12g,TX.sat,XB.prop,X.den,Z18k,Z18l,Z18e,Z18f,Z18i,Z18j,Z18g,Z18h,mkS,mkP,and_true,true_and,Z18p,Z18q,not_or,not_and,Z18m,ne_eq,Z18n,Z18o,Zno,u8m])
theorem Z3s (n:Int):Zh (iv 0 255) (IntKind.u8.wrap n):=by
 have h:IntKind.u8.wrap n=n % 256:=rfl
 rw [h]
 show 0≤n % 256∧n % 256≤255
 omega
theorem Z17h:Z1i Z115 i_mix:=⟨fun _ h=>h,fun vs xs h hp=>Z1 (Z3s _) (Z1 (Z3s _) (Z1 (Z3s _) (Z1 (Z3s _) Z2)))⟩
noncomputable def Zr1:List Sum:=[]
def Z14q:List Inf:=[]
def Z14r:TX:=(.ret [(.wr .u8 (.quo (.add (.mul (.v 0) (.v 3)) (.mul (.v 4) (.sub (.c 255) (.v 3)))) (.c 255))),(.wr .u8 (.quo (.add (.mul (.v 1) (.v 3)) (.mul (.v 5) (.sub (.c 255) (.v 3)))) (.c 255))),(.wr .u8 (.quo (.add (.mul (.v 2) (.v 3)) (.mul (.v 6) (.sub (.c 255) (.v 3)))) (.c 255))),(.wr .u8 (.quo (.add (.mul (.c 255) (.v 3)) (.mul (.v 7) (.sub (.c 255) (.v 3)))) (.c 255)))])
theorem Zxw:Z17 (Zu [] Z14q [] Zib (Zx Try.prog Zbe gl0 Zr1 1000 61 [Cl,Cl] [Cl]))=Z14r:=by kernel_rfl
theorem g_over:Gok Try.prog Zr1:=noG
theorem o_over:Zr Zr1 Z14q:=Za
theorem Z17i:Zq3.ok Try.prog:=Sum.okF facts.mixed g_over o_over Zxw rfl (fun _=>rfl) (by
 intro xs hx hp
 obtain ⟨a0,a1,a2,a3,a4,a5,a6,a7,rfl⟩:=len8 hx
 simp only [Z14r,Zr1,TX.sat,XB.prop,X.den,Z18k,Z18l,Z18e,Z18f,Z18i,Z18j,Z18g,Z18h,mkS,mkP,and_true,true_and,Z18p,Z18q,not_or,not_and,Z18m,ne_eq,Z18n,Z18o,Z7u,layV])
theorem Z12i:Z1i Zq3 Z148:=⟨fun _ h=>h,fun vs xs h hp=>Z1 (Z3s _) (Z1 (Z3s _) (Z1 (Z3s _) (Z1 (Z3s _) Z2)))⟩
noncomputable def Z12j:List Sum:=[Zgm]
def I_tat:List Inf:=[Zwb]
def t_tat:TX:=(.callp 0 [(.v 0),(.v 1),(.v 2)] (.ite (.not (.eq (.v 5) (.c 0))) (.ret [(.c 0),(.c 0),(.c 0),(.c 0),(.v 5)])
(.ite (.or (.lt (.mn (.v 3) (.v 4)) (.c 0)) (.lt (.c 255) (.mx (.v 3) (.v 4)))) (.ret [(.c 0),(.c 0),(.c 0),(.c 0),(.c 2)])
(.asrt (.le (.c 0) (.wr .i64 (.mul (.v 4) (.v 1)))) (.asrt (.le (.wr .i64 (.mul (.v 4) (.v 1))) (.c 4611686018427387904)) (.asrt (.le (.c 0) (.wr .i64 (.mul (.v 3) (.v 0)))) (.asrt (.le (.wr .i64 (.mul (.v 3) (.v 0))) (.c 4611686018427387904)) (.asrt (.le (.c 0) (.wr .i64 (.add (.wr .i64 (.mul (.quo (.wr .i64 (.mul (.v 4) (.v 1))) (.c 256)) (.v 0))) (.quo (.wr .i64 (.mul (.v 3) (.v 0))) (.c 256))))) (.asrt (.lt (.wr .i64 (.add (.wr .i64 (.mul (.quo (.wr .i64 (.mul (.v 4) (.v 1))) (.c 256)) (.v 0))) (.quo (.wr .i64 (.mul (.v 3) (.v 0))) (.c 256)))) (.ln (.v 2))) (.ret [(.l2 .at (.l2 .at (.v 2) (.wr .i64 (.add (.wr .i64 (.mul (.quo (.wr .i64 (.mul (.v 4) (.v 1))) (.c 256)) (.v 0))) (.quo (.wr .i64 (.mul (.v 3) (.v 0))) (.c 256))))) (.c 0)),(.l2 .at (.l2 .at (.v 2) (.wr .i64 (.add (.wr .i64 (.mul (.quo (.wr .i64 (.mul (.v 4) (.v 1))) (.c 256)) (.v 0))) (.quo (.wr .i64 (.mul (.v 3) (.v 0))) (.c 256))))) (.c 1)),(.l2 .at (.l2 .at (.v 2) (.wr .i64 (.add (.wr .i64 (.mul (.quo (.wr .i64 (.mul (.v 4) (.v 1))) (.c 256)) (.v 0))) (.quo (.wr .i64 (.mul (.v 3) (.v 0))) (.c 256))))) (.c 2)),(.l2 .at (.l2 .at (.v 2) (.wr .i64 (.add (.wr .i64 (.mul (.quo (.wr .i64 (.mul (.v 4) (.v 1))) (.c 256)) (.v 0))) (.quo (.wr .i64 (.mul (.v 3) (.v 0))) (.c 256))))) (.c 3)),(.c 0)]))))))))))
theorem Z12k:Z17 (Zu [] I_tat [] Znr (Zx Try.prog Zbe gl0 Z12j 1000 116 [Tx,I1,I1] [Cl,I1]))=t_tat:=by kernel_rfl
theorem g_tat:Gok Try.prog Z12j:=(fix.one Zxi)
theorem o_tat:Zr Z12j I_tat:=(Z3 Zql Za)
theorem wrs {n:Int} (h0:0≤n) (h1:n≤100000000):IntKind.i64.wrap n=n:=Z10 (by omega) (by omega)
theorem q256 {a b:Int} (ha:0≤a∧a≤255) (hb:0 < b∧b≤16):0≤(a * b).tdiv 256∧(a * b).tdiv 256 < b:=by
 have h1:0≤a * b:=Int.mul_nonneg ha.1 (by omega)
 have h2:a * b≤255 * b:=Int.mul_le_mul_of_nonneg_right ha.2 (by omega)
 rw [Int.tdiv_eq_ediv_of_nonneg h1]
 omega
theorem ok_tat:Z117.ok Try.prog:=Sum.okPF (pin:=Znr) facts.mixed g_tat o_tat Z12k rfl (fun _=>rfl) (fun xs h=>h.1) (by
 intro xs hx hp
 obtain ⟨w,h,c,u,v,rfl⟩:=len5 hx
 clear hp
 simp only [t_tat,Z12j,Zgm,TX.sat,XB.prop,X.den,Z18k,Z18l,Z18e,Z18f,Z18i,Z18j,Z18g,Z18h,mkS,mkP,and_true,true_and,Z18p,Z18q,not_or,not_and,Z18m,ne_eq,Z18n,Z18o,Znq,Zc7,L2.den,tatL,show Int.toNat 0=0 from rfl,show Int.toNat 1=1 from rfl,show Int.toNat 2=2 from rfl,show Int.toNat 3=3 from rfl]
 by_cases ht:Zfs w h c=true
 ·rw [(Znb _ (show (8:Int) ≠ 0 by decide)).2 ht,if_pos ht]
  refine ⟨fun hh=>absurd rfl hh,fun _=>⟨fun hh=>?_,fun hh=>?_⟩⟩
  ·have hu:¬ Zzg u v=true:=by
    unfold Zzg
    rw [decide_eq_true_iff]
    omega
   rw [if_neg hu]
   rfl
  ·have hu:Zzg u v=true:=by
    unfold Zzg
    rw [decide_eq_true_iff]
    omega
   have hu':=of_decide_eq_true hu
   unfold Zfs at ht
   rw [decide_eq_true_iff] at ht
   obtain ⟨⟨w0,w1⟩,⟨h0,h1⟩,hl⟩:=ht
   rw [if_pos hu]
   have e1:=q256 (a:=v) (b:=h) ⟨hu'.1.2,hu'.2.2⟩ ⟨h0,h1⟩
   have e2:=q256 (a:=u) (b:=w) ⟨hu'.1.1,hu'.2.1⟩ ⟨w0,w1⟩
   have m1:0≤v * h∧v * h≤255 * 16:=⟨Int.mul_nonneg hu'.1.2 (by omega),Int.le_trans (Int.mul_le_mul_of_nonneg_right hu'.2.2 (by omega)) (by omega)⟩
   have m2:0≤u * w∧u * w≤255 * 16:=⟨Int.mul_nonneg hu'.1.1 (by omega),Int.le_trans (Int.mul_le_mul_of_nonneg_right hu'.2.1 (by omega)) (by omega)⟩
   have m3:0≤(v * h).tdiv 256 * w∧(v * h).tdiv 256 * w≤(h - 1) * w:=⟨Int.mul_nonneg e1.1 (by omega),Int.mul_le_mul_of_nonneg_right (by omega) (by omega)⟩
   have m4:(h - 1) * w≤16 * 16:=Int.le_trans (Int.mul_le_mul_of_nonneg_right (show h - 1≤16 by omega) (by omega)) (by omega)
   have m5:(h - 1) * w=w * h - w:=by rw [Int.sub_mul,Int.one_mul,Int.mul_comm]
   rw [wrs m1.1 (by omega),wrs m2.1 (by omega),wrs m3.1 (by omega),wrs (show 0≤(v * h).tdiv 256 * w + (u * w).tdiv 256 by omega) (by omega)]
   refine ⟨m1.1,by omega,m2.1,by omega,by omega,by omega,rfl⟩
 ·have hz:er (Zfs w h c) 8=8:=by
   cases hb:Zfs w h c with
   | true=>exact absurd hb ht
   | false=>rfl
  rw [hz]
  refine ⟨fun _=>by rw [if_neg ht]; rfl,fun hh=>absurd hh (by decide)⟩)
theorem Z14s {w h c u v:Int} (hc:∀ e ∈ dec c,Zd Zss (dec e)):Zq (ivs 4 0 255++[iv 0 8]) (ex5 (tatL w h c u v)):=by
 have z:∀ n:Int,0≤n→n≤8→Zh (iv 0 8) n:=fun n h1 h2=>⟨h1,h2⟩
 have z5:∀ n:Int,0≤n→n≤255→Zh (iv 0 255) n:=fun n h1 h2=>⟨h1,h2⟩
 have zr:∀ n:Int,0≤n→n≤8→Zq (ivs 4 0 255++[iv 0 8]) (ex5 [0,0,0,0,n]):=fun n h1 h2=>Z1 (z5 0 (by decide) (by decide)) (Z1 (z5 0 (by decide) (by decide)) (Z1 (z5 0 (by decide) (by decide)) (Z1 (z5 0 (by decide) (by decide)) (Z1 (z n h1 h2) Z2))))
 unfold tatL
 split
 ·rename_i ht
  split
  ·rename_i hu
   unfold Zfs at ht
   rw [decide_eq_true_iff] at ht
   obtain ⟨⟨w0,w1⟩,⟨h0,h1⟩,hl⟩:=ht
   have hu':=of_decide_eq_true hu
   have e1:=q256 (a:=v) (b:=h) ⟨hu'.1.2,hu'.2.2⟩ ⟨h0,h1⟩
   have e2:=q256 (a:=u) (b:=w) ⟨hu'.1.1,hu'.2.1⟩ ⟨w0,w1⟩
   have m3:0≤(v * h).tdiv 256 * w∧(v * h).tdiv 256 * w≤(h - 1) * w:=⟨Int.mul_nonneg e1.1 (by omega),Int.mul_le_mul_of_nonneg_right (by omega) (by omega)⟩
   have m5:(h - 1) * w=w * h - w:=by rw [Int.sub_mul,Int.one_mul,Int.mul_comm]
   have hr:=hc (txlV w h c u v) (Zy (by omega))
   have k:=Z1m hr
   exact Z1 (k.2 0) (Z1 (k.2 1) (Z1 (k.2 2) (Z1 (k.2 3) (Z1 (z 0 (by decide) (by decide)) Z2))))
  ·exact zr 2 (by decide) (by decide)
 ·exact zr 8 (by decide) (by decide)
theorem Z17j:Z1i Z117 i_tat:=⟨fun xs h=>(Z1k xs h).elim,fun vs xs h hp=>Z14s hp.2⟩
noncomputable def Zis:List Sum:=[Zgn,Z7t,Z117,Z115]
def Zxx:List Inf:=[Zwc,Zi3,i_tat,i_mix]
def Zxy:TX:=(.call 0 [(.v 9)] (.ite (.not (.eq (.v 12) (.c 0))) (.ret [(.c 0),(.c 0),(.c 0),(.c 0),(.v 12)])
(.call 1 [(.v 0),(.v 1),(.v 2),(.v 3),(.v 4),(.v 5),(.v 6),(.v 7),(.v 8),(.ln (.v 9))] (.ite (.not (.eq (.v 13) (.c 0))) (.ret [(.c 0),(.c 0),(.c 0),(.c 0),(.v 13)])
(.ite (.or (.lt (.mn (.v 10) (.v 11)) (.c 0)) (.lt (.c 255) (.mx (.v 10) (.v 11)))) (.ret [(.c 0),(.c 0),(.c 0),(.c 0),(.c 2)])
(.ite (.lt (.v 4) (.c 0)) (.ret [(.v 0),(.v 1),(.v 2),(.v 3),(.c 0)])
(.asrt (.lt (.v 4) (.ln (.v 9))) (.call 2 [(.l2 .at (.l2 .at (.v 9) (.v 4)) (.c 0)),(.l2 .at (.l2 .at (.v 9) (.v 4)) (.c 1)),(.l2 .at (.l2 .at (.l2 .at (.v 9) (.v 4)) (.c 2)) (.c 4)),(.v 10),(.v 11)] (.callp 3 [(.v 0),(.v 1),(.v 2),(.v 3),(.v 14),(.v 15),(.v 16),(.v 17)] (.ret [(.v 19),(.v 20),(.v 21),(.v 22),(.v 18)]))))))))))
theorem Ztb:Z17 (Zu [] Zxx [] Z9w (Zx Try.prog Zbe gl0 Zis 1000 90 [Lk,Txs,I1,I1] [Cl,I1]))=Zxy:=by kernel_rfl
theorem Z17k:Gok Try.prog Zis:=(more Zxk (more Zll (more ok_tat (fix.one ok_mix))))
theorem Z17l:Zr Zis Zxx:=(Z3 Zqn (Z3 Zgu (Z3 Z17j (Z3 Z17h Za))))
theorem Z12l:Zic.ok Try.prog:=Sum.okPF (pin:=Z9w) facts.mixed Z17k Z17l Ztb rfl (fun _=>rfl) (fun xs h=>h.1) (by
 intro xs hx hp
 obtain ⟨l0,l1,l2,l3,l4,l5,l6,l7,l8,T,u,v,rfl⟩:=Z165 hx
 obtain ⟨hv,hr,hT⟩:=hp
 replace hr:∀ b ∈ dec T,Zd Z68 (dec b):=hr
 replace hT:Z9v (dec T):=hT
 have hco:∀ x j,(dec x).getD j 0=co x j:=fun _ _=>rfl
 have hct:∀ x,co x 4=ctN x:=fun _=>rfl
 simp only [Zxy,Zis,Zgn,Z7t,Z117,Z115,TX.sat,XB.prop,X.den,Z18k,Z18l,Z18e,Z18f,Z18i,Z18j,Z18g,Z18h,mkS,mkP,and_true,true_and,Z18p,Z18q,not_or,not_and,Z18m,ne_eq,Z18n,Z18o,Zej,Zc8,Z7s,Znq,L2.den,Z87,Zwj,show Int.toNat 0=0 from rfl,show Int.toNat 1=1 from rfl,show Int.toNat 2=2 from rfl,show Int.toNat 3=3 from rfl,show Int.toNat 4=4 from rfl,hco,hct]
 refine ⟨⟨Zv (n:=1) rfl,hr⟩,fun h=>?_,fun h=>?_⟩
 ·rw [if_neg h]; rfl
 rw [if_pos h]
 have hT16:(dec T).length≤16:=by
  unfold Zeh at h
  split at h
  ·assumption
  ·exact absurd h (by decide)
 refine ⟨Z1 (hv.2 0) (Z1 (hv.2 1) (Z1 (hv.2 2) (Z1 (hv.2 3) (Z1 (hv.2 4) (Z1 (hv.2 5) (Z1 (hv.2 6) (Z1 (hv.2 7) (Z1 (hv.2 8) (Z1 (zc _ (by omega) (by omega)) Z2))))))))),?_⟩
 rw [if_pos (show (0:Int)≤((dec T).length:Int)∧((dec T).length:Int)≤16 by omega)]
 cases hb:Zay [l0,l1,l2,l3,l4,l5,l6,l7,l8,((dec T).length:Int)] with
 | false=>exact ⟨fun _=>by rw [if_neg (by decide)]; rfl,fun hh=>absurd hh (by decide)⟩
 | true =>
  refine ⟨fun hh=>absurd rfl hh,fun _=>?_⟩
  rw [if_pos rfl]
  have hl4:-1≤l4∧l4 < ((dec T).length:Int):=by
   unfold Zay at hb
   simp only [TX.sat,XB.prop,X.den,Z18k,Z18l,Z18e,Z18f,Z18i,Z18j,Z18g,Z18h,mkS,mkP,and_true,true_and,Z18p,Z18q,not_or,not_and,Z18m,ne_eq,Z18n,Z18o,Z18s] at hb
   exact hb.1
  refine ⟨fun hh=>?_,fun hh=>?_⟩
  ·have hu:¬ Zzg u v=true:=by
    unfold Zzg
    rw [decide_eq_true_iff]
    omega
   rw [if_neg hu]
   rfl
  have hu:Zzg u v=true:=by
   unfold Zzg
   rw [decide_eq_true_iff]
   omega
  rw [if_pos hu]
  refine ⟨fun h4=>by rw [if_pos h4]; rfl,fun h4=>?_⟩
  rw [if_neg (by omega)]
  have hmem:(dec T).getD l4.toNat 0 ∈ dec T:=Zy (by omega)
  have htv:=Z14l (hr _ hmem)
  have hcoT:co T l4.toNat=(dec T).getD l4.toNat 0:=rfl
  rw [hcoT]
  refine ⟨by omega,⟨Z1 (htv.2 0) (Z1 (htv.2 1) (Z1 trivial (Z1 (hv.2 10) (Z1 (hv.2 11) Z2)))),fun e he=>hT _ hmem e he⟩,?_⟩
  generalize tatL (co ((dec T).getD l4.toNat 0) 0) (co ((dec T).getD l4.toNat 0) 1) (ctN (co ((dec T).getD l4.toNat 0) 2)) u v=R
  rfl)
theorem Zlo:Z1i Zic Zwl:=⟨fun xs h=>(Z1k xs h).elim,fun vs xs h hp=>by
 show Zq (ivs 4 0 255++[iv 0 8]) (ex5 (Z87 (Zwj xs) (dec (xs.getD 9 0)) (xs.getD 10 0) (xs.getD 11 0)))
 obtain ⟨hv,hr,hT⟩:=hp
 have z5:∀ n:Int,0≤n→n≤255→Zh (iv 0 255) n:=fun n h1 h2=>⟨h1,h2⟩
 have zr:∀ n:Int,0≤n→n≤8→Zq (ivs 4 0 255++[iv 0 8]) (ex5 [0,0,0,0,n]):=fun n h1 h2=>Z1 (z5 0 (by decide) (by decide)) (Z1 (z5 0 (by decide) (by decide)) (Z1 (z5 0 (by decide) (by decide)) (Z1 (z5 0 (by decide) (by decide)) (Z1 ⟨h1,h2⟩ Z2))))
 unfold Z87 Zwj
 simp only [TX.sat,XB.prop,X.den,Z18k,Z18l,Z18e,Z18f,Z18i,Z18j,Z18g,Z18h,mkS,mkP,and_true,true_and,Z18p,Z18q,not_or,not_and,Z18m,ne_eq,Z18n,Z18o]
 split
 ·split
  ·split
   ·split
    ·exact Z1 (hv.2 0) (Z1 (hv.2 1) (Z1 (hv.2 2) (Z1 (hv.2 3) (Z1 (show Zh (iv 0 8) 0 from ⟨by decide,by decide⟩) Z2))))
    ·rename_i hb _ hn
     have hmem:(dec (xs.getD 9 0)).getD (xs.getD 4 0).toNat 0 ∈ dec (xs.getD 9 0):=Zy (by
      unfold Zay at hb
      simp only [TX.sat,XB.prop,X.den,Z18k,Z18l,Z18e,Z18f,Z18i,Z18j,Z18g,Z18h,mkS,mkP,and_true,true_and,Z18p,Z18q,not_or,not_and,Z18m,ne_eq,Z18n,Z18o,Z18s] at hb
      omega)
     have ht:=(Z14s (w:=co ((dec (xs.getD 9 0)).getD (xs.getD 4 0).toNat 0) 0) (h:=co ((dec (xs.getD 9 0)).getD (xs.getD 4 0).toNat 0) 1) (u:=xs.getD 10 0) (v:=xs.getD 11 0) (hT _ hmem)).2 4
     exact Z1 (Z3s _) (Z1 (Z3s _) (Z1 (Z3s _) (Z1 (Z3s _) (Z1 ht Z2))))
   ·exact zr 2 (by decide) (by decide)
  ·exact zr 8 (by decide) (by decide)
 ·refine zr _ ?_ ?_ <;> (unfold Zeh; split <;> first | decide | (split <;> decide))⟩
end Go.Proofs.Ytgcoidbaoigkeaa.fix
namespace Go.Proofs.Ytgcoidbaoigkeaa.sst
open Go.Shelf Go.RowKit Go.Lib Go.Sort
variable {α:Type} [Inhabited α]
set_option maxHeartbeats 1600000 in
set_option maxRecDepth 1000000 in
theorem ins_0 (p:Option Addr) (cap:Nat) (fn:Value) (w:World):Calls Try.prog 118 #[.slice p 0 cap,.int .i64 0,.int .i64 0,fn] w fun e w'=>e=.returned (.tuple #[])∧∃ m,w'=w.drewN m:=by
 have mixed:=mix
 go_enter Try.func118,Try.ntmps118
 go_wp2
 go_loopg [8] 0 (fun kk s8 wr=>s8=.int .i64 1∧wr=w)
 case atStart=>exact ⟨rfl,rfl⟩
 case round =>
  obtain ⟨rfl,rfl⟩:=hrel
  go_wp2
  go_end0
  exact ⟨rfl,0,rfl⟩
set_option maxHeartbeats 1600000 in
set_option maxRecDepth 1000000 in
theorem Z12m (p:Option Addr) (cap:Nat) (fn:Value) (w:World):Calls Try.prog 91 #[.slice p 0 cap,.int .i64 0,fn] w fun e w'=>e=.returned (.tuple #[])∧∃ m,w'=w.drewN m:=by
 have mixed:=mix
 have hc:=fun w=>ins_0 p cap fn w
 go_enter Try.func91,Try.ntmps91
 go_wp2
 go_loopg [7,8] 0 (fun kk s5 s6 wr=>s5=.int .i64 0∧s6=.int .i64 20∧wr=w)
 case atStart=>exact ⟨rfl,rfl,rfl⟩
 case round =>
  obtain ⟨rfl,rfl,rfl⟩:=hrel
  go_wp2_with fail
  refine (hc _).mono ?_; rintro e w1 ⟨rfl,m,rfl⟩
  dsimp only
  go_wp2_with fail
  go_loopg [6] 0 (fun kk s4 w2=>s4=.int .i64 20∧∃ m,w2=wr.drewN m)
  case atStart=>exact ⟨rfl,_,rfl⟩
  case round =>
   obtain ⟨rfl,m2,rfl⟩:=hrel
   go_wp2
   go_end0
   exact ⟨rfl,m2,rfl⟩
set_option maxHeartbeats 1600000 in
set_option maxRecDepth 1000000 in
theorem sortStable_0 (p:Option Addr) (cap:Nat) (fn:Value) (w:World):Calls Try.prog 58 #[.slice p 0 cap,fn] w fun e w'=>e=.returned (.tuple #[])∧∃ m,w'=w.drewN m:=by
 have mixed:=mix
 have hc:=fun w=>Z12m p cap fn w
 go_enter Try.func58,Try.ntmps58
 go_wp2_with fail
 refine (hc _).mono ?_; rintro e w1 ⟨rfl,m,rfl⟩
 dsimp only
 go_wp2_with fail
 go_end0
 exact ⟨rfl,m,rfl⟩
end Go.Proofs.Ytgcoidbaoigkeaa.sst
namespace Go.Proofs.Ytgcoidbaoigkeaa.fix
open Go.RowKit Go.Sx Go.Sort
theorem v_inj {M:Nat}:∀ {a b:Fg M},a.v=b.v→a=b
 | ⟨_,_⟩,⟨_,_⟩,rfl=>rfl
theorem Zlp {M:Nat}:∀ (a b:List (Fg M)),a.map Fg.v=b.map Fg.v→a=b
 | [],[],_=>rfl
 | x::a,y::b,h=>by
  simp only [Z18k,List.cons.injEq] at h
  rw [v_inj h.1,Zlp a b h.2]
 | [],_::_,h=>by cases h
 | _::_,[],h=>by cases h
theorem Zbm {α:Type} [Inhabited α] {d d':Array α} (hP:PermIn 0 d.size d d'):d'.toList.Perm d.toList:=by
 have h3:=hP.2.2
 have e1:d'.extract 0 d.size=d':=by rw [← hP.1]; exact Array.extract_size
 have e2:d.extract 0 d.size=d:=Array.extract_size
 rwa [e1,e2] at h3
theorem Z17m {I l:List Int} {d d':Array (Fg (I.length - 1))} (h1:d.toList.map Fg.v=l) (h2:sst.Stb (ltOf (cfB I)) d.size d d') (h3:PermIn 0 d.size d d'):Zfi I l=d'.toList.map Fg.v:=by
 have hex:∃ d d':Array (Fg (I.length - 1)),d.toList.map Fg.v=l∧sst.Stb (ltOf (cfB I)) d.size d d'∧PermIn 0 d.size d d':=⟨d,d',h1,h2,h3⟩
 unfold Zfi
 rw [dif_pos hex]
 generalize hX:Classical.choose (Classical.choose_spec hex)=X
 obtain ⟨q1,q2,q3⟩:=Classical.choose_spec (Classical.choose_spec hex)
 rw [hX] at q2
 clear q3
 generalize Classical.choose hex=D at q1 q2
 have hd:D=d:=by
  apply Array.ext'
  exact Zlp _ _ (q1.trans h1.symm)
 subst hd
 rw [q2.det h2]
theorem Z6z (I l:List Int):(Zfi I l).Perm l:=by
 unfold Zfi
 split
 ·rename_i hex
  generalize hX:Classical.choose (Classical.choose_spec hex)=X
  obtain ⟨q1,q2,q3⟩:=Classical.choose_spec (Classical.choose_spec hex)
  rw [hX] at q3
  clear q2
  generalize Classical.choose hex=D at q1 q3
  rw [← q1]
  exact (Zbm q3).map Fg.v
 ·exact List.Perm.refl _
theorem Z12n (I:List Int):Zfi I []=[]:=(Z6z I []).eq_nil
noncomputable def Zbn {M:Nat} (x:Fg M):List Value:=[.int .i64 (co x.v 0),.int .i64 (co x.v 1),.int .i64 (co x.v 2),.int .i64 (co x.v 3),.int .i64 (co x.v 4),.int .i64 (co x.v 5)]
theorem Z17n {M:Nat} (x:Fg M) (h:(elt Z6v x.v).length=Z6v.length):Z7 Z6v (elt Z6v x.v)=Zbn x:=by
 have e:elt Z6v x.v=dec x.v:=rfl
 rw [e] at h ⊢
 obtain ⟨a0,a1,a2,a3,a4,a5,hd⟩:=len6 (xs:=dec x.v) h
 unfold Zbn co
 rw [hd]
 rfl
theorem Zgx {M:Nat} {d:Array (Fg M)} (h:∀ x ∈ d.toList.map Fg.v,(elt Z6v x).length=Z6v.length):(flatK Zbn 6 d).toList=Zb Z6v (d.toList.map Fg.v):=by
 have hl:(Zb Z6v (d.toList.map Fg.v)).length=d.size * 6:=by
  rw [Zl h]
  simp [Z6v]
 apply List.ext_getElem?
 intro t
 by_cases ht:t < d.size * 6
 ·have h1:t / 6 < d.size:=by omega
  have h2:t % 6 < 6:=Nat.mod_lt _ (by decide)
  have hc:=Z4u (ks:=Z6v) (j:=t % 6) h (show t / 6 < (d.toList.map Fg.v).length by simpa using h1) h2
  have e6:t / 6 * Z6v.length + t % 6=t:=by
   show t / 6 * 6 + t % 6=t
   omega
  rw [e6] at hc
  have hx:(d.toList.map Fg.v).getD (t / 6) 0=(d[t / 6]!).v:=by
   simp only [List.getD,List.getElem?_map,Array.getElem?_toList]
   rw [Array.getElem?_eq_getElem h1,getElem!_pos d _ h1]
   rfl
  rw [hc,hx,Z17n]
  ·have hs:t < (flatK Zbn 6 d).size:=by rw [size_flatK]; exact ht
   rw [Array.getElem?_toList,Array.getElem?_eq_getElem hs]
   have:=get_flatK Zbn 6 d t ht
   rw [getElem!_pos (flatK Zbn 6 d) t hs] at this
   rw [this]
   have hl6:t % 6 < (Zbn d[t / 6]!).length:=h2
   rw [getElem!_pos (Zbn d[t / 6]!) (t % 6) hl6,List.getElem?_eq_getElem hl6]
  ·refine h _ ?_
   rw [← hx]
   exact Zy (by simpa using h1)
 ·rw [List.getElem?_eq_none (by rw [Array.length_toList,size_flatK]; omega),List.getElem?_eq_none (by rw [hl]; omega)]
theorem Zex {w:World} {g:Nat} {cur F:Array Value} {e:TypeId} (hb:w.heap[g]?=some (.cells cur e (0,0))) (ht:cur.toList.take F.size=F.toList):Holds id w g 0 F:=by
 intro j hj
 refine ⟨?_,by simp [World.frozen?,hb]⟩
 have h1:(cur.toList.take F.size)[j]?=F.toList[j]?:=by rw [ht]
 rw [List.getElem?_take_of_lt hj] at h1
 simp only [World.cell?,hb,Nat.zero_add]
 simp only [Option.isSome_none,Bool.false_eq_true,if_false]
 rw [← Array.getElem?_toList,h1,Array.getElem?_toList,Array.getElem?_eq_getElem hj]
 rw [getElem!_pos F j hj]
 rfl
theorem Zlq {w:World} {g n:Nat} {os:Array Obj} {cur:Array Value} {e:TypeId} {fr:Nat × Nat} (F:Array Value) (hb:w.heap[g]?=some (.cells cur e fr)) :
  (grow (putRow id (Sort.ahead w n) g 0 F) os).heap[g]?=some (.cells (putCells id 0 F cur) e fr):=by
 have hg:g < w.heap.size:=(Array.getElem?_eq_some_iff.1 hb).1
 rw [heap_grow_old _ _ (by simpa using hg)]
 simp [putRow,mapBlock,Sort.ahead,Array.getElem?_modify,hb]
 rfl
theorem Zey {w:World} {g n:Nat} {os:Array Obj} (F:Array Value):w.grownBy (grow (putRow id (Sort.ahead w n) g 0 F) os) (some g):=by
 refine ⟨rfl,rfl,rfl,by simp,fun k hk hne=>?_⟩
 rw [heap_grow_old _ _ (by simpa using hk)]
 have:g ≠ k:=fun e=>hne (by rw [e])
 simp [putRow,mapBlock,Sort.ahead,Array.getElem?_modify,this]
theorem Zft (cur F:Array Value) (h:F.size≤cur.size):(putCells id 0 F cur).toList.take F.size=F.toList:=by
 apply List.ext_getElem?
 intro j
 by_cases hj:j < F.size
 ·rw [List.getElem?_take_of_lt hj,Array.getElem?_toList]
  simp [putCells,hj,show j < cur.size by omega]
 ·rw [List.getElem?_take_eq_none (by omega),List.getElem?_eq_none (by simp; omega)]
theorem Zgy:∀ {ks:List K} {xs:List Int} {j:Nat} {k:K},xs.length=ks.length→ks[j]?=some k→(Z7 ks xs)[j]?=some (k.mk (xs.getD j 0))
 | k::ks,x::xs,0,k',_,hk=>by
  simp only [Z18e,Option.some.injEq] at hk
  subst hk
  rfl
 | k::ks,x::xs,j + 1,k',h,hk=>by
  simp only [Z18f] at hk
  simp only [Z7,Z18f]
  exact Zgy (by simpa using h) hk
 | [],_,_,_,_,hk=>by simp at hk
 | _::_,[],_,_,h,_=>by simp at h
theorem ok_cst:Zle.okA Try.prog:=by
 show Zle.okM Try.prog fCst
 intro W0 e s w args bs2 es kk hrep hsc hargs hgl hf has hpre
 unfold fCst at hf
 split at hf
 case h_2=>cases hf
 rename_i n gf nb
 split at hf
 case h_2=>cases hf
 rename_i r b ks cl hr hb hh
 split at hf
 case h_2=>cases hf
 rename_i rest hcells
 split at hf
 case isFalse=>cases hf
 rename_i hc
 simp only [Z18r,Z18s] at hc
 obtain ⟨⟨⟨rfl,hl,hbl⟩,hfl,hty⟩,hks,hki⟩:=hc
 have hks':=Z26 hks
 have hki':=K.eqvL_eq hki
 subst hki'
 simp only [Option.some.injEq,Prod.mk.injEq] at hf
 obtain ⟨rfl,rfl,rfl⟩:=hf
 have hlen:=has (Z5b (Zop r.c) (.c 1000000)) (by simp)
 rw [Z2m,Z18s,Z5f] at hlen
 simp only [E.den] at hlen
 have hrow:=hrep.row n r hr hl
 have hI:=hrep.arg 0 _ cl hh
 have hblk:=hrep.blk nb b hb hbl
 generalize hvI:(G.a 0).val e=vI at hI
 generalize hcode:r.c.den e.R e.r=c at *
 generalize hcI:cl.den e.R e.r=cI at *
 have hargs':([SV.w (.o (.go (.o n))),SV.w (.o (.f 59 [(nb,0)]))].map (SV.den e)).toArray=#[(G.o n).val e,.func (.func 59) #[] #[.pointer (some ⟨e.β.getD nb 0,0,none⟩)]]:=rfl
 rw [hargs']
 have hsem:Zle.sem ([r.c,cl].map (E.den e.R e.r))=[cod (Zfi (dec cI) (dec c))]:=by
  show [cod (Zfi (dec (([r.c,cl].map (E.den e.R e.r)).getD 1 0)) (dec (([r.c,cl].map (E.den e.R e.r)).getD 0 0)))]=_
  simp only [Z18k,Z18l,Z18g,Z18h,hcode,hcI]
 have hpre':∀ f ∈ dec c,0≤co f 1∧co f 1 < ((dec cI).length:Int):=by
  have:Znx ([r.c,cl].map (E.den e.R e.r)):=hpre
  unfold Znx at this
  simp only [Z18k,Z18l,Z18g,Z18h,hcode,hcI] at this
  exact this
 rw [hsem]
 have fin:∀ {w':World} {row:Option Nat},w.grownBy w' row→(∀ k,row=some k→Z6 ((G.o n).val e)=some k)→Zs w' r.ty r.ks ((G.o n).val e) (cod (Zfi (dec cI) (dec c))) →
   ∃ e',Ending.returned (.tuple #[])=.returned ((SV.t []).den e')∧Env.le e e'∧e'.r=e.r++[cod (Zfi (dec cI) (dec c))]∧Rep e' W0 { s with rows:=s.rows.set n { r with c:=.v s.nv },nv:=s.nv + 1 } w'∧s.fr=s.fr∧s.fl=s.fl∧s.flr=s.flr∧s.dp=s.dp :=
  fun hg hr' hro=>⟨_,rfl,⟨[cod (Zfi (dec cI) (dec c))],[],[],[],by simp⟩,rfl,hrep.rowTo hsc hr hl hfl hg hr' hro,rfl,rfl,rfl,rfl⟩
 have none0:∀ (p:Option Addr) (cap:Nat),(G.o n).val e=.slice p 0 cap→dec c=[]→Calls Try.prog Zle.fn #[(G.o n).val e,.func (.func 59) #[] #[.pointer (some ⟨e.β.getD nb 0,0,none⟩)]] w fun x w'=>∃ e',x=.returned ((SV.t []).den e')∧Env.le e e'∧e'.r=e.r++[cod (Zfi (dec cI) (dec c))]∧Rep e' W0 { s with rows:=s.rows.set n { r with c:=.v s.nv },nv:=s.nv + 1 } w'∧s.fr=s.fr∧s.fl=s.fl∧s.flr=s.flr∧s.dp=s.dp:=by
  intro p cap hv hn
  rw [hv]
  refine (sst.sortStable_0 p cap _ w).mono ?_
  rintro x w' ⟨rfl,m,rfl⟩
  have hg:w.grownBy (w.drewN m) none:=⟨rfl,rfl,rfl,Nat.le_refl _,fun _ _ _=>rfl⟩
  refine fin (row:=none) hg (fun k hk=>by cases hk) ?_
  have h1:=hrow.kept hg (fun k _ hk=>by cases hk)
  have hcc:dec (cod (Zfi (dec cI) (dec c)))=dec c:=by rw [Z4,hn,Z12n]
  unfold Zs at h1 ⊢
  rw [hcc]
  exact h1
 rcases hrow with ⟨hn,bb,hv⟩ | ⟨hk0,hel,hown⟩
 ·exact none0 _ _ hv hn
 ·rcases hown.2 with ⟨hv,hn⟩ | ⟨g,cap,cur,hv,_,hheap,hle1,hmx,hcs,htake⟩
  ·exact none0 _ _ hv (List.eq_nil_of_length_eq_zero hn)
  ·by_cases hz:(dec c).length=0
   ·refine none0 (some ⟨g,0,none⟩) cap ?_ (List.eq_nil_of_length_eq_zero hz)
    rw [hv,hz]
   ·have hIne:0 < (dec cI).length:=by
     obtain ⟨f,hf⟩:=List.exists_mem_of_length_pos (Nat.pos_of_ne_zero hz)
     have:=hpre' f hf
     omega
    have hIw:=hI.now hrep.below
    rcases hIw with ⟨_,h0⟩ | ⟨bI,off,capI,hvI2,hleI,hmI,helI,hcellI⟩
    ·rw [h0] at hIne
     exact absurd hIne (by decide)
    have hg:W0.may g:=hrep.rown n r hr hl hfl g (by rw [hv]; show (if cap=0 then none else some g)=some g; rw [if_neg (by omega)])
    have hbs:e.β.getD nb 0 ≠ g:=fun he=>hrep.brs nb n b r hb hr hbl hl (by rw [hv]; show (if cap=0 then none else some g)=_; rw [if_neg (by omega),he])
    have hcI0:Zb Z3d (dec cI) ≠ []:=by
     intro h0
     have:=Zl helI
     rw [h0] at this
     simp [Z3d] at this
     omega
    have hbIg:bI ≠ g:=by
     rintro rfl
     obtain ⟨ha,hax⟩:=hI.base
     rcases hg with hg | hg
     ·rcases ha with ⟨_,h2⟩ | ⟨g',off',cap',h2,_,_,_,h5⟩
      ·rw [h2] at hIne
       exact absurd hIne (by decide)
      ·obtain ⟨x,hx0⟩:=Z59 hcI0
       have:=World.block_lt_of_cell? _ _ (h5 0 x hx0)
       rw [hvI2] at h2
       simp only [Value.slice.injEq,Option.some.injEq,Addr.mk.injEq] at h2
       obtain ⟨⟨rfl,_⟩,_⟩:=h2
       exact absurd this (Nat.not_lt.2 hg)
     ·exact hax hcI0 bI (by rw [hvI2]; rfl) hg
    obtain ⟨d,hd⟩:∃ d:Array (Fg ((dec cI).length - 1)),d.toList.map Fg.v=dec c :=
     ⟨((dec c).pmap (fun f h=>⟨f,h⟩) (fun f hf=>by have:=hpre' f hf; omega)).toArray,by simp [List.map_pmap]⟩
    have hds:d.size=(dec c).length:=by
     have:=congrArg List.length hd
     rwa [List.length_map,Array.length_toList] at this
    rw [hks'] at hel htake hcs
    have hel':∀ x ∈ d.toList.map Fg.v,(elt Z6v x).length=Z6v.length:=by rw [hd]; exact hel
    have hF:=Zgx hel'
    have hFs:(flatK Zbn 6 d).size=(dec c).length * 6:=by rw [size_flatK,hds]
    have hH:HoldsK Zbn 6 w g 0 d:=Zex hheap (by rw [hFs,hF,hd]; exact htake)
    have R:RowK Zbn 6 w g 0 d:=⟨fun _=>rfl,fun x v hv=>by
     simp only [Zbn,List.mem_cons,List.not_mem_nil,or_false] at hv
     rcases hv with rfl | rfl | rfl | rfl | rfl | rfl <;> rfl,hH,Z1g hheap⟩
    have hcb:=Zbw hrep (n:=nb) (b:=b) hb hbl 0 (by rw [hcells]; simp)
    rw [hcells] at hcb
    simp only [Z18k,List.getD,Z18e,Option.getD_some,SC.den] at hcb
    have hvI3:(G.a 0).val e=.slice (some ⟨bI,off,none⟩) (dec cI).length capI:=hvI.trans hvI2
    have hcb2:w.cell? ⟨e.β.getD nb 0,0,none⟩=some (.slice (some ⟨bI,off,none⟩) (dec cI).length capI):=by rw [← hvI3]; exact hcb
    have hbin:∀ i,i < (dec cI).length→w.cell? ⟨bI,off + i * 18 + 3 + 8,none⟩=some (.int .i64 (co ((dec cI).getD i 0) 11)):=fun i hi=>by
     have h1:=Z4u (ks:=Z3d) (j:=11) helI hi (by decide)
     rw [Zgy (helI _ (Zy hi)) (show Z3d[11]?=some (.i .i64) from rfl)] at h1
     have h2:=hcellI _ _ h1
     rw [show off + i * 18 + 3 + 8=off + (i * Z3d.length + 11) by show _=off + (i * 18 + 11); omega]
     exact h2
    have hC:CmpLays (α:=Fg ((dec cI).length - 1)) Try.prog 59 #[.pointer (some ⟨e.β.getD nb 0,0,none⟩)] Zbn 6 (cfB (dec cI)) g 0 d.size w:=by
     intro m os dk hs x y
     have cellW:∀ {b' o':Nat} {v:Value},b' ≠ g→w.cell? ⟨b',o',none⟩=some v→(sortWorldK Zbn 6 w g 0 m dk os).cell? ⟨b',o',none⟩=some v:=fun hb' h=>by
      unfold sortWorldK
      rw [cell?_grow _ _ _ (by rw [size_putRowK]; exact World.block_lt_of_cell? _ _ h),cell?_putRowK_other Zbn 6 _ g 0 dk _ hb']
      exact h
     have hsz:=size_sortWorldK_c Zbn 6 w g 0 m dk os
     obtain ⟨i,hi⟩:∃ i:Nat,co x.v 1=(i:Int):=⟨(co x.v 1).toNat,(Int.toNat_of_nonneg x.h.1).symm⟩
     obtain ⟨j,hj⟩:∃ j:Nat,co y.v 1=(j:Int):=⟨(co y.v 1).toNat,(Int.toNat_of_nonneg y.h.1).symm⟩
     have hil:i < (dec cI).length:=by have:=x.h.2; omega
     have hjl:j < (dec cI).length:=by have:=y.h.2; omega
     have q:=sst.bins_c (sortWorldK Zbn 6 w g 0 m dk os) (e.β.getD nb 0) bI off (dec cI).length capI i j (co x.v 0) (co x.v 2) (co x.v 3) (co x.v 4) (co x.v 5) (co y.v 0) (co y.v 2) (co y.v 3) (co y.v 4) (co y.v 5) (co ((dec cI).getD i 0) 11) (co ((dec cI).getD j 0) 11)
      (Nat.lt_of_lt_of_le (World.block_lt_of_cell? _ _ hcb2) hsz) (Nat.lt_of_lt_of_le (World.block_lt_of_cell? _ _ (hbin i hil)) hsz) (cellW hbs hcb2) hil hjl (cellW hbIg (hbin i hil)) (cellW hbIg (hbin j hjl))
     have e1:(Zbn x).toArray=#[.int .i64 (co x.v 0),.int .i64 (i:Int),.int .i64 (co x.v 2),.int .i64 (co x.v 3),.int .i64 (co x.v 4),.int .i64 (co x.v 5)]:=by unfold Zbn; rw [hi]
     have e2:(Zbn y).toArray=#[.int .i64 (co y.v 0),.int .i64 (j:Int),.int .i64 (co y.v 2),.int .i64 (co y.v 3),.int .i64 (co y.v 4),.int .i64 (co y.v 5)]:=by unfold Zbn; rw [hj]
     have e3:cfB (dec cI) x y=Lib.compareInt (co ((dec cI).getD i 0) 11) (co ((dec cI).getD j 0) 11):=by unfold cfB Zsx; rw [hi,hj,Int.toNat_natCast,Int.toNat_natCast]
     rw [e1,e2,e3]
     exact q
    have hrun:=sst.sortStable_c 6 Try.sizeOf85 Zbn (cfB (dec cI)) 59 #[.pointer (some ⟨e.β.getD nb 0,0,none⟩)] g 0 cap d.size d w (enters_of Try.func59 (by kernel_rfl) rfl) hC R rfl (by omega)
    rw [hv,← hds]
    refine hrun.mono ?_
    rintro x w' ⟨rfl,d',⟨m,os,rfl⟩,hSt,hP⟩
    have hds':d'.size=d.size:=hP.1
    have hst:=Z17m hd hSt hP
    have hperm:=Zbm hP
    have hel2:∀ z ∈ d'.toList.map Fg.v,(elt Z6v z).length=Z6v.length:=fun z hz=>hel' z ((hperm.map Fg.v).mem_iff.1 hz)
    have hF2:=Zgx hel2
    have hF2s:(flatK Zbn 6 d').size=(dec c).length * 6:=by rw [size_flatK,hds',hds]
    have hro:Zs (sortWorldK Zbn 6 w g 0 m d' os) r.ty r.ks ((G.o n).val e) (cod (Zfi (dec cI) (dec c))):=by
     rw [hst]
     refine .inr ⟨hk0,?_,?_⟩
     ·rw [hks',Z4]
      exact hel2
     ·rw [hks',Z4,hv]
      have hl2:(d'.toList.map Fg.v).length=(dec c).length:=by rw [List.length_map,Array.length_toList,hds',hds]
      rw [← hF2,hl2]
      refine ⟨by rw [Array.length_toList,hF2s]; rfl,.inr ⟨g,cap,putCells id 0 (flatK Zbn 6 d') cur,rfl,Nat.zero_le _,Zlq _ hheap,hle1,hmx,by rw [← hcs]; simp [putCells],?_⟩⟩
      have:=Zft cur (flatK Zbn 6 d') (by rw [hF2s,hcs]; exact Nat.mul_le_mul_right 6 hle1)
      rw [hF2s] at this
      exact this
    exact fin (row:=some g) (Zey _) (fun k hk=>by
     simp only [Option.some.injEq] at hk
     subst hk
     rw [hv]
     show (if cap=0 then none else some g)=some g
     rw [if_neg (by omega)]) hro
theorem Z17o:Z1i Zle i_cst:=⟨fun xs h=>(Z1k xs h).elim,fun vs xs h hp=>Z1 trivial Z2⟩
end Go.Proofs.Ytgcoidbaoigkeaa.fix
namespace Go.Proofs.Ytgcoidbaoigkeaa.fix
open Go.RowKit Go.Sx
noncomputable def Zci:List Sum:=[Zic]
def Zr2:List Inf:=[Zwl]
def Zr3:TX:=(.asrt (.le (.c 0) (.v 4)) (.asrt (.lt (.v 4) (.ln (.v 0))) (.call 0 [(.l2 .at (.l2 .at (.v 0) (.v 4)) (.c 3)),(.l2 .at (.l2 .at (.v 0) (.v 4)) (.c 4)),(.l2 .at (.l2 .at (.v 0) (.v 4)) (.c 5)),(.l2 .at (.l2 .at (.v 0) (.v 4)) (.c 6)),(.l2 .at (.l2 .at (.v 0) (.v 4)) (.c 7)),(.l2 .at (.l2 .at (.v 0) (.v 4)) (.c 8)),(.l2 .at (.l2 .at (.v 0) (.v 4)) (.c 9)),(.l2 .at (.l2 .at (.v 0) (.v 4)) (.c 10)),(.l2 .at (.l2 .at (.v 0) (.v 4)) (.c 11)),(.v 1),(.v 7),(.v 8)] (.ret [(.v 9),(.v 10),(.v 11),(.v 12)]))))
theorem Zoa:Z17 (Zu [] Zr2 [] Z7v (Zx Try.prog Zbe gl0 Zci 1000 56 [Scn,An 6] [Cl]))=Zr3:=by kernel_rfl
theorem Z12o:Gok Try.prog Zci:=(fix.one Z12l)
theorem Z12p:Zr Zci Zr2:=(Z3 Zlo Za)
theorem Zit {b:Int} (h:Zd Z3d (dec b)):Zq (ivs 4 0 255++[zz,iv 0 255,zz,iv 0 1,zz]) (Zb4 b):=by
 have v:=Z1m h
 exact Z1 (v.2 3) (Z1 (v.2 4) (Z1 (v.2 5) (Z1 (v.2 6) (Z1 (v.2 7) (Z1 (v.2 8) (Z1 (v.2 9) (Z1 (v.2 10) (Z1 (v.2 11) Z2))))))))
theorem Zxz:Z5s.ok Try.prog:=Sum.okPF (pin:=Z7v) facts.mixed Z12o Z12p Zoa rfl (fun _=>rfl) (fun xs h=>h.1) (by
 intro xs hx hp
 obtain ⟨I,T,S,f0,f1,f2,f3,f4,f5,rfl⟩:=len9 hx
 obtain ⟨hv,hr,hT,h0,h1⟩:=hp
 replace hr:Z49 (dec I) (dec T):=hr
 replace hT:Z9v (dec T):=hT
 replace h0:0≤f1:=h0
 replace h1:f1 < ((dec I).length:Int):=h1
 have hco:∀ x j,(dec x).getD j 0=co x j:=fun _ _=>rfl
 simp only [Zr3,Zci,Zic,TX.sat,XB.prop,X.den,Z18k,Z18l,Z18e,Z18f,Z18i,Z18j,Z18g,Z18h,mkS,mkP,and_true,true_and,Z18p,Z18q,not_or,not_and,Z18m,ne_eq,Z18n,Z18o,Z3v,Zej,Zwj,L2.den,Zb4,show Int.toNat 0=0 from rfl,show Int.toNat 1=1 from rfl,show Int.toNat 2=2 from rfl,show Int.toNat 3=3 from rfl,show Int.toNat 4=4 from rfl,show Int.toNat 5=5 from rfl,show Int.toNat 6=6 from rfl,show Int.toNat 7=7 from rfl,show Int.toNat 8=8 from rfl,show Int.toNat 9=9 from rfl,show Int.toNat 10=10 from rfl,show Int.toNat 11=11 from rfl,show Int.toNat 12=12 from rfl,show Int.toNat 13=13 from rfl,show Int.toNat 14=14 from rfl,show Int.toNat 15=15 from rfl,show Int.toNat 16=16 from rfl,show Int.toNat 17=17 from rfl,show Int.toNat 18=18 from rfl,show Int.toNat 19=19 from rfl,show Int.toNat 20=20 from rfl,hco]
 have hmem:(dec I).getD f1.toNat 0 ∈ dec I:=Zy (by omega)
 have hcoI:co I f1.toNat=(dec I).getD f1.toNat 0:=rfl
 rw [hcoI]
 have hl:=Zit (hr.1 _ hmem).1
 refine ⟨h0,h1,⟨Zw (vs:=ivs 4 0 255++[zz,iv 0 255,zz,iv 0 1,zz]) (us:=[none,zz,zz]) (r:=Zb4 ((dec I).getD f1.toNat 0)) (x:=[T,f4,f5]) hl (Z1 trivial (Z1 (hv.2 7) (Z1 (hv.2 8) Z2))),hr.2,hT⟩,?_⟩
 rfl)
theorem Zgz:Z1i Z5s Zq9:=⟨fun xs h=>(Z1k xs h).elim,fun vs xs h hp=>by
 obtain ⟨hv,hr,hT,h0,h1⟩:=hp
 have hmem:(dec (xs.getD 0 0)).getD (xs.getD 4 0).toNat 0 ∈ dec (xs.getD 0 0):=Zy (by omega)
 have hl:=Zit (hr.1 _ hmem).1
 have hp2:Zl9 (Zb4 ((dec (xs.getD 0 0)).getD (xs.getD 4 0).toNat 0)++[xs.getD 1 0,xs.getD 7 0,xs.getD 8 0]):=⟨Zw (vs:=ivs 4 0 255++[zz,iv 0 255,zz,iv 0 1,zz]) (us:=[none,zz,zz]) hl (Z1 trivial (Z1 (hv.2 7) (Z1 (hv.2 8) Z2))),hr.2,hT⟩
 have o:=Zlo.2 Z9w _ hp2.1 hp2
 exact Z1 (o.2 0) (Z1 (o.2 1) (Z1 (o.2 2) (Z1 (o.2 3) Z2)))⟩
theorem Zlr {I T:List Int} {f0 f1 f2 f3 f4 f5:Int} (hr:Z49 I T) (hT:Z9v T) (hf:Zq (zs 6) [f0,f1,f2,f3,f4,f5]) (h0:0≤f1) (h1:f1 < (I.length:Int)):Zq (ivs 4 0 255) (ex4 (Z87 (Zb4 (I.getD f1.toNat 0)) T f4 f5)):=by
 have hp:Z5s.pre [cod I,cod T,0,f0,f1,f2,f3,f4,f5]:=⟨Z1 trivial (Z1 trivial (Z1 trivial hf)),by
  show Z49 (dec (cod I)) (dec (cod T)); rw [Z4,Z4]; exact hr,by
  show Z9v (dec (cod T)); rw [Z4]; exact hT,h0,by
  show f1 < ((dec (cod I)).length:Int); rw [Z4]; exact h1⟩
 have o:=Zgz.2 Z7v _ hp.1 hp
 have e:Z5s.sem [cod I,cod T,0,f0,f1,f2,f3,f4,f5]=Z3v [cod I,cod T,0,f0,f1,f2,f3,f4,f5]:=rfl
 rw [e] at o
 unfold Z3v at o
 simp only [TX.sat,XB.prop,X.den,Z18k,Z18l,Z18e,Z18f,Z18i,Z18j,Z18g,Z18h,mkS,mkP,and_true,true_and,Z18p,Z18q,not_or,not_and,Z18m,ne_eq,Z18n,Z18o,Z4] at o
 exact o
noncomputable def Zls:List Sum:=[Z9t,Zc9]
def Z14t:List Inf:=[Zpv,Zq1]
def Zy0:TX:=(.loop 8 [none,none,none,none,none,none,none,none] [(.c 0),(.c (-2048)),(.c (-1)),(.c (-1)),(.c 0),(.c 0),(.c 0),(.c 0)] (.ite (.lt (.v 5) (.ln (.v 2))) (.asrt (.le (.c 0) (.v 5)) (.call 0 [(.l2 .at (.l2 .at (.v 2) (.v 5)) (.c 0)),(.l2 .at (.l2 .at (.v 2) (.v 5)) (.c 1)),(.l2 .at (.l2 .at (.v 2) (.v 5)) (.c 2)),(.l2 .at (.l2 .at (.v 2) (.v 5)) (.c 3)),(.l2 .at (.l2 .at (.v 2) (.v 5)) (.c 4)),(.l2 .at (.l2 .at (.v 2) (.v 5)) (.c 5)),(.l2 .at (.l2 .at (.v 2) (.v 5)) (.c 6)),(.l2 .at (.l2 .at (.v 2) (.v 5)) (.c 7)),(.l2 .at (.l2 .at (.v 2) (.v 5)) (.c 8)),(.l2 .at (.l2 .at (.v 2) (.v 5)) (.c 9)),(.l2 .at (.l2 .at (.v 2) (.v 5)) (.c 10)),(.l2 .at (.l2 .at (.v 2) (.v 5)) (.c 11)),(.l2 .at (.l2 .at (.v 2) (.v 5)) (.c 12)),(.l2 .at (.l2 .at (.v 2) (.v 5)) (.c 13)),(.l2 .at (.l2 .at (.v 2) (.v 5)) (.c 14)),(.v 3),(.v 4)] (.ite (.eq (.v 18) (.c 0)) (.asrt (.le (.c 0) (.l2 .at (.l2 .at (.v 2) (.v 5)) (.c 16))) (.asrt (.lt (.l2 .at (.l2 .at (.v 2) (.v 5)) (.c 16)) (.ln (.v 0))) (.ite (.eq (.l2 .at (.l2 .at (.v 0) (.l2 .at (.l2 .at (.v 2) (.v 5)) (.c 16))) (.c 10)) (.c 0)) (.ite (.eq (.v 12) (.c 0)) (.back 0 [(.wr .i64 (.add (.v 5) (.c 1))),(.wr .i64 (.add (.l2 .at (.l2 .at (.v 2) (.v 5)) (.c 15)) (.v 15))),(.l2 .at (.l2 .at (.v 2) (.v 5)) (.c 16)),(.l2 .at (.l2 .at (.v 2) (.v 5)) (.c 17)),(.l2 .at (.l2 .at (.v 2) (.v 5)) (.c 18)),(.v 16),(.v 17),(.c 1)])
(.call 1 [(.wr .i64 (.add (.l2 .at (.l2 .at (.v 2) (.v 5)) (.c 15)) (.v 15))),(.l2 .at (.l2 .at (.v 2) (.v 5)) (.c 16)),(.l2 .at (.l2 .at (.v 2) (.v 5)) (.c 17)),(.l2 .at (.l2 .at (.v 2) (.v 5)) (.c 18)),(.v 16),(.v 17),(.v 6),(.v 7),(.v 8),(.v 9),(.v 10),(.v 11)] (.ite (.nz (.v 19)) (.back 0 [(.wr .i64 (.add (.v 5) (.c 1))),(.wr .i64 (.add (.l2 .at (.l2 .at (.v 2) (.v 5)) (.c 15)) (.v 15))),(.l2 .at (.l2 .at (.v 2) (.v 5)) (.c 16)),(.l2 .at (.l2 .at (.v 2) (.v 5)) (.c 17)),(.l2 .at (.l2 .at (.v 2) (.v 5)) (.c 18)),(.v 16),(.v 17),(.c 1)])
(.back 0 [(.wr .i64 (.add (.v 5) (.c 1))),(.v 6),(.v 7),(.v 8),(.v 9),(.v 10),(.v 11),(.v 12)]))))
(.back 0 [(.wr .i64 (.add (.v 5) (.c 1))),(.v 6),(.v 7),(.v 8),(.v 9),(.v 10),(.v 11),(.v 12)]))))
(.back 0 [(.wr .i64 (.add (.v 5) (.c 1))),(.v 6),(.v 7),(.v 8),(.v 9),(.v 10),(.v 11),(.v 12)]))))
(.ite (.nz (.v 12)) (.ret [(.v 6),(.v 7),(.v 8),(.v 9),(.v 10),(.v 11),(.c 1)])
(.ret [(.v 6),(.v 7),(.v 8),(.v 9),(.v 10),(.v 11),(.c 0)]))))
theorem Zy1:Z17 (Zu [] Z14t [] Zif (Zx Try.prog (Znk Try.prog [(2,17)]) gl0 Zls 1000 31 [Scn,I1,I1] [An 6,Bo]))=Zy0:=by kernel_rfl
theorem g_winS:Gok Try.prog Zls:=(more Zo1 (fix.one Zxu))
theorem o_winS:Zr Zls Z14t:=(Z3 Zcd (Z3 Zta Za))
theorem Zob {l:List Int}:∀ (F acc:List Int),(acc.getD 6 0=0∨acc.getD 6 0=1)→((F.foldl (Z1d l) acc).getD 6 0=0∨(F.foldl (Z1d l) acc).getD 6 0=1)
 | [],acc,h=>h
 | f::F,acc,h=>by
  rw [List.foldl_cons]
  refine Zob F _ ?_
  unfold Z1d
  split
  ·exact .inr rfl
  ·exact h
theorem Zr4 {l:List Int}:∀ (F acc:List Int),acc.length=7→(F.foldl (Z1d l) acc).length=7
 | [],acc,h=>h
 | f::F,acc,h=>by
  rw [List.foldl_cons]
  refine Zr4 F _ ?_
  unfold Z1d
  split
  ·rfl
  ·exact h
set_option maxHeartbeats 2000000 in
theorem Z12q (I0 T0 S0 x y:Int) (l S:List Int) (at_:Int→List Int) (R:List Int) (ff:Int→Option Int) (hl:dec I0=l) (hS:dec S0=S) (hlen:S.length≤100000)
  (hat:∀ p,Z9t.sem [co p 0,co p 1,co p 2,co p 3,co p 4,co p 5,co p 6,co p 7,co p 8,co p 9,co p 10,co p 11,co p 12,co p 13,co p 14,x,y]=[(at_ p).getD 0 0,(at_ p).getD 1 0,(at_ p).getD 2 0,(at_ p).getD 3 0,(at_ p).getD 4 0,(at_ p).getD 5 0])
  (hpp:∀ p ∈ S,Z9t.pre [co p 0,co p 1,co p 2,co p 3,co p 4,co p 5,co p 6,co p 7,co p 8,co p 9,co p 10,co p 11,co p 12,co p 13,co p 14,x,y])
  (hff:∀ p,ff p=if (at_ p).getD 5 0=0 then some (cod [IntKind.i64.wrap (co p 15 + (at_ p).getD 2 0),co p 16,co p 17,co p 18,(at_ p).getD 3 0,(at_ p).getD 4 0]) else none)
  (hvs:∀ f ∈ S.filterMap ff,Zq (zs 6) [co f 0,co f 1,co f 2,co f 3,co f 4,co f 5]) (hit:∀ p ∈ S,0≤co p 16∧co p 16 < (l.length:Int)) (hnr:∀ z,Zc9.sem z=[b01 (Zei z)]) (W:List Int) (hW:(S.filterMap ff).foldl (Z1d l) Zq2=W)
  (hR:R=ex7 W) :
  Zy0.sat Zls [] (fun ys=>ys=R) [] [I0,T0,S0,x,y]:=by
 unfold Zy0 Zls
 simp only [TX.sat,XB.prop]
 simp only [X.den,L2.den,TX.sat,XB.prop,X.den,Z18k,Z18l,Z18e,Z18f,Z18i,Z18j,Z18g,Z18h,mkS,mkP,and_true,true_and,Z18p,Z18q,not_or,not_and,Z18m,ne_eq,Z18n,Z18o]
 have hco:∀ x j,(dec x).getD j 0=co x j:=fun _ _=>rfl
 have hcS:∀ j,co S0 j=S.getD j 0:=fun j=>by rw [← hco,hS]
 simp only [hl,hS,hco,hcS,TX.sat,XB.prop,X.den,Z18k,Z18l,Z18e,Z18f,Z18i,Z18j,Z18g,Z18h,mkS,mkP,and_true,true_and,Z18p,Z18q,not_or,not_and,Z18m,ne_eq,Z18n,Z18o,show Int.toNat 0=0 from rfl,show Int.toNat 1=1 from rfl,show Int.toNat 2=2 from rfl,show Int.toNat 3=3 from rfl,show Int.toNat 4=4 from rfl,show Int.toNat 5=5 from rfl,show Int.toNat 6=6 from rfl,show Int.toNat 7=7 from rfl,show Int.toNat 8=8 from rfl,show Int.toNat 9=9 from rfl,show Int.toNat 10=10 from rfl,show Int.toNat 11=11 from rfl,show Int.toNat 12=12 from rfl,show Int.toNat 13=13 from rfl,show Int.toNat 14=14 from rfl,show Int.toNat 15=15 from rfl,show Int.toNat 16=16 from rfl,show Int.toNat 17=17 from rfl,show Int.toNat 18=18 from rfl,show Int.toNat 19=19 from rfl,show Int.toNat 20=20 from rfl]
 refine ⟨fun xs=>∃ m:Nat,xs.getD 0 0=(m:Int)∧m≤S.length∧[xs.getD 1 0,xs.getD 2 0,xs.getD 3 0,xs.getD 4 0,xs.getD 5 0,xs.getD 6 0,xs.getD 7 0]=((S.take m).filterMap ff).foldl (Z1d l) Zq2,fun xs=>S.length - (xs.getD 0 0).toNat,fun xs hx _=>Zv (n:=8) hx,⟨0,rfl,by omega,rfl⟩,?_⟩
 intro ys hy hJ
 obtain ⟨e0,e1,e2,e3,e4,e5,e6,e7,rfl⟩:=len8 hy
 obtain ⟨m,hm,hml,hmd⟩:=hJ
 simp only [TX.sat,XB.prop,X.den,Z18k,Z18l,Z18e,Z18f,Z18i,Z18j,Z18g,Z18h,mkS,mkP,and_true,true_and,Z18p,Z18q,not_or,not_and,Z18m,ne_eq,Z18n,Z18o] at hm hmd ⊢
 subst hm
 simp only [Int.toNat_natCast,hcS,show Int.toNat 0=0 from rfl,show Int.toNat 1=1 from rfl,show Int.toNat 2=2 from rfl,show Int.toNat 3=3 from rfl,show Int.toNat 4=4 from rfl,show Int.toNat 5=5 from rfl,show Int.toNat 6=6 from rfl,show Int.toNat 7=7 from rfl,show Int.toNat 8=8 from rfl,show Int.toNat 9=9 from rfl,show Int.toNat 10=10 from rfl,show Int.toNat 11=11 from rfl,show Int.toNat 12=12 from rfl,show Int.toNat 13=13 from rfl,show Int.toNat 14=14 from rfl,show Int.toNat 15=15 from rfl,show Int.toNat 16=16 from rfl,show Int.toNat 17=17 from rfl,show Int.toNat 18=18 from rfl,show Int.toNat 19=19 from rfl,show Int.toNat 20=20 from rfl]
 simp only [hat,TX.sat,XB.prop,X.den,Z18k,Z18l,Z18e,Z18f,Z18i,Z18j,Z18g,Z18h,mkS,mkP,and_true,true_and,Z18p,Z18q,not_or,not_and,Z18m,ne_eq,Z18n,Z18o,Z4]
 refine ⟨fun hlt1=>?_,fun hge1=>?_⟩
 ·have hmS:m < S.length:=by omega
  have htake:S.take (m + 1)=S.take m++[S.getD m 0]:=by
   rw [List.take_succ_eq_append_getElem hmS]
   rw [show S.getD m 0=S[m] by simp [List.getD,hmS]]
  have hmem:S.getD m 0 ∈ S:=Zy hmS
  have hw:IntKind.i64.wrap ((m:Int) + 1)=((m + 1:Nat):Int):=by rw [Z10 (by omega) (by omega)]; omega
  have hfm:=hff (S.getD m 0)
  have hip:=hit _ hmem
  have hfold:∀ f,ff (S.getD m 0)=some f→((S.take (m + 1)).filterMap ff).foldl (Z1d l) Zq2=Z1d l [e1,e2,e3,e4,e5,e6,e7] f:=fun f hf=>by
   rw [htake,List.filterMap_append,List.foldl_append,← hmd]
   simp only [List.filterMap_cons,hf,List.filterMap_nil,List.foldl_cons,List.foldl_nil]
  refine ⟨by omega,hpp _ hmem,fun hz=>?_,fun hz=>⟨⟨m + 1,hw,by omega,?_⟩,?_⟩⟩
  ·rw [if_pos hz] at hfm
   have hF:=hfold _ hfm
   have hstep:∀ a b c d e f:Int,Z1d l [e1,e2,e3,e4,e5,e6,e7] (cod [a,b,c,d,e,f])=if co (l.getD b.toNat 0) 10=0∧(e7=0∨Zei [a,b,c,d,e,f,e1,e2,e3,e4,e5,e6]=true) then [a,b,c,d,e,f,1] else [e1,e2,e3,e4,e5,e6,e7]:=fun a b c d e f=>by
    unfold Z1d
    simp only [Zgw,TX.sat,XB.prop,X.den,Z18k,Z18l,Z18e,Z18f,Z18i,Z18j,Z18g,Z18h,mkS,mkP,and_true,true_and,Z18p,Z18q,not_or,not_and,Z18m,ne_eq,Z18n,Z18o]
   rw [hstep] at hF
   have hmemF:∀ f,ff (S.getD m 0)=some f→Zq (zs 6) [co f 0,co f 1,co f 2,co f 3,co f 4,co f 5]:=fun f hf=>hvs f (List.mem_filterMap.2 ⟨_,hmem,hf⟩)
   have v6:=hmemF _ hfm
   simp only [Zgw,TX.sat,XB.prop,X.den,Z18k,Z18l,Z18e,Z18f,Z18i,Z18j,Z18g,Z18h,mkS,mkP,and_true,true_and,Z18p,Z18q,not_or,not_and,Z18m,ne_eq,Z18n,Z18o] at v6
   have v7:Zq (zs 7) [e1,e2,e3,e4,e5,e6,e7]:=by
    rw [hmd]
    refine Zo9 _ _ Zxv fun f hf=>?_
    obtain ⟨p,hp,hpf⟩:=List.mem_filterMap.1 hf
    exact hvs f (List.mem_filterMap.2 ⟨p,List.mem_of_mem_take hp,hpf⟩)
   have hmeas:S.length - (IntKind.i64.wrap ((m:Int) + 1)).toNat < S.length - m:=by
    rw [hw,Int.toNat_natCast]
    omega
   refine ⟨hip.1,hip.2,fun hbl=>⟨fun his=>⟨⟨m + 1,hw,by omega,?_⟩,hmeas⟩,fun his=>⟨Zw v6 (Z1 (v7.2 0) (Z1 (v7.2 1) (Z1 (v7.2 2) (Z1 (v7.2 3) (Z1 (v7.2 4) (Z1 (v7.2 5) Z2)))))),fun hnz=>⟨⟨m + 1,hw,by omega,?_⟩,hmeas⟩,fun hzz=>⟨⟨m + 1,hw,by omega,?_⟩,hmeas⟩⟩⟩,fun hbl=>⟨⟨m + 1,hw,by omega,?_⟩,hmeas⟩⟩
   ·rw [hF,if_pos ⟨hbl,.inl his⟩]
   ·rw [hnr] at hnz
    rw [hF,if_pos ⟨hbl,.inr (Z17f hnz)⟩]
   ·rw [hnr] at hzz
    rw [hF,if_neg]
    rintro ⟨_,h5 | h5⟩
    ·exact his h5
    ·rw [h5] at hzz
     exact absurd hzz (by decide)
   ·rw [hF,if_neg]
    exact fun h5=>hbl h5.1
  ·rw [if_neg hz] at hfm
   rw [htake,List.filterMap_append]
   simp only [List.filterMap_cons,hfm,List.filterMap_nil,List.append_nil]
   exact hmd
  ·rw [hw,Int.toNat_natCast]
   omega
 ·have:m=S.length:=by omega
  rw [this,List.take_length,hW] at hmd
  rw [hR,← hmd]
  have hor:e7=0∨e7=1:=by
   have:=Zob (l:=l) (S.filterMap ff) Zq2 (.inl rfl)
   rw [hW,← hmd] at this
   exact this
  unfold ex7
  simp only [TX.sat,XB.prop,X.den,Z18k,Z18l,Z18e,Z18f,Z18i,Z18j,Z18g,Z18h,mkS,mkP,and_true,true_and,Z18p,Z18q,not_or,not_and,Z18m,ne_eq,Z18n,Z18o]
  refine ⟨fun h=>?_,fun h=>?_⟩
  ·rcases hor with h1 | h1
   ·exact absurd h1 h
   ·rw [h1]
  ·rw [h]
theorem Ziu {p x y:Int} (h:Zq (zs 21) (Zns p)) (hx:Zh zz x) (hy:Zh zz y):Zq (zs 17) (Z1q p++[x,y]):=Z1 (h.2 0) (Z1 (h.2 1) (Z1 (h.2 2) (Z1 (h.2 3) (Z1 (h.2 4) (Z1 (h.2 5) (Z1 (h.2 6) (Z1 (h.2 7) (Z1 (h.2 8) (Z1 (h.2 9) (Z1 (h.2 10) (Z1 (h.2 11) (Z1 (h.2 12) (Z1 (h.2 13) (Z1 (h.2 14) (Z1 hx (Z1 hy Z2))))))))))))))))
theorem Zcj {S:List Int} {x y:Int} (hx:Zh zz x) (hy:Zh zz y) (h:∀ p ∈ S,Zq (zs 21) (Zns p)):∀ f ∈ S.filterMap (Z2t x y),Zq (zs 6) [co f 0,co f 1,co f 2,co f 3,co f 4,co f 5]:=by
 intro f hf
 obtain ⟨p,hp,hpf⟩:=List.mem_filterMap.1 hf
 have h21:=h p hp
 have h17:=Ziu h21 hx hy
 have ho:=Zcd.2 Zc6 _ h17 h17
 have h3:Zh (iv 0 255) ((atL (Z1q p++[x,y])).getD 3 0):=ho.2 3
 have h4:Zh (iv 0 255) ((atL (Z1q p++[x,y])).getD 4 0):=ho.2 4
 unfold Z2t at hpf
 split at hpf
 ·simp only [Option.some.injEq] at hpf
  rw [← hpf]
  simp only [Zgw,TX.sat,XB.prop,X.den,Z18k,Z18l,Z18e,Z18f,Z18i,Z18j,Z18g,Z18h,mkS,mkP,and_true,true_and,Z18p,Z18q,not_or,not_and,Z18m,ne_eq,Z18n,Z18o]
  exact Z1 (Z17g _) (Z1 (h21.2 16) (Z1 (h21.2 17) (Z1 (h21.2 18) (Z1 (Z1j h3 (by decide) (by decide)) (Z1 (Z1j h4 (by decide) (by decide)) Z2)))))
 ·cases hpf
theorem Zr5 {S:List Int} {x y:Int} {n:Int} (h:∀ p ∈ S,0≤co p 16∧co p 16 < n):∀ f ∈ S.filterMap (Z2t x y),0≤co f 1∧co f 1 < n:=by
 intro f hf
 obtain ⟨p,hp,hpf⟩:=List.mem_filterMap.1 hf
 unfold Z2t at hpf
 split at hpf
 ·simp only [Option.some.injEq] at hpf
  rw [← hpf,Zgw]
  exact h p hp
 ·cases hpf
theorem Zy2:Z9x.ok Try.prog:=Sum.okPF (pin:=Zif) facts.mixed g_winS o_winS Zy1 rfl (fun _=>rfl) (fun xs h=>h.1) (by
 intro xs hx hp
 obtain ⟨I,T,S,x,y,rfl⟩:=len5 hx
 obtain ⟨hv,hs,hp⟩:=hp
 replace hs:(dec S).length≤100000:=hs
 replace hp:∀ p ∈ dec S,Zq (zs 21) (Zns p)∧0≤co p 16∧co p 16 < ((dec I).length:Int):=hp
 exact Z12q I T S x y (dec I) (dec S) (fun p=>atL (Z1q p++[x,y])) _ (Z2t x y) rfl rfl hs (fun p=>rfl) (fun p hm=>Ziu (hp p hm).1 (hv.2 3) (hv.2 4)) (fun p=>rfl) (Zcj (hv.2 3) (hv.2 4) fun p hm=>(hp p hm).1) (fun p hm=>(hp p hm).2) (fun z=>rfl) _ rfl rfl)
theorem Zr6:Z1i Z9x Zwm:=⟨fun xs h=>(Z1k xs h).elim,fun vs xs h hp=>by
 obtain ⟨hv,hs,hp⟩:=hp
 have v7:=Zo9 (l:=dec (xs.getD 0 0)) ((dec (xs.getD 2 0)).filterMap (Z2t (xs.getD 3 0) (xs.getD 4 0))) Zq2 Zxv (Zcj (hv.2 3) (hv.2 4) fun p hm=>(hp p hm).1)
 have hor:=Zob (l:=dec (xs.getD 0 0)) ((dec (xs.getD 2 0)).filterMap (Z2t (xs.getD 3 0) (xs.getD 4 0))) Zq2 (.inl rfl)
 have h01:∀ n:Int,(n=0∨n=1)→Zh (iv 0 1) n:=fun n h=>by
  rcases h with rfl | rfl
  ·exact ⟨by decide,by decide⟩
  ·exact ⟨by decide,by decide⟩
 exact Z1 (v7.2 0) (Z1 (v7.2 1) (Z1 (v7.2 2) (Z1 (v7.2 3) (Z1 (v7.2 4) (Z1 (v7.2 5) (Z1 (h01 _ hor) Z2))))))⟩
end Go.Proofs.Ytgcoidbaoigkeaa.fix
namespace Go.Proofs.Ytgcoidbaoigkeaa.fix
open Go.RowKit Go.Sx
theorem Ziv {l:List Int}:∀ (F acc:List Int),(F.foldl (Z1d l) acc=acc)∨∃ f ∈ F,F.foldl (Z1d l) acc=[co f 0,co f 1,co f 2,co f 3,co f 4,co f 5,1]
 | [],acc=>.inl rfl
 | f::F,acc=>by
  rw [List.foldl_cons]
  rcases Ziv F (Z1d l acc f) with h | ⟨g,hg,h⟩
  ·rw [h]
   unfold Z1d
   split
   ·exact .inr ⟨f,List.mem_cons_self ..,rfl⟩
   ·exact .inl rfl
  ·exact .inr ⟨g,List.mem_cons_of_mem _ hg,h⟩
theorem oneA {s:Sum} (h:s.okA Try.prog):Gok Try.prog [s]:=by
 intro x hx
 simp only [List.mem_singleton] at hx
 subst hx
 exact h
theorem Z17p {s:Sum} {G:List Sum} (h:s.okA Try.prog) (hG:Gok Try.prog G):Gok Try.prog (s::G):=by
 intro x hx
 rcases List.mem_cons.1 hx with rfl | hx
 ·exact h
 ·exact hG x hx
noncomputable def Zlt:List Sum:=[Z9x,Z9t,Z5s,Zq3,Zle]
def Z14u:List Inf:=[Zwm,Zpv,Zq9,Z148,i_cst]
def Zy3:TX:=(.call 0 [(.v 0),(.v 1),(.v 2),(.v 7),(.v 8)] (.ite (.nz (.v 15)) (.call 2 [(.v 0),(.v 1),(.v 2),(.v 9),(.v 10),(.v 11),(.v 12),(.v 13),(.v 14)] (.loop 2 [none,none] [(.c 0),.nl] (.ite (.lt (.v 20) (.ln (.v 2))) (.asrt (.le (.c 0) (.v 20)) (.call 1 [(.l2 .at (.l2 .at (.v 2) (.v 20)) (.c 0)),(.l2 .at (.l2 .at (.v 2) (.v 20)) (.c 1)),(.l2 .at (.l2 .at (.v 2) (.v 20)) (.c 2)),(.l2 .at (.l2 .at (.v 2) (.v 20)) (.c 3)),(.l2 .at (.l2 .at (.v 2) (.v 20)) (.c 4)),(.l2 .at (.l2 .at (.v 2) (.v 20)) (.c 5)),(.l2 .at (.l2 .at (.v 2) (.v 20)) (.c 6)),(.l2 .at (.l2 .at (.v 2) (.v 20)) (.c 7)),(.l2 .at (.l2 .at (.v 2) (.v 20)) (.c 8)),(.l2 .at (.l2 .at (.v 2) (.v 20)) (.c 9)),(.l2 .at (.l2 .at (.v 2) (.v 20)) (.c 10)),(.l2 .at (.l2 .at (.v 2) (.v 20)) (.c 11)),(.l2 .at (.l2 .at (.v 2) (.v 20)) (.c 12)),(.l2 .at (.l2 .at (.v 2) (.v 20)) (.c 13)),(.l2 .at (.l2 .at (.v 2) (.v 20)) (.c 14)),(.v 7),(.v 8)] (.ite (.eq (.v 27) (.c 0)) (.asrt (.le (.c 0) (.l2 .at (.l2 .at (.v 2) (.v 20)) (.c 16))) (.asrt (.lt (.l2 .at (.l2 .at (.v 2) (.v 20)) (.c 16)) (.ln (.v 0))) (.ite (.and (.nz (.l2 .at (.l2 .at (.v 0) (.l2 .at (.l2 .at (.v 2) (.v 20)) (.c 16))) (.c 10))) (.lt (.v 9) (.wr .i64 (.add (.l2 .at (.l2 .at (.v 2) (.v 20)) (.c 15)) (.v 24))))) (.asrt (.le (.ln (.l2 .snoc (.v 21) (.l2 .cons (.wr .i64 (.add (.l2 .at (.l2 .at (.v 2) (.v 20)) (.c 15)) (.v 24))) (.l2 .cons (.l2 .at (.l2 .at (.v 2) (.v 20)) (.c 16)) (.l2 .cons (.l2 .at (.l2 .at (.v 2) (.v 20)) (.c 17)) (.l2 .cons (.l2 .at (.l2 .at (.v 2) (.v 20)) (.c 18)) (.l2 .cons (.v 25) (.l2 .cons (.v 26) .nl)))))))) (.c 1000000)) (.back 0 [(.wr .i64 (.add (.v 20) (.c 1))),(.l2 .snoc (.v 21) (.l2 .cons (.wr .i64 (.add (.l2 .at (.l2 .at (.v 2) (.v 20)) (.c 15)) (.v 24))) (.l2 .cons (.l2 .at (.l2 .at (.v 2) (.v 20)) (.c 16)) (.l2 .cons (.l2 .at (.l2 .at (.v 2) (.v 20)) (.c 17)) (.l2 .cons (.l2 .at (.l2 .at (.v 2) (.v 20)) (.c 18)) (.l2 .cons (.v 25) (.l2 .cons (.v 26) .nl)))))))]))
(.back 0 [(.wr .i64 (.add (.v 20) (.c 1))),(.v 21)]))))
(.back 0 [(.wr .i64 (.add (.v 20) (.c 1))),(.v 21)]))))
(.asrt (.le (.ln (.v 21)) (.c 1000000)) (.call 4 [(.v 21),(.v 0)] (.loop 5 [none,none,none,none,none] [(.c 0),(.v 16),(.v 17),(.v 18),(.v 19)] (.ite (.le (.ln (.v 22)) (.v 23)) (.ret [(.v 24),(.v 25),(.v 26),(.v 27)])
(.asrt (.le (.c 0) (.v 23)) (.call 2 [(.v 0),(.v 1),(.v 2),(.l2 .at (.l2 .at (.v 22) (.v 23)) (.c 0)),(.l2 .at (.l2 .at (.v 22) (.v 23)) (.c 1)),(.l2 .at (.l2 .at (.v 22) (.v 23)) (.c 2)),(.l2 .at (.l2 .at (.v 22) (.v 23)) (.c 3)),(.l2 .at (.l2 .at (.v 22) (.v 23)) (.c 4)),(.l2 .at (.l2 .at (.v 22) (.v 23)) (.c 5))] (.call 3 [(.v 28),(.v 29),(.v 30),(.v 31),(.v 24),(.v 25),(.v 26),(.v 27)] (.back 1 [(.wr .i64 (.add (.v 23) (.c 1))),(.v 32),(.v 33),(.v 34),(.v 35)])))))))))))
(.loop 2 [none,none] [(.c 0),.nl] (.ite (.lt (.v 16) (.ln (.v 2))) (.asrt (.le (.c 0) (.v 16)) (.call 1 [(.l2 .at (.l2 .at (.v 2) (.v 16)) (.c 0)),(.l2 .at (.l2 .at (.v 2) (.v 16)) (.c 1)),(.l2 .at (.l2 .at (.v 2) (.v 16)) (.c 2)),(.l2 .at (.l2 .at (.v 2) (.v 16)) (.c 3)),(.l2 .at (.l2 .at (.v 2) (.v 16)) (.c 4)),(.l2 .at (.l2 .at (.v 2) (.v 16)) (.c 5)),(.l2 .at (.l2 .at (.v 2) (.v 16)) (.c 6)),(.l2 .at (.l2 .at (.v 2) (.v 16)) (.c 7)),(.l2 .at (.l2 .at (.v 2) (.v 16)) (.c 8)),(.l2 .at (.l2 .at (.v 2) (.v 16)) (.c 9)),(.l2 .at (.l2 .at (.v 2) (.v 16)) (.c 10)),(.l2 .at (.l2 .at (.v 2) (.v 16)) (.c 11)),(.l2 .at (.l2 .at (.v 2) (.v 16)) (.c 12)),(.l2 .at (.l2 .at (.v 2) (.v 16)) (.c 13)),(.l2 .at (.l2 .at (.v 2) (.v 16)) (.c 14)),(.v 7),(.v 8)] (.ite (.eq (.v 23) (.c 0)) (.asrt (.le (.c 0) (.l2 .at (.l2 .at (.v 2) (.v 16)) (.c 16))) (.asrt (.lt (.l2 .at (.l2 .at (.v 2) (.v 16)) (.c 16)) (.ln (.v 0))) (.ite (.nz (.l2 .at (.l2 .at (.v 0) (.l2 .at (.l2 .at (.v 2) (.v 16)) (.c 16))) (.c 10))) (.asrt (.le (.ln (.l2 .snoc (.v 17) (.l2 .cons (.wr .i64 (.add (.l2 .at (.l2 .at (.v 2) (.v 16)) (.c 15)) (.v 20))) (.l2 .cons (.l2 .at (.l2 .at (.v 2) (.v 16)) (.c 16)) (.l2 .cons (.l2 .at (.l2 .at (.v 2) (.v 16)) (.c 17)) (.l2 .cons (.l2 .at (.l2 .at (.v 2) (.v 16)) (.c 18)) (.l2 .cons (.v 21) (.l2 .cons (.v 22) .nl)))))))) (.c 1000000)) (.back 0 [(.wr .i64 (.add (.v 16) (.c 1))),(.l2 .snoc (.v 17) (.l2 .cons (.wr .i64 (.add (.l2 .at (.l2 .at (.v 2) (.v 16)) (.c 15)) (.v 20))) (.l2 .cons (.l2 .at (.l2 .at (.v 2) (.v 16)) (.c 16)) (.l2 .cons (.l2 .at (.l2 .at (.v 2) (.v 16)) (.c 17)) (.l2 .cons (.l2 .at (.l2 .at (.v 2) (.v 16)) (.c 18)) (.l2 .cons (.v 21) (.l2 .cons (.v 22) .nl)))))))]))
(.back 0 [(.wr .i64 (.add (.v 16) (.c 1))),(.v 17)]))))
(.back 0 [(.wr .i64 (.add (.v 16) (.c 1))),(.v 17)]))))
(.asrt (.le (.ln (.v 17)) (.c 1000000)) (.call 4 [(.v 17),(.v 0)] (.loop 5 [none,none,none,none,none] [(.c 0),(.v 3),(.v 4),(.v 5),(.v 6)] (.ite (.le (.ln (.v 18)) (.v 19)) (.ret [(.v 20),(.v 21),(.v 22),(.v 23)])
(.asrt (.le (.c 0) (.v 19)) (.call 2 [(.v 0),(.v 1),(.v 2),(.l2 .at (.l2 .at (.v 18) (.v 19)) (.c 0)),(.l2 .at (.l2 .at (.v 18) (.v 19)) (.c 1)),(.l2 .at (.l2 .at (.v 18) (.v 19)) (.c 2)),(.l2 .at (.l2 .at (.v 18) (.v 19)) (.c 3)),(.l2 .at (.l2 .at (.v 18) (.v 19)) (.c 4)),(.l2 .at (.l2 .at (.v 18) (.v 19)) (.c 5))] (.call 3 [(.v 24),(.v 25),(.v 26),(.v 27),(.v 20),(.v 21),(.v 22),(.v 23)] (.back 1 [(.wr .i64 (.add (.v 19) (.c 1))),(.v 28),(.v 29),(.v 30),(.v 31)]))))))))))))
theorem Zy4:Z17 (Zu [] Z14u [] Zii (Zx Try.prog (Znk Try.prog [(2,17),(8,36)]) gl0 Zlt 1000 32 [Scn,Cl,I1,I1] [Cl]))=Zy3:=by kernel_rfl
theorem g_colS:Gok Try.prog Zlt:=(more Zy2 (more Zo1 (more Zxz (more Z17i (fix.oneA ok_cst)))))
theorem o_colS:Zr Zlt Z14u:=(Z3 Zr6 (Z3 Zcd (Z3 Zgz (Z3 Z12i (Z3 Z17o Za)))))
set_option maxHeartbeats 4000000 in
theorem Z12r (I0 T0 S0 g0 g1 g2 g3 x y w0 w1 w2 w3 w4 w5 w6:Int) (l T S F:List Int) (at_:Int→List Int) (R:List Int) (ff:Int→Option Int) (hl:dec I0=l) (hT:dec T0=T) (hS:dec S0=S) (hlen:S.length≤100000)
  (hat:∀ p,Z9t.sem [co p 0,co p 1,co p 2,co p 3,co p 4,co p 5,co p 6,co p 7,co p 8,co p 9,co p 10,co p 11,co p 12,co p 13,co p 14,x,y]=[(at_ p).getD 0 0,(at_ p).getD 1 0,(at_ p).getD 2 0,(at_ p).getD 3 0,(at_ p).getD 4 0,(at_ p).getD 5 0])
  (hpp:∀ p ∈ S,Z9t.pre [co p 0,co p 1,co p 2,co p 3,co p 4,co p 5,co p 6,co p 7,co p 8,co p 9,co p 10,co p 11,co p 12,co p 13,co p 14,x,y])
  (hff:∀ p,ff p=if (at_ p).getD 5 0=0 then some (cod [IntKind.i64.wrap (co p 15 + (at_ p).getD 2 0),co p 16,co p 17,co p 18,(at_ p).getD 3 0,(at_ p).getD 4 0]) else none)
  (hit:∀ p ∈ S,0≤co p 16∧co p 16 < (l.length:Int)) (hF:S.filterMap ff=F) (hFv:∀ f ∈ F,Zq (zs 6) [co f 0,co f 1,co f 2,co f 3,co f 4,co f 5]∧0≤co f 1∧co f 1 < (l.length:Int))
  (hw:Z9x.sem [I0,T0,S0,x,y]=[w0,w1,w2,w3,w4,w5,w6]) (pw:Z9x.pre [I0,T0,S0,x,y]) (hW:Znt l F=[w0,w1,w2,w3,w4,w5,w6])
  (hP:∀ f0 f1 f2 f3 f4 f5,Z5s.sem [I0,T0,S0,f0,f1,f2,f3,f4,f5]=ex4 (Z87 (Zb4 (l.getD f1.toNat 0)) T f4 f5))
  (hpn:∀ f0 f1 f2 f3 f4 f5,Zq (zs 6) [f0,f1,f2,f3,f4,f5]→0≤f1→f1 < (l.length:Int)→Z5s.pre [I0,T0,S0,f0,f1,f2,f3,f4,f5]∧Zq (ivs 4 0 255) (ex4 (Z87 (Zb4 (l.getD f1.toNat 0)) T f4 f5)))
  (hO:∀ z,Zq3.sem z=Z7u z) (hC:∀ c,Zle.sem [c,I0]=[cod (Zfi l (dec c))]) (hcp:∀ L:List Int,(∀ f ∈ L,0≤co f 1∧co f 1 < (l.length:Int))→Zle.pre [cod L,I0]) (hgv:Zq (ivs 4 0 255) [g0,g1,g2,g3])
  (hR:R=ex4 (Z11c l T F [g0,g1,g2,g3])) :
  Zy3.sat Zlt [] (fun ys=>ys=R) [] [I0,T0,S0,g0,g1,g2,g3,x,y]:=by
 unfold Zy3 Zlt
 simp only [TX.sat,XB.prop]
 simp only [X.den,L2.den,TX.sat,XB.prop,X.den,Z18k,Z18l,Z18e,Z18f,Z18i,Z18j,Z18g,Z18h,mkS,mkP,and_true,true_and,Z18p,Z18q,not_or,not_and,Z18m,ne_eq,Z18n,Z18o]
 have hco:∀ x j,(dec x).getD j 0=co x j:=fun _ _=>rfl
 have hcS:∀ j,co S0 j=S.getD j 0:=fun j=>by rw [← hco,hS]
 simp only [hl,hS,hco,hcS,hw,TX.sat,XB.prop,X.den,Z18k,Z18l,Z18e,Z18f,Z18i,Z18j,Z18g,Z18h,mkS,mkP,and_true,true_and,Z18p,Z18q,not_or,not_and,Z18m,ne_eq,Z18n,Z18o,show Int.toNat 0=0 from rfl,show Int.toNat 1=1 from rfl,show Int.toNat 2=2 from rfl,show Int.toNat 3=3 from rfl,show Int.toNat 4=4 from rfl,show Int.toNat 5=5 from rfl,show Int.toNat 6=6 from rfl,show Int.toNat 7=7 from rfl,show Int.toNat 8=8 from rfl,show Int.toNat 9=9 from rfl,show Int.toNat 10=10 from rfl,show Int.toNat 11=11 from rfl,show Int.toNat 12=12 from rfl,show Int.toNat 13=13 from rfl,show Int.toNat 14=14 from rfl,show Int.toNat 15=15 from rfl,show Int.toNat 16=16 from rfl,show Int.toNat 17=17 from rfl,show Int.toNat 18=18 from rfl,show Int.toNat 19=19 from rfl,show Int.toNat 20=20 from rfl]
 have hFl:F.length≤100000:=by rw [← hF]; exact Nat.le_trans (List.length_filterMap_le _ _) hlen
 obtain ⟨ov,hovd⟩:∃ ov:Int→Bool,ov=fun f=>decide (co (l.getD (co f 1).toNat 0) 10 ≠ 0∧(w6=0∨w0 < co f 0)):=⟨_,rfl⟩
 have hov:∀ f,ov f=true↔(co (l.getD (co f 1).toNat 0) 10 ≠ 0∧(w6=0∨w0 < co f 0)):=fun f=>by rw [hovd]; exact decide_eq_true_iff
 have hOv:F.filter ov=Z6x l F:=by
  rw [hovd]
  unfold Z6x
  rw [hW]
  simp only [TX.sat,XB.prop,X.den,Z18k,Z18l,Z18e,Z18f,Z18i,Z18j,Z18g,Z18h,mkS,mkP,and_true,true_and,Z18p,Z18q,not_or,not_and,Z18m,ne_eq,Z18n,Z18o]
 refine ⟨pw,fun h6=>?_,fun h6=>?_⟩
 ·-- an opaque fragment shows
  have h0:¬ w6=0:=h6
  have hwf:∃ f ∈ F,[w0,w1,w2,w3,w4,w5,w6]=[co f 0,co f 1,co f 2,co f 3,co f 4,co f 5,1]:=by
   rcases Ziv (l:=l) F Zq2 with h | h
   ·rw [show F.foldl (Z1d l) Zq2=Znt l F from rfl,hW] at h
    have:=congrArg (fun q=>q.getD 6 0) h
    exact absurd this h0
   ·rw [show F.foldl (Z1d l) Zq2=Znt l F from rfl,hW] at h
    exact h
  obtain ⟨f,hfF,hfe⟩:=hwf
  simp only [List.cons.injEq,and_true] at hfe
  obtain ⟨k0,k1,k2,k3,k4,k5,_⟩:=hfe
  have hpw:=hpn w0 w1 w2 w3 w4 w5 (by rw [k0,k1,k2,k3,k4,k5]; exact (hFv f hfF).1) (by rw [k1]; exact (hFv f hfF).2.1) (by rw [k1]; exact (hFv f hfF).2.2)
  have hqv:=hpw.2
  simp only [hP,TX.sat,XB.prop,X.den,Z18k,Z18l,Z18e,Z18f,Z18i,Z18j,Z18g,Z18h,mkS,mkP,and_true,true_and,Z18p,Z18q,not_or,not_and,Z18m,ne_eq,Z18n,Z18o]
  obtain ⟨q0,q1,q2,q3,hq⟩:∃ q0 q1 q2 q3,ex4 (Z87 (Zb4 (l.getD w1.toNat 0)) T w4 w5)=[q0,q1,q2,q3]:=⟨_,_,_,_,rfl⟩
  rw [hq] at hqv
  simp only [hq,TX.sat,XB.prop,X.den,Z18k,Z18l,Z18e,Z18f,Z18i,Z18j,Z18g,Z18h,mkS,mkP,and_true,true_and,Z18p,Z18q,not_or,not_and,Z18m,ne_eq,Z18n,Z18o]
  have hgr:Z4r l T F [g0,g1,g2,g3]=[q0,q1,q2,q3]:=by
   unfold Z4r
   rw [hW,if_neg (show ¬ [w0,w1,w2,w3,w4,w5,w6].getD 6 0=0 from h6),← hq]
   unfold Zek
   simp only [Zgw,TX.sat,XB.prop,X.den,Z18k,Z18l,Z18e,Z18f,Z18i,Z18j,Z18g,Z18h,mkS,mkP,and_true,true_and,Z18p,Z18q,not_or,not_and,Z18m,ne_eq,Z18n,Z18o,List.take_succ_cons,List.take_zero]
  refine ⟨hpw.1,⟨fun xs=>∃ m:Nat,xs.getD 0 0=(m:Int)∧m≤S.length∧dec (xs.getD 1 0)=((S.take m).filterMap ff).filter ov∧cod (dec (xs.getD 1 0))=xs.getD 1 0,fun xs=>S.length - (xs.getD 0 0).toNat,fun xs hx _=>Zv (n:=2) hx,⟨0,rfl,by omega,Z24,by simp [Z4]⟩,?_⟩⟩
  intro ys hy hJ
  obtain ⟨e0,e1,rfl⟩:=Zfh hy
  obtain ⟨m,hm,hml,hmd,hmc⟩:=hJ
  simp only [TX.sat,XB.prop,X.den,Z18k,Z18l,Z18e,Z18f,Z18i,Z18j,Z18g,Z18h,mkS,mkP,and_true,true_and,Z18p,Z18q,not_or,not_and,Z18m,ne_eq,Z18n,Z18o] at hm hmd hmc ⊢
  subst hm
  simp only [Int.toNat_natCast,hcS,show Int.toNat 0=0 from rfl,show Int.toNat 1=1 from rfl,show Int.toNat 2=2 from rfl,show Int.toNat 3=3 from rfl,show Int.toNat 4=4 from rfl,show Int.toNat 5=5 from rfl,show Int.toNat 6=6 from rfl,show Int.toNat 7=7 from rfl,show Int.toNat 8=8 from rfl,show Int.toNat 9=9 from rfl,show Int.toNat 10=10 from rfl,show Int.toNat 11=11 from rfl,show Int.toNat 12=12 from rfl,show Int.toNat 13=13 from rfl,show Int.toNat 14=14 from rfl,show Int.toNat 15=15 from rfl,show Int.toNat 16=16 from rfl,show Int.toNat 17=17 from rfl,show Int.toNat 18=18 from rfl,show Int.toNat 19=19 from rfl,show Int.toNat 20=20 from rfl]
  simp only [hat,TX.sat,XB.prop,X.den,Z18k,Z18l,Z18e,Z18f,Z18i,Z18j,Z18g,Z18h,mkS,mkP,and_true,true_and,Z18p,Z18q,not_or,not_and,Z18m,ne_eq,Z18n,Z18o,Z4]
  refine ⟨fun hlt1=>?_,fun hge1=>?_⟩
  ·have hmS:m < S.length:=by omega
   have htake:S.take (m + 1)=S.take m++[S.getD m 0]:=by
    rw [List.take_succ_eq_append_getElem hmS]
    rw [show S.getD m 0=S[m] by simp [List.getD,hmS]]
   have hmem:S.getD m 0 ∈ S:=Zy hmS
   have hw:IntKind.i64.wrap ((m:Int) + 1)=((m + 1:Nat):Int):=by rw [Z10 (by omega) (by omega)]; omega
   have hfm:=hff (S.getD m 0)
   have hip:=hit _ hmem
   have hmeas:S.length - (IntKind.i64.wrap ((m:Int) + 1)).toNat < S.length - m:=by
    rw [hw,Int.toNat_natCast]
    omega
   have hlen1:(dec e1).length≤m:=by
    rw [hmd]
    exact Nat.le_trans (List.length_filter_le _ _) (Nat.le_trans (List.length_filterMap_le _ _) (List.length_take_le _ _))
   have hnone:ff (S.getD m 0)=none→((S.take (m + 1)).filterMap ff).filter ov=dec e1:=fun hf=>by
    rw [htake,List.filterMap_append]
    simp only [List.filterMap_cons,hf,List.filterMap_nil,List.append_nil]
    exact hmd.symm
   have hsome:∀ f,ff (S.getD m 0)=some f→((S.take (m + 1)).filterMap ff).filter ov=if ov f=true then dec e1++[f] else dec e1:=fun f hf=>by
    rw [htake,List.filterMap_append]
    simp only [List.filterMap_cons,hf,List.filterMap_nil]
    rw [List.filter_append,← hmd]
    by_cases hov:ov f=true
    ·rw [if_pos hov,List.filter_cons_of_pos hov,List.filter_nil]
    ·rw [if_neg hov,List.filter_cons_of_neg hov,List.filter_nil,List.append_nil]
   refine ⟨by omega,hpp _ hmem,fun hz=>⟨hip.1,hip.2,fun hbl=>⟨?_,⟨m + 1,hw,by omega,?_⟩,hmeas⟩,fun hbl=>⟨⟨m + 1,hw,by omega,?_,hmc⟩,hmeas⟩⟩,fun hz=>⟨⟨m + 1,hw,by omega,?_,hmc⟩,hmeas⟩⟩
   ·rw [List.length_append,List.length_singleton]
    omega
   ·rw [if_pos hz] at hfm
    rw [hsome _ hfm,if_pos]
    refine (hov _).2 ?_
    simp only [Zgw,TX.sat,XB.prop,X.den,Z18k,Z18l,Z18e,Z18f,Z18i,Z18j,Z18g,Z18h,mkS,mkP,and_true,true_and,Z18p,Z18q,not_or,not_and,Z18m,ne_eq,Z18n,Z18o]
    exact ⟨hbl.1,.inr hbl.2⟩
   ·rw [if_pos hz] at hfm
    rw [hsome _ hfm,if_neg]
    intro h5
    have h6:=(hov _).1 h5
    simp only [Zgw,TX.sat,XB.prop,X.den,Z18k,Z18l,Z18e,Z18f,Z18i,Z18j,Z18g,Z18h,mkS,mkP,and_true,true_and,Z18p,Z18q,not_or,not_and,Z18m,ne_eq,Z18n,Z18o] at h6
    exact absurd (h6.2.resolve_left h0) (Int.not_lt.2 (hbl h6.1))
   ·rw [if_neg hz] at hfm
    rw [hnone hfm]
  ·have hmm:m=S.length:=by omega
   rw [hmm,List.take_length,hF,hOv] at hmd
   have he1:e1=cod (Z6x l F):=by rw [← hmc,hmd]
   subst he1
   have hol:(Z6x l F).length≤100000:=Nat.le_trans (List.length_filter_le _ _) hFl
   simp only [hC,Z4,TX.sat,XB.prop,X.den,Z18k,Z18l,Z18e,Z18f,Z18i,Z18j,Z18g,Z18h,mkS,mkP,and_true,true_and,Z18p,Z18q,not_or,not_and,Z18m,ne_eq,Z18n,Z18o]
   obtain ⟨B,hB⟩:∃ B,B=Zfi l (Z6x l F):=⟨_,rfl⟩
   have hBm:∀ f ∈ B,f ∈ F:=fun f hf=>by
    rw [hB] at hf
    exact (List.mem_filter.1 ((Z6z l (Z6x l F)).mem_iff.1 hf)).1
   have hBl:B.length≤100000:=by rw [hB,(Z6z l (Z6x l F)).length_eq]; exact hol
   rw [← hB]
   refine ⟨by omega,hcp _ fun f hf=>(hFv f (List.mem_filter.1 hf).1).2,⟨fun xs=>∃ m:Nat,xs.getD 0 0=(m:Int)∧m≤B.length∧[xs.getD 1 0,xs.getD 2 0,xs.getD 3 0,xs.getD 4 0]=(B.take m).foldl (Zny l T) [q0,q1,q2,q3]∧Zq (ivs 4 0 255) [xs.getD 1 0,xs.getD 2 0,xs.getD 3 0,xs.getD 4 0],fun xs=>B.length - (xs.getD 0 0).toNat,fun xs hx _=>Zv (n:=5) hx,⟨0,rfl,by omega,rfl,hqv⟩,?_⟩⟩
   intro zs2 hz hK
   obtain ⟨d0,d1,d2,d3,d4,rfl⟩:=len5 hz
   obtain ⟨n,hn,hnl,hnd,hnv⟩:=hK
   simp only [TX.sat,XB.prop,X.den,Z18k,Z18l,Z18e,Z18f,Z18i,Z18j,Z18g,Z18h,mkS,mkP,and_true,true_and,Z18p,Z18q,not_or,not_and,Z18m,ne_eq,Z18n,Z18o] at hn hnd hnv ⊢
   subst hn
   have hcB:∀ j,co (cod B) j=B.getD j 0:=fun j=>Zgw _ _
   simp only [Int.toNat_natCast,hcB,show Int.toNat 0=0 from rfl,show Int.toNat 1=1 from rfl,show Int.toNat 2=2 from rfl,show Int.toNat 3=3 from rfl,show Int.toNat 4=4 from rfl,show Int.toNat 5=5 from rfl,show Int.toNat 6=6 from rfl,show Int.toNat 7=7 from rfl,show Int.toNat 8=8 from rfl,show Int.toNat 9=9 from rfl,show Int.toNat 10=10 from rfl,show Int.toNat 11=11 from rfl,show Int.toNat 12=12 from rfl,show Int.toNat 13=13 from rfl,show Int.toNat 14=14 from rfl,show Int.toNat 15=15 from rfl,show Int.toNat 16=16 from rfl,show Int.toNat 17=17 from rfl,show Int.toNat 18=18 from rfl,show Int.toNat 19=19 from rfl,show Int.toNat 20=20 from rfl]
   simp only [hP,hO,Z7u,TX.sat,XB.prop,X.den,Z18k,Z18l,Z18e,Z18f,Z18i,Z18j,Z18g,Z18h,mkS,mkP,and_true,true_and,Z18p,Z18q,not_or,not_and,Z18m,ne_eq,Z18n,Z18o]
   refine ⟨fun hge=>?_,fun hlt=>?_⟩
   ·have:n=B.length:=by omega
    rw [this,List.take_length] at hnd
    rw [hR,Z11c,hgr,← hB,← hnd]
    rfl
   ·have hnB:n < B.length:=by omega
    have htake:B.take (n + 1)=B.take n++[B.getD n 0]:=by
     rw [List.take_succ_eq_append_getElem hnB]
     rw [show B.getD n 0=B[n] by simp [List.getD,hnB]]
    have hmem:=hFv _ (hBm _ (Zy hnB))
    have hw:IntKind.i64.wrap ((n:Int) + 1)=((n + 1:Nat):Int):=by rw [Z10 (by omega) (by omega)]; omega
    have hpt:=hpn _ _ _ _ _ _ hmem.1 hmem.2.1 hmem.2.2
    refine ⟨by omega,hpt.1,Zw hpt.2 hnv,⟨n + 1,hw,by omega,?_,Z1 (Z3s _) (Z1 (Z3s _) (Z1 (Z3s _) (Z1 (Z3s _) Z2)))⟩,?_⟩
    ·rw [htake,List.foldl_append,← hnd]
     rfl
    ·rw [hw,Int.toNat_natCast]
     omega
 ·-- none
  have hqv:=hgv
  have hgr:Z4r l T F [g0,g1,g2,g3]=[g0,g1,g2,g3]:=by
   unfold Z4r
   rw [hW,if_pos (show [w0,w1,w2,w3,w4,w5,w6].getD 6 0=0 from h6)]
  refine ⟨fun xs=>∃ m:Nat,xs.getD 0 0=(m:Int)∧m≤S.length∧dec (xs.getD 1 0)=((S.take m).filterMap ff).filter ov∧cod (dec (xs.getD 1 0))=xs.getD 1 0,fun xs=>S.length - (xs.getD 0 0).toNat,fun xs hx _=>Zv (n:=2) hx,⟨0,rfl,by omega,Z24,by simp [Z4]⟩,?_⟩
  intro ys hy hJ
  obtain ⟨e0,e1,rfl⟩:=Zfh hy
  obtain ⟨m,hm,hml,hmd,hmc⟩:=hJ
  simp only [TX.sat,XB.prop,X.den,Z18k,Z18l,Z18e,Z18f,Z18i,Z18j,Z18g,Z18h,mkS,mkP,and_true,true_and,Z18p,Z18q,not_or,not_and,Z18m,ne_eq,Z18n,Z18o] at hm hmd hmc ⊢
  subst hm
  simp only [Int.toNat_natCast,hcS,show Int.toNat 0=0 from rfl,show Int.toNat 1=1 from rfl,show Int.toNat 2=2 from rfl,show Int.toNat 3=3 from rfl,show Int.toNat 4=4 from rfl,show Int.toNat 5=5 from rfl,show Int.toNat 6=6 from rfl,show Int.toNat 7=7 from rfl,show Int.toNat 8=8 from rfl,show Int.toNat 9=9 from rfl,show Int.toNat 10=10 from rfl,show Int.toNat 11=11 from rfl,show Int.toNat 12=12 from rfl,show Int.toNat 13=13 from rfl,show Int.toNat 14=14 from rfl,show Int.toNat 15=15 from rfl,show Int.toNat 16=16 from rfl,show Int.toNat 17=17 from rfl,show Int.toNat 18=18 from rfl,show Int.toNat 19=19 from rfl,show Int.toNat 20=20 from rfl]
  simp only [hat,TX.sat,XB.prop,X.den,Z18k,Z18l,Z18e,Z18f,Z18i,Z18j,Z18g,Z18h,mkS,mkP,and_true,true_and,Z18p,Z18q,not_or,not_and,Z18m,ne_eq,Z18n,Z18o,Z4]
  refine ⟨fun hlt1=>?_,fun hge1=>?_⟩
  ·have hmS:m < S.length:=by omega
   have htake:S.take (m + 1)=S.take m++[S.getD m 0]:=by
    rw [List.take_succ_eq_append_getElem hmS]
    rw [show S.getD m 0=S[m] by simp [List.getD,hmS]]
   have hmem:S.getD m 0 ∈ S:=Zy hmS
   have hw:IntKind.i64.wrap ((m:Int) + 1)=((m + 1:Nat):Int):=by rw [Z10 (by omega) (by omega)]; omega
   have hfm:=hff (S.getD m 0)
   have hip:=hit _ hmem
   have hmeas:S.length - (IntKind.i64.wrap ((m:Int) + 1)).toNat < S.length - m:=by
    rw [hw,Int.toNat_natCast]
    omega
   have hlen1:(dec e1).length≤m:=by
    rw [hmd]
    exact Nat.le_trans (List.length_filter_le _ _) (Nat.le_trans (List.length_filterMap_le _ _) (List.length_take_le _ _))
   have hnone:ff (S.getD m 0)=none→((S.take (m + 1)).filterMap ff).filter ov=dec e1:=fun hf=>by
    rw [htake,List.filterMap_append]
    simp only [List.filterMap_cons,hf,List.filterMap_nil,List.append_nil]
    exact hmd.symm
   have hsome:∀ f,ff (S.getD m 0)=some f→((S.take (m + 1)).filterMap ff).filter ov=if ov f=true then dec e1++[f] else dec e1:=fun f hf=>by
    rw [htake,List.filterMap_append]
    simp only [List.filterMap_cons,hf,List.filterMap_nil]
    rw [List.filter_append,← hmd]
    by_cases hov:ov f=true
    ·rw [if_pos hov,List.filter_cons_of_pos hov,List.filter_nil]
    ·rw [if_neg hov,List.filter_cons_of_neg hov,List.filter_nil,List.append_nil]
   refine ⟨by omega,hpp _ hmem,fun hz=>⟨hip.1,hip.2,fun hbl=>⟨?_,⟨m + 1,hw,by omega,?_⟩,hmeas⟩,fun hbl=>⟨⟨m + 1,hw,by omega,?_,hmc⟩,hmeas⟩⟩,fun hz=>⟨⟨m + 1,hw,by omega,?_,hmc⟩,hmeas⟩⟩
   ·rw [List.length_append,List.length_singleton]
    omega
   ·rw [if_pos hz] at hfm
    rw [hsome _ hfm,if_pos]
    refine (hov _).2 ?_
    simp only [Zgw,TX.sat,XB.prop,X.den,Z18k,Z18l,Z18e,Z18f,Z18i,Z18j,Z18g,Z18h,mkS,mkP,and_true,true_and,Z18p,Z18q,not_or,not_and,Z18m,ne_eq,Z18n,Z18o]
    exact ⟨hbl,.inl h6⟩
   ·rw [if_pos hz] at hfm
    rw [hsome _ hfm,if_neg]
    intro h5
    have h7:=(hov _).1 h5
    simp only [Zgw,TX.sat,XB.prop,X.den,Z18k,Z18l,Z18e,Z18f,Z18i,Z18j,Z18g,Z18h,mkS,mkP,and_true,true_and,Z18p,Z18q,not_or,not_and,Z18m,ne_eq,Z18n,Z18o] at h7
    exact h7.1 hbl
   ·rw [if_neg hz] at hfm
    rw [hnone hfm]
  ·have hmm:m=S.length:=by omega
   rw [hmm,List.take_length,hF,hOv] at hmd
   have he1:e1=cod (Z6x l F):=by rw [← hmc,hmd]
   subst he1
   have hol:(Z6x l F).length≤100000:=Nat.le_trans (List.length_filter_le _ _) hFl
   simp only [hC,Z4,TX.sat,XB.prop,X.den,Z18k,Z18l,Z18e,Z18f,Z18i,Z18j,Z18g,Z18h,mkS,mkP,and_true,true_and,Z18p,Z18q,not_or,not_and,Z18m,ne_eq,Z18n,Z18o]
   obtain ⟨B,hB⟩:∃ B,B=Zfi l (Z6x l F):=⟨_,rfl⟩
   have hBm:∀ f ∈ B,f ∈ F:=fun f hf=>by
    rw [hB] at hf
    exact (List.mem_filter.1 ((Z6z l (Z6x l F)).mem_iff.1 hf)).1
   have hBl:B.length≤100000:=by rw [hB,(Z6z l (Z6x l F)).length_eq]; exact hol
   rw [← hB]
   refine ⟨by omega,hcp _ fun f hf=>(hFv f (List.mem_filter.1 hf).1).2,⟨fun xs=>∃ m:Nat,xs.getD 0 0=(m:Int)∧m≤B.length∧[xs.getD 1 0,xs.getD 2 0,xs.getD 3 0,xs.getD 4 0]=(B.take m).foldl (Zny l T) [g0,g1,g2,g3]∧Zq (ivs 4 0 255) [xs.getD 1 0,xs.getD 2 0,xs.getD 3 0,xs.getD 4 0],fun xs=>B.length - (xs.getD 0 0).toNat,fun xs hx _=>Zv (n:=5) hx,⟨0,rfl,by omega,rfl,hqv⟩,?_⟩⟩
   intro zs2 hz hK
   obtain ⟨d0,d1,d2,d3,d4,rfl⟩:=len5 hz
   obtain ⟨n,hn,hnl,hnd,hnv⟩:=hK
   simp only [TX.sat,XB.prop,X.den,Z18k,Z18l,Z18e,Z18f,Z18i,Z18j,Z18g,Z18h,mkS,mkP,and_true,true_and,Z18p,Z18q,not_or,not_and,Z18m,ne_eq,Z18n,Z18o] at hn hnd hnv ⊢
   subst hn
   have hcB:∀ j,co (cod B) j=B.getD j 0:=fun j=>Zgw _ _
   simp only [Int.toNat_natCast,hcB,show Int.toNat 0=0 from rfl,show Int.toNat 1=1 from rfl,show Int.toNat 2=2 from rfl,show Int.toNat 3=3 from rfl,show Int.toNat 4=4 from rfl,show Int.toNat 5=5 from rfl,show Int.toNat 6=6 from rfl,show Int.toNat 7=7 from rfl,show Int.toNat 8=8 from rfl,show Int.toNat 9=9 from rfl,show Int.toNat 10=10 from rfl,show Int.toNat 11=11 from rfl,show Int.toNat 12=12 from rfl,show Int.toNat 13=13 from rfl,show Int.toNat 14=14 from rfl,show Int.toNat 15=15 from rfl,show Int.toNat 16=16 from rfl,show Int.toNat 17=17 from rfl,show Int.toNat 18=18 from rfl,show Int.toNat 19=19 from rfl,show Int.toNat 20=20 from rfl]
   simp only [hP,hO,Z7u,TX.sat,XB.prop,X.den,Z18k,Z18l,Z18e,Z18f,Z18i,Z18j,Z18g,Z18h,mkS,mkP,and_true,true_and,Z18p,Z18q,not_or,not_and,Z18m,ne_eq,Z18n,Z18o]
   refine ⟨fun hge=>?_,fun hlt=>?_⟩
   ·have:n=B.length:=by omega
    rw [this,List.take_length] at hnd
    rw [hR,Z11c,hgr,← hB,← hnd]
    rfl
   ·have hnB:n < B.length:=by omega
    have htake:B.take (n + 1)=B.take n++[B.getD n 0]:=by
     rw [List.take_succ_eq_append_getElem hnB]
     rw [show B.getD n 0=B[n] by simp [List.getD,hnB]]
    have hmem:=hFv _ (hBm _ (Zy hnB))
    have hw:IntKind.i64.wrap ((n:Int) + 1)=((n + 1:Nat):Int):=by rw [Z10 (by omega) (by omega)]; omega
    have hpt:=hpn _ _ _ _ _ _ hmem.1 hmem.2.1 hmem.2.2
    refine ⟨by omega,hpt.1,Zw hpt.2 hnv,⟨n + 1,hw,by omega,?_,Z1 (Z3s _) (Z1 (Z3s _) (Z1 (Z3s _) (Z1 (Z3s _) Z2)))⟩,?_⟩
    ·rw [htake,List.foldl_append,← hnd]
     rfl
    ·rw [hw,Int.toNat_natCast]
     omega
set_option maxHeartbeats 2000000 in
theorem Z17q:Zlf.ok Try.prog:=Sum.okPF (pin:=Zii) facts.mixed g_colS o_colS Zy4 rfl (fun _=>rfl) (fun xs h=>h.1) (by
 intro xs hx hp
 obtain ⟨I,T,S,g0,g1,g2,g3,x,y,rfl⟩:=len9 hx
 obtain ⟨hv,⟨hs,hp⟩,hr,hT⟩:=hp
 replace hs:(dec S).length≤100000:=hs
 replace hp:∀ p ∈ dec S,Zq (zs 21) (Zns p)∧0≤co p 16∧co p 16 < ((dec I).length:Int):=hp
 replace hr:Z49 (dec I) (dec T):=hr
 replace hT:Z9v (dec T):=hT
 obtain ⟨w0,w1,w2,w3,w4,w5,w6,hw⟩:=len7 (Zr4 (l:=dec I) ((dec S).filterMap (Z2t x y)) Zq2 rfl)
 have hws:Z9x.sem [I,T,S,x,y]=[w0,w1,w2,w3,w4,w5,w6]:=by
  show ex7 (((dec S).filterMap (Z2t x y)).foldl (Z1d (dec I)) Zq2)=_
  rw [hw]
  rfl
 exact Z12r I T S g0 g1 g2 g3 x y w0 w1 w2 w3 w4 w5 w6 (dec I) (dec T) (dec S) _ (fun p=>atL (Z1q p++[x,y])) _ (Z2t x y) rfl rfl rfl hs (fun p=>rfl) (fun p hm=>Ziu (hp p hm).1 (hv.2 7) (hv.2 8)) (fun p=>rfl)
  (fun p hm=>(hp p hm).2) rfl (fun f hf=>⟨Zcj (hv.2 7) (hv.2 8) (fun p hm=>(hp p hm).1) f hf,Zr5 (fun p hm=>(hp p hm).2) f hf⟩) hws ⟨Z1 trivial (Z1 trivial (Z1 trivial (Z1 (hv.2 7) (Z1 (hv.2 8) Z2)))),hs,hp⟩ hw
  (fun f0 f1 f2 f3 f4 f5=>by
   show Z3v _=_
   unfold Z3v
   simp only [TX.sat,XB.prop,X.den,Z18k,Z18l,Z18e,Z18f,Z18i,Z18j,Z18g,Z18h,mkS,mkP,and_true,true_and,Z18p,Z18q,not_or,not_and,Z18m,ne_eq,Z18n,Z18o]) (fun f0 f1 f2 f3 f4 f5 h h0 h1=>⟨⟨Z1 trivial (Z1 trivial (Z1 trivial h)),hr,hT,h0,h1⟩,Zlr hr hT h h0 h1⟩)
  (fun _=>rfl) (fun _=>rfl) (fun L hL f hf=>by
   have hf':f ∈ dec (cod L):=hf
   rw [Z4] at hf'
   exact hL f hf') (Z1 (hv.2 3) (Z1 (hv.2 4) (Z1 (hv.2 5) (Z1 (hv.2 6) Z2)))) rfl)
theorem Zy5 {I T:List Int}:∀ (L g:List Int),Zq (ivs 4 0 255) g→Zq (ivs 4 0 255) (L.foldl (Zny I T) g)
 | [],g,h=>h
 | f::L,g,h=>by
  rw [List.foldl_cons]
  exact Zy5 L _ (Z1 (Z3s _) (Z1 (Z3s _) (Z1 (Z3s _) (Z1 (Z3s _) Z2))))
end Go.Proofs.Ytgcoidbaoigkeaa.fix
namespace Go.Sx
open Go.RowKit
def Zoc (P:Program):Nat→TypeId→Option (List (Option (TypeId × List K)))
 | 0,_=>none
 | d + 1,t=>match P.underlying t with
  | some (.int _)=>some [none]
  | some .bool=>some [none]
  | some (.slice e)=>some [(Zze P 8 e).map fun ks=>(e,ks)]
  | some (.struct fs)=>fs.toList.foldr (fun f acc=>match Zoc P d f.type,acc with
   | some a,some b=>some (a++b)
   | _,_=>none) (some [])
  | some (.array n e)=>match Zoc P d e with
   | some a=>some ((List.replicate n a).flatten)
   | none=>none
  | _=>none
def plans (s:St):List (Option (TypeId × List K))→List SC→List Ck
 | t::ts,c::cs=>Z2r s t c::plans s ts cs
 | _,_=>[]
def Zr7 (P:Program) (s:St) (rw:List Nat) (ws:List (Nat × Option (TypeId × List K))):Nat→List Blk→List (List Ck)
 | _,[]=>[]
 | n,b::bs=>(if ws.any (fun w=>w.1 == n) then (match Zoc P 8 b.ty with
   | some ts=>if ts.length=b.cells.length then plans s ts b.cells else b.cells.map (Z2r s ((ws.filter fun w=>w.1 == n).findSome? (·.2)))
   | none=>b.cells.map (Z2r s ((ws.filter fun w=>w.1 == n).findSome? (·.2)))) else b.cells.map fun c=>match c with
  | .go (.o m)=>if rw.contains m then Z2r s none c else Ck.keep
  | _=>Ck.keep)::Zr7 P s rw ws (n + 1) bs
def Zy6 (P:Program) (s:St) (body:Code):Zai :=
 let l:=Z3k body
 let rw:=Z33 l s l
 let ws:=Z7r P l (fun t=>match s.fr.getD t Z5 with
  | .w (.o (.p n _))=>some n
  | _=>none) l++Z2h P l s l
 ⟨Zpm P l s rw 0 s.fr,Zr7 P s rw ws 0 s.mem⟩
def Z17r (P:Program) (ks:List (Nat × Nat)):St→Code→Option Zai:=fun s body =>
 if ks.contains (Ze5 body) then some (Zy6 P s body) else none
end Go.Sx
namespace Go.Proofs.Ytgcoidbaoigkeaa.fix
open Go.RowKit Go.Sx
theorem Z12s:Z1i Zlf Z14a:=⟨fun xs h=>(Z1k xs h).elim,fun vs xs h hp=>by
 have hlen:=hp.1.1
 obtain ⟨I,T,S,g0,g1,g2,g3,x,y,rfl⟩:=len9 (hlen.symm.trans rfl)
 obtain ⟨hv,⟨hs,hp⟩,hr,hT⟩:=hp
 replace hs:(dec S).length≤100000:=hs
 replace hp:∀ p ∈ dec S,Zq (zs 21) (Zns p)∧0≤co p 16∧co p 16 < ((dec I).length:Int):=hp
 replace hr:Z49 (dec I) (dec T):=hr
 replace hT:Z9v (dec T):=hT
 have hg:Zq (ivs 4 0 255) (Z4r (dec I) (dec T) ((dec S).filterMap (Z2t x y)) [g0,g1,g2,g3]):=by
  unfold Z4r
  split
  ·exact Z1 (hv.2 3) (Z1 (hv.2 4) (Z1 (hv.2 5) (Z1 (hv.2 6) Z2)))
  ·rename_i h6
   rcases Ziv (l:=dec I) ((dec S).filterMap (Z2t x y)) Zq2 with h | ⟨f,hfF,hfe⟩
   ·exact absurd (show (Znt (dec I) ((dec S).filterMap (Z2t x y))).getD 6 0=0 by unfold Znt; rw [h]; rfl) h6
   ·have hf6:=Zcj (hv.2 7) (hv.2 8) (fun p hm=>(hp p hm).1) f hfF
    have hfi:=Zr5 (fun p hm=>(hp p hm).2) f hfF
    unfold Zek Znt
    rw [hfe]
    simp only [Zgw,TX.sat,XB.prop,X.den,Z18k,Z18l,Z18e,Z18f,Z18i,Z18j,Z18g,Z18h,mkS,mkP,and_true,true_and,Z18p,Z18q,not_or,not_and,Z18m,ne_eq,Z18n,Z18o,List.take_succ_cons,List.take_zero]
    exact Zlr hr hT hf6 hfi.1 hfi.2
 have:=Zy5 (I:=dec I) (T:=dec T) (Zfi (dec I) (Z6x (dec I) ((dec S).filterMap (Z2t x y)))) _ hg
 exact Z1 (this.2 0) (Z1 (this.2 1) (Z1 (this.2 2) (Z1 (this.2 3) Z2)))⟩
def Fra:Sh:=⟨true,[.i .i64,.i .i64,.s 33 Zss,.s 3 [.i .i64],.s 3 [.i .i64],.s 3 [.i .i64]]⟩
def Zy7 (f:Int→Int→Int) (y:Int):Nat→List Int
 | 0=>[]
 | x + 1=>Zy7 f y x++[f (x:Int) y]
def Zbo (f:Int→Int→Int) (W:Nat):Nat→List Int
 | 0=>[]
 | y + 1=>Zbo f W y++Zy7 f (y:Int) W
noncomputable def colP (I T S g:List Int) (x y:Int):Int:=cod (ex4 (Z11c I T (S.filterMap (Z2t x y)) g))
noncomputable def Zzi (I S:List Int) (j:Nat) (x y:Int):Int:=(Znt I (S.filterMap (Z2t x y))).getD j 0
noncomputable def Z14v (x:List Int):Int:=if Z3e [x.getD 0 0,x.getD 1 0]=0 then (if Z4g ((x.drop 2).take 16) 0=true then 0 else 150) else Z3e [x.getD 0 0,x.getD 1 0]
noncomputable def Z17s (I T S g:List Int) (W H:Int):List Int:=[W,H,cod (Zbo (colP I T S g) W.toNat H.toNat),cod (Zbo (Zzi I S 0) W.toNat H.toNat),cod (Zbo (Zzi I S 1) W.toNat H.toNat),cod (Zbo (Zzi I S 2) W.toNat H.toNat),0]
noncomputable def Z4a (x:List Int):List Int:=if Z14v x=0 then Z17s (dec (x.getD 0 0)) (dec (x.getD 1 0)) (Z2s (dec (x.getD 0 0)) ((x.drop 2).take 16)) [x.getD 18 0,x.getD 19 0,x.getD 20 0,x.getD 21 0] (x.getD 16 0) (x.getD 17 0)
 else [0,0,cod [],cod [],cod [],cod [],Z14v x]
def Zez:List (Option Iv):=[none,none]++zs 16++ivs 4 0 255
def Zy8 (x:List Int):Prop:=Zq Zez x∧Z49 (dec (x.getD 0 0)) (dec (x.getD 1 0))∧Z9v (dec (x.getD 1 0))
def Zy9 (v:List (Option Iv)):List (Option Iv):=[none,none,none,none,none,none,none]
noncomputable def Z5t:Sum:=mkP gl0 11 [Sho,An 16,Cl] [Fra,I1] Zy8 Z4a
def Zya:Inf:=⟨[some ⟨1,0⟩],Zy9⟩
end Go.Proofs.Ytgcoidbaoigkeaa.fix
namespace Go.Proofs.Ytgcoidbaoigkeaa.fix
open Go.RowKit Go.Sx
theorem Ziw (f:Int→Int→Int) (y:Int):∀ n,(Zy7 f y n).length=n
 | 0=>rfl
 | n + 1=>by rw [Zy7,List.length_append,Ziw f y n]; rfl
theorem Zix (f:Int→Int→Int) (W:Nat):∀ n,(Zbo f W n).length=n * W
 | 0=>by rw [Nat.zero_mul]; rfl
 | n + 1=>by rw [Zbo,List.length_append,Zix f W n,Ziw,Nat.add_mul,Nat.one_mul]
noncomputable def Zf0:List Sum:=[Z3q,Z4k,Zb2,Z9x,Zlf]
def Zyb:List Inf:=[Zi6,Zc2,Zwh,Zwm,Z14a]
def Zod:TX:=(.call 0 [(.v 0),(.v 1)] (.ite (.not (.eq (.v 22) (.c 0))) (.ret [(.c 0),(.c 0),.nl,.nl,.nl,.nl,(.v 22)])
(.callp 1 [(.v 2),(.v 3),(.v 4),(.v 5),(.v 6),(.v 7),(.v 8),(.v 9),(.v 10),(.v 11),(.v 12),(.v 13),(.v 14),(.v 15),(.v 16),(.v 17)] (.ite (.not (.eq (.v 23) (.c 0))) (.ret [(.c 0),(.c 0),.nl,.nl,.nl,.nl,(.v 23)])
(.loop 2 [none,none] [(.c 0),.nl] (.ite (.lt (.v 24) (.ln (.v 0))) (.asrt (.le (.c 0) (.v 24)) (.loop 2 [none,none] [(.c 0),(.v 25)] (.ite (.lt (.v 26) (.ln (.l2 .at (.l2 .at (.l2 .at (.v 0) (.v 24)) (.c 2)) (.c 4)))) (.call 2 [(.v 0),(.v 1),(.v 2),(.v 3),(.v 4),(.v 5),(.v 6),(.v 7),(.v 8),(.v 9),(.v 10),(.v 11),(.v 12),(.v 13),(.v 14),(.v 15),(.v 16),(.v 17),(.v 24),(.v 26)] (.loop 2 [none,none] [(.c 0),(.v 27)] (.ite (.lt (.v 29) (.ln (.v 28))) (.asrt (.le (.c 0) (.v 29)) (.asrt (.le (.ln (.l2 .snoc (.v 30) (.l2 .cons (.l2 .at (.l2 .at (.v 28) (.v 29)) (.c 0)) (.l2 .cons (.l2 .at (.l2 .at (.v 28) (.v 29)) (.c 1)) (.l2 .cons (.l2 .at (.l2 .at (.v 28) (.v 29)) (.c 2)) (.l2 .cons (.l2 .at (.l2 .at (.v 28) (.v 29)) (.c 3)) (.l2 .cons (.l2 .at (.l2 .at (.v 28) (.v 29)) (.c 4)) (.l2 .cons (.l2 .at (.l2 .at (.v 28) (.v 29)) (.c 5)) (.l2 .cons (.l2 .at (.l2 .at (.v 28) (.v 29)) (.c 6)) (.l2 .cons (.l2 .at (.l2 .at (.v 28) (.v 29)) (.c 7)) (.l2 .cons (.l2 .at (.l2 .at (.v 28) (.v 29)) (.c 8)) (.l2 .cons (.l2 .at (.l2 .at (.v 28) (.v 29)) (.c 9)) (.l2 .cons (.l2 .at (.l2 .at (.v 28) (.v 29)) (.c 10)) (.l2 .cons (.l2 .at (.l2 .at (.v 28) (.v 29)) (.c 11)) (.l2 .cons (.l2 .at (.l2 .at (.v 28) (.v 29)) (.c 12)) (.l2 .cons (.l2 .at (.l2 .at (.v 28) (.v 29)) (.c 13)) (.l2 .cons (.l2 .at (.l2 .at (.v 28) (.v 29)) (.c 14)) (.l2 .cons (.l2 .at (.l2 .at (.v 0) (.v 24)) (.c 9)) (.l2 .cons (.v 24) (.l2 .cons (.v 26) (.l2 .cons (.v 29) (.l2 .cons (.c 0) (.l2 .cons (.c 0) .nl))))))))))))))))))))))) (.c 1000000)) (.back 2 [(.wr .i64 (.add (.v 29) (.c 1))),(.l2 .snoc (.v 30) (.l2 .cons (.l2 .at (.l2 .at (.v 28) (.v 29)) (.c 0)) (.l2 .cons (.l2 .at (.l2 .at (.v 28) (.v 29)) (.c 1)) (.l2 .cons (.l2 .at (.l2 .at (.v 28) (.v 29)) (.c 2)) (.l2 .cons (.l2 .at (.l2 .at (.v 28) (.v 29)) (.c 3)) (.l2 .cons (.l2 .at (.l2 .at (.v 28) (.v 29)) (.c 4)) (.l2 .cons (.l2 .at (.l2 .at (.v 28) (.v 29)) (.c 5)) (.l2 .cons (.l2 .at (.l2 .at (.v 28) (.v 29)) (.c 6)) (.l2 .cons (.l2 .at (.l2 .at (.v 28) (.v 29)) (.c 7)) (.l2 .cons (.l2 .at (.l2 .at (.v 28) (.v 29)) (.c 8)) (.l2 .cons (.l2 .at (.l2 .at (.v 28) (.v 29)) (.c 9)) (.l2 .cons (.l2 .at (.l2 .at (.v 28) (.v 29)) (.c 10)) (.l2 .cons (.l2 .at (.l2 .at (.v 28) (.v 29)) (.c 11)) (.l2 .cons (.l2 .at (.l2 .at (.v 28) (.v 29)) (.c 12)) (.l2 .cons (.l2 .at (.l2 .at (.v 28) (.v 29)) (.c 13)) (.l2 .cons (.l2 .at (.l2 .at (.v 28) (.v 29)) (.c 14)) (.l2 .cons (.l2 .at (.l2 .at (.v 0) (.v 24)) (.c 9)) (.l2 .cons (.v 24) (.l2 .cons (.v 26) (.l2 .cons (.v 29) (.l2 .cons (.c 0) (.l2 .cons (.c 0) .nl))))))))))))))))))))))])))
(.back 1 [(.wr .i64 (.add (.v 26) (.c 1))),(.v 30)]))))
(.back 0 [(.wr .i64 (.add (.v 24) (.c 1))),(.v 27)]))))
(.loop 7 [none,none,none,none,none,none,none] [(.c 0),(.v 16),(.v 17),.nl,.nl,.nl,.nl] (.ite (.le (.v 17) (.v 26)) (.ret [(.v 27),(.v 28),(.v 29),(.v 30),(.v 31),(.v 32),(.c 0)])
(.loop 7 [none,none,none,none,none,none,none] [(.c 0),(.v 27),(.v 28),(.v 29),(.v 30),(.v 31),(.v 32)] (.ite (.lt (.v 33) (.v 16)) (.call 3 [(.v 0),(.v 1),(.v 25),(.v 33),(.v 26)] (.call 4 [(.v 0),(.v 1),(.v 25),(.v 18),(.v 19),(.v 20),(.v 21),(.v 33),(.v 26)] (.asrt (.le (.ln (.l2 .snoc (.v 36) (.l2 .cons (.v 47) (.l2 .cons (.v 48) (.l2 .cons (.v 49) (.l2 .cons (.v 50) .nl)))))) (.c 1000000)) (.asrt (.le (.ln (.l2 .snoc (.v 37) (.v 40))) (.c 1000000)) (.asrt (.le (.ln (.l2 .snoc (.v 38) (.v 41))) (.c 1000000)) (.asrt (.le (.ln (.l2 .snoc (.v 39) (.v 42))) (.c 1000000)) (.back 2 [(.wr .i64 (.add (.v 33) (.c 1))),(.v 34),(.v 35),(.l2 .snoc (.v 36) (.l2 .cons (.v 47) (.l2 .cons (.v 48) (.l2 .cons (.v 49) (.l2 .cons (.v 50) .nl))))),(.l2 .snoc (.v 37) (.v 40)),(.l2 .snoc (.v 38) (.v 41)),(.l2 .snoc (.v 39) (.v 42))])))))))
(.back 1 [(.wr .i64 (.add (.v 26) (.c 1))),(.v 34),(.v 35),(.v 36),(.v 37),(.v 38),(.v 39)])))))))))))
theorem Ztc:Z17 (Zu [] Zyb [] Zez (Zx Try.prog (Z17r Try.prog [(3,17),(6,25),(9,34),(7,33),(10,38)]) gl0 Zf0 1000 11 [Sho,An 16,Cl] [Fra,I1]))=Zod:=by kernel_rfl
theorem Z17t:Gok Try.prog Zf0:=(more Zeq (more Zeb (more Zqv (more Zy2 (fix.one Z17q)))))
theorem Z17u:Zr Zf0 Zyb:=(Z3 Zgv (Z3 Zau (Z3 Zxr (Z3 Zr6 (Z3 Z12s Za)))))
set_option maxHeartbeats 4000000 in
theorem Zyc (I0 T0 c0 c1 c2 c3 c4 c5 c6 c7 c8 c9 c10 c11 c12 c13 c14 c15 g0 g1 g2 g3 E0 E1:Int) (l S:List Int) (pt:Nat→Nat→List Int) (R:List Int) (fw fc:Nat→Int→Int→Int) (hl:dec I0=l)
  (hE0:Z3q.sem [I0,T0]=[E0]) (hp0:Z3q.pre [I0,T0]) (hE1:Z4k.sem [c0,c1,c2,c3,c4,c5,c6,c7,c8,c9,c10,c11,c12,c13,c14,c15]=[E1])
  (hps:E0=0→E1=0→∀ i k:Nat,i < l.length→k < (Z1p (l.getD i 0)).length→Zb2.pre [I0,T0,c0,c1,c2,c3,c4,c5,c6,c7,c8,c9,c10,c11,c12,c13,c14,c15,(i:Int),(k:Int)])
  (hpt:∀ i k:Nat,Zb2.sem [I0,T0,c0,c1,c2,c3,c4,c5,c6,c7,c8,c9,c10,c11,c12,c13,c14,c15,(i:Int),(k:Int)]=[cod (pt i k)])
  (h6:∀ i k,(pt i k).length≤6) (h64:E0=0→l.length≤256∧∀ i,i < l.length→(Z1p (l.getD i 0)).length≤64)
  (hS:Z6a l pt l.length=S) (hWH:E1=0→(0≤c14∧c14≤1000)∧(0≤c15∧c15≤1000))
  (hpp:E0=0→E1=0→∀ x y:Nat,(x:Int) < c14→(y:Int) < c15→Z9x.pre [I0,T0,cod S,(x:Int),(y:Int)]∧Zlf.pre [I0,T0,cod S,g0,g1,g2,g3,(x:Int),(y:Int)])
  (hws:∀ x y:Int,Z9x.sem [I0,T0,cod S,x,y]=[fw 0 x y,fw 1 x y,fw 2 x y,fw 3 x y,fw 4 x y,fw 5 x y,fw 6 x y]) (hcs:∀ x y:Int,Zlf.sem [I0,T0,cod S,g0,g1,g2,g3,x,y]=[fc 0 x y,fc 1 x y,fc 2 x y,fc 3 x y])
  (hR0:¬ E0=0→R=[0,0,cod [],cod [],cod [],cod [],E0]) (hR1:E0=0→¬ E1=0→R=[0,0,cod [],cod [],cod [],cod [],E1])
  (hR3:E0=0→E1=0→R=[c14,c15,cod (Zbo (fun x y=>cod [fc 0 x y,fc 1 x y,fc 2 x y,fc 3 x y]) c14.toNat c15.toNat),cod (Zbo (fw 0) c14.toNat c15.toNat),cod (Zbo (fw 1) c14.toNat c15.toNat),cod (Zbo (fw 2) c14.toNat c15.toNat),0]) :
  Zod.sat Zf0 [] (fun ys=>ys=R) [] [I0,T0,c0,c1,c2,c3,c4,c5,c6,c7,c8,c9,c10,c11,c12,c13,c14,c15,g0,g1,g2,g3]:=by
 unfold Zod Zf0
 simp only [TX.sat,XB.prop]
 simp only [X.den,L2.den,TX.sat,XB.prop,X.den,Z18k,Z18l,Z18e,Z18f,Z18i,Z18j,Z18g,Z18h,mkS,mkP,and_true,true_and,Z18p,Z18q,not_or,not_and,Z18m,ne_eq,Z18n,Z18o]
 have hco:∀ x j,(dec x).getD j 0=co x j:=fun _ _=>rfl
 have hT:∀ b,dec (co (co b 2) 4)=Z1p b:=fun _=>rfl
 simp only [hl,hco,hT,hE0,hE1,TX.sat,XB.prop,X.den,Z18k,Z18l,Z18e,Z18f,Z18i,Z18j,Z18g,Z18h,mkS,mkP,and_true,true_and,Z18p,Z18q,not_or,not_and,Z18m,ne_eq,Z18n,Z18o]
 refine ⟨hp0,fun h0=>?_,fun h0=>⟨fun h1=>?_,fun h1=>?_⟩⟩
 ·exact (hR0 h0).symm
 ·exact (hR1 h0 h1).symm
 refine ⟨fun xs=>∃ i:Nat,xs.getD 0 0=(i:Int)∧i≤l.length∧dec (xs.getD 1 0)=Z6a l pt i∧cod (dec (xs.getD 1 0))=xs.getD 1 0,fun xs=>l.length - (xs.getD 0 0).toNat,fun xs hx _=>Zv (n:=2) hx,⟨0,rfl,by omega,Z24,by simp [Z4]⟩,?_⟩
 intro xs hx hI
 obtain ⟨d0,d1,rfl⟩:=Zfh hx
 obtain ⟨i,hi,hle,hd,hcd⟩:=hI
 simp only [TX.sat,XB.prop,X.den,Z18k,Z18l,Z18e,Z18f,Z18i,Z18j,Z18g,Z18h,mkS,mkP,and_true,true_and,Z18p,Z18q,not_or,not_and,Z18m,ne_eq,Z18n,Z18o] at hi hd hcd ⊢
 subst hi
 simp only [Int.toNat_natCast,hT,show Int.toNat 0=0 from rfl,show Int.toNat 1=1 from rfl,show Int.toNat 2=2 from rfl,show Int.toNat 3=3 from rfl,show Int.toNat 4=4 from rfl,show Int.toNat 5=5 from rfl,show Int.toNat 6=6 from rfl,show Int.toNat 7=7 from rfl,show Int.toNat 8=8 from rfl,show Int.toNat 9=9 from rfl,show Int.toNat 10=10 from rfl,show Int.toNat 11=11 from rfl,show Int.toNat 12=12 from rfl,show Int.toNat 13=13 from rfl,show Int.toNat 14=14 from rfl,show Int.toNat 15=15 from rfl,show Int.toNat 16=16 from rfl,show Int.toNat 17=17 from rfl,show Int.toNat 18=18 from rfl,show Int.toNat 19=19 from rfl,show Int.toNat 20=20 from rfl]
 obtain ⟨h256,h64'⟩:=h64 h0
 have hil:=Zev (l:=l) h6 h64' i hle
 refine ⟨fun hlt=>⟨by omega,?_⟩,fun hge=>?_⟩
 ·refine ⟨fun xs=>∃ k:Nat,xs.getD 0 0=(k:Int)∧k≤(Z1p (l.getD i 0)).length∧dec (xs.getD 1 0)=Z6a l pt i++Zpz l pt i k∧cod (dec (xs.getD 1 0))=xs.getD 1 0,fun xs=>(Z1p (l.getD i 0)).length - (xs.getD 0 0).toNat,fun xs hx _=>Zv (n:=2) hx,⟨0,rfl,by omega,by rw [Zpz,List.append_nil]; exact hd,hcd⟩,?_⟩
  intro ys hy hJ
  obtain ⟨e0,e1,rfl⟩:=Zfh hy
  obtain ⟨k,hk,hkl,hkd,hkc⟩:=hJ
  simp only [TX.sat,XB.prop,X.den,Z18k,Z18l,Z18e,Z18f,Z18i,Z18j,Z18g,Z18h,mkS,mkP,and_true,true_and,Z18p,Z18q,not_or,not_and,Z18m,ne_eq,Z18n,Z18o] at hk hkd hkc ⊢
  subst hk
  simp only [hpt,TX.sat,XB.prop,X.den,Z18k,Z18l,Z18e,Z18f,Z18i,Z18j,Z18g,Z18h,mkS,mkP,and_true,true_and,Z18p,Z18q,not_or,not_and,Z18m,ne_eq,Z18n,Z18o,Z4,Int.toNat_natCast]
  have hkt:=Ziq (l:=l) (h6 i) k
  have ht64:=h64' i (by omega)
  refine ⟨fun hlt1=>⟨hps h0 h1 i k (by omega) (by omega),?_⟩,fun hge1=>?_⟩
  ·refine ⟨fun xs=>∃ n:Nat,xs.getD 0 0=(n:Int)∧n≤(pt i k).length∧dec (xs.getD 1 0)=Z6a l pt i++Zpz l pt i k++Z3l (l.getD i 0) i k (pt i k) n∧cod (dec (xs.getD 1 0))=xs.getD 1 0,fun xs=>(pt i k).length - (xs.getD 0 0).toNat,fun xs hx _=>Zv (n:=2) hx,⟨0,rfl,by omega,by rw [Z3l,List.append_nil]; exact hkd,hkc⟩,?_⟩
   intro zs hz hK
   obtain ⟨f0,f1,rfl⟩:=Zfh hz
   obtain ⟨n,hn,hnl,hnd,hnc⟩:=hK
   simp only [TX.sat,XB.prop,X.den,Z18k,Z18l,Z18e,Z18f,Z18i,Z18j,Z18g,Z18h,mkS,mkP,and_true,true_and,Z18p,Z18q,not_or,not_and,Z18m,ne_eq,Z18n,Z18o] at hn hnd hnc ⊢
   subst hn
   have hcp:∀ j,co (cod (pt i k)) j=(pt i k).getD j 0:=fun j=>by rw [← hco,Z4]
   simp only [TX.sat,XB.prop,X.den,Z18k,Z18l,Z18e,Z18f,Z18i,Z18j,Z18g,Z18h,mkS,mkP,and_true,true_and,Z18p,Z18q,not_or,not_and,Z18m,ne_eq,Z18n,Z18o,Z4,Int.toNat_natCast,hcp,show Int.toNat 0=0 from rfl,show Int.toNat 1=1 from rfl,show Int.toNat 2=2 from rfl,show Int.toNat 3=3 from rfl,show Int.toNat 4=4 from rfl,show Int.toNat 5=5 from rfl,show Int.toNat 6=6 from rfl,show Int.toNat 7=7 from rfl,show Int.toNat 8=8 from rfl,show Int.toNat 9=9 from rfl,show Int.toNat 10=10 from rfl,show Int.toNat 11=11 from rfl,show Int.toNat 12=12 from rfl,show Int.toNat 13=13 from rfl,show Int.toNat 14=14 from rfl,show Int.toNat 15=15 from rfl,show Int.toNat 16=16 from rfl,show Int.toNat 17=17 from rfl,show Int.toNat 18=18 from rfl,show Int.toNat 19=19 from rfl,show Int.toNat 20=20 from rfl]
   have h6':=h6 i k
   refine ⟨fun hlt2=>⟨by omega,?_,⟨n + 1,?_,by omega,?_⟩,?_⟩,fun hge2=>?_⟩
   ·rw [hnd,List.length_append,List.length_append,List.length_append,Zeu,List.length_singleton]
    omega
   ·rw [Z10 (by omega) (by omega)]
    omega
   ·rw [hnd,Z3l,← List.append_assoc]
    rfl
   ·rw [Z10 (by omega) (by omega)]
    omega
   ·have hnn:n=(pt i k).length:=by omega
    refine ⟨⟨k + 1,?_,by omega,?_,hnc⟩,?_⟩
    ·rw [Z10 (by omega) (by omega)]
     omega
    ·rw [hnd,hnn,Zpz,← List.append_assoc]
    ·rw [Z10 (by omega) (by omega)]
     omega
  ·have hkk:k=(Z1p (l.getD i 0)).length:=by omega
   refine ⟨⟨i + 1,?_,by omega,?_,hkc⟩,?_⟩
   ·rw [Z10 (by omega) (by omega)]
    omega
   ·rw [hkd,hkk,Z6a]
   ·rw [Z10 (by omega) (by omega)]
    omega
 ·have hii:i=l.length:=by omega
  rw [hii] at hd
  have hd1:d1=cod S:=by rw [← hcd,hd,hS]
  subst hd1
  have hpp':=hpp h0 h1
  obtain ⟨⟨w1,w2⟩,w3,w4⟩:=hWH h1
  obtain ⟨W,hW⟩:∃ W:Nat,W=c14.toNat:=⟨_,rfl⟩
  obtain ⟨H,hH⟩:∃ H:Nat,H=c15.toNat:=⟨_,rfl⟩
  have hRR:=hR3 h0 h1
  clear hR0 hR1 hR3 hpp hps hE0 hE1 hp0 hS hil h64 h64'
  rw [← hW,← hH] at hRR
  obtain ⟨fC,hfC⟩:∃ fC:Int→Int→Int,fC=fun x y=>cod [fc 0 x y,fc 1 x y,fc 2 x y,fc 3 x y]:=⟨_,rfl⟩
  rw [← hfC] at hRR
  have hw:∀ {n:Nat},n < 1000000→IntKind.i64.wrap ((n:Int) + 1)=((n + 1:Nat):Int):=fun hn=>by rw [Z10 (by omega) (by omega)]; omega
  refine ⟨fun xs=>∃ y:Nat,y≤H∧xs=[(y:Int),c14,c15,cod (Zbo fC W y),cod (Zbo (fw 0) W y),cod (Zbo (fw 1) W y),cod (Zbo (fw 2) W y)],fun xs=>H - (xs.getD 0 0).toNat,fun xs hx _=>Zv (n:=7) hx,⟨0,Nat.zero_le _,rfl⟩,?_⟩
  intro ys hy hJ
  obtain ⟨y,hyl,rfl⟩:=hJ
  simp only [TX.sat,XB.prop,X.den,Z18k,Z18l,Z18e,Z18f,Z18i,Z18j,Z18g,Z18h,mkS,mkP,and_true,true_and,Z18p,Z18q,not_or,not_and,Z18m,ne_eq,Z18n,Z18o]
  refine ⟨fun hge=>?_,fun hlt=>?_⟩
  ·have hyH:y=H:=by omega
   rw [hyH,hRR]
  have hyH:y < H:=by omega
  have hmy:(y + 1) * W≤1000 * 1000:=Nat.mul_le_mul (by omega) (by omega)
  rw [Nat.add_mul,Nat.one_mul] at hmy
  refine ⟨fun xs=>∃ x:Nat,x≤W∧xs=[(x:Int),c14,c15,cod (Zbo fC W y++Zy7 fC y x),cod (Zbo (fw 0) W y++Zy7 (fw 0) y x),cod (Zbo (fw 1) W y++Zy7 (fw 1) y x),cod (Zbo (fw 2) W y++Zy7 (fw 2) y x)],fun xs=>W - (xs.getD 0 0).toNat,fun xs hx _=>Zv (n:=7) hx,⟨0,Nat.zero_le _,by simp only [Zy7,List.append_nil]; rfl⟩,?_⟩
  intro zs hz hK
  obtain ⟨x,hxl,rfl⟩:=hK
  simp only [TX.sat,XB.prop,X.den,Z18k,Z18l,Z18e,Z18f,Z18i,Z18j,Z18g,Z18h,mkS,mkP,and_true,true_and,Z18p,Z18q,not_or,not_and,Z18m,ne_eq,Z18n,Z18o,hws,hcs,Z4]
  refine ⟨fun hltx=>?_,fun hgex=>?_⟩
  ·have hxW:x < W:=by omega
   obtain ⟨p1,p2⟩:=hpp' x y hltx hlt
   have hlen:∀ f:Int→Int→Int,∀ z,(((Zbo f W y++Zy7 f y x)++[z]).length:Int)≤1000000:=fun f z=>by
    rw [List.length_append,List.length_append,Zix,Ziw,List.length_singleton]
    omega
   refine ⟨p1,p2,hlen _ _,hlen _ _,hlen _ _,hlen _ _,⟨x + 1,by omega,?_⟩,?_⟩
   ·rw [hw (by omega)]
    simp only [Zy7,← List.append_assoc]
    rw [hfC]
   ·rw [hw (by omega)]
    omega
  ·have hxW:x=W:=by omega
   refine ⟨⟨y + 1,by omega,?_⟩,?_⟩
   ·rw [hw (by omega),hxW]
    simp only [Zbo]
   ·rw [hw (by omega)]
    omega
theorem sceneP {I T:Int} {c0 c1 c2 c3 c4 c5 c6 c7 c8 c9 c10 c11 c12 c13 c14 c15:Int} (hv16:Zq (zs 16) [c0,c1,c2,c3,c4,c5,c6,c7,c8,c9,c10,c11,c12,c13,c14,c15]) (hr:Z49 (dec I) (dec T)) (h0:Z3e [I,T]=0):Zid (dec I) (Z2s (dec I) [c0,c1,c2,c3,c4,c5,c6,c7,c8,c9,c10,c11,c12,c13,c14,c15]):=by
 have htri:∀ i k:Nat,i < (dec I).length→k < (Z1p ((dec I).getD i 0)).length→Zq (zs 16) (c13::Znl [c0,c1,c2,c3,c4,c5,c6,c7,c8,c9,c10,c11,c12,c13,c14,c15] ((dec I).getD i 0) ((Z1p ((dec I).getD i 0)).getD k 0)):=by
  intro i k hi hk
  have hmem:(dec I).getD i 0 ∈ dec I:=Zy hi
  have hrb:=hr.1 _ hmem
  have hmb:=Zbl ((Z34 h0).2.2.2 _ hmem)
  have htn:=hmb.2.2.2.1 _ (Zy hk)
  simp only [Zwd,decide_eq_true_iff] at htn
  exact Zxq hv16 hrb.2.1 hrb.2.2.1 hmb.1.2.1 htn
 have h15:∀ p ∈ Z6a (dec I) (ptS (dec I) [c0,c1,c2,c3,c4,c5,c6,c7,c8,c9,c10,c11,c12,c13,c14,c15]) (dec I).length,Zq (zs 15) (Z1q p):=Z128 (pt:=ptS (dec I) [c0,c1,c2,c3,c4,c5,c6,c7,c8,c9,c10,c11,c12,c13,c14,c15]) (fun i k hi hk q hq=>Z127 hv16 (htri i k hi hk) hq)
 have h64:∀ i,i < (dec I).length→(Z1p ((dec I).getD i 0)).length≤64:=fun i hi=>(Zbl ((Z34 h0).2.2.2 _ (Zy hi))).1.2.2
 refine ⟨?_,fun p hp=>⟨?_,Z12f p hp⟩⟩
 ·have:=Zev (l:=dec I) (pt:=ptS (dec I) [c0,c1,c2,c3,c4,c5,c6,c7,c8,c9,c10,c11,c12,c13,c14,c15]) (fun i k=>Zew) h64 (dec I).length (Nat.le_refl _)
  have hl:=(Z34 h0).1
  have h2:(Z2s (dec I) [c0,c1,c2,c3,c4,c5,c6,c7,c8,c9,c10,c11,c12,c13,c14,c15]).length≤384 * (dec I).length:=this
  omega
 ·have h1:=h15 p hp
  have hl:=(Z34 h0).1
  obtain ⟨i,k,m,hi,hk,hm,rfl⟩:=Za5 hp
  have e1:=Zln ((dec I).getD i 0) i k m ((ptS (dec I) [c0,c1,c2,c3,c4,c5,c6,c7,c8,c9,c10,c11,c12,c13,c14,c15] i k).getD m 0)
  obtain ⟨e2,e3⟩:=Z12e ((dec I).getD i 0) i k m ((ptS (dec I) [c0,c1,c2,c3,c4,c5,c6,c7,c8,c9,c10,c11,c12,c13,c14,c15] i k).getD m 0)
  have hk':=h64 i hi
  have hm':(ptS (dec I) [c0,c1,c2,c3,c4,c5,c6,c7,c8,c9,c10,c11,c12,c13,c14,c15] i k).length≤6:=Zew
  have e0:co (Z69 ((dec I).getD i 0) i k m ((ptS (dec I) [c0,c1,c2,c3,c4,c5,c6,c7,c8,c9,c10,c11,c12,c13,c14,c15] i k).getD m 0)) 15=co ((dec I).getD i 0) 9:=by
   unfold Z69
   rw [Zgw]
   rfl
  have e4:co (Z69 ((dec I).getD i 0) i k m ((ptS (dec I) [c0,c1,c2,c3,c4,c5,c6,c7,c8,c9,c10,c11,c12,c13,c14,c15] i k).getD m 0)) 19=0:=by
   unfold Z69
   rw [Zgw]
   rfl
  have e5:co (Z69 ((dec I).getD i 0) i k m ((ptS (dec I) [c0,c1,c2,c3,c4,c5,c6,c7,c8,c9,c10,c11,c12,c13,c14,c15] i k).getD m 0)) 20=0:=by
   unfold Z69
   rw [Zgw]
   rfl
  have hb:=(Zit (hr.1 _ (Zy hi)).1).2 6
  unfold Zns
  rw [e0,e1,e2,e3,e4,e5]
  exact Zw (vs:=zs 15) (us:=zs 6) h1 (Z1 hb (Z1 (zc _ (by omega) (by omega)) (Z1 (zc _ (by omega) (by omega)) (Z1 (zc _ (by omega) (by omega)) (Z1 (zc _ (by omega) (by omega)) (Z1 (zc _ (by omega) (by omega)) Z2))))))
theorem Zyd (xs:List Int):(Z4a xs).length=Zg [Fra,I1]:=by
 unfold Z4a Z17s
 split <;> rfl
theorem len22i {xs:List Int} (h:xs.length=22):∃ a b c0 c1 c2 c3 c4 c5 c6 c7 c8 c9 c10 c11 c12 c13 c14 c15 g0 g1 g2 g3,xs=[a,b,c0,c1,c2,c3,c4,c5,c6,c7,c8,c9,c10,c11,c12,c13,c14,c15,g0,g1,g2,g3]:=by
 match xs,h with
 | [a,b,c0,c1,c2,c3,c4,c5,c6,c7,c8,c9,c10,c11,c12,c13,c14,c15,g0,g1,g2,g3],_=>exact ⟨_,_,_,_,_,_,_,_,_,_,_,_,_,_,_,_,_,_,_,_,_,_,rfl⟩
set_option maxHeartbeats 1000000 in
theorem Z12t:Z5t.ok Try.prog:=Sum.okPF (pin:=Zez) facts.mixed Z17t Z17u Ztc rfl Zyd (fun xs h=>h.1) (by
 intro xs hx hp
 obtain ⟨I,T,c0,c1,c2,c3,c4,c5,c6,c7,c8,c9,c10,c11,c12,c13,c14,c15,g0,g1,g2,g3,rfl⟩:=len22i hx
 obtain ⟨hv,hr,hT⟩:=hp
 replace hr:Z49 (dec I) (dec T):=hr
 replace hT:Z9v (dec T):=hT
 have hv16:Zq (zs 16) [c0,c1,c2,c3,c4,c5,c6,c7,c8,c9,c10,c11,c12,c13,c14,c15]:=Z1 (hv.2 2) (Z1 (hv.2 3) (Z1 (hv.2 4) (Z1 (hv.2 5) (Z1 (hv.2 6) (Z1 (hv.2 7) (Z1 (hv.2 8) (Z1 (hv.2 9) (Z1 (hv.2 10) (Z1 (hv.2 11) (Z1 (hv.2 12) (Z1 (hv.2 13) (Z1 (hv.2 14) (Z1 (hv.2 15) (Z1 (hv.2 16) (Z1 (hv.2 17) Z2)))))))))))))))
 have hE:Z14v [I,T,c0,c1,c2,c3,c4,c5,c6,c7,c8,c9,c10,c11,c12,c13,c14,c15,g0,g1,g2,g3]=if Z3e [I,T]=0 then (if Z4g [c0,c1,c2,c3,c4,c5,c6,c7,c8,c9,c10,c11,c12,c13,c14,c15] 0=true then 0 else 150) else Z3e [I,T]:=rfl
 have hcam:er (Z4g [c0,c1,c2,c3,c4,c5,c6,c7,c8,c9,c10,c11,c12,c13,c14,c15] 0) 150=0↔Z4g [c0,c1,c2,c3,c4,c5,c6,c7,c8,c9,c10,c11,c12,c13,c14,c15] 0=true:=Znb _ (by decide)
 have hsem:∀ e,Z14v [I,T,c0,c1,c2,c3,c4,c5,c6,c7,c8,c9,c10,c11,c12,c13,c14,c15,g0,g1,g2,g3]=e→Z4a [I,T,c0,c1,c2,c3,c4,c5,c6,c7,c8,c9,c10,c11,c12,c13,c14,c15,g0,g1,g2,g3]=if e=0 then Z17s (dec I) (dec T) (Z2s (dec I) [c0,c1,c2,c3,c4,c5,c6,c7,c8,c9,c10,c11,c12,c13,c14,c15]) [g0,g1,g2,g3] c14 c15 else [0,0,cod [],cod [],cod [],cod [],e]:=fun e h=>by
  unfold Z4a
  rw [h]
  simp only [TX.sat,XB.prop,X.den,Z18k,Z18l,Z18e,Z18f,Z18i,Z18j,Z18g,Z18h,mkS,mkP,and_true,true_and,Z18p,Z18q,not_or,not_and,Z18m,ne_eq,Z18n,Z18o]
  rfl
 exact Zyc I T c0 c1 c2 c3 c4 c5 c6 c7 c8 c9 c10 c11 c12 c13 c14 c15 g0 g1 g2 g3 (Z3e [I,T]) (er (Z4g [c0,c1,c2,c3,c4,c5,c6,c7,c8,c9,c10,c11,c12,c13,c14,c15] 0) 150) (dec I) (Z2s (dec I) [c0,c1,c2,c3,c4,c5,c6,c7,c8,c9,c10,c11,c12,c13,c14,c15]) (ptS (dec I) [c0,c1,c2,c3,c4,c5,c6,c7,c8,c9,c10,c11,c12,c13,c14,c15]) _ (fun j=>Zzi (dec I) (Z2s (dec I) [c0,c1,c2,c3,c4,c5,c6,c7,c8,c9,c10,c11,c12,c13,c14,c15]) j) (fun j x y=>(Z11c (dec I) (dec T) ((Z2s (dec I) [c0,c1,c2,c3,c4,c5,c6,c7,c8,c9,c10,c11,c12,c13,c14,c15]).filterMap (Z2t x y)) [g0,g1,g2,g3]).getD j 0) rfl rfl ⟨Zv (n:=2) rfl,hr⟩ rfl
  (fun h0 h1 i k hi hk=>⟨Z1 trivial (Z1 trivial (Zw hv16 (Z1 (zc _ (by omega) (by have:=(Z34 h0).1; omega)) (Z1 (zc _ (by omega) (by
   have:=(Zbl ((Z34 h0).2.2.2 _ (Zy hi))).1.2.2; omega)) Z2)))),hr,⟨by show (0:Int)≤(i:Int); omega,by show (i:Int) < _; exact Int.ofNat_lt.2 hi,by show (0:Int)≤(k:Int); omega,by show (k:Int) < _; exact Int.ofNat_lt.2 hk⟩,h0,hcam.1 h1⟩)
  (fun i k=>rfl) (fun i k=>Zew) (fun h0=>⟨(Z34 h0).1,fun i hi=>(Zbl ((Z34 h0).2.2.2 _ (Zy hi))).1.2.2⟩) rfl
  (fun h1=>by
   obtain ⟨_,_,h14,h15⟩:=Z9m (hcam.1 h1)
   have h14':1≤c14∧c14≤64:=h14
   have h15':1≤c15∧c15≤64:=h15
   omega)
  (fun h0 h1 x y hx hy=>by
   obtain ⟨_,_,h14,h15⟩:=Z9m (hcam.1 h1)
   have h14':1≤c14∧c14≤64:=h14
   have h15':1≤c15∧c15≤64:=h15
   have hP:Zid (dec I) (dec (cod (Z2s (dec I) [c0,c1,c2,c3,c4,c5,c6,c7,c8,c9,c10,c11,c12,c13,c14,c15]))):=by rw [Z4]; exact sceneP hv16 hr h0
   exact ⟨⟨Z1 trivial (Z1 trivial (Z1 trivial (Z1 (zc _ (by omega) (by omega)) (Z1 (zc _ (by omega) (by omega)) Z2)))),hP⟩,
    ⟨Z1 trivial (Z1 trivial (Z1 trivial (Z1 (hv.2 18) (Z1 (hv.2 19) (Z1 (hv.2 20) (Z1 (hv.2 21) (Z1 (zc _ (by omega) (by omega)) (Z1 (zc _ (by omega) (by omega)) Z2)))))))),hP,hr,hT⟩⟩)
  (fun x y=>by
   show Zie _=_
   unfold Zie
   simp only [TX.sat,XB.prop,X.den,Z18k,Z18l,Z18e,Z18f,Z18i,Z18j,Z18g,Z18h,mkS,mkP,and_true,true_and,Z18p,Z18q,not_or,not_and,Z18m,ne_eq,Z18n,Z18o,Z4]
   rfl)
  (fun x y=>by
   show Zih _=_
   unfold Zih
   simp only [TX.sat,XB.prop,X.den,Z18k,Z18l,Z18e,Z18f,Z18i,Z18j,Z18g,Z18h,mkS,mkP,and_true,true_and,Z18p,Z18q,not_or,not_and,Z18m,ne_eq,Z18n,Z18o,Z4]
   rfl)
  (fun h0=>by rw [hsem _ hE,if_neg h0,if_neg h0])
  (fun h0 h1=>by
   have h1':¬ Z4g [c0,c1,c2,c3,c4,c5,c6,c7,c8,c9,c10,c11,c12,c13,c14,c15] 0=true:=fun h=>h1 (hcam.2 h)
   rw [hsem _ hE,if_pos h0,if_neg h1',if_neg (by decide)]
   cases hb:Z4g [c0,c1,c2,c3,c4,c5,c6,c7,c8,c9,c10,c11,c12,c13,c14,c15] 0 with
   | true=>exact absurd hb h1'
   | false=>rfl)
  (fun h0 h1=>by rw [hsem _ hE,if_pos h0,if_pos (hcam.1 h1),if_pos rfl]; rfl))
theorem Zye:Z1i Z5t Zya:=⟨fun xs h=>(Z1k xs h).elim,fun vs xs h hp=>by
 show Zq [none,none,none,none,none,none,none] (Z4a xs)
 have hl:(Z4a xs).length=7:=Zyd xs
 exact Zv (n:=7) hl⟩
end Go.Proofs.Ytgcoidbaoigkeaa.fix
namespace Go.Proofs.Ytgcoidbaoigkeaa.fix
open Go.RowKit Go.Sx
def Zlu (x:List Int):List Int:=[1]
def Zyf (x:List Int):Prop:=Zq [none,none,none,none,none,none,none,none,none,none,none,none] x∧x.take 6=x.drop 6∧∀ j,2≤j→j≤5→(dec (x.getD j 0)).length≤1000000
def Zyg (v:List (Option Iv)):List (Option Iv):=[iv 0 1]
noncomputable def Zf1:Sum:=mkP gl0 13 [Fra,Fra] [Bo] Zyf Zlu
def Zyh:Inf:=⟨[some ⟨1,0⟩],Zyg⟩
theorem Zyi:Z1i Zf1 Zyh:=⟨fun xs h=>(Z1k xs h).elim,fun vs xs h hp=>Z1 ⟨show (0:Int)≤1 by decide,Int.le_refl 1⟩ Z2⟩
end Go.Proofs.Ytgcoidbaoigkeaa.fix
namespace Go.Proofs.Ytgcoidbaoigkeaa.fix
open Go.RowKit Go.Sx
noncomputable def Ziy:List Sum:=[]
def Zyj:List Inf:=[]
def Zyk:TX:=(.ite (.or (.not (.eq (.v 0) (.v 6))) (.or (.not (.eq (.v 1) (.v 7))) (.not (.eq (.ln (.v 2)) (.ln (.v 8)))))) (.ret [(.c 0)])
(.loop 2 [none,none] [(.c 0),(.c 0)] (.ite (.lt (.v 13) (.ln (.v 2))) (.asrt (.le (.c 0) (.v 13)) (.asrt (.lt (.v 13) (.ln (.v 8))) (.ite (.or (.not (.eq (.l2 .at (.l2 .at (.v 2) (.v 13)) (.c 0)) (.l2 .at (.l2 .at (.v 8) (.v 13)) (.c 0)))) (.or (.not (.eq (.l2 .at (.l2 .at (.v 2) (.v 13)) (.c 1)) (.l2 .at (.l2 .at (.v 8) (.v 13)) (.c 1)))) (.or (.not (.eq (.l2 .at (.l2 .at (.v 2) (.v 13)) (.c 2)) (.l2 .at (.l2 .at (.v 8) (.v 13)) (.c 2)))) (.not (.eq (.l2 .at (.l2 .at (.v 2) (.v 13)) (.c 3)) (.l2 .at (.l2 .at (.v 8) (.v 13)) (.c 3))))))) (.ret [(.c 0)])
(.back 0 [(.v 12),(.wr .i64 (.add (.v 13) (.c 1)))]))))
(.ite (.not (.eq (.ln (.v 3)) (.ln (.v 9)))) (.ret [(.c 0)])
(.loop 2 [none,none] [(.c 0),(.c 0)] (.ite (.lt (.v 15) (.ln (.v 3))) (.asrt (.le (.c 0) (.v 15)) (.asrt (.lt (.v 15) (.ln (.v 9))) (.ite (.not (.eq (.l2 .at (.v 3) (.v 15)) (.l2 .at (.v 9) (.v 15)))) (.ret [(.c 0)])
(.back 1 [(.v 14),(.wr .i64 (.add (.v 15) (.c 1)))]))))
(.ite (.not (.eq (.ln (.v 4)) (.ln (.v 10)))) (.ret [(.c 0)])
(.loop 2 [none,none] [(.c 0),(.c 0)] (.ite (.lt (.v 17) (.ln (.v 4))) (.asrt (.le (.c 0) (.v 17)) (.asrt (.lt (.v 17) (.ln (.v 10))) (.ite (.not (.eq (.l2 .at (.v 4) (.v 17)) (.l2 .at (.v 10) (.v 17)))) (.ret [(.c 0)])
(.back 2 [(.v 16),(.wr .i64 (.add (.v 17) (.c 1)))]))))
(.ite (.not (.eq (.ln (.v 5)) (.ln (.v 11)))) (.ret [(.c 0)])
(.loop 2 [none,none] [(.c 0),(.c 0)] (.ite (.le (.ln (.v 5)) (.v 19)) (.ret [(.c 1)])
(.asrt (.le (.c 0) (.v 19)) (.asrt (.lt (.v 19) (.ln (.v 11))) (.ite (.not (.eq (.l2 .at (.v 5) (.v 19)) (.l2 .at (.v 11) (.v 19)))) (.ret [(.c 0)])
(.back 3 [(.v 18),(.wr .i64 (.add (.v 19) (.c 1)))]))))))))))))))))
theorem Ztd:Z17 (Zu [] Zyj [] [none,none,none,none,none,none,none,none,none,none,none,none] (Zx Try.prog (Zbj Try.prog [(4,14)]) gl0 Ziy 1000 13 [Fra,Fra] [Bo]))=Zyk:=by kernel_rfl
theorem Z17v:Gok Try.prog Ziy:=noG
theorem Z17w:Zr Ziy Zyj:=Za
theorem len12s {xs:List Int} (h:xs.length=12):∃ a0 a1 a2 a3 a4 a5 b0 b1 b2 b3 b4 b5,xs=[a0,a1,a2,a3,a4,a5,b0,b1,b2,b3,b4,b5]:=by
 match xs,h with
 | [a0,a1,a2,a3,a4,a5,b0,b1,b2,b3,b4,b5],_=>exact ⟨_,_,_,_,_,_,_,_,_,_,_,_,rfl⟩
theorem Z12u:Zf1.ok Try.prog:=Sum.okPF (pin:=[none,none,none,none,none,none,none,none,none,none,none,none]) facts.mixed Z17v Z17w Ztd rfl (fun _=>rfl) (fun xs h=>h.1) (by
 intro xs hx hp
 obtain ⟨a0,a1,a2,a3,a4,a5,b0,b1,b2,b3,b4,b5,rfl⟩:=len12s hx
 obtain ⟨_,he,hl⟩:=hp
 simp only [List.take_succ_cons,List.take_zero,List.drop_succ_cons,List.drop_zero,List.cons.injEq,and_true] at he
 obtain ⟨rfl,rfl,rfl,rfl,rfl,rfl⟩:=he
 have l2:(dec a2).length≤1000000:=hl 2 (by omega) (by omega)
 have l3:(dec a3).length≤1000000:=hl 3 (by omega) (by omega)
 have l4:(dec a4).length≤1000000:=hl 4 (by omega) (by omega)
 have l5:(dec a5).length≤1000000:=hl 5 (by omega) (by omega)
 have hw:∀ {n:Nat},n < 1000000→IntKind.i64.wrap ((n:Int) + 1)=((n + 1:Nat):Int):=fun hn=>by rw [Z10 (by omega) (by omega)]; omega
 unfold Zyk Ziy
 simp only [TX.sat,XB.prop]
 simp only [X.den,L2.den,TX.sat,XB.prop,X.den,Z18k,Z18l,Z18e,Z18f,Z18i,Z18j,Z18g,Z18h,mkS,mkP,and_true,true_and,Z18p,Z18q,not_or,not_and,Z18m,ne_eq,Z18n,Z18o,Zlu]
 refine ⟨fun hbad=>(by simp at hbad),fun _=>?_⟩
 refine ⟨fun xs=>∃ i:Nat,xs.getD 1 0=(i:Int)∧i≤(dec a2).length,fun xs=>(dec a2).length - (xs.getD 1 0).toNat,fun xs hx _=>Zv (n:=2) hx,⟨0,rfl,by omega⟩,?_⟩
 intro xs hx hA
 obtain ⟨d0,d1,rfl⟩:=Zfh hx
 obtain ⟨i,hi,hil⟩:=hA
 simp only [TX.sat,XB.prop,X.den,Z18k,Z18l,Z18e,Z18f,Z18i,Z18j,Z18g,Z18h,mkS,mkP,and_true,true_and,Z18p,Z18q,not_or,not_and,Z18m,ne_eq,Z18n,Z18o] at hi ⊢
 subst hi
 refine ⟨fun hlt=>⟨by omega,by omega,fun hbad=>(by simp at hbad),fun _=>⟨⟨i + 1,hw (by omega),by omega⟩,by rw [hw (by omega),Int.toNat_natCast,Int.toNat_natCast]; omega⟩⟩,fun _=>?_⟩
 clear hil
 refine ⟨fun hbad=>(by simp at hbad),fun _=>?_⟩
 refine ⟨fun xs=>∃ i:Nat,xs.getD 1 0=(i:Int)∧i≤(dec a3).length,fun xs=>(dec a3).length - (xs.getD 1 0).toNat,fun xs hx _=>Zv (n:=2) hx,⟨0,rfl,by omega⟩,?_⟩
 intro xs hx hA
 obtain ⟨d0,d1,rfl⟩:=Zfh hx
 obtain ⟨i,hi,hil⟩:=hA
 simp only [TX.sat,XB.prop,X.den,Z18k,Z18l,Z18e,Z18f,Z18i,Z18j,Z18g,Z18h,mkS,mkP,and_true,true_and,Z18p,Z18q,not_or,not_and,Z18m,ne_eq,Z18n,Z18o] at hi ⊢
 subst hi
 refine ⟨fun hlt=>⟨by omega,by omega,fun hbad=>(by simp at hbad),fun _=>⟨⟨i + 1,hw (by omega),by omega⟩,by rw [hw (by omega),Int.toNat_natCast,Int.toNat_natCast]; omega⟩⟩,fun _=>?_⟩
 clear hil
 refine ⟨fun hbad=>(by simp at hbad),fun _=>?_⟩
 refine ⟨fun xs=>∃ i:Nat,xs.getD 1 0=(i:Int)∧i≤(dec a4).length,fun xs=>(dec a4).length - (xs.getD 1 0).toNat,fun xs hx _=>Zv (n:=2) hx,⟨0,rfl,by omega⟩,?_⟩
 intro xs hx hA
 obtain ⟨d0,d1,rfl⟩:=Zfh hx
 obtain ⟨i,hi,hil⟩:=hA
 simp only [TX.sat,XB.prop,X.den,Z18k,Z18l,Z18e,Z18f,Z18i,Z18j,Z18g,Z18h,mkS,mkP,and_true,true_and,Z18p,Z18q,not_or,not_and,Z18m,ne_eq,Z18n,Z18o] at hi ⊢
 subst hi
 refine ⟨fun hlt=>⟨by omega,by omega,fun hbad=>(by simp at hbad),fun _=>⟨⟨i + 1,hw (by omega),by omega⟩,by rw [hw (by omega),Int.toNat_natCast,Int.toNat_natCast]; omega⟩⟩,fun _=>?_⟩
 clear hil
 refine ⟨fun hbad=>(by simp at hbad),fun _=>?_⟩
 refine ⟨fun xs=>∃ i:Nat,xs.getD 1 0=(i:Int)∧i≤(dec a5).length,fun xs=>(dec a5).length - (xs.getD 1 0).toNat,fun xs hx _=>Zv (n:=2) hx,⟨0,rfl,by omega⟩,?_⟩
 intro xs hx hA
 obtain ⟨d0,d1,rfl⟩:=Zfh hx
 obtain ⟨i,hi,hil⟩:=hA
 simp only [TX.sat,XB.prop,X.den,Z18k,Z18l,Z18e,Z18f,Z18i,Z18j,Z18g,Z18h,mkS,mkP,and_true,true_and,Z18p,Z18q,not_or,not_and,Z18m,ne_eq,Z18n,Z18o] at hi ⊢
 subst hi
 exact ⟨fun _=>trivial,fun hlt=>⟨by omega,by omega,fun hbad=>(by simp at hbad),fun _=>⟨⟨i + 1,hw (by omega),by omega⟩,by rw [hw (by omega),Int.toNat_natCast,Int.toNat_natCast]; omega⟩⟩⟩)
end Go.Proofs.Ytgcoidbaoigkeaa.fix
namespace Go.Sx
open Go.RowKit
abbrev SpF:=St→TypeId→SC→FuncId→List (Nat × Nat)→Option (List E × (Nat→St))
section
variable (P:Program) (g:Nat) (fS:FuncId) (f:SpF)
end
section
variable {P:Program} {Γ:List Sum} {Ψ:List Int→Prop} {g:Nat} {fS:FuncId} {f:SpF} {sum:Sum}
end
def Z12v (id0:Nat):Code→Bool
 | .seq x y=>Z12v id0 x || Z12v id0 y
 | .region id _ _=>id == id0
 | _=>false
section
variable {P:Program} {Γ:List Sum} {Ψ:List Int→Prop} {g:Nat} {fS:FuncId} {f:SpF} {sum:Sum}
end
end Go.Sx
namespace Go.Sx
open Go.RowKit
section
variable {P:Program} {Γ:List Sum} {Ψ:List Int→Prop}
end
end Go.Sx
namespace Go.Sx
open Go.RowKit
theorem Zf2:∀ {ks:List K} {xs:List Int} {u:Value},u ∈ Z7 ks xs→u.oneCell'=true
 | [],_,_,h=>by simp [Z7] at h
 | k::ks,[],_,h=>by simp [Z7] at h
 | k::ks,x::xs,u,h=>by
  simp only [Z7,List.mem_cons] at h
  rcases h with rfl | h
  ·cases k with
   | i k=>rfl
   | b=>rfl
   | s ty kr =>
    obtain ⟨a,l,c,hv⟩:=Zjt x
    simp only [K.mk,hv]
    rfl
  ·exact Zf2 h
theorem Zte {ks:List K} {l:List Int} {u:Value} (h:u ∈ Zb ks l):u.oneCell'=true:=by
 simp only [Zb,List.mem_flatMap] at h
 obtain ⟨x,_,hx⟩:=h
 exact Zf2 hx
section
variable {P:Program} {Γ:List Sum} {Ψ:List Int→Prop} {bs:List (List Int→Prop)}
theorem Z12w {t ty elem:TypeId} {inf:TypeInfo} {z:Value} {ks:List K} {w:World} (ht:P.underlying t=some (.slice elem)) (hi:P.info? elem=some inf) (hz:inf.zero=some z) (hzs:z.cells.size=inf.size) (h0:inf.size ≠ 0)
    (hks:ks.length=inf.size) (hby:inf.bytes≤100000000) {v x:Value} {c d:Int} (hv:Zs w elem ks v c) (hx:Z5a w ks x d) (hlen:(dec c).length + (dec d).length≤1000000) :
    ∃ v' w',(Builtin.append_ #[t,t] ty #[v,x]).run P w=.ok v' w'∧(∀ c',dec c'=dec c++dec d→Zs w' elem ks v' c')∧w.grownBy w' (Z6 v)∧(∀ k,Z6 v'=some k→Z6 v=some k∨k=w.heap.size)∧∃ a l cp,v'=.slice a l cp:=by
  have hsame:∀ row,w.grownBy w row:=fun row=>⟨rfl,rfl,rfl,Nat.le_refl _,fun _ _ _=>rfl⟩
  by_cases hd:dec d=[]
  · -- nothing is appended
    have hxz:∃ r cp,x=.slice r 0 cp:=by
      rcases hx with ⟨⟨a,hx⟩,_⟩ | ⟨b,off,cap,hx,_⟩
      · exact ⟨_,_,hx⟩
      · exact ⟨_,_,by rw [hx,hd]; rfl⟩
    obtain ⟨r,cp,rfl⟩:=hxz
    have hvz:∃ q n cap,v=.slice q n cap∧n≤cap:=by
      rcases hv.form with ⟨b,_,hv⟩ | ⟨g,cap,hv,_,hle,_⟩
      · exact ⟨_,_,_,hv,Nat.le_refl _⟩
      · exact ⟨_,_,_,hv,hle⟩
    obtain ⟨q,n,cap,rfl,hle⟩:=hvz
    refine ⟨_,w,Z6k ht hi hle,fun c' hc'=>?_,hsame _,fun k hk=>.inl hk,_,_,_,rfl⟩
    rw [hd,List.append_nil] at hc'
    unfold Zs at hv ⊢
    rw [hc']
    exact hv
  · rcases hx with ⟨_,hn⟩ | ⟨b,off,cx,rfl,hle,hm,hel,hcell⟩
    · exact absurd hn hd
    have hm0:0 < (dec d).length:=List.length_pos_iff.2 hd
    have hnl:(Zb ks (dec d)).length=(dec d).length * inf.size:=by rw [Zl hel,hks]
    have hnews:∀ j u,(Zb ks (dec d))[j]?=some u→w.cell? ((⟨b,off,none⟩:Addr).add j)=some u:=fun j u hj=>by rw [Addr.add_lit]; exact hcell j u hj
    have h1:∀ u ∈ Zb ks (dec d),u.oneCell'=true:=fun u hu=>Zte hu
    have hbytes:∀ n,n≤1000000→n * inf.bytes≤140737488355328:=fun n hn=>by
      have:=Nat.mul_le_mul hn hby
      omega
    have own:∀ {v:Value},w.ownsRow 0 elem ks.length v (dec c).length (Zb ks (dec c))→(∀ x ∈ dec c,(elt ks x).length=ks.length)→v.ownBlock=Z6 v →
        ∃ v' w',(Builtin.append_ #[t,t] ty #[v,.slice (some ⟨b,off,none⟩) (dec d).length cx]).run P w=.ok v' w'∧(∀ c',dec c'=dec c++dec d→Zs w' elem ks v' c')∧w.grownBy w' (Z6 v)∧(∀ k,Z6 v'=some k→Z6 v=some k∨k=w.heap.size)∧∃ a l cp,v'=.slice a l cp:=by
      intro v hown helc hob
      rw [hks] at hown
      obtain ⟨g,cap,w',hr,ho,hgr,hat,_⟩:=run_append_lies (P:=P) w t ty 0 elem inf z inf.size inf.bytes ht hi hz rfl rfl hzs (by omega) v (dec c).length _ hown ⟨b,off,none⟩ (dec d).length cx _ hnl hnews h1 hm0 (by unfold maxLen; omega) (hbytes _ hlen) (Nat.zero_le _) _ rfl
      refine ⟨_,w',hr,fun c' hc'=>.inr ⟨by omega,?_,?_⟩,by rw [← hob]; exact hgr,?_,_,_,_,rfl⟩
      · rw [hc']
        intro y hy
        rcases List.mem_append.1 hy with hy | hy
        · exact helc y hy
        · exact hel y hy
      · rw [hc',Z78,List.length_append,hks]
        exact ho
      · intro k hk
        simp only [Z6] at hk
        split at hk
        · cases hk
        · simp only [Option.some.injEq] at hk
          rw [hob] at hat
          rcases hat with hat | hat
          · exact .inl (by rw [hat,hk])
          · exact .inr (by rw [← hk,hat])
    rcases hv.form with ⟨b',hn,rfl⟩ | ⟨g,cap,hvv,hcap,hle',hk0,helc,hown⟩
    · cases b' with
      | none =>
       refine own ?_ (by rw [hn]; simp) rfl
       rw [hn]
       exact World.ownsRow_nil _ _ _ _
      | some b' =>
      have hr:=run_append_grow (P:=P) w t ty elem inf z ht hi hz b' 0 0 [] (by simp) (by simp) ⟨b,off,none⟩ (dec d).length cx _ hnl hnews (by omega) (by omega) (growslice_fits (by omega) (by have:=hbytes (dec d).length (by omega); simpa using this))
      simp only [Nat.zero_add] at hr
      refine ⟨_,_,hr,fun c' hc'=>.inr ⟨by omega,?_,?_⟩,⟨rfl,rfl,rfl,by simp,fun k hk _=>by first | exact heap_alloc_old w.drew _ hk | exact heap_alloc_old w.drew _ _ hk⟩,?_,_,_,_,rfl⟩
      · rw [hc',hn]
        simpa using hel
      · rw [hc',hn,Z18j]
        have hge:=grownCap_ge w (dec d).length 0 elem
        refine ⟨by rw [hnl,hks],.inr ⟨w.heap.size,_,_,rfl,Nat.zero_le _,heap_alloc_new w.drew _,hge,grownCap_le_maxLen w (dec d).length 0 elem (by unfold maxLen; omega),?_,?_⟩⟩
        · simp only [Array.size_append,List.size_toArray,List.length_nil,size_zeroCells,hzs,hnl,hks,← Nat.add_mul,Nat.zero_add]
          congr 1
          omega
        · simp only [Array.toList_append,Z18j]
          rw [hks,← hnl]
          exact List.take_left
      · intro k hk
        simp only [Z6] at hk
        split at hk
        · cases hk
        · simp only [Option.some.injEq] at hk
          exact .inr hk.symm
    · refine own hown helc ?_
      rw [hvv]
      simp [Value.ownBlock,Z6,hcap]
end
def LeA (e e':Env):Prop:=∃ a b c d x,e'.r=e.r++a∧e'.β=e.β++b∧e'.σ=e.σ++c∧e'.ω=e.ω++d∧e'.R=e.R++x
theorem LeA.refl (e:Env):LeA e e:=⟨[],[],[],[],[],by simp⟩
theorem LeA.of {e e':Env} (h:Env.le e e'):LeA e e':=by
 obtain ⟨a,b,c,d,h1,h2,h3,h4,h5⟩:=h
 exact ⟨a,b,c,d,[],h1,h2,h3,h4,by simpa using h5⟩
theorem LeA.trans {a b c:Env} (h:LeA a b) (h':LeA b c):LeA a c:=by
 obtain ⟨x1,x2,x3,x4,x5,p1,p2,p3,p4,p5⟩:=h
 obtain ⟨y1,y2,y3,y4,y5,q1,q2,q3,q4,q5⟩:=h'
 exact ⟨x1++y1,x2++y2,x3++y3,x4++y4,x5++y5,by simp [p1,p2,p3,p4,p5,q1,q2,q3,q4,q5]⟩
theorem Z1l {α:Type} {l x:List α} {i:Nat} (d:α) (h:i < l.length):(l++x).getD i d=l.getD i d:=by
 simp only [List.getD]
 rw [List.getElem?_append_left h]
theorem E.den_A {e e':Env} (h:LeA e e') {x:E} (hx:x.sc e.r.length=true):x.den e'.R e'.r=x.den e.R e.r:=by
 obtain ⟨a,b,c,d,y,h1,_⟩:=h
 rw [h1,E.den_app _ _ _ _ hx]
 exact E.den_R _ _ _ _
def Za6 (m nv nb:Nat):SC→Bool
 | .i _ x=>x.sc nv
 | .b x=>false
 | .p n _=>decide (n < nb)
 | .go (.a i)=>decide (i < m)
 | .l _=>true
 | _=>false
theorem Zlv {e e':Env} (h:LeA e e') {c:SC} (hc:Za6 e.R.length e.r.length e.β.length c=true):c.den e'=c.den e:=by
 cases c with
 | i k x=>simp only [Za6] at hc; simp only [SC.den,E.den_A h hc]
 | p n off =>
  simp only [Za6,Z18s] at hc
  obtain ⟨a,b,c,d,y,h1,h2,h3,h4,h5⟩:=h
  simp only [SC.den,Z1z,h2,Z1l 0 hc]
 | go g =>
  cases g with
  | a i =>
   simp only [Za6,Z18s] at hc
   obtain ⟨a,b,c,d,y,h1,h2,h3,h4,h5⟩:=h
   simp only [SC.den,G.val,h5,Z1l undef hc]
  | _=>simp [Za6] at hc
 | l v=>rfl
 | _=>simp [Za6] at hc
def Z17x (m nv nb:Nat):SV→Bool
 | .w (.o c)=>Za6 m nv nb c
 | .w (.a cs)=>cs.all (Za6 m nv nb)
 | .t []=>true
 | _=>false
theorem Zyl {m nv nb:Nat} {e e':Env} (hc:∀ c,Za6 m nv nb c=true→c.den e'=c.den e) {v:SV} (hv:Z17x m nv nb v=true):v.den e'=v.den e:=by
 unfold Z17x at hv
 split at hv
 ·exact hc _ hv
 ·simp only [SV.den,SW.den]
  rw [List.map_congr_left fun c h=>hc c (List.all_eq_true.1 hv c h)]
 ·rfl
 ·cases hv
inductive Fk where
 | keep
 | un
 | num (k:IntKind)
def gF:List Fk→List SV→Nat→Nat→List SV
 | .keep::l,v::vs,nv,nx=>v::gF l vs nv nx
 | .un::l,_::vs,nv,nx=>.un nx::gF l vs nv (nx + 1)
 | .num k::l,_::vs,nv,nx=>one (.i k (.v nv))::gF l vs (nv + 1) nx
 | _,_,_,_=>[]
def Z17y (k:IntKind):SV→Option E
 | .w (.o (.i k' e))=>if k=k' then some e else none
 | _=>none
theorem Z12x {k:IntKind} {x:SV} {e:E} (h:Z17y k x=some e):x=one (.i k e):=by
 unfold Z17y at h
 split at h
 ·split at h
  ·rename_i hk
   subst hk
   cases h
   rfl
  ·cases h
 ·cases h
def mF (m nv nb:Nat):List Fk→List SV→List SV→Option (List E)
 | [],[],[]=>some []
 | .keep::l,v::vs,x::xs=>if Z17x m nv nb v && v.same x then mF m nv nb l vs xs else none
 | .un::l,_::vs,_::xs=>mF m nv nb l vs xs
 | .num k::l,_::vs,x::xs=>match Z17y k x,mF m nv nb l vs xs with
  | some e,some es=>some (e::es)
  | _,_=>none
 | _,_,_=>none
noncomputable def uF (ex:Env):List Fk→List SV→List Value
 | .keep::l,_::xs=>uF ex l xs
 | .un::l,x::xs=>x.den ex::uF ex l xs
 | .num _::l,_::xs=>uF ex l xs
 | _,_=>[]
def nF:List Fk→Nat
 | []=>0
 | .num _::l=>nF l + 1
 | _::l=>nF l
def xF:List Fk→Nat
 | []=>0
 | .un::l=>xF l + 1
 | _::l=>xF l
theorem Ztf {m nv nb:Nat} {ex:Env}:∀ {l:List Fk} {vs xs:List SV} {es:List E},mF m nv nb l vs xs=some es→es.length=nF l∧(uF ex l xs).length=xF l ∧
    ∀ (e2:Env) (nv0 nx0:Nat),(∀ c,Za6 m nv nb c=true→c.den e2=c.den ex)→(∀ t n,(es.map (E.den ex.R ex.r))[t]?=some n→e2.r.getD (nv0 + t) 0=n)→(∀ t v,(uF ex l xs)[t]?=some v→e2.ω.getD (nx0 + t) undef=v) →
      (gF l vs nv0 nx0).map (SV.den e2)=xs.map (SV.den ex)
  | [],vs,xs,es,h=>by
    cases vs <;> cases xs <;> simp [mF] at h
    subst h
    exact ⟨rfl,rfl,fun _ _ _ _ _ _=>rfl⟩
  | .keep::l,vs,xs,es,h=>by
    cases vs <;> cases xs <;> simp only [mF] at h <;> try cases h
    split at h
    · rename_i hc
      simp only [Z18r] at hc
      obtain ⟨a1,a2,a3⟩:=Ztf (ex:=ex) h
      refine ⟨a1,a2,fun e2 nv0 nx0 h1 h2 h3=>?_⟩
      have:=SV.same_eq hc.2
      subst this
      simp only [gF,Z18k]
      rw [Zyl h1 hc.1,a3 e2 nv0 nx0 h1 h2 h3]
    · cases h
  | .un::l,vs,xs,es,h=>by
    cases vs <;> cases xs <;> simp only [mF] at h <;> try cases h
    obtain ⟨a1,a2,a3⟩:=Ztf (ex:=ex) h
    refine ⟨a1,by simp only [uF,List.length_cons,xF,a2],fun e2 nv0 nx0 h1 h2 h3=>?_⟩
    simp only [gF,Z18k]
    rw [a3 e2 nv0 (nx0 + 1) h1 h2 fun t v ht=>by
      rw [Nat.add_assoc,Nat.add_comm 1 t]
      exact h3 (t + 1) v (by simpa [uF] using ht)]
    congr 1
    exact h3 0 _ (by simp [uF])
  | .num k::l,vs,xs,es,h=>by
    cases vs <;> cases xs <;> simp only [mF] at h <;> try cases h
    rename_i v vs x xs
    split at h
    · rename_i e es' h1 h2
      simp only [Option.some.injEq] at h
      subst h
      have:=Z12x h1
      subst this
      obtain ⟨a1,a2,a3⟩:=Ztf (ex:=ex) h2
      refine ⟨by simp only [List.length_cons,nF,a1],by simp only [uF,xF,a2],fun e2 nv0 nx0 g1 g2 g3=>?_⟩
      simp only [gF,Z18k]
      rw [a3 e2 (nv0 + 1) nx0 g1 (fun t n ht=>by
        rw [Nat.add_assoc,Nat.add_comm 1 t]
        exact g2 (t + 1) n (by simpa using ht)) (fun t v ht=>g3 t v (by simpa [uF] using ht))]
      congr 1
      have:=g2 0 (e.den ex.R ex.r) (by simp)
      simp only [one,SV.den,SW.den,SC.den,E.den,Nat.add_zero] at this ⊢
      rw [this]
    · cases h
def gC (a:Option Nat) (m:Nat):Nat→List SC→List SC
 | _,[]=>[]
 | j,c::cs=>(if a=some j then .go (.a m) else c)::gC a m (j + 1) cs
def cM (a:Option Nat) (y:SC→Bool) (m nv nb:Nat):Nat→List SC→List SC→Bool
 | _,[],[]=>true
 | j,c::cs,x::xs=>(if a=some j then y x else Za6 m nv nb c && c.same x) && cM a y m nv nb (j + 1) cs xs
 | _,_,_=>false
theorem cM_ok {a:Option Nat} {y:SC→Bool} {m nv nb mm:Nat} {e2 ex:Env} (h1:∀ c,Za6 m nv nb c=true→c.den e2=c.den ex) (h2:∀ x,y x=true→(SC.go (.a mm)).den e2=x.den ex) :
  ∀ {j:Nat} {cs xs:List SC},cM a y m nv nb j cs xs=true→(gC a mm j cs).map (SC.den e2)=xs.map (SC.den ex)
 | j,[],[],h=>rfl
 | j,[],_::_,h=>by simp [cM] at h
 | j,_::_,[],h=>by simp [cM] at h
 | j,c::cs,x::xs,h=>by
  simp only [cM,Z18r] at h
  simp only [gC,Z18k]
  rw [cM_ok h1 h2 h.2]
  congr 1
  have h0:=h.1
  split
  ·rename_i ha
   rw [if_pos ha] at h0
   exact h2 _ h0
  ·rename_i ha
   rw [if_neg ha] at h0
   simp only [Z18r] at h0
   have:=SC.same_eq h0.2
   subst this
   exact h1 _ h0.1
def accAt (acc:Nat × Nat) (n:Nat):Option Nat:=if n=acc.1 then some acc.2 else none
def gM (acc:Nat × Nat) (m:Nat):Nat→List Blk→List Blk
 | _,[]=>[]
 | n,b::bs=>{ b with cells:=gC (accAt acc n) m 0 b.cells }::gM acc m (n + 1) bs
def mM (acc:Nat × Nat) (y:SC→Bool) (m nv nb:Nat):Nat→List Blk→List Blk→Bool
 | _,[],_=>true
 | n,b::bs,x::xs=>(b.live && (x.live && decide (b.ty=x.ty))) && (cM (accAt acc n) y m nv nb 0 b.cells x.cells && mM acc y m nv nb (n + 1) bs xs)
 | _,_::_,[]=>false
theorem Zf3 (acc:Nat × Nat) (m:Nat):∀ (n:Nat) (l:List Blk),(gM acc m n l).length=l.length
 | _,[]=>rfl
 | n,b::l=>by simp only [gM,List.length_cons,Zf3 acc m (n + 1) l]
theorem mM_ok {acc:Nat × Nat} {y:SC→Bool} {m nv nb mm:Nat} {e2 ex:Env} (h1:∀ c,Za6 m nv nb c=true→c.den e2=c.den ex) (h2:∀ x,y x=true→(SC.go (.a mm)).den e2=x.den ex) :
  ∀ {n:Nat} {bs xs:List Blk},mM acc y m nv nb n bs xs=true→∀ (i:Nat) (b':Blk),(gM acc mm n bs)[i]?=some b'→∃ x,xs[i]?=some x∧x.live=true∧b'.ty=x.ty∧b'.cells.map (SC.den e2)=x.cells.map (SC.den ex)
 | n,[],xs,h,i,b',hb=>by simp [gM] at hb
 | n,_::_,[],h,i,b',hb=>by simp [mM] at h
 | n,b::bs,x::xs,h,i,b',hb=>by
  simp only [mM,Z18r,Z18s] at h
  obtain ⟨⟨hl,hxl,hty⟩,hc,hr⟩:=h
  cases i with
  | zero =>
   simp only [gM,Z18e,Option.some.injEq] at hb
   subst hb
   exact ⟨x,rfl,hxl,hty,cM_ok h1 h2 hc⟩
  | succ i =>
   simp only [gM,Z18f] at hb
   exact mM_ok h1 h2 hr i b' hb
def Z17z (m:Nat) (pl:List Fk) (acc:Nat × Nat) (s:St):St :=
 { s with fr:=gF pl s.fr s.nv s.nx,mem:=gM acc m 0 s.mem,nv:=s.nv + (nF pl + 1),nx:=s.nx + xF pl,dp:=s.dp + 1 }
theorem headA {e0 ex:Env} {W W':Bas} {s sx:St} {a:Act} {w w0:World} {pl:List Fk} {acc:Nat × Nat} {y:SC→Bool} {es:List E} {u:Value} {cn:Int} (h0:Rep e0 W s w0) (hsc:s.sc=true) (hx:Rel ex W' sx a w) (hle:LeA e0 ex)
  (hfl:sx.fl=0) (hfl0:s.fl=0) (hrows:s.rows=[]) (hgl:GlX s.gl W') (hF:mF e0.R.length s.nv s.mem.length pl s.fr sx.fr=some es) (hM:mM acc y e0.R.length s.nv s.mem.length 0 s.mem sx.mem=true)
  (hu:slV u=u) (hy:∀ x,y x=true→x.den ex=u) (hhs:s.hs.length≤e0.R.length) (harg:∀ i ks c,s.hs[i]?=some (ks,c)→SlX W' ks (slV (e0.R.getD i undef)) (c.den e0.R e0.r)) :
  ∃ e2,LeA e0 e2∧e2.r=e0.r++(es.map (E.den ex.R ex.r)++[cn])∧e2.R=e0.R++[u]∧Rel e2 W' (Z17z e0.R.length pl acc s) a w:=by
 obtain ⟨f1,f2,f3⟩:=Ztf (ex:=ex) hF
 obtain ⟨e2,he2⟩:∃ e2:Env,e2={ r:=e0.r++(es.map (E.den ex.R ex.r)++[cn]),β:=e0.β,σ:=e0.σ,ω:=e0.ω++uF ex pl sx.fr,R:=e0.R++[u] }:=⟨_,rfl⟩
 have er:e2.r=e0.r++(es.map (E.den ex.R ex.r)++[cn]):=by rw [he2]
 have eβ:e2.β=e0.β:=by rw [he2]
 have eσ:e2.σ=e0.σ:=by rw [he2]
 have eω:e2.ω=e0.ω++uF ex pl sx.fr:=by rw [he2]
 have eR:e2.R=e0.R++[u]:=by rw [he2]
 have hle2:LeA e0 e2:=⟨es.map (E.den ex.R ex.r)++[cn],[],[],uF ex pl sx.fr,[u],by rw [er],by simp [eβ],by simp [eσ],by rw [eω],by rw [eR]⟩
 have hkeep:∀ c,Za6 e0.R.length s.nv s.mem.length c=true→c.den e2=c.den ex:=fun c hc=>by
  rw [← h0.nv,← h0.nb] at hc
  rw [Zlv hle2 hc,Zlv hle hc]
 have hacc:∀ x,y x=true→(SC.go (.a e0.R.length)).den e2=x.den ex:=fun x hyx=>by
  rw [hy x hyx]
  simp only [SC.den,G.val,eR]
  rw [show (e0.R++[u]).getD e0.R.length undef=u by simp [List.getD]]
  exact hu
 have hm:=mM_ok (mm:=e0.R.length) hkeep hacc hM
 have hβ:∀ n,n < s.mem.length→e2.β.getD n 0=ex.β.getD n 0:=fun n hn=>by
  obtain ⟨a,b,c,d,x,h1,h2,h3,h4,h5⟩:=hle
  rw [eβ,h2,Z1l 0 (by rw [h0.nb]; exact hn)]
 have hlt:∀ (n:Nat) (b:Blk),(gM acc e0.R.length 0 s.mem)[n]?=some b→n < s.mem.length:=fun n b hb=>by
  have:=(List.getElem?_eq_some_iff.1 hb).1
  rwa [Zf3] at this
 refine ⟨e2,hle2,er,eR,⟨?_,?_,hx.defs⟩⟩
 ·refine ⟨hx.rep.below,?_,?_,?_,?_,?_,?_,?_,?_,?_,?_,?_,?_,?_⟩
  ·show e2.β.length=(gM acc e0.R.length 0 s.mem).length
   rw [Zf3,eβ]; exact h0.nb
  ·show e2.σ.length=s.rows.length
   rw [eσ]; exact h0.ng
  ·show e2.r.length=s.nv + (nF pl + 1)
   rw [er]; simp only [List.length_append,List.length_map,List.length_cons,List.length_nil,f1,h0.nv]
  ·show e2.ω.length=s.nx + xF pl
   rw [eω,List.length_append,f2,h0.nx]
  ·intro n b hb hl
   obtain ⟨x,hx1,hx2,hx3,hx4⟩:=hm n b hb
   rw [hβ n (hlt n b hb),hx.rep.blk n x hx1 hx2,hx3,hx4]
  ·intro n b hb hl hf
   obtain ⟨x,hx1,hx2,hx3,hx4⟩:=hm n b hb
   rw [hβ n (hlt n b hb)]
   exact hx.rep.own n x hx1 hx2 (by rw [hfl]; exact Nat.zero_le _)
  ·intro n m b c hb hc hl hl' heq
   obtain ⟨x,hx1,hx2,_⟩:=hm n b hb
   obtain ⟨z,hz1,hz2,_⟩:=hm m c hc
   rw [hβ n (hlt n b hb),hβ m (hlt m c hc)] at heq
   exact hx.rep.sep n m x z hx1 hz1 hx2 hz2 heq
  ·intro n b hb
   rw [show (Z17z e0.R.length pl acc s).rows=[] from hrows] at hb
   simp at hb
  ·intro n b hb
   rw [show (Z17z e0.R.length pl acc s).rows=[] from hrows] at hb
   simp at hb
  ·intro n m b c k hb
   rw [show (Z17z e0.R.length pl acc s).rows=[] from hrows] at hb
   simp at hb
  ·intro n m b c hb hc
   rw [show (Z17z e0.R.length pl acc s).rows=[] from hrows] at hc
   simp at hc
  ·exact hgl
  ·intro i ks c hi
   have hi':s.hs[i]?=some (ks,c):=hi
   have hlt':i < e0.R.length:=Nat.lt_of_lt_of_le (List.getElem?_eq_some_iff.1 hi').1 hhs
   have:=harg i ks c hi'
   have hcs:c.sc e0.r.length=true:=by
    simp only [St.sc,Z18r] at hsc
    rw [h0.nv]
    exact List.all_eq_true.1 hsc.2.2 _ (List.mem_of_getElem? hi')
   rw [E.den_A hle2 hcs]
   show SlX W' ks (slV (e2.R.getD i undef)) _
   rw [eR,Z1l undef hlt']
   exact this
 ·rw [hx.tmps]
  congr 1
  refine (f3 e2 s.nv s.nx hkeep (fun t n ht=>?_) (fun t v ht=>?_)).symm
  ·rw [er,← h0.nv]
   simp only [List.getD]
   rw [List.getElem?_append_right (by omega),Nat.add_sub_cancel_left,List.getElem?_append_left (List.getElem?_eq_some_iff.1 ht).1,ht]
   rfl
  ·rw [eω,← h0.nx]
   simp only [List.getD]
   rw [List.getElem?_append_right (by omega),Nat.add_sub_cancel_left,ht]
   rfl
end Go.Sx
namespace Go.Sx
open Go.RowKit
def exF (rs:List Sh) (chk:St→List SV→Bool) (C:List E):St→List SV→Option (List B × List E × (Nat→St × SV)):=fun s args =>
 if chk s args then some ([],[],fun nv=>({ s with nv:=s.nv + Zg rs,rows:=s.rows++Z1v (Z3u rs) C },Zjf Zm9 s.rows.length rs C)) else none
def exS (s:Sum) (chk:St→List SV→Bool) (C:List E) (K:List Int):Sum:={ s with sem:=fun _=>K,pre:=fun _=>True,m:=some (exF s.rs chk C) }
theorem Z14w {P:Program} {s0:Sum} {chk:St→List SV→Bool} {C:List E} {K:List Int} (hok0:s0.ok P) (hK:∀ (R:Fo) (r:List Int),C.map (E.den R r)=K)
  (hchk:∀ (e:Env) (W0:Bas) (s:St) (w:World) (args:List SV),Rep e W0 s w→chk s args=true→∃ xs,Z63 (fun _ ks u n=>SlN w ks u n) s0.ps (args.map (SV.den e)) xs∧s0.pre xs∧s0.sem xs=K):(exS s0 chk C K).okA P:=by
 show (exS s0 chk C K).okM P (exF s0.rs chk C)
 intro W0 e s w args aZ es kk hrep0 hsc hargs hgl hf has hpre
 unfold exF at hf
 split at hf
 ·rename_i hck
  simp only [Option.some.injEq,Prod.mk.injEq] at hf
  obtain ⟨rfl,rfl,rfl⟩:=hf
  obtain ⟨xs,hden,hp0,hsem⟩:=hchk e W0 s w args hrep0 hck
  obtain ⟨_,hok⟩:=hok0
  obtain ⟨hl,hcalls⟩:=hok xs _ w (Zhd hgl hrep0.glw) hden hp0
  rw [hsem] at hl hcalls
  dsimp only [exS] at hcalls ⊢
  refine hcalls.mono fun x w' ⟨v,hx,⟨vs,hv,hres,hap⟩,hb⟩=>?_
  obtain ⟨hrep,hfr,hle⟩:=hrep0.vars hsc K
  have hrep2:=hrep.grown hb
  have hDd:C.map (E.den e.R (e.r++K))=K:=hK _ _
  have hres':Z63 (fun ty ks u n=>Zs w' ty ks u n∧∀ k,Z6 u=some k→w.heap.size≤k) s0.rs vs (C.map (E.den ({ e with r:=e.r++K }:Env).R ({ e with r:=e.r++K }:Env).r)):=by
   show Z63 _ s0.rs vs (C.map (E.den e.R (e.r++K)))
   rw [hDd]
   exact hres
  obtain ⟨r1,r2⟩:=Z2d hres'
  have hslice:∀ {ty ks u n},Zs w' ty ks u n→∃ a l c,u=.slice a l c:=by
   intro ty ks u n hr
   rcases hr with ⟨_,b,h2⟩ | ⟨_,_,h2⟩
   ·exact ⟨_,_,_,h2⟩
   ·rcases h2.2 with ⟨h3,_⟩ | ⟨g,cap,cur,h3,_⟩
    ·exact ⟨_,_,_,h3⟩
    ·exact ⟨_,_,_,h3⟩
  have hscp:({ s with nv:=s.nv + K.length }:St).scp=true:=(St.sc_scp hsc:s.scp=true)
  obtain ⟨hrep3,hlike⟩:=hrep2.addRows hscp (rows:=Z1v (Z3u s0.rs) C) (vals:=Z9 s0.rs vs) r1
   (fun j b u hj hu _=>⟨hslice (r2 j b u hj hu).1,(r2 j b u hj hu).1⟩)
   (fun j b u k hj hu _ hk=>by
    have hge:=(r2 j b u hj hu).2 k hk
    refine ⟨.inl (Nat.le_trans hrep0.below.size hge),fun n c hc hlc heq=>?_,fun n c hc hlc heq=>?_⟩
    ·have:=Z1g (hrep0.blk n c hc hlc)
     have heq':e.β.getD n 0=k:=heq
     omega
    ·have:=(hrep0.row n c hc hlc).blk_lt heq
     omega)
   (Z5h hap)
  rw [hl] at hrep3
  have hle2:Env.le e { e with r:=e.r++K,σ:=e.σ++Z9 s0.rs vs }:=⟨K,[],Z9 s0.rs vs,[],by simp⟩
  have hresv:(Zjf Zm9 s.rows.length s0.rs C).den { e with r:=e.r++K,σ:=e.σ++Z9 s0.rs vs }=v:=by
   rw [hv]
   refine Zhe (e:={ e with r:=e.r++K,σ:=e.σ++Z9 s0.rs vs }) hres' fun j u hj=>?_
   obtain ⟨b,hb'⟩:∃ b,(Z1v (Z3u s0.rs) C)[j]?=some b:=⟨_,List.getElem?_eq_getElem (by rw [← r1]; exact (List.getElem?_eq_some_iff.1 hj).1)⟩
   obtain ⟨aa,ll,cc,hsl⟩:=hslice (r2 j b u hb' hj).1
   simp only [Zm9,SC.den,G.val]
   have:(e.σ++Z9 s0.rs vs).getD (s.rows.length + j) undef=u:=by
    simp only [List.getD]
    rw [List.getElem?_append_right (by rw [hrep0.ng]; omega),hrep0.ng,show s.rows.length + j - s.rows.length=j by omega,hj]
    rfl
   rw [this,hsl]
   rfl
  refine ⟨_,?_,hle2,rfl,hrep3,rfl,rfl,rfl,rfl⟩
  rw [hx,← hresv]
 ·cases hf
def okSl (s:St) (ks:List K) (c:SC) (x:E):Bool:=match Zct s ks c with
 | some ([],y)=>y.same x
 | _=>false
theorem Za7 {e:Env} {W0:Bas} {s:St} {w:World} (h:Rep e W0 s w) {ks:List K} {c:SC} {x:E} (hc:okSl s ks c x=true):SlN w ks (c.den e) (x.den e.R e.r):=by
 unfold okSl at hc
 split at hc
 ·rename_i y hs
  have:=Zk1 h hs (fun b hb=>by cases hb)
  rwa [E.same_eq _ _ hc] at this
 ·cases hc
theorem Z2b.dec {w:World} {X:Nat→Prop} {ty:TypeId} {ks:List K} {v:Value} {c d:Int} (h:Z2b w X (.s ty ks) v c) (hd:dec d=dec c):Z2b w X (.s ty ks) v d:=by
 rw [Z2b] at h ⊢
 unfold Z5a at *
 rw [hd]
 exact h
theorem Zr8 {w:World} {ty:TypeId} {ks:List K} {u:Value} {c:Int} (h:SlN w ks u c):∃ n,hdV n=u∧dec (ctN n)=dec c∧Z2b w (fun _=>False) (.s ty ks) (hdV n) (ctN n):=by
 have h':Z2b w (fun _=>False) (.s ty ks) u c:=by
  unfold SlN at h
  rw [Z2b] at h ⊢
  exact h
 rcases h'.base.1 with ⟨⟨a,h1⟩,h2⟩ | ⟨b,off,cap,h1,h2,_⟩
 ·have key:∀ n,hdV n=u→Go.Sx.dec (ctN n)=[]→∃ n,hdV n=u∧Go.Sx.dec (ctN n)=Go.Sx.dec c∧Z2b w (fun _=>False) (.s ty ks) (hdV n) (ctN n):=fun n e1 e2 =>
   ⟨n,e1,by rw [e2,h2],by rw [e1]; exact h'.dec (by rw [e2,h2])⟩
  cases a with
  | none=>exact key 0 (by rw [Z94,h1]) (by rw [Zh8,Z2o])
  | some a =>
   obtain ⟨b,off,sp⟩:=a
   cases sp with
   | none =>
    refine key (cod [(b:Int),(off:Int),0,0,cod []]) ?_ ?_
    ·unfold hdV
     rw [Z4,h1]
     simp
    ·unfold ctN
     rw [Z4]
     exact Z4 []
   | some sp =>
    refine key (cod [(b:Int),(off:Int),0,0,cod [],(sp:Int)]) ?_ ?_
    ·unfold hdV
     rw [Z4,h1]
     simp
    ·unfold ctN
     rw [Z4]
     exact Z4 []
 ·have hn:hdV (cod [(b:Int),(off:Int),((Go.Sx.dec c).length:Int),(cap:Int),c])=u:=by
   unfold hdV
   rw [Z4]
   simp only
   rw [if_pos (by omega),h1]
   simp
  have hct:ctN (cod [(b:Int),(off:Int),((Go.Sx.dec c).length:Int),(cap:Int),c])=c:=by
   unfold ctN
   rw [Z4]
   rfl
  exact ⟨_,hn,by rw [hct],by rw [hn,hct]; exact h'⟩
def Z180 (s:St) (t0 t1 t2:TypeId) (k0 k1 k2 kr:List K) (c:SC) (x0 x1 x2:E) (r:List E):Bool:=match c with
 | .s m 0 1 cap=>(match s.mem[m]? with
  | some b=>b.live && decide (1≤cap) && decide (cap≤1000000) && (match b.cells with
   | c0::c1::c2::cr=>okSl s k0 c0 x0 && (okSl s k1 c1 x1 && (okSl s k2 c2 x2 && (match Z2j kr cr with
    | some es=>Zbb es r
    | none=>false)))
   | _=>false)
  | none=>false)
 | _=>false
theorem Ztg {e:Env} {W0:Bas} {s:St} {w:World} (h:Rep e W0 s w) {t0 t1 t2:TypeId} {k0 k1 k2 kr:List K} {c:SC} {x0 x1 x2:E} {r:List E} (hp:∀ xs,Z5d w (fun _=>False) kr xs) (hc:Z180 s t0 t1 t2 k0 k1 k2 kr c x0 x1 x2 r=true) :
  ∃ n0 n1 n2,dec (ctN n0)=dec (x0.den e.R e.r)∧dec (ctN n1)=dec (x1.den e.R e.r)∧dec (ctN n2)=dec (x2.den e.R e.r)∧SlN w (.s t0 k0::.s t1 k1::.s t2 k2::kr) (c.den e) (cod [cod (n0::n1::n2::r.map (E.den e.R e.r))]):=by
 unfold Z180 at hc
 split at hc
 ·rename_i m cap
  split at hc
  ·rename_i b hb
   simp only [Z18r,Z18s] at hc
   obtain ⟨⟨⟨hl,hcap1⟩,hcap⟩,hc⟩:=hc
   split at hc
   ·rename_i c0 c1 c2 cr hcells
    simp only [Z18r] at hc
    obtain ⟨h0,h1,h2,h3⟩:=hc
    split at h3
    ·rename_i es hfl
     have hes:=Z9d h3
     subst hes
     obtain ⟨hlen,hden⟩:=Z2p (e:=e) hfl
     obtain ⟨n0,a0,b0,d0⟩:=Zr8 (ty:=t0) (Za7 h h0)
     obtain ⟨n1,a1,b1,d1⟩:=Zr8 (ty:=t1) (Za7 h h1)
     obtain ⟨n2,a2,b2,d2⟩:=Zr8 (ty:=t2) (Za7 h h2)
     refine ⟨n0,n1,n2,b0,b1,b2,?_⟩
     have hel:elt (.s t0 k0::.s t1 k1::.s t2 k2::kr) (cod (n0::n1::n2::es.map (E.den e.R e.r)))=n0::n1::n2::es.map (E.den e.R e.r):=by
      unfold elt
      rw [if_neg (by simp),Z4]
     have hbl:=h.blk m b hb hl
     unfold SlN
     rw [Z2b]
     refine ⟨⟨.inr ⟨e.β.getD m 0,0,cap,?_,?_,?_,?_,?_⟩,fun _ _ _ hh=>hh⟩,?_⟩
     ·rw [Z4]; rfl
     ·rw [Z4]; exact hcap1
     ·simp only [maxLen]; omega
     ·rw [Z4]
      intro x hx
      rw [List.mem_singleton.1 hx,hel]
      simp only [List.length_cons,List.length_map,hlen]
     ·rw [Z4]
      intro j u hj
      unfold Zb at hj
      rw [List.flatMap_cons,List.flatMap_nil,List.append_nil,hel] at hj
      simp only [Z7,K.mk,a0,a1,a2] at hj
      rw [← hden] at hj
      have hcs:(c0.den e::c1.den e::c2.den e::cr.map (SC.den e))=b.cells.map (SC.den e):=by rw [hcells]; rfl
      rw [hcs] at hj
      unfold World.cell?
      simp only [hbl]
      rw [if_neg (by decide)]
      rw [Nat.zero_add]
      simpa using hj
     ·rw [Z4]
      intro x hx
      rw [List.mem_singleton.1 hx,hel]
      simp only [Z5d]
      exact ⟨d0,d1,d2,hp _⟩
    ·cases h3
   ·cases hc
  ·cases hc
 ·cases hc
end Go.Sx
namespace Go.Sx
open Go.RowKit
abbrev RbF:=St→List SV→Option (List E × (Nat→St × SV))
section
variable (P:Program) (Γ:List Sum) (ih:Code→St→Z80→T) (n g:Nat) (fS:FuncId) (f:RbF)
def Z14x (s:St) (o:Oper):Option (List SV):=match o.op with
 | .call c=>(match c.callee with
  | .value F=>(match s.ev F with
   | .w (.o (.f fn []))=>if decide (fn=fS) then some (c.args.toList.map s.ev) else none
   | _=>none)
  | _=>none)
 | _=>none
def rbT (ops:Array Oper):List Oper→St→(St→T)→T
 | [],s,k=>k s
 | o::l,s,k=>if o.guard.isNone then (match Z14x fS s o with
  | some args=>if Z5e P fS && (s.sc && args.all (SV.sc s.nv s.mem.length s.rows.length s.nx)) then (match f s args with
   | some (es,kk)=>.any n g es (Z3g P Γ ih ops l ((kk s.nv).1.put o.dst (kk s.nv).2) k)
   | none=>.fail) else .fail
  | none=>if (Z88 o).isNone then opT P Γ ih o s fun s'=>rbT ops l s' k else .fail) else .fail
end
def RbM (P:Program) (Γ:List Sum) (n g m0:Nat) (fS:FuncId) (f:RbF):Prop :=
  ∀ (W0:Bas) (e:Env) (s:St) (w:World) (args:List SV) (es:List E) (kk:Nat→St × SV) (sm:Sum),Rep e W0 s w→s.sc=true→args.all (SV.sc s.nv s.mem.length s.rows.length s.nx)=true→e.R.length=m0 →
    f s args=some (es,kk)→Γ[g]?=some sm→sm.pre (es.map (E.den e.R e.r)) →
    Calls P fS (args.map (SV.den e)).toArray w fun x w'=>∃ (ys:List Int) (e':Env) (W1:Bas),ys.length=n∧Zcs Γ g (es.map (E.den e.R e.r)++ys)∧x=.returned ((kk s.nv).2.den e')∧e'.r=e.r++ys ∧
      Rep e' W1 (kk s.nv).1 w'∧(kk s.nv).1.fr=s.fr∧s.fr.map (SV.den e')=s.fr.map (SV.den e)∧(kk s.nv).1.dp=s.dp∧Zm W0 W1.w∧∀ i,W1.may i→W0.may i
section
variable {P:Program} {Γ:List Sum} {Ψ:List Int→Prop} {n g m0:Nat} {fS:FuncId} {f:RbF}
def Fz (Γ:List Sum) (Ψ:List Int→Prop) (W0:Bas) (k:St→T) (a:Act) (w:World):Prop :=
 ∃ s' e' W1 bs',Rel e' W1 s' a w∧s'.dp=List.length bs'∧(k s').sat Γ e'.R Ψ bs' e'.r∧Zm W0 W1.w∧∀ i,W1.may i→W0.may i
theorem Zlw (hG:Gok P Γ) (hM:RbM P Γ n g m0 fS f) {ih:Code→St→Z80→T} (hih:IH P Γ ih) {W0:Bas} {ops:Array Oper} {k:St→T} {Q:Exit→Act→World→Prop}:∀ (l:List Oper) (s:St) (bs:List (List Int→Prop)) (e:Env) (a:Act) (w:World),Rel e W0 s a w→s.dp=bs.length→e.R.length=m0 →
  (rbT P Γ ih n g fS f ops l s k).sat Γ e.R Ψ bs e.r→(∀ a' w',Fz Γ Ψ W0 k a' w'→Q .normal a' w')→wpList P ops Q l a w
 | [],s,bs,e,a,w,h,hdp,hR,hs,hQ=>hQ a w ⟨s,e,W0,bs,h,hdp,hs,Zm.refl _,fun _ h=>h⟩
 | o::l,s,bs,e,a,w,h,hdp,hR,hs,hQ=>by
  simp only [rbT] at hs
  split at hs
  case isFalse=>exact hs.elim
  rename_i hgd
  have hgd:o.guard=none:=by simpa using hgd
  split at hs
  ·rename_i args hargs
   unfold Z14x at hargs
   split at hargs
   case h_2=>cases hargs
   rename_i c ho
   split at hargs
   case h_2=>cases hargs
   rename_i F hcal
   split at hargs
   case h_2=>cases hargs
   rename_i fn hF
   split at hargs
   case isFalse=>cases hargs
   rename_i hfn
   simp only [Z18s] at hfn
   subst hfn
   simp only [Option.some.injEq] at hargs
   split at hs
   case isFalse=>exact hs.elim
   rename_i hc
   simp only [Z18r] at hc
   obtain ⟨hcl,hsc,hasc⟩:=hc
   split at hs
   case h_2=>exact hs.elim
   rename_i es kk hf
   simp only [T.sat] at hs
   split at hs
   case h_2=>exact hs.elim
   rename_i sm hsm
   obtain ⟨hpre,hs⟩:=hs
   refine wpList_plain hgd fun K hK=>?_
   have hevF:a.eval F=.func (.func fn) #[] #[]:=by
    rw [h.eval F,hF]
    simp [SV.den,SW.den,SC.den]
   have hrun:=Zd6 hcl ho hcal hevF w
   have hargs':c.args.map a.eval++#[]=(args.map (SV.den e)).toArray:=by
    apply Array.ext'
    rw [← hargs]
    simp only [Array.append_empty,Array.toList_map,List.map_map]
    exact List.map_congr_left fun x _=>h.eval x
   rw [hargs'] at hrun
   unfold Oper.wp
   rw [hrun]
   simp only [Oper.upon_enter]
   refine (hM W0 e s w args es kk sm h.rep hsc hasc hR hf hsm hpre).mono ?_
   rintro x w' ⟨ys,e',W1,hyl,hrel,rfl,hr,hrep,hfr,hden,hdp',hb,hm⟩
   have hrl:Rel e' W1 (kk s.nv).1 a w':=⟨hrep,by rw [h.tmps,hfr,hden],h.defs⟩
   have hput:=hrl.put o.dst (kk s.nv).2
   have hs2:=hs ys hyl hrel
   rw [← hr,T.sat_R e.R e'.R] at hs2
   refine hK _ _ (Z3o hG hih l _ k bs e' _ w' hput ((Z4v _ _ _).trans (hdp'.trans hdp)) hs2 ?_)
   rintro a' w2 ⟨s',e2,more,hle,hrel',_,_,hd',hsat'⟩
   exact hQ a' w2 ⟨s',e2,W1,bs++more,hrel',hd',hsat',hb,hm⟩
  ·split at hs
   case isFalse=>exact hs.elim
   refine wpList_plain hgd fun K hK=>?_
   refine Oper.wp_mono' (Z6l hG hih h hdp hs) ?_
   rintro a3 w3 ⟨s3,e3,more,hle,hrel,hf,hfr,hd,hsat⟩
   refine hK _ _ (Zlw hG hM hih l s3 (bs++more) e3 a3 w3 hrel hd ?_ hsat hQ)
   obtain ⟨_,_,_,_,_,_,_,_,hR3⟩:=hle
   rw [hR3]
   exact hR
end
def Z181 (id0:Nat) (rt:Array Oper→List Oper→St→(St→T)→T) (ex:Code→St→Z80→T):Code→List Code→St→Z80→T
 | .seq x y,rest,s,k=>if Z12v id0 x then Z181 id0 rt ex x (y::rest) s k else ex x s fun o s'=>match o with
  | .norm=>if Z12v id0 y then Z181 id0 rt ex y rest s' k else ex (seqs (y::rest)) s' k
  | o=>k o s'
 | .region id ops d,rest,s,k=>if id == id0 && !d then rt ops ops.toList s fun s'=>ex (seqs rest) s' k else .fail
 | _,_,_,_=>.fail
section
variable {P:Program} {Γ:List Sum} {Ψ:List Int→Prop} {n g m0:Nat} {fS:FuncId} {f:RbF}
theorem Zlx:∀ (l:List Code) {Q Q':Exit→Act→World→Prop},(∀ x a w,Q x a w→Q' x a w)→∀ x a w,Z14b P l Q x a w→Z14b P l Q' x a w:=by
 intro l
 induction l with
 | nil=>intro Q Q' hQ x a w h; exact hQ x a w h
 | cons y r ih =>
  intro Q Q' hQ x a w h
  have h1:=ih hQ
  cases x with
  | normal=>exact wp_mono h h1
  | _=>exact h1 _ _ _ h
theorem Zth (hG:Gok P Γ) (hM:RbM P Γ n g m0 fS f) {id0:Nat} {ex:Code→St→Z80→T} (hih:IH P Γ ex) {F:Func} {rs:List Sh} {w0:World} :
    ∀ (c:Code) (rest:List Code) (s:St) (bs:List (List Int→Prop)) (e:Env) (a:Act) (w:World),Rel e ⟨w0,fun _=>False⟩ s a w→s.dp=bs.length→e.R.length=m0→(Z181 id0 (rbT P Γ ex n g fS f) ex c rest s (Zjk P F rs)).sat Γ e.R Ψ bs e.r →
      c.wp P (Z14b P rest (bodyPost P F (RgR Ψ w0 rs))) a w:=by
  have hfin:∀ {out:Out} {s':St} {bs:List (List Int→Prop)} {e:Env} {W1:Bas} {a:Act} {w:World},Rel e W1 s' a w→Zm ⟨w0,fun _=>False⟩ W1.w→(∀ i,W1.may i→(Bas.mk w0 fun _=>False).may i)→(Zjk P F rs out s').sat Γ e.R Ψ bs e.r→bodyPost P F (RgR Ψ w0 rs) out.exitOf a w:=by
    intro out s' bs e W1 a w h hb hm hs
    obtain ⟨hne,ys,v,h1,h2,h3⟩:=Zka h hs
    have hR:RgR Ψ w0 rs (.returned v) w:=⟨ys,v,rfl,h1,Z8x.up (fun k hk=>Zwq k (hm k hk)) h2,(hb.trans h.rep.below hm).below⟩
    cases out with
    | norm=>exact ⟨h.defs,_,h3,hR⟩
    | exit id=>exact absurd rfl (hne id)
    | ret=>exact ⟨h.defs,_,h3,hR⟩
  have px:∀ {bs:List (List Int→Prop)} {e:Env} {W1:Bas} {fl flr:Nat} {x:Exit} {a:Act} {w:World},Zm ⟨w0,fun _=>False⟩ W1.w→(∀ i,W1.may i→(Bas.mk w0 fun _=>False).may i)→Px Γ Ψ bs W1 e fl flr (Zjk P F rs) x a w→bodyPost P F (RgR Ψ w0 rs) x a w:=by
    rintro bs e W1 fl flr x a w hb hm ⟨out,s',e',more,rfl,hle,hrel,hf,hfr,hd,hsat⟩
    exact hfin hrel hb hm hsat
  intro c
  induction c with
  | seq x y ihx ihy =>
    intro rest s bs e a w h hdp hR hs
    simp only [Z181] at hs
    split at hs
    · exact wp_seq (ihx (y::rest) s bs e a w h hdp hR hs)
    · refine wp_seq (wp_mono (Zfv x (hih x s _ _ Ψ bs e a w h hdp hs)) ?_)
      rintro ex' a' w' ⟨out,s',e',more,rfl,hle,hrel,hf,hfr,hd,hsat⟩
      have hR':e'.R.length=m0:=by
        obtain ⟨_,_,_,_,_,_,_,_,hR3⟩:=hle
        rw [hR3]
        exact hR
      cases out with
      | norm =>
        dsimp only at hsat
        split at hsat
        · exact ihy rest s' (bs++more) e' a' w' hrel hd hR' hsat
        · have:=Znz (y::rest) (hih (seqs (y::rest)) s' _ _ Ψ (bs++more) e' a' w' hrel hd hsat)
          exact Zlx (y::rest) (fun x a w hh=>px (Zm.refl _) (fun _ h=>h) hh) _ _ _ this
      | exit id=>exact Zcb (x:=.exit id) (by intro hh; cases hh) (hfin (out:=.exit id) hrel (Zm.refl _) (fun _ h=>h) hsat) rest
      | ret=>exact Zcb (x:=.ret) (by intro hh; cases hh) (hfin (out:=.ret) hrel (Zm.refl _) (fun _ h=>h) hsat) rest
  | region id ops d =>
    intro rest s bs e a w h hdp hR hs
    simp only [Z181] at hs
    split at hs
    · rename_i hc
      simp only [Z18r,Bool.not_eq_true'] at hc
      obtain ⟨_,rfl⟩:=hc
      refine Zfv _ (Zbu (Zlw hG hM hih ops.toList s bs e a w h hdp hR hs ?_))
      rintro a' w' ⟨s',e',W1,bs',hrel,hd,hsat,hb,hm⟩
      have:=Znz rest (hih (seqs rest) s' _ W1 Ψ bs' e' a' w' hrel hd hsat)
      exact Zlx rest (fun x a w hh=>px hb hm hh) _ _ _ this
    · exact hs.elim
  | _=>intro rest s bs e a w h hdp hR hs; simp only [Z181] at hs; exact hs.elim
end
def Z12y (P:Program) (lp:St→Code→Option Zai) (gl:List (Nat × List Int)) (Γ:List Sum) (id0 n g:Nat) (fS:FuncId) (f:RbF) (fuel:Nat) (fn:FuncId) (ps rs:List Sh):T:=match P.funcs[fn]? with
 | some F=>match F.body with
  | some body=>Z181 id0 (rbT P Γ (Zfq P lp Γ fuel) n g fS f) (Zfq P lp Γ fuel) body [] ⟨Z6f ps F.ntmps,[],[],Zg ps,0,0,0,gl,hsE (Z3u ps) (Z8 0 (Zg ps)),0⟩ (Zjk P F rs)
  | none=>.fail
 | none=>.fail
section
variable {P:Program} {Γ:List Sum} {Ψ:List Int→Prop} {n g m0:Nat} {fS:FuncId} {f:RbF}
theorem Zoe (hm:P.follows .mixedOrders=true) (hG:Gok P Γ) (hM:RbM P Γ n g m0 fS f) {id0:Nat} {lp:St→Code→Option Zai} {gl:List (Nat × List Int)} {fuel:Nat} {fn:FuncId} {ps rs:List Sh} {xs:List Int} {vs:List Value} (w:World) (hx:Z63 (fun _ ks u n=>SlN w ks u n) ps vs xs)
  (hm0:(Z1v (Z3u ps) (Z8 0 (Zg ps))).length=m0) (hs:(Z12y P lp gl Γ id0 n g fS f fuel fn ps rs).sat Γ [] Ψ [] xs) (hgl:Zm8 gl w) :
  Calls P fn vs.toArray w fun x w'=>∃ ys v,x=.returned v∧Ψ ys∧Z8x (fun k=>w.heap.size≤k) w' rs v ys∧Below w.heap.size w w':=by
 unfold Z12y at hs
 split at hs
 ·rename_i F hF
  split at hs
  ·rename_i body hb
   have hxl:=hx.len.1
   have hv:(Z8 0 (Zg ps)).map (E.den (Z9 ps vs) xs)=xs:=by
    have:=Z2f (R:=Z9 ps vs) (r:=[]) hxl
    simpa using this
   have hx':Z63 (fun _ ks u n=>SlN w ks u n) ps vs ((Z8 0 (Zg ps)).map (E.den (⟨xs,[],[],[],Z9 ps vs⟩:Env).R (⟨xs,[],[],[],Z9 ps vs⟩:Env).r)):=by
    show Z63 _ ps vs ((Z8 0 (Zg ps)).map (E.den (Z9 ps vs) xs))
    rw [hv]; exact hx
   obtain ⟨r1,r2⟩:=Z2d hx'
   have hsl:∀ (j:Nat) (u:Value),(Z9 ps vs)[j]?=some u→∃ a l cp,u=.slice a l cp:=fun j u hj=>by
    obtain ⟨b,hb'⟩:∃ b,(Z1v (Z3u ps) (Z8 0 (Zg ps)))[j]?=some b:=⟨_,List.getElem?_eq_getElem (by rw [← r1]; exact (List.getElem?_eq_some_iff.1 hj).1)⟩
    exact (r2 j b u hb' hj).now.slice
   have hden:((Zcv Zos 0 ps (Z8 0 (Zg ps))).map SV.w).map (SV.den ⟨xs,[],[],[],Z9 ps vs⟩)=vs:=by
    rw [List.map_map]
    refine Z99 (e:=⟨xs,[],[],[],Z9 ps vs⟩) hx' fun j u hj=>?_
    simp only [Zos,SC.den,G.val,Nat.zero_add,List.getD,hj,Option.getD_some]
    exact Zdm (hsl j u hj)
   have hrep:Rep ⟨xs,[],[],[],Z9 ps vs⟩ ⟨w,fun _=>False⟩ ⟨Z6f ps F.ntmps,[],[],Zg ps,0,0,0,gl,hsE (Z3u ps) (Z8 0 (Zg ps)),0⟩ w:=by
    refine ⟨Zm.refl _,rfl,rfl,hxl,rfl,?_,?_,?_,?_,?_,?_,?_,⟨hgl,fun _ _ _ hh=>hh⟩,?_⟩
    ·intro n b hb; simp at hb
    ·intro n b hb; simp at hb
    ·intro n m b c hb; simp at hb
    ·intro n b hb; simp at hb
    ·intro n b hb; simp at hb
    ·intro n m b c k hb; simp at hb
    ·intro n m b c hb; simp at hb
    ·intro i ks c hi
     obtain ⟨ty,hr⟩:=Z7l hi
     have hlt:i < (Z9 ps vs).length:=by rw [r1]; exact (List.getElem?_eq_some_iff.1 hr).1
     have hu:(Z9 ps vs)[i]?=some (Z9 ps vs)[i]:=List.getElem?_eq_getElem hlt
     have:=r2 i _ _ hr hu
     show SlN w ks (slV ((Z9 ps vs).getD i undef)) _
     rw [show (Z9 ps vs).getD i undef=(Z9 ps vs)[i] by simp [List.getD,hu],Zdm (hsl i _ hu)]
     exact this
   rw [T.sat_R [] (Z9 ps vs)] at hs
   have hrel:Rel ⟨xs,[],[],[],Z9 ps vs⟩ ⟨w,fun _=>False⟩ ⟨Z6f ps F.ntmps,[],[],Zg ps,0,0,0,gl,hsE (Z3u ps) (Z8 0 (Zg ps)),0⟩ { tmps:=vs.toArray++Array.replicate (F.ntmps - vs.toArray.size) undef,defers:=[] } w:=by
    refine ⟨hrep,?_,rfl⟩
    apply Array.ext'
    have hl:((Zcv Zos 0 ps (Z8 0 (Zg ps))).map SV.w).length=vs.length:=by rw [← hden]; simp
    rw [Array.toList_append,List.toList_toArray]
    show vs++(Array.replicate (F.ntmps - vs.toArray.size) undef).toList=((((Zcv Zos 0 ps (Z8 0 (Zg ps))).map SV.w)++List.replicate (F.ntmps - ((Zcv Zos 0 ps (Z8 0 (Zg ps))).map SV.w).length) Z5).map (SV.den ⟨xs,[],[],[],Z9 ps vs⟩))
    rw [List.map_append,hden,hl]
    simp [Z7f]
   exact calls_of_wp hF hb (Zth hG hM (Z7k hm (lp:=lp) hG fuel) body [] _ [] _ _ w hrel rfl (r1.trans hm0) hs)
  ·exact hs.elim
 ·exact hs.elim
theorem lawG (hm:P.follows .mixedOrders=true) (hG:Gok P Γ) (hM:RbM P Γ n g m0 fS f) {id0:Nat} {lp:St→Code→Option Zai} {lv:List (Nat × List (Option Iv))} {gl:List (Nat × List Int)} {fuel:Nat} {fn:FuncId} {ps:List Sh} {outs:List Inf} {vs:List (Option Iv)} {t:TX} (ho:Zr Γ outs)
  (ht:Z17 (Zu lv outs [] vs (Z12y P lp gl Γ id0 n g fS f fuel fn ps [Bo]))=t) {xs:List Int} {us:List Value} (w:World) (hx:Z63 (fun _ ks u n=>SlN w ks u n) ps us xs) (hm0:(Z1v (Z3u ps) (Z8 0 (Zg ps))).length=m0)
  (hv:Zq vs xs) (hs:t.sat Γ [] (fun ys=>ys=[1]) [] xs) (hgl:Zm8 gl w) :
  Calls P fn us.toArray w fun e w'=>e=.returned (.bool true)∧Below w.heap.size w w':=by
 subst ht
 refine (Zoe hm hG hM w hx hm0 (Z8m ho _ [] vs [] xs Z8n hv (Ze4 _ _ _ hs)) hgl).mono ?_
 rintro e w' ⟨ys,v,rfl,rfl,hv,hb⟩
 exact ⟨by rw [Zam (by rfl) hv]; rfl,hb⟩
end
end Go.Sx
namespace Go.Sx
open Go.RowKit
theorem E.sc_up {n n':Nat} (h:n≤n'):∀ a:E,a.sc n=true→a.sc n'=true:=by
 intro a
 induction a <;> simp only [E.sc,Z18r,Z18s] <;> intro h1
 case v i=>omega
 all_goals simp_all
def Z12z:Value→Bool
 | .slice none 0 0=>true
 | _=>false
theorem Zr9 {v:Value} (h:Z12z v=true):v=.slice none 0 0:=by
 unfold Z12z at h
 split at h
 ·rfl
 ·cases h
def dK (s:St) (k:K) (c:SC):Option (E × Bool × List Nat):=match k with
 | .s ty kr=>(match c with
  | .go (.o n)=>(match s.rows[n]? with
   | some b=>if b.live && Z39 b.ks kr then some (b.c,true,[n]) else none
   | none=>none)
  | .go (.e g ix j x)=>(match Z2v s (.e g ix j x) with
   | some (kr',_)=>if Z4d kr' kr then some (x,false,[]) else none
   | none=>none)
  | .l v=>if Z12z v then some (.c 0,false,[]) else none
  | _=>none)
 | k=>(match Z2j [k] [c] with
  | some [e]=>some (e,false,[])
  | _=>none)
def Zof (s:St):List K→List SC→Option (List E × List Bool × List Nat)
 | [],[]=>some ([],[],[])
 | k::ks,c::cs=>match dK s k c,Zof s ks cs with
  | some (e,o,u),some (es,os,us)=>some (e::es,o::os,u++us)
  | _,_=>none
 | _,_=>none
def zOK:List Bool→List Int→List Int→Prop
 | [],[],[]=>True
 | o::ow,e::es,z::zs=>(if o=true then dec (ctN z)=dec e else z=e)∧zOK ow es zs
 | _,_,_=>False
def Za8 (ow:List Bool) (aZ:List Int):Prop:=∃ c es x zs,aZ=c::(es++[x])∧dec x=dec c++[cod zs]∧zOK ow es zs
theorem Z70 {w w':World} {X X':Nat→Prop} (hw:∀ ks v c,Z5a w ks v c→(Zb ks (dec c) ≠ []→∀ k,slBlk v=some k→¬ X k)→Z5a w' ks v c∧(Zb ks (dec c) ≠ []→∀ k,slBlk v=some k→¬ X' k)) {k:K} {v:Value} {c:Int} (h:Z2b w X k v c):Z2b w' X' k v c:=Z2b.imp hw _ _ _ h
theorem Zs.slBlk {w:World} {ty:TypeId} {ks:List K} {v:Value} {c:Int} (h:Zs w ty ks v c) (hne:Zb ks (dec c) ≠ []) {k:Nat} (hk:slBlk v=some k):Z6 v=some k:=by
 have hd:dec c ≠ []:=by
  intro h0
  rw [h0] at hne
  exact hne rfl
 obtain ⟨g,cap,cur,h1,h2,_⟩:=h.block hd
 rw [h1] at hk
 simp only [Go.Sx.slBlk,Option.some.injEq] at hk
 rw [h2,hk]
theorem dK_ok {e:Env} {W:Bas} {s:St} {w:World} (h:Rep e W s w) {k:K} {c:SC} {x:E} {o:Bool} {us:List Nat} (hd:dK s k c=some (x,o,us)) :
    ∃ z,(if o=true then dec (ctN z)=dec (x.den e.R e.r) else z=x.den e.R e.r)∧c.den e=k.mk z∧∀ (w':World) (X2:Nat→Prop),(∀ k v c,Z2b W.w W.X k v c→Z2b w' X2 k v c) →
      (∀ n b,n ∈ us→s.rows[n]?=some b→b.live=true→Zs w' b.ty b.ks ((G.o n).val e) (b.c.den e.R e.r)∧∀ k,Z6 ((G.o n).val e)=some k→¬ X2 k)→Z2b w' X2 k (hdV z) (ctN z):=by
  cases k with
  | s ty kr =>
    simp only [dK] at hd
    split at hd
    · rename_i n
      split at hd
      · rename_i b hb
        split at hd
        · rename_i hc
          simp only [Z18r] at hc
          simp only [Option.some.injEq,Prod.mk.injEq] at hd
          obtain ⟨rfl,rfl,rfl⟩:=hd
          have hk:=Z26 hc.2
          have hpl:=(Z5g hc.2).1
          have hrow:=h.row n b hb hc.1
          obtain ⟨z,z1,z2,_⟩:=Zr8 (ty:=ty) (Z5a.toN hpl hrow.sl)
          refine ⟨z,by rw [if_pos rfl]; exact z2,z1.symm,fun w' X2 hm ho=>?_⟩
          obtain ⟨r1,r2⟩:=ho n b (List.mem_singleton_self _) hb hc.1
          rw [← hk]
          refine Z2b.dec (c:=b.c.den e.R e.r) ?_ z2
          rw [z1,Z2b]
          exact ⟨⟨r1.sl,fun hne k hk=>r2 k (r1.slBlk hne hk)⟩,fun _ _=>Z5d.plain hpl⟩
        · cases hd
      · cases hd
    · rename_i g ix j y
      split at hd
      · rename_i kr' cc hg
        split at hd
        · rename_i hk
          simp only [Option.some.injEq,Prod.mk.injEq] at hd
          obtain ⟨rfl,rfl,rfl⟩:=hd
          have hX:=h.greadX (g:=.e g ix j y) rfl hg
          have hk':=Z3n hk
          subst hk'
          refine ⟨y.den e.R e.r,by rw [if_neg (by decide)],rfl,fun w' X2 hm ho=>?_⟩
          have hcc:cc=Zzn y (.c 4):=by
            simp only [Z2v] at hg
            split at hg
            · cases hg
            · split at hg
              · split at hg
                · split at hg
                  · simp only [Option.some.injEq,Prod.mk.injEq] at hg
                    exact hg.2.symm
                  · cases hg
                · cases hg
              · cases hg
          have hcd:cc.den e.R e.r=ctN (y.den e.R e.r):=by rw [hcc,Z91]; rfl
          rw [hcd] at hX
          have:=hm (.s 0 kr') _ _ hX
          rw [Z2b] at this ⊢
          exact this
        · cases hd
      · cases hd
    · split at hd
      · rename_i v hv
        simp only [Option.some.injEq,Prod.mk.injEq] at hd
        obtain ⟨rfl,rfl,rfl⟩:=hd
        refine ⟨0,by rw [if_neg (by decide)]; rfl,?_,fun w' X2 hm ho=>?_⟩
        · show v=hdV 0
          rw [Z94]
          exact Zr9 hv
        · have:=Zoz (b:=⟨w',X2⟩) (ks:=kr)
          unfold SlX at this
          rw [Z2b] at this ⊢
          exact this
      · cases hd
    · cases hd
  | i kk =>
    simp only [dK] at hd
    split at hd
    · rename_i y hf
      simp only [Option.some.injEq,Prod.mk.injEq] at hd
      obtain ⟨rfl,rfl,rfl⟩:=hd
      obtain ⟨_,h2⟩:=Z2p (e:=e) hf
      simp only [Z18k,Z18l,Z7,List.cons.injEq,and_true] at h2
      exact ⟨_,by rw [if_neg (by decide)],h2,fun _ _ _ _=>trivial⟩
    · cases hd
  | b =>
    simp only [dK] at hd
    split at hd
    · rename_i y hf
      simp only [Option.some.injEq,Prod.mk.injEq] at hd
      obtain ⟨rfl,rfl,rfl⟩:=hd
      obtain ⟨_,h2⟩:=Z2p (e:=e) hf
      simp only [Z18k,Z18l,Z7,List.cons.injEq,and_true] at h2
      exact ⟨_,by rw [if_neg (by decide)],h2,fun _ _ _ _=>trivial⟩
    · cases hd
theorem Zra {e:Env} {W:Bas} {s:St} {w:World} (h:Rep e W s w):∀ {ks:List K} {cs:List SC} {es:List E} {os:List Bool} {us:List Nat},Zof s ks cs=some (es,os,us) →
    ∃ zs,zOK os (es.map (E.den e.R e.r)) zs∧zs.length=ks.length∧cs.map (SC.den e)=Z7 ks zs∧∀ (w':World) (X2:Nat→Prop),(∀ k v c,Z2b W.w W.X k v c→Z2b w' X2 k v c) →
      (∀ n b,n ∈ us→s.rows[n]?=some b→b.live=true→Zs w' b.ty b.ks ((G.o n).val e) (b.c.den e.R e.r)∧∀ k,Z6 ((G.o n).val e)=some k→¬ X2 k)→Z5d w' X2 ks zs
  | [],[],es,os,us,hf=>by
    simp only [Zof,Option.some.injEq,Prod.mk.injEq] at hf
    obtain ⟨rfl,rfl,rfl⟩:=hf
    exact ⟨[],trivial,rfl,rfl,fun _ _ _ _=>trivial⟩
  | [],_::_,_,_,_,hf=>by simp [Zof] at hf
  | _::_,[],_,_,_,hf=>by simp [Zof] at hf
  | k::ks,c::cs,es,os,us,hf=>by
    simp only [Zof] at hf
    split at hf
    · rename_i x o u es' os' us' h1 h2
      simp only [Option.some.injEq,Prod.mk.injEq] at hf
      obtain ⟨rfl,rfl,rfl⟩:=hf
      obtain ⟨z,z1,z2,z3⟩:=dK_ok h h1
      obtain ⟨zs,a1,a2,a3,a4⟩:=Zra h h2
      refine ⟨z::zs,⟨z1,a1⟩,by simp [a2],by simp only [Z18k,Z7,z2,a3],fun w' X2 hm ho=>?_⟩
      rw [Z5d]
      exact ⟨z3 w' X2 hm fun n b hn=>ho n b (List.mem_append_left _ hn),a4 w' X2 hm fun n b hn=>ho n b (List.mem_append_right _ hn)⟩
    · cases hf
noncomputable def Zck (e:Env):Option (Nat × E)→Value
 | some (i,_)=>slV (e.R.getD i undef)
 | none=>.slice none 0 0
def X1 (Xc:Nat→Prop) (W:Bas) (u:Value) (k:Nat):Prop:=(W.X k∨Xc k)∨Z6 u=some k
structure Zly (Xc:Nat→Prop) (tel:TypeId) (ks:List K) (w0:World) (hs0:List (List K × E)) (R0:Fo) (r0:List Int) (e:Env) (W:Bas) (acc:Option (Nat × E)):Prop where
  R:∃ x,e.R=R0++x
  r:∃ x,e.r=r0++x
  below:Zm ⟨w0,fun _=>False⟩ W.w
  may:∀ k,W.may k→w0.heap.size≤k
  arg:∀ i ks c,hs0[i]?=some (ks,c)→SlX ⟨W.w,X1 Xc W (Zck e acc)⟩ ks (slV (R0.getD i undef)) (c.den R0 r0)
  acc:match acc with
    | none=>e.R=R0
    | some (i,c)=>i + 1=e.R.length∧R0.length≤i∧c.sc e.r.length=true∧Zs W.w tel ks (Zck e acc) (c.den e.R e.r) ∧
      (∀ k,Z6 (Zck e acc)=some k→¬ W.may k∧w0.heap.size≤k)∧∀ z ∈ dec (c.den e.R e.r),Z5d W.w (X1 Xc W (Zck e acc)) ks (elt ks z)
theorem Zly.grow {Xc:Nat→Prop} {tel:TypeId} {ks:List K} {w0:World} {hs0:List (List K × E)} {R0:Fo} {r0:List Int} {e e':Env} {W:Bas} {acc:Option (Nat × E)} (A:Zly Xc tel ks w0 hs0 R0 r0 e W acc) (hle:Env.le e e'):Zly Xc tel ks w0 hs0 R0 r0 e' W acc:=by
 obtain ⟨a,b,c,d,h1,h2,h3,h4,h5⟩:=hle
 have ho:Zck e' acc=Zck e acc:=by
  unfold Zck
  rw [h5]
 obtain ⟨x,hx⟩:=A.R
 obtain ⟨y,hy⟩:=A.r
 refine ⟨⟨x,by rw [h5,hx]⟩,⟨y++a,by rw [h1,hy,List.append_assoc]⟩,A.below,A.may,by rw [ho]; exact A.arg,?_⟩
 have hA:=A.acc
 cases acc with
 | none=>exact h5.trans hA
 | some p =>
  obtain ⟨i,q⟩:=p
  obtain ⟨a1,a2,a3,a4,a5,a6⟩:=hA
  have hq:q.den e'.R e'.r=q.den e.R e.r:=by rw [h1,E.den_app _ _ _ _ a3,h5]
  dsimp only
  rw [ho,hq,h5]
  exact ⟨a1,a2,E.sc_up (by rw [h1]; simp) _ a3,a4,a5,a6⟩
theorem Zcl {Xc:Nat→Prop} {W:Bas} {w w':World} {u:Value} {X2:Nat→Prop} (hb:Zm W w) (hg:w.grownBy w' (Z6 u)) (hX:∀ k,X2 k→W.may k∨Xc k∨Z6 u=some k∨w.heap.size≤k) {k:K} {v:Value} {c:Int} (h:Z2b W.w (X1 Xc W u) k v c):Z2b w' X2 k v c:=by
 refine Z70 (fun ks v c hs hx=>?_) h
 rcases hs with ⟨h1,h2⟩ | ⟨b,off,cap,h1,h2,h3,h4,h5⟩
 ·refine ⟨.inl ⟨h1,h2⟩,fun hne=>?_⟩
  rw [h2] at hne
  exact absurd rfl hne
 ·by_cases hne:Zb ks (dec c)=[]
  ·refine ⟨.inr ⟨b,off,cap,h1,h2,h3,h4,fun j u hj=>?_⟩,fun h0=>absurd hne h0⟩
   rw [hne] at hj
   simp at hj
  ·obtain ⟨x,hx0⟩:=Z59 hne
   have hlt:=World.block_lt_of_cell? _ _ (h5 0 x hx0)
   have hnx:=hx hne b (by rw [h1]; rfl)
   have hlt:b < W.w.heap.size:=hlt
   have hm:¬ W.may b:=by
    rintro (hh | hh)
    ·omega
    ·exact hnx (.inl (.inl hh))
   have hc:¬ Xc b:=fun hh=>hnx (.inl (.inr hh))
   have hr:Z6 u ≠ some b:=fun hh=>hnx (.inr hh)
   have hsz:=hb.size
   have heq:w'.heap[b]?=W.w.heap[b]?:=(hg.block b (by omega) (fun hh=>hr hh.symm)).trans (hb.block b hm)
   refine ⟨.inr ⟨b,off,cap,h1,h2,h3,h4,fun j u hj=>?_⟩,fun _ k hk hX2=>?_⟩
   ·rw [World.cell?_of_block (w:=W.w) (a:=⟨b,off + j,none⟩) heq]
    exact h5 j u hj
   ·rw [h1] at hk
    simp only [Go.Sx.slBlk,Option.some.injEq] at hk
    subst hk
    rcases hX _ hX2 with hh | hh | hh | hh
    ·exact hm hh
    ·exact hc hh
    ·exact hr hh
    ·omega
theorem Za9 {Xc:Nat→Prop} {W:Bas} {w w':World} {u:Value} {X2:Nat→Prop} (hb:Zm W w) (hg:w.grownBy w' (Z6 u)) (hX:∀ k,X2 k→W.may k∨Xc k∨Z6 u=some k∨w.heap.size≤k):∀ {ks:List K} {ns:List Int},Z5d W.w (X1 Xc W u) ks ns→Z5d w' X2 ks ns
 | [],ns,h=>by cases ns <;> exact trivial
 | k::ks,[],h=>trivial
 | k::ks,n::ns,h=>by
  rw [Z5d] at h ⊢
  exact ⟨Zcl hb hg hX h.1,Za9 hb hg hX h.2⟩
def Zaa:List (List K × E)→List (List K × E)→Bool
 | [],[]=>true
 | (ks,c)::l,(ks',c')::l'=>Z4d ks ks' && (c.same c' && Zaa l l')
 | _,_=>false
theorem Z71:∀ {l l':List (List K × E)},Zaa l l'=true→l=l'
 | [],[],_=>rfl
 | [],_::_,h=>by simp [Zaa] at h
 | _::_,[],h=>by simp [Zaa] at h
 | (ks,c)::l,(ks',c')::l',h=>by
  simp only [Zaa,Z18r] at h
  rw [Z3n h.1,E.same_eq _ _ h.2.1,Z71 h.2.2]
def G.am (m:Nat):G→Bool
 | .a i=>decide (i < m)
 | _=>true
def SC.am (m:Nat):SC→Bool
 | .go g=>g.am m
 | .gv g _ _ _=>g.am m
 | .gp g _ _ _=>g.am m
 | .gz g=>g.am m
 | _=>true
def SW.am (m:Nat):SW→Bool
 | .o c=>c.am m
 | .a cs=>cs.all (SC.am m)
def SV.am (m:Nat):SV→Bool
 | .w x=>x.am m
 | .t xs=>xs.all (SW.am m)
 | .un _=>true
theorem G.val_up {e e':Env} (h:LeA e e'):∀ {g:G},g.am e.R.length=true→g.sc e.r.length e.σ.length=true→g.val e'=g.val e:=by
 have hE:=fun {x:E} hx=>E.den_A h (x:=x) hx
 obtain ⟨a,b,c,d,y,h1,h2,h3,h4,h5⟩:=h
 intro g hg hs
 cases g with
 | a i=>simp only [G.am,Z18s] at hg; simp only [G.val,h5,Z1l undef hg]
 | o n=>simp only [G.sc,Z18s] at hs; simp only [G.val,h3,Z1l undef hs]
 | e g ix j x=>simp only [G.sc] at hs; simp only [G.val,hE hs]
theorem SC.den_up {e e':Env} (h:LeA e e') {c:SC} (ha:c.am e.R.length=true) (hc:c.sc e.r.length e.β.length e.σ.length=true):c.den e'=c.den e:=by
 have hE:=fun {x:E} hx=>E.den_A h (x:=x) hx
 have hG:=fun {g:G} ha hs=>G.val_up h (g:=g) ha hs
 obtain ⟨a,b,cc,d,y,h1,h2,h3,h4,h5⟩:=h
 cases c <;> simp only [SC.sc,Z18s,Z18r] at hc <;> simp only [SC.am] at ha
 case i k x=>simp only [SC.den,hE hc]
 case b x=>simp only [SC.den]; rw [h1,B.den_app _ _ _ _ hc]; congr 1; exact B.den_R _ _ _ _
 case p n off=>simp only [SC.den,Z1z,h2,Z1l 0 hc]
 case s n off len cap=>simp only [SC.den,h2,Z1l 0 hc]
 case go g=>simp only [SC.den,hG ha hc]
 case gv g size lo hi=>simp only [SC.den,hG ha hc.1,hE hc.2.1,hE hc.2.2]
 case gp g size ix j=>simp only [SC.den,hG ha hc.1,hE hc.2]
 case gz g=>simp only [SC.den,hG ha hc]
 case f fn caps =>
  simp only [SC.den]
  rw [List.map_congr_left fun p hp=>?_]
  have:=List.all_eq_true.1 hc p hp
  simp only [Z18s] at this
  simp only [Z1z,h2,Z1l 0 this]
 case l v=>rfl
theorem SW.den_up {e e':Env} (h:LeA e e') {c:SW} (ha:c.am e.R.length=true) (hc:c.sc e.r.length e.β.length e.σ.length=true):c.den e'=c.den e:=by
 cases c with
 | o c=>exact SC.den_up h ha hc
 | a cs =>
  simp only [SW.den]
  rw [List.map_congr_left fun x hx=>SC.den_up h (List.all_eq_true.1 ha x hx) (List.all_eq_true.1 hc x hx)]
theorem SV.den_up {e e':Env} (h:LeA e e') {c:SV} (ha:c.am e.R.length=true) (hc:c.sc e.r.length e.β.length e.σ.length e.ω.length=true):c.den e'=c.den e:=by
 cases c with
 | w x=>exact SW.den_up h ha hc
 | t xs =>
  simp only [SV.den]
  rw [List.map_congr_left fun x hx=>SW.den_up h (List.all_eq_true.1 ha x hx) (List.all_eq_true.1 hc x hx)]
 | un i =>
  obtain ⟨a,b,cc,d,y,h1,h2,h3,h4,h5⟩:=h
  simp only [SV.sc,Z18s] at hc
  simp only [SV.den,h4,Z1l undef hc]
end Go.Sx
namespace Go.Sx
open Go.RowKit
def Z130 (o:Oper):Option (Operand × Operand × TypeId):=match o.op with
 | .call c=>(match c.callee with
  | .builtin .append=>(match c.args.toList,c.argTypes.toList with
   | [a,x],[t,t']=>if t=t' then some (a,x,t) else none
   | _,_=>none)
  | _=>none)
 | _=>none
theorem Z131 {o:Oper} {a x:Operand} {t:TypeId} (h:Z130 o=some (a,x,t)):o.op=.call { callee:=.builtin .append,args:=#[a,x],argTypes:=#[t,t] }:=by
 unfold Z130 at h
 split at h
 ·rename_i c ho
  split at h
  ·rename_i hcal
   split at h
   ·rename_i a' x' t1 t2 h1 h2
    split at h
    ·rename_i htt
     subst htt
     simp only [Option.some.injEq,Prod.mk.injEq] at h
     obtain ⟨rfl,rfl,rfl⟩:=h
     rw [ho]
     cases c
     simp only at hcal h1 h2
     subst hcal
     congr 2
     ·apply Array.ext'; simpa using h1
     ·apply Array.ext'; simpa using h2
    ·cases h
   ·cases h
  ·cases h
 ·cases h
structure Ac where
 tel:TypeId
 ks:List K
 hs0:List (List K × E)
 ow:List Bool
 g:Nat
 pl:List Fk
 at_:Nat × Nat
 gl:List (Nat × List Int):=[]
def accOK (q:Ac) (inf:TypeInfo) (z:Value) (elem:TypeId) (s:St) (i:Nat):Bool :=
 decide (elem=q.tel) && (decide (inf.size ≠ 0) && (decide (z.cells.size=inf.size) && (decide (q.ks.length=inf.size) && (decide (inf.bytes≤100000000) && (s.sc && (Zue s.gl q.gl && (Zaa s.hs q.hs0 &&
  (s.fr.all (SV.am (i + 1)) && (s.mem.all (fun b=>b.cells.all (SC.am (i + 1))) && decide (q.ks.length ≠ 1))))))))))
def accT (P:Program) (q:Ac) (s:St) (i:Nat) (c:E) (o:Oper) (k:St→Option (Nat × E)→T):T:=match Z130 o with
 | some (a,x,t)=>(match P.underlying t with
  | some (.slice elem)=>(match P.info? elem with
   | some inf=>(match inf.zero with
    | some z=>if accOK q inf z elem s i then (match s.ev a,s.ev x with
     | .w (.o (.go (.a i'))),.w (.o (.s n 0 1 cap))=>if i'=i∧1≤cap∧cap≤1000000 then (match s.mem[n]? with
      | some b=>if b.live then (match Zof s q.ks b.cells with
       | some (es,os,us)=>if os=q.ow then .asrt (Z5b (Zop c) (.c 999999)) (.any 1 q.g (c::es) (k (({ s with nv:=s.nv + 1,rows:=Z64 us 0 s.rows }:St).put o.dst (one (.go (.a (i + 1))))) (some (i + 1,.v s.nv)))) else .fail
       | none=>.fail) else .fail
      | none=>.fail) else .fail
     | _,_=>.fail) else .fail
    | none=>.fail)
   | none=>.fail)
  | _=>.fail)
 | none=>.fail
theorem Zs.same {w w':World} {ty:TypeId} {ks:List K} {v:Value} {c:Int} (h:Zs w ty ks v c) (hb:∀ k,Z6 v=some k→w'.heap[k]?=w.heap[k]?):Zs w' ty ks v c:=by
 rcases h with h | ⟨h0,h1,h2⟩
 ·exact .inl h
 ·rcases h2.2 with ⟨hv,hn⟩ | ⟨g,cap,cur,hv,hbg,hc,hle,hm,hsz,ht⟩
  ·exact .inr ⟨h0,h1,h2.1,.inl ⟨hv,hn⟩⟩
  ·by_cases hcap:cap=0
   ·subst hcap
    have hl:(dec c).length=0:=by omega
    exact .inl ⟨List.eq_nil_of_length_eq_zero hl,some ⟨g,0,none⟩,by rw [hv,hl]⟩
   ·exact .inr ⟨h0,h1,h2.1,.inr ⟨g,cap,cur,hv,hbg,(hb g (by rw [hv]; simp [Z6,hcap])).trans hc,hle,hm,hsz,ht⟩⟩
def GlZ (gl:List (Nat × List Int)) (w:World) (Xc:Nat→Prop):Prop:=Zm8 gl w∧∀ p ∈ gl,p.2 ≠ []→¬ Xc p.1
theorem Zrb {a b:List (Nat × List Int)} (h:Zue a b=true) {p:Nat × List Int} (hp:p ∈ a):p ∈ b:=by
 have:=List.all_eq_true.1 h p hp
 rw [List.any_eq_true] at this
 obtain ⟨x,hx,he⟩:=this
 simp only [Zud,Z18r,beq_iff_eq] at he
 have:p=x:=by
  cases p; cases x
  simp only at he
  rw [he.1,he.2]
 rw [this]
 exact hx
theorem Zrc {gl gl':List (Nat × List Int)} {w0:World} {Xc:Nat→Prop} {W:Bas} (h0:GlZ gl' w0 Xc) (hg:Zue gl gl'=true) (hb:Zm ⟨w0,fun _=>False⟩ W.w) (hm:∀ k,W.X k→w0.heap.size≤k∨Xc k):GlX gl W:=by
 have h1:Zm8 gl w0:=fun p hp=>h0.1 p (Zrb hg hp)
 refine ⟨h1.below hb.below (Nat.le_refl _),fun p hp hne hX=>?_⟩
 obtain ⟨x,hx⟩:=Z59 hne
 have hlt:=World.block_lt_of_cell? _ _ (h1 p hp 0 x hx)
 have hlt:p.1 < w0.heap.size:=hlt
 rcases hm p.1 hX with hh | hh
 ·omega
 ·exact h0.2 p (Zrb hg hp) hne hh
section
variable {P:Program} {Γ:List Sum} {Ψ:List Int→Prop} {q:Ac} {w0:World} {R0:Fo} {r0:List Int} {Xc:Nat→Prop}
theorem Zti (hhs0:∀ i ks c,q.hs0[i]?=some (ks,c)→i < R0.length∧c.sc r0.length=true) (hXc:∀ k,Xc k→k < w0.heap.size) (hg0:GlZ q.gl w0 Xc) (hrel:∀ aZ,Za8 q.ow aZ→Zcs Γ q.g aZ) {bs:List (List Int→Prop)} {s:St} {e:Env} {W:Bas} {a:Act} {w:World} {i:Nat} {c:E} {o:Oper}
    {k:St→Option (Nat × E)→T} {K:Act→World→Prop} {Q:Exit→Act→World→Prop} (h:Rel e W s a w) (A:Zly Xc q.tel q.ks w0 q.hs0 R0 r0 e W (some (i,c))) (hfl:s.fl=0) (hflr:s.flr=0) (hdp:s.dp=bs.length)
    (hs:(accT P q s i c o k).sat Γ e.R Ψ bs e.r)
    (hK:∀ s' acc' e' W' a' w',LeA e e'→Rel e' W' s' a' w'→Zly Xc q.tel q.ks w0 q.hs0 R0 r0 e' W' acc'→s'.fl=0→s'.flr=0→s'.dp=bs.length→(k s' acc').sat Γ e'.R Ψ bs e'.r→K a' w'):o.wp P a w K Q:=by
  unfold accT at hs
  split at hs
  case h_2=>exact hs.elim
  rename_i ax x t hop
  split at hs
  case h_2=>exact hs.elim
  rename_i elem hu
  split at hs
  case h_2=>exact hs.elim
  rename_i inf hinf
  split at hs
  case h_2=>exact hs.elim
  rename_i z hz
  split at hs
  case isFalse=>exact hs.elim
  rename_i hck
  simp only [accOK,Z18r,Z18s] at hck
  obtain ⟨rfl,hk0,hzs,hkl,hby,hsc,hgl,hhs,hamf,hamm,hk1⟩:=hck
  have hhs:=Z71 hhs
  split at hs
  case h_2=>exact hs.elim
  rename_i i' n cap hea hex
  split at hs
  case isFalse=>exact hs.elim
  rename_i hc
  obtain ⟨rfl,hcap1,hcap⟩:=hc
  split at hs
  case h_2=>exact hs.elim
  rename_i b hb
  split at hs
  case isFalse=>exact hs.elim
  rename_i hl
  split at hs
  case h_2=>exact hs.elim
  rename_i es os us hfd
  split at hs
  case isFalse=>exact hs.elim
  rename_i hos
  subst hos
  obtain ⟨hlim,hs⟩:=hs
  simp only [T.sat] at hs
  split at hs
  case h_2=>exact hs.elim
  rename_i sm hsm
  obtain ⟨_,hs⟩:=hs
  rw [Z2m,Z18s,Z5f] at hlim
  simp only [E.den] at hlim
  obtain ⟨a1,a2,a3,a4,a5,a6⟩:=A.acc
  obtain ⟨u,hu0⟩:∃ u,u=Zck e (some (i',c)):=⟨_,rfl⟩
  rw [← hu0] at a4 a5 a6
  have hAarg:=A.arg
  rw [← hu0] at hAarg
  have hrep:=h.rep
  have hev:a.eval ax=u:=by
    rw [h.eval ax,hea,hu0]
    rfl
  have hargX:∀ i ks c,s.hs[i]?=some (ks,c)→SlX ⟨W.w,X1 Xc W u⟩ ks ((G.a i).val e) (c.den e.R e.r):=fun i ks c hi=>by
    rw [hhs] at hi
    obtain ⟨b1,b2⟩:=hhs0 i ks c hi
    have:=hAarg i ks c hi
    obtain ⟨xR,hxR⟩:=A.R
    obtain ⟨xr,hxr⟩:=A.r
    have e1:(G.a i).val e=slV (R0.getD i undef):=by
      simp only [G.val,hxR,Z1l undef b1]
    have e2:c.den e.R e.r=c.den R0 r0:=by
      rw [hxr,E.den_app _ _ _ _ b2]
      exact E.den_R _ _ _ _
    rw [e1,e2]
    exact this
  have hmayX:∀ k,W.may k→(Bas.mk W.w (X1 Xc W u)).may k:=fun k hk=>hk.imp id fun h=>.inl (.inl h)
  have hXlt:∀ k,X1 Xc W u k→w0.heap.size≤k∨Xc k:=fun k hk=>by
    rcases hk with (hk | hk) | hk
    · exact .inl (A.may k (.inr hk))
    · exact .inr hk
    · exact .inl (a5 k hk).2
  have hrepX:Rep e ⟨W.w,X1 Xc W u⟩ s w :=
    ⟨⟨hrep.below.os,hrep.below.tape,hrep.below.output,hrep.below.size,fun k hk=>hrep.below.block k fun hh=>hk (hmayX k hh)⟩,hrep.nb,hrep.ng,hrep.nv,hrep.nx,hrep.blk,fun n b h1 h2 h3=>hmayX _ (hrep.own n b h1 h2 h3),hrep.sep,hrep.row,
      fun n b h1 h2 h3 k hk=>hmayX _ (hrep.rown n b h1 h2 h3 k hk),hrep.rsep,hrep.brs,Zrc (W:=⟨W.w,X1 Xc W u⟩) hg0 hgl A.below hXlt,hargX⟩
  obtain ⟨zs,z1,z2,z3,z4⟩:=Zra hrepX hfd
  have hblk:=hrep.blk n b hb hl
  have helt:elt q.ks (cod zs)=zs:=by
    unfold elt
    rw [if_neg hk1,Z4]
  obtain ⟨d,hd⟩:∃ d:Int,d=cod [cod zs]:=⟨_,rfl⟩
  have hdd:dec d=[cod zs]:=by rw [hd,Z4]
  have hxv:Z5a w q.ks (a.eval x) d:=by
    rw [h.eval x,hex]
    refine .inr ⟨e.β.getD n 0,0,cap,by rw [hdd]; rfl,by rw [hdd]; exact hcap1,by simp only [maxLen]; omega,?_,?_⟩
    · rw [hdd]
      intro y hy
      rw [List.mem_singleton.1 hy,helt,z2]
    · rw [hdd]
      intro j v hj
      unfold Zb at hj
      rw [List.flatMap_cons,List.flatMap_nil,List.append_nil,helt,← z3] at hj
      rw [Nat.zero_add]
      have:w.heap[e.β.getD n 0]?=some (.cells (b.cells.map (SC.den e)).toArray b.ty (0,0)):=hblk
      simp only [World.cell?,this]
      simpa using hj
  have hrow:Zs w q.tel q.ks u (c.den e.R e.r):=a4.same fun k hk=>hrep.below.block k (a5 k hk).1
  obtain ⟨v',w',hr,hrow',hgr,hat,hsl⟩:=Z12w (P:=P) (ty:=o.type) hu hinf hz hzs hk0 hkl hby hrow hxv (by rw [hdd]; simp only [List.length_cons,List.length_nil]; omega)
  have hsv:slV v'=v':=by
    obtain ⟨a',l,cp,rfl⟩:=hsl
    rfl
  obtain ⟨xn,hxn⟩:∃ xn:Int,xn=cod (dec (c.den e.R e.r)++[cod zs]):=⟨_,rfl⟩
  have hxd:dec xn=dec (c.den e.R e.r)++[cod zs]:=by rw [hxn,Z4]
  obtain ⟨e2,he2⟩:∃ e2:Env,e2={ e with r:=e.r++[xn],R:=e.R++[v'] }:=⟨_,rfl⟩
  obtain ⟨s2,hs2⟩:∃ s2:St,s2={ s with nv:=s.nv + 1,rows:=Z64 us 0 s.rows }:=⟨_,rfl⟩
  have er:e2.r=e.r++[xn]:=by rw [he2]
  have eR:e2.R=e.R++[v']:=by rw [he2]
  have eβ:e2.β=e.β:=by rw [he2]
  have eσ:e2.σ=e.σ:=by rw [he2]
  have eω:e2.ω=e.ω:=by rw [he2]
  have hle2:LeA e e2:=⟨[xn],[],[],[],[v'],er,by simp [eβ],by simp [eσ],by simp [eω],eR⟩
  have smem:s2.mem=s.mem:=by rw [hs2]
  have srows:s2.rows=Z64 us 0 s.rows:=by rw [hs2]
  have sfr:s2.fr=s.fr:=by rw [hs2]
  have shs:s2.hs=s.hs:=by rw [hs2]
  have sgl:s2.gl=s.gl:=by rw [hs2]
  have sfl:s2.fl=0:=by rw [hs2]; exact hfl
  have sflr:s2.flr=0:=by rw [hs2]; exact hflr
  have hgo:∀ n,(G.o n).val e2=(G.o n).val e:=fun n=>by simp only [G.val,eσ]
  have hk2:∀ n b,s2.rows[n]?=some b→b.live=true→s.rows[n]?=some b∧n ∉ us:=fun n b h1 h2=>Zao (by rw [← srows]; exact h1) h2
  have hmayu:∀ k,W.may k→Z6 u ≠ some k:=fun k hk hh=>(a5 k hh).1 hk
  have hownb:∀ n b,s.mem[n]?=some b→b.live=true→W.may (e.β.getD n 0):=fun n b h1 h2=>hrep.own n b h1 h2 (by rw [hfl]; exact Nat.zero_le _)
  have hownr:∀ n b,s.rows[n]?=some b→b.live=true→∀ k,Z6 ((G.o n).val e)=some k→W.may k:=fun n b h1 h2=>hrep.rown n b h1 h2 (by rw [hflr]; exact Nat.zero_le _)
  have hown:∀ k,Zzh e2 s2 k→W.may k∧k < w.heap.size:=by
    rintro k (⟨n,b,h1,h2,h3,rfl⟩ | ⟨n,b,h1,h2,h3,h4⟩)
    · rw [smem] at h1
      rw [eβ]
      exact ⟨hownb n b h1 h2,Z1g (hrep.blk n b h1 h2)⟩
    · obtain ⟨h5,_⟩:=hk2 n b h1 h2
      rw [hgo] at h4
      exact ⟨hownr n b h5 h2 k h4,(hrep.row n b h5 h2).blk_lt h4⟩
  obtain ⟨W2,hW2⟩:∃ W2:Bas,W2=⟨w',Zzh e2 s2⟩:=⟨_,rfl⟩
  have W2w:W2.w=w':=by rw [hW2]
  have W2X:W2.X=Zzh e2 s2:=by rw [hW2]
  have hX2:∀ k,X1 Xc W2 v' k→W.may k∨Xc k∨Z6 u=some k∨w.heap.size≤k:=by
    rintro k ((hh | hh) | hh)
    · rw [W2X] at hh
      exact .inl (hown k hh).1
    · exact .inr (.inl hh)
    · rcases hat k hh with h1 | h1
      · exact .inr (.inr (.inl h1))
      · exact .inr (.inr (.inr (by omega)))
  have hX0:∀ k,W2.X k→W.may k∨Xc k∨Z6 u=some k∨w.heap.size≤k:=fun k hk=>hX2 k (.inl (.inl hk))
  have hsc':=hsc
  simp only [St.sc,Z18r] at hsc'
  obtain ⟨⟨scf,scm⟩,scr,sch⟩:=hsc'
  rw [← hrep.nv,← hrep.nb,← hrep.ng] at scf scm
  rw [← hrep.nx] at scf
  rw [← hrep.nv] at scr
  rw [a1] at hamf hamm
  have hrows2:∀ n b,s.rows[n]?=some b→b.live=true→Zs w' b.ty b.ks ((G.o n).val e) (b.c.den e.R e.r):=fun n b h1 h2 =>
    (hrep.row n b h1 h2).kept hgr fun k hk=>hmayu k (hownr n b h1 h2 k hk)
  have hrep2:Rep e2 W2 s2 w':=by
    refine ⟨by rw [← W2w]; exact Zm.refl _,?_,?_,?_,?_,?_,?_,?_,?_,?_,?_,?_,?_,?_⟩
    · rw [smem,eβ]; exact hrep.nb
    · rw [srows,Z2g,eσ]; exact hrep.ng
    · rw [er,hs2,List.length_append,hrep.nv]; rfl
    · rw [eω,hs2]; exact hrep.nx
    · intro n b h1 h2
      rw [smem] at h1
      have hb1:=hrep.blk n b h1 h2
      rw [eβ,hgr.block _ (Z1g hb1) (fun hh=>hmayu _ (hownb n b h1 h2) hh.symm),hb1]
      have:b.cells.map (SC.den e2)=b.cells.map (SC.den e):=List.map_congr_left fun cc hcc=>SC.den_up hle2 (List.all_eq_true.1 (List.all_eq_true.1 hamm b (List.mem_of_getElem? h1)) cc hcc) (List.all_eq_true.1 (List.all_eq_true.1 scm b (List.mem_of_getElem? h1)) cc hcc)
      rw [this]
    · intro n b h1 h2 h3
      exact .inr (by rw [W2X]; exact .inl ⟨n,b,h1,h2,h3,rfl⟩)
    · intro n m b c' h1 h2 h3 h4 h5
      rw [smem] at h1 h2
      rw [eβ] at h5
      exact hrep.sep n m b c' h1 h2 h3 h4 h5
    · intro n b h1 h2
      obtain ⟨h3,_⟩:=hk2 n b h1 h2
      have hcs:=List.all_eq_true.1 scr b (List.mem_of_getElem? h3)
      rw [hgo,E.den_A hle2 hcs]
      exact hrows2 n b h3 h2
    · intro n b h1 h2 h3 k hk
      exact .inr (by rw [W2X]; exact .inr ⟨n,b,h1,h2,h3,hk⟩)
    · intro n m b c' k h1 h2 h3 h4 h5 h6
      rw [hgo] at h5 h6
      exact hrep.rsep n m b c' k (hk2 n b h1 h3).1 (hk2 m c' h2 h4).1 h3 h4 h5 h6
    · intro n m b c' h1 h2 h3 h4
      rw [smem] at h1
      rw [hgo,eβ]
      exact hrep.brs n m b c' h1 (hk2 m c' h2 h4).1 h3 h4
    · rw [sgl]
      refine Zrc hg0 hgl ?_ fun k hk=>.inl (A.may k ?_)
      · rw [W2w]
        exact (A.below.trans hrep.below fun k hk=>.inl (A.may k hk)).grown hgr fun k hk=>.inl (a5 k hk).2
      · rw [W2X] at hk
        exact (hown k hk).1
    · intro j ks' c' hj
      rw [shs] at hj
      have hX:=hargX j ks' c' hj
      rw [hhs] at hj
      obtain ⟨b1,b2⟩:=hhs0 j ks' c' hj
      obtain ⟨xR,hxR⟩:=A.R
      obtain ⟨xr,hxr⟩:=A.r
      have e1:(G.a j).val e2=(G.a j).val e:=by
        simp only [G.val,eR]
        rw [Z1l undef (by rw [hxR]; simp; omega)]
      have e2':c'.den e2.R e2.r=c'.den e.R e.r:=E.den_A hle2 (E.sc_up (by rw [hxr]; simp) _ b2)
      rw [e1,e2']
      have:=Zcl (W:=W) hrep.below hgr hX0 hX
      rw [← W2w] at this
      exact this
  have hout:Zck e2 (some (i' + 1,.v s.nv))=v':=by
    simp only [Zck,eR]
    rw [show (e.R++[v']).getD (i' + 1) undef=v' by simp [List.getD,a1]]
    exact hsv
  have hvn:(E.v s.nv).den e2.R e2.r=xn:=by
    simp only [E.den,er,List.getD]
    rw [List.getElem?_append_right (by rw [hrep.nv]; exact Nat.le_refl _),hrep.nv,Nat.sub_self]
    rfl
  have hA2:Zly Xc q.tel q.ks w0 q.hs0 R0 r0 e2 W2 (some (i' + 1,.v s.nv)):=by
    obtain ⟨xR,hxR⟩:=A.R
    obtain ⟨xr,hxr⟩:=A.r
    have hb0:Zm ⟨w0,fun _=>False⟩ w:=A.below.trans hrep.below fun k hk=>.inl (A.may k hk)
    refine ⟨⟨xR++[v'],by rw [eR,hxR,List.append_assoc]⟩,⟨xr++[xn],by rw [er,hxr,List.append_assoc]⟩,?_,?_,?_,?_⟩
    · rw [W2w]
      exact hb0.grown hgr fun k hk=>.inl (a5 k hk).2
    · rintro k (hh | hh)
      · rw [W2w] at hh
        have h1:=hb0.size
        have h2:=hgr.size
        have h1:w0.heap.size≤w.heap.size:=h1
        omega
      · rw [W2X] at hh
        exact A.may k (hown k hh).1
    · rw [hout]
      intro j ks' c' hj
      have:=Zcl (W:=W) hrep.below hgr hX2 (hAarg j ks' c' hj)
      show Z2b W2.w (X1 Xc W2 v') (.s 0 ks') _ _
      rw [W2w]
      exact this
    · dsimp only
      rw [hout,hvn]
      refine ⟨by rw [eR,List.length_append,← a1]; rfl,by omega,?_,?_,?_,?_⟩
      · simp only [E.sc,Z18s,er,List.length_append,hrep.nv,List.length_cons,List.length_nil]
        omega
      · rw [W2w]
        exact hrow' xn (by rw [hxd,hdd])
      · intro k hk
        have hlt:=(hrow' xn (by rw [hxd,hdd])).blk_lt hk
        refine ⟨?_,?_⟩
        · rintro (hh | hh)
          · rw [W2w] at hh
            omega
          · rw [W2X] at hh
            obtain ⟨m1,m2⟩:=hown k hh
            rcases hat k hk with h1 | h1
            · exact hmayu k m1 h1
            · omega
        · rcases hat k hk with h1 | h1
          · exact (a5 k h1).2
          · have:w0.heap.size≤w.heap.size:=hb0.size
            omega
      · intro zz hzz
        rw [W2w]
        rw [hxd] at hzz
        rcases List.mem_append.1 hzz with hzz | hzz
        · exact Za9 (W:=W) hrep.below hgr hX2 (a6 zz hzz)
        · rw [List.mem_singleton.1 hzz,helt]
          refine z4 w' (X1 Xc W2 v') (fun k v c=>Zcl (W:=W) hrep.below hgr hX2) fun n b h1 h2 h3=>⟨hrows2 n b h2 h3,fun k hk hX=>?_⟩
          have hm:=hownr n b h2 h3 k hk
          have hlt:=(hrep.row n b h2 h3).blk_lt hk
          rcases hX with (hX | hX) | hX
          · rw [W2X] at hX
            rcases hX with ⟨m,b',g1,g2,g3,g4⟩ | ⟨m,b',g1,g2,g3,g4⟩
            · rw [smem] at g1
              rw [eβ] at g4
              exact hrep.brs m n b' b g1 h2 g2 h3 (by rw [g4]; exact hk)
            · obtain ⟨g5,g6⟩:=hk2 m b' g1 g2
              rw [hgo] at g4
              have:=hrep.rsep m n b' b k g5 h2 g2 h3 g4 hk
              subst this
              exact g6 h1
          · have:=hXc k hX
            have h9:=A.may k hm
            omega
          · rcases hat k hX with hh | hh
            · exact hmayu k hm hh
            · omega
  have hrel2:Rel e2 W2 s2 a w':=⟨hrep2,by
    rw [h.tmps,sfr]
    congr 1
    exact (List.map_congr_left fun v hv=>SV.den_up hle2 (List.all_eq_true.1 hamf v hv) (List.all_eq_true.1 scf v hv)).symm,h.defs⟩
  have hput:=hrel2.put o.dst (one (.go (.a (i' + 1))))
  have hval:(one (.go (.a (i' + 1)))).den e2=v':=hout
  rw [hval] at hput
  have hsat:=hs [xn] rfl (hrel _ ⟨c.den e.R e.r,es.map (E.den e.R e.r),xn,zs,rfl,hxd,z1⟩)
  rw [← er,T.sat_R e.R e2.R,← hs2] at hsat
  have hfin:=hK _ _ e2 W2 _ w' hle2 hput hA2 ((Zn _ _ _).2.2.2.2.1.trans sfl) ((Zn _ _ _).2.2.2.2.2.trans sflr) ((Z4v _ _ _).trans (by rw [hs2]; exact hdp)) hsat
  have ho:=Z131 hop
  rw [← hev] at hr
  unfold Oper.wp execOp
  simp only [ho,resolve,invoke,builtin,Sem.run_bind,Sem.run_pure,Result.andThen_ok,List.map_toArray,Z18k,Z18l,hr]
  exact hfin
end
end Go.Sx
namespace Go.Sx
open Go.RowKit
abbrev Zf4:=Out→St→Option (Nat × E)→T
section
variable (P:Program) (Γ:List Sum) (ex:Code→St→Z80→T) (q:Ac)
def apT:List Oper→St→Option (Nat × E)→(St→Option (Nat × E)→T)→T
 | [],s,acc,k=>k s acc
 | o::l,s,acc,k=>if o.guard.isNone then (if (Z130 o).isSome then (match acc with
   | some (i,c)=>accT P q s i c o fun s' acc'=>apT l s' acc' k
   | none=>.fail)
  else if (Z88 o).isNone then opT P Γ ex o s fun s'=>apT l s' acc k else .fail) else .fail
def Zym (id0:Nat):Code→Bool
 | .seq x y=>Zym id0 x || Zym id0 y
 | .block _ c=>Zym id0 c
 | .loop c=>Zym id0 c
 | .region id _ _=>id == id0
 | _=>false
def isA (i:Nat):SC→Bool
 | .go (.a j)=>j == i
 | _=>false
def isN:SC→Bool
 | .l v=>Z12z v
 | _=>false
def frz (q:Ac) (m:Nat) (s:St):Option (Nat × E)→Option St
 | some (i,c)=>if i=m∧Zaa s.hs q.hs0=true then some { s with hs:=s.hs++[(q.ks,c)] } else none
 | none=>none
def lpA (m:Nat) (body:St→Option (Nat × E)→Zf4→T) (s:St) (acc:Option (Nat × E)) (k:Zf4):T:=match acc with
 | some _=>.fail
 | none=>if s.sc && (s.rows.isEmpty && (Zue s.gl q.gl && Zaa s.hs q.hs0)) then (match mF m s.nv s.mem.length q.pl s.fr s.fr with
  | some es=>if mM q.at_ isN m s.nv s.mem.length 0 s.mem s.mem then .loop (es.length + 1) (es++[.c 0]) (body (Z17z m q.pl q.at_ s) (some (m,.v (s.nv + es.length))) fun o s' acc'=>match o with
    | .norm=>(match acc' with
     | some (i,c)=>(match mF m s.nv s.mem.length q.pl s.fr s'.fr with
      | some fs=>if mM q.at_ (isA i) m s.nv s.mem.length 0 s.mem s'.mem then .back s.dp (fs++[c]) else .fail
      | none=>.fail)
     | none=>.fail)
    | o=>(match frz q m s' acc' with
     | some s''=>k o s'' acc'
     | none=>.fail)) else .fail
  | none=>.fail) else .fail
def Zyn (id0 m:Nat):Code→St→Option (Nat × E)→Zf4→T
 | .seq x y,s,acc,k=>if Zym id0 x then Zyn id0 m x s acc (fun o s' acc'=>match o with
   | .norm=>ex y s' fun o s''=>k o s'' acc'
   | o=>k o s' acc')
  else ex x s fun o s'=>match o with
   | .norm=>Zyn id0 m y s' acc k
   | o=>k o s' acc
 | .block id c,s,acc,k=>Zyn id0 m c s acc fun o s' acc'=>match o with
  | .exit id'=>if id'=id then k .norm s' acc' else k (.exit id') s' acc'
  | o=>k o s' acc'
 | .loop c,s,acc,k=>lpA q m (Zyn id0 m c) s acc k
 | .region id ops d,s,acc,k=>if id == id0 && !d then apT P Γ ex q ops.toList s acc (k .norm) else .fail
 | _,_,_,_=>.fail
end
section
variable {P:Program} {Γ:List Sum} {Ψ:List Int→Prop} {q:Ac} {w0:World} {R0:Fo} {r0:List Int} {Xc:Nat→Prop} {ex:Code→St→Z80→T}
def Az (Xc:Nat→Prop) (Γ:List Sum) (Ψ:List Int→Prop) (q:Ac) (w0:World) (R0:Fo) (r0:List Int) (bs:List (List Int→Prop)) (e:Env) (k:St→Option (Nat × E)→T) (a:Act) (w:World):Prop :=
 ∃ s' acc' e' W' more,LeA e e'∧Rel e' W' s' a w∧Zly Xc q.tel q.ks w0 q.hs0 R0 r0 e' W' acc'∧s'.fl=0∧s'.flr=0∧s'.dp=(bs++more).length∧(k s' acc').sat Γ e'.R Ψ (bs++more) e'.r
def Ax (Xc:Nat→Prop) (Γ:List Sum) (Ψ:List Int→Prop) (q:Ac) (w0:World) (R0:Fo) (r0:List Int) (bs:List (List Int→Prop)) (e:Env) (k:Zf4) (x:Exit) (a:Act) (w:World):Prop :=
 ∃ out,x=out.exitOf∧Az Xc Γ Ψ q w0 R0 r0 bs e (k out) a w
theorem Az.trans {bs more:List (List Int→Prop)} {e e':Env} {k:St→Option (Nat × E)→T} {a:Act} {w:World} (hle:LeA e e') (h:Az Xc Γ Ψ q w0 R0 r0 (bs++more) e' k a w):Az Xc Γ Ψ q w0 R0 r0 bs e k a w:=by
 obtain ⟨s',acc',e2,W',more',h1,h2,h3,h4,h5,h6,h7⟩:=h
 exact ⟨s',acc',e2,W',more++more',hle.trans h1,h2,h3,h4,h5,by rw [← List.append_assoc]; exact h6,by rw [← List.append_assoc]; exact h7⟩
theorem Ax.trans {bs more:List (List Int→Prop)} {e e':Env} {k:Zf4} {x:Exit} {a:Act} {w:World} (hle:LeA e e') (h:Ax Xc Γ Ψ q w0 R0 r0 (bs++more) e' k x a w):Ax Xc Γ Ψ q w0 R0 r0 bs e k x a w:=by
 obtain ⟨out,h1,h2⟩:=h
 exact ⟨out,h1,h2.trans hle⟩
theorem Zf5 (hXc:∀ k,Xc k→k < w0.heap.size) (hg0:GlZ q.gl w0 Xc) (hG:Gok P Γ) (hex:IH P Γ ex) (hhs0:∀ i ks c,q.hs0[i]?=some (ks,c)→i < R0.length∧c.sc r0.length=true) (hrel:∀ aZ,Za8 q.ow aZ→Zcs Γ q.g aZ) {ops:Array Oper} {k:St→Option (Nat × E)→T} {Q:Exit→Act→World→Prop} :
    ∀ (l:List Oper) (s:St) (acc:Option (Nat × E)) (bs:List (List Int→Prop)) (e:Env) (W:Bas) (a:Act) (w:World),Rel e W s a w→Zly Xc q.tel q.ks w0 q.hs0 R0 r0 e W acc→s.fl=0→s.flr=0→s.dp=bs.length →
      (apT P Γ ex q l s acc k).sat Γ e.R Ψ bs e.r→(∀ a' w',Az Xc Γ Ψ q w0 R0 r0 bs e k a' w'→Q .normal a' w')→wpList P ops Q l a w
  | [],s,acc,bs,e,W,a,w,h,A,hfl,hflr,hdp,hs,hQ=>hQ a w ⟨s,acc,e,W,[],LeA.refl e,h,A,hfl,hflr,by simpa using hdp,by simpa [apT] using hs⟩
  | o::l,s,acc,bs,e,W,a,w,h,A,hfl,hflr,hdp,hs,hQ=>by
    simp only [apT] at hs
    split at hs
    case isFalse=>exact hs.elim
    rename_i hgd
    have hgd:o.guard=none:=by simpa using hgd
    split at hs
    · split at hs
      · rename_i i c
        refine wpList_plain hgd fun K hK=>Zti hhs0 hXc hg0 hrel h A hfl hflr hdp hs ?_
        intro s' acc' e' W' a' w' hle hrel' A' hfl' hflr' hdp' hs'
        exact hK _ _ (Zf5 hXc hg0 hG hex hhs0 hrel l s' acc' bs e' W' a' w' hrel' A' hfl' hflr' hdp' hs' fun a2 w2 hz=>hQ a2 w2 (Az.trans (more:=[]) hle (by simpa using hz)))
      · exact hs.elim
    · split at hs
      case isFalse=>exact hs.elim
      refine wpList_plain hgd fun K hK=>?_
      refine Oper.wp_mono' (Z6l hG hex h hdp hs) ?_
      rintro a3 w3 ⟨s3,e3,more,hle,hrel',hf,hfr,hd,hsat⟩
      exact hK _ _ (Zf5 hXc hg0 hG hex hhs0 hrel l s3 acc (bs++more) e3 W a3 w3 hrel' (A.grow hle) (hf.trans hfl) (hfr.trans hflr) hd hsat fun a2 w2 hz=>hQ a2 w2 (hz.trans (LeA.of hle)))
theorem px_az {bs:List (List Int→Prop)} {W:Bas} {e:Env} {s:St} {acc:Option (Nat × E)} {k:Zf4} {x:Exit} {a:Act} {w:World} (A:Zly Xc q.tel q.ks w0 q.hs0 R0 r0 e W acc) (hfl:s.fl=0) (hflr:s.flr=0)
  (h:Px Γ Ψ bs W e s.fl s.flr (fun o s''=>k o s'' acc) x a w):Ax Xc Γ Ψ q w0 R0 r0 bs e k x a w:=by
 obtain ⟨out,s',e',more,h0,hle,hrel,hf,hfr,hd,hsat⟩:=h
 exact ⟨out,h0,s',acc,e',W,more,LeA.of hle,hrel,A.grow hle,hf.trans hfl,hfr.trans hflr,hd,hsat⟩
theorem Zyo {e:Env} {R:Fo} {u:Value} {c:E} (h:e.R=R++[u]) (hu:slV u=u):Zck e (some (R.length,c))=u:=by
 simp only [Zck,h]
 rw [show (R++[u]).getD R.length undef=u by simp [List.getD]]
 exact hu
theorem Zyp (v:Value):slV (slV v)=slV v:=by cases v <;> rfl
theorem Z132 {W:Bas} {u:Value} {ks:List K} {v:Value} {c:Int} (h:SlX ⟨W.w,X1 Xc W u⟩ ks v c):SlX W ks v c :=
 Z70 (fun _ _ _ h hx=>⟨h,fun hne k hk hX=>hx hne k hk (.inl (.inl hX))⟩) h
theorem Zlz {W:Bas} {u:Value}:∀ {ks:List K} {ns:List Int},Z5d W.w (X1 Xc W u) ks ns→Z5d W.w W.X ks ns
 | [],ns,h=>by cases ns <;> exact trivial
 | k::ks,[],h=>trivial
 | k::ks,n::ns,h=>by
  rw [Z5d] at h ⊢
  exact ⟨Z70 (fun _ _ _ h hx=>⟨h,fun hne k hk hX=>hx hne k hk (.inl (.inl hX))⟩) h.1,Zlz h.2⟩
theorem Zrd (e:Env) (acc:Option (Nat × E)):slV (Zck e acc)=Zck e acc:=by
 unfold Zck
 split
 ·exact Zyp _
 ·rfl
theorem Zyq {c:Code} {body:St→Option (Nat × E)→Zf4→T} (hg0:GlZ q.gl w0 Xc) (hhs0:∀ i ks c,q.hs0[i]?=some (ks,c)→i < R0.length∧c.sc r0.length=true) (hlen:q.hs0.length=R0.length)
  (hbody:∀ (s:St) (acc:Option (Nat × E)) (k:Zf4) (bs:List (List Int→Prop)) (e:Env) (W:Bas) (a:Act) (w:World),Rel e W s a w→Zly Xc q.tel q.ks w0 q.hs0 R0 r0 e W acc→s.fl=0→s.flr=0→s.dp=bs.length→(body s acc k).sat Γ e.R Ψ bs e.r→wps P c (Ax Xc Γ Ψ q w0 R0 r0 bs e k) a w)
  {s:St} {acc:Option (Nat × E)} {k:Zf4} {bs:List (List Int→Prop)} {e:Env} {W:Bas} {a:Act} {w:World} (h:Rel e W s a w) (A:Zly Xc q.tel q.ks w0 q.hs0 R0 r0 e W acc) (hfl:s.fl=0) (hflr:s.flr=0) (hdp:s.dp=bs.length)
  (hs:(lpA q R0.length body s acc k).sat Γ e.R Ψ bs e.r):∃ n,Z3w (wps P c) (Ax Xc Γ Ψ q w0 R0 r0 bs e k) n a w:=by
 unfold lpA at hs
 split at hs
 ·exact hs.elim
 split at hs
 case isFalse=>exact hs.elim
 rename_i hck
 simp only [Z18r] at hck
 obtain ⟨hsc,hrw,hgl,hhs⟩:=hck
 have hrw:s.rows=[]:=by simpa using hrw
 have hhs:=Z71 hhs
 split at hs
 case h_2=>exact hs.elim
 rename_i es hF
 split at hs
 case isFalse=>exact hs.elim
 rename_i hM
 obtain ⟨I,μ,hI,hloop⟩:=hs
 have hR:e.R=R0:=A.acc
 obtain ⟨xr,hxr⟩:=A.r
 have hesl:=(Ztf (ex:=e) hF).1
 rw [← hR] at hF hM
 have hnil:∀ x,isN x=true→x.den e=.slice none 0 0:=fun x hx=>by
  unfold isN at hx
  split at hx
  ·exact Zr9 hx
  ·cases hx
 have mkA:∀ {e3:Env} {W':Bas} {u:Value} {cn:Int} {l:List Int},slV u=u→e3.R=R0++[u]→e3.r=e.r++(l++[cn])→l.length=es.length→Zm ⟨w0,fun _=>False⟩ W'.w→(∀ k,W'.may k→w0.heap.size≤k) →
   (∀ i ks c,q.hs0[i]?=some (ks,c)→SlX ⟨W'.w,X1 Xc W' u⟩ ks (slV (R0.getD i undef)) (c.den R0 r0))→Zs W'.w q.tel q.ks u cn→(∀ k,Z6 u=some k→¬ W'.may k∧w0.heap.size≤k)→(∀ z ∈ dec cn,Z5d W'.w (X1 Xc W' u) q.ks (elt q.ks z)) →
   Zly Xc q.tel q.ks w0 q.hs0 R0 r0 e3 W' (some (R0.length,.v (s.nv + es.length))):=by
  intro e3 W' u cn l hu h1 h2 h3 h4 h5 h6 h7 h8 h9
  have ho:Zck e3 (some (R0.length,.v (s.nv + es.length)))=u:=Zyo h1 hu
  have hd:(E.v (s.nv + es.length)).den e3.R e3.r=cn:=by
   simp only [E.den,h2,List.getD]
   rw [List.getElem?_append_right (by rw [h.rep.nv]; omega),h.rep.nv,Nat.add_sub_cancel_left,List.getElem?_append_right (by omega),h3,Nat.sub_self]
   rfl
  refine ⟨⟨[u],h1⟩,⟨xr++(l++[cn]),by rw [h2,hxr,List.append_assoc]⟩,h4,h5,by rw [ho]; exact h6,?_⟩
  dsimp only
  rw [ho,hd]
  refine ⟨by rw [h1]; simp,Nat.le_refl _,?_,h7,h8,h9⟩
  simp only [E.sc,Z18s,h2,List.length_append,h3,h.rep.nv,List.length_cons,List.length_nil]
  omega
 have hargW:∀ {W':Bas} {u:Value},(∀ i ks c,q.hs0[i]?=some (ks,c)→SlX ⟨W'.w,X1 Xc W' u⟩ ks (slV (R0.getD i undef)) (c.den R0 r0))→∀ i ks c,s.hs[i]?=some (ks,c)→SlX W' ks (slV (e.R.getD i undef)) (c.den e.R e.r):=by
  intro W' u hh i ks' c' hi
  rw [hhs] at hi
  obtain ⟨b1,b2⟩:=hhs0 i ks' c' hi
  have e2:c'.den e.R e.r=c'.den R0 r0:=by
   rw [hxr,E.den_app _ _ _ _ b2]
   exact E.den_R _ _ _ _
  rw [e2,hR]
  exact Z132 (hh i ks' c' hi)
 have hhl:s.hs.length≤e.R.length:=by rw [hhs,hlen,hR]; exact Nat.le_refl _
 have key:∀ (n:Nat) (xs:List Int),xs.length=es.length + 1→I xs→μ xs < n→∀ (e2:Env) (W2:Bas) (a:Act) (w:World),LeA e e2→e2.r=e.r++xs→Rel e2 W2 (Z17z R0.length q.pl q.at_ s) a w →
   Zly Xc q.tel q.ks w0 q.hs0 R0 r0 e2 W2 (some (R0.length,.v (s.nv + es.length)))→Z3w (wps P c) (Ax Xc Γ Ψ q w0 R0 r0 bs e k) n a w:=by
  intro n
  induction n with
  | zero=>intro xs _ _ hlt; omega
  | succ n ihn =>
   intro xs hxl hIx hlt e2 W2 a w hle2 her hrel2 hA2
   have hb:=hloop xs hxl hIx
   rw [← her,T.sat_R e.R e2.R] at hb
   rw [Z4h]
   refine Z1r c (hbody _ _ _ (bs++[fun ys=>I ys∧μ ys < μ xs]) e2 W2 a w hrel2 hA2 hfl hflr (by show s.dp + 1=_; rw [hdp]; simp) hb) ?_
   rintro x a' w' ⟨out,rfl,s',acc',e',W',more,hle',hrel',hA',hf,hfr,hd,hsat⟩
   have hle3:=hle2.trans hle'
   have hout:∀ {o:Out},(match frz q R0.length s' acc' with | some s''=>k o s'' acc' | none=>T.fail).sat Γ e'.R Ψ ((bs++[fun ys=>I ys∧μ ys < μ xs])++more) e'.r→Ax Xc Γ Ψ q w0 R0 r0 bs e k o.exitOf a' w':=by
    intro o hsat2
    split at hsat2
    case h_2=>exact hsat2.elim
    rename_i s'' hfz
    unfold frz at hfz
    split at hfz
    case h_2=>cases hfz
    rename_i i c'
    split at hfz
    case isFalse=>cases hfz
    rename_i hcc
    obtain ⟨rfl,hc2⟩:=hcc
    simp only [Option.some.injEq] at hfz
    have hc2:=Z71 hc2
    obtain ⟨a1,a2,a3,a4,a5,a6⟩:=hA'.acc
    obtain ⟨u,hu⟩:∃ u,u=Zck e' (some (R0.length,c')):=⟨_,rfl⟩
    rw [← hu] at a4 a5 a6
    have hrep':=hrel'.rep
    have hrelf:Rel e' W' s'' a' w':=by
     rw [← hfz]
     refine ⟨⟨hrep'.below,hrep'.nb,hrep'.ng,hrep'.nv,hrep'.nx,hrep'.blk,hrep'.own,hrep'.sep,hrep'.row,hrep'.rown,hrep'.rsep,hrep'.brs,hrep'.gl,?_⟩,hrel'.tmps,hrel'.defs⟩
     intro j ks' d hj
     have hj:(s'.hs++[(q.ks,c')])[j]?=some (ks',d):=hj
     rcases Nat.lt_or_ge j s'.hs.length with hlt' | hge
     ·rw [List.getElem?_append_left hlt'] at hj
      exact hrep'.arg j ks' d hj
     ·rw [List.getElem?_append_right hge] at hj
      have hj0:j - s'.hs.length=0:=by
       have:=(List.getElem?_eq_some_iff.1 hj).1
       simp only [List.length_cons,List.length_nil] at this
       omega
      rw [hj0] at hj
      simp only [Z18e,Option.some.injEq,Prod.mk.injEq] at hj
      obtain ⟨rfl,rfl⟩:=hj
      have hjm:j=R0.length:=by
       rw [hc2,hlen] at hge hj0
       omega
      rw [hjm]
      have hval:(G.a R0.length).val e'=u:=by rw [hu]; rfl
      rw [hval]
      unfold SlX
      rw [Z2b]
      refine ⟨⟨a4.sl,fun hne kk hkk hX=>(a5 kk (a4.slBlk hne hkk)).1 (.inr hX)⟩,fun z hz=>?_⟩
      have:=a6 z hz
      clear hval hsat2 ihn hb hloop
      exact Zlz this
    refine ⟨o,rfl,s'',some (R0.length,c'),e',W',[fun ys=>I ys∧μ ys < μ xs]++more,hle3,hrelf,hA',by rw [← hfz]; exact hf,by rw [← hfz]; exact hfr,by rw [← hfz,← List.append_assoc]; exact hd,by rw [← List.append_assoc]; exact hsat2⟩
   cases out with
   | norm =>
    dsimp only at hsat
    split at hsat
    case h_2=>exact hsat.elim
    rename_i i c'
    split at hsat
    case h_2=>exact hsat.elim
    rename_i fs hF'
    split at hsat
    case isFalse=>exact hsat.elim
    rename_i hM'
    have hget:((bs++[fun ys=>I ys∧μ ys < μ xs])++more)[s.dp]?=some (fun ys=>I ys∧μ ys < μ xs):=by
     rw [hdp,List.append_assoc,List.getElem?_append_right (Nat.le_refl _),Nat.sub_self]
     rfl
    have hback:∀ {d:Nat} {es:List E} {Rr:Fo} {r:List Int} {bb:List (List Int→Prop)} {p:List Int→Prop},bb[d]?=some p→(T.back d es).sat Γ Rr Ψ bb r→p (es.map (E.den Rr r)):=by
     intro d es Rr r bb p hp hb
     simp only [T.sat,hp] at hb
     exact hb
    obtain ⟨hIy,hμ⟩:=hback hget hsat
    rw [List.map_append,Z18k,Z18l] at hIy hμ
    obtain ⟨a1,a2,a3,a4,a5,a6⟩:=hA'.acc
    have hfl':=(Ztf (ex:=e') hF').1
    rw [← hR] at hF' hM'
    obtain ⟨u,hu⟩:∃ u,u=Zck e' (some (i,c')):=⟨_,rfl⟩
    have hAr:=hA'.arg
    rw [← hu] at a4 a5 a6 hAr
    have husl:slV u=u:=by rw [hu]; exact Zrd _ _
    obtain ⟨e3,g1,g2,g3,g4⟩:=headA (u:=u) (cn:=c'.den e'.R e'.r) (y:=isA i) h.rep hsc hrel' hle3 hf hfl hrw (Zrc hg0 hgl hA'.below fun k hk=>.inl (hA'.may k (.inr hk))) hF' hM' husl (fun x hx=>by
     unfold isA at hx
     split at hx
     ·rename_i j
      have:j=i:=by simpa using hx
      rw [this,hu]
      rfl
     ·cases hx) hhl (hargW hAr)
    rw [hR] at g4 g3
    refine ihn _ ?_ hIy (by omega) e3 W' a' w' g1 g2 g4 ?_
    ·rw [List.length_append,List.length_map,hfl',hesl]; rfl
    ·exact mkA husl g3 g2 (by rw [List.length_map,hfl',hesl]) hA'.below hA'.may hAr a4 a5 a6
   | exit id=>exact hout (o:=.exit id) hsat
   | ret=>exact hout (o:=.ret) hsat
 have hA0:=A.arg
 obtain ⟨e3,g1,g2,g3,g4⟩:=headA (u:=.slice none 0 0) (cn:=0) (y:=isN) h.rep hsc h (LeA.refl e) hfl hfl hrw (Zrc hg0 hgl A.below fun k hk=>.inl (A.may k (.inr hk))) hF hM rfl hnil hhl (hargW hA0)
 rw [hR] at g4 g3
 refine ⟨_,key _ _ ?_ hI (Nat.lt_succ_self _) e3 W a w g1 ?_ g4 ?_⟩
 ·simp
 ·rw [g2]
  simp [E.den]
 ·refine mkA rfl g3 g2 (by simp) A.below A.may hA0 (.inl ⟨Z2o,none,rfl⟩) (fun k hk=>by simp [Z6] at hk) (fun z hz=>?_)
  rw [Z2o] at hz
  cases hz
end
end Go.Sx
namespace Go.Sx
open Go.RowKit
section
variable {P:Program} {Γ:List Sum} {Ψ:List Int→Prop} {q:Ac} {w0:World} {R0:Fo} {r0:List Int} {Xc:Nat→Prop} {ex:Code→St→Z80→T}
theorem Ztj (hXc:∀ k,Xc k→k < w0.heap.size) (hg0:GlZ q.gl w0 Xc) (hG:Gok P Γ) (hex:IH P Γ ex) (hhs0:∀ i ks c,q.hs0[i]?=some (ks,c)→i < R0.length∧c.sc r0.length=true) (hlen:q.hs0.length=R0.length) (hrel:∀ aZ,Za8 q.ow aZ→Zcs Γ q.g aZ) {id0:Nat} :
    ∀ (c:Code) (s:St) (acc:Option (Nat × E)) (k:Zf4) (bs:List (List Int→Prop)) (e:Env) (W:Bas) (a:Act) (w:World),Rel e W s a w→Zly Xc q.tel q.ks w0 q.hs0 R0 r0 e W acc→s.fl=0→s.flr=0→s.dp=bs.length →
      (Zyn P Γ ex q id0 R0.length c s acc k).sat Γ e.R Ψ bs e.r→wps P c (Ax Xc Γ Ψ q w0 R0 r0 bs e k) a w:=by
  intro c
  induction c with
  | seq x y ihx ihy =>
    intro s acc k bs e W a w h A hfl hflr hdp hs
    simp only [Zyn] at hs
    split at hs
    · refine Z1r x (ihx s acc _ bs e W a w h A hfl hflr hdp hs) ?_
      rintro x' a' w' ⟨out,rfl,s',acc',e',W',more,hle,hrel',A',hf,hfr,hd,hsat⟩
      cases out with
      | norm=>exact Z1r y (hex y s' _ W' Ψ (bs++more) e' a' w' hrel' hd hsat) fun _ _ _ hp=>(px_az A' hf hfr hp).trans hle
      | exit id=>exact ⟨.exit id,rfl,s',acc',e',W',more,hle,hrel',A',hf,hfr,hd,hsat⟩
      | ret=>exact ⟨.ret,rfl,s',acc',e',W',more,hle,hrel',A',hf,hfr,hd,hsat⟩
    · refine Z1r x (hex x s _ W Ψ bs e a w h hdp hs) ?_
      rintro x' a' w' ⟨out,s',e',more,rfl,hle,hrel',hf,hfr,hd,hsat⟩
      cases out with
      | norm=>exact Z1r y (ihy s' acc k (bs++more) e' W a' w' hrel' (A.grow hle) (hf.trans hfl) (hfr.trans hflr) hd hsat) fun _ _ _ hp=>hp.trans (LeA.of hle)
      | exit id=>exact ⟨.exit id,rfl,s',acc,e',W,more,LeA.of hle,hrel',A.grow hle,hf.trans hfl,hfr.trans hflr,hd,hsat⟩
      | ret=>exact ⟨.ret,rfl,s',acc,e',W,more,LeA.of hle,hrel',A.grow hle,hf.trans hfl,hfr.trans hflr,hd,hsat⟩
  | block id body ih =>
    intro s acc k bs e W a w h A hfl hflr hdp hs
    simp only [Zyn] at hs
    refine Z1r body (ih s acc _ bs e W a w h A hfl hflr hdp hs) ?_
    rintro x' a' w' ⟨out,rfl,s',acc',e',W',more,hle,hrel',A',hf,hfr,hd,hsat⟩
    cases out with
    | norm=>exact ⟨.norm,rfl,s',acc',e',W',more,hle,hrel',A',hf,hfr,hd,hsat⟩
    | exit id' =>
      dsimp only at hsat
      show if id'=id then _ else _
      split at hsat
      · rename_i hid
        rw [if_pos hid]
        exact ⟨.norm,rfl,s',acc',e',W',more,hle,hrel',A',hf,hfr,hd,hsat⟩
      · rename_i hid
        rw [if_neg hid]
        exact ⟨.exit id',rfl,s',acc',e',W',more,hle,hrel',A',hf,hfr,hd,hsat⟩
    | ret=>exact ⟨.ret,rfl,s',acc',e',W',more,hle,hrel',A',hf,hfr,hd,hsat⟩
  | loop c ih =>
    intro s acc k bs e W a w h A hfl hflr hdp hs
    simp only [Zyn] at hs
    exact Zyq hg0 hhs0 hlen ih h A hfl hflr hdp hs
  | region id ops d =>
    intro s acc k bs e W a w h A hfl hflr hdp hs
    simp only [Zyn] at hs
    split at hs
    · rename_i hc
      simp only [Z18r,Bool.not_eq_true'] at hc
      obtain ⟨_,rfl⟩:=hc
      exact Zbu (Zf5 hXc hg0 hG hex hhs0 hrel ops.toList s acc bs e W a w h A hfl hflr hdp hs fun a' w' hz=>⟨.norm,rfl,hz⟩)
    · exact hs.elim
  | _=>intro s acc k bs e W a w h A hfl hflr hdp hs; simp only [Zyn] at hs; exact hs.elim
end
section
variable {P:Program} {Γ:List Sum} {Ψ:List Int→Prop} {q:Ac} {Xc:Nat→Prop}
structure Left (Xc:Nat→Prop) (q:Ac) (fin:Option (Nat × E)→St→SV→Option (List E)) (Ψ:List Int→Prop) (R0:Fo) (r0:List Int) (w:World) (x:Ending) (w':World) (e:Env) (W:Bas) (s:St) (acc:Option (Nat × E)) (v:SV) (es:List E):Prop where
 ret:x=.returned (v.den e)
 rep:Rep e W s w'
 R:∃ y,e.R=R0++y
 r:∃ y,e.r=r0++y
 may:∀ k,W.may k→w.heap.size≤k
 below:Below w.heap.size w w'
 accI:Zly Xc q.tel q.ks w q.hs0 R0 r0 e W acc
 fin:fin acc s v=some es
 post:Ψ (es.map (E.den e.R e.r))
theorem Left.sl {fin:Option (Nat × E)→St→SV→Option (List E)} {R0:Fo} {r0:List Int} {w w':World} {x:Ending} {e:Env} {W:Bas} {s:St} {i:Nat} {c:E} {v:SV} {es:List E} (L:Left Xc q fin Ψ R0 r0 w x w' e W s (some (i,c)) v es) (hXc:∀ k,Xc k→k < w.heap.size) :
  Z2b w' Xc (.s 0 q.ks) (Zck e (some (i,c))) (c.den e.R e.r):=by
 obtain ⟨a1,a2,a3,a4,a5,a6⟩:=L.accI.acc
 have hrow:=a4.same fun k hk=>L.rep.below.block k (a5 k hk).1
 have hg:w'.grownBy w' (Z6 (Zck e (some (i,c)))):=⟨rfl,rfl,rfl,Nat.le_refl _,fun _ _ _=>rfl⟩
 rw [Z2b]
 refine ⟨⟨hrow.sl,fun hne k hk hX=>?_⟩,fun z hz=>Za9 (X2:=Xc) L.rep.below hg (fun k hk=>.inr (.inl hk)) (a6 z hz)⟩
 have h1:=(a5 k (hrow.slBlk hne hk)).2
 have h2:=hXc k hX
 omega
end
end Go.Sx
namespace Go.Sx
open Go.RowKit
def amSt (m:Nat) (s:St):Bool:=s.fr.all (SV.am m) && s.mem.all (fun b=>b.cells.all (SC.am m))
theorem Rep.addSl {e:Env} {W0:Bas} {s:St} {w w':World} (h:Rep e W0 s w) (hb:Below w.heap.size w w') (hsc:s.sc=true) (hm:s.hs.length=e.R.length) (ham:amSt e.R.length s=true) {rows:List Row} (hl:rows.length=s.rows.length)
  (hk:∀ (j:Nat) (b:Row),rows[j]?=some b→b.live=true→s.rows[j]?=some b) {ks:List K} {u:Value} {cE:E} {ys:List Int} (hu:slV u=u)
  (hsl:SlX ⟨w',Zzh e { s with rows:=rows }⟩ ks u (cE.den (e.R++[u]) (e.r++ys))) :
  Rep { e with r:=e.r++ys,R:=e.R++[u] } ⟨w',Zzh e { s with rows:=rows }⟩ { s with rows:=rows,nv:=s.nv + ys.length,hs:=s.hs++[(ks,cE)] } w'∧(∀ v ∈ s.fr,v.den { e with r:=e.r++ys,R:=e.R++[u] }=v.den e)∧Zm W0 w' ∧
   ∀ i,(Bas.mk w' (Zzh e { s with rows:=rows })).may i→W0.may i:=by
 have h0:=((h.kill hl hk).grown hb)
 have h1:=h0.rebase
 obtain ⟨W1,hW1⟩:∃ W1:Bas,W1=⟨w',Zzh e { s with rows:=rows }⟩:=⟨_,rfl⟩
 obtain ⟨e2,he2⟩:∃ e2:Env,e2={ e with r:=e.r++ys,R:=e.R++[u] }:=⟨_,rfl⟩
 have hle2:LeA e e2:=⟨ys,[],[],[],[u],by rw [he2],by simp [he2],by simp [he2],by simp [he2],by rw [he2]⟩
 have er:e2.r=e.r++ys:=by rw [he2]
 have eR:e2.R=e.R++[u]:=by rw [he2]
 have eβ:e2.β=e.β:=by rw [he2]
 have eσ:e2.σ=e.σ:=by rw [he2]
 have eω:e2.ω=e.ω:=by rw [he2]
 rw [← he2]
 rw [← hW1] at h1 hsl ⊢
 have hmay:∀ i,W1.may i→W0.may i:=by
  rw [hW1]
  rintro i (hi | hi)
  ·exact .inl (Nat.le_trans h0.below.size hi)
  ·exact Zij h0 hi
 simp only [amSt,Z18r] at ham
 obtain ⟨hamf,hamm⟩:=ham
 have hsc':=hsc
 simp only [St.sc,Z18r] at hsc'
 obtain ⟨⟨scf,scm⟩,scr,sch⟩:=hsc'
 rw [← h.nv,← h.nb,← h.ng] at scf scm
 rw [← h.nx] at scf
 rw [← h.nv] at scr sch
 have hgo:∀ n,(G.o n).val e2=(G.o n).val e:=fun n=>by simp only [G.val,eσ]
 refine ⟨⟨h1.below,?_,?_,?_,?_,?_,?_,?_,?_,?_,?_,?_,?_,?_⟩,fun v hv=>SV.den_up hle2 (List.all_eq_true.1 hamf v hv) (List.all_eq_true.1 scf v hv),h0.below,hmay⟩
 ·rw [eβ]; exact h1.nb
 ·rw [eσ]; exact h1.ng
 ·rw [er,List.length_append,h.nv]
 ·rw [eω]; exact h1.nx
 ·intro n b g1 g2
  rw [eβ,h1.blk n b g1 g2]
  have:b.cells.map (SC.den e2)=b.cells.map (SC.den e):=List.map_congr_left fun cc hcc=>SC.den_up hle2 (List.all_eq_true.1 (List.all_eq_true.1 hamm b (List.mem_of_getElem? g1)) cc hcc) (List.all_eq_true.1 (List.all_eq_true.1 scm b (List.mem_of_getElem? g1)) cc hcc)
  rw [this]
 ·intro n b g1 g2 g3
  rw [eβ]
  exact h1.own n b g1 g2 g3
 ·intro n m b c g1 g2 g3 g4 g5
  rw [eβ] at g5
  exact h1.sep n m b c g1 g2 g3 g4 g5
 ·intro n b g1 g2
  have hcs:=List.all_eq_true.1 scr b (List.mem_of_getElem? (hk n b g1 g2))
  rw [hgo,E.den_A hle2 hcs]
  exact h1.row n b g1 g2
 ·intro n b g1 g2 g3 k g4
  rw [hgo] at g4
  exact h1.rown n b g1 g2 g3 k g4
 ·intro n m b c k g1 g2 g3 g4 g5 g6
  rw [hgo] at g5 g6
  exact h1.rsep n m b c k g1 g2 g3 g4 g5 g6
 ·intro n m b c g1 g2 g3 g4
  rw [hgo,eβ]
  exact h1.brs n m b c g1 g2 g3 g4
 ·exact h1.gl
 ·intro j ks' c' hj
  have hj:(s.hs++[(ks,cE)])[j]?=some (ks',c'):=hj
  rcases Nat.lt_or_ge j s.hs.length with hlt | hge
  ·rw [List.getElem?_append_left hlt] at hj
   have hcs:=List.all_eq_true.1 sch _ (List.mem_of_getElem? hj)
   have e1:(G.a j).val e2=(G.a j).val e:=by
    simp only [G.val,eR]
    rw [Z1l undef (by rw [← hm]; exact hlt)]
   rw [e1,E.den_A hle2 hcs]
   exact h1.arg j ks' c' hj
  ·rw [List.getElem?_append_right hge] at hj
   have hj0:j - s.hs.length=0:=by
    have:=(List.getElem?_eq_some_iff.1 hj).1
    simp only [List.length_cons,List.length_nil] at this
    omega
   rw [hj0] at hj
   simp only [Z18e,Option.some.injEq,Prod.mk.injEq] at hj
   obtain ⟨rfl,rfl⟩:=hj
   have hjm:j=e.R.length:=by omega
   have e1:(G.a j).val e2=u:=by
    simp only [G.val,eR,hjm]
    rw [show (e.R++[u]).getD e.R.length undef=u by simp [List.getD]]
    exact hu
   rw [e1,eR,er]
   exact hsl
end Go.Sx
namespace Go.Sx
open Go.RowKit
noncomputable def obV (e:Env):Option B→List Int
 | none=>[]
 | some b=>[if b.den e.R e.r=true then 1 else 0]
def doneB (P:Program) (F:Func) (fin:Option (Nat × E)→St→SV→Option (Option B × List E)):Zf4:=fun o s acc=>match o with
 | .exit _=>.fail
 | _=>match Zcw P F s with
  | some v=>(match fin acc s v with
   | some (none,es)=>.ret es
   | some (some b,es)=>.ite b (.ret (es++[.c 1])) (.ret (es++[.c 0]))
   | none=>.fail)
  | none=>.fail
def Z133 (P:Program) (lp:St→Code→Option Zai) (Γ:List Sum) (q:Ac) (id0:Nat) (fin:Option (Nat × E)→St→SV→Option (Option B × List E)) (fuel:Nat) (fn:FuncId) (ps:List Sh):T:=match P.funcs[fn]? with
 | some F=>match F.body with
  | some body=>if Zaa q.hs0 (hsE (Z3u ps) (Z8 0 (Zg ps))) && (q.hs0.all (fun p=>p.2.sc (Zg ps)) && decide (q.hs0.length=(Z1v (Z3u ps) (Z8 0 (Zg ps))).length)) then
    Zyn P Γ (Zfq P lp Γ fuel) q id0 q.hs0.length body ⟨Z6f ps F.ntmps,[],[],Zg ps,0,0,0,q.gl,hsE (Z3u ps) (Z8 0 (Zg ps)),0⟩ none (doneB P F fin) else .fail
  | none=>.fail
 | none=>.fail
section
variable {P:Program} {Γ:List Sum} {Ψ:List Int→Prop} {q:Ac} {Xc:Nat→Prop}
structure Zyr (Xc:Nat→Prop) (q:Ac) (fin:Option (Nat × E)→St→SV→Option (Option B × List E)) (Ψ:List Int→Prop) (R0:Fo) (r0:List Int) (w:World) (x:Ending) (w':World) (e:Env) (W:Bas) (s:St) (acc:Option (Nat × E)) (v:SV) (ob:Option B) (es:List E):Prop where
 ret:x=.returned (v.den e)
 rep:Rep e W s w'
 R:∃ y,e.R=R0++y
 r:∃ y,e.r=r0++y
 may:∀ k,W.may k→w.heap.size≤k
 below:Below w.heap.size w w'
 accI:Zly Xc q.tel q.ks w q.hs0 R0 r0 e W acc
 fin:fin acc s v=some (ob,es)
 post:Ψ (es.map (E.den e.R e.r)++obV e ob)
theorem Zog {w:World} (hXc:∀ k,Xc k→k < w.heap.size) (hg0:GlZ q.gl w Xc) (hm:P.follows .mixedOrders=true) (hG:Gok P Γ) (hrel:∀ aZ,Za8 q.ow aZ→Zcs Γ q.g aZ) {id0:Nat} {fin:Option (Nat × E)→St→SV→Option (Option B × List E)} {lp:St→Code→Option Zai} {fuel:Nat} {fn:FuncId} {ps:List Sh} {xs:List Int} {vs:List Value}
  (hx:Z63 (fun _ ks u n=>Z2b w Xc (.s 0 ks) u n) ps vs xs) (hs:(Z133 P lp Γ q id0 fin fuel fn ps).sat Γ [] Ψ [] xs) :
  Calls P fn vs.toArray w fun x w'=>∃ e W s acc v ob es,Zyr Xc q fin Ψ (Z9 ps vs) xs w x w' e W s acc v ob es:=by
 unfold Z133 at hs
 split at hs
 case h_2=>exact hs.elim
 rename_i F hF
 split at hs
 case h_2=>exact hs.elim
 rename_i body hb
 split at hs
 case isFalse=>exact hs.elim
 rename_i hck
 simp only [Z18r,Z18s] at hck
 obtain ⟨hq,hqs,hql⟩:=hck
 have hq:=Z71 hq
 have hxl:=hx.len.1
 have hv:(Z8 0 (Zg ps)).map (E.den (Z9 ps vs) xs)=xs:=by
  have:=Z2f (R:=Z9 ps vs) (r:=[]) hxl
  simpa using this
 have hx':Z63 (fun _ ks u n=>Z2b w Xc (.s 0 ks) u n) ps vs ((Z8 0 (Zg ps)).map (E.den (⟨xs,[],[],[],Z9 ps vs⟩:Env).R (⟨xs,[],[],[],Z9 ps vs⟩:Env).r)):=by
  show Z63 _ ps vs ((Z8 0 (Zg ps)).map (E.den (Z9 ps vs) xs))
  rw [hv]; exact hx
 obtain ⟨r1,r2⟩:=Z2d hx'
 have hsl:∀ (j:Nat) (u:Value),(Z9 ps vs)[j]?=some u→∃ a l cp,u=.slice a l cp:=fun j u hj=>by
  obtain ⟨b,hb'⟩:∃ b,(Z1v (Z3u ps) (Z8 0 (Zg ps)))[j]?=some b:=⟨_,List.getElem?_eq_getElem (by rw [← r1]; exact (List.getElem?_eq_some_iff.1 hj).1)⟩
  exact (r2 j b u hb' hj).base.1.slice
 have hden:((Zcv Zos 0 ps (Z8 0 (Zg ps))).map SV.w).map (SV.den ⟨xs,[],[],[],Z9 ps vs⟩)=vs:=by
  rw [List.map_map]
  refine Z99 (e:=⟨xs,[],[],[],Z9 ps vs⟩) hx' fun j u hj=>?_
  simp only [Zos,SC.den,G.val,Nat.zero_add,List.getD,hj,Option.getD_some]
  exact Zdm (hsl j u hj)
 have harg:∀ i ks c,(hsE (Z3u ps) (Z8 0 (Zg ps)))[i]?=some (ks,c)→Z2b w Xc (.s 0 ks) (slV ((Z9 ps vs).getD i undef)) (c.den (Z9 ps vs) xs):=by
  intro i ks c hi
  obtain ⟨ty,hr⟩:=Z7l hi
  have hlt:i < (Z9 ps vs).length:=by rw [r1]; exact (List.getElem?_eq_some_iff.1 hr).1
  have hu:(Z9 ps vs)[i]?=some (Z9 ps vs)[i]:=List.getElem?_eq_getElem hlt
  have:=r2 i _ _ hr hu
  rw [show (Z9 ps vs).getD i undef=(Z9 ps vs)[i] by simp [List.getD,hu],Zdm (hsl i _ hu)]
  exact this
 have hrep:Rep ⟨xs,[],[],[],Z9 ps vs⟩ ⟨w,fun _=>False⟩ ⟨Z6f ps F.ntmps,[],[],Zg ps,0,0,0,q.gl,hsE (Z3u ps) (Z8 0 (Zg ps)),0⟩ w:=by
  refine ⟨Zm.refl _,rfl,rfl,hxl,rfl,?_,?_,?_,?_,?_,?_,?_,⟨hg0.1,fun _ _ _ hh=>hh⟩,fun i ks c hi=>Z70 (fun _ _ _ h _=>⟨h,fun _ _ _ hh=>hh⟩) (harg i ks c hi)⟩
  ·intro n b hb; simp at hb
  ·intro n b hb; simp at hb
  ·intro n m b c hb; simp at hb
  ·intro n b hb; simp at hb
  ·intro n b hb; simp at hb
  ·intro n m b c k hb; simp at hb
  ·intro n m b c hb; simp at hb
 have hrl:Rel ⟨xs,[],[],[],Z9 ps vs⟩ ⟨w,fun _=>False⟩ ⟨Z6f ps F.ntmps,[],[],Zg ps,0,0,0,q.gl,hsE (Z3u ps) (Z8 0 (Zg ps)),0⟩ { tmps:=vs.toArray++Array.replicate (F.ntmps - vs.toArray.size) undef,defers:=[] } w:=by
  refine ⟨hrep,?_,rfl⟩
  apply Array.ext'
  have hl:((Zcv Zos 0 ps (Z8 0 (Zg ps))).map SV.w).length=vs.length:=by rw [← hden]; simp
  rw [Array.toList_append,List.toList_toArray]
  show vs++(Array.replicate (F.ntmps - vs.toArray.size) undef).toList=((((Zcv Zos 0 ps (Z8 0 (Zg ps))).map SV.w)++List.replicate (F.ntmps - ((Zcv Zos 0 ps (Z8 0 (Zg ps))).map SV.w).length) Z5).map (SV.den ⟨xs,[],[],[],Z9 ps vs⟩))
  rw [List.map_append,hden,hl]
  simp [Z7f]
 have hlen:q.hs0.length=(Z9 ps vs).length:=hql.trans r1.symm
 have hA:Zly Xc q.tel q.ks w q.hs0 (Z9 ps vs) xs ⟨xs,[],[],[],Z9 ps vs⟩ ⟨w,fun _=>False⟩ none:=by
  refine ⟨⟨[],by simp⟩,⟨[],by simp⟩,Zm.refl _,fun k hk=>?_,fun i ks c hi=>?_,rfl⟩
  ·rcases hk with hk | hk
   ·exact hk
   ·exact hk.elim
  ·rw [hq] at hi
   refine Z70 (fun _ _ _ h hx=>⟨h,fun hne k hk hX=>?_⟩) (harg i ks c hi)
   rcases hX with (hX | hX) | hX
   ·exact hX
   ·exact hx hne k hk hX
   ·simp [Zck,Z6] at hX
 have hhs0:∀ i ks c,q.hs0[i]?=some (ks,c)→i < (Z9 ps vs).length∧c.sc xs.length=true:=fun i ks c hi=>⟨by rw [← hlen]; exact (List.getElem?_eq_some_iff.1 hi).1,by rw [hxl]; exact List.all_eq_true.1 hqs _ (List.mem_of_getElem? hi)⟩
 rw [T.sat_R [] (Z9 ps vs),hlen] at hs
 refine calls_of_wp hF hb ?_
 refine wp_mono (Zfv _ (Ztj hXc hg0 hG (Z7k hm (lp:=lp) hG fuel) hhs0 hlen hrel body _ none _ [] _ _ _ w hrl hA rfl rfl rfl hs)) ?_
 rintro x a' w' ⟨out,rfl,s',acc',e',W',more,hle,hrel',A',hf,hfr,hd,hsat⟩
 have hfin:(∀ id,out ≠ .exit id)∧∃ v ob es,Zcw P F s'=some v∧fin acc' s' v=some (ob,es)∧Ψ (es.map (E.den e'.R e'.r)++obV e' ob):=by
  have key:(match Zcw P F s' with | some v=>(match fin acc' s' v with | some (none,es)=>T.ret es | some (some b,es)=>.ite b (.ret (es++[.c 1])) (.ret (es++[.c 0])) | none=>.fail) | none=>.fail:T).sat Γ e'.R Ψ ([]++more) e'.r→∃ v ob es,Zcw P F s'=some v∧fin acc' s' v=some (ob,es)∧Ψ (es.map (E.den e'.R e'.r)++obV e' ob):=by
   intro hs
   split at hs
   ·rename_i v hv
    split at hs
    ·rename_i es hes
     exact ⟨v,none,es,hv,hes,by rw [show obV e' none=[] from rfl,List.append_nil]; exact hs⟩
    ·rename_i b es hes
     refine ⟨v,some b,es,hv,hes,?_⟩
     obtain ⟨hs1,hs2⟩:=hs
     have h1:b.den e'.R e'.r=true→Ψ ((es++[E.c 1]).map (E.den e'.R e'.r)):=hs1
     have h2:b.den e'.R e'.r=false→Ψ ((es++[E.c 0]).map (E.den e'.R e'.r)):=hs2
     rw [List.map_append] at h1 h2
     show Ψ (es.map (E.den e'.R e'.r)++[if b.den e'.R e'.r=true then 1 else 0])
     cases hb:b.den e'.R e'.r with
     | true=>exact h1 hb
     | false=>exact h2 hb
    ·exact hs.elim
   ·exact hs.elim
  cases out with
  | norm=>exact ⟨fun _ h=>(by cases h),key hsat⟩
  | exit id=>exact hsat.elim
  | ret=>exact ⟨fun _ h=>(by cases h),key hsat⟩
 obtain ⟨hne,v,ob,es,h1,h2,h3⟩:=hfin
 have hb0:Zm ⟨w,fun _=>False⟩ w':=A'.below.trans hrel'.rep.below fun k hk=>.inl (A'.may k hk)
 have hL:∃ e W s acc v' ob es,Zyr Xc q fin Ψ (Z9 ps vs) xs w (.returned (v.den e')) w' e W s acc v' ob es:=⟨e',W',s',acc',v,ob,es,rfl,hrel'.rep,A'.R,A'.r,A'.may,hb0.below,A',h2,h3⟩
 cases out with
 | norm=>exact ⟨hrel'.defs,_,Z9a hrel' h1,hL⟩
 | exit id=>exact absurd rfl (hne id)
 | ret=>exact ⟨hrel'.defs,_,Z9a hrel' h1,hL⟩
theorem Zys {w:World} (hXc:∀ k,Xc k→k < w.heap.size) (hg0:GlZ q.gl w Xc) (hm:P.follows .mixedOrders=true) (hG:Gok P Γ) (hrel:∀ aZ,Za8 q.ow aZ→Zcs Γ q.g aZ) {id0:Nat} {fin:Option (Nat × E)→St→SV→Option (Option B × List E)} {lp:St→Code→Option Zai} {lv:List (Nat × List (Option Iv))} {outs:List Inf} {vv:List (Option Iv)} {fuel:Nat} {fn:FuncId} {ps:List Sh} {t:TX} (ho:Zr Γ outs)
  (ht:Z17 (Zu lv outs [] vv (Z133 P lp Γ q id0 fin fuel fn ps))=t) {xs:List Int} {vs:List Value} (hx:Z63 (fun _ ks u n=>Z2b w Xc (.s 0 ks) u n) ps vs xs) (hv:Zq vv xs) (hs:t.sat Γ [] Ψ [] xs) :
  Calls P fn vs.toArray w fun x w'=>∃ e W s acc v ob es,Zyr Xc q fin Ψ (Z9 ps vs) xs w x w' e W s acc v ob es:=by
 subst ht
 exact Zog hXc hg0 hm hG hrel hx (Z8m ho _ [] vv [] xs Z8n hv (Ze4 _ _ _ hs))
theorem Zyr.sl {fin:Option (Nat × E)→St→SV→Option (Option B × List E)} {R0:Fo} {r0:List Int} {w w':World} {x:Ending} {e:Env} {W:Bas} {s:St} {i:Nat} {c:E} {v:SV} {ob:Option B} {es:List E} (L:Zyr Xc q fin Ψ R0 r0 w x w' e W s (some (i,c)) v ob es) (hXc:∀ k,Xc k→k < w.heap.size) :
  Z2b w' Xc (.s 0 q.ks) (Zck e (some (i,c))) (c.den e.R e.r):=by
 obtain ⟨a1,a2,a3,a4,a5,a6⟩:=L.accI.acc
 have hrow:=a4.same fun k hk=>L.rep.below.block k (a5 k hk).1
 have hg:w'.grownBy w' (Z6 (Zck e (some (i,c)))):=⟨rfl,rfl,rfl,Nat.le_refl _,fun _ _ _=>rfl⟩
 rw [Z2b]
 refine ⟨⟨hrow.sl,fun hne k hk hX=>?_⟩,fun z hz=>Za9 (X2:=Xc) L.rep.below hg (fun k hk=>.inr (.inl hk)) (a6 z hz)⟩
 have h1:=(a5 k (hrow.slBlk hne hk)).2
 have h2:=hXc k hX
 omega
end
end Go.Sx
namespace Go.Proofs.Ytgcoidbaoigkeaa.fix
open Go.RowKit Go.Sx
noncomputable def Z182:Sum:=mkP [] 99999 [] [] (fun l=>l ≠ []) (fun _=>[])
def Ztk:Inf:=⟨[some ⟨1,0⟩],fun _=>[]⟩
def Zcm:List Bool:=true::List.replicate 17 false
noncomputable def Z183:Sum:=mkP [] 99999 [] [] (Za8 Zcm) (fun _=>[])
def Z7y (x:List Int):List Int:=[IntKind.i64.wrap (x.getD 0 0 + x.getD 3 0),IntKind.i64.wrap (x.getD 1 0 + x.getD 4 0),IntKind.i64.wrap (x.getD 2 0 + x.getD 5 0)]
def Ziz:List (Option Iv):=zs 6
def Z134 (v:List (Option Iv)):List (Option Iv):=zs 3
def Zf6:Sum:=mkS gl0 33 [An 3,An 3] [An 3] Ziz Z7y
def Z14y:Inf:=⟨Ziz,Z134⟩
noncomputable def Zb6:List Sum:=[Z182,Z183,Zf6,Z3q,Z4k]
def Zyt:List Inf:=[Ztk,Ztk,Z14y,Zi6,Zc2]
def un_ (n:Nat):List Fk:=List.replicate n .un
def Zyu:Ac:=⟨83,Z3d,[(Z3d,.v 0),(Z68,.v 1)],Zcm,0,[.un,.un,.un,.keep,.keep,.keep,.keep,.keep,.un,.keep,.num .i64]++un_ 73,(5,0),gl0⟩
def isG (i:Nat):SC→Bool
 | .go (.a j)=>j == i
 | _=>false
def isI:SC→Option E
 | .i .i64 e=>some e
 | _=>none
def isIs:List SC→Option (List E)
 | []=>some []
 | c::cs=>match isI c,isIs cs with
  | some e,some es=>some (e::es)
  | _,_=>none
def isB:SC→Option B
 | .b x=>some x
 | _=>none
def Zf7:Option (Nat × E)→St→SV→Option (Option B × List E)
 | some (i,c),s,.t [.a [a,b],.a cam,.o bb]=>if isG i a && isG 1 b then (match isIs cam,isB bb with
  | some es,some x=>some (some x,c::es)
  | _,_=>none) else none
 | _,_,_=>none
end Go.Proofs.Ytgcoidbaoigkeaa.fix
