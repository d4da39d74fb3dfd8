/-
  Symbolic execution of the model, and what functions of the program come to: part 2.
-/
import Derived.Deep.AppendLies
import Derived.Laws.OwnMore
import Derived.Test.YtgcoidbaoigkeaaPka
set_option linter.unusedVariables false
set_option linter.unusedSimpArgs false
open List renaming getElem?_cons_zero → Z18e, getElem?_cons_succ → Z18f, getD_cons_zero → Z18g, getD_cons_succ → Z18h, cons_append → Z18i, nil_append → Z18j, map_cons → Z18k, map_nil → Z18l
namespace Go.Sx
open Go.RowKit
structure Rel (e:Env) (W0:Bas) (s:St) (a:Act) (w:World):Prop where
 rep:Rep e W0 s w
 tmps:a.tmps=(s.fr.map (SV.den e)).toArray
 defs:a.defers=[]
theorem Rep.fr {e:Env} {W0:Bas} {s:St} {w:World} (h:Rep e W0 s w) (x:List SV):Rep e W0 { s with fr:=x } w :=
 ⟨h.below,h.nb,h.ng,h.nv,h.nx,h.blk,h.own,h.sep,h.row,h.rown,h.rsep,h.brs,h.gl,h.arg⟩
theorem Rel.eval {e:Env} {W0:Bas} {s:St} {a:Act} {w:World} (h:Rel e W0 s a w) (x:Operand):a.eval x=(s.ev x).den e:=by
 cases x with
 | tmp t =>
  simp only [Act.eval,St.ev,h.tmps]
  by_cases ht:t < s.fr.length
  ·simp [List.getD,ht]
  ·simp [List.getD,ht,Z5,SV.den,undef]
 | const v=>simp [Act.eval,St.ev,SV.den]
 | global g=>rfl
 | func f=>rfl
theorem Rel.put {e:Env} {W0:Bas} {s:St} {a:Act} {w:World} (h:Rel e W0 s a w) (dst:Option Tmp) (v:SV):Rel e W0 (s.put dst v) (a.put dst (v.den e)) w:=by
 cases dst with
 | none=>exact h
 | some d =>
  refine ⟨h.rep.fr _,?_,h.defs⟩
  simp only [St.put,Act.put,h.tmps]
  apply Array.ext'
  simp [List.map_set]
theorem Zn (s:St) (dst:Option Tmp) (v:SV):(s.put dst v).mem=s.mem∧(s.put dst v).rows=s.rows∧(s.put dst v).nv=s.nv∧(s.put dst v).nx=s.nx∧(s.put dst v).fl=s.fl∧(s.put dst v).flr=s.flr:=by
 cases dst <;> exact ⟨rfl,rfl,rfl,rfl,rfl,rfl⟩
theorem Z13z (s:St) (dst:Option Tmp) (v:SV):(s.put dst v).gl=s.gl:=by
 cases dst <;> rfl
theorem Z140 (s:St) (dst:Option Tmp) (v:SV):(s.put dst v).hs=s.hs:=by
 cases dst <;> rfl
theorem Z4v (s:St) (dst:Option Tmp) (v:SV):(s.put dst v).dp=s.dp:=by
 cases dst <;> rfl
theorem Rep.grown {e:Env} {W0:Bas} {s:St} {w w':World} (h:Rep e W0 s w) (hb:Below w.heap.size w w'):Rep e W0 s w':=by
 refine ⟨h.below.grow hb,h.nb,h.ng,h.nv,h.nx,?_,h.own,h.sep,?_,h.rown,h.rsep,h.brs,h.gl,h.arg⟩
 ·intro n b hn hl
  have:=h.blk n b hn hl
  rw [hb.block _ (Z1g this)]
  exact this
 ·intro n b hn hl
  exact (h.row n b hn hl).kept (row:=none) ⟨hb.os,hb.tape,hb.output,hb.size,fun k hk _=>hb.block k hk⟩ (fun k _ hk=>by cases hk)
section
variable {Γ:List Sum} {R:Fo} {Ψ:List Int→Prop} {bs:List (List Int→Prop)} {r:List Int}
theorem Z22 {aZ:List B} {t:T} (h:(Z3m aZ t).sat Γ R Ψ bs r):(∀ b ∈ aZ,b.den R r=true)∧t.sat Γ R Ψ bs r:=by
 induction aZ with
 | nil=>exact ⟨by simp,h⟩
 | cons b l ih =>
  have key:b.den R r=true∧(Z3m l t).sat Γ R Ψ bs r:=by
   unfold Z3m at h
   split at h
   ·rename_i heq
    cases heq
   ·rename_i heq
    simp only [List.cons.injEq] at heq
    obtain ⟨rfl,rfl⟩:=heq
    exact ⟨rfl,h⟩
   ·rename_i heq
    simp only [List.cons.injEq] at heq
    obtain ⟨rfl,rfl⟩:=heq
    exact h
  obtain ⟨h3,h4⟩:=ih key.2
  refine ⟨?_,h4⟩
  intro c hc
  rcases List.mem_cons.1 hc with rfl | hc
  ·exact key.1
  ·exact h3 c hc
end
variable {P:Program} {Γ:List Sum} {Ψ:List Int→Prop} {bs:List (List Int→Prop)}
theorem Z7e {s:St} {t:Tmp} {b:B} (h:Zfm s t=some b):t < s.fr.length∧s.fr.getD t Z5=one (.b b):=by
 unfold Zfm at h
 split at h
 ·rename_i x hx
  simp only [Option.some.injEq] at h
  subst h
  refine ⟨?_,hx⟩
  rcases Nat.lt_or_ge t s.fr.length with ht | ht
  ·exact ht
  ·simp [List.getD,List.getElem?_eq_none ht,Z5] at hx
 ·cases h
theorem Rel.setB {e:Env} {W0:Bas} {s:St} {a:Act} {w:World} (h:Rel e W0 s a w) {t:Tmp} {b:B} (hb:Zfm s t=some b) (x:Bool) (hx:b.den e.R e.r=x):Rel e W0 (s.put (some t) (one (.b (.c x)))) a w:=by
 obtain ⟨ht,hs⟩:=Z7e hb
 refine ⟨h.rep.fr _,?_,h.defs⟩
 simp only [St.put,h.tmps]
 congr 1
 apply List.ext_getElem?
 intro j
 simp only [List.getElem?_map,List.getElem?_set]
 split
 ·rename_i hj
  subst hj
  have:s.fr[t]?=some (one (.b b)):=by simpa [List.getD,ht] using hs
  rw [this]
  simp [one,SV.den,SW.den,SC.den,B.den,hx]
 ·rfl
theorem Z4w {e:Env} {W0:Bas} {s:St} {a:Act} {w:World} {t:Option Tmp} {k:St→T} (h:Rel e W0 s a w) (hs:(Zfn t s k).sat Γ e.R Ψ bs e.r) :
  ∃ x,Rel e W0 { s with fr:=x } a w∧(k { s with fr:=x }).sat Γ e.R Ψ bs e.r:=by
 unfold Zfn at hs
 split at hs
 ·exact ⟨s.fr,h,hs⟩
 ·rename_i t
  split at hs
  ·exact ⟨s.fr,h,hs⟩
  ·rename_i b _ hb
   obtain ⟨h1,h2⟩:=hs
   cases hx:b.den e.R e.r with
   | true=>exact ⟨_,h.setB hb true hx,h1 hx⟩
   | false=>exact ⟨_,h.setB hb false hx,h2 hx⟩
  ·exact ⟨s.fr,h,hs⟩
theorem Zmp (e:Env):Z5.den e=undef:=rfl
theorem Z4i {e:Env} {W0:Bas} {s:St} {a:Act} {w:World} {ops:Array Oper} {o:Oper} {x:Bool} (h:Rel e W0 s a w) (hw:Zaf ops s o=some x):Region.wanted o (yielded ops a.tmps)=x:=by
 unfold Zaf at hw
 unfold Region.wanted
 split at hw
 ·rename_i hg
  simp only [hg]
  simpa using hw
 ·rename_i j want hg
  simp only [hg]
  split at hw
  ·rename_i t ht
   split at hw
   ·rename_i hlt
    split at hw
    ·rename_i y hs
     simp only [Option.some.injEq] at hw
     have:a.tmps[t]?=some (.bool y):=by
      rw [h.tmps]
      have:s.fr[t]?=some (one (.b (.c y))):=by simpa [List.getD,hlt,one,Z5] using hs
      simp [this,one,SV.den,SW.den,SC.den,B.den]
     simp only [yielded,ht,Option.bind_some,this]
     rw [← hw]
     cases y <;> cases want <;> rfl
    ·rename_i hs
     simp only [Option.some.injEq] at hw
     have:a.tmps[t]?=some undef:=by
      rw [h.tmps]
      have:s.fr[t]?=some Z5:=by simpa [List.getD,hlt,one,Z5] using hs
      simp [this,Zmp]
     simp only [yielded,ht,Option.bind_some,this]
     rw [← hw]
     rfl
    ·cases hw
   ·cases hw
  ·cases hw
def Nx (Γ:List Sum) (Ψ:List Int→Prop) (bs:List (List Int→Prop)) (W0:Bas) (e:Env) (fl flr:Nat) (k:St→T) (a:Act) (w:World):Prop :=
 ∃ s' e' more,Env.le e e'∧Rel e' W0 s' a w∧s'.fl=fl∧s'.flr=flr∧s'.dp=(bs++more).length∧(k s').sat Γ e'.R Ψ (bs++more) e'.r
theorem Nx.here {Γ:List Sum} {Ψ:List Int→Prop} {bs:List (List Int→Prop)} {W0:Bas} {e:Env} {fl flr:Nat} {k:St→T} {a:Act} {w:World} {s':St} {e':Env}
  (h1:Env.le e e') (h2:Rel e' W0 s' a w) (h3:s'.fl=fl) (h4:s'.flr=flr) (h5:s'.dp=bs.length) (h6:(k s').sat Γ e'.R Ψ bs e'.r):Nx Γ Ψ bs W0 e fl flr k a w :=
 ⟨s',e',[],h1,h2,h3,h4,by simpa using h5,by simpa using h6⟩
def Out.exitOf:Out→Exit
 | .norm=>.normal
 | .exit id=>.exit id
 | .ret=>.ret
def Px (Γ:List Sum) (Ψ:List Int→Prop) (bs:List (List Int→Prop)) (W0:Bas) (e:Env) (fl flr:Nat) (k:Z80) (x:Exit) (a:Act) (w:World):Prop :=
 ∃ out s' e' more,x=out.exitOf∧Env.le e e'∧Rel e' W0 s' a w∧s'.fl=fl∧s'.flr=flr∧s'.dp=(bs++more).length∧(k out s').sat Γ e'.R Ψ (bs++more) e'.r
theorem Px.here {Γ:List Sum} {Ψ:List Int→Prop} {bs:List (List Int→Prop)} {W0:Bas} {e:Env} {fl flr:Nat} {k:Z80} {x:Exit} {a:Act} {w:World} {out:Out} {s':St} {e':Env}
  (h0:x=out.exitOf) (h1:Env.le e e') (h2:Rel e' W0 s' a w) (h3:s'.fl=fl) (h4:s'.flr=flr) (h5:s'.dp=bs.length) (h6:(k out s').sat Γ e'.R Ψ bs e'.r):Px Γ Ψ bs W0 e fl flr k x a w :=
 ⟨out,s',e',[],h0,h1,h2,h3,h4,by simpa using h5,by simpa using h6⟩
def IH (P:Program) (Γ:List Sum) (ih:Code→St→Z80→T):Prop :=
  ∀ (c:Code) (s:St) (k:Z80) (W0:Bas) (Ψ:List Int→Prop) (bs:List (List Int→Prop)) (e:Env) (a:Act) (w:World),
    Rel e W0 s a w→s.dp=bs.length→(ih c s k).sat Γ e.R Ψ bs e.r→wps P c (Px Γ Ψ bs W0 e s.fl s.flr k) a w
theorem Z103 {e:Env} {W0:Bas} {s s':St} {a:Act} {w:World} {o:Oper} {v:SV} {k:St→T} {Q:Exit→Act→World→Prop} (h:Rel e W0 s a w) (ho:Zp P e W0 s s' o a.eval v w) (hdp:s.dp=bs.length)
  (hs:(k (s'.put o.dst v)).sat Γ e.R Ψ bs e.r):o.wp P a w (Nx Γ Ψ bs W0 e s.fl s.flr k) Q:=by
 obtain ⟨h1,h2,h3,h4,h5,h6,e',w',nx,hr,hnx,hrep,hle,hr',hR,hω,hfr⟩:=ho
 have hrel:Rel e' W0 s' a w':=⟨hrep,by
  rw [h.tmps,h1]
  congr 1
  exact List.map_congr_left fun x hx=>(hfr x hx).symm,h.defs⟩
 have hfin:Nx Γ Ψ bs W0 e s.fl s.flr k (a.put o.dst (v.den e')) w' :=
  Nx.here hle (hrel.put o.dst v) ((Zn s' o.dst v).2.2.2.2.1.trans h4) ((Zn s' o.dst v).2.2.2.2.2.trans h5) ((Z4v _ _ _).trans (h6.trans hdp)) (by rw [hr',hR]; exact hs)
 unfold Oper.wp
 rw [hr]
 rcases hnx with rfl | ⟨rfl,hu⟩
 ·exact hfin
 ·simp only [Oper.upon_skip]
  rw [← hu]
  exact hfin
theorem Z26:∀ {a b:List K},Z39 a b=true→a=b
 | [],[],_=>rfl
 | x::xs,y::ys,h=>by
  simp only [Z39,Z18r] at h
  have h1:x=y:=by
   cases x <;> cases y <;> simp_all [K.same]
  rw [h1,Z26 h.2]
 | [],_::_,h=>by simp [Z39] at h
 | _::_,[],h=>by simp [Z39] at h
theorem Zg4 {e:Env} {ks:List K}:∀ {n:Nat} {cs:List SC} {l:List E},Zba ks n cs=some l→n * ks.length≤cs.length →
  l.length=n∧(∀ x ∈ l.map (E.den e.R e.r),(elt ks x).length=ks.length)∧Zb ks (l.map (E.den e.R e.r))=(cs.map (SC.den e)).take (n * ks.length)
 | 0,cs,l,h,_=>by simp only [Zba,Option.some.injEq] at h; subst h; simp [Zb]
 | n + 1,cs,l,h,hle=>by
  rw [Nat.add_mul,Nat.one_mul] at hle
  simp only [Zba] at h
  split at h
  ·rename_i es l' h1 h2
   simp only [Option.some.injEq] at h
   subst h
   obtain ⟨a1,a2,a3⟩:=Zg4 (e:=e) h2 (by simp; omega)
   obtain ⟨b1,b2⟩:=Z2p (e:=e) h1
   have hel:elt ks ((Z2i es).den e.R e.r)=es.map (E.den e.R e.r):=Z92 _ _ b1
   refine ⟨by simp [a1],?_,?_⟩
   ·intro x hx
    simp only [Z18k,List.mem_cons] at hx
    rcases hx with rfl | hx
    ·rw [hel]; simpa using b1
    ·exact a2 x hx
   ·simp only [Zb,Z18k,List.flatMap_cons,hel] at a3 ⊢
    rw [a3,← b2,Nat.add_mul,Nat.one_mul,Nat.add_comm (n * ks.length),List.take_add,List.map_take,List.map_drop]
  ·cases h
theorem Zd5 {ks:List K} {l:List Int} (h:∀ x ∈ l,(elt ks x).length=ks.length) (n:Nat):Zb ks (l.take n)=(Zb ks l).take (n * ks.length):=by
 have h1:Zb ks l=Zb ks (l.take n)++Zb ks (l.drop n):=by rw [← Z78,List.take_append_drop]
 by_cases hn:n≤l.length
 ·have h2:(Zb ks (l.take n)).length=n * ks.length:=by rw [Zl (fun x hx=>h x (List.mem_of_mem_take hx)),List.length_take,Nat.min_eq_left hn]
  rw [h1,← h2,List.take_left]
 ·rw [List.take_of_length_le (by omega),List.take_of_length_le]
  rw [Zl h]
  exact Nat.mul_le_mul_right _ (by omega)
theorem Zmq {ks:List K} {l:List Int} (h:∀ x ∈ l,(elt ks x).length=ks.length) (n:Nat):Zb ks (l.drop n)=(Zb ks l).drop (n * ks.length):=by
 have h1:Zb ks l=Zb ks (l.take n)++Zb ks (l.drop n):=by rw [← Z78,List.take_append_drop]
 by_cases hn:n≤l.length
 ·have h2:(Zb ks (l.take n)).length=n * ks.length:=by rw [Zl (fun x hx=>h x (List.mem_of_mem_take hx)),List.length_take,Nat.min_eq_left hn]
  rw [h1,← h2,List.drop_left]
 ·rw [List.drop_of_length_le (by omega),List.drop_of_length_le]
  ·rfl
  rw [Zl h]
  exact Nat.mul_le_mul_right _ (by omega)
theorem Z3n:∀ {a b:List K},Z4d a b=true→a=b
 | [],[],_=>rfl
 | .i x::xs,.i y::ys,h=>by
  simp only [Z4d,Z18r,beq_iff_eq] at h
  rw [h.1,Z3n h.2]
 | .b::xs,.b::ys,h=>by
  simp only [Z4d] at h
  rw [Z3n h]
 | .s t a::xs,.s u b::ys,h=>by
  simp only [Z4d,Z18r,beq_iff_eq] at h
  rw [h.1.1,Z26 h.1.2,Z3n h.2]
 | [],_::_,h=>by simp [Z4d] at h
 | .i _::_,[],h=>by simp [Z4d] at h
 | .b::_,[],h=>by simp [Z4d] at h
 | .s _ _::_,[],h=>by simp [Z4d] at h
 | .i _::_,.b::_,h=>by simp [Z4d] at h
 | .i _::_,.s _ _::_,h=>by simp [Z4d] at h
 | .b::_,.i _::_,h=>by simp [Z4d] at h
 | .b::_,.s _ _::_,h=>by simp [Z4d] at h
 | .s _ _::_,.i _::_,h=>by simp [Z4d] at h
 | .s _ _::_,.b::_,h=>by simp [Z4d] at h
theorem Z8c:∀ {ks:List K} {cs:List SC} {es:List E},Z2j ks cs=some es→Z43 ks=true
 | [],_,_,_=>rfl
 | .s t a::ks,cs,es,h=>by cases cs <;> simp [Z2j] at h
 | .i k::ks,[],es,h=>by simp [Z2j] at h
 | .b::ks,[],es,h=>by simp [Z2j] at h
 | .i k::ks,c::cs,es,h=>by
  cases hf:Z2j ks cs with
  | some l=>exact (Z8c hf:Z43 ks=true)
  | none=>exfalso; cases c <;> simp [Z2j,hf] at h
 | .b::ks,c::cs,es,h=>by
  cases hf:Z2j ks cs with
  | some l=>exact (Z8c hf:Z43 ks=true)
  | none =>
   exfalso
   cases c with
   | b x=>cases x <;> simp [Z2j,hf] at h
   | _=>simp [Z2j] at h
theorem Zk0 {ks:List K}:∀ {n:Nat} {cs:List SC} {l:List E},Zba ks n cs=some l→Z43 ks=true∨l=[]
 | 0,cs,l,h=>by simp only [Zba,Option.some.injEq] at h; exact .inr h.symm
 | n + 1,cs,l,h=>by
  simp only [Zba] at h
  split at h
  ·rename_i es l' h1 h2
   exact .inl (Z8c h1)
  ·cases h
theorem Zg5 {e:Env} {W0:Bas} {s:St} {w:World} (h:Rep e W0 s w) {ks:List K} {c:SC} {aZ:List B} {x:E} (hc:Zct s ks c=some (aZ,x)) (has:∀ b ∈ aZ,b.den e.R e.r=true):Z5a w ks (c.den e) (x.den e.R e.r):=by
 unfold Zct at hc
 split at hc
 ·rename_i g
  split at hc
  ·rename_i ks' c' hg
   split at hc
   ·rename_i hk
    simp only [Option.some.injEq,Prod.mk.injEq] at hc
    obtain ⟨rfl,rfl⟩:=hc
    have hkk:ks'=ks:=by
     simp only [Bool.or_eq_true,Z18r] at hk
     rcases hk with hk | hk
     ·exact Z26 hk
     ·exact Z3n hk.2
    rw [← hkk]
    exact h.gread hg
   ·cases hc
  ·cases hc
 ·rename_i g size lo hi
  split at hc
  ·rename_i ks' c' hg
   split at hc
   ·rename_i hk
    simp only [Z18r,Z18s] at hk
    obtain ⟨hk,rfl⟩:=hk
    simp only [Option.some.injEq,Prod.mk.injEq] at hc
    obtain ⟨rfl,rfl⟩:=hc
    have hkk:=Z26 hk
    subst hkk
    obtain ⟨v1,v2,v3⟩:=Zbf has
    have hd:dec ((Zj7 (Z8u c' hi) lo).den e.R e.r)=((dec (c'.den e.R e.r)).take (hi.den e.R e.r).toNat).drop (lo.den e.R e.r).toNat:=by rw [Zrw,Zaj,Z4]
    simp only [SC.den]
    rcases h.gread hg with ⟨⟨aa,hv⟩,hn⟩ | ⟨b,off,cap,hv,hle,hm,hel,hcell⟩
    ·refine .inl ⟨⟨aa,?_⟩,?_⟩
     ·rw [hv]
      rw [hn] at v3
      simp only [List.length_nil] at v3
      simp [Zfj]
      simp at v3
      omega
     ·rw [hd,hn]; simp
    ·have hlen:(dec ((Zj7 (Z8u c' hi) lo).den e.R e.r)).length=(hi.den e.R e.r).toNat - (lo.den e.R e.r).toNat:=by
      rw [hd,List.length_drop,List.length_take]; omega
     refine .inr ⟨b,if cap=(lo.den e.R e.r).toNat then off else off + (lo.den e.R e.r).toNat * ks'.length,cap - (lo.den e.R e.r).toNat,?_,by omega,by omega,?_,?_⟩
     ·rw [hlen,hv]
      simp only [Zfj,Option.map_some,Addr.add_lit]
      split <;> rfl
     ·intro x hx
      rw [hd] at hx
      exact hel x (List.mem_of_mem_take (List.mem_of_mem_drop hx))
     ·intro j u hj
      rw [hd,Zmq (fun x hx=>hel x (List.mem_of_mem_take hx)),Zd5 hel,List.getElem?_drop,List.getElem?_take] at hj
      split at hj
      ·rename_i hlt
       have hlo:¬ cap=(lo.den e.R e.r).toNat:=by
        intro hcl
        have hh:(hi.den e.R e.r).toNat=(lo.den e.R e.r).toNat:=by omega
        rw [hh] at hlt
        omega
       rw [if_neg hlo,Nat.add_assoc]
       exact hcell _ _ hj
      ·cases hj
   ·cases hc
  ·cases hc
 ·rename_i g
  split at hc
  ·rename_i hg
   simp only [Option.some.injEq,Prod.mk.injEq] at hc
   obtain ⟨rfl,rfl⟩:=hc
   obtain ⟨⟨ks',c'⟩,hg'⟩:=Option.isSome_iff_exists.1 hg
   simp only [SC.den,E.den]
   rcases h.gread hg' with ⟨⟨aa,hv⟩,hn⟩ | ⟨b,off,cap,hv,hle,hm,hel,hcell⟩
   ·exact .inl ⟨⟨aa,by rw [hv]; rfl⟩,by simp⟩
   ·exact .inr ⟨b,off,0,by rw [hv]; simp [Zu1],by simp,by simp,by simp,by simp [Zb]⟩
  ·cases hc
 ·rename_i n off len cap
  split at hc
  ·rename_i b hb
   split at hc
   ·rename_i hcc
    simp only [Z18r,Z18s] at hcc
    obtain ⟨⟨⟨hl,hle⟩,hlc⟩,hcap⟩:=hcc
    simp only [Option.map_eq_some_iff,Prod.mk.injEq] at hc
    obtain ⟨l,hl',rfl,rfl⟩:=hc
    obtain ⟨a1,a2,a3⟩:=Zg4 (e:=e) hl' (by simp; omega)
    have hd:dec ((Z6b l).den e.R e.r)=l.map (E.den e.R e.r):=by rw [Z1w,Z4]
    refine .inr ⟨e.β.getD n 0,off,cap,?_,?_,?_,?_,?_⟩
    ·rw [hd,List.length_map,a1]; rfl
    ·rw [hd,List.length_map,a1]; exact hlc
    ·simp only [maxLen]; omega
    ·rw [hd]; exact a2
    ·intro j u hj
     rw [hd,a3,List.getElem?_take] at hj
     split at hj
     ·rename_i hjn
      have hlt:off + j < b.cells.length:=by omega
      rw [Zbw h hb hl (off + j) hlt]
      rw [List.map_drop,List.getElem?_drop] at hj
      simp only [List.getElem?_map] at hj
      rw [List.getElem?_eq_getElem hlt] at hj
      simpa [List.getD,hlt] using hj
     ·cases hj
   ·cases hc
  ·cases hc
 ·simp only [Option.some.injEq,Prod.mk.injEq] at hc
  obtain ⟨rfl,rfl⟩:=hc
  exact .inl ⟨⟨_,rfl⟩,by simp [E.den]⟩
 ·cases hc
theorem Z5a.toNE {w:World} {ks:List K} {v:Value} {c:Int} (hk:Z43 ks=true∨dec c=[]) (h:Z5a w ks v c):SlN w ks v c:=by
 rcases hk with hk | hk
 ·exact h.toN hk
 ·unfold SlN
  rw [Z2b]
  exact ⟨⟨h,fun _ _ _ hh=>hh⟩,fun x hx=>by rw [hk] at hx; simp at hx⟩
theorem Zk1 {e:Env} {W0:Bas} {s:St} {w:World} (h:Rep e W0 s w) {ks:List K} {c:SC} {aZ:List B} {x:E} (hc:Zct s ks c=some (aZ,x)) (has:∀ b ∈ aZ,b.den e.R e.r=true):SlN w ks (c.den e) (x.den e.R e.r):=by
 have h0:=Zg5 h hc has
 unfold Zct at hc
 split at hc
 ·rename_i g
  split at hc
  ·rename_i ks' c' hg
   split at hc
   ·rename_i hk
    simp only [Option.some.injEq,Prod.mk.injEq] at hc
    obtain ⟨rfl,rfl⟩:=hc
    simp only [Bool.or_eq_true,Z18r,Bool.not_eq_true'] at hk
    rcases hk with hk | hk
    ·exact h0.toNE (.inl (Z5g hk).2)
    ·have hkk:=Z3n hk.2
     subst hkk
     exact (h.greadX hk.1 hg).nowN h.below
   ·cases hc
  ·cases hc
 ·rename_i g size lo hi
  split at hc
  ·split at hc
   ·rename_i hk
    simp only [Z18r,Z18s] at hk
    exact h0.toNE (.inl (Z5g hk.1).2)
   ·cases hc
  ·cases hc
 ·split at hc
  ·simp only [Option.some.injEq,Prod.mk.injEq] at hc
   obtain ⟨rfl,rfl⟩:=hc
   exact h0.toNE (.inr (by simp [E.den]))
  ·cases hc
 ·split at hc
  ·split at hc
   ·simp only [Option.map_eq_some_iff,Prod.mk.injEq] at hc
    obtain ⟨l,hl',rfl,rfl⟩:=hc
    refine h0.toNE ?_
    rcases Zk0 hl' with hh | hh
    ·exact .inl hh
    ·exact .inr (by rw [hh]; simp [Z6b,E.den])
   ·cases hc
  ·cases hc
 ·simp only [Option.some.injEq,Prod.mk.injEq] at hc
  obtain ⟨rfl,rfl⟩:=hc
  exact h0.toNE (.inr (by simp [E.den]))
 ·cases hc
theorem Zp1 {e:Env} {W0:Bas} {s:St} {w:World} (h:Rep e W0 s w):∀ {ks:List K} {cs:List SC} {aZ:List B} {es:List E},Zcu s ks cs=some (aZ,es)→(∀ b ∈ aZ,b.den e.R e.r=true) →
  es.length=ks.length∧Z2k (fun _ ks u n=>SlN w ks u n) ks (cs.map (SC.den e)) (es.map (E.den e.R e.r)):=by
 intro ks
 induction ks with
 | nil =>
  intro cs aZ es hf _
  cases cs with
  | nil=>simp only [Zcu,Option.some.injEq,Prod.mk.injEq] at hf; obtain ⟨rfl,rfl⟩:=hf; exact ⟨rfl,trivial⟩
  | cons c cs=>simp [Zcu] at hf
 | cons k ks ih =>
  intro cs aZ es hf has
  cases cs with
  | nil=>cases k <;> simp [Zcu] at hf
  | cons c cs =>
   have plain:∀ {k:K},(∀ ty kr,k ≠ .s ty kr)→∀ {x:E},Z2j [k] [c]=some [x]→Zub (fun _ ks u n=>SlN w ks u n) k (c.den e) (x.den e.R e.r):=by
    intro k hk x hx
    obtain ⟨_,h2⟩:=Z2p (e:=e) hx
    simp only [Z18k,Z18l,Z7,List.cons.injEq,and_true] at h2
    cases k with
    | i k=>exact h2
    | b=>exact h2
    | s ty kr=>exact absurd rfl (hk ty kr)
   cases k with
   | s ty kr =>
    simp only [Zcu] at hf
    split at hf
    ·rename_i as1 x bs1 es1 h1 h2
     simp only [Option.some.injEq,Prod.mk.injEq] at hf
     obtain ⟨rfl,rfl⟩:=hf
     obtain ⟨a1,a2⟩:=ih h2 (fun b hb=>has b (List.mem_append_right _ hb))
     exact ⟨by simp [a1],Zk1 h h1 (fun b hb=>has b (List.mem_append_left _ hb)),a2⟩
    ·cases hf
   | i k =>
    simp only [Zcu] at hf
    split at hf
    ·rename_i x bs1 es1 h1 h2
     simp only [Option.some.injEq,Prod.mk.injEq] at hf
     obtain ⟨rfl,rfl⟩:=hf
     obtain ⟨a1,a2⟩:=ih h2 has
     exact ⟨by simp [a1],plain (by simp) h1,a2⟩
    ·cases hf
   | b =>
    simp only [Zcu] at hf
    split at hf
    ·rename_i x bs1 es1 h1 h2
     simp only [Option.some.injEq,Prod.mk.injEq] at hf
     obtain ⟨rfl,rfl⟩:=hf
     obtain ⟨a1,a2⟩:=ih h2 has
     exact ⟨by simp [a1],plain (by simp) h1,a2⟩
    ·cases hf
theorem Zuu {e:Env} {W0:Bas} {st:St} {w:World} (h:Rep e W0 st w) {s:Sh} {v:SV} {aZ:List B} {es:List E} (hf:Zuc st s v=some (aZ,es)) (has:∀ b ∈ aZ,b.den e.R e.r=true) :
  es.length=s.ks.length∧ShR (fun _ ks u n=>SlN w ks u n) s (v.den e) (es.map (E.den e.R e.r)):=by
 unfold Zuc at hf
 split at hf
 ·rename_i cs
  split at hf
  ·rename_i ha
   obtain ⟨h1,h2⟩:=Zp1 h hf has
   refine ⟨h1,?_⟩
   unfold ShR
   rw [if_pos ha]
   exact ⟨_,rfl,h2⟩
  ·cases hf
 ·rename_i c
  split at hf
  ·cases hf
  ·rename_i ha
   obtain ⟨h1,h2⟩:=Zp1 h hf has
   refine ⟨h1,?_⟩
   unfold ShR
   rw [if_neg ha]
   exact h2
 ·cases hf
theorem Z98 {e:Env} {W0:Bas} {st:St} {w:World} (h:Rep e W0 st w):∀ {ss:List Sh} {vs:List SV} {aZ:List B} {es:List E},Zbq st ss vs=some (aZ,es)→(∀ b ∈ aZ,b.den e.R e.r=true) →
  es.length=Zg ss∧Z63 (fun _ ks u n=>SlN w ks u n) ss (vs.map (SV.den e)) (es.map (E.den e.R e.r))
 | [],[],aZ,es,hf,_=>by
  simp only [Zbq,Option.some.injEq,Prod.mk.injEq] at hf
  obtain ⟨rfl,rfl⟩:=hf
  exact ⟨rfl,rfl,rfl⟩
 | s::ss,v::vs,aZ,es,hf,has=>by
  simp only [Zbq] at hf
  split at hf
  ·rename_i as1 a bs1 b h1 h2
   simp only [Option.some.injEq,Prod.mk.injEq] at hf
   obtain ⟨rfl,rfl⟩:=hf
   obtain ⟨a1,a2⟩:=Zuu h h1 (fun b hb=>has b (List.mem_append_left _ hb))
   obtain ⟨a3,a4⟩:=Z98 h h2 (fun b hb=>has b (List.mem_append_right _ hb))
   exact ⟨by simp [Zg,a1,a3],_,_,_,_,rfl,by rw [List.map_append],a2,a4⟩
  ·cases hf
 | [],_::_,_,_,hf,_=>by simp [Zbq] at hf
 | _::_,[],_,_,hf,_=>by simp [Zbq] at hf
theorem Z2f {R:Fo} {r x:List Int} {n:Nat} (hx:x.length=n):(Z8 r.length n).map (E.den R (r++x))=x:=by
 apply List.ext_getElem?
 intro j
 simp only [Z8,List.map_map,List.getElem?_map]
 by_cases hj:j < n
 ·rw [List.getElem?_range hj]
  simp only [Option.map_some,Function.comp,E.den,List.getD]
  rw [List.getElem?_append_right (by omega)]
  rw [show r.length + j - r.length=j by omega]
  simp [hx,hj]
 ·rw [List.getElem?_eq_none (by simp; omega),List.getElem?_eq_none (by omega)]
  rfl
theorem Rep.vars {e:Env} {W0:Bas} {s:St} {w:World} (h:Rep e W0 s w) (hs:s.sc=true) (x:List Int) :
  Rep { e with r:=e.r++x } W0 { s with nv:=s.nv + x.length } w∧(∀ v ∈ s.fr,v.den { e with r:=e.r++x }=v.den e)∧Env.le e { e with r:=e.r++x }:=by
 have hle:Env.le e { e with r:=e.r++x }:=⟨x,[],[],[],by simp⟩
 simp only [St.sc,Z18r] at hs
 obtain ⟨⟨hf,hm⟩,hr,hh⟩:=hs
 rw [← h.nv,← h.nb,← h.ng] at hf hm
 rw [← h.nx] at hf
 rw [← h.nv] at hr hh
 have hmd:∀ n (b:Blk),s.mem[n]?=some b→b.cells.map (SC.den { e with r:=e.r++x })=b.cells.map (SC.den e):=fun n b hb =>
  Zg1 hle (List.all_eq_true.1 hm b (List.mem_of_getElem? hb))
 refine ⟨⟨h.below,h.nb,h.ng,by simp [h.nv],h.nx,?_,h.own,h.sep,?_,h.rown,h.rsep,h.brs,h.gl,?_⟩,fun v hv=>SV.den_le hle v (List.all_eq_true.1 hf v hv),hle⟩
 ·intro n b hb hl
  rw [hmd n b hb]
  exact h.blk n b hb hl
 ·intro n b hb hl
  have:=h.row n b hb hl
  show Zs w b.ty b.ks _ (b.c.den e.R (e.r++x))
  rw [E.den_app _ _ _ _ (List.all_eq_true.1 hr b (List.mem_of_getElem? hb))]
  exact this
 ·intro i ks c hi
  have:=h.arg i ks c hi
  show SlX W0 ks _ (c.den e.R (e.r++x))
  rw [E.den_app _ _ _ _ (List.all_eq_true.1 hh (ks,c) (List.mem_of_getElem? hi))]
  exact this
end Go.Sx
namespace Go.Sx
open Go.RowKit
variable {P:Program} {Γ:List Sum} {Ψ:List Int→Prop} {bs:List (List Int→Prop)}
def Sum.okM (P:Program) (sum:Sum) (f:St→List SV→Option (List B × List E × (Nat→St × SV))):Prop :=
  ∀ (W0:Bas) (e:Env) (s:St) (w:World) (args:List SV) (aZ:List B) (es:List E) (kk:Nat→St × SV),Rep e W0 s w→s.sc=true→args.all (SV.sc s.nv s.mem.length s.rows.length s.nx)=true→Zue sum.gl s.gl=true →
    f s args=some (aZ,es,kk)→(∀ b ∈ aZ,b.den e.R e.r=true)→sum.pre (es.map (E.den e.R e.r)) →
    Calls P sum.fn (args.map (SV.den e)).toArray w fun x w'=>∃ e',x=.returned ((kk s.nv).2.den e')∧Env.le e e'∧e'.r=e.r++sum.sem (es.map (E.den e.R e.r))∧Rep e' W0 (kk s.nv).1 w' ∧
      (kk s.nv).1.fr=s.fr∧(kk s.nv).1.fl=s.fl∧(kk s.nv).1.flr=s.flr∧(kk s.nv).1.dp=s.dp
def Sum.okA (P:Program) (sum:Sum):Prop:=match sum.m with
 | some f=>sum.okM P f
 | none=>sum.ok P
theorem Sum.ok.A {P:Program} {sum:Sum} (h:sum.ok P) (hm:sum.m=none):sum.okA P:=by
 unfold Sum.okA
 rw [hm]
 exact h
def Gok (P:Program) (Γ:List Sum):Prop:=∀ s ∈ Γ,s.okA P
theorem Z6i {fn:FuncId}:∀ {l:List Sum} {g0 g:Nat} {s:Sum},Z89 fn l g0=some (g,s)→s.fn=fn∧∃ j,g=g0 + j∧l[j]?=some s
 | [],_,_,_,h=>by simp [Z89] at h
 | x::l,g0,g,s,h=>by
  simp only [Z89] at h
  split at h
  ·rename_i hx
   simp only [Option.some.injEq,Prod.mk.injEq] at h
   obtain ⟨rfl,rfl⟩:=h
   exact ⟨hx,0,rfl,rfl⟩
  ·obtain ⟨h1,j,h2,h3⟩:=Z6i h
   exact ⟨h1,j + 1,by omega,by simpa using h3⟩
theorem Zhc {fn:FuncId} (h:Z5e P fn=true):∃ F body,P.funcs[fn]?=some F∧F.body=some body∧(F.name == "runtime.NumGoroutine")=false:=by
 unfold Z5e at h
 split at h
 ·rename_i F hF
  simp only [Z18r,bne_iff_ne,ne_eq] at h
  obtain ⟨body,hb⟩:=Option.isSome_iff_exists.1 h.1
  exact ⟨F,body,hF,hb,by simpa using h.2⟩
 ·cases h
theorem Zd6 {fn:FuncId} (hc:Z5e P fn=true) {o:Oper} {c:Call} {F:Operand} (ho:o.op=.call c) (hcal:c.callee=.value F) {ev:Operand→Value} {caps:Array Value} (hF:ev F=.func (.func fn) #[] caps) (w:World) :
  (execOp ev o).run P w=.ok (.enter fn (c.args.map ev++caps)) w:=by
 obtain ⟨Fn,body,h1,h2,h3⟩:=Zhc hc
 simp only [execOp,ho,resolve,hcal,hF,Deferred.ofValue,pure_bind,invoke,callFunc,Sem.run_bind,run_program,Result.andThen_ok,h1,h2,h3]
 simp
theorem Zhd {a b:List (Nat × List Int)} {w:World} (h:Zue a b=true) (hb:Zm8 b w):Zm8 a w:=by
 intro p hp
 obtain ⟨q,hq,hs⟩:=List.any_eq_true.1 (List.all_eq_true.1 h p hp)
 simp only [Zud,Z18r,beq_iff_eq] at hs
 have:p=q:=Prod.ext hs.1 hs.2
 subst this
 exact hb p hq
theorem SC.sc_scp {nv nb ng:Nat}:∀ {c:SC},c.sc nv nb ng=true→c.scp nb ng=true:=by
 intro c h
 have hG:∀ {g:G},g.sc nv ng=true→g.scp ng=true:=by
  intro g hg
  cases g <;> first | exact hg | rfl
 cases c <;> simp only [SC.sc,SC.scp,Z18r] at h ⊢ <;> first | exact h | exact hG h | exact hG h.1 | exact h.1
theorem SV.sc_scp {nv nb ng nx:Nat} {v:SV} (h:v.sc nv nb ng nx=true):v.scp nb ng=true:=by
 have hW:∀ {y:SW},y.sc nv nb ng=true→y.scp nb ng=true:=by
  intro y hy
  cases y with
  | o c=>exact SC.sc_scp hy
  | a cs=>exact List.all_eq_true.2 fun c hc=>SC.sc_scp (List.all_eq_true.1 hy c hc)
 cases v with
 | w y=>exact hW h
 | t xs=>exact List.all_eq_true.2 fun y hy=>hW (List.all_eq_true.1 h y hy)
 | un i=>rfl
theorem St.sc_scp {s:St} (h:s.sc=true):s.scp=true:=by
 simp only [St.sc,St.scp,Z18r] at h ⊢
 exact ⟨List.all_eq_true.2 fun v hv=>SV.sc_scp (List.all_eq_true.1 h.1.1 v hv),List.all_eq_true.2 fun b hb=>List.all_eq_true.2 fun c hc=>SC.sc_scp (List.all_eq_true.1 (List.all_eq_true.1 h.1.2 b hb) c hc)⟩
theorem Rep.kill {e:Env} {W0:Bas} {s:St} {w:World} (h:Rep e W0 s w) {rows:List Row} (hl:rows.length=s.rows.length) (hr:∀ (j:Nat) (b:Row),rows[j]?=some b→b.live=true→s.rows[j]?=some b):Rep e W0 { s with rows:=rows } w :=
 ⟨h.below,h.nb,h.ng.trans hl.symm,h.nv,h.nx,h.blk,h.own,h.sep,fun n b hb hlv=>h.row n b (hr n b hb hlv) hlv,fun n b hb hlv=>h.rown n b (hr n b hb hlv) hlv,
  fun n m b c k hb hc h1 h2=>h.rsep n m b c k (hr n b hb h1) (hr m c hc h2) h1 h2,fun n m b c hb hc h1 h2=>h.brs n m b c hb (hr m c hc h2) h1 h2,h.gl,h.arg⟩
theorem Rep.grownRow {e:Env} {W0:Bas} {s:St} {w w':World} (h:Rep e W0 s w) {row:Option Nat} (hg:w.grownBy w' row) (h0:∀ k,row=some k→W0.may k)
  (h1:∀ (n:Nat) (b:Blk),s.mem[n]?=some b→b.live=true→row ≠ some (e.β.getD n 0)) (h2:∀ (n:Nat) (b:Row),s.rows[n]?=some b→b.live=true→∀ k,Z6 ((G.o n).val e)=some k→row ≠ some k):Rep e W0 s w':=by
 refine ⟨h.below.grown hg h0,h.nb,h.ng,h.nv,h.nx,?_,h.own,h.sep,?_,h.rown,h.rsep,h.brs,h.gl,h.arg⟩
 ·intro n b hb hl
  rw [hg.block _ (Z1g (h.blk n b hb hl)) (fun hk=>h1 n b hb hl hk.symm)]
  exact h.blk n b hb hl
 ·intro n b hb hl
  exact (h.row n b hb hl).kept hg (h2 n b hb hl)
theorem Rep.addRows {e:Env} {W0:Bas} {s:St} {w:World} (h:Rep e W0 s w) (hs:s.scp=true) {rows:List Row} {vals:List Value} (hl:vals.length=rows.length)
  (hrow:∀ (j:Nat) (b:Row) (v:Value),rows[j]?=some b→vals[j]?=some v→b.live=true→(∃ a l c,v=.slice a l c)∧Zs w b.ty b.ks v (b.c.den e.R e.r))
  (hnew:∀ (j:Nat) (b:Row) (v:Value) (k:Nat),rows[j]?=some b→vals[j]?=some v→b.live=true→Z6 v=some k→W0.may k∧(∀ (n:Nat) (b:Blk),s.mem[n]?=some b→b.live=true→e.β.getD n 0 ≠ k)∧(∀ (n:Nat) (b:Row),s.rows[n]?=some b→b.live=true→Z6 ((G.o n).val e) ≠ some k))
  (hap:∀ (i j:Nat) (u v:Value) (k:Nat),vals[i]?=some u→vals[j]?=some v→Z6 u=some k→Z6 v=some k→i=j) :
  Rep { e with σ:=e.σ++vals } W0 { s with rows:=s.rows++rows } w∧Env.like s.mem.length s.rows.length e { e with σ:=e.σ++vals }:=by
 obtain ⟨hf,hm⟩:=St.scp_spec hs
 have hlike:Env.like s.mem.length s.rows.length e { e with σ:=e.σ++vals } :=
  ⟨rfl,rfl,rfl,fun _ _=>rfl,fun n hn=>Z12 _ _ _ _ (by rw [h.ng]; exact hn)⟩
 refine ⟨?_,hlike⟩
 have hold:∀ n,n < s.rows.length→(G.o n).val { e with σ:=e.σ++vals }=(G.o n).val e:=fun n hn=>G.val_like hlike (.o n) (by simpa [G.scp] using hn)
 have hcases:∀ (n:Nat) (b:Row),(s.rows++rows)[n]?=some b→(n < s.rows.length∧s.rows[n]?=some b)∨∃ j v,n=s.rows.length + j∧rows[j]?=some b∧vals[j]?=some v∧((b.live=true)→(G.o n).val { e with σ:=e.σ++vals }=v):=by
  intro n b hb
  rcases Nat.lt_or_ge n s.rows.length with hn | hn
  ·exact .inl ⟨hn,by rwa [List.getElem?_append_left hn] at hb⟩
  ·rw [List.getElem?_append_right hn] at hb
   have hj:=(List.getElem?_eq_some_iff.1 hb).1
   have hv:vals[n - s.rows.length]?=some (vals[n - s.rows.length]'(by omega)):=List.getElem?_eq_getElem (by omega)
   refine .inr ⟨n - s.rows.length,_,by omega,hb,hv,fun hlv=>?_⟩
   obtain ⟨⟨a,l,c,hsl⟩,_⟩:=hrow _ b _ hb hv hlv
   simp only [G.val]
   have:(e.σ++vals).getD n undef=vals[n - s.rows.length]'(by omega):=by
    simp only [List.getD]
    rw [List.getElem?_append_right (by rw [h.ng]; exact hn),h.ng,hv]
    rfl
   rw [this,hsl]
   rfl
 refine ⟨h.below,h.nb,?_,h.nv,h.nx,?_,h.own,h.sep,?_,?_,?_,?_,h.gl,?_⟩
 ·simp [h.ng,hl]
 ·intro n b hb hlv
  rw [Z21 hlike (hm b (List.mem_of_getElem? hb))]
  exact h.blk n b hb hlv
 ·intro n b hb hlv
  rcases hcases n b hb with ⟨hn,hb'⟩ | ⟨j,v,rfl,hj,hv,hval⟩
  ·rw [hold n hn]; exact h.row n b hb' hlv
  ·rw [hval hlv]; exact (hrow j b v hj hv hlv).2
 ·intro n b hb hlv hfl k hk
  rcases hcases n b hb with ⟨hn,hb'⟩ | ⟨j,v,rfl,hj,hv,hval⟩
  ·rw [hold n hn] at hk; exact h.rown n b hb' hlv hfl k hk
  ·rw [hval hlv] at hk; exact (hnew j b v k hj hv hlv hk).1
 ·intro n m b c k hb hc hlb hlc h1 h2
  rcases hcases n b hb with ⟨hn,hb'⟩ | ⟨j,v,rfl,hj,hv,hval⟩ <;> rcases hcases m c hc with ⟨hm',hc'⟩ | ⟨j',v',rfl,hj',hv',hval'⟩
  ·rw [hold n hn] at h1; rw [hold m hm'] at h2; exact h.rsep n m b c k hb' hc' hlb hlc h1 h2
  ·rw [hold n hn] at h1; rw [hval' hlc] at h2; exact absurd h1 ((hnew j' c v' k hj' hv' hlc h2).2.2 n b hb' hlb)
  ·rw [hval hlb] at h1; rw [hold m hm'] at h2; exact absurd h2 ((hnew j b v k hj hv hlb h1).2.2 m c hc' hlc)
  ·rw [hval hlb] at h1; rw [hval' hlc] at h2; rw [hap j j' v v' k hv hv' h1 h2]
 ·intro n m b c hb hc hlb hlc
  rcases hcases m c hc with ⟨hm',hc'⟩ | ⟨j',v',rfl,hj',hv',hval'⟩
  ·rw [hold m hm']; exact h.brs n m b c hb hc' hlb hlc
  ·rw [hval' hlc]
   intro hk
   exact (hnew j' c v' _ hj' hv' hlc hk).2.1 n b hb hlb rfl
 ·intro i ks c hi
  exact h.arg i ks c hi
theorem Zd7 {S:TypeId→List K→Value→Int→Prop} {e:Env}:∀ {ks:List K} {cs:List Value} {es:List E},Z2k S ks cs (es.map (E.den e.R e.r)) →
  (Zac ks cs).length=(Z1v ks es).length∧(Zac ks cs).length=nS ks∧∀ (j:Nat) (b:Row) (v:Value),(Z1v ks es)[j]?=some b→(Zac ks cs)[j]?=some v→S b.ty b.ks v (b.c.den e.R e.r)
 | [],[],[],_=>⟨rfl,rfl,fun j b v h=>by simp [Z1v] at h⟩
 | k::ks,c::cs,x::es,h=>by
  obtain ⟨h1,h2⟩:=h
  obtain ⟨a1,a2,a3⟩:=Zd7 (e:=e) h2
  cases k with
  | i k=>exact ⟨a1,a2,a3⟩
  | b=>exact ⟨a1,a2,a3⟩
  | s ty kr =>
   refine ⟨by simp [Zac,Z1v,a1],by simp [Zac,nS,a2],fun j b v hj hv=>?_⟩
   cases j with
   | zero =>
    simp only [Z1v,Zac,Z18e,Option.some.injEq] at hj hv
    subst hj; subst hv
    exact h1
   | succ j=>exact a3 j b v (by simpa [Z1v] using hj) (by simpa [Zac] using hv)
 | [],[],_::_,h=>h.elim
 | [],_::_,_,h=>h.elim
 | _::_,[],_,h=>h.elim
 | _::_,_::_,[],h=>h.elim
theorem Z2k.len {S:TypeId→List K→Value→Int→Prop}:∀ {ks:List K} {cs:List Value} {xs:List Int},Z2k S ks cs xs→cs.length=ks.length∧xs.length=ks.length
 | [],[],[],_=>⟨rfl,rfl⟩
 | _::_,_::_,_::_,h=>by obtain ⟨h1,h2⟩:=Z2k.len h.2; simp [h1,h2]
 | [],[],_::_,h=>h.elim
 | [],_::_,_,h=>h.elim
 | _::_,[],_,h=>h.elim
 | _::_,_::_,[],h=>h.elim
theorem Zk2:∀ {ks kr:List K} {es er:List E},es.length=ks.length→Z1v (ks++kr) (es++er)=Z1v ks es++Z1v kr er
 | [],_,[],_,_=>rfl
 | k::ks,kr,x::es,er,h=>by
  simp only [List.length_cons,Nat.add_right_cancel_iff] at h
  cases k <;> simp [Z1v,Zk2 h]
 | [],_,_::_,_,h=>by simp at h
 | _::_,_,[],_,h=>by simp at h
theorem ShR.len {S:TypeId→List K→Value→Int→Prop} {s:Sh} {v:Value} {xs:List Int} (h:ShR S s v xs):xs.length=s.ks.length:=by
 unfold ShR at h
 split at h
 ·obtain ⟨cs,_,h⟩:=h; exact h.len.2
 ·exact h.len.2
theorem Zg6 {S:TypeId→List K→Value→Int→Prop} {e:Env} {s:Sh} {v:Value} {es:List E} (h:ShR S s v (es.map (E.den e.R e.r))) :
  (Zfl s v).length=(Z1v s.ks es).length∧(Zfl s v).length=nS s.ks∧∀ (j:Nat) (b:Row) (u:Value),(Z1v s.ks es)[j]?=some b→(Zfl s v)[j]?=some u→S b.ty b.ks u (b.c.den e.R e.r):=by
 unfold ShR at h
 unfold Zfl
 split at h
 ·rename_i ha
  obtain ⟨cs,rfl,h⟩:=h
  simp only [ha,if_true]
  exact Zd7 h
 ·rename_i ha
  simp only [ha]
  exact Zd7 h
theorem Z63.len {S:TypeId→List K→Value→Int→Prop}:∀ {ss:List Sh} {vs:List Value} {xs:List Int},Z63 S ss vs xs→xs.length=Zg ss∧vs.length=ss.length
 | [],_,_,h=>by rw [h.1,h.2]; exact ⟨rfl,rfl⟩
 | s::ss,_,_,⟨v,vr,ys,yr,h1,h2,h3,h4⟩=>by
  obtain ⟨a1,a2⟩:=Z63.len h4
  subst h1; subst h2
  exact ⟨by simp [Zg,h3.len,a1],by simp [a2]⟩
theorem Zk3 {e:Env} {es:List E} {ys yr:List Int} (h:es.map (E.den e.R e.r)=ys++yr):∃ e1 e2,es=e1++e2∧e1.map (E.den e.R e.r)=ys∧e2.map (E.den e.R e.r)=yr :=
 ⟨es.take ys.length,es.drop ys.length,by simp,by rw [List.map_take,h,List.take_left],by rw [List.map_drop,h,List.drop_left]⟩
theorem Z2d {S:TypeId→List K→Value→Int→Prop} {e:Env}:∀ {ss:List Sh} {vs:List Value} {es:List E},Z63 S ss vs (es.map (E.den e.R e.r)) →
  (Z9 ss vs).length=(Z1v (Z3u ss) es).length∧∀ (j:Nat) (b:Row) (u:Value),(Z1v (Z3u ss) es)[j]?=some b→(Z9 ss vs)[j]?=some u→S b.ty b.ks u (b.c.den e.R e.r)
 | [],vs,es,h=>by
  rw [h.1]
  exact ⟨rfl,fun j b u hj=>by simp [Z3u,Z1v] at hj⟩
 | s::ss,vs,es,⟨v,vr,ys,yr,h1,h2,h3,h4⟩=>by
  subst h1
  obtain ⟨e1,e2,rfl,he1,he2⟩:=Zk3 h2
  rw [← he1] at h3
  rw [← he2] at h4
  obtain ⟨a1,_,a3⟩:=Zg6 h3
  obtain ⟨b1,b2⟩:=Z2d h4
  have hl:e1.length=s.ks.length:=by have:=h3.len; simpa using this
  simp only [Z3u,Z9,Zk2 hl,List.length_append,a1,b1,true_and]
  intro j b u hj hu
  rcases Nat.lt_or_ge j (Z1v s.ks e1).length with hlt | hge
  ·rw [List.getElem?_append_left hlt] at hj
   rw [List.getElem?_append_left (by omega)] at hu
   exact a3 j b u hj hu
  ·rw [List.getElem?_append_right hge] at hj
   rw [List.getElem?_append_right (by omega),a1] at hu
   exact b2 _ b u hj hu
theorem Z4x {S:TypeId→List K→Value→Int→Prop} {e:Env} {mk:Nat→SC}:∀ {ks:List K} {cs:List Value} {es:List E} {i:Nat},Z2k S ks cs (es.map (E.den e.R e.r)) →
  (∀ (j:Nat) (v:Value),(Zac ks cs)[j]?=some v→(mk (i + j)).den e=v)→(Z2e mk i ks es).map (SC.den e)=cs
 | [],[],[],i,_,_=>rfl
 | k::ks,c::cs,x::es,i,h,hm=>by
  obtain ⟨h1,h2⟩:=h
  cases k with
  | i k =>
   simp only [Z2e,Z18k,Z4x h2 hm]
   rw [show c=Value.int k (x.den e.R e.r) from h1]
   rfl
  | b =>
   simp only [Z2e,Z18k,Z4x h2 hm]
   rw [show c=Value.bool (x.den e.R e.r != 0) from h1]
   congr 1
   simp only [SC.den]
   congr 1
   unfold mkNz
   split <;> simp [B.den,E.den]
  | s ty kr =>
   simp only [Z2e,Z18k]
   rw [Z4x h2 (fun j v hj=>by
    have:=hm (j + 1) v (by simpa [Zac] using hj)
    rwa [show i + (j + 1)=i + 1 + j by omega] at this)]
   have:=hm 0 c rfl
   rw [Nat.add_zero] at this
   rw [this]
 | [],[],_::_,_,h,_=>h.elim
 | [],_::_,_,_,h,_=>h.elim
 | _::_,[],_,_,h,_=>h.elim
 | _::_,_::_,[],_,h,_=>h.elim
theorem Z15v {S:TypeId→List K→Value→Int→Prop} {e:Env} {mk:Nat→SC} {s:Sh} {v:Value} {es:List E} {i:Nat} (h:ShR S s v (es.map (E.den e.R e.r)))
  (hm:∀ (j:Nat) (u:Value),(Zfl s v)[j]?=some u→(mk (i + j)).den e=u):(shE mk i s es).den e=v:=by
 unfold ShR at h
 unfold Zfl at hm
 unfold shE
 split at h
 ·rename_i ha
  obtain ⟨cs,rfl,h⟩:=h
  simp only [ha,if_true] at hm ⊢
  simp only [SW.den]
  rw [Z4x h hm]
 ·rename_i ha
  simp only [ha] at hm
  have:=Z4x h hm
  simp only [ha]
  cases hc:Z2e mk i s.ks es with
  | nil=>rw [hc] at this; simp at this
  | cons c l =>
   rw [hc] at this
   simp only [Z18k,List.cons.injEq] at this
   exact this.1
theorem Z99 {S:TypeId→List K→Value→Int→Prop} {e:Env} {mk:Nat→SC}:∀ {ss:List Sh} {vs:List Value} {es:List E} {i:Nat},Z63 S ss vs (es.map (E.den e.R e.r)) →
  (∀ (j:Nat) (u:Value),(Z9 ss vs)[j]?=some u→(mk (i + j)).den e=u)→(Zcv mk i ss es).map (SW.den e)=vs
 | [],vs,es,i,h,_=>by rw [h.1]; rfl
 | s::ss,vs,es,i,⟨v,vr,ys,yr,h1,h2,h3,h4⟩,hm=>by
  subst h1
  obtain ⟨e1,e2,rfl,he1,he2⟩:=Zk3 h2
  rw [← he1] at h3
  rw [← he2] at h4
  have hl:e1.length=s.ks.length:=by have:=h3.len; simpa using this
  obtain ⟨a1,a2,_⟩:=Zg6 h3
  simp only [Zcv,Z18k]
  rw [← hl,List.take_left,List.drop_left]
  rw [Z15v h3 (fun j u hj=>hm j u (by
   simp only [Z9]
   rw [List.getElem?_append_left (List.getElem?_eq_some_iff.1 hj).1]
   exact hj))]
  rw [Z99 h4 (fun j u hj=>by
   have:=hm (nS s.ks + j) u (by
    simp only [Z9]
    rw [List.getElem?_append_right (by omega),a2,show nS s.ks + j - nS s.ks=j by omega]
    exact hj)
   rwa [← Nat.add_assoc] at this)]
theorem Zhe {S:TypeId→List K→Value→Int→Prop} {e:Env} {mk:Nat→SC} {ss:List Sh} {vs:List Value} {es:List E} {i:Nat} (h:Z63 S ss vs (es.map (E.den e.R e.r)))
  (hm:∀ (j:Nat) (u:Value),(Z9 ss vs)[j]?=some u→(mk (i + j)).den e=u):(Zjf mk i ss es).den e=resV vs:=by
 have:=Z99 h hm
 unfold Zjf resV
 rw [← this]
 match Zcv mk i ss es with
 | []=>rfl
 | [x]=>rfl
 | x::y::l=>rfl
theorem Z5h {l:List Value} (h:Zje l):∀ (i j:Nat) (u v:Value) (k:Nat),l[i]?=some u→l[j]?=some v→Z6 u=some k→Z6 v=some k→i=j:=by
 unfold Zje at h
 intro i j u v k hi hj hu hv
 rw [List.pairwise_iff_getElem] at h
 obtain ⟨hi1,hi2⟩:=List.getElem?_eq_some_iff.1 hi
 obtain ⟨hj1,hj2⟩:=List.getElem?_eq_some_iff.1 hj
 rcases Nat.lt_trichotomy i j with hlt | heq | hgt
 ·exact absurd (by rw [hj2]; exact hv) (h i j hi1 hj1 hlt k (by rw [hi2]; exact hu))
 ·exact heq
 ·exact absurd (by rw [hi2]; exact hu) (h j i hj1 hi1 hgt k (by rw [hj2]; exact hv))
theorem Zuv {s:St} {a:Act} {w:World} {W0:Bas} {e:Env} {sum:Sum} {aZ:List B} {es:List E} {args:List SV} {g:Nat} {dst:Option Tmp} {k:St→T} (hG:Gok P Γ) (h:Rel e W0 s a w) (hdp:s.dp=bs.length) (hsc:s.sc=true)
  (hg:Γ[g]?=some sum) (hmn:sum.m=none) (hgl:Zue sum.gl s.gl=true) (hfl:Zbq s sum.ps args=some (aZ,es))
  (hs:(Z3m aZ (T.call g es (k ({ s with nv:=s.nv + Zg sum.rs,rows:=s.rows++Z1v (Z3u sum.rs) (Z8 s.nv (Zg sum.rs)) }.put dst (Zjf Zm9 s.rows.length sum.rs (Z8 s.nv (Zg sum.rs))))))).sat Γ e.R Ψ bs e.r) :
  Calls P sum.fn (args.map (SV.den e)).toArray w fun x w'=>∃ v,x=.returned v∧Nx Γ Ψ bs W0 e s.fl s.flr k (a.put dst v) w':=by
 obtain ⟨has,hs⟩:=Z22 hs
 simp only [T.sat,hg] at hs
 obtain ⟨hpre,hs⟩:=hs
 obtain ⟨hlen,hden⟩:=Z98 h.rep hfl has
 have hA:=hG sum (List.mem_of_getElem? hg)
 unfold Sum.okA at hA
 rw [hmn] at hA
 obtain ⟨_,hok⟩:=hA
 obtain ⟨hl,hcalls⟩:=hok (es.map (E.den e.R e.r)) _ w (Zhd hgl h.rep.glw) hden hpre
 refine hcalls.mono fun x w' ⟨v,hx,⟨vs,hv,hres,hap⟩,hb⟩=>⟨_,hx,?_⟩
 obtain ⟨hrep,hfr,hle⟩:=h.rep.vars hsc (sum.sem (es.map (E.den e.R e.r)))
 have hrep2:=hrep.grown hb
 have hvars:(Z8 s.nv (Zg sum.rs)).map (E.den e.R (e.r++sum.sem (es.map (E.den e.R e.r))))=sum.sem (es.map (E.den e.R e.r)):=by
  rw [← h.rep.nv]; exact Z2f hl
 have hres':Z63 (fun ty ks u n=>Zs w' ty ks u n∧∀ k,Z6 u=some k→w.heap.size≤k) sum.rs vs ((Z8 s.nv (Zg sum.rs)).map (E.den ({ e with r:=e.r++sum.sem (es.map (E.den e.R e.r)) }:Env).R ({ e with r:=e.r++sum.sem (es.map (E.den e.R e.r)) }:Env).r)):=by
  show Z63 _ sum.rs vs ((Z8 s.nv (Zg sum.rs)).map (E.den e.R (e.r++sum.sem (es.map (E.den e.R e.r)))))
  rw [hvars]; exact hres
 obtain ⟨r1,r2⟩:=Z2d hres'
 have hslice:∀ {ty ks u n},Zs w' ty ks u n→∃ a l c,u=.slice a l c:=by
  intro ty ks u n hr
  rcases hr with ⟨_,b,h2⟩ | ⟨_,_,h2⟩
  ·exact ⟨_,_,_,h2⟩
  ·rcases h2.2 with ⟨h3,_⟩ | ⟨g,cap,cur,h3,_⟩
   ·exact ⟨_,_,_,h3⟩
   ·exact ⟨_,_,_,h3⟩
 have hscp:({ s with nv:=s.nv + (sum.sem (es.map (E.den e.R e.r))).length }:St).scp=true:=(St.sc_scp hsc:s.scp=true)
 obtain ⟨hrep3,hlike⟩:=hrep2.addRows hscp (rows:=Z1v (Z3u sum.rs) (Z8 s.nv (Zg sum.rs))) (vals:=Z9 sum.rs vs) r1
  (fun j b u hj hu _=>⟨hslice (r2 j b u hj hu).1,(r2 j b u hj hu).1⟩)
  (fun j b u k hj hu _ hk=>by
   have hge:=(r2 j b u hj hu).2 k hk
   refine ⟨.inl (Nat.le_trans h.rep.below.size hge),fun n c hc hlc heq=>?_,fun n c hc hlc heq=>?_⟩
   ·have:=Z1g (h.rep.blk n c hc hlc)
    have heq':e.β.getD n 0=k:=heq
    omega
   ·have:=(h.rep.row n c hc hlc).blk_lt heq
    omega)
  (Z5h hap)
 rw [hl] at hrep3
 have hle2:Env.le e { e with r:=e.r++sum.sem (es.map (E.den e.R e.r)),σ:=e.σ++Z9 sum.rs vs }:=⟨sum.sem (es.map (E.den e.R e.r)),[],Z9 sum.rs vs,[],by simp⟩
 have hrel:Rel { e with r:=e.r++sum.sem (es.map (E.den e.R e.r)),σ:=e.σ++Z9 sum.rs vs } W0 { s with nv:=s.nv + Zg sum.rs,rows:=s.rows++Z1v (Z3u sum.rs) (Z8 s.nv (Zg sum.rs)) } a w' :=
  ⟨hrep3,by
   rw [h.tmps]; congr 1
   refine List.map_congr_left fun v hv=>?_
   rw [← hfr v hv]
   exact (SV.den_like hlike v ((St.scp_spec hscp).1 v hv)).symm,h.defs⟩
 have hresv:(Zjf Zm9 s.rows.length sum.rs (Z8 s.nv (Zg sum.rs))).den { e with r:=e.r++sum.sem (es.map (E.den e.R e.r)),σ:=e.σ++Z9 sum.rs vs }=v:=by
  rw [hv]
  refine Zhe (e:={ e with r:=e.r++sum.sem (es.map (E.den e.R e.r)),σ:=e.σ++Z9 sum.rs vs }) hres' fun j u hj=>?_
  obtain ⟨b,hb'⟩:∃ b,(Z1v (Z3u sum.rs) (Z8 s.nv (Zg sum.rs)))[j]?=some b:=⟨_,List.getElem?_eq_getElem (by rw [← r1]; exact (List.getElem?_eq_some_iff.1 hj).1)⟩
  obtain ⟨aa,ll,cc,hsl⟩:=hslice (r2 j b u hb' hj).1
  simp only [Zm9,SC.den,G.val]
  have:(e.σ++Z9 sum.rs vs).getD (s.rows.length + j) undef=u:=by
   simp only [List.getD]
   rw [List.getElem?_append_right (by rw [h.rep.ng]; omega),h.rep.ng,show s.rows.length + j - s.rows.length=j by omega,hj]
   rfl
  rw [this,hsl]
  rfl
 rw [← hresv]
 exact Nx.here hle2 (hrel.put dst _) ((Zn _ dst _).2.2.2.2.1) ((Zn _ dst _).2.2.2.2.2) ((Z4v _ _ _).trans hdp) hs
theorem Z15w {s:St} {a:Act} {w:World} {W0:Bas} {e:Env} {sum:Sum} {f:St→List SV→Option (List B × List E × (Nat→St × SV))} {aZ:List B} {es:List E} {kk:Nat→St × SV} {args:List SV} {g:Nat} {dst:Option Tmp} {k:St→T} (hG:Gok P Γ) (h:Rel e W0 s a w) (hdp:s.dp=bs.length) (hsc:s.sc=true)
  (hg:Γ[g]?=some sum) (hmn:sum.m=some f) (hgl:Zue sum.gl s.gl=true) (hargs:args.all (SV.sc s.nv s.mem.length s.rows.length s.nx)=true) (hfl:f s args=some (aZ,es,kk))
  (hs:(Z3m aZ (T.call g es (k ((kk s.nv).1.put dst (kk s.nv).2)))).sat Γ e.R Ψ bs e.r) :
  Calls P sum.fn (args.map (SV.den e)).toArray w fun x w'=>∃ v,x=.returned v∧Nx Γ Ψ bs W0 e s.fl s.flr k (a.put dst v) w':=by
 obtain ⟨has,hs⟩:=Z22 hs
 simp only [T.sat,hg] at hs
 obtain ⟨hpre,hs⟩:=hs
 have hA:=hG sum (List.mem_of_getElem? hg)
 unfold Sum.okA at hA
 rw [hmn] at hA
 refine (hA W0 e s w args aZ es kk h.rep hsc hargs hgl hfl has hpre).mono ?_
 rintro x w' ⟨e',rfl,hle,hr,hrep,h1,h2,h3,h4⟩
 refine ⟨_,rfl,?_⟩
 have hfr:s.fr.map (SV.den e')=s.fr.map (SV.den e):=by
  refine List.map_congr_left fun v hv=>SV.den_le hle v ?_
  simp only [St.sc,Z18r] at hsc
  obtain ⟨⟨hf,_⟩,_⟩:=hsc
  rw [← h.rep.nv,← h.rep.nb,← h.rep.ng,← h.rep.nx] at hf
  exact List.all_eq_true.1 hf v hv
 have hrel:Rel e' W0 (kk s.nv).1 a w':=⟨hrep,by rw [h.tmps,h1,hfr],h.defs⟩
 have hR:e'.R=e.R:=by obtain ⟨_,_,_,_,_,_,_,_,hR⟩:=hle; exact hR
 refine Nx.here hle (hrel.put dst _) (((Zn _ dst _).2.2.2.2.1).trans h2) (((Zn _ dst _).2.2.2.2.2).trans h3) ((Z4v _ _ _).trans (h4.trans hdp)) ?_
 rw [hr,hR]
 exact hs
theorem Zuw {e:Env} {W0:Bas} {s:St} {w:World} (h:Rep e W0 s w) {t:TypeId} {v:SV} {y:SW} (hl:Z15e P s t v=some y):∃ a,v.den e=.pointer (some a)∧(loadVar t a).run P w=.ok (y.den e) w:=by
 unfold Z15e at hl
 split at hl
 ·rename_i n off
  split at hl
  ·rename_i b hb
   split at hl
   ·rename_i hlive
    refine ⟨⟨e.β.getD n 0,off,none⟩,rfl,?_⟩
    have:=Z36 (w:=w) (e:=e) hl (e.β.getD n 0) 0 (fun j hj=>by rw [Nat.zero_add]; exact Zbw h hb hlive j hj)
    rwa [Nat.zero_add] at this
   ·cases hl
  ·cases hl
 ·cases hl
theorem Z6j {e:Env} {W0:Bas} {s:St} {a:Act} {w:World} (h:Rel e W0 s a w) (t:Nat):a.tmps.getD t undef=(s.fr.getD t Z5).den e:=h.eval (.tmp t)
theorem Z8d {e:Env} {W0:Bas} {s:St} {a:Act} {w:World} (h:Rel e W0 s a w):∀ {l:List ResultVar} {ys:List SW},Z6c P s l=some ys →
  (l.mapM (m:=Sem) fun
   | .tmp t=>pure (a.tmps.getD t undef)
   | .cell x t=>do loadVar t (← asAddr (a.tmps.getD x undef))).run P w=.ok (ys.map (SW.den e)) w
 | [],ys,hy=>by simp only [Z6c,Option.some.injEq] at hy; subst hy; simp
 | .tmp t::l,ys,hy=>by
  simp only [Z6c] at hy
  split at hy
  ·rename_i y ys' h1 h2
   simp only [Option.some.injEq] at hy
   subst hy
   have ih:=Z8d h h2
   simp only [List.mapM_cons,Sem.run_bind,Sem.run_pure,Result.andThen_ok,ih,Z6j h t,h1,Z18k]
   rfl
  ·cases hy
 | .cell x t::l,ys,hy=>by
  simp only [Z6c] at hy
  split at hy
  ·rename_i y ys' h1 h2
   simp only [Option.some.injEq] at hy
   subst hy
   have ih:=Z8d h h2
   obtain ⟨ad,had,hrun⟩:=Zuw h.rep h1
   have hasA:(asAddr (.pointer (some ad))).run P w=.ok ad w:=rfl
   simp only [List.mapM_cons,Sem.run_bind,Z6j h x,had,hasA,Result.andThen_ok,hrun,ih,Z18k,Sem.run_pure]
  ·cases hy
theorem Z9a {e:Env} {W0:Bas} {s:St} {a:Act} {w:World} {F:Func} {v:SV} (h:Rel e W0 s a w) (hv:Zcw P F s=some v):(results F a.tmps).run P w=.ok (v.den e) w:=by
 unfold Zcw at hv
 have key:∀ {ys:List SW},Z6c P s F.results.toList=some ys→(results F a.tmps).run P w=.ok (if hh:(ys.map (SW.den e)).toArray.size=1 then (ys.map (SW.den e)).toArray[0] else .tuple (ys.map (SW.den e)).toArray) w:=by
  intro ys hy
  have:=Z8d h hy
  unfold results
  rw [Array.mapM_eq_mapM_toList]
  simp only [Sem.run_bind,Sem.run_map,Sem.run_pure]
  refine (congrArg (fun x=>(Result.andThen (Result.andThen x _) _)) this).trans ?_
  rfl
 split at hv
 ·rename_i y hy
  simp only [Option.some.injEq] at hv
  subst hv
  rw [key hy]
  rfl
 ·rename_i ys hne hy
  simp only [Option.some.injEq] at hv
  subst hv
  rw [key hy]
  have:¬ (ys.map (SW.den e)).toArray.size=1:=by
   intro hh
   simp at hh
   match ys,hh with
   | [y],_=>exact hne y rfl
  rw [dif_neg this]
  rfl
 ·cases hv
theorem Z104 {e e':Env} {W0:Bas} {s s':St} {a a':Act} {w w':World} {v:SV} (h:Rel e W0 s a w) (hsc:s.sc=true) (hle:Env.le e e') (h':Rel e' W0 s' a' w') (hf:s'.fl=s.fl) (hfr:s'.flr=s.flr) :
  ∃ e'',Env.le e e''∧Rel e'' W0 (Z13t s s' v) a w'∧v.den e''=v.den e'∧e''.r=e'.r∧e''.R=e'.R∧(Z13t s s' v).fl=s.fl∧(Z13t s s' v).flr=s.flr∧(Z13t s s' v).dp=s'.dp:=by
 have hsc':=hsc
 simp only [St.sc,Z18r] at hsc'
 obtain ⟨⟨hfs,_⟩,_⟩:=hsc'
 rw [← h.rep.nv,← h.rep.nb,← h.rep.ng,← h.rep.nx] at hfs
 have hfrm:∀ {e'':Env},Env.le e e''→a.tmps=(s.fr.map (SV.den e'')).toArray:=fun hl=>by
  rw [h.tmps]
  congr 1
  exact List.map_congr_left fun x hx=>(SV.den_le hl x (List.all_eq_true.1 hfs x hx)).symm
 unfold Z13t
 split
 ·rename_i hc
  simp only [Z18r] at hc
  obtain ⟨hv,hm⟩:=hc
  obtain ⟨p,q,x,y,h1,h2,h3,h4,h5⟩:=hle
  have hlike:Env.like s.mem.length s.rows.length e' { e' with β:=e'.β.take s.mem.length,σ:=e'.σ.take s.rows.length } :=
   ⟨rfl,rfl,rfl,fun n hn=>by simp [List.getD,hn],fun n hn=>by simp [List.getD,hn]⟩
  have hle'':Env.le e { e' with β:=e'.β.take s.mem.length,σ:=e'.σ.take s.rows.length } :=
   ⟨p,[],[],y,h1,by simp [h2,← h.rep.nb],by simp [h3,← h.rep.ng],h4,h5⟩
  have hml:s.mem.length≤s'.mem.length:=by rw [← h.rep.nb,← h'.rep.nb,h2]; simp
  have hrl:s.rows.length≤s'.rows.length:=by rw [← h.rep.ng,← h'.rep.ng,h3]; simp
  have hmt:∀ {n:Nat} {b:Blk},(s'.mem.take s.mem.length)[n]?=some b→n < s.mem.length∧s'.mem[n]?=some b∧b.cells.all (SC.scp s.mem.length s.rows.length)=true:=fun {n b} hb=>by
   have hall:=List.all_eq_true.1 hm b (List.mem_of_getElem? hb)
   rw [List.getElem?_take] at hb
   split at hb
   ·rename_i hn; exact ⟨hn,hb,hall⟩
   ·cases hb
  have hrt:∀ {n:Nat} {b:Row},(s'.rows.take s.rows.length)[n]?=some b→n < s.rows.length∧s'.rows[n]?=some b:=fun {n b} hb=>by
   rw [List.getElem?_take] at hb
   split at hb
   ·rename_i hn; exact ⟨hn,hb⟩
   ·cases hb
  have hgv:∀ n,n < s.rows.length→(G.o n).val { e' with β:=e'.β.take s.mem.length,σ:=e'.σ.take s.rows.length }=(G.o n).val e':=fun n hn=>G.val_like hlike (.o n) (by simpa [G.scp] using hn)
  have g:=h'.rep
  refine ⟨_,hle'',⟨⟨g.below,?_,?_,g.nv,g.nx,?_,?_,?_,?_,?_,?_,?_,g.gl,g.arg⟩,hfrm hle'',h.defs⟩,SV.den_like hlike v hv,rfl,rfl,rfl,rfl,rfl⟩
  ·simp [g.nb,hml]
  ·simp [g.ng,hrl]
  ·intro n b hb hl
   obtain ⟨hn,hb',hall⟩:=hmt hb
   show w'.heap[(e'.β.take s.mem.length).getD n 0]?=_
   rw [show (e'.β.take s.mem.length).getD n 0=e'.β.getD n 0 from hlike.β n hn,Z21 hlike hall]
   exact g.blk n b hb' hl
  ·intro n b hb hl hfl
   obtain ⟨hn,hb',hall⟩:=hmt hb
   show W0.may ((e'.β.take s.mem.length).getD n 0)
   rw [show (e'.β.take s.mem.length).getD n 0=e'.β.getD n 0 from hlike.β n hn]
   exact g.own n b hb' hl (by rw [hf]; exact hfl)
  ·intro n m b c hb hc hlb hlc heq
   obtain ⟨hn,hb',_⟩:=hmt hb
   obtain ⟨hm',hc',_⟩:=hmt hc
   refine g.sep n m b c hb' hc' hlb hlc ?_
   rw [← hlike.β n hn,← hlike.β m hm']
   exact heq
  ·intro n b hb hl
   obtain ⟨hn,hb'⟩:=hrt hb
   rw [hgv n hn]
   exact g.row n b hb' hl
  ·intro n b hb hl hfl j hj
   obtain ⟨hn,hb'⟩:=hrt hb
   rw [hgv n hn] at hj
   exact g.rown n b hb' hl (by rw [hfr]; exact hfl) j hj
  ·intro n m b c j hb hc hlb hlc h6 h7
   obtain ⟨hn,hb'⟩:=hrt hb
   obtain ⟨hm',hc'⟩:=hrt hc
   rw [hgv n hn] at h6
   rw [hgv m hm'] at h7
   exact g.rsep n m b c j hb' hc' hlb hlc h6 h7
  ·intro n m b c hb hc hlb hlc
   obtain ⟨hn,hb',_⟩:=hmt hb
   obtain ⟨hm',hc'⟩:=hrt hc
   have:=g.brs n m b c hb' hc' hlb hlc
   rw [← hlike.β n hn,← hgv m hm'] at this
   exact this
 ·have g:=h'.rep
  refine ⟨e',hle,⟨⟨g.below,g.nb,g.ng,g.nv,g.nx,g.blk,?_,g.sep,g.row,?_,g.rsep,g.brs,g.gl,g.arg⟩,hfrm hle,h.defs⟩,rfl,rfl,rfl,rfl,rfl,rfl⟩
  ·intro n b hb hl hfl
   exact g.own n b hb hl (by rw [hf]; exact hfl)
  ·intro n b hb hl hfl
   exact g.rown n b hb hl (by rw [hfr]; exact hfl)
theorem Z7f (e:Env):Z5.den e=undef:=rfl
theorem Z105 {ih:Code→St→Z80→T} (hih:IH P Γ ih) {s:St} {a:Act} {w:World} {W0:Bas} {e:Env} {args:List SV} {fn:FuncId} {F:Func} {body:Code} {dst:Option Tmp} {k:St→T} (h:Rel e W0 s a w) (hdp:s.dp=bs.length) (hsc:s.sc=true)
  (hF:P.funcs[fn]?=some F) (hb:F.body=some body)
  (hs:(ih body { s with fr:=args++List.replicate (F.ntmps - args.length) Z5 } fun out s'=>match out with
       | .exit _=>.fail
       | _=>match Zcw P F s' with
        | some v=>k ((Z13t s s' v).put dst v)
        | none=>.fail).sat Γ e.R Ψ bs e.r) :
  Calls P fn (args.map (SV.den e)).toArray w fun x w'=>∃ v,x=.returned v∧Nx Γ Ψ bs W0 e s.fl s.flr k (a.put dst v) w':=by
 refine calls_of_wp hF hb ?_
 have hrel:Rel e W0 { s with fr:=args++List.replicate (F.ntmps - args.length) Z5 } { tmps:=(args.map (SV.den e)).toArray++Array.replicate (F.ntmps - (args.map (SV.den e)).toArray.size) undef,defers:=[] } w :=
  ⟨h.rep.fr _,by
   apply Array.ext'
   simp [Z7f],rfl⟩
 refine wp_mono (Zfv _ (hih _ _ _ W0 Ψ bs e _ w hrel hdp hs)) ?_
 rintro x a' w' ⟨out,s',e',more,rfl,hle,hrel',hf,hfr,hdp',hsat⟩
 have fin:∀ {v:SV},Zcw P F s'=some v→(k ((Z13t s s' v).put dst v)).sat Γ e'.R Ψ (bs++more) e'.r →
   a'.defers=[]∧∃ v,(results F a'.tmps).run P w'=.ok v w'∧∃ v',Ending.returned v=.returned v'∧Nx Γ Ψ bs W0 e s.fl s.flr k (a.put dst v') w':=by
  intro v hv hk
  refine ⟨hrel'.defs,_,Z9a hrel' hv,_,rfl,?_⟩
  obtain ⟨e'',hle'',hrel'',hvd,hr,hR,h1,h2,h3⟩:=Z104 (v:=v) h hsc hle hrel' hf hfr
  rw [← hvd]
  exact ⟨_,e'',more,hle'',hrel''.put dst v,(Zn _ dst v).2.2.2.2.1.trans h1,(Zn _ dst v).2.2.2.2.2.trans h2,(Z4v _ _ _).trans (h3.trans hdp'),by rw [hr,hR]; exact hk⟩
 cases out with
 | norm =>
  dsimp only at hsat
  split at hsat
  ·rename_i v hv; exact fin hv hsat
  ·exact hsat.elim
 | exit id=>exact hsat.elim
 | ret =>
  dsimp only at hsat
  split at hsat
  ·rename_i v hv; exact fin hv hsat
  ·exact hsat.elim
end Go.Sx
namespace Go.Sx
open Go.RowKit
variable {P:Program} {Γ:List Sum} {Ψ:List Int→Prop} {bs:List (List Int→Prop)}
theorem Zk4:∀ {ks:List K},Z39 ks ks=true→∀ {xs:List Int} {u:Value},u ∈ Z7 ks xs→u.oneCell'=true
 | [],_,_,_,h=>by simp [Z7] at h
 | k::ks,hk,[],_,h=>by simp [Z7] at h
 | k::ks,hk,x::xs,u,h=>by
  simp only [Z39,Z18r] at hk
  simp only [Z7,List.mem_cons] at h
  rcases h with rfl | h
  ·cases k with
   | i k=>rfl
   | b=>rfl
   | s ty kr=>simp [K.same] at hk
  ·exact Zk4 hk.2 h
theorem Zs3 {ks:List K} (hk:Z39 ks ks=true) {l:List Int} {u:Value} (h:u ∈ Zb ks l):u.oneCell'=true:=by
 simp only [Zb,List.mem_flatMap] at h
 obtain ⟨x,_,hx⟩:=h
 exact Zk4 hk hx
theorem Z6k {t ty elem:TypeId} {inf:TypeInfo} {w:World} (ht:P.underlying t=some (.slice elem)) (hi:P.info? elem=some inf) {q r:Option Addr} {n cap c:Nat} (hle:n≤cap) :
  (Builtin.append_ #[t,t] ty #[.slice q n cap,.slice r 0 c]).run P w=.ok (.slice q n cap) w:=by
 cases q <;> cases r <;> simp [Builtin.append_,run_underlying ht,sizeOf,typeInfo,hi,Builtin.lenOf,hle,Builtin.firstCells,loadCells,loadCellsFrom,storeCells]
theorem Zs.form {w:World} {ty:TypeId} {ks:List K} {v:Value} {c:Int} (h:Zs w ty ks v c) :
  (∃ a,dec c=[]∧v=.slice a 0 0) ∨
  (∃ g cap,v=.slice (some ⟨g,0,none⟩) (dec c).length cap∧cap ≠ 0∧(dec c).length≤cap∧ks.length ≠ 0∧(∀ x ∈ dec c,(elt ks x).length=ks.length)∧w.ownsRow 0 ty ks.length v (dec c).length (Zb ks (dec c))):=by
 rcases h with ⟨h1,a,h2⟩ | ⟨h0,h1,h2⟩
 ·exact .inl ⟨a,h1,h2⟩
 ·have h3:=h2
  rcases h2.2 with ⟨hv,hn⟩ | ⟨g,cap,cur,hv,_,hc,hle,hm,hsz,ht⟩
  ·exact .inl ⟨_,List.eq_nil_of_length_eq_zero hn,hv⟩
  ·by_cases hcap:cap=0
   ·subst hcap
    have hl:(dec c).length=0:=by omega
    exact .inl ⟨some ⟨g,0,none⟩,List.eq_nil_of_length_eq_zero hl,by rw [hv,hl]⟩
   ·exact .inr ⟨g,cap,hv,hcap,hle,h0,h1,h3⟩
theorem Z15x {t ty elem:TypeId} {inf:TypeInfo} {z:Value} {ks:List K} {w:World} (ht:P.underlying t=some (.slice elem)) (hi:P.info? elem=some inf) (hz:inf.zero=some z) (hzs:z.cells.size=inf.size) (h0:inf.size ≠ 0)
    (hks:ks.length=inf.size) (hflat:Z39 ks ks=true) (hby:inf.bytes≤100000000) {v x:Value} {c d:Int} (hv:Zs w elem ks v c) (hx:Z5a w ks x d) (hlen:(dec c).length + (dec d).length≤1000000) :
    ∃ v' w',(Builtin.append_ #[t,t] ty #[v,x]).run P w=.ok v' w'∧(∀ c',dec c'=dec c++dec d→Zs w' elem ks v' c')∧w.grownBy w' (Z6 v)∧(∀ k,Z6 v'=some k→Z6 v=some k∨k=w.heap.size)∧∃ a l cp,v'=.slice a l cp:=by
  have hsame:∀ row,w.grownBy w row:=fun row=>⟨rfl,rfl,rfl,Nat.le_refl _,fun _ _ _=>rfl⟩
  by_cases hd:dec d=[]
  · -- nothing is appended
    have hxz:∃ r cp,x=.slice r 0 cp:=by
      rcases hx with ⟨⟨a,hx⟩,_⟩ | ⟨b,off,cap,hx,_⟩
      · exact ⟨_,_,hx⟩
      · exact ⟨_,_,by rw [hx,hd]; rfl⟩
    obtain ⟨r,cp,rfl⟩:=hxz
    have hvz:∃ q n cap,v=.slice q n cap∧n≤cap:=by
      rcases hv.form with ⟨b,_,hv⟩ | ⟨g,cap,hv,_,hle,_⟩
      · exact ⟨_,_,_,hv,Nat.le_refl _⟩
      · exact ⟨_,_,_,hv,hle⟩
    obtain ⟨q,n,cap,rfl,hle⟩:=hvz
    refine ⟨_,w,Z6k ht hi hle,fun c' hc'=>?_,hsame _,fun k hk=>.inl hk,_,_,_,rfl⟩
    rw [hd,List.append_nil] at hc'
    unfold Zs at hv ⊢
    rw [hc']
    exact hv
  · rcases hx with ⟨_,hn⟩ | ⟨b,off,cx,rfl,hle,hm,hel,hcell⟩
    · exact absurd hn hd
    have hm0:0 < (dec d).length:=List.length_pos_iff.2 hd
    have hnl:(Zb ks (dec d)).length=(dec d).length * inf.size:=by rw [Zl hel,hks]
    have hnews:∀ j u,(Zb ks (dec d))[j]?=some u→w.cell? ((⟨b,off,none⟩:Addr).add j)=some u:=fun j u hj=>by rw [Addr.add_lit]; exact hcell j u hj
    have h1:∀ u ∈ Zb ks (dec d),u.oneCell'=true:=fun u hu=>Zs3 hflat hu
    have hbytes:∀ n,n≤1000000→n * inf.bytes≤140737488355328:=fun n hn=>by
      have:=Nat.mul_le_mul hn hby
      omega
    have own:∀ {v:Value},w.ownsRow 0 elem ks.length v (dec c).length (Zb ks (dec c))→(∀ x ∈ dec c,(elt ks x).length=ks.length)→v.ownBlock=Z6 v →
        ∃ v' w',(Builtin.append_ #[t,t] ty #[v,.slice (some ⟨b,off,none⟩) (dec d).length cx]).run P w=.ok v' w'∧(∀ c',dec c'=dec c++dec d→Zs w' elem ks v' c')∧w.grownBy w' (Z6 v)∧(∀ k,Z6 v'=some k→Z6 v=some k∨k=w.heap.size)∧∃ a l cp,v'=.slice a l cp:=by
      intro v hown helc hob
      rw [hks] at hown
      obtain ⟨g,cap,w',hr,ho,hgr,hat,_⟩:=run_append_lies (P:=P) w t ty 0 elem inf z inf.size inf.bytes ht hi hz rfl rfl hzs (by omega) v (dec c).length _ hown ⟨b,off,none⟩ (dec d).length cx _ hnl hnews h1 hm0 (by unfold maxLen; omega) (hbytes _ hlen) (Nat.zero_le _) _ rfl
      refine ⟨_,w',hr,fun c' hc'=>.inr ⟨by omega,?_,?_⟩,by rw [← hob]; exact hgr,?_,_,_,_,rfl⟩
      · rw [hc']
        intro y hy
        rcases List.mem_append.1 hy with hy | hy
        · exact helc y hy
        · exact hel y hy
      · rw [hc',Z78,List.length_append,hks]
        exact ho
      · intro k hk
        simp only [Z6] at hk
        split at hk
        · cases hk
        · simp only [Option.some.injEq] at hk
          rw [hob] at hat
          rcases hat with hat | hat
          · exact .inl (by rw [hat,hk])
          · exact .inr (by rw [← hk,hat])
    rcases hv.form with ⟨b',hn,rfl⟩ | ⟨g,cap,hvv,hcap,hle',hk0,helc,hown⟩
    · cases b' with
      | none =>
       refine own ?_ (by rw [hn]; simp) rfl
       rw [hn]
       exact World.ownsRow_nil _ _ _ _
      | some b' =>
      have hr:=run_append_grow (P:=P) w t ty elem inf z ht hi hz b' 0 0 [] (by simp) (by simp) ⟨b,off,none⟩ (dec d).length cx _ hnl hnews (by omega) (by omega) (growslice_fits (by omega) (by have:=hbytes (dec d).length (by omega); simpa using this))
      simp only [Nat.zero_add] at hr
      refine ⟨_,_,hr,fun c' hc'=>.inr ⟨by omega,?_,?_⟩,⟨rfl,rfl,rfl,by simp,fun k hk _=>heap_alloc_old w.drew _ hk⟩,?_,_,_,_,rfl⟩
      · rw [hc',hn]
        simpa using hel
      · rw [hc',hn,Z18j]
        have hge:=grownCap_ge w (dec d).length 0 elem
        refine ⟨by rw [hnl,hks],.inr ⟨w.heap.size,_,_,rfl,Nat.zero_le _,heap_alloc_new w.drew _,hge,grownCap_le_maxLen w (dec d).length 0 elem (by unfold maxLen; omega),?_,?_⟩⟩
        · simp only [Array.size_append,List.size_toArray,List.length_nil,size_zeroCells,hzs,hnl,hks,← Nat.add_mul,Nat.zero_add]
          congr 1
          omega
        · simp only [Array.toList_append,Z18j]
          rw [hks,← hnl]
          exact List.take_left
      · intro k hk
        simp only [Z6] at hk
        split at hk
        · cases hk
        · simp only [Option.some.injEq] at hk
          exact .inr hk.symm
    · refine own hown helc ?_
      rw [hvv]
      simp [Value.ownBlock,Z6,hcap]
theorem Zs.take {w:World} {ty:TypeId} {ks:List K} {v:Value} {c c':Int} (h:Zs w ty ks v c) {hi:Nat} (hc:dec c'=(dec c).take hi) (hle:hi≤(dec c).length) (size:Nat) :
  Zs w ty ks (Zfj size v 0 hi) c'∧Z6 (Zfj size v 0 hi)=Z6 v:=by
 have hadd:∀ q:Option Addr,q.map (fun x=>x.add (0 * size))=q:=fun q=>by cases q <;> simp [Addr.add]
 rcases h.form with ⟨b,hn,rfl⟩ | ⟨g,cap,hvv,hcap,hle',hk0,helc,hown⟩
 ·rw [hn] at hle hc
  have:hi=0:=by simpa using hle
  subst this
  exact ⟨.inl ⟨by rw [hc]; simp,b,by simp [Zfj]⟩,by cases b <;> simp [Zfj,Z6]⟩
 ·rcases hown.2 with ⟨hv,_⟩ | ⟨g',cap',cur,hv,_,hcu,hl2,hm,hsz,ht⟩
  ·rw [hvv] at hv; cases hv
  ·rw [hvv] at hv
   simp only [Value.slice.injEq,Option.some.injEq,Addr.mk.injEq] at hv
   obtain ⟨⟨rfl,_⟩,_,rfl⟩:=hv
   have hsub:Zfj size v 0 hi=.slice (some ⟨g,0,none⟩) hi cap:=by
    rw [hvv]
    simp only [Zfj,hadd,Nat.sub_zero,ite_self]
   rw [hsub]
   have hl:(dec c').length=hi:=by rw [hc,List.length_take]; omega
   refine ⟨.inr ⟨hk0,?_,?_,.inr ⟨g,cap,cur,by rw [hl],Nat.zero_le _,hcu,by omega,hm,hsz,?_⟩⟩,?_⟩
   ·rw [hc]; exact fun x hx=>helc x (List.mem_of_mem_take hx)
   ·rw [Zl]
    rw [hc]; exact fun x hx=>helc x (List.mem_of_mem_take hx)
   ·rw [hl,hc,Zd5 helc,← ht,List.take_take]
    congr 1
    rw [Nat.min_eq_left]
    exact Nat.mul_le_mul_right _ hle
   ·rw [hvv]; simp [Z6]
theorem Zs4 {e:Env} {W0:Bas} {s:St} {w:World} (h:Rep e W0 s w) {elem:TypeId} {ks:List K} {v:SV} {aZ:List B} {be:E} {rows:List Row} (hb:Z15f s elem ks v=some (aZ,be,rows)) (has:∀ b ∈ aZ,b.den e.R e.r=true) :
  Zs w elem ks (v.den e) (be.den e.R e.r)∧rows.length=s.rows.length∧(∀ (j:Nat) (b:Row),rows[j]?=some b→b.live=true→s.rows[j]?=some b∧∀ k,Z6 (v.den e)=some k→Z6 ((G.o j).val e) ≠ some k) ∧
   (∀ k,Z6 (v.den e)=some k→W0.may k∧∀ (n:Nat) (b:Blk),s.mem[n]?=some b→b.live=true→e.β.getD n 0 ≠ k):=by
 unfold Z15f at hb
 split at hb
 ·simp only [Option.some.injEq,Prod.mk.injEq] at hb
  obtain ⟨rfl,rfl,rfl⟩:=hb
  refine ⟨.inl ⟨by simp [E.den],_,rfl⟩,rfl,fun j b hj hl=>⟨hj,fun k hk=>by cases hk⟩,fun k hk=>by cases hk⟩
 ·simp only [Option.some.injEq,Prod.mk.injEq] at hb
  obtain ⟨rfl,rfl,rfl⟩:=hb
  exact ⟨.inl ⟨by simp [E.den],_,rfl⟩,rfl,fun j b hj hl=>⟨hj,fun k hk=>by cases hk⟩,fun k hk=>by cases hk⟩
 ·rename_i g
  split at hb
  ·rename_i hg
   simp only [Option.some.injEq,Prod.mk.injEq] at hb
   obtain ⟨rfl,rfl,rfl⟩:=hb
   obtain ⟨⟨ks',c'⟩,hg'⟩:=Option.isSome_iff_exists.1 hg
   have hnb:Z6 ((SV.w (.o (.gz g))).den e)=none:=by
    obtain ⟨a,l,c,hv⟩:=G.val_slice e g
    simp only [SV.den,SW.den,SC.den,hv,Zu1]
    cases a <;> simp [Z6]
   refine ⟨.inl ⟨by simp [E.den],?_⟩,rfl,fun j b hj hl=>⟨hj,fun k hk=>by rw [hnb] at hk; cases hk⟩,fun k hk=>by rw [hnb] at hk; cases hk⟩
   simp only [SV.den,SW.den,SC.den]
   obtain ⟨a,l,c,hv⟩:=G.val_slice e g
   exact ⟨a,by rw [hv]; rfl⟩
  ·cases hb
 ·rename_i n
  split at hb
  ·rename_i b hbn
   split at hb
   ·rename_i hc
    simp only [Z18r,Z18s] at hc
    obtain ⟨⟨⟨hl,hfl⟩,hty⟩,hks⟩:=hc
    have hks':=Z26 hks
    simp only [Option.some.injEq,Prod.mk.injEq] at hb
    obtain ⟨rfl,rfl,rfl⟩:=hb
    subst hty
    rw [← hks']
    refine ⟨h.row n b hbn hl,by simp,fun j bb hj hll=>?_,fun k hk=>⟨h.rown n b hbn hl hfl k hk,fun m bb hm hml heq=>h.brs m n bb b hm hbn hml hl (by rw [heq]; exact hk)⟩⟩
    rcases Z15 hj with ⟨rfl,rfl,_⟩ | ⟨hne,hj'⟩
    ·cases hll
    ·exact ⟨hj',fun k hk hk'=>hne (h.rsep j n bb b k hj' hbn hll hl hk' hk)⟩
   ·cases hb
  ·cases hb
 ·rename_i n size hi
  split at hb
  ·rename_i b hbn
   split at hb
   ·rename_i hc
    simp only [Z18r,Z18s] at hc
    obtain ⟨⟨⟨⟨hl,hfl⟩,hty⟩,hks⟩,hsz⟩:=hc
    have hks':=Z26 hks
    simp only [Option.some.injEq,Prod.mk.injEq] at hb
    obtain ⟨rfl,rfl,rfl⟩:=hb
    subst hty
    rw [← hks']
    obtain ⟨v1,v2,v3⟩:=Zbf has
    simp only [E.den] at v2
    obtain ⟨ht1,ht2⟩:=(h.row n b hbn hl).take (c':=(Z8u b.c hi).den e.R e.r) (hi:=(hi.den e.R e.r).toNat) (by rw [Zaj,Z4]) (by omega) size
    have hval:(SV.w (.o (.gv (.o n) size (.c 0) hi))).den e=Zfj size ((G.o n).val e) 0 (hi.den e.R e.r).toNat:=rfl
    rw [hval,ht2]
    refine ⟨ht1,by simp,fun j bb hj hll=>?_,fun k hk=>⟨h.rown n b hbn hl hfl k hk,fun m bb hm hml heq=>h.brs m n bb b hm hbn hml hl (by rw [heq]; exact hk)⟩⟩
    rcases Z15 hj with ⟨rfl,rfl,_⟩ | ⟨hne,hj'⟩
    ·cases hll
    ·exact ⟨hj',fun k hk hk'=>hne (h.rsep j n bb b k hj' hbn hll hl hk' hk)⟩
   ·cases hb
  ·cases hb
 ·cases hb
theorem Zs5 {s:St} {a:Act} {w:World} {W0:Bas} {e:Env} {o:Oper} {c:Call} {k:St→T} {Q:Exit→Act→World→Prop} (h:Rel e W0 s a w) (hdp:s.dp=bs.length) (ho:o.op=.call c) (hcal:c.callee=.builtin .append)
  (hs:(appT P o c s k).sat Γ e.R Ψ bs e.r):o.wp P a w (Nx Γ Ψ bs W0 e s.fl s.flr k) Q:=by
 unfold appT at hs
 split at hs
 ·rename_i ax x t t' hargs htys
  split at hs
  ·exact hs.elim
  ·rename_i htt
   simp only [ne_eq,Decidable.not_not] at htt
   subst htt
   have hc:c={ callee:=.builtin .append,args:=#[ax,x],argTypes:=#[t,t] }:=by
    cases c
    simp only at hcal hargs htys
    subst hcal
    congr 1
    ·apply Array.ext'; simpa using hargs
    ·apply Array.ext'; simpa using htys
   subst hc
   split at hs
   ·rename_i elem hu
    split at hs
    ·rename_i inf ks hinf hks
     split at hs
     ·rename_i z hz
      split at hs
      ·exact hs.elim
      ·rename_i hcond
       simp only [ne_eq,Bool.or_eq_true,Z18s,Bool.not_eq_true',not_or,Decidable.not_not,Bool.not_eq_false,gt_iff_lt,Nat.not_lt] at hcond
       obtain ⟨⟨⟨⟨⟨h0,hzs⟩,hkl⟩,hby⟩,hflat⟩,hscp⟩:=hcond
       split at hs
       ·rename_i aZ xe bs' be rows hsrc hbase
        obtain ⟨has,hs⟩:=Z22 hs
        have hxv:Z5a w ks (a.eval x) (xe.den e.R e.r):=by
         rw [h.eval x]
         split at hsrc
         ·rename_i xc hxc
          rw [hxc]
          exact Zg5 h.rep hsrc (fun b hb=>has b (by simp [hb]))
         ·cases hsrc
        obtain ⟨b1,b2,b3,b4⟩:=Zs4 h.rep hbase (fun b hb=>has b (by simp [hb]))
        rw [← h.eval ax] at b1 b3 b4
        have hlim:=has (Z5b (Zop (Zmb be xe)) (.c 1000000)) (by simp)
        rw [Z2m,Z18s,Z5f,Zjr] at hlim
        simp only [E.den,List.length_append] at hlim
        obtain ⟨v',w',hr,hrow,hgr,hat,hsl⟩:=Z15x (P:=P) (ty:=o.type) hu hinf hz hzs h0 hkl hflat hby b1 hxv (by omega)
        have hk:=h.rep.kill b2 (fun j b hj hl=>(b3 j b hj hl).1)
        have hrep1:=hk.grownRow hgr (fun k hk=>(b4 k hk).1) (fun n b hb hl hk'=>(b4 _ hk').2 n b hb hl rfl) (fun n b hb hl k hk' hk''=>(b3 n b hb hl).2 k hk'' hk')
        have hscp':({ s with rows:=rows }:St).scp=true:=by
         unfold St.scp at hscp ⊢
         show (s.fr.all (SV.scp s.mem.length rows.length) && s.mem.all (fun b=>b.cells.all (SC.scp s.mem.length rows.length)))=true
         rw [b2]; exact hscp
        obtain ⟨hrep,hlike⟩:=hrep1.addRows hscp' (rows:=[(⟨elem,ks,Zmb be xe,true⟩:Row)]) (vals:=[v']) rfl (fun j b v hj hv _=>by
          cases j with
          | zero =>
           simp only [Z18e,Option.some.injEq] at hj hv
           subst hj; subst hv
           exact ⟨hsl,hrow _ (Zjr _ _ _ _)⟩
          | succ j=>simp at hj)
         (fun j b v k hj hv _ hk=>by
          cases j with
          | zero =>
           simp only [Z18e,Option.some.injEq] at hv
           subst hv
           rcases hat k hk with hk' | rfl
           ·exact ⟨(b4 k hk').1,(b4 k hk').2,fun n b hb hl=>(b3 n b hb hl).2 k hk'⟩
           ·refine ⟨.inl h.rep.below.size,fun n b hb hl heq=>?_,fun n b hb hl heq=>?_⟩
            ·have:=Z1g (h.rep.blk n b hb hl); omega
            ·have:=(h.rep.row n b (b3 n b hb hl).1 hl).blk_lt heq; omega
          | succ j=>simp at hj)
         (fun i j u v k hi hj _ _=>by
          cases i <;> cases j <;> simp at hi hj ⊢)
        have hrel:Rel { e with σ:=e.σ++[v'] } W0 { s with rows:=rows++[(⟨elem,ks,Zmb be xe,true⟩:Row)] } a w':=⟨hrep,by
         rw [h.tmps]; congr 1
         exact List.map_congr_left fun y hy=>(SV.den_like hlike y ((St.scp_spec hscp').1 y hy)).symm,h.defs⟩
        have hv:(one (.go (.o s.rows.length))).den { e with σ:=e.σ++[v'] }=v':=by
         obtain ⟨a',l,cp,rfl⟩:=hsl
         simp [one,SV.den,SW.den,SC.den,G.val,List.getD,← h.rep.ng,slV]
        have hfin:Nx Γ Ψ bs W0 e s.fl s.flr k (a.put o.dst v') w':=by
         rw [← hv]
         exact Nx.here ⟨[],[],[v'],[],by simp⟩ (hrel.put o.dst _) ((Zn _ _ _).2.2.2.2.1) ((Zn _ _ _).2.2.2.2.2) ((Z4v _ _ _).trans hdp) hs
        unfold Oper.wp execOp
        simp only [ho,resolve,invoke,builtin,Sem.run_bind,Sem.run_pure,Result.andThen_ok,List.map_toArray,Z18k,Z18l,hr]
        exact hfin
       ·exact hs.elim
     ·exact hs.elim
    ·exact hs.elim
   ·exact hs.elim
 ·exact hs.elim
theorem Zmr {s:St} {a:Act} {w:World} {W0:Bas} {e:Env} {o:Oper} {t:TypeId} {l c:Operand} {k:St→T} {Q:Exit→Act→World→Prop} (h:Rel e W0 s a w) (hdp:s.dp=bs.length) (ho:o.op=.makeSlice t l c)
  (hs:(Zzp P o t l c s k).sat Γ e.R Ψ bs e.r):o.wp P a w (Nx Γ Ψ bs W0 e s.fl s.flr k) Q:=by
 unfold Zzp at hs
 split at hs
 ·rename_i elem le ce hu hle hce
  split at hs
  ·rename_i inf ks z hinf hks hz
   split at hs
   ·exact hs.elim
   ·rename_i hcond
    simp only [ne_eq,Bool.or_eq_true,Z18s,Bool.not_eq_true',not_or,Decidable.not_not,Bool.not_eq_false,gt_iff_lt,Nat.not_lt] at hcond
    obtain ⟨⟨⟨h0,hkl⟩,hby⟩,hscp⟩:=hcond
    split at hs
    ·rename_i es hes
     obtain ⟨has,hs⟩:=Z22 hs
     have e1:=has (Z13s le ce) (by simp)
     have e2:=has (Z5b (.c 0) le) (by simp)
     have e3:=has (Z5b le (.c 1000000)) (by simp)
     rw [Zh7,beq_iff_eq] at e1
     rw [Z2m,Z18s] at e2 e3
     simp only [E.den] at e2 e3
     obtain ⟨n,hn⟩:=Int.eq_ofNat_of_zero_le e2
     obtain ⟨k1,hk1⟩:=Z7b hle e
     obtain ⟨k2,hk2⟩:=Z7b hce e
     rw [← h.eval l] at hk1
     rw [← h.eval c,← e1] at hk2
     obtain ⟨f1,f2⟩:=Z2p (e:=e) hes
     have hzz:∃ zv,inf.zero=some zv∧zv.cells.toList=z.map (SC.den e):=by
      simp only [Z5w,hinf,Option.bind_some,Option.map_eq_some_iff] at hz
      obtain ⟨zv,hzv,rfl⟩:=hz
      refine ⟨zv,hzv,?_⟩
      rw [List.map_map,show (SC.den e ∘ SC.ofV)=id from funext fun v=>SC.den_ofV e v]
      simp
     obtain ⟨zv,hzv,hzl⟩:=hzz
     have hel:elt ks ((Z2i es).den e.R e.r)=es.map (E.den e.R e.r):=Z92 _ _ f1
     have hzsz:zv.cells.size=inf.size:=by
      have:=congrArg List.length hzl
      rw [f2,Z16 (by simpa using f1),hkl] at this
      simpa using this
     obtain ⟨w',hr,hown,hgr⟩:=run_make_full (P:=P) w 0 t elem inf zv inf.size hu hinf hzv rfl k1 k2 n (by
      have h2:n≤1000000:=by omega
      have:=Nat.mul_le_mul hby h2
      omega) (by unfold maxLen; omega) (Nat.zero_le _)
     have hdec:dec ((Zae le (Z2i es)).den e.R e.r)=List.replicate n ((Z2i es).den e.R e.r):=by rw [Zjs,Z4,hn]; rfl
     have hcells:(madeCells zv.cells (n * inf.size)).toList=Zb ks (List.replicate n ((Z2i es).den e.R e.r)):=by
      unfold madeCells
      rw [← hzsz,Zak]
      simp only [Zb,List.flatMap_replicate,hel,← f2,hzl]
     have hrow:Zs w' elem ks (.slice (some ⟨w.heap.size,0,none⟩) n n) ((Zae le (Z2i es)).den e.R e.r):=by
      refine .inr ⟨by omega,?_,?_⟩
      ·rw [hdec]
       intro x hx
       rw [(List.mem_replicate.1 hx).2,hel]
       simpa using f1
      ·rw [hdec,List.length_replicate,← hcells,hkl]
       exact hown
     have hrep1:=h.rep.grownRow hgr (fun k hk=>by cases hk) (fun n b hb hl hk=>by cases hk) (fun n b hb hl k hk hk'=>by cases hk')
     obtain ⟨hrep,hlike⟩:=hrep1.addRows hscp (rows:=[(⟨elem,ks,Zae le (Z2i es),true⟩:Row)]) (vals:=[Value.slice (some ⟨w.heap.size,0,none⟩) n n]) rfl (fun j b v hj hv _=>by
       cases j with
       | zero =>
        simp only [Z18e,Option.some.injEq] at hj hv
        subst hj; subst hv
        exact ⟨⟨_,_,_,rfl⟩,hrow⟩
       | succ j=>simp at hj)
      (fun j b v k hj hv _ hk=>by
       cases j with
       | zero =>
        simp only [Z18e,Option.some.injEq] at hv
        subst hv
        simp only [Z6] at hk
        split at hk
        ·cases hk
        ·simp only [Option.some.injEq] at hk
         subst hk
         refine ⟨.inl h.rep.below.size,fun n b hb hl heq=>?_,fun n b hb hl heq=>?_⟩
         ·have:=Z1g (h.rep.blk n b hb hl); omega
         ·have:=(h.rep.row n b hb hl).blk_lt heq; omega
       | succ j=>simp at hj)
      (fun i j u v k hi hj _ _=>by
       cases i <;> cases j <;> simp at hi hj ⊢)
     have hrel:Rel { e with σ:=e.σ++[Value.slice (some ⟨w.heap.size,0,none⟩) n n] } W0 { s with rows:=s.rows++[(⟨elem,ks,Zae le (Z2i es),true⟩:Row)] } a w':=⟨hrep,by
      rw [h.tmps]; congr 1
      exact List.map_congr_left fun y hy=>(SV.den_like hlike y ((St.scp_spec hscp).1 y hy)).symm,h.defs⟩
     have hv:(one (.go (.o s.rows.length))).den { e with σ:=e.σ++[Value.slice (some ⟨w.heap.size,0,none⟩) n n] }=Value.slice (some ⟨w.heap.size,0,none⟩) n n:=by
      simp [one,SV.den,SW.den,SC.den,G.val,List.getD,← h.rep.ng,slV]
     have hfin:Nx Γ Ψ bs W0 e s.fl s.flr k (a.put o.dst (Value.slice (some ⟨w.heap.size,0,none⟩) n n)) w':=by
      rw [← hv]
      exact Nx.here ⟨[],[],[Value.slice (some ⟨w.heap.size,0,none⟩) n n],[],by simp⟩ (hrel.put o.dst _) ((Zn _ _ _).2.2.2.2.1) ((Zn _ _ _).2.2.2.2.2) ((Z4v _ _ _).trans hdp) hs
     rw [hn] at hk1 hk2
     unfold Oper.wp
     simp only [execOp,ho,hk1,hk2,Sem.run_bind,hr,Result.andThen_ok,Sem.run_pure]
     exact hfin
    ·exact hs.elim
  ·exact hs.elim
 ·exact hs.elim
theorem Zp2:∀ {a b:List SC},Zjg a b=true→a=b
 | [],[],_=>rfl
 | [],y::ys,h=>by simp [Zjg] at h
 | x::xs,[],h=>by unfold Zjg at h; split at h <;> simp_all
 | x::xs,y::ys,h=>by
  have key:x=y∧Zjg xs ys=true:=by
   unfold Zjg at h
   split at h
   ·simp_all
   ·rename_i h1 h2
    simp only [List.cons.injEq] at h1 h2
    simp only [Z18r,beq_iff_eq] at h
    exact ⟨by rw [h1.1,h2.1,h.1.1,h.1.2],by rw [h1.2,h2.2]; exact h.2⟩
   ·rename_i h1 h2
    simp only [List.cons.injEq] at h1 h2
    simp only [Z18r,beq_iff_eq] at h
    exact ⟨by rw [h1.1,h2.1,h.1],by rw [h1.2,h2.2]; exact h.2⟩
   ·cases h
  rw [key.1,Zp2 key.2]
theorem Zk5 {s:St} {a:Act} {w:World} {W0:Bas} {e:Env} {o:Oper} {t:TypeId} {ks:List K} {n:Nat} {z:List SC} {es:List E} {k:St→T} {Q:Exit→Act→World→Prop} (h:Rel e W0 s a w) (hdp:s.dp=bs.length) (ho:o.op=.alloc t)
  (hz:bigZ P t=some (ks,n,z,es)) (hs:(Zuf o t ks n es s k).sat Γ e.R Ψ bs e.r):o.wp P a w (Nx Γ Ψ bs W0 e s.fl s.flr k) Q:=by
 unfold bigZ at hz
 split at hz
 ·rename_i n0 elem hu
  split at hz
  ·rename_i ks0 z0 hks hz0
   split at hz
   ·rename_i es0 hes
    split at hz
    ·rename_i hc
     simp only [Z18r,Z18s] at hc
     obtain ⟨⟨⟨hn1,hn2⟩,hk0⟩,hzs⟩:=hc
     simp only [Option.some.injEq,Prod.mk.injEq] at hz
     obtain ⟨rfl,rfl,rfl,rfl⟩:=hz
     unfold Zuf at hs
     split at hs
     ·rename_i hscp
      obtain ⟨zv,hz1,hz2⟩:=Z35 hz0 w e
      obtain ⟨f1,f2⟩:=Z2p (e:=e) hes
      have hzz:=Zp2 hzs
      have hel:elt ks0 ((Z2i es0).den e.R e.r)=es0.map (E.den e.R e.r):=Z92 _ _ f1
      have hdec:dec ((Zae (.c (n0:Int)) (Z2i es0)).den e.R e.r)=List.replicate n0 ((Z2i es0).den e.R e.r):=by rw [Zjs,Z4]; simp [E.den]
      have hcl:z0.map (SC.den e)=Zb ks0 (List.replicate n0 ((Z2i es0).den e.R e.r)):=by
       rw [← hzz,Zby]
       simp only [Zb,List.flatMap_replicate,hel,← f2]
      have hr:(execOp a.eval o).run P w=.ok (.value (.pointer (some ⟨w.heap.size,0,none⟩))) (w.alloc (.cells (z0.map (SC.den e)).toArray t)):=by
       simp [execOp,ho,Instr.alloc,hz1,newVar,newRow,hz2]
      have hgr:=World.grownBy_alloc w (.cells (z0.map (SC.den e)).toArray t) none
      have hll:(Zb ks0 (List.replicate n0 ((Z2i es0).den e.R e.r))).length=n0 * ks0.length:=by
       rw [Zl (fun x hx=>by rw [(List.mem_replicate.1 hx).2,hel]; simpa using f1),List.length_replicate]
      have hrow:Zs (w.alloc (.cells (z0.map (SC.den e)).toArray t)) t ks0 (.slice (some ⟨w.heap.size,0,none⟩) n0 n0) ((Zae (.c (n0:Int)) (Z2i es0)).den e.R e.r):=by
       refine .inr ⟨hk0,?_,?_⟩
       ·rw [hdec]
        intro x hx
        rw [(List.mem_replicate.1 hx).2,hel]
        simpa using f1
       ·rw [hdec,List.length_replicate]
        refine ⟨hll,.inr ⟨w.heap.size,n0,(z0.map (SC.den e)).toArray,rfl,Nat.zero_le _,heap_alloc_new _ _,Nat.le_refl _,by unfold maxLen; omega,by rw [hcl]; simpa using hll,?_⟩⟩
        rw [hcl,← hll]
        exact List.take_length
      have hrep1:=h.rep.grownRow hgr (fun k hk=>by cases hk) (fun n b hb hl hk=>by cases hk) (fun n b hb hl k hk hk'=>by cases hk')
      obtain ⟨hrep,hlike⟩:=hrep1.addRows hscp (rows:=[(⟨t,ks0,Zae (.c (n0:Int)) (Z2i es0),true⟩:Row)]) (vals:=[Value.slice (some ⟨w.heap.size,0,none⟩) n0 n0]) rfl (fun j b v hj hv _=>by
        cases j with
        | zero =>
         simp only [Z18e,Option.some.injEq] at hj hv
         subst hj; subst hv
         exact ⟨⟨_,_,_,rfl⟩,hrow⟩
        | succ j=>simp at hj)
       (fun j b v k hj hv _ hk=>by
        cases j with
        | zero =>
         simp only [Z18e,Option.some.injEq] at hv
         subst hv
         simp only [Z6] at hk
         split at hk
         ·cases hk
         ·simp only [Option.some.injEq] at hk
          subst hk
          refine ⟨.inl h.rep.below.size,fun n b hb hl heq=>?_,fun n b hb hl heq=>?_⟩
          ·have:=Z1g (h.rep.blk n b hb hl); omega
          ·have:=(h.rep.row n b hb hl).blk_lt heq; omega
        | succ j=>simp at hj)
       (fun i j u v k hi hj _ _=>by
        cases i <;> cases j <;> simp at hi hj ⊢)
      have hrel:Rel { e with σ:=e.σ++[Value.slice (some ⟨w.heap.size,0,none⟩) n0 n0] } W0 { s with rows:=s.rows++[(⟨t,ks0,Zae (.c (n0:Int)) (Z2i es0),true⟩:Row)] } a (w.alloc (.cells (z0.map (SC.den e)).toArray t)):=⟨hrep,by
       rw [h.tmps]; congr 1
       exact List.map_congr_left fun y hy=>(SV.den_like hlike y ((St.scp_spec hscp).1 y hy)).symm,h.defs⟩
      have hv:(one (.gp (.o s.rows.length) ks0.length (.c 0) 0)).den { e with σ:=e.σ++[Value.slice (some ⟨w.heap.size,0,none⟩) n0 n0] }=Value.pointer (some ⟨w.heap.size,0,none⟩):=by
       simp [one,SV.den,SW.den,SC.den,G.val,List.getD,← h.rep.ng,slV,atV,E.den,Addr.add_lit]
      have hfin:Nx Γ Ψ bs W0 e s.fl s.flr k (a.put o.dst (Value.pointer (some ⟨w.heap.size,0,none⟩))) (w.alloc (.cells (z0.map (SC.den e)).toArray t)):=by
       rw [← hv]
       exact Nx.here ⟨[],[],[Value.slice (some ⟨w.heap.size,0,none⟩) n0 n0],[],by simp⟩ (hrel.put o.dst _) ((Zn _ _ _).2.2.2.2.1) ((Zn _ _ _).2.2.2.2.2) ((Z4v _ _ _).trans hdp) hs
      unfold Oper.wp
      rw [hr]
      exact hfin
     ·exact hs.elim
    ·cases hz
   ·cases hz
  ·cases hz
 ·cases hz
theorem Env.le.trans {a b c:Env} (h:Env.le a b) (h':Env.le b c):Env.le a c:=Env.le_trans h h'
theorem Z6l (hG:Gok P Γ) {ih:Code→St→Z80→T} (hih:IH P Γ ih) {s:St} {a:Act} {w:World} {W0:Bas} {e:Env} {o:Oper} {k:St→T} {Q:Exit→Act→World→Prop} (h:Rel e W0 s a w) (hdp:s.dp=bs.length)
  (hs:(opT P Γ ih o s k).sat Γ e.R Ψ bs e.r):o.wp P a w (Nx Γ Ψ bs W0 e s.fl s.flr k) Q:=by
 have h1:∀ {aZ:List B} {v:SV} {s':St},op1 P s o=some (aZ,v,s')→(Z3m aZ (k (s'.put o.dst v))).sat Γ e.R Ψ bs e.r→o.wp P a w (Nx Γ Ψ bs W0 e s.fl s.flr k) Q:=by
  intro aZ v s' h1 hs
  obtain ⟨has,hs'⟩:=Z22 hs
  exact Z103 h (Z6h h1 h.rep (fun x _=>h.eval x) has) hdp hs'
 unfold opT at hs
 split at hs
 ·rename_i c ho
  unfold Z15h at hs
  split at hs
  ·rename_i F hcal
   split at hs
   ·rename_i fn caps hF
    dsimp only at hs
    split at hs
    ·exact hs.elim
    ·rename_i hcond
     simp only [Bool.or_eq_true,Bool.not_eq_true',not_or,Bool.not_eq_false] at hcond
     obtain ⟨hsc,hcl⟩:=hcond
     have hevF:a.eval F=.func (.func fn) #[] ((caps.map fun p=>one (.p p.1 p.2)).map (SV.den e)).toArray:=by
      rw [h.eval F,hF]
      simp [SV.den,SW.den,SC.den,one,Function.comp_def]
     have hrun:=Zd6 hcl ho hcal hevF w
     have hargs:c.args.map a.eval++((caps.map fun p=>one (.p p.1 p.2)).map (SV.den e)).toArray=((c.args.toList.map s.ev++caps.map fun p=>one (.p p.1 p.2)).map (SV.den e)).toArray:=by
      apply Array.ext'
      simp only [Array.toList_append,Array.toList_map,List.map_append,List.map_map]
      congr 1
      exact List.map_congr_left fun x _=>h.eval x
     rw [hargs] at hrun
     have fin:∀ {R:Ending→World→Prop},Calls P fn ((c.args.toList.map s.ev++caps.map fun p=>one (.p p.1 p.2)).map (SV.den e)).toArray w (fun x w'=>∃ v,x=.returned v∧Nx Γ Ψ bs W0 e s.fl s.flr k (a.put o.dst v) w')→o.wp P a w (Nx Γ Ψ bs W0 e s.fl s.flr k) Q:=by
      intro _ hcalls
      unfold Oper.wp
      rw [hrun]
      simp only [Oper.upon_enter]
      refine hcalls.mono ?_
      rintro x w' ⟨v,rfl,hn⟩
      exact hn
     split at hs
     ·rename_i g sum hfs
      obtain ⟨hfn,j,rfl,hg⟩:=Z6i hfs
      simp only [Nat.zero_add] at hs
      split at hs
      ·exact hs.elim
      ·rename_i hgl
       simp only [Bool.not_eq_true',Bool.not_eq_false] at hgl
       subst hfn
       split at hs
       ·rename_i f hmn
        split at hs
        ·exact hs.elim
        ·rename_i hargs
         simp only [Bool.not_eq_true',Bool.not_eq_false] at hargs
         split at hs
         ·rename_i aZ es kk hfl
          exact fin (R:=fun _ _=>True) (Z15w hG h hdp hsc hg hmn hgl hargs hfl hs)
         ·exact hs.elim
       ·rename_i hmn
        split at hs
        ·rename_i aZ es hfl
         exact fin (R:=fun _ _=>True) (Zuv hG h hdp hsc hg hmn hgl hfl hs)
        ·exact hs.elim
     ·split at hs
      ·rename_i Fn hFn
       split at hs
       ·rename_i body hb
        exact fin (R:=fun _ _=>True) (Z105 hih h hdp hsc hFn hb hs)
       ·exact hs.elim
      ·exact hs.elim
   ·exact hs.elim
  ·rename_i hcal
   exact Zs5 h hdp ho hcal hs
  ·rename_i b _ hcal
   split at hs
   ·rename_i aZ v s' h1'
    exact h1 h1' hs
   ·exact hs.elim
  ·exact hs.elim
 ·rename_i t l c ho
  exact Zmr h hdp ho hs
 ·rename_i t ho
  split at hs
  ·rename_i hz
   exact Zk5 h hdp ho hz hs
  ·split at hs
   ·rename_i aZ v s' h1'
    exact h1 h1' hs
   ·exact hs.elim
 ·split at hs
  ·rename_i aZ v s' h1'
   exact h1 h1' hs
  ·exact hs.elim
theorem Oper.wp_mono' {o:Oper} {a:Act} {w:World} {K K':Act→World→Prop} {Q:Exit→Act→World→Prop} (hh:o.wp P a w K Q) (h:∀ a w,K a w→K' a w):o.wp P a w K' Q:=Oper.wp_mono h hh
theorem Z3o (hG:Gok P Γ) {ih:Code→St→Z80→T} (hih:IH P Γ ih) {W0:Bas} {ops:Array Oper} {Q:Exit→Act→World→Prop}:∀ (l:List Oper) (s:St) (k:St→T) (bs:List (List Int→Prop)) (e:Env) (a:Act) (w:World),Rel e W0 s a w→s.dp=bs.length →
  (Z3g P Γ ih ops l s k).sat Γ e.R Ψ bs e.r→(∀ a' w',Nx Γ Ψ bs W0 e s.fl s.flr k a' w'→Q .normal a' w')→wpList P ops Q l a w
 | [],s,k,bs,e,a,w,h,hdp,hs,hQ=>hQ a w (Nx.here (Env.le_refl _) h rfl rfl hdp hs)
 | o::l,s,k,bs,e,a,w,h,hdp,hs,hQ=>by
  simp only [Z3g] at hs
  obtain ⟨x,h1,hs1⟩:=Z4w h hs
  have next:∀ (s3:St) (e3:Env) (more:List (List Int→Prop)) (a3:Act) (w3:World),Env.le e e3→Rel e3 W0 s3 a3 w3→s3.fl=s.fl→s3.flr=s.flr→s3.dp=(bs++more).length→(Z3g P Γ ih ops l s3 k).sat Γ e3.R Ψ (bs++more) e3.r→wpList P ops Q l a3 w3:=by
   intro s3 e3 more a3 w3 hle h3 hf hfr hd hs3
   refine Z3o hG hih l s3 k (bs++more) e3 a3 w3 h3 hd hs3 ?_
   rintro a' w' ⟨s',e',more',hle',hrel',hf',hfr',hd',hsat'⟩
   exact hQ a' w' ⟨s',e',more++more',hle.trans hle',hrel',hf'.trans hf,hfr'.trans hfr,by rw [← List.append_assoc]; exact hd',by rw [← List.append_assoc]; exact hsat'⟩
  unfold wpList
  split at hs1
  ·rename_i hw
   rw [if_pos (Z4i h1 hw)]
   left
   obtain ⟨y,h2,hs2⟩:=Z4w h1 hs1
   refine Oper.wp_mono' (Z6l hG hih h2 hdp hs2) ?_
   rintro a3 w3 ⟨s3,e3,more,hle,hrel,hf,hfr,hd,hsat⟩
   exact next s3 e3 more a3 w3 hle hrel hf hfr hd hsat
  ·rename_i hw
   rw [if_neg (by rw [Z4i h1 hw]; simp)]
   have hput:=h1.put o.dst Z5
   exact next _ e [] _ w (Env.le_refl _) hput (Zn _ _ _).2.2.2.2.1 (Zn _ _ _).2.2.2.2.2 ((Z4v _ _ _).trans (by simpa using hdp)) (by simpa using hs1)
  ·exact hs1.elim
end Go.Sx
namespace Go.Sx
open Go.RowKit
structure Ent where
 val:Nat→Value
 obj:Option Obj
inductive Z44 (ops:Array Oper):Nat→Nat→Prop
 | edge {k i:Nat} {o:Oper} {e:Edge}:ops[k]?=some o→e ∈ o.after→Region.binds .any e=true→e.on=i→Z44 ops k i
 | step {k j i:Nat} {o:Oper} {e:Edge}:ops[k]?=some o→e ∈ o.after→Region.binds .any e=true→e.on=j→Z44 ops j i→Z44 ops k i
def Zp3 (ops:Array Oper) (listed:Array Bool):Prop :=
 ∀ j oj,ops[j]?=some oj→listed.getD j false=true→∀ e ∈ oj.after,Region.binds .any e=true→listed.getD e.on false=true
theorem Z44.listed {ops:Array Oper} {listed:Array Bool} (hc:Zp3 ops listed) {k i:Nat} (h:Z44 ops k i):listed.getD k false=true→listed.getD i false=true:=by
 induction h with
 | edge ho he hb hon=>intro hk; rw [← hon]; exact hc _ _ ho hk _ he hb
 | step ho he hb hon _ ih=>intro hk; exact ih (by rw [← hon]; exact hc _ _ ho hk _ he hb)
theorem Z44.ready {ops:Array Oper} {listed:Array Bool} (hc:Zp3 ops listed) {k i:Nat} {o:Oper} (ho:ops[k]?=some o) (hr:∀ e ∈ o.after,Region.binds .any e=true→listed.getD e.on false=true) (h:Z44 ops k i):listed.getD i false=true:=by
 cases h with
 | edge ho' he hb hon =>
  rw [ho] at ho'
  simp only [Option.some.injEq] at ho'
  subst ho'
  rw [← hon]; exact hr _ he hb
 | step ho' he hb hon hrest =>
  rw [ho] at ho'
  simp only [Option.some.injEq] at ho'
  subst ho'
  exact hrest.listed hc (by rw [← hon]; exact hr _ he hb)
theorem Z44.trans {ops:Array Oper} {k j i:Nat} (h:Z44 ops k j) (h':Z44 ops j i):Z44 ops k i:=by
 induction h with
 | edge ho he hb hon=>exact .step ho he hb hon h'
 | step ho he hb hon _ ih=>exact .step ho he hb hon (ih h')
theorem Z5i {ops:Array Oper} {k i:Nat} (h:behind (Zfo ops) k i=true):Z44 ops k i:=by
 have tb:∀ (l:List Nat) (ms:List Nat) (m i:Nat),(l.foldl (fun m j=>(m ||| ms.getD j 0) ||| (1 <<< j)) m).testBit i=true→m.testBit i=true∨∃ j ∈ l,j=i∨(ms.getD j 0).testBit i=true:=by
  intro l
  induction l with
  | nil=>intro ms m i h; exact .inl h
  | cons j l ih =>
   intro ms m i h
   rw [List.foldl_cons] at h
   rcases ih ms _ i h with h | ⟨j',hj',h⟩
   ·rw [Nat.testBit_or,Nat.testBit_or,Bool.or_eq_true,Bool.or_eq_true] at h
    rcases h with (h | h) | h
    ·exact .inl h
    ·exact .inr ⟨j,by simp,.inr h⟩
    ·refine .inr ⟨j,by simp,.inl ?_⟩
     rw [Nat.one_shiftLeft,Nat.testBit_two_pow] at h
     simpa using h
   ·exact .inr ⟨j',by simp [hj'],h⟩
 have key:∀ (l pre:List Oper) (ms:List Nat),ops.toList=pre++l→ms.length=pre.length→(∀ k i,(ms.getD k 0).testBit i=true→Z44 ops k i)→∀ k i,((Zh5 l ms).getD k 0).testBit i=true→Z44 ops k i:=by
  intro l
  induction l with
  | nil=>intro pre ms _ _ h k i hk; exact h k i hk
  | cons o l ih =>
   intro pre ms hl hlen h k i hk
   refine ih (pre++[o]) (ms++[Z13v ms o]) (by simp [hl]) (by simp [hlen]) ?_ k i hk
   intro k i hk
   rcases Nat.lt_trichotomy k ms.length with hlt | heq | hgt
   ·rw [List.getD,List.getElem?_append_left hlt] at hk
    exact h k i hk
   ·subst heq
    simp only [List.getD,List.getElem?_concat_length,Option.getD_some] at hk
    have ho:ops[ms.length]?=some o:=by
     rw [← Array.getElem?_toList,hl,hlen]; simp
    rcases tb _ _ _ _ hk with h0 | ⟨j,hj,h0⟩
    ·simp at h0
    ·obtain ⟨e,he,rfl⟩:=List.mem_map.1 hj
     obtain ⟨h1,h2⟩:=List.mem_filter.1 he
     rcases h0 with h0 | h0
     ·exact .edge ho (by simpa using h1) h2 h0
     ·exact .step ho (by simpa using h1) h2 rfl (h _ _ h0)
   ·rw [List.getD,List.getElem?_eq_none (by simp; omega)] at hk
    simp at hk
 exact key ops.toList [] [] rfl rfl (fun k i h=>by simp [List.getD] at h) k i h
section
variable {P:Program} {ops:Array Oper}
theorem Zj {n t i:Nat} (h:Zo ops n t=some i):i < n∧(ops[i]?).bind (·.dst)=some t:=by
 have h1:=List.mem_of_find?_eq_some h
 have h2:=List.find?_some h
 exact ⟨by simpa using h1,by simpa using h2⟩
theorem Z31 {n t:Nat} (h:Zo ops n t=none):∀ i,i < n→(ops[i]?).bind (·.dst) ≠ some t:=by
 intro i hi hd
 have:=List.find?_eq_none.1 h i (by simpa using hi)
 simp [hd] at this
theorem Z45 {n t i:Nat} (hi:i < n) (hd:(ops[i]?).bind (·.dst)=some t) (hu:∀ j,j < n→(ops[j]?).bind (·.dst)=some t→j=i):Zo ops n t=some i:=by
 cases hw:Zo ops n t with
 | none=>exact absurd hd (Z31 hw i hi)
 | some j =>
  obtain ⟨h1,h2⟩:=Zj hw
  rw [hu j h1 h2]
def Z81 (ops:Array Oper) (N:Nat) (ents:Nat→Ent) (a0:Array Value) (γ:Nat→Nat) (listed:Array Bool) (t:Nat):Value :=
 match Zo ops N t with
 | some i=>if listed.getD i false then (ents i).val (γ i) else a0.getD t undef
 | none=>a0.getD t undef
def Zms (ops:Array Oper) (ents:Nat→Ent) (a0:Array Value) (i t:Nat):Option Value :=
 match Zo ops i t with
 | some j=>if (ents j).obj.isNone then some ((ents j).val 0) else none
 | none=>some (a0.getD t undef)
def Beh (P:Program) (C:World→Prop) (ops:Array Oper) (o:Oper) (ent:Ent) (act:Act) (w:World):Prop :=
  ∀ (K:Act→World→Prop) (Q:Exit→Act→World→Prop),
    (match ent.obj with
      | none=>∀ w',C w'→Below w.heap.size w w'→K (act.put o.dst (ent.val 0)) w'
      | some ob=>∀ n w',C w'→Below w.heap.size w w'→w.heap.size≤n→w'.heap[n]?=some ob→K (act.put o.dst (ent.val n)) w') →
    if Region.wanted o (yielded ops act.tmps)=true then o.wp P act w K Q else K (act.put o.dst undef) w
def Zhf (P:Program) (C:World→Prop) (ops:Array Oper) (ents:Nat→Ent) (a0:Array Value) (i:Nat):Prop :=
  ∃ o,ops[i]?=some o∧((ents i).obj=none→∀ n,(ents i).val n=(ents i).val 0)∧∃ (look:List Tmp) (opv:Tmp→Value),(∀ t ∈ look,t ∈ o.looksAt ops)∧(∀ t ∈ look,Zms ops ents a0 i t=some (opv t)) ∧
    ∀ (act:Act) (w:World),C w→act.tmps.size=a0.size→act.defers=[]→(∀ t ∈ look,act.tmps.getD t undef=opv t)→Beh P C ops o (ents i) act w
theorem Z5y {f g:Nat→Bool}:∀ {l:List Nat},(∀ x ∈ l,g x=true→f x=true)→(∃ i ∈ l,f i=true∧g i=false)→(l.filter g).length < (l.filter f).length
 | [],_,h=>by obtain ⟨i,hi,_⟩:=h; cases hi
 | x::l,h1,h2=>by
  have hle:∀ {l:List Nat},(∀ x ∈ l,g x=true→f x=true)→(l.filter g).length≤(l.filter f).length:=by
   intro l
   induction l with
   | nil=>intro _; simp
   | cons y l ih =>
    intro h
    have:=ih (fun z hz=>h z (by simp [hz]))
    have hy:=h y (by simp)
    simp only [List.filter_cons]
    cases hg:g y <;> cases hf:f y <;> simp_all <;> omega
  have hx:=h1 x (by simp)
  have hl:=fun z hz=>h1 z (List.mem_cons_of_mem x hz)
  have hle':=hle hl
  obtain ⟨i,hi,hfi,hgi⟩:=h2
  simp only [List.filter_cons]
  rcases List.mem_cons.1 hi with rfl | hi
  ·simp [hfi,hgi]; omega
  ·have:=Z5y hl ⟨i,hi,hfi,hgi⟩
   cases hg:g x <;> cases hf:f x <;> simp_all <;> omega
def cnt (ops:Array Oper) (listed:Array Bool):Nat:=((List.range ops.size).filter fun i=>!listed.getD i false).length
theorem Z27 {listed:Array Bool} {i:Nat} (h:i < listed.size):(listed.setIfInBounds i true).getD i false=true:=by
 simp [h]
theorem Z1o {listed:Array Bool} {i:Nat} (h:i < listed.size):listed.getD i true=listed.getD i false:=by
 simp [h]
theorem Zhg {listed:Array Bool} {i:Nat} (hs:listed.size=ops.size) (hi:i < ops.size) (hu:listed.getD i false=false):cnt ops (listed.setIfInBounds i true) < cnt ops listed:=by
 refine Z5y ?_ ⟨i,by simpa using hi,by rw [hu]; rfl,by rw [Z27 (by omega)]; rfl⟩
 intro x _ hx
 by_cases hxi:i=x
 ·subst hxi; rw [Z27 (by omega)] at hx; cases hx
 ·rwa [getD_set_ne false hxi] at hx
variable {C:World→Prop} {N:Nat} {ents:Nat→Ent} {a0:Array Value} {Q:Exit→Act→World→Prop} {w1:Nat}
def asB:Value→Option Bool
 | .bool b=>some b
 | _=>none
theorem Z8e (tmps:Array Value) (j:Nat):yielded ops tmps j=((ops[j]?).bind (·.dst)).bind fun t=>asB (tmps.getD t undef):=by
 unfold yielded
 cases hd:(ops[j]?).bind (·.dst) with
 | none=>rfl
 | some t =>
  simp only [Option.bind_some]
  by_cases ht:t < tmps.size
  ·rw [Array.getElem?_eq_getElem ht]
   simp only [Array.getD,ht,dif_pos]
   show _=asB tmps[t]
   cases tmps[t] <;> rfl
  ·rw [Array.getElem?_eq_none (Nat.le_of_not_lt ht)]
   simp only [Array.getD,ht]
   rfl
theorem Zp4 (hforced:∀ j oj,N≤j→ops[j]?=some oj→∀ i,i < j→Z44 ops j i)
    (hdeps:∀ j oj,ops[j]?=some oj→∀ e ∈ oj.after,Region.binds .any e=true→e.on < j) :
    ∀ (fuel M:Nat) (listed:Array Bool) (act:Act) (w:World),N≤M→M≤ops.size→listed.size=ops.size→(∀ i,listed.getD i false=true↔i < M)→ops.size - M≤fuel→wpList P ops Q (ops.toList.drop M) act w →
      wpAny P .any ops Q fuel listed act w:=by
  intro fuel
  induction fuel with
  | zero =>
    intro M listed act w hN hM hs hl hf h
    have hMe:M=ops.size:=by omega
    subst hMe
    refine ⟨?_,?_⟩
    · refine List.eq_nil_iff_forall_not_mem.2 fun i hi=>?_
      obtain ⟨h0,o,ho,_⟩:=mem_ready.1 hi
      have hlt:=(Array.getElem?_eq_some_iff.1 ho).1
      rw [Z1o (by omega),(hl i).2 hlt] at h0
      cases h0
    · rw [List.drop_of_length_le (by simp)] at h
      exact h
  | succ fuel ih =>
    intro M listed act w hN hM hs hl hf h
    rcases Nat.lt_or_ge M ops.size with hlt | hge
    · have ho:ops[M]?=some ops[M]:=Array.getElem?_eq_getElem hlt
      have hrM:M ∈ Region.ready .any ops listed:=by
        refine mem_ready.2 ⟨?_,_,ho,fun e he hb=>(hl e.on).2 (hdeps M _ ho e he hb)⟩
        rw [Z1o (by omega)]
        cases hh:listed.getD M false with
        | false=>rfl
        | true=>have:=(hl M).1 hh; omega
      refine ⟨fun h0=>(by rw [h0] at hrM; cases hrM),?_⟩
      intro i hi
      obtain ⟨h0,oi,hoi,hall⟩:=mem_ready.1 hi
      have hilt:=(Array.getElem?_eq_some_iff.1 hoi).1
      rw [Z1o (by omega)] at h0
      have hMi:M≤i:=by
        rcases Nat.lt_or_ge i M with h1 | h1
        · rw [(hl i).2 h1] at h0; cases h0
        · exact h1
      have hiM:i=M:=by
        rcases Nat.lt_or_ge M i with h1 | h1
        · have:=(hforced i oi (by omega) hoi M h1).ready (fun j oj hoj hlj e he hb=>(hl e.on).2 (by have:=hdeps j oj hoj e he hb; have:=(hl j).1 hlj; omega)) hoi hall
          have:=(hl M).1 this
          omega
        · omega
      subst hiM
      have hd:ops.toList.drop i=ops[i]::ops.toList.drop (i + 1):=by
        rw [List.drop_eq_getElem_cons (by simpa using hlt)]
        simp
      rw [hd] at h
      unfold wpList at h
      unfold wpOp
      simp only [ho]
      have next:∀ act' w',wpList P ops Q (ops.toList.drop (i + 1)) act' w'→wpAny P .any ops Q fuel (listed.setIfInBounds i true) act' w':=fun act' w' h' =>
        ih (i + 1) _ act' w' (by omega) (by omega) (by simpa using hs) (fun j=>by
          by_cases hj:i=j
          · subst hj; rw [Z27 (by omega)]; simp
          · rw [getD_set_ne false hj,hl j]; omega) (by omega) h'
      split
      · rename_i hw
        rw [if_pos hw] at h
        exact h.imp (Oper.wp_mono next) id
      · rename_i hw
        rw [if_neg hw] at h
        exact next _ _ h
    · have hMe:M=ops.size:=by omega
      subst hMe
      refine ⟨fun _=>by rw [List.drop_of_length_le (by simp)] at h; exact h,fun i hi=>?_⟩
      obtain ⟨h0,o,ho,_⟩:=mem_ready.1 hi
      have hlt:=(Array.getElem?_eq_some_iff.1 ho).1
      rw [Z1o (by omega),(hl i).2 hlt] at h0
      cases h0
theorem Z106 (act:Act) (d:Nat) (v:Value) (t:Nat) (hd:d < act.tmps.size):(act.put (some d) v).tmps.getD t undef=if t=d then v else act.tmps.getD t undef:=by
 simp only [Act.put]
 by_cases ht:t=d
 ·subst ht
  simp [hd]
 ·simp [Array.getElem?_setIfInBounds_ne (Ne.symm ht),ht]
theorem Zp5 (act:Act) (d:Option Tmp) (v:Value):(act.put d v).tmps.size=act.tmps.size:=by
 cases d <;> simp [Act.put]
theorem Zp6 (act:Act) (d:Option Tmp) (v:Value):(act.put d v).defers=act.defers:=by
 cases d <;> rfl
structure Zmt (w w':World) (g:Nat) (ob:Obj):Prop where
 os:w'.os=w.os
 tape:w'.tape=w.tape
 output:w'.output=w.output
 size:w'.heap.size=w.heap.size
 block:∀ k,k ≠ g→w'.heap[k]?=w.heap[k]?
 here:w'.heap[g]?=some ob
structure Zd8 where
 nw:Nat→Option Nat
 oldA:Nat→Nat
 X:Nat→Prop
 tgt:Nat→Nat
 cont:Nat→Nat→Obj
def Zd8.adr (D:Zd8) (γ:Nat→Nat) (n:Nat):Nat:=match D.nw n with
 | some i=>γ i
 | none=>D.oldA n
def Zux (P:Program) (ops:Array Oper) (ents:Nat→Ent) (a0:Array Value) (N1:Nat) (D:Zd8) (i:Nat):Prop :=
  ∃ o,ops[i]?=some o∧((o.dst=none∧∀ (act:Act) (w:World) (γ:Nat→Nat),
    (∀ t ∈ o.looksAt ops,act.tmps.getD t undef=match Zo ops i t with | some j=>(ents j).val (γ j) | none=>a0.getD t undef) →
    w.heap[D.adr γ (D.tgt i)]?=some (D.cont (D.tgt i) (i - N1)) →
    ∀ (K:Act→World→Prop) (Q:Exit→Act→World→Prop),(∀ w',Zmt w w' (D.adr γ (D.tgt i)) (D.cont (D.tgt i) (i - N1 + 1))→K act w') →
      if Region.wanted o (yielded ops act.tmps)=true then o.wp P act w K Q else K (act.put o.dst undef) w) ∨
    ((∀ g,(ents i).val g=(ents i).val 0)∧(∀ n,D.cont n (i - N1 + 1)=D.cont n (i - N1))∧∀ (act:Act) (w:World) (γ:Nat→Nat),
      (∀ t ∈ o.looksAt ops,act.tmps.getD t undef=match Zo ops i t with | some j=>(ents j).val (γ j) | none=>a0.getD t undef) →
      ∀ (K:Act→World→Prop) (Q:Exit→Act→World→Prop),K (act.put o.dst ((ents i).val 0)) w →
        if Region.wanted o (yielded ops act.tmps)=true then o.wp P act w K Q else K (act.put o.dst undef) w))
theorem Z15y {N1:Nat} {D:Zd8} (hNs:N≤ops.size) (hN1:N1≤N)
    (hforced:∀ j oj,N≤j→ops[j]?=some oj→∀ i,i < j→Z44 ops j i)
    (hdeps:∀ j oj,ops[j]?=some oj→∀ e ∈ oj.after,Region.binds .any e=true→e.on < j)
    (hpair:∀ i j oi oj,i < j→j < N→ops[i]?=some oi→ops[j]?=some oj→(oi.dst=none∨oi.dst ≠ oj.dst)∧(Z44 ops j i∨oi.apart ops oj=true))
    (hdst:∀ i o d,i < N→ops[i]?=some o→o.dst=some d→d < a0.size)
    {CI:Nat→World→Prop} {S:Nat→Bool}
    (hCI1:∀ i w,CI i w→C w) (hCI2:∀ i w,C w→(S i=true→∀ n,D.X n→w.heap[D.oldA n]?=some (D.cont n 0))→CI i w)
    (hS:∀ i,S i=true→∀ k,N1≤k→k < N→Z44 ops k i)
    (hpre:∀ i,i < N1→Zhf P (CI i) ops ents a0 i)
    (hlate:∀ i,N1≤i→i < N→Zux P ops ents a0 N1 D i)
    (hchain:∀ i j,N1≤j→j < i→i < N→Z44 ops i j)
    (hC1:∀ w,C w→w1≤w.heap.size)
    (hCs:∀ w w' g ob,C w→Zmt w w' g ob→(w1≤g∨∃ n,D.X n∧g=D.oldA n)→C w')
    (hnw:∀ n i,D.nw n=some i→i < N1∧(ents i).obj=some (D.cont n 0))
    (hninj:∀ n n' i,D.nw n=some i→D.nw n'=some i→n=n')
    (hX:∀ n,D.X n→D.nw n=none∧D.oldA n < w1)
    (hXinj:∀ n n',D.X n→D.X n'→D.oldA n=D.oldA n'→n=n')
    (htgt:∀ k,N1≤k→k < N→((ops[k]?).bind (·.dst)=none→D.nw (D.tgt k)=none→D.X (D.tgt k))∧∀ j,D.nw (D.tgt k)=some j→Z44 ops k j)
    (hstep:∀ k n,N1≤k→k < N→n ≠ D.tgt k→D.cont n (k - N1 + 1)=D.cont n (k - N1))
    (tail:∀ (act:Act) (w:World) (γ:Nat→Nat),C w→act.defers=[]→act.tmps.size=a0.size→(∀ n i,D.nw n=some i→w1≤γ i∧w.heap[γ i]?=some (D.cont n (N - N1))) →
      (∀ n,D.X n→w.heap[D.oldA n]?=some (D.cont n (N - N1))) →
      (∀ i j,i < N1→j < N1→(ents i).obj.isSome=true→(ents j).obj.isSome=true→γ i=γ j→i=j) →
      (∀ t,act.tmps.getD t undef=match Zo ops N t with | some i=>(ents i).val (γ i) | none=>a0.getD t undef)→wpList P ops Q (ops.toList.drop N) act w) :
    ∀ (fuel:Nat) (listed:Array Bool) (act:Act) (w:World) (γ:Nat→Nat) (c:Nat),listed.size=ops.size→(∀ i,N≤i→listed.getD i false=false)→c≤N - N1→(∀ i,N1≤i→i < N→(listed.getD i false=true↔i < N1 + c)) →
      cnt ops listed≤fuel→C w→act.defers=[]→act.tmps.size=a0.size→Zp3 ops listed →
      (∀ n i,D.nw n=some i→listed.getD i false=true→w1≤γ i∧w.heap[γ i]?=some (D.cont n c)) →
      (∀ n,D.X n→w.heap[D.oldA n]?=some (D.cont n c)) →
      (∀ i ob,i < N1→listed.getD i false=true→(ents i).obj=some ob→γ i < w.heap.size) →
      (∀ i j,i < N1→j < N1→listed.getD i false=true→listed.getD j false=true→(ents i).obj.isSome=true→(ents j).obj.isSome=true→γ i=γ j→i=j) →
      (∀ t,act.tmps.getD t undef=Z81 ops N ents a0 γ listed t)→wpAny P .any ops Q fuel listed act w:=by
  have huniq:∀ i j t,i < N→j < N→(ops[i]?).bind (·.dst)=some t→(ops[j]?).bind (·.dst)=some t→i=j:=by
    have aux:∀ i j t,i < j→j < N→(ops[i]?).bind (·.dst)=some t→(ops[j]?).bind (·.dst)=some t→False:=by
      intro i j t hij hj h1 h2
      have hil:i < ops.size:=by omega
      have hjl:j < ops.size:=by omega
      have hoi:ops[i]?=some ops[i]:=Array.getElem?_eq_getElem hil
      have hoj:ops[j]?=some ops[j]:=Array.getElem?_eq_getElem hjl
      rw [hoi] at h1
      rw [hoj] at h2
      simp only [Option.bind_some] at h1 h2
      rcases (hpair i j _ _ hij hj hoi hoj).1 with h | h
      · rw [h] at h1; cases h1
      · exact h (h1.trans h2.symm)
    intro i j t hi hj h1 h2
    rcases Nat.lt_trichotomy i j with h | h | h
    · exact (aux i j t h hj h1 h2).elim
    · exact h
    · exact (aux j i t h hi h2 h1).elim
  have hcont:∀ n c,c≤N - N1→(∀ k,N1≤k→k < N1 + c→D.tgt k ≠ n)→D.cont n c=D.cont n 0:=by
    intro n c
    induction c with
    | zero=>intro _ _; rfl
    | succ c ih =>
      intro hc hk
      have h1:=hstep (N1 + c) n (by omega) (by omega) (Ne.symm (hk (N1 + c) (by omega) (by omega)))
      rw [show N1 + c - N1=c by omega] at h1
      rw [h1]
      exact ih (by omega) (fun k h2 h3=>hk k h2 (by omega))
  intro fuel
  induction fuel with
  | zero =>
    intro listed act w γ c hs htl hcN hcl hf hw hd hsz hdn hγ hγX hγl hγu hslot
    have hall:∀ i,i < ops.size→listed.getD i false=true:=by
      intro i hi
      cases hh:listed.getD i false with
      | true=>rfl
      | false=>have:=Zhg (ops:=ops) hs hi hh; omega
    have hN:N=ops.size:=by
      rcases Nat.lt_or_ge N ops.size with h | h
      · have:=hall N h; rw [htl N (Nat.le_refl _)] at this; cases this
      · omega
    have hcE:c=N - N1:=by
      rcases Nat.lt_or_ge (N1 + c) N with h | h
      · have:=(hcl (N1 + c) (by omega) h).1 (hall _ (by omega))
        omega
      · omega
    refine Zp4 hforced hdeps 0 N listed act w (Nat.le_refl _) hNs hs (fun i=>⟨fun h=>?_,fun h=>hall i (by omega)⟩) (by omega) ?_
    · rcases Nat.lt_or_ge i N with h1 | h1
      · exact h1
      · rw [htl i h1] at h; cases h
    · refine tail act w γ hw hd hsz (fun n i hn=>by rw [← hcE]; exact hγ n i hn (hall i (by have:=(hnw n i hn).1; omega))) (fun n hn=>by rw [← hcE]; exact hγX n hn) (fun i j hi hj=>hγu i j hi hj (hall i (by omega)) (hall j (by omega))) (fun t=>?_)
      rw [hslot t]
      unfold Z81
      cases hwr:Zo ops N t with
      | none=>rfl
      | some i=>simp only [hall i (by have:=(Zj hwr).1; omega),if_true]
  | succ fuel ih =>
    intro listed act w γ c hs htl hcN hcl hf hw hd hsz hdn hγ hγX hγl hγu hslot
    by_cases hall:∀ i,i < N→listed.getD i false=true
    · have hcE:c=N - N1:=by
        rcases Nat.lt_or_ge (N1 + c) N with h | h
        · have:=(hcl (N1 + c) (by omega) h).1 (hall _ (by omega))
          omega
        · omega
      refine Zp4 hforced hdeps (fuel + 1) N listed act w (Nat.le_refl _) hNs hs (fun i=>⟨fun h=>?_,hall i⟩) ?_ ?_
      · rcases Nat.lt_or_ge i N with h1 | h1
        · exact h1
        · rw [htl i h1] at h; cases h
      · have:ops.size - N≤cnt ops listed:=by
          have h1:((List.range ops.size).filter fun i=>!listed.getD i false)=(List.range ops.size).filter fun i=>decide (N≤i):=by
            apply List.filter_congr
            intro i _
            rcases Nat.lt_or_ge i N with h | h
            · rw [hall i h]; simp; omega
            · rw [htl i h]; simp; omega
          have h2:∀ n,((List.range n).filter fun i=>decide (N≤i)).length=n - N:=by
            intro n
            induction n with
            | zero=>simp
            | succ n ihn =>
              rw [List.range_succ,List.filter_append,List.length_append,ihn]
              by_cases hn:N≤n
              · simp [hn]; omega
              · simp [hn]; omega
          unfold cnt
          rw [h1,h2]
          exact Nat.le_refl _
        omega
      · refine tail act w γ hw hd hsz (fun n i hn=>by rw [← hcE]; exact hγ n i hn (hall i (by have:=(hnw n i hn).1; omega))) (fun n hn=>by rw [← hcE]; exact hγX n hn) (fun i j hi hj=>hγu i j hi hj (hall i (by omega)) (hall j (by omega))) (fun t=>?_)
        rw [hslot t]
        unfold Z81
        cases hwr:Zo ops N t with
        | none=>rfl
        | some i=>simp only [hall i (by have:=(Zj hwr).1; omega),if_true]
    · have hex:∃ i,i < N∧listed.getD i false=false∧∀ j,j < i→listed.getD j false=true:=by
        have:∃ i,i < N∧listed.getD i false=false:=by
          refine Classical.byContradiction fun hne=>hall fun i hi=>?_
          cases hh:listed.getD i false with
          | true=>rfl
          | false=>exact absurd ⟨i,hi,hh⟩ hne
        obtain ⟨i,hi,hh⟩:=this
        induction i using Nat.strongRecOn with
        | _ i ihi =>
          by_cases hm:∀ j,j < i→listed.getD j false=true
          · exact ⟨i,hi,hh,hm⟩
          · have:∃ j,j < i∧listed.getD j false=false:=by
              refine Classical.byContradiction fun hne=>hm fun j hj=>?_
              cases hhj:listed.getD j false with
              | true=>rfl
              | false=>exact absurd ⟨j,hj,hhj⟩ hne
            obtain ⟨j,hj,hhj⟩:=this
            exact ihi j hj (by omega) hhj
      obtain ⟨m,hmN,hmu,hmall⟩:=hex
      have hrm:m ∈ Region.ready .any ops listed:=by
        have hml:m < ops.size:=by omega
        refine mem_ready.2 ⟨by rw [Z1o (by omega)]; exact hmu,_,Array.getElem?_eq_getElem hml,fun e he hb=>hmall e.on (hdeps m _ (Array.getElem?_eq_getElem hml) e he hb)⟩
      refine ⟨fun h0=>(by rw [h0] at hrm; cases hrm),?_⟩
      intro i hi
      obtain ⟨h0,oi,hoi,hrdy⟩:=mem_ready.1 hi
      have hil:=(Array.getElem?_eq_some_iff.1 hoi).1
      rw [Z1o (by omega)] at h0
      have hiN:i < N:=by
        rcases Nat.lt_or_ge i N with h | h
        · exact h
        · have:=(hforced i oi h hoi m (by omega)).ready hdn hoi hrdy
          rw [hmu] at this
          cases this
      have hdn':Zp3 ops (listed.setIfInBounds i true):=by
        intro j oj hoj hlj e he hb
        by_cases hji:i=j
        · subst hji
          rw [hoi] at hoj
          simp only [Option.some.injEq] at hoj
          subst hoj
          exact getD_set_true (hrdy e he hb)
        · rw [getD_set_ne false hji] at hlj
          exact getD_set_true (hdn j oj hoj hlj e he hb)
      have hsl:∀ (v:Value) (γ':Nat→Nat),(∀ j,j ≠ i→γ' j=γ j)→v=(ents i).val (γ' i)→∀ t,(act.put oi.dst v).tmps.getD t undef=Z81 ops N ents a0 γ' (listed.setIfInBounds i true) t:=by
        intro v γ' hγ' hv t
        have hother:∀ k,Zo ops N t=some k→k ≠ i→Z81 ops N ents a0 γ' (listed.setIfInBounds i true) t=Z81 ops N ents a0 γ listed t:=by
          intro k hk hki
          unfold Z81
          simp only [hk,getD_set_ne false (Ne.symm hki),hγ' k hki]
        have hnone:Zo ops N t=none→Z81 ops N ents a0 γ' (listed.setIfInBounds i true) t=Z81 ops N ents a0 γ listed t:=by
          intro hk
          unfold Z81
          simp only [hk]
        cases hdo:oi.dst with
        | none =>
          show act.tmps.getD t undef=_
          rw [hslot t]
          cases hk:Zo ops N t with
          | none=>exact (hnone hk).symm
          | some k =>
            refine (hother k hk ?_).symm
            rintro rfl
            have:=(Zj hk).2
            rw [hoi] at this
            simp [hdo] at this
        | some d =>
          rw [Z106 act d v t (by rw [hsz]; exact hdst i oi d hiN hoi hdo)]
          split
          · rename_i htd
            subst htd
            have hwi:Zo ops N t=some i:=Z45 hiN (by rw [hoi]; exact hdo) (fun k hk hkd=>huniq k i t (by omega) hiN hkd (by rw [hoi]; exact hdo))
            unfold Z81
            simp only [hwi]
            rw [Z27 (by omega),if_pos rfl,hv]
          · rename_i htd
            rw [hslot t]
            cases hk:Zo ops N t with
            | none=>exact (hnone hk).symm
            | some k =>
              refine (hother k hk ?_).symm
              rintro rfl
              have:=(Zj hk).2
              rw [hoi] at this
              simp only [Option.bind_some,hdo,Option.some.injEq] at this
              exact htd this.symm
      rcases Nat.lt_or_ge i N1 with hiN1 | hiN1
      · -- an operation ahead of the stores
        obtain ⟨o,ho,hval,look,opv,hlk,hopv,hbeh⟩:=hpre i hiN1
        rw [hoi] at ho
        simp only [Option.some.injEq] at ho
        subst ho
        have hlook:∀ t ∈ look,act.tmps.getD t undef=opv t:=by
          intro t ht0
          have hl:=hopv t ht0
          have ht:=hlk t ht0
          rw [hslot t]
          unfold Zms at hl
          cases hwi:Zo ops i t with
          | some j =>
            rw [hwi] at hl
            dsimp only at hl
            obtain ⟨hji,hjd⟩:=Zj hwi
            split at hl
            · rename_i hob
              simp only [Option.some.injEq] at hl
              have hjN:j < N1:=by omega
              have hjl:j < ops.size:=by omega
              have hoj:ops[j]?=some ops[j]:=Array.getElem?_eq_getElem hjl
              have hlj:listed.getD j false=true:=by
                rcases (hpair j i _ _ hji hiN hoj hoi).2 with hr | hap
                · exact hr.ready hdn hoi hrdy
                · rw [hoj] at hjd
                  exact absurd ht ((Oper.apart_spec hap).1 t hjd)
              have hwN:Zo ops N t=some j:=Z45 (by omega) hjd (fun k hk hkd=>huniq k j t (by omega) (by omega) hkd hjd)
              unfold Z81
              simp only [hwN,hlj,if_true]
              obtain ⟨_,_,hvj,_⟩:=hpre j hjN
              rw [hvj (by simpa using hob) (γ j),hl]
            · cases hl
          | none =>
            rw [hwi] at hl
            simp only [Option.some.injEq] at hl
            rw [← hl]
            unfold Z81
            cases hwN:Zo ops N t with
            | none=>rfl
            | some k =>
              obtain ⟨hkN,hkd⟩:=Zj hwN
              have hki:i≤k:=by
                rcases Nat.lt_or_ge k i with h | h
                · exact absurd hkd (Z31 hwi k h)
                · exact h
              have hku:listed.getD k false=false:=by
                rcases Nat.lt_or_ge i k with h | h
                · have hkl:k < ops.size:=by omega
                  have hok:ops[k]?=some ops[k]:=Array.getElem?_eq_getElem hkl
                  rcases (hpair i k _ _ h (by omega) hoi hok).2 with hr | hap
                  · cases hh:listed.getD k false with
                    | false=>rfl
                    | true =>
                      have:=hr.listed hdn hh
                      rw [h0] at this
                      cases this
                  · rw [hok] at hkd
                    exact absurd ht ((Oper.apart_spec hap).2.2 t hkd)
                · have:k=i:=by omega
                  subst this
                  exact h0
              simp only [hku,Bool.false_eq_true,if_false]
        have hwI:CI i w:=hCI2 i w hw (fun hSi n hn=>by
          have hc0:c=0:=by
            rcases Nat.eq_zero_or_pos c with h | h
            · exact h
            · have:=(hS i hSi N1 (Nat.le_refl _) (by omega)).listed hdn ((hcl N1 (Nat.le_refl _) (by omega)).2 (by omega))
              rw [h0] at this
              cases this
          rw [← hc0]
          exact hγX n hn)
        have hB:=hbeh act w hwI hsz hd hlook
        have hnext:∀ (v:Value) (γ':Nat→Nat) (w':World),(∀ j,j ≠ i→γ' j=γ j)→v=(ents i).val (γ' i)→C w'→Below w.heap.size w w'→(∀ ob,(ents i).obj=some ob→w'.heap[γ' i]?=some ob∧w.heap.size≤γ' i) →
            wpAny P .any ops Q fuel (listed.setIfInBounds i true) (act.put oi.dst v) w':=by
          intro v γ' w' hγ' hv hw' hbel hnewb
          refine ih _ _ w' γ' c (by simpa using hs) (fun j hj=>by rw [getD_set_ne false (by omega)]; exact htl j hj) hcN (fun j h1 h2=>by rw [getD_set_ne false (by omega)]; exact hcl j h1 h2) (by have:=Zhg (ops:=ops) hs hil h0; omega) hw' (by rw [Zp6]; exact hd) (by rw [Zp5]; exact hsz) hdn' ?_ ?_ ?_ ?_ (hsl v γ' hγ' hv)
          · intro n j hn hlj
            by_cases hji:i=j
            · subst hji
              obtain ⟨h1,h2⟩:=hnewb _ (hnw n i hn).2
              refine ⟨Nat.le_trans (hC1 w hw) h2,?_⟩
              rw [h1,hcont n c hcN]
              intro k hk1 hk2 hkt
              have hkl:=(hcl k hk1 (by omega)).2 hk2
              have:=((htgt k hk1 (by omega)).2 i (by rw [hkt]; exact hn)).listed hdn hkl
              rw [h0] at this
              cases this
            · rw [getD_set_ne false hji] at hlj
              obtain ⟨h1,h2⟩:=hγ n j hn hlj
              rw [hγ' j (Ne.symm hji)]
              exact ⟨h1,by rw [hbel.block _ (Z1g h2)]; exact h2⟩
          · intro n hn
            have h2:=hγX n hn
            rw [hbel.block _ (Z1g h2)]
            exact h2
          · intro j ob hj hlj hob
            by_cases hji:i=j
            · subst hji
              exact Z1g (hnewb ob hob).1
            · rw [getD_set_ne false hji] at hlj
              rw [hγ' j (Ne.symm hji)]
              exact Nat.lt_of_lt_of_le (hγl j ob hj hlj hob) hbel.size
          · intro j k hj hk hlj hlk hoj hok heq
            by_cases hji:i=j <;> by_cases hki:i=k
            · omega
            · subst hji
              rw [getD_set_ne false hki] at hlk
              rw [hγ' k (Ne.symm hki)] at heq
              obtain ⟨ob,hob⟩:=Option.isSome_iff_exists.1 hoj
              obtain ⟨ob',hob'⟩:=Option.isSome_iff_exists.1 hok
              have:=(hnewb ob hob).2
              have:=hγl k ob' hk hlk hob'
              omega
            · subst hki
              rw [getD_set_ne false hji] at hlj
              rw [hγ' j (Ne.symm hji)] at heq
              obtain ⟨ob,hob⟩:=Option.isSome_iff_exists.1 hok
              obtain ⟨ob',hob'⟩:=Option.isSome_iff_exists.1 hoj
              have:=(hnewb ob hob).2
              have:=hγl j ob' hj hlj hob'
              omega
            · rw [getD_set_ne false hji] at hlj
              rw [getD_set_ne false hki] at hlk
              rw [hγ' j (Ne.symm hji),hγ' k (Ne.symm hki)] at heq
              exact hγu j k hj hk hlj hlk hoj hok heq
        have hfin:=hB (wpAny P .any ops Q fuel (listed.setIfInBounds i true)) Q (by
          cases hob:(ents i).obj with
          | none =>
            intro w' hw' hbel
            exact hnext _ γ w' (fun _ _=>rfl) (hval hob (γ i)).symm (hCI1 i w' hw') hbel (fun ob h=>by rw [hob] at h; cases h)
          | some ob =>
            intro n w' hw' hbel hn hnew
            refine hnext _ (fun j=>if j=i then n else γ j) w' (fun j hj=>by simp [hj]) (by simp) (hCI1 i w' hw') hbel (fun ob' h=>?_)
            rw [hob] at h
            simp only [Option.some.injEq] at h
            subst h
            simp only [if_true]
            exact ⟨hnew,hn⟩)
        unfold wpOp
        simp only [hoi]
        split
        · rename_i hwt
          rw [if_pos hwt] at hfin
          exact .inl hfin
        · rename_i hwt
          rw [if_neg hwt] at hfin
          exact hfin
      · -- a store
        have hic:i=N1 + c:=by
          have h1:¬ i < N1 + c:=fun h=>by rw [(hcl i hiN1 hiN).2 h] at h0; cases h0
          rcases Nat.lt_or_ge (N1 + c) i with h2 | h2
          · have:=(hchain i (N1 + c) (by omega) h2 hiN).ready hdn hoi hrdy
            have:=(hcl (N1 + c) (by omega) (by omega)).1 this
            omega
          · omega
        have hicc:i - N1=c:=by omega
        obtain ⟨o,ho,hlt⟩:=hlate i hiN1 hiN
        rw [hoi] at ho
        simp only [Option.some.injEq] at ho
        subst ho
        obtain ⟨htX,htR⟩:=htgt i hiN1 hiN
        have hlook:∀ t ∈ oi.looksAt ops,act.tmps.getD t undef=match Zo ops i t with | some j=>(ents j).val (γ j) | none=>a0.getD t undef:=by
          intro t ht
          rw [hslot t]
          unfold Z81
          cases hwN:Zo ops N t with
          | none =>
            cases hwi:Zo ops i t with
            | none=>rfl
            | some j =>
              obtain ⟨hji,hjd⟩:=Zj hwi
              exact absurd hjd (Z31 hwN j (by omega))
          | some j =>
            obtain ⟨hjN,hjd⟩:=Zj hwN
            have hjl:j < ops.size:=by omega
            have hoj:ops[j]?=some ops[j]:=Array.getElem?_eq_getElem hjl
            rcases Nat.lt_or_ge j i with hji | hji
            · have hlj:listed.getD j false=true:=by
                rcases (hpair j i _ _ hji hiN hoj hoi).2 with hr | hap
                · exact hr.ready hdn hoi hrdy
                · rw [hoj] at hjd
                  exact absurd ht ((Oper.apart_spec hap).1 t hjd)
              have hwi:Zo ops i t=some j:=Z45 hji hjd (fun k hk hkd=>huniq k j t (by omega) hjN hkd hjd)
              simp only [hwi,hlj,if_true]
            · have hwi:Zo ops i t=none:=by
                cases hwi:Zo ops i t with
                | none=>rfl
                | some k =>
                  obtain ⟨hki,hkd⟩:=Zj hwi
                  have:=huniq k j t (by omega) hjN hkd hjd
                  omega
              have hju:listed.getD j false=false:=by
                rcases Nat.lt_or_ge i j with h | h
                · rcases (hpair i j _ _ h hjN hoi hoj).2 with hr | hap
                  · cases hh:listed.getD j false with
                    | false=>rfl
                    | true =>
                      have:=hr.listed hdn hh
                      rw [h0] at this
                      cases this
                  · rw [hoj] at hjd
                    exact absurd ht ((Oper.apart_spec hap).2.2 t hjd)
                · have:j=i:=by omega
                  subst this
                  exact h0
              simp only [hwi,hju,Bool.false_eq_true,if_false]
        rcases hlt with ⟨hdo,hst⟩ | ⟨hv0,hsame,hst⟩
        case inr =>
          have hfin:=hst act w γ hlook (wpAny P .any ops Q fuel (listed.setIfInBounds i true)) Q (by
            refine ih _ (act.put oi.dst ((ents i).val 0)) w γ (c + 1) (by simpa using hs) (fun j hj=>by rw [getD_set_ne false (by omega)]; exact htl j hj) (by omega) (fun j h1 h2=>?_) (by have:=Zhg (ops:=ops) hs hil h0; omega) hw (by rw [Zp6]; exact hd) (by rw [Zp5]; exact hsz) hdn' ?_ ?_ ?_ ?_ (hsl _ γ (fun _ _=>rfl) (hv0 _).symm)
            · by_cases hji:i=j
              · subst hji
                rw [Z27 (by omega)]
                simp; omega
              · rw [getD_set_ne false hji,hcl j h1 h2]
                omega
            · intro n j hn hlj
              have hji:i ≠ j:=by have:=(hnw n j hn).1; omega
              rw [getD_set_ne false hji] at hlj
              have:=hsame n
              rw [hicc] at this
              rw [this]
              exact hγ n j hn hlj
            · intro n hn
              have:=hsame n
              rw [hicc] at this
              rw [this]
              exact hγX n hn
            · intro j ob hj hlj hob
              rw [getD_set_ne false (by omega)] at hlj
              exact hγl j ob hj hlj hob
            · intro j k hj hk hlj hlk
              rw [getD_set_ne false (by omega)] at hlj hlk
              exact hγu j k hj hk hlj hlk)
          unfold wpOp
          simp only [hoi]
          split
          · rename_i hwt
            rw [if_pos hwt] at hfin
            exact .inl hfin
          · rename_i hwt
            rw [if_neg hwt] at hfin
            exact hfin
        have htX:=htX (by rw [hoi]; exact hdo)
        have hadr:w.heap[D.adr γ (D.tgt i)]?=some (D.cont (D.tgt i) (i - N1)):=by
          rw [hicc]
          unfold Zd8.adr
          cases hn:D.nw (D.tgt i) with
          | some j=>exact (hγ _ j hn ((htR j hn).ready hdn hoi hrdy)).2
          | none=>exact hγX _ (htX hn)
        have hfin:=hst act w γ hlook hadr (wpAny P .any ops Q fuel (listed.setIfInBounds i true)) Q (by
          intro w' hsb
          rw [hicc] at hsb
          have hgw:w1≤D.adr γ (D.tgt i)∨∃ n,D.X n∧D.adr γ (D.tgt i)=D.oldA n:=by
            unfold Zd8.adr
            cases hn:D.nw (D.tgt i) with
            | some j=>exact .inl (hγ _ j hn ((htR j hn).ready hdn hoi hrdy)).1
            | none=>exact .inr ⟨_,htX hn,rfl⟩
          refine ih _ act w' γ (c + 1) (by simpa using hs) (fun j hj=>by rw [getD_set_ne false (by omega)]; exact htl j hj) (by omega) (fun j h1 h2=>?_) (by have:=Zhg (ops:=ops) hs hil h0; omega) (hCs w w' _ _ hw hsb hgw) hd hsz hdn' ?_ ?_ ?_ ?_ ?_
          · by_cases hji:i=j
            · subst hji
              rw [Z27 (by omega)]
              simp; omega
            · rw [getD_set_ne false hji,hcl j h1 h2]
              omega
          · intro n j hn hlj
            have hji:i ≠ j:=by have:=(hnw n j hn).1; omega
            rw [getD_set_ne false hji] at hlj
            obtain ⟨h1,h2⟩:=hγ n j hn hlj
            refine ⟨h1,?_⟩
            by_cases hnt:n=D.tgt i
            · subst hnt
              have:=hsb.here
              unfold Zd8.adr at this
              rw [hn] at this
              exact this
            · have h3:=hstep i n hiN1 hiN hnt
              rw [hicc] at h3
              rw [h3,hsb.block,h2]
              unfold Zd8.adr
              cases hn':D.nw (D.tgt i) with
              | some j' =>
                intro heq
                have hlj':=(htR j' hn').ready hdn hoi hrdy
                have:=hγu j j' (hnw n j hn).1 (hnw _ j' hn').1 hlj hlj' (by rw [(hnw n j hn).2]; rfl) (by rw [(hnw _ j' hn').2]; rfl) heq
                subst this
                exact hnt (hninj _ _ _ hn hn')
              | none =>
                have:=(hX _ (htX hn')).2
                intro heq
                have heq':γ j=D.oldA (D.tgt i):=heq
                omega
          · intro n hn
            have h2:=hγX n hn
            by_cases hnt:n=D.tgt i
            · subst hnt
              have:=hsb.here
              unfold Zd8.adr at this
              rw [(hX _ hn).1] at this
              exact this
            · have h3:=hstep i n hiN1 hiN hnt
              rw [hicc] at h3
              rw [h3,hsb.block,h2]
              unfold Zd8.adr
              cases hn':D.nw (D.tgt i) with
              | some j' =>
                have h4:=(hγ _ j' hn' ((htR j' hn').ready hdn hoi hrdy)).1
                have:=(hX _ hn).2
                intro heq
                have heq':D.oldA n=γ j':=heq
                omega
              | none =>
                intro heq
                exact hnt (hXinj _ _ hn (htX hn') heq)
          · intro j ob hj hlj hob
            rw [getD_set_ne false (by omega)] at hlj
            rw [hsb.size]
            exact hγl j ob hj hlj hob
          · intro j k hj hk hlj hlk
            rw [getD_set_ne false (by omega)] at hlj hlk
            exact hγu j k hj hk hlj hlk
          · intro t
            rw [hslot t]
            unfold Z81
            cases hwN:Zo ops N t with
            | none=>rfl
            | some j =>
              have hjd:=(Zj hwN).2
              have hij:i ≠ j:=by
                rintro rfl
                rw [hoi] at hjd
                simp [hdo] at hjd
              simp only [getD_set_ne false hij])
        unfold wpOp
        simp only [hoi]
        split
        · rename_i hwt
          rw [if_pos hwt] at hfin
          exact .inl hfin
        · rename_i hwt
          rw [if_neg hwt] at hfin
          exact hfin
end
end Go.Sx
namespace Go.Sx
open Go.RowKit
def Env.at (e:Env) (r:List Int):Env:={ e with r:=r }
section
variable {P:Program} {Γ:List Sum} {Ψ:List Int→Prop} {bs:List (List Int→Prop)} {ops:Array Oper}
theorem Zmu (n t:Nat):Zo ops (n + 1) t=match Zo ops n t with
  | some j=>some j
  | none=>if (ops[n]?).bind (·.dst)=some t then some n else none:=by
 unfold Zo
 rw [List.range_succ,List.find?_append]
 cases h:List.find? (fun i=>decide ((ops[i]?).bind (·.dst)=some t)) (List.range n) with
 | some j=>simp
 | none =>
  by_cases hd:(ops[n]?).bind (·.dst)=some t
  ·simp [hd]
  ·simp [hd]
theorem SC.den_r {e:Env} {nv nb ng:Nat} (hnv:nv≤e.r.length) (x:List Int):∀ c:SC,c.sc nv nb ng=true→c.den (e.at (e.r++x))=c.den e:=by
 have hE:∀ a:E,a.sc nv=true→a.sc e.r.length=true:=by
  intro a
  induction a <;> simp_all [E.sc] <;> omega
 have hB:∀ a:B,a.sc nv=true→a.sc e.r.length=true:=by
  intro a
  induction a <;> simp_all [B.sc]
 have hG:∀ g:G,g.sc nv ng=true→g.val (e.at (e.r++x))=g.val e:=by
  intro g hg
  cases g with
  | a i=>rfl
  | o i=>rfl
  | e g ix j y=>simp only [G.val,Env.at]; rw [E.den_app _ _ _ _ (hE _ hg)]
 simp only [Env.at] at hG
 intro c hc
 cases c <;> simp only [SC.sc,Z18r] at hc <;> simp only [SC.den,Env.at,Z1z]
 case i k y=>rw [E.den_app _ _ _ _ (hE _ hc)]
 case b y=>rw [B.den_app _ _ _ _ (hB _ hc)]
 case go g=>rw [hG g hc]
 case gv g size lo hi=>rw [E.den_app _ _ _ _ (hE _ hc.2.1),E.den_app _ _ _ _ (hE _ hc.2.2),hG g hc.1]
 case gp g size ix j=>rw [E.den_app _ _ _ _ (hE _ hc.2),hG g hc.1]
 case gz g=>rw [hG g hc]
theorem Zk6 {e:Env} {nv nb ng:Nat} (hnv:nv≤e.r.length) (x:List Int) {cs:List SC} (hc:cs.all (SC.sc nv nb ng)=true):cs.map (SC.den (e.at (e.r++x)))=cs.map (SC.den e) :=
 List.map_congr_left fun c h=>SC.den_r hnv x c (List.all_eq_true.1 hc c h)
theorem SV.den_r {e:Env} {nv nb ng nx:Nat} (hnv:nv≤e.r.length) (x:List Int):∀ c:SV,c.sc nv nb ng nx=true→c.den (e.at (e.r++x))=c.den e:=by
 intro c hc
 have hW:∀ y:SW,y.sc nv nb ng=true→y.den (e.at (e.r++x))=y.den e:=by
  intro y hy
  cases y with
  | o c=>exact SC.den_r hnv x c hy
  | a cs=>simp only [SW.den]; rw [Zk6 hnv x hy]
 cases c with
 | w y=>exact hW y hc
 | t xs=>simp only [SV.den]; rw [List.map_congr_left fun y hy=>hW y (List.all_eq_true.1 hc y hy)]
 | un i=>rfl
theorem Zg7 {R:Fo} {r:List Int} {s:St} {t:Option Tmp} {k:St→T} (hs:(Zfn t s k).sat Γ R Ψ bs r) :
  ∃ x,(k { s with fr:=x }).sat Γ R Ψ bs r∧(x=s.fr∨∃ t b v,Zfm s t=some b∧b.den R r=v∧x=s.fr.set t (one (.b (.c v)))):=by
 unfold Zfn at hs
 split at hs
 ·exact ⟨s.fr,hs,.inl rfl⟩
 ·rename_i t
  split at hs
  ·exact ⟨s.fr,hs,.inl rfl⟩
  ·rename_i b _ hb
   obtain ⟨h1,h2⟩:=hs
   cases hx:b.den R r with
   | true=>exact ⟨_,h1 hx,.inr ⟨t,b,true,hb,hx,rfl⟩⟩
   | false=>exact ⟨_,h2 hx,.inr ⟨t,b,false,hb,hx,rfl⟩⟩
  ·exact ⟨s.fr,hs,.inl rfl⟩
structure Lex (s0:St) (e0:Env) (a0:Array Value) (ops:Array Oper) (i:Nat) (ents:Nat→Ent) (s:St) (r:List Int) (al:List Nat):Prop where
 ext:∃ x,r=e0.r++x
 nv:s.nv=r.length
 nx:s.nx=s0.nx
 fl:s.fl=s0.fl
 flr:s.flr=s0.flr
 gl:s.gl=s0.gl
 hs:s.hs=s0.hs
 dp:s.dp=s0.dp
 rows:s.rows=s0.rows
 mem:∃ news,s.mem=s0.mem++news∧news.length=al.length
 len:s.fr.length=s0.fr.length
 memd:∀ b ∈ s0.mem,b.cells.map (SC.den (e0.at r))=b.cells.map (SC.den e0)
 rowd:∀ b ∈ s0.rows,b.c.den e0.R r=b.c.den e0.R e0.r
 hsd:∀ b ∈ s0.hs,b.2.den e0.R r=b.2.den e0.R e0.r
 slots:∀ t,(s.fr.getD t Z5).scp s0.mem.length s0.rows.length=true→Zms ops ents a0 i t=some ((s.fr.getD t Z5).den (e0.at r))
 nscp:∀ t,(s.fr.getD t Z5).scp s0.mem.length s0.rows.length=false→∃ (j i':Nat),al[j]?=some i'∧(ops[i']?).bind (·.dst)=some t
 alOK:∀ (j i':Nat),al[j]?=some i'→i' < i∧∃ b:Blk,s.mem[s0.mem.length + j]?=some b∧b.live=true∧b.cells.all (SC.scp s0.mem.length s0.rows.length)=true ∧
  (ents i').obj=some (.cells (b.cells.map (SC.den (e0.at r))).toArray b.ty (0,0)) ∧
  ∃ mk:Nat→SC,((∀ n,mk n=.p n 0)∨∃ l c,∀ n,mk n=.s n 0 l c)∧(∀ (e:Env) n,(mk n).den e=(ents i').val (e.β.getD n 0))∧∀ t,(ops[i']?).bind (·.dst)=some t→s.fr.getD t Z5=one (mk (s0.mem.length + j))
 alAll:∀ i',i' < i→(ents i').obj.isSome=true→i' ∈ al
 alND:al.Nodup
variable {s0:St} {e0:Env} {a0:Array Value} {i:Nat} {ents:Nat→Ent} {s:St} {r:List Int} {al:List Nat}
theorem Z23 (l:List SV) (t t':Nat) (v:SV):(l.set t v).getD t' Z5=if t'=t∧t < l.length then v else l.getD t' Z5:=by
 simp only [List.getD,List.getElem?_set]
 by_cases h:t=t'
 ·subst h
  by_cases hl:t < l.length
  ·simp [hl]
  ·simp [hl]
 ·have:¬ t'=t:=fun hh=>h hh.symm
  simp [h,this]
theorem Zd9 {ents ents':Nat→Ent} {N i t:Nat} (he:∀ j,j < N→ents' j=ents j) (hi:i≤N):Zms ops ents' a0 i t=Zms ops ents a0 i t:=by
 unfold Zms
 cases hw:Zo ops i t with
 | none=>rfl
 | some j=>simp only [he j (Nat.lt_of_lt_of_le (Zj hw).1 hi)]
theorem Zhf.congrN {P:Program} {C:World→Prop} {ents ents':Nat→Ent} {N i:Nat} (he:∀ j,j < N→ents' j=ents j) (hi:i < N) (h:Zhf P C ops ents a0 i):Zhf P C ops ents' a0 i:=by
 obtain ⟨o,h1,h2,look,opv,h3,h4,h5⟩:=h
 refine ⟨o,h1,by rw [he i hi]; exact h2,look,opv,h3,fun t ht=>?_,fun act w hc hs hd hl=>?_⟩
 ·rw [Zd9 he (Nat.le_of_lt hi)]; exact h4 t ht
 ·rw [he i hi]; exact h5 act w hc hs hd hl
theorem Lex.congr {ents ents':Nat→Ent} {N:Nat} (he:∀ j,j < N→ents' j=ents j) (h:Lex s0 e0 a0 ops N ents s r al):Lex s0 e0 a0 ops N ents' s r al :=
 { h with
  slots:=fun t ht=>by rw [Zd9 he (Nat.le_refl _)]; exact h.slots t ht
  alOK:=fun j i' hj=>by
   have h1:=h.alOK j i' hj
   rw [he i' h1.1]
   exact h1
  alAll:=fun i' hi' h2=>h.alAll i' hi' (by rw [he i' hi'] at h2; exact h2) }
theorem Lex.fork (h:Lex s0 e0 a0 ops i ents s r al) {x:List SV} (hx:x=s.fr∨∃ t b v,Zfm s t=some b∧b.den e0.R r=v∧x=s.fr.set t (one (.b (.c v)))):Lex s0 e0 a0 ops i ents { s with fr:=x } r al:=by
 rcases hx with rfl | ⟨t,b,v,hb,hv,rfl⟩
 ·exact h
 ·obtain ⟨ht,hs⟩:=Z7e hb
  have hval:(one (.b (.c v))).den (e0.at r)=(s.fr.getD t Z5).den (e0.at r):=by
   rw [hs]
   show Value.bool v=Value.bool (b.den e0.R r)
   rw [hv]
  have hscp:(s.fr.getD t Z5).scp s0.mem.length s0.rows.length=true:=by rw [hs]; rfl
  refine ⟨h.ext,h.nv,h.nx,h.fl,h.flr,h.gl,h.hs,h.dp,h.rows,h.mem,by simpa using h.len,h.memd,h.rowd,h.hsd,?_,?_,?_,h.alAll,h.alND⟩
  ·intro t' ht'
   show Zms ops ents a0 i t'=some (((s.fr.set t (one (.b (.c v)))).getD t' Z5).den (e0.at r))
   have ht'':((s.fr.set t (one (.b (.c v)))).getD t' Z5).scp s0.mem.length s0.rows.length=true:=ht'
   rw [Z23] at ht'' ⊢
   split
   ·rename_i hc
    obtain ⟨rfl,_⟩:=hc
    rw [h.slots t' hscp,hval]
   ·rename_i hc
    rw [if_neg hc] at ht''
    exact h.slots t' ht''
  ·intro t' ht'
   have ht'':((s.fr.set t (one (.b (.c v)))).getD t' Z5).scp s0.mem.length s0.rows.length=false:=ht'
   rw [Z23] at ht''
   split at ht''
   ·simp [one,SV.scp,SW.scp,SC.scp] at ht''
   ·exact h.nscp t' ht''
  ·intro j i' hj
   obtain ⟨h1,bb,h2,h3,h4,h5,mk,h6,h7,h8⟩:=h.alOK j i' hj
   refine ⟨h1,bb,h2,h3,h4,h5,mk,h6,h7,fun t' ht'=>?_⟩
   show (s.fr.set t (one (.b (.c v)))).getD t' Z5=_
   rw [Z23]
   split
   ·rename_i hc
    obtain ⟨rfl,_⟩:=hc
    have:=h8 t' ht'
    rw [hs] at this
    rcases h6 with h6 | ⟨l,c,h6⟩ <;> rw [h6] at this <;> simp [one] at this
   ·exact h8 t' ht'
theorem Lex.more (h:Lex s0 e0 a0 ops i ents s r al) (hsc:s.sc=true) (y:List Int):Lex s0 e0 a0 ops i ents { s with nv:=s.nv + y.length } (r++y) al:=by
 obtain ⟨x,hx⟩:=h.ext
 simp only [St.sc,Z18r] at hsc
 obtain ⟨⟨hf,hm⟩,hr,hh⟩:=hsc
 obtain ⟨news,hmem,hnl⟩:=h.mem
 have hat:(e0.at r).at ((e0.at r).r++y)=e0.at (r++y):=rfl
 have hlen:s.nv≤(e0.at r).r.length:=by rw [h.nv]; exact Nat.le_refl _
 have hd:∀ v,SV.sc s.nv s.mem.length s.rows.length s.nx v=true→v.den (e0.at (r++y))=v.den (e0.at r):=fun v hv=>by
  rw [← hat]; exact SV.den_r hlen y v hv
 have hcs:∀ cs:List SC,cs.all (SC.sc s.nv s.mem.length s.rows.length)=true→cs.map (SC.den (e0.at (r++y)))=cs.map (SC.den (e0.at r)):=fun cs hc=>by
  rw [← hat]; exact Zk6 hlen y hc
 have hslot:∀ t,(s.fr.getD t Z5).den (e0.at (r++y))=(s.fr.getD t Z5).den (e0.at r):=by
  intro t
  by_cases ht:t < s.fr.length
  ·refine hd _ (List.all_eq_true.1 hf _ ?_)
   rw [show s.fr.getD t Z5=s.fr[t] by simp [List.getD,ht]]
   exact List.getElem_mem ht
  ·have:s.fr.getD t Z5=Z5:=by simp [List.getD,List.getElem?_eq_none (Nat.le_of_not_lt ht)]
   rw [this]
   rfl
 refine ⟨⟨x++y,by simp [hx]⟩,by simp [h.nv],h.nx,h.fl,h.flr,h.gl,h.hs,h.dp,h.rows,⟨news,hmem,hnl⟩,h.len,?_,?_,?_,?_,h.nscp,?_,h.alAll,h.alND⟩
 ·intro b hb
  rw [hcs b.cells (List.all_eq_true.1 hm b (by rw [hmem]; exact List.mem_append_left _ hb))]
  exact h.memd b hb
 ·intro b hb
  rw [E.den_app _ _ _ _ (by rw [← h.nv]; exact List.all_eq_true.1 hr b (by rw [h.rows]; exact hb))]
  exact h.rowd b hb
 ·intro b hb
  rw [E.den_app _ _ _ _ (by rw [← h.nv]; exact List.all_eq_true.1 hh b (by rw [h.hs]; exact hb))]
  exact h.hsd b hb
 ·intro t ht
  rw [show (({ s with nv:=s.nv + y.length }:St).fr.getD t Z5).den (e0.at (r++y))=_ from hslot t]
  exact h.slots t ht
 ·intro j i' hj
  obtain ⟨h1,bb,h2,h3,h4,h5,mk,h6,h7,h8⟩:=h.alOK j i' hj
  refine ⟨h1,bb,h2,h3,h4,?_,mk,h6,h7,h8⟩
  rw [hcs bb.cells (List.all_eq_true.1 hm bb (List.mem_of_getElem? h2))]
  exact h5
def upd (ents:Nat→Ent) (i:Nat) (x:Ent):Nat→Ent:=fun j=>if j=i then x else ents j
theorem Zal {ents':Nat→Ent} {n:Nat} (h:∀ j,j < n→ents' j=ents j) (t:Nat):Zms ops ents' a0 n t=Zms ops ents a0 n t:=by
 unfold Zms
 cases hw:Zo ops n t with
 | none=>rfl
 | some j=>simp only [h j (Zj hw).1]
theorem Zhf.congr {C:World→Prop} {ents':Nat→Ent} {n:Nat} (h:∀ j,j≤n→ents' j=ents j) (hp:Zhf P C ops ents a0 n):Zhf P C ops ents' a0 n:=by
 obtain ⟨o,h1,h2,look,opv,hl,h3,h4⟩:=hp
 refine ⟨o,h1,by rw [h n (Nat.le_refl _)]; exact h2,look,opv,hl,fun t ht=>by rw [Zal (fun j hj=>h j (by omega))]; exact h3 t ht,?_⟩
 rw [h n (Nat.le_refl _)]
 exact h4
theorem Z4j (ents:Nat→Ent) (i:Nat) (x:Ent):upd ents i x i=x:=by simp [upd]
theorem Z6m (ents:Nat→Ent) (i:Nat) (x:Ent) {j:Nat} (h:j ≠ i):upd ents i x j=ents j:=by simp [upd,h]
theorem Zk7 (hu:∀ j t,j < i→(ops[j]?).bind (·.dst)=some t→(ops[i]?).bind (·.dst) ≠ some t) (x:Ent) (t:Nat):Zms ops (upd ents i x) a0 (i + 1) t =
  if (ops[i]?).bind (·.dst)=some t then (if x.obj.isNone then some (x.val 0) else none) else Zms ops ents a0 i t:=by
 unfold Zms
 rw [Zmu]
 cases hw:Zo ops i t with
 | some j =>
  obtain ⟨h1,h2⟩:=Zj hw
  simp only [Z6m ents i x (Nat.ne_of_lt h1),if_neg (hu j t h1 h2)]
 | none =>
  by_cases hd:(ops[i]?).bind (·.dst)=some t
  ·simp [hd,Z4j]
  ·simp [hd]
theorem Lex.put (h:Lex s0 e0 a0 ops i ents s r al) {o:Oper} (ho:ops[i]?=some o) (hu:∀ j t,j < i→(ops[j]?).bind (·.dst)=some t→(ops[i]?).bind (·.dst) ≠ some t) (hdl:∀ d,o.dst=some d→d < s0.fr.length)
  {v:SV} (hv:v.scp s0.mem.length s0.rows.length=true):Lex s0 e0 a0 ops (i + 1) (upd ents i ⟨fun _=>v.den (e0.at r),none⟩) (s.put o.dst v) r al:=by
 obtain ⟨p1,p2,p3,p4,p5,p6⟩:=Zn s o.dst v
 have hslot:∀ t,((s.put o.dst v).fr.getD t Z5)=if o.dst=some t then v else s.fr.getD t Z5:=by
  intro t
  cases hd:o.dst with
  | none=>simp [St.put]
  | some d =>
   simp only [St.put,Z23,Option.some.injEq]
   have:=hdl d hd
   rw [← h.len] at this
   by_cases hdt:d=t
   ·subst hdt; simp [this]
   ·simp [hdt,Ne.symm hdt]
 have hob:(ops[i]?).bind (·.dst)=o.dst:=by rw [ho]; rfl
 refine ⟨h.ext,p3.trans h.nv,p4.trans h.nx,p5.trans h.fl,p6.trans h.flr,(Z13z _ _ _).trans h.gl,(Z140 _ _ _).trans h.hs,(Z4v _ _ _).trans h.dp,p2.trans h.rows,by rw [p1]; exact h.mem,by cases hd:o.dst <;> simp [St.put,h.len],h.memd,h.rowd,h.hsd,?_,?_,?_,?_,h.alND⟩
 ·intro t ht
  rw [hslot t] at ht ⊢
  rw [Zk7 hu,hob]
  split
  ·simp
  ·rename_i hd
   rw [if_neg hd] at ht
   exact h.slots t ht
 ·intro t ht
  rw [hslot t] at ht
  split at ht
  ·rw [hv] at ht; cases ht
  ·exact h.nscp t ht
 ·intro j i' hj
  obtain ⟨h1,bb,h2,h3,h4,h5,mk,h6,h7,h8⟩:=h.alOK j i' hj
  refine ⟨by omega,bb,by rw [p1]; exact h2,h3,h4,by rw [Z6m _ _ _ (Nat.ne_of_lt h1)]; exact h5,mk,h6,by rw [Z6m _ _ _ (Nat.ne_of_lt h1)]; exact h7,fun t ht=>?_⟩
  rw [hslot t,if_neg (by rw [← hob]; exact hu i' t h1 ht)]
  exact h8 t ht
 ·intro i' hi' hs'
  by_cases hii:i'=i
  ·subst hii; rw [Z4j] at hs'; cases hs'
  ·rw [Z6m _ _ _ hii] at hs'
   exact h.alAll i' (by omega) hs'
theorem Lex.new (h:Lex s0 e0 a0 ops i ents s r al) {o:Oper} (ho:ops[i]?=some o) (hu:∀ j t,j < i→(ops[j]?).bind (·.dst)=some t→(ops[i]?).bind (·.dst) ≠ some t) (hdl:∀ d,o.dst=some d→d < s0.fr.length)
  {b:Blk} (hbl:b.live=true) (hbs:b.cells.all (SC.scp s0.mem.length s0.rows.length)=true) {mk:Nat→SC} (hmk:(∀ n,mk n=.p n 0)∨∃ l c,∀ n,mk n=.s n 0 l c) {val:Nat→Value} (hval:∀ (e:Env) n,(mk n).den e=val (e.β.getD n 0)) :
  Lex s0 e0 a0 ops (i + 1) (upd ents i ⟨val,some (.cells (b.cells.map (SC.den (e0.at r))).toArray b.ty (0,0))⟩) (({ s with mem:=s.mem++[b] }:St).put o.dst (one (mk s.mem.length))) r (al++[i]):=by
 obtain ⟨news,hmem,hnl⟩:=h.mem
 have hml:s.mem.length=s0.mem.length + al.length:=by rw [hmem]; simp [hnl]
 obtain ⟨p1,p2,p3,p4,p5,p6⟩:=Zn ({ s with mem:=s.mem++[b] }:St) o.dst (one (mk s.mem.length))
 have hmkscp:(one (mk s.mem.length)).scp s0.mem.length s0.rows.length=false:=by
  rcases hmk with hmk | ⟨l,c,hmk⟩ <;> rw [hmk] <;> simp [one,SV.scp,SW.scp,SC.scp] <;> omega
 have hslot:∀ t,((({ s with mem:=s.mem++[b] }:St).put o.dst (one (mk s.mem.length))).fr.getD t Z5)=if o.dst=some t then one (mk s.mem.length) else s.fr.getD t Z5:=by
  intro t
  cases hd:o.dst with
  | none=>simp [St.put]
  | some d =>
   simp only [St.put,Z23,Option.some.injEq]
   have:=hdl d hd
   rw [← h.len] at this
   by_cases hdt:d=t
   ·subst hdt; simp [this]
   ·simp [hdt,Ne.symm hdt]
 have hob:(ops[i]?).bind (·.dst)=o.dst:=by rw [ho]; rfl
 have hali:∀ i' ∈ al,i' < i:=fun i' hi'=>by
  obtain ⟨j,hj⟩:=List.getElem?_of_mem hi'
  exact (h.alOK j i' hj).1
 refine ⟨h.ext,p3.trans h.nv,p4.trans h.nx,p5.trans h.fl,p6.trans h.flr,(Z13z _ _ _).trans h.gl,(Z140 _ _ _).trans h.hs,(Z4v _ _ _).trans h.dp,p2.trans h.rows,⟨news++[b],by rw [p1]; simp [hmem],by simp [hnl]⟩,by cases hd:o.dst <;> simp [St.put,h.len],h.memd,h.rowd,h.hsd,?_,?_,?_,?_,?_⟩
 ·intro t ht
  rw [hslot t] at ht ⊢
  rw [Zk7 hu,hob]
  split
  ·rename_i hd
   rw [if_pos hd,hmkscp] at ht
   cases ht
  ·rename_i hd
   rw [if_neg hd] at ht
   exact h.slots t ht
 ·intro t ht
  rw [hslot t] at ht
  split at ht
  ·rename_i hd
   exact ⟨al.length,i,by simp,by rw [hob]; exact hd⟩
  ·obtain ⟨j,i',hj,hd⟩:=h.nscp t ht
   exact ⟨j,i',by rw [List.getElem?_append_left (List.getElem?_eq_some_iff.1 hj).1]; exact hj,hd⟩
 ·intro j i' hj
  rcases Nat.lt_trichotomy j al.length with hlt | heq | hgt
  ·rw [List.getElem?_append_left hlt] at hj
   obtain ⟨h1,bb,h2,h3,h4,h5,mk',h6,h7,h8⟩:=h.alOK j i' hj
   refine ⟨by omega,bb,by rw [p1]; exact (List.getElem?_append_left (List.getElem?_eq_some_iff.1 h2).1).trans h2,h3,h4,by rw [Z6m _ _ _ (Nat.ne_of_lt h1)]; exact h5,mk',h6,by rw [Z6m _ _ _ (Nat.ne_of_lt h1)]; exact h7,fun t ht=>?_⟩
   rw [hslot t,if_neg (by rw [← hob]; exact hu i' t h1 ht)]
   exact h8 t ht
  ·subst heq
   simp only [List.getElem?_concat_length,Option.some.injEq] at hj
   subst hj
   refine ⟨by omega,b,by rw [p1,← hml]; simp,hbl,hbs,by rw [Z4j],mk,hmk,by rw [Z4j]; exact hval,fun t ht=>?_⟩
   rw [hslot t,if_pos (by rw [← hob]; exact ht),hml]
  ·rw [List.getElem?_eq_none (by simp; omega)] at hj
   cases hj
 ·intro i' hi' hs'
  by_cases hii:i'=i
  ·subst hii; simp
  ·rw [Z6m _ _ _ hii] at hs'
   exact List.mem_append_left _ (h.alAll i' (by omega) hs')
 ·rw [List.nodup_append]
  refine ⟨h.alND,by simp,?_⟩
  intro a ha b' hb' heq
  simp only [List.mem_singleton] at hb'
  subst hb'
  subst heq
  have:=hali _ ha
  omega
end
end Go.Sx
namespace Go.Sx
open Go.RowKit
theorem Z5j {S:TypeId→List K→Value→Int→Prop}:∀ {ks:List K} {cs:List Value} {xs:List Int},nS ks=0→Z2k S ks cs xs→cs=Z7 ks xs∧Zac ks cs=[]
 | [],[],[],_,_=>⟨rfl,rfl⟩
 | .i k::ks,c::cs,x::xs,h,hc=>by
  obtain ⟨h1,h2⟩:=Z5j (ks:=ks) h hc.2
  have h3:c=.int k x:=hc.1
  exact ⟨by rw [h1,h3]; rfl,h2⟩
 | .b::ks,c::cs,x::xs,h,hc=>by
  obtain ⟨h1,h2⟩:=Z5j (ks:=ks) h hc.2
  have h3:c=.bool (x != 0):=hc.1
  exact ⟨by rw [h1,h3]; rfl,h2⟩
 | .s _ _::_,_,_,h,_=>by simp [nS] at h
 | [],[],_::_,_,h=>h.elim
 | [],_::_,_,_,h=>h.elim
 | _::_,[],_,_,h=>h.elim
 | _::_,_::_,[],_,h=>h.elim
theorem Zg8:∀ a b:List K,nS (a++b)=nS a + nS b
 | [],b=>by simp [nS]
 | .i _::a,b=>Zg8 a b
 | .b::a,b=>Zg8 a b
 | .s _ _::a,b=>by simp [nS,Zg8 a b]; omega
theorem Zk8 {S:TypeId→List K→Value→Int→Prop}:∀ {ss:List Sh} {vs:List Value} {xs:List Int},nS (Z3u ss)=0→Z63 S ss vs xs→vs=Zjd ss xs∧Z9 ss vs=[]
 | [],_,_,_,h=>by rw [h.1]; exact ⟨rfl,rfl⟩
 | s::ss,_,_,hn,⟨v,vr,ys,yr,h1,h2,h3,h4⟩=>by
  subst h1; subst h2
  rw [Z3u,Zg8] at hn
  obtain ⟨a1,a2⟩:=Zk8 (ss:=ss) (by omega) h4
  have hl:=h3.len
  simp only [Zjd,← hl,List.take_left,List.drop_left,← a1,Z9,a2,List.append_nil]
  unfold ShR at h3
  unfold Zua Zfl
  split at h3
  ·rename_i ha
   obtain ⟨cs,rfl,h3⟩:=h3
   obtain ⟨b1,b2⟩:=Z5j (by omega) h3
   simp only [ha,if_true]
   exact ⟨by rw [← b1],b2⟩
  ·rename_i ha
   obtain ⟨b1,b2⟩:=Z5j (by omega) h3
   simp only [ha]
   exact ⟨by rw [← b1]; rfl,b2⟩
theorem Zs6 (rs:List Sh) (ys:List Int):Zrr rs ys=resV (Zjd rs ys):=by
 unfold Zrr resV
 rfl
theorem Z63.up {S S':TypeId→List K→Value→Int→Prop} (hS:∀ ty ks u n,S ty ks u n→S' ty ks u n):∀ {ss:List Sh} {vs:List Value} {xs:List Int},Z63 S ss vs xs→Z63 S' ss vs xs:=by
 have hc:∀ {ks:List K} {cs:List Value} {xs:List Int},Z2k S ks cs xs→Z2k S' ks cs xs:=by
  intro ks
  induction ks with
  | nil=>intro cs xs h; cases cs <;> cases xs <;> first | exact h | exact h.elim
  | cons k ks ih =>
   intro cs xs h
   cases cs with
   | nil=>exact h.elim
   | cons v vs=>cases xs with
    | nil=>exact h.elim
    | cons x xs =>
     refine ⟨?_,ih h.2⟩
     cases k with
     | i k=>exact h.1
     | b=>exact h.1
     | s ty ks=>exact hS _ _ _ _ h.1
 intro ss
 induction ss with
 | nil=>intro vs xs h; exact h
 | cons s ss ih =>
  intro vs xs h
  obtain ⟨v,vr,ys,yr,h1,h2,h3,h4⟩:=h
  refine ⟨v,vr,ys,yr,h1,h2,?_,ih h4⟩
  unfold ShR at h3 ⊢
  split
  ·rename_i ha
   rw [if_pos ha] at h3
   obtain ⟨cs,h5,h6⟩:=h3
   exact ⟨cs,h5,hc h6⟩
  ·rename_i ha
   rw [if_neg ha] at h3
   exact hc h3
theorem Z8x.up {B B':Nat→Prop} {w:World} {rs:List Sh} {v:Value} {ys:List Int} (hB:∀ k,B k→B' k) (h:Z8x B w rs v ys):Z8x B' w rs v ys:=by
 obtain ⟨vs,h1,h2,h3⟩:=h
 exact ⟨vs,h1,h2.up (fun ty ks u n hu=>⟨hu.1,fun k hk=>hB k (hu.2 k hk)⟩),h3⟩
theorem Zam {B:Nat→Prop} {w:World} {rs:List Sh} {v:Value} {ys:List Int} (hn:nS (Z3u rs)=0) (h:Z8x B w rs v ys):v=Zrr rs ys:=by
 obtain ⟨vs,h1,h2,_⟩:=h
 rw [h1,Zs6,← (Zk8 hn h2).1]
section
variable {P:Program} {Γ:List Sum} {Ψ:List Int→Prop} {bs:List (List Int→Prop)} {R:Fo} {r:List Int}
def ResS (B:Nat→Prop) (w:World):TypeId→List K→Value→Int→Prop:=fun ty ks u n=>Zs w ty ks u n∧∀ k,Z6 u=some k→B k
def Zp7 (S:TypeId→List K→Value→Int→Prop) (st:St) (e:Env):List SC→List Int→Prop
 | [],[]=>True
 | c::cs,y::ys=>(∀ k,Z1c st [k] [c]=true→Zub S k (c.den e) y)∧Zp7 S st e cs ys
 | _,_=>False
theorem Z4y {st:St} {k:K} {ks:List K} {c:SC} {cs:List SC} (h:Z1c st (k::ks) (c::cs)=true):Z1c st [k] [c]=true∧Z1c st ks cs=true:=by
 unfold Z1c at h
 split at h
 ·rename_i h1 h2; cases h1
 ·rename_i h1 h2; cases h1; cases h2
  simp only [Z18r] at h
  exact ⟨by simp [Z1c,h.1],h.2⟩
 ·rename_i h1 h2; cases h1; cases h2
  exact ⟨rfl,h⟩
 ·rename_i h1 h2; cases h1; cases h2
  simp only [Z18r] at h
  exact ⟨by unfold Z1c; rw [h.1]; rfl,h.2⟩
 ·rename_i h1 h2; cases h1; cases h2
  simp only [Z18r] at h
  exact ⟨by unfold Z1c; rw [h.1]; rfl,h.2⟩
 ·rename_i h1 h2; cases h1; cases h2
  exact ⟨rfl,h⟩
 ·cases h
theorem Zk9 {st:St}:∀ {ks:List K} {cs:List SC},Z1c st ks cs=true→cs.length=ks.length
 | [],[],_=>rfl
 | [],_::_,h=>by simp [Z1c] at h
 | k::_,[],h=>by cases k <;> simp [Z1c] at h
 | _::ks,_::cs,h=>by simp [Zk9 (Z4y h).2]
theorem Z6n {S:TypeId→List K→Value→Int→Prop} {st:St} {e:Env}:∀ {ks:List K} {cs:List SC} {ys:List Int},Zp7 S st e cs ys→Z1c st ks cs=true→Z2k S ks (cs.map (SC.den e)) ys
 | [],[],[],_,_=>trivial
 | [],[],_::_,h,_=>h.elim
 | [],_::_,_,_,hf=>by simp [Z1c] at hf
 | k::ks,[],_,_,hf=>by cases k <;> simp [Z1c] at hf
 | k::ks,c::cs,[],h,_=>h.elim
 | k::ks,c::cs,y::ys,h,hf=>by
  obtain ⟨h1,h2⟩:=Z4y hf
  exact ⟨h.1 k h1,Z6n h.2 h2⟩
theorem Zp8 {e:Env} {W0:Bas} {st:St} {w:World} (hrep:Rep e W0 st w):∀ {cs:List SC} {k:List E→T},(Zot st cs k).sat Γ e.R Ψ bs e.r→∃ es,(k es).sat Γ e.R Ψ bs e.r∧Zp7 (ResS W0.may w) st e cs (es.map (E.den e.R e.r)):=by
 intro cs
 induction cs with
 | nil=>intro k h; exact ⟨[],h,trivial⟩
 | cons c cs ih =>
  intro k h
  have bool:∀ {x:B} {n:Int},(x.den e.R e.r=(n != 0))→∀ kk,Z1c st [kk] [SC.b x]=true→Zub (ResS W0.may w) kk ((SC.b x).den e) n:=by
   intro x n hx kk hk
   cases kk with
   | i kk=>simp [Z1c] at hk
   | b=>simp [Zub,SC.den,hx]
   | s ty kr=>simp [Z1c] at hk
  have empty:∀ {v:Value},(∃ a,v=.slice a 0 0)→∀ ty kr,ResS W0.may w ty kr v (cod []):=by
   intro v hv ty kr
   refine ⟨.inl ⟨by simp,hv⟩,fun k hk=>?_⟩
   obtain ⟨a,rfl⟩:=hv
   cases a <;> simp [Z6] at hk
  cases c with
  | i kk x =>
   obtain ⟨es,h1,h2⟩:=ih h
   refine ⟨x::es,h1,?_,h2⟩
   intro k' hk'
   cases k' with
   | i k''=>simp only [Z1c,Bool.and_true,beq_iff_eq] at hk'; subst hk'; rfl
   | b=>simp [Z1c] at hk'
   | s ty kr=>simp [Z1c] at hk'
  | b x =>
   have gen:∀ {x:B},(T.ite x (Zot st cs fun es=>k (.c 1::es)) (Zot st cs fun es=>k (.c 0::es))).sat Γ e.R Ψ bs e.r→∃ es,(k es).sat Γ e.R Ψ bs e.r∧Zp7 (ResS W0.may w) st e (SC.b x::cs) (es.map (E.den e.R e.r)):=by
    intro x h
    obtain ⟨h1,h2⟩:=h
    cases hx:x.den e.R e.r with
    | true =>
     obtain ⟨es,h3,h4⟩:=ih (h1 hx)
     exact ⟨_,h3,bool (by rw [hx]; rfl),h4⟩
    | false =>
     obtain ⟨es,h3,h4⟩:=ih (h2 hx)
     exact ⟨_,h3,bool (by rw [hx]; rfl),h4⟩
   cases x with
   | c y =>
    obtain ⟨es,h1,h2⟩:=ih h
    exact ⟨_,h1,bool (by cases y <;> rfl),h2⟩
   | _=>exact gen h
  | go g =>
   simp only [Zot] at h
   split at h
   ·rename_i ks' c hg
    obtain ⟨es,h1,h2⟩:=ih h
    refine ⟨_,h1,?_,h2⟩
    intro k' hk'
    cases k' with
    | i k''=>simp [Z1c] at hk'
    | b=>simp [Z1c] at hk'
    | s ty kr =>
     cases g with
     | a i=>simp [Z1c] at hk'
     | e g1 ix1 j1 x1=>simp [Z1c] at hk'
     | o n =>
      simp only [Z1c,Bool.and_true] at hk'
      split at hk'
      ·rename_i b hb
       simp only [Z18r,Z18s] at hk'
       obtain ⟨⟨⟨hl,hf⟩,hty⟩,hks⟩:=hk'
       subst hty
       rw [← Z26 hks]
       simp only [Z2v,hb,hl,if_true,Option.some.injEq,Prod.mk.injEq] at hg
       obtain ⟨_,rfl⟩:=hg
       exact ⟨hrep.row n b hb hl,hrep.rown n b hb hl hf⟩
      ·cases hk'
   ·exact h.elim
  | gz g =>
   obtain ⟨es,h1,h2⟩:=ih h
   refine ⟨_,h1,?_,h2⟩
   intro k' hk'
   cases k' with
   | i k''=>simp [Z1c] at hk'
   | b=>simp [Z1c] at hk'
   | s ty kr =>
    simp only [Z1c,Bool.and_true] at hk'
    obtain ⟨⟨ks',c'⟩,hg'⟩:=Option.isSome_iff_exists.1 hk'
    refine empty ?_ ty kr
    obtain ⟨aa,l,c,hv⟩:=G.val_slice e g
    exact ⟨aa,by simp only [SC.den]; rw [hv]; rfl⟩
  | l v =>
   unfold Zot at h
   split at h
   ·rename_i heq; cases heq
   ·rename_i heq; cases heq
   ·rename_i heq; cases heq
   ·rename_i heq; cases heq
   ·rename_i heq; cases heq
   ·rename_i heq; cases heq
   ·rename_i heq
    cases heq
    obtain ⟨es,h1,h2⟩:=ih h
    refine ⟨_,h1,?_,h2⟩
    intro k' hk'
    cases k' with
    | i k''=>simp [Z1c] at hk'
    | b=>simp [Z1c] at hk'
    | s ty kr=>exact empty ⟨_,rfl⟩ ty kr
   ·exact h.elim
  | _=>exact h.elim
theorem Zda {st:St} {s:Sh} {x:SW} (h:Z15n st s x=true):Z1c st s.ks x.cells=true∧(s.agg=true→∃ cs,x=.a cs)∧(s.agg=false→∃ c,x=.o c):=by
 cases x <;> simp only [Z15n,Z18r,Bool.not_eq_true'] at h
 ·exact ⟨h.2,fun ha=>(by rw [h.1] at ha; cases ha),fun _=>⟨_,rfl⟩⟩
 ·exact ⟨h.2,fun _=>⟨_,rfl⟩,fun ha=>(by rw [h.1] at ha; cases ha)⟩
theorem Zdb (x:SW) (xs:List SW):Z6e (x::xs)=x.cells++Z6e xs:=by cases x <;> rfl
theorem Zmv {st:St}:∀ {a:List K} {b:List K} {cs:List SC} {ds:List SC},Z1c st a cs=true→Z1c st b ds=true→Z1c st (a++b) (cs++ds)=true:=by
 intro a
 induction a with
 | nil =>
  intro b cs ds h1 h2
  cases cs with
  | nil=>exact h2
  | cons c cs=>simp [Z1c] at h1
 | cons k a ih =>
  intro b cs ds h1 h2
  cases cs with
  | nil=>cases k <;> simp [Z1c] at h1
  | cons c cs =>
   obtain ⟨h3,h4⟩:=Z4y h1
   have h5:=ih h4 h2
   unfold Z1c at h1
   split at h1
   ·rename_i e1 e2; cases e1
   ·rename_i e1 e2; cases e1; cases e2
    simp only [Z18r] at h1
    simp only [Z18i,Z1c,h1.1,h5,Bool.and_self]
   ·rename_i e1 e2; cases e1; cases e2
    exact h5
   ·rename_i e1 e2; cases e1; cases e2
    simp only [Z18r] at h1
    simp only [Z18i,Z1c]
    rw [h1.1,h5]; rfl
   ·rename_i e1 e2; cases e1; cases e2
    simp only [Z18r] at h1
    simp only [Z18i,Z1c]
    rw [h1.1,h5]; rfl
   ·rename_i e1 e2; cases e1; cases e2
    exact h5
   ·cases h1
theorem Z3c {st:St}:∀ {rs:List Sh} {xs:List SW},Z6d st rs xs=true→Z1c st (Z3u rs) (Z6e xs)=true
 | [],[],_=>rfl
 | [],_::_,h=>by simp [Z6d] at h
 | _::_,[],h=>by simp [Z6d] at h
 | s::rs,x::xs,h=>by
  simp only [Z6d,Z18r] at h
  rw [Zdb]
  exact Zmv (Zda h.1).1 (Z3c h.2)
theorem Zbg {S:TypeId→List K→Value→Int→Prop}:∀ {a b:List K} {cs ds:List Value} {ys:List Int},cs.length=a.length→Z2k S (a++b) (cs++ds) ys→∃ y1 y2,ys=y1++y2∧Z2k S a cs y1∧Z2k S b ds y2
 | [],b,[],ds,ys,_,h=>⟨[],ys,rfl,trivial,h⟩
 | k::a,b,c::cs,ds,[],_,h=>h.elim
 | k::a,b,c::cs,ds,y::ys,hl,h=>by
  obtain ⟨y1,y2,h1,h2,h3⟩:=Zbg (by simpa using hl) h.2
  exact ⟨y::y1,y2,by rw [h1]; rfl,⟨h.1,h2⟩,h3⟩
 | [],_,_::_,_,_,hl,_=>by simp at hl
 | _::_,_,[],_,_,hl,_=>by simp at hl
theorem Zbz:∀ {a b:List K} {cs ds:List Value},cs.length=a.length→Zac (a++b) (cs++ds)=Zac a cs++Zac b ds
 | [],_,[],_,_=>rfl
 | .i _::a,b,_::cs,ds,h=>Zbz (a:=a) (by simpa using h)
 | .b::a,b,_::cs,ds,h=>Zbz (a:=a) (by simpa using h)
 | .s _ _::a,b,c::cs,ds,h=>by simp only [Z18i,Zac]; rw [Zbz (a:=a) (by simpa using h)]
 | [],_,_::_,_,h=>by simp at h
 | _::_,_,[],_,h=>by simp at h
theorem Zdc {S:TypeId→List K→Value→Int→Prop} {st:St} {e:Env}:∀ {rs:List Sh} {xs:List SW} {ys:List Int},Z6d st rs xs=true→Z2k S (Z3u rs) ((Z6e xs).map (SC.den e)) ys →
  Z63 S rs (xs.map (SW.den e)) ys∧Z9 rs (xs.map (SW.den e))=Zac (Z3u rs) ((Z6e xs).map (SC.den e))
 | [],[],ys,_,h=>by
  cases ys with
  | nil=>exact ⟨⟨rfl,rfl⟩,rfl⟩
  | cons y ys=>exact h.elim
 | [],_::_,_,hf,_=>by simp [Z6d] at hf
 | _::_,[],_,hf,_=>by simp [Z6d] at hf
 | s::rs,x::xs,ys,hf,h=>by
  simp only [Z6d,Z18r] at hf
  obtain ⟨f1,f2,f3⟩:=Zda hf.1
  have hl:(x.cells.map (SC.den e)).length=s.ks.length:=by simpa using Zk9 f1
  rw [Zdb,List.map_append,Z3u] at h ⊢
  obtain ⟨y1,y2,rfl,h1,h2⟩:=Zbg hl h
  obtain ⟨h3,h4⟩:=Zdc hf.2 h2
  rw [Zbz hl,← h4]
  simp only [Z18k,Z9]
  cases ha:s.agg with
  | true =>
   obtain ⟨cs,rfl⟩:=f2 ha
   refine ⟨⟨_,_,y1,y2,rfl,rfl,?_,h3⟩,?_⟩
   ·unfold ShR; rw [if_pos ha]; exact ⟨_,rfl,h1⟩
   ·unfold Zfl; rw [if_pos ha]; rfl
  | false =>
   obtain ⟨c,rfl⟩:=f3 ha
   refine ⟨⟨_,_,y1,y2,rfl,rfl,?_,h3⟩,?_⟩
   ·unfold ShR; rw [if_neg (by simp [ha])]; exact h1
   ·unfold Zfl; rw [if_neg (by simp [ha])]; rfl
theorem Z5k:∀ {l:List Nat},Zbc l=true→l.Nodup
 | [],_=>List.nodup_nil
 | x::l,h=>by
  simp only [Zbc,Z18r,Bool.not_eq_true'] at h
  refine List.nodup_cons.2 ⟨fun hx=>?_,Z5k h.2⟩
  have:=h.1
  simp [hx] at this
theorem Zp9 {st:St} {e:Env} {W0:Bas} {w:World} (hrep:Rep e W0 st w):∀ {ks:List K} {cs:List SC},Z1c st ks cs=true→∀ v ∈ Zac ks (cs.map (SC.den e)),∀ k,Z6 v=some k→∃ m b,m ∈ Z25 cs∧v=(G.o m).val e∧st.rows[m]?=some b∧b.live=true:=by
 intro ks
 induction ks with
 | nil=>intro cs _ v hv; cases cs <;> simp [Zac] at hv
 | cons k ks ih =>
  intro cs hf v hv kk hk
  cases cs with
  | nil=>cases k <;> simp [Zac] at hv
  | cons c cs =>
   obtain ⟨h1,h2⟩:=Z4y hf
   have rest:v ∈ Zac ks (cs.map (SC.den e))→∃ m b,m ∈ Z25 (c::cs)∧v=(G.o m).val e∧st.rows[m]?=some b∧b.live=true:=by
    intro hv
    obtain ⟨m,b,hm,h3⟩:=ih h2 v hv kk hk
    refine ⟨m,b,?_,h3⟩
    cases c with
    | go g=>cases g with
     | a i=>exact hm
     | e g1 ix1 j1 x1=>exact hm
     | o n=>exact List.mem_cons_of_mem _ hm
    | _=>exact hm
   cases k with
   | i k=>exact rest (by simpa [Zac] using hv)
   | b=>exact rest (by simpa [Zac] using hv)
   | s ty kr =>
    simp only [Z18k,Zac,List.mem_cons] at hv
    rcases hv with rfl | hv
    ·unfold Z1c at h1
     split at h1
     ·rename_i e1 e2; cases e1
     ·rename_i e1 e2; cases e1
     ·rename_i e1 e2; cases e1
     ·rename_i e1 e2; cases e1; cases e2
      simp only [Z18r] at h1
      obtain ⟨h1,_⟩:=h1
      split at h1
      ·rename_i n b hb
       simp only [Z18r] at h1
       exact ⟨_,b,by simp [Z25],rfl,hb,h1.1.1.1⟩
      ·cases h1
     ·rename_i g _ e1 e2; cases e1; cases e2
      obtain ⟨a,l,c,hv⟩:=G.val_slice e g
      simp only [SC.den,hv,Zu1] at hk
      cases a <;> simp [Z6] at hk
     ·rename_i e1 e2; cases e1; cases e2
      simp [SC.den,Z6] at hk
     ·cases h1
    ·exact rest hv
theorem Zg9 {st:St} {e:Env} {W0:Bas} {w:World} (hrep:Rep e W0 st w):∀ {ks:List K} {cs:List SC},Z1c st ks cs=true→(Z25 cs).Nodup→Zje (Zac ks (cs.map (SC.den e))):=by
 intro ks
 induction ks with
 | nil=>intro cs _ _; cases cs <;> exact List.Pairwise.nil
 | cons k ks ih =>
  intro cs hf hn
  cases cs with
  | nil=>cases k <;> exact List.Pairwise.nil
  | cons c cs =>
   obtain ⟨h1,h2⟩:=Z4y hf
   have hn':(Z25 cs).Nodup:=by
    cases c with
    | go g=>cases g with
     | a i=>exact hn
     | e g1 ix1 j1 x1=>exact hn
     | o n=>exact (List.nodup_cons.1 hn).2
    | _=>exact hn
   cases k with
   | i k=>exact ih h2 hn'
   | b=>exact ih h2 hn'
   | s ty kr =>
    refine List.Pairwise.cons ?_ (ih h2 hn')
    intro v hv kk hk hk'
    obtain ⟨m,b,hm,rfl,hb,hl⟩:=Zp9 hrep h2 v hv kk hk'
    obtain ⟨m2,b2,hm2,heq,hb2,hl2⟩:=Zp9 hrep (ks:=[K.s ty kr]) (cs:=[c]) h1 (c.den e) (by simp [Zac]) kk hk
    rw [heq] at hk
    have:=hrep.rsep _ _ _ _ kk hb hb2 hl hl2 hk' hk
    subst this
    cases c with
    | go g=>cases g with
     | a i=>simp [Z25] at hm2
     | e g1 ix1 j1 x1=>simp [Z25] at hm2
     | o n =>
      simp only [Z25,List.mem_cons,List.not_mem_nil,or_false] at hm2
      subst hm2
      exact (List.nodup_cons.1 hn).1 hm
    | _=>simp [Z25] at hm2
theorem Z107 {e:Env} {W0:Bas} {st:St} {w:World} (hrep:Rep e W0 st w) {rs:List Sh} {v:SV} (h:(retW st rs v).sat Γ e.R Ψ bs e.r):∃ ys,Ψ ys∧Z8x W0.may w rs (v.den e) ys:=by
 unfold retW at h
 split at h
 ·rename_i x
  split at h
  ·rename_i hf
   simp only [Z18r] at hf
   obtain ⟨es,h1,h2⟩:=Zp8 hrep h
   have h3:=Z6n h2 (Z3c hf.1)
   obtain ⟨h4,h5⟩:=Zdc hf.1 h3
   exact ⟨_,h1,[x.den e],rfl,h4,by
    have:=Zg9 hrep (Z3c hf.1) (Z5k hf.2)
    rw [← h5] at this
    exact this⟩
  ·exact h.elim
 ·rename_i xs
  split at h
  ·rename_i hf
   simp only [Z18r,bne_iff_ne,ne_eq] at hf
   obtain ⟨es,h1,h2⟩:=Zp8 hrep h
   have h3:=Z6n h2 (Z3c hf.1.1)
   obtain ⟨h4,h5⟩:=Zdc hf.1.1 h3
   refine ⟨_,h1,xs.map (SW.den e),?_,h4,by
    have:=Zg9 hrep (Z3c hf.1.1) (Z5k hf.2)
    rw [← h5] at this
    exact this⟩
   match xs,hf.1.2 with
   | [],_=>rfl
   | [x],hne=>exact absurd rfl hne
   | _::_::_,_=>rfl
  ·exact h.elim
 ·exact h.elim
theorem Zuy:∀ {t:T} {k:List E→T},(Zuj t k).sat Γ R Ψ bs r→∃ es,(k es).sat Γ R Ψ bs r∧∀ (Ψ':List Int→Prop) (bs':List (List Int→Prop)),Ψ' (es.map (E.den R r))→t.sat Γ R Ψ' bs' r:=by
 intro t
 induction t with
 | ret es=>intro k h; exact ⟨es,h,fun _ _ h'=>h'⟩
 | ite b t f iht ihf =>
  intro k h
  obtain ⟨h1,h2⟩:=h
  cases hb:b.den R r with
  | true =>
   obtain ⟨es,h3,h4⟩:=iht (h1 hb)
   exact ⟨es,h3,fun Ψ' bs' h'=>⟨fun _=>h4 Ψ' bs' h',fun hf=>(by rw [hb] at hf; cases hf)⟩⟩
  | false =>
   obtain ⟨es,h3,h4⟩:=ihf (h2 hb)
   exact ⟨es,h3,fun Ψ' bs' h'=>⟨fun ht=>(by rw [hb] at ht; cases ht),fun _=>h4 Ψ' bs' h'⟩⟩
 | asrt b t ih =>
  intro k h
  obtain ⟨es,h3,h4⟩:=ih h.2
  exact ⟨es,h3,fun Ψ' bs' h'=>⟨h.1,h4 Ψ' bs' h'⟩⟩
 | call g args t ih=>intro k h; exact h.elim
 | loop n ini t ih=>intro k h; exact h.elim
 | back d es=>intro k h; exact h.elim
 | both t f=>intro k h; exact h.elim
 | any n g args t=>intro k h; exact h.elim
 | fail=>intro k h; exact h.elim
theorem Zka {e:Env} {W0:Bas} {s:St} {a:Act} {w:World} {F:Func} {rs:List Sh} {out:Out} (h:Rel e W0 s a w) (hs:(Zjk P F rs out s).sat Γ e.R Ψ bs e.r) :
  (∀ id,out ≠ .exit id)∧∃ ys v,Ψ ys∧Z8x W0.may w rs v ys∧(results F a.tmps).run P w=.ok v w:=by
 have key:(match Zcw P F s with | some v=>retW s rs v | none=>.fail:T).sat Γ e.R Ψ bs e.r→∃ ys v,Ψ ys∧Z8x W0.may w rs v ys∧(results F a.tmps).run P w=.ok v w:=by
  intro hs
  split at hs
  ·rename_i v hv
   obtain ⟨ys,h1,h2⟩:=Z107 h.rep hs
   exact ⟨ys,_,h1,h2,Z9a h hv⟩
  ·exact hs.elim
 cases out with
 | norm=>exact ⟨fun _ h=>(by cases h),key hs⟩
 | exit id=>exact hs.elim
 | ret=>exact ⟨fun _ h=>(by cases h),key hs⟩
theorem Zga {ih:Code→St→Z80→T} (hih:IH P Γ ih) {W0:Bas} {e:Env} {s:St} {w:World} {args:List SV} {fn:FuncId} {F:Func} {body:Code} {rs:List Sh} (h:Rep e W0 s w) (hdp:s.dp=bs.length)
  (hF:P.funcs[fn]?=some F) (hb:F.body=some body) (hs:(ih body { s with fr:=args++List.replicate (F.ntmps - args.length) Z5 } (Zjk P F rs)).sat Γ e.R Ψ bs e.r) :
  Calls P fn (args.map (SV.den e)).toArray w fun x w'=>∃ ys v,x=.returned v∧Ψ ys∧Z8x W0.may w' rs v ys∧Zm W0 w':=by
 refine calls_of_wp hF hb ?_
 have hrel:Rel e W0 { s with fr:=args++List.replicate (F.ntmps - args.length) Z5 } { tmps:=(args.map (SV.den e)).toArray++Array.replicate (F.ntmps - (args.map (SV.den e)).toArray.size) undef,defers:=[] } w :=
  ⟨h.fr _,by
   apply Array.ext'
   simp [Z7f],rfl⟩
 refine wp_mono (Zfv _ (hih _ _ _ W0 Ψ bs e _ w hrel hdp hs)) ?_
 rintro x a' w' ⟨out,s',e',more,rfl,hle,hrel',hf,hfr,hd,hsat⟩
 obtain ⟨hne,ys,v,h1,h2,h3⟩:=Zka hrel' hsat
 cases out with
 | norm=>exact ⟨hrel'.defs,_,h3,ys,v,rfl,h1,h2,hrel'.rep.below⟩
 | exit id=>exact absurd rfl (hne id)
 | ret=>exact ⟨hrel'.defs,_,h3,ys,v,rfl,h1,h2,hrel'.rep.below⟩
end
end Go.Sx
namespace Go.Sx
open Go.RowKit
section
variable {P:Program} {Γ:List Sum} {Ψ:List Int→Prop} {bs:List (List Int→Prop)} {ops:Array Oper}
variable {s0:St} {e0:Env} {a0:Array Value} {i:Nat} {ents:Nat→Ent} {s:St} {r:List Int} {al:List Nat} {W0:Bas} {w0:World}
structure Cls (w0:World) (X:Nat→Prop) (w:World):Prop where
 os:w.os=w0.os
 tape:w.tape=w0.tape
 output:w.output=w0.output
 size:w0.heap.size≤w.heap.size
 block:∀ k,k < w0.heap.size→¬ X k→w.heap[k]?=w0.heap[k]?
theorem Cls.refl (w0:World) (X:Nat→Prop):Cls w0 X w0:=⟨rfl,rfl,rfl,Nat.le_refl _,fun _ _ _=>rfl⟩
theorem Cls.grow {X:Nat→Prop} {w w':World} (h:Cls w0 X w) (hb:Below w.heap.size w w'):Cls w0 X w' :=
 ⟨hb.os.trans h.os,hb.tape.trans h.tape,hb.output.trans h.output,Nat.le_trans h.size hb.size,fun k hk hx=>(hb.block k (Nat.lt_of_lt_of_le hk h.size)).trans (h.block k hk hx)⟩
theorem Cls.but {X:Nat→Prop} {w w':World} {g:Nat} {ob:Obj} (h:Cls w0 X w) (hb:Zmt w w' g ob) (hg:w0.heap.size≤g∨X g):Cls w0 X w' :=
 ⟨hb.os.trans h.os,hb.tape.trans h.tape,hb.output.trans h.output,by rw [hb.size]; exact h.size,fun k hk hx=>by
  rw [hb.block k (by rintro rfl; exact hg.elim (fun h=>by omega) hx)]
  exact h.block k hk hx⟩
structure XOK (e0:Env) (W0:Bas) (s0:St) (X:Nat→Prop):Prop where
 mem:∀ n b,s0.mem[n]?=some b→b.live=true→¬ X (e0.β.getD n 0)
 row:∀ n b k,s0.rows[n]?=some b→b.live=true→Z6 ((G.o n).val e0)=some k→¬ X k
 own:∀ k,X k→W0.may k
theorem Rep.cls {X:Nat→Prop} (h0:Rep e0 W0 s0 w0) (hX:XOK e0 W0 s0 X) {w:World} (hw:Cls w0 X w):Rep e0 W0 s0 w:=by
 refine ⟨?_,h0.nb,h0.ng,h0.nv,h0.nx,?_,h0.own,h0.sep,?_,h0.rown,h0.rsep,h0.brs,h0.gl,h0.arg⟩
 ·refine ⟨hw.os.trans h0.below.os,hw.tape.trans h0.below.tape,hw.output.trans h0.below.output,Nat.le_trans h0.below.size hw.size,fun k hk=>?_⟩
  have hkl:¬ W0.w.heap.size≤k:=fun hh=>hk (.inl hh)
  rw [hw.block k (Nat.lt_of_lt_of_le (Nat.lt_of_not_le hkl) h0.below.size) (fun hx=>hk (hX.own k hx))]
  exact h0.below.block k hk
 ·intro n b hb hl
  have:=h0.blk n b hb hl
  rw [hw.block _ (Z1g this) (hX.mem n b hb hl)]
  exact this
 ·intro n b hb hl
  have h1:=h0.row n b hb hl
  rcases h1.form with ⟨bb,hn,hv⟩ | ⟨g,cap,hv,hcap,hle,hk0,hel,hown⟩
  ·exact .inl ⟨hn,bb,hv⟩
  ·refine .inr ⟨hk0,hel,hown.1,?_⟩
   rcases hown.2 with h2 | ⟨g',cap',cur,h3,h4,h5,h6⟩
   ·exact .inl h2
   ·refine .inr ⟨g',cap',cur,h3,h4,?_,h6⟩
    have hg:g'=g∧cap'=cap:=by
     rw [hv] at h3
     simp only [Value.slice.injEq,Option.some.injEq,Addr.mk.injEq] at h3
     exact ⟨h3.1.1.symm,h3.2.2.symm⟩
    rw [hw.block g' (Z1g h5) (hX.row n b g' hb hl (by rw [hv]; simp [Z6,hcap,hg.1]))]
    exact h5
theorem Lex.rep {X:Nat→Prop} (h:Lex s0 e0 a0 ops i ents s r al) (h0:Rep e0 W0 s0 w0) (hX:XOK e0 W0 s0 X) {w:World} (hw:Cls w0 X w) (x:List SV) :
  Rep (e0.at r) ⟨w,fun _=>False⟩ { s with mem:=s0.mem,rows:=s0.rows,fl:=s0.mem.length,flr:=s0.rows.length,fr:=x } w:=by
 have hr:=h0.cls hX hw
 refine ⟨Zm.refl _,h0.nb,h0.ng,h.nv.symm,h0.nx.trans h.nx.symm,?_,?_,h0.sep,?_,?_,h0.rsep,h0.brs,⟨by show Zm8 s.gl w; rw [h.gl]; exact hr.glw,fun _ _ _ hh=>hh⟩,?_⟩
 ·intro n b hb hl
  have:=hr.blk n b hb hl
  show w.heap[e0.β.getD n 0]?=_
  rw [h.memd b (List.mem_of_getElem? hb)]
  exact this
 ·intro n b hb _ hf
  have hf':s0.mem.length≤n:=hf
  have hlt:n < s0.mem.length:=(List.getElem?_eq_some_iff.1 hb).1
  exact absurd hlt (Nat.not_lt_of_le hf')
 ·intro n b hb hl
  show Zs w b.ty b.ks ((G.o n).val e0) (b.c.den e0.R r)
  rw [h.rowd b (List.mem_of_getElem? hb)]
  exact hr.row n b hb hl
 ·intro n b hb _ hf
  have hf':s0.rows.length≤n:=hf
  have hlt:n < s0.rows.length:=(List.getElem?_eq_some_iff.1 hb).1
  exact absurd hlt (Nat.not_lt_of_le hf')
 ·intro i ks c hi
  have hi':s.hs[i]?=some (ks,c):=hi
  rw [h.hs] at hi'
  show SlN w ks ((G.a i).val e0) (c.den e0.R r)
  rw [show c.den e0.R r=c.den e0.R e0.r from h.hsd (ks,c) (List.mem_of_getElem? hi')]
  exact (hr.arg i ks c hi').nowN hr.below
def BehW (P:Program) (w0:World) (X:Nat→Prop) (o:Oper) (ent:Ent) (act:Act) (w:World):Prop :=
  ∀ (K:Act→World→Prop) (Q:Exit→Act→World→Prop),
    (match ent.obj with
      | none=>∀ w',Cls w0 X w'→Below w.heap.size w w'→K (act.put o.dst (ent.val 0)) w'
      | some ob=>∀ n w',Cls w0 X w'→Below w.heap.size w w'→w.heap.size≤n→w'.heap[n]?=some ob→K (act.put o.dst (ent.val n)) w')→o.wp P act w K Q
theorem Z8f {o:Oper} {act:Act} {w w':World} {v:Value} {nx:Next} {K:Act→World→Prop} {Q:Exit→Act→World→Prop} (hr:(execOp act.eval o).run P w=.ok nx w') (hnx:nx=.value v∨(nx=.skip∧v=undef)) (hk:K (act.put o.dst v) w'):o.wp P act w K Q:=by
 unfold Oper.wp
 rw [hr]
 rcases hnx with rfl | ⟨rfl,rfl⟩
 ·exact hk
 ·exact hk
theorem Zmw {e':Env} {w:World} (hle:Env.le (e0.at r) e') (hr:e'.r=(e0.at r).r) (hR:e'.R=(e0.at r).R) (hω:e'.ω=(e0.at r).ω) (h0:Rep e0 W0 s0 w):Env.like s0.mem.length s0.rows.length (e0.at r) e':=by
 obtain ⟨_,b,c,_,_,h2,h3,_,_⟩:=hle
 exact ⟨hr,hR,hω,fun n hn=>by rw [h2]; exact Z12 _ _ _ _ (by show n < e0.β.length; rw [h0.nb]; exact hn),fun n hn=>by rw [h3]; exact Z12 _ _ _ _ (by show n < e0.σ.length; rw [h0.ng]; exact hn)⟩
theorem Zan (nb ng:Nat) {mk:Nat→SC}:∀ (ks:List K) (i:Nat) (es:List E),nS ks=0→(Z2e mk i ks es).all (SC.scp nb ng)=true
 | [],_,es,_=>by cases es <;> simp [Z2e]
 | k::_,_,[],_=>by cases k <;> simp [Z2e]
 | .i k::ks,i,e::es,h=>by simp [Z2e,SC.scp,Zan nb ng ks i es h]
 | .b::ks,i,e::es,h=>by simp [Z2e,SC.scp,Zan nb ng ks i es h]
 | .s _ _::ks,i,e::es,h=>by simp [nS] at h
theorem Z15z (nb ng:Nat) {mk:Nat→SC} (i:Nat) (s:Sh) (es:List E) (h:nS s.ks=0):(shE mk i s es).scp nb ng=true:=by
 unfold shE
 have:=Zan nb ng (mk:=mk) s.ks i es h
 split
 ·exact this
 ·cases hce:Z2e mk i s.ks es with
  | nil=>rfl
  | cons c cs=>rw [hce] at this; simp only [List.all_cons,Z18r] at this; exact this.1
theorem Zpa (nb ng:Nat) {mk:Nat→SC}:∀ (ss:List Sh) (i:Nat) (es:List E),nS (Z3u ss)=0→(Zcv mk i ss es).all (SW.scp nb ng)=true
 | [],_,_,_=>by simp [Zcv]
 | s::ss,i,es,h=>by
  rw [Z3u,Zg8] at h
  simp only [Zcv,List.all_cons,Z18r]
  exact ⟨Z15z nb ng i s _ (by omega),Zpa nb ng ss _ _ (by omega)⟩
theorem Zpb (nb ng:Nat) {mk:Nat→SC} (i:Nat) (rs:List Sh) (es:List E) (h:nS (Z3u rs)=0):(Zjf mk i rs es).scp nb ng=true:=by
 unfold Zjf
 have:=Zpa nb ng (mk:=mk) rs i es h
 split
 ·rename_i x hx
  rw [hx] at this
  simp only [List.all_cons,List.all_nil,Bool.and_true] at this
  exact this
 ·exact this
theorem Z8g {e:Env} {mk:Nat→SC}:∀ (ks:List K) (i:Nat) (es:List E),nS ks=0→(Z2e mk i ks es).map (SC.den e)=Z7 ks (es.map (E.den e.R e.r))
 | [],_,es,_=>by cases es <;> rfl
 | .i k::ks,i,x::es,h=>by simp [Z2e,Z7,Z8g ks i es h,SC.den,K.mk]
 | .b::ks,i,x::es,h=>by
  simp only [Z2e,Z18k,Z7,Z8g ks i es h,SC.den,K.mk]
  congr 2
  unfold mkNz
  split <;> simp [B.den,E.den]
 | .s _ _::_,_,_,h=>by simp [nS] at h
 | .i _::_,_,[],_=>rfl
 | .b::_,_,[],_=>rfl
theorem Z108 {e:Env} {mk:Nat→SC} (i:Nat) (s:Sh) (es:List E) (h:nS s.ks=0):(shE mk i s es).den e=Zua s (es.map (E.den e.R e.r)):=by
 unfold shE Zua
 have:=Z8g (e:=e) (mk:=mk) s.ks i es h
 split
 ·simp [SW.den,this]
 ·rw [← this]
  cases Z2e mk i s.ks es <;> simp [SW.den,SC.den]
theorem Zkb {e:Env} {mk:Nat→SC}:∀ (ss:List Sh) (i:Nat) (es:List E),nS (Z3u ss)=0→(Zcv mk i ss es).map (SW.den e)=Zjd ss (es.map (E.den e.R e.r))
 | [],_,_,_=>by simp [Zcv,Zjd]
 | s::ss,i,es,h=>by
  rw [Z3u,Zg8] at h
  simp only [Zcv,Zjd,Z18k,Z108 i s _ (by omega),Zkb ss _ _ (by omega),List.map_take,List.map_drop]
theorem Zkc {e:Env} {mk:Nat→SC} (i:Nat) (rs:List Sh) (es:List E) (h:nS (Z3u rs)=0):(Zjf mk i rs es).den e=Zrr rs (es.map (E.den e.R e.r)):=by
 unfold Zjf Zrr
 rw [← Zkb (e:=e) (mk:=mk) rs i es h]
 match Zcv mk i rs es with
 | []=>rfl
 | [x]=>rfl
 | x::y::l=>rfl
theorem evM {m g:Nat} {x:Operand} {mem:List Blk} {rows:List Row} {fl flr:Nat} (h:(s.ev x).scp m g=true):({ s with fr:=Zbd m g s.fr,mem:=mem,rows:=rows,fl:=fl,flr:=flr }:St).ev x=s.ev x:=by
 cases x with
 | tmp t =>
  show (Zbd m g s.fr).getD t Z5=s.fr.getD t Z5
  have h':(s.fr.getD t Z5).scp m g=true:=h
  unfold Zbd
  simp only [List.getD,List.getElem?_map] at h' ⊢
  cases hx:s.fr[t]? with
  | none=>rfl
  | some v =>
   rw [hx] at h'
   simp only [Option.getD_some] at h'
   simp [h']
 | const v=>rfl
 | global v=>rfl
 | func v=>rfl
theorem Zkd {X:Nat→Prop} (hG:Gok P Γ) {ih:Code→St→Z80→T} (hih:IH P Γ ih) (h0:Rep e0 W0 s0 w0) (hX:XOK e0 W0 s0 X) (h:Lex s0 e0 a0 ops i ents s r al) {o:Oper} (ho:ops[i]?=some o)
    (hu:∀ j t,j < i→(ops[j]?).bind (·.dst)=some t→(ops[i]?).bind (·.dst) ≠ some t) (hdl:∀ d,o.dst=some d→d < s0.fr.length) {k:St→T}
    (hs:(preT P Γ ih s0 o s k).sat Γ e0.R Ψ bs r) :
    ∃ ent s' r' al',Lex s0 e0 a0 ops (i + 1) (upd ents i ent) s' r' al'∧(k s').sat Γ e0.R Ψ bs r'∧(ent.obj=none→∀ n,ent.val n=ent.val 0) ∧
      (∀ x ∈ o.op.operands,(s.ev x).scp s0.mem.length s0.rows.length=true) ∧
      ∀ (act:Act) (w:World),Cls w0 X w→(∀ x ∈ o.op.operands,act.eval x=(s.ev x).den (e0.at r))→BehW P w0 X o ent act w:=by
  unfold preT at hs
  dsimp only at hs
  split at hs
  · exact hs.elim
  · rename_i hops
    have hops':∀ x ∈ o.op.operands,(s.ev x).scp s0.mem.length s0.rows.length=true:=by
      intro x hx
      simp only [Bool.not_eq_true',Bool.not_eq_false] at hops
      exact List.all_eq_true.1 hops x (by simpa using hx)
    have plain:∀ {aZ:List B} {v:SV} {s':St},op1 P { s with fr:=Zbd s0.mem.length s0.rows.length s.fr,mem:=s0.mem,rows:=s0.rows,fl:=s0.mem.length,flr:=s0.rows.length } o=some (aZ,v,s')→v.scp s0.mem.length s0.rows.length=true→(Z3m aZ (k (s.put o.dst v))).sat Γ e0.R Ψ bs r →
        ∃ ent s' r' al',Lex s0 e0 a0 ops (i + 1) (upd ents i ent) s' r' al'∧(k s').sat Γ e0.R Ψ bs r'∧(ent.obj=none→∀ n,ent.val n=ent.val 0) ∧
          (∀ x ∈ o.op.operands,(s.ev x).scp s0.mem.length s0.rows.length=true) ∧
          ∀ (act:Act) (w:World),Cls w0 X w→(∀ x ∈ o.op.operands,act.eval x=(s.ev x).den (e0.at r))→BehW P w0 X o ent act w:=by
      intro aZ v s' h1 hv hs
      obtain ⟨has,hs'⟩:=Z22 hs
      refine ⟨⟨fun _=>v.den (e0.at r),none⟩,_,r,al,h.put ho hu hdl hv,hs',fun _ _=>rfl,hops',?_⟩
      intro act w hw hev K Q hK
      have hrep:=h.rep h0 hX hw (Zbd s0.mem.length s0.rows.length s.fr)
      obtain ⟨_,_,_,_,_,_,e',w',nx,hr,hnx,hrep',hle,hr',hR',hω',_⟩:=Z6h h1 hrep (fun x hx=>(hev x hx).trans (congrArg (SV.den (e0.at r)) (evM (hops' x hx)).symm)) has
      have hlike:=Zmw hle hr' hR' hω' h0
      rw [SV.den_like hlike v hv] at hnx
      exact Z8f hr hnx (hK w' (hw.grow hrep'.below.below) hrep'.below.below)
    split at hs
    · rename_i c hoc
      split at hs
      · rename_i F hcal
        split at hs
        · rename_i fn caps hF
          split at hs
          · exact hs.elim
          · rename_i hcond
            simp only [Bool.or_eq_true,Bool.not_eq_true',not_or,Bool.not_eq_false] at hcond
            obtain ⟨hargsc,hcl⟩:=hcond
            have hoper:o.op.operands=#[F]++c.args:=by rw [hoc]; simp [Op.operands,Call.operands,hcal]
            have hrun:∀ (act:Act) (w:World),(∀ x ∈ o.op.operands,act.eval x=(s.ev x).den (e0.at r))→(execOp act.eval o).run P w=.ok (.enter fn ((c.args.toList.map s.ev++caps.map fun p=>one (.p p.1 p.2)).map (SV.den (e0.at r))).toArray) w:=by
              intro act w hev
              have hevF:act.eval F=.func (.func fn) #[] ((caps.map fun p=>one (.p p.1 p.2)).map (SV.den (e0.at r))).toArray:=by
                rw [hev F (by rw [hoper]; simp),hF]
                simp [SV.den,SW.den,SC.den,one,Function.comp_def]
              rw [Zd6 hcl hoc hcal hevF w]
              congr 2
              apply Array.ext'
              simp only [Array.toList_append,Array.toList_map,List.map_append,List.map_map]
              congr 1
              exact List.map_congr_left fun x hx=>hev x (by rw [hoper]; simp; exact .inr (by simpa using hx))
            have fin:∀ {v:Value},(∀ w,Cls w0 X w→Calls P fn ((c.args.toList.map s.ev++caps.map fun p=>one (.p p.1 p.2)).map (SV.den (e0.at r))).toArray w fun x w'=>x=.returned v∧Below w.heap.size w w') →
                ∀ (act:Act) (w:World),Cls w0 X w→(∀ x ∈ o.op.operands,act.eval x=(s.ev x).den (e0.at r))→BehW P w0 X o ⟨fun _=>v,none⟩ act w:=by
              intro v hc act w hw hev K Q hK
              unfold Oper.wp
              rw [hrun act w hev]
              simp only [Oper.upon_enter]
              refine (hc w hw).mono ?_
              rintro x w' ⟨rfl,hb⟩
              exact hK w' (hw.grow hb) hb
            split at hs
            · rename_i g sum hfs
              obtain ⟨hfn,j,rfl,hg⟩:=Z6i hfs
              simp only [Nat.zero_add] at hs
              split at hs
              · exact hs.elim
              · rename_i hsc
                simp only [Bool.or_eq_true,Bool.not_eq_true',not_or,Bool.not_eq_false,Z18s,Decidable.not_not,ne_eq] at hsc
                obtain ⟨⟨⟨hsc,hgl⟩,hns⟩,hmn⟩:=hsc
                have hmn:sum.m=none:=by
                  cases hh:sum.m with
                  | none=>rfl
                  | some f=>rw [hh] at hmn; simp at hmn
                have hglw:∀ w,Cls w0 X w→Zm8 sum.gl w:=fun w hw=>Zhd hgl (by rw [h.gl]; exact (h0.cls hX hw).glw)
                split at hs
                · rename_i aZ es hfl
                  obtain ⟨has,hs⟩:=Z22 hs
                  simp only [T.sat,hg] at hs
                  obtain ⟨hpre,hs⟩:=hs
                  have hargs:∀ w,Cls w0 X w→Z63 (fun _ ks u n=>SlN w ks u n) sum.ps ((c.args.toList.map s.ev++caps.map fun p=>one (.p p.1 p.2)).map (SV.den (e0.at r))) (es.map (E.den e0.R r)):=fun w hw=>(Z98 (h.rep h0 hX hw _) hfl has).2
                  have hA:=hG sum (List.mem_of_getElem? hg)
                  unfold Sum.okA at hA
                  rw [hmn] at hA
                  obtain ⟨_,hok⟩:=hA
                  have hl:(sum.sem (es.map (E.den e0.R r))).length=Zg sum.rs:=(hok (es.map (E.den e0.R r)) _ w0 (hglw w0 (Cls.refl _ _)) (hargs w0 (Cls.refl _ _)) hpre).1
                  have hlex:=h.more hsc (sum.sem (es.map (E.den e0.R r)))
                  rw [hl] at hlex
                  have hres:(Zjf Zm9 0 sum.rs (Z8 s.nv (Zg sum.rs))).den (e0.at (r++sum.sem (es.map (E.den e0.R r))))=Zrr sum.rs (sum.sem (es.map (E.den e0.R r))):=by
                    rw [Zkc _ _ _ hns,h.nv]
                    congr 1
                    exact Z2f hl
                  have hput:=hlex.put ho hu hdl (Zpb _ _ (mk:=Zm9) 0 sum.rs (Z8 s.nv (Zg sum.rs)) hns)
                  rw [hres] at hput
                  refine ⟨_,_,_,al,hput,hs,fun _ _=>rfl,hops',fin ?_⟩
                  intro w hw
                  rw [← hfn]
                  refine (hok (es.map (E.den e0.R r)) _ w (hglw w hw) (hargs w hw) hpre).2.mono ?_
                  rintro x w' ⟨v,rfl,hv,hb⟩
                  exact ⟨by rw [Zam hns hv],hb⟩
                · exact hs.elim
            · split at hs
              · rename_i Fn hFn
                split at hs
                · rename_i body rs hb hrs
                  obtain ⟨es,hk,hT⟩:=Zuy hs
                  split at hk
                  · rename_i hes
                    simp only [Z18r,Z18s] at hes
                    have hput:=h.put ho hu hdl (Zpb _ _ (mk:=Zm9) 0 rs es hes.2)
                    rw [Zkc _ _ _ hes.2] at hput
                    refine ⟨_,_,_,al,hput,hk,fun _ _=>rfl,hops',fin ?_⟩
                    intro w hw
                    have hrep:=h.rep h0 hX hw s.fr
                    refine (Zga (Ψ:=fun ys=>ys=es.map (E.den e0.R r)) (bs:=List.replicate s.dp (fun _=>True)) hih hrep (by simp) hFn hb (hT _ _ rfl)).mono ?_
                    rintro x w' ⟨ys,v,rfl,rfl,hv,hbel⟩
                    exact ⟨by rw [Zam hes.2 hv]; rfl,hbel.below⟩
                  · exact hk.elim
                · exact hs.elim
              · exact hs.elim
        · exact hs.elim
      · exact hs.elim
      · split at hs
        · rename_i aZ v s' h1
          split at hs
          · rename_i hv
            exact plain h1 hv hs
          · exact hs.elim
        · exact hs.elim
      · exact hs.elim
    · exact hs.elim
    · split at hs
      · rename_i aZ v s' h1
        obtain ⟨has,hs'⟩:=Z22 hs
        split at hs'
        · split at hs'
          · rename_i hv
            refine ⟨⟨fun _=>v.den (e0.at r),none⟩,_,r,al,h.put ho hu hdl hv,hs',fun _ _=>rfl,hops',?_⟩
            intro act w hw hev K Q hK
            have hrep:=h.rep h0 hX hw (Zbd s0.mem.length s0.rows.length s.fr)
            obtain ⟨_,_,_,_,_,_,e',w',nx,hr,hnx,hrep',hle,hr',hR',hω',_⟩:=Z6h h1 hrep (fun x hx=>(hev x hx).trans (congrArg (SV.den (e0.at r)) (evM (hops' x hx)).symm)) has
            have hlike:=Zmw hle hr' hR' hω' h0
            rw [SV.den_like hlike v hv] at hnx
            exact Z8f hr hnx (hK w' (hw.grow hrep'.below.below) hrep'.below.below)
          · exact hs'.elim
        · rename_i b hdrop
          split at hs'
          · rename_i hbc
            simp only [Z18r] at hbc
            have hblen:s'.mem.length=s0.mem.length + 1∧s'.mem[s0.mem.length]?=some b:=by
              have h2:s'.mem[s0.mem.length]?=some b:=by
                have:=congrArg (fun l=>l[0]?) hdrop
                simpa using this
              have h3:=congrArg List.length hdrop
              simp only [List.length_drop,List.length_cons,List.length_nil] at h3
              exact ⟨by omega,h2⟩
            have gen:∀ {mk:Nat→SC} {val:Nat→Value},((∀ n,mk n=.p n 0)∨∃ l c,∀ n,mk n=.s n 0 l c)→(∀ (e:Env) n,(mk n).den e=val (e.β.getD n 0))→v=one (mk s0.mem.length) →
                (k (({ s with mem:=s.mem++[b] }:St).put o.dst (one (mk s.mem.length)))).sat Γ e0.R Ψ bs r →
                ∃ ent s' r' al',Lex s0 e0 a0 ops (i + 1) (upd ents i ent) s' r' al'∧(k s').sat Γ e0.R Ψ bs r'∧(ent.obj=none→∀ n,ent.val n=ent.val 0) ∧
                  (∀ x ∈ o.op.operands,(s.ev x).scp s0.mem.length s0.rows.length=true) ∧
                  ∀ (act:Act) (w:World),Cls w0 X w→(∀ x ∈ o.op.operands,act.eval x=(s.ev x).den (e0.at r))→BehW P w0 X o ent act w:=by
              intro mk val hmk hval hv hs
              refine ⟨_,_,r,_,h.new ho hu hdl hbc.1 hbc.2 hmk hval,hs,fun hh=>(by cases hh),hops',?_⟩
              intro act w hw hev K Q hK
              have hrep:=h.rep h0 hX hw (Zbd s0.mem.length s0.rows.length s.fr)
              obtain ⟨_,_,_,hfl,_,_,e',w',nx,hr,hnx,hrep',hle,hr',hR',hω',_⟩:=Z6h h1 hrep (fun x hx=>(hev x hx).trans (congrArg (SV.den (e0.at r)) (evM (hops' x hx)).symm)) has
              have hlike:=Zmw hle hr' hR' hω' h0
              have hblk:=hrep'.blk _ b hblen.2 hbc.1
              have hown:w.heap.size≤e'.β.getD s0.mem.length 0:=(hrep'.own _ b hblen.2 hbc.1 (by rw [hfl]; exact Nat.le_refl _)).elim id (fun hh=>hh.elim)
              rw [Z21 hlike hbc.2] at hblk
              have hvd:v.den e'=val (e'.β.getD s0.mem.length 0):=by rw [hv]; exact hval e' _
              rw [hvd] at hnx
              exact Z8f hr hnx (hK _ w' (hw.grow hrep'.below.below) hrep'.below.below hown hblk)
            split at hs'
            · rename_i n
              split at hs'
              · rename_i hn
                subst hn
                exact gen (mk:=fun n=>.p n 0) (val:=fun n=>.pointer (some ⟨n,0,none⟩)) (.inl fun _=>rfl) (fun _ _=>rfl) rfl hs'
              · exact hs'.elim
            · rename_i n l c
              split at hs'
              · rename_i hn
                subst hn
                exact gen (mk:=fun n=>.s n 0 l c) (val:=fun n=>.slice (some ⟨n,0,none⟩) l c) (.inr ⟨l,c,fun _=>rfl⟩) (fun _ _=>rfl) rfl hs'
              · exact hs'.elim
            · exact hs'.elim
          · exact hs'.elim
        · exact hs'.elim
      · exact hs.elim
end
end Go.Sx
namespace Go.Sx
open Go.RowKit
section
variable {P:Program} {Γ:List Sum} {Ψ:List Int→Prop} {bs:List (List Int→Prop)} {ops:Array Oper}
variable {s0:St} {e0:Env} {a0:Array Value} {W0:Bas} {w0:World}
theorem Zpc {s:St} {r:List Int} {x:List SV} (hx:x=s.fr∨∃ t b v,Zfm s t=some b∧b.den e0.R r=v∧x=s.fr.set t (one (.b (.c v)))) (t:Nat) :
  (x.getD t Z5).den (e0.at r)=(s.fr.getD t Z5).den (e0.at r)∧((∃ b,s.fr.getD t Z5=one (.b b))→∃ b,x.getD t Z5=one (.b b)):=by
 rcases hx with rfl | ⟨t',b,v,hb,hv,rfl⟩
 ·exact ⟨rfl,id⟩
 ·obtain ⟨ht,hs⟩:=Z7e hb
  rw [Z23]
  split
  ·rename_i hc
   obtain ⟨rfl,_⟩:=hc
   refine ⟨?_,fun _=>⟨_,rfl⟩⟩
   rw [hs]
   show Value.bool v=Value.bool (b.den e0.R r)
   rw [hv]
  ·exact ⟨rfl,id⟩
theorem Z2q {o:Oper} {t:Tmp} (h:.tmp t ∈ o.op.operands):t ∈ o.looksAt ops :=
 List.mem_append_left _ (List.mem_filterMap.2 ⟨.tmp t,by simpa using h,rfl⟩)
theorem Zdd {o:Oper} {j:Nat} {want:Bool} {t:Tmp} (hg:o.guard=some (j,want)) (hd:(ops[j]?).bind (·.dst)=some t):t ∈ o.looksAt ops:=by
 refine List.mem_append_right _ ?_
 simp [hg,hd]
theorem Z8h {s:St} {o:Oper} {x:Bool} (hw:Zaf ops s o=some x):(o.guard=none∧x=true)∨∃ j want t y,o.guard=some (j,want)∧(ops[j]?).bind (·.dst)=some t∧(s.fr.getD t Z5=one (.b (.c y))∧x=(y == want)∨s.fr.getD t Z5=Z5∧x=false):=by
 unfold Zaf at hw
 split at hw
 ·rename_i hg
  exact .inl ⟨hg,by simpa using hw.symm⟩
 ·rename_i j want hg
  split at hw
  ·rename_i t ht
   split at hw
   ·split at hw
    ·rename_i y hy
     simp only [Option.some.injEq] at hw
     exact .inr ⟨j,want,t,y,hg,ht,.inl ⟨hy,hw.symm⟩⟩
    ·rename_i hy
     simp only [Option.some.injEq] at hw
     exact .inr ⟨j,want,t,true,hg,ht,.inr ⟨hy,hw.symm⟩⟩
    ·cases hw
   ·cases hw
  ·cases hw
structure Zke (sf s0:St):Prop where
 len:sf.mem.length=s0.mem.length
 rows:sf.rows=s0.rows
 fr:sf.fr=s0.fr
 nx:sf.nx=s0.nx
 fl:sf.fl=s0.fl
 flr:sf.flr=s0.flr
 gl:sf.gl=s0.gl
 hs:sf.hs=s0.hs
 dp:sf.dp=s0.dp
 cells:∀ b ∈ sf.mem,∃ b' ∈ s0.mem,b.cells=b'.cells
theorem Lex.swap {sf:St} {i:Nat} {ents:Nat→Ent} {s:St} {r:List Int} {al:List Nat} (ht:Zke sf s0) (h:Lex s0 e0 a0 ops i ents s r al):Lex sf e0 a0 ops i ents (Z15m sf s0 s) r al:=by
 obtain ⟨news,hm,hn⟩:=h.mem
 have hd:s.mem.drop s0.mem.length=news:=by rw [hm]; simp
 refine ⟨h.ext,h.nv,h.nx.trans ht.nx.symm,h.fl.trans ht.fl.symm,h.flr.trans ht.flr.symm,h.gl.trans ht.gl.symm,h.hs.trans ht.hs.symm,h.dp.trans ht.dp.symm,h.rows.trans ht.rows.symm,⟨news,by show sf.mem++s.mem.drop s0.mem.length=_; rw [hd],hn⟩,by rw [ht.fr]; exact h.len,?_,?_,?_,?_,?_,?_,h.alAll,h.alND⟩
 ·intro b hb
  obtain ⟨b',h1,h2⟩:=ht.cells b hb
  rw [h2]; exact h.memd b' h1
 ·rw [ht.rows]; exact h.rowd
 ·rw [ht.hs]; exact h.hsd
 ·rw [ht.len,ht.rows]; exact h.slots
 ·rw [ht.len,ht.rows]; exact h.nscp
 ·intro j i' hj
  obtain ⟨h1,b,h2,h3⟩:=h.alOK j i' hj
  rw [ht.len,ht.rows]
  refine ⟨h1,b,?_,h3⟩
  show (sf.mem++s.mem.drop s0.mem.length)[s0.mem.length + j]?=some b
  rw [List.getElem?_append_right (by rw [ht.len]; omega),List.getElem?_drop,ht.len]
  rw [show s0.mem.length + (s0.mem.length + j - s0.mem.length)=s0.mem.length + j by omega]
  exact h2
theorem Zke.symm' {sf:St} (ht:Zke sf s0) (hc:∀ b ∈ s0.mem,∃ b' ∈ sf.mem,b.cells=b'.cells):Zke s0 sf :=
 ⟨ht.len.symm,ht.rows.symm,ht.fr.symm,ht.nx.symm,ht.fl.symm,ht.flr.symm,ht.gl.symm,ht.hs.symm,ht.dp.symm,hc⟩
theorem Z5l {X:Nat→Prop} (hG:Gok P Γ) {ih:Code→St→Z80→T} (hih:IH P Γ ih) (h0:Rep e0 W0 s0 w0) (hX:XOK e0 W0 s0 X) {sf:St} {sg:Nat→Bool} (hf:Rep e0 W0 sf w0) (ht:Zke sf s0) (ht':Zke s0 sf) {N:Nat}
    (hu:∀ i j t,j < i→i < N→(ops[j]?).bind (·.dst)=some t→(ops[i]?).bind (·.dst) ≠ some t) (hdl:∀ i o d,i < N→ops[i]?=some o→o.dst=some d→d < s0.fr.length) :
    ∀ (l:List Oper) (i:Nat),(∀ j,j < l.length→l[j]?=ops[i + j]?)→i + l.length=N→∀ (ents:Nat→Ent) (s:St) (r:List Int) (al:List Nat) (k:St→T),Lex s0 e0 a0 ops i ents s r al →
      (∀ i',i' < i→Zhf P (fun w=>Cls w0 (fun k=>sg i'=false∧X k) w) ops ents a0 i')→(Z8b P Γ ih ops sf s0 sg i l s k).sat Γ e0.R Ψ bs r →
      ∃ ents' s' r' al',Lex s0 e0 a0 ops N ents' s' r' al'∧(∀ i',i' < N→Zhf P (fun w=>Cls w0 (fun k=>sg i'=false∧X k) w) ops ents' a0 i')∧(k s').sat Γ e0.R Ψ bs r'
  | [],i,_,hN,ents,s,r,al,k,hl,hp,hs=>by
    simp only [List.length_nil,Nat.add_zero] at hN
    subst hN
    exact ⟨ents,s,r,al,hl,hp,hs⟩
  | o::l,i,hlo,hN,ents,s,r,al,k,hl,hp,hs=>by
    simp only [List.length_cons] at hN
    have ho:ops[i]?=some o:=by have:=hlo 0 (by simp); simpa using this.symm
    have hui:∀ j t,j < i→(ops[j]?).bind (·.dst)=some t→(ops[i]?).bind (·.dst) ≠ some t:=fun j t hj=>hu i j t hj (by omega)
    have hdi:∀ d,o.dst=some d→d < s0.fr.length:=fun d=>hdl i o d (by omega) ho
    have hlo':∀ j,j < l.length→l[j]?=ops[i + 1 + j]?:=fun j hj=>by
      have:=hlo (j + 1) (by simp; omega)
      simpa [Nat.add_assoc,Nat.add_comm 1 j] using this
    simp only [Z8b] at hs
    obtain ⟨x,hs1,hx⟩:=Zg7 hs
    have hl1:=hl.fork hx
    split at hs1
    · rename_i hw
      obtain ⟨y,hs2,hy⟩:=Zg7 hs1
      have hl2:=hl1.fork hy
      have hstep:∃ ent s' r' al',Lex s0 e0 a0 ops (i + 1) (upd ents i ent) s' r' al'∧(Z8b P Γ ih ops sf s0 sg (i + 1) l s' k).sat Γ e0.R Ψ bs r'∧(ent.obj=none→∀ n,ent.val n=ent.val 0) ∧
          (∀ x ∈ o.op.operands,(St.ev { s with fr:=y } x).scp s0.mem.length s0.rows.length=true) ∧
          ∀ (act:Act) (w:World),Cls w0 (fun k=>sg i=false∧X k) w→(∀ x ∈ o.op.operands,act.eval x=(St.ev { s with fr:=y } x).den (e0.at r))→BehW P w0 (fun k=>sg i=false∧X k) o ent act w:=by
        split at hs2
        · rename_i hsg
          have hXf:XOK e0 W0 sf (fun k=>sg i=false∧X k):=⟨fun _ _ _ _ h=>by rw [hsg] at h; exact absurd h.1 (by simp),fun _ _ _ _ _ _ h=>by rw [hsg] at h; exact absurd h.1 (by simp),fun _ h=>by rw [hsg] at h; exact absurd h.1 (by simp)⟩
          obtain ⟨ent,s',r',al',hl3,hs3,hval,hopsc,hbeh⟩:=Zkd hG hih hf hXf (hl2.swap ht) ho hui (by rw [ht.fr]; exact hdi) hs2
          rw [ht.len,ht.rows] at hopsc
          exact ⟨ent,_,r',al',hl3.swap ht',hs3,hval,hopsc,hbeh⟩
        · rename_i hsg
          have hsg':sg i=false:=by simpa using hsg
          have hXX:(fun k=>sg i=false∧X k)=X:=by funext k; simp [hsg']
          obtain ⟨ent,s',r',al',hl3,hs3,hval,hopsc,hbeh⟩:=Zkd hG hih h0 hX hl2 ho hui hdi hs2
          exact ⟨ent,s',r',al',hl3,hs3,hval,hopsc,by rw [hXX]; exact hbeh⟩
      obtain ⟨ent,s',r',al',hl3,hs3,hval,hopsc,hbeh⟩:=hstep
      refine Z5l hG hih h0 hX hf ht ht' hu hdl l (i + 1) hlo' (by omega) (upd ents i ent) s' r' al' k hl3 ?_ hs3
      intro i' hi'
      by_cases hii:i'=i
      · subst hii
        refine ⟨o,ho,by rw [Z4j]; exact hval,o.looksAt ops,fun t=>((y.getD t Z5).den (e0.at r)),fun _ h=>h,?_,?_⟩
        · intro t ht
          rw [Zal (fun j hj=>Z6m _ _ _ (Nat.ne_of_lt hj))]
          refine hl2.slots t ?_
          simp only [Oper.looksAt,List.mem_append] at ht
          rcases ht with ht | ht
          · obtain ⟨op,hop,hopt⟩:=List.mem_filterMap.1 ht
            cases op with
            | tmp t' =>
              simp only [Option.some.injEq] at hopt
              subst hopt
              exact hopsc (.tmp t') (by simpa using hop)
            | _=>simp at hopt
          · rcases Z8h hw with ⟨hg,_⟩ | ⟨j,want,t',yy,hg,hd,⟨hsl,_⟩ | ⟨_,hf⟩⟩
            · rw [hg] at ht; simp at ht
            · rw [hg] at ht
              simp only [hd,Option.toList_some,List.mem_singleton] at ht
              subst ht
              obtain ⟨b,hb⟩:=(Zpc (e0:=e0) hy t).2 ⟨_,hsl⟩
              show (y.getD t Z5).scp _ _=true
              rw [hb]
              rfl
            · cases hf
        · rw [Z4j]
          intro act w hCw _ _ hlook K Q hK
          have hwt:Region.wanted o (yielded ops act.tmps)=true:=by
            unfold Region.wanted
            rcases Z8h hw with ⟨hg,_⟩ | ⟨j,want,t',yy,hg,hd,⟨hsl,hyy⟩ | ⟨_,hf⟩⟩
            · rw [hg]
            · rw [hg]
              have hb:act.tmps.getD t' undef=.bool yy:=by
                rw [hlook t' (Zdd hg hd)]
                show (y.getD t' Z5).den (e0.at r)=_
                rw [(Zpc (e0:=e0) hy t').1]
                show (x.getD t' Z5).den _=_
                have:x.getD t' Z5=one (.b (.c yy)):=hsl
                rw [this]
                rfl
              simp only [Z8e,hd,Option.bind_some,hb,asB]
              have:=hyy.symm
              simp only [beq_iff_eq] at this ⊢
              rw [this]
            · cases hf
          rw [if_pos hwt]
          refine hbeh act w hCw (fun op hop=>?_) K Q ?_
          · cases op with
            | tmp t=>exact hlook t (Z2q hop)
            | const v=>simp [Act.eval,St.ev,SV.den]
            | global g=>rfl
            | func f=>rfl
          · cases hob:ent.obj with
            | none=>rw [hob] at hK; exact hK
            | some ob=>rw [hob] at hK; exact hK
      · exact (hp i' (by omega)).congr (fun j hj=>Z6m _ _ _ (by omega))
    · rename_i hw
      have hput:=hl1.put ho hui hdi (v:=Z5) rfl
      refine Z5l hG hih h0 hX hf ht ht' hu hdl l (i + 1) hlo' (by omega) _ _ r al k hput ?_ hs1
      intro i' hi'
      by_cases hii:i'=i
      · subst hii
        rcases Z8h hw with ⟨_,hf⟩ | ⟨j,want,t',yy,hg,hd,hor⟩
        · cases hf
        · have hsl':x.getD t' Z5=one (.b (.c yy))∧false=(yy == want)∨x.getD t' Z5=Z5:=by
            rcases hor with h | h
            · exact .inl h
            · exact .inr h.1
          refine ⟨o,ho,by rw [Z4j]; exact fun _ _=>rfl,[t'],fun t=>(x.getD t Z5).den (e0.at r),fun t ht=>by simp only [List.mem_singleton] at ht; subst ht; exact Zdd hg hd,?_,?_⟩
          · intro t ht
            simp only [List.mem_singleton] at ht
            subst ht
            rw [Zal (fun j hj=>Z6m _ _ _ (Nat.ne_of_lt hj))]
            refine hl1.slots t ?_
            show (x.getD t Z5).scp _ _=true
            rcases hsl' with ⟨hsl',_⟩ | hsl' <;> rw [hsl'] <;> rfl
          · rw [Z4j]
            intro act w hCw _ _ hlook K Q hK
            have hwt:¬ Region.wanted o (yielded ops act.tmps)=true:=by
              unfold Region.wanted
              rw [hg]
              have hb0:act.tmps.getD t' undef=(x.getD t' Z5).den (e0.at r):=hlook t' (by simp)
              rcases hsl' with ⟨hsl',hyy⟩ | hsl'
              · have hb:act.tmps.getD t' undef=.bool yy:=by rw [hb0,hsl']; rfl
                simp only [Z8e,hd,Option.bind_some,hb,asB]
                intro hh
                simp only [beq_iff_eq,Option.some.injEq] at hh
                subst hh
                simp at hyy
              · have hb:act.tmps.getD t' undef=undef:=by rw [hb0,hsl']; rfl
                simp only [Z8e,hd,Option.bind_some,hb]
                intro hh
                have:asB undef=none:=rfl
                rw [this] at hh
                cases hh
            rw [if_neg hwt]
            exact hK w hCw (Below.refl _ _)
      · exact (hp i' (by omega)).congr (fun j hj=>Z6m _ _ _ (by omega))
    · exact hs1.elim
theorem SC.scp_of_sc {nv nb ng:Nat}:∀ {c:SC},c.sc nv nb ng=true→c.scp nb ng=true:=SC.sc_scp
theorem SW.scp_of_sc {nv nb ng:Nat}:∀ {c:SW},c.sc nv nb ng=true→c.scp nb ng=true:=by
 intro c h
 cases c with
 | o c=>exact SC.scp_of_sc h
 | a cs=>exact List.all_eq_true.2 fun x hx=>SC.scp_of_sc (List.all_eq_true.1 h x hx)
theorem SV.scp_of_sc {nv nb ng nx:Nat}:∀ {c:SV},c.sc nv nb ng nx=true→c.scp nb ng=true:=SV.sc_scp
theorem St.scp_of_sc {s:St} (h:s.sc=true):s.scp=true:=St.sc_scp h
theorem Zde (D:List Nat):∀ (l:List Blk) (k n:Nat),(Zd0 D k l)[n]?=(l[n]?).map fun b=>if D.contains (k + n) then { b with live:=false } else b
 | [],k,n=>by simp [Zd0]
 | b::l,k,0=>by simp [Zd0]
 | b::l,k,n + 1=>by
  simp only [Zd0,Z18f]
  rw [Zde D l (k + 1) n]
  simp only [Nat.add_assoc,Nat.add_comm 1 n]
theorem Z32 {D:List Nat} {l:List Blk} {n:Nat} {b:Blk} (h:(Zd0 D 0 l)[n]?=some b):∃ b',l[n]?=some b'∧b.ty=b'.ty∧b.cells=b'.cells∧(b.live=true→b'.live=true∧n ∉ D∧b=b'):=by
 rw [Zde,Option.map_eq_some_iff] at h
 obtain ⟨b',h1,rfl⟩:=h
 refine ⟨b',h1,?_⟩
 simp only [Nat.zero_add]
 split
 ·exact ⟨rfl,rfl,fun h=>by cases h⟩
 ·rename_i hn
  exact ⟨rfl,rfl,fun h=>⟨h,by simpa using hn,rfl⟩⟩
theorem Z6o (D:List Nat):∀ (l:List Blk) (k:Nat),(Zd0 D k l).length=l.length
 | [],_=>rfl
 | _::l,k=>by simp [Zd0,Z6o D l (k + 1)]
theorem Rep.killM {e:Env} {sB:St} {w:World} (h:Rep e W0 sB w) (D:List Nat):Rep e W0 { sB with mem:=Zd0 D 0 sB.mem } w:=by
 refine ⟨h.below,by simp [Z6o,h.nb],h.ng,h.nv,h.nx,?_,?_,?_,h.row,h.rown,h.rsep,?_,h.gl,h.arg⟩
 ·intro n b hb hl
  obtain ⟨b',h1,_,_,h4⟩:=Z32 hb
  obtain ⟨h5,_,rfl⟩:=h4 hl
  exact h.blk n b h1 h5
 ·intro n b hb hl
  obtain ⟨b',h1,_,_,h4⟩:=Z32 hb
  obtain ⟨h5,_,rfl⟩:=h4 hl
  exact h.own n b h1 h5
 ·intro n m b c hb hc hlb hlc
  obtain ⟨b',h1,_,_,h4⟩:=Z32 hb
  obtain ⟨h5,_,rfl⟩:=h4 hlb
  obtain ⟨c',h1',_,_,h4'⟩:=Z32 hc
  obtain ⟨h5',_,rfl⟩:=h4' hlc
  exact h.sep n m b c h1 h1' h5 h5'
 ·intro n m b c hb hc hlb hlc
  obtain ⟨b',h1,_,_,h4⟩:=Z32 hb
  obtain ⟨h5,_,rfl⟩:=h4 hlb
  exact h.brs n m b c h1 hc h5 hlc
theorem Lex.done {N:Nat} {X:Nat→Prop} {sB:St} {ents:Nat→Ent} {s:St} {r:List Int} {al:List Nat} (h:Lex s0 e0 a0 ops N ents s r al) (hB:Rep e0 W0 sB w0) (h0:Rep e0 W0 s0 w0) (hX:XOK e0 W0 s0 X)
  (hsB:sB.mem.length=s0.mem.length∧sB.rows=s0.rows∧sB.fl=s0.fl∧sB.flr=s0.flr) (ha0:a0.size=s0.fr.length)
  (huniq:∀ i j t,i < N→j < N→(ops[i]?).bind (·.dst)=some t→(ops[j]?).bind (·.dst)=some t→i=j)
  (hval:∀ i,i < N→(ents i).obj=none→∀ n,(ents i).val n=(ents i).val 0)
  {act:Act} {w:World} {γ:Nat→Nat} (hw:Cls w0 X w) (hd:act.defers=[]) (hsz:act.tmps.size=a0.size)
  (hγ:∀ i,i ∈ al→w0.heap.size≤γ i)
  (hγu:∀ i j,i < N→j < N→(ents i).obj.isSome=true→(ents j).obj.isSome=true→γ i=γ j→i=j)
  (hslot:∀ t,act.tmps.getD t undef=match Zo ops N t with | some i=>(ents i).val (γ i) | none=>a0.getD t undef)
  {memF:List Blk} (hmF:memF.length=s.mem.length) (hlv:∀ n (b:Blk),memF[n]?=some b→b.live=true→n < s0.mem.length→∃ b',sB.mem[n]?=some b'∧b'.live=true)
  (hblk:∀ n (b:Blk),memF[n]?=some b→b.live=true→w.heap[(e0.β++al.map γ).getD n 0]?=some (.cells (b.cells.map (SC.den { e0 with r:=r,β:=e0.β++al.map γ })).toArray b.ty (0,0))) :
  Rel { e0 with r:=r,β:=e0.β++al.map γ } W0 { s with mem:=memF } act w∧Env.le e0 { e0 with r:=r,β:=e0.β++al.map γ }:=by
 obtain ⟨hsBm,hsBr,hsBf,hsBfr⟩:=hsB
 obtain ⟨x,hx⟩:=h.ext
 obtain ⟨news,hmem,hnl⟩:=h.mem
 have hml:s.mem.length=s0.mem.length + al.length:=by rw [hmem]; simp [hnl]
 have hle:Env.le e0 { e0 with r:=r,β:=e0.β++al.map γ }:=⟨x,al.map γ,[],[],hx,rfl,by simp,by simp,rfl⟩
 have hlike:Env.like s0.mem.length s0.rows.length (e0.at r) { e0 with r:=r,β:=e0.β++al.map γ } :=
  ⟨rfl,rfl,rfl,fun n hn=>Z12 _ _ _ _ (by show n < e0.β.length; rw [h0.nb]; exact hn),fun _ _=>rfl⟩
 have hβnew:∀ (j i':Nat),al[j]?=some i'→(e0.β++al.map γ).getD (s0.mem.length + j) 0=γ i':=by
  intro j i' hj
  rw [← h0.nb]
  simp [List.getD,List.getElem?_append_right,hj]
 have hβold:∀ n,n < s0.mem.length→(e0.β++al.map γ).getD n 0=e0.β.getD n 0:=fun n hn=>hlike.β n hn
 have hcases:∀ n (b:Blk),memF[n]?=some b→b.live=true→(n < s0.mem.length∧∃ b',sB.mem[n]?=some b'∧b'.live=true)∨∃ (j i':Nat),n=s0.mem.length + j∧al[j]?=some i':=by
  intro n b hb hl
  rcases Nat.lt_or_ge n s0.mem.length with hn | hn
  ·exact .inl ⟨hn,hlv n b hb hl hn⟩
  ·have hlt:=(List.getElem?_eq_some_iff.1 hb).1
   exact .inr ⟨n - s0.mem.length,al[n - s0.mem.length]'(by omega),by omega,List.getElem?_eq_getElem (by omega)⟩
 have hnewb:∀ (j i':Nat),al[j]?=some i'→i' < N∧w0.heap.size≤γ i'∧(ents i').obj.isSome=true:=by
  intro j i' hj
  obtain ⟨h1,b,h2,_,h4,h5,_⟩:=h.alOK j i' hj
  exact ⟨h1,hγ i' (List.mem_of_getElem? hj),by rw [h5]; rfl⟩
 have hold:∀ n (b:Blk),sB.mem[n]?=some b→b.live=true→e0.β.getD n 0 < w0.heap.size:=fun n b hb hl=>Z1g (hB.blk n b hb hl)
 have hrw:=h0.cls hX hw
 refine ⟨⟨⟨hrw.below,?_,?_,?_,?_,hblk,?_,?_,?_,?_,?_,?_,by show GlX s.gl W0; rw [h.gl]; exact h0.gl,?_⟩,?_,hd⟩,hle⟩
 ·show (e0.β++al.map γ).length=memF.length
  simp [h0.nb,hml,hmF]
 ·show e0.σ.length=s.rows.length
  rw [h.rows]; exact h0.ng
 ·exact h.nv.symm
 ·show e0.ω.length=s.nx
  rw [h.nx]; exact h0.nx
 ·intro n b hb hl hfl
  rcases hcases n b hb hl with ⟨hn,b',hb',hl'⟩ | ⟨j,i',rfl,hj⟩
  ·show W0.may ((e0.β++al.map γ).getD n 0)
   rw [hβold n hn]
   exact hB.own n b' hb' hl' (by rw [hsBf,← h.fl]; exact hfl)
  ·show W0.may ((e0.β++al.map γ).getD (s0.mem.length + j) 0)
   rw [hβnew j i' hj]
   obtain ⟨_,h3,_⟩:=hnewb j i' hj
   exact .inl (Nat.le_trans h0.below.size h3)
 ·intro n m b c hb hc hlb hlc heq
  have heq':(e0.β++al.map γ).getD n 0=(e0.β++al.map γ).getD m 0:=heq
  rcases hcases n b hb hlb with ⟨hn,b',hb',hl'⟩ | ⟨j,i',rfl,hj⟩ <;> rcases hcases m c hc hlc with ⟨hm,c',hc',hl''⟩ | ⟨j',i'',rfl,hj'⟩
  ·rw [hβold n hn,hβold m hm] at heq'
   exact hB.sep n m b' c' hb' hc' hl' hl'' heq'
  ·rw [hβold n hn,hβnew j' i'' hj'] at heq'
   have:=hold n b' hb' hl'
   obtain ⟨_,h3,_⟩:=hnewb j' i'' hj'
   omega
  ·rw [hβold m hm,hβnew j i' hj] at heq'
   have:=hold m c' hc' hl''
   obtain ⟨_,h3,_⟩:=hnewb j i' hj
   omega
  ·rw [hβnew j i' hj,hβnew j' i'' hj'] at heq'
   obtain ⟨h1,_,h5⟩:=hnewb j i' hj
   obtain ⟨h1',_,h5'⟩:=hnewb j' i'' hj'
   have:=hγu i' i'' h1 h1' h5 h5' heq'
   subst this
   have hjj:j=j':=by
    have hl1:=(List.getElem?_eq_some_iff.1 hj).1
    exact (List.getElem?_inj hl1 h.alND).1 (hj.trans hj'.symm)
   rw [hjj]
 ·intro n b hb hl
  have hb':s0.rows[n]?=some b:=by rw [← h.rows]; exact hb
  have h1:=hrw.row n b hb' hl
  show Zs w b.ty b.ks ((G.o n).val e0) (b.c.den e0.R r)
  rw [h.rowd b (List.mem_of_getElem? hb')]
  exact h1
 ·intro n b hb hl hfl
  have hb':s0.rows[n]?=some b:=by rw [← h.rows]; exact hb
  exact h0.rown n b hb' hl (by rw [← h.flr]; exact hfl)
 ·intro n m b c k hb hc
  have hb':s0.rows[n]?=some b:=by rw [← h.rows]; exact hb
  have hc':s0.rows[m]?=some c:=by rw [← h.rows]; exact hc
  exact h0.rsep n m b c k hb' hc'
 ·intro n m b c hb hc hlb hlc
  have hc':s0.rows[m]?=some c:=by rw [← h.rows]; exact hc
  rcases hcases n b hb hlb with ⟨hn,b',hb',hl'⟩ | ⟨j,i',rfl,hj⟩
  ·show Z6 ((G.o m).val e0) ≠ some ((e0.β++al.map γ).getD n 0)
   rw [hβold n hn]
   exact hB.brs n m b' c hb' (by rw [hsBr]; exact hc') hl' hlc
  ·show Z6 ((G.o m).val e0) ≠ some ((e0.β++al.map γ).getD (s0.mem.length + j) 0)
   rw [hβnew j i' hj]
   intro hk
   have:=(h0.row m c hc' hlc).blk_lt hk
   obtain ⟨_,h3,_⟩:=hnewb j i' hj
   omega
 ·intro i ks c hi
  have hi':s.hs[i]?=some (ks,c):=hi
  rw [h.hs] at hi'
  show SlX W0 ks ((G.a i).val e0) (c.den e0.R r)
  rw [show c.den e0.R r=c.den e0.R e0.r from h.hsd (ks,c) (List.mem_of_getElem? hi')]
  exact h0.arg i ks c hi'
 ·have key:∀ t,act.tmps.getD t undef=(s.fr.getD t Z5).den { e0 with r:=r,β:=e0.β++al.map γ }:=by
   intro t
   rw [hslot t]
   cases hsc:(s.fr.getD t Z5).scp s0.mem.length s0.rows.length with
   | true =>
    rw [SV.den_like hlike _ hsc]
    have hl:=h.slots t hsc
    unfold Zms at hl
    cases hwr:Zo ops N t with
    | none =>
     rw [hwr] at hl
     simpa using hl
    | some j =>
     rw [hwr] at hl
     dsimp only at hl ⊢
     split at hl
     ·rename_i hob
      rw [hval j (Zj hwr).1 (by simpa using hob) (γ j)]
      simpa using hl
     ·cases hl
   | false =>
    obtain ⟨j,i',hj,hdt⟩:=h.nscp t hsc
    obtain ⟨h1,b,h2,_,h4,h5,mk,h6,h7,h8⟩:=h.alOK j i' hj
    rw [Z45 h1 hdt (fun k hk hkd=>huniq k i' t hk h1 hkd hdt),h8 t hdt]
    show _=(mk (s0.mem.length + j)).den _
    rw [h7]
    show _=(ents i').val ((e0.β++al.map γ).getD (s0.mem.length + j) 0)
    rw [hβnew j i' hj]
  apply Array.ext'
  apply List.ext_getElem?
  intro t
  have hlen:act.tmps.toList.length=s.fr.length:=by simp [hsz,ha0,h.len]
  by_cases ht:t < s.fr.length
  ·have hk:=key t
   show act.tmps.toList[t]?=(s.fr.map _)[t]?
   simp only [List.getElem?_map]
   rw [List.getElem?_eq_getElem (by omega),List.getElem?_eq_getElem ht]
   simp only [Option.map_some,Option.some.injEq]
   have h1:act.tmps.getD t undef=act.tmps.toList[t]'(by omega):=by
    have:t < act.tmps.size:=by rw [hsz,ha0,← h.len]; exact ht
    simp [Array.getD,this]
   have h2:s.fr.getD t Z5=s.fr[t]:=by simp [List.getD,ht]
   rw [← h1,hk,h2]
  ·show act.tmps.toList[t]?=(s.fr.map _)[t]?
   rw [List.getElem?_eq_none (by omega),List.getElem?_eq_none (by simp; omega)]
end
end Go.Sx
namespace Go.Sx
open Go.RowKit
section
variable {P:Program} {ops:Array Oper} {s0 sB:St} {e0:Env} {a0:Array Value} {W0:Bas} {w0:World} {ents:Nat→Ent} {s:St} {r:List Int} {al:List Nat} {X:List Nat} {m0 g0:Nat}
structure Lt (P:Program) (X:List Nat) (m0 g0:Nat) (o:Oper) (s s':St) (t:TypeId) (ta:Tmp) (x:Operand) (n off:Nat) (y:SW) (b:Blk):Prop where
 op:o.op=.store t (.tmp ta) x
 slot:s.fr.getD ta Z5=.w (.o (.p n off))
 ev:s.ev x=.w y
 blk:s.mem[n]?=some b
 guard:o.guard=none
 dst:o.dst=none
 at':m0≤n∨n ∈ X
 live:b.live=true
 info:(P.info? t).isSome=true
 fl:s.fl≤n
 size:y.cells.length=P.cellsOf t
 off':off + y.cells.length≤b.cells.length
 one:y.cells.all SC.one=true
 scp:y.scp m0 g0=true
 eq:s'={ s with mem:=s.mem.set n { b with cells:=Z61 b.cells off y.cells } }
structure As (m0 g0:Nat) (o:Oper) (s s':St) (x:Operand) (d:Tmp):Prop where
 op:o.op=.assign x
 dst:o.dst=some d
 guard:o.guard=none
 scp:(s.ev x).scp m0 g0=true
 eq:s'=s
theorem Z5m {o:Oper} {s s':St} (h:Z8y P X m0 g0 o s=some s'):(∃ t ta x n off y b,Lt P X m0 g0 o s s' t ta x n off y b)∨∃ x d,As m0 g0 o s s' x d:=by
 unfold Z8y at h
 split at h
 ·rename_i t ta x ho
  split at h
  ·rename_i n off y hsl hev
   split at h
   ·rename_i b hb
    split at h
    ·rename_i hc
     simp only [Z18r,Bool.or_eq_true,Z18s,Option.isNone_iff_eq_none] at hc
     obtain ⟨⟨⟨⟨⟨⟨⟨⟨⟨h1,h2⟩,h3⟩,h4⟩,h5⟩,h6⟩,h7⟩,h8⟩,h9⟩,h10⟩:=hc
     simp only [Option.some.injEq] at h
     exact .inl ⟨t,ta,x,n,off,y,b,⟨ho,hsl,hev,hb,h1,h2,h3.imp id (fun h=>by simpa using h),h4,h5,h6,h7,h8,h9,h10,h.symm⟩⟩
    ·cases h
   ·cases h
  ·cases h
 ·rename_i x ho
  split at h
  ·rename_i d hd
   split at h
   ·rename_i hc
    simp only [Z18r,Option.isNone_iff_eq_none] at hc
    simp only [Option.some.injEq] at h
    exact .inr ⟨x,d,ho,hd,hc.1,hc.2,h.symm⟩
   ·cases h
  ·cases h
 ·cases h
theorem Zbh:∀ {l:List Oper} {s s3:St},Zuh P X m0 g0 l s=some s3→∃ st:Nat→St,st 0=s∧st l.length=s3∧∀ c o,l[c]?=some o→Z8y P X m0 g0 o (st c)=some (st (c + 1))
 | [],s,s3,h=>by
  simp only [Zuh,Option.some.injEq] at h
  exact ⟨fun _=>s,rfl,h,fun c o hc=>by simp at hc⟩
 | o::l,s,s3,h=>by
  simp only [Zuh] at h
  split at h
  ·rename_i s' h1
   obtain ⟨st,h2,h3,h4⟩:=Zbh h
   refine ⟨fun c=>match c with | 0=>s | c + 1=>st c,rfl,h3,?_⟩
   intro c oc hc
   cases c with
   | zero =>
    simp only [Z18e,Option.some.injEq] at hc
    subst hc
    show Z8y P X m0 g0 o s=some (st 0)
    rw [h2]; exact h1
   | succ c=>exact h4 c oc (by simpa using hc)
  ·cases h
theorem Zuz {l:List Oper} {st:Nat→St} (h:∀ c o,l[c]?=some o→Z8y P X m0 g0 o (st c)=some (st (c + 1))):∀ c,c≤l.length →
  st c={ st 0 with mem:=(st c).mem }∧(st c).mem.length=(st 0).mem.length:=by
 intro c
 induction c with
 | zero=>intro _; exact ⟨rfl,rfl⟩
 | succ c ih =>
  intro hc
  obtain ⟨h1,h2⟩:=ih (by omega)
  rcases Z5m (h c l[c] (List.getElem?_eq_getElem (by omega))) with ⟨t,ta,x,n,off,y,b,hl⟩ | ⟨x,d,hl⟩
  ·rw [hl.eq]
   refine ⟨?_,by simpa using h2⟩
   rw [h1]
  ·rw [hl.eq]
   exact ⟨h1,h2⟩
def Zmx (s:St) (o:Oper):Nat:=match o.op with
 | .store _ (.tmp ta) _=>(match s.fr.getD ta Z5 with
  | .w (.o (.p n _))=>n
  | _=>0)
 | .assign _=>s.mem.length
 | _=>0
theorem Lt.tgt {o:Oper} {s s':St} {t:TypeId} {ta:Tmp} {x:Operand} {n off:Nat} {y:SW} {b:Blk} (h:Lt P X m0 g0 o s s' t ta x n off y b):Zmx s o=n:=by
 unfold Zmx
 rw [h.op]
 simp only [h.slot]
noncomputable def Z2x (e:Env) (st:Nat→St) (n c:Nat):Obj:=match (st c).mem[n]? with
 | some b=>.cells (b.cells.map (SC.den e)).toArray b.ty (0,0)
 | none=>.cells #[] 0 (0,0)
noncomputable def Z65 (ops:Array Oper) (m0:Nat) (e:Env) (al:List Nat) (s:St) (Xa:Nat→Prop) (st:Nat→St):Zd8 :=
 { nw:=fun n=>if n < m0 then none else al[n - m0]?,oldA:=fun n=>e.β.getD n 0,X:=Xa,tgt:=fun k=>match ops[k]? with | some o=>Zmx s o | none=>0,cont:=Z2x e st }
theorem Zv0 {m0:Nat} {e:Env} {Xa:Nat→Prop} {st:Nat→St} (γ:Nat→Nat) (n:Nat):(Z65 ops m0 e al s Xa st).adr γ n=match (if n < m0 then none else al[n - m0]?) with | some i=>γ i | none=>e.β.getD n 0:=rfl
theorem Zmy {N1 M t:Nat} (h:∀ k,N1≤k→k < M→(ops[k]?).bind (·.dst) ≠ some t) (hM:N1≤M) (hu:∀ i j,i < M→j < M→(ops[i]?).bind (·.dst)=some t→(ops[j]?).bind (·.dst)=some t→i=j):Zo ops M t=Zo ops N1 t:=by
 cases hw:Zo ops N1 t with
 | none =>
  cases hm:Zo ops M t with
  | none=>rfl
  | some j =>
   obtain ⟨h1,h2⟩:=Zj hm
   rcases Nat.lt_or_ge j N1 with h3 | h3
   ·exact absurd h2 (Z31 hw j h3)
   ·exact absurd h2 (h j h3 h1)
 | some i =>
  obtain ⟨h1,h2⟩:=Zj hw
  exact Z45 (by omega) h2 (fun j hj hd=>hu j i hj (by omega) hd h2)
theorem Z7g (s3:St):∀ (l:List Oper) (fr:List SV),(Z41 s3 l fr).length=fr.length
 | [],_=>rfl
 | o::l,fr=>by
  unfold Z41
  split
  ·rw [Z7g s3 l]; simp
  ·exact Z7g s3 l fr
theorem Z7h (s3:St) {t:Nat}:∀ (l:List Oper) (fr:List SV),(∀ o ∈ l,o.dst ≠ some t)→(Z41 s3 l fr).getD t Z5=fr.getD t Z5
 | [],_,_=>rfl
 | o::l,fr,h=>by
  unfold Z41
  split
  ·rename_i x d ho hd
   rw [Z7h s3 l _ fun o' ho'=>h o' (List.mem_cons_of_mem _ ho'),Z23]
   have hne:¬ t=d:=by
    rintro rfl
    exact h o (List.mem_cons_self ..) hd
   rw [if_neg (fun hh=>hne hh.1)]
  ·exact Z7h s3 l fr fun o' ho'=>h o' (List.mem_cons_of_mem _ ho')
theorem Zdf (s3:St) {t:Nat} {x:Operand}:∀ (l:List Oper) (fr:List SV) (c:Nat) (o:Oper),l[c]?=some o→o.op=.assign x→o.dst=some t→t < fr.length→(∀ j o',l[j]?=some o'→o'.dst=some t→j=c)→(Z41 s3 l fr).getD t Z5=s3.ev x
 | [],_,_,_,h,_,_,_,_=>by simp at h
 | o'::l,fr,c,o,h,ho,hd,ht,hu=>by
  cases c with
  | zero =>
   simp only [Z18e,Option.some.injEq] at h
   subst h
   unfold Z41
   rw [ho,hd]
   dsimp only
   rw [Z7h s3 l _ (fun o1 h1 hd1=>by
    obtain ⟨j,hj⟩:=List.getElem?_of_mem h1
    have:=hu (j + 1) o1 (by simpa using hj) hd1
    omega),Z23,if_pos ⟨rfl,ht⟩]
  | succ c =>
   simp only [Z18f] at h
   unfold Z41
   have hu':∀ j o1,l[j]?=some o1→o1.dst=some t→j=c:=fun j o1 h1 h2=>by
    have:=hu (j + 1) o1 (by simpa using h1) h2
    omega
   split
   ·exact Zdf s3 l _ c o h ho hd (by simpa using ht) hu'
   ·exact Zdf s3 l _ c o h ho hd ht hu'
theorem Zv1 {N N1:Nat} {Xa:Nat→Prop} (hlex:Lex s0 e0 a0 ops N1 ents s r al) (h0:Rep e0 W0 s0 w0) (hval:∀ i,i < N1→(ents i).obj=none→∀ n,(ents i).val n=(ents i).val 0)
  (huniq:∀ i j t,i < N→j < N→(ops[i]?).bind (·.dst)=some t→(ops[j]?).bind (·.dst)=some t→i=j) (hN1:N1≤N)
  {c:Nat} {o:Oper} (hcN:N1 + c < N) (ho:ops[N1 + c]?=some o) {st:Nat→St} (hst:st c={ s with mem:=(st c).mem })
  (hE:∀ x d,As s0.mem.length s0.rows.length o (st c) (st (c + 1)) x d→ents (N1 + c)=⟨fun _=>(s.ev x).den (e0.at r),none⟩)
  (hap:∀ t ∈ o.looksAt ops,∀ k,N1≤k→k < N→(ops[k]?).bind (·.dst) ≠ some t) (h1:Z8y P X s0.mem.length s0.rows.length o (st c)=some (st (c + 1))) :
  Zux P ops ents a0 N1 (Z65 ops s0.mem.length (e0.at r) al s Xa st) (N1 + c):=by
 obtain ⟨news,hmem,hnl⟩:=hlex.mem
 have hml:s.mem.length=s0.mem.length + al.length:=by rw [hmem]; simp [hnl]
 have hwl:∀ t ∈ o.looksAt ops,Zo ops (N1 + c) t=Zo ops N1 t:=fun t ht=>Zmy (fun k h2 h3=>hap t ht k h2 (by omega)) (by omega) (fun i j hi hj=>huniq i j t (by omega) (by omega))
 have hsv':∀ (act:Act) (γ:Nat→Nat),(∀ t ∈ o.looksAt ops,act.tmps.getD t undef=match Zo ops (N1 + c) t with | some j=>(ents j).val (γ j) | none=>a0.getD t undef) →
   ∀ t,t ∈ o.looksAt ops→(s.fr.getD t Z5).scp s0.mem.length s0.rows.length=true→act.tmps.getD t undef=(s.fr.getD t Z5).den (e0.at r):=by
  intro act γ hlook t ht hs
  rw [hlook t ht,hwl t ht]
  have hl:=hlex.slots t hs
  unfold Zms at hl
  cases hw:Zo ops N1 t with
  | none=>rw [hw] at hl; simpa using hl
  | some j =>
   rw [hw] at hl
   dsimp only at hl ⊢
   split at hl
   ·rename_i hob
    rw [hval j (Zj hw).1 (by simpa using hob) (γ j)]
    simpa using hl
   ·cases hl
 rcases Z5m h1 with ⟨t,ta,x,n,off,y,b,hl⟩ | ⟨x,d,hl⟩
 case inr =>
  have hev:(st c).ev x=s.ev x:=by rw [hst]; rfl
  have hsc:(s.ev x).scp s0.mem.length s0.rows.length=true:=by rw [← hev]; exact hl.scp
  rw [Zux]
  refine ⟨o,ho,.inr ?_⟩
  rw [hE x d hl]
  refine ⟨fun _=>rfl,fun n=>?_,fun act w γ hlook K Q hK=>?_⟩
  ·rw [show N1 + c - N1=c by omega]
   show Z2x (e0.at r) st n (c + 1)=Z2x (e0.at r) st n c
   unfold Z2x
   rw [hl.eq]
  ·have hwt:Region.wanted o (yielded ops act.tmps)=true:=by unfold Region.wanted; rw [hl.guard]
   rw [if_pos hwt]
   have hx:act.eval x=(s.ev x).den (e0.at r):=by
    cases x with
    | tmp t' =>
     show act.tmps.getD t' undef=_
     exact hsv' act γ hlook t' (Z2q (by rw [hl.op]; simp [Op.operands])) hsc
    | const v =>
     show _=(SV.w (SW.ofV v)).den (e0.at r)
     simp [Act.eval,SV.den]
    | global g=>rfl
    | func f=>rfl
   have hrun:(execOp act.eval o).run P w=.ok (.value ((s.ev x).den (e0.at r))) w:=by
    simp only [execOp,hl.op,hx]
    rfl
   unfold Oper.wp
   rw [hrun]
   exact hK
 have hslot:s.fr.getD ta Z5=.w (.o (.p n off)):=by have:=hl.slot; rw [hst] at this; exact this
 have hev:s.ev x=.w y:=by
  have:=hl.ev
  rw [hst] at this
  exact this
 have htg:Zmx s o=n:=by
  unfold Zmx
  rw [hl.op]
  simp only [hslot]
 refine ⟨o,ho,.inl ⟨hl.dst,?_⟩⟩
 intro act w γ hlook hheap K Q hK
 have hcc:N1 + c - N1=c:=by omega
 have htgD:(Z65 ops s0.mem.length (e0.at r) al s Xa st).tgt (N1 + c)=n:=by
  unfold Z65
  simp only [ho,htg]
 rw [htgD,hcc] at hheap hK
 have hblk':(st (c + 1)).mem[n]?=some { b with cells:=Z61 b.cells off y.cells }:=by
  rw [hl.eq]
  have:=(List.getElem?_eq_some_iff.1 hl.blk).1
  simp [this]
 have hc1:(Z65 ops s0.mem.length (e0.at r) al s Xa st).cont n c=.cells (b.cells.map (SC.den (e0.at r))).toArray b.ty (0,0):=by
  unfold Z65 Z2x
  simp only [hl.blk]
 have hc2:(Z65 ops s0.mem.length (e0.at r) al s Xa st).cont n (c + 1)=.cells ((Z61 b.cells off y.cells).map (SC.den (e0.at r))).toArray b.ty (0,0):=by
  unfold Z65 Z2x
  simp only [hblk']
 rw [hc1] at hheap
 rw [hc2] at hK
 have hsv:=hsv' act γ hlook
 have hta:ta ∈ o.looksAt ops:=Z2q (by rw [hl.op]; simp [Op.operands])
 have hadr:act.eval (.tmp ta)=.pointer (some ⟨(Z65 ops s0.mem.length (e0.at r) al s Xa st).adr γ n,off,none⟩):=by
  show act.tmps.getD ta undef=_
  rw [Zv0]
  rcases Nat.lt_or_ge n s0.mem.length with hn | hn
  ·simp only [hn,if_true]
   rw [hsv ta hta (by rw [hslot]; simpa [SV.scp,SW.scp,SC.scp] using hn),hslot]
   rfl
  ·have hns:(s.fr.getD ta Z5).scp s0.mem.length s0.rows.length=false:=by
    rw [hslot]; simpa [SV.scp,SW.scp,SC.scp] using hn
   obtain ⟨j,i',hj,hdt⟩:=hlex.nscp ta hns
   obtain ⟨h1,bb,h2,_,_,_,mk,h6,h7,h8⟩:=hlex.alOK j i' hj
   have hmk:=h8 ta hdt
   rw [hslot] at hmk
   have hnj:n=s0.mem.length + j∧off=0:=by
    rcases h6 with h6 | ⟨l,cc,h6⟩
    ·rw [h6] at hmk
     simp only [one,SV.w.injEq,SW.o.injEq,SC.p.injEq] at hmk
     exact hmk
    ·rw [h6] at hmk
     simp [one] at hmk
   obtain ⟨rfl,rfl⟩:=hnj
   simp only [Nat.not_lt_of_le (Nat.le_add_right _ _),if_false,Nat.add_sub_cancel_left,hj]
   rw [hlook ta hta,Z45 (by omega) hdt (fun k hk hkd=>huniq k i' ta (by omega) (by omega) hkd hdt)]
   dsimp only
   have hmkp:∀ (n:Nat),mk n=.p n 0:=by
    rcases h6 with h6 | ⟨l,cc,h6⟩
    ·exact h6
    ·rw [h6] at hmk
     simp [one] at hmk
   have:=h7 { e0 with β:=List.replicate (s0.mem.length + j + 1) (γ i') } (s0.mem.length + j)
   rw [hmkp] at this
   simp only [SC.den,Z1z] at this
   rw [show (List.replicate (s0.mem.length + j + 1) (γ i')).getD (s0.mem.length + j) 0=γ i' by simp [List.getD]] at this
   exact this.symm
 have hx:act.eval x=y.den (e0.at r):=by
  cases x with
  | tmp t' =>
   have h2:s.fr.getD t' Z5=.w y:=hev
   show act.tmps.getD t' undef=_
   rw [hsv t' (Z2q (by rw [hl.op]; simp [Op.operands])) (by rw [h2]; exact hl.scp),h2]
   rfl
  | const v =>
   have h2:SV.w (SW.ofV v)=.w y:=hev
   simp only [SV.w.injEq] at h2
   rw [← h2]
   simp [Act.eval]
  | global g =>
   have h2:SV.w (.o (.l (.pointer (some ⟨g,0,none⟩))))=.w y:=hev
   simp only [SV.w.injEq] at h2
   rw [← h2]
   rfl
  | func f =>
   have h2:SV.w (.o (.f f []))=.w y:=hev
   simp only [SV.w.injEq] at h2
   rw [← h2]
   rfl
 generalize hgg:(Z65 ops s0.mem.length (e0.at r) al s Xa st).adr γ n=g at *
 have hwt:Region.wanted o (yielded ops act.tmps)=true:=by unfold Region.wanted; rw [hl.guard]
 rw [if_pos hwt]
 have hden1:∀ c:SC,c.one=true→c.scp s0.mem.length s0.rows.length=true→(c.den (e0.at r)).oneCell'=true:=by
  intro cc h1 h2
  exact SC.den_one h1
 have hcells:(y.den (e0.at r)).cells=(y.cells.map (SC.den (e0.at r))).toArray:=by
  cases y with
  | o cc =>
   have h1:=hl.one
   simp only [SW.cells,List.all_cons,List.all_nil,Bool.and_true] at h1
   simp only [SW.den,SW.cells,Z18k,Z18l]
   exact Z6g (hden1 cc h1 hl.scp)
  | a cs=>rfl
 have hst':=run_storeCells_at P g off b.ty (y.cells.map (SC.den (e0.at r))) 0 _ w hheap (by simpa using hl.off') (fun u hu=>by
  obtain ⟨cc,hc,rfl⟩:=List.mem_map.1 hu
  refine hden1 cc (List.all_eq_true.1 hl.one cc hc) ?_
  have hsc:=hl.scp
  cases y with
  | o c'=>simp only [SW.cells,List.mem_singleton] at hc; subst hc; exact hsc
  | a cs=>exact List.all_eq_true.1 hsc cc hc)
 simp only [Nat.add_zero] at hst'
 have hrun:(execOp act.eval o).run P w=.ok .skip (w.setRow g ((Z61 b.cells off y.cells).map (SC.den (e0.at r))).toArray):=by
  simp only [execOp,hl.op,hadr,hx,Instr.storeAt,Instr.sureAddr,Sem.run_bind,Sem.run_pure,Result.andThen_ok,storeVar,Zi hl.info,Sem.run_ite]
  rw [hcells,if_neg (by simp [hl.size])]
  rw [hst']
  simp [Zju]
 unfold Oper.wp
 rw [hrun]
 have hput:act.put o.dst undef=act:=by rw [hl.dst]; rfl
 show K (act.put o.dst undef) _
 rw [hput]
 refine hK _ ⟨rfl,rfl,rfl,by simp,fun k hk=>setRow_other w g k _ hk,setRow_heap w g _ _ _ _ hheap⟩
theorem Z109 {l:List Oper} {st:Nat→St} (h:∀ c o,l[c]?=some o→Z8y P X m0 g0 o (st c)=some (st (c + 1))):∀ c,c≤l.length→∀ (n:Nat) (b:Blk),(st c).mem[n]?=some b →
  (∃ b':Blk,(st 0).mem[n]?=some b'∧b.ty=b'.ty∧b.live=b'.live)∧(n < m0→n ∉ X→(st 0).mem[n]?=some b) ∧
  ((∀ (n:Nat) (b:Blk),(st 0).mem[n]?=some b→b.cells.all (SC.scp m0 g0)=true)→b.cells.all (SC.scp m0 g0)=true):=by
 intro c
 induction c with
 | zero=>intro _ n b hb; exact ⟨⟨b,hb,rfl,rfl⟩,fun _ _=>hb,fun h=>h n b hb⟩
 | succ c ih =>
  intro hc n b hb
  rcases Z5m (h c l[c] (List.getElem?_eq_getElem (by omega))) with ⟨t,ta,x,n',off,y,b',hl⟩ | ⟨x,d,hl⟩
  case inr=>rw [hl.eq] at hb; exact ih (by omega) n b hb
  rw [hl.eq] at hb
  rcases Z15 hb with ⟨rfl,rfl,_⟩ | ⟨hne,hb'⟩
  ·obtain ⟨h1,h2,h3⟩:=ih (by omega) n b' hl.blk
   refine ⟨h1,fun hn hx=>?_,fun hs=>?_⟩
   ·rcases hl.at' with h | h
    ·omega
    ·exact absurd h hx
   ·have h4:=h3 hs
    have h5:y.cells.all (SC.scp m0 g0)=true:=by
     have h6:=hl.scp
     cases y with
     | o cc=>simpa [SW.cells,SW.scp] using h6
     | a cs=>exact h6
    show (Z61 b'.cells off y.cells).all (SC.scp m0 g0)=true
    unfold Z61
    rw [List.all_append,List.all_append,h5]
    have h7:∀ {q:List SC},(∀ z ∈ q,z ∈ b'.cells)→q.all (SC.scp m0 g0)=true:=fun hq=>List.all_eq_true.2 fun z hz=>List.all_eq_true.1 h4 z (hq z hz)
    rw [h7 (fun z hz=>List.mem_of_mem_take hz),h7 (fun z hz=>List.mem_of_mem_drop hz)]
    rfl
  ·exact ih (by omega) n b hb'
end
end Go.Sx
namespace Go.Sx
open Go.RowKit
theorem B.same_eq:∀ a b:B,a.same b=true→a=b
 | .c m,b,h=>by cases b <;> simp [B.same] at h; rw [h]
 | .lt x y,b,h=>by cases b <;> simp [B.same] at h; rw [E.same_eq x _ h.1,E.same_eq y _ h.2]
 | .le x y,b,h=>by cases b <;> simp [B.same] at h; rw [E.same_eq x _ h.1,E.same_eq y _ h.2]
 | .eq x y,b,h=>by cases b <;> simp [B.same] at h; rw [E.same_eq x _ h.1,E.same_eq y _ h.2]
 | .nz x,b,h=>by cases b <;> simp [B.same] at h; rw [E.same_eq x _ h]
 | .not x,b,h=>by cases b <;> simp [B.same] at h; rw [B.same_eq x _ h]
 | .and x y,b,h=>by cases b <;> simp [B.same] at h; rw [B.same_eq x _ h.1,B.same_eq y _ h.2]
 | .beq x y,b,h=>by cases b <;> simp [B.same] at h; rw [B.same_eq x _ h.1,B.same_eq y _ h.2]
section
variable {R:Fo} {r:List Int}
theorem Zdg {g:B}:∀ {w:B},Zjh g w=true→w.den R r=true→g.den R r=true:=by
 intro w
 induction w with
 | and a b iha ihb =>
  intro h hw
  simp only [Zjh,Bool.or_eq_true] at h
  rcases h with h | h | h
  ·have:=B.same_eq _ _ h
   subst this
   exact hw
  ·simp only [B.den,Z18r] at hw
   exact iha h hw.1
  ·simp only [B.den,Z18r] at hw
   exact ihb h hw.2
 | _ =>
  intro h hw
  have:=B.same_eq _ _ h
  subst this
  exact hw
theorem Zs7 {w:B}:∀ {g:B},Zcx w g=true→w.den R r=true→g.den R r=true:=by
 intro g
 induction g with
 | c b =>
  intro h hw
  cases b with
  | true=>rfl
  | false=>exact Zdg h hw
 | and a b iha ihb =>
  intro h hw
  simp only [Zcx,Z18r] at h
  simp only [B.den,Z18r]
  exact ⟨iha h.1 hw,ihb h.2 hw⟩
 | _=>intro h hw; exact Zdg h hw
theorem Zpd (c:B) (x:Bool):(litB c x).den R r=(c.den R r == x):=by
 unfold litB
 cases x with
 | true=>simp
 | false=>simp [Z2n]
theorem Zkf (c x y:B):(Z15j c x y).den R r=if c.den R r=true then x.den R r else y.den R r:=by
 unfold Z15j
 split <;> simp only [Z2n,Z42,B.den] <;> cases c.den R r <;> simp
end
variable {P:Program} {ops:Array Oper} {Γ:List Sum} {Ψ:List Int→Prop} {bs:List (List Int→Prop)}
structure SpR (e:Env) (W0:Bas) (s:St) (pend:Zbv) (a:Act) (w:World):Prop where
 rep:Rep e W0 s w
 defs:a.defers=[]
 size:a.tmps.size=s.fr.length
 slots:∀ t,a.tmps.getD t undef=match Z3z pend t with
  | some (g,x)=>if g.den e.R e.r=true then x.den e else undef
  | none=>(s.fr.getD t Z5).den e
 lt:∀ p ∈ pend,p.1 < s.fr.length
 nd:pend.Pairwise fun p q=>p.1 ≠ q.1
theorem Zgb:∀ {pend:Zbv} {t:Nat},Z3z pend t=none→∀ p ∈ pend,p.1 ≠ t
 | [],_,_,p,hp=>by cases hp
 | (u,g,x)::l,t,h,p,hp=>by
  simp only [Z3z] at h
  split at h
  ·cases h
  ·rename_i hu
   rcases List.mem_cons.1 hp with rfl | hp
   ·exact hu
   ·exact Zgb h p hp
theorem Zdh:∀ {pend:Zbv} {t:Nat},(∀ p ∈ pend,p.1 ≠ t)→Z3z pend t=none
 | [],_,_=>rfl
 | (u,g,x)::l,t,h=>by
  simp only [Z3z]
  rw [if_neg (h (u,g,x) (by simp))]
  exact Zdh fun p hp=>h p (List.mem_cons_of_mem _ hp)
theorem Zdi {s:St} {w:B}:∀ {pend:Zbv},(∀ p ∈ pend,p.1 < s.fr.length)→(Z3a s pend w)={ s with fr:=(Z3a s pend w).fr }∧(Z3a s pend w).fr.length=s.fr.length ∧
  ∀ t,(Z3a s pend w).fr.getD t Z5=match Z3z pend t with
   | some (g,x)=>if Zcx w g=true then .w x else Z5
   | none=>s.fr.getD t Z5:=by
 intro pend hlt
 cases pend with
 | nil=>exact ⟨rfl,rfl,fun t=>rfl⟩
 | cons p l =>
  refine ⟨rfl,?_⟩
  have hu:(Z3a s (p::l) w).fr=(p::l).foldr (fun p fr=>fr.set p.1 (if Zcx w p.2.1 then .w p.2.2 else Z5)) s.fr:=rfl
  rw [hu]
  clear hu
  generalize p::l=q at *
  induction q with
  | nil=>exact ⟨rfl,fun t=>rfl⟩
  | cons p q ih =>
   obtain ⟨h1,h2⟩:=ih (fun p hp=>hlt p (List.mem_cons_of_mem _ hp))
   refine ⟨by simpa using h1,fun t=>?_⟩
   simp only [List.foldr_cons,Z3z]
   have hp:=hlt p (by simp)
   simp only [List.getD,List.getElem?_set,h1,hp,if_true]
   by_cases ht:p.1=t
   ·simp [ht]
   ·simp only [ht,if_false]
    exact h2 t
theorem SpR.ev {e:Env} {W0:Bas} {s:St} {pend:Zbv} {a:Act} {w:World} (h:SpR e W0 s pend a w) {W:B} (hW:W.den e.R e.r=true) (x:Operand) (hne:∀ t,x=.tmp t→∀ g y,Z3z pend t=some (g,y)→Zcx W g=true):a.eval x=((Z3a s pend W).ev x).den e:=by
 obtain ⟨h1,h2,h3⟩:=Zdi (w:=W) h.lt
 cases x with
 | tmp t =>
  show a.tmps.getD t undef=((Z3a s pend W).fr.getD t Z5).den e
  rw [h3 t,h.slots t]
  cases hl:Z3z pend t with
  | none=>rfl
  | some gx =>
   obtain ⟨g,x⟩:=gx
   have hi:=hne t rfl g x hl
   have hg:=Zs7 hi hW
   simp only [hi,hg,if_true]
   rfl
 | const v=>simp [Act.eval,St.ev,SV.den]
 | global g=>rfl
 | func f=>rfl
theorem Z9b {e:Env} {W0:Bas} {s:St} {pend:Zbv} {a:Act} {w:World} (h:SpR e W0 s pend a w) {W:B} (hW:W.den e.R e.r=true) (x:Operand) {y:SW} (hy:(Z3a s pend W).ev x=.w y):a.eval x=y.den e:=by
 have hne:∀ t,x=.tmp t→∀ g z,Z3z pend t=some (g,z)→Zcx W g=true:=by
  rintro t rfl g z hl
  obtain ⟨_,_,h3⟩:=Zdi (w:=W) h.lt
  have:(Z3a s pend W).fr.getD t Z5=.w y:=hy
  rw [h3 t,hl] at this
  cases hi:Zcx W g with
  | true=>rfl
  | false=>simp [hi,Z5] at this
 rw [h.ev hW x hne,hy]
 rfl
theorem Zs8 {e:Env} {W0:Bas} {s:St} {pend:Zbv} {a:Act} {w:World} {o:Oper} {W:B} (h:SpR e W0 s pend a w) (hw:Z15i ops s pend o=some W):Region.wanted o (yielded ops a.tmps)=W.den e.R e.r:=by
 unfold Z15i at hw
 unfold Region.wanted
 split at hw
 ·rename_i hg
  simp only [hg]
  simp only [Option.some.injEq] at hw
  subst hw
  rfl
 ·rename_i j want hg
  simp only [hg]
  split at hw
  ·rename_i t ht
   have hy:yielded ops a.tmps j=(match a.tmps.getD t undef with | .bool b=>some b | _=>none):=by
    unfold yielded
    rw [ht]
    simp only [Option.bind_some]
    by_cases hlt:t < a.tmps.size
    ·rw [Array.getElem?_eq_getElem hlt]
     simp only [Array.getD,hlt,dif_pos]
     show (match some a.tmps[t] with | some (.bool b)=>some b | _=>none)=(match a.tmps[t] with | .bool b=>some b | _=>none)
     cases a.tmps[t] <;> rfl
    ·rw [Array.getElem?_eq_none (Nat.le_of_not_lt hlt)]
     simp only [Array.getD,hlt]
     rfl
   rw [hy,h.slots t]
   split at hw
   ·rename_i g c hl
    simp only [Option.some.injEq] at hw
    subst hw
    rw [hl,Z42,Zpd]
    dsimp only
    cases hgd:g.den e.R e.r with
    | true =>
     simp only [if_true,SW.den,SC.den]
     simp
    | false=>simp [undef]
   ·cases hw
   ·rename_i hl
    rw [hl]
    dsimp only
    split at hw
    ·rename_i c hs
     simp only [Option.some.injEq] at hw
     subst hw
     rw [hs,Zpd]
     simp [SV.den,SW.den,SC.den]
    ·cases hw
  ·cases hw
theorem Zv2 {e e':Env} {W0 W1:Bas} {s s':St} {w w':World} (hle:Env.le e e') (h:Rep e W0 s w) (h':Rep e' W1 s' w') (hm:s'.mem.length=s.mem.length) (hr:s'.rows.length=s.rows.length) (h1:e'.r=e.r) (h2:e'.ω=e.ω):e'=e:=by
 obtain ⟨a,b,c,d,h3,h4,h5,h6,h7⟩:=hle
 have hb:b=[]:=by
  have:=h'.nb
  rw [h4,hm,← h.nb] at this
  simpa using this
 have hc:c=[]:=by
  have:=h'.ng
  rw [h5,hr,← h.ng] at this
  simpa using this
 subst hb hc
 cases e
 cases e'
 simp only [List.append_nil] at *
 simp_all
theorem Zs9 {f:Option (List B × SV × St)→Operand→Option (List B × SV × St)} (hf:∀ acc y q,f acc y=some q→∃ q',acc=some q'∧q.2.2=q'.2.2):∀ (rest:List Operand) (init:Option (List B × SV × St)) (q:List B × SV × St),rest.foldl f init=some q→∃ q',init=some q'∧q.2.2=q'.2.2:=by
 intro rest
 induction rest with
 | nil=>intro init q h; exact ⟨q,h,rfl⟩
 | cons y rest ih =>
  intro init q h
  obtain ⟨q',h1,h2⟩:=ih _ q h
  obtain ⟨q'',h3,h4⟩:=hf _ _ _ h1
  exact ⟨q'',h3,h2.trans h4⟩
theorem Zsa {s s':St} {o:Oper} {aZ:List B} {v:SV} (hp:Zcy o=true) (h:op1 P s o=some (aZ,v,s')):s'=s:=by
 unfold op1 at h
 dsimp only at h
 split at h <;> first
  | (rename_i ho; simp [Zcy,ho] at hp; done)
  | skip
 all_goals try (rename_i c ho)
 all_goals try (split at h)
 all_goals try (split at h)
 all_goals try (split at h)
 all_goals try (split at h)
 all_goals try (split at h)
 all_goals try (split at h)
 all_goals first
  | (cases h; done)
  | (simp only [Option.some.injEq,Prod.mk.injEq] at h; exact h.2.2.symm)
  | (simp only [Option.map_eq_some_iff,Prod.mk.injEq] at h; obtain ⟨_,_,_,_,h⟩:=h; exact h.symm)
  | skip
 all_goals
  obtain ⟨q',h1,h2⟩:=Zs9 (by
   intro acc y q hq
   split at hq
   ·simp only [Option.some.injEq] at hq
    subst hq
    exact ⟨_,rfl,rfl⟩
   ·cases hq) _ _ _ h
  first
   | (cases h1; done)
   | (simp only [Option.some.injEq] at h1; subst h1; exact h2)
theorem Zpe {a:Act} {d t:Nat} {v:Value} (hd:d < a.tmps.size):(a.put (some d) v).tmps.getD t undef=if t=d then v else a.tmps.getD t undef:=by
 simp only [Act.put]
 by_cases ht:t=d
 ·subst ht
  simp [hd]
 ·simp [Array.getElem?_setIfInBounds_ne (Ne.symm ht),ht]
theorem Zv3 {e:Env} {W0:Bas} {s:St} {pend:Zbv} {a:Act} {w:World} {o:Oper} {W:B} {aZ:List B} {x:SW} (h:SpR e W0 s pend a w) (hp:Zcy o=true) (hv:valW P s pend W o=some (aZ,x)) (hW:W.den e.R e.r=true) (has:∀ b ∈ aZ,b.den e.R e.r=true) :
  ∃ w' nx,(execOp a.eval o).run P w=.ok nx w'∧(nx=.value (x.den e)∨(nx=.skip∧x.den e=undef))∧Rep e W0 s w':=by
 unfold valW at hv
 split at hv
 ·rename_i c ax bx ho
  have hc:=fun (y:SW) hy=>Z9b h hW c (y:=y) hy
  have run:∀ (bb:Bool),a.eval c=.bool bb→(execOp a.eval o).run P w=.ok (.value (if bb then a.eval ax else a.eval bx)) w:=by
   intro bb hbb
   simp only [execOp,ho,hbb]
   cases bb <;> rfl
  split at hv
  ·rename_i hcv
   split at hv
   ·rename_i y hy
    simp only [Option.some.injEq,Prod.mk.injEq] at hv
    obtain ⟨rfl,rfl⟩:=hv
    refine ⟨w,_,run true (hc _ hcv),.inl ?_,h.rep⟩
    simp only [if_true]
    rw [Z9b h hW ax hy]
   ·cases hv
  ·rename_i hcv
   split at hv
   ·rename_i y hy
    simp only [Option.some.injEq,Prod.mk.injEq] at hv
    obtain ⟨rfl,rfl⟩:=hv
    refine ⟨w,_,run false (hc _ hcv),.inl ?_,h.rep⟩
    simp only [Bool.false_eq_true,if_false]
    rw [Z9b h hW bx hy]
   ·cases hv
  ·rename_i cb _ _ hcv
   split at hv
   ·rename_i y z hy hz
    simp only [Option.some.injEq,Prod.mk.injEq] at hv
    obtain ⟨rfl,rfl⟩:=hv
    have hcb:a.eval c=.bool (cb.den e.R e.r):=hc _ hcv
    refine ⟨w,_,run _ hcb,.inl ?_,h.rep⟩
    cases hcd:cb.den e.R e.r with
    | true =>
     have hW':(Z7z W cb).den e.R e.r=true:=by rw [Z42,hW,hcd]; rfl
     simp only [if_true]
     rw [Z9b h hW' ax hy]
     simp only [SW.den,SC.den,Zkf,hcd,if_true]
    | false =>
     have hW':(Z7z W (Z4f cb)).den e.R e.r=true:=by rw [Z42,Z2n,hW,hcd]; rfl
     simp only [Bool.false_eq_true,if_false]
     rw [Z9b h hW' bx hz]
     simp only [SW.den,SC.den,Zkf,hcd,Bool.false_eq_true,if_false]
   ·cases hv
  ·cases hv
 ·split at hv
  ·rename_i hkn
   split at hv
   ·rename_i as' x' s' h1
    simp only [Option.some.injEq,Prod.mk.injEq] at hv
    obtain ⟨rfl,rfl⟩:=hv
    obtain ⟨hu1,hu2,hu3⟩:=Zdi (w:=W) h.lt
    have hrep:Rep e W0 (Z3a s pend W) w:=by rw [hu1]; exact h.rep.fr _
    have hev:∀ y ∈ o.op.operands,a.eval y=((Z3a s pend W).ev y).den e:=by
     intro y hy
     refine h.ev hW y ?_
     rintro t rfl g z hl
     have:=List.all_eq_true.1 hkn (.tmp t) (by simpa using hy)
     simpa only [Z13u,hl] using this
    obtain ⟨_,_,_,_,_,_,e',w',nx,hr,hnx,hrep',hle,hr',hR',hω',_⟩:=Z6h h1 hrep hev has
    have hs':=Zsa hp h1
    subst hs'
    have he:=Zv2 hle hrep hrep' rfl rfl hr' hω'
    subst he
    refine ⟨w',nx,hr,hnx,?_⟩
    rw [hu1] at hrep'
    exact hrep'.fr s.fr
   ·cases hv
  ·cases hv
theorem Zmz {R:Fo} {r:List Int} {W:B} {aZ:List B} (h:∀ b ∈ Zji W aZ,b.den R r=true) (hW:W.den R r=true):∀ b ∈ aZ,b.den R r=true:=by
 unfold Zji at h
 split at h
 ·exact h
 ·intro b hb
  have:=h _ (List.mem_map_of_mem (f:=fun b=>Z4f (Z7z W (Z4f b))) hb)
  simpa [Z2n,Z42,hW] using this
theorem Z6p (l:List SV) (t t':Nat) (v:SV):(l.set t v).getD t' Z5=if t'=t∧t < l.length then v else l.getD t' Z5:=by
 simp only [List.getD,List.getElem?_set]
 by_cases h:t=t'
 ·subst h
  by_cases hl:t < l.length
  ·simp [hl]
  ·simp [hl]
 ·have:¬ t'=t:=fun hh=>h hh.symm
  simp [h,this]
theorem SpR.put {e:Env} {W0:Bas} {s:St} {pend:Zbv} {a:Act} {w w':World} (h:SpR e W0 s pend a w) (hr:Rep e W0 s w') {d:Nat} (hd:d < s.fr.length) (hn:Z3z pend d=none) {u:Value} {v:SV} (hv:u=v.den e):SpR e W0 (s.put (some d) v) pend (a.put (some d) u) w':=by
 refine ⟨hr.fr _,h.defs,by simp [Act.put,St.put,h.size],fun t=>?_,fun p hp=>by simpa [St.put] using h.lt p hp,h.nd⟩
 rw [Zpe (by rw [h.size]; exact hd)]
 simp only [St.put,Z6p]
 by_cases ht:t=d
 ·subst ht
  simp [hn,hd,hv]
 ·simp only [ht,if_false,false_and]
  exact h.slots t
theorem SpR.pend {e:Env} {W0:Bas} {s:St} {pend:Zbv} {a:Act} {w w':World} (h:SpR e W0 s pend a w) (hr:Rep e W0 s w') {d:Nat} (hd:d < s.fr.length) (hn:Z3z pend d=none) {W:B} {x:SW} {u:Value} (hv:u=if W.den e.R e.r=true then x.den e else undef):SpR e W0 s ((d,W,x)::pend) (a.put (some d) u) w':=by
 refine ⟨hr,h.defs,by simp [Act.put,h.size],fun t=>?_,fun p hp=>?_,List.Pairwise.cons (fun p hp=>(Zgb hn p hp).symm) h.nd⟩
 ·rw [Zpe (by rw [h.size]; exact hd)]
  simp only [Z3z]
  by_cases ht:t=d
  ·subst ht
   simp [hv]
  ·simp only [ht,if_false,Ne.symm ht]
   exact h.slots t
 ·rcases List.mem_cons.1 hp with rfl | hp
  ·exact hd
  ·exact h.lt p hp
theorem Z3p {Q:Exit→Act→World→Prop}:∀ (l:List Oper) (s:St) (pend:Zbv) (aZ:List B) (s':St) (pend':Zbv) (e:Env) (W0:Bas) (a:Act) (w:World),Z40 P ops l s pend=some (aZ,s',pend')→(∀ b ∈ aZ,b.den e.R e.r=true)→SpR e W0 s pend a w →
  (∀ a' w',SpR e W0 s' pend' a' w'→Q .normal a' w')→wpList P ops Q l a w
 | [],s,pend,aZ,s',pend',e,W0,a,w,h,has,hs,hQ=>by
  simp only [Z40,Option.some.injEq,Prod.mk.injEq] at h
  obtain ⟨rfl,rfl,rfl⟩:=h
  exact hQ a w hs
 | o::l,s,pend,aZ,s',pend',e,W0,a,w,h,has,hs,hQ=>by
  simp only [Z40] at h
  split at h
  ·rename_i d W hd hW
   split at h
   ·cases h
   ·rename_i hc
    simp only [Bool.or_eq_true,Bool.not_eq_true',Z18s,not_or,Bool.not_eq_false,Nat.not_le] at hc
    obtain ⟨⟨hp,hn⟩,hlt⟩:=hc
    have hn':Z3z pend d=none:=by cases hh:Z3z pend d with | none=>rfl | some _=>rw [hh] at hn; simp at hn
    have hwt:=Zs8 hs hW
    unfold wpList
    rw [hwt,hd]
    split at h
    ·-- never
     simp only [B.den,Bool.false_eq_true,if_false]
     exact Z3p l _ pend aZ s' pend' e W0 _ w h has (hs.put hs.rep hlt hn' (v:=Z5) rfl) hQ
    ·split at h
     ·rename_i as1 x hv
      have main:∀ (s2:St) (pend2:Zbv) (bs:List B),Z40 P ops l s2 pend2=some (bs,s',pend')→aZ=Zji W as1++bs→(∀ w' u,Rep e W0 s w'→(u=if W.den e.R e.r=true then x.den e else undef)→SpR e W0 s2 pend2 (a.put (some d) u) w') →
        (if W.den e.R e.r=true then o.wp P a w (wpList P ops Q l) Q∨(o.asks P a w∧LetsOut Q) else wpList P ops Q l (a.put (some d) undef) w):=by
       intro s2 pend2 bs h2 has2 hput
       subst has2
       have h1:∀ b ∈ Zji W as1,b.den e.R e.r=true:=fun b hb=>has b (List.mem_append_left _ hb)
       have h3:∀ b ∈ bs,b.den e.R e.r=true:=fun b hb=>has b (List.mem_append_right _ hb)
       cases hWd:W.den e.R e.r with
       | true =>
        simp only [if_true]
        left
        obtain ⟨w',nx,hr,hnx,hrep⟩:=Zv3 hs hp hv hWd (Zmz h1 hWd)
        have hfin:wpList P ops Q l (a.put o.dst (x.den e)) w':=by
         rw [hd]
         exact Z3p l s2 pend2 bs s' pend' e W0 _ w' h2 h3 (hput w' _ hrep (by rw [hWd]; rfl)) hQ
        unfold Oper.wp
        rw [hr]
        rcases hnx with rfl | ⟨rfl,hu⟩
        ·exact hfin
        ·simp only [Oper.upon_skip]
         rw [← hu]
         exact hfin
       | false =>
        simp only [Bool.false_eq_true,if_false]
        exact Z3p l s2 pend2 bs s' pend' e W0 _ w h2 h3 (hput w _ hs.rep (by rw [hWd]; rfl)) hQ
      split at h
      ·rename_i bs s2' pend2' h2
       simp only [Option.some.injEq,Prod.mk.injEq] at h
       obtain ⟨rfl,rfl,rfl⟩:=h
       split at h2
       ·refine main _ _ bs h2 rfl (fun w' u hrep hu=>hs.put hrep hlt hn' ?_)
        rw [hu]
        rfl
       ·exact main _ _ bs h2 rfl (fun w' u hrep hu=>hs.pend hrep hlt hn' hu)
      ·cases h
     ·cases h
  ·cases h
theorem Z7i:∀ (l:List Oper) (s:St) (pend:Zbv) (aZ:List B) (s':St) (pend':Zbv),Z40 P ops l s pend=some (aZ,s',pend')→s'={ s with fr:=s'.fr }
 | [],s,pend,aZ,s',pend',h=>by
  simp only [Z40,Option.some.injEq,Prod.mk.injEq] at h
  obtain ⟨rfl,rfl,rfl⟩:=h
  rfl
 | o::l,s,pend,aZ,s',pend',h=>by
  simp only [Z40] at h
  split at h
  ·split at h
   ·cases h
   ·split at h
    ·have:=Z7i l _ _ _ _ _ h
     rw [this]
     rfl
    ·split at h
     ·split at h
      ·rename_i h2
       simp only [Option.some.injEq,Prod.mk.injEq] at h
       obtain ⟨rfl,rfl,rfl⟩:=h
       split at h2
       ·have:=Z7i l _ _ _ _ _ h2
        rw [this]
        rfl
       ·have:=Z7i l _ _ _ _ _ h2
        rw [this]
      ·cases h
     ·cases h
  ·cases h
theorem den_un {e:Env} {x:List Value}:∀ {v:SV},unOK e.ω.length v=true→v.den { e with ω:=e.ω++x }=v.den e:=by
 intro v hv
 have hC:∀ c:SC,c.den { e with ω:=e.ω++x }=c.den e:=by intro c; cases c <;> rfl
 have hW:∀ c:SW,c.den { e with ω:=e.ω++x }=c.den e:=by
  intro c
  cases c with
  | o c=>exact hC c
  | a cs=>simp only [SW.den]; rw [List.map_congr_left fun c _=>hC c]
 cases v with
 | w c=>exact hW c
 | t cs=>simp only [SV.den]; rw [List.map_congr_left fun c _=>hW c]
 | un i =>
  simp only [unOK,Z18s] at hv
  simp only [SV.den]
  rw [Z12 _ _ _ _ hv]
theorem Rep.un {e:Env} {W0:Bas} {s:St} {w:World} (h:Rep e W0 s w) (x:Value) (fr:List SV):Rep { e with ω:=e.ω++[x] } W0 { s with fr:=fr,nx:=s.nx + 1 } w:=by
 have hC:∀ c:SC,c.den { e with ω:=e.ω++[x] }=c.den e:=by intro c; cases c <;> rfl
 have hm:∀ cs:List SC,cs.map (SC.den { e with ω:=e.ω++[x] })=cs.map (SC.den e):=fun cs=>List.map_congr_left fun c _=>hC c
 refine ⟨h.below,h.nb,h.ng,h.nv,by simp [h.nx],?_,h.own,h.sep,h.row,h.rown,h.rsep,h.brs,h.gl,h.arg⟩
 ·intro n b hb hl
  rw [hm]
  exact h.blk n b hb hl
theorem Zdj:∀ (pend:Zbv) (s:St) (e:Env) {W0:Bas} {a:Act} {w:World},SpR e W0 s pend a w→s.fr.all (unOK s.nx)=true→∃ e',Env.le e e'∧e'.r=e.r∧e'.R=e.R∧Rel e' W0 (Z8a pend s) a w∧(Z8a pend s).fl=s.fl∧(Z8a pend s).flr=s.flr∧(Z8a pend s).dp=s.dp
 | [],s,e,W0,a,w,h,hu=>by
  refine ⟨e,Env.le_refl _,rfl,rfl,⟨h.rep,?_,h.defs⟩,rfl,rfl,rfl⟩
  apply Array.ext'
  apply List.ext_getElem?
  intro t
  have hs:=h.slots t
  simp only [Z3z] at hs
  show a.tmps.toList[t]?=(s.fr.map _)[t]?
  by_cases ht:t < s.fr.length
  ·have ht':t < a.tmps.size:=by rw [h.size]; exact ht
   simp only [List.getElem?_map,List.getElem?_eq_getElem ht,Option.map_some]
   rw [List.getElem?_eq_getElem (by simpa using ht')]
   simp only [Option.some.injEq]
   rw [show s.fr.getD t Z5=s.fr[t] by simp [List.getD,ht]] at hs
   rw [← hs]
   simp [Array.getD,ht']
  ·rw [List.getElem?_eq_none (by simp [h.size]; omega),List.getElem?_eq_none (by simp; omega)]
 | (d,g,x)::l,s,e,W0,a,w,h,hu=>by
  simp only [Z8a]
  have hd:=h.lt (d,g,x) (by simp)
  have hnx:=h.rep.nx
  have key:SpR { e with ω:=e.ω++[a.tmps.getD d undef] } W0 { s with fr:=s.fr.set d (.un s.nx),nx:=s.nx + 1 } l a w:=by
   refine ⟨h.rep.un _ _,h.defs,by simpa using h.size,fun t=>?_,fun p hp=>by simpa using h.lt p (List.mem_cons_of_mem _ hp),(List.pairwise_cons.1 h.nd).2⟩
   have hs:=h.slots t
   simp only [Z3z] at hs
   have hnd:Z3z l d=none:=Zdh fun p hp=>((List.pairwise_cons.1 h.nd).1 p hp).symm
   by_cases ht:t=d
   ·subst ht
    rw [hnd]
    simp only [Z6p,hd,and_self,if_true,SV.den]
    rw [← hnx]
    simp [List.getD]
   ·simp only [Ne.symm ht,if_false] at hs
    rw [hs]
    cases hl:Z3z l t with
    | some gx =>
     obtain ⟨g',x'⟩:=gx
     dsimp only
     have hC:∀ c:SC,c.den { e with ω:=e.ω++[a.tmps.getD d undef] }=c.den e:=by intro c; cases c <;> rfl
     have hW:x'.den { e with ω:=e.ω++[a.tmps.getD d undef] }=x'.den e:=by
      cases x' with
      | o c=>exact hC c
      | a cs=>simp only [SW.den]; rw [List.map_congr_left fun c _=>hC c]
     rw [hW]
    | none =>
     dsimp only
     simp only [Z6p,ht,false_and,if_false]
     by_cases htl:t < s.fr.length
     ·rw [show s.fr.getD t Z5=s.fr[t] by simp [List.getD,htl]]
      refine (den_un ?_).symm
      rw [hnx]
      exact List.all_eq_true.1 hu _ (List.getElem_mem htl)
     ·rw [show s.fr.getD t Z5=Z5 by simp [List.getD,List.getElem?_eq_none (Nat.le_of_not_lt htl)]]
      rfl
  obtain ⟨e',h1,h2,h3,h4,h5,h6,h7⟩:=Zdj l _ _ key (by
   refine List.all_eq_true.2 fun v hv=>?_
   rcases List.mem_or_eq_of_mem_set hv with hv | rfl
   ·have:=List.all_eq_true.1 hu v hv
    cases v <;> simp_all [unOK]
    omega
   ·simp [unOK])
  exact ⟨e',Env.le_trans ⟨[],[],[],[a.tmps.getD d undef],by simp⟩ h1,h2,h3,h4,h5,h6,h7⟩
end Go.Sx
