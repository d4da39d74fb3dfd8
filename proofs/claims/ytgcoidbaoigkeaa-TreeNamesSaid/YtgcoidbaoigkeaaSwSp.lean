/-
  A statement that hands a slice and a closure to a function (sort.SliceStable): an interface, a function value, the call; functions run from a state of one's own.
-/
import Derived.Test.YtgcoidbaoigkeaaSwRi
namespace Go.Sx
open Go.RowKit
set_option linter.unusedVariables false

abbrev SpF := St → TypeId → SC → FuncId → List (Nat × Nat) → Option (List E × (Nat → St))
def concreteB (P : Program) (t : TypeId) : Bool := match P.underlying t with
  | some (.interface _) => false
  | some _ => true
  | none => false
section
variable (P : Program) (g : Nat) (fS : FuncId) (f : SpF)
def sp3 (t : TypeId) (v1 : SC) (n1 : Nat) (o3 : Oper) (s : St) (k : St → T) : T := match o3.op with
  | .call c => match c.callee, c.args.toList with
    | .value F, [y1, y2] => match s.ev F, s.ev y1, s.ev y2 with
      | .w (.o (.f fn [])), .un n, .w (.o (.f gf caps)) => if (decide (fn = fS) && decide (n = n1)) && (callable P fS && (s.sc && v1.sc s.nv s.mem.length s.rows.length)) then (match f s t v1 gf caps with
        | some (es, kk) => .call g es (k ((kk s.nv).put o3.dst (.t [])))
        | none => .fail) else .fail
      | _, _, _ => .fail
    | _, _ => .fail
  | _ => .fail
def sp2 (t : TypeId) (v1 : SC) (n1 : Nat) (o2 o3 : Oper) (s : St) (k : St → T) : T := match op1 P s o2 with
  | some (as, v, s') => asrts as (sp3 P g fS f t v1 n1 o3 (s'.put o2.dst v) k)
  | none => .fail
def sp1 (o1 o2 o3 : Oper) (s : St) (k : St → T) : T := match o1.op with
  | .makeInterface t (.tmp d) => if concreteB P t && s.sc then (match s.ev (.tmp d) with
    | .w (.o v1) => sp2 P g fS f t v1 s.nx o2 o3 (({ s with nx := s.nx + 1 } : St).put o1.dst (.un s.nx)) k
    | _ => .fail) else .fail
  | _ => .fail
def sp0 (ops : Array Oper) (s : St) (k : St → T) : T := match ops.toList with
  | [o0, o1, o2, o3] => if (o0.guard.isNone && o1.guard.isNone) && (o2.guard.isNone && o3.guard.isNone) then (match op1 P s o0 with
    | some (as, v, s') => asrts as (sp1 P g fS f o1 o2 o3 (s'.put o0.dst v) k)
    | none => .fail) else .fail
  | _ => .fail
end

def SpM (P : Program) (fS : FuncId) (sum : Sum) (f : SpF) : Prop :=
  ∀ (W0 : Bas) (e : Env) (s : St) (w : World) (t : TypeId) (v : SC) (gf : FuncId) (caps : List (Nat × Nat)) (es : List E) (kk : Nat → St), Rep e W0 s w → s.sc = true → v.sc s.nv s.mem.length s.rows.length = true →
    f s t v gf caps = some (es, kk) → sum.pre (es.map (E.den e.R e.r)) →
    Calls P fS #[.iface t (v.den e), (SC.f gf caps).den e] w fun x w' => x = .returned (.tuple #[]) ∧ ∃ e', Env.le e e' ∧ e'.r = e.r ++ sum.sem (es.map (E.den e.R e.r)) ∧ Rep e' W0 (kk s.nv) w' ∧
      (kk s.nv).fr = s.fr ∧ (kk s.nv).fl = s.fl ∧ (kk s.nv).flr = s.flr ∧ (kk s.nv).dp = s.dp

section
variable {P : Program} {Γ : List Sum} {Ψ : List Int → Prop} {g : Nat} {fS : FuncId} {f : SpF} {sum : Sum}

theorem getD_le {e e' : Env} (h : Env.le e e') {n : Nat} (hn : n < e.ω.length) : e'.ω.getD n undef = e.ω.getD n undef := by
  obtain ⟨_, _, _, d, _, _, _, hω, _⟩ := h
  rw [hω, getD_app_lt _ _ _ _ hn]

theorem sp3_sound (hg : Γ[g]? = some sum) (hM : SpM P fS sum f) {W0 : Bas} {ops : Array Oper} {Q : Exit → Act → World → Prop} {t : TypeId} {v1 : SC} {n1 : Nat} {o3 : Oper} {s : St} {k : St → T} {bs : List (List Int → Prop)} {e : Env} {a : Act} {w : World}
    (hgd : o3.guard = none) (h : Rel e W0 s a w) (hdp : s.dp = bs.length) (hn : e.ω.getD n1 undef = .iface t (v1.den e)) (hs : (sp3 P g fS f t v1 n1 o3 s k).sat Γ e.R Ψ bs e.r) (hQ : ∀ a' w', Nx Γ Ψ bs W0 e s.fl s.flr k a' w' → Q .normal a' w') : wpList P ops Q [o3] a w := by
  refine wpList_plain hgd fun K hK => ?_
  have hK' : ∀ a' w', Nx Γ Ψ bs W0 e s.fl s.flr k a' w' → K a' w' := fun a' w' hh => hK a' w' (by unfold wpList; exact hQ a' w' hh)
  unfold sp3 at hs
  split at hs
  · rename_i c ho
    split at hs
    · rename_i F y1 y2 hcal hargs
      split at hs
      · rename_i fn n gf caps hF hy1 hy2
        split at hs
        · rename_i hc
          simp only [Bool.and_eq_true, decide_eq_true_eq] at hc
          obtain ⟨⟨rfl, rfl⟩, hcl, hsc, hv1⟩ := hc
          split at hs
          · rename_i es kk hf
            simp only [T.sat, hg] at hs
            obtain ⟨hpre, hs⟩ := hs
            have hevF : a.eval F = .func (.func fn) #[] #[] := by
              rw [h.eval F, hF]
              simp [SV.den, SW.den, SC.den]
            have hrun := run_enter hcl ho hcal hevF w
            have hargs' : c.args.map a.eval ++ #[] = #[.iface t (v1.den e), (SC.f gf caps).den e] := by
              apply Array.ext'
              simp only [Array.append_empty, Array.toList_map, hargs, List.map_cons, List.map_nil, h.eval, hy1, hy2, SV.den, SW.den, hn]
            rw [hargs'] at hrun
            unfold Oper.wp
            rw [hrun]
            simp only [Oper.upon_enter]
            refine (hM W0 e s w t v1 gf caps es kk h.rep hsc hv1 hf hpre).mono ?_
            rintro x w' ⟨rfl, e', hle, hr, hrep, h1, h2, h3, h4⟩
            have hfr : s.fr.map (SV.den e') = s.fr.map (SV.den e) := by
              refine List.map_congr_left fun v hv => SV.den_le hle v ?_
              simp only [St.sc, Bool.and_eq_true] at hsc
              obtain ⟨⟨hf, _⟩, _⟩ := hsc
              rw [← h.rep.nv, ← h.rep.nb, ← h.rep.ng, ← h.rep.nx] at hf
              exact List.all_eq_true.1 hf v hv
            have hrel : Rel e' W0 (kk s.nv) a w' := ⟨hrep, by rw [h.tmps, h1, hfr], h.defs⟩
            have hR : e'.R = e.R := by obtain ⟨_, _, _, _, _, _, _, _, hR⟩ := hle; exact hR
            have hput := hrel.put o3.dst (.t [])
            exact hK' _ _ (Nx.here hle hput (((put_fields _ o3.dst (.t [])).2.2.2.2.1).trans h2) (((put_fields _ o3.dst (.t [])).2.2.2.2.2).trans h3) ((put_dp _ _ _).trans (h4.trans hdp)) (by rw [hr, hR]; exact hs))
          · exact hs.elim
        · exact hs.elim
      · exact hs.elim
    · exact hs.elim
  · exact hs.elim

theorem sp2_sound (hg : Γ[g]? = some sum) (hM : SpM P fS sum f) {W0 : Bas} {ops : Array Oper} {Q : Exit → Act → World → Prop} {t : TypeId} {v1 : SC} {n1 : Nat} {o2 o3 : Oper} {s : St} {k : St → T} {bs : List (List Int → Prop)} {e : Env} {a : Act} {w : World}
    (hg2 : o2.guard = none) (hg3 : o3.guard = none) (h : Rel e W0 s a w) (hdp : s.dp = bs.length) (hnl : n1 < e.ω.length) (hv1 : v1.sc e.r.length e.β.length e.σ.length = true) (hn : e.ω.getD n1 undef = .iface t (v1.den e))
    (hs : (sp2 P g fS f t v1 n1 o2 o3 s k).sat Γ e.R Ψ bs e.r) (hQ : ∀ a' w', Nx Γ Ψ bs W0 e s.fl s.flr k a' w' → Q .normal a' w') : wpList P ops Q [o2, o3] a w := by
  unfold sp2 at hs
  split at hs
  · rename_i as v s' h1
    obtain ⟨has, hs'⟩ := asrts_sat hs
    refine wpList_plain hg2 fun K hK => ?_
    refine Oper.wp_mono' (opOut_wp (k := fun x => sp3 P g fS f t v1 n1 o3 x k) h (op1_sound h1 h.rep (fun x _ => h.eval x) has) hdp hs') ?_
    rintro a3 w3 ⟨s3, e3, more, hle, hrel, hf, hfr, hd, hsat⟩
    have hden : v1.den e3 = v1.den e := SC.den_le hle v1 hv1
    refine hK _ _ (sp3_sound hg hM hg3 hrel hd (by rw [getD_le hle hnl, hn, hden]) hsat ?_)
    rintro a' w' ⟨s', e', more', hle', hrel', hf', hfr', hd', hsat'⟩
    exact hQ a' w' ⟨s', e', more ++ more', hle.trans hle', hrel', hf'.trans hf, hfr'.trans hfr, by rw [← List.append_assoc]; exact hd', by rw [← List.append_assoc]; exact hsat'⟩
  · exact hs.elim

theorem sp1_sound (hg : Γ[g]? = some sum) (hM : SpM P fS sum f) {W0 : Bas} {ops : Array Oper} {Q : Exit → Act → World → Prop} {o1 o2 o3 : Oper} {s : St} {k : St → T} {bs : List (List Int → Prop)} {e : Env} {a : Act} {w : World}
    (hg1 : o1.guard = none) (hg2 : o2.guard = none) (hg3 : o3.guard = none) (h : Rel e W0 s a w) (hdp : s.dp = bs.length)
    (hs : (sp1 P g fS f o1 o2 o3 s k).sat Γ e.R Ψ bs e.r) (hQ : ∀ a' w', Nx Γ Ψ bs W0 e s.fl s.flr k a' w' → Q .normal a' w') : wpList P ops Q [o1, o2, o3] a w := by
  unfold sp1 at hs
  split at hs
  · rename_i t d0 ho
    split at hs
    · rename_i hc
      simp only [Bool.and_eq_true] at hc
      obtain ⟨hct, hsc⟩ := hc
      split at hs
      · rename_i v1 hx
        refine wpList_plain hg1 fun K hK => ?_
        have hev : a.eval (.tmp d0) = v1.den e := by rw [h.eval (.tmp d0), hx]; rfl
        have hrun : (execOp a.eval o1).run P w = .ok (.value (.iface t (v1.den e))) w := by
          unfold concreteB at hct
          split at hct
          · cases hct
          · rename_i d hni hd
            simp only [execOp, ho, Instr.makeInterface, Sem.run_bind, run_underlying hd, Result.andThen_ok, hev]
            cases d with
            | interface ms => exact absurd rfl (hni ms)
            | _ => simp [Sem.run_pure]
          · cases hct
        unfold Oper.wp
        rw [hrun]
        simp only [Oper.upon_value]
        have hscp := hsc
        simp only [St.sc, Bool.and_eq_true] at hscp
        obtain ⟨⟨hf, _⟩, _⟩ := hscp
        rw [← h.rep.nv, ← h.rep.nb, ← h.rep.ng, ← h.rep.nx] at hf
        have hrep := h.rep.un (.iface t (v1.den e)) s.fr
        have hle : Env.le e { e with ω := e.ω ++ [.iface t (v1.den e)] } := ⟨[], [], [], [.iface t (v1.den e)], by simp⟩
        have hrel : Rel { e with ω := e.ω ++ [.iface t (v1.den e)] } W0 { s with nx := s.nx + 1 } a w := ⟨hrep, by
          rw [h.tmps]
          congr 1
          exact List.map_congr_left fun v hv => (SV.den_le hle v (List.all_eq_true.1 hf v hv)).symm, h.defs⟩
        have hput := hrel.put o1.dst (.un s.nx)
        have hval : (SV.un s.nx).den { e with ω := e.ω ++ [.iface t (v1.den e)] } = .iface t (v1.den e) := by
          simp only [SV.den]
          rw [← h.rep.nx]
          simp [List.getD]
        rw [hval] at hput
        have hv1 : v1.sc e.r.length e.β.length e.σ.length = true := by
          have : SV.sc e.r.length e.β.length e.σ.length e.ω.length (s.ev (.tmp d0)) = true := by
            simp only [St.ev]
            by_cases hd : d0 < s.fr.length
            · simp only [List.getD, List.getElem?_eq_getElem hd, Option.getD_some]
              exact List.all_eq_true.1 hf _ (List.getElem_mem hd)
            · simp only [List.getD, List.getElem?_eq_none (Nat.le_of_not_lt hd), Option.getD_none]
              rfl
          rw [hx] at this
          exact this
        refine hK _ _ (sp2_sound (n1 := s.nx) hg hM hg2 hg3 hput ((put_dp _ _ _).trans hdp) (by simp [h.rep.nx]) (by exact hv1) ?_ hs ?_)
        · have hden : v1.den { e with ω := e.ω ++ [.iface t (v1.den e)] } = v1.den e := SC.den_le hle v1 hv1
          rw [hden]
          simp only [← h.rep.nx]
          simp [List.getD]
        · rintro a' w' ⟨s', e', more', hle', hrel', hf', hfr', hd', hsat'⟩
          exact hQ a' w' ⟨s', e', more', hle.trans hle', hrel', hf'.trans (put_fields _ _ _).2.2.2.2.1, hfr'.trans (put_fields _ _ _).2.2.2.2.2, hd', hsat'⟩
      · exact hs.elim
    · exact hs.elim
  · exact hs.elim

theorem sp0_sound (hg : Γ[g]? = some sum) (hM : SpM P fS sum f) {W0 : Bas} {ops : Array Oper} {Q : Exit → Act → World → Prop} {s : St} {k : St → T} {bs : List (List Int → Prop)} {e : Env} {a : Act} {w : World} (h : Rel e W0 s a w) (hdp : s.dp = bs.length)
    (hs : (sp0 P g fS f ops s k).sat Γ e.R Ψ bs e.r) (hQ : ∀ a' w', Nx Γ Ψ bs W0 e s.fl s.flr k a' w' → Q .normal a' w') : wpList P ops Q ops.toList a w := by
  unfold sp0 at hs
  split at hs
  · rename_i o0 o1 o2 o3 hops
    split at hs
    · rename_i hgs
      simp only [Bool.and_eq_true, Option.isNone_iff_eq_none] at hgs
      obtain ⟨⟨g0, g1⟩, g2, g3⟩ := hgs
      split at hs
      · rename_i as v s' h1
        obtain ⟨has, hs'⟩ := asrts_sat hs
        rw [hops]
        refine wpList_plain g0 fun K hK => ?_
        refine Oper.wp_mono' (opOut_wp (k := fun x => sp1 P g fS f o1 o2 o3 x k) h (op1_sound h1 h.rep (fun x _ => h.eval x) has) hdp hs') ?_
        rintro a3 w3 ⟨s3, e3, more, hle, hrel, hf, hfr, hd, hsat⟩
        refine hK _ _ (sp1_sound hg hM g1 g2 g3 hrel hd hsat ?_)
        rintro a' w' ⟨s', e', more', hle', hrel', hf', hfr', hd', hsat'⟩
        exact hQ a' w' ⟨s', e', more ++ more', hle.trans hle', hrel', hf'.trans hf, hfr'.trans hfr, by rw [← List.append_assoc]; exact hd', by rw [← List.append_assoc]; exact hsat'⟩
      · exact hs.elim
    · exact hs.elim
  · exact hs.elim
end

/-! ### a function, run from an own state, with such a region -/
def hasId (id0 : Nat) : Code → Bool
  | .seq x y => hasId id0 x || hasId id0 y
  | .region id _ _ => id == id0
  | _ => false
def symB (id0 : Nat) (sp : Array Oper → St → (St → T) → T) (ex : Code → St → Kont → T) : Code → List Code → St → Kont → T
  | .seq x y, rest, s, k => if hasId id0 x then symB id0 sp ex x (y :: rest) s k else ex x s fun o s' => match o with
    | .norm => if hasId id0 y then symB id0 sp ex y rest s' k else ex (seqs (y :: rest)) s' k
    | o => k o s'
  | .region id ops d, rest, s, k => if id == id0 && !d then sp ops s fun s' => ex (seqs rest) s' k else .fail
  | _, _, _, _ => .fail
section
variable {P : Program} {Γ : List Sum} {Ψ : List Int → Prop} {g : Nat} {fS : FuncId} {f : SpF} {sum : Sum}
theorem symB_sound (hg : Γ[g]? = some sum) (hM : SpM P fS sum f) {id0 : Nat} {ex : Code → St → Kont → T} (hih : IH P Γ ex) {W0 : Bas} {k : Kont} :
    ∀ (c : Code) (rest : List Code) (s : St) (bs : List (List Int → Prop)) (e : Env) (a : Act) (w : World), Rel e W0 s a w → s.dp = bs.length → (symB id0 (sp0 P g fS f) ex c rest s k).sat Γ e.R Ψ bs e.r →
      c.wp P (seqQ P rest (Px Γ Ψ bs W0 e s.fl s.flr k)) a w := by
  have up : ∀ {bs more : List (List Int → Prop)} {e e' : Env} {fl flr fl' flr' : Nat} {x : Exit} {a : Act} {w : World}, Env.le e e' → fl' = fl → flr' = flr → Px Γ Ψ (bs ++ more) W0 e' fl' flr' k x a w → Px Γ Ψ bs W0 e fl flr k x a w := by
    rintro bs more e e' fl flr fl' flr' x a w hle h1 h2 ⟨out, s', e2, more', hx, hle', hrel, hf, hfr, hd, hsat⟩
    exact ⟨out, s', e2, more ++ more', hx, hle.trans hle', hrel, hf.trans h1, hfr.trans h2, by rw [← List.append_assoc]; exact hd, by rw [← List.append_assoc]; exact hsat⟩
  have seqQ_mono : ∀ (l : List Code) {Q Q' : Exit → Act → World → Prop}, (∀ x a w, Q x a w → Q' x a w) → ∀ x a w, seqQ P l Q x a w → seqQ P l Q' x a w := by
    intro l
    induction l with
    | nil => intro Q Q' hQ x a w h; exact hQ x a w h
    | cons y r ih =>
      intro Q Q' hQ x a w h
      have h1 := ih hQ
      cases x with
      | normal => exact wp_mono h h1
      | _ => exact h1 _ _ _ h
  intro c
  induction c with
  | seq x y ihx ihy =>
    intro rest s bs e a w h hdp hs
    simp only [symB] at hs
    split at hs
    · exact wp_seq (ihx (y :: rest) s bs e a w h hdp hs)
    · refine wp_seq (wp_mono (wps_wp x (hih x s _ _ Ψ bs e a w h hdp hs)) ?_)
      rintro ex' a' w' ⟨out, s', e', more, rfl, hle, hrel, hf, hfr, hd, hsat⟩
      cases out with
      | norm =>
        dsimp only at hsat
        split at hsat
        · exact wp_mono (ihy rest s' (bs ++ more) e' a' w' hrel hd hsat) (seqQ_mono rest fun x a w hh => up hle hf hfr hh)
        · have := seqs_wp (y :: rest) (hih (seqs (y :: rest)) s' _ W0 Ψ (bs ++ more) e' a' w' hrel hd hsat)
          exact seqQ_mono (y :: rest) (fun x a w hh => up hle hf hfr hh) _ _ _ this
      | exit id => exact seqQ_out (x := .exit id) (by intro hh; cases hh) ⟨.exit id, s', e', more, rfl, hle, hrel, hf, hfr, hd, hsat⟩ rest
      | ret => exact seqQ_out (x := .ret) (by intro hh; cases hh) ⟨.ret, s', e', more, rfl, hle, hrel, hf, hfr, hd, hsat⟩ rest
  | region id ops d =>
    intro rest s bs e a w h hdp hs
    simp only [symB] at hs
    split at hs
    · rename_i hc
      simp only [Bool.and_eq_true, Bool.not_eq_true'] at hc
      obtain ⟨_, rfl⟩ := hc
      refine wps_wp _ (wps_list (sp0_sound hg hM h hdp hs ?_))
      rintro a' w' ⟨s', e', more, hle, hrel, hf, hfr, hd, hsat⟩
      have := seqs_wp rest (hih (seqs rest) s' _ W0 Ψ (bs ++ more) e' a' w' hrel hd hsat)
      exact seqQ_mono rest (fun x a w hh => up hle hf hfr hh) _ _ _ this
    · exact hs.elim
  | _ => intro rest s bs e a w h hdp hs; simp only [symB] at hs; exact hs.elim

theorem calls_own {W0 : Bas} {e : Env} {s : St} {w : World} {args : List SV} {fn : FuncId} {F : Func} {body : Code} {k : Kont} {R : Ending → World → Prop} {bs : List (List Int → Prop)} (h : Rep e W0 s w)
    (hF : P.funcs[fn]? = some F) (hb : F.body = some body)
    (hw : ∀ a, Rel e W0 { s with fr := args ++ List.replicate (F.ntmps - args.length) undefS } a w → body.wp P (Px Γ Ψ bs W0 e s.fl s.flr k) a w)
    (hk : ∀ out s' e' a' w' more, Rel e' W0 s' a' w' → Env.le e e' → (k out s').sat Γ e'.R Ψ (bs ++ more) e'.r → (∀ id, out ≠ .exit id) ∧ ∃ v, (results F a'.tmps).run P w' = .ok v w' ∧ R (.returned v) w') :
    Calls P fn (args.map (SV.den e)).toArray w R := by
  refine calls_of_wp hF hb ?_
  have hrel : Rel e W0 { s with fr := args ++ List.replicate (F.ntmps - args.length) undefS } { tmps := (args.map (SV.den e)).toArray ++ Array.replicate (F.ntmps - (args.map (SV.den e)).toArray.size) undef, defers := [] } w :=
    ⟨h.fr _, by
      apply Array.ext'
      simp [den_undefS], rfl⟩
  refine wp_mono (hw _ hrel) ?_
  rintro x a' w' ⟨out, s', e', more, rfl, hle, hrel', hf, hfr, hd, hsat⟩
  obtain ⟨hne, v, h1, h2⟩ := hk out s' e' a' w' more hrel' hle hsat
  cases out with
  | norm => exact ⟨hrel'.defs, _, h1, h2⟩
  | exit id => exact absurd rfl (hne id)
  | ret => exact ⟨hrel'.defs, _, h1, h2⟩
#print axioms symB_sound
#print axioms calls_own
end
end Go.Sx
namespace Go.Sx
open Go.RowKit
def ownT (P : Program) (lp : St → Code → Option Plan) (Γ : List Sum) (fuel : Nat) (fn : FuncId) (s : St) (args : List SV) (k : Func → Kont) : T := match P.funcs[fn]? with
  | some F => match F.body with
    | some body => exec P lp Γ fuel body { s with fr := args ++ List.replicate (F.ntmps - args.length) undefS } (k F)
    | none => .fail
  | none => .fail
def ownB (P : Program) (lp : St → Code → Option Plan) (Γ : List Sum) (fuel : Nat) (fn : FuncId) (s : St) (args : List SV) (id0 g : Nat) (fS : FuncId) (f : SpF) (k : Func → Kont) : T := match P.funcs[fn]? with
  | some F => match F.body with
    | some body => symB id0 (sp0 P g fS f) (exec P lp Γ fuel) body [] { s with fr := args ++ List.replicate (F.ntmps - args.length) undefS } (k F)
    | none => .fail
  | none => .fail
section
variable {P : Program} {Γ : List Sum} {Ψ : List Int → Prop}
theorem ownT_done (hm : P.follows .mixedOrders = true) (hG : Gok P Γ) {lp : St → Code → Option Plan} {fuel : Nat} {fn : FuncId} {s : St} {args : List SV} {rs : List Sh} {W0 : Bas} {e : Env} {w : World} (h : Rep e W0 s w) (hdp : s.dp = 0)
    (hs : (ownT P lp Γ fuel fn s args fun F => doneK P F rs).sat Γ e.R Ψ [] e.r) : Calls P fn (args.map (SV.den e)).toArray w fun x w' => ∃ ys v, x = .returned v ∧ Ψ ys ∧ ResOK W0.may w' rs v ys ∧ BelowX W0 w' := by
  unfold ownT at hs
  split at hs
  · rename_i F hF
    split at hs
    · rename_i body hb
      exact calls_done (bs := []) (exec_sound hm (lp := lp) hG fuel) h (by simpa using hdp) hF hb hs
    · exact hs.elim
  · exact hs.elim
theorem ownT_own (hm : P.follows .mixedOrders = true) (hG : Gok P Γ) {lp : St → Code → Option Plan} {fuel : Nat} {fn : FuncId} {s : St} {args : List SV} {W0 : Bas} {e : Env} {w : World} {k : Func → Kont} {R : Ending → World → Prop} (h : Rep e W0 s w) (hdp : s.dp = 0)
    (hs : (ownT P lp Γ fuel fn s args k).sat Γ e.R Ψ [] e.r)
    (hk : ∀ F out s' e' a' w' more, Rel e' W0 s' a' w' → Env.le e e' → (k F out s').sat Γ e'.R Ψ more e'.r → (∀ id, out ≠ .exit id) ∧ ∃ v, (results F a'.tmps).run P w' = .ok v w' ∧ R (.returned v) w') :
    Calls P fn (args.map (SV.den e)).toArray w R := by
  unfold ownT at hs
  split at hs
  · rename_i F hF
    split at hs
    · rename_i body hb
      refine calls_own (Γ := Γ) (Ψ := Ψ) (bs := []) (k := k F) h hF hb (fun a hrel => ?_) (fun out s' e' a' w' more hrel hle hsat => hk F out s' e' a' w' _ hrel hle hsat)
      have := exec_sound hm (lp := lp) hG fuel body { s with fr := args ++ List.replicate (F.ntmps - args.length) undefS } (k F) W0 Ψ [] e a w hrel (by simpa using hdp) hs
      exact wps_wp body this
    · exact hs.elim
  · exact hs.elim
theorem ownB_own (hm : P.follows .mixedOrders = true) (hG : Gok P Γ) {lp : St → Code → Option Plan} {fuel : Nat} {fn : FuncId} {s : St} {args : List SV} {W0 : Bas} {e : Env} {w : World} {id0 g : Nat} {fS : FuncId} {f : SpF} {sum : Sum} {k : Func → Kont} {R : Ending → World → Prop}
    (hg : Γ[g]? = some sum) (hM : SpM P fS sum f) (h : Rep e W0 s w) (hdp : s.dp = 0)
    (hs : (ownB P lp Γ fuel fn s args id0 g fS f k).sat Γ e.R Ψ [] e.r)
    (hk : ∀ F out s' e' a' w' more, Rel e' W0 s' a' w' → Env.le e e' → (k F out s').sat Γ e'.R Ψ more e'.r → (∀ id, out ≠ .exit id) ∧ ∃ v, (results F a'.tmps).run P w' = .ok v w' ∧ R (.returned v) w') :
    Calls P fn (args.map (SV.den e)).toArray w R := by
  unfold ownB at hs
  split at hs
  · rename_i F hF
    split at hs
    · rename_i body hb
      refine calls_own (Γ := Γ) (Ψ := Ψ) (bs := []) (k := k F) h hF hb (fun a hrel => ?_) (fun out s' e' a' w' more hrel hle hsat => hk F out s' e' a' w' _ hrel hle hsat)
      have := symB_sound hg hM (exec_sound hm (lp := lp) hG fuel) body [] _ [] e a w hrel (by simpa using hdp) hs
      exact this
    · exact hs.elim
  · exact hs.elim
theorem ownT_done' {T0 : T} (hm : P.follows .mixedOrders = true) (hG : Gok P Γ) {lp : St → Code → Option Plan} {fuel : Nat} {fn : FuncId} {s : St} {args : List SV} {rs : List Sh} {W0 : Bas} {e : Env} {w : World} (h : Rep e W0 s w) (hdp : s.dp = 0)
    (hT : ownT P lp Γ fuel fn s args (fun F => doneK P F rs) = T0) (hs : T0.sat Γ [] Ψ [] e.r) : Calls P fn (args.map (SV.den e)).toArray w fun x w' => ∃ ys v, x = .returned v ∧ Ψ ys ∧ ResOK W0.may w' rs v ys ∧ BelowX W0 w' := by
  rw [T.sat_R [] e.R] at hs
  subst hT
  exact ownT_done hm hG h hdp hs
theorem ownT_own' {T0 : T} (hm : P.follows .mixedOrders = true) (hG : Gok P Γ) {lp : St → Code → Option Plan} {fuel : Nat} {fn : FuncId} {s : St} {args : List SV} {W0 : Bas} {e : Env} {w : World} {k : Func → Kont} {R : Ending → World → Prop} (h : Rep e W0 s w) (hdp : s.dp = 0)
    (hT : ownT P lp Γ fuel fn s args k = T0) (hs : T0.sat Γ [] Ψ [] e.r)
    (hk : ∀ F out s' e' a' w' more, Rel e' W0 s' a' w' → Env.le e e' → (k F out s').sat Γ e'.R Ψ more e'.r → (∀ id, out ≠ .exit id) ∧ ∃ v, (results F a'.tmps).run P w' = .ok v w' ∧ R (.returned v) w') :
    Calls P fn (args.map (SV.den e)).toArray w R := by
  rw [T.sat_R [] e.R] at hs
  subst hT
  exact ownT_own hm hG h hdp hs hk
theorem ownB_own' {T0 : T} (hm : P.follows .mixedOrders = true) (hG : Gok P Γ) {lp : St → Code → Option Plan} {fuel : Nat} {fn : FuncId} {s : St} {args : List SV} {W0 : Bas} {e : Env} {w : World} {id0 g : Nat} {fS : FuncId} {f : SpF} {sum : Sum} {k : Func → Kont} {R : Ending → World → Prop}
    (hg : Γ[g]? = some sum) (hM : SpM P fS sum f) (h : Rep e W0 s w) (hdp : s.dp = 0)
    (hT : ownB P lp Γ fuel fn s args id0 g fS f k = T0) (hs : T0.sat Γ [] Ψ [] e.r)
    (hk : ∀ F out s' e' a' w' more, Rel e' W0 s' a' w' → Env.le e e' → (k F out s').sat Γ e'.R Ψ more e'.r → (∀ id, out ≠ .exit id) ∧ ∃ v, (results F a'.tmps).run P w' = .ok v w' ∧ R (.returned v) w') :
    Calls P fn (args.map (SV.den e)).toArray w R := by
  rw [T.sat_R [] e.R] at hs
  subst hT
  exact ownB_own hm hG hg hM h hdp hs hk
end
end Go.Sx
