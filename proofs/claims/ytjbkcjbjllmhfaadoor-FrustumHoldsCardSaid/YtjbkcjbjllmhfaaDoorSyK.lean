/-
  Symbolic execution: calls, appends, sequences.
-/
import Derived.Test.YtjbkcjbjllmhfaaDoorSyJ
namespace Go.Sx
open Go.RowKit

variable {P : Program} {Γ : List Sum} {Ψ : List Int → Prop} {bs : List (List Int → Prop)}

/-- Every summary in the list is right. -/
def Gok (P : Program) (Γ : List Sum) : Prop := ∀ s ∈ Γ, s.ok P

theorem findSum_spec {fn : FuncId} : ∀ {l : List Sum} {g0 g : Nat} {s : Sum}, findSum fn l g0 = some (g, s) → s.fn = fn ∧ ∃ j, g = g0 + j ∧ l[j]? = some s
  | [], _, _, _, h => by simp [findSum] at h
  | x :: l, g0, g, s, h => by
    simp only [findSum] at h
    split at h
    · rename_i hx
      simp only [Option.some.injEq, Prod.mk.injEq] at h
      obtain ⟨rfl, rfl⟩ := h
      exact ⟨hx, 0, rfl, rfl⟩
    · obtain ⟨h1, j, h2, h3⟩ := findSum_spec h
      exact ⟨h1, j + 1, by omega, by simpa using h3⟩

theorem callable_spec {fn : FuncId} (h : callable P fn = true) : ∃ F body, P.funcs[fn]? = some F ∧ F.body = some body ∧ (F.name == "runtime.NumGoroutine") = false := by
  unfold callable at h
  split at h
  · rename_i F hF
    simp only [Bool.and_eq_true, bne_iff_ne, ne_eq] at h
    obtain ⟨body, hb⟩ := Option.isSome_iff_exists.1 h.1
    exact ⟨F, body, hF, hb, by simpa using h.2⟩
  · cases h

/-- A call of a function by its value enters it. -/
theorem run_enter {fn : FuncId} (hc : callable P fn = true) {o : Oper} {c : Call} {F : Operand} (ho : o.op = .call c) (hcal : c.callee = .value F) {ev : Operand → Value} {caps : Array Value} (hF : ev F = .func (.func fn) #[] caps) (w : World) :
    (execOp ev o).run P w = .ok (.enter fn (c.args.map ev ++ caps)) w := by
  obtain ⟨Fn, body, h1, h2, h3⟩ := callable_spec hc
  simp only [execOp, ho, resolve, hcal, hF, Deferred.ofValue, pure_bind, invoke, callFunc, Sem.run_bind, run_program, Result.andThen_ok, h1, h2, h3]
  simp

/-- What a call leaves. -/
theorem glIn_ok {a b : List (Nat × List Int)} {w : World} (h : glIn a b = true) (hb : GlOK b w) : GlOK a w := by
  intro p hp
  obtain ⟨q, hq, hs⟩ := List.any_eq_true.1 (List.all_eq_true.1 h p hp)
  simp only [sameG, Bool.and_eq_true, beq_iff_eq] at hs
  have : p = q := Prod.ext hs.1 hs.2
  subst this
  exact hb p hq

theorem callW_sum {s : St} {a : Act} {w : World} {W0 : World} {e : Env} {sum : Sum} {es : List E} {args : List SV} {g : Nat} {dst : Option Tmp} {k : St → T} (hG : Gok P Γ) (h : Rel e W0 s a w) (hsc : s.sc = true)
    (hg : Γ[g]? = some sum) (hgl : glIn sum.gl s.gl = true) (hfl : flats sum.ps args = some es)
    (hs : (T.call g es (k ({ s with nv := s.nv + total sum.rs }.put dst (resE sum.rs (varsFrom s.nv (total sum.rs)))))).sat Γ e.R Ψ bs e.r) :
    Calls P sum.fn (args.map (SV.den e)).toArray w fun x w' => ∃ v, x = .returned v ∧ Nx Γ Ψ bs W0 e s.fl s.flr k (a.put dst v) w' := by
  simp only [T.sat, hg] at hs
  obtain ⟨hpre, hs⟩ := hs
  obtain ⟨hlen, hden⟩ := flats_den (e := e) hfl
  obtain ⟨_, hok⟩ := hG sum (List.mem_of_getElem? hg)
  obtain ⟨hl, hcalls⟩ := hok (es.map (E.den e.R e.r)) w (glIn_ok hgl h.rep.glw) (by simpa using hlen) hpre
  rw [hden]
  refine hcalls.mono fun x w' ⟨hx, hb⟩ => ⟨_, hx, ?_⟩
  obtain ⟨hrep, hfr, hle⟩ := h.rep.vars hsc (sum.sem (es.map (E.den e.R e.r)))
  rw [hl] at hrep
  have hrel : Rel { e with r := e.r ++ sum.sem (es.map (E.den e.R e.r)) } W0 { s with nv := s.nv + total sum.rs } a w' :=
    ⟨hrep.grown hb, by rw [h.tmps]; congr 1; exact List.map_congr_left fun v hv => (hfr v hv).symm, h.defs⟩
  have hres : (resE sum.rs (varsFrom s.nv (total sum.rs))).den { e with r := e.r ++ sum.sem (es.map (E.den e.R e.r)) } = mkRes sum.rs (sum.sem (es.map (E.den e.R e.r))) := by
    rw [resE_den]
    congr 1
    rw [← h.rep.nv]
    exact varsFrom_den hl
  rw [← hres]
  exact ⟨_, _, hle, hrel.put dst _, (put_fields _ dst _).2.2.2.2.1, (put_fields _ dst _).2.2.2.2.2, hs⟩

/-! ### results -/
theorem loadS_run {e : Env} {W0 : World} {s : St} {w : World} (h : Rep e W0 s w) {t : TypeId} {v : SV} {y : SW} (hl : loadS P s t v = some y) : ∃ a, v.den e = .pointer (some a) ∧ (loadVar t a).run P w = .ok (y.den e) w := by
  unfold loadS at hl
  split at hl
  · rename_i n off
    split at hl
    · rename_i b hb
      split at hl
      · rename_i hlive
        refine ⟨⟨e.β.getD n 0, off, none⟩, rfl, ?_⟩
        have := run_loadVar_at (w := w) (e := e) hl (e.β.getD n 0) 0 (fun j hj => by rw [Nat.zero_add]; exact blk_cell h hb hlive j hj)
        rwa [Nat.zero_add] at this
      · cases hl
    · cases hl
  · cases hl

theorem tmps_getD {e : Env} {W0 : World} {s : St} {a : Act} {w : World} (h : Rel e W0 s a w) (t : Nat) : a.tmps.getD t undef = (s.fr.getD t undefS).den e := h.eval (.tmp t)

theorem resVars_run {e : Env} {W0 : World} {s : St} {a : Act} {w : World} (h : Rel e W0 s a w) : ∀ {l : List ResultVar} {ys : List SW}, resVars P s l = some ys →
    (l.mapM (m := Sem) fun
      | .tmp t => pure (a.tmps.getD t undef)
      | .cell x t => do loadVar t (← asAddr (a.tmps.getD x undef))).run P w = .ok (ys.map (SW.den e)) w
  | [], ys, hy => by simp only [resVars, Option.some.injEq] at hy; subst hy; simp
  | .tmp t :: l, ys, hy => by
    simp only [resVars] at hy
    split at hy
    · rename_i y ys' h1 h2
      simp only [Option.some.injEq] at hy
      subst hy
      have ih := resVars_run h h2
      simp only [List.mapM_cons, Sem.run_bind, Sem.run_pure, Result.andThen_ok, ih, tmps_getD h t, h1, List.map_cons]
      rfl
    · cases hy
  | .cell x t :: l, ys, hy => by
    simp only [resVars] at hy
    split at hy
    · rename_i y ys' h1 h2
      simp only [Option.some.injEq] at hy
      subst hy
      have ih := resVars_run h h2
      obtain ⟨ad, had, hrun⟩ := loadS_run h.rep h1
      have hasA : (asAddr (.pointer (some ad))).run P w = .ok ad w := rfl
      simp only [List.mapM_cons, Sem.run_bind, tmps_getD h x, had, hasA, Result.andThen_ok, hrun, ih, List.map_cons, Sem.run_pure]
    · cases hy

theorem resOf_run {e : Env} {W0 : World} {s : St} {a : Act} {w : World} {F : Func} {v : SV} (h : Rel e W0 s a w) (hv : resOf P F s = some v) : (results F a.tmps).run P w = .ok (v.den e) w := by
  unfold resOf at hv
  have key : ∀ {ys : List SW}, resVars P s F.results.toList = some ys → (results F a.tmps).run P w = .ok (if hh : (ys.map (SW.den e)).toArray.size = 1 then (ys.map (SW.den e)).toArray[0] else .tuple (ys.map (SW.den e)).toArray) w := by
    intro ys hy
    have := resVars_run h hy
    unfold results
    rw [Array.mapM_eq_mapM_toList]
    simp only [Sem.run_bind, Sem.run_map, Sem.run_pure]
    refine (congrArg (fun x => (Result.andThen (Result.andThen x _) _)) this).trans ?_
    rfl
  split at hv
  · rename_i y hy
    simp only [Option.some.injEq] at hv
    subst hv
    rw [key hy]
    rfl
  · rename_i ys hne hy
    simp only [Option.some.injEq] at hv
    subst hv
    rw [key hy]
    have : ¬ (ys.map (SW.den e)).toArray.size = 1 := by
      intro hh
      simp at hh
      match ys, hh with
      | [y], _ => exact hne y rfl
    rw [dif_neg this]
    rfl
  · cases hv

/-- Back in the caller. -/
theorem popT_rel {e e' : Env} {W0 : World} {s s' : St} {a a' : Act} {w w' : World} {v : SV} (h : Rel e W0 s a w) (hsc : s.sc = true) (hle : Env.le e e') (h' : Rel e' W0 s' a' w') (hf : s'.fl = s.fl) (hfr : s'.flr = s.flr) :
    ∃ e'', Env.le e e'' ∧ Rel e'' W0 (popT s s' v) a w' ∧ v.den e'' = v.den e' ∧ e''.r = e'.r ∧ e''.R = e'.R ∧ (popT s s' v).fl = s.fl ∧ (popT s s' v).flr = s.flr := by
  have hsc' := hsc
  simp only [St.sc, Bool.and_eq_true] at hsc'
  obtain ⟨⟨hfs, _⟩, _⟩ := hsc'
  rw [← h.rep.nv, ← h.rep.nb, ← h.rep.ng, ← h.rep.nx] at hfs
  have hfrm : ∀ {e'' : Env}, Env.le e e'' → a.tmps = (s.fr.map (SV.den e'')).toArray := fun hl => by
    rw [h.tmps]
    congr 1
    exact List.map_congr_left fun x hx => (SV.den_le hl x (List.all_eq_true.1 hfs x hx)).symm
  unfold popT
  split
  · rename_i hc
    simp only [Bool.and_eq_true] at hc
    obtain ⟨⟨hv, hm⟩, hr⟩ := hc
    obtain ⟨p, q, x, y, h1, h2, h3, h4, h5⟩ := hle
    have hlike : Env.like s.mem.length s.rows.length e' { e' with β := e'.β.take s.mem.length, σ := e'.σ.take s.rows.length } :=
      ⟨rfl, rfl, rfl, fun n hn => by simp [List.getD, hn], fun n hn => by simp [List.getD, hn]⟩
    have hle'' : Env.le e { e' with β := e'.β.take s.mem.length, σ := e'.σ.take s.rows.length } :=
      ⟨p, [], [], y, h1, by simp [h2, ← h.rep.nb], by simp [h3, ← h.rep.ng], h4, h5⟩
    have hml : s.mem.length ≤ s'.mem.length := by rw [← h.rep.nb, ← h'.rep.nb, h2]; simp
    have hrl : s.rows.length ≤ s'.rows.length := by rw [← h.rep.ng, ← h'.rep.ng, h3]; simp
    have hmt : ∀ {n : Nat} {b : Blk}, (s'.mem.take s.mem.length)[n]? = some b → n < s.mem.length ∧ s'.mem[n]? = some b ∧ b.cells.all (SC.scp s.mem.length s.rows.length) = true := fun {n b} hb => by
      have hall := List.all_eq_true.1 hm b (List.mem_of_getElem? hb)
      rw [List.getElem?_take] at hb
      split at hb
      · rename_i hn; exact ⟨hn, hb, hall⟩
      · cases hb
    have hrt : ∀ {n : Nat} {b : Row}, (s'.rows.take s.rows.length)[n]? = some b → n < s.rows.length ∧ s'.rows[n]? = some b ∧ b.cells.all (SC.scp s.mem.length s.rows.length) = true := fun {n b} hb => by
      have hall := List.all_eq_true.1 hr b (List.mem_of_getElem? hb)
      rw [List.getElem?_take] at hb
      split at hb
      · rename_i hn; exact ⟨hn, hb, hall⟩
      · cases hb
    have g := h'.rep
    refine ⟨_, hle'', ⟨⟨g.below, ?_, ?_, g.nv, g.nx, ?_, ?_, ?_, ?_, ?_, ?_, ?_, ?_, g.reg, g.gl⟩, hfrm hle'', h.defs⟩, SV.den_like hlike v hv, rfl, rfl, rfl, rfl⟩
    · simp [g.nb, hml]
    · simp [g.ng, hrl]
    · intro n b hb hl
      obtain ⟨hn, hb', hall⟩ := hmt hb
      show w'.heap[(e'.β.take s.mem.length).getD n 0]? = _
      rw [show (e'.β.take s.mem.length).getD n 0 = e'.β.getD n 0 from hlike.β n hn, map_den_like hlike hall]
      exact g.blk n b hb' hl
    · intro n b hb hl hfl
      obtain ⟨hn, hb', hall⟩ := hmt hb
      show W0.heap.size ≤ (e'.β.take s.mem.length).getD n 0
      rw [show (e'.β.take s.mem.length).getD n 0 = e'.β.getD n 0 from hlike.β n hn]
      exact g.own n b hb' hl (by rw [hf]; exact hfl)
    · intro n m b c hb hc hlb hlc heq
      obtain ⟨hn, hb', _⟩ := hmt hb
      obtain ⟨hm', hc', _⟩ := hmt hc
      refine g.sep n m b c hb' hc' hlb hlc ?_
      rw [← hlike.β n hn, ← hlike.β m hm']
      exact heq
    · intro n b hb hl
      obtain ⟨hn, hb', hall⟩ := hrt hb
      show w'.ownsRow 0 _ _ ((e'.σ.take s.rows.length).getD n undef) _ _
      rw [show (e'.σ.take s.rows.length).getD n undef = e'.σ.getD n undef from hlike.σ n hn, map_den_like hlike hall]
      exact g.row n b hb' hl
    · intro n b hb hl hfl j hj
      obtain ⟨hn, hb', _⟩ := hrt hb
      refine g.rown n b hb' hl (by rw [hfr]; exact hfl) j ?_
      rw [← hlike.σ n hn]
      exact hj
    · intro n m b c j hb hc hlb hlc h6 h7
      obtain ⟨hn, hb', _⟩ := hrt hb
      obtain ⟨hm', hc', _⟩ := hrt hc
      refine g.rsep n m b c j hb' hc' hlb hlc ?_ ?_
      · rw [← hlike.σ n hn]; exact h6
      · rw [← hlike.σ m hm']; exact h7
    · intro n m b c hb hc hlb hlc
      obtain ⟨hn, hb', _⟩ := hmt hb
      obtain ⟨hm', hc', _⟩ := hrt hc
      have := g.brs n m b c hb' hc' hlb hlc
      rw [← hlike.β n hn, ← hlike.σ m hm'] at this
      exact this
    · intro n hn
      have hn' : n < s.rows.length := by
        have : n < (e'.σ.take s.rows.length).length := hn
        simp only [List.length_take] at this
        omega
      show ∃ a l c, (e'.σ.take s.rows.length).getD n undef = _
      rw [show (e'.σ.take s.rows.length).getD n undef = e'.σ.getD n undef from hlike.σ n hn']
      exact g.sl n (by rw [g.ng]; omega)
  · have g := h'.rep
    refine ⟨e', hle, ⟨⟨g.below, g.nb, g.ng, g.nv, g.nx, g.blk, ?_, g.sep, g.row, ?_, g.rsep, g.brs, g.sl, g.reg, g.gl⟩, hfrm hle, h.defs⟩, rfl, rfl, rfl, rfl, rfl⟩
    · intro n b hb hl hfl
      exact g.own n b hb hl (by rw [hf]; exact hfl)
    · intro n b hb hl hfl
      exact g.rown n b hb hl (by rw [hfr]; exact hfl)

theorem den_undefS (e : Env) : undefS.den e = undef := rfl

/-- A callee, run in place. -/
theorem callW_in {ih : Code → St → Kont → T} (hih : IH P Γ ih) {s : St} {a : Act} {w : World} {W0 : World} {e : Env} {args : List SV} {fn : FuncId} {F : Func} {body : Code} {dst : Option Tmp} {k : St → T} (h : Rel e W0 s a w) (hsc : s.sc = true)
    (hF : P.funcs[fn]? = some F) (hb : F.body = some body)
    (hs : (ih body { s with fr := args ++ List.replicate (F.ntmps - args.length) undefS } fun out s' => match out with
              | .exit _ => .fail
              | _ => match resOf P F s' with
                | some v => k ((popT s s' v).put dst v)
                | none => .fail).sat Γ e.R Ψ bs e.r) :
    Calls P fn (args.map (SV.den e)).toArray w fun x w' => ∃ v, x = .returned v ∧ Nx Γ Ψ bs W0 e s.fl s.flr k (a.put dst v) w' := by
  refine calls_of_wp hF hb ?_
  have hrel : Rel e W0 { s with fr := args ++ List.replicate (F.ntmps - args.length) undefS } { tmps := (args.map (SV.den e)).toArray ++ Array.replicate (F.ntmps - (args.map (SV.den e)).toArray.size) undef, defers := [] } w :=
    ⟨h.rep.fr _, by
      apply Array.ext'
      simp [den_undefS], rfl⟩
  refine wp_mono (hih _ _ _ W0 Ψ bs e _ w hrel hs) ?_
  rintro x a' w' ⟨out, s', e', rfl, hle, hrel', hf, hfr, hsat⟩
  have fin : ∀ {v : SV}, resOf P F s' = some v → (k ((popT s s' v).put dst v)).sat Γ e'.R Ψ bs e'.r →
      a'.defers = [] ∧ ∃ v, (results F a'.tmps).run P w' = .ok v w' ∧ ∃ v', Ending.returned v = .returned v' ∧ Nx Γ Ψ bs W0 e s.fl s.flr k (a.put dst v') w' := by
    intro v hv hk
    refine ⟨hrel'.defs, _, resOf_run hrel' hv, _, rfl, ?_⟩
    obtain ⟨e'', hle'', hrel'', hvd, hr, hR, h1, h2⟩ := popT_rel (v := v) h hsc hle hrel' hf hfr
    rw [← hvd]
    exact ⟨_, e'', hle'', hrel''.put dst v, (put_fields _ dst v).2.2.2.2.1.trans h1, (put_fields _ dst v).2.2.2.2.2.trans h2, by rw [hr, hR]; exact hk⟩
  cases out with
  | norm =>
    dsimp only at hsat
    split at hsat
    · rename_i v hv; exact fin hv hsat
    · exact hsat.elim
  | exit id => exact hsat.elim
  | ret =>
    dsimp only at hsat
    split at hsat
    · rename_i v hv; exact fin hv hsat
    · exact hsat.elim

end Go.Sx
