/-
  Symbolic execution: calls, and operations in sequence.
-/
import Derived.Test.YtjbkcjbjllmhfaaDoorSyI
namespace Go.Sx
open Go.RowKit

structure Rel (e : Env) (W0 : World) (s : St) (a : Act) (w : World) : Prop where
  rep : Rep e W0 s w
  tmps : a.tmps = (s.fr.map (SV.den e)).toArray
  defs : a.defers = []

theorem Rep.fr {e : Env} {W0 : World} {s : St} {w : World} (h : Rep e W0 s w) (x : List SV) : Rep e W0 { s with fr := x } w :=
  ⟨h.below, h.nb, h.ng, h.nv, h.nx, h.blk, h.own, h.sep, h.row, h.rown, h.rsep, h.brs, h.sl, h.reg, h.gl⟩

theorem Rel.eval {e : Env} {W0 : World} {s : St} {a : Act} {w : World} (h : Rel e W0 s a w) (x : Operand) : a.eval x = (s.ev x).den e := by
  cases x with
  | tmp t =>
    simp only [Act.eval, St.ev, h.tmps]
    by_cases ht : t < s.fr.length
    · simp [List.getD, ht]
    · simp [List.getD, ht, undefS, SV.den, undef]
  | const v => simp [Act.eval, St.ev, SV.den]
  | global g => rfl
  | func f => rfl

theorem Rel.put {e : Env} {W0 : World} {s : St} {a : Act} {w : World} (h : Rel e W0 s a w) (dst : Option Tmp) (v : SV) : Rel e W0 (s.put dst v) (a.put dst (v.den e)) w := by
  cases dst with
  | none => exact h
  | some d =>
    refine ⟨h.rep.fr _, ?_, h.defs⟩
    simp only [St.put, Act.put, h.tmps]
    apply Array.ext'
    simp [List.map_set]

theorem put_fields (s : St) (dst : Option Tmp) (v : SV) : (s.put dst v).mem = s.mem ∧ (s.put dst v).rows = s.rows ∧ (s.put dst v).nv = s.nv ∧ (s.put dst v).nx = s.nx ∧ (s.put dst v).fl = s.fl ∧ (s.put dst v).flr = s.flr := by
  cases dst <;> exact ⟨rfl, rfl, rfl, rfl, rfl, rfl⟩

theorem put_gl (s : St) (dst : Option Tmp) (v : SV) : (s.put dst v).gl = s.gl := by
  cases dst <;> rfl

/-- Memory that was there is as it was: what is known stays known. -/
theorem Rep.grown {e : Env} {W0 : World} {s : St} {w w' : World} (h : Rep e W0 s w) (hb : Below w.heap.size w w') : Rep e W0 s w' := by
  refine ⟨h.below.trans (hb.mono h.below.size), h.nb, h.ng, h.nv, h.nx, ?_, h.own, h.sep, ?_, h.rown, h.rsep, h.brs, h.sl, h.reg, h.gl⟩
  · intro n b hn hl
    have := h.blk n b hn hl
    rw [hb.block _ (heap_lt this)]
    exact this
  · intro n b hn hl
    exact (h.row n b hn hl).kept (row := none) ⟨hb.os, hb.tape, hb.output, hb.size, fun k hk _ => hb.block k hk⟩ (by cases (e.σ.getD n undef).ownBlock <;> simp)

/-! ### trees -/
section
variable {Γ : List Sum} {R : List Reg} {Ψ : List Int → Prop} {bs : List (List Int → Prop)} {r : List Int}

theorem asrts_sat {as : List B} {t : T} (h : (asrts as t).sat Γ R Ψ bs r) : (∀ b ∈ as, b.den R r = true) ∧ t.sat Γ R Ψ bs r := by
  induction as with
  | nil => exact ⟨by simp, h⟩
  | cons b l ih =>
    have key : b.den R r = true ∧ (asrts l t).sat Γ R Ψ bs r := by
      unfold asrts at h
      split at h
      · rename_i heq
        cases heq
      · rename_i heq
        simp only [List.cons.injEq] at heq
        obtain ⟨rfl, rfl⟩ := heq
        exact ⟨rfl, h⟩
      · rename_i heq
        simp only [List.cons.injEq] at heq
        obtain ⟨rfl, rfl⟩ := heq
        exact h
    obtain ⟨h3, h4⟩ := ih key.2
    refine ⟨?_, h4⟩
    intro c hc
    rcases List.mem_cons.1 hc with rfl | hc
    · exact key.1
    · exact h3 c hc
end

variable {P : Program} {Γ : List Sum} {Ψ : List Int → Prop} {bs : List (List Int → Prop)}

theorem slotB_spec {s : St} {t : Tmp} {b : B} (h : slotB s t = some b) : t < s.fr.length ∧ s.fr.getD t undefS = one (.b b) := by
  unfold slotB at h
  split at h
  · rename_i x hx
    simp only [Option.some.injEq] at h
    subst h
    refine ⟨?_, hx⟩
    rcases Nat.lt_or_ge t s.fr.length with ht | ht
    · exact ht
    · simp [List.getD, List.getElem?_eq_none ht, undefS] at hx
  · cases h

theorem Rel.setB {e : Env} {W0 : World} {s : St} {a : Act} {w : World} (h : Rel e W0 s a w) {t : Tmp} {b : B} (hb : slotB s t = some b) (x : Bool) (hx : b.den e.R e.r = x) : Rel e W0 (s.put (some t) (one (.b (.c x)))) a w := by
  obtain ⟨ht, hs⟩ := slotB_spec hb
  refine ⟨h.rep.fr _, ?_, h.defs⟩
  simp only [St.put, h.tmps]
  congr 1
  apply List.ext_getElem?
  intro j
  simp only [List.getElem?_map, List.getElem?_set]
  split
  · rename_i hj
    subst hj
    have : s.fr[t]? = some (one (.b b)) := by simpa [List.getD, ht] using hs
    rw [this]
    simp [one, SV.den, SW.den, SC.den, B.den, hx]
  · rfl

/-- A fork leaves a state of the same memory. -/
theorem forkO_sat {e : Env} {W0 : World} {s : St} {a : Act} {w : World} {t : Option Tmp} {k : St → T} (h : Rel e W0 s a w) (hs : (forkO t s k).sat Γ e.R Ψ bs e.r) :
    ∃ x, Rel e W0 { s with fr := x } a w ∧ (k { s with fr := x }).sat Γ e.R Ψ bs e.r := by
  unfold forkO at hs
  split at hs
  · exact ⟨s.fr, h, hs⟩
  · rename_i t
    split at hs
    · exact ⟨s.fr, h, hs⟩
    · rename_i b _ hb
      obtain ⟨h1, h2⟩ := hs
      cases hx : b.den e.R e.r with
      | true => exact ⟨_, h.setB hb true hx, h1 hx⟩
      | false => exact ⟨_, h.setB hb false hx, h2 hx⟩
    · exact ⟨s.fr, h, hs⟩

theorem den_undefS' (e : Env) : undefS.den e = undef := rfl

theorem wantedS_spec {e : Env} {W0 : World} {s : St} {a : Act} {w : World} {ops : Array Oper} {o : Oper} {x : Bool} (h : Rel e W0 s a w) (hw : wantedS ops s o = some x) : Region.wanted o (yielded ops a.tmps) = x := by
  unfold wantedS at hw
  unfold Region.wanted
  split at hw
  · rename_i hg
    simp only [hg]
    simpa using hw
  · rename_i j want hg
    simp only [hg]
    split at hw
    · rename_i t ht
      split at hw
      · rename_i hlt
        split at hw
        · rename_i y hs
          simp only [Option.some.injEq] at hw
          have : a.tmps[t]? = some (.bool y) := by
            rw [h.tmps]
            have : s.fr[t]? = some (one (.b (.c y))) := by simpa [List.getD, hlt, one, undefS] using hs
            simp [this, one, SV.den, SW.den, SC.den, B.den]
          simp only [yielded, ht, Option.bind_some, this]
          rw [← hw]
          cases y <;> cases want <;> rfl
        · rename_i hs
          simp only [Option.some.injEq] at hw
          have : a.tmps[t]? = some undef := by
            rw [h.tmps]
            have : s.fr[t]? = some undefS := by simpa [List.getD, hlt, one, undefS] using hs
            simp [this, den_undefS']
          simp only [yielded, ht, Option.bind_some, this]
          rw [← hw]
          rfl
        · cases hw
      · cases hw
    · cases hw

/-- What goes on behind an operation. -/
def Nx (Γ : List Sum) (Ψ : List Int → Prop) (bs : List (List Int → Prop)) (W0 : World) (e : Env) (fl flr : Nat) (k : St → T) (a : Act) (w : World) : Prop :=
  ∃ s' e', Env.le e e' ∧ Rel e' W0 s' a w ∧ s'.fl = fl ∧ s'.flr = flr ∧ (k s').sat Γ e'.R Ψ bs e'.r

def Out.exitOf : Out → Exit
  | .norm => .normal
  | .exit id => .exit id
  | .ret => .ret

def Px (Γ : List Sum) (Ψ : List Int → Prop) (bs : List (List Int → Prop)) (W0 : World) (e : Env) (fl flr : Nat) (k : Kont) (x : Exit) (a : Act) (w : World) : Prop :=
  ∃ out s' e', x = out.exitOf ∧ Env.le e e' ∧ Rel e' W0 s' a w ∧ s'.fl = fl ∧ s'.flr = flr ∧ (k out s').sat Γ e'.R Ψ bs e'.r

def IH (P : Program) (Γ : List Sum) (ih : Code → St → Kont → T) : Prop :=
  ∀ (c : Code) (s : St) (k : Kont) (W0 : World) (Ψ : List Int → Prop) (bs : List (List Int → Prop)) (e : Env) (a : Act) (w : World),
    Rel e W0 s a w → (ih c s k).sat Γ e.R Ψ bs e.r → c.wp P (Px Γ Ψ bs W0 e s.fl s.flr k) a w

/-! ### operations that call no Go function -/
theorem opOut_wp {e : Env} {W0 : World} {s s' : St} {a : Act} {w : World} {o : Oper} {v : SV} {k : St → T} {Q : Exit → Act → World → Prop} (h : Rel e W0 s a w) (ho : OpOut P e W0 s s' o a.eval v w)
    (hs : (k (s'.put o.dst v)).sat Γ e.R Ψ bs e.r) : o.wp P a w (Nx Γ Ψ bs W0 e s.fl s.flr k) Q := by
  obtain ⟨h1, h2, h3, h4, h5, e', w', nx, hr, hnx, hrep, hle, hr', hR, hω, hfr⟩ := ho
  have hrel : Rel e' W0 s' a w' := ⟨hrep, by
    rw [h.tmps, h1]
    congr 1
    exact List.map_congr_left fun x hx => (hfr x hx).symm, h.defs⟩
  have hfin : Nx Γ Ψ bs W0 e s.fl s.flr k (a.put o.dst (v.den e')) w' :=
    ⟨s'.put o.dst v, e', hle, hrel.put o.dst v, (put_fields s' o.dst v).2.2.2.2.1.trans h4, (put_fields s' o.dst v).2.2.2.2.2.trans h5, by rw [hr', hR]; exact hs⟩
  unfold Oper.wp
  rw [hr]
  rcases hnx with rfl | ⟨rfl, hu⟩
  · exact hfin
  · simp only [Oper.upon_skip]
    rw [← hu]
    exact hfin

/-! ### values in and out of summaries -/
theorem flatC_den {e : Env} : ∀ {ks : List K} {cs : List SC} {es : List E}, flatC ks cs = some es → es.length = ks.length ∧ cs.map (SC.den e) = mkCells ks (es.map (E.den e.R e.r))
  | [], [], es, h => by simp only [flatC, Option.some.injEq] at h; subst h; simp [mkCells]
  | .i k :: ks, .i k' x :: cs, es, h => by
    simp only [flatC] at h
    split at h
    · rename_i hk
      subst hk
      simp only [Option.map_eq_some_iff] at h
      obtain ⟨es', h', rfl⟩ := h
      obtain ⟨h1, h2⟩ := flatC_den (e := e) h'
      simp [h1, h2, mkCells, K.mk, SC.den]
    · cases h
  | .b :: ks, .b (.c x) :: cs, es, h => by
    simp only [flatC, Option.map_eq_some_iff] at h
    obtain ⟨es', h', rfl⟩ := h
    obtain ⟨h1, h2⟩ := flatC_den (e := e) h'
    cases x <;> simp [h1, h2, mkCells, K.mk, SC.den, B.den, E.den]
  | .b :: ks, .b (.nz x) :: cs, es, h => by
    simp only [flatC, Option.map_eq_some_iff] at h
    obtain ⟨es', h', rfl⟩ := h
    obtain ⟨h1, h2⟩ := flatC_den (e := e) h'
    simp [h1, h2, mkCells, K.mk, SC.den, B.den]
  | [], _ :: _, es, h => by simp [flatC] at h
  | .i _ :: _, [], es, h => by simp [flatC] at h
  | .b :: _, [], es, h => by simp [flatC] at h
  | .i _ :: _, .b _ :: _, es, h => by simp [flatC] at h
  | .i _ :: _, .p _ _ :: _, es, h => by simp [flatC] at h
  | .i _ :: _, .s _ _ _ _ :: _, es, h => by simp [flatC] at h
  | .i _ :: _, .g _ _ :: _, es, h => by simp [flatC] at h
  | .i _ :: _, .gp _ _ :: _, es, h => by simp [flatC] at h
  | .i _ :: _, .f _ _ :: _, es, h => by simp [flatC] at h
  | .i _ :: _, .q _ _ :: _, es, h => by simp [flatC] at h
  | .i _ :: _, .fs _ _ _ _ :: _, es, h => by simp [flatC] at h
  | .i _ :: _, .l _ :: _, es, h => by simp [flatC] at h
  | .b :: _, .i _ _ :: _, es, h => by simp [flatC] at h
  | .b :: _, .p _ _ :: _, es, h => by simp [flatC] at h
  | .b :: _, .s _ _ _ _ :: _, es, h => by simp [flatC] at h
  | .b :: _, .g _ _ :: _, es, h => by simp [flatC] at h
  | .b :: _, .gp _ _ :: _, es, h => by simp [flatC] at h
  | .b :: _, .f _ _ :: _, es, h => by simp [flatC] at h
  | .b :: _, .q _ _ :: _, es, h => by simp [flatC] at h
  | .b :: _, .fs _ _ _ _ :: _, es, h => by simp [flatC] at h
  | .b :: _, .l _ :: _, es, h => by simp [flatC] at h
  | .b :: _, .b (.lt _ _) :: _, es, h => by simp [flatC] at h
  | .b :: _, .b (.le _ _) :: _, es, h => by simp [flatC] at h
  | .b :: _, .b (.eq _ _) :: _, es, h => by simp [flatC] at h
  | .b :: _, .b (.not _) :: _, es, h => by simp [flatC] at h
  | .b :: _, .b (.and _ _) :: _, es, h => by simp [flatC] at h
  | .b :: _, .b (.beq _ _) :: _, es, h => by simp [flatC] at h

theorem flatSh_den {e : Env} {s : Sh} {v : SV} {es : List E} (h : flatSh s v = some es) : es.length = s.ks.length ∧ v.den e = mkSh s (es.map (E.den e.R e.r)) := by
  unfold flatSh at h
  split at h
  · rename_i cs
    split at h
    · rename_i ha
      obtain ⟨h1, h2⟩ := flatC_den (e := e) h
      exact ⟨h1, by simp [mkSh, ha, SV.den, SW.den, h2]⟩
    · cases h
  · rename_i c
    split at h
    · cases h
    · rename_i ha
      obtain ⟨h1, h2⟩ := flatC_den (e := e) h
      refine ⟨h1, ?_⟩
      simp only [List.map_cons, List.map_nil] at h2
      simp [mkSh, ha, SV.den, SW.den, ← h2]
  · cases h

theorem flats_den {e : Env} : ∀ {ss : List Sh} {vs : List SV} {es : List E}, flats ss vs = some es → es.length = total ss ∧ vs.map (SV.den e) = mkShs ss (es.map (E.den e.R e.r))
  | [], [], es, h => by simp only [flats, Option.some.injEq] at h; subst h; simp [total, mkShs]
  | s :: ss, v :: vs, es, h => by
    simp only [flats] at h
    split at h
    · rename_i a b ha hb
      simp only [Option.some.injEq] at h
      subst h
      obtain ⟨h1, h2⟩ := flatSh_den (e := e) ha
      obtain ⟨h3, h4⟩ := flats_den (e := e) hb
      refine ⟨by simp [total, h1, h3], ?_⟩
      simp only [List.map_cons, List.map_append, mkShs, h2, h4]
      rw [List.take_append_of_le_length (by simp [h1]), List.take_of_length_le (by simp [h1]), List.drop_append_of_le_length (by simp [h1]), List.drop_of_length_le (by simp [h1])]
      simp
    · cases h
  | [], _ :: _, es, h => by simp [flats] at h
  | _ :: _, [], es, h => by simp [flats] at h

theorem cellsE_den {e : Env} : ∀ (ks : List K) (es : List E), (cellsE ks es).map (SC.den e) = mkCells ks (es.map (E.den e.R e.r))
  | .i k :: ks, x :: es => by simp [cellsE, mkCells, cellsE_den ks es, SC.den, K.mk]
  | .b :: ks, x :: es => by
    simp only [cellsE, List.map_cons, mkCells, cellsE_den ks es, SC.den, K.mk]
    congr 2
    unfold mkNz
    split <;> simp [B.den, E.den]
  | [], _ => by simp [cellsE, mkCells]
  | .i _ :: _, [] => by simp [cellsE, mkCells]
  | .b :: _, [] => by simp [cellsE, mkCells]

theorem shE_den {e : Env} (s : Sh) (es : List E) : (shE s es).den e = mkSh s (es.map (E.den e.R e.r)) := by
  unfold shE mkSh
  split
  · simp [SW.den, cellsE_den]
  · rw [← cellsE_den s.ks es]
    cases cellsE s.ks es <;> simp [SW.den, SC.den]

theorem shsE_den {e : Env} : ∀ (ss : List Sh) (es : List E), (shsE ss es).map (SW.den e) = mkShs ss (es.map (E.den e.R e.r))
  | [], _ => by simp [shsE, mkShs]
  | s :: ss, es => by simp [shsE, mkShs, shE_den, shsE_den ss, List.map_take, List.map_drop]

theorem resE_den {e : Env} (rs : List Sh) (es : List E) : (resE rs es).den e = mkRes rs (es.map (E.den e.R e.r)) := by
  unfold resE mkRes
  rw [← shsE_den rs es]
  match shsE rs es with
  | [] => rfl
  | [x] => rfl
  | x :: y :: l => rfl

theorem varsFrom_den {R : List Reg} {r x : List Int} {n : Nat} (hx : x.length = n) : (varsFrom r.length n).map (E.den R (r ++ x)) = x := by
  apply List.ext_getElem?
  intro j
  simp only [varsFrom, List.map_map, List.getElem?_map]
  by_cases hj : j < n
  · rw [List.getElem?_range hj]
    simp only [Option.map_some, Function.comp, E.den, List.getD]
    rw [List.getElem?_append_right (by omega)]
    rw [show r.length + j - r.length = j by omega]
    simp [hx, hj]
  · rw [List.getElem?_eq_none (by simp; omega), List.getElem?_eq_none (by omega)]
    rfl

/-- More variables. -/
theorem Rep.vars {e : Env} {W0 : World} {s : St} {w : World} (h : Rep e W0 s w) (hs : s.sc = true) (x : List Int) :
    Rep { e with r := e.r ++ x } W0 { s with nv := s.nv + x.length } w ∧ (∀ v ∈ s.fr, v.den { e with r := e.r ++ x } = v.den e) ∧ Env.le e { e with r := e.r ++ x } := by
  have hle : Env.le e { e with r := e.r ++ x } := ⟨x, [], [], [], by simp⟩
  simp only [St.sc, Bool.and_eq_true] at hs
  obtain ⟨⟨hf, hm⟩, hr⟩ := hs
  rw [← h.nv, ← h.nb, ← h.ng] at hf hm hr
  rw [← h.nx] at hf
  have hmd : ∀ n (b : Blk), s.mem[n]? = some b → b.cells.map (SC.den { e with r := e.r ++ x }) = b.cells.map (SC.den e) := fun n b hb =>
    map_den_le hle (List.all_eq_true.1 hm b (List.mem_of_getElem? hb))
  have hrd : ∀ n (b : Row), s.rows[n]? = some b → b.cells.map (SC.den { e with r := e.r ++ x }) = b.cells.map (SC.den e) := fun n b hb =>
    map_den_le hle (List.all_eq_true.1 hr b (List.mem_of_getElem? hb))
  refine ⟨⟨h.below, h.nb, h.ng, by simp [h.nv], h.nx, ?_, h.own, h.sep, ?_, h.rown, h.rsep, h.brs, h.sl, h.reg, h.gl⟩, fun v hv => SV.den_le hle v (List.all_eq_true.1 hf v hv), hle⟩
  · intro n b hb hl
    rw [hmd n b hb]
    exact h.blk n b hb hl
  · intro n b hb hl
    rw [hrd n b hb]
    exact h.row n b hb hl

end Go.Sx
