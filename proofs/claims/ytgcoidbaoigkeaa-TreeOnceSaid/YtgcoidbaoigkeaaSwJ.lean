/-
  Symbolic execution: calls, and operations in sequence.
-/
import Derived.Test.YtgcoidbaoigkeaaSwI
import Derived.Test.YtgcoidbaoigkeaaSw0
namespace Go.Sx
open Go.RowKit

structure Rel (e : Env) (W0 : Bas) (s : St) (a : Act) (w : World) : Prop where
  rep : Rep e W0 s w
  tmps : a.tmps = (s.fr.map (SV.den e)).toArray
  defs : a.defers = []

theorem Rep.fr {e : Env} {W0 : Bas} {s : St} {w : World} (h : Rep e W0 s w) (x : List SV) : Rep e W0 { s with fr := x } w :=
  ⟨h.below, h.nb, h.ng, h.nv, h.nx, h.blk, h.own, h.sep, h.row, h.rown, h.rsep, h.brs, h.gl, h.arg⟩

theorem Rel.eval {e : Env} {W0 : Bas} {s : St} {a : Act} {w : World} (h : Rel e W0 s a w) (x : Operand) : a.eval x = (s.ev x).den e := by
  cases x with
  | tmp t =>
    simp only [Act.eval, St.ev, h.tmps]
    by_cases ht : t < s.fr.length
    · simp [List.getD, ht]
    · simp [List.getD, ht, undefS, SV.den, undef]
  | const v => simp [Act.eval, St.ev, SV.den]
  | global g => rfl
  | func f => rfl

theorem Rel.put {e : Env} {W0 : Bas} {s : St} {a : Act} {w : World} (h : Rel e W0 s a w) (dst : Option Tmp) (v : SV) : Rel e W0 (s.put dst v) (a.put dst (v.den e)) w := by
  cases dst with
  | none => exact h
  | some d =>
    refine ⟨h.rep.fr _, ?_, h.defs⟩
    simp only [St.put, Act.put, h.tmps]
    apply Array.ext'
    simp [List.map_set]

theorem put_fields (s : St) (dst : Option Tmp) (v : SV) : (s.put dst v).mem = s.mem ∧ (s.put dst v).rows = s.rows ∧ (s.put dst v).nv = s.nv ∧ (s.put dst v).nx = s.nx ∧ (s.put dst v).fl = s.fl ∧ (s.put dst v).flr = s.flr := by
  cases dst <;> exact ⟨rfl, rfl, rfl, rfl, rfl, rfl⟩

theorem put_gl (s : St) (dst : Option Tmp) (v : SV) : (s.put dst v).gl = s.gl := by
  cases dst <;> rfl

theorem put_hs (s : St) (dst : Option Tmp) (v : SV) : (s.put dst v).hs = s.hs := by
  cases dst <;> rfl

theorem put_dp (s : St) (dst : Option Tmp) (v : SV) : (s.put dst v).dp = s.dp := by
  cases dst <;> rfl

/-- Memory that was there is as it was: what is known stays known. -/
theorem Rep.grown {e : Env} {W0 : Bas} {s : St} {w w' : World} (h : Rep e W0 s w) (hb : Below w.heap.size w w') : Rep e W0 s w' := by
  refine ⟨h.below.grow hb, h.nb, h.ng, h.nv, h.nx, ?_, h.own, h.sep, ?_, h.rown, h.rsep, h.brs, h.gl, h.arg⟩
  · intro n b hn hl
    have := h.blk n b hn hl
    rw [hb.block _ (heap_lt this)]
    exact this
  · intro n b hn hl
    exact (h.row n b hn hl).kept (row := none) ⟨hb.os, hb.tape, hb.output, hb.size, fun k hk _ => hb.block k hk⟩ (fun k _ hk => by cases hk)

/-! ### trees -/
section
variable {Γ : List Sum} {R : Fo} {Ψ : List Int → Prop} {bs : List (List Int → Prop)} {r : List Int}

theorem asrts_sat {as : List B} {t : T} (h : (asrts as t).sat Γ R Ψ bs r) : (∀ b ∈ as, b.den R r = true) ∧ t.sat Γ R Ψ bs r := by
  induction as with
  | nil => exact ⟨by simp, h⟩
  | cons b l ih =>
    have key : b.den R r = true ∧ (asrts l t).sat Γ R Ψ bs r := by
      unfold asrts at h
      split at h
      · rename_i heq
        cases heq
      · rename_i heq
        simp only [List.cons.injEq] at heq
        obtain ⟨rfl, rfl⟩ := heq
        exact ⟨rfl, h⟩
      · rename_i heq
        simp only [List.cons.injEq] at heq
        obtain ⟨rfl, rfl⟩ := heq
        exact h
    obtain ⟨h3, h4⟩ := ih key.2
    refine ⟨?_, h4⟩
    intro c hc
    rcases List.mem_cons.1 hc with rfl | hc
    · exact key.1
    · exact h3 c hc
end

variable {P : Program} {Γ : List Sum} {Ψ : List Int → Prop} {bs : List (List Int → Prop)}

theorem slotB_spec {s : St} {t : Tmp} {b : B} (h : slotB s t = some b) : t < s.fr.length ∧ s.fr.getD t undefS = one (.b b) := by
  unfold slotB at h
  split at h
  · rename_i x hx
    simp only [Option.some.injEq] at h
    subst h
    refine ⟨?_, hx⟩
    rcases Nat.lt_or_ge t s.fr.length with ht | ht
    · exact ht
    · simp [List.getD, List.getElem?_eq_none ht, undefS] at hx
  · cases h

theorem Rel.setB {e : Env} {W0 : Bas} {s : St} {a : Act} {w : World} (h : Rel e W0 s a w) {t : Tmp} {b : B} (hb : slotB s t = some b) (x : Bool) (hx : b.den e.R e.r = x) : Rel e W0 (s.put (some t) (one (.b (.c x)))) a w := by
  obtain ⟨ht, hs⟩ := slotB_spec hb
  refine ⟨h.rep.fr _, ?_, h.defs⟩
  simp only [St.put, h.tmps]
  congr 1
  apply List.ext_getElem?
  intro j
  simp only [List.getElem?_map, List.getElem?_set]
  split
  · rename_i hj
    subst hj
    have : s.fr[t]? = some (one (.b b)) := by simpa [List.getD, ht] using hs
    rw [this]
    simp [one, SV.den, SW.den, SC.den, B.den, hx]
  · rfl

/-- A fork leaves a state of the same memory. -/
theorem forkO_sat {e : Env} {W0 : Bas} {s : St} {a : Act} {w : World} {t : Option Tmp} {k : St → T} (h : Rel e W0 s a w) (hs : (forkO t s k).sat Γ e.R Ψ bs e.r) :
    ∃ x, Rel e W0 { s with fr := x } a w ∧ (k { s with fr := x }).sat Γ e.R Ψ bs e.r := by
  unfold forkO at hs
  split at hs
  · exact ⟨s.fr, h, hs⟩
  · rename_i t
    split at hs
    · exact ⟨s.fr, h, hs⟩
    · rename_i b _ hb
      obtain ⟨h1, h2⟩ := hs
      cases hx : b.den e.R e.r with
      | true => exact ⟨_, h.setB hb true hx, h1 hx⟩
      | false => exact ⟨_, h.setB hb false hx, h2 hx⟩
    · exact ⟨s.fr, h, hs⟩

theorem den_undefS' (e : Env) : undefS.den e = undef := rfl

theorem wantedS_spec {e : Env} {W0 : Bas} {s : St} {a : Act} {w : World} {ops : Array Oper} {o : Oper} {x : Bool} (h : Rel e W0 s a w) (hw : wantedS ops s o = some x) : Region.wanted o (yielded ops a.tmps) = x := by
  unfold wantedS at hw
  unfold Region.wanted
  split at hw
  · rename_i hg
    simp only [hg]
    simpa using hw
  · rename_i j want hg
    simp only [hg]
    split at hw
    · rename_i t ht
      split at hw
      · rename_i hlt
        split at hw
        · rename_i y hs
          simp only [Option.some.injEq] at hw
          have : a.tmps[t]? = some (.bool y) := by
            rw [h.tmps]
            have : s.fr[t]? = some (one (.b (.c y))) := by simpa [List.getD, hlt, one, undefS] using hs
            simp [this, one, SV.den, SW.den, SC.den, B.den]
          simp only [yielded, ht, Option.bind_some, this]
          rw [← hw]
          cases y <;> cases want <;> rfl
        · rename_i hs
          simp only [Option.some.injEq] at hw
          have : a.tmps[t]? = some undef := by
            rw [h.tmps]
            have : s.fr[t]? = some undefS := by simpa [List.getD, hlt, one, undefS] using hs
            simp [this, den_undefS']
          simp only [yielded, ht, Option.bind_some, this]
          rw [← hw]
          rfl
        · cases hw
      · cases hw
    · cases hw

/-- What goes on behind an operation. -/
def Nx (Γ : List Sum) (Ψ : List Int → Prop) (bs : List (List Int → Prop)) (W0 : Bas) (e : Env) (fl flr : Nat) (k : St → T) (a : Act) (w : World) : Prop :=
  ∃ s' e' more, Env.le e e' ∧ Rel e' W0 s' a w ∧ s'.fl = fl ∧ s'.flr = flr ∧ s'.dp = (bs ++ more).length ∧ (k s').sat Γ e'.R Ψ (bs ++ more) e'.r

theorem Nx.here {Γ : List Sum} {Ψ : List Int → Prop} {bs : List (List Int → Prop)} {W0 : Bas} {e : Env} {fl flr : Nat} {k : St → T} {a : Act} {w : World} {s' : St} {e' : Env}
    (h1 : Env.le e e') (h2 : Rel e' W0 s' a w) (h3 : s'.fl = fl) (h4 : s'.flr = flr) (h5 : s'.dp = bs.length) (h6 : (k s').sat Γ e'.R Ψ bs e'.r) : Nx Γ Ψ bs W0 e fl flr k a w :=
  ⟨s', e', [], h1, h2, h3, h4, by simpa using h5, by simpa using h6⟩

def Out.exitOf : Out → Exit
  | .norm => .normal
  | .exit id => .exit id
  | .ret => .ret

def Px (Γ : List Sum) (Ψ : List Int → Prop) (bs : List (List Int → Prop)) (W0 : Bas) (e : Env) (fl flr : Nat) (k : Kont) (x : Exit) (a : Act) (w : World) : Prop :=
  ∃ out s' e' more, x = out.exitOf ∧ Env.le e e' ∧ Rel e' W0 s' a w ∧ s'.fl = fl ∧ s'.flr = flr ∧ s'.dp = (bs ++ more).length ∧ (k out s').sat Γ e'.R Ψ (bs ++ more) e'.r

theorem Px.here {Γ : List Sum} {Ψ : List Int → Prop} {bs : List (List Int → Prop)} {W0 : Bas} {e : Env} {fl flr : Nat} {k : Kont} {x : Exit} {a : Act} {w : World} {out : Out} {s' : St} {e' : Env}
    (h0 : x = out.exitOf) (h1 : Env.le e e') (h2 : Rel e' W0 s' a w) (h3 : s'.fl = fl) (h4 : s'.flr = flr) (h5 : s'.dp = bs.length) (h6 : (k out s').sat Γ e'.R Ψ bs e'.r) : Px Γ Ψ bs W0 e fl flr k x a w :=
  ⟨out, s', e', [], h0, h1, h2, h3, h4, by simpa using h5, by simpa using h6⟩

def IH (P : Program) (Γ : List Sum) (ih : Code → St → Kont → T) : Prop :=
  ∀ (c : Code) (s : St) (k : Kont) (W0 : Bas) (Ψ : List Int → Prop) (bs : List (List Int → Prop)) (e : Env) (a : Act) (w : World),
    Rel e W0 s a w → s.dp = bs.length → (ih c s k).sat Γ e.R Ψ bs e.r → wps P c (Px Γ Ψ bs W0 e s.fl s.flr k) a w

/-! ### operations that call no Go function -/
theorem opOut_wp {e : Env} {W0 : Bas} {s s' : St} {a : Act} {w : World} {o : Oper} {v : SV} {k : St → T} {Q : Exit → Act → World → Prop} (h : Rel e W0 s a w) (ho : OpOut P e W0 s s' o a.eval v w) (hdp : s.dp = bs.length)
    (hs : (k (s'.put o.dst v)).sat Γ e.R Ψ bs e.r) : o.wp P a w (Nx Γ Ψ bs W0 e s.fl s.flr k) Q := by
  obtain ⟨h1, h2, h3, h4, h5, h6, e', w', nx, hr, hnx, hrep, hle, hr', hR, hω, hfr⟩ := ho
  have hrel : Rel e' W0 s' a w' := ⟨hrep, by
    rw [h.tmps, h1]
    congr 1
    exact List.map_congr_left fun x hx => (hfr x hx).symm, h.defs⟩
  have hfin : Nx Γ Ψ bs W0 e s.fl s.flr k (a.put o.dst (v.den e')) w' :=
    Nx.here hle (hrel.put o.dst v) ((put_fields s' o.dst v).2.2.2.2.1.trans h4) ((put_fields s' o.dst v).2.2.2.2.2.trans h5) ((put_dp _ _ _).trans (h6.trans hdp)) (by rw [hr', hR]; exact hs)
  unfold Oper.wp
  rw [hr]
  rcases hnx with rfl | ⟨rfl, hu⟩
  · exact hfin
  · simp only [Oper.upon_skip]
    rw [← hu]
    exact hfin

/-! ### values in and out of summaries -/
theorem ksame_eq : ∀ {a b : List K}, ksame a b = true → a = b
  | [], [], _ => rfl
  | x :: xs, y :: ys, h => by
    simp only [ksame, Bool.and_eq_true] at h
    have h1 : x = y := by
      cases x <;> cases y <;> simp_all [K.same]
    rw [h1, ksame_eq h.2]
  | [], _ :: _, h => by simp [ksame] at h
  | _ :: _, [], h => by simp [ksame] at h

theorem chunks_den {e : Env} {ks : List K} : ∀ {n : Nat} {cs : List SC} {l : List E}, chunks ks n cs = some l → n * ks.length ≤ cs.length →
    l.length = n ∧ (∀ x ∈ l.map (E.den e.R e.r), (elt ks x).length = ks.length) ∧ cellsL ks (l.map (E.den e.R e.r)) = (cs.map (SC.den e)).take (n * ks.length)
  | 0, cs, l, h, _ => by simp only [chunks, Option.some.injEq] at h; subst h; simp [cellsL]
  | n + 1, cs, l, h, hle => by
    rw [Nat.add_mul, Nat.one_mul] at hle
    simp only [chunks] at h
    split at h
    · rename_i es l' h1 h2
      simp only [Option.some.injEq] at h
      subst h
      obtain ⟨a1, a2, a3⟩ := chunks_den (e := e) h2 (by simp; omega)
      obtain ⟨b1, b2⟩ := flatC_den (e := e) h1
      have hel : elt ks ((elemE es).den e.R e.r) = es.map (E.den e.R e.r) := elemE_elt _ _ b1
      refine ⟨by simp [a1], ?_, ?_⟩
      · intro x hx
        simp only [List.map_cons, List.mem_cons] at hx
        rcases hx with rfl | hx
        · rw [hel]; simpa using b1
        · exact a2 x hx
      · simp only [cellsL, List.map_cons, List.flatMap_cons, hel] at a3 ⊢
        rw [a3, ← b2, Nat.add_mul, Nat.one_mul, Nat.add_comm (n * ks.length), List.take_add, List.map_take, List.map_drop]
    · cases h

theorem cellsL_take {ks : List K} {l : List Int} (h : ∀ x ∈ l, (elt ks x).length = ks.length) (n : Nat) : cellsL ks (l.take n) = (cellsL ks l).take (n * ks.length) := by
  have h1 : cellsL ks l = cellsL ks (l.take n) ++ cellsL ks (l.drop n) := by rw [← cellsL_app, List.take_append_drop]
  by_cases hn : n ≤ l.length
  · have h2 : (cellsL ks (l.take n)).length = n * ks.length := by rw [cellsL_length (fun x hx => h x (List.mem_of_mem_take hx)), List.length_take, Nat.min_eq_left hn]
    rw [h1, ← h2, List.take_left]
  · rw [List.take_of_length_le (by omega), List.take_of_length_le]
    rw [cellsL_length h]
    exact Nat.mul_le_mul_right _ (by omega)

theorem cellsL_drop {ks : List K} {l : List Int} (h : ∀ x ∈ l, (elt ks x).length = ks.length) (n : Nat) : cellsL ks (l.drop n) = (cellsL ks l).drop (n * ks.length) := by
  have h1 : cellsL ks l = cellsL ks (l.take n) ++ cellsL ks (l.drop n) := by rw [← cellsL_app, List.take_append_drop]
  by_cases hn : n ≤ l.length
  · have h2 : (cellsL ks (l.take n)).length = n * ks.length := by rw [cellsL_length (fun x hx => h x (List.mem_of_mem_take hx)), List.length_take, Nat.min_eq_left hn]
    rw [h1, ← h2, List.drop_left]
  · rw [List.drop_of_length_le (by omega), List.drop_of_length_le]
    · rfl
    rw [cellsL_length h]
    exact Nat.mul_le_mul_right _ (by omega)

theorem kdeep_eq : ∀ {a b : List K}, kdeep a b = true → a = b
  | [], [], _ => rfl
  | .i x :: xs, .i y :: ys, h => by
    simp only [kdeep, Bool.and_eq_true, beq_iff_eq] at h
    rw [h.1, kdeep_eq h.2]
  | .b :: xs, .b :: ys, h => by
    simp only [kdeep] at h
    rw [kdeep_eq h]
  | .s t a :: xs, .s u b :: ys, h => by
    simp only [kdeep, Bool.and_eq_true, beq_iff_eq] at h
    rw [h.1.1, ksame_eq h.1.2, kdeep_eq h.2]
  | [], _ :: _, h => by simp [kdeep] at h
  | .i _ :: _, [], h => by simp [kdeep] at h
  | .b :: _, [], h => by simp [kdeep] at h
  | .s _ _ :: _, [], h => by simp [kdeep] at h
  | .i _ :: _, .b :: _, h => by simp [kdeep] at h
  | .i _ :: _, .s _ _ :: _, h => by simp [kdeep] at h
  | .b :: _, .i _ :: _, h => by simp [kdeep] at h
  | .b :: _, .s _ _ :: _, h => by simp [kdeep] at h
  | .s _ _ :: _, .i _ :: _, h => by simp [kdeep] at h
  | .s _ _ :: _, .b :: _, h => by simp [kdeep] at h
theorem flatC_plain : ∀ {ks : List K} {cs : List SC} {es : List E}, flatC ks cs = some es → plainK ks = true
  | [], _, _, _ => rfl
  | .s t a :: ks, cs, es, h => by cases cs <;> simp [flatC] at h
  | .i k :: ks, [], es, h => by simp [flatC] at h
  | .b :: ks, [], es, h => by simp [flatC] at h
  | .i k :: ks, c :: cs, es, h => by
    cases hf : flatC ks cs with
    | some l => exact (flatC_plain hf : plainK ks = true)
    | none => exfalso; cases c <;> simp [flatC, hf] at h
  | .b :: ks, c :: cs, es, h => by
    cases hf : flatC ks cs with
    | some l => exact (flatC_plain hf : plainK ks = true)
    | none =>
      exfalso
      cases c with
      | b x => cases x <;> simp [flatC, hf] at h
      | _ => simp [flatC] at h
theorem chunks_plain {ks : List K} : ∀ {n : Nat} {cs : List SC} {l : List E}, chunks ks n cs = some l → plainK ks = true ∨ l = []
  | 0, cs, l, h => by simp only [chunks, Option.some.injEq] at h; exact .inr h.symm
  | n + 1, cs, l, h => by
    simp only [chunks] at h
    split at h
    · rename_i es l' h1 h2
      exact .inl (flatC_plain h1)
    · cases h
theorem sliceE_ok0 {e : Env} {W0 : Bas} {s : St} {w : World} (h : Rep e W0 s w) {ks : List K} {c : SC} {as : List B} {x : E} (hc : sliceE s ks c = some (as, x)) (has : ∀ b ∈ as, b.den e.R e.r = true) : SlOK w ks (c.den e) (x.den e.R e.r) := by
  unfold sliceE at hc
  split at hc
  · rename_i g
    split at hc
    · rename_i ks' c' hg
      split at hc
      · rename_i hk
        simp only [Option.some.injEq, Prod.mk.injEq] at hc
        obtain ⟨rfl, rfl⟩ := hc
        have hkk : ks' = ks := by
          simp only [Bool.or_eq_true, Bool.and_eq_true] at hk
          rcases hk with hk | hk
          · exact ksame_eq hk
          · exact kdeep_eq hk.2
        rw [← hkk]
        exact h.gread hg
      · cases hc
    · cases hc
  · rename_i g size lo hi
    split at hc
    · rename_i ks' c' hg
      split at hc
      · rename_i hk
        simp only [Bool.and_eq_true, decide_eq_true_eq] at hk
        obtain ⟨hk, rfl⟩ := hk
        simp only [Option.some.injEq, Prod.mk.injEq] at hc
        obtain ⟨rfl, rfl⟩ := hc
        have hkk := ksame_eq hk
        subst hkk
        obtain ⟨v1, v2, v3⟩ := vB_den has
        have hd : dec ((mkDrop (mkTake c' hi) lo).den e.R e.r) = ((dec (c'.den e.R e.r)).take (hi.den e.R e.r).toNat).drop (lo.den e.R e.r).toNat := by rw [mkDrop_dec, mkTake_den, dec_cod]
        simp only [SC.den]
        rcases h.gread hg with ⟨hv, hn⟩ | ⟨b, off, cap, hv, hle, hm, hel, hcell⟩
        · refine .inl ⟨?_, ?_⟩
          · rw [hv]
            rw [hn] at v3
            simp only [List.length_nil] at v3
            simp [subV]
            simp at v3
            omega
          · rw [hd, hn]; simp
        · have hlen : (dec ((mkDrop (mkTake c' hi) lo).den e.R e.r)).length = (hi.den e.R e.r).toNat - (lo.den e.R e.r).toNat := by
            rw [hd, List.length_drop, List.length_take]; omega
          refine .inr ⟨b, if cap = (lo.den e.R e.r).toNat then off else off + (lo.den e.R e.r).toNat * ks'.length, cap - (lo.den e.R e.r).toNat, ?_, by omega, by omega, ?_, ?_⟩
          · rw [hlen, hv]
            simp only [subV, Option.map_some, Addr.add_lit]
            split <;> rfl
          · intro x hx
            rw [hd] at hx
            exact hel x (List.mem_of_mem_take (List.mem_of_mem_drop hx))
          · intro j u hj
            rw [hd, cellsL_drop (fun x hx => hel x (List.mem_of_mem_take hx)), cellsL_take hel, List.getElem?_drop, List.getElem?_take] at hj
            split at hj
            · rename_i hlt
              have hlo : ¬ cap = (lo.den e.R e.r).toNat := by
                intro hcl
                have hh : (hi.den e.R e.r).toNat = (lo.den e.R e.r).toNat := by omega
                rw [hh] at hlt
                omega
              rw [if_neg hlo, Nat.add_assoc]
              exact hcell _ _ hj
            · cases hj
      · cases hc
    · cases hc
  · rename_i g
    split at hc
    · rename_i hg
      simp only [Option.some.injEq, Prod.mk.injEq] at hc
      obtain ⟨rfl, rfl⟩ := hc
      obtain ⟨⟨ks', c'⟩, hg'⟩ := Option.isSome_iff_exists.1 hg
      simp only [SC.den, E.den]
      rcases h.gread hg' with ⟨hv, hn⟩ | ⟨b, off, cap, hv, hle, hm, hel, hcell⟩
      · exact .inl ⟨by rw [hv]; rfl, by simp⟩
      · exact .inr ⟨b, off, 0, by rw [hv]; simp [zeroV], by simp, by simp, by simp, by simp [cellsL]⟩
    · cases hc
  · rename_i n off len cap
    split at hc
    · rename_i b hb
      split at hc
      · rename_i hcc
        simp only [Bool.and_eq_true, decide_eq_true_eq] at hcc
        obtain ⟨⟨⟨hl, hle⟩, hlc⟩, hcap⟩ := hcc
        simp only [Option.map_eq_some_iff, Prod.mk.injEq] at hc
        obtain ⟨l, hl', rfl, rfl⟩ := hc
        obtain ⟨a1, a2, a3⟩ := chunks_den (e := e) hl' (by simp; omega)
        have hd : dec ((listE l).den e.R e.r) = l.map (E.den e.R e.r) := by rw [listE_den, dec_cod]
        refine .inr ⟨e.β.getD n 0, off, cap, ?_, ?_, ?_, ?_, ?_⟩
        · rw [hd, List.length_map, a1]; rfl
        · rw [hd, List.length_map, a1]; exact hlc
        · simp only [maxLen]; omega
        · rw [hd]; exact a2
        · intro j u hj
          rw [hd, a3, List.getElem?_take] at hj
          split at hj
          · rename_i hjn
            have hlt : off + j < b.cells.length := by omega
            rw [blk_cell h hb hl (off + j) hlt]
            rw [List.map_drop, List.getElem?_drop] at hj
            simp only [List.getElem?_map] at hj
            rw [List.getElem?_eq_getElem hlt] at hj
            simpa [List.getD, hlt] using hj
          · cases hj
      · cases hc
    · cases hc
  · simp only [Option.some.injEq, Prod.mk.injEq] at hc
    obtain ⟨rfl, rfl⟩ := hc
    exact .inl ⟨rfl, by simp [E.den]⟩
  · cases hc

theorem SlOK.toNE {w : World} {ks : List K} {v : Value} {c : Int} (hk : plainK ks = true ∨ dec c = []) (h : SlOK w ks v c) : SlN w ks v c := by
  rcases hk with hk | hk
  · exact h.toN hk
  · unfold SlN
    rw [SlXK]
    exact ⟨⟨h, fun _ _ _ hh => hh⟩, fun x hx => by rw [hk] at hx; simp at hx⟩
theorem sliceE_ok {e : Env} {W0 : Bas} {s : St} {w : World} (h : Rep e W0 s w) {ks : List K} {c : SC} {as : List B} {x : E} (hc : sliceE s ks c = some (as, x)) (has : ∀ b ∈ as, b.den e.R e.r = true) : SlN w ks (c.den e) (x.den e.R e.r) := by
  have h0 := sliceE_ok0 h hc has
  unfold sliceE at hc
  split at hc
  · rename_i g
    split at hc
    · rename_i ks' c' hg
      split at hc
      · rename_i hk
        simp only [Option.some.injEq, Prod.mk.injEq] at hc
        obtain ⟨rfl, rfl⟩ := hc
        simp only [Bool.or_eq_true, Bool.and_eq_true, Bool.not_eq_true'] at hk
        rcases hk with hk | hk
        · exact h0.toNE (.inl (ksame_plain hk).2)
        · have hkk := kdeep_eq hk.2
          subst hkk
          exact (h.greadX hk.1 hg).nowN h.below
      · cases hc
    · cases hc
  · rename_i g size lo hi
    split at hc
    · split at hc
      · rename_i hk
        simp only [Bool.and_eq_true, decide_eq_true_eq] at hk
        exact h0.toNE (.inl (ksame_plain hk.1).2)
      · cases hc
    · cases hc
  · split at hc
    · simp only [Option.some.injEq, Prod.mk.injEq] at hc
      obtain ⟨rfl, rfl⟩ := hc
      exact h0.toNE (.inr (by simp [E.den]))
    · cases hc
  · split at hc
    · split at hc
      · simp only [Option.map_eq_some_iff, Prod.mk.injEq] at hc
        obtain ⟨l, hl', rfl, rfl⟩ := hc
        refine h0.toNE ?_
        rcases chunks_plain hl' with hh | hh
        · exact .inl hh
        · exact .inr (by rw [hh]; simp [listE, E.den])
      · cases hc
    · cases hc
  · simp only [Option.some.injEq, Prod.mk.injEq] at hc
    obtain ⟨rfl, rfl⟩ := hc
    exact h0.toNE (.inr (by simp [E.den]))
  · cases hc

theorem flatA_ok {e : Env} {W0 : Bas} {s : St} {w : World} (h : Rep e W0 s w) : ∀ {ks : List K} {cs : List SC} {as : List B} {es : List E}, flatA s ks cs = some (as, es) → (∀ b ∈ as, b.den e.R e.r = true) →
    es.length = ks.length ∧ CellsR (fun _ ks u n => SlN w ks u n) ks (cs.map (SC.den e)) (es.map (E.den e.R e.r)) := by
  intro ks
  induction ks with
  | nil =>
    intro cs as es hf _
    cases cs with
    | nil => simp only [flatA, Option.some.injEq, Prod.mk.injEq] at hf; obtain ⟨rfl, rfl⟩ := hf; exact ⟨rfl, trivial⟩
    | cons c cs => simp [flatA] at hf
  | cons k ks ih =>
    intro cs as es hf has
    cases cs with
    | nil => cases k <;> simp [flatA] at hf
    | cons c cs =>
      have plain : ∀ {k : K}, (∀ ty kr, k ≠ .s ty kr) → ∀ {x : E}, flatC [k] [c] = some [x] → CellR (fun _ ks u n => SlN w ks u n) k (c.den e) (x.den e.R e.r) := by
        intro k hk x hx
        obtain ⟨_, h2⟩ := flatC_den (e := e) hx
        simp only [List.map_cons, List.map_nil, mkCells, List.cons.injEq, and_true] at h2
        cases k with
        | i k => exact h2
        | b => exact h2
        | s ty kr => exact absurd rfl (hk ty kr)
      cases k with
      | s ty kr =>
        simp only [flatA] at hf
        split at hf
        · rename_i as1 x bs1 es1 h1 h2
          simp only [Option.some.injEq, Prod.mk.injEq] at hf
          obtain ⟨rfl, rfl⟩ := hf
          obtain ⟨a1, a2⟩ := ih h2 (fun b hb => has b (List.mem_append_right _ hb))
          exact ⟨by simp [a1], sliceE_ok h h1 (fun b hb => has b (List.mem_append_left _ hb)), a2⟩
        · cases hf
      | i k =>
        simp only [flatA] at hf
        split at hf
        · rename_i x bs1 es1 h1 h2
          simp only [Option.some.injEq, Prod.mk.injEq] at hf
          obtain ⟨rfl, rfl⟩ := hf
          obtain ⟨a1, a2⟩ := ih h2 has
          exact ⟨by simp [a1], plain (by simp) h1, a2⟩
        · cases hf
      | b =>
        simp only [flatA] at hf
        split at hf
        · rename_i x bs1 es1 h1 h2
          simp only [Option.some.injEq, Prod.mk.injEq] at hf
          obtain ⟨rfl, rfl⟩ := hf
          obtain ⟨a1, a2⟩ := ih h2 has
          exact ⟨by simp [a1], plain (by simp) h1, a2⟩
        · cases hf

theorem flatSh_ok {e : Env} {W0 : Bas} {st : St} {w : World} (h : Rep e W0 st w) {s : Sh} {v : SV} {as : List B} {es : List E} (hf : flatSh st s v = some (as, es)) (has : ∀ b ∈ as, b.den e.R e.r = true) :
    es.length = s.ks.length ∧ ShR (fun _ ks u n => SlN w ks u n) s (v.den e) (es.map (E.den e.R e.r)) := by
  unfold flatSh at hf
  split at hf
  · rename_i cs
    split at hf
    · rename_i ha
      obtain ⟨h1, h2⟩ := flatA_ok h hf has
      refine ⟨h1, ?_⟩
      unfold ShR
      rw [if_pos ha]
      exact ⟨_, rfl, h2⟩
    · cases hf
  · rename_i c
    split at hf
    · cases hf
    · rename_i ha
      obtain ⟨h1, h2⟩ := flatA_ok h hf has
      refine ⟨h1, ?_⟩
      unfold ShR
      rw [if_neg ha]
      exact h2
  · cases hf

theorem flats_ok {e : Env} {W0 : Bas} {st : St} {w : World} (h : Rep e W0 st w) : ∀ {ss : List Sh} {vs : List SV} {as : List B} {es : List E}, flats st ss vs = some (as, es) → (∀ b ∈ as, b.den e.R e.r = true) →
    es.length = total ss ∧ ShsR (fun _ ks u n => SlN w ks u n) ss (vs.map (SV.den e)) (es.map (E.den e.R e.r))
  | [], [], as, es, hf, _ => by
    simp only [flats, Option.some.injEq, Prod.mk.injEq] at hf
    obtain ⟨rfl, rfl⟩ := hf
    exact ⟨rfl, rfl, rfl⟩
  | s :: ss, v :: vs, as, es, hf, has => by
    simp only [flats] at hf
    split at hf
    · rename_i as1 a bs1 b h1 h2
      simp only [Option.some.injEq, Prod.mk.injEq] at hf
      obtain ⟨rfl, rfl⟩ := hf
      obtain ⟨a1, a2⟩ := flatSh_ok h h1 (fun b hb => has b (List.mem_append_left _ hb))
      obtain ⟨a3, a4⟩ := flats_ok h h2 (fun b hb => has b (List.mem_append_right _ hb))
      exact ⟨by simp [total, a1, a3], _, _, _, _, rfl, by rw [List.map_append], a2, a4⟩
    · cases hf
  | [], _ :: _, _, _, hf, _ => by simp [flats] at hf
  | _ :: _, [], _, _, hf, _ => by simp [flats] at hf

theorem varsFrom_den {R : Fo} {r x : List Int} {n : Nat} (hx : x.length = n) : (varsFrom r.length n).map (E.den R (r ++ x)) = x := by
  apply List.ext_getElem?
  intro j
  simp only [varsFrom, List.map_map, List.getElem?_map]
  by_cases hj : j < n
  · rw [List.getElem?_range hj]
    simp only [Option.map_some, Function.comp, E.den, List.getD]
    rw [List.getElem?_append_right (by omega)]
    rw [show r.length + j - r.length = j by omega]
    simp [hx, hj]
  · rw [List.getElem?_eq_none (by simp; omega), List.getElem?_eq_none (by omega)]
    rfl

/-- More variables. -/
theorem Rep.vars {e : Env} {W0 : Bas} {s : St} {w : World} (h : Rep e W0 s w) (hs : s.sc = true) (x : List Int) :
    Rep { e with r := e.r ++ x } W0 { s with nv := s.nv + x.length } w ∧ (∀ v ∈ s.fr, v.den { e with r := e.r ++ x } = v.den e) ∧ Env.le e { e with r := e.r ++ x } := by
  have hle : Env.le e { e with r := e.r ++ x } := ⟨x, [], [], [], by simp⟩
  simp only [St.sc, Bool.and_eq_true] at hs
  obtain ⟨⟨hf, hm⟩, hr, hh⟩ := hs
  rw [← h.nv, ← h.nb, ← h.ng] at hf hm
  rw [← h.nx] at hf
  rw [← h.nv] at hr hh
  have hmd : ∀ n (b : Blk), s.mem[n]? = some b → b.cells.map (SC.den { e with r := e.r ++ x }) = b.cells.map (SC.den e) := fun n b hb =>
    map_den_le hle (List.all_eq_true.1 hm b (List.mem_of_getElem? hb))
  refine ⟨⟨h.below, h.nb, h.ng, by simp [h.nv], h.nx, ?_, h.own, h.sep, ?_, h.rown, h.rsep, h.brs, h.gl, ?_⟩, fun v hv => SV.den_le hle v (List.all_eq_true.1 hf v hv), hle⟩
  · intro n b hb hl
    rw [hmd n b hb]
    exact h.blk n b hb hl
  · intro n b hb hl
    have := h.row n b hb hl
    show RowOK w b.ty b.ks _ (b.c.den e.R (e.r ++ x))
    rw [E.den_app _ _ _ _ (List.all_eq_true.1 hr b (List.mem_of_getElem? hb))]
    exact this
  · intro i ks c hi
    have := h.arg i ks c hi
    show SlX W0 ks _ (c.den e.R (e.r ++ x))
    rw [E.den_app _ _ _ _ (List.all_eq_true.1 hh (ks, c) (List.mem_of_getElem? hi))]
    exact this

end Go.Sx
