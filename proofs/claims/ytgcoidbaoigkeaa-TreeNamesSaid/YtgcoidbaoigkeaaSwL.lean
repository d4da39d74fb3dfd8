/-
  Symbolic execution: calls, and operations in sequence.
-/
import Derived.Test.YtgcoidbaoigkeaaSwI
import Derived.Test.YtgcoidbaoigkeaaSw0
import Derived.Deep.AppendLies
import Derived.Laws.OwnMore
namespace Go.Sx
open Go.RowKit

structure Rel (e : Env) (W0 : Bas) (s : St) (a : Act) (w : World) : Prop where
  rep : Rep e W0 s w
  tmps : a.tmps = (s.fr.map (SV.den e)).toArray
  defs : a.defers = []

theorem Rep.fr {e : Env} {W0 : Bas} {s : St} {w : World} (h : Rep e W0 s w) (x : List SV) : Rep e W0 { s with fr := x } w :=
  ⟨h.below, h.nb, h.ng, h.nv, h.nx, h.blk, h.own, h.sep, h.row, h.rown, h.rsep, h.brs, h.gl, h.arg⟩

theorem Rel.eval {e : Env} {W0 : Bas} {s : St} {a : Act} {w : World} (h : Rel e W0 s a w) (x : Operand) : a.eval x = (s.ev x).den e := by
  cases x with
  | tmp t =>
    simp only [Act.eval, St.ev, h.tmps]
    by_cases ht : t < s.fr.length
    · simp [List.getD, ht]
    · simp [List.getD, ht, undefS, SV.den, undef]
  | const v => simp [Act.eval, St.ev, SV.den]
  | global g => rfl
  | func f => rfl

theorem Rel.put {e : Env} {W0 : Bas} {s : St} {a : Act} {w : World} (h : Rel e W0 s a w) (dst : Option Tmp) (v : SV) : Rel e W0 (s.put dst v) (a.put dst (v.den e)) w := by
  cases dst with
  | none => exact h
  | some d =>
    refine ⟨h.rep.fr _, ?_, h.defs⟩
    simp only [St.put, Act.put, h.tmps]
    apply Array.ext'
    simp [List.map_set]

theorem put_fields (s : St) (dst : Option Tmp) (v : SV) : (s.put dst v).mem = s.mem ∧ (s.put dst v).rows = s.rows ∧ (s.put dst v).nv = s.nv ∧ (s.put dst v).nx = s.nx ∧ (s.put dst v).fl = s.fl ∧ (s.put dst v).flr = s.flr := by
  cases dst <;> exact ⟨rfl, rfl, rfl, rfl, rfl, rfl⟩

theorem put_gl (s : St) (dst : Option Tmp) (v : SV) : (s.put dst v).gl = s.gl := by
  cases dst <;> rfl

theorem put_hs (s : St) (dst : Option Tmp) (v : SV) : (s.put dst v).hs = s.hs := by
  cases dst <;> rfl

theorem put_dp (s : St) (dst : Option Tmp) (v : SV) : (s.put dst v).dp = s.dp := by
  cases dst <;> rfl

theorem Rep.grown {e : Env} {W0 : Bas} {s : St} {w w' : World} (h : Rep e W0 s w) (hb : Below w.heap.size w w') : Rep e W0 s w' := by
  refine ⟨h.below.grow hb, h.nb, h.ng, h.nv, h.nx, ?_, h.own, h.sep, ?_, h.rown, h.rsep, h.brs, h.gl, h.arg⟩
  · intro n b hn hl
    have := h.blk n b hn hl
    rw [hb.block _ (heap_lt this)]
    exact this
  · intro n b hn hl
    exact (h.row n b hn hl).kept (row := none) ⟨hb.os, hb.tape, hb.output, hb.size, fun k hk _ => hb.block k hk⟩ (fun k _ hk => by cases hk)

/-! ### trees -/
section
variable {Γ : List Sum} {R : Fo} {Ψ : List Int → Prop} {bs : List (List Int → Prop)} {r : List Int}

theorem asrts_sat {as : List B} {t : T} (h : (asrts as t).sat Γ R Ψ bs r) : (∀ b ∈ as, b.den R r = true) ∧ t.sat Γ R Ψ bs r := by
  induction as with
  | nil => exact ⟨by simp, h⟩
  | cons b l ih =>
    have key : b.den R r = true ∧ (asrts l t).sat Γ R Ψ bs r := by
      unfold asrts at h
      split at h
      · rename_i heq
        cases heq
      · rename_i heq
        simp only [List.cons.injEq] at heq
        obtain ⟨rfl, rfl⟩ := heq
        exact ⟨rfl, h⟩
      · rename_i heq
        simp only [List.cons.injEq] at heq
        obtain ⟨rfl, rfl⟩ := heq
        exact h
    obtain ⟨h3, h4⟩ := ih key.2
    refine ⟨?_, h4⟩
    intro c hc
    rcases List.mem_cons.1 hc with rfl | hc
    · exact key.1
    · exact h3 c hc
end

variable {P : Program} {Γ : List Sum} {Ψ : List Int → Prop} {bs : List (List Int → Prop)}

theorem slotB_spec {s : St} {t : Tmp} {b : B} (h : slotB s t = some b) : t < s.fr.length ∧ s.fr.getD t undefS = one (.b b) := by
  unfold slotB at h
  split at h
  · rename_i x hx
    simp only [Option.some.injEq] at h
    subst h
    refine ⟨?_, hx⟩
    rcases Nat.lt_or_ge t s.fr.length with ht | ht
    · exact ht
    · simp [List.getD, List.getElem?_eq_none ht, undefS] at hx
  · cases h

theorem Rel.setB {e : Env} {W0 : Bas} {s : St} {a : Act} {w : World} (h : Rel e W0 s a w) {t : Tmp} {b : B} (hb : slotB s t = some b) (x : Bool) (hx : b.den e.R e.r = x) : Rel e W0 (s.put (some t) (one (.b (.c x)))) a w := by
  obtain ⟨ht, hs⟩ := slotB_spec hb
  refine ⟨h.rep.fr _, ?_, h.defs⟩
  simp only [St.put, h.tmps]
  congr 1
  apply List.ext_getElem?
  intro j
  simp only [List.getElem?_map, List.getElem?_set]
  split
  · rename_i hj
    subst hj
    have : s.fr[t]? = some (one (.b b)) := by simpa [List.getD, ht] using hs
    rw [this]
    simp [one, SV.den, SW.den, SC.den, B.den, hx]
  · rfl

theorem forkO_sat {e : Env} {W0 : Bas} {s : St} {a : Act} {w : World} {t : Option Tmp} {k : St → T} (h : Rel e W0 s a w) (hs : (forkO t s k).sat Γ e.R Ψ bs e.r) :
    ∃ x, Rel e W0 { s with fr := x } a w ∧ (k { s with fr := x }).sat Γ e.R Ψ bs e.r := by
  unfold forkO at hs
  split at hs
  · exact ⟨s.fr, h, hs⟩
  · rename_i t
    split at hs
    · exact ⟨s.fr, h, hs⟩
    · rename_i b _ hb
      obtain ⟨h1, h2⟩ := hs
      cases hx : b.den e.R e.r with
      | true => exact ⟨_, h.setB hb true hx, h1 hx⟩
      | false => exact ⟨_, h.setB hb false hx, h2 hx⟩
    · exact ⟨s.fr, h, hs⟩

theorem den_undefS' (e : Env) : undefS.den e = undef := rfl

theorem wantedS_spec {e : Env} {W0 : Bas} {s : St} {a : Act} {w : World} {ops : Array Oper} {o : Oper} {x : Bool} (h : Rel e W0 s a w) (hw : wantedS ops s o = some x) : Region.wanted o (yielded ops a.tmps) = x := by
  unfold wantedS at hw
  unfold Region.wanted
  split at hw
  · rename_i hg
    simp only [hg]
    simpa using hw
  · rename_i j want hg
    simp only [hg]
    split at hw
    · rename_i t ht
      split at hw
      · rename_i hlt
        split at hw
        · rename_i y hs
          simp only [Option.some.injEq] at hw
          have : a.tmps[t]? = some (.bool y) := by
            rw [h.tmps]
            have : s.fr[t]? = some (one (.b (.c y))) := by simpa [List.getD, hlt, one, undefS] using hs
            simp [this, one, SV.den, SW.den, SC.den, B.den]
          simp only [yielded, ht, Option.bind_some, this]
          rw [← hw]
          cases y <;> cases want <;> rfl
        · rename_i hs
          simp only [Option.some.injEq] at hw
          have : a.tmps[t]? = some undef := by
            rw [h.tmps]
            have : s.fr[t]? = some undefS := by simpa [List.getD, hlt, one, undefS] using hs
            simp [this, den_undefS']
          simp only [yielded, ht, Option.bind_some, this]
          rw [← hw]
          rfl
        · cases hw
      · cases hw
    · cases hw

def Nx (Γ : List Sum) (Ψ : List Int → Prop) (bs : List (List Int → Prop)) (W0 : Bas) (e : Env) (fl flr : Nat) (k : St → T) (a : Act) (w : World) : Prop :=
  ∃ s' e' more, Env.le e e' ∧ Rel e' W0 s' a w ∧ s'.fl = fl ∧ s'.flr = flr ∧ s'.dp = (bs ++ more).length ∧ (k s').sat Γ e'.R Ψ (bs ++ more) e'.r

theorem Nx.here {Γ : List Sum} {Ψ : List Int → Prop} {bs : List (List Int → Prop)} {W0 : Bas} {e : Env} {fl flr : Nat} {k : St → T} {a : Act} {w : World} {s' : St} {e' : Env}
    (h1 : Env.le e e') (h2 : Rel e' W0 s' a w) (h3 : s'.fl = fl) (h4 : s'.flr = flr) (h5 : s'.dp = bs.length) (h6 : (k s').sat Γ e'.R Ψ bs e'.r) : Nx Γ Ψ bs W0 e fl flr k a w :=
  ⟨s', e', [], h1, h2, h3, h4, by simpa using h5, by simpa using h6⟩

def Out.exitOf : Out → Exit
  | .norm => .normal
  | .exit id => .exit id
  | .ret => .ret

def Px (Γ : List Sum) (Ψ : List Int → Prop) (bs : List (List Int → Prop)) (W0 : Bas) (e : Env) (fl flr : Nat) (k : Kont) (x : Exit) (a : Act) (w : World) : Prop :=
  ∃ out s' e' more, x = out.exitOf ∧ Env.le e e' ∧ Rel e' W0 s' a w ∧ s'.fl = fl ∧ s'.flr = flr ∧ s'.dp = (bs ++ more).length ∧ (k out s').sat Γ e'.R Ψ (bs ++ more) e'.r

theorem Px.here {Γ : List Sum} {Ψ : List Int → Prop} {bs : List (List Int → Prop)} {W0 : Bas} {e : Env} {fl flr : Nat} {k : Kont} {x : Exit} {a : Act} {w : World} {out : Out} {s' : St} {e' : Env}
    (h0 : x = out.exitOf) (h1 : Env.le e e') (h2 : Rel e' W0 s' a w) (h3 : s'.fl = fl) (h4 : s'.flr = flr) (h5 : s'.dp = bs.length) (h6 : (k out s').sat Γ e'.R Ψ bs e'.r) : Px Γ Ψ bs W0 e fl flr k x a w :=
  ⟨out, s', e', [], h0, h1, h2, h3, h4, by simpa using h5, by simpa using h6⟩

def IH (P : Program) (Γ : List Sum) (ih : Code → St → Kont → T) : Prop :=
  ∀ (c : Code) (s : St) (k : Kont) (W0 : Bas) (Ψ : List Int → Prop) (bs : List (List Int → Prop)) (e : Env) (a : Act) (w : World),
    Rel e W0 s a w → s.dp = bs.length → (ih c s k).sat Γ e.R Ψ bs e.r → wps P c (Px Γ Ψ bs W0 e s.fl s.flr k) a w

/-! ### operations that call no Go function -/
theorem opOut_wp {e : Env} {W0 : Bas} {s s' : St} {a : Act} {w : World} {o : Oper} {v : SV} {k : St → T} {Q : Exit → Act → World → Prop} (h : Rel e W0 s a w) (ho : OpOut P e W0 s s' o a.eval v w) (hdp : s.dp = bs.length)
    (hs : (k (s'.put o.dst v)).sat Γ e.R Ψ bs e.r) : o.wp P a w (Nx Γ Ψ bs W0 e s.fl s.flr k) Q := by
  obtain ⟨h1, h2, h3, h4, h5, h6, e', w', nx, hr, hnx, hrep, hle, hr', hR, hω, hfr⟩ := ho
  have hrel : Rel e' W0 s' a w' := ⟨hrep, by
    rw [h.tmps, h1]
    congr 1
    exact List.map_congr_left fun x hx => (hfr x hx).symm, h.defs⟩
  have hfin : Nx Γ Ψ bs W0 e s.fl s.flr k (a.put o.dst (v.den e')) w' :=
    Nx.here hle (hrel.put o.dst v) ((put_fields s' o.dst v).2.2.2.2.1.trans h4) ((put_fields s' o.dst v).2.2.2.2.2.trans h5) ((put_dp _ _ _).trans (h6.trans hdp)) (by rw [hr', hR]; exact hs)
  unfold Oper.wp
  rw [hr]
  rcases hnx with rfl | ⟨rfl, hu⟩
  · exact hfin
  · simp only [Oper.upon_skip]
    rw [← hu]
    exact hfin

/-! ### values in and out of summaries -/
theorem ksame_eq : ∀ {a b : List K}, ksame a b = true → a = b
  | [], [], _ => rfl
  | x :: xs, y :: ys, h => by
    simp only [ksame, Bool.and_eq_true] at h
    have h1 : x = y := by
      cases x <;> cases y <;> simp_all [K.same]
    rw [h1, ksame_eq h.2]
  | [], _ :: _, h => by simp [ksame] at h
  | _ :: _, [], h => by simp [ksame] at h

theorem chunks_den {e : Env} {ks : List K} : ∀ {n : Nat} {cs : List SC} {l : List E}, chunks ks n cs = some l → n * ks.length ≤ cs.length →
    l.length = n ∧ (∀ x ∈ l.map (E.den e.R e.r), (elt ks x).length = ks.length) ∧ cellsL ks (l.map (E.den e.R e.r)) = (cs.map (SC.den e)).take (n * ks.length)
  | 0, cs, l, h, _ => by simp only [chunks, Option.some.injEq] at h; subst h; simp [cellsL]
  | n + 1, cs, l, h, hle => by
    rw [Nat.add_mul, Nat.one_mul] at hle
    simp only [chunks] at h
    split at h
    · rename_i es l' h1 h2
      simp only [Option.some.injEq] at h
      subst h
      obtain ⟨a1, a2, a3⟩ := chunks_den (e := e) h2 (by simp; omega)
      obtain ⟨b1, b2⟩ := flatC_den (e := e) h1
      have hel : elt ks ((elemE es).den e.R e.r) = es.map (E.den e.R e.r) := elemE_elt _ _ b1
      refine ⟨by simp [a1], ?_, ?_⟩
      · intro x hx
        simp only [List.map_cons, List.mem_cons] at hx
        rcases hx with rfl | hx
        · rw [hel]; simpa using b1
        · exact a2 x hx
      · simp only [cellsL, List.map_cons, List.flatMap_cons, hel] at a3 ⊢
        rw [a3, ← b2, Nat.add_mul, Nat.one_mul, Nat.add_comm (n * ks.length), List.take_add, List.map_take, List.map_drop]
    · cases h

theorem cellsL_take {ks : List K} {l : List Int} (h : ∀ x ∈ l, (elt ks x).length = ks.length) (n : Nat) : cellsL ks (l.take n) = (cellsL ks l).take (n * ks.length) := by
  have h1 : cellsL ks l = cellsL ks (l.take n) ++ cellsL ks (l.drop n) := by rw [← cellsL_app, List.take_append_drop]
  by_cases hn : n ≤ l.length
  · have h2 : (cellsL ks (l.take n)).length = n * ks.length := by rw [cellsL_length (fun x hx => h x (List.mem_of_mem_take hx)), List.length_take, Nat.min_eq_left hn]
    rw [h1, ← h2, List.take_left]
  · rw [List.take_of_length_le (by omega), List.take_of_length_le]
    rw [cellsL_length h]
    exact Nat.mul_le_mul_right _ (by omega)

theorem cellsL_drop {ks : List K} {l : List Int} (h : ∀ x ∈ l, (elt ks x).length = ks.length) (n : Nat) : cellsL ks (l.drop n) = (cellsL ks l).drop (n * ks.length) := by
  have h1 : cellsL ks l = cellsL ks (l.take n) ++ cellsL ks (l.drop n) := by rw [← cellsL_app, List.take_append_drop]
  by_cases hn : n ≤ l.length
  · have h2 : (cellsL ks (l.take n)).length = n * ks.length := by rw [cellsL_length (fun x hx => h x (List.mem_of_mem_take hx)), List.length_take, Nat.min_eq_left hn]
    rw [h1, ← h2, List.drop_left]
  · rw [List.drop_of_length_le (by omega), List.drop_of_length_le]
    · rfl
    rw [cellsL_length h]
    exact Nat.mul_le_mul_right _ (by omega)

theorem kdeep_eq : ∀ {a b : List K}, kdeep a b = true → a = b
  | [], [], _ => rfl
  | .i x :: xs, .i y :: ys, h => by
    simp only [kdeep, Bool.and_eq_true, beq_iff_eq] at h
    rw [h.1, kdeep_eq h.2]
  | .b :: xs, .b :: ys, h => by
    simp only [kdeep] at h
    rw [kdeep_eq h]
  | .s t a :: xs, .s u b :: ys, h => by
    simp only [kdeep, Bool.and_eq_true, beq_iff_eq] at h
    rw [h.1.1, ksame_eq h.1.2, kdeep_eq h.2]
  | [], _ :: _, h => by simp [kdeep] at h
  | .i _ :: _, [], h => by simp [kdeep] at h
  | .b :: _, [], h => by simp [kdeep] at h
  | .s _ _ :: _, [], h => by simp [kdeep] at h
  | .i _ :: _, .b :: _, h => by simp [kdeep] at h
  | .i _ :: _, .s _ _ :: _, h => by simp [kdeep] at h
  | .b :: _, .i _ :: _, h => by simp [kdeep] at h
  | .b :: _, .s _ _ :: _, h => by simp [kdeep] at h
  | .s _ _ :: _, .i _ :: _, h => by simp [kdeep] at h
  | .s _ _ :: _, .b :: _, h => by simp [kdeep] at h
theorem flatC_plain : ∀ {ks : List K} {cs : List SC} {es : List E}, flatC ks cs = some es → plainK ks = true
  | [], _, _, _ => rfl
  | .s t a :: ks, cs, es, h => by cases cs <;> simp [flatC] at h
  | .i k :: ks, [], es, h => by simp [flatC] at h
  | .b :: ks, [], es, h => by simp [flatC] at h
  | .i k :: ks, c :: cs, es, h => by
    cases hf : flatC ks cs with
    | some l => exact (flatC_plain hf : plainK ks = true)
    | none => exfalso; cases c <;> simp [flatC, hf] at h
  | .b :: ks, c :: cs, es, h => by
    cases hf : flatC ks cs with
    | some l => exact (flatC_plain hf : plainK ks = true)
    | none =>
      exfalso
      cases c with
      | b x => cases x <;> simp [flatC, hf] at h
      | _ => simp [flatC] at h
theorem chunks_plain {ks : List K} : ∀ {n : Nat} {cs : List SC} {l : List E}, chunks ks n cs = some l → plainK ks = true ∨ l = []
  | 0, cs, l, h => by simp only [chunks, Option.some.injEq] at h; exact .inr h.symm
  | n + 1, cs, l, h => by
    simp only [chunks] at h
    split at h
    · rename_i es l' h1 h2
      exact .inl (flatC_plain h1)
    · cases h
theorem sliceE_ok0 {e : Env} {W0 : Bas} {s : St} {w : World} (h : Rep e W0 s w) {ks : List K} {c : SC} {as : List B} {x : E} (hc : sliceE s ks c = some (as, x)) (has : ∀ b ∈ as, b.den e.R e.r = true) : SlOK w ks (c.den e) (x.den e.R e.r) := by
  unfold sliceE at hc
  split at hc
  · rename_i g
    split at hc
    · rename_i ks' c' hg
      split at hc
      · rename_i hk
        simp only [Option.some.injEq, Prod.mk.injEq] at hc
        obtain ⟨rfl, rfl⟩ := hc
        have hkk : ks' = ks := by
          simp only [Bool.or_eq_true, Bool.and_eq_true] at hk
          rcases hk with hk | hk
          · exact ksame_eq hk
          · exact kdeep_eq hk.2
        rw [← hkk]
        exact h.gread hg
      · cases hc
    · cases hc
  · rename_i g size lo hi
    split at hc
    · rename_i ks' c' hg
      split at hc
      · rename_i hk
        simp only [Bool.and_eq_true, decide_eq_true_eq] at hk
        obtain ⟨hk, rfl⟩ := hk
        simp only [Option.some.injEq, Prod.mk.injEq] at hc
        obtain ⟨rfl, rfl⟩ := hc
        have hkk := ksame_eq hk
        subst hkk
        obtain ⟨v1, v2, v3⟩ := vB_den has
        have hd : dec ((mkDrop (mkTake c' hi) lo).den e.R e.r) = ((dec (c'.den e.R e.r)).take (hi.den e.R e.r).toNat).drop (lo.den e.R e.r).toNat := by rw [mkDrop_dec, mkTake_den, dec_cod]
        simp only [SC.den]
        rcases h.gread hg with ⟨hv, hn⟩ | ⟨b, off, cap, hv, hle, hm, hel, hcell⟩
        · refine .inl ⟨?_, ?_⟩
          · rw [hv]
            rw [hn] at v3
            simp only [List.length_nil] at v3
            simp [subV]
            simp at v3
            omega
          · rw [hd, hn]; simp
        · have hlen : (dec ((mkDrop (mkTake c' hi) lo).den e.R e.r)).length = (hi.den e.R e.r).toNat - (lo.den e.R e.r).toNat := by
            rw [hd, List.length_drop, List.length_take]; omega
          refine .inr ⟨b, if cap = (lo.den e.R e.r).toNat then off else off + (lo.den e.R e.r).toNat * ks'.length, cap - (lo.den e.R e.r).toNat, ?_, by omega, by omega, ?_, ?_⟩
          · rw [hlen, hv]
            simp only [subV, Option.map_some, Addr.add_lit]
            split <;> rfl
          · intro x hx
            rw [hd] at hx
            exact hel x (List.mem_of_mem_take (List.mem_of_mem_drop hx))
          · intro j u hj
            rw [hd, cellsL_drop (fun x hx => hel x (List.mem_of_mem_take hx)), cellsL_take hel, List.getElem?_drop, List.getElem?_take] at hj
            split at hj
            · rename_i hlt
              have hlo : ¬ cap = (lo.den e.R e.r).toNat := by
                intro hcl
                have hh : (hi.den e.R e.r).toNat = (lo.den e.R e.r).toNat := by omega
                rw [hh] at hlt
                omega
              rw [if_neg hlo, Nat.add_assoc]
              exact hcell _ _ hj
            · cases hj
      · cases hc
    · cases hc
  · rename_i g
    split at hc
    · rename_i hg
      simp only [Option.some.injEq, Prod.mk.injEq] at hc
      obtain ⟨rfl, rfl⟩ := hc
      obtain ⟨⟨ks', c'⟩, hg'⟩ := Option.isSome_iff_exists.1 hg
      simp only [SC.den, E.den]
      rcases h.gread hg' with ⟨hv, hn⟩ | ⟨b, off, cap, hv, hle, hm, hel, hcell⟩
      · exact .inl ⟨by rw [hv]; rfl, by simp⟩
      · exact .inr ⟨b, off, 0, by rw [hv]; simp [zeroV], by simp, by simp, by simp, by simp [cellsL]⟩
    · cases hc
  · rename_i n off len cap
    split at hc
    · rename_i b hb
      split at hc
      · rename_i hcc
        simp only [Bool.and_eq_true, decide_eq_true_eq] at hcc
        obtain ⟨⟨⟨hl, hle⟩, hlc⟩, hcap⟩ := hcc
        simp only [Option.map_eq_some_iff, Prod.mk.injEq] at hc
        obtain ⟨l, hl', rfl, rfl⟩ := hc
        obtain ⟨a1, a2, a3⟩ := chunks_den (e := e) hl' (by simp; omega)
        have hd : dec ((listE l).den e.R e.r) = l.map (E.den e.R e.r) := by rw [listE_den, dec_cod]
        refine .inr ⟨e.β.getD n 0, off, cap, ?_, ?_, ?_, ?_, ?_⟩
        · rw [hd, List.length_map, a1]; rfl
        · rw [hd, List.length_map, a1]; exact hlc
        · simp only [maxLen]; omega
        · rw [hd]; exact a2
        · intro j u hj
          rw [hd, a3, List.getElem?_take] at hj
          split at hj
          · rename_i hjn
            have hlt : off + j < b.cells.length := by omega
            rw [blk_cell h hb hl (off + j) hlt]
            rw [List.map_drop, List.getElem?_drop] at hj
            simp only [List.getElem?_map] at hj
            rw [List.getElem?_eq_getElem hlt] at hj
            simpa [List.getD, hlt] using hj
          · cases hj
      · cases hc
    · cases hc
  · simp only [Option.some.injEq, Prod.mk.injEq] at hc
    obtain ⟨rfl, rfl⟩ := hc
    exact .inl ⟨rfl, by simp [E.den]⟩
  · cases hc

theorem SlOK.toNE {w : World} {ks : List K} {v : Value} {c : Int} (hk : plainK ks = true ∨ dec c = []) (h : SlOK w ks v c) : SlN w ks v c := by
  rcases hk with hk | hk
  · exact h.toN hk
  · unfold SlN
    rw [SlXK]
    exact ⟨⟨h, fun _ _ _ hh => hh⟩, fun x hx => by rw [hk] at hx; simp at hx⟩
theorem sliceE_ok {e : Env} {W0 : Bas} {s : St} {w : World} (h : Rep e W0 s w) {ks : List K} {c : SC} {as : List B} {x : E} (hc : sliceE s ks c = some (as, x)) (has : ∀ b ∈ as, b.den e.R e.r = true) : SlN w ks (c.den e) (x.den e.R e.r) := by
  have h0 := sliceE_ok0 h hc has
  unfold sliceE at hc
  split at hc
  · rename_i g
    split at hc
    · rename_i ks' c' hg
      split at hc
      · rename_i hk
        simp only [Option.some.injEq, Prod.mk.injEq] at hc
        obtain ⟨rfl, rfl⟩ := hc
        simp only [Bool.or_eq_true, Bool.and_eq_true, Bool.not_eq_true'] at hk
        rcases hk with hk | hk
        · exact h0.toNE (.inl (ksame_plain hk).2)
        · have hkk := kdeep_eq hk.2
          subst hkk
          exact (h.greadX hk.1 hg).nowN h.below
      · cases hc
    · cases hc
  · rename_i g size lo hi
    split at hc
    · split at hc
      · rename_i hk
        simp only [Bool.and_eq_true, decide_eq_true_eq] at hk
        exact h0.toNE (.inl (ksame_plain hk.1).2)
      · cases hc
    · cases hc
  · split at hc
    · simp only [Option.some.injEq, Prod.mk.injEq] at hc
      obtain ⟨rfl, rfl⟩ := hc
      exact h0.toNE (.inr (by simp [E.den]))
    · cases hc
  · split at hc
    · split at hc
      · simp only [Option.map_eq_some_iff, Prod.mk.injEq] at hc
        obtain ⟨l, hl', rfl, rfl⟩ := hc
        refine h0.toNE ?_
        rcases chunks_plain hl' with hh | hh
        · exact .inl hh
        · exact .inr (by rw [hh]; simp [listE, E.den])
      · cases hc
    · cases hc
  · simp only [Option.some.injEq, Prod.mk.injEq] at hc
    obtain ⟨rfl, rfl⟩ := hc
    exact h0.toNE (.inr (by simp [E.den]))
  · cases hc

theorem flatA_ok {e : Env} {W0 : Bas} {s : St} {w : World} (h : Rep e W0 s w) : ∀ {ks : List K} {cs : List SC} {as : List B} {es : List E}, flatA s ks cs = some (as, es) → (∀ b ∈ as, b.den e.R e.r = true) →
    es.length = ks.length ∧ CellsR (fun _ ks u n => SlN w ks u n) ks (cs.map (SC.den e)) (es.map (E.den e.R e.r)) := by
  intro ks
  induction ks with
  | nil =>
    intro cs as es hf _
    cases cs with
    | nil => simp only [flatA, Option.some.injEq, Prod.mk.injEq] at hf; obtain ⟨rfl, rfl⟩ := hf; exact ⟨rfl, trivial⟩
    | cons c cs => simp [flatA] at hf
  | cons k ks ih =>
    intro cs as es hf has
    cases cs with
    | nil => cases k <;> simp [flatA] at hf
    | cons c cs =>
      have plain : ∀ {k : K}, (∀ ty kr, k ≠ .s ty kr) → ∀ {x : E}, flatC [k] [c] = some [x] → CellR (fun _ ks u n => SlN w ks u n) k (c.den e) (x.den e.R e.r) := by
        intro k hk x hx
        obtain ⟨_, h2⟩ := flatC_den (e := e) hx
        simp only [List.map_cons, List.map_nil, mkCells, List.cons.injEq, and_true] at h2
        cases k with
        | i k => exact h2
        | b => exact h2
        | s ty kr => exact absurd rfl (hk ty kr)
      cases k with
      | s ty kr =>
        simp only [flatA] at hf
        split at hf
        · rename_i as1 x bs1 es1 h1 h2
          simp only [Option.some.injEq, Prod.mk.injEq] at hf
          obtain ⟨rfl, rfl⟩ := hf
          obtain ⟨a1, a2⟩ := ih h2 (fun b hb => has b (List.mem_append_right _ hb))
          exact ⟨by simp [a1], sliceE_ok h h1 (fun b hb => has b (List.mem_append_left _ hb)), a2⟩
        · cases hf
      | i k =>
        simp only [flatA] at hf
        split at hf
        · rename_i x bs1 es1 h1 h2
          simp only [Option.some.injEq, Prod.mk.injEq] at hf
          obtain ⟨rfl, rfl⟩ := hf
          obtain ⟨a1, a2⟩ := ih h2 has
          exact ⟨by simp [a1], plain (by simp) h1, a2⟩
        · cases hf
      | b =>
        simp only [flatA] at hf
        split at hf
        · rename_i x bs1 es1 h1 h2
          simp only [Option.some.injEq, Prod.mk.injEq] at hf
          obtain ⟨rfl, rfl⟩ := hf
          obtain ⟨a1, a2⟩ := ih h2 has
          exact ⟨by simp [a1], plain (by simp) h1, a2⟩
        · cases hf

theorem flatSh_ok {e : Env} {W0 : Bas} {st : St} {w : World} (h : Rep e W0 st w) {s : Sh} {v : SV} {as : List B} {es : List E} (hf : flatSh st s v = some (as, es)) (has : ∀ b ∈ as, b.den e.R e.r = true) :
    es.length = s.ks.length ∧ ShR (fun _ ks u n => SlN w ks u n) s (v.den e) (es.map (E.den e.R e.r)) := by
  unfold flatSh at hf
  split at hf
  · rename_i cs
    split at hf
    · rename_i ha
      obtain ⟨h1, h2⟩ := flatA_ok h hf has
      refine ⟨h1, ?_⟩
      unfold ShR
      rw [if_pos ha]
      exact ⟨_, rfl, h2⟩
    · cases hf
  · rename_i c
    split at hf
    · cases hf
    · rename_i ha
      obtain ⟨h1, h2⟩ := flatA_ok h hf has
      refine ⟨h1, ?_⟩
      unfold ShR
      rw [if_neg ha]
      exact h2
  · cases hf

theorem flats_ok {e : Env} {W0 : Bas} {st : St} {w : World} (h : Rep e W0 st w) : ∀ {ss : List Sh} {vs : List SV} {as : List B} {es : List E}, flats st ss vs = some (as, es) → (∀ b ∈ as, b.den e.R e.r = true) →
    es.length = total ss ∧ ShsR (fun _ ks u n => SlN w ks u n) ss (vs.map (SV.den e)) (es.map (E.den e.R e.r))
  | [], [], as, es, hf, _ => by
    simp only [flats, Option.some.injEq, Prod.mk.injEq] at hf
    obtain ⟨rfl, rfl⟩ := hf
    exact ⟨rfl, rfl, rfl⟩
  | s :: ss, v :: vs, as, es, hf, has => by
    simp only [flats] at hf
    split at hf
    · rename_i as1 a bs1 b h1 h2
      simp only [Option.some.injEq, Prod.mk.injEq] at hf
      obtain ⟨rfl, rfl⟩ := hf
      obtain ⟨a1, a2⟩ := flatSh_ok h h1 (fun b hb => has b (List.mem_append_left _ hb))
      obtain ⟨a3, a4⟩ := flats_ok h h2 (fun b hb => has b (List.mem_append_right _ hb))
      exact ⟨by simp [total, a1, a3], _, _, _, _, rfl, by rw [List.map_append], a2, a4⟩
    · cases hf
  | [], _ :: _, _, _, hf, _ => by simp [flats] at hf
  | _ :: _, [], _, _, hf, _ => by simp [flats] at hf

theorem varsFrom_den {R : Fo} {r x : List Int} {n : Nat} (hx : x.length = n) : (varsFrom r.length n).map (E.den R (r ++ x)) = x := by
  apply List.ext_getElem?
  intro j
  simp only [varsFrom, List.map_map, List.getElem?_map]
  by_cases hj : j < n
  · rw [List.getElem?_range hj]
    simp only [Option.map_some, Function.comp, E.den, List.getD]
    rw [List.getElem?_append_right (by omega)]
    rw [show r.length + j - r.length = j by omega]
    simp [hx, hj]
  · rw [List.getElem?_eq_none (by simp; omega), List.getElem?_eq_none (by omega)]
    rfl

theorem Rep.vars {e : Env} {W0 : Bas} {s : St} {w : World} (h : Rep e W0 s w) (hs : s.sc = true) (x : List Int) :
    Rep { e with r := e.r ++ x } W0 { s with nv := s.nv + x.length } w ∧ (∀ v ∈ s.fr, v.den { e with r := e.r ++ x } = v.den e) ∧ Env.le e { e with r := e.r ++ x } := by
  have hle : Env.le e { e with r := e.r ++ x } := ⟨x, [], [], [], by simp⟩
  simp only [St.sc, Bool.and_eq_true] at hs
  obtain ⟨⟨hf, hm⟩, hr, hh⟩ := hs
  rw [← h.nv, ← h.nb, ← h.ng] at hf hm
  rw [← h.nx] at hf
  rw [← h.nv] at hr hh
  have hmd : ∀ n (b : Blk), s.mem[n]? = some b → b.cells.map (SC.den { e with r := e.r ++ x }) = b.cells.map (SC.den e) := fun n b hb =>
    map_den_le hle (List.all_eq_true.1 hm b (List.mem_of_getElem? hb))
  refine ⟨⟨h.below, h.nb, h.ng, by simp [h.nv], h.nx, ?_, h.own, h.sep, ?_, h.rown, h.rsep, h.brs, h.gl, ?_⟩, fun v hv => SV.den_le hle v (List.all_eq_true.1 hf v hv), hle⟩
  · intro n b hb hl
    rw [hmd n b hb]
    exact h.blk n b hb hl
  · intro n b hb hl
    have := h.row n b hb hl
    show RowOK w b.ty b.ks _ (b.c.den e.R (e.r ++ x))
    rw [E.den_app _ _ _ _ (List.all_eq_true.1 hr b (List.mem_of_getElem? hb))]
    exact this
  · intro i ks c hi
    have := h.arg i ks c hi
    show SlX W0 ks _ (c.den e.R (e.r ++ x))
    rw [E.den_app _ _ _ _ (List.all_eq_true.1 hh (ks, c) (List.mem_of_getElem? hi))]
    exact this

end Go.Sx
namespace Go.Sx
open Go.RowKit

variable {P : Program} {Γ : List Sum} {Ψ : List Int → Prop} {bs : List (List Int → Prop)}

def Sum.okM (P : Program) (sum : Sum) (f : St → List SV → Option (List B × List E × (Nat → St × SV))) : Prop :=
  ∀ (W0 : Bas) (e : Env) (s : St) (w : World) (args : List SV) (as : List B) (es : List E) (kk : Nat → St × SV), Rep e W0 s w → s.sc = true → args.all (SV.sc s.nv s.mem.length s.rows.length s.nx) = true → glIn sum.gl s.gl = true →
    f s args = some (as, es, kk) → (∀ b ∈ as, b.den e.R e.r = true) → sum.pre (es.map (E.den e.R e.r)) →
    Calls P sum.fn (args.map (SV.den e)).toArray w fun x w' => ∃ e', x = .returned ((kk s.nv).2.den e') ∧ Env.le e e' ∧ e'.r = e.r ++ sum.sem (es.map (E.den e.R e.r)) ∧ Rep e' W0 (kk s.nv).1 w' ∧
      (kk s.nv).1.fr = s.fr ∧ (kk s.nv).1.fl = s.fl ∧ (kk s.nv).1.flr = s.flr ∧ (kk s.nv).1.dp = s.dp
def Sum.okA (P : Program) (sum : Sum) : Prop := match sum.m with
  | some f => sum.okM P f
  | none => sum.ok P
theorem Sum.ok.A {P : Program} {sum : Sum} (h : sum.ok P) (hm : sum.m = none) : sum.okA P := by
  unfold Sum.okA
  rw [hm]
  exact h
def Gok (P : Program) (Γ : List Sum) : Prop := ∀ s ∈ Γ, s.okA P

theorem findSum_spec {fn : FuncId} : ∀ {l : List Sum} {g0 g : Nat} {s : Sum}, findSum fn l g0 = some (g, s) → s.fn = fn ∧ ∃ j, g = g0 + j ∧ l[j]? = some s
  | [], _, _, _, h => by simp [findSum] at h
  | x :: l, g0, g, s, h => by
    simp only [findSum] at h
    split at h
    · rename_i hx
      simp only [Option.some.injEq, Prod.mk.injEq] at h
      obtain ⟨rfl, rfl⟩ := h
      exact ⟨hx, 0, rfl, rfl⟩
    · obtain ⟨h1, j, h2, h3⟩ := findSum_spec h
      exact ⟨h1, j + 1, by omega, by simpa using h3⟩

theorem callable_spec {fn : FuncId} (h : callable P fn = true) : ∃ F body, P.funcs[fn]? = some F ∧ F.body = some body ∧ (F.name == "runtime.NumGoroutine") = false := by
  unfold callable at h
  split at h
  · rename_i F hF
    simp only [Bool.and_eq_true, bne_iff_ne, ne_eq] at h
    obtain ⟨body, hb⟩ := Option.isSome_iff_exists.1 h.1
    exact ⟨F, body, hF, hb, by simpa using h.2⟩
  · cases h

theorem run_enter {fn : FuncId} (hc : callable P fn = true) {o : Oper} {c : Call} {F : Operand} (ho : o.op = .call c) (hcal : c.callee = .value F) {ev : Operand → Value} {caps : Array Value} (hF : ev F = .func (.func fn) #[] caps) (w : World) :
    (execOp ev o).run P w = .ok (.enter fn (c.args.map ev ++ caps)) w := by
  obtain ⟨Fn, body, h1, h2, h3⟩ := callable_spec hc
  simp only [execOp, ho, resolve, hcal, hF, Deferred.ofValue, pure_bind, invoke, callFunc, Sem.run_bind, run_program, Result.andThen_ok, h1, h2, h3]
  simp

theorem glIn_ok {a b : List (Nat × List Int)} {w : World} (h : glIn a b = true) (hb : GlOK b w) : GlOK a w := by
  intro p hp
  obtain ⟨q, hq, hs⟩ := List.any_eq_true.1 (List.all_eq_true.1 h p hp)
  simp only [sameG, Bool.and_eq_true, beq_iff_eq] at hs
  have : p = q := Prod.ext hs.1 hs.2
  subst this
  exact hb p hq

theorem SC.sc_scp {nv nb ng : Nat} : ∀ {c : SC}, c.sc nv nb ng = true → c.scp nb ng = true := by
  intro c h
  have hG : ∀ {g : G}, g.sc nv ng = true → g.scp ng = true := by
    intro g hg
    cases g <;> first | exact hg | rfl
  cases c <;> simp only [SC.sc, SC.scp, Bool.and_eq_true] at h ⊢ <;> first | exact h | exact hG h | exact hG h.1 | exact h.1

theorem SV.sc_scp {nv nb ng nx : Nat} {v : SV} (h : v.sc nv nb ng nx = true) : v.scp nb ng = true := by
  have hW : ∀ {y : SW}, y.sc nv nb ng = true → y.scp nb ng = true := by
    intro y hy
    cases y with
    | o c => exact SC.sc_scp hy
    | a cs => exact List.all_eq_true.2 fun c hc => SC.sc_scp (List.all_eq_true.1 hy c hc)
  cases v with
  | w y => exact hW h
  | t xs => exact List.all_eq_true.2 fun y hy => hW (List.all_eq_true.1 h y hy)
  | un i => rfl

theorem St.sc_scp {s : St} (h : s.sc = true) : s.scp = true := by
  simp only [St.sc, St.scp, Bool.and_eq_true] at h ⊢
  exact ⟨List.all_eq_true.2 fun v hv => SV.sc_scp (List.all_eq_true.1 h.1.1 v hv), List.all_eq_true.2 fun b hb => List.all_eq_true.2 fun c hc => SC.sc_scp (List.all_eq_true.1 (List.all_eq_true.1 h.1.2 b hb) c hc)⟩

theorem Rep.kill {e : Env} {W0 : Bas} {s : St} {w : World} (h : Rep e W0 s w) {rows : List Row} (hl : rows.length = s.rows.length) (hr : ∀ (j : Nat) (b : Row), rows[j]? = some b → b.live = true → s.rows[j]? = some b) : Rep e W0 { s with rows := rows } w :=
  ⟨h.below, h.nb, h.ng.trans hl.symm, h.nv, h.nx, h.blk, h.own, h.sep, fun n b hb hlv => h.row n b (hr n b hb hlv) hlv, fun n b hb hlv => h.rown n b (hr n b hb hlv) hlv,
    fun n m b c k hb hc h1 h2 => h.rsep n m b c k (hr n b hb h1) (hr m c hc h2) h1 h2, fun n m b c hb hc h1 h2 => h.brs n m b c hb (hr m c hc h2) h1 h2, h.gl, h.arg⟩

theorem Rep.grownRow {e : Env} {W0 : Bas} {s : St} {w w' : World} (h : Rep e W0 s w) {row : Option Nat} (hg : w.grownBy w' row) (h0 : ∀ k, row = some k → W0.may k)
    (h1 : ∀ (n : Nat) (b : Blk), s.mem[n]? = some b → b.live = true → row ≠ some (e.β.getD n 0)) (h2 : ∀ (n : Nat) (b : Row), s.rows[n]? = some b → b.live = true → ∀ k, rowBlk ((G.o n).val e) = some k → row ≠ some k) : Rep e W0 s w' := by
  refine ⟨h.below.grown hg h0, h.nb, h.ng, h.nv, h.nx, ?_, h.own, h.sep, ?_, h.rown, h.rsep, h.brs, h.gl, h.arg⟩
  · intro n b hb hl
    rw [hg.block _ (heap_lt (h.blk n b hb hl)) (fun hk => h1 n b hb hl hk.symm)]
    exact h.blk n b hb hl
  · intro n b hb hl
    exact (h.row n b hb hl).kept hg (h2 n b hb hl)

theorem Rep.addRows {e : Env} {W0 : Bas} {s : St} {w : World} (h : Rep e W0 s w) (hs : s.scp = true) {rows : List Row} {vals : List Value} (hl : vals.length = rows.length)
    (hrow : ∀ (j : Nat) (b : Row) (v : Value), rows[j]? = some b → vals[j]? = some v → b.live = true → (∃ a l c, v = .slice a l c) ∧ RowOK w b.ty b.ks v (b.c.den e.R e.r))
    (hnew : ∀ (j : Nat) (b : Row) (v : Value) (k : Nat), rows[j]? = some b → vals[j]? = some v → b.live = true → rowBlk v = some k → W0.may k ∧ (∀ (n : Nat) (b : Blk), s.mem[n]? = some b → b.live = true → e.β.getD n 0 ≠ k) ∧ (∀ (n : Nat) (b : Row), s.rows[n]? = some b → b.live = true → rowBlk ((G.o n).val e) ≠ some k))
    (hap : ∀ (i j : Nat) (u v : Value) (k : Nat), vals[i]? = some u → vals[j]? = some v → rowBlk u = some k → rowBlk v = some k → i = j) :
    Rep { e with σ := e.σ ++ vals } W0 { s with rows := s.rows ++ rows } w ∧ Env.like s.mem.length s.rows.length e { e with σ := e.σ ++ vals } := by
  obtain ⟨hf, hm⟩ := St.scp_spec hs
  have hlike : Env.like s.mem.length s.rows.length e { e with σ := e.σ ++ vals } :=
    ⟨rfl, rfl, rfl, fun _ _ => rfl, fun n hn => getD_app_lt _ _ _ _ (by rw [h.ng]; exact hn)⟩
  refine ⟨?_, hlike⟩
  have hold : ∀ n, n < s.rows.length → (G.o n).val { e with σ := e.σ ++ vals } = (G.o n).val e := fun n hn => G.val_like hlike (.o n) (by simpa [G.scp] using hn)
  have hcases : ∀ (n : Nat) (b : Row), (s.rows ++ rows)[n]? = some b → (n < s.rows.length ∧ s.rows[n]? = some b) ∨ ∃ j v, n = s.rows.length + j ∧ rows[j]? = some b ∧ vals[j]? = some v ∧ ((b.live = true) → (G.o n).val { e with σ := e.σ ++ vals } = v) := by
    intro n b hb
    rcases Nat.lt_or_ge n s.rows.length with hn | hn
    · exact .inl ⟨hn, by rwa [List.getElem?_append_left hn] at hb⟩
    · rw [List.getElem?_append_right hn] at hb
      have hj := (List.getElem?_eq_some_iff.1 hb).1
      have hv : vals[n - s.rows.length]? = some (vals[n - s.rows.length]'(by omega)) := List.getElem?_eq_getElem (by omega)
      refine .inr ⟨n - s.rows.length, _, by omega, hb, hv, fun hlv => ?_⟩
      obtain ⟨⟨a, l, c, hsl⟩, _⟩ := hrow _ b _ hb hv hlv
      simp only [G.val]
      have : (e.σ ++ vals).getD n undef = vals[n - s.rows.length]'(by omega) := by
        simp only [List.getD]
        rw [List.getElem?_append_right (by rw [h.ng]; exact hn), h.ng, hv]
        rfl
      rw [this, hsl]
      rfl
  refine ⟨h.below, h.nb, ?_, h.nv, h.nx, ?_, h.own, h.sep, ?_, ?_, ?_, ?_, h.gl, ?_⟩
  · simp [h.ng, hl]
  · intro n b hb hlv
    rw [map_den_like hlike (hm b (List.mem_of_getElem? hb))]
    exact h.blk n b hb hlv
  · intro n b hb hlv
    rcases hcases n b hb with ⟨hn, hb'⟩ | ⟨j, v, rfl, hj, hv, hval⟩
    · rw [hold n hn]; exact h.row n b hb' hlv
    · rw [hval hlv]; exact (hrow j b v hj hv hlv).2
  · intro n b hb hlv hfl k hk
    rcases hcases n b hb with ⟨hn, hb'⟩ | ⟨j, v, rfl, hj, hv, hval⟩
    · rw [hold n hn] at hk; exact h.rown n b hb' hlv hfl k hk
    · rw [hval hlv] at hk; exact (hnew j b v k hj hv hlv hk).1
  · intro n m b c k hb hc hlb hlc h1 h2
    rcases hcases n b hb with ⟨hn, hb'⟩ | ⟨j, v, rfl, hj, hv, hval⟩ <;> rcases hcases m c hc with ⟨hm', hc'⟩ | ⟨j', v', rfl, hj', hv', hval'⟩
    · rw [hold n hn] at h1; rw [hold m hm'] at h2; exact h.rsep n m b c k hb' hc' hlb hlc h1 h2
    · rw [hold n hn] at h1; rw [hval' hlc] at h2; exact absurd h1 ((hnew j' c v' k hj' hv' hlc h2).2.2 n b hb' hlb)
    · rw [hval hlb] at h1; rw [hold m hm'] at h2; exact absurd h2 ((hnew j b v k hj hv hlb h1).2.2 m c hc' hlc)
    · rw [hval hlb] at h1; rw [hval' hlc] at h2; rw [hap j j' v v' k hv hv' h1 h2]
  · intro n m b c hb hc hlb hlc
    rcases hcases m c hc with ⟨hm', hc'⟩ | ⟨j', v', rfl, hj', hv', hval'⟩
    · rw [hold m hm']; exact h.brs n m b c hb hc' hlb hlc
    · rw [hval' hlc]
      intro hk
      exact (hnew j' c v' _ hj' hv' hlc hk).2.1 n b hb hlb rfl
  · intro i ks c hi
    exact h.arg i ks c hi

/-! ### slices among results -/
theorem slsC_rows {S : TypeId → List K → Value → Int → Prop} {e : Env} : ∀ {ks : List K} {cs : List Value} {es : List E}, CellsR S ks cs (es.map (E.den e.R e.r)) →
    (slsC ks cs).length = (rowsE ks es).length ∧ (slsC ks cs).length = nS ks ∧ ∀ (j : Nat) (b : Row) (v : Value), (rowsE ks es)[j]? = some b → (slsC ks cs)[j]? = some v → S b.ty b.ks v (b.c.den e.R e.r)
  | [], [], [], _ => ⟨rfl, rfl, fun j b v h => by simp [rowsE] at h⟩
  | k :: ks, c :: cs, x :: es, h => by
    obtain ⟨h1, h2⟩ := h
    obtain ⟨a1, a2, a3⟩ := slsC_rows (e := e) h2
    cases k with
    | i k => exact ⟨a1, a2, a3⟩
    | b => exact ⟨a1, a2, a3⟩
    | s ty kr =>
      refine ⟨by simp [slsC, rowsE, a1], by simp [slsC, nS, a2], fun j b v hj hv => ?_⟩
      cases j with
      | zero =>
        simp only [rowsE, slsC, List.getElem?_cons_zero, Option.some.injEq] at hj hv
        subst hj; subst hv
        exact h1
      | succ j => exact a3 j b v (by simpa [rowsE] using hj) (by simpa [slsC] using hv)
  | [], [], _ :: _, h => h.elim
  | [], _ :: _, _, h => h.elim
  | _ :: _, [], _, h => h.elim
  | _ :: _, _ :: _, [], h => h.elim

theorem CellsR.len {S : TypeId → List K → Value → Int → Prop} : ∀ {ks : List K} {cs : List Value} {xs : List Int}, CellsR S ks cs xs → cs.length = ks.length ∧ xs.length = ks.length
  | [], [], [], _ => ⟨rfl, rfl⟩
  | _ :: _, _ :: _, _ :: _, h => by obtain ⟨h1, h2⟩ := CellsR.len h.2; simp [h1, h2]
  | [], [], _ :: _, h => h.elim
  | [], _ :: _, _, h => h.elim
  | _ :: _, [], _, h => h.elim
  | _ :: _, _ :: _, [], h => h.elim

theorem rowsE_app : ∀ {ks kr : List K} {es er : List E}, es.length = ks.length → rowsE (ks ++ kr) (es ++ er) = rowsE ks es ++ rowsE kr er
  | [], _, [], _, _ => rfl
  | k :: ks, kr, x :: es, er, h => by
    simp only [List.length_cons, Nat.add_right_cancel_iff] at h
    cases k <;> simp [rowsE, rowsE_app h]
  | [], _, _ :: _, _, h => by simp at h
  | _ :: _, _, [], _, h => by simp at h

theorem ShR.len {S : TypeId → List K → Value → Int → Prop} {s : Sh} {v : Value} {xs : List Int} (h : ShR S s v xs) : xs.length = s.ks.length := by
  unfold ShR at h
  split at h
  · obtain ⟨cs, _, h⟩ := h; exact h.len.2
  · exact h.len.2

theorem slsSh_rows {S : TypeId → List K → Value → Int → Prop} {e : Env} {s : Sh} {v : Value} {es : List E} (h : ShR S s v (es.map (E.den e.R e.r))) :
    (slsSh s v).length = (rowsE s.ks es).length ∧ (slsSh s v).length = nS s.ks ∧ ∀ (j : Nat) (b : Row) (u : Value), (rowsE s.ks es)[j]? = some b → (slsSh s v)[j]? = some u → S b.ty b.ks u (b.c.den e.R e.r) := by
  unfold ShR at h
  unfold slsSh
  split at h
  · rename_i ha
    obtain ⟨cs, rfl, h⟩ := h
    simp only [ha, if_true]
    exact slsC_rows h
  · rename_i ha
    simp only [ha]
    exact slsC_rows h

theorem ShsR.len {S : TypeId → List K → Value → Int → Prop} : ∀ {ss : List Sh} {vs : List Value} {xs : List Int}, ShsR S ss vs xs → xs.length = total ss ∧ vs.length = ss.length
  | [], _, _, h => by rw [h.1, h.2]; exact ⟨rfl, rfl⟩
  | s :: ss, _, _, ⟨v, vr, ys, yr, h1, h2, h3, h4⟩ => by
    obtain ⟨a1, a2⟩ := ShsR.len h4
    subst h1; subst h2
    exact ⟨by simp [total, h3.len, a1], by simp [a2]⟩

theorem map_split {e : Env} {es : List E} {ys yr : List Int} (h : es.map (E.den e.R e.r) = ys ++ yr) : ∃ e1 e2, es = e1 ++ e2 ∧ e1.map (E.den e.R e.r) = ys ∧ e2.map (E.den e.R e.r) = yr :=
  ⟨es.take ys.length, es.drop ys.length, by simp, by rw [List.map_take, h, List.take_left], by rw [List.map_drop, h, List.drop_left]⟩

theorem slsShs_rows {S : TypeId → List K → Value → Int → Prop} {e : Env} : ∀ {ss : List Sh} {vs : List Value} {es : List E}, ShsR S ss vs (es.map (E.den e.R e.r)) →
    (slsShs ss vs).length = (rowsE (allK ss) es).length ∧ ∀ (j : Nat) (b : Row) (u : Value), (rowsE (allK ss) es)[j]? = some b → (slsShs ss vs)[j]? = some u → S b.ty b.ks u (b.c.den e.R e.r)
  | [], vs, es, h => by
    rw [h.1]
    exact ⟨rfl, fun j b u hj => by simp [allK, rowsE] at hj⟩
  | s :: ss, vs, es, ⟨v, vr, ys, yr, h1, h2, h3, h4⟩ => by
    subst h1
    obtain ⟨e1, e2, rfl, he1, he2⟩ := map_split h2
    rw [← he1] at h3
    rw [← he2] at h4
    obtain ⟨a1, _, a3⟩ := slsSh_rows h3
    obtain ⟨b1, b2⟩ := slsShs_rows h4
    have hl : e1.length = s.ks.length := by have := h3.len; simpa using this
    simp only [allK, slsShs, rowsE_app hl, List.length_append, a1, b1, true_and]
    intro j b u hj hu
    rcases Nat.lt_or_ge j (rowsE s.ks e1).length with hlt | hge
    · rw [List.getElem?_append_left hlt] at hj
      rw [List.getElem?_append_left (by omega)] at hu
      exact a3 j b u hj hu
    · rw [List.getElem?_append_right hge] at hj
      rw [List.getElem?_append_right (by omega), a1] at hu
      exact b2 _ b u hj hu

theorem cellsE_val {S : TypeId → List K → Value → Int → Prop} {e : Env} {mk : Nat → SC} : ∀ {ks : List K} {cs : List Value} {es : List E} {i : Nat}, CellsR S ks cs (es.map (E.den e.R e.r)) →
    (∀ (j : Nat) (v : Value), (slsC ks cs)[j]? = some v → (mk (i + j)).den e = v) → (cellsE mk i ks es).map (SC.den e) = cs
  | [], [], [], i, _, _ => rfl
  | k :: ks, c :: cs, x :: es, i, h, hm => by
    obtain ⟨h1, h2⟩ := h
    cases k with
    | i k =>
      simp only [cellsE, List.map_cons, cellsE_val h2 hm]
      rw [show c = Value.int k (x.den e.R e.r) from h1]
      rfl
    | b =>
      simp only [cellsE, List.map_cons, cellsE_val h2 hm]
      rw [show c = Value.bool (x.den e.R e.r != 0) from h1]
      congr 1
      simp only [SC.den]
      congr 1
      unfold mkNz
      split <;> simp [B.den, E.den]
    | s ty kr =>
      simp only [cellsE, List.map_cons]
      rw [cellsE_val h2 (fun j v hj => by
        have := hm (j + 1) v (by simpa [slsC] using hj)
        rwa [show i + (j + 1) = i + 1 + j by omega] at this)]
      have := hm 0 c rfl
      rw [Nat.add_zero] at this
      rw [this]
  | [], [], _ :: _, _, h, _ => h.elim
  | [], _ :: _, _, _, h, _ => h.elim
  | _ :: _, [], _, _, h, _ => h.elim
  | _ :: _, _ :: _, [], _, h, _ => h.elim

theorem shE_val {S : TypeId → List K → Value → Int → Prop} {e : Env} {mk : Nat → SC} {s : Sh} {v : Value} {es : List E} {i : Nat} (h : ShR S s v (es.map (E.den e.R e.r)))
    (hm : ∀ (j : Nat) (u : Value), (slsSh s v)[j]? = some u → (mk (i + j)).den e = u) : (shE mk i s es).den e = v := by
  unfold ShR at h
  unfold slsSh at hm
  unfold shE
  split at h
  · rename_i ha
    obtain ⟨cs, rfl, h⟩ := h
    simp only [ha, if_true] at hm ⊢
    simp only [SW.den]
    rw [cellsE_val h hm]
  · rename_i ha
    simp only [ha] at hm
    have := cellsE_val h hm
    simp only [ha]
    cases hc : cellsE mk i s.ks es with
    | nil => rw [hc] at this; simp at this
    | cons c l =>
      rw [hc] at this
      simp only [List.map_cons, List.cons.injEq] at this
      exact this.1

theorem shsE_val {S : TypeId → List K → Value → Int → Prop} {e : Env} {mk : Nat → SC} : ∀ {ss : List Sh} {vs : List Value} {es : List E} {i : Nat}, ShsR S ss vs (es.map (E.den e.R e.r)) →
    (∀ (j : Nat) (u : Value), (slsShs ss vs)[j]? = some u → (mk (i + j)).den e = u) → (shsE mk i ss es).map (SW.den e) = vs
  | [], vs, es, i, h, _ => by rw [h.1]; rfl
  | s :: ss, vs, es, i, ⟨v, vr, ys, yr, h1, h2, h3, h4⟩, hm => by
    subst h1
    obtain ⟨e1, e2, rfl, he1, he2⟩ := map_split h2
    rw [← he1] at h3
    rw [← he2] at h4
    have hl : e1.length = s.ks.length := by have := h3.len; simpa using this
    obtain ⟨a1, a2, _⟩ := slsSh_rows h3
    simp only [shsE, List.map_cons]
    rw [← hl, List.take_left, List.drop_left]
    rw [shE_val h3 (fun j u hj => hm j u (by
      simp only [slsShs]
      rw [List.getElem?_append_left (List.getElem?_eq_some_iff.1 hj).1]
      exact hj))]
    rw [shsE_val h4 (fun j u hj => by
      have := hm (nS s.ks + j) u (by
        simp only [slsShs]
        rw [List.getElem?_append_right (by omega), a2, show nS s.ks + j - nS s.ks = j by omega]
        exact hj)
      rwa [← Nat.add_assoc] at this)]

theorem resE_val {S : TypeId → List K → Value → Int → Prop} {e : Env} {mk : Nat → SC} {ss : List Sh} {vs : List Value} {es : List E} {i : Nat} (h : ShsR S ss vs (es.map (E.den e.R e.r)))
    (hm : ∀ (j : Nat) (u : Value), (slsShs ss vs)[j]? = some u → (mk (i + j)).den e = u) : (resE mk i ss es).den e = resV vs := by
  have := shsE_val h hm
  unfold resE resV
  rw [← this]
  match shsE mk i ss es with
  | [] => rfl
  | [x] => rfl
  | x :: y :: l => rfl

theorem apartV_spec {l : List Value} (h : apartV l) : ∀ (i j : Nat) (u v : Value) (k : Nat), l[i]? = some u → l[j]? = some v → rowBlk u = some k → rowBlk v = some k → i = j := by
  unfold apartV at h
  intro i j u v k hi hj hu hv
  rw [List.pairwise_iff_getElem] at h
  obtain ⟨hi1, hi2⟩ := List.getElem?_eq_some_iff.1 hi
  obtain ⟨hj1, hj2⟩ := List.getElem?_eq_some_iff.1 hj
  rcases Nat.lt_trichotomy i j with hlt | heq | hgt
  · exact absurd (by rw [hj2]; exact hv) (h i j hi1 hj1 hlt k (by rw [hi2]; exact hu))
  · exact heq
  · exact absurd (by rw [hi2]; exact hu) (h j i hj1 hi1 hgt k (by rw [hj2]; exact hv))

theorem callW_sum {s : St} {a : Act} {w : World} {W0 : Bas} {e : Env} {sum : Sum} {as : List B} {es : List E} {args : List SV} {g : Nat} {dst : Option Tmp} {k : St → T} (hG : Gok P Γ) (h : Rel e W0 s a w) (hdp : s.dp = bs.length) (hsc : s.sc = true)
    (hg : Γ[g]? = some sum) (hmn : sum.m = none) (hgl : glIn sum.gl s.gl = true) (hfl : flats s sum.ps args = some (as, es))
    (hs : (asrts as (T.call g es (k ({ s with nv := s.nv + total sum.rs, rows := s.rows ++ rowsE (allK sum.rs) (varsFrom s.nv (total sum.rs)) }.put dst (resE ownG s.rows.length sum.rs (varsFrom s.nv (total sum.rs))))))).sat Γ e.R Ψ bs e.r) :
    Calls P sum.fn (args.map (SV.den e)).toArray w fun x w' => ∃ v, x = .returned v ∧ Nx Γ Ψ bs W0 e s.fl s.flr k (a.put dst v) w' := by
  obtain ⟨has, hs⟩ := asrts_sat hs
  simp only [T.sat, hg] at hs
  obtain ⟨hpre, hs⟩ := hs
  obtain ⟨hlen, hden⟩ := flats_ok h.rep hfl has
  have hA := hG sum (List.mem_of_getElem? hg)
  unfold Sum.okA at hA
  rw [hmn] at hA
  obtain ⟨_, hok⟩ := hA
  obtain ⟨hl, hcalls⟩ := hok (es.map (E.den e.R e.r)) _ w (glIn_ok hgl h.rep.glw) hden hpre
  refine hcalls.mono fun x w' ⟨v, hx, ⟨vs, hv, hres, hap⟩, hb⟩ => ⟨_, hx, ?_⟩
  obtain ⟨hrep, hfr, hle⟩ := h.rep.vars hsc (sum.sem (es.map (E.den e.R e.r)))
  have hrep2 := hrep.grown hb
  have hvars : (varsFrom s.nv (total sum.rs)).map (E.den e.R (e.r ++ sum.sem (es.map (E.den e.R e.r)))) = sum.sem (es.map (E.den e.R e.r)) := by
    rw [← h.rep.nv]; exact varsFrom_den hl
  have hres' : ShsR (fun ty ks u n => RowOK w' ty ks u n ∧ ∀ k, rowBlk u = some k → w.heap.size ≤ k) sum.rs vs ((varsFrom s.nv (total sum.rs)).map (E.den ({ e with r := e.r ++ sum.sem (es.map (E.den e.R e.r)) } : Env).R ({ e with r := e.r ++ sum.sem (es.map (E.den e.R e.r)) } : Env).r)) := by
    show ShsR _ sum.rs vs ((varsFrom s.nv (total sum.rs)).map (E.den e.R (e.r ++ sum.sem (es.map (E.den e.R e.r)))))
    rw [hvars]; exact hres
  obtain ⟨r1, r2⟩ := slsShs_rows hres'
  have hslice : ∀ {ty ks u n}, RowOK w' ty ks u n → ∃ a l c, u = .slice a l c := by
    intro ty ks u n hr
    rcases hr with ⟨_, h2 | ⟨b, off, h2⟩⟩ | ⟨_, _, h2⟩
    · exact ⟨_, _, _, h2⟩
    · exact ⟨_, _, _, h2⟩
    · rcases h2.2 with ⟨h3, _⟩ | ⟨g, cap, cur, h3, _⟩
      · exact ⟨_, _, _, h3⟩
      · exact ⟨_, _, _, h3⟩
  have hscp : ({ s with nv := s.nv + (sum.sem (es.map (E.den e.R e.r))).length } : St).scp = true := (St.sc_scp hsc : s.scp = true)
  obtain ⟨hrep3, hlike⟩ := hrep2.addRows hscp (rows := rowsE (allK sum.rs) (varsFrom s.nv (total sum.rs))) (vals := slsShs sum.rs vs) r1
    (fun j b u hj hu _ => ⟨hslice (r2 j b u hj hu).1, (r2 j b u hj hu).1⟩)
    (fun j b u k hj hu _ hk => by
      have hge := (r2 j b u hj hu).2 k hk
      refine ⟨.inl (Nat.le_trans h.rep.below.size hge), fun n c hc hlc heq => ?_, fun n c hc hlc heq => ?_⟩
      · have := heap_lt (h.rep.blk n c hc hlc)
        have heq' : e.β.getD n 0 = k := heq
        omega
      · have := (h.rep.row n c hc hlc).blk_lt heq
        omega)
    (apartV_spec hap)
  rw [hl] at hrep3
  have hle2 : Env.le e { e with r := e.r ++ sum.sem (es.map (E.den e.R e.r)), σ := e.σ ++ slsShs sum.rs vs } := ⟨sum.sem (es.map (E.den e.R e.r)), [], slsShs sum.rs vs, [], by simp⟩
  have hrel : Rel { e with r := e.r ++ sum.sem (es.map (E.den e.R e.r)), σ := e.σ ++ slsShs sum.rs vs } W0 { s with nv := s.nv + total sum.rs, rows := s.rows ++ rowsE (allK sum.rs) (varsFrom s.nv (total sum.rs)) } a w' :=
    ⟨hrep3, by
      rw [h.tmps]; congr 1
      refine List.map_congr_left fun v hv => ?_
      rw [← hfr v hv]
      exact (SV.den_like hlike v ((St.scp_spec hscp).1 v hv)).symm, h.defs⟩
  have hresv : (resE ownG s.rows.length sum.rs (varsFrom s.nv (total sum.rs))).den { e with r := e.r ++ sum.sem (es.map (E.den e.R e.r)), σ := e.σ ++ slsShs sum.rs vs } = v := by
    rw [hv]
    refine resE_val (e := { e with r := e.r ++ sum.sem (es.map (E.den e.R e.r)), σ := e.σ ++ slsShs sum.rs vs }) hres' fun j u hj => ?_
    obtain ⟨b, hb'⟩ : ∃ b, (rowsE (allK sum.rs) (varsFrom s.nv (total sum.rs)))[j]? = some b := ⟨_, List.getElem?_eq_getElem (by rw [← r1]; exact (List.getElem?_eq_some_iff.1 hj).1)⟩
    obtain ⟨aa, ll, cc, hsl⟩ := hslice (r2 j b u hb' hj).1
    simp only [ownG, SC.den, G.val]
    have : (e.σ ++ slsShs sum.rs vs).getD (s.rows.length + j) undef = u := by
      simp only [List.getD]
      rw [List.getElem?_append_right (by rw [h.rep.ng]; omega), h.rep.ng, show s.rows.length + j - s.rows.length = j by omega, hj]
      rfl
    rw [this, hsl]
    rfl
  rw [← hresv]
  exact Nx.here hle2 (hrel.put dst _) ((put_fields _ dst _).2.2.2.2.1) ((put_fields _ dst _).2.2.2.2.2) ((put_dp _ _ _).trans hdp) hs

theorem callW_m {s : St} {a : Act} {w : World} {W0 : Bas} {e : Env} {sum : Sum} {f : St → List SV → Option (List B × List E × (Nat → St × SV))} {as : List B} {es : List E} {kk : Nat → St × SV} {args : List SV} {g : Nat} {dst : Option Tmp} {k : St → T} (hG : Gok P Γ) (h : Rel e W0 s a w) (hdp : s.dp = bs.length) (hsc : s.sc = true)
    (hg : Γ[g]? = some sum) (hmn : sum.m = some f) (hgl : glIn sum.gl s.gl = true) (hargs : args.all (SV.sc s.nv s.mem.length s.rows.length s.nx) = true) (hfl : f s args = some (as, es, kk))
    (hs : (asrts as (T.call g es (k ((kk s.nv).1.put dst (kk s.nv).2)))).sat Γ e.R Ψ bs e.r) :
    Calls P sum.fn (args.map (SV.den e)).toArray w fun x w' => ∃ v, x = .returned v ∧ Nx Γ Ψ bs W0 e s.fl s.flr k (a.put dst v) w' := by
  obtain ⟨has, hs⟩ := asrts_sat hs
  simp only [T.sat, hg] at hs
  obtain ⟨hpre, hs⟩ := hs
  have hA := hG sum (List.mem_of_getElem? hg)
  unfold Sum.okA at hA
  rw [hmn] at hA
  refine (hA W0 e s w args as es kk h.rep hsc hargs hgl hfl has hpre).mono ?_
  rintro x w' ⟨e', rfl, hle, hr, hrep, h1, h2, h3, h4⟩
  refine ⟨_, rfl, ?_⟩
  have hfr : s.fr.map (SV.den e') = s.fr.map (SV.den e) := by
    refine List.map_congr_left fun v hv => SV.den_le hle v ?_
    simp only [St.sc, Bool.and_eq_true] at hsc
    obtain ⟨⟨hf, _⟩, _⟩ := hsc
    rw [← h.rep.nv, ← h.rep.nb, ← h.rep.ng, ← h.rep.nx] at hf
    exact List.all_eq_true.1 hf v hv
  have hrel : Rel e' W0 (kk s.nv).1 a w' := ⟨hrep, by rw [h.tmps, h1, hfr], h.defs⟩
  have hR : e'.R = e.R := by obtain ⟨_, _, _, _, _, _, _, _, hR⟩ := hle; exact hR
  refine Nx.here hle (hrel.put dst _) (((put_fields _ dst _).2.2.2.2.1).trans h2) (((put_fields _ dst _).2.2.2.2.2).trans h3) ((put_dp _ _ _).trans (h4.trans hdp)) ?_
  rw [hr, hR]
  exact hs

/-! ### results -/
theorem loadS_run {e : Env} {W0 : Bas} {s : St} {w : World} (h : Rep e W0 s w) {t : TypeId} {v : SV} {y : SW} (hl : loadS P s t v = some y) : ∃ a, v.den e = .pointer (some a) ∧ (loadVar t a).run P w = .ok (y.den e) w := by
  unfold loadS at hl
  split at hl
  · rename_i n off
    split at hl
    · rename_i b hb
      split at hl
      · rename_i hlive
        refine ⟨⟨e.β.getD n 0, off, none⟩, rfl, ?_⟩
        have := run_loadVar_at (w := w) (e := e) hl (e.β.getD n 0) 0 (fun j hj => by rw [Nat.zero_add]; exact blk_cell h hb hlive j hj)
        rwa [Nat.zero_add] at this
      · cases hl
    · cases hl
  · cases hl

theorem tmps_getD {e : Env} {W0 : Bas} {s : St} {a : Act} {w : World} (h : Rel e W0 s a w) (t : Nat) : a.tmps.getD t undef = (s.fr.getD t undefS).den e := h.eval (.tmp t)

theorem resVars_run {e : Env} {W0 : Bas} {s : St} {a : Act} {w : World} (h : Rel e W0 s a w) : ∀ {l : List ResultVar} {ys : List SW}, resVars P s l = some ys →
    (l.mapM (m := Sem) fun
      | .tmp t => pure (a.tmps.getD t undef)
      | .cell x t => do loadVar t (← asAddr (a.tmps.getD x undef))).run P w = .ok (ys.map (SW.den e)) w
  | [], ys, hy => by simp only [resVars, Option.some.injEq] at hy; subst hy; simp
  | .tmp t :: l, ys, hy => by
    simp only [resVars] at hy
    split at hy
    · rename_i y ys' h1 h2
      simp only [Option.some.injEq] at hy
      subst hy
      have ih := resVars_run h h2
      simp only [List.mapM_cons, Sem.run_bind, Sem.run_pure, Result.andThen_ok, ih, tmps_getD h t, h1, List.map_cons]
      rfl
    · cases hy
  | .cell x t :: l, ys, hy => by
    simp only [resVars] at hy
    split at hy
    · rename_i y ys' h1 h2
      simp only [Option.some.injEq] at hy
      subst hy
      have ih := resVars_run h h2
      obtain ⟨ad, had, hrun⟩ := loadS_run h.rep h1
      have hasA : (asAddr (.pointer (some ad))).run P w = .ok ad w := rfl
      simp only [List.mapM_cons, Sem.run_bind, tmps_getD h x, had, hasA, Result.andThen_ok, hrun, ih, List.map_cons, Sem.run_pure]
    · cases hy

theorem resOf_run {e : Env} {W0 : Bas} {s : St} {a : Act} {w : World} {F : Func} {v : SV} (h : Rel e W0 s a w) (hv : resOf P F s = some v) : (results F a.tmps).run P w = .ok (v.den e) w := by
  unfold resOf at hv
  have key : ∀ {ys : List SW}, resVars P s F.results.toList = some ys → (results F a.tmps).run P w = .ok (if hh : (ys.map (SW.den e)).toArray.size = 1 then (ys.map (SW.den e)).toArray[0] else .tuple (ys.map (SW.den e)).toArray) w := by
    intro ys hy
    have := resVars_run h hy
    unfold results
    rw [Array.mapM_eq_mapM_toList]
    simp only [Sem.run_bind, Sem.run_map, Sem.run_pure]
    refine (congrArg (fun x => (Result.andThen (Result.andThen x _) _)) this).trans ?_
    rfl
  split at hv
  · rename_i y hy
    simp only [Option.some.injEq] at hv
    subst hv
    rw [key hy]
    rfl
  · rename_i ys hne hy
    simp only [Option.some.injEq] at hv
    subst hv
    rw [key hy]
    have : ¬ (ys.map (SW.den e)).toArray.size = 1 := by
      intro hh
      simp at hh
      match ys, hh with
      | [y], _ => exact hne y rfl
    rw [dif_neg this]
    rfl
  · cases hv

theorem popT_rel {e e' : Env} {W0 : Bas} {s s' : St} {a a' : Act} {w w' : World} {v : SV} (h : Rel e W0 s a w) (hsc : s.sc = true) (hle : Env.le e e') (h' : Rel e' W0 s' a' w') (hf : s'.fl = s.fl) (hfr : s'.flr = s.flr) :
    ∃ e'', Env.le e e'' ∧ Rel e'' W0 (popT s s' v) a w' ∧ v.den e'' = v.den e' ∧ e''.r = e'.r ∧ e''.R = e'.R ∧ (popT s s' v).fl = s.fl ∧ (popT s s' v).flr = s.flr ∧ (popT s s' v).dp = s'.dp := by
  have hsc' := hsc
  simp only [St.sc, Bool.and_eq_true] at hsc'
  obtain ⟨⟨hfs, _⟩, _⟩ := hsc'
  rw [← h.rep.nv, ← h.rep.nb, ← h.rep.ng, ← h.rep.nx] at hfs
  have hfrm : ∀ {e'' : Env}, Env.le e e'' → a.tmps = (s.fr.map (SV.den e'')).toArray := fun hl => by
    rw [h.tmps]
    congr 1
    exact List.map_congr_left fun x hx => (SV.den_le hl x (List.all_eq_true.1 hfs x hx)).symm
  unfold popT
  split
  · rename_i hc
    simp only [Bool.and_eq_true] at hc
    obtain ⟨hv, hm⟩ := hc
    obtain ⟨p, q, x, y, h1, h2, h3, h4, h5⟩ := hle
    have hlike : Env.like s.mem.length s.rows.length e' { e' with β := e'.β.take s.mem.length, σ := e'.σ.take s.rows.length } :=
      ⟨rfl, rfl, rfl, fun n hn => by simp [List.getD, hn], fun n hn => by simp [List.getD, hn]⟩
    have hle'' : Env.le e { e' with β := e'.β.take s.mem.length, σ := e'.σ.take s.rows.length } :=
      ⟨p, [], [], y, h1, by simp [h2, ← h.rep.nb], by simp [h3, ← h.rep.ng], h4, h5⟩
    have hml : s.mem.length ≤ s'.mem.length := by rw [← h.rep.nb, ← h'.rep.nb, h2]; simp
    have hrl : s.rows.length ≤ s'.rows.length := by rw [← h.rep.ng, ← h'.rep.ng, h3]; simp
    have hmt : ∀ {n : Nat} {b : Blk}, (s'.mem.take s.mem.length)[n]? = some b → n < s.mem.length ∧ s'.mem[n]? = some b ∧ b.cells.all (SC.scp s.mem.length s.rows.length) = true := fun {n b} hb => by
      have hall := List.all_eq_true.1 hm b (List.mem_of_getElem? hb)
      rw [List.getElem?_take] at hb
      split at hb
      · rename_i hn; exact ⟨hn, hb, hall⟩
      · cases hb
    have hrt : ∀ {n : Nat} {b : Row}, (s'.rows.take s.rows.length)[n]? = some b → n < s.rows.length ∧ s'.rows[n]? = some b := fun {n b} hb => by
      rw [List.getElem?_take] at hb
      split at hb
      · rename_i hn; exact ⟨hn, hb⟩
      · cases hb
    have hgv : ∀ n, n < s.rows.length → (G.o n).val { e' with β := e'.β.take s.mem.length, σ := e'.σ.take s.rows.length } = (G.o n).val e' := fun n hn => G.val_like hlike (.o n) (by simpa [G.scp] using hn)
    have g := h'.rep
    refine ⟨_, hle'', ⟨⟨g.below, ?_, ?_, g.nv, g.nx, ?_, ?_, ?_, ?_, ?_, ?_, ?_, g.gl, g.arg⟩, hfrm hle'', h.defs⟩, SV.den_like hlike v hv, rfl, rfl, rfl, rfl, rfl⟩
    · simp [g.nb, hml]
    · simp [g.ng, hrl]
    · intro n b hb hl
      obtain ⟨hn, hb', hall⟩ := hmt hb
      show w'.heap[(e'.β.take s.mem.length).getD n 0]? = _
      rw [show (e'.β.take s.mem.length).getD n 0 = e'.β.getD n 0 from hlike.β n hn, map_den_like hlike hall]
      exact g.blk n b hb' hl
    · intro n b hb hl hfl
      obtain ⟨hn, hb', hall⟩ := hmt hb
      show W0.may ((e'.β.take s.mem.length).getD n 0)
      rw [show (e'.β.take s.mem.length).getD n 0 = e'.β.getD n 0 from hlike.β n hn]
      exact g.own n b hb' hl (by rw [hf]; exact hfl)
    · intro n m b c hb hc hlb hlc heq
      obtain ⟨hn, hb', _⟩ := hmt hb
      obtain ⟨hm', hc', _⟩ := hmt hc
      refine g.sep n m b c hb' hc' hlb hlc ?_
      rw [← hlike.β n hn, ← hlike.β m hm']
      exact heq
    · intro n b hb hl
      obtain ⟨hn, hb'⟩ := hrt hb
      rw [hgv n hn]
      exact g.row n b hb' hl
    · intro n b hb hl hfl j hj
      obtain ⟨hn, hb'⟩ := hrt hb
      rw [hgv n hn] at hj
      exact g.rown n b hb' hl (by rw [hfr]; exact hfl) j hj
    · intro n m b c j hb hc hlb hlc h6 h7
      obtain ⟨hn, hb'⟩ := hrt hb
      obtain ⟨hm', hc'⟩ := hrt hc
      rw [hgv n hn] at h6
      rw [hgv m hm'] at h7
      exact g.rsep n m b c j hb' hc' hlb hlc h6 h7
    · intro n m b c hb hc hlb hlc
      obtain ⟨hn, hb', _⟩ := hmt hb
      obtain ⟨hm', hc'⟩ := hrt hc
      have := g.brs n m b c hb' hc' hlb hlc
      rw [← hlike.β n hn, ← hgv m hm'] at this
      exact this
  · have g := h'.rep
    refine ⟨e', hle, ⟨⟨g.below, g.nb, g.ng, g.nv, g.nx, g.blk, ?_, g.sep, g.row, ?_, g.rsep, g.brs, g.gl, g.arg⟩, hfrm hle, h.defs⟩, rfl, rfl, rfl, rfl, rfl, rfl⟩
    · intro n b hb hl hfl
      exact g.own n b hb hl (by rw [hf]; exact hfl)
    · intro n b hb hl hfl
      exact g.rown n b hb hl (by rw [hfr]; exact hfl)

theorem den_undefS (e : Env) : undefS.den e = undef := rfl

theorem callW_in {ih : Code → St → Kont → T} (hih : IH P Γ ih) {s : St} {a : Act} {w : World} {W0 : Bas} {e : Env} {args : List SV} {fn : FuncId} {F : Func} {body : Code} {dst : Option Tmp} {k : St → T} (h : Rel e W0 s a w) (hdp : s.dp = bs.length) (hsc : s.sc = true)
    (hF : P.funcs[fn]? = some F) (hb : F.body = some body)
    (hs : (ih body { s with fr := args ++ List.replicate (F.ntmps - args.length) undefS } fun out s' => match out with
              | .exit _ => .fail
              | _ => match resOf P F s' with
                | some v => k ((popT s s' v).put dst v)
                | none => .fail).sat Γ e.R Ψ bs e.r) :
    Calls P fn (args.map (SV.den e)).toArray w fun x w' => ∃ v, x = .returned v ∧ Nx Γ Ψ bs W0 e s.fl s.flr k (a.put dst v) w' := by
  refine calls_of_wp hF hb ?_
  have hrel : Rel e W0 { s with fr := args ++ List.replicate (F.ntmps - args.length) undefS } { tmps := (args.map (SV.den e)).toArray ++ Array.replicate (F.ntmps - (args.map (SV.den e)).toArray.size) undef, defers := [] } w :=
    ⟨h.rep.fr _, by
      apply Array.ext'
      simp [den_undefS], rfl⟩
  refine wp_mono (wps_wp _ (hih _ _ _ W0 Ψ bs e _ w hrel hdp hs)) ?_
  rintro x a' w' ⟨out, s', e', more, rfl, hle, hrel', hf, hfr, hdp', hsat⟩
  have fin : ∀ {v : SV}, resOf P F s' = some v → (k ((popT s s' v).put dst v)).sat Γ e'.R Ψ (bs ++ more) e'.r →
      a'.defers = [] ∧ ∃ v, (results F a'.tmps).run P w' = .ok v w' ∧ ∃ v', Ending.returned v = .returned v' ∧ Nx Γ Ψ bs W0 e s.fl s.flr k (a.put dst v') w' := by
    intro v hv hk
    refine ⟨hrel'.defs, _, resOf_run hrel' hv, _, rfl, ?_⟩
    obtain ⟨e'', hle'', hrel'', hvd, hr, hR, h1, h2, h3⟩ := popT_rel (v := v) h hsc hle hrel' hf hfr
    rw [← hvd]
    exact ⟨_, e'', more, hle'', hrel''.put dst v, (put_fields _ dst v).2.2.2.2.1.trans h1, (put_fields _ dst v).2.2.2.2.2.trans h2, (put_dp _ _ _).trans (h3.trans hdp'), by rw [hr, hR]; exact hk⟩
  cases out with
  | norm =>
    dsimp only at hsat
    split at hsat
    · rename_i v hv; exact fin hv hsat
    · exact hsat.elim
  | exit id => exact hsat.elim
  | ret =>
    dsimp only at hsat
    split at hsat
    · rename_i v hv; exact fin hv hsat
    · exact hsat.elim

end Go.Sx
namespace Go.Sx
open Go.RowKit

variable {P : Program} {Γ : List Sum} {Ψ : List Int → Prop} {bs : List (List Int → Prop)}

theorem ksame_one : ∀ {ks : List K}, ksame ks ks = true → ∀ {xs : List Int} {u : Value}, u ∈ mkCells ks xs → u.oneCell' = true
  | [], _, _, _, h => by simp [mkCells] at h
  | k :: ks, hk, [], _, h => by simp [mkCells] at h
  | k :: ks, hk, x :: xs, u, h => by
    simp only [ksame, Bool.and_eq_true] at hk
    simp only [mkCells, List.mem_cons] at h
    rcases h with rfl | h
    · cases k with
      | i k => rfl
      | b => rfl
      | s ty kr => simp [K.same] at hk
    · exact ksame_one hk.2 h

theorem cellsL_one {ks : List K} (hk : ksame ks ks = true) {l : List Int} {u : Value} (h : u ∈ cellsL ks l) : u.oneCell' = true := by
  simp only [cellsL, List.mem_flatMap] at h
  obtain ⟨x, _, hx⟩ := h
  exact ksame_one hk hx

theorem run_append_zero {t ty elem : TypeId} {inf : TypeInfo} {w : World} (ht : P.underlying t = some (.slice elem)) (hi : P.info? elem = some inf) {q r : Option Addr} {n cap c : Nat} (hle : n ≤ cap) :
    (Builtin.append_ #[t, t] ty #[.slice q n cap, .slice r 0 c]).run P w = .ok (.slice q n cap) w := by
  cases q <;> cases r <;> simp [Builtin.append_, run_underlying ht, sizeOf, typeInfo, hi, Builtin.lenOf, hle, Builtin.firstCells, loadCells, loadCellsFrom, storeCells]

theorem RowOK.form {w : World} {ty : TypeId} {ks : List K} {v : Value} {c : Int} (h : RowOK w ty ks v c) :
    (dec c = [] ∧ v = .slice none 0 0) ∨ (∃ b off, dec c = [] ∧ v = .slice (some ⟨b, off, none⟩) 0 0) ∨
    (∃ g cap, v = .slice (some ⟨g, 0, none⟩) (dec c).length cap ∧ cap ≠ 0 ∧ (dec c).length ≤ cap ∧ ks.length ≠ 0 ∧ (∀ x ∈ dec c, (elt ks x).length = ks.length) ∧ w.ownsRow 0 ty ks.length v (dec c).length (cellsL ks (dec c))) := by
  rcases h with ⟨h1, h2 | ⟨b, off, h2⟩⟩ | ⟨h0, h1, h2⟩
  · exact .inl ⟨h1, h2⟩
  · exact .inr (.inl ⟨b, off, h1, h2⟩)
  · have h3 := h2
    rcases h2.2 with ⟨hv, hn⟩ | ⟨g, cap, cur, hv, _, hc, hle, hm, hsz, ht⟩
    · exact .inl ⟨List.eq_nil_of_length_eq_zero hn, hv⟩
    · by_cases hcap : cap = 0
      · subst hcap
        have hl : (dec c).length = 0 := by omega
        exact .inr (.inl ⟨g, 0, List.eq_nil_of_length_eq_zero hl, by rw [hv, hl]⟩)
      · exact .inr (.inr ⟨g, cap, hv, hcap, hle, h0, h1, h3⟩)

theorem app_run {t ty elem : TypeId} {inf : TypeInfo} {z : Value} {ks : List K} {w : World} (ht : P.underlying t = some (.slice elem)) (hi : P.info? elem = some inf) (hz : inf.zero = some z) (hzs : z.cells.size = inf.size) (h0 : inf.size ≠ 0)
    (hks : ks.length = inf.size) (hflat : ksame ks ks = true) (hby : inf.bytes ≤ 100000000) {v x : Value} {c d : Int} (hv : RowOK w elem ks v c) (hx : SlOK w ks x d) (hlen : (dec c).length + (dec d).length ≤ 1000000) :
    ∃ v' w', (Builtin.append_ #[t, t] ty #[v, x]).run P w = .ok v' w' ∧ (∀ c', dec c' = dec c ++ dec d → RowOK w' elem ks v' c') ∧ w.grownBy w' (rowBlk v) ∧ (∀ k, rowBlk v' = some k → rowBlk v = some k ∨ k = w.heap.size) ∧ ∃ a l cp, v' = .slice a l cp := by
  have hsame : ∀ row, w.grownBy w row := fun row => ⟨rfl, rfl, rfl, Nat.le_refl _, fun _ _ _ => rfl⟩
  by_cases hd : dec d = []
  · -- nothing is appended
    have hxz : ∃ r cp, x = .slice r 0 cp := by
      rcases hx with ⟨hx, _⟩ | ⟨b, off, cap, hx, _⟩
      · exact ⟨_, _, hx⟩
      · exact ⟨_, _, by rw [hx, hd]; rfl⟩
    obtain ⟨r, cp, rfl⟩ := hxz
    have hvz : ∃ q n cap, v = .slice q n cap ∧ n ≤ cap := by
      rcases hv.form with ⟨_, hv⟩ | ⟨b, off, _, hv⟩ | ⟨g, cap, hv, _, hle, _⟩
      · exact ⟨_, _, _, hv, Nat.le_refl _⟩
      · exact ⟨_, _, _, hv, Nat.le_refl _⟩
      · exact ⟨_, _, _, hv, hle⟩
    obtain ⟨q, n, cap, rfl, hle⟩ := hvz
    refine ⟨_, w, run_append_zero ht hi hle, fun c' hc' => ?_, hsame _, fun k hk => .inl hk, _, _, _, rfl⟩
    rw [hd, List.append_nil] at hc'
    unfold RowOK at hv ⊢
    rw [hc']
    exact hv
  · rcases hx with ⟨_, hn⟩ | ⟨b, off, cx, rfl, hle, hm, hel, hcell⟩
    · exact absurd hn hd
    have hm0 : 0 < (dec d).length := List.length_pos_iff.2 hd
    have hnl : (cellsL ks (dec d)).length = (dec d).length * inf.size := by rw [cellsL_length hel, hks]
    have hnews : ∀ j u, (cellsL ks (dec d))[j]? = some u → w.cell? ((⟨b, off, none⟩ : Addr).add j) = some u := fun j u hj => by rw [Addr.add_lit]; exact hcell j u hj
    have h1 : ∀ u ∈ cellsL ks (dec d), u.oneCell' = true := fun u hu => cellsL_one hflat hu
    have hbytes : ∀ n, n ≤ 1000000 → n * inf.bytes ≤ 140737488355328 := fun n hn => by
      have := Nat.mul_le_mul hn hby
      omega
    -- an own slice ahead
    have own : ∀ {v : Value}, w.ownsRow 0 elem ks.length v (dec c).length (cellsL ks (dec c)) → (∀ x ∈ dec c, (elt ks x).length = ks.length) → v.ownBlock = rowBlk v →
        ∃ v' w', (Builtin.append_ #[t, t] ty #[v, .slice (some ⟨b, off, none⟩) (dec d).length cx]).run P w = .ok v' w' ∧ (∀ c', dec c' = dec c ++ dec d → RowOK w' elem ks v' c') ∧ w.grownBy w' (rowBlk v) ∧ (∀ k, rowBlk v' = some k → rowBlk v = some k ∨ k = w.heap.size) ∧ ∃ a l cp, v' = .slice a l cp := by
      intro v hown helc hob
      rw [hks] at hown
      obtain ⟨g, cap, w', hr, ho, hgr, hat, _⟩ := run_append_lies (P := P) w t ty 0 elem inf z inf.size inf.bytes ht hi hz rfl rfl hzs (by omega) v (dec c).length _ hown ⟨b, off, none⟩ (dec d).length cx _ hnl hnews h1 hm0 (by unfold maxLen; omega) (hbytes _ hlen) (Nat.zero_le _) _ rfl
      refine ⟨_, w', hr, fun c' hc' => .inr ⟨by omega, ?_, ?_⟩, by rw [← hob]; exact hgr, ?_, _, _, _, rfl⟩
      · rw [hc']
        intro y hy
        rcases List.mem_append.1 hy with hy | hy
        · exact helc y hy
        · exact hel y hy
      · rw [hc', cellsL_app, List.length_append, hks]
        exact ho
      · intro k hk
        simp only [rowBlk] at hk
        split at hk
        · cases hk
        · simp only [Option.some.injEq] at hk
          rw [hob] at hat
          rcases hat with hat | hat
          · exact .inl (by rw [hat, hk])
          · exact .inr (by rw [← hk, hat])
    rcases hv.form with ⟨hn, rfl⟩ | ⟨b', off', hn, rfl⟩ | ⟨g, cap, hvv, hcap, hle', hk0, helc, hown⟩
    · refine own ?_ (by rw [hn]; simp) rfl
      rw [hn]
      exact World.ownsRow_nil _ _ _ _
    · -- an empty slice of anywhere
      have hr := run_append_grow (P := P) w t ty elem inf z ht hi hz ⟨b', off', none⟩ 0 0 [] (by simp) (by simp) ⟨b, off, none⟩ (dec d).length cx _ hnl hnews (by omega) (by omega) (growslice_fits (by omega) (by have := hbytes (dec d).length (by omega); simpa using this))
      simp only [Nat.zero_add] at hr
      refine ⟨_, _, hr, fun c' hc' => .inr ⟨by omega, ?_, ?_⟩, ⟨rfl, rfl, rfl, by simp, fun k hk _ => heap_alloc_old w.drew _ hk⟩, ?_, _, _, _, rfl⟩
      · rw [hc', hn]
        simpa using hel
      · rw [hc', hn, List.nil_append]
        have hge := grownCap_ge w (dec d).length 0 elem
        refine ⟨by rw [hnl, hks], .inr ⟨w.heap.size, _, _, rfl, Nat.zero_le _, heap_alloc_new w.drew _, hge, grownCap_le_maxLen w (dec d).length 0 elem (by unfold maxLen; omega), ?_, ?_⟩⟩
        · simp only [Array.size_append, List.size_toArray, List.length_nil, size_zeroCells, hzs, hnl, hks, ← Nat.add_mul, Nat.zero_add]
          congr 1
          omega
        · simp only [Array.toList_append, List.nil_append]
          rw [hks, ← hnl]
          exact List.take_left
      · intro k hk
        simp only [rowBlk] at hk
        split at hk
        · cases hk
        · simp only [Option.some.injEq] at hk
          exact .inr hk.symm
    · refine own hown helc ?_
      rw [hvv]
      simp [Value.ownBlock, rowBlk, hcap]

theorem RowOK.take {w : World} {ty : TypeId} {ks : List K} {v : Value} {c c' : Int} (h : RowOK w ty ks v c) {hi : Nat} (hc : dec c' = (dec c).take hi) (hle : hi ≤ (dec c).length) (size : Nat) :
    RowOK w ty ks (subV size v 0 hi) c' ∧ rowBlk (subV size v 0 hi) = rowBlk v := by
  have hadd : ∀ q : Option Addr, q.map (fun x => x.add (0 * size)) = q := fun q => by cases q <;> simp [Addr.add]
  rcases h.form with ⟨hn, rfl⟩ | ⟨b, off, hn, rfl⟩ | ⟨g, cap, hvv, hcap, hle', hk0, helc, hown⟩
  · rw [hn] at hle hc
    have : hi = 0 := by simpa using hle
    subst this
    exact ⟨.inl ⟨by rw [hc]; simp, .inl (by simp [subV])⟩, by simp [subV, rowBlk]⟩
  · rw [hn] at hle hc
    have : hi = 0 := by simpa using hle
    subst this
    exact ⟨.inl ⟨by rw [hc]; simp, .inr ⟨b, off, by simp [subV]⟩⟩, by simp [subV, rowBlk]⟩
  · rcases hown.2 with ⟨hv, _⟩ | ⟨g', cap', cur, hv, _, hcu, hl2, hm, hsz, ht⟩
    · rw [hvv] at hv; cases hv
    · rw [hvv] at hv
      simp only [Value.slice.injEq, Option.some.injEq, Addr.mk.injEq] at hv
      obtain ⟨⟨rfl, _⟩, _, rfl⟩ := hv
      have hsub : subV size v 0 hi = .slice (some ⟨g, 0, none⟩) hi cap := by
        rw [hvv]
        simp only [subV, hadd, Nat.sub_zero, ite_self]
      rw [hsub]
      have hl : (dec c').length = hi := by rw [hc, List.length_take]; omega
      refine ⟨.inr ⟨hk0, ?_, ?_, .inr ⟨g, cap, cur, by rw [hl], Nat.zero_le _, hcu, by omega, hm, hsz, ?_⟩⟩, ?_⟩
      · rw [hc]; exact fun x hx => helc x (List.mem_of_mem_take hx)
      · rw [cellsL_length]
        rw [hc]; exact fun x hx => helc x (List.mem_of_mem_take hx)
      · rw [hl, hc, cellsL_take helc, ← ht, List.take_take]
        congr 1
        rw [Nat.min_eq_left]
        exact Nat.mul_le_mul_right _ hle
      · rw [hvv]; simp [rowBlk]

theorem baseE_spec {e : Env} {W0 : Bas} {s : St} {w : World} (h : Rep e W0 s w) {elem : TypeId} {ks : List K} {v : SV} {as : List B} {be : E} {rows : List Row} (hb : baseE s elem ks v = some (as, be, rows)) (has : ∀ b ∈ as, b.den e.R e.r = true) :
    RowOK w elem ks (v.den e) (be.den e.R e.r) ∧ rows.length = s.rows.length ∧ (∀ (j : Nat) (b : Row), rows[j]? = some b → b.live = true → s.rows[j]? = some b ∧ ∀ k, rowBlk (v.den e) = some k → rowBlk ((G.o j).val e) ≠ some k) ∧
      (∀ k, rowBlk (v.den e) = some k → W0.may k ∧ ∀ (n : Nat) (b : Blk), s.mem[n]? = some b → b.live = true → e.β.getD n 0 ≠ k) := by
  unfold baseE at hb
  split at hb
  · simp only [Option.some.injEq, Prod.mk.injEq] at hb
    obtain ⟨rfl, rfl, rfl⟩ := hb
    refine ⟨.inl ⟨by simp [E.den], .inl rfl⟩, rfl, fun j b hj hl => ⟨hj, fun k hk => by cases hk⟩, fun k hk => by cases hk⟩
  · simp only [Option.some.injEq, Prod.mk.injEq] at hb
    obtain ⟨rfl, rfl, rfl⟩ := hb
    exact ⟨.inl ⟨by simp [E.den], .inr ⟨_, _, rfl⟩⟩, rfl, fun j b hj hl => ⟨hj, fun k hk => by cases hk⟩, fun k hk => by cases hk⟩
  · rename_i g
    split at hb
    · rename_i hg
      simp only [Option.some.injEq, Prod.mk.injEq] at hb
      obtain ⟨rfl, rfl, rfl⟩ := hb
      obtain ⟨⟨ks', c'⟩, hg'⟩ := Option.isSome_iff_exists.1 hg
      have hnb : rowBlk ((SV.w (.o (.gz g))).den e) = none := by
        obtain ⟨a, l, c, hv⟩ := G.val_slice e g
        simp only [SV.den, SW.den, SC.den, hv, zeroV]
        cases a <;> simp [rowBlk]
      refine ⟨.inl ⟨by simp [E.den], ?_⟩, rfl, fun j b hj hl => ⟨hj, fun k hk => by rw [hnb] at hk; cases hk⟩, fun k hk => by rw [hnb] at hk; cases hk⟩
      simp only [SV.den, SW.den, SC.den]
      rcases h.gread hg' with ⟨hv, hn⟩ | ⟨b, off, cap, hv, hle, hm, hel, hcell⟩
      · exact .inl (by rw [hv]; rfl)
      · exact .inr ⟨b, off, by rw [hv]; rfl⟩
    · cases hb
  · rename_i n
    split at hb
    · rename_i b hbn
      split at hb
      · rename_i hc
        simp only [Bool.and_eq_true, decide_eq_true_eq] at hc
        obtain ⟨⟨⟨hl, hfl⟩, hty⟩, hks⟩ := hc
        have hks' := ksame_eq hks
        simp only [Option.some.injEq, Prod.mk.injEq] at hb
        obtain ⟨rfl, rfl, rfl⟩ := hb
        subst hty
        rw [← hks']
        refine ⟨h.row n b hbn hl, by simp, fun j bb hj hll => ?_, fun k hk => ⟨h.rown n b hbn hl hfl k hk, fun m bb hm hml heq => h.brs m n bb b hm hbn hml hl (by rw [heq]; exact hk)⟩⟩
        rcases mem_set_cases hj with ⟨rfl, rfl, _⟩ | ⟨hne, hj'⟩
        · cases hll
        · exact ⟨hj', fun k hk hk' => hne (h.rsep j n bb b k hj' hbn hll hl hk' hk)⟩
      · cases hb
    · cases hb
  · rename_i n size hi
    split at hb
    · rename_i b hbn
      split at hb
      · rename_i hc
        simp only [Bool.and_eq_true, decide_eq_true_eq] at hc
        obtain ⟨⟨⟨⟨hl, hfl⟩, hty⟩, hks⟩, hsz⟩ := hc
        have hks' := ksame_eq hks
        simp only [Option.some.injEq, Prod.mk.injEq] at hb
        obtain ⟨rfl, rfl, rfl⟩ := hb
        subst hty
        rw [← hks']
        obtain ⟨v1, v2, v3⟩ := vB_den has
        simp only [E.den] at v2
        obtain ⟨ht1, ht2⟩ := (h.row n b hbn hl).take (c' := (mkTake b.c hi).den e.R e.r) (hi := (hi.den e.R e.r).toNat) (by rw [mkTake_den, dec_cod]) (by omega) size
        have hval : (SV.w (.o (.gv (.o n) size (.c 0) hi))).den e = subV size ((G.o n).val e) 0 (hi.den e.R e.r).toNat := rfl
        rw [hval, ht2]
        refine ⟨ht1, by simp, fun j bb hj hll => ?_, fun k hk => ⟨h.rown n b hbn hl hfl k hk, fun m bb hm hml heq => h.brs m n bb b hm hbn hml hl (by rw [heq]; exact hk)⟩⟩
        rcases mem_set_cases hj with ⟨rfl, rfl, _⟩ | ⟨hne, hj'⟩
        · cases hll
        · exact ⟨hj', fun k hk hk' => hne (h.rsep j n bb b k hj' hbn hll hl hk' hk)⟩
      · cases hb
    · cases hb
  · cases hb

theorem appT_sound {s : St} {a : Act} {w : World} {W0 : Bas} {e : Env} {o : Oper} {c : Call} {k : St → T} {Q : Exit → Act → World → Prop} (h : Rel e W0 s a w) (hdp : s.dp = bs.length) (ho : o.op = .call c) (hcal : c.callee = .builtin .append)
    (hs : (appT P o c s k).sat Γ e.R Ψ bs e.r) : o.wp P a w (Nx Γ Ψ bs W0 e s.fl s.flr k) Q := by
  unfold appT at hs
  split at hs
  · rename_i ax x t t' hargs htys
    split at hs
    · exact hs.elim
    · rename_i htt
      simp only [ne_eq, Decidable.not_not] at htt
      subst htt
      have hc : c = { callee := .builtin .append, args := #[ax, x], argTypes := #[t, t] } := by
        cases c
        simp only at hcal hargs htys
        subst hcal
        congr 1
        · apply Array.ext'; simpa using hargs
        · apply Array.ext'; simpa using htys
      subst hc
      split at hs
      · rename_i elem hu
        split at hs
        · rename_i inf ks hinf hks
          split at hs
          · rename_i z hz
            split at hs
            · exact hs.elim
            · rename_i hcond
              simp only [ne_eq, Bool.or_eq_true, decide_eq_true_eq, Bool.not_eq_true', not_or, Decidable.not_not, Bool.not_eq_false, gt_iff_lt, Nat.not_lt] at hcond
              obtain ⟨⟨⟨⟨⟨h0, hzs⟩, hkl⟩, hby⟩, hflat⟩, hscp⟩ := hcond
              split at hs
              · rename_i as xe bs' be rows hsrc hbase
                obtain ⟨has, hs⟩ := asrts_sat hs
                have hxv : SlOK w ks (a.eval x) (xe.den e.R e.r) := by
                  rw [h.eval x]
                  split at hsrc
                  · rename_i xc hxc
                    rw [hxc]
                    exact sliceE_ok0 h.rep hsrc (fun b hb => has b (by simp [hb]))
                  · cases hsrc
                obtain ⟨b1, b2, b3, b4⟩ := baseE_spec h.rep hbase (fun b hb => has b (by simp [hb]))
                rw [← h.eval ax] at b1 b3 b4
                have hlim := has (mkLe (mkLn (mkApp be xe)) (.c 1000000)) (by simp)
                rw [mkLe_den, decide_eq_true_eq, mkLn_den, mkApp_dec] at hlim
                simp only [E.den, List.length_append] at hlim
                obtain ⟨v', w', hr, hrow, hgr, hat, hsl⟩ := app_run (P := P) (ty := o.type) hu hinf hz hzs h0 hkl hflat hby b1 hxv (by omega)
                have hk := h.rep.kill b2 (fun j b hj hl => (b3 j b hj hl).1)
                have hrep1 := hk.grownRow hgr (fun k hk => (b4 k hk).1) (fun n b hb hl hk' => (b4 _ hk').2 n b hb hl rfl) (fun n b hb hl k hk' hk'' => (b3 n b hb hl).2 k hk'' hk')
                have hscp' : ({ s with rows := rows } : St).scp = true := by
                  unfold St.scp at hscp ⊢
                  show (s.fr.all (SV.scp s.mem.length rows.length) && s.mem.all (fun b => b.cells.all (SC.scp s.mem.length rows.length))) = true
                  rw [b2]; exact hscp
                obtain ⟨hrep, hlike⟩ := hrep1.addRows hscp' (rows := [(⟨elem, ks, mkApp be xe, true⟩ : Row)]) (vals := [v']) rfl (fun j b v hj hv _ => by
                    cases j with
                    | zero =>
                      simp only [List.getElem?_cons_zero, Option.some.injEq] at hj hv
                      subst hj; subst hv
                      exact ⟨hsl, hrow _ (mkApp_dec _ _ _ _)⟩
                    | succ j => simp at hj)
                  (fun j b v k hj hv _ hk => by
                    cases j with
                    | zero =>
                      simp only [List.getElem?_cons_zero, Option.some.injEq] at hv
                      subst hv
                      rcases hat k hk with hk' | rfl
                      · exact ⟨(b4 k hk').1, (b4 k hk').2, fun n b hb hl => (b3 n b hb hl).2 k hk'⟩
                      · refine ⟨.inl h.rep.below.size, fun n b hb hl heq => ?_, fun n b hb hl heq => ?_⟩
                        · have := heap_lt (h.rep.blk n b hb hl); omega
                        · have := (h.rep.row n b (b3 n b hb hl).1 hl).blk_lt heq; omega
                    | succ j => simp at hj)
                  (fun i j u v k hi hj _ _ => by
                    cases i <;> cases j <;> simp at hi hj ⊢)
                have hrel : Rel { e with σ := e.σ ++ [v'] } W0 { s with rows := rows ++ [(⟨elem, ks, mkApp be xe, true⟩ : Row)] } a w' := ⟨hrep, by
                  rw [h.tmps]; congr 1
                  exact List.map_congr_left fun y hy => (SV.den_like hlike y ((St.scp_spec hscp').1 y hy)).symm, h.defs⟩
                have hv : (one (.go (.o s.rows.length))).den { e with σ := e.σ ++ [v'] } = v' := by
                  obtain ⟨a', l, cp, rfl⟩ := hsl
                  simp [one, SV.den, SW.den, SC.den, G.val, List.getD, ← h.rep.ng, slV]
                have hfin : Nx Γ Ψ bs W0 e s.fl s.flr k (a.put o.dst v') w' := by
                  rw [← hv]
                  exact Nx.here ⟨[], [], [v'], [], by simp⟩ (hrel.put o.dst _) ((put_fields _ _ _).2.2.2.2.1) ((put_fields _ _ _).2.2.2.2.2) ((put_dp _ _ _).trans hdp) hs
                unfold Oper.wp execOp
                simp only [ho, resolve, invoke, builtin, Sem.run_bind, Sem.run_pure, Result.andThen_ok, List.map_toArray, List.map_cons, List.map_nil, hr]
                exact hfin
              · exact hs.elim
          · exact hs.elim
        · exact hs.elim
      · exact hs.elim
  · exact hs.elim

theorem makeT_sound {s : St} {a : Act} {w : World} {W0 : Bas} {e : Env} {o : Oper} {t : TypeId} {l c : Operand} {k : St → T} {Q : Exit → Act → World → Prop} (h : Rel e W0 s a w) (hdp : s.dp = bs.length) (ho : o.op = .makeSlice t l c)
    (hs : (makeT P o t l c s k).sat Γ e.R Ψ bs e.r) : o.wp P a w (Nx Γ Ψ bs W0 e s.fl s.flr k) Q := by
  unfold makeT at hs
  split at hs
  · rename_i elem le ce hu hle hce
    split at hs
    · rename_i inf ks z hinf hks hz
      split at hs
      · exact hs.elim
      · rename_i hcond
        simp only [ne_eq, Bool.or_eq_true, decide_eq_true_eq, Bool.not_eq_true', not_or, Decidable.not_not, Bool.not_eq_false, gt_iff_lt, Nat.not_lt] at hcond
        obtain ⟨⟨⟨h0, hkl⟩, hby⟩, hscp⟩ := hcond
        split at hs
        · rename_i es hes
          obtain ⟨has, hs⟩ := asrts_sat hs
          have e1 := has (mkEq le ce) (by simp)
          have e2 := has (mkLe (.c 0) le) (by simp)
          have e3 := has (mkLe le (.c 1000000)) (by simp)
          rw [mkEq_den, beq_iff_eq] at e1
          rw [mkLe_den, decide_eq_true_eq] at e2 e3
          simp only [E.den] at e2 e3
          obtain ⟨n, hn⟩ := Int.eq_ofNat_of_zero_le e2
          obtain ⟨k1, hk1⟩ := intE_den hle e
          obtain ⟨k2, hk2⟩ := intE_den hce e
          rw [← h.eval l] at hk1
          rw [← h.eval c, ← e1] at hk2
          obtain ⟨f1, f2⟩ := flatC_den (e := e) hes
          have hzz : ∃ zv, inf.zero = some zv ∧ zv.cells.toList = z.map (SC.den e) := by
            simp only [zeroOf, hinf, Option.bind_some, Option.map_eq_some_iff] at hz
            obtain ⟨zv, hzv, rfl⟩ := hz
            refine ⟨zv, hzv, ?_⟩
            rw [List.map_map, show (SC.den e ∘ SC.ofV) = id from funext fun v => SC.den_ofV e v]
            simp
          obtain ⟨zv, hzv, hzl⟩ := hzz
          have hel : elt ks ((elemE es).den e.R e.r) = es.map (E.den e.R e.r) := elemE_elt _ _ f1
          have hzsz : zv.cells.size = inf.size := by
            have := congrArg List.length hzl
            rw [f2, mkCells_length (by simpa using f1), hkl] at this
            simpa using this
          obtain ⟨w', hr, hown, hgr⟩ := run_make_full (P := P) w 0 t elem inf zv inf.size hu hinf hzv rfl k1 k2 n (by
            have h2 : n ≤ 1000000 := by omega
            have := Nat.mul_le_mul hby h2
            omega) (by unfold maxLen; omega) (Nat.zero_le _)
          have hdec : dec ((mkRep le (elemE es)).den e.R e.r) = List.replicate n ((elemE es).den e.R e.r) := by rw [mkRep_den, dec_cod, hn]; rfl
          have hcells : (madeCells zv.cells (n * inf.size)).toList = cellsL ks (List.replicate n ((elemE es).den e.R e.r)) := by
            unfold madeCells
            rw [← hzsz, range_repl]
            simp only [cellsL, List.flatMap_replicate, hel, ← f2, hzl]
          have hrow : RowOK w' elem ks (.slice (some ⟨w.heap.size, 0, none⟩) n n) ((mkRep le (elemE es)).den e.R e.r) := by
            refine .inr ⟨by omega, ?_, ?_⟩
            · rw [hdec]
              intro x hx
              rw [(List.mem_replicate.1 hx).2, hel]
              simpa using f1
            · rw [hdec, List.length_replicate, ← hcells, hkl]
              exact hown
          have hrep1 := h.rep.grownRow hgr (fun k hk => by cases hk) (fun n b hb hl hk => by cases hk) (fun n b hb hl k hk hk' => by cases hk')
          obtain ⟨hrep, hlike⟩ := hrep1.addRows hscp (rows := [(⟨elem, ks, mkRep le (elemE es), true⟩ : Row)]) (vals := [Value.slice (some ⟨w.heap.size, 0, none⟩) n n]) rfl (fun j b v hj hv _ => by
              cases j with
              | zero =>
                simp only [List.getElem?_cons_zero, Option.some.injEq] at hj hv
                subst hj; subst hv
                exact ⟨⟨_, _, _, rfl⟩, hrow⟩
              | succ j => simp at hj)
            (fun j b v k hj hv _ hk => by
              cases j with
              | zero =>
                simp only [List.getElem?_cons_zero, Option.some.injEq] at hv
                subst hv
                simp only [rowBlk] at hk
                split at hk
                · cases hk
                · simp only [Option.some.injEq] at hk
                  subst hk
                  refine ⟨.inl h.rep.below.size, fun n b hb hl heq => ?_, fun n b hb hl heq => ?_⟩
                  · have := heap_lt (h.rep.blk n b hb hl); omega
                  · have := (h.rep.row n b hb hl).blk_lt heq; omega
              | succ j => simp at hj)
            (fun i j u v k hi hj _ _ => by
              cases i <;> cases j <;> simp at hi hj ⊢)
          have hrel : Rel { e with σ := e.σ ++ [Value.slice (some ⟨w.heap.size, 0, none⟩) n n] } W0 { s with rows := s.rows ++ [(⟨elem, ks, mkRep le (elemE es), true⟩ : Row)] } a w' := ⟨hrep, by
            rw [h.tmps]; congr 1
            exact List.map_congr_left fun y hy => (SV.den_like hlike y ((St.scp_spec hscp).1 y hy)).symm, h.defs⟩
          have hv : (one (.go (.o s.rows.length))).den { e with σ := e.σ ++ [Value.slice (some ⟨w.heap.size, 0, none⟩) n n] } = Value.slice (some ⟨w.heap.size, 0, none⟩) n n := by
            simp [one, SV.den, SW.den, SC.den, G.val, List.getD, ← h.rep.ng, slV]
          have hfin : Nx Γ Ψ bs W0 e s.fl s.flr k (a.put o.dst (Value.slice (some ⟨w.heap.size, 0, none⟩) n n)) w' := by
            rw [← hv]
            exact Nx.here ⟨[], [], [Value.slice (some ⟨w.heap.size, 0, none⟩) n n], [], by simp⟩ (hrel.put o.dst _) ((put_fields _ _ _).2.2.2.2.1) ((put_fields _ _ _).2.2.2.2.2) ((put_dp _ _ _).trans hdp) hs
          rw [hn] at hk1 hk2
          unfold Oper.wp
          simp only [execOp, ho, hk1, hk2, Sem.run_bind, hr, Result.andThen_ok, Sem.run_pure]
          exact hfin
        · exact hs.elim
    · exact hs.elim
  · exact hs.elim

theorem zsame_eq : ∀ {a b : List SC}, zsame a b = true → a = b
  | [], [], _ => rfl
  | [], y :: ys, h => by simp [zsame] at h
  | x :: xs, [], h => by unfold zsame at h; split at h <;> simp_all
  | x :: xs, y :: ys, h => by
    have key : x = y ∧ zsame xs ys = true := by
      unfold zsame at h
      split at h
      · simp_all
      · rename_i h1 h2
        simp only [List.cons.injEq] at h1 h2
        simp only [Bool.and_eq_true, beq_iff_eq] at h
        exact ⟨by rw [h1.1, h2.1, h.1.1, h.1.2], by rw [h1.2, h2.2]; exact h.2⟩
      · rename_i h1 h2
        simp only [List.cons.injEq] at h1 h2
        simp only [Bool.and_eq_true, beq_iff_eq] at h
        exact ⟨by rw [h1.1, h2.1, h.1], by rw [h1.2, h2.2]; exact h.2⟩
      · cases h
    rw [key.1, zsame_eq key.2]
theorem allocT_sound {s : St} {a : Act} {w : World} {W0 : Bas} {e : Env} {o : Oper} {t : TypeId} {ks : List K} {n : Nat} {z : List SC} {es : List E} {k : St → T} {Q : Exit → Act → World → Prop} (h : Rel e W0 s a w) (hdp : s.dp = bs.length) (ho : o.op = .alloc t)
    (hz : bigZ P t = some (ks, n, z, es)) (hs : (allocT o t ks n es s k).sat Γ e.R Ψ bs e.r) : o.wp P a w (Nx Γ Ψ bs W0 e s.fl s.flr k) Q := by
  unfold bigZ at hz
  split at hz
  · rename_i n0 elem hu
    split at hz
    · rename_i ks0 z0 hks hz0
      split at hz
      · rename_i es0 hes
        split at hz
        · rename_i hc
          simp only [Bool.and_eq_true, decide_eq_true_eq] at hc
          obtain ⟨⟨⟨hn1, hn2⟩, hk0⟩, hzs⟩ := hc
          simp only [Option.some.injEq, Prod.mk.injEq] at hz
          obtain ⟨rfl, rfl, rfl, rfl⟩ := hz
          unfold allocT at hs
          split at hs
          · rename_i hscp
            obtain ⟨zv, hz1, hz2⟩ := run_zeroValue' hz0 w e
            obtain ⟨f1, f2⟩ := flatC_den (e := e) hes
            have hzz := zsame_eq hzs
            have hel : elt ks0 ((elemE es0).den e.R e.r) = es0.map (E.den e.R e.r) := elemE_elt _ _ f1
            have hdec : dec ((mkRep (.c (n0 : Int)) (elemE es0)).den e.R e.r) = List.replicate n0 ((elemE es0).den e.R e.r) := by rw [mkRep_den, dec_cod]; simp [E.den]
            have hcl : z0.map (SC.den e) = cellsL ks0 (List.replicate n0 ((elemE es0).den e.R e.r)) := by
              rw [← hzz, repl_den]
              simp only [cellsL, List.flatMap_replicate, hel, ← f2]
            have hr : (execOp a.eval o).run P w = .ok (.value (.pointer (some ⟨w.heap.size, 0, none⟩))) (w.alloc (.cells (z0.map (SC.den e)).toArray t)) := by
              simp [execOp, ho, Instr.alloc, hz1, newVar, newRow, hz2]
            have hgr := World.grownBy_alloc w (.cells (z0.map (SC.den e)).toArray t) none
            have hll : (cellsL ks0 (List.replicate n0 ((elemE es0).den e.R e.r))).length = n0 * ks0.length := by
              rw [cellsL_length (fun x hx => by rw [(List.mem_replicate.1 hx).2, hel]; simpa using f1), List.length_replicate]
            have hrow : RowOK (w.alloc (.cells (z0.map (SC.den e)).toArray t)) t ks0 (.slice (some ⟨w.heap.size, 0, none⟩) n0 n0) ((mkRep (.c (n0 : Int)) (elemE es0)).den e.R e.r) := by
              refine .inr ⟨hk0, ?_, ?_⟩
              · rw [hdec]
                intro x hx
                rw [(List.mem_replicate.1 hx).2, hel]
                simpa using f1
              · rw [hdec, List.length_replicate]
                refine ⟨hll, .inr ⟨w.heap.size, n0, (z0.map (SC.den e)).toArray, rfl, Nat.zero_le _, heap_alloc_new _ _, Nat.le_refl _, by unfold maxLen; omega, by rw [hcl]; simpa using hll, ?_⟩⟩
                rw [hcl, ← hll]
                exact List.take_length
            have hrep1 := h.rep.grownRow hgr (fun k hk => by cases hk) (fun n b hb hl hk => by cases hk) (fun n b hb hl k hk hk' => by cases hk')
            obtain ⟨hrep, hlike⟩ := hrep1.addRows hscp (rows := [(⟨t, ks0, mkRep (.c (n0 : Int)) (elemE es0), true⟩ : Row)]) (vals := [Value.slice (some ⟨w.heap.size, 0, none⟩) n0 n0]) rfl (fun j b v hj hv _ => by
                cases j with
                | zero =>
                  simp only [List.getElem?_cons_zero, Option.some.injEq] at hj hv
                  subst hj; subst hv
                  exact ⟨⟨_, _, _, rfl⟩, hrow⟩
                | succ j => simp at hj)
              (fun j b v k hj hv _ hk => by
                cases j with
                | zero =>
                  simp only [List.getElem?_cons_zero, Option.some.injEq] at hv
                  subst hv
                  simp only [rowBlk] at hk
                  split at hk
                  · cases hk
                  · simp only [Option.some.injEq] at hk
                    subst hk
                    refine ⟨.inl h.rep.below.size, fun n b hb hl heq => ?_, fun n b hb hl heq => ?_⟩
                    · have := heap_lt (h.rep.blk n b hb hl); omega
                    · have := (h.rep.row n b hb hl).blk_lt heq; omega
                | succ j => simp at hj)
              (fun i j u v k hi hj _ _ => by
                cases i <;> cases j <;> simp at hi hj ⊢)
            have hrel : Rel { e with σ := e.σ ++ [Value.slice (some ⟨w.heap.size, 0, none⟩) n0 n0] } W0 { s with rows := s.rows ++ [(⟨t, ks0, mkRep (.c (n0 : Int)) (elemE es0), true⟩ : Row)] } a (w.alloc (.cells (z0.map (SC.den e)).toArray t)) := ⟨hrep, by
              rw [h.tmps]; congr 1
              exact List.map_congr_left fun y hy => (SV.den_like hlike y ((St.scp_spec hscp).1 y hy)).symm, h.defs⟩
            have hv : (one (.gp (.o s.rows.length) ks0.length (.c 0) 0)).den { e with σ := e.σ ++ [Value.slice (some ⟨w.heap.size, 0, none⟩) n0 n0] } = Value.pointer (some ⟨w.heap.size, 0, none⟩) := by
              simp [one, SV.den, SW.den, SC.den, G.val, List.getD, ← h.rep.ng, slV, atV, E.den, Addr.add_lit]
            have hfin : Nx Γ Ψ bs W0 e s.fl s.flr k (a.put o.dst (Value.pointer (some ⟨w.heap.size, 0, none⟩))) (w.alloc (.cells (z0.map (SC.den e)).toArray t)) := by
              rw [← hv]
              exact Nx.here ⟨[], [], [Value.slice (some ⟨w.heap.size, 0, none⟩) n0 n0], [], by simp⟩ (hrel.put o.dst _) ((put_fields _ _ _).2.2.2.2.1) ((put_fields _ _ _).2.2.2.2.2) ((put_dp _ _ _).trans hdp) hs
            unfold Oper.wp
            rw [hr]
            exact hfin
          · exact hs.elim
        · cases hz
      · cases hz
    · cases hz
  · cases hz

theorem Env.le.trans {a b c : Env} (h : Env.le a b) (h' : Env.le b c) : Env.le a c := Env.le_trans h h'

theorem opT_sound (hG : Gok P Γ) {ih : Code → St → Kont → T} (hih : IH P Γ ih) {s : St} {a : Act} {w : World} {W0 : Bas} {e : Env} {o : Oper} {k : St → T} {Q : Exit → Act → World → Prop} (h : Rel e W0 s a w) (hdp : s.dp = bs.length)
    (hs : (opT P Γ ih o s k).sat Γ e.R Ψ bs e.r) : o.wp P a w (Nx Γ Ψ bs W0 e s.fl s.flr k) Q := by
  have h1 : ∀ {as : List B} {v : SV} {s' : St}, op1 P s o = some (as, v, s') → (asrts as (k (s'.put o.dst v))).sat Γ e.R Ψ bs e.r → o.wp P a w (Nx Γ Ψ bs W0 e s.fl s.flr k) Q := by
    intro as v s' h1 hs
    obtain ⟨has, hs'⟩ := asrts_sat hs
    exact opOut_wp h (op1_sound h1 h.rep (fun x _ => h.eval x) has) hdp hs'
  unfold opT at hs
  split at hs
  · rename_i c ho
    unfold callT at hs
    split at hs
    · rename_i F hcal
      split at hs
      · rename_i fn caps hF
        dsimp only at hs
        split at hs
        · exact hs.elim
        · rename_i hcond
          simp only [Bool.or_eq_true, Bool.not_eq_true', not_or, Bool.not_eq_false] at hcond
          obtain ⟨hsc, hcl⟩ := hcond
          have hevF : a.eval F = .func (.func fn) #[] ((caps.map fun p => one (.p p.1 p.2)).map (SV.den e)).toArray := by
            rw [h.eval F, hF]
            simp [SV.den, SW.den, SC.den, one, Function.comp_def]
          have hrun := run_enter hcl ho hcal hevF w
          have hargs : c.args.map a.eval ++ ((caps.map fun p => one (.p p.1 p.2)).map (SV.den e)).toArray = ((c.args.toList.map s.ev ++ caps.map fun p => one (.p p.1 p.2)).map (SV.den e)).toArray := by
            apply Array.ext'
            simp only [Array.toList_append, Array.toList_map, List.map_append, List.map_map]
            congr 1
            exact List.map_congr_left fun x _ => h.eval x
          rw [hargs] at hrun
          have fin : ∀ {R : Ending → World → Prop}, Calls P fn ((c.args.toList.map s.ev ++ caps.map fun p => one (.p p.1 p.2)).map (SV.den e)).toArray w (fun x w' => ∃ v, x = .returned v ∧ Nx Γ Ψ bs W0 e s.fl s.flr k (a.put o.dst v) w') → o.wp P a w (Nx Γ Ψ bs W0 e s.fl s.flr k) Q := by
            intro _ hcalls
            unfold Oper.wp
            rw [hrun]
            simp only [Oper.upon_enter]
            refine hcalls.mono ?_
            rintro x w' ⟨v, rfl, hn⟩
            exact hn
          split at hs
          · rename_i g sum hfs
            obtain ⟨hfn, j, rfl, hg⟩ := findSum_spec hfs
            simp only [Nat.zero_add] at hs
            split at hs
            · exact hs.elim
            · rename_i hgl
              simp only [Bool.not_eq_true', Bool.not_eq_false] at hgl
              subst hfn
              split at hs
              · rename_i f hmn
                split at hs
                · exact hs.elim
                · rename_i hargs
                  simp only [Bool.not_eq_true', Bool.not_eq_false] at hargs
                  split at hs
                  · rename_i as es kk hfl
                    exact fin (R := fun _ _ => True) (callW_m hG h hdp hsc hg hmn hgl hargs hfl hs)
                  · exact hs.elim
              · rename_i hmn
                split at hs
                · rename_i as es hfl
                  exact fin (R := fun _ _ => True) (callW_sum hG h hdp hsc hg hmn hgl hfl hs)
                · exact hs.elim
          · split at hs
            · rename_i Fn hFn
              split at hs
              · rename_i body hb
                exact fin (R := fun _ _ => True) (callW_in hih h hdp hsc hFn hb hs)
              · exact hs.elim
            · exact hs.elim
      · exact hs.elim
    · rename_i hcal
      exact appT_sound h hdp ho hcal hs
    · rename_i b _ hcal
      split at hs
      · rename_i as v s' h1'
        exact h1 h1' hs
      · exact hs.elim
    · exact hs.elim
  · rename_i t l c ho
    exact makeT_sound h hdp ho hs
  · rename_i t ho
    split at hs
    · rename_i hz
      exact allocT_sound h hdp ho hz hs
    · split at hs
      · rename_i as v s' h1'
        exact h1 h1' hs
      · exact hs.elim
  · split at hs
    · rename_i as v s' h1'
      exact h1 h1' hs
    · exact hs.elim

theorem Oper.wp_mono' {o : Oper} {a : Act} {w : World} {K K' : Act → World → Prop} {Q : Exit → Act → World → Prop} (hh : o.wp P a w K Q) (h : ∀ a w, K a w → K' a w) : o.wp P a w K' Q := Oper.wp_mono h hh

theorem execOps_sound (hG : Gok P Γ) {ih : Code → St → Kont → T} (hih : IH P Γ ih) {W0 : Bas} {ops : Array Oper} {Q : Exit → Act → World → Prop} : ∀ (l : List Oper) (s : St) (k : St → T) (bs : List (List Int → Prop)) (e : Env) (a : Act) (w : World), Rel e W0 s a w → s.dp = bs.length →
    (execOps P Γ ih ops l s k).sat Γ e.R Ψ bs e.r → (∀ a' w', Nx Γ Ψ bs W0 e s.fl s.flr k a' w' → Q .normal a' w') → wpList P ops Q l a w
  | [], s, k, bs, e, a, w, h, hdp, hs, hQ => hQ a w (Nx.here (Env.le_refl _) h rfl rfl hdp hs)
  | o :: l, s, k, bs, e, a, w, h, hdp, hs, hQ => by
    simp only [execOps] at hs
    obtain ⟨x, h1, hs1⟩ := forkO_sat h hs
    have next : ∀ (s3 : St) (e3 : Env) (more : List (List Int → Prop)) (a3 : Act) (w3 : World), Env.le e e3 → Rel e3 W0 s3 a3 w3 → s3.fl = s.fl → s3.flr = s.flr → s3.dp = (bs ++ more).length → (execOps P Γ ih ops l s3 k).sat Γ e3.R Ψ (bs ++ more) e3.r → wpList P ops Q l a3 w3 := by
      intro s3 e3 more a3 w3 hle h3 hf hfr hd hs3
      refine execOps_sound hG hih l s3 k (bs ++ more) e3 a3 w3 h3 hd hs3 ?_
      rintro a' w' ⟨s', e', more', hle', hrel', hf', hfr', hd', hsat'⟩
      exact hQ a' w' ⟨s', e', more ++ more', hle.trans hle', hrel', hf'.trans hf, hfr'.trans hfr, by rw [← List.append_assoc]; exact hd', by rw [← List.append_assoc]; exact hsat'⟩
    unfold wpList
    split at hs1
    · rename_i hw
      rw [if_pos (wantedS_spec h1 hw)]
      left
      obtain ⟨y, h2, hs2⟩ := forkO_sat h1 hs1
      refine Oper.wp_mono' (opT_sound hG hih h2 hdp hs2) ?_
      rintro a3 w3 ⟨s3, e3, more, hle, hrel, hf, hfr, hd, hsat⟩
      exact next s3 e3 more a3 w3 hle hrel hf hfr hd hsat
    · rename_i hw
      rw [if_neg (by rw [wantedS_spec h1 hw]; simp)]
      have hput := h1.put o.dst undefS
      exact next _ e [] _ w (Env.le_refl _) hput (put_fields _ _ _).2.2.2.2.1 (put_fields _ _ _).2.2.2.2.2 ((put_dp _ _ _).trans (by simpa using hdp)) (by simpa using hs1)
    · exact hs1.elim

end Go.Sx
