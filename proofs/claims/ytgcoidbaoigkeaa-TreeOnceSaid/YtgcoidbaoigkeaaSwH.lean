/-
  Symbolic execution: single operations: comparisons, literals, builtins; all of them.
-/
import Derived.Test.YtgcoidbaoigkeaaSwG
namespace Go.Sx
open Go.RowKit

section
variable {P : Program} {e : Env} {W0 : Bas} {s s' : St} {o : Oper} {ev : Operand → Value} {v : SV} {w : World} {as : List B}

/-- The form fits the type: an aggregate's cells, or one cell. -/
def SW.fits (P : Program) (t : TypeId) (u : SW) : Prop := (tyAgg P t = true ∧ ∃ cs, u = .a cs) ∨ (tyAgg P t = false ∧ ∃ c, u = .o c)

theorem partS_fits {t : TypeId} {cs : List SC} {off : Nat} {y : SW} (h : partS P t cs off = some y) : y.fits P t := by
  unfold partS at h
  split at h
  · cases h
  · split at h
    · rename_i ha
      simp only [Option.some.injEq] at h
      exact .inl ⟨ha, _, h.symm⟩
    · rename_i ha
      simp only [Option.map_eq_some_iff] at h
      obtain ⟨c, _, rfl⟩ := h
      exact .inr ⟨by simpa using ha, c, rfl⟩

theorem eqB_run : ∀ (d : Nat) (t : TypeId) (u v : SW) (b : B), u.fits P t → v.fits P t → eqB P d t u.cells v.cells = some b → ∀ D, d ≤ D → ∀ w : World,
    (Op.equalIn D t (u.den e) (v.den e)).run P w = .ok (b.den e.R e.r) w
  | 0, _, _, _, _, _, _, h, _, _, _ => by simp [eqB] at h
  | d + 1, t, u, v, b, hu, hv, h, D, hD, w => by
    obtain ⟨D, rfl⟩ : ∃ D', D = D' + 1 := ⟨D - 1, by omega⟩
    unfold eqB at h
    split at h
    · rename_i ht
      have hna : tyAgg P t = false := by simp [tyAgg, ht]
      obtain ⟨c, rfl⟩ : ∃ c, u = .o c := by rcases hu with ⟨h1, _⟩ | ⟨_, h2⟩; · simp [hna] at h1
                                            exact h2
      obtain ⟨c', rfl⟩ : ∃ c, v = .o c := by rcases hv with ⟨h1, _⟩ | ⟨_, h2⟩; · simp [hna] at h1
                                             exact h2
      split at h
      · rename_i a b' h1 h2
        simp only [SW.cells, List.cons.injEq, and_true] at h1 h2
        subst h1; subst h2
        simp only [Option.some.injEq] at h
        subst h
        simp only [SW.den, SC.den, run_equalIn_bool w D t _ _ ht, mkBeq_den]
      · cases h
    · rename_i kk ht
      have hna : tyAgg P t = false := by simp [tyAgg, ht]
      obtain ⟨c, rfl⟩ : ∃ c, u = .o c := by rcases hu with ⟨h1, _⟩ | ⟨_, h2⟩; · simp [hna] at h1
                                            exact h2
      obtain ⟨c', rfl⟩ : ∃ c, v = .o c := by rcases hv with ⟨h1, _⟩ | ⟨_, h2⟩; · simp [hna] at h1
                                             exact h2
      split at h
      · rename_i k a k' b' h1 h2
        simp only [SW.cells, List.cons.injEq, and_true] at h1 h2
        subst h1; subst h2
        split at h
        · rename_i hkk
          subst hkk
          simp only [Option.some.injEq] at h
          subst h
          simp only [SW.den, SC.den, run_equalIn_int w D t k kk _ _ ht, mkEq_den]
        · cases h
      · cases h
    · rename_i fields ht
      have ha : tyAgg P t = true := by simp [tyAgg, ht]
      obtain ⟨xs, rfl⟩ : ∃ c, u = .a c := by rcases hu with ⟨_, h2⟩ | ⟨h1, _⟩; · exact h2
                                             simp [ha] at h1
      obtain ⟨ys, rfl⟩ : ∃ c, v = .a c := by rcases hv with ⟨_, h2⟩ | ⟨h1, _⟩; · exact h2
                                             simp [ha] at h1
      split at h
      · cases h
      · rename_i hst
        have hfs : P.fieldsOf t = fields := by simp [Program.fieldsOf, ht]
        simp only [SW.den, SW.cells] at h ⊢
        rw [run_equalIn_struct w D t _ _ (by rw [hfs]; exact ht) (by simpa using hst), hfs]
        clear ht hfs
        generalize fields.toList = fs at h ⊢
        induction fs generalizing b with
        | nil => simp only [List.foldr_nil, Option.some.injEq] at h; subst h; simp [Op.eqFields, B.den]
        | cons f fs ih =>
          rw [List.foldr_cons] at h
          split at h
          · cases h
          · rename_i y hy
            have ih' := ih y hy
            split at h
            · rename_i hname
              simp only [Option.some.injEq] at h
              subst h
              simp only [Op.eqFields, ne_eq, hname, not_true_eq_false, if_false]
              exact ih'
            · rename_i hname
              split at h
              · rename_i p q hp hq
                split at h
                · rename_i bb hbb
                  simp only [Option.some.injEq] at h
                  subst h
                  simp only [Op.eqFields, ne_eq, hname, not_false_eq_true, if_true, Sem.run_bind, run_part hp, run_part hq, Result.andThen_ok,
                    eqB_run d f.type p q bb (partS_fits hp) (partS_fits hq) hbb D (by omega) w, mkAnd_den]
                  cases bb.den e.R e.r
                  · simp
                  · simp only [Bool.not_true, Bool.false_eq_true, if_false, Bool.true_and]
                    exact ih'
                · cases h
              · cases h
    · rename_i len elem ht
      have ha : tyAgg P t = true := by simp [tyAgg, ht]
      obtain ⟨xs, rfl⟩ : ∃ c, u = .a c := by rcases hu with ⟨_, h2⟩ | ⟨h1, _⟩; · exact h2
                                             simp [ha] at h1
      obtain ⟨ys, rfl⟩ : ∃ c, v = .a c := by rcases hv with ⟨_, h2⟩ | ⟨h1, _⟩; · exact h2
                                             simp [ha] at h1
      simp only [SW.den, SW.cells] at h ⊢
      split at h
      · cases h
      · rename_i hinf
        obtain ⟨i, hi⟩ : ∃ i, P.info? elem = some i := by
          cases hi : P.info? elem with
          | none => simp [hi] at hinf
          | some i => exact ⟨i, rfl⟩
        rw [run_equalIn_array w D _ _ ht hi]
        generalize List.range len = is at h ⊢
        induction is generalizing b with
        | nil => simp only [List.foldr_nil, Option.some.injEq] at h; subst h; simp [Op.eqItems, B.den]
        | cons f fs ih =>
          rw [List.foldr_cons] at h
          split at h
          · cases h
          · rename_i y hy
            have ih' := ih y hy
            split at h
            · rename_i p q hp hq
              split at h
              · rename_i bb hbb
                simp only [Option.some.injEq] at h
                subst h
                simp only [Op.eqItems, Sem.run_bind, run_part hp, run_part hq, Result.andThen_ok,
                  eqB_run d elem p q bb (partS_fits hp) (partS_fits hq) hbb D (by omega) w, mkAnd_den]
                cases bb.den e.R e.r
                · simp
                · simp only [Bool.not_true, Bool.false_eq_true, if_false, Bool.true_and]
                  exact ih'
              · cases h
            · cases h
    · cases h

theorem den_i (k : IntKind) (x : E) : SV.den e (.w (.o (.i k x))) = .int k (x.den e.R e.r) := rfl
theorem den_b (x : B) : SV.den e (.w (.o (.b x))) = .bool (x.den e.R e.r) := rfl
theorem den_a (cs : List SC) : SV.den e (.w (.a cs)) = .agg (cs.map (SC.den e)).toArray := rfl

theorem nzAsrt_den {b : E} (has : ∀ x ∈ nzAsrt b, x.den e.R e.r = true) : b.den e.R e.r ≠ 0 := by
  unfold nzAsrt at has
  split at has
  · rename_i n
    split at has
    · have := has (.c false) (by simp)
      simp [B.den] at this
    · rename_i hn
      simpa [E.den] using hn
  · have := has (.not (.eq b (.c 0))) (by simp)
    simp only [B.den, E.den, Bool.not_eq_true', beq_eq_false_iff_ne, ne_eq] at this
    exact this

theorem op_bin {op : BinOp} {t yt : TypeId} {x y : Operand} (ho : o.op = .binOp op t x y yt) (h : op1 P s o = some (as, v, s')) (hrep : Rep e W0 s w) (hx : ev x = (s.ev x).den e) (hy : ev y = (s.ev y).den e) (has : ∀ b ∈ as, b.den e.R e.r = true) : OpOut P e W0 s s' o ev v w := by
  simp only [op1, ho, Option.map_eq_some_iff, Prod.mk.injEq] at h
  obtain ⟨⟨as', c⟩, hb, rfl, rfl, rfl⟩ := h
  refine OpOut.same hrep ?_
  unfold binS at hb
  split at hb
  · rename_i k a k' b hex hey
    split at hb
    · rename_i hk
      subst hk
      rw [hex, den_i] at hx
      rw [hey, den_i] at hy
      have hdiv : ∀ (opp : BinOp), (opp = .quo ∨ opp = .rem) → arithS opp k a b = some (as', c) → b.den e.R e.r ≠ 0 := by
        intro opp ho' ha
        have : as' = nzAsrt b := by
          rcases ho' with rfl | rfl <;> simp only [arithS, Option.some.injEq, Prod.mk.injEq] at ha <;> exact ha.1.symm
        exact nzAsrt_den (by rw [← this]; exact has)
      cases op <;> simp only [arithS, Option.some.injEq, Prod.mk.injEq, reduceCtorEq] at hb <;> obtain ⟨rfl, rfl⟩ := hb <;>
        simp only [execOp, ho, hx, hy, eqGuard_at_int, pure_bind, Go.binOp, ne_eq, not_true_eq_false, if_false, one, SV.den, SW.den, SC.den, Op.intArith, Op.intCmp, Sem.run_bind, Sem.run_pure,
          mkAdd_den, mkSub_den, mkMul_den, mkLt_den, mkLe_den, mkEq_den, mkNot_den]
      case quo =>
        have hne := hdiv .quo (.inl rfl) rfl
        simp only [Op.intDiv, if_neg hne, Sem.run_pure, Result.andThen_ok, mkQuo_den]
      case rem =>
        have hne := hdiv .rem (.inr rfl) rfl
        simp only [Op.intDiv, if_neg hne, Sem.run_pure, Result.andThen_ok, mkRem_den]
      all_goals rfl
    · cases hb
  · rename_i a b hex hey
    rw [hex, den_b] at hx
    rw [hey, den_b] at hy
    split at hb
    · rename_i hu
      simp only [Option.some.injEq, Prod.mk.injEq] at hb
      obtain ⟨rfl, rfl⟩ := hb
      simp only [execOp, ho, hx, hy, eqGuard_at_bool, Sem.run_bind, Sem.run_pure, Result.andThen_ok, run_eql_bool w t _ _ hu, one, SV.den, SW.den, SC.den, mkBeq_den]
    · rename_i hu
      simp only [Option.some.injEq, Prod.mk.injEq] at hb
      obtain ⟨rfl, rfl⟩ := hb
      simp only [execOp, ho, hx, hy, eqGuard_at_bool, Sem.run_bind, Sem.run_pure, Result.andThen_ok, run_neq_bool w t _ _ hu, one, SV.den, SW.den, SC.den, mkBeq_den, mkNot_den]
    · cases hb
  · rename_i xs ys hex hey
    rw [hex, den_a] at hx
    rw [hey, den_a] at hy
    split at hb
    · cases hb
    · rename_i hg
      simp only [Bool.or_eq_true, Bool.not_eq_true', not_or, Bool.not_eq_true, Bool.not_eq_false] at hg
      have key : ∀ b, eqB P 12 t xs ys = some b → (Op.equalIn 10000 t (.agg (xs.map (SC.den e)).toArray) (.agg (ys.map (SC.den e)).toArray)).run P w = .ok (b.den e.R e.r) w := fun b hb =>
        eqB_run 12 t (.a xs) (.a ys) b (.inl ⟨hg.2, _, rfl⟩) (.inl ⟨hg.2, _, rfl⟩) hb 10000 (by omega) w
      split at hb
      · simp only [Option.map_eq_some_iff, Prod.mk.injEq] at hb
        obtain ⟨b, hb, rfl, rfl⟩ := hb
        simp only [execOp, ho, hx, hy, Sem.run_bind, run_eqGuard_agg w _ t _ _ _ _ hg.1, Sem.run_pure, Result.andThen_ok, run_eql_struct, key b hb, one, SV.den, SW.den, SC.den]
      · simp only [Option.map_eq_some_iff, Prod.mk.injEq] at hb
        obtain ⟨b, hb, rfl, rfl⟩ := hb
        simp only [execOp, ho, hx, hy, Sem.run_bind, run_eqGuard_agg w _ t _ _ _ _ hg.1, Sem.run_pure, Result.andThen_ok, run_neq_struct, key b hb, one, SV.den, SW.den, SC.den, mkNot_den]
      · cases hb
  · cases hb
end
end Go.Sx
