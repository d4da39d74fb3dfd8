/-
  Symbolic execution: results; the operations of a region that draws, one by one.
-/
import Derived.Test.YtjbkcjbjllmhfaaDoorSyN
namespace Go.Sx
open Go.RowKit

section
variable {P : Program} {Γ : List Sum} {Ψ : List Int → Prop} {bs : List (List Int → Prop)} {R : List Reg} {r : List Int}

def pairOK (e : Env) : List SC → List Int → Prop
  | [], [] => True
  | c :: cs, y :: ys => (∀ k, fitsC [k] [c] = true → k.mk y = c.den e) ∧ pairOK e cs ys
  | _, _ => False

theorem pairOK_len {e : Env} : ∀ {cs : List SC} {ys : List Int}, pairOK e cs ys → ys.length = cs.length
  | [], [], _ => rfl
  | _ :: cs, _ :: ys, h => by simp [pairOK_len h.2]
  | [], _ :: _, h => h.elim
  | _ :: _, [], h => h.elim

theorem pairOK_split {e : Env} : ∀ {a b : List SC} {ys : List Int}, pairOK e (a ++ b) ys → pairOK e a (ys.take a.length) ∧ pairOK e b (ys.drop a.length)
  | [], _, _, h => by simpa [pairOK] using h
  | _ :: a, b, [], h => h.elim
  | _ :: a, b, _ :: ys, h => by
    obtain ⟨h1, h2⟩ := h
    obtain ⟨h3, h4⟩ := pairOK_split h2
    exact ⟨⟨h1, h3⟩, h4⟩

theorem pairOK_cells {e : Env} : ∀ {ks : List K} {cs : List SC} {ys : List Int}, pairOK e cs ys → fitsC ks cs = true → mkCells ks ys = cs.map (SC.den e) ∧ ks.length = cs.length
  | [], [], [], _, _ => ⟨rfl, rfl⟩
  | [], [], _ :: _, h, _ => h.elim
  | [], _ :: _, _, _, hf => by simp [fitsC] at hf
  | k :: ks, [], _, _, hf => by cases k <;> simp [fitsC] at hf
  | k :: ks, c :: cs, [], h, _ => h.elim
  | k :: ks, c :: cs, y :: ys, h, hf => by
    have h1 : fitsC [k] [c] = true ∧ fitsC ks cs = true := by
      cases k <;> cases c <;> simp_all [fitsC]
    obtain ⟨h2, h3⟩ := pairOK_cells h.2 h1.2
    exact ⟨by simp [mkCells, h.1 k h1.1, h2], by simp [h3]⟩

theorem retC_sat {e : Env} (hR : e.R = R) (hr : e.r = r) : ∀ {cs : List SC} {k : List E → T}, (retC cs k).sat Γ R Ψ bs r → ∃ es, (k es).sat Γ R Ψ bs r ∧ pairOK e cs (es.map (E.den R r)) := by
  subst hR hr
  intro cs
  induction cs with
  | nil => intro k h; exact ⟨[], h, trivial⟩
  | cons c cs ih =>
    intro k h
    have bool : ∀ {x : B} {n : Int}, (x.den e.R e.r = (n != 0)) → ∀ kk, fitsC [kk] [SC.b x] = true → kk.mk n = (SC.b x).den e := by
      intro x n hx kk hk
      cases kk with
      | i kk => simp [fitsC] at hk
      | b => simp [K.mk, SC.den, hx]
    cases c with
    | i kk x =>
      obtain ⟨es, h1, h2⟩ := ih h
      refine ⟨x :: es, h1, ?_, h2⟩
      intro k' hk'
      cases k' with
      | i k'' => simp only [fitsC, Bool.and_true, beq_iff_eq] at hk'; subst hk'; rfl
      | b => simp [fitsC] at hk'
    | b x =>
      have gen : ∀ {x : B}, (T.ite x (retC cs fun es => k (.c 1 :: es)) (retC cs fun es => k (.c 0 :: es))).sat Γ e.R Ψ bs e.r → ∃ es, (k es).sat Γ e.R Ψ bs e.r ∧ pairOK e (SC.b x :: cs) (es.map (E.den e.R e.r)) := by
        intro x h
        obtain ⟨h1, h2⟩ := h
        cases hx : x.den e.R e.r with
        | true =>
          obtain ⟨es, h3, h4⟩ := ih (h1 hx)
          exact ⟨_, h3, bool (by rw [hx]; rfl), h4⟩
        | false =>
          obtain ⟨es, h3, h4⟩ := ih (h2 hx)
          exact ⟨_, h3, bool (by rw [hx]; rfl), h4⟩
      cases x with
      | c y =>
        obtain ⟨es, h1, h2⟩ := ih h
        exact ⟨_, h1, bool (by cases y <;> rfl), h2⟩
      | _ => exact gen h
    | _ => exact h.elim

theorem fitsWs_den {e : Env} : ∀ {rs : List Sh} {xs : List SW} {ys : List Int}, fitsWs rs xs = true → pairOK e (cellsW xs) ys → mkShs rs ys = xs.map (SW.den e) ∧ ys.length = total rs
  | [], [], ys, _, h => by
    cases ys with
    | nil => exact ⟨rfl, rfl⟩
    | cons y ys => exact h.elim
  | [], _ :: _, _, hf, _ => by simp [fitsWs] at hf
  | _ :: _, [], _, hf, _ => by simp [fitsWs] at hf
  | s :: rs, x :: xs, ys, hf, h => by
    simp only [fitsWs, Bool.and_eq_true] at hf
    have hcw : cellsW (x :: xs) = x.cells ++ cellsW xs := by cases x <;> rfl
    rw [hcw] at h
    obtain ⟨h1, h2⟩ := pairOK_split h
    have hfc : fitsC s.ks x.cells = true := by
      cases x <;> simp only [fitsW, Bool.and_eq_true] at hf <;> exact hf.1.2
    obtain ⟨h3, h4⟩ := pairOK_cells h1 hfc
    obtain ⟨h5, h6⟩ := fitsWs_den hf.2 h2
    rw [← h4] at h5 h6 h3
    refine ⟨?_, ?_⟩
    · simp only [mkShs, List.map_cons, h5]
      congr 1
      unfold mkSh
      rw [h3]
      cases x with
      | o c => have : s.agg = false := by have hh := hf.1; simp only [fitsW, Bool.and_eq_true, Bool.not_eq_true'] at hh; exact hh.1
               simp [this, SW.cells, SW.den]
      | a cs => have : s.agg = true := by have hh := hf.1; simp only [fitsW, Bool.and_eq_true] at hh; exact hh.1
                simp [this, SW.cells, SW.den]
    · have hl := pairOK_len h
      rw [List.length_append] at hl
      rw [List.length_drop] at h6
      simp only [total]
      omega

theorem retW_sat {e : Env} (hR : e.R = R) (hr : e.r = r) {rs : List Sh} {v : SV} (h : (retW rs v).sat Γ R Ψ bs r) : ∃ ys, Ψ ys ∧ ys.length = total rs ∧ v.den e = mkRes rs ys := by
  unfold retW at h
  split at h
  · rename_i x
    split at h
    · rename_i hf
      obtain ⟨es, h1, h2⟩ := retC_sat hR hr h
      obtain ⟨h3, h4⟩ := fitsWs_den hf h2
      exact ⟨_, h1, h4, by simp [mkRes, h3, SV.den]⟩
    · exact h.elim
  · rename_i xs
    split at h
    · rename_i hf
      simp only [Bool.and_eq_true, bne_iff_ne, ne_eq] at hf
      obtain ⟨es, h1, h2⟩ := retC_sat hR hr h
      obtain ⟨h3, h4⟩ := fitsWs_den hf.1 h2
      refine ⟨_, h1, h4, ?_⟩
      unfold mkRes
      rw [h3]
      match xs, hf.2 with
      | [], _ => rfl
      | [x], hne => exact absurd rfl hne
      | _ :: _ :: _, _ => rfl
    · exact h.elim
  · exact h.elim

theorem bindT_sat : ∀ {t : T} {k : List E → T}, (bindT t k).sat Γ R Ψ bs r → ∃ es, (k es).sat Γ R Ψ bs r ∧ ∀ (Ψ' : List Int → Prop) (bs' : List (List Int → Prop)), Ψ' (es.map (E.den R r)) → t.sat Γ R Ψ' bs' r := by
  intro t
  induction t with
  | ret es => intro k h; exact ⟨es, h, fun _ _ h' => h'⟩
  | ite b t f iht ihf =>
    intro k h
    obtain ⟨h1, h2⟩ := h
    cases hb : b.den R r with
    | true =>
      obtain ⟨es, h3, h4⟩ := iht (h1 hb)
      exact ⟨es, h3, fun Ψ' bs' h' => ⟨fun _ => h4 Ψ' bs' h', fun hf => (by rw [hb] at hf; cases hf)⟩⟩
    | false =>
      obtain ⟨es, h3, h4⟩ := ihf (h2 hb)
      exact ⟨es, h3, fun Ψ' bs' h' => ⟨fun ht => (by rw [hb] at ht; cases ht), fun _ => h4 Ψ' bs' h'⟩⟩
  | asrt b t ih =>
    intro k h
    obtain ⟨es, h3, h4⟩ := ih h.2
    exact ⟨es, h3, fun Ψ' bs' h' => ⟨h.1, h4 Ψ' bs' h'⟩⟩
  | call g args t ih => intro k h; exact h.elim
  | loop n ini t ih => intro k h; exact h.elim
  | back d es => intro k h; exact h.elim
  | fail => intro k h; exact h.elim

/-- What 'doneK' asks. -/
theorem doneK_sat {e : Env} {W0 : World} {s : St} {a : Act} {w : World} {F : Func} {rs : List Sh} {out : Out} (h : Rel e W0 s a w) (hs : (doneK P F rs out s).sat Γ e.R Ψ bs e.r) :
    (∀ id, out ≠ .exit id) ∧ ∃ ys, Ψ ys ∧ ys.length = total rs ∧ (results F a.tmps).run P w = .ok (mkRes rs ys) w := by
  have key : (match resOf P F s with | some v => retW rs v | none => .fail : T).sat Γ e.R Ψ bs e.r → ∃ ys, Ψ ys ∧ ys.length = total rs ∧ (results F a.tmps).run P w = .ok (mkRes rs ys) w := by
    intro hs
    split at hs
    · rename_i v hv
      obtain ⟨ys, h1, h2, h3⟩ := retW_sat rfl rfl hs
      exact ⟨ys, h1, h2, by rw [resOf_run h hv, h3]⟩
    · exact hs.elim
  cases out with
  | norm => exact ⟨fun _ h => (by cases h), key hs⟩
  | exit id => exact hs.elim
  | ret => exact ⟨fun _ h => (by cases h), key hs⟩

/-- A function run to its end. -/
theorem calls_done {ih : Code → St → Kont → T} (hih : IH P Γ ih) {W0 : World} {e : Env} {s : St} {w : World} {args : List SV} {fn : FuncId} {F : Func} {body : Code} {rs : List Sh} (h : Rep e W0 s w)
    (hF : P.funcs[fn]? = some F) (hb : F.body = some body) (hs : (ih body { s with fr := args ++ List.replicate (F.ntmps - args.length) undefS } (doneK P F rs)).sat Γ e.R Ψ bs e.r) :
    Calls P fn (args.map (SV.den e)).toArray w fun x w' => ∃ ys, x = .returned (mkRes rs ys) ∧ Ψ ys ∧ ys.length = total rs ∧ Below W0.heap.size W0 w' := by
  refine calls_of_wp hF hb ?_
  have hrel : Rel e W0 { s with fr := args ++ List.replicate (F.ntmps - args.length) undefS } { tmps := (args.map (SV.den e)).toArray ++ Array.replicate (F.ntmps - (args.map (SV.den e)).toArray.size) undef, defers := [] } w :=
    ⟨h.fr _, by
      apply Array.ext'
      simp [den_undefS], rfl⟩
  refine wp_mono (hih _ _ _ W0 Ψ bs e _ w hrel hs) ?_
  rintro x a' w' ⟨out, s', e', rfl, hle, hrel', hf, hfr, hsat⟩
  obtain ⟨hne, ys, h1, h2, h3⟩ := doneK_sat hrel' hsat
  cases out with
  | norm => exact ⟨hrel'.defs, _, h3, ys, rfl, h1, h2, hrel'.rep.below⟩
  | exit id => exact absurd rfl (hne id)
  | ret => exact ⟨hrel'.defs, _, h3, ys, rfl, h1, h2, hrel'.rep.below⟩
end
end Go.Sx
