/-
  Symbolic execution: results; the operations of a region that draws, one by one.
-/
import Derived.Test.YtgcoidbaoigkeaaDoorSwN
namespace Go.Sx
open Go.RowKit

/-! ### results without slices -/
theorem CellsR_flat {S : TypeId → List K → Value → Int → Prop} : ∀ {ks : List K} {cs : List Value} {xs : List Int}, nS ks = 0 → CellsR S ks cs xs → cs = mkCells ks xs ∧ slsC ks cs = []
  | [], [], [], _, _ => ⟨rfl, rfl⟩
  | .i k :: ks, c :: cs, x :: xs, h, hc => by
    obtain ⟨h1, h2⟩ := CellsR_flat (ks := ks) h hc.2
    have h3 : c = .int k x := hc.1
    exact ⟨by rw [h1, h3]; rfl, h2⟩
  | .b :: ks, c :: cs, x :: xs, h, hc => by
    obtain ⟨h1, h2⟩ := CellsR_flat (ks := ks) h hc.2
    have h3 : c = .bool (x != 0) := hc.1
    exact ⟨by rw [h1, h3]; rfl, h2⟩
  | .s _ _ :: _, _, _, h, _ => by simp [nS] at h
  | [], [], _ :: _, _, h => h.elim
  | [], _ :: _, _, _, h => h.elim
  | _ :: _, [], _, _, h => h.elim
  | _ :: _, _ :: _, [], _, h => h.elim

theorem nS_app : ∀ a b : List K, nS (a ++ b) = nS a + nS b
  | [], b => by simp [nS]
  | .i _ :: a, b => nS_app a b
  | .b :: a, b => nS_app a b
  | .s _ _ :: a, b => by simp [nS, nS_app a b]; omega

theorem ShsR_flat {S : TypeId → List K → Value → Int → Prop} : ∀ {ss : List Sh} {vs : List Value} {xs : List Int}, nS (allK ss) = 0 → ShsR S ss vs xs → vs = mkShs ss xs ∧ slsShs ss vs = []
  | [], _, _, _, h => by rw [h.1]; exact ⟨rfl, rfl⟩
  | s :: ss, _, _, hn, ⟨v, vr, ys, yr, h1, h2, h3, h4⟩ => by
    subst h1; subst h2
    rw [allK, nS_app] at hn
    obtain ⟨a1, a2⟩ := ShsR_flat (ss := ss) (by omega) h4
    have hl := h3.len
    simp only [mkShs, ← hl, List.take_left, List.drop_left, ← a1, slsShs, a2, List.append_nil]
    unfold ShR at h3
    unfold mkSh slsSh
    split at h3
    · rename_i ha
      obtain ⟨cs, rfl, h3⟩ := h3
      obtain ⟨b1, b2⟩ := CellsR_flat (by omega) h3
      simp only [ha, if_true]
      exact ⟨by rw [← b1], b2⟩
    · rename_i ha
      obtain ⟨b1, b2⟩ := CellsR_flat (by omega) h3
      simp only [ha]
      exact ⟨by rw [← b1]; rfl, b2⟩

theorem mkRes_resV (rs : List Sh) (ys : List Int) : mkRes rs ys = resV (mkShs rs ys) := by
  unfold mkRes resV
  rfl

theorem ShsR.up {S S' : TypeId → List K → Value → Int → Prop} (hS : ∀ ty ks u n, S ty ks u n → S' ty ks u n) : ∀ {ss : List Sh} {vs : List Value} {xs : List Int}, ShsR S ss vs xs → ShsR S' ss vs xs := by
  have hc : ∀ {ks : List K} {cs : List Value} {xs : List Int}, CellsR S ks cs xs → CellsR S' ks cs xs := by
    intro ks
    induction ks with
    | nil => intro cs xs h; cases cs <;> cases xs <;> first | exact h | exact h.elim
    | cons k ks ih =>
      intro cs xs h
      cases cs with
      | nil => exact h.elim
      | cons v vs => cases xs with
        | nil => exact h.elim
        | cons x xs =>
          refine ⟨?_, ih h.2⟩
          cases k with
          | i k => exact h.1
          | b => exact h.1
          | s ty ks => exact hS _ _ _ _ h.1
  intro ss
  induction ss with
  | nil => intro vs xs h; exact h
  | cons s ss ih =>
    intro vs xs h
    obtain ⟨v, vr, ys, yr, h1, h2, h3, h4⟩ := h
    refine ⟨v, vr, ys, yr, h1, h2, ?_, ih h4⟩
    unfold ShR at h3 ⊢
    split
    · rename_i ha
      rw [if_pos ha] at h3
      obtain ⟨cs, h5, h6⟩ := h3
      exact ⟨cs, h5, hc h6⟩
    · rename_i ha
      rw [if_neg ha] at h3
      exact hc h3
theorem ResOK.up {B B' : Nat → Prop} {w : World} {rs : List Sh} {v : Value} {ys : List Int} (hB : ∀ k, B k → B' k) (h : ResOK B w rs v ys) : ResOK B' w rs v ys := by
  obtain ⟨vs, h1, h2, h3⟩ := h
  exact ⟨vs, h1, h2.up (fun ty ks u n hu => ⟨hu.1, fun k hk => hB k (hu.2 k hk)⟩), h3⟩
theorem ResOK_flat {B : Nat → Prop} {w : World} {rs : List Sh} {v : Value} {ys : List Int} (hn : nS (allK rs) = 0) (h : ResOK B w rs v ys) : v = mkRes rs ys := by
  obtain ⟨vs, h1, h2, _⟩ := h
  rw [h1, mkRes_resV, ← (ShsR_flat hn h2).1]

section
variable {P : Program} {Γ : List Sum} {Ψ : List Int → Prop} {bs : List (List Int → Prop)} {R : Fo} {r : List Int}

/-- What a result slice is. -/
def ResS (B : Nat → Prop) (w : World) : TypeId → List K → Value → Int → Prop := fun ty ks u n => RowOK w ty ks u n ∧ ∀ k, rowBlk u = some k → B k

def pairOK (S : TypeId → List K → Value → Int → Prop) (st : St) (e : Env) : List SC → List Int → Prop
  | [], [] => True
  | c :: cs, y :: ys => (∀ k, fitsC st [k] [c] = true → CellR S k (c.den e) y) ∧ pairOK S st e cs ys
  | _, _ => False

theorem fitsC_cons {st : St} {k : K} {ks : List K} {c : SC} {cs : List SC} (h : fitsC st (k :: ks) (c :: cs) = true) : fitsC st [k] [c] = true ∧ fitsC st ks cs = true := by
  unfold fitsC at h
  split at h
  · rename_i h1 h2; cases h1
  · rename_i h1 h2; cases h1; cases h2
    simp only [Bool.and_eq_true] at h
    exact ⟨by simp [fitsC, h.1], h.2⟩
  · rename_i h1 h2; cases h1; cases h2
    exact ⟨rfl, h⟩
  · rename_i h1 h2; cases h1; cases h2
    simp only [Bool.and_eq_true] at h
    exact ⟨by unfold fitsC; rw [h.1]; rfl, h.2⟩
  · rename_i h1 h2; cases h1; cases h2
    simp only [Bool.and_eq_true] at h
    exact ⟨by unfold fitsC; rw [h.1]; rfl, h.2⟩
  · rename_i h1 h2; cases h1; cases h2
    exact ⟨rfl, h⟩
  · cases h

theorem fitsC_len {st : St} : ∀ {ks : List K} {cs : List SC}, fitsC st ks cs = true → cs.length = ks.length
  | [], [], _ => rfl
  | [], _ :: _, h => by simp [fitsC] at h
  | k :: _, [], h => by cases k <;> simp [fitsC] at h
  | _ :: ks, _ :: cs, h => by simp [fitsC_len (fitsC_cons h).2]

theorem pairOK_cells {S : TypeId → List K → Value → Int → Prop} {st : St} {e : Env} : ∀ {ks : List K} {cs : List SC} {ys : List Int}, pairOK S st e cs ys → fitsC st ks cs = true → CellsR S ks (cs.map (SC.den e)) ys
  | [], [], [], _, _ => trivial
  | [], [], _ :: _, h, _ => h.elim
  | [], _ :: _, _, _, hf => by simp [fitsC] at hf
  | k :: ks, [], _, _, hf => by cases k <;> simp [fitsC] at hf
  | k :: ks, c :: cs, [], h, _ => h.elim
  | k :: ks, c :: cs, y :: ys, h, hf => by
    obtain ⟨h1, h2⟩ := fitsC_cons hf
    exact ⟨h.1 k h1, pairOK_cells h.2 h2⟩

theorem retC_sat {e : Env} {W0 : Bas} {st : St} {w : World} (hrep : Rep e W0 st w) : ∀ {cs : List SC} {k : List E → T}, (retC st cs k).sat Γ e.R Ψ bs e.r → ∃ es, (k es).sat Γ e.R Ψ bs e.r ∧ pairOK (ResS W0.may w) st e cs (es.map (E.den e.R e.r)) := by
  intro cs
  induction cs with
  | nil => intro k h; exact ⟨[], h, trivial⟩
  | cons c cs ih =>
    intro k h
    have bool : ∀ {x : B} {n : Int}, (x.den e.R e.r = (n != 0)) → ∀ kk, fitsC st [kk] [SC.b x] = true → CellR (ResS W0.may w) kk ((SC.b x).den e) n := by
      intro x n hx kk hk
      cases kk with
      | i kk => simp [fitsC] at hk
      | b => simp [CellR, SC.den, hx]
      | s ty kr => simp [fitsC] at hk
    have empty : ∀ {v : Value}, (v = .slice none 0 0 ∨ ∃ b off, v = .slice (some ⟨b, off, none⟩) 0 0) → ∀ ty kr, ResS W0.may w ty kr v (cod []) := by
      intro v hv ty kr
      refine ⟨.inl ⟨by simp, hv⟩, fun k hk => ?_⟩
      rcases hv with rfl | ⟨b, off, rfl⟩
      · cases hk
      · simp [rowBlk] at hk
    cases c with
    | i kk x =>
      obtain ⟨es, h1, h2⟩ := ih h
      refine ⟨x :: es, h1, ?_, h2⟩
      intro k' hk'
      cases k' with
      | i k'' => simp only [fitsC, Bool.and_true, beq_iff_eq] at hk'; subst hk'; rfl
      | b => simp [fitsC] at hk'
      | s ty kr => simp [fitsC] at hk'
    | b x =>
      have gen : ∀ {x : B}, (T.ite x (retC st cs fun es => k (.c 1 :: es)) (retC st cs fun es => k (.c 0 :: es))).sat Γ e.R Ψ bs e.r → ∃ es, (k es).sat Γ e.R Ψ bs e.r ∧ pairOK (ResS W0.may w) st e (SC.b x :: cs) (es.map (E.den e.R e.r)) := by
        intro x h
        obtain ⟨h1, h2⟩ := h
        cases hx : x.den e.R e.r with
        | true =>
          obtain ⟨es, h3, h4⟩ := ih (h1 hx)
          exact ⟨_, h3, bool (by rw [hx]; rfl), h4⟩
        | false =>
          obtain ⟨es, h3, h4⟩ := ih (h2 hx)
          exact ⟨_, h3, bool (by rw [hx]; rfl), h4⟩
      cases x with
      | c y =>
        obtain ⟨es, h1, h2⟩ := ih h
        exact ⟨_, h1, bool (by cases y <;> rfl), h2⟩
      | _ => exact gen h
    | go g =>
      simp only [retC] at h
      split at h
      · rename_i ks' c hg
        obtain ⟨es, h1, h2⟩ := ih h
        refine ⟨_, h1, ?_, h2⟩
        intro k' hk'
        cases k' with
        | i k'' => simp [fitsC] at hk'
        | b => simp [fitsC] at hk'
        | s ty kr =>
          cases g with
          | a i => simp [fitsC] at hk'
          | o n =>
            simp only [fitsC, Bool.and_true] at hk'
            split at hk'
            · rename_i b hb
              simp only [Bool.and_eq_true, decide_eq_true_eq] at hk'
              obtain ⟨⟨⟨hl, hf⟩, hty⟩, hks⟩ := hk'
              subst hty
              rw [← ksame_eq hks]
              simp only [gcode, hb, hl, if_true, Option.some.injEq, Prod.mk.injEq] at hg
              obtain ⟨_, rfl⟩ := hg
              exact ⟨hrep.row n b hb hl, hrep.rown n b hb hl hf⟩
            · cases hk'
      · exact h.elim
    | gz g =>
      obtain ⟨es, h1, h2⟩ := ih h
      refine ⟨_, h1, ?_, h2⟩
      intro k' hk'
      cases k' with
      | i k'' => simp [fitsC] at hk'
      | b => simp [fitsC] at hk'
      | s ty kr =>
        simp only [fitsC, Bool.and_true] at hk'
        obtain ⟨⟨ks', c'⟩, hg'⟩ := Option.isSome_iff_exists.1 hk'
        refine empty ?_ ty kr
        rcases hrep.gread hg' with ⟨hv, hn⟩ | ⟨b, off, cap, hv, hle, hm, hel, hcell⟩
        · exact .inl (by simp only [SC.den]; rw [hv]; rfl)
        · exact .inr ⟨b, off, by simp only [SC.den]; rw [hv]; rfl⟩
    | l v =>
      unfold retC at h
      split at h
      · rename_i heq; cases heq
      · rename_i heq; cases heq
      · rename_i heq; cases heq
      · rename_i heq; cases heq
      · rename_i heq; cases heq
      · rename_i heq; cases heq
      · rename_i heq
        cases heq
        obtain ⟨es, h1, h2⟩ := ih h
        refine ⟨_, h1, ?_, h2⟩
        intro k' hk'
        cases k' with
        | i k'' => simp [fitsC] at hk'
        | b => simp [fitsC] at hk'
        | s ty kr => exact empty (.inl rfl) ty kr
      · exact h.elim
    | _ => exact h.elim

theorem fitsW_cells {st : St} {s : Sh} {x : SW} (h : fitsW st s x = true) : fitsC st s.ks x.cells = true ∧ (s.agg = true → ∃ cs, x = .a cs) ∧ (s.agg = false → ∃ c, x = .o c) := by
  cases x <;> simp only [fitsW, Bool.and_eq_true, Bool.not_eq_true'] at h
  · exact ⟨h.2, fun ha => (by rw [h.1] at ha; cases ha), fun _ => ⟨_, rfl⟩⟩
  · exact ⟨h.2, fun _ => ⟨_, rfl⟩, fun ha => (by rw [h.1] at ha; cases ha)⟩

theorem cellsW_cons (x : SW) (xs : List SW) : cellsW (x :: xs) = x.cells ++ cellsW xs := by cases x <;> rfl

theorem fitsC_split {st : St} : ∀ {a : List K} {b : List K} {cs : List SC} {ds : List SC}, fitsC st a cs = true → fitsC st b ds = true → fitsC st (a ++ b) (cs ++ ds) = true := by
  intro a
  induction a with
  | nil =>
    intro b cs ds h1 h2
    cases cs with
    | nil => exact h2
    | cons c cs => simp [fitsC] at h1
  | cons k a ih =>
    intro b cs ds h1 h2
    cases cs with
    | nil => cases k <;> simp [fitsC] at h1
    | cons c cs =>
      obtain ⟨h3, h4⟩ := fitsC_cons h1
      have h5 := ih h4 h2
      unfold fitsC at h1
      split at h1
      · rename_i e1 e2; cases e1
      · rename_i e1 e2; cases e1; cases e2
        simp only [Bool.and_eq_true] at h1
        simp only [List.cons_append, fitsC, h1.1, h5, Bool.and_self]
      · rename_i e1 e2; cases e1; cases e2
        exact h5
      · rename_i e1 e2; cases e1; cases e2
        simp only [Bool.and_eq_true] at h1
        simp only [List.cons_append, fitsC]
        rw [h1.1, h5]; rfl
      · rename_i e1 e2; cases e1; cases e2
        simp only [Bool.and_eq_true] at h1
        simp only [List.cons_append, fitsC]
        rw [h1.1, h5]; rfl
      · rename_i e1 e2; cases e1; cases e2
        exact h5
      · cases h1

theorem fitsWs_cells {st : St} : ∀ {rs : List Sh} {xs : List SW}, fitsWs st rs xs = true → fitsC st (allK rs) (cellsW xs) = true
  | [], [], _ => rfl
  | [], _ :: _, h => by simp [fitsWs] at h
  | _ :: _, [], h => by simp [fitsWs] at h
  | s :: rs, x :: xs, h => by
    simp only [fitsWs, Bool.and_eq_true] at h
    rw [cellsW_cons]
    exact fitsC_split (fitsW_cells h.1).1 (fitsWs_cells h.2)

theorem CellsR_split {S : TypeId → List K → Value → Int → Prop} : ∀ {a b : List K} {cs ds : List Value} {ys : List Int}, cs.length = a.length → CellsR S (a ++ b) (cs ++ ds) ys → ∃ y1 y2, ys = y1 ++ y2 ∧ CellsR S a cs y1 ∧ CellsR S b ds y2
  | [], b, [], ds, ys, _, h => ⟨[], ys, rfl, trivial, h⟩
  | k :: a, b, c :: cs, ds, [], _, h => h.elim
  | k :: a, b, c :: cs, ds, y :: ys, hl, h => by
    obtain ⟨y1, y2, h1, h2, h3⟩ := CellsR_split (by simpa using hl) h.2
    exact ⟨y :: y1, y2, by rw [h1]; rfl, ⟨h.1, h2⟩, h3⟩
  | [], _, _ :: _, _, _, hl, _ => by simp at hl
  | _ :: _, _, [], _, _, hl, _ => by simp at hl

theorem slsC_app : ∀ {a b : List K} {cs ds : List Value}, cs.length = a.length → slsC (a ++ b) (cs ++ ds) = slsC a cs ++ slsC b ds
  | [], _, [], _, _ => rfl
  | .i _ :: a, b, _ :: cs, ds, h => slsC_app (a := a) (by simpa using h)
  | .b :: a, b, _ :: cs, ds, h => slsC_app (a := a) (by simpa using h)
  | .s _ _ :: a, b, c :: cs, ds, h => by simp only [List.cons_append, slsC]; rw [slsC_app (a := a) (by simpa using h)]
  | [], _, _ :: _, _, h => by simp at h
  | _ :: _, _, [], _, h => by simp at h

theorem fitsWs_ok {S : TypeId → List K → Value → Int → Prop} {st : St} {e : Env} : ∀ {rs : List Sh} {xs : List SW} {ys : List Int}, fitsWs st rs xs = true → CellsR S (allK rs) ((cellsW xs).map (SC.den e)) ys →
    ShsR S rs (xs.map (SW.den e)) ys ∧ slsShs rs (xs.map (SW.den e)) = slsC (allK rs) ((cellsW xs).map (SC.den e))
  | [], [], ys, _, h => by
    cases ys with
    | nil => exact ⟨⟨rfl, rfl⟩, rfl⟩
    | cons y ys => exact h.elim
  | [], _ :: _, _, hf, _ => by simp [fitsWs] at hf
  | _ :: _, [], _, hf, _ => by simp [fitsWs] at hf
  | s :: rs, x :: xs, ys, hf, h => by
    simp only [fitsWs, Bool.and_eq_true] at hf
    obtain ⟨f1, f2, f3⟩ := fitsW_cells hf.1
    have hl : (x.cells.map (SC.den e)).length = s.ks.length := by simpa using fitsC_len f1
    rw [cellsW_cons, List.map_append, allK] at h ⊢
    obtain ⟨y1, y2, rfl, h1, h2⟩ := CellsR_split hl h
    obtain ⟨h3, h4⟩ := fitsWs_ok hf.2 h2
    rw [slsC_app hl, ← h4]
    simp only [List.map_cons, slsShs]
    cases ha : s.agg with
    | true =>
      obtain ⟨cs, rfl⟩ := f2 ha
      refine ⟨⟨_, _, y1, y2, rfl, rfl, ?_, h3⟩, ?_⟩
      · unfold ShR; rw [if_pos ha]; exact ⟨_, rfl, h1⟩
      · unfold slsSh; rw [if_pos ha]; rfl
    | false =>
      obtain ⟨c, rfl⟩ := f3 ha
      refine ⟨⟨_, _, y1, y2, rfl, rfl, ?_, h3⟩, ?_⟩
      · unfold ShR; rw [if_neg (by simp [ha])]; exact h1
      · unfold slsSh; rw [if_neg (by simp [ha])]; rfl

theorem nodupB_spec : ∀ {l : List Nat}, nodupB l = true → l.Nodup
  | [], _ => List.nodup_nil
  | x :: l, h => by
    simp only [nodupB, Bool.and_eq_true, Bool.not_eq_true'] at h
    refine List.nodup_cons.2 ⟨fun hx => ?_, nodupB_spec h.2⟩
    have := h.1
    simp [hx] at this

theorem slsC_mem {st : St} {e : Env} {W0 : Bas} {w : World} (hrep : Rep e W0 st w) : ∀ {ks : List K} {cs : List SC}, fitsC st ks cs = true → ∀ v ∈ slsC ks (cs.map (SC.den e)), ∀ k, rowBlk v = some k → ∃ m b, m ∈ rowNames cs ∧ v = (G.o m).val e ∧ st.rows[m]? = some b ∧ b.live = true := by
  intro ks
  induction ks with
  | nil => intro cs _ v hv; cases cs <;> simp [slsC] at hv
  | cons k ks ih =>
    intro cs hf v hv kk hk
    cases cs with
    | nil => cases k <;> simp [slsC] at hv
    | cons c cs =>
      obtain ⟨h1, h2⟩ := fitsC_cons hf
      have rest : v ∈ slsC ks (cs.map (SC.den e)) → ∃ m b, m ∈ rowNames (c :: cs) ∧ v = (G.o m).val e ∧ st.rows[m]? = some b ∧ b.live = true := by
        intro hv
        obtain ⟨m, b, hm, h3⟩ := ih h2 v hv kk hk
        refine ⟨m, b, ?_, h3⟩
        cases c with
        | go g => cases g with
          | a i => exact hm
          | o n => exact List.mem_cons_of_mem _ hm
        | _ => exact hm
      cases k with
      | i k => exact rest (by simpa [slsC] using hv)
      | b => exact rest (by simpa [slsC] using hv)
      | s ty kr =>
        simp only [List.map_cons, slsC, List.mem_cons] at hv
        rcases hv with rfl | hv
        · unfold fitsC at h1
          split at h1
          · rename_i e1 e2; cases e1
          · rename_i e1 e2; cases e1
          · rename_i e1 e2; cases e1
          · rename_i e1 e2; cases e1; cases e2
            simp only [Bool.and_eq_true] at h1
            obtain ⟨h1, _⟩ := h1
            split at h1
            · rename_i n b hb
              simp only [Bool.and_eq_true] at h1
              exact ⟨_, b, by simp [rowNames], rfl, hb, h1.1.1.1⟩
            · cases h1
          · rename_i g _ e1 e2; cases e1; cases e2
            obtain ⟨a, l, c, hv⟩ := G.val_slice e g
            simp only [SC.den, hv, zeroV] at hk
            cases a <;> simp [rowBlk] at hk
          · rename_i e1 e2; cases e1; cases e2
            simp [SC.den, rowBlk] at hk
          · cases h1
        · exact rest hv

theorem slsC_apart {st : St} {e : Env} {W0 : Bas} {w : World} (hrep : Rep e W0 st w) : ∀ {ks : List K} {cs : List SC}, fitsC st ks cs = true → (rowNames cs).Nodup → apartV (slsC ks (cs.map (SC.den e))) := by
  intro ks
  induction ks with
  | nil => intro cs _ _; cases cs <;> exact List.Pairwise.nil
  | cons k ks ih =>
    intro cs hf hn
    cases cs with
    | nil => cases k <;> exact List.Pairwise.nil
    | cons c cs =>
      obtain ⟨h1, h2⟩ := fitsC_cons hf
      have hn' : (rowNames cs).Nodup := by
        cases c with
        | go g => cases g with
          | a i => exact hn
          | o n => exact (List.nodup_cons.1 hn).2
        | _ => exact hn
      cases k with
      | i k => exact ih h2 hn'
      | b => exact ih h2 hn'
      | s ty kr =>
        refine List.Pairwise.cons ?_ (ih h2 hn')
        intro v hv kk hk hk'
        obtain ⟨m, b, hm, rfl, hb, hl⟩ := slsC_mem hrep h2 v hv kk hk'
        obtain ⟨m2, b2, hm2, heq, hb2, hl2⟩ := slsC_mem hrep (ks := [K.s ty kr]) (cs := [c]) h1 (c.den e) (by simp [slsC]) kk hk
        rw [heq] at hk
        have := hrep.rsep _ _ _ _ kk hb hb2 hl hl2 hk' hk
        subst this
        cases c with
        | go g => cases g with
          | a i => simp [rowNames] at hm2
          | o n =>
            simp only [rowNames, List.mem_cons, List.not_mem_nil, or_false] at hm2
            subst hm2
            exact (List.nodup_cons.1 hn).1 hm
        | _ => simp [rowNames] at hm2

theorem retW_sat {e : Env} {W0 : Bas} {st : St} {w : World} (hrep : Rep e W0 st w) {rs : List Sh} {v : SV} (h : (retW st rs v).sat Γ e.R Ψ bs e.r) : ∃ ys, Ψ ys ∧ ResOK W0.may w rs (v.den e) ys := by
  unfold retW at h
  split at h
  · rename_i x
    split at h
    · rename_i hf
      simp only [Bool.and_eq_true] at hf
      obtain ⟨es, h1, h2⟩ := retC_sat hrep h
      have h3 := pairOK_cells h2 (fitsWs_cells hf.1)
      obtain ⟨h4, h5⟩ := fitsWs_ok hf.1 h3
      exact ⟨_, h1, [x.den e], rfl, h4, by
        have := slsC_apart hrep (fitsWs_cells hf.1) (nodupB_spec hf.2)
        rw [← h5] at this
        exact this⟩
    · exact h.elim
  · rename_i xs
    split at h
    · rename_i hf
      simp only [Bool.and_eq_true, bne_iff_ne, ne_eq] at hf
      obtain ⟨es, h1, h2⟩ := retC_sat hrep h
      have h3 := pairOK_cells h2 (fitsWs_cells hf.1.1)
      obtain ⟨h4, h5⟩ := fitsWs_ok hf.1.1 h3
      refine ⟨_, h1, xs.map (SW.den e), ?_, h4, by
        have := slsC_apart hrep (fitsWs_cells hf.1.1) (nodupB_spec hf.2)
        rw [← h5] at this
        exact this⟩
      match xs, hf.1.2 with
      | [], _ => rfl
      | [x], hne => exact absurd rfl hne
      | _ :: _ :: _, _ => rfl
    · exact h.elim
  · exact h.elim

theorem bindT_sat : ∀ {t : T} {k : List E → T}, (bindT t k).sat Γ R Ψ bs r → ∃ es, (k es).sat Γ R Ψ bs r ∧ ∀ (Ψ' : List Int → Prop) (bs' : List (List Int → Prop)), Ψ' (es.map (E.den R r)) → t.sat Γ R Ψ' bs' r := by
  intro t
  induction t with
  | ret es => intro k h; exact ⟨es, h, fun _ _ h' => h'⟩
  | ite b t f iht ihf =>
    intro k h
    obtain ⟨h1, h2⟩ := h
    cases hb : b.den R r with
    | true =>
      obtain ⟨es, h3, h4⟩ := iht (h1 hb)
      exact ⟨es, h3, fun Ψ' bs' h' => ⟨fun _ => h4 Ψ' bs' h', fun hf => (by rw [hb] at hf; cases hf)⟩⟩
    | false =>
      obtain ⟨es, h3, h4⟩ := ihf (h2 hb)
      exact ⟨es, h3, fun Ψ' bs' h' => ⟨fun ht => (by rw [hb] at ht; cases ht), fun _ => h4 Ψ' bs' h'⟩⟩
  | asrt b t ih =>
    intro k h
    obtain ⟨es, h3, h4⟩ := ih h.2
    exact ⟨es, h3, fun Ψ' bs' h' => ⟨h.1, h4 Ψ' bs' h'⟩⟩
  | call g args t ih => intro k h; exact h.elim
  | loop n ini t ih => intro k h; exact h.elim
  | back d es => intro k h; exact h.elim
  | fail => intro k h; exact h.elim

/-- What 'doneK' asks. -/
theorem doneK_sat {e : Env} {W0 : Bas} {s : St} {a : Act} {w : World} {F : Func} {rs : List Sh} {out : Out} (h : Rel e W0 s a w) (hs : (doneK P F rs out s).sat Γ e.R Ψ bs e.r) :
    (∀ id, out ≠ .exit id) ∧ ∃ ys v, Ψ ys ∧ ResOK W0.may w rs v ys ∧ (results F a.tmps).run P w = .ok v w := by
  have key : (match resOf P F s with | some v => retW s rs v | none => .fail : T).sat Γ e.R Ψ bs e.r → ∃ ys v, Ψ ys ∧ ResOK W0.may w rs v ys ∧ (results F a.tmps).run P w = .ok v w := by
    intro hs
    split at hs
    · rename_i v hv
      obtain ⟨ys, h1, h2⟩ := retW_sat h.rep hs
      exact ⟨ys, _, h1, h2, resOf_run h hv⟩
    · exact hs.elim
  cases out with
  | norm => exact ⟨fun _ h => (by cases h), key hs⟩
  | exit id => exact hs.elim
  | ret => exact ⟨fun _ h => (by cases h), key hs⟩

/-- A function run to its end. -/
theorem calls_done {ih : Code → St → Kont → T} (hih : IH P Γ ih) {W0 : Bas} {e : Env} {s : St} {w : World} {args : List SV} {fn : FuncId} {F : Func} {body : Code} {rs : List Sh} (h : Rep e W0 s w) (hdp : s.dp = bs.length)
    (hF : P.funcs[fn]? = some F) (hb : F.body = some body) (hs : (ih body { s with fr := args ++ List.replicate (F.ntmps - args.length) undefS } (doneK P F rs)).sat Γ e.R Ψ bs e.r) :
    Calls P fn (args.map (SV.den e)).toArray w fun x w' => ∃ ys v, x = .returned v ∧ Ψ ys ∧ ResOK W0.may w' rs v ys ∧ BelowX W0 w' := by
  refine calls_of_wp hF hb ?_
  have hrel : Rel e W0 { s with fr := args ++ List.replicate (F.ntmps - args.length) undefS } { tmps := (args.map (SV.den e)).toArray ++ Array.replicate (F.ntmps - (args.map (SV.den e)).toArray.size) undef, defers := [] } w :=
    ⟨h.fr _, by
      apply Array.ext'
      simp [den_undefS], rfl⟩
  refine wp_mono (hih _ _ _ W0 Ψ bs e _ w hrel hdp hs) ?_
  rintro x a' w' ⟨out, s', e', more, rfl, hle, hrel', hf, hfr, hd, hsat⟩
  obtain ⟨hne, ys, v, h1, h2, h3⟩ := doneK_sat hrel' hsat
  cases out with
  | norm => exact ⟨hrel'.defs, _, h3, ys, v, rfl, h1, h2, hrel'.rep.below⟩
  | exit id => exact absurd rfl (hne id)
  | ret => exact ⟨hrel'.defs, _, h3, ys, v, rfl, h1, h2, hrel'.rep.below⟩
end
end Go.Sx
