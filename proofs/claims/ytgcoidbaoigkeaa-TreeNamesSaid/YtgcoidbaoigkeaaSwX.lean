/-
  Symbolic execution: a loop's head, generalised.
-/
import Derived.Test.YtgcoidbaoigkeaaSwW
import Derived.Test.YtgcoidbaoigkeaaSwO
namespace Go.Sx
open Go.RowKit

/-! ### the same, written the same -/
theorem lsame_eq {a b : Value} (h : lsame a b = true) : a = b := by
  unfold lsame at h
  split at h
  · rfl
  · rfl
  · simp only [Bool.and_eq_true, beq_iff_eq] at h
    rw [h.1, h.2]
  · cases h

theorem capsame_eq : ∀ {a b : List (Nat × Nat)}, capsame a b = true → a = b
  | [], [], _ => rfl
  | x :: xs, y :: ys, h => by
    simp only [capsame, Bool.and_eq_true, beq_iff_eq] at h
    rw [capsame_eq h.2, Prod.ext h.1.1 h.1.2]
  | [], _ :: _, h => by simp [capsame] at h
  | _ :: _, [], h => by simp [capsame] at h

theorem SC.same_eq {a b : SC} (h : a.same b = true) : a = b := by
  cases a <;> cases b <;> simp only [SC.same, Bool.and_eq_true, beq_iff_eq, Bool.false_eq_true] at h
  · rw [h.1, E.same_eq _ _ h.2]
  · rw [B.same_eq _ _ h]
  · rw [h.1, h.2]
  · rw [h.1.1, h.1.2, h.2.1, h.2.2]
  · rw [G.same_eq _ _ h]
  · rw [G.same_eq _ _ h.1.1, h.1.2, E.same_eq _ _ h.2.1, E.same_eq _ _ h.2.2]
  · rw [G.same_eq _ _ h.1.1, h.1.2, E.same_eq _ _ h.2.1, h.2.2]
  · rw [G.same_eq _ _ h]
  · rw [h.1, capsame_eq h.2]
  · rw [lsame_eq h]

theorem csame_eq : ∀ {a b : List SC}, csame a b = true → a = b
  | [], [], _ => rfl
  | x :: xs, y :: ys, h => by
    simp only [csame, Bool.and_eq_true] at h
    rw [SC.same_eq h.1, csame_eq h.2]
  | [], _ :: _, h => by simp [csame] at h
  | _ :: _, [], h => by simp [csame] at h

theorem SW.same_eq {a b : SW} (h : a.same b = true) : a = b := by
  cases a <;> cases b <;> simp only [SW.same, Bool.false_eq_true] at h
  · rw [SC.same_eq h]
  · rw [csame_eq h]

theorem wsame_eq : ∀ {a b : List SW}, wsame a b = true → a = b
  | [], [], _ => rfl
  | x :: xs, y :: ys, h => by
    simp only [wsame, Bool.and_eq_true] at h
    rw [SW.same_eq h.1, wsame_eq h.2]
  | [], _ :: _, h => by simp [wsame] at h
  | _ :: _, [], h => by simp [wsame] at h

theorem SV.same_eq {a b : SV} (h : a.same b = true) : a = b := by
  cases a <;> cases b <;> simp only [SV.same, beq_iff_eq, Bool.false_eq_true] at h
  · rw [SW.same_eq h]
  · rw [wsame_eq h]
  · rw [h]

section
variable {ex e2 : Env} {W0 : Bas} {sx : St} {w : World}

def VOK (ex : Env) (sx : St) (vals : List Value) (us : List Nat) : Prop :=
  apartV vals ∧ ∀ v ∈ vals, ∀ k, rowBlk v = some k → ∃ n b, n ∈ us ∧ sx.rows[n]? = some b ∧ b.live = true ∧ sx.flr ≤ n ∧ rowBlk ((G.o n).val ex) = some k

theorem VOK.nil (ex : Env) (sx : St) : VOK ex sx [] [] := ⟨List.Pairwise.nil, fun v hv => by simp at hv⟩

theorem VOK.app (hrep : Rep ex W0 sx w) {a b : List Value} {us ts : List Nat} (ha : VOK ex sx a us) (hb : VOK ex sx b ts) (hn : (us ++ ts).Nodup) : VOK ex sx (a ++ b) (us ++ ts) := by
  refine ⟨List.pairwise_append.2 ⟨ha.1, hb.1, fun u hu v hv k hk hk' => ?_⟩, fun v hv k hk => ?_⟩
  · obtain ⟨n, b1, h1, h2, h3, _, h5⟩ := ha.2 u hu k hk
    obtain ⟨m, b2, h1', h2', h3', _, h5'⟩ := hb.2 v hv k hk'
    have := hrep.rsep n m b1 b2 k h2 h2' h3 h3' h5 h5'
    subst this
    exact (List.nodup_append.1 hn).2.2 n h1 n h1' rfl
  · rcases List.mem_append.1 hv with hv | hv
    · obtain ⟨n, b, h1, h2⟩ := ha.2 v hv k hk
      exact ⟨n, b, List.mem_append_left _ h1, h2⟩
    · obtain ⟨n, b, h1, h2⟩ := hb.2 v hv k hk
      exact ⟨n, b, List.mem_append_right _ h1, h2⟩

def RowsOK (w : World) (e2 : Env) (rows : List Row) (vals : List Value) : Prop :=
  rows.length = vals.length ∧ ∀ (j : Nat) (b : Row) (v : Value), rows[j]? = some b → vals[j]? = some v → b.live = true ∧ (∃ a l c, v = .slice a l c) ∧ RowOK w b.ty b.ks v (b.c.den e2.R e2.r)

theorem RowsOK.app {r1 r2 : List Row} {v1 v2 : List Value} (h1 : RowsOK w e2 r1 v1) (h2 : RowsOK w e2 r2 v2) : RowsOK w e2 (r1 ++ r2) (v1 ++ v2) := by
  refine ⟨by simp [h1.1, h2.1], fun j b v hb hv => ?_⟩
  rcases Nat.lt_or_ge j r1.length with hj | hj
  · rw [List.getElem?_append_left hj] at hb
    rw [List.getElem?_append_left (by rw [← h1.1]; exact hj)] at hv
    exact h1.2 j b v hb hv
  · rw [List.getElem?_append_right hj] at hb
    rw [List.getElem?_append_right (by rw [← h1.1]; exact hj), ← h1.1] at hv
    exact h2.2 _ b v hb hv

theorem rowM_ok (hrep : Rep ex W0 sx w) {ty : TypeId} {ks : List K} {c : SC} {as : List B} {x : E} {u : List Nat} (h : rowM sx ty ks c = some (as, x, u)) (has : ∀ b ∈ as, b.den ex.R ex.r = true) :
    RowOK w ty ks (c.den ex) (x.den ex.R ex.r) ∧ VOK ex sx [c.den ex] u ∧ ∃ a l cp, c.den ex = .slice a l cp := by
  have single : ∀ {v : Value} {u : List Nat}, (∀ k, rowBlk v = some k → ∃ n b, n ∈ u ∧ sx.rows[n]? = some b ∧ b.live = true ∧ sx.flr ≤ n ∧ rowBlk ((G.o n).val ex) = some k) → VOK ex sx [v] u := by
    intro v u h
    exact ⟨List.pairwise_singleton _ _, fun v' hv' => by simp only [List.mem_singleton] at hv'; subst hv'; exact h⟩
  unfold rowM at h
  split at h
  · simp only [Option.some.injEq, Prod.mk.injEq] at h
    obtain ⟨rfl, rfl, rfl⟩ := h
    exact ⟨.inl ⟨by simp [E.den], .inl rfl⟩, single (fun k hk => by cases hk), _, _, _, rfl⟩
  · rename_i g
    split at h
    · rename_i hg
      simp only [Option.some.injEq, Prod.mk.injEq] at h
      obtain ⟨rfl, rfl, rfl⟩ := h
      obtain ⟨⟨ks', c'⟩, hg'⟩ := Option.isSome_iff_exists.1 hg
      rcases hrep.gread hg' with ⟨hv, hn⟩ | ⟨b, off, cap, hv, hle, hm, hel, hcell⟩
      · have hd : (SC.gz g).den ex = .slice none 0 0 := by simp only [SC.den]; rw [hv]; rfl
        rw [hd]
        exact ⟨.inl ⟨by simp [E.den], .inl rfl⟩, single (fun k hk => by cases hk), _, _, _, rfl⟩
      · have hd : (SC.gz g).den ex = .slice (some ⟨b, off, none⟩) 0 0 := by simp only [SC.den]; rw [hv]; rfl
        rw [hd]
        exact ⟨.inl ⟨by simp [E.den], .inr ⟨_, _, rfl⟩⟩, single (fun k hk => by simp [rowBlk] at hk), _, _, _, rfl⟩
    · cases h
  · rename_i n
    split at h
    · rename_i b hb
      split at h
      · rename_i hc
        simp only [Bool.and_eq_true, decide_eq_true_eq] at hc
        obtain ⟨⟨⟨hl, hf⟩, hty⟩, hks⟩ := hc
        simp only [Option.some.injEq, Prod.mk.injEq] at h
        obtain ⟨rfl, rfl, rfl⟩ := h
        subst hty
        rw [← ksame_eq hks]
        exact ⟨hrep.row n b hb hl, single (fun k hk => ⟨n, b, by simp, hb, hl, hf, hk⟩), G.val_slice ex (.o n)⟩
      · cases h
    · cases h
  · rename_i n size hi
    split at h
    · rename_i b hb
      split at h
      · rename_i hc
        simp only [Bool.and_eq_true, decide_eq_true_eq] at hc
        obtain ⟨⟨⟨⟨hl, hf⟩, hty⟩, hks⟩, hsz⟩ := hc
        simp only [Option.some.injEq, Prod.mk.injEq] at h
        obtain ⟨rfl, rfl, rfl⟩ := h
        subst hty
        rw [← ksame_eq hks]
        obtain ⟨v1, v2, v3⟩ := vB_den has
        simp only [E.den] at v2
        obtain ⟨ht1, ht2⟩ := (hrep.row n b hb hl).take (c' := (mkTake b.c hi).den ex.R ex.r) (hi := (hi.den ex.R ex.r).toNat) (by rw [mkTake_den, dec_cod]) (by omega) size
        have hval : (SC.gv (.o n) size (.c 0) hi).den ex = subV size ((G.o n).val ex) 0 (hi.den ex.R ex.r).toNat := rfl
        rw [hval]
        refine ⟨ht1, single (fun k hk => ⟨n, b, by simp, hb, hl, hf, by rw [← ht2]; exact hk⟩), ?_⟩
        obtain ⟨a, l, cp, hv⟩ := G.val_slice ex (.o n)
        rw [hv]
        exact ⟨_, _, _, rfl⟩
      · cases h
    · cases h
  · cases h

theorem arrM_ok (hrep : Rep ex W0 sx w) {ty : TypeId} {ks : List K} {c : SC} {x : E} {u : Nat} (h : arrM sx ty ks c = some (x, u)) :
    RowOK w ty ks ((G.o u).val ex) (x.den ex.R ex.r) ∧ VOK ex sx [(G.o u).val ex] [u] ∧ c.den ex = .pointer (atV ks.length ((G.o u).val ex) 0 0) := by
  unfold arrM at h
  split at h
  · rename_i n size
    split at h
    · rename_i b hb
      split at h
      · rename_i hc
        simp only [Bool.and_eq_true, decide_eq_true_eq] at hc
        obtain ⟨⟨⟨⟨hl, hf⟩, hty⟩, hks⟩, hsz⟩ := hc
        simp only [Option.some.injEq, Prod.mk.injEq] at h
        obtain ⟨rfl, rfl⟩ := h
        subst hty
        rw [← ksame_eq hks] at hsz ⊢
        subst hsz
        refine ⟨hrep.row n b hb hl, ⟨List.pairwise_singleton _ _, fun v' hv' => ?_⟩, rfl⟩
        simp only [List.mem_singleton] at hv'
        subst hv'
        exact fun k hk => ⟨n, b, by simp, hb, hl, hf, hk⟩
      · cases h
    · cases h
  · cases h
def arrV (ex : Env) : SC → Value
  | .gp (.o n) _ _ _ => slV (ex.σ.getD n undef)
  | _ => .slice none 0 0
theorem arrV_of {ty : TypeId} {ks : List K} {c : SC} {x : E} {u : Nat} (h : arrM sx ty ks c = some (x, u)) : arrV ex c = (G.o u).val ex := by
  unfold arrM at h
  split at h
  · split at h
    · split at h
      · simp only [Option.some.injEq, Prod.mk.injEq] at h
        obtain ⟨_, rfl⟩ := h
        rfl
      · cases h
    · cases h
  · cases h
noncomputable def valsC (ex : Env) : List Ck → List SC → List Value
  | .arr _ _ :: l, x :: xs => arrV ex x :: valsC ex l xs
  | .row _ _ :: l, x :: xs => x.den ex :: valsC ex l xs
  | _ :: l, _ :: xs => valsC ex l xs
  | _, _ => []

theorem matchC_ok (hrep : Rep ex W0 sx w) : ∀ {l : List Ck} {cs xs : List SC} {as : List B} {es : List E} {us : List Nat}, matchC sx l cs xs = some (as, es, us) → (∀ b ∈ as, b.den ex.R ex.r = true) → us.Nodup →
    es.length = nvC l ∧ (valsC ex l xs).length = ngC l ∧ VOK ex sx (valsC ex l xs) us ∧ ∀ (e2 : Env) (nv ng : Nat), (∀ c ∈ cs, c.den e2 = c.den ex) → (∀ (t : Nat) (n : Int), (es.map (E.den ex.R ex.r))[t]? = some n → e2.r.getD (nv + t) 0 = n) →
      (∀ (t : Nat) (v : Value), (valsC ex l xs)[t]? = some v → (G.o (ng + t)).val e2 = v) → (genC l cs nv ng).map (SC.den e2) = xs.map (SC.den ex) ∧ RowsOK w e2 (rowsC l nv) (valsC ex l xs) := by
  intro l
  induction l with
  | nil =>
    intro cs xs as es us h _ _
    cases cs <;> cases xs <;> simp only [matchC, Option.some.injEq, Prod.mk.injEq, reduceCtorEq] at h
    obtain ⟨rfl, rfl, rfl⟩ := h
    exact ⟨rfl, rfl, VOK.nil _ _, fun e2 nv ng _ _ _ => ⟨rfl, rfl, fun j b v hb => by simp [rowsC] at hb⟩⟩
  | cons p l ih =>
    intro cs xs as es us h has hnd
    cases cs with
    | nil => cases p <;> simp [matchC] at h
    | cons c cs =>
      cases xs with
      | nil => cases p <;> simp [matchC] at h
      | cons x xs =>
        cases p with
        | keep =>
          simp only [matchC] at h
          split at h
          · rename_i hs
            have hcx := SC.same_eq hs
            subst hcx
            obtain ⟨h1, h2, h3, h4⟩ := ih h has hnd
            refine ⟨h1, h2, h3, fun e2 nv ng hc hv hg => ?_⟩
            obtain ⟨h5, h6⟩ := h4 e2 nv ng (fun c hc' => hc c (by simp [hc'])) hv hg
            exact ⟨by simp only [genC, List.map_cons, h5, hc c (by simp)], h6⟩
          · cases h
        | num k =>
          simp only [matchC] at h
          split at h
          · rename_i xe as1 es1 us1 hf hm
            simp only [Option.some.injEq, Prod.mk.injEq] at h
            obtain ⟨rfl, rfl, rfl⟩ := h
            obtain ⟨h1, h2, h3, h4⟩ := ih hm has hnd
            refine ⟨by simp [nvC, h1], by simpa [valsC, ngC] using h2, by simpa [valsC] using h3, fun e2 nv ng hc hv hg => ?_⟩
            obtain ⟨h5, h6⟩ := h4 e2 (nv + 1) ng (fun c hc' => hc c (by simp [hc'])) (fun t n ht => by
              have := hv (t + 1) n (by simpa using ht)
              rwa [show nv + (t + 1) = nv + 1 + t by omega] at this) (fun t v ht => hg t v (by simpa [valsC] using ht))
            have h0 := hv 0 (xe.den ex.R ex.r) rfl
            rw [Nat.add_zero] at h0
            obtain ⟨_, hd⟩ := flatC_den (e := ex) hf
            simp only [List.map_cons, List.map_nil, mkCells, List.cons.injEq, and_true] at hd
            refine ⟨?_, by simpa [rowsC, valsC] using h6⟩
            cases k with
            | i k =>
              simp only [genC, List.map_cons, h5, hd, K.mk]
              congr 1
              simp only [SC.den, E.den, h0]
            | b =>
              simp only [genC, List.map_cons, h5, hd, K.mk]
              congr 1
              simp only [SC.den, B.den, E.den, h0]
            | s ty kr => cases x <;> simp [flatC] at hf
          · cases h
        | row ty ks =>
          simp only [matchC] at h
          split at h
          · rename_i as1 xe u1 as2 es2 us2 hr hm
            simp only [Option.some.injEq, Prod.mk.injEq] at h
            obtain ⟨rfl, rfl, rfl⟩ := h
            obtain ⟨h1, h2, h3, h4⟩ := ih hm (fun b hb => has b (List.mem_append_right _ hb)) (List.nodup_append.1 hnd).2.1
            obtain ⟨r1, r2, r3⟩ := rowM_ok hrep hr (fun b hb => has b (List.mem_append_left _ hb))
            refine ⟨by simp [nvC, h1], by simp [valsC, ngC, h2], by simpa [valsC] using VOK.app hrep r2 h3 hnd, fun e2 nv ng hc hv hg => ?_⟩
            obtain ⟨h5, h6⟩ := h4 e2 (nv + 1) (ng + 1) (fun c hc' => hc c (by simp [hc'])) (fun t n ht => by
              have := hv (t + 1) n (by simpa using ht)
              rwa [show nv + (t + 1) = nv + 1 + t by omega] at this) (fun t v ht => by
              have := hg (t + 1) v (by simpa [valsC] using ht)
              rwa [show ng + (t + 1) = ng + 1 + t by omega] at this)
            have h0 := hv 0 (xe.den ex.R ex.r) rfl
            rw [Nat.add_zero] at h0
            have hg0 := hg 0 (x.den ex) rfl
            rw [Nat.add_zero] at hg0
            refine ⟨?_, ?_⟩
            · simp only [genC, List.map_cons, h5]
              congr 1
            · have hone : RowsOK w e2 [(⟨ty, ks, .v nv, true⟩ : Row)] [x.den ex] := ⟨rfl, fun j b v hb hv' => by
                cases j with
                | zero =>
                  simp only [List.getElem?_cons_zero, Option.some.injEq] at hb hv'
                  subst hb; subst hv'
                  refine ⟨rfl, r3, ?_⟩
                  show RowOK w ty ks _ (e2.r.getD nv 0)
                  rw [h0]
                  exact r1
                | succ j => simp at hb⟩
              exact hone.app h6
          · cases h
        | arr ty ks =>
          simp only [matchC] at h
          split at h
          · rename_i xe u1 as2 es2 us2 hr hm
            simp only [Option.some.injEq, Prod.mk.injEq] at h
            obtain ⟨rfl, rfl, rfl⟩ := h
            obtain ⟨h1, h2, h3, h4⟩ := ih hm has (List.nodup_append.1 hnd).2.1
            obtain ⟨r1, r2, r3⟩ := arrM_ok hrep hr
            have r4 := arrV_of (ex := ex) hr
            rw [← r4] at r2
            refine ⟨by simp [nvC, h1], by simp [valsC, ngC, h2], by simpa [valsC] using VOK.app hrep r2 h3 hnd, fun e2 nv ng hc hv hg => ?_⟩
            obtain ⟨h5, h6⟩ := h4 e2 (nv + 1) (ng + 1) (fun c hc' => hc c (by simp [hc'])) (fun t n ht => by
              have := hv (t + 1) n (by simpa using ht)
              rwa [show nv + (t + 1) = nv + 1 + t by omega] at this) (fun t v ht => by
              have := hg (t + 1) v (by simpa [valsC] using ht)
              rwa [show ng + (t + 1) = ng + 1 + t by omega] at this)
            have h0 := hv 0 (xe.den ex.R ex.r) rfl
            rw [Nat.add_zero] at h0
            have hg0 := hg 0 (arrV ex x) rfl
            rw [Nat.add_zero, r4] at hg0
            refine ⟨?_, ?_⟩
            · simp only [genC, List.map_cons, h5]
              congr 1
              rw [r3]
              simp only [SC.den, hg0, E.den]
              rfl
            · have hone : RowsOK w e2 [(⟨ty, ks, .v nv, true⟩ : Row)] [arrV ex x] := ⟨rfl, fun j b v hb hv' => by
                cases j with
                | zero =>
                  simp only [List.getElem?_cons_zero, Option.some.injEq] at hb hv'
                  subst hb; subst hv'
                  rw [r4]
                  refine ⟨rfl, G.val_slice ex (.o u1), ?_⟩
                  show RowOK w ty ks _ (e2.r.getD nv 0)
                  rw [h0]
                  exact r1
                | succ j => simp at hb⟩
              exact hone.app h6
          · cases h

noncomputable def valsV (ex : Env) (p : List Ck) (x : SV) : List Value := match x with
  | .w y => valsC ex p y.cells
  | _ => []
noncomputable def valsF (ex : Env) : List Sk → List SV → List Value
  | .cells p :: l, x :: xs => valsV ex p x ++ valsF ex l xs
  | _ :: l, _ :: xs => valsF ex l xs
  | _, _ => []
noncomputable def unsF (ex : Env) : List Sk → List SV → List Value
  | .un :: l, x :: xs => x.den ex :: unsF ex l xs
  | _ :: l, _ :: xs => unsF ex l xs
  | _, _ => []

theorem sub_left {α : Type} {P : Nat → α → Prop} {a b : List α} (h : ∀ (t : Nat) (n : α), (a ++ b)[t]? = some n → P t n) : ∀ (t : Nat) (n : α), a[t]? = some n → P t n := fun t n ht => h t n (by
  rw [List.getElem?_append_left (List.getElem?_eq_some_iff.1 ht).1]; exact ht)
theorem sub_right {α : Type} {P : Nat → α → Prop} {a b : List α} (h : ∀ (t : Nat) (n : α), (a ++ b)[t]? = some n → P t n) : ∀ (t : Nat) (n : α), b[t]? = some n → P (a.length + t) n := fun t n ht => h _ n (by
  rw [List.getElem?_append_right (by omega), Nat.add_sub_cancel_left]; exact ht)

theorem matchV_ok (hrep : Rep ex W0 sx w) {l : List Ck} {v x : SV} {as : List B} {es : List E} {us : List Nat} (h : matchV sx l v x = some (as, es, us)) (has : ∀ b ∈ as, b.den ex.R ex.r = true) (hnd : us.Nodup) :
    es.length = nvC l ∧ (valsV ex l x).length = ngC l ∧ VOK ex sx (valsV ex l x) us ∧ ∀ (e2 : Env) (nv ng : Nat), (∀ y, v = .w y → ∀ c ∈ y.cells, c.den e2 = c.den ex) → (∀ (t : Nat) (n : Int), (es.map (E.den ex.R ex.r))[t]? = some n → e2.r.getD (nv + t) 0 = n) →
      (∀ (t : Nat) (v : Value), (valsV ex l x)[t]? = some v → (G.o (ng + t)).val e2 = v) → (genV l v nv ng).den e2 = x.den ex ∧ RowsOK w e2 (rowsC l nv) (valsV ex l x) := by
  unfold matchV at h
  split at h
  · rename_i c d
    obtain ⟨h1, h2, h3, h4⟩ := matchC_ok hrep h has hnd
    refine ⟨h1, h2, h3, fun e2 nv ng hc hv hg => ?_⟩
    obtain ⟨h5, h6⟩ := h4 e2 nv ng (hc _ rfl) hv hg
    refine ⟨?_, h6⟩
    cases hgc : genC l [c] nv ng with
    | nil => rw [hgc] at h5; simp at h5
    | cons c' r =>
      rw [hgc] at h5
      simp only [List.map_cons, List.map_nil, List.cons.injEq] at h5
      simp only [genV, hgc]
      exact h5.1
  · rename_i cs ds
    obtain ⟨h1, h2, h3, h4⟩ := matchC_ok hrep h has hnd
    refine ⟨h1, h2, h3, fun e2 nv ng hc hv hg => ?_⟩
    obtain ⟨h5, h6⟩ := h4 e2 nv ng (hc _ rfl) hv hg
    refine ⟨?_, h6⟩
    simp only [genV, SV.den, SW.den, h5]
  · cases h

theorem matchF_ok (hrep : Rep ex W0 sx w) : ∀ {l : List Sk} {vs xs : List SV} {as : List B} {es : List E} {us : List Nat}, matchF sx l vs xs = some (as, es, us) → (∀ b ∈ as, b.den ex.R ex.r = true) → us.Nodup →
    es.length = nvS l ∧ (valsF ex l xs).length = ngS l ∧ (unsF ex l xs).length = nxS l ∧ VOK ex sx (valsF ex l xs) us ∧ ∀ (e2 : Env) (nv ng nx : Nat), (∀ v ∈ vs, v.den e2 = v.den ex ∧ ∀ y, v = .w y → ∀ c ∈ y.cells, c.den e2 = c.den ex) →
      (∀ (t : Nat) (n : Int), (es.map (E.den ex.R ex.r))[t]? = some n → e2.r.getD (nv + t) 0 = n) → (∀ (t : Nat) (v : Value), (valsF ex l xs)[t]? = some v → (G.o (ng + t)).val e2 = v) →
      (∀ (t : Nat) (v : Value), (unsF ex l xs)[t]? = some v → e2.ω.getD (nx + t) undef = v) → (genF l vs nv ng nx).map (SV.den e2) = xs.map (SV.den ex) ∧ RowsOK w e2 (rowsF l nv) (valsF ex l xs) := by
  intro l
  induction l with
  | nil =>
    intro vs xs as es us h _ _
    cases vs <;> cases xs <;> simp only [matchF, Option.some.injEq, Prod.mk.injEq, reduceCtorEq] at h
    obtain ⟨rfl, rfl, rfl⟩ := h
    exact ⟨rfl, rfl, rfl, VOK.nil _ _, fun e2 nv ng nx _ _ _ _ => ⟨rfl, rfl, fun j b v hb => by simp [rowsF] at hb⟩⟩
  | cons p l ih =>
    intro vs xs as es us h has hnd
    cases vs with
    | nil => cases p <;> simp [matchF] at h
    | cons v vs =>
      cases xs with
      | nil => cases p <;> simp [matchF] at h
      | cons x xs =>
        cases p with
        | keep =>
          simp only [matchF] at h
          split at h
          · rename_i hs
            have hcx := SV.same_eq hs
            subst hcx
            obtain ⟨h1, h2, h2u, h3, h4⟩ := ih h has hnd
            refine ⟨h1, h2, h2u, h3, fun e2 nv ng nx hc hv hg hu => ?_⟩
            obtain ⟨h5, h6⟩ := h4 e2 nv ng nx (fun c hc' => hc c (by simp [hc'])) hv hg hu
            exact ⟨by simp only [genF, List.map_cons, h5, (hc v (by simp)).1], h6⟩
          · cases h
        | un =>
          simp only [matchF] at h
          obtain ⟨h1, h2, h2u, h3, h4⟩ := ih h has hnd
          refine ⟨h1, h2, by simp [unsF, nxS, h2u], h3, fun e2 nv ng nx hc hv hg hu => ?_⟩
          obtain ⟨h5, h6⟩ := h4 e2 nv ng (nx + 1) (fun c hc' => hc c (by simp [hc'])) hv hg (fun t v ht => by
            have := hu (t + 1) v (by simpa [unsF] using ht)
            rwa [show nx + (t + 1) = nx + 1 + t by omega] at this)
          have h0 := hu 0 (x.den ex) rfl
          rw [Nat.add_zero] at h0
          exact ⟨by simp only [genF, List.map_cons, h5, SV.den, h0], h6⟩
        | cells p =>
          simp only [matchF] at h
          split at h
          · rename_i as1 es1 us1 as2 es2 us2 hm1 hm2
            simp only [Option.some.injEq, Prod.mk.injEq] at h
            obtain ⟨rfl, rfl, rfl⟩ := h
            obtain ⟨n1, n2, n3⟩ := List.nodup_append.1 hnd
            obtain ⟨a1, a2, a3, a4⟩ := matchV_ok hrep hm1 (fun b hb => has b (List.mem_append_left _ hb)) n1
            obtain ⟨b1, b2, b2u, b3, b4⟩ := ih hm2 (fun b hb => has b (List.mem_append_right _ hb)) n2
            refine ⟨by simp [nvS, a1, b1], by simp [valsF, ngS, a2, b2], b2u, VOK.app hrep a3 b3 hnd, fun e2 nv ng nx hc hv hg hu => ?_⟩
            rw [List.map_append] at hv
            simp only [valsF] at hg
            obtain ⟨a5, a6⟩ := a4 e2 nv ng (fun y hy => (hc v (by simp)).2 y hy) (sub_left hv) (sub_left hg)
            obtain ⟨b5, b6⟩ := b4 e2 (nv + nvC p) (ng + ngC p) nx (fun c hc' => hc c (by simp [hc'])) (fun t n ht => by
              have := sub_right hv t n ht
              rwa [List.length_map, a1, ← Nat.add_assoc] at this) (fun t v ht => by
              have := sub_right hg t v ht
              rwa [a2, ← Nat.add_assoc] at this) hu
            exact ⟨by simp only [genF, List.map_cons, a5, b5], a6.app b6⟩
          · cases h

noncomputable def valsM (ex : Env) : List (List Ck) → List Blk → List Value
  | p :: l, x :: xs => valsC ex p x.cells ++ valsM ex l xs
  | _, _ => []

theorem matchM_ok (hrep : Rep ex W0 sx w) : ∀ {l : List (List Ck)} {bs xs : List Blk} {as : List B} {es : List E} {us : List Nat}, matchM sx l bs xs = some (as, es, us) → (∀ b ∈ as, b.den ex.R ex.r = true) → us.Nodup →
    l.length = bs.length ∧ es.length = nvM l ∧ (valsM ex l xs).length = (l.map ngC).sum ∧ VOK ex sx (valsM ex l xs) us ∧ ∀ (e2 : Env) (nv ng : Nat), (∀ b ∈ bs, ∀ c ∈ b.cells, c.den e2 = c.den ex) →
      (∀ (t : Nat) (n : Int), (es.map (E.den ex.R ex.r))[t]? = some n → e2.r.getD (nv + t) 0 = n) → (∀ (t : Nat) (v : Value), (valsM ex l xs)[t]? = some v → (G.o (ng + t)).val e2 = v) →
      (∀ (n : Nat) (b : Blk), (genM l bs nv ng)[n]? = some b → ∃ x : Blk, xs[n]? = some x ∧ x.live = true ∧ b.ty = x.ty ∧ b.cells.map (SC.den e2) = x.cells.map (SC.den ex)) ∧ RowsOK w e2 (rowsM l nv) (valsM ex l xs) ∧ (genM l bs nv ng).length = bs.length := by
  intro l
  induction l with
  | nil =>
    intro bs xs as es us h _ _
    cases bs <;> simp only [matchM, Option.some.injEq, Prod.mk.injEq, reduceCtorEq] at h
    obtain ⟨rfl, rfl, rfl⟩ := h
    exact ⟨rfl, rfl, rfl, VOK.nil _ _, fun e2 nv ng _ _ _ => ⟨fun n b hb => by simp [genM] at hb, ⟨rfl, fun j b v hb => by simp [rowsM] at hb⟩, rfl⟩⟩
  | cons p l ih =>
    intro bs xs as es us h has hnd
    cases bs with
    | nil => simp [matchM] at h
    | cons b bs =>
      cases xs with
      | nil => simp [matchM] at h
      | cons x xs =>
        simp only [matchM] at h
        split at h
        · rename_i hc
          simp only [Bool.and_eq_true, decide_eq_true_eq] at hc
          split at h
          · rename_i as1 es1 us1 as2 es2 us2 hm1 hm2
            simp only [Option.some.injEq, Prod.mk.injEq] at h
            obtain ⟨rfl, rfl, rfl⟩ := h
            obtain ⟨n1, n2, n3⟩ := List.nodup_append.1 hnd
            obtain ⟨a1, a2, a3, a4⟩ := matchC_ok hrep hm1 (fun b hb => has b (List.mem_append_left _ hb)) n1
            obtain ⟨b0, b1, b2, b3, b4⟩ := ih hm2 (fun b hb => has b (List.mem_append_right _ hb)) n2
            refine ⟨by simp [b0], by simp [nvM, a1, b1], by simp [valsM, a2, b2], VOK.app hrep a3 b3 hnd, fun e2 nv ng hcc hv hg => ?_⟩
            rw [List.map_append] at hv
            simp only [valsM] at hg
            obtain ⟨a5, a6⟩ := a4 e2 nv ng (hcc b (by simp)) (sub_left hv) (sub_left hg)
            obtain ⟨b5, b6, b7⟩ := b4 e2 (nv + nvC p) (ng + ngC p) (fun b hb => hcc b (by simp [hb])) (fun t n ht => by
              have := sub_right hv t n ht
              rwa [List.length_map, a1, ← Nat.add_assoc] at this) (fun t v ht => by
              have := sub_right hg t v ht
              rwa [a2, ← Nat.add_assoc] at this)
            refine ⟨fun n b' hb' => ?_, a6.app b6, by simp [genM, b7]⟩
            cases n with
            | zero =>
              simp only [genM, List.getElem?_cons_zero, Option.some.injEq] at hb'
              subst hb'
              exact ⟨x, rfl, hc.1.2, hc.2, a5⟩
            | succ n =>
              obtain ⟨y, h1, h2⟩ := b5 n b' (by simpa [genM] using hb')
              exact ⟨y, by simpa using h1, h2⟩
          · cases h
        · cases h

theorem killR_get (us : List Nat) : ∀ (l : List Row) (k n : Nat), (killR us k l)[n]? = (l[n]?).map fun b => if us.contains (k + n) then { b with live := false } else b
  | [], k, n => by simp [killR]
  | b :: l, k, 0 => by simp [killR]
  | b :: l, k, n + 1 => by
    simp only [killR, List.getElem?_cons_succ]
    rw [killR_get us l (k + 1) n]
    simp only [Nat.add_assoc, Nat.add_comm 1 n]

theorem killR_length (us : List Nat) : ∀ (l : List Row) (k : Nat), (killR us k l).length = l.length
  | [], _ => rfl
  | _ :: l, k => by simp [killR, killR_length us l (k + 1)]

theorem killR_some {us : List Nat} {l : List Row} {n : Nat} {b : Row} (h : (killR us 0 l)[n]? = some b) (hl : b.live = true) : l[n]? = some b ∧ n ∉ us := by
  rw [killR_get, Option.map_eq_some_iff] at h
  obtain ⟨b', h1, h2⟩ := h
  simp only [Nat.zero_add] at h2
  split at h2
  · subst h2; cases hl
  · rename_i hn
    subst h2
    exact ⟨h1, by simpa using hn⟩

theorem sameR_spec {us : List Nat} : ∀ {l xs : List Row} {k : Nat}, sameR us k l xs = true → ∀ (n : Nat) (b : Row), l[n]? = some b → b.live = true → k + n ∉ us ∧ ∃ x : Row, xs[n]? = some x ∧ x.live = true ∧ b.ty = x.ty ∧ b.ks = x.ks ∧ b.c = x.c
  | [], _, _, _, n, b, hb, _ => by simp at hb
  | b0 :: l, [], k, h, _, _, _, _ => by simp [sameR] at h
  | b0 :: l, x :: xs, k, h, n, b, hb, hl => by
    simp only [sameR, Bool.and_eq_true] at h
    cases n with
    | zero =>
      simp only [List.getElem?_cons_zero, Option.some.injEq] at hb
      subst hb
      have h1 := h.1
      simp only [hl, Bool.not_true, Bool.false_or, Bool.and_eq_true, decide_eq_true_eq, Bool.not_eq_true'] at h1
      obtain ⟨⟨⟨⟨h2, h3⟩, h4⟩, h5⟩, h6⟩ := h1
      exact ⟨by simpa using h6, x, rfl, h2, h3, ksame_eq h4, E.same_eq _ _ h5⟩
    | succ n =>
      obtain ⟨h1, y, h2⟩ := sameR_spec h.2 n b (by simpa using hb) hl
      exact ⟨by rwa [show k + (n + 1) = k + 1 + n by omega], y, by simpa using h2⟩

theorem slV_of {v : Value} (h : ∃ a l c, v = .slice a l c) : slV v = v := by
  obtain ⟨a, l, c, rfl⟩ := h
  rfl

theorem E.den_R (R R' : Fo) (r : List Int) : ∀ a : E, a.den R r = a.den R' r := by
  intro a
  induction a <;> simp only [E.den] <;> simp_all

theorem valsC_slice (hrep : Rep ex W0 sx w) : ∀ {l : List Ck} {cs xs : List SC} {as : List B} {es : List E} {us : List Nat}, matchC sx l cs xs = some (as, es, us) → (∀ b ∈ as, b.den ex.R ex.r = true) → ∀ v ∈ valsC ex l xs, ∃ a l c, v = .slice a l c := by
  intro l
  induction l with
  | nil => intro cs xs as es us _ _ v hv; cases xs <;> simp [valsC] at hv
  | cons p l ih =>
    intro cs xs as es us h has v hv
    cases cs with
    | nil => cases p <;> simp [matchC] at h
    | cons c cs =>
      cases xs with
      | nil => cases p <;> simp [matchC] at h
      | cons x xs =>
        cases p with
        | keep =>
          simp only [matchC] at h
          split at h
          · exact ih h has v (by simpa [valsC] using hv)
          · cases h
        | num k =>
          simp only [matchC] at h
          split at h
          · rename_i xe as1 es1 us1 hf hm
            simp only [Option.some.injEq, Prod.mk.injEq] at h
            obtain ⟨rfl, rfl, rfl⟩ := h
            exact ih hm has v (by simpa [valsC] using hv)
          · cases h
        | row ty ks =>
          simp only [matchC] at h
          split at h
          · rename_i as1 xe u1 as2 es2 us2 hr hm
            simp only [Option.some.injEq, Prod.mk.injEq] at h
            obtain ⟨rfl, rfl, rfl⟩ := h
            simp only [valsC, List.mem_cons] at hv
            rcases hv with rfl | hv
            · exact (rowM_ok hrep hr (fun b hb => has b (List.mem_append_left _ hb))).2.2
            · exact ih hm (fun b hb => has b (List.mem_append_right _ hb)) v hv
          · cases h
        | arr ty ks =>
          simp only [matchC] at h
          split at h
          · rename_i xe u1 as2 es2 us2 hr hm
            simp only [Option.some.injEq, Prod.mk.injEq] at h
            obtain ⟨rfl, rfl, rfl⟩ := h
            simp only [valsC, List.mem_cons] at hv
            rcases hv with rfl | hv
            · rw [arrV_of hr]
              exact G.val_slice ex (.o u1)
            · exact ih hm has v hv
          · cases h

theorem valsF_slice (hrep : Rep ex W0 sx w) : ∀ {l : List Sk} {vs xs : List SV} {as : List B} {es : List E} {us : List Nat}, matchF sx l vs xs = some (as, es, us) → (∀ b ∈ as, b.den ex.R ex.r = true) → ∀ v ∈ valsF ex l xs, ∃ a l c, v = .slice a l c := by
  intro l
  induction l with
  | nil => intro cs xs as es us _ _ v hv; cases xs <;> simp [valsF] at hv
  | cons p l ih =>
    intro vs xs as es us h has v hv
    cases vs with
    | nil => cases p <;> simp [matchF] at h
    | cons c cs =>
      cases xs with
      | nil => cases p <;> simp [matchF] at h
      | cons x xs =>
        cases p with
        | keep =>
          simp only [matchF] at h
          split at h
          · exact ih h has v (by simpa [valsF] using hv)
          · cases h
        | un =>
          simp only [matchF] at h
          exact ih h has v (by simpa [valsF] using hv)
        | cells p =>
          simp only [matchF] at h
          split at h
          · rename_i as1 es1 us1 as2 es2 us2 hm1 hm2
            simp only [Option.some.injEq, Prod.mk.injEq] at h
            obtain ⟨rfl, rfl, rfl⟩ := h
            simp only [valsF, List.mem_append] at hv
            rcases hv with hv | hv
            · unfold matchV at hm1
              split at hm1
              · exact valsC_slice hrep hm1 (fun b hb => has b (List.mem_append_left _ hb)) v hv
              · exact valsC_slice hrep hm1 (fun b hb => has b (List.mem_append_left _ hb)) v hv
              · cases hm1
            · exact ih hm2 (fun b hb => has b (List.mem_append_right _ hb)) v hv
          · cases h

theorem valsM_slice (hrep : Rep ex W0 sx w) : ∀ {l : List (List Ck)} {bs xs : List Blk} {as : List B} {es : List E} {us : List Nat}, matchM sx l bs xs = some (as, es, us) → (∀ b ∈ as, b.den ex.R ex.r = true) → ∀ v ∈ valsM ex l xs, ∃ a l c, v = .slice a l c := by
  intro l
  induction l with
  | nil => intro cs xs as es us _ _ v hv; cases xs <;> simp [valsM] at hv
  | cons p l ih =>
    intro vs xs as es us h has v hv
    cases vs with
    | nil => simp [matchM] at h
    | cons c cs =>
      cases xs with
      | nil => simp [matchM] at h
      | cons x xs =>
        simp only [matchM] at h
        split at h
        · split at h
          · rename_i as1 es1 us1 as2 es2 us2 hm1 hm2
            simp only [Option.some.injEq, Prod.mk.injEq] at h
            obtain ⟨rfl, rfl, rfl⟩ := h
            simp only [valsM, List.mem_append] at hv
            rcases hv with hv | hv
            · exact valsC_slice hrep hm1 (fun b hb => has b (List.mem_append_left _ hb)) v hv
            · exact ih hm2 (fun b hb => has b (List.mem_append_right _ hb)) v hv
          · cases h
        · cases h

theorem match_rel {pl : Plan} {s : St} {e : Env} {w0 : World} {a : Act} {us0 : List Nat} {as1 as2 : List B} {es1 es2 : List E} {us1 us2 : List Nat} (h0 : Rep e W0 s w0) (hsc : s.sc = true) (hle : Env.le e ex) (hx : Rel ex W0 sx a w)
    (hfl : sx.fl = s.fl) (hflr : sx.flr = s.flr) (hm1 : matchF sx pl.fr s.fr sx.fr = some (as1, es1, us1)) (hm2 : matchM sx pl.mem s.mem sx.mem = some (as2, es2, us2)) (hnd : nodupB (us1 ++ us2) = true) (has : ∀ b ∈ as1 ++ as2, b.den ex.R ex.r = true)
    (hrows : ∀ (n : Nat) (b : Row), (killR us0 0 s.rows)[n]? = some b → b.live = true → n ∉ us1 ++ us2 ∧ ∃ x : Row, sx.rows[n]? = some x ∧ x.live = true ∧ b.ty = x.ty ∧ b.ks = x.ks ∧ b.c = x.c) :
    ∃ e2, Env.le e e2 ∧ e2.r = e.r ++ (es1 ++ es2).map (E.den ex.R ex.r) ∧ e2.R = e.R ∧ Rel e2 W0 (genS pl s us0) a w := by
  have hN := nodupB_spec hnd
  obtain ⟨n1, n2, n3⟩ := List.nodup_append.1 hN
  obtain ⟨a1, a2, a2u, a3, a4⟩ := matchF_ok hx.rep hm1 (fun b hb => has b (List.mem_append_left _ hb)) n1
  obtain ⟨b0, b1, b2, b3, b4⟩ := matchM_ok hx.rep hm2 (fun b hb => has b (List.mem_append_right _ hb)) n2
  have hV := VOK.app hx.rep a3 b3 hN
  generalize hvals : valsF ex pl.fr sx.fr ++ valsM ex pl.mem sx.mem = vals at hV
  have hle2 : Env.le e { r := e.r ++ (es1 ++ es2).map (E.den ex.R ex.r), β := e.β, σ := e.σ ++ vals, ω := e.ω ++ unsF ex pl.fr sx.fr, R := e.R } := ⟨(es1 ++ es2).map (E.den ex.R ex.r), [], vals, unsF ex pl.fr sx.fr, by simp⟩
  generalize he2 : ({ r := e.r ++ (es1 ++ es2).map (E.den ex.R ex.r), β := e.β, σ := e.σ ++ vals, ω := e.ω ++ unsF ex pl.fr sx.fr, R := e.R } : Env) = e2 at hle2
  have er : e2.r = e.r ++ (es1 ++ es2).map (E.den ex.R ex.r) := by rw [← he2]
  have eβ : e2.β = e.β := by rw [← he2]
  have eσ : e2.σ = e.σ ++ vals := by rw [← he2]
  have eω : e2.ω = e.ω ++ unsF ex pl.fr sx.fr := by rw [← he2]
  have eR : e2.R = e.R := by rw [← he2]
  have hsc' := hsc
  simp only [St.sc, Bool.and_eq_true] at hsc'
  obtain ⟨⟨sf, sm⟩, sr, sh⟩ := hsc'
  rw [← h0.nv, ← h0.nb, ← h0.ng] at sf sm
  rw [← h0.nx] at sf
  rw [← h0.nv] at sr sh
  -- what is scoped says the same
  have cden : ∀ c : SC, c.sc e.r.length e.β.length e.σ.length = true → c.den e2 = c.den ex := fun c hc => (SC.den_le hle2 c hc).trans (SC.den_le hle c hc).symm
  have vden : ∀ v ∈ s.fr, v.den e2 = v.den ex ∧ ∀ y, v = .w y → ∀ c ∈ y.cells, c.den e2 = c.den ex := fun v hv => by
    have h1 := List.all_eq_true.1 sf v hv
    refine ⟨(SV.den_le hle2 v h1).trans (SV.den_le hle v h1).symm, fun y hy c hc => cden c ?_⟩
    subst hy
    cases y with
    | o c' => simp only [SW.cells, List.mem_singleton] at hc; subst hc; exact h1
    | a cs => exact List.all_eq_true.1 h1 c hc
  have hv : ∀ (t : Nat) (n : Int), ((es1 ++ es2).map (E.den ex.R ex.r))[t]? = some n → e2.r.getD (s.nv + t) 0 = n := fun t n ht => by
    rw [er, ← h0.nv]
    simp only [List.getD]
    rw [List.getElem?_append_right (by omega), Nat.add_sub_cancel_left, ht]
    rfl
  have hsl : ∀ v ∈ vals, ∃ a l c, v = .slice a l c := by
    intro v hv'
    obtain ⟨j, hj⟩ := List.getElem?_of_mem hv'
    rw [← hvals] at hj
    have key : ∀ {rows : List Row} {vs : List Value} {e3 : Env}, RowsOK w e3 rows vs → ∀ {j : Nat} {v : Value}, vs[j]? = some v → ∃ a l c, v = .slice a l c := by
      intro rows vs e3 hR j v hj
      have hlt : j < rows.length := by rw [hR.1]; exact (List.getElem?_eq_some_iff.1 hj).1
      exact (hR.2 j rows[j] v (List.getElem?_eq_getElem hlt) hj).2.1
    -- slices, whatever the numbers: by an environment made for it
    rcases Nat.lt_or_ge j (valsF ex pl.fr sx.fr).length with hlt | hge
    · rw [List.getElem?_append_left hlt] at hj
      exact valsF_slice hx.rep hm1 (fun b hb => has b (List.mem_append_left _ hb)) v (List.mem_of_getElem? hj)
    · rw [List.getElem?_append_right hge] at hj
      exact valsM_slice hx.rep hm2 (fun b hb => has b (List.mem_append_right _ hb)) v (List.mem_of_getElem? hj)
  have hg : ∀ (t : Nat) (v : Value), vals[t]? = some v → (G.o (s.rows.length + t)).val e2 = v := fun t v ht => by
    simp only [G.val]
    rw [eσ, ← h0.ng]
    have : (e.σ ++ vals).getD (e.σ.length + t) undef = v := by
      simp only [List.getD]
      rw [List.getElem?_append_right (by omega), Nat.add_sub_cancel_left, ht]
      rfl
    rw [this]
    exact slV_of (hsl v (List.mem_of_getElem? ht))
  have hu : ∀ (t : Nat) (v : Value), (unsF ex pl.fr sx.fr)[t]? = some v → e2.ω.getD (s.nx + t) undef = v := fun t v ht => by
    rw [eω, ← h0.nx]
    simp only [List.getD]
    rw [List.getElem?_append_right (by omega), Nat.add_sub_cancel_left, ht]
    rfl
  rw [List.map_append] at hv
  rw [← hvals] at hg
  obtain ⟨a5, a6⟩ := a4 e2 s.nv s.rows.length s.nx vden (sub_left hv) (sub_left hg) hu
  obtain ⟨b5, b6, b7⟩ := b4 e2 (s.nv + nvS pl.fr) (s.rows.length + ngS pl.fr) (fun b hb c hc => cden c (List.all_eq_true.1 (List.all_eq_true.1 sm b hb) c hc)) (fun t n ht => by
    have := sub_right hv t n ht
    rwa [List.length_map, a1, ← Nat.add_assoc] at this) (fun t v ht => by
    have := sub_right hg t v ht
    rwa [a2, ← Nat.add_assoc] at this)
  have hR := a6.app b6
  rw [hvals] at hR hg
  -- old rows
  have hold : ∀ (n : Nat) (b : Row), (killR us0 0 s.rows)[n]? = some b → b.live = true → n < s.rows.length ∧ n ∉ us1 ++ us2 ∧ (G.o n).val e2 = (G.o n).val ex ∧ ∃ x : Row, sx.rows[n]? = some x ∧ x.live = true ∧ RowOK w b.ty b.ks ((G.o n).val e2) (b.c.den e2.R e2.r) := fun n b hb hl => by
    obtain ⟨h1, x, h2, h3, h4, h5, h6⟩ := hrows n b hb hl
    obtain ⟨hb', _⟩ := killR_some hb hl
    have hlt := (List.getElem?_eq_some_iff.1 hb').1
    have hgs : (G.o n).sc e.r.length e.σ.length = true := by simp only [G.sc, decide_eq_true_eq]; rw [h0.ng]; exact hlt
    have hval : (G.o n).val e2 = (G.o n).val ex := (G.val_le hle2 _ hgs).trans (G.val_le hle _ hgs).symm
    refine ⟨hlt, h1, hval, x, h2, h3, ?_⟩
    rw [hval, h4, h5]
    have hcd : b.c.den e2.R e2.r = x.c.den ex.R ex.r := by
      rw [← h6]
      have hbs := List.all_eq_true.1 sr b (List.mem_of_getElem? hb')
      have hle' := hle
      obtain ⟨p, _, _, _, q1, _, _, _, q5⟩ := hle'
      rw [er, q1, E.den_app _ _ _ _ hbs, E.den_app _ _ _ _ hbs]
      exact E.den_R _ _ _ _
    rw [hcd]
    exact hx.rep.row n x h2 h3
  have hcases : ∀ (n : Nat) (b : Row), (genS pl s us0).rows[n]? = some b → b.live = true → (n < s.rows.length ∧ (killR us0 0 s.rows)[n]? = some b) ∨ ∃ j v, n = s.rows.length + j ∧ (rowsF pl.fr s.nv ++ rowsM pl.mem (s.nv + nvS pl.fr))[j]? = some b ∧ vals[j]? = some v ∧ (G.o n).val e2 = v := by
    intro n b hb hl
    have hb' : (killR us0 0 s.rows ++ (rowsF pl.fr s.nv ++ rowsM pl.mem (s.nv + nvS pl.fr)))[n]? = some b := hb
    rcases Nat.lt_or_ge n s.rows.length with hn | hn
    · rw [List.getElem?_append_left (by rw [killR_length]; exact hn)] at hb'
      exact .inl ⟨hn, hb'⟩
    · rw [List.getElem?_append_right (by rw [killR_length]; exact hn), killR_length] at hb'
      have hj := (List.getElem?_eq_some_iff.1 hb').1
      have hv' : vals[n - s.rows.length]? = some (vals[n - s.rows.length]'(by rw [← hR.1]; exact hj)) := List.getElem?_eq_getElem (by rw [← hR.1]; exact hj)
      refine .inr ⟨n - s.rows.length, _, by omega, hb', hv', ?_⟩
      have := hg _ _ hv'
      rwa [show s.rows.length + (n - s.rows.length) = n by omega] at this
  have hβ : ∀ n, n < s.mem.length → e.β.getD n 0 = ex.β.getD n 0 := fun n hn => by
    obtain ⟨_, p, _, _, _, q2, _⟩ := hle
    rw [q2, getD_app_lt _ _ _ _ (by rw [h0.nb]; exact hn)]
  have hmem : ∀ (n : Nat) (b : Blk), (genS pl s us0).mem[n]? = some b → n < s.mem.length ∧ ∃ x : Blk, sx.mem[n]? = some x ∧ x.live = true ∧ b.ty = x.ty ∧ b.cells.map (SC.den e2) = x.cells.map (SC.den ex) := fun n b hb => by
    have hb' : (genM pl.mem s.mem (s.nv + nvS pl.fr) (s.rows.length + ngS pl.fr))[n]? = some b := hb
    refine ⟨by rw [← b7]; exact (List.getElem?_eq_some_iff.1 hb').1, b5 n b hb'⟩
  have hnewblk : ∀ v ∈ vals, ∀ k, rowBlk v = some k → ∃ n b, n ∈ us1 ++ us2 ∧ sx.rows[n]? = some b ∧ b.live = true ∧ sx.flr ≤ n ∧ rowBlk ((G.o n).val ex) = some k := hV.2
  refine ⟨e2, hle2, er, eR, ⟨⟨hx.rep.below, ?_, ?_, ?_, ?_, ?_, ?_, ?_, ?_, ?_, ?_, ?_, h0.gl, ?_⟩, ?_, hx.defs⟩⟩
  · rw [eβ, h0.nb]; exact b7.symm
  · show e2.σ.length = (killR us0 0 s.rows ++ (rowsF pl.fr s.nv ++ rowsM pl.mem (s.nv + nvS pl.fr))).length
    rw [eσ, List.length_append, List.length_append, killR_length, h0.ng, hR.1]
  · show e2.r.length = s.nv + (nvS pl.fr + nvM pl.mem)
    rw [er, List.length_append, List.length_map, List.length_append, a1, b1, h0.nv]
  · show e2.ω.length = s.nx + nxS pl.fr
    rw [eω, List.length_append, a2u, h0.nx]
  · intro n b hb hl
    obtain ⟨hn, x, h1, h2, h3, h4⟩ := hmem n b hb
    rw [eβ, hβ n hn, h4, h3]
    exact hx.rep.blk n x h1 h2
  · intro n b hb hl hf
    obtain ⟨hn, x, h1, h2, h3, h4⟩ := hmem n b hb
    rw [eβ, hβ n hn]
    exact hx.rep.own n x h1 h2 (by rw [hfl]; exact hf)
  · intro n m b c hb hc hlb hlc heq
    obtain ⟨hn, x, h1, h2, _⟩ := hmem n b hb
    obtain ⟨hm', y, h1', h2', _⟩ := hmem m c hc
    rw [eβ, hβ n hn, hβ m hm'] at heq
    exact hx.rep.sep n m x y h1 h1' h2 h2' heq
  · intro n b hb hl
    rcases hcases n b hb hl with ⟨hn, hb'⟩ | ⟨j, v, rfl, hj, hv', hval⟩
    · obtain ⟨_, _, _, _, _, _, h⟩ := hold n b hb' hl; exact h
    · rw [hval]; exact (hR.2 j b v hj hv').2.2
  · intro n b hb hl hf k hk
    rcases hcases n b hb hl with ⟨hn, hb'⟩ | ⟨j, v, rfl, hj, hv', hval⟩
    · obtain ⟨_, _, hval, x, h1, h2, _⟩ := hold n b hb' hl
      rw [hval] at hk
      exact hx.rep.rown n x h1 h2 (by rw [hflr]; exact hf) k hk
    · rw [hval] at hk
      obtain ⟨m, bb, _, h2, h3, h4, h5⟩ := hnewblk v (List.mem_of_getElem? hv') k hk
      exact hx.rep.rown m bb h2 h3 h4 k h5
  · intro n m b c k hb hc hlb hlc hk hk'
    rcases hcases n b hb hlb with ⟨hn, hb'⟩ | ⟨j, v, rfl, hj, hv', hval⟩ <;> rcases hcases m c hc hlc with ⟨hm', hc'⟩ | ⟨j', v', rfl, hj', hv'', hval'⟩
    · obtain ⟨_, _, hval, x, h1, h2, _⟩ := hold n b hb' hlb
      obtain ⟨_, _, hval', y, h1', h2', _⟩ := hold m c hc' hlc
      rw [hval] at hk
      rw [hval'] at hk'
      exact hx.rep.rsep n m x y k h1 h1' h2 h2' hk hk'
    · obtain ⟨_, hnu, hval, x, h1, h2, _⟩ := hold n b hb' hlb
      rw [hval] at hk
      rw [hval'] at hk'
      obtain ⟨q, bb, h3, h4, h5, _, h7⟩ := hnewblk v' (List.mem_of_getElem? hv'') k hk'
      have := hx.rep.rsep n q x bb k h1 h4 h2 h5 hk h7
      subst this
      exact absurd h3 hnu
    · obtain ⟨_, hnu, hval'', x, h1, h2, _⟩ := hold m c hc' hlc
      rw [hval] at hk
      rw [hval''] at hk'
      obtain ⟨q, bb, h3, h4, h5, _, h7⟩ := hnewblk v (List.mem_of_getElem? hv') k hk
      have := hx.rep.rsep m q x bb k h1 h4 h2 h5 hk' h7
      subst this
      exact absurd h3 hnu
    · rw [hval] at hk
      rw [hval'] at hk'
      rw [apartV_spec hV.1 j j' v v' k hv' hv'' hk hk']
  · intro n m b c hb hc hlb hlc
    obtain ⟨hn, x, h1, h2, _⟩ := hmem n b hb
    rw [eβ, hβ n hn]
    rcases hcases m c hc hlc with ⟨hm', hc'⟩ | ⟨j', v', rfl, hj', hv'', hval'⟩
    · obtain ⟨_, _, hval, y, h1', h2', _⟩ := hold m c hc' hlc
      rw [hval]
      exact hx.rep.brs n m x y h1 h1' h2 h2'
    · rw [hval']
      intro hk
      obtain ⟨q, bb, _, h4, h5, _, h7⟩ := hnewblk v' (List.mem_of_getElem? hv'') _ hk
      exact hx.rep.brs n q x bb h1 h4 h2 h5 h7
  · intro i ks c hi
    have hi' : s.hs[i]? = some (ks, c) := hi
    have := h0.arg i ks c hi'
    have hcs := List.all_eq_true.1 sh (ks, c) (List.mem_of_getElem? hi')
    rw [er, eR, E.den_app _ _ _ _ hcs]
    rw [show (G.a i).val e2 = (G.a i).val e by simp only [G.val, eR]]
    exact this
  · show a.tmps = ((genF pl.fr s.fr s.nv s.rows.length s.nx).map (SV.den e2)).toArray
    rw [a5]
    exact hx.tmps
end
end Go.Sx
