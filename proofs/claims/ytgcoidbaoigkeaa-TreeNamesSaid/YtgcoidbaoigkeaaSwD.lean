/-
  Symbolic execution: what the pieces denote.
-/
import Derived.Test.YtgcoidbaoigkeaaSwB
namespace Go.Sx
open Go.RowKit

/-! ### lists as numbers -/
theorem zig_inj : ∀ {a b : Int}, zig a = zig b → a = b
  | .ofNat a, .ofNat b, h => by simp only [zig] at h; simp; omega
  | .negSucc a, .negSucc b, h => by simp only [zig] at h; simp; omega
  | .ofNat a, .negSucc b, h => by simp only [zig] at h; omega
  | .negSucc a, .ofNat b, h => by simp only [zig] at h; omega

theorem pr_inj : ∀ {a a' b b' : Nat}, pr a b = pr a' b' → a = a' ∧ b = b'
  | 0, 0, b, b', h => by simp only [pr, Nat.pow_zero, Nat.one_mul] at h; omega
  | 0, a + 1, b, b', h => by
    simp only [pr, Nat.pow_zero, Nat.one_mul, Nat.pow_succ] at h
    rw [Nat.mul_comm (2 ^ a) 2, Nat.mul_assoc] at h
    omega
  | a + 1, 0, b, b', h => by
    simp only [pr, Nat.pow_zero, Nat.one_mul, Nat.pow_succ] at h
    rw [Nat.mul_comm (2 ^ a) 2, Nat.mul_assoc] at h
    omega
  | a + 1, a' + 1, b, b', h => by
    have : pr a b = pr a' b' := by
      simp only [pr, Nat.pow_succ] at h ⊢
      rw [Nat.mul_comm (2 ^ a) 2, Nat.mul_comm (2 ^ a') 2, Nat.mul_assoc, Nat.mul_assoc] at h
      omega
    obtain ⟨h1, h2⟩ := pr_inj this
    exact ⟨by omega, h2⟩

theorem pr_pos (a b : Nat) : pr a b ≠ 0 := by
  unfold pr
  have : 0 < 2 ^ a := Nat.pow_pos (by omega)
  exact Nat.ne_of_gt (Nat.mul_pos this (by omega))

theorem codN_inj : ∀ {l l' : List Int}, codN l = codN l' → l = l'
  | [], [], _ => rfl
  | [], x :: l, h => absurd h.symm (pr_pos _ _)
  | x :: l, [], h => absurd h (pr_pos _ _)
  | x :: l, y :: l', h => by
    obtain ⟨h1, h2⟩ := pr_inj h
    rw [zig_inj h1, codN_inj h2]

theorem cod_inj {l l' : List Int} (h : cod l = cod l') : l = l' := codN_inj (Int.ofNat.inj h)

@[simp] theorem dec_cod (l : List Int) : dec (cod l) = l := by
  have hex : ∃ m, cod m = cod l := ⟨l, rfl⟩
  unfold dec
  rw [dif_pos hex]
  exact cod_inj (Classical.choose_spec hex)

theorem wrap_small (n : Int) (h : small n = true) : IntKind.i64.wrap n = n := by
  simp only [small, Bool.and_eq_true, decide_eq_true_eq] at h
  rw [IntKind.wrap_i64]
  omega

section
variable (R : Fo) (r : List Int)

theorem fold_den (k : IntKind) (n : Int) (e : E) (h : e.den R r = k.wrap n) : (fold k n e).den R r = k.wrap n := by
  unfold fold
  split
  · rename_i hc
    simp only [Bool.and_eq_true, beq_iff_eq] at hc
    obtain ⟨rfl, hs⟩ := hc
    simp [E.den, wrap_small n hs]
  · exact h

theorem mkAdd_den (k : IntKind) (a b : E) : (mkAdd k a b).den R r = k.wrap (a.den R r + b.den R r) := by
  unfold mkAdd; split
  · exact fold_den R r _ _ _ rfl
  · rfl
theorem mkSub_den (k : IntKind) (a b : E) : (mkSub k a b).den R r = k.wrap (a.den R r - b.den R r) := by
  unfold mkSub; split
  · exact fold_den R r _ _ _ rfl
  · rfl
theorem mkMul_den (k : IntKind) (a b : E) : (mkMul k a b).den R r = k.wrap (a.den R r * b.den R r) := by
  unfold mkMul; split
  · exact fold_den R r _ _ _ rfl
  · rfl
theorem mkQuo_den (k : IntKind) (a b : E) : (mkQuo k a b).den R r = k.wrap ((a.den R r).tdiv (b.den R r)) := by
  unfold mkQuo; split
  · exact fold_den R r _ _ _ rfl
  · rfl
theorem mkRem_den (a b : E) : (mkRem a b).den R r = (a.den R r).tmod (b.den R r) := by
  unfold mkRem; split <;> rfl
theorem mkMn_den (a b : E) : (mkMn a b).den R r = if b.den R r < a.den R r then b.den R r else a.den R r := by
  unfold mkMn; split <;> rfl
theorem mkMx_den (a b : E) : (mkMx a b).den R r = if b.den R r > a.den R r then b.den R r else a.den R r := by
  unfold mkMx; split <;> rfl
theorem mkCv_den (k : IntKind) (a : E) : (mkCv k a).den R r = k.wrap (a.den R r) := by
  unfold mkCv; split
  · exact fold_den R r _ _ _ rfl
  · rfl
theorem mkLt_den (a b : E) : (mkLt a b).den R r = decide (a.den R r < b.den R r) := by
  unfold mkLt; split <;> rfl
theorem mkLe_den (a b : E) : (mkLe a b).den R r = decide (a.den R r ≤ b.den R r) := by
  unfold mkLe; split <;> rfl
theorem mkEq_den (a b : E) : (mkEq a b).den R r = (a.den R r == b.den R r) := by
  unfold mkEq; split <;> rfl
theorem mkNot_den (a : B) : (mkNot a).den R r = !(a.den R r) := by
  unfold mkNot; split <;> simp [B.den]
theorem mkAnd_den (a b : B) : (mkAnd a b).den R r = (a.den R r && b.den R r) := by
  unfold mkAnd; split <;> simp [B.den]
theorem mkBeq_den (a b : B) : (mkBeq a b).den R r = (a.den R r == b.den R r) := by
  unfold mkBeq; split <;> simp [B.den, mkNot_den]

theorem listE_den : ∀ l : List E, (listE l).den R r = cod (l.map (E.den R r))
  | [] => rfl
  | x :: l => by simp only [listE, E.den, L2.den, listE_den l, dec_cod, List.map_cons]

theorem elemsE_den : ∀ {a : E} {l : List E}, elemsE a = some l → dec (a.den R r) = l.map (E.den R r) := by
  intro a
  induction a with
  | nl => intro l h; simp only [elemsE, Option.some.injEq] at h; subst h; simp [E.den]
  | l2 o x y ihx ihy =>
    intro l h
    cases o <;> simp only [elemsE] at h <;> try (cases h; done)
    · simp only [Option.map_eq_some_iff] at h
      obtain ⟨m, hm, rfl⟩ := h
      simp [E.den, L2.den, ihy hm]
    · simp only [Option.map_eq_some_iff] at h
      obtain ⟨m, hm, rfl⟩ := h
      simp [E.den, L2.den, ihx hm]
  | _ => intro l h; simp [elemsE] at h

theorem mkLn_den (a : E) : (mkLn a).den R r = ((dec (a.den R r)).length : Int) := by
  unfold mkLn
  split
  · rename_i l h
    simp [E.den, elemsE_den R r h]
  · rfl

theorem mkAt_den (a i : E) : (mkAt a i).den R r = (dec (a.den R r)).getD (i.den R r).toNat 0 := by
  unfold mkAt
  split
  · rename_i l n h
    split
    · rename_i hn
      rw [elemsE_den R r h]
      simp only [E.den]
      by_cases hl : n.toNat < l.length
      · simp [List.getD, hl]
      · simp [List.getD, List.getElem?_eq_none (Nat.le_of_not_lt hl), E.den, L2.den, elemsE_den R r h]
    · rfl
  · rfl

theorem mkSet_den (a i x : E) : (mkSet a i x).den R r = cod ((dec (a.den R r)).set (i.den R r).toNat (x.den R r)) := by
  unfold mkSet
  split
  · rename_i l n h
    split
    · rw [listE_den, elemsE_den R r h, List.map_set]; rfl
    · rfl
  · rfl

theorem mkTake_den (a n : E) : (mkTake a n).den R r = cod ((dec (a.den R r)).take (n.den R r).toNat) := by
  unfold mkTake
  split
  · rename_i l m h
    rw [listE_den, elemsE_den R r h, List.map_take]; rfl
  · rfl

theorem mkDrop_dec (a n : E) : dec ((mkDrop a n).den R r) = (dec (a.den R r)).drop (n.den R r).toNat := by
  unfold mkDrop
  split
  · rename_i l m h
    rw [listE_den, elemsE_den R r h, List.map_drop, dec_cod]; rfl
  · simp [E.den]
  · simp [E.den, L2.den]

theorem foldl_snoc (l : List E) : ∀ a : E, dec ((l.foldl (fun a x => .l2 .snoc a x) a).den R r) = dec (a.den R r) ++ l.map (E.den R r) := by
  induction l with
  | nil => intro a; simp
  | cons x l ih => intro a; rw [List.foldl_cons, ih]; simp [E.den, L2.den]

theorem mkApp_dec (a b : E) : dec ((mkApp a b).den R r) = dec (a.den R r) ++ dec (b.den R r) := by
  unfold mkApp
  split
  · rename_i l h
    rw [foldl_snoc, elemsE_den R r h]
  · split
    · simp [E.den]
    · simp [E.den, L2.den]

theorem mkRep_den (n x : E) : (mkRep n x).den R r = cod (List.replicate (n.den R r).toNat (x.den R r)) := by
  unfold mkRep
  split
  · split
    · rw [listE_den]; simp [E.den]
    · rfl
  · rfl

theorem comp_den (size : Nat) (e : E) (j : Nat) : (comp size e j).den R r = if size = 1 then e.den R r else (dec (e.den R r)).getD j 0 := by
  unfold comp
  split
  · rfl
  · rw [mkAt_den]; simp [E.den]

theorem elemE_elt {ks : List K} {es : List E} (h : es.length = ks.length) : elt ks ((elemE es).den R r) = es.map (E.den R r) := by
  unfold elt
  match es, h with
  | [], h => rw [if_neg (by rw [← h]; simp)]; simp [elemE, listE, E.den]
  | [x], h => rw [if_pos (by rw [← h]; rfl)]; rfl
  | x :: y :: l, h => rw [if_neg (by rw [← h]; simp)]; simp only [elemE]; rw [listE_den, dec_cod]

theorem wrap_len {n : Int} (h0 : 0 ≤ n) (h1 : n ≤ 9223372036854775807) : IntKind.i64.wrap n = n := by
  rw [IntKind.wrap_i64]
  omega

theorem plusE_den {a b : E} (h0 : 0 ≤ a.den R r + b.den R r) (h1 : a.den R r + b.den R r ≤ 9223372036854775807) : (plusE a b).den R r = a.den R r + b.den R r := by
  unfold plusE
  split
  · simp [E.den]
  · simp [E.den]
  · rw [mkAdd_den, wrap_len h0 h1]

theorem minusE_den {a b : E} (h0 : 0 ≤ a.den R r - b.den R r) (h1 : a.den R r - b.den R r ≤ 9223372036854775807) : (minusE a b).den R r = a.den R r - b.den R r := by
  unfold minusE
  split
  · simp [E.den]
  · rw [mkSub_den, wrap_len h0 h1]

theorem E.den_app (x : List Int) : ∀ a : E, a.sc r.length = true → a.den R (r ++ x) = a.den R r := by
  intro a
  induction a <;> simp only [E.sc, E.den, Bool.and_eq_true, decide_eq_true_eq] <;> intro h
  case v i => simp [List.getElem?_append_left h]
  all_goals simp_all

theorem B.den_app (x : List Int) : ∀ a : B, a.sc r.length = true → a.den R (r ++ x) = a.den R r := by
  intro a
  induction a <;> simp only [B.sc, B.den, Bool.and_eq_true] <;> intro h
  all_goals first
    | rfl
    | (rw [E.den_app R r x _ h.1, E.den_app R r x _ h.2])
    | (rw [E.den_app R r x _ h])
    | simp_all
end

def Env.le (e e' : Env) : Prop := ∃ a b c d, e'.r = e.r ++ a ∧ e'.β = e.β ++ b ∧ e'.σ = e.σ ++ c ∧ e'.ω = e.ω ++ d ∧ e'.R = e.R

theorem Env.le_refl (e : Env) : e.le e := ⟨[], [], [], [], by simp⟩
theorem Env.le_trans {a b c : Env} (h : a.le b) (h' : b.le c) : a.le c := by
  obtain ⟨x1, x2, x3, x4, p1, p2, p3, p4, p5⟩ := h
  obtain ⟨y1, y2, y3, y4, q1, q2, q3, q4, q5⟩ := h'
  exact ⟨x1 ++ y1, x2 ++ y2, x3 ++ y3, x4 ++ y4, by simp [p1, p2, p3, p4, p5, q1, q2, q3, q4, q5]⟩

structure Env.like (nb ng : Nat) (e e' : Env) : Prop where
  r : e'.r = e.r
  R : e'.R = e.R
  ω : e'.ω = e.ω
  β : ∀ n, n < nb → e'.β.getD n 0 = e.β.getD n 0
  σ : ∀ n, n < ng → e'.σ.getD n undef = e.σ.getD n undef

theorem G.val_like {nb ng : Nat} {e e' : Env} (h : Env.like nb ng e e') : ∀ g : G, g.scp ng = true → g.val e' = g.val e := by
  intro g hg
  cases g with
  | a i => simp only [G.val, h.R]
  | o n => simp only [G.scp, decide_eq_true_eq] at hg; simp only [G.val]; rw [h.σ n hg]
  | e g ix j x => simp only [G.val, h.R, h.r]

theorem SC.den_like {nb ng : Nat} {e e' : Env} (h : Env.like nb ng e e') : ∀ c : SC, c.scp nb ng = true → c.den e' = c.den e := by
  intro c hc
  cases c <;> simp only [SC.scp, decide_eq_true_eq] at hc <;> simp only [SC.den, h.r, h.R, ownAddr]
  case p n off => rw [h.β n hc]
  case s n off l c => rw [h.β n hc]
  case go g => rw [G.val_like h g hc]
  case gv g size lo hi => rw [G.val_like h g hc]
  case gp g size ix j => rw [G.val_like h g hc]
  case gz g => rw [G.val_like h g hc]
  case f fn caps =>
    congr 2
    apply List.map_congr_left
    intro x hx
    rw [h.β _ (by simpa using List.all_eq_true.1 hc x hx)]

theorem map_den_like {nb ng : Nat} {e e' : Env} (h : Env.like nb ng e e') {cs : List SC} (hc : cs.all (SC.scp nb ng) = true) : cs.map (SC.den e') = cs.map (SC.den e) :=
  List.map_congr_left fun x hx => SC.den_like h x (List.all_eq_true.1 hc x hx)

theorem SW.den_like {nb ng : Nat} {e e' : Env} (h : Env.like nb ng e e') : ∀ c : SW, c.scp nb ng = true → c.den e' = c.den e := by
  intro c hc
  cases c with
  | o c => exact SC.den_like h c hc
  | a cs => simp only [SW.den]; rw [map_den_like h hc]

theorem SV.den_like {nb ng : Nat} {e e' : Env} (h : Env.like nb ng e e') : ∀ c : SV, c.scp nb ng = true → c.den e' = c.den e := by
  intro c hc
  cases c with
  | w x => exact SW.den_like h x hc
  | t xs => simp only [SV.den]; rw [List.map_congr_left fun x hx => SW.den_like h x (List.all_eq_true.1 hc x hx)]
  | un i => simp only [SV.den, h.ω]

/-! ### later environments: whole scoping -/
theorem getD_app_lt {α : Type} (l x : List α) (n : Nat) (d : α) (h : n < l.length) : (l ++ x).getD n d = l.getD n d := by
  simp [List.getD, List.getElem?_append_left h]

theorem G.val_le {e e' : Env} (h : e.le e') : ∀ g : G, g.sc e.r.length e.σ.length = true → g.val e' = g.val e := by
  obtain ⟨a, b, s, d, h1, h2, h3, h4, h5⟩ := h
  intro g hg
  cases g with
  | a i => simp only [G.val, h5]
  | o n => simp only [G.sc, decide_eq_true_eq] at hg; simp only [G.val, h3]; rw [getD_app_lt _ _ _ _ hg]
  | e g ix j x => simp only [G.sc] at hg; simp only [G.val, h1, h5]; rw [E.den_app _ _ _ _ hg]

theorem SC.den_le {e e' : Env} (h : e.le e') : ∀ c : SC, c.sc e.r.length e.β.length e.σ.length = true → c.den e' = c.den e := by
  have hg := G.val_le h
  obtain ⟨a, b, s, d, h1, h2, h3, h4, h5⟩ := h
  intro c hc
  cases c <;> simp only [SC.sc, decide_eq_true_eq, Bool.and_eq_true] at hc <;> simp only [SC.den, h1, h2, h5, ownAddr]
  case i k x => rw [E.den_app _ _ _ _ hc]
  case b x => rw [B.den_app _ _ _ _ hc]
  case p n off => rw [getD_app_lt _ _ _ _ hc]
  case s n off l c => rw [getD_app_lt _ _ _ _ hc]
  case go g => rw [hg g hc]
  case gv g size lo hi => rw [hg g hc.1, E.den_app _ _ _ _ hc.2.1, E.den_app _ _ _ _ hc.2.2]
  case gp g size ix j => rw [hg g hc.1, E.den_app _ _ _ _ hc.2]
  case gz g => rw [hg g hc]
  case f fn caps =>
    congr 2
    apply List.map_congr_left
    intro x hx
    rw [getD_app_lt _ _ _ _ (by simpa using List.all_eq_true.1 hc x hx)]

theorem map_den_le {e e' : Env} (h : e.le e') {cs : List SC} (hc : cs.all (SC.sc e.r.length e.β.length e.σ.length) = true) : cs.map (SC.den e') = cs.map (SC.den e) :=
  List.map_congr_left fun x hx => SC.den_le h x (List.all_eq_true.1 hc x hx)

theorem SW.den_le {e e' : Env} (h : e.le e') : ∀ c : SW, c.sc e.r.length e.β.length e.σ.length = true → c.den e' = c.den e := by
  intro c hc
  cases c with
  | o c => exact SC.den_le h c hc
  | a cs => simp only [SW.den]; rw [map_den_le h hc]

theorem SV.den_le {e e' : Env} (h : e.le e') : ∀ c : SV, c.sc e.r.length e.β.length e.σ.length e.ω.length = true → c.den e' = c.den e := by
  intro c hc
  cases c with
  | w x => exact SW.den_le h x hc
  | t xs => simp only [SV.den]; rw [List.map_congr_left fun x hx => SW.den_le h x (List.all_eq_true.1 hc x hx)]
  | un i =>
    obtain ⟨a, b, s, d, h1, h2, h3, h4, h5⟩ := h
    simp only [SV.sc, decide_eq_true_eq] at hc
    simp only [SV.den, h4]
    rw [getD_app_lt _ _ _ _ hc]

/-! ### constants -/
@[simp] theorem SC.den_ofV (e : Env) (v : Value) : (SC.ofV v).den e = v := by
  cases v <;> simp [SC.ofV, SC.den, B.den, E.den]
@[simp] theorem SW.den_ofV (e : Env) (v : Value) : (SW.ofV v).den e = v := by
  cases v <;> simp [SW.ofV, SW.den, SC.den_ofV]
  case agg cs =>
    rw [show (SC.den e ∘ SC.ofV) = id from funext fun v => SC.den_ofV e v]
    simp

end Go.Sx
namespace Go.Sx
open Go.RowKit

structure Bas where
  w : World
  X : Nat → Prop

def Bas.may (b : Bas) (k : Nat) : Prop := b.w.heap.size ≤ k ∨ b.X k

structure BelowX (b : Bas) (w : World) : Prop where
  os : w.os = b.w.os
  tape : w.tape = b.w.tape
  output : w.output = b.w.output
  size : b.w.heap.size ≤ w.heap.size
  block : ∀ k, ¬ b.may k → w.heap[k]? = b.w.heap[k]?

theorem BelowX.refl (b : Bas) : BelowX b b.w := ⟨rfl, rfl, rfl, Nat.le_refl _, fun _ _ => rfl⟩
theorem BelowX.grow {b : Bas} {w w' : World} (h : BelowX b w) (k : Below w.heap.size w w') : BelowX b w' :=
  ⟨k.os.trans h.os, k.tape.trans h.tape, k.output.trans h.output, Nat.le_trans h.size k.size, fun i hi => (k.block i (by
    have : ¬ b.w.heap.size ≤ i := fun hh => hi (.inl hh)
    have := h.size
    omega)).trans (h.block i hi)⟩
theorem BelowX.trans {b c : Bas} {w : World} (h : BelowX b c.w) (k : BelowX c w) (hk : ∀ i, c.may i → b.may i) : BelowX b w :=
  ⟨k.os.trans h.os, k.tape.trans h.tape, k.output.trans h.output, Nat.le_trans h.size k.size, fun i hi => (k.block i (fun hh => hi (hk i hh))).trans (h.block i hi)⟩
theorem BelowX.alloc {b : Bas} {w : World} (h : BelowX b w) (o : Obj) : BelowX b (w.alloc o) := h.grow ((Below.refl _ _).alloc (Nat.le_refl _) o)
theorem BelowX.setRow {b : Bas} {w : World} (h : BelowX b w) {g : Nat} (hg : b.may g) (cs : Array Value) : BelowX b (w.setRow g cs) :=
  ⟨h.os, h.tape, h.output, by simpa using h.size, fun i hi => (setRow_other w g i cs (fun e => hi (by rw [e]; exact hg))).trans (h.block i hi)⟩
theorem BelowX.grown {b : Bas} {w w' : World} {row : Option Nat} (h : BelowX b w) (hg : w.grownBy w' row) (hr : ∀ k, row = some k → b.may k) : BelowX b w' :=
  ⟨hg.os.trans h.os, hg.tape.trans h.tape, hg.output.trans h.output, Nat.le_trans h.size hg.size, fun i hi => (hg.block i (by
    have : ¬ b.w.heap.size ≤ i := fun hh => hi (.inl hh)
    have := h.size
    omega) (fun e => hi (hr i e.symm))).trans (h.block i hi)⟩
theorem BelowX.below {w0 w : World} (h : BelowX ⟨w0, fun _ => False⟩ w) : Below w0.heap.size w0 w :=
  ⟨h.os, h.tape, h.output, h.size, fun k hk => h.block k (by rintro (hh | hh); exact absurd hh (by show ¬ w0.heap.size ≤ k; omega); exact hh)⟩
theorem BelowX.cell {b : Bas} {w : World} (h : BelowX b w) {p : Addr} (hp : ¬ b.may p.block) : w.cell? p = b.w.cell? p := World.cell?_of_block (w := b.w) (h.block p.block hp)

def SlX (b : Bas) (ks : List K) (v : Value) (c : Int) : Prop := SlXK b.w b.X (.s 0 ks) v c
def GlX (gl : List (Nat × List Int)) (b : Bas) : Prop := GlOK gl b.w ∧ ∀ p ∈ gl, p.2 ≠ [] → ¬ b.X p.1

structure Rep (e : Env) (W0 : Bas) (s : St) (w : World) : Prop where
  below : BelowX W0 w
  nb : e.β.length = s.mem.length
  ng : e.σ.length = s.rows.length
  nv : e.r.length = s.nv
  nx : e.ω.length = s.nx
  blk : ∀ n b, s.mem[n]? = some b → b.live = true → w.heap[e.β.getD n 0]? = some (.cells (b.cells.map (SC.den e)).toArray b.ty (0, 0))
  own : ∀ n b, s.mem[n]? = some b → b.live = true → s.fl ≤ n → W0.may (e.β.getD n 0)
  sep : ∀ n m b c, s.mem[n]? = some b → s.mem[m]? = some c → b.live = true → c.live = true → e.β.getD n 0 = e.β.getD m 0 → n = m
  row : ∀ n b, s.rows[n]? = some b → b.live = true → RowOK w b.ty b.ks ((G.o n).val e) (b.c.den e.R e.r)
  rown : ∀ n b, s.rows[n]? = some b → b.live = true → s.flr ≤ n → ∀ k, rowBlk ((G.o n).val e) = some k → W0.may k
  rsep : ∀ n m b c k, s.rows[n]? = some b → s.rows[m]? = some c → b.live = true → c.live = true → rowBlk ((G.o n).val e) = some k → rowBlk ((G.o m).val e) = some k → n = m
  brs : ∀ n m b c, s.mem[n]? = some b → s.rows[m]? = some c → b.live = true → c.live = true → rowBlk ((G.o m).val e) ≠ some (e.β.getD n 0)
  gl : GlX s.gl W0
  arg : ∀ i ks c, s.hs[i]? = some (ks, c) → SlX W0 ks ((G.a i).val e) (c.den e.R e.r)

theorem GlOK.below {gl : List (Nat × List Int)} {B : Nat} {w w' : World} (h : GlOK gl w) (hb : Below B w w') (hB : w.heap.size ≤ B) : GlOK gl w' := by
  intro p hp j n hj
  have h0 := h p hp j n hj
  have hlt := World.block_lt_of_cell? _ _ h0
  rw [hb.cell (p := ⟨p.1, j, none⟩) (Nat.lt_of_lt_of_le hlt hB)]
  exact h0

theorem GlX.now {gl : List (Nat × List Int)} {b : Bas} {w : World} (h : GlX gl b) (hb : BelowX b w) : GlOK gl w := by
  intro p hp j n hj
  have h0 := h.1 p hp j n hj
  have hlt := World.block_lt_of_cell? _ _ h0
  rw [hb.cell (p := ⟨p.1, j, none⟩) (by
    rintro (hh | hh)
    · exact absurd hlt (Nat.not_lt.2 hh)
    · exact h.2 p hp (by intro h0'; rw [h0'] at hj; simp at hj) hh)]
  exact h0
theorem Rep.glw {e : Env} {W0 : Bas} {s : St} {w : World} (h : Rep e W0 s w) : GlOK s.gl w := h.gl.now h.below
theorem heap_lt {w : World} {n : Nat} {o : Obj} (h : w.heap[n]? = some o) : n < w.heap.size := (Array.getElem?_eq_some_iff.1 h).1

theorem St.scp_spec {s : St} (h : s.scp = true) : (∀ v ∈ s.fr, SV.scp s.mem.length s.rows.length v = true) ∧
    (∀ b ∈ s.mem, b.cells.all (SC.scp s.mem.length s.rows.length) = true) := by
  simp only [St.scp, Bool.and_eq_true] at h
  exact ⟨List.all_eq_true.1 h.1, List.all_eq_true.1 h.2⟩

theorem E.same_eq : ∀ a b : E, a.same b = true → a = b
  | .c m, b, h => by cases b <;> simp [E.same] at h; rw [h]
  | .v m, b, h => by cases b <;> simp [E.same] at h; rw [h]
  | .add k x y, b, h => by cases b <;> simp [E.same] at h; rw [h.1, E.same_eq x _ h.2.1, E.same_eq y _ h.2.2]
  | .sub k x y, b, h => by cases b <;> simp [E.same] at h; rw [h.1, E.same_eq x _ h.2.1, E.same_eq y _ h.2.2]
  | .mul k x y, b, h => by cases b <;> simp [E.same] at h; rw [h.1, E.same_eq x _ h.2.1, E.same_eq y _ h.2.2]
  | .quo k x y, b, h => by cases b <;> simp [E.same] at h; rw [h.1, E.same_eq x _ h.2.1, E.same_eq y _ h.2.2]
  | .rem x y, b, h => by cases b <;> simp [E.same] at h; rw [E.same_eq x _ h.1, E.same_eq y _ h.2]
  | .mn x y, b, h => by cases b <;> simp [E.same] at h; rw [E.same_eq x _ h.1, E.same_eq y _ h.2]
  | .mx x y, b, h => by cases b <;> simp [E.same] at h; rw [E.same_eq x _ h.1, E.same_eq y _ h.2]
  | .cv k x, b, h => by cases b <;> simp [E.same] at h; rw [h.1, E.same_eq x _ h.2]
  | .nl, b, h => by cases b <;> simp [E.same] at h; rfl
  | .ln x, b, h => by cases b <;> simp [E.same] at h; rw [E.same_eq x _ h]
  | .l2 o x y, b, h => by cases b <;> simp [E.same] at h; rw [h.1, E.same_eq x _ h.2.1, E.same_eq y _ h.2.2]
  | .l3 x y z, b, h => by cases b <;> simp [E.same] at h; rw [E.same_eq x _ h.1, E.same_eq y _ h.2.1, E.same_eq z _ h.2.2]

theorem G.same_eq : ∀ a b : G, a.same b = true → a = b
  | .a i, b, h => by cases b <;> simp [G.same] at h; rw [h]
  | .o i, b, h => by cases b <;> simp [G.same] at h; rw [h]
  | .e g ix j x, b, h => by cases b <;> simp [G.same] at h; rw [G.same_eq g _ h.1.1, E.same_eq _ _ h.1.2, h.2.1, E.same_eq _ _ h.2.2]

/-! ### lists in memory -/
theorem SlOK.grown {w w' : World} {ks : List K} {v : Value} {c : Int} {B : Nat} (h : SlOK w ks v c) (hb : Below B w w') (hB : w.heap.size ≤ B) : SlOK w' ks v c := by
  rcases h with h | ⟨b, off, cap, h1, h2, h3, h4, h5⟩
  · exact .inl h
  · refine .inr ⟨b, off, cap, h1, h2, h3, h4, fun j u hj => ?_⟩
    have h0 := h5 j u hj
    rw [hb.cell (p := ⟨b, off + j, none⟩) (Nat.lt_of_lt_of_le (World.block_lt_of_cell? _ _ h0) hB)]
    exact h0

theorem SlXK.base {w : World} {X : Nat → Prop} {ty : TypeId} {ks : List K} {v : Value} {c : Int} (h : SlXK w X (.s ty ks) v c) : SlOK w ks v c ∧ (cellsL ks (dec c) ≠ [] → ∀ k, slBlk v = some k → ¬ X k) := by
  rw [SlXK] at h
  exact h.1
theorem SlOK.now {b : Bas} {w : World} {ks : List K} {v : Value} {c : Int} (h : SlOK b.w ks v c) (hx : cellsL ks (dec c) ≠ [] → ∀ k, slBlk v = some k → ¬ b.X k) (hb : BelowX b w) : SlOK w ks v c := by
  rcases h with h | ⟨g, off, cap, h1, h2, h3, h4, h5⟩
  · exact .inl h
  · refine .inr ⟨g, off, cap, h1, h2, h3, h4, fun j u hj => ?_⟩
    have h0 := h5 j u hj
    have hlt := World.block_lt_of_cell? _ _ h0
    rw [hb.cell (p := ⟨g, off + j, none⟩) (by
      rintro (hh | hh)
      · exact absurd hlt (Nat.not_lt.2 hh)
      · exact hx (by intro h0'; rw [h0'] at hj; simp at hj) g (by rw [h1]; rfl) hh)]
    exact h0
theorem SlX.now {b : Bas} {w : World} {ks : List K} {v : Value} {c : Int} (h : SlX b ks v c) (hb : BelowX b w) : SlOK w ks v c := SlOK.now h.base.1 h.base.2 hb
mutual
theorem SlXK.imp {w w' : World} {X X' : Nat → Prop} (hw : ∀ ks v c, SlOK w ks v c → (cellsL ks (dec c) ≠ [] → ∀ k, slBlk v = some k → ¬ X k) → SlOK w' ks v c ∧ (cellsL ks (dec c) ≠ [] → ∀ k, slBlk v = some k → ¬ X' k)) : ∀ (k : K) (v : Value) (c : Int), SlXK w X k v c → SlXK w' X' k v c
  | .s ty ks, v, c, h => by
    rw [SlXK] at h ⊢
    exact ⟨hw ks v c h.1.1 h.1.2, fun x hx => SlXL.imp hw ks _ (h.2 x hx)⟩
  | .i k, v, c, h => by simp only [SlXK]
  | .b, v, c, h => by simp only [SlXK]
theorem SlXL.imp {w w' : World} {X X' : Nat → Prop} (hw : ∀ ks v c, SlOK w ks v c → (cellsL ks (dec c) ≠ [] → ∀ k, slBlk v = some k → ¬ X k) → SlOK w' ks v c ∧ (cellsL ks (dec c) ≠ [] → ∀ k, slBlk v = some k → ¬ X' k)) : ∀ (ks : List K) (ns : List Int), SlXL w X ks ns → SlXL w' X' ks ns
  | [], ns, h => by cases ns <;> exact trivial
  | k :: ks, [], h => trivial
  | k :: ks, n :: ns, h => by
    rw [SlXL] at h ⊢
    exact ⟨SlXK.imp hw k _ _ h.1, SlXL.imp hw ks ns h.2⟩
end
theorem SlX.next {b : Bas} {w : World} {ks : List K} {v : Value} {c : Int} (h : SlX b ks v c) (hb : BelowX b w) : SlX ⟨w, b.X⟩ ks v c :=
  SlXK.imp (fun _ _ _ h hx => ⟨SlOK.now h hx hb, hx⟩) _ _ _ h
theorem SlX.nowN {b : Bas} {w : World} {ks : List K} {v : Value} {c : Int} (h : SlX b ks v c) (hb : BelowX b w) : SlN w ks v c :=
  SlXK.imp (fun _ _ _ h hx => ⟨SlOK.now h hx hb, fun _ _ _ hh => hh.elim⟩) _ _ _ h
theorem SlN.now {w : World} {ks : List K} {v : Value} {c : Int} (h : SlN w ks v c) : SlOK w ks v c := h.base.1
theorem SlN.grown {w w' : World} {ks : List K} {v : Value} {c : Int} {B : Nat} (h : SlN w ks v c) (hb : Below B w w') (hB : w.heap.size ≤ B) : SlN w' ks v c :=
  SlXK.imp (fun _ _ _ h hx => ⟨h.grown hb hB, hx⟩) _ _ _ h
def plainK : List K → Bool
  | [] => true
  | .s _ _ :: _ => false
  | _ :: ks => plainK ks
theorem ksame_plain : ∀ {a b : List K}, ksame a b = true → plainK a = true ∧ plainK b = true
  | [], [], _ => ⟨rfl, rfl⟩
  | [], _ :: _, h => by simp [ksame] at h
  | _ :: _, [], h => by simp [ksame] at h
  | x :: xs, y :: ys, h => by
    simp only [ksame, Bool.and_eq_true] at h
    have ih := ksame_plain h.2
    cases x <;> cases y <;> simp_all [K.same, plainK]
theorem SlXL.plain {w : World} {X : Nat → Prop} : ∀ {ks : List K} {ns : List Int}, plainK ks = true → SlXL w X ks ns
  | [], ns, h => by cases ns <;> exact trivial
  | k :: ks, [], h => trivial
  | .i k :: ks, n :: ns, h => by simp only [SlXL, SlXK, true_and]; exact SlXL.plain (by simpa [plainK] using h)
  | .b :: ks, n :: ns, h => by simp only [SlXL, SlXK, true_and]; exact SlXL.plain (by simpa [plainK] using h)
  | .s ty kr :: ks, n :: ns, h => by simp [plainK] at h
theorem SlOK.toX {b : Bas} {ks : List K} {v : Value} {c : Int} (hk : plainK ks = true) (h : SlOK b.w ks v c) (hx : cellsL ks (dec c) ≠ [] → ∀ k, slBlk v = some k → ¬ b.X k) : SlX b ks v c := by
  unfold SlX
  rw [SlXK]
  exact ⟨⟨h, hx⟩, fun _ _ => SlXL.plain hk⟩
theorem SlOK.toN {w : World} {ks : List K} {v : Value} {c : Int} (hk : plainK ks = true) (h : SlOK w ks v c) : SlN w ks v c := SlOK.toX (b := ⟨w, fun _ => False⟩) hk h fun _ _ _ hh => hh
theorem SlN.toX {w : World} {ks : List K} {v : Value} {c : Int} (h : SlN w ks v c) : SlX ⟨w, fun _ => False⟩ ks v c := h
theorem dec_zero : dec 0 = [] := dec_cod []
theorem hdV_zero : hdV 0 = .slice none 0 0 := by unfold hdV; rw [dec_zero]
theorem ctN_zero : ctN 0 = 0 := by unfold ctN; rw [dec_zero]; rfl
theorem SlX_zero {b : Bas} {ks : List K} : SlX b ks (hdV 0) (ctN 0) := by
  unfold SlX
  rw [SlXK, hdV_zero, ctN_zero, dec_zero]
  exact ⟨⟨.inl ⟨rfl, dec_zero⟩, fun h => absurd rfl h⟩, fun x hx => by simp at hx⟩
theorem hdV_slice (n : Int) : ∃ a l c, hdV n = .slice a l c := by
  unfold hdV
  split
  · split <;> exact ⟨_, _, _, rfl⟩
  · exact ⟨_, _, _, rfl⟩
theorem SlXL.at {w : World} {X : Nat → Prop} : ∀ {ks : List K} {ns : List Int} {j : Nat} {k : K}, ks.length = ns.length → SlXL w X ks ns → ks[j]? = some k → SlXK w X k (hdV (ns.getD j 0)) (ctN (ns.getD j 0))
  | [], _, _, _, _, _, h => by simp at h
  | _ :: _, [], _, _, hl, _, _ => by simp at hl
  | k :: ks, n :: ns, 0, k', hl, h, hj => by
    rw [SlXL] at h
    simp only [List.getElem?_cons_zero, Option.some.injEq] at hj
    subst hj
    exact h.1
  | k :: ks, n :: ns, j + 1, k', hl, h, hj => by
    rw [SlXL] at h
    exact SlXL.at (ks := ks) (ns := ns) (by simpa using hl) h.2 (by simpa using hj)

theorem cellsL_length {ks : List K} : ∀ {l : List Int}, (∀ x ∈ l, (elt ks x).length = ks.length) → (cellsL ks l).length = l.length * ks.length
  | [], _ => by simp [cellsL]
  | x :: l, h => by
    have h1 : (mkCells ks (elt ks x)).length = ks.length := by
      have h0 := h x (by simp)
      generalize elt ks x = y at h0
      clear h
      induction ks generalizing y with
      | nil => cases y <;> simp_all [mkCells]
      | cons k ks ih => cases y with
        | nil => simp at h0
        | cons a y => simp only [mkCells, List.length_cons] at h0 ⊢; rw [ih y (by omega)]
    have ih := cellsL_length (ks := ks) (l := l) (fun y hy => h y (by simp [hy]))
    simp only [cellsL, List.flatMap_cons, List.length_append, h1, List.length_cons] at ih ⊢
    rw [ih, Nat.add_mul, Nat.one_mul, Nat.add_comm]

theorem RowOK.kept {w w' : World} {ty : TypeId} {ks : List K} {v : Value} {c : Int} {row : Option Nat} (h : RowOK w ty ks v c) (hg : w.grownBy w' row) (hb : ∀ k, rowBlk v = some k → row ≠ some k) : RowOK w' ty ks v c := by
  rcases h with h | ⟨h0, h1, h2⟩
  · exact .inl h
  · have h3 := h2
    rcases h2.2 with ⟨hv, hn⟩ | ⟨g, cap, cur, hv, _, hc, hle, hm, hsz, ht⟩
    · exact .inl ⟨List.eq_nil_of_length_eq_zero hn, .inl hv⟩
    · by_cases hcap : cap = 0
      · subst hcap
        have hl : (dec c).length = 0 := by omega
        exact .inl ⟨List.eq_nil_of_length_eq_zero hl, .inr ⟨g, 0, by rw [hv, hl]⟩⟩
      · refine .inr ⟨h0, h1, h3.kept hg (.inr ?_)⟩
        have := hb g (by rw [hv]; simp [rowBlk, hcap])
        rw [hv]
        exact fun hh => this hh.symm

theorem RowOK.sl {w : World} {ty : TypeId} {ks : List K} {v : Value} {c : Int} (h : RowOK w ty ks v c) : SlOK w ks v c := by
  rcases h with ⟨h1, h2 | ⟨b, off, h2⟩⟩ | ⟨h0, h1, h2⟩
  · exact .inl ⟨h2, h1⟩
  · exact .inr ⟨b, off, 0, by rw [h2, h1]; rfl, by rw [h1]; exact Nat.le_refl _, by simp, by rw [h1]; simp, by rw [h1]; simp [cellsL]⟩
  · have h3 := h2
    rcases h2.2 with ⟨hv, hn⟩ | ⟨g, cap, cur, hv, _, hc, hle, hm, hsz, ht⟩
    · exact .inl ⟨hv, List.eq_nil_of_length_eq_zero hn⟩
    · refine .inr ⟨g, 0, cap, hv, hle, hm, h1, fun j u hj => ?_⟩
      have := h3.cells (g := g) (by rw [hv]; rfl) j u hj
      rwa [Addr.add_lit] at this

theorem RowOK.blk_lt {w : World} {ty : TypeId} {ks : List K} {v : Value} {c : Int} (h : RowOK w ty ks v c) {k : Nat} (hk : rowBlk v = some k) : k < w.heap.size := by
  rcases h with ⟨h1, h2 | ⟨b, off, h2⟩⟩ | ⟨h0, h1, h2⟩
  · rw [h2] at hk; cases hk
  · rw [h2] at hk; simp [rowBlk] at hk
  · rcases h2.2 with ⟨hv, hn⟩ | ⟨g, cap, cur, hv, _, hc, hle, hm, hsz, ht⟩
    · rw [hv] at hk; cases hk
    · rw [hv] at hk
      simp only [rowBlk] at hk
      split at hk
      · cases hk
      · simp only [Option.some.injEq] at hk
        subst hk
        exact heap_lt hc

theorem G.val_slice (e : Env) (g : G) : ∃ a l c, g.val e = .slice a l c := by
  have : ∀ v, ∃ a l c, slV v = .slice a l c := by
    intro v
    unfold slV
    split
    · exact ⟨_, _, _, rfl⟩
    · exact ⟨_, _, _, rfl⟩
  cases g with
  | e g ix j x => exact hdV_slice _
  | a i => exact this _
  | o i => exact this _

theorem Rep.greadX {e : Env} {W0 : Bas} {s : St} {w : World} (h : Rep e W0 s w) : ∀ {g : G} {ks : List K} {c : E}, g.own = false → gcode s g = some (ks, c) → SlX W0 ks (g.val e) (c.den e.R e.r)
  | .a i, ks, c, _, hg => h.arg i ks c hg
  | .o i, ks, c, ho, _ => by simp [G.own] at ho
  | .e g ix j x, ks, c, _, hg => by
    simp only [gcode] at hg
    split at hg
    · cases hg
    rename_i hown
    split at hg
    · rename_i ks0 c0 hg0
      split at hg
      · rename_i hx
        split at hg
        · rename_i ty kr hk
          simp only [Option.some.injEq, Prod.mk.injEq] at hg
          obtain ⟨rfl, rfl⟩ := hg
          have hX := Rep.greadX h (by simpa using hown) hg0
          have hxe := E.same_eq _ _ hx
          have hcd : (mkAt x (.c 4)).den e.R e.r = ctN (x.den e.R e.r) := by rw [mkAt_den]; rfl
          rw [hcd]
          show SlX W0 kr (hdV (x.den e.R e.r)) (ctN (x.den e.R e.r))
          rw [hxe, comp_den, mkAt_den]
          unfold SlX at hX
          rw [SlXK] at hX
          by_cases hb : (ix.den e.R e.r).toNat < (dec (c0.den e.R e.r)).length
          · have hel : (elt ks0 ((dec (c0.den e.R e.r)).getD (ix.den e.R e.r).toNat 0)).length = ks0.length := by
              rcases hX.1.1 with ⟨_, hn⟩ | ⟨b, off, cap, _, _, _, hel, _⟩
              · rw [hn] at hb; simp at hb
              · exact hel _ (by simp [List.getD, hb])
            have := SlXL.at hel.symm (hX.2 ((dec (c0.den e.R e.r)).getD (ix.den e.R e.r).toNat 0) (by simp [List.getD, hb])) hk
            have hj : j < ks0.length := (List.getElem?_eq_some_iff.1 hk).1
            have helt : (elt ks0 ((dec (c0.den e.R e.r)).getD (ix.den e.R e.r).toNat 0)).getD j 0 = (if ks0.length = 1 then (dec (c0.den e.R e.r)).getD (ix.den e.R e.r).toNat 0 else (dec ((dec (c0.den e.R e.r)).getD (ix.den e.R e.r).toNat 0)).getD j 0) := by
              unfold elt
              split
              · rename_i h1
                have : j = 0 := by omega
                subst this
                rfl
              · rfl
            rw [helt] at this
            unfold SlX
            rw [SlXK] at this ⊢
            exact this
          · have hz : (dec (c0.den e.R e.r)).getD (ix.den e.R e.r).toNat 0 = 0 := by
              simp [List.getD, List.getElem?_eq_none (by omega : (dec (c0.den e.R e.r)).length ≤ (ix.den e.R e.r).toNat)]
            rw [hz]
            have : (if ks0.length = 1 then (0 : Int) else (dec 0).getD j 0) = 0 := by
              rw [dec_zero]
              split <;> simp
            rw [this]
            exact SlX_zero
        · cases hg
      · cases hg
    · cases hg

theorem Rep.gread {e : Env} {W0 : Bas} {s : St} {w : World} (h : Rep e W0 s w) {g : G} {ks : List K} {c : E} (hg : gcode s g = some (ks, c)) : SlOK w ks (g.val e) (c.den e.R e.r) := by
  cases g with
  | e g ix j x => exact (h.greadX (g := .e g ix j x) rfl hg).now h.below
  | a i => exact (h.arg i ks c hg).now h.below
  | o n =>
    simp only [gcode] at hg
    split at hg
    · rename_i b hb
      split at hg
      · rename_i hl
        simp only [Option.some.injEq, Prod.mk.injEq] at hg
        obtain ⟨rfl, rfl⟩ := hg
        exact (h.row n b hb hl).sl
      · cases hg
    · cases hg

theorem Rep.alloc {e : Env} {W0 : Bas} {s : St} {w : World} (h : Rep e W0 s w) (t : TypeId) (cells : List SC)
    (hs : s.scp = true) (hc : cells.all (SC.scp s.mem.length s.rows.length) = true) :
    Rep { e with β := e.β ++ [w.heap.size] } W0 { s with mem := s.mem ++ [⟨t, cells, true⟩] } (w.alloc (.cells (cells.map (SC.den e)).toArray t)) ∧
    Env.like s.mem.length s.rows.length e { e with β := e.β ++ [w.heap.size] } := by
  obtain ⟨hf, hm⟩ := St.scp_spec hs
  have hlike : Env.like s.mem.length s.rows.length e { e with β := e.β ++ [w.heap.size] } :=
    ⟨rfl, rfl, rfl, fun n hn => getD_app_lt _ _ _ _ (by rw [h.nb]; exact hn), fun _ _ => rfl⟩
  refine ⟨?_, hlike⟩
  have hnew : (e.β ++ [w.heap.size]).getD s.mem.length 0 = w.heap.size := by
    simp [List.getD, ← h.nb]
  have hold : ∀ n, n < s.mem.length → (e.β ++ [w.heap.size]).getD n 0 = e.β.getD n 0 := fun n hn => hlike.β n hn
  have hcases : ∀ n b, (s.mem ++ [(⟨t, cells, true⟩ : Blk)])[n]? = some b → (n < s.mem.length ∧ s.mem[n]? = some b) ∨ (n = s.mem.length ∧ b = ⟨t, cells, true⟩) := by
    intro n b hb
    rcases Nat.lt_trichotomy n s.mem.length with hn | hn | hn
    · exact .inl ⟨hn, by rwa [List.getElem?_append_left hn] at hb⟩
    · subst hn; simp at hb; exact .inr ⟨rfl, hb.symm⟩
    · rw [List.getElem?_eq_none (by simp; omega)] at hb; cases hb
  have hlt : ∀ n b, s.mem[n]? = some b → b.live = true → e.β.getD n 0 < w.heap.size := fun n b hb hl => heap_lt (h.blk n b hb hl)
  refine ⟨?_, ?_, ?_, ?_, ?_, ?_, ?_, ?_, ?_, ?_, ?_, ?_, h.gl, h.arg⟩
  · exact h.below.alloc _
  · simp [h.nb]
  · exact h.ng
  · exact h.nv
  · exact h.nx
  · intro n b hb hl
    rcases hcases n b hb with ⟨hn, hb'⟩ | ⟨rfl, rfl⟩
    · show (w.alloc _).heap[(e.β ++ [w.heap.size]).getD n 0]? = _
      rw [hold n hn, Below.heap_alloc _ _ _ (hlt n b hb' hl), h.blk n b hb' hl, map_den_like hlike (hm b (List.mem_of_getElem? hb'))]
    · show (w.alloc _).heap[(e.β ++ [w.heap.size]).getD s.mem.length 0]? = _
      rw [hnew, map_den_like hlike hc]
      exact heap_alloc_new w _
  · intro n b hb hl hn'
    rcases hcases n b hb with ⟨hn, hb'⟩ | ⟨rfl, rfl⟩
    · show W0.may ((e.β ++ [w.heap.size]).getD n 0)
      rw [hold n hn]; exact h.own n b hb' hl hn'
    · show W0.may ((e.β ++ [w.heap.size]).getD s.mem.length 0)
      rw [hnew]; exact .inl h.below.size
  · intro n m b c hb hc' hlb hlc heq
    have heq' : (e.β ++ [w.heap.size]).getD n 0 = (e.β ++ [w.heap.size]).getD m 0 := heq
    rcases hcases n b hb with ⟨hn, hb'⟩ | ⟨rfl, rfl⟩ <;> rcases hcases m c hc' with ⟨hm', hc''⟩ | ⟨rfl, rfl⟩
    · rw [hold n hn, hold m hm'] at heq'
      exact h.sep n m b c hb' hc'' hlb hlc heq'
    · rw [hold n hn, hnew] at heq'
      have := hlt n b hb' hlb
      omega
    · rw [hold m hm', hnew] at heq'
      have := hlt m c hc'' hlc
      omega
    · rfl
  · intro n b hb hl
    exact (h.row n b hb hl).kept (World.grownBy_alloc w _ none) (fun k _ hk => by cases hk)
  · exact h.rown
  · exact h.rsep
  · intro n m b c hb hc' hlb hlc
    rcases hcases n b hb with ⟨hn, hb'⟩ | ⟨rfl, rfl⟩
    · show _ ≠ some ((e.β ++ [w.heap.size]).getD n 0)
      rw [hold n hn]; exact h.brs n m b c hb' hc' hlb hlc
    · show _ ≠ some ((e.β ++ [w.heap.size]).getD s.mem.length 0)
      rw [hnew]
      intro hk
      have := (h.row m c hc' hlc).blk_lt hk
      omega

theorem RowOK.setRow_other {w : World} {ty : TypeId} {ks : List K} {v : Value} {c : Int} (h : RowOK w ty ks v c) (g : Nat) (cs : Array Value) (hg : rowBlk v ≠ some g) : RowOK (w.setRow g cs) ty ks v c :=
  h.kept (row := some g) ⟨rfl, rfl, rfl, by simp, fun k _ hk => Go.setRow_other w g k cs (fun h => hk (by rw [h]))⟩ (fun k hk hh => hg (by rw [hk, hh]))

theorem mem_set_cases {α : Type} {l : List α} {n m : Nat} {x y : α} (h : (l.set n x)[m]? = some y) : (m = n ∧ y = x ∧ n < l.length) ∨ (m ≠ n ∧ l[m]? = some y) := by
  rw [List.getElem?_set] at h
  split at h
  · rename_i hh
    subst hh
    split at h
    · exact .inl ⟨rfl, by simpa using h.symm, by assumption⟩
    · cases h
  · exact .inr ⟨fun hh => by simp_all, h⟩

theorem Rep.store {e : Env} {W0 : Bas} {s : St} {w : World} (h : Rep e W0 s w) {n : Nat} {b : Blk} (hb : s.mem[n]? = some b) (hl : b.live = true) (hf : s.fl ≤ n) (cs : List SC) :
    Rep e W0 { s with mem := s.mem.set n { b with cells := cs } } (w.setRow (e.β.getD n 0) (cs.map (SC.den e)).toArray) := by
  have hcases : ∀ m c, (s.mem.set n { b with cells := cs })[m]? = some c → (m = n ∧ c = { b with cells := cs }) ∨ (m ≠ n ∧ s.mem[m]? = some c) := fun m c hm => by
    rcases mem_set_cases hm with ⟨h1, h2, _⟩ | h2
    · exact .inl ⟨h1, h2⟩
    · exact .inr h2
  refine ⟨?_, ?_, ?_, ?_, ?_, ?_, ?_, ?_, ?_, ?_, ?_, ?_, h.gl, h.arg⟩
  · exact h.below.setRow (h.own n b hb hl hf) _
  · simpa using h.nb
  · exact h.ng
  · exact h.nv
  · exact h.nx
  · intro m c hc hlc
    rcases hcases m c hc with ⟨rfl, rfl⟩ | ⟨hne, hc'⟩
    · exact setRow_heap w _ _ _ _ _ (h.blk m b hb hl)
    · rw [setRow_other w _ _ _ (fun heq => hne (h.sep m n c b hc' hb hlc hl heq))]
      exact h.blk m c hc' hlc
  · intro m c hc hlc hfm
    rcases hcases m c hc with ⟨rfl, rfl⟩ | ⟨hne, hc'⟩
    · exact h.own m b hb hl hf
    · exact h.own m c hc' hlc hfm
  · intro m k c d hc hd hlc hld heq
    rcases hcases m c hc with ⟨rfl, rfl⟩ | ⟨hne, hc'⟩ <;> rcases hcases k d hd with ⟨rfl, rfl⟩ | ⟨hne', hd'⟩
    · rfl
    · exact h.sep _ _ b d hb hd' hl hld heq
    · exact h.sep _ _ c b hc' hb hlc hl heq
    · exact h.sep _ _ c d hc' hd' hlc hld heq
  · intro m c hc hlc
    exact (h.row m c hc hlc).setRow_other _ _ (h.brs n m b c hb hc hl hlc)
  · exact h.rown
  · exact h.rsep
  · intro m k c d hc hd hlc hld
    rcases hcases m c hc with ⟨rfl, rfl⟩ | ⟨hne, hc'⟩
    · exact h.brs m k b d hb hd hl hld
    · exact h.brs m k c d hc' hd hlc hld

theorem Rep.storeRow {e : Env} {W0 : Bas} {s : St} {w : World} (h : Rep e W0 s w) {n : Nat} {b : Row} (hb : s.rows[n]? = some b) (hl : b.live = true) (hf : s.flr ≤ n)
    {g : Nat} (hob : rowBlk ((G.o n).val e) = some g) {x : E} (cs : Array Value) (hrow : RowOK (w.setRow g cs) b.ty b.ks ((G.o n).val e) (x.den e.R e.r)) :
    Rep e W0 { s with rows := s.rows.set n { b with c := x } } (w.setRow g cs) := by
  have hcases : ∀ m c, (s.rows.set n { b with c := x })[m]? = some c → (m = n ∧ c = { b with c := x }) ∨ (m ≠ n ∧ s.rows[m]? = some c) := fun m c hm => by
    rcases mem_set_cases hm with ⟨h1, h2, _⟩ | h2
    · exact .inl ⟨h1, h2⟩
    · exact .inr h2
  refine ⟨?_, h.nb, ?_, h.nv, h.nx, ?_, h.own, h.sep, ?_, ?_, ?_, ?_, h.gl, h.arg⟩
  · exact h.below.setRow (h.rown n b hb hl hf g hob) _
  · simpa using h.ng
  · intro m c hc hlc
    rw [setRow_other w _ _ _ (fun heq => h.brs m n c b hc hb hlc hl (by rw [hob, heq]))]
    exact h.blk m c hc hlc
  · intro m c hc hlc
    rcases hcases m c hc with ⟨rfl, rfl⟩ | ⟨hne, hc'⟩
    · exact hrow
    · exact (h.row m c hc' hlc).setRow_other _ _ (fun hk => hne (h.rsep m n c b g hc' hb hlc hl hk hob))
  · intro m c hc hlc hfm k hk
    rcases hcases m c hc with ⟨rfl, rfl⟩ | ⟨hne, hc'⟩
    · exact h.rown m b hb hl hf k hk
    · exact h.rown m c hc' hlc hfm k hk
  · intro m k c d j hc hd hlc hld
    rcases hcases m c hc with ⟨rfl, rfl⟩ | ⟨hne, hc'⟩ <;> rcases hcases k d hd with ⟨rfl, rfl⟩ | ⟨hne', hd'⟩
    · exact fun _ _ => rfl
    · exact h.rsep _ _ b d j hb hd' hl hld
    · exact h.rsep _ _ c b j hc' hb hlc hl
    · exact h.rsep _ _ c d j hc' hd' hlc hld
  · intro m k c d hc hd hlc hld
    rcases hcases k d hd with ⟨rfl, rfl⟩ | ⟨hne, hd'⟩
    · exact h.brs m k c b hc hb hlc hl
    · exact h.brs m k c d hc hd' hlc hld

theorem RowOK.block {w : World} {ty : TypeId} {ks : List K} {v : Value} {c : Int} (h : RowOK w ty ks v c) (hn : dec c ≠ []) :
    ∃ g cap cur, v = .slice (some ⟨g, 0, none⟩) (dec c).length cap ∧ rowBlk v = some g ∧ ks.length ≠ 0 ∧ (∀ x ∈ dec c, (elt ks x).length = ks.length) ∧ w.heap[g]? = some (.cells cur ty (0, 0)) ∧ (dec c).length ≤ cap ∧ cap ≤ maxLen ∧
      cur.size = cap * ks.length ∧ cur.toList.take ((dec c).length * ks.length) = cellsL ks (dec c) := by
  rcases h with ⟨h1, _⟩ | ⟨h0, h1, h2⟩
  · exact absurd h1 hn
  · rcases h2.2 with ⟨hv, hl⟩ | ⟨g, cap, cur, hv, _, hc, hle, hm, hsz, ht⟩
    · exact absurd (List.eq_nil_of_length_eq_zero hl) hn
    · have hpos : 0 < (dec c).length := List.length_pos_iff.2 hn
      have : cap ≠ 0 := by omega
      exact ⟨g, cap, cur, hv, by rw [hv]; simp [rowBlk, this], h0, h1, hc, hle, hm, hsz, ht⟩

theorem cellsL_app (ks : List K) (a b : List Int) : cellsL ks (a ++ b) = cellsL ks a ++ cellsL ks b := by simp [cellsL]

theorem cellsL_set {ks : List K} {x : Int} (hx : (elt ks x).length = ks.length) : ∀ {l : List Int} (i : Nat), (∀ y ∈ l, (elt ks y).length = ks.length) → i < l.length →
    cellsL ks (l.set i x) = (cellsL ks l).take (i * ks.length) ++ mkCells ks (elt ks x) ++ (cellsL ks l).drop (i * ks.length + ks.length)
  | [], _, _, hi => by simp at hi
  | y :: l, 0, h, _ => by
    have h1 : (mkCells ks (elt ks y)).length = ks.length := by
      have := cellsL_length (ks := ks) (l := [y]) (by simpa using h y (by simp))
      simpa [cellsL] using this
    simp only [List.set_cons_zero, Nat.zero_mul, List.take_zero, Nat.zero_add, List.nil_append]
    simp only [cellsL, List.flatMap_cons]
    rw [← h1, List.drop_left]
  | y :: l, i + 1, h, hi => by
    have h1 : (mkCells ks (elt ks y)).length = ks.length := by
      have := cellsL_length (ks := ks) (l := [y]) (by simpa using h y (by simp))
      simpa [cellsL] using this
    have ih := cellsL_set hx (l := l) i (fun z hz => h z (by simp [hz])) (by simpa using hi)
    simp only [List.set_cons_succ]
    simp only [cellsL, List.flatMap_cons] at ih ⊢
    rw [ih]
    have e1 : (i + 1) * ks.length = (mkCells ks (elt ks y)).length + i * ks.length := by rw [h1, Nat.add_mul, Nat.one_mul, Nat.add_comm]
    rw [e1, List.take_append, Nat.add_assoc, List.drop_append]
    simp [List.take_of_length_le, List.drop_of_length_le]

end Go.Sx
