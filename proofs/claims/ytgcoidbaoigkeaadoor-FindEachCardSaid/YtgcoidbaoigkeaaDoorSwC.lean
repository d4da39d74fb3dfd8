/-
  Symbolic execution: what the pieces denote.
-/
import Derived.Test.YtgcoidbaoigkeaaDoorSwB
namespace Go.Sx
open Go.RowKit

/-! ### lists as numbers -/
theorem zig_inj : ∀ {a b : Int}, zig a = zig b → a = b
  | .ofNat a, .ofNat b, h => by simp only [zig] at h; simp; omega
  | .negSucc a, .negSucc b, h => by simp only [zig] at h; simp; omega
  | .ofNat a, .negSucc b, h => by simp only [zig] at h; omega
  | .negSucc a, .ofNat b, h => by simp only [zig] at h; omega

theorem pr_inj : ∀ {a a' b b' : Nat}, pr a b = pr a' b' → a = a' ∧ b = b'
  | 0, 0, b, b', h => by simp only [pr, Nat.pow_zero, Nat.one_mul] at h; omega
  | 0, a + 1, b, b', h => by
    simp only [pr, Nat.pow_zero, Nat.one_mul, Nat.pow_succ] at h
    rw [Nat.mul_comm (2 ^ a) 2, Nat.mul_assoc] at h
    omega
  | a + 1, 0, b, b', h => by
    simp only [pr, Nat.pow_zero, Nat.one_mul, Nat.pow_succ] at h
    rw [Nat.mul_comm (2 ^ a) 2, Nat.mul_assoc] at h
    omega
  | a + 1, a' + 1, b, b', h => by
    have : pr a b = pr a' b' := by
      simp only [pr, Nat.pow_succ] at h ⊢
      rw [Nat.mul_comm (2 ^ a) 2, Nat.mul_comm (2 ^ a') 2, Nat.mul_assoc, Nat.mul_assoc] at h
      omega
    obtain ⟨h1, h2⟩ := pr_inj this
    exact ⟨by omega, h2⟩

theorem pr_pos (a b : Nat) : pr a b ≠ 0 := by
  unfold pr
  have : 0 < 2 ^ a := Nat.pow_pos (by omega)
  exact Nat.ne_of_gt (Nat.mul_pos this (by omega))

theorem codN_inj : ∀ {l l' : List Int}, codN l = codN l' → l = l'
  | [], [], _ => rfl
  | [], x :: l, h => absurd h.symm (pr_pos _ _)
  | x :: l, [], h => absurd h (pr_pos _ _)
  | x :: l, y :: l', h => by
    obtain ⟨h1, h2⟩ := pr_inj h
    rw [zig_inj h1, codN_inj h2]

theorem cod_inj {l l' : List Int} (h : cod l = cod l') : l = l' := codN_inj (Int.ofNat.inj h)

@[simp] theorem dec_cod (l : List Int) : dec (cod l) = l := by
  have hex : ∃ m, cod m = cod l := ⟨l, rfl⟩
  unfold dec
  rw [dif_pos hex]
  exact cod_inj (Classical.choose_spec hex)

theorem wrap_small (n : Int) (h : small n = true) : IntKind.i64.wrap n = n := by
  simp only [small, Bool.and_eq_true, decide_eq_true_eq] at h
  rw [IntKind.wrap_i64]
  omega

section
variable (R : Fo) (r : List Int)

theorem fold_den (k : IntKind) (n : Int) (e : E) (h : e.den R r = k.wrap n) : (fold k n e).den R r = k.wrap n := by
  unfold fold
  split
  · rename_i hc
    simp only [Bool.and_eq_true, beq_iff_eq] at hc
    obtain ⟨rfl, hs⟩ := hc
    simp [E.den, wrap_small n hs]
  · exact h

theorem mkAdd_den (k : IntKind) (a b : E) : (mkAdd k a b).den R r = k.wrap (a.den R r + b.den R r) := by
  unfold mkAdd; split
  · exact fold_den R r _ _ _ rfl
  · rfl
theorem mkSub_den (k : IntKind) (a b : E) : (mkSub k a b).den R r = k.wrap (a.den R r - b.den R r) := by
  unfold mkSub; split
  · exact fold_den R r _ _ _ rfl
  · rfl
theorem mkMul_den (k : IntKind) (a b : E) : (mkMul k a b).den R r = k.wrap (a.den R r * b.den R r) := by
  unfold mkMul; split
  · exact fold_den R r _ _ _ rfl
  · rfl
theorem mkQuo_den (k : IntKind) (a b : E) : (mkQuo k a b).den R r = k.wrap ((a.den R r).tdiv (b.den R r)) := by
  unfold mkQuo; split
  · exact fold_den R r _ _ _ rfl
  · rfl
theorem mkRem_den (a b : E) : (mkRem a b).den R r = (a.den R r).tmod (b.den R r) := by
  unfold mkRem; split <;> rfl
theorem mkMn_den (a b : E) : (mkMn a b).den R r = if b.den R r < a.den R r then b.den R r else a.den R r := by
  unfold mkMn; split <;> rfl
theorem mkMx_den (a b : E) : (mkMx a b).den R r = if b.den R r > a.den R r then b.den R r else a.den R r := by
  unfold mkMx; split <;> rfl
theorem mkCv_den (k : IntKind) (a : E) : (mkCv k a).den R r = k.wrap (a.den R r) := by
  unfold mkCv; split
  · exact fold_den R r _ _ _ rfl
  · rfl
theorem mkLt_den (a b : E) : (mkLt a b).den R r = decide (a.den R r < b.den R r) := by
  unfold mkLt; split <;> rfl
theorem mkLe_den (a b : E) : (mkLe a b).den R r = decide (a.den R r ≤ b.den R r) := by
  unfold mkLe; split <;> rfl
theorem mkEq_den (a b : E) : (mkEq a b).den R r = (a.den R r == b.den R r) := by
  unfold mkEq; split <;> rfl
theorem mkNot_den (a : B) : (mkNot a).den R r = !(a.den R r) := by
  unfold mkNot; split <;> simp [B.den]
theorem mkAnd_den (a b : B) : (mkAnd a b).den R r = (a.den R r && b.den R r) := by
  unfold mkAnd; split <;> simp [B.den]
theorem mkBeq_den (a b : B) : (mkBeq a b).den R r = (a.den R r == b.den R r) := by
  unfold mkBeq; split <;> simp [B.den, mkNot_den]

theorem listE_den : ∀ l : List E, (listE l).den R r = cod (l.map (E.den R r))
  | [] => rfl
  | x :: l => by simp only [listE, E.den, L2.den, listE_den l, dec_cod, List.map_cons]

theorem elemsE_den : ∀ {a : E} {l : List E}, elemsE a = some l → dec (a.den R r) = l.map (E.den R r) := by
  intro a
  induction a with
  | nl => intro l h; simp only [elemsE, Option.some.injEq] at h; subst h; simp [E.den]
  | l2 o x y ihx ihy =>
    intro l h
    cases o <;> simp only [elemsE] at h <;> try (cases h; done)
    · simp only [Option.map_eq_some_iff] at h
      obtain ⟨m, hm, rfl⟩ := h
      simp [E.den, L2.den, ihy hm]
    · simp only [Option.map_eq_some_iff] at h
      obtain ⟨m, hm, rfl⟩ := h
      simp [E.den, L2.den, ihx hm]
  | _ => intro l h; simp [elemsE] at h

theorem mkLn_den (a : E) : (mkLn a).den R r = ((dec (a.den R r)).length : Int) := by
  unfold mkLn
  split
  · rename_i l h
    simp [E.den, elemsE_den R r h]
  · rfl

theorem mkAt_den (a i : E) : (mkAt a i).den R r = (dec (a.den R r)).getD (i.den R r).toNat 0 := by
  unfold mkAt
  split
  · rename_i l n h
    split
    · rename_i hn
      rw [elemsE_den R r h]
      simp only [E.den]
      by_cases hl : n.toNat < l.length
      · simp [List.getD, hl]
      · simp [List.getD, List.getElem?_eq_none (Nat.le_of_not_lt hl), E.den, L2.den, elemsE_den R r h]
    · rfl
  · rfl

theorem mkSet_den (a i x : E) : (mkSet a i x).den R r = cod ((dec (a.den R r)).set (i.den R r).toNat (x.den R r)) := by
  unfold mkSet
  split
  · rename_i l n h
    split
    · rw [listE_den, elemsE_den R r h, List.map_set]; rfl
    · rfl
  · rfl

theorem mkTake_den (a n : E) : (mkTake a n).den R r = cod ((dec (a.den R r)).take (n.den R r).toNat) := by
  unfold mkTake
  split
  · rename_i l m h
    rw [listE_den, elemsE_den R r h, List.map_take]; rfl
  · rfl

theorem mkDrop_dec (a n : E) : dec ((mkDrop a n).den R r) = (dec (a.den R r)).drop (n.den R r).toNat := by
  unfold mkDrop
  split
  · rename_i l m h
    rw [listE_den, elemsE_den R r h, List.map_drop, dec_cod]; rfl
  · simp [E.den]
  · simp [E.den, L2.den]

theorem foldl_snoc (l : List E) : ∀ a : E, dec ((l.foldl (fun a x => .l2 .snoc a x) a).den R r) = dec (a.den R r) ++ l.map (E.den R r) := by
  induction l with
  | nil => intro a; simp
  | cons x l ih => intro a; rw [List.foldl_cons, ih]; simp [E.den, L2.den]

theorem mkApp_dec (a b : E) : dec ((mkApp a b).den R r) = dec (a.den R r) ++ dec (b.den R r) := by
  unfold mkApp
  split
  · rename_i l h
    rw [foldl_snoc, elemsE_den R r h]
  · split
    · simp [E.den]
    · simp [E.den, L2.den]

theorem mkRep_den (n x : E) : (mkRep n x).den R r = cod (List.replicate (n.den R r).toNat (x.den R r)) := by
  unfold mkRep
  split
  · split
    · rw [listE_den]; simp [E.den]
    · rfl
  · rfl

theorem comp_den (size : Nat) (e : E) (j : Nat) : (comp size e j).den R r = if size = 1 then e.den R r else (dec (e.den R r)).getD j 0 := by
  unfold comp
  split
  · rfl
  · rw [mkAt_den]; simp [E.den]

theorem elemE_elt {ks : List K} {es : List E} (h : es.length = ks.length) : elt ks ((elemE es).den R r) = es.map (E.den R r) := by
  unfold elt
  match es, h with
  | [], h => rw [if_neg (by rw [← h]; simp)]; simp [elemE, listE, E.den]
  | [x], h => rw [if_pos (by rw [← h]; rfl)]; rfl
  | x :: y :: l, h => rw [if_neg (by rw [← h]; simp)]; simp only [elemE]; rw [listE_den, dec_cod]

theorem wrap_len {n : Int} (h0 : 0 ≤ n) (h1 : n ≤ 9223372036854775807) : IntKind.i64.wrap n = n := by
  rw [IntKind.wrap_i64]
  omega

theorem plusE_den {a b : E} (h0 : 0 ≤ a.den R r + b.den R r) (h1 : a.den R r + b.den R r ≤ 9223372036854775807) : (plusE a b).den R r = a.den R r + b.den R r := by
  unfold plusE
  split
  · simp [E.den]
  · simp [E.den]
  · rw [mkAdd_den, wrap_len h0 h1]

theorem minusE_den {a b : E} (h0 : 0 ≤ a.den R r - b.den R r) (h1 : a.den R r - b.den R r ≤ 9223372036854775807) : (minusE a b).den R r = a.den R r - b.den R r := by
  unfold minusE
  split
  · simp [E.den]
  · rw [mkSub_den, wrap_len h0 h1]

theorem E.den_app (x : List Int) : ∀ a : E, a.sc r.length = true → a.den R (r ++ x) = a.den R r := by
  intro a
  induction a <;> simp only [E.sc, E.den, Bool.and_eq_true, decide_eq_true_eq] <;> intro h
  case v i => simp [List.getElem?_append_left h]
  all_goals simp_all

theorem B.den_app (x : List Int) : ∀ a : B, a.sc r.length = true → a.den R (r ++ x) = a.den R r := by
  intro a
  induction a <;> simp only [B.sc, B.den, Bool.and_eq_true] <;> intro h
  all_goals first
    | rfl
    | (rw [E.den_app R r x _ h.1, E.den_app R r x _ h.2])
    | (rw [E.den_app R r x _ h])
    | simp_all
end

/-- A later environment. -/
def Env.le (e e' : Env) : Prop := ∃ a b c d, e'.r = e.r ++ a ∧ e'.β = e.β ++ b ∧ e'.σ = e.σ ++ c ∧ e'.ω = e.ω ++ d ∧ e'.R = e.R

theorem Env.le_refl (e : Env) : e.le e := ⟨[], [], [], [], by simp⟩
theorem Env.le_trans {a b c : Env} (h : a.le b) (h' : b.le c) : a.le c := by
  obtain ⟨x1, x2, x3, x4, p1, p2, p3, p4, p5⟩ := h
  obtain ⟨y1, y2, y3, y4, q1, q2, q3, q4, q5⟩ := h'
  exact ⟨x1 ++ y1, x2 ++ y2, x3 ++ y3, x4 ++ y4, by simp [p1, p2, p3, p4, p5, q1, q2, q3, q4, q5]⟩

/-- Environments that agree on memory names below nb, ng, and have the same numbers. -/
structure Env.like (nb ng : Nat) (e e' : Env) : Prop where
  r : e'.r = e.r
  R : e'.R = e.R
  ω : e'.ω = e.ω
  β : ∀ n, n < nb → e'.β.getD n 0 = e.β.getD n 0
  σ : ∀ n, n < ng → e'.σ.getD n undef = e.σ.getD n undef

theorem G.val_like {nb ng : Nat} {e e' : Env} (h : Env.like nb ng e e') : ∀ g : G, g.sc ng = true → g.val e' = g.val e := by
  intro g hg
  cases g with
  | a i => simp only [G.val, h.R]
  | o n => simp only [G.sc, decide_eq_true_eq] at hg; simp only [G.val]; rw [h.σ n hg]

theorem SC.den_like {nb ng : Nat} {e e' : Env} (h : Env.like nb ng e e') : ∀ c : SC, c.scp nb ng = true → c.den e' = c.den e := by
  intro c hc
  cases c <;> simp only [SC.scp, decide_eq_true_eq] at hc <;> simp only [SC.den, h.r, h.R, ownAddr]
  case p n off => rw [h.β n hc]
  case s n off l c => rw [h.β n hc]
  case go g => rw [G.val_like h g hc]
  case gv g size lo hi => rw [G.val_like h g hc]
  case gp g size ix j => rw [G.val_like h g hc]
  case gz g => rw [G.val_like h g hc]
  case f fn caps =>
    congr 2
    apply List.map_congr_left
    intro x hx
    rw [h.β _ (by simpa using List.all_eq_true.1 hc x hx)]

theorem map_den_like {nb ng : Nat} {e e' : Env} (h : Env.like nb ng e e') {cs : List SC} (hc : cs.all (SC.scp nb ng) = true) : cs.map (SC.den e') = cs.map (SC.den e) :=
  List.map_congr_left fun x hx => SC.den_like h x (List.all_eq_true.1 hc x hx)

theorem SW.den_like {nb ng : Nat} {e e' : Env} (h : Env.like nb ng e e') : ∀ c : SW, c.scp nb ng = true → c.den e' = c.den e := by
  intro c hc
  cases c with
  | o c => exact SC.den_like h c hc
  | a cs => simp only [SW.den]; rw [map_den_like h hc]

theorem SV.den_like {nb ng : Nat} {e e' : Env} (h : Env.like nb ng e e') : ∀ c : SV, c.scp nb ng = true → c.den e' = c.den e := by
  intro c hc
  cases c with
  | w x => exact SW.den_like h x hc
  | t xs => simp only [SV.den]; rw [List.map_congr_left fun x hx => SW.den_like h x (List.all_eq_true.1 hc x hx)]
  | un i => simp only [SV.den, h.ω]

/-! ### later environments: whole scoping -/
theorem getD_app_lt {α : Type} (l x : List α) (n : Nat) (d : α) (h : n < l.length) : (l ++ x).getD n d = l.getD n d := by
  simp [List.getD, List.getElem?_append_left h]

theorem G.val_le {e e' : Env} (h : e.le e') : ∀ g : G, g.sc e.σ.length = true → g.val e' = g.val e := by
  obtain ⟨a, b, s, d, h1, h2, h3, h4, h5⟩ := h
  intro g hg
  cases g with
  | a i => simp only [G.val, h5]
  | o n => simp only [G.sc, decide_eq_true_eq] at hg; simp only [G.val, h3]; rw [getD_app_lt _ _ _ _ hg]

theorem SC.den_le {e e' : Env} (h : e.le e') : ∀ c : SC, c.sc e.r.length e.β.length e.σ.length = true → c.den e' = c.den e := by
  have hg := G.val_le h
  obtain ⟨a, b, s, d, h1, h2, h3, h4, h5⟩ := h
  intro c hc
  cases c <;> simp only [SC.sc, decide_eq_true_eq, Bool.and_eq_true] at hc <;> simp only [SC.den, h1, h2, h5, ownAddr]
  case i k x => rw [E.den_app _ _ _ _ hc]
  case b x => rw [B.den_app _ _ _ _ hc]
  case p n off => rw [getD_app_lt _ _ _ _ hc]
  case s n off l c => rw [getD_app_lt _ _ _ _ hc]
  case go g => rw [hg g hc]
  case gv g size lo hi => rw [hg g hc.1, E.den_app _ _ _ _ hc.2.1, E.den_app _ _ _ _ hc.2.2]
  case gp g size ix j => rw [hg g hc.1, E.den_app _ _ _ _ hc.2]
  case gz g => rw [hg g hc]
  case f fn caps =>
    congr 2
    apply List.map_congr_left
    intro x hx
    rw [getD_app_lt _ _ _ _ (by simpa using List.all_eq_true.1 hc x hx)]

theorem map_den_le {e e' : Env} (h : e.le e') {cs : List SC} (hc : cs.all (SC.sc e.r.length e.β.length e.σ.length) = true) : cs.map (SC.den e') = cs.map (SC.den e) :=
  List.map_congr_left fun x hx => SC.den_le h x (List.all_eq_true.1 hc x hx)

theorem SW.den_le {e e' : Env} (h : e.le e') : ∀ c : SW, c.sc e.r.length e.β.length e.σ.length = true → c.den e' = c.den e := by
  intro c hc
  cases c with
  | o c => exact SC.den_le h c hc
  | a cs => simp only [SW.den]; rw [map_den_le h hc]

theorem SV.den_le {e e' : Env} (h : e.le e') : ∀ c : SV, c.sc e.r.length e.β.length e.σ.length e.ω.length = true → c.den e' = c.den e := by
  intro c hc
  cases c with
  | w x => exact SW.den_le h x hc
  | t xs => simp only [SV.den]; rw [List.map_congr_left fun x hx => SW.den_le h x (List.all_eq_true.1 hc x hx)]
  | un i =>
    obtain ⟨a, b, s, d, h1, h2, h3, h4, h5⟩ := h
    simp only [SV.sc, decide_eq_true_eq] at hc
    simp only [SV.den, h4]
    rw [getD_app_lt _ _ _ _ hc]

/-! ### constants -/
@[simp] theorem SC.den_ofV (e : Env) (v : Value) : (SC.ofV v).den e = v := by
  cases v <;> simp [SC.ofV, SC.den, B.den, E.den]
@[simp] theorem SW.den_ofV (e : Env) (v : Value) : (SW.ofV v).den e = v := by
  cases v <;> simp [SW.ofV, SW.den, SC.den_ofV]
  case agg cs =>
    rw [show (SC.den e ∘ SC.ofV) = id from funext fun v => SC.den_ofV e v]
    simp

end Go.Sx
