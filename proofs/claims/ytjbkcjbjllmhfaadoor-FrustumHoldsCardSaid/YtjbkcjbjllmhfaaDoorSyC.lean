/-
  Symbolic execution: what the pieces denote.
-/
import Derived.Test.YtjbkcjbjllmhfaaDoorSyB
namespace Go.Sx
open Go.RowKit

theorem wrap_small (n : Int) (h : small n = true) : IntKind.i64.wrap n = n := by
  simp only [small, Bool.and_eq_true, decide_eq_true_eq] at h
  rw [IntKind.wrap_i64]
  omega

section
variable (R : List Reg) (r : List Int)

theorem fold_den (k : IntKind) (n : Int) (e : E) (h : e.den R r = k.wrap n) : (fold k n e).den R r = k.wrap n := by
  unfold fold
  split
  · rename_i hc
    simp only [Bool.and_eq_true, beq_iff_eq] at hc
    obtain ⟨rfl, hs⟩ := hc
    simp [E.den, wrap_small n hs]
  · exact h

theorem mkAdd_den (k : IntKind) (a b : E) : (mkAdd k a b).den R r = k.wrap (a.den R r + b.den R r) := by
  unfold mkAdd; split
  · exact fold_den R r _ _ _ rfl
  · rfl
theorem mkSub_den (k : IntKind) (a b : E) : (mkSub k a b).den R r = k.wrap (a.den R r - b.den R r) := by
  unfold mkSub; split
  · exact fold_den R r _ _ _ rfl
  · rfl
theorem mkMul_den (k : IntKind) (a b : E) : (mkMul k a b).den R r = k.wrap (a.den R r * b.den R r) := by
  unfold mkMul; split
  · exact fold_den R r _ _ _ rfl
  · rfl
theorem mkQuo_den (k : IntKind) (a b : E) : (mkQuo k a b).den R r = k.wrap ((a.den R r).tdiv (b.den R r)) := by
  unfold mkQuo; split
  · exact fold_den R r _ _ _ rfl
  · rfl
theorem mkRem_den (a b : E) : (mkRem a b).den R r = (a.den R r).tmod (b.den R r) := by
  unfold mkRem; split <;> rfl
theorem mkMn_den (a b : E) : (mkMn a b).den R r = if b.den R r < a.den R r then b.den R r else a.den R r := by
  unfold mkMn; split <;> rfl
theorem mkMx_den (a b : E) : (mkMx a b).den R r = if b.den R r > a.den R r then b.den R r else a.den R r := by
  unfold mkMx; split <;> rfl
theorem mkCv_den (k : IntKind) (a : E) : (mkCv k a).den R r = k.wrap (a.den R r) := by
  unfold mkCv; split
  · exact fold_den R r _ _ _ rfl
  · rfl
theorem mkPl_den (a b : E) : (mkPl a b).den R r = a.den R r + b.den R r := by
  unfold mkPl; split <;> rfl
theorem mkTm_den (a : E) (n : Nat) : (mkTm a n).den R r = a.den R r * (n : Int) := by
  unfold mkTm; split
  · rfl
  · split
    · rename_i h; subst h; simp
    · rfl
theorem mkLt_den (a b : E) : (mkLt a b).den R r = decide (a.den R r < b.den R r) := by
  unfold mkLt; split <;> rfl
theorem mkLe_den (a b : E) : (mkLe a b).den R r = decide (a.den R r ≤ b.den R r) := by
  unfold mkLe; split <;> rfl
theorem mkEq_den (a b : E) : (mkEq a b).den R r = (a.den R r == b.den R r) := by
  unfold mkEq; split <;> rfl
theorem mkNot_den (a : B) : (mkNot a).den R r = !(a.den R r) := by
  unfold mkNot; split <;> simp [B.den]
theorem mkAnd_den (a b : B) : (mkAnd a b).den R r = (a.den R r && b.den R r) := by
  unfold mkAnd; split <;> simp [B.den]
theorem mkBeq_den (a b : B) : (mkBeq a b).den R r = (a.den R r == b.den R r) := by
  unfold mkBeq; split <;> simp [B.den, mkNot_den]

theorem E.den_app (x : List Int) : ∀ a : E, a.sc r.length = true → a.den R (r ++ x) = a.den R r := by
  intro a
  induction a <;> simp only [E.sc, E.den, Bool.and_eq_true, decide_eq_true_eq] <;> intro h
  case v i => simp [List.getElem?_append_left h]
  all_goals simp_all

theorem B.den_app (x : List Int) : ∀ a : B, a.sc r.length = true → a.den R (r ++ x) = a.den R r := by
  intro a
  induction a <;> simp only [B.sc, B.den, Bool.and_eq_true] <;> intro h
  all_goals first
    | rfl
    | (rw [E.den_app R r x _ h.1, E.den_app R r x _ h.2])
    | (rw [E.den_app R r x _ h])
    | simp_all
end

/-- A later environment. -/
def Env.le (e e' : Env) : Prop := ∃ a b c d, e'.r = e.r ++ a ∧ e'.β = e.β ++ b ∧ e'.σ = e.σ ++ c ∧ e'.ω = e.ω ++ d ∧ e'.R = e.R

theorem Env.le_refl (e : Env) : e.le e := ⟨[], [], [], [], by simp⟩
theorem Env.le_trans {a b c : Env} (h : a.le b) (h' : b.le c) : a.le c := by
  obtain ⟨x1, x2, x3, x4, p1, p2, p3, p4, p5⟩ := h
  obtain ⟨y1, y2, y3, y4, q1, q2, q3, q4, q5⟩ := h'
  exact ⟨x1 ++ y1, x2 ++ y2, x3 ++ y3, x4 ++ y4, by simp [p1, p2, p3, p4, p5, q1, q2, q3, q4, q5]⟩

/-- Environments that agree on memory names below nb, ng, and have the same numbers. -/
structure Env.like (nb ng : Nat) (e e' : Env) : Prop where
  r : e'.r = e.r
  R : e'.R = e.R
  ω : e'.ω = e.ω
  β : ∀ n, n < nb → e'.β.getD n 0 = e.β.getD n 0
  σ : ∀ n, n < ng → e'.σ.getD n undef = e.σ.getD n undef

theorem SC.den_like {nb ng : Nat} {e e' : Env} (h : Env.like nb ng e e') : ∀ c : SC, c.scp nb ng = true → c.den e' = c.den e := by
  intro c hc
  cases c <;> simp only [SC.scp, decide_eq_true_eq] at hc <;> simp only [SC.den, h.r, h.R, ownAddr]
  case p n off => rw [h.β n hc]
  case s n off l c => rw [h.β n hc]
  case g n l => rw [h.σ n hc]
  case gp n l => rw [h.σ n hc]
  case f fn caps =>
    congr 2
    apply List.map_congr_left
    intro x hx
    rw [h.β _ (by simpa using List.all_eq_true.1 hc x hx)]

theorem map_den_like {nb ng : Nat} {e e' : Env} (h : Env.like nb ng e e') {cs : List SC} (hc : cs.all (SC.scp nb ng) = true) : cs.map (SC.den e') = cs.map (SC.den e) :=
  List.map_congr_left fun x hx => SC.den_like h x (List.all_eq_true.1 hc x hx)

theorem SW.den_like {nb ng : Nat} {e e' : Env} (h : Env.like nb ng e e') : ∀ c : SW, c.scp nb ng = true → c.den e' = c.den e := by
  intro c hc
  cases c with
  | o c => exact SC.den_like h c hc
  | a cs => simp only [SW.den]; rw [map_den_like h hc]

theorem SV.den_like {nb ng : Nat} {e e' : Env} (h : Env.like nb ng e e') : ∀ c : SV, c.scp nb ng = true → c.den e' = c.den e := by
  intro c hc
  cases c with
  | w x => exact SW.den_like h x hc
  | t xs => simp only [SV.den]; rw [List.map_congr_left fun x hx => SW.den_like h x (List.all_eq_true.1 hc x hx)]
  | un i => simp only [SV.den, h.ω]

/-! ### later environments: whole scoping -/
theorem getD_app_lt {α : Type} (l x : List α) (n : Nat) (d : α) (h : n < l.length) : (l ++ x).getD n d = l.getD n d := by
  simp [List.getD, List.getElem?_append_left h]

theorem SC.den_le {e e' : Env} (h : e.le e') : ∀ c : SC, c.sc e.r.length e.β.length e.σ.length = true → c.den e' = c.den e := by
  obtain ⟨a, b, s, d, h1, h2, h3, h4, h5⟩ := h
  intro c hc
  cases c <;> simp only [SC.sc, decide_eq_true_eq, Bool.and_eq_true] at hc <;> simp only [SC.den, h1, h2, h3, h5, ownAddr]
  case i k x => rw [E.den_app _ _ _ _ hc]
  case b x => rw [B.den_app _ _ _ _ hc]
  case p n off => rw [getD_app_lt _ _ _ _ hc]
  case s n off l c => rw [getD_app_lt _ _ _ _ hc]
  case g n l => rw [getD_app_lt _ _ _ _ hc]
  case gp n l => rw [getD_app_lt _ _ _ _ hc]
  case f fn caps =>
    congr 2
    apply List.map_congr_left
    intro x hx
    rw [getD_app_lt _ _ _ _ (by simpa using List.all_eq_true.1 hc x hx)]
  case q r off => rw [E.den_app _ _ _ _ hc]
  case fs r off len cap => rw [E.den_app _ _ _ _ hc.1.1, E.den_app _ _ _ _ hc.1.2, E.den_app _ _ _ _ hc.2]

theorem map_den_le {e e' : Env} (h : e.le e') {cs : List SC} (hc : cs.all (SC.sc e.r.length e.β.length e.σ.length) = true) : cs.map (SC.den e') = cs.map (SC.den e) :=
  List.map_congr_left fun x hx => SC.den_le h x (List.all_eq_true.1 hc x hx)

theorem SW.den_le {e e' : Env} (h : e.le e') : ∀ c : SW, c.sc e.r.length e.β.length e.σ.length = true → c.den e' = c.den e := by
  intro c hc
  cases c with
  | o c => exact SC.den_le h c hc
  | a cs => simp only [SW.den]; rw [map_den_le h hc]

theorem SV.den_le {e e' : Env} (h : e.le e') : ∀ c : SV, c.sc e.r.length e.β.length e.σ.length e.ω.length = true → c.den e' = c.den e := by
  intro c hc
  cases c with
  | w x => exact SW.den_le h x hc
  | t xs => simp only [SV.den]; rw [List.map_congr_left fun x hx => SW.den_le h x (List.all_eq_true.1 hc x hx)]
  | un i =>
    obtain ⟨a, b, s, d, h1, h2, h3, h4, h5⟩ := h
    simp only [SV.sc, decide_eq_true_eq] at hc
    simp only [SV.den, h4]
    rw [getD_app_lt _ _ _ _ hc]

/-! ### constants -/
@[simp] theorem SC.den_ofV (e : Env) (v : Value) : (SC.ofV v).den e = v := by
  cases v <;> simp [SC.ofV, SC.den, B.den, E.den]
@[simp] theorem SW.den_ofV (e : Env) (v : Value) : (SW.ofV v).den e = v := by
  cases v <;> simp [SW.ofV, SW.den, SC.den_ofV]
  case agg cs =>
    rw [show (SC.den e ∘ SC.ofV) = id from funext fun v => SC.den_ofV e v]
    simp

end Go.Sx
