/-
  What a piece of code achieves, by its make: it holds in a function's frame, and in a round's.
-/
import Derived.WalkKit
import Derived.Still
import Derived.LoopN
import Derived.LoopNIn
import Derived.TacticsIn
import Derived.OrdersIn
import Derived.RangeFuncCalls
import Derived.RangeFuncNested
import Derived.RangeFuncLeaves
set_option linter.unusedVariables false
set_option linter.unusedSimpArgs false
namespace Go.Sx
open Go.RowKit

def roundsS (W : (Exit → Act → World → Prop) → Act → World → Prop) (Q : Exit → Act → World → Prop) : Nat → Act → World → Prop
  | 0, _, _ => False
  | n + 1, a, w => W (Exit.then (roundsS W Q n) Q) a w

def wps (P : Program) : Code → (Exit → Act → World → Prop) → Act → World → Prop
  | .skip, Q, a, w => Q .normal a w
  | .label _, Q, a, w => Q .normal a w
  | .exit id, Q, a, w => Q (.exit id) a w
  | .ret, Q, a, w => Q .ret a w
  | .seq x y, Q, a, w => wps P x (Exit.then (wps P y Q) Q) a w
  | .cond c x y, Q, a, w => ∃ t, a.eval c = .bool t ∧ if t = true then wps P x Q a w else wps P y Q a w
  | .block id c, Q, a, w => wps P c (Exit.inBlock id Q) a w
  | .loop c, Q, a, w => ∃ n, roundsS (wps P c) Q n a w
  | .region _ ops false, Q, a, w => wpOps P ops Q (List.range ops.size) a w
  | .region _ ops true, Q, a, w => ∀ t, wpOps P ops Q (Region.schedule (P.follows .mixedOrders) ops t) a { w with drawn := w.drawn + 1 }
  | _, _, _, _ => False

theorem letsOut_mono {Q Q' : Exit → Act → World → Prop} (h : ∀ e a w, Q e a w → Q' e a w) : LetsOut Q → LetsOut Q' := fun ⟨a, w, hq⟩ => ⟨a, w, h _ _ _ hq⟩

theorem oper_mono {P : Program} {o : Oper} {a : Act} {w : World} {K K' : Act → World → Prop} {Q Q' : Exit → Act → World → Prop} (hK : ∀ a w, K a w → K' a w) (hQ : ∀ e a w, Q e a w → Q' e a w)
    (hh : o.wp P a w K Q) : o.wp P a w K' Q' := by
  unfold Oper.wp at *
  generalize (execOp a.eval o).run P w = r at *
  cases r with
  | ok n w' =>
    cases n <;> simp only [Oper.upon] at hh ⊢ <;>
      first
        | exact hK _ _ hh
        | exact Calls.mono hh (fun e w'' he => by cases e <;> first | exact hK _ _ he | exact hQ _ _ _ he | exact letsOut_mono hQ he)
        | exact Rows.mono hh (fun _ _ he => hK _ _ he)
  | halt x w' => cases x <;> simp only [Oper.upon] at hh ⊢ <;> exact hQ _ _ _ hh

theorem ops_mono {P : Program} {ops : Array Oper} {Q Q' : Exit → Act → World → Prop} (hQ : ∀ e a w, Q e a w → Q' e a w) : ∀ (l : List Nat) (a : Act) (w : World), wpOps P ops Q l a w → wpOps P ops Q' l a w
  | [], a, w, h => hQ _ _ _ h
  | i :: l, a, w, h => by
    unfold wpOps at h ⊢
    split
    · rename_i ho
      rw [ho] at h
      exact ops_mono hQ l a w h
    · rename_i o ho
      rw [ho] at h
      dsimp only at h
      split
      · rename_i hw
        rw [if_pos hw] at h
        rcases h with h | h
        · exact .inl (oper_mono (fun a w h => ops_mono hQ l a w h) hQ h)
        · exact .inr ⟨h.1, letsOut_mono hQ h.2⟩
      · rename_i hw
        rw [if_neg hw] at h
        exact ops_mono hQ l _ w h

theorem then_mono {K K' : Act → World → Prop} {Q Q' : Exit → Act → World → Prop} (hK : ∀ a w, K a w → K' a w) (hQ : ∀ e a w, Q e a w → Q' e a w) : ∀ e a w, Exit.then K Q e a w → Exit.then K' Q' e a w := by
  intro e a w h
  cases e <;> first | exact hK _ _ h | exact hQ _ _ _ h
theorem block_mono {id : Nat} {Q Q' : Exit → Act → World → Prop} (hQ : ∀ e a w, Q e a w → Q' e a w) : ∀ e a w, Exit.inBlock id Q e a w → Exit.inBlock id Q' e a w := by
  intro e a w h
  cases e with
  | exit id' =>
    show if id' = id then _ else _
    have h' : if id' = id then Q .normal a w else Q (.exit id') a w := h
    split
    · rename_i hi; rw [if_pos hi] at h'; exact hQ _ _ _ h'
    · rename_i hi; rw [if_neg hi] at h'; exact hQ _ _ _ h'
  | _ => exact hQ _ _ _ h

theorem wps_mono {P : Program} : ∀ (c : Code) {Q Q' : Exit → Act → World → Prop} {a : Act} {w : World}, wps P c Q a w → (∀ e a w, Q e a w → Q' e a w) → wps P c Q' a w := by
  intro c
  induction c with
  | seq x y ihx ihy => intro Q Q' a w h hq; exact ihx h (then_mono (fun a w h => ihy h hq) hq)
  | cond c x y ihx ihy =>
    intro Q Q' a w h hq
    obtain ⟨t, ht, h⟩ := h
    refine ⟨t, ht, ?_⟩
    cases t with
    | true => exact ihx h hq
    | false => exact ihy h hq
  | block id c ih => intro Q Q' a w h hq; exact ih h (block_mono hq)
  | loop c ih =>
    intro Q Q' a w h hq
    obtain ⟨n, h⟩ := h
    refine ⟨n, ?_⟩
    revert a w
    induction n with
    | zero => intro a w h; exact h
    | succ n ihn => intro a w h; exact ih h (then_mono (fun a w h => ihn h) hq)
  | region id ops draw =>
    intro Q Q' a w h hq
    cases draw with
    | false => exact ops_mono hq _ _ _ h
    | true => exact fun t => ops_mono hq _ _ _ (h t)
  | skip => intro Q Q' a w h hq; exact hq _ _ _ h
  | label l => intro Q Q' a w h hq; exact hq _ _ _ h
  | exit id => intro Q Q' a w h hq; exact hq _ _ _ h
  | ret => intro Q Q' a w h hq; exact hq _ _ _ h
  | _ => intro Q Q' a w h hq; exact h.elim

theorem wps_wp {P : Program} : ∀ (c : Code) {Q : Exit → Act → World → Prop} {a : Act} {w : World}, wps P c Q a w → c.wp P Q a w := by
  intro c
  induction c with
  | seq x y ihx ihy => intro Q a w h; exact wp_seq (ihx (wps_mono x h (then_mono (fun a w h => ihy h) (fun _ _ _ h => h))))
  | cond c x y ihx ihy =>
    intro Q a w h
    obtain ⟨t, ht, h⟩ := h
    cases t with
    | true => exact wp_cond_true ht (ihx h)
    | false => exact wp_cond_false ht (ihy h)
  | block id c ih => intro Q a w h; exact wp_block (ih h)
  | loop c ih =>
    intro Q a w h
    obtain ⟨n, h⟩ := h
    refine wp_loop_rounds n ?_
    revert a w
    induction n with
    | zero => intro a w h; exact h
    | succ n ihn => intro a w h; exact ih (wps_mono c h (then_mono (fun a w h => ihn h) (fun _ _ _ h => h)))
  | region id ops draw =>
    intro Q a w h
    cases draw with
    | false => exact wp_region h
    | true => exact wp_region_draw h
  | skip => intro Q a w h; exact wp_skip h
  | label l => intro Q a w h; exact wp_label h
  | exit id => intro Q a w h; exact wp_exit h
  | ret => intro Q a w h; exact wp_ret h
  | _ => intro Q a w h; exact h.elim

theorem roundsS_succ {W : (Exit → Act → World → Prop) → Act → World → Prop} {Q : Exit → Act → World → Prop} {n : Nat} {a : Act} {w : World} : roundsS W Q (n + 1) a w = W (Exit.then (roundsS W Q n) Q) a w := rfl
theorem wps_any {P : Program} {ops : Array Oper} {Q : Exit → Act → World → Prop} {id : Nat} {a : Act} {w : World} (hm : P.follows .mixedOrders = true)
    (h : wpAny P .any ops Q ops.size (Array.replicate ops.size false) a { w with drawn := w.drawn + 1 }) : wps P (.region id ops true) Q a w := fun t => by
  simp only [Region.schedule, hm, Bool.true_or, if_true]
  exact wpAny_sound ops.size t _ a _ h
theorem wps_list {P : Program} {ops : Array Oper} {Q : Exit → Act → World → Prop} {id : Nat} {a : Act} {w : World} (h : wpList P ops Q ops.toList a w) : wps P (.region id ops false) Q a w := by
  show wpOps P ops Q (List.range ops.size) a w
  rw [List.range_eq_range', ← Array.length_toList, wpOps_eq_wpList ops.toList 0 (by simp)]
  exact h

/-! ### an extract that nothing looks at -/
def bindsB (o : Oper) (i : Nat) : Bool := o.after.any fun e => Region.binds .any e && e.on == i
def isLoose (ops : Array Oper) (i : Nat) : Bool := match ops[i]? with
  | some oi => (oi.guard.isNone && (match oi.op with | .extract _ _ => true | _ => false)) && (Region.noSelect ops && (List.range ops.size).all fun j => (j == i || bindsB oi j) || match ops[j]? with
    | some oj => !bindsB oj i && oi.apart ops oj
    | none => true)
  | none => false
def pushEdge (i : Nat) (o : Oper) : Oper := { o with after := o.after.push { on := i, ground := .data } }
def coversB (oi o : Oper) : Bool := oi.after.all fun e => !Region.binds .any e || bindsB o e.on
def edgeB (ops : Array Oper) (i k : Nat) (o : Oper) : Bool := match ops[i]? with
  | some oi => decide (i < k) && coversB oi o
  | none => false
def tidy1 (ops : Array Oper) (i : Nat) : Array Oper := ops.mapIdx fun k o => if edgeB ops i k o then pushEdge i o else o
def looseM (ops : Array Oper) (i : Nat) : Bool := match ops[i]? with
  | some oi => (oi.guard.isNone && (match oi.op with | .move _ => true | _ => false)) && (Region.noSelect ops && (List.range ops.size).all fun j => (j == i || bindsB oi j) || match ops[j]? with
    | some oj => bindsB oj i || oi.apart ops oj
    | none => true)
  | none => false
def tidyM (ops : Array Oper) : List Nat → Array Oper
  | [] => ops
  | i :: l => tidyM (if looseM ops i then tidy1 ops i else ops) l
def isSt (o : Oper) : Bool := match o.op with | .store _ _ _ => true | _ => false
def isApp (o : Oper) : Bool := match o.op with
  | .call c => match c.callee with | .builtin .append => true | _ => false
  | _ => false
def useM (ops : Array Oper) : Bool := (ops.any isApp && ops.any isSt) || decide (2 ≤ (ops.toList.filter isSt).length)
def tidy (ops : Array Oper) : Array Oper := if useM ops then tidyM ops (List.range ops.size) else match (List.range ops.size).find? (isLoose ops) with
  | some i => tidy1 ops i
  | none => ops

theorem bindsB_spec {o : Oper} {i : Nat} : bindsB o i = true ↔ ∃ e ∈ o.after, Region.binds .any e = true ∧ e.on = i := by
  unfold bindsB
  rw [Array.any_eq_true']
  simp

section
variable {P : Program} {ops : Array Oper} {Q : Exit → Act → World → Prop} {i : Nat}
theorem tidy1_get (j : Nat) : (tidy1 ops i)[j]? = (ops[j]?).map fun o => if edgeB ops i j o then pushEdge i o else o := by
  unfold tidy1
  rw [Array.getElem?_mapIdx]
theorem tidy1_yielded (t : Array Value) : yielded (tidy1 ops i) t = yielded ops t := by
  funext j
  unfold yielded
  rw [tidy1_get]
  cases ops[j]? with
  | none => rfl
  | some o =>
    simp only [Option.map_some, Option.bind_some]
    rw [show (if edgeB ops i j o = true then pushEdge i o else o).dst = o.dst by split <;> rfl]
theorem tidy1_wpOp {j : Nat} {K : Act → World → Prop} {a : Act} {w : World} (h : wpOp P (tidy1 ops i) Q j K a w) : wpOp P ops Q j K a w := by
  unfold wpOp at *
  rw [tidy1_get, tidy1_yielded] at h
  cases ho : ops[j]? with
  | none => rw [ho] at h; exact h
  | some o =>
    rw [ho] at h
    simp only [Option.map_some] at h
    split at h
    · exact h
    · exact h

theorem tidy1_ready {listed : Array Bool} {j : Nat} : j ∈ Region.ready .any (tidy1 ops i) listed ↔ j ∈ Region.ready .any ops listed ∧ ∀ o, ops[j]? = some o → edgeB ops i j o = true → listed.getD i false = true := by
  rw [mem_ready, mem_ready, tidy1_get]
  cases ho : ops[j]? with
  | none => simp
  | some o =>
    simp only [Option.map_some, Option.some.injEq, exists_eq_left', forall_eq']
    constructor
    · rintro ⟨h1, h2⟩
      split at h2
      · rename_i he
        refine ⟨⟨h1, fun e he hb => h2 e ?_ hb⟩, fun _ => h2 { on := i, ground := .data } ?_ rfl⟩
        · simp only [pushEdge, Array.mem_push]; exact .inl he
        · rw [pushEdge, Array.mem_push]; exact .inr rfl
      · rename_i he
        exact ⟨⟨h1, h2⟩, fun hh => absurd hh he⟩
    · rintro ⟨⟨h1, h2⟩, h3⟩
      refine ⟨h1, ?_⟩
      split
      · rename_i he
        intro e hm hb
        simp only [pushEdge, Array.mem_push] at hm
        rcases hm with hm | rfl
        · exact h2 e hm hb
        · exact h3 he
      · exact h2

theorem loose_value {oi : Oper} (hi : ops[i]? = some oi) (hg : oi.guard = none) (hx : ∃ t k, oi.op = .extract t k) (hQo : ¬ LetsOut Q) {K : Act → World → Prop} {a : Act} {w : World} (h : wpOp P ops Q i K a w) :
    ∃ v, Yields P ops oi v a ∧ K (a.put oi.dst v) w := by
  obtain ⟨t, k, hop⟩ := hx
  unfold wpOp at h
  rw [hi] at h
  have hw : Region.wanted oi (yielded ops a.tmps) = true := by unfold Region.wanted; rw [hg]
  dsimp only at h
  rw [if_pos hw] at h
  rcases h with h | h
  · unfold Oper.wp at h
    have key : (∃ v, ∀ w, (execOp a.eval oi).run P w = .ok (.value v) w) ∨ ∀ w, ∃ m, (execOp a.eval oi).run P w = .halt (.stuck m) w := by
      simp only [execOp, hop, Sem.run_bind, Instr.extract]
      split
      · split
        · rename_i v _
          exact .inl ⟨v, fun w => by simp [Sem.run_pure, Result.andThen]⟩
        · exact .inr fun w => ⟨_, rfl⟩
      · exact .inr fun w => ⟨_, rfl⟩
    rcases key with ⟨v, hv⟩ | hst
    · rw [hv w] at h
      exact ⟨v, .inl ⟨hw, hv⟩, h⟩
    · obtain ⟨m, hm⟩ := hst w
      rw [hm] at h
      exact h.elim
  · exact absurd h.2 hQo

theorem tidy1_any (hl : isLoose ops i = true) (hQp : ∀ c a w, ¬ Q (.panic c) a w) (hQo : ¬ LetsOut Q) : ∀ (fuel : Nat) (listed : Array Bool) (a : Act) (w : World), wpAny P .any (tidy1 ops i) Q fuel listed a w → wpAny P .any ops Q fuel listed a w := by
  unfold isLoose at hl
  split at hl
  · rename_i oi hi
    simp only [Bool.and_eq_true, Option.isNone_iff_eq_none] at hl
    obtain ⟨⟨hg, hx⟩, hs, hfree⟩ := hl
    have hx' : ∃ t k, oi.op = .extract t k := by
      split at hx
      · exact ⟨_, _, by assumption⟩
      · cases hx
    have hfr : ∀ {listed : Array Bool} j oj, i ∈ Region.ready .any ops listed → ops[j]? = some oj → j ≠ i → listed.getD j true = false → oi.apart ops oj = true := by
      intro listed j oj hr hj hne hun
      have := List.all_eq_true.1 hfree j (by simpa using (Array.getElem?_eq_some_iff.1 hj).1)
      rw [hj] at this
      simp only [Bool.or_eq_true, beq_iff_eq, hne, false_or, Bool.and_eq_true] at this
      rcases this with hb | this
      · obtain ⟨e, hm, hb, hon⟩ := bindsB_spec.1 hb
        obtain ⟨_, o', ho', h2⟩ := mem_ready.1 hr
        rw [hi] at ho'
        simp only [Option.some.injEq] at ho'
        subst ho'
        have := h2 e hm hb
        rw [hon] at this
        have hjl : j < listed.size := by
          rcases Nat.lt_or_ge j listed.size with h | h
          · exact h
          · simp [Array.getD, Nat.not_lt.2 h] at hun
        simp [Array.getD, hjl] at this hun
        rw [this] at hun
        cases hun
      · exact this.2
    have hee : ∀ o, edgeB ops i i o = false := fun o => by unfold edgeB; rw [hi]; simp
    have hgo : ∀ {listed : Array Bool} {j : Nat}, i ∉ Region.ready .any ops listed → j ∈ Region.ready .any ops listed → j ∈ Region.ready .any (tidy1 ops i) listed := by
      intro listed j hn hj
      refine tidy1_ready.2 ⟨hj, fun o ho he => Classical.byContradiction fun hli => hn ?_⟩
      obtain ⟨h1, o', ho', h2⟩ := mem_ready.1 hj
      rw [ho] at ho'
      simp only [Option.some.injEq] at ho'
      subst ho'
      unfold edgeB at he
      rw [hi] at he
      simp only [Bool.and_eq_true, decide_eq_true_eq] at he
      have hjl : j < listed.size := by
        rcases Nat.lt_or_ge j listed.size with h | h
        · exact h
        · simp [Array.getD, Nat.not_lt.2 h] at h1
      refine mem_ready.2 ⟨?_, oi, hi, fun e hm hb => ?_⟩
      · have : i < listed.size := by omega
        simp [Array.getD, this] at hli ⊢
        exact hli
      · have := Array.all_eq_true_iff_forall_mem.1 he.2 e hm
        simp only [hb, Bool.not_true, Bool.false_or] at this
        obtain ⟨e', hm', hb', hon⟩ := bindsB_spec.1 this
        rw [← hon]
        exact h2 e' hm' hb'
    intro fuel
    induction fuel with
    | zero =>
      intro listed a w h
      refine ⟨?_, h.2⟩
      by_cases hir : i ∈ Region.ready .any ops listed
      · have : i ∈ Region.ready .any (tidy1 ops i) listed := tidy1_ready.2 ⟨hir, fun o ho he => (by rw [hee o] at he; cases he)⟩
        rw [h.1] at this
        cases this
      · refine List.eq_nil_iff_forall_not_mem.2 fun j hj => ?_
        have := hgo hir hj
        rw [h.1] at this
        cases this
    | succ fuel ih =>
      intro listed a w h
      by_cases hir : i ∈ Region.ready .any ops listed
      · have hir' : i ∈ Region.ready .any (tidy1 ops i) listed := tidy1_ready.2 ⟨hir, fun o ho he => (by rw [hee o] at he; cases he)⟩
        obtain ⟨v, hy, hK⟩ := loose_value hi hg hx' hQo (tidy1_wpOp (h.2 i hir'))
        exact wpAny_first hi (Region.noSelect_spec hs) (fun c a w hq => absurd hq (hQp _ _ _)) fuel listed a w (fun j oj hj hne hun _ => hfr j oj hir hj hne hun) hir hy (ih _ _ _ hK)
      · refine ⟨fun hr => h.1 (List.eq_nil_iff_forall_not_mem.2 fun j hj => ?_), fun j hj => wpOp_mono (fun a w hh => ih _ _ _ hh) (tidy1_wpOp (h.2 j (hgo hir hj)))⟩
        have := (tidy1_ready.1 hj).1
        rw [hr] at this
        cases this
  · cases hl

theorem move_value {oi : Oper} (hi : ops[i]? = some oi) (hg : oi.guard = none) (hx : ∃ t, oi.op = .move t) (hQo : ¬ LetsOut Q) {K : Act → World → Prop} {a : Act} {w : World} (h : wpOp P ops Q i K a w) :
    ∃ v, Yields P ops oi v a ∧ K (a.put oi.dst v) w := by
  obtain ⟨t, hop⟩ := hx
  unfold wpOp at h
  rw [hi] at h
  have hw : Region.wanted oi (yielded ops a.tmps) = true := by unfold Region.wanted; rw [hg]
  dsimp only at h
  rw [if_pos hw] at h
  rcases h with h | h
  · unfold Oper.wp at h
    have hv : ∀ w, (execOp a.eval oi).run P w = .ok (.value (a.eval t)) w := fun w => by simp [execOp, hop, Sem.run_pure]
    rw [hv w] at h
    exact ⟨a.eval t, .inl ⟨hw, hv⟩, h⟩
  · exact absurd h.2 hQo

theorem tidyM1_any (hl : looseM ops i = true) (hQp : ∀ c a w, ¬ Q (.panic c) a w) (hQo : ¬ LetsOut Q) : ∀ (fuel : Nat) (listed : Array Bool) (a : Act) (w : World), wpAny P .any (tidy1 ops i) Q fuel listed a w → wpAny P .any ops Q fuel listed a w := by
  unfold looseM at hl
  split at hl
  · rename_i oi hi
    simp only [Bool.and_eq_true, Option.isNone_iff_eq_none] at hl
    obtain ⟨⟨hg, hx⟩, hs, hfree⟩ := hl
    have hx' : ∃ t, oi.op = .move t := by
      split at hx
      · exact ⟨_, by assumption⟩
      · cases hx
    have hfr : ∀ {listed : Array Bool} j oj, i ∈ Region.ready .any ops listed → ops[j]? = some oj → j ≠ i → listed.getD j true = false → (∀ e ∈ oj.after, Region.binds .any e = true → e.on ≠ i) → oi.apart ops oj = true := by
      intro listed j oj hr hj hne hun hnb
      have := List.all_eq_true.1 hfree j (by simpa using (Array.getElem?_eq_some_iff.1 hj).1)
      rw [hj] at this
      simp only [Bool.or_eq_true, beq_iff_eq, hne, false_or] at this
      rcases this with hb | this
      · obtain ⟨e, hm, hb, hon⟩ := bindsB_spec.1 hb
        obtain ⟨_, o', ho', h2⟩ := mem_ready.1 hr
        rw [hi] at ho'
        simp only [Option.some.injEq] at ho'
        subst ho'
        have := h2 e hm hb
        rw [hon] at this
        have hjl : j < listed.size := by
          rcases Nat.lt_or_ge j listed.size with h | h
          · exact h
          · simp [Array.getD, Nat.not_lt.2 h] at hun
        simp [Array.getD, hjl] at this hun
        rw [this] at hun
        cases hun
      · rcases this with hb | this
        · obtain ⟨e, hm, hb, hon⟩ := bindsB_spec.1 hb
          exact absurd hon (hnb e hm hb)
        · exact this
    have hee : ∀ o, edgeB ops i i o = false := fun o => by unfold edgeB; rw [hi]; simp
    have hgo : ∀ {listed : Array Bool} {j : Nat}, i ∉ Region.ready .any ops listed → j ∈ Region.ready .any ops listed → j ∈ Region.ready .any (tidy1 ops i) listed := by
      intro listed j hn hj
      refine tidy1_ready.2 ⟨hj, fun o ho he => Classical.byContradiction fun hli => hn ?_⟩
      obtain ⟨h1, o', ho', h2⟩ := mem_ready.1 hj
      rw [ho] at ho'
      simp only [Option.some.injEq] at ho'
      subst ho'
      unfold edgeB at he
      rw [hi] at he
      simp only [Bool.and_eq_true, decide_eq_true_eq] at he
      have hjl : j < listed.size := by
        rcases Nat.lt_or_ge j listed.size with h | h
        · exact h
        · simp [Array.getD, Nat.not_lt.2 h] at h1
      refine mem_ready.2 ⟨?_, oi, hi, fun e hm hb => ?_⟩
      · have : i < listed.size := by omega
        simp [Array.getD, this] at hli ⊢
        exact hli
      · have := Array.all_eq_true_iff_forall_mem.1 he.2 e hm
        simp only [hb, Bool.not_true, Bool.false_or] at this
        obtain ⟨e', hm', hb', hon⟩ := bindsB_spec.1 this
        rw [← hon]
        exact h2 e' hm' hb'
    intro fuel
    induction fuel with
    | zero =>
      intro listed a w h
      refine ⟨?_, h.2⟩
      by_cases hir : i ∈ Region.ready .any ops listed
      · have : i ∈ Region.ready .any (tidy1 ops i) listed := tidy1_ready.2 ⟨hir, fun o ho he => (by rw [hee o] at he; cases he)⟩
        rw [h.1] at this
        cases this
      · refine List.eq_nil_iff_forall_not_mem.2 fun j hj => ?_
        have := hgo hir hj
        rw [h.1] at this
        cases this
    | succ fuel ih =>
      intro listed a w h
      by_cases hir : i ∈ Region.ready .any ops listed
      · have hir' : i ∈ Region.ready .any (tidy1 ops i) listed := tidy1_ready.2 ⟨hir, fun o ho he => (by rw [hee o] at he; cases he)⟩
        obtain ⟨v, hy, hK⟩ := move_value hi hg hx' hQo (tidy1_wpOp (h.2 i hir'))
        exact wpAny_first hi (Region.noSelect_spec hs) (fun c a w hq => absurd hq (hQp _ _ _)) fuel listed a w (fun j oj hj hne hun hnb => hfr j oj hir hj hne hun hnb) hir hy (ih _ _ _ hK)
      · refine ⟨fun hr => h.1 (List.eq_nil_iff_forall_not_mem.2 fun j hj => ?_), fun j hj => wpOp_mono (fun a w hh => ih _ _ _ hh) (tidy1_wpOp (h.2 j (hgo hir hj)))⟩
        have := (tidy1_ready.1 hj).1
        rw [hr] at this
        cases this
  · cases hl

theorem tidyM_size : ∀ (l : List Nat) (ops : Array Oper), (tidyM ops l).size = ops.size
  | [], _ => rfl
  | i :: l, ops => by
    rw [tidyM, tidyM_size l]
    split
    · simp [tidy1]
    · rfl
theorem tidyM_any (hQp : ∀ c a w, ¬ Q (.panic c) a w) (hQo : ¬ LetsOut Q) : ∀ (l : List Nat) (ops : Array Oper) (fuel : Nat) (listed : Array Bool) (a : Act) (w : World), wpAny P .any (tidyM ops l) Q fuel listed a w → wpAny P .any ops Q fuel listed a w
  | [], _, _, _, _, _, h => h
  | i :: l, ops, fuel, listed, a, w, h => by
    have h' := tidyM_any hQp hQo l _ fuel listed a w h
    split at h'
    · rename_i hl
      exact tidyM1_any hl hQp hQo _ _ _ _ h'
    · exact h'
theorem wps_tidy {id : Nat} {a : Act} {w : World} (hm : P.follows .mixedOrders = true) (hQp : ∀ c a w, ¬ Q (.panic c) a w) (hQo : ¬ LetsOut Q)
    (h : wpAny P .any (tidy ops) Q (tidy ops).size (Array.replicate (tidy ops).size false) a { w with drawn := w.drawn + 1 }) : wps P (.region id ops true) Q a w := by
  refine wps_any hm ?_
  unfold tidy at h
  split at h
  · rw [tidyM_size] at h
    exact tidyM_any hQp hQo _ _ _ _ _ _ h
  split at h
  · rename_i i hi
    have hsz : (tidy1 ops i).size = ops.size := by simp [tidy1]
    rw [hsz] at h
    exact tidy1_any (List.find?_some hi) hQp hQo _ _ _ _ h
  · exact h
end

/-! ### in a round -/
def notDefer (o : Oper) : Bool := match o.op with
  | .defer _ => false
  | _ => true
def calmC : Code → Bool
  | .seq x y => calmC x && calmC y
  | .cond _ x y => calmC x && calmC y
  | .block _ c => calmC c
  | .loop c => calmC c
  | .region _ ops _ => ops.all notDefer
  | _ => true

theorem rowsIn_wide {n : Nat} {P : Program} {row : String} {args : Array Value} {w : World} {R : Value → World → Prop} (h : Rows P row args w R) : RowsIn Fence.wide n P row args w R := fun c cs _ => by
  obtain ⟨v, w', hr, hs⟩ := h c cs
  exact ⟨v, w', hr, stepsIn_wide.2 hs⟩

theorem oper_in {P : Program} {o : Oper} {a : Act} {w : World} {K : Act → World → Prop} {Q : Exit → Act → World → Prop} (l n : Nat) (hn : notDefer o = true) (hh : o.wp P a w K Q) : o.wpIn (Fence.wide.inRound l) n P a w K Q := by
  have hs : ∀ c, o.op ≠ .defer c := by
    intro c hc
    unfold notDefer at hn
    rw [hc] at hn
    cases hn
  unfold Oper.wp at hh
  refine ⟨fun _ _ => trivial, ?_⟩
  rw [show (Fence.wide.inRound l).round = some l from rfl, Oper.semAt_some l _ _ hs]
  generalize (execOp a.eval o).run P w = r at *
  cases r with
  | ok x w' =>
    cases x <;> simp only [Oper.upon] at hh <;> simp only [Oper.uponIn] <;>
      first
        | exact hh
        | exact hh.elim
        | exact ⟨fun h => (by cases h), CallsIn.inRound l (callsIn_wide.2 hh)⟩
        | exact ⟨fun h => (by cases h), rowsIn_wide hh⟩
  | halt x w' => cases x <;> simp only [Oper.upon] at hh <;> simp only [Oper.uponIn] <;> first | exact hh | exact hh.elim

theorem ops_in {P : Program} {ops : Array Oper} {Q : Exit → Act → World → Prop} (l n : Nat) (hc : ops.all notDefer = true) (ho : ¬ LetsOut Q) : ∀ (s : List Nat) (a : Act) (w : World), wpOps P ops Q s a w → wpOpsIn (Fence.wide.inRound l) n P ops Q s a w
  | [], a, w, h => h
  | i :: s, a, w, h => by
    unfold wpOps at h
    unfold wpOpsIn
    split
    · rename_i hi
      rw [hi] at h
      exact ops_in l n hc ho s a w h
    · rename_i o hi
      rw [hi] at h
      dsimp only at h
      split
      · rename_i hw
        rw [if_pos hw] at h
        rcases h with h | h
        · exact Oper.wpIn_mono (fun a w h => ops_in l n hc ho s a w h) (oper_in l n (Array.all_eq_true_iff_forall_mem.1 hc o (Array.mem_of_getElem? hi)) h)
        · exact absurd h.2 ho
      · rename_i hw
        rw [if_neg hw] at h
        exact ⟨fun _ _ => trivial, ops_in l n hc ho s _ w h⟩

theorem out_then {K : Act → World → Prop} {Q : Exit → Act → World → Prop} (h : ¬ LetsOut Q) : ¬ LetsOut (Exit.then K Q) := fun ⟨a, w, hq⟩ => h ⟨a, w, hq⟩
theorem out_block {id : Nat} {Q : Exit → Act → World → Prop} (h : ¬ LetsOut Q) : ¬ LetsOut (Exit.inBlock id Q) := fun ⟨a, w, hq⟩ => h ⟨a, w, hq⟩

theorem wps_in {P : Program} (l n : Nat) : ∀ (c : Code) {Q : Exit → Act → World → Prop} {a : Act} {w : World}, calmC c = true → ¬ LetsOut Q → wps P c Q a w → c.wpIn (Fence.wide.inRound l) n P Q a w := by
  intro c
  induction c with
  | seq x y ihx ihy =>
    intro Q a w hc ho h
    simp only [calmC, Bool.and_eq_true] at hc
    refine wpIn_seq (wpIn_mono (ihx hc.1 (out_then ho) h) (then_mono (fun a w h => ihy hc.2 ho h) (fun _ _ _ h => h)))
  | cond c x y ihx ihy =>
    intro Q a w hc ho h
    simp only [calmC, Bool.and_eq_true] at hc
    obtain ⟨t, ht, h⟩ := h
    cases t with
    | true => exact wpIn_cond_true ht (ihx hc.1 ho h)
    | false => exact wpIn_cond_false ht (ihy hc.2 ho h)
  | block id c ih => intro Q a w hc ho h; exact wpIn_block (ih hc (out_block ho) h)
  | loop c ih =>
    intro Q a w hc ho h
    obtain ⟨k, h⟩ := h
    refine wpIn_loop_rounds k ?_
    revert a w
    induction k with
    | zero => intro a w h; exact h
    | succ k ihk => intro a w h; exact wpIn_mono (ih hc (out_then ho) h) (then_mono (fun a w h => ihk h) (fun _ _ _ h => h))
  | region id ops draw =>
    intro Q a w hc ho h
    cases draw with
    | false => exact wpIn_region (ops_in l n hc ho _ _ _ h)
    | true => exact wpIn_region_draw fun t => ops_in l n hc ho _ _ _ (h t)
  | skip => intro Q a w hc ho h; exact wpIn_skip h
  | label l => intro Q a w hc ho h; exact wpIn_label h
  | exit id => intro Q a w hc ho h; exact wpIn_exit h
  | ret => intro Q a w hc ho h; exact wpIn_ret h
  | _ => intro Q a w hc ho h; exact h.elim
end Go.Sx
set_option linter.unusedVariables false
set_option linter.unusedSimpArgs false
namespace Go.Sx
open Go.RowKit

def tail (ds : List Deferred) (a : Act) : Act := { a with defers := a.defers ++ ds }
theorem tail_put (ds : List Deferred) (a : Act) (d : Option Tmp) (v : Value) : (tail ds a).put d v = tail ds (a.put d v) := by cases d <;> rfl
theorem tail_eval (ds : List Deferred) (a : Act) : (tail ds a).eval = a.eval := by funext x; cases x <;> rfl

theorem letsOut_tail {ds : List Deferred} {Q Q' : Exit → Act → World → Prop} (h : ∀ e a w, Q e a w → Q' e (tail ds a) w) : LetsOut Q → LetsOut Q' := fun ⟨a, w, hq⟩ => ⟨_, w, h _ _ _ hq⟩

theorem oper_tail {P : Program} {ds : List Deferred} {o : Oper} {a : Act} {w : World} {K K' : Act → World → Prop} {Q Q' : Exit → Act → World → Prop} (hK : ∀ a w, K a w → K' (tail ds a) w) (hQ : ∀ e a w, Q e a w → Q' e (tail ds a) w)
    (hh : o.wp P a w K Q) : o.wp P (tail ds a) w K' Q' := by
  unfold Oper.wp at *
  rw [tail_eval]
  generalize (execOp a.eval o).run P w = r at *
  have hP : ∀ (a : Act) (d : Option Tmp) (v : Value) (w : World), K (a.put d v) w → K' ((tail ds a).put d v) w := fun a d v w h => by rw [tail_put]; exact hK _ _ h
  cases r with
  | ok n w' =>
    cases n <;> simp only [Oper.upon] at hh ⊢ <;>
      first
        | exact hh
        | exact hP _ _ _ _ hh
        | exact hK _ _ hh
        | exact Calls.mono hh (fun e w'' he => by cases e <;> first | exact hP _ _ _ _ he | exact hQ _ _ _ he | exact letsOut_tail hQ he)
        | exact Rows.mono hh (fun _ _ he => hP _ _ _ _ he)
  | halt x w' => cases x <;> simp only [Oper.upon] at hh ⊢ <;> first | exact hh | exact hQ _ _ _ hh

theorem ops_tail {P : Program} {ds : List Deferred} {ops : Array Oper} {Q Q' : Exit → Act → World → Prop} (hQ : ∀ e a w, Q e a w → Q' e (tail ds a) w) : ∀ (l : List Nat) (a : Act) (w : World), wpOps P ops Q l a w → wpOps P ops Q' l (tail ds a) w
  | [], a, w, h => hQ _ _ _ h
  | i :: l, a, w, h => by
    unfold wpOps at h ⊢
    split
    · rename_i ho
      rw [ho] at h
      exact ops_tail hQ l a w h
    · rename_i o ho
      rw [ho] at h
      dsimp only at h
      split
      · rename_i hw
        rw [if_pos (show Region.wanted o (yielded ops a.tmps) = true from hw)] at h
        rcases h with h | h
        · exact .inl (oper_tail (fun a w h => ops_tail hQ l a w h) hQ h)
        · exact .inr ⟨h.1, letsOut_tail hQ h.2⟩
      · rename_i hw
        rw [if_neg (show ¬ Region.wanted o (yielded ops a.tmps) = true from hw)] at h
        have := ops_tail hQ l _ w h
        rw [← tail_put] at this
        exact this

theorem then_tail {ds : List Deferred} {K K' : Act → World → Prop} {Q Q' : Exit → Act → World → Prop} (hK : ∀ a w, K a w → K' (tail ds a) w) (hQ : ∀ e a w, Q e a w → Q' e (tail ds a) w) : ∀ e a w, Exit.then K Q e a w → Exit.then K' Q' e (tail ds a) w := by
  intro e a w h
  cases e <;> first | exact hK _ _ h | exact hQ _ _ _ h
theorem block_tail {ds : List Deferred} {id : Nat} {Q Q' : Exit → Act → World → Prop} (hQ : ∀ e a w, Q e a w → Q' e (tail ds a) w) : ∀ e a w, Exit.inBlock id Q e a w → Exit.inBlock id Q' e (tail ds a) w := by
  intro e a w h
  cases e with
  | exit id' =>
    show if id' = id then _ else _
    have h' : if id' = id then Q .normal a w else Q (.exit id') a w := h
    split
    · rename_i hi; rw [if_pos hi] at h'; exact hQ _ _ _ h'
    · rename_i hi; rw [if_neg hi] at h'; exact hQ _ _ _ h'
  | _ => exact hQ _ _ _ h

theorem wps_tail {P : Program} {ds : List Deferred} : ∀ (c : Code) {Q Q' : Exit → Act → World → Prop} {a : Act} {w : World}, wps P c Q a w → (∀ e a w, Q e a w → Q' e (tail ds a) w) → wps P c Q' (tail ds a) w := by
  intro c
  induction c with
  | seq x y ihx ihy => intro Q Q' a w h hq; exact ihx h (then_tail (fun a w h => ihy h hq) hq)
  | cond c x y ihx ihy =>
    intro Q Q' a w h hq
    obtain ⟨t, ht, h⟩ := h
    refine ⟨t, by rw [tail_eval]; exact ht, ?_⟩
    cases t with
    | true => exact ihx h hq
    | false => exact ihy h hq
  | block id c ih => intro Q Q' a w h hq; exact ih h (block_tail hq)
  | loop c ih =>
    intro Q Q' a w h hq
    obtain ⟨n, h⟩ := h
    refine ⟨n, ?_⟩
    revert a w
    induction n with
    | zero => intro a w h; exact h
    | succ n ihn => intro a w h; exact ih h (then_tail (fun a w h => ihn h) hq)
  | region id ops draw =>
    intro Q Q' a w h hq
    cases draw with
    | false => exact ops_tail hq _ _ _ h
    | true => exact fun t => ops_tail hq _ _ _ (h t)
  | skip => intro Q Q' a w h hq; exact hq _ _ _ h
  | label l => intro Q Q' a w h hq; exact hq _ _ _ h
  | exit id => intro Q Q' a w h hq; exact hq _ _ _ h
  | ret => intro Q Q' a w h hq; exact hq _ _ _ h
  | _ => intro Q Q' a w h hq; exact h.elim

def BackIter (P : Program) (gf : FuncId) (sz : Nat) : Prop :=
  ∀ (l Bs : Nat) (ad : Option Addr) (len cap : Nat) (J : Nat → World → Prop) (W : World), len ≤ 1000000 →
    (∀ i W, J i W → W.cell? ⟨Bs, 0, none⟩ = some (.slice ad len cap)) →
    (∀ i W, i < len → J (i + 1) W → ∃ (b off : Nat) (cs : List Value), ad = some ⟨b, off, none⟩ ∧ cs.length = sz ∧ (∀ (j : Nat) (u : Value), cs[j]? = some u → W.cell? ⟨b, off + (i * sz + j), none⟩ = some u) ∧
        ∀ m, YieldAt Fence.wide m P l #[.int .i64 (i : Nat), .agg cs.toArray] W fun e W' => e = .returned (.bool true) ∧ J i W') →
    J len W → Calls P gf #[.func (.yield l) #[] #[], .pointer (some ⟨Bs, 0, none⟩)] W fun e W' => (∃ v, e = .returned v) ∧ J 0 W'

theorem back_rangeFunc {P : Program} {gf : FuncId} {sz : Nat} (hB : BackIter P gf sz) {g : Operand} {p q : Tmp} {as bd : Code} {Q : Exit → Act → World → Prop} {a : Act} {w : World} {Bs : Nat} {ad : Option Addr} {len cap n : Nat}
    (hg : a.eval g = .func (.func gf) #[] #[.pointer (some ⟨Bs, 0, none⟩)]) (eg : ∀ args w, (callFunc gf args).run P w = .ok (.enter gf args) w) (hlen : len ≤ 1000000)
    (J : Nat → World → Prop) (hJ : OwnFrom w.heap.size J) (hBs : ∀ i W, J i W → W.cell? ⟨Bs, 0, none⟩ = some (.slice ad len cap)) (h0 : J len w)
    (hround : ∀ i W, i < len → J (i + 1) W → ∃ (b off : Nat) (cs : List Value), ad = some ⟨b, off, none⟩ ∧ cs.length = sz ∧ (∀ (j : Nat) (u : Value), cs[j]? = some u → W.cell? ⟨b, off + (i * sz + j), none⟩ = some u) ∧
      ∀ l m, w.heap.size ≤ l → (∃ r, W.heap[l]? = some (.loop r)) → as.wpIn (Fence.wide.inRound l) m P (Exit.then (fun a1 W1 => KeepsFrom w.heap.size W W1 ∧ ∀ o', bd.wpIn (Fence.wide.inRound l) m P (fun e _ W3 => e = .normal ∧ KeepsFrom w.heap.size (W1.putObj l o') W3 ∧ J i W3) a1 (W1.putObj l o')) (fun _ _ _ => False))
        { tmps := (a.tmps.setIfInBounds p (.int .i64 (i : Nat))).setIfInBounds q (.agg cs.toArray), defers := [] } W)
    (hdone : ∀ D W, w.heap.size ≤ D → J 0 W → W.heap[D]? = some (.deferred (some [])) → Q .normal { a with defers := { target := .collected D, args := #[] } :: a.defers } W) :
    (Code.rangeFunc g #[p, q] as bd).wpIn Fence.wide n P Q a w := by
  refine wpIn_rangeFunc ?_
  intro fn hfn
  rw [show Fence.wide.round = none from rfl]
  obtain ⟨rec, hrec⟩ : ∃ rec : LoopState → Option Code → Loop, rec = fun st pe => { state := st, pending := pe, fn, tmps := a.tmps, params := #[p, q], assign := as, body := bd, defers := w.heap.size } := ⟨_, rfl⟩
  obtain ⟨W1, hW1⟩ : ∃ W1, (w.alloc (.deferred (some []))).alloc (.loop (rec .ready none)) = W1 := ⟨_, rfl⟩
  have hL1 : W1.heap[w.heap.size + 1]? = some (.loop (rec .ready none)) := by
    rw [← hW1]; have := World.alloc_heap_new (w.alloc (.deferred (some []))) (.loop (rec .ready none)); rwa [World.size_alloc] at this
  have hK1 : W1.heap[w.heap.size]? = some (.deferred (some [])) := by
    rw [← hW1]; exact (Below.heap_alloc _ _ _ (by simp)).trans (World.alloc_heap_new w _)
  have hI1 : J len W1 := by rw [← hW1]; exact hJ.alloc _ (hJ.alloc _ h0)
  refine ⟨w.heap.size + 1, [{ target := .collected w.heap.size, args := #[] }], W1, { target := .fn (.func gf) #[.pointer (some ⟨Bs, 0, none⟩)], args := #[.func (.yield (w.heap.size + 1)) #[] #[]] }, W1, gf,
    #[.func (.yield (w.heap.size + 1)) #[] #[]] ++ #[.pointer (some ⟨Bs, 0, none⟩)], W1, ?_, ?_, ?_, ?_, fun h => (by cases h), ?_⟩
  · rw [← hW1, hrec]; exact run_enterLoop_outer _ _ _ _ _
  · simp only [resolve, hg]
    simp [go_sem]
  · intro f' hf'; trivial
  · simp [invoke, go_sem, eg]
  · rw [callsIn_wide]
    refine (hB (w.heap.size + 1) Bs ad len cap
      (fun i W => J i W ∧ W.heap[w.heap.size + 1]? = some (.loop (rec .ready none)) ∧ W.heap[w.heap.size]? = some (.deferred (some [])))
      W1 hlen (fun i W h => hBs i W h.1) ?_ ⟨hI1, hL1, hK1⟩).mono ?_
    · rintro i W hi ⟨hj, hl, hk⟩
      obtain ⟨b, off, cs, h1, h2, h3, h4⟩ := hround i W hi hj
      refine ⟨b, off, cs, h1, h2, h3, fun m => ?_⟩
      have hlt : w.heap.size + 1 < W.heap.size := (Array.getElem?_eq_some_iff.1 hl).1
      have hy := run_yield (P := P) (args := #[Value.int .i64 (i : Nat), .agg cs.toArray]) hl (by rw [hrec]; rfl)
      rw [hrec] at hy
      dsimp only at hy
      have hz : (#[p, q].zip #[Value.int .i64 (i : Nat), .agg cs.toArray]).foldl (fun tmps (x : Tmp × Value) => tmps.setIfInBounds x.1 x.2) a.tmps = (a.tmps.setIfInBounds p (.int .i64 (i : Nat))).setIfInBounds q (.agg cs.toArray) := by
        rw [← Array.foldl_toList]
        simp
      replace hy : (Instr.yield (w.heap.size + 1) #[Value.int .i64 (i : Nat), .agg cs.toArray]).run P W = .ok (.round (w.heap.size + 1) fn ((#[p, q].zip #[Value.int .i64 (i : Nat), .agg cs.toArray]).foldl (fun tmps (x : Tmp × Value) => tmps.setIfInBounds x.1 x.2) a.tmps) as bd) W := hy
      rw [hz] at hy
      refine ⟨fn, _, as, bd, hy, roundIn_of_wpIn hfn (wpIn_mono (h4 _ m (by omega) ⟨_, hl⟩) ?_)⟩
      rintro e a1 Wa hp
      cases e with
      | normal =>
        obtain ⟨hkfa, hb⟩ := hp
        have hl' := hkfa.same _ _ (by omega) hl rfl
        have hk' := hkfa.same _ _ (Nat.le_refl _) hk rfl
        have hlt' : w.heap.size + 1 < Wa.heap.size := (Array.getElem?_eq_some_iff.1 hl').1
        refine ⟨_, run_beginRound hl' (by rw [hrec]), ?_⟩
        have hl2 : (Wa.putObj (w.heap.size + 1) (.loop { rec .ready none with state := .busy })).heap[w.heap.size + 1]? = some (.loop { rec .ready none with state := .busy }) := World.putObj_heap_same hlt'
        have hk2 : (Wa.putObj (w.heap.size + 1) (.loop { rec .ready none with state := .busy })).heap[w.heap.size]? = some (.deferred (some [])) := (World.putObj_heap_other (by omega)).trans hk'
        refine wpIn_mono (hb _) ?_
        rintro e a3 W3 ⟨rfl, hk3, hj3⟩
        have hl3 := hk3.same _ _ (by omega) hl2 rfl
        have hr := run_endRound (P := P) none hl3
        rw [hrec] at hr
        refine ⟨_, _, hr, rfl, hJ.putObj _ hj3 (by omega) hl3 rfl, ?_, ?_⟩
        · rw [hrec]; exact World.putObj_heap_same (Array.getElem?_eq_some_iff.1 hl3).1
        · exact (World.putObj_heap_other (by omega)).trans (hk3.same _ _ (Nat.le_refl _) hk2 rfl)
      | _ => exact hp.elim
    · rintro e W2 ⟨⟨v, rfl⟩, hj, hl, hk⟩
      have hr := run_endLoop (P := P) hl (by rw [hrec]; simp)
      refine ⟨none, _, by rw [hrec] at hr; exact hr, hdone _ _ (Nat.le_refl _) (hJ.putObj _ hj (by omega) hl rfl) ((World.putObj_heap_other (by omega)).trans hk)⟩
#print axioms back_rangeFunc
#print axioms wps_tail
end Go.Sx
