/-
  Symbolic execution: a region that draws its order: whatever order is drawn.
-/
import Derived.Test.YtgcoidbaoigkeaaSwL
namespace Go.Sx
open Go.RowKit

/-- What an operation ahead of the tail comes to: its value, by the number of the block that it makes, and that block. -/
structure Ent where
  val : Nat → Value
  obj : Option Obj

/-- Comes k behind i, by edges or by edges of edges? -/
inductive Comes (ops : Array Oper) : Nat → Nat → Prop
  | edge {k i : Nat} {o : Oper} {e : Edge} : ops[k]? = some o → e ∈ o.after → Region.binds .any e = true → e.on = i → Comes ops k i
  | step {k j i : Nat} {o : Oper} {e : Edge} : ops[k]? = some o → e ∈ o.after → Region.binds .any e = true → e.on = j → Comes ops j i → Comes ops k i

def Closed (ops : Array Oper) (listed : Array Bool) : Prop :=
  ∀ j oj, ops[j]? = some oj → listed.getD j false = true → ∀ e ∈ oj.after, Region.binds .any e = true → listed.getD e.on false = true

theorem Comes.listed {ops : Array Oper} {listed : Array Bool} (hc : Closed ops listed) {k i : Nat} (h : Comes ops k i) : listed.getD k false = true → listed.getD i false = true := by
  induction h with
  | edge ho he hb hon => intro hk; rw [← hon]; exact hc _ _ ho hk _ he hb
  | step ho he hb hon _ ih => intro hk; exact ih (by rw [← hon]; exact hc _ _ ho hk _ he hb)

theorem Comes.ready {ops : Array Oper} {listed : Array Bool} (hc : Closed ops listed) {k i : Nat} {o : Oper} (ho : ops[k]? = some o) (hr : ∀ e ∈ o.after, Region.binds .any e = true → listed.getD e.on false = true) (h : Comes ops k i) : listed.getD i false = true := by
  cases h with
  | edge ho' he hb hon =>
    rw [ho] at ho'
    simp only [Option.some.injEq] at ho'
    subst ho'
    rw [← hon]; exact hr _ he hb
  | step ho' he hb hon hrest =>
    rw [ho] at ho'
    simp only [Option.some.injEq] at ho'
    subst ho'
    exact hrest.listed hc (by rw [← hon]; exact hr _ he hb)

theorem Comes.trans {ops : Array Oper} {k j i : Nat} (h : Comes ops k j) (h' : Comes ops j i) : Comes ops k i := by
  induction h with
  | edge ho he hb hon => exact .step ho he hb hon h'
  | step ho he hb hon _ ih => exact .step ho he hb hon (ih h')

/-- Masks tell what comes behind what. -/
theorem masks_reach {ops : Array Oper} {k i : Nat} (h : behind (masks ops) k i = true) : Comes ops k i := by
  have tb : ∀ (l : List Nat) (ms : List Nat) (m i : Nat), (l.foldl (fun m j => (m ||| ms.getD j 0) ||| (1 <<< j)) m).testBit i = true → m.testBit i = true ∨ ∃ j ∈ l, j = i ∨ (ms.getD j 0).testBit i = true := by
    intro l
    induction l with
    | nil => intro ms m i h; exact .inl h
    | cons j l ih =>
      intro ms m i h
      rw [List.foldl_cons] at h
      rcases ih ms _ i h with h | ⟨j', hj', h⟩
      · rw [Nat.testBit_or, Nat.testBit_or, Bool.or_eq_true, Bool.or_eq_true] at h
        rcases h with (h | h) | h
        · exact .inl h
        · exact .inr ⟨j, by simp, .inr h⟩
        · refine .inr ⟨j, by simp, .inl ?_⟩
          rw [Nat.one_shiftLeft, Nat.testBit_two_pow] at h
          simpa using h
      · exact .inr ⟨j', by simp [hj'], h⟩
  have key : ∀ (l pre : List Oper) (ms : List Nat), ops.toList = pre ++ l → ms.length = pre.length → (∀ k i, (ms.getD k 0).testBit i = true → Comes ops k i) → ∀ k i, ((masksAux l ms).getD k 0).testBit i = true → Comes ops k i := by
    intro l
    induction l with
    | nil => intro pre ms _ _ h k i hk; exact h k i hk
    | cons o l ih =>
      intro pre ms hl hlen h k i hk
      refine ih (pre ++ [o]) (ms ++ [maskOf ms o]) (by simp [hl]) (by simp [hlen]) ?_ k i hk
      intro k i hk
      rcases Nat.lt_trichotomy k ms.length with hlt | heq | hgt
      · rw [List.getD, List.getElem?_append_left hlt] at hk
        exact h k i hk
      · subst heq
        simp only [List.getD, List.getElem?_concat_length, Option.getD_some] at hk
        have ho : ops[ms.length]? = some o := by
          rw [← Array.getElem?_toList, hl, hlen]; simp
        rcases tb _ _ _ _ hk with h0 | ⟨j, hj, h0⟩
        · simp at h0
        · obtain ⟨e, he, rfl⟩ := List.mem_map.1 hj
          obtain ⟨h1, h2⟩ := List.mem_filter.1 he
          rcases h0 with h0 | h0
          · exact .edge ho (by simpa using h1) h2 h0
          · exact .step ho (by simpa using h1) h2 rfl (h _ _ h0)
      · rw [List.getD, List.getElem?_eq_none (by simp; omega)] at hk
        simp at hk
  exact key ops.toList [] [] rfl rfl (fun k i h => by simp [List.getD] at h) k i h

section
variable {P : Program} {ops : Array Oper}

theorem writer_some {n t i : Nat} (h : writer ops n t = some i) : i < n ∧ (ops[i]?).bind (·.dst) = some t := by
  have h1 := List.mem_of_find?_eq_some h
  have h2 := List.find?_some h
  exact ⟨by simpa using h1, by simpa using h2⟩

theorem writer_none {n t : Nat} (h : writer ops n t = none) : ∀ i, i < n → (ops[i]?).bind (·.dst) ≠ some t := by
  intro i hi hd
  have := List.find?_eq_none.1 h i (by simpa using hi)
  simp [hd] at this

theorem writer_eq {n t i : Nat} (hi : i < n) (hd : (ops[i]?).bind (·.dst) = some t) (hu : ∀ j, j < n → (ops[j]?).bind (·.dst) = some t → j = i) : writer ops n t = some i := by
  cases hw : writer ops n t with
  | none => exact absurd hd (writer_none hw i hi)
  | some j =>
    obtain ⟨h1, h2⟩ := writer_some hw
    rw [hu j h1 h2]

/-- What slot t holds. -/
def slotV (ops : Array Oper) (N : Nat) (ents : Nat → Ent) (a0 : Array Value) (γ : Nat → Nat) (listed : Array Bool) (t : Nat) : Value :=
  match writer ops N t with
  | some i => if listed.getD i false then (ents i).val (γ i) else a0.getD t undef
  | none => a0.getD t undef

/-- What slot t holds when i comes up in the order of the text, if that is no new block's address. -/
def lexv (ops : Array Oper) (ents : Nat → Ent) (a0 : Array Value) (i t : Nat) : Option Value :=
  match writer ops i t with
  | some j => if (ents j).obj.isNone then some ((ents j).val 0) else none
  | none => some (a0.getD t undef)

def Beh (P : Program) (C : World → Prop) (ops : Array Oper) (o : Oper) (ent : Ent) (act : Act) (w : World) : Prop :=
  ∀ (K : Act → World → Prop) (Q : Exit → Act → World → Prop),
    (match ent.obj with
      | none => ∀ w', C w' → Below w.heap.size w w' → K (act.put o.dst (ent.val 0)) w'
      | some ob => ∀ n w', C w' → Below w.heap.size w w' → w.heap.size ≤ n → w'.heap[n]? = some ob → K (act.put o.dst (ent.val n)) w') →
    if Region.wanted o (yielded ops act.tmps) = true then o.wp P act w K Q else K (act.put o.dst undef) w

def PreOK (P : Program) (C : World → Prop) (ops : Array Oper) (ents : Nat → Ent) (a0 : Array Value) (i : Nat) : Prop :=
  ∃ o, ops[i]? = some o ∧ ((ents i).obj = none → ∀ n, (ents i).val n = (ents i).val 0) ∧ ∃ (look : List Tmp) (opv : Tmp → Value), (∀ t ∈ look, t ∈ o.looksAt ops) ∧ (∀ t ∈ look, lexv ops ents a0 i t = some (opv t)) ∧
    ∀ (act : Act) (w : World), C w → act.tmps.size = a0.size → act.defers = [] → (∀ t ∈ look, act.tmps.getD t undef = opv t) → Beh P C ops o (ents i) act w

theorem length_filter_lt {f g : Nat → Bool} : ∀ {l : List Nat}, (∀ x ∈ l, g x = true → f x = true) → (∃ i ∈ l, f i = true ∧ g i = false) → (l.filter g).length < (l.filter f).length
  | [], _, h => by obtain ⟨i, hi, _⟩ := h; cases hi
  | x :: l, h1, h2 => by
    have hle : ∀ {l : List Nat}, (∀ x ∈ l, g x = true → f x = true) → (l.filter g).length ≤ (l.filter f).length := by
      intro l
      induction l with
      | nil => intro _; simp
      | cons y l ih =>
        intro h
        have := ih (fun z hz => h z (by simp [hz]))
        have hy := h y (by simp)
        simp only [List.filter_cons]
        cases hg : g y <;> cases hf : f y <;> simp_all <;> omega
    have hx := h1 x (by simp)
    have hl := fun z hz => h1 z (List.mem_cons_of_mem x hz)
    have hle' := hle hl
    obtain ⟨i, hi, hfi, hgi⟩ := h2
    simp only [List.filter_cons]
    rcases List.mem_cons.1 hi with rfl | hi
    · simp [hfi, hgi]; omega
    · have := length_filter_lt hl ⟨i, hi, hfi, hgi⟩
      cases hg : g x <;> cases hf : f x <;> simp_all <;> omega

def cnt (ops : Array Oper) (listed : Array Bool) : Nat := ((List.range ops.size).filter fun i => !listed.getD i false).length

theorem getD_set_self {listed : Array Bool} {i : Nat} (h : i < listed.size) : (listed.setIfInBounds i true).getD i false = true := by
  simp [h]

theorem getD_false_true {listed : Array Bool} {i : Nat} (h : i < listed.size) : listed.getD i true = listed.getD i false := by
  simp [h]

theorem cnt_set {listed : Array Bool} {i : Nat} (hs : listed.size = ops.size) (hi : i < ops.size) (hu : listed.getD i false = false) : cnt ops (listed.setIfInBounds i true) < cnt ops listed := by
  refine length_filter_lt ?_ ⟨i, by simpa using hi, by rw [hu]; rfl, by rw [getD_set_self (by omega)]; rfl⟩
  intro x _ hx
  by_cases hxi : i = x
  · subst hxi; rw [getD_set_self (by omega)] at hx; cases hx
  · rwa [getD_set_ne false hxi] at hx

variable {C : World → Prop} {N : Nat} {ents : Nat → Ent} {a0 : Array Value} {Q : Exit → Act → World → Prop} {w1 : Nat}

def asB : Value → Option Bool
  | .bool b => some b
  | _ => none

theorem yielded_asB (tmps : Array Value) (j : Nat) : yielded ops tmps j = ((ops[j]?).bind (·.dst)).bind fun t => asB (tmps.getD t undef) := by
  unfold yielded
  cases hd : (ops[j]?).bind (·.dst) with
  | none => rfl
  | some t =>
    simp only [Option.bind_some]
    by_cases ht : t < tmps.size
    · rw [Array.getElem?_eq_getElem ht]
      simp only [Array.getD, ht, dif_pos]
      show _ = asB tmps[t]
      cases tmps[t] <;> rfl
    · rw [Array.getElem?_eq_none (Nat.le_of_not_lt ht)]
      simp only [Array.getD, ht]
      rfl

theorem yielded_of_getD {tmps tmps' : Array Value} {j : Nat} (h : ∀ t, ((ops[j]?).bind (·.dst)) = some t → tmps.getD t undef = tmps'.getD t undef) : yielded ops tmps j = yielded ops tmps' j := by
  rw [yielded_asB, yielded_asB]
  cases hd : (ops[j]?).bind (·.dst) with
  | none => rfl
  | some t => simp only [Option.bind_some, h t hd]

/-- The tail, in the order of the text. -/
theorem any_tail (hforced : ∀ j oj, N ≤ j → ops[j]? = some oj → ∀ i, i < j → Comes ops j i)
    (hdeps : ∀ j oj, ops[j]? = some oj → ∀ e ∈ oj.after, Region.binds .any e = true → e.on < j) :
    ∀ (fuel M : Nat) (listed : Array Bool) (act : Act) (w : World), N ≤ M → M ≤ ops.size → listed.size = ops.size → (∀ i, listed.getD i false = true ↔ i < M) → ops.size - M ≤ fuel → wpList P ops Q (ops.toList.drop M) act w →
      wpAny P .any ops Q fuel listed act w := by
  intro fuel
  induction fuel with
  | zero =>
    intro M listed act w hN hM hs hl hf h
    have hMe : M = ops.size := by omega
    subst hMe
    refine ⟨?_, ?_⟩
    · refine List.eq_nil_iff_forall_not_mem.2 fun i hi => ?_
      obtain ⟨h0, o, ho, _⟩ := mem_ready.1 hi
      have hlt := (Array.getElem?_eq_some_iff.1 ho).1
      rw [getD_false_true (by omega), (hl i).2 hlt] at h0
      cases h0
    · rw [List.drop_of_length_le (by simp)] at h
      exact h
  | succ fuel ih =>
    intro M listed act w hN hM hs hl hf h
    rcases Nat.lt_or_ge M ops.size with hlt | hge
    · have ho : ops[M]? = some ops[M] := Array.getElem?_eq_getElem hlt
      have hrM : M ∈ Region.ready .any ops listed := by
        refine mem_ready.2 ⟨?_, _, ho, fun e he hb => (hl e.on).2 (hdeps M _ ho e he hb)⟩
        rw [getD_false_true (by omega)]
        cases hh : listed.getD M false with
        | false => rfl
        | true => have := (hl M).1 hh; omega
      refine ⟨fun h0 => (by rw [h0] at hrM; cases hrM), ?_⟩
      intro i hi
      obtain ⟨h0, oi, hoi, hall⟩ := mem_ready.1 hi
      have hilt := (Array.getElem?_eq_some_iff.1 hoi).1
      rw [getD_false_true (by omega)] at h0
      have hMi : M ≤ i := by
        rcases Nat.lt_or_ge i M with h1 | h1
        · rw [(hl i).2 h1] at h0; cases h0
        · exact h1
      have hiM : i = M := by
        rcases Nat.lt_or_ge M i with h1 | h1
        · have := (hforced i oi (by omega) hoi M h1).ready (fun j oj hoj hlj e he hb => (hl e.on).2 (by have := hdeps j oj hoj e he hb; have := (hl j).1 hlj; omega)) hoi hall
          have := (hl M).1 this
          omega
        · omega
      subst hiM
      have hd : ops.toList.drop i = ops[i] :: ops.toList.drop (i + 1) := by
        rw [List.drop_eq_getElem_cons (by simpa using hlt)]
        simp
      rw [hd] at h
      unfold wpList at h
      unfold wpOp
      simp only [ho]
      have next : ∀ act' w', wpList P ops Q (ops.toList.drop (i + 1)) act' w' → wpAny P .any ops Q fuel (listed.setIfInBounds i true) act' w' := fun act' w' h' =>
        ih (i + 1) _ act' w' (by omega) (by omega) (by simpa using hs) (fun j => by
          by_cases hj : i = j
          · subst hj; rw [getD_set_self (by omega)]; simp
          · rw [getD_set_ne false hj, hl j]; omega) (by omega) h'
      split
      · rename_i hw
        rw [if_pos hw] at h
        exact h.imp (Oper.wp_mono next) id
      · rename_i hw
        rw [if_neg hw] at h
        exact next _ _ h
    · have hMe : M = ops.size := by omega
      subst hMe
      refine ⟨fun _ => by rw [List.drop_of_length_le (by simp)] at h; exact h, fun i hi => ?_⟩
      obtain ⟨h0, o, ho, _⟩ := mem_ready.1 hi
      have hlt := (Array.getElem?_eq_some_iff.1 ho).1
      rw [getD_false_true (by omega), (hl i).2 hlt] at h0
      cases h0

theorem put_getD (act : Act) (d : Nat) (v : Value) (t : Nat) (hd : d < act.tmps.size) : (act.put (some d) v).tmps.getD t undef = if t = d then v else act.tmps.getD t undef := by
  simp only [Act.put]
  by_cases ht : t = d
  · subst ht
    simp [hd]
  · simp [Array.getElem?_setIfInBounds_ne (Ne.symm ht), ht]

theorem put_size (act : Act) (d : Option Tmp) (v : Value) : (act.put d v).tmps.size = act.tmps.size := by
  cases d <;> simp [Act.put]

theorem put_defs (act : Act) (d : Option Tmp) (v : Value) : (act.put d v).defers = act.defers := by
  cases d <;> rfl

/-- A world but for one block. -/
structure SameBut (w w' : World) (g : Nat) (ob : Obj) : Prop where
  os : w'.os = w.os
  tape : w'.tape = w.tape
  output : w'.output = w.output
  size : w'.heap.size = w.heap.size
  block : ∀ k, k ≠ g → w'.heap[k]? = w.heap[k]?
  here : w'.heap[g]? = some ob

/-- What is known of stores that may come early: which blocks are new (by what operation), where the others lie, which ones are written, by which operation, and what blocks hold behind so many stores. -/
structure LateD where
  nw : Nat → Option Nat
  oldA : Nat → Nat
  X : Nat → Prop
  tgt : Nat → Nat
  cont : Nat → Nat → Obj

def LateD.adr (D : LateD) (γ : Nat → Nat) (n : Nat) : Nat := match D.nw n with
  | some i => γ i
  | none => D.oldA n

def LateOK (P : Program) (ops : Array Oper) (ents : Nat → Ent) (a0 : Array Value) (N1 : Nat) (D : LateD) (i : Nat) : Prop :=
  ∃ o, ops[i]? = some o ∧ ((o.dst = none ∧ ∀ (act : Act) (w : World) (γ : Nat → Nat),
    (∀ t ∈ o.looksAt ops, act.tmps.getD t undef = match writer ops i t with | some j => (ents j).val (γ j) | none => a0.getD t undef) →
    w.heap[D.adr γ (D.tgt i)]? = some (D.cont (D.tgt i) (i - N1)) →
    ∀ (K : Act → World → Prop) (Q : Exit → Act → World → Prop), (∀ w', SameBut w w' (D.adr γ (D.tgt i)) (D.cont (D.tgt i) (i - N1 + 1)) → K act w') →
      if Region.wanted o (yielded ops act.tmps) = true then o.wp P act w K Q else K (act.put o.dst undef) w) ∨
    ((∀ g, (ents i).val g = (ents i).val 0) ∧ (∀ n, D.cont n (i - N1 + 1) = D.cont n (i - N1)) ∧ ∀ (act : Act) (w : World) (γ : Nat → Nat),
      (∀ t ∈ o.looksAt ops, act.tmps.getD t undef = match writer ops i t with | some j => (ents j).val (γ j) | none => a0.getD t undef) →
      ∀ (K : Act → World → Prop) (Q : Exit → Act → World → Prop), K (act.put o.dst ((ents i).val 0)) w →
        if Region.wanted o (yielded ops act.tmps) = true then o.wp P act w K Q else K (act.put o.dst undef) w))

/-- Whatever order is drawn. -/
theorem any_all {N1 : Nat} {D : LateD} (hNs : N ≤ ops.size) (hN1 : N1 ≤ N)
    (hforced : ∀ j oj, N ≤ j → ops[j]? = some oj → ∀ i, i < j → Comes ops j i)
    (hdeps : ∀ j oj, ops[j]? = some oj → ∀ e ∈ oj.after, Region.binds .any e = true → e.on < j)
    (hpair : ∀ i j oi oj, i < j → j < N → ops[i]? = some oi → ops[j]? = some oj → (oi.dst = none ∨ oi.dst ≠ oj.dst) ∧ (Comes ops j i ∨ oi.apart ops oj = true))
    (hdst : ∀ i o d, i < N → ops[i]? = some o → o.dst = some d → d < a0.size)
    {CI : Nat → World → Prop} {S : Nat → Bool}
    (hCI1 : ∀ i w, CI i w → C w) (hCI2 : ∀ i w, C w → (S i = true → ∀ n, D.X n → w.heap[D.oldA n]? = some (D.cont n 0)) → CI i w)
    (hS : ∀ i, S i = true → ∀ k, N1 ≤ k → k < N → Comes ops k i)
    (hpre : ∀ i, i < N1 → PreOK P (CI i) ops ents a0 i)
    (hlate : ∀ i, N1 ≤ i → i < N → LateOK P ops ents a0 N1 D i)
    (hchain : ∀ i j, N1 ≤ j → j < i → i < N → Comes ops i j)
    (hC1 : ∀ w, C w → w1 ≤ w.heap.size)
    (hCs : ∀ w w' g ob, C w → SameBut w w' g ob → (w1 ≤ g ∨ ∃ n, D.X n ∧ g = D.oldA n) → C w')
    (hnw : ∀ n i, D.nw n = some i → i < N1 ∧ (ents i).obj = some (D.cont n 0))
    (hninj : ∀ n n' i, D.nw n = some i → D.nw n' = some i → n = n')
    (hX : ∀ n, D.X n → D.nw n = none ∧ D.oldA n < w1)
    (hXinj : ∀ n n', D.X n → D.X n' → D.oldA n = D.oldA n' → n = n')
    (htgt : ∀ k, N1 ≤ k → k < N → ((ops[k]?).bind (·.dst) = none → D.nw (D.tgt k) = none → D.X (D.tgt k)) ∧ ∀ j, D.nw (D.tgt k) = some j → Comes ops k j)
    (hstep : ∀ k n, N1 ≤ k → k < N → n ≠ D.tgt k → D.cont n (k - N1 + 1) = D.cont n (k - N1))
    (tail : ∀ (act : Act) (w : World) (γ : Nat → Nat), C w → act.defers = [] → act.tmps.size = a0.size → (∀ n i, D.nw n = some i → w1 ≤ γ i ∧ w.heap[γ i]? = some (D.cont n (N - N1))) →
      (∀ n, D.X n → w.heap[D.oldA n]? = some (D.cont n (N - N1))) →
      (∀ i j, i < N1 → j < N1 → (ents i).obj.isSome = true → (ents j).obj.isSome = true → γ i = γ j → i = j) →
      (∀ t, act.tmps.getD t undef = match writer ops N t with | some i => (ents i).val (γ i) | none => a0.getD t undef) → wpList P ops Q (ops.toList.drop N) act w) :
    ∀ (fuel : Nat) (listed : Array Bool) (act : Act) (w : World) (γ : Nat → Nat) (c : Nat), listed.size = ops.size → (∀ i, N ≤ i → listed.getD i false = false) → c ≤ N - N1 → (∀ i, N1 ≤ i → i < N → (listed.getD i false = true ↔ i < N1 + c)) →
      cnt ops listed ≤ fuel → C w → act.defers = [] → act.tmps.size = a0.size → Closed ops listed →
      (∀ n i, D.nw n = some i → listed.getD i false = true → w1 ≤ γ i ∧ w.heap[γ i]? = some (D.cont n c)) →
      (∀ n, D.X n → w.heap[D.oldA n]? = some (D.cont n c)) →
      (∀ i ob, i < N1 → listed.getD i false = true → (ents i).obj = some ob → γ i < w.heap.size) →
      (∀ i j, i < N1 → j < N1 → listed.getD i false = true → listed.getD j false = true → (ents i).obj.isSome = true → (ents j).obj.isSome = true → γ i = γ j → i = j) →
      (∀ t, act.tmps.getD t undef = slotV ops N ents a0 γ listed t) → wpAny P .any ops Q fuel listed act w := by
  have huniq : ∀ i j t, i < N → j < N → (ops[i]?).bind (·.dst) = some t → (ops[j]?).bind (·.dst) = some t → i = j := by
    have aux : ∀ i j t, i < j → j < N → (ops[i]?).bind (·.dst) = some t → (ops[j]?).bind (·.dst) = some t → False := by
      intro i j t hij hj h1 h2
      have hil : i < ops.size := by omega
      have hjl : j < ops.size := by omega
      have hoi : ops[i]? = some ops[i] := Array.getElem?_eq_getElem hil
      have hoj : ops[j]? = some ops[j] := Array.getElem?_eq_getElem hjl
      rw [hoi] at h1
      rw [hoj] at h2
      simp only [Option.bind_some] at h1 h2
      rcases (hpair i j _ _ hij hj hoi hoj).1 with h | h
      · rw [h] at h1; cases h1
      · exact h (h1.trans h2.symm)
    intro i j t hi hj h1 h2
    rcases Nat.lt_trichotomy i j with h | h | h
    · exact (aux i j t h hj h1 h2).elim
    · exact h
    · exact (aux j i t h hi h2 h1).elim
  have hcont : ∀ n c, c ≤ N - N1 → (∀ k, N1 ≤ k → k < N1 + c → D.tgt k ≠ n) → D.cont n c = D.cont n 0 := by
    intro n c
    induction c with
    | zero => intro _ _; rfl
    | succ c ih =>
      intro hc hk
      have h1 := hstep (N1 + c) n (by omega) (by omega) (Ne.symm (hk (N1 + c) (by omega) (by omega)))
      rw [show N1 + c - N1 = c by omega] at h1
      rw [h1]
      exact ih (by omega) (fun k h2 h3 => hk k h2 (by omega))
  intro fuel
  induction fuel with
  | zero =>
    intro listed act w γ c hs htl hcN hcl hf hw hd hsz hdn hγ hγX hγl hγu hslot
    have hall : ∀ i, i < ops.size → listed.getD i false = true := by
      intro i hi
      cases hh : listed.getD i false with
      | true => rfl
      | false => have := cnt_set (ops := ops) hs hi hh; omega
    have hN : N = ops.size := by
      rcases Nat.lt_or_ge N ops.size with h | h
      · have := hall N h; rw [htl N (Nat.le_refl _)] at this; cases this
      · omega
    have hcE : c = N - N1 := by
      rcases Nat.lt_or_ge (N1 + c) N with h | h
      · have := (hcl (N1 + c) (by omega) h).1 (hall _ (by omega))
        omega
      · omega
    refine any_tail hforced hdeps 0 N listed act w (Nat.le_refl _) hNs hs (fun i => ⟨fun h => ?_, fun h => hall i (by omega)⟩) (by omega) ?_
    · rcases Nat.lt_or_ge i N with h1 | h1
      · exact h1
      · rw [htl i h1] at h; cases h
    · refine tail act w γ hw hd hsz (fun n i hn => by rw [← hcE]; exact hγ n i hn (hall i (by have := (hnw n i hn).1; omega))) (fun n hn => by rw [← hcE]; exact hγX n hn) (fun i j hi hj => hγu i j hi hj (hall i (by omega)) (hall j (by omega))) (fun t => ?_)
      rw [hslot t]
      unfold slotV
      cases hwr : writer ops N t with
      | none => rfl
      | some i => simp only [hall i (by have := (writer_some hwr).1; omega), if_true]
  | succ fuel ih =>
    intro listed act w γ c hs htl hcN hcl hf hw hd hsz hdn hγ hγX hγl hγu hslot
    by_cases hall : ∀ i, i < N → listed.getD i false = true
    · have hcE : c = N - N1 := by
        rcases Nat.lt_or_ge (N1 + c) N with h | h
        · have := (hcl (N1 + c) (by omega) h).1 (hall _ (by omega))
          omega
        · omega
      refine any_tail hforced hdeps (fuel + 1) N listed act w (Nat.le_refl _) hNs hs (fun i => ⟨fun h => ?_, hall i⟩) ?_ ?_
      · rcases Nat.lt_or_ge i N with h1 | h1
        · exact h1
        · rw [htl i h1] at h; cases h
      · have : ops.size - N ≤ cnt ops listed := by
          have h1 : ((List.range ops.size).filter fun i => !listed.getD i false) = (List.range ops.size).filter fun i => decide (N ≤ i) := by
            apply List.filter_congr
            intro i _
            rcases Nat.lt_or_ge i N with h | h
            · rw [hall i h]; simp; omega
            · rw [htl i h]; simp; omega
          have h2 : ∀ n, ((List.range n).filter fun i => decide (N ≤ i)).length = n - N := by
            intro n
            induction n with
            | zero => simp
            | succ n ihn =>
              rw [List.range_succ, List.filter_append, List.length_append, ihn]
              by_cases hn : N ≤ n
              · simp [hn]; omega
              · simp [hn]; omega
          unfold cnt
          rw [h1, h2]
          exact Nat.le_refl _
        omega
      · refine tail act w γ hw hd hsz (fun n i hn => by rw [← hcE]; exact hγ n i hn (hall i (by have := (hnw n i hn).1; omega))) (fun n hn => by rw [← hcE]; exact hγX n hn) (fun i j hi hj => hγu i j hi hj (hall i (by omega)) (hall j (by omega))) (fun t => ?_)
        rw [hslot t]
        unfold slotV
        cases hwr : writer ops N t with
        | none => rfl
        | some i => simp only [hall i (by have := (writer_some hwr).1; omega), if_true]
    · have hex : ∃ i, i < N ∧ listed.getD i false = false ∧ ∀ j, j < i → listed.getD j false = true := by
        have : ∃ i, i < N ∧ listed.getD i false = false := by
          refine Classical.byContradiction fun hne => hall fun i hi => ?_
          cases hh : listed.getD i false with
          | true => rfl
          | false => exact absurd ⟨i, hi, hh⟩ hne
        obtain ⟨i, hi, hh⟩ := this
        induction i using Nat.strongRecOn with
        | _ i ihi =>
          by_cases hm : ∀ j, j < i → listed.getD j false = true
          · exact ⟨i, hi, hh, hm⟩
          · have : ∃ j, j < i ∧ listed.getD j false = false := by
              refine Classical.byContradiction fun hne => hm fun j hj => ?_
              cases hhj : listed.getD j false with
              | true => rfl
              | false => exact absurd ⟨j, hj, hhj⟩ hne
            obtain ⟨j, hj, hhj⟩ := this
            exact ihi j hj (by omega) hhj
      obtain ⟨m, hmN, hmu, hmall⟩ := hex
      have hrm : m ∈ Region.ready .any ops listed := by
        have hml : m < ops.size := by omega
        refine mem_ready.2 ⟨by rw [getD_false_true (by omega)]; exact hmu, _, Array.getElem?_eq_getElem hml, fun e he hb => hmall e.on (hdeps m _ (Array.getElem?_eq_getElem hml) e he hb)⟩
      refine ⟨fun h0 => (by rw [h0] at hrm; cases hrm), ?_⟩
      intro i hi
      obtain ⟨h0, oi, hoi, hrdy⟩ := mem_ready.1 hi
      have hil := (Array.getElem?_eq_some_iff.1 hoi).1
      rw [getD_false_true (by omega)] at h0
      have hiN : i < N := by
        rcases Nat.lt_or_ge i N with h | h
        · exact h
        · have := (hforced i oi h hoi m (by omega)).ready hdn hoi hrdy
          rw [hmu] at this
          cases this
      have hdn' : Closed ops (listed.setIfInBounds i true) := by
        intro j oj hoj hlj e he hb
        by_cases hji : i = j
        · subst hji
          rw [hoi] at hoj
          simp only [Option.some.injEq] at hoj
          subst hoj
          exact getD_set_true (hrdy e he hb)
        · rw [getD_set_ne false hji] at hlj
          exact getD_set_true (hdn j oj hoj hlj e he hb)
      have hsl : ∀ (v : Value) (γ' : Nat → Nat), (∀ j, j ≠ i → γ' j = γ j) → v = (ents i).val (γ' i) → ∀ t, (act.put oi.dst v).tmps.getD t undef = slotV ops N ents a0 γ' (listed.setIfInBounds i true) t := by
        intro v γ' hγ' hv t
        have hother : ∀ k, writer ops N t = some k → k ≠ i → slotV ops N ents a0 γ' (listed.setIfInBounds i true) t = slotV ops N ents a0 γ listed t := by
          intro k hk hki
          unfold slotV
          simp only [hk, getD_set_ne false (Ne.symm hki), hγ' k hki]
        have hnone : writer ops N t = none → slotV ops N ents a0 γ' (listed.setIfInBounds i true) t = slotV ops N ents a0 γ listed t := by
          intro hk
          unfold slotV
          simp only [hk]
        cases hdo : oi.dst with
        | none =>
          show act.tmps.getD t undef = _
          rw [hslot t]
          cases hk : writer ops N t with
          | none => exact (hnone hk).symm
          | some k =>
            refine (hother k hk ?_).symm
            rintro rfl
            have := (writer_some hk).2
            rw [hoi] at this
            simp [hdo] at this
        | some d =>
          rw [put_getD act d v t (by rw [hsz]; exact hdst i oi d hiN hoi hdo)]
          split
          · rename_i htd
            subst htd
            have hwi : writer ops N t = some i := writer_eq hiN (by rw [hoi]; exact hdo) (fun k hk hkd => huniq k i t (by omega) hiN hkd (by rw [hoi]; exact hdo))
            unfold slotV
            simp only [hwi]
            rw [getD_set_self (by omega), if_pos rfl, hv]
          · rename_i htd
            rw [hslot t]
            cases hk : writer ops N t with
            | none => exact (hnone hk).symm
            | some k =>
              refine (hother k hk ?_).symm
              rintro rfl
              have := (writer_some hk).2
              rw [hoi] at this
              simp only [Option.bind_some, hdo, Option.some.injEq] at this
              exact htd this.symm
      rcases Nat.lt_or_ge i N1 with hiN1 | hiN1
      · -- an operation ahead of the stores
        obtain ⟨o, ho, hval, look, opv, hlk, hopv, hbeh⟩ := hpre i hiN1
        rw [hoi] at ho
        simp only [Option.some.injEq] at ho
        subst ho
        have hlook : ∀ t ∈ look, act.tmps.getD t undef = opv t := by
          intro t ht0
          have hl := hopv t ht0
          have ht := hlk t ht0
          rw [hslot t]
          unfold lexv at hl
          cases hwi : writer ops i t with
          | some j =>
            rw [hwi] at hl
            dsimp only at hl
            obtain ⟨hji, hjd⟩ := writer_some hwi
            split at hl
            · rename_i hob
              simp only [Option.some.injEq] at hl
              have hjN : j < N1 := by omega
              have hjl : j < ops.size := by omega
              have hoj : ops[j]? = some ops[j] := Array.getElem?_eq_getElem hjl
              have hlj : listed.getD j false = true := by
                rcases (hpair j i _ _ hji hiN hoj hoi).2 with hr | hap
                · exact hr.ready hdn hoi hrdy
                · rw [hoj] at hjd
                  exact absurd ht ((Oper.apart_spec hap).1 t hjd)
              have hwN : writer ops N t = some j := writer_eq (by omega) hjd (fun k hk hkd => huniq k j t (by omega) (by omega) hkd hjd)
              unfold slotV
              simp only [hwN, hlj, if_true]
              obtain ⟨_, _, hvj, _⟩ := hpre j hjN
              rw [hvj (by simpa using hob) (γ j), hl]
            · cases hl
          | none =>
            rw [hwi] at hl
            simp only [Option.some.injEq] at hl
            rw [← hl]
            unfold slotV
            cases hwN : writer ops N t with
            | none => rfl
            | some k =>
              obtain ⟨hkN, hkd⟩ := writer_some hwN
              have hki : i ≤ k := by
                rcases Nat.lt_or_ge k i with h | h
                · exact absurd hkd (writer_none hwi k h)
                · exact h
              have hku : listed.getD k false = false := by
                rcases Nat.lt_or_ge i k with h | h
                · have hkl : k < ops.size := by omega
                  have hok : ops[k]? = some ops[k] := Array.getElem?_eq_getElem hkl
                  rcases (hpair i k _ _ h (by omega) hoi hok).2 with hr | hap
                  · cases hh : listed.getD k false with
                    | false => rfl
                    | true =>
                      have := hr.listed hdn hh
                      rw [h0] at this
                      cases this
                  · rw [hok] at hkd
                    exact absurd ht ((Oper.apart_spec hap).2.2 t hkd)
                · have : k = i := by omega
                  subst this
                  exact h0
              simp only [hku, Bool.false_eq_true, if_false]
        have hwI : CI i w := hCI2 i w hw (fun hSi n hn => by
          have hc0 : c = 0 := by
            rcases Nat.eq_zero_or_pos c with h | h
            · exact h
            · have := (hS i hSi N1 (Nat.le_refl _) (by omega)).listed hdn ((hcl N1 (Nat.le_refl _) (by omega)).2 (by omega))
              rw [h0] at this
              cases this
          rw [← hc0]
          exact hγX n hn)
        have hB := hbeh act w hwI hsz hd hlook
        have hnext : ∀ (v : Value) (γ' : Nat → Nat) (w' : World), (∀ j, j ≠ i → γ' j = γ j) → v = (ents i).val (γ' i) → C w' → Below w.heap.size w w' → (∀ ob, (ents i).obj = some ob → w'.heap[γ' i]? = some ob ∧ w.heap.size ≤ γ' i) →
            wpAny P .any ops Q fuel (listed.setIfInBounds i true) (act.put oi.dst v) w' := by
          intro v γ' w' hγ' hv hw' hbel hnewb
          refine ih _ _ w' γ' c (by simpa using hs) (fun j hj => by rw [getD_set_ne false (by omega)]; exact htl j hj) hcN (fun j h1 h2 => by rw [getD_set_ne false (by omega)]; exact hcl j h1 h2) (by have := cnt_set (ops := ops) hs hil h0; omega) hw' (by rw [put_defs]; exact hd) (by rw [put_size]; exact hsz) hdn' ?_ ?_ ?_ ?_ (hsl v γ' hγ' hv)
          · intro n j hn hlj
            by_cases hji : i = j
            · subst hji
              obtain ⟨h1, h2⟩ := hnewb _ (hnw n i hn).2
              refine ⟨Nat.le_trans (hC1 w hw) h2, ?_⟩
              rw [h1, hcont n c hcN]
              intro k hk1 hk2 hkt
              have hkl := (hcl k hk1 (by omega)).2 hk2
              have := ((htgt k hk1 (by omega)).2 i (by rw [hkt]; exact hn)).listed hdn hkl
              rw [h0] at this
              cases this
            · rw [getD_set_ne false hji] at hlj
              obtain ⟨h1, h2⟩ := hγ n j hn hlj
              rw [hγ' j (Ne.symm hji)]
              exact ⟨h1, by rw [hbel.block _ (heap_lt h2)]; exact h2⟩
          · intro n hn
            have h2 := hγX n hn
            rw [hbel.block _ (heap_lt h2)]
            exact h2
          · intro j ob hj hlj hob
            by_cases hji : i = j
            · subst hji
              exact heap_lt (hnewb ob hob).1
            · rw [getD_set_ne false hji] at hlj
              rw [hγ' j (Ne.symm hji)]
              exact Nat.lt_of_lt_of_le (hγl j ob hj hlj hob) hbel.size
          · intro j k hj hk hlj hlk hoj hok heq
            by_cases hji : i = j <;> by_cases hki : i = k
            · omega
            · subst hji
              rw [getD_set_ne false hki] at hlk
              rw [hγ' k (Ne.symm hki)] at heq
              obtain ⟨ob, hob⟩ := Option.isSome_iff_exists.1 hoj
              obtain ⟨ob', hob'⟩ := Option.isSome_iff_exists.1 hok
              have := (hnewb ob hob).2
              have := hγl k ob' hk hlk hob'
              omega
            · subst hki
              rw [getD_set_ne false hji] at hlj
              rw [hγ' j (Ne.symm hji)] at heq
              obtain ⟨ob, hob⟩ := Option.isSome_iff_exists.1 hok
              obtain ⟨ob', hob'⟩ := Option.isSome_iff_exists.1 hoj
              have := (hnewb ob hob).2
              have := hγl j ob' hj hlj hob'
              omega
            · rw [getD_set_ne false hji] at hlj
              rw [getD_set_ne false hki] at hlk
              rw [hγ' j (Ne.symm hji), hγ' k (Ne.symm hki)] at heq
              exact hγu j k hj hk hlj hlk hoj hok heq
        have hfin := hB (wpAny P .any ops Q fuel (listed.setIfInBounds i true)) Q (by
          cases hob : (ents i).obj with
          | none =>
            intro w' hw' hbel
            exact hnext _ γ w' (fun _ _ => rfl) (hval hob (γ i)).symm (hCI1 i w' hw') hbel (fun ob h => by rw [hob] at h; cases h)
          | some ob =>
            intro n w' hw' hbel hn hnew
            refine hnext _ (fun j => if j = i then n else γ j) w' (fun j hj => by simp [hj]) (by simp) (hCI1 i w' hw') hbel (fun ob' h => ?_)
            rw [hob] at h
            simp only [Option.some.injEq] at h
            subst h
            simp only [if_true]
            exact ⟨hnew, hn⟩)
        unfold wpOp
        simp only [hoi]
        split
        · rename_i hwt
          rw [if_pos hwt] at hfin
          exact .inl hfin
        · rename_i hwt
          rw [if_neg hwt] at hfin
          exact hfin
      · -- a store
        have hic : i = N1 + c := by
          have h1 : ¬ i < N1 + c := fun h => by rw [(hcl i hiN1 hiN).2 h] at h0; cases h0
          rcases Nat.lt_or_ge (N1 + c) i with h2 | h2
          · have := (hchain i (N1 + c) (by omega) h2 hiN).ready hdn hoi hrdy
            have := (hcl (N1 + c) (by omega) (by omega)).1 this
            omega
          · omega
        have hicc : i - N1 = c := by omega
        obtain ⟨o, ho, hlt⟩ := hlate i hiN1 hiN
        rw [hoi] at ho
        simp only [Option.some.injEq] at ho
        subst ho
        obtain ⟨htX, htR⟩ := htgt i hiN1 hiN
        have hlook : ∀ t ∈ oi.looksAt ops, act.tmps.getD t undef = match writer ops i t with | some j => (ents j).val (γ j) | none => a0.getD t undef := by
          intro t ht
          rw [hslot t]
          unfold slotV
          cases hwN : writer ops N t with
          | none =>
            cases hwi : writer ops i t with
            | none => rfl
            | some j =>
              obtain ⟨hji, hjd⟩ := writer_some hwi
              exact absurd hjd (writer_none hwN j (by omega))
          | some j =>
            obtain ⟨hjN, hjd⟩ := writer_some hwN
            have hjl : j < ops.size := by omega
            have hoj : ops[j]? = some ops[j] := Array.getElem?_eq_getElem hjl
            rcases Nat.lt_or_ge j i with hji | hji
            · have hlj : listed.getD j false = true := by
                rcases (hpair j i _ _ hji hiN hoj hoi).2 with hr | hap
                · exact hr.ready hdn hoi hrdy
                · rw [hoj] at hjd
                  exact absurd ht ((Oper.apart_spec hap).1 t hjd)
              have hwi : writer ops i t = some j := writer_eq hji hjd (fun k hk hkd => huniq k j t (by omega) hjN hkd hjd)
              simp only [hwi, hlj, if_true]
            · have hwi : writer ops i t = none := by
                cases hwi : writer ops i t with
                | none => rfl
                | some k =>
                  obtain ⟨hki, hkd⟩ := writer_some hwi
                  have := huniq k j t (by omega) hjN hkd hjd
                  omega
              have hju : listed.getD j false = false := by
                rcases Nat.lt_or_ge i j with h | h
                · rcases (hpair i j _ _ h hjN hoi hoj).2 with hr | hap
                  · cases hh : listed.getD j false with
                    | false => rfl
                    | true =>
                      have := hr.listed hdn hh
                      rw [h0] at this
                      cases this
                  · rw [hoj] at hjd
                    exact absurd ht ((Oper.apart_spec hap).2.2 t hjd)
                · have : j = i := by omega
                  subst this
                  exact h0
              simp only [hwi, hju, Bool.false_eq_true, if_false]
        rcases hlt with ⟨hdo, hst⟩ | ⟨hv0, hsame, hst⟩
        case inr =>
          have hfin := hst act w γ hlook (wpAny P .any ops Q fuel (listed.setIfInBounds i true)) Q (by
            refine ih _ (act.put oi.dst ((ents i).val 0)) w γ (c + 1) (by simpa using hs) (fun j hj => by rw [getD_set_ne false (by omega)]; exact htl j hj) (by omega) (fun j h1 h2 => ?_) (by have := cnt_set (ops := ops) hs hil h0; omega) hw (by rw [put_defs]; exact hd) (by rw [put_size]; exact hsz) hdn' ?_ ?_ ?_ ?_ (hsl _ γ (fun _ _ => rfl) (hv0 _).symm)
            · by_cases hji : i = j
              · subst hji
                rw [getD_set_self (by omega)]
                simp; omega
              · rw [getD_set_ne false hji, hcl j h1 h2]
                omega
            · intro n j hn hlj
              have hji : i ≠ j := by have := (hnw n j hn).1; omega
              rw [getD_set_ne false hji] at hlj
              have := hsame n
              rw [hicc] at this
              rw [this]
              exact hγ n j hn hlj
            · intro n hn
              have := hsame n
              rw [hicc] at this
              rw [this]
              exact hγX n hn
            · intro j ob hj hlj hob
              rw [getD_set_ne false (by omega)] at hlj
              exact hγl j ob hj hlj hob
            · intro j k hj hk hlj hlk
              rw [getD_set_ne false (by omega)] at hlj hlk
              exact hγu j k hj hk hlj hlk)
          unfold wpOp
          simp only [hoi]
          split
          · rename_i hwt
            rw [if_pos hwt] at hfin
            exact .inl hfin
          · rename_i hwt
            rw [if_neg hwt] at hfin
            exact hfin
        have htX := htX (by rw [hoi]; exact hdo)
        have hadr : w.heap[D.adr γ (D.tgt i)]? = some (D.cont (D.tgt i) (i - N1)) := by
          rw [hicc]
          unfold LateD.adr
          cases hn : D.nw (D.tgt i) with
          | some j => exact (hγ _ j hn ((htR j hn).ready hdn hoi hrdy)).2
          | none => exact hγX _ (htX hn)
        have hfin := hst act w γ hlook hadr (wpAny P .any ops Q fuel (listed.setIfInBounds i true)) Q (by
          intro w' hsb
          rw [hicc] at hsb
          have hgw : w1 ≤ D.adr γ (D.tgt i) ∨ ∃ n, D.X n ∧ D.adr γ (D.tgt i) = D.oldA n := by
            unfold LateD.adr
            cases hn : D.nw (D.tgt i) with
            | some j => exact .inl (hγ _ j hn ((htR j hn).ready hdn hoi hrdy)).1
            | none => exact .inr ⟨_, htX hn, rfl⟩
          refine ih _ act w' γ (c + 1) (by simpa using hs) (fun j hj => by rw [getD_set_ne false (by omega)]; exact htl j hj) (by omega) (fun j h1 h2 => ?_) (by have := cnt_set (ops := ops) hs hil h0; omega) (hCs w w' _ _ hw hsb hgw) hd hsz hdn' ?_ ?_ ?_ ?_ ?_
          · by_cases hji : i = j
            · subst hji
              rw [getD_set_self (by omega)]
              simp; omega
            · rw [getD_set_ne false hji, hcl j h1 h2]
              omega
          · intro n j hn hlj
            have hji : i ≠ j := by have := (hnw n j hn).1; omega
            rw [getD_set_ne false hji] at hlj
            obtain ⟨h1, h2⟩ := hγ n j hn hlj
            refine ⟨h1, ?_⟩
            by_cases hnt : n = D.tgt i
            · subst hnt
              have := hsb.here
              unfold LateD.adr at this
              rw [hn] at this
              exact this
            · have h3 := hstep i n hiN1 hiN hnt
              rw [hicc] at h3
              rw [h3, hsb.block, h2]
              unfold LateD.adr
              cases hn' : D.nw (D.tgt i) with
              | some j' =>
                intro heq
                have hlj' := (htR j' hn').ready hdn hoi hrdy
                have := hγu j j' (hnw n j hn).1 (hnw _ j' hn').1 hlj hlj' (by rw [(hnw n j hn).2]; rfl) (by rw [(hnw _ j' hn').2]; rfl) heq
                subst this
                exact hnt (hninj _ _ _ hn hn')
              | none =>
                have := (hX _ (htX hn')).2
                intro heq
                have heq' : γ j = D.oldA (D.tgt i) := heq
                omega
          · intro n hn
            have h2 := hγX n hn
            by_cases hnt : n = D.tgt i
            · subst hnt
              have := hsb.here
              unfold LateD.adr at this
              rw [(hX _ hn).1] at this
              exact this
            · have h3 := hstep i n hiN1 hiN hnt
              rw [hicc] at h3
              rw [h3, hsb.block, h2]
              unfold LateD.adr
              cases hn' : D.nw (D.tgt i) with
              | some j' =>
                have h4 := (hγ _ j' hn' ((htR j' hn').ready hdn hoi hrdy)).1
                have := (hX _ hn).2
                intro heq
                have heq' : D.oldA n = γ j' := heq
                omega
              | none =>
                intro heq
                exact hnt (hXinj _ _ hn (htX hn') heq)
          · intro j ob hj hlj hob
            rw [getD_set_ne false (by omega)] at hlj
            rw [hsb.size]
            exact hγl j ob hj hlj hob
          · intro j k hj hk hlj hlk
            rw [getD_set_ne false (by omega)] at hlj hlk
            exact hγu j k hj hk hlj hlk
          · intro t
            rw [hslot t]
            unfold slotV
            cases hwN : writer ops N t with
            | none => rfl
            | some j =>
              have hjd := (writer_some hwN).2
              have hij : i ≠ j := by
                rintro rfl
                rw [hoi] at hjd
                simp [hdo] at hjd
              simp only [getD_set_ne false hij])
        unfold wpOp
        simp only [hoi]
        split
        · rename_i hwt
          rw [if_pos hwt] at hfin
          exact .inl hfin
        · rename_i hwt
          rw [if_neg hwt] at hfin
          exact hfin
end
end Go.Sx
