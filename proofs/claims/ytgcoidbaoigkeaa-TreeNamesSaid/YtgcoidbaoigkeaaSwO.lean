/-
  Symbolic execution: a region that draws its order: whatever order is drawn.
-/
import Derived.Test.YtgcoidbaoigkeaaSwL
namespace Go.Sx
open Go.RowKit

structure Ent where
  val : Nat → Value
  obj : Option Obj

inductive Comes (ops : Array Oper) : Nat → Nat → Prop
  | edge {k i : Nat} {o : Oper} {e : Edge} : ops[k]? = some o → e ∈ o.after → Region.binds .any e = true → e.on = i → Comes ops k i
  | step {k j i : Nat} {o : Oper} {e : Edge} : ops[k]? = some o → e ∈ o.after → Region.binds .any e = true → e.on = j → Comes ops j i → Comes ops k i

def Closed (ops : Array Oper) (listed : Array Bool) : Prop :=
  ∀ j oj, ops[j]? = some oj → listed.getD j false = true → ∀ e ∈ oj.after, Region.binds .any e = true → listed.getD e.on false = true

theorem Comes.listed {ops : Array Oper} {listed : Array Bool} (hc : Closed ops listed) {k i : Nat} (h : Comes ops k i) : listed.getD k false = true → listed.getD i false = true := by
  induction h with
  | edge ho he hb hon => intro hk; rw [← hon]; exact hc _ _ ho hk _ he hb
  | step ho he hb hon _ ih => intro hk; exact ih (by rw [← hon]; exact hc _ _ ho hk _ he hb)

theorem Comes.ready {ops : Array Oper} {listed : Array Bool} (hc : Closed ops listed) {k i : Nat} {o : Oper} (ho : ops[k]? = some o) (hr : ∀ e ∈ o.after, Region.binds .any e = true → listed.getD e.on false = true) (h : Comes ops k i) : listed.getD i false = true := by
  cases h with
  | edge ho' he hb hon =>
    rw [ho] at ho'
    simp only [Option.some.injEq] at ho'
    subst ho'
    rw [← hon]; exact hr _ he hb
  | step ho' he hb hon hrest =>
    rw [ho] at ho'
    simp only [Option.some.injEq] at ho'
    subst ho'
    exact hrest.listed hc (by rw [← hon]; exact hr _ he hb)

theorem Comes.trans {ops : Array Oper} {k j i : Nat} (h : Comes ops k j) (h' : Comes ops j i) : Comes ops k i := by
  induction h with
  | edge ho he hb hon => exact .step ho he hb hon h'
  | step ho he hb hon _ ih => exact .step ho he hb hon (ih h')

theorem masks_reach {ops : Array Oper} {k i : Nat} (h : behind (masks ops) k i = true) : Comes ops k i := by
  have tb : ∀ (l : List Nat) (ms : List Nat) (m i : Nat), (l.foldl (fun m j => (m ||| ms.getD j 0) ||| (1 <<< j)) m).testBit i = true → m.testBit i = true ∨ ∃ j ∈ l, j = i ∨ (ms.getD j 0).testBit i = true := by
    intro l
    induction l with
    | nil => intro ms m i h; exact .inl h
    | cons j l ih =>
      intro ms m i h
      rw [List.foldl_cons] at h
      rcases ih ms _ i h with h | ⟨j', hj', h⟩
      · rw [Nat.testBit_or, Nat.testBit_or, Bool.or_eq_true, Bool.or_eq_true] at h
        rcases h with (h | h) | h
        · exact .inl h
        · exact .inr ⟨j, by simp, .inr h⟩
        · refine .inr ⟨j, by simp, .inl ?_⟩
          rw [Nat.one_shiftLeft, Nat.testBit_two_pow] at h
          simpa using h
      · exact .inr ⟨j', by simp [hj'], h⟩
  have key : ∀ (l pre : List Oper) (ms : List Nat), ops.toList = pre ++ l → ms.length = pre.length → (∀ k i, (ms.getD k 0).testBit i = true → Comes ops k i) → ∀ k i, ((masksAux l ms).getD k 0).testBit i = true → Comes ops k i := by
    intro l
    induction l with
    | nil => intro pre ms _ _ h k i hk; exact h k i hk
    | cons o l ih =>
      intro pre ms hl hlen h k i hk
      refine ih (pre ++ [o]) (ms ++ [maskOf ms o]) (by simp [hl]) (by simp [hlen]) ?_ k i hk
      intro k i hk
      rcases Nat.lt_trichotomy k ms.length with hlt | heq | hgt
      · rw [List.getD, List.getElem?_append_left hlt] at hk
        exact h k i hk
      · subst heq
        simp only [List.getD, List.getElem?_concat_length, Option.getD_some] at hk
        have ho : ops[ms.length]? = some o := by
          rw [← Array.getElem?_toList, hl, hlen]; simp
        rcases tb _ _ _ _ hk with h0 | ⟨j, hj, h0⟩
        · simp at h0
        · obtain ⟨e, he, rfl⟩ := List.mem_map.1 hj
          obtain ⟨h1, h2⟩ := List.mem_filter.1 he
          rcases h0 with h0 | h0
          · exact .edge ho (by simpa using h1) h2 h0
          · exact .step ho (by simpa using h1) h2 rfl (h _ _ h0)
      · rw [List.getD, List.getElem?_eq_none (by simp; omega)] at hk
        simp at hk
  exact key ops.toList [] [] rfl rfl (fun k i h => by simp [List.getD] at h) k i h

section
variable {P : Program} {ops : Array Oper}

theorem writer_some {n t i : Nat} (h : writer ops n t = some i) : i < n ∧ (ops[i]?).bind (·.dst) = some t := by
  have h1 := List.mem_of_find?_eq_some h
  have h2 := List.find?_some h
  exact ⟨by simpa using h1, by simpa using h2⟩

theorem writer_none {n t : Nat} (h : writer ops n t = none) : ∀ i, i < n → (ops[i]?).bind (·.dst) ≠ some t := by
  intro i hi hd
  have := List.find?_eq_none.1 h i (by simpa using hi)
  simp [hd] at this

theorem writer_eq {n t i : Nat} (hi : i < n) (hd : (ops[i]?).bind (·.dst) = some t) (hu : ∀ j, j < n → (ops[j]?).bind (·.dst) = some t → j = i) : writer ops n t = some i := by
  cases hw : writer ops n t with
  | none => exact absurd hd (writer_none hw i hi)
  | some j =>
    obtain ⟨h1, h2⟩ := writer_some hw
    rw [hu j h1 h2]

def slotV (ops : Array Oper) (N : Nat) (ents : Nat → Ent) (a0 : Array Value) (γ : Nat → Nat) (listed : Array Bool) (t : Nat) : Value :=
  match writer ops N t with
  | some i => if listed.getD i false then (ents i).val (γ i) else a0.getD t undef
  | none => a0.getD t undef

def lexv (ops : Array Oper) (ents : Nat → Ent) (a0 : Array Value) (i t : Nat) : Option Value :=
  match writer ops i t with
  | some j => if (ents j).obj.isNone then some ((ents j).val 0) else none
  | none => some (a0.getD t undef)

def Beh (P : Program) (C : World → Prop) (ops : Array Oper) (o : Oper) (ent : Ent) (act : Act) (w : World) : Prop :=
  ∀ (K : Act → World → Prop) (Q : Exit → Act → World → Prop),
    (match ent.obj with
      | none => ∀ w', C w' → Below w.heap.size w w' → K (act.put o.dst (ent.val 0)) w'
      | some ob => ∀ n w', C w' → Below w.heap.size w w' → w.heap.size ≤ n → w'.heap[n]? = some ob → K (act.put o.dst (ent.val n)) w') →
    if Region.wanted o (yielded ops act.tmps) = true then o.wp P act w K Q else K (act.put o.dst undef) w

def PreOK (P : Program) (C : World → Prop) (ops : Array Oper) (ents : Nat → Ent) (a0 : Array Value) (i : Nat) : Prop :=
  ∃ o, ops[i]? = some o ∧ ((ents i).obj = none → ∀ n, (ents i).val n = (ents i).val 0) ∧ ∃ (look : List Tmp) (opv : Tmp → Value), (∀ t ∈ look, t ∈ o.looksAt ops) ∧ (∀ t ∈ look, lexv ops ents a0 i t = some (opv t)) ∧
    ∀ (act : Act) (w : World), C w → act.tmps.size = a0.size → act.defers = [] → (∀ t ∈ look, act.tmps.getD t undef = opv t) → Beh P C ops o (ents i) act w

theorem length_filter_lt {f g : Nat → Bool} : ∀ {l : List Nat}, (∀ x ∈ l, g x = true → f x = true) → (∃ i ∈ l, f i = true ∧ g i = false) → (l.filter g).length < (l.filter f).length
  | [], _, h => by obtain ⟨i, hi, _⟩ := h; cases hi
  | x :: l, h1, h2 => by
    have hle : ∀ {l : List Nat}, (∀ x ∈ l, g x = true → f x = true) → (l.filter g).length ≤ (l.filter f).length := by
      intro l
      induction l with
      | nil => intro _; simp
      | cons y l ih =>
        intro h
        have := ih (fun z hz => h z (by simp [hz]))
        have hy := h y (by simp)
        simp only [List.filter_cons]
        cases hg : g y <;> cases hf : f y <;> simp_all <;> omega
    have hx := h1 x (by simp)
    have hl := fun z hz => h1 z (List.mem_cons_of_mem x hz)
    have hle' := hle hl
    obtain ⟨i, hi, hfi, hgi⟩ := h2
    simp only [List.filter_cons]
    rcases List.mem_cons.1 hi with rfl | hi
    · simp [hfi, hgi]; omega
    · have := length_filter_lt hl ⟨i, hi, hfi, hgi⟩
      cases hg : g x <;> cases hf : f x <;> simp_all <;> omega

def cnt (ops : Array Oper) (listed : Array Bool) : Nat := ((List.range ops.size).filter fun i => !listed.getD i false).length

theorem getD_set_self {listed : Array Bool} {i : Nat} (h : i < listed.size) : (listed.setIfInBounds i true).getD i false = true := by
  simp [h]

theorem getD_false_true {listed : Array Bool} {i : Nat} (h : i < listed.size) : listed.getD i true = listed.getD i false := by
  simp [h]

theorem cnt_set {listed : Array Bool} {i : Nat} (hs : listed.size = ops.size) (hi : i < ops.size) (hu : listed.getD i false = false) : cnt ops (listed.setIfInBounds i true) < cnt ops listed := by
  refine length_filter_lt ?_ ⟨i, by simpa using hi, by rw [hu]; rfl, by rw [getD_set_self (by omega)]; rfl⟩
  intro x _ hx
  by_cases hxi : i = x
  · subst hxi; rw [getD_set_self (by omega)] at hx; cases hx
  · rwa [getD_set_ne false hxi] at hx

variable {C : World → Prop} {N : Nat} {ents : Nat → Ent} {a0 : Array Value} {Q : Exit → Act → World → Prop} {w1 : Nat}

def asB : Value → Option Bool
  | .bool b => some b
  | _ => none

theorem yielded_asB (tmps : Array Value) (j : Nat) : yielded ops tmps j = ((ops[j]?).bind (·.dst)).bind fun t => asB (tmps.getD t undef) := by
  unfold yielded
  cases hd : (ops[j]?).bind (·.dst) with
  | none => rfl
  | some t =>
    simp only [Option.bind_some]
    by_cases ht : t < tmps.size
    · rw [Array.getElem?_eq_getElem ht]
      simp only [Array.getD, ht, dif_pos]
      show _ = asB tmps[t]
      cases tmps[t] <;> rfl
    · rw [Array.getElem?_eq_none (Nat.le_of_not_lt ht)]
      simp only [Array.getD, ht]
      rfl

theorem any_tail (hforced : ∀ j oj, N ≤ j → ops[j]? = some oj → ∀ i, i < j → Comes ops j i)
    (hdeps : ∀ j oj, ops[j]? = some oj → ∀ e ∈ oj.after, Region.binds .any e = true → e.on < j) :
    ∀ (fuel M : Nat) (listed : Array Bool) (act : Act) (w : World), N ≤ M → M ≤ ops.size → listed.size = ops.size → (∀ i, listed.getD i false = true ↔ i < M) → ops.size - M ≤ fuel → wpList P ops Q (ops.toList.drop M) act w →
      wpAny P .any ops Q fuel listed act w := by
  intro fuel
  induction fuel with
  | zero =>
    intro M listed act w hN hM hs hl hf h
    have hMe : M = ops.size := by omega
    subst hMe
    refine ⟨?_, ?_⟩
    · refine List.eq_nil_iff_forall_not_mem.2 fun i hi => ?_
      obtain ⟨h0, o, ho, _⟩ := mem_ready.1 hi
      have hlt := (Array.getElem?_eq_some_iff.1 ho).1
      rw [getD_false_true (by omega), (hl i).2 hlt] at h0
      cases h0
    · rw [List.drop_of_length_le (by simp)] at h
      exact h
  | succ fuel ih =>
    intro M listed act w hN hM hs hl hf h
    rcases Nat.lt_or_ge M ops.size with hlt | hge
    · have ho : ops[M]? = some ops[M] := Array.getElem?_eq_getElem hlt
      have hrM : M ∈ Region.ready .any ops listed := by
        refine mem_ready.2 ⟨?_, _, ho, fun e he hb => (hl e.on).2 (hdeps M _ ho e he hb)⟩
        rw [getD_false_true (by omega)]
        cases hh : listed.getD M false with
        | false => rfl
        | true => have := (hl M).1 hh; omega
      refine ⟨fun h0 => (by rw [h0] at hrM; cases hrM), ?_⟩
      intro i hi
      obtain ⟨h0, oi, hoi, hall⟩ := mem_ready.1 hi
      have hilt := (Array.getElem?_eq_some_iff.1 hoi).1
      rw [getD_false_true (by omega)] at h0
      have hMi : M ≤ i := by
        rcases Nat.lt_or_ge i M with h1 | h1
        · rw [(hl i).2 h1] at h0; cases h0
        · exact h1
      have hiM : i = M := by
        rcases Nat.lt_or_ge M i with h1 | h1
        · have := (hforced i oi (by omega) hoi M h1).ready (fun j oj hoj hlj e he hb => (hl e.on).2 (by have := hdeps j oj hoj e he hb; have := (hl j).1 hlj; omega)) hoi hall
          have := (hl M).1 this
          omega
        · omega
      subst hiM
      have hd : ops.toList.drop i = ops[i] :: ops.toList.drop (i + 1) := by
        rw [List.drop_eq_getElem_cons (by simpa using hlt)]
        simp
      rw [hd] at h
      unfold wpList at h
      unfold wpOp
      simp only [ho]
      have next : ∀ act' w', wpList P ops Q (ops.toList.drop (i + 1)) act' w' → wpAny P .any ops Q fuel (listed.setIfInBounds i true) act' w' := fun act' w' h' =>
        ih (i + 1) _ act' w' (by omega) (by omega) (by simpa using hs) (fun j => by
          by_cases hj : i = j
          · subst hj; rw [getD_set_self (by omega)]; simp
          · rw [getD_set_ne false hj, hl j]; omega) (by omega) h'
      split
      · rename_i hw
        rw [if_pos hw] at h
        exact h.imp (Oper.wp_mono next) id
      · rename_i hw
        rw [if_neg hw] at h
        exact next _ _ h
    · have hMe : M = ops.size := by omega
      subst hMe
      refine ⟨fun _ => by rw [List.drop_of_length_le (by simp)] at h; exact h, fun i hi => ?_⟩
      obtain ⟨h0, o, ho, _⟩ := mem_ready.1 hi
      have hlt := (Array.getElem?_eq_some_iff.1 ho).1
      rw [getD_false_true (by omega), (hl i).2 hlt] at h0
      cases h0

theorem put_getD (act : Act) (d : Nat) (v : Value) (t : Nat) (hd : d < act.tmps.size) : (act.put (some d) v).tmps.getD t undef = if t = d then v else act.tmps.getD t undef := by
  simp only [Act.put]
  by_cases ht : t = d
  · subst ht
    simp [hd]
  · simp [Array.getElem?_setIfInBounds_ne (Ne.symm ht), ht]

theorem put_size (act : Act) (d : Option Tmp) (v : Value) : (act.put d v).tmps.size = act.tmps.size := by
  cases d <;> simp [Act.put]

theorem put_defs (act : Act) (d : Option Tmp) (v : Value) : (act.put d v).defers = act.defers := by
  cases d <;> rfl

structure SameBut (w w' : World) (g : Nat) (ob : Obj) : Prop where
  os : w'.os = w.os
  tape : w'.tape = w.tape
  output : w'.output = w.output
  size : w'.heap.size = w.heap.size
  block : ∀ k, k ≠ g → w'.heap[k]? = w.heap[k]?
  here : w'.heap[g]? = some ob

structure LateD where
  nw : Nat → Option Nat
  oldA : Nat → Nat
  X : Nat → Prop
  tgt : Nat → Nat
  cont : Nat → Nat → Obj

def LateD.adr (D : LateD) (γ : Nat → Nat) (n : Nat) : Nat := match D.nw n with
  | some i => γ i
  | none => D.oldA n

def LateOK (P : Program) (ops : Array Oper) (ents : Nat → Ent) (a0 : Array Value) (N1 : Nat) (D : LateD) (i : Nat) : Prop :=
  ∃ o, ops[i]? = some o ∧ ((o.dst = none ∧ ∀ (act : Act) (w : World) (γ : Nat → Nat),
    (∀ t ∈ o.looksAt ops, act.tmps.getD t undef = match writer ops i t with | some j => (ents j).val (γ j) | none => a0.getD t undef) →
    w.heap[D.adr γ (D.tgt i)]? = some (D.cont (D.tgt i) (i - N1)) →
    ∀ (K : Act → World → Prop) (Q : Exit → Act → World → Prop), (∀ w', SameBut w w' (D.adr γ (D.tgt i)) (D.cont (D.tgt i) (i - N1 + 1)) → K act w') →
      if Region.wanted o (yielded ops act.tmps) = true then o.wp P act w K Q else K (act.put o.dst undef) w) ∨
    ((∀ g, (ents i).val g = (ents i).val 0) ∧ (∀ n, D.cont n (i - N1 + 1) = D.cont n (i - N1)) ∧ ∀ (act : Act) (w : World) (γ : Nat → Nat),
      (∀ t ∈ o.looksAt ops, act.tmps.getD t undef = match writer ops i t with | some j => (ents j).val (γ j) | none => a0.getD t undef) →
      ∀ (K : Act → World → Prop) (Q : Exit → Act → World → Prop), K (act.put o.dst ((ents i).val 0)) w →
        if Region.wanted o (yielded ops act.tmps) = true then o.wp P act w K Q else K (act.put o.dst undef) w))

theorem any_all {N1 : Nat} {D : LateD} (hNs : N ≤ ops.size) (hN1 : N1 ≤ N)
    (hforced : ∀ j oj, N ≤ j → ops[j]? = some oj → ∀ i, i < j → Comes ops j i)
    (hdeps : ∀ j oj, ops[j]? = some oj → ∀ e ∈ oj.after, Region.binds .any e = true → e.on < j)
    (hpair : ∀ i j oi oj, i < j → j < N → ops[i]? = some oi → ops[j]? = some oj → (oi.dst = none ∨ oi.dst ≠ oj.dst) ∧ (Comes ops j i ∨ oi.apart ops oj = true))
    (hdst : ∀ i o d, i < N → ops[i]? = some o → o.dst = some d → d < a0.size)
    {CI : Nat → World → Prop} {S : Nat → Bool}
    (hCI1 : ∀ i w, CI i w → C w) (hCI2 : ∀ i w, C w → (S i = true → ∀ n, D.X n → w.heap[D.oldA n]? = some (D.cont n 0)) → CI i w)
    (hS : ∀ i, S i = true → ∀ k, N1 ≤ k → k < N → Comes ops k i)
    (hpre : ∀ i, i < N1 → PreOK P (CI i) ops ents a0 i)
    (hlate : ∀ i, N1 ≤ i → i < N → LateOK P ops ents a0 N1 D i)
    (hchain : ∀ i j, N1 ≤ j → j < i → i < N → Comes ops i j)
    (hC1 : ∀ w, C w → w1 ≤ w.heap.size)
    (hCs : ∀ w w' g ob, C w → SameBut w w' g ob → (w1 ≤ g ∨ ∃ n, D.X n ∧ g = D.oldA n) → C w')
    (hnw : ∀ n i, D.nw n = some i → i < N1 ∧ (ents i).obj = some (D.cont n 0))
    (hninj : ∀ n n' i, D.nw n = some i → D.nw n' = some i → n = n')
    (hX : ∀ n, D.X n → D.nw n = none ∧ D.oldA n < w1)
    (hXinj : ∀ n n', D.X n → D.X n' → D.oldA n = D.oldA n' → n = n')
    (htgt : ∀ k, N1 ≤ k → k < N → ((ops[k]?).bind (·.dst) = none → D.nw (D.tgt k) = none → D.X (D.tgt k)) ∧ ∀ j, D.nw (D.tgt k) = some j → Comes ops k j)
    (hstep : ∀ k n, N1 ≤ k → k < N → n ≠ D.tgt k → D.cont n (k - N1 + 1) = D.cont n (k - N1))
    (tail : ∀ (act : Act) (w : World) (γ : Nat → Nat), C w → act.defers = [] → act.tmps.size = a0.size → (∀ n i, D.nw n = some i → w1 ≤ γ i ∧ w.heap[γ i]? = some (D.cont n (N - N1))) →
      (∀ n, D.X n → w.heap[D.oldA n]? = some (D.cont n (N - N1))) →
      (∀ i j, i < N1 → j < N1 → (ents i).obj.isSome = true → (ents j).obj.isSome = true → γ i = γ j → i = j) →
      (∀ t, act.tmps.getD t undef = match writer ops N t with | some i => (ents i).val (γ i) | none => a0.getD t undef) → wpList P ops Q (ops.toList.drop N) act w) :
    ∀ (fuel : Nat) (listed : Array Bool) (act : Act) (w : World) (γ : Nat → Nat) (c : Nat), listed.size = ops.size → (∀ i, N ≤ i → listed.getD i false = false) → c ≤ N - N1 → (∀ i, N1 ≤ i → i < N → (listed.getD i false = true ↔ i < N1 + c)) →
      cnt ops listed ≤ fuel → C w → act.defers = [] → act.tmps.size = a0.size → Closed ops listed →
      (∀ n i, D.nw n = some i → listed.getD i false = true → w1 ≤ γ i ∧ w.heap[γ i]? = some (D.cont n c)) →
      (∀ n, D.X n → w.heap[D.oldA n]? = some (D.cont n c)) →
      (∀ i ob, i < N1 → listed.getD i false = true → (ents i).obj = some ob → γ i < w.heap.size) →
      (∀ i j, i < N1 → j < N1 → listed.getD i false = true → listed.getD j false = true → (ents i).obj.isSome = true → (ents j).obj.isSome = true → γ i = γ j → i = j) →
      (∀ t, act.tmps.getD t undef = slotV ops N ents a0 γ listed t) → wpAny P .any ops Q fuel listed act w := by
  have huniq : ∀ i j t, i < N → j < N → (ops[i]?).bind (·.dst) = some t → (ops[j]?).bind (·.dst) = some t → i = j := by
    have aux : ∀ i j t, i < j → j < N → (ops[i]?).bind (·.dst) = some t → (ops[j]?).bind (·.dst) = some t → False := by
      intro i j t hij hj h1 h2
      have hil : i < ops.size := by omega
      have hjl : j < ops.size := by omega
      have hoi : ops[i]? = some ops[i] := Array.getElem?_eq_getElem hil
      have hoj : ops[j]? = some ops[j] := Array.getElem?_eq_getElem hjl
      rw [hoi] at h1
      rw [hoj] at h2
      simp only [Option.bind_some] at h1 h2
      rcases (hpair i j _ _ hij hj hoi hoj).1 with h | h
      · rw [h] at h1; cases h1
      · exact h (h1.trans h2.symm)
    intro i j t hi hj h1 h2
    rcases Nat.lt_trichotomy i j with h | h | h
    · exact (aux i j t h hj h1 h2).elim
    · exact h
    · exact (aux j i t h hi h2 h1).elim
  have hcont : ∀ n c, c ≤ N - N1 → (∀ k, N1 ≤ k → k < N1 + c → D.tgt k ≠ n) → D.cont n c = D.cont n 0 := by
    intro n c
    induction c with
    | zero => intro _ _; rfl
    | succ c ih =>
      intro hc hk
      have h1 := hstep (N1 + c) n (by omega) (by omega) (Ne.symm (hk (N1 + c) (by omega) (by omega)))
      rw [show N1 + c - N1 = c by omega] at h1
      rw [h1]
      exact ih (by omega) (fun k h2 h3 => hk k h2 (by omega))
  intro fuel
  induction fuel with
  | zero =>
    intro listed act w γ c hs htl hcN hcl hf hw hd hsz hdn hγ hγX hγl hγu hslot
    have hall : ∀ i, i < ops.size → listed.getD i false = true := by
      intro i hi
      cases hh : listed.getD i false with
      | true => rfl
      | false => have := cnt_set (ops := ops) hs hi hh; omega
    have hN : N = ops.size := by
      rcases Nat.lt_or_ge N ops.size with h | h
      · have := hall N h; rw [htl N (Nat.le_refl _)] at this; cases this
      · omega
    have hcE : c = N - N1 := by
      rcases Nat.lt_or_ge (N1 + c) N with h | h
      · have := (hcl (N1 + c) (by omega) h).1 (hall _ (by omega))
        omega
      · omega
    refine any_tail hforced hdeps 0 N listed act w (Nat.le_refl _) hNs hs (fun i => ⟨fun h => ?_, fun h => hall i (by omega)⟩) (by omega) ?_
    · rcases Nat.lt_or_ge i N with h1 | h1
      · exact h1
      · rw [htl i h1] at h; cases h
    · refine tail act w γ hw hd hsz (fun n i hn => by rw [← hcE]; exact hγ n i hn (hall i (by have := (hnw n i hn).1; omega))) (fun n hn => by rw [← hcE]; exact hγX n hn) (fun i j hi hj => hγu i j hi hj (hall i (by omega)) (hall j (by omega))) (fun t => ?_)
      rw [hslot t]
      unfold slotV
      cases hwr : writer ops N t with
      | none => rfl
      | some i => simp only [hall i (by have := (writer_some hwr).1; omega), if_true]
  | succ fuel ih =>
    intro listed act w γ c hs htl hcN hcl hf hw hd hsz hdn hγ hγX hγl hγu hslot
    by_cases hall : ∀ i, i < N → listed.getD i false = true
    · have hcE : c = N - N1 := by
        rcases Nat.lt_or_ge (N1 + c) N with h | h
        · have := (hcl (N1 + c) (by omega) h).1 (hall _ (by omega))
          omega
        · omega
      refine any_tail hforced hdeps (fuel + 1) N listed act w (Nat.le_refl _) hNs hs (fun i => ⟨fun h => ?_, hall i⟩) ?_ ?_
      · rcases Nat.lt_or_ge i N with h1 | h1
        · exact h1
        · rw [htl i h1] at h; cases h
      · have : ops.size - N ≤ cnt ops listed := by
          have h1 : ((List.range ops.size).filter fun i => !listed.getD i false) = (List.range ops.size).filter fun i => decide (N ≤ i) := by
            apply List.filter_congr
            intro i _
            rcases Nat.lt_or_ge i N with h | h
            · rw [hall i h]; simp; omega
            · rw [htl i h]; simp; omega
          have h2 : ∀ n, ((List.range n).filter fun i => decide (N ≤ i)).length = n - N := by
            intro n
            induction n with
            | zero => simp
            | succ n ihn =>
              rw [List.range_succ, List.filter_append, List.length_append, ihn]
              by_cases hn : N ≤ n
              · simp [hn]; omega
              · simp [hn]; omega
          unfold cnt
          rw [h1, h2]
          exact Nat.le_refl _
        omega
      · refine tail act w γ hw hd hsz (fun n i hn => by rw [← hcE]; exact hγ n i hn (hall i (by have := (hnw n i hn).1; omega))) (fun n hn => by rw [← hcE]; exact hγX n hn) (fun i j hi hj => hγu i j hi hj (hall i (by omega)) (hall j (by omega))) (fun t => ?_)
        rw [hslot t]
        unfold slotV
        cases hwr : writer ops N t with
        | none => rfl
        | some i => simp only [hall i (by have := (writer_some hwr).1; omega), if_true]
    · have hex : ∃ i, i < N ∧ listed.getD i false = false ∧ ∀ j, j < i → listed.getD j false = true := by
        have : ∃ i, i < N ∧ listed.getD i false = false := by
          refine Classical.byContradiction fun hne => hall fun i hi => ?_
          cases hh : listed.getD i false with
          | true => rfl
          | false => exact absurd ⟨i, hi, hh⟩ hne
        obtain ⟨i, hi, hh⟩ := this
        induction i using Nat.strongRecOn with
        | _ i ihi =>
          by_cases hm : ∀ j, j < i → listed.getD j false = true
          · exact ⟨i, hi, hh, hm⟩
          · have : ∃ j, j < i ∧ listed.getD j false = false := by
              refine Classical.byContradiction fun hne => hm fun j hj => ?_
              cases hhj : listed.getD j false with
              | true => rfl
              | false => exact absurd ⟨j, hj, hhj⟩ hne
            obtain ⟨j, hj, hhj⟩ := this
            exact ihi j hj (by omega) hhj
      obtain ⟨m, hmN, hmu, hmall⟩ := hex
      have hrm : m ∈ Region.ready .any ops listed := by
        have hml : m < ops.size := by omega
        refine mem_ready.2 ⟨by rw [getD_false_true (by omega)]; exact hmu, _, Array.getElem?_eq_getElem hml, fun e he hb => hmall e.on (hdeps m _ (Array.getElem?_eq_getElem hml) e he hb)⟩
      refine ⟨fun h0 => (by rw [h0] at hrm; cases hrm), ?_⟩
      intro i hi
      obtain ⟨h0, oi, hoi, hrdy⟩ := mem_ready.1 hi
      have hil := (Array.getElem?_eq_some_iff.1 hoi).1
      rw [getD_false_true (by omega)] at h0
      have hiN : i < N := by
        rcases Nat.lt_or_ge i N with h | h
        · exact h
        · have := (hforced i oi h hoi m (by omega)).ready hdn hoi hrdy
          rw [hmu] at this
          cases this
      have hdn' : Closed ops (listed.setIfInBounds i true) := by
        intro j oj hoj hlj e he hb
        by_cases hji : i = j
        · subst hji
          rw [hoi] at hoj
          simp only [Option.some.injEq] at hoj
          subst hoj
          exact getD_set_true (hrdy e he hb)
        · rw [getD_set_ne false hji] at hlj
          exact getD_set_true (hdn j oj hoj hlj e he hb)
      have hsl : ∀ (v : Value) (γ' : Nat → Nat), (∀ j, j ≠ i → γ' j = γ j) → v = (ents i).val (γ' i) → ∀ t, (act.put oi.dst v).tmps.getD t undef = slotV ops N ents a0 γ' (listed.setIfInBounds i true) t := by
        intro v γ' hγ' hv t
        have hother : ∀ k, writer ops N t = some k → k ≠ i → slotV ops N ents a0 γ' (listed.setIfInBounds i true) t = slotV ops N ents a0 γ listed t := by
          intro k hk hki
          unfold slotV
          simp only [hk, getD_set_ne false (Ne.symm hki), hγ' k hki]
        have hnone : writer ops N t = none → slotV ops N ents a0 γ' (listed.setIfInBounds i true) t = slotV ops N ents a0 γ listed t := by
          intro hk
          unfold slotV
          simp only [hk]
        cases hdo : oi.dst with
        | none =>
          show act.tmps.getD t undef = _
          rw [hslot t]
          cases hk : writer ops N t with
          | none => exact (hnone hk).symm
          | some k =>
            refine (hother k hk ?_).symm
            rintro rfl
            have := (writer_some hk).2
            rw [hoi] at this
            simp [hdo] at this
        | some d =>
          rw [put_getD act d v t (by rw [hsz]; exact hdst i oi d hiN hoi hdo)]
          split
          · rename_i htd
            subst htd
            have hwi : writer ops N t = some i := writer_eq hiN (by rw [hoi]; exact hdo) (fun k hk hkd => huniq k i t (by omega) hiN hkd (by rw [hoi]; exact hdo))
            unfold slotV
            simp only [hwi]
            rw [getD_set_self (by omega), if_pos rfl, hv]
          · rename_i htd
            rw [hslot t]
            cases hk : writer ops N t with
            | none => exact (hnone hk).symm
            | some k =>
              refine (hother k hk ?_).symm
              rintro rfl
              have := (writer_some hk).2
              rw [hoi] at this
              simp only [Option.bind_some, hdo, Option.some.injEq] at this
              exact htd this.symm
      rcases Nat.lt_or_ge i N1 with hiN1 | hiN1
      · -- an operation ahead of the stores
        obtain ⟨o, ho, hval, look, opv, hlk, hopv, hbeh⟩ := hpre i hiN1
        rw [hoi] at ho
        simp only [Option.some.injEq] at ho
        subst ho
        have hlook : ∀ t ∈ look, act.tmps.getD t undef = opv t := by
          intro t ht0
          have hl := hopv t ht0
          have ht := hlk t ht0
          rw [hslot t]
          unfold lexv at hl
          cases hwi : writer ops i t with
          | some j =>
            rw [hwi] at hl
            dsimp only at hl
            obtain ⟨hji, hjd⟩ := writer_some hwi
            split at hl
            · rename_i hob
              simp only [Option.some.injEq] at hl
              have hjN : j < N1 := by omega
              have hjl : j < ops.size := by omega
              have hoj : ops[j]? = some ops[j] := Array.getElem?_eq_getElem hjl
              have hlj : listed.getD j false = true := by
                rcases (hpair j i _ _ hji hiN hoj hoi).2 with hr | hap
                · exact hr.ready hdn hoi hrdy
                · rw [hoj] at hjd
                  exact absurd ht ((Oper.apart_spec hap).1 t hjd)
              have hwN : writer ops N t = some j := writer_eq (by omega) hjd (fun k hk hkd => huniq k j t (by omega) (by omega) hkd hjd)
              unfold slotV
              simp only [hwN, hlj, if_true]
              obtain ⟨_, _, hvj, _⟩ := hpre j hjN
              rw [hvj (by simpa using hob) (γ j), hl]
            · cases hl
          | none =>
            rw [hwi] at hl
            simp only [Option.some.injEq] at hl
            rw [← hl]
            unfold slotV
            cases hwN : writer ops N t with
            | none => rfl
            | some k =>
              obtain ⟨hkN, hkd⟩ := writer_some hwN
              have hki : i ≤ k := by
                rcases Nat.lt_or_ge k i with h | h
                · exact absurd hkd (writer_none hwi k h)
                · exact h
              have hku : listed.getD k false = false := by
                rcases Nat.lt_or_ge i k with h | h
                · have hkl : k < ops.size := by omega
                  have hok : ops[k]? = some ops[k] := Array.getElem?_eq_getElem hkl
                  rcases (hpair i k _ _ h (by omega) hoi hok).2 with hr | hap
                  · cases hh : listed.getD k false with
                    | false => rfl
                    | true =>
                      have := hr.listed hdn hh
                      rw [h0] at this
                      cases this
                  · rw [hok] at hkd
                    exact absurd ht ((Oper.apart_spec hap).2.2 t hkd)
                · have : k = i := by omega
                  subst this
                  exact h0
              simp only [hku, Bool.false_eq_true, if_false]
        have hwI : CI i w := hCI2 i w hw (fun hSi n hn => by
          have hc0 : c = 0 := by
            rcases Nat.eq_zero_or_pos c with h | h
            · exact h
            · have := (hS i hSi N1 (Nat.le_refl _) (by omega)).listed hdn ((hcl N1 (Nat.le_refl _) (by omega)).2 (by omega))
              rw [h0] at this
              cases this
          rw [← hc0]
          exact hγX n hn)
        have hB := hbeh act w hwI hsz hd hlook
        have hnext : ∀ (v : Value) (γ' : Nat → Nat) (w' : World), (∀ j, j ≠ i → γ' j = γ j) → v = (ents i).val (γ' i) → C w' → Below w.heap.size w w' → (∀ ob, (ents i).obj = some ob → w'.heap[γ' i]? = some ob ∧ w.heap.size ≤ γ' i) →
            wpAny P .any ops Q fuel (listed.setIfInBounds i true) (act.put oi.dst v) w' := by
          intro v γ' w' hγ' hv hw' hbel hnewb
          refine ih _ _ w' γ' c (by simpa using hs) (fun j hj => by rw [getD_set_ne false (by omega)]; exact htl j hj) hcN (fun j h1 h2 => by rw [getD_set_ne false (by omega)]; exact hcl j h1 h2) (by have := cnt_set (ops := ops) hs hil h0; omega) hw' (by rw [put_defs]; exact hd) (by rw [put_size]; exact hsz) hdn' ?_ ?_ ?_ ?_ (hsl v γ' hγ' hv)
          · intro n j hn hlj
            by_cases hji : i = j
            · subst hji
              obtain ⟨h1, h2⟩ := hnewb _ (hnw n i hn).2
              refine ⟨Nat.le_trans (hC1 w hw) h2, ?_⟩
              rw [h1, hcont n c hcN]
              intro k hk1 hk2 hkt
              have hkl := (hcl k hk1 (by omega)).2 hk2
              have := ((htgt k hk1 (by omega)).2 i (by rw [hkt]; exact hn)).listed hdn hkl
              rw [h0] at this
              cases this
            · rw [getD_set_ne false hji] at hlj
              obtain ⟨h1, h2⟩ := hγ n j hn hlj
              rw [hγ' j (Ne.symm hji)]
              exact ⟨h1, by rw [hbel.block _ (heap_lt h2)]; exact h2⟩
          · intro n hn
            have h2 := hγX n hn
            rw [hbel.block _ (heap_lt h2)]
            exact h2
          · intro j ob hj hlj hob
            by_cases hji : i = j
            · subst hji
              exact heap_lt (hnewb ob hob).1
            · rw [getD_set_ne false hji] at hlj
              rw [hγ' j (Ne.symm hji)]
              exact Nat.lt_of_lt_of_le (hγl j ob hj hlj hob) hbel.size
          · intro j k hj hk hlj hlk hoj hok heq
            by_cases hji : i = j <;> by_cases hki : i = k
            · omega
            · subst hji
              rw [getD_set_ne false hki] at hlk
              rw [hγ' k (Ne.symm hki)] at heq
              obtain ⟨ob, hob⟩ := Option.isSome_iff_exists.1 hoj
              obtain ⟨ob', hob'⟩ := Option.isSome_iff_exists.1 hok
              have := (hnewb ob hob).2
              have := hγl k ob' hk hlk hob'
              omega
            · subst hki
              rw [getD_set_ne false hji] at hlj
              rw [hγ' j (Ne.symm hji)] at heq
              obtain ⟨ob, hob⟩ := Option.isSome_iff_exists.1 hok
              obtain ⟨ob', hob'⟩ := Option.isSome_iff_exists.1 hoj
              have := (hnewb ob hob).2
              have := hγl j ob' hj hlj hob'
              omega
            · rw [getD_set_ne false hji] at hlj
              rw [getD_set_ne false hki] at hlk
              rw [hγ' j (Ne.symm hji), hγ' k (Ne.symm hki)] at heq
              exact hγu j k hj hk hlj hlk hoj hok heq
        have hfin := hB (wpAny P .any ops Q fuel (listed.setIfInBounds i true)) Q (by
          cases hob : (ents i).obj with
          | none =>
            intro w' hw' hbel
            exact hnext _ γ w' (fun _ _ => rfl) (hval hob (γ i)).symm (hCI1 i w' hw') hbel (fun ob h => by rw [hob] at h; cases h)
          | some ob =>
            intro n w' hw' hbel hn hnew
            refine hnext _ (fun j => if j = i then n else γ j) w' (fun j hj => by simp [hj]) (by simp) (hCI1 i w' hw') hbel (fun ob' h => ?_)
            rw [hob] at h
            simp only [Option.some.injEq] at h
            subst h
            simp only [if_true]
            exact ⟨hnew, hn⟩)
        unfold wpOp
        simp only [hoi]
        split
        · rename_i hwt
          rw [if_pos hwt] at hfin
          exact .inl hfin
        · rename_i hwt
          rw [if_neg hwt] at hfin
          exact hfin
      · -- a store
        have hic : i = N1 + c := by
          have h1 : ¬ i < N1 + c := fun h => by rw [(hcl i hiN1 hiN).2 h] at h0; cases h0
          rcases Nat.lt_or_ge (N1 + c) i with h2 | h2
          · have := (hchain i (N1 + c) (by omega) h2 hiN).ready hdn hoi hrdy
            have := (hcl (N1 + c) (by omega) (by omega)).1 this
            omega
          · omega
        have hicc : i - N1 = c := by omega
        obtain ⟨o, ho, hlt⟩ := hlate i hiN1 hiN
        rw [hoi] at ho
        simp only [Option.some.injEq] at ho
        subst ho
        obtain ⟨htX, htR⟩ := htgt i hiN1 hiN
        have hlook : ∀ t ∈ oi.looksAt ops, act.tmps.getD t undef = match writer ops i t with | some j => (ents j).val (γ j) | none => a0.getD t undef := by
          intro t ht
          rw [hslot t]
          unfold slotV
          cases hwN : writer ops N t with
          | none =>
            cases hwi : writer ops i t with
            | none => rfl
            | some j =>
              obtain ⟨hji, hjd⟩ := writer_some hwi
              exact absurd hjd (writer_none hwN j (by omega))
          | some j =>
            obtain ⟨hjN, hjd⟩ := writer_some hwN
            have hjl : j < ops.size := by omega
            have hoj : ops[j]? = some ops[j] := Array.getElem?_eq_getElem hjl
            rcases Nat.lt_or_ge j i with hji | hji
            · have hlj : listed.getD j false = true := by
                rcases (hpair j i _ _ hji hiN hoj hoi).2 with hr | hap
                · exact hr.ready hdn hoi hrdy
                · rw [hoj] at hjd
                  exact absurd ht ((Oper.apart_spec hap).1 t hjd)
              have hwi : writer ops i t = some j := writer_eq hji hjd (fun k hk hkd => huniq k j t (by omega) hjN hkd hjd)
              simp only [hwi, hlj, if_true]
            · have hwi : writer ops i t = none := by
                cases hwi : writer ops i t with
                | none => rfl
                | some k =>
                  obtain ⟨hki, hkd⟩ := writer_some hwi
                  have := huniq k j t (by omega) hjN hkd hjd
                  omega
              have hju : listed.getD j false = false := by
                rcases Nat.lt_or_ge i j with h | h
                · rcases (hpair i j _ _ h hjN hoi hoj).2 with hr | hap
                  · cases hh : listed.getD j false with
                    | false => rfl
                    | true =>
                      have := hr.listed hdn hh
                      rw [h0] at this
                      cases this
                  · rw [hoj] at hjd
                    exact absurd ht ((Oper.apart_spec hap).2.2 t hjd)
                · have : j = i := by omega
                  subst this
                  exact h0
              simp only [hwi, hju, Bool.false_eq_true, if_false]
        rcases hlt with ⟨hdo, hst⟩ | ⟨hv0, hsame, hst⟩
        case inr =>
          have hfin := hst act w γ hlook (wpAny P .any ops Q fuel (listed.setIfInBounds i true)) Q (by
            refine ih _ (act.put oi.dst ((ents i).val 0)) w γ (c + 1) (by simpa using hs) (fun j hj => by rw [getD_set_ne false (by omega)]; exact htl j hj) (by omega) (fun j h1 h2 => ?_) (by have := cnt_set (ops := ops) hs hil h0; omega) hw (by rw [put_defs]; exact hd) (by rw [put_size]; exact hsz) hdn' ?_ ?_ ?_ ?_ (hsl _ γ (fun _ _ => rfl) (hv0 _).symm)
            · by_cases hji : i = j
              · subst hji
                rw [getD_set_self (by omega)]
                simp; omega
              · rw [getD_set_ne false hji, hcl j h1 h2]
                omega
            · intro n j hn hlj
              have hji : i ≠ j := by have := (hnw n j hn).1; omega
              rw [getD_set_ne false hji] at hlj
              have := hsame n
              rw [hicc] at this
              rw [this]
              exact hγ n j hn hlj
            · intro n hn
              have := hsame n
              rw [hicc] at this
              rw [this]
              exact hγX n hn
            · intro j ob hj hlj hob
              rw [getD_set_ne false (by omega)] at hlj
              exact hγl j ob hj hlj hob
            · intro j k hj hk hlj hlk
              rw [getD_set_ne false (by omega)] at hlj hlk
              exact hγu j k hj hk hlj hlk)
          unfold wpOp
          simp only [hoi]
          split
          · rename_i hwt
            rw [if_pos hwt] at hfin
            exact .inl hfin
          · rename_i hwt
            rw [if_neg hwt] at hfin
            exact hfin
        have htX := htX (by rw [hoi]; exact hdo)
        have hadr : w.heap[D.adr γ (D.tgt i)]? = some (D.cont (D.tgt i) (i - N1)) := by
          rw [hicc]
          unfold LateD.adr
          cases hn : D.nw (D.tgt i) with
          | some j => exact (hγ _ j hn ((htR j hn).ready hdn hoi hrdy)).2
          | none => exact hγX _ (htX hn)
        have hfin := hst act w γ hlook hadr (wpAny P .any ops Q fuel (listed.setIfInBounds i true)) Q (by
          intro w' hsb
          rw [hicc] at hsb
          have hgw : w1 ≤ D.adr γ (D.tgt i) ∨ ∃ n, D.X n ∧ D.adr γ (D.tgt i) = D.oldA n := by
            unfold LateD.adr
            cases hn : D.nw (D.tgt i) with
            | some j => exact .inl (hγ _ j hn ((htR j hn).ready hdn hoi hrdy)).1
            | none => exact .inr ⟨_, htX hn, rfl⟩
          refine ih _ act w' γ (c + 1) (by simpa using hs) (fun j hj => by rw [getD_set_ne false (by omega)]; exact htl j hj) (by omega) (fun j h1 h2 => ?_) (by have := cnt_set (ops := ops) hs hil h0; omega) (hCs w w' _ _ hw hsb hgw) hd hsz hdn' ?_ ?_ ?_ ?_ ?_
          · by_cases hji : i = j
            · subst hji
              rw [getD_set_self (by omega)]
              simp; omega
            · rw [getD_set_ne false hji, hcl j h1 h2]
              omega
          · intro n j hn hlj
            have hji : i ≠ j := by have := (hnw n j hn).1; omega
            rw [getD_set_ne false hji] at hlj
            obtain ⟨h1, h2⟩ := hγ n j hn hlj
            refine ⟨h1, ?_⟩
            by_cases hnt : n = D.tgt i
            · subst hnt
              have := hsb.here
              unfold LateD.adr at this
              rw [hn] at this
              exact this
            · have h3 := hstep i n hiN1 hiN hnt
              rw [hicc] at h3
              rw [h3, hsb.block, h2]
              unfold LateD.adr
              cases hn' : D.nw (D.tgt i) with
              | some j' =>
                intro heq
                have hlj' := (htR j' hn').ready hdn hoi hrdy
                have := hγu j j' (hnw n j hn).1 (hnw _ j' hn').1 hlj hlj' (by rw [(hnw n j hn).2]; rfl) (by rw [(hnw _ j' hn').2]; rfl) heq
                subst this
                exact hnt (hninj _ _ _ hn hn')
              | none =>
                have := (hX _ (htX hn')).2
                intro heq
                have heq' : γ j = D.oldA (D.tgt i) := heq
                omega
          · intro n hn
            have h2 := hγX n hn
            by_cases hnt : n = D.tgt i
            · subst hnt
              have := hsb.here
              unfold LateD.adr at this
              rw [(hX _ hn).1] at this
              exact this
            · have h3 := hstep i n hiN1 hiN hnt
              rw [hicc] at h3
              rw [h3, hsb.block, h2]
              unfold LateD.adr
              cases hn' : D.nw (D.tgt i) with
              | some j' =>
                have h4 := (hγ _ j' hn' ((htR j' hn').ready hdn hoi hrdy)).1
                have := (hX _ hn).2
                intro heq
                have heq' : D.oldA n = γ j' := heq
                omega
              | none =>
                intro heq
                exact hnt (hXinj _ _ hn (htX hn') heq)
          · intro j ob hj hlj hob
            rw [getD_set_ne false (by omega)] at hlj
            rw [hsb.size]
            exact hγl j ob hj hlj hob
          · intro j k hj hk hlj hlk
            rw [getD_set_ne false (by omega)] at hlj hlk
            exact hγu j k hj hk hlj hlk
          · intro t
            rw [hslot t]
            unfold slotV
            cases hwN : writer ops N t with
            | none => rfl
            | some j =>
              have hjd := (writer_some hwN).2
              have hij : i ≠ j := by
                rintro rfl
                rw [hoi] at hjd
                simp [hdo] at hjd
              simp only [getD_set_ne false hij])
        unfold wpOp
        simp only [hoi]
        split
        · rename_i hwt
          rw [if_pos hwt] at hfin
          exact .inl hfin
        · rename_i hwt
          rw [if_neg hwt] at hfin
          exact hfin
end
end Go.Sx
namespace Go.Sx
open Go.RowKit

def Env.at (e : Env) (r : List Int) : Env := { e with r := r }

section
variable {P : Program} {Γ : List Sum} {Ψ : List Int → Prop} {bs : List (List Int → Prop)} {ops : Array Oper}

theorem writer_succ (n t : Nat) : writer ops (n + 1) t = match writer ops n t with
    | some j => some j
    | none => if (ops[n]?).bind (·.dst) = some t then some n else none := by
  unfold writer
  rw [List.range_succ, List.find?_append]
  cases h : List.find? (fun i => decide ((ops[i]?).bind (·.dst) = some t)) (List.range n) with
  | some j => simp
  | none =>
    by_cases hd : (ops[n]?).bind (·.dst) = some t
    · simp [hd]
    · simp [hd]

theorem SC.den_r {e : Env} {nv nb ng : Nat} (hnv : nv ≤ e.r.length) (x : List Int) : ∀ c : SC, c.sc nv nb ng = true → c.den (e.at (e.r ++ x)) = c.den e := by
  have hE : ∀ a : E, a.sc nv = true → a.sc e.r.length = true := by
    intro a
    induction a <;> simp_all [E.sc] <;> omega
  have hB : ∀ a : B, a.sc nv = true → a.sc e.r.length = true := by
    intro a
    induction a <;> simp_all [B.sc]
  have hG : ∀ g : G, g.sc nv ng = true → g.val (e.at (e.r ++ x)) = g.val e := by
    intro g hg
    cases g with
    | a i => rfl
    | o i => rfl
    | e g ix j y => simp only [G.val, Env.at]; rw [E.den_app _ _ _ _ (hE _ hg)]
  simp only [Env.at] at hG
  intro c hc
  cases c <;> simp only [SC.sc, Bool.and_eq_true] at hc <;> simp only [SC.den, Env.at, ownAddr]
  case i k y => rw [E.den_app _ _ _ _ (hE _ hc)]
  case b y => rw [B.den_app _ _ _ _ (hB _ hc)]
  case go g => rw [hG g hc]
  case gv g size lo hi => rw [E.den_app _ _ _ _ (hE _ hc.2.1), E.den_app _ _ _ _ (hE _ hc.2.2), hG g hc.1]
  case gp g size ix j => rw [E.den_app _ _ _ _ (hE _ hc.2), hG g hc.1]
  case gz g => rw [hG g hc]

theorem map_den_r {e : Env} {nv nb ng : Nat} (hnv : nv ≤ e.r.length) (x : List Int) {cs : List SC} (hc : cs.all (SC.sc nv nb ng) = true) : cs.map (SC.den (e.at (e.r ++ x))) = cs.map (SC.den e) :=
  List.map_congr_left fun c h => SC.den_r hnv x c (List.all_eq_true.1 hc c h)

theorem SV.den_r {e : Env} {nv nb ng nx : Nat} (hnv : nv ≤ e.r.length) (x : List Int) : ∀ c : SV, c.sc nv nb ng nx = true → c.den (e.at (e.r ++ x)) = c.den e := by
  intro c hc
  have hW : ∀ y : SW, y.sc nv nb ng = true → y.den (e.at (e.r ++ x)) = y.den e := by
    intro y hy
    cases y with
    | o c => exact SC.den_r hnv x c hy
    | a cs => simp only [SW.den]; rw [map_den_r hnv x hy]
  cases c with
  | w y => exact hW y hc
  | t xs => simp only [SV.den]; rw [List.map_congr_left fun y hy => hW y (List.all_eq_true.1 hc y hy)]
  | un i => rfl

theorem forkO_sat' {R : Fo} {r : List Int} {s : St} {t : Option Tmp} {k : St → T} (hs : (forkO t s k).sat Γ R Ψ bs r) :
    ∃ x, (k { s with fr := x }).sat Γ R Ψ bs r ∧ (x = s.fr ∨ ∃ t b v, slotB s t = some b ∧ b.den R r = v ∧ x = s.fr.set t (one (.b (.c v)))) := by
  unfold forkO at hs
  split at hs
  · exact ⟨s.fr, hs, .inl rfl⟩
  · rename_i t
    split at hs
    · exact ⟨s.fr, hs, .inl rfl⟩
    · rename_i b _ hb
      obtain ⟨h1, h2⟩ := hs
      cases hx : b.den R r with
      | true => exact ⟨_, h1 hx, .inr ⟨t, b, true, hb, hx, rfl⟩⟩
      | false => exact ⟨_, h2 hx, .inr ⟨t, b, false, hb, hx, rfl⟩⟩
    · exact ⟨s.fr, hs, .inl rfl⟩

structure Lex (s0 : St) (e0 : Env) (a0 : Array Value) (ops : Array Oper) (i : Nat) (ents : Nat → Ent) (s : St) (r : List Int) (al : List Nat) : Prop where
  ext : ∃ x, r = e0.r ++ x
  nv : s.nv = r.length
  nx : s.nx = s0.nx
  fl : s.fl = s0.fl
  flr : s.flr = s0.flr
  gl : s.gl = s0.gl
  hs : s.hs = s0.hs
  dp : s.dp = s0.dp
  rows : s.rows = s0.rows
  mem : ∃ news, s.mem = s0.mem ++ news ∧ news.length = al.length
  len : s.fr.length = s0.fr.length
  memd : ∀ b ∈ s0.mem, b.cells.map (SC.den (e0.at r)) = b.cells.map (SC.den e0)
  rowd : ∀ b ∈ s0.rows, b.c.den e0.R r = b.c.den e0.R e0.r
  hsd : ∀ b ∈ s0.hs, b.2.den e0.R r = b.2.den e0.R e0.r
  slots : ∀ t, (s.fr.getD t undefS).scp s0.mem.length s0.rows.length = true → lexv ops ents a0 i t = some ((s.fr.getD t undefS).den (e0.at r))
  nscp : ∀ t, (s.fr.getD t undefS).scp s0.mem.length s0.rows.length = false → ∃ (j i' : Nat), al[j]? = some i' ∧ (ops[i']?).bind (·.dst) = some t
  alOK : ∀ (j i' : Nat), al[j]? = some i' → i' < i ∧ ∃ b : Blk, s.mem[s0.mem.length + j]? = some b ∧ b.live = true ∧ b.cells.all (SC.scp s0.mem.length s0.rows.length) = true ∧
    (ents i').obj = some (.cells (b.cells.map (SC.den (e0.at r))).toArray b.ty (0, 0)) ∧
    ∃ mk : Nat → SC, ((∀ n, mk n = .p n 0) ∨ ∃ l c, ∀ n, mk n = .s n 0 l c) ∧ (∀ (e : Env) n, (mk n).den e = (ents i').val (e.β.getD n 0)) ∧ ∀ t, (ops[i']?).bind (·.dst) = some t → s.fr.getD t undefS = one (mk (s0.mem.length + j))
  alAll : ∀ i', i' < i → (ents i').obj.isSome = true → i' ∈ al
  alND : al.Nodup

variable {s0 : St} {e0 : Env} {a0 : Array Value} {i : Nat} {ents : Nat → Ent} {s : St} {r : List Int} {al : List Nat}

theorem getD_set_fr (l : List SV) (t t' : Nat) (v : SV) : (l.set t v).getD t' undefS = if t' = t ∧ t < l.length then v else l.getD t' undefS := by
  simp only [List.getD, List.getElem?_set]
  by_cases h : t = t'
  · subst h
    by_cases hl : t < l.length
    · simp [hl]
    · simp [hl]
  · have : ¬ t' = t := fun hh => h hh.symm
    simp [h, this]

theorem lexv_congrN {ents ents' : Nat → Ent} {N i t : Nat} (he : ∀ j, j < N → ents' j = ents j) (hi : i ≤ N) : lexv ops ents' a0 i t = lexv ops ents a0 i t := by
  unfold lexv
  cases hw : writer ops i t with
  | none => rfl
  | some j => simp only [he j (Nat.lt_of_lt_of_le (writer_some hw).1 hi)]
theorem PreOK.congrN {P : Program} {C : World → Prop} {ents ents' : Nat → Ent} {N i : Nat} (he : ∀ j, j < N → ents' j = ents j) (hi : i < N) (h : PreOK P C ops ents a0 i) : PreOK P C ops ents' a0 i := by
  obtain ⟨o, h1, h2, look, opv, h3, h4, h5⟩ := h
  refine ⟨o, h1, by rw [he i hi]; exact h2, look, opv, h3, fun t ht => ?_, fun act w hc hs hd hl => ?_⟩
  · rw [lexv_congrN he (Nat.le_of_lt hi)]; exact h4 t ht
  · rw [he i hi]; exact h5 act w hc hs hd hl
theorem Lex.congr {ents ents' : Nat → Ent} {N : Nat} (he : ∀ j, j < N → ents' j = ents j) (h : Lex s0 e0 a0 ops N ents s r al) : Lex s0 e0 a0 ops N ents' s r al :=
  { h with
    slots := fun t ht => by rw [lexv_congrN he (Nat.le_refl _)]; exact h.slots t ht
    alOK := fun j i' hj => by
      have h1 := h.alOK j i' hj
      rw [he i' h1.1]
      exact h1
    alAll := fun i' hi' h2 => h.alAll i' hi' (by rw [he i' hi'] at h2; exact h2) }

theorem Lex.fork (h : Lex s0 e0 a0 ops i ents s r al) {x : List SV} (hx : x = s.fr ∨ ∃ t b v, slotB s t = some b ∧ b.den e0.R r = v ∧ x = s.fr.set t (one (.b (.c v)))) : Lex s0 e0 a0 ops i ents { s with fr := x } r al := by
  rcases hx with rfl | ⟨t, b, v, hb, hv, rfl⟩
  · exact h
  · obtain ⟨ht, hs⟩ := slotB_spec hb
    have hval : (one (.b (.c v))).den (e0.at r) = (s.fr.getD t undefS).den (e0.at r) := by
      rw [hs]
      show Value.bool v = Value.bool (b.den e0.R r)
      rw [hv]
    have hscp : (s.fr.getD t undefS).scp s0.mem.length s0.rows.length = true := by rw [hs]; rfl
    refine ⟨h.ext, h.nv, h.nx, h.fl, h.flr, h.gl, h.hs, h.dp, h.rows, h.mem, by simpa using h.len, h.memd, h.rowd, h.hsd, ?_, ?_, ?_, h.alAll, h.alND⟩
    · intro t' ht'
      show lexv ops ents a0 i t' = some (((s.fr.set t (one (.b (.c v)))).getD t' undefS).den (e0.at r))
      have ht'' : ((s.fr.set t (one (.b (.c v)))).getD t' undefS).scp s0.mem.length s0.rows.length = true := ht'
      rw [getD_set_fr] at ht'' ⊢
      split
      · rename_i hc
        obtain ⟨rfl, _⟩ := hc
        rw [h.slots t' hscp, hval]
      · rename_i hc
        rw [if_neg hc] at ht''
        exact h.slots t' ht''
    · intro t' ht'
      have ht'' : ((s.fr.set t (one (.b (.c v)))).getD t' undefS).scp s0.mem.length s0.rows.length = false := ht'
      rw [getD_set_fr] at ht''
      split at ht''
      · simp [one, SV.scp, SW.scp, SC.scp] at ht''
      · exact h.nscp t' ht''
    · intro j i' hj
      obtain ⟨h1, bb, h2, h3, h4, h5, mk, h6, h7, h8⟩ := h.alOK j i' hj
      refine ⟨h1, bb, h2, h3, h4, h5, mk, h6, h7, fun t' ht' => ?_⟩
      show (s.fr.set t (one (.b (.c v)))).getD t' undefS = _
      rw [getD_set_fr]
      split
      · rename_i hc
        obtain ⟨rfl, _⟩ := hc
        have := h8 t' ht'
        rw [hs] at this
        rcases h6 with h6 | ⟨l, c, h6⟩ <;> rw [h6] at this <;> simp [one] at this
      · exact h8 t' ht'

theorem Lex.more (h : Lex s0 e0 a0 ops i ents s r al) (hsc : s.sc = true) (y : List Int) : Lex s0 e0 a0 ops i ents { s with nv := s.nv + y.length } (r ++ y) al := by
  obtain ⟨x, hx⟩ := h.ext
  simp only [St.sc, Bool.and_eq_true] at hsc
  obtain ⟨⟨hf, hm⟩, hr, hh⟩ := hsc
  obtain ⟨news, hmem, hnl⟩ := h.mem
  have hat : (e0.at r).at ((e0.at r).r ++ y) = e0.at (r ++ y) := rfl
  have hlen : s.nv ≤ (e0.at r).r.length := by rw [h.nv]; exact Nat.le_refl _
  have hd : ∀ v, SV.sc s.nv s.mem.length s.rows.length s.nx v = true → v.den (e0.at (r ++ y)) = v.den (e0.at r) := fun v hv => by
    rw [← hat]; exact SV.den_r hlen y v hv
  have hcs : ∀ cs : List SC, cs.all (SC.sc s.nv s.mem.length s.rows.length) = true → cs.map (SC.den (e0.at (r ++ y))) = cs.map (SC.den (e0.at r)) := fun cs hc => by
    rw [← hat]; exact map_den_r hlen y hc
  have hslot : ∀ t, (s.fr.getD t undefS).den (e0.at (r ++ y)) = (s.fr.getD t undefS).den (e0.at r) := by
    intro t
    by_cases ht : t < s.fr.length
    · refine hd _ (List.all_eq_true.1 hf _ ?_)
      rw [show s.fr.getD t undefS = s.fr[t] by simp [List.getD, ht]]
      exact List.getElem_mem ht
    · have : s.fr.getD t undefS = undefS := by simp [List.getD, List.getElem?_eq_none (Nat.le_of_not_lt ht)]
      rw [this]
      rfl
  refine ⟨⟨x ++ y, by simp [hx]⟩, by simp [h.nv], h.nx, h.fl, h.flr, h.gl, h.hs, h.dp, h.rows, ⟨news, hmem, hnl⟩, h.len, ?_, ?_, ?_, ?_, h.nscp, ?_, h.alAll, h.alND⟩
  · intro b hb
    rw [hcs b.cells (List.all_eq_true.1 hm b (by rw [hmem]; exact List.mem_append_left _ hb))]
    exact h.memd b hb
  · intro b hb
    rw [E.den_app _ _ _ _ (by rw [← h.nv]; exact List.all_eq_true.1 hr b (by rw [h.rows]; exact hb))]
    exact h.rowd b hb
  · intro b hb
    rw [E.den_app _ _ _ _ (by rw [← h.nv]; exact List.all_eq_true.1 hh b (by rw [h.hs]; exact hb))]
    exact h.hsd b hb
  · intro t ht
    rw [show (({ s with nv := s.nv + y.length } : St).fr.getD t undefS).den (e0.at (r ++ y)) = _ from hslot t]
    exact h.slots t ht
  · intro j i' hj
    obtain ⟨h1, bb, h2, h3, h4, h5, mk, h6, h7, h8⟩ := h.alOK j i' hj
    refine ⟨h1, bb, h2, h3, h4, ?_, mk, h6, h7, h8⟩
    rw [hcs bb.cells (List.all_eq_true.1 hm bb (List.mem_of_getElem? h2))]
    exact h5

def upd (ents : Nat → Ent) (i : Nat) (x : Ent) : Nat → Ent := fun j => if j = i then x else ents j

theorem lexv_congr {ents' : Nat → Ent} {n : Nat} (h : ∀ j, j < n → ents' j = ents j) (t : Nat) : lexv ops ents' a0 n t = lexv ops ents a0 n t := by
  unfold lexv
  cases hw : writer ops n t with
  | none => rfl
  | some j => simp only [h j (writer_some hw).1]

theorem PreOK.congr {C : World → Prop} {ents' : Nat → Ent} {n : Nat} (h : ∀ j, j ≤ n → ents' j = ents j) (hp : PreOK P C ops ents a0 n) : PreOK P C ops ents' a0 n := by
  obtain ⟨o, h1, h2, look, opv, hl, h3, h4⟩ := hp
  refine ⟨o, h1, by rw [h n (Nat.le_refl _)]; exact h2, look, opv, hl, fun t ht => by rw [lexv_congr (fun j hj => h j (by omega))]; exact h3 t ht, ?_⟩
  rw [h n (Nat.le_refl _)]
  exact h4

theorem upd_self (ents : Nat → Ent) (i : Nat) (x : Ent) : upd ents i x i = x := by simp [upd]
theorem upd_ne (ents : Nat → Ent) (i : Nat) (x : Ent) {j : Nat} (h : j ≠ i) : upd ents i x j = ents j := by simp [upd, h]

theorem lexv_succ (hu : ∀ j t, j < i → (ops[j]?).bind (·.dst) = some t → (ops[i]?).bind (·.dst) ≠ some t) (x : Ent) (t : Nat) : lexv ops (upd ents i x) a0 (i + 1) t =
    if (ops[i]?).bind (·.dst) = some t then (if x.obj.isNone then some (x.val 0) else none) else lexv ops ents a0 i t := by
  unfold lexv
  rw [writer_succ]
  cases hw : writer ops i t with
  | some j =>
    obtain ⟨h1, h2⟩ := writer_some hw
    simp only [upd_ne ents i x (Nat.ne_of_lt h1), if_neg (hu j t h1 h2)]
  | none =>
    by_cases hd : (ops[i]?).bind (·.dst) = some t
    · simp [hd, upd_self]
    · simp [hd]

theorem Lex.put (h : Lex s0 e0 a0 ops i ents s r al) {o : Oper} (ho : ops[i]? = some o) (hu : ∀ j t, j < i → (ops[j]?).bind (·.dst) = some t → (ops[i]?).bind (·.dst) ≠ some t) (hdl : ∀ d, o.dst = some d → d < s0.fr.length)
    {v : SV} (hv : v.scp s0.mem.length s0.rows.length = true) : Lex s0 e0 a0 ops (i + 1) (upd ents i ⟨fun _ => v.den (e0.at r), none⟩) (s.put o.dst v) r al := by
  obtain ⟨p1, p2, p3, p4, p5, p6⟩ := put_fields s o.dst v
  have hslot : ∀ t, ((s.put o.dst v).fr.getD t undefS) = if o.dst = some t then v else s.fr.getD t undefS := by
    intro t
    cases hd : o.dst with
    | none => simp [St.put]
    | some d =>
      simp only [St.put, getD_set_fr, Option.some.injEq]
      have := hdl d hd
      rw [← h.len] at this
      by_cases hdt : d = t
      · subst hdt; simp [this]
      · simp [hdt, Ne.symm hdt]
  have hob : (ops[i]?).bind (·.dst) = o.dst := by rw [ho]; rfl
  refine ⟨h.ext, p3.trans h.nv, p4.trans h.nx, p5.trans h.fl, p6.trans h.flr, (put_gl _ _ _).trans h.gl, (put_hs _ _ _).trans h.hs, (put_dp _ _ _).trans h.dp, p2.trans h.rows, by rw [p1]; exact h.mem, by cases hd : o.dst <;> simp [St.put, h.len], h.memd, h.rowd, h.hsd, ?_, ?_, ?_, ?_, h.alND⟩
  · intro t ht
    rw [hslot t] at ht ⊢
    rw [lexv_succ hu, hob]
    split
    · simp
    · rename_i hd
      rw [if_neg hd] at ht
      exact h.slots t ht
  · intro t ht
    rw [hslot t] at ht
    split at ht
    · rw [hv] at ht; cases ht
    · exact h.nscp t ht
  · intro j i' hj
    obtain ⟨h1, bb, h2, h3, h4, h5, mk, h6, h7, h8⟩ := h.alOK j i' hj
    refine ⟨by omega, bb, by rw [p1]; exact h2, h3, h4, by rw [upd_ne _ _ _ (Nat.ne_of_lt h1)]; exact h5, mk, h6, by rw [upd_ne _ _ _ (Nat.ne_of_lt h1)]; exact h7, fun t ht => ?_⟩
    rw [hslot t, if_neg (by rw [← hob]; exact hu i' t h1 ht)]
    exact h8 t ht
  · intro i' hi' hs'
    by_cases hii : i' = i
    · subst hii; rw [upd_self] at hs'; cases hs'
    · rw [upd_ne _ _ _ hii] at hs'
      exact h.alAll i' (by omega) hs'

theorem Lex.new (h : Lex s0 e0 a0 ops i ents s r al) {o : Oper} (ho : ops[i]? = some o) (hu : ∀ j t, j < i → (ops[j]?).bind (·.dst) = some t → (ops[i]?).bind (·.dst) ≠ some t) (hdl : ∀ d, o.dst = some d → d < s0.fr.length)
    {b : Blk} (hbl : b.live = true) (hbs : b.cells.all (SC.scp s0.mem.length s0.rows.length) = true) {mk : Nat → SC} (hmk : (∀ n, mk n = .p n 0) ∨ ∃ l c, ∀ n, mk n = .s n 0 l c) {val : Nat → Value} (hval : ∀ (e : Env) n, (mk n).den e = val (e.β.getD n 0)) :
    Lex s0 e0 a0 ops (i + 1) (upd ents i ⟨val, some (.cells (b.cells.map (SC.den (e0.at r))).toArray b.ty (0, 0))⟩) (({ s with mem := s.mem ++ [b] } : St).put o.dst (one (mk s.mem.length))) r (al ++ [i]) := by
  obtain ⟨news, hmem, hnl⟩ := h.mem
  have hml : s.mem.length = s0.mem.length + al.length := by rw [hmem]; simp [hnl]
  obtain ⟨p1, p2, p3, p4, p5, p6⟩ := put_fields ({ s with mem := s.mem ++ [b] } : St) o.dst (one (mk s.mem.length))
  have hmkscp : (one (mk s.mem.length)).scp s0.mem.length s0.rows.length = false := by
    rcases hmk with hmk | ⟨l, c, hmk⟩ <;> rw [hmk] <;> simp [one, SV.scp, SW.scp, SC.scp] <;> omega
  have hslot : ∀ t, ((({ s with mem := s.mem ++ [b] } : St).put o.dst (one (mk s.mem.length))).fr.getD t undefS) = if o.dst = some t then one (mk s.mem.length) else s.fr.getD t undefS := by
    intro t
    cases hd : o.dst with
    | none => simp [St.put]
    | some d =>
      simp only [St.put, getD_set_fr, Option.some.injEq]
      have := hdl d hd
      rw [← h.len] at this
      by_cases hdt : d = t
      · subst hdt; simp [this]
      · simp [hdt, Ne.symm hdt]
  have hob : (ops[i]?).bind (·.dst) = o.dst := by rw [ho]; rfl
  have hali : ∀ i' ∈ al, i' < i := fun i' hi' => by
    obtain ⟨j, hj⟩ := List.getElem?_of_mem hi'
    exact (h.alOK j i' hj).1
  refine ⟨h.ext, p3.trans h.nv, p4.trans h.nx, p5.trans h.fl, p6.trans h.flr, (put_gl _ _ _).trans h.gl, (put_hs _ _ _).trans h.hs, (put_dp _ _ _).trans h.dp, p2.trans h.rows, ⟨news ++ [b], by rw [p1]; simp [hmem], by simp [hnl]⟩, by cases hd : o.dst <;> simp [St.put, h.len], h.memd, h.rowd, h.hsd, ?_, ?_, ?_, ?_, ?_⟩
  · intro t ht
    rw [hslot t] at ht ⊢
    rw [lexv_succ hu, hob]
    split
    · rename_i hd
      rw [if_pos hd, hmkscp] at ht
      cases ht
    · rename_i hd
      rw [if_neg hd] at ht
      exact h.slots t ht
  · intro t ht
    rw [hslot t] at ht
    split at ht
    · rename_i hd
      exact ⟨al.length, i, by simp, by rw [hob]; exact hd⟩
    · obtain ⟨j, i', hj, hd⟩ := h.nscp t ht
      exact ⟨j, i', by rw [List.getElem?_append_left (List.getElem?_eq_some_iff.1 hj).1]; exact hj, hd⟩
  · intro j i' hj
    rcases Nat.lt_trichotomy j al.length with hlt | heq | hgt
    · rw [List.getElem?_append_left hlt] at hj
      obtain ⟨h1, bb, h2, h3, h4, h5, mk', h6, h7, h8⟩ := h.alOK j i' hj
      refine ⟨by omega, bb, by rw [p1]; exact (List.getElem?_append_left (List.getElem?_eq_some_iff.1 h2).1).trans h2, h3, h4, by rw [upd_ne _ _ _ (Nat.ne_of_lt h1)]; exact h5, mk', h6, by rw [upd_ne _ _ _ (Nat.ne_of_lt h1)]; exact h7, fun t ht => ?_⟩
      rw [hslot t, if_neg (by rw [← hob]; exact hu i' t h1 ht)]
      exact h8 t ht
    · subst heq
      simp only [List.getElem?_concat_length, Option.some.injEq] at hj
      subst hj
      refine ⟨by omega, b, by rw [p1, ← hml]; simp, hbl, hbs, by rw [upd_self], mk, hmk, by rw [upd_self]; exact hval, fun t ht => ?_⟩
      rw [hslot t, if_pos (by rw [← hob]; exact ht), hml]
    · rw [List.getElem?_eq_none (by simp; omega)] at hj
      cases hj
  · intro i' hi' hs'
    by_cases hii : i' = i
    · subst hii; simp
    · rw [upd_ne _ _ _ hii] at hs'
      exact List.mem_append_left _ (h.alAll i' (by omega) hs')
  · rw [List.nodup_append]
    refine ⟨h.alND, by simp, ?_⟩
    intro a ha b' hb' heq
    simp only [List.mem_singleton] at hb'
    subst hb'
    subst heq
    have := hali _ ha
    omega
end
end Go.Sx
namespace Go.Sx
open Go.RowKit

/-! ### results without slices -/
theorem CellsR_flat {S : TypeId → List K → Value → Int → Prop} : ∀ {ks : List K} {cs : List Value} {xs : List Int}, nS ks = 0 → CellsR S ks cs xs → cs = mkCells ks xs ∧ slsC ks cs = []
  | [], [], [], _, _ => ⟨rfl, rfl⟩
  | .i k :: ks, c :: cs, x :: xs, h, hc => by
    obtain ⟨h1, h2⟩ := CellsR_flat (ks := ks) h hc.2
    have h3 : c = .int k x := hc.1
    exact ⟨by rw [h1, h3]; rfl, h2⟩
  | .b :: ks, c :: cs, x :: xs, h, hc => by
    obtain ⟨h1, h2⟩ := CellsR_flat (ks := ks) h hc.2
    have h3 : c = .bool (x != 0) := hc.1
    exact ⟨by rw [h1, h3]; rfl, h2⟩
  | .s _ _ :: _, _, _, h, _ => by simp [nS] at h
  | [], [], _ :: _, _, h => h.elim
  | [], _ :: _, _, _, h => h.elim
  | _ :: _, [], _, _, h => h.elim
  | _ :: _, _ :: _, [], _, h => h.elim

theorem nS_app : ∀ a b : List K, nS (a ++ b) = nS a + nS b
  | [], b => by simp [nS]
  | .i _ :: a, b => nS_app a b
  | .b :: a, b => nS_app a b
  | .s _ _ :: a, b => by simp [nS, nS_app a b]; omega

theorem ShsR_flat {S : TypeId → List K → Value → Int → Prop} : ∀ {ss : List Sh} {vs : List Value} {xs : List Int}, nS (allK ss) = 0 → ShsR S ss vs xs → vs = mkShs ss xs ∧ slsShs ss vs = []
  | [], _, _, _, h => by rw [h.1]; exact ⟨rfl, rfl⟩
  | s :: ss, _, _, hn, ⟨v, vr, ys, yr, h1, h2, h3, h4⟩ => by
    subst h1; subst h2
    rw [allK, nS_app] at hn
    obtain ⟨a1, a2⟩ := ShsR_flat (ss := ss) (by omega) h4
    have hl := h3.len
    simp only [mkShs, ← hl, List.take_left, List.drop_left, ← a1, slsShs, a2, List.append_nil]
    unfold ShR at h3
    unfold mkSh slsSh
    split at h3
    · rename_i ha
      obtain ⟨cs, rfl, h3⟩ := h3
      obtain ⟨b1, b2⟩ := CellsR_flat (by omega) h3
      simp only [ha, if_true]
      exact ⟨by rw [← b1], b2⟩
    · rename_i ha
      obtain ⟨b1, b2⟩ := CellsR_flat (by omega) h3
      simp only [ha]
      exact ⟨by rw [← b1]; rfl, b2⟩

theorem mkRes_resV (rs : List Sh) (ys : List Int) : mkRes rs ys = resV (mkShs rs ys) := by
  unfold mkRes resV
  rfl

theorem ShsR.up {S S' : TypeId → List K → Value → Int → Prop} (hS : ∀ ty ks u n, S ty ks u n → S' ty ks u n) : ∀ {ss : List Sh} {vs : List Value} {xs : List Int}, ShsR S ss vs xs → ShsR S' ss vs xs := by
  have hc : ∀ {ks : List K} {cs : List Value} {xs : List Int}, CellsR S ks cs xs → CellsR S' ks cs xs := by
    intro ks
    induction ks with
    | nil => intro cs xs h; cases cs <;> cases xs <;> first | exact h | exact h.elim
    | cons k ks ih =>
      intro cs xs h
      cases cs with
      | nil => exact h.elim
      | cons v vs => cases xs with
        | nil => exact h.elim
        | cons x xs =>
          refine ⟨?_, ih h.2⟩
          cases k with
          | i k => exact h.1
          | b => exact h.1
          | s ty ks => exact hS _ _ _ _ h.1
  intro ss
  induction ss with
  | nil => intro vs xs h; exact h
  | cons s ss ih =>
    intro vs xs h
    obtain ⟨v, vr, ys, yr, h1, h2, h3, h4⟩ := h
    refine ⟨v, vr, ys, yr, h1, h2, ?_, ih h4⟩
    unfold ShR at h3 ⊢
    split
    · rename_i ha
      rw [if_pos ha] at h3
      obtain ⟨cs, h5, h6⟩ := h3
      exact ⟨cs, h5, hc h6⟩
    · rename_i ha
      rw [if_neg ha] at h3
      exact hc h3
theorem ResOK.up {B B' : Nat → Prop} {w : World} {rs : List Sh} {v : Value} {ys : List Int} (hB : ∀ k, B k → B' k) (h : ResOK B w rs v ys) : ResOK B' w rs v ys := by
  obtain ⟨vs, h1, h2, h3⟩ := h
  exact ⟨vs, h1, h2.up (fun ty ks u n hu => ⟨hu.1, fun k hk => hB k (hu.2 k hk)⟩), h3⟩
theorem ResOK_flat {B : Nat → Prop} {w : World} {rs : List Sh} {v : Value} {ys : List Int} (hn : nS (allK rs) = 0) (h : ResOK B w rs v ys) : v = mkRes rs ys := by
  obtain ⟨vs, h1, h2, _⟩ := h
  rw [h1, mkRes_resV, ← (ShsR_flat hn h2).1]

section
variable {P : Program} {Γ : List Sum} {Ψ : List Int → Prop} {bs : List (List Int → Prop)} {R : Fo} {r : List Int}

def ResS (B : Nat → Prop) (w : World) : TypeId → List K → Value → Int → Prop := fun ty ks u n => RowOK w ty ks u n ∧ ∀ k, rowBlk u = some k → B k

def pairOK (S : TypeId → List K → Value → Int → Prop) (st : St) (e : Env) : List SC → List Int → Prop
  | [], [] => True
  | c :: cs, y :: ys => (∀ k, fitsC st [k] [c] = true → CellR S k (c.den e) y) ∧ pairOK S st e cs ys
  | _, _ => False

theorem fitsC_cons {st : St} {k : K} {ks : List K} {c : SC} {cs : List SC} (h : fitsC st (k :: ks) (c :: cs) = true) : fitsC st [k] [c] = true ∧ fitsC st ks cs = true := by
  unfold fitsC at h
  split at h
  · rename_i h1 h2; cases h1
  · rename_i h1 h2; cases h1; cases h2
    simp only [Bool.and_eq_true] at h
    exact ⟨by simp [fitsC, h.1], h.2⟩
  · rename_i h1 h2; cases h1; cases h2
    exact ⟨rfl, h⟩
  · rename_i h1 h2; cases h1; cases h2
    simp only [Bool.and_eq_true] at h
    exact ⟨by unfold fitsC; rw [h.1]; rfl, h.2⟩
  · rename_i h1 h2; cases h1; cases h2
    simp only [Bool.and_eq_true] at h
    exact ⟨by unfold fitsC; rw [h.1]; rfl, h.2⟩
  · rename_i h1 h2; cases h1; cases h2
    exact ⟨rfl, h⟩
  · cases h

theorem fitsC_len {st : St} : ∀ {ks : List K} {cs : List SC}, fitsC st ks cs = true → cs.length = ks.length
  | [], [], _ => rfl
  | [], _ :: _, h => by simp [fitsC] at h
  | k :: _, [], h => by cases k <;> simp [fitsC] at h
  | _ :: ks, _ :: cs, h => by simp [fitsC_len (fitsC_cons h).2]

theorem pairOK_cells {S : TypeId → List K → Value → Int → Prop} {st : St} {e : Env} : ∀ {ks : List K} {cs : List SC} {ys : List Int}, pairOK S st e cs ys → fitsC st ks cs = true → CellsR S ks (cs.map (SC.den e)) ys
  | [], [], [], _, _ => trivial
  | [], [], _ :: _, h, _ => h.elim
  | [], _ :: _, _, _, hf => by simp [fitsC] at hf
  | k :: ks, [], _, _, hf => by cases k <;> simp [fitsC] at hf
  | k :: ks, c :: cs, [], h, _ => h.elim
  | k :: ks, c :: cs, y :: ys, h, hf => by
    obtain ⟨h1, h2⟩ := fitsC_cons hf
    exact ⟨h.1 k h1, pairOK_cells h.2 h2⟩

theorem retC_sat {e : Env} {W0 : Bas} {st : St} {w : World} (hrep : Rep e W0 st w) : ∀ {cs : List SC} {k : List E → T}, (retC st cs k).sat Γ e.R Ψ bs e.r → ∃ es, (k es).sat Γ e.R Ψ bs e.r ∧ pairOK (ResS W0.may w) st e cs (es.map (E.den e.R e.r)) := by
  intro cs
  induction cs with
  | nil => intro k h; exact ⟨[], h, trivial⟩
  | cons c cs ih =>
    intro k h
    have bool : ∀ {x : B} {n : Int}, (x.den e.R e.r = (n != 0)) → ∀ kk, fitsC st [kk] [SC.b x] = true → CellR (ResS W0.may w) kk ((SC.b x).den e) n := by
      intro x n hx kk hk
      cases kk with
      | i kk => simp [fitsC] at hk
      | b => simp [CellR, SC.den, hx]
      | s ty kr => simp [fitsC] at hk
    have empty : ∀ {v : Value}, (v = .slice none 0 0 ∨ ∃ b off, v = .slice (some ⟨b, off, none⟩) 0 0) → ∀ ty kr, ResS W0.may w ty kr v (cod []) := by
      intro v hv ty kr
      refine ⟨.inl ⟨by simp, hv⟩, fun k hk => ?_⟩
      rcases hv with rfl | ⟨b, off, rfl⟩
      · cases hk
      · simp [rowBlk] at hk
    cases c with
    | i kk x =>
      obtain ⟨es, h1, h2⟩ := ih h
      refine ⟨x :: es, h1, ?_, h2⟩
      intro k' hk'
      cases k' with
      | i k'' => simp only [fitsC, Bool.and_true, beq_iff_eq] at hk'; subst hk'; rfl
      | b => simp [fitsC] at hk'
      | s ty kr => simp [fitsC] at hk'
    | b x =>
      have gen : ∀ {x : B}, (T.ite x (retC st cs fun es => k (.c 1 :: es)) (retC st cs fun es => k (.c 0 :: es))).sat Γ e.R Ψ bs e.r → ∃ es, (k es).sat Γ e.R Ψ bs e.r ∧ pairOK (ResS W0.may w) st e (SC.b x :: cs) (es.map (E.den e.R e.r)) := by
        intro x h
        obtain ⟨h1, h2⟩ := h
        cases hx : x.den e.R e.r with
        | true =>
          obtain ⟨es, h3, h4⟩ := ih (h1 hx)
          exact ⟨_, h3, bool (by rw [hx]; rfl), h4⟩
        | false =>
          obtain ⟨es, h3, h4⟩ := ih (h2 hx)
          exact ⟨_, h3, bool (by rw [hx]; rfl), h4⟩
      cases x with
      | c y =>
        obtain ⟨es, h1, h2⟩ := ih h
        exact ⟨_, h1, bool (by cases y <;> rfl), h2⟩
      | _ => exact gen h
    | go g =>
      simp only [retC] at h
      split at h
      · rename_i ks' c hg
        obtain ⟨es, h1, h2⟩ := ih h
        refine ⟨_, h1, ?_, h2⟩
        intro k' hk'
        cases k' with
        | i k'' => simp [fitsC] at hk'
        | b => simp [fitsC] at hk'
        | s ty kr =>
          cases g with
          | a i => simp [fitsC] at hk'
          | e g1 ix1 j1 x1 => simp [fitsC] at hk'
          | o n =>
            simp only [fitsC, Bool.and_true] at hk'
            split at hk'
            · rename_i b hb
              simp only [Bool.and_eq_true, decide_eq_true_eq] at hk'
              obtain ⟨⟨⟨hl, hf⟩, hty⟩, hks⟩ := hk'
              subst hty
              rw [← ksame_eq hks]
              simp only [gcode, hb, hl, if_true, Option.some.injEq, Prod.mk.injEq] at hg
              obtain ⟨_, rfl⟩ := hg
              exact ⟨hrep.row n b hb hl, hrep.rown n b hb hl hf⟩
            · cases hk'
      · exact h.elim
    | gz g =>
      obtain ⟨es, h1, h2⟩ := ih h
      refine ⟨_, h1, ?_, h2⟩
      intro k' hk'
      cases k' with
      | i k'' => simp [fitsC] at hk'
      | b => simp [fitsC] at hk'
      | s ty kr =>
        simp only [fitsC, Bool.and_true] at hk'
        obtain ⟨⟨ks', c'⟩, hg'⟩ := Option.isSome_iff_exists.1 hk'
        refine empty ?_ ty kr
        rcases hrep.gread hg' with ⟨hv, hn⟩ | ⟨b, off, cap, hv, hle, hm, hel, hcell⟩
        · exact .inl (by simp only [SC.den]; rw [hv]; rfl)
        · exact .inr ⟨b, off, by simp only [SC.den]; rw [hv]; rfl⟩
    | l v =>
      unfold retC at h
      split at h
      · rename_i heq; cases heq
      · rename_i heq; cases heq
      · rename_i heq; cases heq
      · rename_i heq; cases heq
      · rename_i heq; cases heq
      · rename_i heq; cases heq
      · rename_i heq
        cases heq
        obtain ⟨es, h1, h2⟩ := ih h
        refine ⟨_, h1, ?_, h2⟩
        intro k' hk'
        cases k' with
        | i k'' => simp [fitsC] at hk'
        | b => simp [fitsC] at hk'
        | s ty kr => exact empty (.inl rfl) ty kr
      · exact h.elim
    | _ => exact h.elim

theorem fitsW_cells {st : St} {s : Sh} {x : SW} (h : fitsW st s x = true) : fitsC st s.ks x.cells = true ∧ (s.agg = true → ∃ cs, x = .a cs) ∧ (s.agg = false → ∃ c, x = .o c) := by
  cases x <;> simp only [fitsW, Bool.and_eq_true, Bool.not_eq_true'] at h
  · exact ⟨h.2, fun ha => (by rw [h.1] at ha; cases ha), fun _ => ⟨_, rfl⟩⟩
  · exact ⟨h.2, fun _ => ⟨_, rfl⟩, fun ha => (by rw [h.1] at ha; cases ha)⟩

theorem cellsW_cons (x : SW) (xs : List SW) : cellsW (x :: xs) = x.cells ++ cellsW xs := by cases x <;> rfl

theorem fitsC_split {st : St} : ∀ {a : List K} {b : List K} {cs : List SC} {ds : List SC}, fitsC st a cs = true → fitsC st b ds = true → fitsC st (a ++ b) (cs ++ ds) = true := by
  intro a
  induction a with
  | nil =>
    intro b cs ds h1 h2
    cases cs with
    | nil => exact h2
    | cons c cs => simp [fitsC] at h1
  | cons k a ih =>
    intro b cs ds h1 h2
    cases cs with
    | nil => cases k <;> simp [fitsC] at h1
    | cons c cs =>
      obtain ⟨h3, h4⟩ := fitsC_cons h1
      have h5 := ih h4 h2
      unfold fitsC at h1
      split at h1
      · rename_i e1 e2; cases e1
      · rename_i e1 e2; cases e1; cases e2
        simp only [Bool.and_eq_true] at h1
        simp only [List.cons_append, fitsC, h1.1, h5, Bool.and_self]
      · rename_i e1 e2; cases e1; cases e2
        exact h5
      · rename_i e1 e2; cases e1; cases e2
        simp only [Bool.and_eq_true] at h1
        simp only [List.cons_append, fitsC]
        rw [h1.1, h5]; rfl
      · rename_i e1 e2; cases e1; cases e2
        simp only [Bool.and_eq_true] at h1
        simp only [List.cons_append, fitsC]
        rw [h1.1, h5]; rfl
      · rename_i e1 e2; cases e1; cases e2
        exact h5
      · cases h1

theorem fitsWs_cells {st : St} : ∀ {rs : List Sh} {xs : List SW}, fitsWs st rs xs = true → fitsC st (allK rs) (cellsW xs) = true
  | [], [], _ => rfl
  | [], _ :: _, h => by simp [fitsWs] at h
  | _ :: _, [], h => by simp [fitsWs] at h
  | s :: rs, x :: xs, h => by
    simp only [fitsWs, Bool.and_eq_true] at h
    rw [cellsW_cons]
    exact fitsC_split (fitsW_cells h.1).1 (fitsWs_cells h.2)

theorem CellsR_split {S : TypeId → List K → Value → Int → Prop} : ∀ {a b : List K} {cs ds : List Value} {ys : List Int}, cs.length = a.length → CellsR S (a ++ b) (cs ++ ds) ys → ∃ y1 y2, ys = y1 ++ y2 ∧ CellsR S a cs y1 ∧ CellsR S b ds y2
  | [], b, [], ds, ys, _, h => ⟨[], ys, rfl, trivial, h⟩
  | k :: a, b, c :: cs, ds, [], _, h => h.elim
  | k :: a, b, c :: cs, ds, y :: ys, hl, h => by
    obtain ⟨y1, y2, h1, h2, h3⟩ := CellsR_split (by simpa using hl) h.2
    exact ⟨y :: y1, y2, by rw [h1]; rfl, ⟨h.1, h2⟩, h3⟩
  | [], _, _ :: _, _, _, hl, _ => by simp at hl
  | _ :: _, _, [], _, _, hl, _ => by simp at hl

theorem slsC_app : ∀ {a b : List K} {cs ds : List Value}, cs.length = a.length → slsC (a ++ b) (cs ++ ds) = slsC a cs ++ slsC b ds
  | [], _, [], _, _ => rfl
  | .i _ :: a, b, _ :: cs, ds, h => slsC_app (a := a) (by simpa using h)
  | .b :: a, b, _ :: cs, ds, h => slsC_app (a := a) (by simpa using h)
  | .s _ _ :: a, b, c :: cs, ds, h => by simp only [List.cons_append, slsC]; rw [slsC_app (a := a) (by simpa using h)]
  | [], _, _ :: _, _, h => by simp at h
  | _ :: _, _, [], _, h => by simp at h

theorem fitsWs_ok {S : TypeId → List K → Value → Int → Prop} {st : St} {e : Env} : ∀ {rs : List Sh} {xs : List SW} {ys : List Int}, fitsWs st rs xs = true → CellsR S (allK rs) ((cellsW xs).map (SC.den e)) ys →
    ShsR S rs (xs.map (SW.den e)) ys ∧ slsShs rs (xs.map (SW.den e)) = slsC (allK rs) ((cellsW xs).map (SC.den e))
  | [], [], ys, _, h => by
    cases ys with
    | nil => exact ⟨⟨rfl, rfl⟩, rfl⟩
    | cons y ys => exact h.elim
  | [], _ :: _, _, hf, _ => by simp [fitsWs] at hf
  | _ :: _, [], _, hf, _ => by simp [fitsWs] at hf
  | s :: rs, x :: xs, ys, hf, h => by
    simp only [fitsWs, Bool.and_eq_true] at hf
    obtain ⟨f1, f2, f3⟩ := fitsW_cells hf.1
    have hl : (x.cells.map (SC.den e)).length = s.ks.length := by simpa using fitsC_len f1
    rw [cellsW_cons, List.map_append, allK] at h ⊢
    obtain ⟨y1, y2, rfl, h1, h2⟩ := CellsR_split hl h
    obtain ⟨h3, h4⟩ := fitsWs_ok hf.2 h2
    rw [slsC_app hl, ← h4]
    simp only [List.map_cons, slsShs]
    cases ha : s.agg with
    | true =>
      obtain ⟨cs, rfl⟩ := f2 ha
      refine ⟨⟨_, _, y1, y2, rfl, rfl, ?_, h3⟩, ?_⟩
      · unfold ShR; rw [if_pos ha]; exact ⟨_, rfl, h1⟩
      · unfold slsSh; rw [if_pos ha]; rfl
    | false =>
      obtain ⟨c, rfl⟩ := f3 ha
      refine ⟨⟨_, _, y1, y2, rfl, rfl, ?_, h3⟩, ?_⟩
      · unfold ShR; rw [if_neg (by simp [ha])]; exact h1
      · unfold slsSh; rw [if_neg (by simp [ha])]; rfl

theorem nodupB_spec : ∀ {l : List Nat}, nodupB l = true → l.Nodup
  | [], _ => List.nodup_nil
  | x :: l, h => by
    simp only [nodupB, Bool.and_eq_true, Bool.not_eq_true'] at h
    refine List.nodup_cons.2 ⟨fun hx => ?_, nodupB_spec h.2⟩
    have := h.1
    simp [hx] at this

theorem slsC_mem {st : St} {e : Env} {W0 : Bas} {w : World} (hrep : Rep e W0 st w) : ∀ {ks : List K} {cs : List SC}, fitsC st ks cs = true → ∀ v ∈ slsC ks (cs.map (SC.den e)), ∀ k, rowBlk v = some k → ∃ m b, m ∈ rowNames cs ∧ v = (G.o m).val e ∧ st.rows[m]? = some b ∧ b.live = true := by
  intro ks
  induction ks with
  | nil => intro cs _ v hv; cases cs <;> simp [slsC] at hv
  | cons k ks ih =>
    intro cs hf v hv kk hk
    cases cs with
    | nil => cases k <;> simp [slsC] at hv
    | cons c cs =>
      obtain ⟨h1, h2⟩ := fitsC_cons hf
      have rest : v ∈ slsC ks (cs.map (SC.den e)) → ∃ m b, m ∈ rowNames (c :: cs) ∧ v = (G.o m).val e ∧ st.rows[m]? = some b ∧ b.live = true := by
        intro hv
        obtain ⟨m, b, hm, h3⟩ := ih h2 v hv kk hk
        refine ⟨m, b, ?_, h3⟩
        cases c with
        | go g => cases g with
          | a i => exact hm
          | e g1 ix1 j1 x1 => exact hm
          | o n => exact List.mem_cons_of_mem _ hm
        | _ => exact hm
      cases k with
      | i k => exact rest (by simpa [slsC] using hv)
      | b => exact rest (by simpa [slsC] using hv)
      | s ty kr =>
        simp only [List.map_cons, slsC, List.mem_cons] at hv
        rcases hv with rfl | hv
        · unfold fitsC at h1
          split at h1
          · rename_i e1 e2; cases e1
          · rename_i e1 e2; cases e1
          · rename_i e1 e2; cases e1
          · rename_i e1 e2; cases e1; cases e2
            simp only [Bool.and_eq_true] at h1
            obtain ⟨h1, _⟩ := h1
            split at h1
            · rename_i n b hb
              simp only [Bool.and_eq_true] at h1
              exact ⟨_, b, by simp [rowNames], rfl, hb, h1.1.1.1⟩
            · cases h1
          · rename_i g _ e1 e2; cases e1; cases e2
            obtain ⟨a, l, c, hv⟩ := G.val_slice e g
            simp only [SC.den, hv, zeroV] at hk
            cases a <;> simp [rowBlk] at hk
          · rename_i e1 e2; cases e1; cases e2
            simp [SC.den, rowBlk] at hk
          · cases h1
        · exact rest hv

theorem slsC_apart {st : St} {e : Env} {W0 : Bas} {w : World} (hrep : Rep e W0 st w) : ∀ {ks : List K} {cs : List SC}, fitsC st ks cs = true → (rowNames cs).Nodup → apartV (slsC ks (cs.map (SC.den e))) := by
  intro ks
  induction ks with
  | nil => intro cs _ _; cases cs <;> exact List.Pairwise.nil
  | cons k ks ih =>
    intro cs hf hn
    cases cs with
    | nil => cases k <;> exact List.Pairwise.nil
    | cons c cs =>
      obtain ⟨h1, h2⟩ := fitsC_cons hf
      have hn' : (rowNames cs).Nodup := by
        cases c with
        | go g => cases g with
          | a i => exact hn
          | e g1 ix1 j1 x1 => exact hn
          | o n => exact (List.nodup_cons.1 hn).2
        | _ => exact hn
      cases k with
      | i k => exact ih h2 hn'
      | b => exact ih h2 hn'
      | s ty kr =>
        refine List.Pairwise.cons ?_ (ih h2 hn')
        intro v hv kk hk hk'
        obtain ⟨m, b, hm, rfl, hb, hl⟩ := slsC_mem hrep h2 v hv kk hk'
        obtain ⟨m2, b2, hm2, heq, hb2, hl2⟩ := slsC_mem hrep (ks := [K.s ty kr]) (cs := [c]) h1 (c.den e) (by simp [slsC]) kk hk
        rw [heq] at hk
        have := hrep.rsep _ _ _ _ kk hb hb2 hl hl2 hk' hk
        subst this
        cases c with
        | go g => cases g with
          | a i => simp [rowNames] at hm2
          | e g1 ix1 j1 x1 => simp [rowNames] at hm2
          | o n =>
            simp only [rowNames, List.mem_cons, List.not_mem_nil, or_false] at hm2
            subst hm2
            exact (List.nodup_cons.1 hn).1 hm
        | _ => simp [rowNames] at hm2

theorem retW_sat {e : Env} {W0 : Bas} {st : St} {w : World} (hrep : Rep e W0 st w) {rs : List Sh} {v : SV} (h : (retW st rs v).sat Γ e.R Ψ bs e.r) : ∃ ys, Ψ ys ∧ ResOK W0.may w rs (v.den e) ys := by
  unfold retW at h
  split at h
  · rename_i x
    split at h
    · rename_i hf
      simp only [Bool.and_eq_true] at hf
      obtain ⟨es, h1, h2⟩ := retC_sat hrep h
      have h3 := pairOK_cells h2 (fitsWs_cells hf.1)
      obtain ⟨h4, h5⟩ := fitsWs_ok hf.1 h3
      exact ⟨_, h1, [x.den e], rfl, h4, by
        have := slsC_apart hrep (fitsWs_cells hf.1) (nodupB_spec hf.2)
        rw [← h5] at this
        exact this⟩
    · exact h.elim
  · rename_i xs
    split at h
    · rename_i hf
      simp only [Bool.and_eq_true, bne_iff_ne, ne_eq] at hf
      obtain ⟨es, h1, h2⟩ := retC_sat hrep h
      have h3 := pairOK_cells h2 (fitsWs_cells hf.1.1)
      obtain ⟨h4, h5⟩ := fitsWs_ok hf.1.1 h3
      refine ⟨_, h1, xs.map (SW.den e), ?_, h4, by
        have := slsC_apart hrep (fitsWs_cells hf.1.1) (nodupB_spec hf.2)
        rw [← h5] at this
        exact this⟩
      match xs, hf.1.2 with
      | [], _ => rfl
      | [x], hne => exact absurd rfl hne
      | _ :: _ :: _, _ => rfl
    · exact h.elim
  · exact h.elim

theorem bindT_sat : ∀ {t : T} {k : List E → T}, (bindT t k).sat Γ R Ψ bs r → ∃ es, (k es).sat Γ R Ψ bs r ∧ ∀ (Ψ' : List Int → Prop) (bs' : List (List Int → Prop)), Ψ' (es.map (E.den R r)) → t.sat Γ R Ψ' bs' r := by
  intro t
  induction t with
  | ret es => intro k h; exact ⟨es, h, fun _ _ h' => h'⟩
  | ite b t f iht ihf =>
    intro k h
    obtain ⟨h1, h2⟩ := h
    cases hb : b.den R r with
    | true =>
      obtain ⟨es, h3, h4⟩ := iht (h1 hb)
      exact ⟨es, h3, fun Ψ' bs' h' => ⟨fun _ => h4 Ψ' bs' h', fun hf => (by rw [hb] at hf; cases hf)⟩⟩
    | false =>
      obtain ⟨es, h3, h4⟩ := ihf (h2 hb)
      exact ⟨es, h3, fun Ψ' bs' h' => ⟨fun ht => (by rw [hb] at ht; cases ht), fun _ => h4 Ψ' bs' h'⟩⟩
  | asrt b t ih =>
    intro k h
    obtain ⟨es, h3, h4⟩ := ih h.2
    exact ⟨es, h3, fun Ψ' bs' h' => ⟨h.1, h4 Ψ' bs' h'⟩⟩
  | call g args t ih => intro k h; exact h.elim
  | loop n ini t ih => intro k h; exact h.elim
  | back d es => intro k h; exact h.elim
  | both t f => intro k h; exact h.elim
  | fail => intro k h; exact h.elim

theorem doneK_sat {e : Env} {W0 : Bas} {s : St} {a : Act} {w : World} {F : Func} {rs : List Sh} {out : Out} (h : Rel e W0 s a w) (hs : (doneK P F rs out s).sat Γ e.R Ψ bs e.r) :
    (∀ id, out ≠ .exit id) ∧ ∃ ys v, Ψ ys ∧ ResOK W0.may w rs v ys ∧ (results F a.tmps).run P w = .ok v w := by
  have key : (match resOf P F s with | some v => retW s rs v | none => .fail : T).sat Γ e.R Ψ bs e.r → ∃ ys v, Ψ ys ∧ ResOK W0.may w rs v ys ∧ (results F a.tmps).run P w = .ok v w := by
    intro hs
    split at hs
    · rename_i v hv
      obtain ⟨ys, h1, h2⟩ := retW_sat h.rep hs
      exact ⟨ys, _, h1, h2, resOf_run h hv⟩
    · exact hs.elim
  cases out with
  | norm => exact ⟨fun _ h => (by cases h), key hs⟩
  | exit id => exact hs.elim
  | ret => exact ⟨fun _ h => (by cases h), key hs⟩

theorem calls_done {ih : Code → St → Kont → T} (hih : IH P Γ ih) {W0 : Bas} {e : Env} {s : St} {w : World} {args : List SV} {fn : FuncId} {F : Func} {body : Code} {rs : List Sh} (h : Rep e W0 s w) (hdp : s.dp = bs.length)
    (hF : P.funcs[fn]? = some F) (hb : F.body = some body) (hs : (ih body { s with fr := args ++ List.replicate (F.ntmps - args.length) undefS } (doneK P F rs)).sat Γ e.R Ψ bs e.r) :
    Calls P fn (args.map (SV.den e)).toArray w fun x w' => ∃ ys v, x = .returned v ∧ Ψ ys ∧ ResOK W0.may w' rs v ys ∧ BelowX W0 w' := by
  refine calls_of_wp hF hb ?_
  have hrel : Rel e W0 { s with fr := args ++ List.replicate (F.ntmps - args.length) undefS } { tmps := (args.map (SV.den e)).toArray ++ Array.replicate (F.ntmps - (args.map (SV.den e)).toArray.size) undef, defers := [] } w :=
    ⟨h.fr _, by
      apply Array.ext'
      simp [den_undefS], rfl⟩
  refine wp_mono (wps_wp _ (hih _ _ _ W0 Ψ bs e _ w hrel hdp hs)) ?_
  rintro x a' w' ⟨out, s', e', more, rfl, hle, hrel', hf, hfr, hd, hsat⟩
  obtain ⟨hne, ys, v, h1, h2, h3⟩ := doneK_sat hrel' hsat
  cases out with
  | norm => exact ⟨hrel'.defs, _, h3, ys, v, rfl, h1, h2, hrel'.rep.below⟩
  | exit id => exact absurd rfl (hne id)
  | ret => exact ⟨hrel'.defs, _, h3, ys, v, rfl, h1, h2, hrel'.rep.below⟩
end
end Go.Sx
