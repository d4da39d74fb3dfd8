/-
  Symbolic execution: arguments of plain data, opened whatever their type.
-/
import Derived.Test.YtgcoidbaoigkeaaSwR
import Derived.ProofKit
import Derived.OpenShut
import Derived.Carry
namespace Go.Sx
open Go.RowKit Go.ChangeShapes Go.WideShapes Go.ChangeAt

def layFs (P : Program) (rec : TypeId → Option (List K)) : List Field → Nat → Option (List K)
  | [], _ => some []
  | f :: fs, off => if f.offset = off then match rec f.type with
      | some ks => if ks.length = P.cellsOf f.type then (layFs P rec fs (off + ks.length)).map (ks ++ ·) else none
      | none => none
    else none

/-- The cells' kinds of a type of plain data. -/
def layTy (P : Program) : Nat → TypeId → Option (List K)
  | 0, _ => none
  | d + 1, t => match P.underlying t with
    | some (.int k) => some [.i k]
    | some .bool => some [.b]
    | some (.struct fs) => match layFs P (layTy P d) fs.toList 0 with
      | some ks => if ks.length = P.cellsOf t then some ks else none
      | none => none
    | some (.array n e) => match layTy P d e with
      | some ks => if ks.length = P.cellsOf e ∧ n * ks.length = P.cellsOf t then some (List.replicate n ks).flatten else none
      | none => none
    | _ => none

theorem plainK_app : ∀ {a b : List K}, plainK a = true → plainK b = true → plainK (a ++ b) = true
  | [], b, _, h => h
  | .i _ :: a, b, h, h' => plainK_app (a := a) (by simpa [plainK] using h) h'
  | .b :: a, b, h, h' => plainK_app (a := a) (by simpa [plainK] using h) h'
  | .s _ _ :: _, _, h, _ => by simp [plainK] at h
theorem plainK_rep {a : List K} (h : plainK a = true) : ∀ n, plainK (List.replicate n a).flatten = true
  | 0 => rfl
  | n + 1 => by rw [List.replicate_succ, List.flatten_cons]; exact plainK_app h (plainK_rep h n)
theorem layFs_plain {P : Program} {rec : TypeId → Option (List K)} (hr : ∀ t ks, rec t = some ks → plainK ks = true) : ∀ {fs : List Field} {off : Nat} {ks : List K}, layFs P rec fs off = some ks → plainK ks = true
  | [], off, ks, h => by simp only [layFs, Option.some.injEq] at h; subst h; rfl
  | f :: fs, off, ks, h => by
    simp only [layFs] at h
    split at h
    · split at h
      · rename_i k1 hk1
        split at h
        · obtain ⟨k2, h2, rfl⟩ := Option.map_eq_some_iff.1 h
          exact plainK_app (hr _ _ hk1) (layFs_plain hr h2)
        · cases h
      · cases h
    · cases h
theorem layTy_plain {P : Program} : ∀ {d : Nat} {t : TypeId} {ks : List K}, layTy P d t = some ks → plainK ks = true
  | 0, _, _, h => by simp [layTy] at h
  | d + 1, t, ks, h => by
    simp only [layTy] at h
    split at h
    · simp only [Option.some.injEq] at h; subst h; rfl
    · simp only [Option.some.injEq] at h; subst h; rfl
    · split at h
      · rename_i k1 hk1
        split at h
        · simp only [Option.some.injEq] at h; subst h
          exact layFs_plain (fun t ks h => layTy_plain h) hk1
        · cases h
      · cases h
    · split at h
      · rename_i k1 hk1
        split at h
        · simp only [Option.some.injEq] at h; subst h
          exact plainK_rep (layTy_plain hk1) _
        · cases h
      · cases h
    · cases h

def inK : K → Int → Prop
  | .i k, n => (Lit.int k n).wf = true
  | .b, n => n = 0 ∨ n = 1
  | .s _ _, _ => True

def rangeOK : List K → List Int → Prop
  | [], [] => True
  | k :: ks, x :: xs => inK k x ∧ rangeOK ks xs
  | _, _ => False

theorem rangeOK_len : ∀ {ks : List K} {xs : List Int}, rangeOK ks xs → xs.length = ks.length
  | [], [], _ => rfl
  | _ :: _, _ :: _, h => by simp [rangeOK_len h.2]
  | [], _ :: _, h => h.elim
  | _ :: _, [], h => h.elim

theorem rangeOK_app : ∀ {ks ls : List K} {xs ys : List Int}, rangeOK ks xs → rangeOK ls ys → rangeOK (ks ++ ls) (xs ++ ys)
  | [], _, [], _, _, h => h
  | _ :: _, _, _ :: _, _, h, h' => ⟨h.1, rangeOK_app h.2 h'⟩
  | [], _, _ :: _, _, h, _ => h.elim
  | _ :: _, _, [], _, h, _ => h.elim

theorem mkCells_app : ∀ {ks ls : List K} {xs ys : List Int}, xs.length = ks.length → mkCells (ks ++ ls) (xs ++ ys) = mkCells ks xs ++ mkCells ls ys
  | [], _, [], _, _ => rfl
  | _ :: ks, ls, x :: xs, ys, h => by
    simp only [List.cons_append, mkCells, List.length_cons, Nat.add_right_cancel_iff] at h ⊢
    rw [mkCells_app h]
  | [], _, _ :: _, _, h => by simp at h
  | _ :: _, _, [], _, h => by simp at h

section
variable {H : Type} {enc : TypeId × Value → H} {P : Program} {w : World} {base : Nat} {spare : Nat → Bool} {held : Bool}

theorem lay_struct {fuel : Nat} {rec : TypeId → Option (List K)} {xs : List (DataW H × List MemPlace)} {cs : List Value}
    (hrec : ∀ (t : TypeId) (ks : List K) (c : List Value) (x : DataW H × List MemPlace), rec t = some ks → DataW.trod enc P w base spare held fuel t c = some x → ∃ ys, c = mkCells ks ys ∧ rangeOK ks ys) :
    ∀ (fs : List Field) (off i : Nat) (ks : List K), layFs P rec fs off = some ks → off + ks.length ≤ cs.length →
      (∀ j f, fs[j]? = some f → DataW.trod enc P w base spare held fuel f.type ((cs.drop f.offset).take (P.cellsOf f.type)) = xs[i + j]?) → i + fs.length ≤ xs.length →
      ∃ ys, (cs.drop off).take ks.length = mkCells ks ys ∧ rangeOK ks ys
  | [], off, i, ks, h, _, _, _ => by
    simp only [layFs, Option.some.injEq] at h
    subst h
    exact ⟨[], by simp [mkCells], trivial⟩
  | f :: fs, off, i, ks, h, hle, hx, hlen => by
    simp only [layFs] at h
    split at h
    · rename_i hoff
      split at h
      · rename_i k1 hk1
        split at h
        · rename_i hc
          simp only [Option.map_eq_some_iff] at h
          obtain ⟨k2, hk2, rfl⟩ := h
          simp only [List.length_append, List.length_cons] at hle hlen
          have h0 := hx 0 f rfl
          rw [Nat.add_zero, List.getElem?_eq_getElem (by omega)] at h0
          obtain ⟨y1, hy1, hr1⟩ := hrec f.type k1 _ _ hk1 h0
          obtain ⟨y2, hy2, hr2⟩ := lay_struct (cs := cs) (xs := xs) hrec fs (off + k1.length) (i + 1) k2 hk2 (by omega) (fun j g hg => by
            have := hx (j + 1) g hg
            rwa [show i + (j + 1) = i + 1 + j by omega] at this) (by omega)
          refine ⟨y1 ++ y2, ?_, rangeOK_app hr1 hr2⟩
          rw [mkCells_app (rangeOK_len hr1), ← hy2, ← hy1, hoff, ← hc, List.length_append, List.take_add, List.drop_drop]
        · cases h
      · cases h
    · cases h

theorem lay_array {fuel : Nat} {e : TypeId} {ks : List K} {xs : List (DataW H × List MemPlace)} {cs : List Value} (hks : ks.length = P.cellsOf e)
    (hrec : ∀ (c : List Value) (x : DataW H × List MemPlace), DataW.trod enc P w base spare held fuel e c = some x → ∃ ys, c = mkCells ks ys ∧ rangeOK ks ys) :
    ∀ (n i : Nat), (∀ j, j < n → DataW.trod enc P w base spare held fuel e ((cs.drop ((i + j) * P.cellsOf e)).take (P.cellsOf e)) = xs[i + j]?) → i + n ≤ xs.length →
      ∃ ys, (cs.drop (i * ks.length)).take (n * ks.length) = mkCells (List.replicate n ks).flatten ys ∧ rangeOK (List.replicate n ks).flatten ys
  | 0, i, _, _ => ⟨[], by simp [mkCells], trivial⟩
  | n + 1, i, hx, hlen => by
    have h0 := hx 0 (by omega)
    rw [Nat.add_zero, List.getElem?_eq_getElem (by omega)] at h0
    obtain ⟨y1, hy1, hr1⟩ := hrec _ _ h0
    obtain ⟨y2, hy2, hr2⟩ := lay_array (cs := cs) (xs := xs) hks hrec n (i + 1) (fun j hj => by
      have := hx (j + 1) (by omega)
      rwa [show i + (j + 1) = i + 1 + j by omega] at this) (by omega)
    refine ⟨y1 ++ y2, ?_, ?_⟩
    · rw [List.replicate_succ, List.flatten_cons, mkCells_app (rangeOK_len hr1), ← hy2, ← hy1, hks, Nat.add_mul, Nat.one_mul, Nat.add_comm (n * P.cellsOf e), List.take_add, List.drop_drop, Nat.add_mul, Nat.one_mul]
    · rw [List.replicate_succ, List.flatten_cons]
      exact rangeOK_app hr1 hr2

theorem open_lay : ∀ (d fuel : Nat) (t : TypeId) (ks : List K) (cs : List Value) (x : DataW H × List MemPlace), layTy P d t = some ks → DataW.trod enc P w base spare held fuel t cs = some x → ∃ xs, cs = mkCells ks xs ∧ rangeOK ks xs
  | 0, _, _, _, _, _, h, _ => by simp [layTy] at h
  | d + 1, fuel, t, ks, cs, x, h, hd => by
    unfold layTy at h
    split at h
    · rename_i k ht
      simp only [Option.some.injEq] at h
      subst h
      obtain ⟨n, rfl, _, hwf⟩ := DataW.trod_int ht hd
      exact ⟨[n], rfl, hwf, trivial⟩
    · rename_i ht
      simp only [Option.some.injEq] at h
      subst h
      obtain ⟨b, rfl, _⟩ := DataW.trod_bool ht hd
      exact ⟨[if b then 1 else 0], by cases b <;> rfl, by cases b <;> simp [inK], trivial⟩
    · rename_i fs ht
      split at h
      · rename_i ks' hks
        split at h
        · rename_i hc
          simp only [Option.some.injEq] at h
          subst h
          obtain ⟨xs, n, rfl, _, hcl, hxl, hf⟩ := DataW.trod_struct ht hd
          obtain ⟨ys, hy, hr⟩ := lay_struct (cs := cs) (xs := xs) (fun t ks c x h1 h2 => open_lay d n t ks c x h1 h2) fs.toList 0 0 ks' hks (by omega) (fun j f hj => by
            rw [Nat.zero_add]
            exact hf j f (by simpa using hj)) (by simp; omega)
          refine ⟨ys, ?_, hr⟩
          rw [← hy, List.drop_zero, List.take_of_length_le (by omega)]
        · cases h
      · cases h
    · rename_i n e ht
      split at h
      · rename_i ks' hks
        split at h
        · rename_i hc
          simp only [Option.some.injEq] at h
          subst h
          obtain ⟨xs, m, rfl, _, hcl, hxl, hf⟩ := DataW.trod_array ht hd
          obtain ⟨ys, hy, hr⟩ := lay_array (cs := cs) (xs := xs) hc.1 (fun c x h2 => open_lay d m e ks' c x hks h2) n 0 (fun j hj => by
            rw [Nat.zero_add]
            exact hf j hj) (by omega)
          refine ⟨ys, ?_, hr⟩
          rw [← hy, Nat.zero_mul, List.drop_zero, List.take_of_length_le (by omega)]
        · cases h
      · cases h
    · cases h

/-- An argument of plain data. -/
theorem open_sh {r : Reach} {b0 : Nat} {t : TypeId} {sh : Sh} {v : Value} {d : DataW H} {ps : List MemPlace} (hl : layTy P 8 t = some sh.ks) (ha : tyAgg P t = sh.agg) (hval : Value.okWide P w r b0 t v) (hd : DataW.Trod enc P w base spare held t v d ps) :
    ∃ xs, v = mkSh sh xs ∧ rangeOK sh.ks xs := by
  obtain ⟨fuel, hf⟩ := hd
  obtain ⟨xs, hxs, hr⟩ := open_lay 8 fuel t sh.ks v.cells.toList _ hl hf
  refine ⟨xs, ?_, hr⟩
  unfold tyAgg at ha
  unfold Value.okWide at hval
  cases hu : P.underlying t with
  | none => simp [layTy, hu] at hl
  | some dsc =>
    rw [hu] at ha hval
    cases dsc with
    | struct fs =>
      obtain ⟨cs, rfl, _⟩ := hval
      simp only at ha
      simp [mkSh, ← ha, ← hxs, Value.cells]
    | array n e =>
      obtain ⟨cs, rfl, _⟩ := hval
      simp only at ha
      simp [mkSh, ← ha, ← hxs, Value.cells]
    | int k =>
      obtain ⟨n, rfl⟩ := okWide_int hu (by unfold Value.okWide; rw [hu]; exact hval)
      simp only at ha
      simp [mkSh, ← ha, ← hxs, Value.cells]
    | bool =>
      obtain ⟨n, rfl⟩ := okWide_bool hu (by unfold Value.okWide; rw [hu]; exact hval)
      simp only at ha
      simp [mkSh, ← ha, ← hxs, Value.cells]
    | _ => simp [layTy, hu] at hl
end

theorem mkShs_cons {s : Sh} {ss : List Sh} {xs ys : List Int} (h : xs.length = s.ks.length) : mkShs (s :: ss) (xs ++ ys) = mkSh s xs :: mkShs ss ys := by
  simp only [mkShs]
  rw [← h, List.take_left, List.drop_left]

theorem len_cons {l : List Int} {n : Nat} (h : l.length = n + 1) : ∃ a t, l = a :: t ∧ t.length = n := by
  match l, h with
  | a :: t, h => exact ⟨a, t, rfl, by simpa using h⟩

theorem len_nil {l : List Int} (h : l.length = 0) : l = [] := List.eq_nil_of_length_eq_zero h

theorem wf_i64 {n : Int} (h : (Lit.int .i64 n).wf = true) : -9223372036854775808 ≤ n ∧ n ≤ 9223372036854775807 := by
  simp only [Lit.wf, Bool.and_eq_true, decide_eq_true_eq] at h
  have h1 : IntKind.i64.min = -9223372036854775808 := by decide
  have h2 : IntKind.i64.max = 9223372036854775807 := by decide
  rw [h1, h2] at h
  exact h

def Bo : Sh := ⟨false, [.b]⟩
def I1 : Sh := ⟨false, [.i .i64]⟩
def An (n : Nat) : Sh := ⟨true, List.replicate n (.i .i64)⟩

/-! ### a slice that came in -/
theorem mapM_cells {w : World} {a : Addr} : ∀ (n : Nat) (f : Nat → Nat) (cs : List Value), (List.range n).mapM (fun i => w.cell? (a.add (f i))) = some cs → cs.length = n ∧ ∀ j v, cs[j]? = some v → w.cell? (a.add (f j)) = some v := by
  have key : ∀ (l : List Nat) (f : Nat → Nat) (cs : List Value), l.mapM (fun i => w.cell? (a.add (f i))) = some cs → cs.length = l.length ∧ ∀ (j : Nat) (v : Value), cs[j]? = some v → ∃ i, l[j]? = some i ∧ w.cell? (a.add (f i)) = some v := by
    intro l
    induction l with
    | nil => intro f cs h; simp at h; subst h; simp
    | cons x l ih =>
      intro f cs h
      simp only [List.mapM_cons, Option.bind_eq_bind, Option.pure_def, Option.bind_eq_some_iff, Option.some.injEq] at h
      obtain ⟨v, hv, vs, hvs, rfl⟩ := h
      obtain ⟨h1, h2⟩ := ih f vs hvs
      refine ⟨by simp [h1], fun j u hj => ?_⟩
      cases j with
      | zero => simp only [List.getElem?_cons_zero, Option.some.injEq] at hj; subst hj; exact ⟨x, rfl, hv⟩
      | succ j => obtain ⟨i, h3, h4⟩ := h2 j u (by simpa using hj); exact ⟨i, by simpa using h3, h4⟩
  intro n f cs h
  obtain ⟨h1, h2⟩ := key _ f cs h
  refine ⟨by simpa using h1, fun j v hj => ?_⟩
  obtain ⟨i, h3, h4⟩ := h2 j v hj
  have hlt : j < n := by have := (List.getElem?_eq_some_iff.1 h3).1; simpa using this
  rw [List.getElem?_range hlt] at h3
  simp only [Option.some.injEq] at h3
  rw [h3]; exact h4

/-- An element's number. -/
def elemI (ks : List K) (ys : List Int) : Int := if ks.length = 1 then ys.getD 0 0 else cod ys

theorem elt_elemI {ks : List K} {ys : List Int} (h : ys.length = ks.length) : elt ks (elemI ks ys) = ys := by
  unfold elt elemI
  by_cases h1 : ks.length = 1
  · simp only [h1, if_true]
    rw [h1] at h
    match ys, h with
    | [y], _ => rfl
  · simp only [h1, if_false, dec_cod]

theorem open_sl {H : Type} {enc : TypeId × Value → H} {P : Program} {w : World} {base : Nat} {spare : Nat → Bool} {held : Bool} {r : Reach} {b0 : Nat} {t e : TypeId} {ks : List K} {v : Value} {d : DataW H} {ps : List MemPlace}
    (hu : P.underlying t = some (.slice e)) (hl : layTy P 8 e = some ks) (hc : ks.length = P.cellsOf e) (hcell : Cell.ok P w r b0 t v) {fuel : Nat} (hf : DataW.trod enc P w base spare held fuel t [v] = some (d, ps)) :
    ∃ l : List Int, SlOK w ks v (cod l) ∧ ∀ x ∈ l, rangeOK ks (elt ks x) := by
  rcases DataW.trod_slice hu hf with ⟨hv, _⟩ | ⟨a, len, cap, elems, rest, n, _, hv, _, hb, hle, hm, hlen, hel, _, _⟩
  · simp only [List.cons.injEq, and_true] at hv
    exact ⟨[], .inl ⟨hv, by simp⟩, by simp⟩
  · simp only [List.cons.injEq, and_true] at hv
    subst hv
    have hspot : a.spot = none := by
      unfold Cell.ok at hcell
      rw [hu] at hcell
      exact hcell.2.2.2.1
    obtain ⟨b, off, sp⟩ := a
    simp only at hspot
    subst hspot
    have each : ∀ i, i < len → ∃ ys, rangeOK ks ys ∧ ∀ j u, (mkCells ks ys)[j]? = some u → w.cell? ⟨b, off + (i * ks.length + j), none⟩ = some u := by
      intro i hi
      have h1 := hel i hi
      rw [List.getElem?_eq_getElem (by omega), Option.bind_eq_some_iff] at h1
      obtain ⟨cs, h2, h3⟩ := h1
      obtain ⟨ys, h4, h5⟩ := open_lay 8 n e ks cs _ hl h3
      refine ⟨ys, h5, fun j u hj => ?_⟩
      unfold World.cells? at h2
      split at h2
      · obtain ⟨_, h6⟩ := mapM_cells _ (fun i => i) cs h2
        rw [h4] at h6
        have := h6 j u hj
        rw [Addr.add_lit, Addr.add_lit, ← hc] at this
        rw [← this]
        congr 2
        omega
      · cases h2
    have hys : ∃ f : Nat → List Int, ∀ i, i < len → rangeOK ks (f i) ∧ ∀ j u, (mkCells ks (f i))[j]? = some u → w.cell? ⟨b, off + (i * ks.length + j), none⟩ = some u := by
      refine ⟨fun i => if h : i < len then Classical.choose (each i h) else [], fun i hi => ?_⟩
      simp only [hi, dif_pos]
      exact Classical.choose_spec (each i hi)
    obtain ⟨f, hf'⟩ := hys
    have hmem : ∀ x ∈ (List.range len).map fun i => elemI ks (f i), ∃ i, i < len ∧ elt ks x = f i := by
      intro x hx
      obtain ⟨i, hi, rfl⟩ := List.mem_map.1 hx
      have hi' : i < len := by simpa using hi
      exact ⟨i, hi', elt_elemI (rangeOK_len (hf' i hi').1)⟩
    refine ⟨(List.range len).map fun i => elemI ks (f i), .inr ⟨b, off, cap, ?_, ?_, hm, ?_, ?_⟩, ?_⟩
    · rw [dec_cod]; simp
    · rw [dec_cod]; simpa using hle
    · rw [dec_cod]
      intro x hx
      obtain ⟨i, hi, h⟩ := hmem x hx
      rw [h]; exact rangeOK_len (hf' i hi).1
    · rw [dec_cod]
      intro j u hj
      have hall : ∀ x ∈ (List.range len).map fun i => elemI ks (f i), (elt ks x).length = ks.length := fun x hx => by
        obtain ⟨i, hi, h⟩ := hmem x hx
        rw [h]; exact rangeOK_len (hf' i hi).1
      have hjl := (List.getElem?_eq_some_iff.1 hj).1
      rw [cellsL_length hall, List.length_map, List.length_range] at hjl
      have hk : 0 < ks.length := by
        rcases Nat.eq_zero_or_pos ks.length with h | h
        · rw [h] at hjl; simp at hjl
        · exact h
      have hi : j / ks.length < len := by rw [Nat.div_lt_iff_lt_mul hk]; exact hjl
      have hjj : j / ks.length * ks.length + j % ks.length = j := Nat.div_add_mod' j ks.length
      rw [← hjj] at hj
      rw [cellsL_at hall (by simpa using hi) (Nat.mod_lt _ hk)] at hj
      have hg : ((List.range len).map fun i => elemI ks (f i)).getD (j / ks.length) 0 = elemI ks (f (j / ks.length)) := by
        simp [List.getD, hi]
      rw [hg, elt_elemI (rangeOK_len (hf' _ hi).1)] at hj
      have := (hf' _ hi).2 _ u hj
      rwa [hjj] at this
    · intro x hx
      obtain ⟨i, hi, h⟩ := hmem x hx
      rw [h]; exact (hf' i hi).1

/-- A slice among the arguments. -/
theorem open_slT {H : Type} {enc : TypeId × Value → H} {P : Program} {w : World} {base : Nat} {spare : Nat → Bool} {held : Bool} {r : Reach} {b0 : Nat} {t e : TypeId} {ks : List K} {v : Value} {d : DataW H} {ps : List MemPlace}
    (hu : P.underlying t = some (.slice e)) (hl : layTy P 8 e = some ks) (hc : ks.length = P.cellsOf e) (hval : Value.okWide P w r b0 t v) (hd : DataW.Trod enc P w base spare held t v d ps) :
    ∃ l : List Int, ShR (fun _ ks u n => SlN w ks u n) ⟨false, [.s e ks]⟩ v [cod l] ∧ ∀ x ∈ l, rangeOK ks (elt ks x) := by
  obtain ⟨a, len, cap, rfl⟩ := okWide_slice hu hval
  obtain ⟨fuel, hf⟩ := hd
  have hcell : Cell.ok P w r b0 t (.slice a len cap) := by
    unfold Value.okWide at hval
    rw [hu] at hval
    unfold Cell.okWide at hval
    rw [hu] at hval
    exact hval
  obtain ⟨l, h1, h2⟩ := open_sl hu hl hc hcell (fuel := fuel) hf
  exact ⟨l, ⟨h1.toN (layTy_plain hl), trivial⟩, h2⟩

/-- A struct of one slice among the arguments. -/
theorem open_st1 {H : Type} {enc : TypeId × Value → H} {P : Program} {w : World} {base : Nat} {spare : Nat → Bool} {held : Bool} {r : Reach} {b0 : Nat} {t e : TypeId} {f : Field} {ks : List K} {v : Value} {d : DataW H} {ps : List MemPlace}
    (hu : P.underlying t = some (.struct #[f])) (h0 : f.offset = 0) (h1 : P.cellsOf f.type = 1) (hct : P.cellTypes P.depth t = some [f.type]) (hcs : P.cellsOf t = 1)
    (huf : P.underlying f.type = some (.slice e)) (hl : layTy P 8 e = some ks) (hc : ks.length = P.cellsOf e) (hval : Value.okWide P w r b0 t v) (hd : DataW.Trod enc P w base spare held t v d ps) :
    ∃ l : List Int, ShR (fun _ ks u n => SlN w ks u n) ⟨true, [.s e ks]⟩ v [cod l] ∧ ∀ x ∈ l, rangeOK ks (elt ks x) := by
  unfold Value.okWide at hval
  rw [hu] at hval
  obtain ⟨cs, rfl, hsz, ts, hts, _, hcell⟩ := hval
  rw [hct] at hts
  simp only [Option.some.injEq] at hts
  subst hts
  rw [hcs] at hsz
  obtain ⟨v0, rfl⟩ : ∃ v0, cs = #[v0] := by
    obtain ⟨l⟩ := cs
    match l, hsz with
    | [v0], _ => exact ⟨v0, rfl⟩
  obtain ⟨u, hu0, hok⟩ := hcell 0 v0 rfl
  simp only [List.length_singleton, Nat.zero_mod, List.getElem?_cons_zero, Option.some.injEq] at hu0
  subst hu0
  have hval0 : Value.okWide P w r b0 f.type v0 := by
    unfold Value.okWide
    rw [huf]
    exact hok
  obtain ⟨fuel, hf⟩ := hd
  obtain ⟨xs, n, hd', hp', hcl, hxl, hfld⟩ := DataW.trod_struct hu hf
  have h2 := hfld 0 f rfl
  rw [h0, h1, List.drop_zero] at h2
  have hxl' : 0 < xs.length := by rw [hxl]; exact Nat.zero_lt_one
  rw [List.getElem?_eq_getElem hxl'] at h2
  obtain ⟨a, len, cap, rfl⟩ := okWide_slice huf hval0
  have hd0 : DataW.Trod enc P w base spare held f.type (.slice a len cap) xs[0].1 xs[0].2 := ⟨n, by simpa [Value.cells] using h2⟩
  obtain ⟨l, hs, hr⟩ := open_slT huf hl hc hval0 hd0
  unfold ShR at hs
  simp only [Bool.false_eq_true, if_false] at hs
  exact ⟨l, ⟨[.slice a len cap], rfl, hs⟩, hr⟩

theorem CellsR_mk {S : TypeId → List K → Value → Int → Prop} : ∀ {ks : List K} {xs : List Int}, nS ks = 0 → xs.length = ks.length → CellsR S ks (mkCells ks xs) xs
  | [], [], _, _ => trivial
  | .i k :: ks, x :: xs, h, hl => ⟨rfl, CellsR_mk (ks := ks) h (by simpa using hl)⟩
  | .b :: ks, x :: xs, h, hl => ⟨rfl, CellsR_mk (ks := ks) h (by simpa using hl)⟩
  | .s _ _ :: _, _, h, _ => by simp [nS] at h
  | [], _ :: _, _, h => by simp at h
  | _ :: _, [], _, h => by simp at h

theorem ShR_mk {S : TypeId → List K → Value → Int → Prop} {s : Sh} {xs : List Int} (hs : (s.agg || s.ks.length == 1) = true) (h : nS s.ks = 0) (hl : xs.length = s.ks.length) : ShR S s (mkSh s xs) xs := by
  have := CellsR_mk (S := S) h hl
  unfold ShR mkSh
  cases ha : s.agg with
  | true => simp only [if_true]; exact ⟨_, rfl, this⟩
  | false =>
    simp only [ha, Bool.false_or, beq_iff_eq] at hs
    simp only [Bool.false_eq_true, if_false]
    have h1 := mkCells_length hl
    rw [hs] at h1
    match hm : mkCells s.ks xs, h1 with
    | [v], _ => rw [hm] at this; exact this

theorem ShsR_mk {S : TypeId → List K → Value → Int → Prop} : ∀ {ss : List Sh} {xs : List Int}, ss.all (fun sh => sh.agg || sh.ks.length == 1) = true → nS (allK ss) = 0 → xs.length = total ss → ShsR S ss (mkShs ss xs) xs
  | [], xs, _, _, hl => ⟨rfl, len_nil hl⟩
  | s :: ss, xs, hs, h, hl => by
    rw [allK, nS_app] at h
    simp only [List.all_cons, Bool.and_eq_true] at hs
    simp only [total] at hl
    refine ⟨_, _, xs.take s.ks.length, xs.drop s.ks.length, rfl, (List.take_append_drop _ _).symm, ShR_mk hs.1 (by omega) (by simp; omega), ShsR_mk hs.2 (by omega) (by simp; omega)⟩

/-- A law that its tree shows true, whatever came in. -/
theorem law_trueL {P : Program} {Γ : List Sum} (hm : P.follows .mixedOrders = true) (hG : Gok P Γ) {lp : St → Code → Option Plan} {fuel : Nat} {gl : List (Nat × List Int)} {fn : FuncId} {ps : List Sh} {t : T} (ht : symFnL P lp gl Γ fuel fn ps [Bo] = t) {xs : List Int} {vs : List Value} (w : World)
    (hx : ShsR (fun _ ks u n => SlN w ks u n) ps vs xs) (hs : t.sat Γ [] (fun ys => ys = [1]) [] xs) (hgl : GlOK gl w) :
    Calls P fn vs.toArray w fun e w' => e = .returned (.bool true) ∧ Below w.heap.size w w' := by
  subst ht
  refine (symFnL_sound hm hG w hx hs hgl).mono ?_
  rintro e w' ⟨ys, v, rfl, rfl, hv, hb⟩
  exact ⟨by rw [ResOK_flat (by rfl) hv]; rfl, hb⟩

/-- A law that its tree shows true. -/
theorem law_true {P : Program} {Γ : List Sum} (hm : P.follows .mixedOrders = true) (hG : Gok P Γ) {lp : St → Code → Option Plan} {fuel : Nat} {gl : List (Nat × List Int)} {fn : FuncId} {ps : List Sh} {t : T} (ht : symFnL P lp gl Γ fuel fn ps [Bo] = t) {xs : List Int}
    (hps : ps.all (fun sh => sh.agg || sh.ks.length == 1) = true) (hns : nS (allK ps) = 0) (hx : xs.length = total ps)
    (hs : t.sat Γ [] (fun ys => ys = [1]) [] xs) (w : World) (hgl : GlOK gl w) :
    Calls P fn (mkShs ps xs).toArray w fun e w' => e = .returned (.bool true) ∧ Below w.heap.size w w' :=
  law_trueL hm hG ht w (ShsR_mk hps hns hx) hs hgl

end Go.Sx
