/-
  Symbolic execution: arguments of plain data, opened whatever their type.
-/
import Derived.Test.YtgcoidbaoigkeaaSwR
import Derived.ProofKit
import Derived.OpenShut
import Derived.Carry
namespace Go.Sx
open Go.RowKit Go.ChangeShapes Go.WideShapes Go.ChangeAt

def inK : K → Int → Prop
  | .i k, n => (Lit.int k n).wf = true
  | .b, n => n = 0 ∨ n = 1
  | .s _ _, _ => True

def rangeOK : List K → List Int → Prop
  | [], [] => True
  | k :: ks, x :: xs => inK k x ∧ rangeOK ks xs
  | _, _ => False

section
variable {H : Type} {enc : TypeId × Value → H} {P : Program} {w : World} {base : Nat} {spare : Nat → Bool} {held : Bool}

end

theorem len_nil {l : List Int} (h : l.length = 0) : l = [] := List.eq_nil_of_length_eq_zero h

theorem wf_i64 {n : Int} (h : (Lit.int .i64 n).wf = true) : -9223372036854775808 ≤ n ∧ n ≤ 9223372036854775807 := by
  simp only [Lit.wf, Bool.and_eq_true, decide_eq_true_eq] at h
  have h1 : IntKind.i64.min = -9223372036854775808 := by decide
  have h2 : IntKind.i64.max = 9223372036854775807 := by decide
  rw [h1, h2] at h
  exact h

def Bo : Sh := ⟨false, [.b]⟩
def I1 : Sh := ⟨false, [.i .i64]⟩
def An (n : Nat) : Sh := ⟨true, List.replicate n (.i .i64)⟩

/-! ### a slice that came in -/
theorem CellsR_mk {S : TypeId → List K → Value → Int → Prop} : ∀ {ks : List K} {xs : List Int}, nS ks = 0 → xs.length = ks.length → CellsR S ks (mkCells ks xs) xs
  | [], [], _, _ => trivial
  | .i k :: ks, x :: xs, h, hl => ⟨rfl, CellsR_mk (ks := ks) h (by simpa using hl)⟩
  | .b :: ks, x :: xs, h, hl => ⟨rfl, CellsR_mk (ks := ks) h (by simpa using hl)⟩
  | .s _ _ :: _, _, h, _ => by simp [nS] at h
  | [], _ :: _, _, h => by simp at h
  | _ :: _, [], _, h => by simp at h

theorem ShR_mk {S : TypeId → List K → Value → Int → Prop} {s : Sh} {xs : List Int} (hs : (s.agg || s.ks.length == 1) = true) (h : nS s.ks = 0) (hl : xs.length = s.ks.length) : ShR S s (mkSh s xs) xs := by
  have := CellsR_mk (S := S) h hl
  unfold ShR mkSh
  cases ha : s.agg with
  | true => simp only [if_true]; exact ⟨_, rfl, this⟩
  | false =>
    simp only [ha, Bool.false_or, beq_iff_eq] at hs
    simp only [Bool.false_eq_true, if_false]
    have h1 := mkCells_length hl
    rw [hs] at h1
    match hm : mkCells s.ks xs, h1 with
    | [v], _ => rw [hm] at this; exact this

theorem ShsR_mk {S : TypeId → List K → Value → Int → Prop} : ∀ {ss : List Sh} {xs : List Int}, ss.all (fun sh => sh.agg || sh.ks.length == 1) = true → nS (allK ss) = 0 → xs.length = total ss → ShsR S ss (mkShs ss xs) xs
  | [], xs, _, _, hl => ⟨rfl, len_nil hl⟩
  | s :: ss, xs, hs, h, hl => by
    rw [allK, nS_app] at h
    simp only [List.all_cons, Bool.and_eq_true] at hs
    simp only [total] at hl
    refine ⟨_, _, xs.take s.ks.length, xs.drop s.ks.length, rfl, (List.take_append_drop _ _).symm, ShR_mk hs.1 (by omega) (by simp; omega), ShsR_mk hs.2 (by omega) (by simp; omega)⟩

theorem law_trueL {P : Program} {Γ : List Sum} (hm : P.follows .mixedOrders = true) (hG : Gok P Γ) {lp : St → Code → Option Plan} {fuel : Nat} {gl : List (Nat × List Int)} {fn : FuncId} {ps : List Sh} {t : T} (ht : symFnL P lp gl Γ fuel fn ps [Bo] = t) {xs : List Int} {vs : List Value} (w : World)
    (hx : ShsR (fun _ ks u n => SlN w ks u n) ps vs xs) (hs : t.sat Γ [] (fun ys => ys = [1]) [] xs) (hgl : GlOK gl w) :
    Calls P fn vs.toArray w fun e w' => e = .returned (.bool true) ∧ Below w.heap.size w w' := by
  subst ht
  refine (symFnL_sound hm hG w hx hs hgl).mono ?_
  rintro e w' ⟨ys, v, rfl, rfl, hv, hb⟩
  exact ⟨by rw [ResOK_flat (by rfl) hv]; rfl, hb⟩

end Go.Sx
