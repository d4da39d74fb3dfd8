/-
  Symbolic execution: single operations, indexes, slices, comparisons, literals.
-/
import Derived.Test.YtjbkcjbjllmhfaaDoorSyF
namespace Go.Sx
open Go.RowKit

section
variable {P : Program} {e : Env} {W0 : World} {s s' : St} {o : Oper} {ev : Operand → Value} {v : SV} {w : World} {as : List B}

theorem constOf_den {x : SV} {i : Nat} (h : constOf x = some i) (e : Env) : ∃ k, x.den e = .int k (i : Int) := by
  unfold constOf at h
  split at h
  · rename_i k n
    split at h
    · rename_i hn
      simp only [Option.some.injEq] at h
      subst h
      exact ⟨k, by simp [SV.den, SW.den, SC.den, E.den, Int.toNat_of_nonneg hn]⟩
    · cases h
  · cases h

theorem op_indexAddr {t : TypeId} {x ix : Operand} (ho : o.op = .indexAddr t x ix) (h : op1 P s o = some (as, v, s')) (hrep : Rep e W0 s w) (hev : ev x = (s.ev x).den e) (hix : ev ix = (s.ev ix).den e) (has : ∀ b ∈ as, b.den e.R e.r = true) : OpOut P e W0 s s' o ev v w := by
  simp only [op1, ho] at h
  have arr : ∀ {len : Nat} {elem : TypeId} {i : Nat} {k : IntKind} (a : Addr), P.underlying t = some (.array len elem) → (P.info? elem).isSome = true → i < len → ev ix = .int k (i : Int) → ev x = .pointer (some a) →
      (execOp ev o).run P w = .ok (.value (.pointer (some (a.add (i * P.cellsOf elem))))) w := by
    intro len elem i k a hu hinf hi he hx
    simp only [execOp, ho, Instr.indexAt, he, hx, asIntOf, Sem.run_bind, Sem.run_pure, Result.andThen_ok, run_underlying hu, Instr.sureAddr, Sem.run_ite, run_sizeOf' hinf]
    rw [if_pos ⟨by omega, by omega⟩]
    simp
  have slc : ∀ {len cap : Nat} {elem : TypeId} {i : Int} {k : IntKind} (a : Addr), P.underlying t = some (.slice elem) → (P.info? elem).isSome = true → 0 ≤ i → i < (len : Int) → ev ix = .int k i → ev x = .slice (some a) len cap →
      (execOp ev o).run P w = .ok (.value (.pointer (some (a.add (i.toNat * P.cellsOf elem))))) w := by
    intro len cap elem i k a hu hinf hi0 hi he hx
    simp only [execOp, ho, Instr.indexAt, he, hx, asIntOf, Sem.run_bind, Sem.run_pure, Result.andThen_ok, run_underlying hu, Sem.run_ite, run_sizeOf' hinf]
    rw [if_pos ⟨by omega, by omega⟩]
    rfl
  split at h
  · rename_i len elem n off hu hx
    rw [hx] at hev
    split at h
    · rename_i i hi
      split at h
      · rename_i hc
        simp only [Bool.and_eq_true, decide_eq_true_eq] at hc
        simp only [Option.some.injEq, Prod.mk.injEq] at h
        obtain ⟨rfl, rfl, rfl⟩ := h
        obtain ⟨k, hk⟩ := constOf_den hi e
        refine OpOut.same hrep ?_
        rw [arr ⟨e.β.getD n 0, off, none⟩ hu hc.2 hc.1 (hix.trans hk) hev, Addr.add_lit]
        rfl
      · cases h
    · cases h
  · rename_i len elem n off hu hx
    rw [hx] at hev
    split at h
    · rename_i i hi
      split at h
      · rename_i hc
        simp only [Bool.and_eq_true, decide_eq_true_eq] at hc
        simp only [Option.some.injEq, Prod.mk.injEq] at h
        obtain ⟨rfl, rfl, rfl⟩ := h
        obtain ⟨k, hk⟩ := constOf_den hi e
        obtain ⟨g, hg⟩ := gpOK_some hrep hc.1.2
        refine OpOut.same hrep ?_
        rw [arr ⟨g, off, none⟩ hu hc.2 hc.1.1 (hix.trans hk) (hev.trans (hg off)), Addr.add_lit]
        rw [show SV.den e (one (.gp n (off + i * P.cellsOf elem))) = _ from hg _]
      · cases h
    · cases h
  · rename_i len elem n off hu hx
    rw [hx] at hev
    split at h
    · rename_i i hi
      split at h
      · rename_i hc
        simp only [Bool.and_eq_true, decide_eq_true_eq] at hc
        simp only [Option.some.injEq, Prod.mk.injEq] at h
        obtain ⟨rfl, rfl, rfl⟩ := h
        obtain ⟨k, hk⟩ := constOf_den hi e
        have h0 : 0 ≤ off.den e.R e.r := of_decide_eq_true (has (.le (.c 0) off) (by simp))
        refine OpOut.same hrep ?_
        rw [arr ⟨(regOf e.R n).blk, (regOf e.R n).off + (off.den e.R e.r).toNat, none⟩ hu hc.2 hc.1 (hix.trans hk) hev, Addr.add_lit]
        simp only [one, SV.den, SW.den, SC.den, mkPl_den, E.den]
        congr 5
        omega
      · cases h
    · cases h
  · rename_i elem n off len cap hu hx
    rw [hx] at hev
    split at h
    · rename_i i hi
      split at h
      · rename_i hc
        simp only [Bool.and_eq_true, decide_eq_true_eq] at hc
        simp only [Option.some.injEq, Prod.mk.injEq] at h
        obtain ⟨rfl, rfl, rfl⟩ := h
        obtain ⟨k, hk⟩ := constOf_den hi e
        refine OpOut.same hrep ?_
        rw [slc ⟨e.β.getD n 0, off, none⟩ hu hc.2 (by omega) (by omega) (hix.trans hk) hev, Addr.add_lit]
        simp [one, SV.den, SW.den, SC.den, ownAddr]
      · cases h
    · cases h
  · rename_i elem n len hu hx
    rw [hx] at hev
    split at h
    · rename_i i b hi hb
      split at h
      · rename_i hc
        simp only [Bool.and_eq_true, decide_eq_true_eq] at hc
        obtain ⟨⟨⟨⟨hil, hlb⟩, hl⟩, hne⟩, hinf⟩ := hc
        simp only [Option.some.injEq, Prod.mk.injEq] at h
        obtain ⟨rfl, rfl, rfl⟩ := h
        obtain ⟨k, hk⟩ := constOf_den hi e
        obtain ⟨g, cap, cur, hv, _⟩ := row_some hrep hb hl hne
        refine OpOut.same hrep ?_
        rw [slc ⟨g, 0, none⟩ hu hinf (by omega) (by omega) (hix.trans hk) (hev.trans hv), Addr.add_lit]
        simp only [one, SV.den, SW.den, SC.den, hv, Int.toNat_natCast, Nat.zero_add]
      · cases h
    · cases h
  · rename_i elem r off len cap hu hx
    rw [hx] at hev
    split at h
    · rename_i k ie hi
      split at h
      · rename_i hinf
        simp only [Option.some.injEq, Prod.mk.injEq] at h
        obtain ⟨rfl, rfl, rfl⟩ := h
        rw [hi] at hix
        have h1 : 0 ≤ ie.den e.R e.r := of_decide_eq_true (has (.le (.c 0) ie) (by simp))
        have h2 : ie.den e.R e.r < len.den e.R e.r := of_decide_eq_true (has (.lt ie len) (by simp))
        have h3 : 0 ≤ off.den e.R e.r := of_decide_eq_true (has (.le (.c 0) off) (by simp))
        refine OpOut.same hrep ?_
        rw [slc ⟨(regOf e.R r).blk, (regOf e.R r).off + (off.den e.R e.r).toNat, none⟩ hu hinf h1 (by omega) hix hev, Addr.add_lit]
        simp only [one, SV.den, SW.den, SC.den, mkPl_den, mkTm_den]
        congr 5
        have h4 : (ie.den e.R e.r * (P.cellsOf elem : Int)).toNat = (ie.den e.R e.r).toNat * P.cellsOf elem := by
          obtain ⟨m, hm⟩ := Int.eq_ofNat_of_zero_le h1
          rw [hm]
          simp only [Int.toNat_natCast]
          rw [← Int.natCast_mul, Int.toNat_natCast]
        have h5 : 0 ≤ ie.den e.R e.r * (P.cellsOf elem : Int) := Int.mul_nonneg h1 (by omega)
        omega
      · cases h
    · cases h
  · cases h

theorem op_index {t : TypeId} {x ix : Operand} (ho : o.op = .index t x ix) (h : op1 P s o = some (as, v, s')) (hrep : Rep e W0 s w) (hev : ev x = (s.ev x).den e) (hix : ev ix = (s.ev ix).den e) : OpOut P e W0 s s' o ev v w := by
  simp only [op1, ho] at h
  split at h
  · rename_i len elem cs i hu hx hi
    split at h
    · rename_i hc
      simp only [Bool.and_eq_true, decide_eq_true_eq] at hc
      simp only [Option.map_eq_some_iff, Prod.mk.injEq] at h
      obtain ⟨y, hy, rfl, rfl, rfl⟩ := h
      rw [hx] at hev
      obtain ⟨k, hk⟩ := constOf_den hi e
      have hix' := hix.trans hk
      have hev' : ev x = .agg (cs.map (SC.den e)).toArray := hev
      refine OpOut.same hrep ?_
      simp only [execOp, ho, Instr.index, hix', hev', asIntOf, Sem.run_bind, Sem.run_pure, Result.andThen_ok, run_underlying hu, Sem.run_ite, run_sizeOf' hc.2]
      rw [if_pos ⟨by omega, by omega⟩]
      simp [run_part hy, SV.den]
    · cases h
  · cases h

theorem op_makeFunc {fn : Fn} {first caps : Array Operand} (ho : o.op = .makeFunc fn first caps) (h : op1 P s o = some (as, v, s')) (hrep : Rep e W0 s w) (hev : ∀ x ∈ caps, ev x = (s.ev x).den e) : OpOut P e W0 s s' o ev v w := by
  simp only [op1, ho] at h
  split at h
  · rename_i f hf
    simp only [Option.map_eq_some_iff, Prod.mk.injEq] at h
    obtain ⟨l, hl, rfl, rfl, rfl⟩ := h
    have hfirst : first = #[] := by
      apply Array.ext'
      simpa using hf
    subst hfirst
    have key : ∀ (cs : List Operand) (l : List (Nat × Nat)), (∀ x ∈ cs, ev x = (s.ev x).den e) → capsS s cs = some l → cs.map ev = l.map fun c => ownAddr e c.1 c.2 := by
      intro cs
      induction cs with
      | nil => intro l _ hl; simp [capsS] at hl; simp [← hl]
      | cons c cs ih =>
        intro l hcs hl
        simp only [capsS] at hl
        split at hl
        · rename_i n off l' hx hl'
          simp only [Option.some.injEq] at hl
          subst hl
          have := ih l' (fun x hx => hcs x (by simp [hx])) hl'
          rw [List.map_cons, this, hcs c (by simp), hx]
          rfl
        · cases hl
    have hk := key caps.toList l (fun x hx => hev x (by simpa using hx)) hl
    refine OpOut.same hrep ?_
    have hk' : caps.map ev = (l.map fun c => ownAddr e c.1 c.2).toArray := by
      apply Array.ext'
      simpa using hk
    simp [execOp, ho, Instr.makeFunc, hk', one, SV.den, SW.den, SC.den]
  · cases h

/-! ### slices -/
theorem boundS_run {x : Option Operand} {dflt i : Nat} (h : boundS s x dflt = some i) (hev : ∀ y ∈ x, ev y = (s.ev y).den e) :
    (x = none ∧ i = dflt) ∨ ∃ y k, x = some y ∧ ev y = .int k (i : Int) := by
  unfold boundS at h
  split at h
  · exact .inl ⟨rfl, by simpa using h.symm⟩
  · rename_i y
    obtain ⟨k, hk⟩ := constOf_den h e
    exact .inr ⟨y, k, rfl, (hev y rfl).trans hk⟩

theorem run_sliceBounds' {isSlice : Bool} {len cap l h : Nat} {lo hi : Option Value} (hh : (hi = none ∧ h = len) ∨ ∃ k, hi = some (.int k (h : Int))) (hl : (lo = none ∧ l = 0) ∨ ∃ k, lo = some (.int k (l : Int))) (h1 : l ≤ h) (h2 : h ≤ cap) :
    (Instr.sliceBounds isSlice len cap lo hi none).run P w = .ok (l, h, cap) w := by
  rcases hh with ⟨rfl, rfl⟩ | ⟨k, rfl⟩ <;> rcases hl with ⟨rfl, rfl⟩ | ⟨k', rfl⟩ <;>
    simp [Instr.sliceBounds, Instr.sliceBound, asIntOf, h1, h2]

theorem op_slice {t : TypeId} {x : Operand} {lo hi mx : Option Operand} (ho : o.op = .slice t x lo hi mx) (h : op1 P s o = some (as, v, s')) (hrep : Rep e W0 s w) (hev : ev x = (s.ev x).den e) (hlo : ∀ y ∈ lo, ev y = (s.ev y).den e) (hhi : ∀ y ∈ hi, ev y = (s.ev y).den e) : OpOut P e W0 s s' o ev v w := by
  simp only [op1, ho] at h
  split at h
  · cases h
  · rename_i hmx
    have hmx' : mx = none := by cases mx <;> simp_all
    subst hmx'
    have conv : ∀ {x : Option Operand} {dflt i : Nat}, boundS s x dflt = some i → (∀ y ∈ x, ev y = (s.ev y).den e) → (x.map ev = none ∧ i = dflt) ∨ ∃ k, x.map ev = some (.int k (i : Int)) := by
      intro x dflt i hb hx
      rcases boundS_run hb hx with ⟨rfl, rfl⟩ | ⟨y, k, rfl, hy⟩
      · exact .inl ⟨rfl, rfl⟩
      · exact .inr ⟨k, by simp [hy]⟩
    split at h
    · rename_i len elem n off hu hx
      rw [hx] at hev
      split at h
      · rename_i hh hhb
        split at h
        · rename_i ll hlb
          split at h
          · rename_i hc
            simp only [Bool.and_eq_true, decide_eq_true_eq] at hc
            simp only [Option.some.injEq, Prod.mk.injEq] at h
            obtain ⟨rfl, rfl, rfl⟩ := h
            have hev' : ev x = .pointer (some ⟨e.β.getD n 0, off, none⟩) := hev
            refine OpOut.same hrep ?_
            simp only [execOp, ho, Instr.sliceAt, Sem.run_bind, run_underlying hu, Result.andThen_ok, hev', Instr.sureAddr, Sem.run_pure, Option.map_none, run_sliceBounds' (conv hhb hhi) (conv hlb hlo) hc.1.1 hc.1.2, run_sizeOf' hc.2]
            simp only [one, SV.den, SW.den, SC.den, Addr.add_lit]
            congr 4
            split <;> rfl
          · cases h
        · cases h
      · cases h
    · rename_i elem n off len cap hu hx
      rw [hx] at hev
      split at h
      · rename_i hh hhb
        split at h
        · rename_i ll hlb
          split at h
          · rename_i hc
            simp only [Bool.and_eq_true, decide_eq_true_eq] at hc
            simp only [Option.some.injEq, Prod.mk.injEq] at h
            obtain ⟨rfl, rfl, rfl⟩ := h
            have hev' : ev x = .slice (some ⟨e.β.getD n 0, off, none⟩) len cap := hev
            refine OpOut.same hrep ?_
            simp only [execOp, ho, Instr.sliceAt, Instr.slice, Sem.run_bind, run_underlying hu, Result.andThen_ok, hev', Sem.run_pure, Option.map_none, run_sliceBounds' (conv hhb hhi) (conv hlb hlo) hc.1.1 hc.1.2, run_sizeOf' hc.2]
            simp only [one, SV.den, SW.den, SC.den, Option.map_some, Addr.add_lit]
            congr 4
            split <;> rfl
          · cases h
        · cases h
      · cases h
    · cases h
end
end Go.Sx
