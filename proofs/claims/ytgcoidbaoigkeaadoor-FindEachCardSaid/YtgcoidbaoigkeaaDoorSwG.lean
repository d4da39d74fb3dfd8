/-
  Symbolic execution: single operations, indexes, slices, comparisons, literals.
-/
import Derived.Test.YtgcoidbaoigkeaaDoorSwF
namespace Go.Sx
open Go.RowKit

section
variable {P : Program} {e : Env} {W0 : Bas} {s s' : St} {o : Oper} {ev : Operand → Value} {v : SV} {w : World} {as : List B}

theorem constOf_den {x : SV} {i : Nat} (h : constOf x = some i) (e : Env) : ∃ k, x.den e = .int k (i : Int) := by
  unfold constOf at h
  split at h
  · rename_i k n
    split at h
    · rename_i hn
      simp only [Option.some.injEq] at h
      subst h
      exact ⟨k, by simp [SV.den, SW.den, SC.den, E.den, Int.toNat_of_nonneg hn]⟩
    · cases h
  · cases h

theorem intE_den {x : SV} {i : E} (h : intE x = some i) (e : Env) : ∃ k, x.den e = .int k (i.den e.R e.r) := by
  unfold intE at h
  split at h
  · rename_i k n
    simp only [Option.some.injEq] at h
    subst h
    exact ⟨k, rfl⟩
  · cases h

theorem op_indexAddr {t : TypeId} {x ix : Operand} (ho : o.op = .indexAddr t x ix) (h : op1 P s o = some (as, v, s')) (hrep : Rep e W0 s w) (hev : ev x = (s.ev x).den e) (hix : ev ix = (s.ev ix).den e) (has : ∀ b ∈ as, b.den e.R e.r = true) : OpOut P e W0 s s' o ev v w := by
  simp only [op1, ho] at h
  have arr : ∀ {len : Nat} {elem : TypeId} {i : Nat} {k : IntKind} (a : Addr), P.underlying t = some (.array len elem) → (P.info? elem).isSome = true → i < len → ev ix = .int k (i : Int) → ev x = .pointer (some a) →
      (execOp ev o).run P w = .ok (.value (.pointer (some (a.add (i * P.cellsOf elem))))) w := by
    intro len elem i k a hu hinf hi he hx
    simp only [execOp, ho, Instr.indexAt, he, hx, asIntOf, Sem.run_bind, Sem.run_pure, Result.andThen_ok, run_underlying hu, Instr.sureAddr, Sem.run_ite, run_sizeOf' hinf]
    rw [if_pos ⟨by omega, by omega⟩]
    simp
  have slc : ∀ {len cap : Nat} {elem : TypeId} {i : Int} {k : IntKind} (a : Addr), P.underlying t = some (.slice elem) → (P.info? elem).isSome = true → 0 ≤ i → i < (len : Int) → ev ix = .int k i → ev x = .slice (some a) len cap →
      (execOp ev o).run P w = .ok (.value (.pointer (some (a.add (i.toNat * P.cellsOf elem))))) w := by
    intro len cap elem i k a hu hinf hi0 hi he hx
    simp only [execOp, ho, Instr.indexAt, he, hx, asIntOf, Sem.run_bind, Sem.run_pure, Result.andThen_ok, run_underlying hu, Sem.run_ite, run_sizeOf' hinf]
    rw [if_pos ⟨by omega, by omega⟩]
    rfl
  split at h
  · rename_i len elem n off hu hx
    rw [hx] at hev
    split at h
    · rename_i i hi
      split at h
      · rename_i hc
        simp only [Bool.and_eq_true, decide_eq_true_eq] at hc
        simp only [Option.some.injEq, Prod.mk.injEq] at h
        obtain ⟨rfl, rfl, rfl⟩ := h
        obtain ⟨k, hk⟩ := constOf_den hi e
        refine OpOut.same hrep ?_
        rw [arr ⟨e.β.getD n 0, off, none⟩ hu hc.2 hc.1 (hix.trans hk) hev, Addr.add_lit]
        rfl
      · cases h
    · cases h
  · rename_i len elem g size gx j hu hx
    rw [hx] at hev
    split at h
    · rename_i i ks c hi hg
      split at h
      · rename_i hc
        simp only [Bool.and_eq_true, decide_eq_true_eq] at hc
        simp only [Option.some.injEq, Prod.mk.injEq] at h
        obtain ⟨rfl, rfl, rfl⟩ := h
        obtain ⟨k, hk⟩ := constOf_den hi e
        obtain ⟨b, off, hat, _, _⟩ := gp_spec hrep hg has
        refine OpOut.same hrep ?_
        rw [arr ⟨b, off + ((gx.den e.R e.r).toNat * size + j), none⟩ hu hc.2 hc.1 (hix.trans hk) (hev.trans (by simp only [SV.den, SW.den, SC.den, hat])), Addr.add_lit]
        simp only [one, SV.den, SW.den, SC.den, hat]
        congr 5
        omega
      · cases h
    · cases h
  · rename_i elem n off len cap hu hx
    rw [hx] at hev
    split at h
    · rename_i i hi
      split at h
      · rename_i hc
        simp only [Bool.and_eq_true, decide_eq_true_eq] at hc
        simp only [Option.some.injEq, Prod.mk.injEq] at h
        obtain ⟨rfl, rfl, rfl⟩ := h
        obtain ⟨k, hk⟩ := constOf_den hi e
        refine OpOut.same hrep ?_
        rw [slc ⟨e.β.getD n 0, off, none⟩ hu hc.2 (by omega) (by omega) (hix.trans hk) hev, Addr.add_lit]
        simp [one, SV.den, SW.den, SC.den, ownAddr]
      · cases h
    · cases h
  · rename_i elem g hu hx
    rw [hx] at hev
    split at h
    · rename_i ie ks c hi hg
      split at h
      · rename_i hinf
        simp only [Option.some.injEq, Prod.mk.injEq] at h
        obtain ⟨rfl, rfl, rfl⟩ := h
        obtain ⟨k, hk⟩ := intE_den hi e
        obtain ⟨h0, h1, h2⟩ := inB_den has
        refine OpOut.same hrep ?_
        rcases hrep.gread hg with ⟨_, hn⟩ | ⟨b, off, cap, hv, hle, hm, hel, hcell⟩
        · rw [hn] at h1; simp at h1
        · rw [slc ⟨b, off, none⟩ hu hinf h0 h2 (hix.trans hk) (hev.trans hv), Addr.add_lit]
          simp only [one, SV.den, SW.den, SC.den, hv, atV, Addr.add_lit, Nat.add_zero]
      · cases h
    · cases h
  · rename_i elem g size lo hi hu hx
    rw [hx] at hev
    split at h
    · rename_i ie ks c hie hg
      split at h
      · rename_i hc
        simp only [Bool.and_eq_true, decide_eq_true_eq] at hc
        obtain ⟨hinf, rfl⟩ := hc
        simp only [Option.some.injEq, Prod.mk.injEq] at h
        obtain ⟨rfl, rfl, rfl⟩ := h
        obtain ⟨k, hk⟩ := intE_den hie e
        obtain ⟨v1, v2, v3⟩ := vB_den (c := c) (lo := lo) (hi := hi) (fun b hb => has b (List.mem_append_left _ hb))
        have h1 := has (mkLe (.c 0) ie) (by simp)
        have h2 := has (mkLt ie (minusE hi lo)) (by simp)
        rw [mkLe_den, decide_eq_true_eq] at h1
        rw [mkLt_den, decide_eq_true_eq] at h2
        simp only [E.den] at h1
        refine OpOut.same hrep ?_
        rcases hrep.gread hg with ⟨_, hn⟩ | ⟨b, off, cap, hv, hle, hm, hel, hcell⟩
        · rw [hn] at v3
          simp only [List.length_nil] at v3
          have hmin : (minusE hi lo).den e.R e.r = hi.den e.R e.r - lo.den e.R e.r := minusE_den _ _ (by omega) (by simp at v3; omega)
          rw [hmin] at h2
          simp at v3
          omega
        · have hml : ((dec (c.den e.R e.r)).length : Int) ≤ 9223372036854775807 := by simp only [maxLen] at hm; omega
          have hmin : (minusE hi lo).den e.R e.r = hi.den e.R e.r - lo.den e.R e.r := minusE_den _ _ (by omega) (by omega)
          rw [hmin] at h2
          have hpl : (plusE lo ie).den e.R e.r = lo.den e.R e.r + ie.den e.R e.r := plusE_den _ _ (by omega) (by omega)
          have hcl : cap ≠ (lo.den e.R e.r).toNat := by omega
          have hev' : ev x = .slice (some ⟨b, off + (lo.den e.R e.r).toNat * P.cellsOf elem, none⟩) ((hi.den e.R e.r).toNat - (lo.den e.R e.r).toNat) (cap - (lo.den e.R e.r).toNat) := by
            rw [hev]
            simp only [SV.den, SW.den, SC.den, hv, subV, if_neg hcl, Option.map_some, Addr.add_lit]
          rw [slc _ hu hinf h1 (by omega) (hix.trans hk) hev', Addr.add_lit]
          simp only [one, SV.den, SW.den, SC.den, hv, atV, Addr.add_lit, Nat.add_zero, hpl]
          congr 5
          rw [Int.toNat_add v1 h1, Nat.add_mul]
          omega
      · cases h
    · cases h
  · cases h

theorem op_index {t : TypeId} {x ix : Operand} (ho : o.op = .index t x ix) (h : op1 P s o = some (as, v, s')) (hrep : Rep e W0 s w) (hev : ev x = (s.ev x).den e) (hix : ev ix = (s.ev ix).den e) : OpOut P e W0 s s' o ev v w := by
  simp only [op1, ho] at h
  split at h
  · rename_i len elem cs i hu hx hi
    split at h
    · rename_i hc
      simp only [Bool.and_eq_true, decide_eq_true_eq] at hc
      simp only [Option.map_eq_some_iff, Prod.mk.injEq] at h
      obtain ⟨y, hy, rfl, rfl, rfl⟩ := h
      rw [hx] at hev
      obtain ⟨k, hk⟩ := constOf_den hi e
      have hix' := hix.trans hk
      have hev' : ev x = .agg (cs.map (SC.den e)).toArray := hev
      refine OpOut.same hrep ?_
      simp only [execOp, ho, Instr.index, hix', hev', asIntOf, Sem.run_bind, Sem.run_pure, Result.andThen_ok, run_underlying hu, Sem.run_ite, run_sizeOf' hc.2]
      rw [if_pos ⟨by omega, by omega⟩]
      simp [run_part hy, SV.den]
    · cases h
  · cases h

theorem op_makeFunc {fn : Fn} {first caps : Array Operand} (ho : o.op = .makeFunc fn first caps) (h : op1 P s o = some (as, v, s')) (hrep : Rep e W0 s w) (hev : ∀ x ∈ caps, ev x = (s.ev x).den e) : OpOut P e W0 s s' o ev v w := by
  simp only [op1, ho] at h
  split at h
  · rename_i f hf
    simp only [Option.map_eq_some_iff, Prod.mk.injEq] at h
    obtain ⟨l, hl, rfl, rfl, rfl⟩ := h
    have hfirst : first = #[] := by
      apply Array.ext'
      simpa using hf
    subst hfirst
    have key : ∀ (cs : List Operand) (l : List (Nat × Nat)), (∀ x ∈ cs, ev x = (s.ev x).den e) → capsS s cs = some l → cs.map ev = l.map fun c => ownAddr e c.1 c.2 := by
      intro cs
      induction cs with
      | nil => intro l _ hl; simp [capsS] at hl; simp [← hl]
      | cons c cs ih =>
        intro l hcs hl
        simp only [capsS] at hl
        split at hl
        · rename_i n off l' hx hl'
          simp only [Option.some.injEq] at hl
          subst hl
          have := ih l' (fun x hx => hcs x (by simp [hx])) hl'
          rw [List.map_cons, this, hcs c (by simp), hx]
          rfl
        · cases hl
    have hk := key caps.toList l (fun x hx => hev x (by simpa using hx)) hl
    refine OpOut.same hrep ?_
    have hk' : caps.map ev = (l.map fun c => ownAddr e c.1 c.2).toArray := by
      apply Array.ext'
      simpa using hk
    simp [execOp, ho, Instr.makeFunc, hk', one, SV.den, SW.den, SC.den]
  · cases h

/-! ### slices -/
theorem boundS_run {x : Option Operand} {dflt i : Nat} (h : boundS s x dflt = some i) (hev : ∀ y ∈ x, ev y = (s.ev y).den e) :
    (x = none ∧ i = dflt) ∨ ∃ y k, x = some y ∧ ev y = .int k (i : Int) := by
  unfold boundS at h
  split at h
  · exact .inl ⟨rfl, by simpa using h.symm⟩
  · rename_i y
    obtain ⟨k, hk⟩ := constOf_den h e
    exact .inr ⟨y, k, rfl, (hev y rfl).trans hk⟩

theorem run_sliceBounds' {isSlice : Bool} {len cap l h : Nat} {lo hi : Option Value} (hh : (hi = none ∧ h = len) ∨ ∃ k, hi = some (.int k (h : Int))) (hl : (lo = none ∧ l = 0) ∨ ∃ k, lo = some (.int k (l : Int))) (h1 : l ≤ h) (h2 : h ≤ cap) :
    (Instr.sliceBounds isSlice len cap lo hi none).run P w = .ok (l, h, cap) w := by
  rcases hh with ⟨rfl, rfl⟩ | ⟨k, rfl⟩ <;> rcases hl with ⟨rfl, rfl⟩ | ⟨k', rfl⟩ <;>
    simp [Instr.sliceBounds, Instr.sliceBound, asIntOf, h1, h2]

/-- A bound that is a number. -/
theorem bndE_run {x : Option Operand} {dflt i : E} (h : bndE s x dflt = some i) (hev : ∀ y ∈ x, ev y = (s.ev y).den e) :
    (x = none ∧ i = dflt) ∨ ∃ y k, x = some y ∧ ev y = .int k (i.den e.R e.r) := by
  unfold bndE at h
  split at h
  · exact .inl ⟨rfl, by simpa using h.symm⟩
  · rename_i y
    obtain ⟨k, hk⟩ := intE_den h e
    exact .inr ⟨y, k, rfl, (hev y rfl).trans hk⟩

theorem run_sliceBounds0 {len cap : Nat} {lo hi mx : Option Value} (hh : ∃ k, hi = some (.int k 0)) (hm : ∃ k, mx = some (.int k 0)) (hl : lo = none ∨ ∃ k, lo = some (.int k 0)) :
    (Instr.sliceBounds true len cap lo hi mx).run P w = .ok (0, 0, 0) w := by
  obtain ⟨k, rfl⟩ := hh
  obtain ⟨k', rfl⟩ := hm
  rcases hl with rfl | ⟨k'', rfl⟩ <;> simp [Instr.sliceBounds, Instr.sliceBound, asIntOf]

theorem run_sliceBoundsE {len cap : Nat} {l h : Int} {lo hi : Option Value} (hh : (hi = none ∧ h = len) ∨ ∃ k, hi = some (.int k h)) (hl : (lo = none ∧ l = 0) ∨ ∃ k, lo = some (.int k l)) (h0 : 0 ≤ l) (h1 : l ≤ h) (h2 : h ≤ (cap : Int)) :
    (Instr.sliceBounds true len cap lo hi none).run P w = .ok (l.toNat, h.toNat, cap) w := by
  have e2 : 0 ≤ h := by omega
  have e3 : l ≤ ((h.toNat : Nat) : Int) := by omega
  rcases hh with ⟨rfl, rfl⟩ | ⟨k, rfl⟩ <;> rcases hl with ⟨rfl, rfl⟩ | ⟨k', rfl⟩
  · simp [Instr.sliceBounds]
  · simp [Instr.sliceBounds, Instr.sliceBound, asIntOf, h0, h1]
  · simp [Instr.sliceBounds, Instr.sliceBound, asIntOf, e2, h2]
  · simp [Instr.sliceBounds, Instr.sliceBound, asIntOf, e2, h2, h0]
    intro hc
    omega

theorem op_slice {t : TypeId} {x : Operand} {lo hi mx : Option Operand} (ho : o.op = .slice t x lo hi mx) (h : op1 P s o = some (as, v, s')) (hrep : Rep e W0 s w) (hev : ev x = (s.ev x).den e) (hlo : ∀ y ∈ lo, ev y = (s.ev y).den e) (hhi : ∀ y ∈ hi, ev y = (s.ev y).den e) (hmx0 : ∀ y ∈ mx, ev y = (s.ev y).den e) (has : ∀ b ∈ as, b.den e.R e.r = true) : OpOut P e W0 s s' o ev v w := by
  simp only [op1, ho] at h
  split at h
  · split at h
    · rename_i elem g hu hx hbl hbh hbm
      split at h
      · rename_i hc
        simp only [Bool.and_eq_true] at hc
        simp only [Option.some.injEq, Prod.mk.injEq] at h
        obtain ⟨rfl, rfl, rfl⟩ := h
        rw [hx] at hev
        obtain ⟨a, l, c, hv⟩ := G.val_slice e g
        have hev' : ev x = .slice a l c := hev.trans hv
        refine OpOut.same hrep ?_
        have b1 : ∃ k, hi.map ev = some (.int k 0) := by
          rcases boundS_run hbh hhi with ⟨_, h1⟩ | ⟨y, k, h1, h2⟩
          · cases h1
          · exact ⟨k, by rw [h1]; simp [h2]⟩
        have b2 : ∃ k, mx.map ev = some (.int k 0) := by
          rcases boundS_run hbm hmx0 with ⟨_, h1⟩ | ⟨y, k, h1, h2⟩
          · cases h1
          · exact ⟨k, by rw [h1]; simp [h2]⟩
        have b3 : lo.map ev = none ∨ ∃ k, lo.map ev = some (.int k 0) := by
          rcases boundS_run hbl hlo with ⟨h1, _⟩ | ⟨y, k, h1, h2⟩
          · exact .inl (by rw [h1]; rfl)
          · exact .inr ⟨k, by rw [h1]; simp [h2]⟩
        simp only [execOp, ho, Instr.sliceAt, Instr.slice, Sem.run_bind, run_underlying hu, Result.andThen_ok, hev', Sem.run_pure, run_sliceBounds0 b1 b2 b3, run_sizeOf' hc.2]
        simp [one, SV.den, SW.den, SC.den, hv, zeroV]
      · cases h
    · cases h
  · rename_i hmx
    have hmx' : mx = none := by cases mx <;> simp_all
    subst hmx'
    have conv : ∀ {x : Option Operand} {dflt i : Nat}, boundS s x dflt = some i → (∀ y ∈ x, ev y = (s.ev y).den e) → (x.map ev = none ∧ i = dflt) ∨ ∃ k, x.map ev = some (.int k (i : Int)) := by
      intro x dflt i hb hx
      rcases boundS_run hb hx with ⟨rfl, rfl⟩ | ⟨y, k, rfl, hy⟩
      · exact .inl ⟨rfl, rfl⟩
      · exact .inr ⟨k, by simp [hy]⟩
    have conv2 : ∀ {x : Option Operand} {dflt i : E}, bndE s x dflt = some i → (∀ y ∈ x, ev y = (s.ev y).den e) → (x.map ev = none ∧ i.den e.R e.r = dflt.den e.R e.r) ∨ ∃ k, x.map ev = some (.int k (i.den e.R e.r)) := by
      intro x dflt i hb hx
      rcases bndE_run hb hx with ⟨rfl, rfl⟩ | ⟨y, k, rfl, hy⟩
      · exact .inl ⟨rfl, rfl⟩
      · exact .inr ⟨k, by simp [hy]⟩
    split at h
    · rename_i elem g hu hx
      rw [hx] at hev
      split at h
      · rename_i ks c hg
        split at h
        · rename_i l hh hlb hhb
          split at h
          · rename_i hinf
            simp only [Option.some.injEq, Prod.mk.injEq] at h
            obtain ⟨rfl, rfl, rfl⟩ := h
            obtain ⟨v1, v2, v3⟩ := vB_den has
            have cl := conv2 hlb hlo
            have ch := conv2 hhb hhi
            rw [mkLn_den] at ch
            refine OpOut.same hrep ?_
            rcases hrep.gread hg with ⟨hv, hn⟩ | ⟨b, off, cap, hv, hle, hm, hel, hcell⟩
            · rw [hn] at v3 ch
              simp only [List.length_nil] at ch
              have hev' : ev x = .slice none 0 0 := hev.trans hv
              simp only [execOp, ho, Instr.sliceAt, Instr.slice, Sem.run_bind, run_underlying hu, Result.andThen_ok, hev', Sem.run_pure, Option.map_none, run_sliceBoundsE (P := P) (w := w) (cap := 0) ch cl v1 v2 v3, run_sizeOf' hinf]
              simp only [one, SV.den, SW.den, SC.den, hv, subV]
              simp
            · have hev' : ev x = .slice (some ⟨b, off, none⟩) (dec (c.den e.R e.r)).length cap := hev.trans hv
              simp only [execOp, ho, Instr.sliceAt, Instr.slice, Sem.run_bind, run_underlying hu, Result.andThen_ok, hev', Sem.run_pure, Option.map_none, run_sliceBoundsE (P := P) (w := w) (cap := cap) ch cl v1 v2 (by omega), run_sizeOf' hinf]
              simp only [one, SV.den, SW.den, SC.den, hv, subV]
          · cases h
        · cases h
      · cases h
    · rename_i elem g size lo0 hi0 hu hx
      rw [hx] at hev
      split at h
      · rename_i ks c hg
        split at h
        · rename_i hh hlb hhb
          split at h
          · rename_i hc
            simp only [Bool.and_eq_true, decide_eq_true_eq] at hc
            obtain ⟨hinf, rfl⟩ := hc
            simp only [Option.some.injEq, Prod.mk.injEq] at h
            obtain ⟨rfl, rfl, rfl⟩ := h
            obtain ⟨v1, v2, v3⟩ := vB_den (c := c) (lo := lo0) (hi := hi0) (fun b hb => has b (List.mem_append_left _ hb))
            have h1 := has (mkLe (.c 0) hh) (by simp)
            have h3 := has (mkLe hh (minusE hi0 lo0)) (by simp)
            rw [mkLe_den, decide_eq_true_eq] at h1 h3
            simp only [E.den] at h1
            have cl : (lo.map ev = none ∧ (0 : Int) = 0) ∨ ∃ k, lo.map ev = some (.int k 0) := conv2 hlb hlo
            have ch := conv2 hhb hhi
            have hml : ((dec (c.den e.R e.r)).length : Int) ≤ 9223372036854775807 := by
              rcases hrep.gread hg with ⟨_, hn⟩ | ⟨b, off, cap, hv, hle, hm, hel, hcell⟩
              · rw [hn]; simp
              · simp only [maxLen] at hm; omega
            have hmin : (minusE hi0 lo0).den e.R e.r = hi0.den e.R e.r - lo0.den e.R e.r := minusE_den _ _ (by omega) (by omega)
            rw [hmin] at h3 ch
            have hph : (plusE lo0 hh).den e.R e.r = lo0.den e.R e.r + hh.den e.R e.r := plusE_den _ _ (by omega) (by omega)
            have hlen : (hi0.den e.R e.r - lo0.den e.R e.r) = (((hi0.den e.R e.r).toNat - (lo0.den e.R e.r).toNat : Nat) : Int) := by omega
            rw [hlen] at ch
            refine OpOut.same hrep ?_
            rcases hrep.gread hg with ⟨hv, hn⟩ | ⟨b, off, cap, hv, hle, hm, hel, hcell⟩
            · rw [hn] at v3
              simp only [List.length_nil] at v3
              have e1 : lo0.den e.R e.r = 0 := by simp at v3; omega
              have e2 : hi0.den e.R e.r = 0 := by simp at v3; omega
              have e4 : hh.den e.R e.r = 0 := by omega
              have hev' : ev x = .slice none 0 0 := by rw [hev]; simp [SV.den, SW.den, SC.den, hv, subV, e1, e2]
              rw [e1, e2] at ch
              simp only [Int.toNat_zero, Nat.sub_self] at ch
              simp only [execOp, ho, Instr.sliceAt, Instr.slice, Sem.run_bind, run_underlying hu, Result.andThen_ok, hev', Sem.run_pure, Option.map_none, run_sliceBoundsE (P := P) (w := w) (cap := 0) ch cl (Int.le_refl 0) h1 (by omega), run_sizeOf' hinf]
              simp only [one, SV.den, SW.den, SC.den, hv, subV, hph, e1, e4]
              simp
            · have hev' : ev x = .slice (if cap = (lo0.den e.R e.r).toNat then some ⟨b, off, none⟩ else some ⟨b, off + (lo0.den e.R e.r).toNat * P.cellsOf elem, none⟩) ((hi0.den e.R e.r).toNat - (lo0.den e.R e.r).toNat) (cap - (lo0.den e.R e.r).toNat) := by
                rw [hev]
                simp only [SV.den, SW.den, SC.den, hv, subV, Option.map_some, Addr.add_lit]
              simp only [execOp, ho, Instr.sliceAt, Instr.slice, Sem.run_bind, run_underlying hu, Result.andThen_ok, hev', Sem.run_pure, Option.map_none, run_sliceBoundsE (P := P) (w := w) (cap := cap - (lo0.den e.R e.r).toNat) ch cl (Int.le_refl 0) h1 (by omega), run_sizeOf' hinf]
              simp only [one, SV.den, SW.den, SC.den, hv, subV, hph, Option.map_some, Addr.add_lit, Int.toNat_zero, Nat.zero_mul, Nat.sub_zero]
              rw [Int.toNat_add v1 h1]
              have hsub : (lo0.den e.R e.r).toNat + (hh.den e.R e.r).toNat - (lo0.den e.R e.r).toNat = (hh.den e.R e.r).toNat := by omega
              rw [hsub]
              have hadd : ∀ q : Option Addr, q.map (fun x => x.add 0) = q := fun q => by cases q <;> simp [Addr.add]
              rw [hadd]
              split <;> rfl
          · cases h
        · cases h
      · cases h
    · rename_i len elem n off hu hx
      rw [hx] at hev
      split at h
      · rename_i hh hhb
        split at h
        · rename_i ll hlb
          split at h
          · rename_i hc
            simp only [Bool.and_eq_true, decide_eq_true_eq] at hc
            simp only [Option.some.injEq, Prod.mk.injEq] at h
            obtain ⟨rfl, rfl, rfl⟩ := h
            have hev' : ev x = .pointer (some ⟨e.β.getD n 0, off, none⟩) := hev
            refine OpOut.same hrep ?_
            simp only [execOp, ho, Instr.sliceAt, Sem.run_bind, run_underlying hu, Result.andThen_ok, hev', Instr.sureAddr, Sem.run_pure, Option.map_none, run_sliceBounds' (conv hhb hhi) (conv hlb hlo) hc.1.1 hc.1.2, run_sizeOf' hc.2]
            simp only [one, SV.den, SW.den, SC.den, Addr.add_lit]
            congr 4
            split <;> rfl
          · cases h
        · cases h
      · cases h
    · rename_i elem n off len cap hu hx
      rw [hx] at hev
      split at h
      · rename_i hh hhb
        split at h
        · rename_i ll hlb
          split at h
          · rename_i hc
            simp only [Bool.and_eq_true, decide_eq_true_eq] at hc
            simp only [Option.some.injEq, Prod.mk.injEq] at h
            obtain ⟨rfl, rfl, rfl⟩ := h
            have hev' : ev x = .slice (some ⟨e.β.getD n 0, off, none⟩) len cap := hev
            refine OpOut.same hrep ?_
            simp only [execOp, ho, Instr.sliceAt, Instr.slice, Sem.run_bind, run_underlying hu, Result.andThen_ok, hev', Sem.run_pure, Option.map_none, run_sliceBounds' (conv hhb hhi) (conv hlb hlo) hc.1.1 hc.1.2, run_sizeOf' hc.2]
            simp only [one, SV.den, SW.den, SC.den, Option.map_some, Addr.add_lit]
            congr 4
            split <;> rfl
          · cases h
        · cases h
      · cases h
    · cases h
end
end Go.Sx
