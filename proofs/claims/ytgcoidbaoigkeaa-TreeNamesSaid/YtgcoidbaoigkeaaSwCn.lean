/-
  Symbolic execution: a summary at arguments that are written out, whose results are written out.
-/
import Derived.Test.YtgcoidbaoigkeaaSwSp
set_option linter.unusedVariables false
set_option linter.unusedSimpArgs false
namespace Go.Sx
open Go.RowKit

def sameLE : List E → List E → Bool
  | [], [] => true
  | x :: xs, y :: ys => x.same y && sameLE xs ys
  | _, _ => false
theorem sameLE_eq : ∀ {a b : List E}, sameLE a b = true → a = b
  | [], [], _ => rfl
  | x :: xs, y :: ys, h => by
    simp only [sameLE, Bool.and_eq_true] at h
    rw [E.same_eq _ _ h.1, sameLE_eq h.2]
  | [], _ :: _, h => by simp [sameLE] at h
  | _ :: _, [], h => by simp [sameLE] at h
def cnC (A C : List E) (es : List E) (nv n : Nat) : List E := if sameLE es A then C else varsFrom nv n
def cnF (ps rs : List Sh) (A C : List E) : St → List SV → Option (List B × List E × (Nat → St × SV)) := fun s args => match flats s ps args with
  | some (as, es) => some (as, es, fun nv => ({ s with nv := s.nv + total rs, rows := s.rows ++ rowsE (allK rs) (cnC A C es nv (total rs)) }, resE ownG s.rows.length rs (cnC A C es nv (total rs))))
  | none => none
def cnS (s : Sum) (A C : List E) : Sum := { s with m := some (cnF s.ps s.rs A C) }
theorem cn_okM {P : Program} {s0 : Sum} {A C : List E} {ks : List Int} (hok0 : s0.ok P) (hA : ∀ (R : Fo) (r : List Int), A.map (E.den R r) = ks) (hC : ∀ (R : Fo) (r : List Int), C.map (E.den R r) = s0.sem ks) : (cnS s0 A C).okA P := by
  show (cnS s0 A C).okM P (cnF s0.ps s0.rs A C)
  intro W0 e s w args as es kk hrep0 hsc hargs hgl hf has hpre
  unfold cnF at hf
  split at hf
  · rename_i as' es' hfl
    simp only [Option.some.injEq, Prod.mk.injEq] at hf
    obtain ⟨rfl, rfl, rfl⟩ := hf
    obtain ⟨hlen, hden⟩ := flats_ok hrep0 hfl has
    obtain ⟨_, hok⟩ := hok0
    obtain ⟨hl, hcalls⟩ := hok _ _ w (glIn_ok hgl hrep0.glw) hden hpre
    obtain ⟨D, hD⟩ : ∃ D, cnC A C es' s.nv (total s0.rs) = D := ⟨_, rfl⟩
    have hDd : D.map (E.den e.R (e.r ++ s0.sem (es'.map (E.den e.R e.r)))) = s0.sem (es'.map (E.den e.R e.r)) := by
      rw [← hD]
      unfold cnC
      split
      · rename_i hs
        have := sameLE_eq hs
        subst this
        rw [hC, hA]
      · rw [← hrep0.nv]
        exact varsFrom_den hl
    dsimp only [cnS] at hcalls ⊢
    rw [hD]
    refine hcalls.mono fun x w' ⟨v, hx, ⟨vs, hv, hres, hap⟩, hb⟩ => ?_
    obtain ⟨hrep, hfr, hle⟩ := hrep0.vars hsc (s0.sem (es'.map (E.den e.R e.r)))
    have hrep2 := hrep.grown hb
    have hres' : ShsR (fun ty ks u n => RowOK w' ty ks u n ∧ ∀ k, rowBlk u = some k → w.heap.size ≤ k) s0.rs vs (D.map (E.den ({ e with r := e.r ++ s0.sem (es'.map (E.den e.R e.r)) } : Env).R ({ e with r := e.r ++ s0.sem (es'.map (E.den e.R e.r)) } : Env).r)) := by
      show ShsR _ s0.rs vs (D.map (E.den e.R (e.r ++ s0.sem (es'.map (E.den e.R e.r)))))
      rw [hDd]
      exact hres
    obtain ⟨r1, r2⟩ := slsShs_rows hres'
    have hslice : ∀ {ty ks u n}, RowOK w' ty ks u n → ∃ a l c, u = .slice a l c := by
      intro ty ks u n hr
      rcases hr with ⟨_, h2 | ⟨b, off, h2⟩⟩ | ⟨_, _, h2⟩
      · exact ⟨_, _, _, h2⟩
      · exact ⟨_, _, _, h2⟩
      · rcases h2.2 with ⟨h3, _⟩ | ⟨g, cap, cur, h3, _⟩
        · exact ⟨_, _, _, h3⟩
        · exact ⟨_, _, _, h3⟩
    have hscp : ({ s with nv := s.nv + (s0.sem (es'.map (E.den e.R e.r))).length } : St).scp = true := (St.sc_scp hsc : s.scp = true)
    obtain ⟨hrep3, hlike⟩ := hrep2.addRows hscp (rows := rowsE (allK s0.rs) D) (vals := slsShs s0.rs vs) r1
      (fun j b u hj hu _ => ⟨hslice (r2 j b u hj hu).1, (r2 j b u hj hu).1⟩)
      (fun j b u k hj hu _ hk => by
        have hge := (r2 j b u hj hu).2 k hk
        refine ⟨.inl (Nat.le_trans hrep0.below.size hge), fun n c hc hlc heq => ?_, fun n c hc hlc heq => ?_⟩
        · have := heap_lt (hrep0.blk n c hc hlc)
          have heq' : e.β.getD n 0 = k := heq
          omega
        · have := (hrep0.row n c hc hlc).blk_lt heq
          omega)
      (apartV_spec hap)
    rw [hl] at hrep3
    have hle2 : Env.le e { e with r := e.r ++ s0.sem (es'.map (E.den e.R e.r)), σ := e.σ ++ slsShs s0.rs vs } := ⟨s0.sem (es'.map (E.den e.R e.r)), [], slsShs s0.rs vs, [], by simp⟩
    have hresv : (resE ownG s.rows.length s0.rs D).den { e with r := e.r ++ s0.sem (es'.map (E.den e.R e.r)), σ := e.σ ++ slsShs s0.rs vs } = v := by
      rw [hv]
      refine resE_val (e := { e with r := e.r ++ s0.sem (es'.map (E.den e.R e.r)), σ := e.σ ++ slsShs s0.rs vs }) hres' fun j u hj => ?_
      obtain ⟨b, hb'⟩ : ∃ b, (rowsE (allK s0.rs) D)[j]? = some b := ⟨_, List.getElem?_eq_getElem (by rw [← r1]; exact (List.getElem?_eq_some_iff.1 hj).1)⟩
      obtain ⟨aa, ll, cc, hsl⟩ := hslice (r2 j b u hb' hj).1
      simp only [ownG, SC.den, G.val]
      have : (e.σ ++ slsShs s0.rs vs).getD (s.rows.length + j) undef = u := by
        simp only [List.getD]
        rw [List.getElem?_append_right (by rw [hrep0.ng]; omega), hrep0.ng, show s.rows.length + j - s.rows.length = j by omega, hj]
        rfl
      rw [this, hsl]
      rfl
    refine ⟨_, ?_, hle2, rfl, hrep3, rfl, rfl, rfl, rfl⟩
    rw [hx, ← hresv]
  · cases hf
#print axioms cn_okM
end Go.Sx
