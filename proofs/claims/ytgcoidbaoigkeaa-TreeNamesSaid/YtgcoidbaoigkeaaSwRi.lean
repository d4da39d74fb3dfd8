/-
  Symbolic execution: a range over slices.Backward: what is known of memory, from round to round.
-/
import Derived.Test.YtgcoidbaoigkeaaSwR
import Derived.RangeFuncNested
import Derived.RangeFuncLeaves
import Derived.Test.YtgcoidbaoigkeaaSwL
import Derived.Test.YtgcoidbaoigkeaaSwI
import Derived.Sort.OwnSortedInts
import Derived.Test.YtgcoidbaoigkeaaSw0
import Derived.Test.YtgcoidbaoigkeaaSwY
set_option linter.unusedVariables false
set_option linter.unusedSimpArgs false
namespace Go.Sx
open Go.RowKit

def ownX (e : Env) (s : St) (k : Nat) : Prop := (∃ n b, s.mem[n]? = some b ∧ b.live = true ∧ s.fl ≤ n ∧ e.β.getD n 0 = k) ∨ ∃ n b, s.rows[n]? = some b ∧ b.live = true ∧ s.flr ≤ n ∧ rowBlk ((G.o n).val e) = some k

theorem ownX_may {e : Env} {W0 : Bas} {s : St} {w : World} (h : Rep e W0 s w) {k : Nat} (hk : ownX e s k) : W0.may k := by
  rcases hk with ⟨n, b, h1, h2, h3, rfl⟩ | ⟨n, b, h1, h2, h3, h4⟩
  · exact h.own n b h1 h2 h3
  · exact h.rown n b h1 h2 h3 k h4

theorem RowOK.blk_cells {w : World} {ty : TypeId} {ks : List K} {v : Value} {c : Int} (h : RowOK w ty ks v c) {k : Nat} (hk : rowBlk v = some k) : ∃ o, w.heap[k]? = some o ∧ o.isCells = true := by
  rcases h with ⟨h1, h2 | ⟨b, off, h2⟩⟩ | ⟨h0, h1, h2⟩
  · rw [h2] at hk; cases hk
  · rw [h2] at hk; simp [rowBlk] at hk
  · rcases h2.2 with ⟨hv, hn⟩ | ⟨g, cap, cur, hv, _, hc, hle, hm, hsz, ht⟩
    · rw [hv] at hk; cases hk
    · rw [hv] at hk
      simp only [rowBlk] at hk
      split at hk
      · cases hk
      · simp only [Option.some.injEq] at hk
        subst hk
        exact ⟨_, hc, rfl⟩

theorem ownX_cells {e : Env} {W0 : Bas} {s : St} {w : World} (h : Rep e W0 s w) {k : Nat} (hk : ownX e s k) : ∃ o : Obj, w.heap[k]? = some o ∧ o.isCells = true := by
  rcases hk with ⟨n, b, h1, h2, h3, rfl⟩ | ⟨n, b, h1, h2, h3, h4⟩
  · exact ⟨_, h.blk n b h1 h2, rfl⟩
  · exact (h.row n b h1 h2).blk_cells h4

theorem list_first {α : Type} {l : List α} (h : l ≠ []) : ∃ x, l[0]? = some x := by
  match l, h with
  | x :: _, _ => exact ⟨x, rfl⟩

theorem Rep.rebase {e : Env} {W0 : Bas} {s : St} {w : World} (h : Rep e W0 s w) : Rep e ⟨w, ownX e s⟩ s w := by
  refine ⟨BelowX.refl _, h.nb, h.ng, h.nv, h.nx, h.blk, ?_, h.sep, h.row, ?_, h.rsep, h.brs, ⟨h.glw, ?_⟩, ?_⟩
  · exact fun n b hb hl hf => .inr (.inl ⟨n, b, hb, hl, hf, rfl⟩)
  · exact fun n b hb hl hf k hk => .inr (.inr ⟨n, b, hb, hl, hf, hk⟩)
  · intro p hp hne hx
    rcases ownX_may h hx with h1 | h1
    · obtain ⟨x, hx0⟩ := list_first hne
      have := World.block_lt_of_cell? _ _ (h.gl.1 p hp 0 x hx0)
      exact absurd this (Nat.not_lt.2 h1)
    · exact h.gl.2 p hp hne h1
  · intro i ks c hi
    refine SlXK.imp (fun ks v c ha hax => ?_) _ _ _ (h.arg i ks c hi)
    refine ⟨SlOK.now ha hax h.below, fun hne k hk hx => ?_⟩
    rcases ownX_may h hx with h1 | h1
    · rcases ha with ⟨_, h2⟩ | ⟨g, off, cap, h2, _, _, _, h5⟩
      · rw [h2] at hne
        exact hne rfl
      · obtain ⟨x, hx0⟩ := list_first hne
        have := World.block_lt_of_cell? _ _ (h5 0 x hx0)
        rw [h2] at hk
        simp only [slBlk, Option.some.injEq] at hk
        subst hk
        exact absurd this (Nat.not_lt.2 h1)
    · exact hax hne k hk h1

theorem Rep.turn {e : Env} {W0 : Bas} {s : St} {w w' : World} (h : Rep e W0 s w) {row : Option Nat} (hg : w.grownBy w' row) (hr : ∀ r, row = some r → W0.may r ∧ ∃ o : Obj, w.heap[r]? = some o ∧ o.isCells = false) : Rep e W0 s w' := by
  refine h.grownRow hg (fun k hk => (hr k hk).1) ?_ ?_
  · intro n b hb hl hk
    obtain ⟨_, o, ho, hc⟩ := hr _ hk
    rw [h.blk n b hb hl] at ho
    simp only [Option.some.injEq] at ho
    subst ho
    cases hc
  · intro n b hb hl k hk hk'
    obtain ⟨_, o, ho, hc⟩ := hr _ hk'
    obtain ⟨o', ho', hc'⟩ := (h.row n b hb hl).blk_cells hk
    rw [ho] at ho'
    simp only [Option.some.injEq] at ho'
    subst ho'
    rw [hc] at hc'
    cases hc'

def memKept (s x : St) : Bool := (List.range s.mem.length).all fun n => match s.mem[n]?, x.mem[n]? with
  | some b, some c => !b.live || (c.live && decide (b.ty = c.ty) && csame b.cells c.cells)
  | _, _ => false
def rowsKept (m : Nat) (s x : St) : Bool := (List.range s.rows.length).all fun n => match s.rows[n]?, x.rows[n]? with
  | some b, some c => !b.live || (c.live && decide (b.ty = c.ty) && ksame b.ks c.ks && (decide (n = m) || b.c.same c.c))
  | _, _ => false
theorem memKept_spec {s x : St} (h : memKept s x = true) {n : Nat} {b : Blk} (hb : s.mem[n]? = some b) (hl : b.live = true) : ∃ c, x.mem[n]? = some c ∧ c.live = true ∧ b.ty = c.ty ∧ b.cells = c.cells := by
  have h1 := List.all_eq_true.1 h n (by simpa using (List.getElem?_eq_some_iff.1 hb).1)
  rw [hb] at h1
  cases hx : x.mem[n]? with
  | none => rw [hx] at h1; cases h1
  | some c =>
    rw [hx] at h1
    simp only [hl, Bool.not_true, Bool.false_or, Bool.and_eq_true, decide_eq_true_eq] at h1
    exact ⟨c, rfl, h1.1.1, h1.1.2, csame_eq h1.2⟩
theorem rowsKept_spec {m : Nat} {s x : St} (h : rowsKept m s x = true) {n : Nat} {b : Row} (hb : s.rows[n]? = some b) (hl : b.live = true) : ∃ c, x.rows[n]? = some c ∧ c.live = true ∧ b.ty = c.ty ∧ b.ks = c.ks ∧ (n = m ∨ b.c = c.c) := by
  have h1 := List.all_eq_true.1 h n (by simpa using (List.getElem?_eq_some_iff.1 hb).1)
  rw [hb] at h1
  cases hx : x.rows[n]? with
  | none => rw [hx] at h1; cases h1
  | some c =>
    rw [hx] at h1
    simp only [hl, Bool.not_true, Bool.false_or, Bool.and_eq_true, decide_eq_true_eq, Bool.or_eq_true] at h1
    exact ⟨c, rfl, h1.1.1.1, h1.1.1.2, ksame_eq h1.1.2, h1.2.imp id (fun h => E.same_eq _ _ h)⟩

def genR (m : Nat) (s : St) : St := match s.rows[m]? with
  | some b => { s with rows := s.rows.set m { b with c := .v s.nv }, nv := s.nv + 2, dp := s.dp + 1 }
  | none => s

theorem Rep.cut {e ex : Env} {W0 : Bas} {s sx : St} {w0 wr w' : World} {m : Nat} {bm : Row} {X : Nat → Prop} (h0 : Rep e W0 s w0) (hsc : s.sc = true) (hle : Env.le e ex) (hb : BelowX W0 wr) (hX : ∀ k, X k → W0.may k)
    (hx : Rep ex ⟨wr, X⟩ sx w') (hm : s.rows[m]? = some bm) (hl : bm.live = true)
    (hmem : ∀ (n : Nat) (b : Blk), s.mem[n]? = some b → b.live = true → ∃ c, sx.mem[n]? = some c ∧ c.live = true ∧ b.ty = c.ty ∧ b.cells = c.cells)
    (hrow : ∀ (n : Nat) (b : Row), s.rows[n]? = some b → b.live = true → ∃ c, sx.rows[n]? = some c ∧ c.live = true ∧ b.ty = c.ty ∧ b.ks = c.ks ∧ (n = m ∨ b.c = c.c)) (i : Int) :
    ∃ bx, sx.rows[m]? = some bx ∧ Rep { e with r := e.r ++ [bx.c.den ex.R ex.r, i] } W0 (genR m s) w' := by
  obtain ⟨bx, hbx, hblx, hbt, hbk, _⟩ := hrow m bm hm hl
  refine ⟨bx, hbx, ?_⟩
  have hgen : genR m s = { s with rows := s.rows.set m { bm with c := .v s.nv }, nv := s.nv + 2, dp := s.dp + 1 } := by unfold genR; rw [hm]
  rw [hgen]
  generalize he2 : ({ e with r := e.r ++ [bx.c.den ex.R ex.r, i] } : Env) = e2
  have hle2 : Env.le e e2 := by rw [← he2]; exact ⟨[bx.c.den ex.R ex.r, i], [], [], [], rfl, by simp, by simp, by simp, rfl⟩
  have er : e2.r = e.r ++ [bx.c.den ex.R ex.r, i] := by rw [← he2]
  have eβ : e2.β = e.β := by rw [← he2]
  have eσ : e2.σ = e.σ := by rw [← he2]
  have eω : e2.ω = e.ω := by rw [← he2]
  have eR : e2.R = e.R := by rw [← he2]
  have hsc' := hsc
  simp only [St.sc, Bool.and_eq_true] at hsc'
  obtain ⟨⟨sf, sm⟩, sr, sh⟩ := hsc'
  rw [← h0.nv, ← h0.nb, ← h0.ng] at sm
  rw [← h0.nv] at sr sh
  have cden : ∀ c : SC, c.sc e.r.length e.β.length e.σ.length = true → c.den e2 = c.den ex := fun c hc => (SC.den_le hle2 c hc).trans (SC.den_le hle c hc).symm
  have eden : ∀ c : E, c.sc e.r.length = true → c.den e2.R e2.r = c.den ex.R ex.r := fun c hc => by
    have hle' := hle
    obtain ⟨p, _, _, _, q1, _, _, _, q5⟩ := hle'
    rw [er, q1, E.den_app _ _ _ _ hc, E.den_app _ _ _ _ hc]
    exact E.den_R _ _ _ _
  have gval : ∀ n, n < s.rows.length → (G.o n).val e2 = (G.o n).val e ∧ (G.o n).val ex = (G.o n).val e := fun n hn => by
    have hgs : (G.o n).sc e.r.length e.σ.length = true := by simp only [G.sc, decide_eq_true_eq]; rw [h0.ng]; exact hn
    exact ⟨G.val_le hle2 _ hgs, G.val_le hle _ hgs⟩
  have hβ : ∀ n, n < s.mem.length → e.β.getD n 0 = ex.β.getD n 0 := fun n hn => by
    obtain ⟨_, p, _, _, _, q2, _⟩ := hle
    rw [q2, getD_app_lt _ _ _ _ (by rw [h0.nb]; exact hn)]
  have hcases : ∀ (n : Nat) (b : Row), (s.rows.set m { bm with c := .v s.nv })[n]? = some b → (n = m ∧ b = { bm with c := .v s.nv }) ∨ (n ≠ m ∧ s.rows[n]? = some b) := fun n b hn => by
    rcases mem_set_cases hn with ⟨h1, h2, _⟩ | h2
    · exact .inl ⟨h1, h2⟩
    · exact .inr h2
  have hmlt := (List.getElem?_eq_some_iff.1 hm).1
  -- a row of before
  have hold : ∀ (n : Nat) (b : Row), (s.rows.set m { bm with c := .v s.nv })[n]? = some b → b.live = true → n < s.rows.length ∧ ∃ b0 : Row, s.rows[n]? = some b0 ∧ b0.live = true := fun n b hn hlb => by
    rcases hcases n b hn with ⟨rfl, rfl⟩ | ⟨_, h2⟩
    · exact ⟨hmlt, bm, hm, hl⟩
    · exact ⟨(List.getElem?_eq_some_iff.1 h2).1, b, h2, hlb⟩
  refine ⟨?_, ?_, ?_, ?_, ?_, ?_, ?_, ?_, ?_, ?_, ?_, ?_, h0.gl, ?_⟩
  · exact hb.trans (c := ⟨wr, X⟩) hx.below (fun k hk => hk.elim (fun h => .inl (Nat.le_trans hb.size h)) (hX k))
  · rw [eβ]; exact h0.nb
  · rw [eσ, h0.ng]; simp
  · rw [er]; simp [h0.nv]
  · rw [eω]; exact h0.nx
  · intro n b hn hlb
    obtain ⟨c, hc, hlc, hty, hcc⟩ := hmem n b hn hlb
    have hlt := (List.getElem?_eq_some_iff.1 hn).1
    rw [eβ, hβ n hlt, hty, hcc]
    rw [List.map_congr_left fun z hz => cden z (List.all_eq_true.1 (List.all_eq_true.1 sm b (List.mem_of_getElem? hn)) z (by rw [hcc]; exact hz))]
    exact hx.blk n c hc hlc
  · intro n b hn hlb hf
    rw [eβ]
    exact h0.own n b hn hlb hf
  · intro n k b c hn hk hlb hlc heq
    rw [eβ] at heq
    exact h0.sep n k b c hn hk hlb hlc heq
  · intro n b hn hlb
    obtain ⟨hlt, b0, hb0, hl0⟩ := hold n b hn hlb
    obtain ⟨c, hc, hlc, hty, hks, hcc⟩ := hrow n b0 hb0 hl0
    have hr := hx.row n c hc hlc
    rw [(gval n hlt).1, ← (gval n hlt).2]
    rcases hcases n b hn with ⟨rfl, rfl⟩ | ⟨hne, h2⟩
    · rw [hm] at hb0
      simp only [Option.some.injEq] at hb0
      subst hb0
      rw [hbx] at hc
      simp only [Option.some.injEq] at hc
      subst hc
      show RowOK w' bm.ty bm.ks _ ((E.v s.nv).den e2.R e2.r)
      rw [hbt, hbk]
      have : (E.v s.nv).den e2.R e2.r = bx.c.den ex.R ex.r := by
        simp only [E.den]
        rw [er, ← h0.nv]
        simp [List.getD]
      rw [this]
      exact hr
    · rw [h2] at hb0
      simp only [Option.some.injEq] at hb0
      subst hb0
      rcases hcc with hcc | hcc
      · exact absurd hcc hne
      rw [hty, hks, hcc, eden c.c (by rw [← hcc]; exact List.all_eq_true.1 sr b (List.mem_of_getElem? h2))]
      exact hr
  · intro n b hn hlb hf k hk
    obtain ⟨hlt, b0, hb0, hl0⟩ := hold n b hn hlb
    rw [(gval n hlt).1] at hk
    exact h0.rown n b0 hb0 hl0 hf k hk
  · intro n k b c j hn hk hlb hlc h1 h2
    obtain ⟨hlt, b0, hb0, hl0⟩ := hold n b hn hlb
    obtain ⟨hlt', c0, hc0, hl0'⟩ := hold k c hk hlc
    rw [(gval n hlt).1] at h1
    rw [(gval k hlt').1] at h2
    exact h0.rsep n k b0 c0 j hb0 hc0 hl0 hl0' h1 h2
  · intro n k b c hn hk hlb hlc
    obtain ⟨hlt', c0, hc0, hl0'⟩ := hold k c hk hlc
    rw [(gval k hlt').1, eβ]
    exact h0.brs n k b c0 hn hc0 hlb hl0'
  · intro j ks c hj
    show SlX W0 ks ((G.a j).val e2) (c.den e2.R e2.r)
    have h1 := h0.arg j ks c hj
    have h2 : c.den e2.R e2.r = c.den e.R e.r := by
      rw [er, E.den_app _ _ _ _ (List.all_eq_true.1 sh (ks, c) (List.mem_of_getElem? hj))]
      exact E.den_R _ _ _ _
    rw [h2, show (G.a j).val e2 = (G.a j).val e by simp only [G.val, eR]]
    exact h1

theorem Rep.turn0 {e : Env} {W0 : Bas} {s : St} {w : World} (h : Rep e W0 s w) {l : Nat} {o : Obj} (o' : Obj) (hl : w.heap[l]? = some o) (hc : o.isCells = false) : Rep e ⟨w.putObj l o', ownX e s⟩ s (w.putObj l o') := by
  have hg := grownBy_putObj' w l o'
  have hno : ∀ k, (∃ o : Obj, w.heap[k]? = some o ∧ o.isCells = true) → k ≠ l := by
    rintro k ⟨ok, h1, h2⟩ rfl
    rw [hl] at h1
    simp only [Option.some.injEq] at h1
    subst h1
    rw [hc] at h2
    cases h2
  have hkeep : ∀ k, (∃ o : Obj, w.heap[k]? = some o ∧ o.isCells = true) → (w.putObj l o').heap[k]? = w.heap[k]? := fun k hk => World.putObj_heap_other (hno k hk)
  have hcell : ∀ (p : Addr) (v : Value), w.cell? p = some v → (w.putObj l o').cell? p = some v := fun p v hp => by
    rw [World.cell?_of_block (w := w) (hkeep p.block ?_)]
    · exact hp
    · obtain ⟨o1, h1, h2⟩ := cells_of_cell hp
      exact ⟨o1, h1, h2⟩
  have hb := h.rebase
  refine ⟨BelowX.refl _, h.nb, h.ng, h.nv, h.nx, ?_, ?_, h.sep, ?_, ?_, h.rsep, h.brs, ⟨fun p hp j n hj => hcell _ _ (h.glw p hp j n hj), hb.gl.2⟩, ?_⟩
  · intro n b hn hlb
    have := h.blk n b hn hlb
    rw [hkeep _ ⟨_, this, rfl⟩]
    exact this
  · exact fun n b hn hlb hf => .inr (.inl ⟨n, b, hn, hlb, hf, rfl⟩)
  · intro n b hn hlb
    exact (h.row n b hn hlb).kept hg (fun k hk hk' => by
      simp only [Option.some.injEq] at hk'
      exact hno k ((h.row n b hn hlb).blk_cells hk) hk'.symm)
  · exact fun n b hn hlb hf k hk => .inr (.inr ⟨n, b, hn, hlb, hf, hk⟩)
  · intro i ks c hi
    refine SlXK.imp (fun ks v c ha hax => ?_) _ _ _ (hb.arg i ks c hi)
    refine ⟨?_, hax⟩
    rcases ha with h1 | ⟨g, off, cap, h1, h2, h3, h4, h5⟩
    · exact .inl h1
    · exact .inr ⟨g, off, cap, h1, h2, h3, h4, fun j u hj => hcell _ _ (h5 j u hj)⟩
end Go.Sx
set_option linter.unusedVariables false
set_option linter.unusedSimpArgs false
namespace Go.Sx
open Go.RowKit

theorem Rep.rowTo {e : Env} {W0 : Bas} {s : St} {w w' : World} {n : Nat} {b : Row} {row : Option Nat} {x : Int} (h : Rep e W0 s w) (hsc : s.sc = true) (hb : s.rows[n]? = some b) (hl : b.live = true) (hf : s.flr ≤ n) (hg : w.grownBy w' row)
    (hr : ∀ k, row = some k → rowBlk ((G.o n).val e) = some k) (hrow : RowOK w' b.ty b.ks ((G.o n).val e) x) :
    Rep { e with r := e.r ++ [x] } W0 { s with rows := s.rows.set n { b with c := .v s.nv }, nv := s.nv + 1 } w' := by
  obtain ⟨hv, _, hle⟩ := h.vars hsc [x]
  have hx : (E.v s.nv).den e.R (e.r ++ [x]) = x := by
    simp only [E.den]
    rw [← h.nv]
    simp [List.getD]
  refine ⟨h.below.grown hg (fun k hk => h.rown n b hb hl hf k (hr k hk)), hv.nb, by simpa using hv.ng, hv.nv, hv.nx, ?_, hv.own, hv.sep, ?_, ?_, ?_, ?_, hv.gl, hv.arg⟩
  · intro m c hm hlm
    have h1 := hv.blk m c hm hlm
    rw [hg.block _ (heap_lt h1) (fun hk => h.brs m n c b hm hb hlm hl (hr _ hk.symm))]
    exact h1
  · intro m c hm hlm
    rcases mem_set_cases hm with ⟨rfl, rfl, _⟩ | ⟨hne, hm'⟩
    · show RowOK w' b.ty b.ks _ ((E.v s.nv).den e.R (e.r ++ [x]))
      rw [hx]
      exact hrow
    · exact (hv.row m c hm' hlm).kept hg (fun k hk hk' => hne (h.rsep m n c b k hm' hb hlm hl hk (hr k hk')))
  · intro m c hm hlm hfm k hk
    rcases mem_set_cases hm with ⟨rfl, rfl, _⟩ | ⟨hne, hm'⟩
    · exact h.rown m b hb hl hf k hk
    · exact h.rown m c hm' hlm hfm k hk
  · intro m j c d k hm hj hlm hlj h1 h2
    have hold : ∀ (i : Nat) (z : Row), (s.rows.set n { b with c := .v s.nv })[i]? = some z → z.live = true → ∃ z0 : Row, s.rows[i]? = some z0 ∧ z0.live = true := fun i z hi hz => by
      rcases mem_set_cases hi with ⟨rfl, rfl, _⟩ | ⟨_, hi'⟩
      · exact ⟨b, hb, hl⟩
      · exact ⟨z, hi', hz⟩
    obtain ⟨c0, hc0, hl0⟩ := hold m c hm hlm
    obtain ⟨d0, hd0, hd1⟩ := hold j d hj hlj
    exact h.rsep m j c0 d0 k hc0 hd0 hl0 hd1 h1 h2
  · intro m j c d hm hj hlm hlj
    rcases mem_set_cases hj with ⟨rfl, rfl, _⟩ | ⟨_, hj'⟩
    · exact h.brs m j c b hm hb hlm hl
    · exact h.brs m j c d hm hj' hlm hlj

def sortL (l : List Int) : List Int := l.mergeSort fun x y => decide (x ≤ y)
def SortInt (P : Program) (fn : FuncId) : Prop :=
  (∀ (blk off cap : Nat) (zs : List Int) (w : World), Go.Sort.Holds (Value.int .i64) w blk off zs.toArray → blk < w.heap.size → zs.length < 4611686018427387904 →
    Calls P fn #[.slice (some ⟨blk, off, none⟩) zs.length cap] w fun e w' => e = .returned (.tuple #[]) ∧ ∃ n os, w' = Go.Sort.grow (Go.Sort.putRow (Value.int .i64) (Sort.ahead w n) blk off (zs.mergeSort fun x y => decide (x ≤ y)).toArray) os) ∧
  ∀ (p : Option Addr) (cap : Nat) (w : World), Calls P fn #[.slice p 0 cap] w fun e w' => e = .returned (.tuple #[]) ∧ w' = w

def sortF (ty : TypeId) (s : St) (args : List SV) : Option (List B × List E × (Nat → St × SV)) := match args with
  | [.w (.o (.go (.o n)))] => match s.rows[n]? with
    | some b => if b.live && decide (s.flr ≤ n) && decide (b.ty = ty) && ksame b.ks [.i .i64] then some ([mkLe (mkLn b.c) (.c 1000000)], [b.c], fun nv => ({ s with rows := s.rows.set n { b with c := .v nv }, nv := nv + 1 }, .t [])) else none
    | none => none
  | _ => none
noncomputable def sem_sort (x : List Int) : List Int := [cod (sortL (dec (x.getD 0 0)))]
noncomputable def sortS (gl : List (Nat × List Int)) (fn : FuncId) (ty : TypeId) : Sum := ⟨fn, [], [], sem_sort, fun _ => True, gl, some (sortF ty)⟩

theorem cellsL_int (l : List Int) : cellsL [.i .i64] l = l.map (Value.int .i64) := by
  induction l with
  | nil => rfl
  | cons x l ih => simp only [cellsL, List.flatMap_cons] at ih ⊢; rw [ih]; rfl
theorem sortL_len (l : List Int) : (sortL l).length = l.length := by simp [sortL]

theorem sort_okM {P : Program} {gl : List (Nat × List Int)} {fn : FuncId} {ty : TypeId} (hS : SortInt P fn) : (sortS gl fn ty).okA P := by
  show (sortS gl fn ty).okM P (sortF ty)
  intro W0 e s w args as es kk hrep hsc hargs hgl hf has hpre
  unfold sortF at hf
  split at hf
  · rename_i n
    split at hf
    · rename_i b hb
      split at hf
      · rename_i hc
        simp only [Bool.and_eq_true, decide_eq_true_eq] at hc
        obtain ⟨⟨⟨hl, hfl⟩, hty⟩, hks⟩ := hc
        have hks' := ksame_eq hks
        simp only [Option.some.injEq, Prod.mk.injEq] at hf
        obtain ⟨rfl, rfl, rfl⟩ := hf
        have hlen := has (mkLe (mkLn b.c) (.c 1000000)) (by simp)
        rw [mkLe_den, decide_eq_true_eq, mkLn_den] at hlen
        simp only [E.den] at hlen
        have hrow := hrep.row n b hb hl
        have hargs' : ([SV.w (.o (.go (.o n)))].map (SV.den e)).toArray = #[(G.o n).val e] := rfl
        rw [hargs']
        generalize hcode : b.c.den e.R e.r = c at *
        have hsem : (sortS gl fn ty).sem ([b.c].map (E.den e.R e.r)) = [cod (sortL (dec c))] := by
          show [cod (sortL (dec (([b.c].map (E.den e.R e.r)).getD 0 0)))] = _
          simp only [List.map_cons, List.map_nil, List.getD_cons_zero, hcode]
        rw [hsem]
        have hle : Env.le e { e with r := e.r ++ [cod (sortL (dec c))] } := ⟨[cod (sortL (dec c))], [], [], [], by simp⟩
        have fin : ∀ {w' : World} {row : Option Nat}, w.grownBy w' row → (∀ k, row = some k → rowBlk ((G.o n).val e) = some k) → RowOK w' b.ty b.ks ((G.o n).val e) (cod (sortL (dec c))) →
            ∃ e', Ending.returned (.tuple #[]) = .returned ((SV.t []).den e') ∧ Env.le e e' ∧ e'.r = e.r ++ [cod (sortL (dec c))] ∧ Rep e' W0 { s with rows := s.rows.set n { b with c := .v s.nv }, nv := s.nv + 1 } w' ∧ s.fr = s.fr ∧ s.fl = s.fl ∧ s.flr = s.flr ∧ s.dp = s.dp :=
          fun hg hr hro => ⟨_, rfl, hle, rfl, hrep.rowTo hsc hb hl hfl hg hr hro, rfl, rfl, rfl, rfl⟩
        have none0 : ∀ (p : Option Addr) (cap : Nat), (G.o n).val e = .slice p 0 cap → dec c = [] → Calls P fn #[(G.o n).val e] w fun x w' => ∃ e', x = .returned ((SV.t []).den e') ∧ Env.le e e' ∧ e'.r = e.r ++ [cod (sortL (dec c))] ∧ Rep e' W0 { s with rows := s.rows.set n { b with c := .v s.nv }, nv := s.nv + 1 } w' ∧ s.fr = s.fr ∧ s.fl = s.fl ∧ s.flr = s.flr ∧ s.dp = s.dp := by
          intro p cap hv hn
          rw [hv]
          refine (hS.2 p cap w).mono ?_
          rintro x w' ⟨rfl, rfl⟩
          refine fin (row := none) ⟨rfl, rfl, rfl, Nat.le_refl _, fun _ _ _ => rfl⟩ (fun k hk => by cases hk) ?_
          have hcc : cod (sortL (dec c)) = cod (dec c) := by rw [hn, show sortL [] = [] by simp [sortL]]
          rw [hcc]
          unfold RowOK at hrow ⊢
          rw [dec_cod]
          exact hrow
        rcases hrow with ⟨hn, hv | ⟨bb, off, hv⟩⟩ | ⟨hk0, hel, hown⟩
        · exact none0 _ _ hv hn
        · exact none0 _ _ hv hn
        · rcases hown.2 with ⟨hv, hn⟩ | ⟨g, cap, cur, hv, _, hheap, hle1, hmx, hcs, htake⟩
          · exact none0 _ _ hv (List.eq_nil_of_length_eq_zero hn)
          · by_cases hz : (dec c).length = 0
            · refine none0 (some ⟨g, 0, none⟩) cap ?_ (List.eq_nil_of_length_eq_zero hz)
              rw [hv, hz]
            · rw [hks', cellsL_int] at htake
              rw [hks'] at hcs
              simp only [List.length_cons, List.length_nil, Nat.zero_add, Nat.mul_one] at htake hcs
              have hH := holds_of_blockI hheap htake
              rw [hv]
              refine (hS.1 g 0 cap (dec c) w hH (heap_lt hheap) (by omega)).mono ?_
              rintro x w' ⟨rfl, m, os, rfl⟩
              have hro := ownsRow_sortedI (n := m) (os := os) (ss := dec c) (ts := sortL (dec c)) (base := 0) (by rw [sortL_len]) (Nat.zero_le _) hheap hle1 hmx (by rw [hcs, Nat.mul_one])
              refine fin (row := some g) (grownBy_sortedI _) (fun k hk => ?_) ?_
              · simp only [Option.some.injEq] at hk
                subst hk
                rw [hv]
                have : cap ≠ 0 := by omega
                simp [rowBlk, this]
              · refine .inr ⟨hk0, ?_, ?_⟩
                · intro z _
                  rw [hks']
                  simp [elt]
                · rw [dec_cod, sortL_len, hv, hks', cellsL_int]
                  exact hro
      · cases hf
    · cases hf
  · cases hf
#print axioms sort_okM
end Go.Sx
set_option linter.unusedVariables false
set_option linter.unusedSimpArgs false
namespace Go.Sx
open Go.RowKit

def hasRg : Code → Bool
  | .seq x y => hasRg x || hasRg y
  | .block _ c => hasRg c
  | .rangeFunc _ _ _ _ => true
  | _ => false

def seqs : List Code → Code
  | [] => .skip
  | y :: r => .seq y (seqs r)

def rgIx (s : St) : E := mkSub .i64 (.v (s.nv + 1)) (.c 1)
def rgS (m : Nat) (ks : List K) (p q : Tmp) (s : St) : St :=
  { genR m s with fr := (s.fr.set p (one (.i .i64 (rgIx s)))).set q (.w (.a (elemC (.o m) ks (.v s.nv) (rgIx s)))) }
def rgE (m : Nat) (s s4 : St) : T := if memKept s s4 && rowsKept m s s4 then (match s4.rows[m]? with
  | some r4 => .back s.dp [r4.c, rgIx s]
  | none => .fail) else .fail
def rgK (ex : Code → St → Kont → T) (bd : Code) (m : Nat) (s : St) : Kont := fun o s3 => match o with
  | .norm => ex bd s3 fun o s4 => match o with
    | .norm => rgE m s s4
    | _ => .fail
  | _ => .fail

def rgT (gf0 : FuncId) (sz : Nat) (ex : Code → St → Kont → T) (g : Operand) (p q : Tmp) (as bd : Code) (rest : List Code) (s : St) (k : Kont) : T := match s.ev g with
  | .w (.o (.f gf [(nb, 0)])) => match s.mem[nb]? with
    | some blk => match blk.cells with
      | [.go (.o m)] => match s.rows[m]? with
        | some row => if ((blk.live && row.live) && s.sc) && ((calmC as && calmC bd) && (decide (gf = gf0) && decide (row.ks.length = sz))) then
            .asrt (mkLe (mkLn row.c) (.c 1000000)) (.loop 2 [row.c, mkLn row.c] (.ite (mkLe (.v (s.nv + 1)) (.c 0)) (ex (seqs rest) (genR m s) k)
              (ex as (rgS m row.ks p q s) (rgK ex bd m s))))
          else .fail
        | none => .fail
      | _ => .fail
    | none => .fail
  | _ => .fail

def symR (gf0 : FuncId) (sz : Nat) (ex : Code → St → Kont → T) : Code → List Code → St → Kont → T
  | .seq x y, rest, s, k => if hasRg x then symR gf0 sz ex x (y :: rest) s k else ex x s fun o s' => match o with
    | .norm => symR gf0 sz ex y rest s' k
    | o => k o s'
  | .block _ (.rangeFunc g ps as bd), rest, s, k => match ps.toList with
    | [p, q] => rgT gf0 sz ex g p q as bd rest s k
    | _ => .fail
  | _, _, _, _ => .fail

def symRg (P : Program) (lp : St → Code → Option Plan) (gl : List (Nat × List Int)) (Γ : List Sum) (gf0 : FuncId) (sz : Nat) (fuel : Nat) (fn : FuncId) (ps rs : List Sh) : T := match P.funcs[fn]? with
  | some F => match F.body with
    | some body => symR gf0 sz (exec P lp Γ fuel) body [] ⟨frameOf ps F.ntmps, [], [], total ps, 0, 0, 0, gl, hsE (allK ps) (varsFrom 0 (total ps)), 0⟩ (doneK P F rs)
    | none => .fail
  | none => .fail

theorem RowOK.len {w : World} {ty : TypeId} {ks : List K} {a : Option Addr} {l cap : Nat} {c : Int} (h : RowOK w ty ks (.slice a l cap) c) : (dec c).length = l := by
  rcases h with ⟨h1, h2 | ⟨b, off, h2⟩⟩ | ⟨h0, h1, h2⟩
  · simp only [Value.slice.injEq] at h2; rw [h1, h2.2.1]; rfl
  · simp only [Value.slice.injEq] at h2; rw [h1, h2.2.1]; rfl
  · rcases h2.2 with ⟨hv, hn⟩ | ⟨g, cap, cur, hv, _⟩
    · simp only [Value.slice.injEq] at hv; rw [hn, hv.2.1]
    · simp only [Value.slice.injEq] at hv; exact hv.2.1.symm

theorem enters_callable {P : Program} {fn : FuncId} (hc : callable P fn = true) (args : Array Value) (w : World) : (callFunc fn args).run P w = .ok (.enter fn args) w := by
  obtain ⟨Fn, body, h1, h2, h3⟩ := callable_spec hc
  simp only [callFunc, Sem.run_bind, run_program, Result.andThen_ok, h1, h2, h3]
  simp

theorem genR_some {m : Nat} {s : St} {bm : Row} (hm : s.rows[m]? = some bm) : genR m s = { s with rows := s.rows.set m { bm with c := .v s.nv }, nv := s.nv + 2, dp := s.dp + 1 } := by unfold genR; rw [hm]

section
variable {P : Program} {Γ : List Sum} {Ψ : List Int → Prop} {bs : List (List Int → Prop)}

theorem px_out {W0 : Bas} {e : Env} {fl flr : Nat} {k : Kont} : ¬ LetsOut (Px Γ Ψ bs W0 e fl flr k) := by
  rintro ⟨a, w, out, _, _, _, h, _⟩
  cases out <;> cases h

theorem ownX_may2 {e e3 : Env} {W0 : Bas} {s s3 : St} {w w3 : World} (h : Rep e W0 s w) (h3 : Rep e3 ⟨w, ownX e s⟩ s3 w3) (k : Nat) (hk : ownX e3 s3 k) : W0.may k := by
  rcases ownX_may h3 hk with h1 | h1
  · exact .inl (Nat.le_trans h.below.size h1)
  · exact ownX_may h h1

theorem may_up {e : Env} {W0 : Bas} {s : St} {w : World} (h : Rep e W0 s w) (k : Nat) (hk : (Bas.mk w (ownX e s)).may k) : W0.may k := by
  rcases hk with h1 | h1
  · exact .inl (Nat.le_trans h.below.size h1)
  · exact ownX_may h h1

theorem keeps_own {e e3 : Env} {W0 : Bas} {s s3 : St} {w w3 : World} (h : Rep e W0 s w) (h3 : Rep e3 ⟨w, ownX e s⟩ s3 w3) {k : Nat} {o : Obj} (ho : w.heap[k]? = some o) (hc : o.isCells = false) : w3.heap[k]? = some o := by
  refine (h3.below.block k ?_).trans ho
  rintro (h1 | h1)
  · exact absurd (heap_lt ho) (Nat.not_lt.2 h1)
  · obtain ⟨o', h2, h4⟩ := ownX_cells h h1
    rw [ho] at h2
    simp only [Option.some.injEq] at h2
    subst h2
    rw [hc] at h4
    cases h4

theorem back_sat {d : Nat} {es : List E} {R : Fo} {r : List Int} {bb : List (List Int → Prop)} {p : List Int → Prop} (hp : bb[d]? = some p) (hb : (T.back d es).sat Γ R Ψ bb r) : p (es.map (E.den R r)) := by
  simp only [T.sat, hp] at hb
  exact hb

theorem rgT_sound {gf0 : FuncId} {sz : Nat} (hBI : BackIter P gf0 sz) (hcal : callable P gf0 = true) {ex : Code → St → Kont → T} (hih : IH P Γ ex) {g : Operand} {p q : Tmp} {as bd : Code} {rest : List Code} {s : St} {k : Kont} {W0 : Bas} {e : Env} {a : Act} {w : World}
    (h : Rel e W0 s a w) (hdp : s.dp = bs.length) (hs : (rgT gf0 sz ex g p q as bd rest s k).sat Γ e.R Ψ bs e.r) {Q : Exit → Act → World → Prop}
    (hQ : ∀ D e2 s' bs' W, Rel e2 W0 s' a W → s'.dp = bs'.length → w.heap.size ≤ D → W.heap[D]? = some (.deferred (some [])) → (ex (seqs rest) s' k).sat Γ e2.R Ψ bs' e2.r → Q .normal (tail [{ target := .collected D, args := #[] }] a) W) :
    (Code.rangeFunc g #[p, q] as bd).wp P Q a w := by
  unfold rgT at hs
  split at hs
  · rename_i gf nb hev
    split at hs
    · rename_i blk hblk
      split at hs
      · rename_i m hcells
        split at hs
        · rename_i row hrow
          split at hs
          · rename_i hc
            simp only [Bool.and_eq_true, decide_eq_true_eq] at hc
            obtain ⟨⟨⟨hbl, hrl⟩, hsc⟩, ⟨hcas, hcbd⟩, rfl, rfl⟩ := hc
            obtain ⟨hlen, I, μ, hI0, hloop⟩ := hs
            rw [mkLe_den, decide_eq_true_eq, mkLn_den] at hlen
            simp only [E.den] at hlen
            obtain ⟨ad, len, cap, hval⟩ := G.val_slice e (.o m)
            have hgen := genR_some hrow
            have hmlt := (List.getElem?_eq_some_iff.1 hrow).1
            have hlen0 : (dec (row.c.den e.R e.r)).length = len := by
              have := h.rep.row m row hrow hrl
              rw [hval] at this
              exact this.len
            -- a list of two numbers more
            have hle2 : ∀ x y : Int, Env.le e { e with r := e.r ++ [x, y] } := fun x y => ⟨[x, y], [], [], [], by simp⟩
            have hscf : ∀ v ∈ s.fr, v.sc e.r.length e.β.length e.σ.length e.ω.length = true := by
              have := hsc
              simp only [St.sc, Bool.and_eq_true] at this
              intro v hv
              have := List.all_eq_true.1 this.1.1 v hv
              rw [h.rep.nv, h.rep.nb, h.rep.ng, h.rep.nx]
              exact this
            have hfr : ∀ x y : Int, a.tmps = (s.fr.map (SV.den { e with r := e.r ++ [x, y] })).toArray := fun x y => by
              rw [h.tmps]
              congr 1
              exact (List.map_congr_left fun v hv => SV.den_le (hle2 x y) v (hscf v hv)).symm
            have hrelG : ∀ (x y : Int) (W : World), Rep { e with r := e.r ++ [x, y] } W0 (genR m s) W → Rel { e with r := e.r ++ [x, y] } W0 (genR m s) a W := fun x y W hr =>
              ⟨hr, by rw [hfr x y, hgen], h.defs⟩
            have hgetv : ∀ x y : Int, (e.r ++ [x, y]).getD s.nv 0 = x ∧ (e.r ++ [x, y]).getD (s.nv + 1) 0 = y := fun x y => by
              rw [← h.rep.nv]
              constructor
              · simp [List.getD]
              · simp [List.getD]
            have hvk : ∀ (x y : Int) (W : World), Rep { e with r := e.r ++ [x, y] } W0 (genR m s) W → (dec x).length = len := fun x y W hr => by
              have hr' : (genR m s).rows[m]? = some { row with c := .v s.nv } := by rw [hgen]; simp [hmlt]
              have := hr.row m _ hr' hrl
              rw [show (G.o m).val ({ e with r := e.r ++ [x, y] } : Env) = (G.o m).val e from rfl, hval] at this
              have := this.len
              simp only [E.den, (hgetv x y).1] at this
              exact this
            refine wpIn_wide.1 (back_rangeFunc (n := 0) hBI (Bs := e.β.getD nb 0) (ad := ad) (len := len) (cap := cap) ?_ (enters_callable hcal) (by omega)
              (fun i W => ∃ code : Int, I [code, (i : Int)] ∧ Rep { e with r := e.r ++ [code, (i : Int)] } W0 (genR m s) W) ?_ ?_ ?_ ?_ ?_)
            · rw [h.eval g, hev]
              simp [SV.den, SW.den, SC.den, ownAddr]
            · rintro i X Y r ⟨code, hI, hr⟩ hg hnc
              exact ⟨code, hI, hr.turn hg fun r hr' => ⟨.inl (Nat.le_trans h.rep.below.size (hnc r hr').1), (hnc r hr').2⟩⟩
            · rintro i W ⟨code, hI, hr⟩
              have := blk_cell hr (n := nb) (b := blk) (by rw [hgen]; exact hblk) hbl 0 (by rw [hcells]; simp)
              rw [hcells] at this
              simp only [List.map_cons, List.map_nil, List.getD, List.getElem?_cons_zero, Option.getD_some, SC.den] at this
              rw [← hval]
              exact this
            · refine ⟨row.c.den e.R e.r, ?_, ?_⟩
              · simp only [List.map_cons, List.map_nil, mkLn_den, hlen0] at hI0
                exact hI0
              · obtain ⟨bx, hbx, hr⟩ := h.rep.cut (ex := e) (sx := s) (wr := w) (X := ownX e s) (w' := w) hsc (Env.le_refl _) h.rep.below (fun k hk => ownX_may h.rep hk) h.rep.rebase hrow hrl
                  (fun n b hb hl => ⟨b, hb, hl, rfl, rfl⟩) (fun n b hb hl => ⟨b, hb, hl, rfl, rfl, .inr rfl⟩) (len : Int)
                rw [hrow] at hbx
                simp only [Option.some.injEq] at hbx
                subst hbx
                exact hr
            · rintro i W hi ⟨code, hIc, hr⟩
              have hsat := hloop [code, ((i + 1 : Nat) : Int)] rfl hIc
              have hrl2 := hvk _ _ W hr
              generalize he2 : ({ e with r := e.r ++ [code, ((i + 1 : Nat) : Int)] } : Env) = e2 at hr
              have e2r : e2.r = e.r ++ [code, ((i + 1 : Nat) : Int)] := by rw [← he2]
              have e2R : e2.R = e.R := by rw [← he2]
              have hle : Env.le e e2 := by rw [← he2]; exact hle2 _ _
              have hv1 := hgetv code ((i + 1 : Nat) : Int)
              rw [← e2r] at hv1 hsat
              rw [← e2R] at hsat
              have hix : (rgIx s).den e2.R e2.r = (i : Int) := by
                unfold rgIx
                rw [mkSub_den]
                simp only [E.den, hv1.2]
                rw [wrap_len (by omega) (by omega)]
                omega
              have hsat2 := hsat.2 (by
                rw [mkLe_den]
                simp only [E.den, hv1.2]
                simp)
              have hrowG : (genR m s).rows[m]? = some { row with c := .v s.nv } := by rw [hgen]; simp [hmlt]
              have hgc : gcode (genR m s) (.o m) = some (row.ks, .v s.nv) := by
                simp only [gcode, hrowG]
                simp [hrl]
              have hcode : (E.v s.nv).den e2.R e2.r = code := by simp only [E.den, hv1.1]
              have hgv : (G.o m).val e2 = .slice ad len cap := by rw [← he2]; exact hval
              rcases hr.gread hgc with ⟨hv0, hn⟩ | ⟨b, off, cap', hv, hcle, hmm, hel, hcell⟩
              · rw [hcode] at hn
                rw [hn] at hrl2
                simp at hrl2
                omega
              rw [hcode] at hv hcle hel hcell
              rw [hgv] at hv
              simp only [Value.slice.injEq] at hv
              obtain ⟨hv1', hv2', hv3'⟩ := hv
              have hilt : i < (dec code).length := by rw [hrl2]; exact hi
              have hx := hel ((dec code).getD i 0) (by simp [List.getD, hilt])
              have hnat : ((rgIx s).den e2.R e2.r).toNat = i := by rw [hix]; rfl
              have hden : (elemC (.o m) row.ks (.v s.nv) (rgIx s)).map (SC.den e2) = mkCells row.ks (elt row.ks ((dec code).getD i 0)) := by
                have := elemC_den (e := e2) (g := .o m) (ks := row.ks) (c := .v s.nv) (ix := rgIx s) (by rw [hcode, hnat]; exact hx)
                rw [hcode, hnat] at this
                exact this
              have hml := mkCells_length hx
              refine ⟨b, off, (elemC (.o m) row.ks (.v s.nv) (rgIx s)).map (SC.den e2), hv1', by rw [hden]; exact hml, ?_, ?_⟩
              · intro j u hj
                rw [hden] at hj
                have hjl : j < row.ks.length := by rw [← hml]; exact (List.getElem?_eq_some_iff.1 hj).1
                refine hcell _ _ ?_
                rw [cellsL_at hel hilt hjl]
                exact hj
              · intro l md hl hlr
                obtain ⟨lr, hlr⟩ := hlr
                have hrelA : Rel e2 ⟨W, ownX e2 (genR m s)⟩ (rgS m row.ks p q s) { tmps := (a.tmps.setIfInBounds p (.int .i64 (i : Nat))).setIfInBounds q (.agg ((elemC (.o m) row.ks (.v s.nv) (rgIx s)).map (SC.den e2)).toArray), defers := [] } W := by
                  refine ⟨hr.rebase.fr _, ?_, rfl⟩
                  have h1 := hfr code ((i + 1 : Nat) : Int)
                  rw [he2] at h1
                  show (a.tmps.setIfInBounds p _).setIfInBounds q _ = (((s.fr.set p (one (.i .i64 (rgIx s)))).set q (.w (.a (elemC (.o m) row.ks (.v s.nv) (rgIx s))))).map (SV.den e2)).toArray
                  rw [h1]
                  apply Array.ext'
                  simp [List.map_set, SV.den, SW.den, SC.den, one, hix]
                have hdpA : (rgS m row.ks p q s).dp = (bs ++ [fun ys => I ys ∧ μ ys < μ [code, ((i + 1 : Nat) : Int)]]).length := by
                  unfold rgS
                  rw [hgen]
                  simp [hdp]
                refine wpIn_mono (wps_in l md as hcas px_out (hih as _ _ _ Ψ _ e2 _ W hrelA hdpA hsat2)) ?_
                rintro x a3 w3 ⟨out, s3, e3, more, rfl, hle3, hrel3, _, _, hd3, hsat3⟩
                cases out with
                | norm =>
                  have hlr3 := keeps_own hr hrel3.rep hlr rfl
                  refine ⟨⟨hrel3.rep.below.size, fun k o _ ho hc => keeps_own hr hrel3.rep ho hc⟩, fun o' => ?_⟩
                  have ht0 := hrel3.rep.turn0 o' hlr3 rfl
                  have hrelB : Rel e3 ⟨w3.putObj l o', ownX e3 s3⟩ s3 a3 (w3.putObj l o') := ⟨ht0, hrel3.tmps, hrel3.defs⟩
                  refine wpIn_mono (wps_in l md bd hcbd px_out (hih bd _ _ _ Ψ _ e3 _ _ hrelB hd3 hsat3)) ?_
                  rintro x a4 w4 ⟨out, s4, e4, more4, rfl, hle4, hrel4, _, _, hd4, hsat4⟩
                  cases out with
                  | norm =>
                    dsimp only at hsat4
                    unfold rgE at hsat4
                    split at hsat4
                    · rename_i hkept
                      simp only [Bool.and_eq_true] at hkept
                      split at hsat4
                      · rename_i r4 hr4
                        have hback := back_sat (p := fun ys => I ys ∧ μ ys < μ [code, ((i + 1 : Nat) : Int)]) (by
                          rw [hdp, List.append_assoc, List.append_assoc, List.getElem?_append_right (Nat.le_refl _), Nat.sub_self]
                          rfl) hsat4
                        have hix4 : (rgIx s).den e4.R e4.r = (i : Int) := by
                          obtain ⟨x4, _, _, _, h4r, _⟩ := hle3.trans hle4
                          rw [h4r, E.den_app _ _ _ _ (by unfold rgIx; rw [e2r]; simp [mkSub, E.sc, h.rep.nv]), E.den_R _ e2.R]
                          exact hix
                        refine ⟨rfl, ⟨hrel4.rep.below.size, fun k o _ ho hc => ?_⟩, ?_⟩
                        · refine (hrel4.rep.below.block k ?_).trans ho
                          rintro (h1 | h1)
                          · exact absurd (heap_lt ho) (Nat.not_lt.2 h1)
                          · obtain ⟨o'', h2, h4⟩ := ownX_cells ht0 h1
                            rw [ho] at h2
                            simp only [Option.some.injEq] at h2
                            subst h2
                            rw [hc] at h4
                            cases h4
                        · obtain ⟨bx, hbx, hcut⟩ := h.rep.cut (ex := e4) (sx := s4) (wr := w3.putObj l o') (X := ownX e3 s3) (w' := w4) hsc (hle.trans (hle3.trans hle4))
                            ((hr.below.trans hrel3.rep.below (may_up hr)).grown (grownBy_putObj' w3 l o') (fun k hk => by
                              simp only [Option.some.injEq] at hk
                              subst hk
                              exact .inl (Nat.le_trans h.rep.below.size hl)))
                            (fun k hk => ownX_may2 hr hrel3.rep k hk) hrel4.rep hrow hrl (fun n b hb hl => memKept_spec hkept.1 hb hl) (fun n b hb hl => rowsKept_spec hkept.2 hb hl) (i : Int)
                          rw [hr4] at hbx
                          simp only [Option.some.injEq] at hbx
                          subst hbx
                          simp only [List.map_cons, List.map_nil, hix4] at hback
                          exact ⟨_, hback.1, hcut⟩
                      · exact hsat4.elim
                    · exact hsat4.elim
                  | exit id => exact hsat4.elim
                  | ret => exact hsat4.elim
                | exit id => exact hsat3.elim
                | ret => exact hsat3.elim
            · rintro D W hD ⟨code, hIc, hr⟩ hdef
              have hsat := hloop [code, ((0 : Nat) : Int)] rfl hIc
              have hv1 := hgetv code ((0 : Nat) : Int)
              have hsat1 := hsat.1 (by
                rw [mkLe_den]
                simp only [E.den, hv1.2]
                simp)
              have := hQ D _ (genR m s) _ W (hrelG _ _ W hr) (by rw [hgen]; simp [hdp]) hD hdef hsat1
              rw [show ({ a with defers := { target := .collected D, args := #[] } :: a.defers } : Act) = tail [{ target := .collected D, args := #[] }] a by unfold tail; rw [h.defs]; rfl]
              exact this
          · exact hs.elim
        · exact hs.elim
      · exact hs.elim
    · exact hs.elim
  · exact hs.elim

def seqQ (P : Program) : List Code → (Exit → Act → World → Prop) → Exit → Act → World → Prop
  | [], Q => Q
  | y :: r, Q => Exit.then (y.wp P (seqQ P r Q)) (seqQ P r Q)
theorem seqQ_out {Q : Exit → Act → World → Prop} {x : Exit} (hx : x ≠ .normal) {a : Act} {w : World} (h : Q x a w) : ∀ l : List Code, seqQ P l Q x a w
  | [] => h
  | y :: r => by
    have ih := seqQ_out hx h r
    cases x <;> first | exact absurd rfl hx | exact ih
theorem seqs_wp {Q : Exit → Act → World → Prop} : ∀ (l : List Code) {a : Act} {w : World}, wps P (seqs l) Q a w → seqQ P l Q .normal a w
  | [], a, w, h => h
  | y :: r, a, w, h => by
    show y.wp P (seqQ P r Q) a w
    refine wps_wp y (wps_mono y h ?_)
    intro x a' w' hx
    cases x with
    | normal => exact seqs_wp r hx
    | _ => exact seqQ_out (Q := Q) (by intro h; cases h) hx r

def RgR (Ψ : List Int → Prop) (w0 : World) (rs : List Sh) : Ending → World → Prop := fun x w' => ∃ ys v, x = .returned v ∧ Ψ ys ∧ ResOK (fun k => w0.heap.size ≤ k) w' rs v ys ∧ Below w0.heap.size w0 w'

theorem may_false {w0 : World} (k : Nat) (h : (Bas.mk w0 (fun _ => False)).may k) : w0.heap.size ≤ k := h.elim id (fun hh => hh.elim)

theorem symR_sound {gf0 : FuncId} {sz : Nat} (hBI : BackIter P gf0 sz) (hcal : callable P gf0 = true) {ex : Code → St → Kont → T} (hih : IH P Γ ex) {F : Func} {rs : List Sh} {w0 : World} :
    ∀ (c : Code) (rest : List Code) (s : St) (bs : List (List Int → Prop)) (e : Env) (a : Act) (w : World), Rel e ⟨w0, fun _ => False⟩ s a w → s.dp = bs.length → (symR gf0 sz ex c rest s (doneK P F rs)).sat Γ e.R Ψ bs e.r →
      c.wp P (seqQ P rest (bodyPostM Fence.wide 0 P F (RgR Ψ w0 rs))) a w := by
  have hfin : ∀ {out : Out} {s' : St} {bs : List (List Int → Prop)} {e : Env} {a : Act} {w : World}, Rel e ⟨w0, fun _ => False⟩ s' a w → (doneK P F rs out s').sat Γ e.R Ψ bs e.r → bodyPostM Fence.wide 0 P F (RgR Ψ w0 rs) out.exitOf a w := by
    intro out s' bs e a w h hs
    obtain ⟨hne, ys, v, h1, h2, h3⟩ := doneK_sat h hs
    have key : LeavesInM Fence.wide 0 P F a.tmps (RgR Ψ w0 rs) a.defers .returning w := by
      rw [h.defs]
      exact ⟨v, h3, ys, v, rfl, h1, ResOK.up may_false h2, h.rep.below.below⟩
    cases out with
    | norm => exact key
    | exit id => exact absurd rfl (hne id)
    | ret => exact key
  intro c
  induction c with
  | seq x y ihx ihy =>
    intro rest s bs e a w h hdp hs
    simp only [symR] at hs
    split at hs
    · exact wp_seq (ihx (y :: rest) s bs e a w h hdp hs)
    · refine wp_seq (wp_mono (wps_wp x (hih x s _ _ Ψ bs e a w h hdp hs)) ?_)
      rintro ex' a' w' ⟨out, s', e', more, rfl, hle, hrel, hf, hfr, hd, hsat⟩
      cases out with
      | norm => exact ihy rest s' (bs ++ more) e' a' w' hrel hd hsat
      | exit id => exact seqQ_out (x := .exit id) (by intro hh; cases hh) (hfin (out := .exit id) hrel hsat) rest
      | ret => exact seqQ_out (x := .ret) (by intro hh; cases hh) (hfin (out := .ret) hrel hsat) rest
  | block id c ih =>
    intro rest s bs e a w h hdp hs
    cases c with
    | rangeFunc g ps as bd =>
      simp only [symR] at hs
      split at hs
      · rename_i p q hps
        obtain rfl : ps = #[p, q] := by
          apply Array.ext'
          rw [hps]
        refine wp_block (rgT_sound hBI hcal hih h hdp hs ?_)
        intro D e2 s' bs' W hrel hd' hD hdef hsat
        show seqQ P rest _ .normal _ W
        refine seqs_wp rest (wps_tail (seqs rest) (hih (seqs rest) s' _ ⟨W, ownX e2 s'⟩ Ψ bs' e2 a W ⟨hrel.rep.rebase, hrel.tmps, hrel.defs⟩ hd' hsat) ?_)
        rintro x a' w' ⟨out, s4, e4, more, rfl, hle, hrel4, hf, hfr, hd4, hsat4⟩
        have hD4 := keeps_own hrel.rep hrel4.rep hdef rfl
        have ht := hrel4.rep.turn0 (.deferred none) hD4 rfl
        have hrelD : Rel e4 ⟨w'.putObj D (.deferred none), ownX e4 s4⟩ s4 a' (w'.putObj D (.deferred none)) := ⟨ht, hrel4.tmps, hrel4.defs⟩
        obtain ⟨hne, ys, v, h1, h2, h3⟩ := doneK_sat hrelD hsat4
        have hWs := hrel.rep.below.size
        have hmay : ∀ k, (Bas.mk (w'.putObj D (.deferred none)) (ownX e4 s4)).may k → w0.heap.size ≤ k := by
          rintro k (hk | hk)
          · have h5 := hrel4.rep.below.size
            simp only [World.putObj_size] at hk
            exact Nat.le_trans hWs (Nat.le_trans h5 hk)
          · exact may_false k (ownX_may2 hrel.rep hrel4.rep k hk)
        have hbel : BelowX ⟨w0, fun _ => False⟩ (w'.putObj D (.deferred none)) :=
          (hrel.rep.below.trans hrel4.rep.below (may_up hrel.rep)).grown (grownBy_putObj' w' D _) (fun k hk => by
            simp only [Option.some.injEq] at hk
            subst hk
            exact .inl (Nat.le_trans h.rep.below.size hD))
        have key : LeavesInM Fence.wide 0 P F (tail [{ target := .collected D, args := #[] }] a').tmps (RgR Ψ w0 rs) (tail [{ target := .collected D, args := #[] }] a').defers .returning w' := by
          unfold tail
          rw [hrel4.defs]
          exact ⟨by simp, .inl ⟨D, _, rfl, run_takeDeferred hD4, v, h3, ys, v, rfl, h1, ResOK.up hmay h2, hbel.below⟩⟩
        cases out with
        | norm => exact key
        | exit id => exact absurd rfl (hne id)
        | ret => exact key
      · exact hs.elim
    | _ => simp only [symR] at hs; exact hs.elim
  | _ => intro rest s bs e a w h hdp hs; simp only [symR] at hs; exact hs.elim

theorem symRg_sound (hm : P.follows .mixedOrders = true) (hG : Gok P Γ) {gf0 : FuncId} {sz : Nat} (hBI : BackIter P gf0 sz) (hcal : callable P gf0 = true) {lp : St → Code → Option Plan} {gl : List (Nat × List Int)} {fuel : Nat} {fn : FuncId} {ps rs : List Sh} {xs : List Int} {vs : List Value} (w : World) (hx : ShsR (fun _ ks u n => SlN w ks u n) ps vs xs)
    (hs : (symRg P lp gl Γ gf0 sz fuel fn ps rs).sat Γ [] Ψ [] xs) (hgl : GlOK gl w) :
    Calls P fn vs.toArray w fun x w' => ∃ ys v, x = .returned v ∧ Ψ ys ∧ ResOK (fun k => w.heap.size ≤ k) w' rs v ys ∧ Below w.heap.size w w' := by
  unfold symRg at hs
  split at hs
  · rename_i F hF
    split at hs
    · rename_i body hb
      have hxl := hx.len.1
      have hv : (varsFrom 0 (total ps)).map (E.den (slsShs ps vs) xs) = xs := by
        have := varsFrom_den (R := slsShs ps vs) (r := []) hxl
        simpa using this
      have hx' : ShsR (fun _ ks u n => SlN w ks u n) ps vs ((varsFrom 0 (total ps)).map (E.den (⟨xs, [], [], [], slsShs ps vs⟩ : Env).R (⟨xs, [], [], [], slsShs ps vs⟩ : Env).r)) := by
        show ShsR _ ps vs ((varsFrom 0 (total ps)).map (E.den (slsShs ps vs) xs))
        rw [hv]; exact hx
      obtain ⟨r1, r2⟩ := slsShs_rows hx'
      have hsl : ∀ (j : Nat) (u : Value), (slsShs ps vs)[j]? = some u → ∃ a l cp, u = .slice a l cp := fun j u hj => by
        obtain ⟨b, hb'⟩ : ∃ b, (rowsE (allK ps) (varsFrom 0 (total ps)))[j]? = some b := ⟨_, List.getElem?_eq_getElem (by rw [← r1]; exact (List.getElem?_eq_some_iff.1 hj).1)⟩
        exact (r2 j b u hb' hj).now.slice
      have hden : ((shsE argG 0 ps (varsFrom 0 (total ps))).map SV.w).map (SV.den ⟨xs, [], [], [], slsShs ps vs⟩) = vs := by
        rw [List.map_map]
        refine shsE_val (e := ⟨xs, [], [], [], slsShs ps vs⟩) hx' fun j u hj => ?_
        simp only [argG, SC.den, G.val, Nat.zero_add, List.getD, hj, Option.getD_some]
        exact slV_of (hsl j u hj)
      have hrep : Rep ⟨xs, [], [], [], slsShs ps vs⟩ ⟨w, fun _ => False⟩ ⟨frameOf ps F.ntmps, [], [], total ps, 0, 0, 0, gl, hsE (allK ps) (varsFrom 0 (total ps)), 0⟩ w := by
        refine ⟨BelowX.refl _, rfl, rfl, hxl, rfl, ?_, ?_, ?_, ?_, ?_, ?_, ?_, ⟨hgl, fun _ _ _ hh => hh⟩, ?_⟩
        · intro n b hb; simp at hb
        · intro n b hb; simp at hb
        · intro n m b c hb; simp at hb
        · intro n b hb; simp at hb
        · intro n b hb; simp at hb
        · intro n m b c k hb; simp at hb
        · intro n m b c hb; simp at hb
        · intro i ks c hi
          obtain ⟨ty, hr⟩ := hsE_rows hi
          have hlt : i < (slsShs ps vs).length := by rw [r1]; exact (List.getElem?_eq_some_iff.1 hr).1
          have hu : (slsShs ps vs)[i]? = some (slsShs ps vs)[i] := List.getElem?_eq_getElem hlt
          have := r2 i _ _ hr hu
          show SlN w ks (slV ((slsShs ps vs).getD i undef)) _
          rw [show (slsShs ps vs).getD i undef = (slsShs ps vs)[i] by simp [List.getD, hu], slV_of (hsl i _ hu)]
          exact this
      rw [T.sat_R [] (slsShs ps vs)] at hs
      have hrel : Rel ⟨xs, [], [], [], slsShs ps vs⟩ ⟨w, fun _ => False⟩ ⟨frameOf ps F.ntmps, [], [], total ps, 0, 0, 0, gl, hsE (allK ps) (varsFrom 0 (total ps)), 0⟩ { tmps := vs.toArray ++ Array.replicate (F.ntmps - vs.toArray.size) undef, defers := [] } w := by
        refine ⟨hrep, ?_, rfl⟩
        apply Array.ext'
        have hl : ((shsE argG 0 ps (varsFrom 0 (total ps))).map SV.w).length = vs.length := by rw [← hden]; simp
        rw [Array.toList_append, List.toList_toArray]
        show vs ++ (Array.replicate (F.ntmps - vs.toArray.size) undef).toList = ((((shsE argG 0 ps (varsFrom 0 (total ps))).map SV.w) ++ List.replicate (F.ntmps - ((shsE argG 0 ps (varsFrom 0 (total ps))).map SV.w).length) undefS).map (SV.den ⟨xs, [], [], [], slsShs ps vs⟩))
        rw [List.map_append, hden, hl]
        simp [den_undefS]
      refine callsIn_wide.1 (callsIn_of_wp_marks (F := Fence.wide) (n := 0) hF hb trivial (wpIn_wide.2 ?_))
      exact symR_sound hBI hcal (exec_sound hm (lp := lp) hG fuel) body [] _ [] _ _ w hrel rfl hs
    · exact hs.elim
  · exact hs.elim

theorem Sum.ok_ofRg (hm : P.follows .mixedOrders = true) (hG : Gok P Γ) {gf0 : FuncId} {sz : Nat} (hBI : BackIter P gf0 sz) (hcal : callable P gf0 = true) {lp : St → Code → Option Plan} {s : Sum} {fuel : Nat} {t : T} (ht : symRg P lp s.gl Γ gf0 sz fuel s.fn s.ps s.rs = t)
    (hsh : (s.ps ++ s.rs).all (fun sh => sh.agg || sh.ks.length == 1) = true)
    (hs : ∀ xs : List Int, xs.length = total s.ps → s.pre xs → t.sat Γ [] (fun ys => ys = s.sem xs) [] xs)
    (hl : ∀ xs : List Int, xs.length = total s.ps → s.pre xs → (s.sem xs).length = total s.rs) : s.ok P := by
  subst ht
  refine ⟨fun sh h => ?_, fun xs vs w hgl hx hpre => ⟨hl xs hx.len.1 hpre, ?_⟩⟩
  · have := List.all_eq_true.1 hsh sh h
    simpa using this
  · refine (symRg_sound hm hG hBI hcal w hx (hs xs hx.len.1 hpre) hgl).mono ?_
    rintro e w' ⟨ys, v, rfl, rfl, hv, hb⟩
    exact ⟨v, rfl, hv, hb⟩

theorem Sum.okRg (hm : P.follows .mixedOrders = true) (hG : Gok P Γ) {gf0 : FuncId} {sz : Nat} (hBI : BackIter P gf0 sz) (hcal : callable P gf0 = true) {lp : St → Code → Option Plan} {lv : List (Nat × List (Option Iv))} {gl : List (Nat × List Int)} {fuel : Nat} {outs : List Inf} (ho : outsOK Γ outs) {fn : FuncId} {ps rs : List Sh} {pin : List (Option Iv)} {pre : List Int → Prop} {sem : List Int → List Int} {t : TX}
    (ht : merge (optFL lv outs [] pin (symRg P lp gl Γ gf0 sz fuel fn ps rs)) = t)
    (hsh : (ps ++ rs).all (fun sh => sh.agg || sh.ks.length == 1) = true)
    (hl : ∀ xs : List Int, (sem xs).length = total rs)
    (hpre : ∀ xs, pre xs → vsOK pin xs)
    (hs : ∀ xs : List Int, xs.length = total ps → pre xs → t.sat Γ [] (fun ys => ys = sem xs) [] xs) : (mkP gl fn ps rs pre sem).ok P := by
  subst ht
  exact Sum.ok_ofRg hm hG hBI hcal rfl hsh (fun xs hx hp => optFL_sound ho _ [] pin [] xs factsOK_nil (hpre xs hp) (merge_sat _ _ _ (hs xs hx hp))) (fun xs _ _ => hl xs)
end
#print axioms Sum.okRg
end Go.Sx
