/-
  Symbolic execution: memory, and what becomes of it.
-/
import Derived.Test.YtgcoidbaoigkeaaDoorSwC
namespace Go.Sx
open Go.RowKit

/-- The world when the call began, and the old blocks that may be written. -/
structure Bas where
  w : World
  X : Nat → Prop

/-- A block that may be written. -/
def Bas.may (b : Bas) (k : Nat) : Prop := b.w.heap.size ≤ k ∨ b.X k

/-- What lay when the call began lies as it lay, but for what may be written. -/
structure BelowX (b : Bas) (w : World) : Prop where
  os : w.os = b.w.os
  tape : w.tape = b.w.tape
  output : w.output = b.w.output
  size : b.w.heap.size ≤ w.heap.size
  block : ∀ k, ¬ b.may k → w.heap[k]? = b.w.heap[k]?

theorem BelowX.refl (b : Bas) : BelowX b b.w := ⟨rfl, rfl, rfl, Nat.le_refl _, fun _ _ => rfl⟩
theorem BelowX.grow {b : Bas} {w w' : World} (h : BelowX b w) (k : Below w.heap.size w w') : BelowX b w' :=
  ⟨k.os.trans h.os, k.tape.trans h.tape, k.output.trans h.output, Nat.le_trans h.size k.size, fun i hi => (k.block i (by
    have : ¬ b.w.heap.size ≤ i := fun hh => hi (.inl hh)
    have := h.size
    omega)).trans (h.block i hi)⟩
theorem BelowX.trans {b c : Bas} {w : World} (h : BelowX b c.w) (k : BelowX c w) (hk : ∀ i, c.may i → b.may i) : BelowX b w :=
  ⟨k.os.trans h.os, k.tape.trans h.tape, k.output.trans h.output, Nat.le_trans h.size k.size, fun i hi => (k.block i (fun hh => hi (hk i hh))).trans (h.block i hi)⟩
theorem BelowX.alloc {b : Bas} {w : World} (h : BelowX b w) (o : Obj) : BelowX b (w.alloc o) := h.grow ((Below.refl _ _).alloc (Nat.le_refl _) o)
theorem BelowX.setRow {b : Bas} {w : World} (h : BelowX b w) {g : Nat} (hg : b.may g) (cs : Array Value) : BelowX b (w.setRow g cs) :=
  ⟨h.os, h.tape, h.output, by simpa using h.size, fun i hi => (setRow_other w g i cs (fun e => hi (by rw [e]; exact hg))).trans (h.block i hi)⟩
theorem BelowX.grown {b : Bas} {w w' : World} {row : Option Nat} (h : BelowX b w) (hg : w.grownBy w' row) (hr : ∀ k, row = some k → b.may k) : BelowX b w' :=
  ⟨hg.os.trans h.os, hg.tape.trans h.tape, hg.output.trans h.output, Nat.le_trans h.size hg.size, fun i hi => (hg.block i (by
    have : ¬ b.w.heap.size ≤ i := fun hh => hi (.inl hh)
    have := h.size
    omega) (fun e => hi (hr i e.symm))).trans (h.block i hi)⟩
theorem BelowX.below {w0 w : World} (h : BelowX ⟨w0, fun _ => False⟩ w) : Below w0.heap.size w0 w :=
  ⟨h.os, h.tape, h.output, h.size, fun k hk => h.block k (by rintro (hh | hh); exact absurd hh (by show ¬ w0.heap.size ≤ k; omega); exact hh)⟩
theorem BelowX.cell {b : Bas} {w : World} (h : BelowX b w) {p : Addr} (hp : ¬ b.may p.block) : w.cell? p = b.w.cell? p := World.cell?_of_block (w := b.w) (h.block p.block hp)

/-- The block in which a slice lies. -/
def slBlk (v : Value) : Option Nat := match v with
  | .slice (some a) _ _ => some a.block
  | _ => none
/-- A slice that may be read, apart from all that may be written. -/
def SlX (b : Bas) (ks : List K) (v : Value) (c : Int) : Prop := SlOK b.w ks v c ∧ ∀ k, slBlk v = some k → ¬ b.X k
/-- Package-level variables, apart from all that may be written. -/
def GlX (gl : List (Nat × List Int)) (b : Bas) : Prop := GlOK gl b.w ∧ ∀ p ∈ gl, ¬ b.X p.1

structure Rep (e : Env) (W0 : Bas) (s : St) (w : World) : Prop where
  below : BelowX W0 w
  nb : e.β.length = s.mem.length
  ng : e.σ.length = s.rows.length
  nv : e.r.length = s.nv
  nx : e.ω.length = s.nx
  blk : ∀ n b, s.mem[n]? = some b → b.live = true → w.heap[e.β.getD n 0]? = some (.cells (b.cells.map (SC.den e)).toArray b.ty (0, 0))
  own : ∀ n b, s.mem[n]? = some b → b.live = true → s.fl ≤ n → W0.may (e.β.getD n 0)
  sep : ∀ n m b c, s.mem[n]? = some b → s.mem[m]? = some c → b.live = true → c.live = true → e.β.getD n 0 = e.β.getD m 0 → n = m
  row : ∀ n b, s.rows[n]? = some b → b.live = true → RowOK w b.ty b.ks ((G.o n).val e) (b.c.den e.R e.r)
  rown : ∀ n b, s.rows[n]? = some b → b.live = true → s.flr ≤ n → ∀ k, rowBlk ((G.o n).val e) = some k → W0.may k
  rsep : ∀ n m b c k, s.rows[n]? = some b → s.rows[m]? = some c → b.live = true → c.live = true → rowBlk ((G.o n).val e) = some k → rowBlk ((G.o m).val e) = some k → n = m
  brs : ∀ n m b c, s.mem[n]? = some b → s.rows[m]? = some c → b.live = true → c.live = true → rowBlk ((G.o m).val e) ≠ some (e.β.getD n 0)
  gl : GlX s.gl W0
  arg : ∀ i ks c, s.hs[i]? = some (ks, c) → SlX W0 ks ((G.a i).val e) (c.den e.R e.r)

theorem GlOK.below {gl : List (Nat × List Int)} {B : Nat} {w w' : World} (h : GlOK gl w) (hb : Below B w w') (hB : w.heap.size ≤ B) : GlOK gl w' := by
  intro p hp j n hj
  have h0 := h p hp j n hj
  have hlt := World.block_lt_of_cell? _ _ h0
  rw [hb.cell (p := ⟨p.1, j, none⟩) (Nat.lt_of_lt_of_le hlt hB)]
  exact h0

theorem GlX.now {gl : List (Nat × List Int)} {b : Bas} {w : World} (h : GlX gl b) (hb : BelowX b w) : GlOK gl w := by
  intro p hp j n hj
  have h0 := h.1 p hp j n hj
  have hlt := World.block_lt_of_cell? _ _ h0
  rw [hb.cell (p := ⟨p.1, j, none⟩) (by
    rintro (hh | hh)
    · exact absurd hlt (Nat.not_lt.2 hh)
    · exact h.2 p hp hh)]
  exact h0
theorem Rep.glw {e : Env} {W0 : Bas} {s : St} {w : World} (h : Rep e W0 s w) : GlOK s.gl w := h.gl.now h.below
theorem Rep.glx {e : Env} {W0 : Bas} {s : St} {w : World} (h : Rep e W0 s w) : GlX s.gl ⟨w, W0.X⟩ := ⟨h.glw, h.gl.2⟩

theorem heap_lt {w : World} {n : Nat} {o : Obj} (h : w.heap[n]? = some o) : n < w.heap.size := (Array.getElem?_eq_some_iff.1 h).1

theorem St.scp_spec {s : St} (h : s.scp = true) : (∀ v ∈ s.fr, SV.scp s.mem.length s.rows.length v = true) ∧
    (∀ b ∈ s.mem, b.cells.all (SC.scp s.mem.length s.rows.length) = true) := by
  simp only [St.scp, Bool.and_eq_true] at h
  exact ⟨List.all_eq_true.1 h.1, List.all_eq_true.1 h.2⟩

/-! ### lists in memory -/
theorem SlOK.grown {w w' : World} {ks : List K} {v : Value} {c : Int} {B : Nat} (h : SlOK w ks v c) (hb : Below B w w') (hB : w.heap.size ≤ B) : SlOK w' ks v c := by
  rcases h with h | ⟨b, off, cap, h1, h2, h3, h4, h5⟩
  · exact .inl h
  · refine .inr ⟨b, off, cap, h1, h2, h3, h4, fun j u hj => ?_⟩
    have h0 := h5 j u hj
    rw [hb.cell (p := ⟨b, off + j, none⟩) (Nat.lt_of_lt_of_le (World.block_lt_of_cell? _ _ h0) hB)]
    exact h0

theorem SlX.now {b : Bas} {w : World} {ks : List K} {v : Value} {c : Int} (h : SlX b ks v c) (hb : BelowX b w) : SlOK w ks v c := by
  obtain ⟨h, hx⟩ := h
  rcases h with h | ⟨g, off, cap, h1, h2, h3, h4, h5⟩
  · exact .inl h
  · refine .inr ⟨g, off, cap, h1, h2, h3, h4, fun j u hj => ?_⟩
    have h0 := h5 j u hj
    have hlt := World.block_lt_of_cell? _ _ h0
    rw [hb.cell (p := ⟨g, off + j, none⟩) (by
      rintro (hh | hh)
      · exact absurd hlt (Nat.not_lt.2 hh)
      · exact hx g (by rw [h1]; rfl) hh)]
    exact h0
theorem SlX.next {b : Bas} {w : World} {ks : List K} {v : Value} {c : Int} (h : SlX b ks v c) (hb : BelowX b w) : SlX ⟨w, b.X⟩ ks v c := ⟨h.now hb, h.2⟩

theorem cellsL_length {ks : List K} : ∀ {l : List Int}, (∀ x ∈ l, (elt ks x).length = ks.length) → (cellsL ks l).length = l.length * ks.length
  | [], _ => by simp [cellsL]
  | x :: l, h => by
    have h1 : (mkCells ks (elt ks x)).length = ks.length := by
      have h0 := h x (by simp)
      generalize elt ks x = y at h0
      clear h
      induction ks generalizing y with
      | nil => cases y <;> simp_all [mkCells]
      | cons k ks ih => cases y with
        | nil => simp at h0
        | cons a y => simp only [mkCells, List.length_cons] at h0 ⊢; rw [ih y (by omega)]
    have ih := cellsL_length (ks := ks) (l := l) (fun y hy => h y (by simp [hy]))
    simp only [cellsL, List.flatMap_cons, List.length_append, h1, List.length_cons] at ih ⊢
    rw [ih, Nat.add_mul, Nat.one_mul, Nat.add_comm]

theorem RowOK.kept {w w' : World} {ty : TypeId} {ks : List K} {v : Value} {c : Int} {row : Option Nat} (h : RowOK w ty ks v c) (hg : w.grownBy w' row) (hb : ∀ k, rowBlk v = some k → row ≠ some k) : RowOK w' ty ks v c := by
  rcases h with h | ⟨h0, h1, h2⟩
  · exact .inl h
  · have h3 := h2
    rcases h2.2 with ⟨hv, hn⟩ | ⟨g, cap, cur, hv, _, hc, hle, hm, hsz, ht⟩
    · exact .inl ⟨List.eq_nil_of_length_eq_zero hn, .inl hv⟩
    · by_cases hcap : cap = 0
      · subst hcap
        have hl : (dec c).length = 0 := by omega
        exact .inl ⟨List.eq_nil_of_length_eq_zero hl, .inr ⟨g, 0, by rw [hv, hl]⟩⟩
      · refine .inr ⟨h0, h1, h3.kept hg (.inr ?_)⟩
        have := hb g (by rw [hv]; simp [rowBlk, hcap])
        rw [hv]
        exact fun hh => this hh.symm

theorem RowOK.sl {w : World} {ty : TypeId} {ks : List K} {v : Value} {c : Int} (h : RowOK w ty ks v c) : SlOK w ks v c := by
  rcases h with ⟨h1, h2 | ⟨b, off, h2⟩⟩ | ⟨h0, h1, h2⟩
  · exact .inl ⟨h2, h1⟩
  · exact .inr ⟨b, off, 0, by rw [h2, h1]; rfl, by rw [h1]; exact Nat.le_refl _, by simp, by rw [h1]; simp, by rw [h1]; simp [cellsL]⟩
  · have h3 := h2
    rcases h2.2 with ⟨hv, hn⟩ | ⟨g, cap, cur, hv, _, hc, hle, hm, hsz, ht⟩
    · exact .inl ⟨hv, List.eq_nil_of_length_eq_zero hn⟩
    · refine .inr ⟨g, 0, cap, hv, hle, hm, h1, fun j u hj => ?_⟩
      have := h3.cells (g := g) (by rw [hv]; rfl) j u hj
      rwa [Addr.add_lit] at this

theorem RowOK.blk_lt {w : World} {ty : TypeId} {ks : List K} {v : Value} {c : Int} (h : RowOK w ty ks v c) {k : Nat} (hk : rowBlk v = some k) : k < w.heap.size := by
  rcases h with ⟨h1, h2 | ⟨b, off, h2⟩⟩ | ⟨h0, h1, h2⟩
  · rw [h2] at hk; cases hk
  · rw [h2] at hk; simp [rowBlk] at hk
  · rcases h2.2 with ⟨hv, hn⟩ | ⟨g, cap, cur, hv, _, hc, hle, hm, hsz, ht⟩
    · rw [hv] at hk; cases hk
    · rw [hv] at hk
      simp only [rowBlk] at hk
      split at hk
      · cases hk
      · simp only [Option.some.injEq] at hk
        subst hk
        exact heap_lt hc

theorem slV_slice (a : Option Addr) (l c : Nat) : slV (.slice a l c) = .slice a l c := rfl
theorem G.val_slice (e : Env) (g : G) : ∃ a l c, g.val e = .slice a l c := by
  have : ∀ v, ∃ a l c, slV v = .slice a l c := by
    intro v
    unfold slV
    split
    · exact ⟨_, _, _, rfl⟩
    · exact ⟨_, _, _, rfl⟩
  cases g <;> exact this _

theorem Rep.gread {e : Env} {W0 : Bas} {s : St} {w : World} (h : Rep e W0 s w) {g : G} {ks : List K} {c : E} (hg : gcode s g = some (ks, c)) : SlOK w ks (g.val e) (c.den e.R e.r) := by
  cases g with
  | a i => exact (h.arg i ks c hg).now h.below
  | o n =>
    simp only [gcode] at hg
    split at hg
    · rename_i b hb
      split at hg
      · rename_i hl
        simp only [Option.some.injEq, Prod.mk.injEq] at hg
        obtain ⟨rfl, rfl⟩ := hg
        exact (h.row n b hb hl).sl
      · cases hg
    · cases hg

/-- A new block. -/
theorem Rep.alloc {e : Env} {W0 : Bas} {s : St} {w : World} (h : Rep e W0 s w) (t : TypeId) (cells : List SC)
    (hs : s.scp = true) (hc : cells.all (SC.scp s.mem.length s.rows.length) = true) :
    Rep { e with β := e.β ++ [w.heap.size] } W0 { s with mem := s.mem ++ [⟨t, cells, true⟩] } (w.alloc (.cells (cells.map (SC.den e)).toArray t)) ∧
    Env.like s.mem.length s.rows.length e { e with β := e.β ++ [w.heap.size] } := by
  obtain ⟨hf, hm⟩ := St.scp_spec hs
  have hlike : Env.like s.mem.length s.rows.length e { e with β := e.β ++ [w.heap.size] } :=
    ⟨rfl, rfl, rfl, fun n hn => getD_app_lt _ _ _ _ (by rw [h.nb]; exact hn), fun _ _ => rfl⟩
  refine ⟨?_, hlike⟩
  have hnew : (e.β ++ [w.heap.size]).getD s.mem.length 0 = w.heap.size := by
    simp [List.getD, ← h.nb]
  have hold : ∀ n, n < s.mem.length → (e.β ++ [w.heap.size]).getD n 0 = e.β.getD n 0 := fun n hn => hlike.β n hn
  have hcases : ∀ n b, (s.mem ++ [(⟨t, cells, true⟩ : Blk)])[n]? = some b → (n < s.mem.length ∧ s.mem[n]? = some b) ∨ (n = s.mem.length ∧ b = ⟨t, cells, true⟩) := by
    intro n b hb
    rcases Nat.lt_trichotomy n s.mem.length with hn | hn | hn
    · exact .inl ⟨hn, by rwa [List.getElem?_append_left hn] at hb⟩
    · subst hn; simp at hb; exact .inr ⟨rfl, hb.symm⟩
    · rw [List.getElem?_eq_none (by simp; omega)] at hb; cases hb
  have hlt : ∀ n b, s.mem[n]? = some b → b.live = true → e.β.getD n 0 < w.heap.size := fun n b hb hl => heap_lt (h.blk n b hb hl)
  refine ⟨?_, ?_, ?_, ?_, ?_, ?_, ?_, ?_, ?_, ?_, ?_, ?_, h.gl, h.arg⟩
  · exact h.below.alloc _
  · simp [h.nb]
  · exact h.ng
  · exact h.nv
  · exact h.nx
  · intro n b hb hl
    rcases hcases n b hb with ⟨hn, hb'⟩ | ⟨rfl, rfl⟩
    · show (w.alloc _).heap[(e.β ++ [w.heap.size]).getD n 0]? = _
      rw [hold n hn, Below.heap_alloc _ _ _ (hlt n b hb' hl), h.blk n b hb' hl, map_den_like hlike (hm b (List.mem_of_getElem? hb'))]
    · show (w.alloc _).heap[(e.β ++ [w.heap.size]).getD s.mem.length 0]? = _
      rw [hnew, map_den_like hlike hc]
      exact heap_alloc_new w _
  · intro n b hb hl hn'
    rcases hcases n b hb with ⟨hn, hb'⟩ | ⟨rfl, rfl⟩
    · show W0.may ((e.β ++ [w.heap.size]).getD n 0)
      rw [hold n hn]; exact h.own n b hb' hl hn'
    · show W0.may ((e.β ++ [w.heap.size]).getD s.mem.length 0)
      rw [hnew]; exact .inl h.below.size
  · intro n m b c hb hc' hlb hlc heq
    have heq' : (e.β ++ [w.heap.size]).getD n 0 = (e.β ++ [w.heap.size]).getD m 0 := heq
    rcases hcases n b hb with ⟨hn, hb'⟩ | ⟨rfl, rfl⟩ <;> rcases hcases m c hc' with ⟨hm', hc''⟩ | ⟨rfl, rfl⟩
    · rw [hold n hn, hold m hm'] at heq'
      exact h.sep n m b c hb' hc'' hlb hlc heq'
    · rw [hold n hn, hnew] at heq'
      have := hlt n b hb' hlb
      omega
    · rw [hold m hm', hnew] at heq'
      have := hlt m c hc'' hlc
      omega
    · rfl
  · intro n b hb hl
    exact (h.row n b hb hl).kept (World.grownBy_alloc w _ none) (fun k _ hk => by cases hk)
  · exact h.rown
  · exact h.rsep
  · intro n m b c hb hc' hlb hlc
    rcases hcases n b hb with ⟨hn, hb'⟩ | ⟨rfl, rfl⟩
    · show _ ≠ some ((e.β ++ [w.heap.size]).getD n 0)
      rw [hold n hn]; exact h.brs n m b c hb' hc' hlb hlc
    · show _ ≠ some ((e.β ++ [w.heap.size]).getD s.mem.length 0)
      rw [hnew]
      intro hk
      have := (h.row m c hc' hlc).blk_lt hk
      omega

theorem RowOK.setRow_other {w : World} {ty : TypeId} {ks : List K} {v : Value} {c : Int} (h : RowOK w ty ks v c) (g : Nat) (cs : Array Value) (hg : rowBlk v ≠ some g) : RowOK (w.setRow g cs) ty ks v c :=
  h.kept (row := some g) ⟨rfl, rfl, rfl, by simp, fun k _ hk => Go.setRow_other w g k cs (fun h => hk (by rw [h]))⟩ (fun k hk hh => hg (by rw [hk, hh]))

theorem mem_set_cases {α : Type} {l : List α} {n m : Nat} {x y : α} (h : (l.set n x)[m]? = some y) : (m = n ∧ y = x ∧ n < l.length) ∨ (m ≠ n ∧ l[m]? = some y) := by
  rw [List.getElem?_set] at h
  split at h
  · rename_i hh
    subst hh
    split at h
    · exact .inl ⟨rfl, by simpa using h.symm, by assumption⟩
    · cases h
  · exact .inr ⟨fun hh => by simp_all, h⟩

/-- A block's cells written. -/
theorem Rep.store {e : Env} {W0 : Bas} {s : St} {w : World} (h : Rep e W0 s w) {n : Nat} {b : Blk} (hb : s.mem[n]? = some b) (hl : b.live = true) (hf : s.fl ≤ n) (cs : List SC) :
    Rep e W0 { s with mem := s.mem.set n { b with cells := cs } } (w.setRow (e.β.getD n 0) (cs.map (SC.den e)).toArray) := by
  have hcases : ∀ m c, (s.mem.set n { b with cells := cs })[m]? = some c → (m = n ∧ c = { b with cells := cs }) ∨ (m ≠ n ∧ s.mem[m]? = some c) := fun m c hm => by
    rcases mem_set_cases hm with ⟨h1, h2, _⟩ | h2
    · exact .inl ⟨h1, h2⟩
    · exact .inr h2
  refine ⟨?_, ?_, ?_, ?_, ?_, ?_, ?_, ?_, ?_, ?_, ?_, ?_, h.gl, h.arg⟩
  · exact h.below.setRow (h.own n b hb hl hf) _
  · simpa using h.nb
  · exact h.ng
  · exact h.nv
  · exact h.nx
  · intro m c hc hlc
    rcases hcases m c hc with ⟨rfl, rfl⟩ | ⟨hne, hc'⟩
    · exact setRow_heap w _ _ _ _ _ (h.blk m b hb hl)
    · rw [setRow_other w _ _ _ (fun heq => hne (h.sep m n c b hc' hb hlc hl heq))]
      exact h.blk m c hc' hlc
  · intro m c hc hlc hfm
    rcases hcases m c hc with ⟨rfl, rfl⟩ | ⟨hne, hc'⟩
    · exact h.own m b hb hl hf
    · exact h.own m c hc' hlc hfm
  · intro m k c d hc hd hlc hld heq
    rcases hcases m c hc with ⟨rfl, rfl⟩ | ⟨hne, hc'⟩ <;> rcases hcases k d hd with ⟨rfl, rfl⟩ | ⟨hne', hd'⟩
    · rfl
    · exact h.sep _ _ b d hb hd' hl hld heq
    · exact h.sep _ _ c b hc' hb hlc hl heq
    · exact h.sep _ _ c d hc' hd' hlc hld heq
  · intro m c hc hlc
    exact (h.row m c hc hlc).setRow_other _ _ (h.brs n m b c hb hc hl hlc)
  · exact h.rown
  · exact h.rsep
  · intro m k c d hc hd hlc hld
    rcases hcases m c hc with ⟨rfl, rfl⟩ | ⟨hne, hc'⟩
    · exact h.brs m k b d hb hd hl hld
    · exact h.brs m k c d hc' hd hlc hld

/-- An element of a row written: its cells in the block. -/
theorem Rep.storeRow {e : Env} {W0 : Bas} {s : St} {w : World} (h : Rep e W0 s w) {n : Nat} {b : Row} (hb : s.rows[n]? = some b) (hl : b.live = true) (hf : s.flr ≤ n)
    {g : Nat} (hob : rowBlk ((G.o n).val e) = some g) {x : E} (cs : Array Value) (hrow : RowOK (w.setRow g cs) b.ty b.ks ((G.o n).val e) (x.den e.R e.r)) :
    Rep e W0 { s with rows := s.rows.set n { b with c := x } } (w.setRow g cs) := by
  have hcases : ∀ m c, (s.rows.set n { b with c := x })[m]? = some c → (m = n ∧ c = { b with c := x }) ∨ (m ≠ n ∧ s.rows[m]? = some c) := fun m c hm => by
    rcases mem_set_cases hm with ⟨h1, h2, _⟩ | h2
    · exact .inl ⟨h1, h2⟩
    · exact .inr h2
  refine ⟨?_, h.nb, ?_, h.nv, h.nx, ?_, h.own, h.sep, ?_, ?_, ?_, ?_, h.gl, h.arg⟩
  · exact h.below.setRow (h.rown n b hb hl hf g hob) _
  · simpa using h.ng
  · intro m c hc hlc
    rw [setRow_other w _ _ _ (fun heq => h.brs m n c b hc hb hlc hl (by rw [hob, heq]))]
    exact h.blk m c hc hlc
  · intro m c hc hlc
    rcases hcases m c hc with ⟨rfl, rfl⟩ | ⟨hne, hc'⟩
    · exact hrow
    · exact (h.row m c hc' hlc).setRow_other _ _ (fun hk => hne (h.rsep m n c b g hc' hb hlc hl hk hob))
  · intro m c hc hlc hfm k hk
    rcases hcases m c hc with ⟨rfl, rfl⟩ | ⟨hne, hc'⟩
    · exact h.rown m b hb hl hf k hk
    · exact h.rown m c hc' hlc hfm k hk
  · intro m k c d j hc hd hlc hld
    rcases hcases m c hc with ⟨rfl, rfl⟩ | ⟨hne, hc'⟩ <;> rcases hcases k d hd with ⟨rfl, rfl⟩ | ⟨hne', hd'⟩
    · exact fun _ _ => rfl
    · exact h.rsep _ _ b d j hb hd' hl hld
    · exact h.rsep _ _ c b j hc' hb hlc hl
    · exact h.rsep _ _ c d j hc' hd' hlc hld
  · intro m k c d hc hd hlc hld
    rcases hcases k d hd with ⟨rfl, rfl⟩ | ⟨hne, hd'⟩
    · exact h.brs m k c b hc hb hlc hl
    · exact h.brs m k c d hc hd' hlc hld

/-- An own row that is not empty lies in a block. -/
theorem RowOK.block {w : World} {ty : TypeId} {ks : List K} {v : Value} {c : Int} (h : RowOK w ty ks v c) (hn : dec c ≠ []) :
    ∃ g cap cur, v = .slice (some ⟨g, 0, none⟩) (dec c).length cap ∧ rowBlk v = some g ∧ ks.length ≠ 0 ∧ (∀ x ∈ dec c, (elt ks x).length = ks.length) ∧ w.heap[g]? = some (.cells cur ty (0, 0)) ∧ (dec c).length ≤ cap ∧ cap ≤ maxLen ∧
      cur.size = cap * ks.length ∧ cur.toList.take ((dec c).length * ks.length) = cellsL ks (dec c) := by
  rcases h with ⟨h1, _⟩ | ⟨h0, h1, h2⟩
  · exact absurd h1 hn
  · rcases h2.2 with ⟨hv, hl⟩ | ⟨g, cap, cur, hv, _, hc, hle, hm, hsz, ht⟩
    · exact absurd (List.eq_nil_of_length_eq_zero hl) hn
    · have hpos : 0 < (dec c).length := List.length_pos_iff.2 hn
      have : cap ≠ 0 := by omega
      exact ⟨g, cap, cur, hv, by rw [hv]; simp [rowBlk, this], h0, h1, hc, hle, hm, hsz, ht⟩

theorem cellsL_app (ks : List K) (a b : List Int) : cellsL ks (a ++ b) = cellsL ks a ++ cellsL ks b := by simp [cellsL]

theorem cellsL_set {ks : List K} {x : Int} (hx : (elt ks x).length = ks.length) : ∀ {l : List Int} (i : Nat), (∀ y ∈ l, (elt ks y).length = ks.length) → i < l.length →
    cellsL ks (l.set i x) = (cellsL ks l).take (i * ks.length) ++ mkCells ks (elt ks x) ++ (cellsL ks l).drop (i * ks.length + ks.length)
  | [], _, _, hi => by simp at hi
  | y :: l, 0, h, _ => by
    have h1 : (mkCells ks (elt ks y)).length = ks.length := by
      have := cellsL_length (ks := ks) (l := [y]) (by simpa using h y (by simp))
      simpa [cellsL] using this
    simp only [List.set_cons_zero, Nat.zero_mul, List.take_zero, Nat.zero_add, List.nil_append]
    simp only [cellsL, List.flatMap_cons]
    rw [← h1, List.drop_left]
  | y :: l, i + 1, h, hi => by
    have h1 : (mkCells ks (elt ks y)).length = ks.length := by
      have := cellsL_length (ks := ks) (l := [y]) (by simpa using h y (by simp))
      simpa [cellsL] using this
    have ih := cellsL_set hx (l := l) i (fun z hz => h z (by simp [hz])) (by simpa using hi)
    simp only [List.set_cons_succ]
    simp only [cellsL, List.flatMap_cons] at ih ⊢
    rw [ih]
    have e1 : (i + 1) * ks.length = (mkCells ks (elt ks y)).length + i * ks.length := by rw [h1, Nat.add_mul, Nat.one_mul, Nat.add_comm]
    rw [e1, List.take_append, Nat.add_assoc, List.drop_append]
    simp [List.take_of_length_le, List.drop_of_length_le]

end Go.Sx
