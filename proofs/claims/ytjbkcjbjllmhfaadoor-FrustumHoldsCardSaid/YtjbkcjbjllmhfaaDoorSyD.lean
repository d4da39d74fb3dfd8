/-
  Symbolic execution: memory, and what becomes of it.
-/
import Derived.Test.YtjbkcjbjllmhfaaDoorSyC
namespace Go.Sx
open Go.RowKit

structure Rep (e : Env) (W0 : World) (s : St) (w : World) : Prop where
  below : Below W0.heap.size W0 w
  nb : e.β.length = s.mem.length
  ng : e.σ.length = s.rows.length
  nv : e.r.length = s.nv
  nx : e.ω.length = s.nx
  blk : ∀ n b, s.mem[n]? = some b → b.live = true → w.heap[e.β.getD n 0]? = some (.cells (b.cells.map (SC.den e)).toArray b.ty (0, 0))
  own : ∀ n b, s.mem[n]? = some b → b.live = true → s.fl ≤ n → W0.heap.size ≤ e.β.getD n 0
  sep : ∀ n m b c, s.mem[n]? = some b → s.mem[m]? = some c → b.live = true → c.live = true → e.β.getD n 0 = e.β.getD m 0 → n = m
  row : ∀ n b, s.rows[n]? = some b → b.live = true → w.ownsRow 0 b.ty b.size (e.σ.getD n undef) b.len (b.cells.map (SC.den e))
  rown : ∀ n b, s.rows[n]? = some b → b.live = true → s.flr ≤ n → ∀ k, (e.σ.getD n undef).ownBlock = some k → W0.heap.size ≤ k
  rsep : ∀ n m b c k, s.rows[n]? = some b → s.rows[m]? = some c → b.live = true → c.live = true → (e.σ.getD n undef).ownBlock = some k → (e.σ.getD m undef).ownBlock = some k → n = m
  brs : ∀ n m b c, s.mem[n]? = some b → s.rows[m]? = some c → b.live = true → c.live = true → (e.σ.getD m undef).ownBlock ≠ some (e.β.getD n 0)
  sl : ∀ n, n < e.σ.length → ∃ a l c, e.σ.getD n undef = .slice a l c
  reg : ∀ i j, j < (regOf e.R i).size → W0.cell? ⟨(regOf e.R i).blk, (regOf e.R i).off + j, none⟩ = some (.int .i64 ((regOf e.R i).φ j))
  gl : GlOK s.gl W0

theorem GlOK.below {gl : List (Nat × List Int)} {B : Nat} {w w' : World} (h : GlOK gl w) (hb : Below B w w') (hB : w.heap.size ≤ B) : GlOK gl w' := by
  intro p hp j n hj
  have h0 := h p hp j n hj
  have hlt := World.block_lt_of_cell? _ _ h0
  rw [hb.cell (p := ⟨p.1, j, none⟩) (Nat.lt_of_lt_of_le hlt hB)]
  exact h0

theorem Rep.glw {e : Env} {W0 : World} {s : St} {w : World} (h : Rep e W0 s w) : GlOK s.gl w := h.gl.below h.below (Nat.le_refl _)

theorem Rep.regw {e : Env} {W0 : World} {s : St} {w : World} (h : Rep e W0 s w) (i j : Nat) (hj : j < (regOf e.R i).size) :
    w.cell? ⟨(regOf e.R i).blk, (regOf e.R i).off + j, none⟩ = some (.int .i64 ((regOf e.R i).φ j)) := by
  have h0 := h.reg i j hj
  rw [h.below.cell (p := ⟨(regOf e.R i).blk, (regOf e.R i).off + j, none⟩) (World.block_lt_of_cell? _ _ h0)]
  exact h0

theorem heap_lt {w : World} {n : Nat} {o : Obj} (h : w.heap[n]? = some o) : n < w.heap.size := (Array.getElem?_eq_some_iff.1 h).1

theorem St.scp_spec {s : St} (h : s.scp = true) : (∀ v ∈ s.fr, SV.scp s.mem.length s.rows.length v = true) ∧
    (∀ b ∈ s.mem, b.cells.all (SC.scp s.mem.length s.rows.length) = true) ∧ (∀ b ∈ s.rows, b.cells.all (SC.scp s.mem.length s.rows.length) = true) := by
  simp only [St.scp, Bool.and_eq_true] at h
  exact ⟨List.all_eq_true.1 h.1.1, List.all_eq_true.1 h.1.2, List.all_eq_true.1 h.2⟩

theorem ownsRow_alloc {w : World} {e : TypeId} {size : Nat} {v : Value} {n : Nat} {xs : List Value} (h : w.ownsRow 0 e size v n xs) (o : Obj) : (w.alloc o).ownsRow 0 e size v n xs := h.alloc o

theorem ownsRow_block_lt {w : World} {e : TypeId} {size : Nat} {v : Value} {n : Nat} {xs : List Value} (h : w.ownsRow 0 e size v n xs) {k : Nat} (hk : v.ownBlock = some k) : k < w.heap.size := (h.lt k hk).2

/-- A new block. -/
theorem Rep.alloc {e : Env} {W0 : World} {s : St} {w : World} (h : Rep e W0 s w) (t : TypeId) (cells : List SC)
    (hs : s.scp = true) (hc : cells.all (SC.scp s.mem.length s.rows.length) = true) :
    Rep { e with β := e.β ++ [w.heap.size] } W0 { s with mem := s.mem ++ [⟨t, cells, true⟩] } (w.alloc (.cells (cells.map (SC.den e)).toArray t)) ∧
    Env.like s.mem.length s.rows.length e { e with β := e.β ++ [w.heap.size] } := by
  obtain ⟨hf, hm, hr⟩ := St.scp_spec hs
  have hlike : Env.like s.mem.length s.rows.length e { e with β := e.β ++ [w.heap.size] } :=
    ⟨rfl, rfl, rfl, fun n hn => getD_app_lt _ _ _ _ (by rw [h.nb]; exact hn), fun _ _ => rfl⟩
  refine ⟨?_, hlike⟩
  have hnew : (e.β ++ [w.heap.size]).getD s.mem.length 0 = w.heap.size := by
    simp [List.getD, ← h.nb]
  have hold : ∀ n, n < s.mem.length → (e.β ++ [w.heap.size]).getD n 0 = e.β.getD n 0 := fun n hn => hlike.β n hn
  have hcases : ∀ n b, (s.mem ++ [(⟨t, cells, true⟩ : Blk)])[n]? = some b → (n < s.mem.length ∧ s.mem[n]? = some b) ∨ (n = s.mem.length ∧ b = ⟨t, cells, true⟩) := by
    intro n b hb
    rcases Nat.lt_trichotomy n s.mem.length with hn | hn | hn
    · exact .inl ⟨hn, by rwa [List.getElem?_append_left hn] at hb⟩
    · subst hn; simp at hb; exact .inr ⟨rfl, hb.symm⟩
    · rw [List.getElem?_eq_none (by simp; omega)] at hb; cases hb
  have hlt : ∀ n b, s.mem[n]? = some b → b.live = true → e.β.getD n 0 < w.heap.size := fun n b hb hl => heap_lt (h.blk n b hb hl)
  refine ⟨?_, ?_, ?_, ?_, ?_, ?_, ?_, ?_, ?_, ?_, ?_, ?_, ?_, ?_, ?_⟩
  · exact h.below.alloc h.below.size _
  · simp [h.nb]
  · exact h.ng
  · exact h.nv
  · exact h.nx
  · intro n b hb hl
    rcases hcases n b hb with ⟨hn, hb'⟩ | ⟨rfl, rfl⟩
    · show (w.alloc _).heap[(e.β ++ [w.heap.size]).getD n 0]? = _
      rw [hold n hn, Below.heap_alloc _ _ _ (hlt n b hb' hl), h.blk n b hb' hl, map_den_like hlike (hm b (List.mem_of_getElem? hb'))]
    · show (w.alloc _).heap[(e.β ++ [w.heap.size]).getD s.mem.length 0]? = _
      rw [hnew, map_den_like hlike hc]
      exact heap_alloc_new w _
  · intro n b hb hl hn'
    rcases hcases n b hb with ⟨hn, hb'⟩ | ⟨rfl, rfl⟩
    · show W0.heap.size ≤ (e.β ++ [w.heap.size]).getD n 0
      rw [hold n hn]; exact h.own n b hb' hl hn'
    · show W0.heap.size ≤ (e.β ++ [w.heap.size]).getD s.mem.length 0
      rw [hnew]; exact h.below.size
  · intro n m b c hb hc' hlb hlc heq
    have heq' : (e.β ++ [w.heap.size]).getD n 0 = (e.β ++ [w.heap.size]).getD m 0 := heq
    rcases hcases n b hb with ⟨hn, hb'⟩ | ⟨rfl, rfl⟩ <;> rcases hcases m c hc' with ⟨hm', hc''⟩ | ⟨rfl, rfl⟩
    · rw [hold n hn, hold m hm'] at heq'
      exact h.sep n m b c hb' hc'' hlb hlc heq'
    · rw [hold n hn, hnew] at heq'
      have := hlt n b hb' hlb
      omega
    · rw [hold m hm', hnew] at heq'
      have := hlt m c hc'' hlc
      omega
    · rfl
  · intro n b hb hl
    have := (h.row n b hb hl).alloc (.cells (cells.map (SC.den e)).toArray t)
    rw [map_den_like hlike (hr b (List.mem_of_getElem? hb))]
    exact this
  · exact h.rown
  · exact h.rsep
  · intro n m b c hb hc' hlb hlc
    rcases hcases n b hb with ⟨hn, hb'⟩ | ⟨rfl, rfl⟩
    · show _ ≠ some ((e.β ++ [w.heap.size]).getD n 0)
      rw [hold n hn]; exact h.brs n m b c hb' hc' hlb hlc
    · show _ ≠ some ((e.β ++ [w.heap.size]).getD s.mem.length 0)
      rw [hnew]
      intro hk
      have := ownsRow_block_lt (h.row m c hc' hlc) hk
      omega
  · exact h.sl
  · exact h.reg
  · exact h.gl

theorem below_setRow {B : Nat} {a w : World} (h : Below B a w) {g : Nat} (hg : B ≤ g) (cs : Array Value) : Below B a (w.setRow g cs) :=
  h.trans ⟨rfl, rfl, rfl, by simp, fun k hk => setRow_other w g k cs (by omega)⟩

theorem ownsRow_setRow_other {w : World} {e : TypeId} {size : Nat} {v : Value} {n : Nat} {xs : List Value} (h : w.ownsRow 0 e size v n xs) (g : Nat) (cs : Array Value) (hg : v.ownBlock ≠ some g) : (w.setRow g cs).ownsRow 0 e size v n xs :=
  h.kept (row := some g) ⟨rfl, rfl, rfl, by simp, fun k _ hk => setRow_other w g k cs (fun h => hk (by rw [h]))⟩ (.inr hg)

theorem mem_set_cases {α : Type} {l : List α} {n m : Nat} {x y : α} (h : (l.set n x)[m]? = some y) : (m = n ∧ y = x ∧ n < l.length) ∨ (m ≠ n ∧ l[m]? = some y) := by
  rw [List.getElem?_set] at h
  split at h
  · rename_i hh
    subst hh
    split at h
    · exact .inl ⟨rfl, by simpa using h.symm, by assumption⟩
    · cases h
  · exact .inr ⟨fun hh => by simp_all, h⟩

/-- A block's cells written. -/
theorem Rep.store {e : Env} {W0 : World} {s : St} {w : World} (h : Rep e W0 s w) {n : Nat} {b : Blk} (hb : s.mem[n]? = some b) (hl : b.live = true) (hf : s.fl ≤ n) (cs : List SC) :
    Rep e W0 { s with mem := s.mem.set n { b with cells := cs } } (w.setRow (e.β.getD n 0) (cs.map (SC.den e)).toArray) := by
  have hcases : ∀ m c, (s.mem.set n { b with cells := cs })[m]? = some c → (m = n ∧ c = { b with cells := cs }) ∨ (m ≠ n ∧ s.mem[m]? = some c) := fun m c hm => by
    rcases mem_set_cases hm with ⟨h1, h2, _⟩ | h2
    · exact .inl ⟨h1, h2⟩
    · exact .inr h2
  refine ⟨?_, ?_, ?_, ?_, ?_, ?_, ?_, ?_, ?_, ?_, ?_, ?_, ?_, ?_, ?_⟩
  · exact below_setRow h.below (h.own n b hb hl hf) _
  · simpa using h.nb
  · exact h.ng
  · exact h.nv
  · exact h.nx
  · intro m c hc hlc
    rcases hcases m c hc with ⟨rfl, rfl⟩ | ⟨hne, hc'⟩
    · exact setRow_heap w _ _ _ _ _ (h.blk m b hb hl)
    · rw [setRow_other w _ _ _ (fun heq => hne (h.sep m n c b hc' hb hlc hl heq))]
      exact h.blk m c hc' hlc
  · intro m c hc hlc hfm
    rcases hcases m c hc with ⟨rfl, rfl⟩ | ⟨hne, hc'⟩
    · exact h.own m b hb hl hf
    · exact h.own m c hc' hlc hfm
  · intro m k c d hc hd hlc hld heq
    rcases hcases m c hc with ⟨rfl, rfl⟩ | ⟨hne, hc'⟩ <;> rcases hcases k d hd with ⟨rfl, rfl⟩ | ⟨hne', hd'⟩
    · rfl
    · exact h.sep _ _ b d hb hd' hl hld heq
    · exact h.sep _ _ c b hc' hb hlc hl heq
    · exact h.sep _ _ c d hc' hd' hlc hld heq
  · intro m c hc hlc
    exact ownsRow_setRow_other (h.row m c hc hlc) _ _ (h.brs n m b c hb hc hl hlc)
  · exact h.rown
  · exact h.rsep
  · intro m k c d hc hd hlc hld
    rcases hcases m c hc with ⟨rfl, rfl⟩ | ⟨hne, hc'⟩
    · exact h.brs m k b d hb hd hl hld
    · exact h.brs m k c d hc' hd hlc hld
  · exact h.sl
  · exact h.reg
  · exact h.gl

/-- A row's elements written. -/
theorem Rep.storeRow {e : Env} {W0 : World} {s : St} {w : World} (h : Rep e W0 s w) {n : Nat} {b : Row} (hb : s.rows[n]? = some b) (hl : b.live = true) (hf : s.flr ≤ n)
    {g cap : Nat} {cur : Array Value} (hv : e.σ.getD n undef = .slice (some ⟨g, 0, none⟩) b.len cap) (hg : w.heap[g]? = some (.cells cur b.ty (0, 0))) (hcap : b.len ≤ cap) (hm : cap ≤ maxLen) (hsz : cur.size = cap * b.size)
    (htake : cur.toList.take (b.len * b.size) = b.cells.map (SC.den e)) (off : Nat) (new : List SC) (hoff : off + new.length ≤ b.cells.length) :
    Rep e W0 { s with rows := s.rows.set n { b with cells := setAt b.cells off new } } (w.setRow g (cur.toList.take off ++ new.map (SC.den e) ++ cur.toList.drop (off + new.length)).toArray) := by
  have hob : (e.σ.getD n undef).ownBlock = some g := by rw [hv]; rfl
  have hcases : ∀ m c, (s.rows.set n { b with cells := setAt b.cells off new })[m]? = some c → (m = n ∧ c = { b with cells := setAt b.cells off new }) ∨ (m ≠ n ∧ s.rows[m]? = some c) := fun m c hm => by
    rcases mem_set_cases hm with ⟨h1, h2, _⟩ | h2
    · exact .inl ⟨h1, h2⟩
    · exact .inr h2
  have hlen : b.cells.length = b.len * b.size := by
    have := (h.row n b hb hl).1; simpa using this
  have hcurlen : cur.toList.length = cap * b.size := by simpa using hsz
  have hle : b.len * b.size ≤ cap * b.size := Nat.mul_le_mul_right _ hcap
  refine ⟨?_, ?_, ?_, ?_, ?_, ?_, ?_, ?_, ?_, ?_, ?_, ?_, ?_, ?_, ?_⟩
  · exact below_setRow h.below (h.rown n b hb hl hf g hob) _
  · exact h.nb
  · simpa using h.ng
  · exact h.nv
  · exact h.nx
  · intro m c hc hlc
    rw [setRow_other w _ _ _ (fun heq => h.brs m n c b hc hb hlc hl (by rw [hob, heq]))]
    exact h.blk m c hc hlc
  · exact h.own
  · exact h.sep
  · intro m c hc hlc
    rcases hcases m c hc with ⟨rfl, rfl⟩ | ⟨hne, hc'⟩
    · refine ⟨?_, .inr ⟨g, cap, _, hv, Nat.zero_le _, setRow_heap w g cur _ _ _ hg, hcap, hm, ?_, ?_⟩⟩
      · simp only [List.length_map, setAt, List.length_append, List.length_take, List.length_drop]
        omega
      · simp only [List.size_toArray, List.length_append, List.length_take, List.length_drop, List.length_map, hcurlen]
        omega
      · simp only [setAt, List.map_append, List.map_take, List.map_drop, ← htake]
        apply List.ext_getElem?
        intro j
        simp only [List.getElem?_take, List.getElem?_append, List.length_append, List.length_take, List.length_map, List.getElem?_drop, hcurlen]
        rw [hlen] at hoff
        rw [Nat.min_eq_left (by omega), Nat.min_eq_left (by omega)]
        by_cases h1 : j < off
        · simp only [h1, if_true]
          rw [if_pos (by omega), if_pos (by omega), if_pos (by omega), if_pos (by omega)]
        · by_cases h2 : j < off + new.length
          · simp only [h1, h2, if_true, if_false]
            rw [if_pos (by omega)]
          · simp only [h2, if_false]
            by_cases h3 : j < b.len * b.size
            · rw [if_pos h3, if_pos (by omega)]
            · rw [if_neg h3, if_neg (by omega)]
    · refine ownsRow_setRow_other (h.row m c hc' hlc) _ _ (fun hk => hne (h.rsep m n c b g hc' hb hlc hl hk hob))
  · intro m c hc hlc hfm k hk
    rcases hcases m c hc with ⟨rfl, rfl⟩ | ⟨hne, hc'⟩
    · exact h.rown m b hb hl hf k hk
    · exact h.rown m c hc' hlc hfm k hk
  · intro m k c d j hc hd hlc hld
    rcases hcases m c hc with ⟨rfl, rfl⟩ | ⟨hne, hc'⟩ <;> rcases hcases k d hd with ⟨rfl, rfl⟩ | ⟨hne', hd'⟩
    · exact fun _ _ => rfl
    · exact h.rsep _ _ b d j hb hd' hl hld
    · exact h.rsep _ _ c b j hc' hb hlc hl
    · exact h.rsep _ _ c d j hc' hd' hlc hld
  · intro m k c d hc hd hlc hld
    rcases hcases k d hd with ⟨rfl, rfl⟩ | ⟨hne, hd'⟩
    · exact h.brs m k c b hc hb hlc hl
    · exact h.brs m k c d hc hd' hlc hld
  · exact h.sl
  · exact h.reg
  · exact h.gl

end Go.Sx
