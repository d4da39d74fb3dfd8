/-
  Symbolic execution: single operations are as the model has them.
-/
import Derived.Test.YtjbkcjbjllmhfaaDoorSyD
import Derived.DeepKeys
namespace Go.Sx
open Go.RowKit

section
variable {P : Program}

theorem info_of_underlying {t : TypeId} {d : TypeDesc} (h : P.underlying t = some d) : ∃ i, P.info? t = some i := by
  cases hi : P.info? t with
  | some i => exact ⟨i, rfl⟩
  | none => simp [Program.underlying, hi] at h

theorem run_sizeOf' {t : TypeId} (h : (P.info? t).isSome = true) (w : World) : (sizeOf t).run P w = .ok (P.cellsOf t) w := by
  obtain ⟨i, hi⟩ := Option.isSome_iff_exists.1 h
  simp [sizeOf, typeInfo, hi, Program.cellsOf]

theorem run_isAgg' {t : TypeId} (h : (P.underlying t).isNone = false) (w : World) : (isAgg t).run P w = .ok (tyAgg P t) w := by
  cases hd : P.underlying t with
  | none => simp [hd] at h
  | some d => cases d <;> simp [isAgg, run_underlying hd, tyAgg, hd]

theorem infoSome {t : TypeId} (h : (P.underlying t).isNone = false) : (P.info? t).isSome = true := by
  cases hd : P.underlying t with
  | none => simp [hd] at h
  | some d => obtain ⟨i, hi⟩ := info_of_underlying hd; simp [hi]

theorem run_zeroValue' {t : TypeId} {z : List SC} (h : zeroOf P t = some z) (w : World) (e : Env) : ∃ v, (zeroValue t).run P w = .ok v w ∧ v.cells = (z.map (SC.den e)).toArray := by
  simp only [zeroOf, Option.map_eq_some_iff] at h
  obtain ⟨v, hv, rfl⟩ := h
  rw [Option.bind_eq_some_iff] at hv
  obtain ⟨i, hi, hz⟩ := hv
  refine ⟨v, by simp [zeroValue, typeInfo, hi, hz], ?_⟩
  rw [List.map_map, show (SC.den e ∘ SC.ofV) = id from funext fun v => SC.den_ofV e v]
  simp

theorem SC.den_one {e : Env} (hsl : ∀ n, n < e.σ.length → ∃ a l c, e.σ.getD n undef = .slice a l c) {c : SC} (hc : c.one = true) : (c.den e).oneCell' = true ∨ ∃ n l, c = .g n l ∧ e.σ.length ≤ n := by
  cases c <;> simp only [SC.den] <;> try (exact .inl rfl)
  case g n l =>
    rcases Nat.lt_or_ge n e.σ.length with hn | hn
    · obtain ⟨a, l, c, h⟩ := hsl n hn
      rw [h]; exact .inl rfl
    · exact .inr ⟨n, l, rfl, hn⟩
  case gp n l => split <;> exact .inl rfl
  case l v => exact .inl hc

theorem SC.den_one' {e : Env} {W0 : World} {s : St} {w : World} (h : Rep e W0 s w) {c : SC} (hc : c.one = true) (hs : c.scp s.mem.length s.rows.length = true) : (c.den e).oneCell' = true := by
  rcases SC.den_one h.sl hc with h1 | ⟨n, l, rfl, hn⟩
  · exact h1
  · simp only [SC.scp, decide_eq_true_eq] at hs
    rw [h.ng] at hn
    omega

theorem cells_of_one {v : Value} (h : v.oneCell' = true) : v.cells = #[v] := by
  cases v <;> simp_all [Value.oneCell', Value.cells]

theorem SW.cells_den {e : Env} {W0 : World} {s : St} {w : World} (h : Rep e W0 s w) {y : SW} (hc : y.cells.all SC.one = true) (hs : y.scp s.mem.length s.rows.length = true) : (y.den e).cells = (y.cells.map (SC.den e)).toArray := by
  cases y with
  | o c =>
    simp only [SW.cells, List.all_cons, List.all_nil, Bool.and_true] at hc
    simp only [SW.den, SW.cells, List.map_cons, List.map_nil]
    exact cells_of_one (SC.den_one' h hc hs)
  | a cs => rfl

/-- What an operation came to. -/
def OpOut (P : Program) (e : Env) (W0 : World) (s s' : St) (o : Oper) (ev : Operand → Value) (v : SV) (w : World) : Prop :=
  s'.fr = s.fr ∧ s'.nv = s.nv ∧ s'.nx = s.nx ∧ s'.fl = s.fl ∧ s'.flr = s.flr ∧
  ∃ e' w' nx, (execOp ev o).run P w = .ok nx w' ∧ (nx = .value (v.den e') ∨ (nx = .skip ∧ v.den e' = undef)) ∧ Rep e' W0 s' w' ∧
    Env.le e e' ∧ e'.r = e.r ∧ e'.R = e.R ∧ e'.ω = e.ω ∧ (∀ x ∈ s.fr, x.den e' = x.den e)

theorem OpOut.same {e : Env} {W0 : World} {s : St} {o : Oper} {ev : Operand → Value} {v : SV} {w : World} (h : Rep e W0 s w)
    (hr : (execOp ev o).run P w = .ok (.value (v.den e)) w) : OpOut P e W0 s s o ev v w :=
  ⟨rfl, rfl, rfl, rfl, rfl, e, w, _, hr, .inl rfl, h, Env.le_refl _, rfl, rfl, rfl, fun _ _ => rfl⟩

theorem OpOut.alloc {e : Env} {W0 : World} {s s' : St} {o : Oper} {ev : Operand → Value} {w : World} {t : TypeId} {cells : List SC} (h : Rep e W0 s w) (hn : s.new t cells = some s') {v : SV}
    (hr : (execOp ev o).run P w = .ok (.value (v.den { e with β := e.β ++ [w.heap.size] })) (w.alloc (.cells (cells.map (SC.den e)).toArray t))) : OpOut P e W0 s s' o ev v w := by
  unfold St.new at hn
  split at hn
  · rename_i hc
    simp only [Bool.and_eq_true] at hc
    simp only [Option.some.injEq] at hn
    subst hn
    obtain ⟨hrep, hlike⟩ := h.alloc t cells hc.1 hc.2
    exact ⟨rfl, rfl, rfl, rfl, rfl, _, _, _, hr, .inl rfl, hrep, ⟨[], [w.heap.size], [], [], by simp⟩, rfl, rfl, rfl, fun x hx => SV.den_like hlike x ((St.scp_spec hc.1).1 x hx)⟩
  · cases hn

theorem den_new {e : Env} {W0 : World} {s : St} {w : World} (h : Rep e W0 s w) (off : Nat) : (one (.p s.mem.length off)).den { e with β := e.β ++ [w.heap.size] } = .pointer (some ⟨w.heap.size, off, none⟩) := by
  simp [one, SV.den, SW.den, SC.den, ownAddr, List.getD, ← h.nb]

variable {e : Env} {W0 : World} {s s' : St} {o : Oper} {ev : Operand → Value} {v : SV} {w : World} {as : List B}

theorem op_alloc {t : TypeId} (ho : o.op = .alloc t) (h : op1 P s o = some (as, v, s')) (hrep : Rep e W0 s w) : OpOut P e W0 s s' o ev v w := by
  simp only [op1, ho] at h
  split at h
  · rename_i z hz
    simp only [Option.map_eq_some_iff, Prod.mk.injEq] at h
    obtain ⟨s1, hs1, rfl, rfl, rfl⟩ := h
    obtain ⟨zv, hz1, hz2⟩ := run_zeroValue' hz w e
    refine OpOut.alloc hrep hs1 ?_
    rw [den_new hrep]
    simp [execOp, ho, Instr.alloc, hz1, newVar, newRow, hz2]
  · cases h

theorem op_box {t : TypeId} {x : Operand} (ho : o.op = .box t x) (h : op1 P s o = some (as, v, s')) (hrep : Rep e W0 s w) (hev : ev x = (s.ev x).den e) : OpOut P e W0 s s' o ev v w := by
  simp only [op1, ho] at h
  split at h
  · rename_i y hy
    split at h
    · rename_i hone
      simp only [Option.map_eq_some_iff, Prod.mk.injEq] at h
      obtain ⟨s1, hs1, rfl, rfl, rfl⟩ := h
      refine OpOut.alloc hrep hs1 ?_
      have hsc : y.scp s.mem.length s.rows.length = true := by
        unfold St.new at hs1
        split at hs1
        · rename_i hc
          simp only [Bool.and_eq_true] at hc
          cases y <;> simpa [SW.scp, SW.cells] using hc.2
        · cases hs1
      rw [den_new hrep]
      rw [hy] at hev
      simp [execOp, ho, Instr.box, newVar, newRow, hev, SV.den, SW.cells_den hrep hone hsc]
    · cases h
  · cases h

theorem op_move {x : Operand} (ho : o.op = .move x ∨ o.op = .assign x) (h : op1 P s o = some (as, v, s')) (hrep : Rep e W0 s w) (hev : ev x = (s.ev x).den e) : OpOut P e W0 s s' o ev v w := by
  rcases ho with ho | ho <;> simp only [op1, ho, Option.some.injEq, Prod.mk.injEq] at h <;> obtain ⟨rfl, rfl, rfl⟩ := h <;>
    exact OpOut.same hrep (by simp [execOp, ho, hev])

theorem op_pick {c a b : Operand} (ho : o.op = .pick c a b) (h : op1 P s o = some (as, v, s')) (hrep : Rep e W0 s w) (hc : ev c = (s.ev c).den e) (ha : ev a = (s.ev a).den e) (hb : ev b = (s.ev b).den e) : OpOut P e W0 s s' o ev v w := by
  simp only [op1, ho] at h
  split at h
  · rename_i hx
    simp only [Option.some.injEq, Prod.mk.injEq] at h
    obtain ⟨rfl, rfl, rfl⟩ := h
    rw [hx] at hc
    exact OpOut.same hrep (by simp [execOp, ho, hc, ha, SV.den, SW.den, SC.den, B.den, asBool])
  · rename_i hx
    simp only [Option.some.injEq, Prod.mk.injEq] at h
    obtain ⟨rfl, rfl, rfl⟩ := h
    rw [hx] at hc
    exact OpOut.same hrep (by simp [execOp, ho, hc, hb, SV.den, SW.den, SC.den, B.den, asBool])
  · cases h

/-! ### loads -/
theorem getElem?_drop_take {α : Type} (l : List α) (off n j : Nat) : ((l.drop off).take n)[j]? = if j < n then l[off + j]? else none := by
  simp [List.getElem?_take, List.getElem?_drop]

/-- Cells that lie at an address are read. -/
theorem run_loadVar_at {t : TypeId} {cs : List SC} {off : Nat} {y : SW} (h : readS P t cs off = some y) (g : Nat) (base : Nat) (hcell : ∀ j, j < cs.length → w.cell? ⟨g, base + j, none⟩ = some ((cs.map (SC.den e)).getD j undef)) :
    (loadVar t ⟨g, base + off, none⟩).run P w = .ok (y.den e) w := by
  unfold readS at h
  split at h
  · cases h
  · rename_i hk
    simp only [Bool.not_eq_true] at hk
    split at h
    · rename_i hagg
      split at h
      · rename_i hle
        simp only [Option.some.injEq] at h
        subst h
        simp only [loadVar, Sem.run_bind, run_isAgg' hk, Result.andThen_ok, hagg, if_true, run_sizeOf' (infoSome hk), Sem.run_pure]
        have hl : ((cs.drop off).take (P.cellsOf t)).length = P.cellsOf t := by simp; omega
        have := run_loadCells_list (P := P) w ⟨g, base + off, none⟩ (((cs.drop off).take (P.cellsOf t)).map (SC.den e)) (fun j v hj => by
          rw [Addr.add_lit]
          rw [List.getElem?_map, getElem?_drop_take] at hj
          split at hj
          · rename_i hjn
            have hlt : off + j < cs.length := by omega
            rw [Nat.add_assoc, hcell (off + j) hlt]
            simp [hlt] at hj
            simp [List.getD, hlt, hj]
          · simp at hj)
        rw [List.length_map, hl] at this
        rw [this]
        simp [SW.den]
      · cases h
    · rename_i hagg
      simp only [Option.map_eq_some_iff] at h
      obtain ⟨c, hc, rfl⟩ := h
      have hlt : off < cs.length := (List.getElem?_eq_some_iff.1 hc).1
      simp only [loadVar, Sem.run_bind, run_isAgg' hk, Result.andThen_ok, hagg, Bool.false_eq_true, if_false, run_load, hcell off hlt]
      simp [List.getD, hc, SW.den]

theorem blk_cell (hrep : Rep e W0 s w) {n : Nat} {b : Blk} (hb : s.mem[n]? = some b) (hl : b.live = true) (j : Nat) (hj : j < b.cells.length) :
    w.cell? ⟨e.β.getD n 0, j, none⟩ = some ((b.cells.map (SC.den e)).getD j undef) := by
  have h1 := hrep.blk n b hb hl
  unfold World.cell?
  simp only [h1]
  simp [List.getD, hj]

theorem row_some (hrep : Rep e W0 s w) {n : Nat} {b : Row} (hb : s.rows[n]? = some b) (hl : b.live = true) (h0 : b.len ≠ 0) :
    ∃ g cap cur, e.σ.getD n undef = .slice (some ⟨g, 0, none⟩) b.len cap ∧ w.heap[g]? = some (.cells cur b.ty (0, 0)) ∧ b.len ≤ cap ∧ cap ≤ maxLen ∧ cur.size = cap * b.size ∧ cur.toList.take (b.len * b.size) = b.cells.map (SC.den e) := by
  rcases (hrep.row n b hb hl).2 with ⟨_, h⟩ | ⟨g, cap, cur, h1, _, h2, h3, h4, h5, h6⟩
  · exact absurd h h0
  · exact ⟨g, cap, cur, h1, h2, h3, h4, h5, h6⟩

theorem row_cell (hrep : Rep e W0 s w) {n : Nat} {b : Row} (hb : s.rows[n]? = some b) (hl : b.live = true) {g l c : Nat} (hv : e.σ.getD n undef = .slice (some ⟨g, 0, none⟩) l c) (j : Nat) (hj : j < b.cells.length) :
    w.cell? ⟨g, j, none⟩ = some ((b.cells.map (SC.den e)).getD j undef) := by
  have := (hrep.row n b hb hl).cells (g := g) (by rw [hv]; simp [Value.ownBlock]) j ((b.cells.map (SC.den e)).getD j undef) (by simp [List.getD, hj])
  rwa [Addr.add_lit, Nat.zero_add] at this

theorem glob_cell (hrep : Rep e W0 s w) {g : Nat} {cs : List SC} (hcs : globS s.gl g = some cs) (j : Nat) (hj : j < cs.length) : w.cell? ⟨g, j, none⟩ = some ((cs.map (SC.den e)).getD j undef) := by
  unfold globS at hcs
  rw [Option.map_eq_some_iff] at hcs
  obtain ⟨p, hp, rfl⟩ := hcs
  have h1 := List.mem_of_find?_eq_some hp
  have h2 := List.find?_some hp
  simp only [beq_iff_eq] at h2
  subst h2
  simp only [List.length_map] at hj
  rw [hrep.glw p h1 j p.2[j] (List.getElem?_eq_getElem hj)]
  simp [List.getD, hj, SC.den, E.den]

theorem op_load {t : TypeId} {x : Operand} (ho : o.op = .load t x) (h : op1 P s o = some (as, v, s')) (hrep : Rep e W0 s w) (hev : ev x = (s.ev x).den e) (has : ∀ b ∈ as, b.den e.R e.r = true) : OpOut P e W0 s s' o ev v w := by
  simp only [op1, ho] at h
  split at h
  · rename_i n off hx
    rw [hx] at hev
    split at h
    · rename_i b hb
      split at h
      · rename_i hl
        simp only [Option.map_eq_some_iff, Prod.mk.injEq] at h
        obtain ⟨y, hy, rfl, rfl, rfl⟩ := h
        refine OpOut.same hrep ?_
        have := run_loadVar_at (w := w) (e := e) hy (e.β.getD n 0) 0 (fun j hj => by rw [Nat.zero_add]; exact blk_cell hrep hb hl j hj)
        rw [Nat.zero_add] at this
        simp only [execOp, ho, hev, SV.den, SW.den, SC.den, ownAddr, Instr.loadAt, Instr.sureAddr, Sem.run_bind, Sem.run_pure, Result.andThen_ok, this]
      · cases h
    · cases h
  · rename_i n off hx
    rw [hx] at hev
    split at h
    · rename_i b hb
      split at h
      · rename_i hl
        simp only [Bool.and_eq_true, decide_eq_true_eq] at hl
        simp only [Option.map_eq_some_iff, Prod.mk.injEq] at h
        obtain ⟨y, hy, rfl, rfl, rfl⟩ := h
        refine OpOut.same hrep ?_
        obtain ⟨g, cap, cur, hv, _⟩ := row_some hrep hb hl.1 hl.2
        have := run_loadVar_at (w := w) (e := e) hy g 0 (fun j hj => by rw [Nat.zero_add]; exact row_cell hrep hb hl.1 hv j hj)
        rw [Nat.zero_add] at this
        simp only [execOp, ho, hev, SV.den, SW.den, SC.den, hv, Instr.loadAt, Instr.sureAddr, Sem.run_bind, Sem.run_pure, Result.andThen_ok, this]
      · cases h
    · cases h
  · rename_i g off hx
    rw [hx] at hev
    split at h
    · rename_i cs hcs
      simp only [Option.map_eq_some_iff, Prod.mk.injEq] at h
      obtain ⟨y, hy, rfl, rfl, rfl⟩ := h
      refine OpOut.same hrep ?_
      have := run_loadVar_at (w := w) (e := e) hy g 0 (fun j hj => by rw [Nat.zero_add]; exact glob_cell hrep hcs j hj)
      rw [Nat.zero_add] at this
      simp only [execOp, ho, hev, SV.den, SW.den, SC.den, Instr.loadAt, Instr.sureAddr, Sem.run_bind, Sem.run_pure, Result.andThen_ok, this]
    · cases h
  · rename_i r off hx
    rw [hx] at hev
    split at h
    · cases h
    · rename_i hk
      simp only [Bool.not_eq_true] at hk
      have hfin : ∀ {as' : List B}, as' = [.le (.c 0) off, .le (mkPl off (.c (P.cellsOf t))) (.rs r)] → (∀ b ∈ as', b.den e.R e.r = true) → 0 ≤ off.den e.R e.r ∧ (off.den e.R e.r).toNat + P.cellsOf t ≤ (regOf e.R r).size := by
        rintro as' rfl hb
        have h1 := hb (.le (.c 0) off) (by simp)
        have h2 := hb (.le (mkPl off (.c (P.cellsOf t))) (.rs r)) (by simp)
        have h1' : 0 ≤ off.den e.R e.r := of_decide_eq_true h1
        have h2' : (mkPl off (.c (P.cellsOf t))).den e.R e.r ≤ ((regOf e.R r).size : Int) := of_decide_eq_true h2
        rw [mkPl_den] at h2'
        simp only [E.den] at h2'
        exact ⟨h1', by omega⟩
      split at h
      · rename_i hagg
        simp only [Option.some.injEq, Prod.mk.injEq] at h
        obtain ⟨h1, rfl, rfl⟩ := h
        obtain ⟨h0, hsz⟩ := hfin h1.symm has
        refine OpOut.same hrep ?_
        have hlc := run_loadCells_list (P := P) w ⟨(regOf e.R r).blk, (regOf e.R r).off + (off.den e.R e.r).toNat, none⟩ ((List.range (P.cellsOf t)).map fun j => Value.int .i64 ((regOf e.R r).φ ((off.den e.R e.r).toNat + j))) (fun j v hj => by
          rw [Addr.add_lit]
          have hjn : j < P.cellsOf t := by
            have := (List.getElem?_eq_some_iff.1 hj).1
            simpa using this
          simp only [List.getElem?_map, List.getElem?_range hjn, Option.map_some] at hj
          have := hrep.regw r ((off.den e.R e.r).toNat + j) (by omega)
          rw [← Nat.add_assoc] at this
          rw [this]
          exact hj)
        rw [List.length_map, List.length_range] at hlc
        simp only [execOp, ho, hev, SV.den, SW.den, SC.den, Instr.loadAt, Instr.sureAddr, Sem.run_bind, Sem.run_pure, Result.andThen_ok, loadVar, run_isAgg' hk, hagg, if_true, run_sizeOf' (infoSome hk), hlc, List.map_map]
        congr 5
        funext j
        simp only [Function.comp, SC.den, E.den, mkPl_den]
        congr 2
        omega
      · rename_i hagg
        split at h
        · rename_i h1c
          simp only [Option.some.injEq, Prod.mk.injEq] at h
          obtain ⟨h1, rfl, rfl⟩ := h
          obtain ⟨h0, hsz⟩ := hfin h1.symm has
          refine OpOut.same hrep ?_
          have := hrep.regw r (off.den e.R e.r).toNat (by omega)
          simp only [execOp, ho, hev, SV.den, SW.den, SC.den, Instr.loadAt, Instr.sureAddr, Sem.run_bind, Sem.run_pure, Result.andThen_ok, loadVar, run_isAgg' hk, hagg, Bool.false_eq_true, if_false, run_load, this, one, E.den]
        · cases h
  · cases h
end
end Go.Sx
