/-
  Symbolic execution: single operations are as the model has them.
-/
import Derived.Test.YtgcoidbaoigkeaaSwD
import Derived.DeepKeys
namespace Go.Sx
open Go.RowKit

section
variable {P : Program}

theorem info_of_underlying {t : TypeId} {d : TypeDesc} (h : P.underlying t = some d) : ∃ i, P.info? t = some i := by
  cases hi : P.info? t with
  | some i => exact ⟨i, rfl⟩
  | none => simp [Program.underlying, hi] at h

theorem run_sizeOf' {t : TypeId} (h : (P.info? t).isSome = true) (w : World) : (sizeOf t).run P w = .ok (P.cellsOf t) w := by
  obtain ⟨i, hi⟩ := Option.isSome_iff_exists.1 h
  simp [sizeOf, typeInfo, hi, Program.cellsOf]

theorem run_isAgg' {t : TypeId} (h : (P.underlying t).isNone = false) (w : World) : (isAgg t).run P w = .ok (tyAgg P t) w := by
  cases hd : P.underlying t with
  | none => simp [hd] at h
  | some d => cases d <;> simp [isAgg, run_underlying hd, tyAgg, hd]

theorem infoSome {t : TypeId} (h : (P.underlying t).isNone = false) : (P.info? t).isSome = true := by
  cases hd : P.underlying t with
  | none => simp [hd] at h
  | some d => obtain ⟨i, hi⟩ := info_of_underlying hd; simp [hi]

theorem run_zeroValue' {t : TypeId} {z : List SC} (h : zeroOf P t = some z) (w : World) (e : Env) : ∃ v, (zeroValue t).run P w = .ok v w ∧ v.cells = (z.map (SC.den e)).toArray := by
  simp only [zeroOf, Option.map_eq_some_iff] at h
  obtain ⟨v, hv, rfl⟩ := h
  rw [Option.bind_eq_some_iff] at hv
  obtain ⟨i, hi, hz⟩ := hv
  refine ⟨v, by simp [zeroValue, typeInfo, hi, hz], ?_⟩
  rw [List.map_map, show (SC.den e ∘ SC.ofV) = id from funext fun v => SC.den_ofV e v]
  simp

theorem SC.den_one {e : Env} {c : SC} (hc : c.one = true) : (c.den e).oneCell' = true := by
  cases c <;> simp only [SC.den] <;> try rfl
  case go g => obtain ⟨a, l, c, h⟩ := G.val_slice e g; rw [h]; rfl
  case gv g size lo hi => obtain ⟨a, l, c, h⟩ := G.val_slice e g; rw [h]; rfl
  case gz g => obtain ⟨a, l, c, h⟩ := G.val_slice e g; rw [h]; rfl
  case l v => exact hc

theorem SC.den_one' {e : Env} {W0 : Bas} {s : St} {w : World} (_h : Rep e W0 s w) {c : SC} (hc : c.one = true) (_hs : c.scp s.mem.length s.rows.length = true) : (c.den e).oneCell' = true := SC.den_one hc

theorem cells_of_one {v : Value} (h : v.oneCell' = true) : v.cells = #[v] := by
  cases v <;> simp_all [Value.oneCell', Value.cells]

theorem SW.cells_den {e : Env} {W0 : Bas} {s : St} {w : World} (h : Rep e W0 s w) {y : SW} (hc : y.cells.all SC.one = true) (hs : y.scp s.mem.length s.rows.length = true) : (y.den e).cells = (y.cells.map (SC.den e)).toArray := by
  cases y with
  | o c =>
    simp only [SW.cells, List.all_cons, List.all_nil, Bool.and_true] at hc
    simp only [SW.den, SW.cells, List.map_cons, List.map_nil]
    exact cells_of_one (SC.den_one' h hc hs)
  | a cs => rfl

/-- What an operation came to. -/
def OpOut (P : Program) (e : Env) (W0 : Bas) (s s' : St) (o : Oper) (ev : Operand → Value) (v : SV) (w : World) : Prop :=
  s'.fr = s.fr ∧ s'.nv = s.nv ∧ s'.nx = s.nx ∧ s'.fl = s.fl ∧ s'.flr = s.flr ∧ s'.dp = s.dp ∧
  ∃ e' w' nx, (execOp ev o).run P w = .ok nx w' ∧ (nx = .value (v.den e') ∨ (nx = .skip ∧ v.den e' = undef)) ∧ Rep e' W0 s' w' ∧
    Env.le e e' ∧ e'.r = e.r ∧ e'.R = e.R ∧ e'.ω = e.ω ∧ (∀ x ∈ s.fr, x.den e' = x.den e)

theorem OpOut.same {e : Env} {W0 : Bas} {s : St} {o : Oper} {ev : Operand → Value} {v : SV} {w : World} (h : Rep e W0 s w)
    (hr : (execOp ev o).run P w = .ok (.value (v.den e)) w) : OpOut P e W0 s s o ev v w :=
  ⟨rfl, rfl, rfl, rfl, rfl, rfl, e, w, _, hr, .inl rfl, h, Env.le_refl _, rfl, rfl, rfl, fun _ _ => rfl⟩

theorem OpOut.alloc {e : Env} {W0 : Bas} {s s' : St} {o : Oper} {ev : Operand → Value} {w : World} {t : TypeId} {cells : List SC} (h : Rep e W0 s w) (hn : s.new t cells = some s') {v : SV}
    (hr : (execOp ev o).run P w = .ok (.value (v.den { e with β := e.β ++ [w.heap.size] })) (w.alloc (.cells (cells.map (SC.den e)).toArray t))) : OpOut P e W0 s s' o ev v w := by
  unfold St.new at hn
  split at hn
  · rename_i hc
    simp only [Bool.and_eq_true] at hc
    simp only [Option.some.injEq] at hn
    subst hn
    obtain ⟨hrep, hlike⟩ := h.alloc t cells hc.1 hc.2
    exact ⟨rfl, rfl, rfl, rfl, rfl, rfl, _, _, _, hr, .inl rfl, hrep, ⟨[], [w.heap.size], [], [], by simp⟩, rfl, rfl, rfl, fun x hx => SV.den_like hlike x ((St.scp_spec hc.1).1 x hx)⟩
  · cases hn

theorem den_new {e : Env} {W0 : Bas} {s : St} {w : World} (h : Rep e W0 s w) (off : Nat) : (one (.p s.mem.length off)).den { e with β := e.β ++ [w.heap.size] } = .pointer (some ⟨w.heap.size, off, none⟩) := by
  simp [one, SV.den, SW.den, SC.den, ownAddr, List.getD, ← h.nb]

variable {e : Env} {W0 : Bas} {s s' : St} {o : Oper} {ev : Operand → Value} {v : SV} {w : World} {as : List B}

theorem op_alloc {t : TypeId} (ho : o.op = .alloc t) (h : op1 P s o = some (as, v, s')) (hrep : Rep e W0 s w) : OpOut P e W0 s s' o ev v w := by
  simp only [op1, ho] at h
  split at h
  · rename_i z hz
    simp only [Option.map_eq_some_iff, Prod.mk.injEq] at h
    obtain ⟨s1, hs1, rfl, rfl, rfl⟩ := h
    obtain ⟨zv, hz1, hz2⟩ := run_zeroValue' hz w e
    refine OpOut.alloc hrep hs1 ?_
    rw [den_new hrep]
    simp [execOp, ho, Instr.alloc, hz1, newVar, newRow, hz2]
  · cases h

theorem op_box {t : TypeId} {x : Operand} (ho : o.op = .box t x) (h : op1 P s o = some (as, v, s')) (hrep : Rep e W0 s w) (hev : ev x = (s.ev x).den e) : OpOut P e W0 s s' o ev v w := by
  simp only [op1, ho] at h
  split at h
  · rename_i y hy
    split at h
    · rename_i hone
      simp only [Option.map_eq_some_iff, Prod.mk.injEq] at h
      obtain ⟨s1, hs1, rfl, rfl, rfl⟩ := h
      refine OpOut.alloc hrep hs1 ?_
      have hsc : y.scp s.mem.length s.rows.length = true := by
        unfold St.new at hs1
        split at hs1
        · rename_i hc
          simp only [Bool.and_eq_true] at hc
          cases y <;> simpa [SW.scp, SW.cells] using hc.2
        · cases hs1
      rw [den_new hrep]
      rw [hy] at hev
      simp [execOp, ho, Instr.box, newVar, newRow, hev, SV.den, SW.cells_den hrep hone hsc]
    · cases h
  · cases h

theorem op_move {x : Operand} (ho : o.op = .move x ∨ o.op = .assign x) (h : op1 P s o = some (as, v, s')) (hrep : Rep e W0 s w) (hev : ev x = (s.ev x).den e) : OpOut P e W0 s s' o ev v w := by
  rcases ho with ho | ho <;> simp only [op1, ho, Option.some.injEq, Prod.mk.injEq] at h <;> obtain ⟨rfl, rfl, rfl⟩ := h <;>
    exact OpOut.same hrep (by simp [execOp, ho, hev])

theorem op_pick {c a b : Operand} (ho : o.op = .pick c a b) (h : op1 P s o = some (as, v, s')) (hrep : Rep e W0 s w) (hc : ev c = (s.ev c).den e) (ha : ev a = (s.ev a).den e) (hb : ev b = (s.ev b).den e) : OpOut P e W0 s s' o ev v w := by
  simp only [op1, ho] at h
  split at h
  · rename_i hx
    simp only [Option.some.injEq, Prod.mk.injEq] at h
    obtain ⟨rfl, rfl, rfl⟩ := h
    rw [hx] at hc
    exact OpOut.same hrep (by simp [execOp, ho, hc, ha, SV.den, SW.den, SC.den, B.den, asBool])
  · rename_i hx
    simp only [Option.some.injEq, Prod.mk.injEq] at h
    obtain ⟨rfl, rfl, rfl⟩ := h
    rw [hx] at hc
    exact OpOut.same hrep (by simp [execOp, ho, hc, hb, SV.den, SW.den, SC.den, B.den, asBool])
  · cases h

/-! ### loads -/
theorem getElem?_drop_take {α : Type} (l : List α) (off n j : Nat) : ((l.drop off).take n)[j]? = if j < n then l[off + j]? else none := by
  simp [List.getElem?_take, List.getElem?_drop]

/-- Cells that lie at an address are read. -/
theorem run_loadVar_at {t : TypeId} {cs : List SC} {off : Nat} {y : SW} (h : readS P t cs off = some y) (g : Nat) (base : Nat) (hcell : ∀ j, j < cs.length → w.cell? ⟨g, base + j, none⟩ = some ((cs.map (SC.den e)).getD j undef)) :
    (loadVar t ⟨g, base + off, none⟩).run P w = .ok (y.den e) w := by
  unfold readS at h
  split at h
  · cases h
  · rename_i hk
    simp only [Bool.not_eq_true] at hk
    split at h
    · rename_i hagg
      split at h
      · rename_i hle
        simp only [Option.some.injEq] at h
        subst h
        simp only [loadVar, Sem.run_bind, run_isAgg' hk, Result.andThen_ok, hagg, if_true, run_sizeOf' (infoSome hk), Sem.run_pure]
        have hl : ((cs.drop off).take (P.cellsOf t)).length = P.cellsOf t := by simp; omega
        have := run_loadCells_list (P := P) w ⟨g, base + off, none⟩ (((cs.drop off).take (P.cellsOf t)).map (SC.den e)) (fun j v hj => by
          rw [Addr.add_lit]
          rw [List.getElem?_map, getElem?_drop_take] at hj
          split at hj
          · rename_i hjn
            have hlt : off + j < cs.length := by omega
            rw [Nat.add_assoc, hcell (off + j) hlt]
            simp [hlt] at hj
            simp [List.getD, hlt, hj]
          · simp at hj)
        rw [List.length_map, hl] at this
        rw [this]
        simp [SW.den]
      · cases h
    · rename_i hagg
      simp only [Option.map_eq_some_iff] at h
      obtain ⟨c, hc, rfl⟩ := h
      have hlt : off < cs.length := (List.getElem?_eq_some_iff.1 hc).1
      simp only [loadVar, Sem.run_bind, run_isAgg' hk, Result.andThen_ok, hagg, Bool.false_eq_true, if_false, run_load, hcell off hlt]
      simp [List.getD, hc, SW.den]

theorem blk_cell (hrep : Rep e W0 s w) {n : Nat} {b : Blk} (hb : s.mem[n]? = some b) (hl : b.live = true) (j : Nat) (hj : j < b.cells.length) :
    w.cell? ⟨e.β.getD n 0, j, none⟩ = some ((b.cells.map (SC.den e)).getD j undef) := by
  have h1 := hrep.blk n b hb hl
  unfold World.cell?
  simp only [h1]
  simp [List.getD, hj]

theorem mkCells_length : ∀ {ks : List K} {xs : List Int}, xs.length = ks.length → (mkCells ks xs).length = ks.length
  | [], [], _ => rfl
  | _ :: ks, _ :: xs, h => by simp only [mkCells, List.length_cons] at h ⊢; rw [mkCells_length (by omega)]
  | [], _ :: _, h => by simp at h
  | _ :: _, [], h => by simp at h

theorem cellsL_at {ks : List K} : ∀ {l : List Int} {i j : Nat}, (∀ x ∈ l, (elt ks x).length = ks.length) → i < l.length → j < ks.length →
    (cellsL ks l)[i * ks.length + j]? = (mkCells ks (elt ks (l.getD i 0)))[j]?
  | [], _, _, _, hi, _ => by simp at hi
  | y :: l, 0, j, h, _, hj => by
    have h1 := mkCells_length (h y (by simp))
    simp only [cellsL, List.flatMap_cons, Nat.zero_mul, Nat.zero_add]
    rw [List.getElem?_append_left (by omega)]
    simp
  | y :: l, i + 1, j, h, hi, hj => by
    have h1 := mkCells_length (h y (by simp))
    have ih := cellsL_at (l := l) (i := i) (j := j) (fun z hz => h z (by simp [hz])) (by simpa using hi) hj
    simp only [cellsL, List.flatMap_cons] at ih ⊢
    rw [List.getElem?_append_right (by rw [h1, Nat.add_mul]; omega), h1, show (i + 1) * ks.length + j - ks.length = i * ks.length + j by rw [Nat.add_mul]; omega, ih]
    simp

theorem inB_den {c ix : E} {R : Fo} {r : List Int} (h : ∀ b ∈ inB c ix, b.den R r = true) : 0 ≤ ix.den R r ∧ (ix.den R r).toNat < (dec (c.den R r)).length ∧ ix.den R r < ((dec (c.den R r)).length : Int) := by
  have h1 := h (mkLe (.c 0) ix) (by simp [inB])
  have h2 := h (mkLt ix (mkLn c)) (by simp [inB])
  rw [mkLe_den, decide_eq_true_eq] at h1
  rw [mkLt_den, decide_eq_true_eq, mkLn_den] at h2
  simp only [E.den] at h1
  omega

theorem vB_den {c lo hi : E} {R : Fo} {r : List Int} (h : ∀ b ∈ vB c lo hi, b.den R r = true) : 0 ≤ lo.den R r ∧ lo.den R r ≤ hi.den R r ∧ hi.den R r ≤ ((dec (c.den R r)).length : Int) := by
  have h1 := h (mkLe (.c 0) lo) (by simp [vB])
  have h2 := h (mkLe lo hi) (by simp [vB])
  have h3 := h (mkLe hi (mkLn c)) (by simp [vB])
  rw [mkLe_den, decide_eq_true_eq] at h1 h2 h3
  rw [mkLn_den] at h3
  simp only [E.den] at h1
  exact ⟨h1, h2, h3⟩

theorem elemC_den {g : G} {ks : List K} {c ix : E} (h1 : (elt ks ((dec (c.den e.R e.r)).getD (ix.den e.R e.r).toNat 0)).length = ks.length) :
    (elemC g ks c ix).map (SC.den e) = mkCells ks (elt ks ((dec (c.den e.R e.r)).getD (ix.den e.R e.r).toNat 0)) := by
  have key : ∀ (ks : List K) (i : Nat) (es : List E), (cellsG g ix i ks es).map (SC.den e) = mkCells ks (es.map (E.den e.R e.r)) := by
    intro ks
    induction ks with
    | nil => intro i es; cases es <;> rfl
    | cons k ks ih =>
      intro i es
      cases es with
      | nil => cases k <;> rfl
      | cons x es =>
        cases k with
        | i k => simp only [cellsG, List.map_cons, ih, mkCells, K.mk, SC.den]
        | b =>
          simp only [cellsG, List.map_cons, ih, mkCells, K.mk, SC.den]
          congr 2
          unfold mkNz
          split <;> simp [B.den, E.den]
        | s ty kr => simp only [cellsG, List.map_cons, ih, mkCells, K.mk, SC.den, G.val]
  unfold elemC
  rw [key]
  congr 1
  rw [List.map_map]
  have hf : (E.den e.R e.r ∘ fun j => comp ks.length (mkAt c ix) j) = fun j => if ks.length = 1 then (dec (c.den e.R e.r)).getD (ix.den e.R e.r).toNat 0 else (dec ((dec (c.den e.R e.r)).getD (ix.den e.R e.r).toNat 0)).getD j 0 := by
    funext j
    simp only [Function.comp, comp_den, mkAt_den]
  rw [hf]
  generalize (dec (c.den e.R e.r)).getD (ix.den e.R e.r).toNat 0 = x at h1 ⊢
  unfold elt at h1 ⊢
  by_cases hk : ks.length = 1
  · simp [hk]
  · simp only [if_neg hk] at h1 ⊢
    apply List.ext_getElem?
    intro j
    by_cases hj : j < ks.length
    · rw [List.getElem?_map, List.getElem?_range hj]
      simp [List.getD, h1, hj]
    · rw [List.getElem?_eq_none (by simp; omega), List.getElem?_eq_none (by omega)]

/-- An element that is pointed at. -/
theorem gp_spec (hrep : Rep e W0 s w) {g : G} {ks : List K} {c ix : E} (hg : gcode s g = some (ks, c)) (has : ∀ b ∈ inB c ix, b.den e.R e.r = true) :
    ∃ b off, (∀ size j, atV size (g.val e) (ix.den e.R e.r).toNat j = some ⟨b, off + ((ix.den e.R e.r).toNat * size + j), none⟩) ∧ (elt ks ((dec (c.den e.R e.r)).getD (ix.den e.R e.r).toNat 0)).length = ks.length ∧
      ∀ j, j < ks.length → w.cell? ⟨b, off + ((ix.den e.R e.r).toNat * ks.length + j), none⟩ = some (((elemC g ks c ix).map (SC.den e)).getD j undef) := by
  obtain ⟨h0, h1, h2⟩ := inB_den has
  rcases hrep.gread hg with ⟨_, hn⟩ | ⟨b, off, cap, hv, hle, hm, hel, hcell⟩
  · rw [hn] at h1; simp at h1
  · have hx := hel ((dec (c.den e.R e.r)).getD (ix.den e.R e.r).toNat 0) (by simp [List.getD, h1])
    refine ⟨b, off, fun size j => by rw [hv]; simp [atV, Addr.add_lit], hx, fun j hj => ?_⟩
    rw [elemC_den hx]
    refine hcell _ _ ?_
    rw [cellsL_at hel h1 hj]
    have := mkCells_length hx
    generalize mkCells ks (elt ks ((dec (c.den e.R e.r)).getD (ix.den e.R e.r).toNat 0)) = m at this ⊢
    simp [List.getD, this, hj]

theorem glob_cell (hrep : Rep e W0 s w) {g : Nat} {cs : List SC} (hcs : globS s.gl g = some cs) (j : Nat) (hj : j < cs.length) : w.cell? ⟨g, j, none⟩ = some ((cs.map (SC.den e)).getD j undef) := by
  unfold globS at hcs
  rw [Option.map_eq_some_iff] at hcs
  obtain ⟨p, hp, rfl⟩ := hcs
  have h1 := List.mem_of_find?_eq_some hp
  have h2 := List.find?_some hp
  simp only [beq_iff_eq] at h2
  subst h2
  simp only [List.length_map] at hj
  rw [hrep.glw p h1 j p.2[j] (List.getElem?_eq_getElem hj)]
  simp [List.getD, hj, SC.den, E.den]

theorem op_load {t : TypeId} {x : Operand} (ho : o.op = .load t x) (h : op1 P s o = some (as, v, s')) (hrep : Rep e W0 s w) (hev : ev x = (s.ev x).den e) (has : ∀ b ∈ as, b.den e.R e.r = true) : OpOut P e W0 s s' o ev v w := by
  simp only [op1, ho] at h
  split at h
  · rename_i n off hx
    rw [hx] at hev
    split at h
    · rename_i b hb
      split at h
      · rename_i hl
        simp only [Option.map_eq_some_iff, Prod.mk.injEq] at h
        obtain ⟨y, hy, rfl, rfl, rfl⟩ := h
        refine OpOut.same hrep ?_
        have := run_loadVar_at (w := w) (e := e) hy (e.β.getD n 0) 0 (fun j hj => by rw [Nat.zero_add]; exact blk_cell hrep hb hl j hj)
        rw [Nat.zero_add] at this
        simp only [execOp, ho, hev, SV.den, SW.den, SC.den, ownAddr, Instr.loadAt, Instr.sureAddr, Sem.run_bind, Sem.run_pure, Result.andThen_ok, this]
      · cases h
    · cases h
  · rename_i g size ix j hx
    rw [hx] at hev
    split at h
    · rename_i ks c hg
      split at h
      · rename_i hsz
        subst hsz
        simp only [Option.map_eq_some_iff, Prod.mk.injEq] at h
        obtain ⟨y, hy, rfl, rfl, rfl⟩ := h
        refine OpOut.same hrep ?_
        obtain ⟨b, off, hat, hx, hcell⟩ := gp_spec hrep hg has
        have hcl : (elemC g ks c ix).length = ks.length := by
          have h1 := congrArg List.length (elemC_den (e := e) (g := g) hx)
          rw [mkCells_length hx] at h1
          simpa using h1
        have := run_loadVar_at (w := w) (e := e) hy b (off + (ix.den e.R e.r).toNat * ks.length) (fun j hj => by rw [Nat.add_assoc]; exact hcell j (by omega))
        rw [Nat.add_assoc] at this
        simp only [execOp, ho, hev, SV.den, SW.den, SC.den, hat, Instr.loadAt, Instr.sureAddr, Sem.run_bind, Sem.run_pure, Result.andThen_ok, this]
      · cases h
    · cases h
  · rename_i g off hx
    rw [hx] at hev
    split at h
    · rename_i cs hcs
      simp only [Option.map_eq_some_iff, Prod.mk.injEq] at h
      obtain ⟨y, hy, rfl, rfl, rfl⟩ := h
      refine OpOut.same hrep ?_
      have := run_loadVar_at (w := w) (e := e) hy g 0 (fun j hj => by rw [Nat.zero_add]; exact glob_cell hrep hcs j hj)
      rw [Nat.zero_add] at this
      simp only [execOp, ho, hev, SV.den, SW.den, SC.den, Instr.loadAt, Instr.sureAddr, Sem.run_bind, Sem.run_pure, Result.andThen_ok, this]
    · cases h
  · cases h
end
end Go.Sx
