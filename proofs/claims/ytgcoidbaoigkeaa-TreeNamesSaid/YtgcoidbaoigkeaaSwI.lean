/-
  Symbolic execution: single operations are as the model has them.
-/
import Derived.Test.YtgcoidbaoigkeaaSwD
import Derived.DeepKeys
namespace Go.Sx
open Go.RowKit

section
variable {P : Program}

theorem info_of_underlying {t : TypeId} {d : TypeDesc} (h : P.underlying t = some d) : ∃ i, P.info? t = some i := by
  cases hi : P.info? t with
  | some i => exact ⟨i, rfl⟩
  | none => simp [Program.underlying, hi] at h

theorem run_sizeOf' {t : TypeId} (h : (P.info? t).isSome = true) (w : World) : (sizeOf t).run P w = .ok (P.cellsOf t) w := by
  obtain ⟨i, hi⟩ := Option.isSome_iff_exists.1 h
  simp [sizeOf, typeInfo, hi, Program.cellsOf]

theorem run_isAgg' {t : TypeId} (h : (P.underlying t).isNone = false) (w : World) : (isAgg t).run P w = .ok (tyAgg P t) w := by
  cases hd : P.underlying t with
  | none => simp [hd] at h
  | some d => cases d <;> simp [isAgg, run_underlying hd, tyAgg, hd]

theorem infoSome {t : TypeId} (h : (P.underlying t).isNone = false) : (P.info? t).isSome = true := by
  cases hd : P.underlying t with
  | none => simp [hd] at h
  | some d => obtain ⟨i, hi⟩ := info_of_underlying hd; simp [hi]

theorem run_zeroValue' {t : TypeId} {z : List SC} (h : zeroOf P t = some z) (w : World) (e : Env) : ∃ v, (zeroValue t).run P w = .ok v w ∧ v.cells = (z.map (SC.den e)).toArray := by
  simp only [zeroOf, Option.map_eq_some_iff] at h
  obtain ⟨v, hv, rfl⟩ := h
  rw [Option.bind_eq_some_iff] at hv
  obtain ⟨i, hi, hz⟩ := hv
  refine ⟨v, by simp [zeroValue, typeInfo, hi, hz], ?_⟩
  rw [List.map_map, show (SC.den e ∘ SC.ofV) = id from funext fun v => SC.den_ofV e v]
  simp

theorem SC.den_one {e : Env} {c : SC} (hc : c.one = true) : (c.den e).oneCell' = true := by
  cases c <;> simp only [SC.den] <;> try rfl
  case go g => obtain ⟨a, l, c, h⟩ := G.val_slice e g; rw [h]; rfl
  case gv g size lo hi => obtain ⟨a, l, c, h⟩ := G.val_slice e g; rw [h]; rfl
  case gz g => obtain ⟨a, l, c, h⟩ := G.val_slice e g; rw [h]; rfl
  case l v => exact hc

theorem SC.den_one' {e : Env} {W0 : Bas} {s : St} {w : World} (_h : Rep e W0 s w) {c : SC} (hc : c.one = true) (_hs : c.scp s.mem.length s.rows.length = true) : (c.den e).oneCell' = true := SC.den_one hc

theorem cells_of_one {v : Value} (h : v.oneCell' = true) : v.cells = #[v] := by
  cases v <;> simp_all [Value.oneCell', Value.cells]

theorem SW.cells_den {e : Env} {W0 : Bas} {s : St} {w : World} (h : Rep e W0 s w) {y : SW} (hc : y.cells.all SC.one = true) (hs : y.scp s.mem.length s.rows.length = true) : (y.den e).cells = (y.cells.map (SC.den e)).toArray := by
  cases y with
  | o c =>
    simp only [SW.cells, List.all_cons, List.all_nil, Bool.and_true] at hc
    simp only [SW.den, SW.cells, List.map_cons, List.map_nil]
    exact cells_of_one (SC.den_one' h hc hs)
  | a cs => rfl

def OpOut (P : Program) (e : Env) (W0 : Bas) (s s' : St) (o : Oper) (ev : Operand → Value) (v : SV) (w : World) : Prop :=
  s'.fr = s.fr ∧ s'.nv = s.nv ∧ s'.nx = s.nx ∧ s'.fl = s.fl ∧ s'.flr = s.flr ∧ s'.dp = s.dp ∧
  ∃ e' w' nx, (execOp ev o).run P w = .ok nx w' ∧ (nx = .value (v.den e') ∨ (nx = .skip ∧ v.den e' = undef)) ∧ Rep e' W0 s' w' ∧
    Env.le e e' ∧ e'.r = e.r ∧ e'.R = e.R ∧ e'.ω = e.ω ∧ (∀ x ∈ s.fr, x.den e' = x.den e)

theorem OpOut.same {e : Env} {W0 : Bas} {s : St} {o : Oper} {ev : Operand → Value} {v : SV} {w : World} (h : Rep e W0 s w)
    (hr : (execOp ev o).run P w = .ok (.value (v.den e)) w) : OpOut P e W0 s s o ev v w :=
  ⟨rfl, rfl, rfl, rfl, rfl, rfl, e, w, _, hr, .inl rfl, h, Env.le_refl _, rfl, rfl, rfl, fun _ _ => rfl⟩

theorem OpOut.alloc {e : Env} {W0 : Bas} {s s' : St} {o : Oper} {ev : Operand → Value} {w : World} {t : TypeId} {cells : List SC} (h : Rep e W0 s w) (hn : s.new t cells = some s') {v : SV}
    (hr : (execOp ev o).run P w = .ok (.value (v.den { e with β := e.β ++ [w.heap.size] })) (w.alloc (.cells (cells.map (SC.den e)).toArray t))) : OpOut P e W0 s s' o ev v w := by
  unfold St.new at hn
  split at hn
  · rename_i hc
    simp only [Bool.and_eq_true] at hc
    simp only [Option.some.injEq] at hn
    subst hn
    obtain ⟨hrep, hlike⟩ := h.alloc t cells hc.1 hc.2
    exact ⟨rfl, rfl, rfl, rfl, rfl, rfl, _, _, _, hr, .inl rfl, hrep, ⟨[], [w.heap.size], [], [], by simp⟩, rfl, rfl, rfl, fun x hx => SV.den_like hlike x ((St.scp_spec hc.1).1 x hx)⟩
  · cases hn

theorem den_new {e : Env} {W0 : Bas} {s : St} {w : World} (h : Rep e W0 s w) (off : Nat) : (one (.p s.mem.length off)).den { e with β := e.β ++ [w.heap.size] } = .pointer (some ⟨w.heap.size, off, none⟩) := by
  simp [one, SV.den, SW.den, SC.den, ownAddr, List.getD, ← h.nb]

variable {e : Env} {W0 : Bas} {s s' : St} {o : Oper} {ev : Operand → Value} {v : SV} {w : World} {as : List B}

theorem op_alloc {t : TypeId} (ho : o.op = .alloc t) (h : op1 P s o = some (as, v, s')) (hrep : Rep e W0 s w) : OpOut P e W0 s s' o ev v w := by
  simp only [op1, ho] at h
  split at h
  · rename_i z hz
    simp only [Option.map_eq_some_iff, Prod.mk.injEq] at h
    obtain ⟨s1, hs1, rfl, rfl, rfl⟩ := h
    obtain ⟨zv, hz1, hz2⟩ := run_zeroValue' hz w e
    refine OpOut.alloc hrep hs1 ?_
    rw [den_new hrep]
    simp [execOp, ho, Instr.alloc, hz1, newVar, newRow, hz2]
  · cases h

theorem op_box {t : TypeId} {x : Operand} (ho : o.op = .box t x) (h : op1 P s o = some (as, v, s')) (hrep : Rep e W0 s w) (hev : ev x = (s.ev x).den e) : OpOut P e W0 s s' o ev v w := by
  simp only [op1, ho] at h
  split at h
  · rename_i y hy
    split at h
    · rename_i hone
      simp only [Option.map_eq_some_iff, Prod.mk.injEq] at h
      obtain ⟨s1, hs1, rfl, rfl, rfl⟩ := h
      refine OpOut.alloc hrep hs1 ?_
      have hsc : y.scp s.mem.length s.rows.length = true := by
        unfold St.new at hs1
        split at hs1
        · rename_i hc
          simp only [Bool.and_eq_true] at hc
          cases y <;> simpa [SW.scp, SW.cells] using hc.2
        · cases hs1
      rw [den_new hrep]
      rw [hy] at hev
      simp [execOp, ho, Instr.box, newVar, newRow, hev, SV.den, SW.cells_den hrep hone hsc]
    · cases h
  · cases h

theorem op_move {x : Operand} (ho : o.op = .move x ∨ o.op = .assign x) (h : op1 P s o = some (as, v, s')) (hrep : Rep e W0 s w) (hev : ev x = (s.ev x).den e) : OpOut P e W0 s s' o ev v w := by
  rcases ho with ho | ho <;> simp only [op1, ho, Option.some.injEq, Prod.mk.injEq] at h <;> obtain ⟨rfl, rfl, rfl⟩ := h <;>
    exact OpOut.same hrep (by simp [execOp, ho, hev])

theorem op_pick {c a b : Operand} (ho : o.op = .pick c a b) (h : op1 P s o = some (as, v, s')) (hrep : Rep e W0 s w) (hc : ev c = (s.ev c).den e) (ha : ev a = (s.ev a).den e) (hb : ev b = (s.ev b).den e) : OpOut P e W0 s s' o ev v w := by
  simp only [op1, ho] at h
  split at h
  · rename_i hx
    simp only [Option.some.injEq, Prod.mk.injEq] at h
    obtain ⟨rfl, rfl, rfl⟩ := h
    rw [hx] at hc
    exact OpOut.same hrep (by simp [execOp, ho, hc, ha, SV.den, SW.den, SC.den, B.den, asBool])
  · rename_i hx
    simp only [Option.some.injEq, Prod.mk.injEq] at h
    obtain ⟨rfl, rfl, rfl⟩ := h
    rw [hx] at hc
    exact OpOut.same hrep (by simp [execOp, ho, hc, hb, SV.den, SW.den, SC.den, B.den, asBool])
  · cases h

/-! ### loads -/
theorem getElem?_drop_take {α : Type} (l : List α) (off n j : Nat) : ((l.drop off).take n)[j]? = if j < n then l[off + j]? else none := by
  simp [List.getElem?_take, List.getElem?_drop]

theorem run_loadVar_at {t : TypeId} {cs : List SC} {off : Nat} {y : SW} (h : readS P t cs off = some y) (g : Nat) (base : Nat) (hcell : ∀ j, j < cs.length → w.cell? ⟨g, base + j, none⟩ = some ((cs.map (SC.den e)).getD j undef)) :
    (loadVar t ⟨g, base + off, none⟩).run P w = .ok (y.den e) w := by
  unfold readS at h
  split at h
  · cases h
  · rename_i hk
    simp only [Bool.not_eq_true] at hk
    split at h
    · rename_i hagg
      split at h
      · rename_i hle
        simp only [Option.some.injEq] at h
        subst h
        simp only [loadVar, Sem.run_bind, run_isAgg' hk, Result.andThen_ok, hagg, if_true, run_sizeOf' (infoSome hk), Sem.run_pure]
        have hl : ((cs.drop off).take (P.cellsOf t)).length = P.cellsOf t := by simp; omega
        have := run_loadCells_list (P := P) w ⟨g, base + off, none⟩ (((cs.drop off).take (P.cellsOf t)).map (SC.den e)) (fun j v hj => by
          rw [Addr.add_lit]
          rw [List.getElem?_map, getElem?_drop_take] at hj
          split at hj
          · rename_i hjn
            have hlt : off + j < cs.length := by omega
            rw [Nat.add_assoc, hcell (off + j) hlt]
            simp [hlt] at hj
            simp [List.getD, hlt, hj]
          · simp at hj)
        rw [List.length_map, hl] at this
        rw [this]
        simp [SW.den]
      · cases h
    · rename_i hagg
      simp only [Option.map_eq_some_iff] at h
      obtain ⟨c, hc, rfl⟩ := h
      have hlt : off < cs.length := (List.getElem?_eq_some_iff.1 hc).1
      simp only [loadVar, Sem.run_bind, run_isAgg' hk, Result.andThen_ok, hagg, Bool.false_eq_true, if_false, run_load, hcell off hlt]
      simp [List.getD, hc, SW.den]

theorem blk_cell (hrep : Rep e W0 s w) {n : Nat} {b : Blk} (hb : s.mem[n]? = some b) (hl : b.live = true) (j : Nat) (hj : j < b.cells.length) :
    w.cell? ⟨e.β.getD n 0, j, none⟩ = some ((b.cells.map (SC.den e)).getD j undef) := by
  have h1 := hrep.blk n b hb hl
  unfold World.cell?
  simp only [h1]
  simp [List.getD, hj]

theorem mkCells_length : ∀ {ks : List K} {xs : List Int}, xs.length = ks.length → (mkCells ks xs).length = ks.length
  | [], [], _ => rfl
  | _ :: ks, _ :: xs, h => by simp only [mkCells, List.length_cons] at h ⊢; rw [mkCells_length (by omega)]
  | [], _ :: _, h => by simp at h
  | _ :: _, [], h => by simp at h

theorem cellsL_at {ks : List K} : ∀ {l : List Int} {i j : Nat}, (∀ x ∈ l, (elt ks x).length = ks.length) → i < l.length → j < ks.length →
    (cellsL ks l)[i * ks.length + j]? = (mkCells ks (elt ks (l.getD i 0)))[j]?
  | [], _, _, _, hi, _ => by simp at hi
  | y :: l, 0, j, h, _, hj => by
    have h1 := mkCells_length (h y (by simp))
    simp only [cellsL, List.flatMap_cons, Nat.zero_mul, Nat.zero_add]
    rw [List.getElem?_append_left (by omega)]
    simp
  | y :: l, i + 1, j, h, hi, hj => by
    have h1 := mkCells_length (h y (by simp))
    have ih := cellsL_at (l := l) (i := i) (j := j) (fun z hz => h z (by simp [hz])) (by simpa using hi) hj
    simp only [cellsL, List.flatMap_cons] at ih ⊢
    rw [List.getElem?_append_right (by rw [h1, Nat.add_mul]; omega), h1, show (i + 1) * ks.length + j - ks.length = i * ks.length + j by rw [Nat.add_mul]; omega, ih]
    simp

theorem inB_den {c ix : E} {R : Fo} {r : List Int} (h : ∀ b ∈ inB c ix, b.den R r = true) : 0 ≤ ix.den R r ∧ (ix.den R r).toNat < (dec (c.den R r)).length ∧ ix.den R r < ((dec (c.den R r)).length : Int) := by
  have h1 := h (mkLe (.c 0) ix) (by simp [inB])
  have h2 := h (mkLt ix (mkLn c)) (by simp [inB])
  rw [mkLe_den, decide_eq_true_eq] at h1
  rw [mkLt_den, decide_eq_true_eq, mkLn_den] at h2
  simp only [E.den] at h1
  omega

theorem vB_den {c lo hi : E} {R : Fo} {r : List Int} (h : ∀ b ∈ vB c lo hi, b.den R r = true) : 0 ≤ lo.den R r ∧ lo.den R r ≤ hi.den R r ∧ hi.den R r ≤ ((dec (c.den R r)).length : Int) := by
  have h1 := h (mkLe (.c 0) lo) (by simp [vB])
  have h2 := h (mkLe lo hi) (by simp [vB])
  have h3 := h (mkLe hi (mkLn c)) (by simp [vB])
  rw [mkLe_den, decide_eq_true_eq] at h1 h2 h3
  rw [mkLn_den] at h3
  simp only [E.den] at h1
  exact ⟨h1, h2, h3⟩

theorem elemC_den {g : G} {ks : List K} {c ix : E} (h1 : (elt ks ((dec (c.den e.R e.r)).getD (ix.den e.R e.r).toNat 0)).length = ks.length) :
    (elemC g ks c ix).map (SC.den e) = mkCells ks (elt ks ((dec (c.den e.R e.r)).getD (ix.den e.R e.r).toNat 0)) := by
  have key : ∀ (ks : List K) (i : Nat) (es : List E), (cellsG g ix i ks es).map (SC.den e) = mkCells ks (es.map (E.den e.R e.r)) := by
    intro ks
    induction ks with
    | nil => intro i es; cases es <;> rfl
    | cons k ks ih =>
      intro i es
      cases es with
      | nil => cases k <;> rfl
      | cons x es =>
        cases k with
        | i k => simp only [cellsG, List.map_cons, ih, mkCells, K.mk, SC.den]
        | b =>
          simp only [cellsG, List.map_cons, ih, mkCells, K.mk, SC.den]
          congr 2
          unfold mkNz
          split <;> simp [B.den, E.den]
        | s ty kr => simp only [cellsG, List.map_cons, ih, mkCells, K.mk, SC.den, G.val]
  unfold elemC
  rw [key]
  congr 1
  rw [List.map_map]
  have hf : (E.den e.R e.r ∘ fun j => comp ks.length (mkAt c ix) j) = fun j => if ks.length = 1 then (dec (c.den e.R e.r)).getD (ix.den e.R e.r).toNat 0 else (dec ((dec (c.den e.R e.r)).getD (ix.den e.R e.r).toNat 0)).getD j 0 := by
    funext j
    simp only [Function.comp, comp_den, mkAt_den]
  rw [hf]
  generalize (dec (c.den e.R e.r)).getD (ix.den e.R e.r).toNat 0 = x at h1 ⊢
  unfold elt at h1 ⊢
  by_cases hk : ks.length = 1
  · simp [hk]
  · simp only [if_neg hk] at h1 ⊢
    apply List.ext_getElem?
    intro j
    by_cases hj : j < ks.length
    · rw [List.getElem?_map, List.getElem?_range hj]
      simp [List.getD, h1, hj]
    · rw [List.getElem?_eq_none (by simp; omega), List.getElem?_eq_none (by omega)]

theorem gp_spec (hrep : Rep e W0 s w) {g : G} {ks : List K} {c ix : E} (hg : gcode s g = some (ks, c)) (has : ∀ b ∈ inB c ix, b.den e.R e.r = true) :
    ∃ b off, (∀ size j, atV size (g.val e) (ix.den e.R e.r).toNat j = some ⟨b, off + ((ix.den e.R e.r).toNat * size + j), none⟩) ∧ (elt ks ((dec (c.den e.R e.r)).getD (ix.den e.R e.r).toNat 0)).length = ks.length ∧
      ∀ j, j < ks.length → w.cell? ⟨b, off + ((ix.den e.R e.r).toNat * ks.length + j), none⟩ = some (((elemC g ks c ix).map (SC.den e)).getD j undef) := by
  obtain ⟨h0, h1, h2⟩ := inB_den has
  rcases hrep.gread hg with ⟨_, hn⟩ | ⟨b, off, cap, hv, hle, hm, hel, hcell⟩
  · rw [hn] at h1; simp at h1
  · have hx := hel ((dec (c.den e.R e.r)).getD (ix.den e.R e.r).toNat 0) (by simp [List.getD, h1])
    refine ⟨b, off, fun size j => by rw [hv]; simp [atV, Addr.add_lit], hx, fun j hj => ?_⟩
    rw [elemC_den hx]
    refine hcell _ _ ?_
    rw [cellsL_at hel h1 hj]
    have := mkCells_length hx
    generalize mkCells ks (elt ks ((dec (c.den e.R e.r)).getD (ix.den e.R e.r).toNat 0)) = m at this ⊢
    simp [List.getD, this, hj]

theorem glob_cell (hrep : Rep e W0 s w) {g : Nat} {cs : List SC} (hcs : globS s.gl g = some cs) (j : Nat) (hj : j < cs.length) : w.cell? ⟨g, j, none⟩ = some ((cs.map (SC.den e)).getD j undef) := by
  unfold globS at hcs
  rw [Option.map_eq_some_iff] at hcs
  obtain ⟨p, hp, rfl⟩ := hcs
  have h1 := List.mem_of_find?_eq_some hp
  have h2 := List.find?_some hp
  simp only [beq_iff_eq] at h2
  subst h2
  simp only [List.length_map] at hj
  rw [hrep.glw p h1 j p.2[j] (List.getElem?_eq_getElem hj)]
  simp [List.getD, hj, SC.den, E.den]

theorem op_load {t : TypeId} {x : Operand} (ho : o.op = .load t x) (h : op1 P s o = some (as, v, s')) (hrep : Rep e W0 s w) (hev : ev x = (s.ev x).den e) (has : ∀ b ∈ as, b.den e.R e.r = true) : OpOut P e W0 s s' o ev v w := by
  simp only [op1, ho] at h
  split at h
  · rename_i n off hx
    rw [hx] at hev
    split at h
    · rename_i b hb
      split at h
      · rename_i hl
        simp only [Option.map_eq_some_iff, Prod.mk.injEq] at h
        obtain ⟨y, hy, rfl, rfl, rfl⟩ := h
        refine OpOut.same hrep ?_
        have := run_loadVar_at (w := w) (e := e) hy (e.β.getD n 0) 0 (fun j hj => by rw [Nat.zero_add]; exact blk_cell hrep hb hl j hj)
        rw [Nat.zero_add] at this
        simp only [execOp, ho, hev, SV.den, SW.den, SC.den, ownAddr, Instr.loadAt, Instr.sureAddr, Sem.run_bind, Sem.run_pure, Result.andThen_ok, this]
      · cases h
    · cases h
  · rename_i g size ix j hx
    rw [hx] at hev
    split at h
    · rename_i ks c hg
      split at h
      · rename_i hsz
        subst hsz
        simp only [Option.map_eq_some_iff, Prod.mk.injEq] at h
        obtain ⟨y, hy, rfl, rfl, rfl⟩ := h
        refine OpOut.same hrep ?_
        obtain ⟨b, off, hat, hx, hcell⟩ := gp_spec hrep hg has
        have hcl : (elemC g ks c ix).length = ks.length := by
          have h1 := congrArg List.length (elemC_den (e := e) (g := g) hx)
          rw [mkCells_length hx] at h1
          simpa using h1
        have := run_loadVar_at (w := w) (e := e) hy b (off + (ix.den e.R e.r).toNat * ks.length) (fun j hj => by rw [Nat.add_assoc]; exact hcell j (by omega))
        rw [Nat.add_assoc] at this
        simp only [execOp, ho, hev, SV.den, SW.den, SC.den, hat, Instr.loadAt, Instr.sureAddr, Sem.run_bind, Sem.run_pure, Result.andThen_ok, this]
      · cases h
    · cases h
  · rename_i g off hx
    rw [hx] at hev
    split at h
    · rename_i cs hcs
      simp only [Option.map_eq_some_iff, Prod.mk.injEq] at h
      obtain ⟨y, hy, rfl, rfl, rfl⟩ := h
      refine OpOut.same hrep ?_
      have := run_loadVar_at (w := w) (e := e) hy g 0 (fun j hj => by rw [Nat.zero_add]; exact glob_cell hrep hcs j hj)
      rw [Nat.zero_add] at this
      simp only [execOp, ho, hev, SV.den, SW.den, SC.den, Instr.loadAt, Instr.sureAddr, Sem.run_bind, Sem.run_pure, Result.andThen_ok, this]
    · cases h
  · cases h
end
end Go.Sx
namespace Go.Sx
open Go.RowKit

section
variable {P : Program} {e : Env} {W0 : Bas} {s s' : St} {o : Oper} {ev : Operand → Value} {v : SV} {w : World} {as : List B}

theorem setAt_den (e : Env) (cs new : List SC) (off : Nat) : (setAt cs off new).map (SC.den e) = (cs.map (SC.den e)).take off ++ new.map (SC.den e) ++ (cs.map (SC.den e)).drop (off + new.length) := by
  simp [setAt]

theorem flatC_den {e : Env} : ∀ {ks : List K} {cs : List SC} {es : List E}, flatC ks cs = some es → es.length = ks.length ∧ cs.map (SC.den e) = mkCells ks (es.map (E.den e.R e.r)) := by
  intro ks
  induction ks with
  | nil =>
    intro cs es h
    cases cs with
    | nil => simp only [flatC, Option.some.injEq] at h; subst h; simp [mkCells]
    | cons c cs => simp [flatC] at h
  | cons k ks ih =>
    intro cs es h
    unfold flatC at h
    split at h
    · simp_all
    · rename_i heq
      cases heq
      split at h
      · rename_i hk
        subst hk
        simp only [Option.map_eq_some_iff] at h
        obtain ⟨es', h', rfl⟩ := h
        obtain ⟨h1, h2⟩ := ih h'
        simp [h1, h2, mkCells, K.mk, SC.den]
      · cases h
    · rename_i heq
      cases heq
      simp only [Option.map_eq_some_iff] at h
      obtain ⟨es', h', rfl⟩ := h
      obtain ⟨h1, h2⟩ := ih h'
      cases ‹Bool› <;> simp [h1, h2, mkCells, K.mk, SC.den, B.den, E.den]
    · rename_i heq
      cases heq
      simp only [Option.map_eq_some_iff] at h
      obtain ⟨es', h', rfl⟩ := h
      obtain ⟨h1, h2⟩ := ih h'
      simp [h1, h2, mkCells, K.mk, SC.den, B.den]
    · cases h

theorem flatC_one {e : Env} : ∀ {ks : List K} {cs : List SC} {es : List E}, flatC ks cs = some es → ∀ c ∈ cs, (c.den e).oneCell' = true := by
  intro ks
  induction ks with
  | nil =>
    intro cs es h
    cases cs with
    | nil => simp
    | cons c cs => simp [flatC] at h
  | cons k ks ih =>
    intro cs es h
    unfold flatC at h
    split at h
    · simp_all
    · rename_i heq
      cases heq
      split at h
      · simp only [Option.map_eq_some_iff] at h
        obtain ⟨es', h', rfl⟩ := h
        intro c hc
        rcases List.mem_cons.1 hc with rfl | hc
        · rfl
        · exact ih h' c hc
      · cases h
    · rename_i heq
      cases heq
      simp only [Option.map_eq_some_iff] at h
      obtain ⟨es', h', rfl⟩ := h
      intro c hc
      rcases List.mem_cons.1 hc with rfl | hc
      · rfl
      · exact ih h' c hc
    · rename_i heq
      cases heq
      simp only [Option.map_eq_some_iff] at h
      obtain ⟨es', h', rfl⟩ := h
      intro c hc
      rcases List.mem_cons.1 hc with rfl | hc
      · rfl
      · exact ih h' c hc
    · cases h

theorem splice (cur new : List Value) (L m n j : Nat) (h1 : j + new.length ≤ n) (h2 : m + n ≤ L) (h3 : L ≤ cur.length) :
    (cur.take (m + j) ++ new ++ cur.drop (m + j + new.length)).take L =
      (cur.take L).take m ++ ((((cur.take L).drop m).take n).take j ++ new ++ (((cur.take L).drop m).take n).drop (j + new.length)) ++ (cur.take L).drop (m + n) := by
  apply List.ext_getElem?
  intro p
  simp only [List.getElem?_take, List.getElem?_append, List.length_append, List.length_take, List.length_drop, List.getElem?_drop]
  rw [Nat.min_eq_left (by omega : m + j ≤ cur.length), Nat.min_eq_left h3, Nat.min_eq_left (by omega : m ≤ L), Nat.min_eq_left (by omega : n ≤ L - m), Nat.min_eq_left (by omega : j ≤ n)]
  by_cases hp : p < L <;> by_cases p1 : p < m <;> by_cases p2 : p < m + j <;> by_cases p3 : p < m + j + new.length <;> by_cases p4 : p < m + n <;>
    first
    | omega
    | ((repeat (first | rw [if_pos (by omega)] | rw [if_neg (by omega)])) <;> first | done | rfl | (congr 1; omega))

theorem elem_slice {ks : List K} {l : List Int} {i : Nat} (h : ∀ x ∈ l, (elt ks x).length = ks.length) (hi : i < l.length) :
    ((cellsL ks l).drop (i * ks.length)).take ks.length = mkCells ks (elt ks (l.getD i 0)) := by
  apply List.ext_getElem?
  intro j
  rw [List.getElem?_take, List.getElem?_drop]
  have hx := mkCells_length (h (l.getD i 0) (by simp [List.getD, hi]))
  split
  · rename_i hj
    exact cellsL_at h hi hj
  · rw [List.getElem?_eq_none (by omega)]

theorem op_store {t : TypeId} {a x : Operand} (ho : o.op = .store t a x) (h : op1 P s o = some (as, v, s')) (hrep : Rep e W0 s w) (ha : ev a = (s.ev a).den e) (hx : ev x = (s.ev x).den e) (has : ∀ b ∈ as, b.den e.R e.r = true) : OpOut P e W0 s s' o ev v w := by
  simp only [op1, ho] at h
  split at h
  · rename_i n off y hea hex
    split at h
    · rename_i b hb
      split at h
      · rename_i hc
        simp only [Bool.and_eq_true, decide_eq_true_eq] at hc
        obtain ⟨⟨⟨⟨⟨⟨hl, hinf⟩, hfl⟩, hsz⟩, hoff⟩, hone⟩, hys⟩ := hc
        simp only [Option.some.injEq, Prod.mk.injEq] at h
        obtain ⟨rfl, rfl, rfl⟩ := h
        rw [hea] at ha
        rw [hex] at hx
        have hx' : ev x = y.den e := hx
        have hcells := SW.cells_den hrep hone hys
        have hst := run_storeCells_at P (e.β.getD n 0) off b.ty (y.cells.map (SC.den e)) 0 _ w (hrep.blk n b hb hl) (by simpa using hoff) (fun u hu => by
          obtain ⟨c, hc, rfl⟩ := List.mem_map.1 hu
          refine SC.den_one' hrep (List.all_eq_true.1 hone c hc) ?_
          cases y with
          | o c' => simp only [SW.cells, List.mem_singleton] at hc; subst hc; exact hys
          | a cs => exact List.all_eq_true.1 hys c hc)
        refine ⟨rfl, rfl, rfl, rfl, rfl, rfl, e, _, .skip, ?_, .inr ⟨rfl, rfl⟩, hrep.store hb hl hfl (setAt b.cells off y.cells), Env.le_refl _, rfl, rfl, rfl, fun _ _ => rfl⟩
        have ha' : ev a = .pointer (some ⟨e.β.getD n 0, off, none⟩) := ha
        simp only [execOp, ho, ha', hx', Instr.storeAt, Instr.sureAddr, Sem.run_bind, Sem.run_pure, Result.andThen_ok, storeVar, run_sizeOf' hinf, Sem.run_ite]
        rw [hcells, if_neg (by simp [hsz])]
        simp only [Nat.add_zero] at hst
        rw [hst]
        simp [setAt_den]
      · cases h
    · cases h
  · rename_i n size ix j y hea hex
    split at h
    · rename_i b hb
      split at h
      · rename_i hc
        simp only [Bool.and_eq_true, decide_eq_true_eq] at hc
        obtain ⟨⟨⟨⟨⟨hl, hinf⟩, hfl⟩, hsize⟩, hsz⟩, hj⟩ := hc
        split at h
        · rename_i es hes
          simp only [Option.some.injEq, Prod.mk.injEq] at h
          obtain ⟨rfl, rfl, rfl⟩ := h
          rw [hea] at ha
          rw [hex] at hx
          have hx' : ev x = y.den e := hx
          obtain ⟨h0, h1, h2⟩ := inB_den has
          have hrow := hrep.row n b hb hl
          obtain ⟨g, cap, cur, hv, hob, hk0, hel, hg, hle, hm, hcs, htake⟩ := hrow.block (fun hn => by rw [hn] at h1; simp at h1)
          have hxe := hel ((dec (b.c.den e.R e.r)).getD (ix.den e.R e.r).toNat 0) (by simp [List.getD, h1])
          obtain ⟨hel1, hel2⟩ := flatC_den (e := e) hes
          have hecl : (elemC (.o n) b.ks b.c ix).length = b.ks.length := by
            have h1 := congrArg List.length (elemC_den (e := e) (g := .o n) hxe)
            rw [mkCells_length hxe] at h1
            simpa using h1
          have hmem : ∀ c ∈ y.cells, c ∈ setAt (elemC (.o n) b.ks b.c ix) j y.cells := fun c hc => by simp [setAt, hc]
          have hcells : (y.den e).cells = (y.cells.map (SC.den e)).toArray := by
            cases y with
            | o c => exact cells_of_one (flatC_one (e := e) hes c (hmem c (by simp [SW.cells])))
            | a cs => rfl
          have hcur : cur.toList.length = cap * b.ks.length := by simpa using hcs
          have hlen : (cellsL b.ks (dec (b.c.den e.R e.r))).length = (dec (b.c.den e.R e.r)).length * b.ks.length := cellsL_length hel
          have hmul : (ix.den e.R e.r).toNat * b.ks.length + b.ks.length ≤ (dec (b.c.den e.R e.r)).length * b.ks.length := by
            rw [← Nat.succ_mul]; exact Nat.mul_le_mul_right _ h1
          have hmul2 : (dec (b.c.den e.R e.r)).length * b.ks.length ≤ cap * b.ks.length := Nat.mul_le_mul_right _ hle
          have hst := run_storeCells_at P g ((ix.den e.R e.r).toNat * b.ks.length + j) b.ty (y.cells.map (SC.den e)) 0 _ w hg (by
            simp only [List.length_map]; omega) (fun u hu => by
            obtain ⟨c, hc, rfl⟩ := List.mem_map.1 hu
            exact flatC_one (e := e) hes c (hmem c hc))
          have hnew : (dec ((mkSet b.c ix (elemE es)).den e.R e.r)) = (dec (b.c.den e.R e.r)).set (ix.den e.R e.r).toNat ((elemE es).den e.R e.r) := by rw [mkSet_den, dec_cod]
          have helt : elt b.ks ((elemE es).den e.R e.r) = es.map (E.den e.R e.r) := elemE_elt _ _ hel1
          have heltl : (elt b.ks ((elemE es).den e.R e.r)).length = b.ks.length := by rw [helt]; simpa using hel1
          have hcl : cellsL b.ks (dec ((mkSet b.c ix (elemE es)).den e.R e.r)) = (cur.toList.take ((ix.den e.R e.r).toNat * b.ks.length + j) ++ y.cells.map (SC.den e) ++ cur.toList.drop ((ix.den e.R e.r).toNat * b.ks.length + j + y.cells.length)).take ((dec (b.c.den e.R e.r)).length * b.ks.length) := by
            rw [hnew, cellsL_set heltl _ hel h1, helt, ← hel2]
            have hsp := splice cur.toList (y.cells.map (SC.den e)) ((dec (b.c.den e.R e.r)).length * b.ks.length) ((ix.den e.R e.r).toNat * b.ks.length) b.ks.length j (by simpa using hj) hmul (by rw [hcur]; exact hmul2)
            rw [List.length_map] at hsp
            rw [hsp, htake, elem_slice hel h1, ← elemC_den (g := .o n) hxe]
            simp only [setAt, List.map_append, List.map_take, List.map_drop]
          have hrow' : RowOK (w.setRow g (cur.toList.take ((ix.den e.R e.r).toNat * b.ks.length + j) ++ y.cells.map (SC.den e) ++ cur.toList.drop ((ix.den e.R e.r).toNat * b.ks.length + j + y.cells.length)).toArray) b.ty b.ks ((G.o n).val e) ((mkSet b.c ix (elemE es)).den e.R e.r) := by
            refine .inr ⟨hk0, ?_, ?_, .inr ⟨g, cap, _, ?_, Nat.zero_le _, setRow_heap w g cur _ _ _ hg, ?_, hm, ?_, ?_⟩⟩
            · rw [hnew]
              intro z hz
              rcases List.mem_or_eq_of_mem_set hz with hz | hz
              · exact hel z hz
              · rw [hz]; exact heltl
            · rw [cellsL_length]
              rw [hnew]
              intro z hz
              rcases List.mem_or_eq_of_mem_set hz with hz | hz
              · exact hel z hz
              · rw [hz]; exact heltl
            · rw [hv, hnew, List.length_set]
            · rw [hnew, List.length_set]; exact hle
            · simp only [List.size_toArray, List.length_append, List.length_take, List.length_drop, List.length_map, hcur]
              omega
            · rw [hcl, hnew, List.length_set]
          refine ⟨rfl, rfl, rfl, rfl, rfl, rfl, e, _, .skip, ?_, .inr ⟨rfl, rfl⟩, hrep.storeRow hb hl hfl hob _ hrow', Env.le_refl _, rfl, rfl, rfl, fun _ _ => rfl⟩
          have ha' : ev a = .pointer (some ⟨g, (ix.den e.R e.r).toNat * b.ks.length + j, none⟩) := by
            rw [ha]
            simp only [SV.den, SW.den, SC.den]
            rw [hv, hsize]
            simp [atV, Addr.add_lit]
          simp only [execOp, ho, ha', hx', Instr.storeAt, Instr.sureAddr, Sem.run_bind, Sem.run_pure, Result.andThen_ok, storeVar, run_sizeOf' hinf, Sem.run_ite]
          rw [hcells, if_neg (by simp [hsz])]
          simp only [Nat.add_zero] at hst
          rw [hst]
          simp
        · cases h
      · cases h
    · cases h
  · cases h

theorem op_nilCheck {x : Operand} (ho : o.op = .nilCheck x) (h : op1 P s o = some (as, v, s')) (hrep : Rep e W0 s w) (hev : ev x = (s.ev x).den e) (has : ∀ b ∈ as, b.den e.R e.r = true) : OpOut P e W0 s s' o ev v w := by
  simp only [op1, ho] at h
  split at h
  · rename_i hx
    simp only [Option.some.injEq, Prod.mk.injEq] at h
    obtain ⟨rfl, rfl, rfl⟩ := h
    rw [hx] at hev
    exact OpOut.same hrep (by simp [execOp, ho, hev, one, SV.den, SW.den, SC.den, ownAddr])
  · rename_i hx
    rw [hx] at hev
    split at h
    · rename_i hg
      simp only [Option.some.injEq, Prod.mk.injEq] at h
      obtain ⟨rfl, rfl, rfl⟩ := h
      obtain ⟨b, off, hat, _, _⟩ := gp_spec hrep hg has
      exact OpOut.same hrep (by simp [execOp, ho, hev, one, SV.den, SW.den, SC.den, hat])
    · cases h
  · rename_i hx
    simp only [Option.some.injEq, Prod.mk.injEq] at h
    obtain ⟨rfl, rfl, rfl⟩ := h
    rw [hx] at hev
    exact OpOut.same hrep (by simp [execOp, ho, hev, one, SV.den, SW.den, SC.den, ownAddr])
  · cases h

theorem op_un {u : UnOp} {t : TypeId} {x : Operand} (ho : o.op = .unOp u t x) (h : op1 P s o = some (as, v, s')) (hrep : Rep e W0 s w) (hev : ev x = (s.ev x).den e) : OpOut P e W0 s s' o ev v w := by
  simp only [op1, ho] at h
  split at h <;> first
    | (rename_i hx
       simp only [Option.some.injEq, Prod.mk.injEq] at h
       obtain ⟨rfl, rfl, rfl⟩ := h
       rw [hx] at hev
       exact OpOut.same hrep (by simp [execOp, ho, hev, one, SV.den, SW.den, SC.den, Op.unary, Op.intArith, mkSub_den, mkNot_den, E.den]))
    | cases h

theorem op_convert {a b : TypeId} {x : Operand} (ho : o.op = .convert a b x) (h : op1 P s o = some (as, v, s')) (hrep : Rep e W0 s w) (hev : ev x = (s.ev x).den e) : OpOut P e W0 s s' o ev v w := by
  simp only [op1, ho] at h
  split at h
  · rename_i h1 h2 hx
    simp only [Option.some.injEq, Prod.mk.injEq] at h
    obtain ⟨rfl, rfl, rfl⟩ := h
    rw [hx] at hev
    exact OpOut.same hrep (by simp [execOp, ho, hev, one, SV.den, SW.den, SC.den, convert, run_underlying h1, run_underlying h2, Conv.intToInt, mkCv_den])
  · cases h

theorem op_extract {x : Operand} {ix : Nat} (ho : o.op = .extract x ix) (h : op1 P s o = some (as, v, s')) (hrep : Rep e W0 s w) (hev : ev x = (s.ev x).den e) : OpOut P e W0 s s' o ev v w := by
  simp only [op1, ho] at h
  split at h
  · rename_i xs hx
    simp only [Option.map_eq_some_iff, Prod.mk.injEq] at h
    obtain ⟨y, hy, rfl, rfl, rfl⟩ := h
    rw [hx] at hev
    exact OpOut.same hrep (by simp [execOp, ho, hev, SV.den, Instr.extract, hy])
  · cases h

/-! ### parts, fields, indexes -/
theorem run_part {t : TypeId} {cs : List SC} {off : Nat} {y : SW} (h : partS P t cs off = some y) : (part t (cs.map (SC.den e)).toArray off).run P w = .ok (y.den e) w := by
  unfold partS at h
  split at h
  · cases h
  · rename_i hk
    simp only [Bool.not_eq_true] at hk
    split at h
    · rename_i hagg
      simp only [Option.some.injEq] at h
      subst h
      simp only [part, Sem.run_bind, run_isAgg' hk, Result.andThen_ok, hagg, if_true, run_sizeOf' (infoSome hk), Sem.run_pure, SW.den]
      congr 2
      apply Array.ext'
      simp
    · rename_i hagg
      simp only [Option.map_eq_some_iff] at h
      obtain ⟨c, hc, rfl⟩ := h
      simp only [part, Sem.run_bind, run_isAgg' hk, Result.andThen_ok, hagg, Bool.false_eq_true, if_false]
      simp [hc, SW.den]

theorem op_field {t : TypeId} {x : Operand} {f : Nat} (ho : o.op = .field t x f) (h : op1 P s o = some (as, v, s')) (hrep : Rep e W0 s w) (hev : ev x = (s.ev x).den e) : OpOut P e W0 s s' o ev v w := by
  simp only [op1, ho] at h
  split at h
  · rename_i fields cs hu hx
    split at h
    · rename_i fd hf
      simp only [Option.map_eq_some_iff, Prod.mk.injEq] at h
      obtain ⟨y, hy, rfl, rfl, rfl⟩ := h
      rw [hx] at hev
      refine OpOut.same hrep ?_
      simp only [execOp, ho, hev, SV.den, SW.den, Instr.field, Sem.run_bind, run_underlying hu, Result.andThen_ok, hf, asAgg, Sem.run_pure, run_part hy]
    · cases h
  · cases h

theorem op_fieldAddr {t : TypeId} {x : Operand} {f : Nat} (ho : o.op = .fieldAddr t x f) (h : op1 P s o = some (as, v, s')) (hrep : Rep e W0 s w) (hev : ev x = (s.ev x).den e) (has : ∀ b ∈ as, b.den e.R e.r = true) : OpOut P e W0 s s' o ev v w := by
  simp only [op1, ho] at h
  split at h
  · rename_i fields hu
    split at h
    · rename_i fd hf
      split at h
      · cases h
      · rename_i hz
        simp only [Bool.or_eq_true, decide_eq_true_eq, not_or, Bool.not_eq_true] at hz
        have hinf : (P.info? fd.type).isSome = true := by
          cases hi : P.info? fd.type <;> simp_all
        have hrun : ∀ a : Addr, (Instr.fieldAt t (.pointer (some a)) f).run P w = .ok (.pointer (some (a.add fd.offset))) w := fun a => by
          simp only [Instr.fieldAt, Sem.run_bind, run_underlying hu, Result.andThen_ok, hf, Instr.sureAddr, Sem.run_pure, fieldPlace, run_sizeOf' hinf, Sem.run_ite, if_neg hz.1]
        split at h
        · rename_i n off hx
          simp only [Option.some.injEq, Prod.mk.injEq] at h
          obtain ⟨rfl, rfl, rfl⟩ := h
          rw [hx] at hev
          exact OpOut.same hrep (by simp only [execOp, ho, hev, one, SV.den, SW.den, SC.den, ownAddr, Sem.run_bind, hrun, Result.andThen_ok, Sem.run_pure, Addr.add_lit])
        · rename_i g size ix j hx
          rw [hx] at hev
          split at h
          · rename_i c hg
            simp only [Option.some.injEq, Prod.mk.injEq] at h
            obtain ⟨rfl, rfl, rfl⟩ := h
            obtain ⟨b, off, hat, _, _⟩ := gp_spec hrep hg has
            have hev' : ev x = .pointer (some ⟨b, off + ((ix.den e.R e.r).toNat * size + j), none⟩) := by rw [hev]; simp only [SV.den, SW.den, SC.den, hat]
            refine OpOut.same hrep ?_
            simp only [execOp, ho, hev', Sem.run_bind, hrun, Result.andThen_ok, Sem.run_pure, Addr.add_lit, one, SV.den, SW.den, SC.den, hat]
            congr 5
            omega
          · cases h
        · cases h
    · cases h
  · cases h
end
end Go.Sx
namespace Go.Sx
open Go.RowKit

section
variable {P : Program} {e : Env} {W0 : Bas} {s s' : St} {o : Oper} {ev : Operand → Value} {v : SV} {w : World} {as : List B}

theorem constOf_den {x : SV} {i : Nat} (h : constOf x = some i) (e : Env) : ∃ k, x.den e = .int k (i : Int) := by
  unfold constOf at h
  split at h
  · rename_i k n
    split at h
    · rename_i hn
      simp only [Option.some.injEq] at h
      subst h
      exact ⟨k, by simp [SV.den, SW.den, SC.den, E.den, Int.toNat_of_nonneg hn]⟩
    · cases h
  · cases h

theorem intE_den {x : SV} {i : E} (h : intE x = some i) (e : Env) : ∃ k, x.den e = .int k (i.den e.R e.r) := by
  unfold intE at h
  split at h
  · rename_i k n
    simp only [Option.some.injEq] at h
    subst h
    exact ⟨k, rfl⟩
  · cases h

theorem op_indexAddr {t : TypeId} {x ix : Operand} (ho : o.op = .indexAddr t x ix) (h : op1 P s o = some (as, v, s')) (hrep : Rep e W0 s w) (hev : ev x = (s.ev x).den e) (hix : ev ix = (s.ev ix).den e) (has : ∀ b ∈ as, b.den e.R e.r = true) : OpOut P e W0 s s' o ev v w := by
  simp only [op1, ho] at h
  have arr : ∀ {len : Nat} {elem : TypeId} {i : Nat} {k : IntKind} (a : Addr), P.underlying t = some (.array len elem) → (P.info? elem).isSome = true → i < len → ev ix = .int k (i : Int) → ev x = .pointer (some a) →
      (execOp ev o).run P w = .ok (.value (.pointer (some (a.add (i * P.cellsOf elem))))) w := by
    intro len elem i k a hu hinf hi he hx
    simp only [execOp, ho, Instr.indexAt, he, hx, asIntOf, Sem.run_bind, Sem.run_pure, Result.andThen_ok, run_underlying hu, Instr.sureAddr, Sem.run_ite, run_sizeOf' hinf]
    rw [if_pos ⟨by omega, by omega⟩]
    simp
  have slc : ∀ {len cap : Nat} {elem : TypeId} {i : Int} {k : IntKind} (a : Addr), P.underlying t = some (.slice elem) → (P.info? elem).isSome = true → 0 ≤ i → i < (len : Int) → ev ix = .int k i → ev x = .slice (some a) len cap →
      (execOp ev o).run P w = .ok (.value (.pointer (some (a.add (i.toNat * P.cellsOf elem))))) w := by
    intro len cap elem i k a hu hinf hi0 hi he hx
    simp only [execOp, ho, Instr.indexAt, he, hx, asIntOf, Sem.run_bind, Sem.run_pure, Result.andThen_ok, run_underlying hu, Sem.run_ite, run_sizeOf' hinf]
    rw [if_pos ⟨by omega, by omega⟩]
    rfl
  split at h
  · rename_i len elem n off hu hx
    rw [hx] at hev
    split at h
    · rename_i i hi
      split at h
      · rename_i hc
        simp only [Bool.and_eq_true, decide_eq_true_eq] at hc
        simp only [Option.some.injEq, Prod.mk.injEq] at h
        obtain ⟨rfl, rfl, rfl⟩ := h
        obtain ⟨k, hk⟩ := constOf_den hi e
        refine OpOut.same hrep ?_
        rw [arr ⟨e.β.getD n 0, off, none⟩ hu hc.2 hc.1 (hix.trans hk) hev, Addr.add_lit]
        rfl
      · cases h
    · cases h
  · rename_i len elem g size gx j hu hx
    rw [hx] at hev
    split at h
    · rename_i hbig
      simp only [Bool.and_eq_true, decide_eq_true_eq] at hbig
      obtain ⟨_, rfl, hlen, rfl, hgx⟩ := hbig
      have hgx := E.same_eq _ _ hgx
      subst hgx
      split at h
      · rename_i ie ks c hie hg
        split at h
        · rename_i hinf
          simp only [Option.some.injEq, Prod.mk.injEq] at h
          obtain ⟨rfl, rfl, rfl⟩ := h
          obtain ⟨k, hk⟩ := intE_den hie e
          obtain ⟨h0, h1, h2⟩ := inB_den (c := c) (ix := ie) (fun b hb => has b (List.mem_append_left _ hb))
          have h3 := has (mkLt ie (.c len)) (by simp)
          rw [mkLt_den, decide_eq_true_eq] at h3
          simp only [E.den] at h3
          refine OpOut.same hrep ?_
          rcases hrep.gread hg with ⟨_, hn⟩ | ⟨b, off, cap, hv, hle, hm, hel, hcell⟩
          · rw [hn] at h1; simp at h1
          · obtain ⟨m, hm'⟩ := Int.eq_ofNat_of_zero_le h0
            rw [arr (i := m) (k := k) ⟨b, off, none⟩ hu hinf (by omega) (by rw [hix.trans hk, hm']) (hev.trans (by simp [SV.den, SW.den, SC.den, hv, atV, Addr.add_lit, E.den])), Addr.add_lit]
            simp [one, SV.den, SW.den, SC.den, hv, atV, Addr.add_lit, hm']
        · cases h
      · cases h
    split at h
    · rename_i i ks c hi hg
      split at h
      · rename_i hc
        simp only [Bool.and_eq_true, decide_eq_true_eq] at hc
        simp only [Option.some.injEq, Prod.mk.injEq] at h
        obtain ⟨rfl, rfl, rfl⟩ := h
        obtain ⟨k, hk⟩ := constOf_den hi e
        obtain ⟨b, off, hat, _, _⟩ := gp_spec hrep hg has
        refine OpOut.same hrep ?_
        rw [arr ⟨b, off + ((gx.den e.R e.r).toNat * size + j), none⟩ hu hc.2 hc.1 (hix.trans hk) (hev.trans (by simp only [SV.den, SW.den, SC.den, hat])), Addr.add_lit]
        simp only [one, SV.den, SW.den, SC.den, hat]
        congr 5
        omega
      · cases h
    · cases h
  · rename_i elem n off len cap hu hx
    rw [hx] at hev
    split at h
    · rename_i i hi
      split at h
      · rename_i hc
        simp only [Bool.and_eq_true, decide_eq_true_eq] at hc
        simp only [Option.some.injEq, Prod.mk.injEq] at h
        obtain ⟨rfl, rfl, rfl⟩ := h
        obtain ⟨k, hk⟩ := constOf_den hi e
        refine OpOut.same hrep ?_
        rw [slc ⟨e.β.getD n 0, off, none⟩ hu hc.2 (by omega) (by omega) (hix.trans hk) hev, Addr.add_lit]
        simp [one, SV.den, SW.den, SC.den, ownAddr]
      · cases h
    · cases h
  · rename_i elem g hu hx
    rw [hx] at hev
    split at h
    · rename_i ie ks c hi hg
      split at h
      · rename_i hinf
        simp only [Option.some.injEq, Prod.mk.injEq] at h
        obtain ⟨rfl, rfl, rfl⟩ := h
        obtain ⟨k, hk⟩ := intE_den hi e
        obtain ⟨h0, h1, h2⟩ := inB_den has
        refine OpOut.same hrep ?_
        rcases hrep.gread hg with ⟨_, hn⟩ | ⟨b, off, cap, hv, hle, hm, hel, hcell⟩
        · rw [hn] at h1; simp at h1
        · rw [slc ⟨b, off, none⟩ hu hinf h0 h2 (hix.trans hk) (hev.trans hv), Addr.add_lit]
          simp only [one, SV.den, SW.den, SC.den, hv, atV, Addr.add_lit, Nat.add_zero]
      · cases h
    · cases h
  · rename_i elem g size lo hi hu hx
    rw [hx] at hev
    split at h
    · rename_i ie ks c hie hg
      split at h
      · rename_i hc
        simp only [Bool.and_eq_true, decide_eq_true_eq] at hc
        obtain ⟨hinf, rfl⟩ := hc
        simp only [Option.some.injEq, Prod.mk.injEq] at h
        obtain ⟨rfl, rfl, rfl⟩ := h
        obtain ⟨k, hk⟩ := intE_den hie e
        obtain ⟨v1, v2, v3⟩ := vB_den (c := c) (lo := lo) (hi := hi) (fun b hb => has b (List.mem_append_left _ hb))
        have h1 := has (mkLe (.c 0) ie) (by simp)
        have h2 := has (mkLt ie (minusE hi lo)) (by simp)
        rw [mkLe_den, decide_eq_true_eq] at h1
        rw [mkLt_den, decide_eq_true_eq] at h2
        simp only [E.den] at h1
        refine OpOut.same hrep ?_
        rcases hrep.gread hg with ⟨_, hn⟩ | ⟨b, off, cap, hv, hle, hm, hel, hcell⟩
        · rw [hn] at v3
          simp only [List.length_nil] at v3
          have hmin : (minusE hi lo).den e.R e.r = hi.den e.R e.r - lo.den e.R e.r := minusE_den _ _ (by omega) (by simp at v3; omega)
          rw [hmin] at h2
          simp at v3
          omega
        · have hml : ((dec (c.den e.R e.r)).length : Int) ≤ 9223372036854775807 := by simp only [maxLen] at hm; omega
          have hmin : (minusE hi lo).den e.R e.r = hi.den e.R e.r - lo.den e.R e.r := minusE_den _ _ (by omega) (by omega)
          rw [hmin] at h2
          have hpl : (plusE lo ie).den e.R e.r = lo.den e.R e.r + ie.den e.R e.r := plusE_den _ _ (by omega) (by omega)
          have hcl : cap ≠ (lo.den e.R e.r).toNat := by omega
          have hev' : ev x = .slice (some ⟨b, off + (lo.den e.R e.r).toNat * P.cellsOf elem, none⟩) ((hi.den e.R e.r).toNat - (lo.den e.R e.r).toNat) (cap - (lo.den e.R e.r).toNat) := by
            rw [hev]
            simp only [SV.den, SW.den, SC.den, hv, subV, if_neg hcl, Option.map_some, Addr.add_lit]
          rw [slc _ hu hinf h1 (by omega) (hix.trans hk) hev', Addr.add_lit]
          simp only [one, SV.den, SW.den, SC.den, hv, atV, Addr.add_lit, Nat.add_zero, hpl]
          congr 5
          rw [Int.toNat_add v1 h1, Nat.add_mul]
          omega
      · cases h
    · cases h
  · cases h

theorem op_index {t : TypeId} {x ix : Operand} (ho : o.op = .index t x ix) (h : op1 P s o = some (as, v, s')) (hrep : Rep e W0 s w) (hev : ev x = (s.ev x).den e) (hix : ev ix = (s.ev ix).den e) : OpOut P e W0 s s' o ev v w := by
  simp only [op1, ho] at h
  split at h
  · rename_i len elem cs i hu hx hi
    split at h
    · rename_i hc
      simp only [Bool.and_eq_true, decide_eq_true_eq] at hc
      simp only [Option.map_eq_some_iff, Prod.mk.injEq] at h
      obtain ⟨y, hy, rfl, rfl, rfl⟩ := h
      rw [hx] at hev
      obtain ⟨k, hk⟩ := constOf_den hi e
      have hix' := hix.trans hk
      have hev' : ev x = .agg (cs.map (SC.den e)).toArray := hev
      refine OpOut.same hrep ?_
      simp only [execOp, ho, Instr.index, hix', hev', asIntOf, Sem.run_bind, Sem.run_pure, Result.andThen_ok, run_underlying hu, Sem.run_ite, run_sizeOf' hc.2]
      rw [if_pos ⟨by omega, by omega⟩]
      simp [run_part hy, SV.den]
    · cases h
  · cases h

theorem op_makeFunc {fn : Fn} {first caps : Array Operand} (ho : o.op = .makeFunc fn first caps) (h : op1 P s o = some (as, v, s')) (hrep : Rep e W0 s w) (hev : ∀ x ∈ caps, ev x = (s.ev x).den e) : OpOut P e W0 s s' o ev v w := by
  simp only [op1, ho] at h
  split at h
  · rename_i f hf
    simp only [Option.map_eq_some_iff, Prod.mk.injEq] at h
    obtain ⟨l, hl, rfl, rfl, rfl⟩ := h
    have hfirst : first = #[] := by
      apply Array.ext'
      simpa using hf
    subst hfirst
    have key : ∀ (cs : List Operand) (l : List (Nat × Nat)), (∀ x ∈ cs, ev x = (s.ev x).den e) → capsS s cs = some l → cs.map ev = l.map fun c => ownAddr e c.1 c.2 := by
      intro cs
      induction cs with
      | nil => intro l _ hl; simp [capsS] at hl; simp [← hl]
      | cons c cs ih =>
        intro l hcs hl
        simp only [capsS] at hl
        split at hl
        · rename_i n off l' hx hl'
          simp only [Option.some.injEq] at hl
          subst hl
          have := ih l' (fun x hx => hcs x (by simp [hx])) hl'
          rw [List.map_cons, this, hcs c (by simp), hx]
          rfl
        · cases hl
    have hk := key caps.toList l (fun x hx => hev x (by simpa using hx)) hl
    refine OpOut.same hrep ?_
    have hk' : caps.map ev = (l.map fun c => ownAddr e c.1 c.2).toArray := by
      apply Array.ext'
      simpa using hk
    simp [execOp, ho, Instr.makeFunc, hk', one, SV.den, SW.den, SC.den]
  · cases h

/-! ### slices -/
theorem boundS_run {x : Option Operand} {dflt i : Nat} (h : boundS s x dflt = some i) (hev : ∀ y ∈ x, ev y = (s.ev y).den e) :
    (x = none ∧ i = dflt) ∨ ∃ y k, x = some y ∧ ev y = .int k (i : Int) := by
  unfold boundS at h
  split at h
  · exact .inl ⟨rfl, by simpa using h.symm⟩
  · rename_i y
    obtain ⟨k, hk⟩ := constOf_den h e
    exact .inr ⟨y, k, rfl, (hev y rfl).trans hk⟩

theorem run_sliceBounds' {isSlice : Bool} {len cap l h : Nat} {lo hi : Option Value} (hh : (hi = none ∧ h = len) ∨ ∃ k, hi = some (.int k (h : Int))) (hl : (lo = none ∧ l = 0) ∨ ∃ k, lo = some (.int k (l : Int))) (h1 : l ≤ h) (h2 : h ≤ cap) :
    (Instr.sliceBounds isSlice len cap lo hi none).run P w = .ok (l, h, cap) w := by
  rcases hh with ⟨rfl, rfl⟩ | ⟨k, rfl⟩ <;> rcases hl with ⟨rfl, rfl⟩ | ⟨k', rfl⟩ <;>
    simp [Instr.sliceBounds, Instr.sliceBound, asIntOf, h1, h2]

theorem bndE_run {x : Option Operand} {dflt i : E} (h : bndE s x dflt = some i) (hev : ∀ y ∈ x, ev y = (s.ev y).den e) :
    (x = none ∧ i = dflt) ∨ ∃ y k, x = some y ∧ ev y = .int k (i.den e.R e.r) := by
  unfold bndE at h
  split at h
  · exact .inl ⟨rfl, by simpa using h.symm⟩
  · rename_i y
    obtain ⟨k, hk⟩ := intE_den h e
    exact .inr ⟨y, k, rfl, (hev y rfl).trans hk⟩

theorem run_sliceBounds0 {len cap : Nat} {lo hi mx : Option Value} (hh : ∃ k, hi = some (.int k 0)) (hm : ∃ k, mx = some (.int k 0)) (hl : lo = none ∨ ∃ k, lo = some (.int k 0)) :
    (Instr.sliceBounds true len cap lo hi mx).run P w = .ok (0, 0, 0) w := by
  obtain ⟨k, rfl⟩ := hh
  obtain ⟨k', rfl⟩ := hm
  rcases hl with rfl | ⟨k'', rfl⟩ <;> simp [Instr.sliceBounds, Instr.sliceBound, asIntOf]

theorem run_sliceBoundsE {len cap : Nat} {l h : Int} {lo hi : Option Value} (hh : (hi = none ∧ h = len) ∨ ∃ k, hi = some (.int k h)) (hl : (lo = none ∧ l = 0) ∨ ∃ k, lo = some (.int k l)) (h0 : 0 ≤ l) (h1 : l ≤ h) (h2 : h ≤ (cap : Int)) :
    (Instr.sliceBounds true len cap lo hi none).run P w = .ok (l.toNat, h.toNat, cap) w := by
  have e2 : 0 ≤ h := by omega
  have e3 : l ≤ ((h.toNat : Nat) : Int) := by omega
  rcases hh with ⟨rfl, rfl⟩ | ⟨k, rfl⟩ <;> rcases hl with ⟨rfl, rfl⟩ | ⟨k', rfl⟩
  · simp [Instr.sliceBounds]
  · simp [Instr.sliceBounds, Instr.sliceBound, asIntOf, h0, h1]
  · simp [Instr.sliceBounds, Instr.sliceBound, asIntOf, e2, h2]
  · simp [Instr.sliceBounds, Instr.sliceBound, asIntOf, e2, h2, h0]
    intro hc
    omega

theorem op_slice {t : TypeId} {x : Operand} {lo hi mx : Option Operand} (ho : o.op = .slice t x lo hi mx) (h : op1 P s o = some (as, v, s')) (hrep : Rep e W0 s w) (hev : ev x = (s.ev x).den e) (hlo : ∀ y ∈ lo, ev y = (s.ev y).den e) (hhi : ∀ y ∈ hi, ev y = (s.ev y).den e) (hmx0 : ∀ y ∈ mx, ev y = (s.ev y).den e) (has : ∀ b ∈ as, b.den e.R e.r = true) : OpOut P e W0 s s' o ev v w := by
  simp only [op1, ho] at h
  split at h
  · split at h
    · rename_i elem g hu hx hbl hbh hbm
      split at h
      · rename_i hc
        simp only [Bool.and_eq_true] at hc
        simp only [Option.some.injEq, Prod.mk.injEq] at h
        obtain ⟨rfl, rfl, rfl⟩ := h
        rw [hx] at hev
        obtain ⟨a, l, c, hv⟩ := G.val_slice e g
        have hev' : ev x = .slice a l c := hev.trans hv
        refine OpOut.same hrep ?_
        have b1 : ∃ k, hi.map ev = some (.int k 0) := by
          rcases boundS_run hbh hhi with ⟨_, h1⟩ | ⟨y, k, h1, h2⟩
          · cases h1
          · exact ⟨k, by rw [h1]; simp [h2]⟩
        have b2 : ∃ k, mx.map ev = some (.int k 0) := by
          rcases boundS_run hbm hmx0 with ⟨_, h1⟩ | ⟨y, k, h1, h2⟩
          · cases h1
          · exact ⟨k, by rw [h1]; simp [h2]⟩
        have b3 : lo.map ev = none ∨ ∃ k, lo.map ev = some (.int k 0) := by
          rcases boundS_run hbl hlo with ⟨h1, _⟩ | ⟨y, k, h1, h2⟩
          · exact .inl (by rw [h1]; rfl)
          · exact .inr ⟨k, by rw [h1]; simp [h2]⟩
        simp only [execOp, ho, Instr.sliceAt, Instr.slice, Sem.run_bind, run_underlying hu, Result.andThen_ok, hev', Sem.run_pure, run_sliceBounds0 b1 b2 b3, run_sizeOf' hc.2]
        simp [one, SV.den, SW.den, SC.den, hv, zeroV]
      · cases h
    · cases h
  · rename_i hmx
    have hmx' : mx = none := by cases mx <;> simp_all
    subst hmx'
    have conv : ∀ {x : Option Operand} {dflt i : Nat}, boundS s x dflt = some i → (∀ y ∈ x, ev y = (s.ev y).den e) → (x.map ev = none ∧ i = dflt) ∨ ∃ k, x.map ev = some (.int k (i : Int)) := by
      intro x dflt i hb hx
      rcases boundS_run hb hx with ⟨rfl, rfl⟩ | ⟨y, k, rfl, hy⟩
      · exact .inl ⟨rfl, rfl⟩
      · exact .inr ⟨k, by simp [hy]⟩
    have conv2 : ∀ {x : Option Operand} {dflt i : E}, bndE s x dflt = some i → (∀ y ∈ x, ev y = (s.ev y).den e) → (x.map ev = none ∧ i.den e.R e.r = dflt.den e.R e.r) ∨ ∃ k, x.map ev = some (.int k (i.den e.R e.r)) := by
      intro x dflt i hb hx
      rcases bndE_run hb hx with ⟨rfl, rfl⟩ | ⟨y, k, rfl, hy⟩
      · exact .inl ⟨rfl, rfl⟩
      · exact .inr ⟨k, by simp [hy]⟩
    split at h
    · rename_i elem g hu hx
      rw [hx] at hev
      split at h
      · rename_i ks c hg
        split at h
        · rename_i l hh hlb hhb
          split at h
          · rename_i hinf
            simp only [Option.some.injEq, Prod.mk.injEq] at h
            obtain ⟨rfl, rfl, rfl⟩ := h
            obtain ⟨v1, v2, v3⟩ := vB_den has
            have cl := conv2 hlb hlo
            have ch := conv2 hhb hhi
            rw [mkLn_den] at ch
            refine OpOut.same hrep ?_
            rcases hrep.gread hg with ⟨hv, hn⟩ | ⟨b, off, cap, hv, hle, hm, hel, hcell⟩
            · rw [hn] at v3 ch
              simp only [List.length_nil] at ch
              have hev' : ev x = .slice none 0 0 := hev.trans hv
              simp only [execOp, ho, Instr.sliceAt, Instr.slice, Sem.run_bind, run_underlying hu, Result.andThen_ok, hev', Sem.run_pure, Option.map_none, run_sliceBoundsE (P := P) (w := w) (cap := 0) ch cl v1 v2 v3, run_sizeOf' hinf]
              simp only [one, SV.den, SW.den, SC.den, hv, subV]
              simp
            · have hev' : ev x = .slice (some ⟨b, off, none⟩) (dec (c.den e.R e.r)).length cap := hev.trans hv
              simp only [execOp, ho, Instr.sliceAt, Instr.slice, Sem.run_bind, run_underlying hu, Result.andThen_ok, hev', Sem.run_pure, Option.map_none, run_sliceBoundsE (P := P) (w := w) (cap := cap) ch cl v1 v2 (by omega), run_sizeOf' hinf]
              simp only [one, SV.den, SW.den, SC.den, hv, subV]
          · cases h
        · cases h
      · cases h
    · rename_i elem g size lo0 hi0 hu hx
      rw [hx] at hev
      split at h
      · rename_i ks c hg
        split at h
        · rename_i hh hlb hhb
          split at h
          · rename_i hc
            simp only [Bool.and_eq_true, decide_eq_true_eq] at hc
            obtain ⟨hinf, rfl⟩ := hc
            simp only [Option.some.injEq, Prod.mk.injEq] at h
            obtain ⟨rfl, rfl, rfl⟩ := h
            obtain ⟨v1, v2, v3⟩ := vB_den (c := c) (lo := lo0) (hi := hi0) (fun b hb => has b (List.mem_append_left _ hb))
            have h1 := has (mkLe (.c 0) hh) (by simp)
            have h3 := has (mkLe hh (minusE hi0 lo0)) (by simp)
            rw [mkLe_den, decide_eq_true_eq] at h1 h3
            simp only [E.den] at h1
            have cl : (lo.map ev = none ∧ (0 : Int) = 0) ∨ ∃ k, lo.map ev = some (.int k 0) := conv2 hlb hlo
            have ch := conv2 hhb hhi
            have hml : ((dec (c.den e.R e.r)).length : Int) ≤ 9223372036854775807 := by
              rcases hrep.gread hg with ⟨_, hn⟩ | ⟨b, off, cap, hv, hle, hm, hel, hcell⟩
              · rw [hn]; simp
              · simp only [maxLen] at hm; omega
            have hmin : (minusE hi0 lo0).den e.R e.r = hi0.den e.R e.r - lo0.den e.R e.r := minusE_den _ _ (by omega) (by omega)
            rw [hmin] at h3 ch
            have hph : (plusE lo0 hh).den e.R e.r = lo0.den e.R e.r + hh.den e.R e.r := plusE_den _ _ (by omega) (by omega)
            have hlen : (hi0.den e.R e.r - lo0.den e.R e.r) = (((hi0.den e.R e.r).toNat - (lo0.den e.R e.r).toNat : Nat) : Int) := by omega
            rw [hlen] at ch
            refine OpOut.same hrep ?_
            rcases hrep.gread hg with ⟨hv, hn⟩ | ⟨b, off, cap, hv, hle, hm, hel, hcell⟩
            · rw [hn] at v3
              simp only [List.length_nil] at v3
              have e1 : lo0.den e.R e.r = 0 := by simp at v3; omega
              have e2 : hi0.den e.R e.r = 0 := by simp at v3; omega
              have e4 : hh.den e.R e.r = 0 := by omega
              have hev' : ev x = .slice none 0 0 := by rw [hev]; simp [SV.den, SW.den, SC.den, hv, subV, e1, e2]
              rw [e1, e2] at ch
              simp only [Int.toNat_zero, Nat.sub_self] at ch
              simp only [execOp, ho, Instr.sliceAt, Instr.slice, Sem.run_bind, run_underlying hu, Result.andThen_ok, hev', Sem.run_pure, Option.map_none, run_sliceBoundsE (P := P) (w := w) (cap := 0) ch cl (Int.le_refl 0) h1 (by omega), run_sizeOf' hinf]
              simp only [one, SV.den, SW.den, SC.den, hv, subV, hph, e1, e4]
              simp
            · have hev' : ev x = .slice (if cap = (lo0.den e.R e.r).toNat then some ⟨b, off, none⟩ else some ⟨b, off + (lo0.den e.R e.r).toNat * P.cellsOf elem, none⟩) ((hi0.den e.R e.r).toNat - (lo0.den e.R e.r).toNat) (cap - (lo0.den e.R e.r).toNat) := by
                rw [hev]
                simp only [SV.den, SW.den, SC.den, hv, subV, Option.map_some, Addr.add_lit]
              simp only [execOp, ho, Instr.sliceAt, Instr.slice, Sem.run_bind, run_underlying hu, Result.andThen_ok, hev', Sem.run_pure, Option.map_none, run_sliceBoundsE (P := P) (w := w) (cap := cap - (lo0.den e.R e.r).toNat) ch cl (Int.le_refl 0) h1 (by omega), run_sizeOf' hinf]
              simp only [one, SV.den, SW.den, SC.den, hv, subV, hph, Option.map_some, Addr.add_lit, Int.toNat_zero, Nat.zero_mul, Nat.sub_zero]
              rw [Int.toNat_add v1 h1]
              have hsub : (lo0.den e.R e.r).toNat + (hh.den e.R e.r).toNat - (lo0.den e.R e.r).toNat = (hh.den e.R e.r).toNat := by omega
              rw [hsub]
              have hadd : ∀ q : Option Addr, q.map (fun x => x.add 0) = q := fun q => by cases q <;> simp [Addr.add]
              rw [hadd]
              split <;> rfl
          · cases h
        · rename_i ll hh hnz hlb hhb
          split at h
          · rename_i hc
            simp only [Bool.and_eq_true, decide_eq_true_eq] at hc
            obtain ⟨hinf, rfl⟩ := hc
            simp only [Option.some.injEq, Prod.mk.injEq] at h
            obtain ⟨rfl, rfl, rfl⟩ := h
            obtain ⟨v1, v2, v3⟩ := vB_den (c := c) (lo := lo0) (hi := hi0) (fun b hb => has b (List.mem_append_left _ hb))
            have h1 := has (mkLe (.c 0) ll) (by simp)
            have h2 := has (mkLe ll hh) (by simp)
            have h3 := has (mkLe hh (minusE hi0 lo0)) (by simp)
            have h4 := has (mkLt ll (minusE hi0 lo0)) (by simp)
            rw [mkLe_den, decide_eq_true_eq] at h1 h2 h3
            rw [mkLt_den, decide_eq_true_eq] at h4
            simp only [E.den] at h1
            have cl := conv2 hlb hlo
            have ch := conv2 hhb hhi
            have hml : ((dec (c.den e.R e.r)).length : Int) ≤ 9223372036854775807 := by
              rcases hrep.gread hg with ⟨_, hn⟩ | ⟨b, off, cap, hv, hle, hm, hel, hcell⟩
              · rw [hn]; simp
              · simp only [maxLen] at hm; omega
            have hmin : (minusE hi0 lo0).den e.R e.r = hi0.den e.R e.r - lo0.den e.R e.r := minusE_den _ _ (by omega) (by omega)
            rw [hmin] at h3 h4 ch
            have hph : (plusE lo0 hh).den e.R e.r = lo0.den e.R e.r + hh.den e.R e.r := plusE_den _ _ (by omega) (by omega)
            have hpl : (plusE lo0 ll).den e.R e.r = lo0.den e.R e.r + ll.den e.R e.r := plusE_den _ _ (by omega) (by omega)
            have hlen : (hi0.den e.R e.r - lo0.den e.R e.r) = (((hi0.den e.R e.r).toNat - (lo0.den e.R e.r).toNat : Nat) : Int) := by omega
            rw [hlen] at ch
            refine OpOut.same hrep ?_
            rcases hrep.gread hg with ⟨hv, hn⟩ | ⟨b, off, cap, hv, hle, hm, hel, hcell⟩
            · rw [hn] at v3
              simp only [List.length_nil] at v3
              exfalso
              simp at v3
              omega
            · have hev' : ev x = .slice (if cap = (lo0.den e.R e.r).toNat then some ⟨b, off, none⟩ else some ⟨b, off + (lo0.den e.R e.r).toNat * P.cellsOf elem, none⟩) ((hi0.den e.R e.r).toNat - (lo0.den e.R e.r).toNat) (cap - (lo0.den e.R e.r).toNat) := by
                rw [hev]
                simp only [SV.den, SW.den, SC.den, hv, subV, Option.map_some, Addr.add_lit]
              simp only [execOp, ho, Instr.sliceAt, Instr.slice, Sem.run_bind, run_underlying hu, Result.andThen_ok, hev', Sem.run_pure, Option.map_none, run_sliceBoundsE (P := P) (w := w) (cap := cap - (lo0.den e.R e.r).toNat) ch cl h1 h2 (by omega), run_sizeOf' hinf]
              simp only [one, SV.den, SW.den, SC.den, hv, subV, hph, hpl, Option.map_some, Addr.add_lit]
              have n1 : ¬ cap = (lo0.den e.R e.r).toNat := by omega
              have n2 : ¬ cap - (lo0.den e.R e.r).toNat = (ll.den e.R e.r).toNat := by omega
              rw [Int.toNat_add v1 (by omega : 0 ≤ hh.den e.R e.r), Int.toNat_add v1 h1]
              have n3 : ¬ cap = (lo0.den e.R e.r).toNat + (ll.den e.R e.r).toNat := by omega
              rw [if_neg n1, if_neg n2, if_neg n3]
              simp only [Option.map_some, Addr.add_lit]
              rw [Nat.add_mul, ← Nat.add_assoc, show (lo0.den e.R e.r).toNat + (hh.den e.R e.r).toNat - ((lo0.den e.R e.r).toNat + (ll.den e.R e.r).toNat) = (hh.den e.R e.r).toNat - (ll.den e.R e.r).toNat by omega, Nat.sub_add_eq]
          · cases h
        · cases h
      · cases h
    · rename_i len elem n off hu hx
      rw [hx] at hev
      split at h
      · rename_i hh hhb
        split at h
        · rename_i ll hlb
          split at h
          · rename_i hc
            simp only [Bool.and_eq_true, decide_eq_true_eq] at hc
            simp only [Option.some.injEq, Prod.mk.injEq] at h
            obtain ⟨rfl, rfl, rfl⟩ := h
            have hev' : ev x = .pointer (some ⟨e.β.getD n 0, off, none⟩) := hev
            refine OpOut.same hrep ?_
            simp only [execOp, ho, Instr.sliceAt, Sem.run_bind, run_underlying hu, Result.andThen_ok, hev', Instr.sureAddr, Sem.run_pure, Option.map_none, run_sliceBounds' (conv hhb hhi) (conv hlb hlo) hc.1.1 hc.1.2, run_sizeOf' hc.2]
            simp only [one, SV.den, SW.den, SC.den, Addr.add_lit]
            congr 4
            split <;> rfl
          · cases h
        · cases h
      · cases h
    · rename_i elem n off len cap hu hx
      rw [hx] at hev
      split at h
      · rename_i hh hhb
        split at h
        · rename_i ll hlb
          split at h
          · rename_i hc
            simp only [Bool.and_eq_true, decide_eq_true_eq] at hc
            simp only [Option.some.injEq, Prod.mk.injEq] at h
            obtain ⟨rfl, rfl, rfl⟩ := h
            have hev' : ev x = .slice (some ⟨e.β.getD n 0, off, none⟩) len cap := hev
            refine OpOut.same hrep ?_
            simp only [execOp, ho, Instr.sliceAt, Instr.slice, Sem.run_bind, run_underlying hu, Result.andThen_ok, hev', Sem.run_pure, Option.map_none, run_sliceBounds' (conv hhb hhi) (conv hlb hlo) hc.1.1 hc.1.2, run_sizeOf' hc.2]
            simp only [one, SV.den, SW.den, SC.den, Option.map_some, Addr.add_lit]
            congr 4
            split <;> rfl
          · cases h
        · cases h
      · cases h
    · cases h
end
end Go.Sx
namespace Go.Sx
open Go.RowKit

section
variable {P : Program} {e : Env} {W0 : Bas} {s s' : St} {o : Oper} {ev : Operand → Value} {v : SV} {w : World} {as : List B}

def SW.fits (P : Program) (t : TypeId) (u : SW) : Prop := (tyAgg P t = true ∧ ∃ cs, u = .a cs) ∨ (tyAgg P t = false ∧ ∃ c, u = .o c)

theorem partS_fits {t : TypeId} {cs : List SC} {off : Nat} {y : SW} (h : partS P t cs off = some y) : y.fits P t := by
  unfold partS at h
  split at h
  · cases h
  · split at h
    · rename_i ha
      simp only [Option.some.injEq] at h
      exact .inl ⟨ha, _, h.symm⟩
    · rename_i ha
      simp only [Option.map_eq_some_iff] at h
      obtain ⟨c, _, rfl⟩ := h
      exact .inr ⟨by simpa using ha, c, rfl⟩

theorem eqB_run : ∀ (d : Nat) (t : TypeId) (u v : SW) (b : B), u.fits P t → v.fits P t → eqB P d t u.cells v.cells = some b → ∀ D, d ≤ D → ∀ w : World,
    (Op.equalIn D t (u.den e) (v.den e)).run P w = .ok (b.den e.R e.r) w
  | 0, _, _, _, _, _, _, h, _, _, _ => by simp [eqB] at h
  | d + 1, t, u, v, b, hu, hv, h, D, hD, w => by
    obtain ⟨D, rfl⟩ : ∃ D', D = D' + 1 := ⟨D - 1, by omega⟩
    unfold eqB at h
    split at h
    · rename_i ht
      have hna : tyAgg P t = false := by simp [tyAgg, ht]
      obtain ⟨c, rfl⟩ : ∃ c, u = .o c := by rcases hu with ⟨h1, _⟩ | ⟨_, h2⟩; · simp [hna] at h1
                                            exact h2
      obtain ⟨c', rfl⟩ : ∃ c, v = .o c := by rcases hv with ⟨h1, _⟩ | ⟨_, h2⟩; · simp [hna] at h1
                                             exact h2
      split at h
      · rename_i a b' h1 h2
        simp only [SW.cells, List.cons.injEq, and_true] at h1 h2
        subst h1; subst h2
        simp only [Option.some.injEq] at h
        subst h
        simp only [SW.den, SC.den, run_equalIn_bool w D t _ _ ht, mkBeq_den]
      · cases h
    · rename_i kk ht
      have hna : tyAgg P t = false := by simp [tyAgg, ht]
      obtain ⟨c, rfl⟩ : ∃ c, u = .o c := by rcases hu with ⟨h1, _⟩ | ⟨_, h2⟩; · simp [hna] at h1
                                            exact h2
      obtain ⟨c', rfl⟩ : ∃ c, v = .o c := by rcases hv with ⟨h1, _⟩ | ⟨_, h2⟩; · simp [hna] at h1
                                             exact h2
      split at h
      · rename_i k a k' b' h1 h2
        simp only [SW.cells, List.cons.injEq, and_true] at h1 h2
        subst h1; subst h2
        split at h
        · rename_i hkk
          subst hkk
          simp only [Option.some.injEq] at h
          subst h
          simp only [SW.den, SC.den, run_equalIn_int w D t k kk _ _ ht, mkEq_den]
        · cases h
      · cases h
    · rename_i fields ht
      have ha : tyAgg P t = true := by simp [tyAgg, ht]
      obtain ⟨xs, rfl⟩ : ∃ c, u = .a c := by rcases hu with ⟨_, h2⟩ | ⟨h1, _⟩; · exact h2
                                             simp [ha] at h1
      obtain ⟨ys, rfl⟩ : ∃ c, v = .a c := by rcases hv with ⟨_, h2⟩ | ⟨h1, _⟩; · exact h2
                                             simp [ha] at h1
      split at h
      · cases h
      · rename_i hst
        have hfs : P.fieldsOf t = fields := by simp [Program.fieldsOf, ht]
        simp only [SW.den, SW.cells] at h ⊢
        rw [run_equalIn_struct w D t _ _ (by rw [hfs]; exact ht) (by simpa using hst), hfs]
        clear ht hfs
        generalize fields.toList = fs at h ⊢
        induction fs generalizing b with
        | nil => simp only [List.foldr_nil, Option.some.injEq] at h; subst h; simp [Op.eqFields, B.den]
        | cons f fs ih =>
          rw [List.foldr_cons] at h
          split at h
          · cases h
          · rename_i y hy
            have ih' := ih y hy
            split at h
            · rename_i hname
              simp only [Option.some.injEq] at h
              subst h
              simp only [Op.eqFields, ne_eq, hname, not_true_eq_false, if_false]
              exact ih'
            · rename_i hname
              split at h
              · rename_i p q hp hq
                split at h
                · rename_i bb hbb
                  simp only [Option.some.injEq] at h
                  subst h
                  simp only [Op.eqFields, ne_eq, hname, not_false_eq_true, if_true, Sem.run_bind, run_part hp, run_part hq, Result.andThen_ok,
                    eqB_run d f.type p q bb (partS_fits hp) (partS_fits hq) hbb D (by omega) w, mkAnd_den]
                  cases bb.den e.R e.r
                  · simp
                  · simp only [Bool.not_true, Bool.false_eq_true, if_false, Bool.true_and]
                    exact ih'
                · cases h
              · cases h
    · rename_i len elem ht
      have ha : tyAgg P t = true := by simp [tyAgg, ht]
      obtain ⟨xs, rfl⟩ : ∃ c, u = .a c := by rcases hu with ⟨_, h2⟩ | ⟨h1, _⟩; · exact h2
                                             simp [ha] at h1
      obtain ⟨ys, rfl⟩ : ∃ c, v = .a c := by rcases hv with ⟨_, h2⟩ | ⟨h1, _⟩; · exact h2
                                             simp [ha] at h1
      simp only [SW.den, SW.cells] at h ⊢
      split at h
      · cases h
      · rename_i hinf
        obtain ⟨i, hi⟩ : ∃ i, P.info? elem = some i := by
          cases hi : P.info? elem with
          | none => simp [hi] at hinf
          | some i => exact ⟨i, rfl⟩
        rw [run_equalIn_array w D _ _ ht hi]
        generalize List.range len = is at h ⊢
        induction is generalizing b with
        | nil => simp only [List.foldr_nil, Option.some.injEq] at h; subst h; simp [Op.eqItems, B.den]
        | cons f fs ih =>
          rw [List.foldr_cons] at h
          split at h
          · cases h
          · rename_i y hy
            have ih' := ih y hy
            split at h
            · rename_i p q hp hq
              split at h
              · rename_i bb hbb
                simp only [Option.some.injEq] at h
                subst h
                simp only [Op.eqItems, Sem.run_bind, run_part hp, run_part hq, Result.andThen_ok,
                  eqB_run d elem p q bb (partS_fits hp) (partS_fits hq) hbb D (by omega) w, mkAnd_den]
                cases bb.den e.R e.r
                · simp
                · simp only [Bool.not_true, Bool.false_eq_true, if_false, Bool.true_and]
                  exact ih'
              · cases h
            · cases h
    · cases h

theorem den_i (k : IntKind) (x : E) : SV.den e (.w (.o (.i k x))) = .int k (x.den e.R e.r) := rfl
theorem den_b (x : B) : SV.den e (.w (.o (.b x))) = .bool (x.den e.R e.r) := rfl
theorem den_a (cs : List SC) : SV.den e (.w (.a cs)) = .agg (cs.map (SC.den e)).toArray := rfl

theorem nzAsrt_den {b : E} (has : ∀ x ∈ nzAsrt b, x.den e.R e.r = true) : b.den e.R e.r ≠ 0 := by
  unfold nzAsrt at has
  split at has
  · rename_i n
    split at has
    · have := has (.c false) (by simp)
      simp [B.den] at this
    · rename_i hn
      simpa [E.den] using hn
  · have := has (.not (.eq b (.c 0))) (by simp)
    simp only [B.den, E.den, Bool.not_eq_true', beq_eq_false_iff_ne, ne_eq] at this
    exact this

theorem op_bin {op : BinOp} {t yt : TypeId} {x y : Operand} (ho : o.op = .binOp op t x y yt) (h : op1 P s o = some (as, v, s')) (hrep : Rep e W0 s w) (hx : ev x = (s.ev x).den e) (hy : ev y = (s.ev y).den e) (has : ∀ b ∈ as, b.den e.R e.r = true) : OpOut P e W0 s s' o ev v w := by
  simp only [op1, ho, Option.map_eq_some_iff, Prod.mk.injEq] at h
  obtain ⟨⟨as', c⟩, hb, rfl, rfl, rfl⟩ := h
  refine OpOut.same hrep ?_
  unfold binS at hb
  split at hb
  · rename_i k a k' b hex hey
    split at hb
    · rename_i hk
      subst hk
      rw [hex, den_i] at hx
      rw [hey, den_i] at hy
      have hdiv : ∀ (opp : BinOp), (opp = .quo ∨ opp = .rem) → arithS opp k a b = some (as', c) → b.den e.R e.r ≠ 0 := by
        intro opp ho' ha
        have : as' = nzAsrt b := by
          rcases ho' with rfl | rfl <;> simp only [arithS, Option.some.injEq, Prod.mk.injEq] at ha <;> exact ha.1.symm
        exact nzAsrt_den (by rw [← this]; exact has)
      cases op <;> simp only [arithS, Option.some.injEq, Prod.mk.injEq, reduceCtorEq] at hb <;> obtain ⟨rfl, rfl⟩ := hb <;>
        simp only [execOp, ho, hx, hy, eqGuard_at_int, pure_bind, Go.binOp, ne_eq, not_true_eq_false, if_false, one, SV.den, SW.den, SC.den, Op.intArith, Op.intCmp, Sem.run_bind, Sem.run_pure,
          mkAdd_den, mkSub_den, mkMul_den, mkLt_den, mkLe_den, mkEq_den, mkNot_den]
      case quo =>
        have hne := hdiv .quo (.inl rfl) rfl
        simp only [Op.intDiv, if_neg hne, Sem.run_pure, Result.andThen_ok, mkQuo_den]
      case rem =>
        have hne := hdiv .rem (.inr rfl) rfl
        simp only [Op.intDiv, if_neg hne, Sem.run_pure, Result.andThen_ok, mkRem_den]
      all_goals rfl
    · cases hb
  · rename_i a b hex hey
    rw [hex, den_b] at hx
    rw [hey, den_b] at hy
    split at hb
    · rename_i hu
      simp only [Option.some.injEq, Prod.mk.injEq] at hb
      obtain ⟨rfl, rfl⟩ := hb
      simp only [execOp, ho, hx, hy, eqGuard_at_bool, Sem.run_bind, Sem.run_pure, Result.andThen_ok, run_eql_bool w t _ _ hu, one, SV.den, SW.den, SC.den, mkBeq_den]
    · rename_i hu
      simp only [Option.some.injEq, Prod.mk.injEq] at hb
      obtain ⟨rfl, rfl⟩ := hb
      simp only [execOp, ho, hx, hy, eqGuard_at_bool, Sem.run_bind, Sem.run_pure, Result.andThen_ok, run_neq_bool w t _ _ hu, one, SV.den, SW.den, SC.den, mkBeq_den, mkNot_den]
    · cases hb
  · rename_i xs ys hex hey
    rw [hex, den_a] at hx
    rw [hey, den_a] at hy
    split at hb
    · cases hb
    · rename_i hg
      simp only [Bool.or_eq_true, Bool.not_eq_true', not_or, Bool.not_eq_true, Bool.not_eq_false] at hg
      have key : ∀ b, eqB P 12 t xs ys = some b → (Op.equalIn 10000 t (.agg (xs.map (SC.den e)).toArray) (.agg (ys.map (SC.den e)).toArray)).run P w = .ok (b.den e.R e.r) w := fun b hb =>
        eqB_run 12 t (.a xs) (.a ys) b (.inl ⟨hg.2, _, rfl⟩) (.inl ⟨hg.2, _, rfl⟩) hb 10000 (by omega) w
      split at hb
      · simp only [Option.map_eq_some_iff, Prod.mk.injEq] at hb
        obtain ⟨b, hb, rfl, rfl⟩ := hb
        simp only [execOp, ho, hx, hy, Sem.run_bind, run_eqGuard_agg w _ t _ _ _ _ hg.1, Sem.run_pure, Result.andThen_ok, run_eql_struct, key b hb, one, SV.den, SW.den, SC.den]
      · simp only [Option.map_eq_some_iff, Prod.mk.injEq] at hb
        obtain ⟨b, hb, rfl, rfl⟩ := hb
        simp only [execOp, ho, hx, hy, Sem.run_bind, run_eqGuard_agg w _ t _ _ _ _ hg.1, Sem.run_pure, Result.andThen_ok, run_neq_struct, key b hb, one, SV.den, SW.den, SC.den, mkNot_den]
      · cases hb
  · cases hb
end
end Go.Sx
namespace Go.Sx
open Go.RowKit

section
variable {P : Program} {e : Env} {W0 : Bas} {s s' : St} {o : Oper} {ev : Operand → Value} {v : SV} {w : World} {as : List B}

theorem foldl_set (off : Nat) : ∀ (new : List Value) (k : Nat) (cells : Array Value), off + k + new.length ≤ cells.size →
    (new.zipIdx k).foldl (fun cs (x : Value × Nat) => cs.setIfInBounds (off + x.2) x.1) cells = (cells.toList.take (off + k) ++ new ++ cells.toList.drop (off + k + new.length)).toArray
  | [], k, cells, _ => by simp
  | x :: new, k, cells, h => by
    simp only [List.zipIdx_cons, List.foldl_cons, List.length_cons] at h ⊢
    rw [foldl_set off new (k + 1) _ (by simpa using (by omega : off + (k + 1) + new.length ≤ cells.size))]
    congr 1
    apply List.ext_getElem?
    intro j
    have hs : cells.toList.length = cells.size := by simp
    simp only [Array.toList_setIfInBounds, List.getElem?_append, List.length_append, List.length_take, List.length_set, hs, List.getElem?_take, List.getElem?_drop, List.getElem?_set, List.length_cons]
    rw [Nat.min_eq_left (by omega), Nat.min_eq_left (by omega)]
    by_cases h1 : j < off + k
    · have e1 : off + k ≠ j := by omega
      simp only [h1, if_true]
      rw [if_pos (by omega), if_pos (by omega), if_pos (by omega), if_neg e1, if_pos (by omega)]
    · by_cases h2 : j = off + k
      · subst h2
        simp only [Nat.lt_irrefl, if_false, Nat.sub_self]
        rw [if_pos (by omega), if_pos (by omega), if_pos (by omega), if_pos trivial, if_pos (by omega), if_pos (by omega)]
        simp
      · by_cases h3 : j < off + k + (new.length + 1)
        · rw [if_neg h1, if_pos h3, if_pos (by omega), if_neg (by omega)]
          rw [show j - (off + k) = (j - (off + (k + 1))) + 1 by omega, List.getElem?_cons_succ]
        · rw [if_neg h3, if_neg (by omega), if_neg (by omega)]
          congr 1
          omega

theorem fill_run (hrep : Rep e W0 s w) {place : Nat → Option (Nat × Nat)} : ∀ (parts : List (Nat × SW)) (cells cs : List SC), fillS place cells parts = some cs → (∀ p ∈ parts, p.2.scp s.mem.length s.rows.length = true) →
    Instr.fill place (cells.map (SC.den e)).toArray (parts.map fun p => (p.1, p.2.den e)) = some (cs.map (SC.den e)).toArray
  | [], cells, cs, h, _ => by simp only [fillS, Option.some.injEq] at h; subst h; rfl
  | (i, v) :: rest, cells, cs, h, hs => by
    simp only [fillS] at h
    split at h
    · cases h
    · rename_i off size hp
      split at h
      · cases h
      · rename_i hc
        simp only [ne_eq, Bool.or_eq_true, decide_eq_true_eq, Bool.not_eq_true', not_or, Decidable.not_not, Bool.not_eq_false] at hc
        obtain ⟨⟨h1, h2⟩, h3⟩ := hc
        have ih := fill_run hrep rest _ cs h (fun p hp => hs p (by simp [hp]))
        have hcells := SW.cells_den hrep h3 (hs (i, v) (by simp))
        have hsz : (v.den e).cells.size = v.cells.length := by rw [hcells]; simp
        simp only [List.map_cons, Instr.fill, hp]
        rw [if_neg (by simp [hsz, h1]; omega)]
        have hz : ((v.den e).cells.zipIdx.foldl (fun cs (x : Value × Nat) => cs.setIfInBounds (off + x.2) x.1) (cells.map (SC.den e)).toArray) = ((setAt cells off v.cells).map (SC.den e)).toArray := by
          rw [hcells, ← Array.foldl_toList, Array.toList_zipIdx]
          have := foldl_set off (v.cells.map (SC.den e)) 0 (cells.map (SC.den e)).toArray (by simpa using h2)
          simp only [Nat.add_zero] at this
          rw [this]
          simp [setAt]
        rw [← ih, ← hz]

theorem partsS_den {parts : List (Nat × Operand)} : ∀ {l : List (Nat × SW)}, partsS s parts = some l → (∀ p ∈ parts, ev p.2 = (s.ev p.2).den e) → (parts.map fun p => (p.1, ev p.2)) = l.map fun p => (p.1, p.2.den e) := by
  induction parts with
  | nil => intro l h _; simp only [partsS, Option.some.injEq] at h; subst h; rfl
  | cons p parts ih =>
    intro l h hev
    obtain ⟨i, x⟩ := p
    simp only [partsS] at h
    split at h
    · rename_i y l' hy hl'
      simp only [Option.some.injEq] at h
      subst h
      simp only [List.map_cons]
      rw [ih hl' (fun p hp => hev p (by simp [hp])), hev (i, x) (by simp)]
      simp only [hy]
      rfl
    · cases h

theorem mapM_places : ∀ (fs : List Field), (fs.all fun f => (P.info? f.type).isSome) = true →
    (fs.mapM (m := Sem) fun f => do pure (f.offset, ← sizeOf f.type)).run P w = .ok (fs.map fun f => (f.offset, P.cellsOf f.type)) w
  | [], _ => by simp
  | f :: fs, h => by
    simp only [List.all_cons, Bool.and_eq_true] at h
    simp only [List.mapM_cons, Sem.run_bind, run_sizeOf' h.1, Result.andThen_ok, Sem.run_pure, mapM_places fs h.2, List.map_cons]

theorem run_build {t : TypeId} {l : List (Nat × SW)} {cs : List SC} (hrep : Rep e W0 s w) (h : buildS P t l = some cs) (hs : ∀ p ∈ l, p.2.scp s.mem.length s.rows.length = true) (parts : Array (Nat × Value)) (hp : parts.toList = l.map fun p => (p.1, p.2.den e)) :
    (Instr.build t parts).run P w = .ok (.agg (cs.map (SC.den e)).toArray) w := by
  unfold buildS at h
  split at h
  · cases h
  · rename_i zero hz
    obtain ⟨zv, hz1, hz2⟩ := run_zeroValue' hz w e
    split at h
    · rename_i fields hu
      split at h
      · cases h
      · rename_i hall
        simp only [Bool.not_eq_true', Bool.not_eq_false] at hall
        have hf := fill_run hrep l zero cs h hs
        simp only [Instr.build, Sem.run_bind, hz1, Result.andThen_ok, run_underlying hu]
        have hm : (fields.mapM (m := Sem) fun f => do pure (f.offset, ← sizeOf f.type)).run P w = .ok (fields.toList.map fun f => (f.offset, P.cellsOf f.type)).toArray w := by
          rw [Array.mapM_eq_mapM_toList]
          simp only [Sem.run_map, mapM_places fields.toList hall, Result.andThen_ok]
        rw [hm]
        simp only [Result.andThen_ok, hp, hz2]
        have hplace : (fun i : Nat => (fields.toList.map fun f => (f.offset, P.cellsOf f.type)).toArray[i]?) = fun i => (fields[i]?).map fun f => (f.offset, P.cellsOf f.type) := by
          funext i
          simp
        rw [hplace, hf]
        rfl
    · rename_i n elem hu
      split at h
      · cases h
      · rename_i hinf
        have hinf' : (P.info? elem).isSome = true := by cases hi : P.info? elem <;> simp_all
        have hf := fill_run hrep l zero cs h hs
        simp only [Instr.build, Sem.run_bind, hz1, Result.andThen_ok, run_underlying hu, run_sizeOf' hinf', hp, hz2, hf]
        rfl
    · cases h

theorem op_build {t : TypeId} {parts : Array (Nat × Operand)} (ho : o.op = .build t parts) (h : op1 P s o = some (as, v, s')) (hrep : Rep e W0 s w) (hev : ∀ p ∈ parts.toList, ev p.2 = (s.ev p.2).den e) : OpOut P e W0 s s' o ev v w := by
  simp only [op1, ho] at h
  split at h
  · rename_i l hl
    split at h
    · rename_i hsc
      simp only [Option.map_eq_some_iff, Prod.mk.injEq] at h
      obtain ⟨cs, hcs, rfl, rfl, rfl⟩ := h
      refine OpOut.same hrep ?_
      have := run_build hrep hcs (fun p hp => List.all_eq_true.1 hsc p hp) (parts.map fun p => (p.1, ev p.2)) (by
        rw [Array.toList_map]
        exact partsS_den hl hev)
      simp only [execOp, ho, Sem.run_bind, this, Result.andThen_ok, Sem.run_pure, SV.den, SW.den]
    · cases h
  · cases h

theorem range_repl (z : Array Value) : ∀ n, (Array.range (n * z.size)).map (z[· % z.size]!) = ((List.replicate n z.toList).flatten).toArray := by
  intro n
  apply Array.ext'
  simp only [Array.toList_map, Array.toList_range]
  induction n with
  | zero => simp
  | succ n ih =>
    rw [show (n + 1) * z.size = n * z.size + z.size by rw [Nat.add_mul, Nat.one_mul], List.range_add, List.map_append, ih, List.replicate_succ', List.flatten_append]
    congr 1
    simp only [List.flatten_cons, List.flatten_nil, List.append_nil, List.map_map]
    apply List.ext_getElem?
    intro j
    by_cases hj : j < z.size
    · simp [hj, Nat.mod_eq_of_lt hj]
    · simp [hj]

theorem repl_den (e : Env) (z : List SC) : ∀ n, (repl z n).map (SC.den e) = (List.replicate n (z.map (SC.den e))).flatten
  | 0 => rfl
  | n + 1 => by simp [repl, repl_den e z n, List.replicate_succ]

theorem op_makeSlice {t : TypeId} {l c : Operand} (ho : o.op = .makeSlice t l c) (h : op1 P s o = some (as, v, s')) (hrep : Rep e W0 s w) (hl : ev l = (s.ev l).den e) (hc : ev c = (s.ev c).den e) : OpOut P e W0 s s' o ev v w := by
  simp only [op1, ho] at h
  split at h
  · rename_i elem m m' hu hm hm'
    split at h
    · rename_i inf z hinf hz
      split at h
      · rename_i hcc
        simp only [Bool.and_eq_true, decide_eq_true_eq] at hcc
        obtain ⟨⟨⟨rfl, h64⟩, hby⟩, hzl⟩ := hcc
        simp only [Option.map_eq_some_iff, Prod.mk.injEq] at h
        obtain ⟨s1, hs1, rfl, rfl, rfl⟩ := h
        obtain ⟨k1, hk1⟩ := constOf_den hm e
        obtain ⟨k2, hk2⟩ := constOf_den hm' e
        have hzz : ∃ zv, inf.zero = some zv ∧ zv.cells.toList = z.map (SC.den e) := by
          simp only [zeroOf, hinf, Option.bind_some, Option.map_eq_some_iff] at hz
          obtain ⟨zv, hzv, rfl⟩ := hz
          refine ⟨zv, hzv, ?_⟩
          rw [List.map_map, show (SC.den e ∘ SC.ofV) = id from funext fun v => SC.den_ofV e v]
          simp
        obtain ⟨zv, hzv, hzl'⟩ := hzz
        have hzsz : zv.cells.size = inf.size := by
          have := congrArg List.length hzl'
          simp only [Array.length_toList, List.length_map] at this
          omega
        have hb' : (inf.bytes : Int) * (m : Int) ≤ 281474976710656 := by
          have := Nat.mul_le_mul hby h64
          have h2 : ((inf.bytes * m : Nat) : Int) ≤ 281474976710656 := by omega
          rwa [Int.natCast_mul] at h2
        have hr := run_make (P := P) w t elem inf zv hu hinf hzv k1 k2 m m (by omega) (Int.le_refl _) hb' (by omega)
        simp only [Int.toNat_natCast] at hr
        have hcells : madeCells zv.cells (m * inf.size) = ((repl z m).map (SC.den e)).toArray := by
          apply Array.ext'
          unfold madeCells
          rw [← hzsz, range_repl, repl_den, hzl']
        refine OpOut.alloc hrep hs1 ?_
        have hv : (one (.s s.mem.length 0 m m)).den { e with β := e.β ++ [w.heap.size] } = .slice (some ⟨w.heap.size, 0, none⟩) m m := by
          simp [one, SV.den, SW.den, SC.den, List.getD, ← hrep.nb]
        rw [hv]
        simp only [execOp, ho, hl.trans hk1, hc.trans hk2, Sem.run_bind, hr, Result.andThen_ok, Sem.run_pure, hcells]
      · cases h
    · cases h
  · cases h

theorem op_buildSlice {t : TypeId} {len : Nat} {parts : Array (Nat × Operand)} (ho : o.op = .buildSlice t len parts) (h : op1 P s o = some (as, v, s')) (hrep : Rep e W0 s w) (hev : ∀ p ∈ parts.toList, ev p.2 = (s.ev p.2).den e) : OpOut P e W0 s s' o ev v w := by
  simp only [op1, ho] at h
  split at h
  · rename_i elem l hu hl
    split at h
    · rename_i z hz
      split at h
      · rename_i hc
        simp only [Bool.and_eq_true, decide_eq_true_eq] at hc
        obtain ⟨⟨⟨hzl, hz0⟩, hle⟩, hsc⟩ := hc
        split at h
        · rename_i cs hcs
          simp only [Option.map_eq_some_iff, Prod.mk.injEq] at h
          obtain ⟨s1, hs1, rfl, rfl, rfl⟩ := h
          obtain ⟨zv, hz1, hz2⟩ := run_zeroValue' hz w e
          have hinf : (P.info? elem).isSome = true := by
            cases hi : P.info? elem with
            | none => simp [zeroOf, hi] at hz
            | some i => rfl
          have hzs : zv.cells.size = P.cellsOf elem := by rw [hz2, ← hzl]; simp
          have hzl' : P.cellsOf elem ≠ 0 := by omega
          refine OpOut.alloc hrep hs1 ?_
          have hf := fill_run hrep l _ cs hcs (fun p hp => List.all_eq_true.1 hsc p hp)
          have hrr := range_repl zv.cells len
          rw [hzs] at hrr
          rw [repl_den, show z.map (SC.den e) = zv.cells.toList by rw [hz2]] at hf
          have hplace : (fun i : Nat => some (i * z.length, z.length)) = fun i => some (i * P.cellsOf elem, P.cellsOf elem) := by rw [hzl]
          rw [hplace] at hf
          have hv : (one (.s s.mem.length 0 len len)).den { e with β := e.β ++ [w.heap.size] } = .slice (some ⟨w.heap.size, 0, none⟩) len len := by
            simp [one, SV.den, SW.den, SC.den, List.getD, ← hrep.nb]
          rw [hv]
          have hparts : (parts.map fun p => (p.1, ev p.2)).toList = l.map fun p => (p.1, p.2.den e) := by
            rw [Array.toList_map]
            exact partsS_den hl hev
          have hle' : ¬ (len * P.cellsOf elem > 2 ^ 24) := by rw [← hzl]; omega
          by_cases hl0 : len = 0
          · subst hl0
            have hrr0 : ∀ f : Nat → Value, (Array.range 0).map f = #[] := fun f => by simp
            simp only [Nat.zero_mul] at hrr hle'
            rw [hrr0] at hrr
            rw [← hrr] at hf
            simp only [execOp, ho, Instr.buildSlice, Sem.run_bind, run_underlying hu, Result.andThen_ok, run_sizeOf' hinf, Nat.zero_mul, if_neg hle', if_true, Sem.run_pure, hrr0, hparts, hf, newRow, run_newObj]
            rfl
          have hne : ¬ (len * P.cellsOf elem = 0) := by
            intro h0
            rcases Nat.mul_eq_zero.1 h0 with h0 | h0 <;> omega
          simp only [execOp, ho, Instr.buildSlice, Sem.run_bind, run_underlying hu, Result.andThen_ok, run_sizeOf' hinf, if_neg hle', if_neg hne, hz1, Sem.run_pure, hzs, hrr, hparts, hf, newRow, run_newObj]
          rfl
        · cases h
      · cases h
    · cases h
  · cases h

theorem op_len {c : Call} {x : Operand} (ho : o.op = .call c) (hc : c.callee = .builtin .len) (ha : c.args.toList = [x]) (h : op1 P s o = some (as, v, s')) (hrep : Rep e W0 s w) (hev : ev x = (s.ev x).den e) (has : ∀ b ∈ as, b.den e.R e.r = true) : OpOut P e W0 s s' o ev v w := by
  simp only [op1, ho, hc, ha] at h
  have hargs : c.args = #[x] := by
    apply Array.ext'
    simpa using ha
  split at h
  · rename_i t ht
    have hrun : ∀ n : Int, (Builtin.len_ c.argTypes o.type #[ev x]).run P w = .ok (.int .i64 n) w → (execOp ev o).run P w = .ok (.value (.int .i64 n)) w := fun n hn => by
      simp only [execOp, ho, resolve, hc, hargs, Sem.run_bind, Sem.run_pure, Result.andThen_ok, invoke, builtin]
      simp [hn]
    split at h
    · rename_i n elem hu
      simp only [Option.some.injEq, Prod.mk.injEq] at h
      obtain ⟨rfl, rfl, rfl⟩ := h
      refine OpOut.same hrep (hrun n ?_)
      simp [Builtin.len_, ht, run_underlying hu, goInt]
    · rename_i elem n off len cap hu hx
      simp only [Option.some.injEq, Prod.mk.injEq] at h
      obtain ⟨rfl, rfl, rfl⟩ := h
      rw [hx] at hev
      refine OpOut.same hrep (hrun len ?_)
      have hev' : ev x = .slice (some ⟨e.β.getD n 0, off, none⟩) len cap := hev
      simp [Builtin.len_, ht, run_underlying hu, goInt, hev']
    · rename_i elem g hu hx
      rw [hx] at hev
      split at h
      · rename_i ks c hg
        simp only [Option.some.injEq, Prod.mk.injEq] at h
        obtain ⟨rfl, rfl, rfl⟩ := h
        refine OpOut.same hrep ?_
        have hd : (one (.i .i64 (mkLn c))).den e = .int .i64 ((dec (c.den e.R e.r)).length : Int) := by simp only [one, SV.den, SW.den, SC.den, mkLn_den]
        rw [hd]
        refine hrun _ ?_
        rcases hrep.gread hg with ⟨hv, hn⟩ | ⟨b, off, cap, hv, _⟩
        · have hev' : ev x = .slice none 0 0 := hev.trans hv
          simp [Builtin.len_, ht, run_underlying hu, goInt, hev', hn]
        · have hev' : ev x = .slice (some ⟨b, off, none⟩) (dec (c.den e.R e.r)).length cap := hev.trans hv
          simp [Builtin.len_, ht, run_underlying hu, goInt, hev']
      · cases h
    · rename_i elem g size lo hi hu hx
      rw [hx] at hev
      split at h
      · rename_i ks c hg
        simp only [Option.some.injEq, Prod.mk.injEq] at h
        obtain ⟨rfl, rfl, rfl⟩ := h
        obtain ⟨v1, v2, v3⟩ := vB_den has
        refine OpOut.same hrep ?_
        have hml : ((dec (c.den e.R e.r)).length : Int) ≤ 9223372036854775807 := by
          rcases hrep.gread hg with ⟨_, hn⟩ | ⟨b, off, cap, hv, hle, hm, _⟩
          · rw [hn]; simp
          · simp only [maxLen] at hm; omega
        have hmin : (minusE hi lo).den e.R e.r = hi.den e.R e.r - lo.den e.R e.r := minusE_den _ _ (by omega) (by omega)
        have hlen : (hi.den e.R e.r - lo.den e.R e.r) = (((hi.den e.R e.r).toNat - (lo.den e.R e.r).toNat : Nat) : Int) := by omega
        have hd : (one (.i .i64 (minusE hi lo))).den e = .int .i64 (((hi.den e.R e.r).toNat - (lo.den e.R e.r).toNat : Nat) : Int) := by simp only [one, SV.den, SW.den, SC.den, hmin, hlen]
        rw [hd]
        refine hrun _ ?_
        obtain ⟨a, l, cp, hv⟩ := G.val_slice e g
        have hev' : ev x = .slice (if cp = (lo.den e.R e.r).toNat then a else a.map (·.add ((lo.den e.R e.r).toNat * size))) ((hi.den e.R e.r).toNat - (lo.den e.R e.r).toNat) (cp - (lo.den e.R e.r).toNat) := by
          rw [hev]; simp only [SV.den, SW.den, SC.den, hv, subV]
        simp [Builtin.len_, ht, run_underlying hu, goInt, hev']
      · cases h
    · rename_i elem hu hx
      simp only [Option.some.injEq, Prod.mk.injEq] at h
      obtain ⟨rfl, rfl, rfl⟩ := h
      rw [hx] at hev
      refine OpOut.same hrep (hrun 0 ?_)
      have hev' : ev x = .slice none 0 0 := hev
      simp [Builtin.len_, ht, run_underlying hu, goInt, hev']
    · cases h
  · cases h

theorem foldl_none {α β : Type} (f : Option α → β → Option α) (hf : ∀ y, f none y = none) : ∀ l : List β, l.foldl f none = none
  | [] => rfl
  | y :: l => by rw [List.foldl_cons, hf]; exact foldl_none f hf l

theorem op_min {c : Call} {x : Operand} {rest : List Operand} (ho : o.op = .call c) (hc : c.callee = .builtin .min) (ha : c.args.toList = x :: rest) (h : op1 P s o = some (as, v, s')) (hrep : Rep e W0 s w) (hev : ∀ y ∈ x :: rest, ev y = (s.ev y).den e) : OpOut P e W0 s s' o ev v w := by
  simp only [op1, ho, hc, ha] at h
  have key : ∀ (l : List Operand) (k : IntKind) (a : E), (∀ y ∈ l, ev y = (s.ev y).den e) →
      l.foldl (fun (acc : Option (List B × SV × St)) y => match acc, s.ev y with
        | some (as, .w (.o (.i k a)), s'), .w (.o (.i _ b)) => some (as, one (.i k (mkMn a b)), s')
        | _, _ => none) (some ([], one (.i k a), s)) = some (as, v, s') →
      as = [] ∧ s' = s ∧ (l.map ev |>.foldlM (m := Sem) Builtin.min2 (.int k (a.den e.R e.r))).run P w = .ok (v.den e) w := by
    intro l
    induction l with
    | nil =>
      intro k a _ hf
      simp only [List.foldl_nil, Option.some.injEq, Prod.mk.injEq] at hf
      obtain ⟨rfl, rfl, rfl⟩ := hf
      exact ⟨rfl, rfl, rfl⟩
    | cons y l ih =>
      intro k a hl hf
      rw [List.foldl_cons] at hf
      cases hy : s.ev y with
      | w yw => cases yw with
        | o yc => cases yc with
          | i k' b =>
            simp only [hy, one] at hf
            obtain ⟨h1, h2, h3⟩ := ih k (mkMn a b) (fun z hz => hl z (by simp [hz])) hf
            refine ⟨h1, h2, ?_⟩
            rw [List.map_cons, List.foldlM_cons, Sem.run_bind, hl y (by simp), hy, den_i]
            simp only [Builtin.min2, Sem.run_pure, Result.andThen_ok]
            rw [mkMn_den] at h3
            exact h3
          | _ => simp only [hy, one] at hf; rw [foldl_none _ (by simp)] at hf; cases hf
        | a cs => simp only [hy, one] at hf; rw [foldl_none _ (by simp)] at hf; cases hf
      | t xs => simp only [hy, one] at hf; rw [foldl_none _ (by simp)] at hf; cases hf
      | un i => simp only [hy, one] at hf; rw [foldl_none _ (by simp)] at hf; cases hf
  have hargs : c.args = (x :: rest).toArray := by
    apply Array.ext'
    simpa using ha
  split at h
  · rename_i k a hx
    obtain ⟨rfl, rfl, h3⟩ := key rest k a (fun y hy => hev y (by simp [hy])) h
    refine OpOut.same hrep ?_
    have hx' : ev x = .int k (a.den e.R e.r) := by rw [hev x (by simp), hx]; rfl
    simp only [execOp, ho, resolve, hc, hargs, Sem.run_bind, Sem.run_pure, Result.andThen_ok, invoke, builtin, Builtin.min_, List.map_toArray, List.map_cons, hx', h3]
  · rw [foldl_none _ (by simp)] at h
    cases h

theorem op_max {c : Call} {x : Operand} {rest : List Operand} (ho : o.op = .call c) (hc : c.callee = .builtin .max) (ha : c.args.toList = x :: rest) (h : op1 P s o = some (as, v, s')) (hrep : Rep e W0 s w) (hev : ∀ y ∈ x :: rest, ev y = (s.ev y).den e) : OpOut P e W0 s s' o ev v w := by
  simp only [op1, ho, hc, ha] at h
  have key : ∀ (l : List Operand) (k : IntKind) (a : E), (∀ y ∈ l, ev y = (s.ev y).den e) →
      l.foldl (fun (acc : Option (List B × SV × St)) y => match acc, s.ev y with
        | some (as, .w (.o (.i k a)), s'), .w (.o (.i _ b)) => some (as, one (.i k (mkMx a b)), s')
        | _, _ => none) (some ([], one (.i k a), s)) = some (as, v, s') →
      as = [] ∧ s' = s ∧ (l.map ev |>.foldlM (m := Sem) Builtin.max2 (.int k (a.den e.R e.r))).run P w = .ok (v.den e) w := by
    intro l
    induction l with
    | nil =>
      intro k a _ hf
      simp only [List.foldl_nil, Option.some.injEq, Prod.mk.injEq] at hf
      obtain ⟨rfl, rfl, rfl⟩ := hf
      exact ⟨rfl, rfl, rfl⟩
    | cons y l ih =>
      intro k a hl hf
      rw [List.foldl_cons] at hf
      cases hy : s.ev y with
      | w yw => cases yw with
        | o yc => cases yc with
          | i k' b =>
            simp only [hy, one] at hf
            obtain ⟨h1, h2, h3⟩ := ih k (mkMx a b) (fun z hz => hl z (by simp [hz])) hf
            refine ⟨h1, h2, ?_⟩
            rw [List.map_cons, List.foldlM_cons, Sem.run_bind, hl y (by simp), hy, den_i]
            simp only [Builtin.max2, Sem.run_pure, Result.andThen_ok]
            rw [mkMx_den] at h3
            exact h3
          | _ => simp only [hy, one] at hf; rw [foldl_none _ (by simp)] at hf; cases hf
        | a cs => simp only [hy, one] at hf; rw [foldl_none _ (by simp)] at hf; cases hf
      | t xs => simp only [hy, one] at hf; rw [foldl_none _ (by simp)] at hf; cases hf
      | un i => simp only [hy, one] at hf; rw [foldl_none _ (by simp)] at hf; cases hf
  have hargs : c.args = (x :: rest).toArray := by
    apply Array.ext'
    simpa using ha
  split at h
  · rename_i k a hx
    obtain ⟨rfl, rfl, h3⟩ := key rest k a (fun y hy => hev y (by simp [hy])) h
    refine OpOut.same hrep ?_
    have hx' : ev x = .int k (a.den e.R e.r) := by rw [hev x (by simp), hx]; rfl
    simp only [execOp, ho, resolve, hc, hargs, Sem.run_bind, Sem.run_pure, Result.andThen_ok, invoke, builtin, Builtin.max_, List.map_toArray, List.map_cons, hx', h3]
  · rw [foldl_none _ (by simp)] at h
    cases h

theorem op1_sound (h : op1 P s o = some (as, v, s')) (hrep : Rep e W0 s w) (hev : ∀ x ∈ o.op.operands, ev x = (s.ev x).den e) (has : ∀ b ∈ as, b.den e.R e.r = true) : OpOut P e W0 s s' o ev v w := by
  cases ho : o.op with
  | move x => exact op_move (.inl ho) h hrep (hev x (by simp [ho, Op.operands]))
  | assign x => exact op_move (.inr ho) h hrep (hev x (by simp [ho, Op.operands]))
  | pick c a b => exact op_pick ho h hrep (hev c (by simp [ho, Op.operands])) (hev a (by simp [ho, Op.operands])) (hev b (by simp [ho, Op.operands]))
  | alloc t => exact op_alloc ho h hrep
  | box t x => exact op_box ho h hrep (hev x (by simp [ho, Op.operands]))
  | build t ps => exact op_build ho h hrep (fun p hp => hev p.2 (by simp only [ho, Op.operands, List.mem_toArray]; exact List.mem_map_of_mem hp))
  | makeSlice t l c => exact op_makeSlice ho h hrep (hev l (by simp [ho, Op.operands])) (hev c (by simp [ho, Op.operands]))
  | buildSlice t n ps => exact op_buildSlice ho h hrep (fun p hp => hev p.2 (by simp only [ho, Op.operands, List.mem_toArray]; exact List.mem_map_of_mem hp))
  | load t a => exact op_load ho h hrep (hev a (by simp [ho, Op.operands])) has
  | store t a x => exact op_store ho h hrep (hev a (by simp [ho, Op.operands])) (hev x (by simp [ho, Op.operands])) has
  | nilCheck x => exact op_nilCheck ho h hrep (hev x (by simp [ho, Op.operands])) has
  | binOp op t x y yt => exact op_bin ho h hrep (hev x (by simp [ho, Op.operands])) (hev y (by simp [ho, Op.operands])) has
  | unOp u t x => exact op_un ho h hrep (hev x (by simp [ho, Op.operands]))
  | convert a b x => exact op_convert ho h hrep (hev x (by simp [ho, Op.operands]))
  | fieldAddr t x f => exact op_fieldAddr ho h hrep (hev x (by simp [ho, Op.operands])) has
  | field t x f => exact op_field ho h hrep (hev x (by simp [ho, Op.operands]))
  | indexAddr t x i => exact op_indexAddr ho h hrep (hev x (by simp [ho, Op.operands])) (hev i (by simp [ho, Op.operands])) has
  | index t x i => exact op_index ho h hrep (hev x (by simp [ho, Op.operands])) (hev i (by simp [ho, Op.operands]))
  | slice t x lo hi mx => exact op_slice ho h hrep (hev x (by simp [ho, Op.operands])) (fun y hy => hev y (by simp [ho, Op.operands, Option.mem_def.1 hy])) (fun y hy => hev y (by simp [ho, Op.operands, Option.mem_def.1 hy])) (fun y hy => hev y (by simp [ho, Op.operands, Option.mem_def.1 hy])) has
  | extract x i => exact op_extract ho h hrep (hev x (by simp [ho, Op.operands]))
  | makeFunc fn first caps => exact op_makeFunc ho h hrep (fun x hx => hev x (by simp [ho, Op.operands, hx]))
  | call c =>
    have hop : o.op.operands = c.operands := by rw [ho]; rfl
    cases hc : c.callee with
    | value f => simp [op1, ho, hc] at h
    | invoke r m => simp [op1, ho, hc] at h
    | builtin b =>
      have hargs : ∀ y ∈ c.args.toList, ev y = (s.ev y).den e := fun y hy => hev y (by rw [hop]; simp [Call.operands, hc]; simpa using hy)
      cases hl : c.args.toList with
      | nil => cases b <;> simp [op1, ho, hc, hl] at h
      | cons x rest =>
        rw [hl] at hargs
        cases b <;> first
          | exact op_min ho hc hl h hrep hargs
          | exact op_max ho hc hl h hrep hargs
          | (cases rest with
             | nil => exact op_len ho hc hl h hrep (hargs x (by simp)) has
             | cons y ys => simp [op1, ho, hc, hl] at h)
          | (simp [op1, ho, hc, hl] at h; done)
  | _ => simp [op1, ho] at h
end
end Go.Sx
