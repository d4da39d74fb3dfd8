/-
  What the laid package-level variable says of the world that a call begins in; a world that it holds of.
-/
import Derived.Test.YtgcoidbaoigkeaaDoorRows
import Derived.Test.YtgcoidbaoigkeaaDoorFFacts
import Derived.Test.YtgcoidbaoigkeaaDoorFDefs
import Derived.LaidLaws
set_option linter.unusedVariables false
set_option linter.unusedSimpArgs false
namespace Go.Proofs.YtgcoidbaoigkeaaDoor.fix
open Go.RowKit Go.ChangeShapes Go.WideShapes Go.Sx

theorem gl2 {α : Type} {l : List α} (h : l.length = 2) : ∃ a b, l = [a, b] := by
  match l, h with
  | [a, b], _ => exact ⟨a, b, rfl⟩
theorem gl3 {α : Type} {l : List α} (h : l.length = 3) : ∃ a b c, l = [a, b, c] := by
  match l, h with
  | [a, b, c], _ => exact ⟨a, b, c, rfl⟩
theorem gl6 {α : Type} {l : List α} (h : l.length = 6) : ∃ a b c d e f, l = [a, b, c, d, e, f] := by
  match l, h with
  | [a, b, c, d, e, f], _ => exact ⟨a, b, c, d, e, f, rfl⟩
theorem gName : Tryd.prog.globalNamed "diorama/frustum.world" = some 0 := by kernel_rfl
theorem gType : (Tryd.prog.globals[0]?).map (·.type) = some 41 := by kernel_rfl
theorem cellsBox : Tryd.prog.cellsOf 41 = 6 := by kernel_rfl
theorem cellsVec : Tryd.prog.cellsOf 24 = 3 := by kernel_rfl
theorem cellsInt : Tryd.prog.cellsOf 3 = 1 := by kernel_rfl

theorem vec_of_trod {H : Type} {enc : TypeId × Value → H} {W : World} {base : Nat} {sp : Nat → Bool} {held : Bool} {fuel : Nat} {cs : List Value} {x : DataW H × List MemPlace}
    (h : DataW.trod enc Tryd.prog W base sp held fuel 24 cs = some x) : ∃ a b c, cs = [.int .i64 a, .int .i64 b, .int .i64 c] ∧ x.1 = .agg [.lit (.int .i64 a), .lit (.int .i64 b), .lit (.int .i64 c)] := by
  obtain ⟨xs, n, rfl, rfl, hcl, hxl, hf⟩ := DataW.trod_struct Tryd.underlying24 h
  rw [cellsVec] at hcl
  obtain ⟨c0, c1, c2, rfl⟩ := gl3 hcl
  obtain ⟨x0, x1, x2, rfl⟩ := gl3 (show xs.length = 3 from hxl)
  have h0 : DataW.trod enc Tryd.prog W base sp held n 3 (([c0, c1, c2].drop 0).take (Tryd.prog.cellsOf 3)) = some x0 := hf 0 _ rfl
  have h1 : DataW.trod enc Tryd.prog W base sp held n 3 (([c0, c1, c2].drop 1).take (Tryd.prog.cellsOf 3)) = some x1 := hf 1 _ rfl
  have h2 : DataW.trod enc Tryd.prog W base sp held n 3 (([c0, c1, c2].drop 2).take (Tryd.prog.cellsOf 3)) = some x2 := hf 2 _ rfl
  simp only [cellsInt, List.drop_zero, List.drop_succ_cons, List.take_succ_cons, List.take_zero, List.getElem?_cons_zero, List.getElem?_cons_succ] at h0 h1 h2
  obtain ⟨n0, e0, y0, _⟩ := DataW.trod_int Tryd.underlying3 h0
  obtain ⟨n1, e1, y1, _⟩ := DataW.trod_int Tryd.underlying3 h1
  obtain ⟨n2, e2, y2, _⟩ := DataW.trod_int Tryd.underlying3 h2
  simp only [List.cons.injEq, and_true] at e0 e1 e2
  subst e0 e1 e2 y0 y1 y2
  exact ⟨n0, n1, n2, rfl, rfl⟩

def laidCells : Array Value := #[.int .i64 (-4096), .int .i64 (-4096), .int .i64 (-4096), .int .i64 4096, .int .i64 4096, .int .i64 4096]

theorem cells_of_laid {W : World} (h : laidMet Tryd.prog [("diorama/frustum.world", Rows.laid_diorama_frustum_world)] W) : W.var? Tryd.prog "diorama/frustum.world" = some laidCells := by
  obtain ⟨ps, ⟨g, t, cs, fuel, p, q, hg, ht, hvar, hd, _, _⟩, _⟩ := h
  obtain rfl := Option.some.inj (gName.symm.trans hg)
  obtain rfl := Option.some.inj (gType.symm.trans ht)
  rw [hvar]
  congr 1
  obtain ⟨l⟩ := cs
  obtain ⟨xs, n, rfl, hx, hcl, hxl, hf⟩ := DataW.trod_struct Tryd.underlying41 hd
  rw [cellsBox] at hcl
  obtain ⟨c0, c1, c2, c3, c4, c5, rfl⟩ := gl6 (show l.length = 6 from hcl)
  obtain ⟨x0, x1, rfl⟩ := gl2 (show xs.length = 2 from hxl)
  have h0 : DataW.trod (fun _ => ()) Tryd.prog W 0 (fun _ => true) false n 24 (([c0, c1, c2, c3, c4, c5].drop 0).take (Tryd.prog.cellsOf 24)) = some x0 := hf 0 _ rfl
  have h1 : DataW.trod (fun _ => ()) Tryd.prog W 0 (fun _ => true) false n 24 (([c0, c1, c2, c3, c4, c5].drop 3).take (Tryd.prog.cellsOf 24)) = some x1 := hf 1 _ rfl
  simp only [cellsVec, List.drop_zero, List.drop_succ_cons, List.take_succ_cons, List.take_zero, List.getElem?_cons_zero, List.getElem?_cons_succ] at h0 h1
  obtain ⟨m0, m1, m2, e0, y0⟩ := vec_of_trod h0
  obtain ⟨m3, m4, m5, e1, y1⟩ := vec_of_trod h1
  simp only [Prod.mk.injEq, Rows.laid_diorama_frustum_world, List.map_cons, List.map_nil, y0, y1, DataW.agg.injEq, List.cons.injEq, DataW.lit.injEq, Lit.int.injEq, and_true, true_and] at hx
  obtain ⟨⟨⟨f0, f1, f2⟩, f3, f4, f5⟩, _⟩ := hx
  simp only [List.cons.injEq, and_true] at e0 e1
  obtain ⟨rfl, rfl, rfl⟩ := e0
  obtain ⟨rfl, rfl, rfl⟩ := e1
  subst f0 f1 f2 f3 f4 f5
  rfl

theorem glob_of_laid {W : World} (h : laidMet Tryd.prog [("diorama/frustum.world", Rows.laid_diorama_frustum_world)] W) : GlOK gl0 W := by
  intro p hp j n hj
  simp only [gl0, List.mem_singleton] at hp
  subst hp
  have := World.var?_cell gName (cells_of_laid h) j
  rw [this]
  match j, hj with
  | 0, hj => simp at hj; subst hj; rfl
  | 1, hj => simp at hj; subst hj; rfl
  | 2, hj => simp at hj; subst hj; rfl
  | 3, hj => simp at hj; subst hj; rfl
  | 4, hj => simp at hj; subst hj; rfl
  | 5, hj => simp at hj; subst hj; rfl
  | j + 6, hj => simp at hj

set_option maxRecDepth 100000
noncomputable def laidWorld (os : Os) : World :=
  { World.holding Tryd.prog os ⟨#[], #[], []⟩ with heap := (World.holding Tryd.prog os ⟨#[], #[], []⟩).heap.modify 0 fun
      | .cells _ t frozen => .cells laidCells t frozen
      | o => o }

theorem laidWorld_row (os : Os) (args : Array Value) : ((laidWorld os).forCall (fun _ _ => 0) ⟨#[], args, []⟩).memory.heap[0]? = some (.cells laidCells 41 (0, 0)) := by kernel_rfl
theorem laidWorld_met (os : Os) (args : Array Value) : laidMet Tryd.prog [("diorama/frustum.world", Rows.laid_diorama_frustum_world)] ((laidWorld os).forCall (fun _ _ => 0) ⟨#[], args, []⟩).memory :=
  ⟨_, ⟨0, 41, laidCells, 8, [], [], by kernel_rfl, by kernel_rfl, by kernel_rfl, by kernel_rfl, rfl, rfl⟩, by decide, fun b off h => by
    have h' : MemPlace.cell b off ∈ [MemPlace.cell 0 0, .cell 0 1, .cell 0 2, .cell 0 3, .cell 0 4, .cell 0 5] := h
    have hb : b = 0 := by
      simp at h'
      omega
    subst hb
    refine ⟨⟨_, _, laidWorld_row os args⟩, fun u v hc => ?_⟩
    simp only [World.cell?, laidWorld_row os args] at hc
    simp at h'
    rcases h' with rfl | rfl | rfl | rfl | rfl | rfl <;> simp [laidCells] at hc⟩
#print axioms laidWorld_met
end Go.Proofs.YtgcoidbaoigkeaaDoor.fix
