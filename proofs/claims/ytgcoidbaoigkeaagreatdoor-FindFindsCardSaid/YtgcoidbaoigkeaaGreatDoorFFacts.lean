/-
  The program's own facts that every row asks for, each shown by itself.
-/
import Derived.Test.YtgcoidbaoigkeaaGreatDoorRows
import Derived.Test.YtgcoidbaoigkeaaGreatDoorSwS
import Derived.KernelRfl
set_option maxRecDepth 100000
set_option linter.unusedVariables false
set_option linter.unusedSimpArgs false
namespace Go.Proofs.YtgcoidbaoigkeaaGreatDoor.facts
open Go.RowKit Go.ChangeShapes Go.WideShapes Go.ChangeAt Go.Sx

theorem own : ownKnob Tryz.prog.godebug = none := by kernel_rfl
theorem laidOut : laidOutB Tryz.prog = true := by kernel_rfl
theorem mixed : Tryz.prog.follows .mixedOrders = true := by kernel_rfl
theorem mapsRowed' : mapsRowed Tryz.prog = true := by kernel_rfl
theorem stops : Tryz.prog.stops = [] := by kernel_rfl
theorem stopKnobs : Tryz.prog.stopKnobs = [] := by kernel_rfl
theorem plainKeys : Tryz.prog.plainKeys = true := by kernel_rfl
theorem heard : Tryz.prog.stopsHeard = true := by kernel_rfl

theorem initIs : Tryz.prog.initOrder = "harness b3924336b0480d2658ba0abf4705aba63770927102c8bae2dcedd6927e28cde3 cut at diorama/dioramatop.TopOnly diorama/dioramatop.TopFound diorama/dioramalaw18.FindFinds" := by kernel_rfl
theorem litIs : "harness b3924336b0480d2658ba0abf4705aba63770927102c8bae2dcedd6927e28cde3 cut at diorama/dioramatop.TopOnly diorama/dioramatop.TopFound diorama/dioramalaw18.FindFinds" = String.ofList ['h', 'a', 'r', 'n', 'e', 's', 's', ' ', 'b', '3', '9', '2', '4', '3', '3', '6', 'b', '0', '4', '8', '0', 'd', '2', '6', '5', '8', 'b', 'a', '0', 'a', 'b', 'f', '4', '7', '0', '5', 'a', 'b', 'a', '6', '3', '7', '7', '0', '9', '2', '7', '1', '0', '2', 'c', '8', 'b', 'a', 'e', '2', 'd', 'c', 'e', 'd', 'd', '6', '9', '2', '7', 'e', '2', '8', 'c', 'd', 'e', '3', ' ', 'c', 'u', 't', ' ', 'a', 't', ' ', 'd', 'i', 'o', 'r', 'a', 'm', 'a', '/', 'd', 'i', 'o', 'r', 'a', 'm', 'a', 't', 'o', 'p', '.', 'T', 'o', 'p', 'O', 'n', 'l', 'y', ' ', 'd', 'i', 'o', 'r', 'a', 'm', 'a', '/', 'd', 'i', 'o', 'r', 'a', 'm', 'a', 't', 'o', 'p', '.', 'T', 'o', 'p', 'F', 'o', 'u', 'n', 'd', ' ', 'd', 'i', 'o', 'r', 'a', 'm', 'a', '/', 'd', 'i', 'o', 'r', 'a', 'm', 'a', 'l', 'a', 'w', '1', '8', '.', 'F', 'i', 'n', 'd', 'F', 'i', 'n', 'd', 's'] := by kernel_rfl
theorem words : wordsSigns Tryz.prog.initOrder.toList = [['h', 'a', 'r', 'n', 'e', 's', 's'], ['b', '3', '9', '2', '4', '3', '3', '6', 'b', '0', '4', '8', '0', 'd', '2', '6', '5', '8', 'b', 'a', '0', 'a', 'b', 'f', '4', '7', '0', '5', 'a', 'b', 'a', '6', '3', '7', '7', '0', '9', '2', '7', '1', '0', '2', 'c', '8', 'b', 'a', 'e', '2', 'd', 'c', 'e', 'd', 'd', '6', '9', '2', '7', 'e', '2', '8', 'c', 'd', 'e', '3'], ['c', 'u', 't'], ['a', 't'], ['d', 'i', 'o', 'r', 'a', 'm', 'a', '/', 'd', 'i', 'o', 'r', 'a', 'm', 'a', 't', 'o', 'p', '.', 'T', 'o', 'p', 'O', 'n', 'l', 'y'], ['d', 'i', 'o', 'r', 'a', 'm', 'a', '/', 'd', 'i', 'o', 'r', 'a', 'm', 'a', 't', 'o', 'p', '.', 'T', 'o', 'p', 'F', 'o', 'u', 'n', 'd'], ['d', 'i', 'o', 'r', 'a', 'm', 'a', '/', 'd', 'i', 'o', 'r', 'a', 'm', 'a', 'l', 'a', 'w', '1', '8', '.', 'F', 'i', 'n', 'd', 'F', 'i', 'n', 'd', 's']] := by
  rw [initIs, litIs, String.toList_ofList]
  kernel_rfl
theorem behind : behindMainWord [['h', 'a', 'r', 'n', 'e', 's', 's'], ['b', '3', '9', '2', '4', '3', '3', '6', 'b', '0', '4', '8', '0', 'd', '2', '6', '5', '8', 'b', 'a', '0', 'a', 'b', 'f', '4', '7', '0', '5', 'a', 'b', 'a', '6', '3', '7', '7', '0', '9', '2', '7', '1', '0', '2', 'c', '8', 'b', 'a', 'e', '2', 'd', 'c', 'e', 'd', 'd', '6', '9', '2', '7', 'e', '2', '8', 'c', 'd', 'e', '3'], ['c', 'u', 't'], ['a', 't'], ['d', 'i', 'o', 'r', 'a', 'm', 'a', '/', 'd', 'i', 'o', 'r', 'a', 'm', 'a', 't', 'o', 'p', '.', 'T', 'o', 'p', 'O', 'n', 'l', 'y'], ['d', 'i', 'o', 'r', 'a', 'm', 'a', '/', 'd', 'i', 'o', 'r', 'a', 'm', 'a', 't', 'o', 'p', '.', 'T', 'o', 'p', 'F', 'o', 'u', 'n', 'd'], ['d', 'i', 'o', 'r', 'a', 'm', 'a', '/', 'd', 'i', 'o', 'r', 'a', 'm', 'a', 'l', 'a', 'w', '1', '8', '.', 'F', 'i', 'n', 'd', 'F', 'i', 'n', 'd', 's']] = [['c', 'u', 't'], ['a', 't'], ['d', 'i', 'o', 'r', 'a', 'm', 'a', '/', 'd', 'i', 'o', 'r', 'a', 'm', 'a', 't', 'o', 'p', '.', 'T', 'o', 'p', 'O', 'n', 'l', 'y'], ['d', 'i', 'o', 'r', 'a', 'm', 'a', '/', 'd', 'i', 'o', 'r', 'a', 'm', 'a', 't', 'o', 'p', '.', 'T', 'o', 'p', 'F', 'o', 'u', 'n', 'd'], ['d', 'i', 'o', 'r', 'a', 'm', 'a', '/', 'd', 'i', 'o', 'r', 'a', 'm', 'a', 'l', 'a', 'w', '1', '8', '.', 'F', 'i', 'n', 'd', 'F', 'i', 'n', 'd', 's']] := by kernel_rfl
theorem behindIs : behindMainWord (wordsSigns Tryz.prog.initOrder.toList) = [['c', 'u', 't'], ['a', 't'], ['d', 'i', 'o', 'r', 'a', 'm', 'a', '/', 'd', 'i', 'o', 'r', 'a', 'm', 'a', 't', 'o', 'p', '.', 'T', 'o', 'p', 'O', 'n', 'l', 'y'], ['d', 'i', 'o', 'r', 'a', 'm', 'a', '/', 'd', 'i', 'o', 'r', 'a', 'm', 'a', 't', 'o', 'p', '.', 'T', 'o', 'p', 'F', 'o', 'u', 'n', 'd'], ['d', 'i', 'o', 'r', 'a', 'm', 'a', '/', 'd', 'i', 'o', 'r', 'a', 'm', 'a', 'l', 'a', 'w', '1', '8', '.', 'F', 'i', 'n', 'd', 'F', 'i', 'n', 'd', 's']] := by rw [words, behind]
theorem strip : stripLifts liftWords [['c', 'u', 't'], ['a', 't'], ['d', 'i', 'o', 'r', 'a', 'm', 'a', '/', 'd', 'i', 'o', 'r', 'a', 'm', 'a', 't', 'o', 'p', '.', 'T', 'o', 'p', 'O', 'n', 'l', 'y'], ['d', 'i', 'o', 'r', 'a', 'm', 'a', '/', 'd', 'i', 'o', 'r', 'a', 'm', 'a', 't', 'o', 'p', '.', 'T', 'o', 'p', 'F', 'o', 'u', 'n', 'd'], ['d', 'i', 'o', 'r', 'a', 'm', 'a', '/', 'd', 'i', 'o', 'r', 'a', 'm', 'a', 'l', 'a', 'w', '1', '8', '.', 'F', 'i', 'n', 'd', 'F', 'i', 'n', 'd', 's']] = ([], [['c', 'u', 't'], ['a', 't'], ['d', 'i', 'o', 'r', 'a', 'm', 'a', '/', 'd', 'i', 'o', 'r', 'a', 'm', 'a', 't', 'o', 'p', '.', 'T', 'o', 'p', 'O', 'n', 'l', 'y'], ['d', 'i', 'o', 'r', 'a', 'm', 'a', '/', 'd', 'i', 'o', 'r', 'a', 'm', 'a', 't', 'o', 'p', '.', 'T', 'o', 'p', 'F', 'o', 'u', 'n', 'd'], ['d', 'i', 'o', 'r', 'a', 'm', 'a', '/', 'd', 'i', 'o', 'r', 'a', 'm', 'a', 'l', 'a', 'w', '1', '8', '.', 'F', 'i', 'n', 'd', 'F', 'i', 'n', 'd', 's']]) := by kernel_rfl

theorem make_of {P : Program} {c : List Char} {rest : List (List Char)} (h : behindMainWord (wordsSigns P.initOrder.toList) = c :: rest)
    (h1 : (c == "gc".toList || c == "spec".toList) = false) (h2 : (c == "cut".toList) = true) : P.make = some .cut := by
  unfold Program.make
  rw [h]
  simp only [h1, h2, Bool.true_or, if_true, Bool.false_eq_true, if_false]
theorem headLifts_of {P : Program} {ws rs : List (List Char)} (h : behindMainWord (wordsSigns P.initOrder.toList) = ws) (hs : stripLifts liftWords ws = ([], rs)) : P.headLifts = [] := by
  unfold Program.headLifts
  rw [h]
  simp only [hs]
  split <;> rfl
theorem liftsFinal_of {P : Program} {ws : List (List Char)} (h : behindMainWord (wordsSigns P.initOrder.toList) = ws) (hl : P.headLifts = [])
    (h1 : (ws.head? == some "carried".toList) = false) : P.liftsFinal = false := by
  unfold Program.liftsFinal
  simp only [h, hl, h1, Bool.false_and, Bool.false_or]
  rfl
theorem mayEnter_of {P : Program} {c : List Char} {rest : List (List Char)} (h : behindMainWord (wordsSigns P.initOrder.toList) = c :: rest) (hs : stripLifts liftWords (c :: rest) = ([], c :: rest))
    (h1 : (some c == some "cut".toList) = true) (h2 : P.laysLater = false) (h3 : P.bearsReflect = false) (h4 : P.doorFits [] = true) : P.mayEnter = true := by
  unfold Program.mayEnter
  rw [h]
  simp only [hs, List.head?_cons, h1, h2, h3, h4, Bool.not_false, Bool.or_true, Bool.and_true, Bool.true_and, List.contains_nil]
theorem mayEnter : Tryz.prog.mayEnter = true := mayEnter_of behindIs strip (by kernel_rfl) (by kernel_rfl) (by kernel_rfl) (by kernel_rfl)
theorem headLifts : Tryz.prog.headLifts = [] := headLifts_of behindIs strip
theorem liftsFinal : Tryz.prog.liftsFinal = false := liftsFinal_of behindIs headLifts (by kernel_rfl)
theorem make : Tryz.prog.make = some .cut := make_of behindIs (by kernel_rfl) (by kernel_rfl)

/-- What a row asks of the program, but for what goes with its own function. -/
theorem joined {f : FuncId} {fn : Func} {s : ChangeSpec} {c : OpenClaim}
    (h1 : (c.wf (OpenSpec.ofChange s) && fn.params.all (Tryz.prog.readableRec ·) && namedTie Tryz.prog c.named s.vars && (c.stops == []) && (c.knobs == []) &&
      (c.maps == (fn.params.toList ++ s.plain.varTypes Tryz.prog).any (Tryz.prog.mapsRec ·)) && (c.ifaces == (fn.params.toList ++ s.plain.varTypes Tryz.prog).any (Tryz.prog.ifacesRec ·)) && (c.mapsOut == Tryz.prog.mapsAmong fn.resultTypes.toList)) = true)
    (h2 : ((c.loops == (fn.params.toList ++ s.plain.varTypes Tryz.prog).any (Tryz.prog.loopsFrom ·)) && (c.wideKeys == (fn.params.toList ++ s.plain.varTypes Tryz.prog ++ fn.resultTypes.toList).any (Tryz.prog.wideKeysFrom ·)) &&
      s.vars.all (Tryz.prog.varReadable ·) && fn.resultTypes.all (fun t => Tryz.prog.readableRec t && decide (t < Tryz.prog.types.size)) && (c.ifacesOut == fn.resultTypes.toList.any (Tryz.prog.ifacesRec ·)) && (c.loopsOut == fn.resultTypes.toList.any (Tryz.prog.loopsFrom ·))) = true)
    (h3 : ((c.kinds == (if c.domain.isEmpty then [] else fn.params.toList.map fun t => match Tryz.prog.underlying t with | some (.int k) => some k | _ => none)) && (c.pinned == c.pinnedBy) &&
      (c.veiled == (fn.params.toList ++ s.plain.varTypes Tryz.prog ++ fn.resultTypes.toList).any (Tryz.prog.veiledRec ·)) && c.veiledFits Tryz.prog fn.params.toList (fn.params.toList ++ s.plain.varTypes Tryz.prog ++ fn.resultTypes.toList)) = true)
    (i1 : (c.inPlace == Tryz.prog.inPlace f) = true) (i2 : (c.unfollowed == Tryz.prog.unfollowed f) = true) (i3 : (c.recurses == Tryz.prog.recurses f) = true) (i4 : (c.named == Tryz.prog.varsNamed f) = true)
    (j1 : c.plainKeys = true) (j2 : c.lifted = false) (j3 : c.make = .cut) (j4 : c.shortTexts.isNone = true) :
    joinedFacts Tryz.prog f fn s c = true := by
  unfold joinedFacts
  simp only [Bool.and_eq_true] at h1 h2 h3
  obtain ⟨⟨⟨⟨⟨⟨⟨a1, a2⟩, a3⟩, a4⟩, a5⟩, a6⟩, a7⟩, a8⟩ := h1
  obtain ⟨⟨⟨⟨⟨b1, b2⟩, b3⟩, b4⟩, b5⟩, b6⟩ := h2
  obtain ⟨⟨⟨c1, c2⟩, c3⟩, c4⟩ := h3
  simp only [Bool.and_eq_true]
  refine ⟨⟨⟨⟨⟨⟨⟨⟨⟨⟨⟨⟨⟨⟨⟨⟨⟨⟨⟨⟨⟨⟨⟨⟨⟨⟨⟨⟨⟨⟨⟨a1, laidOut⟩, mapsRowed'⟩, a2⟩, a3⟩, a4⟩, by rw [stops]; rfl⟩, a5⟩, by rw [stopKnobs]; rfl⟩, i1⟩, i2⟩, i3⟩, i4⟩, a6⟩, a7⟩, a8⟩, b1⟩, b2⟩, b3⟩, b4⟩, b5⟩, b6⟩, by rw [j1, plainKeys]; rfl⟩, j4⟩, heard⟩, mayEnter⟩, by rw [j2, liftsFinal]; rfl⟩, by rw [make, j3]; rfl⟩, ?_⟩, c2⟩, c3⟩, c4⟩
  exact c1
#print axioms joined
end Go.Proofs.YtgcoidbaoigkeaaGreatDoor.facts
