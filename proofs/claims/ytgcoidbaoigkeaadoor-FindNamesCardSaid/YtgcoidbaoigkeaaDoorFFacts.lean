/-
  The program's own facts that every row asks for, each shown by itself.
-/
import Derived.Test.YtgcoidbaoigkeaaDoorRows
import Derived.Test.YtgcoidbaoigkeaaDoorSwS
import Derived.KernelRfl
set_option maxRecDepth 100000
set_option linter.unusedVariables false
set_option linter.unusedSimpArgs false
namespace Go.Proofs.YtgcoidbaoigkeaaDoor.facts
open Go.RowKit Go.ChangeShapes Go.WideShapes Go.ChangeAt Go.Sx

theorem own : ownKnob Tryd.prog.godebug = none := by kernel_rfl
theorem laidOut : laidOutB Tryd.prog = true := by kernel_rfl
theorem mixed : Tryd.prog.follows .mixedOrders = true := by kernel_rfl
theorem mapsRowed' : mapsRowed Tryd.prog = true := by kernel_rfl
theorem stops : Tryd.prog.stops = [] := by kernel_rfl
theorem stopKnobs : Tryd.prog.stopKnobs = [] := by kernel_rfl
theorem plainKeys : Tryd.prog.plainKeys = true := by kernel_rfl
theorem heard : Tryd.prog.stopsHeard = true := by kernel_rfl

theorem initIs : Tryd.prog.initOrder = "harness fe355b6850b09c8680bea1fba1471605f80c9d0ddaacf1e1bebf28d32f60e03f cut at diorama/dioramalaw18.FindEach diorama/dioramalaw18.FindSame diorama/dioramalaw18.FindFew diorama/dioramalaw18.FindNames" := by kernel_rfl
theorem litIs : "harness fe355b6850b09c8680bea1fba1471605f80c9d0ddaacf1e1bebf28d32f60e03f cut at diorama/dioramalaw18.FindEach diorama/dioramalaw18.FindSame diorama/dioramalaw18.FindFew diorama/dioramalaw18.FindNames" = String.ofList ['h', 'a', 'r', 'n', 'e', 's', 's', ' ', 'f', 'e', '3', '5', '5', 'b', '6', '8', '5', '0', 'b', '0', '9', 'c', '8', '6', '8', '0', 'b', 'e', 'a', '1', 'f', 'b', 'a', '1', '4', '7', '1', '6', '0', '5', 'f', '8', '0', 'c', '9', 'd', '0', 'd', 'd', 'a', 'a', 'c', 'f', '1', 'e', '1', 'b', 'e', 'b', 'f', '2', '8', 'd', '3', '2', 'f', '6', '0', 'e', '0', '3', 'f', ' ', 'c', 'u', 't', ' ', 'a', 't', ' ', 'd', 'i', 'o', 'r', 'a', 'm', 'a', '/', 'd', 'i', 'o', 'r', 'a', 'm', 'a', 'l', 'a', 'w', '1', '8', '.', 'F', 'i', 'n', 'd', 'E', 'a', 'c', 'h', ' ', 'd', 'i', 'o', 'r', 'a', 'm', 'a', '/', 'd', 'i', 'o', 'r', 'a', 'm', 'a', 'l', 'a', 'w', '1', '8', '.', 'F', 'i', 'n', 'd', 'S', 'a', 'm', 'e', ' ', 'd', 'i', 'o', 'r', 'a', 'm', 'a', '/', 'd', 'i', 'o', 'r', 'a', 'm', 'a', 'l', 'a', 'w', '1', '8', '.', 'F', 'i', 'n', 'd', 'F', 'e', 'w', ' ', 'd', 'i', 'o', 'r', 'a', 'm', 'a', '/', 'd', 'i', 'o', 'r', 'a', 'm', 'a', 'l', 'a', 'w', '1', '8', '.', 'F', 'i', 'n', 'd', 'N', 'a', 'm', 'e', 's'] := by kernel_rfl
theorem words : wordsSigns Tryd.prog.initOrder.toList = [['h', 'a', 'r', 'n', 'e', 's', 's'], ['f', 'e', '3', '5', '5', 'b', '6', '8', '5', '0', 'b', '0', '9', 'c', '8', '6', '8', '0', 'b', 'e', 'a', '1', 'f', 'b', 'a', '1', '4', '7', '1', '6', '0', '5', 'f', '8', '0', 'c', '9', 'd', '0', 'd', 'd', 'a', 'a', 'c', 'f', '1', 'e', '1', 'b', 'e', 'b', 'f', '2', '8', 'd', '3', '2', 'f', '6', '0', 'e', '0', '3', 'f'], ['c', 'u', 't'], ['a', 't'], ['d', 'i', 'o', 'r', 'a', 'm', 'a', '/', 'd', 'i', 'o', 'r', 'a', 'm', 'a', 'l', 'a', 'w', '1', '8', '.', 'F', 'i', 'n', 'd', 'E', 'a', 'c', 'h'], ['d', 'i', 'o', 'r', 'a', 'm', 'a', '/', 'd', 'i', 'o', 'r', 'a', 'm', 'a', 'l', 'a', 'w', '1', '8', '.', 'F', 'i', 'n', 'd', 'S', 'a', 'm', 'e'], ['d', 'i', 'o', 'r', 'a', 'm', 'a', '/', 'd', 'i', 'o', 'r', 'a', 'm', 'a', 'l', 'a', 'w', '1', '8', '.', 'F', 'i', 'n', 'd', 'F', 'e', 'w'], ['d', 'i', 'o', 'r', 'a', 'm', 'a', '/', 'd', 'i', 'o', 'r', 'a', 'm', 'a', 'l', 'a', 'w', '1', '8', '.', 'F', 'i', 'n', 'd', 'N', 'a', 'm', 'e', 's']] := by
  rw [initIs, litIs, String.toList_ofList]
  kernel_rfl
theorem behind : behindMainWord [['h', 'a', 'r', 'n', 'e', 's', 's'], ['f', 'e', '3', '5', '5', 'b', '6', '8', '5', '0', 'b', '0', '9', 'c', '8', '6', '8', '0', 'b', 'e', 'a', '1', 'f', 'b', 'a', '1', '4', '7', '1', '6', '0', '5', 'f', '8', '0', 'c', '9', 'd', '0', 'd', 'd', 'a', 'a', 'c', 'f', '1', 'e', '1', 'b', 'e', 'b', 'f', '2', '8', 'd', '3', '2', 'f', '6', '0', 'e', '0', '3', 'f'], ['c', 'u', 't'], ['a', 't'], ['d', 'i', 'o', 'r', 'a', 'm', 'a', '/', 'd', 'i', 'o', 'r', 'a', 'm', 'a', 'l', 'a', 'w', '1', '8', '.', 'F', 'i', 'n', 'd', 'E', 'a', 'c', 'h'], ['d', 'i', 'o', 'r', 'a', 'm', 'a', '/', 'd', 'i', 'o', 'r', 'a', 'm', 'a', 'l', 'a', 'w', '1', '8', '.', 'F', 'i', 'n', 'd', 'S', 'a', 'm', 'e'], ['d', 'i', 'o', 'r', 'a', 'm', 'a', '/', 'd', 'i', 'o', 'r', 'a', 'm', 'a', 'l', 'a', 'w', '1', '8', '.', 'F', 'i', 'n', 'd', 'F', 'e', 'w'], ['d', 'i', 'o', 'r', 'a', 'm', 'a', '/', 'd', 'i', 'o', 'r', 'a', 'm', 'a', 'l', 'a', 'w', '1', '8', '.', 'F', 'i', 'n', 'd', 'N', 'a', 'm', 'e', 's']] = [['c', 'u', 't'], ['a', 't'], ['d', 'i', 'o', 'r', 'a', 'm', 'a', '/', 'd', 'i', 'o', 'r', 'a', 'm', 'a', 'l', 'a', 'w', '1', '8', '.', 'F', 'i', 'n', 'd', 'E', 'a', 'c', 'h'], ['d', 'i', 'o', 'r', 'a', 'm', 'a', '/', 'd', 'i', 'o', 'r', 'a', 'm', 'a', 'l', 'a', 'w', '1', '8', '.', 'F', 'i', 'n', 'd', 'S', 'a', 'm', 'e'], ['d', 'i', 'o', 'r', 'a', 'm', 'a', '/', 'd', 'i', 'o', 'r', 'a', 'm', 'a', 'l', 'a', 'w', '1', '8', '.', 'F', 'i', 'n', 'd', 'F', 'e', 'w'], ['d', 'i', 'o', 'r', 'a', 'm', 'a', '/', 'd', 'i', 'o', 'r', 'a', 'm', 'a', 'l', 'a', 'w', '1', '8', '.', 'F', 'i', 'n', 'd', 'N', 'a', 'm', 'e', 's']] := by kernel_rfl
theorem behindIs : behindMainWord (wordsSigns Tryd.prog.initOrder.toList) = [['c', 'u', 't'], ['a', 't'], ['d', 'i', 'o', 'r', 'a', 'm', 'a', '/', 'd', 'i', 'o', 'r', 'a', 'm', 'a', 'l', 'a', 'w', '1', '8', '.', 'F', 'i', 'n', 'd', 'E', 'a', 'c', 'h'], ['d', 'i', 'o', 'r', 'a', 'm', 'a', '/', 'd', 'i', 'o', 'r', 'a', 'm', 'a', 'l', 'a', 'w', '1', '8', '.', 'F', 'i', 'n', 'd', 'S', 'a', 'm', 'e'], ['d', 'i', 'o', 'r', 'a', 'm', 'a', '/', 'd', 'i', 'o', 'r', 'a', 'm', 'a', 'l', 'a', 'w', '1', '8', '.', 'F', 'i', 'n', 'd', 'F', 'e', 'w'], ['d', 'i', 'o', 'r', 'a', 'm', 'a', '/', 'd', 'i', 'o', 'r', 'a', 'm', 'a', 'l', 'a', 'w', '1', '8', '.', 'F', 'i', 'n', 'd', 'N', 'a', 'm', 'e', 's']] := by rw [words, behind]
theorem strip : stripLifts liftWords [['c', 'u', 't'], ['a', 't'], ['d', 'i', 'o', 'r', 'a', 'm', 'a', '/', 'd', 'i', 'o', 'r', 'a', 'm', 'a', 'l', 'a', 'w', '1', '8', '.', 'F', 'i', 'n', 'd', 'E', 'a', 'c', 'h'], ['d', 'i', 'o', 'r', 'a', 'm', 'a', '/', 'd', 'i', 'o', 'r', 'a', 'm', 'a', 'l', 'a', 'w', '1', '8', '.', 'F', 'i', 'n', 'd', 'S', 'a', 'm', 'e'], ['d', 'i', 'o', 'r', 'a', 'm', 'a', '/', 'd', 'i', 'o', 'r', 'a', 'm', 'a', 'l', 'a', 'w', '1', '8', '.', 'F', 'i', 'n', 'd', 'F', 'e', 'w'], ['d', 'i', 'o', 'r', 'a', 'm', 'a', '/', 'd', 'i', 'o', 'r', 'a', 'm', 'a', 'l', 'a', 'w', '1', '8', '.', 'F', 'i', 'n', 'd', 'N', 'a', 'm', 'e', 's']] = ([], [['c', 'u', 't'], ['a', 't'], ['d', 'i', 'o', 'r', 'a', 'm', 'a', '/', 'd', 'i', 'o', 'r', 'a', 'm', 'a', 'l', 'a', 'w', '1', '8', '.', 'F', 'i', 'n', 'd', 'E', 'a', 'c', 'h'], ['d', 'i', 'o', 'r', 'a', 'm', 'a', '/', 'd', 'i', 'o', 'r', 'a', 'm', 'a', 'l', 'a', 'w', '1', '8', '.', 'F', 'i', 'n', 'd', 'S', 'a', 'm', 'e'], ['d', 'i', 'o', 'r', 'a', 'm', 'a', '/', 'd', 'i', 'o', 'r', 'a', 'm', 'a', 'l', 'a', 'w', '1', '8', '.', 'F', 'i', 'n', 'd', 'F', 'e', 'w'], ['d', 'i', 'o', 'r', 'a', 'm', 'a', '/', 'd', 'i', 'o', 'r', 'a', 'm', 'a', 'l', 'a', 'w', '1', '8', '.', 'F', 'i', 'n', 'd', 'N', 'a', 'm', 'e', 's']]) := by kernel_rfl

theorem make_of {P : Program} {c : List Char} {rest : List (List Char)} (h : behindMainWord (wordsSigns P.initOrder.toList) = c :: rest)
    (h1 : (c == "gc".toList || c == "spec".toList) = false) (h2 : (c == "cut".toList) = true) : P.make = some .cut := by
  unfold Program.make
  rw [h]
  simp only [h1, h2, Bool.true_or, if_true, Bool.false_eq_true, if_false]
theorem headLifts_of {P : Program} {ws rs : List (List Char)} (h : behindMainWord (wordsSigns P.initOrder.toList) = ws) (hs : stripLifts liftWords ws = ([], rs)) : P.headLifts = [] := by
  unfold Program.headLifts
  rw [h]
  simp only [hs]
  split <;> rfl
theorem liftsFinal_of {P : Program} {ws : List (List Char)} (h : behindMainWord (wordsSigns P.initOrder.toList) = ws) (hl : P.headLifts = [])
    (h1 : (ws.head? == some "carried".toList) = false) : P.liftsFinal = false := by
  unfold Program.liftsFinal
  simp only [h, hl, h1, Bool.false_and, Bool.false_or]
  rfl
theorem mayEnter_of {P : Program} {c : List Char} {rest : List (List Char)} (h : behindMainWord (wordsSigns P.initOrder.toList) = c :: rest) (hs : stripLifts liftWords (c :: rest) = ([], c :: rest))
    (h1 : (some c == some "cut".toList) = true) (h2 : P.laysLater = false) (h3 : P.bearsReflect = false) (h4 : P.doorFits [] = true) : P.mayEnter = true := by
  unfold Program.mayEnter
  rw [h]
  simp only [hs, List.head?_cons, h1, h2, h3, h4, Bool.not_false, Bool.or_true, Bool.and_true, Bool.true_and, List.contains_nil]
theorem mayEnter : Tryd.prog.mayEnter = true := mayEnter_of behindIs strip (by kernel_rfl) (by kernel_rfl) (by kernel_rfl) (by kernel_rfl)
theorem headLifts : Tryd.prog.headLifts = [] := headLifts_of behindIs strip
theorem liftsFinal : Tryd.prog.liftsFinal = false := liftsFinal_of behindIs headLifts (by kernel_rfl)
theorem make : Tryd.prog.make = some .cut := make_of behindIs (by kernel_rfl) (by kernel_rfl)

theorem joined {f : FuncId} {fn : Func} {s : ChangeSpec} {c : OpenClaim}
    (h1 : (c.wf (OpenSpec.ofChange s) && fn.params.all (Tryd.prog.readableRec ·) && namedTie Tryd.prog c.named s.vars && (c.stops == []) && (c.knobs == []) &&
      (c.maps == (fn.params.toList ++ s.plain.varTypes Tryd.prog).any (Tryd.prog.mapsRec ·)) && (c.ifaces == (fn.params.toList ++ s.plain.varTypes Tryd.prog).any (Tryd.prog.ifacesRec ·)) && (c.mapsOut == Tryd.prog.mapsAmong fn.resultTypes.toList)) = true)
    (h2 : ((c.loops == (fn.params.toList ++ s.plain.varTypes Tryd.prog).any (Tryd.prog.loopsFrom ·)) && (c.wideKeys == (fn.params.toList ++ s.plain.varTypes Tryd.prog ++ fn.resultTypes.toList).any (Tryd.prog.wideKeysFrom ·)) &&
      s.vars.all (Tryd.prog.varReadable ·) && fn.resultTypes.all (fun t => Tryd.prog.readableRec t && decide (t < Tryd.prog.types.size)) && (c.ifacesOut == fn.resultTypes.toList.any (Tryd.prog.ifacesRec ·)) && (c.loopsOut == fn.resultTypes.toList.any (Tryd.prog.loopsFrom ·))) = true)
    (h3 : ((c.kinds == (if c.domain.isEmpty then [] else fn.params.toList.map fun t => match Tryd.prog.underlying t with | some (.int k) => some k | _ => none)) && (c.pinned == c.pinnedBy) &&
      (c.veiled == (fn.params.toList ++ s.plain.varTypes Tryd.prog ++ fn.resultTypes.toList).any (Tryd.prog.veiledRec ·)) && c.veiledFits Tryd.prog fn.params.toList (fn.params.toList ++ s.plain.varTypes Tryd.prog ++ fn.resultTypes.toList)) = true)
    (i1 : (c.inPlace == Tryd.prog.inPlace f) = true) (i2 : (c.unfollowed == Tryd.prog.unfollowed f) = true) (i3 : (c.recurses == Tryd.prog.recurses f) = true) (i4 : (c.named == Tryd.prog.varsNamed f) = true)
    (j1 : c.plainKeys = true) (j2 : c.lifted = false) (j3 : c.make = .cut) (j4 : c.shortTexts.isNone = true) :
    joinedFacts Tryd.prog f fn s c = true := by
  unfold joinedFacts
  simp only [Bool.and_eq_true] at h1 h2 h3
  obtain ⟨⟨⟨⟨⟨⟨⟨a1, a2⟩, a3⟩, a4⟩, a5⟩, a6⟩, a7⟩, a8⟩ := h1
  obtain ⟨⟨⟨⟨⟨b1, b2⟩, b3⟩, b4⟩, b5⟩, b6⟩ := h2
  obtain ⟨⟨⟨c1, c2⟩, c3⟩, c4⟩ := h3
  simp only [Bool.and_eq_true]
  refine ⟨⟨⟨⟨⟨⟨⟨⟨⟨⟨⟨⟨⟨⟨⟨⟨⟨⟨⟨⟨⟨⟨⟨⟨⟨⟨⟨⟨⟨⟨⟨a1, laidOut⟩, mapsRowed'⟩, a2⟩, a3⟩, a4⟩, by rw [stops]; rfl⟩, a5⟩, by rw [stopKnobs]; rfl⟩, i1⟩, i2⟩, i3⟩, i4⟩, a6⟩, a7⟩, a8⟩, b1⟩, b2⟩, b3⟩, b4⟩, b5⟩, b6⟩, by rw [j1, plainKeys]; rfl⟩, j4⟩, heard⟩, mayEnter⟩, by rw [j2, liftsFinal]; rfl⟩, by rw [make, j3]; rfl⟩, ?_⟩, c2⟩, c3⟩, c4⟩
  exact c1
#print axioms joined
end Go.Proofs.YtgcoidbaoigkeaaDoor.facts
