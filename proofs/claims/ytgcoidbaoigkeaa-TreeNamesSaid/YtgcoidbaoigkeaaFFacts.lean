/-
  The program's own facts that every row asks for, each shown by itself.
-/
import Derived.Test.YtgcoidbaoigkeaaRows
import Derived.Test.YtgcoidbaoigkeaaSwS
import Derived.KernelRfl
set_option maxRecDepth 100000
set_option linter.unusedVariables false
set_option linter.unusedSimpArgs false
namespace Go.Proofs.Ytgcoidbaoigkeaa.facts
open Go.RowKit Go.ChangeShapes Go.WideShapes Go.ChangeAt Go.Sx

theorem own : ownKnob Try.prog.godebug = none := by kernel_rfl
theorem laidOut : laidOutB Try.prog = true := by kernel_rfl
theorem mixed : Try.prog.follows .mixedOrders = true := by kernel_rfl
theorem mapsRowed' : mapsRowed Try.prog = true := by kernel_rfl
theorem stops : Try.prog.stops = [] := by kernel_rfl
theorem stopKnobs : Try.prog.stopKnobs = [] := by kernel_rfl
theorem plainKeys : Try.prog.plainKeys = true := by kernel_rfl
theorem heard : Try.prog.stopsHeard = true := by kernel_rfl

theorem initIs : Try.prog.initOrder = "harness 7ae9aa31b04f278814b45122058fd5a940985668b5ba045db3c2f471391479f5 cut at diorama/dioramatop.TopMoves diorama/dioramalaw16.TreeRefits diorama/dioramalaw16.TreeBuilds diorama/dioramalaw16.TreeOnce diorama/dioramalaw16.TreeNames diorama/dioramalaw16.TreeHolds" := by kernel_rfl
theorem litIs : "harness 7ae9aa31b04f278814b45122058fd5a940985668b5ba045db3c2f471391479f5 cut at diorama/dioramatop.TopMoves diorama/dioramalaw16.TreeRefits diorama/dioramalaw16.TreeBuilds diorama/dioramalaw16.TreeOnce diorama/dioramalaw16.TreeNames diorama/dioramalaw16.TreeHolds" = String.ofList ['h', 'a', 'r', 'n', 'e', 's', 's', ' ', '7', 'a', 'e', '9', 'a', 'a', '3', '1', 'b', '0', '4', 'f', '2', '7', '8', '8', '1', '4', 'b', '4', '5', '1', '2', '2', '0', '5', '8', 'f', 'd', '5', 'a', '9', '4', '0', '9', '8', '5', '6', '6', '8', 'b', '5', 'b', 'a', '0', '4', '5', 'd', 'b', '3', 'c', '2', 'f', '4', '7', '1', '3', '9', '1', '4', '7', '9', 'f', '5', ' ', 'c', 'u', 't', ' ', 'a', 't', ' ', 'd', 'i', 'o', 'r', 'a', 'm', 'a', '/', 'd', 'i', 'o', 'r', 'a', 'm', 'a', 't', 'o', 'p', '.', 'T', 'o', 'p', 'M', 'o', 'v', 'e', 's', ' ', 'd', 'i', 'o', 'r', 'a', 'm', 'a', '/', 'd', 'i', 'o', 'r', 'a', 'm', 'a', 'l', 'a', 'w', '1', '6', '.', 'T', 'r', 'e', 'e', 'R', 'e', 'f', 'i', 't', 's', ' ', 'd', 'i', 'o', 'r', 'a', 'm', 'a', '/', 'd', 'i', 'o', 'r', 'a', 'm', 'a', 'l', 'a', 'w', '1', '6', '.', 'T', 'r', 'e', 'e', 'B', 'u', 'i', 'l', 'd', 's', ' ', 'd', 'i', 'o', 'r', 'a', 'm', 'a', '/', 'd', 'i', 'o', 'r', 'a', 'm', 'a', 'l', 'a', 'w', '1', '6', '.', 'T', 'r', 'e', 'e', 'O', 'n', 'c', 'e', ' ', 'd', 'i', 'o', 'r', 'a', 'm', 'a', '/', 'd', 'i', 'o', 'r', 'a', 'm', 'a', 'l', 'a', 'w', '1', '6', '.', 'T', 'r', 'e', 'e', 'N', 'a', 'm', 'e', 's', ' ', 'd', 'i', 'o', 'r', 'a', 'm', 'a', '/', 'd', 'i', 'o', 'r', 'a', 'm', 'a', 'l', 'a', 'w', '1', '6', '.', 'T', 'r', 'e', 'e', 'H', 'o', 'l', 'd', 's'] := by kernel_rfl
theorem words : wordsSigns Try.prog.initOrder.toList = [['h', 'a', 'r', 'n', 'e', 's', 's'], ['7', 'a', 'e', '9', 'a', 'a', '3', '1', 'b', '0', '4', 'f', '2', '7', '8', '8', '1', '4', 'b', '4', '5', '1', '2', '2', '0', '5', '8', 'f', 'd', '5', 'a', '9', '4', '0', '9', '8', '5', '6', '6', '8', 'b', '5', 'b', 'a', '0', '4', '5', 'd', 'b', '3', 'c', '2', 'f', '4', '7', '1', '3', '9', '1', '4', '7', '9', 'f', '5'], ['c', 'u', 't'], ['a', 't'], ['d', 'i', 'o', 'r', 'a', 'm', 'a', '/', 'd', 'i', 'o', 'r', 'a', 'm', 'a', 't', 'o', 'p', '.', 'T', 'o', 'p', 'M', 'o', 'v', 'e', 's'], ['d', 'i', 'o', 'r', 'a', 'm', 'a', '/', 'd', 'i', 'o', 'r', 'a', 'm', 'a', 'l', 'a', 'w', '1', '6', '.', 'T', 'r', 'e', 'e', 'R', 'e', 'f', 'i', 't', 's'], ['d', 'i', 'o', 'r', 'a', 'm', 'a', '/', 'd', 'i', 'o', 'r', 'a', 'm', 'a', 'l', 'a', 'w', '1', '6', '.', 'T', 'r', 'e', 'e', 'B', 'u', 'i', 'l', 'd', 's'], ['d', 'i', 'o', 'r', 'a', 'm', 'a', '/', 'd', 'i', 'o', 'r', 'a', 'm', 'a', 'l', 'a', 'w', '1', '6', '.', 'T', 'r', 'e', 'e', 'O', 'n', 'c', 'e'], ['d', 'i', 'o', 'r', 'a', 'm', 'a', '/', 'd', 'i', 'o', 'r', 'a', 'm', 'a', 'l', 'a', 'w', '1', '6', '.', 'T', 'r', 'e', 'e', 'N', 'a', 'm', 'e', 's'], ['d', 'i', 'o', 'r', 'a', 'm', 'a', '/', 'd', 'i', 'o', 'r', 'a', 'm', 'a', 'l', 'a', 'w', '1', '6', '.', 'T', 'r', 'e', 'e', 'H', 'o', 'l', 'd', 's']] := by
  rw [initIs, litIs, String.toList_ofList]
  kernel_rfl
theorem behind : behindMainWord [['h', 'a', 'r', 'n', 'e', 's', 's'], ['7', 'a', 'e', '9', 'a', 'a', '3', '1', 'b', '0', '4', 'f', '2', '7', '8', '8', '1', '4', 'b', '4', '5', '1', '2', '2', '0', '5', '8', 'f', 'd', '5', 'a', '9', '4', '0', '9', '8', '5', '6', '6', '8', 'b', '5', 'b', 'a', '0', '4', '5', 'd', 'b', '3', 'c', '2', 'f', '4', '7', '1', '3', '9', '1', '4', '7', '9', 'f', '5'], ['c', 'u', 't'], ['a', 't'], ['d', 'i', 'o', 'r', 'a', 'm', 'a', '/', 'd', 'i', 'o', 'r', 'a', 'm', 'a', 't', 'o', 'p', '.', 'T', 'o', 'p', 'M', 'o', 'v', 'e', 's'], ['d', 'i', 'o', 'r', 'a', 'm', 'a', '/', 'd', 'i', 'o', 'r', 'a', 'm', 'a', 'l', 'a', 'w', '1', '6', '.', 'T', 'r', 'e', 'e', 'R', 'e', 'f', 'i', 't', 's'], ['d', 'i', 'o', 'r', 'a', 'm', 'a', '/', 'd', 'i', 'o', 'r', 'a', 'm', 'a', 'l', 'a', 'w', '1', '6', '.', 'T', 'r', 'e', 'e', 'B', 'u', 'i', 'l', 'd', 's'], ['d', 'i', 'o', 'r', 'a', 'm', 'a', '/', 'd', 'i', 'o', 'r', 'a', 'm', 'a', 'l', 'a', 'w', '1', '6', '.', 'T', 'r', 'e', 'e', 'O', 'n', 'c', 'e'], ['d', 'i', 'o', 'r', 'a', 'm', 'a', '/', 'd', 'i', 'o', 'r', 'a', 'm', 'a', 'l', 'a', 'w', '1', '6', '.', 'T', 'r', 'e', 'e', 'N', 'a', 'm', 'e', 's'], ['d', 'i', 'o', 'r', 'a', 'm', 'a', '/', 'd', 'i', 'o', 'r', 'a', 'm', 'a', 'l', 'a', 'w', '1', '6', '.', 'T', 'r', 'e', 'e', 'H', 'o', 'l', 'd', 's']] = [['c', 'u', 't'], ['a', 't'], ['d', 'i', 'o', 'r', 'a', 'm', 'a', '/', 'd', 'i', 'o', 'r', 'a', 'm', 'a', 't', 'o', 'p', '.', 'T', 'o', 'p', 'M', 'o', 'v', 'e', 's'], ['d', 'i', 'o', 'r', 'a', 'm', 'a', '/', 'd', 'i', 'o', 'r', 'a', 'm', 'a', 'l', 'a', 'w', '1', '6', '.', 'T', 'r', 'e', 'e', 'R', 'e', 'f', 'i', 't', 's'], ['d', 'i', 'o', 'r', 'a', 'm', 'a', '/', 'd', 'i', 'o', 'r', 'a', 'm', 'a', 'l', 'a', 'w', '1', '6', '.', 'T', 'r', 'e', 'e', 'B', 'u', 'i', 'l', 'd', 's'], ['d', 'i', 'o', 'r', 'a', 'm', 'a', '/', 'd', 'i', 'o', 'r', 'a', 'm', 'a', 'l', 'a', 'w', '1', '6', '.', 'T', 'r', 'e', 'e', 'O', 'n', 'c', 'e'], ['d', 'i', 'o', 'r', 'a', 'm', 'a', '/', 'd', 'i', 'o', 'r', 'a', 'm', 'a', 'l', 'a', 'w', '1', '6', '.', 'T', 'r', 'e', 'e', 'N', 'a', 'm', 'e', 's'], ['d', 'i', 'o', 'r', 'a', 'm', 'a', '/', 'd', 'i', 'o', 'r', 'a', 'm', 'a', 'l', 'a', 'w', '1', '6', '.', 'T', 'r', 'e', 'e', 'H', 'o', 'l', 'd', 's']] := by kernel_rfl
theorem behindIs : behindMainWord (wordsSigns Try.prog.initOrder.toList) = [['c', 'u', 't'], ['a', 't'], ['d', 'i', 'o', 'r', 'a', 'm', 'a', '/', 'd', 'i', 'o', 'r', 'a', 'm', 'a', 't', 'o', 'p', '.', 'T', 'o', 'p', 'M', 'o', 'v', 'e', 's'], ['d', 'i', 'o', 'r', 'a', 'm', 'a', '/', 'd', 'i', 'o', 'r', 'a', 'm', 'a', 'l', 'a', 'w', '1', '6', '.', 'T', 'r', 'e', 'e', 'R', 'e', 'f', 'i', 't', 's'], ['d', 'i', 'o', 'r', 'a', 'm', 'a', '/', 'd', 'i', 'o', 'r', 'a', 'm', 'a', 'l', 'a', 'w', '1', '6', '.', 'T', 'r', 'e', 'e', 'B', 'u', 'i', 'l', 'd', 's'], ['d', 'i', 'o', 'r', 'a', 'm', 'a', '/', 'd', 'i', 'o', 'r', 'a', 'm', 'a', 'l', 'a', 'w', '1', '6', '.', 'T', 'r', 'e', 'e', 'O', 'n', 'c', 'e'], ['d', 'i', 'o', 'r', 'a', 'm', 'a', '/', 'd', 'i', 'o', 'r', 'a', 'm', 'a', 'l', 'a', 'w', '1', '6', '.', 'T', 'r', 'e', 'e', 'N', 'a', 'm', 'e', 's'], ['d', 'i', 'o', 'r', 'a', 'm', 'a', '/', 'd', 'i', 'o', 'r', 'a', 'm', 'a', 'l', 'a', 'w', '1', '6', '.', 'T', 'r', 'e', 'e', 'H', 'o', 'l', 'd', 's']] := by rw [words, behind]
theorem strip : stripLifts liftWords [['c', 'u', 't'], ['a', 't'], ['d', 'i', 'o', 'r', 'a', 'm', 'a', '/', 'd', 'i', 'o', 'r', 'a', 'm', 'a', 't', 'o', 'p', '.', 'T', 'o', 'p', 'M', 'o', 'v', 'e', 's'], ['d', 'i', 'o', 'r', 'a', 'm', 'a', '/', 'd', 'i', 'o', 'r', 'a', 'm', 'a', 'l', 'a', 'w', '1', '6', '.', 'T', 'r', 'e', 'e', 'R', 'e', 'f', 'i', 't', 's'], ['d', 'i', 'o', 'r', 'a', 'm', 'a', '/', 'd', 'i', 'o', 'r', 'a', 'm', 'a', 'l', 'a', 'w', '1', '6', '.', 'T', 'r', 'e', 'e', 'B', 'u', 'i', 'l', 'd', 's'], ['d', 'i', 'o', 'r', 'a', 'm', 'a', '/', 'd', 'i', 'o', 'r', 'a', 'm', 'a', 'l', 'a', 'w', '1', '6', '.', 'T', 'r', 'e', 'e', 'O', 'n', 'c', 'e'], ['d', 'i', 'o', 'r', 'a', 'm', 'a', '/', 'd', 'i', 'o', 'r', 'a', 'm', 'a', 'l', 'a', 'w', '1', '6', '.', 'T', 'r', 'e', 'e', 'N', 'a', 'm', 'e', 's'], ['d', 'i', 'o', 'r', 'a', 'm', 'a', '/', 'd', 'i', 'o', 'r', 'a', 'm', 'a', 'l', 'a', 'w', '1', '6', '.', 'T', 'r', 'e', 'e', 'H', 'o', 'l', 'd', 's']] = ([], [['c', 'u', 't'], ['a', 't'], ['d', 'i', 'o', 'r', 'a', 'm', 'a', '/', 'd', 'i', 'o', 'r', 'a', 'm', 'a', 't', 'o', 'p', '.', 'T', 'o', 'p', 'M', 'o', 'v', 'e', 's'], ['d', 'i', 'o', 'r', 'a', 'm', 'a', '/', 'd', 'i', 'o', 'r', 'a', 'm', 'a', 'l', 'a', 'w', '1', '6', '.', 'T', 'r', 'e', 'e', 'R', 'e', 'f', 'i', 't', 's'], ['d', 'i', 'o', 'r', 'a', 'm', 'a', '/', 'd', 'i', 'o', 'r', 'a', 'm', 'a', 'l', 'a', 'w', '1', '6', '.', 'T', 'r', 'e', 'e', 'B', 'u', 'i', 'l', 'd', 's'], ['d', 'i', 'o', 'r', 'a', 'm', 'a', '/', 'd', 'i', 'o', 'r', 'a', 'm', 'a', 'l', 'a', 'w', '1', '6', '.', 'T', 'r', 'e', 'e', 'O', 'n', 'c', 'e'], ['d', 'i', 'o', 'r', 'a', 'm', 'a', '/', 'd', 'i', 'o', 'r', 'a', 'm', 'a', 'l', 'a', 'w', '1', '6', '.', 'T', 'r', 'e', 'e', 'N', 'a', 'm', 'e', 's'], ['d', 'i', 'o', 'r', 'a', 'm', 'a', '/', 'd', 'i', 'o', 'r', 'a', 'm', 'a', 'l', 'a', 'w', '1', '6', '.', 'T', 'r', 'e', 'e', 'H', 'o', 'l', 'd', 's']]) := by kernel_rfl

theorem make_of {P : Program} {c : List Char} {rest : List (List Char)} (h : behindMainWord (wordsSigns P.initOrder.toList) = c :: rest)
    (h1 : (c == "gc".toList || c == "spec".toList) = false) (h2 : (c == "cut".toList) = true) : P.make = some .cut := by
  unfold Program.make
  rw [h]
  simp only [h1, h2, Bool.true_or, if_true, Bool.false_eq_true, if_false]
theorem headLifts_of {P : Program} {ws rs : List (List Char)} (h : behindMainWord (wordsSigns P.initOrder.toList) = ws) (hs : stripLifts liftWords ws = ([], rs)) : P.headLifts = [] := by
  unfold Program.headLifts
  rw [h]
  simp only [hs]
  split <;> rfl
theorem liftsFinal_of {P : Program} {ws : List (List Char)} (h : behindMainWord (wordsSigns P.initOrder.toList) = ws) (hl : P.headLifts = [])
    (h1 : (ws.head? == some "carried".toList) = false) : P.liftsFinal = false := by
  unfold Program.liftsFinal
  simp only [h, hl, h1, Bool.false_and, Bool.false_or]
  rfl
theorem mayEnter_of {P : Program} {c : List Char} {rest : List (List Char)} (h : behindMainWord (wordsSigns P.initOrder.toList) = c :: rest) (hs : stripLifts liftWords (c :: rest) = ([], c :: rest))
    (h1 : (some c == some "cut".toList) = true) (h2 : P.laysLater = false) (h3 : P.bearsReflect = false) (h4 : P.doorFits [] = true) : P.mayEnter = true := by
  unfold Program.mayEnter
  rw [h]
  simp only [hs, List.head?_cons, h1, h2, h3, h4, Bool.not_false, Bool.or_true, Bool.and_true, Bool.true_and, List.contains_nil]
theorem mayEnter : Try.prog.mayEnter = true := mayEnter_of behindIs strip (by kernel_rfl) (by kernel_rfl) (by kernel_rfl) (by kernel_rfl)
theorem headLifts : Try.prog.headLifts = [] := headLifts_of behindIs strip
theorem liftsFinal : Try.prog.liftsFinal = false := liftsFinal_of behindIs headLifts (by kernel_rfl)
theorem make : Try.prog.make = some .cut := make_of behindIs (by kernel_rfl) (by kernel_rfl)

theorem joined {f : FuncId} {fn : Func} {s : ChangeSpec} {c : OpenClaim}
    (h1 : (c.wf (OpenSpec.ofChange s) && fn.params.all (Try.prog.readableRec ·) && namedTie Try.prog c.named s.vars && (c.stops == []) && (c.knobs == []) &&
      (c.maps == (fn.params.toList ++ s.plain.varTypes Try.prog).any (Try.prog.mapsRec ·)) && (c.ifaces == (fn.params.toList ++ s.plain.varTypes Try.prog).any (Try.prog.ifacesRec ·)) && (c.mapsOut == Try.prog.mapsAmong fn.resultTypes.toList)) = true)
    (h2 : ((c.loops == (fn.params.toList ++ s.plain.varTypes Try.prog).any (Try.prog.loopsFrom ·)) && (c.wideKeys == (fn.params.toList ++ s.plain.varTypes Try.prog ++ fn.resultTypes.toList).any (Try.prog.wideKeysFrom ·)) &&
      s.vars.all (Try.prog.varReadable ·) && fn.resultTypes.all (fun t => Try.prog.readableRec t && decide (t < Try.prog.types.size)) && (c.ifacesOut == fn.resultTypes.toList.any (Try.prog.ifacesRec ·)) && (c.loopsOut == fn.resultTypes.toList.any (Try.prog.loopsFrom ·))) = true)
    (h3 : ((c.kinds == (if c.domain.isEmpty then [] else fn.params.toList.map fun t => match Try.prog.underlying t with | some (.int k) => some k | _ => none)) && (c.pinned == c.pinnedBy) &&
      (c.veiled == (fn.params.toList ++ s.plain.varTypes Try.prog ++ fn.resultTypes.toList).any (Try.prog.veiledRec ·)) && c.veiledFits Try.prog fn.params.toList (fn.params.toList ++ s.plain.varTypes Try.prog ++ fn.resultTypes.toList)) = true)
    (i1 : (c.inPlace == Try.prog.inPlace f) = true) (i2 : (c.unfollowed == Try.prog.unfollowed f) = true) (i3 : (c.recurses == Try.prog.recurses f) = true) (i4 : (c.named == Try.prog.varsNamed f) = true)
    (j1 : c.plainKeys = true) (j2 : c.lifted = false) (j3 : c.make = .cut) (j4 : c.shortTexts.isNone = true) :
    joinedFacts Try.prog f fn s c = true := by
  unfold joinedFacts
  simp only [Bool.and_eq_true] at h1 h2 h3
  obtain ⟨⟨⟨⟨⟨⟨⟨a1, a2⟩, a3⟩, a4⟩, a5⟩, a6⟩, a7⟩, a8⟩ := h1
  obtain ⟨⟨⟨⟨⟨b1, b2⟩, b3⟩, b4⟩, b5⟩, b6⟩ := h2
  obtain ⟨⟨⟨c1, c2⟩, c3⟩, c4⟩ := h3
  simp only [Bool.and_eq_true]
  refine ⟨⟨⟨⟨⟨⟨⟨⟨⟨⟨⟨⟨⟨⟨⟨⟨⟨⟨⟨⟨⟨⟨⟨⟨⟨⟨⟨⟨⟨⟨⟨a1, laidOut⟩, mapsRowed'⟩, a2⟩, a3⟩, a4⟩, by rw [stops]; rfl⟩, a5⟩, by rw [stopKnobs]; rfl⟩, i1⟩, i2⟩, i3⟩, i4⟩, a6⟩, a7⟩, a8⟩, b1⟩, b2⟩, b3⟩, b4⟩, b5⟩, b6⟩, by rw [j1, plainKeys]; rfl⟩, j4⟩, heard⟩, mayEnter⟩, by rw [j2, liftsFinal]; rfl⟩, by rw [make, j3]; rfl⟩, ?_⟩, c2⟩, c3⟩, c4⟩
  exact c1
#print axioms joined
end Go.Proofs.Ytgcoidbaoigkeaa.facts
