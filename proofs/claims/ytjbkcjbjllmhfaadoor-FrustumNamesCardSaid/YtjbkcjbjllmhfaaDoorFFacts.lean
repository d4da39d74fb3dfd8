/-
  The program's own facts that every row asks for, each shown by itself.
-/
import Derived.Test.YtjbkcjbjllmhfaaDoorRows
import Derived.Test.YtjbkcjbjllmhfaaDoorSzS
import Derived.KernelRfl
set_option maxRecDepth 100000
set_option linter.unusedVariables false
set_option linter.unusedSimpArgs false
namespace Go.Proofs.YtjbkcjbjllmhfaaDoor.facts
open Go.RowKit Go.ChangeShapes Go.WideShapes Go.ChangeAt Go.Sx

theorem own : ownKnob Tryd.prog.godebug = none := by kernel_rfl
theorem laidOut : laidOutB Tryd.prog = true := by kernel_rfl
theorem mixed : Tryd.prog.follows .mixedOrders = true := by kernel_rfl
theorem mapsRowed' : mapsRowed Tryd.prog = true := by kernel_rfl
theorem stops : Tryd.prog.stops = [] := by kernel_rfl
theorem stopKnobs : Tryd.prog.stopKnobs = [] := by kernel_rfl
theorem plainKeys : Tryd.prog.plainKeys = true := by kernel_rfl
theorem heard : Tryd.prog.stopsHeard = true := by kernel_rfl

theorem initIs : Tryd.prog.initOrder = "harness ba5fbdf844d12a9b064d108c88059d5ef4c8b7d3707af7476f83711cd4242958 cut at diorama/dioramalaw17.FrustumNames diorama/dioramalaw17.FrustumShades diorama/dioramalaw17.FrustumGrows diorama/dioramalaw17.FrustumWindows diorama/dioramalaw17.FrustumHolds diorama/dioramalaw17.FrustumView" := by kernel_rfl
theorem litIs : "harness ba5fbdf844d12a9b064d108c88059d5ef4c8b7d3707af7476f83711cd4242958 cut at diorama/dioramalaw17.FrustumNames diorama/dioramalaw17.FrustumShades diorama/dioramalaw17.FrustumGrows diorama/dioramalaw17.FrustumWindows diorama/dioramalaw17.FrustumHolds diorama/dioramalaw17.FrustumView" = String.ofList ['h', 'a', 'r', 'n', 'e', 's', 's', ' ', 'b', 'a', '5', 'f', 'b', 'd', 'f', '8', '4', '4', 'd', '1', '2', 'a', '9', 'b', '0', '6', '4', 'd', '1', '0', '8', 'c', '8', '8', '0', '5', '9', 'd', '5', 'e', 'f', '4', 'c', '8', 'b', '7', 'd', '3', '7', '0', '7', 'a', 'f', '7', '4', '7', '6', 'f', '8', '3', '7', '1', '1', 'c', 'd', '4', '2', '4', '2', '9', '5', '8', ' ', 'c', 'u', 't', ' ', 'a', 't', ' ', 'd', 'i', 'o', 'r', 'a', 'm', 'a', '/', 'd', 'i', 'o', 'r', 'a', 'm', 'a', 'l', 'a', 'w', '1', '7', '.', 'F', 'r', 'u', 's', 't', 'u', 'm', 'N', 'a', 'm', 'e', 's', ' ', 'd', 'i', 'o', 'r', 'a', 'm', 'a', '/', 'd', 'i', 'o', 'r', 'a', 'm', 'a', 'l', 'a', 'w', '1', '7', '.', 'F', 'r', 'u', 's', 't', 'u', 'm', 'S', 'h', 'a', 'd', 'e', 's', ' ', 'd', 'i', 'o', 'r', 'a', 'm', 'a', '/', 'd', 'i', 'o', 'r', 'a', 'm', 'a', 'l', 'a', 'w', '1', '7', '.', 'F', 'r', 'u', 's', 't', 'u', 'm', 'G', 'r', 'o', 'w', 's', ' ', 'd', 'i', 'o', 'r', 'a', 'm', 'a', '/', 'd', 'i', 'o', 'r', 'a', 'm', 'a', 'l', 'a', 'w', '1', '7', '.', 'F', 'r', 'u', 's', 't', 'u', 'm', 'W', 'i', 'n', 'd', 'o', 'w', 's', ' ', 'd', 'i', 'o', 'r', 'a', 'm', 'a', '/', 'd', 'i', 'o', 'r', 'a', 'm', 'a', 'l', 'a', 'w', '1', '7', '.', 'F', 'r', 'u', 's', 't', 'u', 'm', 'H', 'o', 'l', 'd', 's', ' ', 'd', 'i', 'o', 'r', 'a', 'm', 'a', '/', 'd', 'i', 'o', 'r', 'a', 'm', 'a', 'l', 'a', 'w', '1', '7', '.', 'F', 'r', 'u', 's', 't', 'u', 'm', 'V', 'i', 'e', 'w'] := by kernel_rfl
theorem words : wordsSigns Tryd.prog.initOrder.toList = [['h', 'a', 'r', 'n', 'e', 's', 's'], ['b', 'a', '5', 'f', 'b', 'd', 'f', '8', '4', '4', 'd', '1', '2', 'a', '9', 'b', '0', '6', '4', 'd', '1', '0', '8', 'c', '8', '8', '0', '5', '9', 'd', '5', 'e', 'f', '4', 'c', '8', 'b', '7', 'd', '3', '7', '0', '7', 'a', 'f', '7', '4', '7', '6', 'f', '8', '3', '7', '1', '1', 'c', 'd', '4', '2', '4', '2', '9', '5', '8'], ['c', 'u', 't'], ['a', 't'], ['d', 'i', 'o', 'r', 'a', 'm', 'a', '/', 'd', 'i', 'o', 'r', 'a', 'm', 'a', 'l', 'a', 'w', '1', '7', '.', 'F', 'r', 'u', 's', 't', 'u', 'm', 'N', 'a', 'm', 'e', 's'], ['d', 'i', 'o', 'r', 'a', 'm', 'a', '/', 'd', 'i', 'o', 'r', 'a', 'm', 'a', 'l', 'a', 'w', '1', '7', '.', 'F', 'r', 'u', 's', 't', 'u', 'm', 'S', 'h', 'a', 'd', 'e', 's'], ['d', 'i', 'o', 'r', 'a', 'm', 'a', '/', 'd', 'i', 'o', 'r', 'a', 'm', 'a', 'l', 'a', 'w', '1', '7', '.', 'F', 'r', 'u', 's', 't', 'u', 'm', 'G', 'r', 'o', 'w', 's'], ['d', 'i', 'o', 'r', 'a', 'm', 'a', '/', 'd', 'i', 'o', 'r', 'a', 'm', 'a', 'l', 'a', 'w', '1', '7', '.', 'F', 'r', 'u', 's', 't', 'u', 'm', 'W', 'i', 'n', 'd', 'o', 'w', 's'], ['d', 'i', 'o', 'r', 'a', 'm', 'a', '/', 'd', 'i', 'o', 'r', 'a', 'm', 'a', 'l', 'a', 'w', '1', '7', '.', 'F', 'r', 'u', 's', 't', 'u', 'm', 'H', 'o', 'l', 'd', 's'], ['d', 'i', 'o', 'r', 'a', 'm', 'a', '/', 'd', 'i', 'o', 'r', 'a', 'm', 'a', 'l', 'a', 'w', '1', '7', '.', 'F', 'r', 'u', 's', 't', 'u', 'm', 'V', 'i', 'e', 'w']] := by
  rw [initIs, litIs, String.toList_ofList]
  kernel_rfl
theorem behind : behindMainWord [['h', 'a', 'r', 'n', 'e', 's', 's'], ['b', 'a', '5', 'f', 'b', 'd', 'f', '8', '4', '4', 'd', '1', '2', 'a', '9', 'b', '0', '6', '4', 'd', '1', '0', '8', 'c', '8', '8', '0', '5', '9', 'd', '5', 'e', 'f', '4', 'c', '8', 'b', '7', 'd', '3', '7', '0', '7', 'a', 'f', '7', '4', '7', '6', 'f', '8', '3', '7', '1', '1', 'c', 'd', '4', '2', '4', '2', '9', '5', '8'], ['c', 'u', 't'], ['a', 't'], ['d', 'i', 'o', 'r', 'a', 'm', 'a', '/', 'd', 'i', 'o', 'r', 'a', 'm', 'a', 'l', 'a', 'w', '1', '7', '.', 'F', 'r', 'u', 's', 't', 'u', 'm', 'N', 'a', 'm', 'e', 's'], ['d', 'i', 'o', 'r', 'a', 'm', 'a', '/', 'd', 'i', 'o', 'r', 'a', 'm', 'a', 'l', 'a', 'w', '1', '7', '.', 'F', 'r', 'u', 's', 't', 'u', 'm', 'S', 'h', 'a', 'd', 'e', 's'], ['d', 'i', 'o', 'r', 'a', 'm', 'a', '/', 'd', 'i', 'o', 'r', 'a', 'm', 'a', 'l', 'a', 'w', '1', '7', '.', 'F', 'r', 'u', 's', 't', 'u', 'm', 'G', 'r', 'o', 'w', 's'], ['d', 'i', 'o', 'r', 'a', 'm', 'a', '/', 'd', 'i', 'o', 'r', 'a', 'm', 'a', 'l', 'a', 'w', '1', '7', '.', 'F', 'r', 'u', 's', 't', 'u', 'm', 'W', 'i', 'n', 'd', 'o', 'w', 's'], ['d', 'i', 'o', 'r', 'a', 'm', 'a', '/', 'd', 'i', 'o', 'r', 'a', 'm', 'a', 'l', 'a', 'w', '1', '7', '.', 'F', 'r', 'u', 's', 't', 'u', 'm', 'H', 'o', 'l', 'd', 's'], ['d', 'i', 'o', 'r', 'a', 'm', 'a', '/', 'd', 'i', 'o', 'r', 'a', 'm', 'a', 'l', 'a', 'w', '1', '7', '.', 'F', 'r', 'u', 's', 't', 'u', 'm', 'V', 'i', 'e', 'w']] = [['c', 'u', 't'], ['a', 't'], ['d', 'i', 'o', 'r', 'a', 'm', 'a', '/', 'd', 'i', 'o', 'r', 'a', 'm', 'a', 'l', 'a', 'w', '1', '7', '.', 'F', 'r', 'u', 's', 't', 'u', 'm', 'N', 'a', 'm', 'e', 's'], ['d', 'i', 'o', 'r', 'a', 'm', 'a', '/', 'd', 'i', 'o', 'r', 'a', 'm', 'a', 'l', 'a', 'w', '1', '7', '.', 'F', 'r', 'u', 's', 't', 'u', 'm', 'S', 'h', 'a', 'd', 'e', 's'], ['d', 'i', 'o', 'r', 'a', 'm', 'a', '/', 'd', 'i', 'o', 'r', 'a', 'm', 'a', 'l', 'a', 'w', '1', '7', '.', 'F', 'r', 'u', 's', 't', 'u', 'm', 'G', 'r', 'o', 'w', 's'], ['d', 'i', 'o', 'r', 'a', 'm', 'a', '/', 'd', 'i', 'o', 'r', 'a', 'm', 'a', 'l', 'a', 'w', '1', '7', '.', 'F', 'r', 'u', 's', 't', 'u', 'm', 'W', 'i', 'n', 'd', 'o', 'w', 's'], ['d', 'i', 'o', 'r', 'a', 'm', 'a', '/', 'd', 'i', 'o', 'r', 'a', 'm', 'a', 'l', 'a', 'w', '1', '7', '.', 'F', 'r', 'u', 's', 't', 'u', 'm', 'H', 'o', 'l', 'd', 's'], ['d', 'i', 'o', 'r', 'a', 'm', 'a', '/', 'd', 'i', 'o', 'r', 'a', 'm', 'a', 'l', 'a', 'w', '1', '7', '.', 'F', 'r', 'u', 's', 't', 'u', 'm', 'V', 'i', 'e', 'w']] := by kernel_rfl
theorem behindIs : behindMainWord (wordsSigns Tryd.prog.initOrder.toList) = [['c', 'u', 't'], ['a', 't'], ['d', 'i', 'o', 'r', 'a', 'm', 'a', '/', 'd', 'i', 'o', 'r', 'a', 'm', 'a', 'l', 'a', 'w', '1', '7', '.', 'F', 'r', 'u', 's', 't', 'u', 'm', 'N', 'a', 'm', 'e', 's'], ['d', 'i', 'o', 'r', 'a', 'm', 'a', '/', 'd', 'i', 'o', 'r', 'a', 'm', 'a', 'l', 'a', 'w', '1', '7', '.', 'F', 'r', 'u', 's', 't', 'u', 'm', 'S', 'h', 'a', 'd', 'e', 's'], ['d', 'i', 'o', 'r', 'a', 'm', 'a', '/', 'd', 'i', 'o', 'r', 'a', 'm', 'a', 'l', 'a', 'w', '1', '7', '.', 'F', 'r', 'u', 's', 't', 'u', 'm', 'G', 'r', 'o', 'w', 's'], ['d', 'i', 'o', 'r', 'a', 'm', 'a', '/', 'd', 'i', 'o', 'r', 'a', 'm', 'a', 'l', 'a', 'w', '1', '7', '.', 'F', 'r', 'u', 's', 't', 'u', 'm', 'W', 'i', 'n', 'd', 'o', 'w', 's'], ['d', 'i', 'o', 'r', 'a', 'm', 'a', '/', 'd', 'i', 'o', 'r', 'a', 'm', 'a', 'l', 'a', 'w', '1', '7', '.', 'F', 'r', 'u', 's', 't', 'u', 'm', 'H', 'o', 'l', 'd', 's'], ['d', 'i', 'o', 'r', 'a', 'm', 'a', '/', 'd', 'i', 'o', 'r', 'a', 'm', 'a', 'l', 'a', 'w', '1', '7', '.', 'F', 'r', 'u', 's', 't', 'u', 'm', 'V', 'i', 'e', 'w']] := by rw [words, behind]
theorem strip : stripLifts liftWords [['c', 'u', 't'], ['a', 't'], ['d', 'i', 'o', 'r', 'a', 'm', 'a', '/', 'd', 'i', 'o', 'r', 'a', 'm', 'a', 'l', 'a', 'w', '1', '7', '.', 'F', 'r', 'u', 's', 't', 'u', 'm', 'N', 'a', 'm', 'e', 's'], ['d', 'i', 'o', 'r', 'a', 'm', 'a', '/', 'd', 'i', 'o', 'r', 'a', 'm', 'a', 'l', 'a', 'w', '1', '7', '.', 'F', 'r', 'u', 's', 't', 'u', 'm', 'S', 'h', 'a', 'd', 'e', 's'], ['d', 'i', 'o', 'r', 'a', 'm', 'a', '/', 'd', 'i', 'o', 'r', 'a', 'm', 'a', 'l', 'a', 'w', '1', '7', '.', 'F', 'r', 'u', 's', 't', 'u', 'm', 'G', 'r', 'o', 'w', 's'], ['d', 'i', 'o', 'r', 'a', 'm', 'a', '/', 'd', 'i', 'o', 'r', 'a', 'm', 'a', 'l', 'a', 'w', '1', '7', '.', 'F', 'r', 'u', 's', 't', 'u', 'm', 'W', 'i', 'n', 'd', 'o', 'w', 's'], ['d', 'i', 'o', 'r', 'a', 'm', 'a', '/', 'd', 'i', 'o', 'r', 'a', 'm', 'a', 'l', 'a', 'w', '1', '7', '.', 'F', 'r', 'u', 's', 't', 'u', 'm', 'H', 'o', 'l', 'd', 's'], ['d', 'i', 'o', 'r', 'a', 'm', 'a', '/', 'd', 'i', 'o', 'r', 'a', 'm', 'a', 'l', 'a', 'w', '1', '7', '.', 'F', 'r', 'u', 's', 't', 'u', 'm', 'V', 'i', 'e', 'w']] = ([], [['c', 'u', 't'], ['a', 't'], ['d', 'i', 'o', 'r', 'a', 'm', 'a', '/', 'd', 'i', 'o', 'r', 'a', 'm', 'a', 'l', 'a', 'w', '1', '7', '.', 'F', 'r', 'u', 's', 't', 'u', 'm', 'N', 'a', 'm', 'e', 's'], ['d', 'i', 'o', 'r', 'a', 'm', 'a', '/', 'd', 'i', 'o', 'r', 'a', 'm', 'a', 'l', 'a', 'w', '1', '7', '.', 'F', 'r', 'u', 's', 't', 'u', 'm', 'S', 'h', 'a', 'd', 'e', 's'], ['d', 'i', 'o', 'r', 'a', 'm', 'a', '/', 'd', 'i', 'o', 'r', 'a', 'm', 'a', 'l', 'a', 'w', '1', '7', '.', 'F', 'r', 'u', 's', 't', 'u', 'm', 'G', 'r', 'o', 'w', 's'], ['d', 'i', 'o', 'r', 'a', 'm', 'a', '/', 'd', 'i', 'o', 'r', 'a', 'm', 'a', 'l', 'a', 'w', '1', '7', '.', 'F', 'r', 'u', 's', 't', 'u', 'm', 'W', 'i', 'n', 'd', 'o', 'w', 's'], ['d', 'i', 'o', 'r', 'a', 'm', 'a', '/', 'd', 'i', 'o', 'r', 'a', 'm', 'a', 'l', 'a', 'w', '1', '7', '.', 'F', 'r', 'u', 's', 't', 'u', 'm', 'H', 'o', 'l', 'd', 's'], ['d', 'i', 'o', 'r', 'a', 'm', 'a', '/', 'd', 'i', 'o', 'r', 'a', 'm', 'a', 'l', 'a', 'w', '1', '7', '.', 'F', 'r', 'u', 's', 't', 'u', 'm', 'V', 'i', 'e', 'w']]) := by kernel_rfl

theorem make_of {P : Program} {c : List Char} {rest : List (List Char)} (h : behindMainWord (wordsSigns P.initOrder.toList) = c :: rest)
    (h1 : (c == "gc".toList || c == "spec".toList) = false) (h2 : (c == "cut".toList) = true) : P.make = some .cut := by
  unfold Program.make
  rw [h]
  simp only [h1, h2, Bool.true_or, if_true, Bool.false_eq_true, if_false]
theorem headLifts_of {P : Program} {ws rs : List (List Char)} (h : behindMainWord (wordsSigns P.initOrder.toList) = ws) (hs : stripLifts liftWords ws = ([], rs)) : P.headLifts = [] := by
  unfold Program.headLifts
  rw [h]
  simp only [hs]
  split <;> rfl
theorem liftsFinal_of {P : Program} {ws : List (List Char)} (h : behindMainWord (wordsSigns P.initOrder.toList) = ws) (hl : P.headLifts = [])
    (h1 : (ws.head? == some "carried".toList) = false) : P.liftsFinal = false := by
  unfold Program.liftsFinal
  simp only [h, hl, h1, Bool.false_and, Bool.false_or]
  rfl
theorem mayEnter_of {P : Program} {c : List Char} {rest : List (List Char)} (h : behindMainWord (wordsSigns P.initOrder.toList) = c :: rest) (hs : stripLifts liftWords (c :: rest) = ([], c :: rest))
    (h1 : (some c == some "cut".toList) = true) (h2 : P.laysLater = false) (h3 : P.bearsReflect = false) (h4 : P.doorFits [] = true) : P.mayEnter = true := by
  unfold Program.mayEnter
  rw [h]
  simp only [hs, List.head?_cons, h1, h2, h3, h4, Bool.not_false, Bool.or_true, Bool.and_true, Bool.true_and, List.contains_nil]
theorem mayEnter : Tryd.prog.mayEnter = true := mayEnter_of behindIs strip (by kernel_rfl) (by kernel_rfl) (by kernel_rfl) (by kernel_rfl)
theorem headLifts : Tryd.prog.headLifts = [] := headLifts_of behindIs strip
theorem liftsFinal : Tryd.prog.liftsFinal = false := liftsFinal_of behindIs headLifts (by kernel_rfl)
theorem make : Tryd.prog.make = some .cut := make_of behindIs (by kernel_rfl) (by kernel_rfl)

/-- What a row asks of the program, but for what goes with its own function. -/
theorem joined {f : FuncId} {fn : Func} {s : ChangeSpec} {c : OpenClaim}
    (h1 : (c.wf (OpenSpec.ofChange s) && fn.params.all (Tryd.prog.readableRec ·) && namedTie Tryd.prog c.named s.vars && (c.stops == []) && (c.knobs == []) &&
      (c.maps == (fn.params.toList ++ s.plain.varTypes Tryd.prog).any (Tryd.prog.mapsRec ·)) && (c.ifaces == (fn.params.toList ++ s.plain.varTypes Tryd.prog).any (Tryd.prog.ifacesRec ·)) && (c.mapsOut == Tryd.prog.mapsAmong fn.resultTypes.toList)) = true)
    (h2 : ((c.loops == (fn.params.toList ++ s.plain.varTypes Tryd.prog).any (Tryd.prog.loopsFrom ·)) && (c.wideKeys == (fn.params.toList ++ s.plain.varTypes Tryd.prog ++ fn.resultTypes.toList).any (Tryd.prog.wideKeysFrom ·)) &&
      s.vars.all (Tryd.prog.varReadable ·) && fn.resultTypes.all (fun t => Tryd.prog.readableRec t && decide (t < Tryd.prog.types.size)) && (c.ifacesOut == fn.resultTypes.toList.any (Tryd.prog.ifacesRec ·)) && (c.loopsOut == fn.resultTypes.toList.any (Tryd.prog.loopsFrom ·))) = true)
    (h3 : ((c.kinds == (if c.domain.isEmpty then [] else fn.params.toList.map fun t => match Tryd.prog.underlying t with | some (.int k) => some k | _ => none)) && (c.pinned == c.pinnedBy) &&
      (c.veiled == (fn.params.toList ++ s.plain.varTypes Tryd.prog ++ fn.resultTypes.toList).any (Tryd.prog.veiledRec ·)) && c.veiledFits Tryd.prog fn.params.toList (fn.params.toList ++ s.plain.varTypes Tryd.prog ++ fn.resultTypes.toList)) = true)
    (i1 : (c.inPlace == Tryd.prog.inPlace f) = true) (i2 : (c.unfollowed == Tryd.prog.unfollowed f) = true) (i3 : (c.recurses == Tryd.prog.recurses f) = true) (i4 : (c.named == Tryd.prog.varsNamed f) = true)
    (j1 : c.plainKeys = true) (j2 : c.lifted = false) (j3 : c.make = .cut) (j4 : c.shortTexts.isNone = true) :
    joinedFacts Tryd.prog f fn s c = true := by
  unfold joinedFacts
  simp only [Bool.and_eq_true] at h1 h2 h3
  obtain ⟨⟨⟨⟨⟨⟨⟨a1, a2⟩, a3⟩, a4⟩, a5⟩, a6⟩, a7⟩, a8⟩ := h1
  obtain ⟨⟨⟨⟨⟨b1, b2⟩, b3⟩, b4⟩, b5⟩, b6⟩ := h2
  obtain ⟨⟨⟨c1, c2⟩, c3⟩, c4⟩ := h3
  simp only [Bool.and_eq_true]
  refine ⟨⟨⟨⟨⟨⟨⟨⟨⟨⟨⟨⟨⟨⟨⟨⟨⟨⟨⟨⟨⟨⟨⟨⟨⟨⟨⟨⟨⟨⟨⟨a1, laidOut⟩, mapsRowed'⟩, a2⟩, a3⟩, a4⟩, by rw [stops]; rfl⟩, a5⟩, by rw [stopKnobs]; rfl⟩, i1⟩, i2⟩, i3⟩, i4⟩, a6⟩, a7⟩, a8⟩, b1⟩, b2⟩, b3⟩, b4⟩, b5⟩, b6⟩, by rw [j1, plainKeys]; rfl⟩, j4⟩, heard⟩, mayEnter⟩, by rw [j2, liftsFinal]; rfl⟩, by rw [make, j3]; rfl⟩, ?_⟩, c2⟩, c3⟩, c4⟩
  exact c1
#print axioms joined
end Go.Proofs.YtjbkcjbjllmhfaaDoor.facts
