/-
  No cell of these rows narrows 'for every input' (looked for: loops, veiled, ifaces, maps, wideKeys, modest, calm, conditions, laid).
  DERIVED. THE GIVEN ROWS OF THIS SEAT. 32 by the template 'for every input the law returns true; each argument reads behind the call as it read before'; 0 by the template 'total and deterministic' (their statements: YtlgcjkolakcfiaaTotals.lean).
  GIVEN WITH THE SEED: the statements are not yours to turn. If you find one false, say at which input.
  Laid BY PROGRAM, IN A SANDBOX (cutbox-rows.mjs): the forced cells as the released guide's own fill.sh prints them over the translation 2a08b25c31f425b7… (all of the seat's roots in one cut). By AI agents, Wed Nov 11 2026. No macro, syntax, notation, axiom, sorry.
-/
import Derived.Test.YtlgcjkolakcfiaaChecked
import GoSem.Claim
import GoSem.ClaimJoined
import GoSem.ClaimMapViews
import Derived.JoinedTies
import Derived.KernelRfl
namespace Go.Proofs.Ytlgcjkolakcfiaa
/- THE CELL 'sum', in the pinned program and in every row, IS THE sha256 OF THE DUMP (.gsa) THAT YtlgcjkolakcfiaaProg.lean LOADS. Nothing in Lean hashes anything: it is a label: what it is worth is what the hold of that sum in a sandbox is worth. -/
noncomputable def Try.pinned : Pinned := { name := "ytlgcjkolakcfiaa", sum := "2a08b25c31f425b729a53b3aec543dbc6f9a20bc753e13b2709259966ad84a87", checked := Try.checked }
namespace Rows
def none {H : Type} : Left H := { results := [], args := [] }

/-- 'dioramalaw01.FixedFloor': WHATEVER THE INPUT: true; the input reads as it did. -/
def fixedFloorSpec : ChangeSpec := { name := "fixedFloor", fn := fun _ => fun
  | [d1, d2] => { results := [.lit (.bool true)], args := [d1, d2] }
  | _ => none }
def fixedFloorRow : OpenClaim := { program := "ytlgcjkolakcfiaa", sum := "2a08b25c31f425b729a53b3aec543dbc6f9a20bc753e13b2709259966ad84a87", func := "diorama/dioramalaw01.FixedFloor", spec := "fixedFloor", apart := false }
def FixedFloorSaid : Prop := fixedFloorRow.holds Try.pinned (OpenSpec.ofChange fixedFloorSpec)

/-- ITS FALSE NEIGHBOUR: 'it returns false'. Refute it at one input. -/
def fixedFloorWrong : ChangeSpec := { name := "fixedFloor", fn := fun _ => fun
  | [d1, d2] => { results := [.lit (.bool false)], args := [d1, d2] }
  | _ => none }
def FixedFloorWrongFalsely : Prop := fixedFloorRow.holds Try.pinned (OpenSpec.ofChange fixedFloorWrong)

/-- 'dioramalaw20.SnapAreas': WHATEVER THE INPUT: true; the input reads as it did. -/
def snapAreasSpec : ChangeSpec := { name := "snapAreas", fn := fun _ => fun
  | [d1, d2] => { results := [.lit (.bool true)], args := [d1, d2] }
  | _ => none }
def snapAreasRow : OpenClaim := { program := "ytlgcjkolakcfiaa", sum := "2a08b25c31f425b729a53b3aec543dbc6f9a20bc753e13b2709259966ad84a87", func := "diorama/dioramalaw20.SnapAreas", spec := "snapAreas", apart := false }
def SnapAreasSaid : Prop := snapAreasRow.holds Try.pinned (OpenSpec.ofChange snapAreasSpec)

/-- ITS FALSE NEIGHBOUR: 'it returns false'. Refute it at one input. -/
def snapAreasWrong : ChangeSpec := { name := "snapAreas", fn := fun _ => fun
  | [d1, d2] => { results := [.lit (.bool false)], args := [d1, d2] }
  | _ => none }
def SnapAreasWrongFalsely : Prop := snapAreasRow.holds Try.pinned (OpenSpec.ofChange snapAreasWrong)

/-- 'dioramalaw21.EdgesSum': WHATEVER THE INPUT: true; the input reads as it did. -/
def edgesSumSpec : ChangeSpec := { name := "edgesSum", fn := fun _ => fun
  | [d1, d2, d3] => { results := [.lit (.bool true)], args := [d1, d2, d3] }
  | _ => none }
def edgesSumRow : OpenClaim := { program := "ytlgcjkolakcfiaa", sum := "2a08b25c31f425b729a53b3aec543dbc6f9a20bc753e13b2709259966ad84a87", func := "diorama/dioramalaw21.EdgesSum", spec := "edgesSum", apart := false }
def EdgesSumSaid : Prop := edgesSumRow.holds Try.pinned (OpenSpec.ofChange edgesSumSpec)

/-- ITS FALSE NEIGHBOUR: 'it returns false'. Refute it at one input. -/
def edgesSumWrong : ChangeSpec := { name := "edgesSum", fn := fun _ => fun
  | [d1, d2, d3] => { results := [.lit (.bool false)], args := [d1, d2, d3] }
  | _ => none }
def EdgesSumWrongFalsely : Prop := edgesSumRow.holds Try.pinned (OpenSpec.ofChange edgesSumWrong)

/-- 'dioramalaw21.EdgesOnce': WHATEVER THE INPUT: true; the input reads as it did. -/
def edgesOnceSpec : ChangeSpec := { name := "edgesOnce", fn := fun _ => fun
  | [d1, d2, d3, d4, d5, d6] => { results := [.lit (.bool true)], args := [d1, d2, d3, d4, d5, d6] }
  | _ => none }
def edgesOnceRow : OpenClaim := { program := "ytlgcjkolakcfiaa", sum := "2a08b25c31f425b729a53b3aec543dbc6f9a20bc753e13b2709259966ad84a87", func := "diorama/dioramalaw21.EdgesOnce", spec := "edgesOnce", apart := false }
def EdgesOnceSaid : Prop := edgesOnceRow.holds Try.pinned (OpenSpec.ofChange edgesOnceSpec)

/-- ITS FALSE NEIGHBOUR: 'it returns false'. Refute it at one input. -/
def edgesOnceWrong : ChangeSpec := { name := "edgesOnce", fn := fun _ => fun
  | [d1, d2, d3, d4, d5, d6] => { results := [.lit (.bool false)], args := [d1, d2, d3, d4, d5, d6] }
  | _ => none }
def EdgesOnceWrongFalsely : Prop := edgesOnceRow.holds Try.pinned (OpenSpec.ofChange edgesOnceWrong)

/-- 'dioramalaw20.SnapPlaces': WHATEVER THE INPUT: true; the input reads as it did. -/
def snapPlacesSpec : ChangeSpec := { name := "snapPlaces", fn := fun _ => fun
  | [d1, d2] => { results := [.lit (.bool true)], args := [d1, d2] }
  | _ => none }
def snapPlacesRow : OpenClaim := { program := "ytlgcjkolakcfiaa", sum := "2a08b25c31f425b729a53b3aec543dbc6f9a20bc753e13b2709259966ad84a87", func := "diorama/dioramalaw20.SnapPlaces", spec := "snapPlaces", apart := false }
def SnapPlacesSaid : Prop := snapPlacesRow.holds Try.pinned (OpenSpec.ofChange snapPlacesSpec)

/-- ITS FALSE NEIGHBOUR: 'it returns false'. Refute it at one input. -/
def snapPlacesWrong : ChangeSpec := { name := "snapPlaces", fn := fun _ => fun
  | [d1, d2] => { results := [.lit (.bool false)], args := [d1, d2] }
  | _ => none }
def SnapPlacesWrongFalsely : Prop := snapPlacesRow.holds Try.pinned (OpenSpec.ofChange snapPlacesWrong)

/-- 'dioramalaw20.SnapFar': WHATEVER THE INPUT: true; the input reads as it did. -/
def snapFarSpec : ChangeSpec := { name := "snapFar", fn := fun _ => fun
  | [d1, d2, d3] => { results := [.lit (.bool true)], args := [d1, d2, d3] }
  | _ => none }
def snapFarRow : OpenClaim := { program := "ytlgcjkolakcfiaa", sum := "2a08b25c31f425b729a53b3aec543dbc6f9a20bc753e13b2709259966ad84a87", func := "diorama/dioramalaw20.SnapFar", spec := "snapFar", apart := false }
def SnapFarSaid : Prop := snapFarRow.holds Try.pinned (OpenSpec.ofChange snapFarSpec)

/-- ITS FALSE NEIGHBOUR: 'it returns false'. Refute it at one input. -/
def snapFarWrong : ChangeSpec := { name := "snapFar", fn := fun _ => fun
  | [d1, d2, d3] => { results := [.lit (.bool false)], args := [d1, d2, d3] }
  | _ => none }
def SnapFarWrongFalsely : Prop := snapFarRow.holds Try.pinned (OpenSpec.ofChange snapFarWrong)

/-- 'dioramalaw01.FixedSpans': WHATEVER THE INPUT: true; the input reads as it did. -/
def fixedSpansSpec : ChangeSpec := { name := "fixedSpans", fn := fun _ => fun
  | [d1, d2, d3] => { results := [.lit (.bool true)], args := [d1, d2, d3] }
  | _ => none }
def fixedSpansRow : OpenClaim := { program := "ytlgcjkolakcfiaa", sum := "2a08b25c31f425b729a53b3aec543dbc6f9a20bc753e13b2709259966ad84a87", func := "diorama/dioramalaw01.FixedSpans", spec := "fixedSpans", apart := false }
def FixedSpansSaid : Prop := fixedSpansRow.holds Try.pinned (OpenSpec.ofChange fixedSpansSpec)

/-- ITS FALSE NEIGHBOUR: 'it returns false'. Refute it at one input. -/
def fixedSpansWrong : ChangeSpec := { name := "fixedSpans", fn := fun _ => fun
  | [d1, d2, d3] => { results := [.lit (.bool false)], args := [d1, d2, d3] }
  | _ => none }
def FixedSpansWrongFalsely : Prop := fixedSpansRow.holds Try.pinned (OpenSpec.ofChange fixedSpansWrong)

/-- 'dioramalaw02.VecMuls': WHATEVER THE INPUT: true; the input reads as it did. -/
def vecMulsSpec : ChangeSpec := { name := "vecMuls", fn := fun _ => fun
  | [d1, d2] => { results := [.lit (.bool true)], args := [d1, d2] }
  | _ => none }
def vecMulsRow : OpenClaim := { program := "ytlgcjkolakcfiaa", sum := "2a08b25c31f425b729a53b3aec543dbc6f9a20bc753e13b2709259966ad84a87", func := "diorama/dioramalaw02.VecMuls", spec := "vecMuls", apart := false }
def VecMulsSaid : Prop := vecMulsRow.holds Try.pinned (OpenSpec.ofChange vecMulsSpec)

/-- ITS FALSE NEIGHBOUR: 'it returns false'. Refute it at one input. -/
def vecMulsWrong : ChangeSpec := { name := "vecMuls", fn := fun _ => fun
  | [d1, d2] => { results := [.lit (.bool false)], args := [d1, d2] }
  | _ => none }
def VecMulsWrongFalsely : Prop := vecMulsRow.holds Try.pinned (OpenSpec.ofChange vecMulsWrong)

/-- 'dioramalaw15.CameraWide': WHATEVER THE INPUT: true; the input reads as it did. -/
def cameraWideSpec : ChangeSpec := { name := "cameraWide", fn := fun _ => fun
  | [d1, d2] => { results := [.lit (.bool true)], args := [d1, d2] }
  | _ => none }
def cameraWideRow : OpenClaim := { program := "ytlgcjkolakcfiaa", sum := "2a08b25c31f425b729a53b3aec543dbc6f9a20bc753e13b2709259966ad84a87", func := "diorama/dioramalaw15.CameraWide", spec := "cameraWide", apart := false }
def CameraWideSaid : Prop := cameraWideRow.holds Try.pinned (OpenSpec.ofChange cameraWideSpec)

/-- ITS FALSE NEIGHBOUR: 'it returns false'. Refute it at one input. -/
def cameraWideWrong : ChangeSpec := { name := "cameraWide", fn := fun _ => fun
  | [d1, d2] => { results := [.lit (.bool false)], args := [d1, d2] }
  | _ => none }
def CameraWideWrongFalsely : Prop := cameraWideRow.holds Try.pinned (OpenSpec.ofChange cameraWideWrong)

/-- 'dioramalaw15.CameraStill': WHATEVER THE INPUT: true; the input reads as it did. -/
def cameraStillSpec : ChangeSpec := { name := "cameraStill", fn := fun _ => fun
  | [d1, d2] => { results := [.lit (.bool true)], args := [d1, d2] }
  | _ => none }
def cameraStillRow : OpenClaim := { program := "ytlgcjkolakcfiaa", sum := "2a08b25c31f425b729a53b3aec543dbc6f9a20bc753e13b2709259966ad84a87", func := "diorama/dioramalaw15.CameraStill", spec := "cameraStill", apart := false }
def CameraStillSaid : Prop := cameraStillRow.holds Try.pinned (OpenSpec.ofChange cameraStillSpec)

/-- ITS FALSE NEIGHBOUR: 'it returns false'. Refute it at one input. -/
def cameraStillWrong : ChangeSpec := { name := "cameraStill", fn := fun _ => fun
  | [d1, d2] => { results := [.lit (.bool false)], args := [d1, d2] }
  | _ => none }
def CameraStillWrongFalsely : Prop := cameraStillRow.holds Try.pinned (OpenSpec.ofChange cameraStillWrong)

/-- 'dioramalaw01.FixedNames': WHATEVER THE INPUT: true; the input reads as it did. -/
def fixedNamesSpec : ChangeSpec := { name := "fixedNames", fn := fun _ => fun
  | [] => { results := [.lit (.bool true)], args := [] }
  | _ => none }
def fixedNamesRow : OpenClaim := { program := "ytlgcjkolakcfiaa", sum := "2a08b25c31f425b729a53b3aec543dbc6f9a20bc753e13b2709259966ad84a87", func := "diorama/dioramalaw01.FixedNames", spec := "fixedNames", apart := false }
def FixedNamesSaid : Prop := fixedNamesRow.holds Try.pinned (OpenSpec.ofChange fixedNamesSpec)

/-- ITS FALSE NEIGHBOUR: 'it returns false'. Refute it at one input. -/
def fixedNamesWrong : ChangeSpec := { name := "fixedNames", fn := fun _ => fun
  | [] => { results := [.lit (.bool false)], args := [] }
  | _ => none }
def FixedNamesWrongFalsely : Prop := fixedNamesRow.holds Try.pinned (OpenSpec.ofChange fixedNamesWrong)

/-- 'dioramalaw01.FixedEnds': WHATEVER THE INPUT: true; the input reads as it did. -/
def fixedEndsSpec : ChangeSpec := { name := "fixedEnds", fn := fun _ => fun
  | [d1, d2, d3] => { results := [.lit (.bool true)], args := [d1, d2, d3] }
  | _ => none }
def fixedEndsRow : OpenClaim := { program := "ytlgcjkolakcfiaa", sum := "2a08b25c31f425b729a53b3aec543dbc6f9a20bc753e13b2709259966ad84a87", func := "diorama/dioramalaw01.FixedEnds", spec := "fixedEnds", apart := false }
def FixedEndsSaid : Prop := fixedEndsRow.holds Try.pinned (OpenSpec.ofChange fixedEndsSpec)

/-- ITS FALSE NEIGHBOUR: 'it returns false'. Refute it at one input. -/
def fixedEndsWrong : ChangeSpec := { name := "fixedEnds", fn := fun _ => fun
  | [d1, d2, d3] => { results := [.lit (.bool false)], args := [d1, d2, d3] }
  | _ => none }
def FixedEndsWrongFalsely : Prop := fixedEndsRow.holds Try.pinned (OpenSpec.ofChange fixedEndsWrong)

/-- 'dioramalaw01.FixedHolds': WHATEVER THE INPUT: true; the input reads as it did. -/
def fixedHoldsSpec : ChangeSpec := { name := "fixedHolds", fn := fun _ => fun
  | [d1, d2, d3, d4, d5] => { results := [.lit (.bool true)], args := [d1, d2, d3, d4, d5] }
  | _ => none }
def fixedHoldsRow : OpenClaim := { program := "ytlgcjkolakcfiaa", sum := "2a08b25c31f425b729a53b3aec543dbc6f9a20bc753e13b2709259966ad84a87", func := "diorama/dioramalaw01.FixedHolds", spec := "fixedHolds", apart := false }
def FixedHoldsSaid : Prop := fixedHoldsRow.holds Try.pinned (OpenSpec.ofChange fixedHoldsSpec)

/-- ITS FALSE NEIGHBOUR: 'it returns false'. Refute it at one input. -/
def fixedHoldsWrong : ChangeSpec := { name := "fixedHolds", fn := fun _ => fun
  | [d1, d2, d3, d4, d5] => { results := [.lit (.bool false)], args := [d1, d2, d3, d4, d5] }
  | _ => none }
def FixedHoldsWrongFalsely : Prop := fixedHoldsRow.holds Try.pinned (OpenSpec.ofChange fixedHoldsWrong)

/-- 'dioramalaw02.VecMoves': WHATEVER THE INPUT: true; the input reads as it did. -/
def vecMovesSpec : ChangeSpec := { name := "vecMoves", fn := fun _ => fun
  | [d1, d2] => { results := [.lit (.bool true)], args := [d1, d2] }
  | _ => none }
def vecMovesRow : OpenClaim := { program := "ytlgcjkolakcfiaa", sum := "2a08b25c31f425b729a53b3aec543dbc6f9a20bc753e13b2709259966ad84a87", func := "diorama/dioramalaw02.VecMoves", spec := "vecMoves", apart := false }
def VecMovesSaid : Prop := vecMovesRow.holds Try.pinned (OpenSpec.ofChange vecMovesSpec)

/-- ITS FALSE NEIGHBOUR: 'it returns false'. Refute it at one input. -/
def vecMovesWrong : ChangeSpec := { name := "vecMoves", fn := fun _ => fun
  | [d1, d2] => { results := [.lit (.bool false)], args := [d1, d2] }
  | _ => none }
def VecMovesWrongFalsely : Prop := vecMovesRow.holds Try.pinned (OpenSpec.ofChange vecMovesWrong)

/-- 'dioramalaw02.VecRounds': WHATEVER THE INPUT: true; the input reads as it did. -/
def vecRoundsSpec : ChangeSpec := { name := "vecRounds", fn := fun _ => fun
  | [d1, d2] => { results := [.lit (.bool true)], args := [d1, d2] }
  | _ => none }
def vecRoundsRow : OpenClaim := { program := "ytlgcjkolakcfiaa", sum := "2a08b25c31f425b729a53b3aec543dbc6f9a20bc753e13b2709259966ad84a87", func := "diorama/dioramalaw02.VecRounds", spec := "vecRounds", apart := false }
def VecRoundsSaid : Prop := vecRoundsRow.holds Try.pinned (OpenSpec.ofChange vecRoundsSpec)

/-- ITS FALSE NEIGHBOUR: 'it returns false'. Refute it at one input. -/
def vecRoundsWrong : ChangeSpec := { name := "vecRounds", fn := fun _ => fun
  | [d1, d2] => { results := [.lit (.bool false)], args := [d1, d2] }
  | _ => none }
def VecRoundsWrongFalsely : Prop := vecRoundsRow.holds Try.pinned (OpenSpec.ofChange vecRoundsWrong)

/-- 'dioramalaw20.SnapMay': WHATEVER THE INPUT: true; the input reads as it did. -/
def snapMaySpec : ChangeSpec := { name := "snapMay", fn := fun _ => fun
  | [d1, d2] => { results := [.lit (.bool true)], args := [d1, d2] }
  | _ => none }
def snapMayRow : OpenClaim := { program := "ytlgcjkolakcfiaa", sum := "2a08b25c31f425b729a53b3aec543dbc6f9a20bc753e13b2709259966ad84a87", func := "diorama/dioramalaw20.SnapMay", spec := "snapMay", apart := false }
def SnapMaySaid : Prop := snapMayRow.holds Try.pinned (OpenSpec.ofChange snapMaySpec)

/-- ITS FALSE NEIGHBOUR: 'it returns false'. Refute it at one input. -/
def snapMayWrong : ChangeSpec := { name := "snapMay", fn := fun _ => fun
  | [d1, d2] => { results := [.lit (.bool false)], args := [d1, d2] }
  | _ => none }
def SnapMayWrongFalsely : Prop := snapMayRow.holds Try.pinned (OpenSpec.ofChange snapMayWrong)

/-- 'dioramalaw02.VecUnit': WHATEVER THE INPUT: true; the input reads as it did. -/
def vecUnitSpec : ChangeSpec := { name := "vecUnit", fn := fun _ => fun
  | [d1, d2] => { results := [.lit (.bool true)], args := [d1, d2] }
  | _ => none }
def vecUnitRow : OpenClaim := { program := "ytlgcjkolakcfiaa", sum := "2a08b25c31f425b729a53b3aec543dbc6f9a20bc753e13b2709259966ad84a87", func := "diorama/dioramalaw02.VecUnit", spec := "vecUnit", apart := false }
def VecUnitSaid : Prop := vecUnitRow.holds Try.pinned (OpenSpec.ofChange vecUnitSpec)

/-- ITS FALSE NEIGHBOUR: 'it returns false'. Refute it at one input. -/
def vecUnitWrong : ChangeSpec := { name := "vecUnit", fn := fun _ => fun
  | [d1, d2] => { results := [.lit (.bool false)], args := [d1, d2] }
  | _ => none }
def VecUnitWrongFalsely : Prop := vecUnitRow.holds Try.pinned (OpenSpec.ofChange vecUnitWrong)

/-- 'dioramalaw02.VecTwice': WHATEVER THE INPUT: true; the input reads as it did. -/
def vecTwiceSpec : ChangeSpec := { name := "vecTwice", fn := fun _ => fun
  | [d1, d2, d3] => { results := [.lit (.bool true)], args := [d1, d2, d3] }
  | _ => none }
def vecTwiceRow : OpenClaim := { program := "ytlgcjkolakcfiaa", sum := "2a08b25c31f425b729a53b3aec543dbc6f9a20bc753e13b2709259966ad84a87", func := "diorama/dioramalaw02.VecTwice", spec := "vecTwice", apart := false }
def VecTwiceSaid : Prop := vecTwiceRow.holds Try.pinned (OpenSpec.ofChange vecTwiceSpec)

/-- ITS FALSE NEIGHBOUR: 'it returns false'. Refute it at one input. -/
def vecTwiceWrong : ChangeSpec := { name := "vecTwice", fn := fun _ => fun
  | [d1, d2, d3] => { results := [.lit (.bool false)], args := [d1, d2, d3] }
  | _ => none }
def VecTwiceWrongFalsely : Prop := vecTwiceRow.holds Try.pinned (OpenSpec.ofChange vecTwiceWrong)

/-- 'dioramalaw15.CameraNames': WHATEVER THE INPUT: true; the input reads as it did. -/
def cameraNamesSpec : ChangeSpec := { name := "cameraNames", fn := fun _ => fun
  | [] => { results := [.lit (.bool true)], args := [] }
  | _ => none }
def cameraNamesRow : OpenClaim := { program := "ytlgcjkolakcfiaa", sum := "2a08b25c31f425b729a53b3aec543dbc6f9a20bc753e13b2709259966ad84a87", func := "diorama/dioramalaw15.CameraNames", spec := "cameraNames", apart := false }
def CameraNamesSaid : Prop := cameraNamesRow.holds Try.pinned (OpenSpec.ofChange cameraNamesSpec)

/-- ITS FALSE NEIGHBOUR: 'it returns false'. Refute it at one input. -/
def cameraNamesWrong : ChangeSpec := { name := "cameraNames", fn := fun _ => fun
  | [] => { results := [.lit (.bool false)], args := [] }
  | _ => none }
def CameraNamesWrongFalsely : Prop := cameraNamesRow.holds Try.pinned (OpenSpec.ofChange cameraNamesWrong)

/-- 'dioramalaw15.CameraSees': WHATEVER THE INPUT: true; the input reads as it did. -/
def cameraSeesSpec : ChangeSpec := { name := "cameraSees", fn := fun _ => fun
  | [d1, d2, d3] => { results := [.lit (.bool true)], args := [d1, d2, d3] }
  | _ => none }
def cameraSeesRow : OpenClaim := { program := "ytlgcjkolakcfiaa", sum := "2a08b25c31f425b729a53b3aec543dbc6f9a20bc753e13b2709259966ad84a87", func := "diorama/dioramalaw15.CameraSees", spec := "cameraSees", apart := false }
def CameraSeesSaid : Prop := cameraSeesRow.holds Try.pinned (OpenSpec.ofChange cameraSeesSpec)

/-- ITS FALSE NEIGHBOUR: 'it returns false'. Refute it at one input. -/
def cameraSeesWrong : ChangeSpec := { name := "cameraSees", fn := fun _ => fun
  | [d1, d2, d3] => { results := [.lit (.bool false)], args := [d1, d2, d3] }
  | _ => none }
def CameraSeesWrongFalsely : Prop := cameraSeesRow.holds Try.pinned (OpenSpec.ofChange cameraSeesWrong)

/-- 'dioramalaw15.CameraWindows': WHATEVER THE INPUT: true; the input reads as it did. -/
def cameraWindowsSpec : ChangeSpec := { name := "cameraWindows", fn := fun _ => fun
  | [d1, d2, d3, d4] => { results := [.lit (.bool true)], args := [d1, d2, d3, d4] }
  | _ => none }
def cameraWindowsRow : OpenClaim := { program := "ytlgcjkolakcfiaa", sum := "2a08b25c31f425b729a53b3aec543dbc6f9a20bc753e13b2709259966ad84a87", func := "diorama/dioramalaw15.CameraWindows", spec := "cameraWindows", apart := false }
def CameraWindowsSaid : Prop := cameraWindowsRow.holds Try.pinned (OpenSpec.ofChange cameraWindowsSpec)

/-- ITS FALSE NEIGHBOUR: 'it returns false'. Refute it at one input. -/
def cameraWindowsWrong : ChangeSpec := { name := "cameraWindows", fn := fun _ => fun
  | [d1, d2, d3, d4] => { results := [.lit (.bool false)], args := [d1, d2, d3, d4] }
  | _ => none }
def CameraWindowsWrongFalsely : Prop := cameraWindowsRow.holds Try.pinned (OpenSpec.ofChange cameraWindowsWrong)

/-- 'dioramalaw02.VecNames': WHATEVER THE INPUT: true; the input reads as it did. -/
def vecNamesSpec : ChangeSpec := { name := "vecNames", fn := fun _ => fun
  | [] => { results := [.lit (.bool true)], args := [] }
  | _ => none }
def vecNamesRow : OpenClaim := { program := "ytlgcjkolakcfiaa", sum := "2a08b25c31f425b729a53b3aec543dbc6f9a20bc753e13b2709259966ad84a87", func := "diorama/dioramalaw02.VecNames", spec := "vecNames", apart := false }
def VecNamesSaid : Prop := vecNamesRow.holds Try.pinned (OpenSpec.ofChange vecNamesSpec)

/-- ITS FALSE NEIGHBOUR: 'it returns false'. Refute it at one input. -/
def vecNamesWrong : ChangeSpec := { name := "vecNames", fn := fun _ => fun
  | [] => { results := [.lit (.bool false)], args := [] }
  | _ => none }
def VecNamesWrongFalsely : Prop := vecNamesRow.holds Try.pinned (OpenSpec.ofChange vecNamesWrong)

/-- 'dioramalaw22.PlaneNames': WHATEVER THE INPUT: true; the input reads as it did. -/
def planeNamesSpec : ChangeSpec := { name := "planeNames", fn := fun _ => fun
  | [] => { results := [.lit (.bool true)], args := [] }
  | _ => none }
def planeNamesRow : OpenClaim := { program := "ytlgcjkolakcfiaa", sum := "2a08b25c31f425b729a53b3aec543dbc6f9a20bc753e13b2709259966ad84a87", func := "diorama/dioramalaw22.PlaneNames", spec := "planeNames", apart := false }
def PlaneNamesSaid : Prop := planeNamesRow.holds Try.pinned (OpenSpec.ofChange planeNamesSpec)

/-- ITS FALSE NEIGHBOUR: 'it returns false'. Refute it at one input. -/
def planeNamesWrong : ChangeSpec := { name := "planeNames", fn := fun _ => fun
  | [] => { results := [.lit (.bool false)], args := [] }
  | _ => none }
def PlaneNamesWrongFalsely : Prop := planeNamesRow.holds Try.pinned (OpenSpec.ofChange planeNamesWrong)

/-- 'dioramalaw22.PlaneAt': WHATEVER THE INPUT: true; the input reads as it did. -/
def planeAtSpec : ChangeSpec := { name := "planeAt", fn := fun _ => fun
  | [d1, d2, d3] => { results := [.lit (.bool true)], args := [d1, d2, d3] }
  | _ => none }
def planeAtRow : OpenClaim := { program := "ytlgcjkolakcfiaa", sum := "2a08b25c31f425b729a53b3aec543dbc6f9a20bc753e13b2709259966ad84a87", func := "diorama/dioramalaw22.PlaneAt", spec := "planeAt", apart := false }
def PlaneAtSaid : Prop := planeAtRow.holds Try.pinned (OpenSpec.ofChange planeAtSpec)

/-- ITS FALSE NEIGHBOUR: 'it returns false'. Refute it at one input. -/
def planeAtWrong : ChangeSpec := { name := "planeAt", fn := fun _ => fun
  | [d1, d2, d3] => { results := [.lit (.bool false)], args := [d1, d2, d3] }
  | _ => none }
def PlaneAtWrongFalsely : Prop := planeAtRow.holds Try.pinned (OpenSpec.ofChange planeAtWrong)

/-- 'dioramalaw22.PlaneBetween': WHATEVER THE INPUT: true; the input reads as it did. -/
def planeBetweenSpec : ChangeSpec := { name := "planeBetween", fn := fun _ => fun
  | [d1, d2, d3] => { results := [.lit (.bool true)], args := [d1, d2, d3] }
  | _ => none }
def planeBetweenRow : OpenClaim := { program := "ytlgcjkolakcfiaa", sum := "2a08b25c31f425b729a53b3aec543dbc6f9a20bc753e13b2709259966ad84a87", func := "diorama/dioramalaw22.PlaneBetween", spec := "planeBetween", apart := false }
def PlaneBetweenSaid : Prop := planeBetweenRow.holds Try.pinned (OpenSpec.ofChange planeBetweenSpec)

/-- ITS FALSE NEIGHBOUR: 'it returns false'. Refute it at one input. -/
def planeBetweenWrong : ChangeSpec := { name := "planeBetween", fn := fun _ => fun
  | [d1, d2, d3] => { results := [.lit (.bool false)], args := [d1, d2, d3] }
  | _ => none }
def PlaneBetweenWrongFalsely : Prop := planeBetweenRow.holds Try.pinned (OpenSpec.ofChange planeBetweenWrong)

/-- 'dioramalaw22.PlaneRound': WHATEVER THE INPUT: true; the input reads as it did. -/
def planeRoundSpec : ChangeSpec := { name := "planeRound", fn := fun _ => fun
  | [d1, d2, d3] => { results := [.lit (.bool true)], args := [d1, d2, d3] }
  | _ => none }
def planeRoundRow : OpenClaim := { program := "ytlgcjkolakcfiaa", sum := "2a08b25c31f425b729a53b3aec543dbc6f9a20bc753e13b2709259966ad84a87", func := "diorama/dioramalaw22.PlaneRound", spec := "planeRound", apart := false }
def PlaneRoundSaid : Prop := planeRoundRow.holds Try.pinned (OpenSpec.ofChange planeRoundSpec)

/-- ITS FALSE NEIGHBOUR: 'it returns false'. Refute it at one input. -/
def planeRoundWrong : ChangeSpec := { name := "planeRound", fn := fun _ => fun
  | [d1, d2, d3] => { results := [.lit (.bool false)], args := [d1, d2, d3] }
  | _ => none }
def PlaneRoundWrongFalsely : Prop := planeRoundRow.holds Try.pinned (OpenSpec.ofChange planeRoundWrong)

/-- 'dioramalaw22.PlaneFlat': WHATEVER THE INPUT: true; the input reads as it did. -/
def planeFlatSpec : ChangeSpec := { name := "planeFlat", fn := fun _ => fun
  | [d1, d2, d3] => { results := [.lit (.bool true)], args := [d1, d2, d3] }
  | _ => none }
def planeFlatRow : OpenClaim := { program := "ytlgcjkolakcfiaa", sum := "2a08b25c31f425b729a53b3aec543dbc6f9a20bc753e13b2709259966ad84a87", func := "diorama/dioramalaw22.PlaneFlat", spec := "planeFlat", apart := false }
def PlaneFlatSaid : Prop := planeFlatRow.holds Try.pinned (OpenSpec.ofChange planeFlatSpec)

/-- ITS FALSE NEIGHBOUR: 'it returns false'. Refute it at one input. -/
def planeFlatWrong : ChangeSpec := { name := "planeFlat", fn := fun _ => fun
  | [d1, d2, d3] => { results := [.lit (.bool false)], args := [d1, d2, d3] }
  | _ => none }
def PlaneFlatWrongFalsely : Prop := planeFlatRow.holds Try.pinned (OpenSpec.ofChange planeFlatWrong)

/-- 'dioramalaw20.SnapTurns': WHATEVER THE INPUT: true; the input reads as it did. -/
def snapTurnsSpec : ChangeSpec := { name := "snapTurns", fn := fun _ => fun
  | [d1, d2, d3] => { results := [.lit (.bool true)], args := [d1, d2, d3] }
  | _ => none }
def snapTurnsRow : OpenClaim := { program := "ytlgcjkolakcfiaa", sum := "2a08b25c31f425b729a53b3aec543dbc6f9a20bc753e13b2709259966ad84a87", func := "diorama/dioramalaw20.SnapTurns", spec := "snapTurns", apart := false }
def SnapTurnsSaid : Prop := snapTurnsRow.holds Try.pinned (OpenSpec.ofChange snapTurnsSpec)

/-- ITS FALSE NEIGHBOUR: 'it returns false'. Refute it at one input. -/
def snapTurnsWrong : ChangeSpec := { name := "snapTurns", fn := fun _ => fun
  | [d1, d2, d3] => { results := [.lit (.bool false)], args := [d1, d2, d3] }
  | _ => none }
def SnapTurnsWrongFalsely : Prop := snapTurnsRow.holds Try.pinned (OpenSpec.ofChange snapTurnsWrong)

/-- 'dioramalaw21.EdgesNames': WHATEVER THE INPUT: true; the input reads as it did. -/
def edgesNamesSpec : ChangeSpec := { name := "edgesNames", fn := fun _ => fun
  | [] => { results := [.lit (.bool true)], args := [] }
  | _ => none }
def edgesNamesRow : OpenClaim := { program := "ytlgcjkolakcfiaa", sum := "2a08b25c31f425b729a53b3aec543dbc6f9a20bc753e13b2709259966ad84a87", func := "diorama/dioramalaw21.EdgesNames", spec := "edgesNames", apart := false }
def EdgesNamesSaid : Prop := edgesNamesRow.holds Try.pinned (OpenSpec.ofChange edgesNamesSpec)

/-- ITS FALSE NEIGHBOUR: 'it returns false'. Refute it at one input. -/
def edgesNamesWrong : ChangeSpec := { name := "edgesNames", fn := fun _ => fun
  | [] => { results := [.lit (.bool false)], args := [] }
  | _ => none }
def EdgesNamesWrongFalsely : Prop := edgesNamesRow.holds Try.pinned (OpenSpec.ofChange edgesNamesWrong)

/-- 'dioramalaw21.EdgesTell': WHATEVER THE INPUT: true; the input reads as it did. -/
def edgesTellSpec : ChangeSpec := { name := "edgesTell", fn := fun _ => fun
  | [d1, d2, d3, d4] => { results := [.lit (.bool true)], args := [d1, d2, d3, d4] }
  | _ => none }
def edgesTellRow : OpenClaim := { program := "ytlgcjkolakcfiaa", sum := "2a08b25c31f425b729a53b3aec543dbc6f9a20bc753e13b2709259966ad84a87", func := "diorama/dioramalaw21.EdgesTell", spec := "edgesTell", apart := false }
def EdgesTellSaid : Prop := edgesTellRow.holds Try.pinned (OpenSpec.ofChange edgesTellSpec)

/-- ITS FALSE NEIGHBOUR: 'it returns false'. Refute it at one input. -/
def edgesTellWrong : ChangeSpec := { name := "edgesTell", fn := fun _ => fun
  | [d1, d2, d3, d4] => { results := [.lit (.bool false)], args := [d1, d2, d3, d4] }
  | _ => none }
def EdgesTellWrongFalsely : Prop := edgesTellRow.holds Try.pinned (OpenSpec.ofChange edgesTellWrong)

/-- 'dioramalaw21.EdgesBounds': WHATEVER THE INPUT: true; the input reads as it did. -/
def edgesBoundsSpec : ChangeSpec := { name := "edgesBounds", fn := fun _ => fun
  | [d1, d2, d3, d4] => { results := [.lit (.bool true)], args := [d1, d2, d3, d4] }
  | _ => none }
def edgesBoundsRow : OpenClaim := { program := "ytlgcjkolakcfiaa", sum := "2a08b25c31f425b729a53b3aec543dbc6f9a20bc753e13b2709259966ad84a87", func := "diorama/dioramalaw21.EdgesBounds", spec := "edgesBounds", apart := false }
def EdgesBoundsSaid : Prop := edgesBoundsRow.holds Try.pinned (OpenSpec.ofChange edgesBoundsSpec)

/-- ITS FALSE NEIGHBOUR: 'it returns false'. Refute it at one input. -/
def edgesBoundsWrong : ChangeSpec := { name := "edgesBounds", fn := fun _ => fun
  | [d1, d2, d3, d4] => { results := [.lit (.bool false)], args := [d1, d2, d3, d4] }
  | _ => none }
def EdgesBoundsWrongFalsely : Prop := edgesBoundsRow.holds Try.pinned (OpenSpec.ofChange edgesBoundsWrong)

/-- 'dioramalaw20.SnapNames': WHATEVER THE INPUT: true; the input reads as it did. -/
def snapNamesSpec : ChangeSpec := { name := "snapNames", fn := fun _ => fun
  | [] => { results := [.lit (.bool true)], args := [] }
  | _ => none }
def snapNamesRow : OpenClaim := { program := "ytlgcjkolakcfiaa", sum := "2a08b25c31f425b729a53b3aec543dbc6f9a20bc753e13b2709259966ad84a87", func := "diorama/dioramalaw20.SnapNames", spec := "snapNames", apart := false }
def SnapNamesSaid : Prop := snapNamesRow.holds Try.pinned (OpenSpec.ofChange snapNamesSpec)

/-- ITS FALSE NEIGHBOUR: 'it returns false'. Refute it at one input. -/
def snapNamesWrong : ChangeSpec := { name := "snapNames", fn := fun _ => fun
  | [] => { results := [.lit (.bool false)], args := [] }
  | _ => none }
def SnapNamesWrongFalsely : Prop := snapNamesRow.holds Try.pinned (OpenSpec.ofChange snapNamesWrong)

/- THE SECOND FORM. 'bulk': how many values and letters a reading holds, each counted each time it is reached (what is shared counts as often as it is met; a slice's spare places count too). A statement '..UptoSaid' is the law's where the arguments, and the package variables that the reading takes, are together of bulk at most 1048576: NARROWER than '..Said'. Prove '..Said' where nothing that the law and all that it calls make is longer than what came in: it says more and counts as full. Else prove '..UptoSaid'. A law counts once. -/
mutual
def uptoBulk {H : Type} : DataW H → Nat
  | .lit (.string bytes) => bytes.length + 1
  | .lit _ => 1
  | .nil => 1
  | .ptr d => uptoBulk d + 1
  | .slice elems spare => uptoBulkAll elems + uptoBulkAll spare + 1
  | .agg parts => uptoBulkAll parts + 1
  | .iface _ d => uptoBulk d + 1
  | .map entries => uptoBulkEntries entries + 1
  | .held _ => 1
def uptoBulkAll {H : Type} : List (DataW H) → Nat
  | [] => 0
  | d :: r => uptoBulk d + uptoBulkAll r
def uptoBulkEntries {H : Type} : List (Lit × DataW H) → Nat
  | [] => 0
  | x :: r => uptoBulkEntry x + uptoBulkEntries r
def uptoBulkEntry {H : Type} : Lit × DataW H → Nat
  | (.string bytes, d) => bytes.length + uptoBulk d + 1
  | (_, d) => uptoBulk d + 1
 end
def uptoSmall : (H : Type) → List (DataW H) → Bool := fun _ ds => decide (uptoBulkAll ds ≤ 1048576)
def OpenSpec.upto (s : _root_.Go.ChangeSpec) : _root_.Go.OpenSpec := { _root_.Go.OpenSpec.ofChange s with cond := some uptoSmall }

/-- 'dioramalaw01.FixedFloor', WHERE WHAT IT READS IS OF BULK AT MOST 1048576: true; the input reads as it did. -/
def fixedFloorUptoRow : OpenClaim := { program := "ytlgcjkolakcfiaa", sum := "2a08b25c31f425b729a53b3aec543dbc6f9a20bc753e13b2709259966ad84a87", func := "diorama/dioramalaw01.FixedFloor", spec := "fixedFloor", apart := false, narrowed := true }
def FixedFloorUptoSaid : Prop := fixedFloorUptoRow.holds Try.pinned (OpenSpec.upto fixedFloorSpec)

/-- 'dioramalaw20.SnapAreas', WHERE WHAT IT READS IS OF BULK AT MOST 1048576: true; the input reads as it did. -/
def snapAreasUptoRow : OpenClaim := { program := "ytlgcjkolakcfiaa", sum := "2a08b25c31f425b729a53b3aec543dbc6f9a20bc753e13b2709259966ad84a87", func := "diorama/dioramalaw20.SnapAreas", spec := "snapAreas", apart := false, narrowed := true }
def SnapAreasUptoSaid : Prop := snapAreasUptoRow.holds Try.pinned (OpenSpec.upto snapAreasSpec)

/-- 'dioramalaw21.EdgesSum', WHERE WHAT IT READS IS OF BULK AT MOST 1048576: true; the input reads as it did. -/
def edgesSumUptoRow : OpenClaim := { program := "ytlgcjkolakcfiaa", sum := "2a08b25c31f425b729a53b3aec543dbc6f9a20bc753e13b2709259966ad84a87", func := "diorama/dioramalaw21.EdgesSum", spec := "edgesSum", apart := false, narrowed := true }
def EdgesSumUptoSaid : Prop := edgesSumUptoRow.holds Try.pinned (OpenSpec.upto edgesSumSpec)

/-- 'dioramalaw21.EdgesOnce', WHERE WHAT IT READS IS OF BULK AT MOST 1048576: true; the input reads as it did. -/
def edgesOnceUptoRow : OpenClaim := { program := "ytlgcjkolakcfiaa", sum := "2a08b25c31f425b729a53b3aec543dbc6f9a20bc753e13b2709259966ad84a87", func := "diorama/dioramalaw21.EdgesOnce", spec := "edgesOnce", apart := false, narrowed := true }
def EdgesOnceUptoSaid : Prop := edgesOnceUptoRow.holds Try.pinned (OpenSpec.upto edgesOnceSpec)

/-- 'dioramalaw20.SnapPlaces', WHERE WHAT IT READS IS OF BULK AT MOST 1048576: true; the input reads as it did. -/
def snapPlacesUptoRow : OpenClaim := { program := "ytlgcjkolakcfiaa", sum := "2a08b25c31f425b729a53b3aec543dbc6f9a20bc753e13b2709259966ad84a87", func := "diorama/dioramalaw20.SnapPlaces", spec := "snapPlaces", apart := false, narrowed := true }
def SnapPlacesUptoSaid : Prop := snapPlacesUptoRow.holds Try.pinned (OpenSpec.upto snapPlacesSpec)

/-- 'dioramalaw20.SnapFar', WHERE WHAT IT READS IS OF BULK AT MOST 1048576: true; the input reads as it did. -/
def snapFarUptoRow : OpenClaim := { program := "ytlgcjkolakcfiaa", sum := "2a08b25c31f425b729a53b3aec543dbc6f9a20bc753e13b2709259966ad84a87", func := "diorama/dioramalaw20.SnapFar", spec := "snapFar", apart := false, narrowed := true }
def SnapFarUptoSaid : Prop := snapFarUptoRow.holds Try.pinned (OpenSpec.upto snapFarSpec)

/-- 'dioramalaw01.FixedSpans', WHERE WHAT IT READS IS OF BULK AT MOST 1048576: true; the input reads as it did. -/
def fixedSpansUptoRow : OpenClaim := { program := "ytlgcjkolakcfiaa", sum := "2a08b25c31f425b729a53b3aec543dbc6f9a20bc753e13b2709259966ad84a87", func := "diorama/dioramalaw01.FixedSpans", spec := "fixedSpans", apart := false, narrowed := true }
def FixedSpansUptoSaid : Prop := fixedSpansUptoRow.holds Try.pinned (OpenSpec.upto fixedSpansSpec)

/-- 'dioramalaw02.VecMuls', WHERE WHAT IT READS IS OF BULK AT MOST 1048576: true; the input reads as it did. -/
def vecMulsUptoRow : OpenClaim := { program := "ytlgcjkolakcfiaa", sum := "2a08b25c31f425b729a53b3aec543dbc6f9a20bc753e13b2709259966ad84a87", func := "diorama/dioramalaw02.VecMuls", spec := "vecMuls", apart := false, narrowed := true }
def VecMulsUptoSaid : Prop := vecMulsUptoRow.holds Try.pinned (OpenSpec.upto vecMulsSpec)

/-- 'dioramalaw15.CameraWide', WHERE WHAT IT READS IS OF BULK AT MOST 1048576: true; the input reads as it did. -/
def cameraWideUptoRow : OpenClaim := { program := "ytlgcjkolakcfiaa", sum := "2a08b25c31f425b729a53b3aec543dbc6f9a20bc753e13b2709259966ad84a87", func := "diorama/dioramalaw15.CameraWide", spec := "cameraWide", apart := false, narrowed := true }
def CameraWideUptoSaid : Prop := cameraWideUptoRow.holds Try.pinned (OpenSpec.upto cameraWideSpec)

/-- 'dioramalaw15.CameraStill', WHERE WHAT IT READS IS OF BULK AT MOST 1048576: true; the input reads as it did. -/
def cameraStillUptoRow : OpenClaim := { program := "ytlgcjkolakcfiaa", sum := "2a08b25c31f425b729a53b3aec543dbc6f9a20bc753e13b2709259966ad84a87", func := "diorama/dioramalaw15.CameraStill", spec := "cameraStill", apart := false, narrowed := true }
def CameraStillUptoSaid : Prop := cameraStillUptoRow.holds Try.pinned (OpenSpec.upto cameraStillSpec)

/-- 'dioramalaw01.FixedNames', WHERE WHAT IT READS IS OF BULK AT MOST 1048576: true; the input reads as it did. -/
def fixedNamesUptoRow : OpenClaim := { program := "ytlgcjkolakcfiaa", sum := "2a08b25c31f425b729a53b3aec543dbc6f9a20bc753e13b2709259966ad84a87", func := "diorama/dioramalaw01.FixedNames", spec := "fixedNames", apart := false, narrowed := true }
def FixedNamesUptoSaid : Prop := fixedNamesUptoRow.holds Try.pinned (OpenSpec.upto fixedNamesSpec)

/-- 'dioramalaw01.FixedEnds', WHERE WHAT IT READS IS OF BULK AT MOST 1048576: true; the input reads as it did. -/
def fixedEndsUptoRow : OpenClaim := { program := "ytlgcjkolakcfiaa", sum := "2a08b25c31f425b729a53b3aec543dbc6f9a20bc753e13b2709259966ad84a87", func := "diorama/dioramalaw01.FixedEnds", spec := "fixedEnds", apart := false, narrowed := true }
def FixedEndsUptoSaid : Prop := fixedEndsUptoRow.holds Try.pinned (OpenSpec.upto fixedEndsSpec)

/-- 'dioramalaw01.FixedHolds', WHERE WHAT IT READS IS OF BULK AT MOST 1048576: true; the input reads as it did. -/
def fixedHoldsUptoRow : OpenClaim := { program := "ytlgcjkolakcfiaa", sum := "2a08b25c31f425b729a53b3aec543dbc6f9a20bc753e13b2709259966ad84a87", func := "diorama/dioramalaw01.FixedHolds", spec := "fixedHolds", apart := false, narrowed := true }
def FixedHoldsUptoSaid : Prop := fixedHoldsUptoRow.holds Try.pinned (OpenSpec.upto fixedHoldsSpec)

/-- 'dioramalaw02.VecMoves', WHERE WHAT IT READS IS OF BULK AT MOST 1048576: true; the input reads as it did. -/
def vecMovesUptoRow : OpenClaim := { program := "ytlgcjkolakcfiaa", sum := "2a08b25c31f425b729a53b3aec543dbc6f9a20bc753e13b2709259966ad84a87", func := "diorama/dioramalaw02.VecMoves", spec := "vecMoves", apart := false, narrowed := true }
def VecMovesUptoSaid : Prop := vecMovesUptoRow.holds Try.pinned (OpenSpec.upto vecMovesSpec)

/-- 'dioramalaw02.VecRounds', WHERE WHAT IT READS IS OF BULK AT MOST 1048576: true; the input reads as it did. -/
def vecRoundsUptoRow : OpenClaim := { program := "ytlgcjkolakcfiaa", sum := "2a08b25c31f425b729a53b3aec543dbc6f9a20bc753e13b2709259966ad84a87", func := "diorama/dioramalaw02.VecRounds", spec := "vecRounds", apart := false, narrowed := true }
def VecRoundsUptoSaid : Prop := vecRoundsUptoRow.holds Try.pinned (OpenSpec.upto vecRoundsSpec)

/-- 'dioramalaw20.SnapMay', WHERE WHAT IT READS IS OF BULK AT MOST 1048576: true; the input reads as it did. -/
def snapMayUptoRow : OpenClaim := { program := "ytlgcjkolakcfiaa", sum := "2a08b25c31f425b729a53b3aec543dbc6f9a20bc753e13b2709259966ad84a87", func := "diorama/dioramalaw20.SnapMay", spec := "snapMay", apart := false, narrowed := true }
def SnapMayUptoSaid : Prop := snapMayUptoRow.holds Try.pinned (OpenSpec.upto snapMaySpec)

/-- 'dioramalaw02.VecUnit', WHERE WHAT IT READS IS OF BULK AT MOST 1048576: true; the input reads as it did. -/
def vecUnitUptoRow : OpenClaim := { program := "ytlgcjkolakcfiaa", sum := "2a08b25c31f425b729a53b3aec543dbc6f9a20bc753e13b2709259966ad84a87", func := "diorama/dioramalaw02.VecUnit", spec := "vecUnit", apart := false, narrowed := true }
def VecUnitUptoSaid : Prop := vecUnitUptoRow.holds Try.pinned (OpenSpec.upto vecUnitSpec)

/-- 'dioramalaw02.VecTwice', WHERE WHAT IT READS IS OF BULK AT MOST 1048576: true; the input reads as it did. -/
def vecTwiceUptoRow : OpenClaim := { program := "ytlgcjkolakcfiaa", sum := "2a08b25c31f425b729a53b3aec543dbc6f9a20bc753e13b2709259966ad84a87", func := "diorama/dioramalaw02.VecTwice", spec := "vecTwice", apart := false, narrowed := true }
def VecTwiceUptoSaid : Prop := vecTwiceUptoRow.holds Try.pinned (OpenSpec.upto vecTwiceSpec)

/-- 'dioramalaw15.CameraNames', WHERE WHAT IT READS IS OF BULK AT MOST 1048576: true; the input reads as it did. -/
def cameraNamesUptoRow : OpenClaim := { program := "ytlgcjkolakcfiaa", sum := "2a08b25c31f425b729a53b3aec543dbc6f9a20bc753e13b2709259966ad84a87", func := "diorama/dioramalaw15.CameraNames", spec := "cameraNames", apart := false, narrowed := true }
def CameraNamesUptoSaid : Prop := cameraNamesUptoRow.holds Try.pinned (OpenSpec.upto cameraNamesSpec)

/-- 'dioramalaw15.CameraSees', WHERE WHAT IT READS IS OF BULK AT MOST 1048576: true; the input reads as it did. -/
def cameraSeesUptoRow : OpenClaim := { program := "ytlgcjkolakcfiaa", sum := "2a08b25c31f425b729a53b3aec543dbc6f9a20bc753e13b2709259966ad84a87", func := "diorama/dioramalaw15.CameraSees", spec := "cameraSees", apart := false, narrowed := true }
def CameraSeesUptoSaid : Prop := cameraSeesUptoRow.holds Try.pinned (OpenSpec.upto cameraSeesSpec)

/-- 'dioramalaw15.CameraWindows', WHERE WHAT IT READS IS OF BULK AT MOST 1048576: true; the input reads as it did. -/
def cameraWindowsUptoRow : OpenClaim := { program := "ytlgcjkolakcfiaa", sum := "2a08b25c31f425b729a53b3aec543dbc6f9a20bc753e13b2709259966ad84a87", func := "diorama/dioramalaw15.CameraWindows", spec := "cameraWindows", apart := false, narrowed := true }
def CameraWindowsUptoSaid : Prop := cameraWindowsUptoRow.holds Try.pinned (OpenSpec.upto cameraWindowsSpec)

/-- 'dioramalaw02.VecNames', WHERE WHAT IT READS IS OF BULK AT MOST 1048576: true; the input reads as it did. -/
def vecNamesUptoRow : OpenClaim := { program := "ytlgcjkolakcfiaa", sum := "2a08b25c31f425b729a53b3aec543dbc6f9a20bc753e13b2709259966ad84a87", func := "diorama/dioramalaw02.VecNames", spec := "vecNames", apart := false, narrowed := true }
def VecNamesUptoSaid : Prop := vecNamesUptoRow.holds Try.pinned (OpenSpec.upto vecNamesSpec)

/-- 'dioramalaw22.PlaneNames', WHERE WHAT IT READS IS OF BULK AT MOST 1048576: true; the input reads as it did. -/
def planeNamesUptoRow : OpenClaim := { program := "ytlgcjkolakcfiaa", sum := "2a08b25c31f425b729a53b3aec543dbc6f9a20bc753e13b2709259966ad84a87", func := "diorama/dioramalaw22.PlaneNames", spec := "planeNames", apart := false, narrowed := true }
def PlaneNamesUptoSaid : Prop := planeNamesUptoRow.holds Try.pinned (OpenSpec.upto planeNamesSpec)

/-- 'dioramalaw22.PlaneAt', WHERE WHAT IT READS IS OF BULK AT MOST 1048576: true; the input reads as it did. -/
def planeAtUptoRow : OpenClaim := { program := "ytlgcjkolakcfiaa", sum := "2a08b25c31f425b729a53b3aec543dbc6f9a20bc753e13b2709259966ad84a87", func := "diorama/dioramalaw22.PlaneAt", spec := "planeAt", apart := false, narrowed := true }
def PlaneAtUptoSaid : Prop := planeAtUptoRow.holds Try.pinned (OpenSpec.upto planeAtSpec)

/-- 'dioramalaw22.PlaneBetween', WHERE WHAT IT READS IS OF BULK AT MOST 1048576: true; the input reads as it did. -/
def planeBetweenUptoRow : OpenClaim := { program := "ytlgcjkolakcfiaa", sum := "2a08b25c31f425b729a53b3aec543dbc6f9a20bc753e13b2709259966ad84a87", func := "diorama/dioramalaw22.PlaneBetween", spec := "planeBetween", apart := false, narrowed := true }
def PlaneBetweenUptoSaid : Prop := planeBetweenUptoRow.holds Try.pinned (OpenSpec.upto planeBetweenSpec)

/-- 'dioramalaw22.PlaneRound', WHERE WHAT IT READS IS OF BULK AT MOST 1048576: true; the input reads as it did. -/
def planeRoundUptoRow : OpenClaim := { program := "ytlgcjkolakcfiaa", sum := "2a08b25c31f425b729a53b3aec543dbc6f9a20bc753e13b2709259966ad84a87", func := "diorama/dioramalaw22.PlaneRound", spec := "planeRound", apart := false, narrowed := true }
def PlaneRoundUptoSaid : Prop := planeRoundUptoRow.holds Try.pinned (OpenSpec.upto planeRoundSpec)

/-- 'dioramalaw22.PlaneFlat', WHERE WHAT IT READS IS OF BULK AT MOST 1048576: true; the input reads as it did. -/
def planeFlatUptoRow : OpenClaim := { program := "ytlgcjkolakcfiaa", sum := "2a08b25c31f425b729a53b3aec543dbc6f9a20bc753e13b2709259966ad84a87", func := "diorama/dioramalaw22.PlaneFlat", spec := "planeFlat", apart := false, narrowed := true }
def PlaneFlatUptoSaid : Prop := planeFlatUptoRow.holds Try.pinned (OpenSpec.upto planeFlatSpec)

/-- 'dioramalaw20.SnapTurns', WHERE WHAT IT READS IS OF BULK AT MOST 1048576: true; the input reads as it did. -/
def snapTurnsUptoRow : OpenClaim := { program := "ytlgcjkolakcfiaa", sum := "2a08b25c31f425b729a53b3aec543dbc6f9a20bc753e13b2709259966ad84a87", func := "diorama/dioramalaw20.SnapTurns", spec := "snapTurns", apart := false, narrowed := true }
def SnapTurnsUptoSaid : Prop := snapTurnsUptoRow.holds Try.pinned (OpenSpec.upto snapTurnsSpec)

/-- 'dioramalaw21.EdgesNames', WHERE WHAT IT READS IS OF BULK AT MOST 1048576: true; the input reads as it did. -/
def edgesNamesUptoRow : OpenClaim := { program := "ytlgcjkolakcfiaa", sum := "2a08b25c31f425b729a53b3aec543dbc6f9a20bc753e13b2709259966ad84a87", func := "diorama/dioramalaw21.EdgesNames", spec := "edgesNames", apart := false, narrowed := true }
def EdgesNamesUptoSaid : Prop := edgesNamesUptoRow.holds Try.pinned (OpenSpec.upto edgesNamesSpec)

/-- 'dioramalaw21.EdgesTell', WHERE WHAT IT READS IS OF BULK AT MOST 1048576: true; the input reads as it did. -/
def edgesTellUptoRow : OpenClaim := { program := "ytlgcjkolakcfiaa", sum := "2a08b25c31f425b729a53b3aec543dbc6f9a20bc753e13b2709259966ad84a87", func := "diorama/dioramalaw21.EdgesTell", spec := "edgesTell", apart := false, narrowed := true }
def EdgesTellUptoSaid : Prop := edgesTellUptoRow.holds Try.pinned (OpenSpec.upto edgesTellSpec)

/-- 'dioramalaw21.EdgesBounds', WHERE WHAT IT READS IS OF BULK AT MOST 1048576: true; the input reads as it did. -/
def edgesBoundsUptoRow : OpenClaim := { program := "ytlgcjkolakcfiaa", sum := "2a08b25c31f425b729a53b3aec543dbc6f9a20bc753e13b2709259966ad84a87", func := "diorama/dioramalaw21.EdgesBounds", spec := "edgesBounds", apart := false, narrowed := true }
def EdgesBoundsUptoSaid : Prop := edgesBoundsUptoRow.holds Try.pinned (OpenSpec.upto edgesBoundsSpec)

/-- 'dioramalaw20.SnapNames', WHERE WHAT IT READS IS OF BULK AT MOST 1048576: true; the input reads as it did. -/
def snapNamesUptoRow : OpenClaim := { program := "ytlgcjkolakcfiaa", sum := "2a08b25c31f425b729a53b3aec543dbc6f9a20bc753e13b2709259966ad84a87", func := "diorama/dioramalaw20.SnapNames", spec := "snapNames", apart := false, narrowed := true }
def SnapNamesUptoSaid : Prop := snapNamesUptoRow.holds Try.pinned (OpenSpec.upto snapNamesSpec)

end Rows
end Go.Proofs.Ytlgcjkolakcfiaa
