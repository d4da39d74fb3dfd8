/-
  NARROWER THAN 'FOR EVERY INPUT', by the rows' own cells (each row's printed sentence says how): TopOnly: laid · TopFound: laid · FindFinds: laid.
  DERIVED. THE GIVEN ROWS OF THIS SEAT. 3 by the template 'for every input the law returns true; each argument reads behind the call as it read before'; 0 by the template 'total and deterministic' (their statements: YtgcoidbaoigkeaaGreatDoorTotals.lean).
  GIVEN WITH THE SEED: the statements are not yours to turn. If you find one false, say at which input.
  Laid BY PROGRAM, IN A SANDBOX (cutbox-rows.mjs): the forced cells as the released guide's own fill.sh prints them over the translation edc5cd63e28d278a… (all of the seat's roots in one cut). By AI agents, Wed Nov 11 2026. No macro, syntax, notation, axiom, sorry.
-/
import Derived.Test.YtgcoidbaoigkeaaGreatDoorChecked
import GoSem.Claim
import GoSem.ClaimJoined
import GoSem.ClaimMapViews
import Derived.JoinedTies
import Derived.KernelRfl
namespace Go.Proofs.YtgcoidbaoigkeaaGreatDoor
/- THE CELL 'sum', in the pinned program and in every row, IS THE sha256 OF THE DUMP (.gsa) THAT YtgcoidbaoigkeaaGreatDoorProg.lean LOADS. Nothing in Lean hashes anything: it is a label: what it is worth is what the hold of that sum in a sandbox is worth. -/
noncomputable def Tryz.pinned : Pinned := { name := "ytgcoidbaoigkeaagreatdoor", sum := "edc5cd63e28d278a8552b8397bb9c6e1985923f0b322695d05422295766c0706", checked := Tryz.checked }
namespace Rows
def none {H : Type} : Left H := { results := [], args := [] }

/- WHAT THE LISTED PACKAGE-LEVEL VARIABLES READ AS WHEN THE CALL BEGINS. Each datum BY PROGRAM (the guide's laid-datum.mjs) off the statement by which the dump's own 'gosem.cut.vars' lays the variable. In a bare row this is a premise. The card (YtgcoidbaoigkeaaGreatDoorCards.lean) ties it to the program's text. -/
def laid_diorama_frustum_world {H : Type} : DataW H := .agg [.agg [.lit (.int .i64 (-4096)), .lit (.int .i64 (-4096)), .lit (.int .i64 (-4096))], .agg [.lit (.int .i64 4096), .lit (.int .i64 4096), .lit (.int .i64 4096)]]

/-- 'dioramatop.TopOnly': WHATEVER THE INPUT: true; the input reads as it did. -/
def topOnlySpec : ChangeSpec := { name := "topOnly", fn := fun _ => fun
  | [d1, d2, d3, d4, d5, d6] => { results := [.lit (.bool true)], args := [d1, d2, d3, d4, d5, d6] }
  | _ => none }
def topOnlyRow : OpenClaim := { program := "ytgcoidbaoigkeaagreatdoor", sum := "edc5cd63e28d278a8552b8397bb9c6e1985923f0b322695d05422295766c0706", func := "diorama/dioramatop.TopOnly", spec := "topOnly", unfollowed := true, recurses := true, named := ["diorama/frustum.world"], apart := false, laid := [("diorama/frustum.world", laid_diorama_frustum_world)] }
def TopOnlySaid : Prop := topOnlyRow.holds Tryz.pinned (OpenSpec.ofChange topOnlySpec)

/-- ITS FALSE NEIGHBOUR: 'it returns false'. Refute it at one input. -/
def topOnlyWrong : ChangeSpec := { name := "topOnly", fn := fun _ => fun
  | [d1, d2, d3, d4, d5, d6] => { results := [.lit (.bool false)], args := [d1, d2, d3, d4, d5, d6] }
  | _ => none }
def TopOnlyWrongFalsely : Prop := topOnlyRow.holds Tryz.pinned (OpenSpec.ofChange topOnlyWrong)

/-- 'dioramatop.TopFound': WHATEVER THE INPUT: true; the input reads as it did. -/
def topFoundSpec : ChangeSpec := { name := "topFound", fn := fun _ => fun
  | [d1, d2, d3, d4, d5] => { results := [.lit (.bool true)], args := [d1, d2, d3, d4, d5] }
  | _ => none }
def topFoundRow : OpenClaim := { program := "ytgcoidbaoigkeaagreatdoor", sum := "edc5cd63e28d278a8552b8397bb9c6e1985923f0b322695d05422295766c0706", func := "diorama/dioramatop.TopFound", spec := "topFound", inPlace := ["internal/reflectlite.ValueOf", "internal/reflectlite.Swapper", "(internal/reflectlite.Value).Len"], unfollowed := true, recurses := true, named := ["diorama/frustum.world"], apart := false, laid := [("diorama/frustum.world", laid_diorama_frustum_world)] }
def TopFoundSaid : Prop := topFoundRow.holds Tryz.pinned (OpenSpec.ofChange topFoundSpec)

/-- ITS FALSE NEIGHBOUR: 'it returns false'. Refute it at one input. -/
def topFoundWrong : ChangeSpec := { name := "topFound", fn := fun _ => fun
  | [d1, d2, d3, d4, d5] => { results := [.lit (.bool false)], args := [d1, d2, d3, d4, d5] }
  | _ => none }
def TopFoundWrongFalsely : Prop := topFoundRow.holds Tryz.pinned (OpenSpec.ofChange topFoundWrong)

/-- 'dioramalaw18.FindFinds': WHATEVER THE INPUT: true; the input reads as it did. -/
def findFindsSpec : ChangeSpec := { name := "findFinds", fn := fun _ => fun
  | [d1, d2, d3, d4] => { results := [.lit (.bool true)], args := [d1, d2, d3, d4] }
  | _ => none }
def findFindsRow : OpenClaim := { program := "ytgcoidbaoigkeaagreatdoor", sum := "edc5cd63e28d278a8552b8397bb9c6e1985923f0b322695d05422295766c0706", func := "diorama/dioramalaw18.FindFinds", spec := "findFinds", unfollowed := true, recurses := true, named := ["diorama/frustum.world"], apart := false, laid := [("diorama/frustum.world", laid_diorama_frustum_world)] }
def FindFindsSaid : Prop := findFindsRow.holds Tryz.pinned (OpenSpec.ofChange findFindsSpec)

/-- ITS FALSE NEIGHBOUR: 'it returns false'. Refute it at one input. -/
def findFindsWrong : ChangeSpec := { name := "findFinds", fn := fun _ => fun
  | [d1, d2, d3, d4] => { results := [.lit (.bool false)], args := [d1, d2, d3, d4] }
  | _ => none }
def FindFindsWrongFalsely : Prop := findFindsRow.holds Tryz.pinned (OpenSpec.ofChange findFindsWrong)

/- THE SECOND FORM. 'bulk': how many values and letters a reading holds, each counted each time it is reached (what is shared counts as often as it is met; a slice's spare places count too). A statement '..UptoSaid' is the law's where the arguments, and the package variables that the reading takes, are together of bulk at most 1048576: NARROWER than '..Said'. Prove '..Said' where nothing that the law and all that it calls make is longer than what came in: it says more and counts as full. Else prove '..UptoSaid'. A law counts once. -/
mutual
def uptoBulk {H : Type} : DataW H → Nat
  | .lit (.string bytes) => bytes.length + 1
  | .lit _ => 1
  | .nil => 1
  | .ptr d => uptoBulk d + 1
  | .slice elems spare => uptoBulkAll elems + uptoBulkAll spare + 1
  | .agg parts => uptoBulkAll parts + 1
  | .iface _ d => uptoBulk d + 1
  | .map entries => uptoBulkEntries entries + 1
  | .held _ => 1
def uptoBulkAll {H : Type} : List (DataW H) → Nat
  | [] => 0
  | d :: r => uptoBulk d + uptoBulkAll r
def uptoBulkEntries {H : Type} : List (Lit × DataW H) → Nat
  | [] => 0
  | x :: r => uptoBulkEntry x + uptoBulkEntries r
def uptoBulkEntry {H : Type} : Lit × DataW H → Nat
  | (.string bytes, d) => bytes.length + uptoBulk d + 1
  | (_, d) => uptoBulk d + 1
 end
def uptoSmall : (H : Type) → List (DataW H) → Bool := fun _ ds => decide (uptoBulkAll ds ≤ 1048576)
def OpenSpec.upto (s : _root_.Go.ChangeSpec) : _root_.Go.OpenSpec := { _root_.Go.OpenSpec.ofChange s with cond := some uptoSmall }

/-- 'dioramatop.TopOnly', WHERE WHAT IT READS IS OF BULK AT MOST 1048576: true; the input reads as it did. -/
def topOnlyUptoRow : OpenClaim := { program := "ytgcoidbaoigkeaagreatdoor", sum := "edc5cd63e28d278a8552b8397bb9c6e1985923f0b322695d05422295766c0706", func := "diorama/dioramatop.TopOnly", spec := "topOnly", unfollowed := true, recurses := true, named := ["diorama/frustum.world"], apart := false, laid := [("diorama/frustum.world", laid_diorama_frustum_world)], narrowed := true }
def TopOnlyUptoSaid : Prop := topOnlyUptoRow.holds Tryz.pinned (OpenSpec.upto topOnlySpec)

/-- 'dioramatop.TopFound', WHERE WHAT IT READS IS OF BULK AT MOST 1048576: true; the input reads as it did. -/
def topFoundUptoRow : OpenClaim := { program := "ytgcoidbaoigkeaagreatdoor", sum := "edc5cd63e28d278a8552b8397bb9c6e1985923f0b322695d05422295766c0706", func := "diorama/dioramatop.TopFound", spec := "topFound", inPlace := ["internal/reflectlite.ValueOf", "internal/reflectlite.Swapper", "(internal/reflectlite.Value).Len"], unfollowed := true, recurses := true, named := ["diorama/frustum.world"], apart := false, laid := [("diorama/frustum.world", laid_diorama_frustum_world)], narrowed := true }
def TopFoundUptoSaid : Prop := topFoundUptoRow.holds Tryz.pinned (OpenSpec.upto topFoundSpec)

/-- 'dioramalaw18.FindFinds', WHERE WHAT IT READS IS OF BULK AT MOST 1048576: true; the input reads as it did. -/
def findFindsUptoRow : OpenClaim := { program := "ytgcoidbaoigkeaagreatdoor", sum := "edc5cd63e28d278a8552b8397bb9c6e1985923f0b322695d05422295766c0706", func := "diorama/dioramalaw18.FindFinds", spec := "findFinds", unfollowed := true, recurses := true, named := ["diorama/frustum.world"], apart := false, laid := [("diorama/frustum.world", laid_diorama_frustum_world)], narrowed := true }
def FindFindsUptoSaid : Prop := findFindsUptoRow.holds Tryz.pinned (OpenSpec.upto findFindsSpec)

end Rows
end Go.Proofs.YtgcoidbaoigkeaaGreatDoor
