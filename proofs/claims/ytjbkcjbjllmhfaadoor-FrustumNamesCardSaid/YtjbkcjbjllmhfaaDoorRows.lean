/-
  NARROWER THAN 'FOR EVERY INPUT', by the rows' own cells (each row's printed sentence says how): FrustumNames: laid · FrustumShades: laid · FrustumGrows: laid · FrustumWindows: laid · FrustumHolds: laid · FrustumView: laid.
  DERIVED. THE GIVEN ROWS OF THIS SEAT. 6 by the template 'for every input the law returns true; each argument reads behind the call as it read before'; 0 by the template 'total and deterministic' (their statements: YtjbkcjbjllmhfaaDoorTotals.lean).
  GIVEN WITH THE SEED: the statements are not yours to turn. If you find one false, say at which input.
  Laid BY PROGRAM, IN A SANDBOX (cutbox-rows.mjs): the forced cells as the released guide's own fill.sh prints them over the translation 9d644dcddf1c294b… (all of the seat's roots in one cut). By AI agents, Wed Nov 11 2026. No macro, syntax, notation, axiom, sorry.
-/
import Derived.Test.YtjbkcjbjllmhfaaDoorChecked
import GoSem.Claim
import GoSem.ClaimJoined
import GoSem.ClaimMapViews
import Derived.JoinedTies
import Derived.KernelRfl
namespace Go.Proofs.YtjbkcjbjllmhfaaDoor
/- THE CELL 'sum', in the pinned program and in every row, IS THE sha256 OF THE DUMP (.gsa) THAT YtjbkcjbjllmhfaaDoorProg.lean LOADS. Nothing in Lean hashes anything: it is a label: what it is worth is what the hold of that sum in a sandbox is worth. -/
noncomputable def Tryd.pinned : Pinned := { name := "ytjbkcjbjllmhfaadoor", sum := "9d644dcddf1c294bab61368ad4dad78b0e6bbee83161864f2aab3602ae821be8", checked := Tryd.checked }
namespace Rows
def none {H : Type} : Left H := { results := [], args := [] }

/- WHAT THE LISTED PACKAGE-LEVEL VARIABLES READ AS WHEN THE CALL BEGINS. Each datum BY PROGRAM (the guide's laid-datum.mjs) off the statement by which the dump's own 'gosem.cut.vars' lays the variable. In a bare row this is a premise. The card (YtjbkcjbjllmhfaaDoorCards.lean) ties it to the program's text. -/
def laid_diorama_frustum_world {H : Type} : DataW H := .agg [.agg [.lit (.int .i64 (-4096)), .lit (.int .i64 (-4096)), .lit (.int .i64 (-4096))], .agg [.lit (.int .i64 4096), .lit (.int .i64 4096), .lit (.int .i64 4096)]]

/-- 'dioramalaw17.FrustumNames': WHATEVER THE INPUT: true; the input reads as it did. -/
def frustumNamesSpec : ChangeSpec := { name := "frustumNames", fn := fun _ => fun
  | [] => { results := [.lit (.bool true)], args := [] }
  | _ => none }
def frustumNamesRow : OpenClaim := { program := "ytjbkcjbjllmhfaadoor", sum := "9d644dcddf1c294bab61368ad4dad78b0e6bbee83161864f2aab3602ae821be8", func := "diorama/dioramalaw17.FrustumNames", spec := "frustumNames", unfollowed := true, recurses := true, named := ["diorama/frustum.world"], apart := false, laid := [("diorama/frustum.world", laid_diorama_frustum_world)] }
def FrustumNamesSaid : Prop := frustumNamesRow.holds Tryd.pinned (OpenSpec.ofChange frustumNamesSpec)

/-- ITS FALSE NEIGHBOUR: 'it returns false'. Refute it at one input. -/
def frustumNamesWrong : ChangeSpec := { name := "frustumNames", fn := fun _ => fun
  | [] => { results := [.lit (.bool false)], args := [] }
  | _ => none }
def FrustumNamesWrongFalsely : Prop := frustumNamesRow.holds Tryd.pinned (OpenSpec.ofChange frustumNamesWrong)

/-- 'dioramalaw17.FrustumShades': WHATEVER THE INPUT: true; the input reads as it did. -/
def frustumShadesSpec : ChangeSpec := { name := "frustumShades", fn := fun _ => fun
  | [d1, d2, d3] => { results := [.lit (.bool true)], args := [d1, d2, d3] }
  | _ => none }
def frustumShadesRow : OpenClaim := { program := "ytjbkcjbjllmhfaadoor", sum := "9d644dcddf1c294bab61368ad4dad78b0e6bbee83161864f2aab3602ae821be8", func := "diorama/dioramalaw17.FrustumShades", spec := "frustumShades", unfollowed := true, recurses := true, named := ["diorama/frustum.world"], apart := false, laid := [("diorama/frustum.world", laid_diorama_frustum_world)] }
def FrustumShadesSaid : Prop := frustumShadesRow.holds Tryd.pinned (OpenSpec.ofChange frustumShadesSpec)

/-- ITS FALSE NEIGHBOUR: 'it returns false'. Refute it at one input. -/
def frustumShadesWrong : ChangeSpec := { name := "frustumShades", fn := fun _ => fun
  | [d1, d2, d3] => { results := [.lit (.bool false)], args := [d1, d2, d3] }
  | _ => none }
def FrustumShadesWrongFalsely : Prop := frustumShadesRow.holds Tryd.pinned (OpenSpec.ofChange frustumShadesWrong)

/-- 'dioramalaw17.FrustumGrows': WHATEVER THE INPUT: true; the input reads as it did. -/
def frustumGrowsSpec : ChangeSpec := { name := "frustumGrows", fn := fun _ => fun
  | [d1, d2, d3, d4] => { results := [.lit (.bool true)], args := [d1, d2, d3, d4] }
  | _ => none }
def frustumGrowsRow : OpenClaim := { program := "ytjbkcjbjllmhfaadoor", sum := "9d644dcddf1c294bab61368ad4dad78b0e6bbee83161864f2aab3602ae821be8", func := "diorama/dioramalaw17.FrustumGrows", spec := "frustumGrows", unfollowed := true, recurses := true, named := ["diorama/frustum.world"], apart := false, laid := [("diorama/frustum.world", laid_diorama_frustum_world)] }
def FrustumGrowsSaid : Prop := frustumGrowsRow.holds Tryd.pinned (OpenSpec.ofChange frustumGrowsSpec)

/-- ITS FALSE NEIGHBOUR: 'it returns false'. Refute it at one input. -/
def frustumGrowsWrong : ChangeSpec := { name := "frustumGrows", fn := fun _ => fun
  | [d1, d2, d3, d4] => { results := [.lit (.bool false)], args := [d1, d2, d3, d4] }
  | _ => none }
def FrustumGrowsWrongFalsely : Prop := frustumGrowsRow.holds Tryd.pinned (OpenSpec.ofChange frustumGrowsWrong)

/-- 'dioramalaw17.FrustumWindows': WHATEVER THE INPUT: true; the input reads as it did. -/
def frustumWindowsSpec : ChangeSpec := { name := "frustumWindows", fn := fun _ => fun
  | [d1, d2, d3, d4] => { results := [.lit (.bool true)], args := [d1, d2, d3, d4] }
  | _ => none }
def frustumWindowsRow : OpenClaim := { program := "ytjbkcjbjllmhfaadoor", sum := "9d644dcddf1c294bab61368ad4dad78b0e6bbee83161864f2aab3602ae821be8", func := "diorama/dioramalaw17.FrustumWindows", spec := "frustumWindows", unfollowed := true, recurses := true, named := ["diorama/frustum.world"], apart := false, laid := [("diorama/frustum.world", laid_diorama_frustum_world)] }
def FrustumWindowsSaid : Prop := frustumWindowsRow.holds Tryd.pinned (OpenSpec.ofChange frustumWindowsSpec)

/-- ITS FALSE NEIGHBOUR: 'it returns false'. Refute it at one input. -/
def frustumWindowsWrong : ChangeSpec := { name := "frustumWindows", fn := fun _ => fun
  | [d1, d2, d3, d4] => { results := [.lit (.bool false)], args := [d1, d2, d3, d4] }
  | _ => none }
def FrustumWindowsWrongFalsely : Prop := frustumWindowsRow.holds Tryd.pinned (OpenSpec.ofChange frustumWindowsWrong)

/-- 'dioramalaw17.FrustumHolds': WHATEVER THE INPUT: true; the input reads as it did. -/
def frustumHoldsSpec : ChangeSpec := { name := "frustumHolds", fn := fun _ => fun
  | [d1, d2, d3, d4, d5, d6] => { results := [.lit (.bool true)], args := [d1, d2, d3, d4, d5, d6] }
  | _ => none }
def frustumHoldsRow : OpenClaim := { program := "ytjbkcjbjllmhfaadoor", sum := "9d644dcddf1c294bab61368ad4dad78b0e6bbee83161864f2aab3602ae821be8", func := "diorama/dioramalaw17.FrustumHolds", spec := "frustumHolds", unfollowed := true, recurses := true, named := ["diorama/frustum.world"], apart := false, laid := [("diorama/frustum.world", laid_diorama_frustum_world)] }
def FrustumHoldsSaid : Prop := frustumHoldsRow.holds Tryd.pinned (OpenSpec.ofChange frustumHoldsSpec)

/-- ITS FALSE NEIGHBOUR: 'it returns false'. Refute it at one input. -/
def frustumHoldsWrong : ChangeSpec := { name := "frustumHolds", fn := fun _ => fun
  | [d1, d2, d3, d4, d5, d6] => { results := [.lit (.bool false)], args := [d1, d2, d3, d4, d5, d6] }
  | _ => none }
def FrustumHoldsWrongFalsely : Prop := frustumHoldsRow.holds Tryd.pinned (OpenSpec.ofChange frustumHoldsWrong)

/-- 'dioramalaw17.FrustumView': WHATEVER THE INPUT: true; the input reads as it did. -/
def frustumViewSpec : ChangeSpec := { name := "frustumView", fn := fun _ => fun
  | [d1, d2, d3] => { results := [.lit (.bool true)], args := [d1, d2, d3] }
  | _ => none }
def frustumViewRow : OpenClaim := { program := "ytjbkcjbjllmhfaadoor", sum := "9d644dcddf1c294bab61368ad4dad78b0e6bbee83161864f2aab3602ae821be8", func := "diorama/dioramalaw17.FrustumView", spec := "frustumView", unfollowed := true, recurses := true, named := ["diorama/frustum.world"], apart := false, laid := [("diorama/frustum.world", laid_diorama_frustum_world)] }
def FrustumViewSaid : Prop := frustumViewRow.holds Tryd.pinned (OpenSpec.ofChange frustumViewSpec)

/-- ITS FALSE NEIGHBOUR: 'it returns false'. Refute it at one input. -/
def frustumViewWrong : ChangeSpec := { name := "frustumView", fn := fun _ => fun
  | [d1, d2, d3] => { results := [.lit (.bool false)], args := [d1, d2, d3] }
  | _ => none }
def FrustumViewWrongFalsely : Prop := frustumViewRow.holds Tryd.pinned (OpenSpec.ofChange frustumViewWrong)

/- THE SECOND FORM. 'bulk': how many values and letters a reading holds, each counted each time it is reached (what is shared counts as often as it is met; a slice's spare places count too). A statement '..UptoSaid' is the law's where the arguments, and the package variables that the reading takes, are together of bulk at most 1048576: NARROWER than '..Said'. Prove '..Said' where nothing that the law and all that it calls make is longer than what came in: it says more and counts as full. Else prove '..UptoSaid'. A law counts once. -/
mutual
def uptoBulk {H : Type} : DataW H → Nat
  | .lit (.string bytes) => bytes.length + 1
  | .lit _ => 1
  | .nil => 1
  | .ptr d => uptoBulk d + 1
  | .slice elems spare => uptoBulkAll elems + uptoBulkAll spare + 1
  | .agg parts => uptoBulkAll parts + 1
  | .iface _ d => uptoBulk d + 1
  | .map entries => uptoBulkEntries entries + 1
  | .held _ => 1
def uptoBulkAll {H : Type} : List (DataW H) → Nat
  | [] => 0
  | d :: r => uptoBulk d + uptoBulkAll r
def uptoBulkEntries {H : Type} : List (Lit × DataW H) → Nat
  | [] => 0
  | x :: r => uptoBulkEntry x + uptoBulkEntries r
def uptoBulkEntry {H : Type} : Lit × DataW H → Nat
  | (.string bytes, d) => bytes.length + uptoBulk d + 1
  | (_, d) => uptoBulk d + 1
 end
def uptoSmall : (H : Type) → List (DataW H) → Bool := fun _ ds => decide (uptoBulkAll ds ≤ 1048576)
def OpenSpec.upto (s : _root_.Go.ChangeSpec) : _root_.Go.OpenSpec := { _root_.Go.OpenSpec.ofChange s with cond := some uptoSmall }

/-- 'dioramalaw17.FrustumNames', WHERE WHAT IT READS IS OF BULK AT MOST 1048576: true; the input reads as it did. -/
def frustumNamesUptoRow : OpenClaim := { program := "ytjbkcjbjllmhfaadoor", sum := "9d644dcddf1c294bab61368ad4dad78b0e6bbee83161864f2aab3602ae821be8", func := "diorama/dioramalaw17.FrustumNames", spec := "frustumNames", unfollowed := true, recurses := true, named := ["diorama/frustum.world"], apart := false, laid := [("diorama/frustum.world", laid_diorama_frustum_world)], narrowed := true }
def FrustumNamesUptoSaid : Prop := frustumNamesUptoRow.holds Tryd.pinned (OpenSpec.upto frustumNamesSpec)

/-- 'dioramalaw17.FrustumShades', WHERE WHAT IT READS IS OF BULK AT MOST 1048576: true; the input reads as it did. -/
def frustumShadesUptoRow : OpenClaim := { program := "ytjbkcjbjllmhfaadoor", sum := "9d644dcddf1c294bab61368ad4dad78b0e6bbee83161864f2aab3602ae821be8", func := "diorama/dioramalaw17.FrustumShades", spec := "frustumShades", unfollowed := true, recurses := true, named := ["diorama/frustum.world"], apart := false, laid := [("diorama/frustum.world", laid_diorama_frustum_world)], narrowed := true }
def FrustumShadesUptoSaid : Prop := frustumShadesUptoRow.holds Tryd.pinned (OpenSpec.upto frustumShadesSpec)

/-- 'dioramalaw17.FrustumGrows', WHERE WHAT IT READS IS OF BULK AT MOST 1048576: true; the input reads as it did. -/
def frustumGrowsUptoRow : OpenClaim := { program := "ytjbkcjbjllmhfaadoor", sum := "9d644dcddf1c294bab61368ad4dad78b0e6bbee83161864f2aab3602ae821be8", func := "diorama/dioramalaw17.FrustumGrows", spec := "frustumGrows", unfollowed := true, recurses := true, named := ["diorama/frustum.world"], apart := false, laid := [("diorama/frustum.world", laid_diorama_frustum_world)], narrowed := true }
def FrustumGrowsUptoSaid : Prop := frustumGrowsUptoRow.holds Tryd.pinned (OpenSpec.upto frustumGrowsSpec)

/-- 'dioramalaw17.FrustumWindows', WHERE WHAT IT READS IS OF BULK AT MOST 1048576: true; the input reads as it did. -/
def frustumWindowsUptoRow : OpenClaim := { program := "ytjbkcjbjllmhfaadoor", sum := "9d644dcddf1c294bab61368ad4dad78b0e6bbee83161864f2aab3602ae821be8", func := "diorama/dioramalaw17.FrustumWindows", spec := "frustumWindows", unfollowed := true, recurses := true, named := ["diorama/frustum.world"], apart := false, laid := [("diorama/frustum.world", laid_diorama_frustum_world)], narrowed := true }
def FrustumWindowsUptoSaid : Prop := frustumWindowsUptoRow.holds Tryd.pinned (OpenSpec.upto frustumWindowsSpec)

/-- 'dioramalaw17.FrustumHolds', WHERE WHAT IT READS IS OF BULK AT MOST 1048576: true; the input reads as it did. -/
def frustumHoldsUptoRow : OpenClaim := { program := "ytjbkcjbjllmhfaadoor", sum := "9d644dcddf1c294bab61368ad4dad78b0e6bbee83161864f2aab3602ae821be8", func := "diorama/dioramalaw17.FrustumHolds", spec := "frustumHolds", unfollowed := true, recurses := true, named := ["diorama/frustum.world"], apart := false, laid := [("diorama/frustum.world", laid_diorama_frustum_world)], narrowed := true }
def FrustumHoldsUptoSaid : Prop := frustumHoldsUptoRow.holds Tryd.pinned (OpenSpec.upto frustumHoldsSpec)

/-- 'dioramalaw17.FrustumView', WHERE WHAT IT READS IS OF BULK AT MOST 1048576: true; the input reads as it did. -/
def frustumViewUptoRow : OpenClaim := { program := "ytjbkcjbjllmhfaadoor", sum := "9d644dcddf1c294bab61368ad4dad78b0e6bbee83161864f2aab3602ae821be8", func := "diorama/dioramalaw17.FrustumView", spec := "frustumView", unfollowed := true, recurses := true, named := ["diorama/frustum.world"], apart := false, laid := [("diorama/frustum.world", laid_diorama_frustum_world)], narrowed := true }
def FrustumViewUptoSaid : Prop := frustumViewUptoRow.holds Tryd.pinned (OpenSpec.upto frustumViewSpec)

end Rows
end Go.Proofs.YtjbkcjbjllmhfaaDoor
