/-
  NARROWER THAN 'FOR EVERY INPUT', by the rows' own cells (each row's printed sentence says how): FindEach: laid · FindSame: laid · FindFew: laid · FindNames: laid.
  DERIVED. THE GIVEN ROWS OF THIS SEAT. 4 by the template 'for every input the law returns true; each argument reads behind the call as it read before'; 0 by the template 'total and deterministic' (their statements: YtgcoidbaoigkeaaDoorTotals.lean).
  GIVEN WITH THE SEED: the statements are not yours to turn. If you find one false, say at which input.
  Laid BY PROGRAM, IN A SANDBOX (cutbox-rows.mjs): the forced cells as the released guide's own fill.sh prints them over the translation 5c34384e92e3f077… (all of the seat's roots in one cut). By AI agents, Wed Nov 11 2026. No macro, syntax, notation, axiom, sorry.
-/
import Derived.Test.YtgcoidbaoigkeaaDoorChecked
import GoSem.Claim
import GoSem.ClaimJoined
import GoSem.ClaimMapViews
import Derived.JoinedTies
import Derived.KernelRfl
namespace Go.Proofs.YtgcoidbaoigkeaaDoor
/- THE CELL 'sum', in the pinned program and in every row, IS THE sha256 OF THE DUMP (.gsa) THAT YtgcoidbaoigkeaaDoorProg.lean LOADS. Nothing in Lean hashes anything: it is a label: what it is worth is what the hold of that sum in a sandbox is worth. -/
noncomputable def Tryd.pinned : Pinned := { name := "ytgcoidbaoigkeaadoor", sum := "5c34384e92e3f077f2142b9088ac3f6381a78c443e8fcc39220397325a8c8859", checked := Tryd.checked }
namespace Rows
def none {H : Type} : Left H := { results := [], args := [] }

/- WHAT THE LISTED PACKAGE-LEVEL VARIABLES READ AS WHEN THE CALL BEGINS. Each datum BY PROGRAM (the guide's laid-datum.mjs) off the statement by which the dump's own 'gosem.cut.vars' lays the variable. In a bare row this is a premise. The card (YtgcoidbaoigkeaaDoorCards.lean) ties it to the program's text. -/
def laid_diorama_frustum_world {H : Type} : DataW H := .agg [.agg [.lit (.int .i64 (-4096)), .lit (.int .i64 (-4096)), .lit (.int .i64 (-4096))], .agg [.lit (.int .i64 4096), .lit (.int .i64 4096), .lit (.int .i64 4096)]]

/-- 'dioramalaw18.FindEach': WHATEVER THE INPUT: true; the input reads as it did. -/
def findEachSpec : ChangeSpec := { name := "findEach", fn := fun _ => fun
  | [d1, d2, d3] => { results := [.lit (.bool true)], args := [d1, d2, d3] }
  | _ => none }
def findEachRow : OpenClaim := { program := "ytgcoidbaoigkeaadoor", sum := "5c34384e92e3f077f2142b9088ac3f6381a78c443e8fcc39220397325a8c8859", func := "diorama/dioramalaw18.FindEach", spec := "findEach", unfollowed := true, recurses := true, named := ["diorama/frustum.world"], apart := false, laid := [("diorama/frustum.world", laid_diorama_frustum_world)] }
def FindEachSaid : Prop := findEachRow.holds Tryd.pinned (OpenSpec.ofChange findEachSpec)

/-- ITS FALSE NEIGHBOUR: 'it returns false'. Refute it at one input. -/
def findEachWrong : ChangeSpec := { name := "findEach", fn := fun _ => fun
  | [d1, d2, d3] => { results := [.lit (.bool false)], args := [d1, d2, d3] }
  | _ => none }
def FindEachWrongFalsely : Prop := findEachRow.holds Tryd.pinned (OpenSpec.ofChange findEachWrong)

/-- 'dioramalaw18.FindSame': WHATEVER THE INPUT: true; the input reads as it did. -/
def findSameSpec : ChangeSpec := { name := "findSame", fn := fun _ => fun
  | [d1, d2, d3, d4] => { results := [.lit (.bool true)], args := [d1, d2, d3, d4] }
  | _ => none }
def findSameRow : OpenClaim := { program := "ytgcoidbaoigkeaadoor", sum := "5c34384e92e3f077f2142b9088ac3f6381a78c443e8fcc39220397325a8c8859", func := "diorama/dioramalaw18.FindSame", spec := "findSame", unfollowed := true, recurses := true, named := ["diorama/frustum.world"], apart := false, laid := [("diorama/frustum.world", laid_diorama_frustum_world)] }
def FindSameSaid : Prop := findSameRow.holds Tryd.pinned (OpenSpec.ofChange findSameSpec)

/-- ITS FALSE NEIGHBOUR: 'it returns false'. Refute it at one input. -/
def findSameWrong : ChangeSpec := { name := "findSame", fn := fun _ => fun
  | [d1, d2, d3, d4] => { results := [.lit (.bool false)], args := [d1, d2, d3, d4] }
  | _ => none }
def FindSameWrongFalsely : Prop := findSameRow.holds Tryd.pinned (OpenSpec.ofChange findSameWrong)

/-- 'dioramalaw18.FindFew': WHATEVER THE INPUT: true; the input reads as it did. -/
def findFewSpec : ChangeSpec := { name := "findFew", fn := fun _ => fun
  | [d1, d2, d3, d4, d5] => { results := [.lit (.bool true)], args := [d1, d2, d3, d4, d5] }
  | _ => none }
def findFewRow : OpenClaim := { program := "ytgcoidbaoigkeaadoor", sum := "5c34384e92e3f077f2142b9088ac3f6381a78c443e8fcc39220397325a8c8859", func := "diorama/dioramalaw18.FindFew", spec := "findFew", unfollowed := true, recurses := true, named := ["diorama/frustum.world"], apart := false, laid := [("diorama/frustum.world", laid_diorama_frustum_world)] }
def FindFewSaid : Prop := findFewRow.holds Tryd.pinned (OpenSpec.ofChange findFewSpec)

/-- ITS FALSE NEIGHBOUR: 'it returns false'. Refute it at one input. -/
def findFewWrong : ChangeSpec := { name := "findFew", fn := fun _ => fun
  | [d1, d2, d3, d4, d5] => { results := [.lit (.bool false)], args := [d1, d2, d3, d4, d5] }
  | _ => none }
def FindFewWrongFalsely : Prop := findFewRow.holds Tryd.pinned (OpenSpec.ofChange findFewWrong)

/-- 'dioramalaw18.FindNames': WHATEVER THE INPUT: true; the input reads as it did. -/
def findNamesSpec : ChangeSpec := { name := "findNames", fn := fun _ => fun
  | [] => { results := [.lit (.bool true)], args := [] }
  | _ => none }
def findNamesRow : OpenClaim := { program := "ytgcoidbaoigkeaadoor", sum := "5c34384e92e3f077f2142b9088ac3f6381a78c443e8fcc39220397325a8c8859", func := "diorama/dioramalaw18.FindNames", spec := "findNames", inPlace := ["internal/reflectlite.ValueOf", "internal/reflectlite.Swapper", "(internal/reflectlite.Value).Len"], unfollowed := true, recurses := true, named := ["diorama/frustum.world"], apart := false, laid := [("diorama/frustum.world", laid_diorama_frustum_world)] }
def FindNamesSaid : Prop := findNamesRow.holds Tryd.pinned (OpenSpec.ofChange findNamesSpec)

/-- ITS FALSE NEIGHBOUR: 'it returns false'. Refute it at one input. -/
def findNamesWrong : ChangeSpec := { name := "findNames", fn := fun _ => fun
  | [] => { results := [.lit (.bool false)], args := [] }
  | _ => none }
def FindNamesWrongFalsely : Prop := findNamesRow.holds Tryd.pinned (OpenSpec.ofChange findNamesWrong)

/- THE SECOND FORM. 'bulk': how many values and letters a reading holds, each counted each time it is reached (what is shared counts as often as it is met; a slice's spare places count too). A statement '..UptoSaid' is the law's where the arguments, and the package variables that the reading takes, are together of bulk at most 1048576: NARROWER than '..Said'. Prove '..Said' where nothing that the law and all that it calls make is longer than what came in: it says more and counts as full. Else prove '..UptoSaid'. A law counts once. -/
mutual
def uptoBulk {H : Type} : DataW H → Nat
  | .lit (.string bytes) => bytes.length + 1
  | .lit _ => 1
  | .nil => 1
  | .ptr d => uptoBulk d + 1
  | .slice elems spare => uptoBulkAll elems + uptoBulkAll spare + 1
  | .agg parts => uptoBulkAll parts + 1
  | .iface _ d => uptoBulk d + 1
  | .map entries => uptoBulkEntries entries + 1
  | .held _ => 1
def uptoBulkAll {H : Type} : List (DataW H) → Nat
  | [] => 0
  | d :: r => uptoBulk d + uptoBulkAll r
def uptoBulkEntries {H : Type} : List (Lit × DataW H) → Nat
  | [] => 0
  | x :: r => uptoBulkEntry x + uptoBulkEntries r
def uptoBulkEntry {H : Type} : Lit × DataW H → Nat
  | (.string bytes, d) => bytes.length + uptoBulk d + 1
  | (_, d) => uptoBulk d + 1
 end
def uptoSmall : (H : Type) → List (DataW H) → Bool := fun _ ds => decide (uptoBulkAll ds ≤ 1048576)
def OpenSpec.upto (s : _root_.Go.ChangeSpec) : _root_.Go.OpenSpec := { _root_.Go.OpenSpec.ofChange s with cond := some uptoSmall }

/-- 'dioramalaw18.FindEach', WHERE WHAT IT READS IS OF BULK AT MOST 1048576: true; the input reads as it did. -/
def findEachUptoRow : OpenClaim := { program := "ytgcoidbaoigkeaadoor", sum := "5c34384e92e3f077f2142b9088ac3f6381a78c443e8fcc39220397325a8c8859", func := "diorama/dioramalaw18.FindEach", spec := "findEach", unfollowed := true, recurses := true, named := ["diorama/frustum.world"], apart := false, laid := [("diorama/frustum.world", laid_diorama_frustum_world)], narrowed := true }
def FindEachUptoSaid : Prop := findEachUptoRow.holds Tryd.pinned (OpenSpec.upto findEachSpec)

/-- 'dioramalaw18.FindSame', WHERE WHAT IT READS IS OF BULK AT MOST 1048576: true; the input reads as it did. -/
def findSameUptoRow : OpenClaim := { program := "ytgcoidbaoigkeaadoor", sum := "5c34384e92e3f077f2142b9088ac3f6381a78c443e8fcc39220397325a8c8859", func := "diorama/dioramalaw18.FindSame", spec := "findSame", unfollowed := true, recurses := true, named := ["diorama/frustum.world"], apart := false, laid := [("diorama/frustum.world", laid_diorama_frustum_world)], narrowed := true }
def FindSameUptoSaid : Prop := findSameUptoRow.holds Tryd.pinned (OpenSpec.upto findSameSpec)

/-- 'dioramalaw18.FindFew', WHERE WHAT IT READS IS OF BULK AT MOST 1048576: true; the input reads as it did. -/
def findFewUptoRow : OpenClaim := { program := "ytgcoidbaoigkeaadoor", sum := "5c34384e92e3f077f2142b9088ac3f6381a78c443e8fcc39220397325a8c8859", func := "diorama/dioramalaw18.FindFew", spec := "findFew", unfollowed := true, recurses := true, named := ["diorama/frustum.world"], apart := false, laid := [("diorama/frustum.world", laid_diorama_frustum_world)], narrowed := true }
def FindFewUptoSaid : Prop := findFewUptoRow.holds Tryd.pinned (OpenSpec.upto findFewSpec)

/-- 'dioramalaw18.FindNames', WHERE WHAT IT READS IS OF BULK AT MOST 1048576: true; the input reads as it did. -/
def findNamesUptoRow : OpenClaim := { program := "ytgcoidbaoigkeaadoor", sum := "5c34384e92e3f077f2142b9088ac3f6381a78c443e8fcc39220397325a8c8859", func := "diorama/dioramalaw18.FindNames", spec := "findNames", inPlace := ["internal/reflectlite.ValueOf", "internal/reflectlite.Swapper", "(internal/reflectlite.Value).Len"], unfollowed := true, recurses := true, named := ["diorama/frustum.world"], apart := false, laid := [("diorama/frustum.world", laid_diorama_frustum_world)], narrowed := true }
def FindNamesUptoSaid : Prop := findNamesUptoRow.holds Tryd.pinned (OpenSpec.upto findNamesSpec)

end Rows
end Go.Proofs.YtgcoidbaoigkeaaDoor
