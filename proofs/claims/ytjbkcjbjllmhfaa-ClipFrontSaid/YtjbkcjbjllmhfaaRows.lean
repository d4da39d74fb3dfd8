/-
  No cell of these rows narrows 'for every input' (looked for: loops, veiled, ifaces, maps, wideKeys, modest, calm, conditions, laid).
  DERIVED. THE GIVEN ROWS OF THIS SEAT. 11 by the template 'for every input the law returns true; each argument reads behind the call as it read before'; 0 by the template 'total and deterministic' (their statements: YtjbkcjbjllmhfaaTotals.lean).
  GIVEN WITH THE SEED: the statements are not yours to turn. If you find one false, say at which input.
  Laid BY PROGRAM, IN A SANDBOX (cutbox-rows.mjs): the forced cells as the released guide's own fill.sh prints them over the translation f8afbcb1226f5e81… (all of the seat's roots in one cut). By AI agents, Wed Nov 11 2026. No macro, syntax, notation, axiom, sorry.
-/
import Derived.Test.YtjbkcjbjllmhfaaChecked
import GoSem.Claim
import GoSem.ClaimJoined
import GoSem.ClaimMapViews
import Derived.JoinedTies
import Derived.KernelRfl
namespace Go.Proofs.Ytjbkcjbjllmhfaa
/- THE CELL 'sum', in the pinned program and in every row, IS THE sha256 OF THE DUMP (.gsa) THAT YtjbkcjbjllmhfaaProg.lean LOADS. Nothing in Lean hashes anything: it is a label: what it is worth is what the hold of that sum in a sandbox is worth. -/
noncomputable def Try.pinned : Pinned := { name := "ytjbkcjbjllmhfaa", sum := "f8afbcb1226f5e813ed36579b0aad594dc5157476aa436d4743b21d24b6f63ad", checked := Try.checked }
namespace Rows
def none {H : Type} : Left H := { results := [], args := [] }

/-- 'dioramalaw19.ClipRounds': WHATEVER THE INPUT: true; the input reads as it did. -/
def clipRoundsSpec : ChangeSpec := { name := "clipRounds", fn := fun _ => fun
  | [d1, d2, d3] => { results := [.lit (.bool true)], args := [d1, d2, d3] }
  | _ => none }
def clipRoundsRow : OpenClaim := { program := "ytjbkcjbjllmhfaa", sum := "f8afbcb1226f5e813ed36579b0aad594dc5157476aa436d4743b21d24b6f63ad", func := "diorama/dioramalaw19.ClipRounds", spec := "clipRounds", unfollowed := true, recurses := true, apart := false }
def ClipRoundsSaid : Prop := clipRoundsRow.holds Try.pinned (OpenSpec.ofChange clipRoundsSpec)

/-- ITS FALSE NEIGHBOUR: 'it returns false'. Refute it at one input. -/
def clipRoundsWrong : ChangeSpec := { name := "clipRounds", fn := fun _ => fun
  | [d1, d2, d3] => { results := [.lit (.bool false)], args := [d1, d2, d3] }
  | _ => none }
def ClipRoundsWrongFalsely : Prop := clipRoundsRow.holds Try.pinned (OpenSpec.ofChange clipRoundsWrong)

/-- 'dioramalaw03.BoxTells': WHATEVER THE INPUT: true; the input reads as it did. -/
def boxTellsSpec : ChangeSpec := { name := "boxTells", fn := fun _ => fun
  | [d1, d2, d3] => { results := [.lit (.bool true)], args := [d1, d2, d3] }
  | _ => none }
def boxTellsRow : OpenClaim := { program := "ytjbkcjbjllmhfaa", sum := "f8afbcb1226f5e813ed36579b0aad594dc5157476aa436d4743b21d24b6f63ad", func := "diorama/dioramalaw03.BoxTells", spec := "boxTells", unfollowed := true, recurses := true, apart := false }
def BoxTellsSaid : Prop := boxTellsRow.holds Try.pinned (OpenSpec.ofChange boxTellsSpec)

/-- ITS FALSE NEIGHBOUR: 'it returns false'. Refute it at one input. -/
def boxTellsWrong : ChangeSpec := { name := "boxTells", fn := fun _ => fun
  | [d1, d2, d3] => { results := [.lit (.bool false)], args := [d1, d2, d3] }
  | _ => none }
def BoxTellsWrongFalsely : Prop := boxTellsRow.holds Try.pinned (OpenSpec.ofChange boxTellsWrong)

/-- 'dioramalaw03.BoxLeast': WHATEVER THE INPUT: true; the input reads as it did. -/
def boxLeastSpec : ChangeSpec := { name := "boxLeast", fn := fun _ => fun
  | [d1, d2, d3, d4] => { results := [.lit (.bool true)], args := [d1, d2, d3, d4] }
  | _ => none }
def boxLeastRow : OpenClaim := { program := "ytjbkcjbjllmhfaa", sum := "f8afbcb1226f5e813ed36579b0aad594dc5157476aa436d4743b21d24b6f63ad", func := "diorama/dioramalaw03.BoxLeast", spec := "boxLeast", unfollowed := true, recurses := true, apart := false }
def BoxLeastSaid : Prop := boxLeastRow.holds Try.pinned (OpenSpec.ofChange boxLeastSpec)

/-- ITS FALSE NEIGHBOUR: 'it returns false'. Refute it at one input. -/
def boxLeastWrong : ChangeSpec := { name := "boxLeast", fn := fun _ => fun
  | [d1, d2, d3, d4] => { results := [.lit (.bool false)], args := [d1, d2, d3, d4] }
  | _ => none }
def BoxLeastWrongFalsely : Prop := boxLeastRow.holds Try.pinned (OpenSpec.ofChange boxLeastWrong)

/-- 'dioramalaw19.ClipNames': WHATEVER THE INPUT: true; the input reads as it did. -/
def clipNamesSpec : ChangeSpec := { name := "clipNames", fn := fun _ => fun
  | [] => { results := [.lit (.bool true)], args := [] }
  | _ => none }
def clipNamesRow : OpenClaim := { program := "ytjbkcjbjllmhfaa", sum := "f8afbcb1226f5e813ed36579b0aad594dc5157476aa436d4743b21d24b6f63ad", func := "diorama/dioramalaw19.ClipNames", spec := "clipNames", unfollowed := true, recurses := true, apart := false }
def ClipNamesSaid : Prop := clipNamesRow.holds Try.pinned (OpenSpec.ofChange clipNamesSpec)

/-- ITS FALSE NEIGHBOUR: 'it returns false'. Refute it at one input. -/
def clipNamesWrong : ChangeSpec := { name := "clipNames", fn := fun _ => fun
  | [] => { results := [.lit (.bool false)], args := [] }
  | _ => none }
def ClipNamesWrongFalsely : Prop := clipNamesRow.holds Try.pinned (OpenSpec.ofChange clipNamesWrong)

/-- 'dioramalaw19.ClipCuts': WHATEVER THE INPUT: true; the input reads as it did. -/
def clipCutsSpec : ChangeSpec := { name := "clipCuts", fn := fun _ => fun
  | [d1, d2] => { results := [.lit (.bool true)], args := [d1, d2] }
  | _ => none }
def clipCutsRow : OpenClaim := { program := "ytjbkcjbjllmhfaa", sum := "f8afbcb1226f5e813ed36579b0aad594dc5157476aa436d4743b21d24b6f63ad", func := "diorama/dioramalaw19.ClipCuts", spec := "clipCuts", unfollowed := true, recurses := true, apart := false }
def ClipCutsSaid : Prop := clipCutsRow.holds Try.pinned (OpenSpec.ofChange clipCutsSpec)

/-- ITS FALSE NEIGHBOUR: 'it returns false'. Refute it at one input. -/
def clipCutsWrong : ChangeSpec := { name := "clipCuts", fn := fun _ => fun
  | [d1, d2] => { results := [.lit (.bool false)], args := [d1, d2] }
  | _ => none }
def ClipCutsWrongFalsely : Prop := clipCutsRow.holds Try.pinned (OpenSpec.ofChange clipCutsWrong)

/-- 'dioramalaw19.ClipFront': WHATEVER THE INPUT: true; the input reads as it did. -/
def clipFrontSpec : ChangeSpec := { name := "clipFront", fn := fun _ => fun
  | [d1, d2] => { results := [.lit (.bool true)], args := [d1, d2] }
  | _ => none }
def clipFrontRow : OpenClaim := { program := "ytjbkcjbjllmhfaa", sum := "f8afbcb1226f5e813ed36579b0aad594dc5157476aa436d4743b21d24b6f63ad", func := "diorama/dioramalaw19.ClipFront", spec := "clipFront", unfollowed := true, recurses := true, apart := false }
def ClipFrontSaid : Prop := clipFrontRow.holds Try.pinned (OpenSpec.ofChange clipFrontSpec)

/-- ITS FALSE NEIGHBOUR: 'it returns false'. Refute it at one input. -/
def clipFrontWrong : ChangeSpec := { name := "clipFront", fn := fun _ => fun
  | [d1, d2] => { results := [.lit (.bool false)], args := [d1, d2] }
  | _ => none }
def ClipFrontWrongFalsely : Prop := clipFrontRow.holds Try.pinned (OpenSpec.ofChange clipFrontWrong)

/-- 'dioramalaw19.ClipShares': WHATEVER THE INPUT: true; the input reads as it did. -/
def clipSharesSpec : ChangeSpec := { name := "clipShares", fn := fun _ => fun
  | [d1, d2, d3, d4, d5] => { results := [.lit (.bool true)], args := [d1, d2, d3, d4, d5] }
  | _ => none }
def clipSharesRow : OpenClaim := { program := "ytjbkcjbjllmhfaa", sum := "f8afbcb1226f5e813ed36579b0aad594dc5157476aa436d4743b21d24b6f63ad", func := "diorama/dioramalaw19.ClipShares", spec := "clipShares", unfollowed := true, recurses := true, apart := false }
def ClipSharesSaid : Prop := clipSharesRow.holds Try.pinned (OpenSpec.ofChange clipSharesSpec)

/-- ITS FALSE NEIGHBOUR: 'it returns false'. Refute it at one input. -/
def clipSharesWrong : ChangeSpec := { name := "clipShares", fn := fun _ => fun
  | [d1, d2, d3, d4, d5] => { results := [.lit (.bool false)], args := [d1, d2, d3, d4, d5] }
  | _ => none }
def ClipSharesWrongFalsely : Prop := clipSharesRow.holds Try.pinned (OpenSpec.ofChange clipSharesWrong)

/-- 'dioramalaw03.BoxTurns': WHATEVER THE INPUT: true; the input reads as it did. -/
def boxTurnsSpec : ChangeSpec := { name := "boxTurns", fn := fun _ => fun
  | [d1, d2] => { results := [.lit (.bool true)], args := [d1, d2] }
  | _ => none }
def boxTurnsRow : OpenClaim := { program := "ytjbkcjbjllmhfaa", sum := "f8afbcb1226f5e813ed36579b0aad594dc5157476aa436d4743b21d24b6f63ad", func := "diorama/dioramalaw03.BoxTurns", spec := "boxTurns", unfollowed := true, recurses := true, apart := false }
def BoxTurnsSaid : Prop := boxTurnsRow.holds Try.pinned (OpenSpec.ofChange boxTurnsSpec)

/-- ITS FALSE NEIGHBOUR: 'it returns false'. Refute it at one input. -/
def boxTurnsWrong : ChangeSpec := { name := "boxTurns", fn := fun _ => fun
  | [d1, d2] => { results := [.lit (.bool false)], args := [d1, d2] }
  | _ => none }
def BoxTurnsWrongFalsely : Prop := boxTurnsRow.holds Try.pinned (OpenSpec.ofChange boxTurnsWrong)

/-- 'dioramalaw03.BoxNames': WHATEVER THE INPUT: true; the input reads as it did. -/
def boxNamesSpec : ChangeSpec := { name := "boxNames", fn := fun _ => fun
  | [] => { results := [.lit (.bool true)], args := [] }
  | _ => none }
def boxNamesRow : OpenClaim := { program := "ytjbkcjbjllmhfaa", sum := "f8afbcb1226f5e813ed36579b0aad594dc5157476aa436d4743b21d24b6f63ad", func := "diorama/dioramalaw03.BoxNames", spec := "boxNames", unfollowed := true, recurses := true, apart := false }
def BoxNamesSaid : Prop := boxNamesRow.holds Try.pinned (OpenSpec.ofChange boxNamesSpec)

/-- ITS FALSE NEIGHBOUR: 'it returns false'. Refute it at one input. -/
def boxNamesWrong : ChangeSpec := { name := "boxNames", fn := fun _ => fun
  | [] => { results := [.lit (.bool false)], args := [] }
  | _ => none }
def BoxNamesWrongFalsely : Prop := boxNamesRow.holds Try.pinned (OpenSpec.ofChange boxNamesWrong)

/-- 'dioramalaw03.BoxCorners': WHATEVER THE INPUT: true; the input reads as it did. -/
def boxCornersSpec : ChangeSpec := { name := "boxCorners", fn := fun _ => fun
  | [d1, d2] => { results := [.lit (.bool true)], args := [d1, d2] }
  | _ => none }
def boxCornersRow : OpenClaim := { program := "ytjbkcjbjllmhfaa", sum := "f8afbcb1226f5e813ed36579b0aad594dc5157476aa436d4743b21d24b6f63ad", func := "diorama/dioramalaw03.BoxCorners", spec := "boxCorners", unfollowed := true, recurses := true, apart := false }
def BoxCornersSaid : Prop := boxCornersRow.holds Try.pinned (OpenSpec.ofChange boxCornersSpec)

/-- ITS FALSE NEIGHBOUR: 'it returns false'. Refute it at one input. -/
def boxCornersWrong : ChangeSpec := { name := "boxCorners", fn := fun _ => fun
  | [d1, d2] => { results := [.lit (.bool false)], args := [d1, d2] }
  | _ => none }
def BoxCornersWrongFalsely : Prop := boxCornersRow.holds Try.pinned (OpenSpec.ofChange boxCornersWrong)

/-- 'dioramalaw03.BoxHolds': WHATEVER THE INPUT: true; the input reads as it did. -/
def boxHoldsSpec : ChangeSpec := { name := "boxHolds", fn := fun _ => fun
  | [d1, d2, d3, d4] => { results := [.lit (.bool true)], args := [d1, d2, d3, d4] }
  | _ => none }
def boxHoldsRow : OpenClaim := { program := "ytjbkcjbjllmhfaa", sum := "f8afbcb1226f5e813ed36579b0aad594dc5157476aa436d4743b21d24b6f63ad", func := "diorama/dioramalaw03.BoxHolds", spec := "boxHolds", unfollowed := true, recurses := true, apart := false }
def BoxHoldsSaid : Prop := boxHoldsRow.holds Try.pinned (OpenSpec.ofChange boxHoldsSpec)

/-- ITS FALSE NEIGHBOUR: 'it returns false'. Refute it at one input. -/
def boxHoldsWrong : ChangeSpec := { name := "boxHolds", fn := fun _ => fun
  | [d1, d2, d3, d4] => { results := [.lit (.bool false)], args := [d1, d2, d3, d4] }
  | _ => none }
def BoxHoldsWrongFalsely : Prop := boxHoldsRow.holds Try.pinned (OpenSpec.ofChange boxHoldsWrong)

/- THE SECOND FORM. 'bulk': how many values and letters a reading holds, each counted each time it is reached (what is shared counts as often as it is met; a slice's spare places count too). A statement '..UptoSaid' is the law's where the arguments, and the package variables that the reading takes, are together of bulk at most 1048576: NARROWER than '..Said'. Prove '..Said' where nothing that the law and all that it calls make is longer than what came in: it says more and counts as full. Else prove '..UptoSaid'. A law counts once. -/
mutual
def uptoBulk {H : Type} : DataW H → Nat
  | .lit (.string bytes) => bytes.length + 1
  | .lit _ => 1
  | .nil => 1
  | .ptr d => uptoBulk d + 1
  | .slice elems spare => uptoBulkAll elems + uptoBulkAll spare + 1
  | .agg parts => uptoBulkAll parts + 1
  | .iface _ d => uptoBulk d + 1
  | .map entries => uptoBulkEntries entries + 1
  | .held _ => 1
def uptoBulkAll {H : Type} : List (DataW H) → Nat
  | [] => 0
  | d :: r => uptoBulk d + uptoBulkAll r
def uptoBulkEntries {H : Type} : List (Lit × DataW H) → Nat
  | [] => 0
  | x :: r => uptoBulkEntry x + uptoBulkEntries r
def uptoBulkEntry {H : Type} : Lit × DataW H → Nat
  | (.string bytes, d) => bytes.length + uptoBulk d + 1
  | (_, d) => uptoBulk d + 1
 end
def uptoSmall : (H : Type) → List (DataW H) → Bool := fun _ ds => decide (uptoBulkAll ds ≤ 1048576)
def OpenSpec.upto (s : _root_.Go.ChangeSpec) : _root_.Go.OpenSpec := { _root_.Go.OpenSpec.ofChange s with cond := some uptoSmall }

/-- 'dioramalaw19.ClipRounds', WHERE WHAT IT READS IS OF BULK AT MOST 1048576: true; the input reads as it did. -/
def clipRoundsUptoRow : OpenClaim := { program := "ytjbkcjbjllmhfaa", sum := "f8afbcb1226f5e813ed36579b0aad594dc5157476aa436d4743b21d24b6f63ad", func := "diorama/dioramalaw19.ClipRounds", spec := "clipRounds", unfollowed := true, recurses := true, apart := false, narrowed := true }
def ClipRoundsUptoSaid : Prop := clipRoundsUptoRow.holds Try.pinned (OpenSpec.upto clipRoundsSpec)

/-- 'dioramalaw03.BoxTells', WHERE WHAT IT READS IS OF BULK AT MOST 1048576: true; the input reads as it did. -/
def boxTellsUptoRow : OpenClaim := { program := "ytjbkcjbjllmhfaa", sum := "f8afbcb1226f5e813ed36579b0aad594dc5157476aa436d4743b21d24b6f63ad", func := "diorama/dioramalaw03.BoxTells", spec := "boxTells", unfollowed := true, recurses := true, apart := false, narrowed := true }
def BoxTellsUptoSaid : Prop := boxTellsUptoRow.holds Try.pinned (OpenSpec.upto boxTellsSpec)

/-- 'dioramalaw03.BoxLeast', WHERE WHAT IT READS IS OF BULK AT MOST 1048576: true; the input reads as it did. -/
def boxLeastUptoRow : OpenClaim := { program := "ytjbkcjbjllmhfaa", sum := "f8afbcb1226f5e813ed36579b0aad594dc5157476aa436d4743b21d24b6f63ad", func := "diorama/dioramalaw03.BoxLeast", spec := "boxLeast", unfollowed := true, recurses := true, apart := false, narrowed := true }
def BoxLeastUptoSaid : Prop := boxLeastUptoRow.holds Try.pinned (OpenSpec.upto boxLeastSpec)

/-- 'dioramalaw19.ClipNames', WHERE WHAT IT READS IS OF BULK AT MOST 1048576: true; the input reads as it did. -/
def clipNamesUptoRow : OpenClaim := { program := "ytjbkcjbjllmhfaa", sum := "f8afbcb1226f5e813ed36579b0aad594dc5157476aa436d4743b21d24b6f63ad", func := "diorama/dioramalaw19.ClipNames", spec := "clipNames", unfollowed := true, recurses := true, apart := false, narrowed := true }
def ClipNamesUptoSaid : Prop := clipNamesUptoRow.holds Try.pinned (OpenSpec.upto clipNamesSpec)

/-- 'dioramalaw19.ClipCuts', WHERE WHAT IT READS IS OF BULK AT MOST 1048576: true; the input reads as it did. -/
def clipCutsUptoRow : OpenClaim := { program := "ytjbkcjbjllmhfaa", sum := "f8afbcb1226f5e813ed36579b0aad594dc5157476aa436d4743b21d24b6f63ad", func := "diorama/dioramalaw19.ClipCuts", spec := "clipCuts", unfollowed := true, recurses := true, apart := false, narrowed := true }
def ClipCutsUptoSaid : Prop := clipCutsUptoRow.holds Try.pinned (OpenSpec.upto clipCutsSpec)

/-- 'dioramalaw19.ClipFront', WHERE WHAT IT READS IS OF BULK AT MOST 1048576: true; the input reads as it did. -/
def clipFrontUptoRow : OpenClaim := { program := "ytjbkcjbjllmhfaa", sum := "f8afbcb1226f5e813ed36579b0aad594dc5157476aa436d4743b21d24b6f63ad", func := "diorama/dioramalaw19.ClipFront", spec := "clipFront", unfollowed := true, recurses := true, apart := false, narrowed := true }
def ClipFrontUptoSaid : Prop := clipFrontUptoRow.holds Try.pinned (OpenSpec.upto clipFrontSpec)

/-- 'dioramalaw19.ClipShares', WHERE WHAT IT READS IS OF BULK AT MOST 1048576: true; the input reads as it did. -/
def clipSharesUptoRow : OpenClaim := { program := "ytjbkcjbjllmhfaa", sum := "f8afbcb1226f5e813ed36579b0aad594dc5157476aa436d4743b21d24b6f63ad", func := "diorama/dioramalaw19.ClipShares", spec := "clipShares", unfollowed := true, recurses := true, apart := false, narrowed := true }
def ClipSharesUptoSaid : Prop := clipSharesUptoRow.holds Try.pinned (OpenSpec.upto clipSharesSpec)

/-- 'dioramalaw03.BoxTurns', WHERE WHAT IT READS IS OF BULK AT MOST 1048576: true; the input reads as it did. -/
def boxTurnsUptoRow : OpenClaim := { program := "ytjbkcjbjllmhfaa", sum := "f8afbcb1226f5e813ed36579b0aad594dc5157476aa436d4743b21d24b6f63ad", func := "diorama/dioramalaw03.BoxTurns", spec := "boxTurns", unfollowed := true, recurses := true, apart := false, narrowed := true }
def BoxTurnsUptoSaid : Prop := boxTurnsUptoRow.holds Try.pinned (OpenSpec.upto boxTurnsSpec)

/-- 'dioramalaw03.BoxNames', WHERE WHAT IT READS IS OF BULK AT MOST 1048576: true; the input reads as it did. -/
def boxNamesUptoRow : OpenClaim := { program := "ytjbkcjbjllmhfaa", sum := "f8afbcb1226f5e813ed36579b0aad594dc5157476aa436d4743b21d24b6f63ad", func := "diorama/dioramalaw03.BoxNames", spec := "boxNames", unfollowed := true, recurses := true, apart := false, narrowed := true }
def BoxNamesUptoSaid : Prop := boxNamesUptoRow.holds Try.pinned (OpenSpec.upto boxNamesSpec)

/-- 'dioramalaw03.BoxCorners', WHERE WHAT IT READS IS OF BULK AT MOST 1048576: true; the input reads as it did. -/
def boxCornersUptoRow : OpenClaim := { program := "ytjbkcjbjllmhfaa", sum := "f8afbcb1226f5e813ed36579b0aad594dc5157476aa436d4743b21d24b6f63ad", func := "diorama/dioramalaw03.BoxCorners", spec := "boxCorners", unfollowed := true, recurses := true, apart := false, narrowed := true }
def BoxCornersUptoSaid : Prop := boxCornersUptoRow.holds Try.pinned (OpenSpec.upto boxCornersSpec)

/-- 'dioramalaw03.BoxHolds', WHERE WHAT IT READS IS OF BULK AT MOST 1048576: true; the input reads as it did. -/
def boxHoldsUptoRow : OpenClaim := { program := "ytjbkcjbjllmhfaa", sum := "f8afbcb1226f5e813ed36579b0aad594dc5157476aa436d4743b21d24b6f63ad", func := "diorama/dioramalaw03.BoxHolds", spec := "boxHolds", unfollowed := true, recurses := true, apart := false, narrowed := true }
def BoxHoldsUptoSaid : Prop := boxHoldsUptoRow.holds Try.pinned (OpenSpec.upto boxHoldsSpec)

end Rows
end Go.Proofs.Ytjbkcjbjllmhfaa
