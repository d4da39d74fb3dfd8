/-
  DERIVED. GIVEN WITH THE SEED: THE CARDS: each row of YtgcoidbaoigkeaaDoorRows.lean that lists a variable, with what it lists TIED to the program's text (the seventh form; the later family's looks); each row that meets fmt, with fmt's text TOLD by the authors' own Lean function (tested against real Go, not proved from fmt's source: count such statements apart). THE CARD IS WHAT COUNTS. Prove the row's statement (the work); the ties are given (YtgcoidbaoigkeaaDoorTie.lean); close each card by the builder's one call (the guide's Derived/Test/ToyasCard.lean, 'card_holds'). Laid BY PROGRAM, IN A SANDBOX (cutbox-door.mjs). By AI agents, Wed Nov 11 2026. No macro, syntax, notation, axiom, sorry.
-/
import Derived.Test.YtgcoidbaoigkeaaDoorRows
import GoSem.ClaimSeven
namespace Go.Proofs.YtgcoidbaoigkeaaDoor
namespace Rows

/-- THE TIED CARD OF 'dioramalaw18.FindEach'. -/
def findEachCard : Claim7 := { stood := { row := findEachRow, standIns := [], harness := (true, "fe355b6850b09c8680bea1fba1471605f80c9d0ddaacf1e1bebf28d32f60e03f"), looks := false }, kinds := [], alts := [], laidByText := true, laidKinds := [.data], laidTests := true, laidLooks := .later }
def FindEachCardSaid : Prop := Claim7.holds Tryd.pinned (.plain (OpenSpec.ofChange findEachSpec)) findEachCard

/-- THE TIED CARD OF 'dioramalaw18.FindSame'. -/
def findSameCard : Claim7 := { stood := { row := findSameRow, standIns := [], harness := (true, "fe355b6850b09c8680bea1fba1471605f80c9d0ddaacf1e1bebf28d32f60e03f"), looks := false }, kinds := [], alts := [], laidByText := true, laidKinds := [.data], laidTests := true, laidLooks := .later }
def FindSameCardSaid : Prop := Claim7.holds Tryd.pinned (.plain (OpenSpec.ofChange findSameSpec)) findSameCard

/-- THE TIED CARD OF 'dioramalaw18.FindFew'. -/
def findFewCard : Claim7 := { stood := { row := findFewRow, standIns := [], harness := (true, "fe355b6850b09c8680bea1fba1471605f80c9d0ddaacf1e1bebf28d32f60e03f"), looks := false }, kinds := [], alts := [], laidByText := true, laidKinds := [.data], laidTests := true, laidLooks := .later }
def FindFewCardSaid : Prop := Claim7.holds Tryd.pinned (.plain (OpenSpec.ofChange findFewSpec)) findFewCard

/-- THE TIED CARD OF 'dioramalaw18.FindNames'. -/
def findNamesCard : Claim7 := { stood := { row := findNamesRow, standIns := [], harness := (true, "fe355b6850b09c8680bea1fba1471605f80c9d0ddaacf1e1bebf28d32f60e03f"), looks := false }, kinds := [], alts := [], laidByText := true, laidKinds := [.data], laidTests := true, laidLooks := .later }
def FindNamesCardSaid : Prop := Claim7.holds Tryd.pinned (.plain (OpenSpec.ofChange findNamesSpec)) findNamesCard

/-- THE SECOND FORM's CARD OF 'dioramalaw18.FindEach'. -/
def findEachUptoCard : Claim7 := { stood := { row := findEachUptoRow, standIns := [], harness := (true, "fe355b6850b09c8680bea1fba1471605f80c9d0ddaacf1e1bebf28d32f60e03f"), looks := false }, kinds := [], alts := [], laidByText := true, laidKinds := [.data], laidTests := true, laidLooks := .later }
def FindEachUptoCardSaid : Prop := Claim7.holds Tryd.pinned (.plain (OpenSpec.upto findEachSpec)) findEachUptoCard

/-- THE SECOND FORM's CARD OF 'dioramalaw18.FindSame'. -/
def findSameUptoCard : Claim7 := { stood := { row := findSameUptoRow, standIns := [], harness := (true, "fe355b6850b09c8680bea1fba1471605f80c9d0ddaacf1e1bebf28d32f60e03f"), looks := false }, kinds := [], alts := [], laidByText := true, laidKinds := [.data], laidTests := true, laidLooks := .later }
def FindSameUptoCardSaid : Prop := Claim7.holds Tryd.pinned (.plain (OpenSpec.upto findSameSpec)) findSameUptoCard

/-- THE SECOND FORM's CARD OF 'dioramalaw18.FindFew'. -/
def findFewUptoCard : Claim7 := { stood := { row := findFewUptoRow, standIns := [], harness := (true, "fe355b6850b09c8680bea1fba1471605f80c9d0ddaacf1e1bebf28d32f60e03f"), looks := false }, kinds := [], alts := [], laidByText := true, laidKinds := [.data], laidTests := true, laidLooks := .later }
def FindFewUptoCardSaid : Prop := Claim7.holds Tryd.pinned (.plain (OpenSpec.upto findFewSpec)) findFewUptoCard

/-- THE SECOND FORM's CARD OF 'dioramalaw18.FindNames'. -/
def findNamesUptoCard : Claim7 := { stood := { row := findNamesUptoRow, standIns := [], harness := (true, "fe355b6850b09c8680bea1fba1471605f80c9d0ddaacf1e1bebf28d32f60e03f"), looks := false }, kinds := [], alts := [], laidByText := true, laidKinds := [.data], laidTests := true, laidLooks := .later }
def FindNamesUptoCardSaid : Prop := Claim7.holds Tryd.pinned (.plain (OpenSpec.upto findNamesSpec)) findNamesUptoCard
end Rows
end Go.Proofs.YtgcoidbaoigkeaaDoor
