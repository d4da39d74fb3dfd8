/-
  DERIVED. GIVEN WITH THE SEED: THE CARDS: each row of YtgcoidbaoigkeaaGreatDoorRows.lean that lists a variable, with what it lists TIED to the program's text (the seventh form; the later family's looks); each row that meets fmt, with fmt's text TOLD by the authors' own Lean function (tested against real Go, not proved from fmt's source: count such statements apart). THE CARD IS WHAT COUNTS. Prove the row's statement (the work); the ties are given (YtgcoidbaoigkeaaGreatDoorTie.lean); close each card by the builder's one call (the guide's Derived/Test/ToyasCard.lean, 'card_holds'). Laid BY PROGRAM, IN A SANDBOX (cutbox-door.mjs). By AI agents, Wed Nov 11 2026. No macro, syntax, notation, axiom, sorry.
-/
import Derived.Test.YtgcoidbaoigkeaaGreatDoorRows
import GoSem.ClaimSeven
namespace Go.Proofs.YtgcoidbaoigkeaaGreatDoor
namespace Rows

/-- THE TIED CARD OF 'dioramatop.TopOnly'. -/
def topOnlyCard : Claim7 := { stood := { row := topOnlyRow, standIns := [], harness := (true, "b3924336b0480d2658ba0abf4705aba63770927102c8bae2dcedd6927e28cde3"), looks := false }, kinds := [], alts := [], laidByText := true, laidKinds := [.data], laidTests := true, laidLooks := .later }
def TopOnlyCardSaid : Prop := Claim7.holds Tryz.pinned (.plain (OpenSpec.ofChange topOnlySpec)) topOnlyCard

/-- THE TIED CARD OF 'dioramatop.TopFound'. -/
def topFoundCard : Claim7 := { stood := { row := topFoundRow, standIns := [], harness := (true, "b3924336b0480d2658ba0abf4705aba63770927102c8bae2dcedd6927e28cde3"), looks := false }, kinds := [], alts := [], laidByText := true, laidKinds := [.data], laidTests := true, laidLooks := .later }
def TopFoundCardSaid : Prop := Claim7.holds Tryz.pinned (.plain (OpenSpec.ofChange topFoundSpec)) topFoundCard

/-- THE TIED CARD OF 'dioramalaw18.FindFinds'. -/
def findFindsCard : Claim7 := { stood := { row := findFindsRow, standIns := [], harness := (true, "b3924336b0480d2658ba0abf4705aba63770927102c8bae2dcedd6927e28cde3"), looks := false }, kinds := [], alts := [], laidByText := true, laidKinds := [.data], laidTests := true, laidLooks := .later }
def FindFindsCardSaid : Prop := Claim7.holds Tryz.pinned (.plain (OpenSpec.ofChange findFindsSpec)) findFindsCard

/-- THE SECOND FORM's CARD OF 'dioramatop.TopOnly'. -/
def topOnlyUptoCard : Claim7 := { stood := { row := topOnlyUptoRow, standIns := [], harness := (true, "b3924336b0480d2658ba0abf4705aba63770927102c8bae2dcedd6927e28cde3"), looks := false }, kinds := [], alts := [], laidByText := true, laidKinds := [.data], laidTests := true, laidLooks := .later }
def TopOnlyUptoCardSaid : Prop := Claim7.holds Tryz.pinned (.plain (OpenSpec.upto topOnlySpec)) topOnlyUptoCard

/-- THE SECOND FORM's CARD OF 'dioramatop.TopFound'. -/
def topFoundUptoCard : Claim7 := { stood := { row := topFoundUptoRow, standIns := [], harness := (true, "b3924336b0480d2658ba0abf4705aba63770927102c8bae2dcedd6927e28cde3"), looks := false }, kinds := [], alts := [], laidByText := true, laidKinds := [.data], laidTests := true, laidLooks := .later }
def TopFoundUptoCardSaid : Prop := Claim7.holds Tryz.pinned (.plain (OpenSpec.upto topFoundSpec)) topFoundUptoCard

/-- THE SECOND FORM's CARD OF 'dioramalaw18.FindFinds'. -/
def findFindsUptoCard : Claim7 := { stood := { row := findFindsUptoRow, standIns := [], harness := (true, "b3924336b0480d2658ba0abf4705aba63770927102c8bae2dcedd6927e28cde3"), looks := false }, kinds := [], alts := [], laidByText := true, laidKinds := [.data], laidTests := true, laidLooks := .later }
def FindFindsUptoCardSaid : Prop := Claim7.holds Tryz.pinned (.plain (OpenSpec.upto findFindsSpec)) findFindsUptoCard
end Rows
end Go.Proofs.YtgcoidbaoigkeaaGreatDoor
