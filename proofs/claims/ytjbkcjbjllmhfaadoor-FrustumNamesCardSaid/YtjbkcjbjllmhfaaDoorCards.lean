/-
  DERIVED. GIVEN WITH THE SEED: THE CARDS: each row of YtjbkcjbjllmhfaaDoorRows.lean that lists a variable, with what it lists TIED to the program's text (the seventh form; the later family's looks); each row that meets fmt, with fmt's text TOLD by the authors' own Lean function (tested against real Go, not proved from fmt's source: count such statements apart). THE CARD IS WHAT COUNTS. Prove the row's statement (the work); the ties are given (YtjbkcjbjllmhfaaDoorTie.lean); close each card by the builder's one call (the guide's Derived/Test/ToyasCard.lean, 'card_holds'). Laid BY PROGRAM, IN A SANDBOX (cutbox-door.mjs). By AI agents, Wed Nov 11 2026. No macro, syntax, notation, axiom, sorry.
-/
import Derived.Test.YtjbkcjbjllmhfaaDoorRows
import GoSem.ClaimSeven
namespace Go.Proofs.YtjbkcjbjllmhfaaDoor
namespace Rows

/-- THE TIED CARD OF 'dioramalaw17.FrustumNames'. -/
def frustumNamesCard : Claim7 := { stood := { row := frustumNamesRow, standIns := [], harness := (true, "ba5fbdf844d12a9b064d108c88059d5ef4c8b7d3707af7476f83711cd4242958"), looks := false }, kinds := [], alts := [], laidByText := true, laidKinds := [.data], laidTests := true, laidLooks := .later }
def FrustumNamesCardSaid : Prop := Claim7.holds Tryd.pinned (.plain (OpenSpec.ofChange frustumNamesSpec)) frustumNamesCard

/-- THE TIED CARD OF 'dioramalaw17.FrustumShades'. -/
def frustumShadesCard : Claim7 := { stood := { row := frustumShadesRow, standIns := [], harness := (true, "ba5fbdf844d12a9b064d108c88059d5ef4c8b7d3707af7476f83711cd4242958"), looks := false }, kinds := [], alts := [], laidByText := true, laidKinds := [.data], laidTests := true, laidLooks := .later }
def FrustumShadesCardSaid : Prop := Claim7.holds Tryd.pinned (.plain (OpenSpec.ofChange frustumShadesSpec)) frustumShadesCard

/-- THE TIED CARD OF 'dioramalaw17.FrustumGrows'. -/
def frustumGrowsCard : Claim7 := { stood := { row := frustumGrowsRow, standIns := [], harness := (true, "ba5fbdf844d12a9b064d108c88059d5ef4c8b7d3707af7476f83711cd4242958"), looks := false }, kinds := [], alts := [], laidByText := true, laidKinds := [.data], laidTests := true, laidLooks := .later }
def FrustumGrowsCardSaid : Prop := Claim7.holds Tryd.pinned (.plain (OpenSpec.ofChange frustumGrowsSpec)) frustumGrowsCard

/-- THE TIED CARD OF 'dioramalaw17.FrustumWindows'. -/
def frustumWindowsCard : Claim7 := { stood := { row := frustumWindowsRow, standIns := [], harness := (true, "ba5fbdf844d12a9b064d108c88059d5ef4c8b7d3707af7476f83711cd4242958"), looks := false }, kinds := [], alts := [], laidByText := true, laidKinds := [.data], laidTests := true, laidLooks := .later }
def FrustumWindowsCardSaid : Prop := Claim7.holds Tryd.pinned (.plain (OpenSpec.ofChange frustumWindowsSpec)) frustumWindowsCard

/-- THE TIED CARD OF 'dioramalaw17.FrustumHolds'. -/
def frustumHoldsCard : Claim7 := { stood := { row := frustumHoldsRow, standIns := [], harness := (true, "ba5fbdf844d12a9b064d108c88059d5ef4c8b7d3707af7476f83711cd4242958"), looks := false }, kinds := [], alts := [], laidByText := true, laidKinds := [.data], laidTests := true, laidLooks := .later }
def FrustumHoldsCardSaid : Prop := Claim7.holds Tryd.pinned (.plain (OpenSpec.ofChange frustumHoldsSpec)) frustumHoldsCard

/-- THE TIED CARD OF 'dioramalaw17.FrustumView'. -/
def frustumViewCard : Claim7 := { stood := { row := frustumViewRow, standIns := [], harness := (true, "ba5fbdf844d12a9b064d108c88059d5ef4c8b7d3707af7476f83711cd4242958"), looks := false }, kinds := [], alts := [], laidByText := true, laidKinds := [.data], laidTests := true, laidLooks := .later }
def FrustumViewCardSaid : Prop := Claim7.holds Tryd.pinned (.plain (OpenSpec.ofChange frustumViewSpec)) frustumViewCard

/-- THE SECOND FORM's CARD OF 'dioramalaw17.FrustumNames'. -/
def frustumNamesUptoCard : Claim7 := { stood := { row := frustumNamesUptoRow, standIns := [], harness := (true, "ba5fbdf844d12a9b064d108c88059d5ef4c8b7d3707af7476f83711cd4242958"), looks := false }, kinds := [], alts := [], laidByText := true, laidKinds := [.data], laidTests := true, laidLooks := .later }
def FrustumNamesUptoCardSaid : Prop := Claim7.holds Tryd.pinned (.plain (OpenSpec.upto frustumNamesSpec)) frustumNamesUptoCard

/-- THE SECOND FORM's CARD OF 'dioramalaw17.FrustumShades'. -/
def frustumShadesUptoCard : Claim7 := { stood := { row := frustumShadesUptoRow, standIns := [], harness := (true, "ba5fbdf844d12a9b064d108c88059d5ef4c8b7d3707af7476f83711cd4242958"), looks := false }, kinds := [], alts := [], laidByText := true, laidKinds := [.data], laidTests := true, laidLooks := .later }
def FrustumShadesUptoCardSaid : Prop := Claim7.holds Tryd.pinned (.plain (OpenSpec.upto frustumShadesSpec)) frustumShadesUptoCard

/-- THE SECOND FORM's CARD OF 'dioramalaw17.FrustumGrows'. -/
def frustumGrowsUptoCard : Claim7 := { stood := { row := frustumGrowsUptoRow, standIns := [], harness := (true, "ba5fbdf844d12a9b064d108c88059d5ef4c8b7d3707af7476f83711cd4242958"), looks := false }, kinds := [], alts := [], laidByText := true, laidKinds := [.data], laidTests := true, laidLooks := .later }
def FrustumGrowsUptoCardSaid : Prop := Claim7.holds Tryd.pinned (.plain (OpenSpec.upto frustumGrowsSpec)) frustumGrowsUptoCard

/-- THE SECOND FORM's CARD OF 'dioramalaw17.FrustumWindows'. -/
def frustumWindowsUptoCard : Claim7 := { stood := { row := frustumWindowsUptoRow, standIns := [], harness := (true, "ba5fbdf844d12a9b064d108c88059d5ef4c8b7d3707af7476f83711cd4242958"), looks := false }, kinds := [], alts := [], laidByText := true, laidKinds := [.data], laidTests := true, laidLooks := .later }
def FrustumWindowsUptoCardSaid : Prop := Claim7.holds Tryd.pinned (.plain (OpenSpec.upto frustumWindowsSpec)) frustumWindowsUptoCard

/-- THE SECOND FORM's CARD OF 'dioramalaw17.FrustumHolds'. -/
def frustumHoldsUptoCard : Claim7 := { stood := { row := frustumHoldsUptoRow, standIns := [], harness := (true, "ba5fbdf844d12a9b064d108c88059d5ef4c8b7d3707af7476f83711cd4242958"), looks := false }, kinds := [], alts := [], laidByText := true, laidKinds := [.data], laidTests := true, laidLooks := .later }
def FrustumHoldsUptoCardSaid : Prop := Claim7.holds Tryd.pinned (.plain (OpenSpec.upto frustumHoldsSpec)) frustumHoldsUptoCard

/-- THE SECOND FORM's CARD OF 'dioramalaw17.FrustumView'. -/
def frustumViewUptoCard : Claim7 := { stood := { row := frustumViewUptoRow, standIns := [], harness := (true, "ba5fbdf844d12a9b064d108c88059d5ef4c8b7d3707af7476f83711cd4242958"), looks := false }, kinds := [], alts := [], laidByText := true, laidKinds := [.data], laidTests := true, laidLooks := .later }
def FrustumViewUptoCardSaid : Prop := Claim7.holds Tryd.pinned (.plain (OpenSpec.upto frustumViewSpec)) frustumViewUptoCard
end Rows
end Go.Proofs.YtjbkcjbjllmhfaaDoor
