/-
  DERIVED. GIVEN WITH THE SEED: THE CARDS: each row of YtlcccpeelombbaaGreatDoorRows.lean that lists a variable, with what it lists TIED to the program's text (the seventh form; the later family's looks); each row that meets fmt, with fmt's text TOLD by the authors' own Lean function (tested against real Go, not proved from fmt's source: count such statements apart). THE CARD IS WHAT COUNTS. Prove the row's statement (the work); the ties are given (YtlcccpeelombbaaGreatDoorTie.lean); close each card by the builder's one call (the guide's Derived/Test/ToyasCard.lean, 'card_holds'). Laid BY PROGRAM, IN A SANDBOX (cutbox-door.mjs). By AI agents, Wed Nov 11 2026. No macro, syntax, notation, axiom, sorry.
-/
import Derived.Test.YtlcccpeelombbaaGreatDoorRows
import GoSem.ClaimSeven
namespace Go.Proofs.YtlcccpeelombbaaGreatDoor
namespace Rows

/-- THE TIED CARD OF 'hangfirelaw06.DestructFalls'. -/
def destructFallsCard : Claim7 := { stood := { row := destructFallsRow, standIns := [], harness := (true, "45daf5a72e1417c27e7b53707ddfea4b3edd868a729209c8431d788981e9d69c"), looks := true }, kinds := [], alts := [], laidByText := true, laidKinds := [.sentinel, .sentinel], laidTests := true, laidLooks := .later }
def DestructFallsCardSaid : Prop := Claim7.holds Tryz.pinned (.plain (OpenSpec.ofChange destructFallsSpec)) destructFallsCard

/-- THE TIED CARD OF 'hangfirelaw06.DestructDecides'. -/
def destructDecidesCard : Claim7 := { stood := { row := destructDecidesRow, standIns := [], harness := (true, "45daf5a72e1417c27e7b53707ddfea4b3edd868a729209c8431d788981e9d69c"), looks := true }, kinds := [], alts := [], laidByText := true, laidKinds := [.sentinel, .sentinel], laidTests := true, laidLooks := .later }
def DestructDecidesCardSaid : Prop := Claim7.holds Tryz.pinned (.plain (OpenSpec.ofChange destructDecidesSpec)) destructDecidesCard

/-- THE TIED CARD OF 'hangfirelaw06.DestructLooks'. -/
def destructLooksCard : Claim7 := { stood := { row := destructLooksRow, standIns := [], harness := (true, "45daf5a72e1417c27e7b53707ddfea4b3edd868a729209c8431d788981e9d69c"), looks := true }, kinds := [], alts := [], laidByText := true, laidKinds := [.sentinel, .sentinel], laidTests := true, laidLooks := .later }
def DestructLooksCardSaid : Prop := Claim7.holds Tryz.pinned (.plain (OpenSpec.ofChange destructLooksSpec)) destructLooksCard

/-- THE TIED CARD OF 'hangfirelaw06.DestructSides'. -/
def destructSidesCard : Claim7 := { stood := { row := destructSidesRow, standIns := [], harness := (true, "45daf5a72e1417c27e7b53707ddfea4b3edd868a729209c8431d788981e9d69c"), looks := true }, kinds := [], alts := [], laidByText := true, laidKinds := [.sentinel, .sentinel], laidTests := true, laidLooks := .later }
def DestructSidesCardSaid : Prop := Claim7.holds Tryz.pinned (.plain (OpenSpec.ofChange destructSidesSpec)) destructSidesCard

/-- THE TIED CARD OF 'hangfirelaw06.DestructKnown'. -/
def destructKnownCard : Claim7 := { stood := { row := destructKnownRow, standIns := [], harness := (true, "45daf5a72e1417c27e7b53707ddfea4b3edd868a729209c8431d788981e9d69c"), looks := true }, kinds := [], alts := [], laidByText := true, laidKinds := [.sentinel, .sentinel], laidTests := true, laidLooks := .later }
def DestructKnownCardSaid : Prop := Claim7.holds Tryz.pinned (.plain (OpenSpec.ofChange destructKnownSpec)) destructKnownCard

/-- THE SECOND FORM's CARD OF 'hangfirelaw06.DestructFalls'. -/
def destructFallsUptoCard : Claim7 := { stood := { row := destructFallsUptoRow, standIns := [], harness := (true, "45daf5a72e1417c27e7b53707ddfea4b3edd868a729209c8431d788981e9d69c"), looks := true }, kinds := [], alts := [], laidByText := true, laidKinds := [.sentinel, .sentinel], laidTests := true, laidLooks := .later }
def DestructFallsUptoCardSaid : Prop := Claim7.holds Tryz.pinned (.plain (OpenSpec.upto destructFallsSpec)) destructFallsUptoCard

/-- THE SECOND FORM's CARD OF 'hangfirelaw06.DestructDecides'. -/
def destructDecidesUptoCard : Claim7 := { stood := { row := destructDecidesUptoRow, standIns := [], harness := (true, "45daf5a72e1417c27e7b53707ddfea4b3edd868a729209c8431d788981e9d69c"), looks := true }, kinds := [], alts := [], laidByText := true, laidKinds := [.sentinel, .sentinel], laidTests := true, laidLooks := .later }
def DestructDecidesUptoCardSaid : Prop := Claim7.holds Tryz.pinned (.plain (OpenSpec.upto destructDecidesSpec)) destructDecidesUptoCard

/-- THE SECOND FORM's CARD OF 'hangfirelaw06.DestructLooks'. -/
def destructLooksUptoCard : Claim7 := { stood := { row := destructLooksUptoRow, standIns := [], harness := (true, "45daf5a72e1417c27e7b53707ddfea4b3edd868a729209c8431d788981e9d69c"), looks := true }, kinds := [], alts := [], laidByText := true, laidKinds := [.sentinel, .sentinel], laidTests := true, laidLooks := .later }
def DestructLooksUptoCardSaid : Prop := Claim7.holds Tryz.pinned (.plain (OpenSpec.upto destructLooksSpec)) destructLooksUptoCard

/-- THE SECOND FORM's CARD OF 'hangfirelaw06.DestructSides'. -/
def destructSidesUptoCard : Claim7 := { stood := { row := destructSidesUptoRow, standIns := [], harness := (true, "45daf5a72e1417c27e7b53707ddfea4b3edd868a729209c8431d788981e9d69c"), looks := true }, kinds := [], alts := [], laidByText := true, laidKinds := [.sentinel, .sentinel], laidTests := true, laidLooks := .later }
def DestructSidesUptoCardSaid : Prop := Claim7.holds Tryz.pinned (.plain (OpenSpec.upto destructSidesSpec)) destructSidesUptoCard

/-- THE SECOND FORM's CARD OF 'hangfirelaw06.DestructKnown'. -/
def destructKnownUptoCard : Claim7 := { stood := { row := destructKnownUptoRow, standIns := [], harness := (true, "45daf5a72e1417c27e7b53707ddfea4b3edd868a729209c8431d788981e9d69c"), looks := true }, kinds := [], alts := [], laidByText := true, laidKinds := [.sentinel, .sentinel], laidTests := true, laidLooks := .later }
def DestructKnownUptoCardSaid : Prop := Claim7.holds Tryz.pinned (.plain (OpenSpec.upto destructKnownSpec)) destructKnownUptoCard
end Rows
end Go.Proofs.YtlcccpeelombbaaGreatDoor
