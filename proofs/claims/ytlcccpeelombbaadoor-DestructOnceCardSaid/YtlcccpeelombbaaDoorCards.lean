/-
  DERIVED. GIVEN WITH THE SEED: THE CARDS: each row of YtlcccpeelombbaaDoorRows.lean that lists a variable, with what it lists TIED to the program's text (the seventh form; the later family's looks); each row that meets fmt, with fmt's text TOLD by the authors' own Lean function (tested against real Go, not proved from fmt's source: count such statements apart). THE CARD IS WHAT COUNTS. Prove the row's statement (the work); the ties are given (YtlcccpeelombbaaDoorTie.lean); close each card by the builder's one call (the guide's Derived/Test/ToyasCard.lean, 'card_holds'). Laid BY PROGRAM, IN A SANDBOX (cutbox-door.mjs). By AI agents, Wed Nov 11 2026. No macro, syntax, notation, axiom, sorry.
-/
import Derived.Test.YtlcccpeelombbaaDoorRows
import GoSem.ClaimSeven
namespace Go.Proofs.YtlcccpeelombbaaDoor
namespace Rows

/-- THE TIED CARD OF 'hangfirelaw06.DestructChecks'. -/
def destructChecksCard : Claim7 := { stood := { row := destructChecksRow, standIns := [], harness := (true, "48260a2a5b0eb76944b9e5d1a832da4a10ca173671f6f4086f1a5fa8eb5135c9"), looks := true }, kinds := [], alts := [], laidByText := true, laidKinds := [.sentinel, .sentinel], laidTests := true, laidLooks := .later }
def DestructChecksCardSaid : Prop := Claim7.holds Tryd.pinned (.plain (OpenSpec.ofChange destructChecksSpec)) destructChecksCard

/-- THE TIED CARD OF 'hangfirelaw06.DestructTrue'. -/
def destructTrueCard : Claim7 := { stood := { row := destructTrueRow, standIns := [], harness := (true, "48260a2a5b0eb76944b9e5d1a832da4a10ca173671f6f4086f1a5fa8eb5135c9"), looks := true }, kinds := [], alts := [], laidByText := true, laidKinds := [.sentinel, .sentinel], laidTests := true, laidLooks := .later }
def DestructTrueCardSaid : Prop := Claim7.holds Tryd.pinned (.plain (OpenSpec.ofChange destructTrueSpec)) destructTrueCard

/-- THE TIED CARD OF 'hangfirelaw06.DestructWider'. -/
def destructWiderCard : Claim7 := { stood := { row := destructWiderRow, standIns := [], harness := (true, "48260a2a5b0eb76944b9e5d1a832da4a10ca173671f6f4086f1a5fa8eb5135c9"), looks := true }, kinds := [], alts := [], laidByText := true, laidKinds := [.sentinel, .sentinel], laidTests := true, laidLooks := .later }
def DestructWiderCardSaid : Prop := Claim7.holds Tryd.pinned (.plain (OpenSpec.ofChange destructWiderSpec)) destructWiderCard

/-- THE TIED CARD OF 'hangfirelaw06.DestructRoom'. -/
def destructRoomCard : Claim7 := { stood := { row := destructRoomRow, standIns := [], harness := (true, "48260a2a5b0eb76944b9e5d1a832da4a10ca173671f6f4086f1a5fa8eb5135c9"), looks := true }, kinds := [], alts := [], laidByText := true, laidKinds := [.sentinel, .sentinel], laidTests := true, laidLooks := .later }
def DestructRoomCardSaid : Prop := Claim7.holds Tryd.pinned (.plain (OpenSpec.ofChange destructRoomSpec)) destructRoomCard

/-- THE TIED CARD OF 'hangfirelaw06.DestructOnce'. -/
def destructOnceCard : Claim7 := { stood := { row := destructOnceRow, standIns := [], harness := (true, "48260a2a5b0eb76944b9e5d1a832da4a10ca173671f6f4086f1a5fa8eb5135c9"), looks := true }, kinds := [], alts := [], laidByText := true, laidKinds := [.sentinel, .sentinel], laidTests := true, laidLooks := .later }
def DestructOnceCardSaid : Prop := Claim7.holds Tryd.pinned (.plain (OpenSpec.ofChange destructOnceSpec)) destructOnceCard

/-- THE TIED CARD OF 'hangfirelaw06.DestructStays'. -/
def destructStaysCard : Claim7 := { stood := { row := destructStaysRow, standIns := [], harness := (true, "48260a2a5b0eb76944b9e5d1a832da4a10ca173671f6f4086f1a5fa8eb5135c9"), looks := true }, kinds := [], alts := [], laidByText := true, laidKinds := [.sentinel, .sentinel], laidTests := true, laidLooks := .later }
def DestructStaysCardSaid : Prop := Claim7.holds Tryd.pinned (.plain (OpenSpec.ofChange destructStaysSpec)) destructStaysCard

/-- THE TIED CARD OF 'hangfirelaw06.DestructMeans'. -/
def destructMeansCard : Claim7 := { stood := { row := destructMeansRow, standIns := [], harness := (true, "48260a2a5b0eb76944b9e5d1a832da4a10ca173671f6f4086f1a5fa8eb5135c9"), looks := true }, kinds := [], alts := [], laidByText := true, laidKinds := [.sentinel, .sentinel], laidTests := true, laidLooks := .later }
def DestructMeansCardSaid : Prop := Claim7.holds Tryd.pinned (.plain (OpenSpec.ofChange destructMeansSpec)) destructMeansCard

/-- THE SECOND FORM's CARD OF 'hangfirelaw06.DestructChecks'. -/
def destructChecksUptoCard : Claim7 := { stood := { row := destructChecksUptoRow, standIns := [], harness := (true, "48260a2a5b0eb76944b9e5d1a832da4a10ca173671f6f4086f1a5fa8eb5135c9"), looks := true }, kinds := [], alts := [], laidByText := true, laidKinds := [.sentinel, .sentinel], laidTests := true, laidLooks := .later }
def DestructChecksUptoCardSaid : Prop := Claim7.holds Tryd.pinned (.plain (OpenSpec.upto destructChecksSpec)) destructChecksUptoCard

/-- THE SECOND FORM's CARD OF 'hangfirelaw06.DestructTrue'. -/
def destructTrueUptoCard : Claim7 := { stood := { row := destructTrueUptoRow, standIns := [], harness := (true, "48260a2a5b0eb76944b9e5d1a832da4a10ca173671f6f4086f1a5fa8eb5135c9"), looks := true }, kinds := [], alts := [], laidByText := true, laidKinds := [.sentinel, .sentinel], laidTests := true, laidLooks := .later }
def DestructTrueUptoCardSaid : Prop := Claim7.holds Tryd.pinned (.plain (OpenSpec.upto destructTrueSpec)) destructTrueUptoCard

/-- THE SECOND FORM's CARD OF 'hangfirelaw06.DestructWider'. -/
def destructWiderUptoCard : Claim7 := { stood := { row := destructWiderUptoRow, standIns := [], harness := (true, "48260a2a5b0eb76944b9e5d1a832da4a10ca173671f6f4086f1a5fa8eb5135c9"), looks := true }, kinds := [], alts := [], laidByText := true, laidKinds := [.sentinel, .sentinel], laidTests := true, laidLooks := .later }
def DestructWiderUptoCardSaid : Prop := Claim7.holds Tryd.pinned (.plain (OpenSpec.upto destructWiderSpec)) destructWiderUptoCard

/-- THE SECOND FORM's CARD OF 'hangfirelaw06.DestructRoom'. -/
def destructRoomUptoCard : Claim7 := { stood := { row := destructRoomUptoRow, standIns := [], harness := (true, "48260a2a5b0eb76944b9e5d1a832da4a10ca173671f6f4086f1a5fa8eb5135c9"), looks := true }, kinds := [], alts := [], laidByText := true, laidKinds := [.sentinel, .sentinel], laidTests := true, laidLooks := .later }
def DestructRoomUptoCardSaid : Prop := Claim7.holds Tryd.pinned (.plain (OpenSpec.upto destructRoomSpec)) destructRoomUptoCard

/-- THE SECOND FORM's CARD OF 'hangfirelaw06.DestructOnce'. -/
def destructOnceUptoCard : Claim7 := { stood := { row := destructOnceUptoRow, standIns := [], harness := (true, "48260a2a5b0eb76944b9e5d1a832da4a10ca173671f6f4086f1a5fa8eb5135c9"), looks := true }, kinds := [], alts := [], laidByText := true, laidKinds := [.sentinel, .sentinel], laidTests := true, laidLooks := .later }
def DestructOnceUptoCardSaid : Prop := Claim7.holds Tryd.pinned (.plain (OpenSpec.upto destructOnceSpec)) destructOnceUptoCard

/-- THE SECOND FORM's CARD OF 'hangfirelaw06.DestructStays'. -/
def destructStaysUptoCard : Claim7 := { stood := { row := destructStaysUptoRow, standIns := [], harness := (true, "48260a2a5b0eb76944b9e5d1a832da4a10ca173671f6f4086f1a5fa8eb5135c9"), looks := true }, kinds := [], alts := [], laidByText := true, laidKinds := [.sentinel, .sentinel], laidTests := true, laidLooks := .later }
def DestructStaysUptoCardSaid : Prop := Claim7.holds Tryd.pinned (.plain (OpenSpec.upto destructStaysSpec)) destructStaysUptoCard

/-- THE SECOND FORM's CARD OF 'hangfirelaw06.DestructMeans'. -/
def destructMeansUptoCard : Claim7 := { stood := { row := destructMeansUptoRow, standIns := [], harness := (true, "48260a2a5b0eb76944b9e5d1a832da4a10ca173671f6f4086f1a5fa8eb5135c9"), looks := true }, kinds := [], alts := [], laidByText := true, laidKinds := [.sentinel, .sentinel], laidTests := true, laidLooks := .later }
def DestructMeansUptoCardSaid : Prop := Claim7.holds Tryd.pinned (.plain (OpenSpec.upto destructMeansSpec)) destructMeansUptoCard
end Rows
end Go.Proofs.YtlcccpeelombbaaDoor
