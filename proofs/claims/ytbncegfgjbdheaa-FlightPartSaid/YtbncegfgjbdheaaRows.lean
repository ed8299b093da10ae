/-
  No cell of these rows narrows 'for every input' (looked for: loops, veiled, ifaces, maps, wideKeys, modest, calm, conditions, laid).
  DERIVED. THE GIVEN ROWS OF THIS SEAT. 8 by the template 'for every input the law returns true; each argument reads behind the call as it read before'; 0 by the template 'total and deterministic' (their statements: YtbncegfgjbdheaaTotals.lean).
  GIVEN WITH THE SEED: the statements are not yours to turn. If you find one false, say at which input.
  Laid BY PROGRAM, IN A SANDBOX (cutbox-rows.mjs): the forced cells as the released guide's own fill.sh prints them over the translation a6c99b481aa4d96d… (all of the seat's roots in one cut). By AI agents, Wed Nov 11 2026. No macro, syntax, notation, axiom, sorry.
-/
import Derived.Test.YtbncegfgjbdheaaChecked
import GoSem.Claim
import GoSem.ClaimJoined
import GoSem.ClaimMapViews
import Derived.JoinedTies
import Derived.KernelRfl
namespace Go.Proofs.Ytbncegfgjbdheaa
/- THE CELL 'sum', in the pinned program and in every row, IS THE sha256 OF THE DUMP (.gsa) THAT YtbncegfgjbdheaaProg.lean LOADS. Nothing in Lean hashes anything: it is a label: what it is worth is what the hold of that sum in a sandbox is worth. -/
noncomputable def Try.pinned : Pinned := { name := "ytbncegfgjbdheaa", sum := "a6c99b481aa4d96d112f329d766624098e2723143e362e74cced84bdb2f135d8", checked := Try.checked }
namespace Rows
def none {H : Type} : Left H := { results := [], args := [] }

/-- 'hangfirelaw02.FlightChecks': WHATEVER THE INPUT: true; the input reads as it did. -/
def flightChecksSpec : ChangeSpec := { name := "flightChecks", fn := fun _ => fun
  | [d1, d2] => { results := [.lit (.bool true)], args := [d1, d2] }
  | _ => none }
def flightChecksRow : OpenClaim := { program := "ytbncegfgjbdheaa", sum := "a6c99b481aa4d96d112f329d766624098e2723143e362e74cced84bdb2f135d8", func := "hangfire/hangfirelaw02.FlightChecks", spec := "flightChecks", unfollowed := true, recurses := true, apart := false }
def FlightChecksSaid : Prop := flightChecksRow.holds Try.pinned (OpenSpec.ofChange flightChecksSpec)

/-- ITS FALSE NEIGHBOUR: 'it returns false'. Refute it at one input. -/
def flightChecksWrong : ChangeSpec := { name := "flightChecks", fn := fun _ => fun
  | [d1, d2] => { results := [.lit (.bool false)], args := [d1, d2] }
  | _ => none }
def FlightChecksWrongFalsely : Prop := flightChecksRow.holds Try.pinned (OpenSpec.ofChange flightChecksWrong)

/-- 'hangfirelaw02.FlightTurned': WHATEVER THE INPUT: true; the input reads as it did. -/
def flightTurnedSpec : ChangeSpec := { name := "flightTurned", fn := fun _ => fun
  | [d1, d2] => { results := [.lit (.bool true)], args := [d1, d2] }
  | _ => none }
def flightTurnedRow : OpenClaim := { program := "ytbncegfgjbdheaa", sum := "a6c99b481aa4d96d112f329d766624098e2723143e362e74cced84bdb2f135d8", func := "hangfire/hangfirelaw02.FlightTurned", spec := "flightTurned", unfollowed := true, recurses := true, apart := false }
def FlightTurnedSaid : Prop := flightTurnedRow.holds Try.pinned (OpenSpec.ofChange flightTurnedSpec)

/-- ITS FALSE NEIGHBOUR: 'it returns false'. Refute it at one input. -/
def flightTurnedWrong : ChangeSpec := { name := "flightTurned", fn := fun _ => fun
  | [d1, d2] => { results := [.lit (.bool false)], args := [d1, d2] }
  | _ => none }
def FlightTurnedWrongFalsely : Prop := flightTurnedRow.holds Try.pinned (OpenSpec.ofChange flightTurnedWrong)

/-- 'hangfirelaw02.FlightVacuum': WHATEVER THE INPUT: true; the input reads as it did. -/
def flightVacuumSpec : ChangeSpec := { name := "flightVacuum", fn := fun _ => fun
  | [d1, d2, d3] => { results := [.lit (.bool true)], args := [d1, d2, d3] }
  | _ => none }
def flightVacuumRow : OpenClaim := { program := "ytbncegfgjbdheaa", sum := "a6c99b481aa4d96d112f329d766624098e2723143e362e74cced84bdb2f135d8", func := "hangfire/hangfirelaw02.FlightVacuum", spec := "flightVacuum", unfollowed := true, recurses := true, apart := false }
def FlightVacuumSaid : Prop := flightVacuumRow.holds Try.pinned (OpenSpec.ofChange flightVacuumSpec)

/-- ITS FALSE NEIGHBOUR: 'it returns false'. Refute it at one input. -/
def flightVacuumWrong : ChangeSpec := { name := "flightVacuum", fn := fun _ => fun
  | [d1, d2, d3] => { results := [.lit (.bool false)], args := [d1, d2, d3] }
  | _ => none }
def FlightVacuumWrongFalsely : Prop := flightVacuumRow.holds Try.pinned (OpenSpec.ofChange flightVacuumWrong)

/-- 'hangfirelaw02.FlightPrefix': WHATEVER THE INPUT: true; the input reads as it did. -/
def flightPrefixSpec : ChangeSpec := { name := "flightPrefix", fn := fun _ => fun
  | [d1, d2, d3] => { results := [.lit (.bool true)], args := [d1, d2, d3] }
  | _ => none }
def flightPrefixRow : OpenClaim := { program := "ytbncegfgjbdheaa", sum := "a6c99b481aa4d96d112f329d766624098e2723143e362e74cced84bdb2f135d8", func := "hangfire/hangfirelaw02.FlightPrefix", spec := "flightPrefix", unfollowed := true, recurses := true, apart := false }
def FlightPrefixSaid : Prop := flightPrefixRow.holds Try.pinned (OpenSpec.ofChange flightPrefixSpec)

/-- ITS FALSE NEIGHBOUR: 'it returns false'. Refute it at one input. -/
def flightPrefixWrong : ChangeSpec := { name := "flightPrefix", fn := fun _ => fun
  | [d1, d2, d3] => { results := [.lit (.bool false)], args := [d1, d2, d3] }
  | _ => none }
def FlightPrefixWrongFalsely : Prop := flightPrefixRow.holds Try.pinned (OpenSpec.ofChange flightPrefixWrong)

/-- 'hangfirelaw02.FlightComes': WHATEVER THE INPUT: true; the input reads as it did. -/
def flightComesSpec : ChangeSpec := { name := "flightComes", fn := fun _ => fun
  | [d1, d2] => { results := [.lit (.bool true)], args := [d1, d2] }
  | _ => none }
def flightComesRow : OpenClaim := { program := "ytbncegfgjbdheaa", sum := "a6c99b481aa4d96d112f329d766624098e2723143e362e74cced84bdb2f135d8", func := "hangfire/hangfirelaw02.FlightComes", spec := "flightComes", unfollowed := true, recurses := true, apart := false }
def FlightComesSaid : Prop := flightComesRow.holds Try.pinned (OpenSpec.ofChange flightComesSpec)

/-- ITS FALSE NEIGHBOUR: 'it returns false'. Refute it at one input. -/
def flightComesWrong : ChangeSpec := { name := "flightComes", fn := fun _ => fun
  | [d1, d2] => { results := [.lit (.bool false)], args := [d1, d2] }
  | _ => none }
def FlightComesWrongFalsely : Prop := flightComesRow.holds Try.pinned (OpenSpec.ofChange flightComesWrong)

/-- 'hangfirelaw02.FlightAirs': WHATEVER THE INPUT: true; the input reads as it did. -/
def flightAirsSpec : ChangeSpec := { name := "flightAirs", fn := fun _ => fun
  | [d1, d2, d3] => { results := [.lit (.bool true)], args := [d1, d2, d3] }
  | _ => none }
def flightAirsRow : OpenClaim := { program := "ytbncegfgjbdheaa", sum := "a6c99b481aa4d96d112f329d766624098e2723143e362e74cced84bdb2f135d8", func := "hangfire/hangfirelaw02.FlightAirs", spec := "flightAirs", unfollowed := true, recurses := true, apart := false }
def FlightAirsSaid : Prop := flightAirsRow.holds Try.pinned (OpenSpec.ofChange flightAirsSpec)

/-- ITS FALSE NEIGHBOUR: 'it returns false'. Refute it at one input. -/
def flightAirsWrong : ChangeSpec := { name := "flightAirs", fn := fun _ => fun
  | [d1, d2, d3] => { results := [.lit (.bool false)], args := [d1, d2, d3] }
  | _ => none }
def FlightAirsWrongFalsely : Prop := flightAirsRow.holds Try.pinned (OpenSpec.ofChange flightAirsWrong)

/-- 'hangfirelaw02.FlightBands': WHATEVER THE INPUT: true; the input reads as it did. -/
def flightBandsSpec : ChangeSpec := { name := "flightBands", fn := fun _ => fun
  | [d1, d2, d3] => { results := [.lit (.bool true)], args := [d1, d2, d3] }
  | _ => none }
def flightBandsRow : OpenClaim := { program := "ytbncegfgjbdheaa", sum := "a6c99b481aa4d96d112f329d766624098e2723143e362e74cced84bdb2f135d8", func := "hangfire/hangfirelaw02.FlightBands", spec := "flightBands", unfollowed := true, recurses := true, apart := false }
def FlightBandsSaid : Prop := flightBandsRow.holds Try.pinned (OpenSpec.ofChange flightBandsSpec)

/-- ITS FALSE NEIGHBOUR: 'it returns false'. Refute it at one input. -/
def flightBandsWrong : ChangeSpec := { name := "flightBands", fn := fun _ => fun
  | [d1, d2, d3] => { results := [.lit (.bool false)], args := [d1, d2, d3] }
  | _ => none }
def FlightBandsWrongFalsely : Prop := flightBandsRow.holds Try.pinned (OpenSpec.ofChange flightBandsWrong)

/-- 'hangfirelaw02.FlightPart': WHATEVER THE INPUT: true; the input reads as it did. -/
def flightPartSpec : ChangeSpec := { name := "flightPart", fn := fun _ => fun
  | [d1, d2, d3] => { results := [.lit (.bool true)], args := [d1, d2, d3] }
  | _ => none }
def flightPartRow : OpenClaim := { program := "ytbncegfgjbdheaa", sum := "a6c99b481aa4d96d112f329d766624098e2723143e362e74cced84bdb2f135d8", func := "hangfire/hangfirelaw02.FlightPart", spec := "flightPart", unfollowed := true, recurses := true, apart := false }
def FlightPartSaid : Prop := flightPartRow.holds Try.pinned (OpenSpec.ofChange flightPartSpec)

/-- ITS FALSE NEIGHBOUR: 'it returns false'. Refute it at one input. -/
def flightPartWrong : ChangeSpec := { name := "flightPart", fn := fun _ => fun
  | [d1, d2, d3] => { results := [.lit (.bool false)], args := [d1, d2, d3] }
  | _ => none }
def FlightPartWrongFalsely : Prop := flightPartRow.holds Try.pinned (OpenSpec.ofChange flightPartWrong)

/- THE SECOND FORM. 'bulk': how many values and letters a reading holds, each counted each time it is reached (what is shared counts as often as it is met; a slice's spare places count too). A statement '..UptoSaid' is the law's where the arguments, and the package variables that the reading takes, are together of bulk at most 1048576: NARROWER than '..Said'. Prove '..Said' where nothing that the law and all that it calls make is longer than what came in: it says more and counts as full. Else prove '..UptoSaid'. A law counts once. -/
mutual
def uptoBulk {H : Type} : DataW H → Nat
  | .lit (.string bytes) => bytes.length + 1
  | .lit _ => 1
  | .nil => 1
  | .ptr d => uptoBulk d + 1
  | .slice elems spare => uptoBulkAll elems + uptoBulkAll spare + 1
  | .agg parts => uptoBulkAll parts + 1
  | .iface _ d => uptoBulk d + 1
  | .map entries => uptoBulkEntries entries + 1
  | .held _ => 1
def uptoBulkAll {H : Type} : List (DataW H) → Nat
  | [] => 0
  | d :: r => uptoBulk d + uptoBulkAll r
def uptoBulkEntries {H : Type} : List (Lit × DataW H) → Nat
  | [] => 0
  | x :: r => uptoBulkEntry x + uptoBulkEntries r
def uptoBulkEntry {H : Type} : Lit × DataW H → Nat
  | (.string bytes, d) => bytes.length + uptoBulk d + 1
  | (_, d) => uptoBulk d + 1
 end
def uptoSmall : (H : Type) → List (DataW H) → Bool := fun _ ds => decide (uptoBulkAll ds ≤ 1048576)
def OpenSpec.upto (s : _root_.Go.ChangeSpec) : _root_.Go.OpenSpec := { _root_.Go.OpenSpec.ofChange s with cond := some uptoSmall }

/-- 'hangfirelaw02.FlightChecks', WHERE WHAT IT READS IS OF BULK AT MOST 1048576: true; the input reads as it did. -/
def flightChecksUptoRow : OpenClaim := { program := "ytbncegfgjbdheaa", sum := "a6c99b481aa4d96d112f329d766624098e2723143e362e74cced84bdb2f135d8", func := "hangfire/hangfirelaw02.FlightChecks", spec := "flightChecks", unfollowed := true, recurses := true, apart := false, narrowed := true }
def FlightChecksUptoSaid : Prop := flightChecksUptoRow.holds Try.pinned (OpenSpec.upto flightChecksSpec)

/-- 'hangfirelaw02.FlightTurned', WHERE WHAT IT READS IS OF BULK AT MOST 1048576: true; the input reads as it did. -/
def flightTurnedUptoRow : OpenClaim := { program := "ytbncegfgjbdheaa", sum := "a6c99b481aa4d96d112f329d766624098e2723143e362e74cced84bdb2f135d8", func := "hangfire/hangfirelaw02.FlightTurned", spec := "flightTurned", unfollowed := true, recurses := true, apart := false, narrowed := true }
def FlightTurnedUptoSaid : Prop := flightTurnedUptoRow.holds Try.pinned (OpenSpec.upto flightTurnedSpec)

/-- 'hangfirelaw02.FlightVacuum', WHERE WHAT IT READS IS OF BULK AT MOST 1048576: true; the input reads as it did. -/
def flightVacuumUptoRow : OpenClaim := { program := "ytbncegfgjbdheaa", sum := "a6c99b481aa4d96d112f329d766624098e2723143e362e74cced84bdb2f135d8", func := "hangfire/hangfirelaw02.FlightVacuum", spec := "flightVacuum", unfollowed := true, recurses := true, apart := false, narrowed := true }
def FlightVacuumUptoSaid : Prop := flightVacuumUptoRow.holds Try.pinned (OpenSpec.upto flightVacuumSpec)

/-- 'hangfirelaw02.FlightPrefix', WHERE WHAT IT READS IS OF BULK AT MOST 1048576: true; the input reads as it did. -/
def flightPrefixUptoRow : OpenClaim := { program := "ytbncegfgjbdheaa", sum := "a6c99b481aa4d96d112f329d766624098e2723143e362e74cced84bdb2f135d8", func := "hangfire/hangfirelaw02.FlightPrefix", spec := "flightPrefix", unfollowed := true, recurses := true, apart := false, narrowed := true }
def FlightPrefixUptoSaid : Prop := flightPrefixUptoRow.holds Try.pinned (OpenSpec.upto flightPrefixSpec)

/-- 'hangfirelaw02.FlightComes', WHERE WHAT IT READS IS OF BULK AT MOST 1048576: true; the input reads as it did. -/
def flightComesUptoRow : OpenClaim := { program := "ytbncegfgjbdheaa", sum := "a6c99b481aa4d96d112f329d766624098e2723143e362e74cced84bdb2f135d8", func := "hangfire/hangfirelaw02.FlightComes", spec := "flightComes", unfollowed := true, recurses := true, apart := false, narrowed := true }
def FlightComesUptoSaid : Prop := flightComesUptoRow.holds Try.pinned (OpenSpec.upto flightComesSpec)

/-- 'hangfirelaw02.FlightAirs', WHERE WHAT IT READS IS OF BULK AT MOST 1048576: true; the input reads as it did. -/
def flightAirsUptoRow : OpenClaim := { program := "ytbncegfgjbdheaa", sum := "a6c99b481aa4d96d112f329d766624098e2723143e362e74cced84bdb2f135d8", func := "hangfire/hangfirelaw02.FlightAirs", spec := "flightAirs", unfollowed := true, recurses := true, apart := false, narrowed := true }
def FlightAirsUptoSaid : Prop := flightAirsUptoRow.holds Try.pinned (OpenSpec.upto flightAirsSpec)

/-- 'hangfirelaw02.FlightBands', WHERE WHAT IT READS IS OF BULK AT MOST 1048576: true; the input reads as it did. -/
def flightBandsUptoRow : OpenClaim := { program := "ytbncegfgjbdheaa", sum := "a6c99b481aa4d96d112f329d766624098e2723143e362e74cced84bdb2f135d8", func := "hangfire/hangfirelaw02.FlightBands", spec := "flightBands", unfollowed := true, recurses := true, apart := false, narrowed := true }
def FlightBandsUptoSaid : Prop := flightBandsUptoRow.holds Try.pinned (OpenSpec.upto flightBandsSpec)

/-- 'hangfirelaw02.FlightPart', WHERE WHAT IT READS IS OF BULK AT MOST 1048576: true; the input reads as it did. -/
def flightPartUptoRow : OpenClaim := { program := "ytbncegfgjbdheaa", sum := "a6c99b481aa4d96d112f329d766624098e2723143e362e74cced84bdb2f135d8", func := "hangfire/hangfirelaw02.FlightPart", spec := "flightPart", unfollowed := true, recurses := true, apart := false, narrowed := true }
def FlightPartUptoSaid : Prop := flightPartUptoRow.holds Try.pinned (OpenSpec.upto flightPartSpec)

end Rows
end Go.Proofs.Ytbncegfgjbdheaa
