/-
  No cell of these rows narrows 'for every input' (looked for: loops, veiled, ifaces, maps, wideKeys, modest, calm, conditions, laid).
  DERIVED. THE GIVEN ROWS OF THIS SEAT. 4 by the template 'for every input the law returns true; each argument reads behind the call as it read before'; 0 by the template 'total and deterministic' (their statements: YtbncegfgjbdheaaGreatTotals.lean).
  GIVEN WITH THE SEED: the statements are not yours to turn. If you find one false, say at which input.
  Laid BY PROGRAM, IN A SANDBOX (cutbox-rows.mjs): the forced cells as the released guide's own fill.sh prints them over the translation 5c29a86a8b0043d2… (all of the seat's roots in one cut). By AI agents, Wed Nov 11 2026. No macro, syntax, notation, axiom, sorry.
-/
import Derived.Test.YtbncegfgjbdheaaGreatChecked
import GoSem.Claim
import GoSem.ClaimJoined
import GoSem.ClaimMapViews
import Derived.JoinedTies
import Derived.KernelRfl
namespace Go.Proofs.YtbncegfgjbdheaaGreat
/- THE CELL 'sum', in the pinned program and in every row, IS THE sha256 OF THE DUMP (.gsa) THAT YtbncegfgjbdheaaGreatProg.lean LOADS. Nothing in Lean hashes anything: it is a label: what it is worth is what the hold of that sum in a sandbox is worth. -/
noncomputable def Tryz.pinned : Pinned := { name := "ytbncegfgjbdheaagreat", sum := "5c29a86a8b0043d202235275c2987bd24151f27db56e38d8444b9b5cd7a3746b", checked := Tryz.checked }
namespace Rows
def none {H : Type} : Left H := { results := [], args := [] }

/-- 'hangfirelaw02.FlightForces': WHATEVER THE INPUT: true; the input reads as it did. -/
def flightForcesSpec : ChangeSpec := { name := "flightForces", fn := fun _ => fun
  | [d1, d2] => { results := [.lit (.bool true)], args := [d1, d2] }
  | _ => none }
def flightForcesRow : OpenClaim := { program := "ytbncegfgjbdheaagreat", sum := "5c29a86a8b0043d202235275c2987bd24151f27db56e38d8444b9b5cd7a3746b", func := "hangfire/hangfirelaw02.FlightForces", spec := "flightForces", unfollowed := true, recurses := true, apart := false }
def FlightForcesSaid : Prop := flightForcesRow.holds Tryz.pinned (OpenSpec.ofChange flightForcesSpec)

/-- ITS FALSE NEIGHBOUR: 'it returns false'. Refute it at one input. -/
def flightForcesWrong : ChangeSpec := { name := "flightForces", fn := fun _ => fun
  | [d1, d2] => { results := [.lit (.bool false)], args := [d1, d2] }
  | _ => none }
def FlightForcesWrongFalsely : Prop := flightForcesRow.holds Tryz.pinned (OpenSpec.ofChange flightForcesWrong)

/-- 'hangfirelaw02.FlightImpacts': WHATEVER THE INPUT: true; the input reads as it did. -/
def flightImpactsSpec : ChangeSpec := { name := "flightImpacts", fn := fun _ => fun
  | [d1, d2] => { results := [.lit (.bool true)], args := [d1, d2] }
  | _ => none }
def flightImpactsRow : OpenClaim := { program := "ytbncegfgjbdheaagreat", sum := "5c29a86a8b0043d202235275c2987bd24151f27db56e38d8444b9b5cd7a3746b", func := "hangfire/hangfirelaw02.FlightImpacts", spec := "flightImpacts", unfollowed := true, recurses := true, apart := false }
def FlightImpactsSaid : Prop := flightImpactsRow.holds Tryz.pinned (OpenSpec.ofChange flightImpactsSpec)

/-- ITS FALSE NEIGHBOUR: 'it returns false'. Refute it at one input. -/
def flightImpactsWrong : ChangeSpec := { name := "flightImpacts", fn := fun _ => fun
  | [d1, d2] => { results := [.lit (.bool false)], args := [d1, d2] }
  | _ => none }
def FlightImpactsWrongFalsely : Prop := flightImpactsRow.holds Tryz.pinned (OpenSpec.ofChange flightImpactsWrong)

/-- 'hangfirelaw02.FlightFlies': WHATEVER THE INPUT: true; the input reads as it did. -/
def flightFliesSpec : ChangeSpec := { name := "flightFlies", fn := fun _ => fun
  | [d1, d2] => { results := [.lit (.bool true)], args := [d1, d2] }
  | _ => none }
def flightFliesRow : OpenClaim := { program := "ytbncegfgjbdheaagreat", sum := "5c29a86a8b0043d202235275c2987bd24151f27db56e38d8444b9b5cd7a3746b", func := "hangfire/hangfirelaw02.FlightFlies", spec := "flightFlies", unfollowed := true, recurses := true, apart := false }
def FlightFliesSaid : Prop := flightFliesRow.holds Tryz.pinned (OpenSpec.ofChange flightFliesSpec)

/-- ITS FALSE NEIGHBOUR: 'it returns false'. Refute it at one input. -/
def flightFliesWrong : ChangeSpec := { name := "flightFlies", fn := fun _ => fun
  | [d1, d2] => { results := [.lit (.bool false)], args := [d1, d2] }
  | _ => none }
def FlightFliesWrongFalsely : Prop := flightFliesRow.holds Tryz.pinned (OpenSpec.ofChange flightFliesWrong)

/-- 'hangfirelaw02.FlightPieces': WHATEVER THE INPUT: true; the input reads as it did. -/
def flightPiecesSpec : ChangeSpec := { name := "flightPieces", fn := fun _ => fun
  | [d1, d2] => { results := [.lit (.bool true)], args := [d1, d2] }
  | _ => none }
def flightPiecesRow : OpenClaim := { program := "ytbncegfgjbdheaagreat", sum := "5c29a86a8b0043d202235275c2987bd24151f27db56e38d8444b9b5cd7a3746b", func := "hangfire/hangfirelaw02.FlightPieces", spec := "flightPieces", unfollowed := true, recurses := true, apart := false }
def FlightPiecesSaid : Prop := flightPiecesRow.holds Tryz.pinned (OpenSpec.ofChange flightPiecesSpec)

/-- ITS FALSE NEIGHBOUR: 'it returns false'. Refute it at one input. -/
def flightPiecesWrong : ChangeSpec := { name := "flightPieces", fn := fun _ => fun
  | [d1, d2] => { results := [.lit (.bool false)], args := [d1, d2] }
  | _ => none }
def FlightPiecesWrongFalsely : Prop := flightPiecesRow.holds Tryz.pinned (OpenSpec.ofChange flightPiecesWrong)

/- THE SECOND FORM. 'bulk': how many values and letters a reading holds, each counted each time it is reached (what is shared counts as often as it is met; a slice's spare places count too). A statement '..UptoSaid' is the law's where the arguments, and the package variables that the reading takes, are together of bulk at most 1048576: NARROWER than '..Said'. Prove '..Said' where nothing that the law and all that it calls make is longer than what came in: it says more and counts as full. Else prove '..UptoSaid'. A law counts once. -/
mutual
def uptoBulk {H : Type} : DataW H → Nat
  | .lit (.string bytes) => bytes.length + 1
  | .lit _ => 1
  | .nil => 1
  | .ptr d => uptoBulk d + 1
  | .slice elems spare => uptoBulkAll elems + uptoBulkAll spare + 1
  | .agg parts => uptoBulkAll parts + 1
  | .iface _ d => uptoBulk d + 1
  | .map entries => uptoBulkEntries entries + 1
  | .held _ => 1
def uptoBulkAll {H : Type} : List (DataW H) → Nat
  | [] => 0
  | d :: r => uptoBulk d + uptoBulkAll r
def uptoBulkEntries {H : Type} : List (Lit × DataW H) → Nat
  | [] => 0
  | x :: r => uptoBulkEntry x + uptoBulkEntries r
def uptoBulkEntry {H : Type} : Lit × DataW H → Nat
  | (.string bytes, d) => bytes.length + uptoBulk d + 1
  | (_, d) => uptoBulk d + 1
 end
def uptoSmall : (H : Type) → List (DataW H) → Bool := fun _ ds => decide (uptoBulkAll ds ≤ 1048576)
def OpenSpec.upto (s : _root_.Go.ChangeSpec) : _root_.Go.OpenSpec := { _root_.Go.OpenSpec.ofChange s with cond := some uptoSmall }

/-- 'hangfirelaw02.FlightForces', WHERE WHAT IT READS IS OF BULK AT MOST 1048576: true; the input reads as it did. -/
def flightForcesUptoRow : OpenClaim := { program := "ytbncegfgjbdheaagreat", sum := "5c29a86a8b0043d202235275c2987bd24151f27db56e38d8444b9b5cd7a3746b", func := "hangfire/hangfirelaw02.FlightForces", spec := "flightForces", unfollowed := true, recurses := true, apart := false, narrowed := true }
def FlightForcesUptoSaid : Prop := flightForcesUptoRow.holds Tryz.pinned (OpenSpec.upto flightForcesSpec)

/-- 'hangfirelaw02.FlightImpacts', WHERE WHAT IT READS IS OF BULK AT MOST 1048576: true; the input reads as it did. -/
def flightImpactsUptoRow : OpenClaim := { program := "ytbncegfgjbdheaagreat", sum := "5c29a86a8b0043d202235275c2987bd24151f27db56e38d8444b9b5cd7a3746b", func := "hangfire/hangfirelaw02.FlightImpacts", spec := "flightImpacts", unfollowed := true, recurses := true, apart := false, narrowed := true }
def FlightImpactsUptoSaid : Prop := flightImpactsUptoRow.holds Tryz.pinned (OpenSpec.upto flightImpactsSpec)

/-- 'hangfirelaw02.FlightFlies', WHERE WHAT IT READS IS OF BULK AT MOST 1048576: true; the input reads as it did. -/
def flightFliesUptoRow : OpenClaim := { program := "ytbncegfgjbdheaagreat", sum := "5c29a86a8b0043d202235275c2987bd24151f27db56e38d8444b9b5cd7a3746b", func := "hangfire/hangfirelaw02.FlightFlies", spec := "flightFlies", unfollowed := true, recurses := true, apart := false, narrowed := true }
def FlightFliesUptoSaid : Prop := flightFliesUptoRow.holds Tryz.pinned (OpenSpec.upto flightFliesSpec)

/-- 'hangfirelaw02.FlightPieces', WHERE WHAT IT READS IS OF BULK AT MOST 1048576: true; the input reads as it did. -/
def flightPiecesUptoRow : OpenClaim := { program := "ytbncegfgjbdheaagreat", sum := "5c29a86a8b0043d202235275c2987bd24151f27db56e38d8444b9b5cd7a3746b", func := "hangfire/hangfirelaw02.FlightPieces", spec := "flightPieces", unfollowed := true, recurses := true, apart := false, narrowed := true }
def FlightPiecesUptoSaid : Prop := flightPiecesUptoRow.holds Tryz.pinned (OpenSpec.upto flightPiecesSpec)

end Rows
end Go.Proofs.YtbncegfgjbdheaaGreat
