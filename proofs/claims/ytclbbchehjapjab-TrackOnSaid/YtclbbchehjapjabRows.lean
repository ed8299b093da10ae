/-
  No cell of these rows narrows 'for every input' (looked for: loops, veiled, ifaces, maps, wideKeys, modest, calm, conditions, laid).
  DERIVED. THE GIVEN ROWS OF THIS SEAT. 5 by the template 'for every input the law returns true; each argument reads behind the call as it read before'; 0 by the template 'total and deterministic' (their statements: YtclbbchehjapjabTotals.lean).
  GIVEN WITH THE SEED: the statements are not yours to turn. If you find one false, say at which input.
  Laid BY PROGRAM, IN A SANDBOX (cutbox-rows.mjs): the forced cells as the released guide's own fill.sh prints them over the translation ebead3f68ab384b4… (all of the seat's roots in one cut). By AI agents, Wed Nov 11 2026. No macro, syntax, notation, axiom, sorry.
-/
import Derived.Test.YtclbbchehjapjabChecked
import GoSem.Claim
import GoSem.ClaimJoined
import GoSem.ClaimMapViews
import Derived.JoinedTies
import Derived.KernelRfl
namespace Go.Proofs.Ytclbbchehjapjab
/- THE CELL 'sum', in the pinned program and in every row, IS THE sha256 OF THE DUMP (.gsa) THAT YtclbbchehjapjabProg.lean LOADS. Nothing in Lean hashes anything: it is a label: what it is worth is what the hold of that sum in a sandbox is worth. -/
noncomputable def Try.pinned : Pinned := { name := "ytclbbchehjapjab", sum := "ebead3f68ab384b496a8ece8cbddb3b247d6bff516bc0b2257c5bc57352b3aec", checked := Try.checked }
namespace Rows
def none {H : Type} : Left H := { results := [], args := [] }

/-- 'hangfirelaw05.TrackAgree': WHATEVER THE INPUT: true; the input reads as it did. -/
def trackAgreeSpec : ChangeSpec := { name := "trackAgree", fn := fun _ => fun
  | [d1, d2] => { results := [.lit (.bool true)], args := [d1, d2] }
  | _ => none }
def trackAgreeRow : OpenClaim := { program := "ytclbbchehjapjab", sum := "ebead3f68ab384b496a8ece8cbddb3b247d6bff516bc0b2257c5bc57352b3aec", func := "hangfire/hangfirelaw05.TrackAgree", spec := "trackAgree", unfollowed := true, recurses := true, plainKeys := false, apart := false }
def TrackAgreeSaid : Prop := trackAgreeRow.holds Try.pinned (OpenSpec.ofChange trackAgreeSpec)

/-- ITS FALSE NEIGHBOUR: 'it returns false'. Refute it at one input. -/
def trackAgreeWrong : ChangeSpec := { name := "trackAgree", fn := fun _ => fun
  | [d1, d2] => { results := [.lit (.bool false)], args := [d1, d2] }
  | _ => none }
def TrackAgreeWrongFalsely : Prop := trackAgreeRow.holds Try.pinned (OpenSpec.ofChange trackAgreeWrong)

/-- 'hangfirelaw05.TrackGaps': WHATEVER THE INPUT: true; the input reads as it did. -/
def trackGapsSpec : ChangeSpec := { name := "trackGaps", fn := fun _ => fun
  | [d1, d2, d3] => { results := [.lit (.bool true)], args := [d1, d2, d3] }
  | _ => none }
def trackGapsRow : OpenClaim := { program := "ytclbbchehjapjab", sum := "ebead3f68ab384b496a8ece8cbddb3b247d6bff516bc0b2257c5bc57352b3aec", func := "hangfire/hangfirelaw05.TrackGaps", spec := "trackGaps", unfollowed := true, recurses := true, plainKeys := false, apart := false }
def TrackGapsSaid : Prop := trackGapsRow.holds Try.pinned (OpenSpec.ofChange trackGapsSpec)

/-- ITS FALSE NEIGHBOUR: 'it returns false'. Refute it at one input. -/
def trackGapsWrong : ChangeSpec := { name := "trackGaps", fn := fun _ => fun
  | [d1, d2, d3] => { results := [.lit (.bool false)], args := [d1, d2, d3] }
  | _ => none }
def TrackGapsWrongFalsely : Prop := trackGapsRow.holds Try.pinned (OpenSpec.ofChange trackGapsWrong)

/-- 'hangfirelaw05.TrackAheads': WHATEVER THE INPUT: true; the input reads as it did. -/
def trackAheadsSpec : ChangeSpec := { name := "trackAheads", fn := fun _ => fun
  | [d1, d2, d3] => { results := [.lit (.bool true)], args := [d1, d2, d3] }
  | _ => none }
def trackAheadsRow : OpenClaim := { program := "ytclbbchehjapjab", sum := "ebead3f68ab384b496a8ece8cbddb3b247d6bff516bc0b2257c5bc57352b3aec", func := "hangfire/hangfirelaw05.TrackAheads", spec := "trackAheads", unfollowed := true, recurses := true, plainKeys := false, apart := false }
def TrackAheadsSaid : Prop := trackAheadsRow.holds Try.pinned (OpenSpec.ofChange trackAheadsSpec)

/-- ITS FALSE NEIGHBOUR: 'it returns false'. Refute it at one input. -/
def trackAheadsWrong : ChangeSpec := { name := "trackAheads", fn := fun _ => fun
  | [d1, d2, d3] => { results := [.lit (.bool false)], args := [d1, d2, d3] }
  | _ => none }
def TrackAheadsWrongFalsely : Prop := trackAheadsRow.holds Try.pinned (OpenSpec.ofChange trackAheadsWrong)

/-- 'hangfirelaw05.TrackOn': WHATEVER THE INPUT: true; the input reads as it did. -/
def trackOnSpec : ChangeSpec := { name := "trackOn", fn := fun _ => fun
  | [d1, d2, d3] => { results := [.lit (.bool true)], args := [d1, d2, d3] }
  | _ => none }
def trackOnRow : OpenClaim := { program := "ytclbbchehjapjab", sum := "ebead3f68ab384b496a8ece8cbddb3b247d6bff516bc0b2257c5bc57352b3aec", func := "hangfire/hangfirelaw05.TrackOn", spec := "trackOn", unfollowed := true, recurses := true, plainKeys := false, apart := false }
def TrackOnSaid : Prop := trackOnRow.holds Try.pinned (OpenSpec.ofChange trackOnSpec)

/-- ITS FALSE NEIGHBOUR: 'it returns false'. Refute it at one input. -/
def trackOnWrong : ChangeSpec := { name := "trackOn", fn := fun _ => fun
  | [d1, d2, d3] => { results := [.lit (.bool false)], args := [d1, d2, d3] }
  | _ => none }
def TrackOnWrongFalsely : Prop := trackOnRow.holds Try.pinned (OpenSpec.ofChange trackOnWrong)

/-- 'hangfirelaw05.TrackKnown': WHATEVER THE INPUT: true; the input reads as it did. -/
def trackKnownSpec : ChangeSpec := { name := "trackKnown", fn := fun _ => fun
  | [] => { results := [.lit (.bool true)], args := [] }
  | _ => none }
def trackKnownRow : OpenClaim := { program := "ytclbbchehjapjab", sum := "ebead3f68ab384b496a8ece8cbddb3b247d6bff516bc0b2257c5bc57352b3aec", func := "hangfire/hangfirelaw05.TrackKnown", spec := "trackKnown", unfollowed := true, recurses := true, plainKeys := false, apart := false }
def TrackKnownSaid : Prop := trackKnownRow.holds Try.pinned (OpenSpec.ofChange trackKnownSpec)

/-- ITS FALSE NEIGHBOUR: 'it returns false'. Refute it at one input. -/
def trackKnownWrong : ChangeSpec := { name := "trackKnown", fn := fun _ => fun
  | [] => { results := [.lit (.bool false)], args := [] }
  | _ => none }
def TrackKnownWrongFalsely : Prop := trackKnownRow.holds Try.pinned (OpenSpec.ofChange trackKnownWrong)

/- THE SECOND FORM. 'bulk': how many values and letters a reading holds, each counted each time it is reached (what is shared counts as often as it is met; a slice's spare places count too). A statement '..UptoSaid' is the law's where the arguments, and the package variables that the reading takes, are together of bulk at most 1048576: NARROWER than '..Said'. Prove '..Said' where nothing that the law and all that it calls make is longer than what came in: it says more and counts as full. Else prove '..UptoSaid'. A law counts once. -/
mutual
def uptoBulk {H : Type} : DataW H → Nat
  | .lit (.string bytes) => bytes.length + 1
  | .lit _ => 1
  | .nil => 1
  | .ptr d => uptoBulk d + 1
  | .slice elems spare => uptoBulkAll elems + uptoBulkAll spare + 1
  | .agg parts => uptoBulkAll parts + 1
  | .iface _ d => uptoBulk d + 1
  | .map entries => uptoBulkEntries entries + 1
  | .held _ => 1
def uptoBulkAll {H : Type} : List (DataW H) → Nat
  | [] => 0
  | d :: r => uptoBulk d + uptoBulkAll r
def uptoBulkEntries {H : Type} : List (Lit × DataW H) → Nat
  | [] => 0
  | x :: r => uptoBulkEntry x + uptoBulkEntries r
def uptoBulkEntry {H : Type} : Lit × DataW H → Nat
  | (.string bytes, d) => bytes.length + uptoBulk d + 1
  | (_, d) => uptoBulk d + 1
 end
def uptoSmall : (H : Type) → List (DataW H) → Bool := fun _ ds => decide (uptoBulkAll ds ≤ 1048576)
def OpenSpec.upto (s : _root_.Go.ChangeSpec) : _root_.Go.OpenSpec := { _root_.Go.OpenSpec.ofChange s with cond := some uptoSmall }

/-- 'hangfirelaw05.TrackAgree', WHERE WHAT IT READS IS OF BULK AT MOST 1048576: true; the input reads as it did. -/
def trackAgreeUptoRow : OpenClaim := { program := "ytclbbchehjapjab", sum := "ebead3f68ab384b496a8ece8cbddb3b247d6bff516bc0b2257c5bc57352b3aec", func := "hangfire/hangfirelaw05.TrackAgree", spec := "trackAgree", unfollowed := true, recurses := true, plainKeys := false, apart := false, narrowed := true }
def TrackAgreeUptoSaid : Prop := trackAgreeUptoRow.holds Try.pinned (OpenSpec.upto trackAgreeSpec)

/-- 'hangfirelaw05.TrackGaps', WHERE WHAT IT READS IS OF BULK AT MOST 1048576: true; the input reads as it did. -/
def trackGapsUptoRow : OpenClaim := { program := "ytclbbchehjapjab", sum := "ebead3f68ab384b496a8ece8cbddb3b247d6bff516bc0b2257c5bc57352b3aec", func := "hangfire/hangfirelaw05.TrackGaps", spec := "trackGaps", unfollowed := true, recurses := true, plainKeys := false, apart := false, narrowed := true }
def TrackGapsUptoSaid : Prop := trackGapsUptoRow.holds Try.pinned (OpenSpec.upto trackGapsSpec)

/-- 'hangfirelaw05.TrackAheads', WHERE WHAT IT READS IS OF BULK AT MOST 1048576: true; the input reads as it did. -/
def trackAheadsUptoRow : OpenClaim := { program := "ytclbbchehjapjab", sum := "ebead3f68ab384b496a8ece8cbddb3b247d6bff516bc0b2257c5bc57352b3aec", func := "hangfire/hangfirelaw05.TrackAheads", spec := "trackAheads", unfollowed := true, recurses := true, plainKeys := false, apart := false, narrowed := true }
def TrackAheadsUptoSaid : Prop := trackAheadsUptoRow.holds Try.pinned (OpenSpec.upto trackAheadsSpec)

/-- 'hangfirelaw05.TrackOn', WHERE WHAT IT READS IS OF BULK AT MOST 1048576: true; the input reads as it did. -/
def trackOnUptoRow : OpenClaim := { program := "ytclbbchehjapjab", sum := "ebead3f68ab384b496a8ece8cbddb3b247d6bff516bc0b2257c5bc57352b3aec", func := "hangfire/hangfirelaw05.TrackOn", spec := "trackOn", unfollowed := true, recurses := true, plainKeys := false, apart := false, narrowed := true }
def TrackOnUptoSaid : Prop := trackOnUptoRow.holds Try.pinned (OpenSpec.upto trackOnSpec)

/-- 'hangfirelaw05.TrackKnown', WHERE WHAT IT READS IS OF BULK AT MOST 1048576: true; the input reads as it did. -/
def trackKnownUptoRow : OpenClaim := { program := "ytclbbchehjapjab", sum := "ebead3f68ab384b496a8ece8cbddb3b247d6bff516bc0b2257c5bc57352b3aec", func := "hangfire/hangfirelaw05.TrackKnown", spec := "trackKnown", unfollowed := true, recurses := true, plainKeys := false, apart := false, narrowed := true }
def TrackKnownUptoSaid : Prop := trackKnownUptoRow.holds Try.pinned (OpenSpec.upto trackKnownSpec)

end Rows
end Go.Proofs.Ytclbbchehjapjab
