/-
  No cell of these rows narrows 'for every input' (looked for: loops, veiled, ifaces, maps, wideKeys, modest, calm, conditions, laid).
  DERIVED. THE GIVEN ROWS OF THIS SEAT. 12 by the template 'for every input the law returns true; each argument reads behind the call as it read before'; 0 by the template 'total and deterministic' (their statements: YtclbbchehjapjaaTotals.lean).
  GIVEN WITH THE SEED: the statements are not yours to turn. If you find one false, say at which input.
  Laid BY PROGRAM, IN A SANDBOX (cutbox-rows.mjs): the forced cells as the released guide's own fill.sh prints them over the translation e6ca6d7de459b4d3… (all of the seat's roots in one cut). By AI agents, Wed Nov 11 2026. No macro, syntax, notation, axiom, sorry.
-/
import Derived.Test.YtclbbchehjapjaaChecked
import GoSem.Claim
import GoSem.ClaimJoined
import GoSem.ClaimMapViews
import Derived.JoinedTies
import Derived.KernelRfl
namespace Go.Proofs.Ytclbbchehjapjaa
/- THE CELL 'sum', in the pinned program and in every row, IS THE sha256 OF THE DUMP (.gsa) THAT YtclbbchehjapjaaProg.lean LOADS. Nothing in Lean hashes anything: it is a label: what it is worth is what the hold of that sum in a sandbox is worth. -/
noncomputable def Try.pinned : Pinned := { name := "ytclbbchehjapjaa", sum := "e6ca6d7de459b4d3aaf2df1474560c97bd3237c1c2266bd50f084cde129d8c50", checked := Try.checked }
namespace Rows
def none {H : Type} : Left H := { results := [], args := [] }

/-- 'hangfirelaw05.TrackChecks': WHATEVER THE INPUT: true; the input reads as it did. -/
def trackChecksSpec : ChangeSpec := { name := "trackChecks", fn := fun _ => fun
  | [d] => { results := [.lit (.bool true)], args := [d] }
  | _ => none }
def trackChecksRow : OpenClaim := { program := "ytclbbchehjapjaa", sum := "e6ca6d7de459b4d3aaf2df1474560c97bd3237c1c2266bd50f084cde129d8c50", func := "hangfire/hangfirelaw05.TrackChecks", spec := "trackChecks", unfollowed := true, recurses := true, plainKeys := false, apart := false }
def TrackChecksSaid : Prop := trackChecksRow.holds Try.pinned (OpenSpec.ofChange trackChecksSpec)

/-- ITS FALSE NEIGHBOUR: 'it returns false'. Refute it at one input. -/
def trackChecksWrong : ChangeSpec := { name := "trackChecks", fn := fun _ => fun
  | [d] => { results := [.lit (.bool false)], args := [d] }
  | _ => none }
def TrackChecksWrongFalsely : Prop := trackChecksRow.holds Try.pinned (OpenSpec.ofChange trackChecksWrong)

/-- 'hangfirelaw05.TrackMore': WHATEVER THE INPUT: true; the input reads as it did. -/
def trackMoreSpec : ChangeSpec := { name := "trackMore", fn := fun _ => fun
  | [d1, d2, d3] => { results := [.lit (.bool true)], args := [d1, d2, d3] }
  | _ => none }
def trackMoreRow : OpenClaim := { program := "ytclbbchehjapjaa", sum := "e6ca6d7de459b4d3aaf2df1474560c97bd3237c1c2266bd50f084cde129d8c50", func := "hangfire/hangfirelaw05.TrackMore", spec := "trackMore", unfollowed := true, recurses := true, plainKeys := false, apart := false }
def TrackMoreSaid : Prop := trackMoreRow.holds Try.pinned (OpenSpec.ofChange trackMoreSpec)

/-- ITS FALSE NEIGHBOUR: 'it returns false'. Refute it at one input. -/
def trackMoreWrong : ChangeSpec := { name := "trackMore", fn := fun _ => fun
  | [d1, d2, d3] => { results := [.lit (.bool false)], args := [d1, d2, d3] }
  | _ => none }
def TrackMoreWrongFalsely : Prop := trackMoreRow.holds Try.pinned (OpenSpec.ofChange trackMoreWrong)

/-- 'hangfirelaw05.TrackLooser': WHATEVER THE INPUT: true; the input reads as it did. -/
def trackLooserSpec : ChangeSpec := { name := "trackLooser", fn := fun _ => fun
  | [d1, d2, d3] => { results := [.lit (.bool true)], args := [d1, d2, d3] }
  | _ => none }
def trackLooserRow : OpenClaim := { program := "ytclbbchehjapjaa", sum := "e6ca6d7de459b4d3aaf2df1474560c97bd3237c1c2266bd50f084cde129d8c50", func := "hangfire/hangfirelaw05.TrackLooser", spec := "trackLooser", unfollowed := true, recurses := true, plainKeys := false, apart := false }
def TrackLooserSaid : Prop := trackLooserRow.holds Try.pinned (OpenSpec.ofChange trackLooserSpec)

/-- ITS FALSE NEIGHBOUR: 'it returns false'. Refute it at one input. -/
def trackLooserWrong : ChangeSpec := { name := "trackLooser", fn := fun _ => fun
  | [d1, d2, d3] => { results := [.lit (.bool false)], args := [d1, d2, d3] }
  | _ => none }
def TrackLooserWrongFalsely : Prop := trackLooserRow.holds Try.pinned (OpenSpec.ofChange trackLooserWrong)

/-- 'hangfirelaw05.TrackReach': WHATEVER THE INPUT: true; the input reads as it did. -/
def trackReachSpec : ChangeSpec := { name := "trackReach", fn := fun _ => fun
  | [d1, d2, d3] => { results := [.lit (.bool true)], args := [d1, d2, d3] }
  | _ => none }
def trackReachRow : OpenClaim := { program := "ytclbbchehjapjaa", sum := "e6ca6d7de459b4d3aaf2df1474560c97bd3237c1c2266bd50f084cde129d8c50", func := "hangfire/hangfirelaw05.TrackReach", spec := "trackReach", unfollowed := true, recurses := true, plainKeys := false, apart := false }
def TrackReachSaid : Prop := trackReachRow.holds Try.pinned (OpenSpec.ofChange trackReachSpec)

/-- ITS FALSE NEIGHBOUR: 'it returns false'. Refute it at one input. -/
def trackReachWrong : ChangeSpec := { name := "trackReach", fn := fun _ => fun
  | [d1, d2, d3] => { results := [.lit (.bool false)], args := [d1, d2, d3] }
  | _ => none }
def TrackReachWrongFalsely : Prop := trackReachRow.holds Try.pinned (OpenSpec.ofChange trackReachWrong)

/-- 'hangfirelaw05.TrackKnows': WHATEVER THE INPUT: true; the input reads as it did. -/
def trackKnowsSpec : ChangeSpec := { name := "trackKnows", fn := fun _ => fun
  | [d1, d2] => { results := [.lit (.bool true)], args := [d1, d2] }
  | _ => none }
def trackKnowsRow : OpenClaim := { program := "ytclbbchehjapjaa", sum := "e6ca6d7de459b4d3aaf2df1474560c97bd3237c1c2266bd50f084cde129d8c50", func := "hangfire/hangfirelaw05.TrackKnows", spec := "trackKnows", unfollowed := true, recurses := true, plainKeys := false, apart := false }
def TrackKnowsSaid : Prop := trackKnowsRow.holds Try.pinned (OpenSpec.ofChange trackKnowsSpec)

/-- ITS FALSE NEIGHBOUR: 'it returns false'. Refute it at one input. -/
def trackKnowsWrong : ChangeSpec := { name := "trackKnows", fn := fun _ => fun
  | [d1, d2] => { results := [.lit (.bool false)], args := [d1, d2] }
  | _ => none }
def TrackKnowsWrongFalsely : Prop := trackKnowsRow.holds Try.pinned (OpenSpec.ofChange trackKnowsWrong)

/-- 'hangfirelaw05.TrackUnknown': WHATEVER THE INPUT: true; the input reads as it did. -/
def trackUnknownSpec : ChangeSpec := { name := "trackUnknown", fn := fun _ => fun
  | [d1, d2, d3] => { results := [.lit (.bool true)], args := [d1, d2, d3] }
  | _ => none }
def trackUnknownRow : OpenClaim := { program := "ytclbbchehjapjaa", sum := "e6ca6d7de459b4d3aaf2df1474560c97bd3237c1c2266bd50f084cde129d8c50", func := "hangfire/hangfirelaw05.TrackUnknown", spec := "trackUnknown", unfollowed := true, recurses := true, plainKeys := false, apart := false }
def TrackUnknownSaid : Prop := trackUnknownRow.holds Try.pinned (OpenSpec.ofChange trackUnknownSpec)

/-- ITS FALSE NEIGHBOUR: 'it returns false'. Refute it at one input. -/
def trackUnknownWrong : ChangeSpec := { name := "trackUnknown", fn := fun _ => fun
  | [d1, d2, d3] => { results := [.lit (.bool false)], args := [d1, d2, d3] }
  | _ => none }
def TrackUnknownWrongFalsely : Prop := trackUnknownRow.holds Try.pinned (OpenSpec.ofChange trackUnknownWrong)

/-- 'hangfirelaw05.TrackSpares': WHATEVER THE INPUT: true; the input reads as it did. -/
def trackSparesSpec : ChangeSpec := { name := "trackSpares", fn := fun _ => fun
  | [d1, d2] => { results := [.lit (.bool true)], args := [d1, d2] }
  | _ => none }
def trackSparesRow : OpenClaim := { program := "ytclbbchehjapjaa", sum := "e6ca6d7de459b4d3aaf2df1474560c97bd3237c1c2266bd50f084cde129d8c50", func := "hangfire/hangfirelaw05.TrackSpares", spec := "trackSpares", unfollowed := true, recurses := true, plainKeys := false, apart := false }
def TrackSparesSaid : Prop := trackSparesRow.holds Try.pinned (OpenSpec.ofChange trackSparesSpec)

/-- ITS FALSE NEIGHBOUR: 'it returns false'. Refute it at one input. -/
def trackSparesWrong : ChangeSpec := { name := "trackSpares", fn := fun _ => fun
  | [d1, d2] => { results := [.lit (.bool false)], args := [d1, d2] }
  | _ => none }
def TrackSparesWrongFalsely : Prop := trackSparesRow.holds Try.pinned (OpenSpec.ofChange trackSparesWrong)

/-- 'hangfirelaw05.TrackTrue': WHATEVER THE INPUT: true; the input reads as it did. -/
def trackTrueSpec : ChangeSpec := { name := "trackTrue", fn := fun _ => fun
  | [d1, d2, d3] => { results := [.lit (.bool true)], args := [d1, d2, d3] }
  | _ => none }
def trackTrueRow : OpenClaim := { program := "ytclbbchehjapjaa", sum := "e6ca6d7de459b4d3aaf2df1474560c97bd3237c1c2266bd50f084cde129d8c50", func := "hangfire/hangfirelaw05.TrackTrue", spec := "trackTrue", unfollowed := true, recurses := true, plainKeys := false, apart := false }
def TrackTrueSaid : Prop := trackTrueRow.holds Try.pinned (OpenSpec.ofChange trackTrueSpec)

/-- ITS FALSE NEIGHBOUR: 'it returns false'. Refute it at one input. -/
def trackTrueWrong : ChangeSpec := { name := "trackTrue", fn := fun _ => fun
  | [d1, d2, d3] => { results := [.lit (.bool false)], args := [d1, d2, d3] }
  | _ => none }
def TrackTrueWrongFalsely : Prop := trackTrueRow.holds Try.pinned (OpenSpec.ofChange trackTrueWrong)

/-- 'hangfirelaw05.TrackOne': WHATEVER THE INPUT: true; the input reads as it did. -/
def trackOneSpec : ChangeSpec := { name := "trackOne", fn := fun _ => fun
  | [d1, d2, d3] => { results := [.lit (.bool true)], args := [d1, d2, d3] }
  | _ => none }
def trackOneRow : OpenClaim := { program := "ytclbbchehjapjaa", sum := "e6ca6d7de459b4d3aaf2df1474560c97bd3237c1c2266bd50f084cde129d8c50", func := "hangfire/hangfirelaw05.TrackOne", spec := "trackOne", unfollowed := true, recurses := true, plainKeys := false, apart := false }
def TrackOneSaid : Prop := trackOneRow.holds Try.pinned (OpenSpec.ofChange trackOneSpec)

/-- ITS FALSE NEIGHBOUR: 'it returns false'. Refute it at one input. -/
def trackOneWrong : ChangeSpec := { name := "trackOne", fn := fun _ => fun
  | [d1, d2, d3] => { results := [.lit (.bool false)], args := [d1, d2, d3] }
  | _ => none }
def TrackOneWrongFalsely : Prop := trackOneRow.holds Try.pinned (OpenSpec.ofChange trackOneWrong)

/-- 'hangfirelaw05.TrackWhere': WHATEVER THE INPUT: true; the input reads as it did. -/
def trackWhereSpec : ChangeSpec := { name := "trackWhere", fn := fun _ => fun
  | [d1, d2] => { results := [.lit (.bool true)], args := [d1, d2] }
  | _ => none }
def trackWhereRow : OpenClaim := { program := "ytclbbchehjapjaa", sum := "e6ca6d7de459b4d3aaf2df1474560c97bd3237c1c2266bd50f084cde129d8c50", func := "hangfire/hangfirelaw05.TrackWhere", spec := "trackWhere", unfollowed := true, recurses := true, plainKeys := false, apart := false }
def TrackWhereSaid : Prop := trackWhereRow.holds Try.pinned (OpenSpec.ofChange trackWhereSpec)

/-- ITS FALSE NEIGHBOUR: 'it returns false'. Refute it at one input. -/
def trackWhereWrong : ChangeSpec := { name := "trackWhere", fn := fun _ => fun
  | [d1, d2] => { results := [.lit (.bool false)], args := [d1, d2] }
  | _ => none }
def TrackWhereWrongFalsely : Prop := trackWhereRow.holds Try.pinned (OpenSpec.ofChange trackWhereWrong)

/-- 'hangfirelaw05.TrackBest': WHATEVER THE INPUT: true; the input reads as it did. -/
def trackBestSpec : ChangeSpec := { name := "trackBest", fn := fun _ => fun
  | [d1, d2] => { results := [.lit (.bool true)], args := [d1, d2] }
  | _ => none }
def trackBestRow : OpenClaim := { program := "ytclbbchehjapjaa", sum := "e6ca6d7de459b4d3aaf2df1474560c97bd3237c1c2266bd50f084cde129d8c50", func := "hangfire/hangfirelaw05.TrackBest", spec := "trackBest", unfollowed := true, recurses := true, plainKeys := false, apart := false }
def TrackBestSaid : Prop := trackBestRow.holds Try.pinned (OpenSpec.ofChange trackBestSpec)

/-- ITS FALSE NEIGHBOUR: 'it returns false'. Refute it at one input. -/
def trackBestWrong : ChangeSpec := { name := "trackBest", fn := fun _ => fun
  | [d1, d2] => { results := [.lit (.bool false)], args := [d1, d2] }
  | _ => none }
def TrackBestWrongFalsely : Prop := trackBestRow.holds Try.pinned (OpenSpec.ofChange trackBestWrong)

/-- 'hangfirelaw05.TrackGapped': WHATEVER THE INPUT: true; the input reads as it did. -/
def trackGappedSpec : ChangeSpec := { name := "trackGapped", fn := fun _ => fun
  | [d1, d2] => { results := [.lit (.bool true)], args := [d1, d2] }
  | _ => none }
def trackGappedRow : OpenClaim := { program := "ytclbbchehjapjaa", sum := "e6ca6d7de459b4d3aaf2df1474560c97bd3237c1c2266bd50f084cde129d8c50", func := "hangfire/hangfirelaw05.TrackGapped", spec := "trackGapped", unfollowed := true, recurses := true, plainKeys := false, apart := false }
def TrackGappedSaid : Prop := trackGappedRow.holds Try.pinned (OpenSpec.ofChange trackGappedSpec)

/-- ITS FALSE NEIGHBOUR: 'it returns false'. Refute it at one input. -/
def trackGappedWrong : ChangeSpec := { name := "trackGapped", fn := fun _ => fun
  | [d1, d2] => { results := [.lit (.bool false)], args := [d1, d2] }
  | _ => none }
def TrackGappedWrongFalsely : Prop := trackGappedRow.holds Try.pinned (OpenSpec.ofChange trackGappedWrong)

/- THE SECOND FORM. 'bulk': how many values and letters a reading holds, each counted each time it is reached (what is shared counts as often as it is met; a slice's spare places count too). A statement '..UptoSaid' is the law's where the arguments, and the package variables that the reading takes, are together of bulk at most 1048576: NARROWER than '..Said'. Prove '..Said' where nothing that the law and all that it calls make is longer than what came in: it says more and counts as full. Else prove '..UptoSaid'. A law counts once. -/
mutual
def uptoBulk {H : Type} : DataW H → Nat
  | .lit (.string bytes) => bytes.length + 1
  | .lit _ => 1
  | .nil => 1
  | .ptr d => uptoBulk d + 1
  | .slice elems spare => uptoBulkAll elems + uptoBulkAll spare + 1
  | .agg parts => uptoBulkAll parts + 1
  | .iface _ d => uptoBulk d + 1
  | .map entries => uptoBulkEntries entries + 1
  | .held _ => 1
def uptoBulkAll {H : Type} : List (DataW H) → Nat
  | [] => 0
  | d :: r => uptoBulk d + uptoBulkAll r
def uptoBulkEntries {H : Type} : List (Lit × DataW H) → Nat
  | [] => 0
  | x :: r => uptoBulkEntry x + uptoBulkEntries r
def uptoBulkEntry {H : Type} : Lit × DataW H → Nat
  | (.string bytes, d) => bytes.length + uptoBulk d + 1
  | (_, d) => uptoBulk d + 1
 end
def uptoSmall : (H : Type) → List (DataW H) → Bool := fun _ ds => decide (uptoBulkAll ds ≤ 1048576)
def OpenSpec.upto (s : _root_.Go.ChangeSpec) : _root_.Go.OpenSpec := { _root_.Go.OpenSpec.ofChange s with cond := some uptoSmall }

/-- 'hangfirelaw05.TrackChecks', WHERE WHAT IT READS IS OF BULK AT MOST 1048576: true; the input reads as it did. -/
def trackChecksUptoRow : OpenClaim := { program := "ytclbbchehjapjaa", sum := "e6ca6d7de459b4d3aaf2df1474560c97bd3237c1c2266bd50f084cde129d8c50", func := "hangfire/hangfirelaw05.TrackChecks", spec := "trackChecks", unfollowed := true, recurses := true, plainKeys := false, apart := false, narrowed := true }
def TrackChecksUptoSaid : Prop := trackChecksUptoRow.holds Try.pinned (OpenSpec.upto trackChecksSpec)

/-- 'hangfirelaw05.TrackMore', WHERE WHAT IT READS IS OF BULK AT MOST 1048576: true; the input reads as it did. -/
def trackMoreUptoRow : OpenClaim := { program := "ytclbbchehjapjaa", sum := "e6ca6d7de459b4d3aaf2df1474560c97bd3237c1c2266bd50f084cde129d8c50", func := "hangfire/hangfirelaw05.TrackMore", spec := "trackMore", unfollowed := true, recurses := true, plainKeys := false, apart := false, narrowed := true }
def TrackMoreUptoSaid : Prop := trackMoreUptoRow.holds Try.pinned (OpenSpec.upto trackMoreSpec)

/-- 'hangfirelaw05.TrackLooser', WHERE WHAT IT READS IS OF BULK AT MOST 1048576: true; the input reads as it did. -/
def trackLooserUptoRow : OpenClaim := { program := "ytclbbchehjapjaa", sum := "e6ca6d7de459b4d3aaf2df1474560c97bd3237c1c2266bd50f084cde129d8c50", func := "hangfire/hangfirelaw05.TrackLooser", spec := "trackLooser", unfollowed := true, recurses := true, plainKeys := false, apart := false, narrowed := true }
def TrackLooserUptoSaid : Prop := trackLooserUptoRow.holds Try.pinned (OpenSpec.upto trackLooserSpec)

/-- 'hangfirelaw05.TrackReach', WHERE WHAT IT READS IS OF BULK AT MOST 1048576: true; the input reads as it did. -/
def trackReachUptoRow : OpenClaim := { program := "ytclbbchehjapjaa", sum := "e6ca6d7de459b4d3aaf2df1474560c97bd3237c1c2266bd50f084cde129d8c50", func := "hangfire/hangfirelaw05.TrackReach", spec := "trackReach", unfollowed := true, recurses := true, plainKeys := false, apart := false, narrowed := true }
def TrackReachUptoSaid : Prop := trackReachUptoRow.holds Try.pinned (OpenSpec.upto trackReachSpec)

/-- 'hangfirelaw05.TrackKnows', WHERE WHAT IT READS IS OF BULK AT MOST 1048576: true; the input reads as it did. -/
def trackKnowsUptoRow : OpenClaim := { program := "ytclbbchehjapjaa", sum := "e6ca6d7de459b4d3aaf2df1474560c97bd3237c1c2266bd50f084cde129d8c50", func := "hangfire/hangfirelaw05.TrackKnows", spec := "trackKnows", unfollowed := true, recurses := true, plainKeys := false, apart := false, narrowed := true }
def TrackKnowsUptoSaid : Prop := trackKnowsUptoRow.holds Try.pinned (OpenSpec.upto trackKnowsSpec)

/-- 'hangfirelaw05.TrackUnknown', WHERE WHAT IT READS IS OF BULK AT MOST 1048576: true; the input reads as it did. -/
def trackUnknownUptoRow : OpenClaim := { program := "ytclbbchehjapjaa", sum := "e6ca6d7de459b4d3aaf2df1474560c97bd3237c1c2266bd50f084cde129d8c50", func := "hangfire/hangfirelaw05.TrackUnknown", spec := "trackUnknown", unfollowed := true, recurses := true, plainKeys := false, apart := false, narrowed := true }
def TrackUnknownUptoSaid : Prop := trackUnknownUptoRow.holds Try.pinned (OpenSpec.upto trackUnknownSpec)

/-- 'hangfirelaw05.TrackSpares', WHERE WHAT IT READS IS OF BULK AT MOST 1048576: true; the input reads as it did. -/
def trackSparesUptoRow : OpenClaim := { program := "ytclbbchehjapjaa", sum := "e6ca6d7de459b4d3aaf2df1474560c97bd3237c1c2266bd50f084cde129d8c50", func := "hangfire/hangfirelaw05.TrackSpares", spec := "trackSpares", unfollowed := true, recurses := true, plainKeys := false, apart := false, narrowed := true }
def TrackSparesUptoSaid : Prop := trackSparesUptoRow.holds Try.pinned (OpenSpec.upto trackSparesSpec)

/-- 'hangfirelaw05.TrackTrue', WHERE WHAT IT READS IS OF BULK AT MOST 1048576: true; the input reads as it did. -/
def trackTrueUptoRow : OpenClaim := { program := "ytclbbchehjapjaa", sum := "e6ca6d7de459b4d3aaf2df1474560c97bd3237c1c2266bd50f084cde129d8c50", func := "hangfire/hangfirelaw05.TrackTrue", spec := "trackTrue", unfollowed := true, recurses := true, plainKeys := false, apart := false, narrowed := true }
def TrackTrueUptoSaid : Prop := trackTrueUptoRow.holds Try.pinned (OpenSpec.upto trackTrueSpec)

/-- 'hangfirelaw05.TrackOne', WHERE WHAT IT READS IS OF BULK AT MOST 1048576: true; the input reads as it did. -/
def trackOneUptoRow : OpenClaim := { program := "ytclbbchehjapjaa", sum := "e6ca6d7de459b4d3aaf2df1474560c97bd3237c1c2266bd50f084cde129d8c50", func := "hangfire/hangfirelaw05.TrackOne", spec := "trackOne", unfollowed := true, recurses := true, plainKeys := false, apart := false, narrowed := true }
def TrackOneUptoSaid : Prop := trackOneUptoRow.holds Try.pinned (OpenSpec.upto trackOneSpec)

/-- 'hangfirelaw05.TrackWhere', WHERE WHAT IT READS IS OF BULK AT MOST 1048576: true; the input reads as it did. -/
def trackWhereUptoRow : OpenClaim := { program := "ytclbbchehjapjaa", sum := "e6ca6d7de459b4d3aaf2df1474560c97bd3237c1c2266bd50f084cde129d8c50", func := "hangfire/hangfirelaw05.TrackWhere", spec := "trackWhere", unfollowed := true, recurses := true, plainKeys := false, apart := false, narrowed := true }
def TrackWhereUptoSaid : Prop := trackWhereUptoRow.holds Try.pinned (OpenSpec.upto trackWhereSpec)

/-- 'hangfirelaw05.TrackBest', WHERE WHAT IT READS IS OF BULK AT MOST 1048576: true; the input reads as it did. -/
def trackBestUptoRow : OpenClaim := { program := "ytclbbchehjapjaa", sum := "e6ca6d7de459b4d3aaf2df1474560c97bd3237c1c2266bd50f084cde129d8c50", func := "hangfire/hangfirelaw05.TrackBest", spec := "trackBest", unfollowed := true, recurses := true, plainKeys := false, apart := false, narrowed := true }
def TrackBestUptoSaid : Prop := trackBestUptoRow.holds Try.pinned (OpenSpec.upto trackBestSpec)

/-- 'hangfirelaw05.TrackGapped', WHERE WHAT IT READS IS OF BULK AT MOST 1048576: true; the input reads as it did. -/
def trackGappedUptoRow : OpenClaim := { program := "ytclbbchehjapjaa", sum := "e6ca6d7de459b4d3aaf2df1474560c97bd3237c1c2266bd50f084cde129d8c50", func := "hangfire/hangfirelaw05.TrackGapped", spec := "trackGapped", unfollowed := true, recurses := true, plainKeys := false, apart := false, narrowed := true }
def TrackGappedUptoSaid : Prop := trackGappedUptoRow.holds Try.pinned (OpenSpec.upto trackGappedSpec)

end Rows
end Go.Proofs.Ytclbbchehjapjaa
