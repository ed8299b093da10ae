/-
  NARROWER THAN 'FOR EVERY INPUT', by the rows' own cells (each row's printed sentence says how): DestructChecks: laid · DestructTrue: laid · DestructWider: laid · DestructRoom: laid · DestructOnce: laid · DestructStays: laid · DestructMeans: laid.
  DERIVED. THE GIVEN ROWS OF THIS SEAT. 7 by the template 'for every input the law returns true; each argument reads behind the call as it read before'; 0 by the template 'total and deterministic' (their statements: YtlcccpeelombbaaDoorTotals.lean).
  GIVEN WITH THE SEED: the statements are not yours to turn. If you find one false, say at which input.
  Laid BY PROGRAM, IN A SANDBOX (cutbox-rows.mjs): the forced cells as the released guide's own fill.sh prints them over the translation 3ddfe292ce24a79d… (all of the seat's roots in one cut). By AI agents, Wed Nov 11 2026. No macro, syntax, notation, axiom, sorry.
-/
import Derived.Test.YtlcccpeelombbaaDoorChecked
import GoSem.Claim
import GoSem.ClaimJoined
import GoSem.ClaimMapViews
import Derived.JoinedTies
import Derived.KernelRfl
namespace Go.Proofs.YtlcccpeelombbaaDoor
/- THE CELL 'sum', in the pinned program and in every row, IS THE sha256 OF THE DUMP (.gsa) THAT YtlcccpeelombbaaDoorProg.lean LOADS. Nothing in Lean hashes anything: it is a label: what it is worth is what the hold of that sum in a sandbox is worth. -/
noncomputable def Tryd.pinned : Pinned := { name := "ytlcccpeelombbaadoor", sum := "3ddfe292ce24a79d29ec0a0276b145ec42d56b8d0b3abd30ca8051460a026366", checked := Tryd.checked }
namespace Rows
def none {H : Type} : Left H := { results := [], args := [] }

/- WHAT THE LISTED PACKAGE-LEVEL VARIABLES READ AS WHEN THE CALL BEGINS. Each datum BY PROGRAM (the guide's laid-datum.mjs) off the statement by which the dump's own 'gosem.cut.vars' lays the variable. In a bare row this is a premise. The card (YtlcccpeelombbaaDoorCards.lean) ties it to the program's text. -/
def laid_hangfire_destruct_errFar {H : Type} : DataW H := .iface "*errors.errorString" (.ptr (.agg [.lit (.string [116, 111, 111, 32, 102, 97, 114])]))
def laid_hangfire_destruct_errLong {H : Type} : DataW H := .iface "*errors.errorString" (.ptr (.agg [.lit (.string [105, 116, 32, 100, 111, 101, 115, 32, 110, 111, 116, 32, 99, 111, 109, 101, 32, 100, 111, 119, 110])]))

/-- 'hangfirelaw06.DestructChecks': WHATEVER THE INPUT: true; the input reads as it did. -/
def destructChecksSpec : ChangeSpec := { name := "destructChecks", fn := fun _ => fun
  | [d] => { results := [.lit (.bool true)], args := [d] }
  | _ => none }
def destructChecksRow : OpenClaim := { program := "ytlcccpeelombbaadoor", sum := "3ddfe292ce24a79d29ec0a0276b145ec42d56b8d0b3abd30ca8051460a026366", func := "hangfire/hangfirelaw06.DestructChecks", spec := "destructChecks", inPlace := ["internal/reflectlite.TypeOf"], unfollowed := true, recurses := true, named := ["hangfire/destruct.errFar", "hangfire/destruct.errLong"], plainKeys := false, apart := false, laid := [("hangfire/destruct.errFar", laid_hangfire_destruct_errFar), ("hangfire/destruct.errLong", laid_hangfire_destruct_errLong)] }
def DestructChecksSaid : Prop := destructChecksRow.holds Tryd.pinned (OpenSpec.ofChange destructChecksSpec)

/-- ITS FALSE NEIGHBOUR: 'it returns false'. Refute it at one input. -/
def destructChecksWrong : ChangeSpec := { name := "destructChecks", fn := fun _ => fun
  | [d] => { results := [.lit (.bool false)], args := [d] }
  | _ => none }
def DestructChecksWrongFalsely : Prop := destructChecksRow.holds Tryd.pinned (OpenSpec.ofChange destructChecksWrong)

/-- 'hangfirelaw06.DestructTrue': WHATEVER THE INPUT: true; the input reads as it did. -/
def destructTrueSpec : ChangeSpec := { name := "destructTrue", fn := fun _ => fun
  | [d1, d2, d3] => { results := [.lit (.bool true)], args := [d1, d2, d3] }
  | _ => none }
def destructTrueRow : OpenClaim := { program := "ytlcccpeelombbaadoor", sum := "3ddfe292ce24a79d29ec0a0276b145ec42d56b8d0b3abd30ca8051460a026366", func := "hangfire/hangfirelaw06.DestructTrue", spec := "destructTrue", inPlace := ["internal/reflectlite.TypeOf"], unfollowed := true, recurses := true, named := ["hangfire/destruct.errFar", "hangfire/destruct.errLong"], plainKeys := false, apart := false, laid := [("hangfire/destruct.errFar", laid_hangfire_destruct_errFar), ("hangfire/destruct.errLong", laid_hangfire_destruct_errLong)] }
def DestructTrueSaid : Prop := destructTrueRow.holds Tryd.pinned (OpenSpec.ofChange destructTrueSpec)

/-- ITS FALSE NEIGHBOUR: 'it returns false'. Refute it at one input. -/
def destructTrueWrong : ChangeSpec := { name := "destructTrue", fn := fun _ => fun
  | [d1, d2, d3] => { results := [.lit (.bool false)], args := [d1, d2, d3] }
  | _ => none }
def DestructTrueWrongFalsely : Prop := destructTrueRow.holds Tryd.pinned (OpenSpec.ofChange destructTrueWrong)

/-- 'hangfirelaw06.DestructWider': WHATEVER THE INPUT: true; the input reads as it did. -/
def destructWiderSpec : ChangeSpec := { name := "destructWider", fn := fun _ => fun
  | [d1, d2, d3] => { results := [.lit (.bool true)], args := [d1, d2, d3] }
  | _ => none }
def destructWiderRow : OpenClaim := { program := "ytlcccpeelombbaadoor", sum := "3ddfe292ce24a79d29ec0a0276b145ec42d56b8d0b3abd30ca8051460a026366", func := "hangfire/hangfirelaw06.DestructWider", spec := "destructWider", inPlace := ["internal/reflectlite.TypeOf"], unfollowed := true, recurses := true, named := ["hangfire/destruct.errFar", "hangfire/destruct.errLong"], plainKeys := false, apart := false, laid := [("hangfire/destruct.errFar", laid_hangfire_destruct_errFar), ("hangfire/destruct.errLong", laid_hangfire_destruct_errLong)] }
def DestructWiderSaid : Prop := destructWiderRow.holds Tryd.pinned (OpenSpec.ofChange destructWiderSpec)

/-- ITS FALSE NEIGHBOUR: 'it returns false'. Refute it at one input. -/
def destructWiderWrong : ChangeSpec := { name := "destructWider", fn := fun _ => fun
  | [d1, d2, d3] => { results := [.lit (.bool false)], args := [d1, d2, d3] }
  | _ => none }
def DestructWiderWrongFalsely : Prop := destructWiderRow.holds Tryd.pinned (OpenSpec.ofChange destructWiderWrong)

/-- 'hangfirelaw06.DestructRoom': WHATEVER THE INPUT: true; the input reads as it did. -/
def destructRoomSpec : ChangeSpec := { name := "destructRoom", fn := fun _ => fun
  | [d1, d2, d3] => { results := [.lit (.bool true)], args := [d1, d2, d3] }
  | _ => none }
def destructRoomRow : OpenClaim := { program := "ytlcccpeelombbaadoor", sum := "3ddfe292ce24a79d29ec0a0276b145ec42d56b8d0b3abd30ca8051460a026366", func := "hangfire/hangfirelaw06.DestructRoom", spec := "destructRoom", inPlace := ["internal/reflectlite.TypeOf"], unfollowed := true, recurses := true, named := ["hangfire/destruct.errFar", "hangfire/destruct.errLong"], plainKeys := false, apart := false, laid := [("hangfire/destruct.errFar", laid_hangfire_destruct_errFar), ("hangfire/destruct.errLong", laid_hangfire_destruct_errLong)] }
def DestructRoomSaid : Prop := destructRoomRow.holds Tryd.pinned (OpenSpec.ofChange destructRoomSpec)

/-- ITS FALSE NEIGHBOUR: 'it returns false'. Refute it at one input. -/
def destructRoomWrong : ChangeSpec := { name := "destructRoom", fn := fun _ => fun
  | [d1, d2, d3] => { results := [.lit (.bool false)], args := [d1, d2, d3] }
  | _ => none }
def DestructRoomWrongFalsely : Prop := destructRoomRow.holds Tryd.pinned (OpenSpec.ofChange destructRoomWrong)

/-- 'hangfirelaw06.DestructOnce': WHATEVER THE INPUT: true; the input reads as it did. -/
def destructOnceSpec : ChangeSpec := { name := "destructOnce", fn := fun _ => fun
  | [d1, d2, d3] => { results := [.lit (.bool true)], args := [d1, d2, d3] }
  | _ => none }
def destructOnceRow : OpenClaim := { program := "ytlcccpeelombbaadoor", sum := "3ddfe292ce24a79d29ec0a0276b145ec42d56b8d0b3abd30ca8051460a026366", func := "hangfire/hangfirelaw06.DestructOnce", spec := "destructOnce", inPlace := ["internal/reflectlite.TypeOf"], unfollowed := true, recurses := true, named := ["hangfire/destruct.errFar", "hangfire/destruct.errLong"], plainKeys := false, apart := false, laid := [("hangfire/destruct.errFar", laid_hangfire_destruct_errFar), ("hangfire/destruct.errLong", laid_hangfire_destruct_errLong)] }
def DestructOnceSaid : Prop := destructOnceRow.holds Tryd.pinned (OpenSpec.ofChange destructOnceSpec)

/-- ITS FALSE NEIGHBOUR: 'it returns false'. Refute it at one input. -/
def destructOnceWrong : ChangeSpec := { name := "destructOnce", fn := fun _ => fun
  | [d1, d2, d3] => { results := [.lit (.bool false)], args := [d1, d2, d3] }
  | _ => none }
def DestructOnceWrongFalsely : Prop := destructOnceRow.holds Tryd.pinned (OpenSpec.ofChange destructOnceWrong)

/-- 'hangfirelaw06.DestructStays': WHATEVER THE INPUT: true; the input reads as it did. -/
def destructStaysSpec : ChangeSpec := { name := "destructStays", fn := fun _ => fun
  | [d1, d2, d3] => { results := [.lit (.bool true)], args := [d1, d2, d3] }
  | _ => none }
def destructStaysRow : OpenClaim := { program := "ytlcccpeelombbaadoor", sum := "3ddfe292ce24a79d29ec0a0276b145ec42d56b8d0b3abd30ca8051460a026366", func := "hangfire/hangfirelaw06.DestructStays", spec := "destructStays", inPlace := ["internal/reflectlite.TypeOf"], unfollowed := true, recurses := true, named := ["hangfire/destruct.errFar", "hangfire/destruct.errLong"], plainKeys := false, apart := false, laid := [("hangfire/destruct.errFar", laid_hangfire_destruct_errFar), ("hangfire/destruct.errLong", laid_hangfire_destruct_errLong)] }
def DestructStaysSaid : Prop := destructStaysRow.holds Tryd.pinned (OpenSpec.ofChange destructStaysSpec)

/-- ITS FALSE NEIGHBOUR: 'it returns false'. Refute it at one input. -/
def destructStaysWrong : ChangeSpec := { name := "destructStays", fn := fun _ => fun
  | [d1, d2, d3] => { results := [.lit (.bool false)], args := [d1, d2, d3] }
  | _ => none }
def DestructStaysWrongFalsely : Prop := destructStaysRow.holds Tryd.pinned (OpenSpec.ofChange destructStaysWrong)

/-- 'hangfirelaw06.DestructMeans': WHATEVER THE INPUT: true; the input reads as it did. -/
def destructMeansSpec : ChangeSpec := { name := "destructMeans", fn := fun _ => fun
  | [d1, d2, d3] => { results := [.lit (.bool true)], args := [d1, d2, d3] }
  | _ => none }
def destructMeansRow : OpenClaim := { program := "ytlcccpeelombbaadoor", sum := "3ddfe292ce24a79d29ec0a0276b145ec42d56b8d0b3abd30ca8051460a026366", func := "hangfire/hangfirelaw06.DestructMeans", spec := "destructMeans", inPlace := ["internal/reflectlite.TypeOf"], unfollowed := true, recurses := true, named := ["hangfire/destruct.errFar", "hangfire/destruct.errLong"], plainKeys := false, apart := false, laid := [("hangfire/destruct.errFar", laid_hangfire_destruct_errFar), ("hangfire/destruct.errLong", laid_hangfire_destruct_errLong)] }
def DestructMeansSaid : Prop := destructMeansRow.holds Tryd.pinned (OpenSpec.ofChange destructMeansSpec)

/-- ITS FALSE NEIGHBOUR: 'it returns false'. Refute it at one input. -/
def destructMeansWrong : ChangeSpec := { name := "destructMeans", fn := fun _ => fun
  | [d1, d2, d3] => { results := [.lit (.bool false)], args := [d1, d2, d3] }
  | _ => none }
def DestructMeansWrongFalsely : Prop := destructMeansRow.holds Tryd.pinned (OpenSpec.ofChange destructMeansWrong)

/- THE SECOND FORM. 'bulk': how many values and letters a reading holds, each counted each time it is reached (what is shared counts as often as it is met; a slice's spare places count too). A statement '..UptoSaid' is the law's where the arguments, and the package variables that the reading takes, are together of bulk at most 1048576: NARROWER than '..Said'. Prove '..Said' where nothing that the law and all that it calls make is longer than what came in: it says more and counts as full. Else prove '..UptoSaid'. A law counts once. -/
mutual
def uptoBulk {H : Type} : DataW H → Nat
  | .lit (.string bytes) => bytes.length + 1
  | .lit _ => 1
  | .nil => 1
  | .ptr d => uptoBulk d + 1
  | .slice elems spare => uptoBulkAll elems + uptoBulkAll spare + 1
  | .agg parts => uptoBulkAll parts + 1
  | .iface _ d => uptoBulk d + 1
  | .map entries => uptoBulkEntries entries + 1
  | .held _ => 1
def uptoBulkAll {H : Type} : List (DataW H) → Nat
  | [] => 0
  | d :: r => uptoBulk d + uptoBulkAll r
def uptoBulkEntries {H : Type} : List (Lit × DataW H) → Nat
  | [] => 0
  | x :: r => uptoBulkEntry x + uptoBulkEntries r
def uptoBulkEntry {H : Type} : Lit × DataW H → Nat
  | (.string bytes, d) => bytes.length + uptoBulk d + 1
  | (_, d) => uptoBulk d + 1
 end
def uptoSmall : (H : Type) → List (DataW H) → Bool := fun _ ds => decide (uptoBulkAll ds ≤ 1048576)
def OpenSpec.upto (s : _root_.Go.ChangeSpec) : _root_.Go.OpenSpec := { _root_.Go.OpenSpec.ofChange s with cond := some uptoSmall }

/-- 'hangfirelaw06.DestructChecks', WHERE WHAT IT READS IS OF BULK AT MOST 1048576: true; the input reads as it did. -/
def destructChecksUptoRow : OpenClaim := { program := "ytlcccpeelombbaadoor", sum := "3ddfe292ce24a79d29ec0a0276b145ec42d56b8d0b3abd30ca8051460a026366", func := "hangfire/hangfirelaw06.DestructChecks", spec := "destructChecks", inPlace := ["internal/reflectlite.TypeOf"], unfollowed := true, recurses := true, named := ["hangfire/destruct.errFar", "hangfire/destruct.errLong"], plainKeys := false, apart := false, laid := [("hangfire/destruct.errFar", laid_hangfire_destruct_errFar), ("hangfire/destruct.errLong", laid_hangfire_destruct_errLong)], narrowed := true }
def DestructChecksUptoSaid : Prop := destructChecksUptoRow.holds Tryd.pinned (OpenSpec.upto destructChecksSpec)

/-- 'hangfirelaw06.DestructTrue', WHERE WHAT IT READS IS OF BULK AT MOST 1048576: true; the input reads as it did. -/
def destructTrueUptoRow : OpenClaim := { program := "ytlcccpeelombbaadoor", sum := "3ddfe292ce24a79d29ec0a0276b145ec42d56b8d0b3abd30ca8051460a026366", func := "hangfire/hangfirelaw06.DestructTrue", spec := "destructTrue", inPlace := ["internal/reflectlite.TypeOf"], unfollowed := true, recurses := true, named := ["hangfire/destruct.errFar", "hangfire/destruct.errLong"], plainKeys := false, apart := false, laid := [("hangfire/destruct.errFar", laid_hangfire_destruct_errFar), ("hangfire/destruct.errLong", laid_hangfire_destruct_errLong)], narrowed := true }
def DestructTrueUptoSaid : Prop := destructTrueUptoRow.holds Tryd.pinned (OpenSpec.upto destructTrueSpec)

/-- 'hangfirelaw06.DestructWider', WHERE WHAT IT READS IS OF BULK AT MOST 1048576: true; the input reads as it did. -/
def destructWiderUptoRow : OpenClaim := { program := "ytlcccpeelombbaadoor", sum := "3ddfe292ce24a79d29ec0a0276b145ec42d56b8d0b3abd30ca8051460a026366", func := "hangfire/hangfirelaw06.DestructWider", spec := "destructWider", inPlace := ["internal/reflectlite.TypeOf"], unfollowed := true, recurses := true, named := ["hangfire/destruct.errFar", "hangfire/destruct.errLong"], plainKeys := false, apart := false, laid := [("hangfire/destruct.errFar", laid_hangfire_destruct_errFar), ("hangfire/destruct.errLong", laid_hangfire_destruct_errLong)], narrowed := true }
def DestructWiderUptoSaid : Prop := destructWiderUptoRow.holds Tryd.pinned (OpenSpec.upto destructWiderSpec)

/-- 'hangfirelaw06.DestructRoom', WHERE WHAT IT READS IS OF BULK AT MOST 1048576: true; the input reads as it did. -/
def destructRoomUptoRow : OpenClaim := { program := "ytlcccpeelombbaadoor", sum := "3ddfe292ce24a79d29ec0a0276b145ec42d56b8d0b3abd30ca8051460a026366", func := "hangfire/hangfirelaw06.DestructRoom", spec := "destructRoom", inPlace := ["internal/reflectlite.TypeOf"], unfollowed := true, recurses := true, named := ["hangfire/destruct.errFar", "hangfire/destruct.errLong"], plainKeys := false, apart := false, laid := [("hangfire/destruct.errFar", laid_hangfire_destruct_errFar), ("hangfire/destruct.errLong", laid_hangfire_destruct_errLong)], narrowed := true }
def DestructRoomUptoSaid : Prop := destructRoomUptoRow.holds Tryd.pinned (OpenSpec.upto destructRoomSpec)

/-- 'hangfirelaw06.DestructOnce', WHERE WHAT IT READS IS OF BULK AT MOST 1048576: true; the input reads as it did. -/
def destructOnceUptoRow : OpenClaim := { program := "ytlcccpeelombbaadoor", sum := "3ddfe292ce24a79d29ec0a0276b145ec42d56b8d0b3abd30ca8051460a026366", func := "hangfire/hangfirelaw06.DestructOnce", spec := "destructOnce", inPlace := ["internal/reflectlite.TypeOf"], unfollowed := true, recurses := true, named := ["hangfire/destruct.errFar", "hangfire/destruct.errLong"], plainKeys := false, apart := false, laid := [("hangfire/destruct.errFar", laid_hangfire_destruct_errFar), ("hangfire/destruct.errLong", laid_hangfire_destruct_errLong)], narrowed := true }
def DestructOnceUptoSaid : Prop := destructOnceUptoRow.holds Tryd.pinned (OpenSpec.upto destructOnceSpec)

/-- 'hangfirelaw06.DestructStays', WHERE WHAT IT READS IS OF BULK AT MOST 1048576: true; the input reads as it did. -/
def destructStaysUptoRow : OpenClaim := { program := "ytlcccpeelombbaadoor", sum := "3ddfe292ce24a79d29ec0a0276b145ec42d56b8d0b3abd30ca8051460a026366", func := "hangfire/hangfirelaw06.DestructStays", spec := "destructStays", inPlace := ["internal/reflectlite.TypeOf"], unfollowed := true, recurses := true, named := ["hangfire/destruct.errFar", "hangfire/destruct.errLong"], plainKeys := false, apart := false, laid := [("hangfire/destruct.errFar", laid_hangfire_destruct_errFar), ("hangfire/destruct.errLong", laid_hangfire_destruct_errLong)], narrowed := true }
def DestructStaysUptoSaid : Prop := destructStaysUptoRow.holds Tryd.pinned (OpenSpec.upto destructStaysSpec)

/-- 'hangfirelaw06.DestructMeans', WHERE WHAT IT READS IS OF BULK AT MOST 1048576: true; the input reads as it did. -/
def destructMeansUptoRow : OpenClaim := { program := "ytlcccpeelombbaadoor", sum := "3ddfe292ce24a79d29ec0a0276b145ec42d56b8d0b3abd30ca8051460a026366", func := "hangfire/hangfirelaw06.DestructMeans", spec := "destructMeans", inPlace := ["internal/reflectlite.TypeOf"], unfollowed := true, recurses := true, named := ["hangfire/destruct.errFar", "hangfire/destruct.errLong"], plainKeys := false, apart := false, laid := [("hangfire/destruct.errFar", laid_hangfire_destruct_errFar), ("hangfire/destruct.errLong", laid_hangfire_destruct_errLong)], narrowed := true }
def DestructMeansUptoSaid : Prop := destructMeansUptoRow.holds Tryd.pinned (OpenSpec.upto destructMeansSpec)

end Rows
end Go.Proofs.YtlcccpeelombbaaDoor
