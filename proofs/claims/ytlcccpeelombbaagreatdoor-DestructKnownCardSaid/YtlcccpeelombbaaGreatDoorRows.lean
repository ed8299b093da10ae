/-
  NARROWER THAN 'FOR EVERY INPUT', by the rows' own cells (each row's printed sentence says how): DestructFalls: laid · DestructDecides: laid · DestructLooks: laid · DestructSides: laid · DestructKnown: laid.
  DERIVED. THE GIVEN ROWS OF THIS SEAT. 5 by the template 'for every input the law returns true; each argument reads behind the call as it read before'; 0 by the template 'total and deterministic' (their statements: YtlcccpeelombbaaGreatDoorTotals.lean).
  GIVEN WITH THE SEED: the statements are not yours to turn. If you find one false, say at which input.
  Laid BY PROGRAM, IN A SANDBOX (cutbox-rows.mjs): the forced cells as the released guide's own fill.sh prints them over the translation 61df71e8b5beb3f6… (all of the seat's roots in one cut). By AI agents, Wed Nov 11 2026. No macro, syntax, notation, axiom, sorry.
-/
import Derived.Test.YtlcccpeelombbaaGreatDoorChecked
import GoSem.Claim
import GoSem.ClaimJoined
import GoSem.ClaimMapViews
import Derived.JoinedTies
import Derived.KernelRfl
namespace Go.Proofs.YtlcccpeelombbaaGreatDoor
/- THE CELL 'sum', in the pinned program and in every row, IS THE sha256 OF THE DUMP (.gsa) THAT YtlcccpeelombbaaGreatDoorProg.lean LOADS. Nothing in Lean hashes anything: it is a label: what it is worth is what the hold of that sum in a sandbox is worth. -/
noncomputable def Tryz.pinned : Pinned := { name := "ytlcccpeelombbaagreatdoor", sum := "61df71e8b5beb3f607bde52a7a73ef5380ea72baa9a234832ca312a4c09608ad", checked := Tryz.checked }
namespace Rows
def none {H : Type} : Left H := { results := [], args := [] }

/- WHAT THE LISTED PACKAGE-LEVEL VARIABLES READ AS WHEN THE CALL BEGINS. Each datum BY PROGRAM (the guide's laid-datum.mjs) off the statement by which the dump's own 'gosem.cut.vars' lays the variable. In a bare row this is a premise. The card (YtlcccpeelombbaaGreatDoorCards.lean) ties it to the program's text. -/
def laid_hangfire_destruct_errFar {H : Type} : DataW H := .iface "*errors.errorString" (.ptr (.agg [.lit (.string [116, 111, 111, 32, 102, 97, 114])]))
def laid_hangfire_destruct_errLong {H : Type} : DataW H := .iface "*errors.errorString" (.ptr (.agg [.lit (.string [105, 116, 32, 100, 111, 101, 115, 32, 110, 111, 116, 32, 99, 111, 109, 101, 32, 100, 111, 119, 110])]))

/-- 'hangfirelaw06.DestructFalls': WHATEVER THE INPUT: true; the input reads as it did. -/
def destructFallsSpec : ChangeSpec := { name := "destructFalls", fn := fun _ => fun
  | [d1, d2] => { results := [.lit (.bool true)], args := [d1, d2] }
  | _ => none }
def destructFallsRow : OpenClaim := { program := "ytlcccpeelombbaagreatdoor", sum := "61df71e8b5beb3f607bde52a7a73ef5380ea72baa9a234832ca312a4c09608ad", func := "hangfire/hangfirelaw06.DestructFalls", spec := "destructFalls", inPlace := ["internal/reflectlite.TypeOf"], unfollowed := true, recurses := true, named := ["hangfire/destruct.errFar", "hangfire/destruct.errLong"], plainKeys := false, apart := false, laid := [("hangfire/destruct.errFar", laid_hangfire_destruct_errFar), ("hangfire/destruct.errLong", laid_hangfire_destruct_errLong)] }
def DestructFallsSaid : Prop := destructFallsRow.holds Tryz.pinned (OpenSpec.ofChange destructFallsSpec)

/-- ITS FALSE NEIGHBOUR: 'it returns false'. Refute it at one input. -/
def destructFallsWrong : ChangeSpec := { name := "destructFalls", fn := fun _ => fun
  | [d1, d2] => { results := [.lit (.bool false)], args := [d1, d2] }
  | _ => none }
def DestructFallsWrongFalsely : Prop := destructFallsRow.holds Tryz.pinned (OpenSpec.ofChange destructFallsWrong)

/-- 'hangfirelaw06.DestructDecides': WHATEVER THE INPUT: true; the input reads as it did. -/
def destructDecidesSpec : ChangeSpec := { name := "destructDecides", fn := fun _ => fun
  | [d1, d2, d3] => { results := [.lit (.bool true)], args := [d1, d2, d3] }
  | _ => none }
def destructDecidesRow : OpenClaim := { program := "ytlcccpeelombbaagreatdoor", sum := "61df71e8b5beb3f607bde52a7a73ef5380ea72baa9a234832ca312a4c09608ad", func := "hangfire/hangfirelaw06.DestructDecides", spec := "destructDecides", inPlace := ["internal/reflectlite.TypeOf"], unfollowed := true, recurses := true, named := ["hangfire/destruct.errFar", "hangfire/destruct.errLong"], plainKeys := false, apart := false, laid := [("hangfire/destruct.errFar", laid_hangfire_destruct_errFar), ("hangfire/destruct.errLong", laid_hangfire_destruct_errLong)] }
def DestructDecidesSaid : Prop := destructDecidesRow.holds Tryz.pinned (OpenSpec.ofChange destructDecidesSpec)

/-- ITS FALSE NEIGHBOUR: 'it returns false'. Refute it at one input. -/
def destructDecidesWrong : ChangeSpec := { name := "destructDecides", fn := fun _ => fun
  | [d1, d2, d3] => { results := [.lit (.bool false)], args := [d1, d2, d3] }
  | _ => none }
def DestructDecidesWrongFalsely : Prop := destructDecidesRow.holds Tryz.pinned (OpenSpec.ofChange destructDecidesWrong)

/-- 'hangfirelaw06.DestructLooks': WHATEVER THE INPUT: true; the input reads as it did. -/
def destructLooksSpec : ChangeSpec := { name := "destructLooks", fn := fun _ => fun
  | [d1, d2, d3] => { results := [.lit (.bool true)], args := [d1, d2, d3] }
  | _ => none }
def destructLooksRow : OpenClaim := { program := "ytlcccpeelombbaagreatdoor", sum := "61df71e8b5beb3f607bde52a7a73ef5380ea72baa9a234832ca312a4c09608ad", func := "hangfire/hangfirelaw06.DestructLooks", spec := "destructLooks", inPlace := ["internal/reflectlite.TypeOf"], unfollowed := true, recurses := true, named := ["hangfire/destruct.errFar", "hangfire/destruct.errLong"], plainKeys := false, apart := false, laid := [("hangfire/destruct.errFar", laid_hangfire_destruct_errFar), ("hangfire/destruct.errLong", laid_hangfire_destruct_errLong)] }
def DestructLooksSaid : Prop := destructLooksRow.holds Tryz.pinned (OpenSpec.ofChange destructLooksSpec)

/-- ITS FALSE NEIGHBOUR: 'it returns false'. Refute it at one input. -/
def destructLooksWrong : ChangeSpec := { name := "destructLooks", fn := fun _ => fun
  | [d1, d2, d3] => { results := [.lit (.bool false)], args := [d1, d2, d3] }
  | _ => none }
def DestructLooksWrongFalsely : Prop := destructLooksRow.holds Tryz.pinned (OpenSpec.ofChange destructLooksWrong)

/-- 'hangfirelaw06.DestructSides': WHATEVER THE INPUT: true; the input reads as it did. -/
def destructSidesSpec : ChangeSpec := { name := "destructSides", fn := fun _ => fun
  | [d1, d2] => { results := [.lit (.bool true)], args := [d1, d2] }
  | _ => none }
def destructSidesRow : OpenClaim := { program := "ytlcccpeelombbaagreatdoor", sum := "61df71e8b5beb3f607bde52a7a73ef5380ea72baa9a234832ca312a4c09608ad", func := "hangfire/hangfirelaw06.DestructSides", spec := "destructSides", inPlace := ["internal/reflectlite.TypeOf"], unfollowed := true, recurses := true, named := ["hangfire/destruct.errFar", "hangfire/destruct.errLong"], plainKeys := false, apart := false, laid := [("hangfire/destruct.errFar", laid_hangfire_destruct_errFar), ("hangfire/destruct.errLong", laid_hangfire_destruct_errLong)] }
def DestructSidesSaid : Prop := destructSidesRow.holds Tryz.pinned (OpenSpec.ofChange destructSidesSpec)

/-- ITS FALSE NEIGHBOUR: 'it returns false'. Refute it at one input. -/
def destructSidesWrong : ChangeSpec := { name := "destructSides", fn := fun _ => fun
  | [d1, d2] => { results := [.lit (.bool false)], args := [d1, d2] }
  | _ => none }
def DestructSidesWrongFalsely : Prop := destructSidesRow.holds Tryz.pinned (OpenSpec.ofChange destructSidesWrong)

/-- 'hangfirelaw06.DestructKnown': WHATEVER THE INPUT: true; the input reads as it did. -/
def destructKnownSpec : ChangeSpec := { name := "destructKnown", fn := fun _ => fun
  | [] => { results := [.lit (.bool true)], args := [] }
  | _ => none }
def destructKnownRow : OpenClaim := { program := "ytlcccpeelombbaagreatdoor", sum := "61df71e8b5beb3f607bde52a7a73ef5380ea72baa9a234832ca312a4c09608ad", func := "hangfire/hangfirelaw06.DestructKnown", spec := "destructKnown", inPlace := ["internal/reflectlite.TypeOf"], unfollowed := true, recurses := true, named := ["hangfire/destruct.errFar", "hangfire/destruct.errLong"], plainKeys := false, apart := false, laid := [("hangfire/destruct.errFar", laid_hangfire_destruct_errFar), ("hangfire/destruct.errLong", laid_hangfire_destruct_errLong)] }
def DestructKnownSaid : Prop := destructKnownRow.holds Tryz.pinned (OpenSpec.ofChange destructKnownSpec)

/-- ITS FALSE NEIGHBOUR: 'it returns false'. Refute it at one input. -/
def destructKnownWrong : ChangeSpec := { name := "destructKnown", fn := fun _ => fun
  | [] => { results := [.lit (.bool false)], args := [] }
  | _ => none }
def DestructKnownWrongFalsely : Prop := destructKnownRow.holds Tryz.pinned (OpenSpec.ofChange destructKnownWrong)

/- THE SECOND FORM. 'bulk': how many values and letters a reading holds, each counted each time it is reached (what is shared counts as often as it is met; a slice's spare places count too). A statement '..UptoSaid' is the law's where the arguments, and the package variables that the reading takes, are together of bulk at most 1048576: NARROWER than '..Said'. Prove '..Said' where nothing that the law and all that it calls make is longer than what came in: it says more and counts as full. Else prove '..UptoSaid'. A law counts once. -/
mutual
def uptoBulk {H : Type} : DataW H → Nat
  | .lit (.string bytes) => bytes.length + 1
  | .lit _ => 1
  | .nil => 1
  | .ptr d => uptoBulk d + 1
  | .slice elems spare => uptoBulkAll elems + uptoBulkAll spare + 1
  | .agg parts => uptoBulkAll parts + 1
  | .iface _ d => uptoBulk d + 1
  | .map entries => uptoBulkEntries entries + 1
  | .held _ => 1
def uptoBulkAll {H : Type} : List (DataW H) → Nat
  | [] => 0
  | d :: r => uptoBulk d + uptoBulkAll r
def uptoBulkEntries {H : Type} : List (Lit × DataW H) → Nat
  | [] => 0
  | x :: r => uptoBulkEntry x + uptoBulkEntries r
def uptoBulkEntry {H : Type} : Lit × DataW H → Nat
  | (.string bytes, d) => bytes.length + uptoBulk d + 1
  | (_, d) => uptoBulk d + 1
 end
def uptoSmall : (H : Type) → List (DataW H) → Bool := fun _ ds => decide (uptoBulkAll ds ≤ 1048576)
def OpenSpec.upto (s : _root_.Go.ChangeSpec) : _root_.Go.OpenSpec := { _root_.Go.OpenSpec.ofChange s with cond := some uptoSmall }

/-- 'hangfirelaw06.DestructFalls', WHERE WHAT IT READS IS OF BULK AT MOST 1048576: true; the input reads as it did. -/
def destructFallsUptoRow : OpenClaim := { program := "ytlcccpeelombbaagreatdoor", sum := "61df71e8b5beb3f607bde52a7a73ef5380ea72baa9a234832ca312a4c09608ad", func := "hangfire/hangfirelaw06.DestructFalls", spec := "destructFalls", inPlace := ["internal/reflectlite.TypeOf"], unfollowed := true, recurses := true, named := ["hangfire/destruct.errFar", "hangfire/destruct.errLong"], plainKeys := false, apart := false, laid := [("hangfire/destruct.errFar", laid_hangfire_destruct_errFar), ("hangfire/destruct.errLong", laid_hangfire_destruct_errLong)], narrowed := true }
def DestructFallsUptoSaid : Prop := destructFallsUptoRow.holds Tryz.pinned (OpenSpec.upto destructFallsSpec)

/-- 'hangfirelaw06.DestructDecides', WHERE WHAT IT READS IS OF BULK AT MOST 1048576: true; the input reads as it did. -/
def destructDecidesUptoRow : OpenClaim := { program := "ytlcccpeelombbaagreatdoor", sum := "61df71e8b5beb3f607bde52a7a73ef5380ea72baa9a234832ca312a4c09608ad", func := "hangfire/hangfirelaw06.DestructDecides", spec := "destructDecides", inPlace := ["internal/reflectlite.TypeOf"], unfollowed := true, recurses := true, named := ["hangfire/destruct.errFar", "hangfire/destruct.errLong"], plainKeys := false, apart := false, laid := [("hangfire/destruct.errFar", laid_hangfire_destruct_errFar), ("hangfire/destruct.errLong", laid_hangfire_destruct_errLong)], narrowed := true }
def DestructDecidesUptoSaid : Prop := destructDecidesUptoRow.holds Tryz.pinned (OpenSpec.upto destructDecidesSpec)

/-- 'hangfirelaw06.DestructLooks', WHERE WHAT IT READS IS OF BULK AT MOST 1048576: true; the input reads as it did. -/
def destructLooksUptoRow : OpenClaim := { program := "ytlcccpeelombbaagreatdoor", sum := "61df71e8b5beb3f607bde52a7a73ef5380ea72baa9a234832ca312a4c09608ad", func := "hangfire/hangfirelaw06.DestructLooks", spec := "destructLooks", inPlace := ["internal/reflectlite.TypeOf"], unfollowed := true, recurses := true, named := ["hangfire/destruct.errFar", "hangfire/destruct.errLong"], plainKeys := false, apart := false, laid := [("hangfire/destruct.errFar", laid_hangfire_destruct_errFar), ("hangfire/destruct.errLong", laid_hangfire_destruct_errLong)], narrowed := true }
def DestructLooksUptoSaid : Prop := destructLooksUptoRow.holds Tryz.pinned (OpenSpec.upto destructLooksSpec)

/-- 'hangfirelaw06.DestructSides', WHERE WHAT IT READS IS OF BULK AT MOST 1048576: true; the input reads as it did. -/
def destructSidesUptoRow : OpenClaim := { program := "ytlcccpeelombbaagreatdoor", sum := "61df71e8b5beb3f607bde52a7a73ef5380ea72baa9a234832ca312a4c09608ad", func := "hangfire/hangfirelaw06.DestructSides", spec := "destructSides", inPlace := ["internal/reflectlite.TypeOf"], unfollowed := true, recurses := true, named := ["hangfire/destruct.errFar", "hangfire/destruct.errLong"], plainKeys := false, apart := false, laid := [("hangfire/destruct.errFar", laid_hangfire_destruct_errFar), ("hangfire/destruct.errLong", laid_hangfire_destruct_errLong)], narrowed := true }
def DestructSidesUptoSaid : Prop := destructSidesUptoRow.holds Tryz.pinned (OpenSpec.upto destructSidesSpec)

/-- 'hangfirelaw06.DestructKnown', WHERE WHAT IT READS IS OF BULK AT MOST 1048576: true; the input reads as it did. -/
def destructKnownUptoRow : OpenClaim := { program := "ytlcccpeelombbaagreatdoor", sum := "61df71e8b5beb3f607bde52a7a73ef5380ea72baa9a234832ca312a4c09608ad", func := "hangfire/hangfirelaw06.DestructKnown", spec := "destructKnown", inPlace := ["internal/reflectlite.TypeOf"], unfollowed := true, recurses := true, named := ["hangfire/destruct.errFar", "hangfire/destruct.errLong"], plainKeys := false, apart := false, laid := [("hangfire/destruct.errFar", laid_hangfire_destruct_errFar), ("hangfire/destruct.errLong", laid_hangfire_destruct_errLong)], narrowed := true }
def DestructKnownUptoSaid : Prop := destructKnownUptoRow.holds Tryz.pinned (OpenSpec.upto destructKnownSpec)

end Rows
end Go.Proofs.YtlcccpeelombbaaGreatDoor
