/- Layer 5: a box as an argument. -/
import Derived.Test.YtclbbchehjapjabS
import Derived.Test.YtclbbchehjapjabAh
set_option linter.all false
namespace Go.Tk
open Go.Vc Go.ChangeShapes Go.WideShapes Go.RowKit
section
variable {H : Type} {enc : TypeId × Value → H} {P : Program} {w : World} {base : Nat} {spare : Nat → Bool} {held : Bool} {r : Reach} {b0 : Nat} {t : TypeId} {v : Value} {d : DataW H} {p : List MemPlace}
def i13 : List Leaf := [.int .i64, .int .i64, .int .i64, .int .i64, .int .i64, .int .i64, .int .i64, .int .i64, .int .i64, .int .i64, .int .i64, .int .i64, .int .i64]
theorem open_box (hty : aggTy P t i13 = true) (hv : Value.okWide P w r b0 t v) (h : DataW.Trod enc P w base spare held t v d p) : ∃ b : Box, v = .agg (Box.cells b).toArray ∧ BoxI b := by
  obtain ⟨cs, rfl, q⟩ := open_agg hty hv h
  obtain ⟨a0, _, e, w0, q0⟩ := q.int
  obtain ⟨a1, _, rfl, w1, q1⟩ := q0.int
  obtain ⟨a2, _, rfl, w2, q2⟩ := q1.int
  obtain ⟨a3, _, rfl, w3, q3⟩ := q2.int
  obtain ⟨a4, _, rfl, w4, q4⟩ := q3.int
  obtain ⟨a5, _, rfl, w5, q5⟩ := q4.int
  obtain ⟨a6, _, rfl, w6, q6⟩ := q5.int
  obtain ⟨a7, _, rfl, w7, q7⟩ := q6.int
  obtain ⟨a8, _, rfl, w8, q8⟩ := q7.int
  obtain ⟨a9, _, rfl, w9, q9⟩ := q8.int
  obtain ⟨a10, _, rfl, w10, q10⟩ := q9.int
  obtain ⟨a11, _, rfl, w11, q11⟩ := q10.int
  obtain ⟨a12, _, rfl, w12, q12⟩ := q11.int
  rw [q12.nil] at e
  exact ⟨⟨a0, ⟨a1, a2⟩, ⟨a3, a4⟩, ⟨a5, a6⟩, ⟨a7, a8⟩, ⟨a9, a10⟩, ⟨a11, a12⟩⟩, congrArg Value.agg (Array.toList_inj.1 e), int_wf w0, ⟨int_wf w1, int_wf w2⟩, ⟨int_wf w3, int_wf w4⟩, ⟨int_wf w5, int_wf w6⟩, ⟨int_wf w7, int_wf w8⟩, ⟨int_wf w9, int_wf w10⟩, ⟨int_wf w11, int_wf w12⟩⟩
end
end Go.Tk
