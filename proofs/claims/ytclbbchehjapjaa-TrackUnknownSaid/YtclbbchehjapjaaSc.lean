/- Layer 5: more arguments opened. -/
import Derived.Test.YtclbbchehjapjaaS
set_option linter.all false
namespace Go.Tk
open Go.Vc Go.ChangeShapes Go.WideShapes Go.RowKit
section
variable {H : Type} {enc : TypeId × Value → H} {P : Program} {w : World} {base b0 : Nat} {spare : Nat → Bool} {held : Bool} {r : Reach} {t : TypeId} {v : Value} {d : DataW H} {p : List MemPlace}
theorem open_3i32 (hty : aggTy P t [.int .i32, .int .i32, .int .i32] = true) (hv : Value.okWide P w r b0 t v) (h : DataW.Trod enc P w base spare held t v d p) : ∃ a b c, v = .agg #[.int .i32 a, .int .i32 b, .int .i32 c] ∧ (Lit.int .i32 a).wf = true ∧ (Lit.int .i32 b).wf = true ∧ (Lit.int .i32 c).wf = true := by
  obtain ⟨cs, rfl, q⟩ := open_agg hty hv h
  obtain ⟨a, _, e1, w1, q1⟩ := q.int
  obtain ⟨b, _, rfl, w2, q2⟩ := q1.int
  obtain ⟨c, _, rfl, w3, q3⟩ := q2.int
  rw [q3.nil] at e1
  exact ⟨a, b, c, congrArg Value.agg (Array.toList_inj.1 e1), w1, w2, w3⟩
theorem open_4u16 (hty : aggTy P t [.int .u16, .int .u16, .int .u16, .int .u16] = true) (hv : Value.okWide P w r b0 t v) (h : DataW.Trod enc P w base spare held t v d p) : ∃ a b c e, v = .agg #[.int .u16 a, .int .u16 b, .int .u16 c, .int .u16 e] ∧ (0 ≤ a ∧ a ≤ 65535) ∧ (0 ≤ b ∧ b ≤ 65535) ∧ (0 ≤ c ∧ c ≤ 65535) ∧ (0 ≤ e ∧ e ≤ 65535) := by
  obtain ⟨cs, rfl, q⟩ := open_agg hty hv h
  obtain ⟨a, _, e1, w1, q1⟩ := q.int
  obtain ⟨b, _, rfl, w2, q2⟩ := q1.int
  obtain ⟨c, _, rfl, w3, q3⟩ := q2.int
  obtain ⟨e, _, rfl, w4, q4⟩ := q3.int
  rw [q4.nil] at e1
  exact ⟨a, b, c, e, congrArg Value.agg (Array.toList_inj.1 e1), u16_wf w1, u16_wf w2, u16_wf w3, u16_wf w4⟩
end
end Go.Tk
