/- Layer 5: what the statement on boxes ahead asks. -/
import Derived.Test.YtclbbchehjapjabPc
import Derived.Test.YtclbbchehjapjabSc
set_option linter.all false
namespace Go.Tk
open Go.Vc Go.ChangeShapes Go.WideShapes Go.RowKit
theorem spotV_bnd {t : Task} {p : PathM} (hG : GoodT t) {u : Int} (k : Nat) : -1000000 ≤ spotV t p k u ∧ spotV t p k u ≤ 1000000 := by
  obtain ⟨_, hs, _⟩ := hG.nums
  unfold spotV
  split
  · have := atV_abs (p := p) (show 0 ≤ t.speed by omega) k u; omega
  · omega
theorem tmod100 {n : Int} (h : 0 ≤ n ∧ n ≤ 255) : 0 ≤ n.tmod 100 ∧ n.tmod 100 ≤ 99 := by
  rw [Int.tmod_eq_emod_of_nonneg h.1]; omega
section
variable {H : Type} {enc : TypeId × Value → H} {P : Program} {w : World} {base : Nat} {spare : Nat → Bool} {held : Bool} {r : Reach} {b0 : Nat} {t : TypeId} {v : Value} {d : DataW H} {p : List MemPlace}
theorem open_spread (hty : aggTy P t [.int .u16, .int .u16, .int .u16, .int .u16, .int .u16, .int .u16, .int .u16, .int .u16, .int .u16, .int .u16, .int .u16, .int .u16, .int .i64, .int .u8, .int .u8] = true) (hv : Value.okWide P w r b0 t v) (h : DataW.Trod enc P w base spare held t v d p) :
    ∃ (q : Nat → Int) (u n0 m0 : Int), v = .agg #[.int .u16 (q 0), .int .u16 (q 1), .int .u16 (q 2), .int .u16 (q 3), .int .u16 (q 4), .int .u16 (q 5), .int .u16 (q 6), .int .u16 (q 7), .int .u16 (q 8), .int .u16 (q 9), .int .u16 (q 10), .int .u16 (q 11), .int .i64 u, .int .u8 n0, .int .u8 m0] ∧ (∀ i, i < 12 → 0 ≤ q i ∧ q i ≤ 65535) ∧ (0 ≤ n0 ∧ n0 ≤ 255) ∧ (0 ≤ m0 ∧ m0 ≤ 255) ∧ InI u := by
  obtain ⟨cs, rfl, q⟩ := open_agg hty hv h
  obtain ⟨a0, _, e1, w0, q0⟩ := q.int
  obtain ⟨a1, _, rfl, w1, q1⟩ := q0.int
  obtain ⟨a2, _, rfl, w2, q2⟩ := q1.int
  obtain ⟨a3, _, rfl, w3, q3⟩ := q2.int
  obtain ⟨a4, _, rfl, w4, q4⟩ := q3.int
  obtain ⟨a5, _, rfl, w5, q5⟩ := q4.int
  obtain ⟨a6, _, rfl, w6, q6⟩ := q5.int
  obtain ⟨a7, _, rfl, w7, q7⟩ := q6.int
  obtain ⟨a8, _, rfl, w8, q8⟩ := q7.int
  obtain ⟨a9, _, rfl, w9, q9⟩ := q8.int
  obtain ⟨a10, _, rfl, w10, q10⟩ := q9.int
  obtain ⟨a11, _, rfl, w11, q11⟩ := q10.int
  obtain ⟨u, _, rfl, wu, qu⟩ := q11.int
  obtain ⟨n0, _, rfl, wn, qn⟩ := qu.int
  obtain ⟨m0, _, rfl, wm, qm⟩ := qn.int
  rw [qm.nil] at e1
  refine ⟨fun i => [a0, a1, a2, a3, a4, a5, a6, a7, a8, a9, a10, a11].getD i 0, u, n0, m0, congrArg Value.agg (Array.toList_inj.1 e1), fun i hi => ?_, u8_wf wn, u8_wf wm, int_wf wu⟩
  have all : ∀ x ∈ [a0, a1, a2, a3, a4, a5, a6, a7, a8, a9, a10, a11], 0 ≤ x ∧ x ≤ 65535 := by
    intro x hx
    simp only [List.mem_cons, List.not_mem_nil, or_false] at hx
    rcases hx with rfl | rfl | rfl | rfl | rfl | rfl | rfl | rfl | rfl | rfl | rfl | rfl
    all_goals first | exact u16_wf w0 | exact u16_wf w1 | exact u16_wf w2 | exact u16_wf w3 | exact u16_wf w4 | exact u16_wf w5 | exact u16_wf w6 | exact u16_wf w7 | exact u16_wf w8 | exact u16_wf w9 | exact u16_wf w10 | exact u16_wf w11
  refine all _ ?_
  show List.getD _ i 0 ∈ _
  rw [List.getD_eq_getElem?_getD, List.getElem?_eq_getElem (show i < [a0, a1, a2, a3, a4, a5, a6, a7, a8, a9, a10, a11].length from hi)]
  exact List.getElem_mem _
end
end Go.Tk
