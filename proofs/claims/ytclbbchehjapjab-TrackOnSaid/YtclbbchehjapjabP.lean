/- Layer 5: what is done with boxes. -/
import Derived.Test.YtclbbchehjapjabO
set_option linter.all false
namespace Go.Tk
open Go.Vc

/-! ### boxes -/

def wideB (b : Box) : Int := max (max (b.x.hi - b.x.lo) (b.y.hi - b.y.lo)) (b.z.hi - b.z.lo)
def meetS (a b : Span) : Bool := decide (a.lo ≤ b.hi) && decide (b.lo ≤ a.hi)
def meetB (a b : Box) : Bool := meetS a.x b.x && (meetS a.y b.y && (meetS a.z b.z && (meetS a.vx b.vx && (meetS a.vy b.vy && meetS a.vz b.vz))))
theorem meetB_iff {a b : Box} : meetB a b = true ↔ (a.x.lo ≤ b.x.hi ∧ b.x.lo ≤ a.x.hi) ∧ (a.y.lo ≤ b.y.hi ∧ b.y.lo ≤ a.y.hi) ∧ (a.z.lo ≤ b.z.hi ∧ b.z.lo ≤ a.z.hi) ∧ (a.vx.lo ≤ b.vx.hi ∧ b.vx.lo ≤ a.vx.hi) ∧ (a.vy.lo ≤ b.vy.hi ∧ b.vy.lo ≤ a.vy.hi) ∧ (a.vz.lo ≤ b.vz.hi ∧ b.vz.lo ≤ a.vz.hi) := by
  simp only [meetB, meetS, Bool.and_eq_true, decide_eq_true_eq]

structure BoxB (B : Int) (b : Box) : Prop where
  x : SpanB B b.x
  y : SpanB B b.y
  z : SpanB B b.z

theorem partT_place {t : Task} {ps : List Int} {k u : Int} {a : Span × Span} (h : partT t ps k u = some a) : a.1 = placeT t ps k u := by
  unfold partT at h
  cases hf : fastT t ps k u with
  | none => rw [hf] at h; cases h
  | some v =>
    rw [hf] at h
    simp only [Option.bind_some] at h
    split at h
    · cases h
    · cases h; rfl

theorem boxT_bnd {t : Task} (hG : GoodT t) {ps : List Int} (hp : ∀ i ∈ ps, 0 ≤ i ∧ i < t.plots.length) {u : Int} (hu : u ≤ 100000) {b : Box} (h : boxT t ps u = some b) : BoxB 2000000000 b := by
  unfold boxT at h
  cases h0 : partT t ps 0 u with
  | none => rw [h0] at h; cases h
  | some p0 =>
    cases h1 : partT t ps 1 u with
    | none => rw [h0, Option.bind_some, h1] at h; cases h
    | some p1 =>
      cases h2 : partT t ps 2 u with
      | none => rw [h0, Option.bind_some, h1, Option.bind_some, h2] at h; cases h
      | some p2 =>
        rw [h0, Option.bind_some, h1, Option.bind_some, h2] at h
        simp only [Option.bind_some, Option.some.injEq] at h
        subst h
        exact ⟨partT_place h0 ▸ placeT_bnd hG hp hu 0, partT_place h1 ▸ placeT_bnd hG hp hu 1, partT_place h2 ▸ placeT_bnd hG hp hu 2⟩

def foundT (o : Option Box) : Value := .tuple #[.agg (Box.cells (o.getD boxZ)).toArray, .int .i64 (if o.isSome then 0 else 9)]

end Go.Tk
