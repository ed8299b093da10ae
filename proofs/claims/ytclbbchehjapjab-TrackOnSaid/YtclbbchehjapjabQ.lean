/- Layer 5: spare boxes, and the best source. -/
import Derived.Test.YtclbbchehjapjabP
set_option linter.all false
namespace Go.Tk
open Go.Vc

def joinS (a b : Span) : Span := ⟨min a.lo b.lo, max a.hi b.hi⟩
def joinB (a b : Box) : Box := ⟨a.at_, joinS a.x b.x, joinS a.y b.y, joinS a.z b.z, joinS a.vx b.vx, joinS a.vy b.vy, joinS a.vz b.vz⟩
def addB (acc : Option Box) (b : Box) : Option Box := match acc with
  | none => some b
  | some a => some (joinB a b)
def foldB (l : List (Int × Box)) : Option Box := l.foldl (fun acc p => addB acc p.2) none
theorem foldB_snoc (l : List (Int × Box)) (p : Int × Box) : foldB (l ++ [p]) = addB (foldB l) p.2 := by simp [foldB]
def spareT (t : Task) (u now : Int) : Option Box := if t.trackers.length = 0 then boxT t (byT t now fun _ => true) u else foldB (othersV t u now t.trackers.length)

theorem ov_inj {a b : List (Int × Box)} (h : a.map ov = b.map ov) : a = b := by
  induction a generalizing b with
  | nil => cases b with
    | nil => rfl
    | cons y b => simp at h
  | cons x a ih => cases b with
    | nil => simp at h
    | cons y b =>
      simp only [List.map_cons, List.cons.injEq] at h
      have e : x = y := by
        obtain ⟨i, p⟩ := x
        obtain ⟨j, q⟩ := y
        have h1 := h.1
        simp only [ov, List.cons.injEq, Value.int.injEq, Value.agg.injEq, Array.mk.injEq, Box.cells, true_and, and_true] at h1
        obtain ⟨h1, h2, h3, h4, h5, h6, h7, h8, h9, h10, h11, h12, h13, h14⟩ := h1
        obtain ⟨a0, ⟨a1, a2⟩, ⟨a3, a4⟩, ⟨a5, a6⟩, ⟨a7, a8⟩, ⟨a9, a10⟩, ⟨a11, a12⟩⟩ := p
        obtain ⟨b0, ⟨b1, b2⟩, ⟨b3, b4⟩, ⟨b5, b6⟩, ⟨b7, b8⟩, ⟨b9, b10⟩, ⟨b11, b12⟩⟩ := q
        simp_all
      rw [e, ih h.2]

end Go.Tk

namespace Go.Tk
open Go.Vc

theorem SliceR.nil (w : World) (size : Nat) : SliceR w size (.slice none 0 0) [] := ⟨none, 0, rfl, Nat.le_refl _, fun i e h => by simp at h⟩

theorem asked_zero {t : Task} {l : List Int} (h : askedT t l = 0) : GoodT t ∧ ∀ n ∈ l, 0 ≤ n ∧ n ≤ 100000 := by
  unfold askedT at h
  split at h
  · cases h
  · rename_i hn
    refine ⟨good_of_check h, fun n hm => ?_⟩
    have : ¬ (l.any fun n => oP n 0 100000) = true := fun ha => hn ⟨h, ha⟩
    rw [List.any_eq_true] at this
    cases ho : oP n 0 100000
    · exact oP_in ho
    · exact absurd ⟨n, hm, ho⟩ this

theorem PickR.box {w0 w : World} {H : Heap} {bp ty : Nat} {t : Task} {tv pv : Value} (hg : Vc.Good w0 [] H w) (hG : GoodT t) (hT : TaskR w0 (.agg #[.int .i64 t.frm, .int .i64 t.speed, .int .i64 t.accel, tv, pv]) t)
    (h1 : (bp, Obj.cells #[.int .i64 t.frm, .int .i64 t.speed, .int .i64 t.accel, tv, pv, .slice none 0 0, .map none] ty) ∈ H) : PickR w bp w.heap.size (.map none) t [] := by
  obtain ⟨_, _, _, htr, hpl⟩ := hT.lit
  have toN : ∀ {size : Nat} {v : Value} {els : List (List Value)}, SliceR w0 size v els → (∀ e ∈ els, e ≠ []) → SliceN w w.heap.size size v els := fun h hne => (h.ext hg.toExt).toN hne (Nat.le_refl _)
  refine ⟨hG, fun i hi => (by cases hi), Nat.zero_le _, ?_, tv, pv, _, ty, _, hg.own _ h1, toN htr (by intro e he; obtain ⟨x, _, rfl⟩ := List.mem_map.1 he; simp [Tracker.cells]), toN hpl (by intro e he; obtain ⟨x, _, rfl⟩ := List.mem_map.1 he; simp [Plot.cells]), ?_⟩
  · have := hg.lt h1
    simp only at this
    omega
  · exact ⟨none, 0, rfl, Nat.le_refl _, fun i e h => by simp at h⟩

def whereT (t : Task) (u now : Int) : Value := if askedT t [u, now] ≠ 0 then .tuple #[.agg (Box.cells boxZ).toArray, .int .i64 (askedT t [u, now])] else foundT (boxT t (byT t now fun _ => true) u)
def spareR (t : Task) (u now : Int) : Value := if askedT t [u, now] ≠ 0 then .tuple #[.agg (Box.cells boxZ).toArray, .int .i64 (askedT t [u, now])] else foundT (spareT t u now)
def reachR (t : Task) (n : Int) : Value := if askedT t [n] ≠ 0 then .tuple #[.int .i64 0, .int .i64 (askedT t [n])] else .tuple #[.int .i64 (reachT t n), .int .i64 0]
def widthR (t : Task) (i : Int) : Value := if askedT t [] ≠ 0 then .tuple #[.int .i64 0, .int .i64 (askedT t [])] else if oP i 0 (t.plots.length - 1) = true then .tuple #[.int .i64 0, .int .i64 4] else .tuple #[.int .i64 (widthT t i.toNat), .int .i64 0]

end Go.Tk
