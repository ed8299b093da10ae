/- Layer 5: one tracker's box, the best source, who may fail; boxes ahead. -/
import Derived.Test.YtclbbchehjapjabT
set_option linter.all false
namespace Go.Tk
open Go.Vc

/-! ### one tracker alone -/
def aloneP (t : Task) (tr u now : Int) : Box × Int :=
  if askedT t [] ≠ 0 then (boxZ, askedT t []) else if oP tr 0 (t.trackers.length - 1) = true then (boxZ, 4) else if ([u, now].any fun n => oP n 0 100000) = true then (boxZ, 7) else foundP (boxT t (byT t now fun x => decide (x = tr)) u)
section
variable {t : Task} {tr u now : Int}
theorem aloneP_1 (h : askedT t [] ≠ 0) : aloneP t tr u now = (boxZ, askedT t []) := if_pos h
theorem aloneP_2 (h : askedT t [] = 0) (h1 : oP tr 0 (t.trackers.length - 1) = true) : aloneP t tr u now = (boxZ, 4) := by rw [aloneP, if_neg (fun a => a h), if_pos h1]
theorem aloneP_3 (h : askedT t [] = 0) (h1 : oP tr 0 (t.trackers.length - 1) = false) (h2 : ([u, now].any fun n => oP n 0 100000) = true) : aloneP t tr u now = (boxZ, 7) := by rw [aloneP, if_neg (fun a => a h), if_neg (by rw [h1]; decide), if_pos h2]
theorem aloneP_4 (h : askedT t [] = 0) (h1 : oP tr 0 (t.trackers.length - 1) = false) (h2 : ([u, now].any fun n => oP n 0 100000) = false) : aloneP t tr u now = foundP (boxT t (byT t now fun x => decide (x = tr)) u) := by rw [aloneP, if_neg (fun a => a h), if_neg (by rw [h1]; decide), if_neg (by rw [h2]; decide)]
theorem any2_false {u now : Int} (h : ([u, now].any fun n => oP n 0 100000) = false) : (0 ≤ u ∧ u ≤ 100000) ∧ (0 ≤ now ∧ now ≤ 100000) := by
  simp only [List.any_cons, List.any_nil, Bool.or_false, Bool.or_eq_false_iff] at h
  exact ⟨oP_in h.1, oP_in h.2⟩
end

/-! ### the best source -/
def bestStep (p : Int × Int) (i : Int) (o : Option Box) (s : Box) : Int × Int := match o with
  | none => p
  | some b => if meetB b s = true ∧ (p.1 < 0 ∨ wideB b < p.2) then (i, wideB b) else p
theorem bestStep_none {p : Int × Int} {i : Int} {o : Option Box} {s : Box} (h : o.isSome = false) : bestStep p i o s = p := by rw [isSome_none h]; rfl
theorem bestStep_no {p : Int × Int} {i : Int} {o : Option Box} {s : Box} (h : o.isSome = true) (h2 : ¬ (meetB (o.getD boxZ) s = true ∧ (p.1 < 0 ∨ wideB (o.getD boxZ) < p.2))) : bestStep p i o s = p := by
  rw [isSome_get h]; exact if_neg h2
theorem bestStep_yes {p : Int × Int} {i : Int} {o : Option Box} {s : Box} (h : o.isSome = true) (h1 : meetB (o.getD boxZ) s = true) (h2 : p.1 < 0 ∨ wideB (o.getD boxZ) < p.2) : bestStep p i o s = (i, wideB (o.getD boxZ)) := by
  rw [isSome_get h]; exact if_pos ⟨h1, h2⟩
def ownT (t : Task) (u now : Int) (i : Int) : Option Box := boxT t (byT t now fun x => decide (x = i)) u
def bestN (t : Task) (s : Box) (u now : Int) : Nat → Int × Int
  | 0 => (-1, 0)
  | n + 1 => bestStep (bestN t s u now n) n (ownT t u now n) s
theorem bestN_succ {t : Task} {s : Box} {u now k : Int} (hk : 0 ≤ k) : bestN t s u now (k + 1).toNat = bestStep (bestN t s u now k.toNat) k (ownT t u now k) s := by
  have e : (k + 1).toNat = k.toNat + 1 := by omega
  have e2 : ((k.toNat : Nat) : Int) = k := Int.toNat_of_nonneg hk
  rw [e, bestN, e2]
def bestP (t : Task) (u now : Int) : Int × Int :=
  if (spareP t u now).2 ≠ 0 then (0, (spareP t u now).2) else if (bestN t (spareP t u now).1 u now t.trackers.length).1 < 0 then (0, 4) else ((bestN t (spareP t u now).1 u now t.trackers.length).1, 0)
theorem bestP_1 {t : Task} {u now : Int} (h : (spareP t u now).2 ≠ 0) : bestP t u now = (0, (spareP t u now).2) := if_pos h
theorem bestP_2 {t : Task} {u now a b : Int} (h : (spareP t u now).2 = 0) (h1 : bestN t (spareP t u now).1 u now t.trackers.length = (a, b)) (h2 : a < 0) : bestP t u now = (0, 4) := by
  rw [bestP, if_neg (fun a => a h), if_pos (by rw [h1]; exact h2)]
theorem bestP_3 {t : Task} {u now a b : Int} (h : (spareP t u now).2 = 0) (h1 : bestN t (spareP t u now).1 u now t.trackers.length = (a, b)) (h2 : ¬ a < 0) : bestP t u now = (a, 0) := by
  rw [bestP, if_neg (fun a => a h), if_neg (by rw [h1]; exact h2), h1]
theorem spareP_ok {t : Task} {u now : Int} (h : (spareP t u now).2 = 0) : askedT t [u, now] = 0 ∧ spareT t u now = some (spareP t u now).1 := by
  unfold spareP at h ⊢
  split at h
  · rename_i hn; exact absurd h hn
  · rename_i hn
    rw [if_neg hn]
    refine ⟨Decidable.of_not_not hn, ?_⟩
    cases hs : spareT t u now with
    | none => rw [hs] at h; cases h
    | some b => rfl
theorem ownT_bnd {t : Task} (hG : GoodT t) {u now k : Int} (hu : u ≤ 100000) (h : (ownT t u now k).isSome = true) : BoxB 1000000000000000 ((ownT t u now k).getD boxZ) := by
  have hb : BoxB 2000000000 ((ownT t u now k).getD boxZ) := boxT_bnd hG byT_bnd hu (isSome_get h)
  obtain ⟨h1, h2, h3⟩ := hb
  unfold SpanB at h1 h2 h3
  exact ⟨by unfold SpanB; omega, by unfold SpanB; omega, by unfold SpanB; omega⟩

theorem Grow.form {el size n : Nat} {v : Value} {xs : List Value} {G : Heap} (h : Grow el size v n xs G) : ∃ a c, v = .slice a n c := by
  cases h with
  | nil => exact ⟨none, 0, rfl⟩
  | row => exact ⟨_, _, rfl⟩

/-! ### who may fail -/
def failsL (t : Task) (u now : Int) : List Int := if askedT t [u, now] ≠ 0 then [] else (othersV t u now t.trackers.length).map Prod.fst
def failsB (t : Task) (u now : Int) : Bool := if askedT t [u, now] ≠ 0 then false else (boxT t (byT t now fun _ => true) u).isSome
theorem failsL_1 {t : Task} {u now : Int} (h : askedT t [u, now] ≠ 0) : failsL t u now = [] ∧ failsB t u now = false := ⟨if_pos h, if_pos h⟩
theorem failsL_2 {t : Task} {u now : Int} (h : askedT t [u, now] = 0) : failsL t u now = (othersV t u now t.trackers.length).map Prod.fst ∧ failsB t u now = (boxT t (byT t now fun _ => true) u).isSome := ⟨if_neg (fun a => a h), if_neg (fun a => a h)⟩

/-! ### a box's check, and boxes ahead -/
def spanBad (m : Int) (s : Span) : Bool := oP s.lo (-m) m || oP s.hi (-m) m || decide (s.hi < s.lo)
def checkB (b : Box) : Int := if (oP b.at_ 0 100000 || spanBad 2000000000 b.x || spanBad 2000000000 b.y || spanBad 2000000000 b.z || spanBad 1000000 b.vx || spanBad 1000000 b.vy || spanBad 1000000 b.vz) = true then 7 else 0

end Go.Tk
