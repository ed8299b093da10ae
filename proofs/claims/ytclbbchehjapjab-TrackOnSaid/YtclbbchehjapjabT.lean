/- Layer 5: lists that are returned; the reference's ways to reckon. -/
import Derived.Test.YtclbbchehjapjabR
set_option linter.all false
namespace Go.Tk
open Go.Vc

theorem apart_size (a b : Int) : apartI a b = max (a - b) (-(a - b)) := by unfold apartI; omega

theorem half_mul (a : Int) {m : Int} : (a * m * (m + 1)).tdiv 2 = a * ((m * (m + 1)).tdiv 2) := by
  have hq : ∃ q, m * (m + 1) = 2 * q := by
    have h := Int.mul_ediv_add_emod m 2
    rcases Int.emod_two_eq m with e | e
    · rw [e, Int.add_zero] at h
      exact ⟨(m / 2) * (m + 1), by rw [← Int.mul_assoc, h]⟩
    · rw [e] at h
      refine ⟨m * (m / 2 + 1), ?_⟩
      have e2 : m + 1 = 2 * (m / 2 + 1) := by omega
      rw [e2, ← Int.mul_assoc, Int.mul_comm m 2, Int.mul_assoc]
  obtain ⟨q, hq⟩ := hq
  rw [Int.mul_assoc, hq, Int.mul_left_comm, Int.mul_tdiv_cancel_left _ (by decide), Int.mul_tdiv_cancel_left _ (by decide)]

theorem reachT_alt (t : Task) (n : Int) : reachT t n = (t.accel * capT t n * (capT t n + 1)).tdiv 2 + t.speed * (n - capT t n) := by
  rw [reachT, half_mul, Int.mul_comm (n - capT t n)]

theorem asked_bad {t : Task} {l : List Int} (h : (checkT t).2.2 ≠ 0) : askedT t l = (checkT t).2.2 := by rw [askedT, if_neg (fun a => h a.1)]
theorem asked_any {t : Task} {l : List Int} (h : (checkT t).2.2 = 0) (h2 : (l.any fun n => oP n 0 100000) = true) : askedT t l = 7 := by rw [askedT, if_pos ⟨h, h2⟩]
theorem asked_ok {t : Task} {l : List Int} (h : (checkT t).2.2 = 0) (h2 : (l.any fun n => oP n 0 100000) = false) : askedT t l = 0 := by rw [askedT, if_neg (fun a => by rw [h2] at a; cases a.2), h]

/-! ### lists that are returned -/

/-- The call returns a list in new memory. -/
def ListOut (ty : Nat) (xs : List Int) (f : Value → Value) (v : Value) (A G : Heap) : Prop := ∃ sv, A = [] ∧ v = f sv ∧ Grow ty 1 sv xs.length (iiL xs) G

theorem Grow.slice {el n : Nat} {v : Value} {xs : List Int} {G : Heap} (h : Grow el 1 v n (iiL xs) G) {w : World} (hg : ∀ p ∈ G, w.heap[p.1]? = some p.2) : SliceR w 1 v (xs.map fun n => [Value.int .i64 n]) := by
  obtain ⟨a, cap, rfl, hc, hl, hx⟩ := h.cells hg
  have hn : n = xs.length := by rw [iiL, List.length_map] at hl; omega
  subst hn
  refine ⟨a, cap, by simp, by simpa using hc, fun i e hi => ?_⟩
  rw [List.getElem?_map] at hi
  cases hi' : xs[i]? with
  | none => rw [hi'] at hi; cases hi
  | some x =>
    rw [hi'] at hi
    simp only [Option.map_some, Option.some.injEq] at hi
    subst hi
    obtain ⟨b, hb, hv⟩ := hx i (.int .i64 x) (by rw [iiL, List.getElem?_map, hi']; rfl)
    refine ⟨b, hb, fun j v hj => ?_⟩
    cases j with
    | succ j => simp at hj
    | zero =>
      simp only [List.getElem?_cons_zero, Option.some.injEq] at hj
      subst hj
      rw [Nat.mul_one, add_zero']
      exact hv

theorem ints_ne {a b : List Int} {k : Nat} (h : a.getD k 0 ≠ b.getD k 0) : decide (a = b) = false := by
  rw [decide_eq_false_iff_not]; rintro rfl; exact h rfl
theorem ints_eq {a b : List Int} (hl : a.length = b.length) (h : ∀ k : Nat, k < a.length → a.getD k 0 = b.getD k 0) : a = b := by
  refine List.ext_getElem hl fun i h1 h2 => ?_
  have := h i h1
  rwa [List.getD_eq_getElem?_getD, List.getD_eq_getElem?_getD, List.getElem?_eq_getElem h1, List.getElem?_eq_getElem h2] at this

def knownL (t : Task) (now : Int) : List Int := if askedT t [now] ≠ 0 then [] else byT t now fun _ => true
theorem knownL_bad {t : Task} {now : Int} (h : askedT t [now] ≠ 0) : knownL t now = [] := if_pos h
theorem knownL_ok {t : Task} {now : Int} (h : askedT t [now] = 0) : knownL t now = byT t now fun _ => true := if_neg (fun a => a h)
theorem byT_all (t : Task) (now : Int) : (byT t now fun _ => true) = knownN t now t.plots.length := by simp [byT, byN]
theorem knownN_yes {t : Task} {now k : Int} (hk : 0 ≤ k) (h : knownB t now k.toNat = true) : knownN t now (k + 1).toNat = knownN t now k.toNat ++ [k] := by
  have e : (k + 1).toNat = k.toNat + 1 := by omega
  have e2 : ((k.toNat : Nat) : Int) = k := by omega
  rw [knownN, knownN, e, List.range_succ, List.filter_append, List.map_append]
  simp [h, e2]
theorem knownN_no {t : Task} {now k : Int} (hk : 0 ≤ k) (h : knownB t now k.toNat = false) : knownN t now (k + 1).toNat = knownN t now k.toNat := by
  have e : (k + 1).toNat = k.toNat + 1 := by omega
  rw [knownN, knownN, e, List.range_succ, List.filter_append, List.map_append]
  simp [h]
theorem knownN_len {t : Task} {now : Int} (n : Nat) : (knownN t now n).length ≤ n := by
  rw [knownN, List.length_map]
  have := List.length_filter_le (knownB t now) (List.range n)
  simpa using this

theorem knownL_len (t : Task) (now : Int) : (knownL t now).length ≤ 60 := by
  unfold knownL
  split
  · exact Nat.zero_le _
  · rename_i h
    have h0 : askedT t [now] = 0 := Decidable.of_not_not h
    have hG := (asked_zero h0).1
    rw [byT_all]
    have h1 := knownN_len (t := t) (now := now) t.plots.length
    have h2 := hG.h2
    exact Nat.le_trans h1 h2

/-! ### pairs -/
def widthP (t : Task) (i : Int) : Int × Int := if askedT t [] ≠ 0 then (0, askedT t []) else if oP i 0 (t.plots.length - 1) = true then (0, 4) else (widthT t i.toNat, 0)
theorem widthR_eq (t : Task) (i : Int) : widthR t i = .tuple #[.int .i64 (widthP t i).1, .int .i64 (widthP t i).2] := by
  unfold widthR widthP; split
  · rfl
  · split <;> rfl
def reachP (t : Task) (n : Int) : Int × Int := if askedT t [n] ≠ 0 then (0, askedT t [n]) else (reachT t n, 0)
theorem reachR_eq (t : Task) (n : Int) : reachR t n = .tuple #[.int .i64 (reachP t n).1, .int .i64 (reachP t n).2] := by
  unfold reachR reachP; split <;> rfl
def foundP (o : Option Box) : Box × Int := (o.getD boxZ, if o.isSome then 0 else 9)
def whereP (t : Task) (u now : Int) : Box × Int := if askedT t [u, now] ≠ 0 then (boxZ, askedT t [u, now]) else foundP (boxT t (byT t now fun _ => true) u)
theorem whereT_eq (t : Task) (u now : Int) : whereT t u now = .tuple #[.agg (Box.cells (whereP t u now).1).toArray, .int .i64 (whereP t u now).2] := by
  unfold whereT whereP; split <;> rfl
def spareP (t : Task) (u now : Int) : Box × Int := if askedT t [u, now] ≠ 0 then (boxZ, askedT t [u, now]) else foundP (spareT t u now)
theorem spareR_eq (t : Task) (u now : Int) : spareR t u now = .tuple #[.agg (Box.cells (spareP t u now).1).toArray, .int .i64 (spareP t u now).2] := by
  unfold spareR spareP; split <;> rfl

end Go.Tk
