/- Layer 5: how the reference reckons boxes. -/
import Derived.Test.YtclbbchehjapjabU
set_option linter.all false
namespace Go.Tk
open Go.Vc

theorem floor_eq {a b : Int} (hb : 0 < b) : (if a < a.tdiv b * b then a.tdiv b - 1 else a.tdiv b) = a / b := by
  rw [← down_eq hb]
  have h := Int.mul_tdiv_add_tmod a b
  have e : a.tdiv b * b = b * a.tdiv b := Int.mul_comm _ _
  split <;> split <;> omega
theorem tdiv_mul_abs {a b A : Int} (hb : 0 < b) (ha : -A ≤ a ∧ a ≤ A) (hA : b ≤ A) : -(A + A) ≤ a.tdiv b * b ∧ a.tdiv b * b ≤ A + A := by
  have h := Int.mul_tdiv_add_tmod a b
  have e : a.tdiv b * b = b * a.tdiv b := Int.mul_comm _ _
  have h1 := Int.tmod_lt_of_pos a hb
  have h2 := Int.lt_tmod_of_pos a hb
  omega

theorem room0_common {m : Int} : common (aroundS 0 2000000000) (aroundS 0 m) = room0 (min 2000000000 m) := by
  simp only [common, aroundS, room0, Span.mk.injEq]; omega

theorem moreB_alt (t : Task) (j : Int) : (t.accel * j * (j + 1)).tdiv 2 = moreB t j := half_mul t.accel
theorem moreF_alt (t : Task) (j : Int) : (t.accel * j * (j - 1)).tdiv 2 = moreF t j := by
  have h := half_mul t.accel (m := j - 1)
  have e : j - 1 + 1 = j := by omega
  rw [e] at h
  rw [moreF, Int.mul_assoc, Int.mul_comm j (j - 1), ← Int.mul_assoc]
  exact h

/-- what the reference's speeds return -/
def SpeedV (t : Task) (ps : List Int) (k u : Int) (v : Value) : Prop := ∃ lo hi ok, v = .tuple #[.agg #[.int .i64 lo, .int .i64 hi], .bool ok] ∧
  ((ok = true ∧ fastT t ps k u = (if (⟨lo, hi⟩ : Span).none then none else some ⟨lo, hi⟩)) ∨ (ok = false ∧ fastT t ps k u = none))
theorem sv_none {t : Task} {ps : List Int} {k u lo hi : Int} {ok : Bool} (h : (ok = true ∧ fastT t ps k u = (if (⟨lo, hi⟩ : Span).none then none else some ⟨lo, hi⟩)) ∨ (ok = false ∧ fastT t ps k u = none)) (h1 : ok = false ∨ (⟨lo, hi⟩ : Span).none = true) : fastT t ps k u = none := by
  rcases h with ⟨h, h2⟩ | ⟨_, h⟩
  · rcases h1 with h1 | h1
    · rw [h1] at h; cases h
    · rw [h2, if_pos h1]
  · exact h
theorem sv_some {t : Task} {ps : List Int} {k u lo hi : Int} {ok : Bool} (h : (ok = true ∧ fastT t ps k u = (if (⟨lo, hi⟩ : Span).none then none else some ⟨lo, hi⟩)) ∨ (ok = false ∧ fastT t ps k u = none)) (h1 : ok = true) (h2 : (⟨lo, hi⟩ : Span).none = false) : fastT t ps k u = some ⟨lo, hi⟩ := by
  rcases h with ⟨_, h⟩ | ⟨h, _⟩
  · rw [h, if_neg (by rw [h2]; decide)]
  · rw [h1] at h; cases h

def wantR (but alone : Int) (x : Int) : Bool := decide (x ≠ but) && (decide (alone = -1) || decide (x = alone))
theorem byN_yes {t : Task} {now k : Int} {want : Int → Bool} (hk : 0 ≤ k) (h : knownB t now k.toNat = true) (h2 : want (t.pl k.toNat).tracker = true) : byN t now want (k + 1).toNat = byN t now want k.toNat ++ [k] := by
  rw [byN, byN, knownN_yes hk h, List.filter_append]; simp [h2]
theorem byN_no {t : Task} {now k : Int} {want : Int → Bool} (hk : 0 ≤ k) (h : knownB t now k.toNat = false ∨ want (t.pl k.toNat).tracker = false) : byN t now want (k + 1).toNat = byN t now want k.toNat := by
  rw [byN, byN]
  cases hb : knownB t now k.toNat with
  | false => rw [knownN_no hk hb]
  | true =>
    rw [knownN_yes hk hb, List.filter_append]
    rcases h with h | h
    · rw [h] at hb; cases hb
    · simp [h]
theorem byN_len {t : Task} {now : Int} {want : Int → Bool} (n : Nat) : (byN t now want n).length ≤ n :=
  Nat.le_trans (List.length_filter_le _ _) (knownN_len n)
theorem byT_congr {t : Task} (hG : GoodT t) {now : Int} {w1 w2 : Int → Bool} (h : ∀ x : Int, 0 ≤ x → x < t.trackers.length → w1 x = w2 x) : byT t now w1 = byT t now w2 := by
  unfold byT byN
  refine List.filter_congr fun i hi => ?_
  have hb := byT_bnd (t := t) (now := now) (want := fun _ => true) i (by rw [byT_all]; exact hi)
  have hp := hG.plot (i := i.toNat) (by omega)
  exact h _ hp.tr0 hp.tr1
theorem want_all {x : Int} (h : 0 ≤ x) : wantR (-1) (-1) x = true := by simp [wantR]; omega
theorem want_but {x i : Int} : wantR i (-1) x = decide (x ≠ i) := by simp [wantR]
theorem want_own {x i : Int} (h : 0 ≤ x) (hi : 0 ≤ i) : wantR (-1) i x = decide (x = i) := by
  have e : i ≠ -1 := by omega
  have e2 : x ≠ -1 := by omega
  simp [wantR, e, e2]

end Go.Tk

namespace Go.Tk
open Go.Vc
theorem asked_same {t : Task} {l : List Int} (h : (checkT t).2.2 = 0 → (l.any fun n => oP n 0 100000) = false) : askedT t l = (checkT t).2.2 := by
  by_cases h0 : (checkT t).2.2 = 0
  · rw [asked_ok h0 (h h0), h0]
  · exact asked_bad h0
theorem whereP_ref {t : Task} (hG : GoodT t) {u now : Int} (h : askedT t [u, now] = 0) : whereP t u now = foundP (boxT t (byT t now (wantR (-1) (-1))) u) := by
  rw [whereP, if_neg (fun a => a h), byT_congr hG (w1 := fun _ => true) (w2 := wantR (-1) (-1)) (fun x h0 _ => (want_all h0).symm)]
theorem aloneP_ref {t : Task} (hG : GoodT t) {tr u now : Int} (h : askedT t [] = 0) (h1 : oP tr 0 (t.trackers.length - 1) = false) (h2 : ([u, now].any fun n => oP n 0 100000) = false) : aloneP t tr u now = foundP (boxT t (byT t now (wantR (-1) tr)) u) := by
  rw [aloneP_4 h h1 h2, byT_congr hG (w1 := fun x => decide (x = tr)) (w2 := wantR (-1) tr) (fun x h0 _ => (want_own h0 (oP_in h1).1).symm)]
theorem asked_ne {t : Task} {l : List Int} (h0 : (checkT t).2.2 = 0) (h : askedT t l ≠ 0) : (l.any fun n => oP n 0 100000) = true ∧ askedT t l = 7 := by
  cases ha : (l.any fun n => oP n 0 100000) with
  | true => exact ⟨rfl, asked_any h0 ha⟩
  | false => exact absurd (asked_ok h0 ha) h
theorem asked_any0 {t : Task} {l : List Int} (h : askedT t l = 0) : (l.any fun n => oP n 0 100000) = false := by
  cases ha : (l.any fun n => oP n 0 100000) with
  | false => rfl
  | true =>
    by_cases h0 : (checkT t).2.2 = 0
    · rw [asked_any h0 ha] at h; cases h
    · rw [asked_bad h0] at h; exact absurd h h0
theorem wantR_yes {but alone x : Int} (h1 : ¬ x = but) (h2 : alone = -1 ∨ x = alone) : wantR but alone x = true := by
  simp only [wantR, Bool.and_eq_true, Bool.or_eq_true, decide_eq_true_eq]; exact ⟨h1, h2⟩
theorem wantR_no1 {but alone x : Int} (h1 : x = but) : wantR but alone x = false := by
  rw [wantR, decide_eq_false (fun h => h h1)]; rfl
theorem wantR_no2 {but alone x : Int} (h1 : ¬ alone = -1) (h2 : ¬ x = alone) : wantR but alone x = false := by
  rw [wantR, decide_eq_false h1, decide_eq_false h2]; simp
end Go.Tk
