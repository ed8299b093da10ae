/- Joined texts. -/
import Derived.Test.YtbncegfgjbdheaaZam
import Derived.Test.YtbncegfgjbdheaaZai
import Derived.Test.YtbncegfgjbdheaaZaf
/- A vehicle without air, its phases grown (plain). -/
set_option linter.all false
namespace Go.Fl
open Go.Vc Go.Tk
section
variable {w : World} {ps : List (Int × Int)} {g : Int}
theorem vac_R {el m : Nat} {sv : Value} {G : Heap} (h : Grow el 13 sv m (phL (ps.map vacP)) G) (hm : m = ps.length) (hl : ps.length ≤ 12) (hg : ∀ p ∈ G, w.heap[p.1]? = some p.2) :
    VehR w (VehV (vacV ⟨#[118]⟩ g ps) (.slice none 0 0) sv (.slice none 0 0)) (vacV ⟨#[118]⟩ g ps) := by
  refine ⟨show ((⟨#[118]⟩ : ByteArray).size : Int) ≤ 9223372036854775807 by decide, fun p hp => absurd hp List.not_mem_nil, show ((0 : Nat) : Int) ≤ 9223372036854775807 by decide, ?_, show ((0 : Nat) : Int) ≤ 9223372036854775807 by decide, _, _, _, rfl, SliceR.nil w _, ?_, SliceR.nil w _⟩
  · show ((ps.map vacP).length : Int) ≤ _
    rw [List.length_map]; omega
  exact Grow.rows (els := (ps.map vacP).map Phase.cells) h (by intro e he; obtain ⟨x, _, rfl⟩ := List.mem_map.1 he; rfl) (by rw [List.length_map, List.length_map, hm]) hg
theorem pw_at (hb : ∀ x ∈ ps, (0 ≤ x.1 ∧ x.1 ≤ 65535) ∧ 0 ≤ x.2 ∧ x.2 ≤ 65535) {i : Nat} (hi : i < ps.length) : (0 ≤ (pwAt ps i).1 ∧ (pwAt ps i).1 ≤ 65535) ∧ 0 ≤ (pwAt ps i).2 ∧ (pwAt ps i).2 ≤ 65535 := by
  rw [pwAt, List.getD_eq_getElem?_getD, List.getElem?_eq_getElem hi]; exact hb _ (List.getElem_mem hi)
theorem fly_3 {v : Veh} {d : Dir} {l : List Band} {n : Int} (ha : askedF v d l = 0) (hn : 0 ≤ n ∧ n ≤ 3000) (h : flyE v d l n ≠ 0) : flyE v d l n = 3 := by
  unfold flyE at h ⊢
  rw [if_neg (by omega), if_neg (by rw [oP_false.2 hn]; decide)] at h ⊢
  split
  · rfl
  rename_i h2; rw [if_neg h2] at h; exact absurd rfl h
theorem want_s {t : Nat} {A B : Span} (h : (A, B) = wantN g ps t) : wantN g ps (t + 1) = (⟨A.lo + (B.lo + vacLo ps t - g), A.hi + (B.hi + vacHi ps t - g)⟩, ⟨B.lo + vacLo ps t - g, B.hi + vacHi ps t - g⟩) := by
  rw [wantN, ← h]
theorem vac_div {p m : Int} (hp : 0 ≤ p ∧ p ≤ 65535) (hm : 0 ≤ m ∧ m ≤ 65535) : ((10 * p).tdiv (1 + m) = 10 * p / (1 + m) ∧ 0 ≤ 10 * p / (1 + m) ∧ 10 * p / (1 + m) ≤ 655350) ∧
    (10 * p + (1 + m) - 1).tdiv (1 + m) = (10 * p + (1 + m) - 1) / (1 + m) ∧ 0 ≤ (10 * p + (1 + m) - 1) / (1 + m) ∧ (10 * p + (1 + m) - 1) / (1 + m) ≤ 1000000 := by
  have h1 := Int.ediv_nonneg (show 0 ≤ 10 * p by omega) (show 0 ≤ 1 + m by omega)
  have h2 := Int.ediv_le_self (1 + m) (show 0 ≤ 10 * p by omega)
  have h3 := Int.ediv_nonneg (show 0 ≤ 10 * p + (1 + m) - 1 by omega) (show 0 ≤ 1 + m by omega)
  have h4 := Int.ediv_le_self (1 + m) (show 0 ≤ 10 * p + (1 + m) - 1 by omega)
  exact ⟨⟨Int.tdiv_eq_ediv_of_nonneg (by omega), h1, by omega⟩, Int.tdiv_eq_ediv_of_nonneg (by omega), h3, by omega⟩
end
end Go.Fl
