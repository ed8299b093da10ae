/- Joined texts. -/
import Derived.Test.YtbncegfgjbdheaaZam
import Derived.Test.YtbncegfgjbdheaaZai
import Derived.Test.YtbncegfgjbdheaaZaf
/- A vehicle without air, its phases grown (plain). -/
set_option linter.all false
namespace Go.Fl
open Go.Vc Go.Tk
section
variable {w : World} {ps : List (Int × Int)} {g : Int}
end
end Go.Fl

/- What a turned vehicle needs (plain). -/
set_option linter.all false
namespace Go.Fl
open Go.Vc Go.Tk
section
variable {v : Veh} {d : Dir} {l : List Band} {w : World}
theorem come_bnd {f : Nat → St} {a : Nat} : ∀ n, (∀ j, j ≤ a + n → farS (f j) = false) → SpB 2000000000 (comeA f a (a + n)).1 ∧ SpB 2000000000 (comeA f a (a + n)).2 := by
  intro n
  induction n with
  | zero =>
    intro h
    rw [Nat.add_zero, comeA_at]
    have := (far_false.1 (h a (by omega))).1
    exact ⟨this.1, this.2.1⟩
  | succ n ih =>
    intro h
    obtain ⟨h1, h2⟩ := ih (fun j hj => h j (by omega))
    rw [show a + (n + 1) = (a + n) + 1 by omega, comeA_s (by omega)]
    obtain ⟨h3, h4, _⟩ := (far_false.1 (h (a + n + 1) (by omega))).1
    unfold SpB at *
    simp only [hullS]
    omega
theorem imps_bnd (k : Nat) (hk : k < (impsL v d l).length) : SpB 2000000000 ((impsL v d l).getD k imZ).x ∧ SpB 2000000000 ((impsL v d l).getD k imZ).y := by
  by_cases h : impsE v d l = 0
  · have hk2 : k ≤ v.pieces.length := by rw [impsL_len h] at hk; omega
    rw [impsL_at h hk2]
    obtain ⟨hA, himp⟩ := imps_ok h
    obtain ⟨a, b, hI, _⟩ := imp_is (d := d) (l := l) (asked_good hA).1 (i := k) (himp k hk2)
    have hab := hI.ab
    have h9 := come_bnd (f := ofI v d l k) (a := a) (b - a) (fun j hj => hI.far j (by omega))
    have e : comeA (ofI v d l k) a (a + (b - a)) = hullN (ofI v d l k) a (b - a) := by unfold comeA; rw [if_neg (by omega), Nat.add_sub_cancel_left]
    rw [e] at h9
    rw [hI.x, hI.y]
    exact h9
  rw [impsL_bad h] at hk; exact absurd hk (Nat.not_lt_zero _)
theorem trn_R {el el2 m m2 : Nat} {av pv qv pv' qv' : Value} {G G2 : Heap} (h : VehR w (VehV v av pv qv) v) (hp : Grow el 13 pv' m (phL (v.phases.map trnP)) G) (hm : m = v.phases.length) (hq : Grow el2 13 qv' m2 (pcL (v.pieces.map trnC)) G2) (hm2 : m2 = v.pieces.length)
    (hg : ∀ p ∈ G, w.heap[p.1]? = some p.2) (hg2 : ∀ p ∈ G2, w.heap[p.1]? = some p.2) : VehR w (VehV (trnV v) av pv' qv') (trnV v) :=
  h.re (Grow.rows hp (phL_len _) (by rw [List.length_map, List.length_map]; exact hm) hg) (Grow.rows hq (pcL_len _) (by rw [List.length_map, List.length_map]; exact hm2) hg2) (by rw [List.length_map]; exact h.lp) (by rw [List.length_map]; exact h.lq)
    (fun p hp => by obtain ⟨x, hx, rfl⟩ := List.mem_map.1 hp; exact h.names x hx)
theorem trn_B {el m : Nat} {bv bv' : Value} {G : Heap} (h : BdsR w bv l) (hb : Grow el 6 bv' m (bdL (l.map trnB)) G) (hm : m = l.length) (hg : ∀ p ∈ G, w.heap[p.1]? = some p.2) : BdsR w bv' (l.map trnB) :=
  ⟨by rw [List.length_map]; exact h.len, Grow.rows hb (bdL_len _) (by rw [List.length_map, List.length_map]; exact hm) hg⟩
end
end Go.Fl
