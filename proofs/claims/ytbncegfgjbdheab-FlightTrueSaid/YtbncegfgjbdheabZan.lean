/- Joined texts. -/
import Derived.Test.YtbncegfgjbdheabZam
import Derived.Test.YtbncegfgjbdheabZai
import Derived.Test.YtbncegfgjbdheabZaf
import Derived.Test.YtbncegfgjbdheabZae
/- A vehicle without air, its phases grown (plain). -/
set_option linter.all false
namespace Go.Fl
open Go.Vc Go.Tk
section
variable {w : World} {ps : List (Int × Int)} {g : Int}
theorem fly_3 {v : Veh} {d : Dir} {l : List Band} {n : Int} (ha : askedF v d l = 0) (hn : 0 ≤ n ∧ n ≤ 3000) (h : flyE v d l n ≠ 0) : flyE v d l n = 3 := by
  unfold flyE at h ⊢
  rw [if_neg (by omega), if_neg (by rw [oP_false.2 hn]; decide)] at h ⊢
  split
  · rfl
  rename_i h2; rw [if_neg h2] at h; exact absurd rfl h
end
end Go.Fl

/- What a turned vehicle needs (plain). -/
set_option linter.all false
namespace Go.Fl
open Go.Vc Go.Tk
section
variable {v : Veh} {d : Dir} {l : List Band} {w : World}
end
end Go.Fl

/- A path that a vehicle can fly lies in its states, and comes down in its impact (plain). -/
set_option linter.all false
namespace Go.Fl
open Go.Vc Go.Tk
section
variable {v : Veh} {d : Dir} {l : List Band} {q : List Pt}
theorem own_inv (h : ownE v d l q = 0) (h2 : ownI v d l q = -1) : strayE q = 0 ∧ askedF v d l = 0 ∧ ptAt q 0 = ptZ ∧ ∀ j, j + 1 < q.length → stepB v d l q j = true := by
  have ha : askedF v d l = 0 := by
    by_cases hh : askedF v d l = 0
    · exact hh
    rw [ownE_1 hh] at h; exact absurd h hh
  have hs : strayE q = 0 := by rw [ownE_2 ha] at h; exact h
  by_cases hz : ptAt q 0 = ptZ
  · refine ⟨hs, ha, hz, ?_⟩
    rcases firstIdx_of (p := fun t => !(stepB v d l q t)) (n := q.length - 1) (q.length - 1) 0 (by omega) with ⟨_, h1⟩ | ⟨i, _, h3, h4, _, _⟩
    · intro j hj
      have := h1 j (Nat.zero_le _) (by omega)
      simpa using this
    unfold ownI at h2
    rw [if_neg (by omega), if_neg (by rw [hz]; exact fun k => k rfl), h4, if_neg (by omega)] at h2
    omega
  rw [own_start h hz] at h2; omega
theorem own_in (h : ownE v d l q = 0) (h2 : ownI v d l q = -1) : ∀ t, t + 1 ≤ q.length → (∀ j, j < t → farS (stT v d l j) = false) → InT (ptS (ptAt q t)) (stT v d l t) := by
  obtain ⟨hs, ha, hz, hst⟩ := own_inv h h2
  obtain ⟨⟨hl1, _⟩, hfar⟩ := stray_0 hs
  obtain ⟨hV, hd, hB⟩ := asked_good ha
  intro t ht hf
  exact runs_in hV hd hB (of := fun n => nowT v n) (fun n => now_ph hV n) (s := stZ) (g := ptAt q) (m := q.length - 1) (by rw [hz]; exact ⟨InA.rfl', InA.rfl'⟩)
    (fun j hj => ⟨hfar j (by omega), hst j (by omega)⟩) t (by omega) hf
theorem down_inv {floor : Int} (h : downE q floor = 0) : downP q floor = ((ptAt q ((downI q floor).toNat + 1)).x, (ptAt q ((downI q floor).toNat + 1)).y, (((downI q floor).toNat + 1 : Nat) : Int)) ∧ (downI q floor).toNat + 1 < q.length ∧ (ptAt q ((downI q floor).toNat + 1)).z ≤ floor ∧ ∀ j, 1 ≤ j → j < (downI q floor).toNat + 1 → floor < (ptAt q j).z := by
  have h0 := h
  unfold downE at h0
  split at h0
  · contradiction
  split at h0
  · cases h0
  split at h0
  · cases h0
  rename_i _ _ h3
  obtain ⟨e1, e2⟩ := downI_lt h3
  rcases firstIdx_of (p := fun t => decide ((ptAt q (t + 1)).z ≤ floor)) (n := q.length - 1) (q.length - 1) 0 (by omega) with ⟨h4, _⟩ | ⟨i, _, h5, h6, h7, h8⟩
  · exact absurd (show downI q floor < 0 by unfold downI; omega) h3
  have ei : (downI q floor).toNat = i := by unfold downI; omega
  rw [downP_0 h]
  rw [ei] at e1 e2 ⊢
  refine ⟨?_, e1, of_decide_eq_true h7, fun j hj1 hj2 => ?_⟩
  · rw [e2, show ((i : Int) + 1).toNat = i + 1 by omega]; rfl
  have := of_decide_eq_false (h8 (j - 1) (Nat.zero_le _) (by omega))
  rw [show j - 1 + 1 = j by omega] at this; omega
theorem own_lands (h : ownE v d l q = 0) (h2 : ownI v d l q = -1) (hi : impsE v d l = 0) (hdn : downE q 0 = 0) :
    hasS (impT v d l v.pieces.length).1.at_ (0 + (downP q 0).2.2) = true ∧ hasS (impT v d l v.pieces.length).1.x (downP q 0).1 = true ∧ hasS (impT v d l v.pieces.length).1.y (downP q 0).2.1 = true := by
  obtain ⟨hA, himp⟩ := imps_ok hi
  obtain ⟨a, b, hI, _, _, _⟩ := imp_is (d := d) (l := l) (asked_good hA).1 (i := v.pieces.length) (himp _ (Nat.le_refl _))
  obtain ⟨e, h3, h4, h5⟩ := down_inv hdn
  have ef : ofI v d l v.pieces.length = stT v d l := if_neg (by omega)
  have er : frmI v v.pieces.length = 0 := if_neg (by omega)
  have el : flrI v v.pieces.length = 0 := if_neg (by omega)
  rw [ef, er, el] at hI
  rw [e]
  exact imp_has hI (g := ptAt q) (t := (downI q 0).toNat + 1) (fun j hj1 hj2 => own_in h h2 j (by omega) (fun i hi => hI.far i (by omega))) (by omega) h4 h5
end
end Go.Fl
