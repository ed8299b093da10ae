/- Joined texts. -/
import Derived.Test.YtbncegfgjbdheaaZai
import Derived.Test.YtbncegfgjbdheaaZae
/- Vehicles made anew, in memory (plain). -/
set_option linter.all false
namespace Go.Fl
open Go.Vc Go.Tk

section
variable {w : World} {v : Veh} {av pv qv pv' qv' : Value}
end
end Go.Fl
namespace Go.Fl
end Go.Fl

/- Parts of rows in memory (plain). -/
set_option linter.all false
namespace Go.Fl
open Go.Vc Go.Tk

section
variable {f : Nat → St} {n k : Nat} {cur : Array Value} {m : Nat}
end
end Go.Fl

/- The reference's root (plain). -/
set_option linter.all false
namespace Go.Fl
open Go.Vc Go.Tk
section
variable {n lo hi : Int} {k : Nat}
end
end Go.Fl
namespace Go.Fl
open Go.Vc Go.Tk
end Go.Fl
namespace Go.Fl
open Go.Vc Go.Tk
end Go.Fl

/- The wind at a height (plain). -/
set_option linter.all false
namespace Go.Fl
open Go.Vc Go.Tk
def overI (l : List Band) (h : Int) : Int := firstIdx (fun i => decide (h < (l.getD i bdZ).to)) 0 l.length
section
variable {l : List Band} {h : Int}
theorem bd_mono (hB : GoodB l) {i : Nat} : ∀ k, i + k < l.length → (bdAt l i).to ≤ (bdAt l (i + k)).to := by
  intro k
  induction k with
  | zero => intro _; exact Int.le_refl _
  | succ k ih =>
    intro hk
    have h1 := ih (by omega)
    have h2 := bd_zero (hB.bd (i + (k + 1)) hk)
    have e : begB l (i + (k + 1)) = (bdAt l (i + k)).to := rfl
    rw [e] at h2; omega
theorem over_winds (hB : GoodB l) (h0 : 0 ≤ h) (hi : ¬ overI l h < 0) : windsT l ⟨h, h⟩ = ⟨(bdAt l (overI l h).toNat).x, (bdAt l (overI l h).toNat).y, spZ⟩ := by
  rcases firstIdx_of (p := fun i => decide (h < (l.getD i bdZ).to)) (n := l.length) l.length 0 (by omega) with ⟨h1, _⟩ | ⟨i, _, h2, h3, h4, h5⟩
  · exact absurd (show overI l h < 0 by unfold overI; omega) hi
  have ei : (overI l h).toNat = i := by unfold overI; omega
  rw [ei]
  have h4' : h < (bdAt l i).to := of_decide_eq_true h4
  have h5' : ∀ j, j < i → (bdAt l j).to ≤ h := fun j hj => by have := of_decide_eq_false (h5 j (Nat.zero_le _) hj); unfold bdAt; omega
  have hlast : h < (bdAt l (l.length - 1)).to := by
    have := bd_mono hB (i := i) (l.length - 1 - i) (by omega)
    rw [show i + (l.length - 1 - i) = l.length - 1 by omega] at this; omega
  have s0 : ∀ k, k ≤ i → RwI l ⟨h, h⟩ k axZ false := by
    intro k
    induction k with
    | zero =>
      intro _
      have := RwI.zero (l := l) (z := ⟨h, h⟩)
      rw [decide_eq_false (show ¬ (bdAt l (l.length - 1)).to ≤ (⟨h, h⟩ : Span).hi by dsimp only; omega)] at this
      exact this
    | succ k ih => intro hk; exact (ih (by omega)).skip (rskip_2 (h5' k (by omega)))
  have s1 := (s0 i (Nat.le_refl _)).first (rskip_no (by
    rintro ⟨a, b⟩
    have e := (bd_zero (hB.bd i h2)).1
    have e2 : begB l i = (bdAt l (i - 1)).to := by unfold begB; rw [if_neg (by omega)]
    have := h5' (i - 1) (by omega)
    dsimp only at a; omega) (by dsimp only; omega))
  have s2 : ∀ k, i + 1 + k ≤ l.length → RwI l ⟨h, h⟩ (i + 1 + k) ⟨(bdAt l i).x, (bdAt l i).y, spZ⟩ true := by
    intro k
    induction k with
    | zero => intro _; exact s1
    | succ k ih =>
      intro hk
      have e := (bd_zero (hB.bd (i + 1 + k) (by omega))).1
      have e2 : begB l (i + 1 + k) = (bdAt l (i + k)).to := by unfold begB; rw [if_neg (by omega), show i + 1 + k - 1 = i + k by omega]
      have := bd_mono hB (i := i) k (by omega)
      exact (ih (by omega)).skip (rskip_1 (by dsimp only; omega) (by omega))
  have := s2 (l.length - (i + 1)) (by omega)
  rw [show i + 1 + (l.length - (i + 1)) = l.length by omega] at this
  exact (this.end hB).symm
def atI (z : Span) (n : Int) : Int := z.lo + ((z.hi - z.lo) * n).tdiv 255
theorem at_nums {z : Span} {n : Int} (hb : beyond z (-2000000000) 2000000000 = false) (hn : 0 ≤ n ∧ n ≤ 255) :
    (0 ≤ (z.hi - z.lo) * n ∧ (z.hi - z.lo) * n ≤ 4000000000 * 255) ∧ (0 ≤ ((z.hi - z.lo) * n).tdiv 255 ∧ ((z.hi - z.lo) * n).tdiv 255 ≤ 4000000000) ∧ z.lo ≤ atI z n ∧ atI z n ≤ z.hi := by
  have hz := beyond_false.1 hb
  have h1 := mul_bnd (show 0 ≤ z.hi - z.lo ∧ z.hi - z.lo ≤ 4000000000 by omega) hn
  have h2 := mul_bnd (show 0 ≤ z.hi - z.lo ∧ z.hi - z.lo ≤ z.hi - z.lo by omega) hn
  have h3 : (z.hi - z.lo) * n / 255 ≤ z.hi - z.lo := by
    have := Int.ediv_le_ediv (show (0 : Int) < 255 by omega) h2.2
    rw [Int.mul_ediv_cancel _ (by omega)] at this
    exact this
  have h4 := Int.ediv_nonneg h1.1 (show (0 : Int) ≤ 255 by omega)
  unfold atI
  rw [Int.tdiv_eq_ediv_of_nonneg h1.1]
  omega
theorem winds_at {z : Span} (hb : beyond z (-2000000000) 2000000000 = false) (h1 : z.lo ≤ h ∧ h ≤ z.hi) :
    windsE l ⟨h, h⟩ = windsE l z ∧ InS (windsP l ⟨h, h⟩).x (windsP l z).x ∧ InS (windsP l ⟨h, h⟩).y (windsP l z).y := by
  have hz := beyond_false.1 hb
  have hb2 : beyond ⟨h, h⟩ (-2000000000) 2000000000 = false := beyond_false.2 (by dsimp only; omega)
  by_cases hc : (checkB l).2 = 0
  · rw [windsE_3 hc hb, windsE_3 hc hb2, windsP_3 hc hb, windsP_3 hc hb2]
    have := someT_mono (z := ⟨h, h⟩) (z' := z) (frm := bdFrm l) (of := bdOf l) (Int.le_refl _) (by unfold InS; dsimp only; omega)
    exact ⟨rfl, this.x, this.y⟩
  rw [windsE_1 hc, windsE_1 hc, windsP_1 hc, windsP_1 hc]; exact ⟨rfl, InS.rfl', InS.rfl'⟩
theorem air_at {z : Span} {v : Veh} (hb : beyond z (-2000000000) 2000000000 = false) (h1 : z.lo ≤ h ∧ h ≤ z.hi) :
    airE v ⟨h, h⟩ = airE v z ∧ InS (airP v ⟨h, h⟩) (airP v z) := by
  have hz := beyond_false.1 hb
  have hb2 : beyond ⟨h, h⟩ (-2000000000) 2000000000 = false := beyond_false.2 (by dsimp only; omega)
  by_cases hc : (checkV v).2.2 = 0
  · rw [airE_3 hc hb, airE_3 hc hb2, airP_3 hc hb, airP_3 hc hb2]
    exact ⟨rfl, (someT_mono (z := ⟨h, h⟩) (z' := z) (frm := arFrm v) (of := arOf v) (Int.le_refl _) (by unfold InS; dsimp only; omega)).x⟩
  rw [airE_1 hc, airE_1 hc, airP_1 hc, airP_1 hc]; exact ⟨rfl, InS.rfl'⟩
theorem bad_at {z : Span} {v : Veh} (hb : beyond z (-2000000000) 2000000000 = true) : windsE l z ≠ 0 ∧ airE v z ≠ 0 := by
  constructor
  · by_cases hc : (checkB l).2 = 0
    · rw [windsE_2 hc hb]; decide
    rw [windsE_1 hc]; exact hc
  by_cases hc : (checkV v).2.2 = 0
  · rw [airE_2 hc hb]; decide
  rw [airE_1 hc]; exact hc
theorem over_at (hc : (checkB l).2 = 0) (h0 : 0 ≤ h ∧ h ≤ 99999999) (hi : ¬ overI l h < 0) : windsE l ⟨h, h⟩ = 0 ∧ (windsP l ⟨h, h⟩).x = (bdAt l (overI l h).toNat).x ∧ (windsP l ⟨h, h⟩).y = (bdAt l (overI l h).toNat).y := by
  have hb2 : beyond ⟨h, h⟩ (-2000000000) 2000000000 = false := beyond_false.2 (by dsimp only; omega)
  rw [windsE_3 hc hb2, windsP_3 hc hb2, over_winds (good_of_checkB hc) h0.1 hi]
  exact ⟨rfl, rfl, rfl⟩
/-- what Over returns -/
def overE (l : List Band) (h : Int) : Int := if (checkB l).2 ≠ 0 then (checkB l).2 else if oP h 0 99999999 = true then 7 else if overI l h < 0 then 4 else 0
def overX (l : List Band) (h : Int) : Band := if overE l h = 0 then bdAt l (overI l h).toNat else bdZ
theorem overE_0 (h1 : (checkB l).2 = 0) (h2 : oP h 0 99999999 = false) (h3 : ¬ overI l h < 0) : overE l h = 0 := by unfold overE; rw [if_neg (by omega), if_neg (by rw [h2]; decide), if_neg h3]
theorem overE_1 (h1 : (checkB l).2 ≠ 0) : overE l h = (checkB l).2 := if_pos h1
theorem overE_7 (h1 : (checkB l).2 = 0) (h2 : oP h 0 99999999 = true) : overE l h = 7 := by unfold overE; rw [if_neg (by omega), if_pos h2]
theorem overE_4 (h1 : (checkB l).2 = 0) (h2 : oP h 0 99999999 = false) (h3 : overI l h < 0) : overE l h = 4 := by unfold overE; rw [if_neg (by omega), if_neg (by rw [h2]; decide), if_pos h3]
theorem overX_0 (h9 : overE l h = 0) : overX l h = bdAt l (overI l h).toNat := if_pos h9
theorem overX_1 (h9 : overE l h ≠ 0) : overX l h = bdZ := if_neg h9
theorem over_inv (h1 : overE l h = 0) : (checkB l).2 = 0 ∧ oP h 0 99999999 = false ∧ ¬ overI l h < 0 := by
  unfold overE at h1
  split at h1
  · contradiction
  split at h1
  · cases h1
  split at h1
  · cases h1
  rename_i a b c; exact ⟨by omega, by simpa using b, c⟩
theorem over_ok (h1 : overE l h = 0) : windsE l ⟨h, h⟩ = 0 ∧ (windsP l ⟨h, h⟩).x = (overX l h).x ∧ (windsP l ⟨h, h⟩).y = (overX l h).y := by
  obtain ⟨a, b, c⟩ := over_inv h1
  rw [overX_0 h1]
  exact over_at a (oP_false.1 b) c
theorem overI_lt (h1 : ¬ overI l h < 0) : (overI l h).toNat < l.length ∧ overI l h = ((overI l h).toNat : Int) := by
  rcases firstIdx_of (p := fun i => decide (h < (l.getD i bdZ).to)) (n := l.length) l.length 0 (by omega) with ⟨h2, _⟩ | ⟨i, _, h2, h3, h4, h5⟩
  · exact absurd (show overI l h < 0 by unfold overI; omega) h1
  unfold overI; omega
end
end Go.Fl
