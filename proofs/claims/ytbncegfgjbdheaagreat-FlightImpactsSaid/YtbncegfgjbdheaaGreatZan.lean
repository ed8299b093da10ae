/- Joined texts. -/
import Derived.Test.YtbncegfgjbdheaaGreatZai
import Derived.Test.YtbncegfgjbdheaaGreatZae
/- Vehicles made anew, in memory (plain). -/
set_option linter.all false
namespace Go.Fl
open Go.Vc Go.Tk

section
variable {w : World} {v : Veh} {av pv qv pv' qv' : Value}
end
/-- row k of a list of states in memory -/
theorem row_st {f : Nat → St} {n k : Nat} {cur : Array Value} {m : Nat} (h : cur.toList.take (m * 12) = stL (rowS f n)) (hm : m = n + 1) (hk : k ≤ n) : sliceL cur.toList (0 + k * 12) 12 = some (f k).cells := by
  rw [← rowS_getD f hk]
  exact row_sl (f := St.cells) (d := stZ) h (fun _ => rfl) (by rw [rowS_len, hm]) (by rw [rowS_len]; omega)
end Go.Fl
namespace Go.Fl
end Go.Fl

/- Parts of rows in memory (plain). -/
set_option linter.all false
namespace Go.Fl
open Go.Vc Go.Tk

theorem sliceL_len {cur vs : List Value} {off s : Nat} (h : sliceL cur off s = some vs) : off + s ≤ cur.length := by
  unfold sliceL at h
  cases hb : Nat.ble (off + s) cur.length with
  | false => simp [hb] at h
  | true => exact Nat.le_of_ble_eq_true hb
theorem cur_sub {cur vs us : List Value} {off off' s idx sz : Nat} (h : sliceL cur off s = some vs) (he : off' = off + idx) (hi : idx + sz ≤ s) (hu : (vs.drop idx).take sz = us) : sliceL cur off' sz = some us := by
  have h1 := sliceL_len h
  obtain ⟨h2, h3⟩ := sliceL_spec h
  subst he
  unfold sliceL
  rw [Nat.ble_eq_true_of_le (show off + idx + sz ≤ cur.length by omega), cond_true, ← hu, h2, List.drop_take, List.take_take, List.drop_drop, Nat.min_eq_left (by omega)]
section
variable {f : Nat → St} {n k : Nat} {cur : Array Value} {m : Nat}
end
end Go.Fl

/- The reference's root (plain). -/
set_option linter.all false
namespace Go.Fl
open Go.Vc Go.Tk
section
variable {n lo hi : Int} {k : Nat}
theorem rootB_lt (h4 : hi - lo ≤ 2 ^ k) (h : 1 < hi - lo) : k - 1 < k := by
  cases k with
  | zero => simp at h4; omega
  | succ k => omega
theorem rootB_up (hr : rootI n = rootB n k lo hi) (h1 : 0 ≤ lo) (h2 : lo < hi) (h3 : hi ≤ 4000000000) (h4 : hi - lo ≤ 2 ^ k) (h : 1 < hi - lo) (hc : (lo + hi) / 2 ≤ n / ((lo + hi) / 2)) :
    rootI n = rootB n (k - 1) ((lo + hi) / 2) hi ∧ 0 ≤ (lo + hi) / 2 ∧ (lo + hi) / 2 < hi ∧ hi ≤ 4000000000 ∧ hi - (lo + hi) / 2 ≤ 2 ^ (k - 1) := by
  cases k with
  | zero => simp at h4; omega
  | succ k =>
    rw [Nat.add_sub_cancel]
    rw [Int.pow_succ] at h4
    refine ⟨?_, by omega, by omega, h3, by omega⟩
    rw [hr, rootB, if_pos h, if_pos hc]
theorem rootB_dn (hr : rootI n = rootB n k lo hi) (h1 : 0 ≤ lo) (h2 : lo < hi) (h3 : hi ≤ 4000000000) (h4 : hi - lo ≤ 2 ^ k) (h : 1 < hi - lo) (hc : ¬ (lo + hi) / 2 ≤ n / ((lo + hi) / 2)) :
    rootI n = rootB n (k - 1) lo ((lo + hi) / 2) ∧ 0 ≤ lo ∧ lo < (lo + hi) / 2 ∧ (lo + hi) / 2 ≤ 4000000000 ∧ (lo + hi) / 2 - lo ≤ 2 ^ (k - 1) := by
  cases k with
  | zero => simp at h4; omega
  | succ k =>
    rw [Nat.add_sub_cancel]
    rw [Int.pow_succ] at h4
    refine ⟨?_, h1, by omega, by omega, by omega⟩
    rw [hr, rootB, if_pos h, if_neg hc]
theorem rootB_end (h : ¬ 1 < hi - lo) : rootB n k lo hi = lo := by
  cases k with
  | zero => rfl
  | succ k => rw [rootB, if_neg h]
end
end Go.Fl
namespace Go.Fl
open Go.Vc Go.Tk
theorem relA_z {l : List Band} (hB : GoodB l) (s : St) : (relA l s).z = s.v.z := by
  show subS s.v.z (windsT l s.p.z).z = s.v.z
  rw [(winds_bnd hB s.p.z).2.2]
  exact span_ext (Int.sub_zero _) (Int.sub_zero _)
theorem speed_alt {l : List Band} (hB : GoodB l) (s : St) : rootS (addS (addS (sqS (relA l s).x) (sqS (relA l s).y)) (sqS s.v.z)) = speedS (relA l s) := by
  unfold speedS
  rw [relA_z hB s]
  have e : addS (at1 0) (sqS (relA l s).x) = sqS (relA l s).x := span_ext (Int.zero_add _) (Int.zero_add _)
  rw [e]
theorem force_alt {l : List Band} (hB : GoodB l) (v : Veh) (d : Dir) (p : Phase) (s : St) : forceT v d l p s = ⟨axisS (pushS p) (dragS v p.drag s (relA l s)) p.mass d.x p.tilt.x (relA l s).x, axisS (pushS p) (dragS v p.drag s (relA l s)) p.mass d.y p.tilt.y (relA l s).y, subS (axisS (pushS p) (dragS v p.drag s (relA l s)) p.mass d.z p.tilt.z s.v.z) v.gravity⟩ := by
  unfold forceT forceW
  rw [relA_z hB s]
end Go.Fl
namespace Go.Fl
open Go.Vc Go.Tk
theorem im_ne (y : Imp) : (!(eqL y.cells y.cells)) = false := by simp [eqL, eqv, Imp.cells]
theorem stL_rows2 {l : List St} {el m : Nat} {v : Value} {G : Heap} {w : World} (h : Grow el 12 v m (stL l) G) (hm : m = l.length) (hg : ∀ p ∈ G, w.heap[p.1]? = some p.2) : SliceR w 12 v (l.map St.cells) :=
  Grow.rows h (by intro e he; obtain ⟨x, _, rfl⟩ := List.mem_map.1 he; rfl) (by rw [List.length_map, hm]) hg
theorem imL_rows2 {l : List Imp} {el m : Nat} {v : Value} {G : Heap} {w : World} (h : Grow el 7 v m (imL l) G) (hm : m = l.length) (hg : ∀ p ∈ G, w.heap[p.1]? = some p.2) : SliceR w 7 v (l.map Imp.cells) :=
  Grow.rows h (by intro e he; obtain ⟨x, _, rfl⟩ := List.mem_map.1 he; rfl) (by rw [List.length_map, hm]) hg
theorem rowS_at {f : Nat → St} {n k : Nat} (h : k ≤ n) : ((rowS f n).map St.cells)[k]? = some (f k).cells := by
  unfold rowS; rw [List.getElem?_map, List.getElem?_map, List.getElem?_range (by omega)]; rfl
end Go.Fl

/- The wind at a height (plain). -/
set_option linter.all false
namespace Go.Fl
open Go.Vc Go.Tk
section
variable {l : List Band} {h : Int}
end
end Go.Fl

/- The reference's parted pieces (plain). -/
set_option linter.all false
namespace Go.Fl
open Go.Vc Go.Tk
/-- what parted returns for piece x and n ticks: states f, m of them and one -/
def PtdI (v : Veh) (d : Dir) (l : List Band) (x : Piece) (n : Nat) (f : Nat → St) (m : Nat) : Prop :=
  (∃ J, J ≤ x.at_.toNat ∧ f = (fun _ => stT v d l J) ∧ m = 0 ∧ farS (stT v d l J) = true) ∨
  (f = pcT v d l x ∧ (∀ j, j ≤ x.at_.toNat → farS (stT v d l j) = false) ∧ m ≤ n ∧ (∀ j, j < m → farS (f j) = false) ∧ (m = n ∨ farS (f m) = true))
section
variable {v : Veh} {d : Dir} {l : List Band} {f : Nat → St} {m : Nat} {frm floor : Int}
theorem PtdI.le {x : Piece} {n : Nat} (h : PtdI v d l x n f m) : m ≤ n := by
  rcases h with ⟨J, _, _, h, _⟩ | ⟨_, _, h, _⟩ <;> omega
theorem impN_stop (hf : farS (f m) = true) (e : Nat) : ∀ (r t : Nat) (x : Imp), t + r = m → impN f frm floor (r + e) t x = impN f frm floor r t x := by
  intro r
  induction r with
  | zero => intro t x h; rw [Nat.add_zero] at h; subst h; rw [impN_far hf, impN_far hf]
  | succ r ih =>
    intro t x h
    rw [show r + 1 + e = (r + e) + 1 by omega, impN, impN, ih (t + 1) _ (by omega)]
theorem impN_m {n : Nat} {x : Imp} (hm : m ≤ n) (h : m = n ∨ farS (f m) = true) : impN f frm floor n 0 x = impN f frm floor m 0 x := by
  rcases h with h | h
  · rw [h]
  have := impN_stop (frm := frm) (floor := floor) h (n - m) m 0 x (by omega)
  rw [show m + (n - m) = n by omega] at this; exact this
theorem ptd_imp {i : Nat} (hi : i < v.pieces.length) (h : PtdI v d l (v.pc i) (3000 - (v.pc i).at_).toNat f m) : impN f (v.pc i).at_ (v.pc i).floor m 0 ⟨i, spZ, spZ, spZ⟩ = impT v d l i := by
  rcases h with ⟨J, h1, h2, h3, h4⟩ | ⟨h1, h2, h3, h4, h5⟩
  · rw [impT_pcf hi h1 h4, impN_far (by rw [h2]; exact h4)]
  rw [impT_pc hi (anyFar_iff.2 h2), ← h1, impN_m h3 h5]
theorem ptd_veh {i : Nat} (hi : ¬ i < v.pieces.length) (hm : m ≤ 3000) (h : m = 3000 ∨ farS (stT v d l m) = true) : impN (stT v d l) 0 0 m 0 ⟨i, spZ, spZ, spZ⟩ = impT v d l i := by
  rw [impT_veh hi, impN_m hm h]
end
end Go.Fl
