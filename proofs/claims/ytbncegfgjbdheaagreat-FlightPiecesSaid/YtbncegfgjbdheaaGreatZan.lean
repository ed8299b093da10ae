/- Joined texts. -/
import Derived.Test.YtbncegfgjbdheaaGreatZai
import Derived.Test.YtbncegfgjbdheaaGreatZae
/- Vehicles made anew, in memory (plain). -/
set_option linter.all false
namespace Go.Fl
open Go.Vc Go.Tk

section
variable {w : World} {v : Veh} {av pv qv pv' qv' : Value}
end
/-- row k of a list of states in memory -/
theorem row_st {f : Nat → St} {n k : Nat} {cur : Array Value} {m : Nat} (h : cur.toList.take (m * 12) = stL (rowS f n)) (hm : m = n + 1) (hk : k ≤ n) : sliceL cur.toList (0 + k * 12) 12 = some (f k).cells := by
  rw [← rowS_getD f hk]
  exact row_sl (f := St.cells) (d := stZ) h (fun _ => rfl) (by rw [rowS_len, hm]) (by rw [rowS_len]; omega)
end Go.Fl
namespace Go.Fl
end Go.Fl

/- Parts of rows in memory (plain). -/
set_option linter.all false
namespace Go.Fl
open Go.Vc Go.Tk

theorem sliceL_len {cur vs : List Value} {off s : Nat} (h : sliceL cur off s = some vs) : off + s ≤ cur.length := by
  unfold sliceL at h
  cases hb : Nat.ble (off + s) cur.length with
  | false => simp [hb] at h
  | true => exact Nat.le_of_ble_eq_true hb
theorem cur_sub {cur vs us : List Value} {off off' s idx sz : Nat} (h : sliceL cur off s = some vs) (he : off' = off + idx) (hi : idx + sz ≤ s) (hu : (vs.drop idx).take sz = us) : sliceL cur off' sz = some us := by
  have h1 := sliceL_len h
  obtain ⟨h2, h3⟩ := sliceL_spec h
  subst he
  unfold sliceL
  rw [Nat.ble_eq_true_of_le (show off + idx + sz ≤ cur.length by omega), cond_true, ← hu, h2, List.drop_take, List.take_take, List.drop_drop, Nat.min_eq_left (by omega)]
section
variable {f : Nat → St} {n k : Nat} {cur : Array Value} {m : Nat}
end
theorem st_eq (s : St) : eqL s.cells s.cells = true := by simp [eqL, eqv, St.cells]
theorem st_ne (s : St) : (!(eqL s.cells s.cells)) = false := by rw [st_eq]; rfl
end Go.Fl

/- The reference's root (plain). -/
set_option linter.all false
namespace Go.Fl
open Go.Vc Go.Tk
section
variable {n lo hi : Int} {k : Nat}
theorem rootB_lt (h4 : hi - lo ≤ 2 ^ k) (h : 1 < hi - lo) : k - 1 < k := by
  cases k with
  | zero => simp at h4; omega
  | succ k => omega
theorem rootB_up (hr : rootI n = rootB n k lo hi) (h1 : 0 ≤ lo) (h2 : lo < hi) (h3 : hi ≤ 4000000000) (h4 : hi - lo ≤ 2 ^ k) (h : 1 < hi - lo) (hc : (lo + hi) / 2 ≤ n / ((lo + hi) / 2)) :
    rootI n = rootB n (k - 1) ((lo + hi) / 2) hi ∧ 0 ≤ (lo + hi) / 2 ∧ (lo + hi) / 2 < hi ∧ hi ≤ 4000000000 ∧ hi - (lo + hi) / 2 ≤ 2 ^ (k - 1) := by
  cases k with
  | zero => simp at h4; omega
  | succ k =>
    rw [Nat.add_sub_cancel]
    rw [Int.pow_succ] at h4
    refine ⟨?_, by omega, by omega, h3, by omega⟩
    rw [hr, rootB, if_pos h, if_pos hc]
theorem rootB_dn (hr : rootI n = rootB n k lo hi) (h1 : 0 ≤ lo) (h2 : lo < hi) (h3 : hi ≤ 4000000000) (h4 : hi - lo ≤ 2 ^ k) (h : 1 < hi - lo) (hc : ¬ (lo + hi) / 2 ≤ n / ((lo + hi) / 2)) :
    rootI n = rootB n (k - 1) lo ((lo + hi) / 2) ∧ 0 ≤ lo ∧ lo < (lo + hi) / 2 ∧ (lo + hi) / 2 ≤ 4000000000 ∧ (lo + hi) / 2 - lo ≤ 2 ^ (k - 1) := by
  cases k with
  | zero => simp at h4; omega
  | succ k =>
    rw [Nat.add_sub_cancel]
    rw [Int.pow_succ] at h4
    refine ⟨?_, h1, by omega, by omega, by omega⟩
    rw [hr, rootB, if_pos h, if_neg hc]
theorem rootB_end (h : ¬ 1 < hi - lo) : rootB n k lo hi = lo := by
  cases k with
  | zero => rfl
  | succ k => rw [rootB, if_neg h]
end
end Go.Fl
namespace Go.Fl
open Go.Vc Go.Tk
theorem relA_z {l : List Band} (hB : GoodB l) (s : St) : (relA l s).z = s.v.z := by
  show subS s.v.z (windsT l s.p.z).z = s.v.z
  rw [(winds_bnd hB s.p.z).2.2]
  exact span_ext (Int.sub_zero _) (Int.sub_zero _)
theorem speed_alt {l : List Band} (hB : GoodB l) (s : St) : rootS (addS (addS (sqS (relA l s).x) (sqS (relA l s).y)) (sqS s.v.z)) = speedS (relA l s) := by
  unfold speedS
  rw [relA_z hB s]
  have e : addS (at1 0) (sqS (relA l s).x) = sqS (relA l s).x := span_ext (Int.zero_add _) (Int.zero_add _)
  rw [e]
theorem force_alt {l : List Band} (hB : GoodB l) (v : Veh) (d : Dir) (p : Phase) (s : St) : forceT v d l p s = ⟨axisS (pushS p) (dragS v p.drag s (relA l s)) p.mass d.x p.tilt.x (relA l s).x, axisS (pushS p) (dragS v p.drag s (relA l s)) p.mass d.y p.tilt.y (relA l s).y, subS (axisS (pushS p) (dragS v p.drag s (relA l s)) p.mass d.z p.tilt.z s.v.z) v.gravity⟩ := by
  unfold forceT forceW
  rw [relA_z hB s]
end Go.Fl
namespace Go.Fl
open Go.Vc Go.Tk
theorem stL_rows2 {l : List St} {el m : Nat} {v : Value} {G : Heap} {w : World} (h : Grow el 12 v m (stL l) G) (hm : m = l.length) (hg : ∀ p ∈ G, w.heap[p.1]? = some p.2) : SliceR w 12 v (l.map St.cells) :=
  Grow.rows h (by intro e he; obtain ⟨x, _, rfl⟩ := List.mem_map.1 he; rfl) (by rw [List.length_map, hm]) hg
end Go.Fl

/- The wind at a height (plain). -/
set_option linter.all false
namespace Go.Fl
open Go.Vc Go.Tk
section
variable {l : List Band} {h : Int}
end
end Go.Fl

/- The reference's parted pieces (plain). -/
set_option linter.all false
namespace Go.Fl
open Go.Vc Go.Tk
/-- what parted returns for piece x and n ticks: states f, m of them and one -/
def PtdI (v : Veh) (d : Dir) (l : List Band) (x : Piece) (n : Nat) (f : Nat → St) (m : Nat) : Prop :=
  (∃ J, J ≤ x.at_.toNat ∧ f = (fun _ => stT v d l J) ∧ m = 0 ∧ farS (stT v d l J) = true) ∨
  (f = pcT v d l x ∧ (∀ j, j ≤ x.at_.toNat → farS (stT v d l j) = false) ∧ m ≤ n ∧ (∀ j, j < m → farS (f j) = false) ∧ (m = n ∨ farS (f m) = true))
section
variable {v : Veh} {d : Dir} {l : List Band} {f : Nat → St} {m : Nat} {frm floor : Int}
theorem PtdI.le {x : Piece} {n : Nat} (h : PtdI v d l x n f m) : m ≤ n := by
  rcases h with ⟨J, _, _, h, _⟩ | ⟨_, _, h, _⟩ <;> omega
theorem ptd_bad {i n : Int} (ha : askedF v d l = 0) (hi : oP i 0 (v.pieces.length - 1) = false) (hn : oP n 0 (3000 - (v.pc i.toNat).at_) = false) (h : PtdI v d l (v.pc i.toNat) n.toNat f m) (hf : farS (f m) = true) : pieceE v d l i n = 3 := by
  rcases h with ⟨J, h1, h2, h3, h4⟩ | ⟨h1, h2, h3, h4, h5⟩
  · exact piece_far1 ha hi hn h1 h4
  rw [h1] at hf; exact piece_far2 ha hi hn h3 hf
theorem ptd_ok {i n : Int} (ha : askedF v d l = 0) (hi : oP i 0 (v.pieces.length - 1) = false) (hn : oP n 0 (3000 - (v.pc i.toNat).at_) = false) (h : PtdI v d l (v.pc i.toNat) n.toNat f m) (hf : farS (f m) = false) : pieceE v d l i n = 0 ∧ pieceL v d l i n = rowS f m ∧ m = n.toNat := by
  rcases h with ⟨J, h1, h2, h3, h4⟩ | ⟨h1, h2, h3, h4, h5⟩
  · rw [h2] at hf; dsimp only at hf; rw [hf] at h4; cases h4
  have e : m = n.toNat := by
    rcases h5 with h5 | h5
    · exact h5
    rw [h5] at hf; cases hf
  have e0 : pieceE v d l i n = 0 := piece_mk ha (oP_false.1 hi) (oP_false.1 hn) h2 (fun j hj => by
    by_cases ej : j = m
    · rw [ej, ← h1]; exact hf
    rw [← h1]; exact h4 j (by omega))
  exact ⟨e0, by rw [pieceL_ok e0, h1, e], e⟩
end
end Go.Fl
