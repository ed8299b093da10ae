/- Joined texts. -/
import Derived.Test.YtbncegfgjbdheaaZai
import Derived.Test.YtbncegfgjbdheaaZae
/- Vehicles made anew, in memory (plain). -/
set_option linter.all false
namespace Go.Fl
open Go.Vc Go.Tk

section
variable {w : World} {v : Veh} {av pv qv pv' qv' : Value}
end
/-- row k of a list of states in memory -/
theorem row_st {f : Nat → St} {n k : Nat} {cur : Array Value} {m : Nat} (h : cur.toList.take (m * 12) = stL (rowS f n)) (hm : m = n + 1) (hk : k ≤ n) : sliceL cur.toList (0 + k * 12) 12 = some (f k).cells := by
  rw [← rowS_getD f hk]
  exact row_sl (f := St.cells) (d := stZ) h (fun _ => rfl) (by rw [rowS_len, hm]) (by rw [rowS_len]; omega)
end Go.Fl
namespace Go.Fl
end Go.Fl

/- Parts of rows in memory (plain). -/
set_option linter.all false
namespace Go.Fl
open Go.Vc Go.Tk

theorem sliceL_len {cur vs : List Value} {off s : Nat} (h : sliceL cur off s = some vs) : off + s ≤ cur.length := by
  unfold sliceL at h
  cases hb : Nat.ble (off + s) cur.length with
  | false => simp [hb] at h
  | true => exact Nat.le_of_ble_eq_true hb
theorem cur_sub {cur vs us : List Value} {off off' s idx sz : Nat} (h : sliceL cur off s = some vs) (he : off' = off + idx) (hi : idx + sz ≤ s) (hu : (vs.drop idx).take sz = us) : sliceL cur off' sz = some us := by
  have h1 := sliceL_len h
  obtain ⟨h2, h3⟩ := sliceL_spec h
  subst he
  unfold sliceL
  rw [Nat.ble_eq_true_of_le (show off + idx + sz ≤ cur.length by omega), cond_true, ← hu, h2, List.drop_take, List.take_take, List.drop_drop, Nat.min_eq_left (by omega)]
theorem cur_cell {cur vs : List Value} {off off' s idx : Nat} {u : Value} (h : sliceL cur off s = some vs) (he : off' = off + idx) (hu : vs[idx]? = some u) : cur[off']? = some u := by
  obtain ⟨h2, h3⟩ := sliceL_spec h
  have hl : idx < s := by rw [← h3]; exact (List.getElem?_eq_some_iff.1 hu).1
  subst he
  rw [h2, List.getElem?_take, if_pos hl, List.getElem?_drop] at hu
  exact hu
section
variable {f : Nat → St} {n k : Nat} {cur : Array Value} {m : Nat}
theorem st_sub {us : List Value} {off idx sz : Nat} (h : cur.toList.take (m * 12) = stL (rowS f n)) (hm : m = n + 1) (hk : k ≤ n) (he : off = 0 + k * 12 + idx) (hi : idx + sz ≤ 12) (hu : ((f k).cells.drop idx).take sz = us) : sliceL cur.toList off sz = some us :=
  cur_sub (row_st h hm hk) he hi hu
theorem st_cell {u : Value} {off idx : Nat} (h : cur.toList.take (m * 12) = stL (rowS f n)) (hm : m = n + 1) (hk : k ≤ n) (he : off = 0 + k * 12 + idx) (hu : (f k).cells[idx]? = some u) : cur.toList[off]? = some u :=
  cur_cell (row_st h hm hk) he hu
theorem im_row {l : List Imp} {y : Imp} (h : cur.toList.take (m * 7) = imL l) (hm : m = l.length) (hk : k < l.length) (hy : l.getD k imZ = y) : sliceL cur.toList (0 + k * 7) 7 = some y.cells := by
  rw [← hy]; exact row_sl (f := Imp.cells) (d := imZ) h (fun _ => rfl) hm hk
end
end Go.Fl
