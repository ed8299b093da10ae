/- Joined texts. -/
import Derived.Test.YtbncegfgjbdheaaZai
import Derived.Test.YtbncegfgjbdheaaZae
/- Vehicles made anew, in memory (plain). -/
set_option linter.all false
namespace Go.Fl
open Go.Vc Go.Tk

def phL (l : List Phase) : List Value := (l.map Phase.cells).flatten
def pcL (l : List Piece) : List Value := (l.map Piece.cells).flatten
def bdL (l : List Band) : List Value := (l.map Band.cells).flatten
theorem phL_s (l : List Phase) (x : Phase) : phL (l ++ [x]) = phL l ++ x.cells := by unfold phL; rw [List.map_append, List.flatten_append]; simp
theorem pcL_s (l : List Piece) (x : Piece) : pcL (l ++ [x]) = pcL l ++ x.cells := by unfold pcL; rw [List.map_append, List.flatten_append]; simp
theorem bdL_s (l : List Band) (x : Band) : bdL (l ++ [x]) = bdL l ++ x.cells := by unfold bdL; rw [List.map_append, List.flatten_append]; simp
theorem phL_len (l : List Phase) : ∀ e ∈ l.map Phase.cells, e.length = 13 := by intro e he; obtain ⟨x, _, rfl⟩ := List.mem_map.1 he; rfl
theorem pcL_len (l : List Piece) : ∀ e ∈ l.map Piece.cells, e.length = 13 := by intro e he; obtain ⟨x, _, rfl⟩ := List.mem_map.1 he; rfl
theorem bdL_len (l : List Band) : ∀ e ∈ l.map Band.cells, e.length = 6 := by intro e he; obtain ⟨x, _, rfl⟩ := List.mem_map.1 he; rfl
section
variable {w : World} {v : Veh} {av pv qv pv' qv' : Value}
/-- a vehicle with other phases and pieces -/
theorem VehR.re (h : VehR w (VehV v av pv qv) v) {ps : List Phase} {qs : List Piece} (hp : SliceR w 13 pv' (ps.map Phase.cells)) (hq : SliceR w 13 qv' (qs.map Piece.cells)) (lp : (ps.length : Int) ≤ 9223372036854775807) (lq : (qs.length : Int) ≤ 9223372036854775807)
    (hn : ∀ p ∈ qs, (p.name.size : Int) ≤ 9223372036854775807) : VehR w (VehV { v with phases := ps, pieces := qs } av pv' qv') { v with phases := ps, pieces := qs } :=
  ⟨h.name, hn, h.la, lp, lq, av, pv', qv', rfl, h.sl.1, hp, hq⟩
end
/-- row k of a list of states in memory -/
theorem row_st {f : Nat → St} {n k : Nat} {cur : Array Value} {m : Nat} (h : cur.toList.take (m * 12) = stL (rowS f n)) (hm : m = n + 1) (hk : k ≤ n) : sliceL cur.toList (0 + k * 12) 12 = some (f k).cells := by
  rw [← rowS_getD f hk]
  exact row_sl (f := St.cells) (d := stZ) h (fun _ => rfl) (by rw [rowS_len, hm]) (by rw [rowS_len]; omega)
end Go.Fl
namespace Go.Fl
end Go.Fl

/- Parts of rows in memory (plain). -/
set_option linter.all false
namespace Go.Fl
open Go.Vc Go.Tk

section
variable {f : Nat → St} {n k : Nat} {cur : Array Value} {m : Nat}
theorem im_row {l : List Imp} {y : Imp} (h : cur.toList.take (m * 7) = imL l) (hm : m = l.length) (hk : k < l.length) (hy : l.getD k imZ = y) : sliceL cur.toList (0 + k * 7) 7 = some y.cells := by
  rw [← hy]; exact row_sl (f := Imp.cells) (d := imZ) h (fun _ => rfl) hm hk
end
theorem st_eq (s : St) : eqL s.cells s.cells = true := by simp [eqL, eqv, St.cells]
theorem st_ne (s : St) : (!(eqL s.cells s.cells)) = false := by rw [st_eq]; rfl
end Go.Fl

/- The reference's root (plain). -/
set_option linter.all false
namespace Go.Fl
open Go.Vc Go.Tk
section
variable {n lo hi : Int} {k : Nat}
end
end Go.Fl
namespace Go.Fl
open Go.Vc Go.Tk
end Go.Fl
namespace Go.Fl
open Go.Vc Go.Tk
theorem im_ne (y : Imp) : (!(eqL y.cells y.cells)) = false := by simp [eqL, eqv, Imp.cells]
end Go.Fl

/- The wind at a height (plain). -/
set_option linter.all false
namespace Go.Fl
open Go.Vc Go.Tk
section
variable {l : List Band} {h : Int}
end
end Go.Fl

/- The reference's parted pieces (plain). -/
set_option linter.all false
namespace Go.Fl
open Go.Vc Go.Tk
section
variable {v : Veh} {d : Dir} {l : List Band} {f : Nat → St} {m : Nat} {frm floor : Int}
end
end Go.Fl
