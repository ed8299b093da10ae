/- Joined texts. -/
import Derived.Test.YtbncegfgjbdheaaZai
import Derived.Test.YtbncegfgjbdheaaZae
/- Vehicles made anew, in memory (plain). -/
set_option linter.all false
namespace Go.Fl
open Go.Vc Go.Tk

def phL (l : List Phase) : List Value := (l.map Phase.cells).flatten
theorem phL_s (l : List Phase) (x : Phase) : phL (l ++ [x]) = phL l ++ x.cells := by unfold phL; rw [List.map_append, List.flatten_append]; simp
section
variable {w : World} {v : Veh} {av pv qv pv' qv' : Value}
end
/-- row k of a list of states in memory -/
theorem row_st {f : Nat → St} {n k : Nat} {cur : Array Value} {m : Nat} (h : cur.toList.take (m * 12) = stL (rowS f n)) (hm : m = n + 1) (hk : k ≤ n) : sliceL cur.toList (0 + k * 12) 12 = some (f k).cells := by
  rw [← rowS_getD f hk]
  exact row_sl (f := St.cells) (d := stZ) h (fun _ => rfl) (by rw [rowS_len, hm]) (by rw [rowS_len]; omega)
end Go.Fl
namespace Go.Fl
end Go.Fl

/- Parts of rows in memory (plain). -/
set_option linter.all false
namespace Go.Fl
open Go.Vc Go.Tk

section
variable {f : Nat → St} {n k : Nat} {cur : Array Value} {m : Nat}
end
theorem st_eq (s : St) : eqL s.cells s.cells = true := by simp [eqL, eqv, St.cells]
theorem st_ne (s : St) : (!(eqL s.cells s.cells)) = false := by rw [st_eq]; rfl
end Go.Fl

/- The reference's root (plain). -/
set_option linter.all false
namespace Go.Fl
open Go.Vc Go.Tk
section
variable {n lo hi : Int} {k : Nat}
end
end Go.Fl
namespace Go.Fl
open Go.Vc Go.Tk
end Go.Fl
namespace Go.Fl
open Go.Vc Go.Tk
end Go.Fl

/- The wind at a height (plain). -/
set_option linter.all false
namespace Go.Fl
open Go.Vc Go.Tk
section
variable {l : List Band} {h : Int}
end
end Go.Fl

/- The reference's parted pieces (plain). -/
set_option linter.all false
namespace Go.Fl
open Go.Vc Go.Tk
section
variable {v : Veh} {d : Dir} {l : List Band} {f : Nat → St} {m : Nat} {frm floor : Int}
end
end Go.Fl
