/- Joined texts. -/
import Derived.Test.YtbncegfgjbdheabZai
import Derived.Test.YtbncegfgjbdheabZae
/- Vehicles made anew, in memory (plain). -/
set_option linter.all false
namespace Go.Fl
open Go.Vc Go.Tk

section
variable {w : World} {v : Veh} {av pv qv pv' qv' : Value}
end
end Go.Fl
namespace Go.Fl
end Go.Fl

/- Parts of rows in memory (plain). -/
set_option linter.all false
namespace Go.Fl
open Go.Vc Go.Tk

section
variable {f : Nat → St} {n k : Nat} {cur : Array Value} {m : Nat}
end
theorem st_eq (s : St) : eqL s.cells s.cells = true := by simp [eqL, eqv, St.cells]
theorem st_ne (s : St) : (!(eqL s.cells s.cells)) = false := by rw [st_eq]; rfl
end Go.Fl

/- The reference's root (plain). -/
set_option linter.all false
namespace Go.Fl
open Go.Vc Go.Tk
section
variable {n lo hi : Int} {k : Nat}
end
end Go.Fl
namespace Go.Fl
open Go.Vc Go.Tk
end Go.Fl
namespace Go.Fl
open Go.Vc Go.Tk
theorem stL_rows2 {l : List St} {el m : Nat} {v : Value} {G : Heap} {w : World} (h : Grow el 12 v m (stL l) G) (hm : m = l.length) (hg : ∀ p ∈ G, w.heap[p.1]? = some p.2) : SliceR w 12 v (l.map St.cells) :=
  Grow.rows h (by intro e he; obtain ⟨x, _, rfl⟩ := List.mem_map.1 he; rfl) (by rw [List.length_map, hm]) hg
end Go.Fl
