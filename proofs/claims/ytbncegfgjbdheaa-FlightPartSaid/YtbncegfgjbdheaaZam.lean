/- Joined texts. -/
import Derived.Test.YtbncegfgjbdheaaZai
import Derived.Test.YtbncegfgjbdheaaZae
/- Vehicles made anew, in memory (plain). -/
set_option linter.all false
namespace Go.Fl
open Go.Vc Go.Tk

section
variable {w : World} {v : Veh} {av pv qv pv' qv' : Value}
/-- a vehicle with other phases and pieces -/
theorem VehR.re (h : VehR w (VehV v av pv qv) v) {ps : List Phase} {qs : List Piece} (hp : SliceR w 13 pv' (ps.map Phase.cells)) (hq : SliceR w 13 qv' (qs.map Piece.cells)) (lp : (ps.length : Int) ≤ 9223372036854775807) (lq : (qs.length : Int) ≤ 9223372036854775807)
    (hn : ∀ p ∈ qs, (p.name.size : Int) ≤ 9223372036854775807) : VehR w (VehV { v with phases := ps, pieces := qs } av pv' qv') { v with phases := ps, pieces := qs } :=
  ⟨h.name, hn, h.la, lp, lq, av, pv', qv', rfl, h.sl.1, hp, hq⟩
end
/-- row k of a list of states in memory -/
theorem row_st {f : Nat → St} {n k : Nat} {cur : Array Value} {m : Nat} (h : cur.toList.take (m * 12) = stL (rowS f n)) (hm : m = n + 1) (hk : k ≤ n) : sliceL cur.toList (0 + k * 12) 12 = some (f k).cells := by
  rw [← rowS_getD f hk]
  exact row_sl (f := St.cells) (d := stZ) h (fun _ => rfl) (by rw [rowS_len, hm]) (by rw [rowS_len]; omega)
end Go.Fl
namespace Go.Fl
end Go.Fl

/- Parts of rows in memory (plain). -/
set_option linter.all false
namespace Go.Fl
open Go.Vc Go.Tk

section
variable {f : Nat → St} {n k : Nat} {cur : Array Value} {m : Nat}
theorem im_row {l : List Imp} {y : Imp} (h : cur.toList.take (m * 7) = imL l) (hm : m = l.length) (hk : k < l.length) (hy : l.getD k imZ = y) : sliceL cur.toList (0 + k * 7) 7 = some y.cells := by
  rw [← hy]; exact row_sl (f := Imp.cells) (d := imZ) h (fun _ => rfl) hm hk
end
end Go.Fl

/- The reference's root (plain). -/
set_option linter.all false
namespace Go.Fl
open Go.Vc Go.Tk
section
variable {n lo hi : Int} {k : Nat}
end
end Go.Fl
namespace Go.Fl
open Go.Vc Go.Tk
end Go.Fl
namespace Go.Fl
open Go.Vc Go.Tk
end Go.Fl

/- The wind at a height (plain). -/
set_option linter.all false
namespace Go.Fl
open Go.Vc Go.Tk
def overI (l : List Band) (h : Int) : Int := firstIdx (fun i => decide (h < (l.getD i bdZ).to)) 0 l.length
section
variable {l : List Band} {h : Int}
end
end Go.Fl

/- The reference's parted pieces (plain). -/
set_option linter.all false
namespace Go.Fl
open Go.Vc Go.Tk
/-- what parted returns for piece x and n ticks: states f, m of them and one -/
def PtdI (v : Veh) (d : Dir) (l : List Band) (x : Piece) (n : Nat) (f : Nat → St) (m : Nat) : Prop :=
  (∃ J, J ≤ x.at_.toNat ∧ f = (fun _ => stT v d l J) ∧ m = 0 ∧ farS (stT v d l J) = true) ∨
  (f = pcT v d l x ∧ (∀ j, j ≤ x.at_.toNat → farS (stT v d l j) = false) ∧ m ≤ n ∧ (∀ j, j < m → farS (f j) = false) ∧ (m = n ∨ farS (f m) = true))
section
variable {v : Veh} {d : Dir} {l : List Band} {f : Nat → St} {m : Nat} {frm floor : Int}
theorem PtdI.le {x : Piece} {n : Nat} (h : PtdI v d l x n f m) : m ≤ n := by
  rcases h with ⟨J, _, _, h, _⟩ | ⟨_, _, h, _⟩ <;> omega
end
end Go.Fl
