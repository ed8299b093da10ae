/- Joined texts. -/
import Derived.Test.YtbncegfgjbdheaaZai
import Derived.Test.YtbncegfgjbdheaaZae
/- Vehicles made anew, in memory (plain). -/
set_option linter.all false
namespace Go.Fl
open Go.Vc Go.Tk

def phL (l : List Phase) : List Value := (l.map Phase.cells).flatten
theorem phL_s (l : List Phase) (x : Phase) : phL (l ++ [x]) = phL l ++ x.cells := by unfold phL; rw [List.map_append, List.flatten_append]; simp
theorem phL_len (l : List Phase) : ∀ e ∈ l.map Phase.cells, e.length = 13 := by intro e he; obtain ⟨x, _, rfl⟩ := List.mem_map.1 he; rfl
section
variable {w : World} {v : Veh} {av pv qv pv' qv' : Value}
/-- a vehicle with other phases and pieces -/
theorem VehR.re (h : VehR w (VehV v av pv qv) v) {ps : List Phase} {qs : List Piece} (hp : SliceR w 13 pv' (ps.map Phase.cells)) (hq : SliceR w 13 qv' (qs.map Piece.cells)) (lp : (ps.length : Int) ≤ 9223372036854775807) (lq : (qs.length : Int) ≤ 9223372036854775807)
    (hn : ∀ p ∈ qs, (p.name.size : Int) ≤ 9223372036854775807) : VehR w (VehV { v with phases := ps, pieces := qs } av pv' qv') { v with phases := ps, pieces := qs } :=
  ⟨h.name, hn, h.la, lp, lq, av, pv', qv', rfl, h.sl.1, hp, hq⟩
theorem VehR.rePh (h : VehR w (VehV v av pv qv) v) {ps : List Phase} {G : Heap} {el n : Nat} (hp : Grow el 13 pv' n (phL ps) G) (hn : n = ps.length) (hg : ∀ p ∈ G, w.heap[p.1]? = some p.2) (lp : (ps.length : Int) ≤ 9223372036854775807) :
    VehR w (VehV { v with phases := ps } av pv' qv) { v with phases := ps } :=
  h.re (Grow.rows hp (phL_len ps) (by rw [List.length_map]; exact hn) hg) h.sl.2.2 lp h.lq h.names
end
/-- row k of a list of states in memory -/
theorem row_st {f : Nat → St} {n k : Nat} {cur : Array Value} {m : Nat} (h : cur.toList.take (m * 12) = stL (rowS f n)) (hm : m = n + 1) (hk : k ≤ n) : sliceL cur.toList (0 + k * 12) 12 = some (f k).cells := by
  rw [← rowS_getD f hk]
  exact row_sl (f := St.cells) (d := stZ) h (fun _ => rfl) (by rw [rowS_len, hm]) (by rw [rowS_len]; omega)
theorem begT_le {v : Veh} (h : GoodV v) : ∀ k, k ≤ v.phases.length → 0 ≤ begT v k ∧ begT v k ≤ 3000 * k := by
  intro k
  induction k with
  | zero => intro _; exact ⟨Int.le_refl _, Int.le_refl _⟩
  | succ k ih =>
    intro hk
    have h1 := ih (by omega)
    have h2 := (ph_zero (h.ph k (by omega))).1
    rw [begT]; omega
def exX : Phase := ⟨1, ⟨7, 7⟩, ⟨1, 1⟩, ⟨0, 0⟩, axZ⟩
theorem exX_ok : phBad exX = false := by decide
end Go.Fl
namespace Go.Fl
theorem pre_q {n : Nat} {y : Int} (h : 0 ≤ y) : ∃ q : Nat, y.tmod (((n + 1 : Nat)) : Int) = (q : Int) ∧ q ≤ n := by
  have e : y.tmod ((n + 1 : Nat) : Int) = y % ((n + 1 : Nat) : Int) := Int.tmod_eq_emod_of_nonneg h
  have h1 := Int.emod_nonneg y (show ((n + 1 : Nat) : Int) ≠ 0 by omega)
  have h2 := Int.emod_lt_of_pos y (show (0 : Int) < ((n + 1 : Nat) : Int) by omega)
  exact ⟨(y.tmod ((n + 1 : Nat) : Int)).toNat, by omega, by omega⟩
end Go.Fl

/- Parts of rows in memory (plain). -/
set_option linter.all false
namespace Go.Fl
open Go.Vc Go.Tk

section
variable {f : Nat → St} {n k : Nat} {cur : Array Value} {m : Nat}
end
theorem st_eq (s : St) : eqL s.cells s.cells = true := by simp [eqL, eqv, St.cells]
theorem st_ne (s : St) : (!(eqL s.cells s.cells)) = false := by rw [st_eq]; rfl
end Go.Fl
