/- Joined texts. -/
import Derived.Test.YtbncegfgjbdheabGreatZai
import Derived.Test.YtbncegfgjbdheabGreatZae

set_option linter.all false
namespace Go.Fl
open Go.Vc Go.Tk
section
variable {w : World} {v : Veh} {av pv qv pv' qv' : Value}
end
end Go.Fl
namespace Go.Fl
end Go.Fl


set_option linter.all false
namespace Go.Fl
open Go.Vc Go.Tk
section
variable {f : Nat → St} {n k : Nat} {cur : Array Value} {m : Nat}
end
end Go.Fl


set_option linter.all false
namespace Go.Fl
open Go.Vc Go.Tk
section
variable {n lo hi : Int} {k : Nat}
theorem rootB_lt (h4 : hi - lo ≤ 2 ^ k) (h : 1 < hi - lo) : k - 1 < k := by
  cases k with
  | zero => simp at h4; omega
  | succ k => omega
theorem rootB_up (hr : rootI n = rootB n k lo hi) (h1 : 0 ≤ lo) (h2 : lo < hi) (h3 : hi ≤ 4000000000) (h4 : hi - lo ≤ 2 ^ k) (h : 1 < hi - lo) (hc : (lo + hi) / 2 ≤ n / ((lo + hi) / 2)) :
    rootI n = rootB n (k - 1) ((lo + hi) / 2) hi ∧ 0 ≤ (lo + hi) / 2 ∧ (lo + hi) / 2 < hi ∧ hi ≤ 4000000000 ∧ hi - (lo + hi) / 2 ≤ 2 ^ (k - 1) := by
  cases k with
  | zero => simp at h4; omega
  | succ k =>
    rw [Nat.add_sub_cancel]
    rw [Int.pow_succ] at h4
    refine ⟨?_, by omega, by omega, h3, by omega⟩
    rw [hr, rootB, if_pos h, if_pos hc]
theorem rootB_dn (hr : rootI n = rootB n k lo hi) (h1 : 0 ≤ lo) (h2 : lo < hi) (h3 : hi ≤ 4000000000) (h4 : hi - lo ≤ 2 ^ k) (h : 1 < hi - lo) (hc : ¬ (lo + hi) / 2 ≤ n / ((lo + hi) / 2)) :
    rootI n = rootB n (k - 1) lo ((lo + hi) / 2) ∧ 0 ≤ lo ∧ lo < (lo + hi) / 2 ∧ (lo + hi) / 2 ≤ 4000000000 ∧ (lo + hi) / 2 - lo ≤ 2 ^ (k - 1) := by
  cases k with
  | zero => simp at h4; omega
  | succ k =>
    rw [Nat.add_sub_cancel]
    rw [Int.pow_succ] at h4
    refine ⟨?_, h1, by omega, by omega, by omega⟩
    rw [hr, rootB, if_pos h, if_neg hc]
theorem rootB_end (h : ¬ 1 < hi - lo) : rootB n k lo hi = lo := by
  cases k with
  | zero => rfl
  | succ k => rw [rootB, if_neg h]
end
end Go.Fl
namespace Go.Fl
open Go.Vc Go.Tk
theorem relA_z {l : List Band} (hB : GoodB l) (s : St) : (relA l s).z = s.v.z := by
  show subS s.v.z (windsT l s.p.z).z = s.v.z
  rw [(winds_bnd hB s.p.z).2.2]
  exact span_ext (Int.sub_zero _) (Int.sub_zero _)
theorem speed_alt {l : List Band} (hB : GoodB l) (s : St) : rootS (addS (addS (sqS (relA l s).x) (sqS (relA l s).y)) (sqS s.v.z)) = speedS (relA l s) := by
  unfold speedS
  rw [relA_z hB s]
  have e : addS (at1 0) (sqS (relA l s).x) = sqS (relA l s).x := span_ext (Int.zero_add _) (Int.zero_add _)
  rw [e]
theorem force_alt {l : List Band} (hB : GoodB l) (v : Veh) (d : Dir) (p : Phase) (s : St) : forceT v d l p s = ⟨axisS (pushS p) (dragS v p.drag s (relA l s)) p.mass d.x p.tilt.x (relA l s).x, axisS (pushS p) (dragS v p.drag s (relA l s)) p.mass d.y p.tilt.y (relA l s).y, subS (axisS (pushS p) (dragS v p.drag s (relA l s)) p.mass d.z p.tilt.z s.v.z) v.gravity⟩ := by
  unfold forceT forceW
  rw [relA_z hB s]
end Go.Fl
namespace Go.Fl
open Go.Vc Go.Tk
end Go.Fl
