/- Layer 5: paths in memory. -/
import Derived.Test.YtclbbchehjapjabPa
set_option linter.all false
namespace Go.Vc
section
variable {X : Cx} {ρ : PEnv} {ds : List Deferred} {H : Heap} {Q : Post} {o : Oper}
theorem p_idxe {x i : Operand} {t len cap size : Nat} {a : Option Addr} {b : Addr} {k : Int} (hs : elemSz X.P t = some size) (ha : a = some b) (ho : o.op = .indexAddr t x i) (hx : ρ.ev x = some (.slice a len cap)) (hi : ρ.ev i = some (.int .i64 k))
    (h0 : 0 ≤ k) (h1 : k < len) : RdP X ρ o (.pointer (some (b.add (k.toNat * size)))) := by
  subst ha; exact p_idx hs ho hx hi h0 h1
end
end Go.Vc
namespace Go.Tk
open Go.Vc

def upd (f : Nat → Int) (k : Nat) (x : Int) : Nat → Int := fun j => if j = k then x else f j
abbrev vec3 (f : Nat → Int) : Array Value := #[.int .i64 (f 0), .int .i64 (f 1), .int .i64 (f 2)]
abbrev pathV (pa : Nat → Option Addr) (pn pc : Nat → Nat) (wv : Value) : Array Value := #[.slice (pa 0) (pn 0) (pc 0), .slice (pa 1) (pn 1) (pc 1), .slice (pa 2) (pn 2) (pc 2), wv]
theorem three {k : Int} (h0 : 0 ≤ k) (h : k < 3) : k.toNat = 0 ∨ k.toNat = 1 ∨ k.toNat = 2 := by omega
theorem vec_at {f : Nat → Int} {k : Int} (h0 : 0 ≤ k) (h : k < 3) : (vec3 f).toList[0 + k.toNat * 1]? = some (.int .i64 (f k.toNat)) := by
  rcases three h0 h with e | e | e <;> rw [e] <;> rfl
theorem vec_set {f : Nat → Int} {k x : Int} (h0 : 0 ≤ k) (h : k < 3) : (vec3 f).toList.set (0 + k.toNat * 1) (.int .i64 x) = (vec3 (upd f k.toNat x)).toList := by
  rcases three h0 h with e | e | e <;> rw [e] <;> rfl
theorem sl_at {pa : Nat → Option Addr} {pn pc : Nat → Nat} {wv : Value} {k : Int} (h0 : 0 ≤ k) (h : k < 3) : (pathV pa pn pc wv).toList[0 + k.toNat * 1]? = some (.slice (pa k.toNat) (pn k.toNat) (pc k.toNat)) := by
  rcases three h0 h with e | e | e <;> rw [e] <;> rfl
theorem upd_same {f : Nat → Int} {k : Nat} {x : Int} : upd f k x k = x := if_pos rfl
theorem upd_ne {f : Nat → Int} {k j : Nat} {x : Int} (h : j ≠ k) : upd f k x j = f j := if_neg h

structure PathR (w : World) (v : Value) (p : PathM) : Prop where
  ok : p.ok
  ex : ∃ (pa : Nat → Option Addr) (pc : Nat → Nat) (wa : Option Addr) (wc : Nat), v = .agg (pathV pa (fun k => (p.push k).length) pc (.slice wa p.wrong.length wc)) ∧
    (∀ k, k < 3 → SliceR w 1 (.slice (pa k) (p.push k).length (pc k)) ((p.push k).map fun n => [Value.int .i8 n])) ∧ SliceR w 1 (.slice wa p.wrong.length wc) (p.wrong.map fun n => [Value.int .i8 n]) ∧
    (∀ k, k < 3 → ((p.push k).length : Int) ≤ 9223372036854775807) ∧ ((p.wrong.length : Nat) : Int) ≤ 9223372036854775807
theorem PathR.good {w0 w : World} {H : Heap} {v : Value} {p : PathM} (h : PathR w0 v p) (hg : Vc.Good w0 [] H w) : PathR w v p := by
  obtain ⟨pa, pc, wa, wc, e, h1, h2, h3, h4⟩ := h.ex
  exact ⟨h.ok, pa, pc, wa, wc, e, fun k hk => (h1 k hk).good hg, h2.good hg, h3, h4⟩

/-! ### Run -/
structure RunI (t : Task) (p : PathM) (i k : Nat) (fv fa : Nat → Int) : Prop where
  v : ∀ j, j < 3 → fv j = velT t p j (if j < k then i + 1 else i)
  a : ∀ j, j < 3 → fa j = posT t p j (if j < k then i + 1 else i)
  b : ∀ j, j < 3 → -2000000000 ≤ fa j ∧ fa j ≤ 2000000000
section
variable {t : Task} {p : PathM} {i k : Nat} {fv fa : Nat → Int}
theorem RunI.zero : RunI t p 0 0 (fun _ => 0) (fun _ => 0) := ⟨fun _ _ => rfl, fun _ _ => rfl, fun _ _ => by omega⟩
theorem RunI.step (h : RunI t p i k fv fa) (hk : k < 3) {v' a' : Int} (hv : v' = max (-t.speed) (min t.speed (fv k + accT t p k i))) (ha : a' = fa k + v') (hb : -2000000000 ≤ a' ∧ a' ≤ 2000000000) : RunI t p i (k + 1) (upd fv k v') (upd fa k a') := by
  have h1 := h.v k hk
  have h2 := h.a k hk
  rw [if_neg (Nat.lt_irrefl k)] at h1 h2
  have e1 : v' = velT t p k (i + 1) := by rw [hv, h1]; rfl
  have e2 : a' = posT t p k (i + 1) := by rw [ha, h2, e1]; rfl
  refine ⟨fun j hj => ?_, fun j hj => ?_, fun j hj => ?_⟩
  · by_cases e : j = k
    · subst e; rw [upd_same, if_pos (by omega), e1]
    · rw [upd_ne e, h.v j hj]
      congr 1
      by_cases hl : j < k
      · rw [if_pos hl, if_pos (by omega)]
      · rw [if_neg hl, if_neg (by omega)]
  · by_cases e : j = k
    · subst e; rw [upd_same, if_pos (by omega), e2]
    · rw [upd_ne e, h.a j hj]
      congr 1
      by_cases hl : j < k
      · rw [if_pos hl, if_pos (by omega)]
      · rw [if_neg hl, if_neg (by omega)]
  · by_cases e : j = k
    · subst e; rw [upd_same]; exact hb
    · rw [upd_ne e]; exact h.b j hj
theorem RunI.next (h : RunI t p i 3 fv fa) : RunI t p (i + 1) 0 fv fa :=
  ⟨fun j hj => by rw [h.v j hj, if_pos hj]; rfl, fun j hj => by rw [h.a j hj, if_pos hj]; rfl, h.b⟩
theorem RunI.bv (h : RunI t p i k fv fa) (hs : 0 ≤ t.speed ∧ t.speed ≤ 1000000) {j : Nat} (hj : j < 3) : -1000000 ≤ fv j ∧ fv j ≤ 1000000 := by
  rw [h.v j hj]
  have := vel_abs (p := p) hs.1 j (if j < k then i + 1 else i)
  omega
theorem SmallP.zero : SmallP t p 0 := fun m hm k _ => by
  have : m = 0 := by omega
  subst this; simp [posT]
theorem SmallP.next (h : SmallP t p i) (h2 : RunI t p (i + 1) 0 fv fa) : SmallP t p (i + 1) := fun m hm k hk => by
  by_cases e : m = i + 1
  · subst e
    have := h2.b k hk
    have h3 := h2.a k hk
    rw [if_neg (by omega)] at h3
    rwa [h3] at this
  · exact h m (by omega) k hk
def rowP (t : Task) (p : PathM) (m : Nat) : List Value := [.int .i64 (posT t p 0 m), .int .i64 (posT t p 1 m), .int .i64 (posT t p 2 m)]
def rowsP (t : Task) (p : PathM) (n : Nat) : List (List Value) := (List.range n).map (rowP t p)
theorem rowsP_len {n : Nat} : (rowsP t p n).length = n := by simp [rowsP]
theorem rowsP_at {n m : Nat} (h : m < n) : (rowsP t p n)[m]? = some (rowP t p m) := by
  rw [rowsP, List.getElem?_map, List.getElem?_range h]; rfl
theorem rowsP_3 {n : Nat} : ∀ e ∈ rowsP t p n, e.length = 3 := by intro e he; obtain ⟨m, _, rfl⟩ := List.mem_map.1 he; rfl
theorem rowsP_succ {n : Nat} (h : RunI t p n 0 fv fa) : (rowsP t p (n + 1)).flatten = (rowsP t p n).flatten ++ [.int .i64 (fa 0), .int .i64 (fa 1), .int .i64 (fa 2)] := by
  have e0 := h.a 0 (by decide)
  have e1 := h.a 1 (by decide)
  have e2 := h.a 2 (by decide)
  simp only [Nat.not_lt_zero, if_false] at e0 e1 e2
  rw [rowsP, List.range_succ, List.map_append, List.flatten_append, e0, e1, e2]; rfl
theorem tmod_nat {i : Int} {n : Nat} (h0 : 0 ≤ i) (hn : 0 < n) : (0 ≤ i.tmod (n : Int) ∧ i.tmod (n : Int) < n) ∧ (i.tmod (n : Int)).toNat = i.toNat % n := by
  have e : i.tmod (n : Int) = i % (n : Int) := Int.tmod_eq_emod_of_nonneg h0
  have h1 := Int.emod_nonneg i (show (n : Int) ≠ 0 by omega)
  have h2 := Int.emod_lt_of_pos i (show (0 : Int) < n by omega)
  rw [e]
  refine ⟨⟨h1, h2⟩, ?_⟩
  obtain ⟨m, rfl⟩ := Int.eq_ofNat_of_zero_le h0
  rw [Int.toNat_natCast]
  omega
theorem accT_yes {j : Nat} (h : 0 < (p.push k).length) (hj : j = i % (p.push k).length) : (t.accel * max (-127) ((p.push k).getD j 0)).tdiv 127 = accT t p k i := by
  rw [accT, if_neg (by omega), hj]; rfl
theorem accT_no (h : ¬ 0 < (p.push k).length) : (0 : Int) = accT t p k i := by rw [accT, if_pos (by omega)]
theorem mul127 {a A x : Int} (ha : 0 ≤ a ∧ a ≤ A) (hA : A ≤ 10000000) (hx : x ≤ 127) : InI (a * max (-127) x) ∧ InI ((a * max (-127) x).tdiv 127) ∧ (-10000000 ≤ (a * max (-127) x).tdiv 127 ∧ (a * max (-127) x).tdiv 127 ≤ 10000000) := by
  have h1 : a * max (-127) x ≤ a * 127 := Int.mul_le_mul_of_nonneg_left (by omega) ha.1
  have h2 : a * (-127) ≤ a * max (-127) x := Int.mul_le_mul_of_nonneg_left (by omega) ha.1
  have h3 := part127_abs ha.1 hx
  unfold part127 at h3
  refine ⟨by unfold InI; omega, by unfold InI; omega, by omega⟩
/-- what Run returns -/
def RunOut (t : Task) (p : PathM) (ty : Nat) (v : Value) (A G : Heap) : Prop := ∃ (ok : Bool) (a : Option Addr) (n c : Nat) (xs : List Value), A = [] ∧ v = .tuple #[.slice a n c, .bool ok] ∧ Grow ty 3 (.slice a n c) n xs G ∧ (ok = true → n = 602 ∧ xs = (rowsP t p 602).flatten ∧ SmallP t p 601)

/-! ### Spot -/
def spotOk (t : Task) (u : Int) : Bool := decide (u < t.frm) || decide (u - t.frm + 1 + 8 < 602)
def spotP (t : Task) (p : PathM) (k : Nat) (u : Int) : Int := if spotOk t u then atP t p k u else 0
def spotV (t : Task) (p : PathM) (k : Nat) (u : Int) : Int := if spotOk t u then atV t p k u else 0
def spotR (t : Task) (p : PathM) (u : Int) : Value := .tuple #[.agg (vec3 fun k => spotP t p k u), .agg (vec3 fun k => spotV t p k u), .bool (spotOk t u)]
theorem spot_lt {u : Int} (h : u < t.frm) : spotR t p u = .tuple #[.agg #[.int .i64 0, .int .i64 0, .int .i64 0], .agg #[.int .i64 0, .int .i64 0, .int .i64 0], .bool true] := by
  have e : spotOk t u = true := by simp [spotOk, h]
  simp [spotR, spotP, spotV, e, atP, atV, h]
theorem spot_out {u : Int} (h : ¬ u < t.frm) (h2 : 602 ≤ u - t.frm + 1 + 8) : spotR t p u = .tuple #[.agg #[.int .i64 0, .int .i64 0, .int .i64 0], .agg #[.int .i64 0, .int .i64 0, .int .i64 0], .bool false] := by
  have e : spotOk t u = false := by simp only [spotOk, Bool.or_eq_false_iff, decide_eq_false_iff_not]; omega
  simp [spotR, spotP, spotV, e]
theorem spot_in {u : Int} (h : ¬ u < t.frm) (h2 : ¬ 602 ≤ u - t.frm + 1 + 8) : spotR t p u = .tuple #[.agg #[.int .i64 (posT t p 0 (u - t.frm).toNat), .int .i64 (posT t p 1 (u - t.frm).toNat), .int .i64 (posT t p 2 (u - t.frm).toNat)],
    .agg #[.int .i64 (posT t p 0 (u - t.frm + 1).toNat - posT t p 0 (u - t.frm).toNat), .int .i64 (posT t p 1 (u - t.frm + 1).toNat - posT t p 1 (u - t.frm).toNat), .int .i64 (posT t p 2 (u - t.frm + 1).toNat - posT t p 2 (u - t.frm).toNat)], .bool true] := by
  have e : spotOk t u = true := by simp only [spotOk, Bool.or_eq_true, decide_eq_true_eq]; omega
  have e1 : (u - t.frm + 1).toNat = (u - t.frm).toNat + 1 := by omega
  have d : ∀ k n, posT t p k (n + 1) - posT t p k n = velT t p k (n + 1) := fun k n => by simp only [posT]; omega
  simp only [spotR, spotP, spotV, e, atP, atV, if_neg h, e1, d, if_true]
theorem spotOk_le {u : Int} (h : spotOk t u = true) : u - t.frm ≤ 592 := by
  simp only [spotOk, Bool.or_eq_true, decide_eq_true_eq] at h; omega
theorem spotP_ok {u : Int} {k : Nat} (h : spotOk t u = true) : spotP t p k u = atP t p k u ∧ spotV t p k u = atV t p k u := by
  simp only [spotP, spotV, h, if_true, and_self]

/-! ### Follow -/
theorem told_at {but : Int} {k : Int} (hk : 0 ≤ k) (hl : k < t.plots.length) : ((tellL t p but k.toNat).map Plot.cells).flatten[0 + k.toNat * 5]? = some (.int .i64 (t.pl k.toNat).tracker) ∧ ((tellL t p but k.toNat).map Plot.cells).flatten[0 + k.toNat * 5 + 1]? = some (.int .i64 (t.pl k.toNat).tick) := by
  have h1 : ((tellL t p but k.toNat).map Plot.cells)[k.toNat]? = some (Plot.cells (t.pl k.toNat)) := by
    rw [getD_cells (d := plZ) (by rw [tellL_len]; omega), tellL_at hk hl]
  have f0 := flat_at _ k.toNat 0 _ pl_len h1 (by decide)
  have f1 := flat_at _ k.toNat 1 _ pl_len h1 (by decide)
  rw [Nat.zero_add]
  exact ⟨f0, f1⟩
structure WrI (t : Task) (p : PathM) (i k : Nat) (f : Nat → Int) : Prop where
  lt : ∀ j, j < k → j < 3 → f j = wrongT t p i j
  ge : ∀ j, k ≤ j → j < 3 → f j = 0
theorem WrI.zero : WrI t p i 0 (fun _ => 0) := ⟨fun j hj => by omega, fun _ _ _ => rfl⟩
theorem WrI.step {f : Nat → Int} (h : WrI t p i k f) (hk : k < 3) (hw : 0 < p.wrong.length) {m : Nat} {x : Int} (hm : m = (3 * i + k) % p.wrong.length) (hx : x = ((t.trOf i).error * max (-127) (p.wrong.getD m 0)).tdiv 127) : WrI t p i (k + 1) (upd f k x) := by
  have e : x = wrongT t p i k := by rw [hx, wrongT, if_neg (by omega), hm]; rfl
  refine ⟨fun j hj h3 => ?_, fun j hj h3 => ?_⟩
  · by_cases ej : j = k
    · subst ej; rw [upd_same, e]
    · rw [upd_ne ej]; exact h.lt j (by omega) h3
  · rw [upd_ne (by omega)]; exact h.ge j (by omega) h3
theorem WrI.end {f : Nat → Int} (h : WrI t p i k f) (he : 3 ≤ k ∨ ¬ 0 < p.wrong.length) {j : Nat} (hj : j < 3) : f j = wrongT t p i j := by
  by_cases hl : j < k
  · exact h.lt j hl hj
  · rcases he with he | he
    · omega
    · rw [h.ge j (by omega) hj, wrongT, if_pos (by omega)]
/-- what Follow returns -/
def FollowOut (t : Task) (p : PathM) (but : Int) (ep er : Nat) (tv : Value) (v : Value) (A G : Heap) : Prop := ∃ (ok : Bool) (a a' : Option Addr) (n c n' c' : Nat) (xs : List Value),
  v = .tuple #[.agg #[.int .i64 t.frm, .int .i64 t.speed, .int .i64 t.accel, tv, .slice a n c], .slice a' n' c', .bool ok] ∧ 
  (ok = true → GoodT t ∧ GoodT (tellT t p but) ∧ n = t.plots.length ∧ n' = 602 ∧ xs = (rowsP t p 602).flatten ∧ SmallP t p 601 ∧ SpotsT t but ∧ Grow ep 5 (.slice a n c) n ((tellL t p but t.plots.length).map Plot.cells).flatten G ∧ Grow er 3 (.slice a' n' c') n' xs A)
theorem tellL_yes2 {but : Int} {k : Int} (hk : 0 ≤ k) (hl : k < t.plots.length) (h : (t.pl k.toNat).tracker ≠ but) {x y z : Int}
    (hx : x = atP t p 0 (t.pl k.toNat).tick + wrongT t p k.toNat 0) (hy : y = atP t p 1 (t.pl k.toNat).tick + wrongT t p k.toNat 1) (hz : z = atP t p 2 (t.pl k.toNat).tick + wrongT t p k.toNat 2) :
    tellL t p but (k + 1).toNat = (tellL t p but k.toNat).set k.toNat ⟨((tellL t p but k.toNat).getD k.toNat plZ).tracker, ((tellL t p but k.toNat).getD k.toNat plZ).tick, x, y, z⟩ := by
  rw [tellL_yes hk hl h, tellL_at hk hl, hx, hy, hz]; rfl
end
end Go.Tk
namespace Go.Tk
open Go.Vc
theorem SliceR.at {w : World} {size n c : Nat} {a : Option Addr} {els : List (List Value)} (h : SliceR w size (.slice a n c) els) {i : Nat} {e : List Value} (hi : els[i]? = some e) : ∃ b, a = some b ∧ cellsAt w (b.add (i * size)) e := by
  obtain ⟨a', c', hv, _, hc⟩ := h.ex
  injection hv with h1 _ _
  subst h1
  exact hc i e hi
theorem upd_at {f : Nat → Int} {k x : Int} (h0 : 0 ≤ k) (h : k < 3) : (vec3 (upd f k.toNat x)).toList[0 + k.toNat * 1]? = some (.int .i64 x) := by rw [vec_at h0 h, upd_same]
def ticksB (a b : Int) : Bool := decide (0 ≤ a ∧ a ≤ 100000 ∧ 0 ≤ b ∧ b ≤ 100000)
end Go.Tk
namespace Go.Tk
open Go.Vc
section
variable {t : Task} {p : PathM}
theorem spotP_bnd (h : SmallP t p 601) {u : Int} (k : Nat) (hk : k < 3) : -2000000000 ≤ spotP t p k u ∧ spotP t p k u ≤ 2000000000 := by
  unfold spotP
  split
  · rename_i hs
    have := spotOk_le hs
    unfold atP
    split
    · omega
    · exact h _ (by omega) k hk
  · omega
theorem plot_bnd (hG : GoodT t) {k : Nat} (hk : k < t.plots.length) : 0 ≤ (t.pl k).tracker ∧ (t.pl k).tracker < t.trackers.length ∧ t.frm ≤ (t.pl k).tick ∧ (t.pl k).tick ≤ 100000 := by
  have h := hG.plot hk
  have h1 := h.tr0; have h2 := h.tr1
  obtain ⟨e1, e2, _⟩ := errPl_zero (hG.pl k hk)
  simp only [plOut, Bool.or_eq_false_iff] at e2
  have := oP_in e2.1
  omega
theorem err_bnd (hG : GoodT t) {k : Nat} (hk : k < t.plots.length) : 0 ≤ (t.trackers.getD (t.pl k).tracker.toNat trZ).error ∧ (t.trackers.getD (t.pl k).tracker.toNat trZ).error ≤ 10000000 := by
  obtain ⟨_, _, q3, _⟩ := hG.of hk
  exact ⟨by have := q3.1; exact this, by have := q3.2; exact this⟩
end
end Go.Tk
namespace Go.Vc
theorem HSub.left : ∀ A B : Heap, HSub A (A ++ B)
  | [], _ => .nil _
  | _ :: A, B => .take .head (HSub.left A B)
end Go.Vc
namespace Go.Tk
open Go.Vc
theorem wrong_bnd {t : Task} {p : PathM} (hG : GoodT t) (hp : p.ok) {i : Nat} (hi : i < t.plots.length) (k : Nat) : -10000000 ≤ wrongT t p i k ∧ wrongT t p i k ≤ 10000000 := by
  have h1 := wrong_abs hG hp hi k
  have h2 : (t.trOf i).error ≤ 10000000 := (err_bnd hG hi).2
  omega
end Go.Tk
