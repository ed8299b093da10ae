/- Joined texts. -/
import Derived.Test.YtbncegfgjbdheabZad
import Derived.Deep.Slices
/- Layer 5: parts of slices joined to new ones; tasks with fewer, or other, plots. -/
set_option linter.all false
namespace Go.Vc
section
variable {X : Cx} {ρ : PEnv} {ds : List Deferred} {H : Heap} {Q : Post} {o : Oper}

end
end Go.Vc

namespace Go.Tk
open Go.Vc

theorem add_add_ (a : Addr) (j k : Nat) : (a.add j).add k = a.add (j + k) := Go.Deep.add_add a j k

theorem SliceR.drop {w : World} {size : Nat} {a : Option Addr} {n cap k : Nat} {els : List (List Value)} (h : SliceR w size (.slice a n cap) els) (hk : k ≤ els.length) :
    SliceR w size (.slice (if cap = k then a else a.map (·.add (k * size))) (n - k) (cap - k)) (els.drop k) := by
  obtain ⟨a', cap', hv, hl, hc⟩ := h.ex
  injection hv with h1 h2 h3
  subst h1 h2 h3
  refine ⟨_, _, by rw [List.length_drop], by rw [List.length_drop]; omega, fun i e hi => ?_⟩
  rw [List.getElem?_drop] at hi
  obtain ⟨b, hb, hcb⟩ := hc (k + i) e hi
  have hlt := (List.getElem?_eq_some_iff.1 hi).1
  rw [if_neg (by omega), hb]
  refine ⟨_, rfl, ?_⟩
  rw [add_add_, ← Nat.add_mul]
  exact hcb
theorem SliceR.dropM {α : Type} {w : World} {size : Nat} {a : Option Addr} {n cap k : Nat} {l : List α} {f : α → List Value} (h : SliceR w size (.slice a n cap) (l.map f)) (hk : k ≤ l.length) :
    SliceR w size (.slice (if cap = k then a else a.map (·.add (k * size))) (n - k) (cap - k)) ((l.drop k).map f) := by
  have := h.drop (k := k) (by rw [List.length_map]; exact hk)
  rwa [← List.map_drop] at this

theorem flat_len {size : Nat} : ∀ (els : List (List Value)), (∀ e ∈ els, e.length = size) → els.flatten.length = els.length * size := by
  intro els
  induction els with
  | nil => intro _; simp
  | cons e els ih =>
    intro h
    rw [List.flatten_cons, List.length_append, ih (fun x hx => h x (.tail _ hx)), h e (.head _), List.length_cons, Nat.add_mul]; omega

/-- a row that grew, as a slice of elements -/
theorem Grow.rows {el size n : Nat} {v : Value} {els : List (List Value)} {G : Heap} (h : Grow el size v n els.flatten G) (hs : ∀ e ∈ els, e.length = size) (hn : n = els.length) {w : World} (hg : ∀ p ∈ G, w.heap[p.1]? = some p.2) : SliceR w size v els := by
  obtain ⟨a, cap, rfl, hc, hl, hx⟩ := h.cells hg
  subst hn
  refine ⟨a, cap, rfl, hc, fun i e hi => ?_⟩
  cases e with
  | nil =>
    cases a with
    | some b => exact ⟨b, rfl, fun j v hj => by simp at hj⟩
    | none =>
      have hz : size = 0 := by rw [← hs [] (List.mem_of_getElem? hi)]; rfl
      have hil := (List.getElem?_eq_some_iff.1 hi).1
      have h0 : els.length = 0 := by
        generalize els.length = n at h
        generalize els.flatten = xs at h
        cases h; rfl
      omega
  | cons x e =>
    have hse := hs _ (List.mem_of_getElem? hi)
    simp only [List.length_cons] at hse
    have key : ∀ (j : Nat) v, (x :: e)[j]? = some v → ∃ b, a = some b ∧ w.cell? (b.add (i * size + j)) = some v := by
      intro j v hj
      have hjl := (List.getElem?_eq_some_iff.1 hj).1
      simp only [List.length_cons] at hjl
      exact hx _ v (by rw [flat_at els i j _ hs hi (by omega)]; exact hj)
    obtain ⟨b, hb, _⟩ := key 0 x rfl
    refine ⟨b, hb, fun j v hj => ?_⟩
    obtain ⟨b', hb', hv⟩ := key j v hj
    rw [hb] at hb'; cases hb'
    rw [add_add_]; exact hv

/-! ### tasks with fewer plots -/
structure SubT (t t' : Task) (f : Nat → Nat) : Prop where
  frm : t'.frm = t.frm
  speed : t'.speed = t.speed
  accel : t'.accel = t.accel
  trackers : t'.trackers = t.trackers
  len : t'.plots.length ≤ t.plots.length
  idx : ∀ j, j < t'.plots.length → f j < t.plots.length ∧ t'.pl j = t.pl (f j)
  inj : ∀ i j, i < t'.plots.length → j < t'.plots.length → f i = f j → i = j

section
variable {t t' : Task} {f : Nat → Nat}
theorem no_dup (hG : GoodT t) {i j : Nat} (hi : i < t.plots.length) (hj : j < t.plots.length) (hne : i ≠ j) : ¬ ((t.pl i).tracker = (t.pl j).tracker ∧ (t.pl i).tick = (t.pl j).tick) := by
  rintro ⟨h1, h2⟩
  rcases Nat.lt_or_gt_of_ne hne with h | h
  · have := (errPl_zero (hG.pl j hj)).2.2
    rw [seenB_hit h h1 h2] at this; cases this
  have := (errPl_zero (hG.pl i hi)).2.2
  rw [seenB_hit h h1.symm h2.symm] at this; cases this
theorem SubT.tr_eq (h : SubT t t' f) : Task.tr t' = Task.tr t := by funext i; rw [Task.tr, Task.tr, h.trackers]
theorem SubT.errs (h : SubT t t' f) (j : Nat) : errTr t' j = errTr t j := by unfold errTr dupB; rw [h.tr_eq]
theorem SubT.good (h : SubT t t' f) (hG : GoodT t) : GoodT t' := by
  refine ⟨⟨by rw [h.trackers]; exact hG.h1, Nat.le_trans h.len hG.h2, by rw [h.frm]; exact hG.h3, by rw [h.speed]; exact hG.h4, by rw [h.accel]; exact hG.h5⟩, fun j hj => ?_, fun j hj => ?_⟩
  · rw [h.trackers] at hj
    have := hG.tr j hj
    rwa [h.errs]
  obtain ⟨hf, e⟩ := h.idx j hj
  obtain ⟨h1, h2, h3⟩ := errPl_zero (hG.pl (f j) hf)
  refine errPl_ok (by rw [e, h.trackers]; exact h1) ?_ ?_
  · rw [e]; simpa only [plOut, h.frm] using h2
  refine seenB_none fun i hi => ?_
  obtain ⟨hfi, ei⟩ := h.idx i (by omega)
  rw [e, ei]
  exact no_dup hG hfi hf (fun hh => by have := h.inj i j (by omega) hj hh; omega)
theorem SubT.plotS (h : SubT t t' f) {j : Nat} (hj : j < t'.plots.length) (k u : Int) : plotS t' k u j = plotS t k u (f j) := by
  obtain ⟨_, e⟩ := h.idx j hj
  simp only [Tk.plotS, slackT, widthT, farT, Task.trOf, Task.tr, Int.toNat_natCast, e, h.trackers, h.speed]
theorem SubT.known (h : SubT t t' f) {j : Nat} (hj : j < t'.plots.length) (now : Int) : knownB t' now j = knownB t now (f j) := by
  obtain ⟨_, e⟩ := h.idx j hj
  rw [knownB, knownB, Task.trOf, Task.trOf, e, h.tr_eq]
theorem mem_byT {now : Int} {want : Int → Bool} {i : Nat} : (i : Int) ∈ byT t now want ↔ i < t.plots.length ∧ knownB t now i = true ∧ want (t.pl i).tracker = true := by
  unfold byT byN knownN
  rw [List.mem_filter, List.mem_map]
  constructor
  · rintro ⟨⟨j, hj, e⟩, h2⟩
    have : j = i := by have := e; simp only [Int.ofNat_eq_natCast, Int.natCast_inj] at this; exact this
    subst this
    rw [List.mem_filter, List.mem_range] at hj
    exact ⟨hj.1, hj.2, by simpa using h2⟩
  rintro ⟨h1, h2, h3⟩
  exact ⟨⟨i, List.mem_filter.2 ⟨List.mem_range.2 h1, h2⟩, rfl⟩, by simpa using h3⟩
theorem SubT.binds (h : SubT t t' f) (hG : GoodT t) (now : Int) (want : Int → Bool) : Binds t (byT t now want) t' (byT t' now want) := by
  obtain ⟨_, _, ha⟩ := hG.nums
  refine ⟨h.frm.symm, by rw [h.speed]; exact Int.le_refl _, by rw [h.accel]; exact ⟨by omega, Int.le_refl _⟩, fun n _ => by simp only [reachT, capT, h.speed, h.accel]; exact Int.le_refl _, fun i hi => ?_⟩
  obtain ⟨h0, h1⟩ := byT_bnd i hi
  obtain ⟨j, rfl⟩ := Int.eq_ofNat_of_zero_le h0
  obtain ⟨hj, hk, hw⟩ := mem_byT.1 hi
  obtain ⟨hf, e⟩ := h.idx j hj
  refine ⟨f j, mem_byT.2 ⟨hf, by rw [← h.known hj]; exact hk, by rw [← e]; exact hw⟩, fun k u => ?_⟩
  rw [h.plotS hj]
  exact ⟨Int.le_refl _, Int.le_refl _⟩
/-- if all that are known are kept -/
theorem SubT.rbinds (h : SubT t t' f) (hG : GoodT t) (now : Int) (want : Int → Bool) (hs : ∀ i, i < t.plots.length → knownB t now i = true → ∃ j, j < t'.plots.length ∧ f j = i) : Binds t' (byT t' now want) t (byT t now want) := by
  obtain ⟨_, _, ha⟩ := hG.nums
  refine ⟨h.frm, by rw [h.speed]; exact Int.le_refl _, by rw [h.accel]; exact ⟨by omega, Int.le_refl _⟩, fun n _ => by simp only [reachT, capT, h.speed, h.accel]; exact Int.le_refl _, fun i hi => ?_⟩
  obtain ⟨h0, h1⟩ := byT_bnd i hi
  obtain ⟨j, rfl⟩ := Int.eq_ofNat_of_zero_le h0
  obtain ⟨hj, hk, hw⟩ := mem_byT.1 hi
  obtain ⟨m, hm, rfl⟩ := hs j hj hk
  obtain ⟨hf, e⟩ := h.idx m hm
  refine ⟨m, mem_byT.2 ⟨hm, by rw [h.known hm]; exact hk, by rw [e]; exact hw⟩, fun k u => ?_⟩
  rw [h.plotS hm]
  exact ⟨Int.le_refl _, Int.le_refl _⟩
theorem asked_good (hG : GoodT t) {l : List Int} (h : (l.any fun n => oP n 0 100000) = false) : askedT t l = 0 := asked_ok (by rw [checkT_ok hG.toHead hG.tr hG.pl]) h
end

/-! ### one plot less -/
end Go.Tk

/- Layer 5: boxes ahead. -/
set_option linter.all false
namespace Go.Vc
section
variable {X : Cx} {ρ : PEnv} {ds : List Deferred} {H : Heap} {Q : Post}
/-- A joint, at a code behind which another one is set already. -/
theorem V_midT {x y : Code} {γ : Type} {ks : List Nat} {ρf : PEnv} (hk : Keep ρ ks ρf) (ρI : γ → PEnv) (HI : γ → Heap) (inv : γ → Prop)
    (h : V X x ρ ds H (Then (fun ρ' ds' H' => ∃ g, inv g ∧ Sub (ρI g ++ ρf) ρ' ∧ HSub (HI g) H' ∧ ds' = ds) Q)) (k : ∀ g, inv g → V X y (ρI g ++ ρf) ds (HI g) Q) :
    V X x ρ ds H (Then (fun ρ ds H => V X y ρ ds H Q) Q) := by
  refine h.mono ?_
  intro e ρ' ds' H' hq
  cases e <;> first | exact hq | skip
  obtain ⟨g, hi, hs, hh, hd⟩ := hq
  subst hd
  exact fun a w ha hg => k g hi a w (ha.sub hs) (hg.hsub hh)
end
end Go.Vc

namespace Go.Tk
open Go.Vc

def okS (m : Int) (s : Span) : Prop := -m ≤ s.lo ∧ s.lo ≤ s.hi ∧ s.hi ≤ m
instance (m : Int) (s : Span) : Decidable (okS m s) := inferInstanceAs (Decidable (_ ∧ _ ∧ _))
def BoxOk (b : Box) : Prop := (0 ≤ b.at_ ∧ b.at_ ≤ 100000) ∧ okS 2000000000 b.x ∧ okS 2000000000 b.y ∧ okS 2000000000 b.z ∧ okS 1000000 b.vx ∧ okS 1000000 b.vy ∧ okS 1000000 b.vz
instance (b : Box) : Decidable (BoxOk b) := inferInstanceAs (Decidable (_ ∧ _))
section
variable {t : Task} {p v : Span} {n : Nat}
end

section
variable {t : Task} {b : Box} {n : Int}
end

/-- what the inner rounds come to -/
def Met (o : Option (Span × Span)) (p v : Span) : Prop := (p.none = false ∧ v.none = false ∧ o = some (p, v)) ∨ ((p.none = true ∨ v.none = true) ∧ o = none)
theorem Met.no {o : Option (Span × Span)} {p v : Span} (h : Met o p v) (h1 : p.none = true ∨ v.none = true) : o = none := by
  rcases h with ⟨a, b, _⟩ | ⟨_, h⟩
  · rcases h1 with h1 | h1
    · rw [a] at h1; cases h1
    rw [b] at h1; cases h1
  exact h
theorem Met.yes {o : Option (Span × Span)} {p v : Span} (h : Met o p v) (h1 : p.none = false) (h2 : v.none = false) : o = some (p, v) := by
  rcases h with ⟨_, _, h⟩ | ⟨h, _⟩
  · exact h
  rcases h with h | h
  · rw [h1] at h; cases h
  rw [h2] at h; cases h

end Go.Tk

/- Layer 5: plots that are not known change nothing. -/
set_option linter.all false
namespace Go.Tk
open Go.Vc

/-- two tasks with the same boxes at a tick -/
structure SameW (t t' : Task) (u now : Int) : Prop where
  asked : askedT t' [u, now] = askedT t [u, now]
  tr : t'.trackers = t.trackers
  box : ∀ want, boxT t' (byT t' now want) u = boxT t (byT t now want) u
section
variable {t t' : Task} {u now : Int}
theorem SameW.spareT (h : SameW t t' u now) : spareT t' u now = spareT t u now := by
  unfold Tk.spareT othersV; simp only [h.tr, h.box]
theorem SameW.spare (h : SameW t t' u now) : spareP t' u now = spareP t u now := by unfold spareP; rw [h.asked, h.spareT]
theorem SameW.bestN (h : SameW t t' u now) (s : Box) : ∀ n, bestN t' s u now n = bestN t s u now n := by
  intro n
  induction n with
  | zero => rfl
  | succ n ih => simp only [Tk.bestN, ih, ownT, h.box]
theorem SameW.best (h : SameW t t' u now) : bestP t' u now = bestP t u now := by
  unfold bestP; simp only [h.spare, h.bestN, h.tr]
theorem asked_both (hG : GoodT t) (hG' : GoodT t') (l : List Int) : askedT t' l = askedT t l := by
  unfold askedT
  rw [checkT_ok hG.toHead hG.tr hG.pl, checkT_ok hG'.toHead hG'.tr hG'.pl]

/-! ### other plots said -/
structure SayT (t t' : Task) (now : Int) : Prop where
  frm : t'.frm = t.frm
  speed : t'.speed = t.speed
  accel : t'.accel = t.accel
  trackers : t'.trackers = t.trackers
  len : t'.plots.length = t.plots.length
  pl : ∀ j, j < t.plots.length → (t'.pl j).tracker = (t.pl j).tracker ∧ (t'.pl j).tick = (t.pl j).tick ∧ (knownB t now j = true → t'.pl j = t.pl j) ∧
    (-2000000000 ≤ (t'.pl j).x ∧ (t'.pl j).x ≤ 2000000000) ∧ (-2000000000 ≤ (t'.pl j).y ∧ (t'.pl j).y ≤ 2000000000) ∧ (-2000000000 ≤ (t'.pl j).z ∧ (t'.pl j).z ≤ 2000000000)
theorem SayT.tr_eq (h : SayT t t' now) : Task.tr t' = Task.tr t := by funext i; rw [Task.tr, Task.tr, h.trackers]
theorem SayT.good (h : SayT t t' now) (hG : GoodT t) : GoodT t' := by
  refine ⟨⟨by rw [h.trackers]; exact hG.h1, by rw [h.len]; exact hG.h2, by rw [h.frm]; exact hG.h3, by rw [h.speed]; exact hG.h4, by rw [h.accel]; exact hG.h5⟩, fun j hj => ?_, fun j hj => ?_⟩
  · rw [h.trackers] at hj
    have := hG.tr j hj
    have e : errTr t' j = errTr t j := by unfold errTr dupB; rw [h.tr_eq]
    rwa [e]
  rw [h.len] at hj
  obtain ⟨e1, e2, _, bx, by_, bz⟩ := h.pl j hj
  obtain ⟨h1, h2, h3⟩ := errPl_zero (hG.pl j hj)
  refine errPl_ok (by rw [e1, h.trackers]; exact h1) ?_ ?_
  · simp only [plOut, Bool.or_eq_false_iff, h.frm, e2] at h2 ⊢
    exact ⟨h2.1, oP_false.2 bx, oP_false.2 by_, oP_false.2 bz⟩
  refine seenB_none fun i hi => ?_
  obtain ⟨a1, a2, _⟩ := h.pl i (by omega)
  rw [e1, e2, a1, a2]
  exact no_dup hG (by omega) hj (by omega)
theorem SayT.trOf (h : SayT t t' now) {j : Nat} (hj : j < t.plots.length) : t'.trOf j = t.trOf j := by
  rw [Task.trOf, Task.trOf, (h.pl j hj).1, h.tr_eq]
theorem SayT.known (h : SayT t t' now) {j : Nat} (hj : j < t.plots.length) : knownB t' now j = knownB t now j := by
  rw [knownB, knownB, h.trOf hj, (h.pl j hj).2.1]
theorem SayT.plotS (h : SayT t t' now) {j : Nat} (hj : j < t.plots.length) (hk : knownB t now j = true) (k u : Int) : plotS t' k u j = plotS t k u j := by
  have e := (h.pl j hj).2.2.1 hk
  simp only [Tk.plotS, slackT, widthT, farT, h.trOf hj, Int.toNat_natCast, e, h.speed]
theorem SayT.binds (h : SayT t t' now) (hG : GoodT t) (want : Int → Bool) : Binds t (byT t now want) t' (byT t' now want) := by
  obtain ⟨_, _, ha⟩ := hG.nums
  refine ⟨h.frm.symm, by rw [h.speed]; exact Int.le_refl _, by rw [h.accel]; exact ⟨by omega, Int.le_refl _⟩, fun n _ => by simp only [reachT, capT, h.speed, h.accel]; exact Int.le_refl _, fun i hi => ?_⟩
  obtain ⟨h0, h1⟩ := byT_bnd i hi
  obtain ⟨j, rfl⟩ := Int.eq_ofNat_of_zero_le h0
  obtain ⟨hj, hk, hw⟩ := mem_byT.1 hi
  rw [h.len] at hj
  rw [h.known hj] at hk
  exact ⟨j, mem_byT.2 ⟨hj, hk, by rw [← (h.pl j hj).1]; exact hw⟩, fun k u => by rw [h.plotS hj hk]; exact ⟨Int.le_refl _, Int.le_refl _⟩⟩
theorem SayT.rbinds (h : SayT t t' now) (hG : GoodT t) (want : Int → Bool) : Binds t' (byT t' now want) t (byT t now want) := by
  obtain ⟨_, _, ha⟩ := hG.nums
  refine ⟨h.frm, by rw [h.speed]; exact Int.le_refl _, by rw [h.accel]; exact ⟨by omega, Int.le_refl _⟩, fun n _ => by simp only [reachT, capT, h.speed, h.accel]; exact Int.le_refl _, fun i hi => ?_⟩
  obtain ⟨h0, h1⟩ := byT_bnd i hi
  obtain ⟨j, rfl⟩ := Int.eq_ofNat_of_zero_le h0
  obtain ⟨hj, hk, hw⟩ := mem_byT.1 hi
  exact ⟨j, mem_byT.2 ⟨by rw [h.len]; exact hj, by rw [h.known hj]; exact hk, by rw [(h.pl j hj).1]; exact hw⟩, fun k u => by rw [h.plotS hj hk]; exact ⟨Int.le_refl _, Int.le_refl _⟩⟩
theorem SayT.same (h : SayT t t' now) (hG : GoodT t) (u : Int) : SameW t t' u now :=
  ⟨asked_both hG (h.good hG) _, h.trackers, fun want => (box_same (h.binds hG want) (h.rbinds hG want) u).symm⟩
end

section
variable {t : Task} {now a b c : Int}
/-! ### the others left out -/
end
end Go.Tk
namespace Go.Vc
theorem SetAt.app {b : Nat} {o o' : Obj} {H H' : Heap} (h : SetAt H b o o' H') : ∀ A : Heap, SetAt (A ++ H) b o o' (A ++ H')
  | [] => h
  | _ :: A => .tail (h.app A)
end Go.Vc

/- The plain part of layer 6 (ended flights): what its functions compute. -/
set_option linter.all false
namespace Go.De
open Go.Vc Go.Tk

structure Line where
  a : Int
  b : Int
  keep : Int
  line : Int
structure Plan where
  lines : List Line
  grav : Span
  wait : Int
  blind : Int
structure Look where
  box : Box
  x : Span
  y : Span
  at_ : Span
  why : Int
  line : Int
structure End where
  tick : Int
  why : Int
  line : Int
structure FallR where
  x : Span
  y : Span
  at_ : Span
  e : Int
def Line.cells (l : Line) : List Value := [.int .i64 l.a, .int .i64 l.b, .int .i64 l.keep, .int .i64 l.line]
def lnZ : Line := ⟨0, 0, 0, 0⟩
def spZ : Span := ⟨0, 0⟩
def Plan.ln (p : Plan) (i : Nat) : Line := p.lines.getD i lnZ

abbrev PlanV (p : Plan) (lv : Value) : Value := .agg #[lv, .int .i64 p.grav.lo, .int .i64 p.grav.hi, .int .i64 p.wait, .int .i64 p.blind]
structure PlanR (w : World) (v : Value) (p : Plan) : Prop where
  len : (p.lines.length : Int) ≤ 9223372036854775807
  ex : ∃ lv, v = PlanV p lv ∧ SliceR w 4 lv (p.lines.map Line.cells)
theorem PlanR.ext {w w' : World} {v : Value} {p : Plan} (h : PlanR w v p) (he : Ext w w') : PlanR w' v p := let ⟨lv, e, hs⟩ := h.ex; ⟨h.len, lv, e, hs.ext he⟩
theorem PlanR.good {w0 w : World} {H : Heap} {v : Value} {p : Plan} (h : PlanR w0 v p) (hg : Vc.Good w0 [] H w) : PlanR w v p := h.ext hg.toExt

/-! ### checks -/
def errLn (l : Line) : Int :=
  if (oP l.a (-1000) 1000 || (oP l.b (-1000) 1000 || (oP l.keep (-4000000000000) 4000000000000 || oP l.line (-4000000000000) 4000000000000))) = true then 7
  else if (l.a = 0 ∧ l.b = 0) ∨ l.line < l.keep then 2 else 0
def tailP (p : Plan) : Bool := oP p.grav.hi 1 200 || (oP p.grav.lo 1 p.grav.hi || (oP p.wait 0 100 || oP p.blind 0 300))
structure LnB (l : Line) : Prop where
  a : -1000 ≤ l.a ∧ l.a ≤ 1000
  b : -1000 ≤ l.b ∧ l.b ≤ 1000
  keep : -4000000000000 ≤ l.keep ∧ l.keep ≤ l.line
  line : l.line ≤ 4000000000000
structure GoodP (p : Plan) : Prop where
  len : oP p.lines.length 1 8 = false
  ln : ∀ j, j < p.lines.length → errLn (p.ln j) = 0
  tail : tailP p = false
theorem GoodP.nums {p : Plan} (h : GoodP p) : (1 ≤ p.lines.length ∧ p.lines.length ≤ 8) ∧ (1 ≤ p.grav.lo ∧ p.grav.lo ≤ p.grav.hi ∧ p.grav.hi ≤ 200) ∧ (0 ≤ p.wait ∧ p.wait ≤ 100) ∧ (0 ≤ p.blind ∧ p.blind ≤ 300) := by
  have h1 := oP_false.1 h.len
  have h2 := h.tail
  simp only [tailP, Bool.or_eq_false_iff, oP_false] at h2
  omega
theorem firstErr_0 {f : Nat → Int} {n : Nat} (h : firstErr f 0 n = none) : ∀ j, j < n → f j = 0 := by
  intro j hj
  rcases firstErr_of (f := f) (n := n) n 0 (by omega) with ⟨_, h'⟩ | ⟨i, _, _, h', _⟩
  · exact h' j (by omega) hj
  rw [h] at h'; cases h'
theorem firstErr_e {f : Nat → Int} {n i : Nat} {e : Int} (h : firstErr f 0 n = some (i, e)) : e ≠ 0 ∧ e = f i := by
  rcases firstErr_of (f := f) (n := n) n 0 (by omega) with ⟨h', _⟩ | ⟨k, _, _, h', h2, _⟩
  · rw [h] at h'; cases h'
  rw [h] at h'; simp only [Option.some.injEq, Prod.mk.injEq] at h'; obtain ⟨rfl, rfl⟩ := h'; exact ⟨h2, rfl⟩
/-! ### falls -/
def offS (s : Span) : Bool := decide (s.hi < s.lo) || (oP s.lo (-2000000000) 2000000000 || oP s.hi (-2000000000) 2000000000)
def addS (a b : Span) : Span := ⟨a.lo + b.lo, a.hi + b.hi⟩
def hullS (a b : Span) : Span := ⟨min a.lo b.lo, max a.hi b.hi⟩
def offB (b : Box) : Bool := offS b.x || (offS b.y || offS b.z)
/-! ### lines -/
/-! ### looks -/
def Look.cells (l : Look) : List Value := Box.cells l.box ++ [.int .i64 l.x.lo, .int .i64 l.x.hi, .int .i64 l.y.lo, .int .i64 l.y.hi, .int .i64 l.at_.lo, .int .i64 l.at_.hi, .int .i64 l.why, .int .i64 l.line]

/-! ### what a fall is -/
def hullF (f : Nat → Box) (a : Nat) : Nat → Span × Span
  | 0 => ((f a).x, (f a).y)
  | k + 1 => (hullS (hullF f a k).1 (f (a + k + 1)).x, hullS (hullF f a k).2 (f (a + k + 1)).y)
theorem InS.tr {a b c : Span} (h : InS a b) (k : InS b c) : InS a c := ⟨Int.le_trans k.1 h.1, Int.le_trans h.2 k.2⟩
structure FallIs (f : Nat → Box) (at_ : Int) (r : FallR) (a b : Nat) : Prop where
  a1 : 1 ≤ a
  ab : a ≤ b
  off : ∀ j, 1 ≤ j → j ≤ b → offB (f j) = false
  above : ∀ j, 1 ≤ j → j < a → 0 < (f j).z.lo
  low : (f a).z.lo ≤ 0
  up : ∀ j, 1 ≤ j → j < b → 0 < (f j).z.hi
  down : (f b).z.hi ≤ 0
  at_ : r.at_ = ⟨at_ + a, at_ + b⟩
  x : r.x = (hullF f a (b - a)).1
  y : r.y = (hullF f a (b - a)).2

section
variable {f : Nat → Box} {at_ : Int}
end

/-! ### how great numbers are -/
theorem mul_abs {a b A B : Int} (hA : 0 ≤ A) (ha : -A ≤ a ∧ a ≤ A) (hb : -B ≤ b ∧ b ≤ B) : -(A * B) ≤ a * b ∧ a * b ≤ A * B := by
  have hB : 0 ≤ B := by omega
  rcases Int.le_total 0 a with h | h <;> rcases Int.le_total 0 b with k | k
  · have := mul_bnd (show 0 ≤ a ∧ a ≤ A by omega) (show 0 ≤ b ∧ b ≤ B by omega); omega
  · have := mul_bnd (show 0 ≤ a ∧ a ≤ A by omega) (show 0 ≤ -b ∧ -b ≤ B by omega); rw [Int.mul_neg] at this; omega
  · have := mul_bnd (show 0 ≤ -a ∧ -a ≤ A by omega) (show 0 ≤ b ∧ b ≤ B by omega); rw [Int.neg_mul] at this; omega
  have := mul_bnd (show 0 ≤ -a ∧ -a ≤ A by omega) (show 0 ≤ -b ∧ -b ≤ B by omega); rw [Int.neg_mul_neg] at this; omega
end Go.De

/- Paths: where they come down (plain). -/
set_option linter.all false
namespace Go.Fl
open Go.Vc Go.Tk
section
variable {l : List Pt} {floor : Int}
theorem stray_0 (h : strayE l = 0) : (1 ≤ (l.length : Int) ∧ (l.length : Int) ≤ 3001) ∧ ∀ i, i < l.length → farS (ptS (ptAt l i)) = false := by
  unfold strayE at h
  split at h
  · cases h
  rename_i h1
  split at h
  · cases h
  rename_i h2
  refine ⟨oP_false.1 (by simpa using h1), fun i hi => ?_⟩
  simp only [List.any_eq_true, not_exists, not_and, Bool.not_eq_true] at h2
  unfold ptAt
  rw [List.getD_eq_getElem?_getD, List.getElem?_eq_getElem hi]
  exact h2 _ (List.getElem_mem hi)
theorem sl_at {w : World} {size n c : Nat} {a : Option Addr} {els : List (List Value)} (h : SliceR w size (.slice a n c) els) {i : Nat} {e : List Value} (hi : els[i]? = some e) : ∃ b, a = some b ∧ cellsAt w (b.add (i * size)) e := by
  obtain ⟨a', c', hv, _, hc⟩ := h.ex
  injection hv with h1 _ _
  subst h1
  exact hc i e hi
theorem drop_at {k : Nat} (h : k + 1 < l.length) : ((l.drop 1).map Pt.cells)[k]? = some (ptAt l (k + 1)).cells := by
  rw [List.getElem?_map, List.getElem?_drop, Nat.add_comm 1 k, List.getElem?_eq_getElem h]
  unfold ptAt
  rw [List.getD_eq_getElem?_getD, List.getElem?_eq_getElem h]; rfl
theorem pt_ne0 {p : Pt} (h : p = ptZ) : (!(eqL p.cells ptZ.cells)) = false := by rw [h]; decide
theorem pt_ne1 {p : Pt} (h : p ≠ ptZ) : (!(eqL p.cells ptZ.cells)) = true := by
  cases hq : eqL p.cells ptZ.cells
  · rfl
  refine absurd ?_ h
  obtain ⟨a, b, c, d, e, f⟩ := p
  simp [eqL, eqv, Pt.cells, ptZ] at hq ⊢
  omega
variable {v : Veh} {d : Dir} {b : List Band}
theorem own_bad (h : ownE v d b l ≠ 0) : ownI v d b l = 0 := if_pos h
theorem ownE_1 (h : askedF v d b ≠ 0) : ownE v d b l = askedF v d b := if_pos h
theorem ownE_2 (h : askedF v d b = 0) : ownE v d b l = strayE l := if_neg (by omega)
theorem own_start (h : ownE v d b l = 0) (h2 : ptAt l 0 ≠ ptZ) : ownI v d b l = 0 := by unfold ownI; rw [if_neg (by omega), if_pos h2]
theorem own_hit {k : Nat} (h : ownE v d b l = 0) (h2 : ptAt l 0 = ptZ) (hk : k + 1 < l.length) (hb : ∀ j, j < k → stepB v d b l j = true) (hs : stepB v d b l k = false) : ownI v d b l = k + 1 := by
  have e : firstIdx (fun t => !(stepB v d b l t)) 0 (l.length - 1) = k := firstIdx_hit (by omega) (by rw [hs]; rfl) (fun j hj => by rw [hb j hj]; rfl)
  unfold ownI; rw [if_neg (by omega), if_neg (by rw [h2]; exact fun k => k rfl), e, if_neg (by omega)]
theorem own_all (h : ownE v d b l = 0) (h2 : ptAt l 0 = ptZ) (hb : ∀ j, j + 1 < l.length → stepB v d b l j = true) : ownI v d b l = -1 := by
  have e : firstIdx (fun t => !(stepB v d b l t)) 0 (l.length - 1) = -1 := firstIdx_none (fun j hj => by rw [hb j (by omega)]; rfl)
  unfold ownI; rw [if_neg (by omega), if_neg (by rw [h2]; exact fun k => k rfl), e, if_pos (by omega)]
end
end Go.Fl
namespace Go.Fl
open Go.Vc Go.Tk
section
variable {l : List Pt} {floor : Int}
end
end Go.Fl
