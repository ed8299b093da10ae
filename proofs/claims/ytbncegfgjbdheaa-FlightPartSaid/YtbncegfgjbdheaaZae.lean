/- Joined texts. -/
import Derived.Test.YtbncegfgjbdheaaZad
import Derived.Deep.Slices
/- Layer 5: parts of slices joined to new ones; tasks with fewer, or other, plots. -/
set_option linter.all false
namespace Go.Vc
section
variable {X : Cx} {ρ : PEnv} {ds : List Deferred} {H : Heap} {Q : Post} {o : Oper}

theorem p_convI {x : Operand} {s t : TypeId} {k' : IntKind} {n : Int} {ds : TypeDesc} (hs : X.P.underlying s = some ds) (hu : X.P.underlying t = some (.int .i64)) (ho : o.op = .convert s t x) (hx : ρ.ev x = some (.int k' n)) (hn : InI n) : RdP X ρ o (.int .i64 n) := by
  have h := p_conv (X := X) (ρ := ρ) hs hu ho hx
  rwa [wrap_in hn] at h

end
end Go.Vc

namespace Go.Tk
open Go.Vc

theorem add_add_ (a : Addr) (j k : Nat) : (a.add j).add k = a.add (j + k) := Go.Deep.add_add a j k

theorem SliceR.drop {w : World} {size : Nat} {a : Option Addr} {n cap k : Nat} {els : List (List Value)} (h : SliceR w size (.slice a n cap) els) (hk : k ≤ els.length) :
    SliceR w size (.slice (if cap = k then a else a.map (·.add (k * size))) (n - k) (cap - k)) (els.drop k) := by
  obtain ⟨a', cap', hv, hl, hc⟩ := h.ex
  injection hv with h1 h2 h3
  subst h1 h2 h3
  refine ⟨_, _, by rw [List.length_drop], by rw [List.length_drop]; omega, fun i e hi => ?_⟩
  rw [List.getElem?_drop] at hi
  obtain ⟨b, hb, hcb⟩ := hc (k + i) e hi
  have hlt := (List.getElem?_eq_some_iff.1 hi).1
  rw [if_neg (by omega), hb]
  refine ⟨_, rfl, ?_⟩
  rw [add_add_, ← Nat.add_mul]
  exact hcb
theorem SliceR.dropM {α : Type} {w : World} {size : Nat} {a : Option Addr} {n cap k : Nat} {l : List α} {f : α → List Value} (h : SliceR w size (.slice a n cap) (l.map f)) (hk : k ≤ l.length) :
    SliceR w size (.slice (if cap = k then a else a.map (·.add (k * size))) (n - k) (cap - k)) ((l.drop k).map f) := by
  have := h.drop (k := k) (by rw [List.length_map]; exact hk)
  rwa [← List.map_drop] at this

theorem flat_len {size : Nat} : ∀ (els : List (List Value)), (∀ e ∈ els, e.length = size) → els.flatten.length = els.length * size := by
  intro els
  induction els with
  | nil => intro _; simp
  | cons e els ih =>
    intro h
    rw [List.flatten_cons, List.length_append, ih (fun x hx => h x (.tail _ hx)), h e (.head _), List.length_cons, Nat.add_mul]; omega

/-- a row that grew, as a slice of elements -/
theorem Grow.rows {el size n : Nat} {v : Value} {els : List (List Value)} {G : Heap} (h : Grow el size v n els.flatten G) (hs : ∀ e ∈ els, e.length = size) (hn : n = els.length) {w : World} (hg : ∀ p ∈ G, w.heap[p.1]? = some p.2) : SliceR w size v els := by
  obtain ⟨a, cap, rfl, hc, hl, hx⟩ := h.cells hg
  subst hn
  refine ⟨a, cap, rfl, hc, fun i e hi => ?_⟩
  cases e with
  | nil =>
    cases a with
    | some b => exact ⟨b, rfl, fun j v hj => by simp at hj⟩
    | none =>
      have hz : size = 0 := by rw [← hs [] (List.mem_of_getElem? hi)]; rfl
      have hil := (List.getElem?_eq_some_iff.1 hi).1
      have h0 : els.length = 0 := by
        generalize els.length = n at h
        generalize els.flatten = xs at h
        cases h; rfl
      omega
  | cons x e =>
    have hse := hs _ (List.mem_of_getElem? hi)
    simp only [List.length_cons] at hse
    have key : ∀ (j : Nat) v, (x :: e)[j]? = some v → ∃ b, a = some b ∧ w.cell? (b.add (i * size + j)) = some v := by
      intro j v hj
      have hjl := (List.getElem?_eq_some_iff.1 hj).1
      simp only [List.length_cons] at hjl
      exact hx _ v (by rw [flat_at els i j _ hs hi (by omega)]; exact hj)
    obtain ⟨b, hb, _⟩ := key 0 x rfl
    refine ⟨b, hb, fun j v hj => ?_⟩
    obtain ⟨b', hb', hv⟩ := key j v hj
    rw [hb] at hb'; cases hb'
    rw [add_add_]; exact hv

/-! ### tasks with fewer plots -/
structure SubT (t t' : Task) (f : Nat → Nat) : Prop where
  frm : t'.frm = t.frm
  speed : t'.speed = t.speed
  accel : t'.accel = t.accel
  trackers : t'.trackers = t.trackers
  len : t'.plots.length ≤ t.plots.length
  idx : ∀ j, j < t'.plots.length → f j < t.plots.length ∧ t'.pl j = t.pl (f j)
  inj : ∀ i j, i < t'.plots.length → j < t'.plots.length → f i = f j → i = j

section
variable {t t' : Task} {f : Nat → Nat}
theorem no_dup (hG : GoodT t) {i j : Nat} (hi : i < t.plots.length) (hj : j < t.plots.length) (hne : i ≠ j) : ¬ ((t.pl i).tracker = (t.pl j).tracker ∧ (t.pl i).tick = (t.pl j).tick) := by
  rintro ⟨h1, h2⟩
  rcases Nat.lt_or_gt_of_ne hne with h | h
  · have := (errPl_zero (hG.pl j hj)).2.2
    rw [seenB_hit h h1 h2] at this; cases this
  have := (errPl_zero (hG.pl i hi)).2.2
  rw [seenB_hit h h1.symm h2.symm] at this; cases this
theorem SubT.tr_eq (h : SubT t t' f) : Task.tr t' = Task.tr t := by funext i; rw [Task.tr, Task.tr, h.trackers]
theorem SubT.errs (h : SubT t t' f) (j : Nat) : errTr t' j = errTr t j := by unfold errTr dupB; rw [h.tr_eq]
theorem SubT.good (h : SubT t t' f) (hG : GoodT t) : GoodT t' := by
  refine ⟨⟨by rw [h.trackers]; exact hG.h1, Nat.le_trans h.len hG.h2, by rw [h.frm]; exact hG.h3, by rw [h.speed]; exact hG.h4, by rw [h.accel]; exact hG.h5⟩, fun j hj => ?_, fun j hj => ?_⟩
  · rw [h.trackers] at hj
    have := hG.tr j hj
    rwa [h.errs]
  obtain ⟨hf, e⟩ := h.idx j hj
  obtain ⟨h1, h2, h3⟩ := errPl_zero (hG.pl (f j) hf)
  refine errPl_ok (by rw [e, h.trackers]; exact h1) ?_ ?_
  · rw [e]; simpa only [plOut, h.frm] using h2
  refine seenB_none fun i hi => ?_
  obtain ⟨hfi, ei⟩ := h.idx i (by omega)
  rw [e, ei]
  exact no_dup hG hfi hf (fun hh => by have := h.inj i j (by omega) hj hh; omega)
theorem SubT.plotS (h : SubT t t' f) {j : Nat} (hj : j < t'.plots.length) (k u : Int) : plotS t' k u j = plotS t k u (f j) := by
  obtain ⟨_, e⟩ := h.idx j hj
  simp only [Tk.plotS, slackT, widthT, farT, Task.trOf, Task.tr, Int.toNat_natCast, e, h.trackers, h.speed]
theorem SubT.known (h : SubT t t' f) {j : Nat} (hj : j < t'.plots.length) (now : Int) : knownB t' now j = knownB t now (f j) := by
  obtain ⟨_, e⟩ := h.idx j hj
  rw [knownB, knownB, Task.trOf, Task.trOf, e, h.tr_eq]
theorem mem_byT {now : Int} {want : Int → Bool} {i : Nat} : (i : Int) ∈ byT t now want ↔ i < t.plots.length ∧ knownB t now i = true ∧ want (t.pl i).tracker = true := by
  unfold byT byN knownN
  rw [List.mem_filter, List.mem_map]
  constructor
  · rintro ⟨⟨j, hj, e⟩, h2⟩
    have : j = i := by have := e; simp only [Int.ofNat_eq_natCast, Int.natCast_inj] at this; exact this
    subst this
    rw [List.mem_filter, List.mem_range] at hj
    exact ⟨hj.1, hj.2, by simpa using h2⟩
  rintro ⟨h1, h2, h3⟩
  exact ⟨⟨i, List.mem_filter.2 ⟨List.mem_range.2 h1, h2⟩, rfl⟩, by simpa using h3⟩
theorem SubT.binds (h : SubT t t' f) (hG : GoodT t) (now : Int) (want : Int → Bool) : Binds t (byT t now want) t' (byT t' now want) := by
  obtain ⟨_, _, ha⟩ := hG.nums
  refine ⟨h.frm.symm, by rw [h.speed]; exact Int.le_refl _, by rw [h.accel]; exact ⟨by omega, Int.le_refl _⟩, fun n _ => by simp only [reachT, capT, h.speed, h.accel]; exact Int.le_refl _, fun i hi => ?_⟩
  obtain ⟨h0, h1⟩ := byT_bnd i hi
  obtain ⟨j, rfl⟩ := Int.eq_ofNat_of_zero_le h0
  obtain ⟨hj, hk, hw⟩ := mem_byT.1 hi
  obtain ⟨hf, e⟩ := h.idx j hj
  refine ⟨f j, mem_byT.2 ⟨hf, by rw [← h.known hj]; exact hk, by rw [← e]; exact hw⟩, fun k u => ?_⟩
  rw [h.plotS hj]
  exact ⟨Int.le_refl _, Int.le_refl _⟩
/-- if all that are known are kept -/
theorem SubT.rbinds (h : SubT t t' f) (hG : GoodT t) (now : Int) (want : Int → Bool) (hs : ∀ i, i < t.plots.length → knownB t now i = true → ∃ j, j < t'.plots.length ∧ f j = i) : Binds t' (byT t' now want) t (byT t now want) := by
  obtain ⟨_, _, ha⟩ := hG.nums
  refine ⟨h.frm, by rw [h.speed]; exact Int.le_refl _, by rw [h.accel]; exact ⟨by omega, Int.le_refl _⟩, fun n _ => by simp only [reachT, capT, h.speed, h.accel]; exact Int.le_refl _, fun i hi => ?_⟩
  obtain ⟨h0, h1⟩ := byT_bnd i hi
  obtain ⟨j, rfl⟩ := Int.eq_ofNat_of_zero_le h0
  obtain ⟨hj, hk, hw⟩ := mem_byT.1 hi
  obtain ⟨m, hm, rfl⟩ := hs j hj hk
  obtain ⟨hf, e⟩ := h.idx m hm
  refine ⟨m, mem_byT.2 ⟨hm, by rw [h.known hm]; exact hk, by rw [e]; exact hw⟩, fun k u => ?_⟩
  rw [h.plotS hm]
  exact ⟨Int.le_refl _, Int.le_refl _⟩
theorem asked_good (hG : GoodT t) {l : List Int} (h : (l.any fun n => oP n 0 100000) = false) : askedT t l = 0 := asked_ok (by rw [checkT_ok hG.toHead hG.tr hG.pl]) h
end

/-! ### one plot less -/
end Go.Tk

/- Layer 5: boxes ahead. -/
set_option linter.all false
namespace Go.Vc
section
variable {X : Cx} {ρ : PEnv} {ds : List Deferred} {H : Heap} {Q : Post}
/-- A joint, at a code behind which another one is set already. -/
theorem V_midT {x y : Code} {γ : Type} {ks : List Nat} {ρf : PEnv} (hk : Keep ρ ks ρf) (ρI : γ → PEnv) (HI : γ → Heap) (inv : γ → Prop)
    (h : V X x ρ ds H (Then (fun ρ' ds' H' => ∃ g, inv g ∧ Sub (ρI g ++ ρf) ρ' ∧ HSub (HI g) H' ∧ ds' = ds) Q)) (k : ∀ g, inv g → V X y (ρI g ++ ρf) ds (HI g) Q) :
    V X x ρ ds H (Then (fun ρ ds H => V X y ρ ds H Q) Q) := by
  refine h.mono ?_
  intro e ρ' ds' H' hq
  cases e <;> first | exact hq | skip
  obtain ⟨g, hi, hs, hh, hd⟩ := hq
  subst hd
  exact fun a w ha hg => k g hi a w (ha.sub hs) (hg.hsub hh)
end
end Go.Vc

namespace Go.Tk
open Go.Vc

def okS (m : Int) (s : Span) : Prop := -m ≤ s.lo ∧ s.lo ≤ s.hi ∧ s.hi ≤ m
instance (m : Int) (s : Span) : Decidable (okS m s) := inferInstanceAs (Decidable (_ ∧ _ ∧ _))
def BoxOk (b : Box) : Prop := (0 ≤ b.at_ ∧ b.at_ ≤ 100000) ∧ okS 2000000000 b.x ∧ okS 2000000000 b.y ∧ okS 2000000000 b.z ∧ okS 1000000 b.vx ∧ okS 1000000 b.vy ∧ okS 1000000 b.vz
instance (b : Box) : Decidable (BoxOk b) := inferInstanceAs (Decidable (_ ∧ _))
def stepP (p v : Span) : Span := common ⟨p.lo + v.lo, p.hi + v.hi⟩ (room0 2000000000)
def stepV (t : Task) (v : Span) : Span := common ⟨v.lo - t.accel, v.hi + t.accel⟩ (room0 t.speed)
def aheadN (t : Task) : Nat → Span → Span → Option (Span × Span)
  | 0, p, v => if p.none || v.none then none else some (p, v)
  | n + 1, p, v => if p.none || v.none then none else aheadN t n (stepP p v) (stepV t v)
def aheadS (t : Task) (n : Int) (p v : Span) : Option (Span × Span) := aheadN t n.toNat p (common v (room0 t.speed))
def aheadB (t : Task) (b : Box) (n : Int) : Option Box :=
  (aheadS t n b.x b.vx).bind fun a => (aheadS t n b.y b.vy).bind fun c => (aheadS t n b.z b.vz).bind fun d => some ⟨b.at_ + n, a.1, c.1, d.1, a.2, c.2, d.2⟩
def aheadE (t : Task) (b : Box) (n : Int) : Int :=
  if askedT t [] ≠ 0 then askedT t [] else if ¬ BoxOk b then 7 else if oP n 0 600 = true ∨ oP (b.at_ + n) 0 100000 = true then 7 else 0
def aheadP (t : Task) (b : Box) (n : Int) : Box × Int := if aheadE t b n ≠ 0 then (boxZ, aheadE t b n) else foundP (aheadB t b n)

section
variable {t : Task} {p v : Span} {n : Nat}
end

section
variable {t : Task} {b : Box} {n : Int}
end

/-- all ints of a box are machine ints -/
def BoxI (b : Box) : Prop := InI b.at_ ∧ (InI b.x.lo ∧ InI b.x.hi) ∧ (InI b.y.lo ∧ InI b.y.hi) ∧ (InI b.z.lo ∧ InI b.z.hi) ∧ (InI b.vx.lo ∧ InI b.vx.hi) ∧ (InI b.vy.lo ∧ InI b.vy.hi) ∧ (InI b.vz.lo ∧ InI b.vz.hi)

/-- what the inner rounds come to -/
def Met (o : Option (Span × Span)) (p v : Span) : Prop := (p.none = false ∧ v.none = false ∧ o = some (p, v)) ∨ ((p.none = true ∨ v.none = true) ∧ o = none)
theorem Met.no {o : Option (Span × Span)} {p v : Span} (h : Met o p v) (h1 : p.none = true ∨ v.none = true) : o = none := by
  rcases h with ⟨a, b, _⟩ | ⟨_, h⟩
  · rcases h1 with h1 | h1
    · rw [a] at h1; cases h1
    rw [b] at h1; cases h1
  exact h
theorem Met.yes {o : Option (Span × Span)} {p v : Span} (h : Met o p v) (h1 : p.none = false) (h2 : v.none = false) : o = some (p, v) := by
  rcases h with ⟨_, _, h⟩ | ⟨h, _⟩
  · exact h
  rcases h with h | h
  · rw [h1] at h; cases h
  rw [h2] at h; cases h

end Go.Tk

/- Layer 5: plots that are not known change nothing. -/
set_option linter.all false
namespace Go.Tk
open Go.Vc

/-- two tasks with the same boxes at a tick -/
structure SameW (t t' : Task) (u now : Int) : Prop where
  asked : askedT t' [u, now] = askedT t [u, now]
  tr : t'.trackers = t.trackers
  box : ∀ want, boxT t' (byT t' now want) u = boxT t (byT t now want) u
section
variable {t t' : Task} {u now : Int}
theorem SameW.spareT (h : SameW t t' u now) : spareT t' u now = spareT t u now := by
  unfold Tk.spareT othersV; simp only [h.tr, h.box]
theorem SameW.spare (h : SameW t t' u now) : spareP t' u now = spareP t u now := by unfold spareP; rw [h.asked, h.spareT]
theorem SameW.bestN (h : SameW t t' u now) (s : Box) : ∀ n, bestN t' s u now n = bestN t s u now n := by
  intro n
  induction n with
  | zero => rfl
  | succ n ih => simp only [Tk.bestN, ih, ownT, h.box]
theorem SameW.best (h : SameW t t' u now) : bestP t' u now = bestP t u now := by
  unfold bestP; simp only [h.spare, h.bestN, h.tr]
theorem asked_both (hG : GoodT t) (hG' : GoodT t') (l : List Int) : askedT t' l = askedT t l := by
  unfold askedT
  rw [checkT_ok hG.toHead hG.tr hG.pl, checkT_ok hG'.toHead hG'.tr hG'.pl]

/-! ### other plots said -/
structure SayT (t t' : Task) (now : Int) : Prop where
  frm : t'.frm = t.frm
  speed : t'.speed = t.speed
  accel : t'.accel = t.accel
  trackers : t'.trackers = t.trackers
  len : t'.plots.length = t.plots.length
  pl : ∀ j, j < t.plots.length → (t'.pl j).tracker = (t.pl j).tracker ∧ (t'.pl j).tick = (t.pl j).tick ∧ (knownB t now j = true → t'.pl j = t.pl j) ∧
    (-2000000000 ≤ (t'.pl j).x ∧ (t'.pl j).x ≤ 2000000000) ∧ (-2000000000 ≤ (t'.pl j).y ∧ (t'.pl j).y ≤ 2000000000) ∧ (-2000000000 ≤ (t'.pl j).z ∧ (t'.pl j).z ≤ 2000000000)
theorem SayT.tr_eq (h : SayT t t' now) : Task.tr t' = Task.tr t := by funext i; rw [Task.tr, Task.tr, h.trackers]
theorem SayT.good (h : SayT t t' now) (hG : GoodT t) : GoodT t' := by
  refine ⟨⟨by rw [h.trackers]; exact hG.h1, by rw [h.len]; exact hG.h2, by rw [h.frm]; exact hG.h3, by rw [h.speed]; exact hG.h4, by rw [h.accel]; exact hG.h5⟩, fun j hj => ?_, fun j hj => ?_⟩
  · rw [h.trackers] at hj
    have := hG.tr j hj
    have e : errTr t' j = errTr t j := by unfold errTr dupB; rw [h.tr_eq]
    rwa [e]
  rw [h.len] at hj
  obtain ⟨e1, e2, _, bx, by_, bz⟩ := h.pl j hj
  obtain ⟨h1, h2, h3⟩ := errPl_zero (hG.pl j hj)
  refine errPl_ok (by rw [e1, h.trackers]; exact h1) ?_ ?_
  · simp only [plOut, Bool.or_eq_false_iff, h.frm, e2] at h2 ⊢
    exact ⟨h2.1, oP_false.2 bx, oP_false.2 by_, oP_false.2 bz⟩
  refine seenB_none fun i hi => ?_
  obtain ⟨a1, a2, _⟩ := h.pl i (by omega)
  rw [e1, e2, a1, a2]
  exact no_dup hG (by omega) hj (by omega)
theorem SayT.trOf (h : SayT t t' now) {j : Nat} (hj : j < t.plots.length) : t'.trOf j = t.trOf j := by
  rw [Task.trOf, Task.trOf, (h.pl j hj).1, h.tr_eq]
theorem SayT.known (h : SayT t t' now) {j : Nat} (hj : j < t.plots.length) : knownB t' now j = knownB t now j := by
  rw [knownB, knownB, h.trOf hj, (h.pl j hj).2.1]
theorem SayT.plotS (h : SayT t t' now) {j : Nat} (hj : j < t.plots.length) (hk : knownB t now j = true) (k u : Int) : plotS t' k u j = plotS t k u j := by
  have e := (h.pl j hj).2.2.1 hk
  simp only [Tk.plotS, slackT, widthT, farT, h.trOf hj, Int.toNat_natCast, e, h.speed]
theorem SayT.binds (h : SayT t t' now) (hG : GoodT t) (want : Int → Bool) : Binds t (byT t now want) t' (byT t' now want) := by
  obtain ⟨_, _, ha⟩ := hG.nums
  refine ⟨h.frm.symm, by rw [h.speed]; exact Int.le_refl _, by rw [h.accel]; exact ⟨by omega, Int.le_refl _⟩, fun n _ => by simp only [reachT, capT, h.speed, h.accel]; exact Int.le_refl _, fun i hi => ?_⟩
  obtain ⟨h0, h1⟩ := byT_bnd i hi
  obtain ⟨j, rfl⟩ := Int.eq_ofNat_of_zero_le h0
  obtain ⟨hj, hk, hw⟩ := mem_byT.1 hi
  rw [h.len] at hj
  rw [h.known hj] at hk
  exact ⟨j, mem_byT.2 ⟨hj, hk, by rw [← (h.pl j hj).1]; exact hw⟩, fun k u => by rw [h.plotS hj hk]; exact ⟨Int.le_refl _, Int.le_refl _⟩⟩
theorem SayT.rbinds (h : SayT t t' now) (hG : GoodT t) (want : Int → Bool) : Binds t' (byT t' now want) t (byT t now want) := by
  obtain ⟨_, _, ha⟩ := hG.nums
  refine ⟨h.frm, by rw [h.speed]; exact Int.le_refl _, by rw [h.accel]; exact ⟨by omega, Int.le_refl _⟩, fun n _ => by simp only [reachT, capT, h.speed, h.accel]; exact Int.le_refl _, fun i hi => ?_⟩
  obtain ⟨h0, h1⟩ := byT_bnd i hi
  obtain ⟨j, rfl⟩ := Int.eq_ofNat_of_zero_le h0
  obtain ⟨hj, hk, hw⟩ := mem_byT.1 hi
  exact ⟨j, mem_byT.2 ⟨by rw [h.len]; exact hj, by rw [h.known hj]; exact hk, by rw [(h.pl j hj).1]; exact hw⟩, fun k u => by rw [h.plotS hj hk]; exact ⟨Int.le_refl _, Int.le_refl _⟩⟩
theorem SayT.same (h : SayT t t' now) (hG : GoodT t) (u : Int) : SameW t t' u now :=
  ⟨asked_both hG (h.good hG) _, h.trackers, fun want => (box_same (h.binds hG want) (h.rbinds hG want) u).symm⟩
end

section
variable {t : Task} {now a b c : Int}
/-! ### the others left out -/
end
end Go.Tk
namespace Go.Vc
theorem SetAt.app {b : Nat} {o o' : Obj} {H H' : Heap} (h : SetAt H b o o' H') : ∀ A : Heap, SetAt (A ++ H) b o o' (A ++ H')
  | [] => h
  | _ :: A => .tail (h.app A)
end Go.Vc

/- The plain part of layer 6 (ended flights): what its functions compute. -/
set_option linter.all false
namespace Go.De
open Go.Vc Go.Tk

structure Line where
  a : Int
  b : Int
  keep : Int
  line : Int
structure Plan where
  lines : List Line
  grav : Span
  wait : Int
  blind : Int
structure Look where
  box : Box
  x : Span
  y : Span
  at_ : Span
  why : Int
  line : Int
structure End where
  tick : Int
  why : Int
  line : Int
structure FallR where
  x : Span
  y : Span
  at_ : Span
  e : Int
def Line.cells (l : Line) : List Value := [.int .i64 l.a, .int .i64 l.b, .int .i64 l.keep, .int .i64 l.line]
def lnZ : Line := ⟨0, 0, 0, 0⟩
def spZ : Span := ⟨0, 0⟩
def Plan.ln (p : Plan) (i : Nat) : Line := p.lines.getD i lnZ

abbrev PlanV (p : Plan) (lv : Value) : Value := .agg #[lv, .int .i64 p.grav.lo, .int .i64 p.grav.hi, .int .i64 p.wait, .int .i64 p.blind]
structure PlanR (w : World) (v : Value) (p : Plan) : Prop where
  len : (p.lines.length : Int) ≤ 9223372036854775807
  ex : ∃ lv, v = PlanV p lv ∧ SliceR w 4 lv (p.lines.map Line.cells)
theorem PlanR.ext {w w' : World} {v : Value} {p : Plan} (h : PlanR w v p) (he : Ext w w') : PlanR w' v p := let ⟨lv, e, hs⟩ := h.ex; ⟨h.len, lv, e, hs.ext he⟩
theorem PlanR.good {w0 w : World} {H : Heap} {v : Value} {p : Plan} (h : PlanR w0 v p) (hg : Vc.Good w0 [] H w) : PlanR w v p := h.ext hg.toExt

/-! ### checks -/
def errLn (l : Line) : Int :=
  if (oP l.a (-1000) 1000 || (oP l.b (-1000) 1000 || (oP l.keep (-4000000000000) 4000000000000 || oP l.line (-4000000000000) 4000000000000))) = true then 7
  else if (l.a = 0 ∧ l.b = 0) ∨ l.line < l.keep then 2 else 0
def tailP (p : Plan) : Bool := oP p.grav.hi 1 200 || (oP p.grav.lo 1 p.grav.hi || (oP p.wait 0 100 || oP p.blind 0 300))
def checkP (p : Plan) : Int × Int × Int := if oP p.lines.length 1 8 = true then (1, 0, 3) else match firstErr (fun i => errLn (p.ln i)) 0 p.lines.length with
  | some (i, e) => (1, i, e)
  | none => if tailP p = true then (2, 0, 7) else (0, 0, 0)
def planE (p : Plan) : Int := (checkP p).2.2

structure LnB (l : Line) : Prop where
  a : -1000 ≤ l.a ∧ l.a ≤ 1000
  b : -1000 ≤ l.b ∧ l.b ≤ 1000
  keep : -4000000000000 ≤ l.keep ∧ l.keep ≤ l.line
  line : l.line ≤ 4000000000000
structure GoodP (p : Plan) : Prop where
  len : oP p.lines.length 1 8 = false
  ln : ∀ j, j < p.lines.length → errLn (p.ln j) = 0
  tail : tailP p = false
theorem GoodP.nums {p : Plan} (h : GoodP p) : (1 ≤ p.lines.length ∧ p.lines.length ≤ 8) ∧ (1 ≤ p.grav.lo ∧ p.grav.lo ≤ p.grav.hi ∧ p.grav.hi ≤ 200) ∧ (0 ≤ p.wait ∧ p.wait ≤ 100) ∧ (0 ≤ p.blind ∧ p.blind ≤ 300) := by
  have h1 := oP_false.1 h.len
  have h2 := h.tail
  simp only [tailP, Bool.or_eq_false_iff, oP_false] at h2
  omega
theorem firstErr_0 {f : Nat → Int} {n : Nat} (h : firstErr f 0 n = none) : ∀ j, j < n → f j = 0 := by
  intro j hj
  rcases firstErr_of (f := f) (n := n) n 0 (by omega) with ⟨_, h'⟩ | ⟨i, _, _, h', _⟩
  · exact h' j (by omega) hj
  rw [h] at h'; cases h'
theorem firstErr_e {f : Nat → Int} {n i : Nat} {e : Int} (h : firstErr f 0 n = some (i, e)) : e ≠ 0 ∧ e = f i := by
  rcases firstErr_of (f := f) (n := n) n 0 (by omega) with ⟨h', _⟩ | ⟨k, _, _, h', h2, _⟩
  · rw [h] at h'; cases h'
  rw [h] at h'; simp only [Option.some.injEq, Prod.mk.injEq] at h'; obtain ⟨rfl, rfl⟩ := h'; exact ⟨h2, rfl⟩
/-! ### falls -/
def offS (s : Span) : Bool := decide (s.hi < s.lo) || (oP s.lo (-2000000000) 2000000000 || oP s.hi (-2000000000) 2000000000)
def addS (a b : Span) : Span := ⟨a.lo + b.lo, a.hi + b.hi⟩
def hullS (a b : Span) : Span := ⟨min a.lo b.lo, max a.hi b.hi⟩
def stepF (g : Span) (b : Box) : Box := ⟨b.at_, addS b.x b.vx, addS b.y b.vy, addS b.z b.vz, b.vx, b.vy, ⟨b.vz.lo - g.hi, b.vz.hi - g.lo⟩⟩
def runF (g : Span) (b : Box) : Nat → Box
  | 0 => b
  | n + 1 => stepF g (runF g b n)
def offB (b : Box) : Bool := offS b.x || (offS b.y || offS b.z)
/-- what is known of the area: it, and since when -/
def accF (f : Nat → Box) (t : Nat) (acc : Option (Span × Span × Nat)) : Option (Span × Span × Nat) := match acc with
  | some (x, y, a) => some (hullS x (f t).x, hullS y (f t).y, a)
  | none => if (f t).z.lo ≤ 0 then some ((f t).x, (f t).y, t) else none
def doneF (at_ : Int) (t : Nat) : Option (Span × Span × Nat) → FallR
  | some (x, y, a) => ⟨x, y, ⟨at_ + a, at_ + t⟩, 0⟩
  | none => ⟨spZ, spZ, ⟨0, at_ + t⟩, 0⟩
def fallN (f : Nat → Box) (at_ : Int) : Nat → Nat → Option (Span × Span × Nat) → FallR
  | 0, _, _ => ⟨spZ, spZ, spZ, 9⟩
  | k + 1, t, acc => if offB (f t) = true then ⟨spZ, spZ, spZ, 3⟩ else if (f t).z.hi ≤ 0 then doneF at_ t (accF f t acc) else fallN f at_ k (t + 1) (accF f t acc)
def fallT (g : Span) (b : Box) : FallR := fallN (runF g b) b.at_ 3000 1 none
/-! ### lines -/
def mostL (l : Line) (x y : Span) : Int := max (l.a * x.lo) (l.a * x.hi) + max (l.b * y.lo) (l.b * y.hi)
/-- the first line beyond which a place is -/
def overI (p : Plan) (x y : Span) : Int := Tk.firstIdx (fun i => decide ((p.ln i).line < mostL (p.ln i) x y)) 0 p.lines.length

/-! ### looks -/
def taskE (p : Plan) (t : Task) : Int := if planE p ≠ 0 then planE p else (checkT t).2.2
def ticksE (p : Plan) (t : Task) (l : List Int) : Int := if taskE p t = 0 ∧ (l.any fun n => oP n 0 100000) = true then 7 else taskE p t
def usedN (p : Plan) (t : Task) (now : Int) : Nat → Int → Option (Box × Int)
  | 0, _ => none
  | k + 1, frm => if frm < 0 ∨ p.blind < now - frm then none else if (spareP t frm now).2 = 0 then
      (if (aheadP t (spareP t frm now).1 (now - frm + p.wait + 1)).2 = 0 then some ((aheadP t (spareP t frm now).1 (now - frm + p.wait + 1)).1, frm) else none)
    else usedN p t now k (frm - 1)
def usedT (p : Plan) (t : Task) (now : Int) : Option (Box × Int) := usedN p t now (p.blind + 1).toNat now
def lookF (p : Plan) (b : Box) (r : FallR) : Look := if r.e ≠ 0 then ⟨b, spZ, spZ, spZ, 3, -1⟩ else ⟨b, r.x, r.y, r.at_, if 0 ≤ overI p r.x r.y then 1 else 0, overI p r.x r.y⟩
def lookT (p : Plan) (t : Task) (now : Int) : Look := match usedT p t now with
  | none => ⟨boxZ, spZ, spZ, spZ, 2, -1⟩
  | some (b, _) => lookF p b (fallT p.grav b)
def Look.cells (l : Look) : List Value := Box.cells l.box ++ [.int .i64 l.x.lo, .int .i64 l.x.hi, .int .i64 l.y.lo, .int .i64 l.y.hi, .int .i64 l.at_.lo, .int .i64 l.at_.hi, .int .i64 l.why, .int .i64 l.line]

/-! ### what a fall is -/
def hullF (f : Nat → Box) (a : Nat) : Nat → Span × Span
  | 0 => ((f a).x, (f a).y)
  | k + 1 => (hullS (hullF f a k).1 (f (a + k + 1)).x, hullS (hullF f a k).2 (f (a + k + 1)).y)
theorem InS.tr {a b c : Span} (h : InS a b) (k : InS b c) : InS a c := ⟨Int.le_trans k.1 h.1, Int.le_trans h.2 k.2⟩
theorem InS.rfl' {a : Span} : InS a a := ⟨Int.le_refl _, Int.le_refl _⟩
structure FallIs (f : Nat → Box) (at_ : Int) (r : FallR) (a b : Nat) : Prop where
  a1 : 1 ≤ a
  ab : a ≤ b
  off : ∀ j, 1 ≤ j → j ≤ b → offB (f j) = false
  above : ∀ j, 1 ≤ j → j < a → 0 < (f j).z.lo
  low : (f a).z.lo ≤ 0
  up : ∀ j, 1 ≤ j → j < b → 0 < (f j).z.hi
  down : (f b).z.hi ≤ 0
  at_ : r.at_ = ⟨at_ + a, at_ + b⟩
  x : r.x = (hullF f a (b - a)).1
  y : r.y = (hullF f a (b - a)).2

section
variable {f : Nat → Box} {at_ : Int}
end

/-! ### how great numbers are -/
theorem mul_abs {a b A B : Int} (hA : 0 ≤ A) (ha : -A ≤ a ∧ a ≤ A) (hb : -B ≤ b ∧ b ≤ B) : -(A * B) ≤ a * b ∧ a * b ≤ A * B := by
  have hB : 0 ≤ B := by omega
  rcases Int.le_total 0 a with h | h <;> rcases Int.le_total 0 b with k | k
  · have := mul_bnd (show 0 ≤ a ∧ a ≤ A by omega) (show 0 ≤ b ∧ b ≤ B by omega); omega
  · have := mul_bnd (show 0 ≤ a ∧ a ≤ A by omega) (show 0 ≤ -b ∧ -b ≤ B by omega); rw [Int.mul_neg] at this; omega
  · have := mul_bnd (show 0 ≤ -a ∧ -a ≤ A by omega) (show 0 ≤ b ∧ b ≤ B by omega); rw [Int.neg_mul] at this; omega
  have := mul_bnd (show 0 ≤ -a ∧ -a ≤ A by omega) (show 0 ≤ -b ∧ -b ≤ B by omega); rw [Int.neg_mul_neg] at this; omega
end Go.De

/- Paths: where they come down (plain). -/
set_option linter.all false
namespace Go.Fl
open Go.Vc Go.Tk
section
variable {l : List Pt} {floor : Int}
theorem stray_0 (h : strayE l = 0) : (1 ≤ (l.length : Int) ∧ (l.length : Int) ≤ 3001) ∧ ∀ i, i < l.length → farS (ptS (ptAt l i)) = false := by
  unfold strayE at h
  split at h
  · cases h
  rename_i h1
  split at h
  · cases h
  rename_i h2
  refine ⟨oP_false.1 (by simpa using h1), fun i hi => ?_⟩
  simp only [List.any_eq_true, not_exists, not_and, Bool.not_eq_true] at h2
  unfold ptAt
  rw [List.getD_eq_getElem?_getD, List.getElem?_eq_getElem hi]
  exact h2 _ (List.getElem_mem hi)
theorem downI_is : firstIdx (fun i => decide (((l.drop 1).getD i ptZ).z ≤ floor)) 0 (l.drop 1).length = downI l floor := by
  unfold downI ptAt
  rw [List.length_drop]
  congr 1
  funext i
  rw [List.getD_eq_getElem?_getD, List.getElem?_drop, Nat.add_comm 1 i, ← List.getD_eq_getElem?_getD]
theorem downI_lt (h : ¬ downI l floor < 0) : (downI l floor).toNat + 1 < l.length ∧ downI l floor = ((downI l floor).toNat : Int) := by
  rcases firstIdx_of (p := fun t => decide ((ptAt l (t + 1)).z ≤ floor)) (n := l.length - 1) (l.length - 1) 0 (by omega) with ⟨h1, _⟩ | ⟨i, _, h2, h3, _, _⟩
  · exact absurd (show downI l floor < 0 by unfold downI; omega) h
  unfold downI; omega
def downP (l : List Pt) (floor : Int) : Int × Int × Int := if downE l floor = 0 then ((ptAt l (downI l floor + 1).toNat).x, (ptAt l (downI l floor + 1).toNat).y, downI l floor + 1) else (0, 0, 0)
theorem downP_0 (h : downE l floor = 0) : downP l floor = ((ptAt l (downI l floor + 1).toNat).x, (ptAt l (downI l floor + 1).toNat).y, downI l floor + 1) := if_pos h
theorem downP_1 (h : downE l floor ≠ 0) : downP l floor = (0, 0, 0) := if_neg h
theorem downE_1 (h : strayE l ≠ 0) : downE l floor = strayE l := if_pos h
theorem downE_7 (h : strayE l = 0) (h2 : oP floor 0 2000000000 = true) : downE l floor = 7 := by unfold downE; rw [if_neg (by omega), if_pos h2]
theorem downE_9 (h : strayE l = 0) (h2 : oP floor 0 2000000000 = false) (h3 : downI l floor < 0) : downE l floor = 9 := by unfold downE; rw [if_neg (by omega), if_neg (by rw [h2]; decide), if_pos h3]
theorem downE_0 (h : strayE l = 0) (h2 : oP floor 0 2000000000 = false) (h3 : ¬ downI l floor < 0) : downE l floor = 0 := by unfold downE; rw [if_neg (by omega), if_neg (by rw [h2]; decide), if_neg h3]
variable {v : Veh} {d : Dir} {b : List Band}
end
end Go.Fl
namespace Go.Fl
open Go.Vc Go.Tk
section
variable {l : List Pt} {floor : Int}
theorem stray_mk (h : oP l.length 1 3001 = false) (hf : ∀ k, k < l.length → farS (ptS (ptAt l k)) = false) : strayE l = 0 := by
  unfold strayE
  rw [if_neg (by rw [h]; decide), if_neg]
  intro h2
  obtain ⟨p, hp, hp2⟩ := List.any_eq_true.1 h2
  obtain ⟨i, hi, rfl⟩ := List.mem_iff_getElem.1 hp
  have := hf i hi
  unfold ptAt at this
  rw [List.getD_eq_getElem?_getD, List.getElem?_eq_getElem hi] at this
  simp only [Option.getD_some] at this
  rw [this] at hp2; cases hp2
end
end Go.Fl

/- Layer 6: what the statements say of falls (plain). -/
set_option linter.all false
namespace Go.De
open Go.Vc Go.Tk

/-! ### one that falls -/
structure P3 where
  x : Int
  y : Int
  z : Int
  vx : Int
  vy : Int
  vz : Int
structure InP (p : P3) (b : Box) : Prop where
  x : b.x.lo ≤ p.x ∧ p.x ≤ b.x.hi
  y : b.y.lo ≤ p.y ∧ p.y ≤ b.y.hi
  z : b.z.lo ≤ p.z ∧ p.z ≤ b.z.hi
  vx : b.vx.lo ≤ p.vx ∧ p.vx ≤ b.vx.hi
  vy : b.vy.lo ≤ p.vy ∧ p.vy ≤ b.vy.hi
  vz : b.vz.lo ≤ p.vz ∧ p.vz ≤ b.vz.hi
/-! ### wider boxes -/
/-! ### lines -/
end Go.De

/- Layer 5: how far a path can be; with greater numbers no box becomes less. -/
set_option linter.all false
namespace Go.Tk
open Go.Vc

/-! ### one tick more -/
theorem tri_succ {m : Int} (hm : 0 ≤ m) : ((m + 1) * (m + 1 + 1)).tdiv 2 = (m * (m + 1)).tdiv 2 + (m + 1) := by
  have h0 : 0 ≤ m * (m + 1) := Int.mul_nonneg hm (by omega)
  have e : (m + 1) * (m + 1 + 1) = m * (m + 1) + (m + 1) * 2 := by rw [Int.mul_add (m + 1) (m + 1) 1, Int.add_mul m 1 (m + 1)]; omega
  rw [e, Int.tdiv_eq_ediv_of_nonneg (by omega), Int.tdiv_eq_ediv_of_nonneg h0, Int.add_mul_ediv_right _ _ (by decide)]
theorem reach_succ {t : Task} (ha : 1 ≤ t.accel) (hs : 0 ≤ t.speed) {n : Int} (hn : 0 ≤ n) : reachT t (n + 1) = reachT t n + min (t.accel * (n + 1)) t.speed := by
  have hq0 : 0 ≤ t.speed.tdiv t.accel := Int.tdiv_nonneg hs (by omega)
  have hqe : t.speed.tdiv t.accel = t.speed / t.accel := Int.tdiv_eq_ediv_of_nonneg hs
  have hd := Int.mul_ediv_add_emod t.speed t.accel
  have hm0 := Int.emod_nonneg t.speed (show t.accel ≠ 0 by omega)
  have hm1 := Int.emod_lt_of_pos t.speed (show 0 < t.accel by omega)
  by_cases h : n + 1 ≤ t.speed.tdiv t.accel
  · have e1 : capT t (n + 1) = n + 1 := by unfold capT; omega
    have e2 : capT t n = n := by unfold capT; omega
    rw [reachT, reachT, e1, e2, tri_succ hn, Int.mul_add, Int.sub_self, Int.sub_self, Int.zero_mul]
    have h1 := Int.mul_le_mul_of_nonneg_left h (show 0 ≤ t.accel by omega)
    rw [hqe] at h1
    omega
  have e1 : capT t (n + 1) = t.speed.tdiv t.accel := by unfold capT; omega
  have e2 : capT t n = t.speed.tdiv t.accel := by unfold capT; omega
  have h1 := Int.mul_le_mul_of_nonneg_left (show t.speed / t.accel + 1 ≤ n + 1 by omega) (show 0 ≤ t.accel by omega)
  rw [Int.mul_add, Int.mul_one] at h1
  rw [reachT, reachT, e1, e2]
  have e3 : (n + 1 - t.speed.tdiv t.accel) * t.speed = (n - t.speed.tdiv t.accel) * t.speed + t.speed := by
    rw [show n + 1 - t.speed.tdiv t.accel = (n - t.speed.tdiv t.accel) + 1 by omega, Int.add_mul, Int.one_mul]
  rw [e3]
  omega
theorem reach_zero {t : Task} (hs : 0 ≤ t.speed) (ha : 0 ≤ t.accel) : reachT t 0 = 0 := by
  have hq0 : 0 ≤ t.speed.tdiv t.accel := Int.tdiv_nonneg hs ha
  have e : capT t 0 = 0 := by unfold capT; omega
  rw [reachT, e]; simp
theorem reach_mono {t t' : Task} (ha : 1 ≤ t.accel) (hs : 0 ≤ t.speed) (ha' : t.accel ≤ t'.accel) (hs' : t.speed ≤ t'.speed) {n : Int} (hn : 0 ≤ n) : reachT t n ≤ reachT t' n := by
  obtain ⟨k, rfl⟩ := Int.eq_ofNat_of_zero_le hn
  induction k with
  | zero => rw [show ((0 : Nat) : Int) = 0 from rfl, reach_zero hs (by omega), reach_zero (by omega) (by omega)]; exact Int.le_refl _
  | succ k ih =>
    have ih := ih (by omega)
    rw [show ((k + 1 : Nat) : Int) = (k : Int) + 1 by omega, reach_succ ha hs (by omega), reach_succ (by omega) (by omega) (by omega)]
    have := Int.mul_le_mul_of_nonneg_right ha' (show 0 ≤ (k : Int) + 1 by omega)
    omega

/-! ### greater numbers -/
structure LooseT (t t' : Task) : Prop where
  frm : t'.frm = t.frm
  speed : t.speed ≤ t'.speed ∧ t'.speed ≤ 1000000
  accel : t.accel ≤ t'.accel ∧ t'.accel ≤ 1000000
  plots : t'.plots = t.plots
  len : t'.trackers.length = t.trackers.length
  tr : ∀ j, j < t.trackers.length → (t'.tr j).name = (t.tr j).name ∧ (t'.tr j).x = (t.tr j).x ∧ (t'.tr j).y = (t.tr j).y ∧ ((t.tr j).error ≤ (t'.tr j).error ∧ (t'.tr j).error ≤ 10000000) ∧ ((t.tr j).grow ≤ (t'.tr j).grow ∧ (t'.tr j).grow ≤ 10000) ∧ (t'.tr j).late = (t.tr j).late
section
variable {t t' : Task}
theorem LooseT.pl (h : LooseT t t') : Task.pl t' = Task.pl t := by funext i; rw [Task.pl, Task.pl, h.plots]
theorem any_congr {p q : Nat → Bool} {n : Nat} (h : ∀ i, i < n → p i = q i) : anyIdx p n = anyIdx q n := by
  unfold anyIdx
  induction n with
  | zero => rfl
  | succ n ih => rw [List.range_succ, List.any_append, List.any_append, ih (fun i hi => h i (by omega))]; simp [h n (by omega)]
theorem LooseT.good (h : LooseT t t') (hG : GoodT t) : GoodT t' := by
  obtain ⟨_, hs, ha⟩ := hG.nums
  refine ⟨⟨by rw [h.len]; exact hG.h1, by rw [h.plots]; exact hG.h2, by rw [h.frm]; exact hG.h3, oP_false.2 ⟨by have := h.speed; omega, h.speed.2⟩, oP_false.2 ⟨by have := h.accel; omega, h.accel.2⟩⟩, fun j hj => ?_, fun j hj => ?_⟩
  · rw [h.len] at hj
    obtain ⟨e1, e2, e3, e4, e5, e6⟩ := h.tr j hj
    obtain ⟨h1, h2, h3⟩ := errTr_zero (hG.tr j hj)
    refine errTr_ok (by rw [e1]; exact h1) ?_ ?_
    · rw [← h2]; unfold dupB
      exact any_congr fun i hi => by rw [e1, (h.tr i (by omega)).1]
    simp only [trOut, Bool.or_eq_false_iff] at h3 ⊢
    obtain ⟨⟨⟨⟨a1, a2⟩, a3⟩, a4⟩, a5⟩ := h3
    have b3 := oP_in a3
    have b4 := oP_in a4
    exact ⟨⟨⟨⟨by rw [e2]; exact a1, by rw [e3]; exact a2⟩, oP_false.2 (by omega)⟩, oP_false.2 (by omega)⟩, by rw [e6]; exact a5⟩
  rw [h.plots] at hj
  obtain ⟨h1, h2, h3⟩ := errPl_zero (hG.pl j hj)
  refine errPl_ok (by rw [h.pl, h.len]; exact h1) (by rw [h.pl]; simpa only [plOut, h.frm] using h2) ?_
  rw [← h3, h.pl]; unfold seenB; rw [h.pl]
theorem LooseT.of (h : LooseT t t') (hG : GoodT t) {j : Nat} (hj : j < t.plots.length) : t'.trOf j = t'.tr (t.pl j).tracker.toNat ∧ (t.pl j).tracker.toNat < t.trackers.length := by
  have p := hG.plot hj
  have := p.tr0; have := p.tr1
  exact ⟨by rw [Task.trOf, h.pl], by omega⟩
theorem LooseT.far (h : LooseT t t') (hG : GoodT t) {j : Nat} (hj : j < t.plots.length) : farT t' j = farT t j := by
  obtain ⟨e, hb⟩ := h.of hG hj
  obtain ⟨_, e2, e3, _⟩ := h.tr _ hb
  unfold farT
  rw [e, e2, e3, h.pl]; rfl
theorem LooseT.slack (h : LooseT t t') (hG : GoodT t) {j : Nat} (hj : j < t.plots.length) (u : Int) : slackT t u j ≤ slackT t' u j := by
  obtain ⟨e, hb⟩ := h.of hG hj
  obtain ⟨_, _, _, e4, e5, _⟩ := h.tr _ hb
  have hk := km_bnd hG hj
  have h1 := Int.mul_le_mul_of_nonneg_right e5.1 hk.1
  have h2 := Int.mul_le_mul_of_nonneg_right h.speed.1 (show 0 ≤ apartI (t.pl j).tick u by unfold apartI; omega)
  unfold slackT widthT
  rw [h.far hG hj, e, h.pl]
  show (t.tr (t.pl j).tracker.toNat).error + (t.tr (t.pl j).tracker.toNat).grow * _ + _ ≤ _
  omega
theorem LooseT.known (h : LooseT t t') (hG : GoodT t) (now : Int) {j : Nat} (hj : j < t.plots.length) : knownB t' now j = knownB t now j := by
  obtain ⟨e, hb⟩ := h.of hG hj
  obtain ⟨_, _, _, _, _, e6⟩ := h.tr _ hb
  rw [knownB, knownB, e, e6, h.pl]; rfl
theorem LooseT.binds (h : LooseT t t') (hG : GoodT t) (now : Int) (want : Int → Bool) : Binds t (byT t now want) t' (byT t' now want) := by
  obtain ⟨_, hs, ha⟩ := hG.nums
  refine ⟨h.frm.symm, h.speed.1, ⟨by omega, h.accel.1⟩, fun n hn => reach_mono (by omega) (by omega) h.accel.1 h.speed.1 hn, fun i hi => ?_⟩
  obtain ⟨h0, h1⟩ := byT_bnd i hi
  obtain ⟨j, rfl⟩ := Int.eq_ofNat_of_zero_le h0
  obtain ⟨hj, hk, hw⟩ := mem_byT.1 hi
  rw [h.plots] at hj
  rw [h.known hG now hj] at hk
  rw [h.pl] at hw
  refine ⟨j, mem_byT.2 ⟨hj, hk, hw⟩, fun k u => ?_⟩
  have := h.slack hG hj u
  simp only [plotS, aroundS, InS, Int.toNat_natCast, h.pl]
  omega
theorem boxT_at {ps : List Int} {u : Int} {b : Box} (h : boxT t ps u = some b) : b.at_ = u := by
  obtain ⟨_, _, _, _, _, _, rfl⟩ := boxT_parts h; rfl
theorem joinB_mono {a b c d : Box} (h : InB a c) (h' : InB b d) : InB (joinB a b) (joinB c d) := by
  obtain ⟨h0, h1, h2, h3, h4, h5, h6⟩ := h
  obtain ⟨_, g1, g2, g3, g4, g5, g6⟩ := h'
  refine ⟨h0, ?_, ?_, ?_, ?_, ?_, ?_⟩ <;> (simp only [InS, joinB, joinS] at *; omega)
theorem joinB_right {a b c : Box} (h : InB a c) (hat : b.at_ = a.at_) : InB a (joinB b c) := by
  obtain ⟨h0, h1, h2, h3, h4, h5, h6⟩ := h
  refine ⟨hat.symm, ?_, ?_, ?_, ?_, ?_, ?_⟩ <;> (simp only [InS, joinB, joinS] at *; omega)
theorem others_mono {u now : Int} (hb : ∀ want, ∀ b, boxT t (byT t now want) u = some b → ∃ b', boxT t' (byT t' now want) u = some b' ∧ InB b b') : ∀ n : Nat,
    (∀ s, foldB (othersV t' u now n) = some s → s.at_ = u) ∧ (∀ s, foldB (othersV t u now n) = some s → s.at_ = u ∧ ∃ s', foldB (othersV t' u now n) = some s' ∧ InB s s') := by
  intro n
  induction n with
  | zero => exact ⟨fun s h => by simp [othersV, foldB] at h, fun s h => by simp [othersV, foldB] at h⟩
  | succ n ih =>
    obtain ⟨ih1, ih2⟩ := ih
    have e : ((n : Int) + 1).toNat = n + 1 := by omega
    have e2 : ((n : Int)).toNat = n := by omega
    have yes : ∀ {t0 : Task} {b : Box}, boxT t0 (byT t0 now fun x => decide (x ≠ (n : Int))) u = some b → foldB (othersV t0 u now (n + 1)) = addB (foldB (othersV t0 u now n)) b := by
      intro t0 b h
      have := foldB_yes (t := t0) (u := u) (now := now) (k := (n : Int)) (by omega) h
      rwa [e, e2] at this
    have no : ∀ {t0 : Task}, boxT t0 (byT t0 now fun x => decide (x ≠ (n : Int))) u = none → foldB (othersV t0 u now (n + 1)) = foldB (othersV t0 u now n) := by
      intro t0 h
      have := foldB_no (t := t0) (u := u) (now := now) (k := (n : Int)) (by omega) h
      rwa [e, e2] at this
    constructor
    · intro s hs
      cases h : boxT t' (byT t' now fun x => decide (x ≠ (n : Int))) u with
      | none => rw [no h] at hs; exact ih1 s hs
      | some b =>
        rw [yes h] at hs
        cases hf : foldB (othersV t' u now n) with
        | none => rw [hf] at hs; cases hs; exact boxT_at h
        | some x => rw [hf] at hs; cases hs; exact ih1 x hf
    intro s hs
    cases h : boxT t (byT t now fun x => decide (x ≠ (n : Int))) u with
    | some b =>
      obtain ⟨b', e', i⟩ := hb _ b h
      rw [yes h] at hs
      rw [yes e']
      cases hf : foldB (othersV t u now n) with
      | none =>
        rw [hf] at hs
        cases hs
        refine ⟨boxT_at h, ?_⟩
        cases hf' : foldB (othersV t' u now n) with
        | none => exact ⟨_, rfl, i⟩
        | some x' => exact ⟨_, rfl, joinB_right i (by rw [ih1 x' hf', boxT_at h])⟩
      | some x =>
        rw [hf] at hs
        cases hs
        obtain ⟨hx, x', ex, ix⟩ := ih2 x hf
        rw [ex]
        exact ⟨hx, _, rfl, joinB_mono ix i⟩
    | none =>
      rw [no h] at hs
      obtain ⟨hx, x', ex, ix⟩ := ih2 s hs
      refine ⟨hx, ?_⟩
      cases h' : boxT t' (byT t' now fun x => decide (x ≠ (n : Int))) u with
      | none => rw [no h']; exact ⟨x', ex, ix⟩
      | some b' => rw [yes h', ex]; exact ⟨_, rfl, joinB_in ix⟩
theorem LooseT.spare (h : LooseT t t') (hG : GoodT t) {u now : Int} {s : Box} (hs : spareT t u now = some s) : ∃ s', spareT t' u now = some s' ∧ InB s s' := by
  unfold spareT at hs ⊢
  rw [h.len]
  split at hs
  · rename_i h0
    rw [if_pos h0]
    exact box_mono (h.binds hG now _) hs
  rename_i h0
  rw [if_neg h0]
  exact ((others_mono (t := t) (t' := t') (u := u) (now := now) (fun want b hb => box_mono (h.binds hG now want) hb) t.trackers.length).2 s hs).2
end

/-! ### the trackers, one by one -/
end Go.Tk

/- Layer 5: paths. -/
set_option linter.all false
namespace Go.Tk
open Go.Vc

structure PathM where
  push : Nat → List Int
  wrong : List Int
def part127 (a x : Int) : Int := (a * max (-127) x).tdiv 127
def accT (t : Task) (p : PathM) (k i : Nat) : Int := if (p.push k).length = 0 then 0 else part127 t.accel ((p.push k).getD (i % (p.push k).length) 0)
def velT (t : Task) (p : PathM) (k : Nat) : Nat → Int
  | 0 => 0
  | n + 1 => max (-t.speed) (min t.speed (velT t p k n + accT t p k n))
def posT (t : Task) (p : PathM) (k : Nat) : Nat → Int
  | 0 => 0
  | n + 1 => posT t p k n + velT t p k (n + 1)
def I8 (l : List Int) : Prop := ∀ x ∈ l, -128 ≤ x ∧ x ≤ 127
structure PathM.ok (p : PathM) : Prop where
  push : ∀ k, I8 (p.push k)
  wrong : I8 p.wrong
def SmallP (t : Task) (p : PathM) (n : Nat) : Prop := ∀ m, m ≤ n → ∀ k, k < 3 → -2000000000 ≤ posT t p k m ∧ posT t p k m ≤ 2000000000

theorem I8.getD {l : List Int} (h : I8 l) (i : Nat) : -128 ≤ l.getD i 0 ∧ l.getD i 0 ≤ 127 := by
  by_cases hi : i < l.length
  · exact h _ (getD_mem hi)
  rw [List.getD_eq_getElem?_getD, List.getElem?_eq_none (by omega)]; decide
theorem part127_abs {a x : Int} (ha : 0 ≤ a) (hx : x ≤ 127) : -a ≤ part127 a x ∧ part127 a x ≤ a := by
  unfold part127
  have h1 : a * max (-127) x ≤ a * 127 := Int.mul_le_mul_of_nonneg_left (by omega) ha
  have h2 : a * (-127) ≤ a * max (-127) x := Int.mul_le_mul_of_nonneg_left (by omega) ha
  have e1 : (a * 127).tdiv 127 = a := Int.mul_tdiv_cancel a (by decide)
  have e2 : (a * (-127)).tdiv 127 = -a := by rw [Int.mul_neg, Int.neg_tdiv, e1]
  have g1 := Int.tdiv_le_tdiv (show (0 : Int) < 127 by decide) h1
  have g2 := Int.tdiv_le_tdiv (show (0 : Int) < 127 by decide) h2
  rw [e1] at g1
  rw [e2] at g2
  exact ⟨g2, g1⟩
section
variable {t : Task} {p : PathM}
theorem acc_abs (hp : p.ok) (ha : 0 ≤ t.accel) (k i : Nat) : -t.accel ≤ accT t p k i ∧ accT t p k i ≤ t.accel := by
  unfold accT
  split
  · omega
  exact part127_abs ha ((hp.push k).getD _).2
theorem vel_abs (hs : 0 ≤ t.speed) (k n : Nat) : -t.speed ≤ velT t p k n ∧ velT t p k n ≤ t.speed := by
  cases n with
  | zero => simp only [velT]; omega
  | succ n => simp only [velT]; omega
theorem vel_step (hp : p.ok) (hs : 0 ≤ t.speed) (ha : 0 ≤ t.accel) (k n : Nat) : -t.accel ≤ velT t p k (n + 1) - velT t p k n ∧ velT t p k (n + 1) - velT t p k n ≤ t.accel := by
  have h1 := vel_abs (p := p) hs k n
  have h2 := acc_abs hp ha k n
  simp only [velT]; omega
theorem vel_acc (hp : p.ok) (hs : 0 ≤ t.speed) (ha : 0 ≤ t.accel) (k : Nat) : ∀ n : Nat, -(t.accel * n) ≤ velT t p k n ∧ velT t p k n ≤ t.accel * n := by
  intro n
  induction n with
  | zero => simp [velT]
  | succ n ih =>
    have h := vel_step hp hs ha k n
    have e : t.accel * ((n + 1 : Nat) : Int) = t.accel * n + t.accel := by rw [show ((n + 1 : Nat) : Int) = (n : Int) + 1 by omega, Int.mul_add, Int.mul_one]
    omega
theorem pos_reach (hp : p.ok) (hs : 0 ≤ t.speed) (ha : 1 ≤ t.accel) (k : Nat) : ∀ n : Nat, -(reachT t n) ≤ posT t p k n ∧ posT t p k n ≤ reachT t n := by
  intro n
  induction n with
  | zero => rw [show ((0 : Nat) : Int) = 0 from rfl, reach_zero hs (by omega)]; simp [posT]
  | succ n ih =>
    rw [show ((n + 1 : Nat) : Int) = (n : Int) + 1 by omega, reach_succ ha hs (by omega)]
    have h1 := vel_abs (p := p) hs k (n + 1)
    have h2 := vel_acc hp hs (by omega) k (n + 1)
    have e : (((n + 1 : Nat) : Int)) = (n : Int) + 1 := by omega
    rw [e] at h2
    simp only [posT]; omega

/-! ### by ticks -/
def atP (t : Task) (p : PathM) (k : Nat) (u : Int) : Int := if u < t.frm then 0 else posT t p k (u - t.frm).toNat
def atV (t : Task) (p : PathM) (k : Nat) (u : Int) : Int := if u < t.frm then 0 else velT t p k ((u - t.frm).toNat + 1)
theorem atP_succ (k : Nat) (u : Int) : atP t p k (u + 1) = atP t p k u + atV t p k u := by
  unfold atP atV
  by_cases h : u < t.frm
  · rw [if_pos h, if_pos h]
    split
    · rfl
    have e : (u + 1 - t.frm).toNat = 0 := by omega
    rw [e]; rfl
  rw [if_neg h, if_neg h, if_neg (by omega)]
  have e : (u + 1 - t.frm).toNat = (u - t.frm).toNat + 1 := by omega
  rw [e]; rfl
theorem atV_abs (hs : 0 ≤ t.speed) (k : Nat) (u : Int) : -t.speed ≤ atV t p k u ∧ atV t p k u ≤ t.speed := by
  unfold atV; split
  · omega
  exact vel_abs hs k _
theorem atV_step (hp : p.ok) (hs : 0 ≤ t.speed) (ha : 0 ≤ t.accel) (k : Nat) (u : Int) : -t.accel ≤ atV t p k (u + 1) - atV t p k u ∧ atV t p k (u + 1) - atV t p k u ≤ t.accel := by
  unfold atV
  by_cases h : u < t.frm
  · rw [if_pos h]
    split
    · omega
    have e : (u + 1 - t.frm).toNat = 0 := by omega
    have := vel_step hp hs ha k 0
    rw [e]
    simp only [velT] at this ⊢
    omega
  rw [if_neg h, if_neg (by omega)]
  have e : (u + 1 - t.frm).toNat = (u - t.frm).toNat + 1 := by omega
  rw [e]
  exact vel_step hp hs ha k _
theorem atV_lip (hp : p.ok) (hs : 0 ≤ t.speed) (ha : 0 ≤ t.accel) (k : Nat) (u : Int) : ∀ j : Nat, -(t.accel * j) ≤ atV t p k (u + j) - atV t p k u ∧ atV t p k (u + j) - atV t p k u ≤ t.accel * j := by
  intro j
  induction j with
  | zero => simp
  | succ j ih =>
    have h := atV_step hp hs ha k (u + j)
    have e : t.accel * ((j + 1 : Nat) : Int) = t.accel * j + t.accel := by rw [show ((j + 1 : Nat) : Int) = (j : Int) + 1 by omega, Int.mul_add, Int.mul_one]
    rw [show u + ((j + 1 : Nat) : Int) = u + j + 1 by omega]
    omega
theorem atV_start (hp : p.ok) (hs : 0 ≤ t.speed) (ha : 0 ≤ t.accel) (k : Nat) {u : Int} (hu : t.frm ≤ u) : -(t.accel * (u - t.frm + 1)) ≤ atV t p k u ∧ atV t p k u ≤ t.accel * (u - t.frm + 1) := by
  unfold atV
  rw [if_neg (by omega)]
  have := vel_acc hp hs ha k ((u - t.frm).toNat + 1)
  rw [show (((u - t.frm).toNat + 1 : Nat) : Int) = u - t.frm + 1 by omega] at this
  exact this
theorem atP_lip (hs : 0 ≤ t.speed) (k : Nat) (u : Int) : ∀ j : Nat, -(t.speed * j) ≤ atP t p k (u + j) - atP t p k u ∧ atP t p k (u + j) - atP t p k u ≤ t.speed * j := by
  intro j
  induction j with
  | zero => simp
  | succ j ih =>
    have h := atV_abs (p := p) hs k (u + j)
    have h2 := atP_succ (t := t) (p := p) k (u + j)
    have e : t.speed * ((j + 1 : Nat) : Int) = t.speed * j + t.speed := by rw [show ((j + 1 : Nat) : Int) = (j : Int) + 1 by omega, Int.mul_add, Int.mul_one]
    rw [show u + ((j + 1 : Nat) : Int) = u + j + 1 by omega]
    omega
theorem atP_apart (hs : 0 ≤ t.speed) (k : Nat) (u v : Int) : atP t p k u - atP t p k v ≤ t.speed * apartI v u ∧ atP t p k v - atP t p k u ≤ t.speed * apartI v u := by
  rcases Int.le_total u v with h | h
  · have := atP_lip (p := p) hs k u (v - u).toNat
    rw [show u + ((v - u).toNat : Int) = v by omega, show (((v - u).toNat : Nat) : Int) = apartI v u by unfold apartI; omega] at this
    omega
  have := atP_lip (p := p) hs k v (u - v).toNat
  rw [show v + ((u - v).toNat : Int) = u by omega, show (((u - v).toNat : Nat) : Int) = apartI v u by unfold apartI; omega] at this
  omega
def tri : Nat → Int
  | 0 => 0
  | n + 1 => tri n + n
theorem mul_tri (a : Int) (n : Nat) : a * tri (n + 1) = a * tri n + a * n := by rw [tri, Int.mul_add]
theorem atP_fwd (hp : p.ok) (hs : 0 ≤ t.speed) (ha : 0 ≤ t.accel) (k : Nat) (u : Int) : ∀ j : Nat, -(t.accel * tri j) ≤ atP t p k (u + j) - atP t p k u - j * atV t p k u ∧ atP t p k (u + j) - atP t p k u - j * atV t p k u ≤ t.accel * tri j := by
  intro j
  induction j with
  | zero => simp [tri]
  | succ j ih =>
    have h := atV_lip hp hs ha k u j
    have h2 := atP_succ (t := t) (p := p) k (u + j)
    rw [mul_tri, show u + ((j + 1 : Nat) : Int) = u + j + 1 by omega, show ((j + 1 : Nat) : Int) = (j : Int) + 1 by omega, Int.add_mul, Int.one_mul]
    omega
theorem atP_back (hp : p.ok) (hs : 0 ≤ t.speed) (ha : 0 ≤ t.accel) (k : Nat) (u : Int) : ∀ j : Nat, -(t.accel * tri (j + 1)) ≤ atP t p k u - atP t p k (u - j) - j * atV t p k u ∧ atP t p k u - atP t p k (u - j) - j * atV t p k u ≤ t.accel * tri (j + 1) := by
  intro j
  induction j with
  | zero => simp [tri]
  | succ j ih =>
    have h := atV_lip hp hs ha k (u - (j + 1)) (j + 1)
    rw [show u - (j + 1) + ((j + 1 : Nat) : Int) = u by omega, show ((j + 1 : Nat) : Int) = (j : Int) + 1 by omega] at h
    have h2 := atP_succ (t := t) (p := p) k (u - (j + 1))
    rw [show u - ((j : Int) + 1) + 1 = u - j by omega] at h2
    rw [mul_tri, show ((j + 1 : Nat) : Int) = (j : Int) + 1 by omega, Int.add_mul, Int.one_mul]
    omega
theorem tri_F : ∀ j : Nat, j ≤ 8 → ((j : Int) * ((j : Int) - 1)).tdiv 2 = tri j ∧ ((j : Int) * ((j : Int) + 1)).tdiv 2 = tri (j + 1) := by decide

/-! ### what a path's plots leave -/
def InI3 (s : Span) (x : Int) : Prop := s.lo ≤ x ∧ x ≤ s.hi
theorem InI3.none {s : Span} {x : Int} (h : InI3 s x) : s.none = false := by
  simp only [Span.none, decide_eq_false_iff_not]; unfold InI3 at h; omega
/-- all of some plots tell the path, within their errors -/
def TellS (t : Task) (p : PathM) (ps : List Int) : Prop := ∀ i ∈ ps, (0 ≤ i ∧ i < t.plots.length) ∧ (t.pl i.toNat).tick - t.frm ≤ 592 ∧ ∀ k : Nat, k < 3 → partI (t.pl i.toNat) k - atP t p k (t.pl i.toNat).tick ≤ (t.trOf i.toNat).error ∧ atP t p k (t.pl i.toNat).tick - partI (t.pl i.toNat) k ≤ (t.trOf i.toNat).error
variable {ps : List Int}
theorem place_in (hG : GoodT t) (hp : p.ok) (hsm : SmallP t p 601) (hT : TellS t p ps) {k : Nat} (hk : k < 3) {v : Int} (hv : v - t.frm ≤ 601) : InI3 (placeT t ps k v) (atP t p k v) := by
  obtain ⟨hf, hs, ha⟩ := hG.nums
  unfold placeT
  split
  · rename_i h
    have key : InS ⟨atP t p k v, atP t p k v⟩ (placeN t ps k v) := by
      refine fold_out _ _ ?_ fun i hi => ?_
      · have h1 := pos_reach hp (show 0 ≤ t.speed by omega) (show 1 ≤ t.accel by omega) k (v - t.frm).toNat
        have h2 := hsm (v - t.frm).toNat (by omega) k hk
        rw [show (((v - t.frm).toNat : Nat) : Int) = v - t.frm by omega] at h1
        simp only [InS, room0, atP, if_neg (show ¬ v < t.frm by omega)]
        omega
      obtain ⟨⟨i0, i1⟩, _, he⟩ := hT i hi
      have h1 := he k hk
      have h2 := atP_apart (p := p) (show 0 ≤ t.speed by omega) k v (t.pl i.toNat).tick
      have h3 := grow_bnd hG (i := i.toNat) (by omega)
      simp only [InS, plotS, aroundS, slackT, widthT]
      omega
    exact key
  rename_i h
  unfold InI3 atP
  split
  · exact ⟨Int.le_refl _, Int.le_refl _⟩
  have e : (v - t.frm).toNat = 0 := by omega
  rw [e]; exact ⟨Int.le_refl _, Int.le_refl _⟩
theorem gone_in {s : Span} {lo hi j x : Int} (hj : 0 < j) (hs : InI3 s x) (h1 : lo ≤ j * x) (h2 : j * x ≤ hi) : InI3 (goneS s lo hi j) x := by
  have a1 : x ≤ hi / j := Int.le_ediv_of_mul_le hj (by rw [Int.mul_comm]; exact h2)
  have a2 : -x ≤ (-lo) / j := Int.le_ediv_of_mul_le hj (by rw [Int.neg_mul, Int.mul_comm]; omega)
  unfold InI3 at hs ⊢
  simp only [goneS]; omega
theorem fastN_in (hG : GoodT t) (hp : p.ok) (hsm : SmallP t p 601) (hT : TellS t p ps) {k : Nat} (hk : k < 3) {u : Int} (hu : t.frm ≤ u) (hn : u - t.frm ≤ 592) : ∀ n : Nat, n ≤ 8 → ∃ s, fastN t ps k u n = some s ∧ InI3 s (atV t p k u) := by
  obtain ⟨hf, hs, ha⟩ := hG.nums
  intro n
  induction n with
  | zero =>
    intro _
    refine ⟨_, rfl, ?_⟩
    have h1 := atV_abs (p := p) (show 0 ≤ t.speed by omega) k u
    have h2 := atV_start hp (by omega) (by omega) k hu
    simp only [InI3, room0]; omega
  | succ n ih =>
    intro hn8
    obtain ⟨s, es, is⟩ := ih (by omega)
    have h0 := place_in hG hp hsm hT hk (v := u) (by omega)
    obtain ⟨eF, eB⟩ := tri_F (n + 1) hn8
    rw [show ((n + 1 : Nat) : Int) = (n : Int) + 1 by omega] at eF eB
    have hB : ∃ s1, fastB t ps k u ((n : Int) + 1) s = some s1 ∧ InI3 s1 (atV t p k u) := by
      by_cases h : t.frm ≤ u - ((n : Int) + 1)
      · have h1 := place_in hG hp hsm hT hk (v := u - ((n : Int) + 1)) (by omega)
        rw [fastB_go h h1.none]
        refine ⟨_, rfl, ?_⟩
        have hb := atP_back hp (show 0 ≤ t.speed by omega) (show 0 ≤ t.accel by omega) k u (n + 1)
        rw [show ((n + 1 : Nat) : Int) = (n : Int) + 1 by omega] at hb
        unfold InI3 at h0 h1
        refine gone_in (by omega) is ?_ ?_ <;> (unfold moreB; rw [eB]; omega)
      rw [fastB_skip h]; exact ⟨_, rfl, is⟩
    obtain ⟨s1, e1, i1⟩ := hB
    have hF : ∃ s2, fastF t ps k u ((n : Int) + 1) s1 = some s2 ∧ InI3 s2 (atV t p k u) := by
      by_cases h : u + ((n : Int) + 1) ≤ 100000
      · have h1 := place_in hG hp hsm hT hk (v := u + ((n : Int) + 1)) (by omega)
        rw [fastF_go h h1.none]
        refine ⟨_, rfl, ?_⟩
        have hb := atP_fwd hp (show 0 ≤ t.speed by omega) (show 0 ≤ t.accel by omega) k u (n + 1)
        rw [show ((n + 1 : Nat) : Int) = (n : Int) + 1 by omega] at hb
        unfold InI3 at h0 h1
        refine gone_in (by omega) i1 ?_ ?_ <;> (unfold moreF; rw [eF]; omega)
      rw [fastF_skip h]; exact ⟨_, rfl, i1⟩
    obtain ⟨s2, e2, i2⟩ := hF
    refine ⟨s2, ?_, i2⟩
    simp only [fastN]
    rw [es, Option.bind_some, e1, Option.bind_some, e2]
theorem part_in (hG : GoodT t) (hp : p.ok) (hsm : SmallP t p 601) (hT : TellS t p ps) {k : Nat} (hk : k < 3) {u : Int} (hn : u - t.frm ≤ 592) : ∃ v, partT t ps k u = some (placeT t ps k u, v) ∧ InI3 (placeT t ps k u) (atP t p k u) ∧ InI3 v (atV t p k u) := by
  have h0 := place_in hG hp hsm hT hk (v := u) (by omega)
  have hf : ∃ v, fastT t ps k u = some v ∧ InI3 v (atV t p k u) := by
    by_cases h : u < t.frm
    · unfold fastT; rw [if_pos h]
      exact ⟨_, rfl, by unfold atV; rw [if_pos h]; exact ⟨Int.le_refl _, Int.le_refl _⟩⟩
    obtain ⟨s, es, is⟩ := fastN_in hG hp hsm hT hk (u := u) (by omega) hn 8 (Nat.le_refl _)
    rw [fastT_end (by omega) es, if_neg (by rw [is.none]; decide)]
    exact ⟨_, rfl, is⟩
  obtain ⟨v, ev, iv⟩ := hf
  exact ⟨v, partT_some ev h0.none, h0, iv⟩
structure HasB (b : Box) (f g : Nat → Int) : Prop where
  x : InI3 b.x (f 0)
  y : InI3 b.y (f 1)
  z : InI3 b.z (f 2)
  vx : InI3 b.vx (g 0)
  vy : InI3 b.vy (g 1)
  vz : InI3 b.vz (g 2)
theorem HasB.mono {a b : Box} {f g : Nat → Int} (h : HasB a f g) (i : InB a b) : HasB b f g := by
  obtain ⟨h1, h2, h3, h4, h5, h6⟩ := h
  obtain ⟨_, i1, i2, i3, i4, i5, i6⟩ := i
  refine ⟨?_, ?_, ?_, ?_, ?_, ?_⟩ <;> (simp only [InI3, InS] at *; omega)
/-! ### a task in which a path is told -/
def wrongT (t : Task) (p : PathM) (i k : Nat) : Int := if p.wrong.length = 0 then 0 else part127 (t.trOf i).error (p.wrong.getD ((3 * i + k) % p.wrong.length) 0)
def tellPl (t : Task) (p : PathM) (i : Nat) : Plot := ⟨(t.pl i).tracker, (t.pl i).tick, atP t p 0 (t.pl i).tick + wrongT t p i 0, atP t p 1 (t.pl i).tick + wrongT t p i 1, atP t p 2 (t.pl i).tick + wrongT t p i 2⟩
def tellL (t : Task) (p : PathM) (but : Int) (n : Nat) : List Plot := (List.range t.plots.length).map fun j => if j < n ∧ (t.pl j).tracker ≠ but then tellPl t p j else t.pl j
def tellT (t : Task) (p : PathM) (but : Int) : Task := ⟨t.frm, t.speed, t.accel, t.trackers, tellL t p but t.plots.length⟩
variable {but : Int}
end
end Go.Tk

/- Layer 5: paths in memory. -/
set_option linter.all false
namespace Go.Vc
section
variable {X : Cx} {ρ : PEnv} {ds : List Deferred} {H : Heap} {Q : Post} {o : Oper}
end
end Go.Vc
namespace Go.Tk
open Go.Vc

def upd (f : Nat → Int) (k : Nat) (x : Int) : Nat → Int := fun j => if j = k then x else f j
abbrev vec3 (f : Nat → Int) : Array Value := #[.int .i64 (f 0), .int .i64 (f 1), .int .i64 (f 2)]
abbrev pathV (pa : Nat → Option Addr) (pn pc : Nat → Nat) (wv : Value) : Array Value := #[.slice (pa 0) (pn 0) (pc 0), .slice (pa 1) (pn 1) (pc 1), .slice (pa 2) (pn 2) (pc 2), wv]
theorem three {k : Int} (h0 : 0 ≤ k) (h : k < 3) : k.toNat = 0 ∨ k.toNat = 1 ∨ k.toNat = 2 := by omega
theorem upd_same {f : Nat → Int} {k : Nat} {x : Int} : upd f k x k = x := if_pos rfl
theorem upd_ne {f : Nat → Int} {k j : Nat} {x : Int} (h : j ≠ k) : upd f k x j = f j := if_neg h

structure PathR (w : World) (v : Value) (p : PathM) : Prop where
  ok : p.ok
  ex : ∃ (pa : Nat → Option Addr) (pc : Nat → Nat) (wa : Option Addr) (wc : Nat), v = .agg (pathV pa (fun k => (p.push k).length) pc (.slice wa p.wrong.length wc)) ∧
    (∀ k, k < 3 → SliceR w 1 (.slice (pa k) (p.push k).length (pc k)) ((p.push k).map fun n => [Value.int .i8 n])) ∧ SliceR w 1 (.slice wa p.wrong.length wc) (p.wrong.map fun n => [Value.int .i8 n]) ∧
    (∀ k, k < 3 → ((p.push k).length : Int) ≤ 9223372036854775807) ∧ ((p.wrong.length : Nat) : Int) ≤ 9223372036854775807
theorem PathR.good {w0 w : World} {H : Heap} {v : Value} {p : PathM} (h : PathR w0 v p) (hg : Vc.Good w0 [] H w) : PathR w v p := by
  obtain ⟨pa, pc, wa, wc, e, h1, h2, h3, h4⟩ := h.ex
  exact ⟨h.ok, pa, pc, wa, wc, e, fun k hk => (h1 k hk).good hg, h2.good hg, h3, h4⟩

/-! ### Run -/
structure RunI (t : Task) (p : PathM) (i k : Nat) (fv fa : Nat → Int) : Prop where
  v : ∀ j, j < 3 → fv j = velT t p j (if j < k then i + 1 else i)
  a : ∀ j, j < 3 → fa j = posT t p j (if j < k then i + 1 else i)
  b : ∀ j, j < 3 → -2000000000 ≤ fa j ∧ fa j ≤ 2000000000
section
variable {t : Task} {p : PathM} {i k : Nat} {fv fa : Nat → Int}
theorem RunI.zero : RunI t p 0 0 (fun _ => 0) (fun _ => 0) := ⟨fun _ _ => rfl, fun _ _ => rfl, fun _ _ => by omega⟩
theorem RunI.step (h : RunI t p i k fv fa) (hk : k < 3) {v' a' : Int} (hv : v' = max (-t.speed) (min t.speed (fv k + accT t p k i))) (ha : a' = fa k + v') (hb : -2000000000 ≤ a' ∧ a' ≤ 2000000000) : RunI t p i (k + 1) (upd fv k v') (upd fa k a') := by
  have h1 := h.v k hk
  have h2 := h.a k hk
  rw [if_neg (Nat.lt_irrefl k)] at h1 h2
  have e1 : v' = velT t p k (i + 1) := by rw [hv, h1]; rfl
  have e2 : a' = posT t p k (i + 1) := by rw [ha, h2, e1]; rfl
  refine ⟨fun j hj => ?_, fun j hj => ?_, fun j hj => ?_⟩
  · by_cases e : j = k
    · subst e; rw [upd_same, if_pos (by omega), e1]
    rw [upd_ne e, h.v j hj]
    congr 1
    by_cases hl : j < k
    · rw [if_pos hl, if_pos (by omega)]
    rw [if_neg hl, if_neg (by omega)]
  · by_cases e : j = k
    · subst e; rw [upd_same, if_pos (by omega), e2]
    rw [upd_ne e, h.a j hj]
    congr 1
    by_cases hl : j < k
    · rw [if_pos hl, if_pos (by omega)]
    rw [if_neg hl, if_neg (by omega)]
  by_cases e : j = k
  · subst e; rw [upd_same]; exact hb
  rw [upd_ne e]; exact h.b j hj
theorem RunI.next (h : RunI t p i 3 fv fa) : RunI t p (i + 1) 0 fv fa :=
  ⟨fun j hj => by rw [h.v j hj, if_pos hj]; rfl, fun j hj => by rw [h.a j hj, if_pos hj]; rfl, h.b⟩
theorem RunI.bv (h : RunI t p i k fv fa) (hs : 0 ≤ t.speed ∧ t.speed ≤ 1000000) {j : Nat} (hj : j < 3) : -1000000 ≤ fv j ∧ fv j ≤ 1000000 := by
  rw [h.v j hj]
  have := vel_abs (p := p) hs.1 j (if j < k then i + 1 else i)
  omega
theorem SmallP.zero : SmallP t p 0 := fun m hm k _ => by
  have : m = 0 := by omega
  subst this; simp [posT]
theorem SmallP.next (h : SmallP t p i) (h2 : RunI t p (i + 1) 0 fv fa) : SmallP t p (i + 1) := fun m hm k hk => by
  by_cases e : m = i + 1
  · subst e
    have := h2.b k hk
    have h3 := h2.a k hk
    rw [if_neg (by omega)] at h3
    rwa [h3] at this
  exact h m (by omega) k hk
theorem tmod_nat {i : Int} {n : Nat} (h0 : 0 ≤ i) (hn : 0 < n) : (0 ≤ i.tmod (n : Int) ∧ i.tmod (n : Int) < n) ∧ (i.tmod (n : Int)).toNat = i.toNat % n := by
  have e : i.tmod (n : Int) = i % (n : Int) := Int.tmod_eq_emod_of_nonneg h0
  have h1 := Int.emod_nonneg i (show (n : Int) ≠ 0 by omega)
  have h2 := Int.emod_lt_of_pos i (show (0 : Int) < n by omega)
  rw [e]
  refine ⟨⟨h1, h2⟩, ?_⟩
  obtain ⟨m, rfl⟩ := Int.eq_ofNat_of_zero_le h0
  rw [Int.toNat_natCast]
  omega
/-! ### Spot -/
/-! ### Follow -/
structure WrI (t : Task) (p : PathM) (i k : Nat) (f : Nat → Int) : Prop where
  lt : ∀ j, j < k → j < 3 → f j = wrongT t p i j
  ge : ∀ j, k ≤ j → j < 3 → f j = 0
theorem WrI.zero : WrI t p i 0 (fun _ => 0) := ⟨fun j hj => by omega, fun _ _ _ => rfl⟩
theorem WrI.step {f : Nat → Int} (h : WrI t p i k f) (hk : k < 3) (hw : 0 < p.wrong.length) {m : Nat} {x : Int} (hm : m = (3 * i + k) % p.wrong.length) (hx : x = ((t.trOf i).error * max (-127) (p.wrong.getD m 0)).tdiv 127) : WrI t p i (k + 1) (upd f k x) := by
  have e : x = wrongT t p i k := by rw [hx, wrongT, if_neg (by omega), hm]; rfl
  refine ⟨fun j hj h3 => ?_, fun j hj h3 => ?_⟩
  · by_cases ej : j = k
    · subst ej; rw [upd_same, e]
    rw [upd_ne ej]; exact h.lt j (by omega) h3
  rw [upd_ne (by omega)]; exact h.ge j (by omega) h3
theorem WrI.end {f : Nat → Int} (h : WrI t p i k f) (he : 3 ≤ k ∨ ¬ 0 < p.wrong.length) {j : Nat} (hj : j < 3) : f j = wrongT t p i j := by
  by_cases hl : j < k
  · exact h.lt j hl hj
  rcases he with he | he
  · omega
  rw [h.ge j (by omega) hj, wrongT, if_pos (by omega)]
end
end Go.Tk
namespace Go.Tk
open Go.Vc
theorem SliceR.at {w : World} {size n c : Nat} {a : Option Addr} {els : List (List Value)} (h : SliceR w size (.slice a n c) els) {i : Nat} {e : List Value} (hi : els[i]? = some e) : ∃ b, a = some b ∧ cellsAt w (b.add (i * size)) e := by
  obtain ⟨a', c', hv, _, hc⟩ := h.ex
  injection hv with h1 _ _
  subst h1
  exact hc i e hi
end Go.Tk
namespace Go.Tk
open Go.Vc
section
variable {t : Task} {p : PathM}
end
end Go.Tk
namespace Go.Vc
theorem HSub.left : ∀ A B : Heap, HSub A (A ++ B)
  | [], _ => .nil _
  | _ :: A, B => .take .head (HSub.left A B)
end Go.Vc
namespace Go.Tk
open Go.Vc
end Go.Tk

/- Layer 5: what the statements on paths ask. -/
set_option linter.all false
namespace Go.Tk
open Go.Vc
section
variable {t : Task} {p : PathM} {but : Int}
theorem vel_tell (k n : Nat) : velT (tellT t p but) p k n = velT t p k n := by
  induction n with
  | zero => rfl
  | succ n ih => simp only [velT, ih]; rfl
theorem pos_tell (k n : Nat) : posT (tellT t p but) p k n = posT t p k n := by
  induction n with
  | zero => rfl
  | succ n ih => simp only [posT, ih, vel_tell]
theorem SmallP.tell {n : Nat} (h : SmallP t p n) : SmallP (tellT t p but) p n := fun m hm k hk => by rw [pos_tell]; exact h m hm k hk
/-! ### boxes ahead -/
end
end Go.Tk

/- Layer 6: what the statements say of looks (plain). -/
set_option linter.all false
namespace Go.De
open Go.Vc Go.Tk

/-! ### the box that is used -/
structure UsedIs (p : Plan) (t : Task) (now : Int) (b : Box) (frm : Int) : Prop where
  spare : (spareP t frm now).2 = 0
  ahead : aheadP t (spareP t frm now).1 (now - frm + p.wait + 1) = (b, 0)
  le : frm ≤ now
  ge : now - p.blind ≤ frm ∧ 0 ≤ frm
  next : frm < now → (spareP t (frm + 1) now).2 ≠ 0
/-! ### more room -/
structure LookIs (p : Plan) (t : Task) (now : Int) (l : Look) : Prop where
  used : ∃ b frm, usedT p t now = some (b, frm) ∧ l.box = b
  e : (fallT p.grav l.box).e = 0
  x : l.x = (fallT p.grav l.box).x
  y : l.y = (fallT p.grav l.box).y
  at_ : l.at_ = (fallT p.grav l.box).at_
  line : l.line = overI p l.x l.y
  why : l.why = if 0 ≤ overI p l.x l.y then 1 else 0
/-! ### one that stays -/
def shareI (s : Span) (n : Int) : Int := s.lo + ((s.hi - s.lo) * n).tdiv 255
theorem share_in {s : Span} {n : Int} (h : s.lo ≤ s.hi) (hn : 0 ≤ n ∧ n ≤ 255) : s.lo ≤ shareI s n ∧ shareI s n ≤ s.hi := by
  have h1 := mul_bnd (show 0 ≤ s.hi - s.lo ∧ s.hi - s.lo ≤ s.hi - s.lo by omega) hn
  unfold shareI
  rw [Int.tdiv_eq_ediv_of_nonneg h1.1]
  have h2 := Int.ediv_nonneg h1.1 (show (0 : Int) ≤ 255 by omega)
  have h3 : (s.hi - s.lo) * n / 255 ≤ s.hi - s.lo := by
    have := Int.ediv_le_ediv (show (0 : Int) < 255 by omega) h1.2
    rw [Int.mul_ediv_cancel _ (by omega)] at this
    exact this
  omega
end Go.De

/- Layer 5: gaps. -/
set_option linter.all false
namespace Go.Tk
open Go.Vc

section
variable {t : Task} {now wd frm u : Int}
end

end Go.Tk
