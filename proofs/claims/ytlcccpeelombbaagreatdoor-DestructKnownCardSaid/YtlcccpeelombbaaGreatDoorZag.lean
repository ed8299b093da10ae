/- Joined texts. -/
import Derived.Test.YtlcccpeelombbaaGreatDoorZad
import Derived.Deep.Slices
/- Layer 5: parts of slices joined to new ones; tasks with fewer, or other, plots. -/
set_option linter.all false
namespace Go.Vc
section
variable {X : Cx} {ρ : PEnv} {ds : List Deferred} {H : Heap} {Q : Post} {o : Oper}

end
end Go.Vc

namespace Go.Tk
open Go.Vc

theorem add_add_ (a : Addr) (j k : Nat) : (a.add j).add k = a.add (j + k) := Go.Deep.add_add a j k

theorem SliceR.drop {w : World} {size : Nat} {a : Option Addr} {n cap k : Nat} {els : List (List Value)} (h : SliceR w size (.slice a n cap) els) (hk : k ≤ els.length) :
    SliceR w size (.slice (if cap = k then a else a.map (·.add (k * size))) (n - k) (cap - k)) (els.drop k) := by
  obtain ⟨a', cap', hv, hl, hc⟩ := h.ex
  injection hv with h1 h2 h3
  subst h1 h2 h3
  refine ⟨_, _, by rw [List.length_drop], by rw [List.length_drop]; omega, fun i e hi => ?_⟩
  rw [List.getElem?_drop] at hi
  obtain ⟨b, hb, hcb⟩ := hc (k + i) e hi
  have hlt := (List.getElem?_eq_some_iff.1 hi).1
  rw [if_neg (by omega), hb]
  refine ⟨_, rfl, ?_⟩
  rw [add_add_, ← Nat.add_mul]
  exact hcb
/-- a row that grew, as a slice of elements -/
theorem Grow.rows {el size n : Nat} {v : Value} {els : List (List Value)} {G : Heap} (h : Grow el size v n els.flatten G) (hs : ∀ e ∈ els, e.length = size) (hn : n = els.length) {w : World} (hg : ∀ p ∈ G, w.heap[p.1]? = some p.2) : SliceR w size v els := by
  obtain ⟨a, cap, rfl, hc, hl, hx⟩ := h.cells hg
  subst hn
  refine ⟨a, cap, rfl, hc, fun i e hi => ?_⟩
  cases e with
  | nil =>
    cases a with
    | some b => exact ⟨b, rfl, fun j v hj => by simp at hj⟩
    | none =>
      have hz : size = 0 := by rw [← hs [] (List.mem_of_getElem? hi)]; rfl
      have hil := (List.getElem?_eq_some_iff.1 hi).1
      have h0 : els.length = 0 := by
        generalize els.length = n at h
        generalize els.flatten = xs at h
        cases h; rfl
      omega
  | cons x e =>
    have hse := hs _ (List.mem_of_getElem? hi)
    simp only [List.length_cons] at hse
    have key : ∀ (j : Nat) v, (x :: e)[j]? = some v → ∃ b, a = some b ∧ w.cell? (b.add (i * size + j)) = some v := by
      intro j v hj
      have hjl := (List.getElem?_eq_some_iff.1 hj).1
      simp only [List.length_cons] at hjl
      exact hx _ v (by rw [flat_at els i j _ hs hi (by omega)]; exact hj)
    obtain ⟨b, hb, _⟩ := key 0 x rfl
    refine ⟨b, hb, fun j v hj => ?_⟩
    obtain ⟨b', hb', hv⟩ := key j v hj
    rw [hb] at hb'; cases hb'
    rw [add_add_]; exact hv

/-! ### tasks with fewer plots -/
structure SubT (t t' : Task) (f : Nat → Nat) : Prop where
  frm : t'.frm = t.frm
  speed : t'.speed = t.speed
  accel : t'.accel = t.accel
  trackers : t'.trackers = t.trackers
  len : t'.plots.length ≤ t.plots.length
  idx : ∀ j, j < t'.plots.length → f j < t.plots.length ∧ t'.pl j = t.pl (f j)
  inj : ∀ i j, i < t'.plots.length → j < t'.plots.length → f i = f j → i = j

section
variable {t t' : Task} {f : Nat → Nat}
theorem no_dup (hG : GoodT t) {i j : Nat} (hi : i < t.plots.length) (hj : j < t.plots.length) (hne : i ≠ j) : ¬ ((t.pl i).tracker = (t.pl j).tracker ∧ (t.pl i).tick = (t.pl j).tick) := by
  rintro ⟨h1, h2⟩
  rcases Nat.lt_or_gt_of_ne hne with h | h
  · have := (errPl_zero (hG.pl j hj)).2.2
    rw [seenB_hit h h1 h2] at this; cases this
  have := (errPl_zero (hG.pl i hi)).2.2
  rw [seenB_hit h h1.symm h2.symm] at this; cases this
theorem SubT.tr_eq (h : SubT t t' f) : Task.tr t' = Task.tr t := by funext i; rw [Task.tr, Task.tr, h.trackers]
theorem SubT.errs (h : SubT t t' f) (j : Nat) : errTr t' j = errTr t j := by unfold errTr dupB; rw [h.tr_eq]
theorem SubT.good (h : SubT t t' f) (hG : GoodT t) : GoodT t' := by
  refine ⟨⟨by rw [h.trackers]; exact hG.h1, Nat.le_trans h.len hG.h2, by rw [h.frm]; exact hG.h3, by rw [h.speed]; exact hG.h4, by rw [h.accel]; exact hG.h5⟩, fun j hj => ?_, fun j hj => ?_⟩
  · rw [h.trackers] at hj
    have := hG.tr j hj
    rwa [h.errs]
  obtain ⟨hf, e⟩ := h.idx j hj
  obtain ⟨h1, h2, h3⟩ := errPl_zero (hG.pl (f j) hf)
  refine errPl_ok (by rw [e, h.trackers]; exact h1) ?_ ?_
  · rw [e]; simpa only [plOut, h.frm] using h2
  refine seenB_none fun i hi => ?_
  obtain ⟨hfi, ei⟩ := h.idx i (by omega)
  rw [e, ei]
  exact no_dup hG hfi hf (fun hh => by have := h.inj i j (by omega) hj hh; omega)
theorem SubT.plotS (h : SubT t t' f) {j : Nat} (hj : j < t'.plots.length) (k u : Int) : plotS t' k u j = plotS t k u (f j) := by
  obtain ⟨_, e⟩ := h.idx j hj
  simp only [Tk.plotS, slackT, widthT, farT, Task.trOf, Task.tr, Int.toNat_natCast, e, h.trackers, h.speed]
theorem SubT.known (h : SubT t t' f) {j : Nat} (hj : j < t'.plots.length) (now : Int) : knownB t' now j = knownB t now (f j) := by
  obtain ⟨_, e⟩ := h.idx j hj
  rw [knownB, knownB, Task.trOf, Task.trOf, e, h.tr_eq]
theorem mem_byT {now : Int} {want : Int → Bool} {i : Nat} : (i : Int) ∈ byT t now want ↔ i < t.plots.length ∧ knownB t now i = true ∧ want (t.pl i).tracker = true := by
  unfold byT byN knownN
  rw [List.mem_filter, List.mem_map]
  constructor
  · rintro ⟨⟨j, hj, e⟩, h2⟩
    have : j = i := by have := e; simp only [Int.ofNat_eq_natCast, Int.natCast_inj] at this; exact this
    subst this
    rw [List.mem_filter, List.mem_range] at hj
    exact ⟨hj.1, hj.2, by simpa using h2⟩
  rintro ⟨h1, h2, h3⟩
  exact ⟨⟨i, List.mem_filter.2 ⟨List.mem_range.2 h1, h2⟩, rfl⟩, by simpa using h3⟩
theorem SubT.binds (h : SubT t t' f) (hG : GoodT t) (now : Int) (want : Int → Bool) : Binds t (byT t now want) t' (byT t' now want) := by
  obtain ⟨_, _, ha⟩ := hG.nums
  refine ⟨h.frm.symm, by rw [h.speed]; exact Int.le_refl _, by rw [h.accel]; exact ⟨by omega, Int.le_refl _⟩, fun n _ => by simp only [reachT, capT, h.speed, h.accel]; exact Int.le_refl _, fun i hi => ?_⟩
  obtain ⟨h0, h1⟩ := byT_bnd i hi
  obtain ⟨j, rfl⟩ := Int.eq_ofNat_of_zero_le h0
  obtain ⟨hj, hk, hw⟩ := mem_byT.1 hi
  obtain ⟨hf, e⟩ := h.idx j hj
  refine ⟨f j, mem_byT.2 ⟨hf, by rw [← h.known hj]; exact hk, by rw [← e]; exact hw⟩, fun k u => ?_⟩
  rw [h.plotS hj]
  exact ⟨Int.le_refl _, Int.le_refl _⟩
/-- if all that are known are kept -/
theorem SubT.rbinds (h : SubT t t' f) (hG : GoodT t) (now : Int) (want : Int → Bool) (hs : ∀ i, i < t.plots.length → knownB t now i = true → ∃ j, j < t'.plots.length ∧ f j = i) : Binds t' (byT t' now want) t (byT t now want) := by
  obtain ⟨_, _, ha⟩ := hG.nums
  refine ⟨h.frm, by rw [h.speed]; exact Int.le_refl _, by rw [h.accel]; exact ⟨by omega, Int.le_refl _⟩, fun n _ => by simp only [reachT, capT, h.speed, h.accel]; exact Int.le_refl _, fun i hi => ?_⟩
  obtain ⟨h0, h1⟩ := byT_bnd i hi
  obtain ⟨j, rfl⟩ := Int.eq_ofNat_of_zero_le h0
  obtain ⟨hj, hk, hw⟩ := mem_byT.1 hi
  obtain ⟨m, hm, rfl⟩ := hs j hj hk
  obtain ⟨hf, e⟩ := h.idx m hm
  refine ⟨m, mem_byT.2 ⟨hm, by rw [h.known hm]; exact hk, by rw [e]; exact hw⟩, fun k u => ?_⟩
  rw [h.plotS hm]
  exact ⟨Int.le_refl _, Int.le_refl _⟩
end

/-! ### one plot less -/
end Go.Tk

/- Layer 5: boxes ahead. -/
set_option linter.all false
namespace Go.Vc
section
variable {X : Cx} {ρ : PEnv} {ds : List Deferred} {H : Heap} {Q : Post}
/-- A joint, at a code behind which another one is set already. -/
theorem V_midT {x y : Code} {γ : Type} {ks : List Nat} {ρf : PEnv} (hk : Keep ρ ks ρf) (ρI : γ → PEnv) (HI : γ → Heap) (inv : γ → Prop)
    (h : V X x ρ ds H (Then (fun ρ' ds' H' => ∃ g, inv g ∧ Sub (ρI g ++ ρf) ρ' ∧ HSub (HI g) H' ∧ ds' = ds) Q)) (k : ∀ g, inv g → V X y (ρI g ++ ρf) ds (HI g) Q) :
    V X x ρ ds H (Then (fun ρ ds H => V X y ρ ds H Q) Q) := by
  refine h.mono ?_
  intro e ρ' ds' H' hq
  cases e <;> first | exact hq | skip
  obtain ⟨g, hi, hs, hh, hd⟩ := hq
  subst hd
  exact fun a w ha hg => k g hi a w (ha.sub hs) (hg.hsub hh)
end
end Go.Vc

namespace Go.Tk
open Go.Vc

def okS (m : Int) (s : Span) : Prop := -m ≤ s.lo ∧ s.lo ≤ s.hi ∧ s.hi ≤ m
instance (m : Int) (s : Span) : Decidable (okS m s) := inferInstanceAs (Decidable (_ ∧ _ ∧ _))
def BoxOk (b : Box) : Prop := (0 ≤ b.at_ ∧ b.at_ ≤ 100000) ∧ okS 2000000000 b.x ∧ okS 2000000000 b.y ∧ okS 2000000000 b.z ∧ okS 1000000 b.vx ∧ okS 1000000 b.vy ∧ okS 1000000 b.vz
instance (b : Box) : Decidable (BoxOk b) := inferInstanceAs (Decidable (_ ∧ _))
def boxE (b : Box) : Int := if BoxOk b then 0 else 7
theorem boxE_ok {b : Box} (h : boxE b = 0) : BoxOk b := by
  unfold boxE at h
  split at h
  · assumption
  cases h
theorem boxE_0 {b : Box} (h : BoxOk b) : boxE b = 0 := if_pos h
theorem boxE_7 {b : Box} (h : ¬ BoxOk b) : boxE b = 7 := if_neg h

def stepP (p v : Span) : Span := common ⟨p.lo + v.lo, p.hi + v.hi⟩ (room0 2000000000)
def stepV (t : Task) (v : Span) : Span := common ⟨v.lo - t.accel, v.hi + t.accel⟩ (room0 t.speed)
def aheadN (t : Task) : Nat → Span → Span → Option (Span × Span)
  | 0, p, v => if p.none || v.none then none else some (p, v)
  | n + 1, p, v => if p.none || v.none then none else aheadN t n (stepP p v) (stepV t v)
def aheadS (t : Task) (n : Int) (p v : Span) : Option (Span × Span) := aheadN t n.toNat p (common v (room0 t.speed))
def aheadB (t : Task) (b : Box) (n : Int) : Option Box :=
  (aheadS t n b.x b.vx).bind fun a => (aheadS t n b.y b.vy).bind fun c => (aheadS t n b.z b.vz).bind fun d => some ⟨b.at_ + n, a.1, c.1, d.1, a.2, c.2, d.2⟩
def aheadE (t : Task) (b : Box) (n : Int) : Int :=
  if askedT t [] ≠ 0 then askedT t [] else if ¬ BoxOk b then 7 else if oP n 0 600 = true ∨ oP (b.at_ + n) 0 100000 = true then 7 else 0
def aheadP (t : Task) (b : Box) (n : Int) : Box × Int := if aheadE t b n ≠ 0 then (boxZ, aheadE t b n) else foundP (aheadB t b n)

section
variable {t : Task} {p v : Span} {n : Nat}
theorem aheadN_none (h : p.none = true ∨ v.none = true) : aheadN t n p v = none := by
  have : (p.none || v.none) = true := by rcases h with h | h <;> simp [h]
  cases n <;> (rw [aheadN, if_pos this])
theorem aheadN_zero (h1 : p.none = false) (h2 : v.none = false) : aheadN t 0 p v = some (p, v) := by rw [aheadN, h1, h2]; rfl
theorem aheadN_succ (h1 : p.none = false) (h2 : v.none = false) : aheadN t (n + 1) p v = aheadN t n (stepP p v) (stepV t v) := by rw [aheadN, h1, h2]; rfl
/-- a round's step, as the counters have it -/
theorem aheadN_go {m i : Int} (h : 0 ≤ i ∧ i < m) (h1 : p.none = false) (h2 : v.none = false) : aheadN t (m - i).toNat p v = aheadN t (m - (i + 1)).toNat (stepP p v) (stepV t v) := by
  have e : (m - i).toNat = (m - (i + 1)).toNat + 1 := by omega
  rw [e, aheadN_succ h1 h2]
theorem aheadN_end {m i : Int} (h : i = m) (h1 : p.none = false) (h2 : v.none = false) : aheadN t (m - i).toNat p v = some (p, v) := by
  have e : (m - i).toNat = 0 := by omega
  rw [e, aheadN_zero h1 h2]
end

section
variable {t : Task} {b : Box} {n : Int}
theorem aheadE_1 (h : askedT t [] ≠ 0) : aheadE t b n = askedT t [] := if_pos h
theorem aheadE_2 (h : askedT t [] = 0) (h1 : ¬ BoxOk b) : aheadE t b n = 7 := by rw [aheadE, if_neg (fun a => a h), if_pos h1]
theorem aheadE_3 (h : askedT t [] = 0) (h1 : BoxOk b) (h2 : oP n 0 600 = true ∨ oP (b.at_ + n) 0 100000 = true) : aheadE t b n = 7 := by rw [aheadE, if_neg (fun a => a h), if_neg (fun a => a h1), if_pos h2]
theorem aheadE_4 (h : askedT t [] = 0) (h1 : BoxOk b) (h2 : oP n 0 600 = false) (h3 : oP (b.at_ + n) 0 100000 = false) : aheadE t b n = 0 := by rw [aheadE, if_neg (fun a => a h), if_neg (fun a => a h1), if_neg (by rw [h2, h3]; simp)]
theorem aheadP_bad {e : Int} (h : aheadE t b n = e) (he : e ≠ 0) : aheadP t b n = (boxZ, e) := by rw [aheadP, h, if_pos he]
theorem aheadP_ok (h : aheadE t b n = 0) : aheadP t b n = foundP (aheadB t b n) := by rw [aheadP, if_neg (fun a => a h)]
theorem aheadB_0 (h : aheadS t n b.x b.vx = none) : aheadB t b n = none := by rw [aheadB, h]; rfl
theorem aheadB_1 {a : Span × Span} (h : aheadS t n b.x b.vx = some a) (h1 : aheadS t n b.y b.vy = none) : aheadB t b n = none := by rw [aheadB, h, Option.bind_some, h1]; rfl
theorem aheadB_2 {a c : Span × Span} (h : aheadS t n b.x b.vx = some a) (h1 : aheadS t n b.y b.vy = some c) (h2 : aheadS t n b.z b.vz = none) : aheadB t b n = none := by rw [aheadB, h, Option.bind_some, h1, Option.bind_some, h2]; rfl
theorem aheadB_3 {a c d : Span × Span} (h : aheadS t n b.x b.vx = some a) (h1 : aheadS t n b.y b.vy = some c) (h2 : aheadS t n b.z b.vz = some d) : aheadB t b n = some ⟨b.at_ + n, a.1, c.1, d.1, a.2, c.2, d.2⟩ := by
  rw [aheadB, h, Option.bind_some, h1, Option.bind_some, h2]; rfl
theorem foundP_none {o : Option Box} (h : o = none) : foundP o = (boxZ, 9) := by rw [h]; rfl
theorem foundP_some {o : Option Box} {b : Box} (h : o = some b) : foundP o = (b, 0) := by rw [h]; rfl

end

/-- all ints of a box are machine ints -/
def BoxI (b : Box) : Prop := InI b.at_ ∧ (InI b.x.lo ∧ InI b.x.hi) ∧ (InI b.y.lo ∧ InI b.y.hi) ∧ (InI b.z.lo ∧ InI b.z.hi) ∧ (InI b.vx.lo ∧ InI b.vx.hi) ∧ (InI b.vy.lo ∧ InI b.vy.hi) ∧ (InI b.vz.lo ∧ InI b.vz.hi)

/-- what the inner rounds come to -/
def Met (o : Option (Span × Span)) (p v : Span) : Prop := (p.none = false ∧ v.none = false ∧ o = some (p, v)) ∨ ((p.none = true ∨ v.none = true) ∧ o = none)
theorem met_v {t : Task} {o : Option (Span × Span)} {m : Nat} {p v : Span} (h : o = aheadN t m p v) (hv : v.none = true) : Met o p v := .inr ⟨.inr hv, h.trans (aheadN_none (.inr hv))⟩
theorem met_p {t : Task} {o : Option (Span × Span)} {m : Nat} {p v v' : Span} (h : o = aheadN t m p v) (hp : p.none = true) : Met o p v' := .inr ⟨.inl hp, h.trans (aheadN_none (.inl hp))⟩
theorem met_end {t : Task} {o : Option (Span × Span)} {n k : Int} {p v : Span} (h : o = aheadN t (n - k).toNat p v) (he : k = n) (hp : p.none = false) : Met o p v := by
  cases hv : v.none with
  | true => exact met_v h hv
  | false => exact .inl ⟨hp, hv, h.trans (aheadN_end he hp hv)⟩
theorem Met.no {o : Option (Span × Span)} {p v : Span} (h : Met o p v) (h1 : p.none = true ∨ v.none = true) : o = none := by
  rcases h with ⟨a, b, _⟩ | ⟨_, h⟩
  · rcases h1 with h1 | h1
    · rw [a] at h1; cases h1
    rw [b] at h1; cases h1
  exact h
theorem Met.yes {o : Option (Span × Span)} {p v : Span} (h : Met o p v) (h1 : p.none = false) (h2 : v.none = false) : o = some (p, v) := by
  rcases h with ⟨_, _, h⟩ | ⟨h, _⟩
  · exact h
  rcases h with h | h
  · rw [h1] at h; cases h
  rw [h2] at h; cases h

end Go.Tk

/- Layer 5: plots that are not known change nothing. -/
set_option linter.all false
namespace Go.Tk
open Go.Vc

/-- two tasks with the same boxes at a tick -/
structure SameW (t t' : Task) (u now : Int) : Prop where
  asked : askedT t' [u, now] = askedT t [u, now]
  tr : t'.trackers = t.trackers
  box : ∀ want, boxT t' (byT t' now want) u = boxT t (byT t now want) u
section
variable {t t' : Task} {u now : Int}
theorem SameW.spareT (h : SameW t t' u now) : spareT t' u now = spareT t u now := by
  unfold Tk.spareT othersV; simp only [h.tr, h.box]
theorem SameW.spare (h : SameW t t' u now) : spareP t' u now = spareP t u now := by unfold spareP; rw [h.asked, h.spareT]
theorem SameW.bestN (h : SameW t t' u now) (s : Box) : ∀ n, bestN t' s u now n = bestN t s u now n := by
  intro n
  induction n with
  | zero => rfl
  | succ n ih => simp only [Tk.bestN, ih, ownT, h.box]
theorem SameW.best (h : SameW t t' u now) : bestP t' u now = bestP t u now := by
  unfold bestP; simp only [h.spare, h.bestN, h.tr]
theorem asked_both (hG : GoodT t) (hG' : GoodT t') (l : List Int) : askedT t' l = askedT t l := by
  unfold askedT
  rw [checkT_ok hG.toHead hG.tr hG.pl, checkT_ok hG'.toHead hG'.tr hG'.pl]

/-! ### other plots said -/
structure SayT (t t' : Task) (now : Int) : Prop where
  frm : t'.frm = t.frm
  speed : t'.speed = t.speed
  accel : t'.accel = t.accel
  trackers : t'.trackers = t.trackers
  len : t'.plots.length = t.plots.length
  pl : ∀ j, j < t.plots.length → (t'.pl j).tracker = (t.pl j).tracker ∧ (t'.pl j).tick = (t.pl j).tick ∧ (knownB t now j = true → t'.pl j = t.pl j) ∧
    (-2000000000 ≤ (t'.pl j).x ∧ (t'.pl j).x ≤ 2000000000) ∧ (-2000000000 ≤ (t'.pl j).y ∧ (t'.pl j).y ≤ 2000000000) ∧ (-2000000000 ≤ (t'.pl j).z ∧ (t'.pl j).z ≤ 2000000000)
theorem SayT.tr_eq (h : SayT t t' now) : Task.tr t' = Task.tr t := by funext i; rw [Task.tr, Task.tr, h.trackers]
theorem SayT.good (h : SayT t t' now) (hG : GoodT t) : GoodT t' := by
  refine ⟨⟨by rw [h.trackers]; exact hG.h1, by rw [h.len]; exact hG.h2, by rw [h.frm]; exact hG.h3, by rw [h.speed]; exact hG.h4, by rw [h.accel]; exact hG.h5⟩, fun j hj => ?_, fun j hj => ?_⟩
  · rw [h.trackers] at hj
    have := hG.tr j hj
    have e : errTr t' j = errTr t j := by unfold errTr dupB; rw [h.tr_eq]
    rwa [e]
  rw [h.len] at hj
  obtain ⟨e1, e2, _, bx, by_, bz⟩ := h.pl j hj
  obtain ⟨h1, h2, h3⟩ := errPl_zero (hG.pl j hj)
  refine errPl_ok (by rw [e1, h.trackers]; exact h1) ?_ ?_
  · simp only [plOut, Bool.or_eq_false_iff, h.frm, e2] at h2 ⊢
    exact ⟨h2.1, oP_false.2 bx, oP_false.2 by_, oP_false.2 bz⟩
  refine seenB_none fun i hi => ?_
  obtain ⟨a1, a2, _⟩ := h.pl i (by omega)
  rw [e1, e2, a1, a2]
  exact no_dup hG (by omega) hj (by omega)
theorem SayT.trOf (h : SayT t t' now) {j : Nat} (hj : j < t.plots.length) : t'.trOf j = t.trOf j := by
  rw [Task.trOf, Task.trOf, (h.pl j hj).1, h.tr_eq]
theorem SayT.known (h : SayT t t' now) {j : Nat} (hj : j < t.plots.length) : knownB t' now j = knownB t now j := by
  rw [knownB, knownB, h.trOf hj, (h.pl j hj).2.1]
theorem SayT.plotS (h : SayT t t' now) {j : Nat} (hj : j < t.plots.length) (hk : knownB t now j = true) (k u : Int) : plotS t' k u j = plotS t k u j := by
  have e := (h.pl j hj).2.2.1 hk
  simp only [Tk.plotS, slackT, widthT, farT, h.trOf hj, Int.toNat_natCast, e, h.speed]
theorem SayT.binds (h : SayT t t' now) (hG : GoodT t) (want : Int → Bool) : Binds t (byT t now want) t' (byT t' now want) := by
  obtain ⟨_, _, ha⟩ := hG.nums
  refine ⟨h.frm.symm, by rw [h.speed]; exact Int.le_refl _, by rw [h.accel]; exact ⟨by omega, Int.le_refl _⟩, fun n _ => by simp only [reachT, capT, h.speed, h.accel]; exact Int.le_refl _, fun i hi => ?_⟩
  obtain ⟨h0, h1⟩ := byT_bnd i hi
  obtain ⟨j, rfl⟩ := Int.eq_ofNat_of_zero_le h0
  obtain ⟨hj, hk, hw⟩ := mem_byT.1 hi
  rw [h.len] at hj
  rw [h.known hj] at hk
  exact ⟨j, mem_byT.2 ⟨hj, hk, by rw [← (h.pl j hj).1]; exact hw⟩, fun k u => by rw [h.plotS hj hk]; exact ⟨Int.le_refl _, Int.le_refl _⟩⟩
theorem SayT.rbinds (h : SayT t t' now) (hG : GoodT t) (want : Int → Bool) : Binds t' (byT t' now want) t (byT t now want) := by
  obtain ⟨_, _, ha⟩ := hG.nums
  refine ⟨h.frm, by rw [h.speed]; exact Int.le_refl _, by rw [h.accel]; exact ⟨by omega, Int.le_refl _⟩, fun n _ => by simp only [reachT, capT, h.speed, h.accel]; exact Int.le_refl _, fun i hi => ?_⟩
  obtain ⟨h0, h1⟩ := byT_bnd i hi
  obtain ⟨j, rfl⟩ := Int.eq_ofNat_of_zero_le h0
  obtain ⟨hj, hk, hw⟩ := mem_byT.1 hi
  exact ⟨j, mem_byT.2 ⟨by rw [h.len]; exact hj, by rw [h.known hj]; exact hk, by rw [(h.pl j hj).1]; exact hw⟩, fun k u => by rw [h.plotS hj hk]; exact ⟨Int.le_refl _, Int.le_refl _⟩⟩
theorem SayT.same (h : SayT t t' now) (hG : GoodT t) (u : Int) : SameW t t' u now :=
  ⟨asked_both hG (h.good hG) _, h.trackers, fun want => (box_same (h.binds hG want) (h.rbinds hG want) u).symm⟩
end

section
variable {t : Task} {now a b c : Int}
/-! ### the others left out -/
end
end Go.Tk
namespace Go.Vc
theorem SetAt.app {b : Nat} {o o' : Obj} {H H' : Heap} (h : SetAt H b o o' H') : ∀ A : Heap, SetAt (A ++ H) b o o' (A ++ H')
  | [] => h
  | _ :: A => .tail (h.app A)
end Go.Vc

/- The plain part of layer 6 (ended flights): what its functions compute. -/
set_option linter.all false
namespace Go.De
open Go.Vc Go.Tk

structure Line where
  a : Int
  b : Int
  keep : Int
  line : Int
structure Plan where
  lines : List Line
  grav : Span
  wait : Int
  blind : Int
structure Look where
  box : Box
  x : Span
  y : Span
  at_ : Span
  why : Int
  line : Int
structure End where
  tick : Int
  why : Int
  line : Int
structure FallR where
  x : Span
  y : Span
  at_ : Span
  e : Int
def Line.cells (l : Line) : List Value := [.int .i64 l.a, .int .i64 l.b, .int .i64 l.keep, .int .i64 l.line]
def lnZ : Line := ⟨0, 0, 0, 0⟩
def spZ : Span := ⟨0, 0⟩
def Plan.ln (p : Plan) (i : Nat) : Line := p.lines.getD i lnZ

abbrev PlanV (p : Plan) (lv : Value) : Value := .agg #[lv, .int .i64 p.grav.lo, .int .i64 p.grav.hi, .int .i64 p.wait, .int .i64 p.blind]
structure PlanR (w : World) (v : Value) (p : Plan) : Prop where
  len : (p.lines.length : Int) ≤ 9223372036854775807
  ex : ∃ lv, v = PlanV p lv ∧ SliceR w 4 lv (p.lines.map Line.cells)
theorem PlanR.ext {w w' : World} {v : Value} {p : Plan} (h : PlanR w v p) (he : Ext w w') : PlanR w' v p := let ⟨lv, e, hs⟩ := h.ex; ⟨h.len, lv, e, hs.ext he⟩
theorem PlanR.good {w0 w : World} {H : Heap} {v : Value} {p : Plan} (h : PlanR w0 v p) (hg : Vc.Good w0 [] H w) : PlanR w v p := h.ext hg.toExt

/-! ### checks -/
def errLn (l : Line) : Int :=
  if (oP l.a (-1000) 1000 || (oP l.b (-1000) 1000 || (oP l.keep (-4000000000000) 4000000000000 || oP l.line (-4000000000000) 4000000000000))) = true then 7
  else if (l.a = 0 ∧ l.b = 0) ∨ l.line < l.keep then 2 else 0
def tailP (p : Plan) : Bool := oP p.grav.hi 1 200 || (oP p.grav.lo 1 p.grav.hi || (oP p.wait 0 100 || oP p.blind 0 300))
def checkP (p : Plan) : Int × Int × Int := if oP p.lines.length 1 8 = true then (1, 0, 3) else match firstErr (fun i => errLn (p.ln i)) 0 p.lines.length with
  | some (i, e) => (1, i, e)
  | none => if tailP p = true then (2, 0, 7) else (0, 0, 0)
def planE (p : Plan) : Int := (checkP p).2.2

structure LnB (l : Line) : Prop where
  a : -1000 ≤ l.a ∧ l.a ≤ 1000
  b : -1000 ≤ l.b ∧ l.b ≤ 1000
  keep : -4000000000000 ≤ l.keep ∧ l.keep ≤ l.line
  line : l.line ≤ 4000000000000
theorem ln_zero {l : Line} (h : errLn l = 0) : LnB l := by
  unfold errLn at h
  split at h
  · cases h
  split at h
  · cases h
  rename_i h1 h2
  simp only [Bool.not_eq_true, Bool.or_eq_false_iff, oP_false] at h1
  exact ⟨h1.1, h1.2.1, by omega, by omega⟩
structure GoodP (p : Plan) : Prop where
  len : oP p.lines.length 1 8 = false
  ln : ∀ j, j < p.lines.length → errLn (p.ln j) = 0
  tail : tailP p = false
theorem GoodP.nums {p : Plan} (h : GoodP p) : (1 ≤ p.lines.length ∧ p.lines.length ≤ 8) ∧ (1 ≤ p.grav.lo ∧ p.grav.lo ≤ p.grav.hi ∧ p.grav.hi ≤ 200) ∧ (0 ≤ p.wait ∧ p.wait ≤ 100) ∧ (0 ≤ p.blind ∧ p.blind ≤ 300) := by
  have h1 := oP_false.1 h.len
  have h2 := h.tail
  simp only [tailP, Bool.or_eq_false_iff, oP_false] at h2
  omega
theorem firstErr_0 {f : Nat → Int} {n : Nat} (h : firstErr f 0 n = none) : ∀ j, j < n → f j = 0 := by
  intro j hj
  rcases firstErr_of (f := f) (n := n) n 0 (by omega) with ⟨_, h'⟩ | ⟨i, _, _, h', _⟩
  · exact h' j (by omega) hj
  rw [h] at h'; cases h'
theorem firstErr_e {f : Nat → Int} {n i : Nat} {e : Int} (h : firstErr f 0 n = some (i, e)) : e ≠ 0 ∧ e = f i := by
  rcases firstErr_of (f := f) (n := n) n 0 (by omega) with ⟨h', _⟩ | ⟨k, _, _, h', h2, _⟩
  · rw [h] at h'; cases h'
  rw [h] at h'; simp only [Option.some.injEq, Prod.mk.injEq] at h'; obtain ⟨rfl, rfl⟩ := h'; exact ⟨h2, rfl⟩
theorem good_of_plan {p : Plan} (h : planE p = 0) : GoodP p := by
  unfold planE checkP at h
  split at h
  · cases h
  rename_i h1
  split at h
  · rename_i i e he; exact absurd h (firstErr_e he).1
  rename_i hl
  split at h
  · cases h
  rename_i h2; exact ⟨by simpa using h1, firstErr_0 hl, by simpa using h2⟩
theorem checkP_long {p : Plan} (h : oP p.lines.length 1 8 = true) : checkP p = (1, 0, 3) := by unfold checkP; rw [if_pos h]
theorem checkP_ln {p : Plan} (h : oP p.lines.length 1 8 = false) {k e : Int} (hk0 : 0 ≤ k) (hk : k < p.lines.length) (hb : ∀ j : Nat, (j : Int) < k → errLn (p.ln j) = 0) (he : errLn (p.ln k.toNat) = e) (hn : e ≠ 0) : checkP p = (1, k, e) := by
  unfold checkP
  rw [if_neg (by rw [h]; simp), firstErr_hit (f := fun i => errLn (p.ln i)) (k := k.toNat) (by omega) (by rw [he]; exact hn) (fun j hj => hb j (by omega))]
  simp only [he]
  congr 2; omega
theorem checkP_tail {p : Plan} (h : oP p.lines.length 1 8 = false) (hb : ∀ j : Nat, j < p.lines.length → errLn (p.ln j) = 0) (ht : tailP p = true) : checkP p = (2, 0, 7) := by
  unfold checkP
  rw [if_neg (by rw [h]; simp), firstErr_none (f := fun i => errLn (p.ln i)) hb, if_pos ht]
theorem checkP_ok {p : Plan} (h : oP p.lines.length 1 8 = false) (hb : ∀ j : Nat, j < p.lines.length → errLn (p.ln j) = 0) (ht : tailP p = false) : checkP p = (0, 0, 0) := by
  unfold checkP
  rw [if_neg (by rw [h]; simp), firstErr_none (f := fun i => errLn (p.ln i)) hb, if_neg (by rw [ht]; simp)]

/-! ### falls -/
def offS (s : Span) : Bool := decide (s.hi < s.lo) || (oP s.lo (-2000000000) 2000000000 || oP s.hi (-2000000000) 2000000000)
theorem off_false {s : Span} : offS s = false ↔ -2000000000 ≤ s.lo ∧ s.lo ≤ s.hi ∧ s.hi ≤ 2000000000 := by
  simp only [offS, Bool.or_eq_false_iff, oP_false, decide_eq_false_iff_not]; omega
def addS (a b : Span) : Span := ⟨a.lo + b.lo, a.hi + b.hi⟩
def hullS (a b : Span) : Span := ⟨min a.lo b.lo, max a.hi b.hi⟩
def stepF (g : Span) (b : Box) : Box := ⟨b.at_, addS b.x b.vx, addS b.y b.vy, addS b.z b.vz, b.vx, b.vy, ⟨b.vz.lo - g.hi, b.vz.hi - g.lo⟩⟩
def runF (g : Span) (b : Box) : Nat → Box
  | 0 => b
  | n + 1 => stepF g (runF g b n)
def offB (b : Box) : Bool := offS b.x || (offS b.y || offS b.z)
/-- what is known of the area: it, and since when -/
def accF (f : Nat → Box) (t : Nat) (acc : Option (Span × Span × Nat)) : Option (Span × Span × Nat) := match acc with
  | some (x, y, a) => some (hullS x (f t).x, hullS y (f t).y, a)
  | none => if (f t).z.lo ≤ 0 then some ((f t).x, (f t).y, t) else none
def doneF (at_ : Int) (t : Nat) : Option (Span × Span × Nat) → FallR
  | some (x, y, a) => ⟨x, y, ⟨at_ + a, at_ + t⟩, 0⟩
  | none => ⟨spZ, spZ, ⟨0, at_ + t⟩, 0⟩
def fallN (f : Nat → Box) (at_ : Int) : Nat → Nat → Option (Span × Span × Nat) → FallR
  | 0, _, _ => ⟨spZ, spZ, spZ, 9⟩
  | k + 1, t, acc => if offB (f t) = true then ⟨spZ, spZ, spZ, 3⟩ else if (f t).z.hi ≤ 0 then doneF at_ t (accF f t acc) else fallN f at_ k (t + 1) (accF f t acc)
def fallT (g : Span) (b : Box) : FallR := fallN (runF g b) b.at_ 3000 1 none
def fallP (p : Plan) (b : Box) : FallR := if planE p ≠ 0 then ⟨spZ, spZ, spZ, planE p⟩ else if boxE b ≠ 0 then ⟨spZ, spZ, spZ, boxE b⟩ else fallT p.grav b

/-! ### lines -/
def mostL (l : Line) (x y : Span) : Int := max (l.a * x.lo) (l.a * x.hi) + max (l.b * y.lo) (l.b * y.hi)
def leastL (l : Line) (x y : Span) : Int := min (l.a * x.lo) (l.a * x.hi) + min (l.b * y.lo) (l.b * y.hi)
def areaE (p : Plan) (x y : Span) : Int := if planE p ≠ 0 then planE p else if (offS x || offS y) = true then 7 else 0
def sideL (p : Plan) (x y : Span) : List Int := if areaE p x y ≠ 0 then [] else p.lines.map fun l => l.line - mostL l x y
def keepsB (p : Plan) (x y : Span) : Bool := if areaE p x y ≠ 0 then false else !(p.lines.any fun l => decide (l.keep < mostL l x y))
def sureI (p : Plan) (x y : Span) : Int := if areaE p x y ≠ 0 then 0 else Tk.firstIdx (fun i => decide ((p.ln i).line < leastL (p.ln i) x y)) 0 p.lines.length
def sureB (p : Plan) (x y : Span) : Bool := if areaE p x y ≠ 0 then false else decide (0 ≤ sureI p x y)
/-- the first line beyond which a place is -/
def overI (p : Plan) (x y : Span) : Int := Tk.firstIdx (fun i => decide ((p.ln i).line < mostL (p.ln i) x y)) 0 p.lines.length

/-! ### looks -/
def taskE (p : Plan) (t : Task) : Int := if planE p ≠ 0 then planE p else (checkT t).2.2
def ticksE (p : Plan) (t : Task) (l : List Int) : Int := if taskE p t = 0 ∧ (l.any fun n => oP n 0 100000) = true then 7 else taskE p t
def usedN (p : Plan) (t : Task) (now : Int) : Nat → Int → Option (Box × Int)
  | 0, _ => none
  | k + 1, frm => if frm < 0 ∨ p.blind < now - frm then none else if (spareP t frm now).2 = 0 then
      (if (aheadP t (spareP t frm now).1 (now - frm + p.wait + 1)).2 = 0 then some ((aheadP t (spareP t frm now).1 (now - frm + p.wait + 1)).1, frm) else none)
    else usedN p t now k (frm - 1)
def usedT (p : Plan) (t : Task) (now : Int) : Option (Box × Int) := usedN p t now (p.blind + 1).toNat now
def usedE (p : Plan) (t : Task) (now : Int) : Int := if ticksE p t [now] ≠ 0 then ticksE p t [now] else if (usedT p t now).isSome = true then 0 else 9
def usedP (p : Plan) (t : Task) (now : Int) : Box × Int := if usedE p t now ≠ 0 then (boxZ, 0) else (usedT p t now).getD (boxZ, 0)
def lookF (p : Plan) (b : Box) (r : FallR) : Look := if r.e ≠ 0 then ⟨b, spZ, spZ, spZ, 3, -1⟩ else ⟨b, r.x, r.y, r.at_, if 0 ≤ overI p r.x r.y then 1 else 0, overI p r.x r.y⟩
def lookT (p : Plan) (t : Task) (now : Int) : Look := match usedT p t now with
  | none => ⟨boxZ, spZ, spZ, spZ, 2, -1⟩
  | some (b, _) => lookF p b (fallT p.grav b)
def lookZ : Look := ⟨boxZ, spZ, spZ, spZ, 0, 0⟩
def lookP (p : Plan) (t : Task) (now : Int) : Look × Int := if ticksE p t [now] ≠ 0 then (lookZ, ticksE p t [now]) else (lookT p t now, 0)
def decE (p : Plan) (t : Task) (a b : Int) : Int := if ticksE p t [a, b] ≠ 0 then ticksE p t [a, b] else if b < a then 7 else if 200 ≤ b - a then 3 else 0
def decN (p : Plan) (t : Task) : Nat → Int → End
  | 0, _ => ⟨-1, 0, -1⟩
  | k + 1, now => if (lookT p t now).why ≠ 0 then ⟨now, (lookT p t now).why, (lookT p t now).line⟩ else decN p t k (now + 1)
def decP (p : Plan) (t : Task) (a b : Int) : End × Int := if decE p t a b ≠ 0 then (⟨0, 0, 0⟩, decE p t a b) else (decN p t (b - a + 1).toNat a, 0)

def Look.cells (l : Look) : List Value := Box.cells l.box ++ [.int .i64 l.x.lo, .int .i64 l.x.hi, .int .i64 l.y.lo, .int .i64 l.y.hi, .int .i64 l.at_.lo, .int .i64 l.at_.hi, .int .i64 l.why, .int .i64 l.line]

/-! ### what a fall is -/
def hullF (f : Nat → Box) (a : Nat) : Nat → Span × Span
  | 0 => ((f a).x, (f a).y)
  | k + 1 => (hullS (hullF f a k).1 (f (a + k + 1)).x, hullS (hullF f a k).2 (f (a + k + 1)).y)
theorem hull_l {a b : Span} : InS a (hullS a b) := by unfold InS hullS; dsimp only; omega
theorem hull_r {a b : Span} : InS b (hullS a b) := by unfold InS hullS; dsimp only; omega
theorem InS.tr {a b c : Span} (h : InS a b) (k : InS b c) : InS a c := ⟨Int.le_trans k.1 h.1, Int.le_trans h.2 k.2⟩
theorem InS.rfl' {a : Span} : InS a a := ⟨Int.le_refl _, Int.le_refl _⟩
theorem hullF_in (f : Nat → Box) (a : Nat) : ∀ (k j : Nat), j ≤ k → InS (f (a + j)).x (hullF f a k).1 ∧ InS (f (a + j)).y (hullF f a k).2 := by
  intro k
  induction k with
  | zero => intro j hj; have : j = 0 := by omega
            subst this; exact ⟨InS.rfl', InS.rfl'⟩
  | succ k ih =>
    intro j hj
    by_cases e : j = k + 1
    · subst e; exact ⟨hull_r, hull_r⟩
    obtain ⟨h1, h2⟩ := ih j (by omega)
    exact ⟨InS.tr h1 hull_l, InS.tr h2 hull_l⟩

structure FallIs (f : Nat → Box) (at_ : Int) (r : FallR) (a b : Nat) : Prop where
  a1 : 1 ≤ a
  ab : a ≤ b
  off : ∀ j, 1 ≤ j → j ≤ b → offB (f j) = false
  above : ∀ j, 1 ≤ j → j < a → 0 < (f j).z.lo
  low : (f a).z.lo ≤ 0
  up : ∀ j, 1 ≤ j → j < b → 0 < (f j).z.hi
  down : (f b).z.hi ≤ 0
  at_ : r.at_ = ⟨at_ + a, at_ + b⟩
  x : r.x = (hullF f a (b - a)).1
  y : r.y = (hullF f a (b - a)).2

/-- what is known ahead of tick t -/
def AccIs (f : Nat → Box) (t : Nat) (acc : Option (Span × Span × Nat)) : Prop :=
  (acc = none ∧ ∀ j, 1 ≤ j → j < t → 0 < (f j).z.lo) ∨
    ∃ a, 1 ≤ a ∧ a < t ∧ (∀ j, 1 ≤ j → j < a → 0 < (f j).z.lo) ∧ (f a).z.lo ≤ 0 ∧ acc = some ((hullF f a (t - 1 - a)).1, (hullF f a (t - 1 - a)).2, a)
section
variable {f : Nat → Box} {at_ : Int}
theorem acc_step {t : Nat} {acc : Option (Span × Span × Nat)} (ht : 1 ≤ t) (h : AccIs f t acc) : AccIs f (t + 1) (accF f t acc) := by
  rcases h with ⟨rfl, h⟩ | ⟨a, h1, h2, h3, h4, rfl⟩
  · unfold accF
    dsimp only
    split
    · rename_i hz
      refine .inr ⟨t, ht, by omega, h, hz, ?_⟩
      rw [show t + 1 - 1 - t = 0 by omega]; rfl
    rename_i hz
    refine .inl ⟨rfl, fun j a b => ?_⟩
    by_cases e : j = t
    · rw [e]; omega
    exact h j a (by omega)
  refine .inr ⟨a, h1, by omega, h3, h4, ?_⟩
  have e : t + 1 - 1 - a = (t - 1 - a) + 1 := by omega
  have e2 : a + (t - 1 - a) + 1 = t := by omega
  unfold accF
  rw [e, hullF, e2]
theorem offB_z {b : Box} (h : offB b = false) : b.z.lo ≤ b.z.hi := by
  simp only [offB, Bool.or_eq_false_iff, off_false] at h; omega
theorem fall_is : ∀ (k t : Nat) (acc : Option (Span × Span × Nat)) (r : FallR), 1 ≤ t → AccIs f t acc → (∀ j, 1 ≤ j → j < t → offB (f j) = false) → (∀ j, 1 ≤ j → j < t → 0 < (f j).z.hi) → fallN f at_ k t acc = r → r.e = 0 → ∃ a b, FallIs f at_ r a b ∧ b < t + k := by
  intro k
  induction k with
  | zero => intro t acc r _ _ _ _ h he; unfold fallN at h; subst h; cases he
  | succ k ih =>
    intro t acc r ht ha hoff hup h he
    unfold fallN at h
    split at h
    · subst h; cases he
    rename_i ho
    have ho : offB (f t) = false := by simpa using ho
    have hoff' : ∀ j, 1 ≤ j → j < t + 1 → offB (f j) = false := fun j h1 h2 => by
      by_cases e : j = t
      · rw [e]; exact ho
      exact hoff j h1 (by omega)
    split at h
    · rename_i hz
      rcases acc_step ht ha with ⟨_, h2⟩ | ⟨a, h1, h2, h3, h4, h5⟩
      · have := h2 t ht (by omega); have := offB_z ho; omega
      rw [h5] at h
      subst h
      rw [show t + 1 - 1 - a = t - a by omega]
      exact ⟨a, t, ⟨h1, by omega, fun j h1 h2 => hoff' j h1 (by omega), h3, h4, hup, hz, rfl, rfl, rfl⟩, by omega⟩
    rename_i hz
    obtain ⟨a, b, h1, h2⟩ := ih (t + 1) _ r (by omega) (acc_step ht ha) hoff' (fun j h1 h2 => by
      by_cases e : j = t
      · rw [e]; omega
      exact hup j h1 (by omega)) h he
    exact ⟨a, b, h1, by omega⟩
theorem fallT_is {g : Span} {b : Box} (h : (fallT g b).e = 0) : ∃ m n, FallIs (runF g b) b.at_ (fallT g b) m n ∧ n ≤ 3000 := by
  obtain ⟨m, n, h1, h2⟩ := fall_is 3000 1 none _ (Nat.le_refl _) (.inl ⟨rfl, fun j a b => by omega⟩) (fun j a b => by omega) (fun j a b => by omega) rfl h
  exact ⟨m, n, h1, by omega⟩
end

/-! ### how great numbers are -/
theorem mul_abs {a b A B : Int} (hA : 0 ≤ A) (ha : -A ≤ a ∧ a ≤ A) (hb : -B ≤ b ∧ b ≤ B) : -(A * B) ≤ a * b ∧ a * b ≤ A * B := by
  have hB : 0 ≤ B := by omega
  rcases Int.le_total 0 a with h | h <;> rcases Int.le_total 0 b with k | k
  · have := mul_bnd (show 0 ≤ a ∧ a ≤ A by omega) (show 0 ≤ b ∧ b ≤ B by omega); omega
  · have := mul_bnd (show 0 ≤ a ∧ a ≤ A by omega) (show 0 ≤ -b ∧ -b ≤ B by omega); rw [Int.mul_neg] at this; omega
  · have := mul_bnd (show 0 ≤ -a ∧ -a ≤ A by omega) (show 0 ≤ b ∧ b ≤ B by omega); rw [Int.neg_mul] at this; omega
  have := mul_bnd (show 0 ≤ -a ∧ -a ≤ A by omega) (show 0 ≤ -b ∧ -b ≤ B by omega); rw [Int.neg_mul_neg] at this; omega
def FallB (n : Int) (b : Box) : Prop := (0 ≤ b.at_ ∧ b.at_ ≤ 100000) ∧ (-2000000000 ≤ b.x.lo ∧ b.x.lo ≤ b.x.hi ∧ b.x.hi ≤ 2000000000) ∧ (-2000000000 ≤ b.y.lo ∧ b.y.lo ≤ b.y.hi ∧ b.y.hi ≤ 2000000000) ∧ (-2000000000 ≤ b.z.lo ∧ b.z.lo ≤ b.z.hi ∧ b.z.hi ≤ 2000000000) ∧
  (-1000000 ≤ b.vx.lo ∧ b.vx.lo ≤ b.vx.hi ∧ b.vx.hi ≤ 1000000) ∧ (-1000000 ≤ b.vy.lo ∧ b.vy.lo ≤ b.vy.hi ∧ b.vy.hi ≤ 1000000) ∧ (-1000000 - 200 * n ≤ b.vz.lo ∧ b.vz.lo ≤ b.vz.hi ∧ b.vz.hi ≤ 1000000)
theorem fallB_0 {b : Box} (h : BoxOk b) : FallB 0 b := by
  obtain ⟨h0, h1, h2, h3, h4, h5, h6⟩ := h
  unfold okS at *
  unfold FallB; omega
theorem fallB_step {b : Box} {n : Int} {g : Span} (h : FallB n b) (hg : 1 ≤ g.lo ∧ g.lo ≤ g.hi ∧ g.hi ≤ 200) (ho : offB (stepF g b) = false) : FallB (n + 1) (stepF g b) := by
  simp only [offB, Bool.or_eq_false_iff, off_false] at ho
  unfold FallB at *
  simp only [stepF, addS] at *
  omega

end Go.De

/- Layer 6: what the statements say of falls (plain). -/
set_option linter.all false
namespace Go.De
open Go.Vc Go.Tk

/-! ### one that falls -/
structure P3 where
  x : Int
  y : Int
  z : Int
  vx : Int
  vy : Int
  vz : Int
structure InP (p : P3) (b : Box) : Prop where
  x : b.x.lo ≤ p.x ∧ p.x ≤ b.x.hi
  y : b.y.lo ≤ p.y ∧ p.y ≤ b.y.hi
  z : b.z.lo ≤ p.z ∧ p.z ≤ b.z.hi
  vx : b.vx.lo ≤ p.vx ∧ p.vx ≤ b.vx.hi
  vy : b.vy.lo ≤ p.vy ∧ p.vy ≤ b.vy.hi
  vz : b.vz.lo ≤ p.vz ∧ p.vz ≤ b.vz.hi
/-! ### wider boxes -/
theorem hullF_sub {f : Nat → Box} {a : Nat} {S T : Span} : ∀ k, (∀ j, j ≤ k → InS (f (a + j)).x S ∧ InS (f (a + j)).y T) → InS (hullF f a k).1 S ∧ InS (hullF f a k).2 T := by
  intro k
  induction k with
  | zero => intro h; exact h 0 (Nat.le_refl _)
  | succ k ih =>
    intro h
    obtain ⟨h1, h2⟩ := ih fun j hj => h j (by omega)
    obtain ⟨h3, h4⟩ := h (k + 1) (Nat.le_refl _)
    rw [← Nat.add_assoc] at h3 h4
    obtain ⟨a1, a2⟩ := h1; obtain ⟨b1, b2⟩ := h2; obtain ⟨c1, c2⟩ := h3; obtain ⟨d1, d2⟩ := h4
    constructor <;> (unfold InS; simp only [hullF, hullS]; omega)
/-! ### lines -/
theorem fidx_lt {p : Nat → Bool} {n : Nat} : Tk.firstIdx p 0 n < 0 ↔ ∀ i, i < n → p i = false := by
  rcases Tk.firstIdx_of (p := p) (n := n) n 0 (by omega) with ⟨h, h1⟩ | ⟨i, _, h2, h3, h4, _⟩
  · rw [h]; exact ⟨fun _ i hi => h1 i (by omega) hi, fun _ => by omega⟩
  rw [h3]; exact ⟨fun h => by omega, fun h => by rw [h i h2] at h4; cases h4⟩
end Go.De

/- Layer 5: how far a path can be; with greater numbers no box becomes less. -/
set_option linter.all false
namespace Go.Tk
open Go.Vc

/-! ### one tick more -/
theorem tri_succ {m : Int} (hm : 0 ≤ m) : ((m + 1) * (m + 1 + 1)).tdiv 2 = (m * (m + 1)).tdiv 2 + (m + 1) := by
  have h0 : 0 ≤ m * (m + 1) := Int.mul_nonneg hm (by omega)
  have e : (m + 1) * (m + 1 + 1) = m * (m + 1) + (m + 1) * 2 := by rw [Int.mul_add (m + 1) (m + 1) 1, Int.add_mul m 1 (m + 1)]; omega
  rw [e, Int.tdiv_eq_ediv_of_nonneg (by omega), Int.tdiv_eq_ediv_of_nonneg h0, Int.add_mul_ediv_right _ _ (by decide)]
theorem reach_succ {t : Task} (ha : 1 ≤ t.accel) (hs : 0 ≤ t.speed) {n : Int} (hn : 0 ≤ n) : reachT t (n + 1) = reachT t n + min (t.accel * (n + 1)) t.speed := by
  have hq0 : 0 ≤ t.speed.tdiv t.accel := Int.tdiv_nonneg hs (by omega)
  have hqe : t.speed.tdiv t.accel = t.speed / t.accel := Int.tdiv_eq_ediv_of_nonneg hs
  have hd := Int.mul_ediv_add_emod t.speed t.accel
  have hm0 := Int.emod_nonneg t.speed (show t.accel ≠ 0 by omega)
  have hm1 := Int.emod_lt_of_pos t.speed (show 0 < t.accel by omega)
  by_cases h : n + 1 ≤ t.speed.tdiv t.accel
  · have e1 : capT t (n + 1) = n + 1 := by unfold capT; omega
    have e2 : capT t n = n := by unfold capT; omega
    rw [reachT, reachT, e1, e2, tri_succ hn, Int.mul_add, Int.sub_self, Int.sub_self, Int.zero_mul]
    have h1 := Int.mul_le_mul_of_nonneg_left h (show 0 ≤ t.accel by omega)
    rw [hqe] at h1
    omega
  have e1 : capT t (n + 1) = t.speed.tdiv t.accel := by unfold capT; omega
  have e2 : capT t n = t.speed.tdiv t.accel := by unfold capT; omega
  have h1 := Int.mul_le_mul_of_nonneg_left (show t.speed / t.accel + 1 ≤ n + 1 by omega) (show 0 ≤ t.accel by omega)
  rw [Int.mul_add, Int.mul_one] at h1
  rw [reachT, reachT, e1, e2]
  have e3 : (n + 1 - t.speed.tdiv t.accel) * t.speed = (n - t.speed.tdiv t.accel) * t.speed + t.speed := by
    rw [show n + 1 - t.speed.tdiv t.accel = (n - t.speed.tdiv t.accel) + 1 by omega, Int.add_mul, Int.one_mul]
  rw [e3]
  omega
theorem reach_zero {t : Task} (hs : 0 ≤ t.speed) (ha : 0 ≤ t.accel) : reachT t 0 = 0 := by
  have hq0 : 0 ≤ t.speed.tdiv t.accel := Int.tdiv_nonneg hs ha
  have e : capT t 0 = 0 := by unfold capT; omega
  rw [reachT, e]; simp
theorem reach_mono {t t' : Task} (ha : 1 ≤ t.accel) (hs : 0 ≤ t.speed) (ha' : t.accel ≤ t'.accel) (hs' : t.speed ≤ t'.speed) {n : Int} (hn : 0 ≤ n) : reachT t n ≤ reachT t' n := by
  obtain ⟨k, rfl⟩ := Int.eq_ofNat_of_zero_le hn
  induction k with
  | zero => rw [show ((0 : Nat) : Int) = 0 from rfl, reach_zero hs (by omega), reach_zero (by omega) (by omega)]; exact Int.le_refl _
  | succ k ih =>
    have ih := ih (by omega)
    rw [show ((k + 1 : Nat) : Int) = (k : Int) + 1 by omega, reach_succ ha hs (by omega), reach_succ (by omega) (by omega) (by omega)]
    have := Int.mul_le_mul_of_nonneg_right ha' (show 0 ≤ (k : Int) + 1 by omega)
    omega

/-! ### greater numbers -/
structure LooseT (t t' : Task) : Prop where
  frm : t'.frm = t.frm
  speed : t.speed ≤ t'.speed ∧ t'.speed ≤ 1000000
  accel : t.accel ≤ t'.accel ∧ t'.accel ≤ 1000000
  plots : t'.plots = t.plots
  len : t'.trackers.length = t.trackers.length
  tr : ∀ j, j < t.trackers.length → (t'.tr j).name = (t.tr j).name ∧ (t'.tr j).x = (t.tr j).x ∧ (t'.tr j).y = (t.tr j).y ∧ ((t.tr j).error ≤ (t'.tr j).error ∧ (t'.tr j).error ≤ 10000000) ∧ ((t.tr j).grow ≤ (t'.tr j).grow ∧ (t'.tr j).grow ≤ 10000) ∧ (t'.tr j).late = (t.tr j).late
section
variable {t t' : Task}
theorem LooseT.pl (h : LooseT t t') : Task.pl t' = Task.pl t := by funext i; rw [Task.pl, Task.pl, h.plots]
theorem any_congr {p q : Nat → Bool} {n : Nat} (h : ∀ i, i < n → p i = q i) : anyIdx p n = anyIdx q n := by
  unfold anyIdx
  induction n with
  | zero => rfl
  | succ n ih => rw [List.range_succ, List.any_append, List.any_append, ih (fun i hi => h i (by omega))]; simp [h n (by omega)]
theorem LooseT.good (h : LooseT t t') (hG : GoodT t) : GoodT t' := by
  obtain ⟨_, hs, ha⟩ := hG.nums
  refine ⟨⟨by rw [h.len]; exact hG.h1, by rw [h.plots]; exact hG.h2, by rw [h.frm]; exact hG.h3, oP_false.2 ⟨by have := h.speed; omega, h.speed.2⟩, oP_false.2 ⟨by have := h.accel; omega, h.accel.2⟩⟩, fun j hj => ?_, fun j hj => ?_⟩
  · rw [h.len] at hj
    obtain ⟨e1, e2, e3, e4, e5, e6⟩ := h.tr j hj
    obtain ⟨h1, h2, h3⟩ := errTr_zero (hG.tr j hj)
    refine errTr_ok (by rw [e1]; exact h1) ?_ ?_
    · rw [← h2]; unfold dupB
      exact any_congr fun i hi => by rw [e1, (h.tr i (by omega)).1]
    simp only [trOut, Bool.or_eq_false_iff] at h3 ⊢
    obtain ⟨⟨⟨⟨a1, a2⟩, a3⟩, a4⟩, a5⟩ := h3
    have b3 := oP_in a3
    have b4 := oP_in a4
    exact ⟨⟨⟨⟨by rw [e2]; exact a1, by rw [e3]; exact a2⟩, oP_false.2 (by omega)⟩, oP_false.2 (by omega)⟩, by rw [e6]; exact a5⟩
  rw [h.plots] at hj
  obtain ⟨h1, h2, h3⟩ := errPl_zero (hG.pl j hj)
  refine errPl_ok (by rw [h.pl, h.len]; exact h1) (by rw [h.pl]; simpa only [plOut, h.frm] using h2) ?_
  rw [← h3, h.pl]; unfold seenB; rw [h.pl]
theorem LooseT.of (h : LooseT t t') (hG : GoodT t) {j : Nat} (hj : j < t.plots.length) : t'.trOf j = t'.tr (t.pl j).tracker.toNat ∧ (t.pl j).tracker.toNat < t.trackers.length := by
  have p := hG.plot hj
  have := p.tr0; have := p.tr1
  exact ⟨by rw [Task.trOf, h.pl], by omega⟩
theorem LooseT.far (h : LooseT t t') (hG : GoodT t) {j : Nat} (hj : j < t.plots.length) : farT t' j = farT t j := by
  obtain ⟨e, hb⟩ := h.of hG hj
  obtain ⟨_, e2, e3, _⟩ := h.tr _ hb
  unfold farT
  rw [e, e2, e3, h.pl]; rfl
theorem LooseT.slack (h : LooseT t t') (hG : GoodT t) {j : Nat} (hj : j < t.plots.length) (u : Int) : slackT t u j ≤ slackT t' u j := by
  obtain ⟨e, hb⟩ := h.of hG hj
  obtain ⟨_, _, _, e4, e5, _⟩ := h.tr _ hb
  have hk := km_bnd hG hj
  have h1 := Int.mul_le_mul_of_nonneg_right e5.1 hk.1
  have h2 := Int.mul_le_mul_of_nonneg_right h.speed.1 (show 0 ≤ apartI (t.pl j).tick u by unfold apartI; omega)
  unfold slackT widthT
  rw [h.far hG hj, e, h.pl]
  show (t.tr (t.pl j).tracker.toNat).error + (t.tr (t.pl j).tracker.toNat).grow * _ + _ ≤ _
  omega
theorem LooseT.known (h : LooseT t t') (hG : GoodT t) (now : Int) {j : Nat} (hj : j < t.plots.length) : knownB t' now j = knownB t now j := by
  obtain ⟨e, hb⟩ := h.of hG hj
  obtain ⟨_, _, _, _, _, e6⟩ := h.tr _ hb
  rw [knownB, knownB, e, e6, h.pl]; rfl
theorem LooseT.binds (h : LooseT t t') (hG : GoodT t) (now : Int) (want : Int → Bool) : Binds t (byT t now want) t' (byT t' now want) := by
  obtain ⟨_, hs, ha⟩ := hG.nums
  refine ⟨h.frm.symm, h.speed.1, ⟨by omega, h.accel.1⟩, fun n hn => reach_mono (by omega) (by omega) h.accel.1 h.speed.1 hn, fun i hi => ?_⟩
  obtain ⟨h0, h1⟩ := byT_bnd i hi
  obtain ⟨j, rfl⟩ := Int.eq_ofNat_of_zero_le h0
  obtain ⟨hj, hk, hw⟩ := mem_byT.1 hi
  rw [h.plots] at hj
  rw [h.known hG now hj] at hk
  rw [h.pl] at hw
  refine ⟨j, mem_byT.2 ⟨hj, hk, hw⟩, fun k u => ?_⟩
  have := h.slack hG hj u
  simp only [plotS, aroundS, InS, Int.toNat_natCast, h.pl]
  omega
theorem boxT_at {ps : List Int} {u : Int} {b : Box} (h : boxT t ps u = some b) : b.at_ = u := by
  obtain ⟨_, _, _, _, _, _, rfl⟩ := boxT_parts h; rfl
theorem joinB_mono {a b c d : Box} (h : InB a c) (h' : InB b d) : InB (joinB a b) (joinB c d) := by
  obtain ⟨h0, h1, h2, h3, h4, h5, h6⟩ := h
  obtain ⟨_, g1, g2, g3, g4, g5, g6⟩ := h'
  refine ⟨h0, ?_, ?_, ?_, ?_, ?_, ?_⟩ <;> (simp only [InS, joinB, joinS] at *; omega)
theorem joinB_right {a b c : Box} (h : InB a c) (hat : b.at_ = a.at_) : InB a (joinB b c) := by
  obtain ⟨h0, h1, h2, h3, h4, h5, h6⟩ := h
  refine ⟨hat.symm, ?_, ?_, ?_, ?_, ?_, ?_⟩ <;> (simp only [InS, joinB, joinS] at *; omega)
theorem others_mono {u now : Int} (hb : ∀ want, ∀ b, boxT t (byT t now want) u = some b → ∃ b', boxT t' (byT t' now want) u = some b' ∧ InB b b') : ∀ n : Nat,
    (∀ s, foldB (othersV t' u now n) = some s → s.at_ = u) ∧ (∀ s, foldB (othersV t u now n) = some s → s.at_ = u ∧ ∃ s', foldB (othersV t' u now n) = some s' ∧ InB s s') := by
  intro n
  induction n with
  | zero => exact ⟨fun s h => by simp [othersV, foldB] at h, fun s h => by simp [othersV, foldB] at h⟩
  | succ n ih =>
    obtain ⟨ih1, ih2⟩ := ih
    have e : ((n : Int) + 1).toNat = n + 1 := by omega
    have e2 : ((n : Int)).toNat = n := by omega
    have yes : ∀ {t0 : Task} {b : Box}, boxT t0 (byT t0 now fun x => decide (x ≠ (n : Int))) u = some b → foldB (othersV t0 u now (n + 1)) = addB (foldB (othersV t0 u now n)) b := by
      intro t0 b h
      have := foldB_yes (t := t0) (u := u) (now := now) (k := (n : Int)) (by omega) h
      rwa [e, e2] at this
    have no : ∀ {t0 : Task}, boxT t0 (byT t0 now fun x => decide (x ≠ (n : Int))) u = none → foldB (othersV t0 u now (n + 1)) = foldB (othersV t0 u now n) := by
      intro t0 h
      have := foldB_no (t := t0) (u := u) (now := now) (k := (n : Int)) (by omega) h
      rwa [e, e2] at this
    constructor
    · intro s hs
      cases h : boxT t' (byT t' now fun x => decide (x ≠ (n : Int))) u with
      | none => rw [no h] at hs; exact ih1 s hs
      | some b =>
        rw [yes h] at hs
        cases hf : foldB (othersV t' u now n) with
        | none => rw [hf] at hs; cases hs; exact boxT_at h
        | some x => rw [hf] at hs; cases hs; exact ih1 x hf
    intro s hs
    cases h : boxT t (byT t now fun x => decide (x ≠ (n : Int))) u with
    | some b =>
      obtain ⟨b', e', i⟩ := hb _ b h
      rw [yes h] at hs
      rw [yes e']
      cases hf : foldB (othersV t u now n) with
      | none =>
        rw [hf] at hs
        cases hs
        refine ⟨boxT_at h, ?_⟩
        cases hf' : foldB (othersV t' u now n) with
        | none => exact ⟨_, rfl, i⟩
        | some x' => exact ⟨_, rfl, joinB_right i (by rw [ih1 x' hf', boxT_at h])⟩
      | some x =>
        rw [hf] at hs
        cases hs
        obtain ⟨hx, x', ex, ix⟩ := ih2 x hf
        rw [ex]
        exact ⟨hx, _, rfl, joinB_mono ix i⟩
    | none =>
      rw [no h] at hs
      obtain ⟨hx, x', ex, ix⟩ := ih2 s hs
      refine ⟨hx, ?_⟩
      cases h' : boxT t' (byT t' now fun x => decide (x ≠ (n : Int))) u with
      | none => rw [no h']; exact ⟨x', ex, ix⟩
      | some b' => rw [yes h', ex]; exact ⟨_, rfl, joinB_in ix⟩
theorem LooseT.spare (h : LooseT t t') (hG : GoodT t) {u now : Int} {s : Box} (hs : spareT t u now = some s) : ∃ s', spareT t' u now = some s' ∧ InB s s' := by
  unfold spareT at hs ⊢
  rw [h.len]
  split at hs
  · rename_i h0
    rw [if_pos h0]
    exact box_mono (h.binds hG now _) hs
  rename_i h0
  rw [if_neg h0]
  exact ((others_mono (t := t) (t' := t') (u := u) (now := now) (fun want b hb => box_mono (h.binds hG now want) hb) t.trackers.length).2 s hs).2
end

/-! ### the trackers, one by one -/
end Go.Tk

/- Layer 5: paths. -/
set_option linter.all false
namespace Go.Tk
open Go.Vc

structure PathM where
  push : Nat → List Int
  wrong : List Int
def part127 (a x : Int) : Int := (a * max (-127) x).tdiv 127
def accT (t : Task) (p : PathM) (k i : Nat) : Int := if (p.push k).length = 0 then 0 else part127 t.accel ((p.push k).getD (i % (p.push k).length) 0)
def velT (t : Task) (p : PathM) (k : Nat) : Nat → Int
  | 0 => 0
  | n + 1 => max (-t.speed) (min t.speed (velT t p k n + accT t p k n))
def posT (t : Task) (p : PathM) (k : Nat) : Nat → Int
  | 0 => 0
  | n + 1 => posT t p k n + velT t p k (n + 1)
def I8 (l : List Int) : Prop := ∀ x ∈ l, -128 ≤ x ∧ x ≤ 127
structure PathM.ok (p : PathM) : Prop where
  push : ∀ k, I8 (p.push k)
  wrong : I8 p.wrong
def SmallP (t : Task) (p : PathM) (n : Nat) : Prop := ∀ m, m ≤ n → ∀ k, k < 3 → -2000000000 ≤ posT t p k m ∧ posT t p k m ≤ 2000000000

theorem I8.getD {l : List Int} (h : I8 l) (i : Nat) : -128 ≤ l.getD i 0 ∧ l.getD i 0 ≤ 127 := by
  by_cases hi : i < l.length
  · exact h _ (getD_mem hi)
  rw [List.getD_eq_getElem?_getD, List.getElem?_eq_none (by omega)]; decide
section
variable {t : Task} {p : PathM}
/-! ### by ticks -/
/-! ### what a path's plots leave -/
def InI3 (s : Span) (x : Int) : Prop := s.lo ≤ x ∧ x ≤ s.hi
theorem InI3.none {s : Span} {x : Int} (h : InI3 s x) : s.none = false := by
  simp only [Span.none, decide_eq_false_iff_not]; unfold InI3 at h; omega
variable {ps : List Int}
structure HasB (b : Box) (f g : Nat → Int) : Prop where
  x : InI3 b.x (f 0)
  y : InI3 b.y (f 1)
  z : InI3 b.z (f 2)
  vx : InI3 b.vx (g 0)
  vy : InI3 b.vy (g 1)
  vz : InI3 b.vz (g 2)
theorem HasB.mono {a b : Box} {f g : Nat → Int} (h : HasB a f g) (i : InB a b) : HasB b f g := by
  obtain ⟨h1, h2, h3, h4, h5, h6⟩ := h
  obtain ⟨_, i1, i2, i3, i4, i5, i6⟩ := i
  refine ⟨?_, ?_, ?_, ?_, ?_, ?_⟩ <;> (simp only [InI3, InS] at *; omega)
/-! ### a task in which a path is told -/
def wrongT (t : Task) (p : PathM) (i k : Nat) : Int := if p.wrong.length = 0 then 0 else part127 (t.trOf i).error (p.wrong.getD ((3 * i + k) % p.wrong.length) 0)
variable {but : Int}
end
end Go.Tk

/- Layer 5: paths in memory. -/
set_option linter.all false
namespace Go.Vc
section
variable {X : Cx} {ρ : PEnv} {ds : List Deferred} {H : Heap} {Q : Post} {o : Oper}
end
end Go.Vc
namespace Go.Tk
open Go.Vc

def upd (f : Nat → Int) (k : Nat) (x : Int) : Nat → Int := fun j => if j = k then x else f j
abbrev vec3 (f : Nat → Int) : Array Value := #[.int .i64 (f 0), .int .i64 (f 1), .int .i64 (f 2)]
abbrev pathV (pa : Nat → Option Addr) (pn pc : Nat → Nat) (wv : Value) : Array Value := #[.slice (pa 0) (pn 0) (pc 0), .slice (pa 1) (pn 1) (pc 1), .slice (pa 2) (pn 2) (pc 2), wv]
theorem upd_same {f : Nat → Int} {k : Nat} {x : Int} : upd f k x k = x := if_pos rfl
theorem upd_ne {f : Nat → Int} {k j : Nat} {x : Int} (h : j ≠ k) : upd f k x j = f j := if_neg h

structure PathR (w : World) (v : Value) (p : PathM) : Prop where
  ok : p.ok
  ex : ∃ (pa : Nat → Option Addr) (pc : Nat → Nat) (wa : Option Addr) (wc : Nat), v = .agg (pathV pa (fun k => (p.push k).length) pc (.slice wa p.wrong.length wc)) ∧
    (∀ k, k < 3 → SliceR w 1 (.slice (pa k) (p.push k).length (pc k)) ((p.push k).map fun n => [Value.int .i8 n])) ∧ SliceR w 1 (.slice wa p.wrong.length wc) (p.wrong.map fun n => [Value.int .i8 n]) ∧
    (∀ k, k < 3 → ((p.push k).length : Int) ≤ 9223372036854775807) ∧ ((p.wrong.length : Nat) : Int) ≤ 9223372036854775807
theorem PathR.good {w0 w : World} {H : Heap} {v : Value} {p : PathM} (h : PathR w0 v p) (hg : Vc.Good w0 [] H w) : PathR w v p := by
  obtain ⟨pa, pc, wa, wc, e, h1, h2, h3, h4⟩ := h.ex
  exact ⟨h.ok, pa, pc, wa, wc, e, fun k hk => (h1 k hk).good hg, h2.good hg, h3, h4⟩

/-! ### Run -/
structure RunI (t : Task) (p : PathM) (i k : Nat) (fv fa : Nat → Int) : Prop where
  v : ∀ j, j < 3 → fv j = velT t p j (if j < k then i + 1 else i)
  a : ∀ j, j < 3 → fa j = posT t p j (if j < k then i + 1 else i)
  b : ∀ j, j < 3 → -2000000000 ≤ fa j ∧ fa j ≤ 2000000000
section
variable {t : Task} {p : PathM} {i k : Nat} {fv fa : Nat → Int}
theorem RunI.zero : RunI t p 0 0 (fun _ => 0) (fun _ => 0) := ⟨fun _ _ => rfl, fun _ _ => rfl, fun _ _ => by omega⟩
theorem RunI.step (h : RunI t p i k fv fa) (hk : k < 3) {v' a' : Int} (hv : v' = max (-t.speed) (min t.speed (fv k + accT t p k i))) (ha : a' = fa k + v') (hb : -2000000000 ≤ a' ∧ a' ≤ 2000000000) : RunI t p i (k + 1) (upd fv k v') (upd fa k a') := by
  have h1 := h.v k hk
  have h2 := h.a k hk
  rw [if_neg (Nat.lt_irrefl k)] at h1 h2
  have e1 : v' = velT t p k (i + 1) := by rw [hv, h1]; rfl
  have e2 : a' = posT t p k (i + 1) := by rw [ha, h2, e1]; rfl
  refine ⟨fun j hj => ?_, fun j hj => ?_, fun j hj => ?_⟩
  · by_cases e : j = k
    · subst e; rw [upd_same, if_pos (by omega), e1]
    rw [upd_ne e, h.v j hj]
    congr 1
    by_cases hl : j < k
    · rw [if_pos hl, if_pos (by omega)]
    rw [if_neg hl, if_neg (by omega)]
  · by_cases e : j = k
    · subst e; rw [upd_same, if_pos (by omega), e2]
    rw [upd_ne e, h.a j hj]
    congr 1
    by_cases hl : j < k
    · rw [if_pos hl, if_pos (by omega)]
    rw [if_neg hl, if_neg (by omega)]
  by_cases e : j = k
  · subst e; rw [upd_same]; exact hb
  rw [upd_ne e]; exact h.b j hj
theorem RunI.next (h : RunI t p i 3 fv fa) : RunI t p (i + 1) 0 fv fa :=
  ⟨fun j hj => by rw [h.v j hj, if_pos hj]; rfl, fun j hj => by rw [h.a j hj, if_pos hj]; rfl, h.b⟩
theorem SmallP.zero : SmallP t p 0 := fun m hm k _ => by
  have : m = 0 := by omega
  subst this; simp [posT]
theorem SmallP.next (h : SmallP t p i) (h2 : RunI t p (i + 1) 0 fv fa) : SmallP t p (i + 1) := fun m hm k hk => by
  by_cases e : m = i + 1
  · subst e
    have := h2.b k hk
    have h3 := h2.a k hk
    rw [if_neg (by omega)] at h3
    rwa [h3] at this
  exact h m (by omega) k hk
/-! ### Spot -/
/-! ### Follow -/
structure WrI (t : Task) (p : PathM) (i k : Nat) (f : Nat → Int) : Prop where
  lt : ∀ j, j < k → j < 3 → f j = wrongT t p i j
  ge : ∀ j, k ≤ j → j < 3 → f j = 0
theorem WrI.zero : WrI t p i 0 (fun _ => 0) := ⟨fun j hj => by omega, fun _ _ _ => rfl⟩
theorem WrI.step {f : Nat → Int} (h : WrI t p i k f) (hk : k < 3) (hw : 0 < p.wrong.length) {m : Nat} {x : Int} (hm : m = (3 * i + k) % p.wrong.length) (hx : x = ((t.trOf i).error * max (-127) (p.wrong.getD m 0)).tdiv 127) : WrI t p i (k + 1) (upd f k x) := by
  have e : x = wrongT t p i k := by rw [hx, wrongT, if_neg (by omega), hm]; rfl
  refine ⟨fun j hj h3 => ?_, fun j hj h3 => ?_⟩
  · by_cases ej : j = k
    · subst ej; rw [upd_same, e]
    rw [upd_ne ej]; exact h.lt j (by omega) h3
  rw [upd_ne (by omega)]; exact h.ge j (by omega) h3
theorem WrI.end {f : Nat → Int} (h : WrI t p i k f) (he : 3 ≤ k ∨ ¬ 0 < p.wrong.length) {j : Nat} (hj : j < 3) : f j = wrongT t p i j := by
  by_cases hl : j < k
  · exact h.lt j hl hj
  rcases he with he | he
  · omega
  rw [h.ge j (by omega) hj, wrongT, if_pos (by omega)]
end
end Go.Tk
namespace Go.Tk
open Go.Vc
theorem SliceR.at {w : World} {size n c : Nat} {a : Option Addr} {els : List (List Value)} (h : SliceR w size (.slice a n c) els) {i : Nat} {e : List Value} (hi : els[i]? = some e) : ∃ b, a = some b ∧ cellsAt w (b.add (i * size)) e := by
  obtain ⟨a', c', hv, _, hc⟩ := h.ex
  injection hv with h1 _ _
  subst h1
  exact hc i e hi
end Go.Tk
namespace Go.Tk
open Go.Vc
section
variable {t : Task} {p : PathM}
end
end Go.Tk
namespace Go.Vc
theorem HSub.left : ∀ A B : Heap, HSub A (A ++ B)
  | [], _ => .nil _
  | _ :: A, B => .take .head (HSub.left A B)
end Go.Vc
namespace Go.Tk
open Go.Vc
end Go.Tk

/- Layer 5: what the statements on paths ask. -/
set_option linter.all false
namespace Go.Tk
open Go.Vc
section
variable {t : Task} {p : PathM} {but : Int}
/-! ### boxes ahead -/
theorem aheadN_room : ∀ (n : Nat) (a v : Span) (r : Span × Span), aheadN t n a v = some r → InS a (room0 2000000000) → InS v (room0 t.speed) → (InS r.1 (room0 2000000000) ∧ r.1.none = false) ∧ InS r.2 (room0 t.speed) ∧ r.2.none = false := by
  intro n
  induction n with
  | zero =>
    intro a v r h h1 h2
    simp only [aheadN] at h
    split at h
    · cases h
    rename_i hn
    cases h
    simp only [Bool.or_eq_true, not_or, Bool.not_eq_true] at hn
    exact ⟨⟨h1, hn.1⟩, h2, hn.2⟩
  | succ n ih =>
    intro a v r h h1 h2
    simp only [aheadN] at h
    split at h
    · cases h
    refine ih _ _ _ h ?_ ?_
    · simp only [InS, stepP, common, room0]; omega
    simp only [InS, stepV, common, room0]; omega
theorem aheadB_parts {b c : Box} {n : Int} (h : aheadB t b n = some c) : aheadS t n b.x b.vx = some (c.x, c.vx) ∧ aheadS t n b.y b.vy = some (c.y, c.vy) ∧ aheadS t n b.z b.vz = some (c.z, c.vz) ∧ c.at_ = b.at_ + n := by
  unfold aheadB at h
  cases h0 : aheadS t n b.x b.vx with
  | none => rw [h0] at h; cases h
  | some a0 =>
    rw [h0, Option.bind_some] at h
    cases h1 : aheadS t n b.y b.vy with
    | none => rw [h1] at h; cases h
    | some a1 =>
      rw [h1, Option.bind_some] at h
      cases h2 : aheadS t n b.z b.vz with
      | none => rw [h2] at h; cases h
      | some a2 => rw [h2, Option.bind_some] at h; cases h; exact ⟨rfl, rfl, rfl, rfl⟩
theorem aheadS_room {n : Int} {a v : Span} {r : Span × Span} (h : aheadS t n a v = some r) (ha : okS 2000000000 a) : (InS r.1 (room0 2000000000) ∧ r.1.none = false) ∧ InS r.2 (room0 t.speed) ∧ r.2.none = false := by
  refine aheadN_room _ _ _ _ h ?_ ?_
  · unfold okS at ha; simp only [InS, room0]; omega
  simp only [InS, common, room0]; omega
theorem aheadB_ok (hG : GoodT t) {b c : Box} {n : Int} (hb : BoxOk b) (hat : 0 ≤ b.at_ + n ∧ b.at_ + n ≤ 100000) (h : aheadB t b n = some c) : BoxOk c := by
  obtain ⟨_, hs, _⟩ := hG.nums
  obtain ⟨h0, h1, h2, h3⟩ := aheadB_parts h
  obtain ⟨_, b0, b1, b2, _⟩ := hb
  obtain ⟨⟨a1, a2⟩, a3, a4⟩ := aheadS_room h0 b0
  obtain ⟨⟨c1, c2⟩, c3, c4⟩ := aheadS_room h1 b1
  obtain ⟨⟨d1, d2⟩, d3, d4⟩ := aheadS_room h2 b2
  refine ⟨by rw [h3]; exact hat, ?_, ?_, ?_, ?_, ?_, ?_⟩ <;> (simp only [okS, InS, room0, Span.none, decide_eq_false_iff_not] at *; omega)
end
end Go.Tk

/- Layer 6: what the statements say of looks (plain). -/
set_option linter.all false
namespace Go.De
open Go.Vc Go.Tk

theorem task_zero {p : Plan} {t : Task} (h : taskE p t = 0) : GoodP p ∧ GoodT t := by
  unfold taskE at h
  split at h
  · contradiction
  exact ⟨good_of_plan (by omega), good_of_check h⟩
theorem ticks_zero {p : Plan} {t : Task} {l : List Int} (h : ticksE p t l = 0) : GoodP p ∧ GoodT t ∧ ∀ n ∈ l, 0 ≤ n ∧ n ≤ 100000 := by
  unfold ticksE at h
  split at h
  · cases h
  rename_i h2
  obtain ⟨h3, h4⟩ := task_zero h
  refine ⟨h3, h4, fun n hn => ?_⟩
  have : oP n 0 100000 = false := by
    cases hh : oP n 0 100000
    · rfl
    exact absurd ⟨h, List.any_eq_true.2 ⟨n, hn, hh⟩⟩ h2
  exact oP_false.1 this
/-! ### the box that is used -/
structure UsedIs (p : Plan) (t : Task) (now : Int) (b : Box) (frm : Int) : Prop where
  spare : (spareP t frm now).2 = 0
  ahead : aheadP t (spareP t frm now).1 (now - frm + p.wait + 1) = (b, 0)
  le : frm ≤ now
  ge : now - p.blind ≤ frm ∧ 0 ≤ frm
  next : frm < now → (spareP t (frm + 1) now).2 ≠ 0
theorem used_is {p : Plan} {t : Task} {now : Int} : ∀ (k : Nat) (f : Int) (b : Box) (frm : Int), f ≤ now → (f < now → (spareP t (f + 1) now).2 ≠ 0) → usedN p t now k f = some (b, frm) → UsedIs p t now b frm := by
  intro k
  induction k with
  | zero => intro f b frm _ _ h; cases h
  | succ k ih =>
    intro f b frm hf hn h
    unfold usedN at h
    split at h
    · cases h
    rename_i h1
    split at h
    · rename_i h2
      split at h
      · rename_i h3
        simp only [Option.some.injEq, Prod.mk.injEq] at h
        obtain ⟨rfl, rfl⟩ := h
        exact ⟨h2, Prod.ext rfl h3, hf, by omega, hn⟩
      cases h
    rename_i h2
    exact ih (f - 1) b frm (by omega) (fun _ => by rw [show f - 1 + 1 = f by omega]; exact h2) h
theorem usedT_is {p : Plan} {t : Task} {now : Int} {b : Box} {frm : Int} (h : usedT p t now = some (b, frm)) : UsedIs p t now b frm := used_is _ _ _ _ (Int.le_refl _) (fun h => by omega) h
theorem spare_box {t : Task} {u now : Int} (h : (spareP t u now).2 = 0) : GoodT t ∧ (0 ≤ u ∧ u ≤ 100000) := by
  obtain ⟨h1, _⟩ := spareP_ok h
  obtain ⟨hG, hn⟩ := asked_zero h1
  exact ⟨hG, hn u (.head _)⟩
theorem ahead_ok {t : Task} {b c : Box} {n : Int} (h : aheadP t b n = (c, 0)) : aheadE t b n = 0 ∧ aheadB t b n = some c := by
  unfold aheadP at h
  split at h
  · rename_i he; exact absurd (by simpa using congrArg Prod.snd h) he
  rename_i he
  refine ⟨by omega, ?_⟩
  cases hb : aheadB t b n with
  | none => rw [hb] at h; simp [foundP] at h
  | some d => rw [hb] at h; simp [foundP] at h; rw [h]
theorem aheadE_zero {t : Task} {b : Box} {n : Int} (h : aheadE t b n = 0) : askedT t [] = 0 ∧ BoxOk b ∧ (0 ≤ n ∧ n ≤ 600) ∧ (0 ≤ b.at_ + n ∧ b.at_ + n ≤ 100000) := by
  unfold aheadE at h
  split at h
  · contradiction
  rename_i h1
  split at h
  · cases h
  rename_i h2
  split at h
  · cases h
  rename_i h3
  simp only [not_or, Bool.not_eq_true, oP_false] at h3
  exact ⟨by omega, Decidable.not_not.1 h2, h3.1, h3.2⟩
theorem used_ok {p : Plan} {t : Task} {now : Int} {b : Box} {frm : Int} (h : UsedIs p t now b frm) : BoxOk b := by
  obtain ⟨h1, h2⟩ := ahead_ok h.ahead
  obtain ⟨h3, h4, h5, h6⟩ := aheadE_zero h1
  exact aheadB_ok (spare_box h.spare).1 h4 h6 h2

/-! ### more room -/
structure LookIs (p : Plan) (t : Task) (now : Int) (l : Look) : Prop where
  used : ∃ b frm, usedT p t now = some (b, frm) ∧ l.box = b
  e : (fallT p.grav l.box).e = 0
  x : l.x = (fallT p.grav l.box).x
  y : l.y = (fallT p.grav l.box).y
  at_ : l.at_ = (fallT p.grav l.box).at_
  line : l.line = overI p l.x l.y
  why : l.why = if 0 ≤ overI p l.x l.y then 1 else 0
theorem lookT_of {p : Plan} {t : Task} {now : Int} {b : Box} {frm : Int} (hu : usedT p t now = some (b, frm)) : lookT p t now = lookF p b (fallT p.grav b) := by unfold lookT; rw [hu]
/-! ### one that stays -/
end Go.De

/- Layer 5: gaps. -/
set_option linter.all false
namespace Go.Tk
open Go.Vc

section
variable {t : Task} {now wd frm u : Int}
end

end Go.Tk
