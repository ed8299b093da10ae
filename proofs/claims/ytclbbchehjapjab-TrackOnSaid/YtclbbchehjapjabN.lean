/- The plain part of layer 5: rooms, boxes. -/
import Derived.Test.YtclbbchehjapjabM
set_option linter.all false
namespace Go.Tk
open Go.Vc

def apartI (a b : Int) : Int := max (a - b) (b - a)
def partI (x : Plot) (k : Int) : Int := if k = 0 then x.x else if k = 1 then x.y else x.z
def Task.trOf (t : Task) (i : Nat) : Tracker := t.tr (t.pl i).tracker.toNat
def farT (t : Task) (i : Nat) : Int := max (max (apartI (t.pl i).x (t.trOf i).x) (apartI (t.pl i).y (t.trOf i).y)) (apartI (t.pl i).z 0)
def widthT (t : Task) (i : Nat) : Int := (t.trOf i).error + (t.trOf i).grow * ((farT t i + 1000000 - 1).tdiv 1000000)
def capT (t : Task) (n : Int) : Int := min n (t.speed.tdiv t.accel)
def reachT (t : Task) (n : Int) : Int := t.accel * ((capT t n * (capT t n + 1)).tdiv 2) + (n - capT t n) * t.speed

def Span.none (s : Span) : Bool := decide (s.hi < s.lo)
def common (a b : Span) : Span := ⟨max a.lo b.lo, min a.hi b.hi⟩
def aroundS (n d : Int) : Span := ⟨n - d, n + d⟩
def room0 (m : Int) : Span := ⟨-m, m⟩
def slackT (t : Task) (u : Int) (i : Nat) : Int := widthT t i + t.speed * apartI (t.pl i).tick u
def plotS (t : Task) (k u : Int) (i : Int) : Span := aroundS (partI (t.pl i.toNat) k) (slackT t u i.toNat)
def placeN (t : Task) (ps : List Int) (k u : Int) : Span := ps.foldl (fun s i => common s (plotS t k u i)) (room0 (min 2000000000 (reachT t (u - t.frm))))
def placeT (t : Task) (ps : List Int) (k u : Int) : Span := if u - t.frm > 0 then placeN t ps k u else ⟨0, 0⟩

def goneS (s : Span) (lo hi j : Int) : Span := ⟨max s.lo (-((-lo) / j)), min s.hi (hi / j)⟩
def moreB (t : Task) (j : Int) : Int := t.accel * ((j * (j + 1)).tdiv 2)
def moreF (t : Task) (j : Int) : Int := t.accel * ((j * (j - 1)).tdiv 2)
def fastB (t : Task) (ps : List Int) (k u j : Int) (s : Span) : Option Span :=
  if t.frm ≤ u - j then
    if (placeT t ps k (u - j)).none then none else some (goneS s ((placeT t ps k u).lo - (placeT t ps k (u - j)).hi - moreB t j) ((placeT t ps k u).hi - (placeT t ps k (u - j)).lo + moreB t j) j)
  else some s
def fastF (t : Task) (ps : List Int) (k u j : Int) (s : Span) : Option Span :=
  if u + j ≤ 100000 then
    if (placeT t ps k (u + j)).none then none else some (goneS s ((placeT t ps k (u + j)).lo - (placeT t ps k u).hi - moreF t j) ((placeT t ps k (u + j)).hi - (placeT t ps k u).lo + moreF t j) j)
  else some s
def fastN (t : Task) (ps : List Int) (k u : Int) : Nat → Option Span
  | 0 => some (room0 (min t.speed (t.accel * (u - t.frm + 1))))
  | n + 1 => ((fastN t ps k u n).bind (fastB t ps k u (n + 1))).bind (fastF t ps k u (n + 1))
def fastT (t : Task) (ps : List Int) (k u : Int) : Option Span :=
  if u < t.frm then some ⟨0, 0⟩ else (fastN t ps k u 8).bind fun s => if s.none then none else some s

theorem fastN_none {t : Task} {ps : List Int} {k u : Int} {n : Nat} (h : fastN t ps k u n = none) : ∀ m, n ≤ m → fastN t ps k u m = none := by
  intro m
  induction m with
  | zero => intro hm; have : n = 0 := by omega
            subst this; exact h
  | succ m ih =>
    intro hm
    by_cases e : n = m + 1
    · rw [← e]; exact h
    · rw [fastN, ih (by omega)]; rfl

def partT (t : Task) (ps : List Int) (k u : Int) : Option (Span × Span) :=
  (fastT t ps k u).bind fun v => if (placeT t ps k u).none then none else some (placeT t ps k u, v)
def boxT (t : Task) (ps : List Int) (u : Int) : Option Box :=
  (partT t ps 0 u).bind fun a => (partT t ps 1 u).bind fun b => (partT t ps 2 u).bind fun c => some ⟨u, a.1, b.1, c.1, a.2, b.2, c.2⟩

def knownB (t : Task) (now : Int) (i : Nat) : Bool := decide ((t.pl i).tick + (t.trOf i).late ≤ now)
def knownN (t : Task) (now : Int) (n : Nat) : List Int := ((List.range n).filter (knownB t now)).map Int.ofNat
def byN (t : Task) (now : Int) (want : Int → Bool) (n : Nat) : List Int := (knownN t now n).filter fun i => want (t.pl i.toNat).tracker
def byT (t : Task) (now : Int) (want : Int → Bool) : List Int := byN t now want t.plots.length

/-! ### step by step -/

theorem fastB_skip {t : Task} {ps : List Int} {k u j : Int} {s : Span} (h : ¬ t.frm ≤ u - j) : fastB t ps k u j s = some s := if_neg h
theorem fastF_skip {t : Task} {ps : List Int} {k u j : Int} {s : Span} (h : ¬ u + j ≤ 100000) : fastF t ps k u j s = some s := if_neg h
theorem fastB_none {t : Task} {ps : List Int} {k u j : Int} {s : Span} (h : t.frm ≤ u - j) (hn : (placeT t ps k (u - j)).none = true) : fastB t ps k u j s = none := by rw [fastB, if_pos h, if_pos hn]
theorem fastF_none {t : Task} {ps : List Int} {k u j : Int} {s : Span} (h : u + j ≤ 100000) (hn : (placeT t ps k (u + j)).none = true) : fastF t ps k u j s = none := by rw [fastF, if_pos h, if_pos hn]
def sB (t : Task) (ps : List Int) (k u j : Int) (s : Span) : Span := goneS s ((placeT t ps k u).lo - (placeT t ps k (u - j)).hi - moreB t j) ((placeT t ps k u).hi - (placeT t ps k (u - j)).lo + moreB t j) j
def sF (t : Task) (ps : List Int) (k u j : Int) (s : Span) : Span := goneS s ((placeT t ps k (u + j)).lo - (placeT t ps k u).hi - moreF t j) ((placeT t ps k (u + j)).hi - (placeT t ps k u).lo + moreF t j) j
theorem fastB_go {t : Task} {ps : List Int} {k u j : Int} {s : Span} (h : t.frm ≤ u - j) (hn : (placeT t ps k (u - j)).none = false) : fastB t ps k u j s = some (sB t ps k u j s) := by rw [fastB, if_pos h, hn]; rfl
theorem fastF_go {t : Task} {ps : List Int} {k u j : Int} {s : Span} (h : u + j ≤ 100000) (hn : (placeT t ps k (u + j)).none = false) : fastF t ps k u j s = some (sF t ps k u j s) := by rw [fastF, if_pos h, hn]; rfl
theorem fastN_go {t : Task} {ps : List Int} {k u j : Int} {s s1 s2 : Span} (hj : 1 ≤ j) (h : fastN t ps k u (j - 1).toNat = some s) (h1 : fastB t ps k u j s = some s1) (h2 : fastF t ps k u j s1 = some s2) : fastN t ps k u (j + 1 - 1).toNat = some s2 := by
  have e : (j + 1 - 1).toNat = (j - 1).toNat + 1 := by omega
  have e2 : (((j - 1).toNat : Nat) : Int) + 1 = j := by omega
  rw [e, fastN, h, e2]
  simp only [Option.bind_some, h1, h2]
theorem fastT_none1 {t : Task} {ps : List Int} {k u j : Int} {s : Span} (hu : t.frm ≤ u) (hj : 1 ≤ j ∧ j ≤ 8) (h : fastN t ps k u (j - 1).toNat = some s) (h1 : fastB t ps k u j s = none) : fastT t ps k u = none := by
  have e2 : (((j - 1).toNat : Nat) : Int) + 1 = j := by omega
  have : fastN t ps k u ((j - 1).toNat + 1) = none := by rw [fastN, h, e2]; simp only [Option.bind_some, h1, Option.bind_none]
  rw [fastT, if_neg (by omega), fastN_none this 8 (by omega)]; rfl
theorem fastT_none2 {t : Task} {ps : List Int} {k u j : Int} {s s1 : Span} (hu : t.frm ≤ u) (hj : 1 ≤ j ∧ j ≤ 8) (h : fastN t ps k u (j - 1).toNat = some s) (h1 : fastB t ps k u j s = some s1) (h2 : fastF t ps k u j s1 = none) : fastT t ps k u = none := by
  have e2 : (((j - 1).toNat : Nat) : Int) + 1 = j := by omega
  have : fastN t ps k u ((j - 1).toNat + 1) = none := by rw [fastN, h, e2]; simp only [Option.bind_some, h1, h2]
  rw [fastT, if_neg (by omega), fastN_none this 8 (by omega)]; rfl
theorem fastT_end {t : Task} {ps : List Int} {k u : Int} {s : Span} (hu : t.frm ≤ u) (h : fastN t ps k u 8 = some s) : fastT t ps k u = if s.none then none else some s := by
  rw [fastT, if_neg (by omega), h]; rfl

theorem partT_none1 {t : Task} {ps : List Int} {k u : Int} (h : fastT t ps k u = none) : partT t ps k u = none := by rw [partT, h]; rfl
theorem partT_none2 {t : Task} {ps : List Int} {k u : Int} (h : (placeT t ps k u).none = true) : partT t ps k u = none := by
  rw [partT]; cases fastT t ps k u <;> simp [h]
theorem partT_some {t : Task} {ps : List Int} {k u : Int} {v : Span} (h : fastT t ps k u = some v) (h2 : (placeT t ps k u).none = false) : partT t ps k u = some (placeT t ps k u, v) := by rw [partT, h]; simp [h2]
theorem boxT_0 {t : Task} {ps : List Int} {u : Int} (h : partT t ps 0 u = none) : boxT t ps u = none := by rw [boxT, h]; rfl
theorem boxT_1 {t : Task} {ps : List Int} {u : Int} {a : Span × Span} (h : partT t ps 0 u = some a) (h1 : partT t ps 1 u = none) : boxT t ps u = none := by rw [boxT, h, Option.bind_some, h1]; rfl
theorem boxT_2 {t : Task} {ps : List Int} {u : Int} {a b : Span × Span} (h : partT t ps 0 u = some a) (h1 : partT t ps 1 u = some b) (h2 : partT t ps 2 u = none) : boxT t ps u = none := by rw [boxT, h, Option.bind_some, h1, Option.bind_some, h2]; rfl
theorem boxT_3 {t : Task} {ps : List Int} {u : Int} {a b c : Span × Span} (h : partT t ps 0 u = some a) (h1 : partT t ps 1 u = some b) (h2 : partT t ps 2 u = some c) : boxT t ps u = some ⟨u, a.1, b.1, c.1, a.2, b.2, c.2⟩ := by
  rw [boxT, h, Option.bind_some, h1, Option.bind_some, h2]; rfl

theorem getD_mem {l : List Int} {j : Nat} {d : Int} (h : j < l.length) : l.getD j d ∈ l := by
  rw [List.getD_eq_getElem?_getD, List.getElem?_eq_getElem h]; exact List.getElem_mem h
theorem take_snoc {l : List Int} {j : Nat} {d : Int} (h : j < l.length) : l.take (j + 1) = l.take j ++ [l.getD j d] := by
  rw [List.take_add_one, List.getD_eq_getElem?_getD, List.getElem?_eq_getElem h]; rfl

/-! ### how great the numbers are -/

theorem oP_in {n lo hi : Int} (h : oP n lo hi = false) : lo ≤ n ∧ n ≤ hi := oP_false.1 h

structure PlotB (t : Task) (i : Nat) : Prop where
  tr0 : 0 ≤ (t.pl i).tracker
  tr1 : (t.pl i).tracker < t.trackers.length
  tick : t.frm ≤ (t.pl i).tick ∧ (t.pl i).tick ≤ 100000
  x : -2000000000 ≤ (t.pl i).x ∧ (t.pl i).x ≤ 2000000000
  y : -2000000000 ≤ (t.pl i).y ∧ (t.pl i).y ≤ 2000000000
  z : -2000000000 ≤ (t.pl i).z ∧ (t.pl i).z ≤ 2000000000

structure TrB (r : Tracker) : Prop where
  x : -100000000 ≤ r.x ∧ r.x ≤ 100000000
  y : -100000000 ≤ r.y ∧ r.y ≤ 100000000
  error : 0 ≤ r.error ∧ r.error ≤ 10000000
  grow : 0 ≤ r.grow ∧ r.grow ≤ 10000
  late : 0 ≤ r.late ∧ r.late ≤ 600

section
variable {t : Task}
theorem errPl_zero {i : Nat} (h : errPl t i = 0) : oP (t.pl i).tracker 0 (t.trackers.length - 1) = false ∧ plOut t (t.pl i) = false ∧ seenB t i (t.pl i).tracker (t.pl i).tick = false := by
  unfold errPl at h
  cases h1 : oP (t.pl i).tracker 0 (t.trackers.length - 1)
  · cases h2 : plOut t (t.pl i)
    · cases h3 : seenB t i (t.pl i).tracker (t.pl i).tick
      · exact ⟨rfl, rfl, rfl⟩
      · simp [h1, h2, h3] at h
    · simp [h1, h2] at h
  · simp [h1] at h
theorem errTr_zero {i : Nat} (h : errTr t i = 0) : nameOk (t.tr i).name = true ∧ dupB t i = false ∧ trOut (t.tr i) = false := by
  unfold errTr at h
  cases h1 : nameOk (t.tr i).name
  · simp [h1] at h
  · cases h2 : dupB t i
    · cases h3 : trOut (t.tr i)
      · exact ⟨rfl, rfl, rfl⟩
      · simp [h1, h2, h3] at h
    · simp [h1, h2] at h

theorem GoodT.plot (h : GoodT t) {i : Nat} (hi : i < t.plots.length) : PlotB t i := by
  obtain ⟨h1, h2, _⟩ := errPl_zero (h.pl i hi)
  simp only [plOut, Bool.or_eq_false_iff] at h2
  obtain ⟨h3, h4, h5, h6⟩ := h2
  have := oP_in h1
  exact ⟨by omega, by omega, oP_in h3, oP_in h4, oP_in h5, oP_in h6⟩
theorem GoodT.track (h : GoodT t) {i : Nat} (hi : i < t.trackers.length) : TrB (t.tr i) := by
  obtain ⟨_, _, h3⟩ := errTr_zero (h.tr i hi)
  simp only [trOut, Bool.or_eq_false_iff] at h3
  obtain ⟨⟨⟨⟨a, b⟩, c⟩, d⟩, e⟩ := h3
  exact ⟨oP_in a, oP_in b, oP_in c, oP_in d, oP_in e⟩
theorem GoodT.of (h : GoodT t) {i : Nat} (hi : i < t.plots.length) : TrB (t.trOf i) := h.track (by have p := h.plot hi; have := p.tr0; have := p.tr1; omega)
theorem GoodT.nums (h : GoodT t) : (0 ≤ t.frm ∧ t.frm ≤ 100000) ∧ (1 ≤ t.speed ∧ t.speed ≤ 1000000) ∧ (1 ≤ t.accel ∧ t.accel ≤ 1000000) := ⟨oP_in h.h3, oP_in h.h4, oP_in h.h5⟩

theorem mul_bnd {a b A B : Int} (ha : 0 ≤ a ∧ a ≤ A) (hb : 0 ≤ b ∧ b ≤ B) : 0 ≤ a * b ∧ a * b ≤ A * B :=
  ⟨Int.mul_nonneg ha.1 hb.1, Int.mul_le_mul ha.2 hb.2 hb.1 (Int.le_trans ha.1 ha.2)⟩

theorem tdiv_bnd {a A b : Int} (hb : 0 < b) (ha : 0 ≤ a ∧ a ≤ A) : 0 ≤ a.tdiv b ∧ a.tdiv b ≤ A := by
  rw [Int.tdiv_eq_ediv_of_nonneg ha.1]
  have h1 := Int.ediv_nonneg ha.1 (Int.le_of_lt hb)
  have h2 := Int.ediv_le_self b ha.1
  omega

theorem far_bnd (h : GoodT t) {i : Nat} (hi : i < t.plots.length) : 0 ≤ farT t i ∧ farT t i ≤ 2100000000 := by
  have p := h.plot hi
  have q := h.of hi
  have := p.x; have := p.y; have := p.z; have := q.x; have := q.y
  unfold farT apartI
  omega
theorem km_bnd (h : GoodT t) {i : Nat} (hi : i < t.plots.length) : 0 ≤ (farT t i + 1000000 - 1).tdiv 1000000 ∧ (farT t i + 1000000 - 1).tdiv 1000000 ≤ 2101 := by
  have := far_bnd h hi
  rw [Int.tdiv_eq_ediv_of_nonneg (by omega)]
  omega
theorem grow_bnd (h : GoodT t) {i : Nat} (hi : i < t.plots.length) : 0 ≤ (t.trOf i).grow * ((farT t i + 1000000 - 1).tdiv 1000000) ∧ (t.trOf i).grow * ((farT t i + 1000000 - 1).tdiv 1000000) ≤ 21010000 := by
  have := mul_bnd (h.of hi).grow (km_bnd h hi)
  omega
theorem width_bnd (h : GoodT t) {i : Nat} (hi : i < t.plots.length) : 0 ≤ widthT t i ∧ widthT t i ≤ 31010000 := by
  have := grow_bnd h hi
  have := (h.of hi).error
  unfold widthT; omega

theorem cap_bnd (h : GoodT t) {n : Int} (hn : 0 ≤ n ∧ n ≤ 100000) : 0 ≤ capT t n ∧ capT t n ≤ n := by
  obtain ⟨_, hs, ha⟩ := h.nums
  have := tdiv_bnd (b := t.accel) (by omega) (show 0 ≤ t.speed ∧ t.speed ≤ t.speed by omega)
  unfold capT; omega
theorem tri_bnd {m : Int} (h : 0 ≤ m ∧ m ≤ 100000) : (0 ≤ m * (m + 1) ∧ m * (m + 1) ≤ 10000100000) ∧ 0 ≤ (m * (m + 1)).tdiv 2 ∧ (m * (m + 1)).tdiv 2 ≤ 10000100000 := by
  have h1 := mul_bnd h (show 0 ≤ m + 1 ∧ m + 1 ≤ 100001 by omega)
  have h2 := tdiv_bnd (b := 2) (by omega) h1
  omega
theorem reach_bnd (h : GoodT t) {n : Int} (hn : 0 ≤ n ∧ n ≤ 100000) : (0 ≤ capT t n * (capT t n + 1) ∧ capT t n * (capT t n + 1) ≤ 10000100000) ∧ (0 ≤ (capT t n * (capT t n + 1)).tdiv 2 ∧ (capT t n * (capT t n + 1)).tdiv 2 ≤ 10000100000) ∧
    (0 ≤ t.accel * ((capT t n * (capT t n + 1)).tdiv 2) ∧ t.accel * ((capT t n * (capT t n + 1)).tdiv 2) ≤ 10000100000000000) ∧ (0 ≤ (n - capT t n) * t.speed ∧ (n - capT t n) * t.speed ≤ 100000000000) := by
  obtain ⟨_, hs, ha⟩ := h.nums
  have hc := cap_bnd h hn
  have h1 := tri_bnd (m := capT t n) (by omega)
  have h2 := mul_bnd (show 0 ≤ t.accel ∧ t.accel ≤ 1000000 by omega) h1.2
  have h3 := mul_bnd (show 0 ≤ n - capT t n ∧ n - capT t n ≤ 100000 by omega) (show 0 ≤ t.speed ∧ t.speed ≤ 1000000 by omega)
  exact ⟨h1.1, h1.2, by omega, by omega⟩
theorem reachT_bnd (h : GoodT t) {n : Int} (hn : 0 ≤ n ∧ n ≤ 100000) : 0 ≤ reachT t n ∧ reachT t n ≤ 10001000000000000 := by
  have := reach_bnd h hn
  unfold reachT; omega

theorem slack_bnd (h : GoodT t) {i : Nat} (hi : i < t.plots.length) {u : Int} (hu : 0 ≤ u ∧ u ≤ 100000) : (0 ≤ t.speed * apartI (t.pl i).tick u ∧ t.speed * apartI (t.pl i).tick u ≤ 100000000000) ∧ 0 ≤ slackT t u i ∧ slackT t u i ≤ 100031010000 := by
  obtain ⟨hf, hs, _⟩ := h.nums
  have := (h.plot hi).tick
  have h1 := mul_bnd (show 0 ≤ t.speed ∧ t.speed ≤ 1000000 by omega) (show 0 ≤ apartI (t.pl i).tick u ∧ apartI (t.pl i).tick u ≤ 100000 by unfold apartI; omega)
  have h2 := width_bnd h hi
  unfold slackT; omega

theorem part_bnd (h : GoodT t) {i : Nat} (hi : i < t.plots.length) (k : Int) : -2000000000 ≤ partI (t.pl i) k ∧ partI (t.pl i) k ≤ 2000000000 := by
  have p := h.plot hi
  have := p.x; have := p.y; have := p.z
  unfold partI
  split
  · omega
  · split <;> omega

def SpanB (B : Int) (s : Span) : Prop := (-B ≤ s.lo ∧ s.lo ≤ B) ∧ (-B ≤ s.hi ∧ s.hi ≤ B)

theorem placeN_bnd (h : GoodT t) {ps : List Int} (hp : ∀ i ∈ ps, 0 ≤ i ∧ i < t.plots.length) {u : Int} (hu : t.frm < u ∧ u ≤ 100000) (k : Int) : SpanB 2000000000 (placeN t ps k u) := by
  obtain ⟨hf, _, _⟩ := h.nums
  have hr := reachT_bnd h (n := u - t.frm) (by omega)
  have h0 : SpanB 2000000000 (room0 (min 2000000000 (reachT t (u - t.frm)))) := by unfold SpanB room0; dsimp only; omega
  unfold placeN
  generalize room0 (min 2000000000 (reachT t (u - t.frm))) = s at h0
  induction ps generalizing s with
  | nil => exact h0
  | cons i ps ih =>
    refine ih (fun j hj => hp j (.tail _ hj)) _ ?_
    have hi := hp i (.head _)
    have h1 := part_bnd h (i := i.toNat) (by omega) k
    have h2 := (slack_bnd h (i := i.toNat) (by omega) (show 0 ≤ u ∧ u ≤ 100000 by omega)).2
    unfold SpanB at h0 ⊢
    unfold common plotS aroundS
    dsimp only
    omega
theorem placeT_bnd (h : GoodT t) {ps : List Int} (hp : ∀ i ∈ ps, 0 ≤ i ∧ i < t.plots.length) {u : Int} (hu : u ≤ 100000) (k : Int) : SpanB 2000000000 (placeT t ps k u) := by
  unfold placeT
  split
  · exact placeN_bnd h hp (by omega) k
  · unfold SpanB; dsimp only; omega
end

theorem moreB_bnd {t : Task} (h : GoodT t) {j : Int} (hj : 1 ≤ j ∧ j ≤ 8) : (0 ≤ j * (j + 1) ∧ j * (j + 1) ≤ 72) ∧ (0 ≤ (j * (j + 1)).tdiv 2 ∧ (j * (j + 1)).tdiv 2 ≤ 72) ∧ (0 ≤ t.accel * ((j * (j + 1)).tdiv 2) ∧ t.accel * ((j * (j + 1)).tdiv 2) ≤ 72000000) := by
  obtain ⟨_, _, ha⟩ := h.nums
  have h1 := mul_bnd (show 0 ≤ j ∧ j ≤ 8 by omega) (show 0 ≤ j + 1 ∧ j + 1 ≤ 9 by omega)
  have h2 := tdiv_bnd (b := 2) (by omega) (show 0 ≤ j * (j + 1) ∧ j * (j + 1) ≤ 72 by omega)
  have h3 := mul_bnd (show 0 ≤ t.accel ∧ t.accel ≤ 1000000 by omega) h2
  exact ⟨by omega, h2, by omega⟩
theorem moreF_bnd {t : Task} (h : GoodT t) {j : Int} (hj : 1 ≤ j ∧ j ≤ 8) : (0 ≤ j * (j - 1) ∧ j * (j - 1) ≤ 56) ∧ (0 ≤ (j * (j - 1)).tdiv 2 ∧ (j * (j - 1)).tdiv 2 ≤ 56) ∧ (0 ≤ t.accel * ((j * (j - 1)).tdiv 2) ∧ t.accel * ((j * (j - 1)).tdiv 2) ≤ 56000000) := by
  obtain ⟨_, _, ha⟩ := h.nums
  have h1 := mul_bnd (show 0 ≤ j ∧ j ≤ 8 by omega) (show 0 ≤ j - 1 ∧ j - 1 ≤ 7 by omega)
  have h2 := tdiv_bnd (b := 2) (by omega) (show 0 ≤ j * (j - 1) ∧ j * (j - 1) ≤ 56 by omega)
  have h3 := mul_bnd (show 0 ≤ t.accel ∧ t.accel ≤ 1000000 by omega) h2
  exact ⟨by omega, h2, by omega⟩

end Go.Tk
