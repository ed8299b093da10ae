/- Joined texts. -/
import Derived.Test.YtlcccpeelombbaaDoorZa
import Derived.Stop.Asserts
import Derived.Stop.LaidTwo
import Derived.LaidEql
import Derived.KernelRfl
/- The plain part of layer 5: what its functions compute. -/
set_option linter.all false
namespace Go.Tk
open Go.Vc

structure Tracker where
  name : ByteArray
  x : Int
  y : Int
  error : Int
  grow : Int
  late : Int
structure Plot where
  tracker : Int
  tick : Int
  x : Int
  y : Int
  z : Int
structure Task where
  frm : Int
  speed : Int
  accel : Int
  trackers : List Tracker
  plots : List Plot
structure Span where
  lo : Int
  hi : Int
  deriving DecidableEq
structure Box where
  at_ : Int
  x : Span
  y : Span
  z : Span
  vx : Span
  vy : Span
  vz : Span

def ii (n : Int) : Value := .int .i64 n
def Tracker.cells (t : Tracker) : List Value := [.string t.name, .int .i64 t.x, .int .i64 t.y, .int .i64 t.error, .int .i64 t.grow, .int .i64 t.late]
def Plot.cells (p : Plot) : List Value := [.int .i64 p.tracker, .int .i64 p.tick, .int .i64 p.x, .int .i64 p.y, .int .i64 p.z]
def Span.cells (s : Span) : List Value := [.int .i64 s.lo, .int .i64 s.hi]

def trZ : Tracker := ⟨ByteArray.empty, 0, 0, 0, 0, 0⟩
def plZ : Plot := ⟨0, 0, 0, 0, 0⟩
def Task.tr (t : Task) (i : Nat) : Tracker := t.trackers.getD i trZ
def Task.pl (t : Task) (i : Nat) : Plot := t.plots.getD i plZ

/-! ### slices in memory -/

/-- v is a slice whose elements, of size cells each, read els. -/
structure SliceR (w : World) (size : Nat) (v : Value) (els : List (List Value)) : Prop where
  ex : ∃ a cap, v = .slice a els.length cap ∧ els.length ≤ cap ∧ ∀ i e, els[i]? = some e → ∃ b, a = some b ∧ cellsAt w (b.add (i * size)) e

theorem SliceR.ext {w w' : World} {size : Nat} {v : Value} {els : List (List Value)} (h : SliceR w size v els) (he : Ext w w') : SliceR w' size v els := by
  obtain ⟨a, cap, hv, hl, hc⟩ := h.ex
  exact ⟨a, cap, hv, hl, fun i e hi => let ⟨b, hb, hcb⟩ := hc i e hi; ⟨b, hb, he.cells hcb⟩⟩

theorem SliceR.good {w0 w : World} {H : Heap} {size : Nat} {v : Value} {els : List (List Value)} (h : SliceR w0 size v els) (hg : Vc.Good w0 [] H w) : SliceR w size v els := h.ext hg.toExt

theorem own_ints {w : World} {b n cap ty : Nat} {fr : Nat × Nat} {l : List Int} (h : w.heap[b]? = some (.cells (l.map fun n => Value.int .i64 n).toArray ty fr)) (hn : n = l.length) (hc : n ≤ cap) :
    SliceR w 1 (.slice (some ⟨b, 0, none⟩) n cap) (l.map fun n => [Value.int .i64 n]) := by
  subst hn
  refine ⟨some ⟨b, 0, none⟩, cap, by simp, by simpa using hc, fun i e hi => ⟨_, rfl, fun j v hj => ?_⟩⟩
  simp only [List.getElem?_map] at hi
  cases hl : l[i]? with
  | none => simp [hl] at hi
  | some x =>
    rw [hl] at hi
    simp only [Option.map_some, Option.some.injEq] at hi
    subst hi
    cases j with
    | succ j => simp at hj
    | zero =>
      simp only [List.getElem?_cons_zero, Option.some.injEq] at hj
      subst hj
      rw [add_none, add_none, own_cell h]
      simp [hl]

theorem SliceR.take {w : World} {size : Nat} {a : Option Addr} {n cap k : Nat} {els : List (List Value)} (h : SliceR w size (.slice a n cap) els) (hk : k ≤ els.length) : SliceR w size (.slice a k cap) (els.take k) := by
  obtain ⟨a', cap', hv, hl, hc⟩ := h.ex
  injection hv with h1 h2 h3
  subst h1 h2 h3
  refine ⟨a, cap, by simp; omega, by simp; omega, fun i e hi => hc i e ?_⟩
  rw [List.getElem?_take] at hi
  split at hi
  · exact hi
  · cases hi

theorem SliceR.takeM {α : Type} {w : World} {size : Nat} {a : Option Addr} {n cap k : Nat} {l : List α} {f : α → List Value} (h : SliceR w size (.slice a n cap) (l.map f)) (hk : k ≤ l.length) : SliceR w size (.slice a k cap) ((l.take k).map f) := by
  have := h.take (k := k) (by rw [List.length_map]; exact hk)
  rwa [← List.map_take] at this

structure TaskR (w : World) (v : Value) (t : Task) : Prop where
  names : ∀ x ∈ t.trackers, (x.name.size : Int) ≤ 9223372036854775807
  ltr : (t.trackers.length : Int) ≤ 9223372036854775807
  lpl : (t.plots.length : Int) ≤ 9223372036854775807
  ex : ∃ tv pv, v = .agg #[.int .i64 t.frm, .int .i64 t.speed, .int .i64 t.accel, tv, pv] ∧ SliceR w 6 tv (t.trackers.map Tracker.cells) ∧ SliceR w 5 pv (t.plots.map Plot.cells)

theorem TaskR.ext {w w' : World} {v : Value} {t : Task} (h : TaskR w v t) (he : Ext w w') : TaskR w' v t := by
  obtain ⟨tv, pv, hv, h1, h2⟩ := h.ex
  exact ⟨h.names, h.ltr, h.lpl, tv, pv, hv, h1.ext he, h2.ext he⟩

theorem TaskR.good {w0 w : World} {H : Heap} {v : Value} {t : Task} (h : TaskR w0 v t) (hg : Vc.Good w0 [] H w) : TaskR w v t := h.ext hg.toExt

theorem TaskR.name {w : World} {v : Value} {t : Task} (h : TaskR w v t) (i : Nat) : ((t.tr i).name.size : Int) ≤ 9223372036854775807 := by
  rw [Task.tr, List.getD_eq_getElem?_getD]
  cases hx : t.trackers[i]? with
  | none => exact (by decide : ((ByteArray.empty.size : Nat) : Int) ≤ 9223372036854775807)
  | some x => exact h.names x (List.mem_of_getElem? hx)

/-! ### the checks -/

def oP (n lo hi : Int) : Bool := decide (n < lo) || decide (hi < n)

theorem oP_true {n lo hi : Int} : oP n lo hi = true ↔ n < lo ∨ hi < n := by simp [oP]
theorem oP_false {n lo hi : Int} : oP n lo hi = false ↔ lo ≤ n ∧ n ≤ hi := by simp [oP]

/-- the first index that meets p; -1: none -/
def firstIdx (p : Nat → Bool) : Nat → Nat → Int
  | _, 0 => -1
  | k, n + 1 => bif p k then k else firstIdx p (k + 1) n

theorem firstIdx_of {p : Nat → Bool} {n : Nat} : ∀ (m k : Nat), k + m = n → (firstIdx p k m = -1 ∧ ∀ i, k ≤ i → i < n → p i = false) ∨ ∃ i, k ≤ i ∧ i < n ∧ firstIdx p k m = i ∧ p i = true ∧ ∀ j, k ≤ j → j < i → p j = false := by
  intro m
  induction m with
  | zero => intro k h; exact .inl ⟨rfl, fun i h1 h2 => by omega⟩
  | succ m ih =>
    intro k h
    simp only [firstIdx]
    cases hp : p k with
    | true => exact .inr ⟨k, by omega, by omega, rfl, hp, fun j h1 h2 => by omega⟩
    | false =>
      rcases ih (k + 1) (by omega) with ⟨h1, h2⟩ | ⟨i, h1, h2, h3, h4, h5⟩
      · refine .inl ⟨h1, fun i hi hn => ?_⟩
        by_cases e : i = k
        · rw [e]; exact hp
        · exact h2 i (by omega) hn
      · refine .inr ⟨i, by omega, h2, h3, h4, fun j hj hi => ?_⟩
        by_cases e : j = k
        · rw [e]; exact hp
        · exact h5 j (by omega) hi

theorem firstIdx_hit {p : Nat → Bool} {n k : Nat} (hk : k < n) (hp : p k = true) (hb : ∀ j, j < k → p j = false) : firstIdx p 0 n = k := by
  rcases firstIdx_of (p := p) (n := n) n 0 (by omega) with ⟨_, h⟩ | ⟨i, _, h2, h3, h4, h5⟩
  · rw [h k (by omega) hk] at hp; cases hp
  · rw [h3]
    rcases Nat.lt_trichotomy i k with h | h | h
    · rw [hb i h] at h4; cases h4
    · rw [h]
    · rw [h5 k (by omega) h] at hp; cases hp

theorem firstIdx_none {p : Nat → Bool} {n : Nat} (hb : ∀ j, j < n → p j = false) : firstIdx p 0 n = -1 := by
  rcases firstIdx_of (p := p) (n := n) n 0 (by omega) with ⟨h, _⟩ | ⟨i, _, h2, _, h4, _⟩
  · exact h
  · rw [hb i h2] at h4; cases h4

def anyIdx (p : Nat → Bool) (n : Nat) : Bool := (List.range n).any p

theorem firstIdx_any (p : Nat → Bool) (n : Nat) : decide (0 ≤ firstIdx p 0 n) = anyIdx p n := by
  rw [Bool.eq_iff_iff]
  simp only [decide_eq_true_eq, anyIdx, List.any_eq_true, List.mem_range]
  rcases firstIdx_of (p := p) (n := n) n 0 (by omega) with ⟨h, h1⟩ | ⟨i, _, h2, h3, h4, _⟩
  · rw [h]
    constructor
    · intro h; omega
    · rintro ⟨i, hi, hp⟩; rw [h1 i (by omega) hi] at hp; cases hp
  · rw [h3]; exact ⟨fun _ => ⟨i, h2, h4⟩, fun _ => by omega⟩

theorem anyIdx_list {α : Type} (p : α → Bool) (d : α) (l : List α) : anyIdx (fun i => p (l.getD i d)) l.length = l.any p := by
  rw [Bool.eq_iff_iff]
  simp only [anyIdx, List.any_eq_true, List.mem_range]
  constructor
  · rintro ⟨i, hi, hp⟩
    refine ⟨l.getD i d, ?_, hp⟩
    rw [List.getD_eq_getElem?_getD, List.getElem?_eq_getElem hi]
    exact List.getElem_mem hi
  · rintro ⟨x, hx, hp⟩
    obtain ⟨i, hi, e⟩ := List.getElem_of_mem hx
    refine ⟨i, hi, ?_⟩
    rw [List.getD_eq_getElem?_getD, List.getElem?_eq_getElem hi]
    simpa [e] using hp

theorem anyIdx_take {α : Type} (p : α → Bool) (d : α) (l : List α) (i : Nat) (h : i ≤ l.length) : (l.take i).any p = anyIdx (fun j => p (l.getD j d)) i := by
  rw [← anyIdx_list p d (l.take i)]
  have hlen : (l.take i).length = i := by simp; omega
  rw [hlen, Bool.eq_iff_iff]
  simp only [anyIdx, List.any_eq_true, List.mem_range]
  constructor
  · rintro ⟨j, hj, hp⟩; exact ⟨j, hj, by simpa [List.getD_eq_getElem?_getD, List.getElem?_take, hj] using hp⟩
  · rintro ⟨j, hj, hp⟩; exact ⟨j, hj, by simpa [List.getD_eq_getElem?_getD, List.getElem?_take, hj] using hp⟩

def small (c : Int) : Bool := decide (97 ≤ c) && decide (c ≤ 122)
def nameC (s : ByteArray) (i : Nat) : Bool := small (byteAt s i) || (decide (i ≠ 0) && (decide (byteAt s i = 45) || (decide (48 ≤ byteAt s i) && decide (byteAt s i ≤ 57))))
def nameOk (s : ByteArray) : Bool := decide (1 ≤ s.size) && decide (s.size ≤ 24) && (List.range s.size).all (nameC s)

theorem bytes_at {s : ByteArray} {k : Int} {pad : List Value} (h : 0 ≤ k ∧ k < s.size) : (bytesV s ++ pad).toArray.toList[0 + k.toNat * 1]? = some (.int .u8 (byteAt s k.toNat)) := by
  have hlt : k.toNat < s.data.toList.length := by rw [Array.length_toList]; exact (by omega : k.toNat < s.size)
  have : (bytesV s)[k.toNat]? = some (.int .u8 (byteAt s k.toNat)) := by
    simp only [bytesV, byteAt, List.getElem?_map, List.getD_eq_getElem?_getD]
    rw [List.getElem?_eq_getElem hlt]
    rfl
  simp only [Nat.zero_add, Nat.mul_one]
  rw [List.getElem?_append_left (by rw [bytesV, List.length_map]; exact hlt)]
  exact this

theorem nameOk_bad {s : ByteArray} {k : Nat} (hk : k < s.size) (h : nameC s k = false) : nameOk s = false := by
  rw [← Bool.not_eq_true]
  intro hh
  simp only [nameOk, Bool.and_eq_true, List.all_eq_true, List.mem_range] at hh
  rw [hh.2 k hk] at h; cases h
theorem nameOk_all {s : ByteArray} (h1 : 1 ≤ s.size) (h2 : s.size ≤ 24) (h : ∀ j, j < s.size → nameC s j = true) : nameOk s = true := by
  simp only [nameOk, Bool.and_eq_true, List.all_eq_true, List.mem_range, decide_eq_true_eq]
  exact ⟨⟨h1, h2⟩, h⟩
theorem nameOk_len {s : ByteArray} (h : s.size < 1 ∨ 24 < s.size) : nameOk s = false := by
  rw [← Bool.not_eq_true]
  intro hh
  simp only [nameOk, Bool.and_eq_true, decide_eq_true_eq] at hh
  omega
theorem nameOk_end {s : ByteArray} (h : ∀ j, j < s.size → nameC s j = true) : nameOk s = !(oP s.size 1 24) := by
  rw [Bool.eq_iff_iff]
  simp only [nameOk, Bool.and_eq_true, List.all_eq_true, List.mem_range, decide_eq_true_eq, Bool.not_eq_true', oP_false]
  constructor
  · rintro ⟨⟨h1, h2⟩, _⟩; omega
  · intro hh; exact ⟨⟨by omega, by omega⟩, h⟩

/-- the first index with an error, and the error -/
def firstErr (f : Nat → Int) : Nat → Nat → Option (Nat × Int)
  | _, 0 => none
  | k, n + 1 => if f k ≠ 0 then some (k, f k) else firstErr f (k + 1) n

theorem firstErr_of {f : Nat → Int} {n : Nat} : ∀ (m k : Nat), k + m = n → (firstErr f k m = none ∧ ∀ i, k ≤ i → i < n → f i = 0) ∨ ∃ i, k ≤ i ∧ i < n ∧ firstErr f k m = some (i, f i) ∧ f i ≠ 0 ∧ ∀ j, k ≤ j → j < i → f j = 0 := by
  intro m
  induction m with
  | zero => intro k h; exact .inl ⟨rfl, fun i h1 h2 => by omega⟩
  | succ m ih =>
    intro k h
    simp only [firstErr]
    by_cases hp : f k = 0
    · rw [if_neg (by simp [hp])]
      rcases ih (k + 1) (by omega) with ⟨h1, h2⟩ | ⟨i, h1, h2, h3, h4, h5⟩
      · refine .inl ⟨h1, fun i hi hn => ?_⟩
        by_cases e : i = k
        · rw [e]; exact hp
        · exact h2 i (by omega) hn
      · refine .inr ⟨i, by omega, h2, h3, h4, fun j hj hi => ?_⟩
        by_cases e : j = k
        · rw [e]; exact hp
        · exact h5 j (by omega) hi
    · rw [if_pos hp]; exact .inr ⟨k, by omega, by omega, rfl, hp, fun j h1 h2 => by omega⟩

theorem firstErr_hit {f : Nat → Int} {n k : Nat} (hk : k < n) (hp : f k ≠ 0) (hb : ∀ j, j < k → f j = 0) : firstErr f 0 n = some (k, f k) := by
  rcases firstErr_of (f := f) (n := n) n 0 (by omega) with ⟨_, h⟩ | ⟨i, _, h2, h3, h4, h5⟩
  · exact absurd (h k (by omega) hk) hp
  · rw [h3]
    rcases Nat.lt_trichotomy i k with h | h | h
    · exact absurd (hb i h) h4
    · rw [h]
    · exact absurd (h5 k (by omega) h) hp

theorem firstErr_none {f : Nat → Int} {n : Nat} (hb : ∀ j, j < n → f j = 0) : firstErr f 0 n = none := by
  rcases firstErr_of (f := f) (n := n) n 0 (by omega) with ⟨h, _⟩ | ⟨i, _, h2, _, h4, _⟩
  · exact h
  · exact absurd (hb i h2) h4

def seenB (t : Task) (k : Nat) (a b : Int) : Bool := anyIdx (fun j => decide ((t.pl j).tracker = a) && decide ((t.pl j).tick = b)) k
def dupB (t : Task) (i : Nat) : Bool := anyIdx (fun j => decide ((t.tr j).name = (t.tr i).name)) i
def trOut (x : Tracker) : Bool := oP x.x (-100000000) 100000000 || oP x.y (-100000000) 100000000 || oP x.error 0 10000000 || oP x.grow 0 10000 || oP x.late 0 600
def errTr (t : Task) (i : Nat) : Int :=
  if nameOk (t.tr i).name = false then 6 else if dupB t i = true then 5 else if trOut (t.tr i) = true then 7 else 0
def plOut (t : Task) (x : Plot) : Bool := oP x.tick t.frm 100000 || (oP x.x (-2000000000) 2000000000 || (oP x.y (-2000000000) 2000000000 || oP x.z (-2000000000) 2000000000))
def errPl (t : Task) (i : Nat) : Int :=
  if oP (t.pl i).tracker 0 (t.trackers.length - 1) = true then 4 else if plOut t (t.pl i) = true then 7
  else if seenB t i (t.pl i).tracker (t.pl i).tick = true then 5 else 0

def checkT (t : Task) : Int × Int × Int :=
  if t.trackers.length > 5 ∨ t.plots.length > 60 then (1, 0, 3)
  else if oP t.frm 0 100000 = true ∨ oP t.speed 1 1000000 = true ∨ oP t.accel 1 1000000 = true then (1, 0, 7)
  else match firstErr (errTr t) 0 t.trackers.length with
    | some (i, e) => (2, i, e)
    | none => match firstErr (errPl t) 0 t.plots.length with
      | some (i, e) => (3, i, e)
      | none => (0, 0, 0)

section
variable {t : Task}
theorem dup_take {i : Nat} (h : i ≤ t.trackers.length) : ((t.trackers.take i).any fun y => decide (y.name = (t.tr i).name)) = dupB t i :=
  anyIdx_take (fun y : Tracker => decide (y.name = (t.tr i).name)) trZ t.trackers i h

theorem dupB_hit {i k : Nat} (hk : k < i) (h : (t.tr k).name = (t.tr i).name) : dupB t i = true := by
  simp only [dupB, anyIdx, List.any_eq_true, List.mem_range, decide_eq_true_eq]; exact ⟨k, hk, h⟩
theorem dupB_none {i : Nat} (h : ∀ j, j < i → (t.tr j).name ≠ (t.tr i).name) : dupB t i = false := by
  rw [← Bool.not_eq_true]
  simp only [dupB, anyIdx, List.any_eq_true, List.mem_range, decide_eq_true_eq]
  rintro ⟨k, hk, e⟩; exact h k hk e
theorem seenB_hit {i k : Nat} {a b : Int} (hk : k < i) (h : (t.pl k).tracker = a) (h2 : (t.pl k).tick = b) : seenB t i a b = true := by
  simp only [seenB, anyIdx, List.any_eq_true, List.mem_range, Bool.and_eq_true, decide_eq_true_eq]; exact ⟨k, hk, h, h2⟩
theorem seenB_none {i : Nat} {a b : Int} (h : ∀ j, j < i → ¬ ((t.pl j).tracker = a ∧ (t.pl j).tick = b)) : seenB t i a b = false := by
  rw [← Bool.not_eq_true]
  simp only [seenB, anyIdx, List.any_eq_true, List.mem_range, Bool.and_eq_true, decide_eq_true_eq]
  rintro ⟨k, hk, e⟩; exact h k hk e

theorem errTr_form {i : Nat} (h : nameOk (t.tr i).name = false) : errTr t i = 6 := by simp [errTr, h]
theorem errTr_dup {i : Nat} (h : nameOk (t.tr i).name = true) (h2 : dupB t i = true) : errTr t i = 5 := by simp [errTr, h, h2]
theorem errTr_out {i : Nat} (h : nameOk (t.tr i).name = true) (h2 : dupB t i = false) (h3 : trOut (t.tr i) = true) : errTr t i = 7 := by simp [errTr, h, h2, h3]
theorem errTr_ok {i : Nat} (h : nameOk (t.tr i).name = true) (h2 : dupB t i = false) (h3 : trOut (t.tr i) = false) : errTr t i = 0 := by simp [errTr, h, h2, h3]
theorem errPl_none {i : Nat} (h : oP (t.pl i).tracker 0 (t.trackers.length - 1) = true) : errPl t i = 4 := by simp [errPl, h]
theorem errPl_out {i : Nat} (h : oP (t.pl i).tracker 0 (t.trackers.length - 1) = false) (h2 : plOut t (t.pl i) = true) : errPl t i = 7 := by simp [errPl, h, h2]
theorem errPl_dup {i : Nat} (h : oP (t.pl i).tracker 0 (t.trackers.length - 1) = false) (h2 : plOut t (t.pl i) = false) (h3 : seenB t i (t.pl i).tracker (t.pl i).tick = true) : errPl t i = 5 := by simp [errPl, h, h2, h3]
theorem errPl_ok {i : Nat} (h : oP (t.pl i).tracker 0 (t.trackers.length - 1) = false) (h2 : plOut t (t.pl i) = false) (h3 : seenB t i (t.pl i).tracker (t.pl i).tick = false) : errPl t i = 0 := by simp [errPl, h, h2, h3]

theorem checkT_long (h : t.trackers.length > 5 ∨ t.plots.length > 60) : checkT t = (1, 0, 3) := by rw [checkT, if_pos h]
theorem checkT_range (h1 : t.trackers.length ≤ 5) (h2 : t.plots.length ≤ 60) (h : oP t.frm 0 100000 = true ∨ oP t.speed 1 1000000 = true ∨ oP t.accel 1 1000000 = true) : checkT t = (1, 0, 7) := by
  rw [checkT, if_neg (by omega), if_pos h]

/-- The first numbers of a task are good. -/
structure Head (t : Task) : Prop where
  h1 : t.trackers.length ≤ 5
  h2 : t.plots.length ≤ 60
  h3 : oP t.frm 0 100000 = false
  h4 : oP t.speed 1 1000000 = false
  h5 : oP t.accel 1 1000000 = false

theorem checkT_head (h : Head t) : checkT t = match firstErr (errTr t) 0 t.trackers.length with
    | some (i, e) => (2, (i : Int), e)
    | none => match firstErr (errPl t) 0 t.plots.length with
      | some (i, e) => (3, (i : Int), e)
      | none => (0, 0, 0) := by
  have h1 := h.h1
  have h2 := h.h2
  rw [checkT, if_neg (by omega), if_neg (by simp [h.h3, h.h4, h.h5])]

theorem checkT_tr (h : Head t) {k e : Int} (hk0 : 0 ≤ k) (hk : k < t.trackers.length) (hb : ∀ j : Nat, (j : Int) < k → errTr t j = 0) (he : errTr t k.toNat = e) (hn : e ≠ 0) : checkT t = (2, k, e) := by
  rw [checkT_head h, firstErr_hit (k := k.toNat) (by omega) (by rw [he]; exact hn) (fun j hj => hb j (by omega))]
  simp only [he]
  rw [Int.toNat_of_nonneg hk0]

theorem checkT_pl (h : Head t) (htr : ∀ j : Nat, j < t.trackers.length → errTr t j = 0) {k e : Int} (hk0 : 0 ≤ k) (hk : k < t.plots.length) (hb : ∀ j : Nat, (j : Int) < k → errPl t j = 0) (he : errPl t k.toNat = e) (hn : e ≠ 0) : checkT t = (3, k, e) := by
  rw [checkT_head h, firstErr_none htr, firstErr_hit (k := k.toNat) (by omega) (by rw [he]; exact hn) (fun j hj => hb j (by omega))]
  simp only [he]
  rw [Int.toNat_of_nonneg hk0]

theorem checkT_ok (h : Head t) (htr : ∀ j : Nat, j < t.trackers.length → errTr t j = 0) (hpl : ∀ j : Nat, j < t.plots.length → errPl t j = 0) : checkT t = (0, 0, 0) := by
  rw [checkT_head h, firstErr_none htr, firstErr_none hpl]

def askedT (t : Task) (l : List Int) : Int := if (checkT t).2.2 = 0 ∧ (l.any fun n => oP n 0 100000) = true then 7 else (checkT t).2.2

/-- A good task. -/
structure GoodT (t : Task) : Prop extends Head t where
  tr : ∀ j : Nat, j < t.trackers.length → errTr t j = 0
  pl : ∀ j : Nat, j < t.plots.length → errPl t j = 0

theorem good_of_check (h : (checkT t).2.2 = 0) : GoodT t := by
  by_cases c1 : t.trackers.length > 5 ∨ t.plots.length > 60
  · rw [checkT_long c1] at h; cases h
  · by_cases c2 : oP t.frm 0 100000 = true ∨ oP t.speed 1 1000000 = true ∨ oP t.accel 1 1000000 = true
    · rw [checkT_range (by omega) (by omega) c2] at h; cases h
    · have hh : Head t := ⟨by omega, by omega, by cases h : oP t.frm 0 100000 <;> simp_all, by cases h : oP t.speed 1 1000000 <;> simp_all, by cases h : oP t.accel 1 1000000 <;> simp_all⟩
      rw [checkT_head hh] at h
      rcases firstErr_of (f := errTr t) (n := t.trackers.length) t.trackers.length 0 (by omega) with ⟨e1, a1⟩ | ⟨i, _, hi, e1, ne, _⟩
      · rw [e1] at h
        rcases firstErr_of (f := errPl t) (n := t.plots.length) t.plots.length 0 (by omega) with ⟨e2, a2⟩ | ⟨i, _, hi, e2, ne, _⟩
        · exact ⟨hh, fun j hj => a1 j (by omega) hj, fun j hj => a2 j (by omega) hj⟩
        · rw [e2] at h; exact absurd h ne
      · rw [e1] at h; exact absurd h ne
end

/-! ### the keys that were seen -/

def seenL (t : Task) (k : Nat) : List (List Value × Value) := (t.plots.take k).map fun p => ([ii p.tracker, ii p.tick], .bool true)

theorem seen_fit (t : Task) (k : Nat) : ∀ p ∈ seenL t k, fitsL [.int .i64, .int .i64] p.1 = true := by
  intro p hp
  obtain ⟨x, _, rfl⟩ := List.mem_map.1 hp
  rfl

theorem seen_find (t : Task) (k : Nat) (hk : k ≤ t.plots.length) (a b : Int) : ((seenL t k).find? (keyEq [ii a, ii b])).map (·.2) = bif seenB t k a b then some (.bool true) else none := by
  have h1 : seenB t k a b = (t.plots.take k).any fun p => decide (p.tracker = a) && decide (p.tick = b) := (anyIdx_take (fun p : Plot => decide (p.tracker = a) && decide (p.tick = b)) plZ t.plots k hk).symm
  rw [h1, seenL]
  generalize t.plots.take k = l
  induction l with
  | nil => rfl
  | cons p l ih =>
    have e : keyEq [ii a, ii b] ([ii p.tracker, ii p.tick], Value.bool true) = (decide (p.tracker = a) && decide (p.tick = b)) := by
      simp only [keyEq, eqL, ii, eqv, Bool.and_true]
      congr 1 <;> exact decide_eq_decide.2 eq_comm
    simp only [List.map_cons, List.find?_cons, e, List.any_cons]
    cases (decide (p.tracker = a) && decide (p.tick = b))
    · simpa using ih
    · rfl

theorem seen_look (t : Task) (k : Nat) (hk : k ≤ t.plots.length) (a b : Int) : found (seenL t k) [ii a, ii b] (.bool false) = .bool (seenB t k a b) := by
  rw [found, seen_find t k hk]
  cases seenB t k a b <;> rfl

theorem seen_none (t : Task) (k : Nat) (hk : k ≤ t.plots.length) (a b : Int) (h : seenB t k a b = false) : (seenL t k).find? (keyEq [ii a, ii b]) = none := by
  have := seen_find t k hk a b
  rw [h] at this
  cases hf : (seenL t k).find? (keyEq [ii a, ii b]) with
  | none => rfl
  | some p => rw [hf] at this; simp at this

theorem seen_succ (t : Task) (k : Nat) (hk : k < t.plots.length) : seenL t (k + 1) = seenL t k ++ [([ii (t.pl k).tracker, ii (t.pl k).tick], .bool true)] := by
  have h1 : t.plots.take (k + 1) = t.plots.take k ++ [t.pl k] := by
    rw [List.take_add_one, Task.pl, List.getD_eq_getElem?_getD, List.getElem?_eq_getElem hk]; rfl
  rw [seenL, h1, List.map_append]; rfl

abbrev Task.obj (t : Task) (tv pv : Value) (ty : Nat) : Obj := .cells #[.int .i64 t.frm, .int .i64 t.speed, .int .i64 t.accel, tv, pv] ty

theorem getD_cells {α : Type} {f : α → List Value} {l : List α} {i : Nat} {d : α} (h : i < l.length) : (l.map f)[i]? = some (f (l.getD i d)) := by
  simp [h]

end Go.Tk

/- YtlcccpeelombbaaDoor: what the small functions of packages track, wind and slices compute, and the checks of a task. -/
set_option linter.all false
namespace Go.Proofs.YtlcccpeelombbaaDoor
open Go.Vc Go.Tk
set_option maxRecDepth 100000
theorem out_c (n lo hi : Int) (w : World) : FnP Tryd.prog 50 [.int .i64 n, .int .i64 lo, .int .i64 hi] w (.bool (oP n lo hi)) := by
  refine fn_pure Tryd.func50 rfl (by kernel_rfl) Tryd.ntmps50 Tryd.results50 rfl ?_
  refine V_seq (V_region rfl ?_)
  refine L_go rfl (X_p (p_assign rfl rfl) ?_)
  refine L_then (.cons (k := 0) rfl (.cons (k := 1) rfl (.cons (k := 2) rfl .nil))) ?_
  refine V_seq (V_region rfl ?_)
  refine L_go rfl (X_p (p_move rfl rfl) ?_)
  refine L_go rfl (X_p (p_move rfl rfl) ?_)
  refine L_go rfl (X_p (p_lss rfl rfl rfl) ?_)
  refine L_go rfl (X_p (p_move rfl rfl) ?_)
  refine L_cases (d := 10) rfl ?_ ?_
  · intro g1; have g1' := g1; try simp only [td] at g1'
    refine L_no rfl rfl rfl g1 ?_
    refine L_no rfl rfl rfl g1 ?_
    refine L_no rfl rfl rfl g1 ?_
    refine L_go rfl (X_p (p_pick_t rfl rfl g1 rfl) ?_)
    refine L_go rfl (X_p (p_assign rfl rfl) ?_)
    refine L_then (.cons (k := 6) rfl .nil) ?_
    refine V_ret ?_
    refine Leave.nil (.tmp rfl .nil) ?_
    simp [tup, oP, *]
  · intro g1; have g1' := g1; try simp only [td] at g1'
    refine L_yes rfl rfl rfl g1 (X_p (p_move rfl rfl) ?_)
    refine L_yes rfl rfl rfl g1 (X_p (p_move rfl rfl) ?_)
    refine L_yes rfl rfl rfl g1 (X_p (p_gtr rfl rfl rfl) ?_)
    refine L_go rfl (X_p (p_pick_f rfl rfl g1 rfl) ?_)
    refine L_go rfl (X_p (p_assign rfl rfl) ?_)
    refine L_then (.cons (k := 6) rfl .nil) ?_
    refine V_ret ?_
    refine Leave.nil (.tmp rfl .nil) ?_
    simp [tup, oP, *]
theorem wout_c (n lo hi : Int) (w : World) : FnP Tryd.prog 90 [.int .i64 n, .int .i64 lo, .int .i64 hi] w (.bool (oP n lo hi)) := by
  refine fn_pure Tryd.func90 rfl (by kernel_rfl) Tryd.ntmps90 Tryd.results90 rfl ?_
  refine V_seq (V_region rfl ?_)
  refine L_go rfl (X_p (p_assign rfl rfl) ?_)
  refine L_then (.cons (k := 0) rfl (.cons (k := 1) rfl (.cons (k := 2) rfl .nil))) ?_
  refine V_seq (V_region rfl ?_)
  refine L_go rfl (X_p (p_move rfl rfl) ?_)
  refine L_go rfl (X_p (p_move rfl rfl) ?_)
  refine L_go rfl (X_p (p_lss rfl rfl rfl) ?_)
  refine L_go rfl (X_p (p_move rfl rfl) ?_)
  refine L_cases (d := 10) rfl ?_ ?_
  · intro g1; have g1' := g1; try simp only [td] at g1'
    refine L_no rfl rfl rfl g1 ?_
    refine L_no rfl rfl rfl g1 ?_
    refine L_no rfl rfl rfl g1 ?_
    refine L_go rfl (X_p (p_pick_t rfl rfl g1 rfl) ?_)
    refine L_go rfl (X_p (p_assign rfl rfl) ?_)
    refine L_then (.cons (k := 6) rfl .nil) ?_
    refine V_ret ?_
    refine Leave.nil (.tmp rfl .nil) ?_
    simp [tup, oP, *]
  · intro g1; have g1' := g1; try simp only [td] at g1'
    refine L_yes rfl rfl rfl g1 (X_p (p_move rfl rfl) ?_)
    refine L_yes rfl rfl rfl g1 (X_p (p_move rfl rfl) ?_)
    refine L_yes rfl rfl rfl g1 (X_p (p_gtr rfl rfl rfl) ?_)
    refine L_go rfl (X_p (p_pick_f rfl rfl g1 rfl) ?_)
    refine L_go rfl (X_p (p_assign rfl rfl) ?_)
    refine L_then (.cons (k := 6) rfl .nil) ?_
    refine V_ret ?_
    refine Leave.nil (.tmp rfl .nil) ?_
    simp [tup, oP, *]
theorem never1_c (n : Int) (w : World) : FnP Tryd.prog 75 [.int .i64 n] w (.bool (oP n 0 100000)) := by
  refine fn_pure Tryd.func75 rfl (by kernel_rfl) Tryd.ntmps75 Tryd.results75 rfl ?_
  refine V_seq (V_region rfl ?_)
  refine L_go rfl (X_p (p_assign rfl rfl) ?_)
  refine L_then (.cons (k := 0) rfl .nil) ?_
  refine V_seq (V_region rfl ?_)
  refine L_go rfl (X_p (p_move rfl rfl) ?_)
  refine L_go rfl (X_wr (w_callP rfl rfl rfl (fun w hg => out_c _ _ _ w)) ?_)
  rintro _ _ ⟨rfl, rfl⟩
  refine L_go rfl (X_p (p_assign rfl rfl) ?_)
  refine L_then (.cons (k := 2) rfl .nil) ?_
  refine V_ret ?_
  refine Leave.nil (.tmp rfl .nil) ?_
  rfl
theorem idxInt_c (l : List Int) (v : Value) (fid : Nat) (cap : Array Value) (p : Int → Bool) (w : World) (hv : SliceR w 1 v (l.map (fun n : Int => [Value.int .i64 n]))) (hl : (l.length : Int) ≤ 9223372036854775806) (hf : ∀ x w', Ext w w' → FnP Tryd.prog fid (.int .i64 x :: cap.toList) w' (.bool (p x))) : FnP Tryd.prog 82 [v, .func (.func fid) #[] cap] w (.int .i64 (firstIdx (fun i => p (l.getD i 0)) 0 l.length)) := by
  obtain ⟨a, ca, rfl, hcap, hel⟩ := hv.ex
  simp only [List.length_map]
  refine fn_pure Tryd.func82 rfl (by kernel_rfl) Tryd.ntmps82 Tryd.results82 rfl ?_
  refine V_seq (V_region rfl ?_)
  refine L_go rfl (X_p (p_assign rfl rfl) ?_)
  refine L_then (.cons (k := 0) rfl (.cons (k := 1) rfl .nil)) ?_
  refine V_seq ?_
  refine V_seq (V_region rfl ?_)
  refine L_go rfl (X_p (p_move rfl rfl) ?_)
  refine L_go rfl (X_p (p_len isl66 rfl rfl) ?_)
  refine L_go rfl (X_p (p_move rfl rfl) ?_)
  refine L_then (.cons (k := 0) rfl (.cons (k := 1) rfl (.cons (k := 7) rfl (.cons (k := 8) rfl .nil)))) ?_
  refine V_block ?_
  refine V_loop0 (γ := Int) (.cons (k := 0) rfl (.cons (k := 1) rfl (.cons (k := 7) rfl .nil))) (fun k => [(8, .int .i64 k)]) (fun k => 0 ≤ k ∧ k ≤ l.length ∧ ∀ j : Nat, (j : Int) < k → p (l.getD j 0) = false) (fun k => (l.length - k).toNat) (0) (.cons rfl (.nil _)) (⟨by omega, by omega, fun j hj => by omega⟩) ?_
  rintro k hi
  obtain ⟨hk0, hk1, hkp⟩ := hi
  refine V_seq (V_region rfl ?_)
  refine L_go rfl (X_p (p_lss rfl rfl rfl) ?_)
  refine L_then (.cons (k := 0) rfl (.cons (k := 1) rfl (.cons (k := 7) rfl (.cons (k := 8) rfl (.cons (k := 9) rfl .nil))))) ?_
  refine V_seq ?_
  refine V_cond rfl ?_ ?_
  · intro c1; try simp only [td] at c1
    obtain ⟨b, rfl, hc⟩ := hel k.toNat _ (getD_cells (d := 0) (by omega))
    refine V_skip (then_n ?_)
    refine V_seq ?_
    refine V_block ?_
    refine V_seq (V_region rfl ?_)
    refine L_go rfl (X_p (p_move rfl rfl) ?_)
    refine L_go rfl (X_p (p_assign rfl rfl) ?_)
    refine L_then (.cons (k := 0) rfl (.cons (k := 1) rfl (.cons (k := 5) rfl (.cons (k := 7) rfl (.cons (k := 8) rfl .nil))))) ?_
    refine V_seq (V_region rfl ?_)
    refine L_go rfl (X_p (p_move rfl rfl) ?_)
    refine L_go rfl (X_p (p_move rfl rfl) ?_)
    refine L_go rfl (X_p (p_move rfl rfl) ?_)
    refine L_go rfl (X_p (p_idx es66 rfl rfl rfl (by omega) (by omega)) ?_)
    refine L_go rfl (X_rd (r_loadB ag3 rfl rfl (hc.zero) List.not_mem_nil) ?_)
    refine L_go rfl (X_wr (w_callP rfl rfl rfl (fun w hg => hf _ w hg.toExt)) ?_)
    rintro _ _ ⟨rfl, rfl⟩
    refine L_then (.cons (k := 0) rfl (.cons (k := 1) rfl (.cons (k := 5) rfl (.cons (k := 7) rfl (.cons (k := 8) rfl (.cons (k := 16) rfl .nil)))))) ?_
    refine V_cond rfl ?_ ?_
    · intro c2; try simp only [td] at c2
      refine V_seq (V_region rfl ?_)
      refine L_go rfl (X_p (p_move rfl rfl) ?_)
      refine L_go rfl (X_p (p_assign rfl rfl) ?_)
      refine L_then (.cons (k := 4) rfl .nil) ?_
      refine V_ret (blk_r (then_r (then_r (blk_r (then_r ?_)))))
      refine Leave.nil (.tmp rfl .nil) ?_
      show Value.int .i64 k = _
      rw [firstIdx_hit (p := fun i => p (l.getD i 0)) (k := k.toNat) (by omega) c2 (fun j hj => hkp j (by omega))]
      congr 1; omega
    · intro c2; try simp only [td] at c2
      refine V_skip (blk_n (then_n ?_))
      refine V_region rfl ?_
      first | refine L_go rfl (X_p (p_add' rfl rfl rfl (by unfold InI; omega)) ?_) | refine L_go rfl (X_p (p_add rfl rfl rfl) ?_)
      refine L_go rfl (X_p (p_move rfl rfl) ?_)
      refine L_keep (.cons (k := 0) rfl (.cons (k := 1) rfl (.cons (k := 7) rfl (.cons (k := 8) rfl .nil)))) (then_n ?_)
      refine ⟨k + 1, ?_, ?_, (.cons rfl (.cons rfl (.cons rfl (.cons rfl (.nil _))))), (by repeat (first | exact List.Sublist.refl _ | apply List.Sublist.cons_cons | apply List.Sublist.cons | apply List.sublist_append_of_sublist_right)), rfl⟩
      · refine ⟨by omega, by omega, fun j hj => ?_⟩; by_cases e : (j : Int) < k
        · exact hkp j e
        · have : j = k.toNat := by omega
          rw [this]; exact c2
      · omega
  · intro c1; try simp only [td] at c1
    refine V_exit (then_e (then_e (blk_e rfl (then_n ?_))))
    refine V_seq (V_region rfl ?_)
    refine L_go rfl (X_p (p_assign rfl rfl) ?_)
    refine L_then (.cons (k := 4) rfl .nil) ?_
    refine V_ret ?_
    refine Leave.nil (.tmp rfl .nil) ?_
    show Value.int .i64 (-1) = _
    rw [firstIdx_none (p := fun i => p (l.getD i 0)) (fun j hj => hkp j (by omega))]
theorem contInt_c (l : List Int) (v : Value) (fid : Nat) (cap : Array Value) (p : Int → Bool) (w : World) (hv : SliceR w 1 v (l.map (fun n : Int => [Value.int .i64 n]))) (hl : (l.length : Int) ≤ 9223372036854775806) (hf : ∀ x w', Ext w w' → FnP Tryd.prog fid (.int .i64 x :: cap.toList) w' (.bool (p x))) : FnP Tryd.prog 62 [v, .func (.func fid) #[] cap] w (.bool (l.any p)) := by
  refine fn_pure Tryd.func62 rfl (by kernel_rfl) Tryd.ntmps62 Tryd.results62 rfl ?_
  refine V_seq (V_region rfl ?_)
  refine L_go rfl (X_p (p_assign rfl rfl) ?_)
  refine L_then (.cons (k := 0) rfl (.cons (k := 1) rfl .nil)) ?_
  refine V_seq (V_region rfl ?_)
  refine L_go rfl (X_p (p_move rfl rfl) ?_)
  refine L_go rfl (X_p (p_move rfl rfl) ?_)
  refine L_go rfl (X_wr (w_callP rfl rfl rfl (fun w hg => idxInt_c l _ _ _ p w (hv.good hg) hl (fun x w' he => hf x w' (hg.toExt.trans he)))) ?_)
  rintro _ _ ⟨rfl, rfl⟩
  refine L_go rfl (X_p (p_geq rfl rfl rfl) ?_)
  refine L_go rfl (X_p (p_assign rfl rfl) ?_)
  refine L_then (.cons (k := 4) rfl .nil) ?_
  refine V_ret ?_
  refine Leave.nil (.tmp rfl .nil) ?_
  show Value.bool _ = _
  rw [firstIdx_any, anyIdx_list]
theorem idxTr_c (l : List Tracker) (v : Value) (fid : Nat) (cap : Array Value) (p : Tracker → Bool) (w : World) (hv : SliceR w 6 v (l.map (Tracker.cells))) (hl : (l.length : Int) ≤ 9223372036854775806) (hf : ∀ x w', Ext w w' → FnP Tryd.prog fid (.agg (Tracker.cells x).toArray :: cap.toList) w' (.bool (p x))) : FnP Tryd.prog 91 [v, .func (.func fid) #[] cap] w (.int .i64 (firstIdx (fun i => p (l.getD i trZ)) 0 l.length)) := by
  obtain ⟨a, ca, rfl, hcap, hel⟩ := hv.ex
  simp only [List.length_map]
  refine fn_pure Tryd.func91 rfl (by kernel_rfl) Tryd.ntmps91 Tryd.results91 rfl ?_
  refine V_seq (V_region rfl ?_)
  refine L_go rfl (X_p (p_assign rfl rfl) ?_)
  refine L_then (.cons (k := 0) rfl (.cons (k := 1) rfl .nil)) ?_
  refine V_seq ?_
  refine V_seq (V_region rfl ?_)
  refine L_go rfl (X_p (p_move rfl rfl) ?_)
  refine L_go rfl (X_p (p_len isl51 rfl rfl) ?_)
  refine L_go rfl (X_p (p_move rfl rfl) ?_)
  refine L_then (.cons (k := 0) rfl (.cons (k := 1) rfl (.cons (k := 7) rfl (.cons (k := 8) rfl .nil)))) ?_
  refine V_block ?_
  refine V_loop0 (γ := Int) (.cons (k := 0) rfl (.cons (k := 1) rfl (.cons (k := 7) rfl .nil))) (fun k => [(8, .int .i64 k)]) (fun k => 0 ≤ k ∧ k ≤ l.length ∧ ∀ j : Nat, (j : Int) < k → p (l.getD j trZ) = false) (fun k => (l.length - k).toNat) (0) (.cons rfl (.nil _)) (⟨by omega, by omega, fun j hj => by omega⟩) ?_
  rintro k hi
  obtain ⟨hk0, hk1, hkp⟩ := hi
  refine V_seq (V_region rfl ?_)
  refine L_go rfl (X_p (p_lss rfl rfl rfl) ?_)
  refine L_then (.cons (k := 0) rfl (.cons (k := 1) rfl (.cons (k := 7) rfl (.cons (k := 8) rfl (.cons (k := 9) rfl .nil))))) ?_
  refine V_seq ?_
  refine V_cond rfl ?_ ?_
  · intro c1; try simp only [td] at c1
    obtain ⟨b, rfl, hc⟩ := hel k.toNat _ (getD_cells (d := trZ) (by omega))
    refine V_skip (then_n ?_)
    refine V_seq ?_
    refine V_block ?_
    refine V_seq (V_region rfl ?_)
    refine L_go rfl (X_p (p_move rfl rfl) ?_)
    refine L_go rfl (X_p (p_assign rfl rfl) ?_)
    refine L_then (.cons (k := 0) rfl (.cons (k := 1) rfl (.cons (k := 5) rfl (.cons (k := 7) rfl (.cons (k := 8) rfl .nil))))) ?_
    refine V_seq (V_region rfl ?_)
    refine L_go rfl (X_p (p_move rfl rfl) ?_)
    refine L_go rfl (X_p (p_move rfl rfl) ?_)
    refine L_go rfl (X_p (p_move rfl rfl) ?_)
    refine L_go rfl (X_p (p_idx es51 rfl rfl rfl (by omega) (by omega)) ?_)
    refine L_go rfl (X_rd (r_loadBA ag162 sz162 rfl rfl hc rfl List.not_mem_nil) ?_)
    refine L_go rfl (X_wr (w_callP rfl rfl rfl (fun w hg => hf _ w hg.toExt)) ?_)
    rintro _ _ ⟨rfl, rfl⟩
    refine L_then (.cons (k := 0) rfl (.cons (k := 1) rfl (.cons (k := 5) rfl (.cons (k := 7) rfl (.cons (k := 8) rfl (.cons (k := 16) rfl .nil)))))) ?_
    refine V_cond rfl ?_ ?_
    · intro c2; try simp only [td] at c2
      refine V_seq (V_region rfl ?_)
      refine L_go rfl (X_p (p_move rfl rfl) ?_)
      refine L_go rfl (X_p (p_assign rfl rfl) ?_)
      refine L_then (.cons (k := 4) rfl .nil) ?_
      refine V_ret (blk_r (then_r (then_r (blk_r (then_r ?_)))))
      refine Leave.nil (.tmp rfl .nil) ?_
      show Value.int .i64 k = _
      rw [firstIdx_hit (p := fun i => p (l.getD i trZ)) (k := k.toNat) (by omega) c2 (fun j hj => hkp j (by omega))]
      congr 1; omega
    · intro c2; try simp only [td] at c2
      refine V_skip (blk_n (then_n ?_))
      refine V_region rfl ?_
      first | refine L_go rfl (X_p (p_add' rfl rfl rfl (by unfold InI; omega)) ?_) | refine L_go rfl (X_p (p_add rfl rfl rfl) ?_)
      refine L_go rfl (X_p (p_move rfl rfl) ?_)
      refine L_keep (.cons (k := 0) rfl (.cons (k := 1) rfl (.cons (k := 7) rfl (.cons (k := 8) rfl .nil)))) (then_n ?_)
      refine ⟨k + 1, ?_, ?_, (.cons rfl (.cons rfl (.cons rfl (.cons rfl (.nil _))))), (by repeat (first | exact List.Sublist.refl _ | apply List.Sublist.cons_cons | apply List.Sublist.cons | apply List.sublist_append_of_sublist_right)), rfl⟩
      · refine ⟨by omega, by omega, fun j hj => ?_⟩; by_cases e : (j : Int) < k
        · exact hkp j e
        · have : j = k.toNat := by omega
          rw [this]; exact c2
      · omega
  · intro c1; try simp only [td] at c1
    refine V_exit (then_e (then_e (blk_e rfl (then_n ?_))))
    refine V_seq (V_region rfl ?_)
    refine L_go rfl (X_p (p_assign rfl rfl) ?_)
    refine L_then (.cons (k := 4) rfl .nil) ?_
    refine V_ret ?_
    refine Leave.nil (.tmp rfl .nil) ?_
    show Value.int .i64 (-1) = _
    rw [firstIdx_none (p := fun i => p (l.getD i trZ)) (fun j hj => hkp j (by omega))]
theorem contTr_c (l : List Tracker) (v : Value) (fid : Nat) (cap : Array Value) (p : Tracker → Bool) (w : World) (hv : SliceR w 6 v (l.map (Tracker.cells))) (hl : (l.length : Int) ≤ 9223372036854775806) (hf : ∀ x w', Ext w w' → FnP Tryd.prog fid (.agg (Tracker.cells x).toArray :: cap.toList) w' (.bool (p x))) : FnP Tryd.prog 80 [v, .func (.func fid) #[] cap] w (.bool (l.any p)) := by
  refine fn_pure Tryd.func80 rfl (by kernel_rfl) Tryd.ntmps80 Tryd.results80 rfl ?_
  refine V_seq (V_region rfl ?_)
  refine L_go rfl (X_p (p_assign rfl rfl) ?_)
  refine L_then (.cons (k := 0) rfl (.cons (k := 1) rfl .nil)) ?_
  refine V_seq (V_region rfl ?_)
  refine L_go rfl (X_p (p_move rfl rfl) ?_)
  refine L_go rfl (X_p (p_move rfl rfl) ?_)
  refine L_go rfl (X_wr (w_callP rfl rfl rfl (fun w hg => idxTr_c l _ _ _ p w (hv.good hg) hl (fun x w' he => hf x w' (hg.toExt.trans he)))) ?_)
  rintro _ _ ⟨rfl, rfl⟩
  refine L_go rfl (X_p (p_geq rfl rfl rfl) ?_)
  refine L_go rfl (X_p (p_assign rfl rfl) ?_)
  refine L_then (.cons (k := 4) rfl .nil) ?_
  refine V_ret ?_
  refine Leave.nil (.tmp rfl .nil) ?_
  show Value.bool _ = _
  rw [firstIdx_any, anyIdx_list]
theorem wname_c (s : ByteArray) (hs : (s.size : Int) ≤ 9223372036854775807) (w : World) : FnP Tryd.prog 79 [.string s] w (.bool (nameOk s)) := by
  refine fn_pure Tryd.func79 rfl (by kernel_rfl) Tryd.ntmps79 Tryd.results79 rfl ?_
  refine V_seq (V_region rfl ?_)
  refine L_go rfl (X_p (p_assign rfl rfl) ?_)
  refine L_then (.cons (k := 0) rfl .nil) ?_
  refine V_seq ?_
  refine V_seq (V_region rfl ?_)
  refine L_go rfl (X_p (p_move rfl rfl) ?_)
  refine L_go rfl (X_wr (w_bytes un9 un34 un5 rfl rfl) ?_)
  rintro _ _ ⟨b1, cap1, pad1, fr1, hb1, rfl, rfl⟩
  refine L_go rfl (X_p (p_len isl34 rfl rfl) ?_)
  refine L_go rfl (X_p (p_move rfl rfl) ?_)
  refine L_then (.cons (k := 0) rfl (.cons (k := 6) rfl (.cons (k := 7) rfl (.cons (k := 8) rfl .nil)))) ?_
  refine V_block ?_
  refine V_loop0 (γ := Int) (.cons (k := 0) rfl (.cons (k := 6) rfl (.cons (k := 7) rfl .nil))) (fun k => [(8, .int .i64 k)]) (fun k => 0 ≤ k ∧ k ≤ s.size ∧ ∀ j : Nat, (j : Int) < k → nameC s j = true) (fun k => (s.size - k).toNat) (0) (.cons rfl (.nil _)) (⟨by omega, by omega, fun j hj => by omega⟩) ?_
  rintro k hi
  obtain ⟨hk0, hk1, hkn⟩ := hi
  refine V_seq (V_region rfl ?_)
  refine L_go rfl (X_p (p_lss rfl rfl rfl) ?_)
  refine L_then (.cons (k := 0) rfl (.cons (k := 6) rfl (.cons (k := 7) rfl (.cons (k := 8) rfl (.cons (k := 9) rfl .nil))))) ?_
  refine V_seq ?_
  refine V_cond rfl ?_ ?_
  · intro c1; try simp only [td] at c1
    refine V_skip (then_n ?_)
    refine V_seq ?_
    refine V_block ?_
    refine V_seq (V_region rfl ?_)
    refine L_go rfl (X_p (p_move rfl rfl) ?_)
    refine L_go rfl (X_p (p_idxo es34 rfl rfl rfl (by omega) (by omega)) ?_)
    refine L_go rfl (X_rd (r_load ag5 rfl rfl (by repeat first | exact mH | apply mT) (bytes_at (by omega))) ?_)
    refine L_go rfl (X_p (p_assign rfl rfl) ?_)
    refine L_go rfl (X_p (p_assign rfl rfl) ?_)
    refine L_then (.cons (k := 0) rfl (.cons (k := 3) rfl (.cons (k := 4) rfl (.cons (k := 6) rfl (.cons (k := 7) rfl (.cons (k := 8) rfl .nil)))))) ?_
    refine V_seq (V_region rfl ?_)
    refine L_go rfl (X_p (p_move rfl rfl) ?_)
    refine L_go rfl (X_p (p_geq rfl rfl rfl) ?_)
    refine L_go rfl (X_p (p_move rfl rfl) ?_)
    refine L_cases (d := 15) rfl ?_ ?_
    · intro g1; have g1' := g1; try simp only [td] at g1'
      refine L_yes rfl rfl rfl g1 (X_p (p_move rfl rfl) ?_)
      refine L_yes rfl rfl rfl g1 (X_p (p_leq rfl rfl rfl) ?_)
      refine L_go rfl (X_p (p_pick_t rfl rfl g1 rfl) ?_)
      refine L_go rfl (X_p (p_not rfl rfl) ?_)
      refine L_go rfl (X_p (p_move rfl rfl) ?_)
      refine L_cases (d := 20) rfl ?_ ?_
      · intro g2; have g2' := g2; try simp only [td] at g2'
        refine L_yes rfl rfl rfl g2 (X_p (p_move rfl rfl) ?_)
        refine L_yes rfl rfl rfl g2 (X_p (p_eql rfl rfl rfl) ?_)
        refine L_yes rfl rfl rfl g2 (X_p (p_move rfl rfl) ?_)
        refine L_cases (d := 23) rfl ?_ ?_
        · intro g3; have g3' := g3; try simp only [td] at g3'
          refine L_no rfl rfl rfl g3 ?_
          refine L_no rfl rfl rfl g3 ?_
          refine L_no rfl rfl rfl g3 ?_
          refine L_nou rfl rfl rfl ?_
          refine L_nou rfl rfl rfl ?_
          refine L_nou rfl rfl rfl ?_
          refine L_nou rfl rfl rfl ?_
          refine L_nou rfl rfl rfl ?_
          refine L_nou rfl rfl rfl ?_
          refine L_nou rfl rfl rfl ?_
          refine L_no rfl rfl rfl g3 ?_
          refine L_yes rfl rfl rfl g2 (X_p (p_pick_t rfl rfl g3 rfl) ?_)
          refine L_go rfl (X_p (p_pick_t rfl rfl g2 rfl) ?_)
          refine L_then (.cons (k := 0) rfl (.cons (k := 6) rfl (.cons (k := 7) rfl (.cons (k := 8) rfl (.cons (k := 36) rfl .nil))))) ?_
          refine V_cond_t rfl rfl ?_
          refine V_seq (V_region rfl ?_)
          refine L_go rfl (X_p (p_assign rfl rfl) ?_)
          refine L_then (.cons (k := 2) rfl .nil) ?_
          refine V_ret (blk_r (then_r (then_r (blk_r (then_r ?_)))))
          refine Leave.nil (.tmp rfl .nil) ?_
          first | (show Value.bool false = _; rw [nameOk_bad (k := k.toNat) (by omega) (by simp only [nameC, small, Bool.or_eq_true, Bool.and_eq_true, decide_eq_true_eq, decide_eq_false_iff_not, ← Bool.not_eq_true]; omega)]; done) | (show Value.bool (!(oP _ _ _)) = _; rw [nameOk_end (fun j hj => hkn j (by omega))])
        · intro g3; have g3' := g3; try simp only [td] at g3'
          refine L_yes rfl rfl rfl g3 (X_p (p_move rfl rfl) ?_)
          refine L_yes rfl rfl rfl g3 (X_p (p_neq rfl rfl rfl) ?_)
          refine L_yes rfl rfl rfl g3 (X_p (p_move rfl rfl) ?_)
          refine L_cases (d := 26) rfl ?_ ?_
          · intro g4; have g4' := g4; try simp only [td] at g4'
            refine L_yes rfl rfl rfl g4 (X_p (p_move rfl rfl) ?_)
            refine L_yes rfl rfl rfl g4 (X_p (p_geq rfl rfl rfl) ?_)
            refine L_yes rfl rfl rfl g4 (X_p (p_move rfl rfl) ?_)
            refine L_cases (d := 29) rfl ?_ ?_
            · intro g5; have g5' := g5; try simp only [td] at g5'
              refine L_yes rfl rfl rfl g5 (X_p (p_move rfl rfl) ?_)
              refine L_yes rfl rfl rfl g5 (X_p (p_leq rfl rfl rfl) ?_)
              refine L_yes rfl rfl rfl g4 (X_p (p_pick_t rfl rfl g5 rfl) ?_)
              refine L_yes rfl rfl rfl g4 (X_p (p_not rfl rfl) ?_)
              refine L_yes rfl rfl rfl g3 (X_p (p_pick_t rfl rfl g4 rfl) ?_)
              refine L_yes rfl rfl rfl g2 (X_p (p_pick_f rfl rfl g3 rfl) ?_)
              refine L_go rfl (X_p (p_pick_t rfl rfl g2 rfl) ?_)
              refine L_then (.cons (k := 0) rfl (.cons (k := 6) rfl (.cons (k := 7) rfl (.cons (k := 8) rfl (.cons (k := 36) rfl .nil))))) ?_
              refine V_cond rfl ?_ ?_
              · intro c2; try simp only [td] at c2
                refine V_seq (V_region rfl ?_)
                refine L_go rfl (X_p (p_assign rfl rfl) ?_)
                refine L_then (.cons (k := 2) rfl .nil) ?_
                refine V_ret (blk_r (then_r (then_r (blk_r (then_r ?_)))))
                refine Leave.nil (.tmp rfl .nil) ?_
                first | (show Value.bool false = _; rw [nameOk_bad (k := k.toNat) (by omega) (by simp only [nameC, small, Bool.or_eq_true, Bool.and_eq_true, decide_eq_true_eq, decide_eq_false_iff_not, ← Bool.not_eq_true]; omega)]; done) | (show Value.bool (!(oP _ _ _)) = _; rw [nameOk_end (fun j hj => hkn j (by omega))])
              · intro c2; try simp only [td] at c2
                refine V_skip (blk_n (then_n ?_))
                refine V_region rfl ?_
                first | refine L_go rfl (X_p (p_add' rfl rfl rfl (by unfold InI; omega)) ?_) | refine L_go rfl (X_p (p_add rfl rfl rfl) ?_)
                refine L_go rfl (X_p (p_move rfl rfl) ?_)
                refine L_keep (.cons (k := 0) rfl (.cons (k := 6) rfl (.cons (k := 7) rfl (.cons (k := 8) rfl .nil)))) (then_n ?_)
                refine ⟨k + 1, ?_, ?_, (.cons rfl (.cons rfl (.cons rfl (.cons rfl (.nil _))))), (by repeat (first | exact List.Sublist.refl _ | apply List.Sublist.cons_cons | apply List.Sublist.cons | apply List.sublist_append_of_sublist_right)), rfl⟩
                · refine ⟨by omega, by omega, fun j hj => ?_⟩; by_cases e : (j : Int) < k
                  · exact hkn j e
                  · have ej : j = k.toNat := by omega
                    rw [ej]; simp only [nameC, small, Bool.or_eq_true, Bool.and_eq_true, decide_eq_true_eq, decide_eq_false_iff_not, ← Bool.not_eq_true]; omega
                · omega
            · intro g5; have g5' := g5; try simp only [td] at g5'
              refine L_no rfl rfl rfl g5 ?_
              refine L_no rfl rfl rfl g5 ?_
              refine L_yes rfl rfl rfl g4 (X_p (p_pick_f rfl rfl g5 rfl) ?_)
              refine L_yes rfl rfl rfl g4 (X_p (p_not rfl rfl) ?_)
              refine L_yes rfl rfl rfl g3 (X_p (p_pick_t rfl rfl g4 rfl) ?_)
              refine L_yes rfl rfl rfl g2 (X_p (p_pick_f rfl rfl g3 rfl) ?_)
              refine L_go rfl (X_p (p_pick_t rfl rfl g2 rfl) ?_)
              refine L_then (.cons (k := 0) rfl (.cons (k := 6) rfl (.cons (k := 7) rfl (.cons (k := 8) rfl (.cons (k := 36) rfl .nil))))) ?_
              refine V_cond_t rfl rfl ?_
              refine V_seq (V_region rfl ?_)
              refine L_go rfl (X_p (p_assign rfl rfl) ?_)
              refine L_then (.cons (k := 2) rfl .nil) ?_
              refine V_ret (blk_r (then_r (then_r (blk_r (then_r ?_)))))
              refine Leave.nil (.tmp rfl .nil) ?_
              first | (show Value.bool false = _; rw [nameOk_bad (k := k.toNat) (by omega) (by simp only [nameC, small, Bool.or_eq_true, Bool.and_eq_true, decide_eq_true_eq, decide_eq_false_iff_not, ← Bool.not_eq_true]; omega)]; done) | (show Value.bool (!(oP _ _ _)) = _; rw [nameOk_end (fun j hj => hkn j (by omega))])
          · intro g4; have g4' := g4; try simp only [td] at g4'
            refine L_no rfl rfl rfl g4 ?_
            refine L_no rfl rfl rfl g4 ?_
            refine L_no rfl rfl rfl g4 ?_
            refine L_nou rfl rfl rfl ?_
            refine L_nou rfl rfl rfl ?_
            refine L_no rfl rfl rfl g4 ?_
            refine L_no rfl rfl rfl g4 ?_
            refine L_yes rfl rfl rfl g3 (X_p (p_pick_f rfl rfl g4 rfl) ?_)
            refine L_yes rfl rfl rfl g2 (X_p (p_pick_f rfl rfl g3 rfl) ?_)
            refine L_go rfl (X_p (p_pick_t rfl rfl g2 rfl) ?_)
            refine L_then (.cons (k := 0) rfl (.cons (k := 6) rfl (.cons (k := 7) rfl (.cons (k := 8) rfl (.cons (k := 36) rfl .nil))))) ?_
            refine V_cond_f rfl rfl ?_
            refine V_skip (blk_n (then_n ?_))
            refine V_region rfl ?_
            first | refine L_go rfl (X_p (p_add' rfl rfl rfl (by unfold InI; omega)) ?_) | refine L_go rfl (X_p (p_add rfl rfl rfl) ?_)
            refine L_go rfl (X_p (p_move rfl rfl) ?_)
            refine L_keep (.cons (k := 0) rfl (.cons (k := 6) rfl (.cons (k := 7) rfl (.cons (k := 8) rfl .nil)))) (then_n ?_)
            refine ⟨k + 1, ?_, ?_, (.cons rfl (.cons rfl (.cons rfl (.cons rfl (.nil _))))), (by repeat (first | exact List.Sublist.refl _ | apply List.Sublist.cons_cons | apply List.Sublist.cons | apply List.sublist_append_of_sublist_right)), rfl⟩
            · refine ⟨by omega, by omega, fun j hj => ?_⟩; by_cases e : (j : Int) < k
              · exact hkn j e
              · have ej : j = k.toNat := by omega
                rw [ej]; simp only [nameC, small, Bool.or_eq_true, Bool.and_eq_true, decide_eq_true_eq, decide_eq_false_iff_not, ← Bool.not_eq_true]; omega
            · omega
      · intro g2; have g2' := g2; try simp only [td] at g2'
        refine L_no rfl rfl rfl g2 ?_
        refine L_no rfl rfl rfl g2 ?_
        refine L_no rfl rfl rfl g2 ?_
        refine L_nou rfl rfl rfl ?_
        refine L_nou rfl rfl rfl ?_
        refine L_nou rfl rfl rfl ?_
        refine L_nou rfl rfl rfl ?_
        refine L_nou rfl rfl rfl ?_
        refine L_nou rfl rfl rfl ?_
        refine L_nou rfl rfl rfl ?_
        refine L_nou rfl rfl rfl ?_
        refine L_nou rfl rfl rfl ?_
        refine L_nou rfl rfl rfl ?_
        refine L_nou rfl rfl rfl ?_
        refine L_no rfl rfl rfl g2 ?_
        refine L_go rfl (X_p (p_pick_f rfl rfl g2 rfl) ?_)
        refine L_then (.cons (k := 0) rfl (.cons (k := 6) rfl (.cons (k := 7) rfl (.cons (k := 8) rfl (.cons (k := 36) rfl .nil))))) ?_
        refine V_cond_f rfl rfl ?_
        refine V_skip (blk_n (then_n ?_))
        refine V_region rfl ?_
        first | refine L_go rfl (X_p (p_add' rfl rfl rfl (by unfold InI; omega)) ?_) | refine L_go rfl (X_p (p_add rfl rfl rfl) ?_)
        refine L_go rfl (X_p (p_move rfl rfl) ?_)
        refine L_keep (.cons (k := 0) rfl (.cons (k := 6) rfl (.cons (k := 7) rfl (.cons (k := 8) rfl .nil)))) (then_n ?_)
        refine ⟨k + 1, ?_, ?_, (.cons rfl (.cons rfl (.cons rfl (.cons rfl (.nil _))))), (by repeat (first | exact List.Sublist.refl _ | apply List.Sublist.cons_cons | apply List.Sublist.cons | apply List.sublist_append_of_sublist_right)), rfl⟩
        · refine ⟨by omega, by omega, fun j hj => ?_⟩; by_cases e : (j : Int) < k
          · exact hkn j e
          · have ej : j = k.toNat := by omega
            rw [ej]; simp only [nameC, small, Bool.or_eq_true, Bool.and_eq_true, decide_eq_true_eq, decide_eq_false_iff_not, ← Bool.not_eq_true]; omega
        · omega
    · intro g1; have g1' := g1; try simp only [td] at g1'
      refine L_no rfl rfl rfl g1 ?_
      refine L_no rfl rfl rfl g1 ?_
      refine L_go rfl (X_p (p_pick_f rfl rfl g1 rfl) ?_)
      refine L_go rfl (X_p (p_not rfl rfl) ?_)
      refine L_go rfl (X_p (p_move rfl rfl) ?_)
      refine L_yes rfl rfl rfl rfl (X_p (p_move rfl rfl) ?_)
      refine L_yes rfl rfl rfl rfl (X_p (p_eql rfl rfl rfl) ?_)
      refine L_yes rfl rfl rfl rfl (X_p (p_move rfl rfl) ?_)
      refine L_cases (d := 23) rfl ?_ ?_
      · intro g6; have g6' := g6; try simp only [td] at g6'
        refine L_no rfl rfl rfl g6 ?_
        refine L_no rfl rfl rfl g6 ?_
        refine L_no rfl rfl rfl g6 ?_
        refine L_nou rfl rfl rfl ?_
        refine L_nou rfl rfl rfl ?_
        refine L_nou rfl rfl rfl ?_
        refine L_nou rfl rfl rfl ?_
        refine L_nou rfl rfl rfl ?_
        refine L_nou rfl rfl rfl ?_
        refine L_nou rfl rfl rfl ?_
        refine L_no rfl rfl rfl g6 ?_
        refine L_yes rfl rfl rfl rfl (X_p (p_pick_t rfl rfl g6 rfl) ?_)
        refine L_go rfl (X_p (p_pick_t rfl rfl rfl rfl) ?_)
        refine L_then (.cons (k := 0) rfl (.cons (k := 6) rfl (.cons (k := 7) rfl (.cons (k := 8) rfl (.cons (k := 36) rfl .nil))))) ?_
        refine V_cond_t rfl rfl ?_
        refine V_seq (V_region rfl ?_)
        refine L_go rfl (X_p (p_assign rfl rfl) ?_)
        refine L_then (.cons (k := 2) rfl .nil) ?_
        refine V_ret (blk_r (then_r (then_r (blk_r (then_r ?_)))))
        refine Leave.nil (.tmp rfl .nil) ?_
        first | (show Value.bool false = _; rw [nameOk_bad (k := k.toNat) (by omega) (by simp only [nameC, small, Bool.or_eq_true, Bool.and_eq_true, decide_eq_true_eq, decide_eq_false_iff_not, ← Bool.not_eq_true]; omega)]; done) | (show Value.bool (!(oP _ _ _)) = _; rw [nameOk_end (fun j hj => hkn j (by omega))])
      · intro g6; have g6' := g6; try simp only [td] at g6'
        refine L_yes rfl rfl rfl g6 (X_p (p_move rfl rfl) ?_)
        refine L_yes rfl rfl rfl g6 (X_p (p_neq rfl rfl rfl) ?_)
        refine L_yes rfl rfl rfl g6 (X_p (p_move rfl rfl) ?_)
        refine L_cases (d := 26) rfl ?_ ?_
        · intro g7; have g7' := g7; try simp only [td] at g7'
          refine L_yes rfl rfl rfl g7 (X_p (p_move rfl rfl) ?_)
          refine L_yes rfl rfl rfl g7 (X_p (p_geq rfl rfl rfl) ?_)
          refine L_yes rfl rfl rfl g7 (X_p (p_move rfl rfl) ?_)
          refine L_cases (d := 29) rfl ?_ ?_
          · intro g8; have g8' := g8; try simp only [td] at g8'
            refine L_yes rfl rfl rfl g8 (X_p (p_move rfl rfl) ?_)
            refine L_yes rfl rfl rfl g8 (X_p (p_leq rfl rfl rfl) ?_)
            refine L_yes rfl rfl rfl g7 (X_p (p_pick_t rfl rfl g8 rfl) ?_)
            refine L_yes rfl rfl rfl g7 (X_p (p_not rfl rfl) ?_)
            refine L_yes rfl rfl rfl g6 (X_p (p_pick_t rfl rfl g7 rfl) ?_)
            refine L_yes rfl rfl rfl rfl (X_p (p_pick_f rfl rfl g6 rfl) ?_)
            refine L_go rfl (X_p (p_pick_t rfl rfl rfl rfl) ?_)
            refine L_then (.cons (k := 0) rfl (.cons (k := 6) rfl (.cons (k := 7) rfl (.cons (k := 8) rfl (.cons (k := 36) rfl .nil))))) ?_
            refine V_cond rfl ?_ ?_
            · intro c3; try simp only [td] at c3
              refine V_seq (V_region rfl ?_)
              refine L_go rfl (X_p (p_assign rfl rfl) ?_)
              refine L_then (.cons (k := 2) rfl .nil) ?_
              refine V_ret (blk_r (then_r (then_r (blk_r (then_r ?_)))))
              refine Leave.nil (.tmp rfl .nil) ?_
              first | (show Value.bool false = _; rw [nameOk_bad (k := k.toNat) (by omega) (by simp only [nameC, small, Bool.or_eq_true, Bool.and_eq_true, decide_eq_true_eq, decide_eq_false_iff_not, ← Bool.not_eq_true]; omega)]; done) | (show Value.bool (!(oP _ _ _)) = _; rw [nameOk_end (fun j hj => hkn j (by omega))])
            · intro c3; try simp only [td] at c3
              refine V_skip (blk_n (then_n ?_))
              refine V_region rfl ?_
              first | refine L_go rfl (X_p (p_add' rfl rfl rfl (by unfold InI; omega)) ?_) | refine L_go rfl (X_p (p_add rfl rfl rfl) ?_)
              refine L_go rfl (X_p (p_move rfl rfl) ?_)
              refine L_keep (.cons (k := 0) rfl (.cons (k := 6) rfl (.cons (k := 7) rfl (.cons (k := 8) rfl .nil)))) (then_n ?_)
              refine ⟨k + 1, ?_, ?_, (.cons rfl (.cons rfl (.cons rfl (.cons rfl (.nil _))))), (by repeat (first | exact List.Sublist.refl _ | apply List.Sublist.cons_cons | apply List.Sublist.cons | apply List.sublist_append_of_sublist_right)), rfl⟩
              · refine ⟨by omega, by omega, fun j hj => ?_⟩; by_cases e : (j : Int) < k
                · exact hkn j e
                · have ej : j = k.toNat := by omega
                  rw [ej]; simp only [nameC, small, Bool.or_eq_true, Bool.and_eq_true, decide_eq_true_eq, decide_eq_false_iff_not, ← Bool.not_eq_true]; omega
              · omega
          · intro g8; have g8' := g8; try simp only [td] at g8'
            refine L_no rfl rfl rfl g8 ?_
            refine L_no rfl rfl rfl g8 ?_
            refine L_yes rfl rfl rfl g7 (X_p (p_pick_f rfl rfl g8 rfl) ?_)
            refine L_yes rfl rfl rfl g7 (X_p (p_not rfl rfl) ?_)
            refine L_yes rfl rfl rfl g6 (X_p (p_pick_t rfl rfl g7 rfl) ?_)
            refine L_yes rfl rfl rfl rfl (X_p (p_pick_f rfl rfl g6 rfl) ?_)
            refine L_go rfl (X_p (p_pick_t rfl rfl rfl rfl) ?_)
            refine L_then (.cons (k := 0) rfl (.cons (k := 6) rfl (.cons (k := 7) rfl (.cons (k := 8) rfl (.cons (k := 36) rfl .nil))))) ?_
            refine V_cond_t rfl rfl ?_
            refine V_seq (V_region rfl ?_)
            refine L_go rfl (X_p (p_assign rfl rfl) ?_)
            refine L_then (.cons (k := 2) rfl .nil) ?_
            refine V_ret (blk_r (then_r (then_r (blk_r (then_r ?_)))))
            refine Leave.nil (.tmp rfl .nil) ?_
            first | (show Value.bool false = _; rw [nameOk_bad (k := k.toNat) (by omega) (by simp only [nameC, small, Bool.or_eq_true, Bool.and_eq_true, decide_eq_true_eq, decide_eq_false_iff_not, ← Bool.not_eq_true]; omega)]; done) | (show Value.bool (!(oP _ _ _)) = _; rw [nameOk_end (fun j hj => hkn j (by omega))])
        · intro g7; have g7' := g7; try simp only [td] at g7'
          refine L_no rfl rfl rfl g7 ?_
          refine L_no rfl rfl rfl g7 ?_
          refine L_no rfl rfl rfl g7 ?_
          refine L_nou rfl rfl rfl ?_
          refine L_nou rfl rfl rfl ?_
          refine L_no rfl rfl rfl g7 ?_
          refine L_no rfl rfl rfl g7 ?_
          refine L_yes rfl rfl rfl g6 (X_p (p_pick_f rfl rfl g7 rfl) ?_)
          refine L_yes rfl rfl rfl rfl (X_p (p_pick_f rfl rfl g6 rfl) ?_)
          refine L_go rfl (X_p (p_pick_t rfl rfl rfl rfl) ?_)
          refine L_then (.cons (k := 0) rfl (.cons (k := 6) rfl (.cons (k := 7) rfl (.cons (k := 8) rfl (.cons (k := 36) rfl .nil))))) ?_
          refine V_cond_f rfl rfl ?_
          refine V_skip (blk_n (then_n ?_))
          refine V_region rfl ?_
          first | refine L_go rfl (X_p (p_add' rfl rfl rfl (by unfold InI; omega)) ?_) | refine L_go rfl (X_p (p_add rfl rfl rfl) ?_)
          refine L_go rfl (X_p (p_move rfl rfl) ?_)
          refine L_keep (.cons (k := 0) rfl (.cons (k := 6) rfl (.cons (k := 7) rfl (.cons (k := 8) rfl .nil)))) (then_n ?_)
          refine ⟨k + 1, ?_, ?_, (.cons rfl (.cons rfl (.cons rfl (.cons rfl (.nil _))))), (by repeat (first | exact List.Sublist.refl _ | apply List.Sublist.cons_cons | apply List.Sublist.cons | apply List.sublist_append_of_sublist_right)), rfl⟩
          · refine ⟨by omega, by omega, fun j hj => ?_⟩; by_cases e : (j : Int) < k
            · exact hkn j e
            · have ej : j = k.toNat := by omega
              rw [ej]; simp only [nameC, small, Bool.or_eq_true, Bool.and_eq_true, decide_eq_true_eq, decide_eq_false_iff_not, ← Bool.not_eq_true]; omega
          · omega
  · intro c1; try simp only [td] at c1
    refine V_exit (then_e (then_e (blk_e rfl (then_n ?_))))
    refine V_seq (V_region rfl ?_)
    refine L_go rfl (X_p (p_move rfl rfl) ?_)
    refine L_go rfl (X_p (p_lens ist9 rfl rfl) ?_)
    refine L_go rfl (X_wr (w_callP rfl rfl rfl (fun w hg => wout_c _ _ _ w)) ?_)
    rintro _ _ ⟨rfl, rfl⟩
    refine L_go rfl (X_p (p_not rfl rfl) ?_)
    refine L_go rfl (X_p (p_assign rfl rfl) ?_)
    refine L_then (.cons (k := 2) rfl .nil) ?_
    refine V_ret ?_
    refine Leave.nil (.tmp rfl .nil) ?_
    first | (show Value.bool false = _; rw [nameOk_bad (k := k.toNat) (by omega) (by simp only [nameC, small, Bool.or_eq_true, Bool.and_eq_true, decide_eq_true_eq, decide_eq_false_iff_not, ← Bool.not_eq_true]; omega)]; done) | (show Value.bool (!(oP _ _ _)) = _; rw [nameOk_end (fun j hj => hkn j (by omega))])
theorem never_c (l : List Int) (v : Value) (w : World) (hv : SliceR w 1 v (l.map fun n => [Value.int .i64 n])) (hl : (l.length : Int) ≤ 9223372036854775806) : FnP Tryd.prog 51 [v] w (.bool (l.any fun n => oP n 0 100000)) := by
  refine fn_pure Tryd.func51 rfl (by kernel_rfl) Tryd.ntmps51 Tryd.results51 rfl ?_
  refine V_seq (V_region rfl ?_)
  refine L_go rfl (X_p (p_assign rfl rfl) ?_)
  refine L_then (.cons (k := 0) rfl .nil) ?_
  refine V_seq (V_region rfl ?_)
  refine L_go rfl (X_p (p_move rfl rfl) ?_)
  refine L_go rfl (X_wr (w_callP rfl rfl rfl (fun w hg => contInt_c l _ _ _ _ w (hv.good hg) hl (fun x w' he => never1_c x w'))) ?_)
  rintro _ _ ⟨rfl, rfl⟩
  refine L_go rfl (X_p (p_assign rfl rfl) ?_)
  refine L_then (.cons (k := 2) rfl .nil) ?_
  refine V_ret ?_
  refine Leave.nil (.tmp rfl .nil) ?_
  rfl
theorem wide1_c (n most : Int) (hm : 0 ≤ most ∧ most ≤ 1000000000000000000) (b ty : Nat) (fr : Nat × Nat) (w : World) (hb : w.heap[b]? = some (.cells #[.int .i64 most] ty fr)) : FnP Tryd.prog 76 [.int .i64 n, .pointer (some ⟨b, 0, none⟩)] w (.bool (oP n (-most) most)) := by
  refine fn_pure Tryd.func76 rfl (by kernel_rfl) Tryd.ntmps76 Tryd.results76 rfl ?_
  refine V_seq (V_region rfl ?_)
  refine L_go rfl (X_p (p_assign rfl rfl) ?_)
  refine L_then (.cons (k := 0) rfl (.cons (k := 1) rfl .nil)) ?_
  refine V_seq (V_region rfl ?_)
  refine L_go rfl (X_p (p_move rfl rfl) ?_)
  refine L_go rfl (X_rd (r_loadB ag3 rfl rfl (own_cell hb 0) List.not_mem_nil) ?_)
  first | refine L_go rfl (X_p (p_neg' rfl rfl (by unfold InI; omega)) ?_) | refine L_go rfl (X_p (p_neg rfl rfl) ?_)
  refine L_go rfl (X_rd (r_loadB ag3 rfl rfl (own_cell hb 0) List.not_mem_nil) ?_)
  refine L_go rfl (X_wr (w_callP rfl rfl rfl (fun w hg => out_c _ _ _ w)) ?_)
  rintro _ _ ⟨rfl, rfl⟩
  refine L_go rfl (X_p (p_assign rfl rfl) ?_)
  refine L_then (.cons (k := 3) rfl .nil) ?_
  refine V_ret ?_
  refine Leave.nil (.tmp rfl .nil) ?_
  rfl
theorem wide_c (most : Int) (hm : 0 ≤ most ∧ most ≤ 1000000000000000000) (l : List Int) (v : Value) (w : World) (hv : SliceR w 1 v (l.map fun n => [Value.int .i64 n])) (hl : (l.length : Int) ≤ 9223372036854775806) : FnP Tryd.prog 55 [.int .i64 most, v] w (.bool (l.any fun n => oP n (-most) most)) := by
  refine fn_pure Tryd.func55 rfl (by kernel_rfl) Tryd.ntmps55 Tryd.results55 rfl ?_
  refine V_seq (V_region rfl ?_)
  refine L_go rfl (X_wr (w_box rfl rfl) ?_)
  rintro _ _ ⟨b1, hb1, rfl, rfl⟩
  refine L_go rfl (X_p (p_assign rfl rfl) ?_)
  refine L_then (.cons (k := 1) rfl (.cons (k := 2) rfl .nil)) ?_
  refine V_seq (V_region rfl ?_)
  refine L_go rfl (X_p (p_move rfl rfl) ?_)
  refine L_go rfl (X_p (p_func rfl rfl rfl) ?_)
  refine L_go rfl (X_wr (w_callP rfl rfl rfl (fun w hg => contInt_c l _ _ _ _ w (hv.good hg) hl (fun x w' he => wide1_c x most hm _ _ _ w' (he.heap (hg.own _ (by repeat first | exact mH | apply mT)))))) ?_)
  rintro _ _ ⟨rfl, rfl⟩
  refine L_go rfl (X_p (p_assign rfl rfl) ?_)
  refine L_then (.cons (k := 4) rfl .nil) ?_
  refine V_ret ?_
  refine Leave.nil (.tmp rfl .nil) ?_
  rfl
theorem chk1_c (y x : Tracker) (b ty : Nat) (fr : Nat × Nat) (w : World) (hb : w.heap[b]? = some (.cells (Tracker.cells x).toArray ty fr)) : FnP Tryd.prog 81 [.agg (Tracker.cells y).toArray, .pointer (some ⟨b, 0, none⟩)] w (.bool (decide (y.name = x.name))) := by
  refine fn_pure Tryd.func81 rfl (by kernel_rfl) Tryd.ntmps81 Tryd.results81 rfl ?_
  refine V_seq (V_region rfl ?_)
  refine L_go rfl (X_wr (w_box rfl rfl) ?_)
  rintro _ _ ⟨b1, hb1, rfl, rfl⟩
  refine L_go rfl (X_p (p_assign rfl rfl) ?_)
  refine L_then (.cons (k := 1) rfl (.cons (k := 2) rfl .nil)) ?_
  refine V_seq (V_region rfl ?_)
  refine L_go rfl (X_p (p_fieldo fo162_0 rfl rfl) ?_)
  refine L_go rfl (X_rd (r_load ag9 rfl rfl (by repeat first | exact mH | apply mT) rfl) ?_)
  refine L_go rfl (X_p (p_field fo162_0 rfl rfl) ?_)
  refine L_go rfl (X_rd (r_loadB ag9 rfl rfl (own_cell hb 0) List.not_mem_nil) ?_)
  refine L_go rfl (X_p (p_eqls rfl rfl rfl) ?_)
  refine L_go rfl (X_p (p_assign rfl rfl) ?_)
  refine L_then (.cons (k := 3) rfl .nil) ?_
  refine V_ret ?_
  refine Leave.nil (.tmp rfl .nil) ?_
  rfl
theorem check_c (t : Task) (v : Value) (w : World) (ht : TaskR w v t) : FnP Tryd.prog 61 [v] w (.tuple #[.int .i64 (checkT t).1, .int .i64 (checkT t).2.1, .int .i64 (checkT t).2.2]) := by
  have hT := ht
  obtain ⟨tv, pv, rfl, htr, hpl⟩ := ht.ex
  obtain ⟨ta, tc, rfl, htc, hte⟩ := htr.ex
  obtain ⟨pa, pc, rfl, hpc, hpe⟩ := hpl.ex
  have hltr := hT.ltr
  have hlpl := hT.lpl
  simp only [List.length_map] at hT htc hpc ⊢
  refine fn_pure Tryd.func61 rfl (by kernel_rfl) Tryd.ntmps61 Tryd.results61 rfl ?_
  refine V_seq (V_region rfl ?_)
  refine L_go rfl (X_wr (w_box rfl rfl) ?_)
  rintro _ _ ⟨b1, hb1, rfl, rfl⟩
  refine L_go rfl (X_p (p_assign rfl rfl) ?_)
  refine L_go rfl (X_p (p_assign rfl rfl) ?_)
  refine L_go rfl (X_p (p_assign rfl rfl) ?_)
  refine L_then (.cons (k := 1) rfl .nil) ?_
  refine V_seq ?_
  refine V_block ?_
  refine V_seq (V_region rfl ?_)
  refine L_go rfl (X_p (p_fieldo fo54_3 rfl rfl) ?_)
  refine L_go rfl (X_rd (r_load ag51 rfl rfl (by repeat first | exact mH | apply mT) rfl) ?_)
  refine L_go rfl (X_p (p_len isl51 rfl rfl) ?_)
  refine L_go rfl (X_p (p_gtr rfl rfl rfl) ?_)
  refine L_go rfl (X_p (p_move rfl rfl) ?_)
  refine L_cases (d := 16) rfl ?_ ?_
  · intro g1; have g1' := g1; try simp only [td] at g1'
    refine L_no rfl rfl rfl g1 ?_
    refine L_no rfl rfl rfl g1 ?_
    refine L_no rfl rfl rfl g1 ?_
    refine L_no rfl rfl rfl g1 ?_
    refine L_go rfl (X_p (p_pick_t rfl rfl g1 rfl) ?_)
    refine L_go rfl (X_p (p_assign rfl rfl) ?_)
    refine L_then (.cons (k := 1) rfl (.cons (k := 11) rfl .nil)) ?_
    refine V_cond_t rfl rfl ?_
    refine V_seq (V_region rfl ?_)
    refine L_go rfl (X_p (p_assign rfl rfl) ?_)
    refine L_go rfl (X_p (p_assign rfl rfl) ?_)
    refine L_go rfl (X_p (p_assign rfl rfl) ?_)
    refine L_then (.cons (k := 2) rfl (.cons (k := 3) rfl (.cons (k := 4) rfl .nil))) ?_
    refine V_ret (blk_r (then_r ?_))
    refine Leave.nil (.tmp rfl (.tmp rfl (.tmp rfl .nil))) ?_
    rw [checkT_long (by omega)]; rfl
  · intro g1; have g1' := g1; try simp only [td] at g1'
    refine L_yes rfl rfl rfl g1 (X_p (p_fieldo fo54_4 rfl rfl) ?_)
    refine L_yes rfl rfl rfl g1 (X_rd (r_load ag52 rfl rfl (by repeat first | exact mH | apply mT) rfl) ?_)
    refine L_yes rfl rfl rfl g1 (X_p (p_len isl52 rfl rfl) ?_)
    refine L_yes rfl rfl rfl g1 (X_p (p_gtr rfl rfl rfl) ?_)
    refine L_go rfl (X_p (p_pick_f rfl rfl g1 rfl) ?_)
    refine L_go rfl (X_p (p_assign rfl rfl) ?_)
    refine L_then (.cons (k := 1) rfl (.cons (k := 11) rfl .nil)) ?_
    refine V_cond rfl ?_ ?_
    · intro c1; try simp only [td] at c1
      refine V_seq (V_region rfl ?_)
      refine L_go rfl (X_p (p_assign rfl rfl) ?_)
      refine L_go rfl (X_p (p_assign rfl rfl) ?_)
      refine L_go rfl (X_p (p_assign rfl rfl) ?_)
      refine L_then (.cons (k := 2) rfl (.cons (k := 3) rfl (.cons (k := 4) rfl .nil))) ?_
      refine V_ret (blk_r (then_r ?_))
      refine Leave.nil (.tmp rfl (.tmp rfl (.tmp rfl .nil))) ?_
      rw [checkT_long (by omega)]; rfl
    · intro c1; try simp only [td] at c1
      refine V_seq (V_region rfl ?_)
      refine L_go rfl (X_p (p_fieldo fo54_0 rfl rfl) ?_)
      refine L_go rfl (X_rd (r_load ag3 rfl rfl (by repeat first | exact mH | apply mT) rfl) ?_)
      refine L_go rfl (X_wr (w_slice (r := [_]) un66 sz3 zr3 rfl (by decide) rfl (by decide) rfl rfl) ?_)
      rintro _ _ ⟨b2, hb2, rfl, rfl⟩
      refine L_go rfl (X_wr (w_callP rfl rfl rfl (fun w hg => never_c [_] _ w (own_ints (l := [_]) (hg.own _ (by repeat first | exact mH | apply mT)) rfl (by decide)) (by simp))) ?_)
      rintro _ _ ⟨rfl, rfl⟩
      refine L_go rfl (X_p (p_move rfl rfl) ?_)
      refine L_cases (d := 27) rfl ?_ ?_
      · intro g2; have g2' := g2; try simp only [td] at g2'
        refine L_no rfl rfl rfl g2 ?_
        refine L_no rfl rfl rfl g2 ?_
        refine L_no rfl rfl rfl g2 ?_
        refine L_go rfl (X_p (p_pick_t rfl rfl g2 rfl) ?_)
        refine L_go rfl (X_p (p_move rfl rfl) ?_)
        refine L_no rfl rfl rfl rfl ?_
        refine L_no rfl rfl rfl rfl ?_
        refine L_no rfl rfl rfl rfl ?_
        refine L_go rfl (X_p (p_pick_t rfl rfl rfl rfl) ?_)
        refine L_go rfl (X_p (p_assign rfl rfl) ?_)
        refine L_then (.cons (k := 1) rfl (.cons (k := 22) rfl .nil)) ?_
        refine V_cond_t rfl rfl ?_
        refine V_seq (V_region rfl ?_)
        refine L_go rfl (X_p (p_assign rfl rfl) ?_)
        refine L_go rfl (X_p (p_assign rfl rfl) ?_)
        refine L_go rfl (X_p (p_assign rfl rfl) ?_)
        refine L_then (.cons (k := 2) rfl (.cons (k := 3) rfl (.cons (k := 4) rfl .nil))) ?_
        refine V_ret (blk_r (then_r ?_))
        refine Leave.nil (.tmp rfl (.tmp rfl (.tmp rfl .nil))) ?_
        rw [checkT_range (by omega) (by omega) (by simp [*])]; rfl
      · intro g2; have g2' := g2; try simp only [td] at g2'
        refine L_yes rfl rfl rfl g2 (X_p (p_fieldo fo54_1 rfl rfl) ?_)
        refine L_yes rfl rfl rfl g2 (X_rd (r_load ag3 rfl rfl (by repeat first | exact mH | apply mT) rfl) ?_)
        refine L_yes rfl rfl rfl g2 (X_wr (w_callP rfl rfl rfl (fun w hg => out_c _ _ _ w)) ?_)
        rintro _ _ ⟨rfl, rfl⟩
        refine L_go rfl (X_p (p_pick_f rfl rfl g2 rfl) ?_)
        refine L_go rfl (X_p (p_move rfl rfl) ?_)
        refine L_cases (d := 32) rfl ?_ ?_
        · intro g3; have g3' := g3; try simp only [td] at g3'
          refine L_no rfl rfl rfl g3 ?_
          refine L_no rfl rfl rfl g3 ?_
          refine L_no rfl rfl rfl g3 ?_
          refine L_go rfl (X_p (p_pick_t rfl rfl g3 rfl) ?_)
          refine L_go rfl (X_p (p_assign rfl rfl) ?_)
          refine L_then (.cons (k := 1) rfl (.cons (k := 22) rfl .nil)) ?_
          refine V_cond_t rfl rfl ?_
          refine V_seq (V_region rfl ?_)
          refine L_go rfl (X_p (p_assign rfl rfl) ?_)
          refine L_go rfl (X_p (p_assign rfl rfl) ?_)
          refine L_go rfl (X_p (p_assign rfl rfl) ?_)
          refine L_then (.cons (k := 2) rfl (.cons (k := 3) rfl (.cons (k := 4) rfl .nil))) ?_
          refine V_ret (blk_r (then_r ?_))
          refine Leave.nil (.tmp rfl (.tmp rfl (.tmp rfl .nil))) ?_
          rw [checkT_range (by omega) (by omega) (by simp [*])]; rfl
        · intro g3; have g3' := g3; try simp only [td] at g3'
          refine L_yes rfl rfl rfl g3 (X_p (p_fieldo fo54_2 rfl rfl) ?_)
          refine L_yes rfl rfl rfl g3 (X_rd (r_load ag3 rfl rfl (by repeat first | exact mH | apply mT) rfl) ?_)
          refine L_yes rfl rfl rfl g3 (X_wr (w_callP rfl rfl rfl (fun w hg => out_c _ _ _ w)) ?_)
          rintro _ _ ⟨rfl, rfl⟩
          refine L_go rfl (X_p (p_pick_f rfl rfl g3 rfl) ?_)
          refine L_go rfl (X_p (p_assign rfl rfl) ?_)
          refine L_then (.cons (k := 1) rfl (.cons (k := 22) rfl .nil)) ?_
          refine V_cond rfl ?_ ?_
          · intro c2; try simp only [td] at c2
            refine V_seq (V_region rfl ?_)
            refine L_go rfl (X_p (p_assign rfl rfl) ?_)
            refine L_go rfl (X_p (p_assign rfl rfl) ?_)
            refine L_go rfl (X_p (p_assign rfl rfl) ?_)
            refine L_then (.cons (k := 2) rfl (.cons (k := 3) rfl (.cons (k := 4) rfl .nil))) ?_
            refine V_ret (blk_r (then_r ?_))
            refine Leave.nil (.tmp rfl (.tmp rfl (.tmp rfl .nil))) ?_
            rw [checkT_range (by omega) (by omega) (by simp [*])]; rfl
          · intro c2; try simp only [td] at c2
            refine V_skip (blk_n (then_n ?_))
            refine V_seq ?_
            refine V_seq (V_region rfl ?_)
            refine L_go rfl (X_p (p_fieldo fo54_3 rfl rfl) ?_)
            refine L_go rfl (X_rd (r_load ag51 rfl rfl (by repeat first | exact mH | apply mT) rfl) ?_)
            refine L_go rfl (X_p (p_len isl51 rfl rfl) ?_)
            refine L_go rfl (X_p (p_move rfl rfl) ?_)
            refine L_then (.cons (k := 1) rfl (.cons (k := 38) rfl (.cons (k := 39) rfl (.cons (k := 40) rfl .nil)))) ?_
            refine V_block ?_
            refine V_loop0 (γ := Int) (.cons (k := 1) rfl (.cons (k := 38) rfl (.cons (k := 39) rfl .nil))) (fun k => [(40, .int .i64 k)]) (fun k => 0 ≤ k ∧ k ≤ t.trackers.length ∧ ∀ j : Nat, (j : Int) < k → errTr t j = 0) (fun k => (t.trackers.length - k).toNat) (0) (.cons rfl (.nil _)) (⟨by omega, by omega, fun j hj => by omega⟩) ?_
            rintro k hi
            obtain ⟨hk0, hk1, hkp⟩ := hi
            refine V_seq (V_region rfl ?_)
            refine L_go rfl (X_p (p_lss rfl rfl rfl) ?_)
            refine L_then (.cons (k := 1) rfl (.cons (k := 38) rfl (.cons (k := 39) rfl (.cons (k := 40) rfl (.cons (k := 41) rfl .nil))))) ?_
            refine V_seq ?_
            refine V_cond rfl ?_ ?_
            · intro c3; try simp only [td] at c3
              obtain ⟨tb, rfl, hc⟩ := hte k.toNat _ (getD_cells (d := trZ) (by omega))
              refine V_skip (then_n ?_)
              refine V_seq ?_
              refine V_block ?_
              refine V_seq (V_region rfl ?_)
              refine L_go rfl (X_p (p_move rfl rfl) ?_)
              refine L_go rfl (X_p (p_idx es51 rfl rfl rfl (by omega) (by omega)) ?_)
              refine L_go rfl (X_rd (r_loadBA ag162 sz162 rfl rfl hc rfl List.not_mem_nil) ?_)
              refine L_go rfl (X_wr (w_alloc zr162 rfl) ?_)
              rintro _ _ ⟨b3, hb3, rfl, rfl⟩
              refine L_go rfl (X_p (p_assign rfl rfl) ?_)
              refine L_go rfl (X_wr (w_store (cs' := [_, _, _, _, _, _]) sz162 rfl rfl rfl rfl rfl (by repeat first | exact .head | apply SetAt.tail) (Nat.le_of_ble_eq_true rfl) rfl) ?_)
              rintro _ _ ⟨rfl, rfl⟩
              refine L_then (.cons (k := 1) rfl (.cons (k := 5) rfl (.cons (k := 6) rfl (.cons (k := 38) rfl (.cons (k := 39) rfl (.cons (k := 40) rfl .nil)))))) ?_
              refine V_block ?_
              refine V_seq (V_region rfl ?_)
              refine L_go rfl (X_p (p_fieldo fo162_0 rfl rfl) ?_)
              refine L_go rfl (X_rd (r_load ag9 rfl rfl (by repeat first | exact mH | apply mT) rfl) ?_)
              refine L_go rfl (X_wr (w_callP rfl rfl rfl (fun w hg => wname_c _ (hT.name _) w)) ?_)
              rintro _ _ ⟨rfl, rfl⟩
              refine L_go rfl (X_p (p_not rfl rfl) ?_)
              refine L_go rfl (X_p (p_assign rfl rfl) ?_)
              refine L_then (.cons (k := 1) rfl (.cons (k := 5) rfl (.cons (k := 6) rfl (.cons (k := 38) rfl (.cons (k := 39) rfl (.cons (k := 40) rfl (.cons (k := 45) rfl .nil))))))) ?_
              refine V_cond rfl ?_ ?_
              · intro c4; try simp only [td] at c4
                refine V_seq (V_region rfl ?_)
                refine L_go rfl (X_p (p_move rfl rfl) ?_)
                refine L_go rfl (X_p (p_assign rfl rfl) ?_)
                refine L_go rfl (X_p (p_assign rfl rfl) ?_)
                refine L_go rfl (X_p (p_assign rfl rfl) ?_)
                refine L_then (.cons (k := 2) rfl (.cons (k := 3) rfl (.cons (k := 4) rfl .nil))) ?_
                refine V_ret (blk_r (blk_r (then_r (then_r (blk_r (then_r ?_))))))
                refine Leave.nil (.tmp rfl (.tmp rfl (.tmp rfl .nil))) ?_
                rw [checkT_tr (k := k) (e := 6) (⟨by omega, by omega, by assumption, by assumption, by assumption⟩) (by omega) (by omega) hkp (errTr_form c4) (by decide)]; rfl
              · intro c4; try simp only [td] at c4
                refine V_seq (V_region rfl ?_)
                refine L_go rfl (X_p (p_fieldo fo54_3 rfl rfl) ?_)
                refine L_go rfl (X_rd (r_load ag51 rfl rfl (by repeat first | exact mH | apply mT) rfl) ?_)
                refine L_go rfl (X_p (p_move rfl rfl) ?_)
                refine L_go rfl (X_p (p_slTo es51 rfl rfl rfl (by omega) (by omega)) ?_)
                refine L_go rfl (X_p (p_func rfl rfl rfl) ?_)
                refine L_go rfl (X_wr (w_callP rfl rfl rfl (fun w hg => contTr_c (t.trackers.take k.toNat) _ _ _ (fun y => decide (y.name = (t.tr k.toNat).name)) w ((htr.takeM (k := k.toNat) (by omega)).good hg) (by rw [List.length_take]; omega) (fun x w' he => chk1_c x _ _ _ _ w' (he.heap (hg.own _ (by repeat first | exact mH | apply mT)))))) ?_)
                rintro _ _ ⟨rfl, rfl⟩
                refine L_go rfl (X_p (p_assign rfl rfl) ?_)
                refine L_then (.cons (k := 1) rfl (.cons (k := 5) rfl (.cons (k := 6) rfl (.cons (k := 38) rfl (.cons (k := 39) rfl (.cons (k := 40) rfl (.cons (k := 51) rfl .nil))))))) ?_
                refine V_cond rfl ?_ ?_
                · intro c5; try simp only [td] at c5
                  refine V_seq (V_region rfl ?_)
                  refine L_go rfl (X_p (p_move rfl rfl) ?_)
                  refine L_go rfl (X_p (p_assign rfl rfl) ?_)
                  refine L_go rfl (X_p (p_assign rfl rfl) ?_)
                  refine L_go rfl (X_p (p_assign rfl rfl) ?_)
                  refine L_then (.cons (k := 2) rfl (.cons (k := 3) rfl (.cons (k := 4) rfl .nil))) ?_
                  refine V_ret (blk_r (blk_r (then_r (then_r (blk_r (then_r ?_))))))
                  refine Leave.nil (.tmp rfl (.tmp rfl (.tmp rfl .nil))) ?_
                  rw [dup_take (by omega)] at c5
                  rw [checkT_tr (k := k) (e := 5) (⟨by omega, by omega, by assumption, by assumption, by assumption⟩) (by omega) (by omega) hkp (errTr_dup c4 c5) (by decide)]; rfl
                · intro c5; try simp only [td] at c5
                  refine V_seq (V_region rfl ?_)
                  refine L_go rfl (X_p (p_fieldo fo162_1 rfl rfl) ?_)
                  refine L_go rfl (X_rd (r_load ag3 rfl rfl (by repeat first | exact mH | apply mT) rfl) ?_)
                  refine L_go rfl (X_p (p_fieldo fo162_2 rfl rfl) ?_)
                  refine L_go rfl (X_rd (r_load ag3 rfl rfl (by repeat first | exact mH | apply mT) rfl) ?_)
                  refine L_go rfl (X_wr (w_slice (r := [_, _]) un66 sz3 zr3 rfl (by decide) rfl (by decide) rfl rfl) ?_)
                  rintro _ _ ⟨b4, hb4, rfl, rfl⟩
                  refine L_go rfl (X_wr (w_callP rfl rfl rfl (fun w hg => wide_c _ (by decide) [_, _] _ w (own_ints (l := [_, _]) (hg.own _ (by repeat first | exact mH | apply mT)) rfl (by decide)) (by simp))) ?_)
                  rintro _ _ ⟨rfl, rfl⟩
                  refine L_go rfl (X_p (p_move rfl rfl) ?_)
                  refine L_cases (d := 66) rfl ?_ ?_
                  · intro g4; have g4' := g4; try simp only [td] at g4'
                    refine L_no rfl rfl rfl g4 ?_
                    refine L_no rfl rfl rfl g4 ?_
                    refine L_no rfl rfl rfl g4 ?_
                    refine L_go rfl (X_p (p_pick_t rfl rfl g4 rfl) ?_)
                    refine L_go rfl (X_p (p_move rfl rfl) ?_)
                    refine L_no rfl rfl rfl rfl ?_
                    refine L_no rfl rfl rfl rfl ?_
                    refine L_no rfl rfl rfl rfl ?_
                    refine L_go rfl (X_p (p_pick_t rfl rfl rfl rfl) ?_)
                    refine L_go rfl (X_p (p_move rfl rfl) ?_)
                    refine L_no rfl rfl rfl rfl ?_
                    refine L_no rfl rfl rfl rfl ?_
                    refine L_no rfl rfl rfl rfl ?_
                    refine L_go rfl (X_p (p_pick_t rfl rfl rfl rfl) ?_)
                    refine L_go rfl (X_p (p_assign rfl rfl) ?_)
                    refine L_then (.cons (k := 1) rfl (.cons (k := 5) rfl (.cons (k := 38) rfl (.cons (k := 39) rfl (.cons (k := 40) rfl (.cons (k := 59) rfl .nil)))))) ?_
                    refine V_cond_t rfl rfl ?_
                    refine V_seq (V_region rfl ?_)
                    refine L_go rfl (X_p (p_move rfl rfl) ?_)
                    refine L_go rfl (X_p (p_assign rfl rfl) ?_)
                    refine L_go rfl (X_p (p_assign rfl rfl) ?_)
                    refine L_go rfl (X_p (p_assign rfl rfl) ?_)
                    refine L_then (.cons (k := 2) rfl (.cons (k := 3) rfl (.cons (k := 4) rfl .nil))) ?_
                    refine V_ret (blk_r (blk_r (then_r (then_r (blk_r (then_r ?_))))))
                    refine Leave.nil (.tmp rfl (.tmp rfl (.tmp rfl .nil))) ?_
                    rw [dup_take (by omega)] at c5
                    rw [checkT_tr (k := k) (e := 7) (⟨by omega, by omega, by assumption, by assumption, by assumption⟩) (by omega) (by omega) hkp (errTr_out c4 c5 (by simp only [trOut, Task.tr, Bool.or_eq_true, Bool.or_eq_false_iff, Bool.false_eq_true, or_true, true_or, or_false, false_or, and_true, true_and, and_self, *])) (by decide)]; rfl
                  · intro g4; have g4' := g4; try simp only [td] at g4'
                    refine L_yes rfl rfl rfl g4 (X_p (p_fieldo fo162_3 rfl rfl) ?_)
                    refine L_yes rfl rfl rfl g4 (X_rd (r_load ag3 rfl rfl (by repeat first | exact mH | apply mT) rfl) ?_)
                    refine L_yes rfl rfl rfl g4 (X_wr (w_callP rfl rfl rfl (fun w hg => out_c _ _ _ w)) ?_)
                    rintro _ _ ⟨rfl, rfl⟩
                    refine L_go rfl (X_p (p_pick_f rfl rfl g4 rfl) ?_)
                    refine L_go rfl (X_p (p_move rfl rfl) ?_)
                    refine L_cases (d := 71) rfl ?_ ?_
                    · intro g5; have g5' := g5; try simp only [td] at g5'
                      refine L_no rfl rfl rfl g5 ?_
                      refine L_no rfl rfl rfl g5 ?_
                      refine L_no rfl rfl rfl g5 ?_
                      refine L_go rfl (X_p (p_pick_t rfl rfl g5 rfl) ?_)
                      refine L_go rfl (X_p (p_move rfl rfl) ?_)
                      refine L_no rfl rfl rfl rfl ?_
                      refine L_no rfl rfl rfl rfl ?_
                      refine L_no rfl rfl rfl rfl ?_
                      refine L_go rfl (X_p (p_pick_t rfl rfl rfl rfl) ?_)
                      refine L_go rfl (X_p (p_assign rfl rfl) ?_)
                      refine L_then (.cons (k := 1) rfl (.cons (k := 5) rfl (.cons (k := 38) rfl (.cons (k := 39) rfl (.cons (k := 40) rfl (.cons (k := 59) rfl .nil)))))) ?_
                      refine V_cond_t rfl rfl ?_
                      refine V_seq (V_region rfl ?_)
                      refine L_go rfl (X_p (p_move rfl rfl) ?_)
                      refine L_go rfl (X_p (p_assign rfl rfl) ?_)
                      refine L_go rfl (X_p (p_assign rfl rfl) ?_)
                      refine L_go rfl (X_p (p_assign rfl rfl) ?_)
                      refine L_then (.cons (k := 2) rfl (.cons (k := 3) rfl (.cons (k := 4) rfl .nil))) ?_
                      refine V_ret (blk_r (blk_r (then_r (then_r (blk_r (then_r ?_))))))
                      refine Leave.nil (.tmp rfl (.tmp rfl (.tmp rfl .nil))) ?_
                      rw [dup_take (by omega)] at c5
                      rw [checkT_tr (k := k) (e := 7) (⟨by omega, by omega, by assumption, by assumption, by assumption⟩) (by omega) (by omega) hkp (errTr_out c4 c5 (by simp only [trOut, Task.tr, Bool.or_eq_true, Bool.or_eq_false_iff, Bool.false_eq_true, or_true, true_or, or_false, false_or, and_true, true_and, and_self, *])) (by decide)]; rfl
                    · intro g5; have g5' := g5; try simp only [td] at g5'
                      refine L_yes rfl rfl rfl g5 (X_p (p_fieldo fo162_4 rfl rfl) ?_)
                      refine L_yes rfl rfl rfl g5 (X_rd (r_load ag3 rfl rfl (by repeat first | exact mH | apply mT) rfl) ?_)
                      refine L_yes rfl rfl rfl g5 (X_wr (w_callP rfl rfl rfl (fun w hg => out_c _ _ _ w)) ?_)
                      rintro _ _ ⟨rfl, rfl⟩
                      refine L_go rfl (X_p (p_pick_f rfl rfl g5 rfl) ?_)
                      refine L_go rfl (X_p (p_move rfl rfl) ?_)
                      refine L_cases (d := 76) rfl ?_ ?_
                      · intro g6; have g6' := g6; try simp only [td] at g6'
                        refine L_no rfl rfl rfl g6 ?_
                        refine L_no rfl rfl rfl g6 ?_
                        refine L_no rfl rfl rfl g6 ?_
                        refine L_go rfl (X_p (p_pick_t rfl rfl g6 rfl) ?_)
                        refine L_go rfl (X_p (p_assign rfl rfl) ?_)
                        refine L_then (.cons (k := 1) rfl (.cons (k := 5) rfl (.cons (k := 38) rfl (.cons (k := 39) rfl (.cons (k := 40) rfl (.cons (k := 59) rfl .nil)))))) ?_
                        refine V_cond_t rfl rfl ?_
                        refine V_seq (V_region rfl ?_)
                        refine L_go rfl (X_p (p_move rfl rfl) ?_)
                        refine L_go rfl (X_p (p_assign rfl rfl) ?_)
                        refine L_go rfl (X_p (p_assign rfl rfl) ?_)
                        refine L_go rfl (X_p (p_assign rfl rfl) ?_)
                        refine L_then (.cons (k := 2) rfl (.cons (k := 3) rfl (.cons (k := 4) rfl .nil))) ?_
                        refine V_ret (blk_r (blk_r (then_r (then_r (blk_r (then_r ?_))))))
                        refine Leave.nil (.tmp rfl (.tmp rfl (.tmp rfl .nil))) ?_
                        rw [dup_take (by omega)] at c5
                        rw [checkT_tr (k := k) (e := 7) (⟨by omega, by omega, by assumption, by assumption, by assumption⟩) (by omega) (by omega) hkp (errTr_out c4 c5 (by simp only [trOut, Task.tr, Bool.or_eq_true, Bool.or_eq_false_iff, Bool.false_eq_true, or_true, true_or, or_false, false_or, and_true, true_and, and_self, *])) (by decide)]; rfl
                      · intro g6; have g6' := g6; try simp only [td] at g6'
                        refine L_yes rfl rfl rfl g6 (X_p (p_fieldo fo162_5 rfl rfl) ?_)
                        refine L_yes rfl rfl rfl g6 (X_rd (r_load ag3 rfl rfl (by repeat first | exact mH | apply mT) rfl) ?_)
                        refine L_yes rfl rfl rfl g6 (X_wr (w_callP rfl rfl rfl (fun w hg => out_c _ _ _ w)) ?_)
                        rintro _ _ ⟨rfl, rfl⟩
                        refine L_go rfl (X_p (p_pick_f rfl rfl g6 rfl) ?_)
                        refine L_go rfl (X_p (p_assign rfl rfl) ?_)
                        refine L_then (.cons (k := 1) rfl (.cons (k := 5) rfl (.cons (k := 38) rfl (.cons (k := 39) rfl (.cons (k := 40) rfl (.cons (k := 59) rfl .nil)))))) ?_
                        refine V_cond rfl ?_ ?_
                        · intro c6; try simp only [td] at c6
                          refine V_seq (V_region rfl ?_)
                          refine L_go rfl (X_p (p_move rfl rfl) ?_)
                          refine L_go rfl (X_p (p_assign rfl rfl) ?_)
                          refine L_go rfl (X_p (p_assign rfl rfl) ?_)
                          refine L_go rfl (X_p (p_assign rfl rfl) ?_)
                          refine L_then (.cons (k := 2) rfl (.cons (k := 3) rfl (.cons (k := 4) rfl .nil))) ?_
                          refine V_ret (blk_r (blk_r (then_r (then_r (blk_r (then_r ?_))))))
                          refine Leave.nil (.tmp rfl (.tmp rfl (.tmp rfl .nil))) ?_
                          rw [dup_take (by omega)] at c5
                          rw [checkT_tr (k := k) (e := 7) (⟨by omega, by omega, by assumption, by assumption, by assumption⟩) (by omega) (by omega) hkp (errTr_out c4 c5 (by simp only [trOut, Task.tr, Bool.or_eq_true, Bool.or_eq_false_iff, Bool.false_eq_true, or_true, true_or, or_false, false_or, and_true, true_and, and_self, *])) (by decide)]; rfl
                        · intro c6; try simp only [td] at c6
                          refine V_skip (blk_n (blk_n (then_n ?_)))
                          refine V_region rfl ?_
                          first | refine L_go rfl (X_p (p_add' rfl rfl rfl (by unfold InI; omega)) ?_) | refine L_go rfl (X_p (p_add rfl rfl rfl) ?_)
                          refine L_go rfl (X_p (p_move rfl rfl) ?_)
                          refine L_keep (.cons (k := 1) rfl (.cons (k := 38) rfl (.cons (k := 39) rfl (.cons (k := 40) rfl .nil)))) (then_n ?_)
                          refine ⟨k + 1, ?_, ?_, (.cons rfl (.cons rfl (.cons rfl (.cons rfl (.nil _))))), (by repeat (first | exact List.Sublist.refl _ | apply List.Sublist.cons_cons | apply List.Sublist.cons | apply List.sublist_append_of_sublist_right)), rfl⟩
                          · rw [dup_take (by omega)] at c5
                            refine ⟨by omega, by omega, fun j hj => ?_⟩
                            by_cases e : (j : Int) < k
                            · exact hkp j e
                            · have ej : j = k.toNat := by omega
                              rw [ej]; exact errTr_ok c4 c5 (by simp only [trOut, Task.tr, Bool.or_eq_true, Bool.or_eq_false_iff, Bool.false_eq_true, or_true, true_or, or_false, false_or, and_true, true_and, and_self, *])
                          · omega
            · intro c3; try simp only [td] at c3
              have htr0 : ∀ j : Nat, j < t.trackers.length → errTr t j = 0 := fun j hj => hkp j (by omega)
              refine V_exit (then_e (then_e (blk_e rfl (then_n ?_))))
              refine V_seq (V_region rfl ?_)
              refine L_go rfl (X_wr (w_map rfl) ?_)
              rintro _ _ ⟨b3, hb3, rfl, rfl⟩
              refine L_go rfl (X_p (p_assign rfl rfl) ?_)
              refine L_then (.cons (k := 1) rfl (.cons (k := 7) rfl .nil)) ?_
              refine V_seq ?_
              refine V_seq (V_region rfl ?_)
              refine L_go rfl (X_p (p_fieldo fo54_4 rfl rfl) ?_)
              refine L_go rfl (X_rd (r_load ag52 rfl rfl (by repeat first | exact mH | apply mT) rfl) ?_)
              refine L_go rfl (X_p (p_len isl52 rfl rfl) ?_)
              refine L_go rfl (X_p (p_move rfl rfl) ?_)
              refine L_then (.cons (k := 1) rfl (.cons (k := 7) rfl (.cons (k := 85) rfl (.cons (k := 86) rfl (.cons (k := 87) rfl .nil))))) ?_
              refine V_block ?_
              refine V_loop1 (γ := Int × Array MapEntry × Nat) (.cons (k := 1) rfl (.cons (k := 7) rfl (.cons (k := 85) rfl (.cons (k := 86) rfl .nil)))) (fun (k, es, clk) => [(87, .int .i64 k)]) (fun (k, es, clk) => [(b3, .map es clk), (b1, t.obj (.slice ta t.trackers.length tc) (.slice pa t.plots.length pc) 54)]) (fun (k, es, clk) => 0 ≤ k ∧ k ≤ t.plots.length ∧ (∀ j : Nat, (j : Int) < k → errPl t j = 0) ∧ MapIs es (seenL t k.toNat)) (fun (k, es, clk) => (t.plots.length - k).toNat) ((0, _, _)) (.cons rfl (.nil _)) (by repeat (first | exact List.Sublist.refl _ | apply List.Sublist.cons_cons | apply List.Sublist.cons)) (⟨by omega, by omega, fun j hj => by omega, MapIs.nil⟩) ?_
              rintro ⟨k, es, clk⟩ hi
              obtain ⟨hk0, hk1, hkp, his⟩ := hi
              refine V_seq (V_region rfl ?_)
              refine L_go rfl (X_p (p_lss rfl rfl rfl) ?_)
              refine L_then (.cons (k := 1) rfl (.cons (k := 7) rfl (.cons (k := 85) rfl (.cons (k := 86) rfl (.cons (k := 87) rfl (.cons (k := 88) rfl .nil)))))) ?_
              refine V_seq ?_
              refine V_cond rfl ?_ ?_
              · intro c7; try simp only [td] at c7
                obtain ⟨pb, rfl, hc⟩ := hpe k.toNat _ (getD_cells (d := plZ) (by omega))
                refine V_skip (then_n ?_)
                refine V_seq ?_
                refine V_block ?_
                refine V_seq (V_region rfl ?_)
                refine L_go rfl (X_p (p_move rfl rfl) ?_)
                refine L_go rfl (X_p (p_idx es52 rfl rfl rfl (by omega) (by omega)) ?_)
                refine L_go rfl (X_rd (r_loadBA ag70 sz70 rfl rfl hc rfl List.not_mem_nil) ?_)
                refine L_go rfl (X_wr (w_alloc zr70 rfl) ?_)
                rintro _ _ ⟨b4, hb4, rfl, rfl⟩
                refine L_go rfl (X_p (p_assign rfl rfl) ?_)
                refine L_go rfl (X_wr (w_store (cs' := [_, _, _, _, _]) sz70 rfl rfl rfl rfl rfl (by repeat first | exact .head | apply SetAt.tail) (Nat.le_of_ble_eq_true rfl) rfl) ?_)
                rintro _ _ ⟨rfl, rfl⟩
                refine L_then (.cons (k := 1) rfl (.cons (k := 7) rfl (.cons (k := 8) rfl (.cons (k := 9) rfl (.cons (k := 85) rfl (.cons (k := 86) rfl (.cons (k := 87) rfl .nil))))))) ?_
                refine V_seq (V_region rfl ?_)
                refine L_go rfl (X_p (p_fieldo fo70_0 rfl rfl) ?_)
                refine L_go rfl (X_rd (r_load ag3 rfl rfl (by repeat first | exact mH | apply mT) rfl) ?_)
                refine L_go rfl (X_p (p_fieldo fo70_1 rfl rfl) ?_)
                refine L_go rfl (X_rd (r_load ag3 rfl rfl (by repeat first | exact mH | apply mT) rfl) ?_)
                refine L_go rfl (X_p (p_build (r := [_, _]) pl168 zr168 rfl rfl rfl) ?_)
                refine L_go rfl (X_wr (w_alloc zr168 rfl) ?_)
                rintro _ _ ⟨b5, hb5, rfl, rfl⟩
                refine L_go rfl (X_wr (w_store (cs' := [_, _]) sz168 rfl rfl rfl rfl rfl (by repeat first | exact .head | apply SetAt.tail) (Nat.le_of_ble_eq_true rfl) rfl) ?_)
                rintro _ _ ⟨rfl, rfl⟩
                refine L_then (.cons (k := 1) rfl (.cons (k := 7) rfl (.cons (k := 8) rfl (.cons (k := 9) rfl (.cons (k := 10) rfl (.cons (k := 85) rfl (.cons (k := 86) rfl (.cons (k := 87) rfl .nil)))))))) ?_
                refine V_seq ?_
                refine V_block ?_
                refine V_seq (V_region rfl ?_)
                refine L_go rfl (X_p (p_fieldo fo70_0 rfl rfl) ?_)
                refine L_go rfl (X_rd (r_load ag3 rfl rfl (by repeat first | exact mH | apply mT) rfl) ?_)
                refine L_go rfl (X_p (p_fieldo fo54_3 rfl rfl) ?_)
                refine L_go rfl (X_rd (r_load ag51 rfl rfl (by repeat first | exact mH | apply mT) rfl) ?_)
                refine L_go rfl (X_p (p_len isl51 rfl rfl) ?_)
                first | refine L_go rfl (X_p (p_sub' rfl rfl rfl (by unfold InI; omega)) ?_) | refine L_go rfl (X_p (p_sub rfl rfl rfl) ?_)
                refine L_go rfl (X_wr (w_callP rfl rfl rfl (fun w hg => out_c _ _ _ w)) ?_)
                rintro _ _ ⟨rfl, rfl⟩
                refine L_go rfl (X_p (p_assign rfl rfl) ?_)
                refine L_then (.cons (k := 1) rfl (.cons (k := 7) rfl (.cons (k := 8) rfl (.cons (k := 9) rfl (.cons (k := 10) rfl (.cons (k := 85) rfl (.cons (k := 86) rfl (.cons (k := 87) rfl (.cons (k := 97) rfl .nil))))))))) ?_
                refine V_cond rfl ?_ ?_
                · intro c8; try simp only [td] at c8
                  refine V_seq (V_region rfl ?_)
                  refine L_go rfl (X_p (p_move rfl rfl) ?_)
                  refine L_go rfl (X_p (p_assign rfl rfl) ?_)
                  refine L_go rfl (X_p (p_assign rfl rfl) ?_)
                  refine L_go rfl (X_p (p_assign rfl rfl) ?_)
                  refine L_then (.cons (k := 2) rfl (.cons (k := 3) rfl (.cons (k := 4) rfl .nil))) ?_
                  refine V_ret (blk_r (then_r (blk_r (then_r (then_r (blk_r (then_r ?_)))))))
                  refine Leave.nil (.tmp rfl (.tmp rfl (.tmp rfl .nil))) ?_
                  rw [checkT_pl (k := k) (e := 4) (⟨by omega, by omega, by assumption, by assumption, by assumption⟩) htr0 (by omega) (by omega) hkp (errPl_none c8) (by decide)]; rfl
                · intro c8; try simp only [td] at c8
                  refine V_seq (V_region rfl ?_)
                  refine L_go rfl (X_p (p_fieldo fo70_1 rfl rfl) ?_)
                  refine L_go rfl (X_rd (r_load ag3 rfl rfl (by repeat first | exact mH | apply mT) rfl) ?_)
                  refine L_go rfl (X_p (p_fieldo fo54_0 rfl rfl) ?_)
                  refine L_go rfl (X_rd (r_load ag3 rfl rfl (by repeat first | exact mH | apply mT) rfl) ?_)
                  refine L_go rfl (X_wr (w_callP rfl rfl rfl (fun w hg => out_c _ _ _ w)) ?_)
                  rintro _ _ ⟨rfl, rfl⟩
                  refine L_go rfl (X_p (p_move rfl rfl) ?_)
                  refine L_cases (d := 112) rfl ?_ ?_
                  · intro g7; have g7' := g7; try simp only [td] at g7'
                    refine L_no rfl rfl rfl g7 ?_
                    refine L_no rfl rfl rfl g7 ?_
                    refine L_no rfl rfl rfl g7 ?_
                    refine L_no rfl rfl rfl g7 ?_
                    refine L_no rfl rfl rfl g7 ?_
                    refine L_no rfl rfl rfl g7 ?_
                    refine L_no rfl rfl rfl g7 ?_
                    refine L_no rfl rfl rfl g7 ?_
                    refine L_go rfl (X_p (p_pick_t rfl rfl g7 rfl) ?_)
                    refine L_go rfl (X_p (p_assign rfl rfl) ?_)
                    refine L_then (.cons (k := 1) rfl (.cons (k := 7) rfl (.cons (k := 8) rfl (.cons (k := 10) rfl (.cons (k := 85) rfl (.cons (k := 86) rfl (.cons (k := 87) rfl (.cons (k := 106) rfl .nil)))))))) ?_
                    refine V_cond_t rfl rfl ?_
                    refine V_seq (V_region rfl ?_)
                    refine L_go rfl (X_p (p_move rfl rfl) ?_)
                    refine L_go rfl (X_p (p_assign rfl rfl) ?_)
                    refine L_go rfl (X_p (p_assign rfl rfl) ?_)
                    refine L_go rfl (X_p (p_assign rfl rfl) ?_)
                    refine L_then (.cons (k := 2) rfl (.cons (k := 3) rfl (.cons (k := 4) rfl .nil))) ?_
                    refine V_ret (blk_r (then_r (blk_r (then_r (then_r (blk_r (then_r ?_)))))))
                    refine Leave.nil (.tmp rfl (.tmp rfl (.tmp rfl .nil))) ?_
                    rw [checkT_pl (k := k) (e := 7) (⟨by omega, by omega, by assumption, by assumption, by assumption⟩) htr0 (by omega) (by omega) hkp (errPl_out c8 (by simp only [plOut, Task.pl, Bool.or_eq_true, Bool.or_eq_false_iff, Bool.false_eq_true, or_true, true_or, or_false, false_or, and_true, true_and, and_self, *])) (by decide)]; rfl
                  · intro g7; have g7' := g7; try simp only [td] at g7'
                    refine L_yes rfl rfl rfl g7 (X_p (p_fieldo fo70_2 rfl rfl) ?_)
                    refine L_yes rfl rfl rfl g7 (X_rd (r_load ag3 rfl rfl (by repeat first | exact mH | apply mT) rfl) ?_)
                    refine L_yes rfl rfl rfl g7 (X_p (p_fieldo fo70_3 rfl rfl) ?_)
                    refine L_yes rfl rfl rfl g7 (X_rd (r_load ag3 rfl rfl (by repeat first | exact mH | apply mT) rfl) ?_)
                    refine L_yes rfl rfl rfl g7 (X_p (p_fieldo fo70_4 rfl rfl) ?_)
                    refine L_yes rfl rfl rfl g7 (X_rd (r_load ag3 rfl rfl (by repeat first | exact mH | apply mT) rfl) ?_)
                    refine L_yes rfl rfl rfl g7 (X_wr (w_slice (r := [_, _, _]) un66 sz3 zr3 rfl (by decide) rfl (by decide) rfl rfl) ?_)
                    rintro _ _ ⟨b6, hb6, rfl, rfl⟩
                    refine L_yes rfl rfl rfl g7 (X_wr (w_callP rfl rfl rfl (fun w hg => wide_c _ (by decide) [_, _, _] _ w (own_ints (l := [_, _, _]) (hg.own _ (by repeat first | exact mH | apply mT)) rfl (by decide)) (by simp))) ?_)
                    rintro _ _ ⟨rfl, rfl⟩
                    refine L_go rfl (X_p (p_pick_f rfl rfl g7 rfl) ?_)
                    refine L_go rfl (X_p (p_assign rfl rfl) ?_)
                    refine L_then (.cons (k := 1) rfl (.cons (k := 7) rfl (.cons (k := 8) rfl (.cons (k := 10) rfl (.cons (k := 85) rfl (.cons (k := 86) rfl (.cons (k := 87) rfl (.cons (k := 106) rfl .nil)))))))) ?_
                    refine V_cond rfl ?_ ?_
                    · intro c9; try simp only [td] at c9
                      refine V_seq (V_region rfl ?_)
                      refine L_go rfl (X_p (p_move rfl rfl) ?_)
                      refine L_go rfl (X_p (p_assign rfl rfl) ?_)
                      refine L_go rfl (X_p (p_assign rfl rfl) ?_)
                      refine L_go rfl (X_p (p_assign rfl rfl) ?_)
                      refine L_then (.cons (k := 2) rfl (.cons (k := 3) rfl (.cons (k := 4) rfl .nil))) ?_
                      refine V_ret (blk_r (then_r (blk_r (then_r (then_r (blk_r (then_r ?_)))))))
                      refine Leave.nil (.tmp rfl (.tmp rfl (.tmp rfl .nil))) ?_
                      rw [checkT_pl (k := k) (e := 7) (⟨by omega, by omega, by assumption, by assumption, by assumption⟩) htr0 (by omega) (by omega) hkp (errPl_out c8 (by simp only [plOut, Task.pl, Bool.or_eq_true, Bool.or_eq_false_iff, Bool.false_eq_true, or_true, true_or, or_false, false_or, and_true, true_and, and_self, *])) (by decide)]; rfl
                    · intro c9; try simp only [td] at c9
                      refine V_seq (V_region rfl ?_)
                      refine L_go rfl (X_p (p_move rfl rfl) ?_)
                      refine L_go rfl (X_rd (r_loadA (vs := [_, _]) ag168 sz168 rfl rfl (by repeat first | exact mH | apply mT) rfl) ?_)
                      refine L_go rfl (X_rd (show RdA _ _ _ _ (.bool (seenB t k.toNat (t.pl k.toNat).tracker (t.pl k.toNat).tick)) from seen_look t k.toNat (by omega) _ _ ▸ r_look un166 lv168 ag168 zr4 rfl rfl rfl (k := [_, _]) rfl (by repeat first | exact mH | apply mT) his (seen_fit t _)) ?_)
                      refine L_go rfl (X_p (p_assign rfl rfl) ?_)
                      refine L_then (.cons (k := 1) rfl (.cons (k := 7) rfl (.cons (k := 8) rfl (.cons (k := 10) rfl (.cons (k := 85) rfl (.cons (k := 86) rfl (.cons (k := 87) rfl (.cons (k := 123) rfl .nil)))))))) ?_
                      refine V_cond rfl ?_ ?_
                      · intro c10; try simp only [td] at c10
                        refine V_seq (V_region rfl ?_)
                        refine L_go rfl (X_p (p_move rfl rfl) ?_)
                        refine L_go rfl (X_p (p_assign rfl rfl) ?_)
                        refine L_go rfl (X_p (p_assign rfl rfl) ?_)
                        refine L_go rfl (X_p (p_assign rfl rfl) ?_)
                        refine L_then (.cons (k := 2) rfl (.cons (k := 3) rfl (.cons (k := 4) rfl .nil))) ?_
                        refine V_ret (blk_r (then_r (blk_r (then_r (then_r (blk_r (then_r ?_)))))))
                        refine Leave.nil (.tmp rfl (.tmp rfl (.tmp rfl .nil))) ?_
                        rw [checkT_pl (k := k) (e := 5) (⟨by omega, by omega, by assumption, by assumption, by assumption⟩) htr0 (by omega) (by omega) hkp (errPl_dup c8 (by simp only [plOut, Task.pl, Bool.or_eq_true, Bool.or_eq_false_iff, Bool.false_eq_true, or_true, true_or, or_false, false_or, and_true, true_and, and_self, *]) (by assumption)) (by decide)]; rfl
                      · intro c10; try simp only [td] at c10
                        refine V_skip (blk_n (then_n ?_))
                        refine V_region rfl ?_
                        refine L_go rfl (X_p (p_move rfl rfl) ?_)
                        refine L_go rfl (X_rd (r_loadA (vs := [_, _]) ag168 sz168 rfl rfl (by repeat first | exact mH | apply mT) rfl) ?_)
                        refine L_go rfl (X_wr (w_mapNew un166 lv168 ag168 rfl rfl rfl (k := [_, _]) rfl rfl (fun o' => (by repeat first | exact .head | apply SetAt.tail)) his (seen_fit t _) (seen_none t k.toNat (by omega) _ _ (by assumption))) ?_)
                        rintro _ _ ⟨es1, clk1, rfl, his1⟩
                        refine L_keep (.cons (k := 1) rfl (.cons (k := 7) rfl (.cons (k := 85) rfl (.cons (k := 86) rfl (.cons (k := 87) rfl .nil))))) (blk_n (then_n ?_))
                        refine V_region rfl ?_
                        first | refine L_go rfl (X_p (p_add' rfl rfl rfl (by unfold InI; omega)) ?_) | refine L_go rfl (X_p (p_add rfl rfl rfl) ?_)
                        refine L_go rfl (X_p (p_move rfl rfl) ?_)
                        refine L_keep (.cons (k := 1) rfl (.cons (k := 7) rfl (.cons (k := 85) rfl (.cons (k := 86) rfl (.cons (k := 87) rfl .nil))))) (then_n ?_)
                        refine ⟨(k + 1, es1, clk1), ?_, ?_, (.cons rfl (.cons rfl (.cons rfl (.cons rfl (.cons rfl (.nil _)))))), (by repeat (first | exact List.Sublist.refl _ | apply List.Sublist.cons_cons | apply List.Sublist.cons | apply List.sublist_append_of_sublist_right)), rfl⟩
                        · refine ⟨by omega, by omega, fun j hj => ?_, ?_⟩
                          · by_cases e : (j : Int) < k
                            · exact hkp j e
                            · have ej : j = k.toNat := by omega
                              rw [ej]; exact errPl_ok c8 (by simp only [plOut, Task.pl, Bool.or_eq_true, Bool.or_eq_false_iff, Bool.false_eq_true, or_true, true_or, or_false, false_or, and_true, true_and, and_self, *]) (by assumption)
                          · have e : (k + 1).toNat = k.toNat + 1 := by omega
                            rw [e, seen_succ t _ (by omega)]; exact his1
                        · dsimp only; omega
              · intro c7; try simp only [td] at c7
                refine V_exit (then_e (then_e (blk_e rfl (then_n ?_))))
                refine V_seq (V_region rfl ?_)
                refine L_go rfl (X_p (p_assign rfl rfl) ?_)
                refine L_go rfl (X_p (p_assign rfl rfl) ?_)
                refine L_go rfl (X_p (p_assign rfl rfl) ?_)
                refine L_then (.cons (k := 2) rfl (.cons (k := 3) rfl (.cons (k := 4) rfl .nil))) ?_
                refine V_ret ?_
                refine Leave.nil (.tmp rfl (.tmp rfl (.tmp rfl .nil))) ?_
                rw [checkT_ok (⟨by omega, by omega, by assumption, by assumption, by assumption⟩) htr0 (fun j hj => hkp j (by omega))]; rfl

end Go.Proofs.YtlcccpeelombbaaDoor

/- Calls that panic; ranges over functions that are left early, or by a panic. -/
set_option linter.all false
namespace Go.Vc

/-! ### contracts with panics -/

/-- It returns as R says, or panics as S says. -/
structure FnX (P : Program) (f : FuncId) (args : List Value) (w : World) (R : Value → World → Prop) (S : List PanicEntry → World → Prop) : Prop where
  ent : Ent P f
  calls : CallsIn (FW none) 0 P f args.toArray w fun e w' => (∃ v, e = .returned v ∧ R v w') ∨ ∃ ch, e = .panicked ch ∧ S ch w'

section
variable {P : Program} {f : FuncId} {args : List Value} {w : World}

theorem FnC.x {R : Value → World → Prop} {S : List PanicEntry → World → Prop} (h : FnC P f args w R) : FnX P f args w R S := ⟨h.ent, h.calls.mono fun _ _ h => .inl h⟩
theorem FnX.c {R : Value → World → Prop} (h : FnX P f args w R fun _ _ => False) : FnC P f args w R := ⟨h.ent, h.calls.mono fun _ _ h => h.elim id fun ⟨_, _, h⟩ => h.elim⟩
theorem FnX.mono {R R' : Value → World → Prop} {S S' : List PanicEntry → World → Prop} (h : FnX P f args w R S) (hr : ∀ v w', R v w' → R' v w') (hs : ∀ ch w', S ch w' → S' ch w') : FnX P f args w R' S' :=
  ⟨h.ent, h.calls.mono fun _ _ h => h.elim (fun ⟨v, e, r⟩ => .inl ⟨v, e, hr _ _ r⟩) fun ⟨ch, e, s⟩ => .inr ⟨ch, e, hs _ _ s⟩⟩
end

/-- A panic leaves: marks are cleared. -/
inductive LeaveP (S : Heap → Prop) : List Deferred → Heap → Prop
  | nil {H : Heap} (h : S H) : LeaveP S [] H
  | mark {D : Nat} {ds : List Deferred} {H H' : Heap} (hs : SetAt H D (.deferred (some [])) (.deferred none) H') (h : LeaveP S ds H') : LeaveP S ({ target := .collected D, args := #[] } :: ds) H

def RetX (P : Program) (rs : List ResultVar) (R : Value → Heap → Prop) (S : List PanicEntry → Heap → Prop) : Post := fun e ρ ds H => match e with
  | .normal => Leave P rs R ρ ds H
  | .ret => Leave P rs R ρ ds H
  | .panic ch => LeaveP (S ch) ds H
  | _ => False

theorem leave_leavesX {P : Program} {rs : List ResultVar} {R : Value → Heap → Prop} {S : List PanicEntry → Heap → Prop} {ρ : PEnv} {n : Nat} {w0 : World} {M : List Nat} {fn : Func} (hr : fn.results = rs.toArray) {a : Act} {ds0 : List Deferred} (ha : Agr n ρ ds0 a) :
    ∀ {ds : List Deferred} {H : Heap}, Leave P rs R ρ ds H → ∀ w, Good w0 M H w → LeavesInM (FW none) 0 P fn a.tmps (fun e w' => (∃ v, e = .returned v ∧ ∃ H, Good w0 M H w' ∧ R v H) ∨ ∃ ch, e = .panicked ch ∧ ∃ H, Good w0 M H w' ∧ S ch H) ds .returning w := by
  intro ds H h
  induction h with
  | nil h hR => exact fun w hg => ⟨_, results_run ha hg hr h, .inl ⟨_, rfl, _, hg, hR⟩⟩
  | mark hs h ih =>
    intro w hg
    refine ⟨by simp, .inl ⟨_, _, rfl, run_takeDeferred (hg.own _ hs.mem), ih _ (hg.set hs rfl ⟨rfl, rfl⟩)⟩⟩

theorem leaveP_leaves {P : Program} {R : Value → Heap → Prop} {S : List PanicEntry → Heap → Prop} {ch : List PanicEntry} {w0 : World} {M : List Nat} {fn : Func} {tmps : Array Value} :
    ∀ {ds : List Deferred} {H : Heap}, LeaveP (S ch) ds H → ∀ w, Good w0 M H w → LeavesInM (FW none) 0 P fn tmps (fun e w' => (∃ v, e = .returned v ∧ ∃ H, Good w0 M H w' ∧ R v H) ∨ ∃ ch, e = .panicked ch ∧ ∃ H, Good w0 M H w' ∧ S ch H) ds (.panicking ch) w := by
  intro ds H h
  induction h with
  | nil h => exact fun w hg => .inr ⟨_, rfl, _, hg, h⟩
  | mark hs h ih =>
    intro w hg
    refine ⟨by simp, .inl ⟨_, _, rfl, run_takeDeferred (hg.own _ hs.mem), ih _ (hg.set hs rfl ⟨rfl, rfl⟩)⟩⟩

/-- A function's contract from its body; it may panic; it may live on another's memory. -/
theorem fn_bodyX {P : Program} {f : FuncId} {fn : Func} {c : Code} {args : List Value} {w0 w : World} {M : List Nat} {H0 : Heap} {n : Nat} {rs : List ResultVar} {R : Value → Heap → Prop} {S : List PanicEntry → Heap → Prop}
    (hf : P.funcs[f]? = some fn) (hb : fn.body = some c) (hname : (fn.name == "runtime.NumGoroutine") = false) (hn : fn.ntmps = n) (hr : fn.results = rs.toArray) (hl : Nat.ble args.length n = true) (hg : Good w0 M H0 w)
    (h : V ⟨P, none, n, w0, M⟩ c (argEnv args 0) [] H0 (RetX P rs R S)) : FnX P f args w (fun v w' => ∃ H, Good w0 M H w' ∧ R v H) (fun ch w' => ∃ H, Good w0 M H w' ∧ S ch H) := by
  refine ⟨ent_of hf hname hb, callsIn_of_wp_marks hf hb trivial ?_⟩
  subst hn
  refine wpIn_mono (h _ w (entryAgr (Nat.le_of_ble_eq_true hl)) hg) ?_
  rintro e a w' ⟨ρ, ds, H, ha, hg', hq⟩
  cases e with
  | normal => rw [show bodyPostM (FW none) 0 P fn _ .normal a w' = LeavesInM _ _ _ _ _ _ _ _ _ from rfl, ha.defers]; exact leave_leavesX hr ha hq w' hg'
  | ret => rw [show bodyPostM (FW none) 0 P fn _ .ret a w' = LeavesInM _ _ _ _ _ _ _ _ _ from rfl, ha.defers]; exact leave_leavesX hr ha hq w' hg'
  | panic ch => rw [show bodyPostM (FW none) 0 P fn _ (.panic ch) a w' = LeavesInM _ _ _ _ _ _ _ _ _ from rfl, ha.defers]; exact leaveP_leaves hq w' hg'
  | _ => exact hq.elim

theorem fn_overX {P : Program} {f : FuncId} {fn : Func} {c : Code} {args : List Value} {w0 w : World} {M : List Nat} {H0 : Heap} {n : Nat} {rs : List ResultVar} {R : Value → Heap → Prop} {S : List PanicEntry → Heap → Prop}
    (hf : P.funcs[f]? = some fn) (hb : fn.body = some c) (hname : (fn.name == "runtime.NumGoroutine") = false) (hn : fn.ntmps = n) (hr : fn.results = rs.toArray) (hl : Nat.ble args.length n = true) (hg : Good w0 M H0 w)
    (h : V ⟨P, none, n, w0, M⟩ c (argEnv args 0) [] H0 (RetX P rs (fun v H => ∃ Hc, HSub Hc H ∧ R v Hc) (fun ch H => ∃ Hc, HSub Hc H ∧ S ch Hc))) :
    FnX P f args w (fun v w' => ∃ Hc, Good w0 M Hc w' ∧ R v Hc) (fun ch w' => ∃ Hc, Good w0 M Hc w' ∧ S ch Hc) :=
  (fn_bodyX hf hb hname hn hr hl hg h).mono (fun v w' ⟨_, hg, Hc, hs, hR⟩ => ⟨Hc, hg.hsub hs, hR⟩) (fun v w' ⟨_, hg, Hc, hs, hR⟩ => ⟨Hc, hg.hsub hs, hR⟩)

theorem fn_newX {P : Program} {f : FuncId} {fn : Func} {c : Code} {args : List Value} {w : World} {n : Nat} {rs : List ResultVar} {R : Value → Heap → Prop} {S : List PanicEntry → Heap → Prop}
    (hf : P.funcs[f]? = some fn) (hb : fn.body = some c) (hname : (fn.name == "runtime.NumGoroutine") = false) (hn : fn.ntmps = n) (hr : fn.results = rs.toArray) (hl : Nat.ble args.length n = true)
    (h : V ⟨P, none, n, w, []⟩ c (argEnv args 0) [] [] (RetX P rs (fun v H => ∃ Hc, HSub Hc H ∧ R v Hc) (fun ch H => ∃ Hc, HSub Hc H ∧ S ch Hc))) :
    FnX P f args w (fun v w' => ∃ Hc, Good w [] Hc w' ∧ R v Hc) (fun ch w' => ∃ Hc, Good w [] Hc w' ∧ S ch Hc) :=
  fn_overX hf hb hname hn hr hl (Good.start w) h

section
variable {X : Cx} {ρ : PEnv} {ds : List Deferred} {H : Heap} {Q : Post} {o : Oper} {ops : Array Oper} {l : List Oper}

/-- A call that may panic. -/
theorem X_callX {fo : Operand} {ags : Array Operand} {tys : Array TypeId} {f : FuncId} {cap : Array Value} {vs : List Value} {R : Value → Heap → Prop} {S : List PanicEntry → Heap → Prop} (ho : o.op = .call { callee := .value fo, args := ags, argTypes := tys })
    (hf : ρ.ev fo = some (.func (.func f) #[] cap)) (hv : evL ρ ags.toList = some vs)
    (h : ∀ w, Good X.w0 X.M H w → FnX X.P f (vs ++ cap.toList) w (fun v w' => ∃ H', Good X.w0 X.M H' w' ∧ R v H') (fun ch w' => ∃ H', Good X.w0 X.M H' w' ∧ S ch H'))
    (kp : ∀ ch H', S ch H' → Q (.panic ch) ρ ds H') (k : ∀ v H', R v H' → LL X ops l (ρ.put o.dst v) ds H' Q) : LX X ops o l ρ ds H Q := by
  intro hfit hd a w ha hg
  rw [semAt_of (fun c hc => by rw [ho] at hc; cases hc)]
  have hc := h w hg
  have hargs : ags.map a.eval = vs.toArray := Array.toList_inj.1 (by simp [evL_map ha.evs hv])
  have hrun : (execOp a.eval o).run X.P w = .ok (.enter f (vs ++ cap.toList).toArray) w := by
    have e1 : #[] ++ vs.toArray ++ cap = (vs ++ cap.toList).toArray := by simp
    simp only [execOp, ho, resolve, ha.evs _ _ hf, hargs, Deferred.ofValue, Sem.run_bind, Sem.run_pure, Result.andThen_ok, invoke, e1]
    exact hc.ent _ w
  rw [hrun]
  refine ⟨fun hd => (by simp [FW, Fence.wide] at hd), callsIn_any (hc.calls.mono ?_)⟩
  rintro e w' (⟨v, rfl, H', hg', hR⟩ | ⟨ch, rfl, H', hg', hS⟩)
  · exact k v H' hR hfit _ w' (ha.put (dstLt_iff hd) v) hg'
  · exact ⟨ρ, ds, H', ha, hg', kp ch H' hS⟩

/-- panic(x) -/
theorem X_panic {x : Operand} {v : Value} (ho : o.op = .panic x) (hx : ρ.ev x = some v) (hnn : ∀ a w, Evs ρ a → (execOp a o).run X.P w = .halt (.panic v) w) (k : Q (.panic [{ v, recovered := false }]) ρ ds H) : LX X ops o l ρ ds H Q := by
  intro hfit hd a w ha hg
  rw [semAt_of (fun c hc => by rw [ho] at hc; cases hc), hnn _ w ha.evs]
  exact ⟨ρ, ds, H, ha, hg, k⟩

/-- A deferred call of a function. -/
theorem X_defer {fo : Operand} {tys : Array TypeId} {f : FuncId} {cap : Array Value} (hr : X.r = none) (ho : o.op = .defer { callee := .value fo, args := #[], argTypes := tys })
    (hf : ρ.ev fo = some (.func (.func f) #[] cap)) (k : LL X ops l (ρ.put o.dst undef) ({ target := .fn (.func f) cap, args := #[] } :: ds) H Q) : LX X ops o l ρ ds H Q := by
  intro hfit hd a w ha hg
  have hrun : (o.semAt X.r a.eval).run X.P w = .ok (.defer { target := .fn (.func f) cap, args := #[] }) w := by
    rw [hr, Oper.semAt_none]
    simp [execOp, ho, resolve, ha.evs _ _ hf, Deferred.ofValue]
  rw [hrun]
  refine k hfit _ w ?_ hg
  have h2 : Agr X.n ρ ({ target := .fn (.func f) cap, args := #[] } :: ds) { a with defers := { target := .fn (.func f) cap, args := #[] } :: a.defers } := ⟨ha.at_, ha.size, by rw [← ha.defers]⟩
  exact h2.put (dstLt_iff hd) undef
end

/-! ### ranges over functions -/

/-- The round's end: it goes on, or it ends the loop. -/
def EndX (l : Nat) (r : Loop) (K : Heap → Prop) (KE : Code → Heap → Prop) : Post := fun e _ _ H => match e with
  | .normal => ∃ H', SetAt H l (bsy r) (rdy r) H' ∧ K H'
  | .ret => ∃ H', SetAt H l (bsy r) (dne r .ret) H' ∧ KE .ret H'
  | .exit id => ∃ H', SetAt H l (bsy r) (dne r (.exit id)) H' ∧ KE (.exit id) H'
  | _ => False

/-- A call of yield, from outside: a round that goes on, or the last one. -/
def RoundX (P : Program) (w0 : World) (M : List Nat) (l : Nat) (Pre : List (List Value) → List Value → Prop) (I E : List (List Value) → Heap → Prop) : Prop :=
  ∀ done vs Hs own w, Pre done vs → I done Hs → Good w0 M (Hs ++ own) w → ∃ f tmps assign body, (Instr.yield l vs.toArray).run P w = .ok (.round l f tmps assign body) w ∧
    RoundIn (FW none) 0 P l f tmps assign body w fun e w' => ∃ Hs' go, e = .returned (.bool go) ∧ Good w0 M (Hs' ++ own) w' ∧ ((go = true ∧ I (done ++ [vs]) Hs') ∨ (go = false ∧ E (done ++ [vs]) Hs'))

section
variable {X : Cx} {ρ : PEnv} {ds : List Deferred} {H : Heap} {Q : Post} {o : Oper}

theorem w_yieldX {fo : Operand} {ags : Array Operand} {tys : Array TypeId} {l : Nat} {vs : List Value} {Pre : List (List Value) → List Value → Prop} {I E : List (List Value) → Heap → Prop} {done : List (List Value)} {Hs own : Heap}
    (ho : o.op = .call { callee := .value fo, args := ags, argTypes := tys }) (hf : ρ.ev fo = some (.func (.yield l) #[] #[])) (hv : evL ρ ags.toList = some vs) (hY : RoundX X.P X.w0 X.M l Pre I E) (hpre : Pre done vs) (hI : I done Hs)
    (hH : H = own ++ Hs) : WrA X ρ H o fun v H' => ∃ Hs' go, v = .bool go ∧ H' = own ++ Hs' ∧ ((go = true ∧ I (done ++ [vs]) Hs') ∨ (go = false ∧ E (done ++ [vs]) Hs')) := by
  subst hH
  refine ⟨fun c hc => (by rw [ho] at hc; cases hc), fun a w he hg => ?_⟩
  obtain ⟨f, tmps, assign, body, hrun, hround⟩ := hY done vs Hs own w hpre hI (hg.perm List.perm_append_comm)
  have hargs : ags.map a.eval = vs.toArray := Array.toList_inj.1 (by simp [evL_map he hv])
  have hex : (execOp a.eval o).run X.P w = .ok (.round l f tmps assign body) w := by
    simp only [execOp, ho, resolve, he _ _ hf, hargs, Deferred.ofValue, Sem.run_bind, Sem.run_pure, Result.andThen_ok, invoke, Array.empty_append, hrun]
  rw [hex]
  refine ⟨fun hd => (by simp [FW, Fence.wide] at hd), RoundIn.mono (hround : RoundIn (FW X.r) 0 X.P l f tmps assign body w _) ?_⟩
  rintro e w' ⟨Hs', go, rfl, hg', hI'⟩
  exact ⟨.bool go, own ++ Hs', rfl, hg'.perm List.perm_append_comm, Hs', go, rfl, rfl, hI'⟩

theorem roundX_of {l : Nat} {r : Loop} {ρ0 : PEnv} {ps : Array Tmp} {Pre : List (List Value) → List Value → Prop} {I E : List (List Value) → Heap → Prop} {EC : List (List Value) → Code → Heap → Prop} (htm : Agr X.n ρ0 [] { tmps := r.tmps, defers := [] }) (hps : r.params = ps) (hfit : ∀ t ∈ ps.toList, t < X.n)
    (hin : ∀ done Hs, I done Hs → (l, rdy r) ∈ Hs) (hlen : ∀ done vs, Pre done vs → vs.length = ps.size) (hE : ∀ done c Hs, EC done c Hs → E done Hs)
    (h : ∀ done vs Hs own, Pre done vs → I done Hs → V { X with r := some l } r.assign (bindP ps.toList vs ρ0) [] (Hs ++ own) (AsgQ { X with r := some l } l r r.body
      (EndX l r (fun H' => ∃ Hs', HSub (Hs' ++ own) H' ∧ I (done ++ [vs]) Hs') (fun c H' => ∃ Hs', HSub (Hs' ++ own) H' ∧ EC (done ++ [vs]) c Hs')))) :
    RoundX X.P X.w0 X.M l Pre I E := by
  intro done vs Hs own w hpre hI hg
  have hm : (l, rdy r) ∈ Hs ++ own := List.mem_append_left _ (hin done Hs hI)
  have hl := hg.own _ hm
  refine ⟨_, _, _, _, run_yield (r := { r with state := .ready, pending := none }) hl (by simp [hlen done vs hpre, hps]), ?_⟩
  refine roundIn_of_wpIn trivial ?_
  have hag : Agr X.n (bindP ps.toList vs ρ0) [] { tmps := (r.params.zip vs.toArray).foldl (fun tmps (x : Nat × Value) => match x with | (t, a) => tmps.setIfInBounds t a) r.tmps, defers := [] } := by
    have := agr_bind ps.toList vs hfit htm
    rw [hps]
    have e : (ps.zip vs.toArray) = (ps.toList.zip vs).toArray := by apply Array.toList_inj.1; simp
    rw [e]
    simpa using this
  refine wpIn_mono (h done vs Hs own hpre hI _ w hag hg) ?_
  rintro e a₁ w₁ ⟨ρ1, ds1, H1, hag1, hg1, hq⟩
  cases e <;> first | exact hq.elim | skip
  obtain ⟨H2, hset, hbody⟩ := hq
  have hl1 : w₁.heap[l]? = some (.loop { r with state := .ready, pending := none }) := hg1.own _ hset.mem
  refine ⟨_, run_beginRound hl1 rfl, ?_⟩
  have hg2 : Good X.w0 X.M H2 (w₁.putObj l (bsy r)) := hg1.set hset rfl ⟨rfl, rfl⟩
  refine wpIn_mono (hbody a₁ _ hag1 hg2) ?_
  rintro e a₂ w₂ ⟨ρ2, ds2, H3, hag3, hg3, hq⟩
  cases e <;> first | exact hq.elim | skip
  · obtain ⟨H4, hset2, Hs', hsub, hI'⟩ := hq
    have hl2 : w₂.heap[l]? = some (.loop { r with state := .busy, pending := none }) := hg3.own _ hset2.mem
    have hg4 : Good X.w0 X.M H4 (w₂.putObj l (rdy r)) := hg3.set hset2 rfl ⟨rfl, rfl⟩
    exact ⟨_, _, run_endRound none hl2, Hs', true, rfl, hg4.hsub hsub, .inl ⟨rfl, hI'⟩⟩
  · obtain ⟨H4, hset2, Hs', hsub, hI'⟩ := hq
    have hl2 : w₂.heap[l]? = some (.loop { r with state := .busy, pending := none }) := hg3.own _ hset2.mem
    rename_i id
    have hg4 : Good X.w0 X.M H4 (w₂.putObj l (dne r (.exit id))) := hg3.set hset2 rfl ⟨rfl, rfl⟩
    exact ⟨_, _, run_endRound (some (.exit id)) hl2, Hs', false, rfl, hg4.hsub hsub, .inr ⟨rfl, hE _ _ _ hI'⟩⟩
  · obtain ⟨H4, hset2, Hs', hsub, hI'⟩ := hq
    have hl2 : w₂.heap[l]? = some (.loop { r with state := .busy, pending := none }) := hg3.own _ hset2.mem
    have hg4 : Good X.w0 X.M H4 (w₂.putObj l (dne r .ret)) := hg3.set hset2 rfl ⟨rfl, rfl⟩
    exact ⟨_, _, run_endRound (some .ret) hl2, Hs', false, rfl, hg4.hsub hsub, .inr ⟨rfl, hE _ _ _ hI'⟩⟩

theorem endX_n {l : Nat} {r : Loop} {K : Heap → Prop} {KE : Code → Heap → Prop} {H' : Heap} (hs : SetAt H l (bsy r) (rdy r) H') (h : K H') : EndX l r K KE .normal ρ ds H := ⟨H', hs, h⟩
theorem endX_r {l : Nat} {r : Loop} {K : Heap → Prop} {KE : Code → Heap → Prop} {H' : Heap} (hs : SetAt H l (bsy r) (dne r .ret) H') (h : KE .ret H') : EndX l r K KE .ret ρ ds H := ⟨H', hs, h⟩
theorem endX_e {l i : Nat} {r : Loop} {K : Heap → Prop} {KE : Code → Heap → Prop} {H' : Heap} (hs : SetAt H l (bsy r) (dne r (.exit i)) H') (h : KE (.exit i) H') : EndX l r K KE (.exit i) ρ ds H := ⟨H', hs, h⟩
theorem then_p {k : PEnv → List Deferred → Heap → Prop} {ch : List PanicEntry} (h : Q (.panic ch) ρ ds H) : Then k Q (.panic ch) ρ ds H := h
theorem blk_p {i : Nat} {ch : List PanicEntry} (h : Q (.panic ch) ρ ds H) : InBlock i Q (.panic ch) ρ ds H := h

theorem p_min4 {x y z u : Operand} {ty : Array TypeId} {k : IntKind} {a b c d : Int} (ho : o.op = .call { callee := .builtin .min, args := #[x, y, z, u], argTypes := ty }) (hx : ρ.ev x = some (.int k a)) (hy : ρ.ev y = some (.int k b))
    (hz : ρ.ev z = some (.int k c)) (hu : ρ.ev u = some (.int k d)) : RdP X ρ o (.int k (min (min (min a b) c) d)) := imin_eq (min (min a b) c) d ▸ imin_eq (min a b) c ▸ imin_eq a b ▸
  ⟨fun c h => (by rw [ho] at h; cases h), fun e w he => (by simp [execOp, ho, resolve, invoke, builtin, Builtin.min_, Builtin.min2, he _ _ hx, he _ _ hy, he _ _ hz, he _ _ hu, imin]; try rfl)⟩
theorem p_max4 {x y z u : Operand} {ty : Array TypeId} {k : IntKind} {a b c d : Int} (ho : o.op = .call { callee := .builtin .max, args := #[x, y, z, u], argTypes := ty }) (hx : ρ.ev x = some (.int k a)) (hy : ρ.ev y = some (.int k b))
    (hz : ρ.ev z = some (.int k c)) (hu : ρ.ev u = some (.int k d)) : RdP X ρ o (.int k (max (max (max a b) c) d)) := imax_eq (max (max a b) c) d ▸ imax_eq (max a b) c ▸ imax_eq a b ▸
  ⟨fun c h => (by rw [ho] at h; cases h), fun e w he => (by simp [execOp, ho, resolve, invoke, builtin, Builtin.max_, Builtin.max2, he _ _ hx, he _ _ hy, he _ _ hz, he _ _ hu, imax]; try rfl)⟩

/-- 'x[:]' of an array that lies in memory -/
theorem p_slArr {x : Operand} {t n size b off : Nat} (hs : arrOf X.P t = some (n, size)) (ho : o.op = .slice t x none none none) (hx : ρ.ev x = some (.pointer (some ⟨b, off, none⟩))) (hn : n ≠ 0) : RdP X ρ o (.slice (some ⟨b, off, none⟩) n n) := by
  refine ⟨fun c h => (by rw [ho] at h; cases h), fun e w he => ?_⟩
  unfold arrOf at hs
  cases hu : X.P.underlying t with
  | none => simp [hu] at hs
  | some d =>
    cases d with
    | array m el =>
      simp only [hu, Option.map_eq_some_iff] at hs
      obtain ⟨sz, hsz, e⟩ := hs
      injection e with e1 e2
      subst e1 e2
      simp [execOp, ho, he _ _ hx, Instr.sliceAt, run_underlying' hu, Instr.sureAddr, Instr.sliceBounds, run_sizeOf' hsz, hn, add_zero']
    | _ => simp [hu] at hs

abbrev LD (l D : Nat) (o : Obj) (Hr : Heap) : Heap := (l, o) :: (D, .deferred (some [])) :: Hr

/-- A range over a function: its rounds may leave it (by a return, or an exit), and the function may panic. Hi: what the function has for itself. -/
theorem V_rangeX {g : Operand} {ps : Array Tmp} {assign body : Code} {f : FuncId} {cap : Array Value} {ks : List Nat} {ρf : PEnv} {H0 Hi : Heap} (hr : X.r = none) (hk : Keep ρ ks ρf) (hgv : ρ.ev g = some (.func (.func f) #[] cap)) (hfit : ps.toList.all (Nat.blt · X.n) = true)
    (Pre : List (List Value) → List Value → Prop) (J : List (List Value) → Heap → Prop) (E : List (List Value) → Code → Heap → Prop) (Fin : List (List Value) → Prop) (Sp : List (List Value) → List PanicEntry → Prop)
    (hlen : ∀ done vs, Pre done vs → vs.length = ps.size) (hsub : (H0 ++ Hi).Sublist H) (h0 : J [] H0)
    (round : ∀ l D r done vs Hr own, Pre done vs → J done Hr → V { X with r := some l } assign (bindP ps.toList vs ρf) [] (LD l D (rdy r) (Hr ++ own))
      (AsgQ { X with r := some l } l r body (EndX l r (fun H' => ∃ Hr', HSub (LD l D (rdy r) (Hr' ++ own)) H' ∧ J (done ++ [vs]) Hr') (fun c H' => ∃ Hr', HSub (LD l D (dne r c) (Hr' ++ own)) H' ∧ E (done ++ [vs]) c Hr'))))
    (iter : ∀ l D r w, RoundX X.P X.w0 X.M l Pre (fun done Hs => ∃ Hr, Hs = LD l D (rdy r) Hr ∧ J done Hr) (fun done Hs => ∃ Hr c, Hs = LD l D (dne r c) Hr ∧ E done c Hr) → Good X.w0 X.M (LD l D (rdy r) (H0 ++ Hi)) w →
      FnX X.P f (.func (.yield l) #[] #[] :: cap.toList) w (fun _ w' => ∃ Hs, Good X.w0 X.M Hs w' ∧ ∃ done, (Fin done ∧ ∃ Hr, Hs = LD l D (rdy r) Hr ∧ J done Hr) ∨ ∃ Hr c, Hs = LD l D (dne r c) Hr ∧ E done c Hr)
        (fun ch w' => ∃ Hs, Good X.w0 X.M Hs w' ∧ ∃ done, Sp done ch ∧ ∃ Hr, Hs = LD l D (rdy r) Hr ∧ J done Hr))
    (k : ∀ l D ob done Hr, Fin done → J done Hr → Q .normal ρf ({ target := .collected D, args := #[] } :: ds) (LD l D ob Hr))
    (kE : ∀ l D ob done c Hr, E done c Hr → V X c ρf ({ target := .collected D, args := #[] } :: ds) (LD l D ob Hr) Q)
    (kP : ∀ l D ob done ch Hr, Sp done ch → J done Hr → Q (.panic ch) ρf ({ target := .collected D, args := #[] } :: ds) (LD l D ob Hr)) : V X (.rangeFunc g ps assign body) ρ ds H Q := by
  intro a w ha hg
  have hg0 := hg.sub hsub
  let D := w.heap.size
  let l := w.heap.size + 1
  refine wpIn_rangeFunc fun fn _ => ?_
  let r : Loop := { state := .ready, pending := none, fn := fn, tmps := a.tmps, params := ps, assign := assign, body := body, defers := D }
  have hga : Good X.w0 X.M (LD l D (rdy r) (H0 ++ Hi)) ((w.alloc (.deferred (some []))).alloc (.loop r)) := by
    have h1 := hg0.alloc (.deferred (some []))
    have h2 := h1.alloc (.loop r)
    have e : (w.alloc (.deferred (some []))).heap.size = w.heap.size + 1 := by simp
    rw [e] at h2
    exact h2
  have htm : Agr X.n ρf [] { tmps := r.tmps, defers := [] } := ⟨fun t v ht => (ha.sub hk.sub).at_ t v ht, ha.size, rfl⟩
  have hY : RoundX X.P X.w0 X.M l Pre (fun done Hs => ∃ Hr, Hs = LD l D (rdy r) Hr ∧ J done Hr) (fun done Hs => ∃ Hr c, Hs = LD l D (dne r c) Hr ∧ E done c Hr) := by
    refine roundX_of (ps := ps) (EC := fun done c Hs => ∃ Hr, Hs = LD l D (dne r c) Hr ∧ E done c Hr) htm rfl (fun t ht => Nat.le_of_ble_eq_true (List.all_eq_true.1 hfit t ht)) ?_ hlen ?_ ?_
    · rintro done Hs ⟨Hr, rfl, _⟩; exact .head _
    · rintro done c Hs ⟨Hr, rfl, hE⟩; exact ⟨Hr, c, rfl, hE⟩
    · rintro done vs Hs own hp ⟨Hr, rfl, hJ⟩
      refine V.mono (round l D r done vs Hr own hp hJ) ?_
      intro e ρ1 ds1 H1 hq
      cases e <;> first | exact hq.elim | skip
      obtain ⟨H2, hs, hb⟩ := hq
      refine ⟨H2, hs, hb.mono ?_⟩
      intro e ρ2 ds2 H3 hq
      cases e <;> first | exact hq.elim | skip
      all_goals
        obtain ⟨H4, hs2, Hr', hh, hJ'⟩ := hq
        exact ⟨H4, hs2, _, hh, Hr', rfl, hJ'⟩
  have hc := iter l D r _ hY hga
  have hFr : (FW X.r).round = none := hr
  have h3 := ha.sub hk.sub
  have hag : Agr X.n ρf ({ target := .collected D, args := #[] } :: ds) { a with defers := [{ target := .collected D, args := #[] }] ++ a.defers } := ⟨h3.at_, h3.size, by show [({ target := .collected D, args := #[] } : Deferred)] ++ a.defers = _; rw [h3.defers]; rfl⟩
  refine ⟨l, [{ target := .collected D, args := #[] }], (w.alloc (.deferred (some []))).alloc (.loop r), { target := .fn (.func f) cap, args := #[.func (.yield l) #[] #[]] }, (w.alloc (.deferred (some []))).alloc (.loop r), f, (.func (.yield l) #[] #[] :: cap.toList).toArray, (w.alloc (.deferred (some []))).alloc (.loop r), ?_, ?_, fun _ _ => trivial, ?_, fun hd => (by simp [FW, Fence.wide] at hd), ?_⟩
  · rw [hFr]; exact run_enterLoop_outer fn a.tmps ps assign body
  · simp only [resolve, ha.ev hgv, Deferred.ofValue]
    simp [Act.eval]
  · have e : #[Value.func (.yield l) #[] #[]] ++ cap = (.func (.yield l) #[] #[] :: cap.toList).toArray := by simp
    show (callFunc f (#[Value.func (.yield l) #[] #[]] ++ cap)).run X.P _ = _
    rw [e]; exact hc.ent _ _
  · refine callsIn_any (hc.calls.mono ?_)
    rintro e w' (⟨v, rfl, _, hg', done, h | ⟨Hr, c, rfl, hE⟩⟩ | ⟨ch, rfl, _, hg', done, hS, Hr, rfl, hJ⟩)
    · obtain ⟨hF, Hr, rfl, hJ⟩ := h
      have hl : w'.heap[l]? = some (.loop { r with state := .ready, pending := none }) := hg'.own _ (.head _)
      refine ⟨none, _, run_endLoop hl (by simp), ?_⟩
      exact ⟨ρf, _, _, hag, hg'.set .head rfl ⟨rfl, rfl⟩, k l D _ done Hr hF hJ⟩
    · have hl : w'.heap[l]? = some (.loop { r with state := .done, pending := some c }) := hg'.own _ (.head _)
      refine ⟨some c, _, run_endLoop hl (by simp), ?_⟩
      exact kE l D _ done c Hr hE _ _ hag (hg'.set .head rfl ⟨rfl, rfl⟩)
    · exact ⟨ρf, _, _, hag, hg', kP l D _ done ch Hr hS hJ⟩
end
end Go.Vc

/- Interfaces, rows of the library, scopes. -/
set_option linter.all false
namespace Go.Vc

/-- no jump leaves a scope -/
def NoGoto (Q : Post) : Post := fun e ρ ds H => match e with
  | .goto _ => False
  | e => Q e ρ ds H

section
variable {X : Cx} {ρ : PEnv} {ds : List Deferred} {H : Heap} {Q : Post} {o : Oper}

theorem sc_n (h : Q .normal ρ ds H) : NoGoto Q .normal ρ ds H := h
theorem sc_r (h : Q .ret ρ ds H) : NoGoto Q .ret ρ ds H := h
theorem sc_e {i : Nat} (h : Q (.exit i) ρ ds H) : NoGoto Q (.exit i) ρ ds H := h
theorem sc_p {ch : List PanicEntry} (h : Q (.panic ch) ρ ds H) : NoGoto Q (.panic ch) ρ ds H := h

theorem V_scope {c : Code} (h : V X c ρ ds H (NoGoto Q)) : V X (.scope c) ρ ds H Q := by
  intro a w ha hg b k cs hro hb hr
  obtain ⟨e, a₁, w₁, ⟨ρ', ds', H', h1, h2, h3⟩, harr⟩ := h a w ha hg b (.inScope c :: k) cs hro trivial (FW.room _ _)
  have s0 : StepsIn (Machine.fenced X.P (FW X.r)) X.P (lone (b.atR a (.code (.scope c) :: k)) cs w) (lone (b.atR a (.code c :: .inScope c :: k)) cs w) :=
    .one (fenced_calm (n := 0) (fr := b.atR a (.code (.scope c) :: k)) trivial (FW.room _ _) rfl) (step_lone_go (by simp [stepG, stepG.exec, Frame.atR]))
  cases e with
  | normal =>
    exact ⟨.normal, a₁, w₁, ⟨ρ', ds', H', h1, h2, h3⟩, .of_steps (StepsIn.trans s0 (StepsIn.trans harr (.one (fenced_calm (n := 0) (fr := b.atR a₁ (.inScope c :: k)) trivial (FW.room _ _) rfl) (step_lone_go (by simp [stepG, stepG.exec, Frame.atR]))))) (StepsIn.refl _)⟩
  | exit id => exact ⟨.exit id, a₁, w₁, ⟨ρ', ds', H', h1, h2, h3⟩, .of_steps s0 ⟨fun k' hk => harr.1 k' (by simp [exitTo, hk]), fun hr' hk => harr.2 hr' (by simp [exitTo, hk])⟩⟩
  | goto l => exact h3.elim
  | ret => exact ⟨.ret, a₁, w₁, ⟨ρ', ds', H', h1, h2, h3⟩, .of_steps s0 harr⟩
  | panic ch => exact ⟨.panic ch, a₁, w₁, ⟨ρ', ds', H', h1, h2, h3⟩, .of_steps s0 harr⟩
  | outgrown => exact ⟨.outgrown, a₁, w₁, ⟨ρ', ds', H', h1, h2, h3⟩, .of_steps s0 harr⟩

/-! ### operations on interfaces -/
theorem r_cmp {op : BinOp} {t yt : TypeId} {x y : Operand} {vx vy v : Value} (ho : o.op = .binOp op t x y yt) (hx : ρ.ev x = some vx) (hy : ρ.ev y = some vy)
    (hgd : ∀ w, (eqGuard op t x y vx vy).run X.P w = .ok () w) (h : ∀ w, Good X.w0 X.M H w → (binOp op t vx vy).run X.P w = .ok v w) : RdA X ρ H o v :=
  ⟨fun c hc => (by rw [ho] at hc; cases hc), fun e w he hg => by
    have := h w hg
    simp [execOp, ho, he _ _ hx, he _ _ hy, hgd, this]⟩
theorem p_cmp {op : BinOp} {t yt : TypeId} {x y : Operand} {vx vy v : Value} (ho : o.op = .binOp op t x y yt) (hx : ρ.ev x = some vx) (hy : ρ.ev y = some vy)
    (hgd : ∀ w, (eqGuard op t x y vx vy).run X.P w = .ok () w) (h : ∀ w, (binOp op t vx vy).run X.P w = .ok v w) : RdP X ρ o v :=
  ⟨fun c hc => (by rw [ho] at hc; cases hc), fun e w he => by
    have := h w
    simp [execOp, ho, he _ _ hx, he _ _ hy, hgd, this]⟩
theorem p_assert {x : Operand} {xT T : TypeId} {c : Bool} {vx v : Value} (ho : o.op = .typeAssert x xT T c) (hx : ρ.ev x = some vx)
    (h : ∀ w, (Instr.typeAssert vx xT T c).run X.P w = .ok v w) : RdP X ρ o v :=
  ⟨fun c hc => (by rw [ho] at hc; cases hc), fun e w he => by
    have := h w
    simp [execOp, ho, he _ _ hx, this]⟩
/-- a call of a function of the library that has no text -/
theorem p_row {fo : Operand} {ags : Array Operand} {tys : Array TypeId} {f : FuncId} {vs : List Value} {v : Value} (ho : o.op = .call { callee := .value fo, args := ags, argTypes := tys })
    (hf : ρ.ev fo = some (.func (.func f) #[] #[])) (hv : evL ρ ags.toList = some vs) (h : ∀ w, (callFunc f vs.toArray).run X.P w = .ok (.value v) w) : RdP X ρ o v :=
  ⟨fun c hc => (by rw [ho] at hc; cases hc), fun e w he => by
    have hargs : ags.map e = vs.toArray := Array.toList_inj.1 (by simp [evL_map he hv])
    have e1 : #[] ++ vs.toArray ++ #[] = vs.toArray := by simp
    have := h w
    simp only [execOp, ho, resolve, he _ _ hf, hargs, Deferred.ofValue, Sem.run_bind, Sem.run_pure, Result.andThen_ok, invoke, e1, this]⟩
theorem p_invoke {x : Operand} {name : String} {tys : Array TypeId} {vx v : Value} (ho : o.op = .call { callee := .invoke x name, args := #[], argTypes := tys })
    (hx : ρ.ev x = some vx) (h : ∀ w, (invoke (.fn (.method name) #[]) #[vx]).run X.P w = .ok (.value v) w) : RdP X ρ o v :=
  ⟨fun c hc => (by rw [ho] at hc; cases hc), fun e w he => by
    have := h w
    simp only [execOp, ho, resolve, he _ _ hx, Sem.run_bind, Sem.run_pure, Result.andThen_ok, Array.map_empty, Array.append_empty, this]⟩

theorem setL_app : ∀ (vs pre cs : List Value), vs.length = cs.length → setL (pre ++ cs) pre.length vs = pre ++ vs
  | [], pre, cs, h => by rw [setL, List.eq_nil_of_length_eq_zero h.symm]
  | v :: vs, pre, c :: cs, h => by
    rw [setL]
    have e : (pre ++ c :: cs).set pre.length v = (pre ++ [v]) ++ cs := by simp
    have e2 : pre.length + 1 = (pre ++ [v]).length := by simp
    rw [e, e2, setL_app vs (pre ++ [v]) cs (by simpa using h)]
    simp
/-- a whole block is stored -/
theorem w_storeAll {x y : Operand} {t ty b n : Nat} {cs : Array Value} {v : Value} {cs' : List Value} {H' : Heap} (hs : tySize X.P t = some n) (ho : o.op = .store t x y) (hx : ρ.ev x = some (.pointer (some ⟨b, 0, none⟩)))
    (hy : ρ.ev y = some v) (hcs : v.cells.toList = cs') (hn : cs'.length = n) (hone : oneL cs' = true) (hset : SetAt H b (.cells cs ty) (.cells cs'.toArray ty) H') (hl : cs.toList.length = n) :
    WrA X ρ H o fun u H'' => u = undef ∧ H'' = H' := by
  subst hcs
  refine w_store hs ho hx hy hn hone hset (by omega) ?_
  have := setL_app v.cells.toList [] cs.toList (by omega)
  simpa using this

theorem p_makeI {x : Operand} {t T : TypeId} {v : Value} (ho : o.op = .makeInterface t x) (hx : ρ.ev x = some v) {u : Value} (h : ∀ w, (Instr.makeInterface t v).run X.P w = .ok u w) : RdP X ρ o u :=
  ⟨fun c hc => (by rw [ho] at hc; cases hc), fun e w he => by
    have := h w
    simp [execOp, ho, he _ _ hx, this]⟩
end

theorem eql_nil {P : Program} {ti : TypeId} {ms : Array (String × TypeId)} (hi : P.underlying ti = some (.interface ms)) (w : World) : (binOp .eql ti .nilIface .nilIface).run P w = .ok (.bool true) w := by
  have h : ∀ d : Nat, (Op.equalIn (d + 1) ti .nilIface .nilIface).run P w = .ok true w := fun d => by simp [Op.equalIn, run_underlying hi]
  simp only [binOp]
  simp [Op.equal, Op.maxDepth, h 9999]
theorem eql_some {P : Program} {ti : TypeId} {ms : Array (String × TypeId)} (tp : TypeId) (v : Value) (hi : P.underlying ti = some (.interface ms)) (w : World) : (binOp .eql ti (.iface tp v) .nilIface).run P w = .ok (.bool false) w := by
  have h : ∀ d : Nat, (Op.equalIn (d + 1) ti (.iface tp v) .nilIface).run P w = .ok false w := fun d => by simp [Op.equalIn, run_underlying hi]
  simp only [binOp]
  simp [Op.equal, Op.maxDepth, h 9999]
theorem neq_nil {P : Program} {ti : TypeId} {ms : Array (String × TypeId)} (hi : P.underlying ti = some (.interface ms)) (w : World) : (binOp .neq ti .nilIface .nilIface).run P w = .ok (.bool false) w := by
  have h : ∀ d : Nat, (Op.equalIn (d + 1) ti .nilIface .nilIface).run P w = .ok true w := fun d => by simp [Op.equalIn, run_underlying hi]
  simp only [binOp]
  simp [Op.equal, Op.maxDepth, h 9999]
theorem neq_some {P : Program} {ti : TypeId} {ms : Array (String × TypeId)} (tp : TypeId) (v : Value) (hi : P.underlying ti = some (.interface ms)) (w : World) : (binOp .neq ti (.iface tp v) .nilIface).run P w = .ok (.bool true) w := by
  have h : ∀ d : Nat, (Op.equalIn (d + 1) ti (.iface tp v) .nilIface).run P w = .ok false w := fun d => by simp [Op.equalIn, run_underlying hi]
  simp only [binOp]
  simp [Op.equal, Op.maxDepth, h 9999]

/-- two sentinels -/
structure ErrR (w : World) (gF gL tp : Nat) (aF aL : Addr) : Prop where
  far : w.cell? ⟨gF, 0, none⟩ = some (.iface tp (.pointer (some aF)))
  long : w.cell? ⟨gL, 0, none⟩ = some (.iface tp (.pointer (some aL)))
  ne : aF ≠ aL
  hF : ∃ c t, w.heap[aF.block]? = some (.cells c t (0, 0))
  hL : ∃ c t, w.heap[aL.block]? = some (.cells c t (0, 0))
theorem ErrR.ext {w w' : World} {gF gL tp : Nat} {aF aL : Addr} (h : ErrR w gF gL tp aF aL) (he : Ext w w') : ErrR w' gF gL tp aF aL := by
  obtain ⟨c, t, h1⟩ := h.hF
  obtain ⟨c', t', h2⟩ := h.hL
  exact ⟨he.cell h.far, he.cell h.long, h.ne, ⟨c, t, he.heap h1⟩, ⟨c', t', he.heap h2⟩⟩
theorem ErrR.good {w0 w : World} {H : Heap} {gF gL tp : Nat} {aF aL : Addr} (h : ErrR w0 gF gL tp aF aL) (hg : Good w0 [] H w) : ErrR w gF gL tp aF aL := h.ext hg.toExt

end Go.Vc

/- The plain part of layer 5: rooms, boxes. -/
set_option linter.all false
namespace Go.Tk
open Go.Vc

def apartI (a b : Int) : Int := max (a - b) (b - a)
def partI (x : Plot) (k : Int) : Int := if k = 0 then x.x else if k = 1 then x.y else x.z
def Task.trOf (t : Task) (i : Nat) : Tracker := t.tr (t.pl i).tracker.toNat
def farT (t : Task) (i : Nat) : Int := max (max (apartI (t.pl i).x (t.trOf i).x) (apartI (t.pl i).y (t.trOf i).y)) (apartI (t.pl i).z 0)
def widthT (t : Task) (i : Nat) : Int := (t.trOf i).error + (t.trOf i).grow * ((farT t i + 1000000 - 1).tdiv 1000000)
def capT (t : Task) (n : Int) : Int := min n (t.speed.tdiv t.accel)
def reachT (t : Task) (n : Int) : Int := t.accel * ((capT t n * (capT t n + 1)).tdiv 2) + (n - capT t n) * t.speed

def Span.none (s : Span) : Bool := decide (s.hi < s.lo)
def common (a b : Span) : Span := ⟨max a.lo b.lo, min a.hi b.hi⟩
def aroundS (n d : Int) : Span := ⟨n - d, n + d⟩
def room0 (m : Int) : Span := ⟨-m, m⟩
def slackT (t : Task) (u : Int) (i : Nat) : Int := widthT t i + t.speed * apartI (t.pl i).tick u
def plotS (t : Task) (k u : Int) (i : Int) : Span := aroundS (partI (t.pl i.toNat) k) (slackT t u i.toNat)
def placeN (t : Task) (ps : List Int) (k u : Int) : Span := ps.foldl (fun s i => common s (plotS t k u i)) (room0 (min 2000000000 (reachT t (u - t.frm))))
def placeT (t : Task) (ps : List Int) (k u : Int) : Span := if u - t.frm > 0 then placeN t ps k u else ⟨0, 0⟩

def goneS (s : Span) (lo hi j : Int) : Span := ⟨max s.lo (-((-lo) / j)), min s.hi (hi / j)⟩
def moreB (t : Task) (j : Int) : Int := t.accel * ((j * (j + 1)).tdiv 2)
def moreF (t : Task) (j : Int) : Int := t.accel * ((j * (j - 1)).tdiv 2)
def fastB (t : Task) (ps : List Int) (k u j : Int) (s : Span) : Option Span :=
  if t.frm ≤ u - j then
    if (placeT t ps k (u - j)).none then none else some (goneS s ((placeT t ps k u).lo - (placeT t ps k (u - j)).hi - moreB t j) ((placeT t ps k u).hi - (placeT t ps k (u - j)).lo + moreB t j) j)
  else some s
def fastF (t : Task) (ps : List Int) (k u j : Int) (s : Span) : Option Span :=
  if u + j ≤ 100000 then
    if (placeT t ps k (u + j)).none then none else some (goneS s ((placeT t ps k (u + j)).lo - (placeT t ps k u).hi - moreF t j) ((placeT t ps k (u + j)).hi - (placeT t ps k u).lo + moreF t j) j)
  else some s
def fastN (t : Task) (ps : List Int) (k u : Int) : Nat → Option Span
  | 0 => some (room0 (min t.speed (t.accel * (u - t.frm + 1))))
  | n + 1 => ((fastN t ps k u n).bind (fastB t ps k u (n + 1))).bind (fastF t ps k u (n + 1))
def fastT (t : Task) (ps : List Int) (k u : Int) : Option Span :=
  if u < t.frm then some ⟨0, 0⟩ else (fastN t ps k u 8).bind fun s => if s.none then none else some s

theorem fastN_none {t : Task} {ps : List Int} {k u : Int} {n : Nat} (h : fastN t ps k u n = none) : ∀ m, n ≤ m → fastN t ps k u m = none := by
  intro m
  induction m with
  | zero => intro hm; have : n = 0 := by omega
            subst this; exact h
  | succ m ih =>
    intro hm
    by_cases e : n = m + 1
    · rw [← e]; exact h
    · rw [fastN, ih (by omega)]; rfl

def partT (t : Task) (ps : List Int) (k u : Int) : Option (Span × Span) :=
  (fastT t ps k u).bind fun v => if (placeT t ps k u).none then none else some (placeT t ps k u, v)
def boxT (t : Task) (ps : List Int) (u : Int) : Option Box :=
  (partT t ps 0 u).bind fun a => (partT t ps 1 u).bind fun b => (partT t ps 2 u).bind fun c => some ⟨u, a.1, b.1, c.1, a.2, b.2, c.2⟩

def knownB (t : Task) (now : Int) (i : Nat) : Bool := decide ((t.pl i).tick + (t.trOf i).late ≤ now)
def knownN (t : Task) (now : Int) (n : Nat) : List Int := ((List.range n).filter (knownB t now)).map Int.ofNat
def byN (t : Task) (now : Int) (want : Int → Bool) (n : Nat) : List Int := (knownN t now n).filter fun i => want (t.pl i.toNat).tracker
def byT (t : Task) (now : Int) (want : Int → Bool) : List Int := byN t now want t.plots.length

/-! ### step by step -/

theorem fastB_skip {t : Task} {ps : List Int} {k u j : Int} {s : Span} (h : ¬ t.frm ≤ u - j) : fastB t ps k u j s = some s := if_neg h
theorem fastF_skip {t : Task} {ps : List Int} {k u j : Int} {s : Span} (h : ¬ u + j ≤ 100000) : fastF t ps k u j s = some s := if_neg h
theorem fastB_none {t : Task} {ps : List Int} {k u j : Int} {s : Span} (h : t.frm ≤ u - j) (hn : (placeT t ps k (u - j)).none = true) : fastB t ps k u j s = none := by rw [fastB, if_pos h, if_pos hn]
theorem fastF_none {t : Task} {ps : List Int} {k u j : Int} {s : Span} (h : u + j ≤ 100000) (hn : (placeT t ps k (u + j)).none = true) : fastF t ps k u j s = none := by rw [fastF, if_pos h, if_pos hn]
def sB (t : Task) (ps : List Int) (k u j : Int) (s : Span) : Span := goneS s ((placeT t ps k u).lo - (placeT t ps k (u - j)).hi - moreB t j) ((placeT t ps k u).hi - (placeT t ps k (u - j)).lo + moreB t j) j
def sF (t : Task) (ps : List Int) (k u j : Int) (s : Span) : Span := goneS s ((placeT t ps k (u + j)).lo - (placeT t ps k u).hi - moreF t j) ((placeT t ps k (u + j)).hi - (placeT t ps k u).lo + moreF t j) j
theorem fastB_go {t : Task} {ps : List Int} {k u j : Int} {s : Span} (h : t.frm ≤ u - j) (hn : (placeT t ps k (u - j)).none = false) : fastB t ps k u j s = some (sB t ps k u j s) := by rw [fastB, if_pos h, hn]; rfl
theorem fastF_go {t : Task} {ps : List Int} {k u j : Int} {s : Span} (h : u + j ≤ 100000) (hn : (placeT t ps k (u + j)).none = false) : fastF t ps k u j s = some (sF t ps k u j s) := by rw [fastF, if_pos h, hn]; rfl
theorem fastN_go {t : Task} {ps : List Int} {k u j : Int} {s s1 s2 : Span} (hj : 1 ≤ j) (h : fastN t ps k u (j - 1).toNat = some s) (h1 : fastB t ps k u j s = some s1) (h2 : fastF t ps k u j s1 = some s2) : fastN t ps k u (j + 1 - 1).toNat = some s2 := by
  have e : (j + 1 - 1).toNat = (j - 1).toNat + 1 := by omega
  have e2 : (((j - 1).toNat : Nat) : Int) + 1 = j := by omega
  rw [e, fastN, h, e2]
  simp only [Option.bind_some, h1, h2]
theorem fastT_none1 {t : Task} {ps : List Int} {k u j : Int} {s : Span} (hu : t.frm ≤ u) (hj : 1 ≤ j ∧ j ≤ 8) (h : fastN t ps k u (j - 1).toNat = some s) (h1 : fastB t ps k u j s = none) : fastT t ps k u = none := by
  have e2 : (((j - 1).toNat : Nat) : Int) + 1 = j := by omega
  have : fastN t ps k u ((j - 1).toNat + 1) = none := by rw [fastN, h, e2]; simp only [Option.bind_some, h1, Option.bind_none]
  rw [fastT, if_neg (by omega), fastN_none this 8 (by omega)]; rfl
theorem fastT_none2 {t : Task} {ps : List Int} {k u j : Int} {s s1 : Span} (hu : t.frm ≤ u) (hj : 1 ≤ j ∧ j ≤ 8) (h : fastN t ps k u (j - 1).toNat = some s) (h1 : fastB t ps k u j s = some s1) (h2 : fastF t ps k u j s1 = none) : fastT t ps k u = none := by
  have e2 : (((j - 1).toNat : Nat) : Int) + 1 = j := by omega
  have : fastN t ps k u ((j - 1).toNat + 1) = none := by rw [fastN, h, e2]; simp only [Option.bind_some, h1, h2]
  rw [fastT, if_neg (by omega), fastN_none this 8 (by omega)]; rfl
theorem fastT_end {t : Task} {ps : List Int} {k u : Int} {s : Span} (hu : t.frm ≤ u) (h : fastN t ps k u 8 = some s) : fastT t ps k u = if s.none then none else some s := by
  rw [fastT, if_neg (by omega), h]; rfl

theorem partT_none1 {t : Task} {ps : List Int} {k u : Int} (h : fastT t ps k u = none) : partT t ps k u = none := by rw [partT, h]; rfl
theorem partT_none2 {t : Task} {ps : List Int} {k u : Int} (h : (placeT t ps k u).none = true) : partT t ps k u = none := by
  rw [partT]; cases fastT t ps k u <;> simp [h]
theorem partT_some {t : Task} {ps : List Int} {k u : Int} {v : Span} (h : fastT t ps k u = some v) (h2 : (placeT t ps k u).none = false) : partT t ps k u = some (placeT t ps k u, v) := by rw [partT, h]; simp [h2]
theorem boxT_0 {t : Task} {ps : List Int} {u : Int} (h : partT t ps 0 u = none) : boxT t ps u = none := by rw [boxT, h]; rfl
theorem boxT_1 {t : Task} {ps : List Int} {u : Int} {a : Span × Span} (h : partT t ps 0 u = some a) (h1 : partT t ps 1 u = none) : boxT t ps u = none := by rw [boxT, h, Option.bind_some, h1]; rfl
theorem boxT_2 {t : Task} {ps : List Int} {u : Int} {a b : Span × Span} (h : partT t ps 0 u = some a) (h1 : partT t ps 1 u = some b) (h2 : partT t ps 2 u = none) : boxT t ps u = none := by rw [boxT, h, Option.bind_some, h1, Option.bind_some, h2]; rfl
theorem boxT_3 {t : Task} {ps : List Int} {u : Int} {a b c : Span × Span} (h : partT t ps 0 u = some a) (h1 : partT t ps 1 u = some b) (h2 : partT t ps 2 u = some c) : boxT t ps u = some ⟨u, a.1, b.1, c.1, a.2, b.2, c.2⟩ := by
  rw [boxT, h, Option.bind_some, h1, Option.bind_some, h2]; rfl

theorem getD_mem {l : List Int} {j : Nat} {d : Int} (h : j < l.length) : l.getD j d ∈ l := by
  rw [List.getD_eq_getElem?_getD, List.getElem?_eq_getElem h]; exact List.getElem_mem h
theorem take_snoc {l : List Int} {j : Nat} {d : Int} (h : j < l.length) : l.take (j + 1) = l.take j ++ [l.getD j d] := by
  rw [List.take_add_one, List.getD_eq_getElem?_getD, List.getElem?_eq_getElem h]; rfl

/-! ### how great the numbers are -/

theorem oP_in {n lo hi : Int} (h : oP n lo hi = false) : lo ≤ n ∧ n ≤ hi := oP_false.1 h

structure PlotB (t : Task) (i : Nat) : Prop where
  tr0 : 0 ≤ (t.pl i).tracker
  tr1 : (t.pl i).tracker < t.trackers.length
  tick : t.frm ≤ (t.pl i).tick ∧ (t.pl i).tick ≤ 100000
  x : -2000000000 ≤ (t.pl i).x ∧ (t.pl i).x ≤ 2000000000
  y : -2000000000 ≤ (t.pl i).y ∧ (t.pl i).y ≤ 2000000000
  z : -2000000000 ≤ (t.pl i).z ∧ (t.pl i).z ≤ 2000000000

structure TrB (r : Tracker) : Prop where
  x : -100000000 ≤ r.x ∧ r.x ≤ 100000000
  y : -100000000 ≤ r.y ∧ r.y ≤ 100000000
  error : 0 ≤ r.error ∧ r.error ≤ 10000000
  grow : 0 ≤ r.grow ∧ r.grow ≤ 10000
  late : 0 ≤ r.late ∧ r.late ≤ 600

section
variable {t : Task}
theorem errPl_zero {i : Nat} (h : errPl t i = 0) : oP (t.pl i).tracker 0 (t.trackers.length - 1) = false ∧ plOut t (t.pl i) = false ∧ seenB t i (t.pl i).tracker (t.pl i).tick = false := by
  unfold errPl at h
  cases h1 : oP (t.pl i).tracker 0 (t.trackers.length - 1)
  · cases h2 : plOut t (t.pl i)
    · cases h3 : seenB t i (t.pl i).tracker (t.pl i).tick
      · exact ⟨rfl, rfl, rfl⟩
      · simp [h1, h2, h3] at h
    · simp [h1, h2] at h
  · simp [h1] at h
theorem errTr_zero {i : Nat} (h : errTr t i = 0) : nameOk (t.tr i).name = true ∧ dupB t i = false ∧ trOut (t.tr i) = false := by
  unfold errTr at h
  cases h1 : nameOk (t.tr i).name
  · simp [h1] at h
  · cases h2 : dupB t i
    · cases h3 : trOut (t.tr i)
      · exact ⟨rfl, rfl, rfl⟩
      · simp [h1, h2, h3] at h
    · simp [h1, h2] at h

theorem GoodT.plot (h : GoodT t) {i : Nat} (hi : i < t.plots.length) : PlotB t i := by
  obtain ⟨h1, h2, _⟩ := errPl_zero (h.pl i hi)
  simp only [plOut, Bool.or_eq_false_iff] at h2
  obtain ⟨h3, h4, h5, h6⟩ := h2
  have := oP_in h1
  exact ⟨by omega, by omega, oP_in h3, oP_in h4, oP_in h5, oP_in h6⟩
theorem GoodT.track (h : GoodT t) {i : Nat} (hi : i < t.trackers.length) : TrB (t.tr i) := by
  obtain ⟨_, _, h3⟩ := errTr_zero (h.tr i hi)
  simp only [trOut, Bool.or_eq_false_iff] at h3
  obtain ⟨⟨⟨⟨a, b⟩, c⟩, d⟩, e⟩ := h3
  exact ⟨oP_in a, oP_in b, oP_in c, oP_in d, oP_in e⟩
theorem GoodT.of (h : GoodT t) {i : Nat} (hi : i < t.plots.length) : TrB (t.trOf i) := h.track (by have p := h.plot hi; have := p.tr0; have := p.tr1; omega)
theorem GoodT.nums (h : GoodT t) : (0 ≤ t.frm ∧ t.frm ≤ 100000) ∧ (1 ≤ t.speed ∧ t.speed ≤ 1000000) ∧ (1 ≤ t.accel ∧ t.accel ≤ 1000000) := ⟨oP_in h.h3, oP_in h.h4, oP_in h.h5⟩

theorem mul_bnd {a b A B : Int} (ha : 0 ≤ a ∧ a ≤ A) (hb : 0 ≤ b ∧ b ≤ B) : 0 ≤ a * b ∧ a * b ≤ A * B :=
  ⟨Int.mul_nonneg ha.1 hb.1, Int.mul_le_mul ha.2 hb.2 hb.1 (Int.le_trans ha.1 ha.2)⟩

theorem tdiv_bnd {a A b : Int} (hb : 0 < b) (ha : 0 ≤ a ∧ a ≤ A) : 0 ≤ a.tdiv b ∧ a.tdiv b ≤ A := by
  rw [Int.tdiv_eq_ediv_of_nonneg ha.1]
  have h1 := Int.ediv_nonneg ha.1 (Int.le_of_lt hb)
  have h2 := Int.ediv_le_self b ha.1
  omega

theorem far_bnd (h : GoodT t) {i : Nat} (hi : i < t.plots.length) : 0 ≤ farT t i ∧ farT t i ≤ 2100000000 := by
  have p := h.plot hi
  have q := h.of hi
  have := p.x; have := p.y; have := p.z; have := q.x; have := q.y
  unfold farT apartI
  omega
theorem km_bnd (h : GoodT t) {i : Nat} (hi : i < t.plots.length) : 0 ≤ (farT t i + 1000000 - 1).tdiv 1000000 ∧ (farT t i + 1000000 - 1).tdiv 1000000 ≤ 2101 := by
  have := far_bnd h hi
  rw [Int.tdiv_eq_ediv_of_nonneg (by omega)]
  omega
theorem grow_bnd (h : GoodT t) {i : Nat} (hi : i < t.plots.length) : 0 ≤ (t.trOf i).grow * ((farT t i + 1000000 - 1).tdiv 1000000) ∧ (t.trOf i).grow * ((farT t i + 1000000 - 1).tdiv 1000000) ≤ 21010000 := by
  have := mul_bnd (h.of hi).grow (km_bnd h hi)
  omega
theorem width_bnd (h : GoodT t) {i : Nat} (hi : i < t.plots.length) : 0 ≤ widthT t i ∧ widthT t i ≤ 31010000 := by
  have := grow_bnd h hi
  have := (h.of hi).error
  unfold widthT; omega

theorem cap_bnd (h : GoodT t) {n : Int} (hn : 0 ≤ n ∧ n ≤ 100000) : 0 ≤ capT t n ∧ capT t n ≤ n := by
  obtain ⟨_, hs, ha⟩ := h.nums
  have := tdiv_bnd (b := t.accel) (by omega) (show 0 ≤ t.speed ∧ t.speed ≤ t.speed by omega)
  unfold capT; omega
theorem tri_bnd {m : Int} (h : 0 ≤ m ∧ m ≤ 100000) : (0 ≤ m * (m + 1) ∧ m * (m + 1) ≤ 10000100000) ∧ 0 ≤ (m * (m + 1)).tdiv 2 ∧ (m * (m + 1)).tdiv 2 ≤ 10000100000 := by
  have h1 := mul_bnd h (show 0 ≤ m + 1 ∧ m + 1 ≤ 100001 by omega)
  have h2 := tdiv_bnd (b := 2) (by omega) h1
  omega
theorem reach_bnd (h : GoodT t) {n : Int} (hn : 0 ≤ n ∧ n ≤ 100000) : (0 ≤ capT t n * (capT t n + 1) ∧ capT t n * (capT t n + 1) ≤ 10000100000) ∧ (0 ≤ (capT t n * (capT t n + 1)).tdiv 2 ∧ (capT t n * (capT t n + 1)).tdiv 2 ≤ 10000100000) ∧
    (0 ≤ t.accel * ((capT t n * (capT t n + 1)).tdiv 2) ∧ t.accel * ((capT t n * (capT t n + 1)).tdiv 2) ≤ 10000100000000000) ∧ (0 ≤ (n - capT t n) * t.speed ∧ (n - capT t n) * t.speed ≤ 100000000000) := by
  obtain ⟨_, hs, ha⟩ := h.nums
  have hc := cap_bnd h hn
  have h1 := tri_bnd (m := capT t n) (by omega)
  have h2 := mul_bnd (show 0 ≤ t.accel ∧ t.accel ≤ 1000000 by omega) h1.2
  have h3 := mul_bnd (show 0 ≤ n - capT t n ∧ n - capT t n ≤ 100000 by omega) (show 0 ≤ t.speed ∧ t.speed ≤ 1000000 by omega)
  exact ⟨h1.1, h1.2, by omega, by omega⟩
theorem reachT_bnd (h : GoodT t) {n : Int} (hn : 0 ≤ n ∧ n ≤ 100000) : 0 ≤ reachT t n ∧ reachT t n ≤ 10001000000000000 := by
  have := reach_bnd h hn
  unfold reachT; omega

theorem slack_bnd (h : GoodT t) {i : Nat} (hi : i < t.plots.length) {u : Int} (hu : 0 ≤ u ∧ u ≤ 100000) : (0 ≤ t.speed * apartI (t.pl i).tick u ∧ t.speed * apartI (t.pl i).tick u ≤ 100000000000) ∧ 0 ≤ slackT t u i ∧ slackT t u i ≤ 100031010000 := by
  obtain ⟨hf, hs, _⟩ := h.nums
  have := (h.plot hi).tick
  have h1 := mul_bnd (show 0 ≤ t.speed ∧ t.speed ≤ 1000000 by omega) (show 0 ≤ apartI (t.pl i).tick u ∧ apartI (t.pl i).tick u ≤ 100000 by unfold apartI; omega)
  have h2 := width_bnd h hi
  unfold slackT; omega

theorem part_bnd (h : GoodT t) {i : Nat} (hi : i < t.plots.length) (k : Int) : -2000000000 ≤ partI (t.pl i) k ∧ partI (t.pl i) k ≤ 2000000000 := by
  have p := h.plot hi
  have := p.x; have := p.y; have := p.z
  unfold partI
  split
  · omega
  · split <;> omega

def SpanB (B : Int) (s : Span) : Prop := (-B ≤ s.lo ∧ s.lo ≤ B) ∧ (-B ≤ s.hi ∧ s.hi ≤ B)

theorem placeN_bnd (h : GoodT t) {ps : List Int} (hp : ∀ i ∈ ps, 0 ≤ i ∧ i < t.plots.length) {u : Int} (hu : t.frm < u ∧ u ≤ 100000) (k : Int) : SpanB 2000000000 (placeN t ps k u) := by
  obtain ⟨hf, _, _⟩ := h.nums
  have hr := reachT_bnd h (n := u - t.frm) (by omega)
  have h0 : SpanB 2000000000 (room0 (min 2000000000 (reachT t (u - t.frm)))) := by unfold SpanB room0; dsimp only; omega
  unfold placeN
  generalize room0 (min 2000000000 (reachT t (u - t.frm))) = s at h0
  induction ps generalizing s with
  | nil => exact h0
  | cons i ps ih =>
    refine ih (fun j hj => hp j (.tail _ hj)) _ ?_
    have hi := hp i (.head _)
    have h1 := part_bnd h (i := i.toNat) (by omega) k
    have h2 := (slack_bnd h (i := i.toNat) (by omega) (show 0 ≤ u ∧ u ≤ 100000 by omega)).2
    unfold SpanB at h0 ⊢
    unfold common plotS aroundS
    dsimp only
    omega
theorem placeT_bnd (h : GoodT t) {ps : List Int} (hp : ∀ i ∈ ps, 0 ≤ i ∧ i < t.plots.length) {u : Int} (hu : u ≤ 100000) (k : Int) : SpanB 2000000000 (placeT t ps k u) := by
  unfold placeT
  split
  · exact placeN_bnd h hp (by omega) k
  · unfold SpanB; dsimp only; omega
end

theorem moreB_bnd {t : Task} (h : GoodT t) {j : Int} (hj : 1 ≤ j ∧ j ≤ 8) : (0 ≤ j * (j + 1) ∧ j * (j + 1) ≤ 72) ∧ (0 ≤ (j * (j + 1)).tdiv 2 ∧ (j * (j + 1)).tdiv 2 ≤ 72) ∧ (0 ≤ t.accel * ((j * (j + 1)).tdiv 2) ∧ t.accel * ((j * (j + 1)).tdiv 2) ≤ 72000000) := by
  obtain ⟨_, _, ha⟩ := h.nums
  have h1 := mul_bnd (show 0 ≤ j ∧ j ≤ 8 by omega) (show 0 ≤ j + 1 ∧ j + 1 ≤ 9 by omega)
  have h2 := tdiv_bnd (b := 2) (by omega) (show 0 ≤ j * (j + 1) ∧ j * (j + 1) ≤ 72 by omega)
  have h3 := mul_bnd (show 0 ≤ t.accel ∧ t.accel ≤ 1000000 by omega) h2
  exact ⟨by omega, h2, by omega⟩
theorem moreF_bnd {t : Task} (h : GoodT t) {j : Int} (hj : 1 ≤ j ∧ j ≤ 8) : (0 ≤ j * (j - 1) ∧ j * (j - 1) ≤ 56) ∧ (0 ≤ (j * (j - 1)).tdiv 2 ∧ (j * (j - 1)).tdiv 2 ≤ 56) ∧ (0 ≤ t.accel * ((j * (j - 1)).tdiv 2) ∧ t.accel * ((j * (j - 1)).tdiv 2) ≤ 56000000) := by
  obtain ⟨_, _, ha⟩ := h.nums
  have h1 := mul_bnd (show 0 ≤ j ∧ j ≤ 8 by omega) (show 0 ≤ j - 1 ∧ j - 1 ≤ 7 by omega)
  have h2 := tdiv_bnd (b := 2) (by omega) (show 0 ≤ j * (j - 1) ∧ j * (j - 1) ≤ 56 by omega)
  have h3 := mul_bnd (show 0 ≤ t.accel ∧ t.accel ≤ 1000000 by omega) h2
  exact ⟨by omega, h2, by omega⟩

end Go.Tk

/- The memory of layer 5's program: rooms, picks, their maps. -/
set_option linter.all false
namespace Go.Tk
open Go.Vc

structure SliceN (w : World) (m size : Nat) (v : Value) (els : List (List Value)) : Prop where
  ex : ∃ a cap, v = .slice a els.length cap ∧ els.length ≤ cap ∧ ∀ i e, els[i]? = some e → ∃ b, a = some b ∧ b.block ≠ m ∧ cellsAt w (b.add (i * size)) e

theorem SliceN.good {w0 w : World} {m size : Nat} {H : Heap} {v : Value} {els : List (List Value)} (h : SliceN w0 m size v els) (hg : Vc.Good w0 [m] H w) : SliceN w m size v els := by
  obtain ⟨a, cap, hv, hl, hc⟩ := h.ex
  exact ⟨a, cap, hv, hl, fun i e hi => let ⟨b, hb, hm, hcb⟩ := hc i e hi; ⟨b, hb, hm, hg.cells hcb (by rw [Vc.add_block]; simpa using hm)⟩⟩

theorem SliceN.ext {w w' : World} {m size : Nat} {v : Value} {els : List (List Value)} (h : SliceN w m size v els) (he : Ext w w') : SliceN w' m size v els := by
  obtain ⟨a, cap, hv, hl, hc⟩ := h.ex
  exact ⟨a, cap, hv, hl, fun i e hi => let ⟨b, hb, hm, hcb⟩ := hc i e hi; ⟨b, hb, hm, he.cells hcb⟩⟩

theorem cellsAt.lt {w : World} {a : Addr} {v : Value} {vs : List Value} (h : cellsAt w a (v :: vs)) : a.block < w.heap.size := by
  have := h 0 v rfl
  have := World.block_lt_of_cell? w _ this
  rwa [Vc.add_block] at this

theorem SliceR.toN {w : World} {m size : Nat} {v : Value} {els : List (List Value)} (h : SliceR w size v els) (hne : ∀ e ∈ els, e ≠ []) (hm : w.heap.size ≤ m) : SliceN w m size v els := by
  obtain ⟨a, cap, hv, hl, hc⟩ := h.ex
  refine ⟨a, cap, hv, hl, fun i e hi => ?_⟩
  obtain ⟨b, hb, hcb⟩ := hc i e hi
  refine ⟨b, hb, ?_, hcb⟩
  cases e with
  | nil => exact absurd rfl (hne _ (List.mem_of_getElem? hi))
  | cons x e =>
    have := cellsAt.lt hcb
    rw [Vc.add_block] at this
    omega

/-- A pick at bp; its map is at bm. -/
structure PickR (w : World) (bp bm : Nat) (mv : Value) (t : Task) (ps : List Int) : Prop where
  good : GoodT t
  bnd : ∀ i ∈ ps, 0 ≤ i ∧ i < t.plots.length
  psl : ps.length ≤ 60
  ne : bp ≠ bm
  ex : ∃ tv pv sv ty fr, w.heap[bp]? = some (.cells #[.int .i64 t.frm, .int .i64 t.speed, .int .i64 t.accel, tv, pv, sv, mv] ty fr) ∧ SliceN w bm 6 tv (t.trackers.map Tracker.cells) ∧ SliceN w bm 5 pv (t.plots.map Plot.cells) ∧ SliceN w bm 1 sv (ps.map fun n => [.int .i64 n])

theorem PickR.good' {w0 w : World} {bp bm : Nat} {mv : Value} {t : Task} {ps : List Int} {H : Heap} (h : PickR w0 bp bm mv t ps) (hg : Vc.Good w0 [bm] H w) : PickR w bp bm mv t ps := by
  obtain ⟨tv, pv, sv, ty, fr, h1, h2, h3, h4⟩ := h.ex
  have hb : w.heap[bp]? = w0.heap[bp]? := hg.base bp (lt_of_some h1) (by simpa using h.ne)
  exact ⟨h.good, h.bnd, h.psl, h.ne, tv, pv, sv, ty, fr, hb.trans h1, h2.good hg, h3.good hg, h4.good hg⟩

theorem PickR.ext {w w' : World} {bp bm : Nat} {mv : Value} {t : Task} {ps : List Int} (h : PickR w bp bm mv t ps) (he : Ext w w') : PickR w' bp bm mv t ps := by
  obtain ⟨tv, pv, sv, ty, fr, h1, h2, h3, h4⟩ := h.ex
  exact ⟨h.good, h.bnd, h.psl, h.ne, tv, pv, sv, ty, fr, he.heap h1, h2.ext he, h3.ext he, h4.ext he⟩

/-! ### the cache -/

def Cache (t : Task) (ps : List Int) (es : Array MapEntry) : Prop :=
  ∃ l, MapIs es l ∧ ∀ p ∈ l, ∃ k u, p = ([ii k, ii u], Value.agg #[.int .i64 (placeT t ps k u).lo, .int .i64 (placeT t ps k u).hi])

theorem Cache.nil (t : Task) (ps : List Int) : Cache t ps #[] := ⟨[], MapIs.nil, fun p hp => by cases hp⟩

theorem eqL_ii {a b c d : Int} : eqL [ii a, ii b] [ii c, ii d] = true ↔ a = c ∧ b = d := by
  simp [eqL, ii, eqv]

theorem cache_look {t : Task} {ps : List Int} {l : List (List Value × Value)} (h : ∀ p ∈ l, ∃ k u, p = ([ii k, ii u], Value.agg #[.int .i64 (placeT t ps k u).lo, .int .i64 (placeT t ps k u).hi])) (k u : Int) :
    ∃ lo hi is, found l [ii k, ii u] (.agg #[.int .i64 0, .int .i64 0]) = .agg #[.int .i64 lo, .int .i64 hi] ∧ (l.find? (keyEq [ii k, ii u])).isSome = is ∧ (is = true → lo = (placeT t ps k u).lo ∧ hi = (placeT t ps k u).hi) ∧ (is = false → l.find? (keyEq [ii k, ii u]) = none) := by
  unfold found
  cases hf : l.find? (keyEq [ii k, ii u]) with
  | none => exact ⟨0, 0, false, rfl, rfl, fun e => (by cases e), fun _ => rfl⟩
  | some p =>
    obtain ⟨k', u', rfl⟩ := h p (List.mem_of_find?_eq_some hf)
    have hk := List.find?_some hf
    obtain ⟨rfl, rfl⟩ := eqL_ii.1 hk
    exact ⟨_, _, true, rfl, rfl, fun _ => ⟨rfl, rfl⟩, fun e => by cases e⟩

theorem cache_fit {t : Task} {ps : List Int} {l : List (List Value × Value)} (h : ∀ p ∈ l, ∃ k u, p = ([ii k, ii u], Value.agg #[.int .i64 (placeT t ps k u).lo, .int .i64 (placeT t ps k u).hi])) : ∀ p ∈ l, fitsL [.int .i64, .int .i64] p.1 = true := by
  intro p hp
  obtain ⟨k, u, rfl⟩ := h p hp
  rfl

theorem Cache.add {t : Task} {ps : List Int} {es : Array MapEntry} {l : List (List Value × Value)} {k u : Int} {v : Value} (h : ∀ p ∈ l, ∃ k u, p = ([ii k, ii u], Value.agg #[.int .i64 (placeT t ps k u).lo, .int .i64 (placeT t ps k u).hi]))
    (hm : MapIs es (l ++ [([ii k, ii u], v)])) (hv : v = .agg #[.int .i64 (placeT t ps k u).lo, .int .i64 (placeT t ps k u).hi]) : Cache t ps es := by
  subst hv
  refine ⟨_, hm, fun p hp => ?_⟩
  rcases List.mem_append.1 hp with hp | hp
  · exact h p hp
  · rw [List.mem_singleton] at hp; exact ⟨k, u, hp⟩

/-- what fast returns -/
def FastV (o : Option Span) (v : Value) : Prop := ∃ lo hi ok, v = .tuple #[.agg #[.int .i64 lo, .int .i64 hi], .bool ok] ∧ ((ok = true ∧ o = some ⟨lo, hi⟩) ∨ (ok = false ∧ o = none))
theorem fv_none {ok : Bool} {o : Option Span} {s : Span} (h : (ok = true ∧ o = some s) ∨ (ok = false ∧ o = none)) (h1 : ok = false) : o = none := by
  rcases h with ⟨h, _⟩ | ⟨_, h⟩
  · rw [h1] at h; cases h
  · exact h
theorem fv_some {ok : Bool} {o : Option Span} {s : Span} (h : (ok = true ∧ o = some s) ∨ (ok = false ∧ o = none)) (h1 : ok = true) : o = some s := by
  rcases h with ⟨_, h⟩ | ⟨h, _⟩
  · exact h
  · rw [h1] at h; cases h

def Box.cells (b : Box) : List Value := [.int .i64 b.at_, .int .i64 b.x.lo, .int .i64 b.x.hi, .int .i64 b.y.lo, .int .i64 b.y.hi, .int .i64 b.z.lo, .int .i64 b.z.hi, .int .i64 b.vx.lo, .int .i64 b.vx.hi, .int .i64 b.vy.lo, .int .i64 b.vy.hi, .int .i64 b.vz.lo, .int .i64 b.vz.hi]
def boxZ : Box := ⟨0, ⟨0, 0⟩, ⟨0, 0⟩, ⟨0, 0⟩, ⟨0, 0⟩, ⟨0, 0⟩, ⟨0, 0⟩⟩
def boxV (o : Option Box) : Value := .tuple #[.agg (Box.cells (o.getD boxZ)).toArray, .bool o.isSome]

theorem down_eq {a b : Int} (hb : 0 < b) : (if a.tmod b < 0 then a.tdiv b - 1 else a.tdiv b) = a / b := by
  have h1 := Int.mul_tdiv_add_tmod a b
  have h2 := Int.mul_ediv_add_emod a b
  have h3 := Int.emod_nonneg a (by omega : b ≠ 0)
  have h4 := Int.emod_lt_of_pos a hb
  have h5 : -b < a.tmod b ∧ a.tmod b < b := by
    have := Int.tmod_lt_of_pos a hb
    have := Int.lt_tmod_of_pos a hb
    omega
  have key : ∀ q r q' r' : Int, b * q + r = a → b * q' + r' = a → 0 ≤ r → r < b → 0 ≤ r' → r' < b → q = q' := by
    intro q r q' r' e1 e2 r1 r2 r3 r4
    rcases Int.lt_trichotomy q q' with h | h | h
    · have := Int.mul_le_mul_of_nonneg_left (show q + 1 ≤ q' by omega) (by omega : 0 ≤ b)
      rw [Int.mul_add] at this; omega
    · exact h
    · have := Int.mul_le_mul_of_nonneg_left (show q' + 1 ≤ q by omega) (by omega : 0 ≤ b)
      rw [Int.mul_add] at this; omega
  split
  · exact key _ (a.tmod b + b) _ _ (by rw [Int.mul_sub]; omega) h2 (by omega) (by omega) h3 h4
  · exact key _ (a.tmod b) _ _ (by omega) h2 (by omega) (by omega) h3 h4

theorem ediv_abs {a b A : Int} (hb : 0 < b) (ha : -A ≤ a ∧ a ≤ A) : -A ≤ a / b ∧ a / b ≤ A := by
  constructor
  · exact Int.le_ediv_of_mul_le hb (by
      have := Int.mul_le_mul_of_nonneg_left (show 1 ≤ b by omega) (show 0 ≤ A by omega)
      rw [Int.neg_mul]; omega)
  · have := Int.ediv_le_self b (a := A) (by omega)
    have := Int.ediv_le_ediv hb ha.2
    omega

theorem tdiv_abs {a b A : Int} (hb : 0 < b) (ha : -A ≤ a ∧ a ≤ A) : -A ≤ a.tdiv b ∧ a.tdiv b ≤ A := by
  have h := @down_eq a b hb
  have h1 := ediv_abs hb ha
  split at h
  · have : a.tdiv b ≤ 0 := by
      rcases Int.lt_or_le a 0 with h' | h'
      · have e : a.tdiv b = -((-a).tdiv b) := by rw [Int.neg_tdiv]; omega
        have := Int.tdiv_nonneg (a := -a) (b := b) (by omega) (by omega)
        omega
      · have := Int.tmod_nonneg b h'; omega
    omega
  · omega

end Go.Tk

namespace Go.Vc
/-- A function that turns one block of its caller's. -/
theorem fn_mod {P : Program} {f : FuncId} {fn : Func} {c : Code} {args : List Value} {w : World} {b : Nat} {o : Obj} {n : Nat} {rs : List ResultVar} {R : Value → Obj → Prop}
    (hf : P.funcs[f]? = some fn) (hb : fn.body = some c) (hname : (fn.name == "runtime.NumGoroutine") = false) (hn : fn.ntmps = n) (hr : fn.results = rs.toArray) (hl : Nat.ble args.length n = true) (ho : w.heap[b]? = some o)
    (h : V ⟨P, none, n, w, [b]⟩ c (argEnv args 0) [] [(b, o)] (RetQ P rs fun v H => ∃ o', (b, o') ∈ H ∧ R v o')) : FnC P f args w fun v w' => ∃ o', Good w [b] [(b, o')] w' ∧ R v o' :=
  (fn_body (M := [b]) (H0 := [(b, o)]) hf hb hname hn hr hl (Good.startWith (H := [(b, o)]) (by simpa using ho) (by simp)) h).mono fun v w' ⟨H, hg, o', hm, hR⟩ =>
    ⟨o', hg.of_sub (by simpa using hm) (by simp), hR⟩

/-- A function that hands over new blocks. -/
theorem fn_new {P : Program} {f : FuncId} {fn : Func} {c : Code} {args : List Value} {w : World} {n : Nat} {rs : List ResultVar} {R : Value → Heap → Prop}
    (hf : P.funcs[f]? = some fn) (hb : fn.body = some c) (hname : (fn.name == "runtime.NumGoroutine") = false) (hn : fn.ntmps = n) (hr : fn.results = rs.toArray) (hl : Nat.ble args.length n = true)
    (h : V ⟨P, none, n, w, []⟩ c (argEnv args 0) [] [] (RetQ P rs fun v H => ∃ Hc, HSub Hc H ∧ R v Hc)) : FnC P f args w fun v w' => ∃ Hc, Good w [] Hc w' ∧ R v Hc :=
  (fn_body hf hb hname hn hr hl (Good.start w) h).mono fun v w' ⟨H, hg, Hc, hs, hR⟩ => ⟨Hc, hg.hsub hs, hR⟩

/-- A function that lives on another's memory. -/
theorem fn_over {P : Program} {f : FuncId} {fn : Func} {c : Code} {args : List Value} {w0 w : World} {M : List Nat} {H0 : Heap} {n : Nat} {rs : List ResultVar} {R : Value → Heap → Prop}
    (hf : P.funcs[f]? = some fn) (hb : fn.body = some c) (hname : (fn.name == "runtime.NumGoroutine") = false) (hn : fn.ntmps = n) (hr : fn.results = rs.toArray) (hl : Nat.ble args.length n = true) (hg : Good w0 M H0 w)
    (h : V ⟨P, none, n, w0, M⟩ c (argEnv args 0) [] H0 (RetQ P rs fun v H => ∃ Hc, HSub Hc H ∧ R v Hc)) : FnC P f args w fun v w' => ∃ Hc, Good w0 M Hc w' ∧ R v Hc :=
  (fn_bodyG hf hb hname hn hr hl hg h).mono fun v w' ⟨H, hg, Hc, hs, hR⟩ => ⟨Hc, hg.hsub hs, hR⟩

end Go.Vc

namespace Go.Tk
open Go.Vc

def iv (i : Int) : List Value := [.int .i64 i]
def knownV (t : Task) (now : Int) (n : Nat) : List (List Value) := (knownN t now n).map iv

theorem knownV_yes {t : Task} {now k : Int} (hk : 0 ≤ k) (h : knownB t now k.toNat = true) : knownV t now (k + 1).toNat = knownV t now k.toNat ++ [[.int .i64 k]] := by
  have e : (k + 1).toNat = k.toNat + 1 := by omega
  have e2 : Int.ofNat k.toNat = k := Int.toNat_of_nonneg hk
  rw [e, knownV, knownN, List.range_succ, List.filter_append, List.map_append, List.map_append]
  simp only [List.filter_cons, h, if_true, List.filter_nil, List.map_cons, List.map_nil, e2]
  rfl
theorem knownV_no {t : Task} {now k : Int} (hk : 0 ≤ k) (h : knownB t now k.toNat = false) : knownV t now (k + 1).toNat = knownV t now k.toNat := by
  have e : (k + 1).toNat = k.toNat + 1 := by omega
  rw [e, knownV, knownN, List.range_succ, List.filter_append]
  simp [h, knownV, knownN]

theorem knownV_len {t : Task} {now : Int} {n : Nat} : (knownV t now n).length ≤ n := by
  have h := List.length_filter_le (knownB t now) (List.range n)
  simp only [knownV, knownN, List.length_map, List.length_range] at h ⊢
  exact h

theorem iv_inj {a b : List Int} (h : a.map iv = b.map iv) : a = b := by
  induction a generalizing b with
  | nil => cases b with
    | nil => rfl
    | cons y b => simp at h
  | cons x a ih => cases b with
    | nil => simp at h
    | cons y b =>
      simp only [List.map_cons, List.cons.injEq, iv, Value.int.injEq, true_and, and_true] at h
      rw [h.1, ih h.2]

theorem knownN_bnd {t : Task} {now : Int} {n : Nat} : ∀ i ∈ knownN t now n, 0 ≤ i ∧ i < n := by
  intro i hi
  obtain ⟨j, hj, rfl⟩ := List.mem_map.1 hi
  have := List.mem_range.1 (List.mem_filter.1 hj).1
  simp only [Int.ofNat_eq_natCast]
  omega

def iiL (l : List Int) : List Value := l.map fun i => Value.int .i64 i

theorem filt_yes {p : Int → Bool} {is : List Int} {i : Int} (h : p i = true) : (is ++ [i]).filter p = is.filter p ++ [i] := by simp [List.filter_append, h]
theorem filt_no {p : Int → Bool} {is : List Int} {i : Int} (h : p i = false) : (is ++ [i]).filter p = is.filter p := by simp [List.filter_append, h]

end Go.Tk

namespace Go.Vc
theorem Good.uniq {w0 w : World} {M : List Nat} {H : Heap} (h : Good w0 M H w) {b : Nat} {o o' : Obj} (h1 : (b, o) ∈ H) (h2 : (b, o') ∈ H) : o = o' := by
  have e1 := h.own _ h1
  have e2 := h.own _ h2
  simp only at e1 e2
  rw [e1] at e2
  exact Option.some.inj e2

end Go.Vc

namespace Go.Tk
open Go.Vc

theorem TaskR.lit {w : World} {t : Task} {a b c : Int} {tv pv : Value} (h : TaskR w (.agg #[.int .i64 a, .int .i64 b, .int .i64 c, tv, pv]) t) :
    a = t.frm ∧ b = t.speed ∧ c = t.accel ∧ SliceR w 6 tv (t.trackers.map Tracker.cells) ∧ SliceR w 5 pv (t.plots.map Plot.cells) := by
  obtain ⟨tv', pv', e, htr, hpl⟩ := h.ex
  simp only [Value.agg.injEq, Array.mk.injEq, List.cons.injEq, Value.int.injEq, and_true, true_and] at e
  obtain ⟨rfl, rfl, rfl, rfl, rfl⟩ := e
  exact ⟨rfl, rfl, rfl, htr, hpl⟩

theorem byT_bnd {t : Task} {now : Int} {want : Int → Bool} : ∀ i ∈ byT t now want, 0 ≤ i ∧ i < t.plots.length := by
  intro i hi
  exact knownN_bnd i (List.mem_filter.1 hi).1
theorem byT_len {t : Task} {now : Int} {want : Int → Bool} : (byT t now want).length ≤ t.plots.length := by
  have h1 := List.length_filter_le (fun i : Int => want (t.pl i.toNat).tracker) (knownN t now t.plots.length)
  have h2 := knownV_len (t := t) (now := now) (n := t.plots.length)
  simp only [knownV, List.length_map] at h2
  unfold byT byN
  omega

theorem PickR.own {w0 w : World} {H G : Heap} {bp bm clk ty el : Nat} {t : Task} {now : Int} {want : Int → Bool} {tv pv sv : Value} {es : Array MapEntry} (hg : Vc.Good w0 [] H w) (hG : GoodT t) (hT : TaskR w0 (.agg #[.int .i64 t.frm, .int .i64 t.speed, .int .i64 t.accel, tv, pv]) t) (hbm : w0.heap.size ≤ bm)
    (h1 : (bp, Obj.cells #[.int .i64 t.frm, .int .i64 t.speed, .int .i64 t.accel, tv, pv, sv, .map (some bm)] ty) ∈ H) (h2 : (bm, Obj.map es clk) ∈ H) (h3 : ∀ p ∈ G, p ∈ H) (hgr : Grow el 1 sv (byT t now want).length (iiL (byT t now want)) G) :
    PickR w bp bm (.map (some bm)) t (byT t now want) := by
  obtain ⟨tv', pv', e, htr, hpl⟩ := hT.ex
  simp only [Value.agg.injEq, Array.mk.injEq, List.cons.injEq, and_true, true_and] at e
  obtain ⟨rfl, rfl⟩ := e
  have hsz : w0.heap.size ≤ w.heap.size := hg.size
  have toN : ∀ {size : Nat} {v : Value} {els : List (List Value)}, SliceR w0 size v els → (∀ e ∈ els, e ≠ []) → SliceN w bm size v els := by
    intro size v els h hne
    exact (h.toN hne hbm).ext hg.toExt
  refine ⟨hG, byT_bnd, Nat.le_trans byT_len hG.h2, ?_, tv, pv, sv, ty, _, hg.own _ h1, toN htr (by intro e he; obtain ⟨x, _, rfl⟩ := List.mem_map.1 he; simp [Tracker.cells]), toN hpl (by intro e he; obtain ⟨x, _, rfl⟩ := List.mem_map.1 he; simp [Plot.cells]), ?_⟩
  · rintro rfl
    have := hg.uniq h1 h2
    cases this
  · generalize hps : byT t now want = ps at hgr
    generalize hn : ps.length = n at hgr
    generalize hxs : iiL ps = xs at hgr
    cases hgr with
    | nil =>
      have e1 := hn
      refine ⟨none, 0, ?_, ?_, ?_⟩
      · rw [List.length_map, e1]
      · rw [List.length_map, e1]; exact Nat.le_refl _
      · intro i e hi
        have : ps = [] := List.eq_nil_of_length_eq_zero e1
        rw [this] at hi; simp at hi
    | row q1 q2 q3 q4 q5 =>
      rename_i b cap cur
      have hm := h3 (b, .cells cur el) (.head _)
      refine ⟨_, _, by rw [List.length_map, hn], by rw [List.length_map, hn]; exact q1, fun i e hi => ⟨_, rfl, ?_, ?_⟩⟩
      · intro h
        simp only at h
        subst h
        have := hg.uniq hm h2
        cases this
      · intro j v hj
        rw [List.getElem?_map] at hi
        cases hx : ps[i]? with
        | none => rw [hx] at hi; cases hi
        | some x =>
          rw [hx] at hi
          simp only [Option.map_some, Option.some.injEq] at hi
          subst hi
          cases j with
          | succ j => simp at hj
          | zero =>
            simp only [List.getElem?_cons_zero, Option.some.injEq] at hj
            subst hj
            rw [add_none, add_none, own_cell (hg.own _ hm)]
            have h4 : xs[i]? = some (Value.int .i64 x) := by rw [← hxs, iiL, List.getElem?_map, hx]; rfl
            rw [← q4, List.getElem?_take] at h4
            split at h4
            · simpa using h4
            · cases h4

def othersV (t : Task) (u now : Int) (n : Nat) : List (Int × Box) := (List.range n).filterMap fun (i : Nat) => (boxT t (byT t now (fun x => decide (x ≠ (i : Int)))) u).map fun b => ((i : Int), b)
def ov (p : Int × Box) : List Value := [.int .i64 p.1, .agg (Box.cells p.2).toArray]

theorem othersV_yes {t : Task} {u now k : Int} {b : Box} (hk : 0 ≤ k) (h : boxT t (byT t now (fun x => decide (x ≠ k))) u = some b) : othersV t u now (k + 1).toNat = othersV t u now k.toNat ++ [(k, b)] := by
  have e : (k + 1).toNat = k.toNat + 1 := by omega
  have e2 : ((k.toNat : Nat) : Int) = k := Int.toNat_of_nonneg hk
  rw [e, othersV, List.range_succ, List.filterMap_append]
  simp only [List.filterMap_cons, List.filterMap_nil, e2, h, Option.map_some]
  rfl
theorem othersV_no {t : Task} {u now k : Int} (hk : 0 ≤ k) (h : boxT t (byT t now (fun x => decide (x ≠ k))) u = none) : othersV t u now (k + 1).toNat = othersV t u now k.toNat := by
  have e : (k + 1).toNat = k.toNat + 1 := by omega
  have e2 : ((k.toNat : Nat) : Int) = k := Int.toNat_of_nonneg hk
  rw [e, othersV, List.range_succ, List.filterMap_append]
  simp only [List.filterMap_cons, List.filterMap_nil, e2, h, Option.map_none, List.append_nil]
  rfl

theorem othersV_len {t : Task} {u now : Int} {n : Nat} : ((othersV t u now n).map ov).length ≤ n := by
  have h := List.length_filterMap_le (fun (i : Nat) => (boxT t (byT t now (fun x => decide (x ≠ (i : Int)))) u).map fun b => ((i : Int), b)) (List.range n)
  rw [List.length_range] at h
  rw [List.length_map]; exact h
theorem isSome_get {o : Option Box} (h : o.isSome = true) : o = some (o.getD boxZ) := by cases o <;> simp at h ⊢
theorem isSome_none {o : Option Box} (h : o.isSome = false) : o = none := by cases o <;> simp at h ⊢

end Go.Tk

/- Layer 5: what is done with boxes. -/
set_option linter.all false
namespace Go.Tk
open Go.Vc

/-! ### boxes -/

def wideB (b : Box) : Int := max (max (b.x.hi - b.x.lo) (b.y.hi - b.y.lo)) (b.z.hi - b.z.lo)
def meetS (a b : Span) : Bool := decide (a.lo ≤ b.hi) && decide (b.lo ≤ a.hi)
def meetB (a b : Box) : Bool := meetS a.x b.x && (meetS a.y b.y && (meetS a.z b.z && (meetS a.vx b.vx && (meetS a.vy b.vy && meetS a.vz b.vz))))
theorem meetB_iff {a b : Box} : meetB a b = true ↔ (a.x.lo ≤ b.x.hi ∧ b.x.lo ≤ a.x.hi) ∧ (a.y.lo ≤ b.y.hi ∧ b.y.lo ≤ a.y.hi) ∧ (a.z.lo ≤ b.z.hi ∧ b.z.lo ≤ a.z.hi) ∧ (a.vx.lo ≤ b.vx.hi ∧ b.vx.lo ≤ a.vx.hi) ∧ (a.vy.lo ≤ b.vy.hi ∧ b.vy.lo ≤ a.vy.hi) ∧ (a.vz.lo ≤ b.vz.hi ∧ b.vz.lo ≤ a.vz.hi) := by
  simp only [meetB, meetS, Bool.and_eq_true, decide_eq_true_eq]

structure BoxB (B : Int) (b : Box) : Prop where
  x : SpanB B b.x
  y : SpanB B b.y
  z : SpanB B b.z

theorem partT_place {t : Task} {ps : List Int} {k u : Int} {a : Span × Span} (h : partT t ps k u = some a) : a.1 = placeT t ps k u := by
  unfold partT at h
  cases hf : fastT t ps k u with
  | none => rw [hf] at h; cases h
  | some v =>
    rw [hf] at h
    simp only [Option.bind_some] at h
    split at h
    · cases h
    · cases h; rfl

theorem boxT_bnd {t : Task} (hG : GoodT t) {ps : List Int} (hp : ∀ i ∈ ps, 0 ≤ i ∧ i < t.plots.length) {u : Int} (hu : u ≤ 100000) {b : Box} (h : boxT t ps u = some b) : BoxB 2000000000 b := by
  unfold boxT at h
  cases h0 : partT t ps 0 u with
  | none => rw [h0] at h; cases h
  | some p0 =>
    cases h1 : partT t ps 1 u with
    | none => rw [h0, Option.bind_some, h1] at h; cases h
    | some p1 =>
      cases h2 : partT t ps 2 u with
      | none => rw [h0, Option.bind_some, h1, Option.bind_some, h2] at h; cases h
      | some p2 =>
        rw [h0, Option.bind_some, h1, Option.bind_some, h2] at h
        simp only [Option.bind_some, Option.some.injEq] at h
        subst h
        exact ⟨partT_place h0 ▸ placeT_bnd hG hp hu 0, partT_place h1 ▸ placeT_bnd hG hp hu 1, partT_place h2 ▸ placeT_bnd hG hp hu 2⟩

def foundT (o : Option Box) : Value := .tuple #[.agg (Box.cells (o.getD boxZ)).toArray, .int .i64 (if o.isSome then 0 else 9)]

end Go.Tk

/- Layer 5: spare boxes, and the best source. -/
set_option linter.all false
namespace Go.Tk
open Go.Vc

def joinS (a b : Span) : Span := ⟨min a.lo b.lo, max a.hi b.hi⟩
def joinB (a b : Box) : Box := ⟨a.at_, joinS a.x b.x, joinS a.y b.y, joinS a.z b.z, joinS a.vx b.vx, joinS a.vy b.vy, joinS a.vz b.vz⟩
def addB (acc : Option Box) (b : Box) : Option Box := match acc with
  | none => some b
  | some a => some (joinB a b)
def foldB (l : List (Int × Box)) : Option Box := l.foldl (fun acc p => addB acc p.2) none
theorem foldB_snoc (l : List (Int × Box)) (p : Int × Box) : foldB (l ++ [p]) = addB (foldB l) p.2 := by simp [foldB]
def spareT (t : Task) (u now : Int) : Option Box := if t.trackers.length = 0 then boxT t (byT t now fun _ => true) u else foldB (othersV t u now t.trackers.length)

theorem ov_inj {a b : List (Int × Box)} (h : a.map ov = b.map ov) : a = b := by
  induction a generalizing b with
  | nil => cases b with
    | nil => rfl
    | cons y b => simp at h
  | cons x a ih => cases b with
    | nil => simp at h
    | cons y b =>
      simp only [List.map_cons, List.cons.injEq] at h
      have e : x = y := by
        obtain ⟨i, p⟩ := x
        obtain ⟨j, q⟩ := y
        have h1 := h.1
        simp only [ov, List.cons.injEq, Value.int.injEq, Value.agg.injEq, Array.mk.injEq, Box.cells, true_and, and_true] at h1
        obtain ⟨h1, h2, h3, h4, h5, h6, h7, h8, h9, h10, h11, h12, h13, h14⟩ := h1
        obtain ⟨a0, ⟨a1, a2⟩, ⟨a3, a4⟩, ⟨a5, a6⟩, ⟨a7, a8⟩, ⟨a9, a10⟩, ⟨a11, a12⟩⟩ := p
        obtain ⟨b0, ⟨b1, b2⟩, ⟨b3, b4⟩, ⟨b5, b6⟩, ⟨b7, b8⟩, ⟨b9, b10⟩, ⟨b11, b12⟩⟩ := q
        simp_all
      rw [e, ih h.2]

end Go.Tk

namespace Go.Tk
open Go.Vc

theorem SliceR.nil (w : World) (size : Nat) : SliceR w size (.slice none 0 0) [] := ⟨none, 0, rfl, Nat.le_refl _, fun i e h => by simp at h⟩

theorem asked_zero {t : Task} {l : List Int} (h : askedT t l = 0) : GoodT t ∧ ∀ n ∈ l, 0 ≤ n ∧ n ≤ 100000 := by
  unfold askedT at h
  split at h
  · cases h
  · rename_i hn
    refine ⟨good_of_check h, fun n hm => ?_⟩
    have : ¬ (l.any fun n => oP n 0 100000) = true := fun ha => hn ⟨h, ha⟩
    rw [List.any_eq_true] at this
    cases ho : oP n 0 100000
    · exact oP_in ho
    · exact absurd ⟨n, hm, ho⟩ this

theorem PickR.box {w0 w : World} {H : Heap} {bp ty : Nat} {t : Task} {tv pv : Value} (hg : Vc.Good w0 [] H w) (hG : GoodT t) (hT : TaskR w0 (.agg #[.int .i64 t.frm, .int .i64 t.speed, .int .i64 t.accel, tv, pv]) t)
    (h1 : (bp, Obj.cells #[.int .i64 t.frm, .int .i64 t.speed, .int .i64 t.accel, tv, pv, .slice none 0 0, .map none] ty) ∈ H) : PickR w bp w.heap.size (.map none) t [] := by
  obtain ⟨_, _, _, htr, hpl⟩ := hT.lit
  have toN : ∀ {size : Nat} {v : Value} {els : List (List Value)}, SliceR w0 size v els → (∀ e ∈ els, e ≠ []) → SliceN w w.heap.size size v els := fun h hne => (h.ext hg.toExt).toN hne (Nat.le_refl _)
  refine ⟨hG, fun i hi => (by cases hi), Nat.zero_le _, ?_, tv, pv, _, ty, _, hg.own _ h1, toN htr (by intro e he; obtain ⟨x, _, rfl⟩ := List.mem_map.1 he; simp [Tracker.cells]), toN hpl (by intro e he; obtain ⟨x, _, rfl⟩ := List.mem_map.1 he; simp [Plot.cells]), ?_⟩
  · have := hg.lt h1
    simp only at this
    omega
  · exact ⟨none, 0, rfl, Nat.le_refl _, fun i e h => by simp at h⟩

def whereT (t : Task) (u now : Int) : Value := if askedT t [u, now] ≠ 0 then .tuple #[.agg (Box.cells boxZ).toArray, .int .i64 (askedT t [u, now])] else foundT (boxT t (byT t now fun _ => true) u)
def spareR (t : Task) (u now : Int) : Value := if askedT t [u, now] ≠ 0 then .tuple #[.agg (Box.cells boxZ).toArray, .int .i64 (askedT t [u, now])] else foundT (spareT t u now)
def reachR (t : Task) (n : Int) : Value := if askedT t [n] ≠ 0 then .tuple #[.int .i64 0, .int .i64 (askedT t [n])] else .tuple #[.int .i64 (reachT t n), .int .i64 0]
def widthR (t : Task) (i : Int) : Value := if askedT t [] ≠ 0 then .tuple #[.int .i64 0, .int .i64 (askedT t [])] else if oP i 0 (t.plots.length - 1) = true then .tuple #[.int .i64 0, .int .i64 4] else .tuple #[.int .i64 (widthT t i.toNat), .int .i64 0]

end Go.Tk

/- Layer 5: rows of an owned block as a slice; the example's task. -/
set_option linter.all false
namespace Go.Tk
open Go.Vc

theorem flat_at {α : Type} {size : Nat} : ∀ (els : List (List α)) (i j : Nat) (e : List α), (∀ e ∈ els, e.length = size) → els[i]? = some e → j < size → els.flatten[i * size + j]? = e[j]? := by
  intro els
  induction els with
  | nil => intro i j e _ h; simp at h
  | cons a els ih =>
    intro i j e hs h hj
    have ha := hs a (.head _)
    rw [List.flatten_cons]
    cases i with
    | zero =>
      simp only [List.getElem?_cons_zero, Option.some.injEq] at h
      subst h
      rw [Nat.zero_mul, Nat.zero_add, List.getElem?_append_left (by omega)]
    | succ i =>
      simp only [List.getElem?_cons_succ] at h
      rw [List.getElem?_append_right (by rw [ha, Nat.add_mul]; omega), ha, show (i + 1) * size + j - size = i * size + j by rw [Nat.add_mul]; omega]
      exact ih i j e (fun x hx => hs x (.tail _ hx)) h hj

theorem own_rows {w : World} {b n cap ty size : Nat} {cells : Array Value} {fr : Nat × Nat} {els : List (List Value)} (h : w.heap[b]? = some (.cells cells ty fr)) (hc : cells = els.flatten.toArray) (hs : ∀ e ∈ els, e.length = size) (hn : n = els.length) (hcap : n ≤ cap) :
    SliceR w size (.slice (some ⟨b, 0, none⟩) n cap) els := by
  subst hn hc
  refine ⟨some ⟨b, 0, none⟩, cap, rfl, hcap, fun i e hi => ⟨_, rfl, fun j v hj => ?_⟩⟩
  have hjl : j < size := by rw [← hs e (List.mem_of_getElem? hi)]; exact (List.getElem?_eq_some_iff.1 hj).1
  rw [add_none, add_none, own_cell h, Nat.zero_add, List.toList_toArray, flat_at els i j e hs hi hjl]
  exact hj

def exTr : List Tracker := [⟨⟨#[101, 97, 115, 116]⟩, 3000000, 0, 2000, 500, 5⟩, ⟨⟨#[119, 101, 115, 116]⟩, -500000, 0, 3000, 1000, 0⟩, ⟨⟨#[103, 112, 115]⟩, 0, 0, 800, 0, 20⟩]
def exPl : List Plot := [⟨0, 120, 0, 0, 10000⟩, ⟨1, 120, 1000, 0, 8000⟩, ⟨2, 120, 200, 100, 9500⟩, ⟨2, 130, 300, 200, 19000⟩]
/-- the task of the examples -/
def exT : Task := ⟨100, 1000, 50, exTr, exPl⟩

def exV (b1 b2 : Nat) : Value := .agg #[.int .i64 exT.frm, .int .i64 exT.speed, .int .i64 exT.accel, .slice (some ⟨b1, 0, none⟩) 3 3, .slice (some ⟨b2, 0, none⟩) 4 4]
def exO1 (ty : Nat) : Obj := .cells ((exTr.map Tracker.cells).flatten).toArray ty
def exO2 (ty : Nat) : Obj := .cells ((exPl.map Plot.cells).flatten).toArray ty

theorem exTask {w : World} {b1 b2 ty1 ty2 : Nat} (h1 : w.heap[b1]? = some (exO1 ty1)) (h2 : w.heap[b2]? = some (exO2 ty2)) : TaskR w (exV b1 b2) exT := by
  refine ⟨fun x hx => ?_, by decide, by decide, _, _, rfl, own_rows h1 rfl ?_ rfl (by decide), own_rows h2 rfl ?_ rfl (by decide)⟩
  · simp only [exT, exTr, List.mem_cons, List.not_mem_nil, or_false] at hx
    rcases hx with rfl | rfl | rfl <;> decide
  · intro e he; obtain ⟨x, _, rfl⟩ := List.mem_map.1 he; rfl
  · intro e he; obtain ⟨x, _, rfl⟩ := List.mem_map.1 he; rfl

theorem ex_where0 : whereT exT 120 150 = .tuple #[.agg #[.int .i64 120, .int .i64 (-600), .int .i64 1000, .int .i64 (-700), .int .i64 900, .int .i64 8700, .int .i64 10300, .int .i64 (-612), .int .i64 637, .int .i64 (-612), .int .i64 637, .int .i64 563, .int .i64 1000], .int .i64 0] := by kernel_rfl
theorem ex_reach0 : reachR exT 30 = .tuple #[.int .i64 20500, .int .i64 0] := by kernel_rfl
theorem ex_width0 : widthR exT 1 = .tuple #[.int .i64 4000, .int .i64 0] := by kernel_rfl
theorem ex_asked0 : askedT exT [-1, 0] = 7 := by kernel_rfl

end Go.Tk

/- Layer 5: lists that are returned; the reference's ways to reckon. -/
set_option linter.all false
namespace Go.Tk
open Go.Vc

theorem apart_size (a b : Int) : apartI a b = max (a - b) (-(a - b)) := by unfold apartI; omega

theorem half_mul (a : Int) {m : Int} : (a * m * (m + 1)).tdiv 2 = a * ((m * (m + 1)).tdiv 2) := by
  have hq : ∃ q, m * (m + 1) = 2 * q := by
    have h := Int.mul_ediv_add_emod m 2
    rcases Int.emod_two_eq m with e | e
    · rw [e, Int.add_zero] at h
      exact ⟨(m / 2) * (m + 1), by rw [← Int.mul_assoc, h]⟩
    · rw [e] at h
      refine ⟨m * (m / 2 + 1), ?_⟩
      have e2 : m + 1 = 2 * (m / 2 + 1) := by omega
      rw [e2, ← Int.mul_assoc, Int.mul_comm m 2, Int.mul_assoc]
  obtain ⟨q, hq⟩ := hq
  rw [Int.mul_assoc, hq, Int.mul_left_comm, Int.mul_tdiv_cancel_left _ (by decide), Int.mul_tdiv_cancel_left _ (by decide)]

theorem reachT_alt (t : Task) (n : Int) : reachT t n = (t.accel * capT t n * (capT t n + 1)).tdiv 2 + t.speed * (n - capT t n) := by
  rw [reachT, half_mul, Int.mul_comm (n - capT t n)]

theorem asked_bad {t : Task} {l : List Int} (h : (checkT t).2.2 ≠ 0) : askedT t l = (checkT t).2.2 := by rw [askedT, if_neg (fun a => h a.1)]
theorem asked_any {t : Task} {l : List Int} (h : (checkT t).2.2 = 0) (h2 : (l.any fun n => oP n 0 100000) = true) : askedT t l = 7 := by rw [askedT, if_pos ⟨h, h2⟩]
theorem asked_ok {t : Task} {l : List Int} (h : (checkT t).2.2 = 0) (h2 : (l.any fun n => oP n 0 100000) = false) : askedT t l = 0 := by rw [askedT, if_neg (fun a => by rw [h2] at a; cases a.2), h]

/-! ### lists that are returned -/

/-- The call returns a list in new memory. -/
def ListOut (ty : Nat) (xs : List Int) (f : Value → Value) (v : Value) (A G : Heap) : Prop := ∃ sv, A = [] ∧ v = f sv ∧ Grow ty 1 sv xs.length (iiL xs) G

theorem Grow.slice {el n : Nat} {v : Value} {xs : List Int} {G : Heap} (h : Grow el 1 v n (iiL xs) G) {w : World} (hg : ∀ p ∈ G, w.heap[p.1]? = some p.2) : SliceR w 1 v (xs.map fun n => [Value.int .i64 n]) := by
  obtain ⟨a, cap, rfl, hc, hl, hx⟩ := h.cells hg
  have hn : n = xs.length := by rw [iiL, List.length_map] at hl; omega
  subst hn
  refine ⟨a, cap, by simp, by simpa using hc, fun i e hi => ?_⟩
  rw [List.getElem?_map] at hi
  cases hi' : xs[i]? with
  | none => rw [hi'] at hi; cases hi
  | some x =>
    rw [hi'] at hi
    simp only [Option.map_some, Option.some.injEq] at hi
    subst hi
    obtain ⟨b, hb, hv⟩ := hx i (.int .i64 x) (by rw [iiL, List.getElem?_map, hi']; rfl)
    refine ⟨b, hb, fun j v hj => ?_⟩
    cases j with
    | succ j => simp at hj
    | zero =>
      simp only [List.getElem?_cons_zero, Option.some.injEq] at hj
      subst hj
      rw [Nat.mul_one, add_zero']
      exact hv

theorem ints_ne {a b : List Int} {k : Nat} (h : a.getD k 0 ≠ b.getD k 0) : decide (a = b) = false := by
  rw [decide_eq_false_iff_not]; rintro rfl; exact h rfl
theorem ints_eq {a b : List Int} (hl : a.length = b.length) (h : ∀ k : Nat, k < a.length → a.getD k 0 = b.getD k 0) : a = b := by
  refine List.ext_getElem hl fun i h1 h2 => ?_
  have := h i h1
  rwa [List.getD_eq_getElem?_getD, List.getD_eq_getElem?_getD, List.getElem?_eq_getElem h1, List.getElem?_eq_getElem h2] at this

def knownL (t : Task) (now : Int) : List Int := if askedT t [now] ≠ 0 then [] else byT t now fun _ => true
theorem knownL_bad {t : Task} {now : Int} (h : askedT t [now] ≠ 0) : knownL t now = [] := if_pos h
theorem knownL_ok {t : Task} {now : Int} (h : askedT t [now] = 0) : knownL t now = byT t now fun _ => true := if_neg (fun a => a h)
theorem byT_all (t : Task) (now : Int) : (byT t now fun _ => true) = knownN t now t.plots.length := by simp [byT, byN]
theorem knownN_yes {t : Task} {now k : Int} (hk : 0 ≤ k) (h : knownB t now k.toNat = true) : knownN t now (k + 1).toNat = knownN t now k.toNat ++ [k] := by
  have e : (k + 1).toNat = k.toNat + 1 := by omega
  have e2 : ((k.toNat : Nat) : Int) = k := by omega
  rw [knownN, knownN, e, List.range_succ, List.filter_append, List.map_append]
  simp [h, e2]
theorem knownN_no {t : Task} {now k : Int} (hk : 0 ≤ k) (h : knownB t now k.toNat = false) : knownN t now (k + 1).toNat = knownN t now k.toNat := by
  have e : (k + 1).toNat = k.toNat + 1 := by omega
  rw [knownN, knownN, e, List.range_succ, List.filter_append, List.map_append]
  simp [h]
theorem knownN_len {t : Task} {now : Int} (n : Nat) : (knownN t now n).length ≤ n := by
  rw [knownN, List.length_map]
  have := List.length_filter_le (knownB t now) (List.range n)
  simpa using this

theorem knownL_len (t : Task) (now : Int) : (knownL t now).length ≤ 60 := by
  unfold knownL
  split
  · exact Nat.zero_le _
  · rename_i h
    have h0 : askedT t [now] = 0 := Decidable.of_not_not h
    have hG := (asked_zero h0).1
    rw [byT_all]
    have h1 := knownN_len (t := t) (now := now) t.plots.length
    have h2 := hG.h2
    exact Nat.le_trans h1 h2

/-! ### pairs -/
def widthP (t : Task) (i : Int) : Int × Int := if askedT t [] ≠ 0 then (0, askedT t []) else if oP i 0 (t.plots.length - 1) = true then (0, 4) else (widthT t i.toNat, 0)
theorem widthR_eq (t : Task) (i : Int) : widthR t i = .tuple #[.int .i64 (widthP t i).1, .int .i64 (widthP t i).2] := by
  unfold widthR widthP; split
  · rfl
  · split <;> rfl
def reachP (t : Task) (n : Int) : Int × Int := if askedT t [n] ≠ 0 then (0, askedT t [n]) else (reachT t n, 0)
theorem reachR_eq (t : Task) (n : Int) : reachR t n = .tuple #[.int .i64 (reachP t n).1, .int .i64 (reachP t n).2] := by
  unfold reachR reachP; split <;> rfl
def foundP (o : Option Box) : Box × Int := (o.getD boxZ, if o.isSome then 0 else 9)
def whereP (t : Task) (u now : Int) : Box × Int := if askedT t [u, now] ≠ 0 then (boxZ, askedT t [u, now]) else foundP (boxT t (byT t now fun _ => true) u)
theorem whereT_eq (t : Task) (u now : Int) : whereT t u now = .tuple #[.agg (Box.cells (whereP t u now).1).toArray, .int .i64 (whereP t u now).2] := by
  unfold whereT whereP; split <;> rfl
def spareP (t : Task) (u now : Int) : Box × Int := if askedT t [u, now] ≠ 0 then (boxZ, askedT t [u, now]) else foundP (spareT t u now)
theorem spareR_eq (t : Task) (u now : Int) : spareR t u now = .tuple #[.agg (Box.cells (spareP t u now).1).toArray, .int .i64 (spareP t u now).2] := by
  unfold spareR spareP; split <;> rfl

end Go.Tk

/- Layer 5: one tracker's box, the best source, who may fail; boxes ahead. -/
set_option linter.all false
namespace Go.Tk
open Go.Vc

/-! ### one tracker alone -/
def aloneP (t : Task) (tr u now : Int) : Box × Int :=
  if askedT t [] ≠ 0 then (boxZ, askedT t []) else if oP tr 0 (t.trackers.length - 1) = true then (boxZ, 4) else if ([u, now].any fun n => oP n 0 100000) = true then (boxZ, 7) else foundP (boxT t (byT t now fun x => decide (x = tr)) u)
section
variable {t : Task} {tr u now : Int}
theorem aloneP_1 (h : askedT t [] ≠ 0) : aloneP t tr u now = (boxZ, askedT t []) := if_pos h
theorem aloneP_2 (h : askedT t [] = 0) (h1 : oP tr 0 (t.trackers.length - 1) = true) : aloneP t tr u now = (boxZ, 4) := by rw [aloneP, if_neg (fun a => a h), if_pos h1]
theorem aloneP_3 (h : askedT t [] = 0) (h1 : oP tr 0 (t.trackers.length - 1) = false) (h2 : ([u, now].any fun n => oP n 0 100000) = true) : aloneP t tr u now = (boxZ, 7) := by rw [aloneP, if_neg (fun a => a h), if_neg (by rw [h1]; decide), if_pos h2]
theorem aloneP_4 (h : askedT t [] = 0) (h1 : oP tr 0 (t.trackers.length - 1) = false) (h2 : ([u, now].any fun n => oP n 0 100000) = false) : aloneP t tr u now = foundP (boxT t (byT t now fun x => decide (x = tr)) u) := by rw [aloneP, if_neg (fun a => a h), if_neg (by rw [h1]; decide), if_neg (by rw [h2]; decide)]
theorem any2_false {u now : Int} (h : ([u, now].any fun n => oP n 0 100000) = false) : (0 ≤ u ∧ u ≤ 100000) ∧ (0 ≤ now ∧ now ≤ 100000) := by
  simp only [List.any_cons, List.any_nil, Bool.or_false, Bool.or_eq_false_iff] at h
  exact ⟨oP_in h.1, oP_in h.2⟩
end

/-! ### the best source -/
def bestStep (p : Int × Int) (i : Int) (o : Option Box) (s : Box) : Int × Int := match o with
  | none => p
  | some b => if meetB b s = true ∧ (p.1 < 0 ∨ wideB b < p.2) then (i, wideB b) else p
theorem bestStep_none {p : Int × Int} {i : Int} {o : Option Box} {s : Box} (h : o.isSome = false) : bestStep p i o s = p := by rw [isSome_none h]; rfl
theorem bestStep_no {p : Int × Int} {i : Int} {o : Option Box} {s : Box} (h : o.isSome = true) (h2 : ¬ (meetB (o.getD boxZ) s = true ∧ (p.1 < 0 ∨ wideB (o.getD boxZ) < p.2))) : bestStep p i o s = p := by
  rw [isSome_get h]; exact if_neg h2
theorem bestStep_yes {p : Int × Int} {i : Int} {o : Option Box} {s : Box} (h : o.isSome = true) (h1 : meetB (o.getD boxZ) s = true) (h2 : p.1 < 0 ∨ wideB (o.getD boxZ) < p.2) : bestStep p i o s = (i, wideB (o.getD boxZ)) := by
  rw [isSome_get h]; exact if_pos ⟨h1, h2⟩
def ownT (t : Task) (u now : Int) (i : Int) : Option Box := boxT t (byT t now fun x => decide (x = i)) u
def bestN (t : Task) (s : Box) (u now : Int) : Nat → Int × Int
  | 0 => (-1, 0)
  | n + 1 => bestStep (bestN t s u now n) n (ownT t u now n) s
theorem bestN_succ {t : Task} {s : Box} {u now k : Int} (hk : 0 ≤ k) : bestN t s u now (k + 1).toNat = bestStep (bestN t s u now k.toNat) k (ownT t u now k) s := by
  have e : (k + 1).toNat = k.toNat + 1 := by omega
  have e2 : ((k.toNat : Nat) : Int) = k := Int.toNat_of_nonneg hk
  rw [e, bestN, e2]
def bestP (t : Task) (u now : Int) : Int × Int :=
  if (spareP t u now).2 ≠ 0 then (0, (spareP t u now).2) else if (bestN t (spareP t u now).1 u now t.trackers.length).1 < 0 then (0, 4) else ((bestN t (spareP t u now).1 u now t.trackers.length).1, 0)
theorem bestP_1 {t : Task} {u now : Int} (h : (spareP t u now).2 ≠ 0) : bestP t u now = (0, (spareP t u now).2) := if_pos h
theorem bestP_2 {t : Task} {u now a b : Int} (h : (spareP t u now).2 = 0) (h1 : bestN t (spareP t u now).1 u now t.trackers.length = (a, b)) (h2 : a < 0) : bestP t u now = (0, 4) := by
  rw [bestP, if_neg (fun a => a h), if_pos (by rw [h1]; exact h2)]
theorem bestP_3 {t : Task} {u now a b : Int} (h : (spareP t u now).2 = 0) (h1 : bestN t (spareP t u now).1 u now t.trackers.length = (a, b)) (h2 : ¬ a < 0) : bestP t u now = (a, 0) := by
  rw [bestP, if_neg (fun a => a h), if_neg (by rw [h1]; exact h2), h1]
theorem spareP_ok {t : Task} {u now : Int} (h : (spareP t u now).2 = 0) : askedT t [u, now] = 0 ∧ spareT t u now = some (spareP t u now).1 := by
  unfold spareP at h ⊢
  split at h
  · rename_i hn; exact absurd h hn
  · rename_i hn
    rw [if_neg hn]
    refine ⟨Decidable.of_not_not hn, ?_⟩
    cases hs : spareT t u now with
    | none => rw [hs] at h; cases h
    | some b => rfl
theorem ownT_bnd {t : Task} (hG : GoodT t) {u now k : Int} (hu : u ≤ 100000) (h : (ownT t u now k).isSome = true) : BoxB 1000000000000000 ((ownT t u now k).getD boxZ) := by
  have hb : BoxB 2000000000 ((ownT t u now k).getD boxZ) := boxT_bnd hG byT_bnd hu (isSome_get h)
  obtain ⟨h1, h2, h3⟩ := hb
  unfold SpanB at h1 h2 h3
  exact ⟨by unfold SpanB; omega, by unfold SpanB; omega, by unfold SpanB; omega⟩

theorem Grow.form {el size n : Nat} {v : Value} {xs : List Value} {G : Heap} (h : Grow el size v n xs G) : ∃ a c, v = .slice a n c := by
  cases h with
  | nil => exact ⟨none, 0, rfl⟩
  | row => exact ⟨_, _, rfl⟩

/-! ### who may fail -/
def failsL (t : Task) (u now : Int) : List Int := if askedT t [u, now] ≠ 0 then [] else (othersV t u now t.trackers.length).map Prod.fst
def failsB (t : Task) (u now : Int) : Bool := if askedT t [u, now] ≠ 0 then false else (boxT t (byT t now fun _ => true) u).isSome
theorem failsL_1 {t : Task} {u now : Int} (h : askedT t [u, now] ≠ 0) : failsL t u now = [] ∧ failsB t u now = false := ⟨if_pos h, if_pos h⟩
theorem failsL_2 {t : Task} {u now : Int} (h : askedT t [u, now] = 0) : failsL t u now = (othersV t u now t.trackers.length).map Prod.fst ∧ failsB t u now = (boxT t (byT t now fun _ => true) u).isSome := ⟨if_neg (fun a => a h), if_neg (fun a => a h)⟩

/-! ### a box's check, and boxes ahead -/
def spanBad (m : Int) (s : Span) : Bool := oP s.lo (-m) m || oP s.hi (-m) m || decide (s.hi < s.lo)
def checkB (b : Box) : Int := if (oP b.at_ 0 100000 || spanBad 2000000000 b.x || spanBad 2000000000 b.y || spanBad 2000000000 b.z || spanBad 1000000 b.vx || spanBad 1000000 b.vy || spanBad 1000000 b.vz) = true then 7 else 0

end Go.Tk

/- Layer 5: how the reference reckons boxes. -/
set_option linter.all false
namespace Go.Tk
open Go.Vc

theorem floor_eq {a b : Int} (hb : 0 < b) : (if a < a.tdiv b * b then a.tdiv b - 1 else a.tdiv b) = a / b := by
  rw [← down_eq hb]
  have h := Int.mul_tdiv_add_tmod a b
  have e : a.tdiv b * b = b * a.tdiv b := Int.mul_comm _ _
  split <;> split <;> omega
theorem tdiv_mul_abs {a b A : Int} (hb : 0 < b) (ha : -A ≤ a ∧ a ≤ A) (hA : b ≤ A) : -(A + A) ≤ a.tdiv b * b ∧ a.tdiv b * b ≤ A + A := by
  have h := Int.mul_tdiv_add_tmod a b
  have e : a.tdiv b * b = b * a.tdiv b := Int.mul_comm _ _
  have h1 := Int.tmod_lt_of_pos a hb
  have h2 := Int.lt_tmod_of_pos a hb
  omega

theorem room0_common {m : Int} : common (aroundS 0 2000000000) (aroundS 0 m) = room0 (min 2000000000 m) := by
  simp only [common, aroundS, room0, Span.mk.injEq]; omega

theorem moreB_alt (t : Task) (j : Int) : (t.accel * j * (j + 1)).tdiv 2 = moreB t j := half_mul t.accel
theorem moreF_alt (t : Task) (j : Int) : (t.accel * j * (j - 1)).tdiv 2 = moreF t j := by
  have h := half_mul t.accel (m := j - 1)
  have e : j - 1 + 1 = j := by omega
  rw [e] at h
  rw [moreF, Int.mul_assoc, Int.mul_comm j (j - 1), ← Int.mul_assoc]
  exact h

/-- what the reference's speeds return -/
def SpeedV (t : Task) (ps : List Int) (k u : Int) (v : Value) : Prop := ∃ lo hi ok, v = .tuple #[.agg #[.int .i64 lo, .int .i64 hi], .bool ok] ∧
  ((ok = true ∧ fastT t ps k u = (if (⟨lo, hi⟩ : Span).none then none else some ⟨lo, hi⟩)) ∨ (ok = false ∧ fastT t ps k u = none))
theorem sv_none {t : Task} {ps : List Int} {k u lo hi : Int} {ok : Bool} (h : (ok = true ∧ fastT t ps k u = (if (⟨lo, hi⟩ : Span).none then none else some ⟨lo, hi⟩)) ∨ (ok = false ∧ fastT t ps k u = none)) (h1 : ok = false ∨ (⟨lo, hi⟩ : Span).none = true) : fastT t ps k u = none := by
  rcases h with ⟨h, h2⟩ | ⟨_, h⟩
  · rcases h1 with h1 | h1
    · rw [h1] at h; cases h
    · rw [h2, if_pos h1]
  · exact h
theorem sv_some {t : Task} {ps : List Int} {k u lo hi : Int} {ok : Bool} (h : (ok = true ∧ fastT t ps k u = (if (⟨lo, hi⟩ : Span).none then none else some ⟨lo, hi⟩)) ∨ (ok = false ∧ fastT t ps k u = none)) (h1 : ok = true) (h2 : (⟨lo, hi⟩ : Span).none = false) : fastT t ps k u = some ⟨lo, hi⟩ := by
  rcases h with ⟨_, h⟩ | ⟨h, _⟩
  · rw [h, if_neg (by rw [h2]; decide)]
  · rw [h1] at h; cases h

def wantR (but alone : Int) (x : Int) : Bool := decide (x ≠ but) && (decide (alone = -1) || decide (x = alone))
theorem byN_yes {t : Task} {now k : Int} {want : Int → Bool} (hk : 0 ≤ k) (h : knownB t now k.toNat = true) (h2 : want (t.pl k.toNat).tracker = true) : byN t now want (k + 1).toNat = byN t now want k.toNat ++ [k] := by
  rw [byN, byN, knownN_yes hk h, List.filter_append]; simp [h2]
theorem byN_no {t : Task} {now k : Int} {want : Int → Bool} (hk : 0 ≤ k) (h : knownB t now k.toNat = false ∨ want (t.pl k.toNat).tracker = false) : byN t now want (k + 1).toNat = byN t now want k.toNat := by
  rw [byN, byN]
  cases hb : knownB t now k.toNat with
  | false => rw [knownN_no hk hb]
  | true =>
    rw [knownN_yes hk hb, List.filter_append]
    rcases h with h | h
    · rw [h] at hb; cases hb
    · simp [h]
theorem byN_len {t : Task} {now : Int} {want : Int → Bool} (n : Nat) : (byN t now want n).length ≤ n :=
  Nat.le_trans (List.length_filter_le _ _) (knownN_len n)
theorem byT_congr {t : Task} (hG : GoodT t) {now : Int} {w1 w2 : Int → Bool} (h : ∀ x : Int, 0 ≤ x → x < t.trackers.length → w1 x = w2 x) : byT t now w1 = byT t now w2 := by
  unfold byT byN
  refine List.filter_congr fun i hi => ?_
  have hb := byT_bnd (t := t) (now := now) (want := fun _ => true) i (by rw [byT_all]; exact hi)
  have hp := hG.plot (i := i.toNat) (by omega)
  exact h _ hp.tr0 hp.tr1
theorem want_all {x : Int} (h : 0 ≤ x) : wantR (-1) (-1) x = true := by simp [wantR]; omega
theorem want_but {x i : Int} : wantR i (-1) x = decide (x ≠ i) := by simp [wantR]
theorem want_own {x i : Int} (h : 0 ≤ x) (hi : 0 ≤ i) : wantR (-1) i x = decide (x = i) := by
  have e : i ≠ -1 := by omega
  have e2 : x ≠ -1 := by omega
  simp [wantR, e, e2]

end Go.Tk

namespace Go.Tk
open Go.Vc
theorem asked_same {t : Task} {l : List Int} (h : (checkT t).2.2 = 0 → (l.any fun n => oP n 0 100000) = false) : askedT t l = (checkT t).2.2 := by
  by_cases h0 : (checkT t).2.2 = 0
  · rw [asked_ok h0 (h h0), h0]
  · exact asked_bad h0
theorem whereP_ref {t : Task} (hG : GoodT t) {u now : Int} (h : askedT t [u, now] = 0) : whereP t u now = foundP (boxT t (byT t now (wantR (-1) (-1))) u) := by
  rw [whereP, if_neg (fun a => a h), byT_congr hG (w1 := fun _ => true) (w2 := wantR (-1) (-1)) (fun x h0 _ => (want_all h0).symm)]
theorem aloneP_ref {t : Task} (hG : GoodT t) {tr u now : Int} (h : askedT t [] = 0) (h1 : oP tr 0 (t.trackers.length - 1) = false) (h2 : ([u, now].any fun n => oP n 0 100000) = false) : aloneP t tr u now = foundP (boxT t (byT t now (wantR (-1) tr)) u) := by
  rw [aloneP_4 h h1 h2, byT_congr hG (w1 := fun x => decide (x = tr)) (w2 := wantR (-1) tr) (fun x h0 _ => (want_own h0 (oP_in h1).1).symm)]
theorem asked_ne {t : Task} {l : List Int} (h0 : (checkT t).2.2 = 0) (h : askedT t l ≠ 0) : (l.any fun n => oP n 0 100000) = true ∧ askedT t l = 7 := by
  cases ha : (l.any fun n => oP n 0 100000) with
  | true => exact ⟨rfl, asked_any h0 ha⟩
  | false => exact absurd (asked_ok h0 ha) h
theorem asked_any0 {t : Task} {l : List Int} (h : askedT t l = 0) : (l.any fun n => oP n 0 100000) = false := by
  cases ha : (l.any fun n => oP n 0 100000) with
  | false => rfl
  | true =>
    by_cases h0 : (checkT t).2.2 = 0
    · rw [asked_any h0 ha] at h; cases h
    · rw [asked_bad h0] at h; exact absurd h h0
theorem wantR_yes {but alone x : Int} (h1 : ¬ x = but) (h2 : alone = -1 ∨ x = alone) : wantR but alone x = true := by
  simp only [wantR, Bool.and_eq_true, Bool.or_eq_true, decide_eq_true_eq]; exact ⟨h1, h2⟩
theorem wantR_no1 {but alone x : Int} (h1 : x = but) : wantR but alone x = false := by
  rw [wantR, decide_eq_false (fun h => h h1)]; rfl
theorem wantR_no2 {but alone x : Int} (h1 : ¬ alone = -1) (h2 : ¬ x = alone) : wantR but alone x = false := by
  rw [wantR, decide_eq_false h1, decide_eq_false h2]; simp
end Go.Tk

/- Layer 5: boxes are not empty; spare boxes as the reference reckons them. -/
set_option linter.all false
namespace Go.Tk
open Go.Vc

theorem isSome_ex {o : Option Box} (h : o.isSome = true) : ∃ a, o = some a := ⟨_, isSome_get h⟩
theorem notk_t {x : Bool} (h : x = true) : (!x) = false := by rw [h]; rfl
theorem notk_f {x : Bool} (h : x = false) : (!x) = true := by rw [h]; rfl

/-- no span of the box is empty -/
structure BoxNe (b : Box) : Prop where
  x : b.x.lo ≤ b.x.hi
  y : b.y.lo ≤ b.y.hi
  z : b.z.lo ≤ b.z.hi
  vx : b.vx.lo ≤ b.vx.hi
  vy : b.vy.lo ≤ b.vy.hi
  vz : b.vz.lo ≤ b.vz.hi

theorem none_false {s : Span} (h : s.none = false) : s.lo ≤ s.hi := by
  simp only [Span.none, decide_eq_false_iff_not] at h; omega
theorem none_true {s : Span} (h : s.none = true) : s.hi < s.lo := by
  simpa only [Span.none, decide_eq_true_eq] using h
theorem fastT_ne {t : Task} {ps : List Int} {k u : Int} {s : Span} (h : fastT t ps k u = some s) : s.lo ≤ s.hi := by
  unfold fastT at h
  split at h
  · cases h; exact Int.le_refl _
  · cases hf : fastN t ps k u 8 with
    | none => rw [hf] at h; cases h
    | some r =>
      rw [hf] at h
      simp only [Option.bind_some] at h
      split at h
      · cases h
      · rename_i hn
        cases h
        exact none_false (by cases hh : s.none <;> simp_all)
theorem partT_ne {t : Task} {ps : List Int} {k u : Int} {a : Span × Span} (h : partT t ps k u = some a) : a.1.lo ≤ a.1.hi ∧ a.2.lo ≤ a.2.hi := by
  unfold partT at h
  cases hf : fastT t ps k u with
  | none => rw [hf] at h; cases h
  | some v =>
    rw [hf] at h
    simp only [Option.bind_some] at h
    split at h
    · cases h
    · rename_i hn
      cases h
      exact ⟨none_false (by cases hh : (placeT t ps k u).none <;> simp_all), fastT_ne hf⟩
theorem boxT_parts {t : Task} {ps : List Int} {u : Int} {b : Box} (h : boxT t ps u = some b) : ∃ p0 p1 p2, partT t ps 0 u = some p0 ∧ partT t ps 1 u = some p1 ∧ partT t ps 2 u = some p2 ∧ b = ⟨u, p0.1, p1.1, p2.1, p0.2, p1.2, p2.2⟩ := by
  unfold boxT at h
  cases h0 : partT t ps 0 u with
  | none => rw [h0] at h; cases h
  | some p0 =>
    cases h1 : partT t ps 1 u with
    | none => rw [h0, Option.bind_some, h1] at h; cases h
    | some p1 =>
      cases h2 : partT t ps 2 u with
      | none => rw [h0, Option.bind_some, h1, Option.bind_some, h2] at h; cases h
      | some p2 =>
        rw [h0, Option.bind_some, h1, Option.bind_some, h2] at h
        simp only [Option.bind_some, Option.some.injEq] at h
        exact ⟨p0, p1, p2, rfl, rfl, rfl, h.symm⟩
theorem boxT_ne {t : Task} {ps : List Int} {u : Int} {b : Box} (h : boxT t ps u = some b) : BoxNe b := by
  obtain ⟨p0, p1, p2, h0, h1, h2, rfl⟩ := boxT_parts h
  exact ⟨(partT_ne h0).1, (partT_ne h1).1, (partT_ne h2).1, (partT_ne h0).2, (partT_ne h1).2, (partT_ne h2).2⟩
theorem joinB_ne {a b : Box} (ha : BoxNe a) : BoxNe (joinB a b) := by
  obtain ⟨h1, h2, h3, h4, h5, h6⟩ := ha
  constructor <;> (simp only [joinB, joinS]; omega)
theorem foldl_ne {l : List (Int × Box)} : ∀ (acc : Option Box), (∀ b, acc = some b → BoxNe b) → (∀ p ∈ l, BoxNe p.2) → ∀ b, l.foldl (fun acc p => addB acc p.2) acc = some b → BoxNe b := by
  induction l with
  | nil => intro acc h _ b hb; exact h b hb
  | cons p l ih =>
    intro acc h hp b hb
    refine ih (addB acc p.2) ?_ (fun q hq => hp q (.tail _ hq)) b hb
    intro c hc
    cases acc with
    | none => cases hc; exact hp p (.head _)
    | some a => cases hc; exact joinB_ne (h a rfl)
theorem others_mem {t : Task} {u now : Int} {n : Nat} {p : Int × Box} (h : p ∈ othersV t u now n) : boxT t (byT t now (fun x => decide (x ≠ p.1))) u = some p.2 ∧ 0 ≤ p.1 ∧ p.1 < n := by
  rw [othersV, List.mem_filterMap] at h
  obtain ⟨i, hi, h⟩ := h
  have hin := List.mem_range.1 hi
  cases hb : boxT t (byT t now (fun x => decide (x ≠ (i : Int)))) u with
  | none => rw [hb] at h; cases h
  | some b =>
    rw [hb] at h
    simp only [Option.map_some, Option.some.injEq] at h
    subst h
    exact ⟨hb, by simp only []; omega, by simp only []; omega⟩
theorem spareT_ne {t : Task} {u now : Int} {b : Box} (h : spareT t u now = some b) : BoxNe b := by
  unfold spareT at h
  split at h
  · exact boxT_ne h
  · exact foldl_ne none (fun _ h => by cases h) (fun p hp => boxT_ne (others_mem hp).1) b h

theorem want_butF (i : Int) : wantR i (-1) = fun x => decide (x ≠ i) := by funext x; exact want_but
theorem own_ref {t : Task} (hG : GoodT t) {u now k : Int} (hk : 0 ≤ k) : boxT t (byT t now (wantR (-1) k)) u = ownT t u now k := by
  rw [ownT, byT_congr hG (w1 := wantR (-1) k) (w2 := fun x => decide (x = k)) (fun x h0 _ => want_own h0 hk)]
theorem all_ref {t : Task} (hG : GoodT t) {u now : Int} : boxT t (byT t now (wantR (-1) (-1))) u = boxT t (byT t now fun _ => true) u := by
  rw [byT_congr hG (w1 := wantR (-1) (-1)) (w2 := fun _ => true) (fun x h0 _ => want_all h0)]
theorem byT_none {t : Task} (hG : GoodT t) (now : Int) (want : Int → Bool) (h : t.trackers.length = 0) : byT t now want = [] := by
  cases hb : byT t now want with
  | nil => rfl
  | cons i l =>
    have h1 := byT_bnd (t := t) (now := now) (want := want) i (by rw [hb]; exact .head _)
    have := hG.plot (i := i.toNat) (by omega)
    have h2 := this.tr0
    have h3 := this.tr1
    omega
theorem foldB_yes {t : Task} {u now k : Int} {b : Box} (hk : 0 ≤ k) (h : boxT t (byT t now (fun x => decide (x ≠ k))) u = some b) : foldB (othersV t u now (k + 1).toNat) = addB (foldB (othersV t u now k.toNat)) b := by
  rw [othersV_yes hk h, foldB_snoc]
theorem foldB_no {t : Task} {u now k : Int} (hk : 0 ≤ k) (h : boxT t (byT t now (fun x => decide (x ≠ k))) u = none) : foldB (othersV t u now (k + 1).toNat) = foldB (othersV t u now k.toNat) := by
  rw [othersV_no hk h]
theorem fstV_yes {t : Task} {u now k : Int} {b : Box} (hk : 0 ≤ k) (h : boxT t (byT t now (fun x => decide (x ≠ k))) u = some b) : (othersV t u now (k + 1).toNat).map Prod.fst = (othersV t u now k.toNat).map Prod.fst ++ [k] := by
  rw [othersV_yes hk h, List.map_append]; rfl
theorem fstV_no {t : Task} {u now k : Int} (hk : 0 ≤ k) (h : boxT t (byT t now (fun x => decide (x ≠ k))) u = none) : (othersV t u now (k + 1).toNat).map Prod.fst = (othersV t u now k.toNat).map Prod.fst := by
  rw [othersV_no hk h]
theorem fstV_len {t : Task} {u now : Int} {n : Nat} : ((othersV t u now n).map Prod.fst).length ≤ n := by
  have h := othersV_len (t := t) (u := u) (now := now) (n := n)
  rw [List.length_map] at h ⊢; exact h
theorem failsL_len {t : Task} {u now : Int} : (failsL t u now).length ≤ 5 := by
  by_cases h : askedT t [u, now] = 0
  · rw [(failsL_2 h).1]; exact Nat.le_trans fstV_len (asked_zero h).1.h1
  · rw [(failsL_1 h).1]; exact Nat.zero_le _

end Go.Tk

/- Layer 5: with less that binds, no box becomes less. -/
set_option linter.all false
namespace Go.Tk
open Go.Vc

/-- a span within another one, by its ends -/
def InS (a b : Span) : Prop := b.lo ≤ a.lo ∧ a.hi ≤ b.hi
theorem InS.none {a b : Span} (h : InS a b) (ha : a.none = false) : b.none = false := by
  have := none_false ha
  simp only [Span.none, decide_eq_false_iff_not]
  have := h.1; have := h.2; omega
structure InB (a b : Box) : Prop where
  at_ : a.at_ = b.at_
  x : InS a.x b.x
  y : InS a.y b.y
  z : InS a.z b.z
  vx : InS a.vx b.vx
  vy : InS a.vy b.vy
  vz : InS a.vz b.vz

/-- what binds (t', ps') binds (t, ps) no less -/
structure Binds (t : Task) (ps : List Int) (t' : Task) (ps' : List Int) : Prop where
  frm : t.frm = t'.frm
  speed : t.speed ≤ t'.speed
  accel : 0 ≤ t.accel ∧ t.accel ≤ t'.accel
  reach : ∀ n, 0 ≤ n → reachT t n ≤ reachT t' n
  plots : ∀ i' ∈ ps', ∃ i ∈ ps, ∀ k u, InS (plotS t k u i) (plotS t' k u i')

theorem fold_in {t : Task} {k u : Int} : ∀ (l : List Int) (s : Span), InS (l.foldl (fun s i => common s (plotS t k u i)) s) s ∧ ∀ i ∈ l, InS (l.foldl (fun s i => common s (plotS t k u i)) s) (plotS t k u i) := by
  intro l
  induction l with
  | nil => intro s; exact ⟨⟨Int.le_refl _, Int.le_refl _⟩, fun i h => by cases h⟩
  | cons i l ih =>
    intro s
    obtain ⟨h1, h2⟩ := ih (common s (plotS t k u i))
    simp only [List.foldl_cons]
    have hc : InS (common s (plotS t k u i)) s ∧ InS (common s (plotS t k u i)) (plotS t k u i) := by
      simp only [InS, common]; omega
    have tr : ∀ {a b c : Span}, InS a b → InS b c → InS a c := fun p q => ⟨Int.le_trans q.1 p.1, Int.le_trans p.2 q.2⟩
    refine ⟨tr h1 hc.1, fun j hj => ?_⟩
    rcases List.mem_cons.1 hj with rfl | hj
    · exact tr h1 hc.2
    · exact h2 j hj
theorem fold_out {t : Task} {k u : Int} {a : Span} : ∀ (l : List Int) (s : Span), InS a s → (∀ i ∈ l, InS a (plotS t k u i)) → InS a (l.foldl (fun s i => common s (plotS t k u i)) s) := by
  intro l
  induction l with
  | nil => intro s h _; exact h
  | cons i l ih =>
    intro s h hp
    refine ih _ ?_ (fun j hj => hp j (.tail _ hj))
    have h2 := hp i (.head _)
    simp only [InS, common] at h h2 ⊢; omega

theorem place_mono {t t' : Task} {ps ps' : List Int} (h : Binds t ps t' ps') (k u : Int) : InS (placeT t ps k u) (placeT t' ps' k u) := by
  unfold placeT
  rw [h.frm]
  split
  · rename_i hu
    have hr := h.reach (u - t.frm) (by rw [h.frm]; omega)
    obtain ⟨h1, h2⟩ := fold_in (t := t) (k := k) (u := u) ps (room0 (min 2000000000 (reachT t (u - t.frm))))
    refine fold_out _ _ ?_ (fun i' hi' => ?_)
    · have : InS (placeN t ps k u) (room0 (min 2000000000 (reachT t (u - t.frm)))) := h1
      rw [← h.frm]
      simp only [InS, room0] at this ⊢; omega
    · obtain ⟨i, hi, hin⟩ := h.plots i' hi'
      have a := h2 i hi
      have b := hin k u
      exact ⟨Int.le_trans b.1 a.1, Int.le_trans a.2 b.2⟩
  · exact ⟨Int.le_refl _, Int.le_refl _⟩

theorem gone_mono {s s' : Span} {lo hi lo' hi' j : Int} (hj : 0 < j) (hs : InS s s') (hl : lo' ≤ lo) (hh : hi ≤ hi') : InS (goneS s lo hi j) (goneS s' lo' hi' j) := by
  have h1 := Int.ediv_le_ediv hj (show -lo ≤ -lo' by omega)
  have h2 := Int.ediv_le_ediv hj hh
  simp only [InS, goneS] at hs ⊢; omega
theorem more_mono {t t' : Task} (h : 0 ≤ t.accel ∧ t.accel ≤ t'.accel) {j : Int} (hj : 1 ≤ j) : moreB t j ≤ moreB t' j ∧ moreF t j ≤ moreF t' j := by
  have h1 : 0 ≤ (j * (j + 1)).tdiv 2 := Int.tdiv_nonneg (Int.mul_nonneg (by omega) (by omega)) (by omega)
  have h2 : 0 ≤ (j * (j - 1)).tdiv 2 := Int.tdiv_nonneg (Int.mul_nonneg (by omega) (by omega)) (by omega)
  exact ⟨Int.mul_le_mul_of_nonneg_right h.2 h1, Int.mul_le_mul_of_nonneg_right h.2 h2⟩

theorem fastB_mono {t t' : Task} {ps ps' : List Int} (h : Binds t ps t' ps') {k u j : Int} (hj : 1 ≤ j) {s s' r : Span} (hs : InS s s') (hr : fastB t ps k u j s = some r) : ∃ r', fastB t' ps' k u j s' = some r' ∧ InS r r' := by
  unfold fastB at hr ⊢
  rw [← h.frm]
  split at hr
  · rename_i hf
    rw [if_pos hf]
    split at hr
    · cases hr
    · rename_i hn
      cases hr
      have hp := place_mono h k u
      have hv := place_mono h k (u - j)
      have hne := hv.none (by cases hh : (placeT t ps k (u - j)).none <;> simp_all)
      rw [if_neg (by rw [hne]; decide)]
      have hm := (more_mono h.accel hj).1
      exact ⟨_, rfl, gone_mono (by omega) hs (by have := hp.1; have := hv.2; omega) (by have := hp.2; have := hv.1; omega)⟩
  · rename_i hf
    rw [if_neg hf]
    cases hr
    exact ⟨_, rfl, hs⟩
theorem fastF_mono {t t' : Task} {ps ps' : List Int} (h : Binds t ps t' ps') {k u j : Int} (hj : 1 ≤ j) {s s' r : Span} (hs : InS s s') (hr : fastF t ps k u j s = some r) : ∃ r', fastF t' ps' k u j s' = some r' ∧ InS r r' := by
  unfold fastF at hr ⊢
  split at hr
  · rename_i hf
    rw [if_pos hf]
    split at hr
    · cases hr
    · rename_i hn
      cases hr
      have hp := place_mono h k u
      have hv := place_mono h k (u + j)
      have hne := hv.none (by cases hh : (placeT t ps k (u + j)).none <;> simp_all)
      rw [if_neg (by rw [hne]; decide)]
      have hm := (more_mono h.accel hj).2
      exact ⟨_, rfl, gone_mono (by omega) hs (by have := hp.2; have := hv.1; omega) (by have := hp.1; have := hv.2; omega)⟩
  · rename_i hf
    rw [if_neg hf]
    cases hr
    exact ⟨_, rfl, hs⟩
theorem fastN_mono {t t' : Task} {ps ps' : List Int} (h : Binds t ps t' ps') {k u : Int} (hu : t.frm ≤ u) : ∀ n {r : Span}, fastN t ps k u n = some r → ∃ r', fastN t' ps' k u n = some r' ∧ InS r r' := by
  intro n
  induction n with
  | zero =>
    intro r hr
    simp only [fastN, Option.some.injEq] at hr
    subst hr
    refine ⟨_, rfl, ?_⟩
    have h1 := h.speed
    have h2 := Int.mul_le_mul_of_nonneg_right h.accel.2 (show 0 ≤ u - t.frm + 1 by omega)
    rw [← h.frm]
    simp only [InS, room0]; omega
  | succ n ih =>
    intro r hr
    simp only [fastN] at hr ⊢
    cases h0 : fastN t ps k u n with
    | none => rw [h0] at hr; cases hr
    | some a =>
      rw [h0, Option.bind_some] at hr
      obtain ⟨a', e0, i0⟩ := ih h0
      cases h1 : fastB t ps k u (n + 1) a with
      | none => rw [h1] at hr; cases hr
      | some b =>
        rw [h1, Option.bind_some] at hr
        obtain ⟨b', e1, i1⟩ := fastB_mono h (by omega) i0 h1
        obtain ⟨c', e2, i2⟩ := fastF_mono h (by omega) i1 hr
        exact ⟨c', by rw [e0, Option.bind_some, e1, Option.bind_some, e2], i2⟩
theorem fastT_mono {t t' : Task} {ps ps' : List Int} (h : Binds t ps t' ps') {k u : Int} {r : Span} (hr : fastT t ps k u = some r) : ∃ r', fastT t' ps' k u = some r' ∧ InS r r' := by
  unfold fastT at hr ⊢
  rw [← h.frm]
  split at hr
  · rename_i hu
    rw [if_pos hu]
    cases hr
    exact ⟨_, rfl, Int.le_refl _, Int.le_refl _⟩
  · rename_i hu
    rw [if_neg hu]
    cases h0 : fastN t ps k u 8 with
    | none => rw [h0] at hr; cases hr
    | some a =>
      rw [h0, Option.bind_some] at hr
      obtain ⟨a', e0, i0⟩ := fastN_mono h (by omega) 8 h0
      split at hr
      · cases hr
      · rename_i hn
        cases hr
        have hne := i0.none (by cases hh : r.none <;> simp_all)
        refine ⟨a', ?_, i0⟩
        rw [e0, Option.bind_some, if_neg (by rw [hne]; decide)]
theorem partT_mono {t t' : Task} {ps ps' : List Int} (h : Binds t ps t' ps') {k u : Int} {r : Span × Span} (hr : partT t ps k u = some r) : ∃ r', partT t' ps' k u = some r' ∧ InS r.1 r'.1 ∧ InS r.2 r'.2 := by
  unfold partT at hr ⊢
  cases h0 : fastT t ps k u with
  | none => rw [h0] at hr; cases hr
  | some a =>
    rw [h0, Option.bind_some] at hr
    obtain ⟨a', e0, i0⟩ := fastT_mono h h0
    split at hr
    · cases hr
    · rename_i hn
      cases hr
      have hp := place_mono h k u
      have hne := hp.none (by cases hh : (placeT t ps k u).none <;> simp_all)
      refine ⟨(placeT t' ps' k u, a'), ?_, hp, i0⟩
      rw [e0, Option.bind_some, if_neg (by rw [hne]; decide)]
theorem box_mono {t t' : Task} {ps ps' : List Int} (h : Binds t ps t' ps') {u : Int} {b : Box} (hb : boxT t ps u = some b) : ∃ b', boxT t' ps' u = some b' ∧ InB b b' := by
  obtain ⟨p0, p1, p2, h0, h1, h2, rfl⟩ := boxT_parts hb
  obtain ⟨q0, e0, i0, j0⟩ := partT_mono h h0
  obtain ⟨q1, e1, i1, j1⟩ := partT_mono h h1
  obtain ⟨q2, e2, i2, j2⟩ := partT_mono h h2
  exact ⟨_, boxT_3 e0 e1 e2, rfl, i0, i1, i2, j0, j1, j2⟩

theorem InS.anti {a b : Span} (h : InS a b) (h2 : InS b a) : a = b := by
  obtain ⟨a1, a2⟩ := a
  obtain ⟨b1, b2⟩ := b
  simp only [InS] at h h2
  simp only [Span.mk.injEq]; omega
theorem InB.anti {a b : Box} (h : InB a b) (h2 : InB b a) : a = b := by
  have e1 := h.x.anti h2.x
  have e2 := h.y.anti h2.y
  have e3 := h.z.anti h2.z
  have e4 := h.vx.anti h2.vx
  have e5 := h.vy.anti h2.vy
  have e6 := h.vz.anti h2.vz
  have e0 := h.at_
  cases a; cases b
  simp_all
theorem InB.refl (a : Box) : InB a a := ⟨rfl, ⟨Int.le_refl _, Int.le_refl _⟩, ⟨Int.le_refl _, Int.le_refl _⟩, ⟨Int.le_refl _, Int.le_refl _⟩, ⟨Int.le_refl _, Int.le_refl _⟩, ⟨Int.le_refl _, Int.le_refl _⟩, ⟨Int.le_refl _, Int.le_refl _⟩⟩
theorem InS.trans {a b c : Span} (p : InS a b) (q : InS b c) : InS a c := ⟨Int.le_trans q.1 p.1, Int.le_trans p.2 q.2⟩
theorem InB.trans {a b c : Box} (p : InB a b) (q : InB b c) : InB a c := ⟨p.at_.trans q.at_, p.x.trans q.x, p.y.trans q.y, p.z.trans q.z, p.vx.trans q.vx, p.vy.trans q.vy, p.vz.trans q.vz⟩
/-- tasks that are bound alike have the same boxes -/
theorem box_same {t t' : Task} {ps ps' : List Int} (h : Binds t ps t' ps') (h2 : Binds t' ps' t ps) (u : Int) : boxT t ps u = boxT t' ps' u := by
  cases hb : boxT t ps u with
  | some b =>
    obtain ⟨b', e, i⟩ := box_mono h hb
    obtain ⟨b2, e2, i2⟩ := box_mono h2 e
    rw [hb] at e2; cases e2
    rw [e, i.anti i2]
  | none =>
    cases hb' : boxT t' ps' u with
    | none => rfl
    | some b' =>
      obtain ⟨b2, e2, _⟩ := box_mono h2 hb'
      rw [hb] at e2; cases e2

/-- fewer plots of one task -/
theorem binds_sub {t : Task} (hG : GoodT t) {ps ps' : List Int} (h : ∀ i ∈ ps', i ∈ ps) : Binds t ps t ps' := by
  obtain ⟨_, _, ha⟩ := hG.nums
  exact ⟨rfl, Int.le_refl _, ⟨by omega, Int.le_refl _⟩, fun _ _ => Int.le_refl _, fun i hi => ⟨i, h i hi, fun _ _ => ⟨Int.le_refl _, Int.le_refl _⟩⟩⟩
theorem byT_sub {t : Task} {now : Int} {w1 w2 : Int → Bool} (h : ∀ x, w2 x = true → w1 x = true) : ∀ i ∈ byT t now w2, i ∈ byT t now w1 := by
  intro i hi
  unfold byT byN at hi ⊢
  rw [List.mem_filter] at hi ⊢
  exact ⟨hi.1, h _ hi.2⟩

theorem joinB_in {a b c : Box} (h : InB a b) : InB a (joinB b c) := by
  obtain ⟨h0, h1, h2, h3, h4, h5, h6⟩ := h
  refine ⟨h0, ?_, ?_, ?_, ?_, ?_, ?_⟩ <;> (simp only [InS, joinB, joinS] at *; omega)
theorem foldl_in {a : Box} : ∀ (l : List (Int × Box)) (acc : Option Box), (∀ b, acc = some b → InB a b) → (∀ p ∈ l, InB a p.2) → ∀ b, l.foldl (fun acc p => addB acc p.2) acc = some b → InB a b := by
  intro l
  induction l with
  | nil => intro acc h _ b hb; exact h b hb
  | cons p l ih =>
    intro acc h hp b hb
    refine ih (addB acc p.2) ?_ (fun q hq => hp q (.tail _ hq)) b hb
    intro c hc
    cases acc with
    | none => cases hc; exact hp p (.head _)
    | some x => cases hc; exact joinB_in (h x rfl)
theorem foldl_some : ∀ (l : List (Int × Box)) (acc : Option Box), (acc.isSome = true ∨ l ≠ []) → (l.foldl (fun acc p => addB acc p.2) acc).isSome = true := by
  intro l
  induction l with
  | nil => intro acc h; rcases h with h | h; exact h; exact absurd rfl h
  | cons p l ih =>
    intro acc _
    refine ih _ (.inl ?_)
    cases acc <;> rfl

/-! ### if all agree -/
structure AgreeS (t : Task) (u now : Int) (b : Box) : Prop where
  others : ∀ k : Nat, k < t.trackers.length → (boxT t (byT t now (fun x => decide (x ≠ (k : Int)))) u).isSome = true
  own : ∀ k, ∃ a, ownT t u now k = some a ∧ InB b a
  spare : ∃ s, spareT t u now = some s ∧ InB b s

theorem agree_of {t : Task} (hG : GoodT t) {u now : Int} {b : Box} (h : boxT t (byT t now fun _ => true) u = some b) : AgreeS t u now b := by
  have sub : ∀ w2 : Int → Bool, ∃ b', boxT t (byT t now w2) u = some b' ∧ InB b b' := fun w2 => box_mono (binds_sub hG (byT_sub (w1 := fun _ => true) (w2 := w2) (fun _ _ => rfl))) h
  refine ⟨fun k _ => ?_, fun k => sub _, ?_⟩
  · obtain ⟨b', e, _⟩ := sub (fun x => decide (x ≠ (k : Int)))
    rw [e]; rfl
  · by_cases h0 : t.trackers.length = 0
    · exact ⟨b, by rw [spareT, if_pos h0, h], InB.refl b⟩
    · have hs : (foldB (othersV t u now t.trackers.length)).isSome = true := by
        refine foldl_some _ _ (.inr ?_)
        obtain ⟨b', e, _⟩ := sub (fun x => decide (x ≠ ((0 : Nat) : Int)))
        have hm : (((0 : Nat) : Int), b') ∈ othersV t u now t.trackers.length := by
          rw [othersV, List.mem_filterMap]
          exact ⟨0, List.mem_range.2 (by omega), by rw [e]; rfl⟩
        intro hn
        rw [hn] at hm; cases hm
      obtain ⟨s, hs⟩ := Option.isSome_iff_exists.1 hs
      refine ⟨s, by rw [spareT, if_neg h0, hs], foldl_in _ none (fun _ h => by cases h) (fun p hp => ?_) s hs⟩
      obtain ⟨e, _⟩ := others_mem hp
      obtain ⟨b', e', i⟩ := sub (fun x => decide (x ≠ p.1))
      rw [e] at e'; cases e'
      exact i

theorem othersV_full {t : Task} {u now : Int} : ∀ n, (∀ k : Nat, k < n → (boxT t (byT t now (fun x => decide (x ≠ (k : Int)))) u).isSome = true) → (othersV t u now n).map Prod.fst = (List.range n).map fun i : Nat => (i : Int) := by
  intro n
  induction n with
  | zero => intro _; rfl
  | succ n ih =>
    intro h
    obtain ⟨b, hb⟩ := Option.isSome_iff_exists.1 (h n (by omega))
    have h1 := fstV_yes (t := t) (u := u) (now := now) (k := (n : Int)) (by omega) hb
    have e : ((n : Int) + 1).toNat = n + 1 := by omega
    have e2 : ((n : Int)).toNat = n := by omega
    rw [e, e2] at h1
    rw [h1, ih (fun k hk => h k (by omega)), List.range_succ, List.map_append]
    rfl

/-! ### rows that grew, opened -/
theorem Grow.form2 {el size n c : Nat} {a : Option Addr} {xs : List Value} {G : Heap} (h : Grow el size (.slice a n c) n xs G) (hn : 0 < n) : ∃ b cur, a = some ⟨b, 0, none⟩ ∧ G = [(b, .cells cur el)] ∧ cur.toList.take (n * size) = xs ∧ cur.size = c * size ∧ n ≤ c ∧ c ≤ maxLen := by
  cases h with
  | nil => omega
  | row h1 h2 h3 h4 h5 => exact ⟨_, _, rfl, rfl, h4, h3, h1, h2⟩
theorem cur_at {cur : Array Value} {xs : List Value} {n i : Nat} {v : Value} (h : cur.toList.take n = xs) (hi : xs[i]? = some v) : cur.toList[i]? = some v := by
  rw [← h, List.getElem?_take] at hi
  split at hi
  · exact hi
  · cases hi
theorem range_at {n : Nat} {k : Int} (h0 : 0 ≤ k) (h : k < n) : (iiL ((List.range n).map fun i : Nat => (i : Int)))[0 + k.toNat * 1]? = some (.int .i64 k) := by
  have e : 0 + k.toNat * 1 = k.toNat := by omega
  rw [e, iiL, List.getElem?_map, List.getElem?_map, List.getElem?_range (by omega)]
  simp only [Option.map_some]
  congr 2; omega
theorem alone_own {t : Task} {k u now : Int} {a : Box} (h0 : askedT t [u, now] = 0) (hk : 0 ≤ k ∧ k < t.trackers.length) (ha : ownT t u now k = some a) : aloneP t k u now = (a, 0) := by
  have hz : (checkT t).2.2 = 0 := by
    by_cases hz : (checkT t).2.2 = 0
    · exact hz
    · rw [asked_bad hz] at h0; exact absurd h0 hz
  have h1 : oP k 0 (t.trackers.length - 1) = false := oP_false.2 (by omega)
  rw [aloneP_4 (asked_ok hz rfl) h1 (asked_any0 h0)]
  have : boxT t (byT t now fun x => decide (x = k)) u = some a := ha
  rw [this]; rfl
theorem alone_none {t : Task} {k u now : Int} (h0 : askedT t [u, now] = 0) (hk : 0 ≤ k ∧ k < t.trackers.length) : aloneP t k u now = foundP (ownT t u now k) := by
  have hz : (checkT t).2.2 = 0 := by
    by_cases hz : (checkT t).2.2 = 0
    · exact hz
    · rw [asked_bad hz] at h0; exact absurd h0 hz
  have h1 : oP k 0 (t.trackers.length - 1) = false := oP_false.2 (by omega)
  rw [aloneP_4 (asked_ok hz rfl) h1 (asked_any0 h0)]; rfl
theorem whereP_some {t : Task} {u now : Int} {b : Box} (h0 : askedT t [u, now] = 0) (h : boxT t (byT t now fun _ => true) u = some b) : whereP t u now = (b, 0) := by
  rw [whereP, if_neg (fun a => a h0), h]; rfl
theorem whereP_none {t : Task} {u now : Int} (h0 : askedT t [u, now] = 0) (h : boxT t (byT t now fun _ => true) u = none) : whereP t u now = (boxZ, 9) := by
  rw [whereP, if_neg (fun a => a h0), h]; rfl
theorem whereP_bad {t : Task} {u now : Int} (h0 : askedT t [u, now] ≠ 0) : whereP t u now = (boxZ, askedT t [u, now]) := if_pos h0
theorem spareP_some {t : Task} {u now : Int} {b : Box} (h0 : askedT t [u, now] = 0) (h : spareT t u now = some b) : spareP t u now = (b, 0) := by
  rw [spareP, if_neg (fun a => a h0), h]; rfl
theorem spareP_none {t : Task} {u now : Int} (h0 : askedT t [u, now] = 0) (h : spareT t u now = none) : spareP t u now = (boxZ, 9) := by
  rw [spareP, if_neg (fun a => a h0), h]; rfl
theorem spareP_bad {t : Task} {u now : Int} (h0 : askedT t [u, now] ≠ 0) : spareP t u now = (boxZ, askedT t [u, now]) := if_pos h0

theorem own9_t {o : Option Box} (h : ¬ (if o.isSome = true then (0 : Int) else 9) = 0) : o.isSome = false := by
  cases hh : o.isSome with
  | false => rfl
  | true => rw [hh] at h; exact absurd rfl h
theorem own9_f {o : Option Box} (h : (if o.isSome = true then (0 : Int) else 9) = 0) : o.isSome = true := by
  cases hh : o.isSome with
  | true => rfl
  | false => rw [hh] at h; cases h

end Go.Tk
