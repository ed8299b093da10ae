/- The plain part of layer 5: what its functions compute. -/
import Derived.Test.YtclbbchehjapjabVcF
set_option linter.all false
namespace Go.Tk
open Go.Vc

structure Tracker where
  name : ByteArray
  x : Int
  y : Int
  error : Int
  grow : Int
  late : Int
structure Plot where
  tracker : Int
  tick : Int
  x : Int
  y : Int
  z : Int
structure Task where
  frm : Int
  speed : Int
  accel : Int
  trackers : List Tracker
  plots : List Plot
structure Span where
  lo : Int
  hi : Int
  deriving DecidableEq
structure Box where
  at_ : Int
  x : Span
  y : Span
  z : Span
  vx : Span
  vy : Span
  vz : Span

def ii (n : Int) : Value := .int .i64 n
def Tracker.cells (t : Tracker) : List Value := [.string t.name, .int .i64 t.x, .int .i64 t.y, .int .i64 t.error, .int .i64 t.grow, .int .i64 t.late]
def Plot.cells (p : Plot) : List Value := [.int .i64 p.tracker, .int .i64 p.tick, .int .i64 p.x, .int .i64 p.y, .int .i64 p.z]
def Span.cells (s : Span) : List Value := [.int .i64 s.lo, .int .i64 s.hi]

def trZ : Tracker := ⟨ByteArray.empty, 0, 0, 0, 0, 0⟩
def plZ : Plot := ⟨0, 0, 0, 0, 0⟩
def Task.tr (t : Task) (i : Nat) : Tracker := t.trackers.getD i trZ
def Task.pl (t : Task) (i : Nat) : Plot := t.plots.getD i plZ

/-! ### slices in memory -/

/-- v is a slice whose elements, of size cells each, read els. -/
structure SliceR (w : World) (size : Nat) (v : Value) (els : List (List Value)) : Prop where
  ex : ∃ a cap, v = .slice a els.length cap ∧ els.length ≤ cap ∧ ∀ i e, els[i]? = some e → ∃ b, a = some b ∧ cellsAt w (b.add (i * size)) e

theorem SliceR.ext {w w' : World} {size : Nat} {v : Value} {els : List (List Value)} (h : SliceR w size v els) (he : Ext w w') : SliceR w' size v els := by
  obtain ⟨a, cap, hv, hl, hc⟩ := h.ex
  exact ⟨a, cap, hv, hl, fun i e hi => let ⟨b, hb, hcb⟩ := hc i e hi; ⟨b, hb, he.cells hcb⟩⟩

theorem SliceR.good {w0 w : World} {H : Heap} {size : Nat} {v : Value} {els : List (List Value)} (h : SliceR w0 size v els) (hg : Vc.Good w0 [] H w) : SliceR w size v els := h.ext hg.toExt

theorem own_ints {w : World} {b n cap ty : Nat} {fr : Nat × Nat} {l : List Int} (h : w.heap[b]? = some (.cells (l.map fun n => Value.int .i64 n).toArray ty fr)) (hn : n = l.length) (hc : n ≤ cap) :
    SliceR w 1 (.slice (some ⟨b, 0, none⟩) n cap) (l.map fun n => [Value.int .i64 n]) := by
  subst hn
  refine ⟨some ⟨b, 0, none⟩, cap, by simp, by simpa using hc, fun i e hi => ⟨_, rfl, fun j v hj => ?_⟩⟩
  simp only [List.getElem?_map] at hi
  cases hl : l[i]? with
  | none => simp [hl] at hi
  | some x =>
    rw [hl] at hi
    simp only [Option.map_some, Option.some.injEq] at hi
    subst hi
    cases j with
    | succ j => simp at hj
    | zero =>
      simp only [List.getElem?_cons_zero, Option.some.injEq] at hj
      subst hj
      rw [add_none, add_none, own_cell h]
      simp [hl]

theorem SliceR.take {w : World} {size : Nat} {a : Option Addr} {n cap k : Nat} {els : List (List Value)} (h : SliceR w size (.slice a n cap) els) (hk : k ≤ els.length) : SliceR w size (.slice a k cap) (els.take k) := by
  obtain ⟨a', cap', hv, hl, hc⟩ := h.ex
  injection hv with h1 h2 h3
  subst h1 h2 h3
  refine ⟨a, cap, by simp; omega, by simp; omega, fun i e hi => hc i e ?_⟩
  rw [List.getElem?_take] at hi
  split at hi
  · exact hi
  · cases hi

theorem SliceR.takeM {α : Type} {w : World} {size : Nat} {a : Option Addr} {n cap k : Nat} {l : List α} {f : α → List Value} (h : SliceR w size (.slice a n cap) (l.map f)) (hk : k ≤ l.length) : SliceR w size (.slice a k cap) ((l.take k).map f) := by
  have := h.take (k := k) (by rw [List.length_map]; exact hk)
  rwa [← List.map_take] at this

structure TaskR (w : World) (v : Value) (t : Task) : Prop where
  names : ∀ x ∈ t.trackers, (x.name.size : Int) ≤ 9223372036854775807
  ltr : (t.trackers.length : Int) ≤ 9223372036854775807
  lpl : (t.plots.length : Int) ≤ 9223372036854775807
  ex : ∃ tv pv, v = .agg #[.int .i64 t.frm, .int .i64 t.speed, .int .i64 t.accel, tv, pv] ∧ SliceR w 6 tv (t.trackers.map Tracker.cells) ∧ SliceR w 5 pv (t.plots.map Plot.cells)

theorem TaskR.ext {w w' : World} {v : Value} {t : Task} (h : TaskR w v t) (he : Ext w w') : TaskR w' v t := by
  obtain ⟨tv, pv, hv, h1, h2⟩ := h.ex
  exact ⟨h.names, h.ltr, h.lpl, tv, pv, hv, h1.ext he, h2.ext he⟩

theorem TaskR.good {w0 w : World} {H : Heap} {v : Value} {t : Task} (h : TaskR w0 v t) (hg : Vc.Good w0 [] H w) : TaskR w v t := h.ext hg.toExt

theorem TaskR.name {w : World} {v : Value} {t : Task} (h : TaskR w v t) (i : Nat) : ((t.tr i).name.size : Int) ≤ 9223372036854775807 := by
  rw [Task.tr, List.getD_eq_getElem?_getD]
  cases hx : t.trackers[i]? with
  | none => exact (by decide : ((ByteArray.empty.size : Nat) : Int) ≤ 9223372036854775807)
  | some x => exact h.names x (List.mem_of_getElem? hx)

/-! ### the checks -/

def oP (n lo hi : Int) : Bool := decide (n < lo) || decide (hi < n)

theorem oP_true {n lo hi : Int} : oP n lo hi = true ↔ n < lo ∨ hi < n := by simp [oP]
theorem oP_false {n lo hi : Int} : oP n lo hi = false ↔ lo ≤ n ∧ n ≤ hi := by simp [oP]

/-- the first index that meets p; -1: none -/
def firstIdx (p : Nat → Bool) : Nat → Nat → Int
  | _, 0 => -1
  | k, n + 1 => bif p k then k else firstIdx p (k + 1) n

theorem firstIdx_of {p : Nat → Bool} {n : Nat} : ∀ (m k : Nat), k + m = n → (firstIdx p k m = -1 ∧ ∀ i, k ≤ i → i < n → p i = false) ∨ ∃ i, k ≤ i ∧ i < n ∧ firstIdx p k m = i ∧ p i = true ∧ ∀ j, k ≤ j → j < i → p j = false := by
  intro m
  induction m with
  | zero => intro k h; exact .inl ⟨rfl, fun i h1 h2 => by omega⟩
  | succ m ih =>
    intro k h
    simp only [firstIdx]
    cases hp : p k with
    | true => exact .inr ⟨k, by omega, by omega, rfl, hp, fun j h1 h2 => by omega⟩
    | false =>
      rcases ih (k + 1) (by omega) with ⟨h1, h2⟩ | ⟨i, h1, h2, h3, h4, h5⟩
      · refine .inl ⟨h1, fun i hi hn => ?_⟩
        by_cases e : i = k
        · rw [e]; exact hp
        · exact h2 i (by omega) hn
      · refine .inr ⟨i, by omega, h2, h3, h4, fun j hj hi => ?_⟩
        by_cases e : j = k
        · rw [e]; exact hp
        · exact h5 j (by omega) hi

theorem firstIdx_hit {p : Nat → Bool} {n k : Nat} (hk : k < n) (hp : p k = true) (hb : ∀ j, j < k → p j = false) : firstIdx p 0 n = k := by
  rcases firstIdx_of (p := p) (n := n) n 0 (by omega) with ⟨_, h⟩ | ⟨i, _, h2, h3, h4, h5⟩
  · rw [h k (by omega) hk] at hp; cases hp
  · rw [h3]
    rcases Nat.lt_trichotomy i k with h | h | h
    · rw [hb i h] at h4; cases h4
    · rw [h]
    · rw [h5 k (by omega) h] at hp; cases hp

theorem firstIdx_none {p : Nat → Bool} {n : Nat} (hb : ∀ j, j < n → p j = false) : firstIdx p 0 n = -1 := by
  rcases firstIdx_of (p := p) (n := n) n 0 (by omega) with ⟨h, _⟩ | ⟨i, _, h2, _, h4, _⟩
  · exact h
  · rw [hb i h2] at h4; cases h4

def anyIdx (p : Nat → Bool) (n : Nat) : Bool := (List.range n).any p

theorem firstIdx_any (p : Nat → Bool) (n : Nat) : decide (0 ≤ firstIdx p 0 n) = anyIdx p n := by
  rw [Bool.eq_iff_iff]
  simp only [decide_eq_true_eq, anyIdx, List.any_eq_true, List.mem_range]
  rcases firstIdx_of (p := p) (n := n) n 0 (by omega) with ⟨h, h1⟩ | ⟨i, _, h2, h3, h4, _⟩
  · rw [h]
    constructor
    · intro h; omega
    · rintro ⟨i, hi, hp⟩; rw [h1 i (by omega) hi] at hp; cases hp
  · rw [h3]; exact ⟨fun _ => ⟨i, h2, h4⟩, fun _ => by omega⟩

theorem anyIdx_list {α : Type} (p : α → Bool) (d : α) (l : List α) : anyIdx (fun i => p (l.getD i d)) l.length = l.any p := by
  rw [Bool.eq_iff_iff]
  simp only [anyIdx, List.any_eq_true, List.mem_range]
  constructor
  · rintro ⟨i, hi, hp⟩
    refine ⟨l.getD i d, ?_, hp⟩
    rw [List.getD_eq_getElem?_getD, List.getElem?_eq_getElem hi]
    exact List.getElem_mem hi
  · rintro ⟨x, hx, hp⟩
    obtain ⟨i, hi, e⟩ := List.getElem_of_mem hx
    refine ⟨i, hi, ?_⟩
    rw [List.getD_eq_getElem?_getD, List.getElem?_eq_getElem hi]
    simpa [e] using hp

theorem anyIdx_take {α : Type} (p : α → Bool) (d : α) (l : List α) (i : Nat) (h : i ≤ l.length) : (l.take i).any p = anyIdx (fun j => p (l.getD j d)) i := by
  rw [← anyIdx_list p d (l.take i)]
  have hlen : (l.take i).length = i := by simp; omega
  rw [hlen, Bool.eq_iff_iff]
  simp only [anyIdx, List.any_eq_true, List.mem_range]
  constructor
  · rintro ⟨j, hj, hp⟩; exact ⟨j, hj, by simpa [List.getD_eq_getElem?_getD, List.getElem?_take, hj] using hp⟩
  · rintro ⟨j, hj, hp⟩; exact ⟨j, hj, by simpa [List.getD_eq_getElem?_getD, List.getElem?_take, hj] using hp⟩

def small (c : Int) : Bool := decide (97 ≤ c) && decide (c ≤ 122)
def nameC (s : ByteArray) (i : Nat) : Bool := small (byteAt s i) || (decide (i ≠ 0) && (decide (byteAt s i = 45) || (decide (48 ≤ byteAt s i) && decide (byteAt s i ≤ 57))))
def nameOk (s : ByteArray) : Bool := decide (1 ≤ s.size) && decide (s.size ≤ 24) && (List.range s.size).all (nameC s)

theorem bytes_at {s : ByteArray} {k : Int} {pad : List Value} (h : 0 ≤ k ∧ k < s.size) : (bytesV s ++ pad).toArray.toList[0 + k.toNat * 1]? = some (.int .u8 (byteAt s k.toNat)) := by
  have hlt : k.toNat < s.data.toList.length := by rw [Array.length_toList]; exact (by omega : k.toNat < s.size)
  have : (bytesV s)[k.toNat]? = some (.int .u8 (byteAt s k.toNat)) := by
    simp only [bytesV, byteAt, List.getElem?_map, List.getD_eq_getElem?_getD]
    rw [List.getElem?_eq_getElem hlt]
    rfl
  simp only [Nat.zero_add, Nat.mul_one]
  rw [List.getElem?_append_left (by rw [bytesV, List.length_map]; exact hlt)]
  exact this

theorem nameOk_bad {s : ByteArray} {k : Nat} (hk : k < s.size) (h : nameC s k = false) : nameOk s = false := by
  rw [← Bool.not_eq_true]
  intro hh
  simp only [nameOk, Bool.and_eq_true, List.all_eq_true, List.mem_range] at hh
  rw [hh.2 k hk] at h; cases h
theorem nameOk_all {s : ByteArray} (h1 : 1 ≤ s.size) (h2 : s.size ≤ 24) (h : ∀ j, j < s.size → nameC s j = true) : nameOk s = true := by
  simp only [nameOk, Bool.and_eq_true, List.all_eq_true, List.mem_range, decide_eq_true_eq]
  exact ⟨⟨h1, h2⟩, h⟩
theorem nameOk_len {s : ByteArray} (h : s.size < 1 ∨ 24 < s.size) : nameOk s = false := by
  rw [← Bool.not_eq_true]
  intro hh
  simp only [nameOk, Bool.and_eq_true, decide_eq_true_eq] at hh
  omega
theorem nameOk_end {s : ByteArray} (h : ∀ j, j < s.size → nameC s j = true) : nameOk s = !(oP s.size 1 24) := by
  rw [Bool.eq_iff_iff]
  simp only [nameOk, Bool.and_eq_true, List.all_eq_true, List.mem_range, decide_eq_true_eq, Bool.not_eq_true', oP_false]
  constructor
  · rintro ⟨⟨h1, h2⟩, _⟩; omega
  · intro hh; exact ⟨⟨by omega, by omega⟩, h⟩

/-- the first index with an error, and the error -/
def firstErr (f : Nat → Int) : Nat → Nat → Option (Nat × Int)
  | _, 0 => none
  | k, n + 1 => if f k ≠ 0 then some (k, f k) else firstErr f (k + 1) n

theorem firstErr_of {f : Nat → Int} {n : Nat} : ∀ (m k : Nat), k + m = n → (firstErr f k m = none ∧ ∀ i, k ≤ i → i < n → f i = 0) ∨ ∃ i, k ≤ i ∧ i < n ∧ firstErr f k m = some (i, f i) ∧ f i ≠ 0 ∧ ∀ j, k ≤ j → j < i → f j = 0 := by
  intro m
  induction m with
  | zero => intro k h; exact .inl ⟨rfl, fun i h1 h2 => by omega⟩
  | succ m ih =>
    intro k h
    simp only [firstErr]
    by_cases hp : f k = 0
    · rw [if_neg (by simp [hp])]
      rcases ih (k + 1) (by omega) with ⟨h1, h2⟩ | ⟨i, h1, h2, h3, h4, h5⟩
      · refine .inl ⟨h1, fun i hi hn => ?_⟩
        by_cases e : i = k
        · rw [e]; exact hp
        · exact h2 i (by omega) hn
      · refine .inr ⟨i, by omega, h2, h3, h4, fun j hj hi => ?_⟩
        by_cases e : j = k
        · rw [e]; exact hp
        · exact h5 j (by omega) hi
    · rw [if_pos hp]; exact .inr ⟨k, by omega, by omega, rfl, hp, fun j h1 h2 => by omega⟩

theorem firstErr_hit {f : Nat → Int} {n k : Nat} (hk : k < n) (hp : f k ≠ 0) (hb : ∀ j, j < k → f j = 0) : firstErr f 0 n = some (k, f k) := by
  rcases firstErr_of (f := f) (n := n) n 0 (by omega) with ⟨_, h⟩ | ⟨i, _, h2, h3, h4, h5⟩
  · exact absurd (h k (by omega) hk) hp
  · rw [h3]
    rcases Nat.lt_trichotomy i k with h | h | h
    · exact absurd (hb i h) h4
    · rw [h]
    · exact absurd (h5 k (by omega) h) hp

theorem firstErr_none {f : Nat → Int} {n : Nat} (hb : ∀ j, j < n → f j = 0) : firstErr f 0 n = none := by
  rcases firstErr_of (f := f) (n := n) n 0 (by omega) with ⟨h, _⟩ | ⟨i, _, h2, _, h4, _⟩
  · exact h
  · exact absurd (hb i h2) h4

def seenB (t : Task) (k : Nat) (a b : Int) : Bool := anyIdx (fun j => decide ((t.pl j).tracker = a) && decide ((t.pl j).tick = b)) k
def dupB (t : Task) (i : Nat) : Bool := anyIdx (fun j => decide ((t.tr j).name = (t.tr i).name)) i
def trOut (x : Tracker) : Bool := oP x.x (-100000000) 100000000 || oP x.y (-100000000) 100000000 || oP x.error 0 10000000 || oP x.grow 0 10000 || oP x.late 0 600
def errTr (t : Task) (i : Nat) : Int :=
  if nameOk (t.tr i).name = false then 6 else if dupB t i = true then 5 else if trOut (t.tr i) = true then 7 else 0
def plOut (t : Task) (x : Plot) : Bool := oP x.tick t.frm 100000 || (oP x.x (-2000000000) 2000000000 || (oP x.y (-2000000000) 2000000000 || oP x.z (-2000000000) 2000000000))
def errPl (t : Task) (i : Nat) : Int :=
  if oP (t.pl i).tracker 0 (t.trackers.length - 1) = true then 4 else if plOut t (t.pl i) = true then 7
  else if seenB t i (t.pl i).tracker (t.pl i).tick = true then 5 else 0

def checkT (t : Task) : Int × Int × Int :=
  if t.trackers.length > 5 ∨ t.plots.length > 60 then (1, 0, 3)
  else if oP t.frm 0 100000 = true ∨ oP t.speed 1 1000000 = true ∨ oP t.accel 1 1000000 = true then (1, 0, 7)
  else match firstErr (errTr t) 0 t.trackers.length with
    | some (i, e) => (2, i, e)
    | none => match firstErr (errPl t) 0 t.plots.length with
      | some (i, e) => (3, i, e)
      | none => (0, 0, 0)

section
variable {t : Task}
theorem dup_take {i : Nat} (h : i ≤ t.trackers.length) : ((t.trackers.take i).any fun y => decide (y.name = (t.tr i).name)) = dupB t i :=
  anyIdx_take (fun y : Tracker => decide (y.name = (t.tr i).name)) trZ t.trackers i h

theorem dupB_hit {i k : Nat} (hk : k < i) (h : (t.tr k).name = (t.tr i).name) : dupB t i = true := by
  simp only [dupB, anyIdx, List.any_eq_true, List.mem_range, decide_eq_true_eq]; exact ⟨k, hk, h⟩
theorem dupB_none {i : Nat} (h : ∀ j, j < i → (t.tr j).name ≠ (t.tr i).name) : dupB t i = false := by
  rw [← Bool.not_eq_true]
  simp only [dupB, anyIdx, List.any_eq_true, List.mem_range, decide_eq_true_eq]
  rintro ⟨k, hk, e⟩; exact h k hk e
theorem seenB_hit {i k : Nat} {a b : Int} (hk : k < i) (h : (t.pl k).tracker = a) (h2 : (t.pl k).tick = b) : seenB t i a b = true := by
  simp only [seenB, anyIdx, List.any_eq_true, List.mem_range, Bool.and_eq_true, decide_eq_true_eq]; exact ⟨k, hk, h, h2⟩
theorem seenB_none {i : Nat} {a b : Int} (h : ∀ j, j < i → ¬ ((t.pl j).tracker = a ∧ (t.pl j).tick = b)) : seenB t i a b = false := by
  rw [← Bool.not_eq_true]
  simp only [seenB, anyIdx, List.any_eq_true, List.mem_range, Bool.and_eq_true, decide_eq_true_eq]
  rintro ⟨k, hk, e⟩; exact h k hk e

theorem errTr_form {i : Nat} (h : nameOk (t.tr i).name = false) : errTr t i = 6 := by simp [errTr, h]
theorem errTr_dup {i : Nat} (h : nameOk (t.tr i).name = true) (h2 : dupB t i = true) : errTr t i = 5 := by simp [errTr, h, h2]
theorem errTr_out {i : Nat} (h : nameOk (t.tr i).name = true) (h2 : dupB t i = false) (h3 : trOut (t.tr i) = true) : errTr t i = 7 := by simp [errTr, h, h2, h3]
theorem errTr_ok {i : Nat} (h : nameOk (t.tr i).name = true) (h2 : dupB t i = false) (h3 : trOut (t.tr i) = false) : errTr t i = 0 := by simp [errTr, h, h2, h3]
theorem errPl_none {i : Nat} (h : oP (t.pl i).tracker 0 (t.trackers.length - 1) = true) : errPl t i = 4 := by simp [errPl, h]
theorem errPl_out {i : Nat} (h : oP (t.pl i).tracker 0 (t.trackers.length - 1) = false) (h2 : plOut t (t.pl i) = true) : errPl t i = 7 := by simp [errPl, h, h2]
theorem errPl_dup {i : Nat} (h : oP (t.pl i).tracker 0 (t.trackers.length - 1) = false) (h2 : plOut t (t.pl i) = false) (h3 : seenB t i (t.pl i).tracker (t.pl i).tick = true) : errPl t i = 5 := by simp [errPl, h, h2, h3]
theorem errPl_ok {i : Nat} (h : oP (t.pl i).tracker 0 (t.trackers.length - 1) = false) (h2 : plOut t (t.pl i) = false) (h3 : seenB t i (t.pl i).tracker (t.pl i).tick = false) : errPl t i = 0 := by simp [errPl, h, h2, h3]

theorem checkT_long (h : t.trackers.length > 5 ∨ t.plots.length > 60) : checkT t = (1, 0, 3) := by rw [checkT, if_pos h]
theorem checkT_range (h1 : t.trackers.length ≤ 5) (h2 : t.plots.length ≤ 60) (h : oP t.frm 0 100000 = true ∨ oP t.speed 1 1000000 = true ∨ oP t.accel 1 1000000 = true) : checkT t = (1, 0, 7) := by
  rw [checkT, if_neg (by omega), if_pos h]

/-- The first numbers of a task are good. -/
structure Head (t : Task) : Prop where
  h1 : t.trackers.length ≤ 5
  h2 : t.plots.length ≤ 60
  h3 : oP t.frm 0 100000 = false
  h4 : oP t.speed 1 1000000 = false
  h5 : oP t.accel 1 1000000 = false

theorem checkT_head (h : Head t) : checkT t = match firstErr (errTr t) 0 t.trackers.length with
    | some (i, e) => (2, (i : Int), e)
    | none => match firstErr (errPl t) 0 t.plots.length with
      | some (i, e) => (3, (i : Int), e)
      | none => (0, 0, 0) := by
  have h1 := h.h1
  have h2 := h.h2
  rw [checkT, if_neg (by omega), if_neg (by simp [h.h3, h.h4, h.h5])]

theorem checkT_tr (h : Head t) {k e : Int} (hk0 : 0 ≤ k) (hk : k < t.trackers.length) (hb : ∀ j : Nat, (j : Int) < k → errTr t j = 0) (he : errTr t k.toNat = e) (hn : e ≠ 0) : checkT t = (2, k, e) := by
  rw [checkT_head h, firstErr_hit (k := k.toNat) (by omega) (by rw [he]; exact hn) (fun j hj => hb j (by omega))]
  simp only [he]
  rw [Int.toNat_of_nonneg hk0]

theorem checkT_pl (h : Head t) (htr : ∀ j : Nat, j < t.trackers.length → errTr t j = 0) {k e : Int} (hk0 : 0 ≤ k) (hk : k < t.plots.length) (hb : ∀ j : Nat, (j : Int) < k → errPl t j = 0) (he : errPl t k.toNat = e) (hn : e ≠ 0) : checkT t = (3, k, e) := by
  rw [checkT_head h, firstErr_none htr, firstErr_hit (k := k.toNat) (by omega) (by rw [he]; exact hn) (fun j hj => hb j (by omega))]
  simp only [he]
  rw [Int.toNat_of_nonneg hk0]

theorem checkT_ok (h : Head t) (htr : ∀ j : Nat, j < t.trackers.length → errTr t j = 0) (hpl : ∀ j : Nat, j < t.plots.length → errPl t j = 0) : checkT t = (0, 0, 0) := by
  rw [checkT_head h, firstErr_none htr, firstErr_none hpl]

def askedT (t : Task) (l : List Int) : Int := if (checkT t).2.2 = 0 ∧ (l.any fun n => oP n 0 100000) = true then 7 else (checkT t).2.2

/-- A good task. -/
structure GoodT (t : Task) : Prop extends Head t where
  tr : ∀ j : Nat, j < t.trackers.length → errTr t j = 0
  pl : ∀ j : Nat, j < t.plots.length → errPl t j = 0

theorem good_of_check (h : (checkT t).2.2 = 0) : GoodT t := by
  by_cases c1 : t.trackers.length > 5 ∨ t.plots.length > 60
  · rw [checkT_long c1] at h; cases h
  · by_cases c2 : oP t.frm 0 100000 = true ∨ oP t.speed 1 1000000 = true ∨ oP t.accel 1 1000000 = true
    · rw [checkT_range (by omega) (by omega) c2] at h; cases h
    · have hh : Head t := ⟨by omega, by omega, by cases h : oP t.frm 0 100000 <;> simp_all, by cases h : oP t.speed 1 1000000 <;> simp_all, by cases h : oP t.accel 1 1000000 <;> simp_all⟩
      rw [checkT_head hh] at h
      rcases firstErr_of (f := errTr t) (n := t.trackers.length) t.trackers.length 0 (by omega) with ⟨e1, a1⟩ | ⟨i, _, hi, e1, ne, _⟩
      · rw [e1] at h
        rcases firstErr_of (f := errPl t) (n := t.plots.length) t.plots.length 0 (by omega) with ⟨e2, a2⟩ | ⟨i, _, hi, e2, ne, _⟩
        · exact ⟨hh, fun j hj => a1 j (by omega) hj, fun j hj => a2 j (by omega) hj⟩
        · rw [e2] at h; exact absurd h ne
      · rw [e1] at h; exact absurd h ne
end

/-! ### the keys that were seen -/

def seenL (t : Task) (k : Nat) : List (List Value × Value) := (t.plots.take k).map fun p => ([ii p.tracker, ii p.tick], .bool true)

theorem seen_fit (t : Task) (k : Nat) : ∀ p ∈ seenL t k, fitsL [.int .i64, .int .i64] p.1 = true := by
  intro p hp
  obtain ⟨x, _, rfl⟩ := List.mem_map.1 hp
  rfl

theorem seen_find (t : Task) (k : Nat) (hk : k ≤ t.plots.length) (a b : Int) : ((seenL t k).find? (keyEq [ii a, ii b])).map (·.2) = bif seenB t k a b then some (.bool true) else none := by
  have h1 : seenB t k a b = (t.plots.take k).any fun p => decide (p.tracker = a) && decide (p.tick = b) := (anyIdx_take (fun p : Plot => decide (p.tracker = a) && decide (p.tick = b)) plZ t.plots k hk).symm
  rw [h1, seenL]
  generalize t.plots.take k = l
  induction l with
  | nil => rfl
  | cons p l ih =>
    have e : keyEq [ii a, ii b] ([ii p.tracker, ii p.tick], Value.bool true) = (decide (p.tracker = a) && decide (p.tick = b)) := by
      simp only [keyEq, eqL, ii, eqv, Bool.and_true]
      congr 1 <;> exact decide_eq_decide.2 eq_comm
    simp only [List.map_cons, List.find?_cons, e, List.any_cons]
    cases (decide (p.tracker = a) && decide (p.tick = b))
    · simpa using ih
    · rfl

theorem seen_look (t : Task) (k : Nat) (hk : k ≤ t.plots.length) (a b : Int) : found (seenL t k) [ii a, ii b] (.bool false) = .bool (seenB t k a b) := by
  rw [found, seen_find t k hk]
  cases seenB t k a b <;> rfl

theorem seen_none (t : Task) (k : Nat) (hk : k ≤ t.plots.length) (a b : Int) (h : seenB t k a b = false) : (seenL t k).find? (keyEq [ii a, ii b]) = none := by
  have := seen_find t k hk a b
  rw [h] at this
  cases hf : (seenL t k).find? (keyEq [ii a, ii b]) with
  | none => rfl
  | some p => rw [hf] at this; simp at this

theorem seen_succ (t : Task) (k : Nat) (hk : k < t.plots.length) : seenL t (k + 1) = seenL t k ++ [([ii (t.pl k).tracker, ii (t.pl k).tick], .bool true)] := by
  have h1 : t.plots.take (k + 1) = t.plots.take k ++ [t.pl k] := by
    rw [List.take_add_one, Task.pl, List.getD_eq_getElem?_getD, List.getElem?_eq_getElem hk]; rfl
  rw [seenL, h1, List.map_append]; rfl

abbrev Task.obj (t : Task) (tv pv : Value) (ty : Nat) : Obj := .cells #[.int .i64 t.frm, .int .i64 t.speed, .int .i64 t.accel, tv, pv] ty

theorem getD_cells {α : Type} {f : α → List Value} {l : List α} {i : Nat} {d : α} (h : i < l.length) : (l.map f)[i]? = some (f (l.getD i d)) := by
  simp [h]

end Go.Tk
