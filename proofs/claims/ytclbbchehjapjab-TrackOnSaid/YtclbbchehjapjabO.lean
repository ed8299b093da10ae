/- The memory of layer 5's program: rooms, picks, their maps. -/
import Derived.Test.YtclbbchehjapjabN
import Derived.Test.YtclbbchehjapjabVcH
set_option linter.all false
namespace Go.Tk
open Go.Vc

structure SliceN (w : World) (m size : Nat) (v : Value) (els : List (List Value)) : Prop where
  ex : ∃ a cap, v = .slice a els.length cap ∧ els.length ≤ cap ∧ ∀ i e, els[i]? = some e → ∃ b, a = some b ∧ b.block ≠ m ∧ cellsAt w (b.add (i * size)) e

theorem SliceN.good {w0 w : World} {m size : Nat} {H : Heap} {v : Value} {els : List (List Value)} (h : SliceN w0 m size v els) (hg : Vc.Good w0 [m] H w) : SliceN w m size v els := by
  obtain ⟨a, cap, hv, hl, hc⟩ := h.ex
  exact ⟨a, cap, hv, hl, fun i e hi => let ⟨b, hb, hm, hcb⟩ := hc i e hi; ⟨b, hb, hm, hg.cells hcb (by rw [Vc.add_block]; simpa using hm)⟩⟩

theorem SliceN.ext {w w' : World} {m size : Nat} {v : Value} {els : List (List Value)} (h : SliceN w m size v els) (he : Ext w w') : SliceN w' m size v els := by
  obtain ⟨a, cap, hv, hl, hc⟩ := h.ex
  exact ⟨a, cap, hv, hl, fun i e hi => let ⟨b, hb, hm, hcb⟩ := hc i e hi; ⟨b, hb, hm, he.cells hcb⟩⟩

theorem cellsAt.lt {w : World} {a : Addr} {v : Value} {vs : List Value} (h : cellsAt w a (v :: vs)) : a.block < w.heap.size := by
  have := h 0 v rfl
  have := World.block_lt_of_cell? w _ this
  rwa [Vc.add_block] at this

theorem SliceR.toN {w : World} {m size : Nat} {v : Value} {els : List (List Value)} (h : SliceR w size v els) (hne : ∀ e ∈ els, e ≠ []) (hm : w.heap.size ≤ m) : SliceN w m size v els := by
  obtain ⟨a, cap, hv, hl, hc⟩ := h.ex
  refine ⟨a, cap, hv, hl, fun i e hi => ?_⟩
  obtain ⟨b, hb, hcb⟩ := hc i e hi
  refine ⟨b, hb, ?_, hcb⟩
  cases e with
  | nil => exact absurd rfl (hne _ (List.mem_of_getElem? hi))
  | cons x e =>
    have := cellsAt.lt hcb
    rw [Vc.add_block] at this
    omega

/-- A pick at bp; its map is at bm. -/
structure PickR (w : World) (bp bm : Nat) (mv : Value) (t : Task) (ps : List Int) : Prop where
  good : GoodT t
  bnd : ∀ i ∈ ps, 0 ≤ i ∧ i < t.plots.length
  psl : ps.length ≤ 60
  ne : bp ≠ bm
  ex : ∃ tv pv sv ty fr, w.heap[bp]? = some (.cells #[.int .i64 t.frm, .int .i64 t.speed, .int .i64 t.accel, tv, pv, sv, mv] ty fr) ∧ SliceN w bm 6 tv (t.trackers.map Tracker.cells) ∧ SliceN w bm 5 pv (t.plots.map Plot.cells) ∧ SliceN w bm 1 sv (ps.map fun n => [.int .i64 n])

theorem PickR.good' {w0 w : World} {bp bm : Nat} {mv : Value} {t : Task} {ps : List Int} {H : Heap} (h : PickR w0 bp bm mv t ps) (hg : Vc.Good w0 [bm] H w) : PickR w bp bm mv t ps := by
  obtain ⟨tv, pv, sv, ty, fr, h1, h2, h3, h4⟩ := h.ex
  have hb : w.heap[bp]? = w0.heap[bp]? := hg.base bp (lt_of_some h1) (by simpa using h.ne)
  exact ⟨h.good, h.bnd, h.psl, h.ne, tv, pv, sv, ty, fr, hb.trans h1, h2.good hg, h3.good hg, h4.good hg⟩

theorem PickR.ext {w w' : World} {bp bm : Nat} {mv : Value} {t : Task} {ps : List Int} (h : PickR w bp bm mv t ps) (he : Ext w w') : PickR w' bp bm mv t ps := by
  obtain ⟨tv, pv, sv, ty, fr, h1, h2, h3, h4⟩ := h.ex
  exact ⟨h.good, h.bnd, h.psl, h.ne, tv, pv, sv, ty, fr, he.heap h1, h2.ext he, h3.ext he, h4.ext he⟩

/-! ### the cache -/

def Cache (t : Task) (ps : List Int) (es : Array MapEntry) : Prop :=
  ∃ l, MapIs es l ∧ ∀ p ∈ l, ∃ k u, p = ([ii k, ii u], Value.agg #[.int .i64 (placeT t ps k u).lo, .int .i64 (placeT t ps k u).hi])

theorem Cache.nil (t : Task) (ps : List Int) : Cache t ps #[] := ⟨[], MapIs.nil, fun p hp => by cases hp⟩

theorem eqL_ii {a b c d : Int} : eqL [ii a, ii b] [ii c, ii d] = true ↔ a = c ∧ b = d := by
  simp [eqL, ii, eqv]

theorem cache_look {t : Task} {ps : List Int} {l : List (List Value × Value)} (h : ∀ p ∈ l, ∃ k u, p = ([ii k, ii u], Value.agg #[.int .i64 (placeT t ps k u).lo, .int .i64 (placeT t ps k u).hi])) (k u : Int) :
    ∃ lo hi is, found l [ii k, ii u] (.agg #[.int .i64 0, .int .i64 0]) = .agg #[.int .i64 lo, .int .i64 hi] ∧ (l.find? (keyEq [ii k, ii u])).isSome = is ∧ (is = true → lo = (placeT t ps k u).lo ∧ hi = (placeT t ps k u).hi) ∧ (is = false → l.find? (keyEq [ii k, ii u]) = none) := by
  unfold found
  cases hf : l.find? (keyEq [ii k, ii u]) with
  | none => exact ⟨0, 0, false, rfl, rfl, fun e => (by cases e), fun _ => rfl⟩
  | some p =>
    obtain ⟨k', u', rfl⟩ := h p (List.mem_of_find?_eq_some hf)
    have hk := List.find?_some hf
    obtain ⟨rfl, rfl⟩ := eqL_ii.1 hk
    exact ⟨_, _, true, rfl, rfl, fun _ => ⟨rfl, rfl⟩, fun e => by cases e⟩

theorem cache_fit {t : Task} {ps : List Int} {l : List (List Value × Value)} (h : ∀ p ∈ l, ∃ k u, p = ([ii k, ii u], Value.agg #[.int .i64 (placeT t ps k u).lo, .int .i64 (placeT t ps k u).hi])) : ∀ p ∈ l, fitsL [.int .i64, .int .i64] p.1 = true := by
  intro p hp
  obtain ⟨k, u, rfl⟩ := h p hp
  rfl

theorem Cache.add {t : Task} {ps : List Int} {es : Array MapEntry} {l : List (List Value × Value)} {k u : Int} {v : Value} (h : ∀ p ∈ l, ∃ k u, p = ([ii k, ii u], Value.agg #[.int .i64 (placeT t ps k u).lo, .int .i64 (placeT t ps k u).hi]))
    (hm : MapIs es (l ++ [([ii k, ii u], v)])) (hv : v = .agg #[.int .i64 (placeT t ps k u).lo, .int .i64 (placeT t ps k u).hi]) : Cache t ps es := by
  subst hv
  refine ⟨_, hm, fun p hp => ?_⟩
  rcases List.mem_append.1 hp with hp | hp
  · exact h p hp
  · rw [List.mem_singleton] at hp; exact ⟨k, u, hp⟩

/-- what fast returns -/
def FastV (o : Option Span) (v : Value) : Prop := ∃ lo hi ok, v = .tuple #[.agg #[.int .i64 lo, .int .i64 hi], .bool ok] ∧ ((ok = true ∧ o = some ⟨lo, hi⟩) ∨ (ok = false ∧ o = none))
theorem fv_none {ok : Bool} {o : Option Span} {s : Span} (h : (ok = true ∧ o = some s) ∨ (ok = false ∧ o = none)) (h1 : ok = false) : o = none := by
  rcases h with ⟨h, _⟩ | ⟨_, h⟩
  · rw [h1] at h; cases h
  · exact h
theorem fv_some {ok : Bool} {o : Option Span} {s : Span} (h : (ok = true ∧ o = some s) ∨ (ok = false ∧ o = none)) (h1 : ok = true) : o = some s := by
  rcases h with ⟨_, h⟩ | ⟨h, _⟩
  · exact h
  · rw [h1] at h; cases h

def Box.cells (b : Box) : List Value := [.int .i64 b.at_, .int .i64 b.x.lo, .int .i64 b.x.hi, .int .i64 b.y.lo, .int .i64 b.y.hi, .int .i64 b.z.lo, .int .i64 b.z.hi, .int .i64 b.vx.lo, .int .i64 b.vx.hi, .int .i64 b.vy.lo, .int .i64 b.vy.hi, .int .i64 b.vz.lo, .int .i64 b.vz.hi]
def boxZ : Box := ⟨0, ⟨0, 0⟩, ⟨0, 0⟩, ⟨0, 0⟩, ⟨0, 0⟩, ⟨0, 0⟩, ⟨0, 0⟩⟩
def boxV (o : Option Box) : Value := .tuple #[.agg (Box.cells (o.getD boxZ)).toArray, .bool o.isSome]

theorem down_eq {a b : Int} (hb : 0 < b) : (if a.tmod b < 0 then a.tdiv b - 1 else a.tdiv b) = a / b := by
  have h1 := Int.mul_tdiv_add_tmod a b
  have h2 := Int.mul_ediv_add_emod a b
  have h3 := Int.emod_nonneg a (by omega : b ≠ 0)
  have h4 := Int.emod_lt_of_pos a hb
  have h5 : -b < a.tmod b ∧ a.tmod b < b := by
    have := Int.tmod_lt_of_pos a hb
    have := Int.lt_tmod_of_pos a hb
    omega
  have key : ∀ q r q' r' : Int, b * q + r = a → b * q' + r' = a → 0 ≤ r → r < b → 0 ≤ r' → r' < b → q = q' := by
    intro q r q' r' e1 e2 r1 r2 r3 r4
    rcases Int.lt_trichotomy q q' with h | h | h
    · have := Int.mul_le_mul_of_nonneg_left (show q + 1 ≤ q' by omega) (by omega : 0 ≤ b)
      rw [Int.mul_add] at this; omega
    · exact h
    · have := Int.mul_le_mul_of_nonneg_left (show q' + 1 ≤ q by omega) (by omega : 0 ≤ b)
      rw [Int.mul_add] at this; omega
  split
  · exact key _ (a.tmod b + b) _ _ (by rw [Int.mul_sub]; omega) h2 (by omega) (by omega) h3 h4
  · exact key _ (a.tmod b) _ _ (by omega) h2 (by omega) (by omega) h3 h4

theorem ediv_abs {a b A : Int} (hb : 0 < b) (ha : -A ≤ a ∧ a ≤ A) : -A ≤ a / b ∧ a / b ≤ A := by
  constructor
  · exact Int.le_ediv_of_mul_le hb (by
      have := Int.mul_le_mul_of_nonneg_left (show 1 ≤ b by omega) (show 0 ≤ A by omega)
      rw [Int.neg_mul]; omega)
  · have := Int.ediv_le_self b (a := A) (by omega)
    have := Int.ediv_le_ediv hb ha.2
    omega

theorem tdiv_abs {a b A : Int} (hb : 0 < b) (ha : -A ≤ a ∧ a ≤ A) : -A ≤ a.tdiv b ∧ a.tdiv b ≤ A := by
  have h := @down_eq a b hb
  have h1 := ediv_abs hb ha
  split at h
  · have : a.tdiv b ≤ 0 := by
      rcases Int.lt_or_le a 0 with h' | h'
      · have e : a.tdiv b = -((-a).tdiv b) := by rw [Int.neg_tdiv]; omega
        have := Int.tdiv_nonneg (a := -a) (b := b) (by omega) (by omega)
        omega
      · have := Int.tmod_nonneg b h'; omega
    omega
  · omega

end Go.Tk

namespace Go.Vc
/-- A function that turns one block of its caller's. -/
theorem fn_mod {P : Program} {f : FuncId} {fn : Func} {c : Code} {args : List Value} {w : World} {b : Nat} {o : Obj} {n : Nat} {rs : List ResultVar} {R : Value → Obj → Prop}
    (hf : P.funcs[f]? = some fn) (hb : fn.body = some c) (hname : (fn.name == "runtime.NumGoroutine") = false) (hn : fn.ntmps = n) (hr : fn.results = rs.toArray) (hl : Nat.ble args.length n = true) (ho : w.heap[b]? = some o)
    (h : V ⟨P, none, n, w, [b]⟩ c (argEnv args 0) [] [(b, o)] (RetQ P rs fun v H => ∃ o', (b, o') ∈ H ∧ R v o')) : FnC P f args w fun v w' => ∃ o', Good w [b] [(b, o')] w' ∧ R v o' :=
  (fn_body (M := [b]) (H0 := [(b, o)]) hf hb hname hn hr hl (Good.startWith (H := [(b, o)]) (by simpa using ho) (by simp)) h).mono fun v w' ⟨H, hg, o', hm, hR⟩ =>
    ⟨o', hg.of_sub (by simpa using hm) (by simp), hR⟩

/-- A function that hands over new blocks. -/
theorem fn_new {P : Program} {f : FuncId} {fn : Func} {c : Code} {args : List Value} {w : World} {n : Nat} {rs : List ResultVar} {R : Value → Heap → Prop}
    (hf : P.funcs[f]? = some fn) (hb : fn.body = some c) (hname : (fn.name == "runtime.NumGoroutine") = false) (hn : fn.ntmps = n) (hr : fn.results = rs.toArray) (hl : Nat.ble args.length n = true)
    (h : V ⟨P, none, n, w, []⟩ c (argEnv args 0) [] [] (RetQ P rs fun v H => ∃ Hc, HSub Hc H ∧ R v Hc)) : FnC P f args w fun v w' => ∃ Hc, Good w [] Hc w' ∧ R v Hc :=
  (fn_body hf hb hname hn hr hl (Good.start w) h).mono fun v w' ⟨H, hg, Hc, hs, hR⟩ => ⟨Hc, hg.hsub hs, hR⟩

/-- A function that lives on another's memory. -/
theorem fn_over {P : Program} {f : FuncId} {fn : Func} {c : Code} {args : List Value} {w0 w : World} {M : List Nat} {H0 : Heap} {n : Nat} {rs : List ResultVar} {R : Value → Heap → Prop}
    (hf : P.funcs[f]? = some fn) (hb : fn.body = some c) (hname : (fn.name == "runtime.NumGoroutine") = false) (hn : fn.ntmps = n) (hr : fn.results = rs.toArray) (hl : Nat.ble args.length n = true) (hg : Good w0 M H0 w)
    (h : V ⟨P, none, n, w0, M⟩ c (argEnv args 0) [] H0 (RetQ P rs fun v H => ∃ Hc, HSub Hc H ∧ R v Hc)) : FnC P f args w fun v w' => ∃ Hc, Good w0 M Hc w' ∧ R v Hc :=
  (fn_bodyG hf hb hname hn hr hl hg h).mono fun v w' ⟨H, hg, Hc, hs, hR⟩ => ⟨Hc, hg.hsub hs, hR⟩

end Go.Vc

namespace Go.Tk
open Go.Vc

def iv (i : Int) : List Value := [.int .i64 i]
def knownV (t : Task) (now : Int) (n : Nat) : List (List Value) := (knownN t now n).map iv

theorem knownV_yes {t : Task} {now k : Int} (hk : 0 ≤ k) (h : knownB t now k.toNat = true) : knownV t now (k + 1).toNat = knownV t now k.toNat ++ [[.int .i64 k]] := by
  have e : (k + 1).toNat = k.toNat + 1 := by omega
  have e2 : Int.ofNat k.toNat = k := Int.toNat_of_nonneg hk
  rw [e, knownV, knownN, List.range_succ, List.filter_append, List.map_append, List.map_append]
  simp only [List.filter_cons, h, if_true, List.filter_nil, List.map_cons, List.map_nil, e2]
  rfl
theorem knownV_no {t : Task} {now k : Int} (hk : 0 ≤ k) (h : knownB t now k.toNat = false) : knownV t now (k + 1).toNat = knownV t now k.toNat := by
  have e : (k + 1).toNat = k.toNat + 1 := by omega
  rw [e, knownV, knownN, List.range_succ, List.filter_append]
  simp [h, knownV, knownN]

theorem knownV_len {t : Task} {now : Int} {n : Nat} : (knownV t now n).length ≤ n := by
  have h := List.length_filter_le (knownB t now) (List.range n)
  simp only [knownV, knownN, List.length_map, List.length_range] at h ⊢
  exact h

theorem iv_inj {a b : List Int} (h : a.map iv = b.map iv) : a = b := by
  induction a generalizing b with
  | nil => cases b with
    | nil => rfl
    | cons y b => simp at h
  | cons x a ih => cases b with
    | nil => simp at h
    | cons y b =>
      simp only [List.map_cons, List.cons.injEq, iv, Value.int.injEq, true_and, and_true] at h
      rw [h.1, ih h.2]

theorem knownN_bnd {t : Task} {now : Int} {n : Nat} : ∀ i ∈ knownN t now n, 0 ≤ i ∧ i < n := by
  intro i hi
  obtain ⟨j, hj, rfl⟩ := List.mem_map.1 hi
  have := List.mem_range.1 (List.mem_filter.1 hj).1
  simp only [Int.ofNat_eq_natCast]
  omega

def iiL (l : List Int) : List Value := l.map fun i => Value.int .i64 i

theorem filt_yes {p : Int → Bool} {is : List Int} {i : Int} (h : p i = true) : (is ++ [i]).filter p = is.filter p ++ [i] := by simp [List.filter_append, h]
theorem filt_no {p : Int → Bool} {is : List Int} {i : Int} (h : p i = false) : (is ++ [i]).filter p = is.filter p := by simp [List.filter_append, h]

end Go.Tk

namespace Go.Vc
theorem Good.uniq {w0 w : World} {M : List Nat} {H : Heap} (h : Good w0 M H w) {b : Nat} {o o' : Obj} (h1 : (b, o) ∈ H) (h2 : (b, o') ∈ H) : o = o' := by
  have e1 := h.own _ h1
  have e2 := h.own _ h2
  simp only at e1 e2
  rw [e1] at e2
  exact Option.some.inj e2

end Go.Vc

namespace Go.Tk
open Go.Vc

theorem TaskR.lit {w : World} {t : Task} {a b c : Int} {tv pv : Value} (h : TaskR w (.agg #[.int .i64 a, .int .i64 b, .int .i64 c, tv, pv]) t) :
    a = t.frm ∧ b = t.speed ∧ c = t.accel ∧ SliceR w 6 tv (t.trackers.map Tracker.cells) ∧ SliceR w 5 pv (t.plots.map Plot.cells) := by
  obtain ⟨tv', pv', e, htr, hpl⟩ := h.ex
  simp only [Value.agg.injEq, Array.mk.injEq, List.cons.injEq, Value.int.injEq, and_true, true_and] at e
  obtain ⟨rfl, rfl, rfl, rfl, rfl⟩ := e
  exact ⟨rfl, rfl, rfl, htr, hpl⟩

theorem byT_bnd {t : Task} {now : Int} {want : Int → Bool} : ∀ i ∈ byT t now want, 0 ≤ i ∧ i < t.plots.length := by
  intro i hi
  exact knownN_bnd i (List.mem_filter.1 hi).1
theorem byT_len {t : Task} {now : Int} {want : Int → Bool} : (byT t now want).length ≤ t.plots.length := by
  have h1 := List.length_filter_le (fun i : Int => want (t.pl i.toNat).tracker) (knownN t now t.plots.length)
  have h2 := knownV_len (t := t) (now := now) (n := t.plots.length)
  simp only [knownV, List.length_map] at h2
  unfold byT byN
  omega

theorem PickR.own {w0 w : World} {H G : Heap} {bp bm clk ty el : Nat} {t : Task} {now : Int} {want : Int → Bool} {tv pv sv : Value} {es : Array MapEntry} (hg : Vc.Good w0 [] H w) (hG : GoodT t) (hT : TaskR w0 (.agg #[.int .i64 t.frm, .int .i64 t.speed, .int .i64 t.accel, tv, pv]) t) (hbm : w0.heap.size ≤ bm)
    (h1 : (bp, Obj.cells #[.int .i64 t.frm, .int .i64 t.speed, .int .i64 t.accel, tv, pv, sv, .map (some bm)] ty) ∈ H) (h2 : (bm, Obj.map es clk) ∈ H) (h3 : ∀ p ∈ G, p ∈ H) (hgr : Grow el 1 sv (byT t now want).length (iiL (byT t now want)) G) :
    PickR w bp bm (.map (some bm)) t (byT t now want) := by
  obtain ⟨tv', pv', e, htr, hpl⟩ := hT.ex
  simp only [Value.agg.injEq, Array.mk.injEq, List.cons.injEq, and_true, true_and] at e
  obtain ⟨rfl, rfl⟩ := e
  have hsz : w0.heap.size ≤ w.heap.size := hg.size
  have toN : ∀ {size : Nat} {v : Value} {els : List (List Value)}, SliceR w0 size v els → (∀ e ∈ els, e ≠ []) → SliceN w bm size v els := by
    intro size v els h hne
    exact (h.toN hne hbm).ext hg.toExt
  refine ⟨hG, byT_bnd, Nat.le_trans byT_len hG.h2, ?_, tv, pv, sv, ty, _, hg.own _ h1, toN htr (by intro e he; obtain ⟨x, _, rfl⟩ := List.mem_map.1 he; simp [Tracker.cells]), toN hpl (by intro e he; obtain ⟨x, _, rfl⟩ := List.mem_map.1 he; simp [Plot.cells]), ?_⟩
  · rintro rfl
    have := hg.uniq h1 h2
    cases this
  · generalize hps : byT t now want = ps at hgr
    generalize hn : ps.length = n at hgr
    generalize hxs : iiL ps = xs at hgr
    cases hgr with
    | nil =>
      have e1 := hn
      refine ⟨none, 0, ?_, ?_, ?_⟩
      · rw [List.length_map, e1]
      · rw [List.length_map, e1]; exact Nat.le_refl _
      · intro i e hi
        have : ps = [] := List.eq_nil_of_length_eq_zero e1
        rw [this] at hi; simp at hi
    | row q1 q2 q3 q4 q5 =>
      rename_i b cap cur
      have hm := h3 (b, .cells cur el) (.head _)
      refine ⟨_, _, by rw [List.length_map, hn], by rw [List.length_map, hn]; exact q1, fun i e hi => ⟨_, rfl, ?_, ?_⟩⟩
      · intro h
        simp only at h
        subst h
        have := hg.uniq hm h2
        cases this
      · intro j v hj
        rw [List.getElem?_map] at hi
        cases hx : ps[i]? with
        | none => rw [hx] at hi; cases hi
        | some x =>
          rw [hx] at hi
          simp only [Option.map_some, Option.some.injEq] at hi
          subst hi
          cases j with
          | succ j => simp at hj
          | zero =>
            simp only [List.getElem?_cons_zero, Option.some.injEq] at hj
            subst hj
            rw [add_none, add_none, own_cell (hg.own _ hm)]
            have h4 : xs[i]? = some (Value.int .i64 x) := by rw [← hxs, iiL, List.getElem?_map, hx]; rfl
            rw [← q4, List.getElem?_take] at h4
            split at h4
            · simpa using h4
            · cases h4

def othersV (t : Task) (u now : Int) (n : Nat) : List (Int × Box) := (List.range n).filterMap fun (i : Nat) => (boxT t (byT t now (fun x => decide (x ≠ (i : Int)))) u).map fun b => ((i : Int), b)
def ov (p : Int × Box) : List Value := [.int .i64 p.1, .agg (Box.cells p.2).toArray]

theorem othersV_yes {t : Task} {u now k : Int} {b : Box} (hk : 0 ≤ k) (h : boxT t (byT t now (fun x => decide (x ≠ k))) u = some b) : othersV t u now (k + 1).toNat = othersV t u now k.toNat ++ [(k, b)] := by
  have e : (k + 1).toNat = k.toNat + 1 := by omega
  have e2 : ((k.toNat : Nat) : Int) = k := Int.toNat_of_nonneg hk
  rw [e, othersV, List.range_succ, List.filterMap_append]
  simp only [List.filterMap_cons, List.filterMap_nil, e2, h, Option.map_some]
  rfl
theorem othersV_no {t : Task} {u now k : Int} (hk : 0 ≤ k) (h : boxT t (byT t now (fun x => decide (x ≠ k))) u = none) : othersV t u now (k + 1).toNat = othersV t u now k.toNat := by
  have e : (k + 1).toNat = k.toNat + 1 := by omega
  have e2 : ((k.toNat : Nat) : Int) = k := Int.toNat_of_nonneg hk
  rw [e, othersV, List.range_succ, List.filterMap_append]
  simp only [List.filterMap_cons, List.filterMap_nil, e2, h, Option.map_none, List.append_nil]
  rfl

theorem othersV_len {t : Task} {u now : Int} {n : Nat} : ((othersV t u now n).map ov).length ≤ n := by
  have h := List.length_filterMap_le (fun (i : Nat) => (boxT t (byT t now (fun x => decide (x ≠ (i : Int)))) u).map fun b => ((i : Int), b)) (List.range n)
  rw [List.length_range] at h
  rw [List.length_map]; exact h
theorem isSome_get {o : Option Box} (h : o.isSome = true) : o = some (o.getD boxZ) := by cases o <;> simp at h ⊢
theorem isSome_none {o : Option Box} (h : o.isSome = false) : o = none := by cases o <;> simp at h ⊢

end Go.Tk
