/- Layer 5: parts of slices joined to new ones; tasks with fewer, or other, plots. -/
import Derived.Test.YtclbbchehjapjabX
import Derived.Test.YtclbbchehjapjabVcH
import Derived.Deep.Slices
set_option linter.all false
namespace Go.Vc
section
variable {X : Cx} {ρ : PEnv} {ds : List Deferred} {H : Heap} {Q : Post} {o : Oper}

theorem p_convI {x : Operand} {s t : TypeId} {k' : IntKind} {n : Int} {ds : TypeDesc} (hs : X.P.underlying s = some ds) (hu : X.P.underlying t = some (.int .i64)) (ho : o.op = .convert s t x) (hx : ρ.ev x = some (.int k' n)) (hn : InI n) : RdP X ρ o (.int .i64 n) := by
  have h := p_conv (X := X) (ρ := ρ) hs hu ho hx
  rwa [wrap_in hn] at h

/-- append; the row is laid behind all others -/
theorem w_appT {s x : Operand} {t e size bytes n m c : Nat} {v : Value} {xs news : List Value} {pre G post : Heap} {a : Option Addr} (ht : appOf X.P t = some (e, size, bytes))
    (ho : o.op = .call { callee := .builtin .append, args := #[s, x], argTypes := #[t, t] }) (hs : ρ.ev s = some v) (hx : ρ.ev x = some (.slice a m c)) (hgr : Grow e size v n xs G) (hH : H = pre ++ (G ++ post))
    (hl : news.length = m * size) (hnews : ∀ w, Good X.w0 X.M H w → ∀ j u, news[j]? = some u → ∃ b, a = some b ∧ w.cell? (b.add j) = some u)
    (h1 : ∀ u ∈ news, u.oneCell' = true) (hb : (n + m) * bytes ≤ 140737488355328) (h63 : n + m ≤ maxLen) :
    WrA X ρ H o fun v' H' => ∃ a' cap' G', v' = .slice a' (n + m) cap' ∧ H' = pre ++ (post ++ G') ∧ Grow e size (.slice a' (n + m) cap') (n + m) (xs ++ news) G' := by
  refine (w_app ht ho hs hx hgr hH hl hnews h1 hb h63).perm ?_
  rintro v _ ⟨a', c', G', rfl, rfl, h⟩
  exact ⟨_, List.Perm.append_left _ List.perm_append_comm, a', c', G', rfl, rfl, h⟩
end
end Go.Vc

namespace Go.Tk
open Go.Vc

theorem add_add_ (a : Addr) (j k : Nat) : (a.add j).add k = a.add (j + k) := Go.Deep.add_add a j k

theorem SliceR.drop {w : World} {size : Nat} {a : Option Addr} {n cap k : Nat} {els : List (List Value)} (h : SliceR w size (.slice a n cap) els) (hk : k ≤ els.length) :
    SliceR w size (.slice (if cap = k then a else a.map (·.add (k * size))) (n - k) (cap - k)) (els.drop k) := by
  obtain ⟨a', cap', hv, hl, hc⟩ := h.ex
  injection hv with h1 h2 h3
  subst h1 h2 h3
  refine ⟨_, _, by rw [List.length_drop], by rw [List.length_drop]; omega, fun i e hi => ?_⟩
  rw [List.getElem?_drop] at hi
  obtain ⟨b, hb, hcb⟩ := hc (k + i) e hi
  have hlt := (List.getElem?_eq_some_iff.1 hi).1
  rw [if_neg (by omega), hb]
  refine ⟨_, rfl, ?_⟩
  rw [add_add_, ← Nat.add_mul]
  exact hcb
theorem SliceR.dropM {α : Type} {w : World} {size : Nat} {a : Option Addr} {n cap k : Nat} {l : List α} {f : α → List Value} (h : SliceR w size (.slice a n cap) (l.map f)) (hk : k ≤ l.length) :
    SliceR w size (.slice (if cap = k then a else a.map (·.add (k * size))) (n - k) (cap - k)) ((l.drop k).map f) := by
  have := h.drop (k := k) (by rw [List.length_map]; exact hk)
  rwa [← List.map_drop] at this

theorem flat_len {size : Nat} : ∀ (els : List (List Value)), (∀ e ∈ els, e.length = size) → els.flatten.length = els.length * size := by
  intro els
  induction els with
  | nil => intro _; simp
  | cons e els ih =>
    intro h
    rw [List.flatten_cons, List.length_append, ih (fun x hx => h x (.tail _ hx)), h e (.head _), List.length_cons, Nat.add_mul]; omega

/-- the cells of a slice that lay there -/
theorem news_slice {X : Cx} {H : Heap} {size m c : Nat} {a : Option Addr} {els : List (List Value)} (hM : X.M = []) (h : SliceR X.w0 size (.slice a m c) els) (hs : ∀ e ∈ els, e.length = size) (h0 : 0 < size) :
    ∀ w, Vc.Good X.w0 X.M H w → ∀ (j : Nat) u, els.flatten[j]? = some u → ∃ b, a = some b ∧ w.cell? (b.add j) = some u := by
  intro w hg j u hj
  rw [hM] at hg
  have hS := h.good hg
  obtain ⟨a', cap, hv, hl, hc⟩ := hS.ex
  injection hv with h1 h2 h3
  subst h1
  have hjl : j < els.length * size := by rw [← flat_len els hs]; exact (List.getElem?_eq_some_iff.1 hj).1
  have hi : j / size < els.length := Nat.div_lt_of_lt_mul (by rw [Nat.mul_comm]; exact hjl)
  have hr := Nat.mod_lt j h0
  have he : els[j / size]? = some (els[j / size]'hi) := List.getElem?_eq_getElem hi
  obtain ⟨b, hb, hcb⟩ := hc _ _ he
  refine ⟨b, hb, ?_⟩
  have hf := flat_at els (j / size) (j % size) _ hs he hr
  have ej : j / size * size + j % size = j := by rw [Nat.mul_comm]; exact Nat.div_add_mod j size
  rw [ej, hj] at hf
  have := hcb (j % size) u hf.symm
  rwa [add_add_, ej] at this

/-- a row that grew, as a slice of elements -/
theorem Grow.rows {el size n : Nat} {v : Value} {els : List (List Value)} {G : Heap} (h : Grow el size v n els.flatten G) (hs : ∀ e ∈ els, e.length = size) (hn : n = els.length) {w : World} (hg : ∀ p ∈ G, w.heap[p.1]? = some p.2) : SliceR w size v els := by
  obtain ⟨a, cap, rfl, hc, hl, hx⟩ := h.cells hg
  subst hn
  refine ⟨a, cap, rfl, hc, fun i e hi => ?_⟩
  cases e with
  | nil =>
    cases a with
    | some b => exact ⟨b, rfl, fun j v hj => by simp at hj⟩
    | none =>
      have hz : size = 0 := by rw [← hs [] (List.mem_of_getElem? hi)]; rfl
      have hil := (List.getElem?_eq_some_iff.1 hi).1
      have h0 : els.length = 0 := by
        generalize els.length = n at h
        generalize els.flatten = xs at h
        cases h; rfl
      omega
  | cons x e =>
    have hse := hs _ (List.mem_of_getElem? hi)
    simp only [List.length_cons] at hse
    have key : ∀ (j : Nat) v, (x :: e)[j]? = some v → ∃ b, a = some b ∧ w.cell? (b.add (i * size + j)) = some v := by
      intro j v hj
      have hjl := (List.getElem?_eq_some_iff.1 hj).1
      simp only [List.length_cons] at hjl
      exact hx _ v (by rw [flat_at els i j _ hs hi (by omega)]; exact hj)
    obtain ⟨b, hb, _⟩ := key 0 x rfl
    refine ⟨b, hb, fun j v hj => ?_⟩
    obtain ⟨b', hb', hv⟩ := key j v hj
    rw [hb] at hb'; cases hb'
    rw [add_add_]; exact hv

/-! ### tasks with fewer plots -/
structure SubT (t t' : Task) (f : Nat → Nat) : Prop where
  frm : t'.frm = t.frm
  speed : t'.speed = t.speed
  accel : t'.accel = t.accel
  trackers : t'.trackers = t.trackers
  len : t'.plots.length ≤ t.plots.length
  idx : ∀ j, j < t'.plots.length → f j < t.plots.length ∧ t'.pl j = t.pl (f j)
  inj : ∀ i j, i < t'.plots.length → j < t'.plots.length → f i = f j → i = j

section
variable {t t' : Task} {f : Nat → Nat}
theorem no_dup (hG : GoodT t) {i j : Nat} (hi : i < t.plots.length) (hj : j < t.plots.length) (hne : i ≠ j) : ¬ ((t.pl i).tracker = (t.pl j).tracker ∧ (t.pl i).tick = (t.pl j).tick) := by
  rintro ⟨h1, h2⟩
  rcases Nat.lt_or_gt_of_ne hne with h | h
  · have := (errPl_zero (hG.pl j hj)).2.2
    rw [seenB_hit h h1 h2] at this; cases this
  · have := (errPl_zero (hG.pl i hi)).2.2
    rw [seenB_hit h h1.symm h2.symm] at this; cases this
theorem SubT.tr_eq (h : SubT t t' f) : Task.tr t' = Task.tr t := by funext i; rw [Task.tr, Task.tr, h.trackers]
theorem SubT.errs (h : SubT t t' f) (j : Nat) : errTr t' j = errTr t j := by unfold errTr dupB; rw [h.tr_eq]
theorem SubT.good (h : SubT t t' f) (hG : GoodT t) : GoodT t' := by
  refine ⟨⟨by rw [h.trackers]; exact hG.h1, Nat.le_trans h.len hG.h2, by rw [h.frm]; exact hG.h3, by rw [h.speed]; exact hG.h4, by rw [h.accel]; exact hG.h5⟩, fun j hj => ?_, fun j hj => ?_⟩
  · rw [h.trackers] at hj
    have := hG.tr j hj
    rwa [h.errs]
  · obtain ⟨hf, e⟩ := h.idx j hj
    obtain ⟨h1, h2, h3⟩ := errPl_zero (hG.pl (f j) hf)
    refine errPl_ok (by rw [e, h.trackers]; exact h1) ?_ ?_
    · rw [e]; simpa only [plOut, h.frm] using h2
    · refine seenB_none fun i hi => ?_
      obtain ⟨hfi, ei⟩ := h.idx i (by omega)
      rw [e, ei]
      exact no_dup hG hfi hf (fun hh => by have := h.inj i j (by omega) hj hh; omega)
theorem SubT.plotS (h : SubT t t' f) {j : Nat} (hj : j < t'.plots.length) (k u : Int) : plotS t' k u j = plotS t k u (f j) := by
  obtain ⟨_, e⟩ := h.idx j hj
  simp only [Tk.plotS, slackT, widthT, farT, Task.trOf, Task.tr, Int.toNat_natCast, e, h.trackers, h.speed]
theorem SubT.known (h : SubT t t' f) {j : Nat} (hj : j < t'.plots.length) (now : Int) : knownB t' now j = knownB t now (f j) := by
  obtain ⟨_, e⟩ := h.idx j hj
  rw [knownB, knownB, Task.trOf, Task.trOf, e, h.tr_eq]
theorem mem_byT {now : Int} {want : Int → Bool} {i : Nat} : (i : Int) ∈ byT t now want ↔ i < t.plots.length ∧ knownB t now i = true ∧ want (t.pl i).tracker = true := by
  unfold byT byN knownN
  rw [List.mem_filter, List.mem_map]
  constructor
  · rintro ⟨⟨j, hj, e⟩, h2⟩
    have : j = i := by have := e; simp only [Int.ofNat_eq_natCast, Int.natCast_inj] at this; exact this
    subst this
    rw [List.mem_filter, List.mem_range] at hj
    exact ⟨hj.1, hj.2, by simpa using h2⟩
  · rintro ⟨h1, h2, h3⟩
    exact ⟨⟨i, List.mem_filter.2 ⟨List.mem_range.2 h1, h2⟩, rfl⟩, by simpa using h3⟩
theorem SubT.binds (h : SubT t t' f) (hG : GoodT t) (now : Int) (want : Int → Bool) : Binds t (byT t now want) t' (byT t' now want) := by
  obtain ⟨_, _, ha⟩ := hG.nums
  refine ⟨h.frm.symm, by rw [h.speed]; exact Int.le_refl _, by rw [h.accel]; exact ⟨by omega, Int.le_refl _⟩, fun n _ => by simp only [reachT, capT, h.speed, h.accel]; exact Int.le_refl _, fun i hi => ?_⟩
  obtain ⟨h0, h1⟩ := byT_bnd i hi
  obtain ⟨j, rfl⟩ := Int.eq_ofNat_of_zero_le h0
  obtain ⟨hj, hk, hw⟩ := mem_byT.1 hi
  obtain ⟨hf, e⟩ := h.idx j hj
  refine ⟨f j, mem_byT.2 ⟨hf, by rw [← h.known hj]; exact hk, by rw [← e]; exact hw⟩, fun k u => ?_⟩
  rw [h.plotS hj]
  exact ⟨Int.le_refl _, Int.le_refl _⟩
/-- if all that are known are kept -/
theorem SubT.rbinds (h : SubT t t' f) (hG : GoodT t) (now : Int) (want : Int → Bool) (hs : ∀ i, i < t.plots.length → knownB t now i = true → ∃ j, j < t'.plots.length ∧ f j = i) : Binds t' (byT t' now want) t (byT t now want) := by
  obtain ⟨_, _, ha⟩ := hG.nums
  refine ⟨h.frm, by rw [h.speed]; exact Int.le_refl _, by rw [h.accel]; exact ⟨by omega, Int.le_refl _⟩, fun n _ => by simp only [reachT, capT, h.speed, h.accel]; exact Int.le_refl _, fun i hi => ?_⟩
  obtain ⟨h0, h1⟩ := byT_bnd i hi
  obtain ⟨j, rfl⟩ := Int.eq_ofNat_of_zero_le h0
  obtain ⟨hj, hk, hw⟩ := mem_byT.1 hi
  obtain ⟨m, hm, rfl⟩ := hs j hj hk
  obtain ⟨hf, e⟩ := h.idx m hm
  refine ⟨m, mem_byT.2 ⟨hm, by rw [h.known hm]; exact hk, by rw [e]; exact hw⟩, fun k u => ?_⟩
  rw [h.plotS hm]
  exact ⟨Int.le_refl _, Int.le_refl _⟩
theorem asked_good (hG : GoodT t) {l : List Int} (h : (l.any fun n => oP n 0 100000) = false) : askedT t l = 0 := asked_ok (by rw [checkT_ok hG.toHead hG.tr hG.pl]) h
end

/-! ### one plot less -/
def dropT (t : Task) (k : Nat) : Task := ⟨t.frm, t.speed, t.accel, t.trackers, t.plots.take k ++ t.plots.drop (k + 1)⟩
theorem dropT_sub {t : Task} {k : Nat} (hk : k < t.plots.length) : SubT t (dropT t k) (fun j => if j < k then j else j + 1) := by
  have hl : (dropT t k).plots.length = t.plots.length - 1 := by simp only [dropT, List.length_append, List.length_take, List.length_drop]; omega
  refine ⟨rfl, rfl, rfl, rfl, by omega, fun j hj => ?_, fun i j _ _ h => ?_⟩
  · rw [hl] at hj
    refine ⟨by split <;> omega, ?_⟩
    simp only [Task.pl, dropT, List.getD_eq_getElem?_getD]
    congr 1
    rw [List.getElem?_append]
    split
    · rename_i h
      rw [List.length_take] at h
      rw [List.getElem?_take, if_pos (by omega), if_pos (by omega)]
    · rename_i h
      rw [List.length_take] at h
      rw [if_neg (by omega), List.getElem?_drop, List.length_take]
      congr 1; omega
  · split at h <;> split at h <;> omega
theorem drop_where {t : Task} (hG : GoodT t) {k : Nat} (hk : k < t.plots.length) {u now : Int} {b : Box} (ha : askedT t [u, now] = 0) (h : boxT t (byT t now fun _ => true) u = some b) :
    ∃ b', whereP (dropT t k) u now = (b', 0) ∧ InB b b' := by
  have hs := dropT_sub hk
  obtain ⟨b', e, i⟩ := box_mono (hs.binds hG now fun _ => true) h
  exact ⟨b', whereP_some (asked_good (hs.good hG) (asked_any0 ha)) e, i⟩

theorem pl_len {l : List Plot} : ∀ e ∈ l.map Plot.cells, e.length = 5 := by intro e he; obtain ⟨x, _, rfl⟩ := List.mem_map.1 he; rfl
theorem tr_len {l : List Tracker} : ∀ e ∈ l.map Tracker.cells, e.length = 6 := by intro e he; obtain ⟨x, _, rfl⟩ := List.mem_map.1 he; rfl
theorem pl_flat_len (l : List Plot) : ((l.map Plot.cells).flatten).length = l.length * 5 := by rw [flat_len _ pl_len, List.length_map]
theorem tr_flat_len (l : List Tracker) : ((l.map Tracker.cells).flatten).length = l.length * 6 := by rw [flat_len _ tr_len, List.length_map]
theorem pl_one {l : List Plot} : ∀ u ∈ (l.map Plot.cells).flatten, u.oneCell' = true := by
  intro u hu
  obtain ⟨e, he, hu⟩ := List.mem_flatten.1 hu
  obtain ⟨x, _, rfl⟩ := List.mem_map.1 he
  simp only [Plot.cells, List.mem_cons, List.not_mem_nil, or_false] at hu
  rcases hu with rfl | rfl | rfl | rfl | rfl <;> rfl
theorem tr_one {l : List Tracker} : ∀ u ∈ (l.map Tracker.cells).flatten, u.oneCell' = true := by
  intro u hu
  obtain ⟨e, he, hu⟩ := List.mem_flatten.1 hu
  obtain ⟨x, _, rfl⟩ := List.mem_map.1 he
  simp only [Tracker.cells, List.mem_cons, List.not_mem_nil, or_false] at hu
  rcases hu with rfl | rfl | rfl | rfl | rfl | rfl <;> rfl
theorem TaskR.withPlots {w : World} {t : Task} {tv pv pv' : Value} {l : List Plot} (h : TaskR w (.agg #[.int .i64 t.frm, .int .i64 t.speed, .int .i64 t.accel, tv, pv]) t) (hs : SliceR w 5 pv' (l.map Plot.cells)) (hl : (l.length : Int) ≤ 9223372036854775807) :
    TaskR w (.agg #[.int .i64 t.frm, .int .i64 t.speed, .int .i64 t.accel, tv, pv']) ⟨t.frm, t.speed, t.accel, t.trackers, l⟩ :=
  ⟨h.names, h.ltr, hl, tv, pv', rfl, h.lit.2.2.2.1, hs⟩
theorem whereP_1 {t : Task} {u now : Int} (h : (whereP t u now).2 ≠ 0) : (whereP t u now).1 = boxZ := by
  unfold whereP at h ⊢
  split at h
  · rename_i hn; rw [if_pos hn]
  · rename_i hn
    rw [if_neg hn]
    cases hb : boxT t (byT t now fun _ => true) u with
    | none => rfl
    | some b => rw [hb] at h; exact absurd rfl h
theorem whereP_2 {t : Task} {u now : Int} (h : (whereP t u now).2 = 0) : askedT t [u, now] = 0 ∧ boxT t (byT t now fun _ => true) u = some (whereP t u now).1 := by
  unfold whereP at h ⊢
  split at h
  · rename_i hn; exact absurd h hn
  · rename_i hn
    rw [if_neg hn]
    refine ⟨Decidable.of_not_not hn, ?_⟩
    cases hb : boxT t (byT t now fun _ => true) u with
    | none => rw [hb] at h; cases h
    | some b => rfl

end Go.Tk
