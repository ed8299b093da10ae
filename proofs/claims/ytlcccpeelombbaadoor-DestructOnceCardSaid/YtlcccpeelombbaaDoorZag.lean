/- Joined texts. -/
import Derived.Test.YtlcccpeelombbaaDoorZad
import Derived.Deep.Slices
/- Layer 5: parts of slices joined to new ones; tasks with fewer, or other, plots. -/
set_option linter.all false
namespace Go.Vc
section
variable {X : Cx} {ρ : PEnv} {ds : List Deferred} {H : Heap} {Q : Post} {o : Oper}

theorem p_convI {x : Operand} {s t : TypeId} {k' : IntKind} {n : Int} {ds : TypeDesc} (hs : X.P.underlying s = some ds) (hu : X.P.underlying t = some (.int .i64)) (ho : o.op = .convert s t x) (hx : ρ.ev x = some (.int k' n)) (hn : InI n) : RdP X ρ o (.int .i64 n) := by
  have h := p_conv (X := X) (ρ := ρ) hs hu ho hx
  rwa [wrap_in hn] at h

/-- append; the row is laid behind all others -/
theorem w_appT {s x : Operand} {t e size bytes n m c : Nat} {v : Value} {xs news : List Value} {pre G post : Heap} {a : Option Addr} (ht : appOf X.P t = some (e, size, bytes))
    (ho : o.op = .call { callee := .builtin .append, args := #[s, x], argTypes := #[t, t] }) (hs : ρ.ev s = some v) (hx : ρ.ev x = some (.slice a m c)) (hgr : Grow e size v n xs G) (hH : H = pre ++ (G ++ post))
    (hl : news.length = m * size) (hnews : ∀ w, Good X.w0 X.M H w → ∀ j u, news[j]? = some u → ∃ b, a = some b ∧ w.cell? (b.add j) = some u)
    (h1 : ∀ u ∈ news, u.oneCell' = true) (hb : (n + m) * bytes ≤ 140737488355328) (h63 : n + m ≤ maxLen) :
    WrA X ρ H o fun v' H' => ∃ a' cap' G', v' = .slice a' (n + m) cap' ∧ H' = pre ++ (post ++ G') ∧ Grow e size (.slice a' (n + m) cap') (n + m) (xs ++ news) G' := by
  refine (w_app ht ho hs hx hgr hH hl hnews h1 hb h63).perm ?_
  rintro v _ ⟨a', c', G', rfl, rfl, h⟩
  exact ⟨_, List.Perm.append_left _ List.perm_append_comm, a', c', G', rfl, rfl, h⟩
end
end Go.Vc

namespace Go.Tk
open Go.Vc

theorem add_add_ (a : Addr) (j k : Nat) : (a.add j).add k = a.add (j + k) := Go.Deep.add_add a j k

theorem SliceR.drop {w : World} {size : Nat} {a : Option Addr} {n cap k : Nat} {els : List (List Value)} (h : SliceR w size (.slice a n cap) els) (hk : k ≤ els.length) :
    SliceR w size (.slice (if cap = k then a else a.map (·.add (k * size))) (n - k) (cap - k)) (els.drop k) := by
  obtain ⟨a', cap', hv, hl, hc⟩ := h.ex
  injection hv with h1 h2 h3
  subst h1 h2 h3
  refine ⟨_, _, by rw [List.length_drop], by rw [List.length_drop]; omega, fun i e hi => ?_⟩
  rw [List.getElem?_drop] at hi
  obtain ⟨b, hb, hcb⟩ := hc (k + i) e hi
  have hlt := (List.getElem?_eq_some_iff.1 hi).1
  rw [if_neg (by omega), hb]
  refine ⟨_, rfl, ?_⟩
  rw [add_add_, ← Nat.add_mul]
  exact hcb
theorem SliceR.dropM {α : Type} {w : World} {size : Nat} {a : Option Addr} {n cap k : Nat} {l : List α} {f : α → List Value} (h : SliceR w size (.slice a n cap) (l.map f)) (hk : k ≤ l.length) :
    SliceR w size (.slice (if cap = k then a else a.map (·.add (k * size))) (n - k) (cap - k)) ((l.drop k).map f) := by
  have := h.drop (k := k) (by rw [List.length_map]; exact hk)
  rwa [← List.map_drop] at this

theorem flat_len {size : Nat} : ∀ (els : List (List Value)), (∀ e ∈ els, e.length = size) → els.flatten.length = els.length * size := by
  intro els
  induction els with
  | nil => intro _; simp
  | cons e els ih =>
    intro h
    rw [List.flatten_cons, List.length_append, ih (fun x hx => h x (.tail _ hx)), h e (.head _), List.length_cons, Nat.add_mul]; omega

/-- the cells of a slice that lay there -/
theorem news_slice {X : Cx} {H : Heap} {size m c : Nat} {a : Option Addr} {els : List (List Value)} (hM : X.M = []) (h : SliceR X.w0 size (.slice a m c) els) (hs : ∀ e ∈ els, e.length = size) (h0 : 0 < size) :
    ∀ w, Vc.Good X.w0 X.M H w → ∀ (j : Nat) u, els.flatten[j]? = some u → ∃ b, a = some b ∧ w.cell? (b.add j) = some u := by
  intro w hg j u hj
  rw [hM] at hg
  have hS := h.good hg
  obtain ⟨a', cap, hv, hl, hc⟩ := hS.ex
  injection hv with h1 h2 h3
  subst h1
  have hjl : j < els.length * size := by rw [← flat_len els hs]; exact (List.getElem?_eq_some_iff.1 hj).1
  have hi : j / size < els.length := Nat.div_lt_of_lt_mul (by rw [Nat.mul_comm]; exact hjl)
  have hr := Nat.mod_lt j h0
  have he : els[j / size]? = some (els[j / size]'hi) := List.getElem?_eq_getElem hi
  obtain ⟨b, hb, hcb⟩ := hc _ _ he
  refine ⟨b, hb, ?_⟩
  have hf := flat_at els (j / size) (j % size) _ hs he hr
  have ej : j / size * size + j % size = j := by rw [Nat.mul_comm]; exact Nat.div_add_mod j size
  rw [ej, hj] at hf
  have := hcb (j % size) u hf.symm
  rwa [add_add_, ej] at this

/-- a row that grew, as a slice of elements -/
theorem Grow.rows {el size n : Nat} {v : Value} {els : List (List Value)} {G : Heap} (h : Grow el size v n els.flatten G) (hs : ∀ e ∈ els, e.length = size) (hn : n = els.length) {w : World} (hg : ∀ p ∈ G, w.heap[p.1]? = some p.2) : SliceR w size v els := by
  obtain ⟨a, cap, rfl, hc, hl, hx⟩ := h.cells hg
  subst hn
  refine ⟨a, cap, rfl, hc, fun i e hi => ?_⟩
  cases e with
  | nil =>
    cases a with
    | some b => exact ⟨b, rfl, fun j v hj => by simp at hj⟩
    | none =>
      have hz : size = 0 := by rw [← hs [] (List.mem_of_getElem? hi)]; rfl
      have hil := (List.getElem?_eq_some_iff.1 hi).1
      have h0 : els.length = 0 := by
        generalize els.length = n at h
        generalize els.flatten = xs at h
        cases h; rfl
      omega
  | cons x e =>
    have hse := hs _ (List.mem_of_getElem? hi)
    simp only [List.length_cons] at hse
    have key : ∀ (j : Nat) v, (x :: e)[j]? = some v → ∃ b, a = some b ∧ w.cell? (b.add (i * size + j)) = some v := by
      intro j v hj
      have hjl := (List.getElem?_eq_some_iff.1 hj).1
      simp only [List.length_cons] at hjl
      exact hx _ v (by rw [flat_at els i j _ hs hi (by omega)]; exact hj)
    obtain ⟨b, hb, _⟩ := key 0 x rfl
    refine ⟨b, hb, fun j v hj => ?_⟩
    obtain ⟨b', hb', hv⟩ := key j v hj
    rw [hb] at hb'; cases hb'
    rw [add_add_]; exact hv

/-! ### tasks with fewer plots -/
structure SubT (t t' : Task) (f : Nat → Nat) : Prop where
  frm : t'.frm = t.frm
  speed : t'.speed = t.speed
  accel : t'.accel = t.accel
  trackers : t'.trackers = t.trackers
  len : t'.plots.length ≤ t.plots.length
  idx : ∀ j, j < t'.plots.length → f j < t.plots.length ∧ t'.pl j = t.pl (f j)
  inj : ∀ i j, i < t'.plots.length → j < t'.plots.length → f i = f j → i = j

section
variable {t t' : Task} {f : Nat → Nat}
theorem no_dup (hG : GoodT t) {i j : Nat} (hi : i < t.plots.length) (hj : j < t.plots.length) (hne : i ≠ j) : ¬ ((t.pl i).tracker = (t.pl j).tracker ∧ (t.pl i).tick = (t.pl j).tick) := by
  rintro ⟨h1, h2⟩
  rcases Nat.lt_or_gt_of_ne hne with h | h
  · have := (errPl_zero (hG.pl j hj)).2.2
    rw [seenB_hit h h1 h2] at this; cases this
  · have := (errPl_zero (hG.pl i hi)).2.2
    rw [seenB_hit h h1.symm h2.symm] at this; cases this
theorem SubT.tr_eq (h : SubT t t' f) : Task.tr t' = Task.tr t := by funext i; rw [Task.tr, Task.tr, h.trackers]
theorem SubT.errs (h : SubT t t' f) (j : Nat) : errTr t' j = errTr t j := by unfold errTr dupB; rw [h.tr_eq]
theorem SubT.good (h : SubT t t' f) (hG : GoodT t) : GoodT t' := by
  refine ⟨⟨by rw [h.trackers]; exact hG.h1, Nat.le_trans h.len hG.h2, by rw [h.frm]; exact hG.h3, by rw [h.speed]; exact hG.h4, by rw [h.accel]; exact hG.h5⟩, fun j hj => ?_, fun j hj => ?_⟩
  · rw [h.trackers] at hj
    have := hG.tr j hj
    rwa [h.errs]
  · obtain ⟨hf, e⟩ := h.idx j hj
    obtain ⟨h1, h2, h3⟩ := errPl_zero (hG.pl (f j) hf)
    refine errPl_ok (by rw [e, h.trackers]; exact h1) ?_ ?_
    · rw [e]; simpa only [plOut, h.frm] using h2
    · refine seenB_none fun i hi => ?_
      obtain ⟨hfi, ei⟩ := h.idx i (by omega)
      rw [e, ei]
      exact no_dup hG hfi hf (fun hh => by have := h.inj i j (by omega) hj hh; omega)
theorem SubT.plotS (h : SubT t t' f) {j : Nat} (hj : j < t'.plots.length) (k u : Int) : plotS t' k u j = plotS t k u (f j) := by
  obtain ⟨_, e⟩ := h.idx j hj
  simp only [Tk.plotS, slackT, widthT, farT, Task.trOf, Task.tr, Int.toNat_natCast, e, h.trackers, h.speed]
theorem SubT.known (h : SubT t t' f) {j : Nat} (hj : j < t'.plots.length) (now : Int) : knownB t' now j = knownB t now (f j) := by
  obtain ⟨_, e⟩ := h.idx j hj
  rw [knownB, knownB, Task.trOf, Task.trOf, e, h.tr_eq]
theorem mem_byT {now : Int} {want : Int → Bool} {i : Nat} : (i : Int) ∈ byT t now want ↔ i < t.plots.length ∧ knownB t now i = true ∧ want (t.pl i).tracker = true := by
  unfold byT byN knownN
  rw [List.mem_filter, List.mem_map]
  constructor
  · rintro ⟨⟨j, hj, e⟩, h2⟩
    have : j = i := by have := e; simp only [Int.ofNat_eq_natCast, Int.natCast_inj] at this; exact this
    subst this
    rw [List.mem_filter, List.mem_range] at hj
    exact ⟨hj.1, hj.2, by simpa using h2⟩
  · rintro ⟨h1, h2, h3⟩
    exact ⟨⟨i, List.mem_filter.2 ⟨List.mem_range.2 h1, h2⟩, rfl⟩, by simpa using h3⟩
theorem SubT.binds (h : SubT t t' f) (hG : GoodT t) (now : Int) (want : Int → Bool) : Binds t (byT t now want) t' (byT t' now want) := by
  obtain ⟨_, _, ha⟩ := hG.nums
  refine ⟨h.frm.symm, by rw [h.speed]; exact Int.le_refl _, by rw [h.accel]; exact ⟨by omega, Int.le_refl _⟩, fun n _ => by simp only [reachT, capT, h.speed, h.accel]; exact Int.le_refl _, fun i hi => ?_⟩
  obtain ⟨h0, h1⟩ := byT_bnd i hi
  obtain ⟨j, rfl⟩ := Int.eq_ofNat_of_zero_le h0
  obtain ⟨hj, hk, hw⟩ := mem_byT.1 hi
  obtain ⟨hf, e⟩ := h.idx j hj
  refine ⟨f j, mem_byT.2 ⟨hf, by rw [← h.known hj]; exact hk, by rw [← e]; exact hw⟩, fun k u => ?_⟩
  rw [h.plotS hj]
  exact ⟨Int.le_refl _, Int.le_refl _⟩
/-- if all that are known are kept -/
theorem SubT.rbinds (h : SubT t t' f) (hG : GoodT t) (now : Int) (want : Int → Bool) (hs : ∀ i, i < t.plots.length → knownB t now i = true → ∃ j, j < t'.plots.length ∧ f j = i) : Binds t' (byT t' now want) t (byT t now want) := by
  obtain ⟨_, _, ha⟩ := hG.nums
  refine ⟨h.frm, by rw [h.speed]; exact Int.le_refl _, by rw [h.accel]; exact ⟨by omega, Int.le_refl _⟩, fun n _ => by simp only [reachT, capT, h.speed, h.accel]; exact Int.le_refl _, fun i hi => ?_⟩
  obtain ⟨h0, h1⟩ := byT_bnd i hi
  obtain ⟨j, rfl⟩ := Int.eq_ofNat_of_zero_le h0
  obtain ⟨hj, hk, hw⟩ := mem_byT.1 hi
  obtain ⟨m, hm, rfl⟩ := hs j hj hk
  obtain ⟨hf, e⟩ := h.idx m hm
  refine ⟨m, mem_byT.2 ⟨hm, by rw [h.known hm]; exact hk, by rw [e]; exact hw⟩, fun k u => ?_⟩
  rw [h.plotS hm]
  exact ⟨Int.le_refl _, Int.le_refl _⟩
theorem asked_good (hG : GoodT t) {l : List Int} (h : (l.any fun n => oP n 0 100000) = false) : askedT t l = 0 := asked_ok (by rw [checkT_ok hG.toHead hG.tr hG.pl]) h
end

/-! ### one plot less -/
def dropT (t : Task) (k : Nat) : Task := ⟨t.frm, t.speed, t.accel, t.trackers, t.plots.take k ++ t.plots.drop (k + 1)⟩
theorem dropT_sub {t : Task} {k : Nat} (hk : k < t.plots.length) : SubT t (dropT t k) (fun j => if j < k then j else j + 1) := by
  have hl : (dropT t k).plots.length = t.plots.length - 1 := by simp only [dropT, List.length_append, List.length_take, List.length_drop]; omega
  refine ⟨rfl, rfl, rfl, rfl, by omega, fun j hj => ?_, fun i j _ _ h => ?_⟩
  · rw [hl] at hj
    refine ⟨by split <;> omega, ?_⟩
    simp only [Task.pl, dropT, List.getD_eq_getElem?_getD]
    congr 1
    rw [List.getElem?_append]
    split
    · rename_i h
      rw [List.length_take] at h
      rw [List.getElem?_take, if_pos (by omega), if_pos (by omega)]
    · rename_i h
      rw [List.length_take] at h
      rw [if_neg (by omega), List.getElem?_drop, List.length_take]
      congr 1; omega
  · split at h <;> split at h <;> omega
theorem drop_where {t : Task} (hG : GoodT t) {k : Nat} (hk : k < t.plots.length) {u now : Int} {b : Box} (ha : askedT t [u, now] = 0) (h : boxT t (byT t now fun _ => true) u = some b) :
    ∃ b', whereP (dropT t k) u now = (b', 0) ∧ InB b b' := by
  have hs := dropT_sub hk
  obtain ⟨b', e, i⟩ := box_mono (hs.binds hG now fun _ => true) h
  exact ⟨b', whereP_some (asked_good (hs.good hG) (asked_any0 ha)) e, i⟩

theorem pl_len {l : List Plot} : ∀ e ∈ l.map Plot.cells, e.length = 5 := by intro e he; obtain ⟨x, _, rfl⟩ := List.mem_map.1 he; rfl
theorem tr_len {l : List Tracker} : ∀ e ∈ l.map Tracker.cells, e.length = 6 := by intro e he; obtain ⟨x, _, rfl⟩ := List.mem_map.1 he; rfl
theorem pl_flat_len (l : List Plot) : ((l.map Plot.cells).flatten).length = l.length * 5 := by rw [flat_len _ pl_len, List.length_map]
theorem tr_flat_len (l : List Tracker) : ((l.map Tracker.cells).flatten).length = l.length * 6 := by rw [flat_len _ tr_len, List.length_map]
theorem pl_one {l : List Plot} : ∀ u ∈ (l.map Plot.cells).flatten, u.oneCell' = true := by
  intro u hu
  obtain ⟨e, he, hu⟩ := List.mem_flatten.1 hu
  obtain ⟨x, _, rfl⟩ := List.mem_map.1 he
  simp only [Plot.cells, List.mem_cons, List.not_mem_nil, or_false] at hu
  rcases hu with rfl | rfl | rfl | rfl | rfl <;> rfl
theorem tr_one {l : List Tracker} : ∀ u ∈ (l.map Tracker.cells).flatten, u.oneCell' = true := by
  intro u hu
  obtain ⟨e, he, hu⟩ := List.mem_flatten.1 hu
  obtain ⟨x, _, rfl⟩ := List.mem_map.1 he
  simp only [Tracker.cells, List.mem_cons, List.not_mem_nil, or_false] at hu
  rcases hu with rfl | rfl | rfl | rfl | rfl | rfl <;> rfl
theorem TaskR.withPlots {w : World} {t : Task} {tv pv pv' : Value} {l : List Plot} (h : TaskR w (.agg #[.int .i64 t.frm, .int .i64 t.speed, .int .i64 t.accel, tv, pv]) t) (hs : SliceR w 5 pv' (l.map Plot.cells)) (hl : (l.length : Int) ≤ 9223372036854775807) :
    TaskR w (.agg #[.int .i64 t.frm, .int .i64 t.speed, .int .i64 t.accel, tv, pv']) ⟨t.frm, t.speed, t.accel, t.trackers, l⟩ :=
  ⟨h.names, h.ltr, hl, tv, pv', rfl, h.lit.2.2.2.1, hs⟩
theorem whereP_1 {t : Task} {u now : Int} (h : (whereP t u now).2 ≠ 0) : (whereP t u now).1 = boxZ := by
  unfold whereP at h ⊢
  split at h
  · rename_i hn; rw [if_pos hn]
  · rename_i hn
    rw [if_neg hn]
    cases hb : boxT t (byT t now fun _ => true) u with
    | none => rfl
    | some b => rw [hb] at h; exact absurd rfl h
theorem whereP_2 {t : Task} {u now : Int} (h : (whereP t u now).2 = 0) : askedT t [u, now] = 0 ∧ boxT t (byT t now fun _ => true) u = some (whereP t u now).1 := by
  unfold whereP at h ⊢
  split at h
  · rename_i hn; exact absurd h hn
  · rename_i hn
    rw [if_neg hn]
    refine ⟨Decidable.of_not_not hn, ?_⟩
    cases hb : boxT t (byT t now fun _ => true) u with
    | none => rw [hb] at h; cases h
    | some b => rfl

end Go.Tk

/- Layer 5: boxes ahead. -/
set_option linter.all false
namespace Go.Vc
section
variable {X : Cx} {ρ : PEnv} {ds : List Deferred} {H : Heap} {Q : Post}
/-- A joint, at a code behind which another one is set already. -/
theorem V_midT {x y : Code} {γ : Type} {ks : List Nat} {ρf : PEnv} (hk : Keep ρ ks ρf) (ρI : γ → PEnv) (HI : γ → Heap) (inv : γ → Prop)
    (h : V X x ρ ds H (Then (fun ρ' ds' H' => ∃ g, inv g ∧ Sub (ρI g ++ ρf) ρ' ∧ HSub (HI g) H' ∧ ds' = ds) Q)) (k : ∀ g, inv g → V X y (ρI g ++ ρf) ds (HI g) Q) :
    V X x ρ ds H (Then (fun ρ ds H => V X y ρ ds H Q) Q) := by
  refine h.mono ?_
  intro e ρ' ds' H' hq
  cases e <;> first | exact hq | skip
  obtain ⟨g, hi, hs, hh, hd⟩ := hq
  subst hd
  exact fun a w ha hg => k g hi a w (ha.sub hs) (hg.hsub hh)
end
end Go.Vc

namespace Go.Tk
open Go.Vc

def okS (m : Int) (s : Span) : Prop := -m ≤ s.lo ∧ s.lo ≤ s.hi ∧ s.hi ≤ m
instance (m : Int) (s : Span) : Decidable (okS m s) := inferInstanceAs (Decidable (_ ∧ _ ∧ _))
def BoxOk (b : Box) : Prop := (0 ≤ b.at_ ∧ b.at_ ≤ 100000) ∧ okS 2000000000 b.x ∧ okS 2000000000 b.y ∧ okS 2000000000 b.z ∧ okS 1000000 b.vx ∧ okS 1000000 b.vy ∧ okS 1000000 b.vz
instance (b : Box) : Decidable (BoxOk b) := inferInstanceAs (Decidable (_ ∧ _))
def boxE (b : Box) : Int := if BoxOk b then 0 else 7
theorem boxE_ok {b : Box} (h : boxE b = 0) : BoxOk b := by
  unfold boxE at h
  split at h
  · assumption
  · cases h
theorem boxE_0 {b : Box} (h : BoxOk b) : boxE b = 0 := if_pos h
theorem boxE_7 {b : Box} (h : ¬ BoxOk b) : boxE b = 7 := if_neg h

def stepP (p v : Span) : Span := common ⟨p.lo + v.lo, p.hi + v.hi⟩ (room0 2000000000)
def stepV (t : Task) (v : Span) : Span := common ⟨v.lo - t.accel, v.hi + t.accel⟩ (room0 t.speed)
def aheadN (t : Task) : Nat → Span → Span → Option (Span × Span)
  | 0, p, v => if p.none || v.none then none else some (p, v)
  | n + 1, p, v => if p.none || v.none then none else aheadN t n (stepP p v) (stepV t v)
def aheadS (t : Task) (n : Int) (p v : Span) : Option (Span × Span) := aheadN t n.toNat p (common v (room0 t.speed))
def aheadB (t : Task) (b : Box) (n : Int) : Option Box :=
  (aheadS t n b.x b.vx).bind fun a => (aheadS t n b.y b.vy).bind fun c => (aheadS t n b.z b.vz).bind fun d => some ⟨b.at_ + n, a.1, c.1, d.1, a.2, c.2, d.2⟩
def aheadE (t : Task) (b : Box) (n : Int) : Int :=
  if askedT t [] ≠ 0 then askedT t [] else if ¬ BoxOk b then 7 else if oP n 0 600 = true ∨ oP (b.at_ + n) 0 100000 = true then 7 else 0
def aheadP (t : Task) (b : Box) (n : Int) : Box × Int := if aheadE t b n ≠ 0 then (boxZ, aheadE t b n) else foundP (aheadB t b n)

section
variable {t : Task} {p v : Span} {n : Nat}
theorem aheadN_none (h : p.none = true ∨ v.none = true) : aheadN t n p v = none := by
  have : (p.none || v.none) = true := by rcases h with h | h <;> simp [h]
  cases n <;> (rw [aheadN, if_pos this])
theorem aheadN_zero (h1 : p.none = false) (h2 : v.none = false) : aheadN t 0 p v = some (p, v) := by rw [aheadN, h1, h2]; rfl
theorem aheadN_succ (h1 : p.none = false) (h2 : v.none = false) : aheadN t (n + 1) p v = aheadN t n (stepP p v) (stepV t v) := by rw [aheadN, h1, h2]; rfl
/-- a round's step, as the counters have it -/
theorem aheadN_go {m i : Int} (h : 0 ≤ i ∧ i < m) (h1 : p.none = false) (h2 : v.none = false) : aheadN t (m - i).toNat p v = aheadN t (m - (i + 1)).toNat (stepP p v) (stepV t v) := by
  have e : (m - i).toNat = (m - (i + 1)).toNat + 1 := by omega
  rw [e, aheadN_succ h1 h2]
theorem aheadN_end {m i : Int} (h : i = m) (h1 : p.none = false) (h2 : v.none = false) : aheadN t (m - i).toNat p v = some (p, v) := by
  have e : (m - i).toNat = 0 := by omega
  rw [e, aheadN_zero h1 h2]
end

section
variable {t : Task} {b : Box} {n : Int}
theorem aheadE_1 (h : askedT t [] ≠ 0) : aheadE t b n = askedT t [] := if_pos h
theorem aheadE_2 (h : askedT t [] = 0) (h1 : ¬ BoxOk b) : aheadE t b n = 7 := by rw [aheadE, if_neg (fun a => a h), if_pos h1]
theorem aheadE_3 (h : askedT t [] = 0) (h1 : BoxOk b) (h2 : oP n 0 600 = true ∨ oP (b.at_ + n) 0 100000 = true) : aheadE t b n = 7 := by rw [aheadE, if_neg (fun a => a h), if_neg (fun a => a h1), if_pos h2]
theorem aheadE_4 (h : askedT t [] = 0) (h1 : BoxOk b) (h2 : oP n 0 600 = false) (h3 : oP (b.at_ + n) 0 100000 = false) : aheadE t b n = 0 := by rw [aheadE, if_neg (fun a => a h), if_neg (fun a => a h1), if_neg (by rw [h2, h3]; simp)]
theorem aheadP_bad {e : Int} (h : aheadE t b n = e) (he : e ≠ 0) : aheadP t b n = (boxZ, e) := by rw [aheadP, h, if_pos he]
theorem aheadP_ok (h : aheadE t b n = 0) : aheadP t b n = foundP (aheadB t b n) := by rw [aheadP, if_neg (fun a => a h)]
theorem aheadB_0 (h : aheadS t n b.x b.vx = none) : aheadB t b n = none := by rw [aheadB, h]; rfl
theorem aheadB_1 {a : Span × Span} (h : aheadS t n b.x b.vx = some a) (h1 : aheadS t n b.y b.vy = none) : aheadB t b n = none := by rw [aheadB, h, Option.bind_some, h1]; rfl
theorem aheadB_2 {a c : Span × Span} (h : aheadS t n b.x b.vx = some a) (h1 : aheadS t n b.y b.vy = some c) (h2 : aheadS t n b.z b.vz = none) : aheadB t b n = none := by rw [aheadB, h, Option.bind_some, h1, Option.bind_some, h2]; rfl
theorem aheadB_3 {a c d : Span × Span} (h : aheadS t n b.x b.vx = some a) (h1 : aheadS t n b.y b.vy = some c) (h2 : aheadS t n b.z b.vz = some d) : aheadB t b n = some ⟨b.at_ + n, a.1, c.1, d.1, a.2, c.2, d.2⟩ := by
  rw [aheadB, h, Option.bind_some, h1, Option.bind_some, h2]; rfl
theorem foundP_none {o : Option Box} (h : o = none) : foundP o = (boxZ, 9) := by rw [h]; rfl
theorem foundP_some {o : Option Box} {b : Box} (h : o = some b) : foundP o = (b, 0) := by rw [h]; rfl

/-- what the reference's ahead returns -/
def AheadV (t : Task) (n : Int) (p v : Span) (u : Value) : Prop := ∃ (p' v' : Span) (ok : Bool), u = .tuple #[.agg #[.int .i64 p'.lo, .int .i64 p'.hi], .agg #[.int .i64 v'.lo, .int .i64 v'.hi], .bool ok] ∧
  ((ok = true ∧ aheadS t n p v = some (p', v')) ∨ (ok = false ∧ aheadS t n p v = none))
theorem av_none {n : Int} {p v p' v' : Span} {ok : Bool} (h : (ok = true ∧ aheadS t n p v = some (p', v')) ∨ (ok = false ∧ aheadS t n p v = none)) (h1 : ok = false) : aheadS t n p v = none := by
  rcases h with ⟨h, _⟩ | ⟨_, h⟩
  · rw [h1] at h; cases h
  · exact h
theorem av_some {n : Int} {p v p' v' : Span} {ok : Bool} (h : (ok = true ∧ aheadS t n p v = some (p', v')) ∨ (ok = false ∧ aheadS t n p v = none)) (h1 : ok = true) : aheadS t n p v = some (p', v') := by
  rcases h with ⟨_, h⟩ | ⟨h, _⟩
  · exact h
  · rw [h1] at h; cases h
theorem room0_around (m : Int) : aroundS 0 m = room0 m := by simp only [aroundS, room0, Span.mk.injEq]; omega
end

/-- all ints of a box are machine ints -/
def BoxI (b : Box) : Prop := InI b.at_ ∧ (InI b.x.lo ∧ InI b.x.hi) ∧ (InI b.y.lo ∧ InI b.y.hi) ∧ (InI b.z.lo ∧ InI b.z.hi) ∧ (InI b.vx.lo ∧ InI b.vx.hi) ∧ (InI b.vy.lo ∧ InI b.vy.hi) ∧ (InI b.vz.lo ∧ InI b.vz.hi)

/-- what the inner rounds come to -/
def Met (o : Option (Span × Span)) (p v : Span) : Prop := (p.none = false ∧ v.none = false ∧ o = some (p, v)) ∨ ((p.none = true ∨ v.none = true) ∧ o = none)
theorem met_v {t : Task} {o : Option (Span × Span)} {m : Nat} {p v : Span} (h : o = aheadN t m p v) (hv : v.none = true) : Met o p v := .inr ⟨.inr hv, h.trans (aheadN_none (.inr hv))⟩
theorem met_p {t : Task} {o : Option (Span × Span)} {m : Nat} {p v v' : Span} (h : o = aheadN t m p v) (hp : p.none = true) : Met o p v' := .inr ⟨.inl hp, h.trans (aheadN_none (.inl hp))⟩
theorem met_end {t : Task} {o : Option (Span × Span)} {n k : Int} {p v : Span} (h : o = aheadN t (n - k).toNat p v) (he : k = n) (hp : p.none = false) : Met o p v := by
  cases hv : v.none with
  | true => exact met_v h hv
  | false => exact .inl ⟨hp, hv, h.trans (aheadN_end he hp hv)⟩
theorem Met.no {o : Option (Span × Span)} {p v : Span} (h : Met o p v) (h1 : p.none = true ∨ v.none = true) : o = none := by
  rcases h with ⟨a, b, _⟩ | ⟨_, h⟩
  · rcases h1 with h1 | h1
    · rw [a] at h1; cases h1
    · rw [b] at h1; cases h1
  · exact h
theorem Met.yes {o : Option (Span × Span)} {p v : Span} (h : Met o p v) (h1 : p.none = false) (h2 : v.none = false) : o = some (p, v) := by
  rcases h with ⟨_, _, h⟩ | ⟨h, _⟩
  · exact h
  · rcases h with h | h
    · rw [h1] at h; cases h
    · rw [h2] at h; cases h

def sizeW (n : Int) : Int := max n (IntKind.i64.wrap (0 - n))
theorem sizeW_fact {n : Int} (h : InI n) : n ≤ sizeW n ∧ (-1000000 ≤ n ∧ n ≤ 1000000 → sizeW n ≤ 1000000) := by
  refine ⟨by unfold sizeW; omega, fun hh => ?_⟩
  rw [sizeW, wrap_in (by unfold InI; omega)]; omega
theorem ahead_end {t : Task} {o : Option (Span × Span)} {n k : Int} {p v : Span} {b : Bool} (hr : b = true ↔ p.none = false ∧ v.none = false) (h : o = aheadN t (n - k).toNat p v) (he : b = false ∨ k = n) :
    (b = true ∧ o = some (p, v)) ∨ (b = false ∧ o = none) := by
  cases hb : b with
  | true =>
    obtain ⟨h1, h2⟩ := hr.1 hb
    rcases he with he | he
    · rw [hb] at he; cases he
    · exact .inl ⟨rfl, h.trans (aheadN_end he h1 h2)⟩
  | false =>
    refine .inr ⟨rfl, h.trans (aheadN_none ?_)⟩
    cases h1 : p.none with
    | true => exact .inl rfl
    | false =>
      cases h2 : v.none with
      | true => exact .inr rfl
      | false => rw [hr.2 ⟨h1, h2⟩] at hb; cases hb

end Go.Tk

/- Layer 5: plots that are not known change nothing. -/
set_option linter.all false
namespace Go.Tk
open Go.Vc

/-- two tasks with the same boxes at a tick -/
structure SameW (t t' : Task) (u now : Int) : Prop where
  asked : askedT t' [u, now] = askedT t [u, now]
  tr : t'.trackers = t.trackers
  box : ∀ want, boxT t' (byT t' now want) u = boxT t (byT t now want) u
section
variable {t t' : Task} {u now : Int}
theorem SameW.wher (h : SameW t t' u now) : whereP t' u now = whereP t u now := by unfold whereP; rw [h.asked, h.box]
theorem SameW.spareT (h : SameW t t' u now) : spareT t' u now = spareT t u now := by
  unfold Tk.spareT othersV; simp only [h.tr, h.box]
theorem SameW.spare (h : SameW t t' u now) : spareP t' u now = spareP t u now := by unfold spareP; rw [h.asked, h.spareT]
theorem SameW.bestN (h : SameW t t' u now) (s : Box) : ∀ n, bestN t' s u now n = bestN t s u now n := by
  intro n
  induction n with
  | zero => rfl
  | succ n ih => simp only [Tk.bestN, ih, ownT, h.box]
theorem SameW.best (h : SameW t t' u now) : bestP t' u now = bestP t u now := by
  unfold bestP; simp only [h.spare, h.bestN, h.tr]
theorem asked_both (hG : GoodT t) (hG' : GoodT t') (l : List Int) : askedT t' l = askedT t l := by
  unfold askedT
  rw [checkT_ok hG.toHead hG.tr hG.pl, checkT_ok hG'.toHead hG'.tr hG'.pl]

/-! ### other plots said -/
structure SayT (t t' : Task) (now : Int) : Prop where
  frm : t'.frm = t.frm
  speed : t'.speed = t.speed
  accel : t'.accel = t.accel
  trackers : t'.trackers = t.trackers
  len : t'.plots.length = t.plots.length
  pl : ∀ j, j < t.plots.length → (t'.pl j).tracker = (t.pl j).tracker ∧ (t'.pl j).tick = (t.pl j).tick ∧ (knownB t now j = true → t'.pl j = t.pl j) ∧
    (-2000000000 ≤ (t'.pl j).x ∧ (t'.pl j).x ≤ 2000000000) ∧ (-2000000000 ≤ (t'.pl j).y ∧ (t'.pl j).y ≤ 2000000000) ∧ (-2000000000 ≤ (t'.pl j).z ∧ (t'.pl j).z ≤ 2000000000)
theorem SayT.tr_eq (h : SayT t t' now) : Task.tr t' = Task.tr t := by funext i; rw [Task.tr, Task.tr, h.trackers]
theorem SayT.good (h : SayT t t' now) (hG : GoodT t) : GoodT t' := by
  refine ⟨⟨by rw [h.trackers]; exact hG.h1, by rw [h.len]; exact hG.h2, by rw [h.frm]; exact hG.h3, by rw [h.speed]; exact hG.h4, by rw [h.accel]; exact hG.h5⟩, fun j hj => ?_, fun j hj => ?_⟩
  · rw [h.trackers] at hj
    have := hG.tr j hj
    have e : errTr t' j = errTr t j := by unfold errTr dupB; rw [h.tr_eq]
    rwa [e]
  · rw [h.len] at hj
    obtain ⟨e1, e2, _, bx, by_, bz⟩ := h.pl j hj
    obtain ⟨h1, h2, h3⟩ := errPl_zero (hG.pl j hj)
    refine errPl_ok (by rw [e1, h.trackers]; exact h1) ?_ ?_
    · simp only [plOut, Bool.or_eq_false_iff, h.frm, e2] at h2 ⊢
      exact ⟨h2.1, oP_false.2 bx, oP_false.2 by_, oP_false.2 bz⟩
    · refine seenB_none fun i hi => ?_
      obtain ⟨a1, a2, _⟩ := h.pl i (by omega)
      rw [e1, e2, a1, a2]
      exact no_dup hG (by omega) hj (by omega)
theorem SayT.trOf (h : SayT t t' now) {j : Nat} (hj : j < t.plots.length) : t'.trOf j = t.trOf j := by
  rw [Task.trOf, Task.trOf, (h.pl j hj).1, h.tr_eq]
theorem SayT.known (h : SayT t t' now) {j : Nat} (hj : j < t.plots.length) : knownB t' now j = knownB t now j := by
  rw [knownB, knownB, h.trOf hj, (h.pl j hj).2.1]
theorem SayT.plotS (h : SayT t t' now) {j : Nat} (hj : j < t.plots.length) (hk : knownB t now j = true) (k u : Int) : plotS t' k u j = plotS t k u j := by
  have e := (h.pl j hj).2.2.1 hk
  simp only [Tk.plotS, slackT, widthT, farT, h.trOf hj, Int.toNat_natCast, e, h.speed]
theorem SayT.binds (h : SayT t t' now) (hG : GoodT t) (want : Int → Bool) : Binds t (byT t now want) t' (byT t' now want) := by
  obtain ⟨_, _, ha⟩ := hG.nums
  refine ⟨h.frm.symm, by rw [h.speed]; exact Int.le_refl _, by rw [h.accel]; exact ⟨by omega, Int.le_refl _⟩, fun n _ => by simp only [reachT, capT, h.speed, h.accel]; exact Int.le_refl _, fun i hi => ?_⟩
  obtain ⟨h0, h1⟩ := byT_bnd i hi
  obtain ⟨j, rfl⟩ := Int.eq_ofNat_of_zero_le h0
  obtain ⟨hj, hk, hw⟩ := mem_byT.1 hi
  rw [h.len] at hj
  rw [h.known hj] at hk
  exact ⟨j, mem_byT.2 ⟨hj, hk, by rw [← (h.pl j hj).1]; exact hw⟩, fun k u => by rw [h.plotS hj hk]; exact ⟨Int.le_refl _, Int.le_refl _⟩⟩
theorem SayT.rbinds (h : SayT t t' now) (hG : GoodT t) (want : Int → Bool) : Binds t' (byT t' now want) t (byT t now want) := by
  obtain ⟨_, _, ha⟩ := hG.nums
  refine ⟨h.frm, by rw [h.speed]; exact Int.le_refl _, by rw [h.accel]; exact ⟨by omega, Int.le_refl _⟩, fun n _ => by simp only [reachT, capT, h.speed, h.accel]; exact Int.le_refl _, fun i hi => ?_⟩
  obtain ⟨h0, h1⟩ := byT_bnd i hi
  obtain ⟨j, rfl⟩ := Int.eq_ofNat_of_zero_le h0
  obtain ⟨hj, hk, hw⟩ := mem_byT.1 hi
  exact ⟨j, mem_byT.2 ⟨by rw [h.len]; exact hj, by rw [h.known hj]; exact hk, by rw [(h.pl j hj).1]; exact hw⟩, fun k u => by rw [h.plotS hj hk]; exact ⟨Int.le_refl _, Int.le_refl _⟩⟩
theorem SayT.same (h : SayT t t' now) (hG : GoodT t) (u : Int) : SameW t t' u now :=
  ⟨asked_both hG (h.good hG) _, h.trackers, fun want => (box_same (h.binds hG want) (h.rbinds hG want) u).symm⟩
end

def saidL (t : Task) (now a b c : Int) (n : Nat) : List Plot := (List.range t.plots.length).map fun j => if j < n ∧ knownB t now j = false then ⟨(t.pl j).tracker, (t.pl j).tick, a, b, c⟩ else t.pl j
section
variable {t : Task} {now a b c : Int}
theorem saidL_len (n : Nat) : (saidL t now a b c n).length = t.plots.length := by simp [saidL]
theorem saidL_zero : saidL t now a b c 0 = t.plots := by
  refine List.ext_getElem (by rw [saidL_len]) fun i h1 h2 => ?_
  simp [saidL, Task.pl, List.getD_eq_getElem?_getD, List.getElem?_eq_getElem h2]
theorem saidL_yes {k : Int} (hk : 0 ≤ k) (h : knownB t now k.toNat = true) : saidL t now a b c (k + 1).toNat = saidL t now a b c k.toNat := by
  unfold saidL
  refine List.map_congr_left fun j _ => ?_
  have e : (k + 1).toNat = k.toNat + 1 := by omega
  rw [e]
  by_cases hj : j = k.toNat
  · subst hj; rw [if_neg (fun hh => by rw [h] at hh; cases hh.2), if_neg (fun hh => by rw [h] at hh; cases hh.2)]
  · by_cases hl : j < k.toNat ∧ knownB t now j = false
    · rw [if_pos hl, if_pos ⟨by omega, hl.2⟩]
    · rw [if_neg hl, if_neg (fun hh => hl ⟨by omega, hh.2⟩)]
theorem saidL_no {k : Int} (hk : 0 ≤ k) (hl : k < t.plots.length) (h : knownB t now k.toNat = false) :
    saidL t now a b c (k + 1).toNat = (saidL t now a b c k.toNat).set k.toNat ⟨(t.pl k.toNat).tracker, (t.pl k.toNat).tick, a, b, c⟩ ∧ (saidL t now a b c k.toNat).getD k.toNat plZ = t.pl k.toNat := by
  have e : (k + 1).toNat = k.toNat + 1 := by omega
  constructor
  · refine List.ext_getElem (by rw [List.length_set, saidL_len, saidL_len]) fun j h1 h2 => ?_
    rw [List.getElem_set]
    simp only [saidL, List.getElem_map, List.getElem_range, e]
    by_cases hj : k.toNat = j
    · subst hj; rw [if_pos rfl, if_pos ⟨by omega, h⟩]
    · rw [if_neg hj]
      by_cases hh : j < k.toNat ∧ knownB t now j = false
      · rw [if_pos hh, if_pos ⟨by omega, hh.2⟩]
      · rw [if_neg hh, if_neg (fun x => hh ⟨by omega, x.2⟩)]
  · rw [List.getD_eq_getElem?_getD, List.getElem?_eq_getElem (by rw [saidL_len]; omega)]
    simp only [saidL, List.getElem_map, List.getElem_range, Option.getD_some]
    rw [if_neg (fun hh => Nat.lt_irrefl _ hh.1)]
theorem plots_set : ∀ (l : List Plot) (i : Nat) (a b c : Int), i < l.length →
    ((l.set i ⟨(l.getD i plZ).tracker, (l.getD i plZ).tick, a, b, c⟩).map Plot.cells).flatten = ((((l.map Plot.cells).flatten.set (0 + i * 5 + 2) (.int .i64 a)).set (0 + i * 5 + 3) (.int .i64 b)).set (0 + i * 5 + 4) (.int .i64 c)) := by
  intro l
  induction l with
  | nil => intro i a b c h; simp at h
  | cons p l ih =>
    intro i a b c h
    cases i with
    | zero => rfl
    | succ i =>
      have h' : i < l.length := by simpa using h
      have := ih i a b c h'
      have e2 : 0 + (i + 1) * 5 + 2 = (0 + i * 5 + 2) + 1 + 1 + 1 + 1 + 1 := by omega
      have e3 : 0 + (i + 1) * 5 + 3 = (0 + i * 5 + 3) + 1 + 1 + 1 + 1 + 1 := by omega
      have e4 : 0 + (i + 1) * 5 + 4 = (0 + i * 5 + 4) + 1 + 1 + 1 + 1 + 1 := by omega
      rw [e2, e3, e4]
      show p.cells ++ ((l.set i ⟨(l.getD i plZ).tracker, (l.getD i plZ).tick, a, b, c⟩).map Plot.cells).flatten = _
      rw [this]; rfl
def saidT (t : Task) (now a b c : Int) : Task := ⟨t.frm, t.speed, t.accel, t.trackers, saidL t now a b c t.plots.length⟩
theorem saidT_say (hG : GoodT t) (ha : -2000000000 ≤ a ∧ a ≤ 2000000000) (hb : -2000000000 ≤ b ∧ b ≤ 2000000000) (hc : -2000000000 ≤ c ∧ c ≤ 2000000000) : SayT t (saidT t now a b c) now := by
  refine ⟨rfl, rfl, rfl, rfl, saidL_len _, fun j hj => ?_⟩
  have e : (saidT t now a b c).pl j = if j < t.plots.length ∧ knownB t now j = false then ⟨(t.pl j).tracker, (t.pl j).tick, a, b, c⟩ else t.pl j := by
    rw [Task.pl, List.getD_eq_getElem?_getD, List.getElem?_eq_getElem (show j < (saidT t now a b c).plots.length by show j < (saidL _ _ _ _ _ _).length; rw [saidL_len]; exact hj)]
    simp [saidT, saidL]
  rw [e]
  split
  · rename_i h
    exact ⟨rfl, rfl, (fun hh => by rw [h.2] at hh; cases hh), ha, hb, hc⟩
  · exact ⟨rfl, rfl, fun _ => rfl, part_bnd hG hj 0, part_bnd hG hj 1, part_bnd hG hj 2⟩

/-! ### the others left out -/
def lessL (t : Task) (now : Int) (n : Nat) : List Plot := (knownN t now n).map fun i => t.pl i.toNat
theorem lessL_yes {k : Int} (hk : 0 ≤ k) (h : knownB t now k.toNat = true) : lessL t now (k + 1).toNat = lessL t now k.toNat ++ [t.pl k.toNat] := by
  rw [lessL, knownN_yes hk h, List.map_append]; rfl
theorem lessL_no {k : Int} (hk : 0 ≤ k) (h : knownB t now k.toNat = false) : lessL t now (k + 1).toNat = lessL t now k.toNat := by rw [lessL, knownN_no hk h]; rfl
theorem lessL_len (n : Nat) : (lessL t now n).length ≤ n := by rw [lessL, List.length_map]; exact knownN_len n
def lessT (t : Task) (now : Int) : Task := ⟨t.frm, t.speed, t.accel, t.trackers, lessL t now t.plots.length⟩
theorem nodup_inj {l : List Int} (h : l.Nodup) {i j : Nat} (hi : i < l.length) (hj : j < l.length) (e : l.getD i 0 = l.getD j 0) : i = j := by
  rw [List.getD_eq_getElem?_getD, List.getD_eq_getElem?_getD, List.getElem?_eq_getElem hi, List.getElem?_eq_getElem hj] at e
  simp only [Option.getD_some] at e
  have hp := List.pairwise_iff_getElem.1 h
  rcases Nat.lt_trichotomy i j with hl | he | hl
  · exact absurd e (hp i j hi hj hl)
  · exact he
  · exact absurd e.symm (hp j i hj hi hl)
theorem knownN_nodup (n : Nat) : (knownN t now n).Nodup := by
  unfold knownN
  have h : ((List.range n).filter (knownB t now)).Nodup := List.nodup_range.filter _
  refine List.Pairwise.map (R := fun a b : Nat => a ≠ b) _ (fun a b (h : a ≠ b) hh => h (by have : (a : Int) = b := hh; omega)) h
theorem lessT_sub (now : Int) : SubT t (lessT t now) (fun j => ((knownN t now t.plots.length).getD j 0).toNat) := by
  have hlen : (lessT t now).plots.length = (knownN t now t.plots.length).length := by show (lessL _ _ _).length = _; rw [lessL, List.length_map]
  have hb : ∀ j, j < (lessT t now).plots.length → 0 ≤ (knownN t now t.plots.length).getD j 0 ∧ (knownN t now t.plots.length).getD j 0 < t.plots.length := fun j hj => knownN_bnd _ (getD_mem (by omega))
  refine ⟨rfl, rfl, rfl, rfl, lessL_len _, fun j hj => ⟨by have := hb j hj; omega, ?_⟩, fun i j hi hj e => nodup_inj (knownN_nodup (t := t) (now := now) t.plots.length) (by omega) (by omega) (by have := hb i hi; have := hb j hj; omega)⟩
  rw [Task.pl, List.getD_eq_getElem?_getD]
  rw [hlen] at hj
  have : (lessT t now).plots[j]? = some (t.pl ((knownN t now t.plots.length).getD j 0).toNat) := by
    show ((knownN t now t.plots.length).map fun i => t.pl i.toNat)[j]? = _
    rw [List.getElem?_map, List.getD_eq_getElem?_getD, List.getElem?_eq_getElem hj]; rfl
  rw [this]; rfl
theorem lessT_same (hG : GoodT t) (u : Int) : SameW t (lessT t now) u now := by
  have h := lessT_sub (t := t) now
  refine ⟨asked_both hG (h.good hG) _, rfl, fun want => (box_same (h.binds hG now want) (h.rbinds hG now want fun i hi hk => ?_) u).symm⟩
  have hm : (i : Int) ∈ knownN t now t.plots.length := by
    rw [knownN, List.mem_map]
    exact ⟨i, List.mem_filter.2 ⟨List.mem_range.2 hi, hk⟩, rfl⟩
  obtain ⟨j, hj, e⟩ := List.getElem_of_mem hm
  refine ⟨j, by show j < (lessL _ _ _).length; rw [lessL, List.length_map]; exact hj, ?_⟩
  rw [List.getD_eq_getElem?_getD, List.getElem?_eq_getElem hj]
  show (_ : Int).toNat = i
  rw [e]; exact Int.toNat_natCast i
theorem known_any {k : Int} (hk : 0 ≤ k) (hl : k < t.plots.length) : ((knownN t now t.plots.length).any fun i => decide (i = k)) = knownB t now k.toNat := by
  cases h : knownB t now k.toNat with
  | true =>
    rw [List.any_eq_true]
    refine ⟨k, ?_, by simp⟩
    rw [knownN, List.mem_map]
    exact ⟨k.toNat, List.mem_filter.2 ⟨List.mem_range.2 (by omega), h⟩, by show ((k.toNat : Nat) : Int) = k; omega⟩
  | false =>
    rw [List.any_eq_false]
    intro i hi
    rw [knownN, List.mem_map] at hi
    obtain ⟨j, hj, rfl⟩ := hi
    have hj2 := (List.mem_filter.1 hj).2
    simp only [decide_eq_true_eq]
    intro e
    have : j = k.toNat := by have : (j : Int) = k := e; omega
    subst this
    rw [h] at hj2; cases hj2
theorem ii_at {l : List Int} {k : Int} (h0 : 0 ≤ k) (h : k < l.length) : (iiL l)[0 + k.toNat * 1]? = some (.int .i64 (l.getD k.toNat 0)) := by
  have e : 0 + k.toNat * 1 = k.toNat := by omega
  rw [e, iiL, List.getElem?_map, List.getD_eq_getElem?_getD, List.getElem?_eq_getElem (by omega)]; rfl
theorem any_snoc {l : List Int} {k : Int} {p : Int → Bool} (h0 : 0 ≤ k) (h : k < l.length) : (l.take (k + 1).toNat).any p = ((l.take k.toNat).any p || p (l.getD k.toNat 0)) := by
  have e : (k + 1).toNat = k.toNat + 1 := by omega
  rw [e, take_snoc (d := 0) (by omega), List.any_append]; simp
theorem tmod_place (n : Int) : -2000000000 ≤ n.tmod 2000000000 ∧ n.tmod 2000000000 ≤ 2000000000 := ⟨Int.le_of_lt (Int.lt_tmod_of_pos n (by decide)), Int.le_of_lt (Int.tmod_lt_of_pos n (by decide))⟩
theorem Grow.sets {el n c : Nat} {b : Nat} {cur : Array Value} {l : List Plot} {i : Nat} {x y z : Int} (h1 : n ≤ c) (h2 : c ≤ maxLen) (h3 : cur.size = c * 5) (h4 : cur.toList.take (n * 5) = (l.map Plot.cells).flatten) (hn : n = l.length) (hi : i < l.length) :
    Grow el 5 (.slice (some ⟨b, 0, none⟩) n c) n ((l.set i ⟨(l.getD i plZ).tracker, (l.getD i plZ).tick, x, y, z⟩).map Plot.cells).flatten
      [(b, .cells (((cur.toList.set (0 + i * 5 + 2) (.int .i64 x)).set (0 + i * 5 + 3) (.int .i64 y)).set (0 + i * 5 + 4) (.int .i64 z)).toArray el)] := by
  rw [plots_set l i x y z hi]
  refine .row h1 h2 (by simp [h3]) ?_ (by simp only [List.length_set]; rw [pl_flat_len, hn])
  rw [← h4]; simp only [List.take_set]
end
end Go.Tk
namespace Go.Vc
theorem SetAt.app {b : Nat} {o o' : Obj} {H H' : Heap} (h : SetAt H b o o' H') : ∀ A : Heap, SetAt (A ++ H) b o o' (A ++ H')
  | [] => h
  | _ :: A => .tail (h.app A)
end Go.Vc

/- The plain part of layer 6 (ended flights): what its functions compute. -/
set_option linter.all false
namespace Go.De
open Go.Vc Go.Tk

structure Line where
  a : Int
  b : Int
  keep : Int
  line : Int
structure Plan where
  lines : List Line
  grav : Span
  wait : Int
  blind : Int
structure Look where
  box : Box
  x : Span
  y : Span
  at_ : Span
  why : Int
  line : Int
structure End where
  tick : Int
  why : Int
  line : Int
structure FallR where
  x : Span
  y : Span
  at_ : Span
  e : Int
def Line.cells (l : Line) : List Value := [.int .i64 l.a, .int .i64 l.b, .int .i64 l.keep, .int .i64 l.line]
def lnZ : Line := ⟨0, 0, 0, 0⟩
def spZ : Span := ⟨0, 0⟩
def Plan.ln (p : Plan) (i : Nat) : Line := p.lines.getD i lnZ

abbrev PlanV (p : Plan) (lv : Value) : Value := .agg #[lv, .int .i64 p.grav.lo, .int .i64 p.grav.hi, .int .i64 p.wait, .int .i64 p.blind]
structure PlanR (w : World) (v : Value) (p : Plan) : Prop where
  len : (p.lines.length : Int) ≤ 9223372036854775807
  ex : ∃ lv, v = PlanV p lv ∧ SliceR w 4 lv (p.lines.map Line.cells)
theorem PlanR.ext {w w' : World} {v : Value} {p : Plan} (h : PlanR w v p) (he : Ext w w') : PlanR w' v p := let ⟨lv, e, hs⟩ := h.ex; ⟨h.len, lv, e, hs.ext he⟩
theorem PlanR.good {w0 w : World} {H : Heap} {v : Value} {p : Plan} (h : PlanR w0 v p) (hg : Vc.Good w0 [] H w) : PlanR w v p := h.ext hg.toExt

/-! ### checks -/
def errLn (l : Line) : Int :=
  if (oP l.a (-1000) 1000 || (oP l.b (-1000) 1000 || (oP l.keep (-4000000000000) 4000000000000 || oP l.line (-4000000000000) 4000000000000))) = true then 7
  else if (l.a = 0 ∧ l.b = 0) ∨ l.line < l.keep then 2 else 0
def tailP (p : Plan) : Bool := oP p.grav.hi 1 200 || (oP p.grav.lo 1 p.grav.hi || (oP p.wait 0 100 || oP p.blind 0 300))
def checkP (p : Plan) : Int × Int × Int := if oP p.lines.length 1 8 = true then (1, 0, 3) else match firstErr (fun i => errLn (p.ln i)) 0 p.lines.length with
  | some (i, e) => (1, i, e)
  | none => if tailP p = true then (2, 0, 7) else (0, 0, 0)
def planE (p : Plan) : Int := (checkP p).2.2

structure LnB (l : Line) : Prop where
  a : -1000 ≤ l.a ∧ l.a ≤ 1000
  b : -1000 ≤ l.b ∧ l.b ≤ 1000
  keep : -4000000000000 ≤ l.keep ∧ l.keep ≤ l.line
  line : l.line ≤ 4000000000000
theorem ln_zero {l : Line} (h : errLn l = 0) : LnB l := by
  unfold errLn at h
  split at h
  · cases h
  · split at h
    · cases h
    · rename_i h1 h2
      simp only [Bool.not_eq_true, Bool.or_eq_false_iff, oP_false] at h1
      exact ⟨h1.1, h1.2.1, by omega, by omega⟩
structure GoodP (p : Plan) : Prop where
  len : oP p.lines.length 1 8 = false
  ln : ∀ j, j < p.lines.length → errLn (p.ln j) = 0
  tail : tailP p = false
theorem GoodP.nums {p : Plan} (h : GoodP p) : (1 ≤ p.lines.length ∧ p.lines.length ≤ 8) ∧ (1 ≤ p.grav.lo ∧ p.grav.lo ≤ p.grav.hi ∧ p.grav.hi ≤ 200) ∧ (0 ≤ p.wait ∧ p.wait ≤ 100) ∧ (0 ≤ p.blind ∧ p.blind ≤ 300) := by
  have h1 := oP_false.1 h.len
  have h2 := h.tail
  simp only [tailP, Bool.or_eq_false_iff, oP_false] at h2
  omega
theorem GoodP.lnb {p : Plan} (h : GoodP p) {l : Line} (hl : l ∈ p.lines) : LnB l := by
  obtain ⟨j, hj, e⟩ := List.getElem_of_mem hl
  have := ln_zero (h.ln j hj)
  rw [Plan.ln, List.getD_eq_getElem?_getD, List.getElem?_eq_getElem hj] at this
  rw [← e]; exact this
theorem firstErr_0 {f : Nat → Int} {n : Nat} (h : firstErr f 0 n = none) : ∀ j, j < n → f j = 0 := by
  intro j hj
  rcases firstErr_of (f := f) (n := n) n 0 (by omega) with ⟨_, h'⟩ | ⟨i, _, _, h', _⟩
  · exact h' j (by omega) hj
  · rw [h] at h'; cases h'
theorem firstErr_e {f : Nat → Int} {n i : Nat} {e : Int} (h : firstErr f 0 n = some (i, e)) : e ≠ 0 ∧ e = f i := by
  rcases firstErr_of (f := f) (n := n) n 0 (by omega) with ⟨h', _⟩ | ⟨k, _, _, h', h2, _⟩
  · rw [h] at h'; cases h'
  · rw [h] at h'; simp only [Option.some.injEq, Prod.mk.injEq] at h'; obtain ⟨rfl, rfl⟩ := h'; exact ⟨h2, rfl⟩
theorem good_of_plan {p : Plan} (h : planE p = 0) : GoodP p := by
  unfold planE checkP at h
  split at h
  · cases h
  · rename_i h1
    split at h
    · rename_i i e he; exact absurd h (firstErr_e he).1
    · rename_i hl
      split at h
      · cases h
      · rename_i h2; exact ⟨by simpa using h1, firstErr_0 hl, by simpa using h2⟩
theorem checkP_long {p : Plan} (h : oP p.lines.length 1 8 = true) : checkP p = (1, 0, 3) := by unfold checkP; rw [if_pos h]
theorem checkP_ln {p : Plan} (h : oP p.lines.length 1 8 = false) {k e : Int} (hk0 : 0 ≤ k) (hk : k < p.lines.length) (hb : ∀ j : Nat, (j : Int) < k → errLn (p.ln j) = 0) (he : errLn (p.ln k.toNat) = e) (hn : e ≠ 0) : checkP p = (1, k, e) := by
  unfold checkP
  rw [if_neg (by rw [h]; simp), firstErr_hit (f := fun i => errLn (p.ln i)) (k := k.toNat) (by omega) (by rw [he]; exact hn) (fun j hj => hb j (by omega))]
  simp only [he]
  congr 2; omega
theorem checkP_tail {p : Plan} (h : oP p.lines.length 1 8 = false) (hb : ∀ j : Nat, j < p.lines.length → errLn (p.ln j) = 0) (ht : tailP p = true) : checkP p = (2, 0, 7) := by
  unfold checkP
  rw [if_neg (by rw [h]; simp), firstErr_none (f := fun i => errLn (p.ln i)) hb, if_pos ht]
theorem checkP_ok {p : Plan} (h : oP p.lines.length 1 8 = false) (hb : ∀ j : Nat, j < p.lines.length → errLn (p.ln j) = 0) (ht : tailP p = false) : checkP p = (0, 0, 0) := by
  unfold checkP
  rw [if_neg (by rw [h]; simp), firstErr_none (f := fun i => errLn (p.ln i)) hb, if_neg (by rw [ht]; simp)]

/-! ### falls -/
def offS (s : Span) : Bool := decide (s.hi < s.lo) || (oP s.lo (-2000000000) 2000000000 || oP s.hi (-2000000000) 2000000000)
theorem off_false {s : Span} : offS s = false ↔ -2000000000 ≤ s.lo ∧ s.lo ≤ s.hi ∧ s.hi ≤ 2000000000 := by
  simp only [offS, Bool.or_eq_false_iff, oP_false, decide_eq_false_iff_not]; omega
def addS (a b : Span) : Span := ⟨a.lo + b.lo, a.hi + b.hi⟩
def hullS (a b : Span) : Span := ⟨min a.lo b.lo, max a.hi b.hi⟩
def stepF (g : Span) (b : Box) : Box := ⟨b.at_, addS b.x b.vx, addS b.y b.vy, addS b.z b.vz, b.vx, b.vy, ⟨b.vz.lo - g.hi, b.vz.hi - g.lo⟩⟩
def runF (g : Span) (b : Box) : Nat → Box
  | 0 => b
  | n + 1 => stepF g (runF g b n)
def offB (b : Box) : Bool := offS b.x || (offS b.y || offS b.z)
/-- what is known of the area: it, and since when -/
def accF (f : Nat → Box) (t : Nat) (acc : Option (Span × Span × Nat)) : Option (Span × Span × Nat) := match acc with
  | some (x, y, a) => some (hullS x (f t).x, hullS y (f t).y, a)
  | none => if (f t).z.lo ≤ 0 then some ((f t).x, (f t).y, t) else none
def doneF (at_ : Int) (t : Nat) : Option (Span × Span × Nat) → FallR
  | some (x, y, a) => ⟨x, y, ⟨at_ + a, at_ + t⟩, 0⟩
  | none => ⟨spZ, spZ, ⟨0, at_ + t⟩, 0⟩
def fallN (f : Nat → Box) (at_ : Int) : Nat → Nat → Option (Span × Span × Nat) → FallR
  | 0, _, _ => ⟨spZ, spZ, spZ, 9⟩
  | k + 1, t, acc => if offB (f t) = true then ⟨spZ, spZ, spZ, 3⟩ else if (f t).z.hi ≤ 0 then doneF at_ t (accF f t acc) else fallN f at_ k (t + 1) (accF f t acc)
def fallT (g : Span) (b : Box) : FallR := fallN (runF g b) b.at_ 3000 1 none
def fallP (p : Plan) (b : Box) : FallR := if planE p ≠ 0 then ⟨spZ, spZ, spZ, planE p⟩ else if boxE b ≠ 0 then ⟨spZ, spZ, spZ, boxE b⟩ else fallT p.grav b

/-! ### lines -/
def mostL (l : Line) (x y : Span) : Int := max (l.a * x.lo) (l.a * x.hi) + max (l.b * y.lo) (l.b * y.hi)
def leastL (l : Line) (x y : Span) : Int := min (l.a * x.lo) (l.a * x.hi) + min (l.b * y.lo) (l.b * y.hi)
def areaE (p : Plan) (x y : Span) : Int := if planE p ≠ 0 then planE p else if (offS x || offS y) = true then 7 else 0
def sideL (p : Plan) (x y : Span) : List Int := if areaE p x y ≠ 0 then [] else p.lines.map fun l => l.line - mostL l x y
def keepsB (p : Plan) (x y : Span) : Bool := if areaE p x y ≠ 0 then false else !(p.lines.any fun l => decide (l.keep < mostL l x y))
def sureI (p : Plan) (x y : Span) : Int := if areaE p x y ≠ 0 then 0 else Tk.firstIdx (fun i => decide ((p.ln i).line < leastL (p.ln i) x y)) 0 p.lines.length
def sureB (p : Plan) (x y : Span) : Bool := if areaE p x y ≠ 0 then false else decide (0 ≤ sureI p x y)
/-- the first line beyond which a place is -/
def overI (p : Plan) (x y : Span) : Int := Tk.firstIdx (fun i => decide ((p.ln i).line < mostL (p.ln i) x y)) 0 p.lines.length

/-! ### looks -/
def taskE (p : Plan) (t : Task) : Int := if planE p ≠ 0 then planE p else (checkT t).2.2
def ticksE (p : Plan) (t : Task) (l : List Int) : Int := if taskE p t = 0 ∧ (l.any fun n => oP n 0 100000) = true then 7 else taskE p t
def usedN (p : Plan) (t : Task) (now : Int) : Nat → Int → Option (Box × Int)
  | 0, _ => none
  | k + 1, frm => if frm < 0 ∨ p.blind < now - frm then none else if (spareP t frm now).2 = 0 then
      (if (aheadP t (spareP t frm now).1 (now - frm + p.wait + 1)).2 = 0 then some ((aheadP t (spareP t frm now).1 (now - frm + p.wait + 1)).1, frm) else none)
    else usedN p t now k (frm - 1)
def usedT (p : Plan) (t : Task) (now : Int) : Option (Box × Int) := usedN p t now (p.blind + 1).toNat now
def usedE (p : Plan) (t : Task) (now : Int) : Int := if ticksE p t [now] ≠ 0 then ticksE p t [now] else if (usedT p t now).isSome = true then 0 else 9
def usedP (p : Plan) (t : Task) (now : Int) : Box × Int := if usedE p t now ≠ 0 then (boxZ, 0) else (usedT p t now).getD (boxZ, 0)
def lookF (p : Plan) (b : Box) (r : FallR) : Look := if r.e ≠ 0 then ⟨b, spZ, spZ, spZ, 3, -1⟩ else ⟨b, r.x, r.y, r.at_, if 0 ≤ overI p r.x r.y then 1 else 0, overI p r.x r.y⟩
def lookT (p : Plan) (t : Task) (now : Int) : Look := match usedT p t now with
  | none => ⟨boxZ, spZ, spZ, spZ, 2, -1⟩
  | some (b, _) => lookF p b (fallT p.grav b)
def lookZ : Look := ⟨boxZ, spZ, spZ, spZ, 0, 0⟩
def lookP (p : Plan) (t : Task) (now : Int) : Look × Int := if ticksE p t [now] ≠ 0 then (lookZ, ticksE p t [now]) else (lookT p t now, 0)
def decE (p : Plan) (t : Task) (a b : Int) : Int := if ticksE p t [a, b] ≠ 0 then ticksE p t [a, b] else if b < a then 7 else if 200 ≤ b - a then 3 else 0
def decN (p : Plan) (t : Task) : Nat → Int → End
  | 0, _ => ⟨-1, 0, -1⟩
  | k + 1, now => if (lookT p t now).why ≠ 0 then ⟨now, (lookT p t now).why, (lookT p t now).line⟩ else decN p t k (now + 1)
def decP (p : Plan) (t : Task) (a b : Int) : End × Int := if decE p t a b ≠ 0 then (⟨0, 0, 0⟩, decE p t a b) else (decN p t (b - a + 1).toNat a, 0)

def Look.cells (l : Look) : List Value := Box.cells l.box ++ [.int .i64 l.x.lo, .int .i64 l.x.hi, .int .i64 l.y.lo, .int .i64 l.y.hi, .int .i64 l.at_.lo, .int .i64 l.at_.hi, .int .i64 l.why, .int .i64 l.line]

/-! ### what a fall is -/
def hullF (f : Nat → Box) (a : Nat) : Nat → Span × Span
  | 0 => ((f a).x, (f a).y)
  | k + 1 => (hullS (hullF f a k).1 (f (a + k + 1)).x, hullS (hullF f a k).2 (f (a + k + 1)).y)
theorem hull_l {a b : Span} : InS a (hullS a b) := by unfold InS hullS; dsimp only; omega
theorem hull_r {a b : Span} : InS b (hullS a b) := by unfold InS hullS; dsimp only; omega
theorem InS.tr {a b c : Span} (h : InS a b) (k : InS b c) : InS a c := ⟨Int.le_trans k.1 h.1, Int.le_trans h.2 k.2⟩
theorem InS.rfl' {a : Span} : InS a a := ⟨Int.le_refl _, Int.le_refl _⟩
theorem hullF_in (f : Nat → Box) (a : Nat) : ∀ (k j : Nat), j ≤ k → InS (f (a + j)).x (hullF f a k).1 ∧ InS (f (a + j)).y (hullF f a k).2 := by
  intro k
  induction k with
  | zero => intro j hj; have : j = 0 := by omega
            subst this; exact ⟨InS.rfl', InS.rfl'⟩
  | succ k ih =>
    intro j hj
    by_cases e : j = k + 1
    · subst e; exact ⟨hull_r, hull_r⟩
    · obtain ⟨h1, h2⟩ := ih j (by omega)
      exact ⟨InS.tr h1 hull_l, InS.tr h2 hull_l⟩

structure FallIs (f : Nat → Box) (at_ : Int) (r : FallR) (a b : Nat) : Prop where
  a1 : 1 ≤ a
  ab : a ≤ b
  off : ∀ j, 1 ≤ j → j ≤ b → offB (f j) = false
  above : ∀ j, 1 ≤ j → j < a → 0 < (f j).z.lo
  low : (f a).z.lo ≤ 0
  up : ∀ j, 1 ≤ j → j < b → 0 < (f j).z.hi
  down : (f b).z.hi ≤ 0
  at_ : r.at_ = ⟨at_ + a, at_ + b⟩
  x : r.x = (hullF f a (b - a)).1
  y : r.y = (hullF f a (b - a)).2

/-- what is known ahead of tick t -/
def AccIs (f : Nat → Box) (t : Nat) (acc : Option (Span × Span × Nat)) : Prop :=
  (acc = none ∧ ∀ j, 1 ≤ j → j < t → 0 < (f j).z.lo) ∨
    ∃ a, 1 ≤ a ∧ a < t ∧ (∀ j, 1 ≤ j → j < a → 0 < (f j).z.lo) ∧ (f a).z.lo ≤ 0 ∧ acc = some ((hullF f a (t - 1 - a)).1, (hullF f a (t - 1 - a)).2, a)
section
variable {f : Nat → Box} {at_ : Int}
theorem acc_step {t : Nat} {acc : Option (Span × Span × Nat)} (ht : 1 ≤ t) (h : AccIs f t acc) : AccIs f (t + 1) (accF f t acc) := by
  rcases h with ⟨rfl, h⟩ | ⟨a, h1, h2, h3, h4, rfl⟩
  · unfold accF
    dsimp only
    split
    · rename_i hz
      refine .inr ⟨t, ht, by omega, h, hz, ?_⟩
      rw [show t + 1 - 1 - t = 0 by omega]; rfl
    · rename_i hz
      refine .inl ⟨rfl, fun j a b => ?_⟩
      by_cases e : j = t
      · rw [e]; omega
      · exact h j a (by omega)
  · refine .inr ⟨a, h1, by omega, h3, h4, ?_⟩
    have e : t + 1 - 1 - a = (t - 1 - a) + 1 := by omega
    have e2 : a + (t - 1 - a) + 1 = t := by omega
    unfold accF
    rw [e, hullF, e2]
theorem offB_z {b : Box} (h : offB b = false) : b.z.lo ≤ b.z.hi := by
  simp only [offB, Bool.or_eq_false_iff, off_false] at h; omega
theorem fall_is : ∀ (k t : Nat) (acc : Option (Span × Span × Nat)) (r : FallR), 1 ≤ t → AccIs f t acc → (∀ j, 1 ≤ j → j < t → offB (f j) = false) → (∀ j, 1 ≤ j → j < t → 0 < (f j).z.hi) → fallN f at_ k t acc = r → r.e = 0 → ∃ a b, FallIs f at_ r a b ∧ b < t + k := by
  intro k
  induction k with
  | zero => intro t acc r _ _ _ _ h he; unfold fallN at h; subst h; cases he
  | succ k ih =>
    intro t acc r ht ha hoff hup h he
    unfold fallN at h
    split at h
    · subst h; cases he
    · rename_i ho
      have ho : offB (f t) = false := by simpa using ho
      have hoff' : ∀ j, 1 ≤ j → j < t + 1 → offB (f j) = false := fun j h1 h2 => by
        by_cases e : j = t
        · rw [e]; exact ho
        · exact hoff j h1 (by omega)
      split at h
      · rename_i hz
        rcases acc_step ht ha with ⟨_, h2⟩ | ⟨a, h1, h2, h3, h4, h5⟩
        · have := h2 t ht (by omega); have := offB_z ho; omega
        · rw [h5] at h
          subst h
          rw [show t + 1 - 1 - a = t - a by omega]
          exact ⟨a, t, ⟨h1, by omega, fun j h1 h2 => hoff' j h1 (by omega), h3, h4, hup, hz, rfl, rfl, rfl⟩, by omega⟩
      · rename_i hz
        obtain ⟨a, b, h1, h2⟩ := ih (t + 1) _ r (by omega) (acc_step ht ha) hoff' (fun j h1 h2 => by
          by_cases e : j = t
          · rw [e]; omega
          · exact hup j h1 (by omega)) h he
        exact ⟨a, b, h1, by omega⟩
theorem fallT_is {g : Span} {b : Box} (h : (fallT g b).e = 0) : ∃ m n, FallIs (runF g b) b.at_ (fallT g b) m n ∧ n ≤ 3000 := by
  obtain ⟨m, n, h1, h2⟩ := fall_is 3000 1 none _ (Nat.le_refl _) (.inl ⟨rfl, fun j a b => by omega⟩) (fun j a b => by omega) (fun j a b => by omega) rfl h
  exact ⟨m, n, h1, by omega⟩
end

/-! ### how great numbers are -/
theorem mul_abs {a b A B : Int} (hA : 0 ≤ A) (ha : -A ≤ a ∧ a ≤ A) (hb : -B ≤ b ∧ b ≤ B) : -(A * B) ≤ a * b ∧ a * b ≤ A * B := by
  have hB : 0 ≤ B := by omega
  rcases Int.le_total 0 a with h | h <;> rcases Int.le_total 0 b with k | k
  · have := mul_bnd (show 0 ≤ a ∧ a ≤ A by omega) (show 0 ≤ b ∧ b ≤ B by omega); omega
  · have := mul_bnd (show 0 ≤ a ∧ a ≤ A by omega) (show 0 ≤ -b ∧ -b ≤ B by omega); rw [Int.mul_neg] at this; omega
  · have := mul_bnd (show 0 ≤ -a ∧ -a ≤ A by omega) (show 0 ≤ b ∧ b ≤ B by omega); rw [Int.neg_mul] at this; omega
  · have := mul_bnd (show 0 ≤ -a ∧ -a ≤ A by omega) (show 0 ≤ -b ∧ -b ≤ B by omega); rw [Int.neg_mul_neg] at this; omega
def FallB (n : Int) (b : Box) : Prop := (0 ≤ b.at_ ∧ b.at_ ≤ 100000) ∧ (-2000000000 ≤ b.x.lo ∧ b.x.lo ≤ b.x.hi ∧ b.x.hi ≤ 2000000000) ∧ (-2000000000 ≤ b.y.lo ∧ b.y.lo ≤ b.y.hi ∧ b.y.hi ≤ 2000000000) ∧ (-2000000000 ≤ b.z.lo ∧ b.z.lo ≤ b.z.hi ∧ b.z.hi ≤ 2000000000) ∧
  (-1000000 ≤ b.vx.lo ∧ b.vx.lo ≤ b.vx.hi ∧ b.vx.hi ≤ 1000000) ∧ (-1000000 ≤ b.vy.lo ∧ b.vy.lo ≤ b.vy.hi ∧ b.vy.hi ≤ 1000000) ∧ (-1000000 - 200 * n ≤ b.vz.lo ∧ b.vz.lo ≤ b.vz.hi ∧ b.vz.hi ≤ 1000000)
theorem fallB_0 {b : Box} (h : BoxOk b) : FallB 0 b := by
  obtain ⟨h0, h1, h2, h3, h4, h5, h6⟩ := h
  unfold okS at *
  unfold FallB; omega
theorem fallB_step {b : Box} {n : Int} {g : Span} (h : FallB n b) (hg : 1 ≤ g.lo ∧ g.lo ≤ g.hi ∧ g.hi ≤ 200) (ho : offB (stepF g b) = false) : FallB (n + 1) (stepF g b) := by
  simp only [offB, Bool.or_eq_false_iff, off_false] at ho
  unfold FallB at *
  simp only [stepF, addS] at *
  omega

end Go.De

/- Layer 6: what the statements say of falls (plain). -/
set_option linter.all false
namespace Go.De
open Go.Vc Go.Tk

/-! ### one that falls -/
structure P3 where
  x : Int
  y : Int
  z : Int
  vx : Int
  vy : Int
  vz : Int
def stepP3 (g : Int) (p : P3) : P3 := ⟨p.x + p.vx, p.y + p.vy, p.z + p.vz, p.vx, p.vy, p.vz - g⟩
def runP3 (gz : Nat → Int) (p : P3) : Nat → P3
  | 0 => p
  | n + 1 => stepP3 (gz (n + 1)) (runP3 gz p n)
structure InP (p : P3) (b : Box) : Prop where
  x : b.x.lo ≤ p.x ∧ p.x ≤ b.x.hi
  y : b.y.lo ≤ p.y ∧ p.y ≤ b.y.hi
  z : b.z.lo ≤ p.z ∧ p.z ≤ b.z.hi
  vx : b.vx.lo ≤ p.vx ∧ p.vx ≤ b.vx.hi
  vy : b.vy.lo ≤ p.vy ∧ p.vy ≤ b.vy.hi
  vz : b.vz.lo ≤ p.vz ∧ p.vz ≤ b.vz.hi
theorem runP3_in {gz : Nat → Int} {g : Span} {p : P3} {b : Box} (hg : ∀ n, g.lo ≤ gz n ∧ gz n ≤ g.hi) (h : InP p b) : ∀ n, InP (runP3 gz p n) (runF g b n) := by
  intro n
  induction n with
  | zero => exact h
  | succ n ih =>
    obtain ⟨h1, h2, h3, h4, h5, h6⟩ := ih
    have := hg (n + 1)
    refine ⟨?_, ?_, ?_, ?_, ?_, ?_⟩ <;> (simp only [runP3, runF, stepP3, stepF, addS]; omega)
theorem fall_has {f : Nat → Box} {at_ : Int} {r : FallR} {a b : Nat} (h : FallIs f at_ r a b) {q : Nat → P3} (hin : ∀ n, InP (q n) (f n)) {n : Nat} (h1 : 1 ≤ n) (hz : (q n).z ≤ 0) (hb : ∀ j, 1 ≤ j → j < n → 0 < (q j).z) :
    (r.at_.lo ≤ at_ + n ∧ at_ + n ≤ r.at_.hi) ∧ (r.x.lo ≤ (q n).x ∧ (q n).x ≤ r.x.hi) ∧ (r.y.lo ≤ (q n).y ∧ (q n).y ≤ r.y.hi) := by
  have hnb : n ≤ b := by
    rcases Nat.lt_or_ge b n with hlt | hge
    · have := (hin b).z; have := hb b (by have := h.a1; have := h.ab; omega) hlt; have := h.down; omega
    · exact hge
  have han : a ≤ n := by
    rcases Nat.lt_or_ge n a with hlt | hge
    · have := (hin n).z; have := h.above n h1 hlt; omega
    · exact hge
  have hh := hullF_in f a (b - a) (n - a) (by omega)
  rw [show a + (n - a) = n by omega, ← h.x, ← h.y] at hh
  obtain ⟨⟨x1, x2⟩, ⟨y1, y2⟩⟩ := hh
  have := (hin n).x; have := (hin n).y
  rw [h.at_]; dsimp only
  omega
/-- the tick at which it comes down is found -/
theorem fall_ex {f : Nat → Box} {at_ : Int} {r : FallR} {a b : Nat} (h : FallIs f at_ r a b) {q : Nat → P3} (hin : ∀ n, InP (q n) (f n)) : (q b).z ≤ 0 := by
  have := (hin b).z; have := h.down; omega

/-! ### wider boxes -/
theorem hullF_sub {f : Nat → Box} {a : Nat} {S T : Span} : ∀ k, (∀ j, j ≤ k → InS (f (a + j)).x S ∧ InS (f (a + j)).y T) → InS (hullF f a k).1 S ∧ InS (hullF f a k).2 T := by
  intro k
  induction k with
  | zero => intro h; exact h 0 (Nat.le_refl _)
  | succ k ih =>
    intro h
    obtain ⟨h1, h2⟩ := ih fun j hj => h j (by omega)
    obtain ⟨h3, h4⟩ := h (k + 1) (Nat.le_refl _)
    rw [← Nat.add_assoc] at h3 h4
    obtain ⟨a1, a2⟩ := h1; obtain ⟨b1, b2⟩ := h2; obtain ⟨c1, c2⟩ := h3; obtain ⟨d1, d2⟩ := h4
    constructor <;> (unfold InS; simp only [hullF, hullS]; omega)
theorem runF_mono {g : Span} {b c : Box} (h : InB b c) : ∀ n, InB (runF g b n) (runF g c n) := by
  intro n
  induction n with
  | zero => exact h
  | succ n ih =>
    obtain ⟨h0, ⟨x1, x2⟩, ⟨y1, y2⟩, ⟨z1, z2⟩, ⟨u1, u2⟩, ⟨v1, v2⟩, ⟨w1, w2⟩⟩ := ih
    refine ⟨h0, ?_, ?_, ?_, ?_, ?_, ?_⟩ <;> (unfold InS; simp only [runF, stepF, addS]; omega)
theorem fall_wider {g : Span} {b c : Box} (h : InB b c) (hb : (fallT g b).e = 0) (hc : (fallT g c).e = 0) : InS (fallT g b).x (fallT g c).x ∧ InS (fallT g b).y (fallT g c).y ∧ InS (fallT g b).at_ (fallT g c).at_ := by
  obtain ⟨m, n, hi, _⟩ := fallT_is hb
  obtain ⟨m', n', hi', _⟩ := fallT_is hc
  have hm := runF_mono (g := g) h
  have h1 : m' ≤ m := by
    rcases Nat.lt_or_ge m m' with hlt | hge
    · have := hi'.above m hi.a1 hlt; have := (hm m).z.1; have := hi.low; omega
    · exact hge
  have h2 : n ≤ n' := by
    rcases Nat.lt_or_ge n' n with hlt | hge
    · have := hi.up n' (by have := hi'.a1; have := hi'.ab; omega) hlt; have := (hm n').z.2; have := hi'.down; omega
    · exact hge
  have hs : ∀ j, j ≤ n - m → InS (runF g b (m + j)).x (fallT g c).x ∧ InS (runF g b (m + j)).y (fallT g c).y := by
    intro j hj
    have := hullF_in (runF g c) m' (n' - m') (m + j - m') (by have := hi.ab; omega)
    rw [show m' + (m + j - m') = m + j by omega, ← hi'.x, ← hi'.y] at this
    exact ⟨InS.tr (hm _).x this.1, InS.tr (hm _).y this.2⟩
  have := hullF_sub (n - m) hs
  rw [← hi.x, ← hi.y] at this
  refine ⟨this.1, this.2, ?_⟩
  rw [hi.at_, hi'.at_]
  have hat := h.at_
  unfold InS; dsimp only; omega

/-! ### lines -/
theorem fidx_lt {p : Nat → Bool} {n : Nat} : Tk.firstIdx p 0 n < 0 ↔ ∀ i, i < n → p i = false := by
  rcases Tk.firstIdx_of (p := p) (n := n) n 0 (by omega) with ⟨h, h1⟩ | ⟨i, _, h2, h3, h4, _⟩
  · rw [h]; exact ⟨fun _ i hi => h1 i (by omega) hi, fun _ => by omega⟩
  · rw [h3]; exact ⟨fun h => by omega, fun h => by rw [h i h2] at h4; cases h4⟩
theorem over_none {p : Plan} {x y : Span} : overI p x y < 0 ↔ ∀ l ∈ p.lines, mostL l x y ≤ l.line := by
  unfold overI
  rw [fidx_lt]
  constructor
  · intro h l hl
    obtain ⟨j, hj, e⟩ := List.getElem_of_mem hl
    have := h j hj
    rw [Plan.ln, List.getD_eq_getElem?_getD, List.getElem?_eq_getElem hj] at this
    simp only [Option.getD_some, decide_eq_false_iff_not] at this
    rw [← e]; omega
  · intro h i hi
    have hm : p.ln i ∈ p.lines := by
      rw [Plan.ln, List.getD_eq_getElem?_getD, List.getElem?_eq_getElem hi]; exact List.getElem_mem hi
    have := h _ hm
    simp only [decide_eq_false_iff_not]; omega

end Go.De

/- Layer 5: how far a path can be; with greater numbers no box becomes less. -/
set_option linter.all false
namespace Go.Tk
open Go.Vc

/-! ### one tick more -/
theorem tri_succ {m : Int} (hm : 0 ≤ m) : ((m + 1) * (m + 1 + 1)).tdiv 2 = (m * (m + 1)).tdiv 2 + (m + 1) := by
  have h0 : 0 ≤ m * (m + 1) := Int.mul_nonneg hm (by omega)
  have e : (m + 1) * (m + 1 + 1) = m * (m + 1) + (m + 1) * 2 := by rw [Int.mul_add (m + 1) (m + 1) 1, Int.add_mul m 1 (m + 1)]; omega
  rw [e, Int.tdiv_eq_ediv_of_nonneg (by omega), Int.tdiv_eq_ediv_of_nonneg h0, Int.add_mul_ediv_right _ _ (by decide)]
theorem reach_succ {t : Task} (ha : 1 ≤ t.accel) (hs : 0 ≤ t.speed) {n : Int} (hn : 0 ≤ n) : reachT t (n + 1) = reachT t n + min (t.accel * (n + 1)) t.speed := by
  have hq0 : 0 ≤ t.speed.tdiv t.accel := Int.tdiv_nonneg hs (by omega)
  have hqe : t.speed.tdiv t.accel = t.speed / t.accel := Int.tdiv_eq_ediv_of_nonneg hs
  have hd := Int.mul_ediv_add_emod t.speed t.accel
  have hm0 := Int.emod_nonneg t.speed (show t.accel ≠ 0 by omega)
  have hm1 := Int.emod_lt_of_pos t.speed (show 0 < t.accel by omega)
  by_cases h : n + 1 ≤ t.speed.tdiv t.accel
  · have e1 : capT t (n + 1) = n + 1 := by unfold capT; omega
    have e2 : capT t n = n := by unfold capT; omega
    rw [reachT, reachT, e1, e2, tri_succ hn, Int.mul_add, Int.sub_self, Int.sub_self, Int.zero_mul]
    have h1 := Int.mul_le_mul_of_nonneg_left h (show 0 ≤ t.accel by omega)
    rw [hqe] at h1
    omega
  · have e1 : capT t (n + 1) = t.speed.tdiv t.accel := by unfold capT; omega
    have e2 : capT t n = t.speed.tdiv t.accel := by unfold capT; omega
    have h1 := Int.mul_le_mul_of_nonneg_left (show t.speed / t.accel + 1 ≤ n + 1 by omega) (show 0 ≤ t.accel by omega)
    rw [Int.mul_add, Int.mul_one] at h1
    rw [reachT, reachT, e1, e2]
    have e3 : (n + 1 - t.speed.tdiv t.accel) * t.speed = (n - t.speed.tdiv t.accel) * t.speed + t.speed := by
      rw [show n + 1 - t.speed.tdiv t.accel = (n - t.speed.tdiv t.accel) + 1 by omega, Int.add_mul, Int.one_mul]
    rw [e3]
    omega
theorem reach_zero {t : Task} (hs : 0 ≤ t.speed) (ha : 0 ≤ t.accel) : reachT t 0 = 0 := by
  have hq0 : 0 ≤ t.speed.tdiv t.accel := Int.tdiv_nonneg hs ha
  have e : capT t 0 = 0 := by unfold capT; omega
  rw [reachT, e]; simp
theorem reach_mono {t t' : Task} (ha : 1 ≤ t.accel) (hs : 0 ≤ t.speed) (ha' : t.accel ≤ t'.accel) (hs' : t.speed ≤ t'.speed) {n : Int} (hn : 0 ≤ n) : reachT t n ≤ reachT t' n := by
  obtain ⟨k, rfl⟩ := Int.eq_ofNat_of_zero_le hn
  induction k with
  | zero => rw [show ((0 : Nat) : Int) = 0 from rfl, reach_zero hs (by omega), reach_zero (by omega) (by omega)]; exact Int.le_refl _
  | succ k ih =>
    have ih := ih (by omega)
    rw [show ((k + 1 : Nat) : Int) = (k : Int) + 1 by omega, reach_succ ha hs (by omega), reach_succ (by omega) (by omega) (by omega)]
    have := Int.mul_le_mul_of_nonneg_right ha' (show 0 ≤ (k : Int) + 1 by omega)
    omega

/-! ### greater numbers -/
def addW (a b : Int) : Int := IntKind.i64.wrap (a + b)
def looseTr (x : Tracker) (a b : Int) : Tracker := ⟨x.name, x.x, x.y, min 10000000 (addW x.error a), min 10000 (addW x.grow b), x.late⟩
def looseT (t : Task) (a b c d : Int) : Task := ⟨t.frm, min 1000000 (addW t.speed c), min 1000000 (addW t.accel d), t.trackers.map fun x => looseTr x a b, t.plots⟩
structure LooseT (t t' : Task) : Prop where
  frm : t'.frm = t.frm
  speed : t.speed ≤ t'.speed ∧ t'.speed ≤ 1000000
  accel : t.accel ≤ t'.accel ∧ t'.accel ≤ 1000000
  plots : t'.plots = t.plots
  len : t'.trackers.length = t.trackers.length
  tr : ∀ j, j < t.trackers.length → (t'.tr j).name = (t.tr j).name ∧ (t'.tr j).x = (t.tr j).x ∧ (t'.tr j).y = (t.tr j).y ∧ ((t.tr j).error ≤ (t'.tr j).error ∧ (t'.tr j).error ≤ 10000000) ∧ ((t.tr j).grow ≤ (t'.tr j).grow ∧ (t'.tr j).grow ≤ 10000) ∧ (t'.tr j).late = (t.tr j).late
section
variable {t t' : Task}
theorem LooseT.pl (h : LooseT t t') : Task.pl t' = Task.pl t := by funext i; rw [Task.pl, Task.pl, h.plots]
theorem any_congr {p q : Nat → Bool} {n : Nat} (h : ∀ i, i < n → p i = q i) : anyIdx p n = anyIdx q n := by
  unfold anyIdx
  induction n with
  | zero => rfl
  | succ n ih => rw [List.range_succ, List.any_append, List.any_append, ih (fun i hi => h i (by omega))]; simp [h n (by omega)]
theorem LooseT.good (h : LooseT t t') (hG : GoodT t) : GoodT t' := by
  obtain ⟨_, hs, ha⟩ := hG.nums
  refine ⟨⟨by rw [h.len]; exact hG.h1, by rw [h.plots]; exact hG.h2, by rw [h.frm]; exact hG.h3, oP_false.2 ⟨by have := h.speed; omega, h.speed.2⟩, oP_false.2 ⟨by have := h.accel; omega, h.accel.2⟩⟩, fun j hj => ?_, fun j hj => ?_⟩
  · rw [h.len] at hj
    obtain ⟨e1, e2, e3, e4, e5, e6⟩ := h.tr j hj
    obtain ⟨h1, h2, h3⟩ := errTr_zero (hG.tr j hj)
    refine errTr_ok (by rw [e1]; exact h1) ?_ ?_
    · rw [← h2]; unfold dupB
      exact any_congr fun i hi => by rw [e1, (h.tr i (by omega)).1]
    · simp only [trOut, Bool.or_eq_false_iff] at h3 ⊢
      obtain ⟨⟨⟨⟨a1, a2⟩, a3⟩, a4⟩, a5⟩ := h3
      have b3 := oP_in a3
      have b4 := oP_in a4
      exact ⟨⟨⟨⟨by rw [e2]; exact a1, by rw [e3]; exact a2⟩, oP_false.2 (by omega)⟩, oP_false.2 (by omega)⟩, by rw [e6]; exact a5⟩
  · rw [h.plots] at hj
    obtain ⟨h1, h2, h3⟩ := errPl_zero (hG.pl j hj)
    refine errPl_ok (by rw [h.pl, h.len]; exact h1) (by rw [h.pl]; simpa only [plOut, h.frm] using h2) ?_
    rw [← h3, h.pl]; unfold seenB; rw [h.pl]
theorem LooseT.of (h : LooseT t t') (hG : GoodT t) {j : Nat} (hj : j < t.plots.length) : t'.trOf j = t'.tr (t.pl j).tracker.toNat ∧ (t.pl j).tracker.toNat < t.trackers.length := by
  have p := hG.plot hj
  have := p.tr0; have := p.tr1
  exact ⟨by rw [Task.trOf, h.pl], by omega⟩
theorem LooseT.far (h : LooseT t t') (hG : GoodT t) {j : Nat} (hj : j < t.plots.length) : farT t' j = farT t j := by
  obtain ⟨e, hb⟩ := h.of hG hj
  obtain ⟨_, e2, e3, _⟩ := h.tr _ hb
  unfold farT
  rw [e, e2, e3, h.pl]; rfl
theorem LooseT.slack (h : LooseT t t') (hG : GoodT t) {j : Nat} (hj : j < t.plots.length) (u : Int) : slackT t u j ≤ slackT t' u j := by
  obtain ⟨e, hb⟩ := h.of hG hj
  obtain ⟨_, _, _, e4, e5, _⟩ := h.tr _ hb
  have hk := km_bnd hG hj
  have h1 := Int.mul_le_mul_of_nonneg_right e5.1 hk.1
  have h2 := Int.mul_le_mul_of_nonneg_right h.speed.1 (show 0 ≤ apartI (t.pl j).tick u by unfold apartI; omega)
  unfold slackT widthT
  rw [h.far hG hj, e, h.pl]
  show (t.tr (t.pl j).tracker.toNat).error + (t.tr (t.pl j).tracker.toNat).grow * _ + _ ≤ _
  omega
theorem LooseT.known (h : LooseT t t') (hG : GoodT t) (now : Int) {j : Nat} (hj : j < t.plots.length) : knownB t' now j = knownB t now j := by
  obtain ⟨e, hb⟩ := h.of hG hj
  obtain ⟨_, _, _, _, _, e6⟩ := h.tr _ hb
  rw [knownB, knownB, e, e6, h.pl]; rfl
theorem LooseT.binds (h : LooseT t t') (hG : GoodT t) (now : Int) (want : Int → Bool) : Binds t (byT t now want) t' (byT t' now want) := by
  obtain ⟨_, hs, ha⟩ := hG.nums
  refine ⟨h.frm.symm, h.speed.1, ⟨by omega, h.accel.1⟩, fun n hn => reach_mono (by omega) (by omega) h.accel.1 h.speed.1 hn, fun i hi => ?_⟩
  obtain ⟨h0, h1⟩ := byT_bnd i hi
  obtain ⟨j, rfl⟩ := Int.eq_ofNat_of_zero_le h0
  obtain ⟨hj, hk, hw⟩ := mem_byT.1 hi
  rw [h.plots] at hj
  rw [h.known hG now hj] at hk
  rw [h.pl] at hw
  refine ⟨j, mem_byT.2 ⟨hj, hk, hw⟩, fun k u => ?_⟩
  have := h.slack hG hj u
  simp only [plotS, aroundS, InS, Int.toNat_natCast, h.pl]
  omega
theorem boxT_at {ps : List Int} {u : Int} {b : Box} (h : boxT t ps u = some b) : b.at_ = u := by
  obtain ⟨_, _, _, _, _, _, rfl⟩ := boxT_parts h; rfl
theorem joinB_mono {a b c d : Box} (h : InB a c) (h' : InB b d) : InB (joinB a b) (joinB c d) := by
  obtain ⟨h0, h1, h2, h3, h4, h5, h6⟩ := h
  obtain ⟨_, g1, g2, g3, g4, g5, g6⟩ := h'
  refine ⟨h0, ?_, ?_, ?_, ?_, ?_, ?_⟩ <;> (simp only [InS, joinB, joinS] at *; omega)
theorem joinB_right {a b c : Box} (h : InB a c) (hat : b.at_ = a.at_) : InB a (joinB b c) := by
  obtain ⟨h0, h1, h2, h3, h4, h5, h6⟩ := h
  refine ⟨hat.symm, ?_, ?_, ?_, ?_, ?_, ?_⟩ <;> (simp only [InS, joinB, joinS] at *; omega)
theorem others_mono {u now : Int} (hb : ∀ want, ∀ b, boxT t (byT t now want) u = some b → ∃ b', boxT t' (byT t' now want) u = some b' ∧ InB b b') : ∀ n : Nat,
    (∀ s, foldB (othersV t' u now n) = some s → s.at_ = u) ∧ (∀ s, foldB (othersV t u now n) = some s → s.at_ = u ∧ ∃ s', foldB (othersV t' u now n) = some s' ∧ InB s s') := by
  intro n
  induction n with
  | zero => exact ⟨fun s h => by simp [othersV, foldB] at h, fun s h => by simp [othersV, foldB] at h⟩
  | succ n ih =>
    obtain ⟨ih1, ih2⟩ := ih
    have e : ((n : Int) + 1).toNat = n + 1 := by omega
    have e2 : ((n : Int)).toNat = n := by omega
    have yes : ∀ {t0 : Task} {b : Box}, boxT t0 (byT t0 now fun x => decide (x ≠ (n : Int))) u = some b → foldB (othersV t0 u now (n + 1)) = addB (foldB (othersV t0 u now n)) b := by
      intro t0 b h
      have := foldB_yes (t := t0) (u := u) (now := now) (k := (n : Int)) (by omega) h
      rwa [e, e2] at this
    have no : ∀ {t0 : Task}, boxT t0 (byT t0 now fun x => decide (x ≠ (n : Int))) u = none → foldB (othersV t0 u now (n + 1)) = foldB (othersV t0 u now n) := by
      intro t0 h
      have := foldB_no (t := t0) (u := u) (now := now) (k := (n : Int)) (by omega) h
      rwa [e, e2] at this
    constructor
    · intro s hs
      cases h : boxT t' (byT t' now fun x => decide (x ≠ (n : Int))) u with
      | none => rw [no h] at hs; exact ih1 s hs
      | some b =>
        rw [yes h] at hs
        cases hf : foldB (othersV t' u now n) with
        | none => rw [hf] at hs; cases hs; exact boxT_at h
        | some x => rw [hf] at hs; cases hs; exact ih1 x hf
    · intro s hs
      cases h : boxT t (byT t now fun x => decide (x ≠ (n : Int))) u with
      | some b =>
        obtain ⟨b', e', i⟩ := hb _ b h
        rw [yes h] at hs
        rw [yes e']
        cases hf : foldB (othersV t u now n) with
        | none =>
          rw [hf] at hs
          cases hs
          refine ⟨boxT_at h, ?_⟩
          cases hf' : foldB (othersV t' u now n) with
          | none => exact ⟨_, rfl, i⟩
          | some x' => exact ⟨_, rfl, joinB_right i (by rw [ih1 x' hf', boxT_at h])⟩
        | some x =>
          rw [hf] at hs
          cases hs
          obtain ⟨hx, x', ex, ix⟩ := ih2 x hf
          rw [ex]
          exact ⟨hx, _, rfl, joinB_mono ix i⟩
      | none =>
        rw [no h] at hs
        obtain ⟨hx, x', ex, ix⟩ := ih2 s hs
        refine ⟨hx, ?_⟩
        cases h' : boxT t' (byT t' now fun x => decide (x ≠ (n : Int))) u with
        | none => rw [no h']; exact ⟨x', ex, ix⟩
        | some b' => rw [yes h', ex]; exact ⟨_, rfl, joinB_in ix⟩
theorem LooseT.spare (h : LooseT t t') (hG : GoodT t) {u now : Int} {s : Box} (hs : spareT t u now = some s) : ∃ s', spareT t' u now = some s' ∧ InB s s' := by
  unfold spareT at hs ⊢
  rw [h.len]
  split at hs
  · rename_i h0
    rw [if_pos h0]
    exact box_mono (h.binds hG now _) hs
  · rename_i h0
    rw [if_neg h0]
    exact ((others_mono (t := t) (t' := t') (u := u) (now := now) (fun want b hb => box_mono (h.binds hG now want) hb) t.trackers.length).2 s hs).2
theorem looseT_loose (hG : GoodT t) {a b c d : Int} (ha : 0 ≤ a ∧ a ≤ 65535) (hb : 0 ≤ b ∧ b ≤ 65535) (hc : 0 ≤ c ∧ c ≤ 65535) (hd : 0 ≤ d ∧ d ≤ 65535) : LooseT t (looseT t a b c d) := by
  obtain ⟨_, hs, hac⟩ := hG.nums
  refine ⟨rfl, ?_, ?_, rfl, by simp [looseT], fun j hj => ?_⟩
  · show t.speed ≤ min 1000000 (addW t.speed c) ∧ min 1000000 (addW t.speed c) ≤ 1000000
    rw [addW, wrap_in (by unfold InI; omega)]; omega
  · show t.accel ≤ min 1000000 (addW t.accel d) ∧ min 1000000 (addW t.accel d) ≤ 1000000
    rw [addW, wrap_in (by unfold InI; omega)]; omega
  · have e : (looseT t a b c d).tr j = looseTr (t.tr j) a b := by
      rw [Task.tr, Task.tr, List.getD_eq_getElem?_getD, List.getD_eq_getElem?_getD]
      show ((t.trackers.map fun x => looseTr x a b)[j]?).getD trZ = _
      rw [List.getElem?_map, List.getElem?_eq_getElem hj]; rfl
    have q := hG.track hj
    obtain ⟨q1, q2, q3, q4, q5⟩ := q
    rw [e]
    refine ⟨rfl, rfl, rfl, ?_, ?_, rfl⟩
    · show (t.tr j).error ≤ min 10000000 (addW (t.tr j).error a) ∧ _
      rw [addW, wrap_in (by unfold InI; omega)]
      show _ ∧ min 10000000 (addW (t.tr j).error a) ≤ _
      omega
    · show (t.tr j).grow ≤ min 10000 (addW (t.tr j).grow b) ∧ _
      rw [addW, wrap_in (by unfold InI; omega)]
      show _ ∧ min 10000 (addW (t.tr j).grow b) ≤ _
      omega
/-- what TrackLooser asks -/
theorem loose_where {a b c d : Int} (ha : 0 ≤ a ∧ a ≤ 65535) (hb : 0 ≤ b ∧ b ≤ 65535) (hc : 0 ≤ c ∧ c ≤ 65535) (hd : 0 ≤ d ∧ d ≤ 65535) {u now : Int} (h : (whereP t u now).2 = 0) : (whereP (looseT t a b c d) u now).2 = 0 ∧ InB (whereP t u now).1 (whereP (looseT t a b c d) u now).1 := by
  obtain ⟨h0, hb0⟩ := whereP_2 h
  have hG := (asked_zero h0).1
  have hl := looseT_loose hG ha hb hc hd
  obtain ⟨b', e, i⟩ := box_mono (hl.binds hG now fun _ => true) hb0
  rw [whereP_some (asked_good (hl.good hG) (asked_any0 h0)) e]
  exact ⟨rfl, i⟩
theorem loose_spare {a b c d : Int} (ha : 0 ≤ a ∧ a ≤ 65535) (hb : 0 ≤ b ∧ b ≤ 65535) (hc : 0 ≤ c ∧ c ≤ 65535) (hd : 0 ≤ d ∧ d ≤ 65535) {u now : Int} (h : (spareP t u now).2 = 0) : (spareP (looseT t a b c d) u now).2 = 0 ∧ InB (spareP t u now).1 (spareP (looseT t a b c d) u now).1 := by
  obtain ⟨h0, hb0⟩ := spareP_ok h
  have hG := (asked_zero h0).1
  have hl := looseT_loose hG ha hb hc hd
  obtain ⟨b', e, i⟩ := hl.spare hG hb0
  rw [spareP_some (asked_good (hl.good hG) (asked_any0 h0)) e]
  exact ⟨rfl, i⟩
end

/-! ### the trackers, one by one -/
def looseL (l : List Tracker) (a b : Int) (n : Nat) : List Tracker := (l.take n).map (fun x => looseTr x a b) ++ l.drop n
theorem looseL_len {l : List Tracker} {a b : Int} (n : Nat) : (looseL l a b n).length = l.length := by simp [looseL]; omega
theorem looseL_end {l : List Tracker} {a b : Int} : looseL l a b l.length = l.map fun x => looseTr x a b := by simp [looseL]
theorem trackers_set : ∀ (l : List Tracker) (i : Nat) (x : Tracker) (e g : Int), l[i]? = some x →
    ((l.set i ⟨x.name, x.x, x.y, e, g, x.late⟩).map Tracker.cells).flatten = (((l.map Tracker.cells).flatten.set (0 + i * 6 + 3) (.int .i64 e)).set (0 + i * 6 + 4) (.int .i64 g)) := by
  intro l
  induction l with
  | nil => intro i x e g h; simp at h
  | cons p l ih =>
    intro i x e g h
    cases i with
    | zero => simp only [List.getElem?_cons_zero, Option.some.injEq] at h; subst h; rfl
    | succ i =>
      have := ih i x e g (by simpa using h)
      have e3 : 0 + (i + 1) * 6 + 3 = (0 + i * 6 + 3) + 1 + 1 + 1 + 1 + 1 + 1 := by omega
      have e4 : 0 + (i + 1) * 6 + 4 = (0 + i * 6 + 4) + 1 + 1 + 1 + 1 + 1 + 1 := by omega
      rw [e3, e4]
      show p.cells ++ ((l.set i _).map Tracker.cells).flatten = _
      rw [this]; rfl
theorem looseL_succ {l : List Tracker} {a b : Int} {n : Nat} (h : n < l.length) : (looseL l a b n)[n]? = some (l.getD n trZ) ∧ looseL l a b (n + 1) = (looseL l a b n).set n (looseTr (l.getD n trZ) a b) := by
  have hg : l.getD n trZ = l[n] := by rw [List.getD_eq_getElem?_getD, List.getElem?_eq_getElem h]; rfl
  have ht : ((l.take n).map fun x => looseTr x a b).length = n := by simp; omega
  rw [hg]
  constructor
  · rw [looseL, List.getElem?_append_right (by omega), ht, Nat.sub_self, List.getElem?_drop, Nat.add_zero, List.getElem?_eq_getElem h]
  · have hd : l.drop n = l[n] :: l.drop (n + 1) := List.drop_eq_getElem_cons h
    rw [looseL, looseL, List.set_append_right _ _ (by omega), ht, Nat.sub_self, hd, List.set_cons_zero, List.take_succ_eq_append_getElem h, List.map_append, List.append_assoc]
    rfl
theorem TaskR.loose {w : World} {t : Task} {a b c d : Int} {tv pv tv' : Value} (h : TaskR w (.agg #[.int .i64 t.frm, .int .i64 t.speed, .int .i64 t.accel, tv, pv]) t) (hs : SliceR w 6 tv' ((t.trackers.map fun x => looseTr x a b).map Tracker.cells)) :
    TaskR w (.agg #[.int .i64 t.frm, .int .i64 (min 1000000 (addW t.speed c)), .int .i64 (min 1000000 (addW t.accel d)), tv', pv]) (looseT t a b c d) :=
  ⟨fun x hx => by obtain ⟨y, hy, rfl⟩ := List.mem_map.1 (show x ∈ t.trackers.map fun x => looseTr x a b from hx); exact h.names y hy, by show ((t.trackers.map fun x => looseTr x a b).length : Int) ≤ _; rw [List.length_map]; exact h.ltr, h.lpl, tv', pv, rfl, hs, h.lit.2.2.2.2⟩
theorem Grow.loose {el n c : Nat} {b : Nat} {cur : Array Value} {l : List Tracker} {k : Nat} {p q : Int} (h1 : n ≤ c) (h2 : c ≤ maxLen) (h3 : cur.size = c * 6) (h4 : cur.toList.take (n * 6) = ((looseL l p q k).map Tracker.cells).flatten) (hn : n = l.length) (hk : k < l.length) :
    Grow el 6 (.slice (some ⟨b, 0, none⟩) n c) n ((looseL l p q (k + 1)).map Tracker.cells).flatten
      [(b, .cells ((cur.toList.set (0 + k * 6 + 3) (.int .i64 (min 10000000 (addW (l.getD k trZ).error p)))).set (0 + k * 6 + 4) (.int .i64 (min 10000 (addW (l.getD k trZ).grow q)))).toArray el)] := by
  obtain ⟨e1, e2⟩ := looseL_succ (a := p) (b := q) hk
  have e3 := trackers_set (looseL l p q k) k _ (min 10000000 (addW (l.getD k trZ).error p)) (min 10000 (addW (l.getD k trZ).grow q)) e1
  refine .row h1 h2 (by simp [h3]) ?_ (by rw [tr_flat_len, looseL_len, hn])
  rw [e2]
  show _ = ((List.set _ k ⟨_, _, _, _, _, _⟩).map Tracker.cells).flatten
  rw [← h4] at e3
  simp only [List.take_set]
  exact e3.symm
end Go.Tk

/- Layer 5: paths. -/
set_option linter.all false
namespace Go.Tk
open Go.Vc

structure PathM where
  push : Nat → List Int
  wrong : List Int
def part127 (a x : Int) : Int := (a * max (-127) x).tdiv 127
def accT (t : Task) (p : PathM) (k i : Nat) : Int := if (p.push k).length = 0 then 0 else part127 t.accel ((p.push k).getD (i % (p.push k).length) 0)
def velT (t : Task) (p : PathM) (k : Nat) : Nat → Int
  | 0 => 0
  | n + 1 => max (-t.speed) (min t.speed (velT t p k n + accT t p k n))
def posT (t : Task) (p : PathM) (k : Nat) : Nat → Int
  | 0 => 0
  | n + 1 => posT t p k n + velT t p k (n + 1)
def I8 (l : List Int) : Prop := ∀ x ∈ l, -128 ≤ x ∧ x ≤ 127
structure PathM.ok (p : PathM) : Prop where
  push : ∀ k, I8 (p.push k)
  wrong : I8 p.wrong
def SmallP (t : Task) (p : PathM) (n : Nat) : Prop := ∀ m, m ≤ n → ∀ k, k < 3 → -2000000000 ≤ posT t p k m ∧ posT t p k m ≤ 2000000000

theorem I8.getD {l : List Int} (h : I8 l) (i : Nat) : -128 ≤ l.getD i 0 ∧ l.getD i 0 ≤ 127 := by
  by_cases hi : i < l.length
  · exact h _ (getD_mem hi)
  · rw [List.getD_eq_getElem?_getD, List.getElem?_eq_none (by omega)]; decide
theorem part127_abs {a x : Int} (ha : 0 ≤ a) (hx : x ≤ 127) : -a ≤ part127 a x ∧ part127 a x ≤ a := by
  unfold part127
  have h1 : a * max (-127) x ≤ a * 127 := Int.mul_le_mul_of_nonneg_left (by omega) ha
  have h2 : a * (-127) ≤ a * max (-127) x := Int.mul_le_mul_of_nonneg_left (by omega) ha
  have e1 : (a * 127).tdiv 127 = a := Int.mul_tdiv_cancel a (by decide)
  have e2 : (a * (-127)).tdiv 127 = -a := by rw [Int.mul_neg, Int.neg_tdiv, e1]
  have g1 := Int.tdiv_le_tdiv (show (0 : Int) < 127 by decide) h1
  have g2 := Int.tdiv_le_tdiv (show (0 : Int) < 127 by decide) h2
  rw [e1] at g1
  rw [e2] at g2
  exact ⟨g2, g1⟩
section
variable {t : Task} {p : PathM}
theorem acc_abs (hp : p.ok) (ha : 0 ≤ t.accel) (k i : Nat) : -t.accel ≤ accT t p k i ∧ accT t p k i ≤ t.accel := by
  unfold accT
  split
  · omega
  · exact part127_abs ha ((hp.push k).getD _).2
theorem vel_abs (hs : 0 ≤ t.speed) (k n : Nat) : -t.speed ≤ velT t p k n ∧ velT t p k n ≤ t.speed := by
  cases n with
  | zero => simp only [velT]; omega
  | succ n => simp only [velT]; omega
theorem vel_step (hp : p.ok) (hs : 0 ≤ t.speed) (ha : 0 ≤ t.accel) (k n : Nat) : -t.accel ≤ velT t p k (n + 1) - velT t p k n ∧ velT t p k (n + 1) - velT t p k n ≤ t.accel := by
  have h1 := vel_abs (p := p) hs k n
  have h2 := acc_abs hp ha k n
  simp only [velT]; omega
theorem vel_acc (hp : p.ok) (hs : 0 ≤ t.speed) (ha : 0 ≤ t.accel) (k : Nat) : ∀ n : Nat, -(t.accel * n) ≤ velT t p k n ∧ velT t p k n ≤ t.accel * n := by
  intro n
  induction n with
  | zero => simp [velT]
  | succ n ih =>
    have h := vel_step hp hs ha k n
    have e : t.accel * ((n + 1 : Nat) : Int) = t.accel * n + t.accel := by rw [show ((n + 1 : Nat) : Int) = (n : Int) + 1 by omega, Int.mul_add, Int.mul_one]
    omega
theorem pos_reach (hp : p.ok) (hs : 0 ≤ t.speed) (ha : 1 ≤ t.accel) (k : Nat) : ∀ n : Nat, -(reachT t n) ≤ posT t p k n ∧ posT t p k n ≤ reachT t n := by
  intro n
  induction n with
  | zero => rw [show ((0 : Nat) : Int) = 0 from rfl, reach_zero hs (by omega)]; simp [posT]
  | succ n ih =>
    rw [show ((n + 1 : Nat) : Int) = (n : Int) + 1 by omega, reach_succ ha hs (by omega)]
    have h1 := vel_abs (p := p) hs k (n + 1)
    have h2 := vel_acc hp hs (by omega) k (n + 1)
    have e : (((n + 1 : Nat) : Int)) = (n : Int) + 1 := by omega
    rw [e] at h2
    simp only [posT]; omega

/-! ### by ticks -/
def atP (t : Task) (p : PathM) (k : Nat) (u : Int) : Int := if u < t.frm then 0 else posT t p k (u - t.frm).toNat
def atV (t : Task) (p : PathM) (k : Nat) (u : Int) : Int := if u < t.frm then 0 else velT t p k ((u - t.frm).toNat + 1)
theorem atP_succ (k : Nat) (u : Int) : atP t p k (u + 1) = atP t p k u + atV t p k u := by
  unfold atP atV
  by_cases h : u < t.frm
  · rw [if_pos h, if_pos h]
    split
    · rfl
    · have e : (u + 1 - t.frm).toNat = 0 := by omega
      rw [e]; rfl
  · rw [if_neg h, if_neg h, if_neg (by omega)]
    have e : (u + 1 - t.frm).toNat = (u - t.frm).toNat + 1 := by omega
    rw [e]; rfl
theorem atV_abs (hs : 0 ≤ t.speed) (k : Nat) (u : Int) : -t.speed ≤ atV t p k u ∧ atV t p k u ≤ t.speed := by
  unfold atV; split
  · omega
  · exact vel_abs hs k _
theorem atV_step (hp : p.ok) (hs : 0 ≤ t.speed) (ha : 0 ≤ t.accel) (k : Nat) (u : Int) : -t.accel ≤ atV t p k (u + 1) - atV t p k u ∧ atV t p k (u + 1) - atV t p k u ≤ t.accel := by
  unfold atV
  by_cases h : u < t.frm
  · rw [if_pos h]
    split
    · omega
    · have e : (u + 1 - t.frm).toNat = 0 := by omega
      have := vel_step hp hs ha k 0
      rw [e]
      simp only [velT] at this ⊢
      omega
  · rw [if_neg h, if_neg (by omega)]
    have e : (u + 1 - t.frm).toNat = (u - t.frm).toNat + 1 := by omega
    rw [e]
    exact vel_step hp hs ha k _
theorem atV_lip (hp : p.ok) (hs : 0 ≤ t.speed) (ha : 0 ≤ t.accel) (k : Nat) (u : Int) : ∀ j : Nat, -(t.accel * j) ≤ atV t p k (u + j) - atV t p k u ∧ atV t p k (u + j) - atV t p k u ≤ t.accel * j := by
  intro j
  induction j with
  | zero => simp
  | succ j ih =>
    have h := atV_step hp hs ha k (u + j)
    have e : t.accel * ((j + 1 : Nat) : Int) = t.accel * j + t.accel := by rw [show ((j + 1 : Nat) : Int) = (j : Int) + 1 by omega, Int.mul_add, Int.mul_one]
    rw [show u + ((j + 1 : Nat) : Int) = u + j + 1 by omega]
    omega
theorem atV_start (hp : p.ok) (hs : 0 ≤ t.speed) (ha : 0 ≤ t.accel) (k : Nat) {u : Int} (hu : t.frm ≤ u) : -(t.accel * (u - t.frm + 1)) ≤ atV t p k u ∧ atV t p k u ≤ t.accel * (u - t.frm + 1) := by
  unfold atV
  rw [if_neg (by omega)]
  have := vel_acc hp hs ha k ((u - t.frm).toNat + 1)
  rw [show (((u - t.frm).toNat + 1 : Nat) : Int) = u - t.frm + 1 by omega] at this
  exact this
theorem atP_lip (hs : 0 ≤ t.speed) (k : Nat) (u : Int) : ∀ j : Nat, -(t.speed * j) ≤ atP t p k (u + j) - atP t p k u ∧ atP t p k (u + j) - atP t p k u ≤ t.speed * j := by
  intro j
  induction j with
  | zero => simp
  | succ j ih =>
    have h := atV_abs (p := p) hs k (u + j)
    have h2 := atP_succ (t := t) (p := p) k (u + j)
    have e : t.speed * ((j + 1 : Nat) : Int) = t.speed * j + t.speed := by rw [show ((j + 1 : Nat) : Int) = (j : Int) + 1 by omega, Int.mul_add, Int.mul_one]
    rw [show u + ((j + 1 : Nat) : Int) = u + j + 1 by omega]
    omega
theorem atP_apart (hs : 0 ≤ t.speed) (k : Nat) (u v : Int) : atP t p k u - atP t p k v ≤ t.speed * apartI v u ∧ atP t p k v - atP t p k u ≤ t.speed * apartI v u := by
  rcases Int.le_total u v with h | h
  · have := atP_lip (p := p) hs k u (v - u).toNat
    rw [show u + ((v - u).toNat : Int) = v by omega, show (((v - u).toNat : Nat) : Int) = apartI v u by unfold apartI; omega] at this
    omega
  · have := atP_lip (p := p) hs k v (u - v).toNat
    rw [show v + ((u - v).toNat : Int) = u by omega, show (((u - v).toNat : Nat) : Int) = apartI v u by unfold apartI; omega] at this
    omega
def tri : Nat → Int
  | 0 => 0
  | n + 1 => tri n + n
theorem mul_tri (a : Int) (n : Nat) : a * tri (n + 1) = a * tri n + a * n := by rw [tri, Int.mul_add]
theorem atP_fwd (hp : p.ok) (hs : 0 ≤ t.speed) (ha : 0 ≤ t.accel) (k : Nat) (u : Int) : ∀ j : Nat, -(t.accel * tri j) ≤ atP t p k (u + j) - atP t p k u - j * atV t p k u ∧ atP t p k (u + j) - atP t p k u - j * atV t p k u ≤ t.accel * tri j := by
  intro j
  induction j with
  | zero => simp [tri]
  | succ j ih =>
    have h := atV_lip hp hs ha k u j
    have h2 := atP_succ (t := t) (p := p) k (u + j)
    rw [mul_tri, show u + ((j + 1 : Nat) : Int) = u + j + 1 by omega, show ((j + 1 : Nat) : Int) = (j : Int) + 1 by omega, Int.add_mul, Int.one_mul]
    omega
theorem atP_back (hp : p.ok) (hs : 0 ≤ t.speed) (ha : 0 ≤ t.accel) (k : Nat) (u : Int) : ∀ j : Nat, -(t.accel * tri (j + 1)) ≤ atP t p k u - atP t p k (u - j) - j * atV t p k u ∧ atP t p k u - atP t p k (u - j) - j * atV t p k u ≤ t.accel * tri (j + 1) := by
  intro j
  induction j with
  | zero => simp [tri]
  | succ j ih =>
    have h := atV_lip hp hs ha k (u - (j + 1)) (j + 1)
    rw [show u - (j + 1) + ((j + 1 : Nat) : Int) = u by omega, show ((j + 1 : Nat) : Int) = (j : Int) + 1 by omega] at h
    have h2 := atP_succ (t := t) (p := p) k (u - (j + 1))
    rw [show u - ((j : Int) + 1) + 1 = u - j by omega] at h2
    rw [mul_tri, show ((j + 1 : Nat) : Int) = (j : Int) + 1 by omega, Int.add_mul, Int.one_mul]
    omega
theorem tri_F : ∀ j : Nat, j ≤ 8 → ((j : Int) * ((j : Int) - 1)).tdiv 2 = tri j ∧ ((j : Int) * ((j : Int) + 1)).tdiv 2 = tri (j + 1) := by decide

/-! ### what a path's plots leave -/
def InI3 (s : Span) (x : Int) : Prop := s.lo ≤ x ∧ x ≤ s.hi
theorem InI3.none {s : Span} {x : Int} (h : InI3 s x) : s.none = false := by
  simp only [Span.none, decide_eq_false_iff_not]; unfold InI3 at h; omega
/-- all of some plots tell the path, within their errors -/
def TellS (t : Task) (p : PathM) (ps : List Int) : Prop := ∀ i ∈ ps, (0 ≤ i ∧ i < t.plots.length) ∧ (t.pl i.toNat).tick - t.frm ≤ 592 ∧ ∀ k : Nat, k < 3 → partI (t.pl i.toNat) k - atP t p k (t.pl i.toNat).tick ≤ (t.trOf i.toNat).error ∧ atP t p k (t.pl i.toNat).tick - partI (t.pl i.toNat) k ≤ (t.trOf i.toNat).error
variable {ps : List Int}
theorem place_in (hG : GoodT t) (hp : p.ok) (hsm : SmallP t p 601) (hT : TellS t p ps) {k : Nat} (hk : k < 3) {v : Int} (hv : v - t.frm ≤ 601) : InI3 (placeT t ps k v) (atP t p k v) := by
  obtain ⟨hf, hs, ha⟩ := hG.nums
  unfold placeT
  split
  · rename_i h
    have key : InS ⟨atP t p k v, atP t p k v⟩ (placeN t ps k v) := by
      refine fold_out _ _ ?_ fun i hi => ?_
      · have h1 := pos_reach hp (show 0 ≤ t.speed by omega) (show 1 ≤ t.accel by omega) k (v - t.frm).toNat
        have h2 := hsm (v - t.frm).toNat (by omega) k hk
        rw [show (((v - t.frm).toNat : Nat) : Int) = v - t.frm by omega] at h1
        simp only [InS, room0, atP, if_neg (show ¬ v < t.frm by omega)]
        omega
      · obtain ⟨⟨i0, i1⟩, _, he⟩ := hT i hi
        have h1 := he k hk
        have h2 := atP_apart (p := p) (show 0 ≤ t.speed by omega) k v (t.pl i.toNat).tick
        have h3 := grow_bnd hG (i := i.toNat) (by omega)
        simp only [InS, plotS, aroundS, slackT, widthT]
        omega
    exact key
  · rename_i h
    unfold InI3 atP
    split
    · exact ⟨Int.le_refl _, Int.le_refl _⟩
    · have e : (v - t.frm).toNat = 0 := by omega
      rw [e]; exact ⟨Int.le_refl _, Int.le_refl _⟩
theorem gone_in {s : Span} {lo hi j x : Int} (hj : 0 < j) (hs : InI3 s x) (h1 : lo ≤ j * x) (h2 : j * x ≤ hi) : InI3 (goneS s lo hi j) x := by
  have a1 : x ≤ hi / j := Int.le_ediv_of_mul_le hj (by rw [Int.mul_comm]; exact h2)
  have a2 : -x ≤ (-lo) / j := Int.le_ediv_of_mul_le hj (by rw [Int.neg_mul, Int.mul_comm]; omega)
  unfold InI3 at hs ⊢
  simp only [goneS]; omega
theorem fastN_in (hG : GoodT t) (hp : p.ok) (hsm : SmallP t p 601) (hT : TellS t p ps) {k : Nat} (hk : k < 3) {u : Int} (hu : t.frm ≤ u) (hn : u - t.frm ≤ 592) : ∀ n : Nat, n ≤ 8 → ∃ s, fastN t ps k u n = some s ∧ InI3 s (atV t p k u) := by
  obtain ⟨hf, hs, ha⟩ := hG.nums
  intro n
  induction n with
  | zero =>
    intro _
    refine ⟨_, rfl, ?_⟩
    have h1 := atV_abs (p := p) (show 0 ≤ t.speed by omega) k u
    have h2 := atV_start hp (by omega) (by omega) k hu
    simp only [InI3, room0]; omega
  | succ n ih =>
    intro hn8
    obtain ⟨s, es, is⟩ := ih (by omega)
    have h0 := place_in hG hp hsm hT hk (v := u) (by omega)
    obtain ⟨eF, eB⟩ := tri_F (n + 1) hn8
    rw [show ((n + 1 : Nat) : Int) = (n : Int) + 1 by omega] at eF eB
    have hB : ∃ s1, fastB t ps k u ((n : Int) + 1) s = some s1 ∧ InI3 s1 (atV t p k u) := by
      by_cases h : t.frm ≤ u - ((n : Int) + 1)
      · have h1 := place_in hG hp hsm hT hk (v := u - ((n : Int) + 1)) (by omega)
        rw [fastB_go h h1.none]
        refine ⟨_, rfl, ?_⟩
        have hb := atP_back hp (show 0 ≤ t.speed by omega) (show 0 ≤ t.accel by omega) k u (n + 1)
        rw [show ((n + 1 : Nat) : Int) = (n : Int) + 1 by omega] at hb
        unfold InI3 at h0 h1
        refine gone_in (by omega) is ?_ ?_ <;> (unfold moreB; rw [eB]; omega)
      · rw [fastB_skip h]; exact ⟨_, rfl, is⟩
    obtain ⟨s1, e1, i1⟩ := hB
    have hF : ∃ s2, fastF t ps k u ((n : Int) + 1) s1 = some s2 ∧ InI3 s2 (atV t p k u) := by
      by_cases h : u + ((n : Int) + 1) ≤ 100000
      · have h1 := place_in hG hp hsm hT hk (v := u + ((n : Int) + 1)) (by omega)
        rw [fastF_go h h1.none]
        refine ⟨_, rfl, ?_⟩
        have hb := atP_fwd hp (show 0 ≤ t.speed by omega) (show 0 ≤ t.accel by omega) k u (n + 1)
        rw [show ((n + 1 : Nat) : Int) = (n : Int) + 1 by omega] at hb
        unfold InI3 at h0 h1
        refine gone_in (by omega) i1 ?_ ?_ <;> (unfold moreF; rw [eF]; omega)
      · rw [fastF_skip h]; exact ⟨_, rfl, i1⟩
    obtain ⟨s2, e2, i2⟩ := hF
    refine ⟨s2, ?_, i2⟩
    simp only [fastN]
    rw [es, Option.bind_some, e1, Option.bind_some, e2]
theorem part_in (hG : GoodT t) (hp : p.ok) (hsm : SmallP t p 601) (hT : TellS t p ps) {k : Nat} (hk : k < 3) {u : Int} (hn : u - t.frm ≤ 592) : ∃ v, partT t ps k u = some (placeT t ps k u, v) ∧ InI3 (placeT t ps k u) (atP t p k u) ∧ InI3 v (atV t p k u) := by
  have h0 := place_in hG hp hsm hT hk (v := u) (by omega)
  have hf : ∃ v, fastT t ps k u = some v ∧ InI3 v (atV t p k u) := by
    by_cases h : u < t.frm
    · unfold fastT; rw [if_pos h]
      exact ⟨_, rfl, by unfold atV; rw [if_pos h]; exact ⟨Int.le_refl _, Int.le_refl _⟩⟩
    · obtain ⟨s, es, is⟩ := fastN_in hG hp hsm hT hk (u := u) (by omega) hn 8 (Nat.le_refl _)
      rw [fastT_end (by omega) es, if_neg (by rw [is.none]; decide)]
      exact ⟨_, rfl, is⟩
  obtain ⟨v, ev, iv⟩ := hf
  exact ⟨v, partT_some ev h0.none, h0, iv⟩
structure HasB (b : Box) (f g : Nat → Int) : Prop where
  x : InI3 b.x (f 0)
  y : InI3 b.y (f 1)
  z : InI3 b.z (f 2)
  vx : InI3 b.vx (g 0)
  vy : InI3 b.vy (g 1)
  vz : InI3 b.vz (g 2)
theorem HasB.mono {a b : Box} {f g : Nat → Int} (h : HasB a f g) (i : InB a b) : HasB b f g := by
  obtain ⟨h1, h2, h3, h4, h5, h6⟩ := h
  obtain ⟨_, i1, i2, i3, i4, i5, i6⟩ := i
  refine ⟨?_, ?_, ?_, ?_, ?_, ?_⟩ <;> (simp only [InI3, InS] at *; omega)
theorem box_in (hG : GoodT t) (hp : p.ok) (hsm : SmallP t p 601) (hT : TellS t p ps) {u : Int} (hn : u - t.frm ≤ 592) : ∃ b, boxT t ps u = some b ∧ HasB b (fun k => atP t p k u) (fun k => atV t p k u) := by
  obtain ⟨v0, e0, p0, q0⟩ := part_in hG hp hsm hT (k := 0) (by decide) hn
  obtain ⟨v1, e1, p1, q1⟩ := part_in hG hp hsm hT (k := 1) (by decide) hn
  obtain ⟨v2, e2, p2, q2⟩ := part_in hG hp hsm hT (k := 2) (by decide) hn
  exact ⟨_, boxT_3 e0 e1 e2, p0, p1, p2, q0, q1, q2⟩
theorem others_at {u now : Int} {n : Nat} : ∀ q ∈ othersV t u now n, q.2.at_ = u := by
  intro q hq
  rw [othersV, List.mem_filterMap] at hq
  obtain ⟨i, _, h⟩ := hq
  cases hb : boxT t (byT t now fun x => decide (x ≠ (i : Int))) u with
  | none => rw [hb] at h; cases h
  | some b => rw [hb] at h; cases h; exact boxT_at hb
theorem foldl_mem {u : Int} : ∀ (l : List (Int × Box)) (acc : Option Box), (∀ q ∈ l, q.2.at_ = u) → (∀ b, acc = some b → b.at_ = u) → ∀ a : Box, (acc = some a ∨ ∃ q ∈ l, q.2 = a) → ∃ s, l.foldl (fun acc p => addB acc p.2) acc = some s ∧ InB a s := by
  intro l
  induction l with
  | nil =>
    intro acc _ _ a h
    rcases h with h | ⟨q, hq, _⟩
    · exact ⟨a, h, InB.refl a⟩
    · cases hq
  | cons q l ih =>
    intro acc hl hacc a h
    simp only [List.foldl_cons]
    have hq := hl q (.head _)
    have hl' : ∀ r ∈ l, r.2.at_ = u := fun r hr => hl r (.tail _ hr)
    have hat : ∀ b, addB acc q.2 = some b → b.at_ = u := by
      intro b hb
      cases acc with
      | none => cases hb; exact hq
      | some x => cases hb; exact hacc x rfl
    have step : (∃ c, addB acc q.2 = some c ∧ InB a c) ∨ ∃ r ∈ l, r.2 = a := by
      rcases h with h | ⟨r, hr, hra⟩
      · subst h; exact .inl ⟨_, rfl, joinB_in (InB.refl a)⟩
      · rcases List.mem_cons.1 hr with rfl | hr
        · subst hra
          cases acc with
          | none => exact .inl ⟨_, rfl, InB.refl _⟩
          | some x => exact .inl ⟨_, rfl, joinB_right (InB.refl _) (by rw [hacc x rfl, hq])⟩
        · exact .inr ⟨r, hr, hra⟩
    rcases step with ⟨c, hc, ic⟩ | h2
    · obtain ⟨s, hs, is⟩ := ih (addB acc q.2) hl' hat c (.inl hc)
      exact ⟨s, hs, ic.trans is⟩
    · exact ih (addB acc q.2) hl' hat a (.inr h2)

/-! ### a task in which a path is told -/
def wrongT (t : Task) (p : PathM) (i k : Nat) : Int := if p.wrong.length = 0 then 0 else part127 (t.trOf i).error (p.wrong.getD ((3 * i + k) % p.wrong.length) 0)
def tellPl (t : Task) (p : PathM) (i : Nat) : Plot := ⟨(t.pl i).tracker, (t.pl i).tick, atP t p 0 (t.pl i).tick + wrongT t p i 0, atP t p 1 (t.pl i).tick + wrongT t p i 1, atP t p 2 (t.pl i).tick + wrongT t p i 2⟩
def tellL (t : Task) (p : PathM) (but : Int) (n : Nat) : List Plot := (List.range t.plots.length).map fun j => if j < n ∧ (t.pl j).tracker ≠ but then tellPl t p j else t.pl j
def tellT (t : Task) (p : PathM) (but : Int) : Task := ⟨t.frm, t.speed, t.accel, t.trackers, tellL t p but t.plots.length⟩
variable {but : Int}
theorem tellL_len (n : Nat) : (tellL t p but n).length = t.plots.length := by simp [tellL]
theorem tellL_zero : tellL t p but 0 = t.plots := by
  refine List.ext_getElem (by rw [tellL_len]) fun i h1 h2 => ?_
  simp [tellL, Task.pl, List.getD_eq_getElem?_getD, List.getElem?_eq_getElem h2]
theorem tellL_no {k : Int} (hk : 0 ≤ k) (h : (t.pl k.toNat).tracker = but) : tellL t p but (k + 1).toNat = tellL t p but k.toNat := by
  unfold tellL
  refine List.map_congr_left fun j _ => ?_
  have e : (k + 1).toNat = k.toNat + 1 := by omega
  rw [e]
  by_cases hj : j = k.toNat
  · subst hj; rw [if_neg (fun hh => hh.2 h), if_neg (fun hh => hh.2 h)]
  · by_cases hl : j < k.toNat ∧ (t.pl j).tracker ≠ but
    · rw [if_pos hl, if_pos ⟨by omega, hl.2⟩]
    · rw [if_neg hl, if_neg (fun hh => hl ⟨by omega, hh.2⟩)]
theorem tellL_yes {k : Int} (hk : 0 ≤ k) (hl : k < t.plots.length) (h : (t.pl k.toNat).tracker ≠ but) :
    tellL t p but (k + 1).toNat = (tellL t p but k.toNat).set k.toNat (tellPl t p k.toNat) := by
  have e : (k + 1).toNat = k.toNat + 1 := by omega
  refine List.ext_getElem (by rw [List.length_set, tellL_len, tellL_len]) fun j h1 h2 => ?_
  rw [List.getElem_set]
  simp only [tellL, List.getElem_map, List.getElem_range, e]
  by_cases hj : k.toNat = j
  · subst hj; rw [if_pos rfl, if_pos ⟨by omega, h⟩]
  · rw [if_neg hj]
    by_cases hh : j < k.toNat ∧ (t.pl j).tracker ≠ but
    · rw [if_pos hh, if_pos ⟨by omega, hh.2⟩]
    · rw [if_neg hh, if_neg (fun x => hh ⟨by omega, x.2⟩)]
theorem tellL_at {k : Int} (hk : 0 ≤ k) (hl : k < t.plots.length) : (tellL t p but k.toNat).getD k.toNat plZ = t.pl k.toNat := by
  rw [List.getD_eq_getElem?_getD, List.getElem?_eq_getElem (by rw [tellL_len]; omega)]
  simp only [tellL, List.getElem_map, List.getElem_range, Option.getD_some]
  rw [if_neg (fun hh => Nat.lt_irrefl _ hh.1)]
theorem tellT_pl {j : Nat} (hj : j < t.plots.length) : (tellT t p but).pl j = if (t.pl j).tracker ≠ but then tellPl t p j else t.pl j := by
  rw [Task.pl, List.getD_eq_getElem?_getD, List.getElem?_eq_getElem (show j < (tellT t p but).plots.length by show j < (tellL _ _ _ _).length; rw [tellL_len]; exact hj)]
  simp [tellT, tellL, hj]
/-- all plots that are told have a tick that is looked at -/
def SpotsT (t : Task) (but : Int) : Prop := ∀ j : Nat, j < t.plots.length → (t.pl j).tracker ≠ but → (t.pl j).tick - t.frm ≤ 592
theorem wrong_abs (hG : GoodT t) (hp : p.ok) {i : Nat} (hi : i < t.plots.length) (k : Nat) : -(t.trOf i).error ≤ wrongT t p i k ∧ wrongT t p i k ≤ (t.trOf i).error := by
  have q := hG.of hi
  have h0 : 0 ≤ (t.trOf i).error := by obtain ⟨_, _, q3, _⟩ := q; omega
  unfold wrongT
  split
  · omega
  · exact part127_abs h0 (hp.wrong.getD _).2
theorem tell_tells (hG : GoodT t) (hp : p.ok) (hsp : SpotsT t but) {now : Int} {want : Int → Bool} (hw : ∀ x, 0 ≤ x → want x = true → x ≠ but) : TellS (tellT t p but) p (byT (tellT t p but) now want) := by
  intro i hi
  obtain ⟨h0, h1⟩ := byT_bnd i hi
  obtain ⟨j, rfl⟩ := Int.eq_ofNat_of_zero_le h0
  obtain ⟨hj, _, hwj⟩ := mem_byT.1 hi
  have hj' : j < t.plots.length := by have : (tellT t p but).plots.length = t.plots.length := tellL_len _; omega
  have htr : ((tellT t p but).pl j).tracker = (t.pl j).tracker ∧ ((tellT t p but).pl j).tick = (t.pl j).tick := by
    rw [tellT_pl hj']; split
    · exact ⟨rfl, rfl⟩
    · exact ⟨rfl, rfl⟩
  have hne : (t.pl j).tracker ≠ but := by rw [← htr.1]; exact hw _ (by rw [htr.1]; exact (hG.plot hj').tr0) hwj
  have epl : (tellT t p but).pl j = tellPl t p j := by rw [tellT_pl hj', if_pos hne]
  have hP : ∀ k u, atP (tellT t p but) p k u = atP t p k u := by
    have hv : ∀ k n, velT (tellT t p but) p k n = velT t p k n := by
      intro k n
      induction n with
      | zero => rfl
      | succ n ih => simp only [velT, ih]; rfl
    have hq : ∀ k n, posT (tellT t p but) p k n = posT t p k n := by
      intro k n
      induction n with
      | zero => rfl
      | succ n ih => simp only [posT, ih, hv]
    intro k u
    simp only [atP, hq]; rfl
  have etr : (tellT t p but).trOf j = t.trOf j := by rw [Task.trOf, Task.trOf, htr.1]; rfl
  refine ⟨⟨h0, h1⟩, ?_, fun k hk => ?_⟩
  · rw [Int.toNat_natCast, htr.2]
    exact hsp j hj' hne
  · rw [Int.toNat_natCast, epl, etr, hP]
    have hwr := wrong_abs hG hp hj' k
    have hpart : partI (tellPl t p j) k = atP t p k (t.pl j).tick + wrongT t p j k := by
      match k, hk with
      | 0, _ => rfl
      | 1, _ => rfl
      | 2, _ => rfl
    rw [hpart]
    show _ + _ - atP t p k (t.pl j).tick ≤ _ ∧ atP t p k (t.pl j).tick - _ ≤ _
    omega
end
end Go.Tk

/- Layer 5: paths in memory. -/
set_option linter.all false
namespace Go.Vc
section
variable {X : Cx} {ρ : PEnv} {ds : List Deferred} {H : Heap} {Q : Post} {o : Oper}
theorem p_idxe {x i : Operand} {t len cap size : Nat} {a : Option Addr} {b : Addr} {k : Int} (hs : elemSz X.P t = some size) (ha : a = some b) (ho : o.op = .indexAddr t x i) (hx : ρ.ev x = some (.slice a len cap)) (hi : ρ.ev i = some (.int .i64 k))
    (h0 : 0 ≤ k) (h1 : k < len) : RdP X ρ o (.pointer (some (b.add (k.toNat * size)))) := by
  subst ha; exact p_idx hs ho hx hi h0 h1
end
end Go.Vc
namespace Go.Tk
open Go.Vc

def upd (f : Nat → Int) (k : Nat) (x : Int) : Nat → Int := fun j => if j = k then x else f j
abbrev vec3 (f : Nat → Int) : Array Value := #[.int .i64 (f 0), .int .i64 (f 1), .int .i64 (f 2)]
abbrev pathV (pa : Nat → Option Addr) (pn pc : Nat → Nat) (wv : Value) : Array Value := #[.slice (pa 0) (pn 0) (pc 0), .slice (pa 1) (pn 1) (pc 1), .slice (pa 2) (pn 2) (pc 2), wv]
theorem three {k : Int} (h0 : 0 ≤ k) (h : k < 3) : k.toNat = 0 ∨ k.toNat = 1 ∨ k.toNat = 2 := by omega
theorem vec_at {f : Nat → Int} {k : Int} (h0 : 0 ≤ k) (h : k < 3) : (vec3 f).toList[0 + k.toNat * 1]? = some (.int .i64 (f k.toNat)) := by
  rcases three h0 h with e | e | e <;> rw [e] <;> rfl
theorem vec_set {f : Nat → Int} {k x : Int} (h0 : 0 ≤ k) (h : k < 3) : (vec3 f).toList.set (0 + k.toNat * 1) (.int .i64 x) = (vec3 (upd f k.toNat x)).toList := by
  rcases three h0 h with e | e | e <;> rw [e] <;> rfl
theorem sl_at {pa : Nat → Option Addr} {pn pc : Nat → Nat} {wv : Value} {k : Int} (h0 : 0 ≤ k) (h : k < 3) : (pathV pa pn pc wv).toList[0 + k.toNat * 1]? = some (.slice (pa k.toNat) (pn k.toNat) (pc k.toNat)) := by
  rcases three h0 h with e | e | e <;> rw [e] <;> rfl
theorem upd_same {f : Nat → Int} {k : Nat} {x : Int} : upd f k x k = x := if_pos rfl
theorem upd_ne {f : Nat → Int} {k j : Nat} {x : Int} (h : j ≠ k) : upd f k x j = f j := if_neg h

structure PathR (w : World) (v : Value) (p : PathM) : Prop where
  ok : p.ok
  ex : ∃ (pa : Nat → Option Addr) (pc : Nat → Nat) (wa : Option Addr) (wc : Nat), v = .agg (pathV pa (fun k => (p.push k).length) pc (.slice wa p.wrong.length wc)) ∧
    (∀ k, k < 3 → SliceR w 1 (.slice (pa k) (p.push k).length (pc k)) ((p.push k).map fun n => [Value.int .i8 n])) ∧ SliceR w 1 (.slice wa p.wrong.length wc) (p.wrong.map fun n => [Value.int .i8 n]) ∧
    (∀ k, k < 3 → ((p.push k).length : Int) ≤ 9223372036854775807) ∧ ((p.wrong.length : Nat) : Int) ≤ 9223372036854775807
theorem PathR.good {w0 w : World} {H : Heap} {v : Value} {p : PathM} (h : PathR w0 v p) (hg : Vc.Good w0 [] H w) : PathR w v p := by
  obtain ⟨pa, pc, wa, wc, e, h1, h2, h3, h4⟩ := h.ex
  exact ⟨h.ok, pa, pc, wa, wc, e, fun k hk => (h1 k hk).good hg, h2.good hg, h3, h4⟩

/-! ### Run -/
structure RunI (t : Task) (p : PathM) (i k : Nat) (fv fa : Nat → Int) : Prop where
  v : ∀ j, j < 3 → fv j = velT t p j (if j < k then i + 1 else i)
  a : ∀ j, j < 3 → fa j = posT t p j (if j < k then i + 1 else i)
  b : ∀ j, j < 3 → -2000000000 ≤ fa j ∧ fa j ≤ 2000000000
section
variable {t : Task} {p : PathM} {i k : Nat} {fv fa : Nat → Int}
theorem RunI.zero : RunI t p 0 0 (fun _ => 0) (fun _ => 0) := ⟨fun _ _ => rfl, fun _ _ => rfl, fun _ _ => by omega⟩
theorem RunI.step (h : RunI t p i k fv fa) (hk : k < 3) {v' a' : Int} (hv : v' = max (-t.speed) (min t.speed (fv k + accT t p k i))) (ha : a' = fa k + v') (hb : -2000000000 ≤ a' ∧ a' ≤ 2000000000) : RunI t p i (k + 1) (upd fv k v') (upd fa k a') := by
  have h1 := h.v k hk
  have h2 := h.a k hk
  rw [if_neg (Nat.lt_irrefl k)] at h1 h2
  have e1 : v' = velT t p k (i + 1) := by rw [hv, h1]; rfl
  have e2 : a' = posT t p k (i + 1) := by rw [ha, h2, e1]; rfl
  refine ⟨fun j hj => ?_, fun j hj => ?_, fun j hj => ?_⟩
  · by_cases e : j = k
    · subst e; rw [upd_same, if_pos (by omega), e1]
    · rw [upd_ne e, h.v j hj]
      congr 1
      by_cases hl : j < k
      · rw [if_pos hl, if_pos (by omega)]
      · rw [if_neg hl, if_neg (by omega)]
  · by_cases e : j = k
    · subst e; rw [upd_same, if_pos (by omega), e2]
    · rw [upd_ne e, h.a j hj]
      congr 1
      by_cases hl : j < k
      · rw [if_pos hl, if_pos (by omega)]
      · rw [if_neg hl, if_neg (by omega)]
  · by_cases e : j = k
    · subst e; rw [upd_same]; exact hb
    · rw [upd_ne e]; exact h.b j hj
theorem RunI.next (h : RunI t p i 3 fv fa) : RunI t p (i + 1) 0 fv fa :=
  ⟨fun j hj => by rw [h.v j hj, if_pos hj]; rfl, fun j hj => by rw [h.a j hj, if_pos hj]; rfl, h.b⟩
theorem RunI.bv (h : RunI t p i k fv fa) (hs : 0 ≤ t.speed ∧ t.speed ≤ 1000000) {j : Nat} (hj : j < 3) : -1000000 ≤ fv j ∧ fv j ≤ 1000000 := by
  rw [h.v j hj]
  have := vel_abs (p := p) hs.1 j (if j < k then i + 1 else i)
  omega
theorem SmallP.zero : SmallP t p 0 := fun m hm k _ => by
  have : m = 0 := by omega
  subst this; simp [posT]
theorem SmallP.next (h : SmallP t p i) (h2 : RunI t p (i + 1) 0 fv fa) : SmallP t p (i + 1) := fun m hm k hk => by
  by_cases e : m = i + 1
  · subst e
    have := h2.b k hk
    have h3 := h2.a k hk
    rw [if_neg (by omega)] at h3
    rwa [h3] at this
  · exact h m (by omega) k hk
def rowP (t : Task) (p : PathM) (m : Nat) : List Value := [.int .i64 (posT t p 0 m), .int .i64 (posT t p 1 m), .int .i64 (posT t p 2 m)]
def rowsP (t : Task) (p : PathM) (n : Nat) : List (List Value) := (List.range n).map (rowP t p)
theorem rowsP_len {n : Nat} : (rowsP t p n).length = n := by simp [rowsP]
theorem rowsP_at {n m : Nat} (h : m < n) : (rowsP t p n)[m]? = some (rowP t p m) := by
  rw [rowsP, List.getElem?_map, List.getElem?_range h]; rfl
theorem rowsP_3 {n : Nat} : ∀ e ∈ rowsP t p n, e.length = 3 := by intro e he; obtain ⟨m, _, rfl⟩ := List.mem_map.1 he; rfl
theorem rowsP_succ {n : Nat} (h : RunI t p n 0 fv fa) : (rowsP t p (n + 1)).flatten = (rowsP t p n).flatten ++ [.int .i64 (fa 0), .int .i64 (fa 1), .int .i64 (fa 2)] := by
  have e0 := h.a 0 (by decide)
  have e1 := h.a 1 (by decide)
  have e2 := h.a 2 (by decide)
  simp only [Nat.not_lt_zero, if_false] at e0 e1 e2
  rw [rowsP, List.range_succ, List.map_append, List.flatten_append, e0, e1, e2]; rfl
theorem tmod_nat {i : Int} {n : Nat} (h0 : 0 ≤ i) (hn : 0 < n) : (0 ≤ i.tmod (n : Int) ∧ i.tmod (n : Int) < n) ∧ (i.tmod (n : Int)).toNat = i.toNat % n := by
  have e : i.tmod (n : Int) = i % (n : Int) := Int.tmod_eq_emod_of_nonneg h0
  have h1 := Int.emod_nonneg i (show (n : Int) ≠ 0 by omega)
  have h2 := Int.emod_lt_of_pos i (show (0 : Int) < n by omega)
  rw [e]
  refine ⟨⟨h1, h2⟩, ?_⟩
  obtain ⟨m, rfl⟩ := Int.eq_ofNat_of_zero_le h0
  rw [Int.toNat_natCast]
  omega
theorem accT_yes {j : Nat} (h : 0 < (p.push k).length) (hj : j = i % (p.push k).length) : (t.accel * max (-127) ((p.push k).getD j 0)).tdiv 127 = accT t p k i := by
  rw [accT, if_neg (by omega), hj]; rfl
theorem accT_no (h : ¬ 0 < (p.push k).length) : (0 : Int) = accT t p k i := by rw [accT, if_pos (by omega)]
theorem mul127 {a A x : Int} (ha : 0 ≤ a ∧ a ≤ A) (hA : A ≤ 10000000) (hx : x ≤ 127) : InI (a * max (-127) x) ∧ InI ((a * max (-127) x).tdiv 127) ∧ (-10000000 ≤ (a * max (-127) x).tdiv 127 ∧ (a * max (-127) x).tdiv 127 ≤ 10000000) := by
  have h1 : a * max (-127) x ≤ a * 127 := Int.mul_le_mul_of_nonneg_left (by omega) ha.1
  have h2 : a * (-127) ≤ a * max (-127) x := Int.mul_le_mul_of_nonneg_left (by omega) ha.1
  have h3 := part127_abs ha.1 hx
  unfold part127 at h3
  refine ⟨by unfold InI; omega, by unfold InI; omega, by omega⟩
/-- what Run returns -/
def RunOut (t : Task) (p : PathM) (ty : Nat) (v : Value) (A G : Heap) : Prop := ∃ (ok : Bool) (a : Option Addr) (n c : Nat) (xs : List Value), A = [] ∧ v = .tuple #[.slice a n c, .bool ok] ∧ Grow ty 3 (.slice a n c) n xs G ∧ (ok = true → n = 602 ∧ xs = (rowsP t p 602).flatten ∧ SmallP t p 601)

/-! ### Spot -/
def spotOk (t : Task) (u : Int) : Bool := decide (u < t.frm) || decide (u - t.frm + 1 + 8 < 602)
def spotP (t : Task) (p : PathM) (k : Nat) (u : Int) : Int := if spotOk t u then atP t p k u else 0
def spotV (t : Task) (p : PathM) (k : Nat) (u : Int) : Int := if spotOk t u then atV t p k u else 0
def spotR (t : Task) (p : PathM) (u : Int) : Value := .tuple #[.agg (vec3 fun k => spotP t p k u), .agg (vec3 fun k => spotV t p k u), .bool (spotOk t u)]
theorem spot_lt {u : Int} (h : u < t.frm) : spotR t p u = .tuple #[.agg #[.int .i64 0, .int .i64 0, .int .i64 0], .agg #[.int .i64 0, .int .i64 0, .int .i64 0], .bool true] := by
  have e : spotOk t u = true := by simp [spotOk, h]
  simp [spotR, spotP, spotV, e, atP, atV, h]
theorem spot_out {u : Int} (h : ¬ u < t.frm) (h2 : 602 ≤ u - t.frm + 1 + 8) : spotR t p u = .tuple #[.agg #[.int .i64 0, .int .i64 0, .int .i64 0], .agg #[.int .i64 0, .int .i64 0, .int .i64 0], .bool false] := by
  have e : spotOk t u = false := by simp only [spotOk, Bool.or_eq_false_iff, decide_eq_false_iff_not]; omega
  simp [spotR, spotP, spotV, e]
theorem spot_in {u : Int} (h : ¬ u < t.frm) (h2 : ¬ 602 ≤ u - t.frm + 1 + 8) : spotR t p u = .tuple #[.agg #[.int .i64 (posT t p 0 (u - t.frm).toNat), .int .i64 (posT t p 1 (u - t.frm).toNat), .int .i64 (posT t p 2 (u - t.frm).toNat)],
    .agg #[.int .i64 (posT t p 0 (u - t.frm + 1).toNat - posT t p 0 (u - t.frm).toNat), .int .i64 (posT t p 1 (u - t.frm + 1).toNat - posT t p 1 (u - t.frm).toNat), .int .i64 (posT t p 2 (u - t.frm + 1).toNat - posT t p 2 (u - t.frm).toNat)], .bool true] := by
  have e : spotOk t u = true := by simp only [spotOk, Bool.or_eq_true, decide_eq_true_eq]; omega
  have e1 : (u - t.frm + 1).toNat = (u - t.frm).toNat + 1 := by omega
  have d : ∀ k n, posT t p k (n + 1) - posT t p k n = velT t p k (n + 1) := fun k n => by simp only [posT]; omega
  simp only [spotR, spotP, spotV, e, atP, atV, if_neg h, e1, d, if_true]
theorem spotOk_le {u : Int} (h : spotOk t u = true) : u - t.frm ≤ 592 := by
  simp only [spotOk, Bool.or_eq_true, decide_eq_true_eq] at h; omega
theorem spotP_ok {u : Int} {k : Nat} (h : spotOk t u = true) : spotP t p k u = atP t p k u ∧ spotV t p k u = atV t p k u := by
  simp only [spotP, spotV, h, if_true, and_self]

/-! ### Follow -/
theorem told_at {but : Int} {k : Int} (hk : 0 ≤ k) (hl : k < t.plots.length) : ((tellL t p but k.toNat).map Plot.cells).flatten[0 + k.toNat * 5]? = some (.int .i64 (t.pl k.toNat).tracker) ∧ ((tellL t p but k.toNat).map Plot.cells).flatten[0 + k.toNat * 5 + 1]? = some (.int .i64 (t.pl k.toNat).tick) := by
  have h1 : ((tellL t p but k.toNat).map Plot.cells)[k.toNat]? = some (Plot.cells (t.pl k.toNat)) := by
    rw [getD_cells (d := plZ) (by rw [tellL_len]; omega), tellL_at hk hl]
  have f0 := flat_at _ k.toNat 0 _ pl_len h1 (by decide)
  have f1 := flat_at _ k.toNat 1 _ pl_len h1 (by decide)
  rw [Nat.zero_add]
  exact ⟨f0, f1⟩
structure WrI (t : Task) (p : PathM) (i k : Nat) (f : Nat → Int) : Prop where
  lt : ∀ j, j < k → j < 3 → f j = wrongT t p i j
  ge : ∀ j, k ≤ j → j < 3 → f j = 0
theorem WrI.zero : WrI t p i 0 (fun _ => 0) := ⟨fun j hj => by omega, fun _ _ _ => rfl⟩
theorem WrI.step {f : Nat → Int} (h : WrI t p i k f) (hk : k < 3) (hw : 0 < p.wrong.length) {m : Nat} {x : Int} (hm : m = (3 * i + k) % p.wrong.length) (hx : x = ((t.trOf i).error * max (-127) (p.wrong.getD m 0)).tdiv 127) : WrI t p i (k + 1) (upd f k x) := by
  have e : x = wrongT t p i k := by rw [hx, wrongT, if_neg (by omega), hm]; rfl
  refine ⟨fun j hj h3 => ?_, fun j hj h3 => ?_⟩
  · by_cases ej : j = k
    · subst ej; rw [upd_same, e]
    · rw [upd_ne ej]; exact h.lt j (by omega) h3
  · rw [upd_ne (by omega)]; exact h.ge j (by omega) h3
theorem WrI.end {f : Nat → Int} (h : WrI t p i k f) (he : 3 ≤ k ∨ ¬ 0 < p.wrong.length) {j : Nat} (hj : j < 3) : f j = wrongT t p i j := by
  by_cases hl : j < k
  · exact h.lt j hl hj
  · rcases he with he | he
    · omega
    · rw [h.ge j (by omega) hj, wrongT, if_pos (by omega)]
/-- what Follow returns -/
def FollowOut (t : Task) (p : PathM) (but : Int) (ep er : Nat) (tv : Value) (v : Value) (A G : Heap) : Prop := ∃ (ok : Bool) (a a' : Option Addr) (n c n' c' : Nat) (xs : List Value),
  v = .tuple #[.agg #[.int .i64 t.frm, .int .i64 t.speed, .int .i64 t.accel, tv, .slice a n c], .slice a' n' c', .bool ok] ∧ 
  (ok = true → GoodT t ∧ GoodT (tellT t p but) ∧ n = t.plots.length ∧ n' = 602 ∧ xs = (rowsP t p 602).flatten ∧ SmallP t p 601 ∧ SpotsT t but ∧ Grow ep 5 (.slice a n c) n ((tellL t p but t.plots.length).map Plot.cells).flatten G ∧ Grow er 3 (.slice a' n' c') n' xs A)
theorem tellL_yes2 {but : Int} {k : Int} (hk : 0 ≤ k) (hl : k < t.plots.length) (h : (t.pl k.toNat).tracker ≠ but) {x y z : Int}
    (hx : x = atP t p 0 (t.pl k.toNat).tick + wrongT t p k.toNat 0) (hy : y = atP t p 1 (t.pl k.toNat).tick + wrongT t p k.toNat 1) (hz : z = atP t p 2 (t.pl k.toNat).tick + wrongT t p k.toNat 2) :
    tellL t p but (k + 1).toNat = (tellL t p but k.toNat).set k.toNat ⟨((tellL t p but k.toNat).getD k.toNat plZ).tracker, ((tellL t p but k.toNat).getD k.toNat plZ).tick, x, y, z⟩ := by
  rw [tellL_yes hk hl h, tellL_at hk hl, hx, hy, hz]; rfl
end
end Go.Tk
namespace Go.Tk
open Go.Vc
theorem SliceR.at {w : World} {size n c : Nat} {a : Option Addr} {els : List (List Value)} (h : SliceR w size (.slice a n c) els) {i : Nat} {e : List Value} (hi : els[i]? = some e) : ∃ b, a = some b ∧ cellsAt w (b.add (i * size)) e := by
  obtain ⟨a', c', hv, _, hc⟩ := h.ex
  injection hv with h1 _ _
  subst h1
  exact hc i e hi
theorem upd_at {f : Nat → Int} {k x : Int} (h0 : 0 ≤ k) (h : k < 3) : (vec3 (upd f k.toNat x)).toList[0 + k.toNat * 1]? = some (.int .i64 x) := by rw [vec_at h0 h, upd_same]
def ticksB (a b : Int) : Bool := decide (0 ≤ a ∧ a ≤ 100000 ∧ 0 ≤ b ∧ b ≤ 100000)
end Go.Tk
namespace Go.Tk
open Go.Vc
section
variable {t : Task} {p : PathM}
theorem spotP_bnd (h : SmallP t p 601) {u : Int} (k : Nat) (hk : k < 3) : -2000000000 ≤ spotP t p k u ∧ spotP t p k u ≤ 2000000000 := by
  unfold spotP
  split
  · rename_i hs
    have := spotOk_le hs
    unfold atP
    split
    · omega
    · exact h _ (by omega) k hk
  · omega
theorem plot_bnd (hG : GoodT t) {k : Nat} (hk : k < t.plots.length) : 0 ≤ (t.pl k).tracker ∧ (t.pl k).tracker < t.trackers.length ∧ t.frm ≤ (t.pl k).tick ∧ (t.pl k).tick ≤ 100000 := by
  have h := hG.plot hk
  have h1 := h.tr0; have h2 := h.tr1
  obtain ⟨e1, e2, _⟩ := errPl_zero (hG.pl k hk)
  simp only [plOut, Bool.or_eq_false_iff] at e2
  have := oP_in e2.1
  omega
theorem err_bnd (hG : GoodT t) {k : Nat} (hk : k < t.plots.length) : 0 ≤ (t.trackers.getD (t.pl k).tracker.toNat trZ).error ∧ (t.trackers.getD (t.pl k).tracker.toNat trZ).error ≤ 10000000 := by
  obtain ⟨_, _, q3, _⟩ := hG.of hk
  exact ⟨by have := q3.1; exact this, by have := q3.2; exact this⟩
end
end Go.Tk
namespace Go.Vc
theorem HSub.left : ∀ A B : Heap, HSub A (A ++ B)
  | [], _ => .nil _
  | _ :: A, B => .take .head (HSub.left A B)
end Go.Vc
namespace Go.Tk
open Go.Vc
theorem wrong_bnd {t : Task} {p : PathM} (hG : GoodT t) (hp : p.ok) {i : Nat} (hi : i < t.plots.length) (k : Nat) : -10000000 ≤ wrongT t p i k ∧ wrongT t p i k ≤ 10000000 := by
  have h1 := wrong_abs hG hp hi k
  have h2 : (t.trOf i).error ≤ 10000000 := (err_bnd hG hi).2
  omega
end Go.Tk

/- Layer 5: what the statements on paths ask. -/
set_option linter.all false
namespace Go.Tk
open Go.Vc
section
variable {t : Task} {p : PathM} {but : Int}
theorem vel_tell (k n : Nat) : velT (tellT t p but) p k n = velT t p k n := by
  induction n with
  | zero => rfl
  | succ n ih => simp only [velT, ih]; rfl
theorem pos_tell (k n : Nat) : posT (tellT t p but) p k n = posT t p k n := by
  induction n with
  | zero => rfl
  | succ n ih => simp only [posT, ih, vel_tell]
theorem atP_tell (k : Nat) (u : Int) : atP (tellT t p but) p k u = atP t p k u := by simp only [atP, pos_tell]; rfl
theorem atV_tell (k : Nat) (u : Int) : atV (tellT t p but) p k u = atV t p k u := by simp only [atV, vel_tell]; rfl
theorem SmallP.tell {n : Nat} (h : SmallP t p n) : SmallP (tellT t p but) p n := fun m hm k hk => by rw [pos_tell]; exact h m hm k hk
theorem tell_box (hG : GoodT t) (hG' : GoodT (tellT t p but)) (hp : p.ok) (hsm : SmallP t p 601) (hsp : SpotsT t but) {u : Int} (hu : spotOk t u = true) (now : Int) {want : Int → Bool} (hw : ∀ x, 0 ≤ x → want x = true → x ≠ but) :
    ∃ b, boxT (tellT t p but) (byT (tellT t p but) now want) u = some b ∧ HasB b (fun k => spotP t p k u) (fun k => spotV t p k u) := by
  obtain ⟨b, e, h⟩ := box_in hG' hp hsm.tell (tell_tells hG hp hsp hw (now := now)) (u := u) (spotOk_le hu)
  refine ⟨b, e, ?_⟩
  obtain ⟨h1, h2, h3, h4, h5, h6⟩ := h
  simp only [atP_tell, atV_tell] at h1 h2 h3 h4 h5 h6
  exact ⟨by rw [(spotP_ok hu).1]; exact h1, by rw [(spotP_ok hu).1]; exact h2, by rw [(spotP_ok hu).1]; exact h3, by rw [(spotP_ok hu).2]; exact h4, by rw [(spotP_ok hu).2]; exact h5, by rw [(spotP_ok hu).2]; exact h6⟩
theorem ticks_ok {a b : Int} (h : ticksB a b = true) : 0 ≤ a ∧ a ≤ 100000 ∧ 0 ≤ b ∧ b ≤ 100000 := of_decide_eq_true h
theorem asked_ticks (hG : GoodT t) {a b : Int} (h : ticksB a b = true) : askedT t [a, b] = 0 := by
  have := ticks_ok h
  refine asked_good hG ?_
  simp only [List.any_cons, List.any_nil, Bool.or_false, Bool.or_eq_false_iff]
  exact ⟨oP_false.2 (by omega), oP_false.2 (by omega)⟩
theorem true_law (hG : GoodT t) (hG' : GoodT (tellT t p (-1))) (hp : p.ok) (hsm : SmallP t p 601) (hsp : SpotsT t (-1)) {x0 x1 : Int} (hx : ticksB x0 x1 = true) (hu : spotOk t x0 = true) :
    ∃ b, whereP (tellT t p (-1)) x0 x1 = (b, 0) ∧ b.at_ = x0 ∧ HasB b (fun k => spotP t p k x0) (fun k => spotV t p k x0) ∧ failsB (tellT t p (-1)) x0 x1 = true ∧ askedT (tellT t p (-1)) [x0, x1] = 0 := by
  obtain ⟨b, e, h⟩ := tell_box hG hG' hp hsm hsp hu x1 (want := fun _ => true) (fun x hx _ => by omega)
  have h0 := asked_ticks hG' hx
  exact ⟨b, whereP_some h0 e, boxT_at e, h, by rw [(failsL_2 h0).2, e]; rfl, h0⟩
theorem one_law {x2 : Int} (hG : GoodT t) (hG' : GoodT (tellT t p x2)) (hp : p.ok) (hsm : SmallP t p 601) (hsp : SpotsT t x2) {x0 x1 : Int} (hx : ticksB x0 x1 = true) (hu : spotOk t x0 = true) (h2 : 0 ≤ x2 ∧ x2 < t.trackers.length) :
    ∃ s, spareP (tellT t p x2) x0 x1 = (s, 0) ∧ HasB s (fun k => spotP t p k x0) (fun k => spotV t p k x0) ∧ x2 ∈ failsL (tellT t p x2) x0 x1 ∧ askedT (tellT t p x2) [x0, x1] = 0 := by
  obtain ⟨j, rfl⟩ := Int.eq_ofNat_of_zero_le h2.1
  obtain ⟨b, e, h⟩ := tell_box hG hG' hp hsm hsp hu x1 (want := fun x => decide (x ≠ (j : Int))) (fun x _ hw => by simpa using hw)
  have h0 := asked_ticks hG' hx
  have hm : ((j : Int), b) ∈ othersV (tellT t p j) x0 x1 (tellT t p j).trackers.length := by
    rw [othersV, List.mem_filterMap]
    exact ⟨j, List.mem_range.2 (by show j < t.trackers.length; omega), by rw [e]; rfl⟩
  obtain ⟨s, es, is⟩ := foldl_mem _ none (fun q hq => others_at q hq) (fun _ h => by cases h) b (.inr ⟨_, hm, rfl⟩)
  refine ⟨s, spareP_some h0 ?_, h.mono is, ?_, h0⟩
  · rw [spareT, if_neg (show ¬ (tellT t p (j : Int)).trackers.length = 0 from (show ¬ t.trackers.length = 0 by omega))]; exact es
  · rw [(failsL_2 h0).1]
    exact List.mem_map.2 ⟨_, hm, rfl⟩
theorem pos_at {m n k : Nat} (hn : n < m) (hk : k < 3) : ((rowsP t p m).flatten)[0 + n * 3 + k * 1]? = some (.int .i64 (posT t p k n)) := by
  have h1 : (rowsP t p m)[n]? = some (rowP t p n) := rowsP_at hn
  have f := flat_at _ n k _ rowsP_3 h1 hk
  rw [Nat.zero_add, Nat.mul_one, f]
  match k, hk with
  | 0, _ => rfl
  | 1, _ => rfl
  | 2, _ => rfl
theorem reachP_bad {n : Int} (h : askedT t [n] ≠ 0) : reachP t n = (0, askedT t [n]) := if_pos h
theorem reachP_ok {n : Int} (h : askedT t [n] = 0) : reachP t n = (reachT t n, 0) := if_neg (fun a => a h)
theorem pos_reachI (hG : GoodT t) (hp : p.ok) {n : Int} (hn : 0 ≤ n) (k : Nat) : -(reachT t n) ≤ posT t p k n.toNat ∧ posT t p k n.toNat ≤ reachT t n := by
  obtain ⟨_, hs, ha⟩ := hG.nums
  have := pos_reach hp (show 0 ≤ t.speed by omega) (show 1 ≤ t.accel by omega) k n.toNat
  rwa [Int.toNat_of_nonneg hn] at this
theorem reach_next (hG : GoodT t) {n : Int} (hn : 0 ≤ n) : reachT t (n + 1) - reachT t n = min (t.accel * (n + 1)) t.speed := by
  obtain ⟨_, hs, ha⟩ := hG.nums
  rw [reach_succ (by omega) (by omega) hn]; omega
theorem reach_0 (hG : GoodT t) : reachT t 0 = 0 := by
  obtain ⟨_, hs, ha⟩ := hG.nums
  exact reach_zero (by omega) (by omega)

/-! ### boxes ahead -/
theorem aheadN_in (hG : GoodT t) (hp : p.ok) (hsm : SmallP t p 601) {k : Nat} (hk : k < 3) : ∀ (n : Nat) (u : Int) (a v : Span), u + n - t.frm ≤ 601 → InI3 a (atP t p k u) → InI3 v (atV t p k u) →
    ∃ r, aheadN t n a v = some r ∧ InI3 r.1 (atP t p k (u + n)) ∧ InI3 r.2 (atV t p k (u + n)) := by
  obtain ⟨_, hs, ha⟩ := hG.nums
  intro n
  induction n with
  | zero =>
    intro u a v _ h1 h2
    refine ⟨(a, v), aheadN_zero h1.none h2.none, ?_, ?_⟩
    · simpa using h1
    · simpa using h2
  | succ n ih =>
    intro u a v hu h1 h2
    rw [aheadN_succ h1.none h2.none]
    have e1 := atP_succ (t := t) (p := p) k u
    have e2 := atV_step hp (show 0 ≤ t.speed by omega) (show 0 ≤ t.accel by omega) k u
    have e3 := atV_abs (p := p) (show 0 ≤ t.speed by omega) k (u + 1)
    have e4 : -2000000000 ≤ atP t p k (u + 1) ∧ atP t p k (u + 1) ≤ 2000000000 := by
      unfold atP; split
      · omega
      · exact hsm _ (by omega) k hk
    obtain ⟨r, er, i1, i2⟩ := ih (u + 1) (stepP a v) (stepV t v) (by omega) (by unfold InI3 at *; simp only [stepP, common, room0]; omega) (by unfold InI3 at *; simp only [stepV, common, room0]; omega)
    rw [show u + 1 + (n : Int) = u + ((n + 1 : Nat) : Int) by omega] at i1 i2
    exact ⟨r, er, i1, i2⟩
theorem aheadN_add : ∀ (n m : Nat) (a v : Span), aheadN t (n + m) a v = (aheadN t n a v).bind fun r => aheadN t m r.1 r.2 := by
  intro n
  induction n with
  | zero =>
    intro m a v
    rw [Nat.zero_add]
    by_cases h : a.none = true ∨ v.none = true
    · rw [aheadN_none h, aheadN_none h]; rfl
    · have h1 : a.none = false := by cases hh : a.none with | false => rfl | true => exact absurd (.inl hh) h
      have h2 : v.none = false := by cases hh : v.none with | false => rfl | true => exact absurd (.inr hh) h
      rw [aheadN_zero h1 h2]; rfl
  | succ n ih =>
    intro m a v
    by_cases h : a.none = true ∨ v.none = true
    · rw [aheadN_none h, aheadN_none h]; rfl
    · have h1 : a.none = false := by cases hh : a.none with | false => rfl | true => exact absurd (.inl hh) h
      have h2 : v.none = false := by cases hh : v.none with | false => rfl | true => exact absurd (.inr hh) h
      rw [show n + 1 + m = n + m + 1 by omega, aheadN_succ h1 h2, aheadN_succ h1 h2, ih]
theorem aheadN_room : ∀ (n : Nat) (a v : Span) (r : Span × Span), aheadN t n a v = some r → InS a (room0 2000000000) → InS v (room0 t.speed) → (InS r.1 (room0 2000000000) ∧ r.1.none = false) ∧ InS r.2 (room0 t.speed) ∧ r.2.none = false := by
  intro n
  induction n with
  | zero =>
    intro a v r h h1 h2
    simp only [aheadN] at h
    split at h
    · cases h
    · rename_i hn
      cases h
      simp only [Bool.or_eq_true, not_or, Bool.not_eq_true] at hn
      exact ⟨⟨h1, hn.1⟩, h2, hn.2⟩
  | succ n ih =>
    intro a v r h h1 h2
    simp only [aheadN] at h
    split at h
    · cases h
    · refine ih _ _ _ h ?_ ?_
      · simp only [InS, stepP, common, room0]; omega
      · simp only [InS, stepV, common, room0]; omega
theorem common_room {s : Int} {v : Span} (h : InS v (room0 s)) : common v (room0 s) = v := by
  simp only [InS, room0] at h
  cases v
  simp only [common, room0, Span.mk.injEq]
  simp only at h
  omega
theorem aheadB_parts {b c : Box} {n : Int} (h : aheadB t b n = some c) : aheadS t n b.x b.vx = some (c.x, c.vx) ∧ aheadS t n b.y b.vy = some (c.y, c.vy) ∧ aheadS t n b.z b.vz = some (c.z, c.vz) ∧ c.at_ = b.at_ + n := by
  unfold aheadB at h
  cases h0 : aheadS t n b.x b.vx with
  | none => rw [h0] at h; cases h
  | some a0 =>
    rw [h0, Option.bind_some] at h
    cases h1 : aheadS t n b.y b.vy with
    | none => rw [h1] at h; cases h
    | some a1 =>
      rw [h1, Option.bind_some] at h
      cases h2 : aheadS t n b.z b.vz with
      | none => rw [h2] at h; cases h
      | some a2 => rw [h2, Option.bind_some] at h; cases h; exact ⟨rfl, rfl, rfl, rfl⟩
theorem aheadS_room {n : Int} {a v : Span} {r : Span × Span} (h : aheadS t n a v = some r) (ha : okS 2000000000 a) : (InS r.1 (room0 2000000000) ∧ r.1.none = false) ∧ InS r.2 (room0 t.speed) ∧ r.2.none = false := by
  refine aheadN_room _ _ _ _ h ?_ ?_
  · unfold okS at ha; simp only [InS, room0]; omega
  · simp only [InS, common, room0]; omega
theorem aheadS_add {n m : Int} (hn : 0 ≤ n) (hm : 0 ≤ m) {a v : Span} {r : Span × Span} (h : aheadS t n a v = some r) (ha : okS 2000000000 a) : aheadS t (n + m) a v = aheadS t m r.1 r.2 := by
  obtain ⟨_, h2, _⟩ := aheadS_room h ha
  unfold aheadS at h ⊢
  rw [show (n + m).toNat = n.toNat + m.toNat by omega, aheadN_add, h, common_room h2]; rfl
theorem aheadB_add {b c : Box} {n m : Int} (hn : 0 ≤ n) (hm : 0 ≤ m) (hb : BoxOk b) (h : aheadB t b n = some c) : aheadB t b (n + m) = aheadB t c m := by
  obtain ⟨h0, h1, h2, h3⟩ := aheadB_parts h
  obtain ⟨_, b0, b1, b2, _⟩ := hb
  unfold aheadB
  rw [aheadS_add hn hm h0 b0, aheadS_add hn hm h1 b1, aheadS_add hn hm h2 b2, h3, Int.add_assoc]
theorem aheadB_ok (hG : GoodT t) {b c : Box} {n : Int} (hb : BoxOk b) (hat : 0 ≤ b.at_ + n ∧ b.at_ + n ≤ 100000) (h : aheadB t b n = some c) : BoxOk c := by
  obtain ⟨_, hs, _⟩ := hG.nums
  obtain ⟨h0, h1, h2, h3⟩ := aheadB_parts h
  obtain ⟨_, b0, b1, b2, _⟩ := hb
  obtain ⟨⟨a1, a2⟩, a3, a4⟩ := aheadS_room h0 b0
  obtain ⟨⟨c1, c2⟩, c3, c4⟩ := aheadS_room h1 b1
  obtain ⟨⟨d1, d2⟩, d3, d4⟩ := aheadS_room h2 b2
  refine ⟨by rw [h3]; exact hat, ?_, ?_, ?_, ?_, ?_, ?_⟩ <;> (simp only [okS, InS, room0, Span.none, decide_eq_false_iff_not] at *; omega)
/-- what TrackOn asks -/
theorem on_E (hG : GoodT t) {b : Box} {n : Int} (hb : BoxOk b) (hn : 0 ≤ n ∧ n ≤ 600) (hat : 0 ≤ b.at_ + n ∧ b.at_ + n ≤ 100000) : aheadP t b n = foundP (aheadB t b n) :=
  aheadP_ok (aheadE_4 (asked_good hG rfl) hb (oP_false.2 hn) (oP_false.2 hat))
theorem on_law (hG : GoodT t) (hG' : GoodT (tellT t p but)) (hp : p.ok) (hsm : SmallP t p 601) {b : Box} (hb : BoxOk b) {n m : Int} (hn : 0 ≤ n ∧ n ≤ 255) (hm : 0 ≤ m ∧ m ≤ 255) (hlim : b.at_ + n + m ≤ 100000)
    (hs0 : spotOk t b.at_ = true) (hh : HasB b (fun k => spotP t p k b.at_) (fun k => spotV t p k b.at_)) :
    (spotOk t (b.at_ + n) = true → (aheadP (tellT t p but) b n).2 = 0 ∧ (aheadP (tellT t p but) b n).1.at_ = b.at_ + n ∧ HasB (aheadP (tellT t p but) b n).1 (fun k => spotP t p k (b.at_ + n)) (fun k => spotV t p k (b.at_ + n))) ∧
    ((aheadP (tellT t p but) b n).2 = 0 → aheadP (tellT t p but) (aheadP (tellT t p but) b n).1 m = aheadP (tellT t p but) b (n + m)) := by
  obtain ⟨_, hs, ha⟩ := hG.nums
  have hat := hb.1
  have e1 := on_E hG' hb (n := n) (by omega) (by omega)
  constructor
  · intro hs1
    have hle := spotOk_le hs1
    obtain ⟨x0, x1, x2, v0, v1, v2⟩ := hh
    have key : ∀ (k : Nat), k < 3 → ∀ (a v : Span), InI3 a (spotP t p k b.at_) → InI3 v (spotV t p k b.at_) → ∃ r, aheadS (tellT t p but) n a v = some r ∧ InI3 r.1 (spotP t p k (b.at_ + n)) ∧ InI3 r.2 (spotV t p k (b.at_ + n)) := by
      intro k hk a v ia iv
      rw [(spotP_ok hs0).1] at ia
      rw [(spotP_ok hs0).2] at iv
      have hva := atV_abs (p := p) (show 0 ≤ t.speed by omega) k b.at_
      obtain ⟨r, er, i1, i2⟩ := aheadN_in hG' hp hsm.tell hk n.toNat b.at_ a (common v (room0 t.speed)) (by show b.at_ + (n.toNat : Int) - t.frm ≤ 601; omega) (by rw [atP_tell]; exact ia) (by rw [atV_tell]; unfold InI3 at *; simp only [common, room0]; omega)
      rw [show b.at_ + (n.toNat : Int) = b.at_ + n by omega, atP_tell] at i1
      rw [show b.at_ + (n.toNat : Int) = b.at_ + n by omega, atV_tell] at i2
      exact ⟨r, er, by rw [(spotP_ok hs1).1]; exact i1, by rw [(spotP_ok hs1).2]; exact i2⟩
    obtain ⟨r0, f0, p0, q0⟩ := key 0 (by decide) _ _ x0 v0
    obtain ⟨r1, f1, p1, q1⟩ := key 1 (by decide) _ _ x1 v1
    obtain ⟨r2, f2, p2, q2⟩ := key 2 (by decide) _ _ x2 v2
    rw [e1, aheadB_3 f0 f1 f2]
    exact ⟨rfl, rfl, p0, p1, p2, q0, q1, q2⟩
  · intro h
    rw [e1] at h ⊢
    cases hc : aheadB (tellT t p but) b n with
    | none => rw [hc] at h; cases h
    | some c =>
      have hok := aheadB_ok hG' hb (by omega) hc
      have hca := (aheadB_parts hc).2.2.2
      show aheadP _ c m = _
      rw [on_E hG' hok (by omega) (by omega), on_E hG' hb (by omega) (by omega), aheadB_add hn.1 hm.1 hb hc]
end
end Go.Tk

/- Layer 6: what the statements say of looks (plain). -/
set_option linter.all false
namespace Go.De
open Go.Vc Go.Tk

theorem plan_of_good {p : Plan} (h : GoodP p) : planE p = 0 := by
  unfold planE; rw [checkP_ok h.len h.ln h.tail]
theorem task_zero {p : Plan} {t : Task} (h : taskE p t = 0) : GoodP p ∧ GoodT t := by
  unfold taskE at h
  split at h
  · contradiction
  · exact ⟨good_of_plan (by omega), good_of_check h⟩
theorem ticks_zero {p : Plan} {t : Task} {l : List Int} (h : ticksE p t l = 0) : GoodP p ∧ GoodT t ∧ ∀ n ∈ l, 0 ≤ n ∧ n ≤ 100000 := by
  unfold ticksE at h
  split at h
  · cases h
  · rename_i h2
    obtain ⟨h3, h4⟩ := task_zero h
    refine ⟨h3, h4, fun n hn => ?_⟩
    have : oP n 0 100000 = false := by
      cases hh : oP n 0 100000
      · rfl
      · exact absurd ⟨h, List.any_eq_true.2 ⟨n, hn, hh⟩⟩ h2
    exact oP_false.1 this
theorem ticks_good {p : Plan} {t : Task} {l : List Int} (hp : GoodP p) (hc : (checkT t).2.2 = 0) (hl : ∀ n ∈ l, 0 ≤ n ∧ n ≤ 100000) : ticksE p t l = 0 := by
  have h0 : taskE p t = 0 := by unfold taskE; rw [plan_of_good hp]; simpa using hc
  unfold ticksE
  rw [if_neg, h0]
  rintro ⟨_, h⟩
  obtain ⟨n, hn, h2⟩ := List.any_eq_true.1 h
  have := oP_false.2 (hl n hn)
  rw [this] at h2; cases h2
theorem ticks_check {p : Plan} {t : Task} {l : List Int} (h : ticksE p t l = 0) : (checkT t).2.2 = 0 := by
  unfold ticksE at h
  split at h
  · cases h
  · unfold taskE at h
    split at h
    · contradiction
    · exact h

/-! ### the box that is used -/
structure UsedIs (p : Plan) (t : Task) (now : Int) (b : Box) (frm : Int) : Prop where
  spare : (spareP t frm now).2 = 0
  ahead : aheadP t (spareP t frm now).1 (now - frm + p.wait + 1) = (b, 0)
  le : frm ≤ now
  ge : now - p.blind ≤ frm ∧ 0 ≤ frm
  next : frm < now → (spareP t (frm + 1) now).2 ≠ 0
theorem used_is {p : Plan} {t : Task} {now : Int} : ∀ (k : Nat) (f : Int) (b : Box) (frm : Int), f ≤ now → (f < now → (spareP t (f + 1) now).2 ≠ 0) → usedN p t now k f = some (b, frm) → UsedIs p t now b frm := by
  intro k
  induction k with
  | zero => intro f b frm _ _ h; cases h
  | succ k ih =>
    intro f b frm hf hn h
    unfold usedN at h
    split at h
    · cases h
    · rename_i h1
      split at h
      · rename_i h2
        split at h
        · rename_i h3
          simp only [Option.some.injEq, Prod.mk.injEq] at h
          obtain ⟨rfl, rfl⟩ := h
          exact ⟨h2, Prod.ext rfl h3, hf, by omega, hn⟩
        · cases h
      · rename_i h2
        exact ih (f - 1) b frm (by omega) (fun _ => by rw [show f - 1 + 1 = f by omega]; exact h2) h
theorem usedT_is {p : Plan} {t : Task} {now : Int} {b : Box} {frm : Int} (h : usedT p t now = some (b, frm)) : UsedIs p t now b frm := used_is _ _ _ _ (Int.le_refl _) (fun h => by omega) h
theorem spare_box {t : Task} {u now : Int} (h : (spareP t u now).2 = 0) : GoodT t ∧ (0 ≤ u ∧ u ≤ 100000) := by
  obtain ⟨h1, _⟩ := spareP_ok h
  obtain ⟨hG, hn⟩ := asked_zero h1
  exact ⟨hG, hn u (.head _)⟩
theorem ahead_ok {t : Task} {b c : Box} {n : Int} (h : aheadP t b n = (c, 0)) : aheadE t b n = 0 ∧ aheadB t b n = some c := by
  unfold aheadP at h
  split at h
  · rename_i he; exact absurd (by simpa using congrArg Prod.snd h) he
  · rename_i he
    refine ⟨by omega, ?_⟩
    cases hb : aheadB t b n with
    | none => rw [hb] at h; simp [foundP] at h
    | some d => rw [hb] at h; simp [foundP] at h; rw [h]
theorem aheadE_zero {t : Task} {b : Box} {n : Int} (h : aheadE t b n = 0) : askedT t [] = 0 ∧ BoxOk b ∧ (0 ≤ n ∧ n ≤ 600) ∧ (0 ≤ b.at_ + n ∧ b.at_ + n ≤ 100000) := by
  unfold aheadE at h
  split at h
  · contradiction
  · rename_i h1
    split at h
    · cases h
    · rename_i h2
      split at h
      · cases h
      · rename_i h3
        simp only [not_or, Bool.not_eq_true, oP_false] at h3
        exact ⟨by omega, Decidable.not_not.1 h2, h3.1, h3.2⟩
theorem used_ok {p : Plan} {t : Task} {now : Int} {b : Box} {frm : Int} (h : UsedIs p t now b frm) : BoxOk b := by
  obtain ⟨h1, h2⟩ := ahead_ok h.ahead
  obtain ⟨h3, h4, h5, h6⟩ := aheadE_zero h1
  exact aheadB_ok (spare_box h.spare).1 h4 h6 h2

theorem usedN_plan {p q : Plan} (hw : q.wait = p.wait) (hb : q.blind = p.blind) {t : Task} {now : Int} : ∀ (k : Nat) (f : Int), usedN q t now k f = usedN p t now k f := by
  intro k
  induction k with
  | zero => intro f; rfl
  | succ k ih => intro f; unfold usedN; rw [hw, hb, ih]
theorem usedT_plan {p q : Plan} (hw : q.wait = p.wait) (hb : q.blind = p.blind) {t : Task} {now : Int} : usedT q t now = usedT p t now := by
  unfold usedT; rw [hb, usedN_plan hw hb]

/-! ### more room -/
structure LookIs (p : Plan) (t : Task) (now : Int) (l : Look) : Prop where
  used : ∃ b frm, usedT p t now = some (b, frm) ∧ l.box = b
  e : (fallT p.grav l.box).e = 0
  x : l.x = (fallT p.grav l.box).x
  y : l.y = (fallT p.grav l.box).y
  at_ : l.at_ = (fallT p.grav l.box).at_
  line : l.line = overI p l.x l.y
  why : l.why = if 0 ≤ overI p l.x l.y then 1 else 0
theorem look_is {p : Plan} {t : Task} {now : Int} (h2 : (lookT p t now).why ≠ 2) (h3 : (lookT p t now).why ≠ 3) : LookIs p t now (lookT p t now) := by
  revert h2 h3
  unfold lookT
  cases hu : usedT p t now with
  | none => intro h2; exact absurd rfl h2
  | some q =>
    obtain ⟨b, frm⟩ := q
    dsimp only
    unfold lookF
    split
    · intro _ h3; exact absurd rfl h3
    · rename_i he
      intro _ _
      exact ⟨⟨b, frm, hu, rfl⟩, by simpa using he, rfl, rfl, rfl, rfl, rfl⟩
theorem lookT_of {p : Plan} {t : Task} {now : Int} {b : Box} {frm : Int} (hu : usedT p t now = some (b, frm)) : lookT p t now = lookF p b (fallT p.grav b) := by unfold lookT; rw [hu]
theorem room_law {p q : Plan} {t : Task} {now : Int} (hq : GoodP q) (hw : q.wait = p.wait) (hb : q.blind = p.blind) (hg : q.grav = p.grav) (hl : ∀ l ∈ q.lines, ∃ l' ∈ p.lines, l.a = l'.a ∧ l.b = l'.b ∧ l'.line ≤ l.line)
    (h : (lookP p t now).2 = 0) (h0 : (lookP p t now).1.why = 0) : (lookP q t now).2 = 0 ∧ (lookP q t now).1.why = 0 ∧ (lookP q t now).1.x = (lookP p t now).1.x ∧ (lookP q t now).1.y = (lookP p t now).1.y := by
  have hz : ticksE p t [now] = 0 := by
    unfold lookP at h
    split at h
    · contradiction
    · rename_i h1; omega
  have hpe : lookP p t now = (lookT p t now, 0) := by unfold lookP; rw [if_neg (by omega)]
  have hqz : ticksE q t [now] = 0 := ticks_good hq (ticks_check hz) (ticks_zero hz).2.2
  have hqe : lookP q t now = (lookT q t now, 0) := by unfold lookP; rw [if_neg (by omega)]
  rw [hpe] at h0 ⊢
  rw [hqe]
  dsimp only at h0 ⊢
  have hi := look_is (p := p) (t := t) (now := now) (by omega) (by omega)
  obtain ⟨b, frm, hu, hbx⟩ := hi.used
  have hover : overI p (lookT p t now).x (lookT p t now).y < 0 := by
    have := hi.why; rw [h0] at this
    split at this
    · cases this
    · omega
  have e1 := lookT_of hu
  have e2 : lookT q t now = lookF q b (fallT p.grav b) := by rw [lookT_of (by rw [usedT_plan hw hb]; exact hu), hg]
  have he := hi.e
  rw [hbx] at he
  have f1 : lookT p t now = ⟨b, (fallT p.grav b).x, (fallT p.grav b).y, (fallT p.grav b).at_, if 0 ≤ overI p (fallT p.grav b).x (fallT p.grav b).y then 1 else 0, overI p (fallT p.grav b).x (fallT p.grav b).y⟩ := by
    rw [e1, lookF, if_neg (by omega)]
  have f2 : lookT q t now = ⟨b, (fallT p.grav b).x, (fallT p.grav b).y, (fallT p.grav b).at_, if 0 ≤ overI q (fallT p.grav b).x (fallT p.grav b).y then 1 else 0, overI q (fallT p.grav b).x (fallT p.grav b).y⟩ := by
    rw [e2, lookF, if_neg (by omega)]
  rw [f1] at hover ⊢
  rw [f2]
  dsimp only at hover ⊢
  have hq0 : overI q (fallT p.grav b).x (fallT p.grav b).y < 0 := by
    rw [over_none] at hover ⊢
    intro l hl'
    obtain ⟨l', h1, h2, h3, h4⟩ := hl l hl'
    have := hover l' h1
    unfold mostL at *
    rw [h2, h3]; omega
  exact ⟨rfl, by rw [if_neg (by omega)], rfl, rfl⟩

/-! ### one that stays -/
theorem area_of {p : Plan} {t : Task} {now : Int} {l : Look} (h : LookIs p t now l) : offS l.x = false ∧ offS l.y = false := by
  obtain ⟨m, n, hi, _⟩ := fallT_is h.e
  have key : ∀ j, j ≤ n - m → InS (runF p.grav l.box (m + j)).x ⟨-2000000000, 2000000000⟩ ∧ InS (runF p.grav l.box (m + j)).y ⟨-2000000000, 2000000000⟩ := by
    intro j hj
    have := hi.off (m + j) (by have := hi.a1; omega) (by have := hi.ab; omega)
    simp only [offB, Bool.or_eq_false_iff, off_false] at this
    unfold InS; dsimp only; omega
  have h1 := hullF_sub (n - m) key
  have h2 := hullF_in (runF p.grav l.box) m (n - m) 0 (by omega)
  have h3 := hi.off m hi.a1 hi.ab
  simp only [offB, Bool.or_eq_false_iff, off_false] at h3
  rw [← hi.x, ← hi.y, ← h.x, ← h.y] at h1 h2
  obtain ⟨⟨a1, a2⟩, ⟨b1, b2⟩⟩ := h1
  obtain ⟨⟨c1, c2⟩, ⟨d1, d2⟩⟩ := h2
  simp only [Nat.add_zero] at c1 c2 d1 d2
  dsimp only at a1 a2 b1 b2
  simp only [off_false]
  omega
def shareI (s : Span) (n : Int) : Int := s.lo + ((s.hi - s.lo) * n).tdiv 255
theorem share_in {s : Span} {n : Int} (h : s.lo ≤ s.hi) (hn : 0 ≤ n ∧ n ≤ 255) : s.lo ≤ shareI s n ∧ shareI s n ≤ s.hi := by
  have h1 := mul_bnd (show 0 ≤ s.hi - s.lo ∧ s.hi - s.lo ≤ s.hi - s.lo by omega) hn
  unfold shareI
  rw [Int.tdiv_eq_ediv_of_nonneg h1.1]
  have h2 := Int.ediv_nonneg h1.1 (show (0 : Int) ≤ 255 by omega)
  have h3 : (s.hi - s.lo) * n / 255 ≤ s.hi - s.lo := by
    have := Int.ediv_le_ediv (show (0 : Int) < 255 by omega) h1.2
    rw [Int.mul_ediv_cancel _ (by omega)] at this
    exact this
  omega
def measI (l : Line) (x y : Int) : Int := l.a * x + l.b * y
theorem most_one (l : Line) (x y : Int) : mostL l ⟨x, x⟩ ⟨y, y⟩ = measI l x y := by unfold mostL measI; dsimp only; omega

end Go.De

/- Layer 5: gaps. -/
set_option linter.all false
namespace Go.Tk
open Go.Vc

def gapC (p : Int × Int) : List Value := [.int .i64 p.1, .int .i64 p.2]
def gapV (l : List (Int × Int)) : List Value := (l.map gapC).flatten
def okGap (t : Task) (u now wd : Int) : Bool := match spareT t u now with
  | some b => decide (wideB b ≤ wd)
  | none => false
def gapStep (t : Task) (now wd : Int) (l : List (Int × Int)) (u : Int) : List (Int × Int) :=
  if okGap t u now wd = true then l
  else if 0 < l.length ∧ (l.getD (l.length - 1) (0, 0)).2 = u then l.set (l.length - 1) ((l.getD (l.length - 1) (0, 0)).1, u + 1)
  else l ++ [(u, u + 1)]
def gapsN (t : Task) (now wd frm : Int) : Nat → List (Int × Int)
  | 0 => []
  | n + 1 => gapStep t now wd (gapsN t now wd frm n) (frm + n)
def gapsE (t : Task) (frm til now wd : Int) : Int :=
  if askedT t [frm, til, now] ≠ 0 then askedT t [frm, til, now] else if til < frm ∨ wd < 0 then 7 else if 200 < til - frm then 3 else 0
def gapsL (t : Task) (frm til now wd : Int) : List (Int × Int) := if gapsE t frm til now wd ≠ 0 then [] else gapsN t now wd frm (til - frm).toNat
def GapsOut (ty : Nat) (xs : List (Int × Int)) (f : Value → Value) (v : Value) (A G : Heap) : Prop := ∃ sv, A = [] ∧ v = f sv ∧ Grow ty 2 sv xs.length (gapV xs) G

section
variable {t : Task} {now wd frm u : Int}
theorem gapsN_succ (h : frm ≤ u) : gapsN t now wd frm (u + 1 - frm).toNat = gapStep t now wd (gapsN t now wd frm (u - frm).toNat) u := by
  have e : (u + 1 - frm).toNat = (u - frm).toNat + 1 := by omega
  have e2 : frm + ((u - frm).toNat : Int) = u := by omega
  rw [e, gapsN, e2]
theorem step_ok {l : List (Int × Int)} {o : Option Box} (ho : spareT t u now = o) (h : o.isSome = true) (h2 : wideB (o.getD boxZ) ≤ wd) : gapStep t now wd l u = l := by
  have : okGap t u now wd = true := by rw [okGap, ho, isSome_get h]; exact decide_eq_true h2
  rw [gapStep, if_pos this]
theorem step_bad {o : Option Box} (ho : spareT t u now = o) (h : o.isSome = false ∨ ¬ wideB (o.getD boxZ) ≤ wd) : okGap t u now wd = false := by
  rw [okGap, ho]
  cases o with
  | none => rfl
  | some b =>
    rcases h with h | h
    · cases h
    · exact decide_eq_false h
theorem step_new {l : List (Int × Int)} (h : okGap t u now wd = false) (h2 : ¬ (0 < l.length ∧ (l.getD (l.length - 1) (0, 0)).2 = u)) : gapStep t now wd l u = l ++ [(u, u + 1)] := by
  rw [gapStep, if_neg (by rw [h]; decide), if_neg h2]
theorem step_more {l : List (Int × Int)} (h : okGap t u now wd = false) (h2 : 0 < l.length) (h3 : (l.getD (l.length - 1) (0, 0)).2 = u) : gapStep t now wd l u = l.set (l.length - 1) ((l.getD (l.length - 1) (0, 0)).1, u + 1) := by
  rw [gapStep, if_neg (by rw [h]; decide), if_pos ⟨h2, h3⟩]
theorem gapsN_len : ∀ n, (gapsN t now wd frm n).length ≤ n := by
  intro n
  induction n with
  | zero => exact Nat.le_refl _
  | succ n ih =>
    rw [gapsN, gapStep]
    split
    · omega
    · split
      · rw [List.length_set]; omega
      · rw [List.length_append]; simp; omega
theorem gapV_len (l : List (Int × Int)) : (gapV l).length = l.length * 2 := by
  rw [gapV, flat_len (size := 2) _ (by intro e he; obtain ⟨x, _, rfl⟩ := List.mem_map.1 he; rfl), List.length_map]
theorem gapV_app (l : List (Int × Int)) (a b : Int) : gapV (l ++ [(a, b)]) = gapV l ++ [.int .i64 a, .int .i64 b] := by
  simp [gapV, gapC]
theorem gapV_at {l : List (Int × Int)} {i : Nat} (h : i < l.length) : (gapV l)[0 + i * 2 + 1]? = some (.int .i64 (l.getD i (0, 0)).2) ∧ (gapV l)[0 + i * 2]? = some (.int .i64 (l.getD i (0, 0)).1) := by
  have h1 : (l.map gapC)[i]? = some (gapC (l.getD i (0, 0))) := getD_cells h
  have hs : ∀ e ∈ l.map gapC, e.length = 2 := by intro e he; obtain ⟨x, _, rfl⟩ := List.mem_map.1 he; rfl
  have f1 := flat_at (l.map gapC) i 1 _ hs h1 (by decide)
  have f0 := flat_at (l.map gapC) i 0 _ hs h1 (by decide)
  rw [Nat.zero_add]
  exact ⟨f1, f0⟩
theorem gapV_set : ∀ (l : List (Int × Int)) (i : Nat) (b : Int), i < l.length → gapV (l.set i ((l.getD i (0, 0)).1, b)) = (gapV l).set (0 + i * 2 + 1) (.int .i64 b) := by
  intro l
  induction l with
  | nil => intro i b h; simp at h
  | cons p l ih =>
    intro i b h
    cases i with
    | zero => rfl
    | succ i =>
      have h' : i < l.length := by simpa using h
      have := ih i b h'
      have e : 0 + (i + 1) * 2 + 1 = (0 + i * 2 + 1) + 1 + 1 := by omega
      rw [e]
      show gapC p ++ gapV (l.set i ((l.getD i (0, 0)).1, b)) = _
      rw [this]; rfl
theorem grow_set {el n c : Nat} {b : Nat} {cur : Array Value} {xs : List Value} {i : Nat} {v : Value} (h1 : n ≤ c) (h2 : c ≤ maxLen) (h3 : cur.size = c * 2) (h4 : cur.toList.take (n * 2) = xs) (h5 : xs.length = n * 2) :
    Grow el 2 (.slice (some ⟨b, 0, none⟩) n c) n (xs.set i v) [(b, .cells (cur.toList.set i v).toArray el)] :=
  .row h1 h2 (by simp [h3]) (by rw [← h4, List.take_set]) (by rw [List.length_set, h5])
theorem gapsE_1 {til : Int} (h : askedT t [frm, til, now] ≠ 0) : gapsE t frm til now wd = askedT t [frm, til, now] := if_pos h
theorem gapsE_2 {til : Int} (h : askedT t [frm, til, now] = 0) (h1 : til < frm ∨ wd < 0) : gapsE t frm til now wd = 7 := by rw [gapsE, if_neg (fun a => a h), if_pos h1]
theorem gapsE_3 {til : Int} (h : askedT t [frm, til, now] = 0) (h1 : ¬ (til < frm ∨ wd < 0)) (h2 : 200 < til - frm) : gapsE t frm til now wd = 3 := by rw [gapsE, if_neg (fun a => a h), if_neg h1, if_pos h2]
theorem gapsE_4 {til : Int} (h : askedT t [frm, til, now] = 0) (h1 : ¬ (til < frm ∨ wd < 0)) (h2 : ¬ 200 < til - frm) : gapsE t frm til now wd = 0 := by rw [gapsE, if_neg (fun a => a h), if_neg h1, if_neg h2]
theorem gapsL_bad {til : Int} (h : gapsE t frm til now wd ≠ 0) : gapsL t frm til now wd = [] := if_pos h
theorem gapsL_ok {til : Int} (h : gapsE t frm til now wd = 0) : gapsL t frm til now wd = gapsN t now wd frm (til - frm).toNat := if_neg (fun a => a h)
theorem gapsE_ok {til : Int} (h : gapsE t frm til now wd = 0) : askedT t [frm, til, now] = 0 ∧ (0 ≤ frm ∧ frm ≤ 100000) ∧ (0 ≤ til ∧ til ≤ 100000) ∧ (0 ≤ now ∧ now ≤ 100000) ∧ frm ≤ til ∧ 0 ≤ wd ∧ til - frm ≤ 200 := by
  unfold gapsE at h
  split at h
  · rename_i hn; exact absurd h hn
  · rename_i hn
    have h0 : askedT t [frm, til, now] = 0 := Decidable.of_not_not hn
    split at h
    · cases h
    · rename_i h1
      split at h
      · cases h
      · have hz := (asked_zero h0).2
        exact ⟨h0, hz _ (.head _), hz _ (.tail _ (.head _)), hz _ (.tail _ (.tail _ (.head _))), by omega, by omega, by omega⟩
end

theorem gapsL_len (t : Task) (frm til now wd : Int) : (gapsL t frm til now wd).length ≤ 200 := by
  by_cases h : gapsE t frm til now wd = 0
  · rw [gapsL_ok h]
    have := gapsN_len (t := t) (now := now) (wd := wd) (frm := frm) (til - frm).toNat
    have := (gapsE_ok h).2.2.2.2.2.2
    omega
  · rw [gapsL_bad h]; exact Nat.zero_le _
theorem asked3_bad {t : Task} {frm til now : Int} (h : askedT t [frm, now] = 0) (ho : oP til 0 100000 = true) : askedT t [frm, til, now] = 7 := by
  have hz : (checkT t).2.2 = 0 := by
    by_cases hz : (checkT t).2.2 = 0
    · exact hz
    · rw [asked_bad hz] at h; exact absurd h hz
  exact asked_any hz (by simp [ho])
theorem asked3_ok {t : Task} {frm til now : Int} (h : askedT t [frm, now] = 0) (ho : oP til 0 100000 = false) : askedT t [frm, til, now] = 0 := by
  have hz : (checkT t).2.2 = 0 := by
    by_cases hz : (checkT t).2.2 = 0
    · exact hz
    · rw [asked_bad hz] at h; exact absurd h hz
  have ha := asked_any0 h
  simp only [List.any_cons, List.any_nil, Bool.or_false, Bool.or_eq_false_iff] at ha
  exact asked_ok hz (by simp [ho, ha.1, ha.2])
theorem asked3_err {t : Task} {frm til now : Int} (h : ¬ askedT t [frm, now] = 0) : askedT t [frm, til, now] = askedT t [frm, now] := by
  by_cases hz : (checkT t).2.2 = 0
  · obtain ⟨h1, h2⟩ := asked_ne hz h
    rw [h2]
    refine asked_any hz ?_
    simp only [List.any_cons, List.any_nil, Bool.or_false, Bool.or_eq_true] at h1 ⊢
    rcases h1 with h1 | h1
    · exact .inl h1
    · exact .inr (.inr h1)
  · rw [asked_bad hz, asked_bad hz]

theorem foldl_bnd {B : Int} : ∀ (l : List (Int × Box)) (acc : Option Box), (∀ b, acc = some b → BoxB B b) → (∀ p ∈ l, BoxB B p.2) → ∀ b, l.foldl (fun acc p => addB acc p.2) acc = some b → BoxB B b := by
  intro l
  induction l with
  | nil => intro acc h _ b hb; exact h b hb
  | cons p l ih =>
    intro acc h hp b hb
    refine ih (addB acc p.2) ?_ (fun q hq => hp q (.tail _ hq)) b hb
    intro c hc
    have h2 := hp p (.head _)
    cases acc with
    | none => cases hc; exact h2
    | some a =>
      cases hc
      have h1 := h a rfl
      obtain ⟨a1, a2, a3⟩ := h1
      obtain ⟨b1, b2, b3⟩ := h2
      unfold SpanB at a1 a2 a3 b1 b2 b3
      refine ⟨?_, ?_, ?_⟩ <;> (simp only [SpanB, joinB, joinS]; omega)
theorem spareT_bnd {t : Task} (hG : GoodT t) {u now : Int} (hu : u ≤ 100000) {b : Box} (h : spareT t u now = some b) : BoxB 2000000000 b := by
  unfold spareT at h
  split at h
  · exact boxT_bnd hG byT_bnd hu h
  · exact foldl_bnd _ none (fun _ h => by cases h) (fun p hp => boxT_bnd hG byT_bnd hu (others_mem hp).1) b h
theorem BoxB.big {b : Box} (h : BoxB 2000000000 b) : BoxB 1000000000000000 b := by
  obtain ⟨a1, a2, a3⟩ := h
  unfold SpanB at a1 a2 a3
  refine ⟨?_, ?_, ?_⟩ <;> (unfold SpanB; omega)

end Go.Tk
