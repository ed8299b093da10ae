/- Layer 5: with less that binds, no box becomes less. -/
import Derived.Test.YtclbbchehjapjabW
set_option linter.all false
namespace Go.Tk
open Go.Vc

/-- a span within another one, by its ends -/
def InS (a b : Span) : Prop := b.lo ≤ a.lo ∧ a.hi ≤ b.hi
theorem InS.none {a b : Span} (h : InS a b) (ha : a.none = false) : b.none = false := by
  have := none_false ha
  simp only [Span.none, decide_eq_false_iff_not]
  have := h.1; have := h.2; omega
structure InB (a b : Box) : Prop where
  at_ : a.at_ = b.at_
  x : InS a.x b.x
  y : InS a.y b.y
  z : InS a.z b.z
  vx : InS a.vx b.vx
  vy : InS a.vy b.vy
  vz : InS a.vz b.vz

/-- what binds (t', ps') binds (t, ps) no less -/
structure Binds (t : Task) (ps : List Int) (t' : Task) (ps' : List Int) : Prop where
  frm : t.frm = t'.frm
  speed : t.speed ≤ t'.speed
  accel : 0 ≤ t.accel ∧ t.accel ≤ t'.accel
  reach : ∀ n, 0 ≤ n → reachT t n ≤ reachT t' n
  plots : ∀ i' ∈ ps', ∃ i ∈ ps, ∀ k u, InS (plotS t k u i) (plotS t' k u i')

theorem fold_in {t : Task} {k u : Int} : ∀ (l : List Int) (s : Span), InS (l.foldl (fun s i => common s (plotS t k u i)) s) s ∧ ∀ i ∈ l, InS (l.foldl (fun s i => common s (plotS t k u i)) s) (plotS t k u i) := by
  intro l
  induction l with
  | nil => intro s; exact ⟨⟨Int.le_refl _, Int.le_refl _⟩, fun i h => by cases h⟩
  | cons i l ih =>
    intro s
    obtain ⟨h1, h2⟩ := ih (common s (plotS t k u i))
    simp only [List.foldl_cons]
    have hc : InS (common s (plotS t k u i)) s ∧ InS (common s (plotS t k u i)) (plotS t k u i) := by
      simp only [InS, common]; omega
    have tr : ∀ {a b c : Span}, InS a b → InS b c → InS a c := fun p q => ⟨Int.le_trans q.1 p.1, Int.le_trans p.2 q.2⟩
    refine ⟨tr h1 hc.1, fun j hj => ?_⟩
    rcases List.mem_cons.1 hj with rfl | hj
    · exact tr h1 hc.2
    · exact h2 j hj
theorem fold_out {t : Task} {k u : Int} {a : Span} : ∀ (l : List Int) (s : Span), InS a s → (∀ i ∈ l, InS a (plotS t k u i)) → InS a (l.foldl (fun s i => common s (plotS t k u i)) s) := by
  intro l
  induction l with
  | nil => intro s h _; exact h
  | cons i l ih =>
    intro s h hp
    refine ih _ ?_ (fun j hj => hp j (.tail _ hj))
    have h2 := hp i (.head _)
    simp only [InS, common] at h h2 ⊢; omega

theorem place_mono {t t' : Task} {ps ps' : List Int} (h : Binds t ps t' ps') (k u : Int) : InS (placeT t ps k u) (placeT t' ps' k u) := by
  unfold placeT
  rw [h.frm]
  split
  · rename_i hu
    have hr := h.reach (u - t.frm) (by rw [h.frm]; omega)
    obtain ⟨h1, h2⟩ := fold_in (t := t) (k := k) (u := u) ps (room0 (min 2000000000 (reachT t (u - t.frm))))
    refine fold_out _ _ ?_ (fun i' hi' => ?_)
    · have : InS (placeN t ps k u) (room0 (min 2000000000 (reachT t (u - t.frm)))) := h1
      rw [← h.frm]
      simp only [InS, room0] at this ⊢; omega
    · obtain ⟨i, hi, hin⟩ := h.plots i' hi'
      have a := h2 i hi
      have b := hin k u
      exact ⟨Int.le_trans b.1 a.1, Int.le_trans a.2 b.2⟩
  · exact ⟨Int.le_refl _, Int.le_refl _⟩

theorem gone_mono {s s' : Span} {lo hi lo' hi' j : Int} (hj : 0 < j) (hs : InS s s') (hl : lo' ≤ lo) (hh : hi ≤ hi') : InS (goneS s lo hi j) (goneS s' lo' hi' j) := by
  have h1 := Int.ediv_le_ediv hj (show -lo ≤ -lo' by omega)
  have h2 := Int.ediv_le_ediv hj hh
  simp only [InS, goneS] at hs ⊢; omega
theorem more_mono {t t' : Task} (h : 0 ≤ t.accel ∧ t.accel ≤ t'.accel) {j : Int} (hj : 1 ≤ j) : moreB t j ≤ moreB t' j ∧ moreF t j ≤ moreF t' j := by
  have h1 : 0 ≤ (j * (j + 1)).tdiv 2 := Int.tdiv_nonneg (Int.mul_nonneg (by omega) (by omega)) (by omega)
  have h2 : 0 ≤ (j * (j - 1)).tdiv 2 := Int.tdiv_nonneg (Int.mul_nonneg (by omega) (by omega)) (by omega)
  exact ⟨Int.mul_le_mul_of_nonneg_right h.2 h1, Int.mul_le_mul_of_nonneg_right h.2 h2⟩

theorem fastB_mono {t t' : Task} {ps ps' : List Int} (h : Binds t ps t' ps') {k u j : Int} (hj : 1 ≤ j) {s s' r : Span} (hs : InS s s') (hr : fastB t ps k u j s = some r) : ∃ r', fastB t' ps' k u j s' = some r' ∧ InS r r' := by
  unfold fastB at hr ⊢
  rw [← h.frm]
  split at hr
  · rename_i hf
    rw [if_pos hf]
    split at hr
    · cases hr
    · rename_i hn
      cases hr
      have hp := place_mono h k u
      have hv := place_mono h k (u - j)
      have hne := hv.none (by cases hh : (placeT t ps k (u - j)).none <;> simp_all)
      rw [if_neg (by rw [hne]; decide)]
      have hm := (more_mono h.accel hj).1
      exact ⟨_, rfl, gone_mono (by omega) hs (by have := hp.1; have := hv.2; omega) (by have := hp.2; have := hv.1; omega)⟩
  · rename_i hf
    rw [if_neg hf]
    cases hr
    exact ⟨_, rfl, hs⟩
theorem fastF_mono {t t' : Task} {ps ps' : List Int} (h : Binds t ps t' ps') {k u j : Int} (hj : 1 ≤ j) {s s' r : Span} (hs : InS s s') (hr : fastF t ps k u j s = some r) : ∃ r', fastF t' ps' k u j s' = some r' ∧ InS r r' := by
  unfold fastF at hr ⊢
  split at hr
  · rename_i hf
    rw [if_pos hf]
    split at hr
    · cases hr
    · rename_i hn
      cases hr
      have hp := place_mono h k u
      have hv := place_mono h k (u + j)
      have hne := hv.none (by cases hh : (placeT t ps k (u + j)).none <;> simp_all)
      rw [if_neg (by rw [hne]; decide)]
      have hm := (more_mono h.accel hj).2
      exact ⟨_, rfl, gone_mono (by omega) hs (by have := hp.2; have := hv.1; omega) (by have := hp.1; have := hv.2; omega)⟩
  · rename_i hf
    rw [if_neg hf]
    cases hr
    exact ⟨_, rfl, hs⟩
theorem fastN_mono {t t' : Task} {ps ps' : List Int} (h : Binds t ps t' ps') {k u : Int} (hu : t.frm ≤ u) : ∀ n {r : Span}, fastN t ps k u n = some r → ∃ r', fastN t' ps' k u n = some r' ∧ InS r r' := by
  intro n
  induction n with
  | zero =>
    intro r hr
    simp only [fastN, Option.some.injEq] at hr
    subst hr
    refine ⟨_, rfl, ?_⟩
    have h1 := h.speed
    have h2 := Int.mul_le_mul_of_nonneg_right h.accel.2 (show 0 ≤ u - t.frm + 1 by omega)
    rw [← h.frm]
    simp only [InS, room0]; omega
  | succ n ih =>
    intro r hr
    simp only [fastN] at hr ⊢
    cases h0 : fastN t ps k u n with
    | none => rw [h0] at hr; cases hr
    | some a =>
      rw [h0, Option.bind_some] at hr
      obtain ⟨a', e0, i0⟩ := ih h0
      cases h1 : fastB t ps k u (n + 1) a with
      | none => rw [h1] at hr; cases hr
      | some b =>
        rw [h1, Option.bind_some] at hr
        obtain ⟨b', e1, i1⟩ := fastB_mono h (by omega) i0 h1
        obtain ⟨c', e2, i2⟩ := fastF_mono h (by omega) i1 hr
        exact ⟨c', by rw [e0, Option.bind_some, e1, Option.bind_some, e2], i2⟩
theorem fastT_mono {t t' : Task} {ps ps' : List Int} (h : Binds t ps t' ps') {k u : Int} {r : Span} (hr : fastT t ps k u = some r) : ∃ r', fastT t' ps' k u = some r' ∧ InS r r' := by
  unfold fastT at hr ⊢
  rw [← h.frm]
  split at hr
  · rename_i hu
    rw [if_pos hu]
    cases hr
    exact ⟨_, rfl, Int.le_refl _, Int.le_refl _⟩
  · rename_i hu
    rw [if_neg hu]
    cases h0 : fastN t ps k u 8 with
    | none => rw [h0] at hr; cases hr
    | some a =>
      rw [h0, Option.bind_some] at hr
      obtain ⟨a', e0, i0⟩ := fastN_mono h (by omega) 8 h0
      split at hr
      · cases hr
      · rename_i hn
        cases hr
        have hne := i0.none (by cases hh : r.none <;> simp_all)
        refine ⟨a', ?_, i0⟩
        rw [e0, Option.bind_some, if_neg (by rw [hne]; decide)]
theorem partT_mono {t t' : Task} {ps ps' : List Int} (h : Binds t ps t' ps') {k u : Int} {r : Span × Span} (hr : partT t ps k u = some r) : ∃ r', partT t' ps' k u = some r' ∧ InS r.1 r'.1 ∧ InS r.2 r'.2 := by
  unfold partT at hr ⊢
  cases h0 : fastT t ps k u with
  | none => rw [h0] at hr; cases hr
  | some a =>
    rw [h0, Option.bind_some] at hr
    obtain ⟨a', e0, i0⟩ := fastT_mono h h0
    split at hr
    · cases hr
    · rename_i hn
      cases hr
      have hp := place_mono h k u
      have hne := hp.none (by cases hh : (placeT t ps k u).none <;> simp_all)
      refine ⟨(placeT t' ps' k u, a'), ?_, hp, i0⟩
      rw [e0, Option.bind_some, if_neg (by rw [hne]; decide)]
theorem box_mono {t t' : Task} {ps ps' : List Int} (h : Binds t ps t' ps') {u : Int} {b : Box} (hb : boxT t ps u = some b) : ∃ b', boxT t' ps' u = some b' ∧ InB b b' := by
  obtain ⟨p0, p1, p2, h0, h1, h2, rfl⟩ := boxT_parts hb
  obtain ⟨q0, e0, i0, j0⟩ := partT_mono h h0
  obtain ⟨q1, e1, i1, j1⟩ := partT_mono h h1
  obtain ⟨q2, e2, i2, j2⟩ := partT_mono h h2
  exact ⟨_, boxT_3 e0 e1 e2, rfl, i0, i1, i2, j0, j1, j2⟩

theorem InS.anti {a b : Span} (h : InS a b) (h2 : InS b a) : a = b := by
  obtain ⟨a1, a2⟩ := a
  obtain ⟨b1, b2⟩ := b
  simp only [InS] at h h2
  simp only [Span.mk.injEq]; omega
theorem InB.anti {a b : Box} (h : InB a b) (h2 : InB b a) : a = b := by
  have e1 := h.x.anti h2.x
  have e2 := h.y.anti h2.y
  have e3 := h.z.anti h2.z
  have e4 := h.vx.anti h2.vx
  have e5 := h.vy.anti h2.vy
  have e6 := h.vz.anti h2.vz
  have e0 := h.at_
  cases a; cases b
  simp_all
theorem InB.refl (a : Box) : InB a a := ⟨rfl, ⟨Int.le_refl _, Int.le_refl _⟩, ⟨Int.le_refl _, Int.le_refl _⟩, ⟨Int.le_refl _, Int.le_refl _⟩, ⟨Int.le_refl _, Int.le_refl _⟩, ⟨Int.le_refl _, Int.le_refl _⟩, ⟨Int.le_refl _, Int.le_refl _⟩⟩
theorem InS.trans {a b c : Span} (p : InS a b) (q : InS b c) : InS a c := ⟨Int.le_trans q.1 p.1, Int.le_trans p.2 q.2⟩
theorem InB.trans {a b c : Box} (p : InB a b) (q : InB b c) : InB a c := ⟨p.at_.trans q.at_, p.x.trans q.x, p.y.trans q.y, p.z.trans q.z, p.vx.trans q.vx, p.vy.trans q.vy, p.vz.trans q.vz⟩
/-- tasks that are bound alike have the same boxes -/
theorem box_same {t t' : Task} {ps ps' : List Int} (h : Binds t ps t' ps') (h2 : Binds t' ps' t ps) (u : Int) : boxT t ps u = boxT t' ps' u := by
  cases hb : boxT t ps u with
  | some b =>
    obtain ⟨b', e, i⟩ := box_mono h hb
    obtain ⟨b2, e2, i2⟩ := box_mono h2 e
    rw [hb] at e2; cases e2
    rw [e, i.anti i2]
  | none =>
    cases hb' : boxT t' ps' u with
    | none => rfl
    | some b' =>
      obtain ⟨b2, e2, _⟩ := box_mono h2 hb'
      rw [hb] at e2; cases e2

/-- fewer plots of one task -/
theorem binds_sub {t : Task} (hG : GoodT t) {ps ps' : List Int} (h : ∀ i ∈ ps', i ∈ ps) : Binds t ps t ps' := by
  obtain ⟨_, _, ha⟩ := hG.nums
  exact ⟨rfl, Int.le_refl _, ⟨by omega, Int.le_refl _⟩, fun _ _ => Int.le_refl _, fun i hi => ⟨i, h i hi, fun _ _ => ⟨Int.le_refl _, Int.le_refl _⟩⟩⟩
theorem byT_sub {t : Task} {now : Int} {w1 w2 : Int → Bool} (h : ∀ x, w2 x = true → w1 x = true) : ∀ i ∈ byT t now w2, i ∈ byT t now w1 := by
  intro i hi
  unfold byT byN at hi ⊢
  rw [List.mem_filter] at hi ⊢
  exact ⟨hi.1, h _ hi.2⟩

theorem joinB_in {a b c : Box} (h : InB a b) : InB a (joinB b c) := by
  obtain ⟨h0, h1, h2, h3, h4, h5, h6⟩ := h
  refine ⟨h0, ?_, ?_, ?_, ?_, ?_, ?_⟩ <;> (simp only [InS, joinB, joinS] at *; omega)
theorem foldl_in {a : Box} : ∀ (l : List (Int × Box)) (acc : Option Box), (∀ b, acc = some b → InB a b) → (∀ p ∈ l, InB a p.2) → ∀ b, l.foldl (fun acc p => addB acc p.2) acc = some b → InB a b := by
  intro l
  induction l with
  | nil => intro acc h _ b hb; exact h b hb
  | cons p l ih =>
    intro acc h hp b hb
    refine ih (addB acc p.2) ?_ (fun q hq => hp q (.tail _ hq)) b hb
    intro c hc
    cases acc with
    | none => cases hc; exact hp p (.head _)
    | some x => cases hc; exact joinB_in (h x rfl)
theorem foldl_some : ∀ (l : List (Int × Box)) (acc : Option Box), (acc.isSome = true ∨ l ≠ []) → (l.foldl (fun acc p => addB acc p.2) acc).isSome = true := by
  intro l
  induction l with
  | nil => intro acc h; rcases h with h | h; exact h; exact absurd rfl h
  | cons p l ih =>
    intro acc _
    refine ih _ (.inl ?_)
    cases acc <;> rfl

/-! ### if all agree -/
structure AgreeS (t : Task) (u now : Int) (b : Box) : Prop where
  others : ∀ k : Nat, k < t.trackers.length → (boxT t (byT t now (fun x => decide (x ≠ (k : Int)))) u).isSome = true
  own : ∀ k, ∃ a, ownT t u now k = some a ∧ InB b a
  spare : ∃ s, spareT t u now = some s ∧ InB b s

theorem agree_of {t : Task} (hG : GoodT t) {u now : Int} {b : Box} (h : boxT t (byT t now fun _ => true) u = some b) : AgreeS t u now b := by
  have sub : ∀ w2 : Int → Bool, ∃ b', boxT t (byT t now w2) u = some b' ∧ InB b b' := fun w2 => box_mono (binds_sub hG (byT_sub (w1 := fun _ => true) (w2 := w2) (fun _ _ => rfl))) h
  refine ⟨fun k _ => ?_, fun k => sub _, ?_⟩
  · obtain ⟨b', e, _⟩ := sub (fun x => decide (x ≠ (k : Int)))
    rw [e]; rfl
  · by_cases h0 : t.trackers.length = 0
    · exact ⟨b, by rw [spareT, if_pos h0, h], InB.refl b⟩
    · have hs : (foldB (othersV t u now t.trackers.length)).isSome = true := by
        refine foldl_some _ _ (.inr ?_)
        obtain ⟨b', e, _⟩ := sub (fun x => decide (x ≠ ((0 : Nat) : Int)))
        have hm : (((0 : Nat) : Int), b') ∈ othersV t u now t.trackers.length := by
          rw [othersV, List.mem_filterMap]
          exact ⟨0, List.mem_range.2 (by omega), by rw [e]; rfl⟩
        intro hn
        rw [hn] at hm; cases hm
      obtain ⟨s, hs⟩ := Option.isSome_iff_exists.1 hs
      refine ⟨s, by rw [spareT, if_neg h0, hs], foldl_in _ none (fun _ h => by cases h) (fun p hp => ?_) s hs⟩
      obtain ⟨e, _⟩ := others_mem hp
      obtain ⟨b', e', i⟩ := sub (fun x => decide (x ≠ p.1))
      rw [e] at e'; cases e'
      exact i

theorem othersV_full {t : Task} {u now : Int} : ∀ n, (∀ k : Nat, k < n → (boxT t (byT t now (fun x => decide (x ≠ (k : Int)))) u).isSome = true) → (othersV t u now n).map Prod.fst = (List.range n).map fun i : Nat => (i : Int) := by
  intro n
  induction n with
  | zero => intro _; rfl
  | succ n ih =>
    intro h
    obtain ⟨b, hb⟩ := Option.isSome_iff_exists.1 (h n (by omega))
    have h1 := fstV_yes (t := t) (u := u) (now := now) (k := (n : Int)) (by omega) hb
    have e : ((n : Int) + 1).toNat = n + 1 := by omega
    have e2 : ((n : Int)).toNat = n := by omega
    rw [e, e2] at h1
    rw [h1, ih (fun k hk => h k (by omega)), List.range_succ, List.map_append]
    rfl

/-! ### rows that grew, opened -/
theorem Grow.form2 {el size n c : Nat} {a : Option Addr} {xs : List Value} {G : Heap} (h : Grow el size (.slice a n c) n xs G) (hn : 0 < n) : ∃ b cur, a = some ⟨b, 0, none⟩ ∧ G = [(b, .cells cur el)] ∧ cur.toList.take (n * size) = xs ∧ cur.size = c * size ∧ n ≤ c ∧ c ≤ maxLen := by
  cases h with
  | nil => omega
  | row h1 h2 h3 h4 h5 => exact ⟨_, _, rfl, rfl, h4, h3, h1, h2⟩
theorem cur_at {cur : Array Value} {xs : List Value} {n i : Nat} {v : Value} (h : cur.toList.take n = xs) (hi : xs[i]? = some v) : cur.toList[i]? = some v := by
  rw [← h, List.getElem?_take] at hi
  split at hi
  · exact hi
  · cases hi
theorem range_at {n : Nat} {k : Int} (h0 : 0 ≤ k) (h : k < n) : (iiL ((List.range n).map fun i : Nat => (i : Int)))[0 + k.toNat * 1]? = some (.int .i64 k) := by
  have e : 0 + k.toNat * 1 = k.toNat := by omega
  rw [e, iiL, List.getElem?_map, List.getElem?_map, List.getElem?_range (by omega)]
  simp only [Option.map_some]
  congr 2; omega
theorem alone_own {t : Task} {k u now : Int} {a : Box} (h0 : askedT t [u, now] = 0) (hk : 0 ≤ k ∧ k < t.trackers.length) (ha : ownT t u now k = some a) : aloneP t k u now = (a, 0) := by
  have hz : (checkT t).2.2 = 0 := by
    by_cases hz : (checkT t).2.2 = 0
    · exact hz
    · rw [asked_bad hz] at h0; exact absurd h0 hz
  have h1 : oP k 0 (t.trackers.length - 1) = false := oP_false.2 (by omega)
  rw [aloneP_4 (asked_ok hz rfl) h1 (asked_any0 h0)]
  have : boxT t (byT t now fun x => decide (x = k)) u = some a := ha
  rw [this]; rfl
theorem alone_none {t : Task} {k u now : Int} (h0 : askedT t [u, now] = 0) (hk : 0 ≤ k ∧ k < t.trackers.length) : aloneP t k u now = foundP (ownT t u now k) := by
  have hz : (checkT t).2.2 = 0 := by
    by_cases hz : (checkT t).2.2 = 0
    · exact hz
    · rw [asked_bad hz] at h0; exact absurd h0 hz
  have h1 : oP k 0 (t.trackers.length - 1) = false := oP_false.2 (by omega)
  rw [aloneP_4 (asked_ok hz rfl) h1 (asked_any0 h0)]; rfl
theorem whereP_some {t : Task} {u now : Int} {b : Box} (h0 : askedT t [u, now] = 0) (h : boxT t (byT t now fun _ => true) u = some b) : whereP t u now = (b, 0) := by
  rw [whereP, if_neg (fun a => a h0), h]; rfl
theorem whereP_none {t : Task} {u now : Int} (h0 : askedT t [u, now] = 0) (h : boxT t (byT t now fun _ => true) u = none) : whereP t u now = (boxZ, 9) := by
  rw [whereP, if_neg (fun a => a h0), h]; rfl
theorem whereP_bad {t : Task} {u now : Int} (h0 : askedT t [u, now] ≠ 0) : whereP t u now = (boxZ, askedT t [u, now]) := if_pos h0
theorem spareP_some {t : Task} {u now : Int} {b : Box} (h0 : askedT t [u, now] = 0) (h : spareT t u now = some b) : spareP t u now = (b, 0) := by
  rw [spareP, if_neg (fun a => a h0), h]; rfl
theorem spareP_none {t : Task} {u now : Int} (h0 : askedT t [u, now] = 0) (h : spareT t u now = none) : spareP t u now = (boxZ, 9) := by
  rw [spareP, if_neg (fun a => a h0), h]; rfl
theorem spareP_bad {t : Task} {u now : Int} (h0 : askedT t [u, now] ≠ 0) : spareP t u now = (boxZ, askedT t [u, now]) := if_pos h0

theorem own9_t {o : Option Box} (h : ¬ (if o.isSome = true then (0 : Int) else 9) = 0) : o.isSome = false := by
  cases hh : o.isSome with
  | false => rfl
  | true => rw [hh] at h; exact absurd rfl h
theorem own9_f {o : Option Box} (h : (if o.isSome = true then (0 : Int) else 9) = 0) : o.isSome = true := by
  cases hh : o.isSome with
  | true => rfl
  | false => rw [hh] at h; cases h

end Go.Tk
