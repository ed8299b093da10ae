/- Layer 5: how far a path can be; with greater numbers no box becomes less. -/
import Derived.Test.YtclbbchehjapjabY
set_option linter.all false
namespace Go.Tk
open Go.Vc

/-! ### one tick more -/
theorem tri_succ {m : Int} (hm : 0 ≤ m) : ((m + 1) * (m + 1 + 1)).tdiv 2 = (m * (m + 1)).tdiv 2 + (m + 1) := by
  have h0 : 0 ≤ m * (m + 1) := Int.mul_nonneg hm (by omega)
  have e : (m + 1) * (m + 1 + 1) = m * (m + 1) + (m + 1) * 2 := by rw [Int.mul_add (m + 1) (m + 1) 1, Int.add_mul m 1 (m + 1)]; omega
  rw [e, Int.tdiv_eq_ediv_of_nonneg (by omega), Int.tdiv_eq_ediv_of_nonneg h0, Int.add_mul_ediv_right _ _ (by decide)]
theorem reach_succ {t : Task} (ha : 1 ≤ t.accel) (hs : 0 ≤ t.speed) {n : Int} (hn : 0 ≤ n) : reachT t (n + 1) = reachT t n + min (t.accel * (n + 1)) t.speed := by
  have hq0 : 0 ≤ t.speed.tdiv t.accel := Int.tdiv_nonneg hs (by omega)
  have hqe : t.speed.tdiv t.accel = t.speed / t.accel := Int.tdiv_eq_ediv_of_nonneg hs
  have hd := Int.mul_ediv_add_emod t.speed t.accel
  have hm0 := Int.emod_nonneg t.speed (show t.accel ≠ 0 by omega)
  have hm1 := Int.emod_lt_of_pos t.speed (show 0 < t.accel by omega)
  by_cases h : n + 1 ≤ t.speed.tdiv t.accel
  · have e1 : capT t (n + 1) = n + 1 := by unfold capT; omega
    have e2 : capT t n = n := by unfold capT; omega
    rw [reachT, reachT, e1, e2, tri_succ hn, Int.mul_add, Int.sub_self, Int.sub_self, Int.zero_mul]
    have h1 := Int.mul_le_mul_of_nonneg_left h (show 0 ≤ t.accel by omega)
    rw [hqe] at h1
    omega
  · have e1 : capT t (n + 1) = t.speed.tdiv t.accel := by unfold capT; omega
    have e2 : capT t n = t.speed.tdiv t.accel := by unfold capT; omega
    have h1 := Int.mul_le_mul_of_nonneg_left (show t.speed / t.accel + 1 ≤ n + 1 by omega) (show 0 ≤ t.accel by omega)
    rw [Int.mul_add, Int.mul_one] at h1
    rw [reachT, reachT, e1, e2]
    have e3 : (n + 1 - t.speed.tdiv t.accel) * t.speed = (n - t.speed.tdiv t.accel) * t.speed + t.speed := by
      rw [show n + 1 - t.speed.tdiv t.accel = (n - t.speed.tdiv t.accel) + 1 by omega, Int.add_mul, Int.one_mul]
    rw [e3]
    omega
theorem reach_zero {t : Task} (hs : 0 ≤ t.speed) (ha : 0 ≤ t.accel) : reachT t 0 = 0 := by
  have hq0 : 0 ≤ t.speed.tdiv t.accel := Int.tdiv_nonneg hs ha
  have e : capT t 0 = 0 := by unfold capT; omega
  rw [reachT, e]; simp
theorem reach_mono {t t' : Task} (ha : 1 ≤ t.accel) (hs : 0 ≤ t.speed) (ha' : t.accel ≤ t'.accel) (hs' : t.speed ≤ t'.speed) {n : Int} (hn : 0 ≤ n) : reachT t n ≤ reachT t' n := by
  obtain ⟨k, rfl⟩ := Int.eq_ofNat_of_zero_le hn
  induction k with
  | zero => rw [show ((0 : Nat) : Int) = 0 from rfl, reach_zero hs (by omega), reach_zero (by omega) (by omega)]; exact Int.le_refl _
  | succ k ih =>
    have ih := ih (by omega)
    rw [show ((k + 1 : Nat) : Int) = (k : Int) + 1 by omega, reach_succ ha hs (by omega), reach_succ (by omega) (by omega) (by omega)]
    have := Int.mul_le_mul_of_nonneg_right ha' (show 0 ≤ (k : Int) + 1 by omega)
    omega

/-! ### greater numbers -/
def addW (a b : Int) : Int := IntKind.i64.wrap (a + b)
def looseTr (x : Tracker) (a b : Int) : Tracker := ⟨x.name, x.x, x.y, min 10000000 (addW x.error a), min 10000 (addW x.grow b), x.late⟩
def looseT (t : Task) (a b c d : Int) : Task := ⟨t.frm, min 1000000 (addW t.speed c), min 1000000 (addW t.accel d), t.trackers.map fun x => looseTr x a b, t.plots⟩
structure LooseT (t t' : Task) : Prop where
  frm : t'.frm = t.frm
  speed : t.speed ≤ t'.speed ∧ t'.speed ≤ 1000000
  accel : t.accel ≤ t'.accel ∧ t'.accel ≤ 1000000
  plots : t'.plots = t.plots
  len : t'.trackers.length = t.trackers.length
  tr : ∀ j, j < t.trackers.length → (t'.tr j).name = (t.tr j).name ∧ (t'.tr j).x = (t.tr j).x ∧ (t'.tr j).y = (t.tr j).y ∧ ((t.tr j).error ≤ (t'.tr j).error ∧ (t'.tr j).error ≤ 10000000) ∧ ((t.tr j).grow ≤ (t'.tr j).grow ∧ (t'.tr j).grow ≤ 10000) ∧ (t'.tr j).late = (t.tr j).late
section
variable {t t' : Task}
theorem LooseT.pl (h : LooseT t t') : Task.pl t' = Task.pl t := by funext i; rw [Task.pl, Task.pl, h.plots]
theorem any_congr {p q : Nat → Bool} {n : Nat} (h : ∀ i, i < n → p i = q i) : anyIdx p n = anyIdx q n := by
  unfold anyIdx
  induction n with
  | zero => rfl
  | succ n ih => rw [List.range_succ, List.any_append, List.any_append, ih (fun i hi => h i (by omega))]; simp [h n (by omega)]
theorem LooseT.good (h : LooseT t t') (hG : GoodT t) : GoodT t' := by
  obtain ⟨_, hs, ha⟩ := hG.nums
  refine ⟨⟨by rw [h.len]; exact hG.h1, by rw [h.plots]; exact hG.h2, by rw [h.frm]; exact hG.h3, oP_false.2 ⟨by have := h.speed; omega, h.speed.2⟩, oP_false.2 ⟨by have := h.accel; omega, h.accel.2⟩⟩, fun j hj => ?_, fun j hj => ?_⟩
  · rw [h.len] at hj
    obtain ⟨e1, e2, e3, e4, e5, e6⟩ := h.tr j hj
    obtain ⟨h1, h2, h3⟩ := errTr_zero (hG.tr j hj)
    refine errTr_ok (by rw [e1]; exact h1) ?_ ?_
    · rw [← h2]; unfold dupB
      exact any_congr fun i hi => by rw [e1, (h.tr i (by omega)).1]
    · simp only [trOut, Bool.or_eq_false_iff] at h3 ⊢
      obtain ⟨⟨⟨⟨a1, a2⟩, a3⟩, a4⟩, a5⟩ := h3
      have b3 := oP_in a3
      have b4 := oP_in a4
      exact ⟨⟨⟨⟨by rw [e2]; exact a1, by rw [e3]; exact a2⟩, oP_false.2 (by omega)⟩, oP_false.2 (by omega)⟩, by rw [e6]; exact a5⟩
  · rw [h.plots] at hj
    obtain ⟨h1, h2, h3⟩ := errPl_zero (hG.pl j hj)
    refine errPl_ok (by rw [h.pl, h.len]; exact h1) (by rw [h.pl]; simpa only [plOut, h.frm] using h2) ?_
    rw [← h3, h.pl]; unfold seenB; rw [h.pl]
theorem LooseT.of (h : LooseT t t') (hG : GoodT t) {j : Nat} (hj : j < t.plots.length) : t'.trOf j = t'.tr (t.pl j).tracker.toNat ∧ (t.pl j).tracker.toNat < t.trackers.length := by
  have p := hG.plot hj
  have := p.tr0; have := p.tr1
  exact ⟨by rw [Task.trOf, h.pl], by omega⟩
theorem LooseT.far (h : LooseT t t') (hG : GoodT t) {j : Nat} (hj : j < t.plots.length) : farT t' j = farT t j := by
  obtain ⟨e, hb⟩ := h.of hG hj
  obtain ⟨_, e2, e3, _⟩ := h.tr _ hb
  unfold farT
  rw [e, e2, e3, h.pl]; rfl
theorem LooseT.slack (h : LooseT t t') (hG : GoodT t) {j : Nat} (hj : j < t.plots.length) (u : Int) : slackT t u j ≤ slackT t' u j := by
  obtain ⟨e, hb⟩ := h.of hG hj
  obtain ⟨_, _, _, e4, e5, _⟩ := h.tr _ hb
  have hk := km_bnd hG hj
  have h1 := Int.mul_le_mul_of_nonneg_right e5.1 hk.1
  have h2 := Int.mul_le_mul_of_nonneg_right h.speed.1 (show 0 ≤ apartI (t.pl j).tick u by unfold apartI; omega)
  unfold slackT widthT
  rw [h.far hG hj, e, h.pl]
  show (t.tr (t.pl j).tracker.toNat).error + (t.tr (t.pl j).tracker.toNat).grow * _ + _ ≤ _
  omega
theorem LooseT.known (h : LooseT t t') (hG : GoodT t) (now : Int) {j : Nat} (hj : j < t.plots.length) : knownB t' now j = knownB t now j := by
  obtain ⟨e, hb⟩ := h.of hG hj
  obtain ⟨_, _, _, _, _, e6⟩ := h.tr _ hb
  rw [knownB, knownB, e, e6, h.pl]; rfl
theorem LooseT.binds (h : LooseT t t') (hG : GoodT t) (now : Int) (want : Int → Bool) : Binds t (byT t now want) t' (byT t' now want) := by
  obtain ⟨_, hs, ha⟩ := hG.nums
  refine ⟨h.frm.symm, h.speed.1, ⟨by omega, h.accel.1⟩, fun n hn => reach_mono (by omega) (by omega) h.accel.1 h.speed.1 hn, fun i hi => ?_⟩
  obtain ⟨h0, h1⟩ := byT_bnd i hi
  obtain ⟨j, rfl⟩ := Int.eq_ofNat_of_zero_le h0
  obtain ⟨hj, hk, hw⟩ := mem_byT.1 hi
  rw [h.plots] at hj
  rw [h.known hG now hj] at hk
  rw [h.pl] at hw
  refine ⟨j, mem_byT.2 ⟨hj, hk, hw⟩, fun k u => ?_⟩
  have := h.slack hG hj u
  simp only [plotS, aroundS, InS, Int.toNat_natCast, h.pl]
  omega
theorem boxT_at {ps : List Int} {u : Int} {b : Box} (h : boxT t ps u = some b) : b.at_ = u := by
  obtain ⟨_, _, _, _, _, _, rfl⟩ := boxT_parts h; rfl
theorem joinB_mono {a b c d : Box} (h : InB a c) (h' : InB b d) : InB (joinB a b) (joinB c d) := by
  obtain ⟨h0, h1, h2, h3, h4, h5, h6⟩ := h
  obtain ⟨_, g1, g2, g3, g4, g5, g6⟩ := h'
  refine ⟨h0, ?_, ?_, ?_, ?_, ?_, ?_⟩ <;> (simp only [InS, joinB, joinS] at *; omega)
theorem joinB_right {a b c : Box} (h : InB a c) (hat : b.at_ = a.at_) : InB a (joinB b c) := by
  obtain ⟨h0, h1, h2, h3, h4, h5, h6⟩ := h
  refine ⟨hat.symm, ?_, ?_, ?_, ?_, ?_, ?_⟩ <;> (simp only [InS, joinB, joinS] at *; omega)
theorem others_mono {u now : Int} (hb : ∀ want, ∀ b, boxT t (byT t now want) u = some b → ∃ b', boxT t' (byT t' now want) u = some b' ∧ InB b b') : ∀ n : Nat,
    (∀ s, foldB (othersV t' u now n) = some s → s.at_ = u) ∧ (∀ s, foldB (othersV t u now n) = some s → s.at_ = u ∧ ∃ s', foldB (othersV t' u now n) = some s' ∧ InB s s') := by
  intro n
  induction n with
  | zero => exact ⟨fun s h => by simp [othersV, foldB] at h, fun s h => by simp [othersV, foldB] at h⟩
  | succ n ih =>
    obtain ⟨ih1, ih2⟩ := ih
    have e : ((n : Int) + 1).toNat = n + 1 := by omega
    have e2 : ((n : Int)).toNat = n := by omega
    have yes : ∀ {t0 : Task} {b : Box}, boxT t0 (byT t0 now fun x => decide (x ≠ (n : Int))) u = some b → foldB (othersV t0 u now (n + 1)) = addB (foldB (othersV t0 u now n)) b := by
      intro t0 b h
      have := foldB_yes (t := t0) (u := u) (now := now) (k := (n : Int)) (by omega) h
      rwa [e, e2] at this
    have no : ∀ {t0 : Task}, boxT t0 (byT t0 now fun x => decide (x ≠ (n : Int))) u = none → foldB (othersV t0 u now (n + 1)) = foldB (othersV t0 u now n) := by
      intro t0 h
      have := foldB_no (t := t0) (u := u) (now := now) (k := (n : Int)) (by omega) h
      rwa [e, e2] at this
    constructor
    · intro s hs
      cases h : boxT t' (byT t' now fun x => decide (x ≠ (n : Int))) u with
      | none => rw [no h] at hs; exact ih1 s hs
      | some b =>
        rw [yes h] at hs
        cases hf : foldB (othersV t' u now n) with
        | none => rw [hf] at hs; cases hs; exact boxT_at h
        | some x => rw [hf] at hs; cases hs; exact ih1 x hf
    · intro s hs
      cases h : boxT t (byT t now fun x => decide (x ≠ (n : Int))) u with
      | some b =>
        obtain ⟨b', e', i⟩ := hb _ b h
        rw [yes h] at hs
        rw [yes e']
        cases hf : foldB (othersV t u now n) with
        | none =>
          rw [hf] at hs
          cases hs
          refine ⟨boxT_at h, ?_⟩
          cases hf' : foldB (othersV t' u now n) with
          | none => exact ⟨_, rfl, i⟩
          | some x' => exact ⟨_, rfl, joinB_right i (by rw [ih1 x' hf', boxT_at h])⟩
        | some x =>
          rw [hf] at hs
          cases hs
          obtain ⟨hx, x', ex, ix⟩ := ih2 x hf
          rw [ex]
          exact ⟨hx, _, rfl, joinB_mono ix i⟩
      | none =>
        rw [no h] at hs
        obtain ⟨hx, x', ex, ix⟩ := ih2 s hs
        refine ⟨hx, ?_⟩
        cases h' : boxT t' (byT t' now fun x => decide (x ≠ (n : Int))) u with
        | none => rw [no h']; exact ⟨x', ex, ix⟩
        | some b' => rw [yes h', ex]; exact ⟨_, rfl, joinB_in ix⟩
theorem LooseT.spare (h : LooseT t t') (hG : GoodT t) {u now : Int} {s : Box} (hs : spareT t u now = some s) : ∃ s', spareT t' u now = some s' ∧ InB s s' := by
  unfold spareT at hs ⊢
  rw [h.len]
  split at hs
  · rename_i h0
    rw [if_pos h0]
    exact box_mono (h.binds hG now _) hs
  · rename_i h0
    rw [if_neg h0]
    exact ((others_mono (t := t) (t' := t') (u := u) (now := now) (fun want b hb => box_mono (h.binds hG now want) hb) t.trackers.length).2 s hs).2
theorem looseT_loose (hG : GoodT t) {a b c d : Int} (ha : 0 ≤ a ∧ a ≤ 65535) (hb : 0 ≤ b ∧ b ≤ 65535) (hc : 0 ≤ c ∧ c ≤ 65535) (hd : 0 ≤ d ∧ d ≤ 65535) : LooseT t (looseT t a b c d) := by
  obtain ⟨_, hs, hac⟩ := hG.nums
  refine ⟨rfl, ?_, ?_, rfl, by simp [looseT], fun j hj => ?_⟩
  · show t.speed ≤ min 1000000 (addW t.speed c) ∧ min 1000000 (addW t.speed c) ≤ 1000000
    rw [addW, wrap_in (by unfold InI; omega)]; omega
  · show t.accel ≤ min 1000000 (addW t.accel d) ∧ min 1000000 (addW t.accel d) ≤ 1000000
    rw [addW, wrap_in (by unfold InI; omega)]; omega
  · have e : (looseT t a b c d).tr j = looseTr (t.tr j) a b := by
      rw [Task.tr, Task.tr, List.getD_eq_getElem?_getD, List.getD_eq_getElem?_getD]
      show ((t.trackers.map fun x => looseTr x a b)[j]?).getD trZ = _
      rw [List.getElem?_map, List.getElem?_eq_getElem hj]; rfl
    have q := hG.track hj
    obtain ⟨q1, q2, q3, q4, q5⟩ := q
    rw [e]
    refine ⟨rfl, rfl, rfl, ?_, ?_, rfl⟩
    · show (t.tr j).error ≤ min 10000000 (addW (t.tr j).error a) ∧ _
      rw [addW, wrap_in (by unfold InI; omega)]
      show _ ∧ min 10000000 (addW (t.tr j).error a) ≤ _
      omega
    · show (t.tr j).grow ≤ min 10000 (addW (t.tr j).grow b) ∧ _
      rw [addW, wrap_in (by unfold InI; omega)]
      show _ ∧ min 10000 (addW (t.tr j).grow b) ≤ _
      omega
/-- what TrackLooser asks -/
theorem loose_where {a b c d : Int} (ha : 0 ≤ a ∧ a ≤ 65535) (hb : 0 ≤ b ∧ b ≤ 65535) (hc : 0 ≤ c ∧ c ≤ 65535) (hd : 0 ≤ d ∧ d ≤ 65535) {u now : Int} (h : (whereP t u now).2 = 0) : (whereP (looseT t a b c d) u now).2 = 0 ∧ InB (whereP t u now).1 (whereP (looseT t a b c d) u now).1 := by
  obtain ⟨h0, hb0⟩ := whereP_2 h
  have hG := (asked_zero h0).1
  have hl := looseT_loose hG ha hb hc hd
  obtain ⟨b', e, i⟩ := box_mono (hl.binds hG now fun _ => true) hb0
  rw [whereP_some (asked_good (hl.good hG) (asked_any0 h0)) e]
  exact ⟨rfl, i⟩
theorem loose_spare {a b c d : Int} (ha : 0 ≤ a ∧ a ≤ 65535) (hb : 0 ≤ b ∧ b ≤ 65535) (hc : 0 ≤ c ∧ c ≤ 65535) (hd : 0 ≤ d ∧ d ≤ 65535) {u now : Int} (h : (spareP t u now).2 = 0) : (spareP (looseT t a b c d) u now).2 = 0 ∧ InB (spareP t u now).1 (spareP (looseT t a b c d) u now).1 := by
  obtain ⟨h0, hb0⟩ := spareP_ok h
  have hG := (asked_zero h0).1
  have hl := looseT_loose hG ha hb hc hd
  obtain ⟨b', e, i⟩ := hl.spare hG hb0
  rw [spareP_some (asked_good (hl.good hG) (asked_any0 h0)) e]
  exact ⟨rfl, i⟩
end

/-! ### the trackers, one by one -/
def looseL (l : List Tracker) (a b : Int) (n : Nat) : List Tracker := (l.take n).map (fun x => looseTr x a b) ++ l.drop n
theorem looseL_len {l : List Tracker} {a b : Int} (n : Nat) : (looseL l a b n).length = l.length := by simp [looseL]; omega
theorem looseL_end {l : List Tracker} {a b : Int} : looseL l a b l.length = l.map fun x => looseTr x a b := by simp [looseL]
theorem trackers_set : ∀ (l : List Tracker) (i : Nat) (x : Tracker) (e g : Int), l[i]? = some x →
    ((l.set i ⟨x.name, x.x, x.y, e, g, x.late⟩).map Tracker.cells).flatten = (((l.map Tracker.cells).flatten.set (0 + i * 6 + 3) (.int .i64 e)).set (0 + i * 6 + 4) (.int .i64 g)) := by
  intro l
  induction l with
  | nil => intro i x e g h; simp at h
  | cons p l ih =>
    intro i x e g h
    cases i with
    | zero => simp only [List.getElem?_cons_zero, Option.some.injEq] at h; subst h; rfl
    | succ i =>
      have := ih i x e g (by simpa using h)
      have e3 : 0 + (i + 1) * 6 + 3 = (0 + i * 6 + 3) + 1 + 1 + 1 + 1 + 1 + 1 := by omega
      have e4 : 0 + (i + 1) * 6 + 4 = (0 + i * 6 + 4) + 1 + 1 + 1 + 1 + 1 + 1 := by omega
      rw [e3, e4]
      show p.cells ++ ((l.set i _).map Tracker.cells).flatten = _
      rw [this]; rfl
theorem looseL_succ {l : List Tracker} {a b : Int} {n : Nat} (h : n < l.length) : (looseL l a b n)[n]? = some (l.getD n trZ) ∧ looseL l a b (n + 1) = (looseL l a b n).set n (looseTr (l.getD n trZ) a b) := by
  have hg : l.getD n trZ = l[n] := by rw [List.getD_eq_getElem?_getD, List.getElem?_eq_getElem h]; rfl
  have ht : ((l.take n).map fun x => looseTr x a b).length = n := by simp; omega
  rw [hg]
  constructor
  · rw [looseL, List.getElem?_append_right (by omega), ht, Nat.sub_self, List.getElem?_drop, Nat.add_zero, List.getElem?_eq_getElem h]
  · have hd : l.drop n = l[n] :: l.drop (n + 1) := List.drop_eq_getElem_cons h
    rw [looseL, looseL, List.set_append_right _ _ (by omega), ht, Nat.sub_self, hd, List.set_cons_zero, List.take_succ_eq_append_getElem h, List.map_append, List.append_assoc]
    rfl
theorem TaskR.loose {w : World} {t : Task} {a b c d : Int} {tv pv tv' : Value} (h : TaskR w (.agg #[.int .i64 t.frm, .int .i64 t.speed, .int .i64 t.accel, tv, pv]) t) (hs : SliceR w 6 tv' ((t.trackers.map fun x => looseTr x a b).map Tracker.cells)) :
    TaskR w (.agg #[.int .i64 t.frm, .int .i64 (min 1000000 (addW t.speed c)), .int .i64 (min 1000000 (addW t.accel d)), tv', pv]) (looseT t a b c d) :=
  ⟨fun x hx => by obtain ⟨y, hy, rfl⟩ := List.mem_map.1 (show x ∈ t.trackers.map fun x => looseTr x a b from hx); exact h.names y hy, by show ((t.trackers.map fun x => looseTr x a b).length : Int) ≤ _; rw [List.length_map]; exact h.ltr, h.lpl, tv', pv, rfl, hs, h.lit.2.2.2.2⟩
theorem Grow.loose {el n c : Nat} {b : Nat} {cur : Array Value} {l : List Tracker} {k : Nat} {p q : Int} (h1 : n ≤ c) (h2 : c ≤ maxLen) (h3 : cur.size = c * 6) (h4 : cur.toList.take (n * 6) = ((looseL l p q k).map Tracker.cells).flatten) (hn : n = l.length) (hk : k < l.length) :
    Grow el 6 (.slice (some ⟨b, 0, none⟩) n c) n ((looseL l p q (k + 1)).map Tracker.cells).flatten
      [(b, .cells ((cur.toList.set (0 + k * 6 + 3) (.int .i64 (min 10000000 (addW (l.getD k trZ).error p)))).set (0 + k * 6 + 4) (.int .i64 (min 10000 (addW (l.getD k trZ).grow q)))).toArray el)] := by
  obtain ⟨e1, e2⟩ := looseL_succ (a := p) (b := q) hk
  have e3 := trackers_set (looseL l p q k) k _ (min 10000000 (addW (l.getD k trZ).error p)) (min 10000 (addW (l.getD k trZ).grow q)) e1
  refine .row h1 h2 (by simp [h3]) ?_ (by rw [tr_flat_len, looseL_len, hn])
  rw [e2]
  show _ = ((List.set _ k ⟨_, _, _, _, _, _⟩).map Tracker.cells).flatten
  rw [← h4] at e3
  simp only [List.take_set]
  exact e3.symm
end Go.Tk
