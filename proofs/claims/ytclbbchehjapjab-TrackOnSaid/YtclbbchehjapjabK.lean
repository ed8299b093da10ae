/- Layer 5: plots that are not known change nothing. -/
import Derived.Test.YtclbbchehjapjabY
set_option linter.all false
namespace Go.Tk
open Go.Vc

/-- two tasks with the same boxes at a tick -/
structure SameW (t t' : Task) (u now : Int) : Prop where
  asked : askedT t' [u, now] = askedT t [u, now]
  tr : t'.trackers = t.trackers
  box : ∀ want, boxT t' (byT t' now want) u = boxT t (byT t now want) u
section
variable {t t' : Task} {u now : Int}
theorem SameW.wher (h : SameW t t' u now) : whereP t' u now = whereP t u now := by unfold whereP; rw [h.asked, h.box]
theorem SameW.spareT (h : SameW t t' u now) : spareT t' u now = spareT t u now := by
  unfold Tk.spareT othersV; simp only [h.tr, h.box]
theorem SameW.spare (h : SameW t t' u now) : spareP t' u now = spareP t u now := by unfold spareP; rw [h.asked, h.spareT]
theorem SameW.bestN (h : SameW t t' u now) (s : Box) : ∀ n, bestN t' s u now n = bestN t s u now n := by
  intro n
  induction n with
  | zero => rfl
  | succ n ih => simp only [Tk.bestN, ih, ownT, h.box]
theorem SameW.best (h : SameW t t' u now) : bestP t' u now = bestP t u now := by
  unfold bestP; simp only [h.spare, h.bestN, h.tr]
theorem asked_both (hG : GoodT t) (hG' : GoodT t') (l : List Int) : askedT t' l = askedT t l := by
  unfold askedT
  rw [checkT_ok hG.toHead hG.tr hG.pl, checkT_ok hG'.toHead hG'.tr hG'.pl]

/-! ### other plots said -/
structure SayT (t t' : Task) (now : Int) : Prop where
  frm : t'.frm = t.frm
  speed : t'.speed = t.speed
  accel : t'.accel = t.accel
  trackers : t'.trackers = t.trackers
  len : t'.plots.length = t.plots.length
  pl : ∀ j, j < t.plots.length → (t'.pl j).tracker = (t.pl j).tracker ∧ (t'.pl j).tick = (t.pl j).tick ∧ (knownB t now j = true → t'.pl j = t.pl j) ∧
    (-2000000000 ≤ (t'.pl j).x ∧ (t'.pl j).x ≤ 2000000000) ∧ (-2000000000 ≤ (t'.pl j).y ∧ (t'.pl j).y ≤ 2000000000) ∧ (-2000000000 ≤ (t'.pl j).z ∧ (t'.pl j).z ≤ 2000000000)
theorem SayT.tr_eq (h : SayT t t' now) : Task.tr t' = Task.tr t := by funext i; rw [Task.tr, Task.tr, h.trackers]
theorem SayT.good (h : SayT t t' now) (hG : GoodT t) : GoodT t' := by
  refine ⟨⟨by rw [h.trackers]; exact hG.h1, by rw [h.len]; exact hG.h2, by rw [h.frm]; exact hG.h3, by rw [h.speed]; exact hG.h4, by rw [h.accel]; exact hG.h5⟩, fun j hj => ?_, fun j hj => ?_⟩
  · rw [h.trackers] at hj
    have := hG.tr j hj
    have e : errTr t' j = errTr t j := by unfold errTr dupB; rw [h.tr_eq]
    rwa [e]
  · rw [h.len] at hj
    obtain ⟨e1, e2, _, bx, by_, bz⟩ := h.pl j hj
    obtain ⟨h1, h2, h3⟩ := errPl_zero (hG.pl j hj)
    refine errPl_ok (by rw [e1, h.trackers]; exact h1) ?_ ?_
    · simp only [plOut, Bool.or_eq_false_iff, h.frm, e2] at h2 ⊢
      exact ⟨h2.1, oP_false.2 bx, oP_false.2 by_, oP_false.2 bz⟩
    · refine seenB_none fun i hi => ?_
      obtain ⟨a1, a2, _⟩ := h.pl i (by omega)
      rw [e1, e2, a1, a2]
      exact no_dup hG (by omega) hj (by omega)
theorem SayT.trOf (h : SayT t t' now) {j : Nat} (hj : j < t.plots.length) : t'.trOf j = t.trOf j := by
  rw [Task.trOf, Task.trOf, (h.pl j hj).1, h.tr_eq]
theorem SayT.known (h : SayT t t' now) {j : Nat} (hj : j < t.plots.length) : knownB t' now j = knownB t now j := by
  rw [knownB, knownB, h.trOf hj, (h.pl j hj).2.1]
theorem SayT.plotS (h : SayT t t' now) {j : Nat} (hj : j < t.plots.length) (hk : knownB t now j = true) (k u : Int) : plotS t' k u j = plotS t k u j := by
  have e := (h.pl j hj).2.2.1 hk
  simp only [Tk.plotS, slackT, widthT, farT, h.trOf hj, Int.toNat_natCast, e, h.speed]
theorem SayT.binds (h : SayT t t' now) (hG : GoodT t) (want : Int → Bool) : Binds t (byT t now want) t' (byT t' now want) := by
  obtain ⟨_, _, ha⟩ := hG.nums
  refine ⟨h.frm.symm, by rw [h.speed]; exact Int.le_refl _, by rw [h.accel]; exact ⟨by omega, Int.le_refl _⟩, fun n _ => by simp only [reachT, capT, h.speed, h.accel]; exact Int.le_refl _, fun i hi => ?_⟩
  obtain ⟨h0, h1⟩ := byT_bnd i hi
  obtain ⟨j, rfl⟩ := Int.eq_ofNat_of_zero_le h0
  obtain ⟨hj, hk, hw⟩ := mem_byT.1 hi
  rw [h.len] at hj
  rw [h.known hj] at hk
  exact ⟨j, mem_byT.2 ⟨hj, hk, by rw [← (h.pl j hj).1]; exact hw⟩, fun k u => by rw [h.plotS hj hk]; exact ⟨Int.le_refl _, Int.le_refl _⟩⟩
theorem SayT.rbinds (h : SayT t t' now) (hG : GoodT t) (want : Int → Bool) : Binds t' (byT t' now want) t (byT t now want) := by
  obtain ⟨_, _, ha⟩ := hG.nums
  refine ⟨h.frm, by rw [h.speed]; exact Int.le_refl _, by rw [h.accel]; exact ⟨by omega, Int.le_refl _⟩, fun n _ => by simp only [reachT, capT, h.speed, h.accel]; exact Int.le_refl _, fun i hi => ?_⟩
  obtain ⟨h0, h1⟩ := byT_bnd i hi
  obtain ⟨j, rfl⟩ := Int.eq_ofNat_of_zero_le h0
  obtain ⟨hj, hk, hw⟩ := mem_byT.1 hi
  exact ⟨j, mem_byT.2 ⟨by rw [h.len]; exact hj, by rw [h.known hj]; exact hk, by rw [(h.pl j hj).1]; exact hw⟩, fun k u => by rw [h.plotS hj hk]; exact ⟨Int.le_refl _, Int.le_refl _⟩⟩
theorem SayT.same (h : SayT t t' now) (hG : GoodT t) (u : Int) : SameW t t' u now :=
  ⟨asked_both hG (h.good hG) _, h.trackers, fun want => (box_same (h.binds hG want) (h.rbinds hG want) u).symm⟩
end

def saidL (t : Task) (now a b c : Int) (n : Nat) : List Plot := (List.range t.plots.length).map fun j => if j < n ∧ knownB t now j = false then ⟨(t.pl j).tracker, (t.pl j).tick, a, b, c⟩ else t.pl j
section
variable {t : Task} {now a b c : Int}
theorem saidL_len (n : Nat) : (saidL t now a b c n).length = t.plots.length := by simp [saidL]
theorem saidL_zero : saidL t now a b c 0 = t.plots := by
  refine List.ext_getElem (by rw [saidL_len]) fun i h1 h2 => ?_
  simp [saidL, Task.pl, List.getD_eq_getElem?_getD, List.getElem?_eq_getElem h2]
theorem saidL_yes {k : Int} (hk : 0 ≤ k) (h : knownB t now k.toNat = true) : saidL t now a b c (k + 1).toNat = saidL t now a b c k.toNat := by
  unfold saidL
  refine List.map_congr_left fun j _ => ?_
  have e : (k + 1).toNat = k.toNat + 1 := by omega
  rw [e]
  by_cases hj : j = k.toNat
  · subst hj; rw [if_neg (fun hh => by rw [h] at hh; cases hh.2), if_neg (fun hh => by rw [h] at hh; cases hh.2)]
  · by_cases hl : j < k.toNat ∧ knownB t now j = false
    · rw [if_pos hl, if_pos ⟨by omega, hl.2⟩]
    · rw [if_neg hl, if_neg (fun hh => hl ⟨by omega, hh.2⟩)]
theorem saidL_no {k : Int} (hk : 0 ≤ k) (hl : k < t.plots.length) (h : knownB t now k.toNat = false) :
    saidL t now a b c (k + 1).toNat = (saidL t now a b c k.toNat).set k.toNat ⟨(t.pl k.toNat).tracker, (t.pl k.toNat).tick, a, b, c⟩ ∧ (saidL t now a b c k.toNat).getD k.toNat plZ = t.pl k.toNat := by
  have e : (k + 1).toNat = k.toNat + 1 := by omega
  constructor
  · refine List.ext_getElem (by rw [List.length_set, saidL_len, saidL_len]) fun j h1 h2 => ?_
    rw [List.getElem_set]
    simp only [saidL, List.getElem_map, List.getElem_range, e]
    by_cases hj : k.toNat = j
    · subst hj; rw [if_pos rfl, if_pos ⟨by omega, h⟩]
    · rw [if_neg hj]
      by_cases hh : j < k.toNat ∧ knownB t now j = false
      · rw [if_pos hh, if_pos ⟨by omega, hh.2⟩]
      · rw [if_neg hh, if_neg (fun x => hh ⟨by omega, x.2⟩)]
  · rw [List.getD_eq_getElem?_getD, List.getElem?_eq_getElem (by rw [saidL_len]; omega)]
    simp only [saidL, List.getElem_map, List.getElem_range, Option.getD_some]
    rw [if_neg (fun hh => Nat.lt_irrefl _ hh.1)]
theorem plots_set : ∀ (l : List Plot) (i : Nat) (a b c : Int), i < l.length →
    ((l.set i ⟨(l.getD i plZ).tracker, (l.getD i plZ).tick, a, b, c⟩).map Plot.cells).flatten = ((((l.map Plot.cells).flatten.set (0 + i * 5 + 2) (.int .i64 a)).set (0 + i * 5 + 3) (.int .i64 b)).set (0 + i * 5 + 4) (.int .i64 c)) := by
  intro l
  induction l with
  | nil => intro i a b c h; simp at h
  | cons p l ih =>
    intro i a b c h
    cases i with
    | zero => rfl
    | succ i =>
      have h' : i < l.length := by simpa using h
      have := ih i a b c h'
      have e2 : 0 + (i + 1) * 5 + 2 = (0 + i * 5 + 2) + 1 + 1 + 1 + 1 + 1 := by omega
      have e3 : 0 + (i + 1) * 5 + 3 = (0 + i * 5 + 3) + 1 + 1 + 1 + 1 + 1 := by omega
      have e4 : 0 + (i + 1) * 5 + 4 = (0 + i * 5 + 4) + 1 + 1 + 1 + 1 + 1 := by omega
      rw [e2, e3, e4]
      show p.cells ++ ((l.set i ⟨(l.getD i plZ).tracker, (l.getD i plZ).tick, a, b, c⟩).map Plot.cells).flatten = _
      rw [this]; rfl
def saidT (t : Task) (now a b c : Int) : Task := ⟨t.frm, t.speed, t.accel, t.trackers, saidL t now a b c t.plots.length⟩
theorem saidT_say (hG : GoodT t) (ha : -2000000000 ≤ a ∧ a ≤ 2000000000) (hb : -2000000000 ≤ b ∧ b ≤ 2000000000) (hc : -2000000000 ≤ c ∧ c ≤ 2000000000) : SayT t (saidT t now a b c) now := by
  refine ⟨rfl, rfl, rfl, rfl, saidL_len _, fun j hj => ?_⟩
  have e : (saidT t now a b c).pl j = if j < t.plots.length ∧ knownB t now j = false then ⟨(t.pl j).tracker, (t.pl j).tick, a, b, c⟩ else t.pl j := by
    rw [Task.pl, List.getD_eq_getElem?_getD, List.getElem?_eq_getElem (show j < (saidT t now a b c).plots.length by show j < (saidL _ _ _ _ _ _).length; rw [saidL_len]; exact hj)]
    simp [saidT, saidL]
  rw [e]
  split
  · rename_i h
    exact ⟨rfl, rfl, (fun hh => by rw [h.2] at hh; cases hh), ha, hb, hc⟩
  · exact ⟨rfl, rfl, fun _ => rfl, part_bnd hG hj 0, part_bnd hG hj 1, part_bnd hG hj 2⟩

/-! ### the others left out -/
def lessL (t : Task) (now : Int) (n : Nat) : List Plot := (knownN t now n).map fun i => t.pl i.toNat
theorem lessL_yes {k : Int} (hk : 0 ≤ k) (h : knownB t now k.toNat = true) : lessL t now (k + 1).toNat = lessL t now k.toNat ++ [t.pl k.toNat] := by
  rw [lessL, knownN_yes hk h, List.map_append]; rfl
theorem lessL_no {k : Int} (hk : 0 ≤ k) (h : knownB t now k.toNat = false) : lessL t now (k + 1).toNat = lessL t now k.toNat := by rw [lessL, knownN_no hk h]; rfl
theorem lessL_len (n : Nat) : (lessL t now n).length ≤ n := by rw [lessL, List.length_map]; exact knownN_len n
def lessT (t : Task) (now : Int) : Task := ⟨t.frm, t.speed, t.accel, t.trackers, lessL t now t.plots.length⟩
theorem nodup_inj {l : List Int} (h : l.Nodup) {i j : Nat} (hi : i < l.length) (hj : j < l.length) (e : l.getD i 0 = l.getD j 0) : i = j := by
  rw [List.getD_eq_getElem?_getD, List.getD_eq_getElem?_getD, List.getElem?_eq_getElem hi, List.getElem?_eq_getElem hj] at e
  simp only [Option.getD_some] at e
  have hp := List.pairwise_iff_getElem.1 h
  rcases Nat.lt_trichotomy i j with hl | he | hl
  · exact absurd e (hp i j hi hj hl)
  · exact he
  · exact absurd e.symm (hp j i hj hi hl)
theorem knownN_nodup (n : Nat) : (knownN t now n).Nodup := by
  unfold knownN
  have h : ((List.range n).filter (knownB t now)).Nodup := List.nodup_range.filter _
  refine List.Pairwise.map (R := fun a b : Nat => a ≠ b) _ (fun a b (h : a ≠ b) hh => h (by have : (a : Int) = b := hh; omega)) h
theorem lessT_sub (now : Int) : SubT t (lessT t now) (fun j => ((knownN t now t.plots.length).getD j 0).toNat) := by
  have hlen : (lessT t now).plots.length = (knownN t now t.plots.length).length := by show (lessL _ _ _).length = _; rw [lessL, List.length_map]
  have hb : ∀ j, j < (lessT t now).plots.length → 0 ≤ (knownN t now t.plots.length).getD j 0 ∧ (knownN t now t.plots.length).getD j 0 < t.plots.length := fun j hj => knownN_bnd _ (getD_mem (by omega))
  refine ⟨rfl, rfl, rfl, rfl, lessL_len _, fun j hj => ⟨by have := hb j hj; omega, ?_⟩, fun i j hi hj e => nodup_inj (knownN_nodup (t := t) (now := now) t.plots.length) (by omega) (by omega) (by have := hb i hi; have := hb j hj; omega)⟩
  rw [Task.pl, List.getD_eq_getElem?_getD]
  rw [hlen] at hj
  have : (lessT t now).plots[j]? = some (t.pl ((knownN t now t.plots.length).getD j 0).toNat) := by
    show ((knownN t now t.plots.length).map fun i => t.pl i.toNat)[j]? = _
    rw [List.getElem?_map, List.getD_eq_getElem?_getD, List.getElem?_eq_getElem hj]; rfl
  rw [this]; rfl
theorem lessT_same (hG : GoodT t) (u : Int) : SameW t (lessT t now) u now := by
  have h := lessT_sub (t := t) now
  refine ⟨asked_both hG (h.good hG) _, rfl, fun want => (box_same (h.binds hG now want) (h.rbinds hG now want fun i hi hk => ?_) u).symm⟩
  have hm : (i : Int) ∈ knownN t now t.plots.length := by
    rw [knownN, List.mem_map]
    exact ⟨i, List.mem_filter.2 ⟨List.mem_range.2 hi, hk⟩, rfl⟩
  obtain ⟨j, hj, e⟩ := List.getElem_of_mem hm
  refine ⟨j, by show j < (lessL _ _ _).length; rw [lessL, List.length_map]; exact hj, ?_⟩
  rw [List.getD_eq_getElem?_getD, List.getElem?_eq_getElem hj]
  show (_ : Int).toNat = i
  rw [e]; exact Int.toNat_natCast i
theorem known_any {k : Int} (hk : 0 ≤ k) (hl : k < t.plots.length) : ((knownN t now t.plots.length).any fun i => decide (i = k)) = knownB t now k.toNat := by
  cases h : knownB t now k.toNat with
  | true =>
    rw [List.any_eq_true]
    refine ⟨k, ?_, by simp⟩
    rw [knownN, List.mem_map]
    exact ⟨k.toNat, List.mem_filter.2 ⟨List.mem_range.2 (by omega), h⟩, by show ((k.toNat : Nat) : Int) = k; omega⟩
  | false =>
    rw [List.any_eq_false]
    intro i hi
    rw [knownN, List.mem_map] at hi
    obtain ⟨j, hj, rfl⟩ := hi
    have hj2 := (List.mem_filter.1 hj).2
    simp only [decide_eq_true_eq]
    intro e
    have : j = k.toNat := by have : (j : Int) = k := e; omega
    subst this
    rw [h] at hj2; cases hj2
theorem ii_at {l : List Int} {k : Int} (h0 : 0 ≤ k) (h : k < l.length) : (iiL l)[0 + k.toNat * 1]? = some (.int .i64 (l.getD k.toNat 0)) := by
  have e : 0 + k.toNat * 1 = k.toNat := by omega
  rw [e, iiL, List.getElem?_map, List.getD_eq_getElem?_getD, List.getElem?_eq_getElem (by omega)]; rfl
theorem any_snoc {l : List Int} {k : Int} {p : Int → Bool} (h0 : 0 ≤ k) (h : k < l.length) : (l.take (k + 1).toNat).any p = ((l.take k.toNat).any p || p (l.getD k.toNat 0)) := by
  have e : (k + 1).toNat = k.toNat + 1 := by omega
  rw [e, take_snoc (d := 0) (by omega), List.any_append]; simp
theorem tmod_place (n : Int) : -2000000000 ≤ n.tmod 2000000000 ∧ n.tmod 2000000000 ≤ 2000000000 := ⟨Int.le_of_lt (Int.lt_tmod_of_pos n (by decide)), Int.le_of_lt (Int.tmod_lt_of_pos n (by decide))⟩
theorem Grow.sets {el n c : Nat} {b : Nat} {cur : Array Value} {l : List Plot} {i : Nat} {x y z : Int} (h1 : n ≤ c) (h2 : c ≤ maxLen) (h3 : cur.size = c * 5) (h4 : cur.toList.take (n * 5) = (l.map Plot.cells).flatten) (hn : n = l.length) (hi : i < l.length) :
    Grow el 5 (.slice (some ⟨b, 0, none⟩) n c) n ((l.set i ⟨(l.getD i plZ).tracker, (l.getD i plZ).tick, x, y, z⟩).map Plot.cells).flatten
      [(b, .cells (((cur.toList.set (0 + i * 5 + 2) (.int .i64 x)).set (0 + i * 5 + 3) (.int .i64 y)).set (0 + i * 5 + 4) (.int .i64 z)).toArray el)] := by
  rw [plots_set l i x y z hi]
  refine .row h1 h2 (by simp [h3]) ?_ (by simp only [List.length_set]; rw [pl_flat_len, hn])
  rw [← h4]; simp only [List.take_set]
end
end Go.Tk
namespace Go.Vc
theorem SetAt.app {b : Nat} {o o' : Obj} {H H' : Heap} (h : SetAt H b o o' H') : ∀ A : Heap, SetAt (A ++ H) b o o' (A ++ H')
  | [] => h
  | _ :: A => .tail (h.app A)
end Go.Vc
