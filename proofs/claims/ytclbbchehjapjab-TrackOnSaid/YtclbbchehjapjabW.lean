/- Layer 5: boxes are not empty; spare boxes as the reference reckons them. -/
import Derived.Test.YtclbbchehjapjabV
set_option linter.all false
namespace Go.Tk
open Go.Vc

theorem isSome_ex {o : Option Box} (h : o.isSome = true) : ∃ a, o = some a := ⟨_, isSome_get h⟩
theorem notk_t {x : Bool} (h : x = true) : (!x) = false := by rw [h]; rfl
theorem notk_f {x : Bool} (h : x = false) : (!x) = true := by rw [h]; rfl

/-- no span of the box is empty -/
structure BoxNe (b : Box) : Prop where
  x : b.x.lo ≤ b.x.hi
  y : b.y.lo ≤ b.y.hi
  z : b.z.lo ≤ b.z.hi
  vx : b.vx.lo ≤ b.vx.hi
  vy : b.vy.lo ≤ b.vy.hi
  vz : b.vz.lo ≤ b.vz.hi

theorem none_false {s : Span} (h : s.none = false) : s.lo ≤ s.hi := by
  simp only [Span.none, decide_eq_false_iff_not] at h; omega
theorem none_true {s : Span} (h : s.none = true) : s.hi < s.lo := by
  simpa only [Span.none, decide_eq_true_eq] using h
theorem fastT_ne {t : Task} {ps : List Int} {k u : Int} {s : Span} (h : fastT t ps k u = some s) : s.lo ≤ s.hi := by
  unfold fastT at h
  split at h
  · cases h; exact Int.le_refl _
  · cases hf : fastN t ps k u 8 with
    | none => rw [hf] at h; cases h
    | some r =>
      rw [hf] at h
      simp only [Option.bind_some] at h
      split at h
      · cases h
      · rename_i hn
        cases h
        exact none_false (by cases hh : s.none <;> simp_all)
theorem partT_ne {t : Task} {ps : List Int} {k u : Int} {a : Span × Span} (h : partT t ps k u = some a) : a.1.lo ≤ a.1.hi ∧ a.2.lo ≤ a.2.hi := by
  unfold partT at h
  cases hf : fastT t ps k u with
  | none => rw [hf] at h; cases h
  | some v =>
    rw [hf] at h
    simp only [Option.bind_some] at h
    split at h
    · cases h
    · rename_i hn
      cases h
      exact ⟨none_false (by cases hh : (placeT t ps k u).none <;> simp_all), fastT_ne hf⟩
theorem boxT_parts {t : Task} {ps : List Int} {u : Int} {b : Box} (h : boxT t ps u = some b) : ∃ p0 p1 p2, partT t ps 0 u = some p0 ∧ partT t ps 1 u = some p1 ∧ partT t ps 2 u = some p2 ∧ b = ⟨u, p0.1, p1.1, p2.1, p0.2, p1.2, p2.2⟩ := by
  unfold boxT at h
  cases h0 : partT t ps 0 u with
  | none => rw [h0] at h; cases h
  | some p0 =>
    cases h1 : partT t ps 1 u with
    | none => rw [h0, Option.bind_some, h1] at h; cases h
    | some p1 =>
      cases h2 : partT t ps 2 u with
      | none => rw [h0, Option.bind_some, h1, Option.bind_some, h2] at h; cases h
      | some p2 =>
        rw [h0, Option.bind_some, h1, Option.bind_some, h2] at h
        simp only [Option.bind_some, Option.some.injEq] at h
        exact ⟨p0, p1, p2, rfl, rfl, rfl, h.symm⟩
theorem boxT_ne {t : Task} {ps : List Int} {u : Int} {b : Box} (h : boxT t ps u = some b) : BoxNe b := by
  obtain ⟨p0, p1, p2, h0, h1, h2, rfl⟩ := boxT_parts h
  exact ⟨(partT_ne h0).1, (partT_ne h1).1, (partT_ne h2).1, (partT_ne h0).2, (partT_ne h1).2, (partT_ne h2).2⟩
theorem joinB_ne {a b : Box} (ha : BoxNe a) : BoxNe (joinB a b) := by
  obtain ⟨h1, h2, h3, h4, h5, h6⟩ := ha
  constructor <;> (simp only [joinB, joinS]; omega)
theorem foldl_ne {l : List (Int × Box)} : ∀ (acc : Option Box), (∀ b, acc = some b → BoxNe b) → (∀ p ∈ l, BoxNe p.2) → ∀ b, l.foldl (fun acc p => addB acc p.2) acc = some b → BoxNe b := by
  induction l with
  | nil => intro acc h _ b hb; exact h b hb
  | cons p l ih =>
    intro acc h hp b hb
    refine ih (addB acc p.2) ?_ (fun q hq => hp q (.tail _ hq)) b hb
    intro c hc
    cases acc with
    | none => cases hc; exact hp p (.head _)
    | some a => cases hc; exact joinB_ne (h a rfl)
theorem others_mem {t : Task} {u now : Int} {n : Nat} {p : Int × Box} (h : p ∈ othersV t u now n) : boxT t (byT t now (fun x => decide (x ≠ p.1))) u = some p.2 ∧ 0 ≤ p.1 ∧ p.1 < n := by
  rw [othersV, List.mem_filterMap] at h
  obtain ⟨i, hi, h⟩ := h
  have hin := List.mem_range.1 hi
  cases hb : boxT t (byT t now (fun x => decide (x ≠ (i : Int)))) u with
  | none => rw [hb] at h; cases h
  | some b =>
    rw [hb] at h
    simp only [Option.map_some, Option.some.injEq] at h
    subst h
    exact ⟨hb, by simp only []; omega, by simp only []; omega⟩
theorem spareT_ne {t : Task} {u now : Int} {b : Box} (h : spareT t u now = some b) : BoxNe b := by
  unfold spareT at h
  split at h
  · exact boxT_ne h
  · exact foldl_ne none (fun _ h => by cases h) (fun p hp => boxT_ne (others_mem hp).1) b h

theorem want_butF (i : Int) : wantR i (-1) = fun x => decide (x ≠ i) := by funext x; exact want_but
theorem own_ref {t : Task} (hG : GoodT t) {u now k : Int} (hk : 0 ≤ k) : boxT t (byT t now (wantR (-1) k)) u = ownT t u now k := by
  rw [ownT, byT_congr hG (w1 := wantR (-1) k) (w2 := fun x => decide (x = k)) (fun x h0 _ => want_own h0 hk)]
theorem all_ref {t : Task} (hG : GoodT t) {u now : Int} : boxT t (byT t now (wantR (-1) (-1))) u = boxT t (byT t now fun _ => true) u := by
  rw [byT_congr hG (w1 := wantR (-1) (-1)) (w2 := fun _ => true) (fun x h0 _ => want_all h0)]
theorem byT_none {t : Task} (hG : GoodT t) (now : Int) (want : Int → Bool) (h : t.trackers.length = 0) : byT t now want = [] := by
  cases hb : byT t now want with
  | nil => rfl
  | cons i l =>
    have h1 := byT_bnd (t := t) (now := now) (want := want) i (by rw [hb]; exact .head _)
    have := hG.plot (i := i.toNat) (by omega)
    have h2 := this.tr0
    have h3 := this.tr1
    omega
theorem foldB_yes {t : Task} {u now k : Int} {b : Box} (hk : 0 ≤ k) (h : boxT t (byT t now (fun x => decide (x ≠ k))) u = some b) : foldB (othersV t u now (k + 1).toNat) = addB (foldB (othersV t u now k.toNat)) b := by
  rw [othersV_yes hk h, foldB_snoc]
theorem foldB_no {t : Task} {u now k : Int} (hk : 0 ≤ k) (h : boxT t (byT t now (fun x => decide (x ≠ k))) u = none) : foldB (othersV t u now (k + 1).toNat) = foldB (othersV t u now k.toNat) := by
  rw [othersV_no hk h]
theorem fstV_yes {t : Task} {u now k : Int} {b : Box} (hk : 0 ≤ k) (h : boxT t (byT t now (fun x => decide (x ≠ k))) u = some b) : (othersV t u now (k + 1).toNat).map Prod.fst = (othersV t u now k.toNat).map Prod.fst ++ [k] := by
  rw [othersV_yes hk h, List.map_append]; rfl
theorem fstV_no {t : Task} {u now k : Int} (hk : 0 ≤ k) (h : boxT t (byT t now (fun x => decide (x ≠ k))) u = none) : (othersV t u now (k + 1).toNat).map Prod.fst = (othersV t u now k.toNat).map Prod.fst := by
  rw [othersV_no hk h]
theorem fstV_len {t : Task} {u now : Int} {n : Nat} : ((othersV t u now n).map Prod.fst).length ≤ n := by
  have h := othersV_len (t := t) (u := u) (now := now) (n := n)
  rw [List.length_map] at h ⊢; exact h
theorem failsL_len {t : Task} {u now : Int} : (failsL t u now).length ≤ 5 := by
  by_cases h : askedT t [u, now] = 0
  · rw [(failsL_2 h).1]; exact Nat.le_trans fstV_len (asked_zero h).1.h1
  · rw [(failsL_1 h).1]; exact Nat.zero_le _

end Go.Tk
