/- Layer 5: what a list of gaps covers. -/
import Derived.Test.YtclbbchehjapjabG
set_option linter.all false
namespace Go.Tk
open Go.Vc

def cov (u : Int) (p : Int × Int) : Bool := decide (p.1 ≤ u) && decide (u < p.2)

structure GapsOk (l : List (Int × Int)) (frm hi : Int) (bad : Int → Bool) : Prop where
  mem : ∀ p ∈ l, frm ≤ p.1 ∧ p.1 < p.2 ∧ p.2 ≤ hi
  sep : l.Pairwise (fun p q => p.2 < q.1)
  cover : ∀ u, l.any (cov u) = (decide (frm ≤ u) && decide (u < hi) && bad u)

theorem cov_true {u : Int} {p : Int × Int} : cov u p = true ↔ p.1 ≤ u ∧ u < p.2 := by simp [cov]

theorem gaps_step {l : List (Int × Int)} {frm hi : Int} {t : Task} {now wd : Int} (hf : frm ≤ hi) (h : GapsOk l frm hi (fun u => !(okGap t u now wd))) :
    GapsOk (gapStep t now wd l hi) frm (hi + 1) (fun u => !(okGap t u now wd)) := by
  have hcov : ∀ u, (l.any (cov u) = true ↔ (frm ≤ u ∧ u < hi) ∧ okGap t u now wd = false) := by
    intro u; rw [h.cover u]; simp [Bool.and_eq_true]
  have mk : ∀ l', (∀ p ∈ l', frm ≤ p.1 ∧ p.1 < p.2 ∧ p.2 ≤ hi + 1) → l'.Pairwise (fun p q => p.2 < q.1) → (∀ u, (l'.any (cov u) = true ↔ (frm ≤ u ∧ u < hi + 1) ∧ okGap t u now wd = false)) → GapsOk l' frm (hi + 1) (fun u => !(okGap t u now wd)) := by
    intro l' h1 h2 h3
    refine ⟨h1, h2, fun u => ?_⟩
    rw [Bool.eq_iff_iff, h3 u]
    simp [Bool.and_eq_true]
  unfold gapStep
  split
  · rename_i hok
    refine mk l (fun p hp => by have := h.mem p hp; omega) h.sep fun u => ?_
    rw [hcov u]
    constructor
    · rintro ⟨h1, h2⟩; exact ⟨by omega, h2⟩
    · rintro ⟨h1, h2⟩
      refine ⟨⟨h1.1, ?_⟩, h2⟩
      have : u ≠ hi := by rintro rfl; rw [hok] at h2; cases h2
      omega
  · rename_i hok
    have hbad : okGap t hi now wd = false := by cases hh : okGap t hi now wd <;> simp_all
    rcases List.eq_nil_or_concat l with rfl | ⟨l0, q, rfl⟩
    · rw [if_neg (by simp)]
      refine mk _ (fun p hp => ?_) (by simp) fun u => ?_
      · simp only [List.nil_append, List.mem_singleton] at hp; subst hp; simp only; omega
      · have h0 := hcov u
        simp only [List.any_nil, Bool.false_eq_true, false_iff, not_and, Bool.not_eq_false] at h0
        simp only [List.nil_append, List.any_cons, List.any_nil, Bool.or_false, cov_true]
        constructor
        · rintro ⟨h1, h2⟩
          have : u = hi := by omega
          subst this; exact ⟨by omega, hbad⟩
        · rintro ⟨h1, h2⟩
          by_cases hu : u < hi
          · have := h0 ⟨h1.1, hu⟩; rw [this] at h2; cases h2
          · omega
    · obtain ⟨a, b⟩ := q
      have hm := h.mem
      have hs := h.sep
      rw [List.concat_eq_append] at *
      have hlast : ((l0 ++ [(a, b)]).getD ((l0 ++ [(a, b)]).length - 1) (0, 0)) = (a, b) := by simp
      have hmq := hm (a, b) (by simp)
      simp only at hmq
      rw [List.pairwise_append] at hs
      obtain ⟨hs0, _, hs1⟩ := hs
      rw [hlast]
      split
      · rename_i hc
        have hb : b = hi := hc.2
        subst hb
        have hset : (l0 ++ [(a, b)]).set ((l0 ++ [(a, b)]).length - 1) (a, b + 1) = l0 ++ [(a, b + 1)] := by simp
        dsimp only
        rw [hset]
        refine mk _ (fun p hp => ?_) ?_ fun u => ?_
        · rcases List.mem_append.1 hp with hp | hp
          · have := hm p (List.mem_append_left _ hp); omega
          · rw [List.mem_singleton] at hp; subst hp; simp only; omega
        · rw [List.pairwise_append]
          refine ⟨hs0, by simp, fun p hp q hq => ?_⟩
          rw [List.mem_singleton] at hq; subst hq
          exact hs1 p hp (a, b) (by simp)
        · have h0 := hcov u
          rw [List.any_append, Bool.or_eq_true] at h0 ⊢
          simp only [List.any_cons, List.any_nil, Bool.or_false, cov_true] at h0 ⊢
          constructor
          · rintro (h1 | h1)
            · have := h0.1 (.inl h1); exact ⟨by omega, this.2⟩
            · by_cases hu : u < b
              · have := h0.1 (.inr ⟨h1.1, hu⟩); exact ⟨by omega, this.2⟩
              · have : u = b := by omega
                subst this; exact ⟨by omega, hbad⟩
          · rintro ⟨h1, h2⟩
            by_cases hu : u < b
            · rcases h0.2 ⟨⟨h1.1, hu⟩, h2⟩ with h | h
              · exact .inl h
              · exact .inr ⟨h.1, by omega⟩
            · exact .inr ⟨by omega, h1.2⟩
      · rename_i hc
        have hb : b ≠ hi := fun e => hc ⟨by simp, e⟩
        refine mk _ (fun p hp => ?_) ?_ fun u => ?_
        · rcases List.mem_append.1 hp with hp | hp
          · have := hm p hp; omega
          · rw [List.mem_singleton] at hp; subst hp; simp only; omega
        · rw [List.pairwise_append]
          refine ⟨h.sep, by simp, fun p hp q hq => ?_⟩
          rw [List.mem_singleton] at hq; subst hq
          simp only
          rcases List.mem_append.1 hp with hp | hp
          · have := hs1 p hp (a, b) (by simp); simp only at this; omega
          · rw [List.mem_singleton] at hp; subst hp; simp only; omega
        · have h0 := hcov u
          rw [List.any_append, Bool.or_eq_true]
          simp only [List.any_cons, List.any_nil, Bool.or_false, cov_true]
          constructor
          · rintro (h1 | h1)
            · have := h0.1 h1; exact ⟨by omega, this.2⟩
            · have : u = hi := by omega
              subst this; exact ⟨by omega, hbad⟩
          · rintro ⟨h1, h2⟩
            by_cases hu : u < hi
            · exact .inl (h0.2 ⟨⟨h1.1, hu⟩, h2⟩)
            · exact .inr (by omega)

theorem gapsN_ok {t : Task} {now wd frm : Int} : ∀ n : Nat, GapsOk (gapsN t now wd frm n) frm (frm + n) (fun u => !(okGap t u now wd)) := by
  intro n
  induction n with
  | zero =>
    refine ⟨(fun p h => absurd h List.not_mem_nil), List.Pairwise.nil, fun u => ?_⟩
    rw [Bool.eq_iff_iff]
    simp only [gapsN, List.any_nil, Bool.false_eq_true, Bool.and_eq_true, decide_eq_true_eq, false_iff]
    omega
  | succ n ih =>
    have := gaps_step (by omega) ih
    have e : frm + (n : Int) + 1 = frm + ((n + 1 : Nat) : Int) := by omega
    rw [e] at this
    exact this

theorem any_take_succ {α : Type} {l : List α} {p : α → Bool} {i : Nat} {d : α} (h : i < l.length) : (l.take (i + 1)).any p = ((l.take i).any p || p (l.getD i d)) := by
  rw [List.take_add_one, List.any_append, List.getElem?_eq_getElem h, List.getD_eq_getElem?_getD, List.getElem?_eq_getElem h]
  simp
/-- with a greater width fewer ticks are in a gap -/
theorem okGap_mono {t : Task} {u now wd wd' : Int} (h : wd ≤ wd') (h1 : okGap t u now wd = true) : okGap t u now wd' = true := by
  unfold okGap at h1 ⊢
  cases hs : spareT t u now with
  | none => rw [hs] at h1; cases h1
  | some b => rw [hs] at h1; simp only [decide_eq_true_eq] at h1 ⊢; omega
theorem gapsE_wd {t : Task} {frm til now wd wd' : Int} (h : gapsE t frm til now wd = 0) (hw : wd ≤ wd') : gapsE t frm til now wd' = 0 := by
  obtain ⟨h0, _, _, _, h1, h2, h3⟩ := gapsE_ok h
  exact gapsE_4 h0 (by omega) (by omega)
theorem gaps_mem {l : List (Int × Int)} {frm til : Int} {bad : Int → Bool} (h : GapsOk l frm til bad) {i : Nat} (hi : i < l.length) : frm ≤ (l.getD i (0, 0)).1 ∧ (l.getD i (0, 0)).1 < (l.getD i (0, 0)).2 ∧ (l.getD i (0, 0)).2 ≤ til := by
  refine h.mem _ ?_
  rw [List.getD_eq_getElem?_getD, List.getElem?_eq_getElem hi]
  exact List.getElem_mem hi
theorem gaps_sep {l : List (Int × Int)} {frm til : Int} {bad : Int → Bool} (h : GapsOk l frm til bad) {i : Nat} (h0 : 0 < i) (hi : i < l.length) : (l.getD (i - 1) (0, 0)).2 < (l.getD i (0, 0)).1 := by
  have := List.pairwise_iff_getElem.1 h.sep (i - 1) i (by omega) hi (by omega)
  rw [List.getD_eq_getElem?_getD, List.getD_eq_getElem?_getD, List.getElem?_eq_getElem hi, List.getElem?_eq_getElem (by omega : i - 1 < l.length)]
  exact this

theorem okGap_none {t : Task} {u now wd : Int} (h : (spareT t u now).isSome = false) : okGap t u now wd = false := step_bad rfl (.inl h)
theorem okGap_some {t : Task} {u now wd : Int} (h : (spareT t u now).isSome = true) : okGap t u now wd = decide (wideB ((spareT t u now).getD boxZ) ≤ wd) := by
  rw [okGap, isSome_get h]; rfl
theorem gap_neq {W x : Int} : ((!decide (W ≤ x)) != decide (x < W)) = false := by
  by_cases h : W ≤ x
  · rw [decide_eq_true h, decide_eq_false (by omega)]; rfl
  · rw [decide_eq_false h, decide_eq_true (by omega)]; rfl
theorem gap_cov {t : Task} {now wd frm til u : Int} (h : frm ≤ til) (h1 : frm ≤ u ∧ u < til) : (gapsN t now wd frm (til - frm).toNat).any (cov u) = !(okGap t u now wd) := by
  have := (gapsN_ok (t := t) (now := now) (wd := wd) (frm := frm) (til - frm).toNat).cover u
  rw [this, decide_eq_true h1.1, decide_eq_true (by omega)]; rfl
theorem spare_in {t : Task} {frm til now wd u : Int} (h : gapsE t frm til now wd = 0) (h1 : frm ≤ u ∧ u < til) : spareP t u now = foundP (spareT t u now) := by
  obtain ⟨h0, hf, ht, hn, _⟩ := gapsE_ok h
  have hG := (asked_zero h0).1
  have ha : askedT t [u, now] = 0 := asked_good hG (by
    have h2 : oP u 0 100000 = false := oP_false.2 (by omega)
    have h3 : oP now 0 100000 = false := oP_false.2 (by omega)
    simp [h2, h3])
  exact if_neg (fun a => a ha)

end Go.Tk
