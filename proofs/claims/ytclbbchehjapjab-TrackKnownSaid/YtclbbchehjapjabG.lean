/- Layer 5: gaps. -/
import Derived.Test.YtclbbchehjapjabY
set_option linter.all false
namespace Go.Tk
open Go.Vc

def gapC (p : Int × Int) : List Value := [.int .i64 p.1, .int .i64 p.2]
def gapV (l : List (Int × Int)) : List Value := (l.map gapC).flatten
def okGap (t : Task) (u now wd : Int) : Bool := match spareT t u now with
  | some b => decide (wideB b ≤ wd)
  | none => false
def gapStep (t : Task) (now wd : Int) (l : List (Int × Int)) (u : Int) : List (Int × Int) :=
  if okGap t u now wd = true then l
  else if 0 < l.length ∧ (l.getD (l.length - 1) (0, 0)).2 = u then l.set (l.length - 1) ((l.getD (l.length - 1) (0, 0)).1, u + 1)
  else l ++ [(u, u + 1)]
def gapsN (t : Task) (now wd frm : Int) : Nat → List (Int × Int)
  | 0 => []
  | n + 1 => gapStep t now wd (gapsN t now wd frm n) (frm + n)
def gapsE (t : Task) (frm til now wd : Int) : Int :=
  if askedT t [frm, til, now] ≠ 0 then askedT t [frm, til, now] else if til < frm ∨ wd < 0 then 7 else if 200 < til - frm then 3 else 0
def gapsL (t : Task) (frm til now wd : Int) : List (Int × Int) := if gapsE t frm til now wd ≠ 0 then [] else gapsN t now wd frm (til - frm).toNat
def GapsOut (ty : Nat) (xs : List (Int × Int)) (f : Value → Value) (v : Value) (A G : Heap) : Prop := ∃ sv, A = [] ∧ v = f sv ∧ Grow ty 2 sv xs.length (gapV xs) G

section
variable {t : Task} {now wd frm u : Int}
theorem gapsN_succ (h : frm ≤ u) : gapsN t now wd frm (u + 1 - frm).toNat = gapStep t now wd (gapsN t now wd frm (u - frm).toNat) u := by
  have e : (u + 1 - frm).toNat = (u - frm).toNat + 1 := by omega
  have e2 : frm + ((u - frm).toNat : Int) = u := by omega
  rw [e, gapsN, e2]
theorem step_ok {l : List (Int × Int)} {o : Option Box} (ho : spareT t u now = o) (h : o.isSome = true) (h2 : wideB (o.getD boxZ) ≤ wd) : gapStep t now wd l u = l := by
  have : okGap t u now wd = true := by rw [okGap, ho, isSome_get h]; exact decide_eq_true h2
  rw [gapStep, if_pos this]
theorem step_bad {o : Option Box} (ho : spareT t u now = o) (h : o.isSome = false ∨ ¬ wideB (o.getD boxZ) ≤ wd) : okGap t u now wd = false := by
  rw [okGap, ho]
  cases o with
  | none => rfl
  | some b =>
    rcases h with h | h
    · cases h
    · exact decide_eq_false h
theorem step_new {l : List (Int × Int)} (h : okGap t u now wd = false) (h2 : ¬ (0 < l.length ∧ (l.getD (l.length - 1) (0, 0)).2 = u)) : gapStep t now wd l u = l ++ [(u, u + 1)] := by
  rw [gapStep, if_neg (by rw [h]; decide), if_neg h2]
theorem step_more {l : List (Int × Int)} (h : okGap t u now wd = false) (h2 : 0 < l.length) (h3 : (l.getD (l.length - 1) (0, 0)).2 = u) : gapStep t now wd l u = l.set (l.length - 1) ((l.getD (l.length - 1) (0, 0)).1, u + 1) := by
  rw [gapStep, if_neg (by rw [h]; decide), if_pos ⟨h2, h3⟩]
theorem gapsN_len : ∀ n, (gapsN t now wd frm n).length ≤ n := by
  intro n
  induction n with
  | zero => exact Nat.le_refl _
  | succ n ih =>
    rw [gapsN, gapStep]
    split
    · omega
    · split
      · rw [List.length_set]; omega
      · rw [List.length_append]; simp; omega
theorem gapV_len (l : List (Int × Int)) : (gapV l).length = l.length * 2 := by
  rw [gapV, flat_len (size := 2) _ (by intro e he; obtain ⟨x, _, rfl⟩ := List.mem_map.1 he; rfl), List.length_map]
theorem gapV_app (l : List (Int × Int)) (a b : Int) : gapV (l ++ [(a, b)]) = gapV l ++ [.int .i64 a, .int .i64 b] := by
  simp [gapV, gapC]
theorem gapV_at {l : List (Int × Int)} {i : Nat} (h : i < l.length) : (gapV l)[0 + i * 2 + 1]? = some (.int .i64 (l.getD i (0, 0)).2) ∧ (gapV l)[0 + i * 2]? = some (.int .i64 (l.getD i (0, 0)).1) := by
  have h1 : (l.map gapC)[i]? = some (gapC (l.getD i (0, 0))) := getD_cells h
  have hs : ∀ e ∈ l.map gapC, e.length = 2 := by intro e he; obtain ⟨x, _, rfl⟩ := List.mem_map.1 he; rfl
  have f1 := flat_at (l.map gapC) i 1 _ hs h1 (by decide)
  have f0 := flat_at (l.map gapC) i 0 _ hs h1 (by decide)
  rw [Nat.zero_add]
  exact ⟨f1, f0⟩
theorem gapV_set : ∀ (l : List (Int × Int)) (i : Nat) (b : Int), i < l.length → gapV (l.set i ((l.getD i (0, 0)).1, b)) = (gapV l).set (0 + i * 2 + 1) (.int .i64 b) := by
  intro l
  induction l with
  | nil => intro i b h; simp at h
  | cons p l ih =>
    intro i b h
    cases i with
    | zero => rfl
    | succ i =>
      have h' : i < l.length := by simpa using h
      have := ih i b h'
      have e : 0 + (i + 1) * 2 + 1 = (0 + i * 2 + 1) + 1 + 1 := by omega
      rw [e]
      show gapC p ++ gapV (l.set i ((l.getD i (0, 0)).1, b)) = _
      rw [this]; rfl
theorem grow_set {el n c : Nat} {b : Nat} {cur : Array Value} {xs : List Value} {i : Nat} {v : Value} (h1 : n ≤ c) (h2 : c ≤ maxLen) (h3 : cur.size = c * 2) (h4 : cur.toList.take (n * 2) = xs) (h5 : xs.length = n * 2) :
    Grow el 2 (.slice (some ⟨b, 0, none⟩) n c) n (xs.set i v) [(b, .cells (cur.toList.set i v).toArray el)] :=
  .row h1 h2 (by simp [h3]) (by rw [← h4, List.take_set]) (by rw [List.length_set, h5])
theorem gapsE_1 {til : Int} (h : askedT t [frm, til, now] ≠ 0) : gapsE t frm til now wd = askedT t [frm, til, now] := if_pos h
theorem gapsE_2 {til : Int} (h : askedT t [frm, til, now] = 0) (h1 : til < frm ∨ wd < 0) : gapsE t frm til now wd = 7 := by rw [gapsE, if_neg (fun a => a h), if_pos h1]
theorem gapsE_3 {til : Int} (h : askedT t [frm, til, now] = 0) (h1 : ¬ (til < frm ∨ wd < 0)) (h2 : 200 < til - frm) : gapsE t frm til now wd = 3 := by rw [gapsE, if_neg (fun a => a h), if_neg h1, if_pos h2]
theorem gapsE_4 {til : Int} (h : askedT t [frm, til, now] = 0) (h1 : ¬ (til < frm ∨ wd < 0)) (h2 : ¬ 200 < til - frm) : gapsE t frm til now wd = 0 := by rw [gapsE, if_neg (fun a => a h), if_neg h1, if_neg h2]
theorem gapsL_bad {til : Int} (h : gapsE t frm til now wd ≠ 0) : gapsL t frm til now wd = [] := if_pos h
theorem gapsL_ok {til : Int} (h : gapsE t frm til now wd = 0) : gapsL t frm til now wd = gapsN t now wd frm (til - frm).toNat := if_neg (fun a => a h)
theorem gapsE_ok {til : Int} (h : gapsE t frm til now wd = 0) : askedT t [frm, til, now] = 0 ∧ (0 ≤ frm ∧ frm ≤ 100000) ∧ (0 ≤ til ∧ til ≤ 100000) ∧ (0 ≤ now ∧ now ≤ 100000) ∧ frm ≤ til ∧ 0 ≤ wd ∧ til - frm ≤ 200 := by
  unfold gapsE at h
  split at h
  · rename_i hn; exact absurd h hn
  · rename_i hn
    have h0 : askedT t [frm, til, now] = 0 := Decidable.of_not_not hn
    split at h
    · cases h
    · rename_i h1
      split at h
      · cases h
      · have hz := (asked_zero h0).2
        exact ⟨h0, hz _ (.head _), hz _ (.tail _ (.head _)), hz _ (.tail _ (.tail _ (.head _))), by omega, by omega, by omega⟩
end

theorem gapsL_len (t : Task) (frm til now wd : Int) : (gapsL t frm til now wd).length ≤ 200 := by
  by_cases h : gapsE t frm til now wd = 0
  · rw [gapsL_ok h]
    have := gapsN_len (t := t) (now := now) (wd := wd) (frm := frm) (til - frm).toNat
    have := (gapsE_ok h).2.2.2.2.2.2
    omega
  · rw [gapsL_bad h]; exact Nat.zero_le _
theorem asked3_bad {t : Task} {frm til now : Int} (h : askedT t [frm, now] = 0) (ho : oP til 0 100000 = true) : askedT t [frm, til, now] = 7 := by
  have hz : (checkT t).2.2 = 0 := by
    by_cases hz : (checkT t).2.2 = 0
    · exact hz
    · rw [asked_bad hz] at h; exact absurd h hz
  exact asked_any hz (by simp [ho])
theorem asked3_ok {t : Task} {frm til now : Int} (h : askedT t [frm, now] = 0) (ho : oP til 0 100000 = false) : askedT t [frm, til, now] = 0 := by
  have hz : (checkT t).2.2 = 0 := by
    by_cases hz : (checkT t).2.2 = 0
    · exact hz
    · rw [asked_bad hz] at h; exact absurd h hz
  have ha := asked_any0 h
  simp only [List.any_cons, List.any_nil, Bool.or_false, Bool.or_eq_false_iff] at ha
  exact asked_ok hz (by simp [ho, ha.1, ha.2])
theorem asked3_err {t : Task} {frm til now : Int} (h : ¬ askedT t [frm, now] = 0) : askedT t [frm, til, now] = askedT t [frm, now] := by
  by_cases hz : (checkT t).2.2 = 0
  · obtain ⟨h1, h2⟩ := asked_ne hz h
    rw [h2]
    refine asked_any hz ?_
    simp only [List.any_cons, List.any_nil, Bool.or_false, Bool.or_eq_true] at h1 ⊢
    rcases h1 with h1 | h1
    · exact .inl h1
    · exact .inr (.inr h1)
  · rw [asked_bad hz, asked_bad hz]

theorem foldl_bnd {B : Int} : ∀ (l : List (Int × Box)) (acc : Option Box), (∀ b, acc = some b → BoxB B b) → (∀ p ∈ l, BoxB B p.2) → ∀ b, l.foldl (fun acc p => addB acc p.2) acc = some b → BoxB B b := by
  intro l
  induction l with
  | nil => intro acc h _ b hb; exact h b hb
  | cons p l ih =>
    intro acc h hp b hb
    refine ih (addB acc p.2) ?_ (fun q hq => hp q (.tail _ hq)) b hb
    intro c hc
    have h2 := hp p (.head _)
    cases acc with
    | none => cases hc; exact h2
    | some a =>
      cases hc
      have h1 := h a rfl
      obtain ⟨a1, a2, a3⟩ := h1
      obtain ⟨b1, b2, b3⟩ := h2
      unfold SpanB at a1 a2 a3 b1 b2 b3
      refine ⟨?_, ?_, ?_⟩ <;> (simp only [SpanB, joinB, joinS]; omega)
theorem spareT_bnd {t : Task} (hG : GoodT t) {u now : Int} (hu : u ≤ 100000) {b : Box} (h : spareT t u now = some b) : BoxB 2000000000 b := by
  unfold spareT at h
  split at h
  · exact boxT_bnd hG byT_bnd hu h
  · exact foldl_bnd _ none (fun _ h => by cases h) (fun p hp => boxT_bnd hG byT_bnd hu (others_mem hp).1) b h
theorem BoxB.big {b : Box} (h : BoxB 2000000000 b) : BoxB 1000000000000000 b := by
  obtain ⟨a1, a2, a3⟩ := h
  unfold SpanB at a1 a2 a3
  refine ⟨?_, ?_, ?_⟩ <;> (unfold SpanB; omega)

end Go.Tk
