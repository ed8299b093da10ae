/- Joined texts. -/
import Derived.Test.YtlcccpeelombbaaGreatDoorZag
import Derived.Test.YtlcccpeelombbaaGreatDoorZai
import Derived.Test.YtlcccpeelombbaaGreatDoorZad
import Derived.KernelRfl
/- Layer 6: falls, as the program finds them (plain). -/
set_option linter.all false
namespace Go.De
open Go.Vc Go.Tk

def accN (f : Nat → Box) : Nat → Option (Span × Span × Nat)
  | 0 => none
  | n + 1 => accF f (n + 1) (accN f n)
theorem fall_from {f : Nat → Box} {at_ : Int} : ∀ n : Nat, n ≤ 3000 → (∀ j, 1 ≤ j → j ≤ n → offB (f j) = false ∧ 0 < (f j).z.hi) → fallN f at_ 3000 1 none = fallN f at_ (3000 - n) (n + 1) (accN f n) := by
  intro n
  induction n with
  | zero => intro _ _; rfl
  | succ n ih =>
    intro hn h
    rw [ih (by omega) fun j h1 h2 => h j h1 (by omega)]
    obtain ⟨h1, h2⟩ := h (n + 1) (by omega) (Nat.le_refl _)
    have e : 3000 - n = (3000 - (n + 1)) + 1 := by omega
    rw [e, fallN, h1, if_neg (by decide), if_neg (by omega)]; rfl
section
variable {g : Span} {b : Box} {n : Nat}
theorem fall_far (hn : n < 3000) (h : ∀ j, 1 ≤ j → j ≤ n → offB (runF g b j) = false ∧ 0 < (runF g b j).z.hi) (ho : offB (runF g b (n + 1)) = true) : fallT g b = ⟨spZ, spZ, spZ, 3⟩ := by
  unfold fallT
  rw [fall_from n (by omega) h, show 3000 - n = (3000 - (n + 1)) + 1 by omega, fallN, if_pos ho]
theorem fall_done (hn : n < 3000) (h : ∀ j, 1 ≤ j → j ≤ n → offB (runF g b j) = false ∧ 0 < (runF g b j).z.hi) (ho : offB (runF g b (n + 1)) = false) (hz : (runF g b (n + 1)).z.hi ≤ 0) : fallT g b = doneF b.at_ (n + 1) (accN (runF g b) (n + 1)) := by
  unfold fallT
  rw [fall_from n (by omega) h, show 3000 - n = (3000 - (n + 1)) + 1 by omega, fallN, if_neg (by rw [ho]; decide), if_pos hz]; rfl
theorem fall_end (h : ∀ j, 1 ≤ j → j ≤ 3000 → offB (runF g b j) = false ∧ 0 < (runF g b j).z.hi) : fallT g b = ⟨spZ, spZ, spZ, 9⟩ := by
  unfold fallT
  rw [fall_from 3000 (Nat.le_refl _) h]; rfl
theorem run_at : ∀ n : Nat, (runF g b n).at_ = b.at_ := by
  intro n
  induction n with
  | zero => rfl
  | succ n ih => exact ih
theorem run_bnd (hb : FallB 0 b) (hg : 1 ≤ g.lo ∧ g.lo ≤ g.hi ∧ g.hi ≤ 200) : ∀ n : Nat, (∀ j, 1 ≤ j → j ≤ n → offB (runF g b j) = false) → FallB n (runF g b n) := by
  intro n
  induction n with
  | zero => intro _; exact hb
  | succ n ih =>
    intro h
    have := fallB_step (ih fun j h1 h2 => h j h1 (by omega)) hg (h (n + 1) (by omega) (Nat.le_refl _))
    push_cast
    exact this
end
/-- what the program keeps of the area -/
def AccV (at_ : Int) (acc : Option (Span × Span × Nat)) (ax ay : Span) (lo : Int) (dn : Bool) : Prop :=
  (dn = true ∧ ∃ a, acc = some (ax, ay, a) ∧ lo = at_ + a) ∨ (dn = false ∧ acc = none ∧ ax = spZ ∧ ay = spZ ∧ lo = 0)
section
variable {at_ : Int} {f : Nat → Box} {n : Nat} {ax ay : Span} {lo : Int} {dn : Bool}
theorem AccV.zero : AccV at_ (accN f 0) spZ spZ 0 false := .inr ⟨rfl, rfl, rfl, rfl, rfl⟩
theorem AccV.more (h : AccV at_ (accN f n) ax ay lo dn) (hd : dn = true) : AccV at_ (accN f (n + 1)) (hullS ax (f (n + 1)).x) (hullS ay (f (n + 1)).y) lo dn := by
  rcases h with ⟨h1, a, h2, h3⟩ | ⟨h1, _⟩
  · refine .inl ⟨h1, a, ?_, h3⟩
    rw [accN, h2]; rfl
  rw [hd] at h1; cases h1
theorem AccV.first (h : AccV at_ (accN f n) ax ay lo dn) (hd : dn = false) (hz : (f (n + 1)).z.lo ≤ 0) : AccV at_ (accN f (n + 1)) (f (n + 1)).x (f (n + 1)).y (at_ + ((n : Int) + 1)) true := by
  rcases h with ⟨h1, _⟩ | ⟨_, h2, _⟩
  · rw [hd] at h1; cases h1
  refine .inl ⟨rfl, n + 1, ?_, by push_cast; rfl⟩
  rw [accN, h2, accF, if_pos hz]
theorem AccV.none (h : AccV at_ (accN f n) ax ay lo dn) (hd : dn = false) (hz : 0 < (f (n + 1)).z.lo) : AccV at_ (accN f (n + 1)) ax ay lo false := by
  rcases h with ⟨h1, _⟩ | ⟨_, h2, h3⟩
  · rw [hd] at h1; cases h1
  refine .inr ⟨rfl, ?_, h3⟩
  rw [accN, h2, accF, if_neg (by omega)]
theorem AccV.done (h : AccV at_ (accN f (n + 1)) ax ay lo dn) : doneF at_ (n + 1) (accN f (n + 1)) = ⟨ax, ay, ⟨lo, at_ + ((n : Int) + 1)⟩, 0⟩ := by
  rcases h with ⟨_, a, h2, h3⟩ | ⟨_, h2, h3, h4, h5⟩
  · rw [h2, doneF, h3]; congr 2
  rw [h2, doneF, h3, h4, h5]; congr 2
end
theorem off3 {b : Box} : offB b = (offS b.x || (offS b.y || offS b.z)) := rfl
def fallV (g : Span) (b : Box) (n : Nat) : Value := .agg #[.int .i64 (runF g b n).at_, .int .i64 (runF g b n).x.lo, .int .i64 (runF g b n).x.hi, .int .i64 (runF g b n).y.lo, .int .i64 (runF g b n).y.hi, .int .i64 (runF g b n).z.lo, .int .i64 (runF g b n).z.hi, .int .i64 (runF g b n).vx.lo, .int .i64 (runF g b n).vx.hi, .int .i64 (runF g b n).vy.lo, .int .i64 (runF g b n).vy.hi, .int .i64 (runF g b n).vz.lo, .int .i64 (runF g b n).vz.hi, .int .i64 n]
def fallsV (g : Span) (b : Box) (n : Nat) : List (List Value) := (List.range n).map fun i => [fallV g b (i + 1)]
theorem fallsV_succ (g : Span) (b : Box) (n : Nat) : fallsV g b (n + 1) = fallsV g b n ++ [[fallV g b (n + 1)]] := by
  simp [fallsV, List.range_succ]
theorem fallsV_len (g : Span) (b : Box) (n : Nat) : (fallsV g b n).length = n := by simp [fallsV]
theorem fallT_e (g : Span) (b : Box) : (fallT g b).e = 0 ∨ (fallT g b).e = 3 ∨ (fallT g b).e = 9 := by
  have key : ∀ (k t : Nat) (acc : Option (Span × Span × Nat)), (fallN (runF g b) b.at_ k t acc).e = 0 ∨ (fallN (runF g b) b.at_ k t acc).e = 3 ∨ (fallN (runF g b) b.at_ k t acc).e = 9 := by
    intro k
    induction k with
    | zero => intro t acc; exact .inr (.inr rfl)
    | succ k ih =>
      intro t acc
      unfold fallN
      split
      · exact .inr (.inl rfl)
      split
      · left; unfold doneF; split <;> rfl
      exact ih _ _
  exact key _ _ _
/-- the error values -/
def errV (tp : Nat) (aF aL : Addr) (e : Int) : Value := if e = 3 then .iface tp (.pointer (some aF)) else if e = 9 then .iface tp (.pointer (some aL)) else .nilIface
end Go.De

/- Layer 6: boxes used, and lines measured, as the program finds them (plain). -/
set_option linter.all false
namespace Go.De
open Go.Vc Go.Tk

def usedW (p : Plan) (t : Task) (now : Int) : Nat → Int → Box × Int × Bool
  | 0, _ => (boxZ, 0, false)
  | k + 1, frm => if frm < 0 ∨ p.blind < now - frm then (boxZ, 0, false) else if (spareP t frm now).2 = 0 then
      ((aheadP t (spareP t frm now).1 (now - frm + p.wait + 1)).1, frm, decide ((aheadP t (spareP t frm now).1 (now - frm + p.wait + 1)).2 = 0))
    else usedW p t now k (frm - 1)
def usedQ (p : Plan) (t : Task) (now : Int) : Box × Int × Bool := usedW p t now (p.blind + 1).toNat now
section
variable {p : Plan} {t : Task} {now : Int}
theorem usedW_is : ∀ (k : Nat) (frm : Int), (∀ b f, usedN p t now k frm = some (b, f) → usedW p t now k frm = (b, f, true)) ∧ (usedN p t now k frm = none → (usedW p t now k frm).2.2 = false) := by
  intro k
  induction k with
  | zero => intro frm; exact ⟨fun b f h => (by cases h), fun _ => rfl⟩
  | succ k ih =>
    intro frm
    unfold usedN usedW
    split
    · exact ⟨fun b f h => (by cases h), fun _ => rfl⟩
    split
    · split
      · rename_i h3
        refine ⟨fun b f h => ?_, fun h => (by cases h)⟩
        simp only [Option.some.injEq, Prod.mk.injEq] at h
        obtain ⟨rfl, rfl⟩ := h
        rw [decide_eq_true h3]
      rename_i h3
      exact ⟨fun b f h => (by cases h), fun _ => decide_eq_false h3⟩
    exact ih (frm - 1)
theorem usedQ_some {b : Box} {f : Int} (h : usedT p t now = some (b, f)) : usedQ p t now = (b, f, true) := (usedW_is _ _).1 b f h
theorem usedQ_none (h : usedT p t now = none) : (usedQ p t now).2.2 = false := (usedW_is _ _).2 h
theorem usedQ_t (h : (usedQ p t now).2.2 = true) : usedT p t now = some ((usedQ p t now).1, (usedQ p t now).2.1) := by
  cases hu : usedT p t now with
  | none => rw [usedQ_none hu] at h; cases h
  | some q => obtain ⟨b, f⟩ := q; rw [usedQ_some hu]
theorem usedQ_f (h : (usedQ p t now).2.2 = false) : usedT p t now = none := by
  cases hu : usedT p t now with
  | none => rfl
  | some q => obtain ⟨b, f⟩ := q; rw [usedQ_some hu] at h; cases h
theorem usedW_stop (k : Nat) {frm : Int} (h : frm < 0 ∨ p.blind < now - frm) : usedW p t now k frm = (boxZ, 0, false) := by
  cases k with
  | zero => rfl
  | succ k => unfold usedW; rw [if_pos h]
theorem usedW_hit {frm : Int} (h0 : 0 ≤ frm) (h1 : now - frm ≤ p.blind) (h2 : (spareP t frm now).2 = 0) : usedW p t now (p.blind + 1 - (now - frm)).toNat frm =
    ((aheadP t (spareP t frm now).1 (now - frm + p.wait + 1)).1, frm, decide ((aheadP t (spareP t frm now).1 (now - frm + p.wait + 1)).2 = 0)) := by
  rw [show (p.blind + 1 - (now - frm)).toNat = (p.blind - (now - frm)).toNat + 1 by omega, usedW, if_neg (by omega), if_pos h2]
theorem usedW_go {frm : Int} (h0 : 0 ≤ frm) (h1 : now - frm ≤ p.blind) (h2 : (spareP t frm now).2 ≠ 0) : usedW p t now (p.blind + 1 - (now - frm)).toNat frm = usedW p t now (p.blind + 1 - (now - (frm - 1))).toNat (frm - 1) := by
  rw [show (p.blind + 1 - (now - frm)).toNat = (p.blind - (now - frm)).toNat + 1 by omega, usedW, if_neg (by omega), if_neg h2, show p.blind - (now - frm) = p.blind + 1 - (now - (frm - 1)) by omega]
end

theorem most_bnd {l : Line} {x y : Span} (hl : LnB l) (hx : offS x = false) (hy : offS y = false) : (-4000000000000 ≤ mostL l x y ∧ mostL l x y ≤ 4000000000000) ∧ (-4000000000000 ≤ leastL l x y ∧ leastL l x y ≤ 4000000000000) := by
  have hx := off_false.1 hx
  have hy := off_false.1 hy
  have m0 := mul_abs (A := 1000) (B := 2000000000) (by omega) hl.a (b := x.lo) (by omega)
  have m1 := mul_abs (A := 1000) (B := 2000000000) (by omega) hl.a (b := x.hi) (by omega)
  have m2 := mul_abs (A := 1000) (B := 2000000000) (by omega) hl.b (b := y.lo) (by omega)
  have m3 := mul_abs (A := 1000) (B := 2000000000) (by omega) hl.b (b := y.hi) (by omega)
  unfold mostL leastL
  omega
def sideN (p : Plan) (x y : Span) (k : Nat) : List Int := (p.lines.take k).map fun l => l.line - mostL l x y
theorem sideN_succ {p : Plan} {x y : Span} {k : Nat} (hk : k < p.lines.length) : sideN p x y (k + 1) = sideN p x y k ++ [(p.ln k).line - mostL (p.ln k) x y] := by
  unfold sideN Plan.ln
  rw [List.getD_eq_getElem?_getD, List.getElem?_eq_getElem hk, List.take_succ, List.getElem?_eq_getElem hk, List.map_append]; rfl
theorem sideN_all {p : Plan} {x y : Span} (h : areaE p x y = 0) : sideN p x y p.lines.length = sideL p x y := by
  unfold sideN sideL
  rw [List.take_length, if_neg (by omega)]
theorem sideL_bad {p : Plan} {x y : Span} (h : areaE p x y ≠ 0) : sideL p x y = [] := if_pos h
theorem area_zero {p : Plan} {x y : Span} (h : areaE p x y = 0) : GoodP p ∧ offS x = false ∧ offS y = false := by
  unfold areaE at h
  split at h
  · contradiction
  rename_i h1
  split at h
  · cases h
  rename_i h2
  simp only [Bool.or_eq_true, not_or, Bool.not_eq_true] at h2
  exact ⟨good_of_plan (by omega), h2⟩
theorem GoodP.ln_at {p : Plan} (h : GoodP p) {i : Nat} (hi : i < p.lines.length) : LnB (p.ln i) := ln_zero (h.ln i hi)
/-- the lines beyond which a place is, from the first on -/
theorem over_hit {p : Plan} {x y : Span} {k : Int} (h0 : 0 ≤ k) (hk : k < p.lines.length) (hb : ∀ j : Nat, (j : Int) < k → mostL (p.ln j) x y ≤ (p.ln j).line) (h : (p.ln k.toNat).line < mostL (p.ln k.toNat) x y) : overI p x y = k := by
  unfold overI
  rw [Tk.firstIdx_hit (p := fun i => decide ((p.ln i).line < mostL (p.ln i) x y)) (k := k.toNat) (by omega) (decide_eq_true h) (fun j hj => decide_eq_false (by have := hb j (by omega); omega))]
  omega
theorem over_no {p : Plan} {x y : Span} (hb : ∀ j : Nat, j < p.lines.length → mostL (p.ln j) x y ≤ (p.ln j).line) : overI p x y = -1 := by
  unfold overI
  exact Tk.firstIdx_none fun j hj => decide_eq_false (by have := hb j hj; omega)
theorem over_neg {p : Plan} {x y : Span} (h : overI p x y < 0) : overI p x y = -1 := by
  refine over_no fun j hj => ?_
  unfold overI at h
  have := fidx_lt.1 h j hj
  have := of_decide_eq_false this
  omega
theorem area_fall {g : Span} {b : Box} (h : (fallT g b).e = 0) : offS (fallT g b).x = false ∧ offS (fallT g b).y = false := by
  obtain ⟨m, n, hi, _⟩ := fallT_is h
  have key : ∀ j, j ≤ n - m → InS (runF g b (m + j)).x ⟨-2000000000, 2000000000⟩ ∧ InS (runF g b (m + j)).y ⟨-2000000000, 2000000000⟩ := by
    intro j hj
    have := hi.off (m + j) (by have := hi.a1; omega) (by have := hi.ab; omega)
    simp only [offB, Bool.or_eq_false_iff, off_false] at this
    unfold InS; dsimp only; omega
  have h1 := hullF_sub (n - m) key
  have h2 := hullF_in (runF g b) m (n - m) 0 (by omega)
  have h3 := hi.off m hi.a1 hi.ab
  simp only [offB, Bool.or_eq_false_iff, off_false] at h3
  rw [← hi.x, ← hi.y] at h1 h2
  obtain ⟨⟨a1, a2⟩, ⟨b1, b2⟩⟩ := h1
  obtain ⟨⟨c1, c2⟩, ⟨d1, d2⟩⟩ := h2
  simp only [Nat.add_zero] at c1 c2 d1 d2
  dsimp only at a1 a2 b1 b2
  simp only [off_false]
  omega
theorem fallT_bad {g : Span} {b : Box} (h : ¬(fallT g b).e = 0) : (fallT g b).x = spZ ∧ (fallT g b).y = spZ ∧ (fallT g b).at_ = spZ := by
  have key : ∀ (k t : Nat) (acc : Option (Span × Span × Nat)), ¬(fallN (runF g b) b.at_ k t acc).e = 0 → (fallN (runF g b) b.at_ k t acc).x = spZ ∧ (fallN (runF g b) b.at_ k t acc).y = spZ ∧ (fallN (runF g b) b.at_ k t acc).at_ = spZ := by
    intro k
    induction k with
    | zero => intro t acc _; exact ⟨rfl, rfl, rfl⟩
    | succ k ih =>
      intro t acc
      unfold fallN
      split
      · intro _; exact ⟨rfl, rfl, rfl⟩
      split
      · intro h; exfalso; apply h; unfold doneF; split <;> rfl
      exact ih _ _
  exact key _ _ _ h
end Go.De

/- Layer 6: decisions; spare boxes are sound; plots that are not known (plain). -/
set_option linter.all false
namespace Go.De
open Go.Vc Go.Tk

/-! ### decisions -/
section
variable {p : Plan} {t : Task} {b now : Int}
theorem decN_hit (h : now ≤ b) (hw : (lookT p t now).why ≠ 0) : decN p t (b - now + 1).toNat now = ⟨now, (lookT p t now).why, (lookT p t now).line⟩ := by
  rw [show (b - now + 1).toNat = (b - now).toNat + 1 by omega, decN, if_pos hw]
theorem decN_go (h : now ≤ b) (hw : (lookT p t now).why = 0) : decN p t (b - now + 1).toNat now = decN p t (b - (now + 1) + 1).toNat (now + 1) := by
  rw [show (b - now + 1).toNat = (b - now).toNat + 1 by omega, decN, if_neg (by omega), show b - now = b - (now + 1) + 1 by omega]
theorem decN_end (h : b < now) : decN p t (b - now + 1).toNat now = ⟨-1, 0, -1⟩ := by
  rw [show (b - now + 1).toNat = 0 by omega]; rfl

theorem decP_1 {a : Int} (h : ticksE p t [a, b] ≠ 0) : decP p t a b = (⟨0, 0, 0⟩, ticksE p t [a, b]) := by
  have e : decE p t a b = ticksE p t [a, b] := by unfold decE; rw [if_pos h]
  unfold decP; rw [e, if_pos h]
theorem decP_2 {a : Int} (h : ticksE p t [a, b] = 0) (hl : b < a) : decP p t a b = (⟨0, 0, 0⟩, 7) := by
  have e : decE p t a b = 7 := by unfold decE; rw [if_neg (by omega), if_pos hl]
  unfold decP; rw [e, if_pos (by decide)]
theorem decP_3 {a : Int} (h : ticksE p t [a, b] = 0) (hl : a ≤ b) (hm : 200 ≤ b - a) : decP p t a b = (⟨0, 0, 0⟩, 3) := by
  have e : decE p t a b = 3 := by unfold decE; rw [if_neg (by omega), if_neg (by omega), if_pos hm]
  unfold decP; rw [e, if_pos (by decide)]
theorem decP_4 {a : Int} (h : ticksE p t [a, b] = 0) (hl : a ≤ b) (hm : b - a < 200) : decP p t a b = (decN p t (b - a + 1).toNat a, 0) := by
  have e : decE p t a b = 0 := by unfold decE; rw [if_neg (by omega), if_neg (by omega), if_neg (by omega)]
  unfold decP; rw [e, if_neg (by decide)]
theorem lookP_1 (h : ticksE p t [now] ≠ 0) : lookP p t now = (lookZ, ticksE p t [now]) := if_pos h
theorem lookP_2 (h : ticksE p t [now] = 0) : lookP p t now = (lookT p t now, 0) := if_neg (by omega)
end

/-! ### spare boxes are sound -/
theorem BoxOk.int {b : Box} (h : BoxOk b) : BoxI b := by
  unfold BoxOk okS at h
  unfold BoxI InI; omega

/-! ### plots that are not known -/
/-- two tasks that are seen alike up to a tick -/
structure Alike (t t' : Task) (now : Int) : Prop where
  good : GoodT t
  good' : GoodT t'
  frm : t'.frm = t.frm
  speed : t'.speed = t.speed
  accel : t'.accel = t.accel
  same : ∀ u n, n ≤ now → SameW t t' u n
section
variable {t t' : Task} {now : Int}
theorem Alike.ahead (h : Alike t t' now) (b : Box) (n : Int) : aheadP t' b n = aheadP t b n := by
  have e1 : ∀ p v, stepV t' v = stepV t v ∧ stepP p v = stepP p v := fun p v => ⟨by unfold stepV; rw [h.accel, h.speed], rfl⟩
  have e2 : ∀ k p v, aheadN t' k p v = aheadN t k p v := by
    intro k
    induction k with
    | zero => intro p v; rfl
    | succ k ih => intro p v; unfold aheadN; rw [ih, (e1 p v).1]
  have e3 : ∀ p v, aheadS t' n p v = aheadS t n p v := fun p v => by unfold aheadS; rw [e2, h.speed]
  unfold aheadP aheadE
  rw [asked_both h.good h.good']
  have e4 : aheadB t' b n = aheadB t b n := by unfold aheadB; simp only [e3]
  rw [e4]
theorem Alike.used (h : Alike t t' now) (p : Plan) {n : Int} (hn : n ≤ now) : ∀ (k : Nat) (f : Int), usedN p t' n k f = usedN p t n k f := by
  intro k
  induction k with
  | zero => intro f; rfl
  | succ k ih => intro f; unfold usedN; rw [ih, (h.same f n hn).spare, h.ahead]
theorem Alike.look (h : Alike t t' now) (p : Plan) {n : Int} (hn : n ≤ now) : lookT p t' n = lookT p t n := by
  unfold lookT usedT; rw [h.used p hn]
theorem Alike.ticks (h : Alike t t' now) (p : Plan) (l : List Int) : ticksE p t' l = ticksE p t l := by
  have e : (checkT t').2.2 = (checkT t).2.2 := by
    rw [checkT_ok h.good.toHead h.good.tr h.good.pl, checkT_ok h.good'.toHead h.good'.tr h.good'.pl]
  unfold ticksE taskE; rw [e]
end

/-! ### the reference's falls -/
/-! ### one that stays -/
end Go.De

/- Layer 6: the examples (plain). -/
set_option linter.all false
namespace Go.De
open Go.Vc Go.Tk

def exPl : Plan := ⟨[⟨1, 0, 100000, 200000⟩, ⟨0, -1, 50000, 80000⟩], ⟨98, 98⟩, 2, 10⟩
def exBx : Box := ⟨50, ⟨0, 10⟩, ⟨0, 0⟩, ⟨1000, 1000⟩, ⟨100, 110⟩, ⟨-5, 5⟩, ⟨0, 0⟩⟩
def exTk : Task := ⟨0, 200000, 100, [], []⟩
def exPV (b : Nat) : Value := .agg #[.slice (some ⟨b, 0, none⟩) 2 2, .int .i64 98, .int .i64 98, .int .i64 2, .int .i64 10]
def exTV : Value := .agg #[.int .i64 0, .int .i64 200000, .int .i64 100, .slice none 0 0, .slice none 0 0]
def exPO (ty : Nat) : Obj := .cells ((exPl.lines.map Line.cells).flatten).toArray ty
theorem exPlR {w : World} {b ty : Nat} (h : w.heap[b]? = some (exPO ty)) : PlanR w (exPV b) exPl := by
  refine ⟨by decide, _, rfl, own_rows h rfl ?_ rfl (by decide)⟩
  intro e he; obtain ⟨x, _, rfl⟩ := List.mem_map.1 he; rfl
theorem exTkR (w : World) : TaskR w exTV exTk :=
  ⟨fun x hx => (by cases hx), by decide, by decide, _, _, rfl, SliceR.nil w _, SliceR.nil w _⟩
theorem ex_fall : fallP exPl exBx = ⟨⟨600, 670⟩, ⟨-30, 30⟩, ⟨56, 56⟩, 0⟩ := by kernel_rfl
def exLk : Look := ⟨⟨3, ⟨-600, 600⟩, ⟨-600, 600⟩, ⟨-600, 600⟩, ⟨-400, 400⟩, ⟨-400, 400⟩, ⟨-400, 400⟩⟩, ⟨-5000, 5000⟩, ⟨-5000, 5000⟩, ⟨4, 14⟩, 0, -1⟩
theorem ex_look : lookP exPl exTk 0 = (exLk, 0) := by kernel_rfl
theorem ex_side : areaE exPl ⟨1, 0⟩ ⟨0, 0⟩ = 7 := by kernel_rfl
theorem ex_sideL : sideL exPl ⟨1, 0⟩ ⟨0, 0⟩ = [] := by kernel_rfl
theorem ex_dec : decP exPl exTk 0 200 = (⟨0, 0, 0⟩, 3) := by kernel_rfl
end Go.De
