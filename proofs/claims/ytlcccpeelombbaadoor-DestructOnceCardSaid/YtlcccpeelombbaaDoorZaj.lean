/- Joined texts. -/
import Derived.Test.YtlcccpeelombbaaDoorZag
import Derived.Test.YtlcccpeelombbaaDoorZai
import Derived.Test.YtlcccpeelombbaaDoorZad
import Derived.KernelRfl
/- Layer 6: falls, as the program finds them (plain). -/
set_option linter.all false
namespace Go.De
open Go.Vc Go.Tk

def accN (f : Nat → Box) : Nat → Option (Span × Span × Nat)
  | 0 => none
  | n + 1 => accF f (n + 1) (accN f n)
theorem fall_from {f : Nat → Box} {at_ : Int} : ∀ n : Nat, n ≤ 3000 → (∀ j, 1 ≤ j → j ≤ n → offB (f j) = false ∧ 0 < (f j).z.hi) → fallN f at_ 3000 1 none = fallN f at_ (3000 - n) (n + 1) (accN f n) := by
  intro n
  induction n with
  | zero => intro _ _; rfl
  | succ n ih =>
    intro hn h
    rw [ih (by omega) fun j h1 h2 => h j h1 (by omega)]
    obtain ⟨h1, h2⟩ := h (n + 1) (by omega) (Nat.le_refl _)
    have e : 3000 - n = (3000 - (n + 1)) + 1 := by omega
    rw [e, fallN, h1, if_neg (by decide), if_neg (by omega)]; rfl
section
variable {g : Span} {b : Box} {n : Nat}
theorem fall_far (hn : n < 3000) (h : ∀ j, 1 ≤ j → j ≤ n → offB (runF g b j) = false ∧ 0 < (runF g b j).z.hi) (ho : offB (runF g b (n + 1)) = true) : fallT g b = ⟨spZ, spZ, spZ, 3⟩ := by
  unfold fallT
  rw [fall_from n (by omega) h, show 3000 - n = (3000 - (n + 1)) + 1 by omega, fallN, if_pos ho]
theorem fall_done (hn : n < 3000) (h : ∀ j, 1 ≤ j → j ≤ n → offB (runF g b j) = false ∧ 0 < (runF g b j).z.hi) (ho : offB (runF g b (n + 1)) = false) (hz : (runF g b (n + 1)).z.hi ≤ 0) : fallT g b = doneF b.at_ (n + 1) (accN (runF g b) (n + 1)) := by
  unfold fallT
  rw [fall_from n (by omega) h, show 3000 - n = (3000 - (n + 1)) + 1 by omega, fallN, if_neg (by rw [ho]; decide), if_pos hz]; rfl
theorem fall_end (h : ∀ j, 1 ≤ j → j ≤ 3000 → offB (runF g b j) = false ∧ 0 < (runF g b j).z.hi) : fallT g b = ⟨spZ, spZ, spZ, 9⟩ := by
  unfold fallT
  rw [fall_from 3000 (Nat.le_refl _) h]; rfl
theorem run_at : ∀ n : Nat, (runF g b n).at_ = b.at_ := by
  intro n
  induction n with
  | zero => rfl
  | succ n ih => exact ih
theorem run_bnd (hb : FallB 0 b) (hg : 1 ≤ g.lo ∧ g.lo ≤ g.hi ∧ g.hi ≤ 200) : ∀ n : Nat, (∀ j, 1 ≤ j → j ≤ n → offB (runF g b j) = false) → FallB n (runF g b n) := by
  intro n
  induction n with
  | zero => intro _; exact hb
  | succ n ih =>
    intro h
    have := fallB_step (ih fun j h1 h2 => h j h1 (by omega)) hg (h (n + 1) (by omega) (Nat.le_refl _))
    push_cast
    exact this
end
/-- what the program keeps of the area -/
def AccV (at_ : Int) (acc : Option (Span × Span × Nat)) (ax ay : Span) (lo : Int) (dn : Bool) : Prop :=
  (dn = true ∧ ∃ a, acc = some (ax, ay, a) ∧ lo = at_ + a) ∨ (dn = false ∧ acc = none ∧ ax = spZ ∧ ay = spZ ∧ lo = 0)
section
variable {at_ : Int} {f : Nat → Box} {n : Nat} {ax ay : Span} {lo : Int} {dn : Bool}
theorem AccV.zero : AccV at_ (accN f 0) spZ spZ 0 false := .inr ⟨rfl, rfl, rfl, rfl, rfl⟩
theorem AccV.more (h : AccV at_ (accN f n) ax ay lo dn) (hd : dn = true) : AccV at_ (accN f (n + 1)) (hullS ax (f (n + 1)).x) (hullS ay (f (n + 1)).y) lo dn := by
  rcases h with ⟨h1, a, h2, h3⟩ | ⟨h1, _⟩
  · refine .inl ⟨h1, a, ?_, h3⟩
    rw [accN, h2]; rfl
  · rw [hd] at h1; cases h1
theorem AccV.first (h : AccV at_ (accN f n) ax ay lo dn) (hd : dn = false) (hz : (f (n + 1)).z.lo ≤ 0) : AccV at_ (accN f (n + 1)) (f (n + 1)).x (f (n + 1)).y (at_ + ((n : Int) + 1)) true := by
  rcases h with ⟨h1, _⟩ | ⟨_, h2, _⟩
  · rw [hd] at h1; cases h1
  · refine .inl ⟨rfl, n + 1, ?_, by push_cast; rfl⟩
    rw [accN, h2, accF, if_pos hz]
theorem AccV.none (h : AccV at_ (accN f n) ax ay lo dn) (hd : dn = false) (hz : 0 < (f (n + 1)).z.lo) : AccV at_ (accN f (n + 1)) ax ay lo false := by
  rcases h with ⟨h1, _⟩ | ⟨_, h2, h3⟩
  · rw [hd] at h1; cases h1
  · refine .inr ⟨rfl, ?_, h3⟩
    rw [accN, h2, accF, if_neg (by omega)]
theorem AccV.done (h : AccV at_ (accN f (n + 1)) ax ay lo dn) : doneF at_ (n + 1) (accN f (n + 1)) = ⟨ax, ay, ⟨lo, at_ + ((n : Int) + 1)⟩, 0⟩ := by
  rcases h with ⟨_, a, h2, h3⟩ | ⟨_, h2, h3, h4, h5⟩
  · rw [h2, doneF, h3]; congr 2
  · rw [h2, doneF, h3, h4, h5]; congr 2
end
theorem off3 {b : Box} : offB b = (offS b.x || (offS b.y || offS b.z)) := rfl
def fallV (g : Span) (b : Box) (n : Nat) : Value := .agg #[.int .i64 (runF g b n).at_, .int .i64 (runF g b n).x.lo, .int .i64 (runF g b n).x.hi, .int .i64 (runF g b n).y.lo, .int .i64 (runF g b n).y.hi, .int .i64 (runF g b n).z.lo, .int .i64 (runF g b n).z.hi, .int .i64 (runF g b n).vx.lo, .int .i64 (runF g b n).vx.hi, .int .i64 (runF g b n).vy.lo, .int .i64 (runF g b n).vy.hi, .int .i64 (runF g b n).vz.lo, .int .i64 (runF g b n).vz.hi, .int .i64 n]
def fallsV (g : Span) (b : Box) (n : Nat) : List (List Value) := (List.range n).map fun i => [fallV g b (i + 1)]
theorem fallsV_succ (g : Span) (b : Box) (n : Nat) : fallsV g b (n + 1) = fallsV g b n ++ [[fallV g b (n + 1)]] := by
  simp [fallsV, List.range_succ]
theorem fallsV_len (g : Span) (b : Box) (n : Nat) : (fallsV g b n).length = n := by simp [fallsV]
theorem fallT_e (g : Span) (b : Box) : (fallT g b).e = 0 ∨ (fallT g b).e = 3 ∨ (fallT g b).e = 9 := by
  have key : ∀ (k t : Nat) (acc : Option (Span × Span × Nat)), (fallN (runF g b) b.at_ k t acc).e = 0 ∨ (fallN (runF g b) b.at_ k t acc).e = 3 ∨ (fallN (runF g b) b.at_ k t acc).e = 9 := by
    intro k
    induction k with
    | zero => intro t acc; exact .inr (.inr rfl)
    | succ k ih =>
      intro t acc
      unfold fallN
      split
      · exact .inr (.inl rfl)
      · split
        · left; unfold doneF; split <;> rfl
        · exact ih _ _
  exact key _ _ _
/-- the error values -/
def errV (tp : Nat) (aF aL : Addr) (e : Int) : Value := if e = 3 then .iface tp (.pointer (some aF)) else if e = 9 then .iface tp (.pointer (some aL)) else .nilIface
end Go.De

/- Layer 6: boxes used, and lines measured, as the program finds them (plain). -/
set_option linter.all false
namespace Go.De
open Go.Vc Go.Tk

def usedW (p : Plan) (t : Task) (now : Int) : Nat → Int → Box × Int × Bool
  | 0, _ => (boxZ, 0, false)
  | k + 1, frm => if frm < 0 ∨ p.blind < now - frm then (boxZ, 0, false) else if (spareP t frm now).2 = 0 then
      ((aheadP t (spareP t frm now).1 (now - frm + p.wait + 1)).1, frm, decide ((aheadP t (spareP t frm now).1 (now - frm + p.wait + 1)).2 = 0))
    else usedW p t now k (frm - 1)
def usedQ (p : Plan) (t : Task) (now : Int) : Box × Int × Bool := usedW p t now (p.blind + 1).toNat now
section
variable {p : Plan} {t : Task} {now : Int}
theorem usedW_is : ∀ (k : Nat) (frm : Int), (∀ b f, usedN p t now k frm = some (b, f) → usedW p t now k frm = (b, f, true)) ∧ (usedN p t now k frm = none → (usedW p t now k frm).2.2 = false) := by
  intro k
  induction k with
  | zero => intro frm; exact ⟨fun b f h => (by cases h), fun _ => rfl⟩
  | succ k ih =>
    intro frm
    unfold usedN usedW
    split
    · exact ⟨fun b f h => (by cases h), fun _ => rfl⟩
    · split
      · split
        · rename_i h3
          refine ⟨fun b f h => ?_, fun h => (by cases h)⟩
          simp only [Option.some.injEq, Prod.mk.injEq] at h
          obtain ⟨rfl, rfl⟩ := h
          rw [decide_eq_true h3]
        · rename_i h3
          exact ⟨fun b f h => (by cases h), fun _ => decide_eq_false h3⟩
      · exact ih (frm - 1)
theorem usedQ_some {b : Box} {f : Int} (h : usedT p t now = some (b, f)) : usedQ p t now = (b, f, true) := (usedW_is _ _).1 b f h
theorem usedQ_none (h : usedT p t now = none) : (usedQ p t now).2.2 = false := (usedW_is _ _).2 h
theorem usedQ_t (h : (usedQ p t now).2.2 = true) : usedT p t now = some ((usedQ p t now).1, (usedQ p t now).2.1) := by
  cases hu : usedT p t now with
  | none => rw [usedQ_none hu] at h; cases h
  | some q => obtain ⟨b, f⟩ := q; rw [usedQ_some hu]
theorem usedQ_f (h : (usedQ p t now).2.2 = false) : usedT p t now = none := by
  cases hu : usedT p t now with
  | none => rfl
  | some q => obtain ⟨b, f⟩ := q; rw [usedQ_some hu] at h; cases h
theorem usedW_stop (k : Nat) {frm : Int} (h : frm < 0 ∨ p.blind < now - frm) : usedW p t now k frm = (boxZ, 0, false) := by
  cases k with
  | zero => rfl
  | succ k => unfold usedW; rw [if_pos h]
theorem usedW_hit {frm : Int} (h0 : 0 ≤ frm) (h1 : now - frm ≤ p.blind) (h2 : (spareP t frm now).2 = 0) : usedW p t now (p.blind + 1 - (now - frm)).toNat frm =
    ((aheadP t (spareP t frm now).1 (now - frm + p.wait + 1)).1, frm, decide ((aheadP t (spareP t frm now).1 (now - frm + p.wait + 1)).2 = 0)) := by
  rw [show (p.blind + 1 - (now - frm)).toNat = (p.blind - (now - frm)).toNat + 1 by omega, usedW, if_neg (by omega), if_pos h2]
theorem usedW_go {frm : Int} (h0 : 0 ≤ frm) (h1 : now - frm ≤ p.blind) (h2 : (spareP t frm now).2 ≠ 0) : usedW p t now (p.blind + 1 - (now - frm)).toNat frm = usedW p t now (p.blind + 1 - (now - (frm - 1))).toNat (frm - 1) := by
  rw [show (p.blind + 1 - (now - frm)).toNat = (p.blind - (now - frm)).toNat + 1 by omega, usedW, if_neg (by omega), if_neg h2, show p.blind - (now - frm) = p.blind + 1 - (now - (frm - 1)) by omega]
end

theorem most_bnd {l : Line} {x y : Span} (hl : LnB l) (hx : offS x = false) (hy : offS y = false) : (-4000000000000 ≤ mostL l x y ∧ mostL l x y ≤ 4000000000000) ∧ (-4000000000000 ≤ leastL l x y ∧ leastL l x y ≤ 4000000000000) := by
  have hx := off_false.1 hx
  have hy := off_false.1 hy
  have m0 := mul_abs (A := 1000) (B := 2000000000) (by omega) hl.a (b := x.lo) (by omega)
  have m1 := mul_abs (A := 1000) (B := 2000000000) (by omega) hl.a (b := x.hi) (by omega)
  have m2 := mul_abs (A := 1000) (B := 2000000000) (by omega) hl.b (b := y.lo) (by omega)
  have m3 := mul_abs (A := 1000) (B := 2000000000) (by omega) hl.b (b := y.hi) (by omega)
  unfold mostL leastL
  omega
def sideN (p : Plan) (x y : Span) (k : Nat) : List Int := (p.lines.take k).map fun l => l.line - mostL l x y
theorem sideN_succ {p : Plan} {x y : Span} {k : Nat} (hk : k < p.lines.length) : sideN p x y (k + 1) = sideN p x y k ++ [(p.ln k).line - mostL (p.ln k) x y] := by
  unfold sideN Plan.ln
  rw [List.getD_eq_getElem?_getD, List.getElem?_eq_getElem hk, List.take_succ, List.getElem?_eq_getElem hk, List.map_append]; rfl
theorem sideN_all {p : Plan} {x y : Span} (h : areaE p x y = 0) : sideN p x y p.lines.length = sideL p x y := by
  unfold sideN sideL
  rw [List.take_length, if_neg (by omega)]
theorem sideL_bad {p : Plan} {x y : Span} (h : areaE p x y ≠ 0) : sideL p x y = [] := if_pos h
theorem area_zero {p : Plan} {x y : Span} (h : areaE p x y = 0) : GoodP p ∧ offS x = false ∧ offS y = false := by
  unfold areaE at h
  split at h
  · contradiction
  · rename_i h1
    split at h
    · cases h
    · rename_i h2
      simp only [Bool.or_eq_true, not_or, Bool.not_eq_true] at h2
      exact ⟨good_of_plan (by omega), h2⟩
theorem GoodP.ln_at {p : Plan} (h : GoodP p) {i : Nat} (hi : i < p.lines.length) : LnB (p.ln i) := ln_zero (h.ln i hi)
/-- the lines beyond which a place is, from the first on -/
theorem over_hit {p : Plan} {x y : Span} {k : Int} (h0 : 0 ≤ k) (hk : k < p.lines.length) (hb : ∀ j : Nat, (j : Int) < k → mostL (p.ln j) x y ≤ (p.ln j).line) (h : (p.ln k.toNat).line < mostL (p.ln k.toNat) x y) : overI p x y = k := by
  unfold overI
  rw [Tk.firstIdx_hit (p := fun i => decide ((p.ln i).line < mostL (p.ln i) x y)) (k := k.toNat) (by omega) (decide_eq_true h) (fun j hj => decide_eq_false (by have := hb j (by omega); omega))]
  omega
theorem over_no {p : Plan} {x y : Span} (hb : ∀ j : Nat, j < p.lines.length → mostL (p.ln j) x y ≤ (p.ln j).line) : overI p x y = -1 := by
  unfold overI
  exact Tk.firstIdx_none fun j hj => decide_eq_false (by have := hb j hj; omega)
theorem over_neg {p : Plan} {x y : Span} (h : overI p x y < 0) : overI p x y = -1 := by
  refine over_no fun j hj => ?_
  unfold overI at h
  have := fidx_lt.1 h j hj
  have := of_decide_eq_false this
  omega
theorem area_fall {g : Span} {b : Box} (h : (fallT g b).e = 0) : offS (fallT g b).x = false ∧ offS (fallT g b).y = false := by
  obtain ⟨m, n, hi, _⟩ := fallT_is h
  have key : ∀ j, j ≤ n - m → InS (runF g b (m + j)).x ⟨-2000000000, 2000000000⟩ ∧ InS (runF g b (m + j)).y ⟨-2000000000, 2000000000⟩ := by
    intro j hj
    have := hi.off (m + j) (by have := hi.a1; omega) (by have := hi.ab; omega)
    simp only [offB, Bool.or_eq_false_iff, off_false] at this
    unfold InS; dsimp only; omega
  have h1 := hullF_sub (n - m) key
  have h2 := hullF_in (runF g b) m (n - m) 0 (by omega)
  have h3 := hi.off m hi.a1 hi.ab
  simp only [offB, Bool.or_eq_false_iff, off_false] at h3
  rw [← hi.x, ← hi.y] at h1 h2
  obtain ⟨⟨a1, a2⟩, ⟨b1, b2⟩⟩ := h1
  obtain ⟨⟨c1, c2⟩, ⟨d1, d2⟩⟩ := h2
  simp only [Nat.add_zero] at c1 c2 d1 d2
  dsimp only at a1 a2 b1 b2
  simp only [off_false]
  omega
theorem fallT_bad {g : Span} {b : Box} (h : ¬(fallT g b).e = 0) : (fallT g b).x = spZ ∧ (fallT g b).y = spZ ∧ (fallT g b).at_ = spZ := by
  have key : ∀ (k t : Nat) (acc : Option (Span × Span × Nat)), ¬(fallN (runF g b) b.at_ k t acc).e = 0 → (fallN (runF g b) b.at_ k t acc).x = spZ ∧ (fallN (runF g b) b.at_ k t acc).y = spZ ∧ (fallN (runF g b) b.at_ k t acc).at_ = spZ := by
    intro k
    induction k with
    | zero => intro t acc _; exact ⟨rfl, rfl, rfl⟩
    | succ k ih =>
      intro t acc
      unfold fallN
      split
      · intro _; exact ⟨rfl, rfl, rfl⟩
      · split
        · intro h; exfalso; apply h; unfold doneF; split <;> rfl
        · exact ih _ _
  exact key _ _ _ h
end Go.De

/- Layer 6: decisions; spare boxes are sound; plots that are not known (plain). -/
set_option linter.all false
namespace Go.De
open Go.Vc Go.Tk

/-! ### decisions -/
section
variable {p : Plan} {t : Task} {b now : Int}
theorem decN_hit (h : now ≤ b) (hw : (lookT p t now).why ≠ 0) : decN p t (b - now + 1).toNat now = ⟨now, (lookT p t now).why, (lookT p t now).line⟩ := by
  rw [show (b - now + 1).toNat = (b - now).toNat + 1 by omega, decN, if_pos hw]
theorem decN_go (h : now ≤ b) (hw : (lookT p t now).why = 0) : decN p t (b - now + 1).toNat now = decN p t (b - (now + 1) + 1).toNat (now + 1) := by
  rw [show (b - now + 1).toNat = (b - now).toNat + 1 by omega, decN, if_neg (by omega), show b - now = b - (now + 1) + 1 by omega]
theorem decN_end (h : b < now) : decN p t (b - now + 1).toNat now = ⟨-1, 0, -1⟩ := by
  rw [show (b - now + 1).toNat = 0 by omega]; rfl

theorem decP_1 {a : Int} (h : ticksE p t [a, b] ≠ 0) : decP p t a b = (⟨0, 0, 0⟩, ticksE p t [a, b]) := by
  have e : decE p t a b = ticksE p t [a, b] := by unfold decE; rw [if_pos h]
  unfold decP; rw [e, if_pos h]
theorem decP_2 {a : Int} (h : ticksE p t [a, b] = 0) (hl : b < a) : decP p t a b = (⟨0, 0, 0⟩, 7) := by
  have e : decE p t a b = 7 := by unfold decE; rw [if_neg (by omega), if_pos hl]
  unfold decP; rw [e, if_pos (by decide)]
theorem decP_3 {a : Int} (h : ticksE p t [a, b] = 0) (hl : a ≤ b) (hm : 200 ≤ b - a) : decP p t a b = (⟨0, 0, 0⟩, 3) := by
  have e : decE p t a b = 3 := by unfold decE; rw [if_neg (by omega), if_neg (by omega), if_pos hm]
  unfold decP; rw [e, if_pos (by decide)]
theorem decP_4 {a : Int} (h : ticksE p t [a, b] = 0) (hl : a ≤ b) (hm : b - a < 200) : decP p t a b = (decN p t (b - a + 1).toNat a, 0) := by
  have e : decE p t a b = 0 := by unfold decE; rw [if_neg (by omega), if_neg (by omega), if_neg (by omega)]
  unfold decP; rw [e, if_neg (by decide)]
theorem lookP_1 (h : ticksE p t [now] ≠ 0) : lookP p t now = (lookZ, ticksE p t [now]) := if_pos h
theorem lookP_2 (h : ticksE p t [now] = 0) : lookP p t now = (lookT p t now, 0) := if_neg (by omega)
end

theorem tailP_alt (p : Plan) : tailP p = (oP p.grav.lo 1 200 || (oP p.grav.hi p.grav.lo 200 || (oP p.wait 0 100 || oP p.blind 0 300))) := by
  rw [Bool.eq_iff_iff]; simp only [tailP, Bool.or_eq_true, oP_true]; omega

/-! ### spare boxes are sound -/
theorem boxT_ok {t : Task} (hG : GoodT t) {ps : List Int} (hp : ∀ i ∈ ps, 0 ≤ i ∧ i < t.plots.length) {u : Int} (hu : 0 ≤ u ∧ u ≤ 100000) {b : Box} (h : boxT t ps u = some b) : BoxOk b := by
  have hsp := hG.nums
  have sub : ∀ (k : Int) (n : Nat) (s : Span), fastN t ps k u n = some s → -t.speed ≤ s.lo ∧ s.hi ≤ t.speed := by
    intro k n
    induction n with
    | zero => intro s h; simp only [fastN, Option.some.injEq] at h; subst h; unfold room0; dsimp only; omega
    | succ n ih =>
      intro s h
      unfold fastN at h
      cases h0 : fastN t ps k u n with
      | none => rw [h0] at h; cases h
      | some r =>
        have hr := ih r h0
        rw [h0, Option.bind_some] at h
        have one : ∀ r' , fastB t ps k u ((n : Int) + 1) r = some r' → -t.speed ≤ r'.lo ∧ r'.hi ≤ t.speed := by
          intro r' h'
          unfold fastB at h'
          split at h'
          · split at h'
            · cases h'
            · cases h'; unfold goneS; dsimp only; omega
          · cases h'; exact hr
        cases h1 : fastB t ps k u ((n : Int) + 1) r with
        | none => rw [h1] at h; cases h
        | some r' =>
          have hr' := one r' h1
          rw [h1, Option.bind_some] at h
          unfold fastF at h
          split at h
          · split at h
            · cases h
            · cases h; unfold goneS; dsimp only; omega
          · cases h; exact hr'
  have fast : ∀ (k : Int) (a : Span × Span), partT t ps k u = some a → okS 2000000000 a.1 ∧ okS 1000000 a.2 := by
    intro k a h
    have hne := partT_ne h
    have hpl := partT_place h
    have hb := placeT_bnd hG hp hu.2 k
    rw [← hpl] at hb
    unfold SpanB at hb
    refine ⟨by unfold okS; omega, ?_⟩
    unfold partT at h
    cases hf : fastT t ps k u with
    | none => rw [hf] at h; cases h
    | some v =>
      rw [hf] at h
      simp only [Option.bind_some] at h
      split at h
      · cases h
      · cases h
        dsimp only at hne ⊢
        unfold fastT at hf
        split at hf
        · cases hf; unfold okS; dsimp only; omega
        · cases h8 : fastN t ps k u 8 with
          | none => rw [h8] at hf; cases hf
          | some r =>
            rw [h8] at hf
            simp only [Option.bind_some] at hf
            split at hf
            · cases hf
            · cases hf
              have := sub k 8 _ h8
              unfold okS; omega
  obtain ⟨p0, p1, p2, e0, e1, e2, rfl⟩ := boxT_parts h
  have f0 := fast 0 p0 e0; have f1 := fast 1 p1 e1; have f2 := fast 2 p2 e2
  exact ⟨hu, f0.1, f1.1, f2.1, f0.2, f1.2, f2.2⟩
theorem foldl_ok {u : Int} : ∀ (l : List (Int × Box)) (acc : Option Box), (∀ b, acc = some b → BoxOk b) → (∀ p ∈ l, BoxOk p.2) → ∀ b, l.foldl (fun acc p => addB acc p.2) acc = some b → BoxOk b := by
  intro l
  induction l with
  | nil => intro acc h _ b hb; exact h b hb
  | cons p l ih =>
    intro acc h hp b hb
    refine ih (addB acc p.2) ?_ (fun q hq => hp q (.tail _ hq)) b hb
    intro c hc
    have h2 := hp p (.head _)
    cases acc with
    | none => cases hc; exact h2
    | some a =>
      cases hc
      have h1 := h a rfl
      unfold BoxOk okS at h1 h2 ⊢
      simp only [joinB, joinS]
      omega
theorem spareT_ok {t : Task} (hG : GoodT t) {u now : Int} (hu : 0 ≤ u ∧ u ≤ 100000) {b : Box} (h : spareT t u now = some b) : BoxOk b := by
  unfold spareT at h
  split at h
  · exact boxT_ok hG byT_bnd hu h
  · exact foldl_ok (u := u) _ none (fun _ h => by cases h) (fun p hp => boxT_ok hG byT_bnd hu (others_mem hp).1) b h
theorem spareP_box {t : Task} {u now : Int} (h : (spareP t u now).2 = 0) : BoxOk (spareP t u now).1 := by
  obtain ⟨hG, hu⟩ := spare_box h
  exact spareT_ok hG hu (spareP_ok h).2
theorem BoxOk.int {b : Box} (h : BoxOk b) : BoxI b := by
  unfold BoxOk okS at h
  unfold BoxI InI; omega

/-! ### plots that are not known -/
/-- two tasks that are seen alike up to a tick -/
structure Alike (t t' : Task) (now : Int) : Prop where
  good : GoodT t
  good' : GoodT t'
  frm : t'.frm = t.frm
  speed : t'.speed = t.speed
  accel : t'.accel = t.accel
  same : ∀ u n, n ≤ now → SameW t t' u n
section
variable {t t' : Task} {now : Int}
theorem Alike.ahead (h : Alike t t' now) (b : Box) (n : Int) : aheadP t' b n = aheadP t b n := by
  have e1 : ∀ p v, stepV t' v = stepV t v ∧ stepP p v = stepP p v := fun p v => ⟨by unfold stepV; rw [h.accel, h.speed], rfl⟩
  have e2 : ∀ k p v, aheadN t' k p v = aheadN t k p v := by
    intro k
    induction k with
    | zero => intro p v; rfl
    | succ k ih => intro p v; unfold aheadN; rw [ih, (e1 p v).1]
  have e3 : ∀ p v, aheadS t' n p v = aheadS t n p v := fun p v => by unfold aheadS; rw [e2, h.speed]
  unfold aheadP aheadE
  rw [asked_both h.good h.good']
  have e4 : aheadB t' b n = aheadB t b n := by unfold aheadB; simp only [e3]
  rw [e4]
theorem Alike.used (h : Alike t t' now) (p : Plan) {n : Int} (hn : n ≤ now) : ∀ (k : Nat) (f : Int), usedN p t' n k f = usedN p t n k f := by
  intro k
  induction k with
  | zero => intro f; rfl
  | succ k ih => intro f; unfold usedN; rw [ih, (h.same f n hn).spare, h.ahead]
theorem Alike.look (h : Alike t t' now) (p : Plan) {n : Int} (hn : n ≤ now) : lookT p t' n = lookT p t n := by
  unfold lookT usedT; rw [h.used p hn]
theorem Alike.ticks (h : Alike t t' now) (p : Plan) (l : List Int) : ticksE p t' l = ticksE p t l := by
  have e : (checkT t').2.2 = (checkT t).2.2 := by
    rw [checkT_ok h.good.toHead h.good.tr h.good.pl, checkT_ok h.good'.toHead h.good'.tr h.good'.pl]
  unfold ticksE taskE; rw [e]
theorem Alike.dec (h : Alike t t' now) (p : Plan) {a : Int} : decP p t' a now = decP p t a now := by
  have e : ∀ (k : Nat) (n : Int), n + k ≤ now + 1 → decN p t' k n = decN p t k n := by
    intro k
    induction k with
    | zero => intro n _; rfl
    | succ k ih => intro n hn; unfold decN; rw [ih (n + 1) (by omega), h.look p (by omega)]
  have ht := h.ticks p [a, now]
  by_cases h0 : ticksE p t [a, now] = 0
  · by_cases hl : now < a
    · rw [decP_2 h0 hl, decP_2 (by rw [ht]; exact h0) hl]
    · by_cases hm : 200 ≤ now - a
      · rw [decP_3 h0 (by omega) hm, decP_3 (by rw [ht]; exact h0) (by omega) hm]
      · rw [decP_4 h0 (by omega) (by omega), decP_4 (by rw [ht]; exact h0) (by omega) (by omega), e _ _ (by omega)]
  · rw [decP_1 h0, decP_1 (by rw [ht]; exact h0), ht]
theorem knownB_le {now n : Int} (hn : n ≤ now) {j : Nat} (h : knownB t n j = true) : knownB t now j = true := by
  unfold knownB at *
  simp only [decide_eq_true_eq] at *; omega
theorem said_alike {a b c : Int} (hG : GoodT t) (ha : -2000000000 ≤ a ∧ a ≤ 2000000000) (h' : SayT t t' now) : Alike t t' now :=
  ⟨hG, h'.good hG, h'.frm, h'.speed, h'.accel, fun u n hn => SayT.same (now := n) ⟨h'.frm, h'.speed, h'.accel, h'.trackers, h'.len, fun j hj => let ⟨x1, x2, x3, x4⟩ := h'.pl j hj; ⟨x1, x2, fun hk => x3 (knownB_le hn hk), x4⟩⟩ hG u⟩
theorem less_alike (hG : GoodT t) : Alike t (lessT t now) now := by
  have h := lessT_sub (t := t) now
  refine ⟨hG, h.good hG, rfl, rfl, rfl, fun u n hn => ⟨asked_both hG (h.good hG) _, rfl, fun want => (box_same (h.binds hG n want) (h.rbinds hG n want fun i hi hk => ?_) u).symm⟩⟩
  have hm : (i : Int) ∈ knownN t now t.plots.length := by
    rw [knownN, List.mem_map]
    exact ⟨i, List.mem_filter.2 ⟨List.mem_range.2 hi, knownB_le hn hk⟩, rfl⟩
  obtain ⟨j, hj, e⟩ := List.getElem_of_mem hm
  refine ⟨j, by show j < (lessL _ _ _).length; rw [lessL, List.length_map]; exact hj, ?_⟩
  rw [List.getD_eq_getElem?_getD, List.getElem?_eq_getElem hj]
  show (_ : Int).toNat = i
  rw [e]; exact Int.toNat_natCast i
end

/-- with a greater last it is the same; the last tick may be that at which it is ended -/
theorem dec_last {p : Plan} {t : Task} {a b : Int} (h : (decP p t a b).2 = 0) : decP p t a (if 0 ≤ (decP p t a b).1.tick then (decP p t a b).1.tick else b) = decP p t a b ∧
    (0 ≤ (if 0 ≤ (decP p t a b).1.tick then (decP p t a b).1.tick else b) ∧ (if 0 ≤ (decP p t a b).1.tick then (decP p t a b).1.tick else b) ≤ 100000) ∧ GoodP p ∧ GoodT t := by
  have hz : decE p t a b = 0 := by
    unfold decP at h
    split at h
    · contradiction
    · rename_i h1; omega
  have ht : ticksE p t [a, b] = 0 := by
    unfold decE at hz
    split at hz
    · contradiction
    · rename_i h1; omega
  obtain ⟨hp, hG, hn⟩ := ticks_zero ht
  have ha := hn a (.head _)
  have hb := hn b (.tail _ (.head _))
  have hab : a ≤ b ∧ b - a < 200 := by
    unfold decE at hz
    rw [if_neg (by omega)] at hz
    split at hz
    · cases hz
    · split at hz
      · cases hz
      · omega
  have e : decP p t a b = (decN p t (b - a + 1).toNat a, 0) := by unfold decP; rw [if_neg (by omega)]
  have key : ∀ (k : Nat) (n : Int), (decN p t k n).tick = -1 ∨ ∃ j : Nat, j < k ∧ (decN p t k n).tick = n + j ∧ decN p t (j + 1) n = decN p t k n := by
    intro k
    induction k with
    | zero => intro n; exact .inl rfl
    | succ k ih =>
      intro n
      by_cases hw : (lookT p t n).why ≠ 0
      · right
        refine ⟨0, by omega, ?_, ?_⟩
        · rw [decN, if_pos hw]; simp
        · rw [decN, if_pos hw, decN, if_pos hw]
      · have e1 : ∀ m, decN p t (m + 1) n = decN p t m (n + 1) := fun m => by rw [decN, if_neg hw]
        rw [e1]
        rcases ih (n + 1) with h | ⟨j, h1, h2, h3⟩
        · exact .inl h
        · right
          refine ⟨j + 1, by omega, by rw [h2]; push_cast; omega, ?_⟩
          rw [e1, h3]
  rcases key (b - a + 1).toNat a with h0 | ⟨j, h1, h2, h3⟩
  · rw [e]
    dsimp only
    rw [h0, if_neg (by decide)]
    exact ⟨e, hb, hp, hG⟩
  · rw [e]
    dsimp only
    rw [h2, if_pos (by omega)]
    refine ⟨?_, by omega, hp, hG⟩
    have hz2 : decE p t a (a + j) = 0 := by
      unfold decE
      have hc := ticks_check ht
      have : ticksE p t [a, a + j] = 0 := ticks_good hp hc (by
        intro x hx
        simp only [List.mem_cons, List.not_mem_nil, or_false] at hx
        rcases hx with rfl | rfl <;> omega)
      rw [if_neg (by omega), if_neg (by omega), if_neg (by omega)]
    unfold decP
    rw [if_neg (by omega), show (a + (j : Int) - a + 1).toNat = j + 1 by omega, h3]

/-! ### the reference's falls -/
theorem offZ {b : Box} (h : offB b = false) (hz : (0 : Int) < b.z.lo) : 0 < b.z.hi := by have := offB_z h; omega

/-! ### one that stays -/
theorem stay_law {p : Plan} {x y : Span} {a b : Int} (hk : ∀ l ∈ p.lines, measI l a b ≤ l.keep) (hn : ∀ l ∈ p.lines, mostL l x y - measI l a b ≤ l.line - l.keep) : overI p x y < 0 := by
  rw [over_none]
  intro l hl
  have := hk l hl
  have := hn l hl
  omega
end Go.De

/- Layer 6: the examples (plain). -/
set_option linter.all false
namespace Go.De
open Go.Vc Go.Tk

def exPl : Plan := ⟨[⟨1, 0, 100000, 200000⟩, ⟨0, -1, 50000, 80000⟩], ⟨98, 98⟩, 2, 10⟩
def exBx : Box := ⟨50, ⟨0, 10⟩, ⟨0, 0⟩, ⟨1000, 1000⟩, ⟨100, 110⟩, ⟨-5, 5⟩, ⟨0, 0⟩⟩
def exTk : Task := ⟨0, 200000, 100, [], []⟩
def exLs (b : Nat) : Value := .slice (some ⟨b, 0, none⟩) 2 2
def exPV (b : Nat) : Value := .agg #[.slice (some ⟨b, 0, none⟩) 2 2, .int .i64 98, .int .i64 98, .int .i64 2, .int .i64 10]
def exTV : Value := .agg #[.int .i64 0, .int .i64 200000, .int .i64 100, .slice none 0 0, .slice none 0 0]
def exPO (ty : Nat) : Obj := .cells ((exPl.lines.map Line.cells).flatten).toArray ty
theorem exPlR {w : World} {b ty : Nat} (h : w.heap[b]? = some (exPO ty)) : PlanR w (exPV b) exPl := by
  refine ⟨by decide, _, rfl, own_rows h rfl ?_ rfl (by decide)⟩
  intro e he; obtain ⟨x, _, rfl⟩ := List.mem_map.1 he; rfl
theorem exTkR (w : World) : TaskR w exTV exTk :=
  ⟨fun x hx => (by cases hx), by decide, by decide, _, _, rfl, SliceR.nil w _, SliceR.nil w _⟩
theorem ex_fall : fallP exPl exBx = ⟨⟨600, 670⟩, ⟨-30, 30⟩, ⟨56, 56⟩, 0⟩ := by kernel_rfl
def exLk : Look := ⟨⟨3, ⟨-600, 600⟩, ⟨-600, 600⟩, ⟨-600, 600⟩, ⟨-400, 400⟩, ⟨-400, 400⟩, ⟨-400, 400⟩⟩, ⟨-5000, 5000⟩, ⟨-5000, 5000⟩, ⟨4, 14⟩, 0, -1⟩
theorem ex_look : lookP exPl exTk 0 = (exLk, 0) := by kernel_rfl
theorem ex_side : areaE exPl ⟨1, 0⟩ ⟨0, 0⟩ = 7 := by kernel_rfl
theorem ex_sideL : sideL exPl ⟨1, 0⟩ ⟨0, 0⟩ = [] := by kernel_rfl
theorem ex_dec : decP exPl exTk 0 200 = (⟨0, 0, 0⟩, 3) := by kernel_rfl
end Go.De

/- Layer 6: numbers by shares; what falls from a place (plain). -/
set_option linter.all false
namespace Go.De
open Go.Vc Go.Tk

/-- a number in a span, by a share -/
def pickI (s : Span) (l : List Int) (i : Int) : Int := if l.length = 0 then s.lo else shareI s (l.getD (i.tmod (l.length : Int)).toNat 0)
theorem share_getD {l : List Int} (h : ∀ n ∈ l, 0 ≤ n ∧ n ≤ 255) (i : Nat) : 0 ≤ l.getD i 0 ∧ l.getD i 0 ≤ 255 := by
  rw [List.getD_eq_getElem?_getD]
  cases hi : l[i]? with
  | none => decide
  | some n => exact h n (List.mem_of_getElem? hi)
theorem pick_in {s : Span} {l : List Int} {i : Int} (hs : s.lo ≤ s.hi) (hl : ∀ n ∈ l, 0 ≤ n ∧ n ≤ 255) : s.lo ≤ pickI s l i ∧ pickI s l i ≤ s.hi := by
  unfold pickI
  split
  · omega
  · exact share_in hs (share_getD hl _)
theorem share_nums {s : Span} {n : Int} (hs : -4000000000 ≤ s.lo ∧ s.lo ≤ s.hi ∧ s.hi ≤ 4000000000) (hn : 0 ≤ n ∧ n ≤ 255) :
    (0 ≤ (s.hi - s.lo) * n ∧ (s.hi - s.lo) * n ≤ 8000000000 * 255) ∧ 0 ≤ ((s.hi - s.lo) * n).tdiv 255 ∧ ((s.hi - s.lo) * n).tdiv 255 ≤ 8000000000 := by
  have h1 := mul_bnd (show 0 ≤ s.hi - s.lo ∧ s.hi - s.lo ≤ 8000000000 by omega) hn
  have h2 := share_in (s := s) (by omega) hn
  unfold shareI at h2
  omega

/-- when it comes down: the first tick at which it is at most at the ground, of k ticks from n on -/
def comeN (q : Nat → P3) : Nat → Nat → Nat
  | 0, n => n
  | k + 1, n => if (q n).z ≤ 0 then n else comeN q k (n + 1)
theorem come_at {q : Nat → P3} {n : Nat} : ∀ (k m : Nat), m ≤ n → n < m + k → (∀ j, m ≤ j → j < n → 0 < (q j).z) → (q n).z ≤ 0 → comeN q k m = n := by
  intro k
  induction k with
  | zero => intro m h1 h2; omega
  | succ k ih =>
    intro m h1 h2 h3 h4
    unfold comeN
    by_cases e : m = n
    · subst e; rw [if_pos h4]
    · rw [if_neg (by have := h3 m (Nat.le_refl _) (by omega); omega)]
      exact ih (m + 1) (by omega) (by omega) (fun j a b => h3 j (by omega) b) h4
theorem come_ex {q : Nat → P3} : ∀ (k m b : Nat), m ≤ b → b < m + k → (q b).z ≤ 0 → m ≤ comeN q k m ∧ comeN q k m ≤ b ∧ (q (comeN q k m)).z ≤ 0 ∧ ∀ j, m ≤ j → j < comeN q k m → 0 < (q j).z := by
  intro k
  induction k with
  | zero => intro m b h1 h2; omega
  | succ k ih =>
    intro m b h1 h2 h3
    unfold comeN
    split
    · rename_i hz; exact ⟨Nat.le_refl _, h1, hz, fun j a c => by omega⟩
    · rename_i hz
      have hm : m ≠ b := fun e => by subst e; exact hz h3
      obtain ⟨a1, a2, a3, a4⟩ := ih (m + 1) b (by omega) (by omega) h3
      refine ⟨by omega, a2, a3, fun j a c => ?_⟩
      by_cases e : j = m
      · subst e; omega
      · exact a4 j (by omega) c
/-- how great the numbers of one that falls are -/
def P3B (p : P3) : Prop := (-2000000000 ≤ p.x ∧ p.x ≤ 2000000000) ∧ (-2000000000 ≤ p.y ∧ p.y ≤ 2000000000) ∧ (-2000000000 ≤ p.z ∧ p.z ≤ 2000000000) ∧
  (-2000000 ≤ p.vx ∧ p.vx ≤ 2000000) ∧ (-2000000 ≤ p.vy ∧ p.vy ≤ 2000000) ∧ (-2000000 ≤ p.vz ∧ p.vz ≤ 2000000)
theorem fallP_ok {p : Plan} {b : Box} (h : (fallP p b).e = 0) : GoodP p ∧ BoxOk b ∧ fallP p b = fallT p.grav b ∧ (fallT p.grav b).e = 0 := by
  unfold fallP at h ⊢
  by_cases h1 : planE p = 0
  · by_cases h2 : boxE b = 0
    · rw [if_neg (by omega), if_neg (by omega)] at h ⊢
      exact ⟨good_of_plan h1, boxE_ok h2, rfl, h⟩
    · rw [if_neg (by omega), if_pos h2] at h
      exact absurd h h2
  · rw [if_pos h1] at h
    exact absurd h h1
def startP (b : Box) (l : List Int) : P3 := ⟨pickI b.x l 0, pickI b.y l 1, pickI b.z l 2, pickI b.vx l 3, pickI b.vy l 4, pickI b.vz l 5⟩
theorem start_in {b : Box} {l : List Int} (hb : BoxOk b) (hl : ∀ n ∈ l, 0 ≤ n ∧ n ≤ 255) : InP (startP b l) b := by
  obtain ⟨h0, h1, h2, h3, h4, h5, h6⟩ := hb
  unfold okS at *
  exact ⟨pick_in h1.2.1 hl, pick_in h2.2.1 hl, pick_in h3.2.1 hl, pick_in h4.2.1 hl, pick_in h5.2.1 hl, pick_in h6.2.1 hl⟩
def gzI (g : Span) (l : List Int) : Nat → Int := fun n => pickI g l (n : Int)
def runS (p : Plan) (b : Box) (l : List Int) : Nat → P3 := runP3 (gzI p.grav l) (startP b l)
def comeT (p : Plan) (b : Box) (l : List Int) : Nat := comeN (runS p b l) 3000 1
/-- what falls from a place in the box comes down, at a tick and at a place of the fall -/
theorem true_law {p : Plan} {b : Box} {l : List Int} (hl : ∀ n ∈ l, 0 ≤ n ∧ n ≤ 255) (h : (fallP p b).e = 0) :
    (∃ m : Nat, 1 ≤ m ∧ m ≤ 3000 ∧ (runS p b l m).z ≤ 0 ∧ ∀ j, j ≤ m → P3B (runS p b l j)) ∧
    ((fallP p b).at_.lo ≤ b.at_ + (comeT p b l : Int) ∧ b.at_ + (comeT p b l : Int) ≤ (fallP p b).at_.hi) ∧ ((fallP p b).x.lo ≤ (runS p b l (comeT p b l)).x ∧ (runS p b l (comeT p b l)).x ≤ (fallP p b).x.hi) ∧
    ((fallP p b).y.lo ≤ (runS p b l (comeT p b l)).y ∧ (runS p b l (comeT p b l)).y ≤ (fallP p b).y.hi) ∧ (comeT p b l : Int) ≤ 3000 := by
  obtain ⟨hp, hb, he, h0⟩ := fallP_ok h
  have hg := hp.nums.2.1
  obtain ⟨m, n, hi, hn⟩ := fallT_is h0
  have hin : ∀ j, InP (runS p b l j) (runF p.grav b j) := runP3_in (fun j => pick_in hg.2.1 hl) (start_in hb hl)
  have hz := fall_ex hi hin
  have hbd : ∀ j, j ≤ n → P3B (runS p b l j) := by
    intro j hj
    have := run_bnd (fallB_0 hb) hg j (fun k a c => hi.off k a (by omega))
    obtain ⟨i1, i2, i3, i4, i5, i6⟩ := hin j
    unfold FallB at this
    unfold P3B; omega
  have h1n : 1 ≤ n := by have := hi.a1; have := hi.ab; omega
  obtain ⟨c1, c2, c3, c4⟩ := come_ex (q := runS p b l) 3000 1 n h1n (by omega) hz
  have hh := fall_has hi hin c1 c3 (fun j a c => c4 j a c)
  rw [he]
  exact ⟨⟨n, h1n, hn, hz, hbd⟩, hh.1, hh.2.1, hh.2.2, by show ((comeN _ _ _ : Nat) : Int) ≤ 3000; omega⟩
end Go.De

/- Layer 6: lines as cells; more room; what stays; what a look means (plain). -/
set_option linter.all false
namespace Go.De
open Go.Vc Go.Tk

theorem ln_len {l : List Line} : ∀ e ∈ l.map Line.cells, e.length = 4 := by intro e he; obtain ⟨x, _, rfl⟩ := List.mem_map.1 he; rfl
theorem ln_flat_len (l : List Line) : ((l.map Line.cells).flatten).length = l.length * 4 := by rw [flat_len _ ln_len, List.length_map]
theorem ln_one {l : List Line} : ∀ u ∈ (l.map Line.cells).flatten, u.oneCell' = true := by
  intro u hu
  obtain ⟨e, he, hu⟩ := List.mem_flatten.1 hu
  obtain ⟨x, _, rfl⟩ := List.mem_map.1 he
  simp only [Line.cells, List.mem_cons, List.not_mem_nil, or_false] at hu
  rcases hu with rfl | rfl | rfl | rfl <;> rfl
def setLn (l : List Line) (i : Nat) (v : Int) : List Line := l.set i ⟨(l.getD i lnZ).a, (l.getD i lnZ).b, (l.getD i lnZ).keep, v⟩
theorem lines_set : ∀ (l : List Line) (i : Nat) (v : Int), i < l.length → ((setLn l i v).map Line.cells).flatten = (l.map Line.cells).flatten.set (0 + i * 4 + 3) (.int .i64 v) := by
  intro l
  induction l with
  | nil => intro i v h; simp at h
  | cons p l ih =>
    intro i v h
    cases i with
    | zero => rfl
    | succ i =>
      have h' : i < l.length := by simpa using h
      have := ih i v h'
      have e : 0 + (i + 1) * 4 + 3 = (0 + i * 4 + 3) + 1 + 1 + 1 + 1 := by omega
      rw [e]
      show p.cells ++ ((setLn l i v).map Line.cells).flatten = _
      rw [this]; rfl
theorem setLn_len (l : List Line) (i : Nat) (v : Int) : (setLn l i v).length = l.length := by unfold setLn; rw [List.length_set]
theorem ln_at {l : List Line} {i : Nat} (h : i < l.length) : ((l.map Line.cells).flatten)[0 + i * 4 + 3]? = some (.int .i64 (l.getD i lnZ).line) := by
  have := flat_at (l.map Line.cells) i 3 _ ln_len (getD_cells (f := Line.cells) (d := lnZ) h) (by decide)
  rw [Nat.zero_add, this]; rfl
theorem Grow.setln {el n c : Nat} {b : Nat} {cur : Array Value} {l : List Line} {i : Nat} {v : Int} (h1 : n ≤ c) (h2 : c ≤ maxLen) (h3 : cur.size = c * 4) (h4 : cur.toList.take (n * 4) = (l.map Line.cells).flatten) (hn : n = l.length) (hi : i < l.length) :
    Grow el 4 (.slice (some ⟨b, 0, none⟩) n c) n ((setLn l i v).map Line.cells).flatten [(b, .cells (cur.toList.set (0 + i * 4 + 3) (.int .i64 v)).toArray el)] := by
  rw [lines_set l i v hi]
  refine .row h1 h2 (by simp [h3]) ?_ (by simp only [List.length_set]; rw [ln_flat_len, hn])
  rw [← h4]; simp only [List.take_set]

/-! ### more room -/
def moreV (l : Line) (x : Int) : Int := min 4000000000000 (l.line + max 0 (x.tmod 1000000000))
def moreP (p : Plan) (i : Nat) (x : Int) : Plan := ⟨setLn p.lines i (moreV (p.lines.getD i lnZ) x), p.grav, p.wait, p.blind⟩
def dropP (p : Plan) (i : Nat) : Plan := ⟨p.lines.take i ++ p.lines.drop (i + 1), p.grav, p.wait, p.blind⟩
theorem mem_set {α : Type} {l : List α} {i : Nat} {a x : α} (h : x ∈ l.set i a) : x = a ∨ x ∈ l := by
  rcases List.mem_or_eq_of_mem_set h with h | h
  · exact .inr h
  · exact .inl h
theorem good_of_lines {p q : Plan} (hp : GoodP p) (hn : 1 ≤ q.lines.length ∧ q.lines.length ≤ 8) (hl : ∀ l ∈ q.lines, errLn l = 0) (hg : q.grav = p.grav) (hw : q.wait = p.wait) (hb : q.blind = p.blind) : GoodP q := by
  refine ⟨oP_false.2 (by omega), fun j hj => ?_, ?_⟩
  · refine hl _ ?_
    rw [Plan.ln, List.getD_eq_getElem?_getD, List.getElem?_eq_getElem hj]; exact List.getElem_mem hj
  · have := hp.tail
    unfold tailP at *
    rw [hg, hw, hb]; exact this
theorem err_of {p : Plan} (hp : GoodP p) {l : Line} (hl : l ∈ p.lines) : errLn l = 0 := by
  obtain ⟨j, hj, e⟩ := List.getElem_of_mem hl
  have := hp.ln j hj
  rw [Plan.ln, List.getD_eq_getElem?_getD, List.getElem?_eq_getElem hj] at this
  rw [← e]; exact this
theorem more_good {p : Plan} (hp : GoodP p) {i : Nat} (hi : i < p.lines.length) (x : Int) : GoodP (moreP p i x) := by
  have hn := hp.nums.1
  refine good_of_lines hp (by show 1 ≤ (setLn _ _ _).length ∧ (setLn _ _ _).length ≤ 8; rw [setLn_len]; exact hn) (fun l hl => ?_) rfl rfl rfl
  rcases mem_set hl with h | h
  · have h0 := hp.ln i hi
    have hb := ln_zero h0
    subst h
    unfold errLn at h0 ⊢
    have e : p.ln i = p.lines.getD i lnZ := rfl
    rw [e] at h0 hb
    dsimp only
    have hv : (p.lines.getD i lnZ).line ≤ moreV (p.lines.getD i lnZ) x ∧ moreV (p.lines.getD i lnZ) x ≤ 4000000000000 := by
      have := hb.line
      unfold moreV; omega
    generalize moreV (p.lines.getD i lnZ) x = v at hv
    obtain ⟨h1, h2, h3, h4⟩ := hb
    split at h0
    · cases h0
    · split at h0
      · cases h0
      · rename_i k1 k2
        rw [if_neg, if_neg (by omega)]
        simp only [Bool.or_eq_true, oP_true]
        omega
  · exact err_of hp h
theorem drop_good {p : Plan} (hp : GoodP p) {i : Nat} (hi : i < p.lines.length) (h2 : 2 ≤ p.lines.length) : GoodP (dropP p i) := by
  have hn := hp.nums.1
  refine good_of_lines hp (by show 1 ≤ (_ ++ _ : List Line).length ∧ (_ ++ _ : List Line).length ≤ 8; rw [List.length_append, List.length_take, List.length_drop]; omega) (fun l hl => err_of hp ?_) rfl rfl rfl
  rcases List.mem_append.1 hl with h | h
  · exact List.mem_of_mem_take h
  · exact List.mem_of_mem_drop h
theorem ticks_of_look {p : Plan} {t : Task} {now : Int} (h : (lookP p t now).2 = 0) : ticksE p t [now] = 0 := by
  by_cases h0 : ticksE p t [now] = 0
  · exact h0
  · rw [lookP_1 h0] at h; exact absurd h h0
theorem more_law {p : Plan} {t : Task} {now : Int} {i : Nat} {x : Int} (h : (lookP p t now).2 = 0) (h0 : (lookP p t now).1.why = 0) (hi : i < p.lines.length) :
    (lookP (moreP p i x) t now).2 = 0 ∧ (lookP (moreP p i x) t now).1.why = 0 ∧ (lookP (moreP p i x) t now).1.x = (lookP p t now).1.x ∧ (lookP (moreP p i x) t now).1.y = (lookP p t now).1.y := by
  obtain ⟨hp, _, _⟩ := ticks_zero (ticks_of_look h)
  refine room_law (more_good hp hi x) rfl rfl rfl (fun l hl => ?_) h h0
  rcases mem_set hl with e | e
  · subst e
    refine ⟨p.lines.getD i lnZ, ?_, rfl, rfl, ?_⟩
    · rw [List.getD_eq_getElem?_getD, List.getElem?_eq_getElem hi]; exact List.getElem_mem hi
    · have := (ln_zero (hp.ln i hi)).line
      have e : p.ln i = p.lines.getD i lnZ := rfl
      rw [e] at this
      show _ ≤ moreV _ x
      unfold moreV; omega
  · exact ⟨l, e, rfl, rfl, Int.le_refl _⟩
theorem drop_law {p : Plan} {t : Task} {now : Int} {i : Nat} (h : (lookP p t now).2 = 0) (h0 : (lookP p t now).1.why = 0) (hi : i < p.lines.length) (h2 : 2 ≤ p.lines.length) :
    (lookP (dropP p i) t now).2 = 0 ∧ (lookP (dropP p i) t now).1.why = 0 ∧ (lookP (dropP p i) t now).1.x = (lookP p t now).1.x ∧ (lookP (dropP p i) t now).1.y = (lookP p t now).1.y := by
  obtain ⟨hp, _, _⟩ := ticks_zero (ticks_of_look h)
  refine room_law (drop_good hp hi h2) rfl rfl rfl (fun l hl => ⟨l, ?_, rfl, rfl, Int.le_refl _⟩) h h0
  rcases List.mem_append.1 hl with h | h
  · exact List.mem_of_mem_take h
  · exact List.mem_of_mem_drop h

/-! ### one that stays -/
theorem area_ok {p : Plan} {x y : Span} (hp : GoodP p) (hx : offS x = false) (hy : offS y = false) : areaE p x y = 0 := by
  unfold areaE
  rw [plan_of_good hp, if_neg (by decide), hx, hy]; rfl
theorem sideL_ok {p : Plan} {x y : Span} (h : areaE p x y = 0) : sideL p x y = p.lines.map fun l => l.line - mostL l x y := if_neg (by omega)
theorem side_at {p : Plan} {x y : Span} (h : areaE p x y = 0) {k : Nat} (hk : k < p.lines.length) : (sideL p x y).getD k 0 = (p.lines.getD k lnZ).line - mostL (p.lines.getD k lnZ) x y := by
  rw [sideL_ok h, List.getD_eq_getElem?_getD, List.getElem?_map, List.getD_eq_getElem?_getD, List.getElem?_eq_getElem hk]; rfl
def nearL (x y : Span) (a b : Int) (l : Line) : Bool := decide (l.line - (l.line - mostL l x y) - measI l a b ≤ l.line - l.keep)
theorem all_snoc {α : Type} {l : List α} {k : Int} {p : α → Bool} {d : α} (h0 : 0 ≤ k) (h : k < l.length) : (l.take (k + 1).toNat).all p = ((l.take k.toNat).all p && p (l.getD k.toNat d)) := by
  have e : (k + 1).toNat = k.toNat + 1 := by omega
  rw [e, List.take_add_one, List.getElem?_eq_getElem (by omega), List.all_append, List.getD_eq_getElem?_getD, List.getElem?_eq_getElem (by omega)]
  simp
theorem stay_why {p : Plan} {t : Task} {now a b : Int} {L : Look} (h : LookIs p t now L) (hk : keepsB p ⟨a, a⟩ ⟨b, b⟩ = true) (hn : p.lines.all (nearL L.x L.y a b) = true) : L.why = 0 := by
  have ho : overI p L.x L.y < 0 := by
    refine stay_law (a := a) (b := b) (fun l hl => ?_) (fun l hl => ?_)
    · unfold keepsB at hk
      split at hk
      · cases hk
      · simp only [Bool.not_eq_true', List.any_eq_false, decide_eq_true_eq] at hk
        have := hk l hl
        rw [most_one] at this; omega
    · have := List.all_eq_true.1 hn l hl
      simp only [nearL, decide_eq_true_eq] at this
      omega
  rw [h.why, if_neg (by omega)]

/-! ### what a look means -/
theorem used_none {p : Plan} {t : Task} {now : Int} (hz : ticksE p t [now] = 0) (h : usedE p t now ≠ 0) : (lookP p t now).1 = ⟨boxZ, spZ, spZ, spZ, 2, -1⟩ := by
  rw [lookP_2 hz]
  unfold usedE at h
  rw [if_neg (by omega)] at h
  cases hu : usedT p t now with
  | none => unfold lookT; rw [hu]
  | some q => rw [hu] at h; exact absurd rfl h
theorem used_some {p : Plan} {t : Task} {now : Int} (hz : ticksE p t [now] = 0) (h : usedE p t now = 0) : UsedIs p t now (usedP p t now).1 (usedP p t now).2 ∧ (lookP p t now).1 = lookF p (usedP p t now).1 (fallT p.grav (usedP p t now).1) := by
  rw [lookP_2 hz]
  have e : usedP p t now = (usedT p t now).getD (boxZ, 0) := by unfold usedP; rw [if_neg (by omega)]
  unfold usedE at h
  rw [if_neg (by omega)] at h
  cases hu : usedT p t now with
  | none => rw [hu] at h; cases h
  | some q =>
    obtain ⟨b, f⟩ := q
    rw [e, hu]
    exact ⟨usedT_is hu, lookT_of hu⟩
theorem fallP_at {p : Plan} {b : Box} (hp : GoodP p) (hb : BoxOk b) : fallP p b = fallT p.grav b := by
  unfold fallP
  rw [plan_of_good hp, if_neg (by decide), if_neg]
  unfold boxE; rw [if_pos hb]; decide
theorem look_bad {p : Plan} {b : Box} (h : (fallT p.grav b).e ≠ 0) : lookF p b (fallT p.grav b) = ⟨b, spZ, spZ, spZ, 3, -1⟩ := if_pos h
theorem look_good {p : Plan} {b : Box} (h : (fallT p.grav b).e = 0) : lookF p b (fallT p.grav b) = ⟨b, (fallT p.grav b).x, (fallT p.grav b).y, (fallT p.grav b).at_, if 0 ≤ overI p (fallT p.grav b).x (fallT p.grav b).y then 1 else 0, overI p (fallT p.grav b).x (fallT p.grav b).y⟩ := if_neg (fun k => k h)
/-- the first of k sides that is below 0 -/
def lowI (p : Plan) (x y : Span) (k : Nat) : Int := Tk.firstIdx (fun i => decide ((sideL p x y).getD i 0 < 0)) 0 k
theorem low_step {p : Plan} {x y : Span} {k : Int} (h0 : 0 ≤ k) : lowI p x y (k + 1).toNat = if (sideL p x y).getD k.toNat 0 < 0 ∧ lowI p x y k.toNat < 0 then k else lowI p x y k.toNat := by
  have e : (k + 1).toNat = k.toNat + 1 := by omega
  rw [e]
  unfold lowI
  rcases Tk.firstIdx_of (p := fun i => decide ((sideL p x y).getD i 0 < 0)) (n := k.toNat) k.toNat 0 (by omega) with ⟨h, h1⟩ | ⟨i, _, h2, h3, h4, h5⟩
  · rw [h]
    by_cases hs : (sideL p x y).getD k.toNat 0 < 0
    · rw [if_pos ⟨hs, by decide⟩, Tk.firstIdx_hit (k := k.toNat) (by omega) (decide_eq_true hs) (fun j hj => h1 j (by omega) hj)]; omega
    · rw [if_neg (fun hh => hs hh.1)]
      refine Tk.firstIdx_none fun j hj => ?_
      by_cases ej : j = k.toNat
      · subst ej; exact decide_eq_false hs
      · exact h1 j (by omega) (by omega)
  · rw [h3, if_neg (by omega), Tk.firstIdx_hit (k := i) (by omega) h4 (fun j hj => h5 j (by omega) hj)]
theorem low_all {p : Plan} {x y : Span} (h : areaE p x y = 0) : lowI p x y p.lines.length = overI p x y := by
  unfold lowI overI
  have e : ∀ i, i < p.lines.length → decide ((sideL p x y).getD i 0 < 0) = decide ((p.ln i).line < mostL (p.ln i) x y) := fun i hi => by
    rw [side_at h hi]
    have e2 : p.ln i = p.lines.getD i lnZ := rfl
    rw [e2, Bool.eq_iff_iff]; simp only [decide_eq_true_eq]; omega
  rcases Tk.firstIdx_of (p := fun i => decide ((p.ln i).line < mostL (p.ln i) x y)) (n := p.lines.length) p.lines.length 0 (by omega) with ⟨h0, h1⟩ | ⟨i, _, h2, h3, h4, h5⟩
  · rw [h0]; exact Tk.firstIdx_none fun j hj => (e j hj).trans (h1 j (by omega) hj)
  · rw [h3]; exact Tk.firstIdx_hit h2 ((e i h2).trans h4) fun j hj => (e j (by omega)).trans (h5 j (by omega) hj)
theorem low_bnd {p : Plan} {x y : Span} {k : Nat} : -1 ≤ lowI p x y k ∧ lowI p x y k < k ∨ lowI p x y k = -1 := by
  unfold lowI
  rcases Tk.firstIdx_of (p := fun i => decide ((sideL p x y).getD i 0 < 0)) (n := k) k 0 (by omega) with ⟨h, _⟩ | ⟨i, _, h2, h3, _⟩ <;> omega
end Go.De

/- Layer 6: one part of the plots that are not known is said otherwise (plain). -/
set_option linter.all false
namespace Go.De
open Go.Vc Go.Tk
def saidXL (t : Task) (now a : Int) (n : Nat) : List Plot := (List.range t.plots.length).map fun j => if j < n ∧ knownB t now j = false then ⟨(t.pl j).tracker, (t.pl j).tick, a, (t.pl j).y, (t.pl j).z⟩ else t.pl j
section
variable {t : Task} {now a : Int}
theorem saidXL_len (n : Nat) : (saidXL t now a n).length = t.plots.length := by simp [saidXL]
theorem saidXL_zero : saidXL t now a 0 = t.plots := by
  refine List.ext_getElem (by rw [saidXL_len]) fun i h1 h2 => ?_
  simp [saidXL, Task.pl, List.getD_eq_getElem?_getD, List.getElem?_eq_getElem h2]
theorem saidXL_yes {k : Int} (hk : 0 ≤ k) (h : knownB t now k.toNat = true) : saidXL t now a (k + 1).toNat = saidXL t now a k.toNat := by
  unfold saidXL
  refine List.map_congr_left fun j _ => ?_
  have e : (k + 1).toNat = k.toNat + 1 := by omega
  rw [e]
  by_cases hj : j = k.toNat
  · subst hj; rw [if_neg (fun hh => by rw [h] at hh; cases hh.2), if_neg (fun hh => by rw [h] at hh; cases hh.2)]
  · by_cases hl : j < k.toNat ∧ knownB t now j = false
    · rw [if_pos hl, if_pos ⟨by omega, hl.2⟩]
    · rw [if_neg hl, if_neg (fun hh => hl ⟨by omega, hh.2⟩)]
theorem saidXL_no {k : Int} (hk : 0 ≤ k) (hl : k < t.plots.length) (h : knownB t now k.toNat = false) :
    saidXL t now a (k + 1).toNat = (saidXL t now a k.toNat).set k.toNat ⟨(t.pl k.toNat).tracker, (t.pl k.toNat).tick, a, (t.pl k.toNat).y, (t.pl k.toNat).z⟩ ∧ (saidXL t now a k.toNat).getD k.toNat plZ = t.pl k.toNat := by
  have e : (k + 1).toNat = k.toNat + 1 := by omega
  constructor
  · refine List.ext_getElem (by rw [List.length_set, saidXL_len, saidXL_len]) fun j h1 h2 => ?_
    rw [List.getElem_set]
    simp only [saidXL, List.getElem_map, List.getElem_range, e]
    by_cases hj : k.toNat = j
    · subst hj; rw [if_pos rfl, if_pos ⟨by omega, h⟩]
    · rw [if_neg hj]
      by_cases hh : j < k.toNat ∧ knownB t now j = false
      · rw [if_pos hh, if_pos ⟨by omega, hh.2⟩]
      · rw [if_neg hh, if_neg (fun x => hh ⟨by omega, x.2⟩)]
  · rw [List.getD_eq_getElem?_getD, List.getElem?_eq_getElem (by rw [saidXL_len]; omega)]
    simp only [saidXL, List.getElem_map, List.getElem_range, Option.getD_some]
    rw [if_neg (fun hh => Nat.lt_irrefl _ hh.1)]
theorem plots_setX : ∀ (l : List Plot) (i : Nat) (a : Int), i < l.length →
    ((l.set i ⟨(l.getD i plZ).tracker, (l.getD i plZ).tick, a, (l.getD i plZ).y, (l.getD i plZ).z⟩).map Plot.cells).flatten = (l.map Plot.cells).flatten.set (0 + i * 5 + 2) (.int .i64 a) := by
  intro l
  induction l with
  | nil => intro i a h; simp at h
  | cons p l ih =>
    intro i a h
    cases i with
    | zero => rfl
    | succ i =>
      have h' : i < l.length := by simpa using h
      have := ih i a h'
      have e2 : 0 + (i + 1) * 5 + 2 = (0 + i * 5 + 2) + 1 + 1 + 1 + 1 + 1 := by omega
      rw [e2]
      show p.cells ++ ((l.set i ⟨(l.getD i plZ).tracker, (l.getD i plZ).tick, a, (l.getD i plZ).y, (l.getD i plZ).z⟩).map Plot.cells).flatten = _
      rw [this]; rfl
theorem Grow.setX {el n c : Nat} {b : Nat} {cur : Array Value} {l : List Plot} {i : Nat} {x : Int} (h1 : n ≤ c) (h2 : c ≤ maxLen) (h3 : cur.size = c * 5) (h4 : cur.toList.take (n * 5) = (l.map Plot.cells).flatten) (hn : n = l.length) (hi : i < l.length) :
    Grow el 5 (.slice (some ⟨b, 0, none⟩) n c) n ((l.set i ⟨(l.getD i plZ).tracker, (l.getD i plZ).tick, x, (l.getD i plZ).y, (l.getD i plZ).z⟩).map Plot.cells).flatten [(b, .cells (cur.toList.set (0 + i * 5 + 2) (.int .i64 x)).toArray el)] := by
  rw [plots_setX l i x hi]
  refine .row h1 h2 (by simp [h3]) ?_ (by simp only [List.length_set]; rw [pl_flat_len, hn])
  rw [← h4]; simp only [List.take_set]
def saidXT (t : Task) (now a : Int) : Task := ⟨t.frm, t.speed, t.accel, t.trackers, saidXL t now a t.plots.length⟩
theorem saidXT_say (hG : GoodT t) (ha : -2000000000 ≤ a ∧ a ≤ 2000000000) : SayT t (saidXT t now a) now := by
  refine ⟨rfl, rfl, rfl, rfl, saidXL_len _, fun j hj => ?_⟩
  have e : (saidXT t now a).pl j = if j < t.plots.length ∧ knownB t now j = false then ⟨(t.pl j).tracker, (t.pl j).tick, a, (t.pl j).y, (t.pl j).z⟩ else t.pl j := by
    rw [Task.pl, List.getD_eq_getElem?_getD, List.getElem?_eq_getElem (show j < (saidXT t now a).plots.length by show j < (saidXL _ _ _ _).length; rw [saidXL_len]; exact hj)]
    simp [saidXT, saidXL]
  rw [e]
  have b0 := part_bnd hG hj 0
  have b1 := part_bnd hG hj 1
  have b2 := part_bnd hG hj 2
  split
  · rename_i h
    exact ⟨rfl, rfl, (fun hh => by rw [h.2] at hh; cases hh), ha, b1, b2⟩
  · exact ⟨rfl, rfl, fun _ => rfl, b0, b1, b2⟩
theorem said_dec {p : Plan} {x0 : Int} (hG : GoodT t) (ha : -2000000000 ≤ a ∧ a ≤ 2000000000) : decP p (saidXT t now a) x0 now = decP p t x0 now := (said_alike (a := a) (b := a) (c := a) hG ha (saidXT_say hG ha)).dec p
theorem less_dec {p : Plan} {x0 : Int} (hG : GoodT t) : decP p (lessT t now) x0 now = decP p t x0 now := (less_alike hG).dec p
theorem asked_in (hG : GoodT t) (h : 0 ≤ now ∧ now ≤ 100000) : askedT t [now] = 0 := by
  refine asked_ok (by rw [checkT_ok hG.toHead hG.tr hG.pl]) ?_
  simp [oP_false.2 h]
end
end Go.De
