/- Joined texts. -/
import Derived.Test.YtbncegfgjbdheaaZae
import Derived.Test.YtbncegfgjbdheaaZah
import Derived.Test.YtbncegfgjbdheaaZad
import Derived.KernelRfl
/- Layer 6: falls, as the program finds them (plain). -/
set_option linter.all false
namespace Go.De
open Go.Vc Go.Tk

def accN (f : Nat → Box) : Nat → Option (Span × Span × Nat)
  | 0 => none
  | n + 1 => accF f (n + 1) (accN f n)
section
variable {g : Span} {b : Box} {n : Nat}
end
/-- what the program keeps of the area -/
def AccV (at_ : Int) (acc : Option (Span × Span × Nat)) (ax ay : Span) (lo : Int) (dn : Bool) : Prop :=
  (dn = true ∧ ∃ a, acc = some (ax, ay, a) ∧ lo = at_ + a) ∨ (dn = false ∧ acc = none ∧ ax = spZ ∧ ay = spZ ∧ lo = 0)
section
variable {at_ : Int} {f : Nat → Box} {n : Nat} {ax ay : Span} {lo : Int} {dn : Bool}
theorem AccV.zero : AccV at_ (accN f 0) spZ spZ 0 false := .inr ⟨rfl, rfl, rfl, rfl, rfl⟩
theorem AccV.more (h : AccV at_ (accN f n) ax ay lo dn) (hd : dn = true) : AccV at_ (accN f (n + 1)) (hullS ax (f (n + 1)).x) (hullS ay (f (n + 1)).y) lo dn := by
  rcases h with ⟨h1, a, h2, h3⟩ | ⟨h1, _⟩
  · refine .inl ⟨h1, a, ?_, h3⟩
    rw [accN, h2]; rfl
  rw [hd] at h1; cases h1
theorem AccV.first (h : AccV at_ (accN f n) ax ay lo dn) (hd : dn = false) (hz : (f (n + 1)).z.lo ≤ 0) : AccV at_ (accN f (n + 1)) (f (n + 1)).x (f (n + 1)).y (at_ + ((n : Int) + 1)) true := by
  rcases h with ⟨h1, _⟩ | ⟨_, h2, _⟩
  · rw [hd] at h1; cases h1
  refine .inl ⟨rfl, n + 1, ?_, by push_cast; rfl⟩
  rw [accN, h2, accF, if_pos hz]
theorem AccV.none (h : AccV at_ (accN f n) ax ay lo dn) (hd : dn = false) (hz : 0 < (f (n + 1)).z.lo) : AccV at_ (accN f (n + 1)) ax ay lo false := by
  rcases h with ⟨h1, _⟩ | ⟨_, h2, h3⟩
  · rw [hd] at h1; cases h1
  refine .inr ⟨rfl, ?_, h3⟩
  rw [accN, h2, accF, if_neg (by omega)]
theorem AccV.done (h : AccV at_ (accN f (n + 1)) ax ay lo dn) : doneF at_ (n + 1) (accN f (n + 1)) = ⟨ax, ay, ⟨lo, at_ + ((n : Int) + 1)⟩, 0⟩ := by
  rcases h with ⟨_, a, h2, h3⟩ | ⟨_, h2, h3, h4, h5⟩
  · rw [h2, doneF, h3]; congr 2
  rw [h2, doneF, h3, h4, h5]; congr 2
end
end Go.De

/- Layer 6: boxes used, and lines measured, as the program finds them (plain). -/
set_option linter.all false
namespace Go.De
open Go.Vc Go.Tk

section
variable {p : Plan} {t : Task} {now : Int}
end

end Go.De

/- Layer 6: decisions; spare boxes are sound; plots that are not known (plain). -/
set_option linter.all false
namespace Go.De
open Go.Vc Go.Tk

/-! ### decisions -/
section
variable {p : Plan} {t : Task} {b now : Int}
end

/-! ### spare boxes are sound -/
theorem BoxOk.int {b : Box} (h : BoxOk b) : BoxI b := by
  unfold BoxOk okS at h
  unfold BoxI InI; omega

/-! ### plots that are not known -/
/-- two tasks that are seen alike up to a tick -/
structure Alike (t t' : Task) (now : Int) : Prop where
  good : GoodT t
  good' : GoodT t'
  frm : t'.frm = t.frm
  speed : t'.speed = t.speed
  accel : t'.accel = t.accel
  same : ∀ u n, n ≤ now → SameW t t' u n
section
variable {t t' : Task} {now : Int}
theorem Alike.ahead (h : Alike t t' now) (b : Box) (n : Int) : aheadP t' b n = aheadP t b n := by
  have e1 : ∀ p v, stepV t' v = stepV t v ∧ stepP p v = stepP p v := fun p v => ⟨by unfold stepV; rw [h.accel, h.speed], rfl⟩
  have e2 : ∀ k p v, aheadN t' k p v = aheadN t k p v := by
    intro k
    induction k with
    | zero => intro p v; rfl
    | succ k ih => intro p v; unfold aheadN; rw [ih, (e1 p v).1]
  have e3 : ∀ p v, aheadS t' n p v = aheadS t n p v := fun p v => by unfold aheadS; rw [e2, h.speed]
  unfold aheadP aheadE
  rw [asked_both h.good h.good']
  have e4 : aheadB t' b n = aheadB t b n := by unfold aheadB; simp only [e3]
  rw [e4]
theorem Alike.used (h : Alike t t' now) (p : Plan) {n : Int} (hn : n ≤ now) : ∀ (k : Nat) (f : Int), usedN p t' n k f = usedN p t n k f := by
  intro k
  induction k with
  | zero => intro f; rfl
  | succ k ih => intro f; unfold usedN; rw [ih, (h.same f n hn).spare, h.ahead]
theorem Alike.look (h : Alike t t' now) (p : Plan) {n : Int} (hn : n ≤ now) : lookT p t' n = lookT p t n := by
  unfold lookT usedT; rw [h.used p hn]
theorem Alike.ticks (h : Alike t t' now) (p : Plan) (l : List Int) : ticksE p t' l = ticksE p t l := by
  have e : (checkT t').2.2 = (checkT t).2.2 := by
    rw [checkT_ok h.good.toHead h.good.tr h.good.pl, checkT_ok h.good'.toHead h.good'.tr h.good'.pl]
  unfold ticksE taskE; rw [e]
end

/-! ### the reference's falls -/
/-! ### one that stays -/
end Go.De

/- Layer 6: the examples (plain). -/
set_option linter.all false
namespace Go.De
open Go.Vc Go.Tk

end Go.De

/- Layer 6: numbers by shares; what falls from a place (plain). -/
set_option linter.all false
namespace Go.De
open Go.Vc Go.Tk

/-- a number in a span, by a share -/
def pickI (s : Span) (l : List Int) (i : Int) : Int := if l.length = 0 then s.lo else shareI s (l.getD (i.tmod (l.length : Int)).toNat 0)
theorem share_getD {l : List Int} (h : ∀ n ∈ l, 0 ≤ n ∧ n ≤ 255) (i : Nat) : 0 ≤ l.getD i 0 ∧ l.getD i 0 ≤ 255 := by
  rw [List.getD_eq_getElem?_getD]
  cases hi : l[i]? with
  | none => decide
  | some n => exact h n (List.mem_of_getElem? hi)
theorem pick_in {s : Span} {l : List Int} {i : Int} (hs : s.lo ≤ s.hi) (hl : ∀ n ∈ l, 0 ≤ n ∧ n ≤ 255) : s.lo ≤ pickI s l i ∧ pickI s l i ≤ s.hi := by
  unfold pickI
  split
  · omega
  exact share_in hs (share_getD hl _)
theorem share_nums {s : Span} {n : Int} (hs : -4000000000 ≤ s.lo ∧ s.lo ≤ s.hi ∧ s.hi ≤ 4000000000) (hn : 0 ≤ n ∧ n ≤ 255) :
    (0 ≤ (s.hi - s.lo) * n ∧ (s.hi - s.lo) * n ≤ 8000000000 * 255) ∧ 0 ≤ ((s.hi - s.lo) * n).tdiv 255 ∧ ((s.hi - s.lo) * n).tdiv 255 ≤ 8000000000 := by
  have h1 := mul_bnd (show 0 ≤ s.hi - s.lo ∧ s.hi - s.lo ≤ 8000000000 by omega) hn
  have h2 := share_in (s := s) (by omega) hn
  unfold shareI at h2
  omega

def startP (b : Box) (l : List Int) : P3 := ⟨pickI b.x l 0, pickI b.y l 1, pickI b.z l 2, pickI b.vx l 3, pickI b.vy l 4, pickI b.vz l 5⟩
theorem start_in {b : Box} {l : List Int} (hb : BoxOk b) (hl : ∀ n ∈ l, 0 ≤ n ∧ n ≤ 255) : InP (startP b l) b := by
  obtain ⟨h0, h1, h2, h3, h4, h5, h6⟩ := hb
  unfold okS at *
  exact ⟨pick_in h1.2.1 hl, pick_in h2.2.1 hl, pick_in h3.2.1 hl, pick_in h4.2.1 hl, pick_in h5.2.1 hl, pick_in h6.2.1 hl⟩
end Go.De
