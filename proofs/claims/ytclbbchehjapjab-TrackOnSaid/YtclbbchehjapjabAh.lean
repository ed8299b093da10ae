/- Layer 5: boxes ahead. -/
import Derived.Test.YtclbbchehjapjabY
set_option linter.all false
namespace Go.Vc
section
variable {X : Cx} {ρ : PEnv} {ds : List Deferred} {H : Heap} {Q : Post}
/-- A joint, at a code behind which another one is set already. -/
theorem V_midT {x y : Code} {γ : Type} {ks : List Nat} {ρf : PEnv} (hk : Keep ρ ks ρf) (ρI : γ → PEnv) (HI : γ → Heap) (inv : γ → Prop)
    (h : V X x ρ ds H (Then (fun ρ' ds' H' => ∃ g, inv g ∧ Sub (ρI g ++ ρf) ρ' ∧ HSub (HI g) H' ∧ ds' = ds) Q)) (k : ∀ g, inv g → V X y (ρI g ++ ρf) ds (HI g) Q) :
    V X x ρ ds H (Then (fun ρ ds H => V X y ρ ds H Q) Q) := by
  refine h.mono ?_
  intro e ρ' ds' H' hq
  cases e <;> first | exact hq | skip
  obtain ⟨g, hi, hs, hh, hd⟩ := hq
  subst hd
  exact fun a w ha hg => k g hi a w (ha.sub hs) (hg.hsub hh)
end
end Go.Vc

namespace Go.Tk
open Go.Vc

def okS (m : Int) (s : Span) : Prop := -m ≤ s.lo ∧ s.lo ≤ s.hi ∧ s.hi ≤ m
instance (m : Int) (s : Span) : Decidable (okS m s) := inferInstanceAs (Decidable (_ ∧ _ ∧ _))
def BoxOk (b : Box) : Prop := (0 ≤ b.at_ ∧ b.at_ ≤ 100000) ∧ okS 2000000000 b.x ∧ okS 2000000000 b.y ∧ okS 2000000000 b.z ∧ okS 1000000 b.vx ∧ okS 1000000 b.vy ∧ okS 1000000 b.vz
instance (b : Box) : Decidable (BoxOk b) := inferInstanceAs (Decidable (_ ∧ _))
def boxE (b : Box) : Int := if BoxOk b then 0 else 7
theorem boxE_ok {b : Box} (h : boxE b = 0) : BoxOk b := by
  unfold boxE at h
  split at h
  · assumption
  · cases h
theorem boxE_0 {b : Box} (h : BoxOk b) : boxE b = 0 := if_pos h
theorem boxE_7 {b : Box} (h : ¬ BoxOk b) : boxE b = 7 := if_neg h

def stepP (p v : Span) : Span := common ⟨p.lo + v.lo, p.hi + v.hi⟩ (room0 2000000000)
def stepV (t : Task) (v : Span) : Span := common ⟨v.lo - t.accel, v.hi + t.accel⟩ (room0 t.speed)
def aheadN (t : Task) : Nat → Span → Span → Option (Span × Span)
  | 0, p, v => if p.none || v.none then none else some (p, v)
  | n + 1, p, v => if p.none || v.none then none else aheadN t n (stepP p v) (stepV t v)
def aheadS (t : Task) (n : Int) (p v : Span) : Option (Span × Span) := aheadN t n.toNat p (common v (room0 t.speed))
def aheadB (t : Task) (b : Box) (n : Int) : Option Box :=
  (aheadS t n b.x b.vx).bind fun a => (aheadS t n b.y b.vy).bind fun c => (aheadS t n b.z b.vz).bind fun d => some ⟨b.at_ + n, a.1, c.1, d.1, a.2, c.2, d.2⟩
def aheadE (t : Task) (b : Box) (n : Int) : Int :=
  if askedT t [] ≠ 0 then askedT t [] else if ¬ BoxOk b then 7 else if oP n 0 600 = true ∨ oP (b.at_ + n) 0 100000 = true then 7 else 0
def aheadP (t : Task) (b : Box) (n : Int) : Box × Int := if aheadE t b n ≠ 0 then (boxZ, aheadE t b n) else foundP (aheadB t b n)

section
variable {t : Task} {p v : Span} {n : Nat}
theorem aheadN_none (h : p.none = true ∨ v.none = true) : aheadN t n p v = none := by
  have : (p.none || v.none) = true := by rcases h with h | h <;> simp [h]
  cases n <;> (rw [aheadN, if_pos this])
theorem aheadN_zero (h1 : p.none = false) (h2 : v.none = false) : aheadN t 0 p v = some (p, v) := by rw [aheadN, h1, h2]; rfl
theorem aheadN_succ (h1 : p.none = false) (h2 : v.none = false) : aheadN t (n + 1) p v = aheadN t n (stepP p v) (stepV t v) := by rw [aheadN, h1, h2]; rfl
/-- a round's step, as the counters have it -/
theorem aheadN_go {m i : Int} (h : 0 ≤ i ∧ i < m) (h1 : p.none = false) (h2 : v.none = false) : aheadN t (m - i).toNat p v = aheadN t (m - (i + 1)).toNat (stepP p v) (stepV t v) := by
  have e : (m - i).toNat = (m - (i + 1)).toNat + 1 := by omega
  rw [e, aheadN_succ h1 h2]
theorem aheadN_end {m i : Int} (h : i = m) (h1 : p.none = false) (h2 : v.none = false) : aheadN t (m - i).toNat p v = some (p, v) := by
  have e : (m - i).toNat = 0 := by omega
  rw [e, aheadN_zero h1 h2]
end

section
variable {t : Task} {b : Box} {n : Int}
theorem aheadE_1 (h : askedT t [] ≠ 0) : aheadE t b n = askedT t [] := if_pos h
theorem aheadE_2 (h : askedT t [] = 0) (h1 : ¬ BoxOk b) : aheadE t b n = 7 := by rw [aheadE, if_neg (fun a => a h), if_pos h1]
theorem aheadE_3 (h : askedT t [] = 0) (h1 : BoxOk b) (h2 : oP n 0 600 = true ∨ oP (b.at_ + n) 0 100000 = true) : aheadE t b n = 7 := by rw [aheadE, if_neg (fun a => a h), if_neg (fun a => a h1), if_pos h2]
theorem aheadE_4 (h : askedT t [] = 0) (h1 : BoxOk b) (h2 : oP n 0 600 = false) (h3 : oP (b.at_ + n) 0 100000 = false) : aheadE t b n = 0 := by rw [aheadE, if_neg (fun a => a h), if_neg (fun a => a h1), if_neg (by rw [h2, h3]; simp)]
theorem aheadP_bad {e : Int} (h : aheadE t b n = e) (he : e ≠ 0) : aheadP t b n = (boxZ, e) := by rw [aheadP, h, if_pos he]
theorem aheadP_ok (h : aheadE t b n = 0) : aheadP t b n = foundP (aheadB t b n) := by rw [aheadP, if_neg (fun a => a h)]
theorem aheadB_0 (h : aheadS t n b.x b.vx = none) : aheadB t b n = none := by rw [aheadB, h]; rfl
theorem aheadB_1 {a : Span × Span} (h : aheadS t n b.x b.vx = some a) (h1 : aheadS t n b.y b.vy = none) : aheadB t b n = none := by rw [aheadB, h, Option.bind_some, h1]; rfl
theorem aheadB_2 {a c : Span × Span} (h : aheadS t n b.x b.vx = some a) (h1 : aheadS t n b.y b.vy = some c) (h2 : aheadS t n b.z b.vz = none) : aheadB t b n = none := by rw [aheadB, h, Option.bind_some, h1, Option.bind_some, h2]; rfl
theorem aheadB_3 {a c d : Span × Span} (h : aheadS t n b.x b.vx = some a) (h1 : aheadS t n b.y b.vy = some c) (h2 : aheadS t n b.z b.vz = some d) : aheadB t b n = some ⟨b.at_ + n, a.1, c.1, d.1, a.2, c.2, d.2⟩ := by
  rw [aheadB, h, Option.bind_some, h1, Option.bind_some, h2]; rfl
theorem foundP_none {o : Option Box} (h : o = none) : foundP o = (boxZ, 9) := by rw [h]; rfl
theorem foundP_some {o : Option Box} {b : Box} (h : o = some b) : foundP o = (b, 0) := by rw [h]; rfl

/-- what the reference's ahead returns -/
def AheadV (t : Task) (n : Int) (p v : Span) (u : Value) : Prop := ∃ (p' v' : Span) (ok : Bool), u = .tuple #[.agg #[.int .i64 p'.lo, .int .i64 p'.hi], .agg #[.int .i64 v'.lo, .int .i64 v'.hi], .bool ok] ∧
  ((ok = true ∧ aheadS t n p v = some (p', v')) ∨ (ok = false ∧ aheadS t n p v = none))
theorem av_none {n : Int} {p v p' v' : Span} {ok : Bool} (h : (ok = true ∧ aheadS t n p v = some (p', v')) ∨ (ok = false ∧ aheadS t n p v = none)) (h1 : ok = false) : aheadS t n p v = none := by
  rcases h with ⟨h, _⟩ | ⟨_, h⟩
  · rw [h1] at h; cases h
  · exact h
theorem av_some {n : Int} {p v p' v' : Span} {ok : Bool} (h : (ok = true ∧ aheadS t n p v = some (p', v')) ∨ (ok = false ∧ aheadS t n p v = none)) (h1 : ok = true) : aheadS t n p v = some (p', v') := by
  rcases h with ⟨_, h⟩ | ⟨h, _⟩
  · exact h
  · rw [h1] at h; cases h
theorem room0_around (m : Int) : aroundS 0 m = room0 m := by simp only [aroundS, room0, Span.mk.injEq]; omega
end

/-- all ints of a box are machine ints -/
def BoxI (b : Box) : Prop := InI b.at_ ∧ (InI b.x.lo ∧ InI b.x.hi) ∧ (InI b.y.lo ∧ InI b.y.hi) ∧ (InI b.z.lo ∧ InI b.z.hi) ∧ (InI b.vx.lo ∧ InI b.vx.hi) ∧ (InI b.vy.lo ∧ InI b.vy.hi) ∧ (InI b.vz.lo ∧ InI b.vz.hi)

/-- what the inner rounds come to -/
def Met (o : Option (Span × Span)) (p v : Span) : Prop := (p.none = false ∧ v.none = false ∧ o = some (p, v)) ∨ ((p.none = true ∨ v.none = true) ∧ o = none)
theorem met_v {t : Task} {o : Option (Span × Span)} {m : Nat} {p v : Span} (h : o = aheadN t m p v) (hv : v.none = true) : Met o p v := .inr ⟨.inr hv, h.trans (aheadN_none (.inr hv))⟩
theorem met_p {t : Task} {o : Option (Span × Span)} {m : Nat} {p v v' : Span} (h : o = aheadN t m p v) (hp : p.none = true) : Met o p v' := .inr ⟨.inl hp, h.trans (aheadN_none (.inl hp))⟩
theorem met_end {t : Task} {o : Option (Span × Span)} {n k : Int} {p v : Span} (h : o = aheadN t (n - k).toNat p v) (he : k = n) (hp : p.none = false) : Met o p v := by
  cases hv : v.none with
  | true => exact met_v h hv
  | false => exact .inl ⟨hp, hv, h.trans (aheadN_end he hp hv)⟩
theorem Met.no {o : Option (Span × Span)} {p v : Span} (h : Met o p v) (h1 : p.none = true ∨ v.none = true) : o = none := by
  rcases h with ⟨a, b, _⟩ | ⟨_, h⟩
  · rcases h1 with h1 | h1
    · rw [a] at h1; cases h1
    · rw [b] at h1; cases h1
  · exact h
theorem Met.yes {o : Option (Span × Span)} {p v : Span} (h : Met o p v) (h1 : p.none = false) (h2 : v.none = false) : o = some (p, v) := by
  rcases h with ⟨_, _, h⟩ | ⟨h, _⟩
  · exact h
  · rcases h with h | h
    · rw [h1] at h; cases h
    · rw [h2] at h; cases h

def sizeW (n : Int) : Int := max n (IntKind.i64.wrap (0 - n))
theorem sizeW_fact {n : Int} (h : InI n) : n ≤ sizeW n ∧ (-1000000 ≤ n ∧ n ≤ 1000000 → sizeW n ≤ 1000000) := by
  refine ⟨by unfold sizeW; omega, fun hh => ?_⟩
  rw [sizeW, wrap_in (by unfold InI; omega)]; omega
theorem ahead_end {t : Task} {o : Option (Span × Span)} {n k : Int} {p v : Span} {b : Bool} (hr : b = true ↔ p.none = false ∧ v.none = false) (h : o = aheadN t (n - k).toNat p v) (he : b = false ∨ k = n) :
    (b = true ∧ o = some (p, v)) ∨ (b = false ∧ o = none) := by
  cases hb : b with
  | true =>
    obtain ⟨h1, h2⟩ := hr.1 hb
    rcases he with he | he
    · rw [hb] at he; cases he
    · exact .inl ⟨rfl, h.trans (aheadN_end he h1 h2)⟩
  | false =>
    refine .inr ⟨rfl, h.trans (aheadN_none ?_)⟩
    cases h1 : p.none with
    | true => exact .inl rfl
    | false =>
      cases h2 : v.none with
      | true => exact .inr rfl
      | false => rw [hr.2 ⟨h1, h2⟩] at hb; cases hb

end Go.Tk
