/- Layer 5: what the statements on paths ask. -/
import Derived.Test.YtclbbchehjapjabPb
import Derived.Test.YtclbbchehjapjabAh
set_option linter.all false
namespace Go.Tk
open Go.Vc
section
variable {t : Task} {p : PathM} {but : Int}
theorem vel_tell (k n : Nat) : velT (tellT t p but) p k n = velT t p k n := by
  induction n with
  | zero => rfl
  | succ n ih => simp only [velT, ih]; rfl
theorem pos_tell (k n : Nat) : posT (tellT t p but) p k n = posT t p k n := by
  induction n with
  | zero => rfl
  | succ n ih => simp only [posT, ih, vel_tell]
theorem atP_tell (k : Nat) (u : Int) : atP (tellT t p but) p k u = atP t p k u := by simp only [atP, pos_tell]; rfl
theorem atV_tell (k : Nat) (u : Int) : atV (tellT t p but) p k u = atV t p k u := by simp only [atV, vel_tell]; rfl
theorem SmallP.tell {n : Nat} (h : SmallP t p n) : SmallP (tellT t p but) p n := fun m hm k hk => by rw [pos_tell]; exact h m hm k hk
theorem tell_box (hG : GoodT t) (hG' : GoodT (tellT t p but)) (hp : p.ok) (hsm : SmallP t p 601) (hsp : SpotsT t but) {u : Int} (hu : spotOk t u = true) (now : Int) {want : Int → Bool} (hw : ∀ x, 0 ≤ x → want x = true → x ≠ but) :
    ∃ b, boxT (tellT t p but) (byT (tellT t p but) now want) u = some b ∧ HasB b (fun k => spotP t p k u) (fun k => spotV t p k u) := by
  obtain ⟨b, e, h⟩ := box_in hG' hp hsm.tell (tell_tells hG hp hsp hw (now := now)) (u := u) (spotOk_le hu)
  refine ⟨b, e, ?_⟩
  obtain ⟨h1, h2, h3, h4, h5, h6⟩ := h
  simp only [atP_tell, atV_tell] at h1 h2 h3 h4 h5 h6
  exact ⟨by rw [(spotP_ok hu).1]; exact h1, by rw [(spotP_ok hu).1]; exact h2, by rw [(spotP_ok hu).1]; exact h3, by rw [(spotP_ok hu).2]; exact h4, by rw [(spotP_ok hu).2]; exact h5, by rw [(spotP_ok hu).2]; exact h6⟩
theorem ticks_ok {a b : Int} (h : ticksB a b = true) : 0 ≤ a ∧ a ≤ 100000 ∧ 0 ≤ b ∧ b ≤ 100000 := of_decide_eq_true h
theorem asked_ticks (hG : GoodT t) {a b : Int} (h : ticksB a b = true) : askedT t [a, b] = 0 := by
  have := ticks_ok h
  refine asked_good hG ?_
  simp only [List.any_cons, List.any_nil, Bool.or_false, Bool.or_eq_false_iff]
  exact ⟨oP_false.2 (by omega), oP_false.2 (by omega)⟩
theorem true_law (hG : GoodT t) (hG' : GoodT (tellT t p (-1))) (hp : p.ok) (hsm : SmallP t p 601) (hsp : SpotsT t (-1)) {x0 x1 : Int} (hx : ticksB x0 x1 = true) (hu : spotOk t x0 = true) :
    ∃ b, whereP (tellT t p (-1)) x0 x1 = (b, 0) ∧ b.at_ = x0 ∧ HasB b (fun k => spotP t p k x0) (fun k => spotV t p k x0) ∧ failsB (tellT t p (-1)) x0 x1 = true ∧ askedT (tellT t p (-1)) [x0, x1] = 0 := by
  obtain ⟨b, e, h⟩ := tell_box hG hG' hp hsm hsp hu x1 (want := fun _ => true) (fun x hx _ => by omega)
  have h0 := asked_ticks hG' hx
  exact ⟨b, whereP_some h0 e, boxT_at e, h, by rw [(failsL_2 h0).2, e]; rfl, h0⟩
theorem one_law {x2 : Int} (hG : GoodT t) (hG' : GoodT (tellT t p x2)) (hp : p.ok) (hsm : SmallP t p 601) (hsp : SpotsT t x2) {x0 x1 : Int} (hx : ticksB x0 x1 = true) (hu : spotOk t x0 = true) (h2 : 0 ≤ x2 ∧ x2 < t.trackers.length) :
    ∃ s, spareP (tellT t p x2) x0 x1 = (s, 0) ∧ HasB s (fun k => spotP t p k x0) (fun k => spotV t p k x0) ∧ x2 ∈ failsL (tellT t p x2) x0 x1 ∧ askedT (tellT t p x2) [x0, x1] = 0 := by
  obtain ⟨j, rfl⟩ := Int.eq_ofNat_of_zero_le h2.1
  obtain ⟨b, e, h⟩ := tell_box hG hG' hp hsm hsp hu x1 (want := fun x => decide (x ≠ (j : Int))) (fun x _ hw => by simpa using hw)
  have h0 := asked_ticks hG' hx
  have hm : ((j : Int), b) ∈ othersV (tellT t p j) x0 x1 (tellT t p j).trackers.length := by
    rw [othersV, List.mem_filterMap]
    exact ⟨j, List.mem_range.2 (by show j < t.trackers.length; omega), by rw [e]; rfl⟩
  obtain ⟨s, es, is⟩ := foldl_mem _ none (fun q hq => others_at q hq) (fun _ h => by cases h) b (.inr ⟨_, hm, rfl⟩)
  refine ⟨s, spareP_some h0 ?_, h.mono is, ?_, h0⟩
  · rw [spareT, if_neg (show ¬ (tellT t p (j : Int)).trackers.length = 0 from (show ¬ t.trackers.length = 0 by omega))]; exact es
  · rw [(failsL_2 h0).1]
    exact List.mem_map.2 ⟨_, hm, rfl⟩
theorem pos_at {m n k : Nat} (hn : n < m) (hk : k < 3) : ((rowsP t p m).flatten)[0 + n * 3 + k * 1]? = some (.int .i64 (posT t p k n)) := by
  have h1 : (rowsP t p m)[n]? = some (rowP t p n) := rowsP_at hn
  have f := flat_at _ n k _ rowsP_3 h1 hk
  rw [Nat.zero_add, Nat.mul_one, f]
  match k, hk with
  | 0, _ => rfl
  | 1, _ => rfl
  | 2, _ => rfl
theorem reachP_bad {n : Int} (h : askedT t [n] ≠ 0) : reachP t n = (0, askedT t [n]) := if_pos h
theorem reachP_ok {n : Int} (h : askedT t [n] = 0) : reachP t n = (reachT t n, 0) := if_neg (fun a => a h)
theorem pos_reachI (hG : GoodT t) (hp : p.ok) {n : Int} (hn : 0 ≤ n) (k : Nat) : -(reachT t n) ≤ posT t p k n.toNat ∧ posT t p k n.toNat ≤ reachT t n := by
  obtain ⟨_, hs, ha⟩ := hG.nums
  have := pos_reach hp (show 0 ≤ t.speed by omega) (show 1 ≤ t.accel by omega) k n.toNat
  rwa [Int.toNat_of_nonneg hn] at this
theorem reach_next (hG : GoodT t) {n : Int} (hn : 0 ≤ n) : reachT t (n + 1) - reachT t n = min (t.accel * (n + 1)) t.speed := by
  obtain ⟨_, hs, ha⟩ := hG.nums
  rw [reach_succ (by omega) (by omega) hn]; omega
theorem reach_0 (hG : GoodT t) : reachT t 0 = 0 := by
  obtain ⟨_, hs, ha⟩ := hG.nums
  exact reach_zero (by omega) (by omega)

/-! ### boxes ahead -/
theorem aheadN_in (hG : GoodT t) (hp : p.ok) (hsm : SmallP t p 601) {k : Nat} (hk : k < 3) : ∀ (n : Nat) (u : Int) (a v : Span), u + n - t.frm ≤ 601 → InI3 a (atP t p k u) → InI3 v (atV t p k u) →
    ∃ r, aheadN t n a v = some r ∧ InI3 r.1 (atP t p k (u + n)) ∧ InI3 r.2 (atV t p k (u + n)) := by
  obtain ⟨_, hs, ha⟩ := hG.nums
  intro n
  induction n with
  | zero =>
    intro u a v _ h1 h2
    refine ⟨(a, v), aheadN_zero h1.none h2.none, ?_, ?_⟩
    · simpa using h1
    · simpa using h2
  | succ n ih =>
    intro u a v hu h1 h2
    rw [aheadN_succ h1.none h2.none]
    have e1 := atP_succ (t := t) (p := p) k u
    have e2 := atV_step hp (show 0 ≤ t.speed by omega) (show 0 ≤ t.accel by omega) k u
    have e3 := atV_abs (p := p) (show 0 ≤ t.speed by omega) k (u + 1)
    have e4 : -2000000000 ≤ atP t p k (u + 1) ∧ atP t p k (u + 1) ≤ 2000000000 := by
      unfold atP; split
      · omega
      · exact hsm _ (by omega) k hk
    obtain ⟨r, er, i1, i2⟩ := ih (u + 1) (stepP a v) (stepV t v) (by omega) (by unfold InI3 at *; simp only [stepP, common, room0]; omega) (by unfold InI3 at *; simp only [stepV, common, room0]; omega)
    rw [show u + 1 + (n : Int) = u + ((n + 1 : Nat) : Int) by omega] at i1 i2
    exact ⟨r, er, i1, i2⟩
theorem aheadN_add : ∀ (n m : Nat) (a v : Span), aheadN t (n + m) a v = (aheadN t n a v).bind fun r => aheadN t m r.1 r.2 := by
  intro n
  induction n with
  | zero =>
    intro m a v
    rw [Nat.zero_add]
    by_cases h : a.none = true ∨ v.none = true
    · rw [aheadN_none h, aheadN_none h]; rfl
    · have h1 : a.none = false := by cases hh : a.none with | false => rfl | true => exact absurd (.inl hh) h
      have h2 : v.none = false := by cases hh : v.none with | false => rfl | true => exact absurd (.inr hh) h
      rw [aheadN_zero h1 h2]; rfl
  | succ n ih =>
    intro m a v
    by_cases h : a.none = true ∨ v.none = true
    · rw [aheadN_none h, aheadN_none h]; rfl
    · have h1 : a.none = false := by cases hh : a.none with | false => rfl | true => exact absurd (.inl hh) h
      have h2 : v.none = false := by cases hh : v.none with | false => rfl | true => exact absurd (.inr hh) h
      rw [show n + 1 + m = n + m + 1 by omega, aheadN_succ h1 h2, aheadN_succ h1 h2, ih]
theorem aheadN_room : ∀ (n : Nat) (a v : Span) (r : Span × Span), aheadN t n a v = some r → InS a (room0 2000000000) → InS v (room0 t.speed) → (InS r.1 (room0 2000000000) ∧ r.1.none = false) ∧ InS r.2 (room0 t.speed) ∧ r.2.none = false := by
  intro n
  induction n with
  | zero =>
    intro a v r h h1 h2
    simp only [aheadN] at h
    split at h
    · cases h
    · rename_i hn
      cases h
      simp only [Bool.or_eq_true, not_or, Bool.not_eq_true] at hn
      exact ⟨⟨h1, hn.1⟩, h2, hn.2⟩
  | succ n ih =>
    intro a v r h h1 h2
    simp only [aheadN] at h
    split at h
    · cases h
    · refine ih _ _ _ h ?_ ?_
      · simp only [InS, stepP, common, room0]; omega
      · simp only [InS, stepV, common, room0]; omega
theorem common_room {s : Int} {v : Span} (h : InS v (room0 s)) : common v (room0 s) = v := by
  simp only [InS, room0] at h
  cases v
  simp only [common, room0, Span.mk.injEq]
  simp only at h
  omega
theorem aheadB_parts {b c : Box} {n : Int} (h : aheadB t b n = some c) : aheadS t n b.x b.vx = some (c.x, c.vx) ∧ aheadS t n b.y b.vy = some (c.y, c.vy) ∧ aheadS t n b.z b.vz = some (c.z, c.vz) ∧ c.at_ = b.at_ + n := by
  unfold aheadB at h
  cases h0 : aheadS t n b.x b.vx with
  | none => rw [h0] at h; cases h
  | some a0 =>
    rw [h0, Option.bind_some] at h
    cases h1 : aheadS t n b.y b.vy with
    | none => rw [h1] at h; cases h
    | some a1 =>
      rw [h1, Option.bind_some] at h
      cases h2 : aheadS t n b.z b.vz with
      | none => rw [h2] at h; cases h
      | some a2 => rw [h2, Option.bind_some] at h; cases h; exact ⟨rfl, rfl, rfl, rfl⟩
theorem aheadS_room {n : Int} {a v : Span} {r : Span × Span} (h : aheadS t n a v = some r) (ha : okS 2000000000 a) : (InS r.1 (room0 2000000000) ∧ r.1.none = false) ∧ InS r.2 (room0 t.speed) ∧ r.2.none = false := by
  refine aheadN_room _ _ _ _ h ?_ ?_
  · unfold okS at ha; simp only [InS, room0]; omega
  · simp only [InS, common, room0]; omega
theorem aheadS_add {n m : Int} (hn : 0 ≤ n) (hm : 0 ≤ m) {a v : Span} {r : Span × Span} (h : aheadS t n a v = some r) (ha : okS 2000000000 a) : aheadS t (n + m) a v = aheadS t m r.1 r.2 := by
  obtain ⟨_, h2, _⟩ := aheadS_room h ha
  unfold aheadS at h ⊢
  rw [show (n + m).toNat = n.toNat + m.toNat by omega, aheadN_add, h, common_room h2]; rfl
theorem aheadB_add {b c : Box} {n m : Int} (hn : 0 ≤ n) (hm : 0 ≤ m) (hb : BoxOk b) (h : aheadB t b n = some c) : aheadB t b (n + m) = aheadB t c m := by
  obtain ⟨h0, h1, h2, h3⟩ := aheadB_parts h
  obtain ⟨_, b0, b1, b2, _⟩ := hb
  unfold aheadB
  rw [aheadS_add hn hm h0 b0, aheadS_add hn hm h1 b1, aheadS_add hn hm h2 b2, h3, Int.add_assoc]
theorem aheadB_ok (hG : GoodT t) {b c : Box} {n : Int} (hb : BoxOk b) (hat : 0 ≤ b.at_ + n ∧ b.at_ + n ≤ 100000) (h : aheadB t b n = some c) : BoxOk c := by
  obtain ⟨_, hs, _⟩ := hG.nums
  obtain ⟨h0, h1, h2, h3⟩ := aheadB_parts h
  obtain ⟨_, b0, b1, b2, _⟩ := hb
  obtain ⟨⟨a1, a2⟩, a3, a4⟩ := aheadS_room h0 b0
  obtain ⟨⟨c1, c2⟩, c3, c4⟩ := aheadS_room h1 b1
  obtain ⟨⟨d1, d2⟩, d3, d4⟩ := aheadS_room h2 b2
  refine ⟨by rw [h3]; exact hat, ?_, ?_, ?_, ?_, ?_, ?_⟩ <;> (simp only [okS, InS, room0, Span.none, decide_eq_false_iff_not] at *; omega)
/-- what TrackOn asks -/
theorem on_E (hG : GoodT t) {b : Box} {n : Int} (hb : BoxOk b) (hn : 0 ≤ n ∧ n ≤ 600) (hat : 0 ≤ b.at_ + n ∧ b.at_ + n ≤ 100000) : aheadP t b n = foundP (aheadB t b n) :=
  aheadP_ok (aheadE_4 (asked_good hG rfl) hb (oP_false.2 hn) (oP_false.2 hat))
theorem on_law (hG : GoodT t) (hG' : GoodT (tellT t p but)) (hp : p.ok) (hsm : SmallP t p 601) {b : Box} (hb : BoxOk b) {n m : Int} (hn : 0 ≤ n ∧ n ≤ 255) (hm : 0 ≤ m ∧ m ≤ 255) (hlim : b.at_ + n + m ≤ 100000)
    (hs0 : spotOk t b.at_ = true) (hh : HasB b (fun k => spotP t p k b.at_) (fun k => spotV t p k b.at_)) :
    (spotOk t (b.at_ + n) = true → (aheadP (tellT t p but) b n).2 = 0 ∧ (aheadP (tellT t p but) b n).1.at_ = b.at_ + n ∧ HasB (aheadP (tellT t p but) b n).1 (fun k => spotP t p k (b.at_ + n)) (fun k => spotV t p k (b.at_ + n))) ∧
    ((aheadP (tellT t p but) b n).2 = 0 → aheadP (tellT t p but) (aheadP (tellT t p but) b n).1 m = aheadP (tellT t p but) b (n + m)) := by
  obtain ⟨_, hs, ha⟩ := hG.nums
  have hat := hb.1
  have e1 := on_E hG' hb (n := n) (by omega) (by omega)
  constructor
  · intro hs1
    have hle := spotOk_le hs1
    obtain ⟨x0, x1, x2, v0, v1, v2⟩ := hh
    have key : ∀ (k : Nat), k < 3 → ∀ (a v : Span), InI3 a (spotP t p k b.at_) → InI3 v (spotV t p k b.at_) → ∃ r, aheadS (tellT t p but) n a v = some r ∧ InI3 r.1 (spotP t p k (b.at_ + n)) ∧ InI3 r.2 (spotV t p k (b.at_ + n)) := by
      intro k hk a v ia iv
      rw [(spotP_ok hs0).1] at ia
      rw [(spotP_ok hs0).2] at iv
      have hva := atV_abs (p := p) (show 0 ≤ t.speed by omega) k b.at_
      obtain ⟨r, er, i1, i2⟩ := aheadN_in hG' hp hsm.tell hk n.toNat b.at_ a (common v (room0 t.speed)) (by show b.at_ + (n.toNat : Int) - t.frm ≤ 601; omega) (by rw [atP_tell]; exact ia) (by rw [atV_tell]; unfold InI3 at *; simp only [common, room0]; omega)
      rw [show b.at_ + (n.toNat : Int) = b.at_ + n by omega, atP_tell] at i1
      rw [show b.at_ + (n.toNat : Int) = b.at_ + n by omega, atV_tell] at i2
      exact ⟨r, er, by rw [(spotP_ok hs1).1]; exact i1, by rw [(spotP_ok hs1).2]; exact i2⟩
    obtain ⟨r0, f0, p0, q0⟩ := key 0 (by decide) _ _ x0 v0
    obtain ⟨r1, f1, p1, q1⟩ := key 1 (by decide) _ _ x1 v1
    obtain ⟨r2, f2, p2, q2⟩ := key 2 (by decide) _ _ x2 v2
    rw [e1, aheadB_3 f0 f1 f2]
    exact ⟨rfl, rfl, p0, p1, p2, q0, q1, q2⟩
  · intro h
    rw [e1] at h ⊢
    cases hc : aheadB (tellT t p but) b n with
    | none => rw [hc] at h; cases h
    | some c =>
      have hok := aheadB_ok hG' hb (by omega) hc
      have hca := (aheadB_parts hc).2.2.2
      show aheadP _ c m = _
      rw [on_E hG' hok (by omega) (by omega), on_E hG' hb (by omega) (by omega), aheadB_add hn.1 hm.1 hb hc]
end
end Go.Tk
