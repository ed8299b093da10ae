/- Layer 5: paths. -/
import Derived.Test.YtclbbchehjapjabL
import Derived.Test.YtclbbchehjapjabK
set_option linter.all false
namespace Go.Tk
open Go.Vc

structure PathM where
  push : Nat → List Int
  wrong : List Int
def part127 (a x : Int) : Int := (a * max (-127) x).tdiv 127
def accT (t : Task) (p : PathM) (k i : Nat) : Int := if (p.push k).length = 0 then 0 else part127 t.accel ((p.push k).getD (i % (p.push k).length) 0)
def velT (t : Task) (p : PathM) (k : Nat) : Nat → Int
  | 0 => 0
  | n + 1 => max (-t.speed) (min t.speed (velT t p k n + accT t p k n))
def posT (t : Task) (p : PathM) (k : Nat) : Nat → Int
  | 0 => 0
  | n + 1 => posT t p k n + velT t p k (n + 1)
def I8 (l : List Int) : Prop := ∀ x ∈ l, -128 ≤ x ∧ x ≤ 127
structure PathM.ok (p : PathM) : Prop where
  push : ∀ k, I8 (p.push k)
  wrong : I8 p.wrong
def SmallP (t : Task) (p : PathM) (n : Nat) : Prop := ∀ m, m ≤ n → ∀ k, k < 3 → -2000000000 ≤ posT t p k m ∧ posT t p k m ≤ 2000000000

theorem I8.getD {l : List Int} (h : I8 l) (i : Nat) : -128 ≤ l.getD i 0 ∧ l.getD i 0 ≤ 127 := by
  by_cases hi : i < l.length
  · exact h _ (getD_mem hi)
  · rw [List.getD_eq_getElem?_getD, List.getElem?_eq_none (by omega)]; decide
theorem part127_abs {a x : Int} (ha : 0 ≤ a) (hx : x ≤ 127) : -a ≤ part127 a x ∧ part127 a x ≤ a := by
  unfold part127
  have h1 : a * max (-127) x ≤ a * 127 := Int.mul_le_mul_of_nonneg_left (by omega) ha
  have h2 : a * (-127) ≤ a * max (-127) x := Int.mul_le_mul_of_nonneg_left (by omega) ha
  have e1 : (a * 127).tdiv 127 = a := Int.mul_tdiv_cancel a (by decide)
  have e2 : (a * (-127)).tdiv 127 = -a := by rw [Int.mul_neg, Int.neg_tdiv, e1]
  have g1 := Int.tdiv_le_tdiv (show (0 : Int) < 127 by decide) h1
  have g2 := Int.tdiv_le_tdiv (show (0 : Int) < 127 by decide) h2
  rw [e1] at g1
  rw [e2] at g2
  exact ⟨g2, g1⟩
section
variable {t : Task} {p : PathM}
theorem acc_abs (hp : p.ok) (ha : 0 ≤ t.accel) (k i : Nat) : -t.accel ≤ accT t p k i ∧ accT t p k i ≤ t.accel := by
  unfold accT
  split
  · omega
  · exact part127_abs ha ((hp.push k).getD _).2
theorem vel_abs (hs : 0 ≤ t.speed) (k n : Nat) : -t.speed ≤ velT t p k n ∧ velT t p k n ≤ t.speed := by
  cases n with
  | zero => simp only [velT]; omega
  | succ n => simp only [velT]; omega
theorem vel_step (hp : p.ok) (hs : 0 ≤ t.speed) (ha : 0 ≤ t.accel) (k n : Nat) : -t.accel ≤ velT t p k (n + 1) - velT t p k n ∧ velT t p k (n + 1) - velT t p k n ≤ t.accel := by
  have h1 := vel_abs (p := p) hs k n
  have h2 := acc_abs hp ha k n
  simp only [velT]; omega
theorem vel_acc (hp : p.ok) (hs : 0 ≤ t.speed) (ha : 0 ≤ t.accel) (k : Nat) : ∀ n : Nat, -(t.accel * n) ≤ velT t p k n ∧ velT t p k n ≤ t.accel * n := by
  intro n
  induction n with
  | zero => simp [velT]
  | succ n ih =>
    have h := vel_step hp hs ha k n
    have e : t.accel * ((n + 1 : Nat) : Int) = t.accel * n + t.accel := by rw [show ((n + 1 : Nat) : Int) = (n : Int) + 1 by omega, Int.mul_add, Int.mul_one]
    omega
theorem pos_reach (hp : p.ok) (hs : 0 ≤ t.speed) (ha : 1 ≤ t.accel) (k : Nat) : ∀ n : Nat, -(reachT t n) ≤ posT t p k n ∧ posT t p k n ≤ reachT t n := by
  intro n
  induction n with
  | zero => rw [show ((0 : Nat) : Int) = 0 from rfl, reach_zero hs (by omega)]; simp [posT]
  | succ n ih =>
    rw [show ((n + 1 : Nat) : Int) = (n : Int) + 1 by omega, reach_succ ha hs (by omega)]
    have h1 := vel_abs (p := p) hs k (n + 1)
    have h2 := vel_acc hp hs (by omega) k (n + 1)
    have e : (((n + 1 : Nat) : Int)) = (n : Int) + 1 := by omega
    rw [e] at h2
    simp only [posT]; omega

/-! ### by ticks -/
def atP (t : Task) (p : PathM) (k : Nat) (u : Int) : Int := if u < t.frm then 0 else posT t p k (u - t.frm).toNat
def atV (t : Task) (p : PathM) (k : Nat) (u : Int) : Int := if u < t.frm then 0 else velT t p k ((u - t.frm).toNat + 1)
theorem atP_succ (k : Nat) (u : Int) : atP t p k (u + 1) = atP t p k u + atV t p k u := by
  unfold atP atV
  by_cases h : u < t.frm
  · rw [if_pos h, if_pos h]
    split
    · rfl
    · have e : (u + 1 - t.frm).toNat = 0 := by omega
      rw [e]; rfl
  · rw [if_neg h, if_neg h, if_neg (by omega)]
    have e : (u + 1 - t.frm).toNat = (u - t.frm).toNat + 1 := by omega
    rw [e]; rfl
theorem atV_abs (hs : 0 ≤ t.speed) (k : Nat) (u : Int) : -t.speed ≤ atV t p k u ∧ atV t p k u ≤ t.speed := by
  unfold atV; split
  · omega
  · exact vel_abs hs k _
theorem atV_step (hp : p.ok) (hs : 0 ≤ t.speed) (ha : 0 ≤ t.accel) (k : Nat) (u : Int) : -t.accel ≤ atV t p k (u + 1) - atV t p k u ∧ atV t p k (u + 1) - atV t p k u ≤ t.accel := by
  unfold atV
  by_cases h : u < t.frm
  · rw [if_pos h]
    split
    · omega
    · have e : (u + 1 - t.frm).toNat = 0 := by omega
      have := vel_step hp hs ha k 0
      rw [e]
      simp only [velT] at this ⊢
      omega
  · rw [if_neg h, if_neg (by omega)]
    have e : (u + 1 - t.frm).toNat = (u - t.frm).toNat + 1 := by omega
    rw [e]
    exact vel_step hp hs ha k _
theorem atV_lip (hp : p.ok) (hs : 0 ≤ t.speed) (ha : 0 ≤ t.accel) (k : Nat) (u : Int) : ∀ j : Nat, -(t.accel * j) ≤ atV t p k (u + j) - atV t p k u ∧ atV t p k (u + j) - atV t p k u ≤ t.accel * j := by
  intro j
  induction j with
  | zero => simp
  | succ j ih =>
    have h := atV_step hp hs ha k (u + j)
    have e : t.accel * ((j + 1 : Nat) : Int) = t.accel * j + t.accel := by rw [show ((j + 1 : Nat) : Int) = (j : Int) + 1 by omega, Int.mul_add, Int.mul_one]
    rw [show u + ((j + 1 : Nat) : Int) = u + j + 1 by omega]
    omega
theorem atV_start (hp : p.ok) (hs : 0 ≤ t.speed) (ha : 0 ≤ t.accel) (k : Nat) {u : Int} (hu : t.frm ≤ u) : -(t.accel * (u - t.frm + 1)) ≤ atV t p k u ∧ atV t p k u ≤ t.accel * (u - t.frm + 1) := by
  unfold atV
  rw [if_neg (by omega)]
  have := vel_acc hp hs ha k ((u - t.frm).toNat + 1)
  rw [show (((u - t.frm).toNat + 1 : Nat) : Int) = u - t.frm + 1 by omega] at this
  exact this
theorem atP_lip (hs : 0 ≤ t.speed) (k : Nat) (u : Int) : ∀ j : Nat, -(t.speed * j) ≤ atP t p k (u + j) - atP t p k u ∧ atP t p k (u + j) - atP t p k u ≤ t.speed * j := by
  intro j
  induction j with
  | zero => simp
  | succ j ih =>
    have h := atV_abs (p := p) hs k (u + j)
    have h2 := atP_succ (t := t) (p := p) k (u + j)
    have e : t.speed * ((j + 1 : Nat) : Int) = t.speed * j + t.speed := by rw [show ((j + 1 : Nat) : Int) = (j : Int) + 1 by omega, Int.mul_add, Int.mul_one]
    rw [show u + ((j + 1 : Nat) : Int) = u + j + 1 by omega]
    omega
theorem atP_apart (hs : 0 ≤ t.speed) (k : Nat) (u v : Int) : atP t p k u - atP t p k v ≤ t.speed * apartI v u ∧ atP t p k v - atP t p k u ≤ t.speed * apartI v u := by
  rcases Int.le_total u v with h | h
  · have := atP_lip (p := p) hs k u (v - u).toNat
    rw [show u + ((v - u).toNat : Int) = v by omega, show (((v - u).toNat : Nat) : Int) = apartI v u by unfold apartI; omega] at this
    omega
  · have := atP_lip (p := p) hs k v (u - v).toNat
    rw [show v + ((u - v).toNat : Int) = u by omega, show (((u - v).toNat : Nat) : Int) = apartI v u by unfold apartI; omega] at this
    omega
def tri : Nat → Int
  | 0 => 0
  | n + 1 => tri n + n
theorem mul_tri (a : Int) (n : Nat) : a * tri (n + 1) = a * tri n + a * n := by rw [tri, Int.mul_add]
theorem atP_fwd (hp : p.ok) (hs : 0 ≤ t.speed) (ha : 0 ≤ t.accel) (k : Nat) (u : Int) : ∀ j : Nat, -(t.accel * tri j) ≤ atP t p k (u + j) - atP t p k u - j * atV t p k u ∧ atP t p k (u + j) - atP t p k u - j * atV t p k u ≤ t.accel * tri j := by
  intro j
  induction j with
  | zero => simp [tri]
  | succ j ih =>
    have h := atV_lip hp hs ha k u j
    have h2 := atP_succ (t := t) (p := p) k (u + j)
    rw [mul_tri, show u + ((j + 1 : Nat) : Int) = u + j + 1 by omega, show ((j + 1 : Nat) : Int) = (j : Int) + 1 by omega, Int.add_mul, Int.one_mul]
    omega
theorem atP_back (hp : p.ok) (hs : 0 ≤ t.speed) (ha : 0 ≤ t.accel) (k : Nat) (u : Int) : ∀ j : Nat, -(t.accel * tri (j + 1)) ≤ atP t p k u - atP t p k (u - j) - j * atV t p k u ∧ atP t p k u - atP t p k (u - j) - j * atV t p k u ≤ t.accel * tri (j + 1) := by
  intro j
  induction j with
  | zero => simp [tri]
  | succ j ih =>
    have h := atV_lip hp hs ha k (u - (j + 1)) (j + 1)
    rw [show u - (j + 1) + ((j + 1 : Nat) : Int) = u by omega, show ((j + 1 : Nat) : Int) = (j : Int) + 1 by omega] at h
    have h2 := atP_succ (t := t) (p := p) k (u - (j + 1))
    rw [show u - ((j : Int) + 1) + 1 = u - j by omega] at h2
    rw [mul_tri, show ((j + 1 : Nat) : Int) = (j : Int) + 1 by omega, Int.add_mul, Int.one_mul]
    omega
theorem tri_F : ∀ j : Nat, j ≤ 8 → ((j : Int) * ((j : Int) - 1)).tdiv 2 = tri j ∧ ((j : Int) * ((j : Int) + 1)).tdiv 2 = tri (j + 1) := by decide

/-! ### what a path's plots leave -/
def InI3 (s : Span) (x : Int) : Prop := s.lo ≤ x ∧ x ≤ s.hi
theorem InI3.none {s : Span} {x : Int} (h : InI3 s x) : s.none = false := by
  simp only [Span.none, decide_eq_false_iff_not]; unfold InI3 at h; omega
/-- all of some plots tell the path, within their errors -/
def TellS (t : Task) (p : PathM) (ps : List Int) : Prop := ∀ i ∈ ps, (0 ≤ i ∧ i < t.plots.length) ∧ (t.pl i.toNat).tick - t.frm ≤ 592 ∧ ∀ k : Nat, k < 3 → partI (t.pl i.toNat) k - atP t p k (t.pl i.toNat).tick ≤ (t.trOf i.toNat).error ∧ atP t p k (t.pl i.toNat).tick - partI (t.pl i.toNat) k ≤ (t.trOf i.toNat).error
variable {ps : List Int}
theorem place_in (hG : GoodT t) (hp : p.ok) (hsm : SmallP t p 601) (hT : TellS t p ps) {k : Nat} (hk : k < 3) {v : Int} (hv : v - t.frm ≤ 601) : InI3 (placeT t ps k v) (atP t p k v) := by
  obtain ⟨hf, hs, ha⟩ := hG.nums
  unfold placeT
  split
  · rename_i h
    have key : InS ⟨atP t p k v, atP t p k v⟩ (placeN t ps k v) := by
      refine fold_out _ _ ?_ fun i hi => ?_
      · have h1 := pos_reach hp (show 0 ≤ t.speed by omega) (show 1 ≤ t.accel by omega) k (v - t.frm).toNat
        have h2 := hsm (v - t.frm).toNat (by omega) k hk
        rw [show (((v - t.frm).toNat : Nat) : Int) = v - t.frm by omega] at h1
        simp only [InS, room0, atP, if_neg (show ¬ v < t.frm by omega)]
        omega
      · obtain ⟨⟨i0, i1⟩, _, he⟩ := hT i hi
        have h1 := he k hk
        have h2 := atP_apart (p := p) (show 0 ≤ t.speed by omega) k v (t.pl i.toNat).tick
        have h3 := grow_bnd hG (i := i.toNat) (by omega)
        simp only [InS, plotS, aroundS, slackT, widthT]
        omega
    exact key
  · rename_i h
    unfold InI3 atP
    split
    · exact ⟨Int.le_refl _, Int.le_refl _⟩
    · have e : (v - t.frm).toNat = 0 := by omega
      rw [e]; exact ⟨Int.le_refl _, Int.le_refl _⟩
theorem gone_in {s : Span} {lo hi j x : Int} (hj : 0 < j) (hs : InI3 s x) (h1 : lo ≤ j * x) (h2 : j * x ≤ hi) : InI3 (goneS s lo hi j) x := by
  have a1 : x ≤ hi / j := Int.le_ediv_of_mul_le hj (by rw [Int.mul_comm]; exact h2)
  have a2 : -x ≤ (-lo) / j := Int.le_ediv_of_mul_le hj (by rw [Int.neg_mul, Int.mul_comm]; omega)
  unfold InI3 at hs ⊢
  simp only [goneS]; omega
theorem fastN_in (hG : GoodT t) (hp : p.ok) (hsm : SmallP t p 601) (hT : TellS t p ps) {k : Nat} (hk : k < 3) {u : Int} (hu : t.frm ≤ u) (hn : u - t.frm ≤ 592) : ∀ n : Nat, n ≤ 8 → ∃ s, fastN t ps k u n = some s ∧ InI3 s (atV t p k u) := by
  obtain ⟨hf, hs, ha⟩ := hG.nums
  intro n
  induction n with
  | zero =>
    intro _
    refine ⟨_, rfl, ?_⟩
    have h1 := atV_abs (p := p) (show 0 ≤ t.speed by omega) k u
    have h2 := atV_start hp (by omega) (by omega) k hu
    simp only [InI3, room0]; omega
  | succ n ih =>
    intro hn8
    obtain ⟨s, es, is⟩ := ih (by omega)
    have h0 := place_in hG hp hsm hT hk (v := u) (by omega)
    obtain ⟨eF, eB⟩ := tri_F (n + 1) hn8
    rw [show ((n + 1 : Nat) : Int) = (n : Int) + 1 by omega] at eF eB
    have hB : ∃ s1, fastB t ps k u ((n : Int) + 1) s = some s1 ∧ InI3 s1 (atV t p k u) := by
      by_cases h : t.frm ≤ u - ((n : Int) + 1)
      · have h1 := place_in hG hp hsm hT hk (v := u - ((n : Int) + 1)) (by omega)
        rw [fastB_go h h1.none]
        refine ⟨_, rfl, ?_⟩
        have hb := atP_back hp (show 0 ≤ t.speed by omega) (show 0 ≤ t.accel by omega) k u (n + 1)
        rw [show ((n + 1 : Nat) : Int) = (n : Int) + 1 by omega] at hb
        unfold InI3 at h0 h1
        refine gone_in (by omega) is ?_ ?_ <;> (unfold moreB; rw [eB]; omega)
      · rw [fastB_skip h]; exact ⟨_, rfl, is⟩
    obtain ⟨s1, e1, i1⟩ := hB
    have hF : ∃ s2, fastF t ps k u ((n : Int) + 1) s1 = some s2 ∧ InI3 s2 (atV t p k u) := by
      by_cases h : u + ((n : Int) + 1) ≤ 100000
      · have h1 := place_in hG hp hsm hT hk (v := u + ((n : Int) + 1)) (by omega)
        rw [fastF_go h h1.none]
        refine ⟨_, rfl, ?_⟩
        have hb := atP_fwd hp (show 0 ≤ t.speed by omega) (show 0 ≤ t.accel by omega) k u (n + 1)
        rw [show ((n + 1 : Nat) : Int) = (n : Int) + 1 by omega] at hb
        unfold InI3 at h0 h1
        refine gone_in (by omega) i1 ?_ ?_ <;> (unfold moreF; rw [eF]; omega)
      · rw [fastF_skip h]; exact ⟨_, rfl, i1⟩
    obtain ⟨s2, e2, i2⟩ := hF
    refine ⟨s2, ?_, i2⟩
    simp only [fastN]
    rw [es, Option.bind_some, e1, Option.bind_some, e2]
theorem part_in (hG : GoodT t) (hp : p.ok) (hsm : SmallP t p 601) (hT : TellS t p ps) {k : Nat} (hk : k < 3) {u : Int} (hn : u - t.frm ≤ 592) : ∃ v, partT t ps k u = some (placeT t ps k u, v) ∧ InI3 (placeT t ps k u) (atP t p k u) ∧ InI3 v (atV t p k u) := by
  have h0 := place_in hG hp hsm hT hk (v := u) (by omega)
  have hf : ∃ v, fastT t ps k u = some v ∧ InI3 v (atV t p k u) := by
    by_cases h : u < t.frm
    · unfold fastT; rw [if_pos h]
      exact ⟨_, rfl, by unfold atV; rw [if_pos h]; exact ⟨Int.le_refl _, Int.le_refl _⟩⟩
    · obtain ⟨s, es, is⟩ := fastN_in hG hp hsm hT hk (u := u) (by omega) hn 8 (Nat.le_refl _)
      rw [fastT_end (by omega) es, if_neg (by rw [is.none]; decide)]
      exact ⟨_, rfl, is⟩
  obtain ⟨v, ev, iv⟩ := hf
  exact ⟨v, partT_some ev h0.none, h0, iv⟩
structure HasB (b : Box) (f g : Nat → Int) : Prop where
  x : InI3 b.x (f 0)
  y : InI3 b.y (f 1)
  z : InI3 b.z (f 2)
  vx : InI3 b.vx (g 0)
  vy : InI3 b.vy (g 1)
  vz : InI3 b.vz (g 2)
theorem HasB.mono {a b : Box} {f g : Nat → Int} (h : HasB a f g) (i : InB a b) : HasB b f g := by
  obtain ⟨h1, h2, h3, h4, h5, h6⟩ := h
  obtain ⟨_, i1, i2, i3, i4, i5, i6⟩ := i
  refine ⟨?_, ?_, ?_, ?_, ?_, ?_⟩ <;> (simp only [InI3, InS] at *; omega)
theorem box_in (hG : GoodT t) (hp : p.ok) (hsm : SmallP t p 601) (hT : TellS t p ps) {u : Int} (hn : u - t.frm ≤ 592) : ∃ b, boxT t ps u = some b ∧ HasB b (fun k => atP t p k u) (fun k => atV t p k u) := by
  obtain ⟨v0, e0, p0, q0⟩ := part_in hG hp hsm hT (k := 0) (by decide) hn
  obtain ⟨v1, e1, p1, q1⟩ := part_in hG hp hsm hT (k := 1) (by decide) hn
  obtain ⟨v2, e2, p2, q2⟩ := part_in hG hp hsm hT (k := 2) (by decide) hn
  exact ⟨_, boxT_3 e0 e1 e2, p0, p1, p2, q0, q1, q2⟩
theorem others_at {u now : Int} {n : Nat} : ∀ q ∈ othersV t u now n, q.2.at_ = u := by
  intro q hq
  rw [othersV, List.mem_filterMap] at hq
  obtain ⟨i, _, h⟩ := hq
  cases hb : boxT t (byT t now fun x => decide (x ≠ (i : Int))) u with
  | none => rw [hb] at h; cases h
  | some b => rw [hb] at h; cases h; exact boxT_at hb
theorem foldl_mem {u : Int} : ∀ (l : List (Int × Box)) (acc : Option Box), (∀ q ∈ l, q.2.at_ = u) → (∀ b, acc = some b → b.at_ = u) → ∀ a : Box, (acc = some a ∨ ∃ q ∈ l, q.2 = a) → ∃ s, l.foldl (fun acc p => addB acc p.2) acc = some s ∧ InB a s := by
  intro l
  induction l with
  | nil =>
    intro acc _ _ a h
    rcases h with h | ⟨q, hq, _⟩
    · exact ⟨a, h, InB.refl a⟩
    · cases hq
  | cons q l ih =>
    intro acc hl hacc a h
    simp only [List.foldl_cons]
    have hq := hl q (.head _)
    have hl' : ∀ r ∈ l, r.2.at_ = u := fun r hr => hl r (.tail _ hr)
    have hat : ∀ b, addB acc q.2 = some b → b.at_ = u := by
      intro b hb
      cases acc with
      | none => cases hb; exact hq
      | some x => cases hb; exact hacc x rfl
    have step : (∃ c, addB acc q.2 = some c ∧ InB a c) ∨ ∃ r ∈ l, r.2 = a := by
      rcases h with h | ⟨r, hr, hra⟩
      · subst h; exact .inl ⟨_, rfl, joinB_in (InB.refl a)⟩
      · rcases List.mem_cons.1 hr with rfl | hr
        · subst hra
          cases acc with
          | none => exact .inl ⟨_, rfl, InB.refl _⟩
          | some x => exact .inl ⟨_, rfl, joinB_right (InB.refl _) (by rw [hacc x rfl, hq])⟩
        · exact .inr ⟨r, hr, hra⟩
    rcases step with ⟨c, hc, ic⟩ | h2
    · obtain ⟨s, hs, is⟩ := ih (addB acc q.2) hl' hat c (.inl hc)
      exact ⟨s, hs, ic.trans is⟩
    · exact ih (addB acc q.2) hl' hat a (.inr h2)

/-! ### a task in which a path is told -/
def wrongT (t : Task) (p : PathM) (i k : Nat) : Int := if p.wrong.length = 0 then 0 else part127 (t.trOf i).error (p.wrong.getD ((3 * i + k) % p.wrong.length) 0)
def tellPl (t : Task) (p : PathM) (i : Nat) : Plot := ⟨(t.pl i).tracker, (t.pl i).tick, atP t p 0 (t.pl i).tick + wrongT t p i 0, atP t p 1 (t.pl i).tick + wrongT t p i 1, atP t p 2 (t.pl i).tick + wrongT t p i 2⟩
def tellL (t : Task) (p : PathM) (but : Int) (n : Nat) : List Plot := (List.range t.plots.length).map fun j => if j < n ∧ (t.pl j).tracker ≠ but then tellPl t p j else t.pl j
def tellT (t : Task) (p : PathM) (but : Int) : Task := ⟨t.frm, t.speed, t.accel, t.trackers, tellL t p but t.plots.length⟩
variable {but : Int}
theorem tellL_len (n : Nat) : (tellL t p but n).length = t.plots.length := by simp [tellL]
theorem tellL_zero : tellL t p but 0 = t.plots := by
  refine List.ext_getElem (by rw [tellL_len]) fun i h1 h2 => ?_
  simp [tellL, Task.pl, List.getD_eq_getElem?_getD, List.getElem?_eq_getElem h2]
theorem tellL_no {k : Int} (hk : 0 ≤ k) (h : (t.pl k.toNat).tracker = but) : tellL t p but (k + 1).toNat = tellL t p but k.toNat := by
  unfold tellL
  refine List.map_congr_left fun j _ => ?_
  have e : (k + 1).toNat = k.toNat + 1 := by omega
  rw [e]
  by_cases hj : j = k.toNat
  · subst hj; rw [if_neg (fun hh => hh.2 h), if_neg (fun hh => hh.2 h)]
  · by_cases hl : j < k.toNat ∧ (t.pl j).tracker ≠ but
    · rw [if_pos hl, if_pos ⟨by omega, hl.2⟩]
    · rw [if_neg hl, if_neg (fun hh => hl ⟨by omega, hh.2⟩)]
theorem tellL_yes {k : Int} (hk : 0 ≤ k) (hl : k < t.plots.length) (h : (t.pl k.toNat).tracker ≠ but) :
    tellL t p but (k + 1).toNat = (tellL t p but k.toNat).set k.toNat (tellPl t p k.toNat) := by
  have e : (k + 1).toNat = k.toNat + 1 := by omega
  refine List.ext_getElem (by rw [List.length_set, tellL_len, tellL_len]) fun j h1 h2 => ?_
  rw [List.getElem_set]
  simp only [tellL, List.getElem_map, List.getElem_range, e]
  by_cases hj : k.toNat = j
  · subst hj; rw [if_pos rfl, if_pos ⟨by omega, h⟩]
  · rw [if_neg hj]
    by_cases hh : j < k.toNat ∧ (t.pl j).tracker ≠ but
    · rw [if_pos hh, if_pos ⟨by omega, hh.2⟩]
    · rw [if_neg hh, if_neg (fun x => hh ⟨by omega, x.2⟩)]
theorem tellL_at {k : Int} (hk : 0 ≤ k) (hl : k < t.plots.length) : (tellL t p but k.toNat).getD k.toNat plZ = t.pl k.toNat := by
  rw [List.getD_eq_getElem?_getD, List.getElem?_eq_getElem (by rw [tellL_len]; omega)]
  simp only [tellL, List.getElem_map, List.getElem_range, Option.getD_some]
  rw [if_neg (fun hh => Nat.lt_irrefl _ hh.1)]
theorem tellT_pl {j : Nat} (hj : j < t.plots.length) : (tellT t p but).pl j = if (t.pl j).tracker ≠ but then tellPl t p j else t.pl j := by
  rw [Task.pl, List.getD_eq_getElem?_getD, List.getElem?_eq_getElem (show j < (tellT t p but).plots.length by show j < (tellL _ _ _ _).length; rw [tellL_len]; exact hj)]
  simp [tellT, tellL, hj]
/-- all plots that are told have a tick that is looked at -/
def SpotsT (t : Task) (but : Int) : Prop := ∀ j : Nat, j < t.plots.length → (t.pl j).tracker ≠ but → (t.pl j).tick - t.frm ≤ 592
theorem wrong_abs (hG : GoodT t) (hp : p.ok) {i : Nat} (hi : i < t.plots.length) (k : Nat) : -(t.trOf i).error ≤ wrongT t p i k ∧ wrongT t p i k ≤ (t.trOf i).error := by
  have q := hG.of hi
  have h0 : 0 ≤ (t.trOf i).error := by obtain ⟨_, _, q3, _⟩ := q; omega
  unfold wrongT
  split
  · omega
  · exact part127_abs h0 (hp.wrong.getD _).2
theorem tell_tells (hG : GoodT t) (hp : p.ok) (hsp : SpotsT t but) {now : Int} {want : Int → Bool} (hw : ∀ x, 0 ≤ x → want x = true → x ≠ but) : TellS (tellT t p but) p (byT (tellT t p but) now want) := by
  intro i hi
  obtain ⟨h0, h1⟩ := byT_bnd i hi
  obtain ⟨j, rfl⟩ := Int.eq_ofNat_of_zero_le h0
  obtain ⟨hj, _, hwj⟩ := mem_byT.1 hi
  have hj' : j < t.plots.length := by have : (tellT t p but).plots.length = t.plots.length := tellL_len _; omega
  have htr : ((tellT t p but).pl j).tracker = (t.pl j).tracker ∧ ((tellT t p but).pl j).tick = (t.pl j).tick := by
    rw [tellT_pl hj']; split
    · exact ⟨rfl, rfl⟩
    · exact ⟨rfl, rfl⟩
  have hne : (t.pl j).tracker ≠ but := by rw [← htr.1]; exact hw _ (by rw [htr.1]; exact (hG.plot hj').tr0) hwj
  have epl : (tellT t p but).pl j = tellPl t p j := by rw [tellT_pl hj', if_pos hne]
  have hP : ∀ k u, atP (tellT t p but) p k u = atP t p k u := by
    have hv : ∀ k n, velT (tellT t p but) p k n = velT t p k n := by
      intro k n
      induction n with
      | zero => rfl
      | succ n ih => simp only [velT, ih]; rfl
    have hq : ∀ k n, posT (tellT t p but) p k n = posT t p k n := by
      intro k n
      induction n with
      | zero => rfl
      | succ n ih => simp only [posT, ih, hv]
    intro k u
    simp only [atP, hq]; rfl
  have etr : (tellT t p but).trOf j = t.trOf j := by rw [Task.trOf, Task.trOf, htr.1]; rfl
  refine ⟨⟨h0, h1⟩, ?_, fun k hk => ?_⟩
  · rw [Int.toNat_natCast, htr.2]
    exact hsp j hj' hne
  · rw [Int.toNat_natCast, epl, etr, hP]
    have hwr := wrong_abs hG hp hj' k
    have hpart : partI (tellPl t p j) k = atP t p k (t.pl j).tick + wrongT t p j k := by
      match k, hk with
      | 0, _ => rfl
      | 1, _ => rfl
      | 2, _ => rfl
    rw [hpart]
    show _ + _ - atP t p k (t.pl j).tick ≤ _ ∧ atP t p k (t.pl j).tick - _ ≤ _
    omega
end
end Go.Tk
