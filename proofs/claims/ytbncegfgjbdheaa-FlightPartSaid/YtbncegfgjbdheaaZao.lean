/- Joined texts. -/
import Derived.Test.YtbncegfgjbdheaaZam
import Derived.Test.YtbncegfgjbdheaaZai
import Derived.Test.YtbncegfgjbdheaaZaf
import Derived.Test.YtbncegfgjbdheaaZae
import Derived.Test.YtbncegfgjbdheaaZan
/- A vehicle without air, its phases grown (plain). -/
set_option linter.all false
namespace Go.Fl
open Go.Vc Go.Tk
section
variable {w : World} {ps : List (Int × Int)} {g : Int}
end
end Go.Fl

/- What a turned vehicle needs (plain). -/
set_option linter.all false
namespace Go.Fl
open Go.Vc Go.Tk
section
variable {v : Veh} {d : Dir} {l : List Band} {w : World}
end
end Go.Fl

/- A path that a vehicle can fly lies in its states, and comes down in its impact (plain). -/
set_option linter.all false
namespace Go.Fl
open Go.Vc Go.Tk
section
variable {v : Veh} {d : Dir} {l : List Band} {q : List Pt}
theorem down_inv {floor : Int} (h : downE q floor = 0) : downP q floor = ((ptAt q ((downI q floor).toNat + 1)).x, (ptAt q ((downI q floor).toNat + 1)).y, (((downI q floor).toNat + 1 : Nat) : Int)) ∧ (downI q floor).toNat + 1 < q.length ∧ (ptAt q ((downI q floor).toNat + 1)).z ≤ floor ∧ ∀ j, 1 ≤ j → j < (downI q floor).toNat + 1 → floor < (ptAt q j).z := by
  have h0 := h
  unfold downE at h0
  split at h0
  · contradiction
  split at h0
  · cases h0
  split at h0
  · cases h0
  rename_i _ _ h3
  obtain ⟨e1, e2⟩ := downI_lt h3
  rcases firstIdx_of (p := fun t => decide ((ptAt q (t + 1)).z ≤ floor)) (n := q.length - 1) (q.length - 1) 0 (by omega) with ⟨h4, _⟩ | ⟨i, _, h5, h6, h7, h8⟩
  · exact absurd (show downI q floor < 0 by unfold downI; omega) h3
  have ei : (downI q floor).toNat = i := by unfold downI; omega
  rw [downP_0 h]
  rw [ei] at e1 e2 ⊢
  refine ⟨?_, e1, of_decide_eq_true h7, fun j hj1 hj2 => ?_⟩
  · rw [e2, show ((i : Int) + 1).toNat = i + 1 by omega]; rfl
  have := of_decide_eq_false (h8 (j - 1) (Nat.zero_le _) (by omega))
  rw [show j - 1 + 1 = j by omega] at this; omega
end
end Go.Fl

/- Any path of a piece lies in its states, and comes down in its impact (plain). -/
set_option linter.all false
namespace Go.Fl
open Go.Vc Go.Tk
/-- the vehicle that is the piece alone -/
def partV (v : Veh) (x : Piece) : Veh := { v with phases := [⟨1, spZ, x.mass, x.drag, axZ⟩], pieces := [] }
def startQ (s : St) (x : Piece) (sh : List Int) : Pt := ⟨De.pickI s.p.x sh 0, De.pickI s.p.y sh 1, De.pickI s.p.z sh 2, De.pickI s.v.x sh 3 + De.pickI x.kick.x sh 4, De.pickI s.v.y sh 5 + De.pickI x.kick.y sh 6, De.pickI s.v.z sh 7 + De.pickI x.kick.z sh 8⟩
def stepQ (f : Ax) (sh : List Int) (t : Int) (p : Pt) : Pt :=
  ⟨p.x + (p.vx + De.pickI f.x sh (3 * t)), p.y + (p.vy + De.pickI f.y sh (3 * t + 1)), p.z + (p.vz + De.pickI f.z sh (3 * t + 2)), p.vx + De.pickI f.x sh (3 * t), p.vy + De.pickI f.y sh (3 * t + 1), p.vz + De.pickI f.z sh (3 * t + 2)⟩
def partQ (v : Veh) (d : Dir) (l : List Band) (x : Piece) (sh : List Int) : Nat → Pt
  | 0 => startQ (stT v d l x.at_.toNat) x sh
  | t + 1 => stepQ (forceT v d l (pcPh x) (ptS (partQ v d l x sh t))) sh t (partQ v d l x sh t)
def pathQ (v : Veh) (d : Dir) (l : List Band) (x : Piece) (sh : List Int) (n : Nat) : List Pt := (List.range n).map (partQ v d l x sh)
def ptL (l : List Pt) : List Value := (l.map Pt.cells).flatten
section
variable {v : Veh} {d : Dir} {l : List Band} {x : Piece} {sh : List Int}
theorem pathQ_s (n : Nat) : ptL (pathQ v d l x sh (n + 1)) = ptL (pathQ v d l x sh n) ++ (partQ v d l x sh n).cells := by
  unfold ptL pathQ; rw [List.range_succ, List.map_append, List.map_append, List.flatten_append]; simp
theorem pathQ_len (n : Nat) : (pathQ v d l x sh n).length = n := by unfold pathQ; rw [List.length_map, List.length_range]
theorem pathQ_at {n k : Nat} (h : k < n) : ptAt (pathQ v d l x sh n) k = partQ v d l x sh k := by
  unfold ptAt pathQ; rw [List.getD_eq_getElem?_getD, List.getElem?_map, List.getElem?_range h]; rfl
theorem part_good (hV : GoodV v) (hx : PcB x) : GoodV (partV v x) := by
  refine ⟨hV.name, hV.grav, hV.air20, hV.air, (by decide : oP 1 1 12 = false), fun j hj => errPh_0 ?_, Nat.zero_le _, fun j hj => absurd (show j < 0 from hj) (Nat.not_lt_zero _)⟩
  have e : j = 0 := by have : j < 1 := hj; omega
  subst e
  show phBad ⟨1, spZ, x.mass, x.drag, axZ⟩ = false
  unfold phBad
  rw [heavy_false.2 ⟨hx.mass, hx.drag⟩]
  show (oP 1 1 3000 || (beyond spZ 0 2000000 || (false || wideA axZ 2000))) = false
  decide
theorem part_asked (h : askedF v d l = 0) (hx : PcB x) : askedF (partV v x) d l = 0 := by
  obtain ⟨h1, h2, h3⟩ := asked_good h
  exact good_asked (part_good h1 hx) h2 h3
theorem part_now : nowT (partV v x) 2 = ⟨1, spZ, x.mass, x.drag, axZ⟩ := by
  have e : phaseN (partV v x).phases 2 = none := by
    show (if (2 : Int) < 1 then some (⟨1, spZ, x.mass, x.drag, axZ⟩ : Phase) else none) = none
    exact if_neg (by decide)
  unfold nowT
  rw [e]; rfl
theorem part_force (s : St) : forceT (partV v x) d l (nowT (partV v x) 2) s = forceT v d l (pcPh x) s := by rw [part_now]; rfl
theorem part_fE {s : St} (h : askedF v d l = 0) (hx : PcB x) (hs : farS s = false) : forceE (partV v x) d l 2 s = 0 ∧ forceP (partV v x) d l 2 s = forceT v d l (pcPh x) s := by
  have e : forceE (partV v x) d l 2 s = 0 := forceE_3 (part_asked h hx) (by decide) hs
  exact ⟨e, by rw [forceP_0 e, part_force]⟩
theorem spb_in {A : Int} {a b : Span} (ha : SpB A b) (h : InS a b) (hl : a.lo ≤ a.hi) : SpB A a := ⟨by have := h.1; have := ha.1; omega, hl, by have := h.2; have := ha.2.2; omega⟩
theorem pt_near {p : Pt} {s : St} (h : InT (ptS p) s) (hs : farS s = false) : farS (ptS p) = false := by
  obtain ⟨⟨a, b, c⟩, e, f, g⟩ := far_false.1 hs
  exact far_false.2 ⟨⟨spb_in a h.p.x (Int.le_refl _), spb_in b h.p.y (Int.le_refl _), spb_in c h.p.z (Int.le_refl _)⟩, spb_in e h.v.x (Int.le_refl _), spb_in f h.v.y (Int.le_refl _), spb_in g h.v.z (Int.le_refl _)⟩
theorem start_in {s : St} (hl : ∀ n ∈ sh, 0 ≤ n ∧ n ≤ 255) (hs : farS s = false) (hx : PcB x) : InT (ptS (startQ s x sh)) (kickS s x.kick) := by
  obtain ⟨⟨a, b, c⟩, e, f, g⟩ := far_false.1 hs
  obtain ⟨k1, k2, k3⟩ := hx.kick
  have p0 := De.pick_in (i := 0) a.2.1 hl
  have p1 := De.pick_in (i := 1) b.2.1 hl
  have p2 := De.pick_in (i := 2) c.2.1 hl
  have p3 := De.pick_in (i := 3) e.2.1 hl
  have p4 := De.pick_in (i := 4) k1.2.1 hl
  have p5 := De.pick_in (i := 5) f.2.1 hl
  have p6 := De.pick_in (i := 6) k2.2.1 hl
  have p7 := De.pick_in (i := 7) g.2.1 hl
  have p8 := De.pick_in (i := 8) k3.2.1 hl
  refine ⟨⟨?_, ?_, ?_⟩, ⟨?_, ?_, ?_⟩⟩ <;> (unfold InS kickS addA addS ptS at1 startQ; dsimp only; omega)
theorem step_goes {f : Ax} {A : Int} (hf : AxB A f) (hl : ∀ n ∈ sh, 0 ≤ n ∧ n ≤ 255) (t : Int) (p : Pt) : goesB f p (stepQ f sh t p) = true := by
  have p0 := De.pick_in (i := 3 * t) hf.1.2.1 hl
  have p1 := De.pick_in (i := 3 * t + 1) hf.2.1.2.1 hl
  have p2 := De.pick_in (i := 3 * t + 2) hf.2.2.2.1 hl
  simp only [goesB, Bool.and_eq_true, hasS_iff, decide_eq_true_eq]
  unfold stepQ
  dsimp only
  omega
theorem part_in (ha : askedF v d l = 0) (hx : PcB x) (hl : ∀ n ∈ sh, 0 ≤ n ∧ n ≤ 255) (h0 : farS (stT v d l x.at_.toNat) = false) : ∀ t, (∀ j, j < t → farS (pcT v d l x j) = false) → InT (ptS (partQ v d l x sh t)) (pcT v d l x t) := by
  obtain ⟨hV, hd, hB⟩ := asked_good ha
  intro t
  induction t with
  | zero => intro _; exact start_in hl h0 hx
  | succ t ih =>
    intro hf
    have h1 := ih fun j hj => hf j (by omega)
    have h2 := hf t (by omega)
    have h3 := pt_near h1 h2
    exact goes_in hV hd hB hx.ph h3 h2 h1 (step_goes (force_bnd hV hd hB hx.ph (pt_far h3).1) hl t _)
/-- what a path's numbers are at a tick -/
theorem part_near (ha : askedF v d l = 0) (hx : PcB x) (hl : ∀ n ∈ sh, 0 ≤ n ∧ n ≤ 255) (h0 : farS (stT v d l x.at_.toNat) = false) {n : Nat} (hf : ∀ j, j ≤ n → farS (pcT v d l x j) = false) : ∀ t, t ≤ n → farS (ptS (partQ v d l x sh t)) = false := by
  intro t ht
  exact pt_near (part_in ha hx hl h0 t fun j hj => hf j (by omega)) (hf t ht)
theorem part_stray (ha : askedF v d l = 0) (hx : PcB x) (hl : ∀ n ∈ sh, 0 ≤ n ∧ n ≤ 255) (h0 : farS (stT v d l x.at_.toNat) = false) {n : Nat} (hn : n ≤ 3000) (hf : ∀ j, j ≤ n → farS (pcT v d l x j) = false) : strayE (pathQ v d l x sh (n + 1)) = 0 := by
  refine stray_mk (oP_false.2 (by rw [pathQ_len]; omega)) fun k hk => ?_
  rw [pathQ_len] at hk
  rw [pathQ_at hk]; exact part_near ha hx hl h0 hf k (by omega)
theorem part_lands {i n : Nat} (hi : i < v.pieces.length) (hsh : ∀ n ∈ sh, 0 ≤ n ∧ n ≤ 255) (h0 : farS (stT v d l (v.pc i).at_.toNat) = false) (him : impsE v d l = 0) (hdn : downE (pathQ v d l (v.pc i) sh (n + 1)) (v.pc i).floor = 0) :
    hasS (impT v d l i).1.at_ ((v.pc i).at_ + (downP (pathQ v d l (v.pc i) sh (n + 1)) (v.pc i).floor).2.2) = true ∧ hasS (impT v d l i).1.x (downP (pathQ v d l (v.pc i) sh (n + 1)) (v.pc i).floor).1 = true ∧ hasS (impT v d l i).1.y (downP (pathQ v d l (v.pc i) sh (n + 1)) (v.pc i).floor).2.1 = true := by
  obtain ⟨hA, himp⟩ := imps_ok him
  have hV := (asked_good hA).1
  have hx := pc_zero (hV.pc i hi)
  obtain ⟨a, b, hI, _, _, _⟩ := imp_is (d := d) (l := l) hV (i := i) (himp _ (by omega))
  obtain ⟨e, h3, h4, h5⟩ := down_inv hdn
  have ef : ofI v d l i = pcT v d l (v.pc i) := if_pos hi
  have er : frmI v i = (v.pc i).at_ := if_pos hi
  have el : flrI v i = (v.pc i).floor := if_pos hi
  rw [ef, er, el] at hI
  rw [e]
  rw [pathQ_len] at h3
  exact imp_has hI (g := ptAt (pathQ v d l (v.pc i) sh (n + 1))) (t := (downI (pathQ v d l (v.pc i) sh (n + 1)) (v.pc i).floor).toNat + 1) (fun j hj1 hj2 => by
    rw [pathQ_at (by omega)]; exact part_in hA hx hsh h0 j fun i hi => hI.far i (by omega)) (by omega) h4 h5
/-- what a point's numbers are -/
theorem part_nums {p : Pt} (h : farS (ptS p) = false) : ((-2000000000 ≤ p.x ∧ p.x ≤ 2000000000) ∧ (-2000000000 ≤ p.y ∧ p.y ≤ 2000000000) ∧ (-2000000000 ≤ p.z ∧ p.z ≤ 2000000000)) ∧ (-1000000 ≤ p.vx ∧ p.vx ≤ 1000000) ∧ (-1000000 ≤ p.vy ∧ p.vy ≤ 1000000) ∧ (-1000000 ≤ p.vz ∧ p.vz ≤ 1000000) := by
  obtain ⟨⟨⟨a1, _, a2⟩, ⟨b1, _, b2⟩, ⟨c1, _, c2⟩⟩, ⟨e1, _, e2⟩, ⟨f1, _, f2⟩, ⟨g1, _, g2⟩⟩ := far_false.1 h
  exact ⟨⟨⟨a1, a2⟩, ⟨b1, b2⟩, ⟨c1, c2⟩⟩, ⟨e1, e2⟩, ⟨f1, f2⟩, ⟨g1, g2⟩⟩
theorem spb4 {A : Int} {s : Span} (h : SpB A s) (hA : A ≤ 4000000000) : -4000000000 ≤ s.lo ∧ s.lo ≤ s.hi ∧ s.hi ≤ 4000000000 := ⟨by have := h.1; omega, h.2.1, by have := h.2.2; omega⟩
theorem start_I {s : St} (hl : ∀ n ∈ sh, 0 ≤ n ∧ n ≤ 255) (hs : farS s = false) (hx : PcB x) : InI (De.pickI s.v.x sh 3 + De.pickI x.kick.x sh 4) ∧ InI (De.pickI s.v.y sh 5 + De.pickI x.kick.y sh 6) ∧ InI (De.pickI s.v.z sh 7 + De.pickI x.kick.z sh 8) := by
  obtain ⟨_, ⟨e1, e2, e3⟩, ⟨f1, f2, f3⟩, ⟨g1, g2, g3⟩⟩ := far_false.1 hs
  obtain ⟨⟨k1, k2, k3⟩, ⟨k4, k5, k6⟩, ⟨k7, k8, k9⟩⟩ := hx.kick
  have p3 := De.pick_in (i := 3) e2 hl
  have p4 := De.pick_in (i := 4) k2 hl
  have p5 := De.pick_in (i := 5) f2 hl
  have p6 := De.pick_in (i := 6) k5 hl
  have p7 := De.pick_in (i := 7) g2 hl
  have p8 := De.pick_in (i := 8) k8 hl
  unfold InI
  refine ⟨⟨?_, ?_⟩, ⟨?_, ?_⟩, ⟨?_, ?_⟩⟩ <;> omega
theorem step_I {p : Pt} {f : Ax} (hl : ∀ n ∈ sh, 0 ≤ n ∧ n ≤ 255) (hp : farS (ptS p) = false) (hf : AxB 1826027060 f) (t : Int) :
    (InI (p.vx + De.pickI f.x sh (3 * t)) ∧ InI (p.vy + De.pickI f.y sh (3 * t + 1)) ∧ InI (p.vz + De.pickI f.z sh (3 * t + 2))) ∧
    InI (p.x + (p.vx + De.pickI f.x sh (3 * t))) ∧ InI (p.y + (p.vy + De.pickI f.y sh (3 * t + 1))) ∧ InI (p.z + (p.vz + De.pickI f.z sh (3 * t + 2))) := by
  obtain ⟨⟨q1, q2, q3⟩, q4, q5, q6⟩ := part_nums hp
  obtain ⟨⟨f1, f2, f3⟩, ⟨f4, f5, f6⟩, ⟨f7, f8, f9⟩⟩ := hf
  have k1 := De.pick_in (i := 3 * t) f2 hl
  have k2 := De.pick_in (i := 3 * t + 1) f5 hl
  have k3 := De.pick_in (i := 3 * t + 2) f8 hl
  unfold InI
  refine ⟨⟨⟨?_, ?_⟩, ⟨?_, ?_⟩, ⟨?_, ?_⟩⟩, ⟨?_, ?_⟩, ⟨?_, ?_⟩, ⟨?_, ?_⟩⟩ <;> omega
theorem part_R {w : World} {b ty : Nat} {fr : Nat × Nat} {av pv qv : Value} (hv : VehR w (VehV v av pv qv) v) (hb : w.heap[b]? = some (.cells (Phase.cells ⟨1, spZ, x.mass, x.drag, axZ⟩).toArray ty fr)) :
    VehR w (VehV (partV v x) av (.slice (some ⟨b, 0, none⟩) 1 1) (.slice none 0 0)) (partV v x) :=
  hv.re (ps := [⟨1, spZ, x.mass, x.drag, axZ⟩]) (qs := []) (own_rows (els := [Phase.cells ⟨1, spZ, x.mass, x.drag, axZ⟩]) hb rfl (by intro e he; rw [List.mem_singleton.1 he]; rfl) rfl (by decide)) (SliceR.nil w _) (show ((1 : Nat) : Int) ≤ 9223372036854775807 by decide) (by decide) (fun p hp => absurd hp List.not_mem_nil)
theorem row_pt {cur : Array Value} {m k n : Nat} (h : cur.toList.take (m * 6) = ptL (pathQ v d l x sh n)) (hm : m = n) (hk : k < n) : sliceL cur.toList (0 + k * 6) 6 = some (partQ v d l x sh k).cells := by
  rw [← pathQ_at hk]
  exact row_sl (f := Pt.cells) (d := ptZ) h (fun _ => rfl) (by rw [pathQ_len, hm]) (by rw [pathQ_len]; exact hk)
theorem path_R {w : World} {el m n : Nat} {u : Value} {G : Heap} (h : Grow el 6 u m (ptL (pathQ v d l x sh n)) G) (hm : m = n) (hn : n ≤ 3001) (hg : ∀ p ∈ G, w.heap[p.1]? = some p.2) : PtsR w u (pathQ v d l x sh n) :=
  ⟨by rw [pathQ_len]; omega, Grow.rows h (by intro e he; obtain ⟨x, _, rfl⟩ := List.mem_map.1 he; rfl) (by rw [List.length_map, pathQ_len, hm]) hg⟩
end
end Go.Fl
