/- Ytbncegfgjbdheaa: FlightPrefix is proved: for any vehicle, shot, fewer ticks and another phase (no condition) it returns true. -/
import Derived.Test.YtbncegfgjbdheaaRows
import Derived.Test.YtbncegfgjbdheaaZan
import Derived.Test.YtbncegfgjbdheaaZaf
import Derived.Test.YtbncegfgjbdheaaZam
import Derived.ProofKit
set_option linter.all false
namespace Go.Proofs.Ytbncegfgjbdheaa
open Go.Vc Go.Tk Go.Fl Go.ChangeShapes Go.WideShapes Go.ChangeAt Go.RowKit
set_option maxRecDepth 100000
theorem flightPrefixE (v : Veh) (d : Dir) (l : List Fl.Band) (av pv qv bv : Value) (n m y : Int) (hy : 0 ≤ y ∧ y ≤ 65535) (w : World) (hv : VehR w (VehV v av pv qv) v) (hl : BdsR w bv l) (h : flyE v d l n ≠ 0) : FnP Try.prog 6 [VehV v av pv qv, .agg #[.int .i64 d.x, .int .i64 d.y, .int .i64 d.z, bv, .int .i64 n, .int .i64 m], .int .u16 y] w (.bool true) := by
 have hL := hl
 obtain ⟨ba, bc, rfl, hbc, hbe⟩ := hl.sl.ex
 simp only [List.length_map] at hL ⊢
 refine fn_pure Try.func6 rfl (by kernel_rfl) Try.ntmps6 Try.results6 rfl ?_
 refine Vs rfl ?_
 refine Lw rfl (w_box rfl rfl) ?_
 rintro _ _ ⟨b1, hb1, rfl, rfl⟩
 refine Lw rfl (w_box rfl rfl) ?_
 rintro _ _ ⟨b2, hb2, rfl, rfl⟩
 refine La rfl rfl rfl ?_
 refine L_then (kp [2, 3, 4] rfl) ?_
 refine Vs rfl ?_
 refine Lr rfl (rlA (vs := [_, _, _, _, _, _]) ag28 sz28 rfl rfl rfl) ?_
 refine Lp rfl (p_fieldo fo39_0 rfl rfl) ?_
 refine Lr rfl (rlA (vs := [_, _, _]) ag30 sz30 rfl rfl rfl) ?_
 refine Lp rfl (p_fieldo fo39_1 rfl rfl) ?_
 refine Lr rfl (rl ag37 rfl rfl rfl) ?_
 refine Lp rfl (p_fieldo fo39_2 rfl rfl) ?_
 refine Lr rfl (rl ag3 rfl rfl rfl) ?_
 refine Lw rfl (w_callG (pre := [_, _]) rfl rfl rfl rfl (fun w hg => eFly_c v d l av pv qv _ w (hv.good hg) (hL.good hg) n h)) ?_
 rintro _ _ ⟨_, G1, rfl, hfr1, rfl, sv1, rfl, hgr1⟩
 obtain ⟨sa1, sc1, rfl⟩ := Grow.form hgr1
 try simp only [List.cons_append, List.nil_append, List.append_nil]
 refine Lm rfl rfl rfl ?_
 iterate 2 refine Lp rfl (p_ext rfl rfl rfl) ?_
 iterate 2 refine La rfl rfl rfl ?_
 refine L_then (kp [2, 3, 4, 7, 8] rfl) ?_
 refine V_seq ?_
 refine Vs rfl ?_
 refine Lm rfl rfl rfl ?_
 refine Lp rfl (p_neq rfl rfl rfl) ?_
 refine Lm rfl rfl rfl ?_
 iterate 6 refine L_no rfl rfl rfl (decide_eq_true h) ?_
 refine Lp rfl (p_pick_t rfl rfl (decide_eq_true h) rfl) ?_
 refine L_then (kp [2, 3, 4, 7, 8, 40] rfl) ?_
 refine V_cond_t rfl rfl ?_
 refine Vs rfl ?_
 refine Lm rfl rfl rfl ?_
 refine Lp rfl (p_neq rfl rfl rfl) ?_
 refine Lm rfl rfl rfl ?_
 refine L_yes rfl rfl rfl (decide_eq_true h) (X_wr (w_callP rfl rfl rfl (fun w hg => lAwake_c w)) ?_)
 rintro _ _ ⟨rfl, rfl⟩
 refine Lp rfl (p_pick_t rfl rfl (decide_eq_true h) rfl) ?_
 refine La rfl rfl rfl ?_
 refine L_then (kp [6] rfl) ?_
 refine V_ret (then_r ?_)
 refine Leave.nil (.tmp rfl .nil) ?_
 rfl
set_option maxHeartbeats 8000000 in
theorem flightPrefixO (v : Veh) (d : Dir) (l : List Fl.Band) (av pv qv bv : Value) (n m y : Int) (hy : 0 ≤ y ∧ y ≤ 65535) (w : World) (hv : VehR w (VehV v av pv qv) v) (hl : BdsR w bv l) (h : flyE v d l n = 0) : FnP Try.prog 6 [VehV v av pv qv, .agg #[.int .i64 d.x, .int .i64 d.y, .int .i64 d.z, bv, .int .i64 n, .int .i64 m], .int .u16 y] w (.bool true) := by
 have hL := hl
 obtain ⟨ba, bc, rfl, hbc, hbe⟩ := hl.sl.ex
 simp only [List.length_map] at hL ⊢
 have hv0 := hv
 obtain ⟨aa, ac, rfl, _, _⟩ := hv.sl.1.ex
 obtain ⟨pa, pc, rfl, hpc, hpe⟩ := hv.sl.2.1.ex
 obtain ⟨qa, qc, rfl, _, _⟩ := hv.sl.2.2.ex
 simp only [List.length_map] at hpc hv ⊢
 obtain ⟨hA, hn, hfar⟩ := fly_ok h
 have hGV := (asked_good hA).1
 have hp12 := oP_false.1 hGV.ph12
 refine fn_pure Try.func6 rfl (by kernel_rfl) Try.ntmps6 Try.results6 rfl ?_
 refine Vs rfl ?_
 refine Lw rfl (w_box rfl rfl) ?_
 rintro _ _ ⟨b1, hb1, rfl, rfl⟩
 refine Lw rfl (w_box rfl rfl) ?_
 rintro _ _ ⟨b2, hb2, rfl, rfl⟩
 refine La rfl rfl rfl ?_
 refine L_then (kp [2, 3, 4] rfl) ?_
 refine Vs rfl ?_
 refine Lr rfl (rlA (vs := [_, _, _, _, _, _]) ag28 sz28 rfl rfl rfl) ?_
 refine Lp rfl (p_fieldo fo39_0 rfl rfl) ?_
 refine Lr rfl (rlA (vs := [_, _, _]) ag30 sz30 rfl rfl rfl) ?_
 refine Lp rfl (p_fieldo fo39_1 rfl rfl) ?_
 refine Lr rfl (rl ag37 rfl rfl rfl) ?_
 refine Lp rfl (p_fieldo fo39_2 rfl rfl) ?_
 refine Lr rfl (rl ag3 rfl rfl rfl) ?_
 refine Lw rfl (w_callG (pre := [_, _]) rfl rfl rfl rfl (fun w hg => gFly_c v d l _ _ _ _ w (hv.good hg) (hL.good hg) n h)) ?_
 rintro _ _ ⟨_, G1, rfl, hfr1, rfl, sv1, rfl, hgr1⟩
 obtain ⟨sa1, sc1, rfl⟩ := Grow.form hgr1
 obtain ⟨gb1, cur1, rfl, rfl, hcur1, _, _⟩ := Grow.form2 hgr1 (by omega)
 try simp only [List.cons_append, List.nil_append, List.append_nil]
 refine Lm rfl rfl rfl ?_
 iterate 2 refine Lp rfl (p_ext rfl rfl rfl) ?_
 iterate 2 refine La rfl rfl rfl ?_
 refine L_then (kp [2, 3, 4, 7, 8] rfl) ?_
 refine V_seq ?_
 refine Vs rfl ?_
 refine Lm rfl rfl rfl ?_
 refine Lp rfl (p_neq rfl rfl rfl) ?_
 refine Lm rfl rfl rfl ?_
 refine L_yes rfl rfl rfl (by first | rfl | simp | decide) (X_p (p_move rfl rfl) ?_)
 refine L_yes rfl rfl rfl (by first | rfl | simp | decide) (X_p (p_len isl40 rfl rfl) ?_)
 refine L_yes rfl rfl rfl (by first | rfl | simp | decide) (X_p (p_fieldo fo39_2 rfl rfl) ?_)
 refine L_yes rfl rfl rfl (by first | rfl | simp | decide) (X_rd (rl ag3 rfl rfl rfl) ?_)
 first | refine L_yes rfl rfl rfl (by first | rfl | simp | decide) (X_p (p_add' rfl rfl rfl (by unfold InI; omega)) ?_) | refine L_yes rfl rfl rfl (by first | rfl | simp | decide) (X_p (p_add rfl rfl rfl) ?_)
 refine L_yes rfl rfl rfl (by first | rfl | simp | decide) (X_p (p_neq rfl rfl rfl) ?_)
 refine Lp rfl (p_pick_f rfl rfl (by first | rfl | simp | decide) rfl) ?_
 refine L_then (kp [2, 3, 4, 7, 8, 40] rfl) ?_
 refine V_cond_f rfl (decide_eq_false (by omega)) ?_
 refine V_skip (then_n ?_)
 refine Vs rfl ?_
 refine Lm rfl rfl rfl ?_
 refine Lp rfl (p_convI un66 un3 rfl rfl (by unfold InI; omega)) ?_
 refine Lm rfl rfl rfl ?_
 refine Lp rfl (p_len isl40 rfl rfl) ?_
 refine Lp rfl (p_rem rfl rfl rfl (by first | decide | omega)) ?_
 refine La rfl rfl rfl ?_
 obtain ⟨q, hq, hqn⟩ := pre_q (n := n.toNat) hy.1
 rw [hq]
 have hq0 : flyE v d l (q : Int) = 0 := fly_less (N := n.toNat) (by rw [Int.toNat_of_nonneg hn.1]; exact h) hqn
 have htm := top_mono (Fl.stT v d l) (show (q : Int).toNat ≤ n.toNat by omega)
 refine L_then (kp [3, 4, 7, 9] rfl) ?_
 refine Vs rfl ?_
 refine Lr rfl (rlA (vs := [_, _, _, _, _, _]) ag28 sz28 rfl rfl rfl) ?_
 refine Lp rfl (p_fieldo fo39_0 rfl rfl) ?_
 refine Lr rfl (rlA (vs := [_, _, _]) ag30 sz30 rfl rfl rfl) ?_
 refine Lp rfl (p_fieldo fo39_1 rfl rfl) ?_
 refine Lr rfl (rl ag37 rfl rfl rfl) ?_
 refine Lm rfl rfl rfl ?_
 refine Lw rfl (w_callG (pre := [_, _]) rfl rfl rfl rfl (fun w hg => gFly_c v d l _ _ _ _ w (hv.good hg) (hL.good hg) (q : Int) hq0)) ?_
 rintro _ _ ⟨_, G2, rfl, hfr2, rfl, sv2, rfl, hgr2⟩
 obtain ⟨sa2, sc2, rfl⟩ := Grow.form hgr2
 obtain ⟨gb2, cur2, rfl, rfl, hcur2, _, _⟩ := Grow.form2 hgr2 (by omega)
 try simp only [List.cons_append, List.nil_append, List.append_nil]
 refine Lm rfl rfl rfl ?_
 iterate 2 refine Lp rfl (p_ext rfl rfl rfl) ?_
 iterate 2 refine La rfl rfl rfl ?_
 refine L_then (kp [3, 4, 7, 8, 9, 10] rfl) ?_
 refine Vs rfl ?_
 refine Lr rfl (rlA (vs := [_, _, _, _, _, _]) ag28 sz28 rfl rfl rfl) ?_
 refine Lp rfl (p_fieldo fo39_0 rfl rfl) ?_
 refine Lr rfl (rlA (vs := [_, _, _]) ag30 sz30 rfl rfl rfl) ?_
 refine Lp rfl (p_fieldo fo39_1 rfl rfl) ?_
 refine Lr rfl (rl ag37 rfl rfl rfl) ?_
 refine Lm rfl rfl rfl ?_
 refine Lc rfl rfl rfl rfl (fun w hg => gTop_c v d l _ _ _ _ w (hv.good hg) (hL.good hg) (q : Int) hq0) ?_
 refine Lm rfl rfl rfl ?_
 iterate 2 refine Lp rfl (p_ext rfl rfl rfl) ?_
 refine Lw rfl (w_alloc zr23 rfl) ?_
 rintro _ _ ⟨b5, hb5, rfl, rfl⟩
 refine Ls (cs' := [_, _]) rfl sz23 rfl rfl rfl rfl rfl rfl rfl ?_
 refine La rfl rfl rfl ?_
 refine L_then (kp [3, 4, 7, 8, 9, 10, 11, 12] rfl) ?_
 refine Vs rfl ?_
 refine Lr rfl (rlA (vs := [_, _, _, _, _, _]) ag28 sz28 rfl rfl rfl) ?_
 refine Lp rfl (p_fieldo fo39_0 rfl rfl) ?_
 refine Lr rfl (rlA (vs := [_, _, _]) ag30 sz30 rfl rfl rfl) ?_
 refine Lp rfl (p_fieldo fo39_1 rfl rfl) ?_
 refine Lr rfl (rl ag37 rfl rfl rfl) ?_
 refine Lp rfl (p_fieldo fo39_2 rfl rfl) ?_
 refine Lr rfl (rl ag3 rfl rfl rfl) ?_
 refine Lc rfl rfl rfl rfl (fun w hg => gTop_c v d l _ _ _ _ w (hv.good hg) (hL.good hg) n h) ?_
 refine Lm rfl rfl rfl ?_
 iterate 2 refine Lp rfl (p_ext rfl rfl rfl) ?_
 refine Lw rfl (w_alloc zr23 rfl) ?_
 rintro _ _ ⟨b6, hb6, rfl, rfl⟩
 refine Ls (cs' := [_, _]) rfl sz23 rfl rfl rfl rfl rfl rfl rfl ?_
 refine La rfl rfl rfl ?_
 refine L_then (kp [3, 4, 7, 8, 9, 10, 11, 12, 13, 14] rfl) ?_
 refine V_seq ?_
 refine Vs rfl ?_
 refine Lm rfl rfl rfl ?_
 refine Lp rfl (p_neq rfl rfl rfl) ?_
 refine Lm rfl rfl rfl ?_
 refine L_yes rfl rfl rfl (by first | rfl | simp | decide) (X_p (p_move rfl rfl) ?_)
 refine L_yes rfl rfl rfl (by first | rfl | simp | decide) (X_p (p_neq rfl rfl rfl) ?_)
 refine Lp rfl (p_pick_f rfl rfl (by first | rfl | simp | decide) rfl) ?_
 refine Lm rfl rfl rfl ?_
 refine L_yes rfl rfl rfl (by first | rfl | simp | decide) (X_p (p_move rfl rfl) ?_)
 refine L_yes rfl rfl rfl (by first | rfl | simp | decide) (X_p (p_neq rfl rfl rfl) ?_)
 refine Lp rfl (p_pick_f rfl rfl (by first | rfl | simp | decide) rfl) ?_
 refine Lm rfl rfl rfl ?_
 refine L_yes rfl rfl rfl (by first | rfl | simp | decide) (X_p (p_move rfl rfl) ?_)
 refine L_yes rfl rfl rfl (by first | rfl | simp | decide) (X_p (p_len isl40 rfl rfl) ?_)
 refine L_yes rfl rfl rfl (by first | rfl | simp | decide) (X_p (p_move rfl rfl) ?_)
 first | refine L_yes rfl rfl rfl (by first | rfl | simp | decide) (X_p (p_add' rfl rfl rfl (by unfold InI; omega)) ?_) | refine L_yes rfl rfl rfl (by first | rfl | simp | decide) (X_p (p_add rfl rfl rfl) ?_)
 refine L_yes rfl rfl rfl (by first | rfl | simp | decide) (X_p (p_neq rfl rfl rfl) ?_)
 refine Lp rfl (p_pick_f rfl rfl (by first | rfl | simp | decide) rfl) ?_
 refine Lm rfl rfl rfl ?_
 refine L_yes rfl rfl rfl (decide_eq_false (by omega)) (X_p (p_fieldo fo23_0 rfl rfl) ?_)
 refine L_yes rfl rfl rfl (decide_eq_false (by omega)) (X_rd (rl ag3 rfl rfl rfl) ?_)
 refine L_yes rfl rfl rfl (decide_eq_false (by omega)) (X_p (p_fieldo fo23_0 rfl rfl) ?_)
 refine L_yes rfl rfl rfl (decide_eq_false (by omega)) (X_rd (rl ag3 rfl rfl rfl) ?_)
 refine L_yes rfl rfl rfl (decide_eq_false (by omega)) (X_p (p_gtr rfl rfl rfl) ?_)
 refine Lp rfl (p_pick_f rfl rfl (decide_eq_false (by omega)) rfl) ?_
 refine Lm rfl rfl rfl ?_
 refine L_cases (d := 106) rfl ?_ ?_
 ·intro g1; have g1' := g1; try simp only [td] at g1'
  exfalso; omega
 intro g1; have g1' := g1; try simp only [td] at g1'
 refine L_yes rfl rfl rfl g1 (X_p (p_fieldo fo23_1 rfl rfl) ?_)
 refine L_yes rfl rfl rfl g1 (X_rd (rl ag3 rfl rfl rfl) ?_)
 refine L_yes rfl rfl rfl g1 (X_p (p_fieldo fo23_1 rfl rfl) ?_)
 refine L_yes rfl rfl rfl g1 (X_rd (rl ag3 rfl rfl rfl) ?_)
 refine L_yes rfl rfl rfl g1 (X_p (p_gtr rfl rfl rfl) ?_)
 refine Lp rfl (p_pick_f rfl rfl g1 rfl) ?_
 refine L_then (kp [3, 4, 7, 9, 10, 112] rfl) ?_
 refine V_cond rfl ?_ ?_
 ·intro c1; try simp only [td] at c1
  exfalso; omega
 intro c1; try simp only [td] at c1
 refine V_skip (then_n ?_)
 refine Vs rfl ?_
 refine Lr rfl (rlA (vs := [_, _, _, _, _, _]) ag28 sz28 rfl rfl rfl) ?_
 refine Lw rfl (w_alloc zr28 rfl) ?_
 rintro _ _ ⟨b7, hb7, rfl, rfl⟩
 refine Ls (cs' := [_, _, _, _, _, _]) rfl sz28 rfl rfl rfl rfl rfl rfl rfl ?_
 refine L_then (kp [3, 4, 7, 9, 10, 15] rfl) ?_
 refine Vs rfl ?_
 refine Lp rfl (p_fieldo fo28_3 rfl rfl) ?_
 refine Ls (cs' := [_, _, _, _, _, _]) rfl sz25 rfl rfl rfl rfl rfl rfl rfl ?_
 refine L_then (kp [3, 4, 7, 9, 10, 15] rfl) ?_
 refine Vs rfl ?_
 refine La rfl rfl rfl ?_
 refine L_then (kp [3, 4, 7, 9, 10, 15, 16] rfl) ?_
 refine V_seq ?_
 refine Vs rfl ?_
 refine La rfl rfl rfl ?_
 refine L_then (kp [3, 4, 7, 9, 10, 15, 16, 17] rfl) ?_
 refine V_midT (γ := Nat × Int × Value × Heap) (kp [3, 4, 7, 9, 10, 15] rfl) (fun (k, bb, sv, GP) => [(16, .int .i64 bb)]) (fun (k, bb, sv, GP) => (b7, .cells #[.string v.name, .int .i64 v.gravity.lo, .int .i64 v.gravity.hi, .slice aa v.air.length ac, sv, .slice qa v.pieces.length qc] 28) :: (b6, .cells #[.int .i64 (topS (rowS (Fl.stT v d l) n.toNat)).lo, .int .i64 (topS (rowS (Fl.stT v d l) n.toNat)).hi] 23) :: (b5, .cells #[.int .i64 (topS (rowS (Fl.stT v d l) q)).lo, .int .i64 (topS (rowS (Fl.stT v d l) q)).hi] 23) :: (b2, .cells #[.int .i64 d.x, .int .i64 d.y, .int .i64 d.z, .slice ba l.length bc, .int .i64 n, .int .i64 m] 39) :: (b1, .cells #[.string v.name, .int .i64 v.gravity.lo, .int .i64 v.gravity.hi, .slice aa v.air.length ac, .slice pa v.phases.length pc, .slice qa v.pieces.length qc] 28) :: (GP ++ [(gb2, .cells cur2 54), (gb1, .cells cur1 54)])) (fun (k, bb, sv, GP) => bb = begT v k ∧ k ≤ v.phases.length ∧ (k = v.phases.length ∨ (q : Int) ≤ begT v k) ∧ Grow 46 13 sv k (phL (v.phases.take k)) GP) ?_ ?_
 ·refine V_block ?_
  refine V_loop1 (γ := Int × Int × Value × Heap) (kp [3, 4, 7, 9, 10, 15] rfl) (fun (k, bb, sv, GP) => [(17, .int .i64 k), (16, .int .i64 bb)]) (fun (k, bb, sv, GP) => (b7, .cells #[.string v.name, .int .i64 v.gravity.lo, .int .i64 v.gravity.hi, .slice aa v.air.length ac, sv, .slice qa v.pieces.length qc] 28) :: (b6, .cells #[.int .i64 (topS (rowS (Fl.stT v d l) n.toNat)).lo, .int .i64 (topS (rowS (Fl.stT v d l) n.toNat)).hi] 23) :: (b5, .cells #[.int .i64 (topS (rowS (Fl.stT v d l) q)).lo, .int .i64 (topS (rowS (Fl.stT v d l) q)).hi] 23) :: (b2, .cells #[.int .i64 d.x, .int .i64 d.y, .int .i64 d.z, .slice ba l.length bc, .int .i64 n, .int .i64 m] 39) :: (b1, .cells #[.string v.name, .int .i64 v.gravity.lo, .int .i64 v.gravity.hi, .slice aa v.air.length ac, .slice pa v.phases.length pc, .slice qa v.pieces.length qc] 28) :: (GP ++ [(gb2, .cells cur2 54), (gb1, .cells cur1 54)])) (fun (k, bb, sv, GP) => 0 ≤ k ∧ k ≤ v.phases.length ∧ bb = begT v k.toNat ∧ Grow 46 13 sv k.toNat (phL (v.phases.take k.toNat)) GP) (fun (k, bb, sv, GP) => (v.phases.length - k).toNat) ((0, 0, .slice none 0 0, [])) (.cons rfl (.cons rfl (.nil _))) (by repeat (first | exact List.nil_sublist _ | exact List.Sublist.refl _ | apply List.Sublist.cons_cons | apply List.Sublist.cons)) (⟨by omega, by omega, rfl, .nil⟩) ?_
  rintro ⟨k, bb, sv, GP⟩ hi
  obtain ⟨hk0, hk1, hbb, hgp⟩ := hi
  dsimp only at hk0 hk1 hbb hgp ⊢
  obtain ⟨sap, scp, rfl⟩ := Grow.form hgp
  have hbt := begT_le hGV k.toNat (by omega)
  refine V_seq ?_
  refine Vs rfl ?_
  refine Lm rfl rfl rfl ?_
  refine Lp rfl (p_fieldo fo28_3 rfl rfl) ?_
  refine Lr rfl (rl ag25 rfl rfl rfl) ?_
  refine Lp rfl (p_len isl25 rfl rfl) ?_
  refine Lp rfl (p_lss rfl rfl rfl) ?_
  refine Lm rfl rfl rfl ?_
  refine L_cases (d := 120) rfl ?_ ?_
  ·intro g2; have g2' := g2; try simp only [td] at g2'
   refine L_yes rfl rfl rfl g2 (X_p (p_move rfl rfl) ?_)
   refine L_yes rfl rfl rfl g2 (X_p (p_move rfl rfl) ?_)
   refine L_yes rfl rfl rfl g2 (X_p (p_lss rfl rfl rfl) ?_)
   refine Lp rfl (p_pick_t rfl rfl g2 rfl) ?_
   refine L_then (kp [3, 4, 7, 9, 10, 15, 16, 17, 124] rfl) ?_
   refine V_cond rfl ?_ ?_
   ·intro c2; try simp only [td] at c2
    obtain ⟨tb, etb, hc⟩ := hpe k.toNat _ (getD_cells (d := phZ) (by omega))
    subst etb
    have hph9 := (ph_zero (hGV.ph k.toNat (by omega))).1
    simp only [Veh.ph] at hph9
    refine V_skip (then_n ?_)
    refine V_seq ?_
    refine V_block ?_
    refine V_seq (V_draw (.rd 0 (.rd 1 (.rd 2 (.rd 3 (.rd 4 (.rd 5 (.rd 6 (.wr 7 [5, 4, 3, 2, 1, 0] (.wr 8 [6, 5, 4, 3, 2, 0] (.rd 9 (.wr 10 [] .done))))))))))) mixed (by kernel_rfl) rfl ?_)
    refine Dp rfl rfl (p_fieldo fo28_3 rfl rfl) ?_
    refine Dr rfl rfl (rl ag25 rfl rfl rfl) ?_
    refine Dp rfl rfl (p_fieldo fo28_3 rfl rfl) ?_
    refine Dr rfl rfl (rl ag25 rfl rfl rfl) ?_
    refine Dm rfl rfl rfl rfl ?_
    refine Dp rfl rfl (p_idx es25 rfl rfl rfl (by omega) (by omega)) ?_
    refine Dr rfl rfl (r_loadBA ag46 sz46 rfl rfl hc rfl List.not_mem_nil) ?_
    refine D_wr (.go (E' := [(3, _), (1, _)]) rfl (.plain rfl) (w_slice (r := [_, _, _, _, _, _, _, _, _, _, _, _, _]) un25 sz46 zr46 rfl (by decide) rfl (by decide) rfl rfl) rfl ?_)
    rintro _ _ ⟨b8, hb8, rfl, rfl⟩
    refine ⟨(.cons rfl (.plain rfl) (rl ag25 rfl rfl rfl) (.cons rfl (.plain rfl) (rl ag25 rfl rfl rfl) .nil)), ?_⟩
    refine D_wr (.go (E' := [(3, _)]) rfl (.plain rfl) (w_app (pre := [_, _, _, _, _, _]) (G := GP) ap25 rfl rfl rfl hgp rfl rfl (news_own (by repeat first | exact mH | apply mT | apply List.mem_append_right)) (by intro u hu; simp only [Phase.cells, List.mem_cons, List.not_mem_nil, or_false] at hu; rcases hu with rfl | rfl | rfl | rfl | rfl | rfl | rfl | rfl | rfl | rfl | rfl | rfl | rfl <;> rfl) (by omega) (by simp only [maxLen]; omega)) rfl ?_)
    rintro _ _ ⟨GP2a, GP2c, GP2, rfl, rfl, hgp2⟩
    try simp only [List.cons_append, List.nil_append, List.append_nil]
    refine ⟨(.cons rfl (.plain rfl) (rl ag25 rfl rfl rfl) .nil), ?_⟩
    refine Dp rfl rfl (p_fieldo fo28_3 rfl rfl) ?_
    refine D_wr (.go (E' := []) rfl (.plain rfl) (ws (cs' := [_, _, _, _, _, _]) sz25 rfl rfl rfl rfl rfl rfl rfl) rfl ?_)
    rintro _ _ ⟨rfl, rfl⟩
    refine ⟨.nil, ?_⟩
    refine D_then (kp [3, 4, 7, 9, 10, 15, 16, 17] rfl) ?_
    refine V_region rfl ?_
    refine Lm rfl rfl rfl ?_
    refine Lp rfl (p_fieldo fo28_3 rfl rfl) ?_
    refine Lr rfl (rl ag25 rfl rfl rfl) ?_
    refine Lm rfl rfl rfl ?_
    refine Lp rfl (p_idx es25 rfl rfl rfl (by omega) (by omega)) ?_
    refine Lp rfl (p_field fo46_0 rfl rfl) ?_
    refine Lr rfl (r_loadB ag3 rfl rfl (hc 0 _ rfl) List.not_mem_nil) ?_
    refine Lp rfl (p_max rfl rfl rfl) ?_
    first | refine Lp rfl (p_add' rfl rfl rfl (by unfold InI; omega)) ?_ | refine Lp rfl (p_add rfl rfl rfl) ?_
    refine La rfl rfl rfl ?_
    refine L_keep (kp [3, 4, 7, 9, 10, 15, 16, 17] rfl) (blk_n (then_n ?_))
    refine V_region rfl ?_
    refine Lm rfl rfl rfl ?_
    first | refine Lp rfl (p_add' rfl rfl rfl (by unfold InI; omega)) ?_ | refine Lp rfl (p_add rfl rfl rfl) ?_
    refine La rfl rfl rfl ?_
    refine L_keep (kp [3, 4, 7, 9, 10, 15, 16, 17] rfl) (then_n ?_)
    refine ⟨(k + 1, _, _, GP2), ?_, ?_, (.cons rfl (.cons rfl (.cons rfl (.cons rfl (.cons rfl (.cons rfl (.cons rfl (.cons rfl (.nil _))))))))), (by repeat (first | exact List.nil_sublist _ | exact List.Sublist.refl _ | apply List.Sublist.cons_cons | apply List.Sublist.cons | apply List.sublist_append_of_sublist_right)), rfl⟩
    ·have ek : (k + 1).toNat = k.toNat + 1 := by omega
     refine ⟨by omega, by omega, by rw [ek, begT, hbb]; rfl, ?_⟩
     rw [ek, take_succ_getD phZ v.phases (by omega), phL_s]; exact hgp2
    dsimp only; omega
   intro c2; try simp only [td] at c2
   refine V_exit (then_e (then_e (blk_e rfl (then_n ?_))))
   refine ⟨(k.toNat, _, _, GP), ?_, (.cons rfl (.cons rfl (.cons rfl (.cons rfl (.cons rfl (.cons rfl (.cons rfl (.nil _)))))))), (by (try dsimp only); repeat (first | exact HSub.nil _ | refine HSub.take (by repeat first | exact Take.head | apply Take.tail) ?_ | exact HSub.refl _ | refine HSub.drop ?_ | refine HSub.app ?_)), rfl⟩
   exact ⟨hbb, by dsimp only; omega, by dsimp only; omega, hgp⟩
  intro g2; have g2' := g2; try simp only [td] at g2'
  iterate 3 refine L_no rfl rfl rfl g2 ?_
  refine Lp rfl (p_pick_f rfl rfl g2 rfl) ?_
  refine L_then (kp [3, 4, 7, 9, 10, 15, 16, 17, 124] rfl) ?_
  refine V_cond_f rfl rfl ?_
  refine V_exit (then_e (then_e (blk_e rfl (then_n ?_))))
  refine ⟨(k.toNat, _, _, GP), ?_, (.cons rfl (.cons rfl (.cons rfl (.cons rfl (.cons rfl (.cons rfl (.cons rfl (.nil _)))))))), (by (try dsimp only); repeat (first | exact HSub.nil _ | refine HSub.take (by repeat first | exact Take.head | apply Take.tail) ?_ | exact HSub.refl _ | refine HSub.drop ?_ | refine HSub.app ?_)), rfl⟩
  exact ⟨hbb, by dsimp only; omega, by dsimp only; omega, hgp⟩
 rintro ⟨k, bb, sv, GP⟩ hm
 obtain ⟨hbb, hkl, hkq, hgp⟩ := hm
 dsimp only at hbb hkl hkq hgp ⊢
 obtain ⟨sap, scp, rfl⟩ := Grow.form hgp
 have hbt := begT_le hGV k hkl
 refine V_seq ?_
 refine Vs rfl ?_
 iterate 2 refine Lm rfl rfl rfl ?_
 refine Lp rfl (p_lss rfl rfl rfl) ?_
 refine Lm rfl rfl rfl ?_
 refine L_cases (d := 149) rfl ?_ ?_
 ·intro g3; have g3' := g3; try simp only [td] at g3'
  iterate 4 refine L_no rfl rfl rfl g3 ?_
  refine Lp rfl (p_pick_t rfl rfl g3 rfl) ?_
  refine L_then (kp [3, 4, 7, 9, 10, 15, 154] rfl) ?_
  refine V_cond_t rfl rfl ?_
  refine V_region rfl ?_
  refine Lp rfl (p_fieldo fo28_3 rfl rfl) ?_
  refine Lr rfl (rl ag25 rfl rfl rfl) ?_
  refine Lp rfl (p_fieldo fo28_3 rfl rfl) ?_
  refine Ls (cs' := [_, _, _, _, _, _]) rfl sz25 rfl rfl rfl rfl rfl rfl rfl ?_
  refine L_then (kp [4, 7, 9, 10, 15] rfl) ?_
  refine Vs rfl ?_
  refine Lr rfl (rlA (vs := [_, _, _, _, _, _]) ag28 sz28 rfl rfl rfl) ?_
  refine Lp rfl (p_fieldo fo39_0 rfl rfl) ?_
  refine Lr rfl (rlA (vs := [_, _, _]) ag30 sz30 rfl rfl rfl) ?_
  refine Lp rfl (p_fieldo fo39_1 rfl rfl) ?_
  refine Lr rfl (rl ag37 rfl rfl rfl) ?_
  refine Lm rfl rfl rfl ?_
  refine Lw rfl (w_callG (pre := [_, _, _, _, _]) rfl rfl rfl rfl (fun w hg => gFly_c v d l _ _ _ _ w (hv.good hg) (hL.good hg) (q : Int) hq0)) ?_
  rintro _ _ ⟨_, G3, rfl, hfr3, rfl, sv3, rfl, hgr3⟩
  obtain ⟨sa3, sc3, rfl⟩ := Grow.form hgr3
  obtain ⟨gb3, cur3, rfl, rfl, hcur3, _, _⟩ := Grow.form2 hgr3 (by omega)
  try simp only [List.cons_append, List.nil_append, List.append_nil]
  refine Lm rfl rfl rfl ?_
  iterate 2 refine Lp rfl (p_ext rfl rfl rfl) ?_
  iterate 2 refine La rfl rfl rfl ?_
  refine L_then (kp [7, 8, 9, 10, 18] rfl) ?_
  refine V_seq ?_
  refine Vs rfl ?_
  refine Lm rfl rfl rfl ?_
  refine Lp rfl (p_neq rfl rfl rfl) ?_
  refine Lm rfl rfl rfl ?_
  refine L_yes rfl rfl rfl (by first | rfl | simp | decide) (X_p (p_move rfl rfl) ?_)
  refine L_yes rfl rfl rfl (by first | rfl | simp | decide) (X_p (p_len isl40 rfl rfl) ?_)
  refine L_yes rfl rfl rfl (by first | rfl | simp | decide) (X_p (p_move rfl rfl) ?_)
  first | refine L_yes rfl rfl rfl (by first | rfl | simp | decide) (X_p (p_add' rfl rfl rfl (by unfold InI; omega)) ?_) | refine L_yes rfl rfl rfl (by first | rfl | simp | decide) (X_p (p_add rfl rfl rfl) ?_)
  refine L_yes rfl rfl rfl (by first | rfl | simp | decide) (X_p (p_neq rfl rfl rfl) ?_)
  refine Lp rfl (p_pick_f rfl rfl (by first | rfl | simp | decide) rfl) ?_
  refine L_then (kp [7, 9, 10, 18, 184] rfl) ?_
  refine V_cond_f rfl (decide_eq_false (by omega)) ?_
  refine V_skip (then_n ?_)
  refine V_seq ?_
  refine Vs rfl ?_
  refine La rfl rfl rfl ?_
  refine L_then (kp [7, 9, 10, 18, 19] rfl) ?_
  refine V_block ?_
  refine V_loop0 (γ := Int) (kp [7, 9, 10, 18] rfl) (fun k => [(19, .int .i64 k)]) (fun k => 0 ≤ k ∧ k ≤ q + 1) (fun k => (q + 1 - k).toNat) (0) (.cons rfl (.nil _)) (⟨by omega, by omega⟩) ?_
  rintro k hi
  obtain ⟨hk0, hk1⟩ := hi
  refine V_seq ?_
  refine Vs rfl ?_
  iterate 2 refine Lm rfl rfl rfl ?_
  refine Lp rfl (p_leq rfl rfl rfl) ?_
  refine L_then (kp [7, 9, 10, 18, 19, 187] rfl) ?_
  refine V_cond rfl ?_ ?_
  ·intro c3; try simp only [td] at c3
   refine V_skip (then_n ?_)
   refine V_seq ?_
   refine V_block ?_
   refine V_seq (V_draw (.rd 0 (.rd 1 (.rd 2 (.rd 3 (.rd 4 (.rd 5 (.rd 6 (.rd 7 (.rd 8 (.rd 9 (.rd 10 (.rd 11 (.rd 12 (.rd 13 (.rd 14 (.rd 15 (.rd 16 (.rd 17 (.rd 18 (.rd 19 .done)))))))))))))))))))) mixed (by kernel_rfl) rfl ?_)
   iterate 2 refine Dm rfl rfl rfl rfl ?_
   refine Dp rfl rfl (p_idxo es40 rfl rfl rfl (by omega) (by omega)) ?_
   refine Dr rfl rfl (r_loadA (vs := St.cells ((Fl.stT v d l) k.toNat)) ag54 sz54 rfl rfl (by repeat first | exact mH | apply mT | apply List.mem_append_right) (row_st hcur2 (by omega) (by omega))) ?_
   iterate 2 refine Dm rfl rfl rfl rfl ?_
   refine Dp rfl rfl (p_idxo es40 rfl rfl rfl (by omega) (by omega)) ?_
   refine Dr rfl rfl (r_loadA (vs := St.cells ((Fl.stT v d l) k.toNat)) ag54 sz54 rfl rfl (by repeat first | exact mH | apply mT | apply List.mem_append_right) (row_st hcur1 (by omega) (by omega))) ?_
   refine Dp rfl rfl (p_neS lv54 ag54 eg54 rfl rfl rfl rfl rfl) ?_
   refine Dm rfl rfl rfl rfl ?_
   iterate 2 refine D_p rfl (.yes rfl rfl rfl (st_ne _)) (p_move rfl rfl) ?_
   refine D_p rfl (.yes rfl rfl rfl (st_ne _)) (p_idxo es40 rfl rfl rfl (by omega) (by omega)) ?_
   refine D_rd rfl (.yes rfl rfl rfl (st_ne _)) (r_loadA (vs := St.cells ((Fl.stT v d l) k.toNat)) ag54 sz54 rfl rfl (by repeat first | exact mH | apply mT | apply List.mem_append_right) (row_st hcur3 (by omega) (by omega))) ?_
   iterate 2 refine D_p rfl (.yes rfl rfl rfl (st_ne _)) (p_move rfl rfl) ?_
   refine D_p rfl (.yes rfl rfl rfl (st_ne _)) (p_idxo es40 rfl rfl rfl (by omega) (by omega)) ?_
   refine D_rd rfl (.yes rfl rfl rfl (st_ne _)) (r_loadA (vs := St.cells ((Fl.stT v d l) k.toNat)) ag54 sz54 rfl rfl (by repeat first | exact mH | apply mT | apply List.mem_append_right) (row_st hcur1 (by omega) (by omega))) ?_
   refine D_p rfl (.yes rfl rfl rfl (st_ne _)) (p_neS lv54 ag54 eg54 rfl rfl rfl rfl rfl) ?_
   refine Dp rfl rfl (p_pick_f rfl rfl (st_ne _) rfl) ?_
   refine D_then (kp [7, 9, 10, 18, 19, 209] rfl) ?_
   refine V_cond_f rfl (st_ne _) ?_
   refine V_skip (blk_n (then_n ?_))
   refine V_region rfl ?_
   refine Lm rfl rfl rfl ?_
   first | refine Lp rfl (p_add' rfl rfl rfl (by unfold InI; omega)) ?_ | refine Lp rfl (p_add rfl rfl rfl) ?_
   refine La rfl rfl rfl ?_
   refine L_keep (kp [7, 9, 10, 18, 19] rfl) (then_n ?_)
   refine ⟨k + 1, ?_, ?_, (.cons rfl (.cons rfl (.cons rfl (.cons rfl (.cons rfl (.nil _)))))), (by repeat (first | exact List.nil_sublist _ | exact List.Sublist.refl _ | apply List.Sublist.cons_cons | apply List.Sublist.cons | apply List.sublist_append_of_sublist_right)), rfl⟩
   ·exact ⟨by omega, by omega⟩
   omega
  intro c3; try simp only [td] at c3
  refine V_exit (then_e (then_e (blk_e rfl (then_n ?_))))
  refine Vs rfl ?_
  refine Lc rfl rfl rfl rfl (fun w hg => lAwake_c w) ?_
  refine La rfl rfl rfl ?_
  refine L_then (kp [6] rfl) ?_
  refine V_ret ?_
  refine Leave.nil (.tmp rfl .nil) ?_
  rfl
 intro g3; have g3' := g3; try simp only [td] at g3'
 refine L_yes rfl rfl rfl g3 (X_p (p_fieldo fo28_3 rfl rfl) ?_)
 refine L_yes rfl rfl rfl g3 (X_rd (rl ag25 rfl rfl rfl) ?_)
 refine L_yes rfl rfl rfl g3 (X_p (p_len isl25 rfl rfl) ?_)
 refine L_yes rfl rfl rfl g3 (X_p (p_geq rfl rfl rfl) ?_)
 refine Lp rfl (p_pick_f rfl rfl g3 rfl) ?_
 refine L_then (kp [3, 4, 7, 9, 10, 15, 154] rfl) ?_
 refine V_cond rfl ?_ ?_
 ·intro c4; try simp only [td] at c4
  refine V_region rfl ?_
  refine Lp rfl (p_fieldo fo28_3 rfl rfl) ?_
  refine Lr rfl (rl ag25 rfl rfl rfl) ?_
  refine Lp rfl (p_fieldo fo28_3 rfl rfl) ?_
  refine Ls (cs' := [_, _, _, _, _, _]) rfl sz25 rfl rfl rfl rfl rfl rfl rfl ?_
  refine L_then (kp [4, 7, 9, 10, 15] rfl) ?_
  refine Vs rfl ?_
  refine Lr rfl (rlA (vs := [_, _, _, _, _, _]) ag28 sz28 rfl rfl rfl) ?_
  refine Lp rfl (p_fieldo fo39_0 rfl rfl) ?_
  refine Lr rfl (rlA (vs := [_, _, _]) ag30 sz30 rfl rfl rfl) ?_
  refine Lp rfl (p_fieldo fo39_1 rfl rfl) ?_
  refine Lr rfl (rl ag37 rfl rfl rfl) ?_
  refine Lm rfl rfl rfl ?_
  refine Lw rfl (w_callG (pre := [_, _, _, _, _]) rfl rfl rfl rfl (fun w hg => gFly_c v d l _ _ _ _ w (hv.good hg) (hL.good hg) (q : Int) hq0)) ?_
  rintro _ _ ⟨_, G3, rfl, hfr3, rfl, sv3, rfl, hgr3⟩
  obtain ⟨sa3, sc3, rfl⟩ := Grow.form hgr3
  obtain ⟨gb3, cur3, rfl, rfl, hcur3, _, _⟩ := Grow.form2 hgr3 (by omega)
  try simp only [List.cons_append, List.nil_append, List.append_nil]
  refine Lm rfl rfl rfl ?_
  iterate 2 refine Lp rfl (p_ext rfl rfl rfl) ?_
  iterate 2 refine La rfl rfl rfl ?_
  refine L_then (kp [7, 8, 9, 10, 18] rfl) ?_
  refine V_seq ?_
  refine Vs rfl ?_
  refine Lm rfl rfl rfl ?_
  refine Lp rfl (p_neq rfl rfl rfl) ?_
  refine Lm rfl rfl rfl ?_
  refine L_yes rfl rfl rfl (by first | rfl | simp | decide) (X_p (p_move rfl rfl) ?_)
  refine L_yes rfl rfl rfl (by first | rfl | simp | decide) (X_p (p_len isl40 rfl rfl) ?_)
  refine L_yes rfl rfl rfl (by first | rfl | simp | decide) (X_p (p_move rfl rfl) ?_)
  first | refine L_yes rfl rfl rfl (by first | rfl | simp | decide) (X_p (p_add' rfl rfl rfl (by unfold InI; omega)) ?_) | refine L_yes rfl rfl rfl (by first | rfl | simp | decide) (X_p (p_add rfl rfl rfl) ?_)
  refine L_yes rfl rfl rfl (by first | rfl | simp | decide) (X_p (p_neq rfl rfl rfl) ?_)
  refine Lp rfl (p_pick_f rfl rfl (by first | rfl | simp | decide) rfl) ?_
  refine L_then (kp [7, 9, 10, 18, 184] rfl) ?_
  refine V_cond_f rfl (decide_eq_false (by omega)) ?_
  refine V_skip (then_n ?_)
  refine V_seq ?_
  refine Vs rfl ?_
  refine La rfl rfl rfl ?_
  refine L_then (kp [7, 9, 10, 18, 19] rfl) ?_
  refine V_block ?_
  refine V_loop0 (γ := Int) (kp [7, 9, 10, 18] rfl) (fun k => [(19, .int .i64 k)]) (fun k => 0 ≤ k ∧ k ≤ q + 1) (fun k => (q + 1 - k).toNat) (0) (.cons rfl (.nil _)) (⟨by omega, by omega⟩) ?_
  rintro k hi
  obtain ⟨hk0, hk1⟩ := hi
  refine V_seq ?_
  refine Vs rfl ?_
  iterate 2 refine Lm rfl rfl rfl ?_
  refine Lp rfl (p_leq rfl rfl rfl) ?_
  refine L_then (kp [7, 9, 10, 18, 19, 187] rfl) ?_
  refine V_cond rfl ?_ ?_
  ·intro c5; try simp only [td] at c5
   refine V_skip (then_n ?_)
   refine V_seq ?_
   refine V_block ?_
   refine V_seq (V_draw (.rd 0 (.rd 1 (.rd 2 (.rd 3 (.rd 4 (.rd 5 (.rd 6 (.rd 7 (.rd 8 (.rd 9 (.rd 10 (.rd 11 (.rd 12 (.rd 13 (.rd 14 (.rd 15 (.rd 16 (.rd 17 (.rd 18 (.rd 19 .done)))))))))))))))))))) mixed (by kernel_rfl) rfl ?_)
   iterate 2 refine Dm rfl rfl rfl rfl ?_
   refine Dp rfl rfl (p_idxo es40 rfl rfl rfl (by omega) (by omega)) ?_
   refine Dr rfl rfl (r_loadA (vs := St.cells ((Fl.stT v d l) k.toNat)) ag54 sz54 rfl rfl (by repeat first | exact mH | apply mT | apply List.mem_append_right) (row_st hcur2 (by omega) (by omega))) ?_
   iterate 2 refine Dm rfl rfl rfl rfl ?_
   refine Dp rfl rfl (p_idxo es40 rfl rfl rfl (by omega) (by omega)) ?_
   refine Dr rfl rfl (r_loadA (vs := St.cells ((Fl.stT v d l) k.toNat)) ag54 sz54 rfl rfl (by repeat first | exact mH | apply mT | apply List.mem_append_right) (row_st hcur1 (by omega) (by omega))) ?_
   refine Dp rfl rfl (p_neS lv54 ag54 eg54 rfl rfl rfl rfl rfl) ?_
   refine Dm rfl rfl rfl rfl ?_
   iterate 2 refine D_p rfl (.yes rfl rfl rfl (st_ne _)) (p_move rfl rfl) ?_
   refine D_p rfl (.yes rfl rfl rfl (st_ne _)) (p_idxo es40 rfl rfl rfl (by omega) (by omega)) ?_
   refine D_rd rfl (.yes rfl rfl rfl (st_ne _)) (r_loadA (vs := St.cells ((Fl.stT v d l) k.toNat)) ag54 sz54 rfl rfl (by repeat first | exact mH | apply mT | apply List.mem_append_right) (row_st hcur3 (by omega) (by omega))) ?_
   iterate 2 refine D_p rfl (.yes rfl rfl rfl (st_ne _)) (p_move rfl rfl) ?_
   refine D_p rfl (.yes rfl rfl rfl (st_ne _)) (p_idxo es40 rfl rfl rfl (by omega) (by omega)) ?_
   refine D_rd rfl (.yes rfl rfl rfl (st_ne _)) (r_loadA (vs := St.cells ((Fl.stT v d l) k.toNat)) ag54 sz54 rfl rfl (by repeat first | exact mH | apply mT | apply List.mem_append_right) (row_st hcur1 (by omega) (by omega))) ?_
   refine D_p rfl (.yes rfl rfl rfl (st_ne _)) (p_neS lv54 ag54 eg54 rfl rfl rfl rfl rfl) ?_
   refine Dp rfl rfl (p_pick_f rfl rfl (st_ne _) rfl) ?_
   refine D_then (kp [7, 9, 10, 18, 19, 209] rfl) ?_
   refine V_cond_f rfl (st_ne _) ?_
   refine V_skip (blk_n (then_n ?_))
   refine V_region rfl ?_
   refine Lm rfl rfl rfl ?_
   first | refine Lp rfl (p_add' rfl rfl rfl (by unfold InI; omega)) ?_ | refine Lp rfl (p_add rfl rfl rfl) ?_
   refine La rfl rfl rfl ?_
   refine L_keep (kp [7, 9, 10, 18, 19] rfl) (then_n ?_)
   refine ⟨k + 1, ?_, ?_, (.cons rfl (.cons rfl (.cons rfl (.cons rfl (.cons rfl (.nil _)))))), (by repeat (first | exact List.nil_sublist _ | exact List.Sublist.refl _ | apply List.Sublist.cons_cons | apply List.Sublist.cons | apply List.sublist_append_of_sublist_right)), rfl⟩
   ·exact ⟨by omega, by omega⟩
   omega
  intro c5; try simp only [td] at c5
  refine V_exit (then_e (then_e (blk_e rfl (then_n ?_))))
  refine Vs rfl ?_
  refine Lc rfl rfl rfl rfl (fun w hg => lAwake_c w) ?_
  refine La rfl rfl rfl ?_
  refine L_then (kp [6] rfl) ?_
  refine V_ret ?_
  refine Leave.nil (.tmp rfl .nil) ?_
  rfl
 intro c4; try simp only [td] at c4
 have hkq : (q : Int) ≤ begT v k := by omega
 have hk12 : k < 12 := by omega
 have hq9 : flyE (morePh v k exX) d l (q : Int) = 0 := (more_fly (N := n.toNat) (by rw [Int.toNat_of_nonneg hn.1]; exact h) hqn hkl hk12 exX_ok hkq).1
 have e3 : rowS (Fl.stT (morePh v k exX) d l) (q : Int).toNat = rowS (Fl.stT v d l) (q : Int).toNat := rowS_congr (fun j hj => more_run hGV hkl hkq d l j hj)
 refine V_draw (.rd 0 (.rd 1 (.wr 2 [1, 0] (.wr 3 [1, 0] (.rd 4 (.wr 5 [1, 0] (.wr 6 [4, 0] (.rd 7 (.wr 8 [] .done))))))))) mixed (by kernel_rfl) rfl ?_
 refine Dp rfl rfl (p_fieldo fo28_3 rfl rfl) ?_
 refine Dr rfl rfl (rl ag25 rfl rfl rfl) ?_
 refine D_wr (.go (E' := [(1, _)]) rfl (.plain rfl) (w_callP rfl rfl rfl (fun w hg => lspan_c _ _ w)) rfl ?_)
 rintro _ _ ⟨rfl, rfl⟩
 refine ⟨(.cons rfl (.plain rfl) (rl ag25 rfl rfl rfl) .nil), ?_⟩
 refine D_wr (.go (E' := [(1, _)]) rfl (.plain rfl) (w_callP rfl rfl rfl (fun w hg => lspan_c _ _ w)) rfl ?_)
 rintro _ _ ⟨rfl, rfl⟩
 refine ⟨(.cons rfl (.plain rfl) (rl ag25 rfl rfl rfl) .nil), ?_⟩
 refine Dp rfl rfl (p_build (r := [_, _, _, _, _, _, _, _, _, _, _, _, _]) pl46 zr46 rfl rfl rfl) ?_
 refine D_wr (.go (E' := [(1, _)]) rfl (.plain rfl) (w_slice (r := [_, _, _, _, _, _, _, _, _, _, _, _, _]) un25 sz46 zr46 rfl (by decide) rfl (by decide) rfl rfl) rfl ?_)
 rintro _ _ ⟨b8, hb8, rfl, rfl⟩
 refine ⟨(.cons rfl (.plain rfl) (rl ag25 rfl rfl rfl) .nil), ?_⟩
 refine D_wr (.go (E' := []) rfl (.plain rfl) (w_app (pre := [_, _, _, _, _, _]) (G := GP) ap25 rfl rfl rfl hgp rfl rfl (news_own (by repeat first | exact mH | apply mT | apply List.mem_append_right)) (by intro u hu; simp only [List.mem_cons, List.not_mem_nil, or_false] at hu; rcases hu with rfl | rfl | rfl | rfl | rfl | rfl | rfl | rfl | rfl | rfl | rfl | rfl | rfl <;> rfl) (by omega) (by simp only [maxLen]; omega)) rfl ?_)
 rintro _ _ ⟨GXa, GXc, GX, rfl, rfl, hgx0⟩
 try simp only [List.cons_append, List.nil_append, List.append_nil]
 refine ⟨.nil, ?_⟩
 have hgx : Grow 46 13 _ _ (phL (v.phases.take k ++ [exX])) GX := (by rw [phL_s]; exact hgx0)
 refine Dp rfl rfl (p_fieldo fo28_3 rfl rfl) ?_
 refine D_wr (.go (E' := []) rfl (.plain rfl) (ws (cs' := [_, _, _, _, _, _]) sz25 rfl rfl rfl rfl rfl rfl rfl) rfl ?_)
 rintro _ _ ⟨rfl, rfl⟩
 refine ⟨.nil, ?_⟩
 refine D_then (kp [4, 7, 9, 10, 15] rfl) ?_
 refine Vs rfl ?_
 refine Lr rfl (rlA (vs := [_, _, _, _, _, _]) ag28 sz28 rfl rfl rfl) ?_
 refine Lp rfl (p_fieldo fo39_0 rfl rfl) ?_
 refine Lr rfl (rlA (vs := [_, _, _]) ag30 sz30 rfl rfl rfl) ?_
 refine Lp rfl (p_fieldo fo39_1 rfl rfl) ?_
 refine Lr rfl (rl ag37 rfl rfl rfl) ?_
 refine Lm rfl rfl rfl ?_
 refine Lw rfl (w_callG (pre := [_, _, _, _, _, _]) rfl rfl rfl rfl (fun w hg => gFly_c (morePh v k exX) d l _ _ _ _ w (VehR.rePh (v := v) (ps := v.phases.take k ++ [exX]) (hv.good hg) hgx (by rw [List.length_append, List.length_take]; simp only [List.length_singleton]; omega) (fun p hp => hg.own p (by repeat first | exact hp | exact List.mem_append_left _ hp | apply List.mem_append_right | apply mT)) (by rw [List.length_append, List.length_take]; simp only [List.length_singleton]; omega)) (hL.good hg) (q : Int) hq9)) ?_
 rintro _ _ ⟨_, G3, rfl, hfr3, rfl, sv3, rfl, hgr3⟩
 rw [e3] at hgr3
 obtain ⟨sa3, sc3, rfl⟩ := Grow.form hgr3
 obtain ⟨gb3, cur3, rfl, rfl, hcur3, _, _⟩ := Grow.form2 hgr3 (by omega)
 try simp only [List.cons_append, List.nil_append, List.append_nil]
 refine Lm rfl rfl rfl ?_
 iterate 2 refine Lp rfl (p_ext rfl rfl rfl) ?_
 iterate 2 refine La rfl rfl rfl ?_
 refine L_then (kp [7, 8, 9, 10, 18] rfl) ?_
 refine V_seq ?_
 refine Vs rfl ?_
 refine Lm rfl rfl rfl ?_
 refine Lp rfl (p_neq rfl rfl rfl) ?_
 refine Lm rfl rfl rfl ?_
 refine L_yes rfl rfl rfl (by first | rfl | simp | decide) (X_p (p_move rfl rfl) ?_)
 refine L_yes rfl rfl rfl (by first | rfl | simp | decide) (X_p (p_len isl40 rfl rfl) ?_)
 refine L_yes rfl rfl rfl (by first | rfl | simp | decide) (X_p (p_move rfl rfl) ?_)
 first | refine L_yes rfl rfl rfl (by first | rfl | simp | decide) (X_p (p_add' rfl rfl rfl (by unfold InI; omega)) ?_) | refine L_yes rfl rfl rfl (by first | rfl | simp | decide) (X_p (p_add rfl rfl rfl) ?_)
 refine L_yes rfl rfl rfl (by first | rfl | simp | decide) (X_p (p_neq rfl rfl rfl) ?_)
 refine Lp rfl (p_pick_f rfl rfl (by first | rfl | simp | decide) rfl) ?_
 refine L_then (kp [7, 9, 10, 18, 184] rfl) ?_
 refine V_cond_f rfl (decide_eq_false (by omega)) ?_
 refine V_skip (then_n ?_)
 refine V_seq ?_
 refine Vs rfl ?_
 refine La rfl rfl rfl ?_
 refine L_then (kp [7, 9, 10, 18, 19] rfl) ?_
 refine V_block ?_
 refine V_loop0 (γ := Int) (kp [7, 9, 10, 18] rfl) (fun k => [(19, .int .i64 k)]) (fun k => 0 ≤ k ∧ k ≤ q + 1) (fun k => (q + 1 - k).toNat) (0) (.cons rfl (.nil _)) (⟨by omega, by omega⟩) ?_
 rintro k hi
 obtain ⟨hk0, hk1⟩ := hi
 refine V_seq ?_
 refine Vs rfl ?_
 iterate 2 refine Lm rfl rfl rfl ?_
 refine Lp rfl (p_leq rfl rfl rfl) ?_
 refine L_then (kp [7, 9, 10, 18, 19, 187] rfl) ?_
 refine V_cond rfl ?_ ?_
 ·intro c6; try simp only [td] at c6
  refine V_skip (then_n ?_)
  refine V_seq ?_
  refine V_block ?_
  refine V_seq (V_draw (.rd 0 (.rd 1 (.rd 2 (.rd 3 (.rd 4 (.rd 5 (.rd 6 (.rd 7 (.rd 8 (.rd 9 (.rd 10 (.rd 11 (.rd 12 (.rd 13 (.rd 14 (.rd 15 (.rd 16 (.rd 17 (.rd 18 (.rd 19 .done)))))))))))))))))))) mixed (by kernel_rfl) rfl ?_)
  iterate 2 refine Dm rfl rfl rfl rfl ?_
  refine Dp rfl rfl (p_idxo es40 rfl rfl rfl (by omega) (by omega)) ?_
  refine Dr rfl rfl (r_loadA (vs := St.cells ((Fl.stT v d l) k.toNat)) ag54 sz54 rfl rfl (by repeat first | exact mH | apply mT | apply List.mem_append_right) (row_st hcur2 (by omega) (by omega))) ?_
  iterate 2 refine Dm rfl rfl rfl rfl ?_
  refine Dp rfl rfl (p_idxo es40 rfl rfl rfl (by omega) (by omega)) ?_
  refine Dr rfl rfl (r_loadA (vs := St.cells ((Fl.stT v d l) k.toNat)) ag54 sz54 rfl rfl (by repeat first | exact mH | apply mT | apply List.mem_append_right) (row_st hcur1 (by omega) (by omega))) ?_
  refine Dp rfl rfl (p_neS lv54 ag54 eg54 rfl rfl rfl rfl rfl) ?_
  refine Dm rfl rfl rfl rfl ?_
  iterate 2 refine D_p rfl (.yes rfl rfl rfl (st_ne _)) (p_move rfl rfl) ?_
  refine D_p rfl (.yes rfl rfl rfl (st_ne _)) (p_idxo es40 rfl rfl rfl (by omega) (by omega)) ?_
  refine D_rd rfl (.yes rfl rfl rfl (st_ne _)) (r_loadA (vs := St.cells ((Fl.stT v d l) k.toNat)) ag54 sz54 rfl rfl (by repeat first | exact mH | apply mT | apply List.mem_append_right) (row_st hcur3 (by omega) (by omega))) ?_
  iterate 2 refine D_p rfl (.yes rfl rfl rfl (st_ne _)) (p_move rfl rfl) ?_
  refine D_p rfl (.yes rfl rfl rfl (st_ne _)) (p_idxo es40 rfl rfl rfl (by omega) (by omega)) ?_
  refine D_rd rfl (.yes rfl rfl rfl (st_ne _)) (r_loadA (vs := St.cells ((Fl.stT v d l) k.toNat)) ag54 sz54 rfl rfl (by repeat first | exact mH | apply mT | apply List.mem_append_right) (row_st hcur1 (by omega) (by omega))) ?_
  refine D_p rfl (.yes rfl rfl rfl (st_ne _)) (p_neS lv54 ag54 eg54 rfl rfl rfl rfl rfl) ?_
  refine Dp rfl rfl (p_pick_f rfl rfl (st_ne _) rfl) ?_
  refine D_then (kp [7, 9, 10, 18, 19, 209] rfl) ?_
  refine V_cond_f rfl (st_ne _) ?_
  refine V_skip (blk_n (then_n ?_))
  refine V_region rfl ?_
  refine Lm rfl rfl rfl ?_
  first | refine Lp rfl (p_add' rfl rfl rfl (by unfold InI; omega)) ?_ | refine Lp rfl (p_add rfl rfl rfl) ?_
  refine La rfl rfl rfl ?_
  refine L_keep (kp [7, 9, 10, 18, 19] rfl) (then_n ?_)
  refine ⟨k + 1, ?_, ?_, (.cons rfl (.cons rfl (.cons rfl (.cons rfl (.cons rfl (.nil _)))))), (by repeat (first | exact List.nil_sublist _ | exact List.Sublist.refl _ | apply List.Sublist.cons_cons | apply List.Sublist.cons | apply List.sublist_append_of_sublist_right)), rfl⟩
  ·exact ⟨by omega, by omega⟩
  omega
 intro c6; try simp only [td] at c6
 refine V_exit (then_e (then_e (blk_e rfl (then_n ?_))))
 refine Vs rfl ?_
 refine Lc rfl rfl rfl rfl (fun w hg => lAwake_c w) ?_
 refine La rfl rfl rfl ?_
 refine L_then (kp [6] rfl) ?_
 refine V_ret ?_
 refine Leave.nil (.tmp rfl .nil) ?_
 rfl
theorem flightPrefix_c (v : Veh) (d : Dir) (l : List Fl.Band) (av pv qv bv : Value) (n m y : Int) (hy : 0 ≤ y ∧ y ≤ 65535) (w : World) (hv : VehR w (VehV v av pv qv) v) (hl : BdsR w bv l) : FnP Try.prog 6 [VehV v av pv qv, .agg #[.int .i64 d.x, .int .i64 d.y, .int .i64 d.z, bv, .int .i64 n, .int .i64 m], .int .u16 y] w (.bool true) := by
 by_cases h : flyE v d l n = 0
 ·exact flightPrefixO v d l av pv qv bv n m y hy w hv hl h
 exact flightPrefixE v d l av pv qv bv n m y hy w hv hl h

theorem own_ : ownKnob Try.prog.godebug = none := by kernel_rfl

theorem flightPrefix_lifted (os : Os) (started : os.Started) (H : Type) (enc : TypeId × Value → H) :
  ReturnsInHanded {} Try.checked os 6 .any (Rows.flightPrefixSpec.pre6 enc Try.prog Try.f6 Rows.flightPrefixRow.domain false) (Rows.flightPrefixSpec.post enc Try.prog Try.f6 false true false false) := by
 refine returnsInHanded_of_change (C := Try.checked) own_ started (by kernel_rfl) Try.func6
  (ChangeSpec.witness6 (enc := enc) (C := Try.checked) false ⟨#[], #[.agg #[.string ByteArray.empty, .int .i64 0, .int .i64 0, .slice none 0 0, .slice none 0 0, .slice none 0 0], .agg #[.int .i64 0, .int .i64 0, .int .i64 0, .slice none 0 0, .int .i64 0, .int .i64 0], .int .u16 0], []⟩ 8 (by kernel_rfl) (by kernel_rfl) (by kernel_rfl) (by kernel_rfl)) ?_
 intro W base args ds gs before hval0 hW hcnd _
 have hval : ∀ (j : Nat) t v, Try.f6.params[j]? = some t → args[j]? = some v → Value.okWide Try.prog W .any base t v := hval0
 have hW' := hW
 obtain ⟨pA, pB, hA0, hV, rfl, _, _⟩ := hW
 have hA : DataW.TrodAll enc Try.prog W 0 (fun _ => true) true Try.f6.params.toList args.toList ds pA := hA0
 clear hA0 hval0
 rw [Try.params6] at hA hval
 obtain ⟨rfl, rfl⟩ := trodVars_none hV
 obtain ⟨v0, vs0, d0, ds0, p0, q0, ea0, rfl, rfl, h0, hA0⟩ := trodAll_cons hA
 obtain ⟨v1, vs1, d1, ds1, p1, q1, ea1, rfl, rfl, h1, hA1⟩ := trodAll_cons hA0
 obtain ⟨v2, vs2, d2, ds2, p2, q2, ea2, rfl, rfl, h2, hA2⟩ := trodAll_cons hA1
 obtain ⟨rfl, rfl, rfl⟩ := trodAll_nil hA2
 subst ea2
 subst ea1
 have ea : args = #[v0, v1, v2] := Array.toList_inj.1 ea0
 subst ea
 have k0 := hval 0 _ v0 rfl rfl
 have k1 := hval 1 _ v1 rfl rfl
 have k2 := hval 2 _ v2 rfl rfl
 obtain ⟨v, hv⟩ := open_veh (P := Try.prog) (by kernel_rfl) k0 h0
 obtain ⟨av, pv, qv, rfl, _⟩ := hv.ex
 obtain ⟨x0, x1, x2, l, lv, n, m, rfl, _, hl⟩ := open_shot (P := Try.prog) (by kernel_rfl) k1 h1
 obtain ⟨y, rfl, hy⟩ := open_u16 (P := Try.prog) (by kernel_rfl) k2 h2
 refine (calls_of (flightPrefix_c v ⟨x0, x1, x2⟩ l av pv qv _ n m y hy W hv hl)).mono ?_
 rintro _ W' ⟨_, rfl, rfl, hE⟩
 exact ⟨_, rfl, post_true hW' rfl hE (by kernel_rfl) (by kernel_rfl) rfl rfl rfl (by kernel_rfl) Try.underlying4⟩

theorem flightPrefix_holds : Rows.FlightPrefixSaid :=
 OpenClaim.holds_of_wide 6 Try.f6 rfl rfl rfl rfl rfl rfl rfl ⟨rfl, rfl, rfl, rfl, rfl⟩ rfl rfl rfl rfl rfl (by kernel_rfl) Try.func6 (by kernel_rfl)
  (of_decide_eq_true (by kernel_rfl)) (by unfold Func.isWrapper; first | (rw [if_pos (by decide +kernel)]; kernel_rfl) | (rw [if_neg (by decide +kernel)]; exact ⟨rfl, rfl⟩))
  (fun os started H enc _ => flightPrefix_lifted os started H enc)
#print axioms flightPrefix_holds

end Go.Proofs.Ytbncegfgjbdheaa
