/- Joined texts. -/
import Derived.Test.YtlcccpeelombbaaGreatDoorZae
import Derived.Test.YtlcccpeelombbaaGreatDoorZaj
import Derived.Test.YtlcccpeelombbaaGreatDoorZag
import Derived.Test.YtlcccpeelombbaaGreatDoorZak
import Derived.Test.YtlcccpeelombbaaGreatDoorZaf
import Derived.Test.YtlcccpeelombbaaGreatDoorZai
/- YtlcccpeelombbaaGreatDoor: plans checked, lines measured. -/
set_option linter.all false
namespace Go.Proofs.YtlcccpeelombbaaGreatDoor
open Go.Vc Go.Tk Go.De
set_option maxRecDepth 100000
theorem dout_c (n lo hi : Int) (w : World) : FnP Tryz.prog 72 [.int .i64 n, .int .i64 lo, .int .i64 hi] w (.bool (oP n lo hi)) := by
 refine fn_pure Tryz.func72 rfl (by kernel_rfl) Tryz.ntmps72 Tryz.results72 rfl ?_
 refine Vs rfl ?_
 refine La rfl rfl rfl ?_
 refine L_then (kp [0, 1, 2] rfl) ?_
 refine Vs rfl ?_
 iterate 2 refine Lm rfl rfl rfl ?_
 refine Lp rfl (p_lss rfl rfl rfl) ?_
 refine Lm rfl rfl rfl ?_
 refine L_cases (d := 10) rfl ?_ ?_
 ·intro g1; have g1' := g1; try simp only [td] at g1'
  iterate 3 refine L_no rfl rfl rfl g1 ?_
  refine Lp rfl (p_pick_t rfl rfl g1 rfl) ?_
  refine La rfl rfl rfl ?_
  refine L_then (kp [6] rfl) ?_
  refine V_ret ?_
  refine Leave.nil (.tmp rfl .nil) ?_
  simp [tup, oP, *]
 intro g1; have g1' := g1; try simp only [td] at g1'
 refine L_yes rfl rfl rfl g1 (X_p (p_move rfl rfl) ?_)
 refine L_yes rfl rfl rfl g1 (X_p (p_move rfl rfl) ?_)
 refine L_yes rfl rfl rfl g1 (X_p (p_gtr rfl rfl rfl) ?_)
 refine Lp rfl (p_pick_f rfl rfl g1 rfl) ?_
 refine La rfl rfl rfl ?_
 refine L_then (kp [6] rfl) ?_
 refine V_ret ?_
 refine Leave.nil (.tmp rfl .nil) ?_
 simp [tup, oP, *]
theorem dsum_c (a b : Span) (h : (-4611686018427387904 ≤ a.lo ∧ a.lo ≤ 4611686018427387903) ∧ (-4611686018427387904 ≤ a.hi ∧ a.hi ≤ 4611686018427387903) ∧ (-4611686018427387904 ≤ b.lo ∧ b.lo ≤ 4611686018427387903) ∧ (-4611686018427387904 ≤ b.hi ∧ b.hi ≤ 4611686018427387903)) (w : World) : FnP Tryz.prog 90 [.agg #[.int .i64 a.lo, .int .i64 a.hi], .agg #[.int .i64 b.lo, .int .i64 b.hi]] w (.agg #[.int .i64 (De.addS a b).lo, .int .i64 (De.addS a b).hi]) := by
 refine fn_pure Tryz.func90 rfl (by kernel_rfl) Tryz.ntmps90 Tryz.results90 rfl ?_
 refine Vs rfl ?_
 refine Lw rfl (w_box rfl rfl) ?_
 rintro _ _ ⟨b1, hb1, rfl, rfl⟩
 refine Lw rfl (w_box rfl rfl) ?_
 rintro _ _ ⟨b2, hb2, rfl, rfl⟩
 refine Lw rfl (w_alloc zr24 rfl) ?_
 rintro _ _ ⟨b3, hb3, rfl, rfl⟩
 refine L_then (kp [2, 3, 4] rfl) ?_
 refine Vs rfl ?_
 refine Lp rfl (p_fieldo fo24_0 rfl rfl) ?_
 refine Lr rfl (rl ag3 rfl rfl rfl) ?_
 refine Lp rfl (p_fieldo fo24_0 rfl rfl) ?_
 refine Lr rfl (rl ag3 rfl rfl rfl) ?_
 first | refine Lp rfl (p_add' rfl rfl rfl (by unfold InI; omega)) ?_ | refine Lp rfl (p_add rfl rfl rfl) ?_
 refine Lp rfl (p_fieldo fo24_1 rfl rfl) ?_
 refine Lr rfl (rl ag3 rfl rfl rfl) ?_
 refine Lp rfl (p_fieldo fo24_1 rfl rfl) ?_
 refine Lr rfl (rl ag3 rfl rfl rfl) ?_
 first | refine Lp rfl (p_add' rfl rfl rfl (by unfold InI; omega)) ?_ | refine Lp rfl (p_add rfl rfl rfl) ?_
 refine Lp rfl (p_build (r := [_, _]) pl24 zr24 rfl rfl rfl) ?_
 refine Ls (cs' := [_, _]) rfl sz24 rfl rfl rfl rfl rfl rfl rfl ?_
 refine L_then (kp [4] rfl) ?_
 refine V_ret ?_
 refine Leave.nil (.cellA (us := [_, _]) rfl ag24 sz24 (by repeat first | exact mH | apply mT) rfl .nil) ?_
 rfl
theorem dhull_c (a b : Span) (w : World) : FnP Tryz.prog 56 [.agg #[.int .i64 a.lo, .int .i64 a.hi], .agg #[.int .i64 b.lo, .int .i64 b.hi]] w (.agg #[.int .i64 (De.hullS a b).lo, .int .i64 (De.hullS a b).hi]) := by
 refine fn_pure Tryz.func56 rfl (by kernel_rfl) Tryz.ntmps56 Tryz.results56 rfl ?_
 refine Vs rfl ?_
 refine Lw rfl (w_box rfl rfl) ?_
 rintro _ _ ⟨b1, hb1, rfl, rfl⟩
 refine Lw rfl (w_box rfl rfl) ?_
 rintro _ _ ⟨b2, hb2, rfl, rfl⟩
 refine Lw rfl (w_alloc zr24 rfl) ?_
 rintro _ _ ⟨b3, hb3, rfl, rfl⟩
 refine L_then (kp [2, 3, 4] rfl) ?_
 refine Vs rfl ?_
 refine Lp rfl (p_fieldo fo24_0 rfl rfl) ?_
 refine Lr rfl (rl ag3 rfl rfl rfl) ?_
 refine Lp rfl (p_fieldo fo24_0 rfl rfl) ?_
 refine Lr rfl (rl ag3 rfl rfl rfl) ?_
 refine Lp rfl (p_min rfl rfl rfl) ?_
 refine Lp rfl (p_fieldo fo24_1 rfl rfl) ?_
 refine Lr rfl (rl ag3 rfl rfl rfl) ?_
 refine Lp rfl (p_fieldo fo24_1 rfl rfl) ?_
 refine Lr rfl (rl ag3 rfl rfl rfl) ?_
 refine Lp rfl (p_max rfl rfl rfl) ?_
 refine Lp rfl (p_build (r := [_, _]) pl24 zr24 rfl rfl rfl) ?_
 refine Ls (cs' := [_, _]) rfl sz24 rfl rfl rfl rfl rfl rfl rfl ?_
 refine L_then (kp [4] rfl) ?_
 refine V_ret ?_
 refine Leave.nil (.cellA (us := [_, _]) rfl ag24 sz24 (by repeat first | exact mH | apply mT) rfl .nil) ?_
 rfl
theorem doff_c (s : Span) (w : World) : FnP Tryz.prog 58 [.agg #[.int .i64 s.lo, .int .i64 s.hi]] w (.bool (offS s)) := by
 refine fn_pure Tryz.func58 rfl (by kernel_rfl) Tryz.ntmps58 Tryz.results58 rfl ?_
 refine Vs rfl ?_
 refine Lw rfl (w_box rfl rfl) ?_
 rintro _ _ ⟨b1, hb1, rfl, rfl⟩
 refine La rfl rfl rfl ?_
 refine L_then (kp [1] rfl) ?_
 refine Vs rfl ?_
 refine Lp rfl (p_fieldo fo24_0 rfl rfl) ?_
 refine Lr rfl (rl ag3 rfl rfl rfl) ?_
 refine Lp rfl (p_fieldo fo24_1 rfl rfl) ?_
 refine Lr rfl (rl ag3 rfl rfl rfl) ?_
 refine Lp rfl (p_gtr rfl rfl rfl) ?_
 refine Lm rfl rfl rfl ?_
 refine L_cases (d := 8) rfl ?_ ?_
 ·intro g1; have g1' := g1; try simp only [td] at g1'
  iterate 3 refine L_no rfl rfl rfl g1 ?_
  refine Lp rfl (p_pick_t rfl rfl g1 rfl) ?_
  refine Lm rfl rfl rfl ?_
  iterate 3 refine L_no rfl rfl rfl rfl ?_
  refine Lp rfl (p_pick_t rfl rfl rfl rfl) ?_
  refine La rfl rfl rfl ?_
  refine L_then (kp [2] rfl) ?_
  refine V_ret ?_
  refine Leave.nil (.tmp rfl .nil) ?_
  simp [tup, offS, *]
 intro g1; have g1' := g1; try simp only [td] at g1'
 refine L_yes rfl rfl rfl g1 (X_p (p_fieldo fo24_0 rfl rfl) ?_)
 refine L_yes rfl rfl rfl g1 (X_rd (rl ag3 rfl rfl rfl) ?_)
 refine L_yes rfl rfl rfl g1 (X_wr (w_callP rfl rfl rfl (fun w hg => dout_c _ _ _ w)) ?_)
 rintro _ _ ⟨rfl, rfl⟩
 refine Lp rfl (p_pick_f rfl rfl g1 rfl) ?_
 refine Lm rfl rfl rfl ?_
 refine L_cases (d := 13) rfl ?_ ?_
 ·intro g2; have g2' := g2; try simp only [td] at g2'
  iterate 3 refine L_no rfl rfl rfl g2 ?_
  refine Lp rfl (p_pick_t rfl rfl g2 rfl) ?_
  refine La rfl rfl rfl ?_
  refine L_then (kp [2] rfl) ?_
  refine V_ret ?_
  refine Leave.nil (.tmp rfl .nil) ?_
  simp [tup, offS, *]
 intro g2; have g2' := g2; try simp only [td] at g2'
 refine L_yes rfl rfl rfl g2 (X_p (p_fieldo fo24_1 rfl rfl) ?_)
 refine L_yes rfl rfl rfl g2 (X_rd (rl ag3 rfl rfl rfl) ?_)
 refine L_yes rfl rfl rfl g2 (X_wr (w_callP rfl rfl rfl (fun w hg => dout_c _ _ _ w)) ?_)
 rintro _ _ ⟨rfl, rfl⟩
 refine Lp rfl (p_pick_f rfl rfl g2 rfl) ?_
 refine La rfl rfl rfl ?_
 refine L_then (kp [2] rfl) ?_
 refine V_ret ?_
 refine Leave.nil (.tmp rfl .nil) ?_
 simp [tup, offS, *]
set_option maxHeartbeats 4000000 in
theorem dcheck_c (p : De.Plan) (pv : Value) (w : World) (hp : PlanR w pv p) : FnP Tryz.prog 52 [pv] w (.tuple #[.int .i64 (De.checkP p).1, .int .i64 (De.checkP p).2.1, .int .i64 (De.checkP p).2.2]) := by
 have hP := hp
 obtain ⟨lv, rfl, hls⟩ := hp.ex
 have hlen := hp.len
 obtain ⟨la, lc, rfl, hlc, hle⟩ := hls.ex
 simp only [List.length_map] at hP hlc ⊢
 refine fn_pure Tryz.func52 rfl (by kernel_rfl) Tryz.ntmps52 Tryz.results52 rfl ?_
 refine Vs rfl ?_
 refine Lw rfl (w_box rfl rfl) ?_
 rintro _ _ ⟨b1, hb1, rfl, rfl⟩
 iterate 3 refine La rfl rfl rfl ?_
 refine L_then (kp [1] rfl) ?_
 refine V_seq ?_
 refine Vs rfl ?_
 refine Lp rfl (p_fieldo fo26_0 rfl rfl) ?_
 refine Lr rfl (rl ag22 rfl rfl rfl) ?_
 refine Lp rfl (p_len isl22 rfl rfl) ?_
 refine Lc rfl rfl rfl rfl (fun w hg => dout_c _ _ _ w) ?_
 refine L_then (kp [1, 10] rfl) ?_
 refine V_cond rfl ?_ ?_
 ·intro c1; try simp only [td] at c1
  refine Vs rfl ?_
  iterate 3 refine La rfl rfl rfl ?_
  refine L_then (kp [2, 3, 4] rfl) ?_
  refine V_ret (then_r ?_)
  refine Leave.nil (.tmp rfl (.tmp rfl (.tmp rfl .nil))) ?_
  first | (rw [checkP_long (by assumption)]; rfl) | (rw [checkP_tail hlo hln (by simp only [tailP, Bool.or_eq_true, Bool.or_eq_false_iff, Bool.false_eq_true, or_true, true_or, or_false, false_or, and_true, true_and, and_self, not_false_eq_true, not_true_eq_false, *])]; rfl) | (rw [checkP_ok hlo hln (by simp only [tailP, Bool.or_eq_true, Bool.or_eq_false_iff, Bool.false_eq_true, or_true, true_or, or_false, false_or, and_true, true_and, and_self, not_false_eq_true, not_true_eq_false, *])]; rfl) | (rw [checkP_ln (k := k) (e := 7) hlo (by omega) (by omega) hkp (by unfold errLn Plan.ln; rw [if_pos (by simp only [Bool.or_eq_true, Bool.or_eq_false_iff, Bool.false_eq_true, or_true, true_or, or_false, false_or, and_true, true_and, and_self, not_false_eq_true, not_true_eq_false, *])]) (by decide)]; rfl) | (rw [checkP_ln (k := k) (e := 2) hlo (by omega) (by omega) hkp (by unfold errLn Plan.ln; rw [if_neg (by rw [g1', g2', g3', c3]; decide), if_pos (by omega)]) (by decide)]; rfl)
 intro c1; try simp only [td] at c1
 have hlo : oP p.lines.length 1 8 = false := by assumption
 refine V_skip (then_n ?_)
 refine V_seq ?_
 refine Vs rfl ?_
 refine Lp rfl (p_fieldo fo26_0 rfl rfl) ?_
 refine Lr rfl (rl ag22 rfl rfl rfl) ?_
 refine Lp rfl (p_len isl22 rfl rfl) ?_
 refine Lm rfl rfl rfl ?_
 refine L_then (kp [1, 12, 13, 14] rfl) ?_
 refine V_block ?_
 refine V_loop0 (γ := Int) (kp [1, 12, 13] rfl) (fun k => [(14, .int .i64 k)]) (fun k => 0 ≤ k ∧ k ≤ p.lines.length ∧ ∀ j : Nat, (j : Int) < k → errLn (p.ln j) = 0) (fun k => (p.lines.length - k).toNat) (0) (.cons rfl (.nil _)) (⟨by omega, by omega, fun j hj => by omega⟩) ?_
 rintro k hi
 obtain ⟨hk0, hk1, hkp⟩ := hi
 refine Vs rfl ?_
 refine Lp rfl (p_lss rfl rfl rfl) ?_
 refine L_then (kp [1, 12, 13, 14, 15] rfl) ?_
 refine V_seq ?_
 refine V_cond rfl ?_ ?_
 ·intro c2; try simp only [td] at c2
  obtain ⟨lb, rfl, hc⟩ := hle k.toNat _ (getD_cells (d := lnZ) (by omega))
  refine V_skip (then_n ?_)
  refine V_seq ?_
  refine V_block ?_
  refine Vs rfl ?_
  refine Lm rfl rfl rfl ?_
  refine Lp rfl (p_idx es22 rfl rfl rfl (by omega) (by omega)) ?_
  refine Lr rfl (r_loadBA ag68 sz68 rfl rfl hc rfl List.not_mem_nil) ?_
  refine Lw rfl (w_alloc zr68 rfl) ?_
  rintro _ _ ⟨b2, hb2, rfl, rfl⟩
  refine La rfl rfl rfl ?_
  refine Ls (cs' := [_, _, _, _]) rfl sz68 rfl rfl rfl rfl rfl rfl rfl ?_
  refine L_then (kp [1, 5, 6, 12, 13, 14] rfl) ?_
  refine V_block ?_
  refine Vs rfl ?_
  refine Lp rfl (p_fieldo fo68_0 rfl rfl) ?_
  refine Lr rfl (rl ag3 rfl rfl rfl) ?_
  refine Lc rfl rfl rfl rfl (fun w hg => dout_c _ _ _ w) ?_
  refine Lm rfl rfl rfl ?_
  refine L_cases (d := 23) rfl ?_ ?_
  ·intro g1; have g1' := g1; try simp only [td] at g1'
   iterate 3 refine L_no rfl rfl rfl g1 ?_
   refine Lp rfl (p_pick_t rfl rfl g1 rfl) ?_
   refine Lm rfl rfl rfl ?_
   iterate 3 refine L_no rfl rfl rfl rfl ?_
   refine Lp rfl (p_pick_t rfl rfl rfl rfl) ?_
   refine Lm rfl rfl rfl ?_
   iterate 3 refine L_no rfl rfl rfl rfl ?_
   refine Lp rfl (p_pick_t rfl rfl rfl rfl) ?_
   refine La rfl rfl rfl ?_
   refine L_then (kp [1, 5, 6, 12, 13, 14, 19] rfl) ?_
   refine V_cond_t rfl rfl ?_
   refine Vs rfl ?_
   refine Lm rfl rfl rfl ?_
   iterate 3 refine La rfl rfl rfl ?_
   refine L_then (kp [2, 3, 4] rfl) ?_
   refine V_ret (blk_r (blk_r (then_r (then_r (blk_r (then_r ?_))))))
   refine Leave.nil (.tmp rfl (.tmp rfl (.tmp rfl .nil))) ?_
   first | (rw [checkP_long (by assumption)]; rfl) | (rw [checkP_tail hlo hln (by simp only [tailP, Bool.or_eq_true, Bool.or_eq_false_iff, Bool.false_eq_true, or_true, true_or, or_false, false_or, and_true, true_and, and_self, not_false_eq_true, not_true_eq_false, *])]; rfl) | (rw [checkP_ok hlo hln (by simp only [tailP, Bool.or_eq_true, Bool.or_eq_false_iff, Bool.false_eq_true, or_true, true_or, or_false, false_or, and_true, true_and, and_self, not_false_eq_true, not_true_eq_false, *])]; rfl) | (rw [checkP_ln (k := k) (e := 7) hlo (by omega) (by omega) hkp (by unfold errLn Plan.ln; rw [if_pos (by simp only [Bool.or_eq_true, Bool.or_eq_false_iff, Bool.false_eq_true, or_true, true_or, or_false, false_or, and_true, true_and, and_self, not_false_eq_true, not_true_eq_false, *])]) (by decide)]; rfl) | (rw [checkP_ln (k := k) (e := 2) hlo (by omega) (by omega) hkp (by unfold errLn Plan.ln; rw [if_neg (by rw [g1', g2', g3', c3]; decide), if_pos (by omega)]) (by decide)]; rfl)
  intro g1; have g1' := g1; try simp only [td] at g1'
  refine L_yes rfl rfl rfl g1 (X_p (p_fieldo fo68_1 rfl rfl) ?_)
  refine L_yes rfl rfl rfl g1 (X_rd (rl ag3 rfl rfl rfl) ?_)
  refine L_yes rfl rfl rfl g1 (X_wr (w_callP rfl rfl rfl (fun w hg => dout_c _ _ _ w)) ?_)
  rintro _ _ ⟨rfl, rfl⟩
  refine Lp rfl (p_pick_f rfl rfl g1 rfl) ?_
  refine Lm rfl rfl rfl ?_
  refine L_cases (d := 28) rfl ?_ ?_
  ·intro g2; have g2' := g2; try simp only [td] at g2'
   iterate 3 refine L_no rfl rfl rfl g2 ?_
   refine Lp rfl (p_pick_t rfl rfl g2 rfl) ?_
   refine Lm rfl rfl rfl ?_
   iterate 3 refine L_no rfl rfl rfl rfl ?_
   refine Lp rfl (p_pick_t rfl rfl rfl rfl) ?_
   refine La rfl rfl rfl ?_
   refine L_then (kp [1, 5, 6, 12, 13, 14, 19] rfl) ?_
   refine V_cond_t rfl rfl ?_
   refine Vs rfl ?_
   refine Lm rfl rfl rfl ?_
   iterate 3 refine La rfl rfl rfl ?_
   refine L_then (kp [2, 3, 4] rfl) ?_
   refine V_ret (blk_r (blk_r (then_r (then_r (blk_r (then_r ?_))))))
   refine Leave.nil (.tmp rfl (.tmp rfl (.tmp rfl .nil))) ?_
   first | (rw [checkP_long (by assumption)]; rfl) | (rw [checkP_tail hlo hln (by simp only [tailP, Bool.or_eq_true, Bool.or_eq_false_iff, Bool.false_eq_true, or_true, true_or, or_false, false_or, and_true, true_and, and_self, not_false_eq_true, not_true_eq_false, *])]; rfl) | (rw [checkP_ok hlo hln (by simp only [tailP, Bool.or_eq_true, Bool.or_eq_false_iff, Bool.false_eq_true, or_true, true_or, or_false, false_or, and_true, true_and, and_self, not_false_eq_true, not_true_eq_false, *])]; rfl) | (rw [checkP_ln (k := k) (e := 7) hlo (by omega) (by omega) hkp (by unfold errLn Plan.ln; rw [if_pos (by simp only [Bool.or_eq_true, Bool.or_eq_false_iff, Bool.false_eq_true, or_true, true_or, or_false, false_or, and_true, true_and, and_self, not_false_eq_true, not_true_eq_false, *])]) (by decide)]; rfl) | (rw [checkP_ln (k := k) (e := 2) hlo (by omega) (by omega) hkp (by unfold errLn Plan.ln; rw [if_neg (by rw [g1', g2', g3', c3]; decide), if_pos (by omega)]) (by decide)]; rfl)
  intro g2; have g2' := g2; try simp only [td] at g2'
  refine L_yes rfl rfl rfl g2 (X_p (p_fieldo fo68_2 rfl rfl) ?_)
  refine L_yes rfl rfl rfl g2 (X_rd (rl ag3 rfl rfl rfl) ?_)
  refine L_yes rfl rfl rfl g2 (X_wr (w_callP rfl rfl rfl (fun w hg => dout_c _ _ _ w)) ?_)
  rintro _ _ ⟨rfl, rfl⟩
  refine Lp rfl (p_pick_f rfl rfl g2 rfl) ?_
  refine Lm rfl rfl rfl ?_
  refine L_cases (d := 33) rfl ?_ ?_
  ·intro g3; have g3' := g3; try simp only [td] at g3'
   iterate 3 refine L_no rfl rfl rfl g3 ?_
   refine Lp rfl (p_pick_t rfl rfl g3 rfl) ?_
   refine La rfl rfl rfl ?_
   refine L_then (kp [1, 5, 6, 12, 13, 14, 19] rfl) ?_
   refine V_cond_t rfl rfl ?_
   refine Vs rfl ?_
   refine Lm rfl rfl rfl ?_
   iterate 3 refine La rfl rfl rfl ?_
   refine L_then (kp [2, 3, 4] rfl) ?_
   refine V_ret (blk_r (blk_r (then_r (then_r (blk_r (then_r ?_))))))
   refine Leave.nil (.tmp rfl (.tmp rfl (.tmp rfl .nil))) ?_
   first | (rw [checkP_long (by assumption)]; rfl) | (rw [checkP_tail hlo hln (by simp only [tailP, Bool.or_eq_true, Bool.or_eq_false_iff, Bool.false_eq_true, or_true, true_or, or_false, false_or, and_true, true_and, and_self, not_false_eq_true, not_true_eq_false, *])]; rfl) | (rw [checkP_ok hlo hln (by simp only [tailP, Bool.or_eq_true, Bool.or_eq_false_iff, Bool.false_eq_true, or_true, true_or, or_false, false_or, and_true, true_and, and_self, not_false_eq_true, not_true_eq_false, *])]; rfl) | (rw [checkP_ln (k := k) (e := 7) hlo (by omega) (by omega) hkp (by unfold errLn Plan.ln; rw [if_pos (by simp only [Bool.or_eq_true, Bool.or_eq_false_iff, Bool.false_eq_true, or_true, true_or, or_false, false_or, and_true, true_and, and_self, not_false_eq_true, not_true_eq_false, *])]) (by decide)]; rfl) | (rw [checkP_ln (k := k) (e := 2) hlo (by omega) (by omega) hkp (by unfold errLn Plan.ln; rw [if_neg (by rw [g1', g2', g3', c3]; decide), if_pos (by omega)]) (by decide)]; rfl)
  intro g3; have g3' := g3; try simp only [td] at g3'
  refine L_yes rfl rfl rfl g3 (X_p (p_fieldo fo68_3 rfl rfl) ?_)
  refine L_yes rfl rfl rfl g3 (X_rd (rl ag3 rfl rfl rfl) ?_)
  refine L_yes rfl rfl rfl g3 (X_wr (w_callP rfl rfl rfl (fun w hg => dout_c _ _ _ w)) ?_)
  rintro _ _ ⟨rfl, rfl⟩
  refine Lp rfl (p_pick_f rfl rfl g3 rfl) ?_
  refine La rfl rfl rfl ?_
  refine L_then (kp [1, 5, 6, 12, 13, 14, 19] rfl) ?_
  refine V_cond rfl ?_ ?_
  ·intro c3; try simp only [td] at c3
   refine Vs rfl ?_
   refine Lm rfl rfl rfl ?_
   iterate 3 refine La rfl rfl rfl ?_
   refine L_then (kp [2, 3, 4] rfl) ?_
   refine V_ret (blk_r (blk_r (then_r (then_r (blk_r (then_r ?_))))))
   refine Leave.nil (.tmp rfl (.tmp rfl (.tmp rfl .nil))) ?_
   first | (rw [checkP_long (by assumption)]; rfl) | (rw [checkP_tail hlo hln (by simp only [tailP, Bool.or_eq_true, Bool.or_eq_false_iff, Bool.false_eq_true, or_true, true_or, or_false, false_or, and_true, true_and, and_self, not_false_eq_true, not_true_eq_false, *])]; rfl) | (rw [checkP_ok hlo hln (by simp only [tailP, Bool.or_eq_true, Bool.or_eq_false_iff, Bool.false_eq_true, or_true, true_or, or_false, false_or, and_true, true_and, and_self, not_false_eq_true, not_true_eq_false, *])]; rfl) | (rw [checkP_ln (k := k) (e := 7) hlo (by omega) (by omega) hkp (by unfold errLn Plan.ln; rw [if_pos (by simp only [Bool.or_eq_true, Bool.or_eq_false_iff, Bool.false_eq_true, or_true, true_or, or_false, false_or, and_true, true_and, and_self, not_false_eq_true, not_true_eq_false, *])]) (by decide)]; rfl) | (rw [checkP_ln (k := k) (e := 2) hlo (by omega) (by omega) hkp (by unfold errLn Plan.ln; rw [if_neg (by rw [g1', g2', g3', c3]; decide), if_pos (by omega)]) (by decide)]; rfl)
  intro c3; try simp only [td] at c3
  refine Vs rfl ?_
  refine Lp rfl (p_fieldo fo68_0 rfl rfl) ?_
  refine Lr rfl (rl ag3 rfl rfl rfl) ?_
  refine Lp rfl (p_eql rfl rfl rfl) ?_
  refine Lm rfl rfl rfl ?_
  refine L_cases (d := 43) rfl ?_ ?_
  ·intro g4; have g4' := g4; try simp only [td] at g4'
   refine L_yes rfl rfl rfl g4 (X_p (p_fieldo fo68_1 rfl rfl) ?_)
   refine L_yes rfl rfl rfl g4 (X_rd (rl ag3 rfl rfl rfl) ?_)
   refine L_yes rfl rfl rfl g4 (X_p (p_eql rfl rfl rfl) ?_)
   refine Lp rfl (p_pick_t rfl rfl g4 rfl) ?_
   refine Lm rfl rfl rfl ?_
   refine L_cases (d := 48) rfl ?_ ?_
   ·intro g5; have g5' := g5; try simp only [td] at g5'
    iterate 5 refine L_no rfl rfl rfl g5 ?_
    refine Lp rfl (p_pick_t rfl rfl g5 rfl) ?_
    refine La rfl rfl rfl ?_
    refine L_then (kp [1, 5, 12, 13, 14, 39] rfl) ?_
    refine V_cond_t rfl rfl ?_
    refine Vs rfl ?_
    refine Lm rfl rfl rfl ?_
    iterate 3 refine La rfl rfl rfl ?_
    refine L_then (kp [2, 3, 4] rfl) ?_
    refine V_ret (blk_r (blk_r (then_r (then_r (blk_r (then_r ?_))))))
    refine Leave.nil (.tmp rfl (.tmp rfl (.tmp rfl .nil))) ?_
    first | (rw [checkP_long (by assumption)]; rfl) | (rw [checkP_tail hlo hln (by simp only [tailP, Bool.or_eq_true, Bool.or_eq_false_iff, Bool.false_eq_true, or_true, true_or, or_false, false_or, and_true, true_and, and_self, not_false_eq_true, not_true_eq_false, *])]; rfl) | (rw [checkP_ok hlo hln (by simp only [tailP, Bool.or_eq_true, Bool.or_eq_false_iff, Bool.false_eq_true, or_true, true_or, or_false, false_or, and_true, true_and, and_self, not_false_eq_true, not_true_eq_false, *])]; rfl) | (rw [checkP_ln (k := k) (e := 7) hlo (by omega) (by omega) hkp (by unfold errLn Plan.ln; rw [if_pos (by simp only [Bool.or_eq_true, Bool.or_eq_false_iff, Bool.false_eq_true, or_true, true_or, or_false, false_or, and_true, true_and, and_self, not_false_eq_true, not_true_eq_false, *])]) (by decide)]; rfl) | (rw [checkP_ln (k := k) (e := 2) hlo (by omega) (by omega) hkp (by unfold errLn Plan.ln; rw [if_neg (by rw [g1', g2', g3', c3]; decide), if_pos (by omega)]) (by decide)]; rfl)
   intro g5; have g5' := g5; try simp only [td] at g5'
   refine L_yes rfl rfl rfl g5 (X_p (p_fieldo fo68_2 rfl rfl) ?_)
   refine L_yes rfl rfl rfl g5 (X_rd (rl ag3 rfl rfl rfl) ?_)
   refine L_yes rfl rfl rfl g5 (X_p (p_fieldo fo68_3 rfl rfl) ?_)
   refine L_yes rfl rfl rfl g5 (X_rd (rl ag3 rfl rfl rfl) ?_)
   refine L_yes rfl rfl rfl g5 (X_p (p_gtr rfl rfl rfl) ?_)
   refine Lp rfl (p_pick_f rfl rfl g5 rfl) ?_
   refine La rfl rfl rfl ?_
   refine L_then (kp [1, 5, 12, 13, 14, 39] rfl) ?_
   refine V_cond rfl ?_ ?_
   ·intro c4; try simp only [td] at c4
    refine Vs rfl ?_
    refine Lm rfl rfl rfl ?_
    iterate 3 refine La rfl rfl rfl ?_
    refine L_then (kp [2, 3, 4] rfl) ?_
    refine V_ret (blk_r (blk_r (then_r (then_r (blk_r (then_r ?_))))))
    refine Leave.nil (.tmp rfl (.tmp rfl (.tmp rfl .nil))) ?_
    first | (rw [checkP_long (by assumption)]; rfl) | (rw [checkP_tail hlo hln (by simp only [tailP, Bool.or_eq_true, Bool.or_eq_false_iff, Bool.false_eq_true, or_true, true_or, or_false, false_or, and_true, true_and, and_self, not_false_eq_true, not_true_eq_false, *])]; rfl) | (rw [checkP_ok hlo hln (by simp only [tailP, Bool.or_eq_true, Bool.or_eq_false_iff, Bool.false_eq_true, or_true, true_or, or_false, false_or, and_true, true_and, and_self, not_false_eq_true, not_true_eq_false, *])]; rfl) | (rw [checkP_ln (k := k) (e := 7) hlo (by omega) (by omega) hkp (by unfold errLn Plan.ln; rw [if_pos (by simp only [Bool.or_eq_true, Bool.or_eq_false_iff, Bool.false_eq_true, or_true, true_or, or_false, false_or, and_true, true_and, and_self, not_false_eq_true, not_true_eq_false, *])]) (by decide)]; rfl) | (rw [checkP_ln (k := k) (e := 2) hlo (by omega) (by omega) hkp (by unfold errLn Plan.ln; rw [if_neg (by rw [g1', g2', g3', c3]; decide), if_pos (by omega)]) (by decide)]; rfl)
   intro c4; try simp only [td] at c4
   refine V_skip (blk_n (blk_n (then_n ?_)))
   refine V_region rfl ?_
   first | refine Lp rfl (p_add' rfl rfl rfl (by unfold InI; omega)) ?_ | refine Lp rfl (p_add rfl rfl rfl) ?_
   refine Lm rfl rfl rfl ?_
   refine L_keep (kp [1, 12, 13, 14] rfl) (then_n ?_)
   refine ⟨k + 1, ?_, ?_, (.cons rfl (.cons rfl (.cons rfl (.cons rfl (.nil _))))), (by repeat (first | exact List.Sublist.refl _ | apply List.Sublist.cons_cons | apply List.Sublist.cons | apply List.sublist_append_of_sublist_right)), rfl⟩
   ·refine ⟨by omega, by omega, fun j hj => ?_⟩; by_cases e : (j : Int) < k
    ·exact hkp j e
    have ej : j = k.toNat := by omega
    rw [ej]; unfold errLn Plan.ln; rw [if_neg (by rw [g1', g2', g3', c3]; decide), if_neg (by omega)]
   omega
  intro g4; have g4' := g4; try simp only [td] at g4'
  iterate 3 refine L_no rfl rfl rfl g4 ?_
  refine Lp rfl (p_pick_f rfl rfl g4 rfl) ?_
  refine Lm rfl rfl rfl ?_
  refine L_yes rfl rfl rfl rfl (X_p (p_fieldo fo68_2 rfl rfl) ?_)
  refine L_yes rfl rfl rfl rfl (X_rd (rl ag3 rfl rfl rfl) ?_)
  refine L_yes rfl rfl rfl rfl (X_p (p_fieldo fo68_3 rfl rfl) ?_)
  refine L_yes rfl rfl rfl rfl (X_rd (rl ag3 rfl rfl rfl) ?_)
  refine L_yes rfl rfl rfl rfl (X_p (p_gtr rfl rfl rfl) ?_)
  refine Lp rfl (p_pick_f rfl rfl rfl rfl) ?_
  refine La rfl rfl rfl ?_
  refine L_then (kp [1, 5, 12, 13, 14, 39] rfl) ?_
  refine V_cond rfl ?_ ?_
  ·intro c5; try simp only [td] at c5
   refine Vs rfl ?_
   refine Lm rfl rfl rfl ?_
   iterate 3 refine La rfl rfl rfl ?_
   refine L_then (kp [2, 3, 4] rfl) ?_
   refine V_ret (blk_r (blk_r (then_r (then_r (blk_r (then_r ?_))))))
   refine Leave.nil (.tmp rfl (.tmp rfl (.tmp rfl .nil))) ?_
   first | (rw [checkP_long (by assumption)]; rfl) | (rw [checkP_tail hlo hln (by simp only [tailP, Bool.or_eq_true, Bool.or_eq_false_iff, Bool.false_eq_true, or_true, true_or, or_false, false_or, and_true, true_and, and_self, not_false_eq_true, not_true_eq_false, *])]; rfl) | (rw [checkP_ok hlo hln (by simp only [tailP, Bool.or_eq_true, Bool.or_eq_false_iff, Bool.false_eq_true, or_true, true_or, or_false, false_or, and_true, true_and, and_self, not_false_eq_true, not_true_eq_false, *])]; rfl) | (rw [checkP_ln (k := k) (e := 7) hlo (by omega) (by omega) hkp (by unfold errLn Plan.ln; rw [if_pos (by simp only [Bool.or_eq_true, Bool.or_eq_false_iff, Bool.false_eq_true, or_true, true_or, or_false, false_or, and_true, true_and, and_self, not_false_eq_true, not_true_eq_false, *])]) (by decide)]; rfl) | (rw [checkP_ln (k := k) (e := 2) hlo (by omega) (by omega) hkp (by unfold errLn Plan.ln; rw [if_neg (by rw [g1', g2', g3', c3]; decide), if_pos (by omega)]) (by decide)]; rfl)
  intro c5; try simp only [td] at c5
  refine V_skip (blk_n (blk_n (then_n ?_)))
  refine V_region rfl ?_
  first | refine Lp rfl (p_add' rfl rfl rfl (by unfold InI; omega)) ?_ | refine Lp rfl (p_add rfl rfl rfl) ?_
  refine Lm rfl rfl rfl ?_
  refine L_keep (kp [1, 12, 13, 14] rfl) (then_n ?_)
  refine ⟨k + 1, ?_, ?_, (.cons rfl (.cons rfl (.cons rfl (.cons rfl (.nil _))))), (by repeat (first | exact List.Sublist.refl _ | apply List.Sublist.cons_cons | apply List.Sublist.cons | apply List.sublist_append_of_sublist_right)), rfl⟩
  ·refine ⟨by omega, by omega, fun j hj => ?_⟩; by_cases e : (j : Int) < k
   ·exact hkp j e
   have ej : j = k.toNat := by omega
   rw [ej]; unfold errLn Plan.ln; rw [if_neg (by rw [g1', g2', g3', c3]; decide), if_neg (by omega)]
  omega
 intro c2; try simp only [td] at c2
 have hln : ∀ j : Nat, j < p.lines.length → errLn (p.ln j) = 0 := fun j hj => hkp j (by omega)
 refine V_exit (then_e (then_e (blk_e rfl (then_n ?_))))
 refine V_seq ?_
 refine Vs rfl ?_
 refine Lp rfl (p_fieldo fo26_1 rfl rfl) ?_
 refine Lp rfl (p_fieldo fo24_1 rfl rfl) ?_
 refine Lr rfl (rl ag3 rfl rfl rfl) ?_
 refine Lc rfl rfl rfl rfl (fun w hg => dout_c _ _ _ w) ?_
 refine Lm rfl rfl rfl ?_
 refine L_cases (d := 61) rfl ?_ ?_
 ·intro g6; have g6' := g6; try simp only [td] at g6'
  iterate 7 refine L_no rfl rfl rfl g6 ?_
  refine Lp rfl (p_pick_t rfl rfl g6 rfl) ?_
  refine Lm rfl rfl rfl ?_
  iterate 3 refine L_no rfl rfl rfl rfl ?_
  refine Lp rfl (p_pick_t rfl rfl rfl rfl) ?_
  refine Lm rfl rfl rfl ?_
  iterate 3 refine L_no rfl rfl rfl rfl ?_
  refine Lp rfl (p_pick_t rfl rfl rfl rfl) ?_
  refine L_then (kp [79] rfl) ?_
  refine V_cond_t rfl rfl ?_
  refine Vs rfl ?_
  iterate 3 refine La rfl rfl rfl ?_
  refine L_then (kp [2, 3, 4] rfl) ?_
  refine V_ret (then_r ?_)
  refine Leave.nil (.tmp rfl (.tmp rfl (.tmp rfl .nil))) ?_
  first | (rw [checkP_long (by assumption)]; rfl) | (rw [checkP_tail hlo hln (by simp only [tailP, Bool.or_eq_true, Bool.or_eq_false_iff, Bool.false_eq_true, or_true, true_or, or_false, false_or, and_true, true_and, and_self, not_false_eq_true, not_true_eq_false, *])]; rfl) | (rw [checkP_ok hlo hln (by simp only [tailP, Bool.or_eq_true, Bool.or_eq_false_iff, Bool.false_eq_true, or_true, true_or, or_false, false_or, and_true, true_and, and_self, not_false_eq_true, not_true_eq_false, *])]; rfl) | (rw [checkP_ln (k := k) (e := 7) hlo (by omega) (by omega) hkp (by unfold errLn Plan.ln; rw [if_pos (by simp only [Bool.or_eq_true, Bool.or_eq_false_iff, Bool.false_eq_true, or_true, true_or, or_false, false_or, and_true, true_and, and_self, not_false_eq_true, not_true_eq_false, *])]) (by decide)]; rfl) | (rw [checkP_ln (k := k) (e := 2) hlo (by omega) (by omega) hkp (by unfold errLn Plan.ln; rw [if_neg (by rw [g1', g2', g3', c3]; decide), if_pos (by omega)]) (by decide)]; rfl)
 intro g6; have g6' := g6; try simp only [td] at g6'
 refine L_yes rfl rfl rfl g6 (X_p (p_fieldo fo26_1 rfl rfl) ?_)
 refine L_yes rfl rfl rfl g6 (X_p (p_fieldo fo24_0 rfl rfl) ?_)
 refine L_yes rfl rfl rfl g6 (X_rd (rl ag3 rfl rfl rfl) ?_)
 refine L_yes rfl rfl rfl g6 (X_p (p_fieldo fo26_1 rfl rfl) ?_)
 refine L_yes rfl rfl rfl g6 (X_p (p_fieldo fo24_1 rfl rfl) ?_)
 refine L_yes rfl rfl rfl g6 (X_rd (rl ag3 rfl rfl rfl) ?_)
 refine L_yes rfl rfl rfl g6 (X_wr (w_callP rfl rfl rfl (fun w hg => dout_c _ _ _ w)) ?_)
 rintro _ _ ⟨rfl, rfl⟩
 refine Lp rfl (p_pick_f rfl rfl g6 rfl) ?_
 refine Lm rfl rfl rfl ?_
 refine L_cases (d := 70) rfl ?_ ?_
 ·intro g7; have g7' := g7; try simp only [td] at g7'
  iterate 3 refine L_no rfl rfl rfl g7 ?_
  refine Lp rfl (p_pick_t rfl rfl g7 rfl) ?_
  refine Lm rfl rfl rfl ?_
  iterate 3 refine L_no rfl rfl rfl rfl ?_
  refine Lp rfl (p_pick_t rfl rfl rfl rfl) ?_
  refine L_then (kp [79] rfl) ?_
  refine V_cond_t rfl rfl ?_
  refine Vs rfl ?_
  iterate 3 refine La rfl rfl rfl ?_
  refine L_then (kp [2, 3, 4] rfl) ?_
  refine V_ret (then_r ?_)
  refine Leave.nil (.tmp rfl (.tmp rfl (.tmp rfl .nil))) ?_
  first | (rw [checkP_long (by assumption)]; rfl) | (rw [checkP_tail hlo hln (by simp only [tailP, Bool.or_eq_true, Bool.or_eq_false_iff, Bool.false_eq_true, or_true, true_or, or_false, false_or, and_true, true_and, and_self, not_false_eq_true, not_true_eq_false, *])]; rfl) | (rw [checkP_ok hlo hln (by simp only [tailP, Bool.or_eq_true, Bool.or_eq_false_iff, Bool.false_eq_true, or_true, true_or, or_false, false_or, and_true, true_and, and_self, not_false_eq_true, not_true_eq_false, *])]; rfl) | (rw [checkP_ln (k := k) (e := 7) hlo (by omega) (by omega) hkp (by unfold errLn Plan.ln; rw [if_pos (by simp only [Bool.or_eq_true, Bool.or_eq_false_iff, Bool.false_eq_true, or_true, true_or, or_false, false_or, and_true, true_and, and_self, not_false_eq_true, not_true_eq_false, *])]) (by decide)]; rfl) | (rw [checkP_ln (k := k) (e := 2) hlo (by omega) (by omega) hkp (by unfold errLn Plan.ln; rw [if_neg (by rw [g1', g2', g3', c3]; decide), if_pos (by omega)]) (by decide)]; rfl)
 intro g7; have g7' := g7; try simp only [td] at g7'
 refine L_yes rfl rfl rfl g7 (X_p (p_fieldo fo26_2 rfl rfl) ?_)
 refine L_yes rfl rfl rfl g7 (X_rd (rl ag3 rfl rfl rfl) ?_)
 refine L_yes rfl rfl rfl g7 (X_wr (w_callP rfl rfl rfl (fun w hg => dout_c _ _ _ w)) ?_)
 rintro _ _ ⟨rfl, rfl⟩
 refine Lp rfl (p_pick_f rfl rfl g7 rfl) ?_
 refine Lm rfl rfl rfl ?_
 refine L_cases (d := 75) rfl ?_ ?_
 ·intro g8; have g8' := g8; try simp only [td] at g8'
  iterate 3 refine L_no rfl rfl rfl g8 ?_
  refine Lp rfl (p_pick_t rfl rfl g8 rfl) ?_
  refine L_then (kp [79] rfl) ?_
  refine V_cond_t rfl rfl ?_
  refine Vs rfl ?_
  iterate 3 refine La rfl rfl rfl ?_
  refine L_then (kp [2, 3, 4] rfl) ?_
  refine V_ret (then_r ?_)
  refine Leave.nil (.tmp rfl (.tmp rfl (.tmp rfl .nil))) ?_
  first | (rw [checkP_long (by assumption)]; rfl) | (rw [checkP_tail hlo hln (by simp only [tailP, Bool.or_eq_true, Bool.or_eq_false_iff, Bool.false_eq_true, or_true, true_or, or_false, false_or, and_true, true_and, and_self, not_false_eq_true, not_true_eq_false, *])]; rfl) | (rw [checkP_ok hlo hln (by simp only [tailP, Bool.or_eq_true, Bool.or_eq_false_iff, Bool.false_eq_true, or_true, true_or, or_false, false_or, and_true, true_and, and_self, not_false_eq_true, not_true_eq_false, *])]; rfl) | (rw [checkP_ln (k := k) (e := 7) hlo (by omega) (by omega) hkp (by unfold errLn Plan.ln; rw [if_pos (by simp only [Bool.or_eq_true, Bool.or_eq_false_iff, Bool.false_eq_true, or_true, true_or, or_false, false_or, and_true, true_and, and_self, not_false_eq_true, not_true_eq_false, *])]) (by decide)]; rfl) | (rw [checkP_ln (k := k) (e := 2) hlo (by omega) (by omega) hkp (by unfold errLn Plan.ln; rw [if_neg (by rw [g1', g2', g3', c3]; decide), if_pos (by omega)]) (by decide)]; rfl)
 intro g8; have g8' := g8; try simp only [td] at g8'
 refine L_yes rfl rfl rfl g8 (X_p (p_fieldo fo26_3 rfl rfl) ?_)
 refine L_yes rfl rfl rfl g8 (X_rd (rl ag3 rfl rfl rfl) ?_)
 refine L_yes rfl rfl rfl g8 (X_wr (w_callP rfl rfl rfl (fun w hg => dout_c _ _ _ w)) ?_)
 rintro _ _ ⟨rfl, rfl⟩
 refine Lp rfl (p_pick_f rfl rfl g8 rfl) ?_
 refine L_then (kp [79] rfl) ?_
 refine V_cond rfl ?_ ?_
 ·intro c6; try simp only [td] at c6
  refine Vs rfl ?_
  iterate 3 refine La rfl rfl rfl ?_
  refine L_then (kp [2, 3, 4] rfl) ?_
  refine V_ret (then_r ?_)
  refine Leave.nil (.tmp rfl (.tmp rfl (.tmp rfl .nil))) ?_
  first | (rw [checkP_long (by assumption)]; rfl) | (rw [checkP_tail hlo hln (by simp only [tailP, Bool.or_eq_true, Bool.or_eq_false_iff, Bool.false_eq_true, or_true, true_or, or_false, false_or, and_true, true_and, and_self, not_false_eq_true, not_true_eq_false, *])]; rfl) | (rw [checkP_ok hlo hln (by simp only [tailP, Bool.or_eq_true, Bool.or_eq_false_iff, Bool.false_eq_true, or_true, true_or, or_false, false_or, and_true, true_and, and_self, not_false_eq_true, not_true_eq_false, *])]; rfl) | (rw [checkP_ln (k := k) (e := 7) hlo (by omega) (by omega) hkp (by unfold errLn Plan.ln; rw [if_pos (by simp only [Bool.or_eq_true, Bool.or_eq_false_iff, Bool.false_eq_true, or_true, true_or, or_false, false_or, and_true, true_and, and_self, not_false_eq_true, not_true_eq_false, *])]) (by decide)]; rfl) | (rw [checkP_ln (k := k) (e := 2) hlo (by omega) (by omega) hkp (by unfold errLn Plan.ln; rw [if_neg (by rw [g1', g2', g3', c3]; decide), if_pos (by omega)]) (by decide)]; rfl)
 intro c6; try simp only [td] at c6
 refine V_skip (then_n ?_)
 refine Vs rfl ?_
 iterate 3 refine La rfl rfl rfl ?_
 refine L_then (kp [2, 3, 4] rfl) ?_
 refine V_ret ?_
 refine Leave.nil (.tmp rfl (.tmp rfl (.tmp rfl .nil))) ?_
 first | (rw [checkP_long (by assumption)]; rfl) | (rw [checkP_tail hlo hln (by simp only [tailP, Bool.or_eq_true, Bool.or_eq_false_iff, Bool.false_eq_true, or_true, true_or, or_false, false_or, and_true, true_and, and_self, not_false_eq_true, not_true_eq_false, *])]; rfl) | (rw [checkP_ok hlo hln (by simp only [tailP, Bool.or_eq_true, Bool.or_eq_false_iff, Bool.false_eq_true, or_true, true_or, or_false, false_or, and_true, true_and, and_self, not_false_eq_true, not_true_eq_false, *])]; rfl) | (rw [checkP_ln (k := k) (e := 7) hlo (by omega) (by omega) hkp (by unfold errLn Plan.ln; rw [if_pos (by simp only [Bool.or_eq_true, Bool.or_eq_false_iff, Bool.false_eq_true, or_true, true_or, or_false, false_or, and_true, true_and, and_self, not_false_eq_true, not_true_eq_false, *])]) (by decide)]; rfl) | (rw [checkP_ln (k := k) (e := 2) hlo (by omega) (by omega) hkp (by unfold errLn Plan.ln; rw [if_neg (by rw [g1', g2', g3', c3]; decide), if_pos (by omega)]) (by decide)]; rfl)
theorem dvalid_c (p : De.Plan) (pv : Value) (w : World) (hp : PlanR w pv p) : FnP Tryz.prog 29 [pv] w (.int .i64 (planE p)) := by
 have hP := hp
 obtain ⟨lv, rfl, hls⟩ := hp.ex
 have hlen := hp.len
 refine fn_pure Tryz.func29 rfl (by kernel_rfl) Tryz.ntmps29 Tryz.results29 rfl ?_
 refine Vs rfl ?_
 refine Lw rfl (w_box rfl rfl) ?_
 rintro _ _ ⟨b1, hb1, rfl, rfl⟩
 refine La rfl rfl rfl ?_
 refine L_then (kp [1] rfl) ?_
 refine Vs rfl ?_
 refine Lr rfl (rlA (vs := [_, _, _, _, _]) ag26 sz26 rfl rfl rfl) ?_
 refine Lc rfl rfl rfl rfl (fun w hg => dcheck_c p _ w (hP.good hg)) ?_
 refine Lm rfl rfl rfl ?_
 iterate 3 refine Lp rfl (p_ext rfl rfl rfl) ?_
 iterate 3 refine La rfl rfl rfl ?_
 refine L_then (kp [5] rfl) ?_
 refine Vs rfl ?_
 refine Lm rfl rfl rfl ?_
 refine La rfl rfl rfl ?_
 refine L_then (kp [2] rfl) ?_
 refine V_ret ?_
 refine Leave.nil (.tmp rfl .nil) ?_
 rfl

end Go.Proofs.YtlcccpeelombbaaGreatDoor

/- YtlcccpeelombbaaGreatDoor: the reference of layer 6. -/
set_option linter.all false
namespace Go.Proofs.YtlcccpeelombbaaGreatDoor
open Go.Vc Go.Tk Go.De
set_option maxRecDepth 100000
theorem drin_c (n lo hi : Int) (w : World) : FnP Tryz.prog 77 [.int .i64 n, .int .i64 lo, .int .i64 hi] w (.bool (!(oP n lo hi))) := by
 refine fn_pure Tryz.func77 rfl (by kernel_rfl) Tryz.ntmps77 Tryz.results77 rfl ?_
 refine Vs rfl ?_
 refine La rfl rfl rfl ?_
 refine L_then (kp [0, 1, 2] rfl) ?_
 refine Vs rfl ?_
 iterate 2 refine Lm rfl rfl rfl ?_
 refine Lp rfl (p_geq rfl rfl rfl) ?_
 refine Lm rfl rfl rfl ?_
 refine L_cases (d := 10) rfl ?_ ?_
 ·intro g1; have g1' := g1; try simp only [td] at g1'
  refine L_yes rfl rfl rfl g1 (X_p (p_move rfl rfl) ?_)
  refine L_yes rfl rfl rfl g1 (X_p (p_move rfl rfl) ?_)
  refine L_yes rfl rfl rfl g1 (X_p (p_leq rfl rfl rfl) ?_)
  refine Lp rfl (p_pick_t rfl rfl g1 rfl) ?_
  refine La rfl rfl rfl ?_
  refine L_then (kp [6] rfl) ?_
  refine V_ret ?_
  refine Leave.nil (.tmp rfl .nil) ?_
  show Value.bool _ = _
  congr 1
  rw [Bool.eq_iff_iff]
  simp only [Bool.not_eq_true', oP_false, decide_eq_true_eq, Bool.false_eq_true, false_iff]
  omega
 intro g1; have g1' := g1; try simp only [td] at g1'
 iterate 3 refine L_no rfl rfl rfl g1 ?_
 refine Lp rfl (p_pick_f rfl rfl g1 rfl) ?_
 refine La rfl rfl rfl ?_
 refine L_then (kp [6] rfl) ?_
 refine V_ret ?_
 refine Leave.nil (.tmp rfl .nil) ?_
 show Value.bool _ = _
 congr 1
 rw [Bool.eq_iff_iff]
 simp only [Bool.not_eq_true', oP_false, decide_eq_true_eq, Bool.false_eq_true, false_iff]
 omega
set_option maxHeartbeats 8000000 in
theorem drcheck_c (p : De.Plan) (pv : Value) (w : World) (hp : PlanR w pv p) : FnP Tryz.prog 61 [pv] w (.tuple #[.int .i64 (De.checkP p).1, .int .i64 (De.checkP p).2.1, .int .i64 (De.checkP p).2.2]) := by
 have hP := hp
 obtain ⟨lv, rfl, hls⟩ := hp.ex
 have hlen := hp.len
 obtain ⟨la, lc, rfl, hlc, hle⟩ := hls.ex
 simp only [List.length_map] at hP hlc ⊢
 refine fn_pure Tryz.func61 rfl (by kernel_rfl) Tryz.ntmps61 Tryz.results61 rfl ?_
 refine Vs rfl ?_
 refine Lw rfl (w_box rfl rfl) ?_
 rintro _ _ ⟨b1, hb1, rfl, rfl⟩
 iterate 3 refine La rfl rfl rfl ?_
 refine L_then (kp [1] rfl) ?_
 refine V_seq ?_
 refine Vs rfl ?_
 refine Lp rfl (p_fieldo fo26_0 rfl rfl) ?_
 refine Lr rfl (rl ag22 rfl rfl rfl) ?_
 refine Lp rfl (p_len isl22 rfl rfl) ?_
 refine Lc rfl rfl rfl rfl (fun w hg => drin_c _ _ _ w) ?_
 refine Lp rfl (p_not rfl rfl) ?_
 refine L_then (kp [1, 11] rfl) ?_
 refine V_cond rfl ?_ ?_
 ·intro c1; have c1r := c1; try simp only [td] at c1
  refine Vs rfl ?_
  iterate 3 refine La rfl rfl rfl ?_
  refine L_then (kp [2, 3, 4] rfl) ?_
  refine V_ret (then_r ?_)
  refine Leave.nil (.tmp rfl (.tmp rfl (.tmp rfl .nil))) ?_
  first | (rw [checkP_long (by simpa using c1)]; rfl) | (rw [checkP_tail hlo hln (by rw [tailP_alt]; simp only [Bool.or_eq_true, Bool.or_eq_false_iff, Bool.false_eq_true, or_true, true_or, or_false, false_or, and_true, true_and, and_self, not_false_eq_true, not_true_eq_false, *])]; rfl) | (rw [checkP_ok hlo hln (by rw [tailP_alt]; simp only [Bool.or_eq_true, Bool.or_eq_false_iff, Bool.false_eq_true, or_true, true_or, or_false, false_or, and_true, true_and, and_self, not_false_eq_true, not_true_eq_false, *])]; rfl) | (rw [checkP_ln (k := k) (e := 7) hlo (by omega) (by omega) hkp (by unfold errLn Plan.ln; rw [if_pos (by simp only [Bool.or_eq_true, Bool.or_eq_false_iff, Bool.false_eq_true, or_true, true_or, or_false, false_or, and_true, true_and, and_self, not_false_eq_true, not_true_eq_false, *])]) (by decide)]; rfl) | (rw [checkP_ln (k := k) (e := 2) hlo (by omega) (by omega) hkp (by unfold errLn Plan.ln; rw [if_neg (by rw [g1', g2', g3', c3]; decide), if_pos (by omega)]) (by decide)]; rfl)
 intro c1; have c1r := c1; try simp only [td] at c1
 have hlo : oP p.lines.length 1 8 = false := by simpa using c1
 refine V_skip (then_n ?_)
 refine V_seq ?_
 refine Vs rfl ?_
 refine La rfl rfl rfl ?_
 refine L_then (kp [1, 5] rfl) ?_
 refine V_block ?_
 refine V_loop0 (γ := Int) (kp [1] rfl) (fun k => [(5, .int .i64 k)]) (fun k => 0 ≤ k ∧ k ≤ p.lines.length ∧ ∀ j : Nat, (j : Int) < k → errLn (p.ln j) = 0) (fun k => (p.lines.length - k).toNat) (0) (.cons rfl (.nil _)) (⟨by omega, by omega, fun j hj => by omega⟩) ?_
 rintro k hi
 obtain ⟨hk0, hk1, hkp⟩ := hi
 refine V_seq ?_
 refine Vs rfl ?_
 refine Lm rfl rfl rfl ?_
 refine Lp rfl (p_fieldo fo26_0 rfl rfl) ?_
 refine Lr rfl (rl ag22 rfl rfl rfl) ?_
 refine Lp rfl (p_len isl22 rfl rfl) ?_
 refine Lp rfl (p_lss rfl rfl rfl) ?_
 refine L_then (kp [1, 5, 16] rfl) ?_
 refine V_cond rfl ?_ ?_
 ·intro c2; have c2r := c2; try simp only [td] at c2
  obtain ⟨lb, rfl, hc⟩ := hle k.toNat _ (getD_cells (d := lnZ) (by omega))
  refine V_skip (then_n ?_)
  refine V_seq ?_
  refine V_block ?_
  refine Vs rfl ?_
  refine Lp rfl (p_fieldo fo26_0 rfl rfl) ?_
  refine Lr rfl (rl ag22 rfl rfl rfl) ?_
  refine Lm rfl rfl rfl ?_
  refine Lp rfl (p_idx es22 rfl rfl rfl (by omega) (by omega)) ?_
  refine Lr rfl (r_loadBA ag68 sz68 rfl rfl hc rfl List.not_mem_nil) ?_
  refine Lw rfl (w_alloc zr68 rfl) ?_
  rintro _ _ ⟨b2, hb2, rfl, rfl⟩
  refine Ls (cs' := [_, _, _, _]) rfl sz68 rfl rfl rfl rfl rfl rfl rfl ?_
  refine L_then (kp [1, 5, 6] rfl) ?_
  refine V_seq ?_
  refine Vs rfl ?_
  refine Lp rfl (p_fieldo fo68_0 rfl rfl) ?_
  refine Lr rfl (rl ag3 rfl rfl rfl) ?_
  refine Lc rfl rfl rfl rfl (fun w hg => drin_c _ _ _ w) ?_
  refine Lp rfl (p_not rfl rfl) ?_
  refine Lm rfl rfl rfl ?_
  refine L_cases (d := 28) rfl ?_ ?_
  ·intro g1; have g1' := g1; try simp only [td] at g1'
   iterate 4 refine L_no rfl rfl rfl g1 ?_
   refine Lp rfl (p_pick_t rfl rfl g1 rfl) ?_
   refine Lm rfl rfl rfl ?_
   iterate 4 refine L_no rfl rfl rfl rfl ?_
   refine Lp rfl (p_pick_t rfl rfl rfl rfl) ?_
   refine Lm rfl rfl rfl ?_
   iterate 4 refine L_no rfl rfl rfl rfl ?_
   refine Lp rfl (p_pick_t rfl rfl rfl rfl) ?_
   refine L_then (kp [1, 5, 6, 45] rfl) ?_
   refine V_cond_t rfl rfl ?_
   refine Vs rfl ?_
   refine Lm rfl rfl rfl ?_
   iterate 3 refine La rfl rfl rfl ?_
   refine L_then (kp [2, 3, 4] rfl) ?_
   refine V_ret (then_r (blk_r (then_r (then_r (blk_r (then_r ?_))))))
   refine Leave.nil (.tmp rfl (.tmp rfl (.tmp rfl .nil))) ?_
   first | (rw [checkP_long (by simpa using c1)]; rfl) | (rw [checkP_tail hlo hln (by rw [tailP_alt]; simp only [Bool.or_eq_true, Bool.or_eq_false_iff, Bool.false_eq_true, or_true, true_or, or_false, false_or, and_true, true_and, and_self, not_false_eq_true, not_true_eq_false, *])]; rfl) | (rw [checkP_ok hlo hln (by rw [tailP_alt]; simp only [Bool.or_eq_true, Bool.or_eq_false_iff, Bool.false_eq_true, or_true, true_or, or_false, false_or, and_true, true_and, and_self, not_false_eq_true, not_true_eq_false, *])]; rfl) | (rw [checkP_ln (k := k) (e := 7) hlo (by omega) (by omega) hkp (by unfold errLn Plan.ln; rw [if_pos (by simp only [Bool.or_eq_true, Bool.or_eq_false_iff, Bool.false_eq_true, or_true, true_or, or_false, false_or, and_true, true_and, and_self, not_false_eq_true, not_true_eq_false, *])]) (by decide)]; rfl) | (rw [checkP_ln (k := k) (e := 2) hlo (by omega) (by omega) hkp (by unfold errLn Plan.ln; rw [if_neg (by rw [g1', g2', g3', c3]; decide), if_pos (by omega)]) (by decide)]; rfl)
  intro g1; have g1' := g1; try simp only [td] at g1'
  refine L_yes rfl rfl rfl g1 (X_p (p_fieldo fo68_1 rfl rfl) ?_)
  refine L_yes rfl rfl rfl g1 (X_rd (rl ag3 rfl rfl rfl) ?_)
  refine L_yes rfl rfl rfl g1 (X_wr (w_callP rfl rfl rfl (fun w hg => drin_c _ _ _ w)) ?_)
  rintro _ _ ⟨rfl, rfl⟩
  refine L_yes rfl rfl rfl g1 (X_p (p_not rfl rfl) ?_)
  refine Lp rfl (p_pick_f rfl rfl g1 rfl) ?_
  refine Lm rfl rfl rfl ?_
  refine L_cases (d := 34) rfl ?_ ?_
  ·intro g2; have g2' := g2; try simp only [td] at g2'
   iterate 4 refine L_no rfl rfl rfl g2 ?_
   refine Lp rfl (p_pick_t rfl rfl g2 rfl) ?_
   refine Lm rfl rfl rfl ?_
   iterate 4 refine L_no rfl rfl rfl rfl ?_
   refine Lp rfl (p_pick_t rfl rfl rfl rfl) ?_
   refine L_then (kp [1, 5, 6, 45] rfl) ?_
   refine V_cond_t rfl rfl ?_
   refine Vs rfl ?_
   refine Lm rfl rfl rfl ?_
   iterate 3 refine La rfl rfl rfl ?_
   refine L_then (kp [2, 3, 4] rfl) ?_
   refine V_ret (then_r (blk_r (then_r (then_r (blk_r (then_r ?_))))))
   refine Leave.nil (.tmp rfl (.tmp rfl (.tmp rfl .nil))) ?_
   first | (rw [checkP_long (by simpa using c1)]; rfl) | (rw [checkP_tail hlo hln (by rw [tailP_alt]; simp only [Bool.or_eq_true, Bool.or_eq_false_iff, Bool.false_eq_true, or_true, true_or, or_false, false_or, and_true, true_and, and_self, not_false_eq_true, not_true_eq_false, *])]; rfl) | (rw [checkP_ok hlo hln (by rw [tailP_alt]; simp only [Bool.or_eq_true, Bool.or_eq_false_iff, Bool.false_eq_true, or_true, true_or, or_false, false_or, and_true, true_and, and_self, not_false_eq_true, not_true_eq_false, *])]; rfl) | (rw [checkP_ln (k := k) (e := 7) hlo (by omega) (by omega) hkp (by unfold errLn Plan.ln; rw [if_pos (by simp only [Bool.or_eq_true, Bool.or_eq_false_iff, Bool.false_eq_true, or_true, true_or, or_false, false_or, and_true, true_and, and_self, not_false_eq_true, not_true_eq_false, *])]) (by decide)]; rfl) | (rw [checkP_ln (k := k) (e := 2) hlo (by omega) (by omega) hkp (by unfold errLn Plan.ln; rw [if_neg (by rw [g1', g2', g3', c3]; decide), if_pos (by omega)]) (by decide)]; rfl)
  intro g2; have g2' := g2; try simp only [td] at g2'
  refine L_yes rfl rfl rfl g2 (X_p (p_fieldo fo68_2 rfl rfl) ?_)
  refine L_yes rfl rfl rfl g2 (X_rd (rl ag3 rfl rfl rfl) ?_)
  refine L_yes rfl rfl rfl g2 (X_wr (w_callP rfl rfl rfl (fun w hg => drin_c _ _ _ w)) ?_)
  rintro _ _ ⟨rfl, rfl⟩
  refine L_yes rfl rfl rfl g2 (X_p (p_not rfl rfl) ?_)
  refine Lp rfl (p_pick_f rfl rfl g2 rfl) ?_
  refine Lm rfl rfl rfl ?_
  refine L_cases (d := 40) rfl ?_ ?_
  ·intro g3; have g3' := g3; try simp only [td] at g3'
   iterate 4 refine L_no rfl rfl rfl g3 ?_
   refine Lp rfl (p_pick_t rfl rfl g3 rfl) ?_
   refine L_then (kp [1, 5, 6, 45] rfl) ?_
   refine V_cond_t rfl rfl ?_
   refine Vs rfl ?_
   refine Lm rfl rfl rfl ?_
   iterate 3 refine La rfl rfl rfl ?_
   refine L_then (kp [2, 3, 4] rfl) ?_
   refine V_ret (then_r (blk_r (then_r (then_r (blk_r (then_r ?_))))))
   refine Leave.nil (.tmp rfl (.tmp rfl (.tmp rfl .nil))) ?_
   first | (rw [checkP_long (by simpa using c1)]; rfl) | (rw [checkP_tail hlo hln (by rw [tailP_alt]; simp only [Bool.or_eq_true, Bool.or_eq_false_iff, Bool.false_eq_true, or_true, true_or, or_false, false_or, and_true, true_and, and_self, not_false_eq_true, not_true_eq_false, *])]; rfl) | (rw [checkP_ok hlo hln (by rw [tailP_alt]; simp only [Bool.or_eq_true, Bool.or_eq_false_iff, Bool.false_eq_true, or_true, true_or, or_false, false_or, and_true, true_and, and_self, not_false_eq_true, not_true_eq_false, *])]; rfl) | (rw [checkP_ln (k := k) (e := 7) hlo (by omega) (by omega) hkp (by unfold errLn Plan.ln; rw [if_pos (by simp only [Bool.or_eq_true, Bool.or_eq_false_iff, Bool.false_eq_true, or_true, true_or, or_false, false_or, and_true, true_and, and_self, not_false_eq_true, not_true_eq_false, *])]) (by decide)]; rfl) | (rw [checkP_ln (k := k) (e := 2) hlo (by omega) (by omega) hkp (by unfold errLn Plan.ln; rw [if_neg (by rw [g1', g2', g3', c3]; decide), if_pos (by omega)]) (by decide)]; rfl)
  intro g3; have g3' := g3; try simp only [td] at g3'
  refine L_yes rfl rfl rfl g3 (X_p (p_fieldo fo68_3 rfl rfl) ?_)
  refine L_yes rfl rfl rfl g3 (X_rd (rl ag3 rfl rfl rfl) ?_)
  refine L_yes rfl rfl rfl g3 (X_wr (w_callP rfl rfl rfl (fun w hg => drin_c _ _ _ w)) ?_)
  rintro _ _ ⟨rfl, rfl⟩
  refine L_yes rfl rfl rfl g3 (X_p (p_not rfl rfl) ?_)
  refine Lp rfl (p_pick_f rfl rfl g3 rfl) ?_
  refine L_then (kp [1, 5, 6, 45] rfl) ?_
  refine V_cond rfl ?_ ?_
  ·intro c3; have c3r := c3; try simp only [td] at c3
   refine Vs rfl ?_
   refine Lm rfl rfl rfl ?_
   iterate 3 refine La rfl rfl rfl ?_
   refine L_then (kp [2, 3, 4] rfl) ?_
   refine V_ret (then_r (blk_r (then_r (then_r (blk_r (then_r ?_))))))
   refine Leave.nil (.tmp rfl (.tmp rfl (.tmp rfl .nil))) ?_
   first | (rw [checkP_long (by simpa using c1)]; rfl) | (rw [checkP_tail hlo hln (by rw [tailP_alt]; simp only [Bool.or_eq_true, Bool.or_eq_false_iff, Bool.false_eq_true, or_true, true_or, or_false, false_or, and_true, true_and, and_self, not_false_eq_true, not_true_eq_false, *])]; rfl) | (rw [checkP_ok hlo hln (by rw [tailP_alt]; simp only [Bool.or_eq_true, Bool.or_eq_false_iff, Bool.false_eq_true, or_true, true_or, or_false, false_or, and_true, true_and, and_self, not_false_eq_true, not_true_eq_false, *])]; rfl) | (rw [checkP_ln (k := k) (e := 7) hlo (by omega) (by omega) hkp (by unfold errLn Plan.ln; rw [if_pos (by simp only [Bool.or_eq_true, Bool.or_eq_false_iff, Bool.false_eq_true, or_true, true_or, or_false, false_or, and_true, true_and, and_self, not_false_eq_true, not_true_eq_false, *])]) (by decide)]; rfl) | (rw [checkP_ln (k := k) (e := 2) hlo (by omega) (by omega) hkp (by unfold errLn Plan.ln; rw [if_neg (by rw [g1', g2', g3', c3]; decide), if_pos (by omega)]) (by decide)]; rfl)
  intro c3; have c3r := c3; try simp only [td] at c3
  refine V_skip (then_n ?_)
  refine Vs rfl ?_
  refine Lp rfl (p_fieldo fo68_0 rfl rfl) ?_
  refine Lr rfl (rl ag3 rfl rfl rfl) ?_
  refine Lp rfl (p_eql rfl rfl rfl) ?_
  refine Lm rfl rfl rfl ?_
  refine L_cases (d := 50) rfl ?_ ?_
  ·intro g4; have g4' := g4; try simp only [td] at g4'
   refine L_yes rfl rfl rfl g4 (X_p (p_fieldo fo68_1 rfl rfl) ?_)
   refine L_yes rfl rfl rfl g4 (X_rd (rl ag3 rfl rfl rfl) ?_)
   refine L_yes rfl rfl rfl g4 (X_p (p_eql rfl rfl rfl) ?_)
   refine Lp rfl (p_pick_t rfl rfl g4 rfl) ?_
   refine Lm rfl rfl rfl ?_
   refine L_cases (d := 55) rfl ?_ ?_
   ·intro g5; have g5' := g5; try simp only [td] at g5'
    iterate 5 refine L_no rfl rfl rfl g5 ?_
    refine Lp rfl (p_pick_t rfl rfl g5 rfl) ?_
    refine L_then (kp [1, 5, 61] rfl) ?_
    refine V_cond_t rfl rfl ?_
    refine Vs rfl ?_
    refine Lm rfl rfl rfl ?_
    iterate 3 refine La rfl rfl rfl ?_
    refine L_then (kp [2, 3, 4] rfl) ?_
    refine V_ret (blk_r (then_r (then_r (blk_r (then_r ?_)))))
    refine Leave.nil (.tmp rfl (.tmp rfl (.tmp rfl .nil))) ?_
    first | (rw [checkP_long (by simpa using c1)]; rfl) | (rw [checkP_tail hlo hln (by rw [tailP_alt]; simp only [Bool.or_eq_true, Bool.or_eq_false_iff, Bool.false_eq_true, or_true, true_or, or_false, false_or, and_true, true_and, and_self, not_false_eq_true, not_true_eq_false, *])]; rfl) | (rw [checkP_ok hlo hln (by rw [tailP_alt]; simp only [Bool.or_eq_true, Bool.or_eq_false_iff, Bool.false_eq_true, or_true, true_or, or_false, false_or, and_true, true_and, and_self, not_false_eq_true, not_true_eq_false, *])]; rfl) | (rw [checkP_ln (k := k) (e := 7) hlo (by omega) (by omega) hkp (by unfold errLn Plan.ln; rw [if_pos (by simp only [Bool.or_eq_true, Bool.or_eq_false_iff, Bool.false_eq_true, or_true, true_or, or_false, false_or, and_true, true_and, and_self, not_false_eq_true, not_true_eq_false, *])]) (by decide)]; rfl) | (rw [checkP_ln (k := k) (e := 2) hlo (by omega) (by omega) hkp (by unfold errLn Plan.ln; rw [if_neg (by rw [g1', g2', g3', c3]; decide), if_pos (by omega)]) (by decide)]; rfl)
   intro g5; have g5' := g5; try simp only [td] at g5'
   refine L_yes rfl rfl rfl g5 (X_p (p_fieldo fo68_2 rfl rfl) ?_)
   refine L_yes rfl rfl rfl g5 (X_rd (rl ag3 rfl rfl rfl) ?_)
   refine L_yes rfl rfl rfl g5 (X_p (p_fieldo fo68_3 rfl rfl) ?_)
   refine L_yes rfl rfl rfl g5 (X_rd (rl ag3 rfl rfl rfl) ?_)
   refine L_yes rfl rfl rfl g5 (X_p (p_gtr rfl rfl rfl) ?_)
   refine Lp rfl (p_pick_f rfl rfl g5 rfl) ?_
   refine L_then (kp [1, 5, 61] rfl) ?_
   refine V_cond rfl ?_ ?_
   ·intro c4; have c4r := c4; try simp only [td] at c4
    refine Vs rfl ?_
    refine Lm rfl rfl rfl ?_
    iterate 3 refine La rfl rfl rfl ?_
    refine L_then (kp [2, 3, 4] rfl) ?_
    refine V_ret (blk_r (then_r (then_r (blk_r (then_r ?_)))))
    refine Leave.nil (.tmp rfl (.tmp rfl (.tmp rfl .nil))) ?_
    first | (rw [checkP_long (by simpa using c1)]; rfl) | (rw [checkP_tail hlo hln (by rw [tailP_alt]; simp only [Bool.or_eq_true, Bool.or_eq_false_iff, Bool.false_eq_true, or_true, true_or, or_false, false_or, and_true, true_and, and_self, not_false_eq_true, not_true_eq_false, *])]; rfl) | (rw [checkP_ok hlo hln (by rw [tailP_alt]; simp only [Bool.or_eq_true, Bool.or_eq_false_iff, Bool.false_eq_true, or_true, true_or, or_false, false_or, and_true, true_and, and_self, not_false_eq_true, not_true_eq_false, *])]; rfl) | (rw [checkP_ln (k := k) (e := 7) hlo (by omega) (by omega) hkp (by unfold errLn Plan.ln; rw [if_pos (by simp only [Bool.or_eq_true, Bool.or_eq_false_iff, Bool.false_eq_true, or_true, true_or, or_false, false_or, and_true, true_and, and_self, not_false_eq_true, not_true_eq_false, *])]) (by decide)]; rfl) | (rw [checkP_ln (k := k) (e := 2) hlo (by omega) (by omega) hkp (by unfold errLn Plan.ln; rw [if_neg (by rw [g1', g2', g3', c3]; decide), if_pos (by omega)]) (by decide)]; rfl)
   intro c4; have c4r := c4; try simp only [td] at c4
   refine V_skip (blk_n (then_n ?_))
   refine V_region rfl ?_
   refine Lm rfl rfl rfl ?_
   first | refine Lp rfl (p_add' rfl rfl rfl (by unfold InI; omega)) ?_ | refine Lp rfl (p_add rfl rfl rfl) ?_
   refine La rfl rfl rfl ?_
   refine L_keep (kp [1, 5] rfl) (then_n ?_)
   refine ⟨k + 1, ?_, ?_, (.cons rfl (.cons rfl (.nil _))), (by repeat (first | exact List.Sublist.refl _ | apply List.Sublist.cons_cons | apply List.Sublist.cons | apply List.sublist_append_of_sublist_right)), rfl⟩
   ·refine ⟨by omega, by omega, fun j hj => ?_⟩; by_cases e : (j : Int) < k
    ·exact hkp j e
    have ej : j = k.toNat := by omega
    rw [ej]; unfold errLn Plan.ln; rw [if_neg (by rw [g1', g2', g3', c3]; decide), if_neg (by omega)]
   omega
  intro g4; have g4' := g4; try simp only [td] at g4'
  iterate 3 refine L_no rfl rfl rfl g4 ?_
  refine Lp rfl (p_pick_f rfl rfl g4 rfl) ?_
  refine Lm rfl rfl rfl ?_
  refine L_yes rfl rfl rfl rfl (X_p (p_fieldo fo68_2 rfl rfl) ?_)
  refine L_yes rfl rfl rfl rfl (X_rd (rl ag3 rfl rfl rfl) ?_)
  refine L_yes rfl rfl rfl rfl (X_p (p_fieldo fo68_3 rfl rfl) ?_)
  refine L_yes rfl rfl rfl rfl (X_rd (rl ag3 rfl rfl rfl) ?_)
  refine L_yes rfl rfl rfl rfl (X_p (p_gtr rfl rfl rfl) ?_)
  refine Lp rfl (p_pick_f rfl rfl rfl rfl) ?_
  refine L_then (kp [1, 5, 61] rfl) ?_
  refine V_cond rfl ?_ ?_
  ·intro c5; have c5r := c5; try simp only [td] at c5
   refine Vs rfl ?_
   refine Lm rfl rfl rfl ?_
   iterate 3 refine La rfl rfl rfl ?_
   refine L_then (kp [2, 3, 4] rfl) ?_
   refine V_ret (blk_r (then_r (then_r (blk_r (then_r ?_)))))
   refine Leave.nil (.tmp rfl (.tmp rfl (.tmp rfl .nil))) ?_
   first | (rw [checkP_long (by simpa using c1)]; rfl) | (rw [checkP_tail hlo hln (by rw [tailP_alt]; simp only [Bool.or_eq_true, Bool.or_eq_false_iff, Bool.false_eq_true, or_true, true_or, or_false, false_or, and_true, true_and, and_self, not_false_eq_true, not_true_eq_false, *])]; rfl) | (rw [checkP_ok hlo hln (by rw [tailP_alt]; simp only [Bool.or_eq_true, Bool.or_eq_false_iff, Bool.false_eq_true, or_true, true_or, or_false, false_or, and_true, true_and, and_self, not_false_eq_true, not_true_eq_false, *])]; rfl) | (rw [checkP_ln (k := k) (e := 7) hlo (by omega) (by omega) hkp (by unfold errLn Plan.ln; rw [if_pos (by simp only [Bool.or_eq_true, Bool.or_eq_false_iff, Bool.false_eq_true, or_true, true_or, or_false, false_or, and_true, true_and, and_self, not_false_eq_true, not_true_eq_false, *])]) (by decide)]; rfl) | (rw [checkP_ln (k := k) (e := 2) hlo (by omega) (by omega) hkp (by unfold errLn Plan.ln; rw [if_neg (by rw [g1', g2', g3', c3]; decide), if_pos (by omega)]) (by decide)]; rfl)
  intro c5; have c5r := c5; try simp only [td] at c5
  refine V_skip (blk_n (then_n ?_))
  refine V_region rfl ?_
  refine Lm rfl rfl rfl ?_
  first | refine Lp rfl (p_add' rfl rfl rfl (by unfold InI; omega)) ?_ | refine Lp rfl (p_add rfl rfl rfl) ?_
  refine La rfl rfl rfl ?_
  refine L_keep (kp [1, 5] rfl) (then_n ?_)
  refine ⟨k + 1, ?_, ?_, (.cons rfl (.cons rfl (.nil _))), (by repeat (first | exact List.Sublist.refl _ | apply List.Sublist.cons_cons | apply List.Sublist.cons | apply List.sublist_append_of_sublist_right)), rfl⟩
  ·refine ⟨by omega, by omega, fun j hj => ?_⟩; by_cases e : (j : Int) < k
   ·exact hkp j e
   have ej : j = k.toNat := by omega
   rw [ej]; unfold errLn Plan.ln; rw [if_neg (by rw [g1', g2', g3', c3]; decide), if_neg (by omega)]
  omega
 intro c2; have c2r := c2; try simp only [td] at c2
 have hln : ∀ j : Nat, j < p.lines.length → errLn (p.ln j) = 0 := fun j hj => hkp j (by omega)
 refine V_exit (then_e (then_e (blk_e rfl (then_n ?_))))
 refine V_seq ?_
 refine Vs rfl ?_
 refine Lp rfl (p_fieldo fo26_1 rfl rfl) ?_
 refine Lp rfl (p_fieldo fo24_0 rfl rfl) ?_
 refine Lr rfl (rl ag3 rfl rfl rfl) ?_
 refine Lc rfl rfl rfl rfl (fun w hg => drin_c _ _ _ w) ?_
 refine Lp rfl (p_not rfl rfl) ?_
 refine Lm rfl rfl rfl ?_
 refine L_cases (d := 68) rfl ?_ ?_
 ·intro g6; have g6' := g6; try simp only [td] at g6'
  iterate 8 refine L_no rfl rfl rfl g6 ?_
  refine Lp rfl (p_pick_t rfl rfl g6 rfl) ?_
  refine Lm rfl rfl rfl ?_
  iterate 4 refine L_no rfl rfl rfl rfl ?_
  refine Lp rfl (p_pick_t rfl rfl rfl rfl) ?_
  refine Lm rfl rfl rfl ?_
  iterate 4 refine L_no rfl rfl rfl rfl ?_
  refine Lp rfl (p_pick_t rfl rfl rfl rfl) ?_
  refine L_then (kp [89] rfl) ?_
  refine V_cond_t rfl rfl ?_
  refine Vs rfl ?_
  iterate 3 refine La rfl rfl rfl ?_
  refine L_then (kp [2, 3, 4] rfl) ?_
  refine V_ret (then_r ?_)
  refine Leave.nil (.tmp rfl (.tmp rfl (.tmp rfl .nil))) ?_
  first | (rw [checkP_long (by simpa using c1)]; rfl) | (rw [checkP_tail hlo hln (by rw [tailP_alt]; simp only [Bool.or_eq_true, Bool.or_eq_false_iff, Bool.false_eq_true, or_true, true_or, or_false, false_or, and_true, true_and, and_self, not_false_eq_true, not_true_eq_false, *])]; rfl) | (rw [checkP_ok hlo hln (by rw [tailP_alt]; simp only [Bool.or_eq_true, Bool.or_eq_false_iff, Bool.false_eq_true, or_true, true_or, or_false, false_or, and_true, true_and, and_self, not_false_eq_true, not_true_eq_false, *])]; rfl) | (rw [checkP_ln (k := k) (e := 7) hlo (by omega) (by omega) hkp (by unfold errLn Plan.ln; rw [if_pos (by simp only [Bool.or_eq_true, Bool.or_eq_false_iff, Bool.false_eq_true, or_true, true_or, or_false, false_or, and_true, true_and, and_self, not_false_eq_true, not_true_eq_false, *])]) (by decide)]; rfl) | (rw [checkP_ln (k := k) (e := 2) hlo (by omega) (by omega) hkp (by unfold errLn Plan.ln; rw [if_neg (by rw [g1', g2', g3', c3]; decide), if_pos (by omega)]) (by decide)]; rfl)
 intro g6; have g6' := g6; try simp only [td] at g6'
 refine L_yes rfl rfl rfl g6 (X_p (p_fieldo fo26_1 rfl rfl) ?_)
 refine L_yes rfl rfl rfl g6 (X_p (p_fieldo fo24_1 rfl rfl) ?_)
 refine L_yes rfl rfl rfl g6 (X_rd (rl ag3 rfl rfl rfl) ?_)
 refine L_yes rfl rfl rfl g6 (X_p (p_fieldo fo26_1 rfl rfl) ?_)
 refine L_yes rfl rfl rfl g6 (X_p (p_fieldo fo24_0 rfl rfl) ?_)
 refine L_yes rfl rfl rfl g6 (X_rd (rl ag3 rfl rfl rfl) ?_)
 refine L_yes rfl rfl rfl g6 (X_wr (w_callP rfl rfl rfl (fun w hg => drin_c _ _ _ w)) ?_)
 rintro _ _ ⟨rfl, rfl⟩
 refine L_yes rfl rfl rfl g6 (X_p (p_not rfl rfl) ?_)
 refine Lp rfl (p_pick_f rfl rfl g6 rfl) ?_
 refine Lm rfl rfl rfl ?_
 refine L_cases (d := 78) rfl ?_ ?_
 ·intro g7; have g7' := g7; try simp only [td] at g7'
  iterate 4 refine L_no rfl rfl rfl g7 ?_
  refine Lp rfl (p_pick_t rfl rfl g7 rfl) ?_
  refine Lm rfl rfl rfl ?_
  iterate 4 refine L_no rfl rfl rfl rfl ?_
  refine Lp rfl (p_pick_t rfl rfl rfl rfl) ?_
  refine L_then (kp [89] rfl) ?_
  refine V_cond_t rfl rfl ?_
  refine Vs rfl ?_
  iterate 3 refine La rfl rfl rfl ?_
  refine L_then (kp [2, 3, 4] rfl) ?_
  refine V_ret (then_r ?_)
  refine Leave.nil (.tmp rfl (.tmp rfl (.tmp rfl .nil))) ?_
  first | (rw [checkP_long (by simpa using c1)]; rfl) | (rw [checkP_tail hlo hln (by rw [tailP_alt]; simp only [Bool.or_eq_true, Bool.or_eq_false_iff, Bool.false_eq_true, or_true, true_or, or_false, false_or, and_true, true_and, and_self, not_false_eq_true, not_true_eq_false, *])]; rfl) | (rw [checkP_ok hlo hln (by rw [tailP_alt]; simp only [Bool.or_eq_true, Bool.or_eq_false_iff, Bool.false_eq_true, or_true, true_or, or_false, false_or, and_true, true_and, and_self, not_false_eq_true, not_true_eq_false, *])]; rfl) | (rw [checkP_ln (k := k) (e := 7) hlo (by omega) (by omega) hkp (by unfold errLn Plan.ln; rw [if_pos (by simp only [Bool.or_eq_true, Bool.or_eq_false_iff, Bool.false_eq_true, or_true, true_or, or_false, false_or, and_true, true_and, and_self, not_false_eq_true, not_true_eq_false, *])]) (by decide)]; rfl) | (rw [checkP_ln (k := k) (e := 2) hlo (by omega) (by omega) hkp (by unfold errLn Plan.ln; rw [if_neg (by rw [g1', g2', g3', c3]; decide), if_pos (by omega)]) (by decide)]; rfl)
 intro g7; have g7' := g7; try simp only [td] at g7'
 refine L_yes rfl rfl rfl g7 (X_p (p_fieldo fo26_2 rfl rfl) ?_)
 refine L_yes rfl rfl rfl g7 (X_rd (rl ag3 rfl rfl rfl) ?_)
 refine L_yes rfl rfl rfl g7 (X_wr (w_callP rfl rfl rfl (fun w hg => drin_c _ _ _ w)) ?_)
 rintro _ _ ⟨rfl, rfl⟩
 refine L_yes rfl rfl rfl g7 (X_p (p_not rfl rfl) ?_)
 refine Lp rfl (p_pick_f rfl rfl g7 rfl) ?_
 refine Lm rfl rfl rfl ?_
 refine L_cases (d := 84) rfl ?_ ?_
 ·intro g8; have g8' := g8; try simp only [td] at g8'
  iterate 4 refine L_no rfl rfl rfl g8 ?_
  refine Lp rfl (p_pick_t rfl rfl g8 rfl) ?_
  refine L_then (kp [89] rfl) ?_
  refine V_cond_t rfl rfl ?_
  refine Vs rfl ?_
  iterate 3 refine La rfl rfl rfl ?_
  refine L_then (kp [2, 3, 4] rfl) ?_
  refine V_ret (then_r ?_)
  refine Leave.nil (.tmp rfl (.tmp rfl (.tmp rfl .nil))) ?_
  first | (rw [checkP_long (by simpa using c1)]; rfl) | (rw [checkP_tail hlo hln (by rw [tailP_alt]; simp only [Bool.or_eq_true, Bool.or_eq_false_iff, Bool.false_eq_true, or_true, true_or, or_false, false_or, and_true, true_and, and_self, not_false_eq_true, not_true_eq_false, *])]; rfl) | (rw [checkP_ok hlo hln (by rw [tailP_alt]; simp only [Bool.or_eq_true, Bool.or_eq_false_iff, Bool.false_eq_true, or_true, true_or, or_false, false_or, and_true, true_and, and_self, not_false_eq_true, not_true_eq_false, *])]; rfl) | (rw [checkP_ln (k := k) (e := 7) hlo (by omega) (by omega) hkp (by unfold errLn Plan.ln; rw [if_pos (by simp only [Bool.or_eq_true, Bool.or_eq_false_iff, Bool.false_eq_true, or_true, true_or, or_false, false_or, and_true, true_and, and_self, not_false_eq_true, not_true_eq_false, *])]) (by decide)]; rfl) | (rw [checkP_ln (k := k) (e := 2) hlo (by omega) (by omega) hkp (by unfold errLn Plan.ln; rw [if_neg (by rw [g1', g2', g3', c3]; decide), if_pos (by omega)]) (by decide)]; rfl)
 intro g8; have g8' := g8; try simp only [td] at g8'
 refine L_yes rfl rfl rfl g8 (X_p (p_fieldo fo26_3 rfl rfl) ?_)
 refine L_yes rfl rfl rfl g8 (X_rd (rl ag3 rfl rfl rfl) ?_)
 refine L_yes rfl rfl rfl g8 (X_wr (w_callP rfl rfl rfl (fun w hg => drin_c _ _ _ w)) ?_)
 rintro _ _ ⟨rfl, rfl⟩
 refine L_yes rfl rfl rfl g8 (X_p (p_not rfl rfl) ?_)
 refine Lp rfl (p_pick_f rfl rfl g8 rfl) ?_
 refine L_then (kp [89] rfl) ?_
 refine V_cond rfl ?_ ?_
 ·intro c6; have c6r := c6; try simp only [td] at c6
  refine Vs rfl ?_
  iterate 3 refine La rfl rfl rfl ?_
  refine L_then (kp [2, 3, 4] rfl) ?_
  refine V_ret (then_r ?_)
  refine Leave.nil (.tmp rfl (.tmp rfl (.tmp rfl .nil))) ?_
  first | (rw [checkP_long (by simpa using c1)]; rfl) | (rw [checkP_tail hlo hln (by rw [tailP_alt]; simp only [Bool.or_eq_true, Bool.or_eq_false_iff, Bool.false_eq_true, or_true, true_or, or_false, false_or, and_true, true_and, and_self, not_false_eq_true, not_true_eq_false, *])]; rfl) | (rw [checkP_ok hlo hln (by rw [tailP_alt]; simp only [Bool.or_eq_true, Bool.or_eq_false_iff, Bool.false_eq_true, or_true, true_or, or_false, false_or, and_true, true_and, and_self, not_false_eq_true, not_true_eq_false, *])]; rfl) | (rw [checkP_ln (k := k) (e := 7) hlo (by omega) (by omega) hkp (by unfold errLn Plan.ln; rw [if_pos (by simp only [Bool.or_eq_true, Bool.or_eq_false_iff, Bool.false_eq_true, or_true, true_or, or_false, false_or, and_true, true_and, and_self, not_false_eq_true, not_true_eq_false, *])]) (by decide)]; rfl) | (rw [checkP_ln (k := k) (e := 2) hlo (by omega) (by omega) hkp (by unfold errLn Plan.ln; rw [if_neg (by rw [g1', g2', g3', c3]; decide), if_pos (by omega)]) (by decide)]; rfl)
 intro c6; have c6r := c6; try simp only [td] at c6
 refine V_skip (then_n ?_)
 refine Vs rfl ?_
 iterate 3 refine La rfl rfl rfl ?_
 refine L_then (kp [2, 3, 4] rfl) ?_
 refine V_ret ?_
 refine Leave.nil (.tmp rfl (.tmp rfl (.tmp rfl .nil))) ?_
 first | (rw [checkP_long (by simpa using c1)]; rfl) | (rw [checkP_tail hlo hln (by rw [tailP_alt]; simp only [Bool.or_eq_true, Bool.or_eq_false_iff, Bool.false_eq_true, or_true, true_or, or_false, false_or, and_true, true_and, and_self, not_false_eq_true, not_true_eq_false, *])]; rfl) | (rw [checkP_ok hlo hln (by rw [tailP_alt]; simp only [Bool.or_eq_true, Bool.or_eq_false_iff, Bool.false_eq_true, or_true, true_or, or_false, false_or, and_true, true_and, and_self, not_false_eq_true, not_true_eq_false, *])]; rfl) | (rw [checkP_ln (k := k) (e := 7) hlo (by omega) (by omega) hkp (by unfold errLn Plan.ln; rw [if_pos (by simp only [Bool.or_eq_true, Bool.or_eq_false_iff, Bool.false_eq_true, or_true, true_or, or_false, false_or, and_true, true_and, and_self, not_false_eq_true, not_true_eq_false, *])]) (by decide)]; rfl) | (rw [checkP_ln (k := k) (e := 2) hlo (by omega) (by omega) hkp (by unfold errLn Plan.ln; rw [if_neg (by rw [g1', g2', g3', c3]; decide), if_pos (by omega)]) (by decide)]; rfl)

end Go.Proofs.YtlcccpeelombbaaGreatDoor

/- YtlcccpeelombbaaGreatDoor: the reference of layer 6: falls, lines, looks, decisions. -/
set_option linter.all false
namespace Go.Proofs.YtlcccpeelombbaaGreatDoor
open Go.Vc Go.Tk Go.De
set_option maxRecDepth 100000
theorem dradd_c (a b : Span) (h : (-4611686018427387904 ≤ a.lo ∧ a.lo ≤ 4611686018427387903) ∧ (-4611686018427387904 ≤ a.hi ∧ a.hi ≤ 4611686018427387903) ∧ (-4611686018427387904 ≤ b.lo ∧ b.lo ≤ 4611686018427387903) ∧ (-4611686018427387904 ≤ b.hi ∧ b.hi ≤ 4611686018427387903)) (w : World) : FnP Tryz.prog 66 [.agg #[.int .i64 a.lo, .int .i64 a.hi], .agg #[.int .i64 b.lo, .int .i64 b.hi]] w (.agg #[.int .i64 (De.addS a b).lo, .int .i64 (De.addS a b).hi]) := by
 refine fn_pure Tryz.func66 rfl (by kernel_rfl) Tryz.ntmps66 Tryz.results66 rfl ?_
 refine Vs rfl ?_
 refine Lw rfl (w_box rfl rfl) ?_
 rintro _ _ ⟨b1, hb1, rfl, rfl⟩
 refine Lw rfl (w_box rfl rfl) ?_
 rintro _ _ ⟨b2, hb2, rfl, rfl⟩
 refine Lw rfl (w_alloc zr24 rfl) ?_
 rintro _ _ ⟨b3, hb3, rfl, rfl⟩
 refine L_then (kp [2, 3, 4] rfl) ?_
 refine Vs rfl ?_
 refine Lp rfl (p_fieldo fo24_0 rfl rfl) ?_
 refine Lr rfl (rl ag3 rfl rfl rfl) ?_
 refine Lp rfl (p_fieldo fo24_0 rfl rfl) ?_
 refine Lr rfl (rl ag3 rfl rfl rfl) ?_
 first | refine Lp rfl (p_add' rfl rfl rfl (by unfold InI; omega)) ?_ | refine Lp rfl (p_add rfl rfl rfl) ?_
 refine Lp rfl (p_fieldo fo24_1 rfl rfl) ?_
 refine Lr rfl (rl ag3 rfl rfl rfl) ?_
 refine Lp rfl (p_fieldo fo24_1 rfl rfl) ?_
 refine Lr rfl (rl ag3 rfl rfl rfl) ?_
 first | refine Lp rfl (p_add' rfl rfl rfl (by unfold InI; omega)) ?_ | refine Lp rfl (p_add rfl rfl rfl) ?_
 refine Lp rfl (p_build (r := [_, _]) pl24 zr24 rfl rfl rfl) ?_
 refine Ls (cs' := [_, _]) rfl sz24 rfl rfl rfl rfl rfl rfl rfl ?_
 refine L_then (kp [4] rfl) ?_
 refine V_ret ?_
 refine Leave.nil (.cellA (us := [_, _]) rfl ag24 sz24 (by repeat first | exact mH | apply mT) rfl .nil) ?_
 rfl
theorem drhull_c (a b : Span) (w : World) : FnP Tryz.prog 68 [.agg #[.int .i64 a.lo, .int .i64 a.hi], .agg #[.int .i64 b.lo, .int .i64 b.hi]] w (.agg #[.int .i64 (De.hullS a b).lo, .int .i64 (De.hullS a b).hi]) := by
 refine fn_pure Tryz.func68 rfl (by kernel_rfl) Tryz.ntmps68 Tryz.results68 rfl ?_
 refine Vs rfl ?_
 refine Lw rfl (w_box rfl rfl) ?_
 rintro _ _ ⟨b1, hb1, rfl, rfl⟩
 refine Lw rfl (w_box rfl rfl) ?_
 rintro _ _ ⟨b2, hb2, rfl, rfl⟩
 refine Lw rfl (w_alloc zr24 rfl) ?_
 rintro _ _ ⟨b3, hb3, rfl, rfl⟩
 refine L_then (kp [2, 3, 4] rfl) ?_
 refine Vs rfl ?_
 refine Lp rfl (p_fieldo fo24_0 rfl rfl) ?_
 refine Lr rfl (rl ag3 rfl rfl rfl) ?_
 refine Lp rfl (p_fieldo fo24_0 rfl rfl) ?_
 refine Lr rfl (rl ag3 rfl rfl rfl) ?_
 refine Lp rfl (p_min rfl rfl rfl) ?_
 refine Lp rfl (p_fieldo fo24_1 rfl rfl) ?_
 refine Lr rfl (rl ag3 rfl rfl rfl) ?_
 refine Lp rfl (p_fieldo fo24_1 rfl rfl) ?_
 refine Lr rfl (rl ag3 rfl rfl rfl) ?_
 refine Lp rfl (p_max rfl rfl rfl) ?_
 refine Lp rfl (p_build (r := [_, _]) pl24 zr24 rfl rfl rfl) ?_
 refine Ls (cs' := [_, _]) rfl sz24 rfl rfl rfl rfl rfl rfl rfl ?_
 refine L_then (kp [4] rfl) ?_
 refine V_ret ?_
 refine Leave.nil (.cellA (us := [_, _]) rfl ag24 sz24 (by repeat first | exact mH | apply mT) rfl .nil) ?_
 rfl
theorem drplace_c (s : Span) (w : World) : FnP Tryz.prog 67 [.agg #[.int .i64 s.lo, .int .i64 s.hi]] w (.bool (!(offS s))) := by
 refine fn_pure Tryz.func67 rfl (by kernel_rfl) Tryz.ntmps67 Tryz.results67 rfl ?_
 refine Vs rfl ?_
 refine Lw rfl (w_box rfl rfl) ?_
 rintro _ _ ⟨b1, hb1, rfl, rfl⟩
 refine La rfl rfl rfl ?_
 refine L_then (kp [1] rfl) ?_
 refine Vs rfl ?_
 refine Lp rfl (p_fieldo fo24_0 rfl rfl) ?_
 refine Lr rfl (rl ag3 rfl rfl rfl) ?_
 refine Lp rfl (p_fieldo fo24_1 rfl rfl) ?_
 refine Lr rfl (rl ag3 rfl rfl rfl) ?_
 refine Lp rfl (p_leq rfl rfl rfl) ?_
 refine Lm rfl rfl rfl ?_
 refine L_cases (d := 8) rfl ?_ ?_
 ·intro g1; have g1' := g1; try simp only [td] at g1'
  refine L_yes rfl rfl rfl g1 (X_p (p_fieldo fo24_0 rfl rfl) ?_)
  refine L_yes rfl rfl rfl g1 (X_rd (rl ag3 rfl rfl rfl) ?_)
  refine L_yes rfl rfl rfl g1 (X_wr (w_callP rfl rfl rfl (fun w hg => drin_c _ _ _ w)) ?_)
  rintro _ _ ⟨rfl, rfl⟩
  refine Lp rfl (p_pick_t rfl rfl g1 rfl) ?_
  refine Lm rfl rfl rfl ?_
  refine L_cases (d := 13) rfl ?_ ?_
  ·intro g2; have g2' := g2; try simp only [td] at g2'
   refine L_yes rfl rfl rfl g2 (X_p (p_fieldo fo24_1 rfl rfl) ?_)
   refine L_yes rfl rfl rfl g2 (X_rd (rl ag3 rfl rfl rfl) ?_)
   refine L_yes rfl rfl rfl g2 (X_wr (w_callP rfl rfl rfl (fun w hg => drin_c _ _ _ w)) ?_)
   rintro _ _ ⟨rfl, rfl⟩
   refine Lp rfl (p_pick_t rfl rfl g2 rfl) ?_
   refine La rfl rfl rfl ?_
   refine L_then (kp [2] rfl) ?_
   refine V_ret ?_
   refine Leave.nil (.tmp rfl .nil) ?_
   show Value.bool _ = _
   congr 1
   rw [Bool.eq_iff_iff]
   simp only [Bool.not_eq_true', off_false, oP_false, oP_true, Bool.false_eq_true, false_iff] at *
   omega
  intro g2; have g2' := g2; try simp only [td] at g2'
  iterate 3 refine L_no rfl rfl rfl g2 ?_
  refine Lp rfl (p_pick_f rfl rfl g2 rfl) ?_
  refine La rfl rfl rfl ?_
  refine L_then (kp [2] rfl) ?_
  refine V_ret ?_
  refine Leave.nil (.tmp rfl .nil) ?_
  show Value.bool _ = _
  congr 1
  rw [Bool.eq_iff_iff]
  simp only [Bool.not_eq_true', off_false, oP_false, oP_true, Bool.false_eq_true, false_iff] at *
  omega
 intro g1; have g1' := g1; try simp only [td] at g1'
 iterate 3 refine L_no rfl rfl rfl g1 ?_
 refine Lp rfl (p_pick_f rfl rfl g1 rfl) ?_
 refine Lm rfl rfl rfl ?_
 iterate 3 refine L_no rfl rfl rfl rfl ?_
 refine Lp rfl (p_pick_f rfl rfl rfl rfl) ?_
 refine La rfl rfl rfl ?_
 refine L_then (kp [2] rfl) ?_
 refine V_ret ?_
 refine Leave.nil (.tmp rfl .nil) ?_
 show Value.bool _ = _
 congr 1
 rw [Bool.eq_iff_iff]
 simp only [Bool.not_eq_true', off_false, oP_false, oP_true, Bool.false_eq_true, false_iff] at *
 omega
theorem drtick_c (n : Int) (w : World) : FnP Tryz.prog 39 [.int .i64 n] w (.bool (!(oP n 0 100000))) := by
 refine fn_pure Tryz.func39 rfl (by kernel_rfl) Tryz.ntmps39 Tryz.results39 rfl ?_
 refine Vs rfl ?_
 refine La rfl rfl rfl ?_
 refine L_then (kp [0] rfl) ?_
 refine Vs rfl ?_
 refine Lm rfl rfl rfl ?_
 refine Lc rfl rfl rfl rfl (fun w hg => drin_c _ _ _ w) ?_
 refine La rfl rfl rfl ?_
 refine L_then (kp [2] rfl) ?_
 refine V_ret ?_
 refine Leave.nil (.tmp rfl .nil) ?_
 rfl
theorem drgood_c (p : De.Plan) (pv : Value) (w : World) (hp : PlanR w pv p) : FnP Tryz.prog 33 [pv] w (.int .i64 (planE p)) := by
 have hP := hp
 obtain ⟨lv, rfl, hls⟩ := hp.ex
 have hlen := hp.len
 refine fn_pure Tryz.func33 rfl (by kernel_rfl) Tryz.ntmps33 Tryz.results33 rfl ?_
 refine Vs rfl ?_
 refine Lw rfl (w_box rfl rfl) ?_
 rintro _ _ ⟨b1, hb1, rfl, rfl⟩
 refine La rfl rfl rfl ?_
 refine L_then (kp [1] rfl) ?_
 refine Vs rfl ?_
 refine Lr rfl (rlA (vs := [_, _, _, _, _]) ag26 sz26 rfl rfl rfl) ?_
 refine Lc rfl rfl rfl rfl (fun w hg => drcheck_c p _ w (hP.good hg)) ?_
 refine Lm rfl rfl rfl ?_
 iterate 3 refine Lp rfl (p_ext rfl rfl rfl) ?_
 iterate 3 refine La rfl rfl rfl ?_
 refine L_then (kp [5] rfl) ?_
 refine Vs rfl ?_
 refine Lm rfl rfl rfl ?_
 refine La rfl rfl rfl ?_
 refine L_then (kp [2] rfl) ?_
 refine V_ret ?_
 refine Leave.nil (.tmp rfl .nil) ?_
 rfl
set_option maxHeartbeats 4000000 in
theorem drmost_c (l : De.Line) (x y : Span) (hl : LnB l) (hx : offS x = false) (hy : offS y = false) (w : World) : FnP Tryz.prog 46 [.agg (De.Line.cells l).toArray, .agg #[.int .i64 x.lo, .int .i64 x.hi, .int .i64 y.lo, .int .i64 y.hi]] w (.int .i64 (mostL l x y)) := by
 have hx := off_false.1 hx
 have hy := off_false.1 hy
 have m0 := mul_abs (A := 1000) (B := 2000000000) (by omega) hl.a (b := x.lo) (by omega)
 have m1 := mul_abs (A := 1000) (B := 2000000000) (by omega) hl.a (b := x.hi) (by omega)
 have m2 := mul_abs (A := 1000) (B := 2000000000) (by omega) hl.b (b := y.lo) (by omega)
 have m3 := mul_abs (A := 1000) (B := 2000000000) (by omega) hl.b (b := y.hi) (by omega)
 refine fn_pure Tryz.func46 rfl (by kernel_rfl) Tryz.ntmps46 Tryz.results46 rfl ?_
 refine Vs rfl ?_
 refine Lw rfl (w_box rfl rfl) ?_
 rintro _ _ ⟨b1, hb1, rfl, rfl⟩
 refine Lw rfl (w_box rfl rfl) ?_
 rintro _ _ ⟨b2, hb2, rfl, rfl⟩
 refine La rfl rfl rfl ?_
 refine L_then (kp [2, 3] rfl) ?_
 refine Vs rfl ?_
 refine Lp rfl (p_fieldo fo68_0 rfl rfl) ?_
 refine Lr rfl (rl ag3 rfl rfl rfl) ?_
 refine Lp rfl (p_fieldo fo30_0 rfl rfl) ?_
 refine Lp rfl (p_fieldo fo24_0 rfl rfl) ?_
 refine Lr rfl (rl ag3 rfl rfl rfl) ?_
 refine Lp rfl (p_mul' rfl rfl rfl (by unfold InI; omega)) ?_
 refine Lp rfl (p_fieldo fo68_0 rfl rfl) ?_
 refine Lr rfl (rl ag3 rfl rfl rfl) ?_
 refine Lp rfl (p_fieldo fo30_0 rfl rfl) ?_
 refine Lp rfl (p_fieldo fo24_1 rfl rfl) ?_
 refine Lr rfl (rl ag3 rfl rfl rfl) ?_
 refine Lp rfl (p_mul' rfl rfl rfl (by unfold InI; omega)) ?_
 refine Lp rfl (p_max rfl rfl rfl) ?_
 refine Lp rfl (p_fieldo fo68_1 rfl rfl) ?_
 refine Lr rfl (rl ag3 rfl rfl rfl) ?_
 refine Lp rfl (p_fieldo fo30_1 rfl rfl) ?_
 refine Lp rfl (p_fieldo fo24_0 rfl rfl) ?_
 refine Lr rfl (rl ag3 rfl rfl rfl) ?_
 refine Lp rfl (p_mul' rfl rfl rfl (by unfold InI; omega)) ?_
 refine Lp rfl (p_fieldo fo68_1 rfl rfl) ?_
 refine Lr rfl (rl ag3 rfl rfl rfl) ?_
 refine Lp rfl (p_fieldo fo30_1 rfl rfl) ?_
 refine Lp rfl (p_fieldo fo24_1 rfl rfl) ?_
 refine Lr rfl (rl ag3 rfl rfl rfl) ?_
 refine Lp rfl (p_mul' rfl rfl rfl (by unfold InI; omega)) ?_
 refine Lp rfl (p_max rfl rfl rfl) ?_
 first | refine Lp rfl (p_add' rfl rfl rfl (by unfold InI; omega)) ?_ | refine Lp rfl (p_add rfl rfl rfl) ?_
 refine La rfl rfl rfl ?_
 refine L_then (kp [4] rfl) ?_
 refine V_ret ?_
 refine Leave.nil (.tmp rfl .nil) ?_
 rfl
set_option maxHeartbeats 8000000 in
theorem drfall_c (b : Box) (hb : FallB 0 b) (p : De.Plan) (pv : Value) (hgp : GoodP p) (w : World) (hp : PlanR w pv p) : FnP Tryz.prog 35 [pv, .agg (Box.cells b).toArray] w (.tuple #[.agg #[.int .i64 (fallT p.grav b).x.lo, .int .i64 (fallT p.grav b).x.hi, .int .i64 (fallT p.grav b).y.lo, .int .i64 (fallT p.grav b).y.hi], .agg #[.int .i64 (fallT p.grav b).at_.lo, .int .i64 (fallT p.grav b).at_.hi], .int .i64 (fallT p.grav b).e]) := by
 have hP := hp
 obtain ⟨lv, rfl, hls⟩ := hp.ex
 have hlen := hp.len
 have hgr := hgp.nums.2.1
 refine fn_pure Tryz.func35 rfl (by kernel_rfl) Tryz.ntmps35 Tryz.results35 rfl ?_
 refine Vs rfl ?_
 refine Lw rfl (w_box rfl rfl) ?_
 rintro _ _ ⟨b1, hb1, rfl, rfl⟩
 refine Lw rfl (w_box rfl rfl) ?_
 rintro _ _ ⟨b2, hb2, rfl, rfl⟩
 refine Lw rfl (w_alloc zr30 rfl) ?_
 rintro _ _ ⟨b3, hb3, rfl, rfl⟩
 refine Lw rfl (w_alloc zr24 rfl) ?_
 rintro _ _ ⟨b4, hb4, rfl, rfl⟩
 refine La rfl rfl rfl ?_
 refine L_then (kp [2, 3, 4, 5] rfl) ?_
 refine Vs rfl ?_
 refine Lw rfl (w_alloc zr30 rfl) ?_
 rintro _ _ ⟨b5, hb5, rfl, rfl⟩
 refine L_then (kp [2, 3, 4, 5, 7] rfl) ?_
 refine Vs rfl ?_
 refine Lw rfl (w_alloc zr24 rfl) ?_
 rintro _ _ ⟨b6, hb6, rfl, rfl⟩
 refine L_then (kp [2, 3, 4, 5, 7, 8] rfl) ?_
 refine Vs rfl ?_
 refine La rfl rfl rfl ?_
 refine L_then (kp [2, 3, 4, 5, 7, 8, 9] rfl) ?_
 refine V_seq ?_
 refine Vs rfl ?_
 refine La rfl rfl rfl ?_
 refine L_then (kp [2, 3, 4, 5, 7, 8, 9, 10] rfl) ?_
 refine V_block ?_
 refine V_loop1 (γ := Nat × Span × Span × Int × Bool) (kp [2, 3, 4, 5, 7, 8] rfl) (fun (n, ax, ay, lo, dn) => [(10, .int .i64 ((n : Int) + 1)), (9, .bool dn)]) (fun (n, ax, ay, lo, dn) => [(b6, .cells #[.int .i64 lo, .int .i64 0] 24), (b5, .cells #[.int .i64 ax.lo, .int .i64 ax.hi, .int .i64 ay.lo, .int .i64 ay.hi] 30), (b4, .cells #[.int .i64 0, .int .i64 0] 24), (b3, .cells #[.int .i64 0, .int .i64 0, .int .i64 0, .int .i64 0] 30), (b2, .cells #[.int .i64 (runF p.grav b n).at_, .int .i64 (runF p.grav b n).x.lo, .int .i64 (runF p.grav b n).x.hi, .int .i64 (runF p.grav b n).y.lo, .int .i64 (runF p.grav b n).y.hi, .int .i64 (runF p.grav b n).z.lo, .int .i64 (runF p.grav b n).z.hi, .int .i64 (runF p.grav b n).vx.lo, .int .i64 (runF p.grav b n).vx.hi, .int .i64 (runF p.grav b n).vy.lo, .int .i64 (runF p.grav b n).vy.hi, .int .i64 (runF p.grav b n).vz.lo, .int .i64 (runF p.grav b n).vz.hi] 28), (b1, .cells #[lv, .int .i64 p.grav.lo, .int .i64 p.grav.hi, .int .i64 p.wait, .int .i64 p.blind] 26)]) (fun (n, ax, ay, lo, dn) => n ≤ 3000 ∧ AccV b.at_ (accN (runF p.grav b) n) ax ay lo dn ∧ ∀ j, 1 ≤ j → j ≤ n → offB (runF p.grav b j) = false ∧ 0 < (runF p.grav b j).z.hi) (fun (n, ax, ay, lo, dn) => 3000 - n) ((0, De.spZ, De.spZ, 0, false)) (.cons rfl (.cons rfl (.nil _))) (by repeat (first | exact List.nil_sublist _ | exact List.Sublist.refl _ | apply List.Sublist.cons_cons | apply List.Sublist.cons)) (⟨by omega, AccV.zero, fun j h1 h2 => by omega⟩) ?_
 rintro ⟨n, ax, ay, lo, dn⟩ hi
 obtain ⟨hn0, hacc, hall⟩ := hi
 dsimp only at hn0 hacc hall ⊢
 have hbn := run_bnd hb hgr n (fun j h1 h2 => (hall j h1 h2).1)
 have hat := run_at (g := p.grav) (b := b) n
 obtain ⟨n0, n1, n2, n3, n4, n5, n6⟩ := hbn
 have hb0 := hb.1
 refine V_seq ?_
 refine Vs rfl ?_
 refine Lm rfl rfl rfl ?_
 refine Lp rfl (p_leq rfl rfl rfl) ?_
 refine L_then (kp [2, 3, 4, 5, 7, 8, 9, 10, 12] rfl) ?_
 refine V_cond rfl ?_ ?_
 ·intro c1; try simp only [td] at c1
  refine V_skip (then_n ?_)
  refine V_seq ?_
  refine V_block ?_
  refine V_seq (V_draw (.rd 0 (.rd 1 (.rd 2 (.rd 3 (.rd 5 (.rd 6 (.rd 7 (.rd 8 (.rd 10 (.rd 11 (.rd 12 (.rd 13 (.wr 4 [13, 12, 11, 10, 8, 7, 6, 5, 2, 0] (.rd 15 (.wr 9 [15, 13, 12, 11, 10, 7, 5, 3, 2, 1, 0] (.wr 14 [15, 12, 10, 8, 7, 6, 5, 3, 2, 1, 0] (.wr 16 [] (.rd 17 (.wr 18 [] (.rd 19 (.wr 20 [] .done))))))))))))))))))))) mixed (by kernel_rfl) rfl ?_)
  refine Dp rfl rfl (p_fieldo fo28_1 rfl rfl) ?_
  refine Dr rfl rfl (rlA (vs := [_, _]) ag24 sz24 rfl rfl rfl) ?_
  refine Dp rfl rfl (p_fieldo fo28_4 rfl rfl) ?_
  refine Dr rfl rfl (rlA (vs := [_, _]) ag24 sz24 rfl rfl rfl) ?_
  refine Dp rfl rfl (p_fieldo fo28_2 rfl rfl) ?_
  refine Dr rfl rfl (rlA (vs := [_, _]) ag24 sz24 rfl rfl rfl) ?_
  refine Dp rfl rfl (p_fieldo fo28_5 rfl rfl) ?_
  refine Dr rfl rfl (rlA (vs := [_, _]) ag24 sz24 rfl rfl rfl) ?_
  refine Dp rfl rfl (p_fieldo fo28_3 rfl rfl) ?_
  refine Dr rfl rfl (rlA (vs := [_, _]) ag24 sz24 rfl rfl rfl) ?_
  refine Dp rfl rfl (p_fieldo fo28_6 rfl rfl) ?_
  refine Dr rfl rfl (rlA (vs := [_, _]) ag24 sz24 rfl rfl rfl) ?_
  refine D_wr (.go (E' := [(13, _), (11, _), (8, _), (6, _)]) rfl (.plain rfl) (w_callP rfl rfl rfl (fun w hg => dradd_c _ _ (by omega) w)) rfl ?_)
  rintro _ _ ⟨rfl, rfl⟩
  refine ⟨(.cons rfl (.plain rfl) (rlA (vs := [_, _]) ag24 sz24 rfl rfl rfl) (.cons rfl (.plain rfl) (rlA (vs := [_, _]) ag24 sz24 rfl rfl rfl) (.cons rfl (.plain rfl) (rlA (vs := [_, _]) ag24 sz24 rfl rfl rfl) (.cons rfl (.plain rfl) (rlA (vs := [_, _]) ag24 sz24 rfl rfl rfl) .nil)))), ?_⟩
  refine Dp rfl rfl (p_fieldo fo28_1 rfl rfl) ?_
  refine D_wr (.go (E' := [(13, _), (11, _)]) rfl (.plain rfl) (w_callP rfl rfl rfl (fun w hg => dradd_c _ _ (by omega) w)) rfl ?_)
  rintro _ _ ⟨rfl, rfl⟩
  refine ⟨(.cons rfl (.plain rfl) (rlA (vs := [_, _]) ag24 sz24 rfl rfl rfl) (.cons rfl (.plain rfl) (rlA (vs := [_, _]) ag24 sz24 rfl rfl rfl) .nil)), ?_⟩
  refine D_wr (.go (E' := []) rfl (.plain rfl) (w_callP rfl rfl rfl (fun w hg => dradd_c _ _ (by omega) w)) rfl ?_)
  rintro _ _ ⟨rfl, rfl⟩
  refine ⟨.nil, ?_⟩
  refine D_wr (.go (E' := []) rfl (.plain rfl) (ws (cs' := [_, _, _, _, _, _, _, _, _, _, _, _, _]) sz24 rfl rfl rfl rfl rfl rfl rfl) rfl ?_)
  rintro _ _ ⟨rfl, rfl⟩
  refine ⟨.nil, ?_⟩
  refine Dp rfl rfl (p_fieldo fo28_2 rfl rfl) ?_
  refine D_wr (.go (E' := []) rfl (.plain rfl) (ws (cs' := [_, _, _, _, _, _, _, _, _, _, _, _, _]) sz24 rfl rfl rfl rfl rfl rfl rfl) rfl ?_)
  rintro _ _ ⟨rfl, rfl⟩
  refine ⟨.nil, ?_⟩
  refine Dp rfl rfl (p_fieldo fo28_3 rfl rfl) ?_
  refine D_wr (.go (E' := []) rfl (.plain rfl) (ws (cs' := [_, _, _, _, _, _, _, _, _, _, _, _, _]) sz24 rfl rfl rfl rfl rfl rfl rfl) rfl ?_)
  rintro _ _ ⟨rfl, rfl⟩
  refine ⟨.nil, ?_⟩
  refine D_then (kp [2, 3, 4, 5, 7, 8, 9, 10] rfl) ?_
  refine Vs rfl ?_
  refine Lp rfl (p_fieldo fo28_6 rfl rfl) ?_
  refine Lp rfl (p_fieldo fo24_0 rfl rfl) ?_
  refine Lr rfl (rl ag3 rfl rfl rfl) ?_
  refine Lp rfl (p_fieldo fo26_1 rfl rfl) ?_
  refine Lp rfl (p_fieldo fo24_1 rfl rfl) ?_
  refine Lr rfl (rl ag3 rfl rfl rfl) ?_
  first | refine Lp rfl (p_sub' rfl rfl rfl (by unfold InI; omega)) ?_ | refine Lp rfl (p_sub rfl rfl rfl) ?_
  refine Lp rfl (p_fieldo fo28_6 rfl rfl) ?_
  refine Lp rfl (p_fieldo fo24_1 rfl rfl) ?_
  refine Lr rfl (rl ag3 rfl rfl rfl) ?_
  refine Lp rfl (p_fieldo fo26_1 rfl rfl) ?_
  refine Lp rfl (p_fieldo fo24_0 rfl rfl) ?_
  refine Lr rfl (rl ag3 rfl rfl rfl) ?_
  first | refine Lp rfl (p_sub' rfl rfl rfl (by unfold InI; omega)) ?_ | refine Lp rfl (p_sub rfl rfl rfl) ?_
  refine Lp rfl (p_build (r := [_, _]) pl24 zr24 rfl rfl rfl) ?_
  refine Lp rfl (p_fieldo fo28_6 rfl rfl) ?_
  refine Ls (cs' := [_, _, _, _, _, _, _, _, _, _, _, _, _]) rfl sz24 rfl rfl rfl rfl rfl rfl rfl ?_
  refine L_then (kp [2, 3, 4, 5, 7, 8, 9, 10] rfl) ?_
  refine V_seq ?_
  refine Vs rfl ?_
  refine Lp rfl (p_fieldo fo28_1 rfl rfl) ?_
  refine Lr rfl (rlA (vs := [_, _]) ag24 sz24 rfl rfl rfl) ?_
  refine Lc rfl rfl rfl rfl (fun w hg => drplace_c _ w) ?_
  refine Lp rfl (p_not rfl rfl) ?_
  refine Lm rfl rfl rfl ?_
  refine L_cases (d := 53) rfl ?_ ?_
  ·intro g1; have g1' := g1; try simp only [td] at g1'
   iterate 4 refine L_no rfl rfl rfl g1 ?_
   refine Lp rfl (p_pick_t rfl rfl g1 rfl) ?_
   refine Lm rfl rfl rfl ?_
   iterate 4 refine L_no rfl rfl rfl rfl ?_
   refine Lp rfl (p_pick_t rfl rfl rfl rfl) ?_
   refine L_then (kp [2, 3, 4, 5, 7, 8, 9, 10, 64] rfl) ?_
   refine V_cond_t rfl rfl ?_
   refine Vs rfl ?_
   refine Lp rfl (p_build (r := [_, _, _, _]) pl30 zr30 rfl rfl rfl) ?_
   refine Lp rfl (p_build (r := [_, _]) pl24 zr24 rfl rfl rfl) ?_
   refine Ls (cs' := [_, _, _, _]) rfl sz30 rfl rfl rfl rfl rfl rfl rfl ?_
   refine Ls (cs' := [_, _]) rfl sz24 rfl rfl rfl rfl rfl rfl rfl ?_
   refine La rfl rfl rfl ?_
   refine L_then (kp [4, 5, 6] rfl) ?_
   refine V_ret (then_r (blk_r (then_r (then_r (blk_r (then_r ?_))))))
   refine Leave.nil (.cellA (us := [_, _, _, _]) rfl ag30 sz30 (by repeat first | exact mH | apply mT) rfl (.cellA (us := [_, _]) rfl ag24 sz24 (by repeat first | exact mH | apply mT) rfl (.tmp rfl .nil))) ?_
   rw [fall_far (n := n) (by omega) hall (by show (offS (De.addS (runF p.grav b n).x (runF p.grav b n).vx) || (offS (De.addS (runF p.grav b n).y (runF p.grav b n).vy) || offS (De.addS (runF p.grav b n).z (runF p.grav b n).vz))) = true; simp [*])]; rfl
  intro g1; have g1' := g1; try simp only [td] at g1'
  refine L_yes rfl rfl rfl g1 (X_p (p_fieldo fo28_2 rfl rfl) ?_)
  refine L_yes rfl rfl rfl g1 (X_rd (rlA (vs := [_, _]) ag24 sz24 rfl rfl rfl) ?_)
  refine L_yes rfl rfl rfl g1 (X_wr (w_callP rfl rfl rfl (fun w hg => drplace_c _ w)) ?_)
  rintro _ _ ⟨rfl, rfl⟩
  refine L_yes rfl rfl rfl g1 (X_p (p_not rfl rfl) ?_)
  refine Lp rfl (p_pick_f rfl rfl g1 rfl) ?_
  refine Lm rfl rfl rfl ?_
  refine L_cases (d := 59) rfl ?_ ?_
  ·intro g2; have g2' := g2; try simp only [td] at g2'
   iterate 4 refine L_no rfl rfl rfl g2 ?_
   refine Lp rfl (p_pick_t rfl rfl g2 rfl) ?_
   refine L_then (kp [2, 3, 4, 5, 7, 8, 9, 10, 64] rfl) ?_
   refine V_cond_t rfl rfl ?_
   refine Vs rfl ?_
   refine Lp rfl (p_build (r := [_, _, _, _]) pl30 zr30 rfl rfl rfl) ?_
   refine Lp rfl (p_build (r := [_, _]) pl24 zr24 rfl rfl rfl) ?_
   refine Ls (cs' := [_, _, _, _]) rfl sz30 rfl rfl rfl rfl rfl rfl rfl ?_
   refine Ls (cs' := [_, _]) rfl sz24 rfl rfl rfl rfl rfl rfl rfl ?_
   refine La rfl rfl rfl ?_
   refine L_then (kp [4, 5, 6] rfl) ?_
   refine V_ret (then_r (blk_r (then_r (then_r (blk_r (then_r ?_))))))
   refine Leave.nil (.cellA (us := [_, _, _, _]) rfl ag30 sz30 (by repeat first | exact mH | apply mT) rfl (.cellA (us := [_, _]) rfl ag24 sz24 (by repeat first | exact mH | apply mT) rfl (.tmp rfl .nil))) ?_
   rw [fall_far (n := n) (by omega) hall (by show (offS (De.addS (runF p.grav b n).x (runF p.grav b n).vx) || (offS (De.addS (runF p.grav b n).y (runF p.grav b n).vy) || offS (De.addS (runF p.grav b n).z (runF p.grav b n).vz))) = true; simp [*])]; rfl
  intro g2; have g2' := g2; try simp only [td] at g2'
  refine L_yes rfl rfl rfl g2 (X_p (p_fieldo fo28_3 rfl rfl) ?_)
  refine L_yes rfl rfl rfl g2 (X_rd (rlA (vs := [_, _]) ag24 sz24 rfl rfl rfl) ?_)
  refine L_yes rfl rfl rfl g2 (X_wr (w_callP rfl rfl rfl (fun w hg => drplace_c _ w)) ?_)
  rintro _ _ ⟨rfl, rfl⟩
  refine L_yes rfl rfl rfl g2 (X_p (p_not rfl rfl) ?_)
  refine Lp rfl (p_pick_f rfl rfl g2 rfl) ?_
  refine L_then (kp [2, 3, 4, 5, 7, 8, 9, 10, 64] rfl) ?_
  refine V_cond rfl ?_ ?_
  ·intro c2; try simp only [td] at c2
   refine Vs rfl ?_
   refine Lp rfl (p_build (r := [_, _, _, _]) pl30 zr30 rfl rfl rfl) ?_
   refine Lp rfl (p_build (r := [_, _]) pl24 zr24 rfl rfl rfl) ?_
   refine Ls (cs' := [_, _, _, _]) rfl sz30 rfl rfl rfl rfl rfl rfl rfl ?_
   refine Ls (cs' := [_, _]) rfl sz24 rfl rfl rfl rfl rfl rfl rfl ?_
   refine La rfl rfl rfl ?_
   refine L_then (kp [4, 5, 6] rfl) ?_
   refine V_ret (then_r (blk_r (then_r (then_r (blk_r (then_r ?_))))))
   refine Leave.nil (.cellA (us := [_, _, _, _]) rfl ag30 sz30 (by repeat first | exact mH | apply mT) rfl (.cellA (us := [_, _]) rfl ag24 sz24 (by repeat first | exact mH | apply mT) rfl (.tmp rfl .nil))) ?_
   rw [fall_far (n := n) (by omega) hall (by show (offS (De.addS (runF p.grav b n).x (runF p.grav b n).vx) || (offS (De.addS (runF p.grav b n).y (runF p.grav b n).vy) || offS (De.addS (runF p.grav b n).z (runF p.grav b n).vz))) = true; simp [*])]; rfl
  intro c2; try simp only [td] at c2
  have ho : offB (runF p.grav b (n + 1)) = false := by show (offS (De.addS (runF p.grav b n).x (runF p.grav b n).vx) || (offS (De.addS (runF p.grav b n).y (runF p.grav b n).vy) || offS (De.addS (runF p.grav b n).z (runF p.grav b n).vz))) = false; simp [*]
  refine V_skip (then_n ?_)
  refine V_seq ?_
  refine Vs rfl ?_
  refine Lp rfl (p_fieldo fo28_3 rfl rfl) ?_
  refine Lp rfl (p_fieldo fo24_0 rfl rfl) ?_
  refine Lr rfl (rl ag3 rfl rfl rfl) ?_
  refine Lp rfl (p_gtr rfl rfl rfl) ?_
  refine Lm rfl rfl rfl ?_
  refine L_cases (d := 71) rfl ?_ ?_
  ·intro g3; have g3' := g3; try simp only [td] at g3'
   refine L_yes rfl rfl rfl g3 (X_p (p_move rfl rfl) ?_)
   refine L_yes rfl rfl rfl g3 (X_p (p_not rfl rfl) ?_)
   refine Lp rfl (p_pick_t rfl rfl g3 rfl) ?_
   refine L_then (kp [2, 3, 4, 5, 7, 8, 9, 10, 74] rfl) ?_
   refine V_cond rfl ?_ ?_
   ·intro c3; try simp only [td] at c3
    have hd : dn = false := by simpa using c3
    have hz1 : 0 < (De.addS (runF p.grav b n).z (runF p.grav b n).vz).lo := by assumption
    refine V_exit (then_e (blk_e rfl (then_n ?_)))
    refine V_region rfl ?_
    refine Lm rfl rfl rfl ?_
    first | refine Lp rfl (p_add' rfl rfl rfl (by unfold InI; omega)) ?_ | refine Lp rfl (p_add rfl rfl rfl) ?_
    refine La rfl rfl rfl ?_
    refine L_keep (kp [2, 3, 4, 5, 7, 8, 9, 10] rfl) (then_n ?_)
    refine ⟨(n + 1, ax, ay, lo, dn), ?_, ?_, (.cons rfl (.cons rfl (.cons rfl (.cons rfl (.cons rfl (.cons rfl (.cons rfl (.cons rfl (.nil _))))))))), (by repeat (first | exact List.nil_sublist _ | exact List.Sublist.refl _ | apply List.Sublist.cons_cons | apply List.Sublist.cons | apply List.sublist_append_of_sublist_right)), rfl⟩
    ·refine ⟨by omega, ?_, ?_⟩
     ·rw [hd]; exact AccV.none hacc hd hz1
     intro j h1 h2
     by_cases e : j = n + 1
     ·rw [e]; exact ⟨ho, offZ ho hz1⟩
     exact hall j h1 (by omega)
    dsimp only; omega
   intro c3; try simp only [td] at c3
   refine V_skip (then_n ?_)
   refine V_seq ?_
   refine Vs rfl ?_
   refine Lm rfl rfl rfl ?_
   refine L_then (kp [2, 3, 4, 5, 7, 8, 10, 75] rfl) ?_
   refine V_cond rfl ?_ ?_
   ·intro c4; try simp only [td] at c4
    have hd : dn = true := c4
    refine V_draw (.rd 0 (.rd 1 (.rd 2 (.rd 3 (.rd 5 (.rd 6 (.rd 7 (.rd 8 (.wr 4 [8, 7, 6, 5, 2, 0] (.wr 9 [7, 5, 3, 2, 1, 0] (.rd 10 (.wr 11 [] .done)))))))))))) mixed (by kernel_rfl) rfl ?_
    refine Dp rfl rfl (p_fieldo fo30_0 rfl rfl) ?_
    refine Dr rfl rfl (rlA (vs := [_, _]) ag24 sz24 rfl rfl rfl) ?_
    refine Dp rfl rfl (p_fieldo fo28_1 rfl rfl) ?_
    refine Dr rfl rfl (rlA (vs := [_, _]) ag24 sz24 rfl rfl rfl) ?_
    refine Dp rfl rfl (p_fieldo fo30_1 rfl rfl) ?_
    refine Dr rfl rfl (rlA (vs := [_, _]) ag24 sz24 rfl rfl rfl) ?_
    refine Dp rfl rfl (p_fieldo fo28_2 rfl rfl) ?_
    refine Dr rfl rfl (rlA (vs := [_, _]) ag24 sz24 rfl rfl rfl) ?_
    refine D_wr (.go (E' := [(8, _), (6, _)]) rfl (.plain rfl) (w_callP rfl rfl rfl (fun w hg => drhull_c _ _ w)) rfl ?_)
    rintro _ _ ⟨rfl, rfl⟩
    refine ⟨(.cons rfl (.plain rfl) (rlA (vs := [_, _]) ag24 sz24 rfl rfl rfl) (.cons rfl (.plain rfl) (rlA (vs := [_, _]) ag24 sz24 rfl rfl rfl) .nil)), ?_⟩
    refine D_wr (.go (E' := []) rfl (.plain rfl) (w_callP rfl rfl rfl (fun w hg => drhull_c _ _ w)) rfl ?_)
    rintro _ _ ⟨rfl, rfl⟩
    refine ⟨.nil, ?_⟩
    refine Dp rfl rfl (p_build (r := [_, _, _, _]) pl30 zr30 rfl rfl rfl) ?_
    refine D_wr (.go (E' := []) rfl (.plain rfl) (ws (cs' := [_, _, _, _]) sz30 rfl rfl rfl rfl rfl rfl rfl) rfl ?_)
    rintro _ _ ⟨rfl, rfl⟩
    refine ⟨.nil, ?_⟩
    refine D_then (kp [2, 3, 4, 5, 7, 8, 10] rfl) ?_
    refine Vs rfl ?_
    refine La rfl rfl rfl ?_
    refine L_then (kp [2, 3, 4, 5, 7, 8, 9, 10] rfl) ?_
    refine Vs rfl ?_
    refine Lp rfl (p_fieldo fo28_3 rfl rfl) ?_
    refine Lp rfl (p_fieldo fo24_1 rfl rfl) ?_
    refine Lr rfl (rl ag3 rfl rfl rfl) ?_
    refine Lp rfl (p_leq rfl rfl rfl) ?_
    refine L_then (kp [2, 3, 4, 5, 7, 8, 9, 10, 100] rfl) ?_
    refine V_cond rfl ?_ ?_
    ·intro c5; try simp only [td] at c5
     have hzh : (De.addS (runF p.grav b n).z (runF p.grav b n).vz).hi ≤ 0 := c5
     refine Vs rfl ?_
     refine Lp rfl (p_fieldo fo28_0 rfl rfl) ?_
     refine Lr rfl (rl ag3 rfl rfl rfl) ?_
     refine Lm rfl rfl rfl ?_
     first | refine Lp rfl (p_add' rfl rfl rfl (by unfold InI; omega)) ?_ | refine Lp rfl (p_add rfl rfl rfl) ?_
     refine Lp rfl (p_fieldo fo24_1 rfl rfl) ?_
     refine Ls (cs' := [_, _]) rfl sz3 rfl rfl rfl rfl rfl rfl rfl ?_
     refine L_then (kp [4, 5, 7, 8] rfl) ?_
     refine V_seq (V_draw (.rd 0 (.rd 1 (.wr 2 [1] (.wr 3 [] (.rd 4 .done))))) mixed (by kernel_rfl) rfl ?_)
     refine Dr rfl rfl (rlA (vs := [_, _, _, _]) ag30 sz30 rfl rfl rfl) ?_
     refine Dr rfl rfl (rlA (vs := [_, _]) ag24 sz24 rfl rfl rfl) ?_
     refine D_wr (.go (E' := [(1, _)]) rfl (.plain rfl) (ws (cs' := [_, _, _, _]) sz30 rfl rfl rfl rfl rfl rfl rfl) rfl ?_)
     rintro _ _ ⟨rfl, rfl⟩
     refine ⟨(.cons rfl (.plain rfl) (rlA (vs := [_, _]) ag24 sz24 rfl rfl rfl) .nil), ?_⟩
     refine D_wr (.go (E' := []) rfl (.plain rfl) (ws (cs' := [_, _]) sz24 rfl rfl rfl rfl rfl rfl rfl) rfl ?_)
     rintro _ _ ⟨rfl, rfl⟩
     refine ⟨.nil, ?_⟩
     refine Dp rfl rfl (p_assign rfl rfl) ?_
     refine D_then (kp [4, 5, 6] rfl) ?_
     refine V_ret (blk_r (then_r (then_r (blk_r (then_r ?_)))))
     refine Leave.nil (.cellA (us := [_, _, _, _]) rfl ag30 sz30 (by repeat first | exact mH | apply mT) rfl (.cellA (us := [_, _]) rfl ag24 sz24 (by repeat first | exact mH | apply mT) rfl (.tmp rfl .nil))) ?_
     have h := AccV.more hacc hd
     rw [fall_done (n := n) (by omega) hall ho hzh, h.done, hat]; rfl
    intro c5; try simp only [td] at c5
    have hzh : 0 < (De.addS (runF p.grav b n).z (runF p.grav b n).vz).hi := c5
    refine V_skip (blk_n (then_n ?_))
    refine V_region rfl ?_
    refine Lm rfl rfl rfl ?_
    first | refine Lp rfl (p_add' rfl rfl rfl (by unfold InI; omega)) ?_ | refine Lp rfl (p_add rfl rfl rfl) ?_
    refine La rfl rfl rfl ?_
    refine L_keep (kp [2, 3, 4, 5, 7, 8, 9, 10] rfl) (then_n ?_)
    refine ⟨(n + 1, De.hullS ax (runF p.grav b (n + 1)).x, De.hullS ay (runF p.grav b (n + 1)).y, lo, true), ?_, ?_, (.cons rfl (.cons rfl (.cons rfl (.cons rfl (.cons rfl (.cons rfl (.cons rfl (.cons rfl (.nil _))))))))), (by repeat (first | exact List.nil_sublist _ | exact List.Sublist.refl _ | apply List.Sublist.cons_cons | apply List.Sublist.cons | apply List.sublist_append_of_sublist_right)), rfl⟩
    ·refine ⟨by omega, ?_, ?_⟩
     ·have h := AccV.more hacc hd; rw [hd] at h; exact h
     intro j h1 h2
     by_cases e : j = n + 1
     ·rw [e]; exact ⟨ho, hzh⟩
     exact hall j h1 (by omega)
    dsimp only; omega
   intro c4; try simp only [td] at c4
   have hd : dn = false := c4
   have hzl : (De.addS (runF p.grav b n).z (runF p.grav b n).vz).lo ≤ 0 := by first | assumption | (exfalso; simp_all)
   refine V_draw (.rd 0 (.rd 1 (.rd 2 (.rd 3 (.rd 4 (.rd 5 (.rd 6 (.rd 7 (.rd 8 (.wr 9 [8, 7, 6, 5] (.rd 10 (.wr 11 [] .done)))))))))))) mixed (by kernel_rfl) rfl ?_
   refine Dp rfl rfl (p_fieldo fo28_1 rfl rfl) ?_
   refine Dr rfl rfl (rlA (vs := [_, _]) ag24 sz24 rfl rfl rfl) ?_
   refine Dp rfl rfl (p_fieldo fo28_2 rfl rfl) ?_
   refine Dr rfl rfl (rlA (vs := [_, _]) ag24 sz24 rfl rfl rfl) ?_
   refine Dp rfl rfl (p_build (r := [_, _, _, _]) pl30 zr30 rfl rfl rfl) ?_
   refine Dp rfl rfl (p_fieldo fo28_0 rfl rfl) ?_
   refine Dr rfl rfl (rl ag3 rfl rfl rfl) ?_
   refine Dm rfl rfl rfl rfl ?_
   first | refine Dp rfl rfl (p_add' rfl rfl rfl (by unfold InI; omega)) ?_ | refine Dp rfl rfl (p_add rfl rfl rfl) ?_
   refine D_wr (.go (E' := [(6, _)]) rfl (.plain rfl) (ws (cs' := [_, _, _, _]) sz30 rfl rfl rfl rfl rfl rfl rfl) rfl ?_)
   rintro _ _ ⟨rfl, rfl⟩
   refine ⟨(.cons rfl (.plain rfl) (rl ag3 rfl rfl rfl) .nil), ?_⟩
   refine Dp rfl rfl (p_fieldo fo24_0 rfl rfl) ?_
   refine D_wr (.go (E' := []) rfl (.plain rfl) (ws (cs' := [_, _]) sz3 rfl rfl rfl rfl rfl rfl rfl) rfl ?_)
   rintro _ _ ⟨rfl, rfl⟩
   refine ⟨.nil, ?_⟩
   refine D_then (kp [2, 3, 4, 5, 7, 8, 10] rfl) ?_
   refine Vs rfl ?_
   refine La rfl rfl rfl ?_
   refine L_then (kp [2, 3, 4, 5, 7, 8, 9, 10] rfl) ?_
   refine Vs rfl ?_
   refine Lp rfl (p_fieldo fo28_3 rfl rfl) ?_
   refine Lp rfl (p_fieldo fo24_1 rfl rfl) ?_
   refine Lr rfl (rl ag3 rfl rfl rfl) ?_
   refine Lp rfl (p_leq rfl rfl rfl) ?_
   refine L_then (kp [2, 3, 4, 5, 7, 8, 9, 10, 100] rfl) ?_
   refine V_cond rfl ?_ ?_
   ·intro c6; try simp only [td] at c6
    have hzh : (De.addS (runF p.grav b n).z (runF p.grav b n).vz).hi ≤ 0 := c6
    refine Vs rfl ?_
    refine Lp rfl (p_fieldo fo28_0 rfl rfl) ?_
    refine Lr rfl (rl ag3 rfl rfl rfl) ?_
    refine Lm rfl rfl rfl ?_
    first | refine Lp rfl (p_add' rfl rfl rfl (by unfold InI; omega)) ?_ | refine Lp rfl (p_add rfl rfl rfl) ?_
    refine Lp rfl (p_fieldo fo24_1 rfl rfl) ?_
    refine Ls (cs' := [_, _]) rfl sz3 rfl rfl rfl rfl rfl rfl rfl ?_
    refine L_then (kp [4, 5, 7, 8] rfl) ?_
    refine V_seq (V_draw (.rd 0 (.rd 1 (.wr 2 [1] (.wr 3 [] (.rd 4 .done))))) mixed (by kernel_rfl) rfl ?_)
    refine Dr rfl rfl (rlA (vs := [_, _, _, _]) ag30 sz30 rfl rfl rfl) ?_
    refine Dr rfl rfl (rlA (vs := [_, _]) ag24 sz24 rfl rfl rfl) ?_
    refine D_wr (.go (E' := [(1, _)]) rfl (.plain rfl) (ws (cs' := [_, _, _, _]) sz30 rfl rfl rfl rfl rfl rfl rfl) rfl ?_)
    rintro _ _ ⟨rfl, rfl⟩
    refine ⟨(.cons rfl (.plain rfl) (rlA (vs := [_, _]) ag24 sz24 rfl rfl rfl) .nil), ?_⟩
    refine D_wr (.go (E' := []) rfl (.plain rfl) (ws (cs' := [_, _]) sz24 rfl rfl rfl rfl rfl rfl rfl) rfl ?_)
    rintro _ _ ⟨rfl, rfl⟩
    refine ⟨.nil, ?_⟩
    refine Dp rfl rfl (p_assign rfl rfl) ?_
    refine D_then (kp [4, 5, 6] rfl) ?_
    refine V_ret (blk_r (then_r (then_r (blk_r (then_r ?_)))))
    refine Leave.nil (.cellA (us := [_, _, _, _]) rfl ag30 sz30 (by repeat first | exact mH | apply mT) rfl (.cellA (us := [_, _]) rfl ag24 sz24 (by repeat first | exact mH | apply mT) rfl (.tmp rfl .nil))) ?_
    have h := AccV.first hacc hd hzl
    rw [fall_done (n := n) (by omega) hall ho hzh, h.done, hat]; rfl
   intro c6; try simp only [td] at c6
   have hzh : 0 < (De.addS (runF p.grav b n).z (runF p.grav b n).vz).hi := c6
   refine V_skip (blk_n (then_n ?_))
   refine V_region rfl ?_
   refine Lm rfl rfl rfl ?_
   first | refine Lp rfl (p_add' rfl rfl rfl (by unfold InI; omega)) ?_ | refine Lp rfl (p_add rfl rfl rfl) ?_
   refine La rfl rfl rfl ?_
   refine L_keep (kp [2, 3, 4, 5, 7, 8, 9, 10] rfl) (then_n ?_)
   refine ⟨(n + 1, (runF p.grav b (n + 1)).x, (runF p.grav b (n + 1)).y, (runF p.grav b n).at_ + ((n : Int) + 1), true), ?_, ?_, (.cons rfl (.cons rfl (.cons rfl (.cons rfl (.cons rfl (.cons rfl (.cons rfl (.cons rfl (.nil _))))))))), (by repeat (first | exact List.nil_sublist _ | exact List.Sublist.refl _ | apply List.Sublist.cons_cons | apply List.Sublist.cons | apply List.sublist_append_of_sublist_right)), rfl⟩
   ·refine ⟨by omega, ?_, ?_⟩
    ·rw [hat]; exact AccV.first hacc hd hzl
    intro j h1 h2
    by_cases e : j = n + 1
    ·rw [e]; exact ⟨ho, hzh⟩
    exact hall j h1 (by omega)
   dsimp only; omega
  intro g3; have g3' := g3; try simp only [td] at g3'
  iterate 2 refine L_no rfl rfl rfl g3 ?_
  refine Lp rfl (p_pick_f rfl rfl g3 rfl) ?_
  refine L_then (kp [2, 3, 4, 5, 7, 8, 9, 10, 74] rfl) ?_
  refine V_cond_f rfl rfl ?_
  refine V_skip (then_n ?_)
  refine V_seq ?_
  refine Vs rfl ?_
  refine Lm rfl rfl rfl ?_
  refine L_then (kp [2, 3, 4, 5, 7, 8, 10, 75] rfl) ?_
  refine V_cond rfl ?_ ?_
  ·intro c7; try simp only [td] at c7
   have hd : dn = true := c7
   refine V_draw (.rd 0 (.rd 1 (.rd 2 (.rd 3 (.rd 5 (.rd 6 (.rd 7 (.rd 8 (.wr 4 [8, 7, 6, 5, 2, 0] (.wr 9 [7, 5, 3, 2, 1, 0] (.rd 10 (.wr 11 [] .done)))))))))))) mixed (by kernel_rfl) rfl ?_
   refine Dp rfl rfl (p_fieldo fo30_0 rfl rfl) ?_
   refine Dr rfl rfl (rlA (vs := [_, _]) ag24 sz24 rfl rfl rfl) ?_
   refine Dp rfl rfl (p_fieldo fo28_1 rfl rfl) ?_
   refine Dr rfl rfl (rlA (vs := [_, _]) ag24 sz24 rfl rfl rfl) ?_
   refine Dp rfl rfl (p_fieldo fo30_1 rfl rfl) ?_
   refine Dr rfl rfl (rlA (vs := [_, _]) ag24 sz24 rfl rfl rfl) ?_
   refine Dp rfl rfl (p_fieldo fo28_2 rfl rfl) ?_
   refine Dr rfl rfl (rlA (vs := [_, _]) ag24 sz24 rfl rfl rfl) ?_
   refine D_wr (.go (E' := [(8, _), (6, _)]) rfl (.plain rfl) (w_callP rfl rfl rfl (fun w hg => drhull_c _ _ w)) rfl ?_)
   rintro _ _ ⟨rfl, rfl⟩
   refine ⟨(.cons rfl (.plain rfl) (rlA (vs := [_, _]) ag24 sz24 rfl rfl rfl) (.cons rfl (.plain rfl) (rlA (vs := [_, _]) ag24 sz24 rfl rfl rfl) .nil)), ?_⟩
   refine D_wr (.go (E' := []) rfl (.plain rfl) (w_callP rfl rfl rfl (fun w hg => drhull_c _ _ w)) rfl ?_)
   rintro _ _ ⟨rfl, rfl⟩
   refine ⟨.nil, ?_⟩
   refine Dp rfl rfl (p_build (r := [_, _, _, _]) pl30 zr30 rfl rfl rfl) ?_
   refine D_wr (.go (E' := []) rfl (.plain rfl) (ws (cs' := [_, _, _, _]) sz30 rfl rfl rfl rfl rfl rfl rfl) rfl ?_)
   rintro _ _ ⟨rfl, rfl⟩
   refine ⟨.nil, ?_⟩
   refine D_then (kp [2, 3, 4, 5, 7, 8, 10] rfl) ?_
   refine Vs rfl ?_
   refine La rfl rfl rfl ?_
   refine L_then (kp [2, 3, 4, 5, 7, 8, 9, 10] rfl) ?_
   refine Vs rfl ?_
   refine Lp rfl (p_fieldo fo28_3 rfl rfl) ?_
   refine Lp rfl (p_fieldo fo24_1 rfl rfl) ?_
   refine Lr rfl (rl ag3 rfl rfl rfl) ?_
   refine Lp rfl (p_leq rfl rfl rfl) ?_
   refine L_then (kp [2, 3, 4, 5, 7, 8, 9, 10, 100] rfl) ?_
   refine V_cond rfl ?_ ?_
   ·intro c8; try simp only [td] at c8
    have hzh : (De.addS (runF p.grav b n).z (runF p.grav b n).vz).hi ≤ 0 := c8
    refine Vs rfl ?_
    refine Lp rfl (p_fieldo fo28_0 rfl rfl) ?_
    refine Lr rfl (rl ag3 rfl rfl rfl) ?_
    refine Lm rfl rfl rfl ?_
    first | refine Lp rfl (p_add' rfl rfl rfl (by unfold InI; omega)) ?_ | refine Lp rfl (p_add rfl rfl rfl) ?_
    refine Lp rfl (p_fieldo fo24_1 rfl rfl) ?_
    refine Ls (cs' := [_, _]) rfl sz3 rfl rfl rfl rfl rfl rfl rfl ?_
    refine L_then (kp [4, 5, 7, 8] rfl) ?_
    refine V_seq (V_draw (.rd 0 (.rd 1 (.wr 2 [1] (.wr 3 [] (.rd 4 .done))))) mixed (by kernel_rfl) rfl ?_)
    refine Dr rfl rfl (rlA (vs := [_, _, _, _]) ag30 sz30 rfl rfl rfl) ?_
    refine Dr rfl rfl (rlA (vs := [_, _]) ag24 sz24 rfl rfl rfl) ?_
    refine D_wr (.go (E' := [(1, _)]) rfl (.plain rfl) (ws (cs' := [_, _, _, _]) sz30 rfl rfl rfl rfl rfl rfl rfl) rfl ?_)
    rintro _ _ ⟨rfl, rfl⟩
    refine ⟨(.cons rfl (.plain rfl) (rlA (vs := [_, _]) ag24 sz24 rfl rfl rfl) .nil), ?_⟩
    refine D_wr (.go (E' := []) rfl (.plain rfl) (ws (cs' := [_, _]) sz24 rfl rfl rfl rfl rfl rfl rfl) rfl ?_)
    rintro _ _ ⟨rfl, rfl⟩
    refine ⟨.nil, ?_⟩
    refine Dp rfl rfl (p_assign rfl rfl) ?_
    refine D_then (kp [4, 5, 6] rfl) ?_
    refine V_ret (blk_r (then_r (then_r (blk_r (then_r ?_)))))
    refine Leave.nil (.cellA (us := [_, _, _, _]) rfl ag30 sz30 (by repeat first | exact mH | apply mT) rfl (.cellA (us := [_, _]) rfl ag24 sz24 (by repeat first | exact mH | apply mT) rfl (.tmp rfl .nil))) ?_
    have h := AccV.more hacc hd
    rw [fall_done (n := n) (by omega) hall ho hzh, h.done, hat]; rfl
   intro c8; try simp only [td] at c8
   have hzh : 0 < (De.addS (runF p.grav b n).z (runF p.grav b n).vz).hi := c8
   refine V_skip (blk_n (then_n ?_))
   refine V_region rfl ?_
   refine Lm rfl rfl rfl ?_
   first | refine Lp rfl (p_add' rfl rfl rfl (by unfold InI; omega)) ?_ | refine Lp rfl (p_add rfl rfl rfl) ?_
   refine La rfl rfl rfl ?_
   refine L_keep (kp [2, 3, 4, 5, 7, 8, 9, 10] rfl) (then_n ?_)
   refine ⟨(n + 1, De.hullS ax (runF p.grav b (n + 1)).x, De.hullS ay (runF p.grav b (n + 1)).y, lo, true), ?_, ?_, (.cons rfl (.cons rfl (.cons rfl (.cons rfl (.cons rfl (.cons rfl (.cons rfl (.cons rfl (.nil _))))))))), (by repeat (first | exact List.nil_sublist _ | exact List.Sublist.refl _ | apply List.Sublist.cons_cons | apply List.Sublist.cons | apply List.sublist_append_of_sublist_right)), rfl⟩
   ·refine ⟨by omega, ?_, ?_⟩
    ·have h := AccV.more hacc hd; rw [hd] at h; exact h
    intro j h1 h2
    by_cases e : j = n + 1
    ·rw [e]; exact ⟨ho, hzh⟩
    exact hall j h1 (by omega)
   dsimp only; omega
  intro c7; try simp only [td] at c7
  have hd : dn = false := c7
  have hzl : (De.addS (runF p.grav b n).z (runF p.grav b n).vz).lo ≤ 0 := by first | assumption | (exfalso; simp_all)
  refine V_draw (.rd 0 (.rd 1 (.rd 2 (.rd 3 (.rd 4 (.rd 5 (.rd 6 (.rd 7 (.rd 8 (.wr 9 [8, 7, 6, 5] (.rd 10 (.wr 11 [] .done)))))))))))) mixed (by kernel_rfl) rfl ?_
  refine Dp rfl rfl (p_fieldo fo28_1 rfl rfl) ?_
  refine Dr rfl rfl (rlA (vs := [_, _]) ag24 sz24 rfl rfl rfl) ?_
  refine Dp rfl rfl (p_fieldo fo28_2 rfl rfl) ?_
  refine Dr rfl rfl (rlA (vs := [_, _]) ag24 sz24 rfl rfl rfl) ?_
  refine Dp rfl rfl (p_build (r := [_, _, _, _]) pl30 zr30 rfl rfl rfl) ?_
  refine Dp rfl rfl (p_fieldo fo28_0 rfl rfl) ?_
  refine Dr rfl rfl (rl ag3 rfl rfl rfl) ?_
  refine Dm rfl rfl rfl rfl ?_
  first | refine Dp rfl rfl (p_add' rfl rfl rfl (by unfold InI; omega)) ?_ | refine Dp rfl rfl (p_add rfl rfl rfl) ?_
  refine D_wr (.go (E' := [(6, _)]) rfl (.plain rfl) (ws (cs' := [_, _, _, _]) sz30 rfl rfl rfl rfl rfl rfl rfl) rfl ?_)
  rintro _ _ ⟨rfl, rfl⟩
  refine ⟨(.cons rfl (.plain rfl) (rl ag3 rfl rfl rfl) .nil), ?_⟩
  refine Dp rfl rfl (p_fieldo fo24_0 rfl rfl) ?_
  refine D_wr (.go (E' := []) rfl (.plain rfl) (ws (cs' := [_, _]) sz3 rfl rfl rfl rfl rfl rfl rfl) rfl ?_)
  rintro _ _ ⟨rfl, rfl⟩
  refine ⟨.nil, ?_⟩
  refine D_then (kp [2, 3, 4, 5, 7, 8, 10] rfl) ?_
  refine Vs rfl ?_
  refine La rfl rfl rfl ?_
  refine L_then (kp [2, 3, 4, 5, 7, 8, 9, 10] rfl) ?_
  refine Vs rfl ?_
  refine Lp rfl (p_fieldo fo28_3 rfl rfl) ?_
  refine Lp rfl (p_fieldo fo24_1 rfl rfl) ?_
  refine Lr rfl (rl ag3 rfl rfl rfl) ?_
  refine Lp rfl (p_leq rfl rfl rfl) ?_
  refine L_then (kp [2, 3, 4, 5, 7, 8, 9, 10, 100] rfl) ?_
  refine V_cond rfl ?_ ?_
  ·intro c9; try simp only [td] at c9
   have hzh : (De.addS (runF p.grav b n).z (runF p.grav b n).vz).hi ≤ 0 := c9
   refine Vs rfl ?_
   refine Lp rfl (p_fieldo fo28_0 rfl rfl) ?_
   refine Lr rfl (rl ag3 rfl rfl rfl) ?_
   refine Lm rfl rfl rfl ?_
   first | refine Lp rfl (p_add' rfl rfl rfl (by unfold InI; omega)) ?_ | refine Lp rfl (p_add rfl rfl rfl) ?_
   refine Lp rfl (p_fieldo fo24_1 rfl rfl) ?_
   refine Ls (cs' := [_, _]) rfl sz3 rfl rfl rfl rfl rfl rfl rfl ?_
   refine L_then (kp [4, 5, 7, 8] rfl) ?_
   refine V_seq (V_draw (.rd 0 (.rd 1 (.wr 2 [1] (.wr 3 [] (.rd 4 .done))))) mixed (by kernel_rfl) rfl ?_)
   refine Dr rfl rfl (rlA (vs := [_, _, _, _]) ag30 sz30 rfl rfl rfl) ?_
   refine Dr rfl rfl (rlA (vs := [_, _]) ag24 sz24 rfl rfl rfl) ?_
   refine D_wr (.go (E' := [(1, _)]) rfl (.plain rfl) (ws (cs' := [_, _, _, _]) sz30 rfl rfl rfl rfl rfl rfl rfl) rfl ?_)
   rintro _ _ ⟨rfl, rfl⟩
   refine ⟨(.cons rfl (.plain rfl) (rlA (vs := [_, _]) ag24 sz24 rfl rfl rfl) .nil), ?_⟩
   refine D_wr (.go (E' := []) rfl (.plain rfl) (ws (cs' := [_, _]) sz24 rfl rfl rfl rfl rfl rfl rfl) rfl ?_)
   rintro _ _ ⟨rfl, rfl⟩
   refine ⟨.nil, ?_⟩
   refine Dp rfl rfl (p_assign rfl rfl) ?_
   refine D_then (kp [4, 5, 6] rfl) ?_
   refine V_ret (blk_r (then_r (then_r (blk_r (then_r ?_)))))
   refine Leave.nil (.cellA (us := [_, _, _, _]) rfl ag30 sz30 (by repeat first | exact mH | apply mT) rfl (.cellA (us := [_, _]) rfl ag24 sz24 (by repeat first | exact mH | apply mT) rfl (.tmp rfl .nil))) ?_
   have h := AccV.first hacc hd hzl
   rw [fall_done (n := n) (by omega) hall ho hzh, h.done, hat]; rfl
  intro c9; try simp only [td] at c9
  have hzh : 0 < (De.addS (runF p.grav b n).z (runF p.grav b n).vz).hi := c9
  refine V_skip (blk_n (then_n ?_))
  refine V_region rfl ?_
  refine Lm rfl rfl rfl ?_
  first | refine Lp rfl (p_add' rfl rfl rfl (by unfold InI; omega)) ?_ | refine Lp rfl (p_add rfl rfl rfl) ?_
  refine La rfl rfl rfl ?_
  refine L_keep (kp [2, 3, 4, 5, 7, 8, 9, 10] rfl) (then_n ?_)
  refine ⟨(n + 1, (runF p.grav b (n + 1)).x, (runF p.grav b (n + 1)).y, (runF p.grav b n).at_ + ((n : Int) + 1), true), ?_, ?_, (.cons rfl (.cons rfl (.cons rfl (.cons rfl (.cons rfl (.cons rfl (.cons rfl (.cons rfl (.nil _))))))))), (by repeat (first | exact List.nil_sublist _ | exact List.Sublist.refl _ | apply List.Sublist.cons_cons | apply List.Sublist.cons | apply List.sublist_append_of_sublist_right)), rfl⟩
  ·refine ⟨by omega, ?_, ?_⟩
   ·rw [hat]; exact AccV.first hacc hd hzl
   intro j h1 h2
   by_cases e : j = n + 1
   ·rw [e]; exact ⟨ho, hzh⟩
   exact hall j h1 (by omega)
  dsimp only; omega
 intro c1; try simp only [td] at c1
 refine V_exit (then_e (then_e (blk_e rfl (then_n ?_))))
 refine Vs rfl ?_
 refine Lp rfl (p_build (r := [_, _, _, _]) pl30 zr30 rfl rfl rfl) ?_
 refine Lp rfl (p_build (r := [_, _]) pl24 zr24 rfl rfl rfl) ?_
 refine Ls (cs' := [_, _, _, _]) rfl sz30 rfl rfl rfl rfl rfl rfl rfl ?_
 refine Ls (cs' := [_, _]) rfl sz24 rfl rfl rfl rfl rfl rfl rfl ?_
 refine La rfl rfl rfl ?_
 refine L_then (kp [4, 5, 6] rfl) ?_
 refine V_ret ?_
 refine Leave.nil (.cellA (us := [_, _, _, _]) rfl ag30 sz30 (by repeat first | exact mH | apply mT) rfl (.cellA (us := [_, _]) rfl ag24 sz24 (by repeat first | exact mH | apply mT) rfl (.tmp rfl .nil))) ?_
 have en : n = 3000 := by omega
 subst en
 rw [fall_end hall]; rfl
theorem drtracked_c (p : De.Plan) (pv : Value) (w : World) (hp : PlanR w pv p) (t : Task) (tv qv : Value) (ht : TaskR w (.agg #[.int .i64 t.frm, .int .i64 t.speed, .int .i64 t.accel, tv, qv]) t) : FnP Tryz.prog 38 [pv, .agg #[.int .i64 t.frm, .int .i64 t.speed, .int .i64 t.accel, tv, qv]] w (.int .i64 (taskE p t)) := by
 have hP := hp
 obtain ⟨lv, rfl, hls⟩ := hp.ex
 have hlen := hp.len
 have hT := ht
 refine fn_pure Tryz.func38 rfl (by kernel_rfl) Tryz.ntmps38 Tryz.results38 rfl ?_
 refine Vs rfl ?_
 refine Lw rfl (w_box rfl rfl) ?_
 rintro _ _ ⟨b1, hb1, rfl, rfl⟩
 refine Lw rfl (w_box rfl rfl) ?_
 rintro _ _ ⟨b2, hb2, rfl, rfl⟩
 refine La rfl rfl rfl ?_
 refine L_then (kp [2, 3] rfl) ?_
 refine Vs rfl ?_
 refine Lr rfl (rlA (vs := [_, _, _, _, _]) ag26 sz26 rfl rfl rfl) ?_
 refine Lc rfl rfl rfl rfl (fun w hg => drgood_c p _ w (hP.good hg)) ?_
 refine La rfl rfl rfl ?_
 refine L_then (kp [3, 5] rfl) ?_
 refine V_seq ?_
 refine Vs rfl ?_
 refine Lm rfl rfl rfl ?_
 refine Lp rfl (p_eql rfl rfl rfl) ?_
 refine L_then (kp [3, 5, 9] rfl) ?_
 refine V_cond rfl ?_ ?_
 ·intro c1; try simp only [td] at c1
  refine V_region rfl ?_
  refine Lr rfl (rlA (vs := [_, _, _, _, _]) ag39 sz39 rfl rfl rfl) ?_
  refine Lc rfl rfl rfl rfl (fun w hg => rcheck_c t _ w (hT.good hg)) ?_
  refine Lm rfl rfl rfl ?_
  iterate 3 refine Lp rfl (p_ext rfl rfl rfl) ?_
  refine La rfl rfl rfl ?_
  refine L_then (kp [5] rfl) ?_
  refine Vs rfl ?_
  refine Lm rfl rfl rfl ?_
  refine La rfl rfl rfl ?_
  refine L_then (kp [4] rfl) ?_
  refine V_ret ?_
  refine Leave.nil (.tmp rfl .nil) ?_
  rw [task_1 c1]; rfl
 intro c1; try simp only [td] at c1
 refine V_skip (then_n ?_)
 refine Vs rfl ?_
 refine Lm rfl rfl rfl ?_
 refine La rfl rfl rfl ?_
 refine L_then (kp [4] rfl) ?_
 refine V_ret ?_
 refine Leave.nil (.tmp rfl .nil) ?_
 rw [task_2 c1]; rfl
set_option maxHeartbeats 4000000 in
theorem drused_c (now : Int) (hn : 0 ≤ now ∧ now ≤ 100000) (p : De.Plan) (pv : Value) (w : World) (hp : PlanR w pv p) (hgp : GoodP p) (t : Task) (tv qv : Value) (ht : TaskR w (.agg #[.int .i64 t.frm, .int .i64 t.speed, .int .i64 t.accel, tv, qv]) t) (hG : GoodT t) : FnP Tryz.prog 42 [pv, .agg #[.int .i64 t.frm, .int .i64 t.speed, .int .i64 t.accel, tv, qv], .int .i64 now] w (.tuple #[.agg (Box.cells (usedQ p t now).1).toArray, .int .i64 (usedQ p t now).2.1, .bool (usedQ p t now).2.2]) := by
 have hP := hp
 obtain ⟨lv, rfl, hls⟩ := hp.ex
 have hlen := hp.len
 have hT := ht
 obtain ⟨hln, hgr, hwt, hbl⟩ := hgp.nums
 refine fn_pure Tryz.func42 rfl (by kernel_rfl) Tryz.ntmps42 Tryz.results42 rfl ?_
 refine Vs rfl ?_
 refine Lw rfl (w_box rfl rfl) ?_
 rintro _ _ ⟨b1, hb1, rfl, rfl⟩
 refine Lw rfl (w_box rfl rfl) ?_
 rintro _ _ ⟨b2, hb2, rfl, rfl⟩
 refine Lw rfl (w_alloc zr28 rfl) ?_
 rintro _ _ ⟨b3, hb3, rfl, rfl⟩
 iterate 2 refine La rfl rfl rfl ?_
 refine L_then (kp [2, 3, 4, 6] rfl) ?_
 refine V_seq ?_
 refine Vs rfl ?_
 refine Lm rfl rfl rfl ?_
 refine La rfl rfl rfl ?_
 refine L_then (kp [2, 3, 4, 6, 9] rfl) ?_
 refine V_block ?_
 refine V_loop0 (γ := Int) (kp [2, 3, 4, 6] rfl) (fun f => [(9, .int .i64 f)]) (fun f => -1 ≤ f ∧ f ≤ now ∧ now - f ≤ p.blind + 1 ∧ usedQ p t now = usedW p t now (p.blind + 1 - (now - f)).toNat f) (fun f => (f + 1).toNat) (now) (.cons rfl (.nil _)) (⟨by omega, by omega, by omega, by rw [Int.sub_self, Int.sub_zero]; rfl⟩) ?_
 rintro f hi
 obtain ⟨hf0, hf1, hf2, hu⟩ := hi
 refine V_seq ?_
 refine Vs rfl ?_
 iterate 2 refine Lm rfl rfl rfl ?_
 refine Lp rfl (p_fieldo fo26_3 rfl rfl) ?_
 refine Lr rfl (rl ag3 rfl rfl rfl) ?_
 first | refine Lp rfl (p_sub' rfl rfl rfl (by unfold InI; omega)) ?_ | refine Lp rfl (p_sub rfl rfl rfl) ?_
 refine Lp rfl (p_max rfl rfl rfl) ?_
 refine Lp rfl (p_geq rfl rfl rfl) ?_
 refine L_then (kp [2, 3, 4, 6, 9, 21] rfl) ?_
 refine V_cond rfl ?_ ?_
 ·intro c1; try simp only [td] at c1
  refine V_skip (then_n ?_)
  refine V_seq ?_
  refine V_block ?_
  refine Vs rfl ?_
  refine Lr rfl (rlA (vs := [_, _, _, _, _]) ag39 sz39 rfl rfl rfl) ?_
  iterate 2 refine Lm rfl rfl rfl ?_
  refine Lc rfl rfl rfl rfl (fun w hg => rspareR_c t _ w (hT.good hg) f now) ?_
  refine Lm rfl rfl rfl ?_
  iterate 2 refine Lp rfl (p_ext rfl rfl rfl) ?_
  refine Lw rfl (w_alloc zr28 rfl) ?_
  rintro _ _ ⟨b4, hb4, rfl, rfl⟩
  refine Ls (cs' := [_, _, _, _, _, _, _, _, _, _, _, _, _]) rfl sz28 rfl rfl rfl rfl rfl rfl rfl ?_
  refine La rfl rfl rfl ?_
  refine L_then (kp [2, 3, 4, 6, 9, 10, 11] rfl) ?_
  refine Vs rfl ?_
  refine Lm rfl rfl rfl ?_
  refine Lp rfl (p_eql rfl rfl rfl) ?_
  refine L_then (kp [2, 3, 4, 6, 9, 10, 32] rfl) ?_
  refine V_cond rfl ?_ ?_
  ·intro c2; try simp only [td] at c2
   have hs := c2
   refine Vs rfl ?_
   refine Lr rfl (rlA (vs := [_, _, _, _, _]) ag39 sz39 rfl rfl rfl) ?_
   refine Lr rfl (rlA (vs := [_, _, _, _, _, _, _, _, _, _, _, _, _]) ag28 sz28 rfl rfl rfl) ?_
   iterate 2 refine Lm rfl rfl rfl ?_
   first | refine Lp rfl (p_sub' rfl rfl rfl (by unfold InI; omega)) ?_ | refine Lp rfl (p_sub rfl rfl rfl) ?_
   refine Lp rfl (p_fieldo fo26_2 rfl rfl) ?_
   refine Lr rfl (rl ag3 rfl rfl rfl) ?_
   first | refine Lp rfl (p_add' rfl rfl rfl (by unfold InI; omega)) ?_ | refine Lp rfl (p_add rfl rfl rfl) ?_
   first | refine Lp rfl (p_add' rfl rfl rfl (by unfold InI; omega)) ?_ | refine Lp rfl (p_add rfl rfl rfl) ?_
   refine Lc rfl rfl rfl rfl (fun w hg => rahead2_c t _ w (hT.good hg) _ (BoxOk.int (spareP_box hs)) _) ?_
   refine Lm rfl rfl rfl ?_
   iterate 2 refine Lp rfl (p_ext rfl rfl rfl) ?_
   refine Lw rfl (w_alloc zr28 rfl) ?_
   rintro _ _ ⟨b5, hb5, rfl, rfl⟩
   refine Ls (cs' := [_, _, _, _, _, _, _, _, _, _, _, _, _]) rfl sz28 rfl rfl rfl rfl rfl rfl rfl ?_
   refine La rfl rfl rfl ?_
   refine L_then (kp [6, 9, 12, 13] rfl) ?_
   refine Vs rfl ?_
   refine Lr rfl (rlA (vs := [_, _, _, _, _, _, _, _, _, _, _, _, _]) ag28 sz28 rfl rfl rfl) ?_
   iterate 2 refine Lm rfl rfl rfl ?_
   refine Lp rfl (p_eql rfl rfl rfl) ?_
   refine Ls (cs' := [_, _, _, _, _, _, _, _, _, _, _, _, _]) rfl sz28 rfl rfl rfl rfl rfl rfl rfl ?_
   iterate 2 refine La rfl rfl rfl ?_
   refine L_then (kp [6, 7, 8] rfl) ?_
   refine V_ret (blk_r (then_r (then_r (blk_r (then_r ?_)))))
   refine Leave.nil (.cellA (us := [_, _, _, _, _, _, _, _, _, _, _, _, _]) rfl ag28 sz28 (by repeat first | exact mH | apply mT) rfl (.tmp rfl (.tmp rfl .nil))) ?_
   rw [hu, usedW_hit (by omega) (by omega) hs]; rfl
  intro c2; try simp only [td] at c2
  have hs := c2
  refine V_skip (blk_n (then_n ?_))
  refine V_region rfl ?_
  refine Lm rfl rfl rfl ?_
  first | refine Lp rfl (p_sub' rfl rfl rfl (by unfold InI; omega)) ?_ | refine Lp rfl (p_sub rfl rfl rfl) ?_
  refine La rfl rfl rfl ?_
  refine L_keep (kp [2, 3, 4, 6, 9] rfl) (then_n ?_)
  refine ⟨f - 1, ?_, ?_, (.cons rfl (.cons rfl (.cons rfl (.cons rfl (.cons rfl (.nil _)))))), (by repeat (first | exact List.nil_sublist _ | exact List.Sublist.refl _ | apply List.Sublist.cons_cons | apply List.Sublist.cons | apply List.sublist_append_of_sublist_right)), rfl⟩
  ·exact ⟨by omega, by omega, by omega, hu.trans (usedW_go (by omega) (by omega) (by assumption))⟩
  omega
 intro c1; try simp only [td] at c1
 refine V_exit (then_e (then_e (blk_e rfl (then_n ?_))))
 refine Vs rfl ?_
 refine Lp rfl (p_build (r := [_, _, _, _, _, _, _, _, _, _, _, _, _]) pl28 zr28 rfl rfl rfl) ?_
 refine Ls (cs' := [_, _, _, _, _, _, _, _, _, _, _, _, _]) rfl sz28 rfl rfl rfl rfl rfl rfl rfl ?_
 iterate 2 refine La rfl rfl rfl ?_
 refine L_then (kp [6, 7, 8] rfl) ?_
 refine V_ret ?_
 refine Leave.nil (.cellA (us := [_, _, _, _, _, _, _, _, _, _, _, _, _]) rfl ag28 sz28 (by repeat first | exact mH | apply mT) rfl (.tmp rfl (.tmp rfl .nil))) ?_
 rw [hu, usedW_stop _ (by omega)]; rfl
set_option maxHeartbeats 8000000 in
theorem drlook_c (now : Int) (hn : 0 ≤ now ∧ now ≤ 100000) (p : De.Plan) (pv : Value) (w : World) (hp : PlanR w pv p) (hgp : GoodP p) (t : Task) (tv qv : Value) (ht : TaskR w (.agg #[.int .i64 t.frm, .int .i64 t.speed, .int .i64 t.accel, tv, qv]) t) (hG : GoodT t) : FnP Tryz.prog 40 [pv, .agg #[.int .i64 t.frm, .int .i64 t.speed, .int .i64 t.accel, tv, qv], .int .i64 now] w (.agg (De.Look.cells (lookT p t now)).toArray) := by
 have hP := hp
 obtain ⟨lv, rfl, hls⟩ := hp.ex
 have hlen := hp.len
 obtain ⟨la, lc, rfl, hlc, hle⟩ := hls.ex
 simp only [List.length_map] at hP hlc ⊢
 have hT := ht
 refine fn_pure Tryz.func40 rfl (by kernel_rfl) Tryz.ntmps40 Tryz.results40 rfl ?_
 refine Vs rfl ?_
 refine Lw rfl (w_box rfl rfl) ?_
 rintro _ _ ⟨b1, hb1, rfl, rfl⟩
 refine Lw rfl (w_box rfl rfl) ?_
 rintro _ _ ⟨b2, hb2, rfl, rfl⟩
 refine Lw rfl (w_alloc zr49 rfl) ?_
 rintro _ _ ⟨b3, hb3, rfl, rfl⟩
 refine L_then (kp [2, 3, 4, 6] rfl) ?_
 refine Vs rfl ?_
 refine Lr rfl (rlA (vs := [_, _, _, _, _]) ag26 sz26 rfl rfl rfl) ?_
 refine Lr rfl (rlA (vs := [_, _, _, _, _]) ag39 sz39 rfl rfl rfl) ?_
 refine Lm rfl rfl rfl ?_
 refine Lw rfl (w_callP rfl rfl rfl (fun w hg => drused_c now hn p _ w (hP.good hg) hgp t _ _ (hT.good hg) hG)) ?_
 rintro _ _ ⟨rfl, rfl⟩; generalize hB : (usedQ p t now).1 = B1
 refine Lm rfl rfl rfl ?_
 iterate 3 refine Lp rfl (p_ext rfl rfl rfl) ?_
 refine Lw rfl (w_alloc zr28 rfl) ?_
 rintro _ _ ⟨b4, hb4, rfl, rfl⟩
 refine Ls (cs' := [_, _, _, _, _, _, _, _, _, _, _, _, _]) rfl sz28 rfl rfl rfl rfl rfl rfl rfl ?_
 iterate 2 refine La rfl rfl rfl ?_
 refine L_then (kp [3, 6, 7, 9] rfl) ?_
 refine V_seq ?_
 refine Vs rfl ?_
 refine Lm rfl rfl rfl ?_
 refine Lp rfl (p_not rfl rfl) ?_
 refine L_then (kp [3, 6, 7, 24] rfl) ?_
 refine V_cond rfl ?_ ?_
 ·intro c1; try simp only [td] at c1
  have hu := usedQ_f (by simpa using c1)
  refine Vs rfl ?_
  refine Lp rfl (p_build (r := [_, _, _, _, _, _, _, _, _, _, _, _, _, _, _, _, _, _, _, _, _]) pl49 zr49 rfl rfl rfl) ?_
  refine Lw rfl (w_storeAll (cs' := [_, _, _, _, _, _, _, _, _, _, _, _, _, _, _, _, _, _, _, _, _]) sz49 rfl rfl rfl rfl rfl rfl (by repeat first | exact .head | apply SetAt.tail) rfl) ?_
  rintro _ _ ⟨rfl, rfl⟩
  refine L_then (kp [6] rfl) ?_
  refine V_ret (then_r ?_)
  refine Leave.nil (.cellA (us := [_, _, _, _, _, _, _, _, _, _, _, _, _, _, _, _, _, _, _, _, _]) rfl ag49 sz49 (by repeat first | exact mH | apply mT) rfl .nil) ?_
  have e1 : lookT p t now = ⟨boxZ, De.spZ, De.spZ, De.spZ, 2, -1⟩ := by unfold lookT; rw [hu]
  rw [e1]; rfl
 intro c1; try simp only [td] at c1
 have hu := usedQ_t (by simpa using c1)
 rw [hB] at hu
 have hbb : FallB 0 B1 := fallB_0 (used_ok (usedT_is hu))
 refine V_skip (then_n ?_)
 refine Vs rfl ?_
 refine Lr rfl (rlA (vs := [_, _, _, _, _]) ag26 sz26 rfl rfl rfl) ?_
 refine Lr rfl (rlA (vs := [_, _, _, _, _, _, _, _, _, _, _, _, _]) ag28 sz28 rfl rfl rfl) ?_
 refine Lw rfl (w_callP rfl rfl rfl (fun w hg => drfall_c B1 hbb p _ hgp w (hP.good hg))) ?_
 rintro _ _ ⟨rfl, rfl⟩; generalize hF : fallT p.grav B1 = F1
 refine Lm rfl rfl rfl ?_
 iterate 3 refine Lp rfl (p_ext rfl rfl rfl) ?_
 refine Lw rfl (w_alloc zr30 rfl) ?_
 rintro _ _ ⟨b5, hb5, rfl, rfl⟩
 refine Lw rfl (w_alloc zr24 rfl) ?_
 rintro _ _ ⟨b6, hb6, rfl, rfl⟩
 refine Ls (cs' := [_, _, _, _]) rfl sz30 rfl rfl rfl rfl rfl rfl rfl ?_
 refine Ls (cs' := [_, _]) rfl sz24 rfl rfl rfl rfl rfl rfl rfl ?_
 refine La rfl rfl rfl ?_
 refine L_then (kp [3, 6, 7, 10, 11, 12] rfl) ?_
 refine V_seq ?_
 refine Vs rfl ?_
 refine Lm rfl rfl rfl ?_
 refine Lp rfl (p_neq rfl rfl rfl) ?_
 refine L_then (kp [3, 6, 7, 10, 11, 34] rfl) ?_
 refine V_cond rfl ?_ ?_
 ·intro c2; try simp only [td] at c2
  have he := c2
  refine Vs rfl ?_
  refine Lr rfl (rlA (vs := [_, _, _, _, _, _, _, _, _, _, _, _, _]) ag28 sz28 rfl rfl rfl) ?_
  refine Lp rfl (p_build (r := [_, _, _, _, _, _, _, _, _, _, _, _, _, _, _, _, _, _, _, _, _]) pl49 zr49 rfl rfl rfl) ?_
  refine Lw rfl (w_storeAll (cs' := [_, _, _, _, _, _, _, _, _, _, _, _, _, _, _, _, _, _, _, _, _]) sz49 rfl rfl rfl rfl rfl rfl (by repeat first | exact .head | apply SetAt.tail) rfl) ?_
  rintro _ _ ⟨rfl, rfl⟩
  refine L_then (kp [6] rfl) ?_
  refine V_ret (then_r ?_)
  refine Leave.nil (.cellA (us := [_, _, _, _, _, _, _, _, _, _, _, _, _, _, _, _, _, _, _, _, _]) rfl ag49 sz49 (by repeat first | exact mH | apply mT) rfl .nil) ?_
  rw [lookT_of hu, hF, lookF, if_pos he]; rfl
 intro c2; try simp only [td] at c2
 have he := c2
 have harea := area_fall (g := p.grav) (b := B1) (by rw [hF]; exact he)
 rw [hF] at harea
 refine V_skip (then_n ?_)
 refine Vs rfl ?_
 refine Lr rfl (rlA (vs := [_, _, _, _, _, _, _, _, _, _, _, _, _]) ag28 sz28 rfl rfl rfl) ?_
 refine Lr rfl (rlA (vs := [_, _, _, _]) ag30 sz30 rfl rfl rfl) ?_
 refine Lr rfl (rlA (vs := [_, _]) ag24 sz24 rfl rfl rfl) ?_
 refine Lp rfl (p_build (r := [_, _, _, _, _, _, _, _, _, _, _, _, _, _, _, _, _, _, _, _, _]) pl49 zr49 rfl rfl rfl) ?_
 refine Lw rfl (w_alloc zr49 rfl) ?_
 rintro _ _ ⟨b7, hb7, rfl, rfl⟩
 refine Lw rfl (w_storeAll (cs' := [_, _, _, _, _, _, _, _, _, _, _, _, _, _, _, _, _, _, _, _, _]) sz49 rfl rfl rfl rfl rfl rfl (by repeat first | exact .head | apply SetAt.tail) rfl) ?_
 rintro _ _ ⟨rfl, rfl⟩
 refine L_then (kp [3, 6, 10, 13] rfl) ?_
 refine V_seq ?_
 refine Vs rfl ?_
 refine La rfl rfl rfl ?_
 refine L_then (kp [3, 6, 10, 13, 14] rfl) ?_
 refine V_block ?_
 refine V_loop1 (γ := Int × Int × Int) (kp [3, 6, 10, 13] rfl) (fun (k, wy, ln) => [(14, .int .i64 k)]) (fun (k, wy, ln) => [(b7, .cells #[.int .i64 (B1).at_, .int .i64 (B1).x.lo, .int .i64 (B1).x.hi, .int .i64 (B1).y.lo, .int .i64 (B1).y.hi, .int .i64 (B1).z.lo, .int .i64 (B1).z.hi, .int .i64 (B1).vx.lo, .int .i64 (B1).vx.hi, .int .i64 (B1).vy.lo, .int .i64 (B1).vy.hi, .int .i64 (B1).vz.lo, .int .i64 (B1).vz.hi, .int .i64 F1.x.lo, .int .i64 F1.x.hi, .int .i64 F1.y.lo, .int .i64 F1.y.hi, .int .i64 F1.at_.lo, .int .i64 F1.at_.hi, .int .i64 wy, .int .i64 ln] 49), (b6, .cells #[.int .i64 F1.at_.lo, .int .i64 F1.at_.hi] 24), (b5, .cells #[.int .i64 F1.x.lo, .int .i64 F1.x.hi, .int .i64 F1.y.lo, .int .i64 F1.y.hi] 30), (b4, .cells #[.int .i64 (B1).at_, .int .i64 (B1).x.lo, .int .i64 (B1).x.hi, .int .i64 (B1).y.lo, .int .i64 (B1).y.hi, .int .i64 (B1).z.lo, .int .i64 (B1).z.hi, .int .i64 (B1).vx.lo, .int .i64 (B1).vx.hi, .int .i64 (B1).vy.lo, .int .i64 (B1).vy.hi, .int .i64 (B1).vz.lo, .int .i64 (B1).vz.hi] 28), (b3, .cells #[.int .i64 0, .int .i64 0, .int .i64 0, .int .i64 0, .int .i64 0, .int .i64 0, .int .i64 0, .int .i64 0, .int .i64 0, .int .i64 0, .int .i64 0, .int .i64 0, .int .i64 0, .int .i64 0, .int .i64 0, .int .i64 0, .int .i64 0, .int .i64 0, .int .i64 0, .int .i64 0, .int .i64 0] 49), (b2, t.obj tv qv 39), (b1, .cells #[.slice la p.lines.length lc, .int .i64 p.grav.lo, .int .i64 p.grav.hi, .int .i64 p.wait, .int .i64 p.blind] 26)]) (fun (k, wy, ln) => 0 ≤ k ∧ k ≤ p.lines.length ∧ ln = (overK p F1.x F1.y k.toNat) ∧ wy = (if 0 ≤ ln then 1 else 0)) (fun (k, wy, ln) => (p.lines.length - k).toNat) ((0, 0, -1)) (.cons rfl (.nil _)) (by repeat (first | exact List.nil_sublist _ | exact List.Sublist.refl _ | apply List.Sublist.cons_cons | apply List.Sublist.cons)) (⟨by omega, by omega, rfl, rfl⟩) ?_
 rintro ⟨k, wy, ln⟩ hi
 obtain ⟨hk0, hk1, hln, hwy⟩ := hi
 dsimp only at hk0 hk1 hln hwy ⊢
 refine V_seq ?_
 refine Vs rfl ?_
 refine Lm rfl rfl rfl ?_
 refine Lp rfl (p_fieldo fo26_0 rfl rfl) ?_
 refine Lr rfl (rl ag22 rfl rfl rfl) ?_
 refine Lp rfl (p_len isl22 rfl rfl) ?_
 refine Lp rfl (p_lss rfl rfl rfl) ?_
 refine L_then (kp [3, 6, 10, 13, 14, 45] rfl) ?_
 refine V_cond rfl ?_ ?_
 ·intro c3; try simp only [td] at c3
  obtain ⟨tb, rfl, hc⟩ := hle k.toNat _ (getD_cells (d := lnZ) (by omega))
  have hlb : LnB (p.lines.getD k.toNat lnZ) := hgp.ln_at (i := k.toNat) (by omega)
  have hst := over_step (p := p) (x := F1.x) (y := F1.y) hk0
  refine V_skip (then_n ?_)
  refine V_seq ?_
  refine V_block ?_
  refine V_seq (V_draw (.rd 0 (.rd 1 (.rd 2 (.rd 3 (.rd 4 (.rd 5 (.rd 7 (.rd 8 (.rd 9 (.rd 10 (.rd 11 (.rd 12 (.wr 6 [12, 11, 10, 9, 8, 7, 3, 2, 1, 0] (.rd 13 (.rd 14 (.rd 15 (.rd 16 (.rd 17 (.rd 18 .done))))))))))))))))))) mixed (by kernel_rfl) rfl ?_)
  refine Dp rfl rfl (p_fieldo fo26_0 rfl rfl) ?_
  refine Dr rfl rfl (rl ag22 rfl rfl rfl) ?_
  refine Dm rfl rfl rfl rfl ?_
  refine Dp rfl rfl (p_idx es22 rfl rfl rfl (by omega) (by omega)) ?_
  refine Dr rfl rfl (r_loadBA ag68 sz68 rfl rfl hc rfl List.not_mem_nil) ?_
  refine Dr rfl rfl (rlA (vs := [_, _, _, _]) ag30 sz30 rfl rfl rfl) ?_
  refine Dp rfl rfl (p_fieldo fo26_0 rfl rfl) ?_
  refine Dr rfl rfl (rl ag22 rfl rfl rfl) ?_
  refine Dm rfl rfl rfl rfl ?_
  refine Dp rfl rfl (p_idx es22 rfl rfl rfl (by omega) (by omega)) ?_
  refine Dp rfl rfl (p_field fo68_3 rfl rfl) ?_
  refine Dr rfl rfl (r_loadB ag3 rfl rfl (hc 3 _ rfl) List.not_mem_nil) ?_
  refine D_wr (.go (E' := [(12, _), (8, _), (1, _)]) rfl (.plain rfl) (w_callP rfl rfl rfl (fun w hg => drmost_c (p.lines.getD k.toNat lnZ) F1.x F1.y hlb harea.1 harea.2 w)) rfl ?_)
  rintro _ _ ⟨rfl, rfl⟩
  refine ⟨(.cons rfl (.plain rfl) (r_loadB ag3 rfl rfl (hc 3 _ rfl) List.not_mem_nil) (.cons rfl (.plain rfl) (rl ag22 rfl rfl rfl) (.cons rfl (.plain rfl) (rl ag22 rfl rfl rfl) .nil))), ?_⟩
  refine Dp rfl rfl (p_gtr rfl rfl rfl) ?_
  refine Dm rfl rfl rfl rfl ?_
  refine D_cases (d := 62) rfl ?_ ?_
  ·intro g1; have g1' := g1; try simp only [td] at g1'
   have hs1 := g1'
   refine D_p rfl (.yes rfl rfl rfl g1) (p_fieldo fo49_3 rfl rfl) ?_
   refine D_rd rfl (.yes rfl rfl rfl g1) (rl ag3 rfl rfl rfl) ?_
   refine D_p rfl (.yes rfl rfl rfl g1) (p_eql rfl rfl rfl) ?_
   refine Dp rfl rfl (p_pick_t rfl rfl g1 rfl) ?_
   refine D_then (kp [3, 6, 10, 13, 14, 66] rfl) ?_
   refine V_cond rfl ?_ ?_
   ·intro c4; try simp only [td] at c4
    have hw := c4
    refine V_region rfl ?_
    refine Lm rfl rfl rfl ?_
    refine Lp rfl (p_fieldo fo49_3 rfl rfl) ?_
    refine Ls (cs' := [_, _, _, _, _, _, _, _, _, _, _, _, _, _, _, _, _, _, _, _, _]) rfl sz3 rfl rfl rfl rfl rfl rfl rfl ?_
    refine Lp rfl (p_fieldo fo49_4 rfl rfl) ?_
    refine Ls (cs' := [_, _, _, _, _, _, _, _, _, _, _, _, _, _, _, _, _, _, _, _, _]) rfl sz3 rfl rfl rfl rfl rfl rfl rfl ?_
    refine L_keep (kp [3, 6, 10, 13, 14] rfl) (blk_n (then_n ?_))
    refine V_region rfl ?_
    refine Lm rfl rfl rfl ?_
    first | refine Lp rfl (p_add' rfl rfl rfl (by unfold InI; omega)) ?_ | refine Lp rfl (p_add rfl rfl rfl) ?_
    refine La rfl rfl rfl ?_
    refine L_keep (kp [3, 6, 10, 13, 14] rfl) (then_n ?_)
    refine ⟨(k + 1, 1, k), ?_, ?_, (.cons rfl (.cons rfl (.cons rfl (.cons rfl (.cons rfl (.nil _)))))), (by repeat (first | exact List.nil_sublist _ | exact List.Sublist.refl _ | apply List.Sublist.cons_cons | apply List.Sublist.cons | apply List.sublist_append_of_sublist_right)), rfl⟩
    ·have hl0 : ln < 0 := by
      by_cases h : 0 ≤ ln
      ·rw [if_pos h] at hwy; omega
      omega
     exact ⟨by omega, by omega, by rw [hst, if_pos ⟨hs1, by rw [← hln]; exact hl0⟩], by rw [if_pos hk0]⟩
    dsimp only; omega
   intro c4; try simp only [td] at c4
   have hw := c4
   refine V_skip (blk_n (then_n ?_))
   refine V_region rfl ?_
   refine Lm rfl rfl rfl ?_
   first | refine Lp rfl (p_add' rfl rfl rfl (by unfold InI; omega)) ?_ | refine Lp rfl (p_add rfl rfl rfl) ?_
   refine La rfl rfl rfl ?_
   refine L_keep (kp [3, 6, 10, 13, 14] rfl) (then_n ?_)
   refine ⟨(k + 1, wy, ln), ?_, ?_, (.cons rfl (.cons rfl (.cons rfl (.cons rfl (.cons rfl (.nil _)))))), (by repeat (first | exact List.nil_sublist _ | exact List.Sublist.refl _ | apply List.Sublist.cons_cons | apply List.Sublist.cons | apply List.sublist_append_of_sublist_right)), rfl⟩
   ·have hl0 : 0 ≤ ln := by
     by_cases h : 0 ≤ ln
     ·exact h
     rw [if_neg h] at hwy; omega
    exact ⟨by omega, by omega, by rw [hst, if_neg (fun h => by have := h.2; omega)]; exact hln, hwy⟩
   dsimp only; omega
  intro g1; have g1' := g1; try simp only [td] at g1'
  have hs1 := g1'
  iterate 3 refine D_no rfl (.mk' rfl rfl rfl g1) ?_
  refine Dp rfl rfl (p_pick_f rfl rfl g1 rfl) ?_
  refine D_then (kp [3, 6, 10, 13, 14, 66] rfl) ?_
  refine V_cond_f rfl rfl ?_
  refine V_skip (blk_n (then_n ?_))
  refine V_region rfl ?_
  refine Lm rfl rfl rfl ?_
  first | refine Lp rfl (p_add' rfl rfl rfl (by unfold InI; omega)) ?_ | refine Lp rfl (p_add rfl rfl rfl) ?_
  refine La rfl rfl rfl ?_
  refine L_keep (kp [3, 6, 10, 13, 14] rfl) (then_n ?_)
  refine ⟨(k + 1, wy, ln), ?_, ?_, (.cons rfl (.cons rfl (.cons rfl (.cons rfl (.cons rfl (.nil _)))))), (by repeat (first | exact List.nil_sublist _ | exact List.Sublist.refl _ | apply List.Sublist.cons_cons | apply List.Sublist.cons | apply List.sublist_append_of_sublist_right)), rfl⟩
  ·exact ⟨by omega, by omega, by rw [hst, if_neg (fun h => by have := h.1; omega)]; exact hln, hwy⟩
  dsimp only; omega
 intro c3; try simp only [td] at c3
 refine V_exit (then_e (then_e (blk_e rfl (then_n ?_))))
 refine Vs rfl ?_
 refine Lr rfl (rlA (vs := [_, _, _, _, _, _, _, _, _, _, _, _, _, _, _, _, _, _, _, _, _]) ag49 sz49 rfl rfl rfl) ?_
 refine Lw rfl (w_storeAll (cs' := [_, _, _, _, _, _, _, _, _, _, _, _, _, _, _, _, _, _, _, _, _]) sz49 rfl rfl rfl rfl rfl rfl (by repeat first | exact .head | apply SetAt.tail) rfl) ?_
 rintro _ _ ⟨rfl, rfl⟩
 refine L_then (kp [6] rfl) ?_
 refine V_ret ?_
 refine Leave.nil (.cellA (us := [_, _, _, _, _, _, _, _, _, _, _, _, _, _, _, _, _, _, _, _, _]) rfl ag49 sz49 (by repeat first | exact mH | apply mT) rfl .nil) ?_
 have ek : k.toNat = p.lines.length := by omega
 have ho : ln = overI p F1.x F1.y := by rw [hln, ek]; rfl
 rw [lookT_of hu, hF, lookF, if_neg (fun h => h he), ← ho, ← hwy]; rfl
set_option maxHeartbeats 4000000 in
theorem drDecide_c (a b : Int) (p : De.Plan) (pv : Value) (w : World) (hp : PlanR w pv p) (t : Task) (tv qv : Value) (ht : TaskR w (.agg #[.int .i64 t.frm, .int .i64 t.speed, .int .i64 t.accel, tv, qv]) t) : FnP Tryz.prog 12 [pv, .agg #[.int .i64 t.frm, .int .i64 t.speed, .int .i64 t.accel, tv, qv], .int .i64 a, .int .i64 b] w (.tuple #[.agg #[.int .i64 (decP p t a b).1.tick, .int .i64 (decP p t a b).1.why, .int .i64 (decP p t a b).1.line], .int .i64 (decP p t a b).2]) := by
 have hP := hp
 obtain ⟨lv, rfl, hls⟩ := hp.ex
 have hlen := hp.len
 have hT := ht
 refine fn_pure Tryz.func12 rfl (by kernel_rfl) Tryz.ntmps12 Tryz.results12 rfl ?_
 refine Vs rfl ?_
 refine Lw rfl (w_box rfl rfl) ?_
 rintro _ _ ⟨b1, hb1, rfl, rfl⟩
 refine Lw rfl (w_box rfl rfl) ?_
 rintro _ _ ⟨b2, hb2, rfl, rfl⟩
 refine Lw rfl (w_alloc zr42 rfl) ?_
 rintro _ _ ⟨b3, hb3, rfl, rfl⟩
 refine La rfl rfl rfl ?_
 refine L_then (kp [2, 3, 4, 5, 8] rfl) ?_
 refine Vs rfl ?_
 refine Lr rfl (rlA (vs := [_, _, _, _, _]) ag26 sz26 rfl rfl rfl) ?_
 refine Lr rfl (rlA (vs := [_, _, _, _, _]) ag39 sz39 rfl rfl rfl) ?_
 refine Lc rfl rfl rfl rfl (fun w hg => drtracked_c p _ w (hP.good hg) t _ _ (hT.good hg)) ?_
 refine La rfl rfl rfl ?_
 refine L_then (kp [2, 3, 4, 5, 8, 10] rfl) ?_
 refine V_seq ?_
 refine Vs rfl ?_
 refine Lm rfl rfl rfl ?_
 refine Lp rfl (p_eql rfl rfl rfl) ?_
 refine Lm rfl rfl rfl ?_
 refine L_cases (d := 18) rfl ?_ ?_
 ·intro g1; have g1' := g1; try simp only [td] at g1'
  refine L_yes rfl rfl rfl g1 (X_p (p_move rfl rfl) ?_)
  refine L_yes rfl rfl rfl g1 (X_wr (w_callP rfl rfl rfl (fun w hg => drtick_c _ w)) ?_)
  rintro _ _ ⟨rfl, rfl⟩
  refine L_yes rfl rfl rfl g1 (X_p (p_not rfl rfl) ?_)
  refine L_yes rfl rfl rfl g1 (X_p (p_move rfl rfl) ?_)
  refine L_cases (d := 22) rfl ?_ ?_
  ·intro g2; have g2' := g2; try simp only [td] at g2'
   iterate 3 refine L_no rfl rfl rfl g2 ?_
   refine L_yes rfl rfl rfl g1 (X_p (p_pick_t rfl rfl g2 rfl) ?_)
   refine L_yes rfl rfl rfl g1 (X_p (p_move rfl rfl) ?_)
   iterate 3 refine L_no rfl rfl rfl rfl ?_
   refine L_yes rfl rfl rfl g1 (X_p (p_pick_t rfl rfl rfl rfl) ?_)
   refine Lp rfl (p_pick_t rfl rfl g1 rfl) ?_
   refine L_then (kp [2, 3, 4, 5, 8, 10, 32] rfl) ?_
   refine V_cond_t rfl rfl ?_
   refine V_region rfl ?_
   refine La rfl rfl rfl ?_
   refine L_then (kp [2, 3, 4, 5, 8, 10] rfl) ?_
   refine V_seq ?_
   refine Vs rfl ?_
   refine Lm rfl rfl rfl ?_
   refine Lp rfl (p_eql rfl rfl rfl) ?_
   refine Lm rfl rfl rfl ?_
   iterate 5 refine L_no rfl rfl rfl rfl ?_
   refine Lp rfl (p_pick_f rfl rfl rfl rfl) ?_
   refine L_then (kp [2, 3, 4, 5, 8, 10, 41] rfl) ?_
   refine V_cond_f rfl rfl ?_
   refine V_skip (then_n ?_)
   refine V_seq ?_
   refine Vs rfl ?_
   refine Lm rfl rfl rfl ?_
   refine Lp rfl (p_neq rfl rfl rfl) ?_
   refine L_then (kp [2, 3, 4, 5, 8, 10, 43] rfl) ?_
   refine V_cond_t rfl rfl ?_
   refine Vs rfl ?_
   refine Lp rfl (p_build (r := [_, _, _]) pl42 zr42 rfl rfl rfl) ?_
   refine Lm rfl rfl rfl ?_
   refine Ls (cs' := [_, _, _]) rfl sz42 rfl rfl rfl rfl rfl rfl rfl ?_
   refine La rfl rfl rfl ?_
   refine L_then (kp [8, 9] rfl) ?_
   refine V_ret (then_r ?_)
   refine Leave.nil (.cellA (us := [_, _, _]) rfl ag42 sz42 (by repeat first | exact mH | apply mT) rfl (.tmp rfl .nil)) ?_
   have e7 : ticksE p t [a, b] = 7 := ticks_bad (by assumption) (by simp [*])
   rw [decP_1 (by rw [e7]; decide), e7]; rfl
  intro g2; have g2' := g2; try simp only [td] at g2'
  refine L_yes rfl rfl rfl g2 (X_p (p_move rfl rfl) ?_)
  refine L_yes rfl rfl rfl g2 (X_wr (w_callP rfl rfl rfl (fun w hg => drtick_c _ w)) ?_)
  rintro _ _ ⟨rfl, rfl⟩
  refine L_yes rfl rfl rfl g2 (X_p (p_not rfl rfl) ?_)
  refine L_yes rfl rfl rfl g1 (X_p (p_pick_f rfl rfl g2 rfl) ?_)
  refine L_yes rfl rfl rfl g1 (X_p (p_move rfl rfl) ?_)
  refine L_cases (d := 27) rfl ?_ ?_
  ·intro g3; have g3' := g3; try simp only [td] at g3'
   iterate 3 refine L_no rfl rfl rfl g3 ?_
   refine L_yes rfl rfl rfl g1 (X_p (p_pick_t rfl rfl g3 rfl) ?_)
   refine Lp rfl (p_pick_t rfl rfl g1 rfl) ?_
   refine L_then (kp [2, 3, 4, 5, 8, 10, 32] rfl) ?_
   refine V_cond_t rfl rfl ?_
   refine V_region rfl ?_
   refine La rfl rfl rfl ?_
   refine L_then (kp [2, 3, 4, 5, 8, 10] rfl) ?_
   refine V_seq ?_
   refine Vs rfl ?_
   refine Lm rfl rfl rfl ?_
   refine Lp rfl (p_eql rfl rfl rfl) ?_
   refine Lm rfl rfl rfl ?_
   iterate 5 refine L_no rfl rfl rfl rfl ?_
   refine Lp rfl (p_pick_f rfl rfl rfl rfl) ?_
   refine L_then (kp [2, 3, 4, 5, 8, 10, 41] rfl) ?_
   refine V_cond_f rfl rfl ?_
   refine V_skip (then_n ?_)
   refine V_seq ?_
   refine Vs rfl ?_
   refine Lm rfl rfl rfl ?_
   refine Lp rfl (p_neq rfl rfl rfl) ?_
   refine L_then (kp [2, 3, 4, 5, 8, 10, 43] rfl) ?_
   refine V_cond_t rfl rfl ?_
   refine Vs rfl ?_
   refine Lp rfl (p_build (r := [_, _, _]) pl42 zr42 rfl rfl rfl) ?_
   refine Lm rfl rfl rfl ?_
   refine Ls (cs' := [_, _, _]) rfl sz42 rfl rfl rfl rfl rfl rfl rfl ?_
   refine La rfl rfl rfl ?_
   refine L_then (kp [8, 9] rfl) ?_
   refine V_ret (then_r ?_)
   refine Leave.nil (.cellA (us := [_, _, _]) rfl ag42 sz42 (by repeat first | exact mH | apply mT) rfl (.tmp rfl .nil)) ?_
   have e7 : ticksE p t [a, b] = 7 := ticks_bad (by assumption) (by simp [*])
   rw [decP_1 (by rw [e7]; decide), e7]; rfl
  intro g3; have g3' := g3; try simp only [td] at g3'
  have hzz : ticksE p t [a, b] = 0 := ticks_fine (by assumption) (by simp [*])
  have hz := ticks_zero hzz
  have ha := hz.2.2 a (.head _)
  have hb := hz.2.2 b (.tail _ (.head _))
  refine L_yes rfl rfl rfl g3 (X_p (p_move rfl rfl) ?_)
  refine L_yes rfl rfl rfl g3 (X_p (p_move rfl rfl) ?_)
  refine L_yes rfl rfl rfl g3 (X_p (p_gtr rfl rfl rfl) ?_)
  refine L_yes rfl rfl rfl g1 (X_p (p_pick_f rfl rfl g3 rfl) ?_)
  refine Lp rfl (p_pick_t rfl rfl g1 rfl) ?_
  refine L_then (kp [2, 3, 4, 5, 8, 10, 32] rfl) ?_
  refine V_cond rfl ?_ ?_
  ·intro c1; try simp only [td] at c1
   have hab := c1
   refine V_region rfl ?_
   refine La rfl rfl rfl ?_
   refine L_then (kp [2, 3, 4, 5, 8, 10] rfl) ?_
   refine V_seq ?_
   refine Vs rfl ?_
   refine Lm rfl rfl rfl ?_
   refine Lp rfl (p_eql rfl rfl rfl) ?_
   refine Lm rfl rfl rfl ?_
   iterate 5 refine L_no rfl rfl rfl rfl ?_
   refine Lp rfl (p_pick_f rfl rfl rfl rfl) ?_
   refine L_then (kp [2, 3, 4, 5, 8, 10, 41] rfl) ?_
   refine V_cond_f rfl rfl ?_
   refine V_skip (then_n ?_)
   refine V_seq ?_
   refine Vs rfl ?_
   refine Lm rfl rfl rfl ?_
   refine Lp rfl (p_neq rfl rfl rfl) ?_
   refine L_then (kp [2, 3, 4, 5, 8, 10, 43] rfl) ?_
   refine V_cond_t rfl rfl ?_
   refine Vs rfl ?_
   refine Lp rfl (p_build (r := [_, _, _]) pl42 zr42 rfl rfl rfl) ?_
   refine Lm rfl rfl rfl ?_
   refine Ls (cs' := [_, _, _]) rfl sz42 rfl rfl rfl rfl rfl rfl rfl ?_
   refine La rfl rfl rfl ?_
   refine L_then (kp [8, 9] rfl) ?_
   refine V_ret (then_r ?_)
   refine Leave.nil (.cellA (us := [_, _, _]) rfl ag42 sz42 (by repeat first | exact mH | apply mT) rfl (.tmp rfl .nil)) ?_
   rw [decP_2 hzz hab]; rfl
  intro c1; try simp only [td] at c1
  have hab := c1
  refine V_skip (then_n ?_)
  refine V_seq ?_
  refine Vs rfl ?_
  refine Lm rfl rfl rfl ?_
  refine Lp rfl (p_eql rfl rfl rfl) ?_
  refine Lm rfl rfl rfl ?_
  refine L_cases (d := 35) rfl ?_ ?_
  ·intro g4; have g4' := g4; try simp only [td] at g4'
   refine L_yes rfl rfl rfl g4 (X_p (p_move rfl rfl) ?_)
   refine L_yes rfl rfl rfl g4 (X_p (p_move rfl rfl) ?_)
   first | refine L_yes rfl rfl rfl g4 (X_p (p_sub' rfl rfl rfl (by unfold InI; omega)) ?_) | refine L_yes rfl rfl rfl g4 (X_p (p_sub rfl rfl rfl) ?_)
   first | refine L_yes rfl rfl rfl g4 (X_p (p_add' rfl rfl rfl (by unfold InI; omega)) ?_) | refine L_yes rfl rfl rfl g4 (X_p (p_add rfl rfl rfl) ?_)
   refine L_yes rfl rfl rfl g4 (X_p (p_gtr rfl rfl rfl) ?_)
   refine Lp rfl (p_pick_t rfl rfl g4 rfl) ?_
   refine L_then (kp [2, 3, 4, 5, 8, 10, 41] rfl) ?_
   refine V_cond rfl ?_ ?_
   ·intro c2; try simp only [td] at c2
    have hl := decP_3 hzz hab (by omega)
    refine V_region rfl ?_
    refine La rfl rfl rfl ?_
    refine L_then (kp [2, 3, 4, 5, 8, 10] rfl) ?_
    refine V_seq ?_
    refine Vs rfl ?_
    refine Lm rfl rfl rfl ?_
    refine Lp rfl (p_neq rfl rfl rfl) ?_
    refine L_then (kp [2, 3, 4, 5, 8, 10, 43] rfl) ?_
    refine V_cond_t rfl rfl ?_
    refine Vs rfl ?_
    refine Lp rfl (p_build (r := [_, _, _]) pl42 zr42 rfl rfl rfl) ?_
    refine Lm rfl rfl rfl ?_
    refine Ls (cs' := [_, _, _]) rfl sz42 rfl rfl rfl rfl rfl rfl rfl ?_
    refine La rfl rfl rfl ?_
    refine L_then (kp [8, 9] rfl) ?_
    refine V_ret (then_r ?_)
    refine Leave.nil (.cellA (us := [_, _, _]) rfl ag42 sz42 (by repeat first | exact mH | apply mT) rfl (.tmp rfl .nil)) ?_
    rw [hl]; rfl
   intro c2; try simp only [td] at c2
   have hl := decP_4 hzz hab (by omega)
   refine V_skip (then_n ?_)
   refine V_seq ?_
   refine Vs rfl ?_
   refine Lm rfl rfl rfl ?_
   refine Lp rfl (p_neq rfl rfl rfl) ?_
   refine L_then (kp [2, 3, 4, 5, 8, 10, 43] rfl) ?_
   refine V_cond rfl ?_ ?_
   ·intro c3; try simp only [td] at c3
    exfalso; omega
   intro c3; try simp only [td] at c3
   refine V_skip (then_n ?_)
   refine V_seq ?_
   refine Vs rfl ?_
   refine Lm rfl rfl rfl ?_
   refine La rfl rfl rfl ?_
   refine L_then (kp [3, 4, 5, 8, 11] rfl) ?_
   refine V_block ?_
   refine V_loop0 (γ := Int) (kp [3, 4, 5, 8] rfl) (fun k => [(11, .int .i64 k)]) (fun k => a ≤ k ∧ k ≤ b + 1 ∧ decN p t (b - a + 1).toNat a = decN p t (b - k + 1).toNat k) (fun k => (b + 1 - k).toNat) (a) (.cons rfl (.nil _)) (⟨by omega, by omega, rfl⟩) ?_
   rintro k hi
   obtain ⟨hk0, hk1, hd⟩ := hi
   refine V_seq ?_
   refine Vs rfl ?_
   iterate 2 refine Lm rfl rfl rfl ?_
   refine Lp rfl (p_leq rfl rfl rfl) ?_
   refine L_then (kp [3, 4, 5, 8, 11, 49] rfl) ?_
   refine V_cond rfl ?_ ?_
   ·intro c4; try simp only [td] at c4
    refine V_skip (then_n ?_)
    refine V_seq ?_
    refine V_block ?_
    refine Vs rfl ?_
    refine Lr rfl (rlA (vs := [_, _, _, _, _]) ag26 sz26 rfl rfl rfl) ?_
    refine Lr rfl (rlA (vs := [_, _, _, _, _]) ag39 sz39 rfl rfl rfl) ?_
    refine Lm rfl rfl rfl ?_
    refine Lc rfl rfl rfl rfl (fun w hg => drlook_c k (by omega) p _ w (hP.good hg) hz.1 t _ _ (hT.good hg) hz.2.1) ?_
    refine Lw rfl (w_alloc zr49 rfl) ?_
    rintro _ _ ⟨b4, hb4, rfl, rfl⟩
    refine Lw rfl (w_storeAll (cs' := [_, _, _, _, _, _, _, _, _, _, _, _, _, _, _, _, _, _, _, _, _]) sz49 rfl rfl rfl rfl rfl rfl (by repeat first | exact .head | apply SetAt.tail) rfl) ?_
    rintro _ _ ⟨rfl, rfl⟩
    refine L_then (kp [3, 4, 5, 8, 11, 12] rfl) ?_
    refine Vs rfl ?_
    refine Lp rfl (p_fieldo fo49_3 rfl rfl) ?_
    refine Lr rfl (rl ag3 rfl rfl rfl) ?_
    refine Lp rfl (p_neq rfl rfl rfl) ?_
    refine L_then (kp [3, 4, 5, 8, 11, 12, 58] rfl) ?_
    refine V_cond rfl ?_ ?_
    ·intro c5; try simp only [td] at c5
     have hw := c5
     refine Vs rfl ?_
     refine Lm rfl rfl rfl ?_
     refine Lp rfl (p_fieldo fo49_3 rfl rfl) ?_
     refine Lr rfl (rl ag3 rfl rfl rfl) ?_
     refine Lp rfl (p_fieldo fo49_4 rfl rfl) ?_
     refine Lr rfl (rl ag3 rfl rfl rfl) ?_
     refine Lp rfl (p_build (r := [_, _, _]) pl42 zr42 rfl rfl rfl) ?_
     refine Ls (cs' := [_, _, _]) rfl sz42 rfl rfl rfl rfl rfl rfl rfl ?_
     refine La rfl rfl rfl ?_
     refine L_then (kp [8, 9] rfl) ?_
     refine V_ret (blk_r (then_r (then_r (blk_r (then_r ?_)))))
     refine Leave.nil (.cellA (us := [_, _, _]) rfl ag42 sz42 (by repeat first | exact mH | apply mT) rfl (.tmp rfl .nil)) ?_
     rw [hl, hd, decN_hit (by omega) hw]; rfl
    intro c5; try simp only [td] at c5
    have hw := c5
    refine V_skip (blk_n (then_n ?_))
    refine V_region rfl ?_
    refine Lm rfl rfl rfl ?_
    first | refine Lp rfl (p_add' rfl rfl rfl (by unfold InI; omega)) ?_ | refine Lp rfl (p_add rfl rfl rfl) ?_
    refine La rfl rfl rfl ?_
    refine L_keep (kp [3, 4, 5, 8, 11] rfl) (then_n ?_)
    refine ⟨k + 1, ?_, ?_, (.cons rfl (.cons rfl (.cons rfl (.cons rfl (.cons rfl (.nil _)))))), (by repeat (first | exact List.nil_sublist _ | exact List.Sublist.refl _ | apply List.Sublist.cons_cons | apply List.Sublist.cons | apply List.sublist_append_of_sublist_right)), rfl⟩
    ·exact ⟨by omega, by omega, hd.trans (decN_go (by omega) hw)⟩
    omega
   intro c4; try simp only [td] at c4
   refine V_exit (then_e (then_e (blk_e rfl (then_n ?_))))
   refine Vs rfl ?_
   refine Lp rfl (p_build (r := [_, _, _]) pl42 zr42 rfl rfl rfl) ?_
   refine Ls (cs' := [_, _, _]) rfl sz42 rfl rfl rfl rfl rfl rfl rfl ?_
   refine La rfl rfl rfl ?_
   refine L_then (kp [8, 9] rfl) ?_
   refine V_ret ?_
   refine Leave.nil (.cellA (us := [_, _, _]) rfl ag42 sz42 (by repeat first | exact mH | apply mT) rfl (.tmp rfl .nil)) ?_
   rw [hl, hd, decN_end (by omega)]; rfl
  intro g4; have g4' := g4; try simp only [td] at g4'
  exfalso; omega
 intro g1; have g1' := g1; try simp only [td] at g1'
 iterate 4 refine L_no rfl rfl rfl g1 ?_
 iterate 3 refine L_nou rfl rfl rfl ?_
 iterate 2 refine L_no rfl rfl rfl g1 ?_
 iterate 3 refine L_nou rfl rfl rfl ?_
 refine L_no rfl rfl rfl g1 ?_
 refine Lp rfl (p_pick_f rfl rfl g1 rfl) ?_
 refine L_then (kp [2, 3, 4, 5, 8, 10, 32] rfl) ?_
 refine V_cond_f rfl rfl ?_
 refine V_skip (then_n ?_)
 refine V_seq ?_
 refine Vs rfl ?_
 refine Lm rfl rfl rfl ?_
 refine Lp rfl (p_eql rfl rfl rfl) ?_
 refine Lm rfl rfl rfl ?_
 refine L_cases (d := 35) rfl ?_ ?_
 ·intro g5; have g5' := g5; try simp only [td] at g5'
  exfalso; omega
 intro g5; have g5' := g5; try simp only [td] at g5'
 iterate 5 refine L_no rfl rfl rfl g5 ?_
 refine Lp rfl (p_pick_f rfl rfl g5 rfl) ?_
 refine L_then (kp [2, 3, 4, 5, 8, 10, 41] rfl) ?_
 refine V_cond_f rfl rfl ?_
 refine V_skip (then_n ?_)
 refine V_seq ?_
 refine Vs rfl ?_
 refine Lm rfl rfl rfl ?_
 refine Lp rfl (p_neq rfl rfl rfl) ?_
 refine L_then (kp [2, 3, 4, 5, 8, 10, 43] rfl) ?_
 refine V_cond rfl ?_ ?_
 ·intro c6; try simp only [td] at c6
  refine Vs rfl ?_
  refine Lp rfl (p_build (r := [_, _, _]) pl42 zr42 rfl rfl rfl) ?_
  refine Lm rfl rfl rfl ?_
  refine Ls (cs' := [_, _, _]) rfl sz42 rfl rfl rfl rfl rfl rfl rfl ?_
  refine La rfl rfl rfl ?_
  refine L_then (kp [8, 9] rfl) ?_
  refine V_ret (then_r ?_)
  refine Leave.nil (.cellA (us := [_, _, _]) rfl ag42 sz42 (by repeat first | exact mH | apply mT) rfl (.tmp rfl .nil)) ?_
  have et : ticksE p t [a, b] = taskE p t := ticks_task (by assumption)
  rw [decP_1 (by rw [et]; assumption), et]; rfl
 intro c6; try simp only [td] at c6
 exfalso; omega

end Go.Proofs.YtlcccpeelombbaaGreatDoor
