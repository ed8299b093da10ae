/- Joined texts. -/
import Derived.Test.YtlcccpeelombbaaGreatDoorZae
import Derived.Test.YtlcccpeelombbaaGreatDoorZai
import Derived.Test.YtlcccpeelombbaaGreatDoorZag
/- YtlcccpeelombbaaGreatDoor: plans checked, lines measured. -/
set_option linter.all false
namespace Go.Proofs.YtlcccpeelombbaaGreatDoor
open Go.Vc Go.Tk Go.De
set_option maxRecDepth 100000
theorem dout_c (n lo hi : Int) (w : World) : FnP Tryz.prog 72 [.int .i64 n, .int .i64 lo, .int .i64 hi] w (.bool (oP n lo hi)) := by
 refine fn_pure Tryz.func72 rfl (by kernel_rfl) Tryz.ntmps72 Tryz.results72 rfl ?_
 refine Vs rfl ?_
 refine La rfl rfl rfl ?_
 refine L_then (kp [0, 1, 2] rfl) ?_
 refine Vs rfl ?_
 iterate 2 refine Lm rfl rfl rfl ?_
 refine Lp rfl (p_lss rfl rfl rfl) ?_
 refine Lm rfl rfl rfl ?_
 refine L_cases (d := 10) rfl ?_ ?_
 ·intro g1; have g1' := g1; try simp only [td] at g1'
  iterate 3 refine L_no rfl rfl rfl g1 ?_
  refine Lp rfl (p_pick_t rfl rfl g1 rfl) ?_
  refine La rfl rfl rfl ?_
  refine L_then (kp [6] rfl) ?_
  refine V_ret ?_
  refine Leave.nil (.tmp rfl .nil) ?_
  simp [tup, oP, *]
 intro g1; have g1' := g1; try simp only [td] at g1'
 refine L_yes rfl rfl rfl g1 (X_p (p_move rfl rfl) ?_)
 refine L_yes rfl rfl rfl g1 (X_p (p_move rfl rfl) ?_)
 refine L_yes rfl rfl rfl g1 (X_p (p_gtr rfl rfl rfl) ?_)
 refine Lp rfl (p_pick_f rfl rfl g1 rfl) ?_
 refine La rfl rfl rfl ?_
 refine L_then (kp [6] rfl) ?_
 refine V_ret ?_
 refine Leave.nil (.tmp rfl .nil) ?_
 simp [tup, oP, *]
theorem dsum_c (a b : Span) (h : (-4611686018427387904 ≤ a.lo ∧ a.lo ≤ 4611686018427387903) ∧ (-4611686018427387904 ≤ a.hi ∧ a.hi ≤ 4611686018427387903) ∧ (-4611686018427387904 ≤ b.lo ∧ b.lo ≤ 4611686018427387903) ∧ (-4611686018427387904 ≤ b.hi ∧ b.hi ≤ 4611686018427387903)) (w : World) : FnP Tryz.prog 90 [.agg #[.int .i64 a.lo, .int .i64 a.hi], .agg #[.int .i64 b.lo, .int .i64 b.hi]] w (.agg #[.int .i64 (De.addS a b).lo, .int .i64 (De.addS a b).hi]) := by
 refine fn_pure Tryz.func90 rfl (by kernel_rfl) Tryz.ntmps90 Tryz.results90 rfl ?_
 refine Vs rfl ?_
 refine Lw rfl (w_box rfl rfl) ?_
 rintro _ _ ⟨b1, hb1, rfl, rfl⟩
 refine Lw rfl (w_box rfl rfl) ?_
 rintro _ _ ⟨b2, hb2, rfl, rfl⟩
 refine Lw rfl (w_alloc zr24 rfl) ?_
 rintro _ _ ⟨b3, hb3, rfl, rfl⟩
 refine L_then (kp [2, 3, 4] rfl) ?_
 refine Vs rfl ?_
 refine Lp rfl (p_fieldo fo24_0 rfl rfl) ?_
 refine Lr rfl (rl ag3 rfl rfl rfl) ?_
 refine Lp rfl (p_fieldo fo24_0 rfl rfl) ?_
 refine Lr rfl (rl ag3 rfl rfl rfl) ?_
 first | refine Lp rfl (p_add' rfl rfl rfl (by unfold InI; omega)) ?_ | refine Lp rfl (p_add rfl rfl rfl) ?_
 refine Lp rfl (p_fieldo fo24_1 rfl rfl) ?_
 refine Lr rfl (rl ag3 rfl rfl rfl) ?_
 refine Lp rfl (p_fieldo fo24_1 rfl rfl) ?_
 refine Lr rfl (rl ag3 rfl rfl rfl) ?_
 first | refine Lp rfl (p_add' rfl rfl rfl (by unfold InI; omega)) ?_ | refine Lp rfl (p_add rfl rfl rfl) ?_
 refine Lp rfl (p_build (r := [_, _]) pl24 zr24 rfl rfl rfl) ?_
 refine Ls (cs' := [_, _]) rfl sz24 rfl rfl rfl rfl rfl rfl rfl ?_
 refine L_then (kp [4] rfl) ?_
 refine V_ret ?_
 refine Leave.nil (.cellA (us := [_, _]) rfl ag24 sz24 (by repeat first | exact mH | apply mT) rfl .nil) ?_
 rfl
theorem dhull_c (a b : Span) (w : World) : FnP Tryz.prog 56 [.agg #[.int .i64 a.lo, .int .i64 a.hi], .agg #[.int .i64 b.lo, .int .i64 b.hi]] w (.agg #[.int .i64 (De.hullS a b).lo, .int .i64 (De.hullS a b).hi]) := by
 refine fn_pure Tryz.func56 rfl (by kernel_rfl) Tryz.ntmps56 Tryz.results56 rfl ?_
 refine Vs rfl ?_
 refine Lw rfl (w_box rfl rfl) ?_
 rintro _ _ ⟨b1, hb1, rfl, rfl⟩
 refine Lw rfl (w_box rfl rfl) ?_
 rintro _ _ ⟨b2, hb2, rfl, rfl⟩
 refine Lw rfl (w_alloc zr24 rfl) ?_
 rintro _ _ ⟨b3, hb3, rfl, rfl⟩
 refine L_then (kp [2, 3, 4] rfl) ?_
 refine Vs rfl ?_
 refine Lp rfl (p_fieldo fo24_0 rfl rfl) ?_
 refine Lr rfl (rl ag3 rfl rfl rfl) ?_
 refine Lp rfl (p_fieldo fo24_0 rfl rfl) ?_
 refine Lr rfl (rl ag3 rfl rfl rfl) ?_
 refine Lp rfl (p_min rfl rfl rfl) ?_
 refine Lp rfl (p_fieldo fo24_1 rfl rfl) ?_
 refine Lr rfl (rl ag3 rfl rfl rfl) ?_
 refine Lp rfl (p_fieldo fo24_1 rfl rfl) ?_
 refine Lr rfl (rl ag3 rfl rfl rfl) ?_
 refine Lp rfl (p_max rfl rfl rfl) ?_
 refine Lp rfl (p_build (r := [_, _]) pl24 zr24 rfl rfl rfl) ?_
 refine Ls (cs' := [_, _]) rfl sz24 rfl rfl rfl rfl rfl rfl rfl ?_
 refine L_then (kp [4] rfl) ?_
 refine V_ret ?_
 refine Leave.nil (.cellA (us := [_, _]) rfl ag24 sz24 (by repeat first | exact mH | apply mT) rfl .nil) ?_
 rfl
theorem doff_c (s : Span) (w : World) : FnP Tryz.prog 58 [.agg #[.int .i64 s.lo, .int .i64 s.hi]] w (.bool (offS s)) := by
 refine fn_pure Tryz.func58 rfl (by kernel_rfl) Tryz.ntmps58 Tryz.results58 rfl ?_
 refine Vs rfl ?_
 refine Lw rfl (w_box rfl rfl) ?_
 rintro _ _ ⟨b1, hb1, rfl, rfl⟩
 refine La rfl rfl rfl ?_
 refine L_then (kp [1] rfl) ?_
 refine Vs rfl ?_
 refine Lp rfl (p_fieldo fo24_0 rfl rfl) ?_
 refine Lr rfl (rl ag3 rfl rfl rfl) ?_
 refine Lp rfl (p_fieldo fo24_1 rfl rfl) ?_
 refine Lr rfl (rl ag3 rfl rfl rfl) ?_
 refine Lp rfl (p_gtr rfl rfl rfl) ?_
 refine Lm rfl rfl rfl ?_
 refine L_cases (d := 8) rfl ?_ ?_
 ·intro g1; have g1' := g1; try simp only [td] at g1'
  iterate 3 refine L_no rfl rfl rfl g1 ?_
  refine Lp rfl (p_pick_t rfl rfl g1 rfl) ?_
  refine Lm rfl rfl rfl ?_
  iterate 3 refine L_no rfl rfl rfl rfl ?_
  refine Lp rfl (p_pick_t rfl rfl rfl rfl) ?_
  refine La rfl rfl rfl ?_
  refine L_then (kp [2] rfl) ?_
  refine V_ret ?_
  refine Leave.nil (.tmp rfl .nil) ?_
  simp [tup, offS, *]
 intro g1; have g1' := g1; try simp only [td] at g1'
 refine L_yes rfl rfl rfl g1 (X_p (p_fieldo fo24_0 rfl rfl) ?_)
 refine L_yes rfl rfl rfl g1 (X_rd (rl ag3 rfl rfl rfl) ?_)
 refine L_yes rfl rfl rfl g1 (X_wr (w_callP rfl rfl rfl (fun w hg => dout_c _ _ _ w)) ?_)
 rintro _ _ ⟨rfl, rfl⟩
 refine Lp rfl (p_pick_f rfl rfl g1 rfl) ?_
 refine Lm rfl rfl rfl ?_
 refine L_cases (d := 13) rfl ?_ ?_
 ·intro g2; have g2' := g2; try simp only [td] at g2'
  iterate 3 refine L_no rfl rfl rfl g2 ?_
  refine Lp rfl (p_pick_t rfl rfl g2 rfl) ?_
  refine La rfl rfl rfl ?_
  refine L_then (kp [2] rfl) ?_
  refine V_ret ?_
  refine Leave.nil (.tmp rfl .nil) ?_
  simp [tup, offS, *]
 intro g2; have g2' := g2; try simp only [td] at g2'
 refine L_yes rfl rfl rfl g2 (X_p (p_fieldo fo24_1 rfl rfl) ?_)
 refine L_yes rfl rfl rfl g2 (X_rd (rl ag3 rfl rfl rfl) ?_)
 refine L_yes rfl rfl rfl g2 (X_wr (w_callP rfl rfl rfl (fun w hg => dout_c _ _ _ w)) ?_)
 rintro _ _ ⟨rfl, rfl⟩
 refine Lp rfl (p_pick_f rfl rfl g2 rfl) ?_
 refine La rfl rfl rfl ?_
 refine L_then (kp [2] rfl) ?_
 refine V_ret ?_
 refine Leave.nil (.tmp rfl .nil) ?_
 simp [tup, offS, *]
set_option maxHeartbeats 4000000 in
theorem dcheck_c (p : De.Plan) (pv : Value) (w : World) (hp : PlanR w pv p) : FnP Tryz.prog 52 [pv] w (.tuple #[.int .i64 (De.checkP p).1, .int .i64 (De.checkP p).2.1, .int .i64 (De.checkP p).2.2]) := by
 have hP := hp
 obtain ⟨lv, rfl, hls⟩ := hp.ex
 have hlen := hp.len
 obtain ⟨la, lc, rfl, hlc, hle⟩ := hls.ex
 simp only [List.length_map] at hP hlc ⊢
 refine fn_pure Tryz.func52 rfl (by kernel_rfl) Tryz.ntmps52 Tryz.results52 rfl ?_
 refine Vs rfl ?_
 refine Lw rfl (w_box rfl rfl) ?_
 rintro _ _ ⟨b1, hb1, rfl, rfl⟩
 iterate 3 refine La rfl rfl rfl ?_
 refine L_then (kp [1] rfl) ?_
 refine V_seq ?_
 refine Vs rfl ?_
 refine Lp rfl (p_fieldo fo26_0 rfl rfl) ?_
 refine Lr rfl (rl ag22 rfl rfl rfl) ?_
 refine Lp rfl (p_len isl22 rfl rfl) ?_
 refine Lc rfl rfl rfl rfl (fun w hg => dout_c _ _ _ w) ?_
 refine L_then (kp [1, 10] rfl) ?_
 refine V_cond rfl ?_ ?_
 ·intro c1; try simp only [td] at c1
  refine Vs rfl ?_
  iterate 3 refine La rfl rfl rfl ?_
  refine L_then (kp [2, 3, 4] rfl) ?_
  refine V_ret (then_r ?_)
  refine Leave.nil (.tmp rfl (.tmp rfl (.tmp rfl .nil))) ?_
  first | (rw [checkP_long (by assumption)]; rfl) | (rw [checkP_tail hlo hln (by simp only [tailP, Bool.or_eq_true, Bool.or_eq_false_iff, Bool.false_eq_true, or_true, true_or, or_false, false_or, and_true, true_and, and_self, not_false_eq_true, not_true_eq_false, *])]; rfl) | (rw [checkP_ok hlo hln (by simp only [tailP, Bool.or_eq_true, Bool.or_eq_false_iff, Bool.false_eq_true, or_true, true_or, or_false, false_or, and_true, true_and, and_self, not_false_eq_true, not_true_eq_false, *])]; rfl) | (rw [checkP_ln (k := k) (e := 7) hlo (by omega) (by omega) hkp (by unfold errLn Plan.ln; rw [if_pos (by simp only [Bool.or_eq_true, Bool.or_eq_false_iff, Bool.false_eq_true, or_true, true_or, or_false, false_or, and_true, true_and, and_self, not_false_eq_true, not_true_eq_false, *])]) (by decide)]; rfl) | (rw [checkP_ln (k := k) (e := 2) hlo (by omega) (by omega) hkp (by unfold errLn Plan.ln; rw [if_neg (by rw [g1', g2', g3', c3]; decide), if_pos (by omega)]) (by decide)]; rfl)
 intro c1; try simp only [td] at c1
 have hlo : oP p.lines.length 1 8 = false := by assumption
 refine V_skip (then_n ?_)
 refine V_seq ?_
 refine Vs rfl ?_
 refine Lp rfl (p_fieldo fo26_0 rfl rfl) ?_
 refine Lr rfl (rl ag22 rfl rfl rfl) ?_
 refine Lp rfl (p_len isl22 rfl rfl) ?_
 refine Lm rfl rfl rfl ?_
 refine L_then (kp [1, 12, 13, 14] rfl) ?_
 refine V_block ?_
 refine V_loop0 (γ := Int) (kp [1, 12, 13] rfl) (fun k => [(14, .int .i64 k)]) (fun k => 0 ≤ k ∧ k ≤ p.lines.length ∧ ∀ j : Nat, (j : Int) < k → errLn (p.ln j) = 0) (fun k => (p.lines.length - k).toNat) (0) (.cons rfl (.nil _)) (⟨by omega, by omega, fun j hj => by omega⟩) ?_
 rintro k hi
 obtain ⟨hk0, hk1, hkp⟩ := hi
 refine Vs rfl ?_
 refine Lp rfl (p_lss rfl rfl rfl) ?_
 refine L_then (kp [1, 12, 13, 14, 15] rfl) ?_
 refine V_seq ?_
 refine V_cond rfl ?_ ?_
 ·intro c2; try simp only [td] at c2
  obtain ⟨lb, rfl, hc⟩ := hle k.toNat _ (getD_cells (d := lnZ) (by omega))
  refine V_skip (then_n ?_)
  refine V_seq ?_
  refine V_block ?_
  refine Vs rfl ?_
  refine Lm rfl rfl rfl ?_
  refine Lp rfl (p_idx es22 rfl rfl rfl (by omega) (by omega)) ?_
  refine Lr rfl (r_loadBA ag68 sz68 rfl rfl hc rfl List.not_mem_nil) ?_
  refine Lw rfl (w_alloc zr68 rfl) ?_
  rintro _ _ ⟨b2, hb2, rfl, rfl⟩
  refine La rfl rfl rfl ?_
  refine Ls (cs' := [_, _, _, _]) rfl sz68 rfl rfl rfl rfl rfl rfl rfl ?_
  refine L_then (kp [1, 5, 6, 12, 13, 14] rfl) ?_
  refine V_block ?_
  refine Vs rfl ?_
  refine Lp rfl (p_fieldo fo68_0 rfl rfl) ?_
  refine Lr rfl (rl ag3 rfl rfl rfl) ?_
  refine Lc rfl rfl rfl rfl (fun w hg => dout_c _ _ _ w) ?_
  refine Lm rfl rfl rfl ?_
  refine L_cases (d := 23) rfl ?_ ?_
  ·intro g1; have g1' := g1; try simp only [td] at g1'
   iterate 3 refine L_no rfl rfl rfl g1 ?_
   refine Lp rfl (p_pick_t rfl rfl g1 rfl) ?_
   refine Lm rfl rfl rfl ?_
   iterate 3 refine L_no rfl rfl rfl rfl ?_
   refine Lp rfl (p_pick_t rfl rfl rfl rfl) ?_
   refine Lm rfl rfl rfl ?_
   iterate 3 refine L_no rfl rfl rfl rfl ?_
   refine Lp rfl (p_pick_t rfl rfl rfl rfl) ?_
   refine La rfl rfl rfl ?_
   refine L_then (kp [1, 5, 6, 12, 13, 14, 19] rfl) ?_
   refine V_cond_t rfl rfl ?_
   refine Vs rfl ?_
   refine Lm rfl rfl rfl ?_
   iterate 3 refine La rfl rfl rfl ?_
   refine L_then (kp [2, 3, 4] rfl) ?_
   refine V_ret (blk_r (blk_r (then_r (then_r (blk_r (then_r ?_))))))
   refine Leave.nil (.tmp rfl (.tmp rfl (.tmp rfl .nil))) ?_
   first | (rw [checkP_long (by assumption)]; rfl) | (rw [checkP_tail hlo hln (by simp only [tailP, Bool.or_eq_true, Bool.or_eq_false_iff, Bool.false_eq_true, or_true, true_or, or_false, false_or, and_true, true_and, and_self, not_false_eq_true, not_true_eq_false, *])]; rfl) | (rw [checkP_ok hlo hln (by simp only [tailP, Bool.or_eq_true, Bool.or_eq_false_iff, Bool.false_eq_true, or_true, true_or, or_false, false_or, and_true, true_and, and_self, not_false_eq_true, not_true_eq_false, *])]; rfl) | (rw [checkP_ln (k := k) (e := 7) hlo (by omega) (by omega) hkp (by unfold errLn Plan.ln; rw [if_pos (by simp only [Bool.or_eq_true, Bool.or_eq_false_iff, Bool.false_eq_true, or_true, true_or, or_false, false_or, and_true, true_and, and_self, not_false_eq_true, not_true_eq_false, *])]) (by decide)]; rfl) | (rw [checkP_ln (k := k) (e := 2) hlo (by omega) (by omega) hkp (by unfold errLn Plan.ln; rw [if_neg (by rw [g1', g2', g3', c3]; decide), if_pos (by omega)]) (by decide)]; rfl)
  intro g1; have g1' := g1; try simp only [td] at g1'
  refine L_yes rfl rfl rfl g1 (X_p (p_fieldo fo68_1 rfl rfl) ?_)
  refine L_yes rfl rfl rfl g1 (X_rd (rl ag3 rfl rfl rfl) ?_)
  refine L_yes rfl rfl rfl g1 (X_wr (w_callP rfl rfl rfl (fun w hg => dout_c _ _ _ w)) ?_)
  rintro _ _ ⟨rfl, rfl⟩
  refine Lp rfl (p_pick_f rfl rfl g1 rfl) ?_
  refine Lm rfl rfl rfl ?_
  refine L_cases (d := 28) rfl ?_ ?_
  ·intro g2; have g2' := g2; try simp only [td] at g2'
   iterate 3 refine L_no rfl rfl rfl g2 ?_
   refine Lp rfl (p_pick_t rfl rfl g2 rfl) ?_
   refine Lm rfl rfl rfl ?_
   iterate 3 refine L_no rfl rfl rfl rfl ?_
   refine Lp rfl (p_pick_t rfl rfl rfl rfl) ?_
   refine La rfl rfl rfl ?_
   refine L_then (kp [1, 5, 6, 12, 13, 14, 19] rfl) ?_
   refine V_cond_t rfl rfl ?_
   refine Vs rfl ?_
   refine Lm rfl rfl rfl ?_
   iterate 3 refine La rfl rfl rfl ?_
   refine L_then (kp [2, 3, 4] rfl) ?_
   refine V_ret (blk_r (blk_r (then_r (then_r (blk_r (then_r ?_))))))
   refine Leave.nil (.tmp rfl (.tmp rfl (.tmp rfl .nil))) ?_
   first | (rw [checkP_long (by assumption)]; rfl) | (rw [checkP_tail hlo hln (by simp only [tailP, Bool.or_eq_true, Bool.or_eq_false_iff, Bool.false_eq_true, or_true, true_or, or_false, false_or, and_true, true_and, and_self, not_false_eq_true, not_true_eq_false, *])]; rfl) | (rw [checkP_ok hlo hln (by simp only [tailP, Bool.or_eq_true, Bool.or_eq_false_iff, Bool.false_eq_true, or_true, true_or, or_false, false_or, and_true, true_and, and_self, not_false_eq_true, not_true_eq_false, *])]; rfl) | (rw [checkP_ln (k := k) (e := 7) hlo (by omega) (by omega) hkp (by unfold errLn Plan.ln; rw [if_pos (by simp only [Bool.or_eq_true, Bool.or_eq_false_iff, Bool.false_eq_true, or_true, true_or, or_false, false_or, and_true, true_and, and_self, not_false_eq_true, not_true_eq_false, *])]) (by decide)]; rfl) | (rw [checkP_ln (k := k) (e := 2) hlo (by omega) (by omega) hkp (by unfold errLn Plan.ln; rw [if_neg (by rw [g1', g2', g3', c3]; decide), if_pos (by omega)]) (by decide)]; rfl)
  intro g2; have g2' := g2; try simp only [td] at g2'
  refine L_yes rfl rfl rfl g2 (X_p (p_fieldo fo68_2 rfl rfl) ?_)
  refine L_yes rfl rfl rfl g2 (X_rd (rl ag3 rfl rfl rfl) ?_)
  refine L_yes rfl rfl rfl g2 (X_wr (w_callP rfl rfl rfl (fun w hg => dout_c _ _ _ w)) ?_)
  rintro _ _ ⟨rfl, rfl⟩
  refine Lp rfl (p_pick_f rfl rfl g2 rfl) ?_
  refine Lm rfl rfl rfl ?_
  refine L_cases (d := 33) rfl ?_ ?_
  ·intro g3; have g3' := g3; try simp only [td] at g3'
   iterate 3 refine L_no rfl rfl rfl g3 ?_
   refine Lp rfl (p_pick_t rfl rfl g3 rfl) ?_
   refine La rfl rfl rfl ?_
   refine L_then (kp [1, 5, 6, 12, 13, 14, 19] rfl) ?_
   refine V_cond_t rfl rfl ?_
   refine Vs rfl ?_
   refine Lm rfl rfl rfl ?_
   iterate 3 refine La rfl rfl rfl ?_
   refine L_then (kp [2, 3, 4] rfl) ?_
   refine V_ret (blk_r (blk_r (then_r (then_r (blk_r (then_r ?_))))))
   refine Leave.nil (.tmp rfl (.tmp rfl (.tmp rfl .nil))) ?_
   first | (rw [checkP_long (by assumption)]; rfl) | (rw [checkP_tail hlo hln (by simp only [tailP, Bool.or_eq_true, Bool.or_eq_false_iff, Bool.false_eq_true, or_true, true_or, or_false, false_or, and_true, true_and, and_self, not_false_eq_true, not_true_eq_false, *])]; rfl) | (rw [checkP_ok hlo hln (by simp only [tailP, Bool.or_eq_true, Bool.or_eq_false_iff, Bool.false_eq_true, or_true, true_or, or_false, false_or, and_true, true_and, and_self, not_false_eq_true, not_true_eq_false, *])]; rfl) | (rw [checkP_ln (k := k) (e := 7) hlo (by omega) (by omega) hkp (by unfold errLn Plan.ln; rw [if_pos (by simp only [Bool.or_eq_true, Bool.or_eq_false_iff, Bool.false_eq_true, or_true, true_or, or_false, false_or, and_true, true_and, and_self, not_false_eq_true, not_true_eq_false, *])]) (by decide)]; rfl) | (rw [checkP_ln (k := k) (e := 2) hlo (by omega) (by omega) hkp (by unfold errLn Plan.ln; rw [if_neg (by rw [g1', g2', g3', c3]; decide), if_pos (by omega)]) (by decide)]; rfl)
  intro g3; have g3' := g3; try simp only [td] at g3'
  refine L_yes rfl rfl rfl g3 (X_p (p_fieldo fo68_3 rfl rfl) ?_)
  refine L_yes rfl rfl rfl g3 (X_rd (rl ag3 rfl rfl rfl) ?_)
  refine L_yes rfl rfl rfl g3 (X_wr (w_callP rfl rfl rfl (fun w hg => dout_c _ _ _ w)) ?_)
  rintro _ _ ⟨rfl, rfl⟩
  refine Lp rfl (p_pick_f rfl rfl g3 rfl) ?_
  refine La rfl rfl rfl ?_
  refine L_then (kp [1, 5, 6, 12, 13, 14, 19] rfl) ?_
  refine V_cond rfl ?_ ?_
  ·intro c3; try simp only [td] at c3
   refine Vs rfl ?_
   refine Lm rfl rfl rfl ?_
   iterate 3 refine La rfl rfl rfl ?_
   refine L_then (kp [2, 3, 4] rfl) ?_
   refine V_ret (blk_r (blk_r (then_r (then_r (blk_r (then_r ?_))))))
   refine Leave.nil (.tmp rfl (.tmp rfl (.tmp rfl .nil))) ?_
   first | (rw [checkP_long (by assumption)]; rfl) | (rw [checkP_tail hlo hln (by simp only [tailP, Bool.or_eq_true, Bool.or_eq_false_iff, Bool.false_eq_true, or_true, true_or, or_false, false_or, and_true, true_and, and_self, not_false_eq_true, not_true_eq_false, *])]; rfl) | (rw [checkP_ok hlo hln (by simp only [tailP, Bool.or_eq_true, Bool.or_eq_false_iff, Bool.false_eq_true, or_true, true_or, or_false, false_or, and_true, true_and, and_self, not_false_eq_true, not_true_eq_false, *])]; rfl) | (rw [checkP_ln (k := k) (e := 7) hlo (by omega) (by omega) hkp (by unfold errLn Plan.ln; rw [if_pos (by simp only [Bool.or_eq_true, Bool.or_eq_false_iff, Bool.false_eq_true, or_true, true_or, or_false, false_or, and_true, true_and, and_self, not_false_eq_true, not_true_eq_false, *])]) (by decide)]; rfl) | (rw [checkP_ln (k := k) (e := 2) hlo (by omega) (by omega) hkp (by unfold errLn Plan.ln; rw [if_neg (by rw [g1', g2', g3', c3]; decide), if_pos (by omega)]) (by decide)]; rfl)
  intro c3; try simp only [td] at c3
  refine Vs rfl ?_
  refine Lp rfl (p_fieldo fo68_0 rfl rfl) ?_
  refine Lr rfl (rl ag3 rfl rfl rfl) ?_
  refine Lp rfl (p_eql rfl rfl rfl) ?_
  refine Lm rfl rfl rfl ?_
  refine L_cases (d := 43) rfl ?_ ?_
  ·intro g4; have g4' := g4; try simp only [td] at g4'
   refine L_yes rfl rfl rfl g4 (X_p (p_fieldo fo68_1 rfl rfl) ?_)
   refine L_yes rfl rfl rfl g4 (X_rd (rl ag3 rfl rfl rfl) ?_)
   refine L_yes rfl rfl rfl g4 (X_p (p_eql rfl rfl rfl) ?_)
   refine Lp rfl (p_pick_t rfl rfl g4 rfl) ?_
   refine Lm rfl rfl rfl ?_
   refine L_cases (d := 48) rfl ?_ ?_
   ·intro g5; have g5' := g5; try simp only [td] at g5'
    iterate 5 refine L_no rfl rfl rfl g5 ?_
    refine Lp rfl (p_pick_t rfl rfl g5 rfl) ?_
    refine La rfl rfl rfl ?_
    refine L_then (kp [1, 5, 12, 13, 14, 39] rfl) ?_
    refine V_cond_t rfl rfl ?_
    refine Vs rfl ?_
    refine Lm rfl rfl rfl ?_
    iterate 3 refine La rfl rfl rfl ?_
    refine L_then (kp [2, 3, 4] rfl) ?_
    refine V_ret (blk_r (blk_r (then_r (then_r (blk_r (then_r ?_))))))
    refine Leave.nil (.tmp rfl (.tmp rfl (.tmp rfl .nil))) ?_
    first | (rw [checkP_long (by assumption)]; rfl) | (rw [checkP_tail hlo hln (by simp only [tailP, Bool.or_eq_true, Bool.or_eq_false_iff, Bool.false_eq_true, or_true, true_or, or_false, false_or, and_true, true_and, and_self, not_false_eq_true, not_true_eq_false, *])]; rfl) | (rw [checkP_ok hlo hln (by simp only [tailP, Bool.or_eq_true, Bool.or_eq_false_iff, Bool.false_eq_true, or_true, true_or, or_false, false_or, and_true, true_and, and_self, not_false_eq_true, not_true_eq_false, *])]; rfl) | (rw [checkP_ln (k := k) (e := 7) hlo (by omega) (by omega) hkp (by unfold errLn Plan.ln; rw [if_pos (by simp only [Bool.or_eq_true, Bool.or_eq_false_iff, Bool.false_eq_true, or_true, true_or, or_false, false_or, and_true, true_and, and_self, not_false_eq_true, not_true_eq_false, *])]) (by decide)]; rfl) | (rw [checkP_ln (k := k) (e := 2) hlo (by omega) (by omega) hkp (by unfold errLn Plan.ln; rw [if_neg (by rw [g1', g2', g3', c3]; decide), if_pos (by omega)]) (by decide)]; rfl)
   intro g5; have g5' := g5; try simp only [td] at g5'
   refine L_yes rfl rfl rfl g5 (X_p (p_fieldo fo68_2 rfl rfl) ?_)
   refine L_yes rfl rfl rfl g5 (X_rd (rl ag3 rfl rfl rfl) ?_)
   refine L_yes rfl rfl rfl g5 (X_p (p_fieldo fo68_3 rfl rfl) ?_)
   refine L_yes rfl rfl rfl g5 (X_rd (rl ag3 rfl rfl rfl) ?_)
   refine L_yes rfl rfl rfl g5 (X_p (p_gtr rfl rfl rfl) ?_)
   refine Lp rfl (p_pick_f rfl rfl g5 rfl) ?_
   refine La rfl rfl rfl ?_
   refine L_then (kp [1, 5, 12, 13, 14, 39] rfl) ?_
   refine V_cond rfl ?_ ?_
   ·intro c4; try simp only [td] at c4
    refine Vs rfl ?_
    refine Lm rfl rfl rfl ?_
    iterate 3 refine La rfl rfl rfl ?_
    refine L_then (kp [2, 3, 4] rfl) ?_
    refine V_ret (blk_r (blk_r (then_r (then_r (blk_r (then_r ?_))))))
    refine Leave.nil (.tmp rfl (.tmp rfl (.tmp rfl .nil))) ?_
    first | (rw [checkP_long (by assumption)]; rfl) | (rw [checkP_tail hlo hln (by simp only [tailP, Bool.or_eq_true, Bool.or_eq_false_iff, Bool.false_eq_true, or_true, true_or, or_false, false_or, and_true, true_and, and_self, not_false_eq_true, not_true_eq_false, *])]; rfl) | (rw [checkP_ok hlo hln (by simp only [tailP, Bool.or_eq_true, Bool.or_eq_false_iff, Bool.false_eq_true, or_true, true_or, or_false, false_or, and_true, true_and, and_self, not_false_eq_true, not_true_eq_false, *])]; rfl) | (rw [checkP_ln (k := k) (e := 7) hlo (by omega) (by omega) hkp (by unfold errLn Plan.ln; rw [if_pos (by simp only [Bool.or_eq_true, Bool.or_eq_false_iff, Bool.false_eq_true, or_true, true_or, or_false, false_or, and_true, true_and, and_self, not_false_eq_true, not_true_eq_false, *])]) (by decide)]; rfl) | (rw [checkP_ln (k := k) (e := 2) hlo (by omega) (by omega) hkp (by unfold errLn Plan.ln; rw [if_neg (by rw [g1', g2', g3', c3]; decide), if_pos (by omega)]) (by decide)]; rfl)
   intro c4; try simp only [td] at c4
   refine V_skip (blk_n (blk_n (then_n ?_)))
   refine V_region rfl ?_
   first | refine Lp rfl (p_add' rfl rfl rfl (by unfold InI; omega)) ?_ | refine Lp rfl (p_add rfl rfl rfl) ?_
   refine Lm rfl rfl rfl ?_
   refine L_keep (kp [1, 12, 13, 14] rfl) (then_n ?_)
   refine ⟨k + 1, ?_, ?_, (.cons rfl (.cons rfl (.cons rfl (.cons rfl (.nil _))))), (by repeat (first | exact List.Sublist.refl _ | apply List.Sublist.cons_cons | apply List.Sublist.cons | apply List.sublist_append_of_sublist_right)), rfl⟩
   ·refine ⟨by omega, by omega, fun j hj => ?_⟩; by_cases e : (j : Int) < k
    ·exact hkp j e
    have ej : j = k.toNat := by omega
    rw [ej]; unfold errLn Plan.ln; rw [if_neg (by rw [g1', g2', g3', c3]; decide), if_neg (by omega)]
   omega
  intro g4; have g4' := g4; try simp only [td] at g4'
  iterate 3 refine L_no rfl rfl rfl g4 ?_
  refine Lp rfl (p_pick_f rfl rfl g4 rfl) ?_
  refine Lm rfl rfl rfl ?_
  refine L_yes rfl rfl rfl rfl (X_p (p_fieldo fo68_2 rfl rfl) ?_)
  refine L_yes rfl rfl rfl rfl (X_rd (rl ag3 rfl rfl rfl) ?_)
  refine L_yes rfl rfl rfl rfl (X_p (p_fieldo fo68_3 rfl rfl) ?_)
  refine L_yes rfl rfl rfl rfl (X_rd (rl ag3 rfl rfl rfl) ?_)
  refine L_yes rfl rfl rfl rfl (X_p (p_gtr rfl rfl rfl) ?_)
  refine Lp rfl (p_pick_f rfl rfl rfl rfl) ?_
  refine La rfl rfl rfl ?_
  refine L_then (kp [1, 5, 12, 13, 14, 39] rfl) ?_
  refine V_cond rfl ?_ ?_
  ·intro c5; try simp only [td] at c5
   refine Vs rfl ?_
   refine Lm rfl rfl rfl ?_
   iterate 3 refine La rfl rfl rfl ?_
   refine L_then (kp [2, 3, 4] rfl) ?_
   refine V_ret (blk_r (blk_r (then_r (then_r (blk_r (then_r ?_))))))
   refine Leave.nil (.tmp rfl (.tmp rfl (.tmp rfl .nil))) ?_
   first | (rw [checkP_long (by assumption)]; rfl) | (rw [checkP_tail hlo hln (by simp only [tailP, Bool.or_eq_true, Bool.or_eq_false_iff, Bool.false_eq_true, or_true, true_or, or_false, false_or, and_true, true_and, and_self, not_false_eq_true, not_true_eq_false, *])]; rfl) | (rw [checkP_ok hlo hln (by simp only [tailP, Bool.or_eq_true, Bool.or_eq_false_iff, Bool.false_eq_true, or_true, true_or, or_false, false_or, and_true, true_and, and_self, not_false_eq_true, not_true_eq_false, *])]; rfl) | (rw [checkP_ln (k := k) (e := 7) hlo (by omega) (by omega) hkp (by unfold errLn Plan.ln; rw [if_pos (by simp only [Bool.or_eq_true, Bool.or_eq_false_iff, Bool.false_eq_true, or_true, true_or, or_false, false_or, and_true, true_and, and_self, not_false_eq_true, not_true_eq_false, *])]) (by decide)]; rfl) | (rw [checkP_ln (k := k) (e := 2) hlo (by omega) (by omega) hkp (by unfold errLn Plan.ln; rw [if_neg (by rw [g1', g2', g3', c3]; decide), if_pos (by omega)]) (by decide)]; rfl)
  intro c5; try simp only [td] at c5
  refine V_skip (blk_n (blk_n (then_n ?_)))
  refine V_region rfl ?_
  first | refine Lp rfl (p_add' rfl rfl rfl (by unfold InI; omega)) ?_ | refine Lp rfl (p_add rfl rfl rfl) ?_
  refine Lm rfl rfl rfl ?_
  refine L_keep (kp [1, 12, 13, 14] rfl) (then_n ?_)
  refine ⟨k + 1, ?_, ?_, (.cons rfl (.cons rfl (.cons rfl (.cons rfl (.nil _))))), (by repeat (first | exact List.Sublist.refl _ | apply List.Sublist.cons_cons | apply List.Sublist.cons | apply List.sublist_append_of_sublist_right)), rfl⟩
  ·refine ⟨by omega, by omega, fun j hj => ?_⟩; by_cases e : (j : Int) < k
   ·exact hkp j e
   have ej : j = k.toNat := by omega
   rw [ej]; unfold errLn Plan.ln; rw [if_neg (by rw [g1', g2', g3', c3]; decide), if_neg (by omega)]
  omega
 intro c2; try simp only [td] at c2
 have hln : ∀ j : Nat, j < p.lines.length → errLn (p.ln j) = 0 := fun j hj => hkp j (by omega)
 refine V_exit (then_e (then_e (blk_e rfl (then_n ?_))))
 refine V_seq ?_
 refine Vs rfl ?_
 refine Lp rfl (p_fieldo fo26_1 rfl rfl) ?_
 refine Lp rfl (p_fieldo fo24_1 rfl rfl) ?_
 refine Lr rfl (rl ag3 rfl rfl rfl) ?_
 refine Lc rfl rfl rfl rfl (fun w hg => dout_c _ _ _ w) ?_
 refine Lm rfl rfl rfl ?_
 refine L_cases (d := 61) rfl ?_ ?_
 ·intro g6; have g6' := g6; try simp only [td] at g6'
  iterate 7 refine L_no rfl rfl rfl g6 ?_
  refine Lp rfl (p_pick_t rfl rfl g6 rfl) ?_
  refine Lm rfl rfl rfl ?_
  iterate 3 refine L_no rfl rfl rfl rfl ?_
  refine Lp rfl (p_pick_t rfl rfl rfl rfl) ?_
  refine Lm rfl rfl rfl ?_
  iterate 3 refine L_no rfl rfl rfl rfl ?_
  refine Lp rfl (p_pick_t rfl rfl rfl rfl) ?_
  refine L_then (kp [79] rfl) ?_
  refine V_cond_t rfl rfl ?_
  refine Vs rfl ?_
  iterate 3 refine La rfl rfl rfl ?_
  refine L_then (kp [2, 3, 4] rfl) ?_
  refine V_ret (then_r ?_)
  refine Leave.nil (.tmp rfl (.tmp rfl (.tmp rfl .nil))) ?_
  first | (rw [checkP_long (by assumption)]; rfl) | (rw [checkP_tail hlo hln (by simp only [tailP, Bool.or_eq_true, Bool.or_eq_false_iff, Bool.false_eq_true, or_true, true_or, or_false, false_or, and_true, true_and, and_self, not_false_eq_true, not_true_eq_false, *])]; rfl) | (rw [checkP_ok hlo hln (by simp only [tailP, Bool.or_eq_true, Bool.or_eq_false_iff, Bool.false_eq_true, or_true, true_or, or_false, false_or, and_true, true_and, and_self, not_false_eq_true, not_true_eq_false, *])]; rfl) | (rw [checkP_ln (k := k) (e := 7) hlo (by omega) (by omega) hkp (by unfold errLn Plan.ln; rw [if_pos (by simp only [Bool.or_eq_true, Bool.or_eq_false_iff, Bool.false_eq_true, or_true, true_or, or_false, false_or, and_true, true_and, and_self, not_false_eq_true, not_true_eq_false, *])]) (by decide)]; rfl) | (rw [checkP_ln (k := k) (e := 2) hlo (by omega) (by omega) hkp (by unfold errLn Plan.ln; rw [if_neg (by rw [g1', g2', g3', c3]; decide), if_pos (by omega)]) (by decide)]; rfl)
 intro g6; have g6' := g6; try simp only [td] at g6'
 refine L_yes rfl rfl rfl g6 (X_p (p_fieldo fo26_1 rfl rfl) ?_)
 refine L_yes rfl rfl rfl g6 (X_p (p_fieldo fo24_0 rfl rfl) ?_)
 refine L_yes rfl rfl rfl g6 (X_rd (rl ag3 rfl rfl rfl) ?_)
 refine L_yes rfl rfl rfl g6 (X_p (p_fieldo fo26_1 rfl rfl) ?_)
 refine L_yes rfl rfl rfl g6 (X_p (p_fieldo fo24_1 rfl rfl) ?_)
 refine L_yes rfl rfl rfl g6 (X_rd (rl ag3 rfl rfl rfl) ?_)
 refine L_yes rfl rfl rfl g6 (X_wr (w_callP rfl rfl rfl (fun w hg => dout_c _ _ _ w)) ?_)
 rintro _ _ ⟨rfl, rfl⟩
 refine Lp rfl (p_pick_f rfl rfl g6 rfl) ?_
 refine Lm rfl rfl rfl ?_
 refine L_cases (d := 70) rfl ?_ ?_
 ·intro g7; have g7' := g7; try simp only [td] at g7'
  iterate 3 refine L_no rfl rfl rfl g7 ?_
  refine Lp rfl (p_pick_t rfl rfl g7 rfl) ?_
  refine Lm rfl rfl rfl ?_
  iterate 3 refine L_no rfl rfl rfl rfl ?_
  refine Lp rfl (p_pick_t rfl rfl rfl rfl) ?_
  refine L_then (kp [79] rfl) ?_
  refine V_cond_t rfl rfl ?_
  refine Vs rfl ?_
  iterate 3 refine La rfl rfl rfl ?_
  refine L_then (kp [2, 3, 4] rfl) ?_
  refine V_ret (then_r ?_)
  refine Leave.nil (.tmp rfl (.tmp rfl (.tmp rfl .nil))) ?_
  first | (rw [checkP_long (by assumption)]; rfl) | (rw [checkP_tail hlo hln (by simp only [tailP, Bool.or_eq_true, Bool.or_eq_false_iff, Bool.false_eq_true, or_true, true_or, or_false, false_or, and_true, true_and, and_self, not_false_eq_true, not_true_eq_false, *])]; rfl) | (rw [checkP_ok hlo hln (by simp only [tailP, Bool.or_eq_true, Bool.or_eq_false_iff, Bool.false_eq_true, or_true, true_or, or_false, false_or, and_true, true_and, and_self, not_false_eq_true, not_true_eq_false, *])]; rfl) | (rw [checkP_ln (k := k) (e := 7) hlo (by omega) (by omega) hkp (by unfold errLn Plan.ln; rw [if_pos (by simp only [Bool.or_eq_true, Bool.or_eq_false_iff, Bool.false_eq_true, or_true, true_or, or_false, false_or, and_true, true_and, and_self, not_false_eq_true, not_true_eq_false, *])]) (by decide)]; rfl) | (rw [checkP_ln (k := k) (e := 2) hlo (by omega) (by omega) hkp (by unfold errLn Plan.ln; rw [if_neg (by rw [g1', g2', g3', c3]; decide), if_pos (by omega)]) (by decide)]; rfl)
 intro g7; have g7' := g7; try simp only [td] at g7'
 refine L_yes rfl rfl rfl g7 (X_p (p_fieldo fo26_2 rfl rfl) ?_)
 refine L_yes rfl rfl rfl g7 (X_rd (rl ag3 rfl rfl rfl) ?_)
 refine L_yes rfl rfl rfl g7 (X_wr (w_callP rfl rfl rfl (fun w hg => dout_c _ _ _ w)) ?_)
 rintro _ _ ⟨rfl, rfl⟩
 refine Lp rfl (p_pick_f rfl rfl g7 rfl) ?_
 refine Lm rfl rfl rfl ?_
 refine L_cases (d := 75) rfl ?_ ?_
 ·intro g8; have g8' := g8; try simp only [td] at g8'
  iterate 3 refine L_no rfl rfl rfl g8 ?_
  refine Lp rfl (p_pick_t rfl rfl g8 rfl) ?_
  refine L_then (kp [79] rfl) ?_
  refine V_cond_t rfl rfl ?_
  refine Vs rfl ?_
  iterate 3 refine La rfl rfl rfl ?_
  refine L_then (kp [2, 3, 4] rfl) ?_
  refine V_ret (then_r ?_)
  refine Leave.nil (.tmp rfl (.tmp rfl (.tmp rfl .nil))) ?_
  first | (rw [checkP_long (by assumption)]; rfl) | (rw [checkP_tail hlo hln (by simp only [tailP, Bool.or_eq_true, Bool.or_eq_false_iff, Bool.false_eq_true, or_true, true_or, or_false, false_or, and_true, true_and, and_self, not_false_eq_true, not_true_eq_false, *])]; rfl) | (rw [checkP_ok hlo hln (by simp only [tailP, Bool.or_eq_true, Bool.or_eq_false_iff, Bool.false_eq_true, or_true, true_or, or_false, false_or, and_true, true_and, and_self, not_false_eq_true, not_true_eq_false, *])]; rfl) | (rw [checkP_ln (k := k) (e := 7) hlo (by omega) (by omega) hkp (by unfold errLn Plan.ln; rw [if_pos (by simp only [Bool.or_eq_true, Bool.or_eq_false_iff, Bool.false_eq_true, or_true, true_or, or_false, false_or, and_true, true_and, and_self, not_false_eq_true, not_true_eq_false, *])]) (by decide)]; rfl) | (rw [checkP_ln (k := k) (e := 2) hlo (by omega) (by omega) hkp (by unfold errLn Plan.ln; rw [if_neg (by rw [g1', g2', g3', c3]; decide), if_pos (by omega)]) (by decide)]; rfl)
 intro g8; have g8' := g8; try simp only [td] at g8'
 refine L_yes rfl rfl rfl g8 (X_p (p_fieldo fo26_3 rfl rfl) ?_)
 refine L_yes rfl rfl rfl g8 (X_rd (rl ag3 rfl rfl rfl) ?_)
 refine L_yes rfl rfl rfl g8 (X_wr (w_callP rfl rfl rfl (fun w hg => dout_c _ _ _ w)) ?_)
 rintro _ _ ⟨rfl, rfl⟩
 refine Lp rfl (p_pick_f rfl rfl g8 rfl) ?_
 refine L_then (kp [79] rfl) ?_
 refine V_cond rfl ?_ ?_
 ·intro c6; try simp only [td] at c6
  refine Vs rfl ?_
  iterate 3 refine La rfl rfl rfl ?_
  refine L_then (kp [2, 3, 4] rfl) ?_
  refine V_ret (then_r ?_)
  refine Leave.nil (.tmp rfl (.tmp rfl (.tmp rfl .nil))) ?_
  first | (rw [checkP_long (by assumption)]; rfl) | (rw [checkP_tail hlo hln (by simp only [tailP, Bool.or_eq_true, Bool.or_eq_false_iff, Bool.false_eq_true, or_true, true_or, or_false, false_or, and_true, true_and, and_self, not_false_eq_true, not_true_eq_false, *])]; rfl) | (rw [checkP_ok hlo hln (by simp only [tailP, Bool.or_eq_true, Bool.or_eq_false_iff, Bool.false_eq_true, or_true, true_or, or_false, false_or, and_true, true_and, and_self, not_false_eq_true, not_true_eq_false, *])]; rfl) | (rw [checkP_ln (k := k) (e := 7) hlo (by omega) (by omega) hkp (by unfold errLn Plan.ln; rw [if_pos (by simp only [Bool.or_eq_true, Bool.or_eq_false_iff, Bool.false_eq_true, or_true, true_or, or_false, false_or, and_true, true_and, and_self, not_false_eq_true, not_true_eq_false, *])]) (by decide)]; rfl) | (rw [checkP_ln (k := k) (e := 2) hlo (by omega) (by omega) hkp (by unfold errLn Plan.ln; rw [if_neg (by rw [g1', g2', g3', c3]; decide), if_pos (by omega)]) (by decide)]; rfl)
 intro c6; try simp only [td] at c6
 refine V_skip (then_n ?_)
 refine Vs rfl ?_
 iterate 3 refine La rfl rfl rfl ?_
 refine L_then (kp [2, 3, 4] rfl) ?_
 refine V_ret ?_
 refine Leave.nil (.tmp rfl (.tmp rfl (.tmp rfl .nil))) ?_
 first | (rw [checkP_long (by assumption)]; rfl) | (rw [checkP_tail hlo hln (by simp only [tailP, Bool.or_eq_true, Bool.or_eq_false_iff, Bool.false_eq_true, or_true, true_or, or_false, false_or, and_true, true_and, and_self, not_false_eq_true, not_true_eq_false, *])]; rfl) | (rw [checkP_ok hlo hln (by simp only [tailP, Bool.or_eq_true, Bool.or_eq_false_iff, Bool.false_eq_true, or_true, true_or, or_false, false_or, and_true, true_and, and_self, not_false_eq_true, not_true_eq_false, *])]; rfl) | (rw [checkP_ln (k := k) (e := 7) hlo (by omega) (by omega) hkp (by unfold errLn Plan.ln; rw [if_pos (by simp only [Bool.or_eq_true, Bool.or_eq_false_iff, Bool.false_eq_true, or_true, true_or, or_false, false_or, and_true, true_and, and_self, not_false_eq_true, not_true_eq_false, *])]) (by decide)]; rfl) | (rw [checkP_ln (k := k) (e := 2) hlo (by omega) (by omega) hkp (by unfold errLn Plan.ln; rw [if_neg (by rw [g1', g2', g3', c3]; decide), if_pos (by omega)]) (by decide)]; rfl)
theorem dvalid_c (p : De.Plan) (pv : Value) (w : World) (hp : PlanR w pv p) : FnP Tryz.prog 29 [pv] w (.int .i64 (planE p)) := by
 have hP := hp
 obtain ⟨lv, rfl, hls⟩ := hp.ex
 have hlen := hp.len
 refine fn_pure Tryz.func29 rfl (by kernel_rfl) Tryz.ntmps29 Tryz.results29 rfl ?_
 refine Vs rfl ?_
 refine Lw rfl (w_box rfl rfl) ?_
 rintro _ _ ⟨b1, hb1, rfl, rfl⟩
 refine La rfl rfl rfl ?_
 refine L_then (kp [1] rfl) ?_
 refine Vs rfl ?_
 refine Lr rfl (rlA (vs := [_, _, _, _, _]) ag26 sz26 rfl rfl rfl) ?_
 refine Lc rfl rfl rfl rfl (fun w hg => dcheck_c p _ w (hP.good hg)) ?_
 refine Lm rfl rfl rfl ?_
 iterate 3 refine Lp rfl (p_ext rfl rfl rfl) ?_
 iterate 3 refine La rfl rfl rfl ?_
 refine L_then (kp [5] rfl) ?_
 refine Vs rfl ?_
 refine Lm rfl rfl rfl ?_
 refine La rfl rfl rfl ?_
 refine L_then (kp [2] rfl) ?_
 refine V_ret ?_
 refine Leave.nil (.tmp rfl .nil) ?_
 rfl

end Go.Proofs.YtlcccpeelombbaaGreatDoor
