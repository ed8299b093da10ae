/- Joined texts. -/
import Derived.Test.YtlcccpeelombbaaGreatDoorZae
import Derived.Test.YtlcccpeelombbaaGreatDoorZaj
import Derived.Test.YtlcccpeelombbaaGreatDoorZag
import Derived.Test.YtlcccpeelombbaaGreatDoorZak
import Derived.Test.YtlcccpeelombbaaGreatDoorZaf
import Derived.Test.YtlcccpeelombbaaGreatDoorZai
/- YtlcccpeelombbaaGreatDoor: plans checked, lines measured. -/
set_option linter.all false
namespace Go.Proofs.YtlcccpeelombbaaGreatDoor
open Go.Vc Go.Tk Go.De
set_option maxRecDepth 100000
theorem dout_c (n lo hi : Int) (w : World) : FnP Tryz.prog 72 [.int .i64 n, .int .i64 lo, .int .i64 hi] w (.bool (oP n lo hi)) := by
 refine fn_pure Tryz.func72 rfl (by kernel_rfl) Tryz.ntmps72 Tryz.results72 rfl ?_
 refine Vs rfl ?_
 refine La rfl rfl rfl ?_
 refine L_then (kp [0, 1, 2] rfl) ?_
 refine Vs rfl ?_
 iterate 2 refine Lm rfl rfl rfl ?_
 refine Lp rfl (p_lss rfl rfl rfl) ?_
 refine Lm rfl rfl rfl ?_
 refine L_cases (d := 10) rfl ?_ ?_
 ·intro g1; have g1' := g1; try simp only [td] at g1'
  iterate 3 refine L_no rfl rfl rfl g1 ?_
  refine Lp rfl (p_pick_t rfl rfl g1 rfl) ?_
  refine La rfl rfl rfl ?_
  refine L_then (kp [6] rfl) ?_
  refine V_ret ?_
  refine Leave.nil (.tmp rfl .nil) ?_
  simp [tup, oP, *]
 intro g1; have g1' := g1; try simp only [td] at g1'
 refine L_yes rfl rfl rfl g1 (X_p (p_move rfl rfl) ?_)
 refine L_yes rfl rfl rfl g1 (X_p (p_move rfl rfl) ?_)
 refine L_yes rfl rfl rfl g1 (X_p (p_gtr rfl rfl rfl) ?_)
 refine Lp rfl (p_pick_f rfl rfl g1 rfl) ?_
 refine La rfl rfl rfl ?_
 refine L_then (kp [6] rfl) ?_
 refine V_ret ?_
 refine Leave.nil (.tmp rfl .nil) ?_
 simp [tup, oP, *]
theorem dsum_c (a b : Span) (h : (-4611686018427387904 ≤ a.lo ∧ a.lo ≤ 4611686018427387903) ∧ (-4611686018427387904 ≤ a.hi ∧ a.hi ≤ 4611686018427387903) ∧ (-4611686018427387904 ≤ b.lo ∧ b.lo ≤ 4611686018427387903) ∧ (-4611686018427387904 ≤ b.hi ∧ b.hi ≤ 4611686018427387903)) (w : World) : FnP Tryz.prog 90 [.agg #[.int .i64 a.lo, .int .i64 a.hi], .agg #[.int .i64 b.lo, .int .i64 b.hi]] w (.agg #[.int .i64 (De.addS a b).lo, .int .i64 (De.addS a b).hi]) := by
 refine fn_pure Tryz.func90 rfl (by kernel_rfl) Tryz.ntmps90 Tryz.results90 rfl ?_
 refine Vs rfl ?_
 refine Lw rfl (w_box rfl rfl) ?_
 rintro _ _ ⟨b1, hb1, rfl, rfl⟩
 refine Lw rfl (w_box rfl rfl) ?_
 rintro _ _ ⟨b2, hb2, rfl, rfl⟩
 refine Lw rfl (w_alloc zr24 rfl) ?_
 rintro _ _ ⟨b3, hb3, rfl, rfl⟩
 refine L_then (kp [2, 3, 4] rfl) ?_
 refine Vs rfl ?_
 refine Lp rfl (p_fieldo fo24_0 rfl rfl) ?_
 refine Lr rfl (rl ag3 rfl rfl rfl) ?_
 refine Lp rfl (p_fieldo fo24_0 rfl rfl) ?_
 refine Lr rfl (rl ag3 rfl rfl rfl) ?_
 first | refine Lp rfl (p_add' rfl rfl rfl (by unfold InI; omega)) ?_ | refine Lp rfl (p_add rfl rfl rfl) ?_
 refine Lp rfl (p_fieldo fo24_1 rfl rfl) ?_
 refine Lr rfl (rl ag3 rfl rfl rfl) ?_
 refine Lp rfl (p_fieldo fo24_1 rfl rfl) ?_
 refine Lr rfl (rl ag3 rfl rfl rfl) ?_
 first | refine Lp rfl (p_add' rfl rfl rfl (by unfold InI; omega)) ?_ | refine Lp rfl (p_add rfl rfl rfl) ?_
 refine Lp rfl (p_build (r := [_, _]) pl24 zr24 rfl rfl rfl) ?_
 refine Ls (cs' := [_, _]) rfl sz24 rfl rfl rfl rfl rfl rfl rfl ?_
 refine L_then (kp [4] rfl) ?_
 refine V_ret ?_
 refine Leave.nil (.cellA (us := [_, _]) rfl ag24 sz24 (by repeat first | exact mH | apply mT) rfl .nil) ?_
 rfl
theorem dhull_c (a b : Span) (w : World) : FnP Tryz.prog 56 [.agg #[.int .i64 a.lo, .int .i64 a.hi], .agg #[.int .i64 b.lo, .int .i64 b.hi]] w (.agg #[.int .i64 (De.hullS a b).lo, .int .i64 (De.hullS a b).hi]) := by
 refine fn_pure Tryz.func56 rfl (by kernel_rfl) Tryz.ntmps56 Tryz.results56 rfl ?_
 refine Vs rfl ?_
 refine Lw rfl (w_box rfl rfl) ?_
 rintro _ _ ⟨b1, hb1, rfl, rfl⟩
 refine Lw rfl (w_box rfl rfl) ?_
 rintro _ _ ⟨b2, hb2, rfl, rfl⟩
 refine Lw rfl (w_alloc zr24 rfl) ?_
 rintro _ _ ⟨b3, hb3, rfl, rfl⟩
 refine L_then (kp [2, 3, 4] rfl) ?_
 refine Vs rfl ?_
 refine Lp rfl (p_fieldo fo24_0 rfl rfl) ?_
 refine Lr rfl (rl ag3 rfl rfl rfl) ?_
 refine Lp rfl (p_fieldo fo24_0 rfl rfl) ?_
 refine Lr rfl (rl ag3 rfl rfl rfl) ?_
 refine Lp rfl (p_min rfl rfl rfl) ?_
 refine Lp rfl (p_fieldo fo24_1 rfl rfl) ?_
 refine Lr rfl (rl ag3 rfl rfl rfl) ?_
 refine Lp rfl (p_fieldo fo24_1 rfl rfl) ?_
 refine Lr rfl (rl ag3 rfl rfl rfl) ?_
 refine Lp rfl (p_max rfl rfl rfl) ?_
 refine Lp rfl (p_build (r := [_, _]) pl24 zr24 rfl rfl rfl) ?_
 refine Ls (cs' := [_, _]) rfl sz24 rfl rfl rfl rfl rfl rfl rfl ?_
 refine L_then (kp [4] rfl) ?_
 refine V_ret ?_
 refine Leave.nil (.cellA (us := [_, _]) rfl ag24 sz24 (by repeat first | exact mH | apply mT) rfl .nil) ?_
 rfl
theorem doff_c (s : Span) (w : World) : FnP Tryz.prog 58 [.agg #[.int .i64 s.lo, .int .i64 s.hi]] w (.bool (offS s)) := by
 refine fn_pure Tryz.func58 rfl (by kernel_rfl) Tryz.ntmps58 Tryz.results58 rfl ?_
 refine Vs rfl ?_
 refine Lw rfl (w_box rfl rfl) ?_
 rintro _ _ ⟨b1, hb1, rfl, rfl⟩
 refine La rfl rfl rfl ?_
 refine L_then (kp [1] rfl) ?_
 refine Vs rfl ?_
 refine Lp rfl (p_fieldo fo24_0 rfl rfl) ?_
 refine Lr rfl (rl ag3 rfl rfl rfl) ?_
 refine Lp rfl (p_fieldo fo24_1 rfl rfl) ?_
 refine Lr rfl (rl ag3 rfl rfl rfl) ?_
 refine Lp rfl (p_gtr rfl rfl rfl) ?_
 refine Lm rfl rfl rfl ?_
 refine L_cases (d := 8) rfl ?_ ?_
 ·intro g1; have g1' := g1; try simp only [td] at g1'
  iterate 3 refine L_no rfl rfl rfl g1 ?_
  refine Lp rfl (p_pick_t rfl rfl g1 rfl) ?_
  refine Lm rfl rfl rfl ?_
  iterate 3 refine L_no rfl rfl rfl rfl ?_
  refine Lp rfl (p_pick_t rfl rfl rfl rfl) ?_
  refine La rfl rfl rfl ?_
  refine L_then (kp [2] rfl) ?_
  refine V_ret ?_
  refine Leave.nil (.tmp rfl .nil) ?_
  simp [tup, offS, *]
 intro g1; have g1' := g1; try simp only [td] at g1'
 refine L_yes rfl rfl rfl g1 (X_p (p_fieldo fo24_0 rfl rfl) ?_)
 refine L_yes rfl rfl rfl g1 (X_rd (rl ag3 rfl rfl rfl) ?_)
 refine L_yes rfl rfl rfl g1 (X_wr (w_callP rfl rfl rfl (fun w hg => dout_c _ _ _ w)) ?_)
 rintro _ _ ⟨rfl, rfl⟩
 refine Lp rfl (p_pick_f rfl rfl g1 rfl) ?_
 refine Lm rfl rfl rfl ?_
 refine L_cases (d := 13) rfl ?_ ?_
 ·intro g2; have g2' := g2; try simp only [td] at g2'
  iterate 3 refine L_no rfl rfl rfl g2 ?_
  refine Lp rfl (p_pick_t rfl rfl g2 rfl) ?_
  refine La rfl rfl rfl ?_
  refine L_then (kp [2] rfl) ?_
  refine V_ret ?_
  refine Leave.nil (.tmp rfl .nil) ?_
  simp [tup, offS, *]
 intro g2; have g2' := g2; try simp only [td] at g2'
 refine L_yes rfl rfl rfl g2 (X_p (p_fieldo fo24_1 rfl rfl) ?_)
 refine L_yes rfl rfl rfl g2 (X_rd (rl ag3 rfl rfl rfl) ?_)
 refine L_yes rfl rfl rfl g2 (X_wr (w_callP rfl rfl rfl (fun w hg => dout_c _ _ _ w)) ?_)
 rintro _ _ ⟨rfl, rfl⟩
 refine Lp rfl (p_pick_f rfl rfl g2 rfl) ?_
 refine La rfl rfl rfl ?_
 refine L_then (kp [2] rfl) ?_
 refine V_ret ?_
 refine Leave.nil (.tmp rfl .nil) ?_
 simp [tup, offS, *]
set_option maxHeartbeats 4000000 in
theorem dcheck_c (p : De.Plan) (pv : Value) (w : World) (hp : PlanR w pv p) : FnP Tryz.prog 52 [pv] w (.tuple #[.int .i64 (De.checkP p).1, .int .i64 (De.checkP p).2.1, .int .i64 (De.checkP p).2.2]) := by
 have hP := hp
 obtain ⟨lv, rfl, hls⟩ := hp.ex
 have hlen := hp.len
 obtain ⟨la, lc, rfl, hlc, hle⟩ := hls.ex
 simp only [List.length_map] at hP hlc ⊢
 refine fn_pure Tryz.func52 rfl (by kernel_rfl) Tryz.ntmps52 Tryz.results52 rfl ?_
 refine Vs rfl ?_
 refine Lw rfl (w_box rfl rfl) ?_
 rintro _ _ ⟨b1, hb1, rfl, rfl⟩
 iterate 3 refine La rfl rfl rfl ?_
 refine L_then (kp [1] rfl) ?_
 refine V_seq ?_
 refine Vs rfl ?_
 refine Lp rfl (p_fieldo fo26_0 rfl rfl) ?_
 refine Lr rfl (rl ag22 rfl rfl rfl) ?_
 refine Lp rfl (p_len isl22 rfl rfl) ?_
 refine Lc rfl rfl rfl rfl (fun w hg => dout_c _ _ _ w) ?_
 refine L_then (kp [1, 10] rfl) ?_
 refine V_cond rfl ?_ ?_
 ·intro c1; try simp only [td] at c1
  refine Vs rfl ?_
  iterate 3 refine La rfl rfl rfl ?_
  refine L_then (kp [2, 3, 4] rfl) ?_
  refine V_ret (then_r ?_)
  refine Leave.nil (.tmp rfl (.tmp rfl (.tmp rfl .nil))) ?_
  first | (rw [checkP_long (by assumption)]; rfl) | (rw [checkP_tail hlo hln (by simp only [tailP, Bool.or_eq_true, Bool.or_eq_false_iff, Bool.false_eq_true, or_true, true_or, or_false, false_or, and_true, true_and, and_self, not_false_eq_true, not_true_eq_false, *])]; rfl) | (rw [checkP_ok hlo hln (by simp only [tailP, Bool.or_eq_true, Bool.or_eq_false_iff, Bool.false_eq_true, or_true, true_or, or_false, false_or, and_true, true_and, and_self, not_false_eq_true, not_true_eq_false, *])]; rfl) | (rw [checkP_ln (k := k) (e := 7) hlo (by omega) (by omega) hkp (by unfold errLn Plan.ln; rw [if_pos (by simp only [Bool.or_eq_true, Bool.or_eq_false_iff, Bool.false_eq_true, or_true, true_or, or_false, false_or, and_true, true_and, and_self, not_false_eq_true, not_true_eq_false, *])]) (by decide)]; rfl) | (rw [checkP_ln (k := k) (e := 2) hlo (by omega) (by omega) hkp (by unfold errLn Plan.ln; rw [if_neg (by rw [g1', g2', g3', c3]; decide), if_pos (by omega)]) (by decide)]; rfl)
 intro c1; try simp only [td] at c1
 have hlo : oP p.lines.length 1 8 = false := by assumption
 refine V_skip (then_n ?_)
 refine V_seq ?_
 refine Vs rfl ?_
 refine Lp rfl (p_fieldo fo26_0 rfl rfl) ?_
 refine Lr rfl (rl ag22 rfl rfl rfl) ?_
 refine Lp rfl (p_len isl22 rfl rfl) ?_
 refine Lm rfl rfl rfl ?_
 refine L_then (kp [1, 12, 13, 14] rfl) ?_
 refine V_block ?_
 refine V_loop0 (γ := Int) (kp [1, 12, 13] rfl) (fun k => [(14, .int .i64 k)]) (fun k => 0 ≤ k ∧ k ≤ p.lines.length ∧ ∀ j : Nat, (j : Int) < k → errLn (p.ln j) = 0) (fun k => (p.lines.length - k).toNat) (0) (.cons rfl (.nil _)) (⟨by omega, by omega, fun j hj => by omega⟩) ?_
 rintro k hi
 obtain ⟨hk0, hk1, hkp⟩ := hi
 refine Vs rfl ?_
 refine Lp rfl (p_lss rfl rfl rfl) ?_
 refine L_then (kp [1, 12, 13, 14, 15] rfl) ?_
 refine V_seq ?_
 refine V_cond rfl ?_ ?_
 ·intro c2; try simp only [td] at c2
  obtain ⟨lb, rfl, hc⟩ := hle k.toNat _ (getD_cells (d := lnZ) (by omega))
  refine V_skip (then_n ?_)
  refine V_seq ?_
  refine V_block ?_
  refine Vs rfl ?_
  refine Lm rfl rfl rfl ?_
  refine Lp rfl (p_idx es22 rfl rfl rfl (by omega) (by omega)) ?_
  refine Lr rfl (r_loadBA ag68 sz68 rfl rfl hc rfl List.not_mem_nil) ?_
  refine Lw rfl (w_alloc zr68 rfl) ?_
  rintro _ _ ⟨b2, hb2, rfl, rfl⟩
  refine La rfl rfl rfl ?_
  refine Ls (cs' := [_, _, _, _]) rfl sz68 rfl rfl rfl rfl rfl rfl rfl ?_
  refine L_then (kp [1, 5, 6, 12, 13, 14] rfl) ?_
  refine V_block ?_
  refine Vs rfl ?_
  refine Lp rfl (p_fieldo fo68_0 rfl rfl) ?_
  refine Lr rfl (rl ag3 rfl rfl rfl) ?_
  refine Lc rfl rfl rfl rfl (fun w hg => dout_c _ _ _ w) ?_
  refine Lm rfl rfl rfl ?_
  refine L_cases (d := 23) rfl ?_ ?_
  ·intro g1; have g1' := g1; try simp only [td] at g1'
   iterate 3 refine L_no rfl rfl rfl g1 ?_
   refine Lp rfl (p_pick_t rfl rfl g1 rfl) ?_
   refine Lm rfl rfl rfl ?_
   iterate 3 refine L_no rfl rfl rfl rfl ?_
   refine Lp rfl (p_pick_t rfl rfl rfl rfl) ?_
   refine Lm rfl rfl rfl ?_
   iterate 3 refine L_no rfl rfl rfl rfl ?_
   refine Lp rfl (p_pick_t rfl rfl rfl rfl) ?_
   refine La rfl rfl rfl ?_
   refine L_then (kp [1, 5, 6, 12, 13, 14, 19] rfl) ?_
   refine V_cond_t rfl rfl ?_
   refine Vs rfl ?_
   refine Lm rfl rfl rfl ?_
   iterate 3 refine La rfl rfl rfl ?_
   refine L_then (kp [2, 3, 4] rfl) ?_
   refine V_ret (blk_r (blk_r (then_r (then_r (blk_r (then_r ?_))))))
   refine Leave.nil (.tmp rfl (.tmp rfl (.tmp rfl .nil))) ?_
   first | (rw [checkP_long (by assumption)]; rfl) | (rw [checkP_tail hlo hln (by simp only [tailP, Bool.or_eq_true, Bool.or_eq_false_iff, Bool.false_eq_true, or_true, true_or, or_false, false_or, and_true, true_and, and_self, not_false_eq_true, not_true_eq_false, *])]; rfl) | (rw [checkP_ok hlo hln (by simp only [tailP, Bool.or_eq_true, Bool.or_eq_false_iff, Bool.false_eq_true, or_true, true_or, or_false, false_or, and_true, true_and, and_self, not_false_eq_true, not_true_eq_false, *])]; rfl) | (rw [checkP_ln (k := k) (e := 7) hlo (by omega) (by omega) hkp (by unfold errLn Plan.ln; rw [if_pos (by simp only [Bool.or_eq_true, Bool.or_eq_false_iff, Bool.false_eq_true, or_true, true_or, or_false, false_or, and_true, true_and, and_self, not_false_eq_true, not_true_eq_false, *])]) (by decide)]; rfl) | (rw [checkP_ln (k := k) (e := 2) hlo (by omega) (by omega) hkp (by unfold errLn Plan.ln; rw [if_neg (by rw [g1', g2', g3', c3]; decide), if_pos (by omega)]) (by decide)]; rfl)
  intro g1; have g1' := g1; try simp only [td] at g1'
  refine L_yes rfl rfl rfl g1 (X_p (p_fieldo fo68_1 rfl rfl) ?_)
  refine L_yes rfl rfl rfl g1 (X_rd (rl ag3 rfl rfl rfl) ?_)
  refine L_yes rfl rfl rfl g1 (X_wr (w_callP rfl rfl rfl (fun w hg => dout_c _ _ _ w)) ?_)
  rintro _ _ ⟨rfl, rfl⟩
  refine Lp rfl (p_pick_f rfl rfl g1 rfl) ?_
  refine Lm rfl rfl rfl ?_
  refine L_cases (d := 28) rfl ?_ ?_
  ·intro g2; have g2' := g2; try simp only [td] at g2'
   iterate 3 refine L_no rfl rfl rfl g2 ?_
   refine Lp rfl (p_pick_t rfl rfl g2 rfl) ?_
   refine Lm rfl rfl rfl ?_
   iterate 3 refine L_no rfl rfl rfl rfl ?_
   refine Lp rfl (p_pick_t rfl rfl rfl rfl) ?_
   refine La rfl rfl rfl ?_
   refine L_then (kp [1, 5, 6, 12, 13, 14, 19] rfl) ?_
   refine V_cond_t rfl rfl ?_
   refine Vs rfl ?_
   refine Lm rfl rfl rfl ?_
   iterate 3 refine La rfl rfl rfl ?_
   refine L_then (kp [2, 3, 4] rfl) ?_
   refine V_ret (blk_r (blk_r (then_r (then_r (blk_r (then_r ?_))))))
   refine Leave.nil (.tmp rfl (.tmp rfl (.tmp rfl .nil))) ?_
   first | (rw [checkP_long (by assumption)]; rfl) | (rw [checkP_tail hlo hln (by simp only [tailP, Bool.or_eq_true, Bool.or_eq_false_iff, Bool.false_eq_true, or_true, true_or, or_false, false_or, and_true, true_and, and_self, not_false_eq_true, not_true_eq_false, *])]; rfl) | (rw [checkP_ok hlo hln (by simp only [tailP, Bool.or_eq_true, Bool.or_eq_false_iff, Bool.false_eq_true, or_true, true_or, or_false, false_or, and_true, true_and, and_self, not_false_eq_true, not_true_eq_false, *])]; rfl) | (rw [checkP_ln (k := k) (e := 7) hlo (by omega) (by omega) hkp (by unfold errLn Plan.ln; rw [if_pos (by simp only [Bool.or_eq_true, Bool.or_eq_false_iff, Bool.false_eq_true, or_true, true_or, or_false, false_or, and_true, true_and, and_self, not_false_eq_true, not_true_eq_false, *])]) (by decide)]; rfl) | (rw [checkP_ln (k := k) (e := 2) hlo (by omega) (by omega) hkp (by unfold errLn Plan.ln; rw [if_neg (by rw [g1', g2', g3', c3]; decide), if_pos (by omega)]) (by decide)]; rfl)
  intro g2; have g2' := g2; try simp only [td] at g2'
  refine L_yes rfl rfl rfl g2 (X_p (p_fieldo fo68_2 rfl rfl) ?_)
  refine L_yes rfl rfl rfl g2 (X_rd (rl ag3 rfl rfl rfl) ?_)
  refine L_yes rfl rfl rfl g2 (X_wr (w_callP rfl rfl rfl (fun w hg => dout_c _ _ _ w)) ?_)
  rintro _ _ ⟨rfl, rfl⟩
  refine Lp rfl (p_pick_f rfl rfl g2 rfl) ?_
  refine Lm rfl rfl rfl ?_
  refine L_cases (d := 33) rfl ?_ ?_
  ·intro g3; have g3' := g3; try simp only [td] at g3'
   iterate 3 refine L_no rfl rfl rfl g3 ?_
   refine Lp rfl (p_pick_t rfl rfl g3 rfl) ?_
   refine La rfl rfl rfl ?_
   refine L_then (kp [1, 5, 6, 12, 13, 14, 19] rfl) ?_
   refine V_cond_t rfl rfl ?_
   refine Vs rfl ?_
   refine Lm rfl rfl rfl ?_
   iterate 3 refine La rfl rfl rfl ?_
   refine L_then (kp [2, 3, 4] rfl) ?_
   refine V_ret (blk_r (blk_r (then_r (then_r (blk_r (then_r ?_))))))
   refine Leave.nil (.tmp rfl (.tmp rfl (.tmp rfl .nil))) ?_
   first | (rw [checkP_long (by assumption)]; rfl) | (rw [checkP_tail hlo hln (by simp only [tailP, Bool.or_eq_true, Bool.or_eq_false_iff, Bool.false_eq_true, or_true, true_or, or_false, false_or, and_true, true_and, and_self, not_false_eq_true, not_true_eq_false, *])]; rfl) | (rw [checkP_ok hlo hln (by simp only [tailP, Bool.or_eq_true, Bool.or_eq_false_iff, Bool.false_eq_true, or_true, true_or, or_false, false_or, and_true, true_and, and_self, not_false_eq_true, not_true_eq_false, *])]; rfl) | (rw [checkP_ln (k := k) (e := 7) hlo (by omega) (by omega) hkp (by unfold errLn Plan.ln; rw [if_pos (by simp only [Bool.or_eq_true, Bool.or_eq_false_iff, Bool.false_eq_true, or_true, true_or, or_false, false_or, and_true, true_and, and_self, not_false_eq_true, not_true_eq_false, *])]) (by decide)]; rfl) | (rw [checkP_ln (k := k) (e := 2) hlo (by omega) (by omega) hkp (by unfold errLn Plan.ln; rw [if_neg (by rw [g1', g2', g3', c3]; decide), if_pos (by omega)]) (by decide)]; rfl)
  intro g3; have g3' := g3; try simp only [td] at g3'
  refine L_yes rfl rfl rfl g3 (X_p (p_fieldo fo68_3 rfl rfl) ?_)
  refine L_yes rfl rfl rfl g3 (X_rd (rl ag3 rfl rfl rfl) ?_)
  refine L_yes rfl rfl rfl g3 (X_wr (w_callP rfl rfl rfl (fun w hg => dout_c _ _ _ w)) ?_)
  rintro _ _ ⟨rfl, rfl⟩
  refine Lp rfl (p_pick_f rfl rfl g3 rfl) ?_
  refine La rfl rfl rfl ?_
  refine L_then (kp [1, 5, 6, 12, 13, 14, 19] rfl) ?_
  refine V_cond rfl ?_ ?_
  ·intro c3; try simp only [td] at c3
   refine Vs rfl ?_
   refine Lm rfl rfl rfl ?_
   iterate 3 refine La rfl rfl rfl ?_
   refine L_then (kp [2, 3, 4] rfl) ?_
   refine V_ret (blk_r (blk_r (then_r (then_r (blk_r (then_r ?_))))))
   refine Leave.nil (.tmp rfl (.tmp rfl (.tmp rfl .nil))) ?_
   first | (rw [checkP_long (by assumption)]; rfl) | (rw [checkP_tail hlo hln (by simp only [tailP, Bool.or_eq_true, Bool.or_eq_false_iff, Bool.false_eq_true, or_true, true_or, or_false, false_or, and_true, true_and, and_self, not_false_eq_true, not_true_eq_false, *])]; rfl) | (rw [checkP_ok hlo hln (by simp only [tailP, Bool.or_eq_true, Bool.or_eq_false_iff, Bool.false_eq_true, or_true, true_or, or_false, false_or, and_true, true_and, and_self, not_false_eq_true, not_true_eq_false, *])]; rfl) | (rw [checkP_ln (k := k) (e := 7) hlo (by omega) (by omega) hkp (by unfold errLn Plan.ln; rw [if_pos (by simp only [Bool.or_eq_true, Bool.or_eq_false_iff, Bool.false_eq_true, or_true, true_or, or_false, false_or, and_true, true_and, and_self, not_false_eq_true, not_true_eq_false, *])]) (by decide)]; rfl) | (rw [checkP_ln (k := k) (e := 2) hlo (by omega) (by omega) hkp (by unfold errLn Plan.ln; rw [if_neg (by rw [g1', g2', g3', c3]; decide), if_pos (by omega)]) (by decide)]; rfl)
  intro c3; try simp only [td] at c3
  refine Vs rfl ?_
  refine Lp rfl (p_fieldo fo68_0 rfl rfl) ?_
  refine Lr rfl (rl ag3 rfl rfl rfl) ?_
  refine Lp rfl (p_eql rfl rfl rfl) ?_
  refine Lm rfl rfl rfl ?_
  refine L_cases (d := 43) rfl ?_ ?_
  ·intro g4; have g4' := g4; try simp only [td] at g4'
   refine L_yes rfl rfl rfl g4 (X_p (p_fieldo fo68_1 rfl rfl) ?_)
   refine L_yes rfl rfl rfl g4 (X_rd (rl ag3 rfl rfl rfl) ?_)
   refine L_yes rfl rfl rfl g4 (X_p (p_eql rfl rfl rfl) ?_)
   refine Lp rfl (p_pick_t rfl rfl g4 rfl) ?_
   refine Lm rfl rfl rfl ?_
   refine L_cases (d := 48) rfl ?_ ?_
   ·intro g5; have g5' := g5; try simp only [td] at g5'
    iterate 5 refine L_no rfl rfl rfl g5 ?_
    refine Lp rfl (p_pick_t rfl rfl g5 rfl) ?_
    refine La rfl rfl rfl ?_
    refine L_then (kp [1, 5, 12, 13, 14, 39] rfl) ?_
    refine V_cond_t rfl rfl ?_
    refine Vs rfl ?_
    refine Lm rfl rfl rfl ?_
    iterate 3 refine La rfl rfl rfl ?_
    refine L_then (kp [2, 3, 4] rfl) ?_
    refine V_ret (blk_r (blk_r (then_r (then_r (blk_r (then_r ?_))))))
    refine Leave.nil (.tmp rfl (.tmp rfl (.tmp rfl .nil))) ?_
    first | (rw [checkP_long (by assumption)]; rfl) | (rw [checkP_tail hlo hln (by simp only [tailP, Bool.or_eq_true, Bool.or_eq_false_iff, Bool.false_eq_true, or_true, true_or, or_false, false_or, and_true, true_and, and_self, not_false_eq_true, not_true_eq_false, *])]; rfl) | (rw [checkP_ok hlo hln (by simp only [tailP, Bool.or_eq_true, Bool.or_eq_false_iff, Bool.false_eq_true, or_true, true_or, or_false, false_or, and_true, true_and, and_self, not_false_eq_true, not_true_eq_false, *])]; rfl) | (rw [checkP_ln (k := k) (e := 7) hlo (by omega) (by omega) hkp (by unfold errLn Plan.ln; rw [if_pos (by simp only [Bool.or_eq_true, Bool.or_eq_false_iff, Bool.false_eq_true, or_true, true_or, or_false, false_or, and_true, true_and, and_self, not_false_eq_true, not_true_eq_false, *])]) (by decide)]; rfl) | (rw [checkP_ln (k := k) (e := 2) hlo (by omega) (by omega) hkp (by unfold errLn Plan.ln; rw [if_neg (by rw [g1', g2', g3', c3]; decide), if_pos (by omega)]) (by decide)]; rfl)
   intro g5; have g5' := g5; try simp only [td] at g5'
   refine L_yes rfl rfl rfl g5 (X_p (p_fieldo fo68_2 rfl rfl) ?_)
   refine L_yes rfl rfl rfl g5 (X_rd (rl ag3 rfl rfl rfl) ?_)
   refine L_yes rfl rfl rfl g5 (X_p (p_fieldo fo68_3 rfl rfl) ?_)
   refine L_yes rfl rfl rfl g5 (X_rd (rl ag3 rfl rfl rfl) ?_)
   refine L_yes rfl rfl rfl g5 (X_p (p_gtr rfl rfl rfl) ?_)
   refine Lp rfl (p_pick_f rfl rfl g5 rfl) ?_
   refine La rfl rfl rfl ?_
   refine L_then (kp [1, 5, 12, 13, 14, 39] rfl) ?_
   refine V_cond rfl ?_ ?_
   ·intro c4; try simp only [td] at c4
    refine Vs rfl ?_
    refine Lm rfl rfl rfl ?_
    iterate 3 refine La rfl rfl rfl ?_
    refine L_then (kp [2, 3, 4] rfl) ?_
    refine V_ret (blk_r (blk_r (then_r (then_r (blk_r (then_r ?_))))))
    refine Leave.nil (.tmp rfl (.tmp rfl (.tmp rfl .nil))) ?_
    first | (rw [checkP_long (by assumption)]; rfl) | (rw [checkP_tail hlo hln (by simp only [tailP, Bool.or_eq_true, Bool.or_eq_false_iff, Bool.false_eq_true, or_true, true_or, or_false, false_or, and_true, true_and, and_self, not_false_eq_true, not_true_eq_false, *])]; rfl) | (rw [checkP_ok hlo hln (by simp only [tailP, Bool.or_eq_true, Bool.or_eq_false_iff, Bool.false_eq_true, or_true, true_or, or_false, false_or, and_true, true_and, and_self, not_false_eq_true, not_true_eq_false, *])]; rfl) | (rw [checkP_ln (k := k) (e := 7) hlo (by omega) (by omega) hkp (by unfold errLn Plan.ln; rw [if_pos (by simp only [Bool.or_eq_true, Bool.or_eq_false_iff, Bool.false_eq_true, or_true, true_or, or_false, false_or, and_true, true_and, and_self, not_false_eq_true, not_true_eq_false, *])]) (by decide)]; rfl) | (rw [checkP_ln (k := k) (e := 2) hlo (by omega) (by omega) hkp (by unfold errLn Plan.ln; rw [if_neg (by rw [g1', g2', g3', c3]; decide), if_pos (by omega)]) (by decide)]; rfl)
   intro c4; try simp only [td] at c4
   refine V_skip (blk_n (blk_n (then_n ?_)))
   refine V_region rfl ?_
   first | refine Lp rfl (p_add' rfl rfl rfl (by unfold InI; omega)) ?_ | refine Lp rfl (p_add rfl rfl rfl) ?_
   refine Lm rfl rfl rfl ?_
   refine L_keep (kp [1, 12, 13, 14] rfl) (then_n ?_)
   refine ⟨k + 1, ?_, ?_, (.cons rfl (.cons rfl (.cons rfl (.cons rfl (.nil _))))), (by repeat (first | exact List.Sublist.refl _ | apply List.Sublist.cons_cons | apply List.Sublist.cons | apply List.sublist_append_of_sublist_right)), rfl⟩
   ·refine ⟨by omega, by omega, fun j hj => ?_⟩; by_cases e : (j : Int) < k
    ·exact hkp j e
    have ej : j = k.toNat := by omega
    rw [ej]; unfold errLn Plan.ln; rw [if_neg (by rw [g1', g2', g3', c3]; decide), if_neg (by omega)]
   omega
  intro g4; have g4' := g4; try simp only [td] at g4'
  iterate 3 refine L_no rfl rfl rfl g4 ?_
  refine Lp rfl (p_pick_f rfl rfl g4 rfl) ?_
  refine Lm rfl rfl rfl ?_
  refine L_yes rfl rfl rfl rfl (X_p (p_fieldo fo68_2 rfl rfl) ?_)
  refine L_yes rfl rfl rfl rfl (X_rd (rl ag3 rfl rfl rfl) ?_)
  refine L_yes rfl rfl rfl rfl (X_p (p_fieldo fo68_3 rfl rfl) ?_)
  refine L_yes rfl rfl rfl rfl (X_rd (rl ag3 rfl rfl rfl) ?_)
  refine L_yes rfl rfl rfl rfl (X_p (p_gtr rfl rfl rfl) ?_)
  refine Lp rfl (p_pick_f rfl rfl rfl rfl) ?_
  refine La rfl rfl rfl ?_
  refine L_then (kp [1, 5, 12, 13, 14, 39] rfl) ?_
  refine V_cond rfl ?_ ?_
  ·intro c5; try simp only [td] at c5
   refine Vs rfl ?_
   refine Lm rfl rfl rfl ?_
   iterate 3 refine La rfl rfl rfl ?_
   refine L_then (kp [2, 3, 4] rfl) ?_
   refine V_ret (blk_r (blk_r (then_r (then_r (blk_r (then_r ?_))))))
   refine Leave.nil (.tmp rfl (.tmp rfl (.tmp rfl .nil))) ?_
   first | (rw [checkP_long (by assumption)]; rfl) | (rw [checkP_tail hlo hln (by simp only [tailP, Bool.or_eq_true, Bool.or_eq_false_iff, Bool.false_eq_true, or_true, true_or, or_false, false_or, and_true, true_and, and_self, not_false_eq_true, not_true_eq_false, *])]; rfl) | (rw [checkP_ok hlo hln (by simp only [tailP, Bool.or_eq_true, Bool.or_eq_false_iff, Bool.false_eq_true, or_true, true_or, or_false, false_or, and_true, true_and, and_self, not_false_eq_true, not_true_eq_false, *])]; rfl) | (rw [checkP_ln (k := k) (e := 7) hlo (by omega) (by omega) hkp (by unfold errLn Plan.ln; rw [if_pos (by simp only [Bool.or_eq_true, Bool.or_eq_false_iff, Bool.false_eq_true, or_true, true_or, or_false, false_or, and_true, true_and, and_self, not_false_eq_true, not_true_eq_false, *])]) (by decide)]; rfl) | (rw [checkP_ln (k := k) (e := 2) hlo (by omega) (by omega) hkp (by unfold errLn Plan.ln; rw [if_neg (by rw [g1', g2', g3', c3]; decide), if_pos (by omega)]) (by decide)]; rfl)
  intro c5; try simp only [td] at c5
  refine V_skip (blk_n (blk_n (then_n ?_)))
  refine V_region rfl ?_
  first | refine Lp rfl (p_add' rfl rfl rfl (by unfold InI; omega)) ?_ | refine Lp rfl (p_add rfl rfl rfl) ?_
  refine Lm rfl rfl rfl ?_
  refine L_keep (kp [1, 12, 13, 14] rfl) (then_n ?_)
  refine ⟨k + 1, ?_, ?_, (.cons rfl (.cons rfl (.cons rfl (.cons rfl (.nil _))))), (by repeat (first | exact List.Sublist.refl _ | apply List.Sublist.cons_cons | apply List.Sublist.cons | apply List.sublist_append_of_sublist_right)), rfl⟩
  ·refine ⟨by omega, by omega, fun j hj => ?_⟩; by_cases e : (j : Int) < k
   ·exact hkp j e
   have ej : j = k.toNat := by omega
   rw [ej]; unfold errLn Plan.ln; rw [if_neg (by rw [g1', g2', g3', c3]; decide), if_neg (by omega)]
  omega
 intro c2; try simp only [td] at c2
 have hln : ∀ j : Nat, j < p.lines.length → errLn (p.ln j) = 0 := fun j hj => hkp j (by omega)
 refine V_exit (then_e (then_e (blk_e rfl (then_n ?_))))
 refine V_seq ?_
 refine Vs rfl ?_
 refine Lp rfl (p_fieldo fo26_1 rfl rfl) ?_
 refine Lp rfl (p_fieldo fo24_1 rfl rfl) ?_
 refine Lr rfl (rl ag3 rfl rfl rfl) ?_
 refine Lc rfl rfl rfl rfl (fun w hg => dout_c _ _ _ w) ?_
 refine Lm rfl rfl rfl ?_
 refine L_cases (d := 61) rfl ?_ ?_
 ·intro g6; have g6' := g6; try simp only [td] at g6'
  iterate 7 refine L_no rfl rfl rfl g6 ?_
  refine Lp rfl (p_pick_t rfl rfl g6 rfl) ?_
  refine Lm rfl rfl rfl ?_
  iterate 3 refine L_no rfl rfl rfl rfl ?_
  refine Lp rfl (p_pick_t rfl rfl rfl rfl) ?_
  refine Lm rfl rfl rfl ?_
  iterate 3 refine L_no rfl rfl rfl rfl ?_
  refine Lp rfl (p_pick_t rfl rfl rfl rfl) ?_
  refine L_then (kp [79] rfl) ?_
  refine V_cond_t rfl rfl ?_
  refine Vs rfl ?_
  iterate 3 refine La rfl rfl rfl ?_
  refine L_then (kp [2, 3, 4] rfl) ?_
  refine V_ret (then_r ?_)
  refine Leave.nil (.tmp rfl (.tmp rfl (.tmp rfl .nil))) ?_
  first | (rw [checkP_long (by assumption)]; rfl) | (rw [checkP_tail hlo hln (by simp only [tailP, Bool.or_eq_true, Bool.or_eq_false_iff, Bool.false_eq_true, or_true, true_or, or_false, false_or, and_true, true_and, and_self, not_false_eq_true, not_true_eq_false, *])]; rfl) | (rw [checkP_ok hlo hln (by simp only [tailP, Bool.or_eq_true, Bool.or_eq_false_iff, Bool.false_eq_true, or_true, true_or, or_false, false_or, and_true, true_and, and_self, not_false_eq_true, not_true_eq_false, *])]; rfl) | (rw [checkP_ln (k := k) (e := 7) hlo (by omega) (by omega) hkp (by unfold errLn Plan.ln; rw [if_pos (by simp only [Bool.or_eq_true, Bool.or_eq_false_iff, Bool.false_eq_true, or_true, true_or, or_false, false_or, and_true, true_and, and_self, not_false_eq_true, not_true_eq_false, *])]) (by decide)]; rfl) | (rw [checkP_ln (k := k) (e := 2) hlo (by omega) (by omega) hkp (by unfold errLn Plan.ln; rw [if_neg (by rw [g1', g2', g3', c3]; decide), if_pos (by omega)]) (by decide)]; rfl)
 intro g6; have g6' := g6; try simp only [td] at g6'
 refine L_yes rfl rfl rfl g6 (X_p (p_fieldo fo26_1 rfl rfl) ?_)
 refine L_yes rfl rfl rfl g6 (X_p (p_fieldo fo24_0 rfl rfl) ?_)
 refine L_yes rfl rfl rfl g6 (X_rd (rl ag3 rfl rfl rfl) ?_)
 refine L_yes rfl rfl rfl g6 (X_p (p_fieldo fo26_1 rfl rfl) ?_)
 refine L_yes rfl rfl rfl g6 (X_p (p_fieldo fo24_1 rfl rfl) ?_)
 refine L_yes rfl rfl rfl g6 (X_rd (rl ag3 rfl rfl rfl) ?_)
 refine L_yes rfl rfl rfl g6 (X_wr (w_callP rfl rfl rfl (fun w hg => dout_c _ _ _ w)) ?_)
 rintro _ _ ⟨rfl, rfl⟩
 refine Lp rfl (p_pick_f rfl rfl g6 rfl) ?_
 refine Lm rfl rfl rfl ?_
 refine L_cases (d := 70) rfl ?_ ?_
 ·intro g7; have g7' := g7; try simp only [td] at g7'
  iterate 3 refine L_no rfl rfl rfl g7 ?_
  refine Lp rfl (p_pick_t rfl rfl g7 rfl) ?_
  refine Lm rfl rfl rfl ?_
  iterate 3 refine L_no rfl rfl rfl rfl ?_
  refine Lp rfl (p_pick_t rfl rfl rfl rfl) ?_
  refine L_then (kp [79] rfl) ?_
  refine V_cond_t rfl rfl ?_
  refine Vs rfl ?_
  iterate 3 refine La rfl rfl rfl ?_
  refine L_then (kp [2, 3, 4] rfl) ?_
  refine V_ret (then_r ?_)
  refine Leave.nil (.tmp rfl (.tmp rfl (.tmp rfl .nil))) ?_
  first | (rw [checkP_long (by assumption)]; rfl) | (rw [checkP_tail hlo hln (by simp only [tailP, Bool.or_eq_true, Bool.or_eq_false_iff, Bool.false_eq_true, or_true, true_or, or_false, false_or, and_true, true_and, and_self, not_false_eq_true, not_true_eq_false, *])]; rfl) | (rw [checkP_ok hlo hln (by simp only [tailP, Bool.or_eq_true, Bool.or_eq_false_iff, Bool.false_eq_true, or_true, true_or, or_false, false_or, and_true, true_and, and_self, not_false_eq_true, not_true_eq_false, *])]; rfl) | (rw [checkP_ln (k := k) (e := 7) hlo (by omega) (by omega) hkp (by unfold errLn Plan.ln; rw [if_pos (by simp only [Bool.or_eq_true, Bool.or_eq_false_iff, Bool.false_eq_true, or_true, true_or, or_false, false_or, and_true, true_and, and_self, not_false_eq_true, not_true_eq_false, *])]) (by decide)]; rfl) | (rw [checkP_ln (k := k) (e := 2) hlo (by omega) (by omega) hkp (by unfold errLn Plan.ln; rw [if_neg (by rw [g1', g2', g3', c3]; decide), if_pos (by omega)]) (by decide)]; rfl)
 intro g7; have g7' := g7; try simp only [td] at g7'
 refine L_yes rfl rfl rfl g7 (X_p (p_fieldo fo26_2 rfl rfl) ?_)
 refine L_yes rfl rfl rfl g7 (X_rd (rl ag3 rfl rfl rfl) ?_)
 refine L_yes rfl rfl rfl g7 (X_wr (w_callP rfl rfl rfl (fun w hg => dout_c _ _ _ w)) ?_)
 rintro _ _ ⟨rfl, rfl⟩
 refine Lp rfl (p_pick_f rfl rfl g7 rfl) ?_
 refine Lm rfl rfl rfl ?_
 refine L_cases (d := 75) rfl ?_ ?_
 ·intro g8; have g8' := g8; try simp only [td] at g8'
  iterate 3 refine L_no rfl rfl rfl g8 ?_
  refine Lp rfl (p_pick_t rfl rfl g8 rfl) ?_
  refine L_then (kp [79] rfl) ?_
  refine V_cond_t rfl rfl ?_
  refine Vs rfl ?_
  iterate 3 refine La rfl rfl rfl ?_
  refine L_then (kp [2, 3, 4] rfl) ?_
  refine V_ret (then_r ?_)
  refine Leave.nil (.tmp rfl (.tmp rfl (.tmp rfl .nil))) ?_
  first | (rw [checkP_long (by assumption)]; rfl) | (rw [checkP_tail hlo hln (by simp only [tailP, Bool.or_eq_true, Bool.or_eq_false_iff, Bool.false_eq_true, or_true, true_or, or_false, false_or, and_true, true_and, and_self, not_false_eq_true, not_true_eq_false, *])]; rfl) | (rw [checkP_ok hlo hln (by simp only [tailP, Bool.or_eq_true, Bool.or_eq_false_iff, Bool.false_eq_true, or_true, true_or, or_false, false_or, and_true, true_and, and_self, not_false_eq_true, not_true_eq_false, *])]; rfl) | (rw [checkP_ln (k := k) (e := 7) hlo (by omega) (by omega) hkp (by unfold errLn Plan.ln; rw [if_pos (by simp only [Bool.or_eq_true, Bool.or_eq_false_iff, Bool.false_eq_true, or_true, true_or, or_false, false_or, and_true, true_and, and_self, not_false_eq_true, not_true_eq_false, *])]) (by decide)]; rfl) | (rw [checkP_ln (k := k) (e := 2) hlo (by omega) (by omega) hkp (by unfold errLn Plan.ln; rw [if_neg (by rw [g1', g2', g3', c3]; decide), if_pos (by omega)]) (by decide)]; rfl)
 intro g8; have g8' := g8; try simp only [td] at g8'
 refine L_yes rfl rfl rfl g8 (X_p (p_fieldo fo26_3 rfl rfl) ?_)
 refine L_yes rfl rfl rfl g8 (X_rd (rl ag3 rfl rfl rfl) ?_)
 refine L_yes rfl rfl rfl g8 (X_wr (w_callP rfl rfl rfl (fun w hg => dout_c _ _ _ w)) ?_)
 rintro _ _ ⟨rfl, rfl⟩
 refine Lp rfl (p_pick_f rfl rfl g8 rfl) ?_
 refine L_then (kp [79] rfl) ?_
 refine V_cond rfl ?_ ?_
 ·intro c6; try simp only [td] at c6
  refine Vs rfl ?_
  iterate 3 refine La rfl rfl rfl ?_
  refine L_then (kp [2, 3, 4] rfl) ?_
  refine V_ret (then_r ?_)
  refine Leave.nil (.tmp rfl (.tmp rfl (.tmp rfl .nil))) ?_
  first | (rw [checkP_long (by assumption)]; rfl) | (rw [checkP_tail hlo hln (by simp only [tailP, Bool.or_eq_true, Bool.or_eq_false_iff, Bool.false_eq_true, or_true, true_or, or_false, false_or, and_true, true_and, and_self, not_false_eq_true, not_true_eq_false, *])]; rfl) | (rw [checkP_ok hlo hln (by simp only [tailP, Bool.or_eq_true, Bool.or_eq_false_iff, Bool.false_eq_true, or_true, true_or, or_false, false_or, and_true, true_and, and_self, not_false_eq_true, not_true_eq_false, *])]; rfl) | (rw [checkP_ln (k := k) (e := 7) hlo (by omega) (by omega) hkp (by unfold errLn Plan.ln; rw [if_pos (by simp only [Bool.or_eq_true, Bool.or_eq_false_iff, Bool.false_eq_true, or_true, true_or, or_false, false_or, and_true, true_and, and_self, not_false_eq_true, not_true_eq_false, *])]) (by decide)]; rfl) | (rw [checkP_ln (k := k) (e := 2) hlo (by omega) (by omega) hkp (by unfold errLn Plan.ln; rw [if_neg (by rw [g1', g2', g3', c3]; decide), if_pos (by omega)]) (by decide)]; rfl)
 intro c6; try simp only [td] at c6
 refine V_skip (then_n ?_)
 refine Vs rfl ?_
 iterate 3 refine La rfl rfl rfl ?_
 refine L_then (kp [2, 3, 4] rfl) ?_
 refine V_ret ?_
 refine Leave.nil (.tmp rfl (.tmp rfl (.tmp rfl .nil))) ?_
 first | (rw [checkP_long (by assumption)]; rfl) | (rw [checkP_tail hlo hln (by simp only [tailP, Bool.or_eq_true, Bool.or_eq_false_iff, Bool.false_eq_true, or_true, true_or, or_false, false_or, and_true, true_and, and_self, not_false_eq_true, not_true_eq_false, *])]; rfl) | (rw [checkP_ok hlo hln (by simp only [tailP, Bool.or_eq_true, Bool.or_eq_false_iff, Bool.false_eq_true, or_true, true_or, or_false, false_or, and_true, true_and, and_self, not_false_eq_true, not_true_eq_false, *])]; rfl) | (rw [checkP_ln (k := k) (e := 7) hlo (by omega) (by omega) hkp (by unfold errLn Plan.ln; rw [if_pos (by simp only [Bool.or_eq_true, Bool.or_eq_false_iff, Bool.false_eq_true, or_true, true_or, or_false, false_or, and_true, true_and, and_self, not_false_eq_true, not_true_eq_false, *])]) (by decide)]; rfl) | (rw [checkP_ln (k := k) (e := 2) hlo (by omega) (by omega) hkp (by unfold errLn Plan.ln; rw [if_neg (by rw [g1', g2', g3', c3]; decide), if_pos (by omega)]) (by decide)]; rfl)
theorem dvalid_c (p : De.Plan) (pv : Value) (w : World) (hp : PlanR w pv p) : FnP Tryz.prog 29 [pv] w (.int .i64 (planE p)) := by
 have hP := hp
 obtain ⟨lv, rfl, hls⟩ := hp.ex
 have hlen := hp.len
 refine fn_pure Tryz.func29 rfl (by kernel_rfl) Tryz.ntmps29 Tryz.results29 rfl ?_
 refine Vs rfl ?_
 refine Lw rfl (w_box rfl rfl) ?_
 rintro _ _ ⟨b1, hb1, rfl, rfl⟩
 refine La rfl rfl rfl ?_
 refine L_then (kp [1] rfl) ?_
 refine Vs rfl ?_
 refine Lr rfl (rlA (vs := [_, _, _, _, _]) ag26 sz26 rfl rfl rfl) ?_
 refine Lc rfl rfl rfl rfl (fun w hg => dcheck_c p _ w (hP.good hg)) ?_
 refine Lm rfl rfl rfl ?_
 iterate 3 refine Lp rfl (p_ext rfl rfl rfl) ?_
 iterate 3 refine La rfl rfl rfl ?_
 refine L_then (kp [5] rfl) ?_
 refine Vs rfl ?_
 refine Lm rfl rfl rfl ?_
 refine La rfl rfl rfl ?_
 refine L_then (kp [2] rfl) ?_
 refine V_ret ?_
 refine Leave.nil (.tmp rfl .nil) ?_
 rfl

end Go.Proofs.YtlcccpeelombbaaGreatDoor

/- YtlcccpeelombbaaGreatDoor: the reference of layer 6. -/
set_option linter.all false
namespace Go.Proofs.YtlcccpeelombbaaGreatDoor
open Go.Vc Go.Tk Go.De
set_option maxRecDepth 100000
theorem drin_c (n lo hi : Int) (w : World) : FnP Tryz.prog 77 [.int .i64 n, .int .i64 lo, .int .i64 hi] w (.bool (!(oP n lo hi))) := by
 refine fn_pure Tryz.func77 rfl (by kernel_rfl) Tryz.ntmps77 Tryz.results77 rfl ?_
 refine Vs rfl ?_
 refine La rfl rfl rfl ?_
 refine L_then (kp [0, 1, 2] rfl) ?_
 refine Vs rfl ?_
 iterate 2 refine Lm rfl rfl rfl ?_
 refine Lp rfl (p_geq rfl rfl rfl) ?_
 refine Lm rfl rfl rfl ?_
 refine L_cases (d := 10) rfl ?_ ?_
 ·intro g1; have g1' := g1; try simp only [td] at g1'
  refine L_yes rfl rfl rfl g1 (X_p (p_move rfl rfl) ?_)
  refine L_yes rfl rfl rfl g1 (X_p (p_move rfl rfl) ?_)
  refine L_yes rfl rfl rfl g1 (X_p (p_leq rfl rfl rfl) ?_)
  refine Lp rfl (p_pick_t rfl rfl g1 rfl) ?_
  refine La rfl rfl rfl ?_
  refine L_then (kp [6] rfl) ?_
  refine V_ret ?_
  refine Leave.nil (.tmp rfl .nil) ?_
  show Value.bool _ = _
  congr 1
  rw [Bool.eq_iff_iff]
  simp only [Bool.not_eq_true', oP_false, decide_eq_true_eq, Bool.false_eq_true, false_iff]
  omega
 intro g1; have g1' := g1; try simp only [td] at g1'
 iterate 3 refine L_no rfl rfl rfl g1 ?_
 refine Lp rfl (p_pick_f rfl rfl g1 rfl) ?_
 refine La rfl rfl rfl ?_
 refine L_then (kp [6] rfl) ?_
 refine V_ret ?_
 refine Leave.nil (.tmp rfl .nil) ?_
 show Value.bool _ = _
 congr 1
 rw [Bool.eq_iff_iff]
 simp only [Bool.not_eq_true', oP_false, decide_eq_true_eq, Bool.false_eq_true, false_iff]
 omega
set_option maxHeartbeats 8000000 in
theorem drcheck_c (p : De.Plan) (pv : Value) (w : World) (hp : PlanR w pv p) : FnP Tryz.prog 61 [pv] w (.tuple #[.int .i64 (De.checkP p).1, .int .i64 (De.checkP p).2.1, .int .i64 (De.checkP p).2.2]) := by
 have hP := hp
 obtain ⟨lv, rfl, hls⟩ := hp.ex
 have hlen := hp.len
 obtain ⟨la, lc, rfl, hlc, hle⟩ := hls.ex
 simp only [List.length_map] at hP hlc ⊢
 refine fn_pure Tryz.func61 rfl (by kernel_rfl) Tryz.ntmps61 Tryz.results61 rfl ?_
 refine Vs rfl ?_
 refine Lw rfl (w_box rfl rfl) ?_
 rintro _ _ ⟨b1, hb1, rfl, rfl⟩
 iterate 3 refine La rfl rfl rfl ?_
 refine L_then (kp [1] rfl) ?_
 refine V_seq ?_
 refine Vs rfl ?_
 refine Lp rfl (p_fieldo fo26_0 rfl rfl) ?_
 refine Lr rfl (rl ag22 rfl rfl rfl) ?_
 refine Lp rfl (p_len isl22 rfl rfl) ?_
 refine Lc rfl rfl rfl rfl (fun w hg => drin_c _ _ _ w) ?_
 refine Lp rfl (p_not rfl rfl) ?_
 refine L_then (kp [1, 11] rfl) ?_
 refine V_cond rfl ?_ ?_
 ·intro c1; have c1r := c1; try simp only [td] at c1
  refine Vs rfl ?_
  iterate 3 refine La rfl rfl rfl ?_
  refine L_then (kp [2, 3, 4] rfl) ?_
  refine V_ret (then_r ?_)
  refine Leave.nil (.tmp rfl (.tmp rfl (.tmp rfl .nil))) ?_
  first | (rw [checkP_long (by simpa using c1)]; rfl) | (rw [checkP_tail hlo hln (by rw [tailP_alt]; simp only [Bool.or_eq_true, Bool.or_eq_false_iff, Bool.false_eq_true, or_true, true_or, or_false, false_or, and_true, true_and, and_self, not_false_eq_true, not_true_eq_false, *])]; rfl) | (rw [checkP_ok hlo hln (by rw [tailP_alt]; simp only [Bool.or_eq_true, Bool.or_eq_false_iff, Bool.false_eq_true, or_true, true_or, or_false, false_or, and_true, true_and, and_self, not_false_eq_true, not_true_eq_false, *])]; rfl) | (rw [checkP_ln (k := k) (e := 7) hlo (by omega) (by omega) hkp (by unfold errLn Plan.ln; rw [if_pos (by simp only [Bool.or_eq_true, Bool.or_eq_false_iff, Bool.false_eq_true, or_true, true_or, or_false, false_or, and_true, true_and, and_self, not_false_eq_true, not_true_eq_false, *])]) (by decide)]; rfl) | (rw [checkP_ln (k := k) (e := 2) hlo (by omega) (by omega) hkp (by unfold errLn Plan.ln; rw [if_neg (by rw [g1', g2', g3', c3]; decide), if_pos (by omega)]) (by decide)]; rfl)
 intro c1; have c1r := c1; try simp only [td] at c1
 have hlo : oP p.lines.length 1 8 = false := by simpa using c1
 refine V_skip (then_n ?_)
 refine V_seq ?_
 refine Vs rfl ?_
 refine La rfl rfl rfl ?_
 refine L_then (kp [1, 5] rfl) ?_
 refine V_block ?_
 refine V_loop0 (γ := Int) (kp [1] rfl) (fun k => [(5, .int .i64 k)]) (fun k => 0 ≤ k ∧ k ≤ p.lines.length ∧ ∀ j : Nat, (j : Int) < k → errLn (p.ln j) = 0) (fun k => (p.lines.length - k).toNat) (0) (.cons rfl (.nil _)) (⟨by omega, by omega, fun j hj => by omega⟩) ?_
 rintro k hi
 obtain ⟨hk0, hk1, hkp⟩ := hi
 refine V_seq ?_
 refine Vs rfl ?_
 refine Lm rfl rfl rfl ?_
 refine Lp rfl (p_fieldo fo26_0 rfl rfl) ?_
 refine Lr rfl (rl ag22 rfl rfl rfl) ?_
 refine Lp rfl (p_len isl22 rfl rfl) ?_
 refine Lp rfl (p_lss rfl rfl rfl) ?_
 refine L_then (kp [1, 5, 16] rfl) ?_
 refine V_cond rfl ?_ ?_
 ·intro c2; have c2r := c2; try simp only [td] at c2
  obtain ⟨lb, rfl, hc⟩ := hle k.toNat _ (getD_cells (d := lnZ) (by omega))
  refine V_skip (then_n ?_)
  refine V_seq ?_
  refine V_block ?_
  refine Vs rfl ?_
  refine Lp rfl (p_fieldo fo26_0 rfl rfl) ?_
  refine Lr rfl (rl ag22 rfl rfl rfl) ?_
  refine Lm rfl rfl rfl ?_
  refine Lp rfl (p_idx es22 rfl rfl rfl (by omega) (by omega)) ?_
  refine Lr rfl (r_loadBA ag68 sz68 rfl rfl hc rfl List.not_mem_nil) ?_
  refine Lw rfl (w_alloc zr68 rfl) ?_
  rintro _ _ ⟨b2, hb2, rfl, rfl⟩
  refine Ls (cs' := [_, _, _, _]) rfl sz68 rfl rfl rfl rfl rfl rfl rfl ?_
  refine L_then (kp [1, 5, 6] rfl) ?_
  refine V_seq ?_
  refine Vs rfl ?_
  refine Lp rfl (p_fieldo fo68_0 rfl rfl) ?_
  refine Lr rfl (rl ag3 rfl rfl rfl) ?_
  refine Lc rfl rfl rfl rfl (fun w hg => drin_c _ _ _ w) ?_
  refine Lp rfl (p_not rfl rfl) ?_
  refine Lm rfl rfl rfl ?_
  refine L_cases (d := 28) rfl ?_ ?_
  ·intro g1; have g1' := g1; try simp only [td] at g1'
   iterate 4 refine L_no rfl rfl rfl g1 ?_
   refine Lp rfl (p_pick_t rfl rfl g1 rfl) ?_
   refine Lm rfl rfl rfl ?_
   iterate 4 refine L_no rfl rfl rfl rfl ?_
   refine Lp rfl (p_pick_t rfl rfl rfl rfl) ?_
   refine Lm rfl rfl rfl ?_
   iterate 4 refine L_no rfl rfl rfl rfl ?_
   refine Lp rfl (p_pick_t rfl rfl rfl rfl) ?_
   refine L_then (kp [1, 5, 6, 45] rfl) ?_
   refine V_cond_t rfl rfl ?_
   refine Vs rfl ?_
   refine Lm rfl rfl rfl ?_
   iterate 3 refine La rfl rfl rfl ?_
   refine L_then (kp [2, 3, 4] rfl) ?_
   refine V_ret (then_r (blk_r (then_r (then_r (blk_r (then_r ?_))))))
   refine Leave.nil (.tmp rfl (.tmp rfl (.tmp rfl .nil))) ?_
   first | (rw [checkP_long (by simpa using c1)]; rfl) | (rw [checkP_tail hlo hln (by rw [tailP_alt]; simp only [Bool.or_eq_true, Bool.or_eq_false_iff, Bool.false_eq_true, or_true, true_or, or_false, false_or, and_true, true_and, and_self, not_false_eq_true, not_true_eq_false, *])]; rfl) | (rw [checkP_ok hlo hln (by rw [tailP_alt]; simp only [Bool.or_eq_true, Bool.or_eq_false_iff, Bool.false_eq_true, or_true, true_or, or_false, false_or, and_true, true_and, and_self, not_false_eq_true, not_true_eq_false, *])]; rfl) | (rw [checkP_ln (k := k) (e := 7) hlo (by omega) (by omega) hkp (by unfold errLn Plan.ln; rw [if_pos (by simp only [Bool.or_eq_true, Bool.or_eq_false_iff, Bool.false_eq_true, or_true, true_or, or_false, false_or, and_true, true_and, and_self, not_false_eq_true, not_true_eq_false, *])]) (by decide)]; rfl) | (rw [checkP_ln (k := k) (e := 2) hlo (by omega) (by omega) hkp (by unfold errLn Plan.ln; rw [if_neg (by rw [g1', g2', g3', c3]; decide), if_pos (by omega)]) (by decide)]; rfl)
  intro g1; have g1' := g1; try simp only [td] at g1'
  refine L_yes rfl rfl rfl g1 (X_p (p_fieldo fo68_1 rfl rfl) ?_)
  refine L_yes rfl rfl rfl g1 (X_rd (rl ag3 rfl rfl rfl) ?_)
  refine L_yes rfl rfl rfl g1 (X_wr (w_callP rfl rfl rfl (fun w hg => drin_c _ _ _ w)) ?_)
  rintro _ _ ⟨rfl, rfl⟩
  refine L_yes rfl rfl rfl g1 (X_p (p_not rfl rfl) ?_)
  refine Lp rfl (p_pick_f rfl rfl g1 rfl) ?_
  refine Lm rfl rfl rfl ?_
  refine L_cases (d := 34) rfl ?_ ?_
  ·intro g2; have g2' := g2; try simp only [td] at g2'
   iterate 4 refine L_no rfl rfl rfl g2 ?_
   refine Lp rfl (p_pick_t rfl rfl g2 rfl) ?_
   refine Lm rfl rfl rfl ?_
   iterate 4 refine L_no rfl rfl rfl rfl ?_
   refine Lp rfl (p_pick_t rfl rfl rfl rfl) ?_
   refine L_then (kp [1, 5, 6, 45] rfl) ?_
   refine V_cond_t rfl rfl ?_
   refine Vs rfl ?_
   refine Lm rfl rfl rfl ?_
   iterate 3 refine La rfl rfl rfl ?_
   refine L_then (kp [2, 3, 4] rfl) ?_
   refine V_ret (then_r (blk_r (then_r (then_r (blk_r (then_r ?_))))))
   refine Leave.nil (.tmp rfl (.tmp rfl (.tmp rfl .nil))) ?_
   first | (rw [checkP_long (by simpa using c1)]; rfl) | (rw [checkP_tail hlo hln (by rw [tailP_alt]; simp only [Bool.or_eq_true, Bool.or_eq_false_iff, Bool.false_eq_true, or_true, true_or, or_false, false_or, and_true, true_and, and_self, not_false_eq_true, not_true_eq_false, *])]; rfl) | (rw [checkP_ok hlo hln (by rw [tailP_alt]; simp only [Bool.or_eq_true, Bool.or_eq_false_iff, Bool.false_eq_true, or_true, true_or, or_false, false_or, and_true, true_and, and_self, not_false_eq_true, not_true_eq_false, *])]; rfl) | (rw [checkP_ln (k := k) (e := 7) hlo (by omega) (by omega) hkp (by unfold errLn Plan.ln; rw [if_pos (by simp only [Bool.or_eq_true, Bool.or_eq_false_iff, Bool.false_eq_true, or_true, true_or, or_false, false_or, and_true, true_and, and_self, not_false_eq_true, not_true_eq_false, *])]) (by decide)]; rfl) | (rw [checkP_ln (k := k) (e := 2) hlo (by omega) (by omega) hkp (by unfold errLn Plan.ln; rw [if_neg (by rw [g1', g2', g3', c3]; decide), if_pos (by omega)]) (by decide)]; rfl)
  intro g2; have g2' := g2; try simp only [td] at g2'
  refine L_yes rfl rfl rfl g2 (X_p (p_fieldo fo68_2 rfl rfl) ?_)
  refine L_yes rfl rfl rfl g2 (X_rd (rl ag3 rfl rfl rfl) ?_)
  refine L_yes rfl rfl rfl g2 (X_wr (w_callP rfl rfl rfl (fun w hg => drin_c _ _ _ w)) ?_)
  rintro _ _ ⟨rfl, rfl⟩
  refine L_yes rfl rfl rfl g2 (X_p (p_not rfl rfl) ?_)
  refine Lp rfl (p_pick_f rfl rfl g2 rfl) ?_
  refine Lm rfl rfl rfl ?_
  refine L_cases (d := 40) rfl ?_ ?_
  ·intro g3; have g3' := g3; try simp only [td] at g3'
   iterate 4 refine L_no rfl rfl rfl g3 ?_
   refine Lp rfl (p_pick_t rfl rfl g3 rfl) ?_
   refine L_then (kp [1, 5, 6, 45] rfl) ?_
   refine V_cond_t rfl rfl ?_
   refine Vs rfl ?_
   refine Lm rfl rfl rfl ?_
   iterate 3 refine La rfl rfl rfl ?_
   refine L_then (kp [2, 3, 4] rfl) ?_
   refine V_ret (then_r (blk_r (then_r (then_r (blk_r (then_r ?_))))))
   refine Leave.nil (.tmp rfl (.tmp rfl (.tmp rfl .nil))) ?_
   first | (rw [checkP_long (by simpa using c1)]; rfl) | (rw [checkP_tail hlo hln (by rw [tailP_alt]; simp only [Bool.or_eq_true, Bool.or_eq_false_iff, Bool.false_eq_true, or_true, true_or, or_false, false_or, and_true, true_and, and_self, not_false_eq_true, not_true_eq_false, *])]; rfl) | (rw [checkP_ok hlo hln (by rw [tailP_alt]; simp only [Bool.or_eq_true, Bool.or_eq_false_iff, Bool.false_eq_true, or_true, true_or, or_false, false_or, and_true, true_and, and_self, not_false_eq_true, not_true_eq_false, *])]; rfl) | (rw [checkP_ln (k := k) (e := 7) hlo (by omega) (by omega) hkp (by unfold errLn Plan.ln; rw [if_pos (by simp only [Bool.or_eq_true, Bool.or_eq_false_iff, Bool.false_eq_true, or_true, true_or, or_false, false_or, and_true, true_and, and_self, not_false_eq_true, not_true_eq_false, *])]) (by decide)]; rfl) | (rw [checkP_ln (k := k) (e := 2) hlo (by omega) (by omega) hkp (by unfold errLn Plan.ln; rw [if_neg (by rw [g1', g2', g3', c3]; decide), if_pos (by omega)]) (by decide)]; rfl)
  intro g3; have g3' := g3; try simp only [td] at g3'
  refine L_yes rfl rfl rfl g3 (X_p (p_fieldo fo68_3 rfl rfl) ?_)
  refine L_yes rfl rfl rfl g3 (X_rd (rl ag3 rfl rfl rfl) ?_)
  refine L_yes rfl rfl rfl g3 (X_wr (w_callP rfl rfl rfl (fun w hg => drin_c _ _ _ w)) ?_)
  rintro _ _ ⟨rfl, rfl⟩
  refine L_yes rfl rfl rfl g3 (X_p (p_not rfl rfl) ?_)
  refine Lp rfl (p_pick_f rfl rfl g3 rfl) ?_
  refine L_then (kp [1, 5, 6, 45] rfl) ?_
  refine V_cond rfl ?_ ?_
  ·intro c3; have c3r := c3; try simp only [td] at c3
   refine Vs rfl ?_
   refine Lm rfl rfl rfl ?_
   iterate 3 refine La rfl rfl rfl ?_
   refine L_then (kp [2, 3, 4] rfl) ?_
   refine V_ret (then_r (blk_r (then_r (then_r (blk_r (then_r ?_))))))
   refine Leave.nil (.tmp rfl (.tmp rfl (.tmp rfl .nil))) ?_
   first | (rw [checkP_long (by simpa using c1)]; rfl) | (rw [checkP_tail hlo hln (by rw [tailP_alt]; simp only [Bool.or_eq_true, Bool.or_eq_false_iff, Bool.false_eq_true, or_true, true_or, or_false, false_or, and_true, true_and, and_self, not_false_eq_true, not_true_eq_false, *])]; rfl) | (rw [checkP_ok hlo hln (by rw [tailP_alt]; simp only [Bool.or_eq_true, Bool.or_eq_false_iff, Bool.false_eq_true, or_true, true_or, or_false, false_or, and_true, true_and, and_self, not_false_eq_true, not_true_eq_false, *])]; rfl) | (rw [checkP_ln (k := k) (e := 7) hlo (by omega) (by omega) hkp (by unfold errLn Plan.ln; rw [if_pos (by simp only [Bool.or_eq_true, Bool.or_eq_false_iff, Bool.false_eq_true, or_true, true_or, or_false, false_or, and_true, true_and, and_self, not_false_eq_true, not_true_eq_false, *])]) (by decide)]; rfl) | (rw [checkP_ln (k := k) (e := 2) hlo (by omega) (by omega) hkp (by unfold errLn Plan.ln; rw [if_neg (by rw [g1', g2', g3', c3]; decide), if_pos (by omega)]) (by decide)]; rfl)
  intro c3; have c3r := c3; try simp only [td] at c3
  refine V_skip (then_n ?_)
  refine Vs rfl ?_
  refine Lp rfl (p_fieldo fo68_0 rfl rfl) ?_
  refine Lr rfl (rl ag3 rfl rfl rfl) ?_
  refine Lp rfl (p_eql rfl rfl rfl) ?_
  refine Lm rfl rfl rfl ?_
  refine L_cases (d := 50) rfl ?_ ?_
  ·intro g4; have g4' := g4; try simp only [td] at g4'
   refine L_yes rfl rfl rfl g4 (X_p (p_fieldo fo68_1 rfl rfl) ?_)
   refine L_yes rfl rfl rfl g4 (X_rd (rl ag3 rfl rfl rfl) ?_)
   refine L_yes rfl rfl rfl g4 (X_p (p_eql rfl rfl rfl) ?_)
   refine Lp rfl (p_pick_t rfl rfl g4 rfl) ?_
   refine Lm rfl rfl rfl ?_
   refine L_cases (d := 55) rfl ?_ ?_
   ·intro g5; have g5' := g5; try simp only [td] at g5'
    iterate 5 refine L_no rfl rfl rfl g5 ?_
    refine Lp rfl (p_pick_t rfl rfl g5 rfl) ?_
    refine L_then (kp [1, 5, 61] rfl) ?_
    refine V_cond_t rfl rfl ?_
    refine Vs rfl ?_
    refine Lm rfl rfl rfl ?_
    iterate 3 refine La rfl rfl rfl ?_
    refine L_then (kp [2, 3, 4] rfl) ?_
    refine V_ret (blk_r (then_r (then_r (blk_r (then_r ?_)))))
    refine Leave.nil (.tmp rfl (.tmp rfl (.tmp rfl .nil))) ?_
    first | (rw [checkP_long (by simpa using c1)]; rfl) | (rw [checkP_tail hlo hln (by rw [tailP_alt]; simp only [Bool.or_eq_true, Bool.or_eq_false_iff, Bool.false_eq_true, or_true, true_or, or_false, false_or, and_true, true_and, and_self, not_false_eq_true, not_true_eq_false, *])]; rfl) | (rw [checkP_ok hlo hln (by rw [tailP_alt]; simp only [Bool.or_eq_true, Bool.or_eq_false_iff, Bool.false_eq_true, or_true, true_or, or_false, false_or, and_true, true_and, and_self, not_false_eq_true, not_true_eq_false, *])]; rfl) | (rw [checkP_ln (k := k) (e := 7) hlo (by omega) (by omega) hkp (by unfold errLn Plan.ln; rw [if_pos (by simp only [Bool.or_eq_true, Bool.or_eq_false_iff, Bool.false_eq_true, or_true, true_or, or_false, false_or, and_true, true_and, and_self, not_false_eq_true, not_true_eq_false, *])]) (by decide)]; rfl) | (rw [checkP_ln (k := k) (e := 2) hlo (by omega) (by omega) hkp (by unfold errLn Plan.ln; rw [if_neg (by rw [g1', g2', g3', c3]; decide), if_pos (by omega)]) (by decide)]; rfl)
   intro g5; have g5' := g5; try simp only [td] at g5'
   refine L_yes rfl rfl rfl g5 (X_p (p_fieldo fo68_2 rfl rfl) ?_)
   refine L_yes rfl rfl rfl g5 (X_rd (rl ag3 rfl rfl rfl) ?_)
   refine L_yes rfl rfl rfl g5 (X_p (p_fieldo fo68_3 rfl rfl) ?_)
   refine L_yes rfl rfl rfl g5 (X_rd (rl ag3 rfl rfl rfl) ?_)
   refine L_yes rfl rfl rfl g5 (X_p (p_gtr rfl rfl rfl) ?_)
   refine Lp rfl (p_pick_f rfl rfl g5 rfl) ?_
   refine L_then (kp [1, 5, 61] rfl) ?_
   refine V_cond rfl ?_ ?_
   ·intro c4; have c4r := c4; try simp only [td] at c4
    refine Vs rfl ?_
    refine Lm rfl rfl rfl ?_
    iterate 3 refine La rfl rfl rfl ?_
    refine L_then (kp [2, 3, 4] rfl) ?_
    refine V_ret (blk_r (then_r (then_r (blk_r (then_r ?_)))))
    refine Leave.nil (.tmp rfl (.tmp rfl (.tmp rfl .nil))) ?_
    first | (rw [checkP_long (by simpa using c1)]; rfl) | (rw [checkP_tail hlo hln (by rw [tailP_alt]; simp only [Bool.or_eq_true, Bool.or_eq_false_iff, Bool.false_eq_true, or_true, true_or, or_false, false_or, and_true, true_and, and_self, not_false_eq_true, not_true_eq_false, *])]; rfl) | (rw [checkP_ok hlo hln (by rw [tailP_alt]; simp only [Bool.or_eq_true, Bool.or_eq_false_iff, Bool.false_eq_true, or_true, true_or, or_false, false_or, and_true, true_and, and_self, not_false_eq_true, not_true_eq_false, *])]; rfl) | (rw [checkP_ln (k := k) (e := 7) hlo (by omega) (by omega) hkp (by unfold errLn Plan.ln; rw [if_pos (by simp only [Bool.or_eq_true, Bool.or_eq_false_iff, Bool.false_eq_true, or_true, true_or, or_false, false_or, and_true, true_and, and_self, not_false_eq_true, not_true_eq_false, *])]) (by decide)]; rfl) | (rw [checkP_ln (k := k) (e := 2) hlo (by omega) (by omega) hkp (by unfold errLn Plan.ln; rw [if_neg (by rw [g1', g2', g3', c3]; decide), if_pos (by omega)]) (by decide)]; rfl)
   intro c4; have c4r := c4; try simp only [td] at c4
   refine V_skip (blk_n (then_n ?_))
   refine V_region rfl ?_
   refine Lm rfl rfl rfl ?_
   first | refine Lp rfl (p_add' rfl rfl rfl (by unfold InI; omega)) ?_ | refine Lp rfl (p_add rfl rfl rfl) ?_
   refine La rfl rfl rfl ?_
   refine L_keep (kp [1, 5] rfl) (then_n ?_)
   refine ⟨k + 1, ?_, ?_, (.cons rfl (.cons rfl (.nil _))), (by repeat (first | exact List.Sublist.refl _ | apply List.Sublist.cons_cons | apply List.Sublist.cons | apply List.sublist_append_of_sublist_right)), rfl⟩
   ·refine ⟨by omega, by omega, fun j hj => ?_⟩; by_cases e : (j : Int) < k
    ·exact hkp j e
    have ej : j = k.toNat := by omega
    rw [ej]; unfold errLn Plan.ln; rw [if_neg (by rw [g1', g2', g3', c3]; decide), if_neg (by omega)]
   omega
  intro g4; have g4' := g4; try simp only [td] at g4'
  iterate 3 refine L_no rfl rfl rfl g4 ?_
  refine Lp rfl (p_pick_f rfl rfl g4 rfl) ?_
  refine Lm rfl rfl rfl ?_
  refine L_yes rfl rfl rfl rfl (X_p (p_fieldo fo68_2 rfl rfl) ?_)
  refine L_yes rfl rfl rfl rfl (X_rd (rl ag3 rfl rfl rfl) ?_)
  refine L_yes rfl rfl rfl rfl (X_p (p_fieldo fo68_3 rfl rfl) ?_)
  refine L_yes rfl rfl rfl rfl (X_rd (rl ag3 rfl rfl rfl) ?_)
  refine L_yes rfl rfl rfl rfl (X_p (p_gtr rfl rfl rfl) ?_)
  refine Lp rfl (p_pick_f rfl rfl rfl rfl) ?_
  refine L_then (kp [1, 5, 61] rfl) ?_
  refine V_cond rfl ?_ ?_
  ·intro c5; have c5r := c5; try simp only [td] at c5
   refine Vs rfl ?_
   refine Lm rfl rfl rfl ?_
   iterate 3 refine La rfl rfl rfl ?_
   refine L_then (kp [2, 3, 4] rfl) ?_
   refine V_ret (blk_r (then_r (then_r (blk_r (then_r ?_)))))
   refine Leave.nil (.tmp rfl (.tmp rfl (.tmp rfl .nil))) ?_
   first | (rw [checkP_long (by simpa using c1)]; rfl) | (rw [checkP_tail hlo hln (by rw [tailP_alt]; simp only [Bool.or_eq_true, Bool.or_eq_false_iff, Bool.false_eq_true, or_true, true_or, or_false, false_or, and_true, true_and, and_self, not_false_eq_true, not_true_eq_false, *])]; rfl) | (rw [checkP_ok hlo hln (by rw [tailP_alt]; simp only [Bool.or_eq_true, Bool.or_eq_false_iff, Bool.false_eq_true, or_true, true_or, or_false, false_or, and_true, true_and, and_self, not_false_eq_true, not_true_eq_false, *])]; rfl) | (rw [checkP_ln (k := k) (e := 7) hlo (by omega) (by omega) hkp (by unfold errLn Plan.ln; rw [if_pos (by simp only [Bool.or_eq_true, Bool.or_eq_false_iff, Bool.false_eq_true, or_true, true_or, or_false, false_or, and_true, true_and, and_self, not_false_eq_true, not_true_eq_false, *])]) (by decide)]; rfl) | (rw [checkP_ln (k := k) (e := 2) hlo (by omega) (by omega) hkp (by unfold errLn Plan.ln; rw [if_neg (by rw [g1', g2', g3', c3]; decide), if_pos (by omega)]) (by decide)]; rfl)
  intro c5; have c5r := c5; try simp only [td] at c5
  refine V_skip (blk_n (then_n ?_))
  refine V_region rfl ?_
  refine Lm rfl rfl rfl ?_
  first | refine Lp rfl (p_add' rfl rfl rfl (by unfold InI; omega)) ?_ | refine Lp rfl (p_add rfl rfl rfl) ?_
  refine La rfl rfl rfl ?_
  refine L_keep (kp [1, 5] rfl) (then_n ?_)
  refine ⟨k + 1, ?_, ?_, (.cons rfl (.cons rfl (.nil _))), (by repeat (first | exact List.Sublist.refl _ | apply List.Sublist.cons_cons | apply List.Sublist.cons | apply List.sublist_append_of_sublist_right)), rfl⟩
  ·refine ⟨by omega, by omega, fun j hj => ?_⟩; by_cases e : (j : Int) < k
   ·exact hkp j e
   have ej : j = k.toNat := by omega
   rw [ej]; unfold errLn Plan.ln; rw [if_neg (by rw [g1', g2', g3', c3]; decide), if_neg (by omega)]
  omega
 intro c2; have c2r := c2; try simp only [td] at c2
 have hln : ∀ j : Nat, j < p.lines.length → errLn (p.ln j) = 0 := fun j hj => hkp j (by omega)
 refine V_exit (then_e (then_e (blk_e rfl (then_n ?_))))
 refine V_seq ?_
 refine Vs rfl ?_
 refine Lp rfl (p_fieldo fo26_1 rfl rfl) ?_
 refine Lp rfl (p_fieldo fo24_0 rfl rfl) ?_
 refine Lr rfl (rl ag3 rfl rfl rfl) ?_
 refine Lc rfl rfl rfl rfl (fun w hg => drin_c _ _ _ w) ?_
 refine Lp rfl (p_not rfl rfl) ?_
 refine Lm rfl rfl rfl ?_
 refine L_cases (d := 68) rfl ?_ ?_
 ·intro g6; have g6' := g6; try simp only [td] at g6'
  iterate 8 refine L_no rfl rfl rfl g6 ?_
  refine Lp rfl (p_pick_t rfl rfl g6 rfl) ?_
  refine Lm rfl rfl rfl ?_
  iterate 4 refine L_no rfl rfl rfl rfl ?_
  refine Lp rfl (p_pick_t rfl rfl rfl rfl) ?_
  refine Lm rfl rfl rfl ?_
  iterate 4 refine L_no rfl rfl rfl rfl ?_
  refine Lp rfl (p_pick_t rfl rfl rfl rfl) ?_
  refine L_then (kp [89] rfl) ?_
  refine V_cond_t rfl rfl ?_
  refine Vs rfl ?_
  iterate 3 refine La rfl rfl rfl ?_
  refine L_then (kp [2, 3, 4] rfl) ?_
  refine V_ret (then_r ?_)
  refine Leave.nil (.tmp rfl (.tmp rfl (.tmp rfl .nil))) ?_
  first | (rw [checkP_long (by simpa using c1)]; rfl) | (rw [checkP_tail hlo hln (by rw [tailP_alt]; simp only [Bool.or_eq_true, Bool.or_eq_false_iff, Bool.false_eq_true, or_true, true_or, or_false, false_or, and_true, true_and, and_self, not_false_eq_true, not_true_eq_false, *])]; rfl) | (rw [checkP_ok hlo hln (by rw [tailP_alt]; simp only [Bool.or_eq_true, Bool.or_eq_false_iff, Bool.false_eq_true, or_true, true_or, or_false, false_or, and_true, true_and, and_self, not_false_eq_true, not_true_eq_false, *])]; rfl) | (rw [checkP_ln (k := k) (e := 7) hlo (by omega) (by omega) hkp (by unfold errLn Plan.ln; rw [if_pos (by simp only [Bool.or_eq_true, Bool.or_eq_false_iff, Bool.false_eq_true, or_true, true_or, or_false, false_or, and_true, true_and, and_self, not_false_eq_true, not_true_eq_false, *])]) (by decide)]; rfl) | (rw [checkP_ln (k := k) (e := 2) hlo (by omega) (by omega) hkp (by unfold errLn Plan.ln; rw [if_neg (by rw [g1', g2', g3', c3]; decide), if_pos (by omega)]) (by decide)]; rfl)
 intro g6; have g6' := g6; try simp only [td] at g6'
 refine L_yes rfl rfl rfl g6 (X_p (p_fieldo fo26_1 rfl rfl) ?_)
 refine L_yes rfl rfl rfl g6 (X_p (p_fieldo fo24_1 rfl rfl) ?_)
 refine L_yes rfl rfl rfl g6 (X_rd (rl ag3 rfl rfl rfl) ?_)
 refine L_yes rfl rfl rfl g6 (X_p (p_fieldo fo26_1 rfl rfl) ?_)
 refine L_yes rfl rfl rfl g6 (X_p (p_fieldo fo24_0 rfl rfl) ?_)
 refine L_yes rfl rfl rfl g6 (X_rd (rl ag3 rfl rfl rfl) ?_)
 refine L_yes rfl rfl rfl g6 (X_wr (w_callP rfl rfl rfl (fun w hg => drin_c _ _ _ w)) ?_)
 rintro _ _ ⟨rfl, rfl⟩
 refine L_yes rfl rfl rfl g6 (X_p (p_not rfl rfl) ?_)
 refine Lp rfl (p_pick_f rfl rfl g6 rfl) ?_
 refine Lm rfl rfl rfl ?_
 refine L_cases (d := 78) rfl ?_ ?_
 ·intro g7; have g7' := g7; try simp only [td] at g7'
  iterate 4 refine L_no rfl rfl rfl g7 ?_
  refine Lp rfl (p_pick_t rfl rfl g7 rfl) ?_
  refine Lm rfl rfl rfl ?_
  iterate 4 refine L_no rfl rfl rfl rfl ?_
  refine Lp rfl (p_pick_t rfl rfl rfl rfl) ?_
  refine L_then (kp [89] rfl) ?_
  refine V_cond_t rfl rfl ?_
  refine Vs rfl ?_
  iterate 3 refine La rfl rfl rfl ?_
  refine L_then (kp [2, 3, 4] rfl) ?_
  refine V_ret (then_r ?_)
  refine Leave.nil (.tmp rfl (.tmp rfl (.tmp rfl .nil))) ?_
  first | (rw [checkP_long (by simpa using c1)]; rfl) | (rw [checkP_tail hlo hln (by rw [tailP_alt]; simp only [Bool.or_eq_true, Bool.or_eq_false_iff, Bool.false_eq_true, or_true, true_or, or_false, false_or, and_true, true_and, and_self, not_false_eq_true, not_true_eq_false, *])]; rfl) | (rw [checkP_ok hlo hln (by rw [tailP_alt]; simp only [Bool.or_eq_true, Bool.or_eq_false_iff, Bool.false_eq_true, or_true, true_or, or_false, false_or, and_true, true_and, and_self, not_false_eq_true, not_true_eq_false, *])]; rfl) | (rw [checkP_ln (k := k) (e := 7) hlo (by omega) (by omega) hkp (by unfold errLn Plan.ln; rw [if_pos (by simp only [Bool.or_eq_true, Bool.or_eq_false_iff, Bool.false_eq_true, or_true, true_or, or_false, false_or, and_true, true_and, and_self, not_false_eq_true, not_true_eq_false, *])]) (by decide)]; rfl) | (rw [checkP_ln (k := k) (e := 2) hlo (by omega) (by omega) hkp (by unfold errLn Plan.ln; rw [if_neg (by rw [g1', g2', g3', c3]; decide), if_pos (by omega)]) (by decide)]; rfl)
 intro g7; have g7' := g7; try simp only [td] at g7'
 refine L_yes rfl rfl rfl g7 (X_p (p_fieldo fo26_2 rfl rfl) ?_)
 refine L_yes rfl rfl rfl g7 (X_rd (rl ag3 rfl rfl rfl) ?_)
 refine L_yes rfl rfl rfl g7 (X_wr (w_callP rfl rfl rfl (fun w hg => drin_c _ _ _ w)) ?_)
 rintro _ _ ⟨rfl, rfl⟩
 refine L_yes rfl rfl rfl g7 (X_p (p_not rfl rfl) ?_)
 refine Lp rfl (p_pick_f rfl rfl g7 rfl) ?_
 refine Lm rfl rfl rfl ?_
 refine L_cases (d := 84) rfl ?_ ?_
 ·intro g8; have g8' := g8; try simp only [td] at g8'
  iterate 4 refine L_no rfl rfl rfl g8 ?_
  refine Lp rfl (p_pick_t rfl rfl g8 rfl) ?_
  refine L_then (kp [89] rfl) ?_
  refine V_cond_t rfl rfl ?_
  refine Vs rfl ?_
  iterate 3 refine La rfl rfl rfl ?_
  refine L_then (kp [2, 3, 4] rfl) ?_
  refine V_ret (then_r ?_)
  refine Leave.nil (.tmp rfl (.tmp rfl (.tmp rfl .nil))) ?_
  first | (rw [checkP_long (by simpa using c1)]; rfl) | (rw [checkP_tail hlo hln (by rw [tailP_alt]; simp only [Bool.or_eq_true, Bool.or_eq_false_iff, Bool.false_eq_true, or_true, true_or, or_false, false_or, and_true, true_and, and_self, not_false_eq_true, not_true_eq_false, *])]; rfl) | (rw [checkP_ok hlo hln (by rw [tailP_alt]; simp only [Bool.or_eq_true, Bool.or_eq_false_iff, Bool.false_eq_true, or_true, true_or, or_false, false_or, and_true, true_and, and_self, not_false_eq_true, not_true_eq_false, *])]; rfl) | (rw [checkP_ln (k := k) (e := 7) hlo (by omega) (by omega) hkp (by unfold errLn Plan.ln; rw [if_pos (by simp only [Bool.or_eq_true, Bool.or_eq_false_iff, Bool.false_eq_true, or_true, true_or, or_false, false_or, and_true, true_and, and_self, not_false_eq_true, not_true_eq_false, *])]) (by decide)]; rfl) | (rw [checkP_ln (k := k) (e := 2) hlo (by omega) (by omega) hkp (by unfold errLn Plan.ln; rw [if_neg (by rw [g1', g2', g3', c3]; decide), if_pos (by omega)]) (by decide)]; rfl)
 intro g8; have g8' := g8; try simp only [td] at g8'
 refine L_yes rfl rfl rfl g8 (X_p (p_fieldo fo26_3 rfl rfl) ?_)
 refine L_yes rfl rfl rfl g8 (X_rd (rl ag3 rfl rfl rfl) ?_)
 refine L_yes rfl rfl rfl g8 (X_wr (w_callP rfl rfl rfl (fun w hg => drin_c _ _ _ w)) ?_)
 rintro _ _ ⟨rfl, rfl⟩
 refine L_yes rfl rfl rfl g8 (X_p (p_not rfl rfl) ?_)
 refine Lp rfl (p_pick_f rfl rfl g8 rfl) ?_
 refine L_then (kp [89] rfl) ?_
 refine V_cond rfl ?_ ?_
 ·intro c6; have c6r := c6; try simp only [td] at c6
  refine Vs rfl ?_
  iterate 3 refine La rfl rfl rfl ?_
  refine L_then (kp [2, 3, 4] rfl) ?_
  refine V_ret (then_r ?_)
  refine Leave.nil (.tmp rfl (.tmp rfl (.tmp rfl .nil))) ?_
  first | (rw [checkP_long (by simpa using c1)]; rfl) | (rw [checkP_tail hlo hln (by rw [tailP_alt]; simp only [Bool.or_eq_true, Bool.or_eq_false_iff, Bool.false_eq_true, or_true, true_or, or_false, false_or, and_true, true_and, and_self, not_false_eq_true, not_true_eq_false, *])]; rfl) | (rw [checkP_ok hlo hln (by rw [tailP_alt]; simp only [Bool.or_eq_true, Bool.or_eq_false_iff, Bool.false_eq_true, or_true, true_or, or_false, false_or, and_true, true_and, and_self, not_false_eq_true, not_true_eq_false, *])]; rfl) | (rw [checkP_ln (k := k) (e := 7) hlo (by omega) (by omega) hkp (by unfold errLn Plan.ln; rw [if_pos (by simp only [Bool.or_eq_true, Bool.or_eq_false_iff, Bool.false_eq_true, or_true, true_or, or_false, false_or, and_true, true_and, and_self, not_false_eq_true, not_true_eq_false, *])]) (by decide)]; rfl) | (rw [checkP_ln (k := k) (e := 2) hlo (by omega) (by omega) hkp (by unfold errLn Plan.ln; rw [if_neg (by rw [g1', g2', g3', c3]; decide), if_pos (by omega)]) (by decide)]; rfl)
 intro c6; have c6r := c6; try simp only [td] at c6
 refine V_skip (then_n ?_)
 refine Vs rfl ?_
 iterate 3 refine La rfl rfl rfl ?_
 refine L_then (kp [2, 3, 4] rfl) ?_
 refine V_ret ?_
 refine Leave.nil (.tmp rfl (.tmp rfl (.tmp rfl .nil))) ?_
 first | (rw [checkP_long (by simpa using c1)]; rfl) | (rw [checkP_tail hlo hln (by rw [tailP_alt]; simp only [Bool.or_eq_true, Bool.or_eq_false_iff, Bool.false_eq_true, or_true, true_or, or_false, false_or, and_true, true_and, and_self, not_false_eq_true, not_true_eq_false, *])]; rfl) | (rw [checkP_ok hlo hln (by rw [tailP_alt]; simp only [Bool.or_eq_true, Bool.or_eq_false_iff, Bool.false_eq_true, or_true, true_or, or_false, false_or, and_true, true_and, and_self, not_false_eq_true, not_true_eq_false, *])]; rfl) | (rw [checkP_ln (k := k) (e := 7) hlo (by omega) (by omega) hkp (by unfold errLn Plan.ln; rw [if_pos (by simp only [Bool.or_eq_true, Bool.or_eq_false_iff, Bool.false_eq_true, or_true, true_or, or_false, false_or, and_true, true_and, and_self, not_false_eq_true, not_true_eq_false, *])]) (by decide)]; rfl) | (rw [checkP_ln (k := k) (e := 2) hlo (by omega) (by omega) hkp (by unfold errLn Plan.ln; rw [if_neg (by rw [g1', g2', g3', c3]; decide), if_pos (by omega)]) (by decide)]; rfl)

end Go.Proofs.YtlcccpeelombbaaGreatDoor

/- YtlcccpeelombbaaGreatDoor: the reference of layer 6: falls, lines, looks, decisions. -/
set_option linter.all false
namespace Go.Proofs.YtlcccpeelombbaaGreatDoor
open Go.Vc Go.Tk Go.De
set_option maxRecDepth 100000
theorem drplace_c (s : Span) (w : World) : FnP Tryz.prog 67 [.agg #[.int .i64 s.lo, .int .i64 s.hi]] w (.bool (!(offS s))) := by
 refine fn_pure Tryz.func67 rfl (by kernel_rfl) Tryz.ntmps67 Tryz.results67 rfl ?_
 refine Vs rfl ?_
 refine Lw rfl (w_box rfl rfl) ?_
 rintro _ _ ⟨b1, hb1, rfl, rfl⟩
 refine La rfl rfl rfl ?_
 refine L_then (kp [1] rfl) ?_
 refine Vs rfl ?_
 refine Lp rfl (p_fieldo fo24_0 rfl rfl) ?_
 refine Lr rfl (rl ag3 rfl rfl rfl) ?_
 refine Lp rfl (p_fieldo fo24_1 rfl rfl) ?_
 refine Lr rfl (rl ag3 rfl rfl rfl) ?_
 refine Lp rfl (p_leq rfl rfl rfl) ?_
 refine Lm rfl rfl rfl ?_
 refine L_cases (d := 8) rfl ?_ ?_
 ·intro g1; have g1' := g1; try simp only [td] at g1'
  refine L_yes rfl rfl rfl g1 (X_p (p_fieldo fo24_0 rfl rfl) ?_)
  refine L_yes rfl rfl rfl g1 (X_rd (rl ag3 rfl rfl rfl) ?_)
  refine L_yes rfl rfl rfl g1 (X_wr (w_callP rfl rfl rfl (fun w hg => drin_c _ _ _ w)) ?_)
  rintro _ _ ⟨rfl, rfl⟩
  refine Lp rfl (p_pick_t rfl rfl g1 rfl) ?_
  refine Lm rfl rfl rfl ?_
  refine L_cases (d := 13) rfl ?_ ?_
  ·intro g2; have g2' := g2; try simp only [td] at g2'
   refine L_yes rfl rfl rfl g2 (X_p (p_fieldo fo24_1 rfl rfl) ?_)
   refine L_yes rfl rfl rfl g2 (X_rd (rl ag3 rfl rfl rfl) ?_)
   refine L_yes rfl rfl rfl g2 (X_wr (w_callP rfl rfl rfl (fun w hg => drin_c _ _ _ w)) ?_)
   rintro _ _ ⟨rfl, rfl⟩
   refine Lp rfl (p_pick_t rfl rfl g2 rfl) ?_
   refine La rfl rfl rfl ?_
   refine L_then (kp [2] rfl) ?_
   refine V_ret ?_
   refine Leave.nil (.tmp rfl .nil) ?_
   show Value.bool _ = _
   congr 1
   rw [Bool.eq_iff_iff]
   simp only [Bool.not_eq_true', off_false, oP_false, oP_true, Bool.false_eq_true, false_iff] at *
   omega
  intro g2; have g2' := g2; try simp only [td] at g2'
  iterate 3 refine L_no rfl rfl rfl g2 ?_
  refine Lp rfl (p_pick_f rfl rfl g2 rfl) ?_
  refine La rfl rfl rfl ?_
  refine L_then (kp [2] rfl) ?_
  refine V_ret ?_
  refine Leave.nil (.tmp rfl .nil) ?_
  show Value.bool _ = _
  congr 1
  rw [Bool.eq_iff_iff]
  simp only [Bool.not_eq_true', off_false, oP_false, oP_true, Bool.false_eq_true, false_iff] at *
  omega
 intro g1; have g1' := g1; try simp only [td] at g1'
 iterate 3 refine L_no rfl rfl rfl g1 ?_
 refine Lp rfl (p_pick_f rfl rfl g1 rfl) ?_
 refine Lm rfl rfl rfl ?_
 iterate 3 refine L_no rfl rfl rfl rfl ?_
 refine Lp rfl (p_pick_f rfl rfl rfl rfl) ?_
 refine La rfl rfl rfl ?_
 refine L_then (kp [2] rfl) ?_
 refine V_ret ?_
 refine Leave.nil (.tmp rfl .nil) ?_
 show Value.bool _ = _
 congr 1
 rw [Bool.eq_iff_iff]
 simp only [Bool.not_eq_true', off_false, oP_false, oP_true, Bool.false_eq_true, false_iff] at *
 omega
theorem drgood_c (p : De.Plan) (pv : Value) (w : World) (hp : PlanR w pv p) : FnP Tryz.prog 33 [pv] w (.int .i64 (planE p)) := by
 have hP := hp
 obtain ⟨lv, rfl, hls⟩ := hp.ex
 have hlen := hp.len
 refine fn_pure Tryz.func33 rfl (by kernel_rfl) Tryz.ntmps33 Tryz.results33 rfl ?_
 refine Vs rfl ?_
 refine Lw rfl (w_box rfl rfl) ?_
 rintro _ _ ⟨b1, hb1, rfl, rfl⟩
 refine La rfl rfl rfl ?_
 refine L_then (kp [1] rfl) ?_
 refine Vs rfl ?_
 refine Lr rfl (rlA (vs := [_, _, _, _, _]) ag26 sz26 rfl rfl rfl) ?_
 refine Lc rfl rfl rfl rfl (fun w hg => drcheck_c p _ w (hP.good hg)) ?_
 refine Lm rfl rfl rfl ?_
 iterate 3 refine Lp rfl (p_ext rfl rfl rfl) ?_
 iterate 3 refine La rfl rfl rfl ?_
 refine L_then (kp [5] rfl) ?_
 refine Vs rfl ?_
 refine Lm rfl rfl rfl ?_
 refine La rfl rfl rfl ?_
 refine L_then (kp [2] rfl) ?_
 refine V_ret ?_
 refine Leave.nil (.tmp rfl .nil) ?_
 rfl
set_option maxHeartbeats 4000000 in
theorem drmost_c (l : De.Line) (x y : Span) (hl : LnB l) (hx : offS x = false) (hy : offS y = false) (w : World) : FnP Tryz.prog 46 [.agg (De.Line.cells l).toArray, .agg #[.int .i64 x.lo, .int .i64 x.hi, .int .i64 y.lo, .int .i64 y.hi]] w (.int .i64 (mostL l x y)) := by
 have hx := off_false.1 hx
 have hy := off_false.1 hy
 have m0 := mul_abs (A := 1000) (B := 2000000000) (by omega) hl.a (b := x.lo) (by omega)
 have m1 := mul_abs (A := 1000) (B := 2000000000) (by omega) hl.a (b := x.hi) (by omega)
 have m2 := mul_abs (A := 1000) (B := 2000000000) (by omega) hl.b (b := y.lo) (by omega)
 have m3 := mul_abs (A := 1000) (B := 2000000000) (by omega) hl.b (b := y.hi) (by omega)
 refine fn_pure Tryz.func46 rfl (by kernel_rfl) Tryz.ntmps46 Tryz.results46 rfl ?_
 refine Vs rfl ?_
 refine Lw rfl (w_box rfl rfl) ?_
 rintro _ _ ⟨b1, hb1, rfl, rfl⟩
 refine Lw rfl (w_box rfl rfl) ?_
 rintro _ _ ⟨b2, hb2, rfl, rfl⟩
 refine La rfl rfl rfl ?_
 refine L_then (kp [2, 3] rfl) ?_
 refine Vs rfl ?_
 refine Lp rfl (p_fieldo fo68_0 rfl rfl) ?_
 refine Lr rfl (rl ag3 rfl rfl rfl) ?_
 refine Lp rfl (p_fieldo fo30_0 rfl rfl) ?_
 refine Lp rfl (p_fieldo fo24_0 rfl rfl) ?_
 refine Lr rfl (rl ag3 rfl rfl rfl) ?_
 refine Lp rfl (p_mul' rfl rfl rfl (by unfold InI; omega)) ?_
 refine Lp rfl (p_fieldo fo68_0 rfl rfl) ?_
 refine Lr rfl (rl ag3 rfl rfl rfl) ?_
 refine Lp rfl (p_fieldo fo30_0 rfl rfl) ?_
 refine Lp rfl (p_fieldo fo24_1 rfl rfl) ?_
 refine Lr rfl (rl ag3 rfl rfl rfl) ?_
 refine Lp rfl (p_mul' rfl rfl rfl (by unfold InI; omega)) ?_
 refine Lp rfl (p_max rfl rfl rfl) ?_
 refine Lp rfl (p_fieldo fo68_1 rfl rfl) ?_
 refine Lr rfl (rl ag3 rfl rfl rfl) ?_
 refine Lp rfl (p_fieldo fo30_1 rfl rfl) ?_
 refine Lp rfl (p_fieldo fo24_0 rfl rfl) ?_
 refine Lr rfl (rl ag3 rfl rfl rfl) ?_
 refine Lp rfl (p_mul' rfl rfl rfl (by unfold InI; omega)) ?_
 refine Lp rfl (p_fieldo fo68_1 rfl rfl) ?_
 refine Lr rfl (rl ag3 rfl rfl rfl) ?_
 refine Lp rfl (p_fieldo fo30_1 rfl rfl) ?_
 refine Lp rfl (p_fieldo fo24_1 rfl rfl) ?_
 refine Lr rfl (rl ag3 rfl rfl rfl) ?_
 refine Lp rfl (p_mul' rfl rfl rfl (by unfold InI; omega)) ?_
 refine Lp rfl (p_max rfl rfl rfl) ?_
 first | refine Lp rfl (p_add' rfl rfl rfl (by unfold InI; omega)) ?_ | refine Lp rfl (p_add rfl rfl rfl) ?_
 refine La rfl rfl rfl ?_
 refine L_then (kp [4] rfl) ?_
 refine V_ret ?_
 refine Leave.nil (.tmp rfl .nil) ?_
 rfl
set_option maxHeartbeats 4000000 in
theorem drleast_c (l : De.Line) (x y : Span) (hl : LnB l) (hx : offS x = false) (hy : offS y = false) (w : World) : FnP Tryz.prog 51 [.agg (De.Line.cells l).toArray, .agg #[.int .i64 x.lo, .int .i64 x.hi, .int .i64 y.lo, .int .i64 y.hi]] w (.int .i64 (leastL l x y)) := by
 have hx := off_false.1 hx
 have hy := off_false.1 hy
 have m0 := mul_abs (A := 1000) (B := 2000000000) (by omega) hl.a (b := x.lo) (by omega)
 have m1 := mul_abs (A := 1000) (B := 2000000000) (by omega) hl.a (b := x.hi) (by omega)
 have m2 := mul_abs (A := 1000) (B := 2000000000) (by omega) hl.b (b := y.lo) (by omega)
 have m3 := mul_abs (A := 1000) (B := 2000000000) (by omega) hl.b (b := y.hi) (by omega)
 refine fn_pure Tryz.func51 rfl (by kernel_rfl) Tryz.ntmps51 Tryz.results51 rfl ?_
 refine Vs rfl ?_
 refine Lw rfl (w_box rfl rfl) ?_
 rintro _ _ ⟨b1, hb1, rfl, rfl⟩
 refine Lw rfl (w_box rfl rfl) ?_
 rintro _ _ ⟨b2, hb2, rfl, rfl⟩
 refine La rfl rfl rfl ?_
 refine L_then (kp [2, 3] rfl) ?_
 refine Vs rfl ?_
 refine Lp rfl (p_fieldo fo68_0 rfl rfl) ?_
 refine Lr rfl (rl ag3 rfl rfl rfl) ?_
 refine Lp rfl (p_fieldo fo30_0 rfl rfl) ?_
 refine Lp rfl (p_fieldo fo24_0 rfl rfl) ?_
 refine Lr rfl (rl ag3 rfl rfl rfl) ?_
 refine Lp rfl (p_mul' rfl rfl rfl (by unfold InI; omega)) ?_
 refine Lp rfl (p_fieldo fo68_0 rfl rfl) ?_
 refine Lr rfl (rl ag3 rfl rfl rfl) ?_
 refine Lp rfl (p_fieldo fo30_0 rfl rfl) ?_
 refine Lp rfl (p_fieldo fo24_1 rfl rfl) ?_
 refine Lr rfl (rl ag3 rfl rfl rfl) ?_
 refine Lp rfl (p_mul' rfl rfl rfl (by unfold InI; omega)) ?_
 refine Lp rfl (p_min rfl rfl rfl) ?_
 refine Lp rfl (p_fieldo fo68_1 rfl rfl) ?_
 refine Lr rfl (rl ag3 rfl rfl rfl) ?_
 refine Lp rfl (p_fieldo fo30_1 rfl rfl) ?_
 refine Lp rfl (p_fieldo fo24_0 rfl rfl) ?_
 refine Lr rfl (rl ag3 rfl rfl rfl) ?_
 refine Lp rfl (p_mul' rfl rfl rfl (by unfold InI; omega)) ?_
 refine Lp rfl (p_fieldo fo68_1 rfl rfl) ?_
 refine Lr rfl (rl ag3 rfl rfl rfl) ?_
 refine Lp rfl (p_fieldo fo30_1 rfl rfl) ?_
 refine Lp rfl (p_fieldo fo24_1 rfl rfl) ?_
 refine Lr rfl (rl ag3 rfl rfl rfl) ?_
 refine Lp rfl (p_mul' rfl rfl rfl (by unfold InI; omega)) ?_
 refine Lp rfl (p_min rfl rfl rfl) ?_
 first | refine Lp rfl (p_add' rfl rfl rfl (by unfold InI; omega)) ?_ | refine Lp rfl (p_add rfl rfl rfl) ?_
 refine La rfl rfl rfl ?_
 refine L_then (kp [4] rfl) ?_
 refine V_ret ?_
 refine Leave.nil (.tmp rfl .nil) ?_
 rfl
theorem drasked_c (x y : Span) (p : De.Plan) (pv : Value) (w : World) (hp : PlanR w pv p) : FnP Tryz.prog 45 [pv, .agg #[.int .i64 x.lo, .int .i64 x.hi, .int .i64 y.lo, .int .i64 y.hi]] w (.int .i64 (areaE p x y)) := by
 have hP := hp
 obtain ⟨lv, rfl, hls⟩ := hp.ex
 have hlen := hp.len
 refine fn_pure Tryz.func45 rfl (by kernel_rfl) Tryz.ntmps45 Tryz.results45 rfl ?_
 refine Vs rfl ?_
 refine Lw rfl (w_box rfl rfl) ?_
 rintro _ _ ⟨b1, hb1, rfl, rfl⟩
 refine Lw rfl (w_box rfl rfl) ?_
 rintro _ _ ⟨b2, hb2, rfl, rfl⟩
 refine La rfl rfl rfl ?_
 refine L_then (kp [2, 3] rfl) ?_
 refine Vs rfl ?_
 refine Lr rfl (rlA (vs := [_, _, _, _, _]) ag26 sz26 rfl rfl rfl) ?_
 refine Lc rfl rfl rfl rfl (fun w hg => drgood_c p _ w (hP.good hg)) ?_
 refine La rfl rfl rfl ?_
 refine L_then (kp [3, 5] rfl) ?_
 refine V_seq ?_
 refine Vs rfl ?_
 refine Lm rfl rfl rfl ?_
 refine Lp rfl (p_eql rfl rfl rfl) ?_
 refine Lm rfl rfl rfl ?_
 refine L_cases (d := 10) rfl ?_ ?_
 ·intro g1; have g1' := g1; try simp only [td] at g1'
  refine L_yes rfl rfl rfl g1 (X_p (p_fieldo fo30_0 rfl rfl) ?_)
  refine L_yes rfl rfl rfl g1 (X_rd (rlA (vs := [_, _]) ag24 sz24 rfl rfl rfl) ?_)
  refine L_yes rfl rfl rfl g1 (X_wr (w_callP rfl rfl rfl (fun w hg => drplace_c _ w)) ?_)
  rintro _ _ ⟨rfl, rfl⟩
  refine L_yes rfl rfl rfl g1 (X_p (p_not rfl rfl) ?_)
  refine L_yes rfl rfl rfl g1 (X_p (p_move rfl rfl) ?_)
  refine L_cases (d := 15) rfl ?_ ?_
  ·intro g2; have g2' := g2; try simp only [td] at g2'
   iterate 4 refine L_no rfl rfl rfl g2 ?_
   refine L_yes rfl rfl rfl g1 (X_p (p_pick_t rfl rfl g2 rfl) ?_)
   refine Lp rfl (p_pick_t rfl rfl g1 rfl) ?_
   refine L_then (kp [5, 21] rfl) ?_
   refine V_cond_t rfl rfl ?_
   refine V_region rfl ?_
   refine La rfl rfl rfl ?_
   refine L_then (kp [5] rfl) ?_
   refine Vs rfl ?_
   refine Lm rfl rfl rfl ?_
   refine La rfl rfl rfl ?_
   refine L_then (kp [4] rfl) ?_
   refine V_ret ?_
   refine Leave.nil (.tmp rfl .nil) ?_
   show Value.int .i64 _ = _
   congr 1
   unfold areaE
   simp [*]
  intro g2; have g2' := g2; try simp only [td] at g2'
  refine L_yes rfl rfl rfl g2 (X_p (p_fieldo fo30_1 rfl rfl) ?_)
  refine L_yes rfl rfl rfl g2 (X_rd (rlA (vs := [_, _]) ag24 sz24 rfl rfl rfl) ?_)
  refine L_yes rfl rfl rfl g2 (X_wr (w_callP rfl rfl rfl (fun w hg => drplace_c _ w)) ?_)
  rintro _ _ ⟨rfl, rfl⟩
  refine L_yes rfl rfl rfl g2 (X_p (p_not rfl rfl) ?_)
  refine L_yes rfl rfl rfl g1 (X_p (p_pick_f rfl rfl g2 rfl) ?_)
  refine Lp rfl (p_pick_t rfl rfl g1 rfl) ?_
  refine L_then (kp [5, 21] rfl) ?_
  refine V_cond rfl ?_ ?_
  ·intro c1; try simp only [td] at c1
   refine V_region rfl ?_
   refine La rfl rfl rfl ?_
   refine L_then (kp [5] rfl) ?_
   refine Vs rfl ?_
   refine Lm rfl rfl rfl ?_
   refine La rfl rfl rfl ?_
   refine L_then (kp [4] rfl) ?_
   refine V_ret ?_
   refine Leave.nil (.tmp rfl .nil) ?_
   show Value.int .i64 _ = _
   congr 1
   unfold areaE
   simp [*]
  intro c1; try simp only [td] at c1
  refine V_skip (then_n ?_)
  refine Vs rfl ?_
  refine Lm rfl rfl rfl ?_
  refine La rfl rfl rfl ?_
  refine L_then (kp [4] rfl) ?_
  refine V_ret ?_
  refine Leave.nil (.tmp rfl .nil) ?_
  show Value.int .i64 _ = _
  congr 1
  unfold areaE
  simp [*]
 intro g1; have g1' := g1; try simp only [td] at g1'
 iterate 5 refine L_no rfl rfl rfl g1 ?_
 iterate 4 refine L_nou rfl rfl rfl ?_
 refine L_no rfl rfl rfl g1 ?_
 refine Lp rfl (p_pick_f rfl rfl g1 rfl) ?_
 refine L_then (kp [5, 21] rfl) ?_
 refine V_cond_f rfl rfl ?_
 refine V_skip (then_n ?_)
 refine Vs rfl ?_
 refine Lm rfl rfl rfl ?_
 refine La rfl rfl rfl ?_
 refine L_then (kp [4] rfl) ?_
 refine V_ret ?_
 refine Leave.nil (.tmp rfl .nil) ?_
 show Value.int .i64 _ = _
 congr 1
 unfold areaE
 simp [*]
set_option maxHeartbeats 4000000 in
theorem drside_c (x y : Span) (p : De.Plan) (pv : Value) (w : World) (hp : PlanR w pv p) : FnC Tryz.prog 18 [pv, .agg #[.int .i64 x.lo, .int .i64 x.hi, .int .i64 y.lo, .int .i64 y.hi]] w fun v w' => ∃ Hc, Vc.Good w [] Hc w' ∧ ∃ A G, Hc = A ++ G ∧ ListOut 3 (sideL p x y) (fun sv => .tuple #[sv, .int .i64 (areaE p x y)]) v A G := by
 have hP := hp
 obtain ⟨lv, rfl, hls⟩ := hp.ex
 have hlen := hp.len
 obtain ⟨la, lc, rfl, hlc, hle⟩ := hls.ex
 simp only [List.length_map] at hP hlc ⊢
 refine fn_new Tryz.func18 rfl (by kernel_rfl) Tryz.ntmps18 Tryz.results18 rfl ?_
 refine Vs rfl ?_
 refine Lw rfl (w_box rfl rfl) ?_
 rintro _ _ ⟨b1, hb1, rfl, rfl⟩
 refine Lw rfl (w_box rfl rfl) ?_
 rintro _ _ ⟨b2, hb2, rfl, rfl⟩
 iterate 2 refine La rfl rfl rfl ?_
 refine L_then (kp [2, 3] rfl) ?_
 refine Vs rfl ?_
 refine Lr rfl (rlA (vs := [_, _, _, _, _]) ag26 sz26 rfl rfl rfl) ?_
 refine Lr rfl (rlA (vs := [_, _, _, _]) ag30 sz30 rfl rfl rfl) ?_
 refine Lc rfl rfl rfl rfl (fun w hg => drasked_c x y p _ w (hP.good hg)) ?_
 refine La rfl rfl rfl ?_
 refine L_then (kp [2, 3, 6] rfl) ?_
 refine V_seq ?_
 refine Vs rfl ?_
 refine Lm rfl rfl rfl ?_
 refine Lp rfl (p_neq rfl rfl rfl) ?_
 refine L_then (kp [2, 3, 6, 13] rfl) ?_
 refine V_cond rfl ?_ ?_
 ·intro c1; try simp only [td] at c1
  refine Vs rfl ?_
  refine Lm rfl rfl rfl ?_
  iterate 2 refine La rfl rfl rfl ?_
  refine L_then (kp [4, 5] rfl) ?_
  refine V_ret (then_r ?_)
  refine Leave.nil (.tmp rfl (.tmp rfl .nil)) ?_
  refine ⟨[], HSub.nil _, [], [], rfl, .slice none 0 0, rfl, rfl, ?_⟩
  rw [sideL_bad c1]; exact .nil
 intro c1; try simp only [td] at c1
 have hz := area_zero c1
 have h0 := c1
 have hln := hz.1.nums.1
 refine V_skip (then_n ?_)
 refine Vs rfl ?_
 refine La rfl rfl rfl ?_
 refine L_then (kp [2, 3, 7] rfl) ?_
 refine V_seq ?_
 refine Vs rfl ?_
 refine La rfl rfl rfl ?_
 refine L_then (kp [2, 3, 7, 8] rfl) ?_
 refine V_block ?_
 refine V_loop1 (γ := Int × Value × Heap) (kp [2, 3] rfl) (fun (k, sv, G) => [(8, .int .i64 k), (7, sv)]) (fun (k, sv, G) => (b2, .cells #[.int .i64 x.lo, .int .i64 x.hi, .int .i64 y.lo, .int .i64 y.hi] 30) :: (b1, .cells #[.slice la p.lines.length lc, .int .i64 p.grav.lo, .int .i64 p.grav.hi, .int .i64 p.wait, .int .i64 p.blind] 26) :: G) (fun (k, sv, G) => 0 ≤ k ∧ k ≤ p.lines.length ∧ Grow 3 1 sv (sideN p x y k.toNat).length (iiL (sideN p x y k.toNat)) G) (fun (k, sv, G) => (p.lines.length - k).toNat) ((0, .slice none 0 0, [])) (.cons rfl (.cons rfl (.nil _))) (by repeat (first | exact List.nil_sublist _ | exact List.Sublist.refl _ | apply List.Sublist.cons_cons | apply List.Sublist.cons)) (⟨by omega, by omega, .nil⟩) ?_
 rintro ⟨k, sv, G⟩ hi
 obtain ⟨hk0, hk1, hgr⟩ := hi
 have hkl : (sideN p x y k.toNat).length ≤ 8 := by simp only [sideN, List.length_map, List.length_take]; omega
 refine V_seq ?_
 refine Vs rfl ?_
 refine Lm rfl rfl rfl ?_
 refine Lp rfl (p_fieldo fo26_0 rfl rfl) ?_
 refine Lr rfl (rl ag22 rfl rfl rfl) ?_
 refine Lp rfl (p_len isl22 rfl rfl) ?_
 refine Lp rfl (p_lss rfl rfl rfl) ?_
 refine L_then (kp [2, 3, 7, 8, 19] rfl) ?_
 refine V_cond rfl ?_ ?_
 ·intro c2; try simp only [td] at c2
  obtain ⟨tb, rfl, hc⟩ := hle k.toNat _ (getD_cells (d := lnZ) (by omega))
  have hlb : LnB (p.lines.getD k.toNat lnZ) := hz.1.ln_at (i := k.toNat) (by omega)
  have hmb := most_bnd hlb hz.2.1 hz.2.2
  have hl3 := hlb.line
  have hl4 := hlb.keep
  refine V_skip (then_n ?_)
  refine V_seq ?_
  refine V_block ?_
  refine V_draw (.rd 0 (.rd 1 (.rd 2 (.rd 3 (.rd 4 (.rd 5 (.rd 6 (.rd 7 (.rd 8 (.rd 9 (.rd 10 (.rd 11 (.rd 12 (.wr 13 [10, 9, 8, 7, 6, 5, 4, 3, 2, 1, 0] (.rd 14 (.wr 15 [12, 11, 10, 9, 8, 7, 6, 5, 4, 3, 2, 1, 0] (.wr 16 [14, 12, 11, 10, 9, 8, 7, 6, 5, 4, 3, 2, 1] (.wr 17 [] .done)))))))))))))))))) mixed (by kernel_rfl) rfl ?_
  refine Dm rfl rfl rfl rfl ?_
  refine Dp rfl rfl (p_fieldo fo26_0 rfl rfl) ?_
  refine Dr rfl rfl (rl ag22 rfl rfl rfl) ?_
  refine Dm rfl rfl rfl rfl ?_
  refine Dp rfl rfl (p_idx es22 rfl rfl rfl (by omega) (by omega)) ?_
  refine Dp rfl rfl (p_field fo68_3 rfl rfl) ?_
  refine Dr rfl rfl (r_loadB ag3 rfl rfl (hc 3 _ rfl) List.not_mem_nil) ?_
  refine Dp rfl rfl (p_fieldo fo26_0 rfl rfl) ?_
  refine Dr rfl rfl (rl ag22 rfl rfl rfl) ?_
  refine Dm rfl rfl rfl rfl ?_
  refine Dp rfl rfl (p_idx es22 rfl rfl rfl (by omega) (by omega)) ?_
  refine Dr rfl rfl (r_loadBA ag68 sz68 rfl rfl hc rfl List.not_mem_nil) ?_
  refine Dr rfl rfl (rlA (vs := [_, _, _, _]) ag30 sz30 rfl rfl rfl) ?_
  refine D_wr (.go (E' := [(8, _), (6, _), (2, _)]) rfl (.plain rfl) (w_callP rfl rfl rfl (fun w hg => drmost_c (p.lines.getD k.toNat lnZ) x y hlb hz.2.1 hz.2.2 w)) rfl ?_)
  rintro _ _ ⟨rfl, rfl⟩
  refine ⟨(.cons rfl (.plain rfl) (rl ag22 rfl rfl rfl) (.cons rfl (.plain rfl) (r_loadB ag3 rfl rfl (hc 3 _ rfl) List.not_mem_nil) (.cons rfl (.plain rfl) (rl ag22 rfl rfl rfl) .nil))), ?_⟩
  first | refine Dp rfl rfl (p_sub' rfl rfl rfl (by unfold InI; omega)) ?_ | refine Dp rfl rfl (p_sub rfl rfl rfl) ?_
  refine D_wr (.go (E' := [(8, _), (6, _), (2, _)]) rfl (.plain rfl) (w_slice (r := [_]) un53 sz3 zr3 rfl (by decide) rfl (by decide) rfl rfl) rfl ?_)
  rintro _ _ ⟨b3, hb3, rfl, rfl⟩
  refine ⟨(.cons rfl (.plain rfl) (rl ag22 rfl rfl rfl) (.cons rfl (.plain rfl) (r_loadB ag3 rfl rfl (hc 3 _ rfl) List.not_mem_nil) (.cons rfl (.plain rfl) (rl ag22 rfl rfl rfl) .nil))), ?_⟩
  refine D_wr (.go (E' := [(8, _), (6, _), (2, _)]) rfl (.plain rfl) (w_app (pre := [_, _, _]) (G := G) (post := []) ap53 rfl rfl rfl hgr (by rw [List.append_nil]; rfl) rfl (news_own (by repeat first | exact mH | apply mT)) (by simp [Value.oneCell']) (by omega) (by simp only [maxLen]; omega)) rfl ?_)
  rintro _ _ ⟨G1a, G1c, G1, rfl, rfl, hgr1⟩
  try simp only [List.cons_append, List.nil_append, List.append_nil]
  refine ⟨(.cons rfl (.plain rfl) (rl ag22 rfl rfl rfl) (.cons rfl (.plain rfl) (r_loadB ag3 rfl rfl (hc 3 _ rfl) List.not_mem_nil) (.cons rfl (.plain rfl) (rl ag22 rfl rfl rfl) .nil))), ?_⟩
  refine D_wr (.go (E' := []) rfl (.plain rfl) (rd_wr (RdP.rd (p_assign rfl rfl))) rfl ?_)
  rintro _ _ ⟨rfl, rfl⟩
  refine ⟨.nil, ?_⟩
  refine D_keep (kp [2, 3, 7, 8] rfl) (blk_n (then_n ?_))
  refine V_region rfl ?_
  refine Lm rfl rfl rfl ?_
  first | refine Lp rfl (p_add' rfl rfl rfl (by unfold InI; omega)) ?_ | refine Lp rfl (p_add rfl rfl rfl) ?_
  refine La rfl rfl rfl ?_
  refine L_keep (kp [2, 3, 7, 8] rfl) (then_n ?_)
  refine ⟨(k + 1, _, G1), ?_, ?_, (.cons rfl (.cons rfl (.cons rfl (.cons rfl (.nil _))))), (by repeat (first | exact List.nil_sublist _ | exact List.Sublist.refl _ | apply List.Sublist.cons_cons | apply List.Sublist.cons | apply List.sublist_append_of_sublist_right)), rfl⟩
  ·refine ⟨by omega, by omega, ?_⟩
   rw [show (k + 1).toNat = k.toNat + 1 by omega, sideN_succ (by omega), List.length_append, iiL, List.map_append]; exact hgr1
  dsimp only; omega
 intro c2; try simp only [td] at c2
 refine V_exit (then_e (then_e (blk_e rfl (then_n ?_))))
 refine Vs rfl ?_
 refine Lm rfl rfl rfl ?_
 iterate 2 refine La rfl rfl rfl ?_
 refine L_then (kp [4, 5] rfl) ?_
 refine V_ret ?_
 refine Leave.nil (.tmp rfl (.tmp rfl .nil)) ?_
 have ek : k.toNat = p.lines.length := by omega
 rw [ek, sideN_all h0] at hgr
 refine ⟨G, (by (try dsimp only); repeat (first | exact HSub.nil _ | refine HSub.take (by repeat first | exact Take.head | apply Take.tail) ?_ | exact HSub.refl _ | refine HSub.drop ?_ | refine HSub.app ?_)), [], G, rfl, sv, rfl, ?_, hgr⟩
 rw [h0]; rfl
set_option maxHeartbeats 4000000 in
theorem drkeeps_c (x y : Span) (p : De.Plan) (pv : Value) (w : World) (hp : PlanR w pv p) : FnP Tryz.prog 21 [pv, .agg #[.int .i64 x.lo, .int .i64 x.hi, .int .i64 y.lo, .int .i64 y.hi]] w (.tuple #[.bool (keepsB p x y), .int .i64 (areaE p x y)]) := by
 have hP := hp
 obtain ⟨lv, rfl, hls⟩ := hp.ex
 have hlen := hp.len
 obtain ⟨la, lc, rfl, hlc, hle⟩ := hls.ex
 simp only [List.length_map] at hP hlc ⊢
 refine fn_pure Tryz.func21 rfl (by kernel_rfl) Tryz.ntmps21 Tryz.results21 rfl ?_
 refine Vs rfl ?_
 refine Lw rfl (w_box rfl rfl) ?_
 rintro _ _ ⟨b1, hb1, rfl, rfl⟩
 refine Lw rfl (w_box rfl rfl) ?_
 rintro _ _ ⟨b2, hb2, rfl, rfl⟩
 iterate 2 refine La rfl rfl rfl ?_
 refine L_then (kp [2, 3] rfl) ?_
 refine Vs rfl ?_
 refine Lr rfl (rlA (vs := [_, _, _, _, _]) ag26 sz26 rfl rfl rfl) ?_
 refine Lr rfl (rlA (vs := [_, _, _, _]) ag30 sz30 rfl rfl rfl) ?_
 refine Lc rfl rfl rfl rfl (fun w hg => drasked_c x y p _ w (hP.good hg)) ?_
 refine La rfl rfl rfl ?_
 refine L_then (kp [2, 3, 6] rfl) ?_
 refine V_seq ?_
 refine Vs rfl ?_
 refine Lm rfl rfl rfl ?_
 refine Lp rfl (p_neq rfl rfl rfl) ?_
 refine L_then (kp [2, 3, 6, 12] rfl) ?_
 refine V_cond rfl ?_ ?_
 ·intro c1; try simp only [td] at c1
  refine Vs rfl ?_
  refine Lm rfl rfl rfl ?_
  iterate 2 refine La rfl rfl rfl ?_
  refine L_then (kp [4, 5] rfl) ?_
  refine V_ret (then_r ?_)
  refine Leave.nil (.tmp rfl (.tmp rfl .nil)) ?_
  have e : keepsB p x y = false := if_pos c1
  rw [e]; rfl
 intro c1; try simp only [td] at c1
 have hz := area_zero c1
 have h0 := c1
 have hln := hz.1.nums.1
 refine V_skip (then_n ?_)
 refine V_seq ?_
 refine Vs rfl ?_
 refine La rfl rfl rfl ?_
 refine L_then (kp [2, 3, 7] rfl) ?_
 refine V_block ?_
 refine V_loop0 (γ := Int) (kp [2, 3] rfl) (fun k => [(7, .int .i64 k)]) (fun k => 0 ≤ k ∧ k ≤ p.lines.length ∧ ∀ j : Nat, (j : Int) < k → mostL (p.lines.getD j lnZ) x y ≤ (p.lines.getD j lnZ).keep) (fun k => (p.lines.length - k).toNat) (0) (.cons rfl (.nil _)) (⟨by omega, by omega, fun j hj => by omega⟩) ?_
 rintro k hi
 obtain ⟨hk0, hk1, hkp⟩ := hi
 refine V_seq ?_
 refine Vs rfl ?_
 refine Lm rfl rfl rfl ?_
 refine Lp rfl (p_fieldo fo26_0 rfl rfl) ?_
 refine Lr rfl (rl ag22 rfl rfl rfl) ?_
 refine Lp rfl (p_len isl22 rfl rfl) ?_
 refine Lp rfl (p_lss rfl rfl rfl) ?_
 refine L_then (kp [2, 3, 7, 18] rfl) ?_
 refine V_cond rfl ?_ ?_
 ·intro c2; try simp only [td] at c2
  obtain ⟨tb, rfl, hc⟩ := hle k.toNat _ (getD_cells (d := lnZ) (by omega))
  have hlb : LnB (p.lines.getD k.toNat lnZ) := hz.1.ln_at (i := k.toNat) (by omega)
  have hmb := most_bnd hlb hz.2.1 hz.2.2
  have hl3 := hlb.line
  have hl4 := hlb.keep
  refine V_skip (then_n ?_)
  refine V_seq ?_
  refine V_block ?_
  refine V_seq (V_draw (.rd 0 (.rd 1 (.rd 2 (.rd 3 (.rd 4 (.rd 5 (.rd 7 (.rd 8 (.rd 9 (.rd 10 (.rd 11 (.rd 12 (.wr 6 [12, 11, 10, 9, 8, 7, 3, 2, 1, 0] (.rd 13 .done)))))))))))))) mixed (by kernel_rfl) rfl ?_)
  refine Dp rfl rfl (p_fieldo fo26_0 rfl rfl) ?_
  refine Dr rfl rfl (rl ag22 rfl rfl rfl) ?_
  refine Dm rfl rfl rfl rfl ?_
  refine Dp rfl rfl (p_idx es22 rfl rfl rfl (by omega) (by omega)) ?_
  refine Dr rfl rfl (r_loadBA ag68 sz68 rfl rfl hc rfl List.not_mem_nil) ?_
  refine Dr rfl rfl (rlA (vs := [_, _, _, _]) ag30 sz30 rfl rfl rfl) ?_
  refine Dp rfl rfl (p_fieldo fo26_0 rfl rfl) ?_
  refine Dr rfl rfl (rl ag22 rfl rfl rfl) ?_
  refine Dm rfl rfl rfl rfl ?_
  refine Dp rfl rfl (p_idx es22 rfl rfl rfl (by omega) (by omega)) ?_
  refine Dp rfl rfl (p_field fo68_2 rfl rfl) ?_
  refine Dr rfl rfl (r_loadB ag3 rfl rfl (hc 2 _ rfl) List.not_mem_nil) ?_
  refine D_wr (.go (E' := [(12, _), (8, _), (1, _)]) rfl (.plain rfl) (w_callP rfl rfl rfl (fun w hg => drmost_c (p.lines.getD k.toNat lnZ) x y hlb hz.2.1 hz.2.2 w)) rfl ?_)
  rintro _ _ ⟨rfl, rfl⟩
  refine ⟨(.cons rfl (.plain rfl) (r_loadB ag3 rfl rfl (hc 2 _ rfl) List.not_mem_nil) (.cons rfl (.plain rfl) (rl ag22 rfl rfl rfl) (.cons rfl (.plain rfl) (rl ag22 rfl rfl rfl) .nil))), ?_⟩
  refine Dp rfl rfl (p_gtr rfl rfl rfl) ?_
  refine D_then (kp [2, 3, 7, 34] rfl) ?_
  refine V_cond rfl ?_ ?_
  ·intro c3; try simp only [td] at c3
   have hm := c3
   refine Vs rfl ?_
   iterate 2 refine La rfl rfl rfl ?_
   refine L_then (kp [4, 5] rfl) ?_
   refine V_ret (blk_r (then_r (then_r (blk_r (then_r ?_)))))
   refine Leave.nil (.tmp rfl (.tmp rfl .nil)) ?_
   rw [keeps_no h0 (by omega) hm, h0]; rfl
  intro c3; try simp only [td] at c3
  have hm := c3
  refine V_skip (blk_n (then_n ?_))
  refine V_region rfl ?_
  refine Lm rfl rfl rfl ?_
  first | refine Lp rfl (p_add' rfl rfl rfl (by unfold InI; omega)) ?_ | refine Lp rfl (p_add rfl rfl rfl) ?_
  refine La rfl rfl rfl ?_
  refine L_keep (kp [2, 3, 7] rfl) (then_n ?_)
  refine ⟨k + 1, ?_, ?_, (.cons rfl (.cons rfl (.cons rfl (.nil _)))), (by repeat (first | exact List.Sublist.refl _ | apply List.Sublist.cons_cons | apply List.Sublist.cons | apply List.sublist_append_of_sublist_right)), rfl⟩
  ·refine ⟨by omega, by omega, fun j hj => ?_⟩; by_cases e : (j : Int) < k
   ·exact hkp j e
   have ej : j = k.toNat := by omega
   rw [ej]; exact hm
  omega
 intro c2; try simp only [td] at c2
 refine V_exit (then_e (then_e (blk_e rfl (then_n ?_))))
 refine Vs rfl ?_
 iterate 2 refine La rfl rfl rfl ?_
 refine L_then (kp [4, 5] rfl) ?_
 refine V_ret ?_
 refine Leave.nil (.tmp rfl (.tmp rfl .nil)) ?_
 rw [keeps_yes h0 (fun j hj => hkp j (by omega)), h0]; rfl
set_option maxHeartbeats 4000000 in
theorem drsure_c (x y : Span) (p : De.Plan) (pv : Value) (w : World) (hp : PlanR w pv p) : FnP Tryz.prog 23 [pv, .agg #[.int .i64 x.lo, .int .i64 x.hi, .int .i64 y.lo, .int .i64 y.hi]] w (.tuple #[.bool (sureB p x y), .int .i64 (sureI p x y), .int .i64 (areaE p x y)]) := by
 have hP := hp
 obtain ⟨lv, rfl, hls⟩ := hp.ex
 have hlen := hp.len
 obtain ⟨la, lc, rfl, hlc, hle⟩ := hls.ex
 simp only [List.length_map] at hP hlc ⊢
 refine fn_pure Tryz.func23 rfl (by kernel_rfl) Tryz.ntmps23 Tryz.results23 rfl ?_
 refine Vs rfl ?_
 refine Lw rfl (w_box rfl rfl) ?_
 rintro _ _ ⟨b1, hb1, rfl, rfl⟩
 refine Lw rfl (w_box rfl rfl) ?_
 rintro _ _ ⟨b2, hb2, rfl, rfl⟩
 iterate 3 refine La rfl rfl rfl ?_
 refine L_then (kp [2, 3] rfl) ?_
 refine Vs rfl ?_
 refine Lr rfl (rlA (vs := [_, _, _, _, _]) ag26 sz26 rfl rfl rfl) ?_
 refine Lr rfl (rlA (vs := [_, _, _, _]) ag30 sz30 rfl rfl rfl) ?_
 refine Lc rfl rfl rfl rfl (fun w hg => drasked_c x y p _ w (hP.good hg)) ?_
 refine La rfl rfl rfl ?_
 refine L_then (kp [2, 3, 7] rfl) ?_
 refine V_seq ?_
 refine Vs rfl ?_
 refine Lm rfl rfl rfl ?_
 refine Lp rfl (p_neq rfl rfl rfl) ?_
 refine L_then (kp [2, 3, 7, 13] rfl) ?_
 refine V_cond rfl ?_ ?_
 ·intro c1; try simp only [td] at c1
  refine Vs rfl ?_
  refine Lm rfl rfl rfl ?_
  iterate 3 refine La rfl rfl rfl ?_
  refine L_then (kp [4, 5, 6] rfl) ?_
  refine V_ret (then_r ?_)
  refine Leave.nil (.tmp rfl (.tmp rfl (.tmp rfl .nil))) ?_
  have e : sureB p x y = false := if_pos c1
  have e2 : sureI p x y = 0 := if_pos c1
  rw [e, e2]; rfl
 intro c1; try simp only [td] at c1
 have hz := area_zero c1
 have h0 := c1
 have hln := hz.1.nums.1
 refine V_skip (then_n ?_)
 refine V_seq ?_
 refine Vs rfl ?_
 refine La rfl rfl rfl ?_
 refine L_then (kp [2, 3, 8] rfl) ?_
 refine V_block ?_
 refine V_loop0 (γ := Int) (kp [2, 3] rfl) (fun k => [(8, .int .i64 k)]) (fun k => 0 ≤ k ∧ k ≤ p.lines.length ∧ ∀ j : Nat, (j : Int) < k → leastL (p.lines.getD j lnZ) x y ≤ (p.lines.getD j lnZ).line) (fun k => (p.lines.length - k).toNat) (0) (.cons rfl (.nil _)) (⟨by omega, by omega, fun j hj => by omega⟩) ?_
 rintro k hi
 obtain ⟨hk0, hk1, hkp⟩ := hi
 refine V_seq ?_
 refine Vs rfl ?_
 refine Lm rfl rfl rfl ?_
 refine Lp rfl (p_fieldo fo26_0 rfl rfl) ?_
 refine Lr rfl (rl ag22 rfl rfl rfl) ?_
 refine Lp rfl (p_len isl22 rfl rfl) ?_
 refine Lp rfl (p_lss rfl rfl rfl) ?_
 refine L_then (kp [2, 3, 8, 19] rfl) ?_
 refine V_cond rfl ?_ ?_
 ·intro c2; try simp only [td] at c2
  obtain ⟨tb, rfl, hc⟩ := hle k.toNat _ (getD_cells (d := lnZ) (by omega))
  have hlb : LnB (p.lines.getD k.toNat lnZ) := hz.1.ln_at (i := k.toNat) (by omega)
  have hmb := most_bnd hlb hz.2.1 hz.2.2
  have hl3 := hlb.line
  have hl4 := hlb.keep
  refine V_skip (then_n ?_)
  refine V_seq ?_
  refine V_block ?_
  refine V_seq (V_draw (.rd 0 (.rd 1 (.rd 2 (.rd 3 (.rd 4 (.rd 5 (.rd 7 (.rd 8 (.rd 9 (.rd 10 (.rd 11 (.rd 12 (.wr 6 [12, 11, 10, 9, 8, 7, 3, 2, 1, 0] (.rd 13 .done)))))))))))))) mixed (by kernel_rfl) rfl ?_)
  refine Dp rfl rfl (p_fieldo fo26_0 rfl rfl) ?_
  refine Dr rfl rfl (rl ag22 rfl rfl rfl) ?_
  refine Dm rfl rfl rfl rfl ?_
  refine Dp rfl rfl (p_idx es22 rfl rfl rfl (by omega) (by omega)) ?_
  refine Dr rfl rfl (r_loadBA ag68 sz68 rfl rfl hc rfl List.not_mem_nil) ?_
  refine Dr rfl rfl (rlA (vs := [_, _, _, _]) ag30 sz30 rfl rfl rfl) ?_
  refine Dp rfl rfl (p_fieldo fo26_0 rfl rfl) ?_
  refine Dr rfl rfl (rl ag22 rfl rfl rfl) ?_
  refine Dm rfl rfl rfl rfl ?_
  refine Dp rfl rfl (p_idx es22 rfl rfl rfl (by omega) (by omega)) ?_
  refine Dp rfl rfl (p_field fo68_3 rfl rfl) ?_
  refine Dr rfl rfl (r_loadB ag3 rfl rfl (hc 3 _ rfl) List.not_mem_nil) ?_
  refine D_wr (.go (E' := [(12, _), (8, _), (1, _)]) rfl (.plain rfl) (w_callP rfl rfl rfl (fun w hg => drleast_c (p.lines.getD k.toNat lnZ) x y hlb hz.2.1 hz.2.2 w)) rfl ?_)
  rintro _ _ ⟨rfl, rfl⟩
  refine ⟨(.cons rfl (.plain rfl) (r_loadB ag3 rfl rfl (hc 3 _ rfl) List.not_mem_nil) (.cons rfl (.plain rfl) (rl ag22 rfl rfl rfl) (.cons rfl (.plain rfl) (rl ag22 rfl rfl rfl) .nil))), ?_⟩
  refine Dp rfl rfl (p_gtr rfl rfl rfl) ?_
  refine D_then (kp [2, 3, 8, 35] rfl) ?_
  refine V_cond rfl ?_ ?_
  ·intro c3; try simp only [td] at c3
   have hm := c3
   refine Vs rfl ?_
   refine Lm rfl rfl rfl ?_
   iterate 3 refine La rfl rfl rfl ?_
   refine L_then (kp [4, 5, 6] rfl) ?_
   refine V_ret (blk_r (then_r (then_r (blk_r (then_r ?_)))))
   refine Leave.nil (.tmp rfl (.tmp rfl (.tmp rfl .nil))) ?_
   obtain ⟨e1, e2⟩ := sure_hit h0 hk0 (by omega) hkp hm
   rw [e1, e2, h0]; rfl
  intro c3; try simp only [td] at c3
  have hm := c3
  refine V_skip (blk_n (then_n ?_))
  refine V_region rfl ?_
  refine Lm rfl rfl rfl ?_
  first | refine Lp rfl (p_add' rfl rfl rfl (by unfold InI; omega)) ?_ | refine Lp rfl (p_add rfl rfl rfl) ?_
  refine La rfl rfl rfl ?_
  refine L_keep (kp [2, 3, 8] rfl) (then_n ?_)
  refine ⟨k + 1, ?_, ?_, (.cons rfl (.cons rfl (.cons rfl (.nil _)))), (by repeat (first | exact List.Sublist.refl _ | apply List.Sublist.cons_cons | apply List.Sublist.cons | apply List.sublist_append_of_sublist_right)), rfl⟩
  ·refine ⟨by omega, by omega, fun j hj => ?_⟩; by_cases e : (j : Int) < k
   ·exact hkp j e
   have ej : j = k.toNat := by omega
   rw [ej]; exact hm
  omega
 intro c2; try simp only [td] at c2
 refine V_exit (then_e (then_e (blk_e rfl (then_n ?_))))
 refine Vs rfl ?_
 iterate 3 refine La rfl rfl rfl ?_
 refine L_then (kp [4, 5, 6] rfl) ?_
 refine V_ret ?_
 refine Leave.nil (.tmp rfl (.tmp rfl (.tmp rfl .nil))) ?_
 obtain ⟨e1, e2⟩ := sure_no h0 (fun j hj => hkp j (by omega))
 rw [e1, e2, h0]; rfl
end Go.Proofs.YtlcccpeelombbaaGreatDoor
