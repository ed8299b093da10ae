/- Ytbncegfgjbdheaa: FlightTurned is proved: for any vehicle and shot (no condition) it returns true. -/
import Derived.Test.YtbncegfgjbdheaaRows
import Derived.Test.YtbncegfgjbdheaaZao
import Derived.Test.YtbncegfgjbdheaaZaf
import Derived.Test.YtbncegfgjbdheaaZam
import Derived.Test.YtbncegfgjbdheaaZan
import Derived.ProofKit
set_option linter.all false
namespace Go.Proofs.Ytbncegfgjbdheaa
open Go.Vc Go.Tk Go.Fl Go.ChangeShapes Go.WideShapes Go.ChangeAt Go.RowKit
set_option maxRecDepth 100000
theorem lminus_c (s : Span) (hs : SpB 2000000000 s) (w : World) : FnP Try.prog 18 [.agg #[.int .i64 s.lo, .int .i64 s.hi]] w (.agg #[.int .i64 (Fl.negS s).lo, .int .i64 (Fl.negS s).hi]) := by
 obtain ⟨s1, s2, s3⟩ := hs
 refine fn_pure Try.func18 rfl (by kernel_rfl) Try.ntmps18 Try.results18 rfl ?_
 refine Vs rfl ?_
 refine Lw rfl (w_box rfl rfl) ?_
 rintro _ _ ⟨b1, hb1, rfl, rfl⟩
 refine Lw rfl (w_alloc zr23 rfl) ?_
 rintro _ _ ⟨b2, hb2, rfl, rfl⟩
 refine L_then (kp [1, 2] rfl) ?_
 refine Vs rfl ?_
 refine Lp rfl (p_fieldo fo23_1 rfl rfl) ?_
 refine Lr rfl (rl ag3 rfl rfl rfl) ?_
 first | refine Lp rfl (p_neg' rfl rfl (by unfold InI; omega)) ?_ | refine Lp rfl (p_neg rfl rfl) ?_
 refine Lp rfl (p_fieldo fo23_0 rfl rfl) ?_
 refine Lr rfl (rl ag3 rfl rfl rfl) ?_
 first | refine Lp rfl (p_neg' rfl rfl (by unfold InI; omega)) ?_ | refine Lp rfl (p_neg rfl rfl) ?_
 refine Lc rfl rfl rfl rfl (fun w hg => lspan_c _ _ w) ?_
 refine Ls (cs' := [_, _]) rfl sz23 rfl rfl rfl rfl rfl rfl rfl ?_
 refine L_then (kp [2] rfl) ?_
 refine V_ret ?_
 refine Leave.nil (.cellA (us := [_, _]) rfl ag23 sz23 (by repeat first | exact mH | apply mT) rfl .nil) ?_
 rfl
theorem lround_c (a : Ax) (hs : SpB 2000000000 a.y) (w : World) : FnP Try.prog 17 [.agg #[.int .i64 a.x.lo, .int .i64 a.x.hi, .int .i64 a.y.lo, .int .i64 a.y.hi, .int .i64 a.z.lo, .int .i64 a.z.hi]] w (.agg #[.int .i64 (Fl.trnA a).x.lo, .int .i64 (Fl.trnA a).x.hi, .int .i64 (Fl.trnA a).y.lo, .int .i64 (Fl.trnA a).y.hi, .int .i64 (Fl.trnA a).z.lo, .int .i64 (Fl.trnA a).z.hi]) := by
 refine fn_pure Try.func17 rfl (by kernel_rfl) Try.ntmps17 Try.results17 rfl ?_
 refine Vs rfl ?_
 refine Lw rfl (w_box rfl rfl) ?_
 rintro _ _ ⟨b1, hb1, rfl, rfl⟩
 refine Lw rfl (w_alloc zr44 rfl) ?_
 rintro _ _ ⟨b2, hb2, rfl, rfl⟩
 refine L_then (kp [1, 2] rfl) ?_
 refine V_seq (V_draw (.rd 0 (.rd 1 (.rd 3 (.rd 4 (.wr 2 [4, 3, 0] (.rd 5 (.wr 6 [] (.rd 7 (.wr 8 [] .done))))))))) mixed (by kernel_rfl) rfl ?_)
 refine Dp rfl rfl (p_fieldo fo44_1 rfl rfl) ?_
 refine Dr rfl rfl (rlA (vs := [_, _]) ag23 sz23 rfl rfl rfl) ?_
 refine Dp rfl rfl (p_fieldo fo44_0 rfl rfl) ?_
 refine Dr rfl rfl (rlA (vs := [_, _]) ag23 sz23 rfl rfl rfl) ?_
 refine D_wr (.go (E' := [(4, _)]) rfl (.plain rfl) (w_callP rfl rfl rfl (fun w hg => lminus_c a.y hs w)) rfl ?_)
 rintro _ _ ⟨rfl, rfl⟩
 refine ⟨(.cons rfl (.plain rfl) (rlA (vs := [_, _]) ag23 sz23 rfl rfl rfl) .nil), ?_⟩
 refine Dp rfl rfl (p_fieldo fo44_0 rfl rfl) ?_
 refine D_wr (.go (E' := []) rfl (.plain rfl) (ws (cs' := [_, _, _, _, _, _]) sz23 rfl rfl rfl rfl rfl rfl rfl) rfl ?_)
 rintro _ _ ⟨rfl, rfl⟩
 refine ⟨.nil, ?_⟩
 refine Dp rfl rfl (p_fieldo fo44_1 rfl rfl) ?_
 refine D_wr (.go (E' := []) rfl (.plain rfl) (ws (cs' := [_, _, _, _, _, _]) sz23 rfl rfl rfl rfl rfl rfl rfl) rfl ?_)
 rintro _ _ ⟨rfl, rfl⟩
 refine ⟨.nil, ?_⟩
 refine D_then (kp [1, 2] rfl) ?_
 refine Vs rfl ?_
 refine Lr rfl (rlA (vs := [_, _, _, _, _, _]) ag44 sz44 rfl rfl rfl) ?_
 refine Ls (cs' := [_, _, _, _, _, _]) rfl sz44 rfl rfl rfl rfl rfl rfl rfl ?_
 refine L_then (kp [2] rfl) ?_
 refine V_ret ?_
 refine Leave.nil (.cellA (us := [_, _, _, _, _, _]) rfl ag44 sz44 (by repeat first | exact mH | apply mT) rfl .nil) ?_
 rfl
theorem lturned_c (s : St) (hs : farS s = false) (w : World) : FnP Try.prog 19 [.agg #[.int .i64 s.p.x.lo, .int .i64 s.p.x.hi, .int .i64 s.p.y.lo, .int .i64 s.p.y.hi, .int .i64 s.p.z.lo, .int .i64 s.p.z.hi, .int .i64 s.v.x.lo, .int .i64 s.v.x.hi, .int .i64 s.v.y.lo, .int .i64 s.v.y.hi, .int .i64 s.v.z.lo, .int .i64 s.v.z.hi]] w (.agg #[.int .i64 (Fl.trnS s).p.x.lo, .int .i64 (Fl.trnS s).p.x.hi, .int .i64 (Fl.trnS s).p.y.lo, .int .i64 (Fl.trnS s).p.y.hi, .int .i64 (Fl.trnS s).p.z.lo, .int .i64 (Fl.trnS s).p.z.hi, .int .i64 (Fl.trnS s).v.x.lo, .int .i64 (Fl.trnS s).v.x.hi, .int .i64 (Fl.trnS s).v.y.lo, .int .i64 (Fl.trnS s).v.y.hi, .int .i64 (Fl.trnS s).v.z.lo, .int .i64 (Fl.trnS s).v.z.hi]) := by
 obtain ⟨h1, h2⟩ := far_false.1 hs
 refine fn_pure Try.func19 rfl (by kernel_rfl) Try.ntmps19 Try.results19 rfl ?_
 refine Vs rfl ?_
 refine Lw rfl (w_box rfl rfl) ?_
 rintro _ _ ⟨b1, hb1, rfl, rfl⟩
 refine Lw rfl (w_alloc zr54 rfl) ?_
 rintro _ _ ⟨b2, hb2, rfl, rfl⟩
 refine L_then (kp [1, 2] rfl) ?_
 refine V_seq (V_draw (.rd 0 (.rd 1 (.rd 3 (.rd 4 (.rd 5 (.rd 6 (.rd 8 (.rd 9 (.wr 2 [9, 8, 6, 5, 4, 3, 0] (.rd 10 (.wr 7 [10, 9, 8, 5, 4, 3, 1, 0] (.wr 11 [] (.rd 12 (.wr 13 [] (.rd 14 (.wr 15 [] (.rd 16 (.wr 17 [] .done)))))))))))))))))) mixed (by kernel_rfl) rfl ?_)
 refine Dp rfl rfl (p_fieldo fo54_1 rfl rfl) ?_
 refine Dr rfl rfl (rlA (vs := [_, _]) ag23 sz23 rfl rfl rfl) ?_
 refine Dp rfl rfl (p_fieldo fo54_0 rfl rfl) ?_
 refine Dr rfl rfl (rlA (vs := [_, _]) ag23 sz23 rfl rfl rfl) ?_
 refine Dp rfl rfl (p_fieldo fo54_4 rfl rfl) ?_
 refine Dr rfl rfl (rlA (vs := [_, _]) ag23 sz23 rfl rfl rfl) ?_
 refine Dp rfl rfl (p_fieldo fo54_3 rfl rfl) ?_
 refine Dr rfl rfl (rlA (vs := [_, _]) ag23 sz23 rfl rfl rfl) ?_
 refine D_wr (.go (E' := [(9, _), (6, _), (4, _)]) rfl (.plain rfl) (w_callP rfl rfl rfl (fun w hg => lminus_c s.p.y h1.2.1 w)) rfl ?_)
 rintro _ _ ⟨rfl, rfl⟩
 refine ⟨(.cons rfl (.plain rfl) (rlA (vs := [_, _]) ag23 sz23 rfl rfl rfl) (.cons rfl (.plain rfl) (rlA (vs := [_, _]) ag23 sz23 rfl rfl rfl) (.cons rfl (.plain rfl) (rlA (vs := [_, _]) ag23 sz23 rfl rfl rfl) .nil))), ?_⟩
 refine Dp rfl rfl (p_fieldo fo54_0 rfl rfl) ?_
 refine D_wr (.go (E' := [(9, _), (4, _)]) rfl (.plain rfl) (w_callP rfl rfl rfl (fun w hg => lminus_c s.v.y (by obtain ⟨a, b, c⟩ := h2.2.1; exact ⟨by omega, by omega, by omega⟩) w)) rfl ?_)
 rintro _ _ ⟨rfl, rfl⟩
 refine ⟨(.cons rfl (.plain rfl) (rlA (vs := [_, _]) ag23 sz23 rfl rfl rfl) (.cons rfl (.plain rfl) (rlA (vs := [_, _]) ag23 sz23 rfl rfl rfl) .nil)), ?_⟩
 refine D_wr (.go (E' := []) rfl (.plain rfl) (ws (cs' := [_, _, _, _, _, _, _, _, _, _, _, _]) sz23 rfl rfl rfl rfl rfl rfl rfl) rfl ?_)
 rintro _ _ ⟨rfl, rfl⟩
 refine ⟨.nil, ?_⟩
 refine Dp rfl rfl (p_fieldo fo54_1 rfl rfl) ?_
 refine D_wr (.go (E' := []) rfl (.plain rfl) (ws (cs' := [_, _, _, _, _, _, _, _, _, _, _, _]) sz23 rfl rfl rfl rfl rfl rfl rfl) rfl ?_)
 rintro _ _ ⟨rfl, rfl⟩
 refine ⟨.nil, ?_⟩
 refine Dp rfl rfl (p_fieldo fo54_3 rfl rfl) ?_
 refine D_wr (.go (E' := []) rfl (.plain rfl) (ws (cs' := [_, _, _, _, _, _, _, _, _, _, _, _]) sz23 rfl rfl rfl rfl rfl rfl rfl) rfl ?_)
 rintro _ _ ⟨rfl, rfl⟩
 refine ⟨.nil, ?_⟩
 refine Dp rfl rfl (p_fieldo fo54_4 rfl rfl) ?_
 refine D_wr (.go (E' := []) rfl (.plain rfl) (ws (cs' := [_, _, _, _, _, _, _, _, _, _, _, _]) sz23 rfl rfl rfl rfl rfl rfl rfl) rfl ?_)
 rintro _ _ ⟨rfl, rfl⟩
 refine ⟨.nil, ?_⟩
 refine D_then (kp [1, 2] rfl) ?_
 refine Vs rfl ?_
 refine Lr rfl (rlA (vs := [_, _, _, _, _, _, _, _, _, _, _, _]) ag54 sz54 rfl rfl rfl) ?_
 refine Ls (cs' := [_, _, _, _, _, _, _, _, _, _, _, _]) rfl sz54 rfl rfl rfl rfl rfl rfl rfl ?_
 refine L_then (kp [2] rfl) ?_
 refine V_ret ?_
 refine Leave.nil (.cellA (us := [_, _, _, _, _, _, _, _, _, _, _, _]) rfl ag54 sz54 (by repeat first | exact mH | apply mT) rfl .nil) ?_
 rfl
theorem flightTurnedE (v : Veh) (d : Dir) (l : List Fl.Band) (av pv qv bv : Value) (n m : Int) (w : World) (hv : VehR w (VehV v av pv qv) v) (hl : BdsR w bv l) (h : flyE v d l n ≠ 0) : FnP Try.prog 4 [VehV v av pv qv, .agg #[.int .i64 d.x, .int .i64 d.y, .int .i64 d.z, bv, .int .i64 n, .int .i64 m]] w (.bool true) := by
 have hL := hl
 obtain ⟨ba, bc, rfl, hbc, hbe⟩ := hl.sl.ex
 simp only [List.length_map] at hL hbc ⊢
 refine fn_pure Try.func4 rfl (by kernel_rfl) Try.ntmps4 Try.results4 rfl ?_
 refine Vs rfl ?_
 refine Lw rfl (w_box rfl rfl) ?_
 rintro _ _ ⟨b1, hb1, rfl, rfl⟩
 refine Lw rfl (w_box rfl rfl) ?_
 rintro _ _ ⟨b2, hb2, rfl, rfl⟩
 refine La rfl rfl rfl ?_
 refine L_then (kp [2, 3] rfl) ?_
 refine Vs rfl ?_
 refine Lr rfl (rlA (vs := [_, _, _, _, _, _]) ag28 sz28 rfl rfl rfl) ?_
 refine Lc rfl rfl rfl rfl (fun w hg => fcheck_c v _ w (hv.good hg)) ?_
 refine Lm rfl rfl rfl ?_
 iterate 3 refine Lp rfl (p_ext rfl rfl rfl) ?_
 iterate 3 refine La rfl rfl rfl ?_
 refine L_then (kp [2, 3, 7] rfl) ?_
 refine Vs rfl ?_
 refine Lr rfl (rlA (vs := [_, _, _, _, _, _]) ag28 sz28 rfl rfl rfl) ?_
 refine Lp rfl (p_fieldo fo39_0 rfl rfl) ?_
 refine Lr rfl (rlA (vs := [_, _, _]) ag30 sz30 rfl rfl rfl) ?_
 refine Lp rfl (p_fieldo fo39_1 rfl rfl) ?_
 refine Lr rfl (rl ag37 rfl rfl rfl) ?_
 refine Lp rfl (p_fieldo fo39_2 rfl rfl) ?_
 refine Lr rfl (rl ag3 rfl rfl rfl) ?_
 refine Lw rfl (w_callG (pre := [_, _]) rfl rfl rfl rfl (fun w hg => eFly_c v d l av pv qv _ w (hv.good hg) (hL.good hg) n h)) ?_
 rintro _ _ ⟨_, G1, rfl, hfr1, rfl, sv1, rfl, hgr1⟩
 obtain ⟨sa1, sc1, rfl⟩ := Grow.form hgr1
 try simp only [List.cons_append, List.nil_append, List.append_nil]
 refine Lm rfl rfl rfl ?_
 iterate 2 refine Lp rfl (p_ext rfl rfl rfl) ?_
 iterate 2 refine La rfl rfl rfl ?_
 refine L_then (kp [2, 3, 7, 8, 9] rfl) ?_
 refine V_seq ?_
 refine Vs rfl ?_
 refine Lm rfl rfl rfl ?_
 refine Lp rfl (p_neq rfl rfl rfl) ?_
 refine Lm rfl rfl rfl ?_
 refine L_cases (d := 44) rfl ?_ ?_
 ·intro g1; have g1' := g1; try simp only [td] at g1'
  iterate 2 refine L_no rfl rfl rfl g1 ?_
  refine Lp rfl (p_pick_t rfl rfl g1 rfl) ?_
  refine Lm rfl rfl rfl ?_
  iterate 4 refine L_no rfl rfl rfl rfl ?_
  refine Lp rfl (p_pick_t rfl rfl rfl rfl) ?_
  refine L_then (kp [2, 3, 8, 53] rfl) ?_
  refine V_cond_t rfl rfl ?_
  refine Vs rfl ?_
  refine Lc rfl rfl rfl rfl (fun w hg => lAwake_c w) ?_
  refine La rfl rfl rfl ?_
  refine L_then (kp [4] rfl) ?_
  refine V_ret (then_r ?_)
  refine Leave.nil (.tmp rfl .nil) ?_
  rfl
 intro g1; have g1' := g1; try simp only [td] at g1'
 refine L_yes rfl rfl rfl g1 (X_p (p_move rfl rfl) ?_)
 refine L_yes rfl rfl rfl g1 (X_p (p_neq rfl rfl rfl) ?_)
 refine Lp rfl (p_pick_f rfl rfl g1 rfl) ?_
 refine Lm rfl rfl rfl ?_
 iterate 4 refine L_no rfl rfl rfl (decide_eq_true h) ?_
 refine Lp rfl (p_pick_t rfl rfl (decide_eq_true h) rfl) ?_
 refine L_then (kp [2, 3, 8, 53] rfl) ?_
 refine V_cond_t rfl rfl ?_
 refine Vs rfl ?_
 refine Lc rfl rfl rfl rfl (fun w hg => lAwake_c w) ?_
 refine La rfl rfl rfl ?_
 refine L_then (kp [4] rfl) ?_
 refine V_ret (then_r ?_)
 refine Leave.nil (.tmp rfl .nil) ?_
 rfl
set_option maxHeartbeats 16000000 in
theorem flightTurnedO (v : Veh) (d : Dir) (l : List Fl.Band) (av pv qv bv : Value) (n m : Int) (w : World) (hv : VehR w (VehV v av pv qv) v) (hl : BdsR w bv l) (h : flyE v d l n = 0) : FnP Try.prog 4 [VehV v av pv qv, .agg #[.int .i64 d.x, .int .i64 d.y, .int .i64 d.z, bv, .int .i64 n, .int .i64 m]] w (.bool true) := by
 have hL := hl
 obtain ⟨ba, bc, rfl, hbc, hbe⟩ := hl.sl.ex
 simp only [List.length_map] at hL hbc ⊢
 have hv0 := hv
 obtain ⟨aa, ac, rfl, _, _⟩ := hv.sl.1.ex
 obtain ⟨pa, pc, rfl, hpc, hpe⟩ := hv.sl.2.1.ex
 obtain ⟨qa, qc, rfl, hqc, hqe⟩ := hv.sl.2.2.ex
 simp only [List.length_map] at hpc hqc hv ⊢
 obtain ⟨hA, hn, hfar⟩ := fly_ok h
 obtain ⟨hGV, hdd, hGB⟩ := Fl.asked_good hA
 have hcv := (asked_0 hA).1
 have hp12 := oP_false.1 hGV.ph12
 have hq6 := hGV.pc6
 have hb20 := oP_false.1 hGB.len
 obtain ⟨⟨dx1, dx2⟩, ⟨dy1, dy2⟩, ⟨dz1, dz2⟩⟩ := dir_bnd hdd
 have hit := imps_trn hA
 have hll : (impsL v d l).length ≤ 100 := by
  by_cases h : impsE v d l = 0
  ·rw [impsL_len h]; omega
  rw [impsL_bad h]; exact Nat.zero_le _
 have hrw : rowS (Fl.stT (trnV v) (trnD d) (l.map trnB)) n.toNat = rowS (fun j => Fl.trnS (Fl.stT v d l j)) n.toNat := rowS_congr (fun j _ => st_trn j)
 refine fn_pure Try.func4 rfl (by kernel_rfl) Try.ntmps4 Try.results4 rfl ?_
 refine Vs rfl ?_
 refine Lw rfl (w_box rfl rfl) ?_
 rintro _ _ ⟨b1, hb1, rfl, rfl⟩
 refine Lw rfl (w_box rfl rfl) ?_
 rintro _ _ ⟨b2, hb2, rfl, rfl⟩
 refine La rfl rfl rfl ?_
 refine L_then (kp [2, 3] rfl) ?_
 refine Vs rfl ?_
 refine Lr rfl (rlA (vs := [_, _, _, _, _, _]) ag28 sz28 rfl rfl rfl) ?_
 refine Lc rfl rfl rfl rfl (fun w hg => fcheck_c v _ w (hv.good hg)) ?_
 refine Lm rfl rfl rfl ?_
 iterate 3 refine Lp rfl (p_ext rfl rfl rfl) ?_
 iterate 3 refine La rfl rfl rfl ?_
 refine L_then (kp [2, 3, 7] rfl) ?_
 refine Vs rfl ?_
 refine Lr rfl (rlA (vs := [_, _, _, _, _, _]) ag28 sz28 rfl rfl rfl) ?_
 refine Lp rfl (p_fieldo fo39_0 rfl rfl) ?_
 refine Lr rfl (rlA (vs := [_, _, _]) ag30 sz30 rfl rfl rfl) ?_
 refine Lp rfl (p_fieldo fo39_1 rfl rfl) ?_
 refine Lr rfl (rl ag37 rfl rfl rfl) ?_
 refine Lp rfl (p_fieldo fo39_2 rfl rfl) ?_
 refine Lr rfl (rl ag3 rfl rfl rfl) ?_
 refine Lw rfl (w_callG (pre := [_, _]) rfl rfl rfl rfl (fun w hg => gFly_c v d l _ _ _ _ w (hv.good hg) (hL.good hg) n h)) ?_
 rintro _ _ ⟨_, G1, rfl, hfr1, rfl, sv1, rfl, hgr1⟩
 obtain ⟨sa1, sc1, rfl⟩ := Grow.form hgr1
 obtain ⟨gb1, cur1, rfl, rfl, hcur1, _, _⟩ := Grow.form2 hgr1 (by omega)
 try simp only [List.cons_append, List.nil_append, List.append_nil]
 refine Lm rfl rfl rfl ?_
 iterate 2 refine Lp rfl (p_ext rfl rfl rfl) ?_
 iterate 2 refine La rfl rfl rfl ?_
 refine L_then (kp [2, 3, 7, 8, 9] rfl) ?_
 refine V_seq ?_
 refine Vs rfl ?_
 refine Lm rfl rfl rfl ?_
 refine Lp rfl (p_neq rfl rfl rfl) ?_
 refine Lm rfl rfl rfl ?_
 refine L_yes rfl rfl rfl (decide_eq_false (by omega)) (X_p (p_move rfl rfl) ?_)
 refine L_yes rfl rfl rfl (decide_eq_false (by omega)) (X_p (p_neq rfl rfl rfl) ?_)
 refine Lp rfl (p_pick_f rfl rfl (decide_eq_false (by omega)) rfl) ?_
 refine Lm rfl rfl rfl ?_
 refine L_yes rfl rfl rfl rfl (X_p (p_fieldo fo28_3 rfl rfl) ?_)
 refine L_yes rfl rfl rfl rfl (X_rd (rl ag25 rfl rfl rfl) ?_)
 refine L_yes rfl rfl rfl rfl (X_p (p_len isl25 rfl rfl) ?_)
 refine L_yes rfl rfl rfl rfl (X_p (p_gtr rfl rfl rfl) ?_)
 refine Lp rfl (p_pick_f rfl rfl rfl rfl) ?_
 refine L_then (kp [2, 3, 8, 53] rfl) ?_
 refine V_cond_f rfl (decide_eq_false (by omega)) ?_
 refine V_skip (then_n ?_)
 refine V_seq (V_draw (.rd 0 (.rd 1 (.rd 2 (.rd 3 (.rd 4 (.rd 5 (.rd 6 (.rd 7 (.rd 8 (.rd 9 (.rd 10 (.rd 11 (.wr2 12 [11, 10, 9, 8, 7, 6, 5, 4, 3, 2, 1, 0] (.wr 13 [11, 10, 9, 8, 7, 6, 5, 4, 3, 2, 1, 0] (.wr 14 [11, 10, 9, 8, 7, 6, 5, 4, 3, 2, 1] (.wr 15 [] .done))) 13 [11, 10, 9, 8, 7, 6, 5, 4, 3, 2, 1, 0] (.wr 12 [11, 10, 9, 8, 7, 6, 5, 4, 3, 2, 1, 0] (.wr 14 [11, 10, 9, 8, 7, 6, 5, 4, 3, 2, 1] (.wr 15 [] .done)))))))))))))))) mixed (by kernel_rfl) rfl ?_)
 refine Dr rfl rfl (rlA (vs := [_, _, _, _, _, _]) ag28 sz28 rfl rfl rfl) ?_
 refine Dp rfl rfl (p_fieldo fo39_0 rfl rfl) ?_
 refine Dp rfl rfl (p_fieldo fo30_1 rfl rfl) ?_
 refine Dr rfl rfl (rl ag3 rfl rfl rfl) ?_
 first | refine Dp rfl rfl (p_neg' rfl rfl (by unfold InI; omega)) ?_ | refine Dp rfl rfl (p_neg rfl rfl) ?_
 refine Dp rfl rfl (p_fieldo fo39_0 rfl rfl) ?_
 refine Dp rfl rfl (p_fieldo fo30_0 rfl rfl) ?_
 refine Dr rfl rfl (rl ag3 rfl rfl rfl) ?_
 refine Dp rfl rfl (p_fieldo fo39_0 rfl rfl) ?_
 refine Dp rfl rfl (p_fieldo fo30_2 rfl rfl) ?_
 refine Dr rfl rfl (rl ag3 rfl rfl rfl) ?_
 refine Dp rfl rfl (p_build (r := [_, _, _]) pl30 zr30 rfl rfl rfl) ?_
 refine D_wr2 rfl ?_ ?_
 ·refine (.go (E' := [(10, _), (7, _), (3, _), (0, _)]) rfl (.plain rfl) (w_alloc zr28 rfl) rfl ?_)
  rintro _ _ ⟨b4, hb4, rfl, rfl⟩
  refine ⟨(.cons rfl (.plain rfl) (rl ag3 rfl rfl rfl) (.cons rfl (.plain rfl) (rl ag3 rfl rfl rfl) (.cons rfl (.plain rfl) (rl ag3 rfl rfl rfl) (.cons rfl (.plain rfl) (rlA (vs := [_, _, _, _, _, _]) ag28 sz28 rfl rfl rfl) .nil)))), ?_⟩
  refine D_wr (.go (E' := [(10, _), (7, _), (3, _), (0, _)]) rfl (.plain rfl) (w_alloc zr30 rfl) rfl ?_)
  rintro _ _ ⟨b5, hb5, rfl, rfl⟩
  refine ⟨(.cons rfl (.plain rfl) (rl ag3 rfl rfl rfl) (.cons rfl (.plain rfl) (rl ag3 rfl rfl rfl) (.cons rfl (.plain rfl) (rl ag3 rfl rfl rfl) (.cons rfl (.plain rfl) (rlA (vs := [_, _, _, _, _, _]) ag28 sz28 rfl rfl rfl) .nil)))), ?_⟩
  refine D_wr (.go (E' := [(10, _), (7, _), (3, _)]) rfl (.plain rfl) (ws (cs' := [_, _, _, _, _, _]) sz28 rfl rfl rfl rfl rfl rfl rfl) rfl ?_)
  rintro _ _ ⟨rfl, rfl⟩
  refine ⟨(.cons rfl (.plain rfl) (rl ag3 rfl rfl rfl) (.cons rfl (.plain rfl) (rl ag3 rfl rfl rfl) (.cons rfl (.plain rfl) (rl ag3 rfl rfl rfl) .nil))), ?_⟩
  refine D_wr (.go (E' := []) rfl (.plain rfl) (ws (cs' := [_, _, _]) sz30 rfl rfl rfl rfl rfl rfl rfl) rfl ?_)
  rintro _ _ ⟨rfl, rfl⟩
  refine ⟨.nil, ?_⟩
  refine D_then (kp [2, 3, 8, 10, 11] rfl) ?_
  refine Vs rfl ?_
  refine Lp rfl (p_fieldo fo28_3 rfl rfl) ?_
  refine Ls (cs' := [_, _, _, _, _, _]) rfl sz25 rfl rfl rfl rfl rfl rfl rfl ?_
  refine Lp rfl (p_fieldo fo28_4 rfl rfl) ?_
  refine Ls (cs' := [_, _, _, _, _, _]) rfl sz26 rfl rfl rfl rfl rfl rfl rfl ?_
  refine L_then (kp [2, 3, 8, 10, 11] rfl) ?_
  refine V_seq ?_
  refine Vs rfl ?_
  refine La rfl rfl rfl ?_
  refine L_then (kp [2, 3, 8, 10, 11, 12] rfl) ?_
  refine V_block ?_
  refine V_loop1 (γ := Int × Value × Heap) (kp [2, 3, 8, 10, 11] rfl) (fun (ka, svp, GP) => [(12, .int .i64 ka)]) (fun (ka, svp, GP) => (b5, .cells #[.int .i64 (-d.y), .int .i64 d.x, .int .i64 d.z] 30) :: (b4, .cells #[.string v.name, .int .i64 v.gravity.lo, .int .i64 v.gravity.hi, .slice aa v.air.length ac, svp, .slice none 0 0] 28) :: (b2, .cells #[.int .i64 d.x, .int .i64 d.y, .int .i64 d.z, .slice ba l.length bc, .int .i64 n, .int .i64 m] 39) :: (b1, .cells #[.string v.name, .int .i64 v.gravity.lo, .int .i64 v.gravity.hi, .slice aa v.air.length ac, .slice pa v.phases.length pc, .slice qa v.pieces.length qc] 28) :: (GP ++ [(gb1, .cells cur1 54)])) (fun (ka, svp, GP) => 0 ≤ ka ∧ ka ≤ v.phases.length ∧ Grow 46 13 svp ka.toNat (phL ((v.phases.map trnP).take ka.toNat)) GP) (fun (ka, svp, GP) => (v.phases.length - ka).toNat) ((0, .slice none 0 0, [])) (.cons rfl (.nil _)) (by repeat (first | exact List.nil_sublist _ | exact List.Sublist.refl _ | apply List.Sublist.cons_cons | apply List.Sublist.cons)) (⟨by omega, by omega, .nil⟩) ?_
  rintro ⟨ka, svp, GP⟩ hi
  obtain ⟨hk0, hk1, hgp⟩ := hi
  dsimp only at hk0 hk1 hgp ⊢
  obtain ⟨hgpa, hgpc, rfl⟩ := Grow.form hgp
  refine V_seq ?_
  refine Vs rfl ?_
  refine Lm rfl rfl rfl ?_
  refine Lp rfl (p_fieldo fo28_3 rfl rfl) ?_
  refine Lr rfl (rl ag25 rfl rfl rfl) ?_
  refine Lp rfl (p_len isl25 rfl rfl) ?_
  refine Lp rfl (p_lss rfl rfl rfl) ?_
  refine L_then (kp [2, 3, 8, 10, 11, 12, 73] rfl) ?_
  refine V_cond rfl ?_ ?_
  ·intro c1; try simp only [td] at c1
   obtain ⟨tb, etb, hc⟩ := hpe ka.toNat _ (getD_cells (d := phZ) (by omega))
   subst etb
   have hpk := (ph_zero (hGV.ph ka.toNat (by omega))).2
   simp only [Veh.ph] at hpk
   refine V_skip (then_n ?_)
   refine V_seq ?_
   refine V_block ?_
   refine Vs rfl ?_
   refine Lp rfl (p_fieldo fo28_3 rfl rfl) ?_
   refine Lr rfl (rl ag25 rfl rfl rfl) ?_
   refine Lm rfl rfl rfl ?_
   refine Lp rfl (p_idx es25 rfl rfl rfl (by omega) (by omega)) ?_
   refine Lr rfl (r_loadBA ag46 sz46 rfl rfl hc rfl List.not_mem_nil) ?_
   refine Lw rfl (w_alloc zr46 rfl) ?_
   rintro _ _ ⟨b6, hb6, rfl, rfl⟩
   refine Ls (cs' := [_, _, _, _, _, _, _, _, _, _, _, _, _]) rfl sz46 rfl rfl rfl rfl rfl rfl rfl ?_
   refine L_then (kp [2, 3, 8, 10, 11, 12, 13] rfl) ?_
   refine Vs rfl ?_
   refine Lp rfl (p_fieldo fo46_4 rfl rfl) ?_
   refine Lr rfl (rlA (vs := [_, _, _, _, _, _]) ag44 sz44 rfl rfl rfl) ?_
   refine Lc rfl rfl rfl rfl (fun w hg => lround_c (v.phases.getD ka.toNat phZ).tilt (by have h1 := hpk.ty; obtain ⟨a, b, c⟩ := h1; exact ⟨by omega, by omega, by omega⟩) w) ?_
   refine Lp rfl (p_fieldo fo46_4 rfl rfl) ?_
   refine Ls (cs' := [_, _, _, _, _, _, _, _, _, _, _, _, _]) rfl sz44 rfl rfl rfl rfl rfl rfl rfl ?_
   refine L_then (kp [2, 3, 8, 10, 11, 12, 13] rfl) ?_
   refine V_region rfl ?_
   refine Lp rfl (p_fieldo fo28_3 rfl rfl) ?_
   refine Lr rfl (rl ag25 rfl rfl rfl) ?_
   refine Lr rfl (rlA (vs := [_, _, _, _, _, _, _, _, _, _, _, _, _]) ag46 sz46 rfl rfl rfl) ?_
   refine Lw rfl (w_slice (r := [_, _, _, _, _, _, _, _, _, _, _, _, _]) un25 sz46 zr46 rfl (by decide) rfl (by decide) rfl rfl) ?_
   rintro _ _ ⟨b7, hb7, rfl, rfl⟩
   refine Lw rfl (w_app (pre := [_, _, _, _, _, _]) (G := GP) ap25 rfl rfl rfl hgp rfl rfl (news_own (by repeat first | exact mH | apply mT | apply List.mem_append_right)) (by intro u hu; simp only [Phase.cells, Piece.cells, Band.cells, List.cons_append, List.nil_append, List.mem_cons, List.not_mem_nil, or_false] at hu; rcases hu with rfl | rfl | rfl | rfl | rfl | rfl | rfl | rfl | rfl | rfl | rfl | rfl | rfl <;> rfl) (by omega) (by simp only [maxLen]; omega)) ?_
   rintro _ _ ⟨GP2a, GP2c, GP2, rfl, rfl, hgp2⟩
   try simp only [List.cons_append, List.nil_append, List.append_nil]
   refine Lp rfl (p_fieldo fo28_3 rfl rfl) ?_
   refine Ls (cs' := [_, _, _, _, _, _]) rfl sz25 rfl rfl rfl rfl rfl rfl rfl ?_
   refine L_keep (kp [2, 3, 8, 10, 11, 12] rfl) (blk_n (then_n ?_))
   refine V_region rfl ?_
   refine Lm rfl rfl rfl ?_
   first | refine Lp rfl (p_add' rfl rfl rfl (by unfold InI; omega)) ?_ | refine Lp rfl (p_add rfl rfl rfl) ?_
   refine La rfl rfl rfl ?_
   refine L_keep (kp [2, 3, 8, 10, 11, 12] rfl) (then_n ?_)
   refine ⟨(ka + 1, _, GP2), ?_, ?_, (.cons rfl (.cons rfl (.cons rfl (.cons rfl (.cons rfl (.cons rfl (.nil _))))))), (by repeat (first | exact List.nil_sublist _ | exact List.Sublist.refl _ | apply List.Sublist.cons_cons | apply List.Sublist.cons | apply List.sublist_append_of_sublist_right)), rfl⟩
   ·have ek : (ka + 1).toNat = ka.toNat + 1 := by omega
    refine ⟨by omega, by omega, ?_⟩
    have ex : (v.phases.map trnP).getD ka.toNat phZ = trnP (v.phases.getD ka.toNat phZ) := getD_map trnP phZ phZ v.phases (by omega)
    rw [ek, take_succ_getD phZ (v.phases.map trnP) (by rw [List.length_map]; omega), phL_s, ex]; exact hgp2
   dsimp only; omega
  intro c1; try simp only [td] at c1
  have ekp : ka.toNat = v.phases.length := by omega
  rw [List.take_of_length_le (by rw [List.length_map]; omega)] at hgp
  refine V_exit (then_e (then_e (blk_e rfl (then_n ?_))))
  refine V_seq ?_
  refine Vs rfl ?_
  refine La rfl rfl rfl ?_
  refine L_then (kp [2, 3, 8, 10, 11, 14] rfl) ?_
  refine V_block ?_
  refine V_loop1 (γ := Int × Value × Heap) (kp [2, 3, 8, 10, 11] rfl) (fun (kq, svq, GQ) => [(14, .int .i64 kq)]) (fun (kq, svq, GQ) => (b5, .cells #[.int .i64 (-d.y), .int .i64 d.x, .int .i64 d.z] 30) :: (b4, .cells #[.string v.name, .int .i64 v.gravity.lo, .int .i64 v.gravity.hi, .slice aa v.air.length ac, .slice hgpa ka.toNat hgpc, svq] 28) :: (b2, .cells #[.int .i64 d.x, .int .i64 d.y, .int .i64 d.z, .slice ba l.length bc, .int .i64 n, .int .i64 m] 39) :: (b1, .cells #[.string v.name, .int .i64 v.gravity.lo, .int .i64 v.gravity.hi, .slice aa v.air.length ac, .slice pa v.phases.length pc, .slice qa v.pieces.length qc] 28) :: (GQ ++ (GP ++ [(gb1, .cells cur1 54)]))) (fun (kq, svq, GQ) => 0 ≤ kq ∧ kq ≤ v.pieces.length ∧ Grow 49 13 svq kq.toNat (pcL ((v.pieces.map trnC).take kq.toNat)) GQ) (fun (kq, svq, GQ) => (v.pieces.length - kq).toNat) ((0, .slice none 0 0, [])) (.cons rfl (.nil _)) (by repeat (first | exact List.nil_sublist _ | exact List.Sublist.refl _ | apply List.Sublist.cons_cons | apply List.Sublist.cons)) (⟨by omega, by omega, .nil⟩) ?_
  rintro ⟨kq, svq, GQ⟩ hi
  obtain ⟨hk0, hk1, hgq⟩ := hi
  dsimp only at hk0 hk1 hgq ⊢
  obtain ⟨hgqa, hgqc, rfl⟩ := Grow.form hgq
  refine V_seq ?_
  refine Vs rfl ?_
  refine Lm rfl rfl rfl ?_
  refine Lp rfl (p_fieldo fo28_4 rfl rfl) ?_
  refine Lr rfl (rl ag26 rfl rfl rfl) ?_
  refine Lp rfl (p_len isl26 rfl rfl) ?_
  refine Lp rfl (p_lss rfl rfl rfl) ?_
  refine L_then (kp [2, 3, 8, 10, 11, 14, 95] rfl) ?_
  refine V_cond rfl ?_ ?_
  ·intro c2; try simp only [td] at c2
   obtain ⟨tb, etb, hc⟩ := hqe kq.toNat _ (getD_cells (d := pcZ) (by omega))
   subst etb
   have hqk := pc_zero (hGV.pc kq.toNat (by omega))
   simp only [Veh.pc] at hqk
   refine V_skip (then_n ?_)
   refine V_seq ?_
   refine V_block ?_
   refine Vs rfl ?_
   refine Lp rfl (p_fieldo fo28_4 rfl rfl) ?_
   refine Lr rfl (rl ag26 rfl rfl rfl) ?_
   refine Lm rfl rfl rfl ?_
   refine Lp rfl (p_idx es26 rfl rfl rfl (by omega) (by omega)) ?_
   refine Lr rfl (r_loadBA ag49 sz49 rfl rfl hc rfl List.not_mem_nil) ?_
   refine Lw rfl (w_alloc zr49 rfl) ?_
   rintro _ _ ⟨b6, hb6, rfl, rfl⟩
   refine Ls (cs' := [_, _, _, _, _, _, _, _, _, _, _, _, _]) rfl sz49 rfl rfl rfl rfl rfl rfl rfl ?_
   refine L_then (kp [2, 3, 8, 10, 11, 14, 15] rfl) ?_
   refine Vs rfl ?_
   refine Lp rfl (p_fieldo fo49_4 rfl rfl) ?_
   refine Lr rfl (rlA (vs := [_, _, _, _, _, _]) ag44 sz44 rfl rfl rfl) ?_
   refine Lc rfl rfl rfl rfl (fun w hg => lround_c (v.pieces.getD kq.toNat pcZ).kick (by have h1 := hqk.kick.2.1; obtain ⟨a, b, c⟩ := h1; exact ⟨by omega, by omega, by omega⟩) w) ?_
   refine Lp rfl (p_fieldo fo49_4 rfl rfl) ?_
   refine Ls (cs' := [_, _, _, _, _, _, _, _, _, _, _, _, _]) rfl sz44 rfl rfl rfl rfl rfl rfl rfl ?_
   refine L_then (kp [2, 3, 8, 10, 11, 14, 15] rfl) ?_
   refine V_region rfl ?_
   refine Lp rfl (p_fieldo fo28_4 rfl rfl) ?_
   refine Lr rfl (rl ag26 rfl rfl rfl) ?_
   refine Lr rfl (rlA (vs := [_, _, _, _, _, _, _, _, _, _, _, _, _]) ag49 sz49 rfl rfl rfl) ?_
   refine Lw rfl (w_slice (r := [_, _, _, _, _, _, _, _, _, _, _, _, _]) un26 sz49 zr49 rfl (by decide) rfl (by decide) rfl rfl) ?_
   rintro _ _ ⟨b7, hb7, rfl, rfl⟩
   refine Lw rfl (w_app (pre := [_, _, _, _, _, _]) (G := GQ) ap26 rfl rfl rfl hgq rfl rfl (news_own (by repeat first | exact mH | apply mT | apply List.mem_append_right)) (by intro u hu; simp only [Phase.cells, Piece.cells, Band.cells, List.cons_append, List.nil_append, List.mem_cons, List.not_mem_nil, or_false] at hu; rcases hu with rfl | rfl | rfl | rfl | rfl | rfl | rfl | rfl | rfl | rfl | rfl | rfl | rfl <;> rfl) (by omega) (by simp only [maxLen]; omega)) ?_
   rintro _ _ ⟨GQ2a, GQ2c, GQ2, rfl, rfl, hgq2⟩
   try simp only [List.cons_append, List.nil_append, List.append_nil]
   refine Lp rfl (p_fieldo fo28_4 rfl rfl) ?_
   refine Ls (cs' := [_, _, _, _, _, _]) rfl sz26 rfl rfl rfl rfl rfl rfl rfl ?_
   refine L_keep (kp [2, 3, 8, 10, 11, 14] rfl) (blk_n (then_n ?_))
   refine V_region rfl ?_
   refine Lm rfl rfl rfl ?_
   first | refine Lp rfl (p_add' rfl rfl rfl (by unfold InI; omega)) ?_ | refine Lp rfl (p_add rfl rfl rfl) ?_
   refine La rfl rfl rfl ?_
   refine L_keep (kp [2, 3, 8, 10, 11, 14] rfl) (then_n ?_)
   refine ⟨(kq + 1, _, GQ2), ?_, ?_, (.cons rfl (.cons rfl (.cons rfl (.cons rfl (.cons rfl (.cons rfl (.nil _))))))), (by repeat (first | exact List.nil_sublist _ | exact List.Sublist.refl _ | apply List.Sublist.cons_cons | apply List.Sublist.cons | apply List.sublist_append_of_sublist_right)), rfl⟩
   ·have ek : (kq + 1).toNat = kq.toNat + 1 := by omega
    refine ⟨by omega, by omega, ?_⟩
    have ex : (v.pieces.map trnC).getD kq.toNat pcZ = trnC (v.pieces.getD kq.toNat pcZ) := getD_map trnC pcZ pcZ v.pieces (by omega)
    rw [ek, take_succ_getD pcZ (v.pieces.map trnC) (by rw [List.length_map]; omega), pcL_s, ex]; exact hgq2
   dsimp only; omega
  intro c2; try simp only [td] at c2
  have ekq : kq.toNat = v.pieces.length := by omega
  rw [List.take_of_length_le (by rw [List.length_map]; omega)] at hgq
  refine V_exit (then_e (then_e (blk_e rfl (then_n ?_))))
  refine Vs rfl ?_
  refine La rfl rfl rfl ?_
  refine L_then (kp [2, 3, 8, 10, 11, 16] rfl) ?_
  refine V_seq ?_
  refine Vs rfl ?_
  refine La rfl rfl rfl ?_
  refine L_then (kp [2, 3, 8, 10, 11, 16, 17] rfl) ?_
  refine V_block ?_
  refine V_loop1 (γ := Int × Value × Heap) (kp [2, 3, 8, 10, 11] rfl) (fun (kb, svb, GB) => [(17, .int .i64 kb), (16, svb)]) (fun (kb, svb, GB) => (b5, .cells #[.int .i64 (-d.y), .int .i64 d.x, .int .i64 d.z] 30) :: (b4, .cells #[.string v.name, .int .i64 v.gravity.lo, .int .i64 v.gravity.hi, .slice aa v.air.length ac, .slice hgpa ka.toNat hgpc, .slice hgqa kq.toNat hgqc] 28) :: (b2, .cells #[.int .i64 d.x, .int .i64 d.y, .int .i64 d.z, .slice ba l.length bc, .int .i64 n, .int .i64 m] 39) :: (b1, .cells #[.string v.name, .int .i64 v.gravity.lo, .int .i64 v.gravity.hi, .slice aa v.air.length ac, .slice pa v.phases.length pc, .slice qa v.pieces.length qc] 28) :: (GB ++ (GQ ++ (GP ++ [(gb1, .cells cur1 54)])))) (fun (kb, svb, GB) => 0 ≤ kb ∧ kb ≤ l.length ∧ Grow 51 6 svb kb.toNat (bdL ((l.map trnB).take kb.toNat)) GB) (fun (kb, svb, GB) => (l.length - kb).toNat) ((0, .slice none 0 0, [])) (.cons rfl (.cons rfl (.nil _))) (by repeat (first | exact List.nil_sublist _ | exact List.Sublist.refl _ | apply List.Sublist.cons_cons | apply List.Sublist.cons)) (⟨by omega, by omega, .nil⟩) ?_
  rintro ⟨kb, svb, GB⟩ hi
  obtain ⟨hk0, hk1, hgb⟩ := hi
  dsimp only at hk0 hk1 hgb ⊢
  obtain ⟨hgba, hgbc, rfl⟩ := Grow.form hgb
  refine V_seq ?_
  refine Vs rfl ?_
  refine Lm rfl rfl rfl ?_
  refine Lp rfl (p_fieldo fo39_1 rfl rfl) ?_
  refine Lr rfl (rl ag37 rfl rfl rfl) ?_
  refine Lp rfl (p_len isl37 rfl rfl) ?_
  refine Lp rfl (p_lss rfl rfl rfl) ?_
  refine L_then (kp [2, 3, 8, 10, 11, 16, 17, 117] rfl) ?_
  refine V_cond rfl ?_ ?_
  ·intro c3; try simp only [td] at c3
   obtain ⟨tb, etb, hc⟩ := hbe kb.toNat _ (getD_cells (d := bdZ) (by omega))
   subst etb
   have hbk := (bd_zero (hGB.bd kb.toNat (by omega))).2.2.2
   simp only [bdAt] at hbk
   refine V_skip (then_n ?_)
   refine V_seq ?_
   refine V_block ?_
   refine Vs rfl ?_
   refine Lp rfl (p_fieldo fo39_1 rfl rfl) ?_
   refine Lr rfl (rl ag37 rfl rfl rfl) ?_
   refine Lm rfl rfl rfl ?_
   refine Lp rfl (p_idx es37 rfl rfl rfl (by omega) (by omega)) ?_
   refine Lr rfl (r_loadBA ag51 sz51 rfl rfl hc rfl List.not_mem_nil) ?_
   refine Lw rfl (w_alloc zr51 rfl) ?_
   rintro _ _ ⟨b6, hb6, rfl, rfl⟩
   refine Ls (cs' := [_, _, _, _, _, _]) rfl sz51 rfl rfl rfl rfl rfl rfl rfl ?_
   refine L_then (kp [2, 3, 8, 10, 11, 16, 17, 18] rfl) ?_
   refine V_seq (V_draw (.rd 0 (.rd 1 (.rd 3 (.rd 4 (.wr 2 [4, 3, 0] (.rd 5 (.wr 6 [] (.rd 7 (.wr 8 [] .done))))))))) mixed (by kernel_rfl) rfl ?_)
   refine Dp rfl rfl (p_fieldo fo51_3 rfl rfl) ?_
   refine Dr rfl rfl (rlA (vs := [_, _]) ag23 sz23 rfl rfl rfl) ?_
   refine Dp rfl rfl (p_fieldo fo51_2 rfl rfl) ?_
   refine Dr rfl rfl (rlA (vs := [_, _]) ag23 sz23 rfl rfl rfl) ?_
   refine D_wr (.go (E' := [(4, _)]) rfl (.plain rfl) (w_callP rfl rfl rfl (fun w hg => lminus_c (l.getD kb.toNat bdZ).y (by obtain ⟨a, b, c⟩ := hbk; exact ⟨by omega, by omega, by omega⟩) w)) rfl ?_)
   rintro _ _ ⟨rfl, rfl⟩
   refine ⟨(.cons rfl (.plain rfl) (rlA (vs := [_, _]) ag23 sz23 rfl rfl rfl) .nil), ?_⟩
   refine Dp rfl rfl (p_fieldo fo51_2 rfl rfl) ?_
   refine D_wr (.go (E' := []) rfl (.plain rfl) (ws (cs' := [_, _, _, _, _, _]) sz23 rfl rfl rfl rfl rfl rfl rfl) rfl ?_)
   rintro _ _ ⟨rfl, rfl⟩
   refine ⟨.nil, ?_⟩
   refine Dp rfl rfl (p_fieldo fo51_3 rfl rfl) ?_
   refine D_wr (.go (E' := []) rfl (.plain rfl) (ws (cs' := [_, _, _, _, _, _]) sz23 rfl rfl rfl rfl rfl rfl rfl) rfl ?_)
   rintro _ _ ⟨rfl, rfl⟩
   refine ⟨.nil, ?_⟩
   refine D_then (kp [2, 3, 8, 10, 11, 16, 17, 18] rfl) ?_
   refine V_region rfl ?_
   refine Lm rfl rfl rfl ?_
   refine Lr rfl (rlA (vs := [_, _, _, _, _, _]) ag51 sz51 rfl rfl rfl) ?_
   refine Lw rfl (w_slice (r := [_, _, _, _, _, _]) un37 sz51 zr51 rfl (by decide) rfl (by decide) rfl rfl) ?_
   rintro _ _ ⟨b7, hb7, rfl, rfl⟩
   refine Lw rfl (w_app (pre := [_, _, _, _, _, _]) (G := GB) ap37 rfl rfl rfl hgb rfl rfl (news_own (by repeat first | exact mH | apply mT | apply List.mem_append_right)) (by intro u hu; simp only [Phase.cells, Piece.cells, Band.cells, List.cons_append, List.nil_append, List.mem_cons, List.not_mem_nil, or_false] at hu; rcases hu with rfl | rfl | rfl | rfl | rfl | rfl <;> rfl) (by omega) (by simp only [maxLen]; omega)) ?_
   rintro _ _ ⟨GB2a, GB2c, GB2, rfl, rfl, hgb2⟩
   try simp only [List.cons_append, List.nil_append, List.append_nil]
   refine La rfl rfl rfl ?_
   refine L_keep (kp [2, 3, 8, 10, 11, 16, 17] rfl) (blk_n (then_n ?_))
   refine V_region rfl ?_
   refine Lm rfl rfl rfl ?_
   first | refine Lp rfl (p_add' rfl rfl rfl (by unfold InI; omega)) ?_ | refine Lp rfl (p_add rfl rfl rfl) ?_
   refine La rfl rfl rfl ?_
   refine L_keep (kp [2, 3, 8, 10, 11, 16, 17] rfl) (then_n ?_)
   refine ⟨(kb + 1, _, GB2), ?_, ?_, (.cons rfl (.cons rfl (.cons rfl (.cons rfl (.cons rfl (.cons rfl (.cons rfl (.nil _)))))))), (by repeat (first | exact List.nil_sublist _ | exact List.Sublist.refl _ | apply List.Sublist.cons_cons | apply List.Sublist.cons | apply List.sublist_append_of_sublist_right)), rfl⟩
   ·have ek : (kb + 1).toNat = kb.toNat + 1 := by omega
    refine ⟨by omega, by omega, ?_⟩
    have ex : (l.map trnB).getD kb.toNat bdZ = trnB (l.getD kb.toNat bdZ) := getD_map trnB bdZ bdZ l (by omega)
    rw [ek, take_succ_getD bdZ (l.map trnB) (by rw [List.length_map]; omega), bdL_s, ex]; exact hgb2
   dsimp only; omega
  intro c3; try simp only [td] at c3
  have ekb : kb.toNat = l.length := by omega
  rw [List.take_of_length_le (by rw [List.length_map]; omega)] at hgb
  refine V_exit (then_e (then_e (blk_e rfl (then_n ?_))))
  refine Vs rfl ?_
  refine Lr rfl (rlA (vs := [_, _, _, _, _, _]) ag28 sz28 rfl rfl rfl) ?_
  refine Lr rfl (rlA (vs := [_, _, _]) ag30 sz30 rfl rfl rfl) ?_
  refine Lm rfl rfl rfl ?_
  refine Lp rfl (p_fieldo fo39_2 rfl rfl) ?_
  refine Lr rfl (rl ag3 rfl rfl rfl) ?_
  refine Lw rfl (w_callG (pre := [_, _, _, _]) rfl rfl rfl rfl (fun w hg => gFly_c (trnV v) (trnD d) (l.map trnB) _ _ _ _ w (trn_R (hv.good hg) hgp ekp hgq ekq (fun p hp => hg.own p (by repeat first | exact hp | exact List.mem_append_left _ hp | apply List.mem_append_right | apply mT)) (fun p hp => hg.own p (by repeat first | exact hp | exact List.mem_append_left _ hp | apply List.mem_append_right | apply mT))) (trn_B (hL.good hg) hgb ekb (fun p hp => hg.own p (by repeat first | exact hp | exact List.mem_append_left _ hp | apply List.mem_append_right | apply mT))) n (trn_fly h).1)) ?_
  rintro _ _ ⟨_, G2, rfl, hfr2, rfl, sv2, rfl, hgr2⟩
  rw [hrw] at hgr2
  obtain ⟨sa2, sc2, rfl⟩ := Grow.form hgr2
  obtain ⟨gb2, cur2, rfl, rfl, hcur2, _, _⟩ := Grow.form2 hgr2 (by omega)
  try simp only [List.cons_append, List.nil_append, List.append_nil]
  refine Lm rfl rfl rfl ?_
  iterate 2 refine Lp rfl (p_ext rfl rfl rfl) ?_
  iterate 2 refine La rfl rfl rfl ?_
  refine L_then (kp [2, 3, 7, 8, 10, 11, 16, 19] rfl) ?_
  refine V_seq ?_
  refine Vs rfl ?_
  refine Lm rfl rfl rfl ?_
  refine Lp rfl (p_neq rfl rfl rfl) ?_
  refine Lm rfl rfl rfl ?_
  refine L_yes rfl rfl rfl rfl (X_p (p_move rfl rfl) ?_)
  refine L_yes rfl rfl rfl rfl (X_p (p_len isl40 rfl rfl) ?_)
  refine L_yes rfl rfl rfl rfl (X_p (p_move rfl rfl) ?_)
  refine L_yes rfl rfl rfl rfl (X_p (p_len isl40 rfl rfl) ?_)
  refine L_yes rfl rfl rfl rfl (X_p (p_neq rfl rfl rfl) ?_)
  refine Lp rfl (p_pick_f rfl rfl rfl rfl) ?_
  refine L_then (kp [2, 3, 8, 10, 11, 16, 19, 153] rfl) ?_
  refine V_cond_f rfl (decide_eq_false (by omega)) ?_
  refine V_skip (then_n ?_)
  refine V_seq ?_
  refine Vs rfl ?_
  refine La rfl rfl rfl ?_
  refine L_then (kp [2, 3, 8, 10, 11, 16, 19, 20] rfl) ?_
  refine V_block ?_
  refine V_loop0 (γ := Int) (kp [2, 3, 8, 10, 11, 16, 19] rfl) (fun k => [(20, .int .i64 k)]) (fun k => 0 ≤ k ∧ k ≤ n + 1) (fun k => (n + 1 - k).toNat) (0) (.cons rfl (.nil _)) (⟨by omega, by omega⟩) ?_
  rintro k hi
  obtain ⟨hk0, hk1⟩ := hi
  refine V_seq ?_
  refine Vs rfl ?_
  iterate 2 refine Lm rfl rfl rfl ?_
  refine Lp rfl (p_len isl40 rfl rfl) ?_
  refine Lp rfl (p_lss rfl rfl rfl) ?_
  refine L_then (kp [2, 3, 8, 10, 11, 16, 19, 20, 157] rfl) ?_
  refine V_cond rfl ?_ ?_
  ·intro c4; try simp only [td] at c4
   refine V_skip (then_n ?_)
   refine V_seq ?_
   refine V_block ?_
   refine V_seq (V_draw (.rd 0 (.rd 1 (.rd 2 (.rd 3 (.rd 4 (.rd 5 (.rd 6 (.rd 7 (.wr 8 [6, 5, 4, 3, 2, 1, 0] (.rd 9 .done)))))))))) mixed (by kernel_rfl) rfl ?_)
   iterate 2 refine Dm rfl rfl rfl rfl ?_
   refine Dp rfl rfl (p_idxo es40 rfl rfl rfl (by omega) (by omega)) ?_
   refine Dr rfl rfl (r_loadA (vs := St.cells (Fl.trnS (Fl.stT v d l k.toNat))) ag54 sz54 rfl rfl (by repeat first | exact mH | apply mT | apply List.mem_append_right) (row_st (f := (fun j => Fl.trnS (Fl.stT v d l j))) (k := k.toNat) hcur2 rfl (by omega))) ?_
   iterate 2 refine Dm rfl rfl rfl rfl ?_
   refine Dp rfl rfl (p_idxo es40 rfl rfl rfl (by omega) (by omega)) ?_
   refine Dr rfl rfl (r_loadA (vs := St.cells (Fl.stT v d l k.toNat)) ag54 sz54 rfl rfl (by repeat first | exact mH | apply mT | apply List.mem_append_right) (row_st (f := (Fl.stT v d l)) (k := k.toNat) hcur1 rfl (by omega))) ?_
   refine D_wr (.go (E' := [(3, _)]) rfl (.plain rfl) (w_callP rfl rfl rfl (fun w hg => lturned_c (Fl.stT v d l k.toNat) (hfar k.toNat (by omega)) w)) rfl ?_)
   rintro _ _ ⟨rfl, rfl⟩
   refine ⟨(.cons rfl (.plain rfl) (r_loadA (vs := St.cells (Fl.trnS (Fl.stT v d l k.toNat))) ag54 sz54 rfl rfl (by repeat first | exact mH | apply mT | apply List.mem_append_right) (row_st (f := (fun j => Fl.trnS (Fl.stT v d l j))) (k := k.toNat) hcur2 rfl (by omega))) .nil), ?_⟩
   refine Dp rfl rfl (p_neS lv54 ag54 eg54 rfl rfl rfl rfl rfl) ?_
   refine D_then (kp [2, 3, 8, 10, 11, 16, 19, 20, 169] rfl) ?_
   refine V_cond_f rfl (st_ne (Fl.trnS (Fl.stT v d l k.toNat))) ?_
   refine V_skip (blk_n (then_n ?_))
   refine V_region rfl ?_
   refine Lm rfl rfl rfl ?_
   first | refine Lp rfl (p_add' rfl rfl rfl (by unfold InI; omega)) ?_ | refine Lp rfl (p_add rfl rfl rfl) ?_
   refine La rfl rfl rfl ?_
   refine L_keep (kp [2, 3, 8, 10, 11, 16, 19, 20] rfl) (then_n ?_)
   refine ⟨k + 1, ?_, ?_, (.cons rfl (.cons rfl (.cons rfl (.cons rfl (.cons rfl (.cons rfl (.cons rfl (.cons rfl (.nil _))))))))), (by repeat (first | exact List.nil_sublist _ | exact List.Sublist.refl _ | apply List.Sublist.cons_cons | apply List.Sublist.cons | apply List.sublist_append_of_sublist_right)), rfl⟩
   ·exact ⟨by omega, by omega⟩
   omega
  intro c4; try simp only [td] at c4
  refine V_exit (then_e (then_e (blk_e rfl (then_n ?_))))
  refine Vs rfl ?_
  refine Lr rfl (rlA (vs := [_, _, _, _, _, _]) ag28 sz28 rfl rfl rfl) ?_
  refine Lp rfl (p_fieldo fo39_0 rfl rfl) ?_
  refine Lr rfl (rlA (vs := [_, _, _]) ag30 sz30 rfl rfl rfl) ?_
  refine Lp rfl (p_fieldo fo39_1 rfl rfl) ?_
  refine Lr rfl (rl ag37 rfl rfl rfl) ?_
  refine Lw rfl (w_callG (pre := [_, _, _, _]) rfl rfl rfl rfl (fun w hg => fImpacts_c v d l _ _ _ _ w (hv.good hg) (hL.good hg))) ?_
  rintro _ _ ⟨_, G3, rfl, hfr3, rfl, sv3, rfl, hgr3⟩
  obtain ⟨sa3, sc3, rfl⟩ := Grow.form hgr3
  try simp only [List.cons_append, List.nil_append, List.append_nil]
  refine Lm rfl rfl rfl ?_
  iterate 2 refine Lp rfl (p_ext rfl rfl rfl) ?_
  iterate 2 refine La rfl rfl rfl ?_
  refine L_then (kp [7, 10, 11, 16, 21] rfl) ?_
  refine Vs rfl ?_
  refine Lr rfl (rlA (vs := [_, _, _, _, _, _]) ag28 sz28 rfl rfl rfl) ?_
  refine Lr rfl (rlA (vs := [_, _, _]) ag30 sz30 rfl rfl rfl) ?_
  refine Lm rfl rfl rfl ?_
  refine Lw rfl (w_callG (pre := [_, _, _, _]) rfl rfl rfl rfl (fun w hg => fImpacts_c (trnV v) (trnD d) (l.map trnB) _ _ _ _ w (trn_R (hv.good hg) hgp ekp hgq ekq (fun p hp => hg.own p (by repeat first | exact hp | exact List.mem_append_left _ hp | apply List.mem_append_right | apply mT)) (fun p hp => hg.own p (by repeat first | exact hp | exact List.mem_append_left _ hp | apply List.mem_append_right | apply mT))) (trn_B (hL.good hg) hgb ekb (fun p hp => hg.own p (by repeat first | exact hp | exact List.mem_append_left _ hp | apply List.mem_append_right | apply mT))))) ?_
  rintro _ _ ⟨_, G4, rfl, hfr4, rfl, sv4, rfl, hgr4⟩
  rw [hit.2, List.length_map] at hgr4
  obtain ⟨sa4, sc4, rfl⟩ := Grow.form hgr4
  try simp only [List.cons_append, List.nil_append, List.append_nil]
  refine Lm rfl rfl rfl ?_
  iterate 2 refine Lp rfl (p_ext rfl rfl rfl) ?_
  iterate 2 refine La rfl rfl rfl ?_
  refine L_then (kp [7, 9, 21, 22] rfl) ?_
  refine V_seq ?_
  refine Vs rfl ?_
  iterate 2 refine Lm rfl rfl rfl ?_
  refine Lp rfl (p_neq rfl rfl rfl) ?_
  refine Lm rfl rfl rfl ?_
  refine L_yes rfl rfl rfl (decide_eq_false (fun q => q hit.1.symm)) (X_p (p_move rfl rfl) ?_)
  refine L_yes rfl rfl rfl (decide_eq_false (fun q => q hit.1.symm)) (X_p (p_len isl56 rfl rfl) ?_)
  refine L_yes rfl rfl rfl (decide_eq_false (fun q => q hit.1.symm)) (X_p (p_move rfl rfl) ?_)
  refine L_yes rfl rfl rfl (decide_eq_false (fun q => q hit.1.symm)) (X_p (p_len isl56 rfl rfl) ?_)
  refine L_yes rfl rfl rfl (decide_eq_false (fun q => q hit.1.symm)) (X_p (p_neq rfl rfl rfl) ?_)
  refine Lp rfl (p_pick_f rfl rfl (decide_eq_false (fun q => q hit.1.symm)) rfl) ?_
  refine L_then (kp [21, 22, 195] rfl) ?_
  refine V_cond_f rfl (decide_eq_false (by omega)) ?_
  refine V_skip (then_n ?_)
  refine V_seq ?_
  refine Vs rfl ?_
  refine La rfl rfl rfl ?_
  refine L_then (kp [21, 22, 23] rfl) ?_
  refine V_block ?_
  refine V_loop0 (γ := Int) (kp [21, 22] rfl) (fun k => [(23, .int .i64 k)]) (fun k => 0 ≤ k ∧ k ≤ (impsL v d l).length) (fun k => ((impsL v d l).length - k).toNat) (0) (.cons rfl (.nil _)) (⟨by omega, by omega⟩) ?_
  rintro k hi
  obtain ⟨hk0, hk1⟩ := hi
  refine V_seq ?_
  refine Vs rfl ?_
  iterate 2 refine Lm rfl rfl rfl ?_
  refine Lp rfl (p_len isl56 rfl rfl) ?_
  refine Lp rfl (p_lss rfl rfl rfl) ?_
  refine L_then (kp [21, 22, 23, 199] rfl) ?_
  refine V_cond rfl ?_ ?_
  ·intro c5; try simp only [td] at c5
   have hib := imps_bnd (v := v) (d := d) (l := l) k.toNat (by omega)
   obtain ⟨gb3, cur3, rfl, rfl, hcur3, _, _⟩ := Grow.form2 hgr3 (by omega)
   obtain ⟨gb4, cur4, rfl, rfl, hcur4, _, _⟩ := Grow.form2 hgr4 (by omega)
   refine V_skip (then_n ?_)
   refine V_seq ?_
   refine V_block ?_
   refine Vs rfl ?_
   iterate 2 refine Lm rfl rfl rfl ?_
   refine Lp rfl (p_idxo es56 rfl rfl rfl (by omega) (by omega)) ?_
   refine Lr rfl (r_loadA (vs := Imp.cells ((impsL v d l).getD k.toNat imZ)) ag62 sz62 rfl rfl (by repeat first | exact mH | apply mT | apply List.mem_append_right) (im_row (l := (impsL v d l)) (k := k.toNat) hcur3 (by first | rfl | simp) (by first | omega | (rw [List.length_map]; omega)) rfl)) ?_
   refine Lw rfl (w_alloc zr62 rfl) ?_
   rintro _ _ ⟨b9, hb9, rfl, rfl⟩
   refine Ls (cs' := [_, _, _, _, _, _, _]) rfl sz62 rfl rfl rfl rfl rfl rfl rfl ?_
   refine L_then (kp [21, 22, 23, 24] rfl) ?_
   refine V_seq (V_draw (.rd 0 (.rd 1 (.rd 2 (.rd 4 (.rd 5 (.rd 6 (.wr 3 [6, 5, 4, 1, 0] (.rd 7 (.rd 8 (.wr 9 [] .done)))))))))) mixed (by kernel_rfl) rfl ?_)
   refine Dp rfl rfl (p_fieldo fo62_1 rfl rfl) ?_
   refine Dp rfl rfl (p_fieldo fo60_1 rfl rfl) ?_
   refine Dr rfl rfl (rlA (vs := [_, _]) ag23 sz23 rfl rfl rfl) ?_
   refine Dp rfl rfl (p_fieldo fo62_1 rfl rfl) ?_
   refine Dp rfl rfl (p_fieldo fo60_0 rfl rfl) ?_
   refine Dr rfl rfl (rlA (vs := [_, _]) ag23 sz23 rfl rfl rfl) ?_
   refine D_wr (.go (E' := [(6, _)]) rfl (.plain rfl) (w_callP rfl rfl rfl (fun w hg => lminus_c ((impsL v d l).getD k.toNat imZ).y hib.2 w)) rfl ?_)
   rintro _ _ ⟨rfl, rfl⟩
   refine ⟨(.cons rfl (.plain rfl) (rlA (vs := [_, _]) ag23 sz23 rfl rfl rfl) .nil), ?_⟩
   refine Dp rfl rfl (p_build (r := [_, _, _, _]) pl60 zr60 rfl rfl rfl) ?_
   refine Dp rfl rfl (p_fieldo fo62_1 rfl rfl) ?_
   refine D_wr (.go (E' := []) rfl (.plain rfl) (ws (cs' := [_, _, _, _, _, _, _]) sz60 rfl rfl rfl rfl rfl rfl rfl) rfl ?_)
   rintro _ _ ⟨rfl, rfl⟩
   refine ⟨.nil, ?_⟩
   refine D_then (kp [21, 22, 23, 24] rfl) ?_
   refine V_seq (V_draw (.rd 0 (.rd 1 (.rd 2 (.rd 3 (.rd 4 (.rd 5 .done)))))) mixed (by kernel_rfl) rfl ?_)
   iterate 2 refine Dm rfl rfl rfl rfl ?_
   refine Dp rfl rfl (p_idxo es56 rfl rfl rfl (by omega) (by omega)) ?_
   refine Dr rfl rfl (r_loadA (vs := Imp.cells (Fl.trnI ((impsL v d l).getD k.toNat imZ))) ag62 sz62 rfl rfl (by repeat first | exact mH | apply mT | apply List.mem_append_right) (im_row (l := ((impsL v d l).map Fl.trnI)) (k := k.toNat) hcur4 (by first | rfl | simp) (by first | omega | (rw [List.length_map]; omega)) (getD_map Fl.trnI imZ imZ (impsL v d l) (by omega)))) ?_
   refine Dr rfl rfl (rlA (vs := [_, _, _, _, _, _, _]) ag62 sz62 rfl rfl rfl) ?_
   refine Dp rfl rfl (p_neS lv62 ag62 eg62 rfl rfl rfl rfl rfl) ?_
   refine D_then (kp [21, 22, 23, 220] rfl) ?_
   refine V_cond_f rfl (im_ne (Fl.trnI ((impsL v d l).getD k.toNat imZ))) ?_
   refine V_skip (blk_n (then_n ?_))
   refine V_region rfl ?_
   refine Lm rfl rfl rfl ?_
   first | refine Lp rfl (p_add' rfl rfl rfl (by unfold InI; omega)) ?_ | refine Lp rfl (p_add rfl rfl rfl) ?_
   refine La rfl rfl rfl ?_
   refine L_keep (kp [21, 22, 23] rfl) (then_n ?_)
   refine ⟨k + 1, ?_, ?_, (.cons rfl (.cons rfl (.cons rfl (.nil _)))), (by repeat (first | exact List.nil_sublist _ | exact List.Sublist.refl _ | apply List.Sublist.cons_cons | apply List.Sublist.cons | apply List.sublist_append_of_sublist_right)), rfl⟩
   ·exact ⟨by omega, by omega⟩
   omega
  intro c5; try simp only [td] at c5
  refine V_exit (then_e (then_e (blk_e rfl (then_n ?_))))
  refine Vs rfl ?_
  refine Lc rfl rfl rfl rfl (fun w hg => lAwake_c w) ?_
  refine La rfl rfl rfl ?_
  refine L_then (kp [4] rfl) ?_
  refine V_ret ?_
  refine Leave.nil (.tmp rfl .nil) ?_
  rfl
 refine (.go (E' := [(10, _), (7, _), (3, _), (0, _)]) rfl (.plain rfl) (w_alloc zr30 rfl) rfl ?_)
 rintro _ _ ⟨b4, hb4, rfl, rfl⟩
 refine ⟨(.cons rfl (.plain rfl) (rl ag3 rfl rfl rfl) (.cons rfl (.plain rfl) (rl ag3 rfl rfl rfl) (.cons rfl (.plain rfl) (rl ag3 rfl rfl rfl) (.cons rfl (.plain rfl) (rlA (vs := [_, _, _, _, _, _]) ag28 sz28 rfl rfl rfl) .nil)))), ?_⟩
 refine D_wr (.go (E' := [(10, _), (7, _), (3, _), (0, _)]) rfl (.plain rfl) (w_alloc zr28 rfl) rfl ?_)
 rintro _ _ ⟨b5, hb5, rfl, rfl⟩
 refine ⟨(.cons rfl (.plain rfl) (rl ag3 rfl rfl rfl) (.cons rfl (.plain rfl) (rl ag3 rfl rfl rfl) (.cons rfl (.plain rfl) (rl ag3 rfl rfl rfl) (.cons rfl (.plain rfl) (rlA (vs := [_, _, _, _, _, _]) ag28 sz28 rfl rfl rfl) .nil)))), ?_⟩
 refine D_wr (.go (E' := [(10, _), (7, _), (3, _)]) rfl (.plain rfl) (ws (cs' := [_, _, _, _, _, _]) sz28 rfl rfl rfl rfl rfl rfl rfl) rfl ?_)
 rintro _ _ ⟨rfl, rfl⟩
 refine ⟨(.cons rfl (.plain rfl) (rl ag3 rfl rfl rfl) (.cons rfl (.plain rfl) (rl ag3 rfl rfl rfl) (.cons rfl (.plain rfl) (rl ag3 rfl rfl rfl) .nil))), ?_⟩
 refine D_wr (.go (E' := []) rfl (.plain rfl) (ws (cs' := [_, _, _]) sz30 rfl rfl rfl rfl rfl rfl rfl) rfl ?_)
 rintro _ _ ⟨rfl, rfl⟩
 refine ⟨.nil, ?_⟩
 refine D_then (kp [2, 3, 8, 10, 11] rfl) ?_
 refine Vs rfl ?_
 refine Lp rfl (p_fieldo fo28_3 rfl rfl) ?_
 refine Ls (cs' := [_, _, _, _, _, _]) rfl sz25 rfl rfl rfl rfl rfl rfl rfl ?_
 refine Lp rfl (p_fieldo fo28_4 rfl rfl) ?_
 refine Ls (cs' := [_, _, _, _, _, _]) rfl sz26 rfl rfl rfl rfl rfl rfl rfl ?_
 refine L_then (kp [2, 3, 8, 10, 11] rfl) ?_
 refine V_seq ?_
 refine Vs rfl ?_
 refine La rfl rfl rfl ?_
 refine L_then (kp [2, 3, 8, 10, 11, 12] rfl) ?_
 refine V_block ?_
 refine V_loop1 (γ := Int × Value × Heap) (kp [2, 3, 8, 10, 11] rfl) (fun (ka, svp, GP) => [(12, .int .i64 ka)]) (fun (ka, svp, GP) => (b5, .cells #[.string v.name, .int .i64 v.gravity.lo, .int .i64 v.gravity.hi, .slice aa v.air.length ac, svp, .slice none 0 0] 28) :: (b4, .cells #[.int .i64 (-d.y), .int .i64 d.x, .int .i64 d.z] 30) :: (b2, .cells #[.int .i64 d.x, .int .i64 d.y, .int .i64 d.z, .slice ba l.length bc, .int .i64 n, .int .i64 m] 39) :: (b1, .cells #[.string v.name, .int .i64 v.gravity.lo, .int .i64 v.gravity.hi, .slice aa v.air.length ac, .slice pa v.phases.length pc, .slice qa v.pieces.length qc] 28) :: (GP ++ [(gb1, .cells cur1 54)])) (fun (ka, svp, GP) => 0 ≤ ka ∧ ka ≤ v.phases.length ∧ Grow 46 13 svp ka.toNat (phL ((v.phases.map trnP).take ka.toNat)) GP) (fun (ka, svp, GP) => (v.phases.length - ka).toNat) ((0, .slice none 0 0, [])) (.cons rfl (.nil _)) (by repeat (first | exact List.nil_sublist _ | exact List.Sublist.refl _ | apply List.Sublist.cons_cons | apply List.Sublist.cons)) (⟨by omega, by omega, .nil⟩) ?_
 rintro ⟨ka, svp, GP⟩ hi
 obtain ⟨hk0, hk1, hgp⟩ := hi
 dsimp only at hk0 hk1 hgp ⊢
 obtain ⟨hgpa, hgpc, rfl⟩ := Grow.form hgp
 refine V_seq ?_
 refine Vs rfl ?_
 refine Lm rfl rfl rfl ?_
 refine Lp rfl (p_fieldo fo28_3 rfl rfl) ?_
 refine Lr rfl (rl ag25 rfl rfl rfl) ?_
 refine Lp rfl (p_len isl25 rfl rfl) ?_
 refine Lp rfl (p_lss rfl rfl rfl) ?_
 refine L_then (kp [2, 3, 8, 10, 11, 12, 73] rfl) ?_
 refine V_cond rfl ?_ ?_
 ·intro c6; try simp only [td] at c6
  obtain ⟨tb, etb, hc⟩ := hpe ka.toNat _ (getD_cells (d := phZ) (by omega))
  subst etb
  have hpk := (ph_zero (hGV.ph ka.toNat (by omega))).2
  simp only [Veh.ph] at hpk
  refine V_skip (then_n ?_)
  refine V_seq ?_
  refine V_block ?_
  refine Vs rfl ?_
  refine Lp rfl (p_fieldo fo28_3 rfl rfl) ?_
  refine Lr rfl (rl ag25 rfl rfl rfl) ?_
  refine Lm rfl rfl rfl ?_
  refine Lp rfl (p_idx es25 rfl rfl rfl (by omega) (by omega)) ?_
  refine Lr rfl (r_loadBA ag46 sz46 rfl rfl hc rfl List.not_mem_nil) ?_
  refine Lw rfl (w_alloc zr46 rfl) ?_
  rintro _ _ ⟨b6, hb6, rfl, rfl⟩
  refine Ls (cs' := [_, _, _, _, _, _, _, _, _, _, _, _, _]) rfl sz46 rfl rfl rfl rfl rfl rfl rfl ?_
  refine L_then (kp [2, 3, 8, 10, 11, 12, 13] rfl) ?_
  refine Vs rfl ?_
  refine Lp rfl (p_fieldo fo46_4 rfl rfl) ?_
  refine Lr rfl (rlA (vs := [_, _, _, _, _, _]) ag44 sz44 rfl rfl rfl) ?_
  refine Lc rfl rfl rfl rfl (fun w hg => lround_c (v.phases.getD ka.toNat phZ).tilt (by have h1 := hpk.ty; obtain ⟨a, b, c⟩ := h1; exact ⟨by omega, by omega, by omega⟩) w) ?_
  refine Lp rfl (p_fieldo fo46_4 rfl rfl) ?_
  refine Ls (cs' := [_, _, _, _, _, _, _, _, _, _, _, _, _]) rfl sz44 rfl rfl rfl rfl rfl rfl rfl ?_
  refine L_then (kp [2, 3, 8, 10, 11, 12, 13] rfl) ?_
  refine V_region rfl ?_
  refine Lp rfl (p_fieldo fo28_3 rfl rfl) ?_
  refine Lr rfl (rl ag25 rfl rfl rfl) ?_
  refine Lr rfl (rlA (vs := [_, _, _, _, _, _, _, _, _, _, _, _, _]) ag46 sz46 rfl rfl rfl) ?_
  refine Lw rfl (w_slice (r := [_, _, _, _, _, _, _, _, _, _, _, _, _]) un25 sz46 zr46 rfl (by decide) rfl (by decide) rfl rfl) ?_
  rintro _ _ ⟨b7, hb7, rfl, rfl⟩
  refine Lw rfl (w_app (pre := [_, _, _, _, _, _]) (G := GP) ap25 rfl rfl rfl hgp rfl rfl (news_own (by repeat first | exact mH | apply mT | apply List.mem_append_right)) (by intro u hu; simp only [Phase.cells, Piece.cells, Band.cells, List.cons_append, List.nil_append, List.mem_cons, List.not_mem_nil, or_false] at hu; rcases hu with rfl | rfl | rfl | rfl | rfl | rfl | rfl | rfl | rfl | rfl | rfl | rfl | rfl <;> rfl) (by omega) (by simp only [maxLen]; omega)) ?_
  rintro _ _ ⟨GP2a, GP2c, GP2, rfl, rfl, hgp2⟩
  try simp only [List.cons_append, List.nil_append, List.append_nil]
  refine Lp rfl (p_fieldo fo28_3 rfl rfl) ?_
  refine Ls (cs' := [_, _, _, _, _, _]) rfl sz25 rfl rfl rfl rfl rfl rfl rfl ?_
  refine L_keep (kp [2, 3, 8, 10, 11, 12] rfl) (blk_n (then_n ?_))
  refine V_region rfl ?_
  refine Lm rfl rfl rfl ?_
  first | refine Lp rfl (p_add' rfl rfl rfl (by unfold InI; omega)) ?_ | refine Lp rfl (p_add rfl rfl rfl) ?_
  refine La rfl rfl rfl ?_
  refine L_keep (kp [2, 3, 8, 10, 11, 12] rfl) (then_n ?_)
  refine ⟨(ka + 1, _, GP2), ?_, ?_, (.cons rfl (.cons rfl (.cons rfl (.cons rfl (.cons rfl (.cons rfl (.nil _))))))), (by repeat (first | exact List.nil_sublist _ | exact List.Sublist.refl _ | apply List.Sublist.cons_cons | apply List.Sublist.cons | apply List.sublist_append_of_sublist_right)), rfl⟩
  ·have ek : (ka + 1).toNat = ka.toNat + 1 := by omega
   refine ⟨by omega, by omega, ?_⟩
   have ex : (v.phases.map trnP).getD ka.toNat phZ = trnP (v.phases.getD ka.toNat phZ) := getD_map trnP phZ phZ v.phases (by omega)
   rw [ek, take_succ_getD phZ (v.phases.map trnP) (by rw [List.length_map]; omega), phL_s, ex]; exact hgp2
  dsimp only; omega
 intro c6; try simp only [td] at c6
 have ekp : ka.toNat = v.phases.length := by omega
 rw [List.take_of_length_le (by rw [List.length_map]; omega)] at hgp
 refine V_exit (then_e (then_e (blk_e rfl (then_n ?_))))
 refine V_seq ?_
 refine Vs rfl ?_
 refine La rfl rfl rfl ?_
 refine L_then (kp [2, 3, 8, 10, 11, 14] rfl) ?_
 refine V_block ?_
 refine V_loop1 (γ := Int × Value × Heap) (kp [2, 3, 8, 10, 11] rfl) (fun (kq, svq, GQ) => [(14, .int .i64 kq)]) (fun (kq, svq, GQ) => (b5, .cells #[.string v.name, .int .i64 v.gravity.lo, .int .i64 v.gravity.hi, .slice aa v.air.length ac, .slice hgpa ka.toNat hgpc, svq] 28) :: (b4, .cells #[.int .i64 (-d.y), .int .i64 d.x, .int .i64 d.z] 30) :: (b2, .cells #[.int .i64 d.x, .int .i64 d.y, .int .i64 d.z, .slice ba l.length bc, .int .i64 n, .int .i64 m] 39) :: (b1, .cells #[.string v.name, .int .i64 v.gravity.lo, .int .i64 v.gravity.hi, .slice aa v.air.length ac, .slice pa v.phases.length pc, .slice qa v.pieces.length qc] 28) :: (GQ ++ (GP ++ [(gb1, .cells cur1 54)]))) (fun (kq, svq, GQ) => 0 ≤ kq ∧ kq ≤ v.pieces.length ∧ Grow 49 13 svq kq.toNat (pcL ((v.pieces.map trnC).take kq.toNat)) GQ) (fun (kq, svq, GQ) => (v.pieces.length - kq).toNat) ((0, .slice none 0 0, [])) (.cons rfl (.nil _)) (by repeat (first | exact List.nil_sublist _ | exact List.Sublist.refl _ | apply List.Sublist.cons_cons | apply List.Sublist.cons)) (⟨by omega, by omega, .nil⟩) ?_
 rintro ⟨kq, svq, GQ⟩ hi
 obtain ⟨hk0, hk1, hgq⟩ := hi
 dsimp only at hk0 hk1 hgq ⊢
 obtain ⟨hgqa, hgqc, rfl⟩ := Grow.form hgq
 refine V_seq ?_
 refine Vs rfl ?_
 refine Lm rfl rfl rfl ?_
 refine Lp rfl (p_fieldo fo28_4 rfl rfl) ?_
 refine Lr rfl (rl ag26 rfl rfl rfl) ?_
 refine Lp rfl (p_len isl26 rfl rfl) ?_
 refine Lp rfl (p_lss rfl rfl rfl) ?_
 refine L_then (kp [2, 3, 8, 10, 11, 14, 95] rfl) ?_
 refine V_cond rfl ?_ ?_
 ·intro c7; try simp only [td] at c7
  obtain ⟨tb, etb, hc⟩ := hqe kq.toNat _ (getD_cells (d := pcZ) (by omega))
  subst etb
  have hqk := pc_zero (hGV.pc kq.toNat (by omega))
  simp only [Veh.pc] at hqk
  refine V_skip (then_n ?_)
  refine V_seq ?_
  refine V_block ?_
  refine Vs rfl ?_
  refine Lp rfl (p_fieldo fo28_4 rfl rfl) ?_
  refine Lr rfl (rl ag26 rfl rfl rfl) ?_
  refine Lm rfl rfl rfl ?_
  refine Lp rfl (p_idx es26 rfl rfl rfl (by omega) (by omega)) ?_
  refine Lr rfl (r_loadBA ag49 sz49 rfl rfl hc rfl List.not_mem_nil) ?_
  refine Lw rfl (w_alloc zr49 rfl) ?_
  rintro _ _ ⟨b6, hb6, rfl, rfl⟩
  refine Ls (cs' := [_, _, _, _, _, _, _, _, _, _, _, _, _]) rfl sz49 rfl rfl rfl rfl rfl rfl rfl ?_
  refine L_then (kp [2, 3, 8, 10, 11, 14, 15] rfl) ?_
  refine Vs rfl ?_
  refine Lp rfl (p_fieldo fo49_4 rfl rfl) ?_
  refine Lr rfl (rlA (vs := [_, _, _, _, _, _]) ag44 sz44 rfl rfl rfl) ?_
  refine Lc rfl rfl rfl rfl (fun w hg => lround_c (v.pieces.getD kq.toNat pcZ).kick (by have h1 := hqk.kick.2.1; obtain ⟨a, b, c⟩ := h1; exact ⟨by omega, by omega, by omega⟩) w) ?_
  refine Lp rfl (p_fieldo fo49_4 rfl rfl) ?_
  refine Ls (cs' := [_, _, _, _, _, _, _, _, _, _, _, _, _]) rfl sz44 rfl rfl rfl rfl rfl rfl rfl ?_
  refine L_then (kp [2, 3, 8, 10, 11, 14, 15] rfl) ?_
  refine V_region rfl ?_
  refine Lp rfl (p_fieldo fo28_4 rfl rfl) ?_
  refine Lr rfl (rl ag26 rfl rfl rfl) ?_
  refine Lr rfl (rlA (vs := [_, _, _, _, _, _, _, _, _, _, _, _, _]) ag49 sz49 rfl rfl rfl) ?_
  refine Lw rfl (w_slice (r := [_, _, _, _, _, _, _, _, _, _, _, _, _]) un26 sz49 zr49 rfl (by decide) rfl (by decide) rfl rfl) ?_
  rintro _ _ ⟨b7, hb7, rfl, rfl⟩
  refine Lw rfl (w_app (pre := [_, _, _, _, _, _]) (G := GQ) ap26 rfl rfl rfl hgq rfl rfl (news_own (by repeat first | exact mH | apply mT | apply List.mem_append_right)) (by intro u hu; simp only [Phase.cells, Piece.cells, Band.cells, List.cons_append, List.nil_append, List.mem_cons, List.not_mem_nil, or_false] at hu; rcases hu with rfl | rfl | rfl | rfl | rfl | rfl | rfl | rfl | rfl | rfl | rfl | rfl | rfl <;> rfl) (by omega) (by simp only [maxLen]; omega)) ?_
  rintro _ _ ⟨GQ2a, GQ2c, GQ2, rfl, rfl, hgq2⟩
  try simp only [List.cons_append, List.nil_append, List.append_nil]
  refine Lp rfl (p_fieldo fo28_4 rfl rfl) ?_
  refine Ls (cs' := [_, _, _, _, _, _]) rfl sz26 rfl rfl rfl rfl rfl rfl rfl ?_
  refine L_keep (kp [2, 3, 8, 10, 11, 14] rfl) (blk_n (then_n ?_))
  refine V_region rfl ?_
  refine Lm rfl rfl rfl ?_
  first | refine Lp rfl (p_add' rfl rfl rfl (by unfold InI; omega)) ?_ | refine Lp rfl (p_add rfl rfl rfl) ?_
  refine La rfl rfl rfl ?_
  refine L_keep (kp [2, 3, 8, 10, 11, 14] rfl) (then_n ?_)
  refine ⟨(kq + 1, _, GQ2), ?_, ?_, (.cons rfl (.cons rfl (.cons rfl (.cons rfl (.cons rfl (.cons rfl (.nil _))))))), (by repeat (first | exact List.nil_sublist _ | exact List.Sublist.refl _ | apply List.Sublist.cons_cons | apply List.Sublist.cons | apply List.sublist_append_of_sublist_right)), rfl⟩
  ·have ek : (kq + 1).toNat = kq.toNat + 1 := by omega
   refine ⟨by omega, by omega, ?_⟩
   have ex : (v.pieces.map trnC).getD kq.toNat pcZ = trnC (v.pieces.getD kq.toNat pcZ) := getD_map trnC pcZ pcZ v.pieces (by omega)
   rw [ek, take_succ_getD pcZ (v.pieces.map trnC) (by rw [List.length_map]; omega), pcL_s, ex]; exact hgq2
  dsimp only; omega
 intro c7; try simp only [td] at c7
 have ekq : kq.toNat = v.pieces.length := by omega
 rw [List.take_of_length_le (by rw [List.length_map]; omega)] at hgq
 refine V_exit (then_e (then_e (blk_e rfl (then_n ?_))))
 refine Vs rfl ?_
 refine La rfl rfl rfl ?_
 refine L_then (kp [2, 3, 8, 10, 11, 16] rfl) ?_
 refine V_seq ?_
 refine Vs rfl ?_
 refine La rfl rfl rfl ?_
 refine L_then (kp [2, 3, 8, 10, 11, 16, 17] rfl) ?_
 refine V_block ?_
 refine V_loop1 (γ := Int × Value × Heap) (kp [2, 3, 8, 10, 11] rfl) (fun (kb, svb, GB) => [(17, .int .i64 kb), (16, svb)]) (fun (kb, svb, GB) => (b5, .cells #[.string v.name, .int .i64 v.gravity.lo, .int .i64 v.gravity.hi, .slice aa v.air.length ac, .slice hgpa ka.toNat hgpc, .slice hgqa kq.toNat hgqc] 28) :: (b4, .cells #[.int .i64 (-d.y), .int .i64 d.x, .int .i64 d.z] 30) :: (b2, .cells #[.int .i64 d.x, .int .i64 d.y, .int .i64 d.z, .slice ba l.length bc, .int .i64 n, .int .i64 m] 39) :: (b1, .cells #[.string v.name, .int .i64 v.gravity.lo, .int .i64 v.gravity.hi, .slice aa v.air.length ac, .slice pa v.phases.length pc, .slice qa v.pieces.length qc] 28) :: (GB ++ (GQ ++ (GP ++ [(gb1, .cells cur1 54)])))) (fun (kb, svb, GB) => 0 ≤ kb ∧ kb ≤ l.length ∧ Grow 51 6 svb kb.toNat (bdL ((l.map trnB).take kb.toNat)) GB) (fun (kb, svb, GB) => (l.length - kb).toNat) ((0, .slice none 0 0, [])) (.cons rfl (.cons rfl (.nil _))) (by repeat (first | exact List.nil_sublist _ | exact List.Sublist.refl _ | apply List.Sublist.cons_cons | apply List.Sublist.cons)) (⟨by omega, by omega, .nil⟩) ?_
 rintro ⟨kb, svb, GB⟩ hi
 obtain ⟨hk0, hk1, hgb⟩ := hi
 dsimp only at hk0 hk1 hgb ⊢
 obtain ⟨hgba, hgbc, rfl⟩ := Grow.form hgb
 refine V_seq ?_
 refine Vs rfl ?_
 refine Lm rfl rfl rfl ?_
 refine Lp rfl (p_fieldo fo39_1 rfl rfl) ?_
 refine Lr rfl (rl ag37 rfl rfl rfl) ?_
 refine Lp rfl (p_len isl37 rfl rfl) ?_
 refine Lp rfl (p_lss rfl rfl rfl) ?_
 refine L_then (kp [2, 3, 8, 10, 11, 16, 17, 117] rfl) ?_
 refine V_cond rfl ?_ ?_
 ·intro c8; try simp only [td] at c8
  obtain ⟨tb, etb, hc⟩ := hbe kb.toNat _ (getD_cells (d := bdZ) (by omega))
  subst etb
  have hbk := (bd_zero (hGB.bd kb.toNat (by omega))).2.2.2
  simp only [bdAt] at hbk
  refine V_skip (then_n ?_)
  refine V_seq ?_
  refine V_block ?_
  refine Vs rfl ?_
  refine Lp rfl (p_fieldo fo39_1 rfl rfl) ?_
  refine Lr rfl (rl ag37 rfl rfl rfl) ?_
  refine Lm rfl rfl rfl ?_
  refine Lp rfl (p_idx es37 rfl rfl rfl (by omega) (by omega)) ?_
  refine Lr rfl (r_loadBA ag51 sz51 rfl rfl hc rfl List.not_mem_nil) ?_
  refine Lw rfl (w_alloc zr51 rfl) ?_
  rintro _ _ ⟨b6, hb6, rfl, rfl⟩
  refine Ls (cs' := [_, _, _, _, _, _]) rfl sz51 rfl rfl rfl rfl rfl rfl rfl ?_
  refine L_then (kp [2, 3, 8, 10, 11, 16, 17, 18] rfl) ?_
  refine V_seq (V_draw (.rd 0 (.rd 1 (.rd 3 (.rd 4 (.wr 2 [4, 3, 0] (.rd 5 (.wr 6 [] (.rd 7 (.wr 8 [] .done))))))))) mixed (by kernel_rfl) rfl ?_)
  refine Dp rfl rfl (p_fieldo fo51_3 rfl rfl) ?_
  refine Dr rfl rfl (rlA (vs := [_, _]) ag23 sz23 rfl rfl rfl) ?_
  refine Dp rfl rfl (p_fieldo fo51_2 rfl rfl) ?_
  refine Dr rfl rfl (rlA (vs := [_, _]) ag23 sz23 rfl rfl rfl) ?_
  refine D_wr (.go (E' := [(4, _)]) rfl (.plain rfl) (w_callP rfl rfl rfl (fun w hg => lminus_c (l.getD kb.toNat bdZ).y (by obtain ⟨a, b, c⟩ := hbk; exact ⟨by omega, by omega, by omega⟩) w)) rfl ?_)
  rintro _ _ ⟨rfl, rfl⟩
  refine ⟨(.cons rfl (.plain rfl) (rlA (vs := [_, _]) ag23 sz23 rfl rfl rfl) .nil), ?_⟩
  refine Dp rfl rfl (p_fieldo fo51_2 rfl rfl) ?_
  refine D_wr (.go (E' := []) rfl (.plain rfl) (ws (cs' := [_, _, _, _, _, _]) sz23 rfl rfl rfl rfl rfl rfl rfl) rfl ?_)
  rintro _ _ ⟨rfl, rfl⟩
  refine ⟨.nil, ?_⟩
  refine Dp rfl rfl (p_fieldo fo51_3 rfl rfl) ?_
  refine D_wr (.go (E' := []) rfl (.plain rfl) (ws (cs' := [_, _, _, _, _, _]) sz23 rfl rfl rfl rfl rfl rfl rfl) rfl ?_)
  rintro _ _ ⟨rfl, rfl⟩
  refine ⟨.nil, ?_⟩
  refine D_then (kp [2, 3, 8, 10, 11, 16, 17, 18] rfl) ?_
  refine V_region rfl ?_
  refine Lm rfl rfl rfl ?_
  refine Lr rfl (rlA (vs := [_, _, _, _, _, _]) ag51 sz51 rfl rfl rfl) ?_
  refine Lw rfl (w_slice (r := [_, _, _, _, _, _]) un37 sz51 zr51 rfl (by decide) rfl (by decide) rfl rfl) ?_
  rintro _ _ ⟨b7, hb7, rfl, rfl⟩
  refine Lw rfl (w_app (pre := [_, _, _, _, _, _]) (G := GB) ap37 rfl rfl rfl hgb rfl rfl (news_own (by repeat first | exact mH | apply mT | apply List.mem_append_right)) (by intro u hu; simp only [Phase.cells, Piece.cells, Band.cells, List.cons_append, List.nil_append, List.mem_cons, List.not_mem_nil, or_false] at hu; rcases hu with rfl | rfl | rfl | rfl | rfl | rfl <;> rfl) (by omega) (by simp only [maxLen]; omega)) ?_
  rintro _ _ ⟨GB2a, GB2c, GB2, rfl, rfl, hgb2⟩
  try simp only [List.cons_append, List.nil_append, List.append_nil]
  refine La rfl rfl rfl ?_
  refine L_keep (kp [2, 3, 8, 10, 11, 16, 17] rfl) (blk_n (then_n ?_))
  refine V_region rfl ?_
  refine Lm rfl rfl rfl ?_
  first | refine Lp rfl (p_add' rfl rfl rfl (by unfold InI; omega)) ?_ | refine Lp rfl (p_add rfl rfl rfl) ?_
  refine La rfl rfl rfl ?_
  refine L_keep (kp [2, 3, 8, 10, 11, 16, 17] rfl) (then_n ?_)
  refine ⟨(kb + 1, _, GB2), ?_, ?_, (.cons rfl (.cons rfl (.cons rfl (.cons rfl (.cons rfl (.cons rfl (.cons rfl (.nil _)))))))), (by repeat (first | exact List.nil_sublist _ | exact List.Sublist.refl _ | apply List.Sublist.cons_cons | apply List.Sublist.cons | apply List.sublist_append_of_sublist_right)), rfl⟩
  ·have ek : (kb + 1).toNat = kb.toNat + 1 := by omega
   refine ⟨by omega, by omega, ?_⟩
   have ex : (l.map trnB).getD kb.toNat bdZ = trnB (l.getD kb.toNat bdZ) := getD_map trnB bdZ bdZ l (by omega)
   rw [ek, take_succ_getD bdZ (l.map trnB) (by rw [List.length_map]; omega), bdL_s, ex]; exact hgb2
  dsimp only; omega
 intro c8; try simp only [td] at c8
 have ekb : kb.toNat = l.length := by omega
 rw [List.take_of_length_le (by rw [List.length_map]; omega)] at hgb
 refine V_exit (then_e (then_e (blk_e rfl (then_n ?_))))
 refine Vs rfl ?_
 refine Lr rfl (rlA (vs := [_, _, _, _, _, _]) ag28 sz28 rfl rfl rfl) ?_
 refine Lr rfl (rlA (vs := [_, _, _]) ag30 sz30 rfl rfl rfl) ?_
 refine Lm rfl rfl rfl ?_
 refine Lp rfl (p_fieldo fo39_2 rfl rfl) ?_
 refine Lr rfl (rl ag3 rfl rfl rfl) ?_
 refine Lw rfl (w_callG (pre := [_, _, _, _]) rfl rfl rfl rfl (fun w hg => gFly_c (trnV v) (trnD d) (l.map trnB) _ _ _ _ w (trn_R (hv.good hg) hgp ekp hgq ekq (fun p hp => hg.own p (by repeat first | exact hp | exact List.mem_append_left _ hp | apply List.mem_append_right | apply mT)) (fun p hp => hg.own p (by repeat first | exact hp | exact List.mem_append_left _ hp | apply List.mem_append_right | apply mT))) (trn_B (hL.good hg) hgb ekb (fun p hp => hg.own p (by repeat first | exact hp | exact List.mem_append_left _ hp | apply List.mem_append_right | apply mT))) n (trn_fly h).1)) ?_
 rintro _ _ ⟨_, G2, rfl, hfr2, rfl, sv2, rfl, hgr2⟩
 rw [hrw] at hgr2
 obtain ⟨sa2, sc2, rfl⟩ := Grow.form hgr2
 obtain ⟨gb2, cur2, rfl, rfl, hcur2, _, _⟩ := Grow.form2 hgr2 (by omega)
 try simp only [List.cons_append, List.nil_append, List.append_nil]
 refine Lm rfl rfl rfl ?_
 iterate 2 refine Lp rfl (p_ext rfl rfl rfl) ?_
 iterate 2 refine La rfl rfl rfl ?_
 refine L_then (kp [2, 3, 7, 8, 10, 11, 16, 19] rfl) ?_
 refine V_seq ?_
 refine Vs rfl ?_
 refine Lm rfl rfl rfl ?_
 refine Lp rfl (p_neq rfl rfl rfl) ?_
 refine Lm rfl rfl rfl ?_
 refine L_yes rfl rfl rfl rfl (X_p (p_move rfl rfl) ?_)
 refine L_yes rfl rfl rfl rfl (X_p (p_len isl40 rfl rfl) ?_)
 refine L_yes rfl rfl rfl rfl (X_p (p_move rfl rfl) ?_)
 refine L_yes rfl rfl rfl rfl (X_p (p_len isl40 rfl rfl) ?_)
 refine L_yes rfl rfl rfl rfl (X_p (p_neq rfl rfl rfl) ?_)
 refine Lp rfl (p_pick_f rfl rfl rfl rfl) ?_
 refine L_then (kp [2, 3, 8, 10, 11, 16, 19, 153] rfl) ?_
 refine V_cond_f rfl (decide_eq_false (by omega)) ?_
 refine V_skip (then_n ?_)
 refine V_seq ?_
 refine Vs rfl ?_
 refine La rfl rfl rfl ?_
 refine L_then (kp [2, 3, 8, 10, 11, 16, 19, 20] rfl) ?_
 refine V_block ?_
 refine V_loop0 (γ := Int) (kp [2, 3, 8, 10, 11, 16, 19] rfl) (fun k => [(20, .int .i64 k)]) (fun k => 0 ≤ k ∧ k ≤ n + 1) (fun k => (n + 1 - k).toNat) (0) (.cons rfl (.nil _)) (⟨by omega, by omega⟩) ?_
 rintro k hi
 obtain ⟨hk0, hk1⟩ := hi
 refine V_seq ?_
 refine Vs rfl ?_
 iterate 2 refine Lm rfl rfl rfl ?_
 refine Lp rfl (p_len isl40 rfl rfl) ?_
 refine Lp rfl (p_lss rfl rfl rfl) ?_
 refine L_then (kp [2, 3, 8, 10, 11, 16, 19, 20, 157] rfl) ?_
 refine V_cond rfl ?_ ?_
 ·intro c9; try simp only [td] at c9
  refine V_skip (then_n ?_)
  refine V_seq ?_
  refine V_block ?_
  refine V_seq (V_draw (.rd 0 (.rd 1 (.rd 2 (.rd 3 (.rd 4 (.rd 5 (.rd 6 (.rd 7 (.wr 8 [6, 5, 4, 3, 2, 1, 0] (.rd 9 .done)))))))))) mixed (by kernel_rfl) rfl ?_)
  iterate 2 refine Dm rfl rfl rfl rfl ?_
  refine Dp rfl rfl (p_idxo es40 rfl rfl rfl (by omega) (by omega)) ?_
  refine Dr rfl rfl (r_loadA (vs := St.cells (Fl.trnS (Fl.stT v d l k.toNat))) ag54 sz54 rfl rfl (by repeat first | exact mH | apply mT | apply List.mem_append_right) (row_st (f := (fun j => Fl.trnS (Fl.stT v d l j))) (k := k.toNat) hcur2 rfl (by omega))) ?_
  iterate 2 refine Dm rfl rfl rfl rfl ?_
  refine Dp rfl rfl (p_idxo es40 rfl rfl rfl (by omega) (by omega)) ?_
  refine Dr rfl rfl (r_loadA (vs := St.cells (Fl.stT v d l k.toNat)) ag54 sz54 rfl rfl (by repeat first | exact mH | apply mT | apply List.mem_append_right) (row_st (f := (Fl.stT v d l)) (k := k.toNat) hcur1 rfl (by omega))) ?_
  refine D_wr (.go (E' := [(3, _)]) rfl (.plain rfl) (w_callP rfl rfl rfl (fun w hg => lturned_c (Fl.stT v d l k.toNat) (hfar k.toNat (by omega)) w)) rfl ?_)
  rintro _ _ ⟨rfl, rfl⟩
  refine ⟨(.cons rfl (.plain rfl) (r_loadA (vs := St.cells (Fl.trnS (Fl.stT v d l k.toNat))) ag54 sz54 rfl rfl (by repeat first | exact mH | apply mT | apply List.mem_append_right) (row_st (f := (fun j => Fl.trnS (Fl.stT v d l j))) (k := k.toNat) hcur2 rfl (by omega))) .nil), ?_⟩
  refine Dp rfl rfl (p_neS lv54 ag54 eg54 rfl rfl rfl rfl rfl) ?_
  refine D_then (kp [2, 3, 8, 10, 11, 16, 19, 20, 169] rfl) ?_
  refine V_cond_f rfl (st_ne (Fl.trnS (Fl.stT v d l k.toNat))) ?_
  refine V_skip (blk_n (then_n ?_))
  refine V_region rfl ?_
  refine Lm rfl rfl rfl ?_
  first | refine Lp rfl (p_add' rfl rfl rfl (by unfold InI; omega)) ?_ | refine Lp rfl (p_add rfl rfl rfl) ?_
  refine La rfl rfl rfl ?_
  refine L_keep (kp [2, 3, 8, 10, 11, 16, 19, 20] rfl) (then_n ?_)
  refine ⟨k + 1, ?_, ?_, (.cons rfl (.cons rfl (.cons rfl (.cons rfl (.cons rfl (.cons rfl (.cons rfl (.cons rfl (.nil _))))))))), (by repeat (first | exact List.nil_sublist _ | exact List.Sublist.refl _ | apply List.Sublist.cons_cons | apply List.Sublist.cons | apply List.sublist_append_of_sublist_right)), rfl⟩
  ·exact ⟨by omega, by omega⟩
  omega
 intro c9; try simp only [td] at c9
 refine V_exit (then_e (then_e (blk_e rfl (then_n ?_))))
 refine Vs rfl ?_
 refine Lr rfl (rlA (vs := [_, _, _, _, _, _]) ag28 sz28 rfl rfl rfl) ?_
 refine Lp rfl (p_fieldo fo39_0 rfl rfl) ?_
 refine Lr rfl (rlA (vs := [_, _, _]) ag30 sz30 rfl rfl rfl) ?_
 refine Lp rfl (p_fieldo fo39_1 rfl rfl) ?_
 refine Lr rfl (rl ag37 rfl rfl rfl) ?_
 refine Lw rfl (w_callG (pre := [_, _, _, _]) rfl rfl rfl rfl (fun w hg => fImpacts_c v d l _ _ _ _ w (hv.good hg) (hL.good hg))) ?_
 rintro _ _ ⟨_, G3, rfl, hfr3, rfl, sv3, rfl, hgr3⟩
 obtain ⟨sa3, sc3, rfl⟩ := Grow.form hgr3
 try simp only [List.cons_append, List.nil_append, List.append_nil]
 refine Lm rfl rfl rfl ?_
 iterate 2 refine Lp rfl (p_ext rfl rfl rfl) ?_
 iterate 2 refine La rfl rfl rfl ?_
 refine L_then (kp [7, 10, 11, 16, 21] rfl) ?_
 refine Vs rfl ?_
 refine Lr rfl (rlA (vs := [_, _, _, _, _, _]) ag28 sz28 rfl rfl rfl) ?_
 refine Lr rfl (rlA (vs := [_, _, _]) ag30 sz30 rfl rfl rfl) ?_
 refine Lm rfl rfl rfl ?_
 refine Lw rfl (w_callG (pre := [_, _, _, _]) rfl rfl rfl rfl (fun w hg => fImpacts_c (trnV v) (trnD d) (l.map trnB) _ _ _ _ w (trn_R (hv.good hg) hgp ekp hgq ekq (fun p hp => hg.own p (by repeat first | exact hp | exact List.mem_append_left _ hp | apply List.mem_append_right | apply mT)) (fun p hp => hg.own p (by repeat first | exact hp | exact List.mem_append_left _ hp | apply List.mem_append_right | apply mT))) (trn_B (hL.good hg) hgb ekb (fun p hp => hg.own p (by repeat first | exact hp | exact List.mem_append_left _ hp | apply List.mem_append_right | apply mT))))) ?_
 rintro _ _ ⟨_, G4, rfl, hfr4, rfl, sv4, rfl, hgr4⟩
 rw [hit.2, List.length_map] at hgr4
 obtain ⟨sa4, sc4, rfl⟩ := Grow.form hgr4
 try simp only [List.cons_append, List.nil_append, List.append_nil]
 refine Lm rfl rfl rfl ?_
 iterate 2 refine Lp rfl (p_ext rfl rfl rfl) ?_
 iterate 2 refine La rfl rfl rfl ?_
 refine L_then (kp [7, 9, 21, 22] rfl) ?_
 refine V_seq ?_
 refine Vs rfl ?_
 iterate 2 refine Lm rfl rfl rfl ?_
 refine Lp rfl (p_neq rfl rfl rfl) ?_
 refine Lm rfl rfl rfl ?_
 refine L_yes rfl rfl rfl (decide_eq_false (fun q => q hit.1.symm)) (X_p (p_move rfl rfl) ?_)
 refine L_yes rfl rfl rfl (decide_eq_false (fun q => q hit.1.symm)) (X_p (p_len isl56 rfl rfl) ?_)
 refine L_yes rfl rfl rfl (decide_eq_false (fun q => q hit.1.symm)) (X_p (p_move rfl rfl) ?_)
 refine L_yes rfl rfl rfl (decide_eq_false (fun q => q hit.1.symm)) (X_p (p_len isl56 rfl rfl) ?_)
 refine L_yes rfl rfl rfl (decide_eq_false (fun q => q hit.1.symm)) (X_p (p_neq rfl rfl rfl) ?_)
 refine Lp rfl (p_pick_f rfl rfl (decide_eq_false (fun q => q hit.1.symm)) rfl) ?_
 refine L_then (kp [21, 22, 195] rfl) ?_
 refine V_cond_f rfl (decide_eq_false (by omega)) ?_
 refine V_skip (then_n ?_)
 refine V_seq ?_
 refine Vs rfl ?_
 refine La rfl rfl rfl ?_
 refine L_then (kp [21, 22, 23] rfl) ?_
 refine V_block ?_
 refine V_loop0 (γ := Int) (kp [21, 22] rfl) (fun k => [(23, .int .i64 k)]) (fun k => 0 ≤ k ∧ k ≤ (impsL v d l).length) (fun k => ((impsL v d l).length - k).toNat) (0) (.cons rfl (.nil _)) (⟨by omega, by omega⟩) ?_
 rintro k hi
 obtain ⟨hk0, hk1⟩ := hi
 refine V_seq ?_
 refine Vs rfl ?_
 iterate 2 refine Lm rfl rfl rfl ?_
 refine Lp rfl (p_len isl56 rfl rfl) ?_
 refine Lp rfl (p_lss rfl rfl rfl) ?_
 refine L_then (kp [21, 22, 23, 199] rfl) ?_
 refine V_cond rfl ?_ ?_
 ·intro c10; try simp only [td] at c10
  have hib := imps_bnd (v := v) (d := d) (l := l) k.toNat (by omega)
  obtain ⟨gb3, cur3, rfl, rfl, hcur3, _, _⟩ := Grow.form2 hgr3 (by omega)
  obtain ⟨gb4, cur4, rfl, rfl, hcur4, _, _⟩ := Grow.form2 hgr4 (by omega)
  refine V_skip (then_n ?_)
  refine V_seq ?_
  refine V_block ?_
  refine Vs rfl ?_
  iterate 2 refine Lm rfl rfl rfl ?_
  refine Lp rfl (p_idxo es56 rfl rfl rfl (by omega) (by omega)) ?_
  refine Lr rfl (r_loadA (vs := Imp.cells ((impsL v d l).getD k.toNat imZ)) ag62 sz62 rfl rfl (by repeat first | exact mH | apply mT | apply List.mem_append_right) (im_row (l := (impsL v d l)) (k := k.toNat) hcur3 (by first | rfl | simp) (by first | omega | (rw [List.length_map]; omega)) rfl)) ?_
  refine Lw rfl (w_alloc zr62 rfl) ?_
  rintro _ _ ⟨b9, hb9, rfl, rfl⟩
  refine Ls (cs' := [_, _, _, _, _, _, _]) rfl sz62 rfl rfl rfl rfl rfl rfl rfl ?_
  refine L_then (kp [21, 22, 23, 24] rfl) ?_
  refine V_seq (V_draw (.rd 0 (.rd 1 (.rd 2 (.rd 4 (.rd 5 (.rd 6 (.wr 3 [6, 5, 4, 1, 0] (.rd 7 (.rd 8 (.wr 9 [] .done)))))))))) mixed (by kernel_rfl) rfl ?_)
  refine Dp rfl rfl (p_fieldo fo62_1 rfl rfl) ?_
  refine Dp rfl rfl (p_fieldo fo60_1 rfl rfl) ?_
  refine Dr rfl rfl (rlA (vs := [_, _]) ag23 sz23 rfl rfl rfl) ?_
  refine Dp rfl rfl (p_fieldo fo62_1 rfl rfl) ?_
  refine Dp rfl rfl (p_fieldo fo60_0 rfl rfl) ?_
  refine Dr rfl rfl (rlA (vs := [_, _]) ag23 sz23 rfl rfl rfl) ?_
  refine D_wr (.go (E' := [(6, _)]) rfl (.plain rfl) (w_callP rfl rfl rfl (fun w hg => lminus_c ((impsL v d l).getD k.toNat imZ).y hib.2 w)) rfl ?_)
  rintro _ _ ⟨rfl, rfl⟩
  refine ⟨(.cons rfl (.plain rfl) (rlA (vs := [_, _]) ag23 sz23 rfl rfl rfl) .nil), ?_⟩
  refine Dp rfl rfl (p_build (r := [_, _, _, _]) pl60 zr60 rfl rfl rfl) ?_
  refine Dp rfl rfl (p_fieldo fo62_1 rfl rfl) ?_
  refine D_wr (.go (E' := []) rfl (.plain rfl) (ws (cs' := [_, _, _, _, _, _, _]) sz60 rfl rfl rfl rfl rfl rfl rfl) rfl ?_)
  rintro _ _ ⟨rfl, rfl⟩
  refine ⟨.nil, ?_⟩
  refine D_then (kp [21, 22, 23, 24] rfl) ?_
  refine V_seq (V_draw (.rd 0 (.rd 1 (.rd 2 (.rd 3 (.rd 4 (.rd 5 .done)))))) mixed (by kernel_rfl) rfl ?_)
  iterate 2 refine Dm rfl rfl rfl rfl ?_
  refine Dp rfl rfl (p_idxo es56 rfl rfl rfl (by omega) (by omega)) ?_
  refine Dr rfl rfl (r_loadA (vs := Imp.cells (Fl.trnI ((impsL v d l).getD k.toNat imZ))) ag62 sz62 rfl rfl (by repeat first | exact mH | apply mT | apply List.mem_append_right) (im_row (l := ((impsL v d l).map Fl.trnI)) (k := k.toNat) hcur4 (by first | rfl | simp) (by first | omega | (rw [List.length_map]; omega)) (getD_map Fl.trnI imZ imZ (impsL v d l) (by omega)))) ?_
  refine Dr rfl rfl (rlA (vs := [_, _, _, _, _, _, _]) ag62 sz62 rfl rfl rfl) ?_
  refine Dp rfl rfl (p_neS lv62 ag62 eg62 rfl rfl rfl rfl rfl) ?_
  refine D_then (kp [21, 22, 23, 220] rfl) ?_
  refine V_cond_f rfl (im_ne (Fl.trnI ((impsL v d l).getD k.toNat imZ))) ?_
  refine V_skip (blk_n (then_n ?_))
  refine V_region rfl ?_
  refine Lm rfl rfl rfl ?_
  first | refine Lp rfl (p_add' rfl rfl rfl (by unfold InI; omega)) ?_ | refine Lp rfl (p_add rfl rfl rfl) ?_
  refine La rfl rfl rfl ?_
  refine L_keep (kp [21, 22, 23] rfl) (then_n ?_)
  refine ⟨k + 1, ?_, ?_, (.cons rfl (.cons rfl (.cons rfl (.nil _)))), (by repeat (first | exact List.nil_sublist _ | exact List.Sublist.refl _ | apply List.Sublist.cons_cons | apply List.Sublist.cons | apply List.sublist_append_of_sublist_right)), rfl⟩
  ·exact ⟨by omega, by omega⟩
  omega
 intro c10; try simp only [td] at c10
 refine V_exit (then_e (then_e (blk_e rfl (then_n ?_))))
 refine Vs rfl ?_
 refine Lc rfl rfl rfl rfl (fun w hg => lAwake_c w) ?_
 refine La rfl rfl rfl ?_
 refine L_then (kp [4] rfl) ?_
 refine V_ret ?_
 refine Leave.nil (.tmp rfl .nil) ?_
 rfl
theorem flightTurned_c (v : Veh) (d : Dir) (l : List Fl.Band) (av pv qv bv : Value) (n m : Int) (w : World) (hv : VehR w (VehV v av pv qv) v) (hl : BdsR w bv l) : FnP Try.prog 4 [VehV v av pv qv, .agg #[.int .i64 d.x, .int .i64 d.y, .int .i64 d.z, bv, .int .i64 n, .int .i64 m]] w (.bool true) := by
 by_cases h : flyE v d l n = 0
 ·exact flightTurnedO v d l av pv qv bv n m w hv hl h
 exact flightTurnedE v d l av pv qv bv n m w hv hl h

theorem own_ : ownKnob Try.prog.godebug = none := by kernel_rfl

theorem flightTurned_lifted (os : Os) (started : os.Started) (H : Type) (enc : TypeId × Value → H) :
  ReturnsInHanded {} Try.checked os 4 .any (Rows.flightTurnedSpec.pre6 enc Try.prog Try.f4 Rows.flightTurnedRow.domain false) (Rows.flightTurnedSpec.post enc Try.prog Try.f4 false true false false) := by
 refine returnsInHanded_of_change (C := Try.checked) own_ started (by kernel_rfl) Try.func4
  (ChangeSpec.witness6 (enc := enc) (C := Try.checked) false ⟨#[], #[.agg #[.string ByteArray.empty, .int .i64 0, .int .i64 0, .slice none 0 0, .slice none 0 0, .slice none 0 0], .agg #[.int .i64 0, .int .i64 0, .int .i64 0, .slice none 0 0, .int .i64 0, .int .i64 0]], []⟩ 8 (by kernel_rfl) (by kernel_rfl) (by kernel_rfl) (by kernel_rfl)) ?_
 intro W base args ds gs before hval0 hW hcnd _
 have hval : ∀ (j : Nat) t v, Try.f4.params[j]? = some t → args[j]? = some v → Value.okWide Try.prog W .any base t v := hval0
 have hW' := hW
 obtain ⟨pA, pB, hA0, hV, rfl, _, _⟩ := hW
 have hA : DataW.TrodAll enc Try.prog W 0 (fun _ => true) true Try.f4.params.toList args.toList ds pA := hA0
 clear hA0 hval0
 rw [Try.params4] at hA hval
 obtain ⟨rfl, rfl⟩ := trodVars_none hV
 obtain ⟨v0, vs0, d0, ds0, p0, q0, ea0, rfl, rfl, h0, hA0⟩ := trodAll_cons hA
 obtain ⟨v1, vs1, d1, ds1, p1, q1, ea1, rfl, rfl, h1, hA1⟩ := trodAll_cons hA0
 obtain ⟨rfl, rfl, rfl⟩ := trodAll_nil hA1
 subst ea1
 have ea : args = #[v0, v1] := Array.toList_inj.1 ea0
 subst ea
 have k0 := hval 0 _ v0 rfl rfl
 have k1 := hval 1 _ v1 rfl rfl
 obtain ⟨v, hv⟩ := open_veh (P := Try.prog) (by kernel_rfl) k0 h0
 obtain ⟨av, pv, qv, rfl, _⟩ := hv.ex
 obtain ⟨x0, x1, x2, l, lv, n, m, rfl, _, hl⟩ := open_shot (P := Try.prog) (by kernel_rfl) k1 h1
 refine (calls_of (flightTurned_c v ⟨x0, x1, x2⟩ l av pv qv _ n m W hv hl)).mono ?_
 rintro _ W' ⟨_, rfl, rfl, hE⟩
 exact ⟨_, rfl, post_true hW' rfl hE (by kernel_rfl) (by kernel_rfl) rfl rfl rfl (by kernel_rfl) Try.underlying4⟩

theorem flightTurned_holds : Rows.FlightTurnedSaid :=
 OpenClaim.holds_of_wide 4 Try.f4 rfl rfl rfl rfl rfl rfl rfl ⟨rfl, rfl, rfl, rfl, rfl⟩ rfl rfl rfl rfl rfl (by kernel_rfl) Try.func4 (by kernel_rfl)
  (of_decide_eq_true (by kernel_rfl)) (by unfold Func.isWrapper; first | (rw [if_pos (by decide +kernel)]; kernel_rfl) | (rw [if_neg (by decide +kernel)]; exact ⟨rfl, rfl⟩))
  (fun os started H enc _ => flightTurned_lifted os started H enc)
#print axioms flightTurned_holds

end Go.Proofs.Ytbncegfgjbdheaa
