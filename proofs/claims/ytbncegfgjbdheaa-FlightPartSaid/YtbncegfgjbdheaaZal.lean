/- Joined texts. -/
import Derived.Test.YtbncegfgjbdheaaZak
import Derived.Test.YtbncegfgjbdheaaZai
import Derived.Test.YtbncegfgjbdheaaZae
/- Ytbncegfgjbdheaa: impacts. -/
set_option linter.all false
namespace Go.Proofs.Ytbncegfgjbdheaa
open Go.Vc Go.Tk Go.Fl
set_option maxRecDepth 100000
set_option maxHeartbeats 4000000 in
theorem fwatch_c (x : Fl.Imp) (frm floor : Int) (t : Nat) (s : St) (hfr : 0 ≤ frm ∧ frm ≤ 3000) (ht : t ≤ 3000) (b ty : Nat) (w : World) (hb : w.heap[b]? = some (.cells #[.int .i64 x.piece, .int .i64 x.x.lo, .int .i64 x.x.hi, .int .i64 x.y.lo, .int .i64 x.y.hi, .int .i64 x.at_.lo, .int .i64 x.at_.hi, .int .i64 frm, .int .i64 floor] ty)) : FnC Try.prog 89 [.pointer (some ⟨b, 0, none⟩), .int .i64 (t : Int), .agg #[.int .i64 s.p.x.lo, .int .i64 s.p.x.hi, .int .i64 s.p.y.lo, .int .i64 s.p.y.hi, .int .i64 s.p.z.lo, .int .i64 s.p.z.hi, .int .i64 s.v.x.lo, .int .i64 s.v.x.hi, .int .i64 s.v.y.lo, .int .i64 s.v.y.hi, .int .i64 s.v.z.lo, .int .i64 s.v.z.hi]] w fun u w' => ∃ o', Vc.Good w [b] [(b, o')] w' ∧ u = .bool (watchT frm floor x t s).2 ∧ o' = .cells #[.int .i64 (watchT frm floor x t s).1.piece, .int .i64 (watchT frm floor x t s).1.x.lo, .int .i64 (watchT frm floor x t s).1.x.hi, .int .i64 (watchT frm floor x t s).1.y.lo, .int .i64 (watchT frm floor x t s).1.y.hi, .int .i64 (watchT frm floor x t s).1.at_.lo, .int .i64 (watchT frm floor x t s).1.at_.hi, .int .i64 frm, .int .i64 floor] ty := by
 refine fn_mod (b := b) Try.func89 rfl (by kernel_rfl) Try.ntmps89 Try.results89 rfl hb ?_
 refine Vs rfl ?_
 refine Lw rfl (w_box rfl rfl) ?_
 rintro _ _ ⟨b1, hb1, rfl, rfl⟩
 refine La rfl rfl rfl ?_
 refine L_then (kp [0, 1, 5] rfl) ?_
 refine V_seq ?_
 refine V_seq (V_draw (.rd 0 (.rd 1 (.rd 2 (.rd 3 (.rd 4 (.rd 5 (.rd 6 (.rd 7 (.rd 8 (.rd 9 (.rd 10 (.rd 11 (.rd 12 (.rd 13 (.rd 14 (.rd 15 (.rd 16 (.rd 17 (.rd 18 (.rd 19 (.rd 20 (.rd 21 .done)))))))))))))))))))))) mixed (by kernel_rfl) rfl ?_)
 refine Dm rfl rfl rfl rfl ?_
 refine Dp rfl rfl (p_eql rfl rfl rfl) ?_
 refine Dm rfl rfl rfl rfl ?_
 refine D_cases (d := 10) rfl ?_ ?_
 ·intro g1; have g1' := g1; try simp only [td] at g1'
  iterate 8 refine D_no rfl (.mk' rfl rfl rfl g1) ?_
  iterate 9 refine D_no rfl (.und rfl rfl rfl) ?_
  refine D_no rfl (.mk' rfl rfl rfl g1) ?_
  refine Dp rfl rfl (p_pick_t rfl rfl g1 rfl) ?_
  refine D_then (kp [0, 1, 5, 29] rfl) ?_
  refine V_cond_t rfl rfl ?_
  refine Vs rfl ?_
  refine La rfl rfl rfl ?_
  refine L_then (kp [6] rfl) ?_
  refine V_ret (then_r ?_)
  refine Leave.nil (.tmp rfl .nil) ?_
  first | (have e : watchT frm floor x t s = (x, false) := (by unfold watchT; rw [if_pos (by omega)]); rw [e]; exact ⟨_, (by repeat first | exact mH | apply mT), rfl, rfl⟩) | (have e : watchT frm floor x t s = (⟨x.piece, hullS s.p.x x.x, hullS s.p.y x.y, ⟨x.at_.lo, frm + t⟩⟩, decide (s.p.z.hi ≤ floor)) := (by unfold watchT; rw [if_neg (by omega), if_pos (by omega)]); rw [e]; exact ⟨_, (by repeat first | exact mH | apply mT), rfl, rfl⟩) | (have e : watchT frm floor x t s = (⟨x.piece, s.p.x, s.p.y, ⟨frm + t, frm + t⟩⟩, decide (s.p.z.hi ≤ floor)) := (by unfold watchT; rw [if_neg (by omega), if_neg (by omega)]); rw [e]; exact ⟨_, (by repeat first | exact mH | apply mT), rfl, rfl⟩)
 intro g1; have g1' := g1; try simp only [td] at g1'
 refine D_p rfl (.yes rfl rfl rfl g1) (p_move rfl rfl) ?_
 refine D_p rfl (.yes rfl rfl rfl g1) (p_nil rfl rfl) ?_
 refine D_p rfl (.yes rfl rfl rfl g1) (p_fieldo fo161_0 rfl rfl) ?_
 refine D_p rfl (.yes rfl rfl rfl g1) (p_fieldo fo62_2 rfl rfl) ?_
 refine D_p rfl (.yes rfl rfl rfl g1) (p_fieldo fo23_0 rfl rfl) ?_
 refine D_rd rfl (.yes rfl rfl rfl g1) (rl ag3 rfl rfl rfl) ?_
 refine D_p rfl (.yes rfl rfl rfl g1) (p_eql rfl rfl rfl) ?_
 refine D_p rfl (.yes rfl rfl rfl g1) (p_move rfl rfl) ?_
 refine D_cases (d := 18) rfl ?_ ?_
 ·intro g2; have g2' := g2; try simp only [td] at g2'
  refine D_p rfl (.yes rfl rfl rfl g2) (p_fieldo fo121_0 rfl rfl) ?_
  refine D_p rfl (.yes rfl rfl rfl g2) (p_idxao ar103 rfl rfl rfl (by omega) (by omega)) ?_
  refine D_p rfl (.yes rfl rfl rfl g2) (p_fieldo fo97_0 rfl rfl) ?_
  refine D_rd rfl (.yes rfl rfl rfl g2) (rl ag3 rfl rfl rfl) ?_
  refine D_p rfl (.yes rfl rfl rfl g2) (p_move rfl rfl) ?_
  refine D_p rfl (.yes rfl rfl rfl g2) (p_nil rfl rfl) ?_
  refine D_p rfl (.yes rfl rfl rfl g2) (p_fieldo fo161_2 rfl rfl) ?_
  refine D_rd rfl (.yes rfl rfl rfl g2) (rl ag3 rfl rfl rfl) ?_
  refine D_p rfl (.yes rfl rfl rfl g2) (p_gtr rfl rfl rfl) ?_
  refine D_p rfl (.yes rfl rfl rfl g1) (p_pick_t rfl rfl g2 rfl) ?_
  refine Dp rfl rfl (p_pick_f rfl rfl g1 rfl) ?_
  refine D_then (kp [0, 1, 5, 29] rfl) ?_
  refine V_cond rfl ?_ ?_
  ·intro c1; try simp only [td] at c1
   refine Vs rfl ?_
   refine La rfl rfl rfl ?_
   refine L_then (kp [6] rfl) ?_
   refine V_ret (then_r ?_)
   refine Leave.nil (.tmp rfl .nil) ?_
   first | (have e : watchT frm floor x t s = (x, false) := (by unfold watchT; rw [if_pos (by omega)]); rw [e]; exact ⟨_, (by repeat first | exact mH | apply mT), rfl, rfl⟩) | (have e : watchT frm floor x t s = (⟨x.piece, hullS s.p.x x.x, hullS s.p.y x.y, ⟨x.at_.lo, frm + t⟩⟩, decide (s.p.z.hi ≤ floor)) := (by unfold watchT; rw [if_neg (by omega), if_pos (by omega)]); rw [e]; exact ⟨_, (by repeat first | exact mH | apply mT), rfl, rfl⟩) | (have e : watchT frm floor x t s = (⟨x.piece, s.p.x, s.p.y, ⟨frm + t, frm + t⟩⟩, decide (s.p.z.hi ≤ floor)) := (by unfold watchT; rw [if_neg (by omega), if_neg (by omega)]); rw [e]; exact ⟨_, (by repeat first | exact mH | apply mT), rfl, rfl⟩)
  intro c1; try simp only [td] at c1
  refine V_skip (then_n ?_)
  refine Vs rfl ?_
  refine Lp rfl (p_fieldo fo121_0 rfl rfl) ?_
  refine Lp rfl (p_idxao ar103 rfl rfl rfl (by omega) (by omega)) ?_
  refine Lr rfl (rlA (vs := [_, _]) ag97 sz97 rfl rfl rfl) ?_
  refine Lp rfl (p_fieldo fo121_0 rfl rfl) ?_
  refine Lp rfl (p_idxao ar103 rfl rfl rfl (by omega) (by omega)) ?_
  refine Lr rfl (rlA (vs := [_, _]) ag97 sz97 rfl rfl rfl) ?_
  refine Lp rfl (p_buildA (r := [_, _, _, _, _, _]) ar103 zr103 rfl rfl rfl) ?_
  refine Lw rfl (w_alloc zr103 rfl) ?_
  rintro _ _ ⟨b2, hb2, rfl, rfl⟩
  refine Ls (cs' := [_, _, _, _, _, _]) rfl sz103 rfl rfl rfl rfl rfl rfl rfl ?_
  refine L_then (kp [0, 1, 5, 7] rfl) ?_
  refine V_seq ?_
  refine Vs rfl ?_
  refine Lm rfl rfl rfl ?_
  refine Ln rfl rfl rfl ?_
  refine Lp rfl (p_fieldo fo161_0 rfl rfl) ?_
  refine Lp rfl (p_fieldo fo62_2 rfl rfl) ?_
  refine Lp rfl (p_fieldo fo23_0 rfl rfl) ?_
  refine Lr rfl (rl ag3 rfl rfl rfl) ?_
  refine Lp rfl (p_gtr rfl rfl rfl) ?_
  refine L_then (kp [0, 1, 5, 7, 43] rfl) ?_
  refine V_cond rfl ?_ ?_
  ·intro c2; try simp only [td] at c2
   refine V_draw (.rd 0 (.rd 1 (.rd 2 (.rd 3 (.rd 4 (.rd 5 (.rd 6 (.rd 7 (.rd 8 (.rd 9 (.rd 10 (.rd 11 (.rd 12 (.rd 13 (.wr 14 [12, 11, 10, 9, 8, 7, 6, 5, 4, 3, 2, 1] (.wr 15 [] .done)))))))))))))))) mixed (by kernel_rfl) rfl ?_
   refine Dr rfl rfl (rlA (vs := [_, _, _, _, _, _]) ag103 sz103 rfl rfl rfl) ?_
   refine Dm rfl rfl rfl rfl ?_
   refine Dp rfl rfl (p_nil rfl rfl) ?_
   refine Dp rfl rfl (p_fieldo fo161_0 rfl rfl) ?_
   refine Dp rfl rfl (p_fieldo fo62_1 rfl rfl) ?_
   refine Dp rfl rfl (p_fieldo fo60_0 rfl rfl) ?_
   refine Dr rfl rfl (rlA (vs := [_, _]) ag23 sz23 rfl rfl rfl) ?_
   refine Dm rfl rfl rfl rfl ?_
   refine Dp rfl rfl (p_nil rfl rfl) ?_
   refine Dp rfl rfl (p_fieldo fo161_0 rfl rfl) ?_
   refine Dp rfl rfl (p_fieldo fo62_1 rfl rfl) ?_
   refine Dp rfl rfl (p_fieldo fo60_1 rfl rfl) ?_
   refine Dr rfl rfl (rlA (vs := [_, _]) ag23 sz23 rfl rfl rfl) ?_
   refine Dp rfl rfl (p_buildA (r := [_, _, _, _, _, _]) ar103 zr103 rfl rfl rfl) ?_
   refine D_wr (.go (E' := [(12, _), (6, _)]) rfl (.plain rfl) (w_callP rfl rfl rfl (fun w hg => feach_c (⟨s.p.x, s.p.y, Fl.spZ⟩ : Ax) (⟨x.x, x.y, Fl.spZ⟩ : Ax) (⟨Fl.hullS s.p.x x.x, Fl.hullS s.p.y x.y, Fl.hullS Fl.spZ Fl.spZ⟩ : Ax) _ #[] w (fun w' he => fhull_c _ _ w') (fun w' he => fhull_c _ _ w') (fun w' he => fhull_c _ _ w'))) rfl ?_)
   rintro _ _ ⟨rfl, rfl⟩
   refine ⟨(.cons rfl (.plain rfl) (rlA (vs := [_, _]) ag23 sz23 rfl rfl rfl) (.cons rfl (.plain rfl) (rlA (vs := [_, _]) ag23 sz23 rfl rfl rfl) .nil)), ?_⟩
   refine D_wr (.go (E' := []) rfl (.plain rfl) (ws (cs' := [_, _, _, _, _, _]) sz103 rfl rfl rfl rfl rfl rfl rfl) rfl ?_)
   rintro _ _ ⟨rfl, rfl⟩
   refine ⟨.nil, ?_⟩
   refine D_then (kp [0, 1, 5, 7] rfl) ?_
   refine V_seq (V_draw (.rd 0 (.rd 1 (.rd 2 (.rd 3 (.rd 4 (.rd 5 (.rd 6 (.rd 7 (.rd 8 (.rd 9 (.rd 10 (.rd 11 (.rd 12 (.rd 13 (.rd 14 (.rd 15 (.wr 16 [14, 13, 12, 11, 9, 8, 7, 1] (.rd 17 (.rd 18 (.rd 19 (.rd 20 (.wr 21 [19, 18, 17] .done)))))))))))))))))))))) mixed (by kernel_rfl) rfl ?_)
   iterate 2 refine Dm rfl rfl rfl rfl ?_
   refine Dp rfl rfl (p_idxao ar103 rfl rfl rfl (by omega) (by omega)) ?_
   refine Dr rfl rfl (rlA (vs := [_, _]) ag97 sz97 rfl rfl rfl) ?_
   refine Dp rfl rfl (p_idxao ar103 rfl rfl rfl (by omega) (by omega)) ?_
   refine Dr rfl rfl (rlA (vs := [_, _]) ag97 sz97 rfl rfl rfl) ?_
   refine Dp rfl rfl (p_build (r := [_, _, _, _]) pl60 zr60 rfl rfl rfl) ?_
   refine Dm rfl rfl rfl rfl ?_
   refine Dp rfl rfl (p_nil rfl rfl) ?_
   refine Dp rfl rfl (p_fieldo fo161_1 rfl rfl) ?_
   refine Dr rfl rfl (rl ag3 rfl rfl rfl) ?_
   refine Dm rfl rfl rfl rfl ?_
   first | refine Dp rfl rfl (p_add' rfl rfl rfl (by unfold InI; omega)) ?_ | refine Dp rfl rfl (p_add rfl rfl rfl) ?_
   refine Dp rfl rfl (p_nil rfl rfl) ?_
   refine Dp rfl rfl (p_fieldo fo161_0 rfl rfl) ?_
   refine Dp rfl rfl (p_fieldo fo62_1 rfl rfl) ?_
   refine D_wr (.go (E' := []) rfl (.plain rfl) (ws (cs' := [_, _, _, _, _, _, _, _, _]) sz60 rfl rfl rfl rfl rfl rfl rfl) rfl ?_)
   rintro _ _ ⟨rfl, rfl⟩
   refine ⟨.nil, ?_⟩
   refine Dp rfl rfl (p_nil rfl rfl) ?_
   refine Dp rfl rfl (p_fieldo fo161_0 rfl rfl) ?_
   refine Dp rfl rfl (p_fieldo fo62_2 rfl rfl) ?_
   refine Dp rfl rfl (p_fieldo fo23_1 rfl rfl) ?_
   refine D_wr (.go (E' := []) rfl (.plain rfl) (ws (cs' := [_, _, _, _, _, _, _, _, _]) sz3 rfl rfl rfl rfl rfl rfl rfl) rfl ?_)
   rintro _ _ ⟨rfl, rfl⟩
   refine ⟨.nil, ?_⟩
   refine D_then (kp [0, 5] rfl) ?_
   refine V_seq (V_draw (.rd 0 (.rd 1 (.rd 2 (.rd 3 (.rd 4 (.rd 5 (.rd 6 (.rd 7 (.rd 8 (.rd 9 .done)))))))))) mixed (by kernel_rfl) rfl ?_)
   refine Dp rfl rfl (p_fieldo fo121_0 rfl rfl) ?_
   refine Dp rfl rfl (p_idxao ar103 rfl rfl rfl (by omega) (by omega)) ?_
   refine Dp rfl rfl (p_fieldo fo97_1 rfl rfl) ?_
   refine Dr rfl rfl (rl ag3 rfl rfl rfl) ?_
   refine Dm rfl rfl rfl rfl ?_
   refine Dp rfl rfl (p_nil rfl rfl) ?_
   refine Dp rfl rfl (p_fieldo fo161_2 rfl rfl) ?_
   refine Dr rfl rfl (rl ag3 rfl rfl rfl) ?_
   refine Dp rfl rfl (p_leq rfl rfl rfl) ?_
   refine Dp rfl rfl (p_assign rfl rfl) ?_
   refine D_then (kp [6] rfl) ?_
   refine V_ret ?_
   refine Leave.nil (.tmp rfl .nil) ?_
   first | (have e : watchT frm floor x t s = (x, false) := (by unfold watchT; rw [if_pos (by omega)]); rw [e]; exact ⟨_, (by repeat first | exact mH | apply mT), rfl, rfl⟩) | (have e : watchT frm floor x t s = (⟨x.piece, hullS s.p.x x.x, hullS s.p.y x.y, ⟨x.at_.lo, frm + t⟩⟩, decide (s.p.z.hi ≤ floor)) := (by unfold watchT; rw [if_neg (by omega), if_pos (by omega)]); rw [e]; exact ⟨_, (by repeat first | exact mH | apply mT), rfl, rfl⟩) | (have e : watchT frm floor x t s = (⟨x.piece, s.p.x, s.p.y, ⟨frm + t, frm + t⟩⟩, decide (s.p.z.hi ≤ floor)) := (by unfold watchT; rw [if_neg (by omega), if_neg (by omega)]); rw [e]; exact ⟨_, (by repeat first | exact mH | apply mT), rfl, rfl⟩)
  intro c2; try simp only [td] at c2
  refine V_region rfl ?_
  iterate 2 refine Lm rfl rfl rfl ?_
  refine Ln rfl rfl rfl ?_
  refine Lp rfl (p_fieldo fo161_1 rfl rfl) ?_
  refine Lr rfl (rl ag3 rfl rfl rfl) ?_
  refine Lm rfl rfl rfl ?_
  first | refine Lp rfl (p_add' rfl rfl rfl (by unfold InI; omega)) ?_ | refine Lp rfl (p_add rfl rfl rfl) ?_
  refine Ln rfl rfl rfl ?_
  refine Lp rfl (p_fieldo fo161_0 rfl rfl) ?_
  refine Lp rfl (p_fieldo fo62_2 rfl rfl) ?_
  refine Lp rfl (p_fieldo fo23_0 rfl rfl) ?_
  refine Ls (cs' := [_, _, _, _, _, _, _, _, _]) rfl sz3 rfl rfl rfl rfl rfl rfl rfl ?_
  refine L_then (kp [0, 1, 5, 7] rfl) ?_
  refine V_seq (V_draw (.rd 0 (.rd 1 (.rd 2 (.rd 3 (.rd 4 (.rd 5 (.rd 6 (.rd 7 (.rd 8 (.rd 9 (.rd 10 (.rd 11 (.rd 12 (.rd 13 (.rd 14 (.rd 15 (.wr 16 [14, 13, 12, 11, 9, 8, 7, 1] (.rd 17 (.rd 18 (.rd 19 (.rd 20 (.wr 21 [19, 18, 17] .done)))))))))))))))))))))) mixed (by kernel_rfl) rfl ?_)
  iterate 2 refine Dm rfl rfl rfl rfl ?_
  refine Dp rfl rfl (p_idxao ar103 rfl rfl rfl (by omega) (by omega)) ?_
  refine Dr rfl rfl (rlA (vs := [_, _]) ag97 sz97 rfl rfl rfl) ?_
  refine Dp rfl rfl (p_idxao ar103 rfl rfl rfl (by omega) (by omega)) ?_
  refine Dr rfl rfl (rlA (vs := [_, _]) ag97 sz97 rfl rfl rfl) ?_
  refine Dp rfl rfl (p_build (r := [_, _, _, _]) pl60 zr60 rfl rfl rfl) ?_
  refine Dm rfl rfl rfl rfl ?_
  refine Dp rfl rfl (p_nil rfl rfl) ?_
  refine Dp rfl rfl (p_fieldo fo161_1 rfl rfl) ?_
  refine Dr rfl rfl (rl ag3 rfl rfl rfl) ?_
  refine Dm rfl rfl rfl rfl ?_
  first | refine Dp rfl rfl (p_add' rfl rfl rfl (by unfold InI; omega)) ?_ | refine Dp rfl rfl (p_add rfl rfl rfl) ?_
  refine Dp rfl rfl (p_nil rfl rfl) ?_
  refine Dp rfl rfl (p_fieldo fo161_0 rfl rfl) ?_
  refine Dp rfl rfl (p_fieldo fo62_1 rfl rfl) ?_
  refine D_wr (.go (E' := []) rfl (.plain rfl) (ws (cs' := [_, _, _, _, _, _, _, _, _]) sz60 rfl rfl rfl rfl rfl rfl rfl) rfl ?_)
  rintro _ _ ⟨rfl, rfl⟩
  refine ⟨.nil, ?_⟩
  refine Dp rfl rfl (p_nil rfl rfl) ?_
  refine Dp rfl rfl (p_fieldo fo161_0 rfl rfl) ?_
  refine Dp rfl rfl (p_fieldo fo62_2 rfl rfl) ?_
  refine Dp rfl rfl (p_fieldo fo23_1 rfl rfl) ?_
  refine D_wr (.go (E' := []) rfl (.plain rfl) (ws (cs' := [_, _, _, _, _, _, _, _, _]) sz3 rfl rfl rfl rfl rfl rfl rfl) rfl ?_)
  rintro _ _ ⟨rfl, rfl⟩
  refine ⟨.nil, ?_⟩
  refine D_then (kp [0, 5] rfl) ?_
  refine V_seq (V_draw (.rd 0 (.rd 1 (.rd 2 (.rd 3 (.rd 4 (.rd 5 (.rd 6 (.rd 7 (.rd 8 (.rd 9 .done)))))))))) mixed (by kernel_rfl) rfl ?_)
  refine Dp rfl rfl (p_fieldo fo121_0 rfl rfl) ?_
  refine Dp rfl rfl (p_idxao ar103 rfl rfl rfl (by omega) (by omega)) ?_
  refine Dp rfl rfl (p_fieldo fo97_1 rfl rfl) ?_
  refine Dr rfl rfl (rl ag3 rfl rfl rfl) ?_
  refine Dm rfl rfl rfl rfl ?_
  refine Dp rfl rfl (p_nil rfl rfl) ?_
  refine Dp rfl rfl (p_fieldo fo161_2 rfl rfl) ?_
  refine Dr rfl rfl (rl ag3 rfl rfl rfl) ?_
  refine Dp rfl rfl (p_leq rfl rfl rfl) ?_
  refine Dp rfl rfl (p_assign rfl rfl) ?_
  refine D_then (kp [6] rfl) ?_
  refine V_ret ?_
  refine Leave.nil (.tmp rfl .nil) ?_
  first | (have e : watchT frm floor x t s = (x, false) := (by unfold watchT; rw [if_pos (by omega)]); rw [e]; exact ⟨_, (by repeat first | exact mH | apply mT), rfl, rfl⟩) | (have e : watchT frm floor x t s = (⟨x.piece, hullS s.p.x x.x, hullS s.p.y x.y, ⟨x.at_.lo, frm + t⟩⟩, decide (s.p.z.hi ≤ floor)) := (by unfold watchT; rw [if_neg (by omega), if_pos (by omega)]); rw [e]; exact ⟨_, (by repeat first | exact mH | apply mT), rfl, rfl⟩) | (have e : watchT frm floor x t s = (⟨x.piece, s.p.x, s.p.y, ⟨frm + t, frm + t⟩⟩, decide (s.p.z.hi ≤ floor)) := (by unfold watchT; rw [if_neg (by omega), if_neg (by omega)]); rw [e]; exact ⟨_, (by repeat first | exact mH | apply mT), rfl, rfl⟩)
 intro g2; have g2' := g2; try simp only [td] at g2'
 iterate 9 refine D_no rfl (.mk' rfl rfl rfl g2) ?_
 refine D_p rfl (.yes rfl rfl rfl g1) (p_pick_f rfl rfl g2 rfl) ?_
 refine Dp rfl rfl (p_pick_f rfl rfl g1 rfl) ?_
 refine D_then (kp [0, 1, 5, 29] rfl) ?_
 refine V_cond_f rfl rfl ?_
 refine V_skip (then_n ?_)
 refine Vs rfl ?_
 refine Lp rfl (p_fieldo fo121_0 rfl rfl) ?_
 refine Lp rfl (p_idxao ar103 rfl rfl rfl (by omega) (by omega)) ?_
 refine Lr rfl (rlA (vs := [_, _]) ag97 sz97 rfl rfl rfl) ?_
 refine Lp rfl (p_fieldo fo121_0 rfl rfl) ?_
 refine Lp rfl (p_idxao ar103 rfl rfl rfl (by omega) (by omega)) ?_
 refine Lr rfl (rlA (vs := [_, _]) ag97 sz97 rfl rfl rfl) ?_
 refine Lp rfl (p_buildA (r := [_, _, _, _, _, _]) ar103 zr103 rfl rfl rfl) ?_
 refine Lw rfl (w_alloc zr103 rfl) ?_
 rintro _ _ ⟨b2, hb2, rfl, rfl⟩
 refine Ls (cs' := [_, _, _, _, _, _]) rfl sz103 rfl rfl rfl rfl rfl rfl rfl ?_
 refine L_then (kp [0, 1, 5, 7] rfl) ?_
 refine V_seq ?_
 refine Vs rfl ?_
 refine Lm rfl rfl rfl ?_
 refine Ln rfl rfl rfl ?_
 refine Lp rfl (p_fieldo fo161_0 rfl rfl) ?_
 refine Lp rfl (p_fieldo fo62_2 rfl rfl) ?_
 refine Lp rfl (p_fieldo fo23_0 rfl rfl) ?_
 refine Lr rfl (rl ag3 rfl rfl rfl) ?_
 refine Lp rfl (p_gtr rfl rfl rfl) ?_
 refine L_then (kp [0, 1, 5, 7, 43] rfl) ?_
 refine V_cond rfl ?_ ?_
 ·intro c3; try simp only [td] at c3
  refine V_draw (.rd 0 (.rd 1 (.rd 2 (.rd 3 (.rd 4 (.rd 5 (.rd 6 (.rd 7 (.rd 8 (.rd 9 (.rd 10 (.rd 11 (.rd 12 (.rd 13 (.wr 14 [12, 11, 10, 9, 8, 7, 6, 5, 4, 3, 2, 1] (.wr 15 [] .done)))))))))))))))) mixed (by kernel_rfl) rfl ?_
  refine Dr rfl rfl (rlA (vs := [_, _, _, _, _, _]) ag103 sz103 rfl rfl rfl) ?_
  refine Dm rfl rfl rfl rfl ?_
  refine Dp rfl rfl (p_nil rfl rfl) ?_
  refine Dp rfl rfl (p_fieldo fo161_0 rfl rfl) ?_
  refine Dp rfl rfl (p_fieldo fo62_1 rfl rfl) ?_
  refine Dp rfl rfl (p_fieldo fo60_0 rfl rfl) ?_
  refine Dr rfl rfl (rlA (vs := [_, _]) ag23 sz23 rfl rfl rfl) ?_
  refine Dm rfl rfl rfl rfl ?_
  refine Dp rfl rfl (p_nil rfl rfl) ?_
  refine Dp rfl rfl (p_fieldo fo161_0 rfl rfl) ?_
  refine Dp rfl rfl (p_fieldo fo62_1 rfl rfl) ?_
  refine Dp rfl rfl (p_fieldo fo60_1 rfl rfl) ?_
  refine Dr rfl rfl (rlA (vs := [_, _]) ag23 sz23 rfl rfl rfl) ?_
  refine Dp rfl rfl (p_buildA (r := [_, _, _, _, _, _]) ar103 zr103 rfl rfl rfl) ?_
  refine D_wr (.go (E' := [(12, _), (6, _)]) rfl (.plain rfl) (w_callP rfl rfl rfl (fun w hg => feach_c (⟨s.p.x, s.p.y, Fl.spZ⟩ : Ax) (⟨x.x, x.y, Fl.spZ⟩ : Ax) (⟨Fl.hullS s.p.x x.x, Fl.hullS s.p.y x.y, Fl.hullS Fl.spZ Fl.spZ⟩ : Ax) _ #[] w (fun w' he => fhull_c _ _ w') (fun w' he => fhull_c _ _ w') (fun w' he => fhull_c _ _ w'))) rfl ?_)
  rintro _ _ ⟨rfl, rfl⟩
  refine ⟨(.cons rfl (.plain rfl) (rlA (vs := [_, _]) ag23 sz23 rfl rfl rfl) (.cons rfl (.plain rfl) (rlA (vs := [_, _]) ag23 sz23 rfl rfl rfl) .nil)), ?_⟩
  refine D_wr (.go (E' := []) rfl (.plain rfl) (ws (cs' := [_, _, _, _, _, _]) sz103 rfl rfl rfl rfl rfl rfl rfl) rfl ?_)
  rintro _ _ ⟨rfl, rfl⟩
  refine ⟨.nil, ?_⟩
  refine D_then (kp [0, 1, 5, 7] rfl) ?_
  refine V_seq (V_draw (.rd 0 (.rd 1 (.rd 2 (.rd 3 (.rd 4 (.rd 5 (.rd 6 (.rd 7 (.rd 8 (.rd 9 (.rd 10 (.rd 11 (.rd 12 (.rd 13 (.rd 14 (.rd 15 (.wr 16 [14, 13, 12, 11, 9, 8, 7, 1] (.rd 17 (.rd 18 (.rd 19 (.rd 20 (.wr 21 [19, 18, 17] .done)))))))))))))))))))))) mixed (by kernel_rfl) rfl ?_)
  iterate 2 refine Dm rfl rfl rfl rfl ?_
  refine Dp rfl rfl (p_idxao ar103 rfl rfl rfl (by omega) (by omega)) ?_
  refine Dr rfl rfl (rlA (vs := [_, _]) ag97 sz97 rfl rfl rfl) ?_
  refine Dp rfl rfl (p_idxao ar103 rfl rfl rfl (by omega) (by omega)) ?_
  refine Dr rfl rfl (rlA (vs := [_, _]) ag97 sz97 rfl rfl rfl) ?_
  refine Dp rfl rfl (p_build (r := [_, _, _, _]) pl60 zr60 rfl rfl rfl) ?_
  refine Dm rfl rfl rfl rfl ?_
  refine Dp rfl rfl (p_nil rfl rfl) ?_
  refine Dp rfl rfl (p_fieldo fo161_1 rfl rfl) ?_
  refine Dr rfl rfl (rl ag3 rfl rfl rfl) ?_
  refine Dm rfl rfl rfl rfl ?_
  first | refine Dp rfl rfl (p_add' rfl rfl rfl (by unfold InI; omega)) ?_ | refine Dp rfl rfl (p_add rfl rfl rfl) ?_
  refine Dp rfl rfl (p_nil rfl rfl) ?_
  refine Dp rfl rfl (p_fieldo fo161_0 rfl rfl) ?_
  refine Dp rfl rfl (p_fieldo fo62_1 rfl rfl) ?_
  refine D_wr (.go (E' := []) rfl (.plain rfl) (ws (cs' := [_, _, _, _, _, _, _, _, _]) sz60 rfl rfl rfl rfl rfl rfl rfl) rfl ?_)
  rintro _ _ ⟨rfl, rfl⟩
  refine ⟨.nil, ?_⟩
  refine Dp rfl rfl (p_nil rfl rfl) ?_
  refine Dp rfl rfl (p_fieldo fo161_0 rfl rfl) ?_
  refine Dp rfl rfl (p_fieldo fo62_2 rfl rfl) ?_
  refine Dp rfl rfl (p_fieldo fo23_1 rfl rfl) ?_
  refine D_wr (.go (E' := []) rfl (.plain rfl) (ws (cs' := [_, _, _, _, _, _, _, _, _]) sz3 rfl rfl rfl rfl rfl rfl rfl) rfl ?_)
  rintro _ _ ⟨rfl, rfl⟩
  refine ⟨.nil, ?_⟩
  refine D_then (kp [0, 5] rfl) ?_
  refine V_seq (V_draw (.rd 0 (.rd 1 (.rd 2 (.rd 3 (.rd 4 (.rd 5 (.rd 6 (.rd 7 (.rd 8 (.rd 9 .done)))))))))) mixed (by kernel_rfl) rfl ?_)
  refine Dp rfl rfl (p_fieldo fo121_0 rfl rfl) ?_
  refine Dp rfl rfl (p_idxao ar103 rfl rfl rfl (by omega) (by omega)) ?_
  refine Dp rfl rfl (p_fieldo fo97_1 rfl rfl) ?_
  refine Dr rfl rfl (rl ag3 rfl rfl rfl) ?_
  refine Dm rfl rfl rfl rfl ?_
  refine Dp rfl rfl (p_nil rfl rfl) ?_
  refine Dp rfl rfl (p_fieldo fo161_2 rfl rfl) ?_
  refine Dr rfl rfl (rl ag3 rfl rfl rfl) ?_
  refine Dp rfl rfl (p_leq rfl rfl rfl) ?_
  refine Dp rfl rfl (p_assign rfl rfl) ?_
  refine D_then (kp [6] rfl) ?_
  refine V_ret ?_
  refine Leave.nil (.tmp rfl .nil) ?_
  first | (have e : watchT frm floor x t s = (x, false) := (by unfold watchT; rw [if_pos (by omega)]); rw [e]; exact ⟨_, (by repeat first | exact mH | apply mT), rfl, rfl⟩) | (have e : watchT frm floor x t s = (⟨x.piece, hullS s.p.x x.x, hullS s.p.y x.y, ⟨x.at_.lo, frm + t⟩⟩, decide (s.p.z.hi ≤ floor)) := (by unfold watchT; rw [if_neg (by omega), if_pos (by omega)]); rw [e]; exact ⟨_, (by repeat first | exact mH | apply mT), rfl, rfl⟩) | (have e : watchT frm floor x t s = (⟨x.piece, s.p.x, s.p.y, ⟨frm + t, frm + t⟩⟩, decide (s.p.z.hi ≤ floor)) := (by unfold watchT; rw [if_neg (by omega), if_neg (by omega)]); rw [e]; exact ⟨_, (by repeat first | exact mH | apply mT), rfl, rfl⟩)
 intro c3; try simp only [td] at c3
 refine V_region rfl ?_
 iterate 2 refine Lm rfl rfl rfl ?_
 refine Ln rfl rfl rfl ?_
 refine Lp rfl (p_fieldo fo161_1 rfl rfl) ?_
 refine Lr rfl (rl ag3 rfl rfl rfl) ?_
 refine Lm rfl rfl rfl ?_
 first | refine Lp rfl (p_add' rfl rfl rfl (by unfold InI; omega)) ?_ | refine Lp rfl (p_add rfl rfl rfl) ?_
 refine Ln rfl rfl rfl ?_
 refine Lp rfl (p_fieldo fo161_0 rfl rfl) ?_
 refine Lp rfl (p_fieldo fo62_2 rfl rfl) ?_
 refine Lp rfl (p_fieldo fo23_0 rfl rfl) ?_
 refine Ls (cs' := [_, _, _, _, _, _, _, _, _]) rfl sz3 rfl rfl rfl rfl rfl rfl rfl ?_
 refine L_then (kp [0, 1, 5, 7] rfl) ?_
 refine V_seq (V_draw (.rd 0 (.rd 1 (.rd 2 (.rd 3 (.rd 4 (.rd 5 (.rd 6 (.rd 7 (.rd 8 (.rd 9 (.rd 10 (.rd 11 (.rd 12 (.rd 13 (.rd 14 (.rd 15 (.wr 16 [14, 13, 12, 11, 9, 8, 7, 1] (.rd 17 (.rd 18 (.rd 19 (.rd 20 (.wr 21 [19, 18, 17] .done)))))))))))))))))))))) mixed (by kernel_rfl) rfl ?_)
 iterate 2 refine Dm rfl rfl rfl rfl ?_
 refine Dp rfl rfl (p_idxao ar103 rfl rfl rfl (by omega) (by omega)) ?_
 refine Dr rfl rfl (rlA (vs := [_, _]) ag97 sz97 rfl rfl rfl) ?_
 refine Dp rfl rfl (p_idxao ar103 rfl rfl rfl (by omega) (by omega)) ?_
 refine Dr rfl rfl (rlA (vs := [_, _]) ag97 sz97 rfl rfl rfl) ?_
 refine Dp rfl rfl (p_build (r := [_, _, _, _]) pl60 zr60 rfl rfl rfl) ?_
 refine Dm rfl rfl rfl rfl ?_
 refine Dp rfl rfl (p_nil rfl rfl) ?_
 refine Dp rfl rfl (p_fieldo fo161_1 rfl rfl) ?_
 refine Dr rfl rfl (rl ag3 rfl rfl rfl) ?_
 refine Dm rfl rfl rfl rfl ?_
 first | refine Dp rfl rfl (p_add' rfl rfl rfl (by unfold InI; omega)) ?_ | refine Dp rfl rfl (p_add rfl rfl rfl) ?_
 refine Dp rfl rfl (p_nil rfl rfl) ?_
 refine Dp rfl rfl (p_fieldo fo161_0 rfl rfl) ?_
 refine Dp rfl rfl (p_fieldo fo62_1 rfl rfl) ?_
 refine D_wr (.go (E' := []) rfl (.plain rfl) (ws (cs' := [_, _, _, _, _, _, _, _, _]) sz60 rfl rfl rfl rfl rfl rfl rfl) rfl ?_)
 rintro _ _ ⟨rfl, rfl⟩
 refine ⟨.nil, ?_⟩
 refine Dp rfl rfl (p_nil rfl rfl) ?_
 refine Dp rfl rfl (p_fieldo fo161_0 rfl rfl) ?_
 refine Dp rfl rfl (p_fieldo fo62_2 rfl rfl) ?_
 refine Dp rfl rfl (p_fieldo fo23_1 rfl rfl) ?_
 refine D_wr (.go (E' := []) rfl (.plain rfl) (ws (cs' := [_, _, _, _, _, _, _, _, _]) sz3 rfl rfl rfl rfl rfl rfl rfl) rfl ?_)
 rintro _ _ ⟨rfl, rfl⟩
 refine ⟨.nil, ?_⟩
 refine D_then (kp [0, 5] rfl) ?_
 refine V_seq (V_draw (.rd 0 (.rd 1 (.rd 2 (.rd 3 (.rd 4 (.rd 5 (.rd 6 (.rd 7 (.rd 8 (.rd 9 .done)))))))))) mixed (by kernel_rfl) rfl ?_)
 refine Dp rfl rfl (p_fieldo fo121_0 rfl rfl) ?_
 refine Dp rfl rfl (p_idxao ar103 rfl rfl rfl (by omega) (by omega)) ?_
 refine Dp rfl rfl (p_fieldo fo97_1 rfl rfl) ?_
 refine Dr rfl rfl (rl ag3 rfl rfl rfl) ?_
 refine Dm rfl rfl rfl rfl ?_
 refine Dp rfl rfl (p_nil rfl rfl) ?_
 refine Dp rfl rfl (p_fieldo fo161_2 rfl rfl) ?_
 refine Dr rfl rfl (rl ag3 rfl rfl rfl) ?_
 refine Dp rfl rfl (p_leq rfl rfl rfl) ?_
 refine Dp rfl rfl (p_assign rfl rfl) ?_
 refine D_then (kp [6] rfl) ?_
 refine V_ret ?_
 refine Leave.nil (.tmp rfl .nil) ?_
 first | (have e : watchT frm floor x t s = (x, false) := (by unfold watchT; rw [if_pos (by omega)]); rw [e]; exact ⟨_, (by repeat first | exact mH | apply mT), rfl, rfl⟩) | (have e : watchT frm floor x t s = (⟨x.piece, hullS s.p.x x.x, hullS s.p.y x.y, ⟨x.at_.lo, frm + t⟩⟩, decide (s.p.z.hi ≤ floor)) := (by unfold watchT; rw [if_neg (by omega), if_pos (by omega)]); rw [e]; exact ⟨_, (by repeat first | exact mH | apply mT), rfl, rfl⟩) | (have e : watchT frm floor x t s = (⟨x.piece, s.p.x, s.p.y, ⟨frm + t, frm + t⟩⟩, decide (s.p.z.hi ≤ floor)) := (by unfold watchT; rw [if_neg (by omega), if_neg (by omega)]); rw [e]; exact ⟨_, (by repeat first | exact mH | apply mT), rfl, rfl⟩)
set_option maxHeartbeats 4000000 in
theorem fimpactV_c (v : Veh) (d : Dir) (l : List Fl.Band) (av pv qv bv : Value) (hV : GoodV v) (hd : dirE d = 0) (hB : GoodB l) (i : Int) (hi : v.pieces.length ≤ i ∧ i ≤ 9223372036854775806) (b ty : Nat) (fr : Nat × Nat) (w : World) (hb : w.heap[b]? = some (.cells (flC v av pv qv d bv).toArray ty fr)) (hv : VehR w (VehV v av pv qv) v) (hl : BdsR w bv l) : FnX Try.prog 59 [.pointer (some ⟨b, 0, none⟩), .int .i64 i] w (fun u w' => ∃ Hc, Vc.Good w [] Hc w' ∧ u = .tuple #[.agg #[.int .i64 (impT v d l i.toNat).1.piece, .int .i64 (impT v d l i.toNat).1.x.lo, .int .i64 (impT v d l i.toNat).1.x.hi, .int .i64 (impT v d l i.toNat).1.y.lo, .int .i64 (impT v d l i.toNat).1.y.hi, .int .i64 (impT v d l i.toNat).1.at_.lo, .int .i64 (impT v d l i.toNat).1.at_.hi], .int .i64 (impT v d l i.toNat).2] ∧ (impT v d l i.toNat).2 ≠ 3) (fun ch w' => ∃ Hc, Vc.Good w [] Hc w' ∧ ch = [{ v := .iface 154 (.agg #[]), recovered := false }] ∧ (impT v d l i.toNat) = (Fl.imZ, 3)) := by
 obtain ⟨qa, qc, rfl, hqc, hqe⟩ := hv.sl.2.2.ex
 have eti : ((i.toNat : Nat) : Int) = i := by omega
 simp only [List.length_map] at hqc hb hv ⊢
 refine fn_newX Try.func59 rfl (by kernel_rfl) Try.ntmps59 Try.results59 rfl ?_
 refine Vs rfl ?_
 refine Lw rfl (w_alloc zr62 rfl) ?_
 rintro _ _ ⟨b1, hb1, rfl, rfl⟩
 refine Lw rfl (w_alloc zr31 rfl) ?_
 rintro _ _ ⟨b2, hb2, rfl, rfl⟩
 refine L_then (kp [0, 1, 4, 5] rfl) ?_
 refine Vs rfl ?_
 refine Lm rfl rfl rfl ?_
 refine Lp rfl (p_build (r := [_, _, _, _, _, _, _]) pl62 zr62 rfl rfl rfl) ?_
 refine Lp rfl (p_build (r := [_, _, _, _, _, _, _, _, _]) pl161 zr161 rfl rfl rfl) ?_
 refine Lw rfl (w_box rfl rfl) ?_
 rintro _ _ ⟨b3, hb3, rfl, rfl⟩
 refine Lw rfl (w_alloc zr159 rfl) ?_
 rintro _ _ ⟨b4, hb4, rfl, rfl⟩
 refine Ls (cs' := [_]) rfl sz159 rfl rfl rfl rfl rfl rfl rfl ?_
 refine L_then (kp [0, 1, 4, 5, 6] rfl) ?_
 refine Vs rfl ?_
 refine Lm rfl rfl rfl ?_
 refine Lp rfl (p_build (r := [_, _, _, _, _, _, _, _, _, _, _, _]) pl121 zr121 rfl rfl rfl) ?_
 refine Lm rfl rfl rfl ?_
 refine Lp rfl (p_func rfl rfl rfl) ?_
 refine Lw rfl (w_callN rfl rfl rfl (fun w hg => fstates_c b _ #[_] #[] Fl.stZ w)) ?_
 rintro _ _ ⟨_, rfl, _, y1, y2, y3, rfl, rfl⟩
 refine La rfl rfl rfl ?_
 refine L_then (kp [0, 1, 4, 5, 6, 7] rfl) ?_
 refine V_seq ?_
 refine Vs rfl ?_
 iterate 2 refine Lm rfl rfl rfl ?_
 refine Ln rfl rfl rfl ?_
 refine Lp rfl (p_fieldo fo152_0 rfl rfl) ?_
 refine Lp rfl (p_fieldo fo28_4 rfl rfl) ?_
 refine Lr rfl (r_loadB ag26 rfl rfl (own_cell hb _) List.not_mem_nil) ?_
 refine Lp rfl (p_len isl26 rfl rfl) ?_
 refine Lp rfl (p_lss rfl rfl rfl) ?_
 refine L_then (kp [0, 1, 4, 5, 6, 7, 26] rfl) ?_
 refine V_cond rfl ?_ ?_
 ·intro c1; try simp only [td] at c1
  exfalso; omega
 intro c1; try simp only [td] at c1
 refine V_skip (then_n ?_)
 refine V_seq ?_
 refine Vs rfl ?_
 refine Lm rfl rfl rfl ?_
 refine L_then (kp [4, 5, 6, 54] rfl) ?_
 refine V_block ?_
 refine V_hs (H' := [(y3, Obj.cells #[.func (.func 57) #[.pointer (some ⟨b, 0, none⟩)] #[]] 122), (y1, Obj.cells #[.pointer (some ⟨b, 0, none⟩)] 112), (b4, Obj.cells #[.pointer (some ⟨b3, 0, none⟩)] 159), (b3, Obj.cells #[.int .i64 (⟨i, Fl.spZ, Fl.spZ, Fl.spZ⟩ : Fl.Imp).piece, .int .i64 (⟨i, Fl.spZ, Fl.spZ, Fl.spZ⟩ : Fl.Imp).x.lo, .int .i64 (⟨i, Fl.spZ, Fl.spZ, Fl.spZ⟩ : Fl.Imp).x.hi, .int .i64 (⟨i, Fl.spZ, Fl.spZ, Fl.spZ⟩ : Fl.Imp).y.lo, .int .i64 (⟨i, Fl.spZ, Fl.spZ, Fl.spZ⟩ : Fl.Imp).y.hi, .int .i64 (⟨i, Fl.spZ, Fl.spZ, Fl.spZ⟩ : Fl.Imp).at_.lo, .int .i64 (⟨i, Fl.spZ, Fl.spZ, Fl.spZ⟩ : Fl.Imp).at_.hi, .int .i64 0, .int .i64 0] 161), (b2, Obj.cells #[.int .i64 0] 31), (b1, Obj.cells #[.int .i64 0, .int .i64 0, .int .i64 0, .int .i64 0, .int .i64 0, .int .i64 0, .int .i64 0] 62), (y2, Obj.cells #[.int .i64 0, .int .i64 0, .int .i64 0, .int .i64 0, .int .i64 0, .int .i64 0, .int .i64 0, .int .i64 0, .int .i64 0, .int .i64 0, .int .i64 0, .int .i64 0] 121)]) (by (try dsimp only); repeat (first | exact HSub.nil _ | refine HSub.take (by repeat first | exact Take.head | apply Take.tail) ?_ | exact HSub.refl _ | refine HSub.drop ?_ | refine HSub.app ?_)) ?_
 refine V_rangeX (H0 := [(y3, Obj.cells #[.func (.func 57) #[.pointer (some ⟨b, 0, none⟩)] #[]] 122), (y1, Obj.cells #[.pointer (some ⟨b, 0, none⟩)] 112), (b4, Obj.cells #[.pointer (some ⟨b3, 0, none⟩)] 159), (b3, Obj.cells #[.int .i64 (⟨i, Fl.spZ, Fl.spZ, Fl.spZ⟩ : Fl.Imp).piece, .int .i64 (⟨i, Fl.spZ, Fl.spZ, Fl.spZ⟩ : Fl.Imp).x.lo, .int .i64 (⟨i, Fl.spZ, Fl.spZ, Fl.spZ⟩ : Fl.Imp).x.hi, .int .i64 (⟨i, Fl.spZ, Fl.spZ, Fl.spZ⟩ : Fl.Imp).y.lo, .int .i64 (⟨i, Fl.spZ, Fl.spZ, Fl.spZ⟩ : Fl.Imp).y.hi, .int .i64 (⟨i, Fl.spZ, Fl.spZ, Fl.spZ⟩ : Fl.Imp).at_.lo, .int .i64 (⟨i, Fl.spZ, Fl.spZ, Fl.spZ⟩ : Fl.Imp).at_.hi, .int .i64 0, .int .i64 0] 161), (b2, Obj.cells #[.int .i64 0] 31), (b1, Obj.cells #[.int .i64 0, .int .i64 0, .int .i64 0, .int .i64 0, .int .i64 0, .int .i64 0, .int .i64 0] 62)]) (Hi := [(y2, Obj.cells #[.int .i64 0, .int .i64 0, .int .i64 0, .int .i64 0, .int .i64 0, .int .i64 0, .int .i64 0, .int .i64 0, .int .i64 0, .int .i64 0, .int .i64 0, .int .i64 0] 121)]) rfl (kp [4, 5, 6, 54] rfl) rfl rfl (fun done x => done.length ≤ 3000 ∧ farS (Fl.runT v d l (fun n => nowT v n) Fl.stZ done.length) = false ∧ x = [.int .i64 (done.length : Int), .agg (St.cells (Fl.runT v d l (fun n => nowT v n) Fl.stZ done.length)).toArray]) (fun done Hr => ∃ x : Fl.Imp, Hr = [(y3, Obj.cells #[.func (.func 57) #[.pointer (some ⟨b, 0, none⟩)] #[]] 122), (y1, Obj.cells #[.pointer (some ⟨b, 0, none⟩)] 112), (b4, Obj.cells #[.pointer (some ⟨b3, 0, none⟩)] 159), (b3, Obj.cells #[.int .i64 x.piece, .int .i64 x.x.lo, .int .i64 x.x.hi, .int .i64 x.y.lo, .int .i64 x.y.hi, .int .i64 x.at_.lo, .int .i64 x.at_.hi, .int .i64 0, .int .i64 0] 161), (b2, Obj.cells #[.int .i64 0] 31), (b1, Obj.cells #[.int .i64 0, .int .i64 0, .int .i64 0, .int .i64 0, .int .i64 0, .int .i64 0, .int .i64 0] 62)] ∧ done.length ≤ 3000 ∧ impN (Fl.stT v d l) 0 0 3000 0 (⟨i, Fl.spZ, Fl.spZ, Fl.spZ⟩ : Fl.Imp) = impN (Fl.stT v d l) 0 0 (3000 - done.length) done.length x) (fun _ jc Hr => (jc = .ret ∧ ∃ y : Fl.Imp, Hr = [(y3, Obj.cells #[.func (.func 57) #[.pointer (some ⟨b, 0, none⟩)] #[]] 122), (y1, Obj.cells #[.pointer (some ⟨b, 0, none⟩)] 112), (b4, Obj.cells #[.pointer (some ⟨b3, 0, none⟩)] 159), (b3, Obj.cells #[.int .i64 y.piece, .int .i64 y.x.lo, .int .i64 y.x.hi, .int .i64 y.y.lo, .int .i64 y.y.hi, .int .i64 y.at_.lo, .int .i64 y.at_.hi, .int .i64 0, .int .i64 0] 161), (b2, Obj.cells #[.int .i64 0] 31), (b1, Obj.cells #[.int .i64 y.piece, .int .i64 y.x.lo, .int .i64 y.x.hi, .int .i64 y.y.lo, .int .i64 y.y.hi, .int .i64 y.at_.lo, .int .i64 y.at_.hi] 62)] ∧ impN (Fl.stT v d l) 0 0 3000 0 (⟨i, Fl.spZ, Fl.spZ, Fl.spZ⟩ : Fl.Imp) = (y, 0)) ∨ (jc = .exit 0 ∧ ∃ y : Fl.Imp, Hr = [(y3, Obj.cells #[.func (.func 57) #[.pointer (some ⟨b, 0, none⟩)] #[]] 122), (y1, Obj.cells #[.pointer (some ⟨b, 0, none⟩)] 112), (b4, Obj.cells #[.pointer (some ⟨b3, 0, none⟩)] 159), (b3, Obj.cells #[.int .i64 y.piece, .int .i64 y.x.lo, .int .i64 y.x.hi, .int .i64 y.y.lo, .int .i64 y.y.hi, .int .i64 y.at_.lo, .int .i64 y.at_.hi, .int .i64 0, .int .i64 0] 161), (b2, Obj.cells #[.int .i64 0] 31), (b1, Obj.cells #[.int .i64 0, .int .i64 0, .int .i64 0, .int .i64 0, .int .i64 0, .int .i64 0, .int .i64 0] 62)] ∧ impN (Fl.stT v d l) 0 0 3000 0 (⟨i, Fl.spZ, Fl.spZ, Fl.spZ⟩ : Fl.Imp) = (Fl.imZ, 9))) (fun _ => False) (fun done ch => ch = [{ v := .iface 154 (.agg #[]), recovered := false }] ∧ farS (Fl.runT v d l (fun n => nowT v n) Fl.stZ done.length) = true) ((by rintro done vs ⟨_, _, rfl⟩; rfl)) (by repeat (first | exact List.nil_sublist _ | exact List.Sublist.refl _ | apply List.Sublist.cons_cons | apply List.Sublist.cons)) (⟨_, rfl, Nat.zero_le _, rfl⟩) ?_ ?_ ?_ ?_ ?_
 ·intro l1 D1 r1 done vs Hr own hp hJ
  obtain ⟨hdl, hfar, rfl⟩ := hp
  obtain ⟨x, rfl, hdn, himp⟩ := hJ
  have hfar2 : farS ((Fl.stT v d l) done.length) = false := hfar
  refine Vs rfl ?_
  refine La rfl rfl rfl ?_
  refine L_then (kp [4, 5, 6, 8, 54, 56] rfl) ?_
  refine V_region rfl ?_
  refine Lw rfl (w_alloc zr121 rfl) ?_
  rintro _ _ ⟨b6, hb6, rfl, rfl⟩
  refine Ls (cs' := [_, _, _, _, _, _, _, _, _, _, _, _]) rfl sz121 rfl rfl rfl rfl rfl rfl rfl ?_
  refine L_keep (kp [4, 5, 6, 8, 9, 54] rfl) ?_
  refine asgI (by repeat first | exact .head | apply SetAt.tail) ?_
  refine V_block ?_
  refine V_seq ?_
  refine Vs rfl ?_
  refine Lr rfl (rl ag159 rfl rfl rfl) ?_
  refine Lm rfl rfl rfl ?_
  refine Lr rfl (rlA (vs := [_, _, _, _, _, _, _, _, _, _, _, _]) ag121 sz121 rfl rfl rfl) ?_
  refine Lw rfl (w_callM rfl rfl rfl (fun o' => (by repeat first | exact .head | apply SetAt.tail)) (fun w hg => fwatch_c x 0 0 done.length (Fl.runT v d l (fun n => nowT v n) Fl.stZ done.length) (by omega) (by omega) b3 _ w (hg.own (b3, _) (by repeat first | exact mH | apply mT)))) ?_
  rintro _ _ ⟨_, rfl, rfl, rfl⟩
  refine L_then (kp [4, 5, 6, 8, 60] rfl) ?_
  refine V_cond rfl ?_ ?_
  ·intro c2; try simp only [td] at c2
   have hwt : (watchT 0 0 x done.length (Fl.runT v d l (fun n => nowT v n) Fl.stZ done.length)).2 = true := c2
   refine Vs rfl ?_
   refine Lr rfl (rl ag159 rfl rfl rfl) ?_
   refine Ln rfl rfl rfl ?_
   refine Lp rfl (p_fieldo fo161_0 rfl rfl) ?_
   refine Lr rfl (rlA (vs := [_, _, _, _, _, _, _]) ag62 sz62 rfl rfl rfl) ?_
   refine Ls (cs' := [_, _, _, _, _, _, _]) rfl sz62 rfl rfl rfl rfl rfl rfl rfl ?_
   refine Ls (cs' := [_]) rfl sz31 rfl rfl rfl rfl rfl rfl rfl ?_
   refine L_then (kp [4, 5] rfl) ?_
   refine V_ret (then_r (blk_r ?_))
   refine endX_r (by repeat first | exact .head | apply SetAt.tail) ?_
   refine ⟨[(y3, Obj.cells #[.func (.func 57) #[.pointer (some ⟨b, 0, none⟩)] #[]] 122), (y1, Obj.cells #[.pointer (some ⟨b, 0, none⟩)] 112), (b4, Obj.cells #[.pointer (some ⟨b3, 0, none⟩)] 159), (b3, Obj.cells #[.int .i64 (watchT 0 0 x done.length (Fl.runT v d l (fun n => nowT v n) Fl.stZ done.length)).1.piece, .int .i64 (watchT 0 0 x done.length (Fl.runT v d l (fun n => nowT v n) Fl.stZ done.length)).1.x.lo, .int .i64 (watchT 0 0 x done.length (Fl.runT v d l (fun n => nowT v n) Fl.stZ done.length)).1.x.hi, .int .i64 (watchT 0 0 x done.length (Fl.runT v d l (fun n => nowT v n) Fl.stZ done.length)).1.y.lo, .int .i64 (watchT 0 0 x done.length (Fl.runT v d l (fun n => nowT v n) Fl.stZ done.length)).1.y.hi, .int .i64 (watchT 0 0 x done.length (Fl.runT v d l (fun n => nowT v n) Fl.stZ done.length)).1.at_.lo, .int .i64 (watchT 0 0 x done.length (Fl.runT v d l (fun n => nowT v n) Fl.stZ done.length)).1.at_.hi, .int .i64 0, .int .i64 0] 161), (b2, Obj.cells #[.int .i64 0] 31), (b1, Obj.cells #[.int .i64 (watchT 0 0 x done.length (Fl.runT v d l (fun n => nowT v n) Fl.stZ done.length)).1.piece, .int .i64 (watchT 0 0 x done.length (Fl.runT v d l (fun n => nowT v n) Fl.stZ done.length)).1.x.lo, .int .i64 (watchT 0 0 x done.length (Fl.runT v d l (fun n => nowT v n) Fl.stZ done.length)).1.x.hi, .int .i64 (watchT 0 0 x done.length (Fl.runT v d l (fun n => nowT v n) Fl.stZ done.length)).1.y.lo, .int .i64 (watchT 0 0 x done.length (Fl.runT v d l (fun n => nowT v n) Fl.stZ done.length)).1.y.hi, .int .i64 (watchT 0 0 x done.length (Fl.runT v d l (fun n => nowT v n) Fl.stZ done.length)).1.at_.lo, .int .i64 (watchT 0 0 x done.length (Fl.runT v d l (fun n => nowT v n) Fl.stZ done.length)).1.at_.hi] 62)], (by (try dsimp only); repeat (first | exact HSub.nil _ | refine HSub.take (by repeat first | exact Take.head | apply Take.tail) ?_ | exact HSub.refl _ | refine HSub.drop ?_ | refine HSub.app ?_)), ?_⟩
   exact .inl ⟨rfl, _, rfl, by rw [himp]; exact impN_hit hfar2 hwt⟩
  intro c2; try simp only [td] at c2
  have hwt : (watchT 0 0 x done.length (Fl.runT v d l (fun n => nowT v n) Fl.stZ done.length)).2 = false := c2
  refine V_skip (then_n ?_)
  refine Vs rfl ?_
  refine Lr rfl (rl ag159 rfl rfl rfl) ?_
  refine Ln rfl rfl rfl ?_
  refine Lp rfl (p_fieldo fo161_1 rfl rfl) ?_
  refine Lr rfl (rl ag3 rfl rfl rfl) ?_
  refine Lm rfl rfl rfl ?_
  first | refine Lp rfl (p_add' rfl rfl rfl (by unfold InI; omega)) ?_ | refine Lp rfl (p_add rfl rfl rfl) ?_
  refine Lp rfl (p_eql rfl rfl rfl) ?_
  refine L_then (kp [4, 5, 71] rfl) ?_
  refine V_cond rfl ?_ ?_
  ·intro c3; try simp only [td] at c3
   refine V_exit (blk_o rfl ?_)
   refine endX_e (by repeat first | exact .head | apply SetAt.tail) ?_
   refine ⟨[(y3, Obj.cells #[.func (.func 57) #[.pointer (some ⟨b, 0, none⟩)] #[]] 122), (y1, Obj.cells #[.pointer (some ⟨b, 0, none⟩)] 112), (b4, Obj.cells #[.pointer (some ⟨b3, 0, none⟩)] 159), (b3, Obj.cells #[.int .i64 (watchT 0 0 x done.length (Fl.runT v d l (fun n => nowT v n) Fl.stZ done.length)).1.piece, .int .i64 (watchT 0 0 x done.length (Fl.runT v d l (fun n => nowT v n) Fl.stZ done.length)).1.x.lo, .int .i64 (watchT 0 0 x done.length (Fl.runT v d l (fun n => nowT v n) Fl.stZ done.length)).1.x.hi, .int .i64 (watchT 0 0 x done.length (Fl.runT v d l (fun n => nowT v n) Fl.stZ done.length)).1.y.lo, .int .i64 (watchT 0 0 x done.length (Fl.runT v d l (fun n => nowT v n) Fl.stZ done.length)).1.y.hi, .int .i64 (watchT 0 0 x done.length (Fl.runT v d l (fun n => nowT v n) Fl.stZ done.length)).1.at_.lo, .int .i64 (watchT 0 0 x done.length (Fl.runT v d l (fun n => nowT v n) Fl.stZ done.length)).1.at_.hi, .int .i64 0, .int .i64 0] 161), (b2, Obj.cells #[.int .i64 0] 31), (b1, Obj.cells #[.int .i64 0, .int .i64 0, .int .i64 0, .int .i64 0, .int .i64 0, .int .i64 0, .int .i64 0] 62)], (by (try dsimp only); repeat (first | exact HSub.nil _ | refine HSub.take (by repeat first | exact Take.head | apply Take.tail) ?_ | exact HSub.refl _ | refine HSub.drop ?_ | refine HSub.app ?_)), ?_⟩
   have ed : done.length = 3000 := by omega
   exact .inr ⟨rfl, _, rfl, by rw [himp, ← ed]; exact impN_out hfar2 hwt⟩
  intro c3; try simp only [td] at c3
  refine V_skip (blk_n ?_)
  refine endX_n (by repeat first | exact .head | apply SetAt.tail) ?_
  refine ⟨[(y3, Obj.cells #[.func (.func 57) #[.pointer (some ⟨b, 0, none⟩)] #[]] 122), (y1, Obj.cells #[.pointer (some ⟨b, 0, none⟩)] 112), (b4, Obj.cells #[.pointer (some ⟨b3, 0, none⟩)] 159), (b3, Obj.cells #[.int .i64 (watchT 0 0 x done.length (Fl.runT v d l (fun n => nowT v n) Fl.stZ done.length)).1.piece, .int .i64 (watchT 0 0 x done.length (Fl.runT v d l (fun n => nowT v n) Fl.stZ done.length)).1.x.lo, .int .i64 (watchT 0 0 x done.length (Fl.runT v d l (fun n => nowT v n) Fl.stZ done.length)).1.x.hi, .int .i64 (watchT 0 0 x done.length (Fl.runT v d l (fun n => nowT v n) Fl.stZ done.length)).1.y.lo, .int .i64 (watchT 0 0 x done.length (Fl.runT v d l (fun n => nowT v n) Fl.stZ done.length)).1.y.hi, .int .i64 (watchT 0 0 x done.length (Fl.runT v d l (fun n => nowT v n) Fl.stZ done.length)).1.at_.lo, .int .i64 (watchT 0 0 x done.length (Fl.runT v d l (fun n => nowT v n) Fl.stZ done.length)).1.at_.hi, .int .i64 0, .int .i64 0] 161), (b2, Obj.cells #[.int .i64 0] 31), (b1, Obj.cells #[.int .i64 0, .int .i64 0, .int .i64 0, .int .i64 0, .int .i64 0, .int .i64 0, .int .i64 0] 62)], (by (try dsimp only); repeat (first | exact HSub.nil _ | refine HSub.take (by repeat first | exact Take.head | apply Take.tail) ?_ | exact HSub.refl _ | refine HSub.drop ?_ | refine HSub.app ?_)), ?_⟩
  have hl : (done ++ [[Value.int .i64 (done.length : Int), Value.agg (St.cells (Fl.runT v d l (fun n => nowT v n) Fl.stZ done.length)).toArray]]).length = done.length + 1 := by simp
  refine ⟨_, rfl, by rw [hl]; omega, ?_⟩
  rw [hl, himp]; exact impN_go (by omega) hfar2 hwt
 ·intro l1 D1 r1 w1 hY hgi
  simp only [List.cons_append, List.nil_append] at hgi
  refine (fstates1_c v d l av pv _ bv hV hd hB (fun n => nowT v n) (fun n => now_ph hV n) Fl.stZ 3000 (by omega) b ty fr 57 #[.pointer (some ⟨b, 0, none⟩)] #[] w [] l1 y1 y2 y3 _ _ (fun H w' hg => ⟨hg.toExt.heap hb, hv.good hg, hl.good hg⟩) (fun _ H w' _ hg t ht => fbody_c v d l av pv _ bv hV t (by omega) b _ _ w' (hg.toExt.heap hb) (hv.good hg)) hY ?_ w1 _ ⟨_, rfl, _, rfl, Nat.zero_le _, rfl⟩ (hgi.hsub (by (try dsimp only); repeat (first | exact HSub.nil _ | refine HSub.take (by repeat first | exact Take.head | apply Take.tail) ?_ | exact HSub.refl _ | refine HSub.drop ?_ | refine HSub.app ?_)))).mono ?_ ?_
  ·rintro done _ ⟨Hr, rfl, x, rfl, hdn, _⟩
   exact ⟨hdn, .tail _ (.tail _ (.tail _ (.head _))), .tail _ (.tail _ (.head _))⟩
  ·rintro _ w2 ⟨Hs, hg, done, h⟩
   exact ⟨Hs, hg, done, .inr h⟩
  rintro ch w2 ⟨Hs, hg, done, h1, h2, h3⟩
  exact ⟨Hs, hg, done, ⟨h1, h2⟩, h3⟩
 ·intro l1 D1 ob1 done Hr hF hJ
  exact hF.elim
 ·intro l1 D1 ob1 done jc Hr hE
  rcases hE with hE | hE
  ·skip
   obtain ⟨rfl, y, rfl, hey⟩ := hE
   refine V_ret (blk_r (then_r ?_))
   refine Leave.mark (by repeat first | exact .head | apply SetAt.tail) (Leave.nil (.cellA (us := [_, _, _, _, _, _, _]) rfl ag62 sz62 (by repeat first | exact mH | apply mT) rfl (.cell rfl ag31 (by repeat first | exact mH | apply mT) rfl .nil)) ?_)
   have hIT : (impT v d l i.toNat) = impN (Fl.stT v d l) 0 0 3000 0 (⟨i, Fl.spZ, Fl.spZ, Fl.spZ⟩ : Fl.Imp) := (impT_veh (by omega)).trans (by rw [eti])
   exact ⟨[], HSub.nil _, by rw [hIT, hey]; rfl, by rw [hIT, hey]; simp⟩
  skip
  obtain ⟨rfl, y, rfl, hey⟩ := hE
  refine V_exit (blk_e rfl (then_n ?_))
  refine Vs rfl ?_
  refine Lp rfl (p_build (r := [_, _, _, _, _, _, _]) pl62 zr62 rfl rfl rfl) ?_
  refine Ls (cs' := [_, _, _, _, _, _, _]) rfl sz62 rfl rfl rfl rfl rfl rfl rfl ?_
  refine Ls (cs' := [_]) rfl sz31 rfl rfl rfl rfl rfl rfl rfl ?_
  refine L_then (kp [4, 5] rfl) ?_
  refine V_ret ?_
  refine Leave.mark (by repeat first | exact .head | apply SetAt.tail) (Leave.nil (.cellA (us := [_, _, _, _, _, _, _]) rfl ag62 sz62 (by repeat first | exact mH | apply mT) rfl (.cell rfl ag31 (by repeat first | exact mH | apply mT) rfl .nil)) ?_)
  have hIT : (impT v d l i.toNat) = impN (Fl.stT v d l) 0 0 3000 0 (⟨i, Fl.spZ, Fl.spZ, Fl.spZ⟩ : Fl.Imp) := (impT_veh (by omega)).trans (by rw [eti])
  exact ⟨[], HSub.nil _, by rw [hIT, hey]; rfl, by rw [hIT, hey]; simp⟩
 intro l1 D1 ob1 done ch Hr hS hJ
 obtain ⟨rfl, hfar⟩ := hS
 obtain ⟨x, rfl, hdn, himp⟩ := hJ
 refine (blk_p (then_p ?_))
 refine LeaveP.mark (by repeat first | exact .head | apply SetAt.tail) (LeaveP.nil ?_)
 have hIT : (impT v d l i.toNat) = impN (Fl.stT v d l) 0 0 3000 0 (⟨i, Fl.spZ, Fl.spZ, Fl.spZ⟩ : Fl.Imp) := (impT_veh (by omega)).trans (by rw [eti])
 exact ⟨[], HSub.nil _, rfl, by rw [hIT, himp]; exact impN_far hfar⟩
set_option maxHeartbeats 4000000 in
theorem fimpactP_c (v : Veh) (d : Dir) (l : List Fl.Band) (av pv qv bv : Value) (hV : GoodV v) (hd : dirE d = 0) (hB : GoodB l) (i : Int) (hi : 0 ≤ i ∧ i < v.pieces.length) (b ty : Nat) (fr : Nat × Nat) (w : World) (hb : w.heap[b]? = some (.cells (flC v av pv qv d bv).toArray ty fr)) (hv : VehR w (VehV v av pv qv) v) (hl : BdsR w bv l) : FnX Try.prog 59 [.pointer (some ⟨b, 0, none⟩), .int .i64 i] w (fun u w' => ∃ Hc, Vc.Good w [] Hc w' ∧ u = .tuple #[.agg #[.int .i64 (impT v d l i.toNat).1.piece, .int .i64 (impT v d l i.toNat).1.x.lo, .int .i64 (impT v d l i.toNat).1.x.hi, .int .i64 (impT v d l i.toNat).1.y.lo, .int .i64 (impT v d l i.toNat).1.y.hi, .int .i64 (impT v d l i.toNat).1.at_.lo, .int .i64 (impT v d l i.toNat).1.at_.hi], .int .i64 (impT v d l i.toNat).2] ∧ (impT v d l i.toNat).2 ≠ 3) (fun ch w' => ∃ Hc, Vc.Good w [] Hc w' ∧ ch = [{ v := .iface 154 (.agg #[]), recovered := false }] ∧ (impT v d l i.toNat) = (Fl.imZ, 3)) := by
 obtain ⟨qa, qc, rfl, hqc, hqe⟩ := hv.sl.2.2.ex
 obtain ⟨tb, rfl, hc⟩ := hqe i.toNat _ (getD_cells (d := pcZ) (by omega))
 have hpc := pc_zero (hV.pc i.toNat (by omega))
 have hat := hpc.at_
 have eti : ((i.toNat : Nat) : Int) = i := by omega
 simp only [List.length_map] at hqc hb hv ⊢
 refine fn_newX Try.func59 rfl (by kernel_rfl) Try.ntmps59 Try.results59 rfl ?_
 refine Vs rfl ?_
 refine Lw rfl (w_alloc zr62 rfl) ?_
 rintro _ _ ⟨b1, hb1, rfl, rfl⟩
 refine Lw rfl (w_alloc zr31 rfl) ?_
 rintro _ _ ⟨b2, hb2, rfl, rfl⟩
 refine L_then (kp [0, 1, 4, 5] rfl) ?_
 refine Vs rfl ?_
 refine Lm rfl rfl rfl ?_
 refine Lp rfl (p_build (r := [_, _, _, _, _, _, _]) pl62 zr62 rfl rfl rfl) ?_
 refine Lp rfl (p_build (r := [_, _, _, _, _, _, _, _, _]) pl161 zr161 rfl rfl rfl) ?_
 refine Lw rfl (w_box rfl rfl) ?_
 rintro _ _ ⟨b3, hb3, rfl, rfl⟩
 refine Lw rfl (w_alloc zr159 rfl) ?_
 rintro _ _ ⟨b4, hb4, rfl, rfl⟩
 refine Ls (cs' := [_]) rfl sz159 rfl rfl rfl rfl rfl rfl rfl ?_
 refine L_then (kp [0, 1, 4, 5, 6] rfl) ?_
 refine Vs rfl ?_
 refine Lm rfl rfl rfl ?_
 refine Lp rfl (p_build (r := [_, _, _, _, _, _, _, _, _, _, _, _]) pl121 zr121 rfl rfl rfl) ?_
 refine Lm rfl rfl rfl ?_
 refine Lp rfl (p_func rfl rfl rfl) ?_
 refine Lw rfl (w_callN rfl rfl rfl (fun w hg => fstates_c b _ #[_] #[] Fl.stZ w)) ?_
 rintro _ _ ⟨_, rfl, _, z1, z2, z3, rfl, rfl⟩
 refine La rfl rfl rfl ?_
 refine L_then (kp [0, 1, 4, 5, 6, 7] rfl) ?_
 refine V_seq ?_
 refine Vs rfl ?_
 iterate 2 refine Lm rfl rfl rfl ?_
 refine Ln rfl rfl rfl ?_
 refine Lp rfl (p_fieldo fo152_0 rfl rfl) ?_
 refine Lp rfl (p_fieldo fo28_4 rfl rfl) ?_
 refine Lr rfl (r_loadB ag26 rfl rfl (own_cell hb _) List.not_mem_nil) ?_
 refine Lp rfl (p_len isl26 rfl rfl) ?_
 refine Lp rfl (p_lss rfl rfl rfl) ?_
 refine L_then (kp [0, 1, 4, 5, 6, 7, 26] rfl) ?_
 refine V_cond rfl ?_ ?_
 ·intro c1; try simp only [td] at c1
  refine V_seq (V_draw (.rd 0 (.rd 1 (.rd 2 (.rd 3 (.rd 4 (.rd 5 (.rd 6 (.rd 7 (.rd 8 (.rd 9 (.rd 10 (.rd 11 (.rd 12 (.rd 13 (.rd 14 (.rd 15 (.rd 16 (.rd 17 (.rd 18 (.rd 19 (.rd 20 (.rd 21 (.wr 22 [20, 18, 17, 16, 14, 13, 12, 11, 1] (.rd 23 (.rd 24 (.wr 25 [23] .done)))))))))))))))))))))))))) mixed (by kernel_rfl) rfl ?_)
  iterate 2 refine Dr rfl rfl (rl ag159 rfl rfl rfl) ?_
  refine Dm rfl rfl rfl rfl ?_
  refine Dp rfl rfl (p_nil rfl rfl) ?_
  refine Dp rfl rfl (p_fieldo fo152_0 rfl rfl) ?_
  refine Dp rfl rfl (p_fieldo fo28_4 rfl rfl) ?_
  refine Dr rfl rfl (r_loadB ag26 rfl rfl (own_cell hb _) List.not_mem_nil) ?_
  refine Dm rfl rfl rfl rfl ?_
  refine Dp rfl rfl (p_idx es26 rfl rfl rfl (by omega) (by omega)) ?_
  refine Dp rfl rfl (p_field fo49_1 rfl rfl) ?_
  refine Dr rfl rfl (r_loadB ag3 rfl rfl (hc 1 _ rfl) List.not_mem_nil) ?_
  refine Dm rfl rfl rfl rfl ?_
  refine Dp rfl rfl (p_nil rfl rfl) ?_
  refine Dp rfl rfl (p_fieldo fo152_0 rfl rfl) ?_
  refine Dp rfl rfl (p_fieldo fo28_4 rfl rfl) ?_
  refine Dr rfl rfl (r_loadB ag26 rfl rfl (own_cell hb _) List.not_mem_nil) ?_
  refine Dm rfl rfl rfl rfl ?_
  refine Dp rfl rfl (p_idx es26 rfl rfl rfl (by omega) (by omega)) ?_
  refine Dp rfl rfl (p_field fo49_5 rfl rfl) ?_
  refine Dr rfl rfl (r_loadB ag3 rfl rfl (hc 12 _ rfl) List.not_mem_nil) ?_
  refine Dp rfl rfl (p_nil rfl rfl) ?_
  refine Dp rfl rfl (p_fieldo fo161_1 rfl rfl) ?_
  refine D_wr (.go (E' := [(1, _)]) rfl (.plain rfl) (ws (cs' := [_, _, _, _, _, _, _, _, _]) sz3 rfl rfl rfl rfl rfl rfl rfl) rfl ?_)
  rintro _ _ ⟨rfl, rfl⟩
  refine ⟨(.cons rfl (.plain rfl) (rl ag159 rfl rfl rfl) .nil), ?_⟩
  refine Dp rfl rfl (p_nil rfl rfl) ?_
  refine Dp rfl rfl (p_fieldo fo161_2 rfl rfl) ?_
  refine D_wr (.go (E' := []) rfl (.plain rfl) (ws (cs' := [_, _, _, _, _, _, _, _, _]) sz3 rfl rfl rfl rfl rfl rfl rfl) rfl ?_)
  rintro _ _ ⟨rfl, rfl⟩
  refine ⟨.nil, ?_⟩
  refine D_then (kp [0, 1, 4, 5, 6] rfl) ?_
  refine V_region rfl ?_
  iterate 2 refine Lm rfl rfl rfl ?_
  refine L_go rfl (X_callX rfl rfl rfl (fun w hg => FnX.over (Hm := []) (Hk := _) hg (HSub.refl _) (fpiece_c v d l av pv _ bv hV hd hB i hi b _ _ w (hg.toExt.heap hb) (hv.good hg) (hl.good hg))) ?_ ?_)
  ·rintro _ _ ⟨_, rfl, rfl, j, hj, hjf⟩
   refine (then_p ?_)
   refine LeaveP.nil ?_
   exact ⟨[], HSub.nil _, rfl, impT_pcf (by omega) hj hjf⟩
  rintro _ _ ⟨_, rfl, y1, y2, y3, yb, rfl, rfl, hst⟩
  refine La rfl rfl rfl ?_
  refine L_then (kp [4, 5, 6, 7] rfl) ?_
  refine V_seq ?_
  refine Vs rfl ?_
  refine Lm rfl rfl rfl ?_
  refine L_then (kp [4, 5, 6, 54] rfl) ?_
  refine V_block ?_
  refine V_hs (H' := [(y3, Obj.cells #[.func (.func 93) #[] #[.pointer (some ⟨yb, 0, none⟩)]] 122), (y1, Obj.cells #[.pointer (some ⟨b, 0, none⟩)] 112), (b4, Obj.cells #[.pointer (some ⟨b3, 0, none⟩)] 159), (b3, Obj.cells #[.int .i64 (⟨i, Fl.spZ, Fl.spZ, Fl.spZ⟩ : Fl.Imp).piece, .int .i64 (⟨i, Fl.spZ, Fl.spZ, Fl.spZ⟩ : Fl.Imp).x.lo, .int .i64 (⟨i, Fl.spZ, Fl.spZ, Fl.spZ⟩ : Fl.Imp).x.hi, .int .i64 (⟨i, Fl.spZ, Fl.spZ, Fl.spZ⟩ : Fl.Imp).y.lo, .int .i64 (⟨i, Fl.spZ, Fl.spZ, Fl.spZ⟩ : Fl.Imp).y.hi, .int .i64 (⟨i, Fl.spZ, Fl.spZ, Fl.spZ⟩ : Fl.Imp).at_.lo, .int .i64 (⟨i, Fl.spZ, Fl.spZ, Fl.spZ⟩ : Fl.Imp).at_.hi, .int .i64 (v.pc i.toNat).at_, .int .i64 (v.pc i.toNat).floor] 161), (b2, Obj.cells #[.int .i64 0] 31), (b1, Obj.cells #[.int .i64 0, .int .i64 0, .int .i64 0, .int .i64 0, .int .i64 0, .int .i64 0, .int .i64 0] 62), (yb, Obj.cells #[.int .i64 0, .int .i64 0, .int .i64 (v.pc i.toNat).mass.lo, .int .i64 (v.pc i.toNat).mass.hi, .int .i64 (v.pc i.toNat).drag.lo, .int .i64 (v.pc i.toNat).drag.hi, .int .i64 0, .int .i64 0, .int .i64 0, .int .i64 0, .int .i64 0, .int .i64 0] 139), (y2, Obj.cells #[.int .i64 (kickS (Fl.stT v d l (v.pc i.toNat).at_.toNat) (v.pc i.toNat).kick).p.x.lo, .int .i64 (kickS (Fl.stT v d l (v.pc i.toNat).at_.toNat) (v.pc i.toNat).kick).p.x.hi, .int .i64 (kickS (Fl.stT v d l (v.pc i.toNat).at_.toNat) (v.pc i.toNat).kick).p.y.lo, .int .i64 (kickS (Fl.stT v d l (v.pc i.toNat).at_.toNat) (v.pc i.toNat).kick).p.y.hi, .int .i64 (kickS (Fl.stT v d l (v.pc i.toNat).at_.toNat) (v.pc i.toNat).kick).p.z.lo, .int .i64 (kickS (Fl.stT v d l (v.pc i.toNat).at_.toNat) (v.pc i.toNat).kick).p.z.hi, .int .i64 (kickS (Fl.stT v d l (v.pc i.toNat).at_.toNat) (v.pc i.toNat).kick).v.x.lo, .int .i64 (kickS (Fl.stT v d l (v.pc i.toNat).at_.toNat) (v.pc i.toNat).kick).v.x.hi, .int .i64 (kickS (Fl.stT v d l (v.pc i.toNat).at_.toNat) (v.pc i.toNat).kick).v.y.lo, .int .i64 (kickS (Fl.stT v d l (v.pc i.toNat).at_.toNat) (v.pc i.toNat).kick).v.y.hi, .int .i64 (kickS (Fl.stT v d l (v.pc i.toNat).at_.toNat) (v.pc i.toNat).kick).v.z.lo, .int .i64 (kickS (Fl.stT v d l (v.pc i.toNat).at_.toNat) (v.pc i.toNat).kick).v.z.hi] 121)]) (by (try dsimp only); repeat (first | exact HSub.nil _ | refine HSub.take (by repeat first | exact Take.head | apply Take.tail) ?_ | exact HSub.refl _ | refine HSub.drop ?_ | refine HSub.app ?_)) ?_
  refine V_rangeX (H0 := [(y3, Obj.cells #[.func (.func 93) #[] #[.pointer (some ⟨yb, 0, none⟩)]] 122), (y1, Obj.cells #[.pointer (some ⟨b, 0, none⟩)] 112), (b4, Obj.cells #[.pointer (some ⟨b3, 0, none⟩)] 159), (b3, Obj.cells #[.int .i64 (⟨i, Fl.spZ, Fl.spZ, Fl.spZ⟩ : Fl.Imp).piece, .int .i64 (⟨i, Fl.spZ, Fl.spZ, Fl.spZ⟩ : Fl.Imp).x.lo, .int .i64 (⟨i, Fl.spZ, Fl.spZ, Fl.spZ⟩ : Fl.Imp).x.hi, .int .i64 (⟨i, Fl.spZ, Fl.spZ, Fl.spZ⟩ : Fl.Imp).y.lo, .int .i64 (⟨i, Fl.spZ, Fl.spZ, Fl.spZ⟩ : Fl.Imp).y.hi, .int .i64 (⟨i, Fl.spZ, Fl.spZ, Fl.spZ⟩ : Fl.Imp).at_.lo, .int .i64 (⟨i, Fl.spZ, Fl.spZ, Fl.spZ⟩ : Fl.Imp).at_.hi, .int .i64 (v.pc i.toNat).at_, .int .i64 (v.pc i.toNat).floor] 161), (b2, Obj.cells #[.int .i64 0] 31), (b1, Obj.cells #[.int .i64 0, .int .i64 0, .int .i64 0, .int .i64 0, .int .i64 0, .int .i64 0, .int .i64 0] 62), (yb, Obj.cells #[.int .i64 0, .int .i64 0, .int .i64 (v.pc i.toNat).mass.lo, .int .i64 (v.pc i.toNat).mass.hi, .int .i64 (v.pc i.toNat).drag.lo, .int .i64 (v.pc i.toNat).drag.hi, .int .i64 0, .int .i64 0, .int .i64 0, .int .i64 0, .int .i64 0, .int .i64 0] 139)]) (Hi := [(y2, Obj.cells #[.int .i64 (kickS (Fl.stT v d l (v.pc i.toNat).at_.toNat) (v.pc i.toNat).kick).p.x.lo, .int .i64 (kickS (Fl.stT v d l (v.pc i.toNat).at_.toNat) (v.pc i.toNat).kick).p.x.hi, .int .i64 (kickS (Fl.stT v d l (v.pc i.toNat).at_.toNat) (v.pc i.toNat).kick).p.y.lo, .int .i64 (kickS (Fl.stT v d l (v.pc i.toNat).at_.toNat) (v.pc i.toNat).kick).p.y.hi, .int .i64 (kickS (Fl.stT v d l (v.pc i.toNat).at_.toNat) (v.pc i.toNat).kick).p.z.lo, .int .i64 (kickS (Fl.stT v d l (v.pc i.toNat).at_.toNat) (v.pc i.toNat).kick).p.z.hi, .int .i64 (kickS (Fl.stT v d l (v.pc i.toNat).at_.toNat) (v.pc i.toNat).kick).v.x.lo, .int .i64 (kickS (Fl.stT v d l (v.pc i.toNat).at_.toNat) (v.pc i.toNat).kick).v.x.hi, .int .i64 (kickS (Fl.stT v d l (v.pc i.toNat).at_.toNat) (v.pc i.toNat).kick).v.y.lo, .int .i64 (kickS (Fl.stT v d l (v.pc i.toNat).at_.toNat) (v.pc i.toNat).kick).v.y.hi, .int .i64 (kickS (Fl.stT v d l (v.pc i.toNat).at_.toNat) (v.pc i.toNat).kick).v.z.lo, .int .i64 (kickS (Fl.stT v d l (v.pc i.toNat).at_.toNat) (v.pc i.toNat).kick).v.z.hi] 121)]) rfl (kp [4, 5, 6, 54] rfl) rfl rfl (fun done x => done.length ≤ (3000 - (v.pc i.toNat).at_).toNat ∧ farS (Fl.runT v d l (fun _ => pcPh (v.pc i.toNat)) (kickS (Fl.stT v d l (v.pc i.toNat).at_.toNat) (v.pc i.toNat).kick) done.length) = false ∧ x = [.int .i64 (done.length : Int), .agg (St.cells (Fl.runT v d l (fun _ => pcPh (v.pc i.toNat)) (kickS (Fl.stT v d l (v.pc i.toNat).at_.toNat) (v.pc i.toNat).kick) done.length)).toArray]) (fun done Hr => ∃ x : Fl.Imp, Hr = [(y3, Obj.cells #[.func (.func 93) #[] #[.pointer (some ⟨yb, 0, none⟩)]] 122), (y1, Obj.cells #[.pointer (some ⟨b, 0, none⟩)] 112), (b4, Obj.cells #[.pointer (some ⟨b3, 0, none⟩)] 159), (b3, Obj.cells #[.int .i64 x.piece, .int .i64 x.x.lo, .int .i64 x.x.hi, .int .i64 x.y.lo, .int .i64 x.y.hi, .int .i64 x.at_.lo, .int .i64 x.at_.hi, .int .i64 (v.pc i.toNat).at_, .int .i64 (v.pc i.toNat).floor] 161), (b2, Obj.cells #[.int .i64 0] 31), (b1, Obj.cells #[.int .i64 0, .int .i64 0, .int .i64 0, .int .i64 0, .int .i64 0, .int .i64 0, .int .i64 0] 62), (yb, Obj.cells #[.int .i64 0, .int .i64 0, .int .i64 (v.pc i.toNat).mass.lo, .int .i64 (v.pc i.toNat).mass.hi, .int .i64 (v.pc i.toNat).drag.lo, .int .i64 (v.pc i.toNat).drag.hi, .int .i64 0, .int .i64 0, .int .i64 0, .int .i64 0, .int .i64 0, .int .i64 0] 139)] ∧ done.length ≤ (3000 - (v.pc i.toNat).at_).toNat ∧ impN (Fl.pcT v d l (v.pc i.toNat)) (v.pc i.toNat).at_ (v.pc i.toNat).floor (3000 - (v.pc i.toNat).at_).toNat 0 (⟨i, Fl.spZ, Fl.spZ, Fl.spZ⟩ : Fl.Imp) = impN (Fl.pcT v d l (v.pc i.toNat)) (v.pc i.toNat).at_ (v.pc i.toNat).floor ((3000 - (v.pc i.toNat).at_).toNat - done.length) done.length x) (fun _ jc Hr => (jc = .ret ∧ ∃ y : Fl.Imp, Hr = [(y3, Obj.cells #[.func (.func 93) #[] #[.pointer (some ⟨yb, 0, none⟩)]] 122), (y1, Obj.cells #[.pointer (some ⟨b, 0, none⟩)] 112), (b4, Obj.cells #[.pointer (some ⟨b3, 0, none⟩)] 159), (b3, Obj.cells #[.int .i64 y.piece, .int .i64 y.x.lo, .int .i64 y.x.hi, .int .i64 y.y.lo, .int .i64 y.y.hi, .int .i64 y.at_.lo, .int .i64 y.at_.hi, .int .i64 (v.pc i.toNat).at_, .int .i64 (v.pc i.toNat).floor] 161), (b2, Obj.cells #[.int .i64 0] 31), (b1, Obj.cells #[.int .i64 y.piece, .int .i64 y.x.lo, .int .i64 y.x.hi, .int .i64 y.y.lo, .int .i64 y.y.hi, .int .i64 y.at_.lo, .int .i64 y.at_.hi] 62), (yb, Obj.cells #[.int .i64 0, .int .i64 0, .int .i64 (v.pc i.toNat).mass.lo, .int .i64 (v.pc i.toNat).mass.hi, .int .i64 (v.pc i.toNat).drag.lo, .int .i64 (v.pc i.toNat).drag.hi, .int .i64 0, .int .i64 0, .int .i64 0, .int .i64 0, .int .i64 0, .int .i64 0] 139)] ∧ impN (Fl.pcT v d l (v.pc i.toNat)) (v.pc i.toNat).at_ (v.pc i.toNat).floor (3000 - (v.pc i.toNat).at_).toNat 0 (⟨i, Fl.spZ, Fl.spZ, Fl.spZ⟩ : Fl.Imp) = (y, 0)) ∨ (jc = .exit 0 ∧ ∃ y : Fl.Imp, Hr = [(y3, Obj.cells #[.func (.func 93) #[] #[.pointer (some ⟨yb, 0, none⟩)]] 122), (y1, Obj.cells #[.pointer (some ⟨b, 0, none⟩)] 112), (b4, Obj.cells #[.pointer (some ⟨b3, 0, none⟩)] 159), (b3, Obj.cells #[.int .i64 y.piece, .int .i64 y.x.lo, .int .i64 y.x.hi, .int .i64 y.y.lo, .int .i64 y.y.hi, .int .i64 y.at_.lo, .int .i64 y.at_.hi, .int .i64 (v.pc i.toNat).at_, .int .i64 (v.pc i.toNat).floor] 161), (b2, Obj.cells #[.int .i64 0] 31), (b1, Obj.cells #[.int .i64 0, .int .i64 0, .int .i64 0, .int .i64 0, .int .i64 0, .int .i64 0, .int .i64 0] 62), (yb, Obj.cells #[.int .i64 0, .int .i64 0, .int .i64 (v.pc i.toNat).mass.lo, .int .i64 (v.pc i.toNat).mass.hi, .int .i64 (v.pc i.toNat).drag.lo, .int .i64 (v.pc i.toNat).drag.hi, .int .i64 0, .int .i64 0, .int .i64 0, .int .i64 0, .int .i64 0, .int .i64 0] 139)] ∧ impN (Fl.pcT v d l (v.pc i.toNat)) (v.pc i.toNat).at_ (v.pc i.toNat).floor (3000 - (v.pc i.toNat).at_).toNat 0 (⟨i, Fl.spZ, Fl.spZ, Fl.spZ⟩ : Fl.Imp) = (Fl.imZ, 9))) (fun _ => False) (fun done ch => ch = [{ v := .iface 154 (.agg #[]), recovered := false }] ∧ farS (Fl.runT v d l (fun _ => pcPh (v.pc i.toNat)) (kickS (Fl.stT v d l (v.pc i.toNat).at_.toNat) (v.pc i.toNat).kick) done.length) = true) ((by rintro done vs ⟨_, _, rfl⟩; rfl)) (by repeat (first | exact List.nil_sublist _ | exact List.Sublist.refl _ | apply List.Sublist.cons_cons | apply List.Sublist.cons)) (⟨_, rfl, Nat.zero_le _, rfl⟩) ?_ ?_ ?_ ?_ ?_
  ·intro l1 D1 r1 done vs Hr own hp hJ
   obtain ⟨hdl, hfar, rfl⟩ := hp
   obtain ⟨x, rfl, hdn, himp⟩ := hJ
   have hfar2 : farS ((Fl.pcT v d l (v.pc i.toNat)) done.length) = false := hfar
   refine Vs rfl ?_
   refine La rfl rfl rfl ?_
   refine L_then (kp [4, 5, 6, 8, 54, 56] rfl) ?_
   refine V_region rfl ?_
   refine Lw rfl (w_alloc zr121 rfl) ?_
   rintro _ _ ⟨b7, hb7, rfl, rfl⟩
   refine Ls (cs' := [_, _, _, _, _, _, _, _, _, _, _, _]) rfl sz121 rfl rfl rfl rfl rfl rfl rfl ?_
   refine L_keep (kp [4, 5, 6, 8, 9, 54] rfl) ?_
   refine asgI (by repeat first | exact .head | apply SetAt.tail) ?_
   refine V_block ?_
   refine V_seq ?_
   refine Vs rfl ?_
   refine Lr rfl (rl ag159 rfl rfl rfl) ?_
   refine Lm rfl rfl rfl ?_
   refine Lr rfl (rlA (vs := [_, _, _, _, _, _, _, _, _, _, _, _]) ag121 sz121 rfl rfl rfl) ?_
   refine Lw rfl (w_callM rfl rfl rfl (fun o' => (by repeat first | exact .head | apply SetAt.tail)) (fun w hg => fwatch_c x (v.pc i.toNat).at_ (v.pc i.toNat).floor done.length (Fl.runT v d l (fun _ => pcPh (v.pc i.toNat)) (kickS (Fl.stT v d l (v.pc i.toNat).at_.toNat) (v.pc i.toNat).kick) done.length) (by omega) (by omega) b3 _ w (hg.own (b3, _) (by repeat first | exact mH | apply mT)))) ?_
   rintro _ _ ⟨_, rfl, rfl, rfl⟩
   refine L_then (kp [4, 5, 6, 8, 60] rfl) ?_
   refine V_cond rfl ?_ ?_
   ·intro c2; try simp only [td] at c2
    have hwt : (watchT (v.pc i.toNat).at_ (v.pc i.toNat).floor x done.length (Fl.runT v d l (fun _ => pcPh (v.pc i.toNat)) (kickS (Fl.stT v d l (v.pc i.toNat).at_.toNat) (v.pc i.toNat).kick) done.length)).2 = true := c2
    refine Vs rfl ?_
    refine Lr rfl (rl ag159 rfl rfl rfl) ?_
    refine Ln rfl rfl rfl ?_
    refine Lp rfl (p_fieldo fo161_0 rfl rfl) ?_
    refine Lr rfl (rlA (vs := [_, _, _, _, _, _, _]) ag62 sz62 rfl rfl rfl) ?_
    refine Ls (cs' := [_, _, _, _, _, _, _]) rfl sz62 rfl rfl rfl rfl rfl rfl rfl ?_
    refine Ls (cs' := [_]) rfl sz31 rfl rfl rfl rfl rfl rfl rfl ?_
    refine L_then (kp [4, 5] rfl) ?_
    refine V_ret (then_r (blk_r ?_))
    refine endX_r (by repeat first | exact .head | apply SetAt.tail) ?_
    refine ⟨[(y3, Obj.cells #[.func (.func 93) #[] #[.pointer (some ⟨yb, 0, none⟩)]] 122), (y1, Obj.cells #[.pointer (some ⟨b, 0, none⟩)] 112), (b4, Obj.cells #[.pointer (some ⟨b3, 0, none⟩)] 159), (b3, Obj.cells #[.int .i64 (watchT (v.pc i.toNat).at_ (v.pc i.toNat).floor x done.length (Fl.runT v d l (fun _ => pcPh (v.pc i.toNat)) (kickS (Fl.stT v d l (v.pc i.toNat).at_.toNat) (v.pc i.toNat).kick) done.length)).1.piece, .int .i64 (watchT (v.pc i.toNat).at_ (v.pc i.toNat).floor x done.length (Fl.runT v d l (fun _ => pcPh (v.pc i.toNat)) (kickS (Fl.stT v d l (v.pc i.toNat).at_.toNat) (v.pc i.toNat).kick) done.length)).1.x.lo, .int .i64 (watchT (v.pc i.toNat).at_ (v.pc i.toNat).floor x done.length (Fl.runT v d l (fun _ => pcPh (v.pc i.toNat)) (kickS (Fl.stT v d l (v.pc i.toNat).at_.toNat) (v.pc i.toNat).kick) done.length)).1.x.hi, .int .i64 (watchT (v.pc i.toNat).at_ (v.pc i.toNat).floor x done.length (Fl.runT v d l (fun _ => pcPh (v.pc i.toNat)) (kickS (Fl.stT v d l (v.pc i.toNat).at_.toNat) (v.pc i.toNat).kick) done.length)).1.y.lo, .int .i64 (watchT (v.pc i.toNat).at_ (v.pc i.toNat).floor x done.length (Fl.runT v d l (fun _ => pcPh (v.pc i.toNat)) (kickS (Fl.stT v d l (v.pc i.toNat).at_.toNat) (v.pc i.toNat).kick) done.length)).1.y.hi, .int .i64 (watchT (v.pc i.toNat).at_ (v.pc i.toNat).floor x done.length (Fl.runT v d l (fun _ => pcPh (v.pc i.toNat)) (kickS (Fl.stT v d l (v.pc i.toNat).at_.toNat) (v.pc i.toNat).kick) done.length)).1.at_.lo, .int .i64 (watchT (v.pc i.toNat).at_ (v.pc i.toNat).floor x done.length (Fl.runT v d l (fun _ => pcPh (v.pc i.toNat)) (kickS (Fl.stT v d l (v.pc i.toNat).at_.toNat) (v.pc i.toNat).kick) done.length)).1.at_.hi, .int .i64 (v.pc i.toNat).at_, .int .i64 (v.pc i.toNat).floor] 161), (b2, Obj.cells #[.int .i64 0] 31), (b1, Obj.cells #[.int .i64 (watchT (v.pc i.toNat).at_ (v.pc i.toNat).floor x done.length (Fl.runT v d l (fun _ => pcPh (v.pc i.toNat)) (kickS (Fl.stT v d l (v.pc i.toNat).at_.toNat) (v.pc i.toNat).kick) done.length)).1.piece, .int .i64 (watchT (v.pc i.toNat).at_ (v.pc i.toNat).floor x done.length (Fl.runT v d l (fun _ => pcPh (v.pc i.toNat)) (kickS (Fl.stT v d l (v.pc i.toNat).at_.toNat) (v.pc i.toNat).kick) done.length)).1.x.lo, .int .i64 (watchT (v.pc i.toNat).at_ (v.pc i.toNat).floor x done.length (Fl.runT v d l (fun _ => pcPh (v.pc i.toNat)) (kickS (Fl.stT v d l (v.pc i.toNat).at_.toNat) (v.pc i.toNat).kick) done.length)).1.x.hi, .int .i64 (watchT (v.pc i.toNat).at_ (v.pc i.toNat).floor x done.length (Fl.runT v d l (fun _ => pcPh (v.pc i.toNat)) (kickS (Fl.stT v d l (v.pc i.toNat).at_.toNat) (v.pc i.toNat).kick) done.length)).1.y.lo, .int .i64 (watchT (v.pc i.toNat).at_ (v.pc i.toNat).floor x done.length (Fl.runT v d l (fun _ => pcPh (v.pc i.toNat)) (kickS (Fl.stT v d l (v.pc i.toNat).at_.toNat) (v.pc i.toNat).kick) done.length)).1.y.hi, .int .i64 (watchT (v.pc i.toNat).at_ (v.pc i.toNat).floor x done.length (Fl.runT v d l (fun _ => pcPh (v.pc i.toNat)) (kickS (Fl.stT v d l (v.pc i.toNat).at_.toNat) (v.pc i.toNat).kick) done.length)).1.at_.lo, .int .i64 (watchT (v.pc i.toNat).at_ (v.pc i.toNat).floor x done.length (Fl.runT v d l (fun _ => pcPh (v.pc i.toNat)) (kickS (Fl.stT v d l (v.pc i.toNat).at_.toNat) (v.pc i.toNat).kick) done.length)).1.at_.hi] 62), (yb, Obj.cells #[.int .i64 0, .int .i64 0, .int .i64 (v.pc i.toNat).mass.lo, .int .i64 (v.pc i.toNat).mass.hi, .int .i64 (v.pc i.toNat).drag.lo, .int .i64 (v.pc i.toNat).drag.hi, .int .i64 0, .int .i64 0, .int .i64 0, .int .i64 0, .int .i64 0, .int .i64 0] 139)], (by (try dsimp only); repeat (first | exact HSub.nil _ | refine HSub.take (by repeat first | exact Take.head | apply Take.tail) ?_ | exact HSub.refl _ | refine HSub.drop ?_ | refine HSub.app ?_)), ?_⟩
    exact .inl ⟨rfl, _, rfl, by rw [himp]; exact impN_hit hfar2 hwt⟩
   intro c2; try simp only [td] at c2
   have hwt : (watchT (v.pc i.toNat).at_ (v.pc i.toNat).floor x done.length (Fl.runT v d l (fun _ => pcPh (v.pc i.toNat)) (kickS (Fl.stT v d l (v.pc i.toNat).at_.toNat) (v.pc i.toNat).kick) done.length)).2 = false := c2
   refine V_skip (then_n ?_)
   refine Vs rfl ?_
   refine Lr rfl (rl ag159 rfl rfl rfl) ?_
   refine Ln rfl rfl rfl ?_
   refine Lp rfl (p_fieldo fo161_1 rfl rfl) ?_
   refine Lr rfl (rl ag3 rfl rfl rfl) ?_
   refine Lm rfl rfl rfl ?_
   first | refine Lp rfl (p_add' rfl rfl rfl (by unfold InI; omega)) ?_ | refine Lp rfl (p_add rfl rfl rfl) ?_
   refine Lp rfl (p_eql rfl rfl rfl) ?_
   refine L_then (kp [4, 5, 71] rfl) ?_
   refine V_cond rfl ?_ ?_
   ·intro c3; try simp only [td] at c3
    refine V_exit (blk_o rfl ?_)
    refine endX_e (by repeat first | exact .head | apply SetAt.tail) ?_
    refine ⟨[(y3, Obj.cells #[.func (.func 93) #[] #[.pointer (some ⟨yb, 0, none⟩)]] 122), (y1, Obj.cells #[.pointer (some ⟨b, 0, none⟩)] 112), (b4, Obj.cells #[.pointer (some ⟨b3, 0, none⟩)] 159), (b3, Obj.cells #[.int .i64 (watchT (v.pc i.toNat).at_ (v.pc i.toNat).floor x done.length (Fl.runT v d l (fun _ => pcPh (v.pc i.toNat)) (kickS (Fl.stT v d l (v.pc i.toNat).at_.toNat) (v.pc i.toNat).kick) done.length)).1.piece, .int .i64 (watchT (v.pc i.toNat).at_ (v.pc i.toNat).floor x done.length (Fl.runT v d l (fun _ => pcPh (v.pc i.toNat)) (kickS (Fl.stT v d l (v.pc i.toNat).at_.toNat) (v.pc i.toNat).kick) done.length)).1.x.lo, .int .i64 (watchT (v.pc i.toNat).at_ (v.pc i.toNat).floor x done.length (Fl.runT v d l (fun _ => pcPh (v.pc i.toNat)) (kickS (Fl.stT v d l (v.pc i.toNat).at_.toNat) (v.pc i.toNat).kick) done.length)).1.x.hi, .int .i64 (watchT (v.pc i.toNat).at_ (v.pc i.toNat).floor x done.length (Fl.runT v d l (fun _ => pcPh (v.pc i.toNat)) (kickS (Fl.stT v d l (v.pc i.toNat).at_.toNat) (v.pc i.toNat).kick) done.length)).1.y.lo, .int .i64 (watchT (v.pc i.toNat).at_ (v.pc i.toNat).floor x done.length (Fl.runT v d l (fun _ => pcPh (v.pc i.toNat)) (kickS (Fl.stT v d l (v.pc i.toNat).at_.toNat) (v.pc i.toNat).kick) done.length)).1.y.hi, .int .i64 (watchT (v.pc i.toNat).at_ (v.pc i.toNat).floor x done.length (Fl.runT v d l (fun _ => pcPh (v.pc i.toNat)) (kickS (Fl.stT v d l (v.pc i.toNat).at_.toNat) (v.pc i.toNat).kick) done.length)).1.at_.lo, .int .i64 (watchT (v.pc i.toNat).at_ (v.pc i.toNat).floor x done.length (Fl.runT v d l (fun _ => pcPh (v.pc i.toNat)) (kickS (Fl.stT v d l (v.pc i.toNat).at_.toNat) (v.pc i.toNat).kick) done.length)).1.at_.hi, .int .i64 (v.pc i.toNat).at_, .int .i64 (v.pc i.toNat).floor] 161), (b2, Obj.cells #[.int .i64 0] 31), (b1, Obj.cells #[.int .i64 0, .int .i64 0, .int .i64 0, .int .i64 0, .int .i64 0, .int .i64 0, .int .i64 0] 62), (yb, Obj.cells #[.int .i64 0, .int .i64 0, .int .i64 (v.pc i.toNat).mass.lo, .int .i64 (v.pc i.toNat).mass.hi, .int .i64 (v.pc i.toNat).drag.lo, .int .i64 (v.pc i.toNat).drag.hi, .int .i64 0, .int .i64 0, .int .i64 0, .int .i64 0, .int .i64 0, .int .i64 0] 139)], (by (try dsimp only); repeat (first | exact HSub.nil _ | refine HSub.take (by repeat first | exact Take.head | apply Take.tail) ?_ | exact HSub.refl _ | refine HSub.drop ?_ | refine HSub.app ?_)), ?_⟩
    have ed : done.length = (3000 - (v.pc i.toNat).at_).toNat := by omega
    exact .inr ⟨rfl, _, rfl, by rw [himp, ← ed]; exact impN_out hfar2 hwt⟩
   intro c3; try simp only [td] at c3
   refine V_skip (blk_n ?_)
   refine endX_n (by repeat first | exact .head | apply SetAt.tail) ?_
   refine ⟨[(y3, Obj.cells #[.func (.func 93) #[] #[.pointer (some ⟨yb, 0, none⟩)]] 122), (y1, Obj.cells #[.pointer (some ⟨b, 0, none⟩)] 112), (b4, Obj.cells #[.pointer (some ⟨b3, 0, none⟩)] 159), (b3, Obj.cells #[.int .i64 (watchT (v.pc i.toNat).at_ (v.pc i.toNat).floor x done.length (Fl.runT v d l (fun _ => pcPh (v.pc i.toNat)) (kickS (Fl.stT v d l (v.pc i.toNat).at_.toNat) (v.pc i.toNat).kick) done.length)).1.piece, .int .i64 (watchT (v.pc i.toNat).at_ (v.pc i.toNat).floor x done.length (Fl.runT v d l (fun _ => pcPh (v.pc i.toNat)) (kickS (Fl.stT v d l (v.pc i.toNat).at_.toNat) (v.pc i.toNat).kick) done.length)).1.x.lo, .int .i64 (watchT (v.pc i.toNat).at_ (v.pc i.toNat).floor x done.length (Fl.runT v d l (fun _ => pcPh (v.pc i.toNat)) (kickS (Fl.stT v d l (v.pc i.toNat).at_.toNat) (v.pc i.toNat).kick) done.length)).1.x.hi, .int .i64 (watchT (v.pc i.toNat).at_ (v.pc i.toNat).floor x done.length (Fl.runT v d l (fun _ => pcPh (v.pc i.toNat)) (kickS (Fl.stT v d l (v.pc i.toNat).at_.toNat) (v.pc i.toNat).kick) done.length)).1.y.lo, .int .i64 (watchT (v.pc i.toNat).at_ (v.pc i.toNat).floor x done.length (Fl.runT v d l (fun _ => pcPh (v.pc i.toNat)) (kickS (Fl.stT v d l (v.pc i.toNat).at_.toNat) (v.pc i.toNat).kick) done.length)).1.y.hi, .int .i64 (watchT (v.pc i.toNat).at_ (v.pc i.toNat).floor x done.length (Fl.runT v d l (fun _ => pcPh (v.pc i.toNat)) (kickS (Fl.stT v d l (v.pc i.toNat).at_.toNat) (v.pc i.toNat).kick) done.length)).1.at_.lo, .int .i64 (watchT (v.pc i.toNat).at_ (v.pc i.toNat).floor x done.length (Fl.runT v d l (fun _ => pcPh (v.pc i.toNat)) (kickS (Fl.stT v d l (v.pc i.toNat).at_.toNat) (v.pc i.toNat).kick) done.length)).1.at_.hi, .int .i64 (v.pc i.toNat).at_, .int .i64 (v.pc i.toNat).floor] 161), (b2, Obj.cells #[.int .i64 0] 31), (b1, Obj.cells #[.int .i64 0, .int .i64 0, .int .i64 0, .int .i64 0, .int .i64 0, .int .i64 0, .int .i64 0] 62), (yb, Obj.cells #[.int .i64 0, .int .i64 0, .int .i64 (v.pc i.toNat).mass.lo, .int .i64 (v.pc i.toNat).mass.hi, .int .i64 (v.pc i.toNat).drag.lo, .int .i64 (v.pc i.toNat).drag.hi, .int .i64 0, .int .i64 0, .int .i64 0, .int .i64 0, .int .i64 0, .int .i64 0] 139)], (by (try dsimp only); repeat (first | exact HSub.nil _ | refine HSub.take (by repeat first | exact Take.head | apply Take.tail) ?_ | exact HSub.refl _ | refine HSub.drop ?_ | refine HSub.app ?_)), ?_⟩
   have hl : (done ++ [[Value.int .i64 (done.length : Int), Value.agg (St.cells (Fl.runT v d l (fun _ => pcPh (v.pc i.toNat)) (kickS (Fl.stT v d l (v.pc i.toNat).at_.toNat) (v.pc i.toNat).kick) done.length)).toArray]]).length = done.length + 1 := by simp
   refine ⟨_, rfl, by rw [hl]; omega, ?_⟩
   rw [hl, himp]; exact impN_go (by omega) hfar2 hwt
  ·intro l1 D1 r1 w1 hY hgi
   simp only [List.cons_append, List.nil_append] at hgi
   refine (fstates1_c v d l av pv _ bv hV hd hB (fun _ => pcPh (v.pc i.toNat)) (fun _ => PcB.ph (pc_zero (hV.pc i.toNat (by omega)))) (kickS (Fl.stT v d l (v.pc i.toNat).at_.toNat) (v.pc i.toNat).kick) (3000 - (v.pc i.toNat).at_).toNat (by omega) b ty fr 93 #[] #[.pointer (some ⟨yb, 0, none⟩)] w [] l1 y1 y2 y3 _ _ (fun H w' hg => ⟨hg.toExt.heap hb, hv.good hg, hl.good hg⟩) (fun _ H w' hI hg t ht => fpiece1_c (v.pc i.toNat) _ yb _ _ w' (by obtain ⟨Hr, rfl, x, rfl, _⟩ := hI; exact hg.own (yb, _) (by repeat first | exact mH | apply mT))) hY ?_ w1 _ ⟨_, rfl, _, rfl, Nat.zero_le _, rfl⟩ (hgi.hsub (by (try dsimp only); repeat (first | exact HSub.nil _ | refine HSub.take (by repeat first | exact Take.head | apply Take.tail) ?_ | exact HSub.refl _ | refine HSub.drop ?_ | refine HSub.app ?_)))).mono ?_ ?_
   ·rintro done _ ⟨Hr, rfl, x, rfl, hdn, _⟩
    exact ⟨hdn, .tail _ (.tail _ (.tail _ (.head _))), .tail _ (.tail _ (.head _))⟩
   ·rintro _ w2 ⟨Hs, hg, done, h⟩
    exact ⟨Hs, hg, done, .inr h⟩
   rintro ch w2 ⟨Hs, hg, done, h1, h2, h3⟩
   exact ⟨Hs, hg, done, ⟨h1, h2⟩, h3⟩
  ·intro l1 D1 ob1 done Hr hF hJ
   exact hF.elim
  ·intro l1 D1 ob1 done jc Hr hE
   rcases hE with hE | hE
   ·skip
    obtain ⟨rfl, y, rfl, hey⟩ := hE
    refine V_ret (blk_r (then_r ?_))
    refine Leave.mark (by repeat first | exact .head | apply SetAt.tail) (Leave.nil (.cellA (us := [_, _, _, _, _, _, _]) rfl ag62 sz62 (by repeat first | exact mH | apply mT) rfl (.cell rfl ag31 (by repeat first | exact mH | apply mT) rfl .nil)) ?_)
    have hIT : (impT v d l i.toNat) = impN (Fl.pcT v d l (v.pc i.toNat)) (v.pc i.toNat).at_ (v.pc i.toNat).floor (3000 - (v.pc i.toNat).at_).toNat 0 (⟨i, Fl.spZ, Fl.spZ, Fl.spZ⟩ : Fl.Imp) := (impT_pc (by omega) (anyFar_iff.2 hst)).trans (by rw [eti])
    exact ⟨[], HSub.nil _, by rw [hIT, hey]; rfl, by rw [hIT, hey]; simp⟩
   skip
   obtain ⟨rfl, y, rfl, hey⟩ := hE
   refine V_exit (blk_e rfl (then_n ?_))
   refine Vs rfl ?_
   refine Lp rfl (p_build (r := [_, _, _, _, _, _, _]) pl62 zr62 rfl rfl rfl) ?_
   refine Ls (cs' := [_, _, _, _, _, _, _]) rfl sz62 rfl rfl rfl rfl rfl rfl rfl ?_
   refine Ls (cs' := [_]) rfl sz31 rfl rfl rfl rfl rfl rfl rfl ?_
   refine L_then (kp [4, 5] rfl) ?_
   refine V_ret ?_
   refine Leave.mark (by repeat first | exact .head | apply SetAt.tail) (Leave.nil (.cellA (us := [_, _, _, _, _, _, _]) rfl ag62 sz62 (by repeat first | exact mH | apply mT) rfl (.cell rfl ag31 (by repeat first | exact mH | apply mT) rfl .nil)) ?_)
   have hIT : (impT v d l i.toNat) = impN (Fl.pcT v d l (v.pc i.toNat)) (v.pc i.toNat).at_ (v.pc i.toNat).floor (3000 - (v.pc i.toNat).at_).toNat 0 (⟨i, Fl.spZ, Fl.spZ, Fl.spZ⟩ : Fl.Imp) := (impT_pc (by omega) (anyFar_iff.2 hst)).trans (by rw [eti])
   exact ⟨[], HSub.nil _, by rw [hIT, hey]; rfl, by rw [hIT, hey]; simp⟩
  intro l1 D1 ob1 done ch Hr hS hJ
  obtain ⟨rfl, hfar⟩ := hS
  obtain ⟨x, rfl, hdn, himp⟩ := hJ
  refine (blk_p (then_p ?_))
  refine LeaveP.mark (by repeat first | exact .head | apply SetAt.tail) (LeaveP.nil ?_)
  have hIT : (impT v d l i.toNat) = impN (Fl.pcT v d l (v.pc i.toNat)) (v.pc i.toNat).at_ (v.pc i.toNat).floor (3000 - (v.pc i.toNat).at_).toNat 0 (⟨i, Fl.spZ, Fl.spZ, Fl.spZ⟩ : Fl.Imp) := (impT_pc (by omega) (anyFar_iff.2 hst)).trans (by rw [eti])
  exact ⟨[], HSub.nil _, rfl, by rw [hIT, himp]; exact impN_far hfar⟩
 intro c1; try simp only [td] at c1
 exfalso; omega
theorem fimpact_c (v : Veh) (d : Dir) (l : List Fl.Band) (av pv qv bv : Value) (hV : GoodV v) (hd : dirE d = 0) (hB : GoodB l) (i : Int) (hi : 0 ≤ i ∧ i ≤ v.pieces.length) (b ty : Nat) (fr : Nat × Nat) (w : World) (hb : w.heap[b]? = some (.cells (flC v av pv qv d bv).toArray ty fr)) (hv : VehR w (VehV v av pv qv) v) (hl : BdsR w bv l) : FnX Try.prog 59 [.pointer (some ⟨b, 0, none⟩), .int .i64 i] w (fun u w' => Ext w w' ∧ u = .tuple #[.agg #[.int .i64 (impT v d l i.toNat).1.piece, .int .i64 (impT v d l i.toNat).1.x.lo, .int .i64 (impT v d l i.toNat).1.x.hi, .int .i64 (impT v d l i.toNat).1.y.lo, .int .i64 (impT v d l i.toNat).1.y.hi, .int .i64 (impT v d l i.toNat).1.at_.lo, .int .i64 (impT v d l i.toNat).1.at_.hi], .int .i64 (impT v d l i.toNat).2] ∧ (impT v d l i.toNat).2 ≠ 3) (fun ch w' => Ext w w' ∧ ch = [{ v := .iface 154 (.agg #[]), recovered := false }] ∧ (impT v d l i.toNat) = (Fl.imZ, 3)) := by
 have hlq := hv.lq
 by_cases h : i < v.pieces.length
 ·exact (fimpactP_c v d l av pv qv bv hV hd hB i ⟨hi.1, h⟩ b ty fr w hb hv hl).mono (fun _ _ ⟨_, hg, h⟩ => ⟨hg.toExt, h⟩) (fun _ _ ⟨_, hg, h⟩ => ⟨hg.toExt, h⟩)
 have h6 := hV.pc6
 exact (fimpactV_c v d l av pv qv bv hV hd hB i ⟨by omega, by omega⟩ b ty fr w hb hv hl).mono (fun _ _ ⟨_, hg, h⟩ => ⟨hg.toExt, h⟩) (fun _ _ ⟨_, hg, h⟩ => ⟨hg.toExt, h⟩)
set_option maxHeartbeats 4000000 in
theorem fImpacts1_c (v : Veh) (d : Dir) (l : List Fl.Band) (av pv bv : Value) (qa : Option Addr) (qc : Nat) (hA : askedF v d l = 0) (vb fb lb xf ty ty1 ty2 : Nat) (fr fr1 fr2 : Nat × Nat) (w : World) (hvb : w.heap[vb]? = some (.cells #[.string v.name, .int .i64 v.gravity.lo, .int .i64 v.gravity.hi, av, pv, (.slice qa v.pieces.length qc)] ty1 fr1)) (hfb : w.heap[fb]? = some (.cells #[.pointer (some ⟨xf, 0, none⟩)] ty2 fr2)) (hd1 : vb ≠ lb) (hd2 : fb ≠ lb) (hW : ∀ H w2, Vc.Good w [lb] H w2 → w2.heap[xf]? = some (.cells (flC v av pv (.slice qa v.pieces.length qc) d bv).toArray ty fr) ∧ VehR w2 (VehV v av pv (.slice qa v.pieces.length qc)) v ∧ BdsR w2 bv l) (hg0 : Vc.Good w [lb] [(lb, Obj.cells #[.slice none 0 0] 56)] w) : FnX Try.prog 58 [.pointer (some ⟨vb, 0, none⟩), .pointer (some ⟨fb, 0, none⟩), .pointer (some ⟨lb, 0, none⟩)] w (fun u w' => ∃ Hc, Vc.Good w [lb] Hc w' ∧ u = .int .i64 (impsE v d l) ∧ ∃ sv G, Hc = (lb, Obj.cells #[sv] 56) :: G ∧ ((impsE v d l) = 0 → Grow 62 7 sv (v.pieces.length + 1) (imL (impL v d l (v.pieces.length + 1))) G)) (fun ch w' => ∃ Hc, Vc.Good w [lb] Hc w' ∧ ch = [{ v := .iface 154 (.agg #[]), recovered := false }] ∧ (impsE v d l) = 3 ∧ ∃ sv G, Hc = (lb, Obj.cells #[sv] 56) :: G) := by
 have hGG := asked_good hA
 have hV := hGG.1
 have hd := hGG.2.1
 have hB := hGG.2.2
 have h6 := hV.pc6
 refine fn_overX (M := [lb]) (H0 := [(lb, Obj.cells #[.slice none 0 0] 56)]) Try.func58 rfl (by kernel_rfl) Try.ntmps58 Try.results58 rfl hg0 ?_
 refine Vs rfl ?_
 refine La rfl rfl rfl ?_
 refine L_then (kp [0, 1, 2] rfl) ?_
 refine V_seq ?_
 refine Vs rfl ?_
 refine Lp rfl (p_fieldo fo28_4 rfl rfl) ?_
 refine Lr rfl (r_loadB ag26 rfl rfl (own_cell hvb _) (by simp [hd1, hd2])) ?_
 refine Lp rfl (p_len isl26 rfl rfl) ?_
 first | refine Lp rfl (p_add' rfl rfl rfl (by unfold InI; omega)) ?_ | refine Lp rfl (p_add rfl rfl rfl) ?_
 refine Lm rfl rfl rfl ?_
 refine L_then (kp [1, 2, 10, 11] rfl) ?_
 refine V_block ?_
 refine V_loop1 (γ := Int × Value × Heap) (kp [1, 2, 10] rfl) (fun (k, sv, G) => [(11, .int .i64 k)]) (fun (k, sv, G) => (lb, Obj.cells #[sv] 56) :: G) (fun (k, sv, G) => 0 ≤ k ∧ k ≤ v.pieces.length + 1 ∧ Grow 62 7 sv k.toNat (imL (impL v d l k.toNat)) G ∧ ∀ j, j < k.toNat → (impT v d l j).2 = 0) (fun (k, sv, G) => (v.pieces.length + 1 - k).toNat) ((0, .slice none 0 0, [])) (.cons rfl (.nil _)) (by repeat (first | exact List.nil_sublist _ | exact List.Sublist.refl _ | apply List.Sublist.cons_cons | apply List.Sublist.cons)) (⟨by omega, by omega, .nil, fun j hj => by omega⟩) ?_
 rintro ⟨k, sv, G⟩ hi
 obtain ⟨hk0, hk1, hgr, hall⟩ := hi
 dsimp only at hk0 hk1 hgr hall ⊢
 refine Vs rfl ?_
 refine Lp rfl (p_lss rfl rfl rfl) ?_
 refine L_then (kp [1, 2, 10, 11, 12] rfl) ?_
 refine V_seq ?_
 refine V_cond rfl ?_ ?_
 ·intro c1; try simp only [td] at c1
  refine V_skip (then_n ?_)
  refine V_seq ?_
  refine V_block ?_
  refine Vs rfl ?_
  refine Lm rfl rfl rfl ?_
  refine La rfl rfl rfl ?_
  refine L_then (kp [1, 2, 4, 10, 11] rfl) ?_
  refine Vs rfl ?_
  refine Lr rfl (r_loadB ag112 rfl rfl (own_cell hfb _) (by simp [hd1, hd2])) ?_
  refine Lm rfl rfl rfl ?_
  refine L_go rfl (X_callX rfl rfl rfl (fun w hg => FnX.ext hg (fimpact_c v d l av pv _ bv hV hd hB k (by omega) xf _ _ w (hW _ w hg).1 (hW _ w hg).2.1 (hW _ w hg).2.2)) ?_ ?_)
  ·rintro _ _ ⟨rfl, rfl, he3⟩
   refine (then_p (blk_p (then_p (then_p (blk_p (then_p ?_))))))
   refine LeaveP.nil ?_
   have hIE := imps_err hall (by omega) (show (impT v d l k.toNat).2 ≠ 0 by rw [he3]; decide) hA
   exact ⟨_, (by (try dsimp only); repeat (first | exact HSub.nil _ | refine HSub.take (by repeat first | exact Take.head | apply Take.tail) ?_ | exact HSub.refl _ | refine HSub.drop ?_ | refine HSub.app ?_)), rfl, by rw [hIE, he3], sv, G, rfl⟩
  rintro _ _ ⟨rfl, rfl, hn3⟩
  refine Lm rfl rfl rfl ?_
  iterate 2 refine Lp rfl (p_ext rfl rfl rfl) ?_
  refine Lw rfl (w_alloc zr62 rfl) ?_
  rintro _ _ ⟨b2, hb2, rfl, rfl⟩
  refine Ls (cs' := [_, _, _, _, _, _, _]) rfl sz62 rfl rfl rfl rfl rfl rfl rfl ?_
  refine La rfl rfl rfl ?_
  refine L_then (kp [1, 2, 5, 6, 10, 11] rfl) ?_
  refine V_seq ?_
  refine Vs rfl ?_
  refine Lm rfl rfl rfl ?_
  refine Lp rfl (p_neq rfl rfl rfl) ?_
  refine L_then (kp [1, 2, 5, 6, 10, 11, 21] rfl) ?_
  refine V_cond rfl ?_ ?_
  ·intro c2; try simp only [td] at c2
   have hne : (impT v d l k.toNat).2 ≠ 0 := c2
   have hIE := imps_err hall (by omega) hne hA
   refine Vs rfl ?_
   refine Lm rfl rfl rfl ?_
   refine La rfl rfl rfl ?_
   refine L_then (kp [3] rfl) ?_
   refine V_ret (then_r (blk_r (then_r (then_r (blk_r (then_r ?_))))))
   refine Leave.nil (.tmp rfl .nil) ?_
   exact ⟨_, (by (try dsimp only); repeat (first | exact HSub.nil _ | refine HSub.take (by repeat first | exact Take.head | apply Take.tail) ?_ | exact HSub.refl _ | refine HSub.drop ?_ | refine HSub.app ?_)), by rw [hIE]; rfl, sv, G, rfl, fun h0 => absurd (hIE.symm.trans h0) hne⟩
  intro c2; try simp only [td] at c2
  have he0 : (impT v d l k.toNat).2 = 0 := by first | exact c2 | omega
  refine V_skip (then_n ?_)
  refine V_region rfl ?_
  refine Lr rfl (rl ag56 rfl rfl rfl) ?_
  refine Lr rfl (rlA (vs := [_, _, _, _, _, _, _]) ag62 sz62 rfl rfl rfl) ?_
  refine Lw rfl (w_slice (r := [_, _, _, _, _, _, _]) un56 sz62 zr62 rfl (by decide) rfl (by decide) rfl rfl) ?_
  rintro _ _ ⟨b3, hb3, rfl, rfl⟩
  refine Lw rfl (w_app (pre := [_, _, _]) (G := G) (post := []) ap56 rfl rfl rfl hgr (by rw [List.append_nil]; rfl) rfl (news_own (by repeat first | exact mH | apply mT)) (by intro u hu; simp only [List.mem_cons, List.not_mem_nil, or_false] at hu; rcases hu with rfl | rfl | rfl | rfl | rfl | rfl | rfl <;> rfl) (by omega) (by simp only [maxLen]; omega)) ?_
  rintro _ _ ⟨G1a, G1c, G1, rfl, rfl, hgr1⟩
  try simp only [List.cons_append, List.nil_append, List.append_nil]
  refine Ls (cs' := [_]) rfl sz56 rfl rfl rfl rfl rfl rfl rfl ?_
  refine L_keep (kp [1, 2, 10, 11] rfl) (blk_n (then_n ?_))
  refine V_region rfl ?_
  first | refine Lp rfl (p_add' rfl rfl rfl (by unfold InI; omega)) ?_ | refine Lp rfl (p_add rfl rfl rfl) ?_
  refine Lm rfl rfl rfl ?_
  refine L_keep (kp [1, 2, 10, 11] rfl) (then_n ?_)
  refine ⟨(k + 1, _, G1), ?_, ?_, (.cons rfl (.cons rfl (.cons rfl (.cons rfl (.nil _))))), (by repeat (first | exact List.nil_sublist _ | exact List.Sublist.refl _ | apply List.Sublist.cons_cons | apply List.Sublist.cons | apply List.sublist_append_of_sublist_right)), rfl⟩
  ·have ek : (k + 1).toNat = k.toNat + 1 := by omega
   refine ⟨by omega, by omega, ?_, fun j hj => ?_⟩
   ·rw [ek, impL_s, imL_s]; exact hgr1
   by_cases e : j < k.toNat
   ·exact hall j e
   have ej : j = k.toNat := by omega
   rw [ej]; exact he0
  dsimp only; omega
 intro c1; try simp only [td] at c1
 refine V_exit (then_e (then_e (blk_e rfl (then_n ?_))))
 refine Vs rfl ?_
 refine La rfl rfl rfl ?_
 refine L_then (kp [3] rfl) ?_
 refine V_ret ?_
 refine Leave.nil (.tmp rfl .nil) ?_
 have ek : k.toNat = (v.pieces.length + 1) := by omega
 rw [ek] at hgr hall
 have hIE := imps_all (fun j hj => hall j (by omega)) hA
 exact ⟨_, (by (try dsimp only); repeat (first | exact HSub.nil _ | refine HSub.take (by repeat first | exact Take.head | apply Take.tail) ?_ | exact HSub.refl _ | refine HSub.drop ?_ | refine HSub.app ?_)), by rw [hIE]; rfl, sv, G, rfl, fun _ => hgr⟩
theorem fImpactsE_c (v : Veh) (d : Dir) (l : List Fl.Band) (av pv qv bv : Value) (w : World) (hv : VehR w (VehV v av pv qv) v) (hl : BdsR w bv l) (h : askedF v d l ≠ 0) : FnC Try.prog 20 [VehV v av pv qv, .agg #[.int .i64 d.x, .int .i64 d.y, .int .i64 d.z], bv] w fun u w' => ∃ Hc, Vc.Good w [] Hc w' ∧ ∃ A G, Hc = A ++ G ∧ LstOut 62 7 (impsL v d l).length (imL (impsL v d l)) (fun sv => .tuple #[sv, .int .i64 (impsE v d l)]) u A G := by
 refine fn_new Try.func20 rfl (by kernel_rfl) Try.ntmps20 Try.results20 rfl ?_
 refine Vs rfl ?_
 refine Lw rfl (w_box rfl rfl) ?_
 rintro _ _ ⟨b1, hb1, rfl, rfl⟩
 refine Lw rfl (w_box rfl rfl) ?_
 rintro _ _ ⟨b2, hb2, rfl, rfl⟩
 refine Lw rfl (w_alloc zr56 rfl) ?_
 rintro _ _ ⟨b3, hb3, rfl, rfl⟩
 refine La rfl rfl rfl ?_
 refine L_then (kp [2, 3, 4, 6] rfl) ?_
 refine Vs rfl ?_
 refine Lr rfl (rlA (vs := [_, _, _, _, _, _]) ag28 sz28 rfl rfl rfl) ?_
 refine Lr rfl (rlA (vs := [_, _, _]) ag30 sz30 rfl rfl rfl) ?_
 refine Lm rfl rfl rfl ?_
 refine Lc rfl rfl rfl rfl (fun w hg => fbeginE_c v d l av pv qv _ w (hv.good hg) (hl.good hg) h) ?_
 refine Lm rfl rfl rfl ?_
 iterate 2 refine Lp rfl (p_ext rfl rfl rfl) ?_
 refine Lw rfl (w_alloc zr112 rfl) ?_
 rintro _ _ ⟨b4, hb4, rfl, rfl⟩
 refine Ls (cs' := [_]) rfl sz112 rfl rfl rfl rfl rfl rfl rfl ?_
 refine La rfl rfl rfl ?_
 refine L_then (kp [3, 6, 7, 8] rfl) ?_
 refine V_seq ?_
 refine Vs rfl ?_
 refine Lm rfl rfl rfl ?_
 refine Lp rfl (p_neq rfl rfl rfl) ?_
 refine L_then (kp [3, 6, 7, 8, 17] rfl) ?_
 refine V_cond rfl ?_ ?_
 ·intro c1; try simp only [td] at c1
  refine Vs rfl ?_
  refine Lm rfl rfl rfl ?_
  refine Ls (cs' := [_]) rfl sz56 rfl rfl rfl rfl rfl rfl rfl ?_
  refine La rfl rfl rfl ?_
  refine L_then (kp [6, 7] rfl) ?_
  refine V_ret (then_r ?_)
  refine Leave.nil (.cell rfl ag56 (by repeat first | exact mH | apply mT) rfl (.tmp rfl .nil)) ?_
  refine ⟨[], HSub.nil _, [], [], rfl, rfl, .slice none 0 0, by rw [imps_asked h]; rfl, ?_⟩
  rw [impsL_bad (by rw [imps_asked h]; exact h)]; exact .nil
 intro c1; try simp only [td] at c1
 exfalso; omega
set_option maxHeartbeats 4000000 in
theorem fImpactsO_c (v : Veh) (d : Dir) (l : List Fl.Band) (av pv qv bv : Value) (w : World) (hv : VehR w (VehV v av pv qv) v) (hl : BdsR w bv l) (h : askedF v d l = 0) : FnC Try.prog 20 [VehV v av pv qv, .agg #[.int .i64 d.x, .int .i64 d.y, .int .i64 d.z], bv] w fun u w' => ∃ Hc, Vc.Good w [] Hc w' ∧ ∃ A G, Hc = A ++ G ∧ LstOut 62 7 (impsL v d l).length (imL (impsL v d l)) (fun sv => .tuple #[sv, .int .i64 (impsE v d l)]) u A G := by
 have hL := hl
 obtain ⟨ba, bc, rfl, hbc, hbe⟩ := hl.sl.ex
 simp only [List.length_map] at hL ⊢
 obtain ⟨qa, qc, rfl, hqc, hqe⟩ := hv.sl.2.2.ex
 simp only [List.length_map] at hqc hv ⊢
 refine fn_new Try.func20 rfl (by kernel_rfl) Try.ntmps20 Try.results20 rfl ?_
 refine Vs rfl ?_
 refine Lw rfl (w_box rfl rfl) ?_
 rintro _ _ ⟨b1, hb1, rfl, rfl⟩
 refine Lw rfl (w_box rfl rfl) ?_
 rintro _ _ ⟨b2, hb2, rfl, rfl⟩
 refine Lw rfl (w_alloc zr56 rfl) ?_
 rintro _ _ ⟨b3, hb3, rfl, rfl⟩
 refine La rfl rfl rfl ?_
 refine L_then (kp [2, 3, 4, 6] rfl) ?_
 refine Vs rfl ?_
 refine Lr rfl (rlA (vs := [_, _, _, _, _, _]) ag28 sz28 rfl rfl rfl) ?_
 refine Lr rfl (rlA (vs := [_, _, _]) ag30 sz30 rfl rfl rfl) ?_
 refine Lm rfl rfl rfl ?_
 refine Lw rfl (w_callN rfl rfl rfl (fun w hg => fbegin_c v d l av pv _ _ w (hv.good hg) (hL.good hg) h)) ?_
 rintro _ _ ⟨_, rfl, _, xf, rfl, rfl⟩
 refine Lm rfl rfl rfl ?_
 iterate 2 refine Lp rfl (p_ext rfl rfl rfl) ?_
 refine Lw rfl (w_alloc zr112 rfl) ?_
 rintro _ _ ⟨b5, hb5, rfl, rfl⟩
 refine Ls (cs' := [_]) rfl sz112 rfl rfl rfl rfl rfl rfl rfl ?_
 refine La rfl rfl rfl ?_
 refine L_then (kp [3, 6, 7, 8] rfl) ?_
 refine V_seq ?_
 refine Vs rfl ?_
 refine Lm rfl rfl rfl ?_
 refine Lp rfl (p_neq rfl rfl rfl) ?_
 refine L_then (kp [3, 6, 7, 8, 17] rfl) ?_
 refine V_cond rfl ?_ ?_
 ·intro c1; try simp only [td] at c1
  exfalso; simp_all; done
 intro c1; try simp only [td] at c1
 refine V_skip (then_n ?_)
 refine Vs rfl ?_
 refine Lp rfl (p_func rfl rfl rfl) ?_
 refine L_go rfl (X_wr (wr_call rfl rfl rfl (fun w hg => FnC.over (Hm := [(b3, Obj.cells #[.slice none 0 0] 56)]) (Hk := [(b5, _), (xf, _), (b1, _)]) hg (by (try dsimp only); repeat (first | exact HSub.nil _ | refine HSub.take (by repeat first | exact Take.head | apply Take.tail) ?_ | exact HSub.refl _ | refine HSub.drop ?_ | refine HSub.app ?_)) (flimited_c w [(b3, Obj.cells #[.slice none 0 0] 56)] (fun p hp => by rw [List.mem_singleton.1 hp]; exact hg.own (b3, _) (by repeat first | exact mH | apply mT)) (by simp) 58 #[.pointer (some ⟨b1, 0, none⟩), .pointer (some ⟨b5, 0, none⟩), .pointer (some ⟨b3, 0, none⟩)]
  (fun e Hc => e = (impsE v d l) ∧ ∃ sv G, Hc = (b3, Obj.cells #[sv] 56) :: G ∧ ((impsE v d l) = 0 → Grow 62 7 sv (v.pieces.length + 1) (imL (impL v d l (v.pieces.length + 1))) G))
  (fun Hc => (impsE v d l) = 3 ∧ ∃ sv G, Hc = (b3, Obj.cells #[sv] 56) :: G)
  (fun w1 he => (fImpacts1_c v d l av pv _ qa qc h b1 b5 b3 xf _ _ _ _ _ _ w1 ((hg.ext he).own (b1, _) (by repeat first | exact mH | apply mT)) ((hg.ext he).own (b5, _) (by repeat first | exact mH | apply mT)) (hg.dist (p := (b3, _)) (q := (b1, _)) (by (try dsimp only); repeat (first | exact HSub.nil _ | refine HSub.take (by repeat first | exact Take.head | apply Take.tail) ?_ | exact HSub.refl _ | refine HSub.drop ?_ | refine HSub.app ?_))) (hg.dist (p := (b3, _)) (q := (b5, _)) (by (try dsimp only); repeat (first | exact HSub.nil _ | refine HSub.take (by repeat first | exact Take.head | apply Take.tail) ?_ | exact HSub.refl _ | refine HSub.drop ?_ | refine HSub.app ?_)))
   (fun H w2 hg2 => ⟨(hg.ext he).kept hg2 (p := (xf, _)) (by repeat first | exact mH | apply mT) (by simpa using hg.dist (p := (b3, _)) (q := (xf, _)) (by (try dsimp only); repeat (first | exact HSub.nil _ | refine HSub.take (by repeat first | exact Take.head | apply Take.tail) ?_ | exact HSub.refl _ | refine HSub.drop ?_ | refine HSub.app ?_))), hv.good ((hg.ext he).pastM (Hm := [(b3, _)]) (by (try dsimp only); repeat (first | exact HSub.nil _ | refine HSub.take (by repeat first | exact Take.head | apply Take.tail) ?_ | exact HSub.refl _ | refine HSub.drop ?_ | refine HSub.app ?_)) hg2), hL.good ((hg.ext he).pastM (Hm := [(b3, _)]) (by (try dsimp only); repeat (first | exact HSub.nil _ | refine HSub.take (by repeat first | exact Take.head | apply Take.tail) ?_ | exact HSub.refl _ | refine HSub.drop ?_ | refine HSub.app ?_)) hg2)⟩)
   ((hg.ext he).begin (Hm := [(b3, _)]) (by (try dsimp only); repeat (first | exact HSub.nil _ | refine HSub.take (by repeat first | exact Take.head | apply Take.tail) ?_ | exact HSub.refl _ | refine HSub.drop ?_ | refine HSub.app ?_)))).mono (by rintro _ w2 ⟨Hc, h1, rfl, h2⟩; exact ⟨Hc, h1, _, rfl, rfl, h2⟩) (by rintro ch w2 ⟨Hc, h1, rfl, h2⟩; exact ⟨Hc, h1, rfl, h2⟩))))) ?_)
 rintro _ _ ⟨Hc, rfl, e, rfl, hor⟩
 obtain ⟨sv, G, rfl, rfl, hgr⟩ : ∃ sv G, Hc = (b3, Obj.cells #[sv] 56) :: G ∧ e = (impsE v d l) ∧ ((impsE v d l) = 0 → Grow 62 7 sv (v.pieces.length + 1) (imL (impL v d l (v.pieces.length + 1))) G) := by
  rcases hor with ⟨rfl, sv, G, rfl, hgr⟩ | ⟨rfl, h3, sv, G, rfl⟩
  ·exact ⟨sv, G, rfl, rfl, hgr⟩
  exact ⟨sv, G, rfl, h3.symm, fun h0 => absurd (h3.symm.trans h0) (by decide)⟩
 refine La rfl rfl rfl ?_
 refine L_then (kp [6, 7] rfl) ?_
 refine V_seq ?_
 refine Vs rfl ?_
 refine Lm rfl rfl rfl ?_
 refine Lp rfl (p_neq rfl rfl rfl) ?_
 refine L_then (kp [6, 7, 22] rfl) ?_
 refine V_cond rfl ?_ ?_
 ·intro c2; try simp only [td] at c2
  refine Vs rfl ?_
  refine Lm rfl rfl rfl ?_
  refine Ls (cs' := [_]) rfl sz56 rfl rfl rfl rfl rfl rfl rfl ?_
  refine La rfl rfl rfl ?_
  refine L_then (kp [6, 7] rfl) ?_
  refine V_ret (then_r ?_)
  refine Leave.nil (.cell rfl ag56 (by repeat first | exact mH | apply mT) rfl (.tmp rfl .nil)) ?_
  refine ⟨[], HSub.nil _, [], [], rfl, rfl, .slice none 0 0, rfl, ?_⟩
  rw [impsL_bad (by assumption)]; exact .nil
 intro c2; try simp only [td] at c2
 have h0 : (impsE v d l) = 0 := by first | exact c2 | omega
 have hgr0 := hgr h0
 obtain ⟨a9, cap9, rfl⟩ := hgr0.isSl
 refine V_skip (then_n ?_)
 refine Vs rfl ?_
 refine Lr rfl (rl ag56 rfl rfl rfl) ?_
 refine Ls (cs' := [_]) rfl sz56 rfl rfl rfl rfl rfl rfl rfl ?_
 refine La rfl rfl rfl ?_
 refine L_then (kp [6, 7] rfl) ?_
 refine V_ret ?_
 refine Leave.nil (.cell rfl ag56 (by repeat first | exact mH | apply mT) rfl (.tmp rfl .nil)) ?_
 refine ⟨G, (by (try dsimp only); repeat (first | exact HSub.nil _ | refine HSub.take (by repeat first | exact Take.head | apply Take.tail) ?_ | exact HSub.refl _ | refine HSub.drop ?_ | refine HSub.app ?_)), [], G, rfl, rfl, _, by rw [h0]; rfl, ?_⟩
 rw [impsL_len h0, impsL_all h0]; exact hgr0
theorem fImpacts_c (v : Veh) (d : Dir) (l : List Fl.Band) (av pv qv bv : Value) (w : World) (hv : VehR w (VehV v av pv qv) v) (hl : BdsR w bv l) : FnC Try.prog 20 [VehV v av pv qv, .agg #[.int .i64 d.x, .int .i64 d.y, .int .i64 d.z], bv] w fun u w' => ∃ Hc, Vc.Good w [] Hc w' ∧ ∃ A G, Hc = A ++ G ∧ LstOut 62 7 (impsL v d l).length (imL (impsL v d l)) (fun sv => .tuple #[sv, .int .i64 (impsE v d l)]) u A G := by
 by_cases h : askedF v d l = 0
 ·exact fImpactsO_c v d l av pv qv bv w hv hl h
 exact fImpactsE_c v d l av pv qv bv w hv hl h

end Go.Proofs.Ytbncegfgjbdheaa

/- Ytbncegfgjbdheaa: the examples; Awake. -/
set_option linter.all false
namespace Go.Proofs.Ytbncegfgjbdheaa
open Go.Vc Go.Tk Go.Fl
set_option maxRecDepth 100000
theorem lspan_c (a b : Int) (w : World) : FnP Try.prog 21 [.int .i64 a, .int .i64 b] w (.agg #[.int .i64 (⟨a, b⟩ : Span).lo, .int .i64 (⟨a, b⟩ : Span).hi]) := by
 refine fn_pure Try.func21 rfl (by kernel_rfl) Try.ntmps21 Try.results21 rfl ?_
 refine Vs rfl ?_
 refine Lw rfl (w_alloc zr23 rfl) ?_
 rintro _ _ ⟨b1, hb1, rfl, rfl⟩
 refine L_then (kp [0, 1, 4] rfl) ?_
 refine Vs rfl ?_
 iterate 2 refine Lm rfl rfl rfl ?_
 refine Lp rfl (p_build (r := [_, _]) pl23 zr23 rfl rfl rfl) ?_
 refine Ls (cs' := [_, _]) rfl sz23 rfl rfl rfl rfl rfl rfl rfl ?_
 refine L_then (kp [4] rfl) ?_
 refine V_ret ?_
 refine Leave.nil (.cellA (us := [_, _]) rfl ag23 sz23 (by repeat first | exact mH | apply mT) rfl .nil) ?_
 rfl
theorem lUp_c (w : World) : FnP Try.prog 22 [] w (.agg #[.int .i64 0, .int .i64 0, .int .i64 10000]) := by
 refine fn_pure Try.func22 rfl (by kernel_rfl) Try.ntmps22 Try.results22 rfl ?_
 refine Vs rfl ?_
 refine Lw rfl (w_alloc zr30 rfl) ?_
 rintro _ _ ⟨b1, hb1, rfl, rfl⟩
 refine L_then (kp [0] rfl) ?_
 refine Vs rfl ?_
 refine Lp rfl (p_build (r := [_, _, _]) pl30 zr30 rfl rfl rfl) ?_
 refine Ls (cs' := [_, _, _]) rfl sz30 rfl rfl rfl rfl rfl rfl rfl ?_
 refine L_then (kp [0] rfl) ?_
 refine V_ret ?_
 refine Leave.nil (.cellA (us := [_, _, _]) rfl ag30 sz30 (by repeat first | exact mH | apply mT) rfl .nil) ?_
 rfl
theorem lBands_c (w : World) : FnC Try.prog 23 [] w fun u w' => ∃ Hc, Vc.Good w [] Hc w' ∧ ∃ b, u = .slice (some ⟨b, 0, none⟩) 1 1 ∧ Hc = [(b, .cells (Fl.Band.cells ⟨0, 100000, ⟨300, 300⟩, ⟨0, 0⟩⟩).toArray 51)] := by
 refine fn_new Try.func23 rfl (by kernel_rfl) Try.ntmps23 Try.results23 rfl ?_
 refine Vs rfl ?_
 refine La rfl rfl rfl ?_
 refine L_then .nil ?_
 refine Vs rfl ?_
 refine Lc rfl rfl rfl rfl (fun w hg => lspan_c _ _ w) ?_
 refine Lp rfl (p_build (r := [_, _, _, _, _, _]) pl51 zr51 rfl rfl rfl) ?_
 refine Lw rfl (w_slice (r := [_, _, _, _, _, _]) un37 sz51 zr51 rfl (by decide) rfl (by decide) rfl rfl) ?_
 rintro _ _ ⟨b1, hb1, rfl, rfl⟩
 refine La rfl rfl rfl ?_
 refine L_then (kp [0] rfl) ?_
 refine V_ret ?_
 refine Leave.nil (.tmp rfl .nil) ?_
 exact ⟨_, (by (try dsimp only); repeat (first | exact HSub.nil _ | refine HSub.take (by repeat first | exact Take.head | apply Take.tail) ?_ | exact HSub.refl _ | refine HSub.drop ?_ | refine HSub.app ?_)), _, rfl, rfl⟩
theorem lDart_c (w : World) : FnC Try.prog 50 [] w fun u w' => ∃ Hc, Vc.Good w [] Hc w' ∧ ∃ b, u = VehV dartV (.slice none 0 0) (.slice (some ⟨b, 0, none⟩) 1 1) (.slice none 0 0) ∧ Hc = [(b, .cells (Phase.cells dartP).toArray 46)] := by
 refine fn_new Try.func50 rfl (by kernel_rfl) Try.ntmps50 Try.results50 rfl ?_
 refine Vs rfl ?_
 refine Lw rfl (w_alloc zr28 rfl) ?_
 rintro _ _ ⟨b1, hb1, rfl, rfl⟩
 refine L_then (kp [0] rfl) ?_
 refine Vs rfl ?_
 iterate 4 refine Lc rfl rfl rfl rfl (fun w hg => lspan_c _ _ w) ?_
 refine Lp rfl (p_build (r := [_, _, _, _, _, _]) pl44 zr44 rfl rfl rfl) ?_
 refine Lp rfl (p_build (r := [_, _, _, _, _, _, _, _, _, _, _, _, _]) pl46 zr46 rfl rfl rfl) ?_
 refine Lw rfl (w_slice (r := [_, _, _, _, _, _, _, _, _, _, _, _, _]) un25 sz46 zr46 rfl (by decide) rfl (by decide) rfl rfl) ?_
 rintro _ _ ⟨b2, hb2, rfl, rfl⟩
 refine Lp rfl (p_build (r := [_, _, _, _, _, _]) pl28 zr28 rfl rfl rfl) ?_
 refine Ls (cs' := [_, _, _, _, _, _]) rfl sz28 rfl rfl rfl rfl rfl rfl rfl ?_
 refine L_then (kp [0] rfl) ?_
 refine V_ret ?_
 refine Leave.nil (.cellA (us := [_, _, _, _, _, _]) rfl ag28 sz28 (by repeat first | exact mH | apply mT) rfl .nil) ?_
 exact ⟨_, (by (try dsimp only); repeat (first | exact HSub.nil _ | refine HSub.take (by repeat first | exact Take.head | apply Take.tail) ?_ | exact HSub.refl _ | refine HSub.drop ?_ | refine HSub.app ?_)), _, rfl, rfl⟩
theorem lWindy_c (w : World) : FnC Try.prog 51 [] w fun u w' => ∃ Hc, Vc.Good w [] Hc w' ∧ ∃ b b2, u = VehV windyV (.slice (some ⟨b2, 0, none⟩) 1 1) (.slice (some ⟨b, 0, none⟩) 1 1) (.slice none 0 0) ∧ Hc = [(b, .cells (Phase.cells windyP).toArray 46), (b2, .cells (AirE.cells ⟨0, 1000⟩).toArray 100)] := by
 refine fn_new Try.func51 rfl (by kernel_rfl) Try.ntmps51 Try.results51 rfl ?_
 refine Vs rfl ?_
 refine Lw rfl (w_alloc zr28 rfl) ?_
 rintro _ _ ⟨b1, hb1, rfl, rfl⟩
 refine L_then (kp [0] rfl) ?_
 refine Vs rfl ?_
 refine Lw rfl (w_callN rfl rfl rfl (fun w hg => lDart_c w)) ?_
 rintro _ _ ⟨_, rfl, _, x1, rfl, rfl⟩
 refine Lw rfl (w_alloc zr28 rfl) ?_
 rintro _ _ ⟨b3, hb3, rfl, rfl⟩
 refine Ls (cs' := [_, _, _, _, _, _]) rfl sz28 rfl rfl rfl rfl rfl rfl rfl ?_
 refine L_then (kp [0, 1] rfl) ?_
 refine Vs rfl ?_
 refine Lp rfl (p_build (r := [_, _]) pl100 zr100 rfl rfl rfl) ?_
 refine Lw rfl (w_slice (r := [_, _]) un24 sz100 zr100 rfl (by decide) rfl (by decide) rfl rfl) ?_
 rintro _ _ ⟨b4, hb4, rfl, rfl⟩
 refine Lp rfl (p_fieldo fo28_2 rfl rfl) ?_
 refine Ls (cs' := [_, _, _, _, _, _]) rfl sz24 rfl rfl rfl rfl rfl rfl rfl ?_
 refine L_then (kp [0, 1] rfl) ?_
 refine V_seq (V_draw (.rd 0 (.rd 1 (.wr 2 [1, 0] (.rd 3 (.rd 4 (.wr 5 [3] .done)))))) mixed (by kernel_rfl) rfl ?_)
 refine Dp rfl rfl (p_fieldo fo28_3 rfl rfl) ?_
 refine Dr rfl rfl (rl ag25 rfl rfl rfl) ?_
 refine D_wr (.go (E' := [(1, _)]) rfl (.plain rfl) (w_callP rfl rfl rfl (fun w hg => lspan_c _ _ w)) rfl ?_)
 rintro _ _ ⟨rfl, rfl⟩
 refine ⟨(.cons rfl (.plain rfl) (rl ag25 rfl rfl rfl) .nil), ?_⟩
 refine Dp rfl rfl (p_idxo es25 rfl rfl rfl (by decide) (by decide)) ?_
 refine Dp rfl rfl (p_fieldo fo46_3 rfl rfl) ?_
 refine D_wr (.go (E' := []) rfl (.plain rfl) (ws (cs' := [_, _, _, _, _, _, _, _, _, _, _, _, _]) sz23 rfl rfl rfl rfl rfl rfl rfl) rfl ?_)
 rintro _ _ ⟨rfl, rfl⟩
 refine ⟨.nil, ?_⟩
 refine D_then (kp [0, 1] rfl) ?_
 refine Vs rfl ?_
 refine Lr rfl (rlA (vs := [_, _, _, _, _, _]) ag28 sz28 rfl rfl rfl) ?_
 refine Ls (cs' := [_, _, _, _, _, _]) rfl sz28 rfl rfl rfl rfl rfl rfl rfl ?_
 refine L_then (kp [0] rfl) ?_
 refine V_ret ?_
 refine Leave.nil (.cellA (us := [_, _, _, _, _, _]) rfl ag28 sz28 (by repeat first | exact mH | apply mT) rfl .nil) ?_
 exact ⟨_, (by (try dsimp only); repeat (first | exact HSub.nil _ | refine HSub.take (by repeat first | exact Take.head | apply Take.tail) ?_ | exact HSub.refl _ | refine HSub.drop ?_ | refine HSub.app ?_)), _, _, rfl, rfl⟩
theorem lImp_c (b b2 ty ty2 : Nat) (fr fr2 : Nat × Nat) (w : World) (h : w.heap[b]? = some (.cells (Phase.cells dartP).toArray ty fr)) (h2 : w.heap[b2]? = some (.cells (Fl.Band.cells ⟨0, 100000, ⟨300, 300⟩, ⟨0, 0⟩⟩).toArray ty2 fr2)) : FnC Try.prog 20 [VehV dartV (.slice none 0 0) (.slice (some ⟨b, 0, none⟩) 1 1) (.slice none 0 0), .agg #[.int .i64 0, .int .i64 0, .int .i64 10000], .slice (some ⟨b2, 0, none⟩) 1 1] w fun u w' => ∃ Hc, Vc.Good w [] Hc w' ∧ ∃ A G, Hc = A ++ G ∧ LstOut 62 7 1 (imL [exI]) (fun sv => .tuple #[sv, .int .i64 0]) u A G := by
 have h9 := fImpacts_c dartV upD exB _ _ _ _ w (dart_R h) (exB_R h2)
 rwa [dart_impE, dart_imps] at h9
theorem lFly_c (b b2 ty ty2 : Nat) (fr fr2 : Nat × Nat) (w : World) (h : w.heap[b]? = some (.cells (Phase.cells dartP).toArray ty fr)) (h2 : w.heap[b2]? = some (.cells (Fl.Band.cells ⟨0, 100000, ⟨300, 300⟩, ⟨0, 0⟩⟩).toArray ty2 fr2)) : FnC Try.prog 16 [VehV dartV (.slice none 0 0) (.slice (some ⟨b, 0, none⟩) 1 1) (.slice none 0 0), .agg #[.int .i64 0, .int .i64 0, .int .i64 10000], .slice (some ⟨b2, 0, none⟩) 1 1, .int .i64 (-1)] w fun u w' => ∃ Hc, Vc.Good w [] Hc w' ∧ ∃ A G, Hc = A ++ G ∧ LstOut 54 12 0 (stL []) (fun sv => .tuple #[sv, .int .i64 7]) u A G := by
 have h9 := fFly_c dartV upD exB _ _ _ _ w (dart_R h) (exB_R h2) (-1)
 rwa [dart_flyE, dart_fly] at h9
theorem lForce_c (b b2 ty ty2 : Nat) (fr fr2 : Nat × Nat) (w : World) (h : w.heap[b]? = some (.cells (Phase.cells windyP).toArray ty fr)) (h2 : w.heap[b2]? = some (.cells (Fl.Band.cells ⟨0, 100000, ⟨300, 300⟩, ⟨0, 0⟩⟩).toArray ty2 fr2)) (b3 ty3 : Nat) (fr3 : Nat × Nat) (h3 : w.heap[b3]? = some (.cells (AirE.cells ⟨0, 1000⟩).toArray ty3 fr3)) : FnP Try.prog 33 [VehV windyV (.slice (some ⟨b3, 0, none⟩) 1 1) (.slice (some ⟨b, 0, none⟩) 1 1) (.slice none 0 0), .agg #[.int .i64 0, .int .i64 0, .int .i64 10000], .slice (some ⟨b2, 0, none⟩) 1 1, .int .i64 2, .agg #[.int .i64 windyS.p.x.lo, .int .i64 windyS.p.x.hi, .int .i64 windyS.p.y.lo, .int .i64 windyS.p.y.hi, .int .i64 windyS.p.z.lo, .int .i64 windyS.p.z.hi, .int .i64 windyS.v.x.lo, .int .i64 windyS.v.x.hi, .int .i64 windyS.v.y.lo, .int .i64 windyS.v.y.hi, .int .i64 windyS.v.z.lo, .int .i64 windyS.v.z.hi]] w (.tuple #[.agg #[.int .i64 3, .int .i64 4, .int .i64 0, .int .i64 0, .int .i64 (-199), .int .i64 (-198)], .int .i64 0]) := by
 have h9 := fForce_c windyV upD exB _ _ _ _ w (windy_R h h3) (exB_R h2) 2 windyS
 rwa [windy_fE, windy_f] at h9
set_option maxHeartbeats 4000000 in
theorem lAwake_c (w : World) : FnP Try.prog 15 [] w (.bool true) := by
 refine fn_pure Try.func15 rfl (by kernel_rfl) Try.ntmps15 Try.results15 rfl ?_
 refine Vs rfl ?_
 refine La rfl rfl rfl ?_
 refine L_then .nil ?_
 refine Vs rfl ?_
 refine Lw rfl (w_callN rfl rfl rfl (fun w hg => lDart_c w)) ?_
 rintro _ _ ⟨_, rfl, _, x1, rfl, rfl⟩
 refine Lc rfl rfl rfl rfl (fun w hg => lUp_c w) ?_
 refine Lw rfl (w_callN rfl rfl rfl (fun w hg => lBands_c w)) ?_
 rintro _ _ ⟨_, rfl, _, x2, rfl, rfl⟩
 refine Lw rfl (w_callG (pre := [_, _]) rfl rfl rfl rfl (fun w hg => lImp_c x1 x2 _ _ _ _ w (hg.own (x1, _) (by repeat first | exact mH | apply mT | apply List.mem_append_right)) (hg.own (x2, _) (by repeat first | exact mH | apply mT | apply List.mem_append_right)))) ?_
 rintro _ _ ⟨_, G, rfl, hfr1, rfl, sv1, rfl, hgr⟩
 obtain ⟨sa1, sc1, rfl⟩ := Grow.form hgr
 obtain ⟨gb, cur, rfl, rfl, hcur, _, _⟩ := Grow.form2 hgr (by decide)
 try simp only [List.cons_append, List.nil_append, List.append_nil]
 refine Lm rfl rfl rfl ?_
 iterate 2 refine Lp rfl (p_ext rfl rfl rfl) ?_
 iterate 2 refine La rfl rfl rfl ?_
 refine L_then (kp [1, 2] rfl) ?_
 refine Vs rfl ?_
 refine Lw rfl (w_callN rfl rfl rfl (fun w hg => lWindy_c w)) ?_
 rintro _ _ ⟨_, rfl, _, x3, x4, rfl, rfl⟩
 refine Lc rfl rfl rfl rfl (fun w hg => lUp_c w) ?_
 refine Lw rfl (w_callN rfl rfl rfl (fun w hg => lBands_c w)) ?_
 rintro _ _ ⟨_, rfl, _, x5, rfl, rfl⟩
 iterate 2 refine Lc rfl rfl rfl rfl (fun w hg => lspan_c _ _ w) ?_
 refine Lp rfl (p_build (r := [_, _, _, _, _, _, _, _, _, _, _, _]) pl54 zr54 rfl rfl rfl) ?_
 refine Lc rfl rfl rfl rfl (fun w hg => lForce_c x3 x5 _ _ _ _ w (hg.own (x3, _) (by repeat first | exact mH | apply mT | apply List.mem_append_right)) (hg.own (x5, _) (by repeat first | exact mH | apply mT | apply List.mem_append_right)) x4 _ _ (hg.own (x4, _) (by repeat first | exact mH | apply mT | apply List.mem_append_right))) ?_
 refine Lm rfl rfl rfl ?_
 iterate 2 refine Lp rfl (p_ext rfl rfl rfl) ?_
 refine Lw rfl (w_alloc zr90 rfl) ?_
 rintro _ _ ⟨b6, hb6, rfl, rfl⟩
 refine Ls (cs' := [_, _, _, _, _, _]) rfl sz90 rfl rfl rfl rfl rfl rfl rfl ?_
 refine La rfl rfl rfl ?_
 refine L_then (kp [1, 2, 3, 4] rfl) ?_
 refine Vs rfl ?_
 refine Lp rfl (p_build (r := [_, _, _]) pl30 zr30 rfl rfl rfl) ?_
 refine Lc rfl rfl rfl rfl (fun w hg => (show FnP _ _ _ w (.int .i64 2) from short_dir ▸ fdir_c ⟨0, 0, 5000⟩ w)) ?_
 refine La rfl rfl rfl ?_
 refine L_then (kp [1, 2, 3, 4, 5] rfl) ?_
 refine Vs rfl ?_
 refine Lw rfl (w_callN rfl rfl rfl (fun w hg => lDart_c w)) ?_
 rintro _ _ ⟨_, rfl, _, x6, rfl, rfl⟩
 refine Lc rfl rfl rfl rfl (fun w hg => lUp_c w) ?_
 refine Lw rfl (w_callN rfl rfl rfl (fun w hg => lBands_c w)) ?_
 rintro _ _ ⟨_, rfl, _, x7, rfl, rfl⟩
 refine Lw rfl (w_callG (pre := [_, _, _, _, _, _, _, _]) rfl rfl rfl rfl (fun w hg => lFly_c x6 x7 _ _ _ _ w (hg.own (x6, _) (by repeat first | exact mH | apply mT | apply List.mem_append_right)) (hg.own (x7, _) (by repeat first | exact mH | apply mT | apply List.mem_append_right)))) ?_
 rintro _ _ ⟨_, G2, rfl, hfr2, rfl, sv2, rfl, hgr2⟩
 obtain ⟨sa2, sc2, rfl⟩ := Grow.form hgr2
 try simp only [List.cons_append, List.nil_append, List.append_nil]
 refine Lm rfl rfl rfl ?_
 iterate 2 refine Lp rfl (p_ext rfl rfl rfl) ?_
 iterate 2 refine La rfl rfl rfl ?_
 refine L_then (kp [1, 2, 3, 4, 5, 7] rfl) ?_
 refine V_seq (V_draw (.rd 0 (.rd 1 (.rd 2 (.rd 3 (.rd 4 (.rd 5 (.rd 6 (.rd 7 (.rd 8 (.rd 9 (.rd 10 (.rd 11 (.rd 12 (.rd 13 (.rd 14 (.rd 15 (.rd 16 (.rd 17 (.rd 18 (.rd 19 (.rd 20 (.rd 21 (.rd 22 (.wr 23 [22, 21, 20, 18, 17, 16, 15, 14, 13, 12, 11, 10, 9, 8, 7, 6, 5, 4, 3, 2, 1, 0] (.rd 24 (.wr 25 [24, 22, 21, 20, 18, 17, 16, 15, 14, 13, 12, 11, 10, 9, 8, 7, 6, 5, 4, 3, 2, 1, 0] (.rd 26 (.rd 27 (.rd 28 (.rd 29 (.rd 30 (.wr 31 [30, 28, 27, 26, 24, 22, 21, 20, 19, 18, 17, 16, 15, 14, 13, 12, 11, 10, 9, 8, 7, 6, 5, 4, 3, 2, 1, 0] (.wr 32 [30, 28, 27, 26, 24, 22, 21, 20, 19, 18, 17, 16, 15, 14, 13, 12, 11, 10, 9, 8, 7, 6, 5, 4, 3, 2, 1, 0] (.rd 33 (.rd 34 (.rd 35 (.rd 36 .done))))))))))))))))))))))))))))))))))))) mixed (by kernel_rfl) rfl ?_)
 refine Dm rfl rfl rfl rfl ?_
 refine Dp rfl rfl (p_eql rfl rfl rfl) ?_
 refine Dm rfl rfl rfl rfl ?_
 refine D_p rfl (.yes rfl rfl rfl (by first | rfl | simp | decide)) (p_move rfl rfl) ?_
 refine D_p rfl (.yes rfl rfl rfl (by first | rfl | simp | decide)) (p_eql rfl rfl rfl) ?_
 refine Dp rfl rfl (p_pick_t rfl rfl (by first | rfl | simp | decide) rfl) ?_
 refine Dm rfl rfl rfl rfl ?_
 refine D_p rfl (.yes rfl rfl rfl (by first | rfl | simp | decide)) (p_move rfl rfl) ?_
 refine D_p rfl (.yes rfl rfl rfl (by first | rfl | simp | decide)) (p_eql rfl rfl rfl) ?_
 refine Dp rfl rfl (p_pick_t rfl rfl (by first | rfl | simp | decide) rfl) ?_
 refine Dm rfl rfl rfl rfl ?_
 refine D_p rfl (.yes rfl rfl rfl (by first | rfl | simp | decide)) (p_move rfl rfl) ?_
 refine D_p rfl (.yes rfl rfl rfl (by first | rfl | simp | decide)) (p_eql rfl rfl rfl) ?_
 refine Dp rfl rfl (p_pick_t rfl rfl (by first | rfl | simp | decide) rfl) ?_
 refine Dm rfl rfl rfl rfl ?_
 refine D_p rfl (.yes rfl rfl rfl (by first | rfl | simp | decide)) (p_move rfl rfl) ?_
 refine D_p rfl (.yes rfl rfl rfl (by first | rfl | simp | decide)) (p_len isl56 rfl rfl) ?_
 refine D_p rfl (.yes rfl rfl rfl (by first | rfl | simp | decide)) (p_eql rfl rfl rfl) ?_
 refine Dp rfl rfl (p_pick_t rfl rfl (by first | rfl | simp | decide) rfl) ?_
 refine Dm rfl rfl rfl rfl ?_
 refine D_p rfl (.yes rfl rfl rfl (by first | rfl | simp | decide)) (p_move rfl rfl) ?_
 refine D_p rfl (.yes rfl rfl rfl (by first | rfl | simp | decide)) (p_idxo es56 rfl rfl rfl (by decide) (by decide)) ?_
 refine D_rd rfl (.yes rfl rfl rfl (by first | rfl | simp | decide)) (r_loadA (vs := [.int .i64 0, .int .i64 (-79), .int .i64 79, .int .i64 0, .int .i64 0, .int .i64 40, .int .i64 40]) ag62 sz62 rfl rfl (by repeat first | exact mH | apply mT | apply List.mem_append_right) (row_sl (f := Imp.cells) (l := [exI]) (d := Fl.imZ) hcur (fun _ => rfl) rfl (by decide))) ?_
 refine D_wr (.go (E' := [(22, _)]) rfl (.yes rfl rfl rfl (by first | rfl | simp | decide)) (w_callP rfl rfl rfl (fun w hg => lspan_c _ _ w)) rfl ?_)
 rintro _ _ ⟨rfl, rfl⟩
 refine ⟨(.cons rfl (.yes rfl rfl rfl (by first | rfl | simp | decide)) (r_loadA (vs := [.int .i64 0, .int .i64 (-79), .int .i64 79, .int .i64 0, .int .i64 0, .int .i64 40, .int .i64 40]) ag62 sz62 rfl rfl (by repeat first | exact mH | apply mT | apply List.mem_append_right) (row_sl (f := Imp.cells) (l := [exI]) (d := Fl.imZ) hcur (fun _ => rfl) rfl (by decide))) .nil), ?_⟩
 refine D_p rfl (.yes rfl rfl rfl (by first | rfl | simp | decide)) (p_build (r := [_, _, _, _]) pl60 zr60 rfl rfl rfl) ?_
 refine D_wr (.go (E' := [(22, _)]) rfl (.yes rfl rfl rfl (by first | rfl | simp | decide)) (w_callP rfl rfl rfl (fun w hg => lspan_c _ _ w)) rfl ?_)
 rintro _ _ ⟨rfl, rfl⟩
 refine ⟨(.cons rfl (.yes rfl rfl rfl (by first | rfl | simp | decide)) (r_loadA (vs := [.int .i64 0, .int .i64 (-79), .int .i64 79, .int .i64 0, .int .i64 0, .int .i64 40, .int .i64 40]) ag62 sz62 rfl rfl (by repeat first | exact mH | apply mT | apply List.mem_append_right) (row_sl (f := Imp.cells) (l := [exI]) (d := Fl.imZ) hcur (fun _ => rfl) rfl (by decide))) .nil), ?_⟩
 refine D_p rfl (.yes rfl rfl rfl (by first | rfl | simp | decide)) (p_build (r := [_, _, _, _, _, _, _]) pl62 zr62 rfl rfl rfl) ?_
 refine D_p rfl (.yes rfl rfl rfl (by first | rfl | simp | decide)) (p_eqS lv62 ag62 eg62 rfl rfl rfl rfl rfl) ?_
 refine Dp rfl rfl (p_pick_t rfl rfl (by first | rfl | simp | decide) rfl) ?_
 refine Dm rfl rfl rfl rfl ?_
 refine D_rd rfl (.yes rfl rfl rfl (by first | rfl | (simp; done) | (simp [eqL, eqv, Box.cells]; done) | decide)) (rlA (vs := [_, _, _, _, _, _]) ag90 sz90 rfl rfl rfl) ?_
 refine D_wr (.go (E' := [(30, _), (22, _)]) rfl (.yes rfl rfl rfl (by first | rfl | (simp; done) | (simp [eqL, eqv, Box.cells]; done) | decide)) (w_callP rfl rfl rfl (fun w hg => lspan_c _ _ w)) rfl ?_)
 rintro _ _ ⟨rfl, rfl⟩
 refine ⟨(.cons rfl (.yes rfl rfl rfl (by first | rfl | (simp; done) | (simp [eqL, eqv, Box.cells]; done) | decide)) (rlA (vs := [_, _, _, _, _, _]) ag90 sz90 rfl rfl rfl) (.cons rfl (.yes rfl rfl rfl (by first | rfl | simp | decide)) (r_loadA (vs := [.int .i64 0, .int .i64 (-79), .int .i64 79, .int .i64 0, .int .i64 0, .int .i64 40, .int .i64 40]) ag62 sz62 rfl rfl (by repeat first | exact mH | apply mT | apply List.mem_append_right) (row_sl (f := Imp.cells) (l := [exI]) (d := Fl.imZ) hcur (fun _ => rfl) rfl (by decide))) .nil)), ?_⟩
 refine D_wr (.go (E' := [(30, _), (22, _)]) rfl (.yes rfl rfl rfl (by first | rfl | (simp; done) | (simp [eqL, eqv, Box.cells]; done) | decide)) (w_callP rfl rfl rfl (fun w hg => lspan_c _ _ w)) rfl ?_)
 rintro _ _ ⟨rfl, rfl⟩
 refine ⟨(.cons rfl (.yes rfl rfl rfl (by first | rfl | (simp; done) | (simp [eqL, eqv, Box.cells]; done) | decide)) (rlA (vs := [_, _, _, _, _, _]) ag90 sz90 rfl rfl rfl) (.cons rfl (.yes rfl rfl rfl (by first | rfl | simp | decide)) (r_loadA (vs := [.int .i64 0, .int .i64 (-79), .int .i64 79, .int .i64 0, .int .i64 0, .int .i64 40, .int .i64 40]) ag62 sz62 rfl rfl (by repeat first | exact mH | apply mT | apply List.mem_append_right) (row_sl (f := Imp.cells) (l := [exI]) (d := Fl.imZ) hcur (fun _ => rfl) rfl (by decide))) .nil)), ?_⟩
 refine D_p rfl (.yes rfl rfl rfl (by first | rfl | (simp; done) | (simp [eqL, eqv, Box.cells]; done) | decide)) (p_build (r := [_, _, _, _, _, _]) pl90 zr90 rfl rfl rfl) ?_
 refine D_p rfl (.yes rfl rfl rfl (by first | rfl | (simp; done) | (simp [eqL, eqv, Box.cells]; done) | decide)) (p_eqS lv90 ag90 eg90 rfl rfl rfl rfl rfl) ?_
 refine Dp rfl rfl (p_pick_t rfl rfl (by first | rfl | (simp; done) | (simp [eqL, eqv, Box.cells]; done) | decide) rfl) ?_
 refine Dp rfl rfl (p_assign rfl rfl) ?_
 refine D_then (kp [0] rfl) ?_
 refine V_ret ?_
 refine Leave.nil (.tmp rfl .nil) ?_
 rfl

end Go.Proofs.Ytbncegfgjbdheaa

/- Ytbncegfgjbdheaa: the reference: checks. -/
set_option linter.all false
namespace Go.Proofs.Ytbncegfgjbdheaa
open Go.Vc Go.Tk Go.Fl
set_option maxRecDepth 100000
end Go.Proofs.Ytbncegfgjbdheaa

/- Ytbncegfgjbdheaa: the reference: checks; winds and air. -/
set_option linter.all false
namespace Go.Proofs.Ytbncegfgjbdheaa
open Go.Vc Go.Tk Go.Fl
set_option maxRecDepth 100000
end Go.Proofs.Ytbncegfgjbdheaa

/- Ytbncegfgjbdheaa: points; Down; Own. -/
set_option linter.all false
namespace Go.Proofs.Ytbncegfgjbdheaa
open Go.Vc Go.Tk Go.Fl
set_option maxRecDepth 100000
theorem fpoint_c (p : Fl.Pt) (w : World) : FnP Try.prog 119 [.agg #[.int .i64 p.x, .int .i64 p.y, .int .i64 p.z, .int .i64 p.vx, .int .i64 p.vy, .int .i64 p.vz]] w (.agg #[.int .i64 (Fl.ptS p).p.x.lo, .int .i64 (Fl.ptS p).p.x.hi, .int .i64 (Fl.ptS p).p.y.lo, .int .i64 (Fl.ptS p).p.y.hi, .int .i64 (Fl.ptS p).p.z.lo, .int .i64 (Fl.ptS p).p.z.hi, .int .i64 (Fl.ptS p).v.x.lo, .int .i64 (Fl.ptS p).v.x.hi, .int .i64 (Fl.ptS p).v.y.lo, .int .i64 (Fl.ptS p).v.y.hi, .int .i64 (Fl.ptS p).v.z.lo, .int .i64 (Fl.ptS p).v.z.hi]) := by
 refine fn_pure Try.func119 rfl (by kernel_rfl) Try.ntmps119 Try.results119 rfl ?_
 refine Vs rfl ?_
 refine Lw rfl (w_box rfl rfl) ?_
 rintro _ _ ⟨b1, hb1, rfl, rfl⟩
 refine Lw rfl (w_alloc zr121 rfl) ?_
 rintro _ _ ⟨b2, hb2, rfl, rfl⟩
 refine L_then (kp [1, 2] rfl) ?_
 refine V_seq (V_draw (.rd 0 (.rd 1 (.rd 3 (.rd 4 (.rd 6 (.rd 7 (.rd 10 (.rd 11 (.rd 13 (.rd 14 (.rd 16 (.rd 17 (.wr 2 [17, 16, 14, 13, 11, 10, 7, 6, 4, 3, 0] (.wr 5 [17, 16, 14, 13, 11, 10, 7, 6, 3, 1, 0] (.wr 8 [17, 16, 14, 13, 11, 10, 6, 4, 3, 1, 0] (.rd 9 (.wr 12 [17, 16, 14, 13, 10, 9, 7, 6, 4, 3, 1, 0] (.wr 15 [17, 16, 13, 11, 10, 9, 7, 6, 4, 3, 1, 0] (.wr 18 [16, 14, 13, 11, 10, 9, 7, 6, 4, 3, 1, 0] (.rd 19 (.rd 20 (.wr 21 [] .done)))))))))))))))))))))) mixed (by kernel_rfl) rfl ?_)
 refine Dp rfl rfl (p_fieldo fo88_0 rfl rfl) ?_
 refine Dr rfl rfl (rl ag3 rfl rfl rfl) ?_
 refine Dp rfl rfl (p_fieldo fo88_1 rfl rfl) ?_
 refine Dr rfl rfl (rl ag3 rfl rfl rfl) ?_
 refine Dp rfl rfl (p_fieldo fo88_2 rfl rfl) ?_
 refine Dr rfl rfl (rl ag3 rfl rfl rfl) ?_
 refine Dp rfl rfl (p_fieldo fo88_3 rfl rfl) ?_
 refine Dr rfl rfl (rl ag3 rfl rfl rfl) ?_
 refine Dp rfl rfl (p_fieldo fo88_4 rfl rfl) ?_
 refine Dr rfl rfl (rl ag3 rfl rfl rfl) ?_
 refine Dp rfl rfl (p_fieldo fo88_5 rfl rfl) ?_
 refine Dr rfl rfl (rl ag3 rfl rfl rfl) ?_
 refine D_wr (.go (E' := [(17, _), (14, _), (11, _), (7, _), (4, _)]) rfl (.plain rfl) (w_callP rfl rfl rfl (fun w hg => fat_c _ w)) rfl ?_)
 rintro _ _ ⟨rfl, rfl⟩
 refine ⟨(.cons rfl (.plain rfl) (rl ag3 rfl rfl rfl) (.cons rfl (.plain rfl) (rl ag3 rfl rfl rfl) (.cons rfl (.plain rfl) (rl ag3 rfl rfl rfl) (.cons rfl (.plain rfl) (rl ag3 rfl rfl rfl) (.cons rfl (.plain rfl) (rl ag3 rfl rfl rfl) .nil))))), ?_⟩
 refine D_wr (.go (E' := [(17, _), (14, _), (11, _), (7, _)]) rfl (.plain rfl) (w_callP rfl rfl rfl (fun w hg => fat_c _ w)) rfl ?_)
 rintro _ _ ⟨rfl, rfl⟩
 refine ⟨(.cons rfl (.plain rfl) (rl ag3 rfl rfl rfl) (.cons rfl (.plain rfl) (rl ag3 rfl rfl rfl) (.cons rfl (.plain rfl) (rl ag3 rfl rfl rfl) (.cons rfl (.plain rfl) (rl ag3 rfl rfl rfl) .nil)))), ?_⟩
 refine D_wr (.go (E' := [(17, _), (14, _), (11, _)]) rfl (.plain rfl) (w_callP rfl rfl rfl (fun w hg => fat_c _ w)) rfl ?_)
 rintro _ _ ⟨rfl, rfl⟩
 refine ⟨(.cons rfl (.plain rfl) (rl ag3 rfl rfl rfl) (.cons rfl (.plain rfl) (rl ag3 rfl rfl rfl) (.cons rfl (.plain rfl) (rl ag3 rfl rfl rfl) .nil))), ?_⟩
 refine Dp rfl rfl (p_buildA (r := [_, _, _, _, _, _]) ar103 zr103 rfl rfl rfl) ?_
 refine D_wr (.go (E' := [(17, _), (14, _)]) rfl (.plain rfl) (w_callP rfl rfl rfl (fun w hg => fat_c _ w)) rfl ?_)
 rintro _ _ ⟨rfl, rfl⟩
 refine ⟨(.cons rfl (.plain rfl) (rl ag3 rfl rfl rfl) (.cons rfl (.plain rfl) (rl ag3 rfl rfl rfl) .nil)), ?_⟩
 refine D_wr (.go (E' := [(17, _)]) rfl (.plain rfl) (w_callP rfl rfl rfl (fun w hg => fat_c _ w)) rfl ?_)
 rintro _ _ ⟨rfl, rfl⟩
 refine ⟨(.cons rfl (.plain rfl) (rl ag3 rfl rfl rfl) .nil), ?_⟩
 refine D_wr (.go (E' := []) rfl (.plain rfl) (w_callP rfl rfl rfl (fun w hg => fat_c _ w)) rfl ?_)
 rintro _ _ ⟨rfl, rfl⟩
 refine ⟨.nil, ?_⟩
 refine Dp rfl rfl (p_buildA (r := [_, _, _, _, _, _]) ar103 zr103 rfl rfl rfl) ?_
 refine Dp rfl rfl (p_build (r := [_, _, _, _, _, _, _, _, _, _, _, _]) pl121 zr121 rfl rfl rfl) ?_
 refine D_wr (.go (E' := []) rfl (.plain rfl) (ws (cs' := [_, _, _, _, _, _, _, _, _, _, _, _]) sz121 rfl rfl rfl rfl rfl rfl rfl) rfl ?_)
 rintro _ _ ⟨rfl, rfl⟩
 refine ⟨.nil, ?_⟩
 refine D_then (kp [2] rfl) ?_
 refine V_ret ?_
 refine Leave.nil (.cellA (us := [_, _, _, _, _, _, _, _, _, _, _, _]) rfl ag121 sz121 (by repeat first | exact mH | apply mT) rfl .nil) ?_
 rfl
theorem fstray1_c (p : Fl.Pt) (w : World) : FnP Try.prog 118 [.agg (Fl.Pt.cells p).toArray] w (.bool (farS (Fl.ptS p))) := by
 refine fn_pure Try.func118 rfl (by kernel_rfl) Try.ntmps118 Try.results118 rfl ?_
 refine Vs rfl ?_
 refine Lw rfl (w_box rfl rfl) ?_
 rintro _ _ ⟨b1, hb1, rfl, rfl⟩
 refine La rfl rfl rfl ?_
 refine L_then (kp [1] rfl) ?_
 refine Vs rfl ?_
 refine Lr rfl (rlA (vs := [_, _, _, _, _, _]) ag88 sz88 rfl rfl rfl) ?_
 refine Lc rfl rfl rfl rfl (fun w hg => fpoint_c p w) ?_
 refine Lc rfl rfl rfl rfl (fun w hg => ffar_c (Fl.ptS p) w) ?_
 refine La rfl rfl rfl ?_
 refine L_then (kp [2] rfl) ?_
 refine V_ret ?_
 refine Leave.nil (.tmp rfl .nil) ?_
 rfl
theorem fstray_c (l : List Fl.Pt) (x : Value) (w : World) (hl : PtsR w x l) : FnP Try.prog 106 [x] w (.int .i64 (strayE l)) := by
 have hL := hl
 obtain ⟨pa, pc, rfl, hpc, hpe⟩ := hl.sl.ex
 simp only [List.length_map] at hL hpc hl ⊢
 refine fn_pure Try.func106 rfl (by kernel_rfl) Try.ntmps106 Try.results106 rfl ?_
 refine Vs rfl ?_
 refine La rfl rfl rfl ?_
 refine L_then (kp [0] rfl) ?_
 refine V_seq ?_
 refine V_block ?_
 refine Vs rfl ?_
 refine Lm rfl rfl rfl ?_
 refine Lp rfl (p_len isl89 rfl rfl) ?_
 refine Lc rfl rfl rfl rfl (fun w hg => fout_c _ _ _ w) ?_
 refine La rfl rfl rfl ?_
 refine L_then (kp [0, 3] rfl) ?_
 refine V_cond rfl ?_ ?_
 ·intro c1; try simp only [td] at c1
  refine Vs rfl ?_
  refine La rfl rfl rfl ?_
  refine L_then (kp [2] rfl) ?_
  refine V_ret (blk_r (then_r ?_))
  refine Leave.nil (.tmp rfl .nil) ?_
  first | (unfold strayE; rw [if_pos (by assumption)]; rfl) | (unfold strayE; rw [if_neg (by simp_all), if_pos (by assumption)]; rfl) | (unfold strayE; rw [if_neg (by simp_all), if_neg (by simp_all)]; rfl)
 intro c1; try simp only [td] at c1
 refine Vs rfl ?_
 refine Lm rfl rfl rfl ?_
 refine Lc rfl rfl rfl rfl (fun w hg => contPt_c l _ _ _ (fun p => farS (Fl.ptS p)) w (hl.good hg).sl (by have := oP_false.1 (show oP l.length 1 3001 = false by assumption); omega) (fun j hj w' he => fstray1_c _ w')) ?_
 refine La rfl rfl rfl ?_
 refine L_then (kp [7] rfl) ?_
 refine V_cond rfl ?_ ?_
 ·intro c2; try simp only [td] at c2
  refine Vs rfl ?_
  refine La rfl rfl rfl ?_
  refine L_then (kp [2] rfl) ?_
  refine V_ret (blk_r (then_r ?_))
  refine Leave.nil (.tmp rfl .nil) ?_
  first | (unfold strayE; rw [if_pos (by assumption)]; rfl) | (unfold strayE; rw [if_neg (by simp_all), if_pos (by assumption)]; rfl) | (unfold strayE; rw [if_neg (by simp_all), if_neg (by simp_all)]; rfl)
 intro c2; try simp only [td] at c2
 refine V_skip (blk_n (then_n ?_))
 refine Vs rfl ?_
 refine La rfl rfl rfl ?_
 refine L_then (kp [2] rfl) ?_
 refine V_ret ?_
 refine Leave.nil (.tmp rfl .nil) ?_
 first | (unfold strayE; rw [if_pos (by assumption)]; rfl) | (unfold strayE; rw [if_neg (by simp_all), if_pos (by assumption)]; rfl) | (unfold strayE; rw [if_neg (by simp_all), if_neg (by simp_all)]; rfl)
theorem fdown1_c (y : Fl.Pt) (h : Int) (b ty : Nat) (fr : Nat × Nat) (w : World) (hb : w.heap[b]? = some (.cells #[.int .i64 h] ty fr)) : FnP Try.prog 108 [.agg (Fl.Pt.cells y).toArray, .pointer (some ⟨b, 0, none⟩)] w (.bool (decide (y.z ≤ h))) := by
 refine fn_pure Try.func108 rfl (by kernel_rfl) Try.ntmps108 Try.results108 rfl ?_
 refine Vs rfl ?_
 refine Lw rfl (w_box rfl rfl) ?_
 rintro _ _ ⟨b1, hb1, rfl, rfl⟩
 refine La rfl rfl rfl ?_
 refine L_then (kp [1, 2] rfl) ?_
 refine Vs rfl ?_
 refine Lp rfl (p_fieldo fo88_2 rfl rfl) ?_
 refine Lr rfl (rl ag3 rfl rfl rfl) ?_
 refine Lr rfl (r_loadB ag3 rfl rfl (own_cell hb _) List.not_mem_nil) ?_
 refine Lp rfl (p_leq rfl rfl rfl) ?_
 refine La rfl rfl rfl ?_
 refine L_then (kp [3] rfl) ?_
 refine V_ret ?_
 refine Leave.nil (.tmp rfl .nil) ?_
 rfl
set_option maxHeartbeats 4000000 in
theorem fDown_c (l : List Fl.Pt) (floor : Int) (x : Value) (w : World) (hl : PtsR w x l) : FnP Try.prog 76 [x, .int .i64 floor] w (.tuple #[.agg #[.int .i64 (Fl.downP l floor).1, .int .i64 (Fl.downP l floor).2.1], .int .i64 (Fl.downP l floor).2.2, .int .i64 (Fl.downE l floor)]) := by
 have hL := hl
 obtain ⟨pa, pc, rfl, hpc, hpe⟩ := hl.sl.ex
 simp only [List.length_map] at hL hpc hl ⊢
 refine fn_pure Try.func76 rfl (by kernel_rfl) Try.ntmps76 Try.results76 rfl ?_
 refine Vs rfl ?_
 refine Lw rfl (w_box rfl rfl) ?_
 rintro _ _ ⟨b1, hb1, rfl, rfl⟩
 refine Lw rfl (w_alloc zr142 rfl) ?_
 rintro _ _ ⟨b2, hb2, rfl, rfl⟩
 iterate 2 refine La rfl rfl rfl ?_
 refine L_then (kp [0, 3, 4] rfl) ?_
 refine Vs rfl ?_
 refine Lm rfl rfl rfl ?_
 refine Lc rfl rfl rfl rfl (fun w hg => fstray_c l _ w (hL.good hg)) ?_
 refine La rfl rfl rfl ?_
 refine L_then (kp [0, 3, 4, 7] rfl) ?_
 refine V_seq ?_
 refine V_block ?_
 refine Vs rfl ?_
 refine Lm rfl rfl rfl ?_
 refine Lp rfl (p_neq rfl rfl rfl) ?_
 refine La rfl rfl rfl ?_
 refine L_then (kp [0, 3, 4, 7, 11] rfl) ?_
 refine V_cond rfl ?_ ?_
 ·intro c1; try simp only [td] at c1
  refine Vs rfl ?_
  refine Lp rfl (p_build (r := [_, _]) pl142 zr142 rfl rfl rfl) ?_
  refine Lm rfl rfl rfl ?_
  refine Ls (cs' := [_, _]) rfl sz142 rfl rfl rfl rfl rfl rfl rfl ?_
  iterate 2 refine La rfl rfl rfl ?_
  refine L_then (kp [4, 5, 6] rfl) ?_
  refine V_ret (blk_r (then_r ?_))
  refine Leave.nil (.cellA (us := [_, _]) rfl ag142 sz142 (by repeat first | exact mH | apply mT) rfl (.tmp rfl (.tmp rfl .nil))) ?_
  first | (exfalso; omega) | (rw [downP_1 (by rw [downE_1 (by assumption)]; assumption), downE_1 (by assumption)]; rfl) | (rw [downP_1 (by rw [downE_7 (by omega) (by assumption)]; decide), downE_7 (by omega) (by assumption)]; rfl) | (rw [downP_1 (by rw [downE_9 (by omega) (by assumption) (by omega)]; decide), downE_9 (by omega) (by assumption) (by omega)]; rfl) | (rw [downP_0 (downE_0 (by omega) (by assumption) (by omega)), downE_0 (by omega) (by assumption) (by omega)]; rfl)
 intro c1; try simp only [td] at c1
 obtain ⟨hl1, hl2⟩ := stray_0 (l := l) (by omega)
 refine Vs rfl ?_
 refine Lr rfl (rl ag3 rfl rfl rfl) ?_
 refine Lc rfl rfl rfl rfl (fun w hg => fout_c _ _ _ w) ?_
 refine La rfl rfl rfl ?_
 refine L_then (kp [0, 3, 4, 16] rfl) ?_
 refine V_cond rfl ?_ ?_
 ·intro c2; try simp only [td] at c2
  refine Vs rfl ?_
  refine Lp rfl (p_build (r := [_, _]) pl142 zr142 rfl rfl rfl) ?_
  refine Ls (cs' := [_, _]) rfl sz142 rfl rfl rfl rfl rfl rfl rfl ?_
  iterate 2 refine La rfl rfl rfl ?_
  refine L_then (kp [4, 5, 6] rfl) ?_
  refine V_ret (blk_r (then_r ?_))
  refine Leave.nil (.cellA (us := [_, _]) rfl ag142 sz142 (by repeat first | exact mH | apply mT) rfl (.tmp rfl (.tmp rfl .nil))) ?_
  first | (exfalso; omega) | (rw [downP_1 (by rw [downE_1 (by assumption)]; assumption), downE_1 (by assumption)]; rfl) | (rw [downP_1 (by rw [downE_7 (by omega) (by assumption)]; decide), downE_7 (by omega) (by assumption)]; rfl) | (rw [downP_1 (by rw [downE_9 (by omega) (by assumption) (by omega)]; decide), downE_9 (by omega) (by assumption) (by omega)]; rfl) | (rw [downP_0 (downE_0 (by omega) (by assumption) (by omega)), downE_0 (by omega) (by assumption) (by omega)]; rfl)
 intro c2; try simp only [td] at c2
 refine V_skip (blk_n (then_n ?_))
 refine Vs rfl ?_
 refine Lm rfl rfl rfl ?_
 refine Lp rfl (p_slFrom es89 rfl rfl rfl (by omega) (by omega) (by omega)) ?_
 refine Lp rfl (p_func rfl rfl rfl) ?_
 refine Lc rfl rfl rfl rfl (fun w hg => (show FnP Try.prog _ _ w (.int .i64 (Fl.downI l floor)) from by have h9 := idxPt_c (l.drop 1) _ _ _ (fun p => decide (p.z ≤ floor)) w ((hl.sl.dropM (k := 1) (by omega)).good hg) (by rw [List.length_drop]; omega) (fun j hj w' he => fdown1_c _ _ _ _ _ w' (he.heap (hg.own (b1, _) (by repeat first | exact mH | apply mT)))); rwa [downI_is] at h9)) ?_
 refine La rfl rfl rfl ?_
 refine L_then (kp [0, 4, 8] rfl) ?_
 refine V_seq ?_
 refine Vs rfl ?_
 refine Lm rfl rfl rfl ?_
 refine Lp rfl (p_lss rfl rfl rfl) ?_
 refine L_then (kp [0, 4, 8, 25] rfl) ?_
 refine V_cond rfl ?_ ?_
 ·intro c3; try simp only [td] at c3
  refine Vs rfl ?_
  refine Lp rfl (p_build (r := [_, _]) pl142 zr142 rfl rfl rfl) ?_
  refine Ls (cs' := [_, _]) rfl sz142 rfl rfl rfl rfl rfl rfl rfl ?_
  iterate 2 refine La rfl rfl rfl ?_
  refine L_then (kp [4, 5, 6] rfl) ?_
  refine V_ret (then_r ?_)
  refine Leave.nil (.cellA (us := [_, _]) rfl ag142 sz142 (by repeat first | exact mH | apply mT) rfl (.tmp rfl (.tmp rfl .nil))) ?_
  first | (exfalso; omega) | (rw [downP_1 (by rw [downE_1 (by assumption)]; assumption), downE_1 (by assumption)]; rfl) | (rw [downP_1 (by rw [downE_7 (by omega) (by assumption)]; decide), downE_7 (by omega) (by assumption)]; rfl) | (rw [downP_1 (by rw [downE_9 (by omega) (by assumption) (by omega)]; decide), downE_9 (by omega) (by assumption) (by omega)]; rfl) | (rw [downP_0 (downE_0 (by omega) (by assumption) (by omega)), downE_0 (by omega) (by assumption) (by omega)]; rfl)
 intro c3; try simp only [td] at c3
 obtain ⟨hk1, hk2⟩ := downI_lt (l := l) (floor := floor) (by omega)
 obtain ⟨tb, etb, hc⟩ := hpe ((Fl.downI l floor) + 1).toNat _ (getD_cells (d := ptZ) (by omega))
 subst etb
 refine V_skip (then_n ?_)
 refine V_seq (V_draw (.rd 0 (.rd 1 (.rd 2 (.rd 3 (.rd 4 (.rd 5 (.rd 6 (.rd 7 (.rd 8 (.rd 9 (.rd 10 (.rd 11 (.rd 12 (.rd 13 (.rd 14 (.wr 15 [14, 13] (.rd 16 (.rd 17 .done)))))))))))))))))) mixed (by kernel_rfl) rfl ?_)
 iterate 2 refine Dm rfl rfl rfl rfl ?_
 first | refine Dp rfl rfl (p_add' rfl rfl rfl (by unfold InI; omega)) ?_ | refine Dp rfl rfl (p_add rfl rfl rfl) ?_
 refine Dp rfl rfl (p_idx es89 rfl rfl rfl (by omega) (by omega)) ?_
 refine Dp rfl rfl (p_field fo88_0 rfl rfl) ?_
 refine Dr rfl rfl (r_loadB ag3 rfl rfl (hc 0 _ rfl) List.not_mem_nil) ?_
 iterate 2 refine Dm rfl rfl rfl rfl ?_
 first | refine Dp rfl rfl (p_add' rfl rfl rfl (by unfold InI; omega)) ?_ | refine Dp rfl rfl (p_add rfl rfl rfl) ?_
 refine Dp rfl rfl (p_idx es89 rfl rfl rfl (by omega) (by omega)) ?_
 refine Dp rfl rfl (p_field fo88_1 rfl rfl) ?_
 refine Dr rfl rfl (r_loadB ag3 rfl rfl (hc 1 _ rfl) List.not_mem_nil) ?_
 refine Dp rfl rfl (p_build (r := [_, _]) pl142 zr142 rfl rfl rfl) ?_
 refine Dm rfl rfl rfl rfl ?_
 first | refine Dp rfl rfl (p_add' rfl rfl rfl (by unfold InI; omega)) ?_ | refine Dp rfl rfl (p_add rfl rfl rfl) ?_
 refine D_wr (.go (E' := []) rfl (.plain rfl) (ws (cs' := [_, _]) sz142 rfl rfl rfl rfl rfl rfl rfl) rfl ?_)
 rintro _ _ ⟨rfl, rfl⟩
 refine ⟨.nil, ?_⟩
 iterate 2 refine Dp rfl rfl (p_assign rfl rfl) ?_
 refine D_then (kp [4, 5, 6] rfl) ?_
 refine V_ret ?_
 refine Leave.nil (.cellA (us := [_, _]) rfl ag142 sz142 (by repeat first | exact mH | apply mT) rfl (.tmp rfl (.tmp rfl .nil))) ?_
 first | (exfalso; omega) | (rw [downP_1 (by rw [downE_1 (by assumption)]; assumption), downE_1 (by assumption)]; rfl) | (rw [downP_1 (by rw [downE_7 (by omega) (by assumption)]; decide), downE_7 (by omega) (by assumption)]; rfl) | (rw [downP_1 (by rw [downE_9 (by omega) (by assumption) (by omega)]; decide), downE_9 (by omega) (by assumption) (by omega)]; rfl) | (rw [downP_0 (downE_0 (by omega) (by assumption) (by omega)), downE_0 (by omega) (by assumption) (by omega)]; rfl)

end Go.Proofs.Ytbncegfgjbdheaa
