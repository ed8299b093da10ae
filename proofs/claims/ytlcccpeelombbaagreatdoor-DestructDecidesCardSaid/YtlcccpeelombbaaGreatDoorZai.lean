/- Joined texts. -/
import Derived.Test.YtlcccpeelombbaaGreatDoorZaf
import Derived.Test.YtlcccpeelombbaaGreatDoorZag
/- YtlcccpeelombbaaGreatDoor: CheckBox and Ahead. -/
set_option linter.all false
namespace Go.Proofs.YtlcccpeelombbaaGreatDoor
open Go.Vc Go.Tk
set_option maxRecDepth 100000
set_option maxHeartbeats 4000000 in
theorem checkbox_c (b : Box) (w : World) : FnP Tryz.prog 30 [.agg (Box.cells b).toArray] w (.int .i64 (boxE b)) := by
 refine fn_pure Tryz.func30 rfl (by kernel_rfl) Tryz.ntmps30 Tryz.results30 rfl ?_
 refine Vs rfl ?_
 refine Lw rfl (w_box rfl rfl) ?_
 rintro _ _ ⟨b1, hb1, rfl, rfl⟩
 refine La rfl rfl rfl ?_
 refine L_then (kp [1] rfl) ?_
 refine V_seq ?_
 refine Vs rfl ?_
 refine Lp rfl (p_fieldo fo28_0 rfl rfl) ?_
 refine Lr rfl (rl ag3 rfl rfl rfl) ?_
 refine Lw rfl (w_slice (r := [_]) un53 sz3 zr3 rfl (by decide) rfl (by decide) rfl rfl) ?_
 rintro _ _ ⟨b2, hb2, rfl, rfl⟩
 refine Lc rfl rfl rfl rfl (fun w hg => never_c [_] _ w (own_ints (l := [_]) (hg.own _ (by repeat first | exact mH | apply mT)) rfl (by decide)) (by simp)) ?_
 refine L_then (kp [1, 9] rfl) ?_
 refine V_cond rfl ?_ ?_
 ·intro c1; try simp only [td] at c1
  try simp only [oP_true, oP_false] at c1
  refine Vs rfl ?_
  refine La rfl rfl rfl ?_
  refine L_then (kp [2] rfl) ?_
  refine V_ret (then_r ?_)
  refine Leave.nil (.tmp rfl .nil) ?_
  show Value.int .i64 7 = _
  rw [boxE_7 (by unfold BoxOk okS; omega)]
 intro c1; try simp only [td] at c1
 try simp only [oP_true, oP_false] at c1
 refine V_skip (then_n ?_)
 refine V_seq ?_
 refine Vs rfl ?_
 refine Lc rfl rfl rfl rfl (fun w hg => parts_c b1 w) ?_
 refine Lm rfl rfl rfl ?_
 refine L_then (kp [10, 11] rfl) ?_
 refine V_block ?_
 refine V_loopU ?_
 refine LU_step ?_
 refine Vs rfl ?_
 refine Lp rfl (p_lss rfl rfl rfl) ?_
 refine L_then (kp [10, 11, 12] rfl) ?_
 refine V_seq ?_
 refine V_cond_t rfl rfl ?_
 refine V_skip (then_n ?_)
 refine V_seq ?_
 refine V_block ?_
 refine Vs rfl ?_
 refine Lm rfl rfl rfl ?_
 refine Lp rfl (p_at un93 ag92 sz92 rfl rfl rfl (by omega) (by omega) rfl) ?_
 iterate 2 refine La rfl rfl rfl ?_
 refine L_then (kp [3, 4, 10, 11] rfl) ?_
 refine Vs rfl ?_
 refine La rfl rfl rfl ?_
 refine L_then (kp [3, 4, 5, 10, 11] rfl) ?_
 refine V_seq ?_
 refine Vs rfl ?_
 refine Lm rfl rfl rfl ?_
 refine Lp rfl (p_gtr rfl rfl rfl) ?_
 refine L_then (kp [4, 5, 10, 11, 16] rfl) ?_
 refine V_cond_f rfl rfl ?_
 refine V_skip (then_n ?_)
 refine V_seq (V_draw (.rd 0 (.rd 1 (.rd 2 (.rd 3 (.rd 4 (.rd 5 (.rd 6 (.rd 7 (.rd 8 (.wr 9 [7, 6, 5, 3, 2, 1, 0] (.wr 10 [8, 7, 6, 5, 4, 3, 2, 1] (.rd 11 (.rd 12 (.rd 13 (.rd 14 (.rd 15 (.rd 16 (.rd 17 (.rd 18 (.rd 19 (.rd 20 (.rd 21 .done)))))))))))))))))))))) mixed (by kernel_rfl) rfl ?_)
 iterate 2 refine Dm rfl rfl rfl rfl ?_
 refine Dp rfl rfl (p_nil rfl rfl) ?_
 refine Dp rfl rfl (p_fieldo fo24_0 rfl rfl) ?_
 refine Dr rfl rfl (rl ag3 rfl rfl rfl) ?_
 refine Dm rfl rfl rfl rfl ?_
 refine Dp rfl rfl (p_nil rfl rfl) ?_
 refine Dp rfl rfl (p_fieldo fo24_1 rfl rfl) ?_
 refine Dr rfl rfl (rl ag3 rfl rfl rfl) ?_
 refine D_wr (.go (E' := []) rfl (.plain rfl) (w_slice (r := [_, _]) un53 sz3 zr3 rfl (by decide) rfl (by decide) rfl rfl) rfl ?_)
 rintro _ _ ⟨b3, hb3, rfl, rfl⟩
 refine ⟨.nil, ?_⟩
 refine D_wr (.go (E' := []) rfl (.plain rfl) (w_callP rfl rfl rfl (fun w hg => wide_c _ (by decide) [_, _] _ w (own_ints (l := [_, _]) (hg.own _ (by repeat first | exact mH | apply mT)) rfl (by decide)) (by simp))) rfl ?_)
 rintro _ _ ⟨rfl, rfl⟩
 refine ⟨.nil, ?_⟩
 refine Dm rfl rfl rfl rfl ?_
 refine D_cases (d := 28) rfl ?_ ?_
 ·intro g1; have g1' := g1; try simp only [td] at g1'
  try simp only [oP_true, oP_false] at g1'
  iterate 9 refine D_no rfl (.mk' rfl rfl rfl g1) ?_
  refine Dp rfl rfl (p_pick_t rfl rfl g1 rfl) ?_
  refine D_then (kp [10, 11, 38] rfl) ?_
  refine V_cond_t rfl rfl ?_
  refine Vs rfl ?_
  refine La rfl rfl rfl ?_
  refine L_then (kp [2] rfl) ?_
  refine V_ret (blk_r (then_r (then_r (blk_r (then_r ?_)))))
  refine Leave.nil (.tmp rfl .nil) ?_
  show Value.int .i64 7 = _
  rw [boxE_7 (by unfold BoxOk okS; omega)]
 intro g1; have g1' := g1; try simp only [td] at g1'
 try simp only [oP_true, oP_false] at g1'
 refine D_p rfl (.yes rfl rfl rfl g1) (p_move rfl rfl) ?_
 refine D_p rfl (.yes rfl rfl rfl g1) (p_nil rfl rfl) ?_
 refine D_p rfl (.yes rfl rfl rfl g1) (p_fieldo fo24_0 rfl rfl) ?_
 refine D_rd rfl (.yes rfl rfl rfl g1) (rl ag3 rfl rfl rfl) ?_
 refine D_p rfl (.yes rfl rfl rfl g1) (p_move rfl rfl) ?_
 refine D_p rfl (.yes rfl rfl rfl g1) (p_nil rfl rfl) ?_
 refine D_p rfl (.yes rfl rfl rfl g1) (p_fieldo fo24_1 rfl rfl) ?_
 refine D_rd rfl (.yes rfl rfl rfl g1) (rl ag3 rfl rfl rfl) ?_
 refine D_p rfl (.yes rfl rfl rfl g1) (p_gtr rfl rfl rfl) ?_
 refine Dp rfl rfl (p_pick_f rfl rfl g1 rfl) ?_
 refine D_then (kp [10, 11, 38] rfl) ?_
 refine V_cond rfl ?_ ?_
 ·intro c2; try simp only [td] at c2
  try simp only [oP_true, oP_false] at c2
  refine Vs rfl ?_
  refine La rfl rfl rfl ?_
  refine L_then (kp [2] rfl) ?_
  refine V_ret (blk_r (then_r (then_r (blk_r (then_r ?_)))))
  refine Leave.nil (.tmp rfl .nil) ?_
  show Value.int .i64 7 = _
  rw [boxE_7 (by unfold BoxOk okS; omega)]
 intro c2; try simp only [td] at c2
 try simp only [oP_true, oP_false] at c2
 refine V_skip (blk_n (then_n ?_))
 refine V_region rfl ?_
 first | refine Lp rfl (p_add' rfl rfl rfl (by unfold InI; omega)) ?_ | refine Lp rfl (p_add rfl rfl rfl) ?_
 refine Lm rfl rfl rfl ?_
 refine L_keep (kp [10, 11] rfl) (then_n ?_)
 refine LU_step ?_
 refine Vs rfl ?_
 refine Lp rfl (p_lss rfl rfl rfl) ?_
 refine L_then (kp [10, 11, 12] rfl) ?_
 refine V_seq ?_
 refine V_cond_t rfl rfl ?_
 refine V_skip (then_n ?_)
 refine V_seq ?_
 refine V_block ?_
 refine Vs rfl ?_
 refine Lm rfl rfl rfl ?_
 refine Lp rfl (p_at un93 ag92 sz92 rfl rfl rfl (by omega) (by omega) rfl) ?_
 iterate 2 refine La rfl rfl rfl ?_
 refine L_then (kp [3, 4, 10, 11] rfl) ?_
 refine Vs rfl ?_
 refine La rfl rfl rfl ?_
 refine L_then (kp [3, 4, 5, 10, 11] rfl) ?_
 refine V_seq ?_
 refine Vs rfl ?_
 refine Lm rfl rfl rfl ?_
 refine Lp rfl (p_gtr rfl rfl rfl) ?_
 refine L_then (kp [4, 5, 10, 11, 16] rfl) ?_
 refine V_cond_f rfl rfl ?_
 refine V_skip (then_n ?_)
 refine V_seq (V_draw (.rd 0 (.rd 1 (.rd 2 (.rd 3 (.rd 4 (.rd 5 (.rd 6 (.rd 7 (.rd 8 (.wr 9 [7, 6, 5, 3, 2, 1, 0] (.wr 10 [8, 7, 6, 5, 4, 3, 2, 1] (.rd 11 (.rd 12 (.rd 13 (.rd 14 (.rd 15 (.rd 16 (.rd 17 (.rd 18 (.rd 19 (.rd 20 (.rd 21 .done)))))))))))))))))))))) mixed (by kernel_rfl) rfl ?_)
 iterate 2 refine Dm rfl rfl rfl rfl ?_
 refine Dp rfl rfl (p_nil rfl rfl) ?_
 refine Dp rfl rfl (p_fieldo fo24_0 rfl rfl) ?_
 refine Dr rfl rfl (rl ag3 rfl rfl rfl) ?_
 refine Dm rfl rfl rfl rfl ?_
 refine Dp rfl rfl (p_nil rfl rfl) ?_
 refine Dp rfl rfl (p_fieldo fo24_1 rfl rfl) ?_
 refine Dr rfl rfl (rl ag3 rfl rfl rfl) ?_
 refine D_wr (.go (E' := []) rfl (.plain rfl) (w_slice (r := [_, _]) un53 sz3 zr3 rfl (by decide) rfl (by decide) rfl rfl) rfl ?_)
 rintro _ _ ⟨b4, hb4, rfl, rfl⟩
 refine ⟨.nil, ?_⟩
 refine D_wr (.go (E' := []) rfl (.plain rfl) (w_callP rfl rfl rfl (fun w hg => wide_c _ (by decide) [_, _] _ w (own_ints (l := [_, _]) (hg.own _ (by repeat first | exact mH | apply mT)) rfl (by decide)) (by simp))) rfl ?_)
 rintro _ _ ⟨rfl, rfl⟩
 refine ⟨.nil, ?_⟩
 refine Dm rfl rfl rfl rfl ?_
 refine D_cases (d := 28) rfl ?_ ?_
 ·intro g2; have g2' := g2; try simp only [td] at g2'
  try simp only [oP_true, oP_false] at g2'
  iterate 9 refine D_no rfl (.mk' rfl rfl rfl g2) ?_
  refine Dp rfl rfl (p_pick_t rfl rfl g2 rfl) ?_
  refine D_then (kp [10, 11, 38] rfl) ?_
  refine V_cond_t rfl rfl ?_
  refine Vs rfl ?_
  refine La rfl rfl rfl ?_
  refine L_then (kp [2] rfl) ?_
  refine V_ret (blk_r (then_r (then_r (blk_r (then_r ?_)))))
  refine Leave.nil (.tmp rfl .nil) ?_
  show Value.int .i64 7 = _
  rw [boxE_7 (by unfold BoxOk okS; omega)]
 intro g2; have g2' := g2; try simp only [td] at g2'
 try simp only [oP_true, oP_false] at g2'
 refine D_p rfl (.yes rfl rfl rfl g2) (p_move rfl rfl) ?_
 refine D_p rfl (.yes rfl rfl rfl g2) (p_nil rfl rfl) ?_
 refine D_p rfl (.yes rfl rfl rfl g2) (p_fieldo fo24_0 rfl rfl) ?_
 refine D_rd rfl (.yes rfl rfl rfl g2) (rl ag3 rfl rfl rfl) ?_
 refine D_p rfl (.yes rfl rfl rfl g2) (p_move rfl rfl) ?_
 refine D_p rfl (.yes rfl rfl rfl g2) (p_nil rfl rfl) ?_
 refine D_p rfl (.yes rfl rfl rfl g2) (p_fieldo fo24_1 rfl rfl) ?_
 refine D_rd rfl (.yes rfl rfl rfl g2) (rl ag3 rfl rfl rfl) ?_
 refine D_p rfl (.yes rfl rfl rfl g2) (p_gtr rfl rfl rfl) ?_
 refine Dp rfl rfl (p_pick_f rfl rfl g2 rfl) ?_
 refine D_then (kp [10, 11, 38] rfl) ?_
 refine V_cond rfl ?_ ?_
 ·intro c3; try simp only [td] at c3
  try simp only [oP_true, oP_false] at c3
  refine Vs rfl ?_
  refine La rfl rfl rfl ?_
  refine L_then (kp [2] rfl) ?_
  refine V_ret (blk_r (then_r (then_r (blk_r (then_r ?_)))))
  refine Leave.nil (.tmp rfl .nil) ?_
  show Value.int .i64 7 = _
  rw [boxE_7 (by unfold BoxOk okS; omega)]
 intro c3; try simp only [td] at c3
 try simp only [oP_true, oP_false] at c3
 refine V_skip (blk_n (then_n ?_))
 refine V_region rfl ?_
 first | refine Lp rfl (p_add' rfl rfl rfl (by unfold InI; omega)) ?_ | refine Lp rfl (p_add rfl rfl rfl) ?_
 refine Lm rfl rfl rfl ?_
 refine L_keep (kp [10, 11] rfl) (then_n ?_)
 refine LU_step ?_
 refine Vs rfl ?_
 refine Lp rfl (p_lss rfl rfl rfl) ?_
 refine L_then (kp [10, 11, 12] rfl) ?_
 refine V_seq ?_
 refine V_cond_t rfl rfl ?_
 refine V_skip (then_n ?_)
 refine V_seq ?_
 refine V_block ?_
 refine Vs rfl ?_
 refine Lm rfl rfl rfl ?_
 refine Lp rfl (p_at un93 ag92 sz92 rfl rfl rfl (by omega) (by omega) rfl) ?_
 iterate 2 refine La rfl rfl rfl ?_
 refine L_then (kp [3, 4, 10, 11] rfl) ?_
 refine Vs rfl ?_
 refine La rfl rfl rfl ?_
 refine L_then (kp [3, 4, 5, 10, 11] rfl) ?_
 refine V_seq ?_
 refine Vs rfl ?_
 refine Lm rfl rfl rfl ?_
 refine Lp rfl (p_gtr rfl rfl rfl) ?_
 refine L_then (kp [4, 5, 10, 11, 16] rfl) ?_
 refine V_cond_f rfl rfl ?_
 refine V_skip (then_n ?_)
 refine V_seq (V_draw (.rd 0 (.rd 1 (.rd 2 (.rd 3 (.rd 4 (.rd 5 (.rd 6 (.rd 7 (.rd 8 (.wr 9 [7, 6, 5, 3, 2, 1, 0] (.wr 10 [8, 7, 6, 5, 4, 3, 2, 1] (.rd 11 (.rd 12 (.rd 13 (.rd 14 (.rd 15 (.rd 16 (.rd 17 (.rd 18 (.rd 19 (.rd 20 (.rd 21 .done)))))))))))))))))))))) mixed (by kernel_rfl) rfl ?_)
 iterate 2 refine Dm rfl rfl rfl rfl ?_
 refine Dp rfl rfl (p_nil rfl rfl) ?_
 refine Dp rfl rfl (p_fieldo fo24_0 rfl rfl) ?_
 refine Dr rfl rfl (rl ag3 rfl rfl rfl) ?_
 refine Dm rfl rfl rfl rfl ?_
 refine Dp rfl rfl (p_nil rfl rfl) ?_
 refine Dp rfl rfl (p_fieldo fo24_1 rfl rfl) ?_
 refine Dr rfl rfl (rl ag3 rfl rfl rfl) ?_
 refine D_wr (.go (E' := []) rfl (.plain rfl) (w_slice (r := [_, _]) un53 sz3 zr3 rfl (by decide) rfl (by decide) rfl rfl) rfl ?_)
 rintro _ _ ⟨b5, hb5, rfl, rfl⟩
 refine ⟨.nil, ?_⟩
 refine D_wr (.go (E' := []) rfl (.plain rfl) (w_callP rfl rfl rfl (fun w hg => wide_c _ (by decide) [_, _] _ w (own_ints (l := [_, _]) (hg.own _ (by repeat first | exact mH | apply mT)) rfl (by decide)) (by simp))) rfl ?_)
 rintro _ _ ⟨rfl, rfl⟩
 refine ⟨.nil, ?_⟩
 refine Dm rfl rfl rfl rfl ?_
 refine D_cases (d := 28) rfl ?_ ?_
 ·intro g3; have g3' := g3; try simp only [td] at g3'
  try simp only [oP_true, oP_false] at g3'
  iterate 9 refine D_no rfl (.mk' rfl rfl rfl g3) ?_
  refine Dp rfl rfl (p_pick_t rfl rfl g3 rfl) ?_
  refine D_then (kp [10, 11, 38] rfl) ?_
  refine V_cond_t rfl rfl ?_
  refine Vs rfl ?_
  refine La rfl rfl rfl ?_
  refine L_then (kp [2] rfl) ?_
  refine V_ret (blk_r (then_r (then_r (blk_r (then_r ?_)))))
  refine Leave.nil (.tmp rfl .nil) ?_
  show Value.int .i64 7 = _
  rw [boxE_7 (by unfold BoxOk okS; omega)]
 intro g3; have g3' := g3; try simp only [td] at g3'
 try simp only [oP_true, oP_false] at g3'
 refine D_p rfl (.yes rfl rfl rfl g3) (p_move rfl rfl) ?_
 refine D_p rfl (.yes rfl rfl rfl g3) (p_nil rfl rfl) ?_
 refine D_p rfl (.yes rfl rfl rfl g3) (p_fieldo fo24_0 rfl rfl) ?_
 refine D_rd rfl (.yes rfl rfl rfl g3) (rl ag3 rfl rfl rfl) ?_
 refine D_p rfl (.yes rfl rfl rfl g3) (p_move rfl rfl) ?_
 refine D_p rfl (.yes rfl rfl rfl g3) (p_nil rfl rfl) ?_
 refine D_p rfl (.yes rfl rfl rfl g3) (p_fieldo fo24_1 rfl rfl) ?_
 refine D_rd rfl (.yes rfl rfl rfl g3) (rl ag3 rfl rfl rfl) ?_
 refine D_p rfl (.yes rfl rfl rfl g3) (p_gtr rfl rfl rfl) ?_
 refine Dp rfl rfl (p_pick_f rfl rfl g3 rfl) ?_
 refine D_then (kp [10, 11, 38] rfl) ?_
 refine V_cond rfl ?_ ?_
 ·intro c4; try simp only [td] at c4
  try simp only [oP_true, oP_false] at c4
  refine Vs rfl ?_
  refine La rfl rfl rfl ?_
  refine L_then (kp [2] rfl) ?_
  refine V_ret (blk_r (then_r (then_r (blk_r (then_r ?_)))))
  refine Leave.nil (.tmp rfl .nil) ?_
  show Value.int .i64 7 = _
  rw [boxE_7 (by unfold BoxOk okS; omega)]
 intro c4; try simp only [td] at c4
 try simp only [oP_true, oP_false] at c4
 refine V_skip (blk_n (then_n ?_))
 refine V_region rfl ?_
 first | refine Lp rfl (p_add' rfl rfl rfl (by unfold InI; omega)) ?_ | refine Lp rfl (p_add rfl rfl rfl) ?_
 refine Lm rfl rfl rfl ?_
 refine L_keep (kp [10, 11] rfl) (then_n ?_)
 refine LU_step ?_
 refine Vs rfl ?_
 refine Lp rfl (p_lss rfl rfl rfl) ?_
 refine L_then (kp [10, 11, 12] rfl) ?_
 refine V_seq ?_
 refine V_cond_t rfl rfl ?_
 refine V_skip (then_n ?_)
 refine V_seq ?_
 refine V_block ?_
 refine Vs rfl ?_
 refine Lm rfl rfl rfl ?_
 refine Lp rfl (p_at un93 ag92 sz92 rfl rfl rfl (by omega) (by omega) rfl) ?_
 iterate 2 refine La rfl rfl rfl ?_
 refine L_then (kp [3, 4, 10, 11] rfl) ?_
 refine Vs rfl ?_
 refine La rfl rfl rfl ?_
 refine L_then (kp [3, 4, 5, 10, 11] rfl) ?_
 refine V_seq ?_
 refine Vs rfl ?_
 refine Lm rfl rfl rfl ?_
 refine Lp rfl (p_gtr rfl rfl rfl) ?_
 refine L_then (kp [4, 5, 10, 11, 16] rfl) ?_
 refine V_cond_t rfl rfl ?_
 refine V_region rfl ?_
 refine La rfl rfl rfl ?_
 refine L_then (kp [4, 5, 10, 11] rfl) ?_
 refine V_seq (V_draw (.rd 0 (.rd 1 (.rd 2 (.rd 3 (.rd 4 (.rd 5 (.rd 6 (.rd 7 (.rd 8 (.wr 9 [7, 6, 5, 3, 2, 1, 0] (.wr 10 [8, 7, 6, 5, 4, 3, 2, 1] (.rd 11 (.rd 12 (.rd 13 (.rd 14 (.rd 15 (.rd 16 (.rd 17 (.rd 18 (.rd 19 (.rd 20 (.rd 21 .done)))))))))))))))))))))) mixed (by kernel_rfl) rfl ?_)
 iterate 2 refine Dm rfl rfl rfl rfl ?_
 refine Dp rfl rfl (p_nil rfl rfl) ?_
 refine Dp rfl rfl (p_fieldo fo24_0 rfl rfl) ?_
 refine Dr rfl rfl (rl ag3 rfl rfl rfl) ?_
 refine Dm rfl rfl rfl rfl ?_
 refine Dp rfl rfl (p_nil rfl rfl) ?_
 refine Dp rfl rfl (p_fieldo fo24_1 rfl rfl) ?_
 refine Dr rfl rfl (rl ag3 rfl rfl rfl) ?_
 refine D_wr (.go (E' := []) rfl (.plain rfl) (w_slice (r := [_, _]) un53 sz3 zr3 rfl (by decide) rfl (by decide) rfl rfl) rfl ?_)
 rintro _ _ ⟨b6, hb6, rfl, rfl⟩
 refine ⟨.nil, ?_⟩
 refine D_wr (.go (E' := []) rfl (.plain rfl) (w_callP rfl rfl rfl (fun w hg => wide_c _ (by decide) [_, _] _ w (own_ints (l := [_, _]) (hg.own _ (by repeat first | exact mH | apply mT)) rfl (by decide)) (by simp))) rfl ?_)
 rintro _ _ ⟨rfl, rfl⟩
 refine ⟨.nil, ?_⟩
 refine Dm rfl rfl rfl rfl ?_
 refine D_cases (d := 28) rfl ?_ ?_
 ·intro g4; have g4' := g4; try simp only [td] at g4'
  try simp only [oP_true, oP_false] at g4'
  iterate 9 refine D_no rfl (.mk' rfl rfl rfl g4) ?_
  refine Dp rfl rfl (p_pick_t rfl rfl g4 rfl) ?_
  refine D_then (kp [10, 11, 38] rfl) ?_
  refine V_cond_t rfl rfl ?_
  refine Vs rfl ?_
  refine La rfl rfl rfl ?_
  refine L_then (kp [2] rfl) ?_
  refine V_ret (blk_r (then_r (then_r (blk_r (then_r ?_)))))
  refine Leave.nil (.tmp rfl .nil) ?_
  show Value.int .i64 7 = _
  rw [boxE_7 (by unfold BoxOk okS; omega)]
 intro g4; have g4' := g4; try simp only [td] at g4'
 try simp only [oP_true, oP_false] at g4'
 refine D_p rfl (.yes rfl rfl rfl g4) (p_move rfl rfl) ?_
 refine D_p rfl (.yes rfl rfl rfl g4) (p_nil rfl rfl) ?_
 refine D_p rfl (.yes rfl rfl rfl g4) (p_fieldo fo24_0 rfl rfl) ?_
 refine D_rd rfl (.yes rfl rfl rfl g4) (rl ag3 rfl rfl rfl) ?_
 refine D_p rfl (.yes rfl rfl rfl g4) (p_move rfl rfl) ?_
 refine D_p rfl (.yes rfl rfl rfl g4) (p_nil rfl rfl) ?_
 refine D_p rfl (.yes rfl rfl rfl g4) (p_fieldo fo24_1 rfl rfl) ?_
 refine D_rd rfl (.yes rfl rfl rfl g4) (rl ag3 rfl rfl rfl) ?_
 refine D_p rfl (.yes rfl rfl rfl g4) (p_gtr rfl rfl rfl) ?_
 refine Dp rfl rfl (p_pick_f rfl rfl g4 rfl) ?_
 refine D_then (kp [10, 11, 38] rfl) ?_
 refine V_cond rfl ?_ ?_
 ·intro c5; try simp only [td] at c5
  try simp only [oP_true, oP_false] at c5
  refine Vs rfl ?_
  refine La rfl rfl rfl ?_
  refine L_then (kp [2] rfl) ?_
  refine V_ret (blk_r (then_r (then_r (blk_r (then_r ?_)))))
  refine Leave.nil (.tmp rfl .nil) ?_
  show Value.int .i64 7 = _
  rw [boxE_7 (by unfold BoxOk okS; omega)]
 intro c5; try simp only [td] at c5
 try simp only [oP_true, oP_false] at c5
 refine V_skip (blk_n (then_n ?_))
 refine V_region rfl ?_
 first | refine Lp rfl (p_add' rfl rfl rfl (by unfold InI; omega)) ?_ | refine Lp rfl (p_add rfl rfl rfl) ?_
 refine Lm rfl rfl rfl ?_
 refine L_keep (kp [10, 11] rfl) (then_n ?_)
 refine LU_step ?_
 refine Vs rfl ?_
 refine Lp rfl (p_lss rfl rfl rfl) ?_
 refine L_then (kp [10, 11, 12] rfl) ?_
 refine V_seq ?_
 refine V_cond_t rfl rfl ?_
 refine V_skip (then_n ?_)
 refine V_seq ?_
 refine V_block ?_
 refine Vs rfl ?_
 refine Lm rfl rfl rfl ?_
 refine Lp rfl (p_at un93 ag92 sz92 rfl rfl rfl (by omega) (by omega) rfl) ?_
 iterate 2 refine La rfl rfl rfl ?_
 refine L_then (kp [3, 4, 10, 11] rfl) ?_
 refine Vs rfl ?_
 refine La rfl rfl rfl ?_
 refine L_then (kp [3, 4, 5, 10, 11] rfl) ?_
 refine V_seq ?_
 refine Vs rfl ?_
 refine Lm rfl rfl rfl ?_
 refine Lp rfl (p_gtr rfl rfl rfl) ?_
 refine L_then (kp [4, 5, 10, 11, 16] rfl) ?_
 refine V_cond_t rfl rfl ?_
 refine V_region rfl ?_
 refine La rfl rfl rfl ?_
 refine L_then (kp [4, 5, 10, 11] rfl) ?_
 refine V_seq (V_draw (.rd 0 (.rd 1 (.rd 2 (.rd 3 (.rd 4 (.rd 5 (.rd 6 (.rd 7 (.rd 8 (.wr 9 [7, 6, 5, 3, 2, 1, 0] (.wr 10 [8, 7, 6, 5, 4, 3, 2, 1] (.rd 11 (.rd 12 (.rd 13 (.rd 14 (.rd 15 (.rd 16 (.rd 17 (.rd 18 (.rd 19 (.rd 20 (.rd 21 .done)))))))))))))))))))))) mixed (by kernel_rfl) rfl ?_)
 iterate 2 refine Dm rfl rfl rfl rfl ?_
 refine Dp rfl rfl (p_nil rfl rfl) ?_
 refine Dp rfl rfl (p_fieldo fo24_0 rfl rfl) ?_
 refine Dr rfl rfl (rl ag3 rfl rfl rfl) ?_
 refine Dm rfl rfl rfl rfl ?_
 refine Dp rfl rfl (p_nil rfl rfl) ?_
 refine Dp rfl rfl (p_fieldo fo24_1 rfl rfl) ?_
 refine Dr rfl rfl (rl ag3 rfl rfl rfl) ?_
 refine D_wr (.go (E' := []) rfl (.plain rfl) (w_slice (r := [_, _]) un53 sz3 zr3 rfl (by decide) rfl (by decide) rfl rfl) rfl ?_)
 rintro _ _ ⟨b7, hb7, rfl, rfl⟩
 refine ⟨.nil, ?_⟩
 refine D_wr (.go (E' := []) rfl (.plain rfl) (w_callP rfl rfl rfl (fun w hg => wide_c _ (by decide) [_, _] _ w (own_ints (l := [_, _]) (hg.own _ (by repeat first | exact mH | apply mT)) rfl (by decide)) (by simp))) rfl ?_)
 rintro _ _ ⟨rfl, rfl⟩
 refine ⟨.nil, ?_⟩
 refine Dm rfl rfl rfl rfl ?_
 refine D_cases (d := 28) rfl ?_ ?_
 ·intro g5; have g5' := g5; try simp only [td] at g5'
  try simp only [oP_true, oP_false] at g5'
  iterate 9 refine D_no rfl (.mk' rfl rfl rfl g5) ?_
  refine Dp rfl rfl (p_pick_t rfl rfl g5 rfl) ?_
  refine D_then (kp [10, 11, 38] rfl) ?_
  refine V_cond_t rfl rfl ?_
  refine Vs rfl ?_
  refine La rfl rfl rfl ?_
  refine L_then (kp [2] rfl) ?_
  refine V_ret (blk_r (then_r (then_r (blk_r (then_r ?_)))))
  refine Leave.nil (.tmp rfl .nil) ?_
  show Value.int .i64 7 = _
  rw [boxE_7 (by unfold BoxOk okS; omega)]
 intro g5; have g5' := g5; try simp only [td] at g5'
 try simp only [oP_true, oP_false] at g5'
 refine D_p rfl (.yes rfl rfl rfl g5) (p_move rfl rfl) ?_
 refine D_p rfl (.yes rfl rfl rfl g5) (p_nil rfl rfl) ?_
 refine D_p rfl (.yes rfl rfl rfl g5) (p_fieldo fo24_0 rfl rfl) ?_
 refine D_rd rfl (.yes rfl rfl rfl g5) (rl ag3 rfl rfl rfl) ?_
 refine D_p rfl (.yes rfl rfl rfl g5) (p_move rfl rfl) ?_
 refine D_p rfl (.yes rfl rfl rfl g5) (p_nil rfl rfl) ?_
 refine D_p rfl (.yes rfl rfl rfl g5) (p_fieldo fo24_1 rfl rfl) ?_
 refine D_rd rfl (.yes rfl rfl rfl g5) (rl ag3 rfl rfl rfl) ?_
 refine D_p rfl (.yes rfl rfl rfl g5) (p_gtr rfl rfl rfl) ?_
 refine Dp rfl rfl (p_pick_f rfl rfl g5 rfl) ?_
 refine D_then (kp [10, 11, 38] rfl) ?_
 refine V_cond rfl ?_ ?_
 ·intro c6; try simp only [td] at c6
  try simp only [oP_true, oP_false] at c6
  refine Vs rfl ?_
  refine La rfl rfl rfl ?_
  refine L_then (kp [2] rfl) ?_
  refine V_ret (blk_r (then_r (then_r (blk_r (then_r ?_)))))
  refine Leave.nil (.tmp rfl .nil) ?_
  show Value.int .i64 7 = _
  rw [boxE_7 (by unfold BoxOk okS; omega)]
 intro c6; try simp only [td] at c6
 try simp only [oP_true, oP_false] at c6
 refine V_skip (blk_n (then_n ?_))
 refine V_region rfl ?_
 first | refine Lp rfl (p_add' rfl rfl rfl (by unfold InI; omega)) ?_ | refine Lp rfl (p_add rfl rfl rfl) ?_
 refine Lm rfl rfl rfl ?_
 refine L_keep (kp [10, 11] rfl) (then_n ?_)
 refine LU_step ?_
 refine Vs rfl ?_
 refine Lp rfl (p_lss rfl rfl rfl) ?_
 refine L_then (kp [10, 11, 12] rfl) ?_
 refine V_seq ?_
 refine V_cond_t rfl rfl ?_
 refine V_skip (then_n ?_)
 refine V_seq ?_
 refine V_block ?_
 refine Vs rfl ?_
 refine Lm rfl rfl rfl ?_
 refine Lp rfl (p_at un93 ag92 sz92 rfl rfl rfl (by omega) (by omega) rfl) ?_
 iterate 2 refine La rfl rfl rfl ?_
 refine L_then (kp [3, 4, 10, 11] rfl) ?_
 refine Vs rfl ?_
 refine La rfl rfl rfl ?_
 refine L_then (kp [3, 4, 5, 10, 11] rfl) ?_
 refine V_seq ?_
 refine Vs rfl ?_
 refine Lm rfl rfl rfl ?_
 refine Lp rfl (p_gtr rfl rfl rfl) ?_
 refine L_then (kp [4, 5, 10, 11, 16] rfl) ?_
 refine V_cond_t rfl rfl ?_
 refine V_region rfl ?_
 refine La rfl rfl rfl ?_
 refine L_then (kp [4, 5, 10, 11] rfl) ?_
 refine V_seq (V_draw (.rd 0 (.rd 1 (.rd 2 (.rd 3 (.rd 4 (.rd 5 (.rd 6 (.rd 7 (.rd 8 (.wr 9 [7, 6, 5, 3, 2, 1, 0] (.wr 10 [8, 7, 6, 5, 4, 3, 2, 1] (.rd 11 (.rd 12 (.rd 13 (.rd 14 (.rd 15 (.rd 16 (.rd 17 (.rd 18 (.rd 19 (.rd 20 (.rd 21 .done)))))))))))))))))))))) mixed (by kernel_rfl) rfl ?_)
 iterate 2 refine Dm rfl rfl rfl rfl ?_
 refine Dp rfl rfl (p_nil rfl rfl) ?_
 refine Dp rfl rfl (p_fieldo fo24_0 rfl rfl) ?_
 refine Dr rfl rfl (rl ag3 rfl rfl rfl) ?_
 refine Dm rfl rfl rfl rfl ?_
 refine Dp rfl rfl (p_nil rfl rfl) ?_
 refine Dp rfl rfl (p_fieldo fo24_1 rfl rfl) ?_
 refine Dr rfl rfl (rl ag3 rfl rfl rfl) ?_
 refine D_wr (.go (E' := []) rfl (.plain rfl) (w_slice (r := [_, _]) un53 sz3 zr3 rfl (by decide) rfl (by decide) rfl rfl) rfl ?_)
 rintro _ _ ⟨b8, hb8, rfl, rfl⟩
 refine ⟨.nil, ?_⟩
 refine D_wr (.go (E' := []) rfl (.plain rfl) (w_callP rfl rfl rfl (fun w hg => wide_c _ (by decide) [_, _] _ w (own_ints (l := [_, _]) (hg.own _ (by repeat first | exact mH | apply mT)) rfl (by decide)) (by simp))) rfl ?_)
 rintro _ _ ⟨rfl, rfl⟩
 refine ⟨.nil, ?_⟩
 refine Dm rfl rfl rfl rfl ?_
 refine D_cases (d := 28) rfl ?_ ?_
 ·intro g6; have g6' := g6; try simp only [td] at g6'
  try simp only [oP_true, oP_false] at g6'
  iterate 9 refine D_no rfl (.mk' rfl rfl rfl g6) ?_
  refine Dp rfl rfl (p_pick_t rfl rfl g6 rfl) ?_
  refine D_then (kp [10, 11, 38] rfl) ?_
  refine V_cond_t rfl rfl ?_
  refine Vs rfl ?_
  refine La rfl rfl rfl ?_
  refine L_then (kp [2] rfl) ?_
  refine V_ret (blk_r (then_r (then_r (blk_r (then_r ?_)))))
  refine Leave.nil (.tmp rfl .nil) ?_
  show Value.int .i64 7 = _
  rw [boxE_7 (by unfold BoxOk okS; omega)]
 intro g6; have g6' := g6; try simp only [td] at g6'
 try simp only [oP_true, oP_false] at g6'
 refine D_p rfl (.yes rfl rfl rfl g6) (p_move rfl rfl) ?_
 refine D_p rfl (.yes rfl rfl rfl g6) (p_nil rfl rfl) ?_
 refine D_p rfl (.yes rfl rfl rfl g6) (p_fieldo fo24_0 rfl rfl) ?_
 refine D_rd rfl (.yes rfl rfl rfl g6) (rl ag3 rfl rfl rfl) ?_
 refine D_p rfl (.yes rfl rfl rfl g6) (p_move rfl rfl) ?_
 refine D_p rfl (.yes rfl rfl rfl g6) (p_nil rfl rfl) ?_
 refine D_p rfl (.yes rfl rfl rfl g6) (p_fieldo fo24_1 rfl rfl) ?_
 refine D_rd rfl (.yes rfl rfl rfl g6) (rl ag3 rfl rfl rfl) ?_
 refine D_p rfl (.yes rfl rfl rfl g6) (p_gtr rfl rfl rfl) ?_
 refine Dp rfl rfl (p_pick_f rfl rfl g6 rfl) ?_
 refine D_then (kp [10, 11, 38] rfl) ?_
 refine V_cond rfl ?_ ?_
 ·intro c7; try simp only [td] at c7
  try simp only [oP_true, oP_false] at c7
  refine Vs rfl ?_
  refine La rfl rfl rfl ?_
  refine L_then (kp [2] rfl) ?_
  refine V_ret (blk_r (then_r (then_r (blk_r (then_r ?_)))))
  refine Leave.nil (.tmp rfl .nil) ?_
  show Value.int .i64 7 = _
  rw [boxE_7 (by unfold BoxOk okS; omega)]
 intro c7; try simp only [td] at c7
 try simp only [oP_true, oP_false] at c7
 refine V_skip (blk_n (then_n ?_))
 refine V_region rfl ?_
 first | refine Lp rfl (p_add' rfl rfl rfl (by unfold InI; omega)) ?_ | refine Lp rfl (p_add rfl rfl rfl) ?_
 refine Lm rfl rfl rfl ?_
 refine L_keep (kp [10, 11] rfl) (then_n ?_)
 refine LU_step ?_
 refine Vs rfl ?_
 refine Lp rfl (p_lss rfl rfl rfl) ?_
 refine L_then (kp [10, 11, 12] rfl) ?_
 refine V_seq ?_
 refine V_cond_f rfl rfl ?_
 refine V_exit (then_e (then_e (blk_e rfl (then_n ?_))))
 refine Vs rfl ?_
 refine La rfl rfl rfl ?_
 refine L_then (kp [2] rfl) ?_
 refine V_ret ?_
 refine Leave.nil (.tmp rfl .nil) ?_
 show Value.int .i64 0 = _
 rw [boxE_0 (by unfold BoxOk okS; omega)]
set_option maxHeartbeats 16000000 in
theorem ahead_c (b : Box) (t : Task) (tv pv : Value) (n : Int) (w : World) (ht : TaskR w (.agg #[.int .i64 t.frm, .int .i64 t.speed, .int .i64 t.accel, tv, pv]) t) : FnP Tryz.prog 79 [.agg #[.int .i64 t.frm, .int .i64 t.speed, .int .i64 t.accel, tv, pv], .agg (Box.cells b).toArray, .int .i64 n] w (.tuple #[.agg (Box.cells (aheadP t b n).1).toArray, .int .i64 (aheadP t b n).2]) := by
 have hT := ht
 refine fn_pure Tryz.func79 rfl (by kernel_rfl) Tryz.ntmps79 Tryz.results79 rfl ?_
 refine Vs rfl ?_
 refine Lw rfl (w_box rfl rfl) ?_
 rintro _ _ ⟨b1, hb1, rfl, rfl⟩
 refine Lw rfl (w_box rfl rfl) ?_
 rintro _ _ ⟨b2, hb2, rfl, rfl⟩
 refine Lw rfl (w_alloc zr28 rfl) ?_
 rintro _ _ ⟨b3, hb3, rfl, rfl⟩
 refine La rfl rfl rfl ?_
 refine L_then (kp [2, 3, 4, 6] rfl) ?_
 refine Vs rfl ?_
 refine Lr rfl (rlA (vs := [_, _, _, _, _]) ag39 sz39 rfl rfl rfl) ?_
 refine Lc rfl rfl rfl rfl (fun w hg => asked_c t [] _ _ w (hT.good hg) (SliceR.nil _ _) (by simp)) ?_
 refine La rfl rfl rfl ?_
 refine L_then (kp [2, 3, 4, 6, 8] rfl) ?_
 refine V_seq ?_
 refine Vs rfl ?_
 refine Lm rfl rfl rfl ?_
 refine Lp rfl (p_eql rfl rfl rfl) ?_
 refine L_then (kp [2, 3, 4, 6, 8, 16] rfl) ?_
 refine V_cond rfl ?_ ?_
 ·intro c1; have c1r := c1; try simp only [td] at c1
  refine V_region rfl ?_
  refine Lr rfl (rlA (vs := [_, _, _, _, _, _, _, _, _, _, _, _, _]) ag28 sz28 rfl rfl rfl) ?_
  refine Lc rfl rfl rfl rfl (fun w hg => checkbox_c b w) ?_
  refine La rfl rfl rfl ?_
  refine L_then (kp [2, 3, 4, 6, 8] rfl) ?_
  refine V_seq ?_
  refine V_block ?_
  refine Vs rfl ?_
  refine Lm rfl rfl rfl ?_
  refine Lp rfl (p_neq rfl rfl rfl) ?_
  refine La rfl rfl rfl ?_
  refine L_then (kp [2, 3, 4, 6, 8, 19] rfl) ?_
  refine V_cond rfl ?_ ?_
  ·intro c2; have c2r := c2; try simp only [td] at c2
   refine Vs rfl ?_
   refine Lp rfl (p_build (r := [_, _, _, _, _, _, _, _, _, _, _, _, _]) pl28 zr28 rfl rfl rfl) ?_
   refine Lm rfl rfl rfl ?_
   refine Ls (cs' := [_, _, _, _, _, _, _, _, _, _, _, _, _]) rfl sz28 rfl rfl rfl rfl rfl rfl rfl ?_
   refine La rfl rfl rfl ?_
   refine L_then (kp [6, 7] rfl) ?_
   refine V_ret (blk_r (then_r ?_))
   refine Leave.nil (.cellA (us := [_, _, _, _, _, _, _, _, _, _, _, _, _]) rfl ag28 sz28 (by repeat first | exact mH | apply mT) rfl (.tmp rfl .nil)) ?_
   have hnb : ¬ BoxOk b := fun h => c2 (boxE_0 h)
   rw [aheadP_bad (aheadE_2 c1 hnb) (by decide), boxE_7 hnb]; rfl
  intro c2; have c2r := c2; try simp only [td] at c2
  have hok := boxE_ok c2
  have hb := hok
  unfold BoxOk okS at hb
  have hG := (asked_zero c1).1
  obtain ⟨_, hspd, hacc⟩ := hG.nums
  refine Vs rfl ?_
  refine Lm rfl rfl rfl ?_
  refine Lc rfl rfl rfl rfl (fun w hg => out_c _ _ _ w) ?_
  refine Lm rfl rfl rfl ?_
  refine L_cases (d := 27) rfl ?_ ?_
  ·intro g1; have g1' := g1; try simp only [td] at g1'
   iterate 6 refine L_no rfl rfl rfl g1 ?_
   refine Lp rfl (p_pick_t rfl rfl g1 rfl) ?_
   refine La rfl rfl rfl ?_
   refine L_then (kp [2, 3, 4, 6, 24] rfl) ?_
   refine V_cond_t rfl rfl ?_
   refine Vs rfl ?_
   refine Lp rfl (p_build (r := [_, _, _, _, _, _, _, _, _, _, _, _, _]) pl28 zr28 rfl rfl rfl) ?_
   refine Ls (cs' := [_, _, _, _, _, _, _, _, _, _, _, _, _]) rfl sz28 rfl rfl rfl rfl rfl rfl rfl ?_
   refine La rfl rfl rfl ?_
   refine L_then (kp [6, 7] rfl) ?_
   refine V_ret (blk_r (then_r ?_))
   refine Leave.nil (.cellA (us := [_, _, _, _, _, _, _, _, _, _, _, _, _]) rfl ag28 sz28 (by repeat first | exact mH | apply mT) rfl (.tmp rfl .nil)) ?_
   rw [aheadP_bad (aheadE_3 c1 hok (.inl g1')) (by decide)]; rfl
  intro g1; have g1' := g1; try simp only [td] at g1'
  have hn := oP_in g1'
  refine L_yes rfl rfl rfl g1 (X_p (p_fieldo fo28_0 rfl rfl) ?_)
  refine L_yes rfl rfl rfl g1 (X_rd (rl ag3 rfl rfl rfl) ?_)
  refine L_yes rfl rfl rfl g1 (X_p (p_move rfl rfl) ?_)
  first | refine L_yes rfl rfl rfl g1 (X_p (p_add' rfl rfl rfl (by unfold InI; omega)) ?_) | refine L_yes rfl rfl rfl g1 (X_p (p_add rfl rfl rfl) ?_)
  refine L_yes rfl rfl rfl g1 (X_wr (w_slice (r := [_]) un53 sz3 zr3 rfl (by decide) rfl (by decide) rfl rfl) ?_)
  rintro _ _ ⟨b4, hb4, rfl, rfl⟩
  refine L_yes rfl rfl rfl g1 (X_wr (w_callP rfl rfl rfl (fun w hg => never_c [_] _ w (own_ints (l := [_]) (hg.own _ (by repeat first | exact mH | apply mT)) rfl (by decide)) (by simp))) ?_)
  rintro _ _ ⟨rfl, rfl⟩
  refine Lp rfl (p_pick_f rfl rfl g1 rfl) ?_
  refine La rfl rfl rfl ?_
  refine L_then (kp [2, 3, 4, 6, 24] rfl) ?_
  refine V_cond rfl ?_ ?_
  ·intro c3; have c3r := c3; try simp only [td] at c3
   refine Vs rfl ?_
   refine Lp rfl (p_build (r := [_, _, _, _, _, _, _, _, _, _, _, _, _]) pl28 zr28 rfl rfl rfl) ?_
   refine Ls (cs' := [_, _, _, _, _, _, _, _, _, _, _, _, _]) rfl sz28 rfl rfl rfl rfl rfl rfl rfl ?_
   refine La rfl rfl rfl ?_
   refine L_then (kp [6, 7] rfl) ?_
   refine V_ret (blk_r (then_r ?_))
   refine Leave.nil (.cellA (us := [_, _, _, _, _, _, _, _, _, _, _, _, _]) rfl ag28 sz28 (by repeat first | exact mH | apply mT) rfl (.tmp rfl .nil)) ?_
   rw [aheadP_bad (aheadE_3 c1 hok (.inr c3)) (by decide)]; rfl
  intro c3; have c3r := c3; try simp only [td] at c3
  have he := aheadE_4 c1 hok g1' c3
  refine V_skip (blk_n (then_n ?_))
  refine Vs rfl ?_
  refine Lp rfl (p_fieldo fo28_0 rfl rfl) ?_
  refine Lr rfl (rl ag3 rfl rfl rfl) ?_
  refine Lm rfl rfl rfl ?_
  first | refine Lp rfl (p_add' rfl rfl rfl (by unfold InI; omega)) ?_ | refine Lp rfl (p_add rfl rfl rfl) ?_
  refine Lp rfl (p_fieldo fo28_0 rfl rfl) ?_
  refine Ls (cs' := [_, _, _, _, _, _, _, _, _, _, _, _, _]) rfl sz3 rfl rfl rfl rfl rfl rfl rfl ?_
  refine L_then (kp [2, 3, 4, 6] rfl) ?_
  refine Vs rfl ?_
  refine Lc rfl rfl rfl rfl (fun w hg => parts_c b2 w) ?_
  refine Lw rfl (w_alloc zr93 rfl) ?_
  rintro _ _ ⟨b5, hb5, rfl, rfl⟩
  refine Ls (cs' := [_, _, _, _, _, _]) rfl sz93 rfl rfl rfl rfl rfl rfl rfl ?_
  refine L_then (kp [2, 3, 4, 6, 9] rfl) ?_
  refine V_seq ?_
  refine Vs rfl ?_
  refine Lm rfl rfl rfl ?_
  refine L_then (kp [2, 3, 4, 6, 9, 42] rfl) ?_
  refine V_block ?_
  refine V_loopU ?_
  refine LU_step ?_
  refine Vs rfl ?_
  refine Lp rfl (p_lss rfl rfl rfl) ?_
  refine L_then (kp [2, 3, 4, 6, 9, 42, 43] rfl) ?_
  refine V_seq ?_
  refine V_cond_t rfl rfl ?_
  refine V_skip (then_n ?_)
  refine V_seq ?_
  refine V_block ?_
  refine Vs rfl ?_
  refine Lm rfl rfl rfl ?_
  refine La rfl rfl rfl ?_
  refine L_then (kp [2, 3, 4, 6, 9, 10, 42] rfl) ?_
  refine V_mid (γ := Nat × Nat) (kp [2, 3, 4, 6, 9, 10, 42] rfl) (fun (x11, x12) => [(11, .pointer (some ⟨x11, 0, none⟩)), (12, .pointer (some ⟨x12, 0, none⟩))]) (fun (x11, x12) => (x11, .cells #[.int .i64 b.x.lo, .int .i64 b.x.hi] 148) :: (x12, .cells #[.int .i64 b.vx.lo, .int .i64 b.vx.hi] 148) :: (b5, .cells #[.pointer (some ⟨b2, 1, none⟩), .pointer (some ⟨b2, 3, none⟩), .pointer (some ⟨b2, 5, none⟩), .pointer (some ⟨b2, 7, none⟩), .pointer (some ⟨b2, 9, none⟩), .pointer (some ⟨b2, 11, none⟩)] 93) :: (b3, .cells (Box.cells boxZ).toArray 28) :: (b2, .cells (Box.cells ⟨b.at_ + n, b.x, b.y, b.z, b.vx, b.vy, b.vz⟩).toArray 28) :: (b1, t.obj tv pv 39) :: []) (fun (x11, x12) => True) ?_ ?_
  ·refine V_draw (.rd 0 (.rd 1 (.rd 2 (.rd 3 (.rd 4 (.rd 5 (.rd 6 (.rd 7 (.rd 8 (.rd 9 (.rd 10 (.rd 11 (.rd 12 (.wr2 13 [12, 11, 10, 9, 8, 7, 6, 5, 4, 3, 2, 1, 0] (.wr 14 [12, 11, 10, 9, 8, 7, 6, 5, 4, 3, 2, 1, 0] (.wr 15 [12, 10, 9, 8, 7, 6] (.wr 16 [] .done))) 14 [12, 11, 10, 9, 8, 7, 6, 5, 4, 3, 2, 1, 0] (.wr 13 [12, 11, 10, 9, 8, 7, 6, 5, 4, 3, 2, 1, 0] (.wr 15 [12, 10, 9, 8, 7, 6] (.wr 16 [] .done))))))))))))))))) mixed (by kernel_rfl) rfl ?_
   refine Dm rfl rfl rfl rfl ?_
   refine Dp rfl rfl (p_idxao ar93 rfl rfl rfl (by omega) (by omega)) ?_
   refine Dr rfl rfl (rl ag92 rfl rfl rfl) ?_
   refine Dp rfl rfl (p_nil rfl rfl) ?_
   refine Dr rfl rfl (rlA (vs := [_, _]) ag24 sz24 rfl rfl rfl) ?_
   refine Dp rfl rfl (p_build (r := [_, _]) pl148 zr148 rfl rfl rfl) ?_
   refine Dm rfl rfl rfl rfl ?_
   first | refine Dp rfl rfl (p_add' rfl rfl rfl (by unfold InI; omega)) ?_ | refine Dp rfl rfl (p_add rfl rfl rfl) ?_
   refine Dp rfl rfl (p_idxao ar93 rfl rfl rfl (by omega) (by omega)) ?_
   refine Dr rfl rfl (rl ag92 rfl rfl rfl) ?_
   refine Dp rfl rfl (p_nil rfl rfl) ?_
   refine Dr rfl rfl (rlA (vs := [_, _]) ag24 sz24 rfl rfl rfl) ?_
   refine Dp rfl rfl (p_build (r := [_, _]) pl148 zr148 rfl rfl rfl) ?_
   refine D_wr2 rfl ?_ ?_
   ·refine (.go (E' := [(11, _), (9, _), (4, _), (2, _)]) rfl (.plain rfl) (w_alloc zr148 rfl) rfl ?_)
    rintro _ _ ⟨b6, hb6, rfl, rfl⟩
    refine ⟨(.cons rfl (.plain rfl) (rlA (vs := [_, _]) ag24 sz24 rfl rfl rfl) (.cons rfl (.plain rfl) (rl ag92 rfl rfl rfl) (.cons rfl (.plain rfl) (rlA (vs := [_, _]) ag24 sz24 rfl rfl rfl) (.cons rfl (.plain rfl) (rl ag92 rfl rfl rfl) .nil)))), ?_⟩
    refine D_wr (.go (E' := [(11, _), (9, _), (4, _), (2, _)]) rfl (.plain rfl) (w_alloc zr148 rfl) rfl ?_)
    rintro _ _ ⟨b7, hb7, rfl, rfl⟩
    refine ⟨(.cons rfl (.plain rfl) (rlA (vs := [_, _]) ag24 sz24 rfl rfl rfl) (.cons rfl (.plain rfl) (rl ag92 rfl rfl rfl) (.cons rfl (.plain rfl) (rlA (vs := [_, _]) ag24 sz24 rfl rfl rfl) (.cons rfl (.plain rfl) (rl ag92 rfl rfl rfl) .nil)))), ?_⟩
    refine D_wr (.go (E' := [(9, _)]) rfl (.plain rfl) (ws (cs' := [_, _]) sz148 rfl rfl rfl rfl rfl rfl rfl) rfl ?_)
    rintro _ _ ⟨rfl, rfl⟩
    refine ⟨(.cons rfl (.plain rfl) (rl ag92 rfl rfl rfl) .nil), ?_⟩
    refine D_wr (.go (E' := []) rfl (.plain rfl) (ws (cs' := [_, _]) sz148 rfl rfl rfl rfl rfl rfl rfl) rfl ?_)
    rintro _ _ ⟨rfl, rfl⟩
    refine ⟨.nil, ?_⟩
    refine D_then (kp [2, 3, 4, 6, 9, 10, 11, 12, 42] rfl) ?_
    refine ⟨(b6, b7), trivial, (.cons rfl (.cons rfl (.cons rfl (.cons rfl (.cons rfl (.cons rfl (.cons rfl (.cons rfl (.cons rfl (.nil _)))))))))), (by (try dsimp only); repeat (first | exact HSub.nil _ | refine HSub.take (by repeat first | exact Take.head | apply Take.tail) ?_ | exact HSub.refl _ | refine HSub.drop ?_ | refine HSub.app ?_)), rfl⟩
   refine (.go (E' := [(11, _), (9, _), (4, _), (2, _)]) rfl (.plain rfl) (w_alloc zr148 rfl) rfl ?_)
   rintro _ _ ⟨b6, hb6, rfl, rfl⟩
   refine ⟨(.cons rfl (.plain rfl) (rlA (vs := [_, _]) ag24 sz24 rfl rfl rfl) (.cons rfl (.plain rfl) (rl ag92 rfl rfl rfl) (.cons rfl (.plain rfl) (rlA (vs := [_, _]) ag24 sz24 rfl rfl rfl) (.cons rfl (.plain rfl) (rl ag92 rfl rfl rfl) .nil)))), ?_⟩
   refine D_wr (.go (E' := [(11, _), (9, _), (4, _), (2, _)]) rfl (.plain rfl) (w_alloc zr148 rfl) rfl ?_)
   rintro _ _ ⟨b7, hb7, rfl, rfl⟩
   refine ⟨(.cons rfl (.plain rfl) (rlA (vs := [_, _]) ag24 sz24 rfl rfl rfl) (.cons rfl (.plain rfl) (rl ag92 rfl rfl rfl) (.cons rfl (.plain rfl) (rlA (vs := [_, _]) ag24 sz24 rfl rfl rfl) (.cons rfl (.plain rfl) (rl ag92 rfl rfl rfl) .nil)))), ?_⟩
   refine D_wr (.go (E' := [(9, _)]) rfl (.plain rfl) (ws (cs' := [_, _]) sz148 rfl rfl rfl rfl rfl rfl rfl) rfl ?_)
   rintro _ _ ⟨rfl, rfl⟩
   refine ⟨(.cons rfl (.plain rfl) (rl ag92 rfl rfl rfl) .nil), ?_⟩
   refine D_wr (.go (E' := []) rfl (.plain rfl) (ws (cs' := [_, _]) sz148 rfl rfl rfl rfl rfl rfl rfl) rfl ?_)
   rintro _ _ ⟨rfl, rfl⟩
   refine ⟨.nil, ?_⟩
   refine D_then (kp [2, 3, 4, 6, 9, 10, 11, 12, 42] rfl) ?_
   refine ⟨(b7, b6), trivial, (.cons rfl (.cons rfl (.cons rfl (.cons rfl (.cons rfl (.cons rfl (.cons rfl (.cons rfl (.cons rfl (.nil _)))))))))), (by (try dsimp only); repeat (first | exact HSub.nil _ | refine HSub.take (by repeat first | exact Take.head | apply Take.tail) ?_ | exact HSub.refl _ | refine HSub.drop ?_ | refine HSub.app ?_)), rfl⟩
  rintro ⟨x11, x12⟩ _
  refine Vs rfl ?_
  refine Lp rfl (p_fieldo fo39_1 rfl rfl) ?_
  refine Lr rfl (rl ag3 rfl rfl rfl) ?_
  first | refine Lp rfl (p_neg' rfl rfl (by unfold InI; omega)) ?_ | refine Lp rfl (p_neg rfl rfl) ?_
  refine Lp rfl (p_fieldo fo39_1 rfl rfl) ?_
  refine Lr rfl (rl ag3 rfl rfl rfl) ?_
  refine Lw rfl (w_callM rfl rfl rfl (fun o' => (by repeat first | exact .head | apply SetAt.tail)) (fun w hg => narrow_c x12 _ _ 148 (-t.speed) t.speed w (hg.own (x12, _) (by repeat first | exact mH | apply mT)))) ?_
  rintro _ _ ⟨_, rfl, rfl, rfl⟩
  refine L_then (kp [2, 3, 4, 6, 9, 10, 11, 12, 42] rfl) ?_
  refine V_seq ?_
  refine Vs rfl ?_
  iterate 2 refine Lm rfl rfl rfl ?_
  refine L_then (kp [2, 3, 4, 6, 9, 10, 11, 12, 42, 64, 65] rfl) ?_
  refine V_midT (γ := Span × Span) (kp [2, 3, 4, 6, 9, 10, 11, 12, 42] rfl) (fun (q0, r0) => []) (fun (q0, r0) => (x11, .cells #[.int .i64 q0.lo, .int .i64 q0.hi] 148) :: (x12, .cells #[.int .i64 r0.lo, .int .i64 r0.hi] 148) :: (b5, .cells #[.pointer (some ⟨b2, 1, none⟩), .pointer (some ⟨b2, 3, none⟩), .pointer (some ⟨b2, 5, none⟩), .pointer (some ⟨b2, 7, none⟩), .pointer (some ⟨b2, 9, none⟩), .pointer (some ⟨b2, 11, none⟩)] 93) :: (b3, .cells (Box.cells boxZ).toArray 28) :: (b2, .cells (Box.cells ⟨b.at_ + n, b.x, b.y, b.z, b.vx, b.vy, b.vz⟩).toArray 28) :: (b1, t.obj tv pv 39) :: []) (fun (q0, r0) => Met (aheadS t n b.x b.vx) q0 r0) ?_ ?_
  ·refine V_block ?_
   refine V_loop1 (γ := Int × Span × Span) (kp [2, 3, 4, 6, 9, 10, 11, 12, 42, 64] rfl) (fun (k, p, v) => [(65, .int .i64 k)]) (fun (k, p, v) => (x11, .cells #[.int .i64 p.lo, .int .i64 p.hi] 148) :: (x12, .cells #[.int .i64 v.lo, .int .i64 v.hi] 148) :: (b5, .cells #[.pointer (some ⟨b2, 1, none⟩), .pointer (some ⟨b2, 3, none⟩), .pointer (some ⟨b2, 5, none⟩), .pointer (some ⟨b2, 7, none⟩), .pointer (some ⟨b2, 9, none⟩), .pointer (some ⟨b2, 11, none⟩)] 93) :: (b3, .cells (Box.cells boxZ).toArray 28) :: (b2, .cells (Box.cells ⟨b.at_ + n, b.x, b.y, b.z, b.vx, b.vy, b.vz⟩).toArray 28) :: (b1, t.obj tv pv 39) :: []) (fun (k, p, v) => 0 ≤ k ∧ k ≤ n ∧ aheadS t n b.x b.vx = aheadN t (n - k).toNat p v ∧ okS 2000000000 p ∧ SpanB 1000000 v) (fun (k, p, v) => (n - k).toNat) ((0, b.x, common b.vx (room0 t.speed))) (.cons rfl (.nil _)) (by repeat (first | exact List.nil_sublist _ | exact List.Sublist.refl _ | apply List.Sublist.cons_cons | apply List.Sublist.cons)) (⟨by omega, by omega, by rw [Int.sub_zero]; rfl, by unfold okS; omega, by simp only [SpanB, common, room0]; omega⟩) ?_
   rintro ⟨k, p, v⟩ hi
   obtain ⟨hk0, hk1, hah, hp, hv⟩ := hi
   have hpn : p.none = false := by simp only [Span.none, decide_eq_false_iff_not]; unfold okS at hp; omega
   unfold okS at hp
   unfold SpanB at hv
   refine Vs rfl ?_
   refine Lp rfl (p_lss rfl rfl rfl) ?_
   refine L_then (kp [2, 3, 4, 6, 9, 10, 11, 12, 42, 64, 65, 66] rfl) ?_
   refine V_seq ?_
   refine V_cond rfl ?_ ?_
   ·intro c4; have c4r := c4; try simp only [td] at c4
    refine V_skip (then_n ?_)
    refine V_seq ?_
    refine V_block ?_
    refine V_seq ?_
    refine Vs rfl ?_
    refine Lc rfl rfl rfl rfl (fun w hg => empty_c x12 _ _ 148 w (hg.own (x12, _) (by repeat first | exact mH | apply mT))) ?_
    refine L_then (kp [2, 3, 4, 6, 9, 10, 11, 12, 42, 64, 65, 67] rfl) ?_
    refine V_cond rfl ?_ ?_
    ·intro c5; have c5r := c5; try simp only [td] at c5
     refine V_exit (then_e (blk_o rfl (then_e (then_e (blk_e rfl (then_n ?_))))))
     refine ⟨(p, v), ?_, (.cons rfl (.cons rfl (.cons rfl (.cons rfl (.cons rfl (.cons rfl (.cons rfl (.cons rfl (.cons rfl (.nil _)))))))))), (by (try dsimp only); repeat (first | exact HSub.nil _ | refine HSub.take (by repeat first | exact Take.head | apply Take.tail) ?_ | exact HSub.refl _ | refine HSub.drop ?_ | refine HSub.app ?_)), rfl⟩
     exact met_v hah c5
    intro c5; have c5r := c5; try simp only [td] at c5
    refine V_skip (then_n ?_)
    refine Vs rfl ?_
    refine Lp rfl (p_fieldo fo148_0 rfl rfl) ?_
    refine Lp rfl (p_fieldo fo24_0 rfl rfl) ?_
    refine Lr rfl (rl ag3 rfl rfl rfl) ?_
    refine Lp rfl (p_fieldo fo148_0 rfl rfl) ?_
    refine Lp rfl (p_fieldo fo24_0 rfl rfl) ?_
    refine Lr rfl (rl ag3 rfl rfl rfl) ?_
    first | refine Lp rfl (p_add' rfl rfl rfl (by unfold InI; omega)) ?_ | refine Lp rfl (p_add rfl rfl rfl) ?_
    refine Lp rfl (p_fieldo fo148_0 rfl rfl) ?_
    refine Lp rfl (p_fieldo fo24_1 rfl rfl) ?_
    refine Lr rfl (rl ag3 rfl rfl rfl) ?_
    refine Lp rfl (p_fieldo fo148_0 rfl rfl) ?_
    refine Lp rfl (p_fieldo fo24_1 rfl rfl) ?_
    refine Lr rfl (rl ag3 rfl rfl rfl) ?_
    first | refine Lp rfl (p_add' rfl rfl rfl (by unfold InI; omega)) ?_ | refine Lp rfl (p_add rfl rfl rfl) ?_
    refine Lp rfl (p_fieldo fo148_0 rfl rfl) ?_
    refine Lp rfl (p_fieldo fo24_0 rfl rfl) ?_
    refine Ls (cs' := [_, _]) rfl sz3 rfl rfl rfl rfl rfl rfl rfl ?_
    refine Lp rfl (p_fieldo fo148_0 rfl rfl) ?_
    refine Lp rfl (p_fieldo fo24_1 rfl rfl) ?_
    refine Ls (cs' := [_, _]) rfl sz3 rfl rfl rfl rfl rfl rfl rfl ?_
    refine L_then (kp [2, 3, 4, 6, 9, 10, 11, 12, 42, 64, 65] rfl) ?_
    refine Vs rfl ?_
    refine Lw rfl (w_callM rfl rfl rfl (fun o' => (by repeat first | exact .head | apply SetAt.tail)) (fun w hg => narrow_c x11 _ _ 148 (-2000000000) 2000000000 w (hg.own (x11, _) (by repeat first | exact mH | apply mT)))) ?_
    rintro _ _ ⟨_, rfl, rfl, rfl⟩
    refine L_then (kp [2, 3, 4, 6, 9, 10, 11, 12, 42, 64, 65] rfl) ?_
    refine V_seq ?_
    refine Vs rfl ?_
    refine Lc rfl rfl rfl rfl (fun w hg => empty_c x11 _ _ 148 w (hg.own (x11, _) (by repeat first | exact mH | apply mT))) ?_
    refine L_then (kp [2, 3, 4, 6, 9, 10, 11, 12, 42, 64, 65, 87] rfl) ?_
    refine V_cond rfl ?_ ?_
    ·intro c6; have c6r := c6; try simp only [td] at c6
     refine V_exit (then_e (blk_o rfl (then_e (then_e (blk_e rfl (then_n ?_))))))
     refine ⟨(stepP p v, v), ?_, (.cons rfl (.cons rfl (.cons rfl (.cons rfl (.cons rfl (.cons rfl (.cons rfl (.cons rfl (.cons rfl (.nil _)))))))))), (by (try dsimp only); repeat (first | exact HSub.nil _ | refine HSub.take (by repeat first | exact Take.head | apply Take.tail) ?_ | exact HSub.refl _ | refine HSub.drop ?_ | refine HSub.app ?_)), rfl⟩
     exact met_p (hah.trans (aheadN_go ⟨hk0, by omega⟩ hpn c5)) c6
    intro c6; have c6r := c6; try simp only [td] at c6
    refine V_skip (then_n ?_)
    refine V_seq (V_draw (.rd 0 (.rd 1 (.rd 2 (.rd 3 (.rd 4 (.rd 5 (.rd 6 (.rd 7 (.rd 8 (.rd 9 (.rd 10 (.rd 11 (.rd 12 (.rd 13 (.wr 14 [12, 11, 10, 9, 7, 6] (.rd 15 (.rd 16 (.wr 17 [15] .done)))))))))))))))))) mixed (by kernel_rfl) rfl ?_)
    refine Dp rfl rfl (p_fieldo fo148_0 rfl rfl) ?_
    refine Dp rfl rfl (p_fieldo fo24_0 rfl rfl) ?_
    refine Dr rfl rfl (rl ag3 rfl rfl rfl) ?_
    refine Dp rfl rfl (p_fieldo fo39_2 rfl rfl) ?_
    refine Dr rfl rfl (rl ag3 rfl rfl rfl) ?_
    first | refine Dp rfl rfl (p_sub' rfl rfl rfl (by unfold InI; omega)) ?_ | refine Dp rfl rfl (p_sub rfl rfl rfl) ?_
    refine Dp rfl rfl (p_fieldo fo148_0 rfl rfl) ?_
    refine Dp rfl rfl (p_fieldo fo24_1 rfl rfl) ?_
    refine Dr rfl rfl (rl ag3 rfl rfl rfl) ?_
    refine Dp rfl rfl (p_fieldo fo39_2 rfl rfl) ?_
    refine Dr rfl rfl (rl ag3 rfl rfl rfl) ?_
    first | refine Dp rfl rfl (p_add' rfl rfl rfl (by unfold InI; omega)) ?_ | refine Dp rfl rfl (p_add rfl rfl rfl) ?_
    refine Dp rfl rfl (p_fieldo fo148_0 rfl rfl) ?_
    refine Dp rfl rfl (p_fieldo fo24_0 rfl rfl) ?_
    refine D_wr (.go (E' := [(10, _)]) rfl (.plain rfl) (ws (cs' := [_, _]) sz3 rfl rfl rfl rfl rfl rfl rfl) rfl ?_)
    rintro _ _ ⟨rfl, rfl⟩
    refine ⟨(.cons rfl (.plain rfl) (rl ag3 rfl rfl rfl) .nil), ?_⟩
    refine Dp rfl rfl (p_fieldo fo148_0 rfl rfl) ?_
    refine Dp rfl rfl (p_fieldo fo24_1 rfl rfl) ?_
    refine D_wr (.go (E' := []) rfl (.plain rfl) (ws (cs' := [_, _]) sz3 rfl rfl rfl rfl rfl rfl rfl) rfl ?_)
    rintro _ _ ⟨rfl, rfl⟩
    refine ⟨.nil, ?_⟩
    refine D_then (kp [2, 3, 4, 6, 9, 10, 11, 12, 42, 64, 65] rfl) ?_
    refine V_region rfl ?_
    refine Lp rfl (p_fieldo fo39_1 rfl rfl) ?_
    refine Lr rfl (rl ag3 rfl rfl rfl) ?_
    first | refine Lp rfl (p_neg' rfl rfl (by unfold InI; omega)) ?_ | refine Lp rfl (p_neg rfl rfl) ?_
    refine Lp rfl (p_fieldo fo39_1 rfl rfl) ?_
    refine Lr rfl (rl ag3 rfl rfl rfl) ?_
    refine Lw rfl (w_callM rfl rfl rfl (fun o' => (by repeat first | exact .head | apply SetAt.tail)) (fun w hg => narrow_c x12 _ _ 148 (-t.speed) t.speed w (hg.own (x12, _) (by repeat first | exact mH | apply mT)))) ?_
    rintro _ _ ⟨_, rfl, rfl, rfl⟩
    refine L_keep (kp [2, 3, 4, 6, 9, 10, 11, 12, 42, 64, 65] rfl) (blk_n (then_n ?_))
    refine V_region rfl ?_
    first | refine Lp rfl (p_add' rfl rfl rfl (by unfold InI; omega)) ?_ | refine Lp rfl (p_add rfl rfl rfl) ?_
    refine Lm rfl rfl rfl ?_
    refine L_keep (kp [2, 3, 4, 6, 9, 10, 11, 12, 42, 64, 65] rfl) (then_n ?_)
    refine ⟨(k + 1, stepP p v, stepV t v), ?_, ?_, (.cons rfl (.cons rfl (.cons rfl (.cons rfl (.cons rfl (.cons rfl (.cons rfl (.cons rfl (.cons rfl (.cons rfl (.cons rfl (.nil _)))))))))))), (by repeat (first | exact List.nil_sublist _ | exact List.Sublist.refl _ | apply List.Sublist.cons_cons | apply List.Sublist.cons | apply List.sublist_append_of_sublist_right)), rfl⟩
    ·refine ⟨by omega, by omega, hah.trans (aheadN_go ⟨hk0, by omega⟩ hpn c5), ?_, ?_⟩
     ·have h5 := none_false c6
      simp only [stepP, common, room0] at h5
      simp only [okS, stepP, common, room0]; omega
     simp only [SpanB, stepV, common, room0]; omega
    dsimp only; omega
   intro c4; have c4r := c4; try simp only [td] at c4
   refine V_exit (then_e (then_e (blk_e rfl (then_n ?_))))
   refine ⟨(p, v), ?_, (.cons rfl (.cons rfl (.cons rfl (.cons rfl (.cons rfl (.cons rfl (.cons rfl (.cons rfl (.cons rfl (.nil _)))))))))), (by (try dsimp only); repeat (first | exact HSub.nil _ | refine HSub.take (by repeat first | exact Take.head | apply Take.tail) ?_ | exact HSub.refl _ | refine HSub.drop ?_ | refine HSub.app ?_)), rfl⟩
   exact met_end hah (by omega) hpn
  rintro ⟨q0, r0⟩ hm0
  refine V_seq ?_
  refine Vs rfl ?_
  refine Lc rfl rfl rfl rfl (fun w hg => empty_c x11 _ _ 148 w (hg.own (x11, _) (by repeat first | exact mH | apply mT))) ?_
  refine Lm rfl rfl rfl ?_
  refine L_cases (d := 112) rfl ?_ ?_
  ·intro g2; have g2' := g2; try simp only [td] at g2'
   refine L_no rfl rfl rfl g2 ?_
   refine Lp rfl (p_pick_t rfl rfl g2 rfl) ?_
   refine L_then (kp [2, 3, 4, 6, 9, 10, 11, 12, 42, 114] rfl) ?_
   refine V_cond_t rfl rfl ?_
   refine Vs rfl ?_
   refine Lp rfl (p_build (r := [_, _, _, _, _, _, _, _, _, _, _, _, _]) pl28 zr28 rfl rfl rfl) ?_
   refine Ls (cs' := [_, _, _, _, _, _, _, _, _, _, _, _, _]) rfl sz28 rfl rfl rfl rfl rfl rfl rfl ?_
   refine La rfl rfl rfl ?_
   refine L_then (kp [6, 7] rfl) ?_
   refine V_ret (then_r (blk_r (then_r (then_r (blk_r (then_r ?_))))))
   refine Leave.nil (.cellA (us := [_, _, _, _, _, _, _, _, _, _, _, _, _]) rfl ag28 sz28 (by repeat first | exact mH | apply mT) rfl (.tmp rfl .nil)) ?_
   rw [aheadP_ok he, foundP_none (aheadB_0 (hm0.no (.inl g2')))]; rfl
  intro g2; have g2' := g2; try simp only [td] at g2'
  refine L_yes rfl rfl rfl g2 (X_wr (w_callP rfl rfl rfl (fun w hg => empty_c x12 _ _ 148 w (hg.own (x12, _) (by repeat first | exact mH | apply mT)))) ?_)
  rintro _ _ ⟨rfl, rfl⟩
  refine Lp rfl (p_pick_f rfl rfl g2 rfl) ?_
  refine L_then (kp [2, 3, 4, 6, 9, 10, 11, 12, 42, 114] rfl) ?_
  refine V_cond rfl ?_ ?_
  ·intro c7; have c7r := c7; try simp only [td] at c7
   refine Vs rfl ?_
   refine Lp rfl (p_build (r := [_, _, _, _, _, _, _, _, _, _, _, _, _]) pl28 zr28 rfl rfl rfl) ?_
   refine Ls (cs' := [_, _, _, _, _, _, _, _, _, _, _, _, _]) rfl sz28 rfl rfl rfl rfl rfl rfl rfl ?_
   refine La rfl rfl rfl ?_
   refine L_then (kp [6, 7] rfl) ?_
   refine V_ret (then_r (blk_r (then_r (then_r (blk_r (then_r ?_))))))
   refine Leave.nil (.cellA (us := [_, _, _, _, _, _, _, _, _, _, _, _, _]) rfl ag28 sz28 (by repeat first | exact mH | apply mT) rfl (.tmp rfl .nil)) ?_
   rw [aheadP_ok he, foundP_none (aheadB_0 (hm0.no (.inr c7)))]; rfl
  intro c7; have c7r := c7; try simp only [td] at c7
  refine V_skip (then_n ?_)
  refine V_draw (.rd 0 (.rd 1 (.rd 2 (.rd 3 (.rd 4 (.rd 5 (.rd 6 (.rd 7 (.rd 8 (.rd 9 (.rd 10 (.rd 11 (.wr 12 [9, 6, 5, 4, 3] (.rd 13 (.wr 14 [] .done))))))))))))))) mixed (by kernel_rfl) rfl ?_
  refine Dm rfl rfl rfl rfl ?_
  refine Dp rfl rfl (p_idxao ar93 rfl rfl rfl (by omega) (by omega)) ?_
  refine Dr rfl rfl (rl ag92 rfl rfl rfl) ?_
  refine Dm rfl rfl rfl rfl ?_
  first | refine Dp rfl rfl (p_add' rfl rfl rfl (by unfold InI; omega)) ?_ | refine Dp rfl rfl (p_add rfl rfl rfl) ?_
  refine Dp rfl rfl (p_idxao ar93 rfl rfl rfl (by omega) (by omega)) ?_
  refine Dr rfl rfl (rl ag92 rfl rfl rfl) ?_
  refine Dp rfl rfl (p_fieldo fo148_0 rfl rfl) ?_
  refine Dr rfl rfl (rlA (vs := [_, _]) ag24 sz24 rfl rfl rfl) ?_
  refine Dp rfl rfl (p_fieldo fo148_0 rfl rfl) ?_
  refine Dr rfl rfl (rlA (vs := [_, _]) ag24 sz24 rfl rfl rfl) ?_
  refine Dp rfl rfl (p_nil rfl rfl) ?_
  refine D_wr (.go (E' := [(6, _)]) rfl (.plain rfl) (ws (cs' := [_, _, _, _, _, _, _, _, _, _, _, _, _]) sz24 rfl rfl rfl rfl rfl rfl rfl) rfl ?_)
  rintro _ _ ⟨rfl, rfl⟩
  refine ⟨(.cons rfl (.plain rfl) (rl ag92 rfl rfl rfl) .nil), ?_⟩
  refine Dp rfl rfl (p_nil rfl rfl) ?_
  refine D_wr (.go (E' := []) rfl (.plain rfl) (ws (cs' := [_, _, _, _, _, _, _, _, _, _, _, _, _]) sz24 rfl rfl rfl rfl rfl rfl rfl) rfl ?_)
  rintro _ _ ⟨rfl, rfl⟩
  refine ⟨.nil, ?_⟩
  refine D_keep (kp [2, 3, 4, 6, 9, 42] rfl) (blk_n (then_n ?_))
  refine V_region rfl ?_
  first | refine Lp rfl (p_add' rfl rfl rfl (by unfold InI; omega)) ?_ | refine Lp rfl (p_add rfl rfl rfl) ?_
  refine Lm rfl rfl rfl ?_
  refine L_keep (kp [2, 3, 4, 6, 9, 42] rfl) (then_n ?_)
  refine LU_step ?_
  refine Vs rfl ?_
  refine Lp rfl (p_lss rfl rfl rfl) ?_
  refine L_then (kp [2, 3, 4, 6, 9, 42, 43] rfl) ?_
  refine V_seq ?_
  refine V_cond_t rfl rfl ?_
  refine V_skip (then_n ?_)
  refine V_seq ?_
  refine V_block ?_
  refine Vs rfl ?_
  refine Lm rfl rfl rfl ?_
  refine La rfl rfl rfl ?_
  refine L_then (kp [2, 3, 4, 6, 9, 10, 42] rfl) ?_
  refine V_mid (γ := Nat × Nat) (kp [2, 3, 4, 6, 9, 10, 42] rfl) (fun (x11, x12) => [(11, .pointer (some ⟨x11, 0, none⟩)), (12, .pointer (some ⟨x12, 0, none⟩))]) (fun (x11, x12) => (x11, .cells #[.int .i64 b.y.lo, .int .i64 b.y.hi] 148) :: (x12, .cells #[.int .i64 b.vy.lo, .int .i64 b.vy.hi] 148) :: (b5, .cells #[.pointer (some ⟨b2, 1, none⟩), .pointer (some ⟨b2, 3, none⟩), .pointer (some ⟨b2, 5, none⟩), .pointer (some ⟨b2, 7, none⟩), .pointer (some ⟨b2, 9, none⟩), .pointer (some ⟨b2, 11, none⟩)] 93) :: (b3, .cells (Box.cells boxZ).toArray 28) :: (b2, .cells (Box.cells ⟨b.at_ + n, q0, b.y, b.z, r0, b.vy, b.vz⟩).toArray 28) :: (b1, t.obj tv pv 39) :: []) (fun (x11, x12) => True) ?_ ?_
  ·refine V_draw (.rd 0 (.rd 1 (.rd 2 (.rd 3 (.rd 4 (.rd 5 (.rd 6 (.rd 7 (.rd 8 (.rd 9 (.rd 10 (.rd 11 (.rd 12 (.wr2 13 [12, 11, 10, 9, 8, 7, 6, 5, 4, 3, 2, 1, 0] (.wr 14 [12, 11, 10, 9, 8, 7, 6, 5, 4, 3, 2, 1, 0] (.wr 15 [12, 10, 9, 8, 7, 6] (.wr 16 [] .done))) 14 [12, 11, 10, 9, 8, 7, 6, 5, 4, 3, 2, 1, 0] (.wr 13 [12, 11, 10, 9, 8, 7, 6, 5, 4, 3, 2, 1, 0] (.wr 15 [12, 10, 9, 8, 7, 6] (.wr 16 [] .done))))))))))))))))) mixed (by kernel_rfl) rfl ?_
   refine Dm rfl rfl rfl rfl ?_
   refine Dp rfl rfl (p_idxao ar93 rfl rfl rfl (by omega) (by omega)) ?_
   refine Dr rfl rfl (rl ag92 rfl rfl rfl) ?_
   refine Dp rfl rfl (p_nil rfl rfl) ?_
   refine Dr rfl rfl (rlA (vs := [_, _]) ag24 sz24 rfl rfl rfl) ?_
   refine Dp rfl rfl (p_build (r := [_, _]) pl148 zr148 rfl rfl rfl) ?_
   refine Dm rfl rfl rfl rfl ?_
   first | refine Dp rfl rfl (p_add' rfl rfl rfl (by unfold InI; omega)) ?_ | refine Dp rfl rfl (p_add rfl rfl rfl) ?_
   refine Dp rfl rfl (p_idxao ar93 rfl rfl rfl (by omega) (by omega)) ?_
   refine Dr rfl rfl (rl ag92 rfl rfl rfl) ?_
   refine Dp rfl rfl (p_nil rfl rfl) ?_
   refine Dr rfl rfl (rlA (vs := [_, _]) ag24 sz24 rfl rfl rfl) ?_
   refine Dp rfl rfl (p_build (r := [_, _]) pl148 zr148 rfl rfl rfl) ?_
   refine D_wr2 rfl ?_ ?_
   ·refine (.go (E' := [(11, _), (9, _), (4, _), (2, _)]) rfl (.plain rfl) (w_alloc zr148 rfl) rfl ?_)
    rintro _ _ ⟨b6, hb6, rfl, rfl⟩
    refine ⟨(.cons rfl (.plain rfl) (rlA (vs := [_, _]) ag24 sz24 rfl rfl rfl) (.cons rfl (.plain rfl) (rl ag92 rfl rfl rfl) (.cons rfl (.plain rfl) (rlA (vs := [_, _]) ag24 sz24 rfl rfl rfl) (.cons rfl (.plain rfl) (rl ag92 rfl rfl rfl) .nil)))), ?_⟩
    refine D_wr (.go (E' := [(11, _), (9, _), (4, _), (2, _)]) rfl (.plain rfl) (w_alloc zr148 rfl) rfl ?_)
    rintro _ _ ⟨b7, hb7, rfl, rfl⟩
    refine ⟨(.cons rfl (.plain rfl) (rlA (vs := [_, _]) ag24 sz24 rfl rfl rfl) (.cons rfl (.plain rfl) (rl ag92 rfl rfl rfl) (.cons rfl (.plain rfl) (rlA (vs := [_, _]) ag24 sz24 rfl rfl rfl) (.cons rfl (.plain rfl) (rl ag92 rfl rfl rfl) .nil)))), ?_⟩
    refine D_wr (.go (E' := [(9, _)]) rfl (.plain rfl) (ws (cs' := [_, _]) sz148 rfl rfl rfl rfl rfl rfl rfl) rfl ?_)
    rintro _ _ ⟨rfl, rfl⟩
    refine ⟨(.cons rfl (.plain rfl) (rl ag92 rfl rfl rfl) .nil), ?_⟩
    refine D_wr (.go (E' := []) rfl (.plain rfl) (ws (cs' := [_, _]) sz148 rfl rfl rfl rfl rfl rfl rfl) rfl ?_)
    rintro _ _ ⟨rfl, rfl⟩
    refine ⟨.nil, ?_⟩
    refine D_then (kp [2, 3, 4, 6, 9, 10, 11, 12, 42] rfl) ?_
    refine ⟨(b6, b7), trivial, (.cons rfl (.cons rfl (.cons rfl (.cons rfl (.cons rfl (.cons rfl (.cons rfl (.cons rfl (.cons rfl (.nil _)))))))))), (by (try dsimp only); repeat (first | exact HSub.nil _ | refine HSub.take (by repeat first | exact Take.head | apply Take.tail) ?_ | exact HSub.refl _ | refine HSub.drop ?_ | refine HSub.app ?_)), rfl⟩
   refine (.go (E' := [(11, _), (9, _), (4, _), (2, _)]) rfl (.plain rfl) (w_alloc zr148 rfl) rfl ?_)
   rintro _ _ ⟨b6, hb6, rfl, rfl⟩
   refine ⟨(.cons rfl (.plain rfl) (rlA (vs := [_, _]) ag24 sz24 rfl rfl rfl) (.cons rfl (.plain rfl) (rl ag92 rfl rfl rfl) (.cons rfl (.plain rfl) (rlA (vs := [_, _]) ag24 sz24 rfl rfl rfl) (.cons rfl (.plain rfl) (rl ag92 rfl rfl rfl) .nil)))), ?_⟩
   refine D_wr (.go (E' := [(11, _), (9, _), (4, _), (2, _)]) rfl (.plain rfl) (w_alloc zr148 rfl) rfl ?_)
   rintro _ _ ⟨b7, hb7, rfl, rfl⟩
   refine ⟨(.cons rfl (.plain rfl) (rlA (vs := [_, _]) ag24 sz24 rfl rfl rfl) (.cons rfl (.plain rfl) (rl ag92 rfl rfl rfl) (.cons rfl (.plain rfl) (rlA (vs := [_, _]) ag24 sz24 rfl rfl rfl) (.cons rfl (.plain rfl) (rl ag92 rfl rfl rfl) .nil)))), ?_⟩
   refine D_wr (.go (E' := [(9, _)]) rfl (.plain rfl) (ws (cs' := [_, _]) sz148 rfl rfl rfl rfl rfl rfl rfl) rfl ?_)
   rintro _ _ ⟨rfl, rfl⟩
   refine ⟨(.cons rfl (.plain rfl) (rl ag92 rfl rfl rfl) .nil), ?_⟩
   refine D_wr (.go (E' := []) rfl (.plain rfl) (ws (cs' := [_, _]) sz148 rfl rfl rfl rfl rfl rfl rfl) rfl ?_)
   rintro _ _ ⟨rfl, rfl⟩
   refine ⟨.nil, ?_⟩
   refine D_then (kp [2, 3, 4, 6, 9, 10, 11, 12, 42] rfl) ?_
   refine ⟨(b7, b6), trivial, (.cons rfl (.cons rfl (.cons rfl (.cons rfl (.cons rfl (.cons rfl (.cons rfl (.cons rfl (.cons rfl (.nil _)))))))))), (by (try dsimp only); repeat (first | exact HSub.nil _ | refine HSub.take (by repeat first | exact Take.head | apply Take.tail) ?_ | exact HSub.refl _ | refine HSub.drop ?_ | refine HSub.app ?_)), rfl⟩
  rintro ⟨x11, x12⟩ _
  refine Vs rfl ?_
  refine Lp rfl (p_fieldo fo39_1 rfl rfl) ?_
  refine Lr rfl (rl ag3 rfl rfl rfl) ?_
  first | refine Lp rfl (p_neg' rfl rfl (by unfold InI; omega)) ?_ | refine Lp rfl (p_neg rfl rfl) ?_
  refine Lp rfl (p_fieldo fo39_1 rfl rfl) ?_
  refine Lr rfl (rl ag3 rfl rfl rfl) ?_
  refine Lw rfl (w_callM rfl rfl rfl (fun o' => (by repeat first | exact .head | apply SetAt.tail)) (fun w hg => narrow_c x12 _ _ 148 (-t.speed) t.speed w (hg.own (x12, _) (by repeat first | exact mH | apply mT)))) ?_
  rintro _ _ ⟨_, rfl, rfl, rfl⟩
  refine L_then (kp [2, 3, 4, 6, 9, 10, 11, 12, 42] rfl) ?_
  refine V_seq ?_
  refine Vs rfl ?_
  iterate 2 refine Lm rfl rfl rfl ?_
  refine L_then (kp [2, 3, 4, 6, 9, 10, 11, 12, 42, 64, 65] rfl) ?_
  refine V_midT (γ := Span × Span) (kp [2, 3, 4, 6, 9, 10, 11, 12, 42] rfl) (fun (q1, r1) => []) (fun (q1, r1) => (x11, .cells #[.int .i64 q1.lo, .int .i64 q1.hi] 148) :: (x12, .cells #[.int .i64 r1.lo, .int .i64 r1.hi] 148) :: (b5, .cells #[.pointer (some ⟨b2, 1, none⟩), .pointer (some ⟨b2, 3, none⟩), .pointer (some ⟨b2, 5, none⟩), .pointer (some ⟨b2, 7, none⟩), .pointer (some ⟨b2, 9, none⟩), .pointer (some ⟨b2, 11, none⟩)] 93) :: (b3, .cells (Box.cells boxZ).toArray 28) :: (b2, .cells (Box.cells ⟨b.at_ + n, q0, b.y, b.z, r0, b.vy, b.vz⟩).toArray 28) :: (b1, t.obj tv pv 39) :: []) (fun (q1, r1) => Met (aheadS t n b.y b.vy) q1 r1) ?_ ?_
  ·refine V_block ?_
   refine V_loop1 (γ := Int × Span × Span) (kp [2, 3, 4, 6, 9, 10, 11, 12, 42, 64] rfl) (fun (k, p, v) => [(65, .int .i64 k)]) (fun (k, p, v) => (x11, .cells #[.int .i64 p.lo, .int .i64 p.hi] 148) :: (x12, .cells #[.int .i64 v.lo, .int .i64 v.hi] 148) :: (b5, .cells #[.pointer (some ⟨b2, 1, none⟩), .pointer (some ⟨b2, 3, none⟩), .pointer (some ⟨b2, 5, none⟩), .pointer (some ⟨b2, 7, none⟩), .pointer (some ⟨b2, 9, none⟩), .pointer (some ⟨b2, 11, none⟩)] 93) :: (b3, .cells (Box.cells boxZ).toArray 28) :: (b2, .cells (Box.cells ⟨b.at_ + n, q0, b.y, b.z, r0, b.vy, b.vz⟩).toArray 28) :: (b1, t.obj tv pv 39) :: []) (fun (k, p, v) => 0 ≤ k ∧ k ≤ n ∧ aheadS t n b.y b.vy = aheadN t (n - k).toNat p v ∧ okS 2000000000 p ∧ SpanB 1000000 v) (fun (k, p, v) => (n - k).toNat) ((0, b.y, common b.vy (room0 t.speed))) (.cons rfl (.nil _)) (by repeat (first | exact List.nil_sublist _ | exact List.Sublist.refl _ | apply List.Sublist.cons_cons | apply List.Sublist.cons)) (⟨by omega, by omega, by rw [Int.sub_zero]; rfl, by unfold okS; omega, by simp only [SpanB, common, room0]; omega⟩) ?_
   rintro ⟨k, p, v⟩ hi
   obtain ⟨hk0, hk1, hah, hp, hv⟩ := hi
   have hpn : p.none = false := by simp only [Span.none, decide_eq_false_iff_not]; unfold okS at hp; omega
   unfold okS at hp
   unfold SpanB at hv
   refine Vs rfl ?_
   refine Lp rfl (p_lss rfl rfl rfl) ?_
   refine L_then (kp [2, 3, 4, 6, 9, 10, 11, 12, 42, 64, 65, 66] rfl) ?_
   refine V_seq ?_
   refine V_cond rfl ?_ ?_
   ·intro c8; have c8r := c8; try simp only [td] at c8
    refine V_skip (then_n ?_)
    refine V_seq ?_
    refine V_block ?_
    refine V_seq ?_
    refine Vs rfl ?_
    refine Lc rfl rfl rfl rfl (fun w hg => empty_c x12 _ _ 148 w (hg.own (x12, _) (by repeat first | exact mH | apply mT))) ?_
    refine L_then (kp [2, 3, 4, 6, 9, 10, 11, 12, 42, 64, 65, 67] rfl) ?_
    refine V_cond rfl ?_ ?_
    ·intro c9; have c9r := c9; try simp only [td] at c9
     refine V_exit (then_e (blk_o rfl (then_e (then_e (blk_e rfl (then_n ?_))))))
     refine ⟨(p, v), ?_, (.cons rfl (.cons rfl (.cons rfl (.cons rfl (.cons rfl (.cons rfl (.cons rfl (.cons rfl (.cons rfl (.nil _)))))))))), (by (try dsimp only); repeat (first | exact HSub.nil _ | refine HSub.take (by repeat first | exact Take.head | apply Take.tail) ?_ | exact HSub.refl _ | refine HSub.drop ?_ | refine HSub.app ?_)), rfl⟩
     exact met_v hah c9
    intro c9; have c9r := c9; try simp only [td] at c9
    refine V_skip (then_n ?_)
    refine Vs rfl ?_
    refine Lp rfl (p_fieldo fo148_0 rfl rfl) ?_
    refine Lp rfl (p_fieldo fo24_0 rfl rfl) ?_
    refine Lr rfl (rl ag3 rfl rfl rfl) ?_
    refine Lp rfl (p_fieldo fo148_0 rfl rfl) ?_
    refine Lp rfl (p_fieldo fo24_0 rfl rfl) ?_
    refine Lr rfl (rl ag3 rfl rfl rfl) ?_
    first | refine Lp rfl (p_add' rfl rfl rfl (by unfold InI; omega)) ?_ | refine Lp rfl (p_add rfl rfl rfl) ?_
    refine Lp rfl (p_fieldo fo148_0 rfl rfl) ?_
    refine Lp rfl (p_fieldo fo24_1 rfl rfl) ?_
    refine Lr rfl (rl ag3 rfl rfl rfl) ?_
    refine Lp rfl (p_fieldo fo148_0 rfl rfl) ?_
    refine Lp rfl (p_fieldo fo24_1 rfl rfl) ?_
    refine Lr rfl (rl ag3 rfl rfl rfl) ?_
    first | refine Lp rfl (p_add' rfl rfl rfl (by unfold InI; omega)) ?_ | refine Lp rfl (p_add rfl rfl rfl) ?_
    refine Lp rfl (p_fieldo fo148_0 rfl rfl) ?_
    refine Lp rfl (p_fieldo fo24_0 rfl rfl) ?_
    refine Ls (cs' := [_, _]) rfl sz3 rfl rfl rfl rfl rfl rfl rfl ?_
    refine Lp rfl (p_fieldo fo148_0 rfl rfl) ?_
    refine Lp rfl (p_fieldo fo24_1 rfl rfl) ?_
    refine Ls (cs' := [_, _]) rfl sz3 rfl rfl rfl rfl rfl rfl rfl ?_
    refine L_then (kp [2, 3, 4, 6, 9, 10, 11, 12, 42, 64, 65] rfl) ?_
    refine Vs rfl ?_
    refine Lw rfl (w_callM rfl rfl rfl (fun o' => (by repeat first | exact .head | apply SetAt.tail)) (fun w hg => narrow_c x11 _ _ 148 (-2000000000) 2000000000 w (hg.own (x11, _) (by repeat first | exact mH | apply mT)))) ?_
    rintro _ _ ⟨_, rfl, rfl, rfl⟩
    refine L_then (kp [2, 3, 4, 6, 9, 10, 11, 12, 42, 64, 65] rfl) ?_
    refine V_seq ?_
    refine Vs rfl ?_
    refine Lc rfl rfl rfl rfl (fun w hg => empty_c x11 _ _ 148 w (hg.own (x11, _) (by repeat first | exact mH | apply mT))) ?_
    refine L_then (kp [2, 3, 4, 6, 9, 10, 11, 12, 42, 64, 65, 87] rfl) ?_
    refine V_cond rfl ?_ ?_
    ·intro c10; have c10r := c10; try simp only [td] at c10
     refine V_exit (then_e (blk_o rfl (then_e (then_e (blk_e rfl (then_n ?_))))))
     refine ⟨(stepP p v, v), ?_, (.cons rfl (.cons rfl (.cons rfl (.cons rfl (.cons rfl (.cons rfl (.cons rfl (.cons rfl (.cons rfl (.nil _)))))))))), (by (try dsimp only); repeat (first | exact HSub.nil _ | refine HSub.take (by repeat first | exact Take.head | apply Take.tail) ?_ | exact HSub.refl _ | refine HSub.drop ?_ | refine HSub.app ?_)), rfl⟩
     exact met_p (hah.trans (aheadN_go ⟨hk0, by omega⟩ hpn c9)) c10
    intro c10; have c10r := c10; try simp only [td] at c10
    refine V_skip (then_n ?_)
    refine V_seq (V_draw (.rd 0 (.rd 1 (.rd 2 (.rd 3 (.rd 4 (.rd 5 (.rd 6 (.rd 7 (.rd 8 (.rd 9 (.rd 10 (.rd 11 (.rd 12 (.rd 13 (.wr 14 [12, 11, 10, 9, 7, 6] (.rd 15 (.rd 16 (.wr 17 [15] .done)))))))))))))))))) mixed (by kernel_rfl) rfl ?_)
    refine Dp rfl rfl (p_fieldo fo148_0 rfl rfl) ?_
    refine Dp rfl rfl (p_fieldo fo24_0 rfl rfl) ?_
    refine Dr rfl rfl (rl ag3 rfl rfl rfl) ?_
    refine Dp rfl rfl (p_fieldo fo39_2 rfl rfl) ?_
    refine Dr rfl rfl (rl ag3 rfl rfl rfl) ?_
    first | refine Dp rfl rfl (p_sub' rfl rfl rfl (by unfold InI; omega)) ?_ | refine Dp rfl rfl (p_sub rfl rfl rfl) ?_
    refine Dp rfl rfl (p_fieldo fo148_0 rfl rfl) ?_
    refine Dp rfl rfl (p_fieldo fo24_1 rfl rfl) ?_
    refine Dr rfl rfl (rl ag3 rfl rfl rfl) ?_
    refine Dp rfl rfl (p_fieldo fo39_2 rfl rfl) ?_
    refine Dr rfl rfl (rl ag3 rfl rfl rfl) ?_
    first | refine Dp rfl rfl (p_add' rfl rfl rfl (by unfold InI; omega)) ?_ | refine Dp rfl rfl (p_add rfl rfl rfl) ?_
    refine Dp rfl rfl (p_fieldo fo148_0 rfl rfl) ?_
    refine Dp rfl rfl (p_fieldo fo24_0 rfl rfl) ?_
    refine D_wr (.go (E' := [(10, _)]) rfl (.plain rfl) (ws (cs' := [_, _]) sz3 rfl rfl rfl rfl rfl rfl rfl) rfl ?_)
    rintro _ _ ⟨rfl, rfl⟩
    refine ⟨(.cons rfl (.plain rfl) (rl ag3 rfl rfl rfl) .nil), ?_⟩
    refine Dp rfl rfl (p_fieldo fo148_0 rfl rfl) ?_
    refine Dp rfl rfl (p_fieldo fo24_1 rfl rfl) ?_
    refine D_wr (.go (E' := []) rfl (.plain rfl) (ws (cs' := [_, _]) sz3 rfl rfl rfl rfl rfl rfl rfl) rfl ?_)
    rintro _ _ ⟨rfl, rfl⟩
    refine ⟨.nil, ?_⟩
    refine D_then (kp [2, 3, 4, 6, 9, 10, 11, 12, 42, 64, 65] rfl) ?_
    refine V_region rfl ?_
    refine Lp rfl (p_fieldo fo39_1 rfl rfl) ?_
    refine Lr rfl (rl ag3 rfl rfl rfl) ?_
    first | refine Lp rfl (p_neg' rfl rfl (by unfold InI; omega)) ?_ | refine Lp rfl (p_neg rfl rfl) ?_
    refine Lp rfl (p_fieldo fo39_1 rfl rfl) ?_
    refine Lr rfl (rl ag3 rfl rfl rfl) ?_
    refine Lw rfl (w_callM rfl rfl rfl (fun o' => (by repeat first | exact .head | apply SetAt.tail)) (fun w hg => narrow_c x12 _ _ 148 (-t.speed) t.speed w (hg.own (x12, _) (by repeat first | exact mH | apply mT)))) ?_
    rintro _ _ ⟨_, rfl, rfl, rfl⟩
    refine L_keep (kp [2, 3, 4, 6, 9, 10, 11, 12, 42, 64, 65] rfl) (blk_n (then_n ?_))
    refine V_region rfl ?_
    first | refine Lp rfl (p_add' rfl rfl rfl (by unfold InI; omega)) ?_ | refine Lp rfl (p_add rfl rfl rfl) ?_
    refine Lm rfl rfl rfl ?_
    refine L_keep (kp [2, 3, 4, 6, 9, 10, 11, 12, 42, 64, 65] rfl) (then_n ?_)
    refine ⟨(k + 1, stepP p v, stepV t v), ?_, ?_, (.cons rfl (.cons rfl (.cons rfl (.cons rfl (.cons rfl (.cons rfl (.cons rfl (.cons rfl (.cons rfl (.cons rfl (.cons rfl (.nil _)))))))))))), (by repeat (first | exact List.nil_sublist _ | exact List.Sublist.refl _ | apply List.Sublist.cons_cons | apply List.Sublist.cons | apply List.sublist_append_of_sublist_right)), rfl⟩
    ·refine ⟨by omega, by omega, hah.trans (aheadN_go ⟨hk0, by omega⟩ hpn c9), ?_, ?_⟩
     ·have h5 := none_false c10
      simp only [stepP, common, room0] at h5
      simp only [okS, stepP, common, room0]; omega
     simp only [SpanB, stepV, common, room0]; omega
    dsimp only; omega
   intro c8; have c8r := c8; try simp only [td] at c8
   refine V_exit (then_e (then_e (blk_e rfl (then_n ?_))))
   refine ⟨(p, v), ?_, (.cons rfl (.cons rfl (.cons rfl (.cons rfl (.cons rfl (.cons rfl (.cons rfl (.cons rfl (.cons rfl (.nil _)))))))))), (by (try dsimp only); repeat (first | exact HSub.nil _ | refine HSub.take (by repeat first | exact Take.head | apply Take.tail) ?_ | exact HSub.refl _ | refine HSub.drop ?_ | refine HSub.app ?_)), rfl⟩
   exact met_end hah (by omega) hpn
  rintro ⟨q1, r1⟩ hm1
  refine V_seq ?_
  refine Vs rfl ?_
  refine Lc rfl rfl rfl rfl (fun w hg => empty_c x11 _ _ 148 w (hg.own (x11, _) (by repeat first | exact mH | apply mT))) ?_
  refine Lm rfl rfl rfl ?_
  refine L_cases (d := 112) rfl ?_ ?_
  ·intro g3; have g3' := g3; try simp only [td] at g3'
   refine L_no rfl rfl rfl g3 ?_
   refine Lp rfl (p_pick_t rfl rfl g3 rfl) ?_
   refine L_then (kp [2, 3, 4, 6, 9, 10, 11, 12, 42, 114] rfl) ?_
   refine V_cond_t rfl rfl ?_
   refine Vs rfl ?_
   refine Lp rfl (p_build (r := [_, _, _, _, _, _, _, _, _, _, _, _, _]) pl28 zr28 rfl rfl rfl) ?_
   refine Ls (cs' := [_, _, _, _, _, _, _, _, _, _, _, _, _]) rfl sz28 rfl rfl rfl rfl rfl rfl rfl ?_
   refine La rfl rfl rfl ?_
   refine L_then (kp [6, 7] rfl) ?_
   refine V_ret (then_r (blk_r (then_r (then_r (blk_r (then_r ?_))))))
   refine Leave.nil (.cellA (us := [_, _, _, _, _, _, _, _, _, _, _, _, _]) rfl ag28 sz28 (by repeat first | exact mH | apply mT) rfl (.tmp rfl .nil)) ?_
   rw [aheadP_ok he, foundP_none (aheadB_1 (hm0.yes g2' c7) (hm1.no (.inl g3')))]; rfl
  intro g3; have g3' := g3; try simp only [td] at g3'
  refine L_yes rfl rfl rfl g3 (X_wr (w_callP rfl rfl rfl (fun w hg => empty_c x12 _ _ 148 w (hg.own (x12, _) (by repeat first | exact mH | apply mT)))) ?_)
  rintro _ _ ⟨rfl, rfl⟩
  refine Lp rfl (p_pick_f rfl rfl g3 rfl) ?_
  refine L_then (kp [2, 3, 4, 6, 9, 10, 11, 12, 42, 114] rfl) ?_
  refine V_cond rfl ?_ ?_
  ·intro c11; have c11r := c11; try simp only [td] at c11
   refine Vs rfl ?_
   refine Lp rfl (p_build (r := [_, _, _, _, _, _, _, _, _, _, _, _, _]) pl28 zr28 rfl rfl rfl) ?_
   refine Ls (cs' := [_, _, _, _, _, _, _, _, _, _, _, _, _]) rfl sz28 rfl rfl rfl rfl rfl rfl rfl ?_
   refine La rfl rfl rfl ?_
   refine L_then (kp [6, 7] rfl) ?_
   refine V_ret (then_r (blk_r (then_r (then_r (blk_r (then_r ?_))))))
   refine Leave.nil (.cellA (us := [_, _, _, _, _, _, _, _, _, _, _, _, _]) rfl ag28 sz28 (by repeat first | exact mH | apply mT) rfl (.tmp rfl .nil)) ?_
   rw [aheadP_ok he, foundP_none (aheadB_1 (hm0.yes g2' c7) (hm1.no (.inr c11)))]; rfl
  intro c11; have c11r := c11; try simp only [td] at c11
  refine V_skip (then_n ?_)
  refine V_draw (.rd 0 (.rd 1 (.rd 2 (.rd 3 (.rd 4 (.rd 5 (.rd 6 (.rd 7 (.rd 8 (.rd 9 (.rd 10 (.rd 11 (.wr 12 [9, 6, 5, 4, 3] (.rd 13 (.wr 14 [] .done))))))))))))))) mixed (by kernel_rfl) rfl ?_
  refine Dm rfl rfl rfl rfl ?_
  refine Dp rfl rfl (p_idxao ar93 rfl rfl rfl (by omega) (by omega)) ?_
  refine Dr rfl rfl (rl ag92 rfl rfl rfl) ?_
  refine Dm rfl rfl rfl rfl ?_
  first | refine Dp rfl rfl (p_add' rfl rfl rfl (by unfold InI; omega)) ?_ | refine Dp rfl rfl (p_add rfl rfl rfl) ?_
  refine Dp rfl rfl (p_idxao ar93 rfl rfl rfl (by omega) (by omega)) ?_
  refine Dr rfl rfl (rl ag92 rfl rfl rfl) ?_
  refine Dp rfl rfl (p_fieldo fo148_0 rfl rfl) ?_
  refine Dr rfl rfl (rlA (vs := [_, _]) ag24 sz24 rfl rfl rfl) ?_
  refine Dp rfl rfl (p_fieldo fo148_0 rfl rfl) ?_
  refine Dr rfl rfl (rlA (vs := [_, _]) ag24 sz24 rfl rfl rfl) ?_
  refine Dp rfl rfl (p_nil rfl rfl) ?_
  refine D_wr (.go (E' := [(6, _)]) rfl (.plain rfl) (ws (cs' := [_, _, _, _, _, _, _, _, _, _, _, _, _]) sz24 rfl rfl rfl rfl rfl rfl rfl) rfl ?_)
  rintro _ _ ⟨rfl, rfl⟩
  refine ⟨(.cons rfl (.plain rfl) (rl ag92 rfl rfl rfl) .nil), ?_⟩
  refine Dp rfl rfl (p_nil rfl rfl) ?_
  refine D_wr (.go (E' := []) rfl (.plain rfl) (ws (cs' := [_, _, _, _, _, _, _, _, _, _, _, _, _]) sz24 rfl rfl rfl rfl rfl rfl rfl) rfl ?_)
  rintro _ _ ⟨rfl, rfl⟩
  refine ⟨.nil, ?_⟩
  refine D_keep (kp [2, 3, 4, 6, 9, 42] rfl) (blk_n (then_n ?_))
  refine V_region rfl ?_
  first | refine Lp rfl (p_add' rfl rfl rfl (by unfold InI; omega)) ?_ | refine Lp rfl (p_add rfl rfl rfl) ?_
  refine Lm rfl rfl rfl ?_
  refine L_keep (kp [2, 3, 4, 6, 9, 42] rfl) (then_n ?_)
  refine LU_step ?_
  refine Vs rfl ?_
  refine Lp rfl (p_lss rfl rfl rfl) ?_
  refine L_then (kp [2, 3, 4, 6, 9, 42, 43] rfl) ?_
  refine V_seq ?_
  refine V_cond_t rfl rfl ?_
  refine V_skip (then_n ?_)
  refine V_seq ?_
  refine V_block ?_
  refine Vs rfl ?_
  refine Lm rfl rfl rfl ?_
  refine La rfl rfl rfl ?_
  refine L_then (kp [2, 3, 4, 6, 9, 10, 42] rfl) ?_
  refine V_mid (γ := Nat × Nat) (kp [2, 3, 4, 6, 9, 10, 42] rfl) (fun (x11, x12) => [(11, .pointer (some ⟨x11, 0, none⟩)), (12, .pointer (some ⟨x12, 0, none⟩))]) (fun (x11, x12) => (x11, .cells #[.int .i64 b.z.lo, .int .i64 b.z.hi] 148) :: (x12, .cells #[.int .i64 b.vz.lo, .int .i64 b.vz.hi] 148) :: (b5, .cells #[.pointer (some ⟨b2, 1, none⟩), .pointer (some ⟨b2, 3, none⟩), .pointer (some ⟨b2, 5, none⟩), .pointer (some ⟨b2, 7, none⟩), .pointer (some ⟨b2, 9, none⟩), .pointer (some ⟨b2, 11, none⟩)] 93) :: (b3, .cells (Box.cells boxZ).toArray 28) :: (b2, .cells (Box.cells ⟨b.at_ + n, q0, q1, b.z, r0, r1, b.vz⟩).toArray 28) :: (b1, t.obj tv pv 39) :: []) (fun (x11, x12) => True) ?_ ?_
  ·refine V_draw (.rd 0 (.rd 1 (.rd 2 (.rd 3 (.rd 4 (.rd 5 (.rd 6 (.rd 7 (.rd 8 (.rd 9 (.rd 10 (.rd 11 (.rd 12 (.wr2 13 [12, 11, 10, 9, 8, 7, 6, 5, 4, 3, 2, 1, 0] (.wr 14 [12, 11, 10, 9, 8, 7, 6, 5, 4, 3, 2, 1, 0] (.wr 15 [12, 10, 9, 8, 7, 6] (.wr 16 [] .done))) 14 [12, 11, 10, 9, 8, 7, 6, 5, 4, 3, 2, 1, 0] (.wr 13 [12, 11, 10, 9, 8, 7, 6, 5, 4, 3, 2, 1, 0] (.wr 15 [12, 10, 9, 8, 7, 6] (.wr 16 [] .done))))))))))))))))) mixed (by kernel_rfl) rfl ?_
   refine Dm rfl rfl rfl rfl ?_
   refine Dp rfl rfl (p_idxao ar93 rfl rfl rfl (by omega) (by omega)) ?_
   refine Dr rfl rfl (rl ag92 rfl rfl rfl) ?_
   refine Dp rfl rfl (p_nil rfl rfl) ?_
   refine Dr rfl rfl (rlA (vs := [_, _]) ag24 sz24 rfl rfl rfl) ?_
   refine Dp rfl rfl (p_build (r := [_, _]) pl148 zr148 rfl rfl rfl) ?_
   refine Dm rfl rfl rfl rfl ?_
   first | refine Dp rfl rfl (p_add' rfl rfl rfl (by unfold InI; omega)) ?_ | refine Dp rfl rfl (p_add rfl rfl rfl) ?_
   refine Dp rfl rfl (p_idxao ar93 rfl rfl rfl (by omega) (by omega)) ?_
   refine Dr rfl rfl (rl ag92 rfl rfl rfl) ?_
   refine Dp rfl rfl (p_nil rfl rfl) ?_
   refine Dr rfl rfl (rlA (vs := [_, _]) ag24 sz24 rfl rfl rfl) ?_
   refine Dp rfl rfl (p_build (r := [_, _]) pl148 zr148 rfl rfl rfl) ?_
   refine D_wr2 rfl ?_ ?_
   ·refine (.go (E' := [(11, _), (9, _), (4, _), (2, _)]) rfl (.plain rfl) (w_alloc zr148 rfl) rfl ?_)
    rintro _ _ ⟨b6, hb6, rfl, rfl⟩
    refine ⟨(.cons rfl (.plain rfl) (rlA (vs := [_, _]) ag24 sz24 rfl rfl rfl) (.cons rfl (.plain rfl) (rl ag92 rfl rfl rfl) (.cons rfl (.plain rfl) (rlA (vs := [_, _]) ag24 sz24 rfl rfl rfl) (.cons rfl (.plain rfl) (rl ag92 rfl rfl rfl) .nil)))), ?_⟩
    refine D_wr (.go (E' := [(11, _), (9, _), (4, _), (2, _)]) rfl (.plain rfl) (w_alloc zr148 rfl) rfl ?_)
    rintro _ _ ⟨b7, hb7, rfl, rfl⟩
    refine ⟨(.cons rfl (.plain rfl) (rlA (vs := [_, _]) ag24 sz24 rfl rfl rfl) (.cons rfl (.plain rfl) (rl ag92 rfl rfl rfl) (.cons rfl (.plain rfl) (rlA (vs := [_, _]) ag24 sz24 rfl rfl rfl) (.cons rfl (.plain rfl) (rl ag92 rfl rfl rfl) .nil)))), ?_⟩
    refine D_wr (.go (E' := [(9, _)]) rfl (.plain rfl) (ws (cs' := [_, _]) sz148 rfl rfl rfl rfl rfl rfl rfl) rfl ?_)
    rintro _ _ ⟨rfl, rfl⟩
    refine ⟨(.cons rfl (.plain rfl) (rl ag92 rfl rfl rfl) .nil), ?_⟩
    refine D_wr (.go (E' := []) rfl (.plain rfl) (ws (cs' := [_, _]) sz148 rfl rfl rfl rfl rfl rfl rfl) rfl ?_)
    rintro _ _ ⟨rfl, rfl⟩
    refine ⟨.nil, ?_⟩
    refine D_then (kp [2, 3, 4, 6, 9, 10, 11, 12, 42] rfl) ?_
    refine ⟨(b6, b7), trivial, (.cons rfl (.cons rfl (.cons rfl (.cons rfl (.cons rfl (.cons rfl (.cons rfl (.cons rfl (.cons rfl (.nil _)))))))))), (by (try dsimp only); repeat (first | exact HSub.nil _ | refine HSub.take (by repeat first | exact Take.head | apply Take.tail) ?_ | exact HSub.refl _ | refine HSub.drop ?_ | refine HSub.app ?_)), rfl⟩
   refine (.go (E' := [(11, _), (9, _), (4, _), (2, _)]) rfl (.plain rfl) (w_alloc zr148 rfl) rfl ?_)
   rintro _ _ ⟨b6, hb6, rfl, rfl⟩
   refine ⟨(.cons rfl (.plain rfl) (rlA (vs := [_, _]) ag24 sz24 rfl rfl rfl) (.cons rfl (.plain rfl) (rl ag92 rfl rfl rfl) (.cons rfl (.plain rfl) (rlA (vs := [_, _]) ag24 sz24 rfl rfl rfl) (.cons rfl (.plain rfl) (rl ag92 rfl rfl rfl) .nil)))), ?_⟩
   refine D_wr (.go (E' := [(11, _), (9, _), (4, _), (2, _)]) rfl (.plain rfl) (w_alloc zr148 rfl) rfl ?_)
   rintro _ _ ⟨b7, hb7, rfl, rfl⟩
   refine ⟨(.cons rfl (.plain rfl) (rlA (vs := [_, _]) ag24 sz24 rfl rfl rfl) (.cons rfl (.plain rfl) (rl ag92 rfl rfl rfl) (.cons rfl (.plain rfl) (rlA (vs := [_, _]) ag24 sz24 rfl rfl rfl) (.cons rfl (.plain rfl) (rl ag92 rfl rfl rfl) .nil)))), ?_⟩
   refine D_wr (.go (E' := [(9, _)]) rfl (.plain rfl) (ws (cs' := [_, _]) sz148 rfl rfl rfl rfl rfl rfl rfl) rfl ?_)
   rintro _ _ ⟨rfl, rfl⟩
   refine ⟨(.cons rfl (.plain rfl) (rl ag92 rfl rfl rfl) .nil), ?_⟩
   refine D_wr (.go (E' := []) rfl (.plain rfl) (ws (cs' := [_, _]) sz148 rfl rfl rfl rfl rfl rfl rfl) rfl ?_)
   rintro _ _ ⟨rfl, rfl⟩
   refine ⟨.nil, ?_⟩
   refine D_then (kp [2, 3, 4, 6, 9, 10, 11, 12, 42] rfl) ?_
   refine ⟨(b7, b6), trivial, (.cons rfl (.cons rfl (.cons rfl (.cons rfl (.cons rfl (.cons rfl (.cons rfl (.cons rfl (.cons rfl (.nil _)))))))))), (by (try dsimp only); repeat (first | exact HSub.nil _ | refine HSub.take (by repeat first | exact Take.head | apply Take.tail) ?_ | exact HSub.refl _ | refine HSub.drop ?_ | refine HSub.app ?_)), rfl⟩
  rintro ⟨x11, x12⟩ _
  refine Vs rfl ?_
  refine Lp rfl (p_fieldo fo39_1 rfl rfl) ?_
  refine Lr rfl (rl ag3 rfl rfl rfl) ?_
  first | refine Lp rfl (p_neg' rfl rfl (by unfold InI; omega)) ?_ | refine Lp rfl (p_neg rfl rfl) ?_
  refine Lp rfl (p_fieldo fo39_1 rfl rfl) ?_
  refine Lr rfl (rl ag3 rfl rfl rfl) ?_
  refine Lw rfl (w_callM rfl rfl rfl (fun o' => (by repeat first | exact .head | apply SetAt.tail)) (fun w hg => narrow_c x12 _ _ 148 (-t.speed) t.speed w (hg.own (x12, _) (by repeat first | exact mH | apply mT)))) ?_
  rintro _ _ ⟨_, rfl, rfl, rfl⟩
  refine L_then (kp [2, 3, 4, 6, 9, 10, 11, 12, 42] rfl) ?_
  refine V_seq ?_
  refine Vs rfl ?_
  iterate 2 refine Lm rfl rfl rfl ?_
  refine L_then (kp [2, 3, 4, 6, 9, 10, 11, 12, 42, 64, 65] rfl) ?_
  refine V_midT (γ := Span × Span) (kp [2, 3, 4, 6, 9, 10, 11, 12, 42] rfl) (fun (q2, r2) => []) (fun (q2, r2) => (x11, .cells #[.int .i64 q2.lo, .int .i64 q2.hi] 148) :: (x12, .cells #[.int .i64 r2.lo, .int .i64 r2.hi] 148) :: (b5, .cells #[.pointer (some ⟨b2, 1, none⟩), .pointer (some ⟨b2, 3, none⟩), .pointer (some ⟨b2, 5, none⟩), .pointer (some ⟨b2, 7, none⟩), .pointer (some ⟨b2, 9, none⟩), .pointer (some ⟨b2, 11, none⟩)] 93) :: (b3, .cells (Box.cells boxZ).toArray 28) :: (b2, .cells (Box.cells ⟨b.at_ + n, q0, q1, b.z, r0, r1, b.vz⟩).toArray 28) :: (b1, t.obj tv pv 39) :: []) (fun (q2, r2) => Met (aheadS t n b.z b.vz) q2 r2) ?_ ?_
  ·refine V_block ?_
   refine V_loop1 (γ := Int × Span × Span) (kp [2, 3, 4, 6, 9, 10, 11, 12, 42, 64] rfl) (fun (k, p, v) => [(65, .int .i64 k)]) (fun (k, p, v) => (x11, .cells #[.int .i64 p.lo, .int .i64 p.hi] 148) :: (x12, .cells #[.int .i64 v.lo, .int .i64 v.hi] 148) :: (b5, .cells #[.pointer (some ⟨b2, 1, none⟩), .pointer (some ⟨b2, 3, none⟩), .pointer (some ⟨b2, 5, none⟩), .pointer (some ⟨b2, 7, none⟩), .pointer (some ⟨b2, 9, none⟩), .pointer (some ⟨b2, 11, none⟩)] 93) :: (b3, .cells (Box.cells boxZ).toArray 28) :: (b2, .cells (Box.cells ⟨b.at_ + n, q0, q1, b.z, r0, r1, b.vz⟩).toArray 28) :: (b1, t.obj tv pv 39) :: []) (fun (k, p, v) => 0 ≤ k ∧ k ≤ n ∧ aheadS t n b.z b.vz = aheadN t (n - k).toNat p v ∧ okS 2000000000 p ∧ SpanB 1000000 v) (fun (k, p, v) => (n - k).toNat) ((0, b.z, common b.vz (room0 t.speed))) (.cons rfl (.nil _)) (by repeat (first | exact List.nil_sublist _ | exact List.Sublist.refl _ | apply List.Sublist.cons_cons | apply List.Sublist.cons)) (⟨by omega, by omega, by rw [Int.sub_zero]; rfl, by unfold okS; omega, by simp only [SpanB, common, room0]; omega⟩) ?_
   rintro ⟨k, p, v⟩ hi
   obtain ⟨hk0, hk1, hah, hp, hv⟩ := hi
   have hpn : p.none = false := by simp only [Span.none, decide_eq_false_iff_not]; unfold okS at hp; omega
   unfold okS at hp
   unfold SpanB at hv
   refine Vs rfl ?_
   refine Lp rfl (p_lss rfl rfl rfl) ?_
   refine L_then (kp [2, 3, 4, 6, 9, 10, 11, 12, 42, 64, 65, 66] rfl) ?_
   refine V_seq ?_
   refine V_cond rfl ?_ ?_
   ·intro c12; have c12r := c12; try simp only [td] at c12
    refine V_skip (then_n ?_)
    refine V_seq ?_
    refine V_block ?_
    refine V_seq ?_
    refine Vs rfl ?_
    refine Lc rfl rfl rfl rfl (fun w hg => empty_c x12 _ _ 148 w (hg.own (x12, _) (by repeat first | exact mH | apply mT))) ?_
    refine L_then (kp [2, 3, 4, 6, 9, 10, 11, 12, 42, 64, 65, 67] rfl) ?_
    refine V_cond rfl ?_ ?_
    ·intro c13; have c13r := c13; try simp only [td] at c13
     refine V_exit (then_e (blk_o rfl (then_e (then_e (blk_e rfl (then_n ?_))))))
     refine ⟨(p, v), ?_, (.cons rfl (.cons rfl (.cons rfl (.cons rfl (.cons rfl (.cons rfl (.cons rfl (.cons rfl (.cons rfl (.nil _)))))))))), (by (try dsimp only); repeat (first | exact HSub.nil _ | refine HSub.take (by repeat first | exact Take.head | apply Take.tail) ?_ | exact HSub.refl _ | refine HSub.drop ?_ | refine HSub.app ?_)), rfl⟩
     exact met_v hah c13
    intro c13; have c13r := c13; try simp only [td] at c13
    refine V_skip (then_n ?_)
    refine Vs rfl ?_
    refine Lp rfl (p_fieldo fo148_0 rfl rfl) ?_
    refine Lp rfl (p_fieldo fo24_0 rfl rfl) ?_
    refine Lr rfl (rl ag3 rfl rfl rfl) ?_
    refine Lp rfl (p_fieldo fo148_0 rfl rfl) ?_
    refine Lp rfl (p_fieldo fo24_0 rfl rfl) ?_
    refine Lr rfl (rl ag3 rfl rfl rfl) ?_
    first | refine Lp rfl (p_add' rfl rfl rfl (by unfold InI; omega)) ?_ | refine Lp rfl (p_add rfl rfl rfl) ?_
    refine Lp rfl (p_fieldo fo148_0 rfl rfl) ?_
    refine Lp rfl (p_fieldo fo24_1 rfl rfl) ?_
    refine Lr rfl (rl ag3 rfl rfl rfl) ?_
    refine Lp rfl (p_fieldo fo148_0 rfl rfl) ?_
    refine Lp rfl (p_fieldo fo24_1 rfl rfl) ?_
    refine Lr rfl (rl ag3 rfl rfl rfl) ?_
    first | refine Lp rfl (p_add' rfl rfl rfl (by unfold InI; omega)) ?_ | refine Lp rfl (p_add rfl rfl rfl) ?_
    refine Lp rfl (p_fieldo fo148_0 rfl rfl) ?_
    refine Lp rfl (p_fieldo fo24_0 rfl rfl) ?_
    refine Ls (cs' := [_, _]) rfl sz3 rfl rfl rfl rfl rfl rfl rfl ?_
    refine Lp rfl (p_fieldo fo148_0 rfl rfl) ?_
    refine Lp rfl (p_fieldo fo24_1 rfl rfl) ?_
    refine Ls (cs' := [_, _]) rfl sz3 rfl rfl rfl rfl rfl rfl rfl ?_
    refine L_then (kp [2, 3, 4, 6, 9, 10, 11, 12, 42, 64, 65] rfl) ?_
    refine Vs rfl ?_
    refine Lw rfl (w_callM rfl rfl rfl (fun o' => (by repeat first | exact .head | apply SetAt.tail)) (fun w hg => narrow_c x11 _ _ 148 (-2000000000) 2000000000 w (hg.own (x11, _) (by repeat first | exact mH | apply mT)))) ?_
    rintro _ _ ⟨_, rfl, rfl, rfl⟩
    refine L_then (kp [2, 3, 4, 6, 9, 10, 11, 12, 42, 64, 65] rfl) ?_
    refine V_seq ?_
    refine Vs rfl ?_
    refine Lc rfl rfl rfl rfl (fun w hg => empty_c x11 _ _ 148 w (hg.own (x11, _) (by repeat first | exact mH | apply mT))) ?_
    refine L_then (kp [2, 3, 4, 6, 9, 10, 11, 12, 42, 64, 65, 87] rfl) ?_
    refine V_cond rfl ?_ ?_
    ·intro c14; have c14r := c14; try simp only [td] at c14
     refine V_exit (then_e (blk_o rfl (then_e (then_e (blk_e rfl (then_n ?_))))))
     refine ⟨(stepP p v, v), ?_, (.cons rfl (.cons rfl (.cons rfl (.cons rfl (.cons rfl (.cons rfl (.cons rfl (.cons rfl (.cons rfl (.nil _)))))))))), (by (try dsimp only); repeat (first | exact HSub.nil _ | refine HSub.take (by repeat first | exact Take.head | apply Take.tail) ?_ | exact HSub.refl _ | refine HSub.drop ?_ | refine HSub.app ?_)), rfl⟩
     exact met_p (hah.trans (aheadN_go ⟨hk0, by omega⟩ hpn c13)) c14
    intro c14; have c14r := c14; try simp only [td] at c14
    refine V_skip (then_n ?_)
    refine V_seq (V_draw (.rd 0 (.rd 1 (.rd 2 (.rd 3 (.rd 4 (.rd 5 (.rd 6 (.rd 7 (.rd 8 (.rd 9 (.rd 10 (.rd 11 (.rd 12 (.rd 13 (.wr 14 [12, 11, 10, 9, 7, 6] (.rd 15 (.rd 16 (.wr 17 [15] .done)))))))))))))))))) mixed (by kernel_rfl) rfl ?_)
    refine Dp rfl rfl (p_fieldo fo148_0 rfl rfl) ?_
    refine Dp rfl rfl (p_fieldo fo24_0 rfl rfl) ?_
    refine Dr rfl rfl (rl ag3 rfl rfl rfl) ?_
    refine Dp rfl rfl (p_fieldo fo39_2 rfl rfl) ?_
    refine Dr rfl rfl (rl ag3 rfl rfl rfl) ?_
    first | refine Dp rfl rfl (p_sub' rfl rfl rfl (by unfold InI; omega)) ?_ | refine Dp rfl rfl (p_sub rfl rfl rfl) ?_
    refine Dp rfl rfl (p_fieldo fo148_0 rfl rfl) ?_
    refine Dp rfl rfl (p_fieldo fo24_1 rfl rfl) ?_
    refine Dr rfl rfl (rl ag3 rfl rfl rfl) ?_
    refine Dp rfl rfl (p_fieldo fo39_2 rfl rfl) ?_
    refine Dr rfl rfl (rl ag3 rfl rfl rfl) ?_
    first | refine Dp rfl rfl (p_add' rfl rfl rfl (by unfold InI; omega)) ?_ | refine Dp rfl rfl (p_add rfl rfl rfl) ?_
    refine Dp rfl rfl (p_fieldo fo148_0 rfl rfl) ?_
    refine Dp rfl rfl (p_fieldo fo24_0 rfl rfl) ?_
    refine D_wr (.go (E' := [(10, _)]) rfl (.plain rfl) (ws (cs' := [_, _]) sz3 rfl rfl rfl rfl rfl rfl rfl) rfl ?_)
    rintro _ _ ⟨rfl, rfl⟩
    refine ⟨(.cons rfl (.plain rfl) (rl ag3 rfl rfl rfl) .nil), ?_⟩
    refine Dp rfl rfl (p_fieldo fo148_0 rfl rfl) ?_
    refine Dp rfl rfl (p_fieldo fo24_1 rfl rfl) ?_
    refine D_wr (.go (E' := []) rfl (.plain rfl) (ws (cs' := [_, _]) sz3 rfl rfl rfl rfl rfl rfl rfl) rfl ?_)
    rintro _ _ ⟨rfl, rfl⟩
    refine ⟨.nil, ?_⟩
    refine D_then (kp [2, 3, 4, 6, 9, 10, 11, 12, 42, 64, 65] rfl) ?_
    refine V_region rfl ?_
    refine Lp rfl (p_fieldo fo39_1 rfl rfl) ?_
    refine Lr rfl (rl ag3 rfl rfl rfl) ?_
    first | refine Lp rfl (p_neg' rfl rfl (by unfold InI; omega)) ?_ | refine Lp rfl (p_neg rfl rfl) ?_
    refine Lp rfl (p_fieldo fo39_1 rfl rfl) ?_
    refine Lr rfl (rl ag3 rfl rfl rfl) ?_
    refine Lw rfl (w_callM rfl rfl rfl (fun o' => (by repeat first | exact .head | apply SetAt.tail)) (fun w hg => narrow_c x12 _ _ 148 (-t.speed) t.speed w (hg.own (x12, _) (by repeat first | exact mH | apply mT)))) ?_
    rintro _ _ ⟨_, rfl, rfl, rfl⟩
    refine L_keep (kp [2, 3, 4, 6, 9, 10, 11, 12, 42, 64, 65] rfl) (blk_n (then_n ?_))
    refine V_region rfl ?_
    first | refine Lp rfl (p_add' rfl rfl rfl (by unfold InI; omega)) ?_ | refine Lp rfl (p_add rfl rfl rfl) ?_
    refine Lm rfl rfl rfl ?_
    refine L_keep (kp [2, 3, 4, 6, 9, 10, 11, 12, 42, 64, 65] rfl) (then_n ?_)
    refine ⟨(k + 1, stepP p v, stepV t v), ?_, ?_, (.cons rfl (.cons rfl (.cons rfl (.cons rfl (.cons rfl (.cons rfl (.cons rfl (.cons rfl (.cons rfl (.cons rfl (.cons rfl (.nil _)))))))))))), (by repeat (first | exact List.nil_sublist _ | exact List.Sublist.refl _ | apply List.Sublist.cons_cons | apply List.Sublist.cons | apply List.sublist_append_of_sublist_right)), rfl⟩
    ·refine ⟨by omega, by omega, hah.trans (aheadN_go ⟨hk0, by omega⟩ hpn c13), ?_, ?_⟩
     ·have h5 := none_false c14
      simp only [stepP, common, room0] at h5
      simp only [okS, stepP, common, room0]; omega
     simp only [SpanB, stepV, common, room0]; omega
    dsimp only; omega
   intro c12; have c12r := c12; try simp only [td] at c12
   refine V_exit (then_e (then_e (blk_e rfl (then_n ?_))))
   refine ⟨(p, v), ?_, (.cons rfl (.cons rfl (.cons rfl (.cons rfl (.cons rfl (.cons rfl (.cons rfl (.cons rfl (.cons rfl (.nil _)))))))))), (by (try dsimp only); repeat (first | exact HSub.nil _ | refine HSub.take (by repeat first | exact Take.head | apply Take.tail) ?_ | exact HSub.refl _ | refine HSub.drop ?_ | refine HSub.app ?_)), rfl⟩
   exact met_end hah (by omega) hpn
  rintro ⟨q2, r2⟩ hm2
  refine V_seq ?_
  refine Vs rfl ?_
  refine Lc rfl rfl rfl rfl (fun w hg => empty_c x11 _ _ 148 w (hg.own (x11, _) (by repeat first | exact mH | apply mT))) ?_
  refine Lm rfl rfl rfl ?_
  refine L_cases (d := 112) rfl ?_ ?_
  ·intro g4; have g4' := g4; try simp only [td] at g4'
   refine L_no rfl rfl rfl g4 ?_
   refine Lp rfl (p_pick_t rfl rfl g4 rfl) ?_
   refine L_then (kp [2, 3, 4, 6, 9, 10, 11, 12, 42, 114] rfl) ?_
   refine V_cond_t rfl rfl ?_
   refine Vs rfl ?_
   refine Lp rfl (p_build (r := [_, _, _, _, _, _, _, _, _, _, _, _, _]) pl28 zr28 rfl rfl rfl) ?_
   refine Ls (cs' := [_, _, _, _, _, _, _, _, _, _, _, _, _]) rfl sz28 rfl rfl rfl rfl rfl rfl rfl ?_
   refine La rfl rfl rfl ?_
   refine L_then (kp [6, 7] rfl) ?_
   refine V_ret (then_r (blk_r (then_r (then_r (blk_r (then_r ?_))))))
   refine Leave.nil (.cellA (us := [_, _, _, _, _, _, _, _, _, _, _, _, _]) rfl ag28 sz28 (by repeat first | exact mH | apply mT) rfl (.tmp rfl .nil)) ?_
   rw [aheadP_ok he, foundP_none (aheadB_2 (hm0.yes g2' c7) (hm1.yes g3' c11) (hm2.no (.inl g4')))]; rfl
  intro g4; have g4' := g4; try simp only [td] at g4'
  refine L_yes rfl rfl rfl g4 (X_wr (w_callP rfl rfl rfl (fun w hg => empty_c x12 _ _ 148 w (hg.own (x12, _) (by repeat first | exact mH | apply mT)))) ?_)
  rintro _ _ ⟨rfl, rfl⟩
  refine Lp rfl (p_pick_f rfl rfl g4 rfl) ?_
  refine L_then (kp [2, 3, 4, 6, 9, 10, 11, 12, 42, 114] rfl) ?_
  refine V_cond rfl ?_ ?_
  ·intro c15; have c15r := c15; try simp only [td] at c15
   refine Vs rfl ?_
   refine Lp rfl (p_build (r := [_, _, _, _, _, _, _, _, _, _, _, _, _]) pl28 zr28 rfl rfl rfl) ?_
   refine Ls (cs' := [_, _, _, _, _, _, _, _, _, _, _, _, _]) rfl sz28 rfl rfl rfl rfl rfl rfl rfl ?_
   refine La rfl rfl rfl ?_
   refine L_then (kp [6, 7] rfl) ?_
   refine V_ret (then_r (blk_r (then_r (then_r (blk_r (then_r ?_))))))
   refine Leave.nil (.cellA (us := [_, _, _, _, _, _, _, _, _, _, _, _, _]) rfl ag28 sz28 (by repeat first | exact mH | apply mT) rfl (.tmp rfl .nil)) ?_
   rw [aheadP_ok he, foundP_none (aheadB_2 (hm0.yes g2' c7) (hm1.yes g3' c11) (hm2.no (.inr c15)))]; rfl
  intro c15; have c15r := c15; try simp only [td] at c15
  refine V_skip (then_n ?_)
  refine V_draw (.rd 0 (.rd 1 (.rd 2 (.rd 3 (.rd 4 (.rd 5 (.rd 6 (.rd 7 (.rd 8 (.rd 9 (.rd 10 (.rd 11 (.wr 12 [9, 6, 5, 4, 3] (.rd 13 (.wr 14 [] .done))))))))))))))) mixed (by kernel_rfl) rfl ?_
  refine Dm rfl rfl rfl rfl ?_
  refine Dp rfl rfl (p_idxao ar93 rfl rfl rfl (by omega) (by omega)) ?_
  refine Dr rfl rfl (rl ag92 rfl rfl rfl) ?_
  refine Dm rfl rfl rfl rfl ?_
  first | refine Dp rfl rfl (p_add' rfl rfl rfl (by unfold InI; omega)) ?_ | refine Dp rfl rfl (p_add rfl rfl rfl) ?_
  refine Dp rfl rfl (p_idxao ar93 rfl rfl rfl (by omega) (by omega)) ?_
  refine Dr rfl rfl (rl ag92 rfl rfl rfl) ?_
  refine Dp rfl rfl (p_fieldo fo148_0 rfl rfl) ?_
  refine Dr rfl rfl (rlA (vs := [_, _]) ag24 sz24 rfl rfl rfl) ?_
  refine Dp rfl rfl (p_fieldo fo148_0 rfl rfl) ?_
  refine Dr rfl rfl (rlA (vs := [_, _]) ag24 sz24 rfl rfl rfl) ?_
  refine Dp rfl rfl (p_nil rfl rfl) ?_
  refine D_wr (.go (E' := [(6, _)]) rfl (.plain rfl) (ws (cs' := [_, _, _, _, _, _, _, _, _, _, _, _, _]) sz24 rfl rfl rfl rfl rfl rfl rfl) rfl ?_)
  rintro _ _ ⟨rfl, rfl⟩
  refine ⟨(.cons rfl (.plain rfl) (rl ag92 rfl rfl rfl) .nil), ?_⟩
  refine Dp rfl rfl (p_nil rfl rfl) ?_
  refine D_wr (.go (E' := []) rfl (.plain rfl) (ws (cs' := [_, _, _, _, _, _, _, _, _, _, _, _, _]) sz24 rfl rfl rfl rfl rfl rfl rfl) rfl ?_)
  rintro _ _ ⟨rfl, rfl⟩
  refine ⟨.nil, ?_⟩
  refine D_keep (kp [2, 3, 4, 6, 9, 42] rfl) (blk_n (then_n ?_))
  refine V_region rfl ?_
  first | refine Lp rfl (p_add' rfl rfl rfl (by unfold InI; omega)) ?_ | refine Lp rfl (p_add rfl rfl rfl) ?_
  refine Lm rfl rfl rfl ?_
  refine L_keep (kp [2, 3, 4, 6, 9, 42] rfl) (then_n ?_)
  refine LU_step ?_
  refine Vs rfl ?_
  refine Lp rfl (p_lss rfl rfl rfl) ?_
  refine L_then (kp [2, 3, 4, 6, 9, 42, 43] rfl) ?_
  refine V_seq ?_
  refine V_cond_f rfl rfl ?_
  refine V_exit (then_e (then_e (blk_e rfl (then_n ?_))))
  refine Vs rfl ?_
  refine Lr rfl (rlA (vs := [_, _, _, _, _, _, _, _, _, _, _, _, _]) ag28 sz28 rfl rfl rfl) ?_
  refine Ls (cs' := [_, _, _, _, _, _, _, _, _, _, _, _, _]) rfl sz28 rfl rfl rfl rfl rfl rfl rfl ?_
  refine La rfl rfl rfl ?_
  refine L_then (kp [6, 7] rfl) ?_
  refine V_ret ?_
  refine Leave.nil (.cellA (us := [_, _, _, _, _, _, _, _, _, _, _, _, _]) rfl ag28 sz28 (by repeat first | exact mH | apply mT) rfl (.tmp rfl .nil)) ?_
  rw [aheadP_ok he, foundP_some (aheadB_3 (hm0.yes g2' c7) (hm1.yes g3' c11) (hm2.yes g4' c15))]; rfl
 intro c1; have c1r := c1; try simp only [td] at c1
 refine V_skip (then_n ?_)
 refine V_seq ?_
 refine V_block ?_
 refine Vs rfl ?_
 refine Lm rfl rfl rfl ?_
 refine Lp rfl (p_neq rfl rfl rfl) ?_
 refine La rfl rfl rfl ?_
 refine L_then (kp [2, 3, 4, 6, 8, 19] rfl) ?_
 refine V_cond_t rfl (by simp [c1]) ?_
 refine Vs rfl ?_
 refine Lp rfl (p_build (r := [_, _, _, _, _, _, _, _, _, _, _, _, _]) pl28 zr28 rfl rfl rfl) ?_
 refine Lm rfl rfl rfl ?_
 refine Ls (cs' := [_, _, _, _, _, _, _, _, _, _, _, _, _]) rfl sz28 rfl rfl rfl rfl rfl rfl rfl ?_
 refine La rfl rfl rfl ?_
 refine L_then (kp [6, 7] rfl) ?_
 refine V_ret (blk_r (then_r ?_))
 refine Leave.nil (.cellA (us := [_, _, _, _, _, _, _, _, _, _, _, _, _]) rfl ag28 sz28 (by repeat first | exact mH | apply mT) rfl (.tmp rfl .nil)) ?_
 rw [aheadP_bad (aheadE_1 c1) c1]; rfl

end Go.Proofs.YtlcccpeelombbaaGreatDoor

/- YtlcccpeelombbaaGreatDoor: the reference's CheckBox and Ahead. -/
set_option linter.all false
namespace Go.Proofs.YtlcccpeelombbaaGreatDoor
open Go.Vc Go.Tk
set_option maxRecDepth 100000
theorem rsizeW_c (n : Int) (w : World) : FnP Tryz.prog 65 [.int .i64 n] w (.int .i64 (sizeW n)) := by
 refine fn_pure Tryz.func65 rfl (by kernel_rfl) Tryz.ntmps65 Tryz.results65 rfl ?_
 refine Vs rfl ?_
 refine La rfl rfl rfl ?_
 refine L_then (kp [0] rfl) ?_
 refine Vs rfl ?_
 iterate 2 refine Lm rfl rfl rfl ?_
 first | refine Lp rfl (p_neg' rfl rfl (by unfold InI; omega)) ?_ | refine Lp rfl (p_neg rfl rfl) ?_
 refine Lp rfl (p_max rfl rfl rfl) ?_
 refine La rfl rfl rfl ?_
 refine L_then (kp [2] rfl) ?_
 refine V_ret ?_
 refine Leave.nil (.tmp rfl .nil) ?_
 rfl
set_option maxHeartbeats 8000000 in
theorem rcheckbox_c (b : Box) (hI : BoxI b) (w : World) : FnP Tryz.prog 34 [.agg (Box.cells b).toArray] w (.int .i64 (boxE b)) := by
 obtain ⟨i0, i1, i2, i3, i4, i5, i6⟩ := hI
 have s4a := sizeW_fact i4.1
 have s4b := sizeW_fact i4.2
 have s5a := sizeW_fact i5.1
 have s5b := sizeW_fact i5.2
 have s6a := sizeW_fact i6.1
 have s6b := sizeW_fact i6.2
 refine fn_pure Tryz.func34 rfl (by kernel_rfl) Tryz.ntmps34 Tryz.results34 rfl ?_
 refine Vs rfl ?_
 refine Lw rfl (w_box rfl rfl) ?_
 rintro _ _ ⟨b1, hb1, rfl, rfl⟩
 refine La rfl rfl rfl ?_
 refine L_then (kp [1] rfl) ?_
 refine V_mid (γ := Nat × Nat) (kp [1] rfl) (fun (x3, x4) => [(3, .pointer (some ⟨x3, 0, none⟩)), (4, .pointer (some ⟨x4, 0, none⟩))]) (fun (x3, x4) => [(x3, .cells #[.int .i64 b.x.lo, .int .i64 b.x.hi, .int .i64 b.y.lo, .int .i64 b.y.hi, .int .i64 b.z.lo, .int .i64 b.z.hi] 108), (x4, .cells #[.int .i64 b.vx.lo, .int .i64 b.vx.hi, .int .i64 b.vy.lo, .int .i64 b.vy.hi, .int .i64 b.vz.lo, .int .i64 b.vz.hi] 108), (b1, .cells (Box.cells b).toArray 28)]) (fun (x3, x4) => True) ?_ ?_
 ·refine V_draw (.rd 0 (.rd 1 (.rd 2 (.rd 3 (.rd 4 (.rd 5 (.rd 6 (.rd 7 (.rd 8 (.rd 9 (.rd 10 (.rd 11 (.rd 12 (.rd 13 (.wr2 14 [13, 12, 11, 10, 9, 8, 7, 6, 5, 4, 3, 2, 1, 0] (.wr 15 [13, 12, 11, 10, 9, 8, 7, 6, 5, 4, 3, 2, 1, 0] (.wr 16 [13, 12, 11, 10, 9, 8, 7] (.wr 17 [] .done))) 15 [13, 12, 11, 10, 9, 8, 7, 6, 5, 4, 3, 2, 1, 0] (.wr 14 [13, 12, 11, 10, 9, 8, 7, 6, 5, 4, 3, 2, 1, 0] (.wr 16 [13, 12, 11, 10, 9, 8, 7] (.wr 17 [] .done)))))))))))))))))) mixed (by kernel_rfl) rfl ?_
  refine Dp rfl rfl (p_fieldo fo28_1 rfl rfl) ?_
  refine Dr rfl rfl (rlA (vs := [_, _]) ag24 sz24 rfl rfl rfl) ?_
  refine Dp rfl rfl (p_fieldo fo28_2 rfl rfl) ?_
  refine Dr rfl rfl (rlA (vs := [_, _]) ag24 sz24 rfl rfl rfl) ?_
  refine Dp rfl rfl (p_fieldo fo28_3 rfl rfl) ?_
  refine Dr rfl rfl (rlA (vs := [_, _]) ag24 sz24 rfl rfl rfl) ?_
  refine Dp rfl rfl (p_buildA (r := [_, _, _, _, _, _]) ar108 zr108 rfl rfl rfl) ?_
  refine Dp rfl rfl (p_fieldo fo28_4 rfl rfl) ?_
  refine Dr rfl rfl (rlA (vs := [_, _]) ag24 sz24 rfl rfl rfl) ?_
  refine Dp rfl rfl (p_fieldo fo28_5 rfl rfl) ?_
  refine Dr rfl rfl (rlA (vs := [_, _]) ag24 sz24 rfl rfl rfl) ?_
  refine Dp rfl rfl (p_fieldo fo28_6 rfl rfl) ?_
  refine Dr rfl rfl (rlA (vs := [_, _]) ag24 sz24 rfl rfl rfl) ?_
  refine Dp rfl rfl (p_buildA (r := [_, _, _, _, _, _]) ar108 zr108 rfl rfl rfl) ?_
  refine D_wr2 rfl ?_ ?_
  ·refine (.go (E' := [(12, _), (10, _), (8, _), (5, _), (3, _), (1, _)]) rfl (.plain rfl) (w_alloc zr108 rfl) rfl ?_)
   rintro _ _ ⟨b2, hb2, rfl, rfl⟩
   refine ⟨(.cons rfl (.plain rfl) (rlA (vs := [_, _]) ag24 sz24 rfl rfl rfl) (.cons rfl (.plain rfl) (rlA (vs := [_, _]) ag24 sz24 rfl rfl rfl) (.cons rfl (.plain rfl) (rlA (vs := [_, _]) ag24 sz24 rfl rfl rfl) (.cons rfl (.plain rfl) (rlA (vs := [_, _]) ag24 sz24 rfl rfl rfl) (.cons rfl (.plain rfl) (rlA (vs := [_, _]) ag24 sz24 rfl rfl rfl) (.cons rfl (.plain rfl) (rlA (vs := [_, _]) ag24 sz24 rfl rfl rfl) .nil)))))), ?_⟩
   refine D_wr (.go (E' := [(12, _), (10, _), (8, _), (5, _), (3, _), (1, _)]) rfl (.plain rfl) (w_alloc zr108 rfl) rfl ?_)
   rintro _ _ ⟨b3, hb3, rfl, rfl⟩
   refine ⟨(.cons rfl (.plain rfl) (rlA (vs := [_, _]) ag24 sz24 rfl rfl rfl) (.cons rfl (.plain rfl) (rlA (vs := [_, _]) ag24 sz24 rfl rfl rfl) (.cons rfl (.plain rfl) (rlA (vs := [_, _]) ag24 sz24 rfl rfl rfl) (.cons rfl (.plain rfl) (rlA (vs := [_, _]) ag24 sz24 rfl rfl rfl) (.cons rfl (.plain rfl) (rlA (vs := [_, _]) ag24 sz24 rfl rfl rfl) (.cons rfl (.plain rfl) (rlA (vs := [_, _]) ag24 sz24 rfl rfl rfl) .nil)))))), ?_⟩
   refine D_wr (.go (E' := [(12, _), (10, _), (8, _)]) rfl (.plain rfl) (ws (cs' := [_, _, _, _, _, _]) sz108 rfl rfl rfl rfl rfl rfl rfl) rfl ?_)
   rintro _ _ ⟨rfl, rfl⟩
   refine ⟨(.cons rfl (.plain rfl) (rlA (vs := [_, _]) ag24 sz24 rfl rfl rfl) (.cons rfl (.plain rfl) (rlA (vs := [_, _]) ag24 sz24 rfl rfl rfl) (.cons rfl (.plain rfl) (rlA (vs := [_, _]) ag24 sz24 rfl rfl rfl) .nil))), ?_⟩
   refine D_wr (.go (E' := []) rfl (.plain rfl) (ws (cs' := [_, _, _, _, _, _]) sz108 rfl rfl rfl rfl rfl rfl rfl) rfl ?_)
   rintro _ _ ⟨rfl, rfl⟩
   refine ⟨.nil, ?_⟩
   refine D_then (kp [1, 3, 4] rfl) ?_
   refine ⟨(b2, b3), trivial, (.cons rfl (.cons rfl (.cons rfl (.nil _)))), (by (try dsimp only); repeat (first | exact HSub.nil _ | refine HSub.take (by repeat first | exact Take.head | apply Take.tail) ?_ | exact HSub.refl _ | refine HSub.drop ?_ | refine HSub.app ?_)), rfl⟩
  refine (.go (E' := [(12, _), (10, _), (8, _), (5, _), (3, _), (1, _)]) rfl (.plain rfl) (w_alloc zr108 rfl) rfl ?_)
  rintro _ _ ⟨b2, hb2, rfl, rfl⟩
  refine ⟨(.cons rfl (.plain rfl) (rlA (vs := [_, _]) ag24 sz24 rfl rfl rfl) (.cons rfl (.plain rfl) (rlA (vs := [_, _]) ag24 sz24 rfl rfl rfl) (.cons rfl (.plain rfl) (rlA (vs := [_, _]) ag24 sz24 rfl rfl rfl) (.cons rfl (.plain rfl) (rlA (vs := [_, _]) ag24 sz24 rfl rfl rfl) (.cons rfl (.plain rfl) (rlA (vs := [_, _]) ag24 sz24 rfl rfl rfl) (.cons rfl (.plain rfl) (rlA (vs := [_, _]) ag24 sz24 rfl rfl rfl) .nil)))))), ?_⟩
  refine D_wr (.go (E' := [(12, _), (10, _), (8, _), (5, _), (3, _), (1, _)]) rfl (.plain rfl) (w_alloc zr108 rfl) rfl ?_)
  rintro _ _ ⟨b3, hb3, rfl, rfl⟩
  refine ⟨(.cons rfl (.plain rfl) (rlA (vs := [_, _]) ag24 sz24 rfl rfl rfl) (.cons rfl (.plain rfl) (rlA (vs := [_, _]) ag24 sz24 rfl rfl rfl) (.cons rfl (.plain rfl) (rlA (vs := [_, _]) ag24 sz24 rfl rfl rfl) (.cons rfl (.plain rfl) (rlA (vs := [_, _]) ag24 sz24 rfl rfl rfl) (.cons rfl (.plain rfl) (rlA (vs := [_, _]) ag24 sz24 rfl rfl rfl) (.cons rfl (.plain rfl) (rlA (vs := [_, _]) ag24 sz24 rfl rfl rfl) .nil)))))), ?_⟩
  refine D_wr (.go (E' := [(12, _), (10, _), (8, _)]) rfl (.plain rfl) (ws (cs' := [_, _, _, _, _, _]) sz108 rfl rfl rfl rfl rfl rfl rfl) rfl ?_)
  rintro _ _ ⟨rfl, rfl⟩
  refine ⟨(.cons rfl (.plain rfl) (rlA (vs := [_, _]) ag24 sz24 rfl rfl rfl) (.cons rfl (.plain rfl) (rlA (vs := [_, _]) ag24 sz24 rfl rfl rfl) (.cons rfl (.plain rfl) (rlA (vs := [_, _]) ag24 sz24 rfl rfl rfl) .nil))), ?_⟩
  refine D_wr (.go (E' := []) rfl (.plain rfl) (ws (cs' := [_, _, _, _, _, _]) sz108 rfl rfl rfl rfl rfl rfl rfl) rfl ?_)
  rintro _ _ ⟨rfl, rfl⟩
  refine ⟨.nil, ?_⟩
  refine D_then (kp [1, 3, 4] rfl) ?_
  refine ⟨(b3, b2), trivial, (.cons rfl (.cons rfl (.cons rfl (.nil _)))), (by (try dsimp only); repeat (first | exact HSub.nil _ | refine HSub.take (by repeat first | exact Take.head | apply Take.tail) ?_ | exact HSub.refl _ | refine HSub.drop ?_ | refine HSub.app ?_)), rfl⟩
 rintro ⟨x3, x4⟩ _
 refine Vs rfl ?_
 refine Lp rfl (p_fieldo fo28_0 rfl rfl) ?_
 refine Lr rfl (rl ag3 rfl rfl rfl) ?_
 refine Lc rfl rfl rfl rfl (fun w hg => rtick_c _ w) ?_
 refine La rfl rfl rfl ?_
 refine L_then (kp [3, 4, 5] rfl) ?_
 refine V_seq ?_
 refine Vs rfl ?_
 refine La rfl rfl rfl ?_
 refine L_then (kp [3, 4, 5, 6] rfl) ?_
 refine V_block ?_
 refine V_loopU ?_
 refine LU_step ?_
 refine V_seq ?_
 refine Vs rfl ?_
 refine Lm rfl rfl rfl ?_
 refine Lp rfl (p_lss rfl rfl rfl) ?_
 refine L_then (kp [3, 4, 5, 6, 25] rfl) ?_
 refine V_cond_t rfl rfl ?_
 refine V_skip (then_n ?_)
 refine V_mid (γ := Bool) (kp [3, 4, 6] rfl) (fun gg => [(5, .bool gg)]) (fun gg => [(x3, .cells #[.int .i64 b.x.lo, .int .i64 b.x.hi, .int .i64 b.y.lo, .int .i64 b.y.hi, .int .i64 b.z.lo, .int .i64 b.z.hi] 108), (x4, .cells #[.int .i64 b.vx.lo, .int .i64 b.vx.hi, .int .i64 b.vy.lo, .int .i64 b.vy.hi, .int .i64 b.vz.lo, .int .i64 b.vz.hi] 108), (b1, .cells (Box.cells b).toArray 28)]) (fun gg => (gg = true ↔ (0 ≤ b.at_ ∧ b.at_ ≤ 100000) ∧ (-2000000000 ≤ b.x.lo ∧ b.x.lo ≤ b.x.hi ∧ b.x.hi ≤ 2000000000) ∧ (-1000000 ≤ b.vx.lo ∧ b.vx.lo ≤ b.vx.hi ∧ b.vx.hi ≤ 1000000))) ?_ ?_
 ·refine V_block ?_
  refine V_mid (γ := Bool) (kp [3, 4, 6] rfl) (fun gg => [(5, .bool gg)]) (fun gg => [(x3, .cells #[.int .i64 b.x.lo, .int .i64 b.x.hi, .int .i64 b.y.lo, .int .i64 b.y.hi, .int .i64 b.z.lo, .int .i64 b.z.hi] 108), (x4, .cells #[.int .i64 b.vx.lo, .int .i64 b.vx.hi, .int .i64 b.vy.lo, .int .i64 b.vy.hi, .int .i64 b.vz.lo, .int .i64 b.vz.hi] 108), (b1, .cells (Box.cells b).toArray 28)]) (fun gg => (gg = true ↔ (0 ≤ b.at_ ∧ b.at_ ≤ 100000) ∧ (-2000000000 ≤ b.x.lo ∧ b.x.lo ≤ b.x.hi ∧ b.x.hi ≤ 2000000000))) ?_ ?_
  ·refine V_region rfl ?_
   iterate 2 refine Lm rfl rfl rfl ?_
   refine L_cases (d := 29) rfl ?_ ?_
   ·intro g1; have g1' := g1; try simp only [td] at g1'
    try simp only [oP_true, oP_false, Span.none, decide_eq_true_eq, decide_eq_false_iff_not] at g1'
    refine L_yes rfl rfl rfl g1 (X_p (p_move rfl rfl) ?_)
    refine L_yes rfl rfl rfl g1 (X_p (p_idxao ar108 rfl rfl rfl (by omega) (by omega)) ?_)
    refine L_yes rfl rfl rfl g1 (X_rd (rlA (vs := [_, _]) ag24 sz24 rfl rfl rfl) ?_)
    refine L_yes rfl rfl rfl g1 (X_wr (w_callP rfl rfl rfl (fun w hg => rnone_c _ _ w)) ?_)
    rintro _ _ ⟨rfl, rfl⟩
    refine L_yes rfl rfl rfl g1 (X_p (p_not rfl rfl) ?_)
    refine Lp rfl (p_pick_t rfl rfl g1 rfl) ?_
    refine Lm rfl rfl rfl ?_
    refine L_cases (d := 36) rfl ?_ ?_
    ·intro g2; have g2' := g2; try simp only [td] at g2'
     try simp only [oP_true, oP_false, Span.none, decide_eq_true_eq, decide_eq_false_iff_not] at g2'
     refine L_yes rfl rfl rfl g2 (X_p (p_move rfl rfl) ?_)
     refine L_yes rfl rfl rfl g2 (X_p (p_idxao ar108 rfl rfl rfl (by omega) (by omega)) ?_)
     refine L_yes rfl rfl rfl g2 (X_p (p_fieldo fo24_0 rfl rfl) ?_)
     refine L_yes rfl rfl rfl g2 (X_rd (rl ag3 rfl rfl rfl) ?_)
     refine L_yes rfl rfl rfl g2 (X_wr (w_callP rfl rfl rfl (fun w hg => rplace_c _ w)) ?_)
     rintro _ _ ⟨rfl, rfl⟩
     refine Lp rfl (p_pick_t rfl rfl g2 rfl) ?_
     refine Lm rfl rfl rfl ?_
     refine L_cases (d := 43) rfl ?_ ?_
     ·intro g3; have g3' := g3; try simp only [td] at g3'
      try simp only [oP_true, oP_false, Span.none, decide_eq_true_eq, decide_eq_false_iff_not] at g3'
      refine L_yes rfl rfl rfl g3 (X_p (p_move rfl rfl) ?_)
      refine L_yes rfl rfl rfl g3 (X_p (p_idxao ar108 rfl rfl rfl (by omega) (by omega)) ?_)
      refine L_yes rfl rfl rfl g3 (X_p (p_fieldo fo24_1 rfl rfl) ?_)
      refine L_yes rfl rfl rfl g3 (X_rd (rl ag3 rfl rfl rfl) ?_)
      refine L_yes rfl rfl rfl g3 (X_wr (w_callP rfl rfl rfl (fun w hg => rplace_c _ w)) ?_)
      rintro _ _ ⟨rfl, rfl⟩
      refine Lp rfl (p_pick_t rfl rfl g3 rfl) ?_
      refine La rfl rfl rfl ?_
      refine L_then (kp [3, 4, 5, 6] rfl) ?_
      refine ⟨_, (by simp only [Bool.not_eq_true', oP_false, Bool.false_eq_true, false_iff, decide_eq_true_eq]; omega), (.cons rfl (.cons rfl (.cons rfl (.cons rfl (.nil _))))), (by (try dsimp only); repeat (first | exact HSub.nil _ | refine HSub.take (by repeat first | exact Take.head | apply Take.tail) ?_ | exact HSub.refl _ | refine HSub.drop ?_ | refine HSub.app ?_)), rfl⟩
     intro g3; have g3' := g3; try simp only [td] at g3'
     try simp only [oP_true, oP_false, Span.none, decide_eq_true_eq, decide_eq_false_iff_not] at g3'
     iterate 5 refine L_no rfl rfl rfl g3 ?_
     refine Lp rfl (p_pick_f rfl rfl g3 rfl) ?_
     refine La rfl rfl rfl ?_
     refine L_then (kp [3, 4, 5, 6] rfl) ?_
     refine ⟨_, (by simp only [Bool.not_eq_true', oP_false, Bool.false_eq_true, false_iff, decide_eq_true_eq]; omega), (.cons rfl (.cons rfl (.cons rfl (.cons rfl (.nil _))))), (by (try dsimp only); repeat (first | exact HSub.nil _ | refine HSub.take (by repeat first | exact Take.head | apply Take.tail) ?_ | exact HSub.refl _ | refine HSub.drop ?_ | refine HSub.app ?_)), rfl⟩
    intro g2; have g2' := g2; try simp only [td] at g2'
    try simp only [oP_true, oP_false, Span.none, decide_eq_true_eq, decide_eq_false_iff_not] at g2'
    iterate 5 refine L_no rfl rfl rfl g2 ?_
    refine Lp rfl (p_pick_f rfl rfl g2 rfl) ?_
    refine Lm rfl rfl rfl ?_
    iterate 5 refine L_no rfl rfl rfl rfl ?_
    refine Lp rfl (p_pick_f rfl rfl rfl rfl) ?_
    refine La rfl rfl rfl ?_
    refine L_then (kp [3, 4, 5, 6] rfl) ?_
    refine ⟨_, (by simp only [Bool.not_eq_true', oP_false, Bool.false_eq_true, false_iff, decide_eq_true_eq]; omega), (.cons rfl (.cons rfl (.cons rfl (.cons rfl (.nil _))))), (by (try dsimp only); repeat (first | exact HSub.nil _ | refine HSub.take (by repeat first | exact Take.head | apply Take.tail) ?_ | exact HSub.refl _ | refine HSub.drop ?_ | refine HSub.app ?_)), rfl⟩
   intro g1; have g1' := g1; try simp only [td] at g1'
   try simp only [oP_true, oP_false, Span.none, decide_eq_true_eq, decide_eq_false_iff_not] at g1'
   iterate 5 refine L_no rfl rfl rfl g1 ?_
   refine Lp rfl (p_pick_f rfl rfl g1 rfl) ?_
   refine Lm rfl rfl rfl ?_
   iterate 5 refine L_no rfl rfl rfl rfl ?_
   refine Lp rfl (p_pick_f rfl rfl rfl rfl) ?_
   refine Lm rfl rfl rfl ?_
   iterate 5 refine L_no rfl rfl rfl rfl ?_
   refine Lp rfl (p_pick_f rfl rfl rfl rfl) ?_
   refine La rfl rfl rfl ?_
   refine L_then (kp [3, 4, 5, 6] rfl) ?_
   refine ⟨_, (by simp only [Bool.not_eq_true', oP_false, Bool.false_eq_true, false_iff, decide_eq_true_eq]; omega), (.cons rfl (.cons rfl (.cons rfl (.cons rfl (.nil _))))), (by (try dsimp only); repeat (first | exact HSub.nil _ | refine HSub.take (by repeat first | exact Take.head | apply Take.tail) ?_ | exact HSub.refl _ | refine HSub.drop ?_ | refine HSub.app ?_)), rfl⟩
  rintro gg h60
  refine V_region rfl ?_
  iterate 2 refine Lm rfl rfl rfl ?_
  refine L_cases (d := 51) rfl ?_ ?_
  ·intro g4; have g4' := g4; try simp only [td] at g4'
   have hP4 := h60.1 g4
   refine L_yes rfl rfl rfl g4 (X_p (p_move rfl rfl) ?_)
   refine L_yes rfl rfl rfl g4 (X_p (p_idxao ar108 rfl rfl rfl (by omega) (by omega)) ?_)
   refine L_yes rfl rfl rfl g4 (X_rd (rlA (vs := [_, _]) ag24 sz24 rfl rfl rfl) ?_)
   refine L_yes rfl rfl rfl g4 (X_wr (w_callP rfl rfl rfl (fun w hg => rnone_c _ _ w)) ?_)
   rintro _ _ ⟨rfl, rfl⟩
   refine L_yes rfl rfl rfl g4 (X_p (p_not rfl rfl) ?_)
   refine Lp rfl (p_pick_t rfl rfl g4 rfl) ?_
   refine Lm rfl rfl rfl ?_
   refine L_cases (d := 58) rfl ?_ ?_
   ·intro g5; have g5' := g5; try simp only [td] at g5'
    try simp only [oP_true, oP_false, Span.none, decide_eq_true_eq, decide_eq_false_iff_not] at g5'
    refine L_yes rfl rfl rfl g5 (X_p (p_move rfl rfl) ?_)
    refine L_yes rfl rfl rfl g5 (X_p (p_idxao ar108 rfl rfl rfl (by omega) (by omega)) ?_)
    refine L_yes rfl rfl rfl g5 (X_p (p_fieldo fo24_0 rfl rfl) ?_)
    refine L_yes rfl rfl rfl g5 (X_rd (rl ag3 rfl rfl rfl) ?_)
    refine L_yes rfl rfl rfl g5 (X_wr (w_callP rfl rfl rfl (fun w hg => rsizeW_c _ w)) ?_)
    rintro _ _ ⟨rfl, rfl⟩
    refine L_yes rfl rfl rfl g5 (X_p (p_leq rfl rfl rfl) ?_)
    refine Lp rfl (p_pick_t rfl rfl g5 rfl) ?_
    refine Lm rfl rfl rfl ?_
    refine L_cases (d := 66) rfl ?_ ?_
    ·intro g6; have g6' := g6; try simp only [td] at g6'
     try simp only [oP_true, oP_false, Span.none, decide_eq_true_eq, decide_eq_false_iff_not] at g6'
     refine L_yes rfl rfl rfl g6 (X_p (p_move rfl rfl) ?_)
     refine L_yes rfl rfl rfl g6 (X_p (p_idxao ar108 rfl rfl rfl (by omega) (by omega)) ?_)
     refine L_yes rfl rfl rfl g6 (X_p (p_fieldo fo24_1 rfl rfl) ?_)
     refine L_yes rfl rfl rfl g6 (X_rd (rl ag3 rfl rfl rfl) ?_)
     refine L_yes rfl rfl rfl g6 (X_wr (w_callP rfl rfl rfl (fun w hg => rsizeW_c _ w)) ?_)
     rintro _ _ ⟨rfl, rfl⟩
     refine L_yes rfl rfl rfl g6 (X_p (p_leq rfl rfl rfl) ?_)
     refine Lp rfl (p_pick_t rfl rfl g6 rfl) ?_
     refine Lm rfl rfl rfl ?_
     refine L_cases (d := 74) rfl ?_ ?_
     ·intro g7; have g7' := g7; try simp only [td] at g7'
      try simp only [oP_true, oP_false, Span.none, decide_eq_true_eq, decide_eq_false_iff_not] at g7'
      refine L_yes rfl rfl rfl g7 (X_p (p_move rfl rfl) ?_)
      refine L_yes rfl rfl rfl g7 (X_p (p_idxao ar108 rfl rfl rfl (by omega) (by omega)) ?_)
      refine L_yes rfl rfl rfl g7 (X_p (p_fieldo fo24_0 rfl rfl) ?_)
      refine L_yes rfl rfl rfl g7 (X_rd (rl ag3 rfl rfl rfl) ?_)
      refine L_yes rfl rfl rfl g7 (X_p (p_geq rfl rfl rfl) ?_)
      refine Lp rfl (p_pick_t rfl rfl g7 rfl) ?_
      refine Lm rfl rfl rfl ?_
      refine L_cases (d := 81) rfl ?_ ?_
      ·intro g8; have g8' := g8; try simp only [td] at g8'
       try simp only [oP_true, oP_false, Span.none, decide_eq_true_eq, decide_eq_false_iff_not] at g8'
       refine L_yes rfl rfl rfl g8 (X_p (p_move rfl rfl) ?_)
       refine L_yes rfl rfl rfl g8 (X_p (p_idxao ar108 rfl rfl rfl (by omega) (by omega)) ?_)
       refine L_yes rfl rfl rfl g8 (X_p (p_fieldo fo24_1 rfl rfl) ?_)
       refine L_yes rfl rfl rfl g8 (X_rd (rl ag3 rfl rfl rfl) ?_)
       refine L_yes rfl rfl rfl g8 (X_p (p_geq rfl rfl rfl) ?_)
       refine Lp rfl (p_pick_t rfl rfl g8 rfl) ?_
       refine La rfl rfl rfl ?_
       refine L_keep (kp [3, 4, 5, 6] rfl) (blk_n (then_n ?_))
       refine ⟨_, ?_, (.cons rfl (.cons rfl (.cons rfl (.cons rfl (.nil _))))), (by (try dsimp only); repeat (first | exact HSub.nil _ | refine HSub.take (by repeat first | exact Take.head | apply Take.tail) ?_ | exact HSub.refl _ | refine HSub.drop ?_ | refine HSub.app ?_)), rfl⟩
       simp only [Bool.not_eq_true', oP_false, Bool.false_eq_true, false_iff, decide_eq_true_eq]; omega
      intro g8; have g8' := g8; try simp only [td] at g8'
      try simp only [oP_true, oP_false, Span.none, decide_eq_true_eq, decide_eq_false_iff_not] at g8'
      iterate 5 refine L_no rfl rfl rfl g8 ?_
      refine Lp rfl (p_pick_f rfl rfl g8 rfl) ?_
      refine La rfl rfl rfl ?_
      refine L_keep (kp [3, 4, 5, 6] rfl) (blk_n (then_n ?_))
      refine ⟨_, ?_, (.cons rfl (.cons rfl (.cons rfl (.cons rfl (.nil _))))), (by (try dsimp only); repeat (first | exact HSub.nil _ | refine HSub.take (by repeat first | exact Take.head | apply Take.tail) ?_ | exact HSub.refl _ | refine HSub.drop ?_ | refine HSub.app ?_)), rfl⟩
      simp only [Bool.not_eq_true', oP_false, Bool.false_eq_true, false_iff, decide_eq_true_eq]; omega
     intro g7; have g7' := g7; try simp only [td] at g7'
     try simp only [oP_true, oP_false, Span.none, decide_eq_true_eq, decide_eq_false_iff_not] at g7'
     iterate 5 refine L_no rfl rfl rfl g7 ?_
     refine Lp rfl (p_pick_f rfl rfl g7 rfl) ?_
     refine Lm rfl rfl rfl ?_
     iterate 5 refine L_no rfl rfl rfl rfl ?_
     refine Lp rfl (p_pick_f rfl rfl rfl rfl) ?_
     refine La rfl rfl rfl ?_
     refine L_keep (kp [3, 4, 5, 6] rfl) (blk_n (then_n ?_))
     refine ⟨_, ?_, (.cons rfl (.cons rfl (.cons rfl (.cons rfl (.nil _))))), (by (try dsimp only); repeat (first | exact HSub.nil _ | refine HSub.take (by repeat first | exact Take.head | apply Take.tail) ?_ | exact HSub.refl _ | refine HSub.drop ?_ | refine HSub.app ?_)), rfl⟩
     simp only [Bool.not_eq_true', oP_false, Bool.false_eq_true, false_iff, decide_eq_true_eq]; omega
    intro g6; have g6' := g6; try simp only [td] at g6'
    try simp only [oP_true, oP_false, Span.none, decide_eq_true_eq, decide_eq_false_iff_not] at g6'
    iterate 6 refine L_no rfl rfl rfl g6 ?_
    refine Lp rfl (p_pick_f rfl rfl g6 rfl) ?_
    refine Lm rfl rfl rfl ?_
    iterate 5 refine L_no rfl rfl rfl rfl ?_
    refine Lp rfl (p_pick_f rfl rfl rfl rfl) ?_
    refine Lm rfl rfl rfl ?_
    iterate 5 refine L_no rfl rfl rfl rfl ?_
    refine Lp rfl (p_pick_f rfl rfl rfl rfl) ?_
    refine La rfl rfl rfl ?_
    refine L_keep (kp [3, 4, 5, 6] rfl) (blk_n (then_n ?_))
    refine ⟨_, ?_, (.cons rfl (.cons rfl (.cons rfl (.cons rfl (.nil _))))), (by (try dsimp only); repeat (first | exact HSub.nil _ | refine HSub.take (by repeat first | exact Take.head | apply Take.tail) ?_ | exact HSub.refl _ | refine HSub.drop ?_ | refine HSub.app ?_)), rfl⟩
    simp only [Bool.not_eq_true', oP_false, Bool.false_eq_true, false_iff, decide_eq_true_eq]; omega
   intro g5; have g5' := g5; try simp only [td] at g5'
   try simp only [oP_true, oP_false, Span.none, decide_eq_true_eq, decide_eq_false_iff_not] at g5'
   iterate 6 refine L_no rfl rfl rfl g5 ?_
   refine Lp rfl (p_pick_f rfl rfl g5 rfl) ?_
   refine Lm rfl rfl rfl ?_
   iterate 6 refine L_no rfl rfl rfl rfl ?_
   refine Lp rfl (p_pick_f rfl rfl rfl rfl) ?_
   refine Lm rfl rfl rfl ?_
   iterate 5 refine L_no rfl rfl rfl rfl ?_
   refine Lp rfl (p_pick_f rfl rfl rfl rfl) ?_
   refine Lm rfl rfl rfl ?_
   iterate 5 refine L_no rfl rfl rfl rfl ?_
   refine Lp rfl (p_pick_f rfl rfl rfl rfl) ?_
   refine La rfl rfl rfl ?_
   refine L_keep (kp [3, 4, 5, 6] rfl) (blk_n (then_n ?_))
   refine ⟨_, ?_, (.cons rfl (.cons rfl (.cons rfl (.cons rfl (.nil _))))), (by (try dsimp only); repeat (first | exact HSub.nil _ | refine HSub.take (by repeat first | exact Take.head | apply Take.tail) ?_ | exact HSub.refl _ | refine HSub.drop ?_ | refine HSub.app ?_)), rfl⟩
   simp only [Bool.not_eq_true', oP_false, Bool.false_eq_true, false_iff, decide_eq_true_eq]; omega
  intro g4; have g4' := g4; try simp only [td] at g4'
  have hP4 : ¬ ((0 ≤ b.at_ ∧ b.at_ ≤ 100000) ∧ (-2000000000 ≤ b.x.lo ∧ b.x.lo ≤ b.x.hi ∧ b.x.hi ≤ 2000000000)) := fun h => by rw [h60.2 h] at g4; cases g4
  iterate 5 refine L_no rfl rfl rfl g4 ?_
  refine Lp rfl (p_pick_f rfl rfl g4 rfl) ?_
  refine Lm rfl rfl rfl ?_
  iterate 6 refine L_no rfl rfl rfl rfl ?_
  refine Lp rfl (p_pick_f rfl rfl rfl rfl) ?_
  refine Lm rfl rfl rfl ?_
  iterate 6 refine L_no rfl rfl rfl rfl ?_
  refine Lp rfl (p_pick_f rfl rfl rfl rfl) ?_
  refine Lm rfl rfl rfl ?_
  iterate 5 refine L_no rfl rfl rfl rfl ?_
  refine Lp rfl (p_pick_f rfl rfl rfl rfl) ?_
  refine Lm rfl rfl rfl ?_
  iterate 5 refine L_no rfl rfl rfl rfl ?_
  refine Lp rfl (p_pick_f rfl rfl rfl rfl) ?_
  refine La rfl rfl rfl ?_
  refine L_keep (kp [3, 4, 5, 6] rfl) (blk_n (then_n ?_))
  refine ⟨_, ?_, (.cons rfl (.cons rfl (.cons rfl (.cons rfl (.nil _))))), (by (try dsimp only); repeat (first | exact HSub.nil _ | refine HSub.take (by repeat first | exact Take.head | apply Take.tail) ?_ | exact HSub.refl _ | refine HSub.drop ?_ | refine HSub.app ?_)), rfl⟩
  simp only [Bool.not_eq_true', oP_false, Bool.false_eq_true, false_iff, decide_eq_true_eq]; omega
 rintro gg h70
 refine V_region rfl ?_
 refine Lm rfl rfl rfl ?_
 first | refine Lp rfl (p_add' rfl rfl rfl (by unfold InI; omega)) ?_ | refine Lp rfl (p_add rfl rfl rfl) ?_
 refine La rfl rfl rfl ?_
 refine L_keep (kp [3, 4, 5, 6] rfl) (then_n ?_)
 refine LU_step ?_
 refine V_seq ?_
 refine Vs rfl ?_
 refine Lm rfl rfl rfl ?_
 refine Lp rfl (p_lss rfl rfl rfl) ?_
 refine L_then (kp [3, 4, 5, 6, 25] rfl) ?_
 refine V_cond_t rfl rfl ?_
 refine V_skip (then_n ?_)
 refine V_mid (γ := Bool) (kp [3, 4, 6] rfl) (fun gg => [(5, .bool gg)]) (fun gg => [(x3, .cells #[.int .i64 b.x.lo, .int .i64 b.x.hi, .int .i64 b.y.lo, .int .i64 b.y.hi, .int .i64 b.z.lo, .int .i64 b.z.hi] 108), (x4, .cells #[.int .i64 b.vx.lo, .int .i64 b.vx.hi, .int .i64 b.vy.lo, .int .i64 b.vy.hi, .int .i64 b.vz.lo, .int .i64 b.vz.hi] 108), (b1, .cells (Box.cells b).toArray 28)]) (fun gg => (gg = true ↔ (0 ≤ b.at_ ∧ b.at_ ≤ 100000) ∧ (-2000000000 ≤ b.x.lo ∧ b.x.lo ≤ b.x.hi ∧ b.x.hi ≤ 2000000000) ∧ (-1000000 ≤ b.vx.lo ∧ b.vx.lo ≤ b.vx.hi ∧ b.vx.hi ≤ 1000000) ∧ (-2000000000 ≤ b.y.lo ∧ b.y.lo ≤ b.y.hi ∧ b.y.hi ≤ 2000000000) ∧ (-1000000 ≤ b.vy.lo ∧ b.vy.lo ≤ b.vy.hi ∧ b.vy.hi ≤ 1000000))) ?_ ?_
 ·refine V_block ?_
  refine V_mid (γ := Bool) (kp [3, 4, 6] rfl) (fun gg => [(5, .bool gg)]) (fun gg => [(x3, .cells #[.int .i64 b.x.lo, .int .i64 b.x.hi, .int .i64 b.y.lo, .int .i64 b.y.hi, .int .i64 b.z.lo, .int .i64 b.z.hi] 108), (x4, .cells #[.int .i64 b.vx.lo, .int .i64 b.vx.hi, .int .i64 b.vy.lo, .int .i64 b.vy.hi, .int .i64 b.vz.lo, .int .i64 b.vz.hi] 108), (b1, .cells (Box.cells b).toArray 28)]) (fun gg => (gg = true ↔ (0 ≤ b.at_ ∧ b.at_ ≤ 100000) ∧ (-2000000000 ≤ b.x.lo ∧ b.x.lo ≤ b.x.hi ∧ b.x.hi ≤ 2000000000) ∧ (-1000000 ≤ b.vx.lo ∧ b.vx.lo ≤ b.vx.hi ∧ b.vx.hi ≤ 1000000) ∧ (-2000000000 ≤ b.y.lo ∧ b.y.lo ≤ b.y.hi ∧ b.y.hi ≤ 2000000000))) ?_ ?_
  ·refine V_region rfl ?_
   iterate 2 refine Lm rfl rfl rfl ?_
   refine L_cases (d := 29) rfl ?_ ?_
   ·intro g9; have g9' := g9; try simp only [td] at g9'
    have hP9 := h70.1 g9
    refine L_yes rfl rfl rfl g9 (X_p (p_move rfl rfl) ?_)
    refine L_yes rfl rfl rfl g9 (X_p (p_idxao ar108 rfl rfl rfl (by omega) (by omega)) ?_)
    refine L_yes rfl rfl rfl g9 (X_rd (rlA (vs := [_, _]) ag24 sz24 rfl rfl rfl) ?_)
    refine L_yes rfl rfl rfl g9 (X_wr (w_callP rfl rfl rfl (fun w hg => rnone_c _ _ w)) ?_)
    rintro _ _ ⟨rfl, rfl⟩
    refine L_yes rfl rfl rfl g9 (X_p (p_not rfl rfl) ?_)
    refine Lp rfl (p_pick_t rfl rfl g9 rfl) ?_
    refine Lm rfl rfl rfl ?_
    refine L_cases (d := 36) rfl ?_ ?_
    ·intro g10; have g10' := g10; try simp only [td] at g10'
     try simp only [oP_true, oP_false, Span.none, decide_eq_true_eq, decide_eq_false_iff_not] at g10'
     refine L_yes rfl rfl rfl g10 (X_p (p_move rfl rfl) ?_)
     refine L_yes rfl rfl rfl g10 (X_p (p_idxao ar108 rfl rfl rfl (by omega) (by omega)) ?_)
     refine L_yes rfl rfl rfl g10 (X_p (p_fieldo fo24_0 rfl rfl) ?_)
     refine L_yes rfl rfl rfl g10 (X_rd (rl ag3 rfl rfl rfl) ?_)
     refine L_yes rfl rfl rfl g10 (X_wr (w_callP rfl rfl rfl (fun w hg => rplace_c _ w)) ?_)
     rintro _ _ ⟨rfl, rfl⟩
     refine Lp rfl (p_pick_t rfl rfl g10 rfl) ?_
     refine Lm rfl rfl rfl ?_
     refine L_cases (d := 43) rfl ?_ ?_
     ·intro g11; have g11' := g11; try simp only [td] at g11'
      try simp only [oP_true, oP_false, Span.none, decide_eq_true_eq, decide_eq_false_iff_not] at g11'
      refine L_yes rfl rfl rfl g11 (X_p (p_move rfl rfl) ?_)
      refine L_yes rfl rfl rfl g11 (X_p (p_idxao ar108 rfl rfl rfl (by omega) (by omega)) ?_)
      refine L_yes rfl rfl rfl g11 (X_p (p_fieldo fo24_1 rfl rfl) ?_)
      refine L_yes rfl rfl rfl g11 (X_rd (rl ag3 rfl rfl rfl) ?_)
      refine L_yes rfl rfl rfl g11 (X_wr (w_callP rfl rfl rfl (fun w hg => rplace_c _ w)) ?_)
      rintro _ _ ⟨rfl, rfl⟩
      refine Lp rfl (p_pick_t rfl rfl g11 rfl) ?_
      refine La rfl rfl rfl ?_
      refine L_then (kp [3, 4, 5, 6] rfl) ?_
      refine ⟨_, (by simp only [Bool.not_eq_true', oP_false, Bool.false_eq_true, false_iff, decide_eq_true_eq]; omega), (.cons rfl (.cons rfl (.cons rfl (.cons rfl (.nil _))))), (by (try dsimp only); repeat (first | exact HSub.nil _ | refine HSub.take (by repeat first | exact Take.head | apply Take.tail) ?_ | exact HSub.refl _ | refine HSub.drop ?_ | refine HSub.app ?_)), rfl⟩
     intro g11; have g11' := g11; try simp only [td] at g11'
     try simp only [oP_true, oP_false, Span.none, decide_eq_true_eq, decide_eq_false_iff_not] at g11'
     iterate 5 refine L_no rfl rfl rfl g11 ?_
     refine Lp rfl (p_pick_f rfl rfl g11 rfl) ?_
     refine La rfl rfl rfl ?_
     refine L_then (kp [3, 4, 5, 6] rfl) ?_
     refine ⟨_, (by simp only [Bool.not_eq_true', oP_false, Bool.false_eq_true, false_iff, decide_eq_true_eq]; omega), (.cons rfl (.cons rfl (.cons rfl (.cons rfl (.nil _))))), (by (try dsimp only); repeat (first | exact HSub.nil _ | refine HSub.take (by repeat first | exact Take.head | apply Take.tail) ?_ | exact HSub.refl _ | refine HSub.drop ?_ | refine HSub.app ?_)), rfl⟩
    intro g10; have g10' := g10; try simp only [td] at g10'
    try simp only [oP_true, oP_false, Span.none, decide_eq_true_eq, decide_eq_false_iff_not] at g10'
    iterate 5 refine L_no rfl rfl rfl g10 ?_
    refine Lp rfl (p_pick_f rfl rfl g10 rfl) ?_
    refine Lm rfl rfl rfl ?_
    iterate 5 refine L_no rfl rfl rfl rfl ?_
    refine Lp rfl (p_pick_f rfl rfl rfl rfl) ?_
    refine La rfl rfl rfl ?_
    refine L_then (kp [3, 4, 5, 6] rfl) ?_
    refine ⟨_, (by simp only [Bool.not_eq_true', oP_false, Bool.false_eq_true, false_iff, decide_eq_true_eq]; omega), (.cons rfl (.cons rfl (.cons rfl (.cons rfl (.nil _))))), (by (try dsimp only); repeat (first | exact HSub.nil _ | refine HSub.take (by repeat first | exact Take.head | apply Take.tail) ?_ | exact HSub.refl _ | refine HSub.drop ?_ | refine HSub.app ?_)), rfl⟩
   intro g9; have g9' := g9; try simp only [td] at g9'
   have hP9 : ¬ ((0 ≤ b.at_ ∧ b.at_ ≤ 100000) ∧ (-2000000000 ≤ b.x.lo ∧ b.x.lo ≤ b.x.hi ∧ b.x.hi ≤ 2000000000) ∧ (-1000000 ≤ b.vx.lo ∧ b.vx.lo ≤ b.vx.hi ∧ b.vx.hi ≤ 1000000)) := fun h => by rw [h70.2 h] at g9; cases g9
   iterate 5 refine L_no rfl rfl rfl g9 ?_
   refine Lp rfl (p_pick_f rfl rfl g9 rfl) ?_
   refine Lm rfl rfl rfl ?_
   iterate 5 refine L_no rfl rfl rfl rfl ?_
   refine Lp rfl (p_pick_f rfl rfl rfl rfl) ?_
   refine Lm rfl rfl rfl ?_
   iterate 5 refine L_no rfl rfl rfl rfl ?_
   refine Lp rfl (p_pick_f rfl rfl rfl rfl) ?_
   refine La rfl rfl rfl ?_
   refine L_then (kp [3, 4, 5, 6] rfl) ?_
   refine ⟨_, (by simp only [Bool.not_eq_true', oP_false, Bool.false_eq_true, false_iff, decide_eq_true_eq]; omega), (.cons rfl (.cons rfl (.cons rfl (.cons rfl (.nil _))))), (by (try dsimp only); repeat (first | exact HSub.nil _ | refine HSub.take (by repeat first | exact Take.head | apply Take.tail) ?_ | exact HSub.refl _ | refine HSub.drop ?_ | refine HSub.app ?_)), rfl⟩
  rintro gg h61
  refine V_region rfl ?_
  iterate 2 refine Lm rfl rfl rfl ?_
  refine L_cases (d := 51) rfl ?_ ?_
  ·intro g12; have g12' := g12; try simp only [td] at g12'
   have hP12 := h61.1 g12
   refine L_yes rfl rfl rfl g12 (X_p (p_move rfl rfl) ?_)
   refine L_yes rfl rfl rfl g12 (X_p (p_idxao ar108 rfl rfl rfl (by omega) (by omega)) ?_)
   refine L_yes rfl rfl rfl g12 (X_rd (rlA (vs := [_, _]) ag24 sz24 rfl rfl rfl) ?_)
   refine L_yes rfl rfl rfl g12 (X_wr (w_callP rfl rfl rfl (fun w hg => rnone_c _ _ w)) ?_)
   rintro _ _ ⟨rfl, rfl⟩
   refine L_yes rfl rfl rfl g12 (X_p (p_not rfl rfl) ?_)
   refine Lp rfl (p_pick_t rfl rfl g12 rfl) ?_
   refine Lm rfl rfl rfl ?_
   refine L_cases (d := 58) rfl ?_ ?_
   ·intro g13; have g13' := g13; try simp only [td] at g13'
    try simp only [oP_true, oP_false, Span.none, decide_eq_true_eq, decide_eq_false_iff_not] at g13'
    refine L_yes rfl rfl rfl g13 (X_p (p_move rfl rfl) ?_)
    refine L_yes rfl rfl rfl g13 (X_p (p_idxao ar108 rfl rfl rfl (by omega) (by omega)) ?_)
    refine L_yes rfl rfl rfl g13 (X_p (p_fieldo fo24_0 rfl rfl) ?_)
    refine L_yes rfl rfl rfl g13 (X_rd (rl ag3 rfl rfl rfl) ?_)
    refine L_yes rfl rfl rfl g13 (X_wr (w_callP rfl rfl rfl (fun w hg => rsizeW_c _ w)) ?_)
    rintro _ _ ⟨rfl, rfl⟩
    refine L_yes rfl rfl rfl g13 (X_p (p_leq rfl rfl rfl) ?_)
    refine Lp rfl (p_pick_t rfl rfl g13 rfl) ?_
    refine Lm rfl rfl rfl ?_
    refine L_cases (d := 66) rfl ?_ ?_
    ·intro g14; have g14' := g14; try simp only [td] at g14'
     try simp only [oP_true, oP_false, Span.none, decide_eq_true_eq, decide_eq_false_iff_not] at g14'
     refine L_yes rfl rfl rfl g14 (X_p (p_move rfl rfl) ?_)
     refine L_yes rfl rfl rfl g14 (X_p (p_idxao ar108 rfl rfl rfl (by omega) (by omega)) ?_)
     refine L_yes rfl rfl rfl g14 (X_p (p_fieldo fo24_1 rfl rfl) ?_)
     refine L_yes rfl rfl rfl g14 (X_rd (rl ag3 rfl rfl rfl) ?_)
     refine L_yes rfl rfl rfl g14 (X_wr (w_callP rfl rfl rfl (fun w hg => rsizeW_c _ w)) ?_)
     rintro _ _ ⟨rfl, rfl⟩
     refine L_yes rfl rfl rfl g14 (X_p (p_leq rfl rfl rfl) ?_)
     refine Lp rfl (p_pick_t rfl rfl g14 rfl) ?_
     refine Lm rfl rfl rfl ?_
     refine L_cases (d := 74) rfl ?_ ?_
     ·intro g15; have g15' := g15; try simp only [td] at g15'
      try simp only [oP_true, oP_false, Span.none, decide_eq_true_eq, decide_eq_false_iff_not] at g15'
      refine L_yes rfl rfl rfl g15 (X_p (p_move rfl rfl) ?_)
      refine L_yes rfl rfl rfl g15 (X_p (p_idxao ar108 rfl rfl rfl (by omega) (by omega)) ?_)
      refine L_yes rfl rfl rfl g15 (X_p (p_fieldo fo24_0 rfl rfl) ?_)
      refine L_yes rfl rfl rfl g15 (X_rd (rl ag3 rfl rfl rfl) ?_)
      refine L_yes rfl rfl rfl g15 (X_p (p_geq rfl rfl rfl) ?_)
      refine Lp rfl (p_pick_t rfl rfl g15 rfl) ?_
      refine Lm rfl rfl rfl ?_
      refine L_cases (d := 81) rfl ?_ ?_
      ·intro g16; have g16' := g16; try simp only [td] at g16'
       try simp only [oP_true, oP_false, Span.none, decide_eq_true_eq, decide_eq_false_iff_not] at g16'
       refine L_yes rfl rfl rfl g16 (X_p (p_move rfl rfl) ?_)
       refine L_yes rfl rfl rfl g16 (X_p (p_idxao ar108 rfl rfl rfl (by omega) (by omega)) ?_)
       refine L_yes rfl rfl rfl g16 (X_p (p_fieldo fo24_1 rfl rfl) ?_)
       refine L_yes rfl rfl rfl g16 (X_rd (rl ag3 rfl rfl rfl) ?_)
       refine L_yes rfl rfl rfl g16 (X_p (p_geq rfl rfl rfl) ?_)
       refine Lp rfl (p_pick_t rfl rfl g16 rfl) ?_
       refine La rfl rfl rfl ?_
       refine L_keep (kp [3, 4, 5, 6] rfl) (blk_n (then_n ?_))
       refine ⟨_, ?_, (.cons rfl (.cons rfl (.cons rfl (.cons rfl (.nil _))))), (by (try dsimp only); repeat (first | exact HSub.nil _ | refine HSub.take (by repeat first | exact Take.head | apply Take.tail) ?_ | exact HSub.refl _ | refine HSub.drop ?_ | refine HSub.app ?_)), rfl⟩
       simp only [Bool.not_eq_true', oP_false, Bool.false_eq_true, false_iff, decide_eq_true_eq]; omega
      intro g16; have g16' := g16; try simp only [td] at g16'
      try simp only [oP_true, oP_false, Span.none, decide_eq_true_eq, decide_eq_false_iff_not] at g16'
      iterate 5 refine L_no rfl rfl rfl g16 ?_
      refine Lp rfl (p_pick_f rfl rfl g16 rfl) ?_
      refine La rfl rfl rfl ?_
      refine L_keep (kp [3, 4, 5, 6] rfl) (blk_n (then_n ?_))
      refine ⟨_, ?_, (.cons rfl (.cons rfl (.cons rfl (.cons rfl (.nil _))))), (by (try dsimp only); repeat (first | exact HSub.nil _ | refine HSub.take (by repeat first | exact Take.head | apply Take.tail) ?_ | exact HSub.refl _ | refine HSub.drop ?_ | refine HSub.app ?_)), rfl⟩
      simp only [Bool.not_eq_true', oP_false, Bool.false_eq_true, false_iff, decide_eq_true_eq]; omega
     intro g15; have g15' := g15; try simp only [td] at g15'
     try simp only [oP_true, oP_false, Span.none, decide_eq_true_eq, decide_eq_false_iff_not] at g15'
     iterate 5 refine L_no rfl rfl rfl g15 ?_
     refine Lp rfl (p_pick_f rfl rfl g15 rfl) ?_
     refine Lm rfl rfl rfl ?_
     iterate 5 refine L_no rfl rfl rfl rfl ?_
     refine Lp rfl (p_pick_f rfl rfl rfl rfl) ?_
     refine La rfl rfl rfl ?_
     refine L_keep (kp [3, 4, 5, 6] rfl) (blk_n (then_n ?_))
     refine ⟨_, ?_, (.cons rfl (.cons rfl (.cons rfl (.cons rfl (.nil _))))), (by (try dsimp only); repeat (first | exact HSub.nil _ | refine HSub.take (by repeat first | exact Take.head | apply Take.tail) ?_ | exact HSub.refl _ | refine HSub.drop ?_ | refine HSub.app ?_)), rfl⟩
     simp only [Bool.not_eq_true', oP_false, Bool.false_eq_true, false_iff, decide_eq_true_eq]; omega
    intro g14; have g14' := g14; try simp only [td] at g14'
    try simp only [oP_true, oP_false, Span.none, decide_eq_true_eq, decide_eq_false_iff_not] at g14'
    iterate 6 refine L_no rfl rfl rfl g14 ?_
    refine Lp rfl (p_pick_f rfl rfl g14 rfl) ?_
    refine Lm rfl rfl rfl ?_
    iterate 5 refine L_no rfl rfl rfl rfl ?_
    refine Lp rfl (p_pick_f rfl rfl rfl rfl) ?_
    refine Lm rfl rfl rfl ?_
    iterate 5 refine L_no rfl rfl rfl rfl ?_
    refine Lp rfl (p_pick_f rfl rfl rfl rfl) ?_
    refine La rfl rfl rfl ?_
    refine L_keep (kp [3, 4, 5, 6] rfl) (blk_n (then_n ?_))
    refine ⟨_, ?_, (.cons rfl (.cons rfl (.cons rfl (.cons rfl (.nil _))))), (by (try dsimp only); repeat (first | exact HSub.nil _ | refine HSub.take (by repeat first | exact Take.head | apply Take.tail) ?_ | exact HSub.refl _ | refine HSub.drop ?_ | refine HSub.app ?_)), rfl⟩
    simp only [Bool.not_eq_true', oP_false, Bool.false_eq_true, false_iff, decide_eq_true_eq]; omega
   intro g13; have g13' := g13; try simp only [td] at g13'
   try simp only [oP_true, oP_false, Span.none, decide_eq_true_eq, decide_eq_false_iff_not] at g13'
   iterate 6 refine L_no rfl rfl rfl g13 ?_
   refine Lp rfl (p_pick_f rfl rfl g13 rfl) ?_
   refine Lm rfl rfl rfl ?_
   iterate 6 refine L_no rfl rfl rfl rfl ?_
   refine Lp rfl (p_pick_f rfl rfl rfl rfl) ?_
   refine Lm rfl rfl rfl ?_
   iterate 5 refine L_no rfl rfl rfl rfl ?_
   refine Lp rfl (p_pick_f rfl rfl rfl rfl) ?_
   refine Lm rfl rfl rfl ?_
   iterate 5 refine L_no rfl rfl rfl rfl ?_
   refine Lp rfl (p_pick_f rfl rfl rfl rfl) ?_
   refine La rfl rfl rfl ?_
   refine L_keep (kp [3, 4, 5, 6] rfl) (blk_n (then_n ?_))
   refine ⟨_, ?_, (.cons rfl (.cons rfl (.cons rfl (.cons rfl (.nil _))))), (by (try dsimp only); repeat (first | exact HSub.nil _ | refine HSub.take (by repeat first | exact Take.head | apply Take.tail) ?_ | exact HSub.refl _ | refine HSub.drop ?_ | refine HSub.app ?_)), rfl⟩
   simp only [Bool.not_eq_true', oP_false, Bool.false_eq_true, false_iff, decide_eq_true_eq]; omega
  intro g12; have g12' := g12; try simp only [td] at g12'
  have hP12 : ¬ ((0 ≤ b.at_ ∧ b.at_ ≤ 100000) ∧ (-2000000000 ≤ b.x.lo ∧ b.x.lo ≤ b.x.hi ∧ b.x.hi ≤ 2000000000) ∧ (-1000000 ≤ b.vx.lo ∧ b.vx.lo ≤ b.vx.hi ∧ b.vx.hi ≤ 1000000) ∧ (-2000000000 ≤ b.y.lo ∧ b.y.lo ≤ b.y.hi ∧ b.y.hi ≤ 2000000000)) := fun h => by rw [h61.2 h] at g12; cases g12
  iterate 5 refine L_no rfl rfl rfl g12 ?_
  refine Lp rfl (p_pick_f rfl rfl g12 rfl) ?_
  refine Lm rfl rfl rfl ?_
  iterate 6 refine L_no rfl rfl rfl rfl ?_
  refine Lp rfl (p_pick_f rfl rfl rfl rfl) ?_
  refine Lm rfl rfl rfl ?_
  iterate 6 refine L_no rfl rfl rfl rfl ?_
  refine Lp rfl (p_pick_f rfl rfl rfl rfl) ?_
  refine Lm rfl rfl rfl ?_
  iterate 5 refine L_no rfl rfl rfl rfl ?_
  refine Lp rfl (p_pick_f rfl rfl rfl rfl) ?_
  refine Lm rfl rfl rfl ?_
  iterate 5 refine L_no rfl rfl rfl rfl ?_
  refine Lp rfl (p_pick_f rfl rfl rfl rfl) ?_
  refine La rfl rfl rfl ?_
  refine L_keep (kp [3, 4, 5, 6] rfl) (blk_n (then_n ?_))
  refine ⟨_, ?_, (.cons rfl (.cons rfl (.cons rfl (.cons rfl (.nil _))))), (by (try dsimp only); repeat (first | exact HSub.nil _ | refine HSub.take (by repeat first | exact Take.head | apply Take.tail) ?_ | exact HSub.refl _ | refine HSub.drop ?_ | refine HSub.app ?_)), rfl⟩
  simp only [Bool.not_eq_true', oP_false, Bool.false_eq_true, false_iff, decide_eq_true_eq]; omega
 rintro gg h71
 refine V_region rfl ?_
 refine Lm rfl rfl rfl ?_
 first | refine Lp rfl (p_add' rfl rfl rfl (by unfold InI; omega)) ?_ | refine Lp rfl (p_add rfl rfl rfl) ?_
 refine La rfl rfl rfl ?_
 refine L_keep (kp [3, 4, 5, 6] rfl) (then_n ?_)
 refine LU_step ?_
 refine V_seq ?_
 refine Vs rfl ?_
 refine Lm rfl rfl rfl ?_
 refine Lp rfl (p_lss rfl rfl rfl) ?_
 refine L_then (kp [3, 4, 5, 6, 25] rfl) ?_
 refine V_cond_t rfl rfl ?_
 refine V_skip (then_n ?_)
 refine V_mid (γ := Bool) (kp [3, 4, 6] rfl) (fun gg => [(5, .bool gg)]) (fun gg => [(x3, .cells #[.int .i64 b.x.lo, .int .i64 b.x.hi, .int .i64 b.y.lo, .int .i64 b.y.hi, .int .i64 b.z.lo, .int .i64 b.z.hi] 108), (x4, .cells #[.int .i64 b.vx.lo, .int .i64 b.vx.hi, .int .i64 b.vy.lo, .int .i64 b.vy.hi, .int .i64 b.vz.lo, .int .i64 b.vz.hi] 108), (b1, .cells (Box.cells b).toArray 28)]) (fun gg => (gg = true ↔ (0 ≤ b.at_ ∧ b.at_ ≤ 100000) ∧ (-2000000000 ≤ b.x.lo ∧ b.x.lo ≤ b.x.hi ∧ b.x.hi ≤ 2000000000) ∧ (-1000000 ≤ b.vx.lo ∧ b.vx.lo ≤ b.vx.hi ∧ b.vx.hi ≤ 1000000) ∧ (-2000000000 ≤ b.y.lo ∧ b.y.lo ≤ b.y.hi ∧ b.y.hi ≤ 2000000000) ∧ (-1000000 ≤ b.vy.lo ∧ b.vy.lo ≤ b.vy.hi ∧ b.vy.hi ≤ 1000000) ∧ (-2000000000 ≤ b.z.lo ∧ b.z.lo ≤ b.z.hi ∧ b.z.hi ≤ 2000000000) ∧ (-1000000 ≤ b.vz.lo ∧ b.vz.lo ≤ b.vz.hi ∧ b.vz.hi ≤ 1000000))) ?_ ?_
 ·refine V_block ?_
  refine V_mid (γ := Bool) (kp [3, 4, 6] rfl) (fun gg => [(5, .bool gg)]) (fun gg => [(x3, .cells #[.int .i64 b.x.lo, .int .i64 b.x.hi, .int .i64 b.y.lo, .int .i64 b.y.hi, .int .i64 b.z.lo, .int .i64 b.z.hi] 108), (x4, .cells #[.int .i64 b.vx.lo, .int .i64 b.vx.hi, .int .i64 b.vy.lo, .int .i64 b.vy.hi, .int .i64 b.vz.lo, .int .i64 b.vz.hi] 108), (b1, .cells (Box.cells b).toArray 28)]) (fun gg => (gg = true ↔ (0 ≤ b.at_ ∧ b.at_ ≤ 100000) ∧ (-2000000000 ≤ b.x.lo ∧ b.x.lo ≤ b.x.hi ∧ b.x.hi ≤ 2000000000) ∧ (-1000000 ≤ b.vx.lo ∧ b.vx.lo ≤ b.vx.hi ∧ b.vx.hi ≤ 1000000) ∧ (-2000000000 ≤ b.y.lo ∧ b.y.lo ≤ b.y.hi ∧ b.y.hi ≤ 2000000000) ∧ (-1000000 ≤ b.vy.lo ∧ b.vy.lo ≤ b.vy.hi ∧ b.vy.hi ≤ 1000000) ∧ (-2000000000 ≤ b.z.lo ∧ b.z.lo ≤ b.z.hi ∧ b.z.hi ≤ 2000000000))) ?_ ?_
  ·refine V_region rfl ?_
   iterate 2 refine Lm rfl rfl rfl ?_
   refine L_cases (d := 29) rfl ?_ ?_
   ·intro g17; have g17' := g17; try simp only [td] at g17'
    have hP17 := h71.1 g17
    refine L_yes rfl rfl rfl g17 (X_p (p_move rfl rfl) ?_)
    refine L_yes rfl rfl rfl g17 (X_p (p_idxao ar108 rfl rfl rfl (by omega) (by omega)) ?_)
    refine L_yes rfl rfl rfl g17 (X_rd (rlA (vs := [_, _]) ag24 sz24 rfl rfl rfl) ?_)
    refine L_yes rfl rfl rfl g17 (X_wr (w_callP rfl rfl rfl (fun w hg => rnone_c _ _ w)) ?_)
    rintro _ _ ⟨rfl, rfl⟩
    refine L_yes rfl rfl rfl g17 (X_p (p_not rfl rfl) ?_)
    refine Lp rfl (p_pick_t rfl rfl g17 rfl) ?_
    refine Lm rfl rfl rfl ?_
    refine L_cases (d := 36) rfl ?_ ?_
    ·intro g18; have g18' := g18; try simp only [td] at g18'
     try simp only [oP_true, oP_false, Span.none, decide_eq_true_eq, decide_eq_false_iff_not] at g18'
     refine L_yes rfl rfl rfl g18 (X_p (p_move rfl rfl) ?_)
     refine L_yes rfl rfl rfl g18 (X_p (p_idxao ar108 rfl rfl rfl (by omega) (by omega)) ?_)
     refine L_yes rfl rfl rfl g18 (X_p (p_fieldo fo24_0 rfl rfl) ?_)
     refine L_yes rfl rfl rfl g18 (X_rd (rl ag3 rfl rfl rfl) ?_)
     refine L_yes rfl rfl rfl g18 (X_wr (w_callP rfl rfl rfl (fun w hg => rplace_c _ w)) ?_)
     rintro _ _ ⟨rfl, rfl⟩
     refine Lp rfl (p_pick_t rfl rfl g18 rfl) ?_
     refine Lm rfl rfl rfl ?_
     refine L_cases (d := 43) rfl ?_ ?_
     ·intro g19; have g19' := g19; try simp only [td] at g19'
      try simp only [oP_true, oP_false, Span.none, decide_eq_true_eq, decide_eq_false_iff_not] at g19'
      refine L_yes rfl rfl rfl g19 (X_p (p_move rfl rfl) ?_)
      refine L_yes rfl rfl rfl g19 (X_p (p_idxao ar108 rfl rfl rfl (by omega) (by omega)) ?_)
      refine L_yes rfl rfl rfl g19 (X_p (p_fieldo fo24_1 rfl rfl) ?_)
      refine L_yes rfl rfl rfl g19 (X_rd (rl ag3 rfl rfl rfl) ?_)
      refine L_yes rfl rfl rfl g19 (X_wr (w_callP rfl rfl rfl (fun w hg => rplace_c _ w)) ?_)
      rintro _ _ ⟨rfl, rfl⟩
      refine Lp rfl (p_pick_t rfl rfl g19 rfl) ?_
      refine La rfl rfl rfl ?_
      refine L_then (kp [3, 4, 5, 6] rfl) ?_
      refine ⟨_, (by simp only [Bool.not_eq_true', oP_false, Bool.false_eq_true, false_iff, decide_eq_true_eq]; omega), (.cons rfl (.cons rfl (.cons rfl (.cons rfl (.nil _))))), (by (try dsimp only); repeat (first | exact HSub.nil _ | refine HSub.take (by repeat first | exact Take.head | apply Take.tail) ?_ | exact HSub.refl _ | refine HSub.drop ?_ | refine HSub.app ?_)), rfl⟩
     intro g19; have g19' := g19; try simp only [td] at g19'
     try simp only [oP_true, oP_false, Span.none, decide_eq_true_eq, decide_eq_false_iff_not] at g19'
     iterate 5 refine L_no rfl rfl rfl g19 ?_
     refine Lp rfl (p_pick_f rfl rfl g19 rfl) ?_
     refine La rfl rfl rfl ?_
     refine L_then (kp [3, 4, 5, 6] rfl) ?_
     refine ⟨_, (by simp only [Bool.not_eq_true', oP_false, Bool.false_eq_true, false_iff, decide_eq_true_eq]; omega), (.cons rfl (.cons rfl (.cons rfl (.cons rfl (.nil _))))), (by (try dsimp only); repeat (first | exact HSub.nil _ | refine HSub.take (by repeat first | exact Take.head | apply Take.tail) ?_ | exact HSub.refl _ | refine HSub.drop ?_ | refine HSub.app ?_)), rfl⟩
    intro g18; have g18' := g18; try simp only [td] at g18'
    try simp only [oP_true, oP_false, Span.none, decide_eq_true_eq, decide_eq_false_iff_not] at g18'
    iterate 5 refine L_no rfl rfl rfl g18 ?_
    refine Lp rfl (p_pick_f rfl rfl g18 rfl) ?_
    refine Lm rfl rfl rfl ?_
    iterate 5 refine L_no rfl rfl rfl rfl ?_
    refine Lp rfl (p_pick_f rfl rfl rfl rfl) ?_
    refine La rfl rfl rfl ?_
    refine L_then (kp [3, 4, 5, 6] rfl) ?_
    refine ⟨_, (by simp only [Bool.not_eq_true', oP_false, Bool.false_eq_true, false_iff, decide_eq_true_eq]; omega), (.cons rfl (.cons rfl (.cons rfl (.cons rfl (.nil _))))), (by (try dsimp only); repeat (first | exact HSub.nil _ | refine HSub.take (by repeat first | exact Take.head | apply Take.tail) ?_ | exact HSub.refl _ | refine HSub.drop ?_ | refine HSub.app ?_)), rfl⟩
   intro g17; have g17' := g17; try simp only [td] at g17'
   have hP17 : ¬ ((0 ≤ b.at_ ∧ b.at_ ≤ 100000) ∧ (-2000000000 ≤ b.x.lo ∧ b.x.lo ≤ b.x.hi ∧ b.x.hi ≤ 2000000000) ∧ (-1000000 ≤ b.vx.lo ∧ b.vx.lo ≤ b.vx.hi ∧ b.vx.hi ≤ 1000000) ∧ (-2000000000 ≤ b.y.lo ∧ b.y.lo ≤ b.y.hi ∧ b.y.hi ≤ 2000000000) ∧ (-1000000 ≤ b.vy.lo ∧ b.vy.lo ≤ b.vy.hi ∧ b.vy.hi ≤ 1000000)) := fun h => by rw [h71.2 h] at g17; cases g17
   iterate 5 refine L_no rfl rfl rfl g17 ?_
   refine Lp rfl (p_pick_f rfl rfl g17 rfl) ?_
   refine Lm rfl rfl rfl ?_
   iterate 5 refine L_no rfl rfl rfl rfl ?_
   refine Lp rfl (p_pick_f rfl rfl rfl rfl) ?_
   refine Lm rfl rfl rfl ?_
   iterate 5 refine L_no rfl rfl rfl rfl ?_
   refine Lp rfl (p_pick_f rfl rfl rfl rfl) ?_
   refine La rfl rfl rfl ?_
   refine L_then (kp [3, 4, 5, 6] rfl) ?_
   refine ⟨_, (by simp only [Bool.not_eq_true', oP_false, Bool.false_eq_true, false_iff, decide_eq_true_eq]; omega), (.cons rfl (.cons rfl (.cons rfl (.cons rfl (.nil _))))), (by (try dsimp only); repeat (first | exact HSub.nil _ | refine HSub.take (by repeat first | exact Take.head | apply Take.tail) ?_ | exact HSub.refl _ | refine HSub.drop ?_ | refine HSub.app ?_)), rfl⟩
  rintro gg h62
  refine V_region rfl ?_
  iterate 2 refine Lm rfl rfl rfl ?_
  refine L_cases (d := 51) rfl ?_ ?_
  ·intro g20; have g20' := g20; try simp only [td] at g20'
   have hP20 := h62.1 g20
   refine L_yes rfl rfl rfl g20 (X_p (p_move rfl rfl) ?_)
   refine L_yes rfl rfl rfl g20 (X_p (p_idxao ar108 rfl rfl rfl (by omega) (by omega)) ?_)
   refine L_yes rfl rfl rfl g20 (X_rd (rlA (vs := [_, _]) ag24 sz24 rfl rfl rfl) ?_)
   refine L_yes rfl rfl rfl g20 (X_wr (w_callP rfl rfl rfl (fun w hg => rnone_c _ _ w)) ?_)
   rintro _ _ ⟨rfl, rfl⟩
   refine L_yes rfl rfl rfl g20 (X_p (p_not rfl rfl) ?_)
   refine Lp rfl (p_pick_t rfl rfl g20 rfl) ?_
   refine Lm rfl rfl rfl ?_
   refine L_cases (d := 58) rfl ?_ ?_
   ·intro g21; have g21' := g21; try simp only [td] at g21'
    try simp only [oP_true, oP_false, Span.none, decide_eq_true_eq, decide_eq_false_iff_not] at g21'
    refine L_yes rfl rfl rfl g21 (X_p (p_move rfl rfl) ?_)
    refine L_yes rfl rfl rfl g21 (X_p (p_idxao ar108 rfl rfl rfl (by omega) (by omega)) ?_)
    refine L_yes rfl rfl rfl g21 (X_p (p_fieldo fo24_0 rfl rfl) ?_)
    refine L_yes rfl rfl rfl g21 (X_rd (rl ag3 rfl rfl rfl) ?_)
    refine L_yes rfl rfl rfl g21 (X_wr (w_callP rfl rfl rfl (fun w hg => rsizeW_c _ w)) ?_)
    rintro _ _ ⟨rfl, rfl⟩
    refine L_yes rfl rfl rfl g21 (X_p (p_leq rfl rfl rfl) ?_)
    refine Lp rfl (p_pick_t rfl rfl g21 rfl) ?_
    refine Lm rfl rfl rfl ?_
    refine L_cases (d := 66) rfl ?_ ?_
    ·intro g22; have g22' := g22; try simp only [td] at g22'
     try simp only [oP_true, oP_false, Span.none, decide_eq_true_eq, decide_eq_false_iff_not] at g22'
     refine L_yes rfl rfl rfl g22 (X_p (p_move rfl rfl) ?_)
     refine L_yes rfl rfl rfl g22 (X_p (p_idxao ar108 rfl rfl rfl (by omega) (by omega)) ?_)
     refine L_yes rfl rfl rfl g22 (X_p (p_fieldo fo24_1 rfl rfl) ?_)
     refine L_yes rfl rfl rfl g22 (X_rd (rl ag3 rfl rfl rfl) ?_)
     refine L_yes rfl rfl rfl g22 (X_wr (w_callP rfl rfl rfl (fun w hg => rsizeW_c _ w)) ?_)
     rintro _ _ ⟨rfl, rfl⟩
     refine L_yes rfl rfl rfl g22 (X_p (p_leq rfl rfl rfl) ?_)
     refine Lp rfl (p_pick_t rfl rfl g22 rfl) ?_
     refine Lm rfl rfl rfl ?_
     refine L_cases (d := 74) rfl ?_ ?_
     ·intro g23; have g23' := g23; try simp only [td] at g23'
      try simp only [oP_true, oP_false, Span.none, decide_eq_true_eq, decide_eq_false_iff_not] at g23'
      refine L_yes rfl rfl rfl g23 (X_p (p_move rfl rfl) ?_)
      refine L_yes rfl rfl rfl g23 (X_p (p_idxao ar108 rfl rfl rfl (by omega) (by omega)) ?_)
      refine L_yes rfl rfl rfl g23 (X_p (p_fieldo fo24_0 rfl rfl) ?_)
      refine L_yes rfl rfl rfl g23 (X_rd (rl ag3 rfl rfl rfl) ?_)
      refine L_yes rfl rfl rfl g23 (X_p (p_geq rfl rfl rfl) ?_)
      refine Lp rfl (p_pick_t rfl rfl g23 rfl) ?_
      refine Lm rfl rfl rfl ?_
      refine L_cases (d := 81) rfl ?_ ?_
      ·intro g24; have g24' := g24; try simp only [td] at g24'
       try simp only [oP_true, oP_false, Span.none, decide_eq_true_eq, decide_eq_false_iff_not] at g24'
       refine L_yes rfl rfl rfl g24 (X_p (p_move rfl rfl) ?_)
       refine L_yes rfl rfl rfl g24 (X_p (p_idxao ar108 rfl rfl rfl (by omega) (by omega)) ?_)
       refine L_yes rfl rfl rfl g24 (X_p (p_fieldo fo24_1 rfl rfl) ?_)
       refine L_yes rfl rfl rfl g24 (X_rd (rl ag3 rfl rfl rfl) ?_)
       refine L_yes rfl rfl rfl g24 (X_p (p_geq rfl rfl rfl) ?_)
       refine Lp rfl (p_pick_t rfl rfl g24 rfl) ?_
       refine La rfl rfl rfl ?_
       refine L_keep (kp [3, 4, 5, 6] rfl) (blk_n (then_n ?_))
       refine ⟨_, ?_, (.cons rfl (.cons rfl (.cons rfl (.cons rfl (.nil _))))), (by (try dsimp only); repeat (first | exact HSub.nil _ | refine HSub.take (by repeat first | exact Take.head | apply Take.tail) ?_ | exact HSub.refl _ | refine HSub.drop ?_ | refine HSub.app ?_)), rfl⟩
       simp only [Bool.not_eq_true', oP_false, Bool.false_eq_true, false_iff, decide_eq_true_eq]; omega
      intro g24; have g24' := g24; try simp only [td] at g24'
      try simp only [oP_true, oP_false, Span.none, decide_eq_true_eq, decide_eq_false_iff_not] at g24'
      iterate 5 refine L_no rfl rfl rfl g24 ?_
      refine Lp rfl (p_pick_f rfl rfl g24 rfl) ?_
      refine La rfl rfl rfl ?_
      refine L_keep (kp [3, 4, 5, 6] rfl) (blk_n (then_n ?_))
      refine ⟨_, ?_, (.cons rfl (.cons rfl (.cons rfl (.cons rfl (.nil _))))), (by (try dsimp only); repeat (first | exact HSub.nil _ | refine HSub.take (by repeat first | exact Take.head | apply Take.tail) ?_ | exact HSub.refl _ | refine HSub.drop ?_ | refine HSub.app ?_)), rfl⟩
      simp only [Bool.not_eq_true', oP_false, Bool.false_eq_true, false_iff, decide_eq_true_eq]; omega
     intro g23; have g23' := g23; try simp only [td] at g23'
     try simp only [oP_true, oP_false, Span.none, decide_eq_true_eq, decide_eq_false_iff_not] at g23'
     iterate 5 refine L_no rfl rfl rfl g23 ?_
     refine Lp rfl (p_pick_f rfl rfl g23 rfl) ?_
     refine Lm rfl rfl rfl ?_
     iterate 5 refine L_no rfl rfl rfl rfl ?_
     refine Lp rfl (p_pick_f rfl rfl rfl rfl) ?_
     refine La rfl rfl rfl ?_
     refine L_keep (kp [3, 4, 5, 6] rfl) (blk_n (then_n ?_))
     refine ⟨_, ?_, (.cons rfl (.cons rfl (.cons rfl (.cons rfl (.nil _))))), (by (try dsimp only); repeat (first | exact HSub.nil _ | refine HSub.take (by repeat first | exact Take.head | apply Take.tail) ?_ | exact HSub.refl _ | refine HSub.drop ?_ | refine HSub.app ?_)), rfl⟩
     simp only [Bool.not_eq_true', oP_false, Bool.false_eq_true, false_iff, decide_eq_true_eq]; omega
    intro g22; have g22' := g22; try simp only [td] at g22'
    try simp only [oP_true, oP_false, Span.none, decide_eq_true_eq, decide_eq_false_iff_not] at g22'
    iterate 6 refine L_no rfl rfl rfl g22 ?_
    refine Lp rfl (p_pick_f rfl rfl g22 rfl) ?_
    refine Lm rfl rfl rfl ?_
    iterate 5 refine L_no rfl rfl rfl rfl ?_
    refine Lp rfl (p_pick_f rfl rfl rfl rfl) ?_
    refine Lm rfl rfl rfl ?_
    iterate 5 refine L_no rfl rfl rfl rfl ?_
    refine Lp rfl (p_pick_f rfl rfl rfl rfl) ?_
    refine La rfl rfl rfl ?_
    refine L_keep (kp [3, 4, 5, 6] rfl) (blk_n (then_n ?_))
    refine ⟨_, ?_, (.cons rfl (.cons rfl (.cons rfl (.cons rfl (.nil _))))), (by (try dsimp only); repeat (first | exact HSub.nil _ | refine HSub.take (by repeat first | exact Take.head | apply Take.tail) ?_ | exact HSub.refl _ | refine HSub.drop ?_ | refine HSub.app ?_)), rfl⟩
    simp only [Bool.not_eq_true', oP_false, Bool.false_eq_true, false_iff, decide_eq_true_eq]; omega
   intro g21; have g21' := g21; try simp only [td] at g21'
   try simp only [oP_true, oP_false, Span.none, decide_eq_true_eq, decide_eq_false_iff_not] at g21'
   iterate 6 refine L_no rfl rfl rfl g21 ?_
   refine Lp rfl (p_pick_f rfl rfl g21 rfl) ?_
   refine Lm rfl rfl rfl ?_
   iterate 6 refine L_no rfl rfl rfl rfl ?_
   refine Lp rfl (p_pick_f rfl rfl rfl rfl) ?_
   refine Lm rfl rfl rfl ?_
   iterate 5 refine L_no rfl rfl rfl rfl ?_
   refine Lp rfl (p_pick_f rfl rfl rfl rfl) ?_
   refine Lm rfl rfl rfl ?_
   iterate 5 refine L_no rfl rfl rfl rfl ?_
   refine Lp rfl (p_pick_f rfl rfl rfl rfl) ?_
   refine La rfl rfl rfl ?_
   refine L_keep (kp [3, 4, 5, 6] rfl) (blk_n (then_n ?_))
   refine ⟨_, ?_, (.cons rfl (.cons rfl (.cons rfl (.cons rfl (.nil _))))), (by (try dsimp only); repeat (first | exact HSub.nil _ | refine HSub.take (by repeat first | exact Take.head | apply Take.tail) ?_ | exact HSub.refl _ | refine HSub.drop ?_ | refine HSub.app ?_)), rfl⟩
   simp only [Bool.not_eq_true', oP_false, Bool.false_eq_true, false_iff, decide_eq_true_eq]; omega
  intro g20; have g20' := g20; try simp only [td] at g20'
  have hP20 : ¬ ((0 ≤ b.at_ ∧ b.at_ ≤ 100000) ∧ (-2000000000 ≤ b.x.lo ∧ b.x.lo ≤ b.x.hi ∧ b.x.hi ≤ 2000000000) ∧ (-1000000 ≤ b.vx.lo ∧ b.vx.lo ≤ b.vx.hi ∧ b.vx.hi ≤ 1000000) ∧ (-2000000000 ≤ b.y.lo ∧ b.y.lo ≤ b.y.hi ∧ b.y.hi ≤ 2000000000) ∧ (-1000000 ≤ b.vy.lo ∧ b.vy.lo ≤ b.vy.hi ∧ b.vy.hi ≤ 1000000) ∧ (-2000000000 ≤ b.z.lo ∧ b.z.lo ≤ b.z.hi ∧ b.z.hi ≤ 2000000000)) := fun h => by rw [h62.2 h] at g20; cases g20
  iterate 5 refine L_no rfl rfl rfl g20 ?_
  refine Lp rfl (p_pick_f rfl rfl g20 rfl) ?_
  refine Lm rfl rfl rfl ?_
  iterate 6 refine L_no rfl rfl rfl rfl ?_
  refine Lp rfl (p_pick_f rfl rfl rfl rfl) ?_
  refine Lm rfl rfl rfl ?_
  iterate 6 refine L_no rfl rfl rfl rfl ?_
  refine Lp rfl (p_pick_f rfl rfl rfl rfl) ?_
  refine Lm rfl rfl rfl ?_
  iterate 5 refine L_no rfl rfl rfl rfl ?_
  refine Lp rfl (p_pick_f rfl rfl rfl rfl) ?_
  refine Lm rfl rfl rfl ?_
  iterate 5 refine L_no rfl rfl rfl rfl ?_
  refine Lp rfl (p_pick_f rfl rfl rfl rfl) ?_
  refine La rfl rfl rfl ?_
  refine L_keep (kp [3, 4, 5, 6] rfl) (blk_n (then_n ?_))
  refine ⟨_, ?_, (.cons rfl (.cons rfl (.cons rfl (.cons rfl (.nil _))))), (by (try dsimp only); repeat (first | exact HSub.nil _ | refine HSub.take (by repeat first | exact Take.head | apply Take.tail) ?_ | exact HSub.refl _ | refine HSub.drop ?_ | refine HSub.app ?_)), rfl⟩
  simp only [Bool.not_eq_true', oP_false, Bool.false_eq_true, false_iff, decide_eq_true_eq]; omega
 rintro gg h72
 refine V_region rfl ?_
 refine Lm rfl rfl rfl ?_
 first | refine Lp rfl (p_add' rfl rfl rfl (by unfold InI; omega)) ?_ | refine Lp rfl (p_add rfl rfl rfl) ?_
 refine La rfl rfl rfl ?_
 refine L_keep (kp [3, 4, 5, 6] rfl) (then_n ?_)
 refine LU_step ?_
 refine V_seq ?_
 refine Vs rfl ?_
 refine Lm rfl rfl rfl ?_
 refine Lp rfl (p_lss rfl rfl rfl) ?_
 refine L_then (kp [3, 4, 5, 6, 25] rfl) ?_
 refine V_cond_f rfl rfl ?_
 refine V_exit (then_e (then_e (blk_e rfl (then_n ?_))))
 refine V_seq ?_
 refine Vs rfl ?_
 refine Lm rfl rfl rfl ?_
 refine Lp rfl (p_not rfl rfl) ?_
 refine L_then (kp [89] rfl) ?_
 refine V_cond rfl ?_ ?_
 ·intro c1; have c1r := c1; try simp only [td] at c1
  refine Vs rfl ?_
  refine La rfl rfl rfl ?_
  refine L_then (kp [2] rfl) ?_
  refine V_ret (then_r ?_)
  refine Leave.nil (.tmp rfl .nil) ?_
  show Value.int .i64 7 = _
  rw [boxE_7 (fun h => by rw [h72.2 (by unfold BoxOk okS at h; omega)] at c1; cases c1)]
 intro c1; have c1r := c1; try simp only [td] at c1
 refine V_skip (then_n ?_)
 refine Vs rfl ?_
 refine La rfl rfl rfl ?_
 refine L_then (kp [2] rfl) ?_
 refine V_ret ?_
 refine Leave.nil (.tmp rfl .nil) ?_
 show Value.int .i64 0 = _
 have hP := h72.1 c1
 rw [boxE_0 (by unfold BoxOk okS; omega)]
set_option maxHeartbeats 8000000 in
theorem rahead_c (t : Task) (v : Value) (w : World) (ht : TaskR w v t) (hG : GoodT t) (p0 v0 : Span) (n : Int) (hn : 0 ≤ n ∧ n ≤ 600) (hp0 : okS 2000000000 p0) (hv0 : okS 1000000 v0) : FnC Tryz.prog 106 [v, .agg #[.int .i64 p0.lo, .int .i64 p0.hi], .agg #[.int .i64 v0.lo, .int .i64 v0.hi], .int .i64 n] w fun u w' => ∃ Hc, Vc.Good w [] Hc w' ∧ (AheadV t n p0 v0 u ∧ Hc = []) := by
 have hT := ht
 obtain ⟨tv, pv, rfl, htr, hpl⟩ := ht.ex
 obtain ⟨ta, tc, rfl, htc, hte⟩ := htr.ex
 obtain ⟨pa, pc, rfl, hpc, hpe⟩ := hpl.ex
 have hltr := hT.ltr
 have hlpl := hT.lpl
 simp only [List.length_map] at hT htc hpc ⊢
 obtain ⟨_, hspd, hacc⟩ := hG.nums
 have hp0' := hp0
 unfold okS at hp0 hv0
 have hpn0 : p0.none = false := by simp only [Span.none, decide_eq_false_iff_not]; omega
 refine fn_new Tryz.func106 rfl (by kernel_rfl) Tryz.ntmps106 Tryz.results106 rfl ?_
 refine Vs rfl ?_
 refine Lw rfl (w_box rfl rfl) ?_
 rintro _ _ ⟨b1, hb1, rfl, rfl⟩
 refine Lw rfl (w_box rfl rfl) ?_
 rintro _ _ ⟨b2, hb2, rfl, rfl⟩
 refine Lw rfl (w_box rfl rfl) ?_
 rintro _ _ ⟨b3, hb3, rfl, rfl⟩
 refine Lw rfl (w_alloc zr24 rfl) ?_
 rintro _ _ ⟨b4, hb4, rfl, rfl⟩
 refine Lw rfl (w_alloc zr24 rfl) ?_
 rintro _ _ ⟨b5, hb5, rfl, rfl⟩
 refine La rfl rfl rfl ?_
 refine L_then (kp [3, 4, 5, 6, 8, 9] rfl) ?_
 refine Vs rfl ?_
 refine Lp rfl (p_fieldo fo39_1 rfl rfl) ?_
 refine Lr rfl (rl ag3 rfl rfl rfl) ?_
 refine Lc rfl rfl rfl rfl (fun w hg => raround_c _ _ (by omega) (by omega) w) ?_
 refine Lw rfl (w_alloc zr24 rfl) ?_
 rintro _ _ ⟨b6, hb6, rfl, rfl⟩
 refine Ls (cs' := [_, _]) rfl sz24 rfl rfl rfl rfl rfl rfl rfl ?_
 refine L_then (kp [3, 4, 5, 6, 8, 9, 11] rfl) ?_
 refine Vs rfl ?_
 iterate 2 refine Lr rfl (rlA (vs := [_, _]) ag24 sz24 rfl rfl rfl) ?_
 refine Lc rfl rfl rfl rfl (fun w hg => rcommon_c _ _ _ _ w) ?_
 refine Ls (cs' := [_, _]) rfl sz24 rfl rfl rfl rfl rfl rfl rfl ?_
 refine L_then (kp [3, 4, 5, 6, 8, 9, 11] rfl) ?_
 refine Vs rfl ?_
 refine Lr rfl (rlA (vs := [_, _]) ag24 sz24 rfl rfl rfl) ?_
 refine Lc rfl rfl rfl rfl (fun w hg => rnone_c _ _ w) ?_
 refine Lp rfl (p_not rfl rfl) ?_
 refine La rfl rfl rfl ?_
 refine L_then (kp [3, 4, 5, 6, 8, 9, 11, 12] rfl) ?_
 refine V_seq ?_
 refine Vs rfl ?_
 refine La rfl rfl rfl ?_
 refine L_then (kp [3, 4, 5, 6, 8, 9, 11, 12, 13] rfl) ?_
 refine V_block ?_
 refine V_loop1 (γ := Int × Span × Span × Bool) (kp [3, 4, 5, 6, 8, 9, 11] rfl) (fun (k, p, v, bis) => [(13, .int .i64 k), (12, .bool bis)]) (fun (k, p, v, bis) => [(b6, .cells #[.int .i64 (aroundS 0 t.speed).lo, .int .i64 (aroundS 0 t.speed).hi] 24), (b5, .cells #[.int .i64 0, .int .i64 0] 24), (b4, .cells #[.int .i64 0, .int .i64 0] 24), (b3, .cells #[.int .i64 v.lo, .int .i64 v.hi] 24), (b2, .cells #[.int .i64 p.lo, .int .i64 p.hi] 24), (b1, t.obj (.slice ta t.trackers.length tc) (.slice pa t.plots.length pc) 39)]) (fun (k, p, v, bis) => 0 ≤ k ∧ k ≤ n ∧ aheadS t n p0 v0 = aheadN t (n - k).toNat p v ∧ (bis = true ↔ p.none = false ∧ v.none = false) ∧ (bis = true → okS 2000000000 p ∧ SpanB 1000000 v)) (fun (k, p, v, bis) => (n - k).toNat) ((0, p0, common v0 (aroundS 0 t.speed), !((common v0 (aroundS 0 t.speed)).none))) (.cons rfl (.cons rfl (.nil _))) (by repeat (first | exact List.Sublist.refl _ | apply List.Sublist.cons_cons | apply List.Sublist.cons)) (⟨by omega, by omega, by rw [Int.sub_zero, room0_around]; rfl, by simp [hpn0], fun hh => ⟨hp0', by simp only [SpanB, common, aroundS]; omega⟩⟩) ?_
 rintro ⟨k, p, v, bis⟩ hi
 obtain ⟨hk0, hk1, hah, hrel, hbd⟩ := hi
 refine V_seq ?_
 refine Vs rfl ?_
 iterate 2 refine Lm rfl rfl rfl ?_
 refine Lp rfl (p_lss rfl rfl rfl) ?_
 refine Lm rfl rfl rfl ?_
 refine L_cases (d := 26) rfl ?_ ?_
 ·intro g1; have g1' := g1; try simp only [td] at g1'
  refine L_yes rfl rfl rfl g1 (X_p (p_move rfl rfl) ?_)
  refine Lp rfl (p_pick_t rfl rfl g1 rfl) ?_
  refine L_then (kp [3, 4, 5, 6, 8, 9, 11, 12, 13, 28] rfl) ?_
  refine V_cond rfl ?_ ?_
  ·intro c1; have c1r := c1; try simp only [td] at c1
   obtain ⟨hpn, hvn⟩ := hrel.1 c1
   obtain ⟨hpb, hvb⟩ := hbd c1
   unfold okS at hpb
   unfold SpanB at hvb
   refine V_skip (then_n ?_)
   refine V_seq ?_
   refine V_block ?_
   refine V_seq (V_draw (.rd 0 (.rd 1 (.rd 2 (.rd 3 (.rd 4 (.rd 5 (.rd 6 (.rd 7 (.rd 8 (.rd 9 (.rd 10 (.wr 11 [10, 9, 8, 7, 6, 5, 4, 3, 2, 1, 0] (.wr 12 [9, 8, 7, 6, 5, 4, 3, 2, 1, 0] (.wr 13 [] .done)))))))))))))) mixed (by kernel_rfl) rfl ?_)
   refine Dp rfl rfl (p_fieldo fo24_0 rfl rfl) ?_
   refine Dr rfl rfl (rl ag3 rfl rfl rfl) ?_
   refine Dp rfl rfl (p_fieldo fo24_0 rfl rfl) ?_
   refine Dr rfl rfl (rl ag3 rfl rfl rfl) ?_
   first | refine Dp rfl rfl (p_add' rfl rfl rfl (by unfold InI; omega)) ?_ | refine Dp rfl rfl (p_add rfl rfl rfl) ?_
   refine Dp rfl rfl (p_fieldo fo24_1 rfl rfl) ?_
   refine Dr rfl rfl (rl ag3 rfl rfl rfl) ?_
   refine Dp rfl rfl (p_fieldo fo24_1 rfl rfl) ?_
   refine Dr rfl rfl (rl ag3 rfl rfl rfl) ?_
   first | refine Dp rfl rfl (p_add' rfl rfl rfl (by unfold InI; omega)) ?_ | refine Dp rfl rfl (p_add rfl rfl rfl) ?_
   refine Dp rfl rfl (p_build (r := [_, _]) pl24 zr24 rfl rfl rfl) ?_
   refine D_wr (.go (E' := [(8, _), (6, _), (3, _), (1, _)]) rfl (.plain rfl) (w_callP rfl rfl rfl (fun w hg => raround_c _ _ (by omega) (by omega) w)) rfl ?_)
   rintro _ _ ⟨rfl, rfl⟩
   refine ⟨(.cons rfl (.plain rfl) (rl ag3 rfl rfl rfl) (.cons rfl (.plain rfl) (rl ag3 rfl rfl rfl) (.cons rfl (.plain rfl) (rl ag3 rfl rfl rfl) (.cons rfl (.plain rfl) (rl ag3 rfl rfl rfl) .nil)))), ?_⟩
   refine D_wr (.go (E' := [(8, _), (6, _), (3, _), (1, _)]) rfl (.plain rfl) (w_callP rfl rfl rfl (fun w hg => rcommon_c _ _ _ _ w)) rfl ?_)
   rintro _ _ ⟨rfl, rfl⟩
   refine ⟨(.cons rfl (.plain rfl) (rl ag3 rfl rfl rfl) (.cons rfl (.plain rfl) (rl ag3 rfl rfl rfl) (.cons rfl (.plain rfl) (rl ag3 rfl rfl rfl) (.cons rfl (.plain rfl) (rl ag3 rfl rfl rfl) .nil)))), ?_⟩
   refine D_wr (.go (E' := []) rfl (.plain rfl) (ws (cs' := [_, _]) sz24 rfl rfl rfl rfl rfl rfl rfl) rfl ?_)
   rintro _ _ ⟨rfl, rfl⟩
   refine ⟨.nil, ?_⟩
   refine D_then (kp [3, 4, 5, 6, 8, 9, 11, 13] rfl) ?_
   refine Vs rfl ?_
   refine Lp rfl (p_fieldo fo24_0 rfl rfl) ?_
   refine Lr rfl (rl ag3 rfl rfl rfl) ?_
   refine Lp rfl (p_fieldo fo39_2 rfl rfl) ?_
   refine Lr rfl (rl ag3 rfl rfl rfl) ?_
   first | refine Lp rfl (p_sub' rfl rfl rfl (by unfold InI; omega)) ?_ | refine Lp rfl (p_sub rfl rfl rfl) ?_
   refine Lp rfl (p_fieldo fo24_1 rfl rfl) ?_
   refine Lr rfl (rl ag3 rfl rfl rfl) ?_
   refine Lp rfl (p_fieldo fo39_2 rfl rfl) ?_
   refine Lr rfl (rl ag3 rfl rfl rfl) ?_
   first | refine Lp rfl (p_add' rfl rfl rfl (by unfold InI; omega)) ?_ | refine Lp rfl (p_add rfl rfl rfl) ?_
   refine Lp rfl (p_build (r := [_, _]) pl24 zr24 rfl rfl rfl) ?_
   refine Lr rfl (rlA (vs := [_, _]) ag24 sz24 rfl rfl rfl) ?_
   refine Lc rfl rfl rfl rfl (fun w hg => rcommon_c _ _ _ _ w) ?_
   refine Ls (cs' := [_, _]) rfl sz24 rfl rfl rfl rfl rfl rfl rfl ?_
   refine L_then (kp [3, 4, 5, 6, 8, 9, 11, 13] rfl) ?_
   refine V_region rfl ?_
   refine Lr rfl (rlA (vs := [_, _]) ag24 sz24 rfl rfl rfl) ?_
   refine Lc rfl rfl rfl rfl (fun w hg => rnone_c _ _ w) ?_
   refine Lp rfl (p_not rfl rfl) ?_
   refine Lm rfl rfl rfl ?_
   refine L_cases (d := 60) rfl ?_ ?_
   ·intro g2; have g2' := g2; try simp only [td] at g2'
    refine L_yes rfl rfl rfl g2 (X_rd (rlA (vs := [_, _]) ag24 sz24 rfl rfl rfl) ?_)
    refine L_yes rfl rfl rfl g2 (X_wr (w_callP rfl rfl rfl (fun w hg => rnone_c _ _ w)) ?_)
    rintro _ _ ⟨rfl, rfl⟩
    refine L_yes rfl rfl rfl g2 (X_p (p_not rfl rfl) ?_)
    refine Lp rfl (p_pick_t rfl rfl g2 rfl) ?_
    refine La rfl rfl rfl ?_
    refine L_keep (kp [3, 4, 5, 6, 8, 9, 11, 12, 13] rfl) (blk_n (then_n ?_))
    refine V_region rfl ?_
    refine Lm rfl rfl rfl ?_
    first | refine Lp rfl (p_add' rfl rfl rfl (by unfold InI; omega)) ?_ | refine Lp rfl (p_add rfl rfl rfl) ?_
    refine La rfl rfl rfl ?_
    refine L_keep (kp [3, 4, 5, 6, 8, 9, 11, 12, 13] rfl) (then_n ?_)
    refine ⟨(k + 1, (common ⟨p.lo + v.lo, p.hi + v.hi⟩ (aroundS 0 2000000000)), (common ⟨v.lo - t.accel, v.hi + t.accel⟩ (aroundS 0 t.speed)), !((common ⟨v.lo - t.accel, v.hi + t.accel⟩ (aroundS 0 t.speed)).none)), ?_, ?_, (.cons rfl (.cons rfl (.cons rfl (.cons rfl (.cons rfl (.cons rfl (.cons rfl (.cons rfl (.cons rfl (.nil _)))))))))), (by repeat (first | exact List.Sublist.refl _ | apply List.Sublist.cons_cons | apply List.Sublist.cons | apply List.sublist_append_of_sublist_right)), rfl⟩
    ·dsimp only
     have e1 : (common ⟨p.lo + v.lo, p.hi + v.hi⟩ (aroundS 0 2000000000)) = stepP p v := by rw [stepP, room0_around]
     have e2 : (common ⟨v.lo - t.accel, v.hi + t.accel⟩ (aroundS 0 t.speed)) = stepV t v := by rw [stepV, room0_around]
     have hg : (stepP p v).none = false := by rw [← e1]; exact g2'
     rw [e1, e2]
     have hr : ((!((stepV t v).none)) = true ↔ (stepP p v).none = false ∧ (stepV t v).none = false) := by simp [hg]
     refine ⟨by omega, by omega, hah.trans (aheadN_go ⟨hk0, by omega⟩ hpn hvn), hr, fun hh => ?_⟩
     obtain ⟨hp1, hv1⟩ := hr.1 hh
     have h5 := none_false hp1
     simp only [stepP, common, room0] at h5
     simp only [okS, SpanB, stepP, stepV, common, room0]; omega
    dsimp only; omega
   intro g2; have g2' := g2; try simp only [td] at g2'
   iterate 3 refine L_no rfl rfl rfl g2 ?_
   refine Lp rfl (p_pick_f rfl rfl g2 rfl) ?_
   refine La rfl rfl rfl ?_
   refine L_keep (kp [3, 4, 5, 6, 8, 9, 11, 12, 13] rfl) (blk_n (then_n ?_))
   refine V_region rfl ?_
   refine Lm rfl rfl rfl ?_
   first | refine Lp rfl (p_add' rfl rfl rfl (by unfold InI; omega)) ?_ | refine Lp rfl (p_add rfl rfl rfl) ?_
   refine La rfl rfl rfl ?_
   refine L_keep (kp [3, 4, 5, 6, 8, 9, 11, 12, 13] rfl) (then_n ?_)
   refine ⟨(k + 1, (common ⟨p.lo + v.lo, p.hi + v.hi⟩ (aroundS 0 2000000000)), (common ⟨v.lo - t.accel, v.hi + t.accel⟩ (aroundS 0 t.speed)), false), ?_, ?_, (.cons rfl (.cons rfl (.cons rfl (.cons rfl (.cons rfl (.cons rfl (.cons rfl (.cons rfl (.cons rfl (.nil _)))))))))), (by repeat (first | exact List.Sublist.refl _ | apply List.Sublist.cons_cons | apply List.Sublist.cons | apply List.sublist_append_of_sublist_right)), rfl⟩
   ·dsimp only
    have e1 : (common ⟨p.lo + v.lo, p.hi + v.hi⟩ (aroundS 0 2000000000)) = stepP p v := by rw [stepP, room0_around]
    have e2 : (common ⟨v.lo - t.accel, v.hi + t.accel⟩ (aroundS 0 t.speed)) = stepV t v := by rw [stepV, room0_around]
    have hg : (stepP p v).none = true := by rw [← e1]; exact g2'
    rw [e1, e2]
    have hr : (false = true ↔ (stepP p v).none = false ∧ (stepV t v).none = false) := by simp [hg]
    refine ⟨by omega, by omega, hah.trans (aheadN_go ⟨hk0, by omega⟩ hpn hvn), hr, fun hh => ?_⟩
    obtain ⟨hp1, hv1⟩ := hr.1 hh
    have h5 := none_false hp1
    simp only [stepP, common, room0] at h5
    simp only [okS, SpanB, stepP, stepV, common, room0]; omega
   dsimp only; omega
  intro c1; have c1r := c1; try simp only [td] at c1
  refine V_exit (then_e (then_e (blk_e rfl (then_n ?_))))
  refine V_seq (V_draw (.rd 0 (.rd 1 (.rd 2 (.wr 3 [2, 1] (.wr 4 [2] (.rd 5 .done)))))) mixed (by kernel_rfl) rfl ?_)
  iterate 2 refine Dr rfl rfl (rlA (vs := [_, _]) ag24 sz24 rfl rfl rfl) ?_
  refine Dm rfl rfl rfl rfl ?_
  refine D_wr (.go (E' := [(1, _)]) rfl (.plain rfl) (ws (cs' := [_, _]) sz24 rfl rfl rfl rfl rfl rfl rfl) rfl ?_)
  rintro _ _ ⟨rfl, rfl⟩
  refine ⟨(.cons rfl (.plain rfl) (rlA (vs := [_, _]) ag24 sz24 rfl rfl rfl) .nil), ?_⟩
  refine D_wr (.go (E' := []) rfl (.plain rfl) (ws (cs' := [_, _]) sz24 rfl rfl rfl rfl rfl rfl rfl) rfl ?_)
  rintro _ _ ⟨rfl, rfl⟩
  refine ⟨.nil, ?_⟩
  refine Dp rfl rfl (p_assign rfl rfl) ?_
  refine D_then (kp [8, 9, 10] rfl) ?_
  refine V_ret ?_
  refine Leave.nil (.cellA (us := [_, _]) rfl ag24 sz24 (by repeat first | exact mH | apply mT) rfl (.cellA (us := [_, _]) rfl ag24 sz24 (by repeat first | exact mH | apply mT) rfl (.tmp rfl .nil))) ?_
  exact ⟨[], HSub.nil _, ⟨p, v, bis, rfl, ahead_end hrel hah (.inl c1)⟩, rfl⟩
 intro g1; have g1' := g1; try simp only [td] at g1'
 refine L_no rfl rfl rfl g1 ?_
 refine Lp rfl (p_pick_f rfl rfl g1 rfl) ?_
 refine L_then (kp [3, 4, 5, 6, 8, 9, 11, 12, 13, 28] rfl) ?_
 refine V_cond_f rfl rfl ?_
 refine V_exit (then_e (then_e (blk_e rfl (then_n ?_))))
 refine V_seq (V_draw (.rd 0 (.rd 1 (.rd 2 (.wr 3 [2, 1] (.wr 4 [2] (.rd 5 .done)))))) mixed (by kernel_rfl) rfl ?_)
 iterate 2 refine Dr rfl rfl (rlA (vs := [_, _]) ag24 sz24 rfl rfl rfl) ?_
 refine Dm rfl rfl rfl rfl ?_
 refine D_wr (.go (E' := [(1, _)]) rfl (.plain rfl) (ws (cs' := [_, _]) sz24 rfl rfl rfl rfl rfl rfl rfl) rfl ?_)
 rintro _ _ ⟨rfl, rfl⟩
 refine ⟨(.cons rfl (.plain rfl) (rlA (vs := [_, _]) ag24 sz24 rfl rfl rfl) .nil), ?_⟩
 refine D_wr (.go (E' := []) rfl (.plain rfl) (ws (cs' := [_, _]) sz24 rfl rfl rfl rfl rfl rfl rfl) rfl ?_)
 rintro _ _ ⟨rfl, rfl⟩
 refine ⟨.nil, ?_⟩
 refine Dp rfl rfl (p_assign rfl rfl) ?_
 refine D_then (kp [8, 9, 10] rfl) ?_
 refine V_ret ?_
 refine Leave.nil (.cellA (us := [_, _]) rfl ag24 sz24 (by repeat first | exact mH | apply mT) rfl (.cellA (us := [_, _]) rfl ag24 sz24 (by repeat first | exact mH | apply mT) rfl (.tmp rfl .nil))) ?_
 exact ⟨[], HSub.nil _, ⟨p, v, bis, rfl, ahead_end hrel hah (.inr (by omega))⟩, rfl⟩
set_option maxHeartbeats 16000000 in
theorem rahead2_c (t : Task) (v : Value) (w : World) (ht : TaskR w v t) (b : Box) (hI : BoxI b) (n : Int) : FnP Tryz.prog 81 [v, .agg (Box.cells b).toArray, .int .i64 n] w (.tuple #[.agg (Box.cells (aheadP t b n).1).toArray, .int .i64 (aheadP t b n).2]) := by
 have hT := ht
 obtain ⟨tv, pv, rfl, htr, hpl⟩ := ht.ex
 obtain ⟨ta, tc, rfl, htc, hte⟩ := htr.ex
 obtain ⟨pa, pc, rfl, hpc, hpe⟩ := hpl.ex
 have hltr := hT.ltr
 have hlpl := hT.lpl
 simp only [List.length_map] at hT htc hpc ⊢
 refine fn_pure Tryz.func81 rfl (by kernel_rfl) Tryz.ntmps81 Tryz.results81 rfl ?_
 refine Vs rfl ?_
 refine Lw rfl (w_box rfl rfl) ?_
 rintro _ _ ⟨b1, hb1, rfl, rfl⟩
 refine Lw rfl (w_box rfl rfl) ?_
 rintro _ _ ⟨b2, hb2, rfl, rfl⟩
 refine Lw rfl (w_alloc zr28 rfl) ?_
 rintro _ _ ⟨b3, hb3, rfl, rfl⟩
 refine La rfl rfl rfl ?_
 refine L_then (kp [2, 3, 4, 6] rfl) ?_
 refine Vs rfl ?_
 refine Lr rfl (rlA (vs := [_, _, _, _, _]) ag39 sz39 rfl rfl rfl) ?_
 refine Lc rfl rfl rfl rfl (fun w hg => rvalid_c t _ w (hT.good hg)) ?_
 refine La rfl rfl rfl ?_
 refine L_then (kp [2, 3, 4, 6, 8] rfl) ?_
 refine V_seq ?_
 refine Vs rfl ?_
 refine Lm rfl rfl rfl ?_
 refine Lp rfl (p_eql rfl rfl rfl) ?_
 refine L_then (kp [2, 3, 4, 6, 8, 18] rfl) ?_
 refine V_cond rfl ?_ ?_
 ·intro c1; have c1r := c1; try simp only [td] at c1
  refine V_region rfl ?_
  refine Lr rfl (rlA (vs := [_, _, _, _, _, _, _, _, _, _, _, _, _]) ag28 sz28 rfl rfl rfl) ?_
  refine Lc rfl rfl rfl rfl (fun w hg => rcheckbox_c b hI w) ?_
  refine La rfl rfl rfl ?_
  refine L_then (kp [2, 3, 4, 6, 8] rfl) ?_
  refine V_seq ?_
  refine Vs rfl ?_
  refine Lm rfl rfl rfl ?_
  refine Lp rfl (p_eql rfl rfl rfl) ?_
  refine Lm rfl rfl rfl ?_
  refine L_cases (d := 23) rfl ?_ ?_
  ·intro g1; have g1' := g1; try simp only [td] at g1'
   have hbk := boxE_ok g1'
   have hb := hbk
   unfold BoxOk okS at hb
   have hG := good_of_check c1
   refine L_yes rfl rfl rfl g1 (X_p (p_move rfl rfl) ?_)
   refine L_yes rfl rfl rfl g1 (X_wr (w_callP rfl rfl rfl (fun w hg => rin_c _ _ _ w)) ?_)
   rintro _ _ ⟨rfl, rfl⟩
   refine L_yes rfl rfl rfl g1 (X_p (p_not rfl rfl) ?_)
   refine L_yes rfl rfl rfl g1 (X_p (p_move rfl rfl) ?_)
   refine L_cases (d := 27) rfl ?_ ?_
   ·intro g2; have g2' := g2; try simp only [td] at g2'
    iterate 6 refine L_no rfl rfl rfl g2 ?_
    refine L_yes rfl rfl rfl g1 (X_p (p_pick_t rfl rfl g2 rfl) ?_)
    refine Lp rfl (p_pick_t rfl rfl g1 rfl) ?_
    refine L_then (kp [2, 3, 4, 6, 8, 35] rfl) ?_
    refine V_cond_t rfl rfl ?_
    refine V_region rfl ?_
    refine La rfl rfl rfl ?_
    refine L_then (kp [2, 3, 4, 6, 8] rfl) ?_
    refine V_seq ?_
    refine Vs rfl ?_
    refine Lm rfl rfl rfl ?_
    refine Lp rfl (p_neq rfl rfl rfl) ?_
    refine L_then (kp [2, 3, 4, 6, 8, 37] rfl) ?_
    refine V_cond_t rfl rfl ?_
    refine Vs rfl ?_
    refine Lp rfl (p_build (r := [_, _, _, _, _, _, _, _, _, _, _, _, _]) pl28 zr28 rfl rfl rfl) ?_
    refine Lm rfl rfl rfl ?_
    refine Ls (cs' := [_, _, _, _, _, _, _, _, _, _, _, _, _]) rfl sz28 rfl rfl rfl rfl rfl rfl rfl ?_
    refine La rfl rfl rfl ?_
    refine L_then (kp [6, 7] rfl) ?_
    refine V_ret (then_r ?_)
    refine Leave.nil (.cellA (us := [_, _, _, _, _, _, _, _, _, _, _, _, _]) rfl ag28 sz28 (by repeat first | exact mH | apply mT) rfl (.tmp rfl .nil)) ?_
    rw [aheadP_bad (aheadE_3 (asked_ok c1 rfl) hbk (.inl g2')) (by decide)]; rfl
   intro g2; have g2' := g2; try simp only [td] at g2'
   have hn := oP_in g2'
   refine L_yes rfl rfl rfl g2 (X_p (p_fieldo fo28_0 rfl rfl) ?_)
   refine L_yes rfl rfl rfl g2 (X_rd (rl ag3 rfl rfl rfl) ?_)
   refine L_yes rfl rfl rfl g2 (X_p (p_move rfl rfl) ?_)
   first | refine L_yes rfl rfl rfl g2 (X_p (p_add' rfl rfl rfl (by unfold InI; omega)) ?_) | refine L_yes rfl rfl rfl g2 (X_p (p_add rfl rfl rfl) ?_)
   refine L_yes rfl rfl rfl g2 (X_wr (w_callP rfl rfl rfl (fun w hg => rtick_c _ w)) ?_)
   rintro _ _ ⟨rfl, rfl⟩
   refine L_yes rfl rfl rfl g2 (X_p (p_not rfl rfl) ?_)
   refine L_yes rfl rfl rfl g1 (X_p (p_pick_f rfl rfl g2 rfl) ?_)
   refine Lp rfl (p_pick_t rfl rfl g1 rfl) ?_
   refine L_then (kp [2, 3, 4, 6, 8, 35] rfl) ?_
   refine V_cond rfl ?_ ?_
   ·intro c2; have c2r := c2; try simp only [td] at c2
    refine V_region rfl ?_
    refine La rfl rfl rfl ?_
    refine L_then (kp [2, 3, 4, 6, 8] rfl) ?_
    refine V_seq ?_
    refine Vs rfl ?_
    refine Lm rfl rfl rfl ?_
    refine Lp rfl (p_neq rfl rfl rfl) ?_
    refine L_then (kp [2, 3, 4, 6, 8, 37] rfl) ?_
    refine V_cond_t rfl rfl ?_
    refine Vs rfl ?_
    refine Lp rfl (p_build (r := [_, _, _, _, _, _, _, _, _, _, _, _, _]) pl28 zr28 rfl rfl rfl) ?_
    refine Lm rfl rfl rfl ?_
    refine Ls (cs' := [_, _, _, _, _, _, _, _, _, _, _, _, _]) rfl sz28 rfl rfl rfl rfl rfl rfl rfl ?_
    refine La rfl rfl rfl ?_
    refine L_then (kp [6, 7] rfl) ?_
    refine V_ret (then_r ?_)
    refine Leave.nil (.cellA (us := [_, _, _, _, _, _, _, _, _, _, _, _, _]) rfl ag28 sz28 (by repeat first | exact mH | apply mT) rfl (.tmp rfl .nil)) ?_
    rw [aheadP_bad (aheadE_3 (asked_ok c1 rfl) hbk (.inr c2)) (by decide)]; rfl
   intro c2; have c2r := c2; try simp only [td] at c2
   have he := aheadE_4 (asked_ok c1 rfl) hbk g2' c2
   refine V_skip (then_n ?_)
   refine V_seq ?_
   refine Vs rfl ?_
   refine Lm rfl rfl rfl ?_
   refine Lp rfl (p_neq rfl rfl rfl) ?_
   refine L_then (kp [2, 3, 4, 6, 8, 37] rfl) ?_
   refine V_cond_f rfl (by simp [g1']) ?_
   refine V_skip (then_n ?_)
   refine V_mid (γ := Nat × Nat) (kp [2, 3, 4, 6] rfl) (fun (x9, x10) => [(9, .pointer (some ⟨x9, 0, none⟩)), (10, .pointer (some ⟨x10, 0, none⟩))]) (fun (x9, x10) => (x9, .cells #[.int .i64 b.x.lo, .int .i64 b.x.hi, .int .i64 b.y.lo, .int .i64 b.y.hi, .int .i64 b.z.lo, .int .i64 b.z.hi] 108) :: (x10, .cells #[.int .i64 b.vx.lo, .int .i64 b.vx.hi, .int .i64 b.vy.lo, .int .i64 b.vy.hi, .int .i64 b.vz.lo, .int .i64 b.vz.hi] 108) :: (b3, .cells (Box.cells boxZ).toArray 28) :: (b2, .cells (Box.cells b).toArray 28) :: (b1, t.obj (.slice ta t.trackers.length tc) (.slice pa t.plots.length pc) 39) :: []) (fun (x9, x10) => True) ?_ ?_
   ·refine V_draw (.rd 0 (.rd 1 (.rd 2 (.rd 3 (.rd 4 (.rd 5 (.rd 6 (.rd 7 (.rd 8 (.rd 9 (.rd 10 (.rd 11 (.rd 12 (.rd 13 (.wr2 14 [13, 12, 11, 10, 9, 8, 7, 6, 5, 4, 3, 2, 1, 0] (.wr 15 [13, 12, 11, 10, 9, 8, 7, 6, 5, 4, 3, 2, 1, 0] (.wr 16 [13, 12, 11, 10, 9, 8, 7] (.wr 17 [] .done))) 15 [13, 12, 11, 10, 9, 8, 7, 6, 5, 4, 3, 2, 1, 0] (.wr 14 [13, 12, 11, 10, 9, 8, 7, 6, 5, 4, 3, 2, 1, 0] (.wr 16 [13, 12, 11, 10, 9, 8, 7] (.wr 17 [] .done)))))))))))))))))) mixed (by kernel_rfl) rfl ?_
    refine Dp rfl rfl (p_fieldo fo28_1 rfl rfl) ?_
    refine Dr rfl rfl (rlA (vs := [_, _]) ag24 sz24 rfl rfl rfl) ?_
    refine Dp rfl rfl (p_fieldo fo28_2 rfl rfl) ?_
    refine Dr rfl rfl (rlA (vs := [_, _]) ag24 sz24 rfl rfl rfl) ?_
    refine Dp rfl rfl (p_fieldo fo28_3 rfl rfl) ?_
    refine Dr rfl rfl (rlA (vs := [_, _]) ag24 sz24 rfl rfl rfl) ?_
    refine Dp rfl rfl (p_buildA (r := [_, _, _, _, _, _]) ar108 zr108 rfl rfl rfl) ?_
    refine Dp rfl rfl (p_fieldo fo28_4 rfl rfl) ?_
    refine Dr rfl rfl (rlA (vs := [_, _]) ag24 sz24 rfl rfl rfl) ?_
    refine Dp rfl rfl (p_fieldo fo28_5 rfl rfl) ?_
    refine Dr rfl rfl (rlA (vs := [_, _]) ag24 sz24 rfl rfl rfl) ?_
    refine Dp rfl rfl (p_fieldo fo28_6 rfl rfl) ?_
    refine Dr rfl rfl (rlA (vs := [_, _]) ag24 sz24 rfl rfl rfl) ?_
    refine Dp rfl rfl (p_buildA (r := [_, _, _, _, _, _]) ar108 zr108 rfl rfl rfl) ?_
    refine D_wr2 rfl ?_ ?_
    ·refine (.go (E' := [(12, _), (10, _), (8, _), (5, _), (3, _), (1, _)]) rfl (.plain rfl) (w_alloc zr108 rfl) rfl ?_)
     rintro _ _ ⟨b4, hb4, rfl, rfl⟩
     refine ⟨(.cons rfl (.plain rfl) (rlA (vs := [_, _]) ag24 sz24 rfl rfl rfl) (.cons rfl (.plain rfl) (rlA (vs := [_, _]) ag24 sz24 rfl rfl rfl) (.cons rfl (.plain rfl) (rlA (vs := [_, _]) ag24 sz24 rfl rfl rfl) (.cons rfl (.plain rfl) (rlA (vs := [_, _]) ag24 sz24 rfl rfl rfl) (.cons rfl (.plain rfl) (rlA (vs := [_, _]) ag24 sz24 rfl rfl rfl) (.cons rfl (.plain rfl) (rlA (vs := [_, _]) ag24 sz24 rfl rfl rfl) .nil)))))), ?_⟩
     refine D_wr (.go (E' := [(12, _), (10, _), (8, _), (5, _), (3, _), (1, _)]) rfl (.plain rfl) (w_alloc zr108 rfl) rfl ?_)
     rintro _ _ ⟨b5, hb5, rfl, rfl⟩
     refine ⟨(.cons rfl (.plain rfl) (rlA (vs := [_, _]) ag24 sz24 rfl rfl rfl) (.cons rfl (.plain rfl) (rlA (vs := [_, _]) ag24 sz24 rfl rfl rfl) (.cons rfl (.plain rfl) (rlA (vs := [_, _]) ag24 sz24 rfl rfl rfl) (.cons rfl (.plain rfl) (rlA (vs := [_, _]) ag24 sz24 rfl rfl rfl) (.cons rfl (.plain rfl) (rlA (vs := [_, _]) ag24 sz24 rfl rfl rfl) (.cons rfl (.plain rfl) (rlA (vs := [_, _]) ag24 sz24 rfl rfl rfl) .nil)))))), ?_⟩
     refine D_wr (.go (E' := [(12, _), (10, _), (8, _)]) rfl (.plain rfl) (ws (cs' := [_, _, _, _, _, _]) sz108 rfl rfl rfl rfl rfl rfl rfl) rfl ?_)
     rintro _ _ ⟨rfl, rfl⟩
     refine ⟨(.cons rfl (.plain rfl) (rlA (vs := [_, _]) ag24 sz24 rfl rfl rfl) (.cons rfl (.plain rfl) (rlA (vs := [_, _]) ag24 sz24 rfl rfl rfl) (.cons rfl (.plain rfl) (rlA (vs := [_, _]) ag24 sz24 rfl rfl rfl) .nil))), ?_⟩
     refine D_wr (.go (E' := []) rfl (.plain rfl) (ws (cs' := [_, _, _, _, _, _]) sz108 rfl rfl rfl rfl rfl rfl rfl) rfl ?_)
     rintro _ _ ⟨rfl, rfl⟩
     refine ⟨.nil, ?_⟩
     refine D_then (kp [2, 3, 4, 6, 9, 10] rfl) ?_
     refine ⟨(b4, b5), trivial, (.cons rfl (.cons rfl (.cons rfl (.cons rfl (.cons rfl (.cons rfl (.nil _))))))), (by (try dsimp only); repeat (first | exact HSub.nil _ | refine HSub.take (by repeat first | exact Take.head | apply Take.tail) ?_ | exact HSub.refl _ | refine HSub.drop ?_ | refine HSub.app ?_)), rfl⟩
    refine (.go (E' := [(12, _), (10, _), (8, _), (5, _), (3, _), (1, _)]) rfl (.plain rfl) (w_alloc zr108 rfl) rfl ?_)
    rintro _ _ ⟨b4, hb4, rfl, rfl⟩
    refine ⟨(.cons rfl (.plain rfl) (rlA (vs := [_, _]) ag24 sz24 rfl rfl rfl) (.cons rfl (.plain rfl) (rlA (vs := [_, _]) ag24 sz24 rfl rfl rfl) (.cons rfl (.plain rfl) (rlA (vs := [_, _]) ag24 sz24 rfl rfl rfl) (.cons rfl (.plain rfl) (rlA (vs := [_, _]) ag24 sz24 rfl rfl rfl) (.cons rfl (.plain rfl) (rlA (vs := [_, _]) ag24 sz24 rfl rfl rfl) (.cons rfl (.plain rfl) (rlA (vs := [_, _]) ag24 sz24 rfl rfl rfl) .nil)))))), ?_⟩
    refine D_wr (.go (E' := [(12, _), (10, _), (8, _), (5, _), (3, _), (1, _)]) rfl (.plain rfl) (w_alloc zr108 rfl) rfl ?_)
    rintro _ _ ⟨b5, hb5, rfl, rfl⟩
    refine ⟨(.cons rfl (.plain rfl) (rlA (vs := [_, _]) ag24 sz24 rfl rfl rfl) (.cons rfl (.plain rfl) (rlA (vs := [_, _]) ag24 sz24 rfl rfl rfl) (.cons rfl (.plain rfl) (rlA (vs := [_, _]) ag24 sz24 rfl rfl rfl) (.cons rfl (.plain rfl) (rlA (vs := [_, _]) ag24 sz24 rfl rfl rfl) (.cons rfl (.plain rfl) (rlA (vs := [_, _]) ag24 sz24 rfl rfl rfl) (.cons rfl (.plain rfl) (rlA (vs := [_, _]) ag24 sz24 rfl rfl rfl) .nil)))))), ?_⟩
    refine D_wr (.go (E' := [(12, _), (10, _), (8, _)]) rfl (.plain rfl) (ws (cs' := [_, _, _, _, _, _]) sz108 rfl rfl rfl rfl rfl rfl rfl) rfl ?_)
    rintro _ _ ⟨rfl, rfl⟩
    refine ⟨(.cons rfl (.plain rfl) (rlA (vs := [_, _]) ag24 sz24 rfl rfl rfl) (.cons rfl (.plain rfl) (rlA (vs := [_, _]) ag24 sz24 rfl rfl rfl) (.cons rfl (.plain rfl) (rlA (vs := [_, _]) ag24 sz24 rfl rfl rfl) .nil))), ?_⟩
    refine D_wr (.go (E' := []) rfl (.plain rfl) (ws (cs' := [_, _, _, _, _, _]) sz108 rfl rfl rfl rfl rfl rfl rfl) rfl ?_)
    rintro _ _ ⟨rfl, rfl⟩
    refine ⟨.nil, ?_⟩
    refine D_then (kp [2, 3, 4, 6, 9, 10] rfl) ?_
    refine ⟨(b5, b4), trivial, (.cons rfl (.cons rfl (.cons rfl (.cons rfl (.cons rfl (.cons rfl (.nil _))))))), (by (try dsimp only); repeat (first | exact HSub.nil _ | refine HSub.take (by repeat first | exact Take.head | apply Take.tail) ?_ | exact HSub.refl _ | refine HSub.drop ?_ | refine HSub.app ?_)), rfl⟩
   rintro ⟨x9, x10⟩ _
   refine V_seq ?_
   refine Vs rfl ?_
   refine La rfl rfl rfl ?_
   refine L_then (kp [2, 3, 4, 6, 9, 10, 11] rfl) ?_
   refine V_block ?_
   refine V_loopU ?_
   refine LU_step ?_
   refine V_seq ?_
   refine Vs rfl ?_
   refine Lm rfl rfl rfl ?_
   refine Lp rfl (p_lss rfl rfl rfl) ?_
   refine L_then (kp [2, 3, 4, 6, 9, 10, 11, 55] rfl) ?_
   refine V_cond_t rfl rfl ?_
   refine V_skip (then_n ?_)
   refine V_seq ?_
   refine V_block ?_
   refine V_mid (γ := Nat × Nat × Span × Span × Bool) (kp [2, 3, 4, 6, 9, 10, 11] rfl) (fun (x12, x13, q0, r0, ok0) => [(12, .pointer (some ⟨x12, 0, none⟩)), (13, .pointer (some ⟨x13, 0, none⟩)), (14, .bool ok0)]) (fun (x12, x13, q0, r0, ok0) => (x12, .cells #[.int .i64 q0.lo, .int .i64 q0.hi] 24) :: (x13, .cells #[.int .i64 r0.lo, .int .i64 r0.hi] 24) :: (x9, .cells #[.int .i64 b.x.lo, .int .i64 b.x.hi, .int .i64 b.y.lo, .int .i64 b.y.hi, .int .i64 b.z.lo, .int .i64 b.z.hi] 108) :: (x10, .cells #[.int .i64 b.vx.lo, .int .i64 b.vx.hi, .int .i64 b.vy.lo, .int .i64 b.vy.hi, .int .i64 b.vz.lo, .int .i64 b.vz.hi] 108) :: (b3, .cells (Box.cells boxZ).toArray 28) :: (b2, .cells (Box.cells b).toArray 28) :: (b1, t.obj (.slice ta t.trackers.length tc) (.slice pa t.plots.length pc) 39) :: []) (fun (x12, x13, q0, r0, ok0) => ((ok0 = true ∧ aheadS t n b.x b.vx = some (q0, r0)) ∨ (ok0 = false ∧ aheadS t n b.x b.vx = none))) ?_ ?_
   ·refine V_draw (.rd 0 (.rd 1 (.rd 2 (.rd 3 (.rd 4 (.rd 5 (.rd 6 (.rd 7 (.wr3 8 [5, 4, 2, 1] (.rd 9 (.rd 10 (.rd 11 (.rd 12 (.wr2 13 [12, 11, 10, 9, 7, 6, 5, 4, 3, 2, 1, 0] (.wr 14 [12, 11, 10, 9, 7, 6, 5, 4, 3, 2, 1, 0] (.wr 15 [12, 11] (.wr 16 [12] (.rd 17 .done)))) 14 [12, 11, 10, 9, 7, 6, 5, 4, 3, 2, 1, 0] (.wr 13 [12, 11, 10, 9, 7, 6, 5, 4, 3, 2, 1, 0] (.wr 15 [12, 11] (.wr 16 [12] (.rd 17 .done))))))))) 13 [7, 6, 5, 4, 3, 2, 1, 0] (.wr2 8 [5, 4, 2, 1] (.rd 9 (.rd 10 (.rd 11 (.rd 12 (.wr 14 [12, 11, 10, 9, 7, 6, 5, 4, 3, 2, 1, 0] (.wr 15 [12, 11] (.wr 16 [12] (.rd 17 .done)))))))) 14 [7, 6, 5, 4, 3, 2, 1, 0] (.wr 8 [5, 4, 2, 1] (.rd 9 (.rd 10 (.rd 11 (.rd 12 (.wr 15 [12, 11] (.wr 16 [12] (.rd 17 .done))))))))) 14 [7, 6, 5, 4, 3, 2, 1, 0] (.wr2 8 [5, 4, 2, 1] (.rd 9 (.rd 10 (.rd 11 (.rd 12 (.wr 13 [12, 11, 10, 9, 7, 6, 5, 4, 3, 2, 1, 0] (.wr 15 [12, 11] (.wr 16 [12] (.rd 17 .done)))))))) 13 [7, 6, 5, 4, 3, 2, 1, 0] (.wr 8 [5, 4, 2, 1] (.rd 9 (.rd 10 (.rd 11 (.rd 12 (.wr 15 [12, 11] (.wr 16 [12] (.rd 17 .done)))))))))))))))))) mixed (by kernel_rfl) rfl ?_
    refine Dr rfl rfl (rlA (vs := [_, _, _, _, _]) ag39 sz39 rfl rfl rfl) ?_
    refine Dm rfl rfl rfl rfl ?_
    refine Dp rfl rfl (p_idxao ar108 rfl rfl rfl (by omega) (by omega)) ?_
    refine Dr rfl rfl (rlA (vs := [_, _]) ag24 sz24 rfl rfl rfl) ?_
    refine Dm rfl rfl rfl rfl ?_
    refine Dp rfl rfl (p_idxao ar108 rfl rfl rfl (by omega) (by omega)) ?_
    refine Dr rfl rfl (rlA (vs := [_, _]) ag24 sz24 rfl rfl rfl) ?_
    refine Dm rfl rfl rfl rfl ?_
    refine D_wr3 rfl rfl rfl ?_ ?_ ?_
    ·refine (.go (E' := []) rfl (.plain rfl) (w_callN rfl rfl rfl (fun w hg => rahead_c t _ w (hT.good hg) hG b.x b.vx n hn hbk.2.1 hbk.2.2.2.2.1)) rfl ?_)
     rintro _ _ ⟨_, rfl, _, ⟨q, r, ok, rfl, hok⟩, rfl⟩
     try simp only [List.nil_append]
     refine ⟨.nil, ?_⟩
     refine Dm rfl rfl rfl rfl ?_
     iterate 3 refine Dp rfl rfl (p_ext rfl rfl rfl) ?_
     refine D_wr2 rfl ?_ ?_
     ·refine (.go (E' := []) rfl (.plain rfl) (w_alloc zr24 rfl) rfl ?_)
      rintro _ _ ⟨b5, hb5, rfl, rfl⟩
      refine ⟨.nil, ?_⟩
      refine D_wr (.go (E' := []) rfl (.plain rfl) (w_alloc zr24 rfl) rfl ?_)
      rintro _ _ ⟨b6, hb6, rfl, rfl⟩
      refine ⟨.nil, ?_⟩
      refine D_wr (.go (E' := []) rfl (.plain rfl) (ws (cs' := [_, _]) sz24 rfl rfl rfl rfl rfl rfl rfl) rfl ?_)
      rintro _ _ ⟨rfl, rfl⟩
      refine ⟨.nil, ?_⟩
      refine D_wr (.go (E' := []) rfl (.plain rfl) (ws (cs' := [_, _]) sz24 rfl rfl rfl rfl rfl rfl rfl) rfl ?_)
      rintro _ _ ⟨rfl, rfl⟩
      refine ⟨.nil, ?_⟩
      refine Dp rfl rfl (p_assign rfl rfl) ?_
      refine D_then (kp [2, 3, 4, 6, 9, 10, 11, 12, 13, 14] rfl) ?_
      refine ⟨(b5, b6, q, r, ok), hok, (.cons rfl (.cons rfl (.cons rfl (.cons rfl (.cons rfl (.cons rfl (.cons rfl (.cons rfl (.cons rfl (.cons rfl (.nil _))))))))))), (by (try dsimp only); repeat (first | exact HSub.nil _ | refine HSub.take (by repeat first | exact Take.head | apply Take.tail) ?_ | exact HSub.refl _ | refine HSub.drop ?_ | refine HSub.app ?_)), rfl⟩
     refine (.go (E' := []) rfl (.plain rfl) (w_alloc zr24 rfl) rfl ?_)
     rintro _ _ ⟨b5, hb5, rfl, rfl⟩
     refine ⟨.nil, ?_⟩
     refine D_wr (.go (E' := []) rfl (.plain rfl) (w_alloc zr24 rfl) rfl ?_)
     rintro _ _ ⟨b6, hb6, rfl, rfl⟩
     refine ⟨.nil, ?_⟩
     refine D_wr (.go (E' := []) rfl (.plain rfl) (ws (cs' := [_, _]) sz24 rfl rfl rfl rfl rfl rfl rfl) rfl ?_)
     rintro _ _ ⟨rfl, rfl⟩
     refine ⟨.nil, ?_⟩
     refine D_wr (.go (E' := []) rfl (.plain rfl) (ws (cs' := [_, _]) sz24 rfl rfl rfl rfl rfl rfl rfl) rfl ?_)
     rintro _ _ ⟨rfl, rfl⟩
     refine ⟨.nil, ?_⟩
     refine Dp rfl rfl (p_assign rfl rfl) ?_
     refine D_then (kp [2, 3, 4, 6, 9, 10, 11, 12, 13, 14] rfl) ?_
     refine ⟨(b6, b5, q, r, ok), hok, (.cons rfl (.cons rfl (.cons rfl (.cons rfl (.cons rfl (.cons rfl (.cons rfl (.cons rfl (.cons rfl (.cons rfl (.nil _))))))))))), (by (try dsimp only); repeat (first | exact HSub.nil _ | refine HSub.take (by repeat first | exact Take.head | apply Take.tail) ?_ | exact HSub.refl _ | refine HSub.drop ?_ | refine HSub.app ?_)), rfl⟩
    ·refine (.go (E' := [(6, _), (3, _), (0, _)]) rfl (.plain rfl) (w_alloc zr24 rfl) rfl ?_)
     rintro _ _ ⟨b4, hb4, rfl, rfl⟩
     refine ⟨(.cons rfl (.plain rfl) (rlA (vs := [_, _]) ag24 sz24 rfl rfl rfl) (.cons rfl (.plain rfl) (rlA (vs := [_, _]) ag24 sz24 rfl rfl rfl) (.cons rfl (.plain rfl) (rlA (vs := [_, _, _, _, _]) ag39 sz39 rfl rfl rfl) .nil))), ?_⟩
     refine D_wr2 rfl ?_ ?_
     ·refine (.go (E' := []) rfl (.plain rfl) (w_callN rfl rfl rfl (fun w hg => rahead_c t _ w (hT.good hg) hG b.x b.vx n hn hbk.2.1 hbk.2.2.2.2.1)) rfl ?_)
      rintro _ _ ⟨_, rfl, _, ⟨q, r, ok, rfl, hok⟩, rfl⟩
      try simp only [List.nil_append]
      refine ⟨.nil, ?_⟩
      refine Dm rfl rfl rfl rfl ?_
      iterate 3 refine Dp rfl rfl (p_ext rfl rfl rfl) ?_
      refine D_wr (.go (E' := []) rfl (.plain rfl) (w_alloc zr24 rfl) rfl ?_)
      rintro _ _ ⟨b6, hb6, rfl, rfl⟩
      refine ⟨.nil, ?_⟩
      refine D_wr (.go (E' := []) rfl (.plain rfl) (ws (cs' := [_, _]) sz24 rfl rfl rfl rfl rfl rfl rfl) rfl ?_)
      rintro _ _ ⟨rfl, rfl⟩
      refine ⟨.nil, ?_⟩
      refine D_wr (.go (E' := []) rfl (.plain rfl) (ws (cs' := [_, _]) sz24 rfl rfl rfl rfl rfl rfl rfl) rfl ?_)
      rintro _ _ ⟨rfl, rfl⟩
      refine ⟨.nil, ?_⟩
      refine Dp rfl rfl (p_assign rfl rfl) ?_
      refine D_then (kp [2, 3, 4, 6, 9, 10, 11, 12, 13, 14] rfl) ?_
      refine ⟨(b4, b6, q, r, ok), hok, (.cons rfl (.cons rfl (.cons rfl (.cons rfl (.cons rfl (.cons rfl (.cons rfl (.cons rfl (.cons rfl (.cons rfl (.nil _))))))))))), (by (try dsimp only); repeat (first | exact HSub.nil _ | refine HSub.take (by repeat first | exact Take.head | apply Take.tail) ?_ | exact HSub.refl _ | refine HSub.drop ?_ | refine HSub.app ?_)), rfl⟩
     refine (.go (E' := [(6, _), (3, _), (0, _)]) rfl (.plain rfl) (w_alloc zr24 rfl) rfl ?_)
     rintro _ _ ⟨b5, hb5, rfl, rfl⟩
     refine ⟨(.cons rfl (.plain rfl) (rlA (vs := [_, _]) ag24 sz24 rfl rfl rfl) (.cons rfl (.plain rfl) (rlA (vs := [_, _]) ag24 sz24 rfl rfl rfl) (.cons rfl (.plain rfl) (rlA (vs := [_, _, _, _, _]) ag39 sz39 rfl rfl rfl) .nil))), ?_⟩
     refine D_wr (.go (E' := []) rfl (.plain rfl) (w_callN rfl rfl rfl (fun w hg => rahead_c t _ w (hT.good hg) hG b.x b.vx n hn hbk.2.1 hbk.2.2.2.2.1)) rfl ?_)
     rintro _ _ ⟨_, rfl, _, ⟨q, r, ok, rfl, hok⟩, rfl⟩
     try simp only [List.nil_append]
     refine ⟨.nil, ?_⟩
     refine Dm rfl rfl rfl rfl ?_
     iterate 3 refine Dp rfl rfl (p_ext rfl rfl rfl) ?_
     refine D_wr (.go (E' := []) rfl (.plain rfl) (ws (cs' := [_, _]) sz24 rfl rfl rfl rfl rfl rfl rfl) rfl ?_)
     rintro _ _ ⟨rfl, rfl⟩
     refine ⟨.nil, ?_⟩
     refine D_wr (.go (E' := []) rfl (.plain rfl) (ws (cs' := [_, _]) sz24 rfl rfl rfl rfl rfl rfl rfl) rfl ?_)
     rintro _ _ ⟨rfl, rfl⟩
     refine ⟨.nil, ?_⟩
     refine Dp rfl rfl (p_assign rfl rfl) ?_
     refine D_then (kp [2, 3, 4, 6, 9, 10, 11, 12, 13, 14] rfl) ?_
     refine ⟨(b4, b5, q, r, ok), hok, (.cons rfl (.cons rfl (.cons rfl (.cons rfl (.cons rfl (.cons rfl (.cons rfl (.cons rfl (.cons rfl (.cons rfl (.nil _))))))))))), (by (try dsimp only); repeat (first | exact HSub.nil _ | refine HSub.take (by repeat first | exact Take.head | apply Take.tail) ?_ | exact HSub.refl _ | refine HSub.drop ?_ | refine HSub.app ?_)), rfl⟩
    refine (.go (E' := [(6, _), (3, _), (0, _)]) rfl (.plain rfl) (w_alloc zr24 rfl) rfl ?_)
    rintro _ _ ⟨b4, hb4, rfl, rfl⟩
    refine ⟨(.cons rfl (.plain rfl) (rlA (vs := [_, _]) ag24 sz24 rfl rfl rfl) (.cons rfl (.plain rfl) (rlA (vs := [_, _]) ag24 sz24 rfl rfl rfl) (.cons rfl (.plain rfl) (rlA (vs := [_, _, _, _, _]) ag39 sz39 rfl rfl rfl) .nil))), ?_⟩
    refine D_wr2 rfl ?_ ?_
    ·refine (.go (E' := []) rfl (.plain rfl) (w_callN rfl rfl rfl (fun w hg => rahead_c t _ w (hT.good hg) hG b.x b.vx n hn hbk.2.1 hbk.2.2.2.2.1)) rfl ?_)
     rintro _ _ ⟨_, rfl, _, ⟨q, r, ok, rfl, hok⟩, rfl⟩
     try simp only [List.nil_append]
     refine ⟨.nil, ?_⟩
     refine Dm rfl rfl rfl rfl ?_
     iterate 3 refine Dp rfl rfl (p_ext rfl rfl rfl) ?_
     refine D_wr (.go (E' := []) rfl (.plain rfl) (w_alloc zr24 rfl) rfl ?_)
     rintro _ _ ⟨b6, hb6, rfl, rfl⟩
     refine ⟨.nil, ?_⟩
     refine D_wr (.go (E' := []) rfl (.plain rfl) (ws (cs' := [_, _]) sz24 rfl rfl rfl rfl rfl rfl rfl) rfl ?_)
     rintro _ _ ⟨rfl, rfl⟩
     refine ⟨.nil, ?_⟩
     refine D_wr (.go (E' := []) rfl (.plain rfl) (ws (cs' := [_, _]) sz24 rfl rfl rfl rfl rfl rfl rfl) rfl ?_)
     rintro _ _ ⟨rfl, rfl⟩
     refine ⟨.nil, ?_⟩
     refine Dp rfl rfl (p_assign rfl rfl) ?_
     refine D_then (kp [2, 3, 4, 6, 9, 10, 11, 12, 13, 14] rfl) ?_
     refine ⟨(b6, b4, q, r, ok), hok, (.cons rfl (.cons rfl (.cons rfl (.cons rfl (.cons rfl (.cons rfl (.cons rfl (.cons rfl (.cons rfl (.cons rfl (.nil _))))))))))), (by (try dsimp only); repeat (first | exact HSub.nil _ | refine HSub.take (by repeat first | exact Take.head | apply Take.tail) ?_ | exact HSub.refl _ | refine HSub.drop ?_ | refine HSub.app ?_)), rfl⟩
    refine (.go (E' := [(6, _), (3, _), (0, _)]) rfl (.plain rfl) (w_alloc zr24 rfl) rfl ?_)
    rintro _ _ ⟨b5, hb5, rfl, rfl⟩
    refine ⟨(.cons rfl (.plain rfl) (rlA (vs := [_, _]) ag24 sz24 rfl rfl rfl) (.cons rfl (.plain rfl) (rlA (vs := [_, _]) ag24 sz24 rfl rfl rfl) (.cons rfl (.plain rfl) (rlA (vs := [_, _, _, _, _]) ag39 sz39 rfl rfl rfl) .nil))), ?_⟩
    refine D_wr (.go (E' := []) rfl (.plain rfl) (w_callN rfl rfl rfl (fun w hg => rahead_c t _ w (hT.good hg) hG b.x b.vx n hn hbk.2.1 hbk.2.2.2.2.1)) rfl ?_)
    rintro _ _ ⟨_, rfl, _, ⟨q, r, ok, rfl, hok⟩, rfl⟩
    try simp only [List.nil_append]
    refine ⟨.nil, ?_⟩
    refine Dm rfl rfl rfl rfl ?_
    iterate 3 refine Dp rfl rfl (p_ext rfl rfl rfl) ?_
    refine D_wr (.go (E' := []) rfl (.plain rfl) (ws (cs' := [_, _]) sz24 rfl rfl rfl rfl rfl rfl rfl) rfl ?_)
    rintro _ _ ⟨rfl, rfl⟩
    refine ⟨.nil, ?_⟩
    refine D_wr (.go (E' := []) rfl (.plain rfl) (ws (cs' := [_, _]) sz24 rfl rfl rfl rfl rfl rfl rfl) rfl ?_)
    rintro _ _ ⟨rfl, rfl⟩
    refine ⟨.nil, ?_⟩
    refine Dp rfl rfl (p_assign rfl rfl) ?_
    refine D_then (kp [2, 3, 4, 6, 9, 10, 11, 12, 13, 14] rfl) ?_
    refine ⟨(b5, b4, q, r, ok), hok, (.cons rfl (.cons rfl (.cons rfl (.cons rfl (.cons rfl (.cons rfl (.cons rfl (.cons rfl (.cons rfl (.cons rfl (.nil _))))))))))), (by (try dsimp only); repeat (first | exact HSub.nil _ | refine HSub.take (by repeat first | exact Take.head | apply Take.tail) ?_ | exact HSub.refl _ | refine HSub.drop ?_ | refine HSub.app ?_)), rfl⟩
   rintro ⟨x12, x13, q0, r0, ok0⟩ hok0
   refine V_seq ?_
   refine Vs rfl ?_
   refine Lm rfl rfl rfl ?_
   refine Lp rfl (p_not rfl rfl) ?_
   refine L_then (kp [2, 3, 4, 6, 9, 10, 11, 12, 13, 72] rfl) ?_
   refine V_cond rfl ?_ ?_
   ·intro c3; have c3r := c3; try simp only [td] at c3
    refine Vs rfl ?_
    refine Lp rfl (p_build (r := [_, _, _, _, _, _, _, _, _, _, _, _, _]) pl28 zr28 rfl rfl rfl) ?_
    refine Ls (cs' := [_, _, _, _, _, _, _, _, _, _, _, _, _]) rfl sz28 rfl rfl rfl rfl rfl rfl rfl ?_
    refine La rfl rfl rfl ?_
    refine L_then (kp [6, 7] rfl) ?_
    refine V_ret (then_r (blk_r (then_r (then_r (blk_r (then_r ?_))))))
    refine Leave.nil (.cellA (us := [_, _, _, _, _, _, _, _, _, _, _, _, _]) rfl ag28 sz28 (by repeat first | exact mH | apply mT) rfl (.tmp rfl .nil)) ?_
    rw [aheadP_ok he, foundP_none (aheadB_0 (av_none hok0 c3))]; rfl
   intro c3; have c3r := c3; try simp only [td] at c3
   refine V_skip (then_n ?_)
   refine V_draw (.rd 0 (.rd 1 (.rd 2 (.rd 3 (.rd 4 (.wr 5 [3, 1] (.rd 6 (.wr 7 [] .done)))))))) mixed (by kernel_rfl) rfl ?_
   iterate 2 refine Dm rfl rfl rfl rfl ?_
   iterate 2 refine Dr rfl rfl (rlA (vs := [_, _]) ag24 sz24 rfl rfl rfl) ?_
   refine Dp rfl rfl (p_idxao ar108 rfl rfl rfl (by omega) (by omega)) ?_
   refine D_wr (.go (E' := [(3, _)]) rfl (.plain rfl) (ws (cs' := [_, _, _, _, _, _]) sz24 rfl rfl rfl rfl rfl rfl rfl) rfl ?_)
   rintro _ _ ⟨rfl, rfl⟩
   refine ⟨(.cons rfl (.plain rfl) (rlA (vs := [_, _]) ag24 sz24 rfl rfl rfl) .nil), ?_⟩
   refine Dp rfl rfl (p_idxao ar108 rfl rfl rfl (by omega) (by omega)) ?_
   refine D_wr (.go (E' := []) rfl (.plain rfl) (ws (cs' := [_, _, _, _, _, _]) sz24 rfl rfl rfl rfl rfl rfl rfl) rfl ?_)
   rintro _ _ ⟨rfl, rfl⟩
   refine ⟨.nil, ?_⟩
   refine D_keep (kp [2, 3, 4, 6, 9, 10, 11] rfl) (blk_n (then_n ?_))
   refine V_region rfl ?_
   refine Lm rfl rfl rfl ?_
   first | refine Lp rfl (p_add' rfl rfl rfl (by unfold InI; omega)) ?_ | refine Lp rfl (p_add rfl rfl rfl) ?_
   refine La rfl rfl rfl ?_
   refine L_keep (kp [2, 3, 4, 6, 9, 10, 11] rfl) (then_n ?_)
   refine LU_step ?_
   refine V_seq ?_
   refine Vs rfl ?_
   refine Lm rfl rfl rfl ?_
   refine Lp rfl (p_lss rfl rfl rfl) ?_
   refine L_then (kp [2, 3, 4, 6, 9, 10, 11, 55] rfl) ?_
   refine V_cond_t rfl rfl ?_
   refine V_skip (then_n ?_)
   refine V_seq ?_
   refine V_block ?_
   refine V_mid (γ := Nat × Nat × Span × Span × Bool) (kp [2, 3, 4, 6, 9, 10, 11] rfl) (fun (x12, x13, q1, r1, ok1) => [(12, .pointer (some ⟨x12, 0, none⟩)), (13, .pointer (some ⟨x13, 0, none⟩)), (14, .bool ok1)]) (fun (x12, x13, q1, r1, ok1) => (x12, .cells #[.int .i64 q1.lo, .int .i64 q1.hi] 24) :: (x13, .cells #[.int .i64 r1.lo, .int .i64 r1.hi] 24) :: (x9, .cells #[.int .i64 q0.lo, .int .i64 q0.hi, .int .i64 b.y.lo, .int .i64 b.y.hi, .int .i64 b.z.lo, .int .i64 b.z.hi] 108) :: (x10, .cells #[.int .i64 r0.lo, .int .i64 r0.hi, .int .i64 b.vy.lo, .int .i64 b.vy.hi, .int .i64 b.vz.lo, .int .i64 b.vz.hi] 108) :: (b3, .cells (Box.cells boxZ).toArray 28) :: (b2, .cells (Box.cells b).toArray 28) :: (b1, t.obj (.slice ta t.trackers.length tc) (.slice pa t.plots.length pc) 39) :: []) (fun (x12, x13, q1, r1, ok1) => ((ok1 = true ∧ aheadS t n b.y b.vy = some (q1, r1)) ∨ (ok1 = false ∧ aheadS t n b.y b.vy = none))) ?_ ?_
   ·refine V_draw (.rd 0 (.rd 1 (.rd 2 (.rd 3 (.rd 4 (.rd 5 (.rd 6 (.rd 7 (.wr3 8 [5, 4, 2, 1] (.rd 9 (.rd 10 (.rd 11 (.rd 12 (.wr2 13 [12, 11, 10, 9, 7, 6, 5, 4, 3, 2, 1, 0] (.wr 14 [12, 11, 10, 9, 7, 6, 5, 4, 3, 2, 1, 0] (.wr 15 [12, 11] (.wr 16 [12] (.rd 17 .done)))) 14 [12, 11, 10, 9, 7, 6, 5, 4, 3, 2, 1, 0] (.wr 13 [12, 11, 10, 9, 7, 6, 5, 4, 3, 2, 1, 0] (.wr 15 [12, 11] (.wr 16 [12] (.rd 17 .done))))))))) 13 [7, 6, 5, 4, 3, 2, 1, 0] (.wr2 8 [5, 4, 2, 1] (.rd 9 (.rd 10 (.rd 11 (.rd 12 (.wr 14 [12, 11, 10, 9, 7, 6, 5, 4, 3, 2, 1, 0] (.wr 15 [12, 11] (.wr 16 [12] (.rd 17 .done)))))))) 14 [7, 6, 5, 4, 3, 2, 1, 0] (.wr 8 [5, 4, 2, 1] (.rd 9 (.rd 10 (.rd 11 (.rd 12 (.wr 15 [12, 11] (.wr 16 [12] (.rd 17 .done))))))))) 14 [7, 6, 5, 4, 3, 2, 1, 0] (.wr2 8 [5, 4, 2, 1] (.rd 9 (.rd 10 (.rd 11 (.rd 12 (.wr 13 [12, 11, 10, 9, 7, 6, 5, 4, 3, 2, 1, 0] (.wr 15 [12, 11] (.wr 16 [12] (.rd 17 .done)))))))) 13 [7, 6, 5, 4, 3, 2, 1, 0] (.wr 8 [5, 4, 2, 1] (.rd 9 (.rd 10 (.rd 11 (.rd 12 (.wr 15 [12, 11] (.wr 16 [12] (.rd 17 .done)))))))))))))))))) mixed (by kernel_rfl) rfl ?_
    refine Dr rfl rfl (rlA (vs := [_, _, _, _, _]) ag39 sz39 rfl rfl rfl) ?_
    refine Dm rfl rfl rfl rfl ?_
    refine Dp rfl rfl (p_idxao ar108 rfl rfl rfl (by omega) (by omega)) ?_
    refine Dr rfl rfl (rlA (vs := [_, _]) ag24 sz24 rfl rfl rfl) ?_
    refine Dm rfl rfl rfl rfl ?_
    refine Dp rfl rfl (p_idxao ar108 rfl rfl rfl (by omega) (by omega)) ?_
    refine Dr rfl rfl (rlA (vs := [_, _]) ag24 sz24 rfl rfl rfl) ?_
    refine Dm rfl rfl rfl rfl ?_
    refine D_wr3 rfl rfl rfl ?_ ?_ ?_
    ·refine (.go (E' := []) rfl (.plain rfl) (w_callN rfl rfl rfl (fun w hg => rahead_c t _ w (hT.good hg) hG b.y b.vy n hn hbk.2.2.1 hbk.2.2.2.2.2.1)) rfl ?_)
     rintro _ _ ⟨_, rfl, _, ⟨q, r, ok, rfl, hok⟩, rfl⟩
     try simp only [List.nil_append]
     refine ⟨.nil, ?_⟩
     refine Dm rfl rfl rfl rfl ?_
     iterate 3 refine Dp rfl rfl (p_ext rfl rfl rfl) ?_
     refine D_wr2 rfl ?_ ?_
     ·refine (.go (E' := []) rfl (.plain rfl) (w_alloc zr24 rfl) rfl ?_)
      rintro _ _ ⟨b5, hb5, rfl, rfl⟩
      refine ⟨.nil, ?_⟩
      refine D_wr (.go (E' := []) rfl (.plain rfl) (w_alloc zr24 rfl) rfl ?_)
      rintro _ _ ⟨b6, hb6, rfl, rfl⟩
      refine ⟨.nil, ?_⟩
      refine D_wr (.go (E' := []) rfl (.plain rfl) (ws (cs' := [_, _]) sz24 rfl rfl rfl rfl rfl rfl rfl) rfl ?_)
      rintro _ _ ⟨rfl, rfl⟩
      refine ⟨.nil, ?_⟩
      refine D_wr (.go (E' := []) rfl (.plain rfl) (ws (cs' := [_, _]) sz24 rfl rfl rfl rfl rfl rfl rfl) rfl ?_)
      rintro _ _ ⟨rfl, rfl⟩
      refine ⟨.nil, ?_⟩
      refine Dp rfl rfl (p_assign rfl rfl) ?_
      refine D_then (kp [2, 3, 4, 6, 9, 10, 11, 12, 13, 14] rfl) ?_
      refine ⟨(b5, b6, q, r, ok), hok, (.cons rfl (.cons rfl (.cons rfl (.cons rfl (.cons rfl (.cons rfl (.cons rfl (.cons rfl (.cons rfl (.cons rfl (.nil _))))))))))), (by (try dsimp only); repeat (first | exact HSub.nil _ | refine HSub.take (by repeat first | exact Take.head | apply Take.tail) ?_ | exact HSub.refl _ | refine HSub.drop ?_ | refine HSub.app ?_)), rfl⟩
     refine (.go (E' := []) rfl (.plain rfl) (w_alloc zr24 rfl) rfl ?_)
     rintro _ _ ⟨b5, hb5, rfl, rfl⟩
     refine ⟨.nil, ?_⟩
     refine D_wr (.go (E' := []) rfl (.plain rfl) (w_alloc zr24 rfl) rfl ?_)
     rintro _ _ ⟨b6, hb6, rfl, rfl⟩
     refine ⟨.nil, ?_⟩
     refine D_wr (.go (E' := []) rfl (.plain rfl) (ws (cs' := [_, _]) sz24 rfl rfl rfl rfl rfl rfl rfl) rfl ?_)
     rintro _ _ ⟨rfl, rfl⟩
     refine ⟨.nil, ?_⟩
     refine D_wr (.go (E' := []) rfl (.plain rfl) (ws (cs' := [_, _]) sz24 rfl rfl rfl rfl rfl rfl rfl) rfl ?_)
     rintro _ _ ⟨rfl, rfl⟩
     refine ⟨.nil, ?_⟩
     refine Dp rfl rfl (p_assign rfl rfl) ?_
     refine D_then (kp [2, 3, 4, 6, 9, 10, 11, 12, 13, 14] rfl) ?_
     refine ⟨(b6, b5, q, r, ok), hok, (.cons rfl (.cons rfl (.cons rfl (.cons rfl (.cons rfl (.cons rfl (.cons rfl (.cons rfl (.cons rfl (.cons rfl (.nil _))))))))))), (by (try dsimp only); repeat (first | exact HSub.nil _ | refine HSub.take (by repeat first | exact Take.head | apply Take.tail) ?_ | exact HSub.refl _ | refine HSub.drop ?_ | refine HSub.app ?_)), rfl⟩
    ·refine (.go (E' := [(6, _), (3, _), (0, _)]) rfl (.plain rfl) (w_alloc zr24 rfl) rfl ?_)
     rintro _ _ ⟨b4, hb4, rfl, rfl⟩
     refine ⟨(.cons rfl (.plain rfl) (rlA (vs := [_, _]) ag24 sz24 rfl rfl rfl) (.cons rfl (.plain rfl) (rlA (vs := [_, _]) ag24 sz24 rfl rfl rfl) (.cons rfl (.plain rfl) (rlA (vs := [_, _, _, _, _]) ag39 sz39 rfl rfl rfl) .nil))), ?_⟩
     refine D_wr2 rfl ?_ ?_
     ·refine (.go (E' := []) rfl (.plain rfl) (w_callN rfl rfl rfl (fun w hg => rahead_c t _ w (hT.good hg) hG b.y b.vy n hn hbk.2.2.1 hbk.2.2.2.2.2.1)) rfl ?_)
      rintro _ _ ⟨_, rfl, _, ⟨q, r, ok, rfl, hok⟩, rfl⟩
      try simp only [List.nil_append]
      refine ⟨.nil, ?_⟩
      refine Dm rfl rfl rfl rfl ?_
      iterate 3 refine Dp rfl rfl (p_ext rfl rfl rfl) ?_
      refine D_wr (.go (E' := []) rfl (.plain rfl) (w_alloc zr24 rfl) rfl ?_)
      rintro _ _ ⟨b6, hb6, rfl, rfl⟩
      refine ⟨.nil, ?_⟩
      refine D_wr (.go (E' := []) rfl (.plain rfl) (ws (cs' := [_, _]) sz24 rfl rfl rfl rfl rfl rfl rfl) rfl ?_)
      rintro _ _ ⟨rfl, rfl⟩
      refine ⟨.nil, ?_⟩
      refine D_wr (.go (E' := []) rfl (.plain rfl) (ws (cs' := [_, _]) sz24 rfl rfl rfl rfl rfl rfl rfl) rfl ?_)
      rintro _ _ ⟨rfl, rfl⟩
      refine ⟨.nil, ?_⟩
      refine Dp rfl rfl (p_assign rfl rfl) ?_
      refine D_then (kp [2, 3, 4, 6, 9, 10, 11, 12, 13, 14] rfl) ?_
      refine ⟨(b4, b6, q, r, ok), hok, (.cons rfl (.cons rfl (.cons rfl (.cons rfl (.cons rfl (.cons rfl (.cons rfl (.cons rfl (.cons rfl (.cons rfl (.nil _))))))))))), (by (try dsimp only); repeat (first | exact HSub.nil _ | refine HSub.take (by repeat first | exact Take.head | apply Take.tail) ?_ | exact HSub.refl _ | refine HSub.drop ?_ | refine HSub.app ?_)), rfl⟩
     refine (.go (E' := [(6, _), (3, _), (0, _)]) rfl (.plain rfl) (w_alloc zr24 rfl) rfl ?_)
     rintro _ _ ⟨b5, hb5, rfl, rfl⟩
     refine ⟨(.cons rfl (.plain rfl) (rlA (vs := [_, _]) ag24 sz24 rfl rfl rfl) (.cons rfl (.plain rfl) (rlA (vs := [_, _]) ag24 sz24 rfl rfl rfl) (.cons rfl (.plain rfl) (rlA (vs := [_, _, _, _, _]) ag39 sz39 rfl rfl rfl) .nil))), ?_⟩
     refine D_wr (.go (E' := []) rfl (.plain rfl) (w_callN rfl rfl rfl (fun w hg => rahead_c t _ w (hT.good hg) hG b.y b.vy n hn hbk.2.2.1 hbk.2.2.2.2.2.1)) rfl ?_)
     rintro _ _ ⟨_, rfl, _, ⟨q, r, ok, rfl, hok⟩, rfl⟩
     try simp only [List.nil_append]
     refine ⟨.nil, ?_⟩
     refine Dm rfl rfl rfl rfl ?_
     iterate 3 refine Dp rfl rfl (p_ext rfl rfl rfl) ?_
     refine D_wr (.go (E' := []) rfl (.plain rfl) (ws (cs' := [_, _]) sz24 rfl rfl rfl rfl rfl rfl rfl) rfl ?_)
     rintro _ _ ⟨rfl, rfl⟩
     refine ⟨.nil, ?_⟩
     refine D_wr (.go (E' := []) rfl (.plain rfl) (ws (cs' := [_, _]) sz24 rfl rfl rfl rfl rfl rfl rfl) rfl ?_)
     rintro _ _ ⟨rfl, rfl⟩
     refine ⟨.nil, ?_⟩
     refine Dp rfl rfl (p_assign rfl rfl) ?_
     refine D_then (kp [2, 3, 4, 6, 9, 10, 11, 12, 13, 14] rfl) ?_
     refine ⟨(b4, b5, q, r, ok), hok, (.cons rfl (.cons rfl (.cons rfl (.cons rfl (.cons rfl (.cons rfl (.cons rfl (.cons rfl (.cons rfl (.cons rfl (.nil _))))))))))), (by (try dsimp only); repeat (first | exact HSub.nil _ | refine HSub.take (by repeat first | exact Take.head | apply Take.tail) ?_ | exact HSub.refl _ | refine HSub.drop ?_ | refine HSub.app ?_)), rfl⟩
    refine (.go (E' := [(6, _), (3, _), (0, _)]) rfl (.plain rfl) (w_alloc zr24 rfl) rfl ?_)
    rintro _ _ ⟨b4, hb4, rfl, rfl⟩
    refine ⟨(.cons rfl (.plain rfl) (rlA (vs := [_, _]) ag24 sz24 rfl rfl rfl) (.cons rfl (.plain rfl) (rlA (vs := [_, _]) ag24 sz24 rfl rfl rfl) (.cons rfl (.plain rfl) (rlA (vs := [_, _, _, _, _]) ag39 sz39 rfl rfl rfl) .nil))), ?_⟩
    refine D_wr2 rfl ?_ ?_
    ·refine (.go (E' := []) rfl (.plain rfl) (w_callN rfl rfl rfl (fun w hg => rahead_c t _ w (hT.good hg) hG b.y b.vy n hn hbk.2.2.1 hbk.2.2.2.2.2.1)) rfl ?_)
     rintro _ _ ⟨_, rfl, _, ⟨q, r, ok, rfl, hok⟩, rfl⟩
     try simp only [List.nil_append]
     refine ⟨.nil, ?_⟩
     refine Dm rfl rfl rfl rfl ?_
     iterate 3 refine Dp rfl rfl (p_ext rfl rfl rfl) ?_
     refine D_wr (.go (E' := []) rfl (.plain rfl) (w_alloc zr24 rfl) rfl ?_)
     rintro _ _ ⟨b6, hb6, rfl, rfl⟩
     refine ⟨.nil, ?_⟩
     refine D_wr (.go (E' := []) rfl (.plain rfl) (ws (cs' := [_, _]) sz24 rfl rfl rfl rfl rfl rfl rfl) rfl ?_)
     rintro _ _ ⟨rfl, rfl⟩
     refine ⟨.nil, ?_⟩
     refine D_wr (.go (E' := []) rfl (.plain rfl) (ws (cs' := [_, _]) sz24 rfl rfl rfl rfl rfl rfl rfl) rfl ?_)
     rintro _ _ ⟨rfl, rfl⟩
     refine ⟨.nil, ?_⟩
     refine Dp rfl rfl (p_assign rfl rfl) ?_
     refine D_then (kp [2, 3, 4, 6, 9, 10, 11, 12, 13, 14] rfl) ?_
     refine ⟨(b6, b4, q, r, ok), hok, (.cons rfl (.cons rfl (.cons rfl (.cons rfl (.cons rfl (.cons rfl (.cons rfl (.cons rfl (.cons rfl (.cons rfl (.nil _))))))))))), (by (try dsimp only); repeat (first | exact HSub.nil _ | refine HSub.take (by repeat first | exact Take.head | apply Take.tail) ?_ | exact HSub.refl _ | refine HSub.drop ?_ | refine HSub.app ?_)), rfl⟩
    refine (.go (E' := [(6, _), (3, _), (0, _)]) rfl (.plain rfl) (w_alloc zr24 rfl) rfl ?_)
    rintro _ _ ⟨b5, hb5, rfl, rfl⟩
    refine ⟨(.cons rfl (.plain rfl) (rlA (vs := [_, _]) ag24 sz24 rfl rfl rfl) (.cons rfl (.plain rfl) (rlA (vs := [_, _]) ag24 sz24 rfl rfl rfl) (.cons rfl (.plain rfl) (rlA (vs := [_, _, _, _, _]) ag39 sz39 rfl rfl rfl) .nil))), ?_⟩
    refine D_wr (.go (E' := []) rfl (.plain rfl) (w_callN rfl rfl rfl (fun w hg => rahead_c t _ w (hT.good hg) hG b.y b.vy n hn hbk.2.2.1 hbk.2.2.2.2.2.1)) rfl ?_)
    rintro _ _ ⟨_, rfl, _, ⟨q, r, ok, rfl, hok⟩, rfl⟩
    try simp only [List.nil_append]
    refine ⟨.nil, ?_⟩
    refine Dm rfl rfl rfl rfl ?_
    iterate 3 refine Dp rfl rfl (p_ext rfl rfl rfl) ?_
    refine D_wr (.go (E' := []) rfl (.plain rfl) (ws (cs' := [_, _]) sz24 rfl rfl rfl rfl rfl rfl rfl) rfl ?_)
    rintro _ _ ⟨rfl, rfl⟩
    refine ⟨.nil, ?_⟩
    refine D_wr (.go (E' := []) rfl (.plain rfl) (ws (cs' := [_, _]) sz24 rfl rfl rfl rfl rfl rfl rfl) rfl ?_)
    rintro _ _ ⟨rfl, rfl⟩
    refine ⟨.nil, ?_⟩
    refine Dp rfl rfl (p_assign rfl rfl) ?_
    refine D_then (kp [2, 3, 4, 6, 9, 10, 11, 12, 13, 14] rfl) ?_
    refine ⟨(b5, b4, q, r, ok), hok, (.cons rfl (.cons rfl (.cons rfl (.cons rfl (.cons rfl (.cons rfl (.cons rfl (.cons rfl (.cons rfl (.cons rfl (.nil _))))))))))), (by (try dsimp only); repeat (first | exact HSub.nil _ | refine HSub.take (by repeat first | exact Take.head | apply Take.tail) ?_ | exact HSub.refl _ | refine HSub.drop ?_ | refine HSub.app ?_)), rfl⟩
   rintro ⟨x12, x13, q1, r1, ok1⟩ hok1
   refine V_seq ?_
   refine Vs rfl ?_
   refine Lm rfl rfl rfl ?_
   refine Lp rfl (p_not rfl rfl) ?_
   refine L_then (kp [2, 3, 4, 6, 9, 10, 11, 12, 13, 72] rfl) ?_
   refine V_cond rfl ?_ ?_
   ·intro c4; have c4r := c4; try simp only [td] at c4
    refine Vs rfl ?_
    refine Lp rfl (p_build (r := [_, _, _, _, _, _, _, _, _, _, _, _, _]) pl28 zr28 rfl rfl rfl) ?_
    refine Ls (cs' := [_, _, _, _, _, _, _, _, _, _, _, _, _]) rfl sz28 rfl rfl rfl rfl rfl rfl rfl ?_
    refine La rfl rfl rfl ?_
    refine L_then (kp [6, 7] rfl) ?_
    refine V_ret (then_r (blk_r (then_r (then_r (blk_r (then_r ?_))))))
    refine Leave.nil (.cellA (us := [_, _, _, _, _, _, _, _, _, _, _, _, _]) rfl ag28 sz28 (by repeat first | exact mH | apply mT) rfl (.tmp rfl .nil)) ?_
    rw [aheadP_ok he, foundP_none (aheadB_1 (av_some hok0 c3) (av_none hok1 c4))]; rfl
   intro c4; have c4r := c4; try simp only [td] at c4
   refine V_skip (then_n ?_)
   refine V_draw (.rd 0 (.rd 1 (.rd 2 (.rd 3 (.rd 4 (.wr 5 [3, 1] (.rd 6 (.wr 7 [] .done)))))))) mixed (by kernel_rfl) rfl ?_
   iterate 2 refine Dm rfl rfl rfl rfl ?_
   iterate 2 refine Dr rfl rfl (rlA (vs := [_, _]) ag24 sz24 rfl rfl rfl) ?_
   refine Dp rfl rfl (p_idxao ar108 rfl rfl rfl (by omega) (by omega)) ?_
   refine D_wr (.go (E' := [(3, _)]) rfl (.plain rfl) (ws (cs' := [_, _, _, _, _, _]) sz24 rfl rfl rfl rfl rfl rfl rfl) rfl ?_)
   rintro _ _ ⟨rfl, rfl⟩
   refine ⟨(.cons rfl (.plain rfl) (rlA (vs := [_, _]) ag24 sz24 rfl rfl rfl) .nil), ?_⟩
   refine Dp rfl rfl (p_idxao ar108 rfl rfl rfl (by omega) (by omega)) ?_
   refine D_wr (.go (E' := []) rfl (.plain rfl) (ws (cs' := [_, _, _, _, _, _]) sz24 rfl rfl rfl rfl rfl rfl rfl) rfl ?_)
   rintro _ _ ⟨rfl, rfl⟩
   refine ⟨.nil, ?_⟩
   refine D_keep (kp [2, 3, 4, 6, 9, 10, 11] rfl) (blk_n (then_n ?_))
   refine V_region rfl ?_
   refine Lm rfl rfl rfl ?_
   first | refine Lp rfl (p_add' rfl rfl rfl (by unfold InI; omega)) ?_ | refine Lp rfl (p_add rfl rfl rfl) ?_
   refine La rfl rfl rfl ?_
   refine L_keep (kp [2, 3, 4, 6, 9, 10, 11] rfl) (then_n ?_)
   refine LU_step ?_
   refine V_seq ?_
   refine Vs rfl ?_
   refine Lm rfl rfl rfl ?_
   refine Lp rfl (p_lss rfl rfl rfl) ?_
   refine L_then (kp [2, 3, 4, 6, 9, 10, 11, 55] rfl) ?_
   refine V_cond_t rfl rfl ?_
   refine V_skip (then_n ?_)
   refine V_seq ?_
   refine V_block ?_
   refine V_mid (γ := Nat × Nat × Span × Span × Bool) (kp [2, 3, 4, 6, 9, 10, 11] rfl) (fun (x12, x13, q2, r2, ok2) => [(12, .pointer (some ⟨x12, 0, none⟩)), (13, .pointer (some ⟨x13, 0, none⟩)), (14, .bool ok2)]) (fun (x12, x13, q2, r2, ok2) => (x12, .cells #[.int .i64 q2.lo, .int .i64 q2.hi] 24) :: (x13, .cells #[.int .i64 r2.lo, .int .i64 r2.hi] 24) :: (x9, .cells #[.int .i64 q0.lo, .int .i64 q0.hi, .int .i64 q1.lo, .int .i64 q1.hi, .int .i64 b.z.lo, .int .i64 b.z.hi] 108) :: (x10, .cells #[.int .i64 r0.lo, .int .i64 r0.hi, .int .i64 r1.lo, .int .i64 r1.hi, .int .i64 b.vz.lo, .int .i64 b.vz.hi] 108) :: (b3, .cells (Box.cells boxZ).toArray 28) :: (b2, .cells (Box.cells b).toArray 28) :: (b1, t.obj (.slice ta t.trackers.length tc) (.slice pa t.plots.length pc) 39) :: []) (fun (x12, x13, q2, r2, ok2) => ((ok2 = true ∧ aheadS t n b.z b.vz = some (q2, r2)) ∨ (ok2 = false ∧ aheadS t n b.z b.vz = none))) ?_ ?_
   ·refine V_draw (.rd 0 (.rd 1 (.rd 2 (.rd 3 (.rd 4 (.rd 5 (.rd 6 (.rd 7 (.wr3 8 [5, 4, 2, 1] (.rd 9 (.rd 10 (.rd 11 (.rd 12 (.wr2 13 [12, 11, 10, 9, 7, 6, 5, 4, 3, 2, 1, 0] (.wr 14 [12, 11, 10, 9, 7, 6, 5, 4, 3, 2, 1, 0] (.wr 15 [12, 11] (.wr 16 [12] (.rd 17 .done)))) 14 [12, 11, 10, 9, 7, 6, 5, 4, 3, 2, 1, 0] (.wr 13 [12, 11, 10, 9, 7, 6, 5, 4, 3, 2, 1, 0] (.wr 15 [12, 11] (.wr 16 [12] (.rd 17 .done))))))))) 13 [7, 6, 5, 4, 3, 2, 1, 0] (.wr2 8 [5, 4, 2, 1] (.rd 9 (.rd 10 (.rd 11 (.rd 12 (.wr 14 [12, 11, 10, 9, 7, 6, 5, 4, 3, 2, 1, 0] (.wr 15 [12, 11] (.wr 16 [12] (.rd 17 .done)))))))) 14 [7, 6, 5, 4, 3, 2, 1, 0] (.wr 8 [5, 4, 2, 1] (.rd 9 (.rd 10 (.rd 11 (.rd 12 (.wr 15 [12, 11] (.wr 16 [12] (.rd 17 .done))))))))) 14 [7, 6, 5, 4, 3, 2, 1, 0] (.wr2 8 [5, 4, 2, 1] (.rd 9 (.rd 10 (.rd 11 (.rd 12 (.wr 13 [12, 11, 10, 9, 7, 6, 5, 4, 3, 2, 1, 0] (.wr 15 [12, 11] (.wr 16 [12] (.rd 17 .done)))))))) 13 [7, 6, 5, 4, 3, 2, 1, 0] (.wr 8 [5, 4, 2, 1] (.rd 9 (.rd 10 (.rd 11 (.rd 12 (.wr 15 [12, 11] (.wr 16 [12] (.rd 17 .done)))))))))))))))))) mixed (by kernel_rfl) rfl ?_
    refine Dr rfl rfl (rlA (vs := [_, _, _, _, _]) ag39 sz39 rfl rfl rfl) ?_
    refine Dm rfl rfl rfl rfl ?_
    refine Dp rfl rfl (p_idxao ar108 rfl rfl rfl (by omega) (by omega)) ?_
    refine Dr rfl rfl (rlA (vs := [_, _]) ag24 sz24 rfl rfl rfl) ?_
    refine Dm rfl rfl rfl rfl ?_
    refine Dp rfl rfl (p_idxao ar108 rfl rfl rfl (by omega) (by omega)) ?_
    refine Dr rfl rfl (rlA (vs := [_, _]) ag24 sz24 rfl rfl rfl) ?_
    refine Dm rfl rfl rfl rfl ?_
    refine D_wr3 rfl rfl rfl ?_ ?_ ?_
    ·refine (.go (E' := []) rfl (.plain rfl) (w_callN rfl rfl rfl (fun w hg => rahead_c t _ w (hT.good hg) hG b.z b.vz n hn hbk.2.2.2.1 hbk.2.2.2.2.2.2)) rfl ?_)
     rintro _ _ ⟨_, rfl, _, ⟨q, r, ok, rfl, hok⟩, rfl⟩
     try simp only [List.nil_append]
     refine ⟨.nil, ?_⟩
     refine Dm rfl rfl rfl rfl ?_
     iterate 3 refine Dp rfl rfl (p_ext rfl rfl rfl) ?_
     refine D_wr2 rfl ?_ ?_
     ·refine (.go (E' := []) rfl (.plain rfl) (w_alloc zr24 rfl) rfl ?_)
      rintro _ _ ⟨b5, hb5, rfl, rfl⟩
      refine ⟨.nil, ?_⟩
      refine D_wr (.go (E' := []) rfl (.plain rfl) (w_alloc zr24 rfl) rfl ?_)
      rintro _ _ ⟨b6, hb6, rfl, rfl⟩
      refine ⟨.nil, ?_⟩
      refine D_wr (.go (E' := []) rfl (.plain rfl) (ws (cs' := [_, _]) sz24 rfl rfl rfl rfl rfl rfl rfl) rfl ?_)
      rintro _ _ ⟨rfl, rfl⟩
      refine ⟨.nil, ?_⟩
      refine D_wr (.go (E' := []) rfl (.plain rfl) (ws (cs' := [_, _]) sz24 rfl rfl rfl rfl rfl rfl rfl) rfl ?_)
      rintro _ _ ⟨rfl, rfl⟩
      refine ⟨.nil, ?_⟩
      refine Dp rfl rfl (p_assign rfl rfl) ?_
      refine D_then (kp [2, 3, 4, 6, 9, 10, 11, 12, 13, 14] rfl) ?_
      refine ⟨(b5, b6, q, r, ok), hok, (.cons rfl (.cons rfl (.cons rfl (.cons rfl (.cons rfl (.cons rfl (.cons rfl (.cons rfl (.cons rfl (.cons rfl (.nil _))))))))))), (by (try dsimp only); repeat (first | exact HSub.nil _ | refine HSub.take (by repeat first | exact Take.head | apply Take.tail) ?_ | exact HSub.refl _ | refine HSub.drop ?_ | refine HSub.app ?_)), rfl⟩
     refine (.go (E' := []) rfl (.plain rfl) (w_alloc zr24 rfl) rfl ?_)
     rintro _ _ ⟨b5, hb5, rfl, rfl⟩
     refine ⟨.nil, ?_⟩
     refine D_wr (.go (E' := []) rfl (.plain rfl) (w_alloc zr24 rfl) rfl ?_)
     rintro _ _ ⟨b6, hb6, rfl, rfl⟩
     refine ⟨.nil, ?_⟩
     refine D_wr (.go (E' := []) rfl (.plain rfl) (ws (cs' := [_, _]) sz24 rfl rfl rfl rfl rfl rfl rfl) rfl ?_)
     rintro _ _ ⟨rfl, rfl⟩
     refine ⟨.nil, ?_⟩
     refine D_wr (.go (E' := []) rfl (.plain rfl) (ws (cs' := [_, _]) sz24 rfl rfl rfl rfl rfl rfl rfl) rfl ?_)
     rintro _ _ ⟨rfl, rfl⟩
     refine ⟨.nil, ?_⟩
     refine Dp rfl rfl (p_assign rfl rfl) ?_
     refine D_then (kp [2, 3, 4, 6, 9, 10, 11, 12, 13, 14] rfl) ?_
     refine ⟨(b6, b5, q, r, ok), hok, (.cons rfl (.cons rfl (.cons rfl (.cons rfl (.cons rfl (.cons rfl (.cons rfl (.cons rfl (.cons rfl (.cons rfl (.nil _))))))))))), (by (try dsimp only); repeat (first | exact HSub.nil _ | refine HSub.take (by repeat first | exact Take.head | apply Take.tail) ?_ | exact HSub.refl _ | refine HSub.drop ?_ | refine HSub.app ?_)), rfl⟩
    ·refine (.go (E' := [(6, _), (3, _), (0, _)]) rfl (.plain rfl) (w_alloc zr24 rfl) rfl ?_)
     rintro _ _ ⟨b4, hb4, rfl, rfl⟩
     refine ⟨(.cons rfl (.plain rfl) (rlA (vs := [_, _]) ag24 sz24 rfl rfl rfl) (.cons rfl (.plain rfl) (rlA (vs := [_, _]) ag24 sz24 rfl rfl rfl) (.cons rfl (.plain rfl) (rlA (vs := [_, _, _, _, _]) ag39 sz39 rfl rfl rfl) .nil))), ?_⟩
     refine D_wr2 rfl ?_ ?_
     ·refine (.go (E' := []) rfl (.plain rfl) (w_callN rfl rfl rfl (fun w hg => rahead_c t _ w (hT.good hg) hG b.z b.vz n hn hbk.2.2.2.1 hbk.2.2.2.2.2.2)) rfl ?_)
      rintro _ _ ⟨_, rfl, _, ⟨q, r, ok, rfl, hok⟩, rfl⟩
      try simp only [List.nil_append]
      refine ⟨.nil, ?_⟩
      refine Dm rfl rfl rfl rfl ?_
      iterate 3 refine Dp rfl rfl (p_ext rfl rfl rfl) ?_
      refine D_wr (.go (E' := []) rfl (.plain rfl) (w_alloc zr24 rfl) rfl ?_)
      rintro _ _ ⟨b6, hb6, rfl, rfl⟩
      refine ⟨.nil, ?_⟩
      refine D_wr (.go (E' := []) rfl (.plain rfl) (ws (cs' := [_, _]) sz24 rfl rfl rfl rfl rfl rfl rfl) rfl ?_)
      rintro _ _ ⟨rfl, rfl⟩
      refine ⟨.nil, ?_⟩
      refine D_wr (.go (E' := []) rfl (.plain rfl) (ws (cs' := [_, _]) sz24 rfl rfl rfl rfl rfl rfl rfl) rfl ?_)
      rintro _ _ ⟨rfl, rfl⟩
      refine ⟨.nil, ?_⟩
      refine Dp rfl rfl (p_assign rfl rfl) ?_
      refine D_then (kp [2, 3, 4, 6, 9, 10, 11, 12, 13, 14] rfl) ?_
      refine ⟨(b4, b6, q, r, ok), hok, (.cons rfl (.cons rfl (.cons rfl (.cons rfl (.cons rfl (.cons rfl (.cons rfl (.cons rfl (.cons rfl (.cons rfl (.nil _))))))))))), (by (try dsimp only); repeat (first | exact HSub.nil _ | refine HSub.take (by repeat first | exact Take.head | apply Take.tail) ?_ | exact HSub.refl _ | refine HSub.drop ?_ | refine HSub.app ?_)), rfl⟩
     refine (.go (E' := [(6, _), (3, _), (0, _)]) rfl (.plain rfl) (w_alloc zr24 rfl) rfl ?_)
     rintro _ _ ⟨b5, hb5, rfl, rfl⟩
     refine ⟨(.cons rfl (.plain rfl) (rlA (vs := [_, _]) ag24 sz24 rfl rfl rfl) (.cons rfl (.plain rfl) (rlA (vs := [_, _]) ag24 sz24 rfl rfl rfl) (.cons rfl (.plain rfl) (rlA (vs := [_, _, _, _, _]) ag39 sz39 rfl rfl rfl) .nil))), ?_⟩
     refine D_wr (.go (E' := []) rfl (.plain rfl) (w_callN rfl rfl rfl (fun w hg => rahead_c t _ w (hT.good hg) hG b.z b.vz n hn hbk.2.2.2.1 hbk.2.2.2.2.2.2)) rfl ?_)
     rintro _ _ ⟨_, rfl, _, ⟨q, r, ok, rfl, hok⟩, rfl⟩
     try simp only [List.nil_append]
     refine ⟨.nil, ?_⟩
     refine Dm rfl rfl rfl rfl ?_
     iterate 3 refine Dp rfl rfl (p_ext rfl rfl rfl) ?_
     refine D_wr (.go (E' := []) rfl (.plain rfl) (ws (cs' := [_, _]) sz24 rfl rfl rfl rfl rfl rfl rfl) rfl ?_)
     rintro _ _ ⟨rfl, rfl⟩
     refine ⟨.nil, ?_⟩
     refine D_wr (.go (E' := []) rfl (.plain rfl) (ws (cs' := [_, _]) sz24 rfl rfl rfl rfl rfl rfl rfl) rfl ?_)
     rintro _ _ ⟨rfl, rfl⟩
     refine ⟨.nil, ?_⟩
     refine Dp rfl rfl (p_assign rfl rfl) ?_
     refine D_then (kp [2, 3, 4, 6, 9, 10, 11, 12, 13, 14] rfl) ?_
     refine ⟨(b4, b5, q, r, ok), hok, (.cons rfl (.cons rfl (.cons rfl (.cons rfl (.cons rfl (.cons rfl (.cons rfl (.cons rfl (.cons rfl (.cons rfl (.nil _))))))))))), (by (try dsimp only); repeat (first | exact HSub.nil _ | refine HSub.take (by repeat first | exact Take.head | apply Take.tail) ?_ | exact HSub.refl _ | refine HSub.drop ?_ | refine HSub.app ?_)), rfl⟩
    refine (.go (E' := [(6, _), (3, _), (0, _)]) rfl (.plain rfl) (w_alloc zr24 rfl) rfl ?_)
    rintro _ _ ⟨b4, hb4, rfl, rfl⟩
    refine ⟨(.cons rfl (.plain rfl) (rlA (vs := [_, _]) ag24 sz24 rfl rfl rfl) (.cons rfl (.plain rfl) (rlA (vs := [_, _]) ag24 sz24 rfl rfl rfl) (.cons rfl (.plain rfl) (rlA (vs := [_, _, _, _, _]) ag39 sz39 rfl rfl rfl) .nil))), ?_⟩
    refine D_wr2 rfl ?_ ?_
    ·refine (.go (E' := []) rfl (.plain rfl) (w_callN rfl rfl rfl (fun w hg => rahead_c t _ w (hT.good hg) hG b.z b.vz n hn hbk.2.2.2.1 hbk.2.2.2.2.2.2)) rfl ?_)
     rintro _ _ ⟨_, rfl, _, ⟨q, r, ok, rfl, hok⟩, rfl⟩
     try simp only [List.nil_append]
     refine ⟨.nil, ?_⟩
     refine Dm rfl rfl rfl rfl ?_
     iterate 3 refine Dp rfl rfl (p_ext rfl rfl rfl) ?_
     refine D_wr (.go (E' := []) rfl (.plain rfl) (w_alloc zr24 rfl) rfl ?_)
     rintro _ _ ⟨b6, hb6, rfl, rfl⟩
     refine ⟨.nil, ?_⟩
     refine D_wr (.go (E' := []) rfl (.plain rfl) (ws (cs' := [_, _]) sz24 rfl rfl rfl rfl rfl rfl rfl) rfl ?_)
     rintro _ _ ⟨rfl, rfl⟩
     refine ⟨.nil, ?_⟩
     refine D_wr (.go (E' := []) rfl (.plain rfl) (ws (cs' := [_, _]) sz24 rfl rfl rfl rfl rfl rfl rfl) rfl ?_)
     rintro _ _ ⟨rfl, rfl⟩
     refine ⟨.nil, ?_⟩
     refine Dp rfl rfl (p_assign rfl rfl) ?_
     refine D_then (kp [2, 3, 4, 6, 9, 10, 11, 12, 13, 14] rfl) ?_
     refine ⟨(b6, b4, q, r, ok), hok, (.cons rfl (.cons rfl (.cons rfl (.cons rfl (.cons rfl (.cons rfl (.cons rfl (.cons rfl (.cons rfl (.cons rfl (.nil _))))))))))), (by (try dsimp only); repeat (first | exact HSub.nil _ | refine HSub.take (by repeat first | exact Take.head | apply Take.tail) ?_ | exact HSub.refl _ | refine HSub.drop ?_ | refine HSub.app ?_)), rfl⟩
    refine (.go (E' := [(6, _), (3, _), (0, _)]) rfl (.plain rfl) (w_alloc zr24 rfl) rfl ?_)
    rintro _ _ ⟨b5, hb5, rfl, rfl⟩
    refine ⟨(.cons rfl (.plain rfl) (rlA (vs := [_, _]) ag24 sz24 rfl rfl rfl) (.cons rfl (.plain rfl) (rlA (vs := [_, _]) ag24 sz24 rfl rfl rfl) (.cons rfl (.plain rfl) (rlA (vs := [_, _, _, _, _]) ag39 sz39 rfl rfl rfl) .nil))), ?_⟩
    refine D_wr (.go (E' := []) rfl (.plain rfl) (w_callN rfl rfl rfl (fun w hg => rahead_c t _ w (hT.good hg) hG b.z b.vz n hn hbk.2.2.2.1 hbk.2.2.2.2.2.2)) rfl ?_)
    rintro _ _ ⟨_, rfl, _, ⟨q, r, ok, rfl, hok⟩, rfl⟩
    try simp only [List.nil_append]
    refine ⟨.nil, ?_⟩
    refine Dm rfl rfl rfl rfl ?_
    iterate 3 refine Dp rfl rfl (p_ext rfl rfl rfl) ?_
    refine D_wr (.go (E' := []) rfl (.plain rfl) (ws (cs' := [_, _]) sz24 rfl rfl rfl rfl rfl rfl rfl) rfl ?_)
    rintro _ _ ⟨rfl, rfl⟩
    refine ⟨.nil, ?_⟩
    refine D_wr (.go (E' := []) rfl (.plain rfl) (ws (cs' := [_, _]) sz24 rfl rfl rfl rfl rfl rfl rfl) rfl ?_)
    rintro _ _ ⟨rfl, rfl⟩
    refine ⟨.nil, ?_⟩
    refine Dp rfl rfl (p_assign rfl rfl) ?_
    refine D_then (kp [2, 3, 4, 6, 9, 10, 11, 12, 13, 14] rfl) ?_
    refine ⟨(b5, b4, q, r, ok), hok, (.cons rfl (.cons rfl (.cons rfl (.cons rfl (.cons rfl (.cons rfl (.cons rfl (.cons rfl (.cons rfl (.cons rfl (.nil _))))))))))), (by (try dsimp only); repeat (first | exact HSub.nil _ | refine HSub.take (by repeat first | exact Take.head | apply Take.tail) ?_ | exact HSub.refl _ | refine HSub.drop ?_ | refine HSub.app ?_)), rfl⟩
   rintro ⟨x12, x13, q2, r2, ok2⟩ hok2
   refine V_seq ?_
   refine Vs rfl ?_
   refine Lm rfl rfl rfl ?_
   refine Lp rfl (p_not rfl rfl) ?_
   refine L_then (kp [2, 3, 4, 6, 9, 10, 11, 12, 13, 72] rfl) ?_
   refine V_cond rfl ?_ ?_
   ·intro c5; have c5r := c5; try simp only [td] at c5
    refine Vs rfl ?_
    refine Lp rfl (p_build (r := [_, _, _, _, _, _, _, _, _, _, _, _, _]) pl28 zr28 rfl rfl rfl) ?_
    refine Ls (cs' := [_, _, _, _, _, _, _, _, _, _, _, _, _]) rfl sz28 rfl rfl rfl rfl rfl rfl rfl ?_
    refine La rfl rfl rfl ?_
    refine L_then (kp [6, 7] rfl) ?_
    refine V_ret (then_r (blk_r (then_r (then_r (blk_r (then_r ?_))))))
    refine Leave.nil (.cellA (us := [_, _, _, _, _, _, _, _, _, _, _, _, _]) rfl ag28 sz28 (by repeat first | exact mH | apply mT) rfl (.tmp rfl .nil)) ?_
    rw [aheadP_ok he, foundP_none (aheadB_2 (av_some hok0 c3) (av_some hok1 c4) (av_none hok2 c5))]; rfl
   intro c5; have c5r := c5; try simp only [td] at c5
   refine V_skip (then_n ?_)
   refine V_draw (.rd 0 (.rd 1 (.rd 2 (.rd 3 (.rd 4 (.wr 5 [3, 1] (.rd 6 (.wr 7 [] .done)))))))) mixed (by kernel_rfl) rfl ?_
   iterate 2 refine Dm rfl rfl rfl rfl ?_
   iterate 2 refine Dr rfl rfl (rlA (vs := [_, _]) ag24 sz24 rfl rfl rfl) ?_
   refine Dp rfl rfl (p_idxao ar108 rfl rfl rfl (by omega) (by omega)) ?_
   refine D_wr (.go (E' := [(3, _)]) rfl (.plain rfl) (ws (cs' := [_, _, _, _, _, _]) sz24 rfl rfl rfl rfl rfl rfl rfl) rfl ?_)
   rintro _ _ ⟨rfl, rfl⟩
   refine ⟨(.cons rfl (.plain rfl) (rlA (vs := [_, _]) ag24 sz24 rfl rfl rfl) .nil), ?_⟩
   refine Dp rfl rfl (p_idxao ar108 rfl rfl rfl (by omega) (by omega)) ?_
   refine D_wr (.go (E' := []) rfl (.plain rfl) (ws (cs' := [_, _, _, _, _, _]) sz24 rfl rfl rfl rfl rfl rfl rfl) rfl ?_)
   rintro _ _ ⟨rfl, rfl⟩
   refine ⟨.nil, ?_⟩
   refine D_keep (kp [2, 3, 4, 6, 9, 10, 11] rfl) (blk_n (then_n ?_))
   refine V_region rfl ?_
   refine Lm rfl rfl rfl ?_
   first | refine Lp rfl (p_add' rfl rfl rfl (by unfold InI; omega)) ?_ | refine Lp rfl (p_add rfl rfl rfl) ?_
   refine La rfl rfl rfl ?_
   refine L_keep (kp [2, 3, 4, 6, 9, 10, 11] rfl) (then_n ?_)
   refine LU_step ?_
   refine V_seq ?_
   refine Vs rfl ?_
   refine Lm rfl rfl rfl ?_
   refine Lp rfl (p_lss rfl rfl rfl) ?_
   refine L_then (kp [2, 3, 4, 6, 9, 10, 11, 55] rfl) ?_
   refine V_cond_f rfl rfl ?_
   refine V_exit (then_e (then_e (blk_e rfl (then_n ?_))))
   refine Vs rfl ?_
   refine Lp rfl (p_fieldo fo28_0 rfl rfl) ?_
   refine Lr rfl (rl ag3 rfl rfl rfl) ?_
   refine Lm rfl rfl rfl ?_
   first | refine Lp rfl (p_add' rfl rfl rfl (by unfold InI; omega)) ?_ | refine Lp rfl (p_add rfl rfl rfl) ?_
   refine Lp rfl (p_idxao ar108 rfl rfl rfl (by omega) (by omega)) ?_
   refine Lr rfl (rlA (vs := [_, _]) ag24 sz24 rfl rfl rfl) ?_
   refine Lp rfl (p_idxao ar108 rfl rfl rfl (by omega) (by omega)) ?_
   refine Lr rfl (rlA (vs := [_, _]) ag24 sz24 rfl rfl rfl) ?_
   refine Lp rfl (p_idxao ar108 rfl rfl rfl (by omega) (by omega)) ?_
   refine Lr rfl (rlA (vs := [_, _]) ag24 sz24 rfl rfl rfl) ?_
   refine Lp rfl (p_idxao ar108 rfl rfl rfl (by omega) (by omega)) ?_
   refine Lr rfl (rlA (vs := [_, _]) ag24 sz24 rfl rfl rfl) ?_
   refine Lp rfl (p_idxao ar108 rfl rfl rfl (by omega) (by omega)) ?_
   refine Lr rfl (rlA (vs := [_, _]) ag24 sz24 rfl rfl rfl) ?_
   refine Lp rfl (p_idxao ar108 rfl rfl rfl (by omega) (by omega)) ?_
   refine Lr rfl (rlA (vs := [_, _]) ag24 sz24 rfl rfl rfl) ?_
   refine Lp rfl (p_build (r := [_, _, _, _, _, _, _, _, _, _, _, _, _]) pl28 zr28 rfl rfl rfl) ?_
   refine Ls (cs' := [_, _, _, _, _, _, _, _, _, _, _, _, _]) rfl sz28 rfl rfl rfl rfl rfl rfl rfl ?_
   refine La rfl rfl rfl ?_
   refine L_then (kp [6, 7] rfl) ?_
   refine V_ret ?_
   refine Leave.nil (.cellA (us := [_, _, _, _, _, _, _, _, _, _, _, _, _]) rfl ag28 sz28 (by repeat first | exact mH | apply mT) rfl (.tmp rfl .nil)) ?_
   rw [aheadP_ok he, foundP_some (aheadB_3 (av_some hok0 c3) (av_some hok1 c4) (av_some hok2 c5))]; rfl
  intro g1; have g1' := g1; try simp only [td] at g1'
  iterate 4 refine L_no rfl rfl rfl g1 ?_
  iterate 6 refine L_nou rfl rfl rfl ?_
  refine L_no rfl rfl rfl g1 ?_
  refine Lp rfl (p_pick_f rfl rfl g1 rfl) ?_
  refine L_then (kp [2, 3, 4, 6, 8, 35] rfl) ?_
  refine V_cond_f rfl rfl ?_
  refine V_skip (then_n ?_)
  refine V_seq ?_
  refine Vs rfl ?_
  refine Lm rfl rfl rfl ?_
  refine Lp rfl (p_neq rfl rfl rfl) ?_
  refine L_then (kp [2, 3, 4, 6, 8, 37] rfl) ?_
  refine V_cond_t rfl (by simp [g1']) ?_
  refine Vs rfl ?_
  refine Lp rfl (p_build (r := [_, _, _, _, _, _, _, _, _, _, _, _, _]) pl28 zr28 rfl rfl rfl) ?_
  refine Lm rfl rfl rfl ?_
  refine Ls (cs' := [_, _, _, _, _, _, _, _, _, _, _, _, _]) rfl sz28 rfl rfl rfl rfl rfl rfl rfl ?_
  refine La rfl rfl rfl ?_
  refine L_then (kp [6, 7] rfl) ?_
  refine V_ret (then_r ?_)
  refine Leave.nil (.cellA (us := [_, _, _, _, _, _, _, _, _, _, _, _, _]) rfl ag28 sz28 (by repeat first | exact mH | apply mT) rfl (.tmp rfl .nil)) ?_
  have hnb : ¬ BoxOk b := fun h => g1' (boxE_0 h)
  rw [aheadP_bad (aheadE_2 (asked_ok c1 rfl) hnb) (by decide), boxE_7 hnb]; rfl
 intro c1; have c1r := c1; try simp only [td] at c1
 refine V_skip (then_n ?_)
 refine V_seq ?_
 refine Vs rfl ?_
 refine Lm rfl rfl rfl ?_
 refine Lp rfl (p_eql rfl rfl rfl) ?_
 refine Lm rfl rfl rfl ?_
 iterate 4 refine L_no rfl rfl rfl (by simp [c1]) ?_
 iterate 6 refine L_nou rfl rfl rfl ?_
 refine L_no rfl rfl rfl (by simp [c1]) ?_
 refine Lp rfl (p_pick_f rfl rfl (by simp [c1]) rfl) ?_
 refine L_then (kp [2, 3, 4, 6, 8, 35] rfl) ?_
 refine V_cond_f rfl rfl ?_
 refine V_skip (then_n ?_)
 refine V_seq ?_
 refine Vs rfl ?_
 refine Lm rfl rfl rfl ?_
 refine Lp rfl (p_neq rfl rfl rfl) ?_
 refine L_then (kp [2, 3, 4, 6, 8, 37] rfl) ?_
 refine V_cond_t rfl (by simp [c1]) ?_
 refine Vs rfl ?_
 refine Lp rfl (p_build (r := [_, _, _, _, _, _, _, _, _, _, _, _, _]) pl28 zr28 rfl rfl rfl) ?_
 refine Lm rfl rfl rfl ?_
 refine Ls (cs' := [_, _, _, _, _, _, _, _, _, _, _, _, _]) rfl sz28 rfl rfl rfl rfl rfl rfl rfl ?_
 refine La rfl rfl rfl ?_
 refine L_then (kp [6, 7] rfl) ?_
 refine V_ret (then_r ?_)
 refine Leave.nil (.cellA (us := [_, _, _, _, _, _, _, _, _, _, _, _, _]) rfl ag28 sz28 (by repeat first | exact mH | apply mT) rfl (.tmp rfl .nil)) ?_
 rw [aheadP_bad (aheadE_1 (by rw [asked_bad c1]; exact c1)) (by rw [asked_bad c1]; exact c1), asked_bad c1]; rfl

end Go.Proofs.YtlcccpeelombbaaGreatDoor
