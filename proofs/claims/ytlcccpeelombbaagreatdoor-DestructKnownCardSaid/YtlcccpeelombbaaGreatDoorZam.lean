/- Joined texts. -/
import Derived.Test.YtlcccpeelombbaaGreatDoorZae
import Derived.Test.YtlcccpeelombbaaGreatDoorZaf
import Derived.Test.YtlcccpeelombbaaGreatDoorZag
/- YtlcccpeelombbaaGreatDoor: CheckBox and Ahead. -/
set_option linter.all false
namespace Go.Proofs.YtlcccpeelombbaaGreatDoor
open Go.Vc Go.Tk
set_option maxRecDepth 100000
set_option maxHeartbeats 4000000 in
theorem checkbox_c (b : Box) (w : World) : FnP Tryz.prog 30 [.agg (Box.cells b).toArray] w (.int .i64 (boxE b)) := by
 refine fn_pure Tryz.func30 rfl (by kernel_rfl) Tryz.ntmps30 Tryz.results30 rfl ?_
 refine Vs rfl ?_
 refine Lw rfl (w_box rfl rfl) ?_
 rintro _ _ ⟨b1, hb1, rfl, rfl⟩
 refine La rfl rfl rfl ?_
 refine L_then (kp [1] rfl) ?_
 refine V_seq ?_
 refine Vs rfl ?_
 refine Lp rfl (p_fieldo fo28_0 rfl rfl) ?_
 refine Lr rfl (rl ag3 rfl rfl rfl) ?_
 refine Lw rfl (w_slice (r := [_]) un53 sz3 zr3 rfl (by decide) rfl (by decide) rfl rfl) ?_
 rintro _ _ ⟨b2, hb2, rfl, rfl⟩
 refine Lc rfl rfl rfl rfl (fun w hg => never_c [_] _ w (own_ints (l := [_]) (hg.own _ (by repeat first | exact mH | apply mT)) rfl (by decide)) (by simp)) ?_
 refine L_then (kp [1, 9] rfl) ?_
 refine V_cond rfl ?_ ?_
 ·intro c1; try simp only [td] at c1
  try simp only [oP_true, oP_false] at c1
  refine Vs rfl ?_
  refine La rfl rfl rfl ?_
  refine L_then (kp [2] rfl) ?_
  refine V_ret (then_r ?_)
  refine Leave.nil (.tmp rfl .nil) ?_
  show Value.int .i64 7 = _
  rw [boxE_7 (by unfold BoxOk okS; omega)]
 intro c1; try simp only [td] at c1
 try simp only [oP_true, oP_false] at c1
 refine V_skip (then_n ?_)
 refine V_seq ?_
 refine Vs rfl ?_
 refine Lc rfl rfl rfl rfl (fun w hg => parts_c b1 w) ?_
 refine Lm rfl rfl rfl ?_
 refine L_then (kp [10, 11] rfl) ?_
 refine V_block ?_
 refine V_loopU ?_
 refine LU_step ?_
 refine Vs rfl ?_
 refine Lp rfl (p_lss rfl rfl rfl) ?_
 refine L_then (kp [10, 11, 12] rfl) ?_
 refine V_seq ?_
 refine V_cond_t rfl rfl ?_
 refine V_skip (then_n ?_)
 refine V_seq ?_
 refine V_block ?_
 refine Vs rfl ?_
 refine Lm rfl rfl rfl ?_
 refine Lp rfl (p_at un93 ag92 sz92 rfl rfl rfl (by omega) (by omega) rfl) ?_
 iterate 2 refine La rfl rfl rfl ?_
 refine L_then (kp [3, 4, 10, 11] rfl) ?_
 refine Vs rfl ?_
 refine La rfl rfl rfl ?_
 refine L_then (kp [3, 4, 5, 10, 11] rfl) ?_
 refine V_seq ?_
 refine Vs rfl ?_
 refine Lm rfl rfl rfl ?_
 refine Lp rfl (p_gtr rfl rfl rfl) ?_
 refine L_then (kp [4, 5, 10, 11, 16] rfl) ?_
 refine V_cond_f rfl rfl ?_
 refine V_skip (then_n ?_)
 refine V_seq (V_draw (.rd 0 (.rd 1 (.rd 2 (.rd 3 (.rd 4 (.rd 5 (.rd 6 (.rd 7 (.rd 8 (.wr 9 [7, 6, 5, 3, 2, 1, 0] (.wr 10 [8, 7, 6, 5, 4, 3, 2, 1] (.rd 11 (.rd 12 (.rd 13 (.rd 14 (.rd 15 (.rd 16 (.rd 17 (.rd 18 (.rd 19 (.rd 20 (.rd 21 .done)))))))))))))))))))))) mixed (by kernel_rfl) rfl ?_)
 iterate 2 refine Dm rfl rfl rfl rfl ?_
 refine Dp rfl rfl (p_nil rfl rfl) ?_
 refine Dp rfl rfl (p_fieldo fo24_0 rfl rfl) ?_
 refine Dr rfl rfl (rl ag3 rfl rfl rfl) ?_
 refine Dm rfl rfl rfl rfl ?_
 refine Dp rfl rfl (p_nil rfl rfl) ?_
 refine Dp rfl rfl (p_fieldo fo24_1 rfl rfl) ?_
 refine Dr rfl rfl (rl ag3 rfl rfl rfl) ?_
 refine D_wr (.go (E' := []) rfl (.plain rfl) (w_slice (r := [_, _]) un53 sz3 zr3 rfl (by decide) rfl (by decide) rfl rfl) rfl ?_)
 rintro _ _ ⟨b3, hb3, rfl, rfl⟩
 refine ⟨.nil, ?_⟩
 refine D_wr (.go (E' := []) rfl (.plain rfl) (w_callP rfl rfl rfl (fun w hg => wide_c _ (by decide) [_, _] _ w (own_ints (l := [_, _]) (hg.own _ (by repeat first | exact mH | apply mT)) rfl (by decide)) (by simp))) rfl ?_)
 rintro _ _ ⟨rfl, rfl⟩
 refine ⟨.nil, ?_⟩
 refine Dm rfl rfl rfl rfl ?_
 refine D_cases (d := 28) rfl ?_ ?_
 ·intro g1; have g1' := g1; try simp only [td] at g1'
  try simp only [oP_true, oP_false] at g1'
  iterate 9 refine D_no rfl (.mk' rfl rfl rfl g1) ?_
  refine Dp rfl rfl (p_pick_t rfl rfl g1 rfl) ?_
  refine D_then (kp [10, 11, 38] rfl) ?_
  refine V_cond_t rfl rfl ?_
  refine Vs rfl ?_
  refine La rfl rfl rfl ?_
  refine L_then (kp [2] rfl) ?_
  refine V_ret (blk_r (then_r (then_r (blk_r (then_r ?_)))))
  refine Leave.nil (.tmp rfl .nil) ?_
  show Value.int .i64 7 = _
  rw [boxE_7 (by unfold BoxOk okS; omega)]
 intro g1; have g1' := g1; try simp only [td] at g1'
 try simp only [oP_true, oP_false] at g1'
 refine D_p rfl (.yes rfl rfl rfl g1) (p_move rfl rfl) ?_
 refine D_p rfl (.yes rfl rfl rfl g1) (p_nil rfl rfl) ?_
 refine D_p rfl (.yes rfl rfl rfl g1) (p_fieldo fo24_0 rfl rfl) ?_
 refine D_rd rfl (.yes rfl rfl rfl g1) (rl ag3 rfl rfl rfl) ?_
 refine D_p rfl (.yes rfl rfl rfl g1) (p_move rfl rfl) ?_
 refine D_p rfl (.yes rfl rfl rfl g1) (p_nil rfl rfl) ?_
 refine D_p rfl (.yes rfl rfl rfl g1) (p_fieldo fo24_1 rfl rfl) ?_
 refine D_rd rfl (.yes rfl rfl rfl g1) (rl ag3 rfl rfl rfl) ?_
 refine D_p rfl (.yes rfl rfl rfl g1) (p_gtr rfl rfl rfl) ?_
 refine Dp rfl rfl (p_pick_f rfl rfl g1 rfl) ?_
 refine D_then (kp [10, 11, 38] rfl) ?_
 refine V_cond rfl ?_ ?_
 ·intro c2; try simp only [td] at c2
  try simp only [oP_true, oP_false] at c2
  refine Vs rfl ?_
  refine La rfl rfl rfl ?_
  refine L_then (kp [2] rfl) ?_
  refine V_ret (blk_r (then_r (then_r (blk_r (then_r ?_)))))
  refine Leave.nil (.tmp rfl .nil) ?_
  show Value.int .i64 7 = _
  rw [boxE_7 (by unfold BoxOk okS; omega)]
 intro c2; try simp only [td] at c2
 try simp only [oP_true, oP_false] at c2
 refine V_skip (blk_n (then_n ?_))
 refine V_region rfl ?_
 first | refine Lp rfl (p_add' rfl rfl rfl (by unfold InI; omega)) ?_ | refine Lp rfl (p_add rfl rfl rfl) ?_
 refine Lm rfl rfl rfl ?_
 refine L_keep (kp [10, 11] rfl) (then_n ?_)
 refine LU_step ?_
 refine Vs rfl ?_
 refine Lp rfl (p_lss rfl rfl rfl) ?_
 refine L_then (kp [10, 11, 12] rfl) ?_
 refine V_seq ?_
 refine V_cond_t rfl rfl ?_
 refine V_skip (then_n ?_)
 refine V_seq ?_
 refine V_block ?_
 refine Vs rfl ?_
 refine Lm rfl rfl rfl ?_
 refine Lp rfl (p_at un93 ag92 sz92 rfl rfl rfl (by omega) (by omega) rfl) ?_
 iterate 2 refine La rfl rfl rfl ?_
 refine L_then (kp [3, 4, 10, 11] rfl) ?_
 refine Vs rfl ?_
 refine La rfl rfl rfl ?_
 refine L_then (kp [3, 4, 5, 10, 11] rfl) ?_
 refine V_seq ?_
 refine Vs rfl ?_
 refine Lm rfl rfl rfl ?_
 refine Lp rfl (p_gtr rfl rfl rfl) ?_
 refine L_then (kp [4, 5, 10, 11, 16] rfl) ?_
 refine V_cond_f rfl rfl ?_
 refine V_skip (then_n ?_)
 refine V_seq (V_draw (.rd 0 (.rd 1 (.rd 2 (.rd 3 (.rd 4 (.rd 5 (.rd 6 (.rd 7 (.rd 8 (.wr 9 [7, 6, 5, 3, 2, 1, 0] (.wr 10 [8, 7, 6, 5, 4, 3, 2, 1] (.rd 11 (.rd 12 (.rd 13 (.rd 14 (.rd 15 (.rd 16 (.rd 17 (.rd 18 (.rd 19 (.rd 20 (.rd 21 .done)))))))))))))))))))))) mixed (by kernel_rfl) rfl ?_)
 iterate 2 refine Dm rfl rfl rfl rfl ?_
 refine Dp rfl rfl (p_nil rfl rfl) ?_
 refine Dp rfl rfl (p_fieldo fo24_0 rfl rfl) ?_
 refine Dr rfl rfl (rl ag3 rfl rfl rfl) ?_
 refine Dm rfl rfl rfl rfl ?_
 refine Dp rfl rfl (p_nil rfl rfl) ?_
 refine Dp rfl rfl (p_fieldo fo24_1 rfl rfl) ?_
 refine Dr rfl rfl (rl ag3 rfl rfl rfl) ?_
 refine D_wr (.go (E' := []) rfl (.plain rfl) (w_slice (r := [_, _]) un53 sz3 zr3 rfl (by decide) rfl (by decide) rfl rfl) rfl ?_)
 rintro _ _ ⟨b4, hb4, rfl, rfl⟩
 refine ⟨.nil, ?_⟩
 refine D_wr (.go (E' := []) rfl (.plain rfl) (w_callP rfl rfl rfl (fun w hg => wide_c _ (by decide) [_, _] _ w (own_ints (l := [_, _]) (hg.own _ (by repeat first | exact mH | apply mT)) rfl (by decide)) (by simp))) rfl ?_)
 rintro _ _ ⟨rfl, rfl⟩
 refine ⟨.nil, ?_⟩
 refine Dm rfl rfl rfl rfl ?_
 refine D_cases (d := 28) rfl ?_ ?_
 ·intro g2; have g2' := g2; try simp only [td] at g2'
  try simp only [oP_true, oP_false] at g2'
  iterate 9 refine D_no rfl (.mk' rfl rfl rfl g2) ?_
  refine Dp rfl rfl (p_pick_t rfl rfl g2 rfl) ?_
  refine D_then (kp [10, 11, 38] rfl) ?_
  refine V_cond_t rfl rfl ?_
  refine Vs rfl ?_
  refine La rfl rfl rfl ?_
  refine L_then (kp [2] rfl) ?_
  refine V_ret (blk_r (then_r (then_r (blk_r (then_r ?_)))))
  refine Leave.nil (.tmp rfl .nil) ?_
  show Value.int .i64 7 = _
  rw [boxE_7 (by unfold BoxOk okS; omega)]
 intro g2; have g2' := g2; try simp only [td] at g2'
 try simp only [oP_true, oP_false] at g2'
 refine D_p rfl (.yes rfl rfl rfl g2) (p_move rfl rfl) ?_
 refine D_p rfl (.yes rfl rfl rfl g2) (p_nil rfl rfl) ?_
 refine D_p rfl (.yes rfl rfl rfl g2) (p_fieldo fo24_0 rfl rfl) ?_
 refine D_rd rfl (.yes rfl rfl rfl g2) (rl ag3 rfl rfl rfl) ?_
 refine D_p rfl (.yes rfl rfl rfl g2) (p_move rfl rfl) ?_
 refine D_p rfl (.yes rfl rfl rfl g2) (p_nil rfl rfl) ?_
 refine D_p rfl (.yes rfl rfl rfl g2) (p_fieldo fo24_1 rfl rfl) ?_
 refine D_rd rfl (.yes rfl rfl rfl g2) (rl ag3 rfl rfl rfl) ?_
 refine D_p rfl (.yes rfl rfl rfl g2) (p_gtr rfl rfl rfl) ?_
 refine Dp rfl rfl (p_pick_f rfl rfl g2 rfl) ?_
 refine D_then (kp [10, 11, 38] rfl) ?_
 refine V_cond rfl ?_ ?_
 ·intro c3; try simp only [td] at c3
  try simp only [oP_true, oP_false] at c3
  refine Vs rfl ?_
  refine La rfl rfl rfl ?_
  refine L_then (kp [2] rfl) ?_
  refine V_ret (blk_r (then_r (then_r (blk_r (then_r ?_)))))
  refine Leave.nil (.tmp rfl .nil) ?_
  show Value.int .i64 7 = _
  rw [boxE_7 (by unfold BoxOk okS; omega)]
 intro c3; try simp only [td] at c3
 try simp only [oP_true, oP_false] at c3
 refine V_skip (blk_n (then_n ?_))
 refine V_region rfl ?_
 first | refine Lp rfl (p_add' rfl rfl rfl (by unfold InI; omega)) ?_ | refine Lp rfl (p_add rfl rfl rfl) ?_
 refine Lm rfl rfl rfl ?_
 refine L_keep (kp [10, 11] rfl) (then_n ?_)
 refine LU_step ?_
 refine Vs rfl ?_
 refine Lp rfl (p_lss rfl rfl rfl) ?_
 refine L_then (kp [10, 11, 12] rfl) ?_
 refine V_seq ?_
 refine V_cond_t rfl rfl ?_
 refine V_skip (then_n ?_)
 refine V_seq ?_
 refine V_block ?_
 refine Vs rfl ?_
 refine Lm rfl rfl rfl ?_
 refine Lp rfl (p_at un93 ag92 sz92 rfl rfl rfl (by omega) (by omega) rfl) ?_
 iterate 2 refine La rfl rfl rfl ?_
 refine L_then (kp [3, 4, 10, 11] rfl) ?_
 refine Vs rfl ?_
 refine La rfl rfl rfl ?_
 refine L_then (kp [3, 4, 5, 10, 11] rfl) ?_
 refine V_seq ?_
 refine Vs rfl ?_
 refine Lm rfl rfl rfl ?_
 refine Lp rfl (p_gtr rfl rfl rfl) ?_
 refine L_then (kp [4, 5, 10, 11, 16] rfl) ?_
 refine V_cond_f rfl rfl ?_
 refine V_skip (then_n ?_)
 refine V_seq (V_draw (.rd 0 (.rd 1 (.rd 2 (.rd 3 (.rd 4 (.rd 5 (.rd 6 (.rd 7 (.rd 8 (.wr 9 [7, 6, 5, 3, 2, 1, 0] (.wr 10 [8, 7, 6, 5, 4, 3, 2, 1] (.rd 11 (.rd 12 (.rd 13 (.rd 14 (.rd 15 (.rd 16 (.rd 17 (.rd 18 (.rd 19 (.rd 20 (.rd 21 .done)))))))))))))))))))))) mixed (by kernel_rfl) rfl ?_)
 iterate 2 refine Dm rfl rfl rfl rfl ?_
 refine Dp rfl rfl (p_nil rfl rfl) ?_
 refine Dp rfl rfl (p_fieldo fo24_0 rfl rfl) ?_
 refine Dr rfl rfl (rl ag3 rfl rfl rfl) ?_
 refine Dm rfl rfl rfl rfl ?_
 refine Dp rfl rfl (p_nil rfl rfl) ?_
 refine Dp rfl rfl (p_fieldo fo24_1 rfl rfl) ?_
 refine Dr rfl rfl (rl ag3 rfl rfl rfl) ?_
 refine D_wr (.go (E' := []) rfl (.plain rfl) (w_slice (r := [_, _]) un53 sz3 zr3 rfl (by decide) rfl (by decide) rfl rfl) rfl ?_)
 rintro _ _ ⟨b5, hb5, rfl, rfl⟩
 refine ⟨.nil, ?_⟩
 refine D_wr (.go (E' := []) rfl (.plain rfl) (w_callP rfl rfl rfl (fun w hg => wide_c _ (by decide) [_, _] _ w (own_ints (l := [_, _]) (hg.own _ (by repeat first | exact mH | apply mT)) rfl (by decide)) (by simp))) rfl ?_)
 rintro _ _ ⟨rfl, rfl⟩
 refine ⟨.nil, ?_⟩
 refine Dm rfl rfl rfl rfl ?_
 refine D_cases (d := 28) rfl ?_ ?_
 ·intro g3; have g3' := g3; try simp only [td] at g3'
  try simp only [oP_true, oP_false] at g3'
  iterate 9 refine D_no rfl (.mk' rfl rfl rfl g3) ?_
  refine Dp rfl rfl (p_pick_t rfl rfl g3 rfl) ?_
  refine D_then (kp [10, 11, 38] rfl) ?_
  refine V_cond_t rfl rfl ?_
  refine Vs rfl ?_
  refine La rfl rfl rfl ?_
  refine L_then (kp [2] rfl) ?_
  refine V_ret (blk_r (then_r (then_r (blk_r (then_r ?_)))))
  refine Leave.nil (.tmp rfl .nil) ?_
  show Value.int .i64 7 = _
  rw [boxE_7 (by unfold BoxOk okS; omega)]
 intro g3; have g3' := g3; try simp only [td] at g3'
 try simp only [oP_true, oP_false] at g3'
 refine D_p rfl (.yes rfl rfl rfl g3) (p_move rfl rfl) ?_
 refine D_p rfl (.yes rfl rfl rfl g3) (p_nil rfl rfl) ?_
 refine D_p rfl (.yes rfl rfl rfl g3) (p_fieldo fo24_0 rfl rfl) ?_
 refine D_rd rfl (.yes rfl rfl rfl g3) (rl ag3 rfl rfl rfl) ?_
 refine D_p rfl (.yes rfl rfl rfl g3) (p_move rfl rfl) ?_
 refine D_p rfl (.yes rfl rfl rfl g3) (p_nil rfl rfl) ?_
 refine D_p rfl (.yes rfl rfl rfl g3) (p_fieldo fo24_1 rfl rfl) ?_
 refine D_rd rfl (.yes rfl rfl rfl g3) (rl ag3 rfl rfl rfl) ?_
 refine D_p rfl (.yes rfl rfl rfl g3) (p_gtr rfl rfl rfl) ?_
 refine Dp rfl rfl (p_pick_f rfl rfl g3 rfl) ?_
 refine D_then (kp [10, 11, 38] rfl) ?_
 refine V_cond rfl ?_ ?_
 ·intro c4; try simp only [td] at c4
  try simp only [oP_true, oP_false] at c4
  refine Vs rfl ?_
  refine La rfl rfl rfl ?_
  refine L_then (kp [2] rfl) ?_
  refine V_ret (blk_r (then_r (then_r (blk_r (then_r ?_)))))
  refine Leave.nil (.tmp rfl .nil) ?_
  show Value.int .i64 7 = _
  rw [boxE_7 (by unfold BoxOk okS; omega)]
 intro c4; try simp only [td] at c4
 try simp only [oP_true, oP_false] at c4
 refine V_skip (blk_n (then_n ?_))
 refine V_region rfl ?_
 first | refine Lp rfl (p_add' rfl rfl rfl (by unfold InI; omega)) ?_ | refine Lp rfl (p_add rfl rfl rfl) ?_
 refine Lm rfl rfl rfl ?_
 refine L_keep (kp [10, 11] rfl) (then_n ?_)
 refine LU_step ?_
 refine Vs rfl ?_
 refine Lp rfl (p_lss rfl rfl rfl) ?_
 refine L_then (kp [10, 11, 12] rfl) ?_
 refine V_seq ?_
 refine V_cond_t rfl rfl ?_
 refine V_skip (then_n ?_)
 refine V_seq ?_
 refine V_block ?_
 refine Vs rfl ?_
 refine Lm rfl rfl rfl ?_
 refine Lp rfl (p_at un93 ag92 sz92 rfl rfl rfl (by omega) (by omega) rfl) ?_
 iterate 2 refine La rfl rfl rfl ?_
 refine L_then (kp [3, 4, 10, 11] rfl) ?_
 refine Vs rfl ?_
 refine La rfl rfl rfl ?_
 refine L_then (kp [3, 4, 5, 10, 11] rfl) ?_
 refine V_seq ?_
 refine Vs rfl ?_
 refine Lm rfl rfl rfl ?_
 refine Lp rfl (p_gtr rfl rfl rfl) ?_
 refine L_then (kp [4, 5, 10, 11, 16] rfl) ?_
 refine V_cond_t rfl rfl ?_
 refine V_region rfl ?_
 refine La rfl rfl rfl ?_
 refine L_then (kp [4, 5, 10, 11] rfl) ?_
 refine V_seq (V_draw (.rd 0 (.rd 1 (.rd 2 (.rd 3 (.rd 4 (.rd 5 (.rd 6 (.rd 7 (.rd 8 (.wr 9 [7, 6, 5, 3, 2, 1, 0] (.wr 10 [8, 7, 6, 5, 4, 3, 2, 1] (.rd 11 (.rd 12 (.rd 13 (.rd 14 (.rd 15 (.rd 16 (.rd 17 (.rd 18 (.rd 19 (.rd 20 (.rd 21 .done)))))))))))))))))))))) mixed (by kernel_rfl) rfl ?_)
 iterate 2 refine Dm rfl rfl rfl rfl ?_
 refine Dp rfl rfl (p_nil rfl rfl) ?_
 refine Dp rfl rfl (p_fieldo fo24_0 rfl rfl) ?_
 refine Dr rfl rfl (rl ag3 rfl rfl rfl) ?_
 refine Dm rfl rfl rfl rfl ?_
 refine Dp rfl rfl (p_nil rfl rfl) ?_
 refine Dp rfl rfl (p_fieldo fo24_1 rfl rfl) ?_
 refine Dr rfl rfl (rl ag3 rfl rfl rfl) ?_
 refine D_wr (.go (E' := []) rfl (.plain rfl) (w_slice (r := [_, _]) un53 sz3 zr3 rfl (by decide) rfl (by decide) rfl rfl) rfl ?_)
 rintro _ _ ⟨b6, hb6, rfl, rfl⟩
 refine ⟨.nil, ?_⟩
 refine D_wr (.go (E' := []) rfl (.plain rfl) (w_callP rfl rfl rfl (fun w hg => wide_c _ (by decide) [_, _] _ w (own_ints (l := [_, _]) (hg.own _ (by repeat first | exact mH | apply mT)) rfl (by decide)) (by simp))) rfl ?_)
 rintro _ _ ⟨rfl, rfl⟩
 refine ⟨.nil, ?_⟩
 refine Dm rfl rfl rfl rfl ?_
 refine D_cases (d := 28) rfl ?_ ?_
 ·intro g4; have g4' := g4; try simp only [td] at g4'
  try simp only [oP_true, oP_false] at g4'
  iterate 9 refine D_no rfl (.mk' rfl rfl rfl g4) ?_
  refine Dp rfl rfl (p_pick_t rfl rfl g4 rfl) ?_
  refine D_then (kp [10, 11, 38] rfl) ?_
  refine V_cond_t rfl rfl ?_
  refine Vs rfl ?_
  refine La rfl rfl rfl ?_
  refine L_then (kp [2] rfl) ?_
  refine V_ret (blk_r (then_r (then_r (blk_r (then_r ?_)))))
  refine Leave.nil (.tmp rfl .nil) ?_
  show Value.int .i64 7 = _
  rw [boxE_7 (by unfold BoxOk okS; omega)]
 intro g4; have g4' := g4; try simp only [td] at g4'
 try simp only [oP_true, oP_false] at g4'
 refine D_p rfl (.yes rfl rfl rfl g4) (p_move rfl rfl) ?_
 refine D_p rfl (.yes rfl rfl rfl g4) (p_nil rfl rfl) ?_
 refine D_p rfl (.yes rfl rfl rfl g4) (p_fieldo fo24_0 rfl rfl) ?_
 refine D_rd rfl (.yes rfl rfl rfl g4) (rl ag3 rfl rfl rfl) ?_
 refine D_p rfl (.yes rfl rfl rfl g4) (p_move rfl rfl) ?_
 refine D_p rfl (.yes rfl rfl rfl g4) (p_nil rfl rfl) ?_
 refine D_p rfl (.yes rfl rfl rfl g4) (p_fieldo fo24_1 rfl rfl) ?_
 refine D_rd rfl (.yes rfl rfl rfl g4) (rl ag3 rfl rfl rfl) ?_
 refine D_p rfl (.yes rfl rfl rfl g4) (p_gtr rfl rfl rfl) ?_
 refine Dp rfl rfl (p_pick_f rfl rfl g4 rfl) ?_
 refine D_then (kp [10, 11, 38] rfl) ?_
 refine V_cond rfl ?_ ?_
 ·intro c5; try simp only [td] at c5
  try simp only [oP_true, oP_false] at c5
  refine Vs rfl ?_
  refine La rfl rfl rfl ?_
  refine L_then (kp [2] rfl) ?_
  refine V_ret (blk_r (then_r (then_r (blk_r (then_r ?_)))))
  refine Leave.nil (.tmp rfl .nil) ?_
  show Value.int .i64 7 = _
  rw [boxE_7 (by unfold BoxOk okS; omega)]
 intro c5; try simp only [td] at c5
 try simp only [oP_true, oP_false] at c5
 refine V_skip (blk_n (then_n ?_))
 refine V_region rfl ?_
 first | refine Lp rfl (p_add' rfl rfl rfl (by unfold InI; omega)) ?_ | refine Lp rfl (p_add rfl rfl rfl) ?_
 refine Lm rfl rfl rfl ?_
 refine L_keep (kp [10, 11] rfl) (then_n ?_)
 refine LU_step ?_
 refine Vs rfl ?_
 refine Lp rfl (p_lss rfl rfl rfl) ?_
 refine L_then (kp [10, 11, 12] rfl) ?_
 refine V_seq ?_
 refine V_cond_t rfl rfl ?_
 refine V_skip (then_n ?_)
 refine V_seq ?_
 refine V_block ?_
 refine Vs rfl ?_
 refine Lm rfl rfl rfl ?_
 refine Lp rfl (p_at un93 ag92 sz92 rfl rfl rfl (by omega) (by omega) rfl) ?_
 iterate 2 refine La rfl rfl rfl ?_
 refine L_then (kp [3, 4, 10, 11] rfl) ?_
 refine Vs rfl ?_
 refine La rfl rfl rfl ?_
 refine L_then (kp [3, 4, 5, 10, 11] rfl) ?_
 refine V_seq ?_
 refine Vs rfl ?_
 refine Lm rfl rfl rfl ?_
 refine Lp rfl (p_gtr rfl rfl rfl) ?_
 refine L_then (kp [4, 5, 10, 11, 16] rfl) ?_
 refine V_cond_t rfl rfl ?_
 refine V_region rfl ?_
 refine La rfl rfl rfl ?_
 refine L_then (kp [4, 5, 10, 11] rfl) ?_
 refine V_seq (V_draw (.rd 0 (.rd 1 (.rd 2 (.rd 3 (.rd 4 (.rd 5 (.rd 6 (.rd 7 (.rd 8 (.wr 9 [7, 6, 5, 3, 2, 1, 0] (.wr 10 [8, 7, 6, 5, 4, 3, 2, 1] (.rd 11 (.rd 12 (.rd 13 (.rd 14 (.rd 15 (.rd 16 (.rd 17 (.rd 18 (.rd 19 (.rd 20 (.rd 21 .done)))))))))))))))))))))) mixed (by kernel_rfl) rfl ?_)
 iterate 2 refine Dm rfl rfl rfl rfl ?_
 refine Dp rfl rfl (p_nil rfl rfl) ?_
 refine Dp rfl rfl (p_fieldo fo24_0 rfl rfl) ?_
 refine Dr rfl rfl (rl ag3 rfl rfl rfl) ?_
 refine Dm rfl rfl rfl rfl ?_
 refine Dp rfl rfl (p_nil rfl rfl) ?_
 refine Dp rfl rfl (p_fieldo fo24_1 rfl rfl) ?_
 refine Dr rfl rfl (rl ag3 rfl rfl rfl) ?_
 refine D_wr (.go (E' := []) rfl (.plain rfl) (w_slice (r := [_, _]) un53 sz3 zr3 rfl (by decide) rfl (by decide) rfl rfl) rfl ?_)
 rintro _ _ ⟨b7, hb7, rfl, rfl⟩
 refine ⟨.nil, ?_⟩
 refine D_wr (.go (E' := []) rfl (.plain rfl) (w_callP rfl rfl rfl (fun w hg => wide_c _ (by decide) [_, _] _ w (own_ints (l := [_, _]) (hg.own _ (by repeat first | exact mH | apply mT)) rfl (by decide)) (by simp))) rfl ?_)
 rintro _ _ ⟨rfl, rfl⟩
 refine ⟨.nil, ?_⟩
 refine Dm rfl rfl rfl rfl ?_
 refine D_cases (d := 28) rfl ?_ ?_
 ·intro g5; have g5' := g5; try simp only [td] at g5'
  try simp only [oP_true, oP_false] at g5'
  iterate 9 refine D_no rfl (.mk' rfl rfl rfl g5) ?_
  refine Dp rfl rfl (p_pick_t rfl rfl g5 rfl) ?_
  refine D_then (kp [10, 11, 38] rfl) ?_
  refine V_cond_t rfl rfl ?_
  refine Vs rfl ?_
  refine La rfl rfl rfl ?_
  refine L_then (kp [2] rfl) ?_
  refine V_ret (blk_r (then_r (then_r (blk_r (then_r ?_)))))
  refine Leave.nil (.tmp rfl .nil) ?_
  show Value.int .i64 7 = _
  rw [boxE_7 (by unfold BoxOk okS; omega)]
 intro g5; have g5' := g5; try simp only [td] at g5'
 try simp only [oP_true, oP_false] at g5'
 refine D_p rfl (.yes rfl rfl rfl g5) (p_move rfl rfl) ?_
 refine D_p rfl (.yes rfl rfl rfl g5) (p_nil rfl rfl) ?_
 refine D_p rfl (.yes rfl rfl rfl g5) (p_fieldo fo24_0 rfl rfl) ?_
 refine D_rd rfl (.yes rfl rfl rfl g5) (rl ag3 rfl rfl rfl) ?_
 refine D_p rfl (.yes rfl rfl rfl g5) (p_move rfl rfl) ?_
 refine D_p rfl (.yes rfl rfl rfl g5) (p_nil rfl rfl) ?_
 refine D_p rfl (.yes rfl rfl rfl g5) (p_fieldo fo24_1 rfl rfl) ?_
 refine D_rd rfl (.yes rfl rfl rfl g5) (rl ag3 rfl rfl rfl) ?_
 refine D_p rfl (.yes rfl rfl rfl g5) (p_gtr rfl rfl rfl) ?_
 refine Dp rfl rfl (p_pick_f rfl rfl g5 rfl) ?_
 refine D_then (kp [10, 11, 38] rfl) ?_
 refine V_cond rfl ?_ ?_
 ·intro c6; try simp only [td] at c6
  try simp only [oP_true, oP_false] at c6
  refine Vs rfl ?_
  refine La rfl rfl rfl ?_
  refine L_then (kp [2] rfl) ?_
  refine V_ret (blk_r (then_r (then_r (blk_r (then_r ?_)))))
  refine Leave.nil (.tmp rfl .nil) ?_
  show Value.int .i64 7 = _
  rw [boxE_7 (by unfold BoxOk okS; omega)]
 intro c6; try simp only [td] at c6
 try simp only [oP_true, oP_false] at c6
 refine V_skip (blk_n (then_n ?_))
 refine V_region rfl ?_
 first | refine Lp rfl (p_add' rfl rfl rfl (by unfold InI; omega)) ?_ | refine Lp rfl (p_add rfl rfl rfl) ?_
 refine Lm rfl rfl rfl ?_
 refine L_keep (kp [10, 11] rfl) (then_n ?_)
 refine LU_step ?_
 refine Vs rfl ?_
 refine Lp rfl (p_lss rfl rfl rfl) ?_
 refine L_then (kp [10, 11, 12] rfl) ?_
 refine V_seq ?_
 refine V_cond_t rfl rfl ?_
 refine V_skip (then_n ?_)
 refine V_seq ?_
 refine V_block ?_
 refine Vs rfl ?_
 refine Lm rfl rfl rfl ?_
 refine Lp rfl (p_at un93 ag92 sz92 rfl rfl rfl (by omega) (by omega) rfl) ?_
 iterate 2 refine La rfl rfl rfl ?_
 refine L_then (kp [3, 4, 10, 11] rfl) ?_
 refine Vs rfl ?_
 refine La rfl rfl rfl ?_
 refine L_then (kp [3, 4, 5, 10, 11] rfl) ?_
 refine V_seq ?_
 refine Vs rfl ?_
 refine Lm rfl rfl rfl ?_
 refine Lp rfl (p_gtr rfl rfl rfl) ?_
 refine L_then (kp [4, 5, 10, 11, 16] rfl) ?_
 refine V_cond_t rfl rfl ?_
 refine V_region rfl ?_
 refine La rfl rfl rfl ?_
 refine L_then (kp [4, 5, 10, 11] rfl) ?_
 refine V_seq (V_draw (.rd 0 (.rd 1 (.rd 2 (.rd 3 (.rd 4 (.rd 5 (.rd 6 (.rd 7 (.rd 8 (.wr 9 [7, 6, 5, 3, 2, 1, 0] (.wr 10 [8, 7, 6, 5, 4, 3, 2, 1] (.rd 11 (.rd 12 (.rd 13 (.rd 14 (.rd 15 (.rd 16 (.rd 17 (.rd 18 (.rd 19 (.rd 20 (.rd 21 .done)))))))))))))))))))))) mixed (by kernel_rfl) rfl ?_)
 iterate 2 refine Dm rfl rfl rfl rfl ?_
 refine Dp rfl rfl (p_nil rfl rfl) ?_
 refine Dp rfl rfl (p_fieldo fo24_0 rfl rfl) ?_
 refine Dr rfl rfl (rl ag3 rfl rfl rfl) ?_
 refine Dm rfl rfl rfl rfl ?_
 refine Dp rfl rfl (p_nil rfl rfl) ?_
 refine Dp rfl rfl (p_fieldo fo24_1 rfl rfl) ?_
 refine Dr rfl rfl (rl ag3 rfl rfl rfl) ?_
 refine D_wr (.go (E' := []) rfl (.plain rfl) (w_slice (r := [_, _]) un53 sz3 zr3 rfl (by decide) rfl (by decide) rfl rfl) rfl ?_)
 rintro _ _ ⟨b8, hb8, rfl, rfl⟩
 refine ⟨.nil, ?_⟩
 refine D_wr (.go (E' := []) rfl (.plain rfl) (w_callP rfl rfl rfl (fun w hg => wide_c _ (by decide) [_, _] _ w (own_ints (l := [_, _]) (hg.own _ (by repeat first | exact mH | apply mT)) rfl (by decide)) (by simp))) rfl ?_)
 rintro _ _ ⟨rfl, rfl⟩
 refine ⟨.nil, ?_⟩
 refine Dm rfl rfl rfl rfl ?_
 refine D_cases (d := 28) rfl ?_ ?_
 ·intro g6; have g6' := g6; try simp only [td] at g6'
  try simp only [oP_true, oP_false] at g6'
  iterate 9 refine D_no rfl (.mk' rfl rfl rfl g6) ?_
  refine Dp rfl rfl (p_pick_t rfl rfl g6 rfl) ?_
  refine D_then (kp [10, 11, 38] rfl) ?_
  refine V_cond_t rfl rfl ?_
  refine Vs rfl ?_
  refine La rfl rfl rfl ?_
  refine L_then (kp [2] rfl) ?_
  refine V_ret (blk_r (then_r (then_r (blk_r (then_r ?_)))))
  refine Leave.nil (.tmp rfl .nil) ?_
  show Value.int .i64 7 = _
  rw [boxE_7 (by unfold BoxOk okS; omega)]
 intro g6; have g6' := g6; try simp only [td] at g6'
 try simp only [oP_true, oP_false] at g6'
 refine D_p rfl (.yes rfl rfl rfl g6) (p_move rfl rfl) ?_
 refine D_p rfl (.yes rfl rfl rfl g6) (p_nil rfl rfl) ?_
 refine D_p rfl (.yes rfl rfl rfl g6) (p_fieldo fo24_0 rfl rfl) ?_
 refine D_rd rfl (.yes rfl rfl rfl g6) (rl ag3 rfl rfl rfl) ?_
 refine D_p rfl (.yes rfl rfl rfl g6) (p_move rfl rfl) ?_
 refine D_p rfl (.yes rfl rfl rfl g6) (p_nil rfl rfl) ?_
 refine D_p rfl (.yes rfl rfl rfl g6) (p_fieldo fo24_1 rfl rfl) ?_
 refine D_rd rfl (.yes rfl rfl rfl g6) (rl ag3 rfl rfl rfl) ?_
 refine D_p rfl (.yes rfl rfl rfl g6) (p_gtr rfl rfl rfl) ?_
 refine Dp rfl rfl (p_pick_f rfl rfl g6 rfl) ?_
 refine D_then (kp [10, 11, 38] rfl) ?_
 refine V_cond rfl ?_ ?_
 ·intro c7; try simp only [td] at c7
  try simp only [oP_true, oP_false] at c7
  refine Vs rfl ?_
  refine La rfl rfl rfl ?_
  refine L_then (kp [2] rfl) ?_
  refine V_ret (blk_r (then_r (then_r (blk_r (then_r ?_)))))
  refine Leave.nil (.tmp rfl .nil) ?_
  show Value.int .i64 7 = _
  rw [boxE_7 (by unfold BoxOk okS; omega)]
 intro c7; try simp only [td] at c7
 try simp only [oP_true, oP_false] at c7
 refine V_skip (blk_n (then_n ?_))
 refine V_region rfl ?_
 first | refine Lp rfl (p_add' rfl rfl rfl (by unfold InI; omega)) ?_ | refine Lp rfl (p_add rfl rfl rfl) ?_
 refine Lm rfl rfl rfl ?_
 refine L_keep (kp [10, 11] rfl) (then_n ?_)
 refine LU_step ?_
 refine Vs rfl ?_
 refine Lp rfl (p_lss rfl rfl rfl) ?_
 refine L_then (kp [10, 11, 12] rfl) ?_
 refine V_seq ?_
 refine V_cond_f rfl rfl ?_
 refine V_exit (then_e (then_e (blk_e rfl (then_n ?_))))
 refine Vs rfl ?_
 refine La rfl rfl rfl ?_
 refine L_then (kp [2] rfl) ?_
 refine V_ret ?_
 refine Leave.nil (.tmp rfl .nil) ?_
 show Value.int .i64 0 = _
 rw [boxE_0 (by unfold BoxOk okS; omega)]
set_option maxHeartbeats 16000000 in
theorem ahead_c (b : Box) (t : Task) (tv pv : Value) (n : Int) (w : World) (ht : TaskR w (.agg #[.int .i64 t.frm, .int .i64 t.speed, .int .i64 t.accel, tv, pv]) t) : FnP Tryz.prog 79 [.agg #[.int .i64 t.frm, .int .i64 t.speed, .int .i64 t.accel, tv, pv], .agg (Box.cells b).toArray, .int .i64 n] w (.tuple #[.agg (Box.cells (aheadP t b n).1).toArray, .int .i64 (aheadP t b n).2]) := by
 have hT := ht
 refine fn_pure Tryz.func79 rfl (by kernel_rfl) Tryz.ntmps79 Tryz.results79 rfl ?_
 refine Vs rfl ?_
 refine Lw rfl (w_box rfl rfl) ?_
 rintro _ _ ⟨b1, hb1, rfl, rfl⟩
 refine Lw rfl (w_box rfl rfl) ?_
 rintro _ _ ⟨b2, hb2, rfl, rfl⟩
 refine Lw rfl (w_alloc zr28 rfl) ?_
 rintro _ _ ⟨b3, hb3, rfl, rfl⟩
 refine La rfl rfl rfl ?_
 refine L_then (kp [2, 3, 4, 6] rfl) ?_
 refine Vs rfl ?_
 refine Lr rfl (rlA (vs := [_, _, _, _, _]) ag39 sz39 rfl rfl rfl) ?_
 refine Lc rfl rfl rfl rfl (fun w hg => asked_c t [] _ _ w (hT.good hg) (SliceR.nil _ _) (by simp)) ?_
 refine La rfl rfl rfl ?_
 refine L_then (kp [2, 3, 4, 6, 8] rfl) ?_
 refine V_seq ?_
 refine Vs rfl ?_
 refine Lm rfl rfl rfl ?_
 refine Lp rfl (p_eql rfl rfl rfl) ?_
 refine L_then (kp [2, 3, 4, 6, 8, 16] rfl) ?_
 refine V_cond rfl ?_ ?_
 ·intro c1; have c1r := c1; try simp only [td] at c1
  refine V_region rfl ?_
  refine Lr rfl (rlA (vs := [_, _, _, _, _, _, _, _, _, _, _, _, _]) ag28 sz28 rfl rfl rfl) ?_
  refine Lc rfl rfl rfl rfl (fun w hg => checkbox_c b w) ?_
  refine La rfl rfl rfl ?_
  refine L_then (kp [2, 3, 4, 6, 8] rfl) ?_
  refine V_seq ?_
  refine V_block ?_
  refine Vs rfl ?_
  refine Lm rfl rfl rfl ?_
  refine Lp rfl (p_neq rfl rfl rfl) ?_
  refine La rfl rfl rfl ?_
  refine L_then (kp [2, 3, 4, 6, 8, 19] rfl) ?_
  refine V_cond rfl ?_ ?_
  ·intro c2; have c2r := c2; try simp only [td] at c2
   refine Vs rfl ?_
   refine Lp rfl (p_build (r := [_, _, _, _, _, _, _, _, _, _, _, _, _]) pl28 zr28 rfl rfl rfl) ?_
   refine Lm rfl rfl rfl ?_
   refine Ls (cs' := [_, _, _, _, _, _, _, _, _, _, _, _, _]) rfl sz28 rfl rfl rfl rfl rfl rfl rfl ?_
   refine La rfl rfl rfl ?_
   refine L_then (kp [6, 7] rfl) ?_
   refine V_ret (blk_r (then_r ?_))
   refine Leave.nil (.cellA (us := [_, _, _, _, _, _, _, _, _, _, _, _, _]) rfl ag28 sz28 (by repeat first | exact mH | apply mT) rfl (.tmp rfl .nil)) ?_
   have hnb : ¬ BoxOk b := fun h => c2 (boxE_0 h)
   rw [aheadP_bad (aheadE_2 c1 hnb) (by decide), boxE_7 hnb]; rfl
  intro c2; have c2r := c2; try simp only [td] at c2
  have hok := boxE_ok c2
  have hb := hok
  unfold BoxOk okS at hb
  have hG := (asked_zero c1).1
  obtain ⟨_, hspd, hacc⟩ := hG.nums
  refine Vs rfl ?_
  refine Lm rfl rfl rfl ?_
  refine Lc rfl rfl rfl rfl (fun w hg => out_c _ _ _ w) ?_
  refine Lm rfl rfl rfl ?_
  refine L_cases (d := 27) rfl ?_ ?_
  ·intro g1; have g1' := g1; try simp only [td] at g1'
   iterate 6 refine L_no rfl rfl rfl g1 ?_
   refine Lp rfl (p_pick_t rfl rfl g1 rfl) ?_
   refine La rfl rfl rfl ?_
   refine L_then (kp [2, 3, 4, 6, 24] rfl) ?_
   refine V_cond_t rfl rfl ?_
   refine Vs rfl ?_
   refine Lp rfl (p_build (r := [_, _, _, _, _, _, _, _, _, _, _, _, _]) pl28 zr28 rfl rfl rfl) ?_
   refine Ls (cs' := [_, _, _, _, _, _, _, _, _, _, _, _, _]) rfl sz28 rfl rfl rfl rfl rfl rfl rfl ?_
   refine La rfl rfl rfl ?_
   refine L_then (kp [6, 7] rfl) ?_
   refine V_ret (blk_r (then_r ?_))
   refine Leave.nil (.cellA (us := [_, _, _, _, _, _, _, _, _, _, _, _, _]) rfl ag28 sz28 (by repeat first | exact mH | apply mT) rfl (.tmp rfl .nil)) ?_
   rw [aheadP_bad (aheadE_3 c1 hok (.inl g1')) (by decide)]; rfl
  intro g1; have g1' := g1; try simp only [td] at g1'
  have hn := oP_in g1'
  refine L_yes rfl rfl rfl g1 (X_p (p_fieldo fo28_0 rfl rfl) ?_)
  refine L_yes rfl rfl rfl g1 (X_rd (rl ag3 rfl rfl rfl) ?_)
  refine L_yes rfl rfl rfl g1 (X_p (p_move rfl rfl) ?_)
  first | refine L_yes rfl rfl rfl g1 (X_p (p_add' rfl rfl rfl (by unfold InI; omega)) ?_) | refine L_yes rfl rfl rfl g1 (X_p (p_add rfl rfl rfl) ?_)
  refine L_yes rfl rfl rfl g1 (X_wr (w_slice (r := [_]) un53 sz3 zr3 rfl (by decide) rfl (by decide) rfl rfl) ?_)
  rintro _ _ ⟨b4, hb4, rfl, rfl⟩
  refine L_yes rfl rfl rfl g1 (X_wr (w_callP rfl rfl rfl (fun w hg => never_c [_] _ w (own_ints (l := [_]) (hg.own _ (by repeat first | exact mH | apply mT)) rfl (by decide)) (by simp))) ?_)
  rintro _ _ ⟨rfl, rfl⟩
  refine Lp rfl (p_pick_f rfl rfl g1 rfl) ?_
  refine La rfl rfl rfl ?_
  refine L_then (kp [2, 3, 4, 6, 24] rfl) ?_
  refine V_cond rfl ?_ ?_
  ·intro c3; have c3r := c3; try simp only [td] at c3
   refine Vs rfl ?_
   refine Lp rfl (p_build (r := [_, _, _, _, _, _, _, _, _, _, _, _, _]) pl28 zr28 rfl rfl rfl) ?_
   refine Ls (cs' := [_, _, _, _, _, _, _, _, _, _, _, _, _]) rfl sz28 rfl rfl rfl rfl rfl rfl rfl ?_
   refine La rfl rfl rfl ?_
   refine L_then (kp [6, 7] rfl) ?_
   refine V_ret (blk_r (then_r ?_))
   refine Leave.nil (.cellA (us := [_, _, _, _, _, _, _, _, _, _, _, _, _]) rfl ag28 sz28 (by repeat first | exact mH | apply mT) rfl (.tmp rfl .nil)) ?_
   rw [aheadP_bad (aheadE_3 c1 hok (.inr c3)) (by decide)]; rfl
  intro c3; have c3r := c3; try simp only [td] at c3
  have he := aheadE_4 c1 hok g1' c3
  refine V_skip (blk_n (then_n ?_))
  refine Vs rfl ?_
  refine Lp rfl (p_fieldo fo28_0 rfl rfl) ?_
  refine Lr rfl (rl ag3 rfl rfl rfl) ?_
  refine Lm rfl rfl rfl ?_
  first | refine Lp rfl (p_add' rfl rfl rfl (by unfold InI; omega)) ?_ | refine Lp rfl (p_add rfl rfl rfl) ?_
  refine Lp rfl (p_fieldo fo28_0 rfl rfl) ?_
  refine Ls (cs' := [_, _, _, _, _, _, _, _, _, _, _, _, _]) rfl sz3 rfl rfl rfl rfl rfl rfl rfl ?_
  refine L_then (kp [2, 3, 4, 6] rfl) ?_
  refine Vs rfl ?_
  refine Lc rfl rfl rfl rfl (fun w hg => parts_c b2 w) ?_
  refine Lw rfl (w_alloc zr93 rfl) ?_
  rintro _ _ ⟨b5, hb5, rfl, rfl⟩
  refine Ls (cs' := [_, _, _, _, _, _]) rfl sz93 rfl rfl rfl rfl rfl rfl rfl ?_
  refine L_then (kp [2, 3, 4, 6, 9] rfl) ?_
  refine V_seq ?_
  refine Vs rfl ?_
  refine Lm rfl rfl rfl ?_
  refine L_then (kp [2, 3, 4, 6, 9, 42] rfl) ?_
  refine V_block ?_
  refine V_loopU ?_
  refine LU_step ?_
  refine Vs rfl ?_
  refine Lp rfl (p_lss rfl rfl rfl) ?_
  refine L_then (kp [2, 3, 4, 6, 9, 42, 43] rfl) ?_
  refine V_seq ?_
  refine V_cond_t rfl rfl ?_
  refine V_skip (then_n ?_)
  refine V_seq ?_
  refine V_block ?_
  refine Vs rfl ?_
  refine Lm rfl rfl rfl ?_
  refine La rfl rfl rfl ?_
  refine L_then (kp [2, 3, 4, 6, 9, 10, 42] rfl) ?_
  refine V_mid (γ := Nat × Nat) (kp [2, 3, 4, 6, 9, 10, 42] rfl) (fun (x11, x12) => [(11, .pointer (some ⟨x11, 0, none⟩)), (12, .pointer (some ⟨x12, 0, none⟩))]) (fun (x11, x12) => (x11, .cells #[.int .i64 b.x.lo, .int .i64 b.x.hi] 148) :: (x12, .cells #[.int .i64 b.vx.lo, .int .i64 b.vx.hi] 148) :: (b5, .cells #[.pointer (some ⟨b2, 1, none⟩), .pointer (some ⟨b2, 3, none⟩), .pointer (some ⟨b2, 5, none⟩), .pointer (some ⟨b2, 7, none⟩), .pointer (some ⟨b2, 9, none⟩), .pointer (some ⟨b2, 11, none⟩)] 93) :: (b3, .cells (Box.cells boxZ).toArray 28) :: (b2, .cells (Box.cells ⟨b.at_ + n, b.x, b.y, b.z, b.vx, b.vy, b.vz⟩).toArray 28) :: (b1, t.obj tv pv 39) :: []) (fun (x11, x12) => True) ?_ ?_
  ·refine V_draw (.rd 0 (.rd 1 (.rd 2 (.rd 3 (.rd 4 (.rd 5 (.rd 6 (.rd 7 (.rd 8 (.rd 9 (.rd 10 (.rd 11 (.rd 12 (.wr2 13 [12, 11, 10, 9, 8, 7, 6, 5, 4, 3, 2, 1, 0] (.wr 14 [12, 11, 10, 9, 8, 7, 6, 5, 4, 3, 2, 1, 0] (.wr 15 [12, 10, 9, 8, 7, 6] (.wr 16 [] .done))) 14 [12, 11, 10, 9, 8, 7, 6, 5, 4, 3, 2, 1, 0] (.wr 13 [12, 11, 10, 9, 8, 7, 6, 5, 4, 3, 2, 1, 0] (.wr 15 [12, 10, 9, 8, 7, 6] (.wr 16 [] .done))))))))))))))))) mixed (by kernel_rfl) rfl ?_
   refine Dm rfl rfl rfl rfl ?_
   refine Dp rfl rfl (p_idxao ar93 rfl rfl rfl (by omega) (by omega)) ?_
   refine Dr rfl rfl (rl ag92 rfl rfl rfl) ?_
   refine Dp rfl rfl (p_nil rfl rfl) ?_
   refine Dr rfl rfl (rlA (vs := [_, _]) ag24 sz24 rfl rfl rfl) ?_
   refine Dp rfl rfl (p_build (r := [_, _]) pl148 zr148 rfl rfl rfl) ?_
   refine Dm rfl rfl rfl rfl ?_
   first | refine Dp rfl rfl (p_add' rfl rfl rfl (by unfold InI; omega)) ?_ | refine Dp rfl rfl (p_add rfl rfl rfl) ?_
   refine Dp rfl rfl (p_idxao ar93 rfl rfl rfl (by omega) (by omega)) ?_
   refine Dr rfl rfl (rl ag92 rfl rfl rfl) ?_
   refine Dp rfl rfl (p_nil rfl rfl) ?_
   refine Dr rfl rfl (rlA (vs := [_, _]) ag24 sz24 rfl rfl rfl) ?_
   refine Dp rfl rfl (p_build (r := [_, _]) pl148 zr148 rfl rfl rfl) ?_
   refine D_wr2 rfl ?_ ?_
   ·refine (.go (E' := [(11, _), (9, _), (4, _), (2, _)]) rfl (.plain rfl) (w_alloc zr148 rfl) rfl ?_)
    rintro _ _ ⟨b6, hb6, rfl, rfl⟩
    refine ⟨(.cons rfl (.plain rfl) (rlA (vs := [_, _]) ag24 sz24 rfl rfl rfl) (.cons rfl (.plain rfl) (rl ag92 rfl rfl rfl) (.cons rfl (.plain rfl) (rlA (vs := [_, _]) ag24 sz24 rfl rfl rfl) (.cons rfl (.plain rfl) (rl ag92 rfl rfl rfl) .nil)))), ?_⟩
    refine D_wr (.go (E' := [(11, _), (9, _), (4, _), (2, _)]) rfl (.plain rfl) (w_alloc zr148 rfl) rfl ?_)
    rintro _ _ ⟨b7, hb7, rfl, rfl⟩
    refine ⟨(.cons rfl (.plain rfl) (rlA (vs := [_, _]) ag24 sz24 rfl rfl rfl) (.cons rfl (.plain rfl) (rl ag92 rfl rfl rfl) (.cons rfl (.plain rfl) (rlA (vs := [_, _]) ag24 sz24 rfl rfl rfl) (.cons rfl (.plain rfl) (rl ag92 rfl rfl rfl) .nil)))), ?_⟩
    refine D_wr (.go (E' := [(9, _)]) rfl (.plain rfl) (ws (cs' := [_, _]) sz148 rfl rfl rfl rfl rfl rfl rfl) rfl ?_)
    rintro _ _ ⟨rfl, rfl⟩
    refine ⟨(.cons rfl (.plain rfl) (rl ag92 rfl rfl rfl) .nil), ?_⟩
    refine D_wr (.go (E' := []) rfl (.plain rfl) (ws (cs' := [_, _]) sz148 rfl rfl rfl rfl rfl rfl rfl) rfl ?_)
    rintro _ _ ⟨rfl, rfl⟩
    refine ⟨.nil, ?_⟩
    refine D_then (kp [2, 3, 4, 6, 9, 10, 11, 12, 42] rfl) ?_
    refine ⟨(b6, b7), trivial, (.cons rfl (.cons rfl (.cons rfl (.cons rfl (.cons rfl (.cons rfl (.cons rfl (.cons rfl (.cons rfl (.nil _)))))))))), (by (try dsimp only); repeat (first | exact HSub.nil _ | refine HSub.take (by repeat first | exact Take.head | apply Take.tail) ?_ | exact HSub.refl _ | refine HSub.drop ?_ | refine HSub.app ?_)), rfl⟩
   refine (.go (E' := [(11, _), (9, _), (4, _), (2, _)]) rfl (.plain rfl) (w_alloc zr148 rfl) rfl ?_)
   rintro _ _ ⟨b6, hb6, rfl, rfl⟩
   refine ⟨(.cons rfl (.plain rfl) (rlA (vs := [_, _]) ag24 sz24 rfl rfl rfl) (.cons rfl (.plain rfl) (rl ag92 rfl rfl rfl) (.cons rfl (.plain rfl) (rlA (vs := [_, _]) ag24 sz24 rfl rfl rfl) (.cons rfl (.plain rfl) (rl ag92 rfl rfl rfl) .nil)))), ?_⟩
   refine D_wr (.go (E' := [(11, _), (9, _), (4, _), (2, _)]) rfl (.plain rfl) (w_alloc zr148 rfl) rfl ?_)
   rintro _ _ ⟨b7, hb7, rfl, rfl⟩
   refine ⟨(.cons rfl (.plain rfl) (rlA (vs := [_, _]) ag24 sz24 rfl rfl rfl) (.cons rfl (.plain rfl) (rl ag92 rfl rfl rfl) (.cons rfl (.plain rfl) (rlA (vs := [_, _]) ag24 sz24 rfl rfl rfl) (.cons rfl (.plain rfl) (rl ag92 rfl rfl rfl) .nil)))), ?_⟩
   refine D_wr (.go (E' := [(9, _)]) rfl (.plain rfl) (ws (cs' := [_, _]) sz148 rfl rfl rfl rfl rfl rfl rfl) rfl ?_)
   rintro _ _ ⟨rfl, rfl⟩
   refine ⟨(.cons rfl (.plain rfl) (rl ag92 rfl rfl rfl) .nil), ?_⟩
   refine D_wr (.go (E' := []) rfl (.plain rfl) (ws (cs' := [_, _]) sz148 rfl rfl rfl rfl rfl rfl rfl) rfl ?_)
   rintro _ _ ⟨rfl, rfl⟩
   refine ⟨.nil, ?_⟩
   refine D_then (kp [2, 3, 4, 6, 9, 10, 11, 12, 42] rfl) ?_
   refine ⟨(b7, b6), trivial, (.cons rfl (.cons rfl (.cons rfl (.cons rfl (.cons rfl (.cons rfl (.cons rfl (.cons rfl (.cons rfl (.nil _)))))))))), (by (try dsimp only); repeat (first | exact HSub.nil _ | refine HSub.take (by repeat first | exact Take.head | apply Take.tail) ?_ | exact HSub.refl _ | refine HSub.drop ?_ | refine HSub.app ?_)), rfl⟩
  rintro ⟨x11, x12⟩ _
  refine Vs rfl ?_
  refine Lp rfl (p_fieldo fo39_1 rfl rfl) ?_
  refine Lr rfl (rl ag3 rfl rfl rfl) ?_
  first | refine Lp rfl (p_neg' rfl rfl (by unfold InI; omega)) ?_ | refine Lp rfl (p_neg rfl rfl) ?_
  refine Lp rfl (p_fieldo fo39_1 rfl rfl) ?_
  refine Lr rfl (rl ag3 rfl rfl rfl) ?_
  refine Lw rfl (w_callM rfl rfl rfl (fun o' => (by repeat first | exact .head | apply SetAt.tail)) (fun w hg => narrow_c x12 _ _ 148 (-t.speed) t.speed w (hg.own (x12, _) (by repeat first | exact mH | apply mT)))) ?_
  rintro _ _ ⟨_, rfl, rfl, rfl⟩
  refine L_then (kp [2, 3, 4, 6, 9, 10, 11, 12, 42] rfl) ?_
  refine V_seq ?_
  refine Vs rfl ?_
  iterate 2 refine Lm rfl rfl rfl ?_
  refine L_then (kp [2, 3, 4, 6, 9, 10, 11, 12, 42, 64, 65] rfl) ?_
  refine V_midT (γ := Span × Span) (kp [2, 3, 4, 6, 9, 10, 11, 12, 42] rfl) (fun (q0, r0) => []) (fun (q0, r0) => (x11, .cells #[.int .i64 q0.lo, .int .i64 q0.hi] 148) :: (x12, .cells #[.int .i64 r0.lo, .int .i64 r0.hi] 148) :: (b5, .cells #[.pointer (some ⟨b2, 1, none⟩), .pointer (some ⟨b2, 3, none⟩), .pointer (some ⟨b2, 5, none⟩), .pointer (some ⟨b2, 7, none⟩), .pointer (some ⟨b2, 9, none⟩), .pointer (some ⟨b2, 11, none⟩)] 93) :: (b3, .cells (Box.cells boxZ).toArray 28) :: (b2, .cells (Box.cells ⟨b.at_ + n, b.x, b.y, b.z, b.vx, b.vy, b.vz⟩).toArray 28) :: (b1, t.obj tv pv 39) :: []) (fun (q0, r0) => Met (aheadS t n b.x b.vx) q0 r0) ?_ ?_
  ·refine V_block ?_
   refine V_loop1 (γ := Int × Span × Span) (kp [2, 3, 4, 6, 9, 10, 11, 12, 42, 64] rfl) (fun (k, p, v) => [(65, .int .i64 k)]) (fun (k, p, v) => (x11, .cells #[.int .i64 p.lo, .int .i64 p.hi] 148) :: (x12, .cells #[.int .i64 v.lo, .int .i64 v.hi] 148) :: (b5, .cells #[.pointer (some ⟨b2, 1, none⟩), .pointer (some ⟨b2, 3, none⟩), .pointer (some ⟨b2, 5, none⟩), .pointer (some ⟨b2, 7, none⟩), .pointer (some ⟨b2, 9, none⟩), .pointer (some ⟨b2, 11, none⟩)] 93) :: (b3, .cells (Box.cells boxZ).toArray 28) :: (b2, .cells (Box.cells ⟨b.at_ + n, b.x, b.y, b.z, b.vx, b.vy, b.vz⟩).toArray 28) :: (b1, t.obj tv pv 39) :: []) (fun (k, p, v) => 0 ≤ k ∧ k ≤ n ∧ aheadS t n b.x b.vx = aheadN t (n - k).toNat p v ∧ okS 2000000000 p ∧ SpanB 1000000 v) (fun (k, p, v) => (n - k).toNat) ((0, b.x, common b.vx (room0 t.speed))) (.cons rfl (.nil _)) (by repeat (first | exact List.nil_sublist _ | exact List.Sublist.refl _ | apply List.Sublist.cons_cons | apply List.Sublist.cons)) (⟨by omega, by omega, by rw [Int.sub_zero]; rfl, by unfold okS; omega, by simp only [SpanB, common, room0]; omega⟩) ?_
   rintro ⟨k, p, v⟩ hi
   obtain ⟨hk0, hk1, hah, hp, hv⟩ := hi
   have hpn : p.none = false := by simp only [Span.none, decide_eq_false_iff_not]; unfold okS at hp; omega
   unfold okS at hp
   unfold SpanB at hv
   refine Vs rfl ?_
   refine Lp rfl (p_lss rfl rfl rfl) ?_
   refine L_then (kp [2, 3, 4, 6, 9, 10, 11, 12, 42, 64, 65, 66] rfl) ?_
   refine V_seq ?_
   refine V_cond rfl ?_ ?_
   ·intro c4; have c4r := c4; try simp only [td] at c4
    refine V_skip (then_n ?_)
    refine V_seq ?_
    refine V_block ?_
    refine V_seq ?_
    refine Vs rfl ?_
    refine Lc rfl rfl rfl rfl (fun w hg => empty_c x12 _ _ 148 w (hg.own (x12, _) (by repeat first | exact mH | apply mT))) ?_
    refine L_then (kp [2, 3, 4, 6, 9, 10, 11, 12, 42, 64, 65, 67] rfl) ?_
    refine V_cond rfl ?_ ?_
    ·intro c5; have c5r := c5; try simp only [td] at c5
     refine V_exit (then_e (blk_o rfl (then_e (then_e (blk_e rfl (then_n ?_))))))
     refine ⟨(p, v), ?_, (.cons rfl (.cons rfl (.cons rfl (.cons rfl (.cons rfl (.cons rfl (.cons rfl (.cons rfl (.cons rfl (.nil _)))))))))), (by (try dsimp only); repeat (first | exact HSub.nil _ | refine HSub.take (by repeat first | exact Take.head | apply Take.tail) ?_ | exact HSub.refl _ | refine HSub.drop ?_ | refine HSub.app ?_)), rfl⟩
     exact met_v hah c5
    intro c5; have c5r := c5; try simp only [td] at c5
    refine V_skip (then_n ?_)
    refine Vs rfl ?_
    refine Lp rfl (p_fieldo fo148_0 rfl rfl) ?_
    refine Lp rfl (p_fieldo fo24_0 rfl rfl) ?_
    refine Lr rfl (rl ag3 rfl rfl rfl) ?_
    refine Lp rfl (p_fieldo fo148_0 rfl rfl) ?_
    refine Lp rfl (p_fieldo fo24_0 rfl rfl) ?_
    refine Lr rfl (rl ag3 rfl rfl rfl) ?_
    first | refine Lp rfl (p_add' rfl rfl rfl (by unfold InI; omega)) ?_ | refine Lp rfl (p_add rfl rfl rfl) ?_
    refine Lp rfl (p_fieldo fo148_0 rfl rfl) ?_
    refine Lp rfl (p_fieldo fo24_1 rfl rfl) ?_
    refine Lr rfl (rl ag3 rfl rfl rfl) ?_
    refine Lp rfl (p_fieldo fo148_0 rfl rfl) ?_
    refine Lp rfl (p_fieldo fo24_1 rfl rfl) ?_
    refine Lr rfl (rl ag3 rfl rfl rfl) ?_
    first | refine Lp rfl (p_add' rfl rfl rfl (by unfold InI; omega)) ?_ | refine Lp rfl (p_add rfl rfl rfl) ?_
    refine Lp rfl (p_fieldo fo148_0 rfl rfl) ?_
    refine Lp rfl (p_fieldo fo24_0 rfl rfl) ?_
    refine Ls (cs' := [_, _]) rfl sz3 rfl rfl rfl rfl rfl rfl rfl ?_
    refine Lp rfl (p_fieldo fo148_0 rfl rfl) ?_
    refine Lp rfl (p_fieldo fo24_1 rfl rfl) ?_
    refine Ls (cs' := [_, _]) rfl sz3 rfl rfl rfl rfl rfl rfl rfl ?_
    refine L_then (kp [2, 3, 4, 6, 9, 10, 11, 12, 42, 64, 65] rfl) ?_
    refine Vs rfl ?_
    refine Lw rfl (w_callM rfl rfl rfl (fun o' => (by repeat first | exact .head | apply SetAt.tail)) (fun w hg => narrow_c x11 _ _ 148 (-2000000000) 2000000000 w (hg.own (x11, _) (by repeat first | exact mH | apply mT)))) ?_
    rintro _ _ ⟨_, rfl, rfl, rfl⟩
    refine L_then (kp [2, 3, 4, 6, 9, 10, 11, 12, 42, 64, 65] rfl) ?_
    refine V_seq ?_
    refine Vs rfl ?_
    refine Lc rfl rfl rfl rfl (fun w hg => empty_c x11 _ _ 148 w (hg.own (x11, _) (by repeat first | exact mH | apply mT))) ?_
    refine L_then (kp [2, 3, 4, 6, 9, 10, 11, 12, 42, 64, 65, 87] rfl) ?_
    refine V_cond rfl ?_ ?_
    ·intro c6; have c6r := c6; try simp only [td] at c6
     refine V_exit (then_e (blk_o rfl (then_e (then_e (blk_e rfl (then_n ?_))))))
     refine ⟨(stepP p v, v), ?_, (.cons rfl (.cons rfl (.cons rfl (.cons rfl (.cons rfl (.cons rfl (.cons rfl (.cons rfl (.cons rfl (.nil _)))))))))), (by (try dsimp only); repeat (first | exact HSub.nil _ | refine HSub.take (by repeat first | exact Take.head | apply Take.tail) ?_ | exact HSub.refl _ | refine HSub.drop ?_ | refine HSub.app ?_)), rfl⟩
     exact met_p (hah.trans (aheadN_go ⟨hk0, by omega⟩ hpn c5)) c6
    intro c6; have c6r := c6; try simp only [td] at c6
    refine V_skip (then_n ?_)
    refine V_seq (V_draw (.rd 0 (.rd 1 (.rd 2 (.rd 3 (.rd 4 (.rd 5 (.rd 6 (.rd 7 (.rd 8 (.rd 9 (.rd 10 (.rd 11 (.rd 12 (.rd 13 (.wr 14 [12, 11, 10, 9, 7, 6] (.rd 15 (.rd 16 (.wr 17 [15] .done)))))))))))))))))) mixed (by kernel_rfl) rfl ?_)
    refine Dp rfl rfl (p_fieldo fo148_0 rfl rfl) ?_
    refine Dp rfl rfl (p_fieldo fo24_0 rfl rfl) ?_
    refine Dr rfl rfl (rl ag3 rfl rfl rfl) ?_
    refine Dp rfl rfl (p_fieldo fo39_2 rfl rfl) ?_
    refine Dr rfl rfl (rl ag3 rfl rfl rfl) ?_
    first | refine Dp rfl rfl (p_sub' rfl rfl rfl (by unfold InI; omega)) ?_ | refine Dp rfl rfl (p_sub rfl rfl rfl) ?_
    refine Dp rfl rfl (p_fieldo fo148_0 rfl rfl) ?_
    refine Dp rfl rfl (p_fieldo fo24_1 rfl rfl) ?_
    refine Dr rfl rfl (rl ag3 rfl rfl rfl) ?_
    refine Dp rfl rfl (p_fieldo fo39_2 rfl rfl) ?_
    refine Dr rfl rfl (rl ag3 rfl rfl rfl) ?_
    first | refine Dp rfl rfl (p_add' rfl rfl rfl (by unfold InI; omega)) ?_ | refine Dp rfl rfl (p_add rfl rfl rfl) ?_
    refine Dp rfl rfl (p_fieldo fo148_0 rfl rfl) ?_
    refine Dp rfl rfl (p_fieldo fo24_0 rfl rfl) ?_
    refine D_wr (.go (E' := [(10, _)]) rfl (.plain rfl) (ws (cs' := [_, _]) sz3 rfl rfl rfl rfl rfl rfl rfl) rfl ?_)
    rintro _ _ ⟨rfl, rfl⟩
    refine ⟨(.cons rfl (.plain rfl) (rl ag3 rfl rfl rfl) .nil), ?_⟩
    refine Dp rfl rfl (p_fieldo fo148_0 rfl rfl) ?_
    refine Dp rfl rfl (p_fieldo fo24_1 rfl rfl) ?_
    refine D_wr (.go (E' := []) rfl (.plain rfl) (ws (cs' := [_, _]) sz3 rfl rfl rfl rfl rfl rfl rfl) rfl ?_)
    rintro _ _ ⟨rfl, rfl⟩
    refine ⟨.nil, ?_⟩
    refine D_then (kp [2, 3, 4, 6, 9, 10, 11, 12, 42, 64, 65] rfl) ?_
    refine V_region rfl ?_
    refine Lp rfl (p_fieldo fo39_1 rfl rfl) ?_
    refine Lr rfl (rl ag3 rfl rfl rfl) ?_
    first | refine Lp rfl (p_neg' rfl rfl (by unfold InI; omega)) ?_ | refine Lp rfl (p_neg rfl rfl) ?_
    refine Lp rfl (p_fieldo fo39_1 rfl rfl) ?_
    refine Lr rfl (rl ag3 rfl rfl rfl) ?_
    refine Lw rfl (w_callM rfl rfl rfl (fun o' => (by repeat first | exact .head | apply SetAt.tail)) (fun w hg => narrow_c x12 _ _ 148 (-t.speed) t.speed w (hg.own (x12, _) (by repeat first | exact mH | apply mT)))) ?_
    rintro _ _ ⟨_, rfl, rfl, rfl⟩
    refine L_keep (kp [2, 3, 4, 6, 9, 10, 11, 12, 42, 64, 65] rfl) (blk_n (then_n ?_))
    refine V_region rfl ?_
    first | refine Lp rfl (p_add' rfl rfl rfl (by unfold InI; omega)) ?_ | refine Lp rfl (p_add rfl rfl rfl) ?_
    refine Lm rfl rfl rfl ?_
    refine L_keep (kp [2, 3, 4, 6, 9, 10, 11, 12, 42, 64, 65] rfl) (then_n ?_)
    refine ⟨(k + 1, stepP p v, stepV t v), ?_, ?_, (.cons rfl (.cons rfl (.cons rfl (.cons rfl (.cons rfl (.cons rfl (.cons rfl (.cons rfl (.cons rfl (.cons rfl (.cons rfl (.nil _)))))))))))), (by repeat (first | exact List.nil_sublist _ | exact List.Sublist.refl _ | apply List.Sublist.cons_cons | apply List.Sublist.cons | apply List.sublist_append_of_sublist_right)), rfl⟩
    ·refine ⟨by omega, by omega, hah.trans (aheadN_go ⟨hk0, by omega⟩ hpn c5), ?_, ?_⟩
     ·have h5 := none_false c6
      simp only [stepP, common, room0] at h5
      simp only [okS, stepP, common, room0]; omega
     simp only [SpanB, stepV, common, room0]; omega
    dsimp only; omega
   intro c4; have c4r := c4; try simp only [td] at c4
   refine V_exit (then_e (then_e (blk_e rfl (then_n ?_))))
   refine ⟨(p, v), ?_, (.cons rfl (.cons rfl (.cons rfl (.cons rfl (.cons rfl (.cons rfl (.cons rfl (.cons rfl (.cons rfl (.nil _)))))))))), (by (try dsimp only); repeat (first | exact HSub.nil _ | refine HSub.take (by repeat first | exact Take.head | apply Take.tail) ?_ | exact HSub.refl _ | refine HSub.drop ?_ | refine HSub.app ?_)), rfl⟩
   exact met_end hah (by omega) hpn
  rintro ⟨q0, r0⟩ hm0
  refine V_seq ?_
  refine Vs rfl ?_
  refine Lc rfl rfl rfl rfl (fun w hg => empty_c x11 _ _ 148 w (hg.own (x11, _) (by repeat first | exact mH | apply mT))) ?_
  refine Lm rfl rfl rfl ?_
  refine L_cases (d := 112) rfl ?_ ?_
  ·intro g2; have g2' := g2; try simp only [td] at g2'
   refine L_no rfl rfl rfl g2 ?_
   refine Lp rfl (p_pick_t rfl rfl g2 rfl) ?_
   refine L_then (kp [2, 3, 4, 6, 9, 10, 11, 12, 42, 114] rfl) ?_
   refine V_cond_t rfl rfl ?_
   refine Vs rfl ?_
   refine Lp rfl (p_build (r := [_, _, _, _, _, _, _, _, _, _, _, _, _]) pl28 zr28 rfl rfl rfl) ?_
   refine Ls (cs' := [_, _, _, _, _, _, _, _, _, _, _, _, _]) rfl sz28 rfl rfl rfl rfl rfl rfl rfl ?_
   refine La rfl rfl rfl ?_
   refine L_then (kp [6, 7] rfl) ?_
   refine V_ret (then_r (blk_r (then_r (then_r (blk_r (then_r ?_))))))
   refine Leave.nil (.cellA (us := [_, _, _, _, _, _, _, _, _, _, _, _, _]) rfl ag28 sz28 (by repeat first | exact mH | apply mT) rfl (.tmp rfl .nil)) ?_
   rw [aheadP_ok he, foundP_none (aheadB_0 (hm0.no (.inl g2')))]; rfl
  intro g2; have g2' := g2; try simp only [td] at g2'
  refine L_yes rfl rfl rfl g2 (X_wr (w_callP rfl rfl rfl (fun w hg => empty_c x12 _ _ 148 w (hg.own (x12, _) (by repeat first | exact mH | apply mT)))) ?_)
  rintro _ _ ⟨rfl, rfl⟩
  refine Lp rfl (p_pick_f rfl rfl g2 rfl) ?_
  refine L_then (kp [2, 3, 4, 6, 9, 10, 11, 12, 42, 114] rfl) ?_
  refine V_cond rfl ?_ ?_
  ·intro c7; have c7r := c7; try simp only [td] at c7
   refine Vs rfl ?_
   refine Lp rfl (p_build (r := [_, _, _, _, _, _, _, _, _, _, _, _, _]) pl28 zr28 rfl rfl rfl) ?_
   refine Ls (cs' := [_, _, _, _, _, _, _, _, _, _, _, _, _]) rfl sz28 rfl rfl rfl rfl rfl rfl rfl ?_
   refine La rfl rfl rfl ?_
   refine L_then (kp [6, 7] rfl) ?_
   refine V_ret (then_r (blk_r (then_r (then_r (blk_r (then_r ?_))))))
   refine Leave.nil (.cellA (us := [_, _, _, _, _, _, _, _, _, _, _, _, _]) rfl ag28 sz28 (by repeat first | exact mH | apply mT) rfl (.tmp rfl .nil)) ?_
   rw [aheadP_ok he, foundP_none (aheadB_0 (hm0.no (.inr c7)))]; rfl
  intro c7; have c7r := c7; try simp only [td] at c7
  refine V_skip (then_n ?_)
  refine V_draw (.rd 0 (.rd 1 (.rd 2 (.rd 3 (.rd 4 (.rd 5 (.rd 6 (.rd 7 (.rd 8 (.rd 9 (.rd 10 (.rd 11 (.wr 12 [9, 6, 5, 4, 3] (.rd 13 (.wr 14 [] .done))))))))))))))) mixed (by kernel_rfl) rfl ?_
  refine Dm rfl rfl rfl rfl ?_
  refine Dp rfl rfl (p_idxao ar93 rfl rfl rfl (by omega) (by omega)) ?_
  refine Dr rfl rfl (rl ag92 rfl rfl rfl) ?_
  refine Dm rfl rfl rfl rfl ?_
  first | refine Dp rfl rfl (p_add' rfl rfl rfl (by unfold InI; omega)) ?_ | refine Dp rfl rfl (p_add rfl rfl rfl) ?_
  refine Dp rfl rfl (p_idxao ar93 rfl rfl rfl (by omega) (by omega)) ?_
  refine Dr rfl rfl (rl ag92 rfl rfl rfl) ?_
  refine Dp rfl rfl (p_fieldo fo148_0 rfl rfl) ?_
  refine Dr rfl rfl (rlA (vs := [_, _]) ag24 sz24 rfl rfl rfl) ?_
  refine Dp rfl rfl (p_fieldo fo148_0 rfl rfl) ?_
  refine Dr rfl rfl (rlA (vs := [_, _]) ag24 sz24 rfl rfl rfl) ?_
  refine Dp rfl rfl (p_nil rfl rfl) ?_
  refine D_wr (.go (E' := [(6, _)]) rfl (.plain rfl) (ws (cs' := [_, _, _, _, _, _, _, _, _, _, _, _, _]) sz24 rfl rfl rfl rfl rfl rfl rfl) rfl ?_)
  rintro _ _ ⟨rfl, rfl⟩
  refine ⟨(.cons rfl (.plain rfl) (rl ag92 rfl rfl rfl) .nil), ?_⟩
  refine Dp rfl rfl (p_nil rfl rfl) ?_
  refine D_wr (.go (E' := []) rfl (.plain rfl) (ws (cs' := [_, _, _, _, _, _, _, _, _, _, _, _, _]) sz24 rfl rfl rfl rfl rfl rfl rfl) rfl ?_)
  rintro _ _ ⟨rfl, rfl⟩
  refine ⟨.nil, ?_⟩
  refine D_keep (kp [2, 3, 4, 6, 9, 42] rfl) (blk_n (then_n ?_))
  refine V_region rfl ?_
  first | refine Lp rfl (p_add' rfl rfl rfl (by unfold InI; omega)) ?_ | refine Lp rfl (p_add rfl rfl rfl) ?_
  refine Lm rfl rfl rfl ?_
  refine L_keep (kp [2, 3, 4, 6, 9, 42] rfl) (then_n ?_)
  refine LU_step ?_
  refine Vs rfl ?_
  refine Lp rfl (p_lss rfl rfl rfl) ?_
  refine L_then (kp [2, 3, 4, 6, 9, 42, 43] rfl) ?_
  refine V_seq ?_
  refine V_cond_t rfl rfl ?_
  refine V_skip (then_n ?_)
  refine V_seq ?_
  refine V_block ?_
  refine Vs rfl ?_
  refine Lm rfl rfl rfl ?_
  refine La rfl rfl rfl ?_
  refine L_then (kp [2, 3, 4, 6, 9, 10, 42] rfl) ?_
  refine V_mid (γ := Nat × Nat) (kp [2, 3, 4, 6, 9, 10, 42] rfl) (fun (x11, x12) => [(11, .pointer (some ⟨x11, 0, none⟩)), (12, .pointer (some ⟨x12, 0, none⟩))]) (fun (x11, x12) => (x11, .cells #[.int .i64 b.y.lo, .int .i64 b.y.hi] 148) :: (x12, .cells #[.int .i64 b.vy.lo, .int .i64 b.vy.hi] 148) :: (b5, .cells #[.pointer (some ⟨b2, 1, none⟩), .pointer (some ⟨b2, 3, none⟩), .pointer (some ⟨b2, 5, none⟩), .pointer (some ⟨b2, 7, none⟩), .pointer (some ⟨b2, 9, none⟩), .pointer (some ⟨b2, 11, none⟩)] 93) :: (b3, .cells (Box.cells boxZ).toArray 28) :: (b2, .cells (Box.cells ⟨b.at_ + n, q0, b.y, b.z, r0, b.vy, b.vz⟩).toArray 28) :: (b1, t.obj tv pv 39) :: []) (fun (x11, x12) => True) ?_ ?_
  ·refine V_draw (.rd 0 (.rd 1 (.rd 2 (.rd 3 (.rd 4 (.rd 5 (.rd 6 (.rd 7 (.rd 8 (.rd 9 (.rd 10 (.rd 11 (.rd 12 (.wr2 13 [12, 11, 10, 9, 8, 7, 6, 5, 4, 3, 2, 1, 0] (.wr 14 [12, 11, 10, 9, 8, 7, 6, 5, 4, 3, 2, 1, 0] (.wr 15 [12, 10, 9, 8, 7, 6] (.wr 16 [] .done))) 14 [12, 11, 10, 9, 8, 7, 6, 5, 4, 3, 2, 1, 0] (.wr 13 [12, 11, 10, 9, 8, 7, 6, 5, 4, 3, 2, 1, 0] (.wr 15 [12, 10, 9, 8, 7, 6] (.wr 16 [] .done))))))))))))))))) mixed (by kernel_rfl) rfl ?_
   refine Dm rfl rfl rfl rfl ?_
   refine Dp rfl rfl (p_idxao ar93 rfl rfl rfl (by omega) (by omega)) ?_
   refine Dr rfl rfl (rl ag92 rfl rfl rfl) ?_
   refine Dp rfl rfl (p_nil rfl rfl) ?_
   refine Dr rfl rfl (rlA (vs := [_, _]) ag24 sz24 rfl rfl rfl) ?_
   refine Dp rfl rfl (p_build (r := [_, _]) pl148 zr148 rfl rfl rfl) ?_
   refine Dm rfl rfl rfl rfl ?_
   first | refine Dp rfl rfl (p_add' rfl rfl rfl (by unfold InI; omega)) ?_ | refine Dp rfl rfl (p_add rfl rfl rfl) ?_
   refine Dp rfl rfl (p_idxao ar93 rfl rfl rfl (by omega) (by omega)) ?_
   refine Dr rfl rfl (rl ag92 rfl rfl rfl) ?_
   refine Dp rfl rfl (p_nil rfl rfl) ?_
   refine Dr rfl rfl (rlA (vs := [_, _]) ag24 sz24 rfl rfl rfl) ?_
   refine Dp rfl rfl (p_build (r := [_, _]) pl148 zr148 rfl rfl rfl) ?_
   refine D_wr2 rfl ?_ ?_
   ·refine (.go (E' := [(11, _), (9, _), (4, _), (2, _)]) rfl (.plain rfl) (w_alloc zr148 rfl) rfl ?_)
    rintro _ _ ⟨b6, hb6, rfl, rfl⟩
    refine ⟨(.cons rfl (.plain rfl) (rlA (vs := [_, _]) ag24 sz24 rfl rfl rfl) (.cons rfl (.plain rfl) (rl ag92 rfl rfl rfl) (.cons rfl (.plain rfl) (rlA (vs := [_, _]) ag24 sz24 rfl rfl rfl) (.cons rfl (.plain rfl) (rl ag92 rfl rfl rfl) .nil)))), ?_⟩
    refine D_wr (.go (E' := [(11, _), (9, _), (4, _), (2, _)]) rfl (.plain rfl) (w_alloc zr148 rfl) rfl ?_)
    rintro _ _ ⟨b7, hb7, rfl, rfl⟩
    refine ⟨(.cons rfl (.plain rfl) (rlA (vs := [_, _]) ag24 sz24 rfl rfl rfl) (.cons rfl (.plain rfl) (rl ag92 rfl rfl rfl) (.cons rfl (.plain rfl) (rlA (vs := [_, _]) ag24 sz24 rfl rfl rfl) (.cons rfl (.plain rfl) (rl ag92 rfl rfl rfl) .nil)))), ?_⟩
    refine D_wr (.go (E' := [(9, _)]) rfl (.plain rfl) (ws (cs' := [_, _]) sz148 rfl rfl rfl rfl rfl rfl rfl) rfl ?_)
    rintro _ _ ⟨rfl, rfl⟩
    refine ⟨(.cons rfl (.plain rfl) (rl ag92 rfl rfl rfl) .nil), ?_⟩
    refine D_wr (.go (E' := []) rfl (.plain rfl) (ws (cs' := [_, _]) sz148 rfl rfl rfl rfl rfl rfl rfl) rfl ?_)
    rintro _ _ ⟨rfl, rfl⟩
    refine ⟨.nil, ?_⟩
    refine D_then (kp [2, 3, 4, 6, 9, 10, 11, 12, 42] rfl) ?_
    refine ⟨(b6, b7), trivial, (.cons rfl (.cons rfl (.cons rfl (.cons rfl (.cons rfl (.cons rfl (.cons rfl (.cons rfl (.cons rfl (.nil _)))))))))), (by (try dsimp only); repeat (first | exact HSub.nil _ | refine HSub.take (by repeat first | exact Take.head | apply Take.tail) ?_ | exact HSub.refl _ | refine HSub.drop ?_ | refine HSub.app ?_)), rfl⟩
   refine (.go (E' := [(11, _), (9, _), (4, _), (2, _)]) rfl (.plain rfl) (w_alloc zr148 rfl) rfl ?_)
   rintro _ _ ⟨b6, hb6, rfl, rfl⟩
   refine ⟨(.cons rfl (.plain rfl) (rlA (vs := [_, _]) ag24 sz24 rfl rfl rfl) (.cons rfl (.plain rfl) (rl ag92 rfl rfl rfl) (.cons rfl (.plain rfl) (rlA (vs := [_, _]) ag24 sz24 rfl rfl rfl) (.cons rfl (.plain rfl) (rl ag92 rfl rfl rfl) .nil)))), ?_⟩
   refine D_wr (.go (E' := [(11, _), (9, _), (4, _), (2, _)]) rfl (.plain rfl) (w_alloc zr148 rfl) rfl ?_)
   rintro _ _ ⟨b7, hb7, rfl, rfl⟩
   refine ⟨(.cons rfl (.plain rfl) (rlA (vs := [_, _]) ag24 sz24 rfl rfl rfl) (.cons rfl (.plain rfl) (rl ag92 rfl rfl rfl) (.cons rfl (.plain rfl) (rlA (vs := [_, _]) ag24 sz24 rfl rfl rfl) (.cons rfl (.plain rfl) (rl ag92 rfl rfl rfl) .nil)))), ?_⟩
   refine D_wr (.go (E' := [(9, _)]) rfl (.plain rfl) (ws (cs' := [_, _]) sz148 rfl rfl rfl rfl rfl rfl rfl) rfl ?_)
   rintro _ _ ⟨rfl, rfl⟩
   refine ⟨(.cons rfl (.plain rfl) (rl ag92 rfl rfl rfl) .nil), ?_⟩
   refine D_wr (.go (E' := []) rfl (.plain rfl) (ws (cs' := [_, _]) sz148 rfl rfl rfl rfl rfl rfl rfl) rfl ?_)
   rintro _ _ ⟨rfl, rfl⟩
   refine ⟨.nil, ?_⟩
   refine D_then (kp [2, 3, 4, 6, 9, 10, 11, 12, 42] rfl) ?_
   refine ⟨(b7, b6), trivial, (.cons rfl (.cons rfl (.cons rfl (.cons rfl (.cons rfl (.cons rfl (.cons rfl (.cons rfl (.cons rfl (.nil _)))))))))), (by (try dsimp only); repeat (first | exact HSub.nil _ | refine HSub.take (by repeat first | exact Take.head | apply Take.tail) ?_ | exact HSub.refl _ | refine HSub.drop ?_ | refine HSub.app ?_)), rfl⟩
  rintro ⟨x11, x12⟩ _
  refine Vs rfl ?_
  refine Lp rfl (p_fieldo fo39_1 rfl rfl) ?_
  refine Lr rfl (rl ag3 rfl rfl rfl) ?_
  first | refine Lp rfl (p_neg' rfl rfl (by unfold InI; omega)) ?_ | refine Lp rfl (p_neg rfl rfl) ?_
  refine Lp rfl (p_fieldo fo39_1 rfl rfl) ?_
  refine Lr rfl (rl ag3 rfl rfl rfl) ?_
  refine Lw rfl (w_callM rfl rfl rfl (fun o' => (by repeat first | exact .head | apply SetAt.tail)) (fun w hg => narrow_c x12 _ _ 148 (-t.speed) t.speed w (hg.own (x12, _) (by repeat first | exact mH | apply mT)))) ?_
  rintro _ _ ⟨_, rfl, rfl, rfl⟩
  refine L_then (kp [2, 3, 4, 6, 9, 10, 11, 12, 42] rfl) ?_
  refine V_seq ?_
  refine Vs rfl ?_
  iterate 2 refine Lm rfl rfl rfl ?_
  refine L_then (kp [2, 3, 4, 6, 9, 10, 11, 12, 42, 64, 65] rfl) ?_
  refine V_midT (γ := Span × Span) (kp [2, 3, 4, 6, 9, 10, 11, 12, 42] rfl) (fun (q1, r1) => []) (fun (q1, r1) => (x11, .cells #[.int .i64 q1.lo, .int .i64 q1.hi] 148) :: (x12, .cells #[.int .i64 r1.lo, .int .i64 r1.hi] 148) :: (b5, .cells #[.pointer (some ⟨b2, 1, none⟩), .pointer (some ⟨b2, 3, none⟩), .pointer (some ⟨b2, 5, none⟩), .pointer (some ⟨b2, 7, none⟩), .pointer (some ⟨b2, 9, none⟩), .pointer (some ⟨b2, 11, none⟩)] 93) :: (b3, .cells (Box.cells boxZ).toArray 28) :: (b2, .cells (Box.cells ⟨b.at_ + n, q0, b.y, b.z, r0, b.vy, b.vz⟩).toArray 28) :: (b1, t.obj tv pv 39) :: []) (fun (q1, r1) => Met (aheadS t n b.y b.vy) q1 r1) ?_ ?_
  ·refine V_block ?_
   refine V_loop1 (γ := Int × Span × Span) (kp [2, 3, 4, 6, 9, 10, 11, 12, 42, 64] rfl) (fun (k, p, v) => [(65, .int .i64 k)]) (fun (k, p, v) => (x11, .cells #[.int .i64 p.lo, .int .i64 p.hi] 148) :: (x12, .cells #[.int .i64 v.lo, .int .i64 v.hi] 148) :: (b5, .cells #[.pointer (some ⟨b2, 1, none⟩), .pointer (some ⟨b2, 3, none⟩), .pointer (some ⟨b2, 5, none⟩), .pointer (some ⟨b2, 7, none⟩), .pointer (some ⟨b2, 9, none⟩), .pointer (some ⟨b2, 11, none⟩)] 93) :: (b3, .cells (Box.cells boxZ).toArray 28) :: (b2, .cells (Box.cells ⟨b.at_ + n, q0, b.y, b.z, r0, b.vy, b.vz⟩).toArray 28) :: (b1, t.obj tv pv 39) :: []) (fun (k, p, v) => 0 ≤ k ∧ k ≤ n ∧ aheadS t n b.y b.vy = aheadN t (n - k).toNat p v ∧ okS 2000000000 p ∧ SpanB 1000000 v) (fun (k, p, v) => (n - k).toNat) ((0, b.y, common b.vy (room0 t.speed))) (.cons rfl (.nil _)) (by repeat (first | exact List.nil_sublist _ | exact List.Sublist.refl _ | apply List.Sublist.cons_cons | apply List.Sublist.cons)) (⟨by omega, by omega, by rw [Int.sub_zero]; rfl, by unfold okS; omega, by simp only [SpanB, common, room0]; omega⟩) ?_
   rintro ⟨k, p, v⟩ hi
   obtain ⟨hk0, hk1, hah, hp, hv⟩ := hi
   have hpn : p.none = false := by simp only [Span.none, decide_eq_false_iff_not]; unfold okS at hp; omega
   unfold okS at hp
   unfold SpanB at hv
   refine Vs rfl ?_
   refine Lp rfl (p_lss rfl rfl rfl) ?_
   refine L_then (kp [2, 3, 4, 6, 9, 10, 11, 12, 42, 64, 65, 66] rfl) ?_
   refine V_seq ?_
   refine V_cond rfl ?_ ?_
   ·intro c8; have c8r := c8; try simp only [td] at c8
    refine V_skip (then_n ?_)
    refine V_seq ?_
    refine V_block ?_
    refine V_seq ?_
    refine Vs rfl ?_
    refine Lc rfl rfl rfl rfl (fun w hg => empty_c x12 _ _ 148 w (hg.own (x12, _) (by repeat first | exact mH | apply mT))) ?_
    refine L_then (kp [2, 3, 4, 6, 9, 10, 11, 12, 42, 64, 65, 67] rfl) ?_
    refine V_cond rfl ?_ ?_
    ·intro c9; have c9r := c9; try simp only [td] at c9
     refine V_exit (then_e (blk_o rfl (then_e (then_e (blk_e rfl (then_n ?_))))))
     refine ⟨(p, v), ?_, (.cons rfl (.cons rfl (.cons rfl (.cons rfl (.cons rfl (.cons rfl (.cons rfl (.cons rfl (.cons rfl (.nil _)))))))))), (by (try dsimp only); repeat (first | exact HSub.nil _ | refine HSub.take (by repeat first | exact Take.head | apply Take.tail) ?_ | exact HSub.refl _ | refine HSub.drop ?_ | refine HSub.app ?_)), rfl⟩
     exact met_v hah c9
    intro c9; have c9r := c9; try simp only [td] at c9
    refine V_skip (then_n ?_)
    refine Vs rfl ?_
    refine Lp rfl (p_fieldo fo148_0 rfl rfl) ?_
    refine Lp rfl (p_fieldo fo24_0 rfl rfl) ?_
    refine Lr rfl (rl ag3 rfl rfl rfl) ?_
    refine Lp rfl (p_fieldo fo148_0 rfl rfl) ?_
    refine Lp rfl (p_fieldo fo24_0 rfl rfl) ?_
    refine Lr rfl (rl ag3 rfl rfl rfl) ?_
    first | refine Lp rfl (p_add' rfl rfl rfl (by unfold InI; omega)) ?_ | refine Lp rfl (p_add rfl rfl rfl) ?_
    refine Lp rfl (p_fieldo fo148_0 rfl rfl) ?_
    refine Lp rfl (p_fieldo fo24_1 rfl rfl) ?_
    refine Lr rfl (rl ag3 rfl rfl rfl) ?_
    refine Lp rfl (p_fieldo fo148_0 rfl rfl) ?_
    refine Lp rfl (p_fieldo fo24_1 rfl rfl) ?_
    refine Lr rfl (rl ag3 rfl rfl rfl) ?_
    first | refine Lp rfl (p_add' rfl rfl rfl (by unfold InI; omega)) ?_ | refine Lp rfl (p_add rfl rfl rfl) ?_
    refine Lp rfl (p_fieldo fo148_0 rfl rfl) ?_
    refine Lp rfl (p_fieldo fo24_0 rfl rfl) ?_
    refine Ls (cs' := [_, _]) rfl sz3 rfl rfl rfl rfl rfl rfl rfl ?_
    refine Lp rfl (p_fieldo fo148_0 rfl rfl) ?_
    refine Lp rfl (p_fieldo fo24_1 rfl rfl) ?_
    refine Ls (cs' := [_, _]) rfl sz3 rfl rfl rfl rfl rfl rfl rfl ?_
    refine L_then (kp [2, 3, 4, 6, 9, 10, 11, 12, 42, 64, 65] rfl) ?_
    refine Vs rfl ?_
    refine Lw rfl (w_callM rfl rfl rfl (fun o' => (by repeat first | exact .head | apply SetAt.tail)) (fun w hg => narrow_c x11 _ _ 148 (-2000000000) 2000000000 w (hg.own (x11, _) (by repeat first | exact mH | apply mT)))) ?_
    rintro _ _ ⟨_, rfl, rfl, rfl⟩
    refine L_then (kp [2, 3, 4, 6, 9, 10, 11, 12, 42, 64, 65] rfl) ?_
    refine V_seq ?_
    refine Vs rfl ?_
    refine Lc rfl rfl rfl rfl (fun w hg => empty_c x11 _ _ 148 w (hg.own (x11, _) (by repeat first | exact mH | apply mT))) ?_
    refine L_then (kp [2, 3, 4, 6, 9, 10, 11, 12, 42, 64, 65, 87] rfl) ?_
    refine V_cond rfl ?_ ?_
    ·intro c10; have c10r := c10; try simp only [td] at c10
     refine V_exit (then_e (blk_o rfl (then_e (then_e (blk_e rfl (then_n ?_))))))
     refine ⟨(stepP p v, v), ?_, (.cons rfl (.cons rfl (.cons rfl (.cons rfl (.cons rfl (.cons rfl (.cons rfl (.cons rfl (.cons rfl (.nil _)))))))))), (by (try dsimp only); repeat (first | exact HSub.nil _ | refine HSub.take (by repeat first | exact Take.head | apply Take.tail) ?_ | exact HSub.refl _ | refine HSub.drop ?_ | refine HSub.app ?_)), rfl⟩
     exact met_p (hah.trans (aheadN_go ⟨hk0, by omega⟩ hpn c9)) c10
    intro c10; have c10r := c10; try simp only [td] at c10
    refine V_skip (then_n ?_)
    refine V_seq (V_draw (.rd 0 (.rd 1 (.rd 2 (.rd 3 (.rd 4 (.rd 5 (.rd 6 (.rd 7 (.rd 8 (.rd 9 (.rd 10 (.rd 11 (.rd 12 (.rd 13 (.wr 14 [12, 11, 10, 9, 7, 6] (.rd 15 (.rd 16 (.wr 17 [15] .done)))))))))))))))))) mixed (by kernel_rfl) rfl ?_)
    refine Dp rfl rfl (p_fieldo fo148_0 rfl rfl) ?_
    refine Dp rfl rfl (p_fieldo fo24_0 rfl rfl) ?_
    refine Dr rfl rfl (rl ag3 rfl rfl rfl) ?_
    refine Dp rfl rfl (p_fieldo fo39_2 rfl rfl) ?_
    refine Dr rfl rfl (rl ag3 rfl rfl rfl) ?_
    first | refine Dp rfl rfl (p_sub' rfl rfl rfl (by unfold InI; omega)) ?_ | refine Dp rfl rfl (p_sub rfl rfl rfl) ?_
    refine Dp rfl rfl (p_fieldo fo148_0 rfl rfl) ?_
    refine Dp rfl rfl (p_fieldo fo24_1 rfl rfl) ?_
    refine Dr rfl rfl (rl ag3 rfl rfl rfl) ?_
    refine Dp rfl rfl (p_fieldo fo39_2 rfl rfl) ?_
    refine Dr rfl rfl (rl ag3 rfl rfl rfl) ?_
    first | refine Dp rfl rfl (p_add' rfl rfl rfl (by unfold InI; omega)) ?_ | refine Dp rfl rfl (p_add rfl rfl rfl) ?_
    refine Dp rfl rfl (p_fieldo fo148_0 rfl rfl) ?_
    refine Dp rfl rfl (p_fieldo fo24_0 rfl rfl) ?_
    refine D_wr (.go (E' := [(10, _)]) rfl (.plain rfl) (ws (cs' := [_, _]) sz3 rfl rfl rfl rfl rfl rfl rfl) rfl ?_)
    rintro _ _ ⟨rfl, rfl⟩
    refine ⟨(.cons rfl (.plain rfl) (rl ag3 rfl rfl rfl) .nil), ?_⟩
    refine Dp rfl rfl (p_fieldo fo148_0 rfl rfl) ?_
    refine Dp rfl rfl (p_fieldo fo24_1 rfl rfl) ?_
    refine D_wr (.go (E' := []) rfl (.plain rfl) (ws (cs' := [_, _]) sz3 rfl rfl rfl rfl rfl rfl rfl) rfl ?_)
    rintro _ _ ⟨rfl, rfl⟩
    refine ⟨.nil, ?_⟩
    refine D_then (kp [2, 3, 4, 6, 9, 10, 11, 12, 42, 64, 65] rfl) ?_
    refine V_region rfl ?_
    refine Lp rfl (p_fieldo fo39_1 rfl rfl) ?_
    refine Lr rfl (rl ag3 rfl rfl rfl) ?_
    first | refine Lp rfl (p_neg' rfl rfl (by unfold InI; omega)) ?_ | refine Lp rfl (p_neg rfl rfl) ?_
    refine Lp rfl (p_fieldo fo39_1 rfl rfl) ?_
    refine Lr rfl (rl ag3 rfl rfl rfl) ?_
    refine Lw rfl (w_callM rfl rfl rfl (fun o' => (by repeat first | exact .head | apply SetAt.tail)) (fun w hg => narrow_c x12 _ _ 148 (-t.speed) t.speed w (hg.own (x12, _) (by repeat first | exact mH | apply mT)))) ?_
    rintro _ _ ⟨_, rfl, rfl, rfl⟩
    refine L_keep (kp [2, 3, 4, 6, 9, 10, 11, 12, 42, 64, 65] rfl) (blk_n (then_n ?_))
    refine V_region rfl ?_
    first | refine Lp rfl (p_add' rfl rfl rfl (by unfold InI; omega)) ?_ | refine Lp rfl (p_add rfl rfl rfl) ?_
    refine Lm rfl rfl rfl ?_
    refine L_keep (kp [2, 3, 4, 6, 9, 10, 11, 12, 42, 64, 65] rfl) (then_n ?_)
    refine ⟨(k + 1, stepP p v, stepV t v), ?_, ?_, (.cons rfl (.cons rfl (.cons rfl (.cons rfl (.cons rfl (.cons rfl (.cons rfl (.cons rfl (.cons rfl (.cons rfl (.cons rfl (.nil _)))))))))))), (by repeat (first | exact List.nil_sublist _ | exact List.Sublist.refl _ | apply List.Sublist.cons_cons | apply List.Sublist.cons | apply List.sublist_append_of_sublist_right)), rfl⟩
    ·refine ⟨by omega, by omega, hah.trans (aheadN_go ⟨hk0, by omega⟩ hpn c9), ?_, ?_⟩
     ·have h5 := none_false c10
      simp only [stepP, common, room0] at h5
      simp only [okS, stepP, common, room0]; omega
     simp only [SpanB, stepV, common, room0]; omega
    dsimp only; omega
   intro c8; have c8r := c8; try simp only [td] at c8
   refine V_exit (then_e (then_e (blk_e rfl (then_n ?_))))
   refine ⟨(p, v), ?_, (.cons rfl (.cons rfl (.cons rfl (.cons rfl (.cons rfl (.cons rfl (.cons rfl (.cons rfl (.cons rfl (.nil _)))))))))), (by (try dsimp only); repeat (first | exact HSub.nil _ | refine HSub.take (by repeat first | exact Take.head | apply Take.tail) ?_ | exact HSub.refl _ | refine HSub.drop ?_ | refine HSub.app ?_)), rfl⟩
   exact met_end hah (by omega) hpn
  rintro ⟨q1, r1⟩ hm1
  refine V_seq ?_
  refine Vs rfl ?_
  refine Lc rfl rfl rfl rfl (fun w hg => empty_c x11 _ _ 148 w (hg.own (x11, _) (by repeat first | exact mH | apply mT))) ?_
  refine Lm rfl rfl rfl ?_
  refine L_cases (d := 112) rfl ?_ ?_
  ·intro g3; have g3' := g3; try simp only [td] at g3'
   refine L_no rfl rfl rfl g3 ?_
   refine Lp rfl (p_pick_t rfl rfl g3 rfl) ?_
   refine L_then (kp [2, 3, 4, 6, 9, 10, 11, 12, 42, 114] rfl) ?_
   refine V_cond_t rfl rfl ?_
   refine Vs rfl ?_
   refine Lp rfl (p_build (r := [_, _, _, _, _, _, _, _, _, _, _, _, _]) pl28 zr28 rfl rfl rfl) ?_
   refine Ls (cs' := [_, _, _, _, _, _, _, _, _, _, _, _, _]) rfl sz28 rfl rfl rfl rfl rfl rfl rfl ?_
   refine La rfl rfl rfl ?_
   refine L_then (kp [6, 7] rfl) ?_
   refine V_ret (then_r (blk_r (then_r (then_r (blk_r (then_r ?_))))))
   refine Leave.nil (.cellA (us := [_, _, _, _, _, _, _, _, _, _, _, _, _]) rfl ag28 sz28 (by repeat first | exact mH | apply mT) rfl (.tmp rfl .nil)) ?_
   rw [aheadP_ok he, foundP_none (aheadB_1 (hm0.yes g2' c7) (hm1.no (.inl g3')))]; rfl
  intro g3; have g3' := g3; try simp only [td] at g3'
  refine L_yes rfl rfl rfl g3 (X_wr (w_callP rfl rfl rfl (fun w hg => empty_c x12 _ _ 148 w (hg.own (x12, _) (by repeat first | exact mH | apply mT)))) ?_)
  rintro _ _ ⟨rfl, rfl⟩
  refine Lp rfl (p_pick_f rfl rfl g3 rfl) ?_
  refine L_then (kp [2, 3, 4, 6, 9, 10, 11, 12, 42, 114] rfl) ?_
  refine V_cond rfl ?_ ?_
  ·intro c11; have c11r := c11; try simp only [td] at c11
   refine Vs rfl ?_
   refine Lp rfl (p_build (r := [_, _, _, _, _, _, _, _, _, _, _, _, _]) pl28 zr28 rfl rfl rfl) ?_
   refine Ls (cs' := [_, _, _, _, _, _, _, _, _, _, _, _, _]) rfl sz28 rfl rfl rfl rfl rfl rfl rfl ?_
   refine La rfl rfl rfl ?_
   refine L_then (kp [6, 7] rfl) ?_
   refine V_ret (then_r (blk_r (then_r (then_r (blk_r (then_r ?_))))))
   refine Leave.nil (.cellA (us := [_, _, _, _, _, _, _, _, _, _, _, _, _]) rfl ag28 sz28 (by repeat first | exact mH | apply mT) rfl (.tmp rfl .nil)) ?_
   rw [aheadP_ok he, foundP_none (aheadB_1 (hm0.yes g2' c7) (hm1.no (.inr c11)))]; rfl
  intro c11; have c11r := c11; try simp only [td] at c11
  refine V_skip (then_n ?_)
  refine V_draw (.rd 0 (.rd 1 (.rd 2 (.rd 3 (.rd 4 (.rd 5 (.rd 6 (.rd 7 (.rd 8 (.rd 9 (.rd 10 (.rd 11 (.wr 12 [9, 6, 5, 4, 3] (.rd 13 (.wr 14 [] .done))))))))))))))) mixed (by kernel_rfl) rfl ?_
  refine Dm rfl rfl rfl rfl ?_
  refine Dp rfl rfl (p_idxao ar93 rfl rfl rfl (by omega) (by omega)) ?_
  refine Dr rfl rfl (rl ag92 rfl rfl rfl) ?_
  refine Dm rfl rfl rfl rfl ?_
  first | refine Dp rfl rfl (p_add' rfl rfl rfl (by unfold InI; omega)) ?_ | refine Dp rfl rfl (p_add rfl rfl rfl) ?_
  refine Dp rfl rfl (p_idxao ar93 rfl rfl rfl (by omega) (by omega)) ?_
  refine Dr rfl rfl (rl ag92 rfl rfl rfl) ?_
  refine Dp rfl rfl (p_fieldo fo148_0 rfl rfl) ?_
  refine Dr rfl rfl (rlA (vs := [_, _]) ag24 sz24 rfl rfl rfl) ?_
  refine Dp rfl rfl (p_fieldo fo148_0 rfl rfl) ?_
  refine Dr rfl rfl (rlA (vs := [_, _]) ag24 sz24 rfl rfl rfl) ?_
  refine Dp rfl rfl (p_nil rfl rfl) ?_
  refine D_wr (.go (E' := [(6, _)]) rfl (.plain rfl) (ws (cs' := [_, _, _, _, _, _, _, _, _, _, _, _, _]) sz24 rfl rfl rfl rfl rfl rfl rfl) rfl ?_)
  rintro _ _ ⟨rfl, rfl⟩
  refine ⟨(.cons rfl (.plain rfl) (rl ag92 rfl rfl rfl) .nil), ?_⟩
  refine Dp rfl rfl (p_nil rfl rfl) ?_
  refine D_wr (.go (E' := []) rfl (.plain rfl) (ws (cs' := [_, _, _, _, _, _, _, _, _, _, _, _, _]) sz24 rfl rfl rfl rfl rfl rfl rfl) rfl ?_)
  rintro _ _ ⟨rfl, rfl⟩
  refine ⟨.nil, ?_⟩
  refine D_keep (kp [2, 3, 4, 6, 9, 42] rfl) (blk_n (then_n ?_))
  refine V_region rfl ?_
  first | refine Lp rfl (p_add' rfl rfl rfl (by unfold InI; omega)) ?_ | refine Lp rfl (p_add rfl rfl rfl) ?_
  refine Lm rfl rfl rfl ?_
  refine L_keep (kp [2, 3, 4, 6, 9, 42] rfl) (then_n ?_)
  refine LU_step ?_
  refine Vs rfl ?_
  refine Lp rfl (p_lss rfl rfl rfl) ?_
  refine L_then (kp [2, 3, 4, 6, 9, 42, 43] rfl) ?_
  refine V_seq ?_
  refine V_cond_t rfl rfl ?_
  refine V_skip (then_n ?_)
  refine V_seq ?_
  refine V_block ?_
  refine Vs rfl ?_
  refine Lm rfl rfl rfl ?_
  refine La rfl rfl rfl ?_
  refine L_then (kp [2, 3, 4, 6, 9, 10, 42] rfl) ?_
  refine V_mid (γ := Nat × Nat) (kp [2, 3, 4, 6, 9, 10, 42] rfl) (fun (x11, x12) => [(11, .pointer (some ⟨x11, 0, none⟩)), (12, .pointer (some ⟨x12, 0, none⟩))]) (fun (x11, x12) => (x11, .cells #[.int .i64 b.z.lo, .int .i64 b.z.hi] 148) :: (x12, .cells #[.int .i64 b.vz.lo, .int .i64 b.vz.hi] 148) :: (b5, .cells #[.pointer (some ⟨b2, 1, none⟩), .pointer (some ⟨b2, 3, none⟩), .pointer (some ⟨b2, 5, none⟩), .pointer (some ⟨b2, 7, none⟩), .pointer (some ⟨b2, 9, none⟩), .pointer (some ⟨b2, 11, none⟩)] 93) :: (b3, .cells (Box.cells boxZ).toArray 28) :: (b2, .cells (Box.cells ⟨b.at_ + n, q0, q1, b.z, r0, r1, b.vz⟩).toArray 28) :: (b1, t.obj tv pv 39) :: []) (fun (x11, x12) => True) ?_ ?_
  ·refine V_draw (.rd 0 (.rd 1 (.rd 2 (.rd 3 (.rd 4 (.rd 5 (.rd 6 (.rd 7 (.rd 8 (.rd 9 (.rd 10 (.rd 11 (.rd 12 (.wr2 13 [12, 11, 10, 9, 8, 7, 6, 5, 4, 3, 2, 1, 0] (.wr 14 [12, 11, 10, 9, 8, 7, 6, 5, 4, 3, 2, 1, 0] (.wr 15 [12, 10, 9, 8, 7, 6] (.wr 16 [] .done))) 14 [12, 11, 10, 9, 8, 7, 6, 5, 4, 3, 2, 1, 0] (.wr 13 [12, 11, 10, 9, 8, 7, 6, 5, 4, 3, 2, 1, 0] (.wr 15 [12, 10, 9, 8, 7, 6] (.wr 16 [] .done))))))))))))))))) mixed (by kernel_rfl) rfl ?_
   refine Dm rfl rfl rfl rfl ?_
   refine Dp rfl rfl (p_idxao ar93 rfl rfl rfl (by omega) (by omega)) ?_
   refine Dr rfl rfl (rl ag92 rfl rfl rfl) ?_
   refine Dp rfl rfl (p_nil rfl rfl) ?_
   refine Dr rfl rfl (rlA (vs := [_, _]) ag24 sz24 rfl rfl rfl) ?_
   refine Dp rfl rfl (p_build (r := [_, _]) pl148 zr148 rfl rfl rfl) ?_
   refine Dm rfl rfl rfl rfl ?_
   first | refine Dp rfl rfl (p_add' rfl rfl rfl (by unfold InI; omega)) ?_ | refine Dp rfl rfl (p_add rfl rfl rfl) ?_
   refine Dp rfl rfl (p_idxao ar93 rfl rfl rfl (by omega) (by omega)) ?_
   refine Dr rfl rfl (rl ag92 rfl rfl rfl) ?_
   refine Dp rfl rfl (p_nil rfl rfl) ?_
   refine Dr rfl rfl (rlA (vs := [_, _]) ag24 sz24 rfl rfl rfl) ?_
   refine Dp rfl rfl (p_build (r := [_, _]) pl148 zr148 rfl rfl rfl) ?_
   refine D_wr2 rfl ?_ ?_
   ·refine (.go (E' := [(11, _), (9, _), (4, _), (2, _)]) rfl (.plain rfl) (w_alloc zr148 rfl) rfl ?_)
    rintro _ _ ⟨b6, hb6, rfl, rfl⟩
    refine ⟨(.cons rfl (.plain rfl) (rlA (vs := [_, _]) ag24 sz24 rfl rfl rfl) (.cons rfl (.plain rfl) (rl ag92 rfl rfl rfl) (.cons rfl (.plain rfl) (rlA (vs := [_, _]) ag24 sz24 rfl rfl rfl) (.cons rfl (.plain rfl) (rl ag92 rfl rfl rfl) .nil)))), ?_⟩
    refine D_wr (.go (E' := [(11, _), (9, _), (4, _), (2, _)]) rfl (.plain rfl) (w_alloc zr148 rfl) rfl ?_)
    rintro _ _ ⟨b7, hb7, rfl, rfl⟩
    refine ⟨(.cons rfl (.plain rfl) (rlA (vs := [_, _]) ag24 sz24 rfl rfl rfl) (.cons rfl (.plain rfl) (rl ag92 rfl rfl rfl) (.cons rfl (.plain rfl) (rlA (vs := [_, _]) ag24 sz24 rfl rfl rfl) (.cons rfl (.plain rfl) (rl ag92 rfl rfl rfl) .nil)))), ?_⟩
    refine D_wr (.go (E' := [(9, _)]) rfl (.plain rfl) (ws (cs' := [_, _]) sz148 rfl rfl rfl rfl rfl rfl rfl) rfl ?_)
    rintro _ _ ⟨rfl, rfl⟩
    refine ⟨(.cons rfl (.plain rfl) (rl ag92 rfl rfl rfl) .nil), ?_⟩
    refine D_wr (.go (E' := []) rfl (.plain rfl) (ws (cs' := [_, _]) sz148 rfl rfl rfl rfl rfl rfl rfl) rfl ?_)
    rintro _ _ ⟨rfl, rfl⟩
    refine ⟨.nil, ?_⟩
    refine D_then (kp [2, 3, 4, 6, 9, 10, 11, 12, 42] rfl) ?_
    refine ⟨(b6, b7), trivial, (.cons rfl (.cons rfl (.cons rfl (.cons rfl (.cons rfl (.cons rfl (.cons rfl (.cons rfl (.cons rfl (.nil _)))))))))), (by (try dsimp only); repeat (first | exact HSub.nil _ | refine HSub.take (by repeat first | exact Take.head | apply Take.tail) ?_ | exact HSub.refl _ | refine HSub.drop ?_ | refine HSub.app ?_)), rfl⟩
   refine (.go (E' := [(11, _), (9, _), (4, _), (2, _)]) rfl (.plain rfl) (w_alloc zr148 rfl) rfl ?_)
   rintro _ _ ⟨b6, hb6, rfl, rfl⟩
   refine ⟨(.cons rfl (.plain rfl) (rlA (vs := [_, _]) ag24 sz24 rfl rfl rfl) (.cons rfl (.plain rfl) (rl ag92 rfl rfl rfl) (.cons rfl (.plain rfl) (rlA (vs := [_, _]) ag24 sz24 rfl rfl rfl) (.cons rfl (.plain rfl) (rl ag92 rfl rfl rfl) .nil)))), ?_⟩
   refine D_wr (.go (E' := [(11, _), (9, _), (4, _), (2, _)]) rfl (.plain rfl) (w_alloc zr148 rfl) rfl ?_)
   rintro _ _ ⟨b7, hb7, rfl, rfl⟩
   refine ⟨(.cons rfl (.plain rfl) (rlA (vs := [_, _]) ag24 sz24 rfl rfl rfl) (.cons rfl (.plain rfl) (rl ag92 rfl rfl rfl) (.cons rfl (.plain rfl) (rlA (vs := [_, _]) ag24 sz24 rfl rfl rfl) (.cons rfl (.plain rfl) (rl ag92 rfl rfl rfl) .nil)))), ?_⟩
   refine D_wr (.go (E' := [(9, _)]) rfl (.plain rfl) (ws (cs' := [_, _]) sz148 rfl rfl rfl rfl rfl rfl rfl) rfl ?_)
   rintro _ _ ⟨rfl, rfl⟩
   refine ⟨(.cons rfl (.plain rfl) (rl ag92 rfl rfl rfl) .nil), ?_⟩
   refine D_wr (.go (E' := []) rfl (.plain rfl) (ws (cs' := [_, _]) sz148 rfl rfl rfl rfl rfl rfl rfl) rfl ?_)
   rintro _ _ ⟨rfl, rfl⟩
   refine ⟨.nil, ?_⟩
   refine D_then (kp [2, 3, 4, 6, 9, 10, 11, 12, 42] rfl) ?_
   refine ⟨(b7, b6), trivial, (.cons rfl (.cons rfl (.cons rfl (.cons rfl (.cons rfl (.cons rfl (.cons rfl (.cons rfl (.cons rfl (.nil _)))))))))), (by (try dsimp only); repeat (first | exact HSub.nil _ | refine HSub.take (by repeat first | exact Take.head | apply Take.tail) ?_ | exact HSub.refl _ | refine HSub.drop ?_ | refine HSub.app ?_)), rfl⟩
  rintro ⟨x11, x12⟩ _
  refine Vs rfl ?_
  refine Lp rfl (p_fieldo fo39_1 rfl rfl) ?_
  refine Lr rfl (rl ag3 rfl rfl rfl) ?_
  first | refine Lp rfl (p_neg' rfl rfl (by unfold InI; omega)) ?_ | refine Lp rfl (p_neg rfl rfl) ?_
  refine Lp rfl (p_fieldo fo39_1 rfl rfl) ?_
  refine Lr rfl (rl ag3 rfl rfl rfl) ?_
  refine Lw rfl (w_callM rfl rfl rfl (fun o' => (by repeat first | exact .head | apply SetAt.tail)) (fun w hg => narrow_c x12 _ _ 148 (-t.speed) t.speed w (hg.own (x12, _) (by repeat first | exact mH | apply mT)))) ?_
  rintro _ _ ⟨_, rfl, rfl, rfl⟩
  refine L_then (kp [2, 3, 4, 6, 9, 10, 11, 12, 42] rfl) ?_
  refine V_seq ?_
  refine Vs rfl ?_
  iterate 2 refine Lm rfl rfl rfl ?_
  refine L_then (kp [2, 3, 4, 6, 9, 10, 11, 12, 42, 64, 65] rfl) ?_
  refine V_midT (γ := Span × Span) (kp [2, 3, 4, 6, 9, 10, 11, 12, 42] rfl) (fun (q2, r2) => []) (fun (q2, r2) => (x11, .cells #[.int .i64 q2.lo, .int .i64 q2.hi] 148) :: (x12, .cells #[.int .i64 r2.lo, .int .i64 r2.hi] 148) :: (b5, .cells #[.pointer (some ⟨b2, 1, none⟩), .pointer (some ⟨b2, 3, none⟩), .pointer (some ⟨b2, 5, none⟩), .pointer (some ⟨b2, 7, none⟩), .pointer (some ⟨b2, 9, none⟩), .pointer (some ⟨b2, 11, none⟩)] 93) :: (b3, .cells (Box.cells boxZ).toArray 28) :: (b2, .cells (Box.cells ⟨b.at_ + n, q0, q1, b.z, r0, r1, b.vz⟩).toArray 28) :: (b1, t.obj tv pv 39) :: []) (fun (q2, r2) => Met (aheadS t n b.z b.vz) q2 r2) ?_ ?_
  ·refine V_block ?_
   refine V_loop1 (γ := Int × Span × Span) (kp [2, 3, 4, 6, 9, 10, 11, 12, 42, 64] rfl) (fun (k, p, v) => [(65, .int .i64 k)]) (fun (k, p, v) => (x11, .cells #[.int .i64 p.lo, .int .i64 p.hi] 148) :: (x12, .cells #[.int .i64 v.lo, .int .i64 v.hi] 148) :: (b5, .cells #[.pointer (some ⟨b2, 1, none⟩), .pointer (some ⟨b2, 3, none⟩), .pointer (some ⟨b2, 5, none⟩), .pointer (some ⟨b2, 7, none⟩), .pointer (some ⟨b2, 9, none⟩), .pointer (some ⟨b2, 11, none⟩)] 93) :: (b3, .cells (Box.cells boxZ).toArray 28) :: (b2, .cells (Box.cells ⟨b.at_ + n, q0, q1, b.z, r0, r1, b.vz⟩).toArray 28) :: (b1, t.obj tv pv 39) :: []) (fun (k, p, v) => 0 ≤ k ∧ k ≤ n ∧ aheadS t n b.z b.vz = aheadN t (n - k).toNat p v ∧ okS 2000000000 p ∧ SpanB 1000000 v) (fun (k, p, v) => (n - k).toNat) ((0, b.z, common b.vz (room0 t.speed))) (.cons rfl (.nil _)) (by repeat (first | exact List.nil_sublist _ | exact List.Sublist.refl _ | apply List.Sublist.cons_cons | apply List.Sublist.cons)) (⟨by omega, by omega, by rw [Int.sub_zero]; rfl, by unfold okS; omega, by simp only [SpanB, common, room0]; omega⟩) ?_
   rintro ⟨k, p, v⟩ hi
   obtain ⟨hk0, hk1, hah, hp, hv⟩ := hi
   have hpn : p.none = false := by simp only [Span.none, decide_eq_false_iff_not]; unfold okS at hp; omega
   unfold okS at hp
   unfold SpanB at hv
   refine Vs rfl ?_
   refine Lp rfl (p_lss rfl rfl rfl) ?_
   refine L_then (kp [2, 3, 4, 6, 9, 10, 11, 12, 42, 64, 65, 66] rfl) ?_
   refine V_seq ?_
   refine V_cond rfl ?_ ?_
   ·intro c12; have c12r := c12; try simp only [td] at c12
    refine V_skip (then_n ?_)
    refine V_seq ?_
    refine V_block ?_
    refine V_seq ?_
    refine Vs rfl ?_
    refine Lc rfl rfl rfl rfl (fun w hg => empty_c x12 _ _ 148 w (hg.own (x12, _) (by repeat first | exact mH | apply mT))) ?_
    refine L_then (kp [2, 3, 4, 6, 9, 10, 11, 12, 42, 64, 65, 67] rfl) ?_
    refine V_cond rfl ?_ ?_
    ·intro c13; have c13r := c13; try simp only [td] at c13
     refine V_exit (then_e (blk_o rfl (then_e (then_e (blk_e rfl (then_n ?_))))))
     refine ⟨(p, v), ?_, (.cons rfl (.cons rfl (.cons rfl (.cons rfl (.cons rfl (.cons rfl (.cons rfl (.cons rfl (.cons rfl (.nil _)))))))))), (by (try dsimp only); repeat (first | exact HSub.nil _ | refine HSub.take (by repeat first | exact Take.head | apply Take.tail) ?_ | exact HSub.refl _ | refine HSub.drop ?_ | refine HSub.app ?_)), rfl⟩
     exact met_v hah c13
    intro c13; have c13r := c13; try simp only [td] at c13
    refine V_skip (then_n ?_)
    refine Vs rfl ?_
    refine Lp rfl (p_fieldo fo148_0 rfl rfl) ?_
    refine Lp rfl (p_fieldo fo24_0 rfl rfl) ?_
    refine Lr rfl (rl ag3 rfl rfl rfl) ?_
    refine Lp rfl (p_fieldo fo148_0 rfl rfl) ?_
    refine Lp rfl (p_fieldo fo24_0 rfl rfl) ?_
    refine Lr rfl (rl ag3 rfl rfl rfl) ?_
    first | refine Lp rfl (p_add' rfl rfl rfl (by unfold InI; omega)) ?_ | refine Lp rfl (p_add rfl rfl rfl) ?_
    refine Lp rfl (p_fieldo fo148_0 rfl rfl) ?_
    refine Lp rfl (p_fieldo fo24_1 rfl rfl) ?_
    refine Lr rfl (rl ag3 rfl rfl rfl) ?_
    refine Lp rfl (p_fieldo fo148_0 rfl rfl) ?_
    refine Lp rfl (p_fieldo fo24_1 rfl rfl) ?_
    refine Lr rfl (rl ag3 rfl rfl rfl) ?_
    first | refine Lp rfl (p_add' rfl rfl rfl (by unfold InI; omega)) ?_ | refine Lp rfl (p_add rfl rfl rfl) ?_
    refine Lp rfl (p_fieldo fo148_0 rfl rfl) ?_
    refine Lp rfl (p_fieldo fo24_0 rfl rfl) ?_
    refine Ls (cs' := [_, _]) rfl sz3 rfl rfl rfl rfl rfl rfl rfl ?_
    refine Lp rfl (p_fieldo fo148_0 rfl rfl) ?_
    refine Lp rfl (p_fieldo fo24_1 rfl rfl) ?_
    refine Ls (cs' := [_, _]) rfl sz3 rfl rfl rfl rfl rfl rfl rfl ?_
    refine L_then (kp [2, 3, 4, 6, 9, 10, 11, 12, 42, 64, 65] rfl) ?_
    refine Vs rfl ?_
    refine Lw rfl (w_callM rfl rfl rfl (fun o' => (by repeat first | exact .head | apply SetAt.tail)) (fun w hg => narrow_c x11 _ _ 148 (-2000000000) 2000000000 w (hg.own (x11, _) (by repeat first | exact mH | apply mT)))) ?_
    rintro _ _ ⟨_, rfl, rfl, rfl⟩
    refine L_then (kp [2, 3, 4, 6, 9, 10, 11, 12, 42, 64, 65] rfl) ?_
    refine V_seq ?_
    refine Vs rfl ?_
    refine Lc rfl rfl rfl rfl (fun w hg => empty_c x11 _ _ 148 w (hg.own (x11, _) (by repeat first | exact mH | apply mT))) ?_
    refine L_then (kp [2, 3, 4, 6, 9, 10, 11, 12, 42, 64, 65, 87] rfl) ?_
    refine V_cond rfl ?_ ?_
    ·intro c14; have c14r := c14; try simp only [td] at c14
     refine V_exit (then_e (blk_o rfl (then_e (then_e (blk_e rfl (then_n ?_))))))
     refine ⟨(stepP p v, v), ?_, (.cons rfl (.cons rfl (.cons rfl (.cons rfl (.cons rfl (.cons rfl (.cons rfl (.cons rfl (.cons rfl (.nil _)))))))))), (by (try dsimp only); repeat (first | exact HSub.nil _ | refine HSub.take (by repeat first | exact Take.head | apply Take.tail) ?_ | exact HSub.refl _ | refine HSub.drop ?_ | refine HSub.app ?_)), rfl⟩
     exact met_p (hah.trans (aheadN_go ⟨hk0, by omega⟩ hpn c13)) c14
    intro c14; have c14r := c14; try simp only [td] at c14
    refine V_skip (then_n ?_)
    refine V_seq (V_draw (.rd 0 (.rd 1 (.rd 2 (.rd 3 (.rd 4 (.rd 5 (.rd 6 (.rd 7 (.rd 8 (.rd 9 (.rd 10 (.rd 11 (.rd 12 (.rd 13 (.wr 14 [12, 11, 10, 9, 7, 6] (.rd 15 (.rd 16 (.wr 17 [15] .done)))))))))))))))))) mixed (by kernel_rfl) rfl ?_)
    refine Dp rfl rfl (p_fieldo fo148_0 rfl rfl) ?_
    refine Dp rfl rfl (p_fieldo fo24_0 rfl rfl) ?_
    refine Dr rfl rfl (rl ag3 rfl rfl rfl) ?_
    refine Dp rfl rfl (p_fieldo fo39_2 rfl rfl) ?_
    refine Dr rfl rfl (rl ag3 rfl rfl rfl) ?_
    first | refine Dp rfl rfl (p_sub' rfl rfl rfl (by unfold InI; omega)) ?_ | refine Dp rfl rfl (p_sub rfl rfl rfl) ?_
    refine Dp rfl rfl (p_fieldo fo148_0 rfl rfl) ?_
    refine Dp rfl rfl (p_fieldo fo24_1 rfl rfl) ?_
    refine Dr rfl rfl (rl ag3 rfl rfl rfl) ?_
    refine Dp rfl rfl (p_fieldo fo39_2 rfl rfl) ?_
    refine Dr rfl rfl (rl ag3 rfl rfl rfl) ?_
    first | refine Dp rfl rfl (p_add' rfl rfl rfl (by unfold InI; omega)) ?_ | refine Dp rfl rfl (p_add rfl rfl rfl) ?_
    refine Dp rfl rfl (p_fieldo fo148_0 rfl rfl) ?_
    refine Dp rfl rfl (p_fieldo fo24_0 rfl rfl) ?_
    refine D_wr (.go (E' := [(10, _)]) rfl (.plain rfl) (ws (cs' := [_, _]) sz3 rfl rfl rfl rfl rfl rfl rfl) rfl ?_)
    rintro _ _ ⟨rfl, rfl⟩
    refine ⟨(.cons rfl (.plain rfl) (rl ag3 rfl rfl rfl) .nil), ?_⟩
    refine Dp rfl rfl (p_fieldo fo148_0 rfl rfl) ?_
    refine Dp rfl rfl (p_fieldo fo24_1 rfl rfl) ?_
    refine D_wr (.go (E' := []) rfl (.plain rfl) (ws (cs' := [_, _]) sz3 rfl rfl rfl rfl rfl rfl rfl) rfl ?_)
    rintro _ _ ⟨rfl, rfl⟩
    refine ⟨.nil, ?_⟩
    refine D_then (kp [2, 3, 4, 6, 9, 10, 11, 12, 42, 64, 65] rfl) ?_
    refine V_region rfl ?_
    refine Lp rfl (p_fieldo fo39_1 rfl rfl) ?_
    refine Lr rfl (rl ag3 rfl rfl rfl) ?_
    first | refine Lp rfl (p_neg' rfl rfl (by unfold InI; omega)) ?_ | refine Lp rfl (p_neg rfl rfl) ?_
    refine Lp rfl (p_fieldo fo39_1 rfl rfl) ?_
    refine Lr rfl (rl ag3 rfl rfl rfl) ?_
    refine Lw rfl (w_callM rfl rfl rfl (fun o' => (by repeat first | exact .head | apply SetAt.tail)) (fun w hg => narrow_c x12 _ _ 148 (-t.speed) t.speed w (hg.own (x12, _) (by repeat first | exact mH | apply mT)))) ?_
    rintro _ _ ⟨_, rfl, rfl, rfl⟩
    refine L_keep (kp [2, 3, 4, 6, 9, 10, 11, 12, 42, 64, 65] rfl) (blk_n (then_n ?_))
    refine V_region rfl ?_
    first | refine Lp rfl (p_add' rfl rfl rfl (by unfold InI; omega)) ?_ | refine Lp rfl (p_add rfl rfl rfl) ?_
    refine Lm rfl rfl rfl ?_
    refine L_keep (kp [2, 3, 4, 6, 9, 10, 11, 12, 42, 64, 65] rfl) (then_n ?_)
    refine ⟨(k + 1, stepP p v, stepV t v), ?_, ?_, (.cons rfl (.cons rfl (.cons rfl (.cons rfl (.cons rfl (.cons rfl (.cons rfl (.cons rfl (.cons rfl (.cons rfl (.cons rfl (.nil _)))))))))))), (by repeat (first | exact List.nil_sublist _ | exact List.Sublist.refl _ | apply List.Sublist.cons_cons | apply List.Sublist.cons | apply List.sublist_append_of_sublist_right)), rfl⟩
    ·refine ⟨by omega, by omega, hah.trans (aheadN_go ⟨hk0, by omega⟩ hpn c13), ?_, ?_⟩
     ·have h5 := none_false c14
      simp only [stepP, common, room0] at h5
      simp only [okS, stepP, common, room0]; omega
     simp only [SpanB, stepV, common, room0]; omega
    dsimp only; omega
   intro c12; have c12r := c12; try simp only [td] at c12
   refine V_exit (then_e (then_e (blk_e rfl (then_n ?_))))
   refine ⟨(p, v), ?_, (.cons rfl (.cons rfl (.cons rfl (.cons rfl (.cons rfl (.cons rfl (.cons rfl (.cons rfl (.cons rfl (.nil _)))))))))), (by (try dsimp only); repeat (first | exact HSub.nil _ | refine HSub.take (by repeat first | exact Take.head | apply Take.tail) ?_ | exact HSub.refl _ | refine HSub.drop ?_ | refine HSub.app ?_)), rfl⟩
   exact met_end hah (by omega) hpn
  rintro ⟨q2, r2⟩ hm2
  refine V_seq ?_
  refine Vs rfl ?_
  refine Lc rfl rfl rfl rfl (fun w hg => empty_c x11 _ _ 148 w (hg.own (x11, _) (by repeat first | exact mH | apply mT))) ?_
  refine Lm rfl rfl rfl ?_
  refine L_cases (d := 112) rfl ?_ ?_
  ·intro g4; have g4' := g4; try simp only [td] at g4'
   refine L_no rfl rfl rfl g4 ?_
   refine Lp rfl (p_pick_t rfl rfl g4 rfl) ?_
   refine L_then (kp [2, 3, 4, 6, 9, 10, 11, 12, 42, 114] rfl) ?_
   refine V_cond_t rfl rfl ?_
   refine Vs rfl ?_
   refine Lp rfl (p_build (r := [_, _, _, _, _, _, _, _, _, _, _, _, _]) pl28 zr28 rfl rfl rfl) ?_
   refine Ls (cs' := [_, _, _, _, _, _, _, _, _, _, _, _, _]) rfl sz28 rfl rfl rfl rfl rfl rfl rfl ?_
   refine La rfl rfl rfl ?_
   refine L_then (kp [6, 7] rfl) ?_
   refine V_ret (then_r (blk_r (then_r (then_r (blk_r (then_r ?_))))))
   refine Leave.nil (.cellA (us := [_, _, _, _, _, _, _, _, _, _, _, _, _]) rfl ag28 sz28 (by repeat first | exact mH | apply mT) rfl (.tmp rfl .nil)) ?_
   rw [aheadP_ok he, foundP_none (aheadB_2 (hm0.yes g2' c7) (hm1.yes g3' c11) (hm2.no (.inl g4')))]; rfl
  intro g4; have g4' := g4; try simp only [td] at g4'
  refine L_yes rfl rfl rfl g4 (X_wr (w_callP rfl rfl rfl (fun w hg => empty_c x12 _ _ 148 w (hg.own (x12, _) (by repeat first | exact mH | apply mT)))) ?_)
  rintro _ _ ⟨rfl, rfl⟩
  refine Lp rfl (p_pick_f rfl rfl g4 rfl) ?_
  refine L_then (kp [2, 3, 4, 6, 9, 10, 11, 12, 42, 114] rfl) ?_
  refine V_cond rfl ?_ ?_
  ·intro c15; have c15r := c15; try simp only [td] at c15
   refine Vs rfl ?_
   refine Lp rfl (p_build (r := [_, _, _, _, _, _, _, _, _, _, _, _, _]) pl28 zr28 rfl rfl rfl) ?_
   refine Ls (cs' := [_, _, _, _, _, _, _, _, _, _, _, _, _]) rfl sz28 rfl rfl rfl rfl rfl rfl rfl ?_
   refine La rfl rfl rfl ?_
   refine L_then (kp [6, 7] rfl) ?_
   refine V_ret (then_r (blk_r (then_r (then_r (blk_r (then_r ?_))))))
   refine Leave.nil (.cellA (us := [_, _, _, _, _, _, _, _, _, _, _, _, _]) rfl ag28 sz28 (by repeat first | exact mH | apply mT) rfl (.tmp rfl .nil)) ?_
   rw [aheadP_ok he, foundP_none (aheadB_2 (hm0.yes g2' c7) (hm1.yes g3' c11) (hm2.no (.inr c15)))]; rfl
  intro c15; have c15r := c15; try simp only [td] at c15
  refine V_skip (then_n ?_)
  refine V_draw (.rd 0 (.rd 1 (.rd 2 (.rd 3 (.rd 4 (.rd 5 (.rd 6 (.rd 7 (.rd 8 (.rd 9 (.rd 10 (.rd 11 (.wr 12 [9, 6, 5, 4, 3] (.rd 13 (.wr 14 [] .done))))))))))))))) mixed (by kernel_rfl) rfl ?_
  refine Dm rfl rfl rfl rfl ?_
  refine Dp rfl rfl (p_idxao ar93 rfl rfl rfl (by omega) (by omega)) ?_
  refine Dr rfl rfl (rl ag92 rfl rfl rfl) ?_
  refine Dm rfl rfl rfl rfl ?_
  first | refine Dp rfl rfl (p_add' rfl rfl rfl (by unfold InI; omega)) ?_ | refine Dp rfl rfl (p_add rfl rfl rfl) ?_
  refine Dp rfl rfl (p_idxao ar93 rfl rfl rfl (by omega) (by omega)) ?_
  refine Dr rfl rfl (rl ag92 rfl rfl rfl) ?_
  refine Dp rfl rfl (p_fieldo fo148_0 rfl rfl) ?_
  refine Dr rfl rfl (rlA (vs := [_, _]) ag24 sz24 rfl rfl rfl) ?_
  refine Dp rfl rfl (p_fieldo fo148_0 rfl rfl) ?_
  refine Dr rfl rfl (rlA (vs := [_, _]) ag24 sz24 rfl rfl rfl) ?_
  refine Dp rfl rfl (p_nil rfl rfl) ?_
  refine D_wr (.go (E' := [(6, _)]) rfl (.plain rfl) (ws (cs' := [_, _, _, _, _, _, _, _, _, _, _, _, _]) sz24 rfl rfl rfl rfl rfl rfl rfl) rfl ?_)
  rintro _ _ ⟨rfl, rfl⟩
  refine ⟨(.cons rfl (.plain rfl) (rl ag92 rfl rfl rfl) .nil), ?_⟩
  refine Dp rfl rfl (p_nil rfl rfl) ?_
  refine D_wr (.go (E' := []) rfl (.plain rfl) (ws (cs' := [_, _, _, _, _, _, _, _, _, _, _, _, _]) sz24 rfl rfl rfl rfl rfl rfl rfl) rfl ?_)
  rintro _ _ ⟨rfl, rfl⟩
  refine ⟨.nil, ?_⟩
  refine D_keep (kp [2, 3, 4, 6, 9, 42] rfl) (blk_n (then_n ?_))
  refine V_region rfl ?_
  first | refine Lp rfl (p_add' rfl rfl rfl (by unfold InI; omega)) ?_ | refine Lp rfl (p_add rfl rfl rfl) ?_
  refine Lm rfl rfl rfl ?_
  refine L_keep (kp [2, 3, 4, 6, 9, 42] rfl) (then_n ?_)
  refine LU_step ?_
  refine Vs rfl ?_
  refine Lp rfl (p_lss rfl rfl rfl) ?_
  refine L_then (kp [2, 3, 4, 6, 9, 42, 43] rfl) ?_
  refine V_seq ?_
  refine V_cond_f rfl rfl ?_
  refine V_exit (then_e (then_e (blk_e rfl (then_n ?_))))
  refine Vs rfl ?_
  refine Lr rfl (rlA (vs := [_, _, _, _, _, _, _, _, _, _, _, _, _]) ag28 sz28 rfl rfl rfl) ?_
  refine Ls (cs' := [_, _, _, _, _, _, _, _, _, _, _, _, _]) rfl sz28 rfl rfl rfl rfl rfl rfl rfl ?_
  refine La rfl rfl rfl ?_
  refine L_then (kp [6, 7] rfl) ?_
  refine V_ret ?_
  refine Leave.nil (.cellA (us := [_, _, _, _, _, _, _, _, _, _, _, _, _]) rfl ag28 sz28 (by repeat first | exact mH | apply mT) rfl (.tmp rfl .nil)) ?_
  rw [aheadP_ok he, foundP_some (aheadB_3 (hm0.yes g2' c7) (hm1.yes g3' c11) (hm2.yes g4' c15))]; rfl
 intro c1; have c1r := c1; try simp only [td] at c1
 refine V_skip (then_n ?_)
 refine V_seq ?_
 refine V_block ?_
 refine Vs rfl ?_
 refine Lm rfl rfl rfl ?_
 refine Lp rfl (p_neq rfl rfl rfl) ?_
 refine La rfl rfl rfl ?_
 refine L_then (kp [2, 3, 4, 6, 8, 19] rfl) ?_
 refine V_cond_t rfl (by simp [c1]) ?_
 refine Vs rfl ?_
 refine Lp rfl (p_build (r := [_, _, _, _, _, _, _, _, _, _, _, _, _]) pl28 zr28 rfl rfl rfl) ?_
 refine Lm rfl rfl rfl ?_
 refine Ls (cs' := [_, _, _, _, _, _, _, _, _, _, _, _, _]) rfl sz28 rfl rfl rfl rfl rfl rfl rfl ?_
 refine La rfl rfl rfl ?_
 refine L_then (kp [6, 7] rfl) ?_
 refine V_ret (blk_r (then_r ?_))
 refine Leave.nil (.cellA (us := [_, _, _, _, _, _, _, _, _, _, _, _, _]) rfl ag28 sz28 (by repeat first | exact mH | apply mT) rfl (.tmp rfl .nil)) ?_
 rw [aheadP_bad (aheadE_1 c1) c1]; rfl

end Go.Proofs.YtlcccpeelombbaaGreatDoor
