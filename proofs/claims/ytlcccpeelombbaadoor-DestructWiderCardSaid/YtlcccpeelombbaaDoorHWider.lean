/- YtlcccpeelombbaaDoor: DestructWider is proved: for any plan, box and numbers (no condition but what the card ties) it returns true. -/
import Derived.Test.YtlcccpeelombbaaDoorRows
import Derived.Test.YtlcccpeelombbaaDoorCards
import Derived.Test.YtlcccpeelombbaaDoorTie
import Derived.Test.YtlcccpeelombbaaDoorZan
import Derived.Test.YtlcccpeelombbaaDoorZah
import Derived.ProofKit
import Derived.LaidMore
import Derived.Stop.Joined
import Derived.Stop.LaidTwo
import Derived.SevenTiedAt
set_option linter.all false
namespace Go.Proofs.YtlcccpeelombbaaDoor
open Go.Vc Go.Tk Go.De Go.ChangeShapes Go.WideShapes Go.ChangeAt Go.RowKit
set_option maxRecDepth 100000
set_option maxHeartbeats 8000000 in
theorem destructWider_c (p : De.Plan) (pv : Value) (aF aL : Addr) (w : World) (hE : ErrR w 0 1 188 aF aL)  (hp : PlanR w pv p) (b : Box) (y0 y1 y2 y3 y4 y5 : Int) (h0 : 0 ≤ y0 ∧ y0 ≤ 255) (h1 : 0 ≤ y1 ∧ y1 ≤ 255) (h2 : 0 ≤ y2 ∧ y2 ≤ 255) (h3 : 0 ≤ y3 ∧ y3 ≤ 255) (h4 : 0 ≤ y4 ∧ y4 ≤ 255) (h5 : 0 ≤ y5 ∧ y5 ≤ 255) : FnP Tryd.prog 5 [pv, .agg (Box.cells b).toArray, .agg #[.int .u8 y0, .int .u8 y1, .int .u8 y2, .int .u8 y3, .int .u8 y4, .int .u8 y5]] w (.bool true) := by
 have hP := hp
 obtain ⟨lv, rfl, hls⟩ := hp.ex
 have hlen := hp.len
 refine fn_pure Tryd.func5 rfl (by kernel_rfl) Tryd.ntmps5 Tryd.results5 rfl ?_
 refine Vs rfl ?_
 refine Lw rfl (w_box rfl rfl) ?_
 rintro _ _ ⟨b1, hb1, rfl, rfl⟩
 refine Lw rfl (w_box rfl rfl) ?_
 rintro _ _ ⟨b2, hb2, rfl, rfl⟩
 refine Lw rfl (w_box rfl rfl) ?_
 rintro _ _ ⟨b3, hb3, rfl, rfl⟩
 refine La rfl rfl rfl ?_
 refine L_then (kp [3, 4, 5] rfl) ?_
 refine Vs rfl ?_
 refine Lr rfl (rlA (vs := [_, _, _, _, _]) ag26 sz26 rfl rfl rfl) ?_
 refine Lr rfl (rlA (vs := [_, _, _, _, _, _, _, _, _, _, _, _, _]) ag33 sz33 rfl rfl rfl) ?_
 refine Lc rfl rfl rfl rfl (fun w hg => dFall_c b p _ aF aL w (hE.good hg) (hP.good hg)) ?_
 refine Lm rfl rfl rfl ?_
 refine Lp rfl (p_ext rfl rfl rfl) ?_
 refine Lp rfl (p_ext rfl rfl rfl) ?_
 refine Lp rfl (p_ext rfl rfl rfl) ?_
 refine Lw rfl (w_alloc zr36 rfl) ?_
 rintro _ _ ⟨b4, hb4, rfl, rfl⟩
 refine Lw rfl (w_alloc zr24 rfl) ?_
 rintro _ _ ⟨b5, hb5, rfl, rfl⟩
 refine Ls (cs' := [_, _, _, _]) rfl sz36 rfl rfl rfl rfl rfl rfl rfl ?_
 refine Ls (cs' := [_, _]) rfl sz24 rfl rfl rfl rfl rfl rfl rfl ?_
 refine La rfl rfl rfl ?_
 refine L_then (kp [3, 4, 5, 7, 8, 9] rfl) ?_
 refine V_seq ?_
 refine Vs rfl ?_
 refine Lm rfl rfl rfl ?_
 refine Lp rfl (p_neq rfl rfl rfl) ?_
 refine L_then (kp [3, 4, 5, 7, 8, 21] rfl) ?_
 refine V_cond rfl ?_ ?_
 ·intro c1; try simp only [td] at c1
  refine Vs rfl ?_
  refine Lc rfl rfl rfl rfl (fun w hg => dawake_c aF aL w (hE.good hg)) ?_
  refine La rfl rfl rfl ?_
  refine L_then (kp [6] rfl) ?_
  refine V_ret (then_r ?_)
  refine Leave.nil (.tmp rfl .nil) ?_
  rfl
 ·intro c1; try simp only [td] at c1
  have he := c1
  obtain ⟨hgp, hbk, hfe, hf0⟩ := fallP_ok he
  unfold BoxOk okS at hbk
  refine V_skip (then_n ?_)
  refine Vs rfl ?_
  refine Lr rfl (rlA (vs := [_, _, _, _, _, _, _, _, _, _, _, _, _]) ag33 sz33 rfl rfl rfl) ?_
  refine Lw rfl (w_alloc zr33 rfl) ?_
  rintro _ _ ⟨b6, hb6, rfl, rfl⟩
  refine Ls (cs' := [_, _, _, _, _, _, _, _, _, _, _, _, _]) rfl sz33 rfl rfl rfl rfl rfl rfl rfl ?_
  refine L_then (kp [3, 4, 5, 7, 8, 10] rfl) ?_
  refine V_seq (V_draw (.rd 0 (.rd 1 (.rd 2 (.rd 3 (.rd 4 (.rd 5 (.rd 6 (.rd 7 (.rd 8 (.rd 9 (.rd 10 (.rd 11 (.rd 12 (.rd 13 (.rd 15 (.rd 16 (.rd 17 (.rd 18 (.rd 19 (.rd 20 (.rd 21 (.rd 22 (.rd 23 (.rd 24 (.rd 25 (.rd 26 (.rd 27 (.rd 28 (.rd 30 (.rd 31 (.rd 32 (.rd 33 (.rd 34 (.rd 35 (.rd 36 (.rd 37 (.rd 38 (.rd 39 (.rd 40 (.rd 41 (.rd 42 (.rd 43 (.wr 14 [43, 42, 41, 40, 39, 38, 37, 36, 35, 34, 33, 32, 31, 30, 28, 27, 26, 25, 24, 23, 22, 21, 20, 19, 18, 17, 16, 15, 12, 11, 10, 9, 8, 7, 5, 4, 3, 2, 1, 0] (.rd 45 (.wr 29 [45, 43, 42, 41, 40, 39, 38, 37, 36, 35, 34, 33, 32, 31, 30, 27, 26, 25, 24, 23, 22, 20, 19, 18, 17, 16, 15, 13, 12, 11, 10, 9, 8, 7, 6, 5, 4, 3, 2, 1, 0] (.wr 44 [45, 42, 41, 40, 39, 38, 37, 35, 34, 33, 32, 31, 30, 28, 27, 26, 25, 24, 23, 22, 21, 20, 19, 18, 17, 16, 15, 13, 12, 11, 10, 9, 8, 7, 6, 5, 4, 3, 2, 1, 0] (.wr 46 [43, 42, 41, 40, 39, 38, 37, 36, 35, 34, 33, 32, 31, 30, 28, 27, 26, 25, 24, 23, 22, 21, 20, 19, 18, 17, 16, 15] (.rd 47 (.wr 48 [43, 42, 41, 40, 39, 38, 37, 36, 35, 34, 33, 32, 31, 30] (.rd 49 (.wr 50 [] .done))))))))))))))))))))))))))))))))))))))))))))))))))) mixed (by kernel_rfl) rfl ?_)
  refine Dp rfl rfl (p_fieldo fo33_1 rfl rfl) ?_
  refine Dp rfl rfl (p_fieldo fo24_0 rfl rfl) ?_
  refine Dr rfl rfl (rl ag3 rfl rfl rfl) ?_
  refine Dp rfl rfl (p_idxao ar47 rfl rfl rfl (by omega) (by omega)) ?_
  refine Dr rfl rfl (rl ag5 rfl rfl rfl) ?_
  refine Dp rfl rfl (p_convI un5 un3 rfl rfl (by unfold InI; omega)) ?_
  first | refine Dp rfl rfl (p_sub' rfl rfl rfl (by unfold InI; omega)) ?_ | refine Dp rfl rfl (p_sub rfl rfl rfl) ?_
  refine Dp rfl rfl (p_fieldo fo33_1 rfl rfl) ?_
  refine Dp rfl rfl (p_fieldo fo24_1 rfl rfl) ?_
  refine Dr rfl rfl (rl ag3 rfl rfl rfl) ?_
  refine Dp rfl rfl (p_idxao ar47 rfl rfl rfl (by omega) (by omega)) ?_
  refine Dr rfl rfl (rl ag5 rfl rfl rfl) ?_
  refine Dp rfl rfl (p_convI un5 un3 rfl rfl (by unfold InI; omega)) ?_
  first | refine Dp rfl rfl (p_add' rfl rfl rfl (by unfold InI; omega)) ?_ | refine Dp rfl rfl (p_add rfl rfl rfl) ?_
  refine Dp rfl rfl (p_fieldo fo33_2 rfl rfl) ?_
  refine Dp rfl rfl (p_fieldo fo24_0 rfl rfl) ?_
  refine Dr rfl rfl (rl ag3 rfl rfl rfl) ?_
  refine Dp rfl rfl (p_idxao ar47 rfl rfl rfl (by omega) (by omega)) ?_
  refine Dr rfl rfl (rl ag5 rfl rfl rfl) ?_
  refine Dp rfl rfl (p_convI un5 un3 rfl rfl (by unfold InI; omega)) ?_
  first | refine Dp rfl rfl (p_sub' rfl rfl rfl (by unfold InI; omega)) ?_ | refine Dp rfl rfl (p_sub rfl rfl rfl) ?_
  refine Dp rfl rfl (p_fieldo fo33_2 rfl rfl) ?_
  refine Dp rfl rfl (p_fieldo fo24_1 rfl rfl) ?_
  refine Dr rfl rfl (rl ag3 rfl rfl rfl) ?_
  refine Dp rfl rfl (p_idxao ar47 rfl rfl rfl (by omega) (by omega)) ?_
  refine Dr rfl rfl (rl ag5 rfl rfl rfl) ?_
  refine Dp rfl rfl (p_convI un5 un3 rfl rfl (by unfold InI; omega)) ?_
  first | refine Dp rfl rfl (p_add' rfl rfl rfl (by unfold InI; omega)) ?_ | refine Dp rfl rfl (p_add rfl rfl rfl) ?_
  refine Dp rfl rfl (p_fieldo fo33_3 rfl rfl) ?_
  refine Dp rfl rfl (p_fieldo fo24_0 rfl rfl) ?_
  refine Dr rfl rfl (rl ag3 rfl rfl rfl) ?_
  refine Dp rfl rfl (p_idxao ar47 rfl rfl rfl (by omega) (by omega)) ?_
  refine Dr rfl rfl (rl ag5 rfl rfl rfl) ?_
  refine Dp rfl rfl (p_convI un5 un3 rfl rfl (by unfold InI; omega)) ?_
  first | refine Dp rfl rfl (p_sub' rfl rfl rfl (by unfold InI; omega)) ?_ | refine Dp rfl rfl (p_sub rfl rfl rfl) ?_
  refine Dp rfl rfl (p_fieldo fo33_3 rfl rfl) ?_
  refine Dp rfl rfl (p_fieldo fo24_1 rfl rfl) ?_
  refine Dr rfl rfl (rl ag3 rfl rfl rfl) ?_
  refine Dp rfl rfl (p_idxao ar47 rfl rfl rfl (by omega) (by omega)) ?_
  refine Dr rfl rfl (rl ag5 rfl rfl rfl) ?_
  refine Dp rfl rfl (p_convI un5 un3 rfl rfl (by unfold InI; omega)) ?_
  first | refine Dp rfl rfl (p_add' rfl rfl rfl (by unfold InI; omega)) ?_ | refine Dp rfl rfl (p_add rfl rfl rfl) ?_
  refine D_wr (.go (E' := [(41, _), (39, _), (34, _), (32, _), (26, _), (24, _), (19, _), (17, _), (11, _), (9, _), (4, _), (2, _)]) rfl (.plain rfl) (w_callP rfl rfl rfl (fun w hg => lspan6_c _ _ w)) rfl ?_)
  rintro _ _ ⟨rfl, rfl⟩
  refine ⟨(.cons rfl (.plain rfl) (rl ag5 rfl rfl rfl) (.cons rfl (.plain rfl) (rl ag3 rfl rfl rfl) (.cons rfl (.plain rfl) (rl ag5 rfl rfl rfl) (.cons rfl (.plain rfl) (rl ag3 rfl rfl rfl) (.cons rfl (.plain rfl) (rl ag5 rfl rfl rfl) (.cons rfl (.plain rfl) (rl ag3 rfl rfl rfl) (.cons rfl (.plain rfl) (rl ag5 rfl rfl rfl) (.cons rfl (.plain rfl) (rl ag3 rfl rfl rfl) (.cons rfl (.plain rfl) (rl ag5 rfl rfl rfl) (.cons rfl (.plain rfl) (rl ag3 rfl rfl rfl) (.cons rfl (.plain rfl) (rl ag5 rfl rfl rfl) (.cons rfl (.plain rfl) (rl ag3 rfl rfl rfl) .nil)))))))))))), ?_⟩
  refine Dp rfl rfl (p_fieldo fo33_1 rfl rfl) ?_
  refine D_wr (.go (E' := [(41, _), (39, _), (34, _), (32, _), (26, _), (24, _), (19, _), (17, _), (11, _), (9, _), (4, _), (2, _)]) rfl (.plain rfl) (w_callP rfl rfl rfl (fun w hg => lspan6_c _ _ w)) rfl ?_)
  rintro _ _ ⟨rfl, rfl⟩
  refine ⟨(.cons rfl (.plain rfl) (rl ag5 rfl rfl rfl) (.cons rfl (.plain rfl) (rl ag3 rfl rfl rfl) (.cons rfl (.plain rfl) (rl ag5 rfl rfl rfl) (.cons rfl (.plain rfl) (rl ag3 rfl rfl rfl) (.cons rfl (.plain rfl) (rl ag5 rfl rfl rfl) (.cons rfl (.plain rfl) (rl ag3 rfl rfl rfl) (.cons rfl (.plain rfl) (rl ag5 rfl rfl rfl) (.cons rfl (.plain rfl) (rl ag3 rfl rfl rfl) (.cons rfl (.plain rfl) (rl ag5 rfl rfl rfl) (.cons rfl (.plain rfl) (rl ag3 rfl rfl rfl) (.cons rfl (.plain rfl) (rl ag5 rfl rfl rfl) (.cons rfl (.plain rfl) (rl ag3 rfl rfl rfl) .nil)))))))))))), ?_⟩
  refine D_wr (.go (E' := [(41, _), (39, _), (34, _), (32, _), (26, _), (24, _), (19, _), (17, _), (11, _), (9, _), (4, _), (2, _)]) rfl (.plain rfl) (w_callP rfl rfl rfl (fun w hg => lspan6_c _ _ w)) rfl ?_)
  rintro _ _ ⟨rfl, rfl⟩
  refine ⟨(.cons rfl (.plain rfl) (rl ag5 rfl rfl rfl) (.cons rfl (.plain rfl) (rl ag3 rfl rfl rfl) (.cons rfl (.plain rfl) (rl ag5 rfl rfl rfl) (.cons rfl (.plain rfl) (rl ag3 rfl rfl rfl) (.cons rfl (.plain rfl) (rl ag5 rfl rfl rfl) (.cons rfl (.plain rfl) (rl ag3 rfl rfl rfl) (.cons rfl (.plain rfl) (rl ag5 rfl rfl rfl) (.cons rfl (.plain rfl) (rl ag3 rfl rfl rfl) (.cons rfl (.plain rfl) (rl ag5 rfl rfl rfl) (.cons rfl (.plain rfl) (rl ag3 rfl rfl rfl) (.cons rfl (.plain rfl) (rl ag5 rfl rfl rfl) (.cons rfl (.plain rfl) (rl ag3 rfl rfl rfl) .nil)))))))))))), ?_⟩
  refine D_wr (.go (E' := [(41, _), (39, _), (34, _), (32, _), (26, _), (24, _), (19, _), (17, _)]) rfl (.plain rfl) (ws (cs' := [_, _, _, _, _, _, _, _, _, _, _, _, _]) sz24 rfl rfl rfl rfl rfl rfl rfl) rfl ?_)
  rintro _ _ ⟨rfl, rfl⟩
  refine ⟨(.cons rfl (.plain rfl) (rl ag5 rfl rfl rfl) (.cons rfl (.plain rfl) (rl ag3 rfl rfl rfl) (.cons rfl (.plain rfl) (rl ag5 rfl rfl rfl) (.cons rfl (.plain rfl) (rl ag3 rfl rfl rfl) (.cons rfl (.plain rfl) (rl ag5 rfl rfl rfl) (.cons rfl (.plain rfl) (rl ag3 rfl rfl rfl) (.cons rfl (.plain rfl) (rl ag5 rfl rfl rfl) (.cons rfl (.plain rfl) (rl ag3 rfl rfl rfl) .nil)))))))), ?_⟩
  refine Dp rfl rfl (p_fieldo fo33_2 rfl rfl) ?_
  refine D_wr (.go (E' := [(41, _), (39, _), (34, _), (32, _)]) rfl (.plain rfl) (ws (cs' := [_, _, _, _, _, _, _, _, _, _, _, _, _]) sz24 rfl rfl rfl rfl rfl rfl rfl) rfl ?_)
  rintro _ _ ⟨rfl, rfl⟩
  refine ⟨(.cons rfl (.plain rfl) (rl ag5 rfl rfl rfl) (.cons rfl (.plain rfl) (rl ag3 rfl rfl rfl) (.cons rfl (.plain rfl) (rl ag5 rfl rfl rfl) (.cons rfl (.plain rfl) (rl ag3 rfl rfl rfl) .nil)))), ?_⟩
  refine Dp rfl rfl (p_fieldo fo33_3 rfl rfl) ?_
  refine D_wr (.go (E' := []) rfl (.plain rfl) (ws (cs' := [_, _, _, _, _, _, _, _, _, _, _, _, _]) sz24 rfl rfl rfl rfl rfl rfl rfl) rfl ?_)
  rintro _ _ ⟨rfl, rfl⟩
  refine ⟨.nil, ?_⟩
  refine D_then (kp [3, 4, 5, 7, 8, 10] rfl) ?_
  refine V_seq (V_draw (.rd 0 (.rd 1 (.rd 2 (.rd 3 (.rd 4 (.rd 5 (.rd 6 (.rd 7 (.rd 8 (.rd 9 (.rd 10 (.rd 11 (.rd 12 (.rd 13 (.rd 15 (.rd 16 (.rd 17 (.rd 18 (.rd 19 (.rd 20 (.rd 21 (.rd 22 (.rd 23 (.rd 24 (.rd 25 (.rd 26 (.rd 27 (.rd 28 (.rd 30 (.rd 31 (.rd 32 (.rd 33 (.rd 34 (.rd 35 (.rd 36 (.rd 37 (.rd 38 (.rd 39 (.rd 40 (.rd 41 (.rd 42 (.rd 43 (.wr 14 [43, 42, 41, 40, 39, 38, 37, 36, 35, 34, 33, 32, 31, 30, 28, 27, 26, 25, 24, 23, 22, 21, 20, 19, 18, 17, 16, 15, 12, 11, 10, 9, 8, 7, 5, 4, 3, 2, 1, 0] (.rd 45 (.wr 29 [45, 43, 42, 41, 40, 39, 38, 37, 36, 35, 34, 33, 32, 31, 30, 27, 26, 25, 24, 23, 22, 20, 19, 18, 17, 16, 15, 13, 12, 11, 10, 9, 8, 7, 6, 5, 4, 3, 2, 1, 0] (.wr 44 [45, 42, 41, 40, 39, 38, 37, 35, 34, 33, 32, 31, 30, 28, 27, 26, 25, 24, 23, 22, 21, 20, 19, 18, 17, 16, 15, 13, 12, 11, 10, 9, 8, 7, 6, 5, 4, 3, 2, 1, 0] (.wr 46 [43, 42, 41, 40, 39, 38, 37, 36, 35, 34, 33, 32, 31, 30, 28, 27, 26, 25, 24, 23, 22, 21, 20, 19, 18, 17, 16, 15] (.rd 47 (.wr 48 [43, 42, 41, 40, 39, 38, 37, 36, 35, 34, 33, 32, 31, 30] (.rd 49 (.wr 50 [] .done))))))))))))))))))))))))))))))))))))))))))))))))))) mixed (by kernel_rfl) rfl ?_)
  refine Dp rfl rfl (p_fieldo fo33_4 rfl rfl) ?_
  refine Dp rfl rfl (p_fieldo fo24_0 rfl rfl) ?_
  refine Dr rfl rfl (rl ag3 rfl rfl rfl) ?_
  refine Dp rfl rfl (p_idxao ar47 rfl rfl rfl (by omega) (by omega)) ?_
  refine Dr rfl rfl (rl ag5 rfl rfl rfl) ?_
  refine Dp rfl rfl (p_convI un5 un3 rfl rfl (by unfold InI; omega)) ?_
  first | refine Dp rfl rfl (p_sub' rfl rfl rfl (by unfold InI; omega)) ?_ | refine Dp rfl rfl (p_sub rfl rfl rfl) ?_
  refine Dp rfl rfl (p_fieldo fo33_4 rfl rfl) ?_
  refine Dp rfl rfl (p_fieldo fo24_1 rfl rfl) ?_
  refine Dr rfl rfl (rl ag3 rfl rfl rfl) ?_
  refine Dp rfl rfl (p_idxao ar47 rfl rfl rfl (by omega) (by omega)) ?_
  refine Dr rfl rfl (rl ag5 rfl rfl rfl) ?_
  refine Dp rfl rfl (p_convI un5 un3 rfl rfl (by unfold InI; omega)) ?_
  first | refine Dp rfl rfl (p_add' rfl rfl rfl (by unfold InI; omega)) ?_ | refine Dp rfl rfl (p_add rfl rfl rfl) ?_
  refine Dp rfl rfl (p_fieldo fo33_5 rfl rfl) ?_
  refine Dp rfl rfl (p_fieldo fo24_0 rfl rfl) ?_
  refine Dr rfl rfl (rl ag3 rfl rfl rfl) ?_
  refine Dp rfl rfl (p_idxao ar47 rfl rfl rfl (by omega) (by omega)) ?_
  refine Dr rfl rfl (rl ag5 rfl rfl rfl) ?_
  refine Dp rfl rfl (p_convI un5 un3 rfl rfl (by unfold InI; omega)) ?_
  first | refine Dp rfl rfl (p_sub' rfl rfl rfl (by unfold InI; omega)) ?_ | refine Dp rfl rfl (p_sub rfl rfl rfl) ?_
  refine Dp rfl rfl (p_fieldo fo33_5 rfl rfl) ?_
  refine Dp rfl rfl (p_fieldo fo24_1 rfl rfl) ?_
  refine Dr rfl rfl (rl ag3 rfl rfl rfl) ?_
  refine Dp rfl rfl (p_idxao ar47 rfl rfl rfl (by omega) (by omega)) ?_
  refine Dr rfl rfl (rl ag5 rfl rfl rfl) ?_
  refine Dp rfl rfl (p_convI un5 un3 rfl rfl (by unfold InI; omega)) ?_
  first | refine Dp rfl rfl (p_add' rfl rfl rfl (by unfold InI; omega)) ?_ | refine Dp rfl rfl (p_add rfl rfl rfl) ?_
  refine Dp rfl rfl (p_fieldo fo33_6 rfl rfl) ?_
  refine Dp rfl rfl (p_fieldo fo24_0 rfl rfl) ?_
  refine Dr rfl rfl (rl ag3 rfl rfl rfl) ?_
  refine Dp rfl rfl (p_idxao ar47 rfl rfl rfl (by omega) (by omega)) ?_
  refine Dr rfl rfl (rl ag5 rfl rfl rfl) ?_
  refine Dp rfl rfl (p_convI un5 un3 rfl rfl (by unfold InI; omega)) ?_
  first | refine Dp rfl rfl (p_sub' rfl rfl rfl (by unfold InI; omega)) ?_ | refine Dp rfl rfl (p_sub rfl rfl rfl) ?_
  refine Dp rfl rfl (p_fieldo fo33_6 rfl rfl) ?_
  refine Dp rfl rfl (p_fieldo fo24_1 rfl rfl) ?_
  refine Dr rfl rfl (rl ag3 rfl rfl rfl) ?_
  refine Dp rfl rfl (p_idxao ar47 rfl rfl rfl (by omega) (by omega)) ?_
  refine Dr rfl rfl (rl ag5 rfl rfl rfl) ?_
  refine Dp rfl rfl (p_convI un5 un3 rfl rfl (by unfold InI; omega)) ?_
  first | refine Dp rfl rfl (p_add' rfl rfl rfl (by unfold InI; omega)) ?_ | refine Dp rfl rfl (p_add rfl rfl rfl) ?_
  refine D_wr (.go (E' := [(41, _), (39, _), (34, _), (32, _), (26, _), (24, _), (19, _), (17, _), (11, _), (9, _), (4, _), (2, _)]) rfl (.plain rfl) (w_callP rfl rfl rfl (fun w hg => lspan6_c _ _ w)) rfl ?_)
  rintro _ _ ⟨rfl, rfl⟩
  refine ⟨(.cons rfl (.plain rfl) (rl ag5 rfl rfl rfl) (.cons rfl (.plain rfl) (rl ag3 rfl rfl rfl) (.cons rfl (.plain rfl) (rl ag5 rfl rfl rfl) (.cons rfl (.plain rfl) (rl ag3 rfl rfl rfl) (.cons rfl (.plain rfl) (rl ag5 rfl rfl rfl) (.cons rfl (.plain rfl) (rl ag3 rfl rfl rfl) (.cons rfl (.plain rfl) (rl ag5 rfl rfl rfl) (.cons rfl (.plain rfl) (rl ag3 rfl rfl rfl) (.cons rfl (.plain rfl) (rl ag5 rfl rfl rfl) (.cons rfl (.plain rfl) (rl ag3 rfl rfl rfl) (.cons rfl (.plain rfl) (rl ag5 rfl rfl rfl) (.cons rfl (.plain rfl) (rl ag3 rfl rfl rfl) .nil)))))))))))), ?_⟩
  refine Dp rfl rfl (p_fieldo fo33_4 rfl rfl) ?_
  refine D_wr (.go (E' := [(41, _), (39, _), (34, _), (32, _), (26, _), (24, _), (19, _), (17, _), (11, _), (9, _), (4, _), (2, _)]) rfl (.plain rfl) (w_callP rfl rfl rfl (fun w hg => lspan6_c _ _ w)) rfl ?_)
  rintro _ _ ⟨rfl, rfl⟩
  refine ⟨(.cons rfl (.plain rfl) (rl ag5 rfl rfl rfl) (.cons rfl (.plain rfl) (rl ag3 rfl rfl rfl) (.cons rfl (.plain rfl) (rl ag5 rfl rfl rfl) (.cons rfl (.plain rfl) (rl ag3 rfl rfl rfl) (.cons rfl (.plain rfl) (rl ag5 rfl rfl rfl) (.cons rfl (.plain rfl) (rl ag3 rfl rfl rfl) (.cons rfl (.plain rfl) (rl ag5 rfl rfl rfl) (.cons rfl (.plain rfl) (rl ag3 rfl rfl rfl) (.cons rfl (.plain rfl) (rl ag5 rfl rfl rfl) (.cons rfl (.plain rfl) (rl ag3 rfl rfl rfl) (.cons rfl (.plain rfl) (rl ag5 rfl rfl rfl) (.cons rfl (.plain rfl) (rl ag3 rfl rfl rfl) .nil)))))))))))), ?_⟩
  refine D_wr (.go (E' := [(41, _), (39, _), (34, _), (32, _), (26, _), (24, _), (19, _), (17, _), (11, _), (9, _), (4, _), (2, _)]) rfl (.plain rfl) (w_callP rfl rfl rfl (fun w hg => lspan6_c _ _ w)) rfl ?_)
  rintro _ _ ⟨rfl, rfl⟩
  refine ⟨(.cons rfl (.plain rfl) (rl ag5 rfl rfl rfl) (.cons rfl (.plain rfl) (rl ag3 rfl rfl rfl) (.cons rfl (.plain rfl) (rl ag5 rfl rfl rfl) (.cons rfl (.plain rfl) (rl ag3 rfl rfl rfl) (.cons rfl (.plain rfl) (rl ag5 rfl rfl rfl) (.cons rfl (.plain rfl) (rl ag3 rfl rfl rfl) (.cons rfl (.plain rfl) (rl ag5 rfl rfl rfl) (.cons rfl (.plain rfl) (rl ag3 rfl rfl rfl) (.cons rfl (.plain rfl) (rl ag5 rfl rfl rfl) (.cons rfl (.plain rfl) (rl ag3 rfl rfl rfl) (.cons rfl (.plain rfl) (rl ag5 rfl rfl rfl) (.cons rfl (.plain rfl) (rl ag3 rfl rfl rfl) .nil)))))))))))), ?_⟩
  refine D_wr (.go (E' := [(41, _), (39, _), (34, _), (32, _), (26, _), (24, _), (19, _), (17, _)]) rfl (.plain rfl) (ws (cs' := [_, _, _, _, _, _, _, _, _, _, _, _, _]) sz24 rfl rfl rfl rfl rfl rfl rfl) rfl ?_)
  rintro _ _ ⟨rfl, rfl⟩
  refine ⟨(.cons rfl (.plain rfl) (rl ag5 rfl rfl rfl) (.cons rfl (.plain rfl) (rl ag3 rfl rfl rfl) (.cons rfl (.plain rfl) (rl ag5 rfl rfl rfl) (.cons rfl (.plain rfl) (rl ag3 rfl rfl rfl) (.cons rfl (.plain rfl) (rl ag5 rfl rfl rfl) (.cons rfl (.plain rfl) (rl ag3 rfl rfl rfl) (.cons rfl (.plain rfl) (rl ag5 rfl rfl rfl) (.cons rfl (.plain rfl) (rl ag3 rfl rfl rfl) .nil)))))))), ?_⟩
  refine Dp rfl rfl (p_fieldo fo33_5 rfl rfl) ?_
  refine D_wr (.go (E' := [(41, _), (39, _), (34, _), (32, _)]) rfl (.plain rfl) (ws (cs' := [_, _, _, _, _, _, _, _, _, _, _, _, _]) sz24 rfl rfl rfl rfl rfl rfl rfl) rfl ?_)
  rintro _ _ ⟨rfl, rfl⟩
  refine ⟨(.cons rfl (.plain rfl) (rl ag5 rfl rfl rfl) (.cons rfl (.plain rfl) (rl ag3 rfl rfl rfl) (.cons rfl (.plain rfl) (rl ag5 rfl rfl rfl) (.cons rfl (.plain rfl) (rl ag3 rfl rfl rfl) .nil)))), ?_⟩
  refine Dp rfl rfl (p_fieldo fo33_6 rfl rfl) ?_
  refine D_wr (.go (E' := []) rfl (.plain rfl) (ws (cs' := [_, _, _, _, _, _, _, _, _, _, _, _, _]) sz24 rfl rfl rfl rfl rfl rfl rfl) rfl ?_)
  rintro _ _ ⟨rfl, rfl⟩
  refine ⟨.nil, ?_⟩
  refine D_then (kp [3, 7, 8, 10] rfl) ?_
  refine Vs rfl ?_
  refine Lr rfl (rlA (vs := [_, _, _, _, _]) ag26 sz26 rfl rfl rfl) ?_
  refine Lr rfl (rlA (vs := [_, _, _, _, _, _, _, _, _, _, _, _, _]) ag33 sz33 rfl rfl rfl) ?_
  refine Lc rfl rfl rfl rfl (fun w hg => dFall_c (⟨b.at_, ⟨b.x.lo - y0, b.x.hi + y1⟩, ⟨b.y.lo - y1, b.y.hi + y0⟩, ⟨b.z.lo - y2, b.z.hi + y3⟩, ⟨b.vx.lo - y4, b.vx.hi + y5⟩, ⟨b.vy.lo - y5, b.vy.hi + y4⟩, ⟨b.vz.lo - y4, b.vz.hi + y5⟩⟩ : Box) p _ aF aL w (hE.good hg) (hP.good hg)) ?_
  refine Lm rfl rfl rfl ?_
  refine Lp rfl (p_ext rfl rfl rfl) ?_
  refine Lp rfl (p_ext rfl rfl rfl) ?_
  refine Lp rfl (p_ext rfl rfl rfl) ?_
  refine Lw rfl (w_alloc zr36 rfl) ?_
  rintro _ _ ⟨b7, hb7, rfl, rfl⟩
  refine Lw rfl (w_alloc zr24 rfl) ?_
  rintro _ _ ⟨b8, hb8, rfl, rfl⟩
  refine Ls (cs' := [_, _, _, _]) rfl sz36 rfl rfl rfl rfl rfl rfl rfl ?_
  refine Ls (cs' := [_, _]) rfl sz24 rfl rfl rfl rfl rfl rfl rfl ?_
  refine La rfl rfl rfl ?_
  refine L_then (kp [7, 8, 9, 11, 12] rfl) ?_
  refine V_seq ?_
  refine Vs rfl ?_
  refine Lm rfl rfl rfl ?_
  refine Lp rfl (p_neq rfl rfl rfl) ?_
  refine L_then (kp [7, 8, 11, 12, 128] rfl) ?_
  refine V_cond rfl ?_ ?_
  ·intro c2; try simp only [td] at c2
   refine Vs rfl ?_
   refine Lc rfl rfl rfl rfl (fun w hg => dawake_c aF aL w (hE.good hg)) ?_
   refine La rfl rfl rfl ?_
   refine L_then (kp [6] rfl) ?_
   refine V_ret (then_r ?_)
   refine Leave.nil (.tmp rfl .nil) ?_
   rfl
  ·intro c2; try simp only [td] at c2
   have he2 := c2
   obtain ⟨_, _, hfe2, hf2⟩ := fallP_ok he2
   have hw := fall_wider (g := p.grav) (b := b) (c := (⟨b.at_, ⟨b.x.lo - y0, b.x.hi + y1⟩, ⟨b.y.lo - y1, b.y.hi + y0⟩, ⟨b.z.lo - y2, b.z.hi + y3⟩, ⟨b.vx.lo - y4, b.vx.hi + y5⟩, ⟨b.vy.lo - y5, b.vy.hi + y4⟩, ⟨b.vz.lo - y4, b.vz.hi + y5⟩⟩ : Box)) ⟨rfl, by unfold InS; dsimp only; omega, by unfold InS; dsimp only; omega, by unfold InS; dsimp only; omega, by unfold InS; dsimp only; omega, by unfold InS; dsimp only; omega, by unfold InS; dsimp only; omega⟩ hf0 hf2
   rw [← hfe, ← hfe2] at hw
   refine V_skip (then_n ?_)
   refine Vs rfl ?_
   refine Lp rfl (p_fieldo fo36_0 rfl rfl) ?_
   refine Lr rfl (rlA (vs := [_, _]) ag24 sz24 rfl rfl rfl) ?_
   refine Lp rfl (p_fieldo fo36_0 rfl rfl) ?_
   refine Lr rfl (rlA (vs := [_, _]) ag24 sz24 rfl rfl rfl) ?_
   refine Lc rfl rfl rfl rfl (fun w hg => lholds_c (De.fallP p (⟨b.at_, ⟨b.x.lo - y0, b.x.hi + y1⟩, ⟨b.y.lo - y1, b.y.hi + y0⟩, ⟨b.z.lo - y2, b.z.hi + y3⟩, ⟨b.vx.lo - y4, b.vx.hi + y5⟩, ⟨b.vy.lo - y5, b.vy.hi + y4⟩, ⟨b.vz.lo - y4, b.vz.hi + y5⟩⟩ : Box)).x (De.fallP p b).x hw.1 w) ?_
   refine Lm rfl rfl rfl ?_
   refine L_yes rfl rfl rfl rfl (X_p (p_fieldo fo36_1 rfl rfl) ?_)
   refine L_yes rfl rfl rfl rfl (X_rd (rlA (vs := [_, _]) ag24 sz24 rfl rfl rfl) ?_)
   refine L_yes rfl rfl rfl rfl (X_p (p_fieldo fo36_1 rfl rfl) ?_)
   refine L_yes rfl rfl rfl rfl (X_rd (rlA (vs := [_, _]) ag24 sz24 rfl rfl rfl) ?_)
   refine L_yes rfl rfl rfl rfl (X_wr (w_callP rfl rfl rfl (fun w hg => lholds_c (De.fallP p (⟨b.at_, ⟨b.x.lo - y0, b.x.hi + y1⟩, ⟨b.y.lo - y1, b.y.hi + y0⟩, ⟨b.z.lo - y2, b.z.hi + y3⟩, ⟨b.vx.lo - y4, b.vx.hi + y5⟩, ⟨b.vy.lo - y5, b.vy.hi + y4⟩, ⟨b.vz.lo - y4, b.vz.hi + y5⟩⟩ : Box)).y (De.fallP p b).y hw.2.1 w)) ?_)
   rintro _ _ ⟨rfl, rfl⟩
   refine Lp rfl (p_pick_t rfl rfl rfl rfl) ?_
   refine Lm rfl rfl rfl ?_
   refine L_yes rfl rfl rfl rfl (X_rd (rlA (vs := [_, _]) ag24 sz24 rfl rfl rfl) ?_)
   refine L_yes rfl rfl rfl rfl (X_rd (rlA (vs := [_, _]) ag24 sz24 rfl rfl rfl) ?_)
   refine L_yes rfl rfl rfl rfl (X_wr (w_callP rfl rfl rfl (fun w hg => lholds_c (De.fallP p (⟨b.at_, ⟨b.x.lo - y0, b.x.hi + y1⟩, ⟨b.y.lo - y1, b.y.hi + y0⟩, ⟨b.z.lo - y2, b.z.hi + y3⟩, ⟨b.vx.lo - y4, b.vx.hi + y5⟩, ⟨b.vy.lo - y5, b.vy.hi + y4⟩, ⟨b.vz.lo - y4, b.vz.hi + y5⟩⟩ : Box)).at_ (De.fallP p b).at_ hw.2.2 w)) ?_)
   rintro _ _ ⟨rfl, rfl⟩
   refine Lp rfl (p_pick_t rfl rfl rfl rfl) ?_
   refine Lm rfl rfl rfl ?_
   refine L_yes rfl rfl rfl rfl (X_wr (w_callP rfl rfl rfl (fun w hg => dawake_c aF aL w (hE.good hg))) ?_)
   rintro _ _ ⟨rfl, rfl⟩
   refine Lp rfl (p_pick_t rfl rfl rfl rfl) ?_
   refine La rfl rfl rfl ?_
   refine L_then (kp [6] rfl) ?_
   refine V_ret ?_
   refine Leave.nil (.tmp rfl .nil) ?_
   rfl

theorem own_ : ownKnob Tryd.prog.godebug = none := by kernel_rfl
def laidE : List (String × DataW Unit) := [("hangfire/destruct.errFar", Rows.laid_hangfire_destruct_errFar), ("hangfire/destruct.errLong", Rows.laid_hangfire_destruct_errLong)]
theorem gFar : Tryd.prog.globalNamed "hangfire/destruct.errFar" = some 0 := by kernel_rfl
theorem gLong : Tryd.prog.globalNamed "hangfire/destruct.errLong" = some 1 := by kernel_rfl
theorem tFar : (Tryd.prog.globals[0]?).map (·.type) = some 92 := by kernel_rfl
theorem tLong : (Tryd.prog.globals[1]?).map (·.type) = some 92 := by kernel_rfl
theorem door_met (os : Os) (args : Array Value) : laidMetH Tryd.prog laidE ((World.doorLaid Tryd.prog 400 os).forCall (fun _ _ => 0) ⟨#[], args, []⟩).memory :=
 laidMetH_of_parts3 (fuel := 8) (laidMet_of_run' 8 (by kernel_rfl) (by kernel_rfl)) (by kernel_rfl) (by kernel_rfl)
theorem of_laid {W : World} (h : laidMetH Tryd.prog laidE W) : ∃ aF aL, ErrR W 0 1 188 aF aL := by
 rw [MakeChecks.laidMetH_plain _ _ _ (by kernel_rfl)] at h
 have hr : ∀ u, Tryd.prog.typeName? 3 u = some "*errors.errorString" → u = 188 := fun u hu =>
  typeName_ptr_named (nm := "errors.errorString") (by kernel_rfl) (by kernel_rfl) (by decide) u hu
 obtain ⟨a0, a1, s0, s1, c0, c1, t0, t1, hv0, hv1, _, _, _, _, _, _, hne, hb0, hb1⟩ := laid_sentinels2 h gFar tFar gLong tLong Tryd.underlying92 hr Tryd.underlying188 Tryd.underlying214 rfl rfl Tryd.underlying9 (by kernel_rfl) (by kernel_rfl)
 exact ⟨a0, a1, by simpa using World.var?_cell gFar hv0 0, by simpa using World.var?_cell gLong hv1 0, hne, ⟨c0, t0, hb0⟩, ⟨c1, t1, hb1⟩⟩

theorem destructWider_lifted (os : Os) (started : os.Started) (H : Type) (enc : TypeId × Value → H) :
  ReturnsInHanded {} Tryd.checked os 5 .any (fun w args => (Rows.destructWiderSpec.pre enc Tryd.prog Tryd.f5 Rows.destructWiderRow.domain false w args ∧ laidMetH Tryd.prog laidE w) ∧ sizedMet enc Tryd.prog Tryd.f5 (OpenSpec.ofChange Rows.destructWiderSpec) false w args)
   (Rows.destructWiderSpec.post enc Tryd.prog Tryd.f5 false true false false) := by
 refine returnsInHanded_of_change_and (C := Tryd.checked) (X := fun w _ => laidMetH Tryd.prog laidE w) (fun _ _ _ hh h => h.of_heap hh) own_ started (by kernel_rfl) Tryd.func5
  (ChangeSpec.witness_shaped (enc := enc) (C := Tryd.checked) (os := os) (X := fun w _ => laidMetH Tryd.prog laidE w) false (World.doorLaid Tryd.prog 400 os) #[.agg #[.slice none 0 0, .int .i64 0, .int .i64 0, .int .i64 0, .int .i64 0], .agg #[.int .i64 0, .int .i64 0, .int .i64 0, .int .i64 0, .int .i64 0, .int .i64 0, .int .i64 0, .int .i64 0, .int .i64 0, .int .i64 0, .int .i64 0, .int .i64 0, .int .i64 0], .agg #[.int .u8 0, .int .u8 0, .int .u8 0, .int .u8 0, .int .u8 0, .int .u8 0]] 8 rfl (World.shaped_of_RefB (by kernel_rfl) (by kernel_rfl)) (by kernel_rfl) (by kernel_rfl) (by kernel_rfl) (door_met os _)) ?_
 intro W base args ds gs before hval0 hW _ _ hL _
 have hval : ∀ (j : Nat) t v, Tryd.f5.params[j]? = some t → args[j]? = some v → Value.okWide Tryd.prog W .any base t v := hval0
 have hW' := hW
 obtain ⟨pA, pB, hA0, hV, rfl, _, _⟩ := hW
 have hA : DataW.TrodAll enc Tryd.prog W 0 (fun _ => true) true Tryd.f5.params.toList args.toList ds pA := hA0
 clear hA0 hval0
 rw [Tryd.params5] at hA hval
 obtain ⟨rfl, rfl⟩ := trodVars_none hV
 obtain ⟨v0, vs0, d0, ds0, p0, q0, ea0, rfl, rfl, h0, hA0⟩ := trodAll_cons hA
 obtain ⟨v1, vs1, d1, ds1, p1, q1, ea1, rfl, rfl, h1, hA1⟩ := trodAll_cons hA0
 obtain ⟨v2, vs2, d2, ds2, p2, q2, ea2, rfl, rfl, h2, hA2⟩ := trodAll_cons hA1
 obtain ⟨rfl, rfl, rfl⟩ := trodAll_nil hA2
 subst ea2
 subst ea1
 have ea : args = #[v0, v1, v2] := Array.toList_inj.1 ea0
 subst ea
 have k0 := hval 0 _ v0 rfl rfl
 have k1 := hval 1 _ v1 rfl rfl
 have k2 := hval 2 _ v2 rfl rfl
 obtain ⟨aF, aL, hE⟩ := of_laid hL
 obtain ⟨p, hP⟩ := open_plan (P := Tryd.prog) (by kernel_rfl) k0 h0
 obtain ⟨b, rfl, hI⟩ := open_box (P := Tryd.prog) (by kernel_rfl) k1 h1
 obtain ⟨y0, y1, y2, y3, y4, y5, rfl, h0', h1', h2', h3', h4', h5'⟩ := open_6u8 (P := Tryd.prog) (by kernel_rfl) k2 h2
 refine (calls_of (destructWider_c p _ aF aL W hE hP b y0 y1 y2 y3 y4 y5 h0' h1' h2' h3' h4' h5')).mono ?_
 rintro _ W' ⟨_, rfl, rfl, hX⟩
 exact ⟨_, rfl, post_true hW' rfl hX (by kernel_rfl) (by kernel_rfl) rfl rfl rfl (by kernel_rfl) Tryd.underlying4⟩

theorem destructWider_row : Rows.DestructWiderSaid :=
 OpenClaim.holds_of_wide 5 Tryd.f5 rfl rfl rfl rfl rfl rfl rfl ⟨rfl, rfl, rfl, rfl, rfl⟩ rfl rfl rfl rfl rfl (by kernel_rfl) Tryd.func5 (by kernel_rfl)
  (of_decide_eq_true (by kernel_rfl)) (by unfold Func.isWrapper; first | (rw [if_pos (by decide +kernel)]; kernel_rfl) | (rw [if_neg (by decide +kernel)]; exact ⟨rfl, rfl⟩))
  (fun os started H enc _ => destructWider_lifted os started H enc)

theorem destructWider_holds : Rows.DestructWiderCardSaid :=
 Claim7.holds_tied_plain_at .later [] [.sentinel, .sentinel] true (true, "48260a2a5b0eb76944b9e5d1a832da4a10ca173671f6f4086f1a5fa8eb5135c9") true
  destructWider_row (fun _ h => by cases h) (by kernel_rfl) (fun _ h => by cases h) destructWider_row_tie rfl ⟨rfl, rfl⟩ (by kernel_rfl) rfl
  (fun f fn hf hfn => by
   obtain rfl : f = 5 := Option.some.inj ((show Tryd.prog.funcNamed "hangfire/hangfirelaw06.DestructWider" = some 5 by kernel_rfl).symm.trans hf) |>.symm
   obtain rfl : fn = Tryd.f5 := (Option.some.inj (Tryd.func5.symm.trans hfn)).symm
   exact ⟨by kernel_rfl, fun j t ht => by
    rw [Tryd.params5] at ht
    have hm : t ∈ [26, 33, 47] := by simpa using Array.mem_of_getElem? ht
    have hall : ([26, 33, 47].all fun u => !Tryd.prog.wantsStandIn u) = true := by kernel_rfl
    exact (show Tryd.prog.wantsStandIn t = false by simpa using List.all_eq_true.1 hall t hm)⟩)
  (by kernel_rfl)
#print axioms destructWider_holds

end Go.Proofs.YtlcccpeelombbaaDoor
