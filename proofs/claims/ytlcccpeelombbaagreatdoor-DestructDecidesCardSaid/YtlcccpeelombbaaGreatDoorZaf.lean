/- Joined texts. -/
import Derived.Test.YtlcccpeelombbaaGreatDoorZae
import Derived.Test.YtlcccpeelombbaaGreatDoorZad
/- YtlcccpeelombbaaGreatDoor: the walk of box. -/
set_option linter.all false
namespace Go.Proofs.YtlcccpeelombbaaGreatDoor
open Go.Vc Go.Tk
set_option maxRecDepth 100000
theorem parts_c (b : Nat) (w : World) : FnP Tryz.prog 54 [.pointer (some ⟨b, 0, none⟩)] w (.agg #[.pointer (some ⟨b, 1, none⟩), .pointer (some ⟨b, 3, none⟩), .pointer (some ⟨b, 5, none⟩), .pointer (some ⟨b, 7, none⟩), .pointer (some ⟨b, 9, none⟩), .pointer (some ⟨b, 11, none⟩)]) := by
 refine fn_pure Tryz.func54 rfl (by kernel_rfl) Tryz.ntmps54 Tryz.results54 rfl ?_
 refine Vs rfl ?_
 refine Lw rfl (w_alloc zr93 rfl) ?_
 rintro _ _ ⟨b1, hb1, rfl, rfl⟩
 refine L_then (kp [0, 2] rfl) ?_
 refine V_seq (V_draw (.rd 0 (.rd 1 (.rd 2 (.rd 3 (.rd 4 (.rd 5 (.rd 6 (.rd 7 (.rd 8 (.rd 9 (.rd 10 (.rd 11 (.rd 12 (.rd 13 (.rd 14 (.rd 15 (.rd 16 (.rd 17 (.rd 18 (.wr 19 [] .done)))))))))))))))))))) mixed (by kernel_rfl) rfl ?_)
 refine Dm rfl rfl rfl rfl ?_
 refine Dp rfl rfl (p_nil rfl rfl) ?_
 refine Dp rfl rfl (p_fieldo fo28_1 rfl rfl) ?_
 refine Dm rfl rfl rfl rfl ?_
 refine Dp rfl rfl (p_nil rfl rfl) ?_
 refine Dp rfl rfl (p_fieldo fo28_2 rfl rfl) ?_
 refine Dm rfl rfl rfl rfl ?_
 refine Dp rfl rfl (p_nil rfl rfl) ?_
 refine Dp rfl rfl (p_fieldo fo28_3 rfl rfl) ?_
 refine Dm rfl rfl rfl rfl ?_
 refine Dp rfl rfl (p_nil rfl rfl) ?_
 refine Dp rfl rfl (p_fieldo fo28_4 rfl rfl) ?_
 refine Dm rfl rfl rfl rfl ?_
 refine Dp rfl rfl (p_nil rfl rfl) ?_
 refine Dp rfl rfl (p_fieldo fo28_5 rfl rfl) ?_
 refine Dm rfl rfl rfl rfl ?_
 refine Dp rfl rfl (p_nil rfl rfl) ?_
 refine Dp rfl rfl (p_fieldo fo28_6 rfl rfl) ?_
 refine Dp rfl rfl (p_buildA (r := [_, _, _, _, _, _]) ar93 zr93 rfl rfl rfl) ?_
 refine D_wr (.go (E' := []) rfl (.plain rfl) (ws (cs' := [_, _, _, _, _, _]) sz93 rfl rfl rfl rfl rfl rfl rfl) rfl ?_)
 rintro _ _ ⟨rfl, rfl⟩
 refine ⟨.nil, ?_⟩
 refine D_then (kp [2] rfl) ?_
 refine V_ret ?_
 refine Leave.nil (.cellA (us := [_, _, _, _, _, _]) rfl ag93 sz93 (by repeat first | exact mH | apply mT) rfl .nil) ?_
 rfl
set_option maxHeartbeats 4000000 in
theorem box_c (bp bm : Nat) (es : Array MapEntry) (clk : Nat) (t : Task) (ps : List Int) (u : Int) (hu : 0 ≤ u ∧ u ≤ 100000) (w : World) (hp : PickR w bp bm (.map (some bm)) t ps) (hc : Cache t ps es) (hb : w.heap[bm]? = some (.map es clk)) : FnC Tryz.prog 114 [.pointer (some ⟨bp, 0, none⟩), .int .i64 u] w fun v w' => ∃ o', Vc.Good w [bm] [(bm, o')] w' ∧ (v = boxV (boxT t ps u) ∧ ∃ es' clk', o' = .map es' clk' ∧ Cache t ps es') := by
 have hP := hp
 obtain ⟨tv, pv, sv, ty, fr, hbp, htr, hpl, hsv⟩ := hp.ex
 obtain ⟨ta, tc, rfl, htc, hte⟩ := htr.ex
 obtain ⟨pa, pc, rfl, hpc, hpe⟩ := hpl.ex
 obtain ⟨sa, sc, rfl, hsc, hse⟩ := hsv.ex
 have hG := hP.good
 obtain ⟨hfrm, hspd, hacc⟩ := hG.nums
 have hne := hP.ne
 have hpsl := hP.psl
 simp only [List.length_map] at hbp htc hpc hsc
 refine fn_mod (b := bm) Tryz.func114 rfl (by kernel_rfl) Tryz.ntmps114 Tryz.results114 rfl hb ?_
 refine Vs rfl ?_
 refine Lw rfl (w_alloc zr28 rfl) ?_
 rintro _ _ ⟨b1, hb1, rfl, rfl⟩
 refine La rfl rfl rfl ?_
 refine L_then (kp [0, 1, 4] rfl) ?_
 refine Vs rfl ?_
 refine Lm rfl rfl rfl ?_
 refine Lp rfl (p_fieldo fo28_0 rfl rfl) ?_
 refine Ls (cs' := [_, _, _, _, _, _, _, _, _, _, _, _, _]) rfl sz3 rfl rfl rfl rfl rfl rfl rfl ?_
 refine L_then (kp [0, 1, 4] rfl) ?_
 refine Vs rfl ?_
 refine Lc rfl rfl rfl rfl (fun w hg => parts_c b1 w) ?_
 refine Lw rfl (w_alloc zr93 rfl) ?_
 rintro _ _ ⟨b2, hb2, rfl, rfl⟩
 refine Ls (cs' := [_, _, _, _, _, _]) rfl sz93 rfl rfl rfl rfl rfl rfl rfl ?_
 refine L_then (kp [0, 1, 4, 6] rfl) ?_
 refine V_seq ?_
 refine Vs rfl ?_
 refine Lm rfl rfl rfl ?_
 refine L_then (kp [0, 1, 4, 6, 15] rfl) ?_
 refine V_block ?_
 refine V_loopU ?_
 refine LU_step ?_
 refine Vs rfl ?_
 refine Lp rfl (p_lss rfl rfl rfl) ?_
 refine L_then (kp [0, 1, 4, 6, 15, 16] rfl) ?_
 refine V_seq ?_
 refine V_cond_t rfl rfl ?_
 refine V_skip (then_n ?_)
 refine V_seq ?_
 refine V_block ?_
 refine Vs rfl ?_
 refine Lm rfl rfl rfl ?_
 refine La rfl rfl rfl ?_
 refine L_then (kp [0, 1, 4, 6, 7, 15] rfl) ?_
 refine Vs rfl ?_
 iterate 2 refine Lm rfl rfl rfl ?_
 refine Lp rfl (p_build (r := [_, _]) pl177 zr177 rfl rfl rfl) ?_
 refine Lw rfl (w_alloc zr177 rfl) ?_
 rintro _ _ ⟨b3, hb3, rfl, rfl⟩
 refine Ls (cs' := [_, _]) rfl sz177 rfl rfl rfl rfl rfl rfl rfl ?_
 refine L_then (kp [0, 1, 4, 6, 7, 8, 15] rfl) ?_
 refine Vs rfl ?_
 refine Lm rfl rfl rfl ?_
 refine Lr rfl (rlA (vs := [_, _]) ag177 sz177 rfl rfl rfl) ?_
 refine Lw rfl (w_callM rfl rfl rfl (fun o' => (by repeat first | exact .head | apply SetAt.tail)) (fun w hg => place_c bp bm es clk t ps _ u (by decide) hu w (hP.good' hg) hc (hg.own (bm, _) (by repeat first | exact mH | apply mT)))) ?_
 rintro _ _ ⟨_, rfl, rfl, ea1, ck1, rfl, ha1⟩
 refine Lw rfl (w_alloc zr148 rfl) ?_
 rintro _ _ ⟨b4, hb4, rfl, rfl⟩
 refine Ls (cs' := [_, _]) rfl sz148 rfl rfl rfl rfl rfl rfl rfl ?_
 refine L_then (kp [0, 1, 4, 6, 7, 8, 9, 15] rfl) ?_
 refine Vs rfl ?_
 refine Lm rfl rfl rfl ?_
 refine Lr rfl (rlA (vs := [_, _]) ag177 sz177 rfl rfl rfl) ?_
 refine Lw rfl (w_callM rfl rfl rfl (fun o' => (by repeat first | exact .head | apply SetAt.tail)) (fun w hg => fast_c bp bm ea1 ck1 t ps _ u (by decide) hu w (hP.good' hg) ha1 (hg.own (bm, _) (by repeat first | exact mH | apply mT)))) ?_
 rintro _ _ ⟨_, rfl, ⟨lo1, hi1, ok1, rfl, hok1⟩, eb1, cl1, rfl, hb1⟩
 refine Lm rfl rfl rfl ?_
 iterate 2 refine Lp rfl (p_ext rfl rfl rfl) ?_
 refine Lw rfl (w_alloc zr148 rfl) ?_
 rintro _ _ ⟨b5, hb5, rfl, rfl⟩
 refine Ls (cs' := [_, _]) rfl sz148 rfl rfl rfl rfl rfl rfl rfl ?_
 refine La rfl rfl rfl ?_
 refine L_then (kp [0, 1, 4, 6, 7, 9, 10, 11, 15] rfl) ?_
 refine V_seq ?_
 refine Vs rfl ?_
 refine Lm rfl rfl rfl ?_
 refine Lp rfl (p_not rfl rfl) ?_
 refine Lm rfl rfl rfl ?_
 refine L_cases (d := 32) rfl ?_ ?_
 ·intro g1; have g1' := g1; try simp only [td] at g1'
  refine L_no rfl rfl rfl g1 ?_
  refine Lp rfl (p_pick_t rfl rfl g1 rfl) ?_
  refine L_then (kp [0, 1, 4, 6, 7, 9, 10, 15, 34] rfl) ?_
  refine V_cond_t rfl rfl ?_
  refine Vs rfl ?_
  refine Lp rfl (p_build (r := [_, _, _, _, _, _, _, _, _, _, _, _, _]) pl28 zr28 rfl rfl rfl) ?_
  refine Ls (cs' := [_, _, _, _, _, _, _, _, _, _, _, _, _]) rfl sz28 rfl rfl rfl rfl rfl rfl rfl ?_
  refine La rfl rfl rfl ?_
  refine L_then (kp [4, 5] rfl) ?_
  refine V_ret (then_r (blk_r (then_r (then_r (blk_r (then_r ?_))))))
  refine Leave.nil (.cellA (us := [_, _, _, _, _, _, _, _, _, _, _, _, _]) rfl ag28 sz28 (by repeat first | exact mH | apply mT) rfl (.tmp rfl .nil)) ?_
  exact ⟨_, (by repeat first | exact mH | apply mT), by rw [boxT_0 (partT_none1 (fv_none hok1 g1'))]; rfl, _, _, rfl, hb1⟩
 intro g1; have g1' := g1; try simp only [td] at g1'
 refine L_yes rfl rfl rfl g1 (X_wr (w_callP rfl rfl rfl (fun w hg => empty_c b4 _ _ 148 w (hg.own (b4, _) (by repeat first | exact mH | apply mT)))) ?_)
 rintro _ _ ⟨rfl, rfl⟩
 refine Lp rfl (p_pick_f rfl rfl g1 rfl) ?_
 refine L_then (kp [0, 1, 4, 6, 7, 9, 10, 15, 34] rfl) ?_
 refine V_cond rfl ?_ ?_
 ·intro c1; try simp only [td] at c1
  refine Vs rfl ?_
  refine Lp rfl (p_build (r := [_, _, _, _, _, _, _, _, _, _, _, _, _]) pl28 zr28 rfl rfl rfl) ?_
  refine Ls (cs' := [_, _, _, _, _, _, _, _, _, _, _, _, _]) rfl sz28 rfl rfl rfl rfl rfl rfl rfl ?_
  refine La rfl rfl rfl ?_
  refine L_then (kp [4, 5] rfl) ?_
  refine V_ret (then_r (blk_r (then_r (then_r (blk_r (then_r ?_))))))
  refine Leave.nil (.cellA (us := [_, _, _, _, _, _, _, _, _, _, _, _, _]) rfl ag28 sz28 (by repeat first | exact mH | apply mT) rfl (.tmp rfl .nil)) ?_
  exact ⟨_, (by repeat first | exact mH | apply mT), by rw [boxT_0 (partT_none2 c1)]; rfl, _, _, rfl, hb1⟩
 intro c1; try simp only [td] at c1
 refine V_skip (then_n ?_)
 refine V_draw (.rd 0 (.rd 1 (.rd 2 (.rd 3 (.rd 4 (.rd 5 (.rd 6 (.rd 7 (.rd 8 (.rd 9 (.rd 10 (.rd 11 (.wr 12 [10, 9, 6, 5, 4, 3] (.rd 13 (.wr 14 [] .done))))))))))))))) mixed (by kernel_rfl) rfl ?_
 refine Dm rfl rfl rfl rfl ?_
 refine Dp rfl rfl (p_idxao ar93 rfl rfl rfl (by omega) (by omega)) ?_
 refine Dr rfl rfl (rl ag92 rfl rfl rfl) ?_
 refine Dm rfl rfl rfl rfl ?_
 first | refine Dp rfl rfl (p_add' rfl rfl rfl (by unfold InI; omega)) ?_ | refine Dp rfl rfl (p_add rfl rfl rfl) ?_
 refine Dp rfl rfl (p_idxao ar93 rfl rfl rfl (by omega) (by omega)) ?_
 refine Dr rfl rfl (rl ag92 rfl rfl rfl) ?_
 refine Dp rfl rfl (p_fieldo fo148_0 rfl rfl) ?_
 refine Dr rfl rfl (rlA (vs := [_, _]) ag24 sz24 rfl rfl rfl) ?_
 refine Dp rfl rfl (p_fieldo fo148_0 rfl rfl) ?_
 refine Dr rfl rfl (rlA (vs := [_, _]) ag24 sz24 rfl rfl rfl) ?_
 refine Dp rfl rfl (p_nil rfl rfl) ?_
 refine D_wr (.go (E' := [(10, _), (6, _)]) rfl (.plain rfl) (ws (cs' := [_, _, _, _, _, _, _, _, _, _, _, _, _]) sz24 rfl rfl rfl rfl rfl rfl rfl) rfl ?_)
 rintro _ _ ⟨rfl, rfl⟩
 refine ⟨(.cons rfl (.plain rfl) (rlA (vs := [_, _]) ag24 sz24 rfl rfl rfl) (.cons rfl (.plain rfl) (rl ag92 rfl rfl rfl) .nil)), ?_⟩
 refine Dp rfl rfl (p_nil rfl rfl) ?_
 refine D_wr (.go (E' := []) rfl (.plain rfl) (ws (cs' := [_, _, _, _, _, _, _, _, _, _, _, _, _]) sz24 rfl rfl rfl rfl rfl rfl rfl) rfl ?_)
 rintro _ _ ⟨rfl, rfl⟩
 refine ⟨.nil, ?_⟩
 refine D_keep (kp [0, 1, 4, 6, 15] rfl) (blk_n (then_n ?_))
 refine V_region rfl ?_
 first | refine Lp rfl (p_add' rfl rfl rfl (by unfold InI; omega)) ?_ | refine Lp rfl (p_add rfl rfl rfl) ?_
 refine Lm rfl rfl rfl ?_
 refine L_keep (kp [0, 1, 4, 6, 15] rfl) (then_n ?_)
 refine LU_step ?_
 refine Vs rfl ?_
 refine Lp rfl (p_lss rfl rfl rfl) ?_
 refine L_then (kp [0, 1, 4, 6, 15, 16] rfl) ?_
 refine V_seq ?_
 refine V_cond_t rfl rfl ?_
 refine V_skip (then_n ?_)
 refine V_seq ?_
 refine V_block ?_
 refine Vs rfl ?_
 refine Lm rfl rfl rfl ?_
 refine La rfl rfl rfl ?_
 refine L_then (kp [0, 1, 4, 6, 7, 15] rfl) ?_
 refine Vs rfl ?_
 iterate 2 refine Lm rfl rfl rfl ?_
 refine Lp rfl (p_build (r := [_, _]) pl177 zr177 rfl rfl rfl) ?_
 refine Lw rfl (w_alloc zr177 rfl) ?_
 rintro _ _ ⟨b6, hb6, rfl, rfl⟩
 refine Ls (cs' := [_, _]) rfl sz177 rfl rfl rfl rfl rfl rfl rfl ?_
 refine L_then (kp [0, 1, 4, 6, 7, 8, 15] rfl) ?_
 refine Vs rfl ?_
 refine Lm rfl rfl rfl ?_
 refine Lr rfl (rlA (vs := [_, _]) ag177 sz177 rfl rfl rfl) ?_
 refine Lw rfl (w_callM rfl rfl rfl (fun o' => (by repeat first | exact .head | apply SetAt.tail)) (fun w hg => place_c bp bm eb1 cl1 t ps _ u (by decide) hu w (hP.good' hg) hb1 (hg.own (bm, _) (by repeat first | exact mH | apply mT)))) ?_
 rintro _ _ ⟨_, rfl, rfl, ea2, ck2, rfl, ha2⟩
 refine Lw rfl (w_alloc zr148 rfl) ?_
 rintro _ _ ⟨b7, hb7, rfl, rfl⟩
 refine Ls (cs' := [_, _]) rfl sz148 rfl rfl rfl rfl rfl rfl rfl ?_
 refine L_then (kp [0, 1, 4, 6, 7, 8, 9, 15] rfl) ?_
 refine Vs rfl ?_
 refine Lm rfl rfl rfl ?_
 refine Lr rfl (rlA (vs := [_, _]) ag177 sz177 rfl rfl rfl) ?_
 refine Lw rfl (w_callM rfl rfl rfl (fun o' => (by repeat first | exact .head | apply SetAt.tail)) (fun w hg => fast_c bp bm ea2 ck2 t ps _ u (by decide) hu w (hP.good' hg) ha2 (hg.own (bm, _) (by repeat first | exact mH | apply mT)))) ?_
 rintro _ _ ⟨_, rfl, ⟨lo2, hi2, ok2, rfl, hok2⟩, eb2, cl2, rfl, hb2⟩
 refine Lm rfl rfl rfl ?_
 iterate 2 refine Lp rfl (p_ext rfl rfl rfl) ?_
 refine Lw rfl (w_alloc zr148 rfl) ?_
 rintro _ _ ⟨b8, hb8, rfl, rfl⟩
 refine Ls (cs' := [_, _]) rfl sz148 rfl rfl rfl rfl rfl rfl rfl ?_
 refine La rfl rfl rfl ?_
 refine L_then (kp [0, 1, 4, 6, 7, 9, 10, 11, 15] rfl) ?_
 refine V_seq ?_
 refine Vs rfl ?_
 refine Lm rfl rfl rfl ?_
 refine Lp rfl (p_not rfl rfl) ?_
 refine Lm rfl rfl rfl ?_
 refine L_cases (d := 32) rfl ?_ ?_
 ·intro g2; have g2' := g2; try simp only [td] at g2'
  refine L_no rfl rfl rfl g2 ?_
  refine Lp rfl (p_pick_t rfl rfl g2 rfl) ?_
  refine L_then (kp [0, 1, 4, 6, 7, 9, 10, 15, 34] rfl) ?_
  refine V_cond_t rfl rfl ?_
  refine Vs rfl ?_
  refine Lp rfl (p_build (r := [_, _, _, _, _, _, _, _, _, _, _, _, _]) pl28 zr28 rfl rfl rfl) ?_
  refine Ls (cs' := [_, _, _, _, _, _, _, _, _, _, _, _, _]) rfl sz28 rfl rfl rfl rfl rfl rfl rfl ?_
  refine La rfl rfl rfl ?_
  refine L_then (kp [4, 5] rfl) ?_
  refine V_ret (then_r (blk_r (then_r (then_r (blk_r (then_r ?_))))))
  refine Leave.nil (.cellA (us := [_, _, _, _, _, _, _, _, _, _, _, _, _]) rfl ag28 sz28 (by repeat first | exact mH | apply mT) rfl (.tmp rfl .nil)) ?_
  exact ⟨_, (by repeat first | exact mH | apply mT), by rw [boxT_1 (partT_some (fv_some hok1 g1') c1) (partT_none1 (fv_none hok2 g2'))]; rfl, _, _, rfl, hb2⟩
 intro g2; have g2' := g2; try simp only [td] at g2'
 refine L_yes rfl rfl rfl g2 (X_wr (w_callP rfl rfl rfl (fun w hg => empty_c b7 _ _ 148 w (hg.own (b7, _) (by repeat first | exact mH | apply mT)))) ?_)
 rintro _ _ ⟨rfl, rfl⟩
 refine Lp rfl (p_pick_f rfl rfl g2 rfl) ?_
 refine L_then (kp [0, 1, 4, 6, 7, 9, 10, 15, 34] rfl) ?_
 refine V_cond rfl ?_ ?_
 ·intro c2; try simp only [td] at c2
  refine Vs rfl ?_
  refine Lp rfl (p_build (r := [_, _, _, _, _, _, _, _, _, _, _, _, _]) pl28 zr28 rfl rfl rfl) ?_
  refine Ls (cs' := [_, _, _, _, _, _, _, _, _, _, _, _, _]) rfl sz28 rfl rfl rfl rfl rfl rfl rfl ?_
  refine La rfl rfl rfl ?_
  refine L_then (kp [4, 5] rfl) ?_
  refine V_ret (then_r (blk_r (then_r (then_r (blk_r (then_r ?_))))))
  refine Leave.nil (.cellA (us := [_, _, _, _, _, _, _, _, _, _, _, _, _]) rfl ag28 sz28 (by repeat first | exact mH | apply mT) rfl (.tmp rfl .nil)) ?_
  exact ⟨_, (by repeat first | exact mH | apply mT), by rw [boxT_1 (partT_some (fv_some hok1 g1') c1) (partT_none2 c2)]; rfl, _, _, rfl, hb2⟩
 intro c2; try simp only [td] at c2
 refine V_skip (then_n ?_)
 refine V_draw (.rd 0 (.rd 1 (.rd 2 (.rd 3 (.rd 4 (.rd 5 (.rd 6 (.rd 7 (.rd 8 (.rd 9 (.rd 10 (.rd 11 (.wr 12 [10, 9, 6, 5, 4, 3] (.rd 13 (.wr 14 [] .done))))))))))))))) mixed (by kernel_rfl) rfl ?_
 refine Dm rfl rfl rfl rfl ?_
 refine Dp rfl rfl (p_idxao ar93 rfl rfl rfl (by omega) (by omega)) ?_
 refine Dr rfl rfl (rl ag92 rfl rfl rfl) ?_
 refine Dm rfl rfl rfl rfl ?_
 first | refine Dp rfl rfl (p_add' rfl rfl rfl (by unfold InI; omega)) ?_ | refine Dp rfl rfl (p_add rfl rfl rfl) ?_
 refine Dp rfl rfl (p_idxao ar93 rfl rfl rfl (by omega) (by omega)) ?_
 refine Dr rfl rfl (rl ag92 rfl rfl rfl) ?_
 refine Dp rfl rfl (p_fieldo fo148_0 rfl rfl) ?_
 refine Dr rfl rfl (rlA (vs := [_, _]) ag24 sz24 rfl rfl rfl) ?_
 refine Dp rfl rfl (p_fieldo fo148_0 rfl rfl) ?_
 refine Dr rfl rfl (rlA (vs := [_, _]) ag24 sz24 rfl rfl rfl) ?_
 refine Dp rfl rfl (p_nil rfl rfl) ?_
 refine D_wr (.go (E' := [(10, _), (6, _)]) rfl (.plain rfl) (ws (cs' := [_, _, _, _, _, _, _, _, _, _, _, _, _]) sz24 rfl rfl rfl rfl rfl rfl rfl) rfl ?_)
 rintro _ _ ⟨rfl, rfl⟩
 refine ⟨(.cons rfl (.plain rfl) (rlA (vs := [_, _]) ag24 sz24 rfl rfl rfl) (.cons rfl (.plain rfl) (rl ag92 rfl rfl rfl) .nil)), ?_⟩
 refine Dp rfl rfl (p_nil rfl rfl) ?_
 refine D_wr (.go (E' := []) rfl (.plain rfl) (ws (cs' := [_, _, _, _, _, _, _, _, _, _, _, _, _]) sz24 rfl rfl rfl rfl rfl rfl rfl) rfl ?_)
 rintro _ _ ⟨rfl, rfl⟩
 refine ⟨.nil, ?_⟩
 refine D_keep (kp [0, 1, 4, 6, 15] rfl) (blk_n (then_n ?_))
 refine V_region rfl ?_
 first | refine Lp rfl (p_add' rfl rfl rfl (by unfold InI; omega)) ?_ | refine Lp rfl (p_add rfl rfl rfl) ?_
 refine Lm rfl rfl rfl ?_
 refine L_keep (kp [0, 1, 4, 6, 15] rfl) (then_n ?_)
 refine LU_step ?_
 refine Vs rfl ?_
 refine Lp rfl (p_lss rfl rfl rfl) ?_
 refine L_then (kp [0, 1, 4, 6, 15, 16] rfl) ?_
 refine V_seq ?_
 refine V_cond_t rfl rfl ?_
 refine V_skip (then_n ?_)
 refine V_seq ?_
 refine V_block ?_
 refine Vs rfl ?_
 refine Lm rfl rfl rfl ?_
 refine La rfl rfl rfl ?_
 refine L_then (kp [0, 1, 4, 6, 7, 15] rfl) ?_
 refine Vs rfl ?_
 iterate 2 refine Lm rfl rfl rfl ?_
 refine Lp rfl (p_build (r := [_, _]) pl177 zr177 rfl rfl rfl) ?_
 refine Lw rfl (w_alloc zr177 rfl) ?_
 rintro _ _ ⟨b9, hb9, rfl, rfl⟩
 refine Ls (cs' := [_, _]) rfl sz177 rfl rfl rfl rfl rfl rfl rfl ?_
 refine L_then (kp [0, 1, 4, 6, 7, 8, 15] rfl) ?_
 refine Vs rfl ?_
 refine Lm rfl rfl rfl ?_
 refine Lr rfl (rlA (vs := [_, _]) ag177 sz177 rfl rfl rfl) ?_
 refine Lw rfl (w_callM rfl rfl rfl (fun o' => (by repeat first | exact .head | apply SetAt.tail)) (fun w hg => place_c bp bm eb2 cl2 t ps _ u (by decide) hu w (hP.good' hg) hb2 (hg.own (bm, _) (by repeat first | exact mH | apply mT)))) ?_
 rintro _ _ ⟨_, rfl, rfl, ea3, ck3, rfl, ha3⟩
 refine Lw rfl (w_alloc zr148 rfl) ?_
 rintro _ _ ⟨b10, hb10, rfl, rfl⟩
 refine Ls (cs' := [_, _]) rfl sz148 rfl rfl rfl rfl rfl rfl rfl ?_
 refine L_then (kp [0, 1, 4, 6, 7, 8, 9, 15] rfl) ?_
 refine Vs rfl ?_
 refine Lm rfl rfl rfl ?_
 refine Lr rfl (rlA (vs := [_, _]) ag177 sz177 rfl rfl rfl) ?_
 refine Lw rfl (w_callM rfl rfl rfl (fun o' => (by repeat first | exact .head | apply SetAt.tail)) (fun w hg => fast_c bp bm ea3 ck3 t ps _ u (by decide) hu w (hP.good' hg) ha3 (hg.own (bm, _) (by repeat first | exact mH | apply mT)))) ?_
 rintro _ _ ⟨_, rfl, ⟨lo3, hi3, ok3, rfl, hok3⟩, eb3, cl3, rfl, hb3⟩
 refine Lm rfl rfl rfl ?_
 iterate 2 refine Lp rfl (p_ext rfl rfl rfl) ?_
 refine Lw rfl (w_alloc zr148 rfl) ?_
 rintro _ _ ⟨b11, hb11, rfl, rfl⟩
 refine Ls (cs' := [_, _]) rfl sz148 rfl rfl rfl rfl rfl rfl rfl ?_
 refine La rfl rfl rfl ?_
 refine L_then (kp [0, 1, 4, 6, 7, 9, 10, 11, 15] rfl) ?_
 refine V_seq ?_
 refine Vs rfl ?_
 refine Lm rfl rfl rfl ?_
 refine Lp rfl (p_not rfl rfl) ?_
 refine Lm rfl rfl rfl ?_
 refine L_cases (d := 32) rfl ?_ ?_
 ·intro g3; have g3' := g3; try simp only [td] at g3'
  refine L_no rfl rfl rfl g3 ?_
  refine Lp rfl (p_pick_t rfl rfl g3 rfl) ?_
  refine L_then (kp [0, 1, 4, 6, 7, 9, 10, 15, 34] rfl) ?_
  refine V_cond_t rfl rfl ?_
  refine Vs rfl ?_
  refine Lp rfl (p_build (r := [_, _, _, _, _, _, _, _, _, _, _, _, _]) pl28 zr28 rfl rfl rfl) ?_
  refine Ls (cs' := [_, _, _, _, _, _, _, _, _, _, _, _, _]) rfl sz28 rfl rfl rfl rfl rfl rfl rfl ?_
  refine La rfl rfl rfl ?_
  refine L_then (kp [4, 5] rfl) ?_
  refine V_ret (then_r (blk_r (then_r (then_r (blk_r (then_r ?_))))))
  refine Leave.nil (.cellA (us := [_, _, _, _, _, _, _, _, _, _, _, _, _]) rfl ag28 sz28 (by repeat first | exact mH | apply mT) rfl (.tmp rfl .nil)) ?_
  exact ⟨_, (by repeat first | exact mH | apply mT), by rw [boxT_2 (partT_some (fv_some hok1 g1') c1) (partT_some (fv_some hok2 g2') c2) (partT_none1 (fv_none hok3 g3'))]; rfl, _, _, rfl, hb3⟩
 intro g3; have g3' := g3; try simp only [td] at g3'
 refine L_yes rfl rfl rfl g3 (X_wr (w_callP rfl rfl rfl (fun w hg => empty_c b10 _ _ 148 w (hg.own (b10, _) (by repeat first | exact mH | apply mT)))) ?_)
 rintro _ _ ⟨rfl, rfl⟩
 refine Lp rfl (p_pick_f rfl rfl g3 rfl) ?_
 refine L_then (kp [0, 1, 4, 6, 7, 9, 10, 15, 34] rfl) ?_
 refine V_cond rfl ?_ ?_
 ·intro c3; try simp only [td] at c3
  refine Vs rfl ?_
  refine Lp rfl (p_build (r := [_, _, _, _, _, _, _, _, _, _, _, _, _]) pl28 zr28 rfl rfl rfl) ?_
  refine Ls (cs' := [_, _, _, _, _, _, _, _, _, _, _, _, _]) rfl sz28 rfl rfl rfl rfl rfl rfl rfl ?_
  refine La rfl rfl rfl ?_
  refine L_then (kp [4, 5] rfl) ?_
  refine V_ret (then_r (blk_r (then_r (then_r (blk_r (then_r ?_))))))
  refine Leave.nil (.cellA (us := [_, _, _, _, _, _, _, _, _, _, _, _, _]) rfl ag28 sz28 (by repeat first | exact mH | apply mT) rfl (.tmp rfl .nil)) ?_
  exact ⟨_, (by repeat first | exact mH | apply mT), by rw [boxT_2 (partT_some (fv_some hok1 g1') c1) (partT_some (fv_some hok2 g2') c2) (partT_none2 c3)]; rfl, _, _, rfl, hb3⟩
 intro c3; try simp only [td] at c3
 refine V_skip (then_n ?_)
 refine V_draw (.rd 0 (.rd 1 (.rd 2 (.rd 3 (.rd 4 (.rd 5 (.rd 6 (.rd 7 (.rd 8 (.rd 9 (.rd 10 (.rd 11 (.wr 12 [10, 9, 6, 5, 4, 3] (.rd 13 (.wr 14 [] .done))))))))))))))) mixed (by kernel_rfl) rfl ?_
 refine Dm rfl rfl rfl rfl ?_
 refine Dp rfl rfl (p_idxao ar93 rfl rfl rfl (by omega) (by omega)) ?_
 refine Dr rfl rfl (rl ag92 rfl rfl rfl) ?_
 refine Dm rfl rfl rfl rfl ?_
 first | refine Dp rfl rfl (p_add' rfl rfl rfl (by unfold InI; omega)) ?_ | refine Dp rfl rfl (p_add rfl rfl rfl) ?_
 refine Dp rfl rfl (p_idxao ar93 rfl rfl rfl (by omega) (by omega)) ?_
 refine Dr rfl rfl (rl ag92 rfl rfl rfl) ?_
 refine Dp rfl rfl (p_fieldo fo148_0 rfl rfl) ?_
 refine Dr rfl rfl (rlA (vs := [_, _]) ag24 sz24 rfl rfl rfl) ?_
 refine Dp rfl rfl (p_fieldo fo148_0 rfl rfl) ?_
 refine Dr rfl rfl (rlA (vs := [_, _]) ag24 sz24 rfl rfl rfl) ?_
 refine Dp rfl rfl (p_nil rfl rfl) ?_
 refine D_wr (.go (E' := [(10, _), (6, _)]) rfl (.plain rfl) (ws (cs' := [_, _, _, _, _, _, _, _, _, _, _, _, _]) sz24 rfl rfl rfl rfl rfl rfl rfl) rfl ?_)
 rintro _ _ ⟨rfl, rfl⟩
 refine ⟨(.cons rfl (.plain rfl) (rlA (vs := [_, _]) ag24 sz24 rfl rfl rfl) (.cons rfl (.plain rfl) (rl ag92 rfl rfl rfl) .nil)), ?_⟩
 refine Dp rfl rfl (p_nil rfl rfl) ?_
 refine D_wr (.go (E' := []) rfl (.plain rfl) (ws (cs' := [_, _, _, _, _, _, _, _, _, _, _, _, _]) sz24 rfl rfl rfl rfl rfl rfl rfl) rfl ?_)
 rintro _ _ ⟨rfl, rfl⟩
 refine ⟨.nil, ?_⟩
 refine D_keep (kp [0, 1, 4, 6, 15] rfl) (blk_n (then_n ?_))
 refine V_region rfl ?_
 first | refine Lp rfl (p_add' rfl rfl rfl (by unfold InI; omega)) ?_ | refine Lp rfl (p_add rfl rfl rfl) ?_
 refine Lm rfl rfl rfl ?_
 refine L_keep (kp [0, 1, 4, 6, 15] rfl) (then_n ?_)
 refine LU_step ?_
 refine Vs rfl ?_
 refine Lp rfl (p_lss rfl rfl rfl) ?_
 refine L_then (kp [0, 1, 4, 6, 15, 16] rfl) ?_
 refine V_seq ?_
 refine V_cond_f rfl rfl ?_
 refine V_exit (then_e (then_e (blk_e rfl (then_n ?_))))
 refine Vs rfl ?_
 refine Lr rfl (rlA (vs := [_, _, _, _, _, _, _, _, _, _, _, _, _]) ag28 sz28 rfl rfl rfl) ?_
 refine Ls (cs' := [_, _, _, _, _, _, _, _, _, _, _, _, _]) rfl sz28 rfl rfl rfl rfl rfl rfl rfl ?_
 refine La rfl rfl rfl ?_
 refine L_then (kp [4, 5] rfl) ?_
 refine V_ret ?_
 refine Leave.nil (.cellA (us := [_, _, _, _, _, _, _, _, _, _, _, _, _]) rfl ag28 sz28 (by repeat first | exact mH | apply mT) rfl (.tmp rfl .nil)) ?_
 exact ⟨_, (by repeat first | exact mH | apply mT), by rw [boxT_3 (partT_some (fv_some hok1 g1') c1) (partT_some (fv_some hok2 g2') c2) (partT_some (fv_some hok3 g3') c3)]; rfl, _, _, rfl, hb3⟩

end Go.Proofs.YtlcccpeelombbaaGreatDoor

/- YtlcccpeelombbaaGreatDoor: what is done with boxes. -/
set_option linter.all false
namespace Go.Proofs.YtlcccpeelombbaaGreatDoor
open Go.Vc Go.Tk
set_option maxRecDepth 100000
theorem found_c (o : Option Box) (w : World) : FnP Tryz.prog 99 [.agg (Box.cells (o.getD boxZ)).toArray, .bool o.isSome] w (foundT o) := by
 refine fn_pure Tryz.func99 rfl (by kernel_rfl) Tryz.ntmps99 Tryz.results99 rfl ?_
 refine Vs rfl ?_
 refine Lw rfl (w_box rfl rfl) ?_
 rintro _ _ ⟨b1, hb1, rfl, rfl⟩
 refine Lw rfl (w_alloc zr28 rfl) ?_
 rintro _ _ ⟨b2, hb2, rfl, rfl⟩
 refine La rfl rfl rfl ?_
 refine L_then (kp [1, 2, 4] rfl) ?_
 refine V_seq ?_
 refine Vs rfl ?_
 refine Lm rfl rfl rfl ?_
 refine Lp rfl (p_not rfl rfl) ?_
 refine L_then (kp [2, 4, 7] rfl) ?_
 refine V_cond rfl ?_ ?_
 ·intro c1; try simp only [td] at c1
  refine Vs rfl ?_
  refine Lp rfl (p_build (r := [_, _, _, _, _, _, _, _, _, _, _, _, _]) pl28 zr28 rfl rfl rfl) ?_
  refine Ls (cs' := [_, _, _, _, _, _, _, _, _, _, _, _, _]) rfl sz28 rfl rfl rfl rfl rfl rfl rfl ?_
  refine La rfl rfl rfl ?_
  refine L_then (kp [4, 5] rfl) ?_
  refine V_ret (then_r ?_)
  refine Leave.nil (.cellA (us := [_, _, _, _, _, _, _, _, _, _, _, _, _]) rfl ag28 sz28 (by repeat first | exact mH | apply mT) rfl (.tmp rfl .nil)) ?_
  rw [foundT, isSome_none c1]; rfl
 intro c1; try simp only [td] at c1
 refine V_skip (then_n ?_)
 refine Vs rfl ?_
 refine Lr rfl (rlA (vs := [_, _, _, _, _, _, _, _, _, _, _, _, _]) ag28 sz28 rfl rfl rfl) ?_
 refine Ls (cs' := [_, _, _, _, _, _, _, _, _, _, _, _, _]) rfl sz28 rfl rfl rfl rfl rfl rfl rfl ?_
 refine La rfl rfl rfl ?_
 refine L_then (kp [4, 5] rfl) ?_
 refine V_ret ?_
 refine Leave.nil (.cellA (us := [_, _, _, _, _, _, _, _, _, _, _, _, _]) rfl ag28 sz28 (by repeat first | exact mH | apply mT) rfl (.tmp rfl .nil)) ?_
 rw [foundT, c1]; rfl

end Go.Proofs.YtlcccpeelombbaaGreatDoor

/- YtlcccpeelombbaaGreatDoor: what is known; picks are made. -/
set_option linter.all false
namespace Go.Proofs.YtlcccpeelombbaaGreatDoor
open Go.Vc Go.Tk
set_option maxRecDepth 100000
theorem known_c (bp : Nat) (now : Int) (w : World) : FnC Tryz.prog 122 [.pointer (some ⟨bp, 0, none⟩), .int .i64 now] w fun v w' => ∃ Hc, Vc.Good w [] Hc w' ∧ ∃ c1 c2, v = .func (.func 131) #[] #[.pointer (some ⟨c1, 0, none⟩), .pointer (some ⟨c2, 0, none⟩)] ∧ Hc = [(c2, .cells #[.int .i64 now] 3), (c1, .cells #[.pointer (some ⟨bp, 0, none⟩)] 159)] := by
 refine fn_new Tryz.func122 rfl (by kernel_rfl) Tryz.ntmps122 Tryz.results122 rfl ?_
 refine Vs rfl ?_
 refine Lw rfl (w_box rfl rfl) ?_
 rintro _ _ ⟨b1, hb1, rfl, rfl⟩
 refine Lw rfl (w_box rfl rfl) ?_
 rintro _ _ ⟨b2, hb2, rfl, rfl⟩
 refine La rfl rfl rfl ?_
 refine L_then (kp [2, 3] rfl) ?_
 refine Vs rfl ?_
 refine Lp rfl (p_func rfl rfl rfl) ?_
 refine La rfl rfl rfl ?_
 refine L_then (kp [4] rfl) ?_
 refine V_ret ?_
 refine Leave.nil (.tmp rfl .nil) ?_
 exact ⟨_, HSub.refl _, _, _, rfl, rfl⟩
theorem known1_c (t : Task) (hG : GoodT t) (now : Int) (w0 : World) (l bp c1 c2 : Nat) (ta pa : Option Addr) (tc pc : Nat) (I : List (List Value) → Heap → Prop) (htr : SliceR w0 6 (.slice ta t.trackers.length tc) (t.trackers.map Tracker.cells)) (hpl : SliceR w0 5 (.slice pa t.plots.length pc) (t.plots.map Plot.cells)) (hY : RoundOk Tryz.prog w0 [] l (fun done x => done.length < t.plots.length ∧ ∃ i : Int, 0 ≤ i ∧ i < t.plots.length ∧ x = [.int .i64 i]) I) (hI : ∀ done Hs, I done Hs → (c1, Obj.cells #[.pointer (some ⟨bp, 0, none⟩)] 159) ∈ Hs ∧ (c2, Obj.cells #[.int .i64 now] 3) ∈ Hs ∧ ∃ sv mv, (bp, Obj.cells #[.int .i64 t.frm, .int .i64 t.speed, .int .i64 t.accel, .slice ta t.trackers.length tc, .slice pa t.plots.length pc, sv, mv] 172) ∈ Hs) (w : World) (Hs0 : Heap) (h0 : I [] Hs0) (hg0 : Vc.Good w0 [] Hs0 w) : FnC Tryz.prog 131 [.func (.yield l) #[] #[], .pointer (some ⟨c1, 0, none⟩), .pointer (some ⟨c2, 0, none⟩)] w fun _ w' => ∃ Hs, Vc.Good w0 [] Hs w' ∧ I (knownV t now t.plots.length) Hs := by
 obtain ⟨_, _, e1, htc, hte⟩ := htr.ex
 injection e1 with e1 _ e1'; subst e1 e1'
 obtain ⟨_, _, e2, hpc, hpe⟩ := hpl.ex
 injection e2 with e2 _ e2'; subst e2 e2'
 simp only [List.length_map] at htc hpc
 have hplen := hG.h2
 obtain ⟨hfrm, hspd, hacc⟩ := hG.nums
 obtain ⟨hm1, hm2, sv, mv, hm3⟩ := hI _ _ h0
 refine fn_over (M := []) (H0 := Hs0) Tryz.func131 rfl (by kernel_rfl) Tryz.ntmps131 Tryz.results131 rfl hg0 ?_
 refine Vs rfl ?_
 refine Lr rfl (r_load ag159 rfl rfl (by repeat first | exact hm1 | exact hm2 | exact hm3 | exact mH | apply mT) rfl) ?_
 refine Ln rfl rfl rfl ?_
 refine Lp rfl (p_fieldo fo172_0 rfl rfl) ?_
 refine Lp rfl (p_fieldo fo39_4 rfl rfl) ?_
 refine Lr rfl (r_load ag37 rfl rfl (by repeat first | exact hm1 | exact hm2 | exact hm3 | exact mH | apply mT) rfl) ?_
 refine Lp rfl (p_len isl37 rfl rfl) ?_
 refine Lm rfl rfl rfl ?_
 refine L_then (kp [0, 1, 2, 10, 11, 12] rfl) ?_
 refine V_block ?_
 refine V_loop1 (γ := Int × Heap) (kp [0, 1, 2, 10, 11] rfl) (fun (k, Hs) => [(12, .int .i64 k)]) (fun (k, Hs) => Hs) (fun (k, Hs) => 0 ≤ k ∧ k ≤ t.plots.length ∧ I (knownV t now k.toNat) Hs) (fun (k, Hs) => (t.plots.length - k).toNat) ((0, Hs0)) (.cons rfl (.nil _)) (by repeat (first | exact List.Sublist.refl _ | apply List.Sublist.cons_cons | apply List.Sublist.cons)) (⟨by omega, by omega, h0⟩) ?_
 rintro ⟨k, Hs⟩ hi
 obtain ⟨hk0, hk1, hik⟩ := hi
 obtain ⟨hm1, hm2, sv, mv, hm3⟩ := hI _ _ hik
 refine Vs rfl ?_
 refine Lp rfl (p_lss rfl rfl rfl) ?_
 refine L_then (kp [0, 1, 2, 10, 11, 12, 13] rfl) ?_
 refine V_seq ?_
 refine V_cond rfl ?_ ?_
 ·intro c1; try simp only [td] at c1
  obtain ⟨pb, rfl, hcp⟩ := hpe k.toNat _ (getD_cells (d := plZ) (by omega))
  have hb := hG.plot (i := k.toNat) (by omega)
  have hb2 := hG.of (i := k.toNat) (by omega)
  obtain ⟨p1, p2, p3, p4, p5, p6⟩ := hb
  obtain ⟨q1, q2, q3, q4, q5⟩ := hb2
  simp only [Task.trOf, Task.pl, Task.tr] at p1 p2 p3 p4 p5 p6 q1 q2 q3 q4 q5
  obtain ⟨tb, rfl, hct⟩ := hte (t.plots.getD k.toNat plZ).tracker.toNat _ (getD_cells (d := trZ) (by omega))
  refine V_skip (then_n ?_)
  refine V_seq ?_
  refine V_block ?_
  refine Vs rfl ?_
  refine Lm rfl rfl rfl ?_
  refine Lp rfl (p_idx es37 rfl rfl rfl (by omega) (by omega)) ?_
  refine Lr rfl (r_loadBA ag138 sz138 rfl rfl hcp rfl List.not_mem_nil) ?_
  refine Lw rfl (w_alloc zr138 rfl) ?_
  rintro _ _ ⟨b1, hb1, rfl, rfl⟩
  refine La rfl rfl rfl ?_
  refine Ls (cs' := [_, _, _, _, _]) rfl sz138 rfl rfl rfl rfl rfl rfl rfl ?_
  refine L_then (kp [0, 1, 2, 4, 5, 10, 11, 12] rfl) ?_
  refine V_seq (V_draw (.rd 0 (.rd 1 (.rd 2 (.rd 3 (.rd 4 (.rd 5 (.rd 6 (.rd 7 (.rd 8 (.rd 9 (.rd 10 (.rd 11 (.rd 12 (.rd 13 (.rd 14 (.rd 15 (.rd 16 (.rd 17 (.wr 18 [14, 13, 12, 11, 10, 9, 8, 7, 6, 5, 4, 3, 2, 1, 0] (.rd 19 (.rd 20 .done))))))))))))))))))))) mixed (by kernel_rfl) rfl ?_)
  refine Dp rfl rfl (p_fieldo fo138_1 rfl rfl) ?_
  refine Dr rfl rfl (r_load ag3 rfl rfl (by repeat first | exact hm1 | exact hm2 | exact hm3 | exact mH | apply mT) rfl) ?_
  refine Dr rfl rfl (r_load ag159 rfl rfl (by repeat first | exact hm1 | exact hm2 | exact hm3 | exact mH | apply mT) rfl) ?_
  refine Dp rfl rfl (p_nil rfl rfl) ?_
  refine Dp rfl rfl (p_fieldo fo172_0 rfl rfl) ?_
  refine Dp rfl rfl (p_fieldo fo39_3 rfl rfl) ?_
  refine Dr rfl rfl (r_load ag36 rfl rfl (by repeat first | exact hm1 | exact hm2 | exact hm3 | exact mH | apply mT) rfl) ?_
  refine Dp rfl rfl (p_fieldo fo138_0 rfl rfl) ?_
  refine Dr rfl rfl (r_load ag3 rfl rfl (by repeat first | exact hm1 | exact hm2 | exact hm3 | exact mH | apply mT) rfl) ?_
  refine Dp rfl rfl (p_idx es36 rfl rfl rfl (by omega) (by omega)) ?_
  refine Dp rfl rfl (p_field fo132_5 rfl rfl) ?_
  refine Dr rfl rfl (r_loadB ag3 rfl rfl (hct 5 _ rfl) List.not_mem_nil) ?_
  first | refine Dp rfl rfl (p_add' rfl rfl rfl (by unfold InI; omega)) ?_ | refine Dp rfl rfl (p_add rfl rfl rfl) ?_
  refine Dr rfl rfl (r_load ag3 rfl rfl (by repeat first | exact hm1 | exact hm2 | exact hm3 | exact mH | apply mT) rfl) ?_
  refine Dp rfl rfl (p_leq rfl rfl rfl) ?_
  refine Dm rfl rfl rfl rfl ?_
  refine D_cases (d := 32) rfl ?_ ?_
  ·intro g1; have g1' := g1; try simp only [td] at g1'
   iterate 2 refine D_p rfl (.yes rfl rfl rfl g1) (p_move rfl rfl) ?_
   refine D_wr (.go (E' := [(13, _), (11, _), (8, _), (6, _), (2, _), (1, _)]) rfl (.yes rfl rfl rfl g1) (w_yield (own := [_]) rfl rfl rfl hY ⟨Nat.lt_of_le_of_lt knownV_len (by omega), k, hk0, by omega, rfl⟩ hik rfl) rfl ?_)
   rintro _ _ ⟨Hs1, rfl, rfl, hI1⟩; obtain ⟨hm1, hm2, sv1, mv1, hm3⟩ := hI _ _ hI1
   refine ⟨(.cons rfl (.plain rfl) (r_load ag3 rfl rfl (by repeat first | exact hm1 | exact hm2 | exact hm3 | exact mH | apply mT) rfl) (.cons rfl (.plain rfl) (r_loadB ag3 rfl rfl (hct 5 _ rfl) List.not_mem_nil) (.cons rfl (.plain rfl) (r_load ag3 rfl rfl (by repeat first | exact hm1 | exact hm2 | exact hm3 | exact mH | apply mT) rfl) (.cons rfl (.plain rfl) (r_load ag36 rfl rfl (by repeat first | exact hm1 | exact hm2 | exact hm3 | exact mH | apply mT) rfl) (.cons rfl (.plain rfl) (r_load ag159 rfl rfl (by repeat first | exact hm1 | exact hm2 | exact hm3 | exact mH | apply mT) rfl) (.cons rfl (.plain rfl) (r_load ag3 rfl rfl (by repeat first | exact hm1 | exact hm2 | exact hm3 | exact mH | apply mT) rfl) .nil)))))), ?_⟩
   refine D_p rfl (.yes rfl rfl rfl g1) (p_not rfl rfl) ?_
   refine Dp rfl rfl (p_pick_t rfl rfl g1 rfl) ?_
   refine D_then (kp [0, 1, 2, 10, 11, 12, 37] rfl) ?_
   refine V_cond_f rfl rfl ?_
   refine V_skip (blk_n (then_n ?_))
   refine V_region rfl ?_
   first | refine Lp rfl (p_add' rfl rfl rfl (by unfold InI; omega)) ?_ | refine Lp rfl (p_add rfl rfl rfl) ?_
   refine Lm rfl rfl rfl ?_
   refine L_keep (kp [0, 1, 2, 10, 11, 12] rfl) (then_n ?_)
   refine ⟨(k + 1, Hs1), ?_, ?_, (.cons rfl (.cons rfl (.cons rfl (.cons rfl (.cons rfl (.cons rfl (.nil _))))))), (by repeat (first | exact List.Sublist.refl _ | apply List.Sublist.cons_cons | apply List.Sublist.cons | apply List.sublist_append_of_sublist_right)), rfl⟩
   ·refine ⟨by omega, by omega, ?_⟩
    have hkb : knownB t now k.toNat = true := by
     exact decide_eq_true g1'
    rw [knownV_yes hk0 hkb]; exact hI1
   dsimp only; omega
  intro g1; have g1' := g1; try simp only [td] at g1'
  iterate 2 refine D_no rfl (.mk' rfl rfl rfl g1) ?_
  refine D_wr (.pass (E' := [(13, _), (11, _), (8, _), (6, _), (2, _), (1, _)]) rfl (.mk' rfl rfl rfl g1) rfl ⟨(.cons rfl (.plain rfl) (r_load ag3 rfl rfl (by repeat first | exact hm1 | exact hm2 | exact hm3 | exact mH | apply mT) rfl) (.cons rfl (.plain rfl) (r_loadB ag3 rfl rfl (hct 5 _ rfl) List.not_mem_nil) (.cons rfl (.plain rfl) (r_load ag3 rfl rfl (by repeat first | exact hm1 | exact hm2 | exact hm3 | exact mH | apply mT) rfl) (.cons rfl (.plain rfl) (r_load ag36 rfl rfl (by repeat first | exact hm1 | exact hm2 | exact hm3 | exact mH | apply mT) rfl) (.cons rfl (.plain rfl) (r_load ag159 rfl rfl (by repeat first | exact hm1 | exact hm2 | exact hm3 | exact mH | apply mT) rfl) (.cons rfl (.plain rfl) (r_load ag3 rfl rfl (by repeat first | exact hm1 | exact hm2 | exact hm3 | exact mH | apply mT) rfl) .nil)))))), ?_⟩)
  refine D_no rfl (.mk' rfl rfl rfl g1) ?_
  refine Dp rfl rfl (p_pick_f rfl rfl g1 rfl) ?_
  refine D_then (kp [0, 1, 2, 10, 11, 12, 37] rfl) ?_
  refine V_cond_f rfl rfl ?_
  refine V_skip (blk_n (then_n ?_))
  refine V_region rfl ?_
  first | refine Lp rfl (p_add' rfl rfl rfl (by unfold InI; omega)) ?_ | refine Lp rfl (p_add rfl rfl rfl) ?_
  refine Lm rfl rfl rfl ?_
  refine L_keep (kp [0, 1, 2, 10, 11, 12] rfl) (then_n ?_)
  refine ⟨(k + 1, Hs), ?_, ?_, (.cons rfl (.cons rfl (.cons rfl (.cons rfl (.cons rfl (.cons rfl (.nil _))))))), (by repeat (first | exact List.Sublist.refl _ | apply List.Sublist.cons_cons | apply List.Sublist.cons | apply List.sublist_append_of_sublist_right)), rfl⟩
  ·refine ⟨by omega, by omega, ?_⟩
   have hkb : knownB t now k.toNat = false := decide_eq_false (Int.not_le.2 g1')
   rw [knownV_no hk0 hkb]; exact hik
  dsimp only; omega
 intro c1; try simp only [td] at c1
 refine V_exit (then_e (then_e (blk_e rfl ?_)))
 refine Leave.nil .nil ?_
 have e : k.toNat = t.plots.length := by omega
 rw [e] at hik
 exact ⟨Hs, HSub.refl _, hik⟩
def PickOut (t : Task) (now : Int) (want : Int → Bool) (tv pv : Value) (u : Value) (A G : Heap) : Prop :=
 ∃ bp bm sv clk, u = .pointer (some ⟨bp, 0, none⟩) ∧ A = [(bp, .cells #[.int .i64 t.frm, .int .i64 t.speed, .int .i64 t.accel, tv, pv, sv, .map (some bm)] 172), (bm, .map #[] clk)] ∧ Grow 3 1 sv (byT t now want).length (iiL (byT t now want)) G
theorem pickOf_c (t : Task) (hG : GoodT t) (tv pv : Value) (now : Int) (want : Int → Bool) (fid : Nat) (cap : Array Value) (w : World) (ht : TaskR w (.agg #[.int .i64 t.frm, .int .i64 t.speed, .int .i64 t.accel, tv, pv]) t) (hf : ∀ x w', Ext w w' → FnP Tryz.prog fid (.int .i64 x :: cap.toList) w' (.bool (want x))) : FnC Tryz.prog 112 [.agg #[.int .i64 t.frm, .int .i64 t.speed, .int .i64 t.accel, tv, pv], .int .i64 now, .func (.func fid) #[] cap] w fun u w' => ∃ Hc, Vc.Good w [] Hc w' ∧ ∃ A G, Hc = A ++ G ∧ PickOut t now want tv pv u A G := by
 have hT := ht
 obtain ⟨_, _, _, htr, hpl⟩ := ht.lit
 obtain ⟨ta, tc, rfl, htc, hte⟩ := htr.ex
 obtain ⟨pa, pc, rfl, hpc, hpe⟩ := hpl.ex
 have hplen := hG.h2
 simp only [List.length_map] at hT htc hpc htr hpl ⊢
 refine fn_new Tryz.func112 rfl (by kernel_rfl) Tryz.ntmps112 Tryz.results112 rfl ?_
 refine Vs rfl ?_
 refine Lw rfl (w_box rfl rfl) ?_
 rintro _ _ ⟨b1, hb1, rfl, rfl⟩
 refine Lw rfl (w_box rfl rfl) ?_
 rintro _ _ ⟨b2, hb2, rfl, rfl⟩
 refine La rfl rfl rfl ?_
 refine L_then (kp [1, 3, 5, 6] rfl) ?_
 refine Vs rfl ?_
 refine Lr rfl (rlA (vs := [_, _, _, _, _]) ag39 sz39 rfl rfl rfl) ?_
 refine Lw rfl (w_map rfl) ?_
 rintro _ _ ⟨b3, hb3, rfl, rfl⟩
 refine Lp rfl (p_build (r := [_, _, _, _, _, _, _]) pl172 zr172 rfl rfl rfl) ?_
 refine Lw rfl (w_box rfl rfl) ?_
 rintro _ _ ⟨b4, hb4, rfl, rfl⟩
 refine Lw rfl (w_alloc zr159 rfl) ?_
 rintro _ _ ⟨b5, hb5, rfl, rfl⟩
 refine Ls (cs' := [_]) rfl sz159 rfl rfl rfl rfl rfl rfl rfl ?_
 refine L_then (kp [1, 3, 5, 6, 7] rfl) ?_
 refine V_seq ?_
 refine Vs rfl ?_
 refine Lr rfl (rl ag159 rfl rfl rfl) ?_
 refine Lm rfl rfl rfl ?_
 refine Lw rfl (w_callN rfl rfl rfl (fun w hg => known_c _ now w)) ?_
 rintro _ _ ⟨_, rfl, _, y1, y2, rfl, rfl⟩
 refine L_then (kp [3, 5, 6, 7, 15] rfl) ?_
 refine V_block ?_
 refine V_range (L := knownV t now t.plots.length) rfl (kp [3, 5, 6, 7, 15] rfl) rfl rfl (fun done x => done.length < t.plots.length ∧ ∃ i : Int, 0 ≤ i ∧ i < t.plots.length ∧ x = [.int .i64 i]) (fun done Hs => ∃ (is : List Int) (sv : Value) (G : Heap), done = is.map iv ∧ Hs = (y2, .cells #[.int .i64 now] 3) :: (y1, .cells #[.pointer (some ⟨b4, 0, none⟩)] 159) :: (b5, .cells #[.pointer (some ⟨b4, 0, none⟩)] 159) :: (b4, .cells #[.int .i64 t.frm, .int .i64 t.speed, .int .i64 t.accel, .slice ta t.trackers.length tc, .slice pa t.plots.length pc, sv, .map (some b3)] 172) :: (b3, .map #[] 0) :: (b2, .cells #[.func (.func fid) #[] cap] 79) :: (b1, t.obj (.slice ta t.trackers.length tc) (.slice pa t.plots.length pc) 39) :: G ∧ Grow 3 1 sv (is.filter (fun i : Int => want (t.pl i.toNat).tracker)).length (iiL (is.filter (fun i : Int => want (t.pl i.toNat).tracker))) G) (by rintro done vs ⟨_, i, _, _, rfl⟩; rfl) (by repeat (first | exact List.Sublist.refl _ | apply List.Sublist.cons_cons | apply List.Sublist.cons)) (⟨[], _, [], rfl, rfl, .nil⟩) ?_ ?_ ?_
 ·intro l1 D1 r1 done vs Hr own hp hJ
  obtain ⟨hdl, i, hi0, hi1, rfl⟩ := hp
  obtain ⟨is, sv, G, rfl, rfl, hgr⟩ := hJ
  simp only [List.length_map] at hdl
  refine V_region rfl ?_
  refine La rfl rfl rfl ?_
  refine L_keep (kp [3, 5, 6, 7, 8, 15] rfl) ?_
  refine asgI (by repeat first | exact .head | apply SetAt.tail) ?_
  refine V_block ?_
  refine V_seq (V_draw (.rd 0 (.rd 1 (.rd 2 (.rd 3 (.rd 4 (.rd 5 (.rd 6 (.wr 7 [5, 4, 3, 2, 1] .done)))))))) mixed (by kernel_rfl) rfl ?_)
  obtain ⟨pb, rfl, hcp⟩ := hpe i.toNat _ (getD_cells (d := plZ) (by omega))
  refine Dr rfl rfl (rl ag79 rfl rfl rfl) ?_
  refine Dp rfl rfl (p_fieldo fo39_4 rfl rfl) ?_
  refine Dr rfl rfl (rl ag37 rfl rfl rfl) ?_
  refine Dm rfl rfl rfl rfl ?_
  refine Dp rfl rfl (p_idx es37 rfl rfl rfl (by omega) (by omega)) ?_
  refine Dp rfl rfl (p_field fo138_0 rfl rfl) ?_
  refine Dr rfl rfl (r_loadB ag3 rfl rfl (hcp 0 _ rfl) List.not_mem_nil) ?_
  refine D_wr (.go (E' := [(2, _)]) rfl (.plain rfl) (w_callP rfl rfl rfl (fun w hg => hf _ w hg.toExt)) rfl ?_)
  rintro _ _ ⟨rfl, rfl⟩
  refine ⟨(.cons rfl (.plain rfl) (rl ag37 rfl rfl rfl) .nil), ?_⟩
  refine D_then (kp [7, 8, 24] rfl) ?_
  refine V_cond rfl ?_ ?_
  ·intro c1; try simp only [td] at c1
   refine V_draw (.rd 0 (.rd 1 (.rd 2 (.rd 3 (.rd 4 (.rd 5 (.wr 6 [4, 3, 2, 1, 0] (.wr 7 [5, 3, 2, 1, 0] (.rd 8 (.rd 9 (.wr 10 [8] .done))))))))))) mixed (by kernel_rfl) rfl ?_
   iterate 2 refine Dr rfl rfl (rl ag159 rfl rfl rfl) ?_
   refine Dp rfl rfl (p_nil rfl rfl) ?_
   refine Dp rfl rfl (p_fieldo fo172_1 rfl rfl) ?_
   refine Dr rfl rfl (rl ag53 rfl rfl rfl) ?_
   refine Dm rfl rfl rfl rfl ?_
   refine D_wr (.go (E' := [(4, _), (1, _), (0, _)]) rfl (.plain rfl) (w_slice (r := [_]) un53 sz3 zr3 rfl (by decide) rfl (by decide) rfl rfl) rfl ?_)
   rintro _ _ ⟨b7, hb7, rfl, rfl⟩
   refine ⟨(.cons rfl (.plain rfl) (rl ag53 rfl rfl rfl) (.cons rfl (.plain rfl) (rl ag159 rfl rfl rfl) (.cons rfl (.plain rfl) (rl ag159 rfl rfl rfl) .nil))), ?_⟩
   refine D_wr (.go (E' := [(1, _), (0, _)]) rfl (.plain rfl) (w_app (pre := [_, _, _, _, _, _, _, _, _, _]) (G := G) ap53 rfl rfl rfl hgr rfl rfl (news_own (by repeat first | exact mH | apply mT)) (by simp [Value.oneCell']) (by have := List.length_filter_le (fun i : Int => want (t.pl i.toNat).tracker) is; omega) (by have := List.length_filter_le (fun i : Int => want (t.pl i.toNat).tracker) is; simp only [maxLen]; omega)) rfl ?_)
   rintro _ _ ⟨G1a, G1c, G1, rfl, rfl, hgr1⟩
   try simp only [List.cons_append, List.nil_append, List.append_nil]
   refine ⟨(.cons rfl (.plain rfl) (rl ag159 rfl rfl rfl) (.cons rfl (.plain rfl) (rl ag159 rfl rfl rfl) .nil)), ?_⟩
   refine Dp rfl rfl (p_nil rfl rfl) ?_
   refine Dp rfl rfl (p_fieldo fo172_1 rfl rfl) ?_
   refine D_wr (.go (E' := []) rfl (.plain rfl) (ws (cs' := [_, _, _, _, _, _, _]) sz53 rfl rfl rfl rfl rfl rfl rfl) rfl ?_)
   rintro _ _ ⟨rfl, rfl⟩
   refine ⟨.nil, ?_⟩
   refine D_keep .nil (blk_n ?_)
   refine endI (by repeat first | exact .head | apply SetAt.tail) ?_
   refine ⟨(y2, .cells #[.int .i64 now] 3) :: (y1, .cells #[.pointer (some ⟨b4, 0, none⟩)] 159) :: (b5, .cells #[.pointer (some ⟨b4, 0, none⟩)] 159) :: (b4, .cells #[.int .i64 t.frm, .int .i64 t.speed, .int .i64 t.accel, .slice ta t.trackers.length tc, .slice (some pb) t.plots.length pc, _, .map (some b3)] 172) :: (b3, .map #[] 0) :: (b2, .cells #[.func (.func fid) #[] cap] 79) :: (b1, t.obj (.slice ta t.trackers.length tc) (.slice (some pb) t.plots.length pc) 39) :: G1, (by (try dsimp only); repeat (first | exact HSub.nil _ | refine HSub.take (by repeat first | exact Take.head | apply Take.tail) ?_ | exact HSub.refl _ | refine HSub.drop ?_ | refine HSub.app ?_)), ?_⟩
   have e := filt_yes (p := fun i : Int => want (t.pl i.toNat).tracker) (is := is) (i := i) c1
   refine ⟨is ++ [i], _, G1, by rw [List.map_append]; rfl, rfl, ?_⟩
   rw [e, List.length_append, iiL, List.map_append]
   exact hgr1
  intro c1; try simp only [td] at c1
  refine V_skip (blk_n ?_)
  refine endI (by repeat first | exact .head | apply SetAt.tail) ?_
  refine ⟨(y2, .cells #[.int .i64 now] 3) :: (y1, .cells #[.pointer (some ⟨b4, 0, none⟩)] 159) :: (b5, .cells #[.pointer (some ⟨b4, 0, none⟩)] 159) :: (b4, .cells #[.int .i64 t.frm, .int .i64 t.speed, .int .i64 t.accel, .slice ta t.trackers.length tc, .slice (some pb) t.plots.length pc, sv, .map (some b3)] 172) :: (b3, .map #[] 0) :: (b2, .cells #[.func (.func fid) #[] cap] 79) :: (b1, t.obj (.slice ta t.trackers.length tc) (.slice (some pb) t.plots.length pc) 39) :: G, (by (try dsimp only); repeat (first | exact HSub.nil _ | refine HSub.take (by repeat first | exact Take.head | apply Take.tail) ?_ | exact HSub.refl _ | refine HSub.drop ?_ | refine HSub.app ?_)), ?_⟩
  have e := filt_no (p := fun i : Int => want (t.pl i.toNat).tracker) (is := is) (i := i) c1
  refine ⟨is ++ [i], sv, G, by rw [List.map_append]; rfl, rfl, ?_⟩
  rw [e]
  exact hgr
 ·intro l1 D1 r1 w1 hY hgi
  refine (known1_c t hG now w l1 b4 y1 y2 ta pa tc pc _ htr hpl hY ?_ w1 _ ⟨_, rfl, [], _, [], rfl, rfl, .nil⟩ hgi).mono (fun _ w2 ⟨Hs, hg2, Hr, e, hJ⟩ => ⟨Hr, e ▸ hg2, hJ⟩)
  rintro done _ ⟨Hr, rfl, is, sv, G, rfl, rfl, hgr⟩
  exact ⟨.tail _ (.tail _ (.tail _ (.head _))), .tail _ (.tail _ (.head _)), sv, _, .tail _ (.tail _ (.tail _ (.tail _ (.tail _ (.head _)))))⟩
 intro l1 D1 ob1 Hr hJ
 obtain ⟨is, sv, G, hL, rfl, hgr⟩ := hJ
 refine (blk_n (then_n ?_))
 refine Vs rfl ?_
 refine Lr rfl (rl ag159 rfl rfl rfl) ?_
 refine La rfl rfl rfl ?_
 refine L_then (kp [6] rfl) ?_
 refine V_ret ?_
 refine Leave.mark (by repeat first | exact .head | apply SetAt.tail) (Leave.nil (.tmp rfl .nil) ?_)
 rw [← iv_inj hL] at hgr
 exact ⟨_, (by (try dsimp only); repeat (first | exact HSub.nil _ | refine HSub.take (by repeat first | exact Take.head | apply Take.tail) ?_ | exact HSub.refl _ | refine HSub.drop ?_ | refine HSub.app ?_)), [_, _], G, rfl, b4, b3, sv, 0, rfl, rfl, hgr⟩

end Go.Proofs.YtlcccpeelombbaaGreatDoor

/- YtlcccpeelombbaaGreatDoor: the boxes of all trackers but one. -/
set_option linter.all false
namespace Go.Proofs.YtlcccpeelombbaaGreatDoor
open Go.Vc Go.Tk
set_option maxRecDepth 100000
theorem others11_c (x i : Int) (b ty : Nat) (fr : Nat × Nat) (w : World) (hb : w.heap[b]? = some (.cells #[.int .i64 i] ty fr)) : FnP Tryz.prog 126 [.int .i64 x, .pointer (some ⟨b, 0, none⟩)] w (.bool (decide (x ≠ i))) := by
 refine fn_pure Tryz.func126 rfl (by kernel_rfl) Tryz.ntmps126 Tryz.results126 rfl ?_
 refine Vs rfl ?_
 refine La rfl rfl rfl ?_
 refine L_then (kp [0, 1] rfl) ?_
 refine Vs rfl ?_
 refine Lm rfl rfl rfl ?_
 refine Lr rfl (r_loadB ag3 rfl rfl (own_cell hb 0) List.not_mem_nil) ?_
 refine Lp rfl (p_neq rfl rfl rfl) ?_
 refine La rfl rfl rfl ?_
 refine L_then (kp [3] rfl) ?_
 refine V_ret ?_
 refine Leave.nil (.tmp rfl .nil) ?_
 simp [tup]
theorem others_c (t : Task) (tv pv : Value) (u now : Int) (w : World) : FnC Tryz.prog 115 [.agg #[.int .i64 t.frm, .int .i64 t.speed, .int .i64 t.accel, tv, pv], .int .i64 u, .int .i64 now] w fun v w' => ∃ Hc, Vc.Good w [] Hc w' ∧ ∃ c1 c2 c3, v = .func (.func 125) #[] #[.pointer (some ⟨c1, 0, none⟩), .pointer (some ⟨c2, 0, none⟩), .pointer (some ⟨c3, 0, none⟩)] ∧ Hc = [(c2, .cells #[.int .i64 now] 3), (c3, .cells #[.int .i64 u] 3), (c1, t.obj tv pv 39)] := by
 refine fn_new Tryz.func115 rfl (by kernel_rfl) Tryz.ntmps115 Tryz.results115 rfl ?_
 refine Vs rfl ?_
 refine Lw rfl (w_box rfl rfl) ?_
 rintro _ _ ⟨b1, hb1, rfl, rfl⟩
 refine Lw rfl (w_box rfl rfl) ?_
 rintro _ _ ⟨b2, hb2, rfl, rfl⟩
 refine Lw rfl (w_box rfl rfl) ?_
 rintro _ _ ⟨b3, hb3, rfl, rfl⟩
 refine La rfl rfl rfl ?_
 refine L_then (kp [3, 4, 5] rfl) ?_
 refine Vs rfl ?_
 refine Lp rfl (p_func rfl rfl rfl) ?_
 refine La rfl rfl rfl ?_
 refine L_then (kp [6] rfl) ?_
 refine V_ret ?_
 refine Leave.nil (.tmp rfl .nil) ?_
 exact ⟨_, HSub.refl _, _, _, _, rfl, rfl⟩
theorem others1_c (t : Task) (hG : GoodT t) (u now : Int) (hu : 0 ≤ u ∧ u ≤ 100000) (w0 : World) (l c1 c2 c3 : Nat) (ta : Option Addr) (tc : Nat) (pv : Value) (I : List (List Value) → Heap → Prop) (hT : TaskR w0 (.agg #[.int .i64 t.frm, .int .i64 t.speed, .int .i64 t.accel, .slice ta t.trackers.length tc, pv]) t) (hY : RoundOk Tryz.prog w0 [] l (fun done x => done.length < t.trackers.length ∧ ∃ p : Int × Box, x = ov p) I) (hI : ∀ done Hs, I done Hs → (c1, t.obj (.slice ta t.trackers.length tc) pv 39) ∈ Hs ∧ (c2, Obj.cells #[.int .i64 now] 3) ∈ Hs ∧ (c3, Obj.cells #[.int .i64 u] 3) ∈ Hs) (w : World) (Hs0 : Heap) (h0 : I [] Hs0) (hg0 : Vc.Good w0 [] Hs0 w) : FnC Tryz.prog 125 [.func (.yield l) #[] #[], .pointer (some ⟨c1, 0, none⟩), .pointer (some ⟨c2, 0, none⟩), .pointer (some ⟨c3, 0, none⟩)] w fun _ w' => ∃ Hs, Vc.Good w0 [] Hs w' ∧ I ((othersV t u now t.trackers.length).map ov) Hs := by
 have htl := hG.h1
 obtain ⟨hm1, hm2, hm3⟩ := hI _ _ h0
 refine fn_over (M := []) (H0 := Hs0) Tryz.func125 rfl (by kernel_rfl) Tryz.ntmps125 Tryz.results125 rfl hg0 ?_
 refine Vs rfl ?_
 refine Lp rfl (p_fieldo fo39_3 rfl rfl) ?_
 refine Lr rfl (r_load ag36 rfl rfl (by repeat first | exact hm1 | exact (List.mem_append_right _ hm1) | exact hm2 | exact (List.mem_append_right _ hm2) | exact hm3 | exact (List.mem_append_right _ hm3) | exact mH | apply mT) rfl) ?_
 refine Lp rfl (p_len isl36 rfl rfl) ?_
 refine Lm rfl rfl rfl ?_
 refine L_then (kp [0, 1, 2, 3, 10, 11] rfl) ?_
 refine V_block ?_
 refine V_loop1 (γ := Int × Heap) (kp [0, 1, 2, 3, 10] rfl) (fun (k, Hs) => [(11, .int .i64 k)]) (fun (k, Hs) => Hs) (fun (k, Hs) => 0 ≤ k ∧ k ≤ t.trackers.length ∧ I ((othersV t u now k.toNat).map ov) Hs) (fun (k, Hs) => (t.trackers.length - k).toNat) ((0, Hs0)) (.cons rfl (.nil _)) (by repeat (first | exact List.Sublist.refl _ | apply List.Sublist.cons_cons | apply List.Sublist.cons)) (⟨by omega, by omega, h0⟩) ?_
 rintro ⟨k, Hs⟩ hi
 obtain ⟨hk0, hk1, hik⟩ := hi
 obtain ⟨hm1, hm2, hm3⟩ := hI _ _ hik
 refine Vs rfl ?_
 refine Lp rfl (p_lss rfl rfl rfl) ?_
 refine L_then (kp [0, 1, 2, 3, 10, 11, 12] rfl) ?_
 refine V_seq ?_
 refine V_cond rfl ?_ ?_
 ·intro c1; try simp only [td] at c1
  refine V_skip (then_n ?_)
  refine V_seq ?_
  refine V_block ?_
  refine Vs rfl ?_
  refine Lm rfl rfl rfl ?_
  refine Lw rfl (w_alloc zr3 rfl) ?_
  rintro _ _ ⟨b1, hb1, rfl, rfl⟩
  refine Ls (cs' := [_]) rfl sz3 rfl rfl rfl rfl rfl rfl rfl ?_
  refine L_then (kp [0, 1, 2, 3, 5, 10, 11] rfl) ?_
  refine V_mid (γ := Nat) (kp [0, 1, 2, 3, 5, 10, 11] rfl) (fun x6 => [(6, .pointer (some ⟨x6, 0, none⟩)), (7, .bool (boxT t (byT t now (fun x => decide (x ≠ k))) u).isSome)]) (fun x6 => (x6, .cells (Box.cells ((boxT t (byT t now (fun x => decide (x ≠ k))) u).getD boxZ)).toArray 28) :: (b1, .cells #[.int .i64 k] 3) :: Hs) (fun x6 => True) ?_ ?_
  ·refine V_draw (.rd 0 (.rd 1 (.rd 2 (.rd 4 (.wr2 3 [4] (.wr2 5 [2, 1, 0] (.rd 6 (.rd 7 (.rd 8 (.wr 9 [8, 7, 6, 4, 2, 1, 0] (.wr 10 [8] (.rd 11 .done)))))) 9 [4, 2, 1, 0] (.wr 5 [2, 1, 0] (.rd 6 (.rd 7 (.rd 8 (.wr 10 [8] (.rd 11 .done))))))) 9 [4, 2, 1, 0] (.wr 3 [4] (.wr 5 [2, 1, 0] (.rd 6 (.rd 7 (.rd 8 (.wr 10 [8] (.rd 11 .done)))))))))))) mixed (by kernel_rfl) rfl ?_
   refine Dr rfl rfl (r_loadA (vs := [_, _, _, _, _]) ag39 sz39 rfl rfl (by repeat first | exact hm1 | exact (List.mem_append_right _ hm1) | exact hm2 | exact (List.mem_append_right _ hm2) | exact hm3 | exact (List.mem_append_right _ hm3) | exact mH | apply mT) rfl) ?_
   refine Dr rfl rfl (r_load ag3 rfl rfl (by repeat first | exact hm1 | exact (List.mem_append_right _ hm1) | exact hm2 | exact (List.mem_append_right _ hm2) | exact hm3 | exact (List.mem_append_right _ hm3) | exact mH | apply mT) rfl) ?_
   refine Dp rfl rfl (p_func rfl rfl rfl) ?_
   refine Dr rfl rfl (r_load ag3 rfl rfl (by repeat first | exact hm1 | exact (List.mem_append_right _ hm1) | exact hm2 | exact (List.mem_append_right _ hm2) | exact hm3 | exact (List.mem_append_right _ hm3) | exact mH | apply mT) rfl) ?_
   refine D_wr2 rfl ?_ ?_
   ·refine (.go (E' := [(4, _)]) rfl (.plain rfl) (w_callG (pre := [_]) rfl rfl rfl rfl (fun w hg => pickOf_c t hG _ _ now (fun x => decide (x ≠ k)) _ _ w (hT.good hg) (fun x w' he => others11_c x k b1 _ _ w' (he.heap (hg.own (b1, _) (by repeat first | exact hm1 | exact (List.mem_append_right _ hm1) | exact hm2 | exact (List.mem_append_right _ hm2) | exact hm3 | exact (List.mem_append_right _ hm3) | exact mH | apply mT)))))) rfl ?_)
    rintro _ _ ⟨_, G, rfl, hfr, bp, bm, sv, clk, rfl, rfl, hgr⟩
    try simp only [List.cons_append, List.nil_append, List.append_nil]
    refine ⟨(.cons rfl (.plain rfl) (r_load ag3 rfl rfl (by repeat first | exact hm1 | exact (List.mem_append_right _ hm1) | exact hm2 | exact (List.mem_append_right _ hm2) | exact hm3 | exact (List.mem_append_right _ hm3) | exact mH | apply mT) rfl) .nil), ?_⟩
    refine D_wr2 rfl ?_ ?_
    ·refine (.go (E' := []) rfl (.plain rfl) (w_callM rfl rfl rfl (fun o' => (by repeat first | exact .head | apply SetAt.tail)) (fun w hg => box_c bp bm #[] clk t _ u hu w (PickR.own hg hG hT (hfr _ (.tail _ (.head _))) (by repeat first | exact hm1 | exact (List.mem_append_right _ hm1) | exact hm2 | exact (List.mem_append_right _ hm2) | exact hm3 | exact (List.mem_append_right _ hm3) | exact mH | apply mT) (by repeat first | exact hm1 | exact (List.mem_append_right _ hm1) | exact hm2 | exact (List.mem_append_right _ hm2) | exact hm3 | exact (List.mem_append_right _ hm3) | exact mH | apply mT) (fun p hp => by repeat first | exact hp | exact List.mem_append_left _ hp | apply List.mem_append_right | apply mT) hgr) (Cache.nil _ _) (hg.own (bm, _) (by repeat first | exact hm1 | exact (List.mem_append_right _ hm1) | exact hm2 | exact (List.mem_append_right _ hm2) | exact hm3 | exact (List.mem_append_right _ hm3) | exact mH | apply mT)))) rfl ?_)
     rintro _ _ ⟨_, rfl, rfl, es2, clk2, rfl, _⟩
     refine ⟨.nil, ?_⟩
     refine Dm rfl rfl rfl rfl ?_
     iterate 2 refine Dp rfl rfl (p_ext rfl rfl rfl) ?_
     refine D_wr (.go (E' := []) rfl (.plain rfl) (w_alloc zr28 rfl) rfl ?_)
     rintro _ _ ⟨b3, hb3, rfl, rfl⟩
     refine ⟨.nil, ?_⟩
     refine D_wr (.go (E' := []) rfl (.plain rfl) (ws (cs' := [_, _, _, _, _, _, _, _, _, _, _, _, _]) sz28 rfl rfl rfl rfl rfl rfl rfl) rfl ?_)
     rintro _ _ ⟨rfl, rfl⟩
     refine ⟨.nil, ?_⟩
     refine Dp rfl rfl (p_assign rfl rfl) ?_
     refine D_then (kp [0, 1, 2, 3, 5, 6, 7, 10, 11] rfl) ?_
     refine ⟨b3, trivial, (.cons rfl (.cons rfl (.cons rfl (.cons rfl (.cons rfl (.cons rfl (.cons rfl (.cons rfl (.cons rfl (.nil _)))))))))), (by (try dsimp only); repeat (first | exact HSub.nil _ | refine HSub.take (by repeat first | exact Take.head | apply Take.tail) ?_ | exact HSub.refl _ | refine HSub.drop ?_ | refine HSub.app ?_)), rfl⟩
    refine (.go (E' := [(4, _)]) rfl (.plain rfl) (w_alloc zr28 rfl) rfl ?_)
    rintro _ _ ⟨b3, hb3, rfl, rfl⟩
    refine ⟨(.cons rfl (.plain rfl) (r_load ag3 rfl rfl (by repeat first | exact hm1 | exact (List.mem_append_right _ hm1) | exact hm2 | exact (List.mem_append_right _ hm2) | exact hm3 | exact (List.mem_append_right _ hm3) | exact mH | apply mT) rfl) .nil), ?_⟩
    refine D_wr (.go (E' := []) rfl (.plain rfl) (w_callM rfl rfl rfl (fun o' => (by repeat first | exact .head | apply SetAt.tail)) (fun w hg => box_c bp bm #[] clk t _ u hu w (PickR.own hg hG hT (hfr _ (.tail _ (.head _))) (by repeat first | exact hm1 | exact (List.mem_append_right _ hm1) | exact hm2 | exact (List.mem_append_right _ hm2) | exact hm3 | exact (List.mem_append_right _ hm3) | exact mH | apply mT) (by repeat first | exact hm1 | exact (List.mem_append_right _ hm1) | exact hm2 | exact (List.mem_append_right _ hm2) | exact hm3 | exact (List.mem_append_right _ hm3) | exact mH | apply mT) (fun p hp => by repeat first | exact hp | exact List.mem_append_left _ hp | apply List.mem_append_right | apply mT) hgr) (Cache.nil _ _) (hg.own (bm, _) (by repeat first | exact hm1 | exact (List.mem_append_right _ hm1) | exact hm2 | exact (List.mem_append_right _ hm2) | exact hm3 | exact (List.mem_append_right _ hm3) | exact mH | apply mT)))) rfl ?_)
    rintro _ _ ⟨_, rfl, rfl, es2, clk2, rfl, _⟩
    refine ⟨.nil, ?_⟩
    refine Dm rfl rfl rfl rfl ?_
    iterate 2 refine Dp rfl rfl (p_ext rfl rfl rfl) ?_
    refine D_wr (.go (E' := []) rfl (.plain rfl) (ws (cs' := [_, _, _, _, _, _, _, _, _, _, _, _, _]) sz28 rfl rfl rfl rfl rfl rfl rfl) rfl ?_)
    rintro _ _ ⟨rfl, rfl⟩
    refine ⟨.nil, ?_⟩
    refine Dp rfl rfl (p_assign rfl rfl) ?_
    refine D_then (kp [0, 1, 2, 3, 5, 6, 7, 10, 11] rfl) ?_
    refine ⟨b3, trivial, (.cons rfl (.cons rfl (.cons rfl (.cons rfl (.cons rfl (.cons rfl (.cons rfl (.cons rfl (.cons rfl (.nil _)))))))))), (by (try dsimp only); repeat (first | exact HSub.nil _ | refine HSub.take (by repeat first | exact Take.head | apply Take.tail) ?_ | exact HSub.refl _ | refine HSub.drop ?_ | refine HSub.app ?_)), rfl⟩
   refine (.go (E' := [(4, _), (1, _), (0, _)]) rfl (.plain rfl) (w_alloc zr28 rfl) rfl ?_)
   rintro _ _ ⟨b2, hb2, rfl, rfl⟩
   refine ⟨(.cons rfl (.plain rfl) (r_load ag3 rfl rfl (by repeat first | exact hm1 | exact (List.mem_append_right _ hm1) | exact hm2 | exact (List.mem_append_right _ hm2) | exact hm3 | exact (List.mem_append_right _ hm3) | exact mH | apply mT) rfl) (.cons rfl (.plain rfl) (r_load ag3 rfl rfl (by repeat first | exact hm1 | exact (List.mem_append_right _ hm1) | exact hm2 | exact (List.mem_append_right _ hm2) | exact hm3 | exact (List.mem_append_right _ hm3) | exact mH | apply mT) rfl) (.cons rfl (.plain rfl) (r_loadA (vs := [_, _, _, _, _]) ag39 sz39 rfl rfl (by repeat first | exact hm1 | exact (List.mem_append_right _ hm1) | exact hm2 | exact (List.mem_append_right _ hm2) | exact hm3 | exact (List.mem_append_right _ hm3) | exact mH | apply mT) rfl) .nil))), ?_⟩
   refine D_wr (.go (E' := [(4, _)]) rfl (.plain rfl) (w_callG (pre := [_, _]) rfl rfl rfl rfl (fun w hg => pickOf_c t hG _ _ now (fun x => decide (x ≠ k)) _ _ w (hT.good hg) (fun x w' he => others11_c x k b1 _ _ w' (he.heap (hg.own (b1, _) (by repeat first | exact hm1 | exact (List.mem_append_right _ hm1) | exact hm2 | exact (List.mem_append_right _ hm2) | exact hm3 | exact (List.mem_append_right _ hm3) | exact mH | apply mT)))))) rfl ?_)
   rintro _ _ ⟨_, G, rfl, hfr, bp, bm, sv, clk, rfl, rfl, hgr⟩
   try simp only [List.cons_append, List.nil_append, List.append_nil]
   refine ⟨(.cons rfl (.plain rfl) (r_load ag3 rfl rfl (by repeat first | exact hm1 | exact (List.mem_append_right _ hm1) | exact hm2 | exact (List.mem_append_right _ hm2) | exact hm3 | exact (List.mem_append_right _ hm3) | exact mH | apply mT) rfl) .nil), ?_⟩
   refine D_wr (.go (E' := []) rfl (.plain rfl) (w_callM rfl rfl rfl (fun o' => (by repeat first | exact .head | apply SetAt.tail)) (fun w hg => box_c bp bm #[] clk t _ u hu w (PickR.own hg hG hT (hfr _ (.tail _ (.head _))) (by repeat first | exact hm1 | exact (List.mem_append_right _ hm1) | exact hm2 | exact (List.mem_append_right _ hm2) | exact hm3 | exact (List.mem_append_right _ hm3) | exact mH | apply mT) (by repeat first | exact hm1 | exact (List.mem_append_right _ hm1) | exact hm2 | exact (List.mem_append_right _ hm2) | exact hm3 | exact (List.mem_append_right _ hm3) | exact mH | apply mT) (fun p hp => by repeat first | exact hp | exact List.mem_append_left _ hp | apply List.mem_append_right | apply mT) hgr) (Cache.nil _ _) (hg.own (bm, _) (by repeat first | exact hm1 | exact (List.mem_append_right _ hm1) | exact hm2 | exact (List.mem_append_right _ hm2) | exact hm3 | exact (List.mem_append_right _ hm3) | exact mH | apply mT)))) rfl ?_)
   rintro _ _ ⟨_, rfl, rfl, es2, clk2, rfl, _⟩
   refine ⟨.nil, ?_⟩
   refine Dm rfl rfl rfl rfl ?_
   iterate 2 refine Dp rfl rfl (p_ext rfl rfl rfl) ?_
   refine D_wr (.go (E' := []) rfl (.plain rfl) (ws (cs' := [_, _, _, _, _, _, _, _, _, _, _, _, _]) sz28 rfl rfl rfl rfl rfl rfl rfl) rfl ?_)
   rintro _ _ ⟨rfl, rfl⟩
   refine ⟨.nil, ?_⟩
   refine Dp rfl rfl (p_assign rfl rfl) ?_
   refine D_then (kp [0, 1, 2, 3, 5, 6, 7, 10, 11] rfl) ?_
   refine ⟨b2, trivial, (.cons rfl (.cons rfl (.cons rfl (.cons rfl (.cons rfl (.cons rfl (.cons rfl (.cons rfl (.cons rfl (.nil _)))))))))), (by (try dsimp only); repeat (first | exact HSub.nil _ | refine HSub.take (by repeat first | exact Take.head | apply Take.tail) ?_ | exact HSub.refl _ | refine HSub.drop ?_ | refine HSub.app ?_)), rfl⟩
  rintro x6 _
  refine Vs rfl ?_
  iterate 2 refine Lm rfl rfl rfl ?_
  refine L_cases (d := 24) rfl ?_ ?_
  ·intro g1; have g1' := g1; try simp only [td] at g1'
   refine L_yes rfl rfl rfl g1 (X_p (p_move rfl rfl) ?_)
   refine L_yes rfl rfl rfl g1 (X_rd (r_load ag3 rfl rfl (by repeat first | exact hm1 | exact (List.mem_append_right _ hm1) | exact hm2 | exact (List.mem_append_right _ hm2) | exact hm3 | exact (List.mem_append_right _ hm3) | exact mH | apply mT) rfl) ?_)
   refine L_yes rfl rfl rfl g1 (X_rd (r_loadA (vs := [_, _, _, _, _, _, _, _, _, _, _, _, _]) ag28 sz28 rfl rfl (by repeat first | exact hm1 | exact (List.mem_append_right _ hm1) | exact hm2 | exact (List.mem_append_right _ hm2) | exact hm3 | exact (List.mem_append_right _ hm3) | exact mH | apply mT) rfl) ?_)
   refine L_yes rfl rfl rfl g1 (X_wr (w_yield (own := [_, _]) rfl rfl rfl hY ⟨Nat.lt_of_le_of_lt othersV_len (by omega), (k, (boxT t (byT t now (fun x => decide (x ≠ k))) u).getD boxZ), rfl⟩ hik rfl) ?_)
   rintro _ _ ⟨Hs1, rfl, rfl, hI1⟩; obtain ⟨hm1, hm2, hm3⟩ := hI _ _ hI1
   refine L_yes rfl rfl rfl g1 (X_p (p_not rfl rfl) ?_)
   refine Lp rfl (p_pick_t rfl rfl g1 rfl) ?_
   refine L_then (kp [0, 1, 2, 3, 10, 11, 30] rfl) ?_
   refine V_cond_f rfl rfl ?_
   refine V_skip (blk_n (then_n ?_))
   refine V_region rfl ?_
   first | refine Lp rfl (p_add' rfl rfl rfl (by unfold InI; omega)) ?_ | refine Lp rfl (p_add rfl rfl rfl) ?_
   refine Lm rfl rfl rfl ?_
   refine L_keep (kp [0, 1, 2, 3, 10, 11] rfl) (then_n ?_)
   refine ⟨(k + 1, Hs1), ?_, ?_, (.cons rfl (.cons rfl (.cons rfl (.cons rfl (.cons rfl (.cons rfl (.nil _))))))), (by repeat (first | exact List.Sublist.refl _ | apply List.Sublist.cons_cons | apply List.Sublist.cons | apply List.sublist_append_of_sublist_right)), rfl⟩
   ·refine ⟨by omega, by omega, ?_⟩
    rw [othersV_yes hk0 (isSome_get g1), List.map_append]; exact hI1
   dsimp only; omega
  intro g1; have g1' := g1; try simp only [td] at g1'
  iterate 5 refine L_no rfl rfl rfl g1 ?_
  refine Lp rfl (p_pick_f rfl rfl g1 rfl) ?_
  refine L_then (kp [0, 1, 2, 3, 10, 11, 30] rfl) ?_
  refine V_cond_f rfl rfl ?_
  refine V_skip (blk_n (then_n ?_))
  refine V_region rfl ?_
  first | refine Lp rfl (p_add' rfl rfl rfl (by unfold InI; omega)) ?_ | refine Lp rfl (p_add rfl rfl rfl) ?_
  refine Lm rfl rfl rfl ?_
  refine L_keep (kp [0, 1, 2, 3, 10, 11] rfl) (then_n ?_)
  refine ⟨(k + 1, Hs), ?_, ?_, (.cons rfl (.cons rfl (.cons rfl (.cons rfl (.cons rfl (.cons rfl (.nil _))))))), (by repeat (first | exact List.Sublist.refl _ | apply List.Sublist.cons_cons | apply List.Sublist.cons | apply List.sublist_append_of_sublist_right)), rfl⟩
  ·refine ⟨by omega, by omega, ?_⟩
   rw [othersV_no hk0 (isSome_none g1)]; exact hik
  dsimp only; omega
 intro c1; try simp only [td] at c1
 refine V_exit (then_e (then_e (blk_e rfl ?_)))
 refine Leave.nil .nil ?_
 have e : k.toNat = t.trackers.length := by omega
 rw [e] at hik
 exact ⟨Hs, HSub.refl _, hik⟩

end Go.Proofs.YtlcccpeelombbaaGreatDoor

/- YtlcccpeelombbaaGreatDoor: spare boxes. -/
set_option linter.all false
namespace Go.Proofs.YtlcccpeelombbaaGreatDoor
open Go.Vc Go.Tk
set_option maxRecDepth 100000
theorem all_c (x : Int) (w : World) : FnP Tryz.prog 113 [.int .i64 x] w (.bool true) := by
 refine fn_pure Tryz.func113 rfl (by kernel_rfl) Tryz.ntmps113 Tryz.results113 rfl ?_
 refine Vs rfl ?_
 refine La rfl rfl rfl ?_
 refine L_then .nil ?_
 refine Vs rfl ?_
 refine La rfl rfl rfl ?_
 refine L_then (kp [2] rfl) ?_
 refine V_ret ?_
 refine Leave.nil (.tmp rfl .nil) ?_
 rfl
set_option maxHeartbeats 4000000 in
theorem spare_c (t : Task) (hG : GoodT t) (tv pv : Value) (u now : Int) (hu : 0 ≤ u ∧ u ≤ 100000) (w : World) (ht : TaskR w (.agg #[.int .i64 t.frm, .int .i64 t.speed, .int .i64 t.accel, tv, pv]) t) : FnP Tryz.prog 100 [.agg #[.int .i64 t.frm, .int .i64 t.speed, .int .i64 t.accel, tv, pv], .int .i64 u, .int .i64 now] w (boxV (spareT t u now)) := by
 have hT := ht
 obtain ⟨_, _, _, htr, hpl⟩ := ht.lit
 obtain ⟨ta, tc, rfl, htc, hte⟩ := htr.ex
 have htl := hG.h1
 simp only [List.length_map] at hT htc htr ⊢
 refine fn_pure Tryz.func100 rfl (by kernel_rfl) Tryz.ntmps100 Tryz.results100 rfl ?_
 refine Vs rfl ?_
 refine Lw rfl (w_box rfl rfl) ?_
 rintro _ _ ⟨b1, hb1, rfl, rfl⟩
 refine Lw rfl (w_alloc zr28 rfl) ?_
 rintro _ _ ⟨b2, hb2, rfl, rfl⟩
 refine Lw rfl (w_alloc zr4 rfl) ?_
 rintro _ _ ⟨b3, hb3, rfl, rfl⟩
 refine L_then (kp [1, 2, 3, 6, 7] rfl) ?_
 refine V_seq ?_
 refine Vs rfl ?_
 refine Lp rfl (p_fieldo fo39_3 rfl rfl) ?_
 refine Lr rfl (rl ag36 rfl rfl rfl) ?_
 refine Lp rfl (p_len isl36 rfl rfl) ?_
 refine Lp rfl (p_eql rfl rfl rfl) ?_
 refine L_then (kp [1, 2, 3, 6, 7, 16] rfl) ?_
 refine V_cond rfl ?_ ?_
 ·intro c1; try simp only [td] at c1
  refine Vs rfl ?_
  refine Lr rfl (rlA (vs := [_, _, _, _, _]) ag39 sz39 rfl rfl rfl) ?_
  refine Lm rfl rfl rfl ?_
  refine Lw rfl (w_callG (pre := [_, _, _]) (post := []) rfl rfl rfl (by rw [List.append_nil]) (fun w hg => pickOf_c t hG _ _ now (fun _ => true) _ _ w (hT.good hg) (fun x w' he => all_c x w'))) ?_
  rintro _ _ ⟨_, G, rfl, hfr, bp, bm, sv, clk, rfl, rfl, hgr⟩
  try simp only [List.cons_append, List.nil_append, List.append_nil]
  refine Lm rfl rfl rfl ?_
  refine Lw rfl (w_callM rfl rfl rfl (fun o' => (by repeat first | exact .head | apply SetAt.tail)) (fun w hg => box_c bp bm #[] clk t _ u hu w (PickR.own hg hG hT (hfr _ (.tail _ (.head _))) (by repeat first | exact mH | apply mT) (by repeat first | exact mH | apply mT) (fun p hp => by repeat first | exact hp | exact List.mem_append_left _ hp | apply List.mem_append_right | apply mT) hgr) (Cache.nil _ _) (hg.own (bm, _) (by repeat first | exact mH | apply mT)))) ?_
  rintro _ _ ⟨_, rfl, rfl, es2, clk2, rfl, _⟩
  iterate 2 refine Lp rfl (p_ext rfl rfl rfl) ?_
  refine Ls (cs' := [_, _, _, _, _, _, _, _, _, _, _, _, _]) rfl sz28 rfl rfl rfl rfl rfl rfl rfl ?_
  refine Ls (cs' := [_]) rfl sz4 rfl rfl rfl rfl rfl rfl rfl ?_
  refine L_then (kp [6, 7] rfl) ?_
  refine V_ret (then_r ?_)
  refine Leave.nil (.cellA (us := [_, _, _, _, _, _, _, _, _, _, _, _, _]) rfl ag28 sz28 (by repeat first | exact mH | apply mT) rfl (.cell rfl ag4 (by repeat first | exact mH | apply mT) rfl .nil)) ?_
  have e : spareT t u now = boxT t (byT t now fun _ => true) u := if_pos (by omega)
  rw [e]; rfl
 intro c1; try simp only [td] at c1
 refine V_skip (then_n ?_)
 refine V_seq ?_
 refine Vs rfl ?_
 refine Lr rfl (rlA (vs := [_, _, _, _, _]) ag39 sz39 rfl rfl rfl) ?_
 iterate 2 refine Lm rfl rfl rfl ?_
 refine Lw rfl (w_callN rfl rfl rfl (fun w hg => others_c t _ _ u now w)) ?_
 rintro _ _ ⟨_, rfl, _, y1, y2, y3, rfl, rfl⟩
 refine L_then (kp [6, 7, 27] rfl) ?_
 refine V_block ?_
 refine V_range (L := (othersV t u now t.trackers.length).map ov) rfl (kp [6, 7, 27] rfl) rfl rfl (fun done x => done.length < t.trackers.length ∧ ∃ p : Int × Box, x = ov p) (fun done Hs => ∃ qs : List (Int × Box), done = qs.map ov ∧ Hs = (y2, .cells #[.int .i64 now] 3) :: (y3, .cells #[.int .i64 u] 3) :: (y1, t.obj (.slice ta t.trackers.length tc) pv 39) :: (b3, .cells #[.bool (foldB qs).isSome] 4) :: (b2, .cells (Box.cells ((foldB qs).getD boxZ)).toArray 28) :: (b1, t.obj (.slice ta t.trackers.length tc) pv 39) :: []) (by rintro done vs ⟨_, p, rfl⟩; rfl) (by repeat (first | exact List.Sublist.refl _ | apply List.Sublist.cons_cons | apply List.Sublist.cons)) (⟨[], rfl, rfl⟩) ?_ ?_ ?_
 ·intro l1 D1 r1 done vs Hr own hp hJ
  obtain ⟨hdl, p, rfl⟩ := hp
  obtain ⟨qs, rfl, rfl⟩ := hJ
  have hsn := foldB_snoc qs p
  generalize foldB qs = acc at hsn
  refine V_region rfl ?_
  refine Lw rfl (w_alloc zr28 rfl) ?_
  rintro _ _ ⟨b5, hb5, rfl, rfl⟩
  refine Ls (cs' := [_, _, _, _, _, _, _, _, _, _, _, _, _]) rfl sz28 rfl rfl rfl rfl rfl rfl rfl ?_
  refine L_keep (kp [6, 7, 9, 27] rfl) ?_
  refine asgI (by repeat first | exact .head | apply SetAt.tail) ?_
  refine V_block ?_
  refine V_seq ?_
  refine Vs rfl ?_
  refine Lr rfl (rl ag4 rfl rfl rfl) ?_
  refine Lp rfl (p_not rfl rfl) ?_
  refine L_then (kp [6, 7, 9, 31] rfl) ?_
  refine V_cond rfl ?_ ?_
  ·intro c2; try simp only [td] at c2
   refine Vs rfl ?_
   refine Lr rfl (rlA (vs := [_, _, _, _, _, _, _, _, _, _, _, _, _]) ag28 sz28 rfl rfl rfl) ?_
   refine Ls (cs' := [_, _, _, _, _, _, _, _, _, _, _, _, _]) rfl sz28 rfl rfl rfl rfl rfl rfl rfl ?_
   refine Ls (cs' := [_]) rfl sz4 rfl rfl rfl rfl rfl rfl rfl ?_
   refine L_then .nil ?_
   refine V_exit (then_e (blk_e rfl ?_))
   refine endI (by repeat first | exact .head | apply SetAt.tail) ?_
   refine ⟨(y2, .cells #[.int .i64 now] 3) :: (y3, .cells #[.int .i64 u] 3) :: (y1, t.obj (.slice ta t.trackers.length tc) pv 39) :: (b3, .cells #[.bool true] 4) :: (b2, .cells (Box.cells p.2).toArray 28) :: (b1, t.obj (.slice ta t.trackers.length tc) pv 39) :: [], (by (try dsimp only); repeat (first | exact HSub.nil _ | refine HSub.take (by repeat first | exact Take.head | apply Take.tail) ?_ | exact HSub.refl _ | refine HSub.drop ?_ | refine HSub.app ?_)), ?_⟩
   have e : acc = none := isSome_none c2
   subst e
   refine ⟨qs ++ [p], by rw [List.map_append]; rfl, ?_⟩
   rw [hsn]; rfl
  intro c2; try simp only [td] at c2
  refine V_skip (then_n ?_)
  refine Vs rfl ?_
  refine Lc rfl rfl rfl rfl (fun w hg => parts_c b2 w) ?_
  refine Lw rfl (w_alloc zr93 rfl) ?_
  rintro _ _ ⟨b6, hb6, rfl, rfl⟩
  refine Ls (cs' := [_, _, _, _, _, _]) rfl sz93 rfl rfl rfl rfl rfl rfl rfl ?_
  refine L_then (kp [9, 10] rfl) ?_
  refine Vs rfl ?_
  refine Lc rfl rfl rfl rfl (fun w hg => parts_c b5 w) ?_
  refine Lm rfl rfl rfl ?_
  refine L_then (kp [10, 34, 35] rfl) ?_
  refine V_block ?_
  refine V_loopU ?_
  refine LU_step ?_
  refine Vs rfl ?_
  refine Lp rfl (p_lss rfl rfl rfl) ?_
  refine L_then (kp [10, 34, 35, 36] rfl) ?_
  refine V_seq ?_
  refine V_cond_t rfl rfl ?_
  refine V_skip (then_n ?_)
  refine V_seq ?_
  refine V_block ?_
  refine Vs rfl ?_
  refine Lm rfl rfl rfl ?_
  refine Lp rfl (p_at un93 ag92 sz92 rfl rfl rfl (by omega) (by omega) rfl) ?_
  iterate 2 refine La rfl rfl rfl ?_
  refine L_then (kp [10, 11, 12, 34, 35] rfl) ?_
  refine V_draw (.rd 0 (.rd 1 (.rd 2 (.rd 3 (.rd 4 (.rd 5 (.rd 6 (.rd 7 (.rd 8 (.rd 9 (.rd 10 (.rd 11 (.rd 12 (.rd 13 (.rd 14 (.rd 15 (.rd 16 (.rd 17 (.rd 18 (.rd 19 (.rd 20 (.rd 21 (.rd 22 (.rd 23 (.rd 24 (.rd 25 (.rd 26 (.rd 27 (.rd 28 (.rd 29 (.wr 30 [28, 27, 25, 24, 23, 21, 20, 19, 18, 17, 5, 4, 3] (.rd 31 (.rd 32 (.wr 33 [31] .done)))))))))))))))))))))))))))))))))) mixed (by kernel_rfl) rfl ?_
  refine Dm rfl rfl rfl rfl ?_
  refine Dp rfl rfl (p_idxao ar93 rfl rfl rfl (by omega) (by omega)) ?_
  refine Dr rfl rfl (rl ag92 rfl rfl rfl) ?_
  refine Dm rfl rfl rfl rfl ?_
  refine Dp rfl rfl (p_idxao ar93 rfl rfl rfl (by omega) (by omega)) ?_
  refine Dr rfl rfl (rl ag92 rfl rfl rfl) ?_
  refine Dm rfl rfl rfl rfl ?_
  refine Dp rfl rfl (p_idxao ar93 rfl rfl rfl (by omega) (by omega)) ?_
  refine Dr rfl rfl (rl ag92 rfl rfl rfl) ?_
  refine Dp rfl rfl (p_nil rfl rfl) ?_
  refine Dp rfl rfl (p_fieldo fo24_0 rfl rfl) ?_
  refine Dr rfl rfl (rl ag3 rfl rfl rfl) ?_
  refine Dm rfl rfl rfl rfl ?_
  refine Dp rfl rfl (p_nil rfl rfl) ?_
  refine Dp rfl rfl (p_fieldo fo24_0 rfl rfl) ?_
  refine Dr rfl rfl (rl ag3 rfl rfl rfl) ?_
  refine Dp rfl rfl (p_min rfl rfl rfl) ?_
  refine Dm rfl rfl rfl rfl ?_
  refine Dp rfl rfl (p_idxao ar93 rfl rfl rfl (by omega) (by omega)) ?_
  refine Dr rfl rfl (rl ag92 rfl rfl rfl) ?_
  refine Dp rfl rfl (p_nil rfl rfl) ?_
  refine Dp rfl rfl (p_fieldo fo24_1 rfl rfl) ?_
  refine Dr rfl rfl (rl ag3 rfl rfl rfl) ?_
  refine Dm rfl rfl rfl rfl ?_
  refine Dp rfl rfl (p_nil rfl rfl) ?_
  refine Dp rfl rfl (p_fieldo fo24_1 rfl rfl) ?_
  refine Dr rfl rfl (rl ag3 rfl rfl rfl) ?_
  refine Dp rfl rfl (p_max rfl rfl rfl) ?_
  refine Dp rfl rfl (p_nil rfl rfl) ?_
  refine Dp rfl rfl (p_fieldo fo24_0 rfl rfl) ?_
  refine D_wr (.go (E' := [(19, _), (5, _)]) rfl (.plain rfl) (ws (cs' := [_, _, _, _, _, _, _, _, _, _, _, _, _]) sz3 rfl rfl rfl rfl rfl rfl rfl) rfl ?_)
  rintro _ _ ⟨rfl, rfl⟩
  refine ⟨(.cons rfl (.plain rfl) (rl ag92 rfl rfl rfl) (.cons rfl (.plain rfl) (rl ag92 rfl rfl rfl) .nil)), ?_⟩
  refine Dp rfl rfl (p_nil rfl rfl) ?_
  refine Dp rfl rfl (p_fieldo fo24_1 rfl rfl) ?_
  refine D_wr (.go (E' := []) rfl (.plain rfl) (ws (cs' := [_, _, _, _, _, _, _, _, _, _, _, _, _]) sz3 rfl rfl rfl rfl rfl rfl rfl) rfl ?_)
  rintro _ _ ⟨rfl, rfl⟩
  refine ⟨.nil, ?_⟩
  refine D_keep (kp [10, 34, 35] rfl) (blk_n (then_n ?_))
  refine V_region rfl ?_
  first | refine Lp rfl (p_add' rfl rfl rfl (by unfold InI; omega)) ?_ | refine Lp rfl (p_add rfl rfl rfl) ?_
  refine Lm rfl rfl rfl ?_
  refine L_keep (kp [10, 34, 35] rfl) (then_n ?_)
  refine LU_step ?_
  refine Vs rfl ?_
  refine Lp rfl (p_lss rfl rfl rfl) ?_
  refine L_then (kp [10, 34, 35, 36] rfl) ?_
  refine V_seq ?_
  refine V_cond_t rfl rfl ?_
  refine V_skip (then_n ?_)
  refine V_seq ?_
  refine V_block ?_
  refine Vs rfl ?_
  refine Lm rfl rfl rfl ?_
  refine Lp rfl (p_at un93 ag92 sz92 rfl rfl rfl (by omega) (by omega) rfl) ?_
  iterate 2 refine La rfl rfl rfl ?_
  refine L_then (kp [10, 11, 12, 34, 35] rfl) ?_
  refine V_draw (.rd 0 (.rd 1 (.rd 2 (.rd 3 (.rd 4 (.rd 5 (.rd 6 (.rd 7 (.rd 8 (.rd 9 (.rd 10 (.rd 11 (.rd 12 (.rd 13 (.rd 14 (.rd 15 (.rd 16 (.rd 17 (.rd 18 (.rd 19 (.rd 20 (.rd 21 (.rd 22 (.rd 23 (.rd 24 (.rd 25 (.rd 26 (.rd 27 (.rd 28 (.rd 29 (.wr 30 [28, 27, 25, 24, 23, 21, 20, 19, 18, 17, 5, 4, 3] (.rd 31 (.rd 32 (.wr 33 [31] .done)))))))))))))))))))))))))))))))))) mixed (by kernel_rfl) rfl ?_
  refine Dm rfl rfl rfl rfl ?_
  refine Dp rfl rfl (p_idxao ar93 rfl rfl rfl (by omega) (by omega)) ?_
  refine Dr rfl rfl (rl ag92 rfl rfl rfl) ?_
  refine Dm rfl rfl rfl rfl ?_
  refine Dp rfl rfl (p_idxao ar93 rfl rfl rfl (by omega) (by omega)) ?_
  refine Dr rfl rfl (rl ag92 rfl rfl rfl) ?_
  refine Dm rfl rfl rfl rfl ?_
  refine Dp rfl rfl (p_idxao ar93 rfl rfl rfl (by omega) (by omega)) ?_
  refine Dr rfl rfl (rl ag92 rfl rfl rfl) ?_
  refine Dp rfl rfl (p_nil rfl rfl) ?_
  refine Dp rfl rfl (p_fieldo fo24_0 rfl rfl) ?_
  refine Dr rfl rfl (rl ag3 rfl rfl rfl) ?_
  refine Dm rfl rfl rfl rfl ?_
  refine Dp rfl rfl (p_nil rfl rfl) ?_
  refine Dp rfl rfl (p_fieldo fo24_0 rfl rfl) ?_
  refine Dr rfl rfl (rl ag3 rfl rfl rfl) ?_
  refine Dp rfl rfl (p_min rfl rfl rfl) ?_
  refine Dm rfl rfl rfl rfl ?_
  refine Dp rfl rfl (p_idxao ar93 rfl rfl rfl (by omega) (by omega)) ?_
  refine Dr rfl rfl (rl ag92 rfl rfl rfl) ?_
  refine Dp rfl rfl (p_nil rfl rfl) ?_
  refine Dp rfl rfl (p_fieldo fo24_1 rfl rfl) ?_
  refine Dr rfl rfl (rl ag3 rfl rfl rfl) ?_
  refine Dm rfl rfl rfl rfl ?_
  refine Dp rfl rfl (p_nil rfl rfl) ?_
  refine Dp rfl rfl (p_fieldo fo24_1 rfl rfl) ?_
  refine Dr rfl rfl (rl ag3 rfl rfl rfl) ?_
  refine Dp rfl rfl (p_max rfl rfl rfl) ?_
  refine Dp rfl rfl (p_nil rfl rfl) ?_
  refine Dp rfl rfl (p_fieldo fo24_0 rfl rfl) ?_
  refine D_wr (.go (E' := [(19, _), (5, _)]) rfl (.plain rfl) (ws (cs' := [_, _, _, _, _, _, _, _, _, _, _, _, _]) sz3 rfl rfl rfl rfl rfl rfl rfl) rfl ?_)
  rintro _ _ ⟨rfl, rfl⟩
  refine ⟨(.cons rfl (.plain rfl) (rl ag92 rfl rfl rfl) (.cons rfl (.plain rfl) (rl ag92 rfl rfl rfl) .nil)), ?_⟩
  refine Dp rfl rfl (p_nil rfl rfl) ?_
  refine Dp rfl rfl (p_fieldo fo24_1 rfl rfl) ?_
  refine D_wr (.go (E' := []) rfl (.plain rfl) (ws (cs' := [_, _, _, _, _, _, _, _, _, _, _, _, _]) sz3 rfl rfl rfl rfl rfl rfl rfl) rfl ?_)
  rintro _ _ ⟨rfl, rfl⟩
  refine ⟨.nil, ?_⟩
  refine D_keep (kp [10, 34, 35] rfl) (blk_n (then_n ?_))
  refine V_region rfl ?_
  first | refine Lp rfl (p_add' rfl rfl rfl (by unfold InI; omega)) ?_ | refine Lp rfl (p_add rfl rfl rfl) ?_
  refine Lm rfl rfl rfl ?_
  refine L_keep (kp [10, 34, 35] rfl) (then_n ?_)
  refine LU_step ?_
  refine Vs rfl ?_
  refine Lp rfl (p_lss rfl rfl rfl) ?_
  refine L_then (kp [10, 34, 35, 36] rfl) ?_
  refine V_seq ?_
  refine V_cond_t rfl rfl ?_
  refine V_skip (then_n ?_)
  refine V_seq ?_
  refine V_block ?_
  refine Vs rfl ?_
  refine Lm rfl rfl rfl ?_
  refine Lp rfl (p_at un93 ag92 sz92 rfl rfl rfl (by omega) (by omega) rfl) ?_
  iterate 2 refine La rfl rfl rfl ?_
  refine L_then (kp [10, 11, 12, 34, 35] rfl) ?_
  refine V_draw (.rd 0 (.rd 1 (.rd 2 (.rd 3 (.rd 4 (.rd 5 (.rd 6 (.rd 7 (.rd 8 (.rd 9 (.rd 10 (.rd 11 (.rd 12 (.rd 13 (.rd 14 (.rd 15 (.rd 16 (.rd 17 (.rd 18 (.rd 19 (.rd 20 (.rd 21 (.rd 22 (.rd 23 (.rd 24 (.rd 25 (.rd 26 (.rd 27 (.rd 28 (.rd 29 (.wr 30 [28, 27, 25, 24, 23, 21, 20, 19, 18, 17, 5, 4, 3] (.rd 31 (.rd 32 (.wr 33 [31] .done)))))))))))))))))))))))))))))))))) mixed (by kernel_rfl) rfl ?_
  refine Dm rfl rfl rfl rfl ?_
  refine Dp rfl rfl (p_idxao ar93 rfl rfl rfl (by omega) (by omega)) ?_
  refine Dr rfl rfl (rl ag92 rfl rfl rfl) ?_
  refine Dm rfl rfl rfl rfl ?_
  refine Dp rfl rfl (p_idxao ar93 rfl rfl rfl (by omega) (by omega)) ?_
  refine Dr rfl rfl (rl ag92 rfl rfl rfl) ?_
  refine Dm rfl rfl rfl rfl ?_
  refine Dp rfl rfl (p_idxao ar93 rfl rfl rfl (by omega) (by omega)) ?_
  refine Dr rfl rfl (rl ag92 rfl rfl rfl) ?_
  refine Dp rfl rfl (p_nil rfl rfl) ?_
  refine Dp rfl rfl (p_fieldo fo24_0 rfl rfl) ?_
  refine Dr rfl rfl (rl ag3 rfl rfl rfl) ?_
  refine Dm rfl rfl rfl rfl ?_
  refine Dp rfl rfl (p_nil rfl rfl) ?_
  refine Dp rfl rfl (p_fieldo fo24_0 rfl rfl) ?_
  refine Dr rfl rfl (rl ag3 rfl rfl rfl) ?_
  refine Dp rfl rfl (p_min rfl rfl rfl) ?_
  refine Dm rfl rfl rfl rfl ?_
  refine Dp rfl rfl (p_idxao ar93 rfl rfl rfl (by omega) (by omega)) ?_
  refine Dr rfl rfl (rl ag92 rfl rfl rfl) ?_
  refine Dp rfl rfl (p_nil rfl rfl) ?_
  refine Dp rfl rfl (p_fieldo fo24_1 rfl rfl) ?_
  refine Dr rfl rfl (rl ag3 rfl rfl rfl) ?_
  refine Dm rfl rfl rfl rfl ?_
  refine Dp rfl rfl (p_nil rfl rfl) ?_
  refine Dp rfl rfl (p_fieldo fo24_1 rfl rfl) ?_
  refine Dr rfl rfl (rl ag3 rfl rfl rfl) ?_
  refine Dp rfl rfl (p_max rfl rfl rfl) ?_
  refine Dp rfl rfl (p_nil rfl rfl) ?_
  refine Dp rfl rfl (p_fieldo fo24_0 rfl rfl) ?_
  refine D_wr (.go (E' := [(19, _), (5, _)]) rfl (.plain rfl) (ws (cs' := [_, _, _, _, _, _, _, _, _, _, _, _, _]) sz3 rfl rfl rfl rfl rfl rfl rfl) rfl ?_)
  rintro _ _ ⟨rfl, rfl⟩
  refine ⟨(.cons rfl (.plain rfl) (rl ag92 rfl rfl rfl) (.cons rfl (.plain rfl) (rl ag92 rfl rfl rfl) .nil)), ?_⟩
  refine Dp rfl rfl (p_nil rfl rfl) ?_
  refine Dp rfl rfl (p_fieldo fo24_1 rfl rfl) ?_
  refine D_wr (.go (E' := []) rfl (.plain rfl) (ws (cs' := [_, _, _, _, _, _, _, _, _, _, _, _, _]) sz3 rfl rfl rfl rfl rfl rfl rfl) rfl ?_)
  rintro _ _ ⟨rfl, rfl⟩
  refine ⟨.nil, ?_⟩
  refine D_keep (kp [10, 34, 35] rfl) (blk_n (then_n ?_))
  refine V_region rfl ?_
  first | refine Lp rfl (p_add' rfl rfl rfl (by unfold InI; omega)) ?_ | refine Lp rfl (p_add rfl rfl rfl) ?_
  refine Lm rfl rfl rfl ?_
  refine L_keep (kp [10, 34, 35] rfl) (then_n ?_)
  refine LU_step ?_
  refine Vs rfl ?_
  refine Lp rfl (p_lss rfl rfl rfl) ?_
  refine L_then (kp [10, 34, 35, 36] rfl) ?_
  refine V_seq ?_
  refine V_cond_t rfl rfl ?_
  refine V_skip (then_n ?_)
  refine V_seq ?_
  refine V_block ?_
  refine Vs rfl ?_
  refine Lm rfl rfl rfl ?_
  refine Lp rfl (p_at un93 ag92 sz92 rfl rfl rfl (by omega) (by omega) rfl) ?_
  iterate 2 refine La rfl rfl rfl ?_
  refine L_then (kp [10, 11, 12, 34, 35] rfl) ?_
  refine V_draw (.rd 0 (.rd 1 (.rd 2 (.rd 3 (.rd 4 (.rd 5 (.rd 6 (.rd 7 (.rd 8 (.rd 9 (.rd 10 (.rd 11 (.rd 12 (.rd 13 (.rd 14 (.rd 15 (.rd 16 (.rd 17 (.rd 18 (.rd 19 (.rd 20 (.rd 21 (.rd 22 (.rd 23 (.rd 24 (.rd 25 (.rd 26 (.rd 27 (.rd 28 (.rd 29 (.wr 30 [28, 27, 25, 24, 23, 21, 20, 19, 18, 17, 5, 4, 3] (.rd 31 (.rd 32 (.wr 33 [31] .done)))))))))))))))))))))))))))))))))) mixed (by kernel_rfl) rfl ?_
  refine Dm rfl rfl rfl rfl ?_
  refine Dp rfl rfl (p_idxao ar93 rfl rfl rfl (by omega) (by omega)) ?_
  refine Dr rfl rfl (rl ag92 rfl rfl rfl) ?_
  refine Dm rfl rfl rfl rfl ?_
  refine Dp rfl rfl (p_idxao ar93 rfl rfl rfl (by omega) (by omega)) ?_
  refine Dr rfl rfl (rl ag92 rfl rfl rfl) ?_
  refine Dm rfl rfl rfl rfl ?_
  refine Dp rfl rfl (p_idxao ar93 rfl rfl rfl (by omega) (by omega)) ?_
  refine Dr rfl rfl (rl ag92 rfl rfl rfl) ?_
  refine Dp rfl rfl (p_nil rfl rfl) ?_
  refine Dp rfl rfl (p_fieldo fo24_0 rfl rfl) ?_
  refine Dr rfl rfl (rl ag3 rfl rfl rfl) ?_
  refine Dm rfl rfl rfl rfl ?_
  refine Dp rfl rfl (p_nil rfl rfl) ?_
  refine Dp rfl rfl (p_fieldo fo24_0 rfl rfl) ?_
  refine Dr rfl rfl (rl ag3 rfl rfl rfl) ?_
  refine Dp rfl rfl (p_min rfl rfl rfl) ?_
  refine Dm rfl rfl rfl rfl ?_
  refine Dp rfl rfl (p_idxao ar93 rfl rfl rfl (by omega) (by omega)) ?_
  refine Dr rfl rfl (rl ag92 rfl rfl rfl) ?_
  refine Dp rfl rfl (p_nil rfl rfl) ?_
  refine Dp rfl rfl (p_fieldo fo24_1 rfl rfl) ?_
  refine Dr rfl rfl (rl ag3 rfl rfl rfl) ?_
  refine Dm rfl rfl rfl rfl ?_
  refine Dp rfl rfl (p_nil rfl rfl) ?_
  refine Dp rfl rfl (p_fieldo fo24_1 rfl rfl) ?_
  refine Dr rfl rfl (rl ag3 rfl rfl rfl) ?_
  refine Dp rfl rfl (p_max rfl rfl rfl) ?_
  refine Dp rfl rfl (p_nil rfl rfl) ?_
  refine Dp rfl rfl (p_fieldo fo24_0 rfl rfl) ?_
  refine D_wr (.go (E' := [(19, _), (5, _)]) rfl (.plain rfl) (ws (cs' := [_, _, _, _, _, _, _, _, _, _, _, _, _]) sz3 rfl rfl rfl rfl rfl rfl rfl) rfl ?_)
  rintro _ _ ⟨rfl, rfl⟩
  refine ⟨(.cons rfl (.plain rfl) (rl ag92 rfl rfl rfl) (.cons rfl (.plain rfl) (rl ag92 rfl rfl rfl) .nil)), ?_⟩
  refine Dp rfl rfl (p_nil rfl rfl) ?_
  refine Dp rfl rfl (p_fieldo fo24_1 rfl rfl) ?_
  refine D_wr (.go (E' := []) rfl (.plain rfl) (ws (cs' := [_, _, _, _, _, _, _, _, _, _, _, _, _]) sz3 rfl rfl rfl rfl rfl rfl rfl) rfl ?_)
  rintro _ _ ⟨rfl, rfl⟩
  refine ⟨.nil, ?_⟩
  refine D_keep (kp [10, 34, 35] rfl) (blk_n (then_n ?_))
  refine V_region rfl ?_
  first | refine Lp rfl (p_add' rfl rfl rfl (by unfold InI; omega)) ?_ | refine Lp rfl (p_add rfl rfl rfl) ?_
  refine Lm rfl rfl rfl ?_
  refine L_keep (kp [10, 34, 35] rfl) (then_n ?_)
  refine LU_step ?_
  refine Vs rfl ?_
  refine Lp rfl (p_lss rfl rfl rfl) ?_
  refine L_then (kp [10, 34, 35, 36] rfl) ?_
  refine V_seq ?_
  refine V_cond_t rfl rfl ?_
  refine V_skip (then_n ?_)
  refine V_seq ?_
  refine V_block ?_
  refine Vs rfl ?_
  refine Lm rfl rfl rfl ?_
  refine Lp rfl (p_at un93 ag92 sz92 rfl rfl rfl (by omega) (by omega) rfl) ?_
  iterate 2 refine La rfl rfl rfl ?_
  refine L_then (kp [10, 11, 12, 34, 35] rfl) ?_
  refine V_draw (.rd 0 (.rd 1 (.rd 2 (.rd 3 (.rd 4 (.rd 5 (.rd 6 (.rd 7 (.rd 8 (.rd 9 (.rd 10 (.rd 11 (.rd 12 (.rd 13 (.rd 14 (.rd 15 (.rd 16 (.rd 17 (.rd 18 (.rd 19 (.rd 20 (.rd 21 (.rd 22 (.rd 23 (.rd 24 (.rd 25 (.rd 26 (.rd 27 (.rd 28 (.rd 29 (.wr 30 [28, 27, 25, 24, 23, 21, 20, 19, 18, 17, 5, 4, 3] (.rd 31 (.rd 32 (.wr 33 [31] .done)))))))))))))))))))))))))))))))))) mixed (by kernel_rfl) rfl ?_
  refine Dm rfl rfl rfl rfl ?_
  refine Dp rfl rfl (p_idxao ar93 rfl rfl rfl (by omega) (by omega)) ?_
  refine Dr rfl rfl (rl ag92 rfl rfl rfl) ?_
  refine Dm rfl rfl rfl rfl ?_
  refine Dp rfl rfl (p_idxao ar93 rfl rfl rfl (by omega) (by omega)) ?_
  refine Dr rfl rfl (rl ag92 rfl rfl rfl) ?_
  refine Dm rfl rfl rfl rfl ?_
  refine Dp rfl rfl (p_idxao ar93 rfl rfl rfl (by omega) (by omega)) ?_
  refine Dr rfl rfl (rl ag92 rfl rfl rfl) ?_
  refine Dp rfl rfl (p_nil rfl rfl) ?_
  refine Dp rfl rfl (p_fieldo fo24_0 rfl rfl) ?_
  refine Dr rfl rfl (rl ag3 rfl rfl rfl) ?_
  refine Dm rfl rfl rfl rfl ?_
  refine Dp rfl rfl (p_nil rfl rfl) ?_
  refine Dp rfl rfl (p_fieldo fo24_0 rfl rfl) ?_
  refine Dr rfl rfl (rl ag3 rfl rfl rfl) ?_
  refine Dp rfl rfl (p_min rfl rfl rfl) ?_
  refine Dm rfl rfl rfl rfl ?_
  refine Dp rfl rfl (p_idxao ar93 rfl rfl rfl (by omega) (by omega)) ?_
  refine Dr rfl rfl (rl ag92 rfl rfl rfl) ?_
  refine Dp rfl rfl (p_nil rfl rfl) ?_
  refine Dp rfl rfl (p_fieldo fo24_1 rfl rfl) ?_
  refine Dr rfl rfl (rl ag3 rfl rfl rfl) ?_
  refine Dm rfl rfl rfl rfl ?_
  refine Dp rfl rfl (p_nil rfl rfl) ?_
  refine Dp rfl rfl (p_fieldo fo24_1 rfl rfl) ?_
  refine Dr rfl rfl (rl ag3 rfl rfl rfl) ?_
  refine Dp rfl rfl (p_max rfl rfl rfl) ?_
  refine Dp rfl rfl (p_nil rfl rfl) ?_
  refine Dp rfl rfl (p_fieldo fo24_0 rfl rfl) ?_
  refine D_wr (.go (E' := [(19, _), (5, _)]) rfl (.plain rfl) (ws (cs' := [_, _, _, _, _, _, _, _, _, _, _, _, _]) sz3 rfl rfl rfl rfl rfl rfl rfl) rfl ?_)
  rintro _ _ ⟨rfl, rfl⟩
  refine ⟨(.cons rfl (.plain rfl) (rl ag92 rfl rfl rfl) (.cons rfl (.plain rfl) (rl ag92 rfl rfl rfl) .nil)), ?_⟩
  refine Dp rfl rfl (p_nil rfl rfl) ?_
  refine Dp rfl rfl (p_fieldo fo24_1 rfl rfl) ?_
  refine D_wr (.go (E' := []) rfl (.plain rfl) (ws (cs' := [_, _, _, _, _, _, _, _, _, _, _, _, _]) sz3 rfl rfl rfl rfl rfl rfl rfl) rfl ?_)
  rintro _ _ ⟨rfl, rfl⟩
  refine ⟨.nil, ?_⟩
  refine D_keep (kp [10, 34, 35] rfl) (blk_n (then_n ?_))
  refine V_region rfl ?_
  first | refine Lp rfl (p_add' rfl rfl rfl (by unfold InI; omega)) ?_ | refine Lp rfl (p_add rfl rfl rfl) ?_
  refine Lm rfl rfl rfl ?_
  refine L_keep (kp [10, 34, 35] rfl) (then_n ?_)
  refine LU_step ?_
  refine Vs rfl ?_
  refine Lp rfl (p_lss rfl rfl rfl) ?_
  refine L_then (kp [10, 34, 35, 36] rfl) ?_
  refine V_seq ?_
  refine V_cond_t rfl rfl ?_
  refine V_skip (then_n ?_)
  refine V_seq ?_
  refine V_block ?_
  refine Vs rfl ?_
  refine Lm rfl rfl rfl ?_
  refine Lp rfl (p_at un93 ag92 sz92 rfl rfl rfl (by omega) (by omega) rfl) ?_
  iterate 2 refine La rfl rfl rfl ?_
  refine L_then (kp [10, 11, 12, 34, 35] rfl) ?_
  refine V_draw (.rd 0 (.rd 1 (.rd 2 (.rd 3 (.rd 4 (.rd 5 (.rd 6 (.rd 7 (.rd 8 (.rd 9 (.rd 10 (.rd 11 (.rd 12 (.rd 13 (.rd 14 (.rd 15 (.rd 16 (.rd 17 (.rd 18 (.rd 19 (.rd 20 (.rd 21 (.rd 22 (.rd 23 (.rd 24 (.rd 25 (.rd 26 (.rd 27 (.rd 28 (.rd 29 (.wr 30 [28, 27, 25, 24, 23, 21, 20, 19, 18, 17, 5, 4, 3] (.rd 31 (.rd 32 (.wr 33 [31] .done)))))))))))))))))))))))))))))))))) mixed (by kernel_rfl) rfl ?_
  refine Dm rfl rfl rfl rfl ?_
  refine Dp rfl rfl (p_idxao ar93 rfl rfl rfl (by omega) (by omega)) ?_
  refine Dr rfl rfl (rl ag92 rfl rfl rfl) ?_
  refine Dm rfl rfl rfl rfl ?_
  refine Dp rfl rfl (p_idxao ar93 rfl rfl rfl (by omega) (by omega)) ?_
  refine Dr rfl rfl (rl ag92 rfl rfl rfl) ?_
  refine Dm rfl rfl rfl rfl ?_
  refine Dp rfl rfl (p_idxao ar93 rfl rfl rfl (by omega) (by omega)) ?_
  refine Dr rfl rfl (rl ag92 rfl rfl rfl) ?_
  refine Dp rfl rfl (p_nil rfl rfl) ?_
  refine Dp rfl rfl (p_fieldo fo24_0 rfl rfl) ?_
  refine Dr rfl rfl (rl ag3 rfl rfl rfl) ?_
  refine Dm rfl rfl rfl rfl ?_
  refine Dp rfl rfl (p_nil rfl rfl) ?_
  refine Dp rfl rfl (p_fieldo fo24_0 rfl rfl) ?_
  refine Dr rfl rfl (rl ag3 rfl rfl rfl) ?_
  refine Dp rfl rfl (p_min rfl rfl rfl) ?_
  refine Dm rfl rfl rfl rfl ?_
  refine Dp rfl rfl (p_idxao ar93 rfl rfl rfl (by omega) (by omega)) ?_
  refine Dr rfl rfl (rl ag92 rfl rfl rfl) ?_
  refine Dp rfl rfl (p_nil rfl rfl) ?_
  refine Dp rfl rfl (p_fieldo fo24_1 rfl rfl) ?_
  refine Dr rfl rfl (rl ag3 rfl rfl rfl) ?_
  refine Dm rfl rfl rfl rfl ?_
  refine Dp rfl rfl (p_nil rfl rfl) ?_
  refine Dp rfl rfl (p_fieldo fo24_1 rfl rfl) ?_
  refine Dr rfl rfl (rl ag3 rfl rfl rfl) ?_
  refine Dp rfl rfl (p_max rfl rfl rfl) ?_
  refine Dp rfl rfl (p_nil rfl rfl) ?_
  refine Dp rfl rfl (p_fieldo fo24_0 rfl rfl) ?_
  refine D_wr (.go (E' := [(19, _), (5, _)]) rfl (.plain rfl) (ws (cs' := [_, _, _, _, _, _, _, _, _, _, _, _, _]) sz3 rfl rfl rfl rfl rfl rfl rfl) rfl ?_)
  rintro _ _ ⟨rfl, rfl⟩
  refine ⟨(.cons rfl (.plain rfl) (rl ag92 rfl rfl rfl) (.cons rfl (.plain rfl) (rl ag92 rfl rfl rfl) .nil)), ?_⟩
  refine Dp rfl rfl (p_nil rfl rfl) ?_
  refine Dp rfl rfl (p_fieldo fo24_1 rfl rfl) ?_
  refine D_wr (.go (E' := []) rfl (.plain rfl) (ws (cs' := [_, _, _, _, _, _, _, _, _, _, _, _, _]) sz3 rfl rfl rfl rfl rfl rfl rfl) rfl ?_)
  rintro _ _ ⟨rfl, rfl⟩
  refine ⟨.nil, ?_⟩
  refine D_keep (kp [10, 34, 35] rfl) (blk_n (then_n ?_))
  refine V_region rfl ?_
  first | refine Lp rfl (p_add' rfl rfl rfl (by unfold InI; omega)) ?_ | refine Lp rfl (p_add rfl rfl rfl) ?_
  refine Lm rfl rfl rfl ?_
  refine L_keep (kp [10, 34, 35] rfl) (then_n ?_)
  refine LU_step ?_
  refine Vs rfl ?_
  refine Lp rfl (p_lss rfl rfl rfl) ?_
  refine L_then (kp [10, 34, 35, 36] rfl) ?_
  refine V_seq ?_
  refine V_cond_f rfl rfl ?_
  refine V_exit (then_e (then_e (blk_e rfl (blk_n ?_))))
  refine endI (by repeat first | exact .head | apply SetAt.tail) ?_
  refine ⟨(y2, .cells #[.int .i64 now] 3) :: (y3, .cells #[.int .i64 u] 3) :: (y1, t.obj (.slice ta t.trackers.length tc) pv 39) :: (b3, .cells #[.bool acc.isSome] 4) :: (b2, .cells (Box.cells (joinB (acc.getD boxZ) p.2)).toArray 28) :: (b1, t.obj (.slice ta t.trackers.length tc) pv 39) :: [], (by (try dsimp only); repeat (first | exact HSub.nil _ | refine HSub.take (by repeat first | exact Take.head | apply Take.tail) ?_ | exact HSub.refl _ | refine HSub.drop ?_ | refine HSub.app ?_)), ?_⟩
  have e : acc = some (acc.getD boxZ) := isSome_get c2
  refine ⟨qs ++ [p], by rw [List.map_append]; rfl, ?_⟩
  rw [hsn]; revert e; generalize acc.getD boxZ = bb; rintro rfl; rfl
 ·intro l1 D1 r1 w1 hY hgi
  refine (others1_c t hG u now hu w l1 y1 y2 y3 ta tc pv _ hT hY ?_ w1 _ ⟨_, rfl, [], rfl, rfl⟩ hgi).mono (fun _ w2 ⟨Hs, hg2, Hr, e, hJ⟩ => ⟨Hr, e ▸ hg2, hJ⟩)
  rintro done _ ⟨Hr, rfl, qs, rfl, rfl⟩
  exact ⟨.tail _ (.tail _ (.tail _ (.tail _ (.head _)))), .tail _ (.tail _ (.head _)), .tail _ (.tail _ (.tail _ (.head _)))⟩
 intro l1 D1 ob1 Hr hJ
 obtain ⟨qs, hL, rfl⟩ := hJ
 have hqs := ov_inj hL
 refine (blk_n (then_n ?_))
 refine V_seq (V_draw (.rd 0 (.rd 1 (.wr 2 [1] (.wr 3 [] .done)))) mixed (by kernel_rfl) rfl ?_)
 refine Dr rfl rfl (rlA (vs := [_, _, _, _, _, _, _, _, _, _, _, _, _]) ag28 sz28 rfl rfl rfl) ?_
 refine Dr rfl rfl (rl ag4 rfl rfl rfl) ?_
 refine D_wr (.go (E' := [(1, _)]) rfl (.plain rfl) (ws (cs' := [_, _, _, _, _, _, _, _, _, _, _, _, _]) sz28 rfl rfl rfl rfl rfl rfl rfl) rfl ?_)
 rintro _ _ ⟨rfl, rfl⟩
 refine ⟨(.cons rfl (.plain rfl) (rl ag4 rfl rfl rfl) .nil), ?_⟩
 refine D_wr (.go (E' := []) rfl (.plain rfl) (ws (cs' := [_]) sz4 rfl rfl rfl rfl rfl rfl rfl) rfl ?_)
 rintro _ _ ⟨rfl, rfl⟩
 refine ⟨.nil, ?_⟩
 refine D_then (kp [6, 7] rfl) ?_
 refine V_ret ?_
 refine Leave.mark (by repeat first | exact .head | apply SetAt.tail) (Leave.nil (.cellA (us := [_, _, _, _, _, _, _, _, _, _, _, _, _]) rfl ag28 sz28 (by repeat first | exact mH | apply mT) rfl (.cell rfl ag4 (by repeat first | exact mH | apply mT) rfl .nil)) ?_)
 have e : spareT t u now = foldB qs := by rw [spareT, if_neg (by omega), hqs]
 rw [e]; rfl

end Go.Proofs.YtlcccpeelombbaaGreatDoor

/- YtlcccpeelombbaaGreatDoor: the exported functions of package track. -/
set_option linter.all false
namespace Go.Proofs.YtlcccpeelombbaaGreatDoor
open Go.Vc Go.Tk
set_option maxRecDepth 100000
theorem spareR_c (t : Task) (tv pv : Value) (u now : Int) (w : World) (ht : TaskR w (.agg #[.int .i64 t.frm, .int .i64 t.speed, .int .i64 t.accel, tv, pv]) t) : FnP Tryz.prog 78 [.agg #[.int .i64 t.frm, .int .i64 t.speed, .int .i64 t.accel, tv, pv], .int .i64 u, .int .i64 now] w (spareR t u now) := by
 have hT := ht
 refine fn_pure Tryz.func78 rfl (by kernel_rfl) Tryz.ntmps78 Tryz.results78 rfl ?_
 refine Vs rfl ?_
 refine Lw rfl (w_box rfl rfl) ?_
 rintro _ _ ⟨b1, hb1, rfl, rfl⟩
 refine Lw rfl (w_alloc zr28 rfl) ?_
 rintro _ _ ⟨b2, hb2, rfl, rfl⟩
 refine La rfl rfl rfl ?_
 refine L_then (kp [1, 2, 3, 6] rfl) ?_
 refine V_seq ?_
 refine Vs rfl ?_
 refine Lr rfl (rlA (vs := [_, _, _, _, _]) ag39 sz39 rfl rfl rfl) ?_
 iterate 2 refine Lm rfl rfl rfl ?_
 refine Lw rfl (w_slice (r := [_, _]) un53 sz3 zr3 rfl (by decide) rfl (by decide) rfl rfl) ?_
 rintro _ _ ⟨b3, hb3, rfl, rfl⟩
 refine Lc rfl rfl rfl rfl (fun w hg => asked_c t [u, now] _ _ w (hT.good hg) (own_ints (l := [u, now]) (hg.own (b3, _) (by repeat first | exact mH | apply mT)) rfl (by decide)) (by simp)) ?_
 refine La rfl rfl rfl ?_
 refine L_then (kp [1, 2, 3, 6, 8] rfl) ?_
 refine Vs rfl ?_
 refine Lm rfl rfl rfl ?_
 refine Lp rfl (p_neq rfl rfl rfl) ?_
 refine L_then (kp [1, 2, 3, 6, 8, 15] rfl) ?_
 refine V_cond rfl ?_ ?_
 ·intro c1; try simp only [td] at c1
  refine Vs rfl ?_
  refine Lp rfl (p_build (r := [_, _, _, _, _, _, _, _, _, _, _, _, _]) pl28 zr28 rfl rfl rfl) ?_
  refine Lm rfl rfl rfl ?_
  refine Ls (cs' := [_, _, _, _, _, _, _, _, _, _, _, _, _]) rfl sz28 rfl rfl rfl rfl rfl rfl rfl ?_
  refine La rfl rfl rfl ?_
  refine L_then (kp [6, 7] rfl) ?_
  refine V_ret (then_r ?_)
  refine Leave.nil (.cellA (us := [_, _, _, _, _, _, _, _, _, _, _, _, _]) rfl ag28 sz28 (by repeat first | exact mH | apply mT) rfl (.tmp rfl .nil)) ?_
  rw [spareR, if_pos c1]; rfl
 intro c1; try simp only [td] at c1
 obtain ⟨hG, hn⟩ := asked_zero c1
 refine V_skip (then_n ?_)
 refine Vs rfl ?_
 refine Lr rfl (rlA (vs := [_, _, _, _, _]) ag39 sz39 rfl rfl rfl) ?_
 iterate 2 refine Lm rfl rfl rfl ?_
 refine Lc rfl rfl rfl rfl (fun w hg => spare_c t hG _ _ u now (hn u (.head _)) w (hT.good hg)) ?_
 iterate 2 refine Lp rfl (p_ext rfl rfl rfl) ?_
 refine Lc rfl rfl rfl rfl (fun w hg => found_c _ w) ?_
 iterate 2 refine Lp rfl (p_ext rfl rfl rfl) ?_
 refine Ls (cs' := [_, _, _, _, _, _, _, _, _, _, _, _, _]) rfl sz28 rfl rfl rfl rfl rfl rfl rfl ?_
 refine La rfl rfl rfl ?_
 refine L_then (kp [6, 7] rfl) ?_
 refine V_ret ?_
 refine Leave.nil (.cellA (us := [_, _, _, _, _, _, _, _, _, _, _, _, _]) rfl ag28 sz28 (by repeat first | exact mH | apply mT) rfl (.tmp rfl .nil)) ?_
 have e : spareR t u now = foundT (spareT t u now) := if_neg (fun h => h c1)
 rw [e]; rfl

end Go.Proofs.YtlcccpeelombbaaGreatDoor

/- YtlcccpeelombbaaGreatDoor: Alone, Best and Fails. -/
set_option linter.all false
namespace Go.Proofs.YtlcccpeelombbaaGreatDoor
open Go.Vc Go.Tk
set_option maxRecDepth 100000

end Go.Proofs.YtlcccpeelombbaaGreatDoor

/- YtlcccpeelombbaaGreatDoor: Known; the reference's Width, Known, Reach. -/
set_option linter.all false
namespace Go.Proofs.YtlcccpeelombbaaGreatDoor
open Go.Vc Go.Tk
set_option maxRecDepth 100000
theorem rvalid_c (t : Task) (v : Value) (w : World) (ht : TaskR w v t) : FnP Tryz.prog 105 [v] w (.int .i64 (checkT t).2.2) := by
 have hT := ht
 obtain ⟨tv, pv, rfl, htr, hpl⟩ := ht.ex
 obtain ⟨ta, tc, rfl, htc, hte⟩ := htr.ex
 obtain ⟨pa, pc, rfl, hpc, hpe⟩ := hpl.ex
 have hltr := hT.ltr
 have hlpl := hT.lpl
 simp only [List.length_map] at hT htc hpc ⊢
 refine fn_pure Tryz.func105 rfl (by kernel_rfl) Tryz.ntmps105 Tryz.results105 rfl ?_
 refine Vs rfl ?_
 refine Lw rfl (w_box rfl rfl) ?_
 rintro _ _ ⟨b1, hb1, rfl, rfl⟩
 refine La rfl rfl rfl ?_
 refine L_then (kp [1] rfl) ?_
 refine Vs rfl ?_
 refine Lr rfl (rlA (vs := [_, _, _, _, _]) ag39 sz39 rfl rfl rfl) ?_
 refine Lc rfl rfl rfl rfl (fun w hg => rcheck_c t _ w (hT.good hg)) ?_
 refine Lm rfl rfl rfl ?_
 iterate 3 refine Lp rfl (p_ext rfl rfl rfl) ?_
 iterate 3 refine La rfl rfl rfl ?_
 refine L_then (kp [5] rfl) ?_
 refine Vs rfl ?_
 refine Lm rfl rfl rfl ?_
 refine La rfl rfl rfl ?_
 refine L_then (kp [2] rfl) ?_
 refine V_ret ?_
 refine Leave.nil (.tmp rfl .nil) ?_
 rfl
theorem rsize_c (n : Int) (hn : -1000000000000000000 ≤ n ∧ n ≤ 1000000000000000000) (w : World) : FnP Tryz.prog 65 [.int .i64 n] w (.int .i64 (max n (-n))) := by
 refine fn_pure Tryz.func65 rfl (by kernel_rfl) Tryz.ntmps65 Tryz.results65 rfl ?_
 refine Vs rfl ?_
 refine La rfl rfl rfl ?_
 refine L_then (kp [0] rfl) ?_
 refine Vs rfl ?_
 iterate 2 refine Lm rfl rfl rfl ?_
 first | refine Lp rfl (p_neg' rfl rfl (by unfold InI; omega)) ?_ | refine Lp rfl (p_neg rfl rfl) ?_
 refine Lp rfl (p_max rfl rfl rfl) ?_
 refine La rfl rfl rfl ?_
 refine L_then (kp [2] rfl) ?_
 refine V_ret ?_
 refine Leave.nil (.tmp rfl .nil) ?_
 rfl
theorem rwidth_c (t : Task) (v : Value) (w : World) (ht : TaskR w v t) (hG : GoodT t) (i : Int) (hi0 : 0 ≤ i) (hi1 : i < t.plots.length) : FnP Tryz.prog 140 [v, .int .i64 i] w (.int .i64 (widthT t i.toNat)) := by
 have hT := ht
 obtain ⟨tv, pv, rfl, htr, hpl⟩ := ht.ex
 obtain ⟨ta, tc, rfl, htc, hte⟩ := htr.ex
 obtain ⟨pa, pc, rfl, hpc, hpe⟩ := hpl.ex
 have hltr := hT.ltr
 have hlpl := hT.lpl
 simp only [List.length_map] at hT htc hpc ⊢
 obtain ⟨hfrm, hspd, hacc⟩ := hG.nums
 have hpl60 := hG.h2
 have htr5 := hG.h1
 have hi : i.toNat < t.plots.length := by omega
 have pb := hG.plot hi
 have tb := hG.of hi
 obtain ⟨p1, p2, p3, p4, p5, p6⟩ := pb
 obtain ⟨q1, q2, q3, q4, q5⟩ := tb
 have b1 := far_bnd hG hi
 have b2 := km_bnd hG hi
 have b3 := grow_bnd hG hi
 simp only [farT, Task.trOf, Task.pl, Task.tr, apart_size, Int.sub_zero] at p1 p2 p3 p4 p5 p6 q1 q2 q3 q4 q5 b1 b2 b3
 obtain ⟨qa, rfl, hcp⟩ := hpe i.toNat _ (getD_cells (d := plZ) (by omega))
 obtain ⟨ra, rfl, hct⟩ := hte (t.plots.getD i.toNat plZ).tracker.toNat _ (getD_cells (d := trZ) (by omega))
 refine fn_pure Tryz.func140 rfl (by kernel_rfl) Tryz.ntmps140 Tryz.results140 rfl ?_
 refine Vs rfl ?_
 refine Lw rfl (w_box rfl rfl) ?_
 rintro _ _ ⟨b1, hb1, rfl, rfl⟩
 refine La rfl rfl rfl ?_
 refine L_then (kp [1, 2] rfl) ?_
 refine Vs rfl ?_
 refine Lp rfl (p_fieldo fo39_4 rfl rfl) ?_
 refine Lr rfl (rl ag37 rfl rfl rfl) ?_
 refine Lm rfl rfl rfl ?_
 refine Lp rfl (p_idx es37 rfl rfl rfl (by omega) (by omega)) ?_
 refine Lr rfl (r_loadBA ag138 sz138 rfl rfl hcp rfl List.not_mem_nil) ?_
 refine Lw rfl (w_alloc zr138 rfl) ?_
 rintro _ _ ⟨b2, hb2, rfl, rfl⟩
 refine Ls (cs' := [_, _, _, _, _]) rfl sz138 rfl rfl rfl rfl rfl rfl rfl ?_
 refine L_then (kp [2, 5] rfl) ?_
 refine Vs rfl ?_
 refine Lp rfl (p_fieldo fo39_3 rfl rfl) ?_
 refine Lr rfl (rl ag36 rfl rfl rfl) ?_
 refine Lp rfl (p_fieldo fo138_0 rfl rfl) ?_
 refine Lr rfl (rl ag3 rfl rfl rfl) ?_
 refine Lp rfl (p_idx es36 rfl rfl rfl (by omega) (by omega)) ?_
 refine Lr rfl (r_loadBA ag132 sz132 rfl rfl hct rfl List.not_mem_nil) ?_
 refine Lw rfl (w_alloc zr132 rfl) ?_
 rintro _ _ ⟨b3, hb3, rfl, rfl⟩
 refine Ls (cs' := [_, _, _, _, _, _]) rfl sz132 rfl rfl rfl rfl rfl rfl rfl ?_
 refine L_then (kp [5, 6] rfl) ?_
 refine V_seq (V_draw (.rd 0 (.rd 1 (.rd 2 (.rd 3 (.rd 4 (.rd 6 (.rd 7 (.rd 8 (.rd 9 (.rd 10 (.rd 12 (.rd 13 (.wr 5 [13, 12, 10, 9, 8, 7, 6, 3, 2, 1, 0] (.wr 11 [13, 12, 9, 8, 7, 6, 4, 3, 2, 1, 0] (.wr 14 [12, 10, 9, 8, 7, 6, 4, 3, 2, 1, 0] (.rd 15 (.rd 16 .done))))))))))))))))) mixed (by kernel_rfl) rfl ?_)
 refine Dp rfl rfl (p_fieldo fo138_2 rfl rfl) ?_
 refine Dr rfl rfl (rl ag3 rfl rfl rfl) ?_
 refine Dp rfl rfl (p_fieldo fo132_1 rfl rfl) ?_
 refine Dr rfl rfl (rl ag3 rfl rfl rfl) ?_
 first | refine Dp rfl rfl (p_sub' rfl rfl rfl (by unfold InI; omega)) ?_ | refine Dp rfl rfl (p_sub rfl rfl rfl) ?_
 refine Dp rfl rfl (p_fieldo fo138_3 rfl rfl) ?_
 refine Dr rfl rfl (rl ag3 rfl rfl rfl) ?_
 refine Dp rfl rfl (p_fieldo fo132_2 rfl rfl) ?_
 refine Dr rfl rfl (rl ag3 rfl rfl rfl) ?_
 first | refine Dp rfl rfl (p_sub' rfl rfl rfl (by unfold InI; omega)) ?_ | refine Dp rfl rfl (p_sub rfl rfl rfl) ?_
 refine Dp rfl rfl (p_fieldo fo138_4 rfl rfl) ?_
 refine Dr rfl rfl (rl ag3 rfl rfl rfl) ?_
 refine D_wr (.go (E' := [(13, _), (9, _), (7, _), (3, _), (1, _)]) rfl (.plain rfl) (w_callP rfl rfl rfl (fun w hg => rsize_c _ (by omega) w)) rfl ?_)
 rintro _ _ ⟨rfl, rfl⟩
 refine ⟨(.cons rfl (.plain rfl) (rl ag3 rfl rfl rfl) (.cons rfl (.plain rfl) (rl ag3 rfl rfl rfl) (.cons rfl (.plain rfl) (rl ag3 rfl rfl rfl) (.cons rfl (.plain rfl) (rl ag3 rfl rfl rfl) (.cons rfl (.plain rfl) (rl ag3 rfl rfl rfl) .nil))))), ?_⟩
 refine D_wr (.go (E' := [(13, _), (9, _), (7, _), (3, _), (1, _)]) rfl (.plain rfl) (w_callP rfl rfl rfl (fun w hg => rsize_c _ (by omega) w)) rfl ?_)
 rintro _ _ ⟨rfl, rfl⟩
 refine ⟨(.cons rfl (.plain rfl) (rl ag3 rfl rfl rfl) (.cons rfl (.plain rfl) (rl ag3 rfl rfl rfl) (.cons rfl (.plain rfl) (rl ag3 rfl rfl rfl) (.cons rfl (.plain rfl) (rl ag3 rfl rfl rfl) (.cons rfl (.plain rfl) (rl ag3 rfl rfl rfl) .nil))))), ?_⟩
 refine D_wr (.go (E' := [(9, _), (7, _), (3, _), (1, _)]) rfl (.plain rfl) (w_callP rfl rfl rfl (fun w hg => rsize_c _ (by omega) w)) rfl ?_)
 rintro _ _ ⟨rfl, rfl⟩
 refine ⟨(.cons rfl (.plain rfl) (rl ag3 rfl rfl rfl) (.cons rfl (.plain rfl) (rl ag3 rfl rfl rfl) (.cons rfl (.plain rfl) (rl ag3 rfl rfl rfl) (.cons rfl (.plain rfl) (rl ag3 rfl rfl rfl) .nil)))), ?_⟩
 refine Dp rfl rfl (p_max3 rfl rfl rfl rfl) ?_
 refine Dp rfl rfl (p_assign rfl rfl) ?_
 refine D_then (kp [6, 7] rfl) ?_
 refine Vs rfl ?_
 refine Lp rfl (p_fieldo fo132_3 rfl rfl) ?_
 refine Lr rfl (rl ag3 rfl rfl rfl) ?_
 refine Lp rfl (p_fieldo fo132_4 rfl rfl) ?_
 refine Lr rfl (rl ag3 rfl rfl rfl) ?_
 refine Lm rfl rfl rfl ?_
 first | refine Lp rfl (p_add' rfl rfl rfl (by unfold InI; omega)) ?_ | refine Lp rfl (p_add rfl rfl rfl) ?_
 first | refine Lp rfl (p_sub' rfl rfl rfl (by unfold InI; omega)) ?_ | refine Lp rfl (p_sub rfl rfl rfl) ?_
 first | refine Lp rfl (p_quo' rfl rfl rfl (by first | decide | omega) (by unfold InI; omega)) ?_ | refine Lp rfl (p_quo rfl rfl rfl (by first | decide | omega)) ?_
 first | refine Lp rfl (p_mul' rfl rfl rfl (by unfold InI; omega)) ?_ | refine Lp rfl (p_mul rfl rfl rfl) ?_
 first | refine Lp rfl (p_add' rfl rfl rfl (by unfold InI; omega)) ?_ | refine Lp rfl (p_add rfl rfl rfl) ?_
 refine La rfl rfl rfl ?_
 refine L_then (kp [4] rfl) ?_
 refine V_ret ?_
 refine Leave.nil (.tmp rfl .nil) ?_
 show Value.int .i64 _ = _
 simp only [widthT, farT, Task.trOf, Task.pl, Task.tr, apart_size, Int.sub_zero]
theorem rknown_c (t : Task) (v : Value) (w : World) (ht : TaskR w v t) (hG : GoodT t) (i now : Int) (hi0 : 0 ≤ i) (hi1 : i < t.plots.length) : FnP Tryz.prog 129 [v, .int .i64 i, .int .i64 now] w (.bool (knownB t now i.toNat)) := by
 have hT := ht
 obtain ⟨tv, pv, rfl, htr, hpl⟩ := ht.ex
 obtain ⟨ta, tc, rfl, htc, hte⟩ := htr.ex
 obtain ⟨pa, pc, rfl, hpc, hpe⟩ := hpl.ex
 have hltr := hT.ltr
 have hlpl := hT.lpl
 simp only [List.length_map] at hT htc hpc ⊢
 obtain ⟨hfrm, hspd, hacc⟩ := hG.nums
 have hpl60 := hG.h2
 have htr5 := hG.h1
 have hi : i.toNat < t.plots.length := by omega
 have pb := hG.plot hi
 have tb := hG.of hi
 obtain ⟨p1, p2, p3, p4, p5, p6⟩ := pb
 obtain ⟨q1, q2, q3, q4, q5⟩ := tb
 have b1 := far_bnd hG hi
 have b2 := km_bnd hG hi
 have b3 := grow_bnd hG hi
 simp only [farT, Task.trOf, Task.pl, Task.tr, apart_size, Int.sub_zero] at p1 p2 p3 p4 p5 p6 q1 q2 q3 q4 q5 b1 b2 b3
 obtain ⟨qa, rfl, hcp⟩ := hpe i.toNat _ (getD_cells (d := plZ) (by omega))
 obtain ⟨ra, rfl, hct⟩ := hte (t.plots.getD i.toNat plZ).tracker.toNat _ (getD_cells (d := trZ) (by omega))
 refine fn_pure Tryz.func129 rfl (by kernel_rfl) Tryz.ntmps129 Tryz.results129 rfl ?_
 refine Vs rfl ?_
 refine Lw rfl (w_box rfl rfl) ?_
 rintro _ _ ⟨b1, hb1, rfl, rfl⟩
 refine La rfl rfl rfl ?_
 refine L_then (kp [1, 2, 3] rfl) ?_
 refine V_seq (V_draw (.rd 0 (.rd 1 (.rd 2 (.rd 3 (.rd 4 (.rd 5 (.rd 6 (.rd 7 (.rd 8 (.rd 9 (.rd 10 (.rd 11 (.rd 12 (.rd 13 (.rd 14 (.rd 15 (.rd 16 (.rd 17 (.rd 18 (.rd 19 (.rd 20 .done))))))))))))))))))))) mixed (by kernel_rfl) rfl ?_)
 refine Dp rfl rfl (p_fieldo fo39_4 rfl rfl) ?_
 refine Dr rfl rfl (rl ag37 rfl rfl rfl) ?_
 refine Dm rfl rfl rfl rfl ?_
 refine Dp rfl rfl (p_idx es37 rfl rfl rfl (by omega) (by omega)) ?_
 refine Dp rfl rfl (p_field fo138_1 rfl rfl) ?_
 refine Dr rfl rfl (r_loadB ag3 rfl rfl (hcp 1 _ rfl) List.not_mem_nil) ?_
 refine Dp rfl rfl (p_fieldo fo39_3 rfl rfl) ?_
 refine Dr rfl rfl (rl ag36 rfl rfl rfl) ?_
 refine Dp rfl rfl (p_fieldo fo39_4 rfl rfl) ?_
 refine Dr rfl rfl (rl ag37 rfl rfl rfl) ?_
 refine Dm rfl rfl rfl rfl ?_
 refine Dp rfl rfl (p_idx es37 rfl rfl rfl (by omega) (by omega)) ?_
 refine Dp rfl rfl (p_field fo138_0 rfl rfl) ?_
 refine Dr rfl rfl (r_loadB ag3 rfl rfl (hcp 0 _ rfl) List.not_mem_nil) ?_
 refine Dp rfl rfl (p_idx es36 rfl rfl rfl (by omega) (by omega)) ?_
 refine Dp rfl rfl (p_field fo132_5 rfl rfl) ?_
 refine Dr rfl rfl (r_loadB ag3 rfl rfl (hct 5 _ rfl) List.not_mem_nil) ?_
 first | refine Dp rfl rfl (p_add' rfl rfl rfl (by unfold InI; omega)) ?_ | refine Dp rfl rfl (p_add rfl rfl rfl) ?_
 refine Dm rfl rfl rfl rfl ?_
 refine Dp rfl rfl (p_leq rfl rfl rfl) ?_
 refine Dp rfl rfl (p_assign rfl rfl) ?_
 refine D_then (kp [6] rfl) ?_
 refine V_ret ?_
 refine Leave.nil (.tmp rfl .nil) ?_
 rfl
theorem rreach_c (t : Task) (v : Value) (w : World) (ht : TaskR w v t) (hG : GoodT t) (n : Int) (hn : 0 ≤ n ∧ n ≤ 100000) : FnP Tryz.prog 138 [v, .int .i64 n] w (.int .i64 (reachT t n)) := by
 have hT := ht
 obtain ⟨tv, pv, rfl, htr, hpl⟩ := ht.ex
 obtain ⟨ta, tc, rfl, htc, hte⟩ := htr.ex
 obtain ⟨pa, pc, rfl, hpc, hpe⟩ := hpl.ex
 have hltr := hT.ltr
 have hlpl := hT.lpl
 simp only [List.length_map] at hT htc hpc ⊢
 obtain ⟨hfrm, hspd, hacc⟩ := hG.nums
 have hpl60 := hG.h2
 have htr5 := hG.h1
 have hb := reach_bnd hG hn
 have hcp := cap_bnd hG hn
 have hq := tdiv_bnd (b := t.accel) (by omega) (show 0 ≤ t.speed ∧ t.speed ≤ t.speed by omega)
 have h1 := mul_bnd (show 0 ≤ t.accel ∧ t.accel ≤ 1000000 by omega) (show 0 ≤ capT t n ∧ capT t n ≤ 100000 by omega)
 have h2 := mul_bnd h1 (show 0 ≤ capT t n + 1 ∧ capT t n + 1 ≤ 100001 by omega)
 have h3 := half_mul t.accel (m := capT t n)
 have h4 := Int.mul_comm (n - capT t n) t.speed
 simp only [capT] at hb hcp h1 h2 h3 h4
 refine fn_pure Tryz.func138 rfl (by kernel_rfl) Tryz.ntmps138 Tryz.results138 rfl ?_
 refine Vs rfl ?_
 refine Lw rfl (w_box rfl rfl) ?_
 rintro _ _ ⟨b1, hb1, rfl, rfl⟩
 refine La rfl rfl rfl ?_
 refine L_then (kp [1, 2] rfl) ?_
 refine Vs rfl ?_
 refine Lm rfl rfl rfl ?_
 refine Lp rfl (p_fieldo fo39_1 rfl rfl) ?_
 refine Lr rfl (rl ag3 rfl rfl rfl) ?_
 refine Lp rfl (p_fieldo fo39_2 rfl rfl) ?_
 refine Lr rfl (rl ag3 rfl rfl rfl) ?_
 first | refine Lp rfl (p_quo' rfl rfl rfl (by first | decide | omega) (by unfold InI; omega)) ?_ | refine Lp rfl (p_quo rfl rfl rfl (by first | decide | omega)) ?_
 refine Lp rfl (p_min rfl rfl rfl) ?_
 refine La rfl rfl rfl ?_
 refine L_then (kp [1, 2, 5] rfl) ?_
 refine Vs rfl ?_
 refine Lp rfl (p_fieldo fo39_2 rfl rfl) ?_
 refine Lr rfl (rl ag3 rfl rfl rfl) ?_
 refine Lm rfl rfl rfl ?_
 first | refine Lp rfl (p_mul' rfl rfl rfl (by unfold InI; omega)) ?_ | refine Lp rfl (p_mul rfl rfl rfl) ?_
 refine Lm rfl rfl rfl ?_
 first | refine Lp rfl (p_add' rfl rfl rfl (by unfold InI; omega)) ?_ | refine Lp rfl (p_add rfl rfl rfl) ?_
 first | refine Lp rfl (p_mul' rfl rfl rfl (by unfold InI; omega)) ?_ | refine Lp rfl (p_mul rfl rfl rfl) ?_
 first | refine Lp rfl (p_quo' rfl rfl rfl (by first | decide | omega) (by unfold InI; omega)) ?_ | refine Lp rfl (p_quo rfl rfl rfl (by first | decide | omega)) ?_
 refine Lp rfl (p_fieldo fo39_1 rfl rfl) ?_
 refine Lr rfl (rl ag3 rfl rfl rfl) ?_
 iterate 2 refine Lm rfl rfl rfl ?_
 first | refine Lp rfl (p_sub' rfl rfl rfl (by unfold InI; omega)) ?_ | refine Lp rfl (p_sub rfl rfl rfl) ?_
 first | refine Lp rfl (p_mul' rfl rfl rfl (by unfold InI; omega)) ?_ | refine Lp rfl (p_mul rfl rfl rfl) ?_
 first | refine Lp rfl (p_add' rfl rfl rfl (by unfold InI; omega)) ?_ | refine Lp rfl (p_add rfl rfl rfl) ?_
 refine La rfl rfl rfl ?_
 refine L_then (kp [4] rfl) ?_
 refine V_ret ?_
 refine Leave.nil (.tmp rfl .nil) ?_
 show Value.int .i64 _ = _
 rw [reachT_alt]; rfl

end Go.Proofs.YtlcccpeelombbaaGreatDoor

/- YtlcccpeelombbaaGreatDoor: the reference's places. -/
set_option linter.all false
namespace Go.Proofs.YtlcccpeelombbaaGreatDoor
open Go.Vc Go.Tk
set_option maxRecDepth 100000
theorem rpart_c (x : Plot) (k : Int) (w : World) : FnP Tryz.prog 139 [.agg (Plot.cells x).toArray, .int .i64 k] w (.int .i64 (partI x k)) := by
 refine fn_pure Tryz.func139 rfl (by kernel_rfl) Tryz.ntmps139 Tryz.results139 rfl ?_
 refine Vs rfl ?_
 refine Lw rfl (w_box rfl rfl) ?_
 rintro _ _ ⟨b1, hb1, rfl, rfl⟩
 refine La rfl rfl rfl ?_
 refine L_then (kp [1, 2] rfl) ?_
 refine V_seq ?_
 refine Vs rfl ?_
 refine Lm rfl rfl rfl ?_
 refine Lp rfl (p_eql rfl rfl rfl) ?_
 refine L_then (kp [1, 2, 6] rfl) ?_
 refine V_cond rfl ?_ ?_
 ·intro c1; try simp only [td] at c1
  refine Vs rfl ?_
  refine Lp rfl (p_fieldo fo138_2 rfl rfl) ?_
  refine Lr rfl (rl ag3 rfl rfl rfl) ?_
  refine La rfl rfl rfl ?_
  refine L_then (kp [4] rfl) ?_
  refine V_ret (then_r ?_)
  refine Leave.nil (.tmp rfl .nil) ?_
  simp [tup, partI, *]
 intro c1; try simp only [td] at c1
 refine V_skip (then_n ?_)
 refine V_seq ?_
 refine Vs rfl ?_
 refine Lm rfl rfl rfl ?_
 refine Lp rfl (p_eql rfl rfl rfl) ?_
 refine L_then (kp [2, 10] rfl) ?_
 refine V_cond rfl ?_ ?_
 ·intro c2; try simp only [td] at c2
  refine Vs rfl ?_
  refine Lp rfl (p_fieldo fo138_3 rfl rfl) ?_
  refine Lr rfl (rl ag3 rfl rfl rfl) ?_
  refine La rfl rfl rfl ?_
  refine L_then (kp [4] rfl) ?_
  refine V_ret (then_r ?_)
  refine Leave.nil (.tmp rfl .nil) ?_
  simp [tup, partI, *]
 intro c2; try simp only [td] at c2
 refine V_skip (then_n ?_)
 refine Vs rfl ?_
 refine Lp rfl (p_fieldo fo138_4 rfl rfl) ?_
 refine Lr rfl (rl ag3 rfl rfl rfl) ?_
 refine La rfl rfl rfl ?_
 refine L_then (kp [4] rfl) ?_
 refine V_ret ?_
 refine Leave.nil (.tmp rfl .nil) ?_
 simp [tup, partI, *]
theorem rcommon_c (a b c d : Int) (w : World) : FnP Tryz.prog 120 [.agg #[.int .i64 a, .int .i64 b], .agg #[.int .i64 c, .int .i64 d]] w (.agg #[.int .i64 (max a c), .int .i64 (min b d)]) := by
 refine fn_pure Tryz.func120 rfl (by kernel_rfl) Tryz.ntmps120 Tryz.results120 rfl ?_
 refine Vs rfl ?_
 refine Lw rfl (w_box rfl rfl) ?_
 rintro _ _ ⟨b1, hb1, rfl, rfl⟩
 refine Lw rfl (w_box rfl rfl) ?_
 rintro _ _ ⟨b2, hb2, rfl, rfl⟩
 refine Lw rfl (w_alloc zr24 rfl) ?_
 rintro _ _ ⟨b3, hb3, rfl, rfl⟩
 refine L_then (kp [2, 3, 4] rfl) ?_
 refine Vs rfl ?_
 refine Lp rfl (p_fieldo fo24_0 rfl rfl) ?_
 refine Lr rfl (rl ag3 rfl rfl rfl) ?_
 refine Lp rfl (p_fieldo fo24_0 rfl rfl) ?_
 refine Lr rfl (rl ag3 rfl rfl rfl) ?_
 refine Lp rfl (p_max rfl rfl rfl) ?_
 refine Lp rfl (p_fieldo fo24_1 rfl rfl) ?_
 refine Lr rfl (rl ag3 rfl rfl rfl) ?_
 refine Lp rfl (p_fieldo fo24_1 rfl rfl) ?_
 refine Lr rfl (rl ag3 rfl rfl rfl) ?_
 refine Lp rfl (p_min rfl rfl rfl) ?_
 refine Lp rfl (p_build (r := [_, _]) pl24 zr24 rfl rfl rfl) ?_
 refine Ls (cs' := [_, _]) rfl sz24 rfl rfl rfl rfl rfl rfl rfl ?_
 refine L_then (kp [4] rfl) ?_
 refine V_ret ?_
 refine Leave.nil (.cellA (us := [_, _]) rfl ag24 sz24 (by repeat first | exact mH | apply mT) rfl .nil) ?_
 rfl
theorem raround_c (n d : Int) (hn : -1000000000000000000 ≤ n ∧ n ≤ 1000000000000000000) (hd : -1000000000000000000 ≤ d ∧ d ≤ 1000000000000000000) (w : World) : FnP Tryz.prog 119 [.int .i64 n, .int .i64 d] w (.agg #[.int .i64 (n - d), .int .i64 (n + d)]) := by
 refine fn_pure Tryz.func119 rfl (by kernel_rfl) Tryz.ntmps119 Tryz.results119 rfl ?_
 refine Vs rfl ?_
 refine Lw rfl (w_alloc zr24 rfl) ?_
 rintro _ _ ⟨b1, hb1, rfl, rfl⟩
 refine L_then (kp [0, 1, 4] rfl) ?_
 refine Vs rfl ?_
 iterate 2 refine Lm rfl rfl rfl ?_
 first | refine Lp rfl (p_sub' rfl rfl rfl (by unfold InI; omega)) ?_ | refine Lp rfl (p_sub rfl rfl rfl) ?_
 iterate 2 refine Lm rfl rfl rfl ?_
 first | refine Lp rfl (p_add' rfl rfl rfl (by unfold InI; omega)) ?_ | refine Lp rfl (p_add rfl rfl rfl) ?_
 refine Lp rfl (p_build (r := [_, _]) pl24 zr24 rfl rfl rfl) ?_
 refine Ls (cs' := [_, _]) rfl sz24 rfl rfl rfl rfl rfl rfl rfl ?_
 refine L_then (kp [4] rfl) ?_
 refine V_ret ?_
 refine Leave.nil (.cellA (us := [_, _]) rfl ag24 sz24 (by repeat first | exact mH | apply mT) rfl .nil) ?_
 rfl
theorem rnone_c (lo hi : Int) (w : World) : FnP Tryz.prog 63 [.agg #[.int .i64 lo, .int .i64 hi]] w (.bool (Span.none ⟨lo, hi⟩)) := by
 refine fn_pure Tryz.func63 rfl (by kernel_rfl) Tryz.ntmps63 Tryz.results63 rfl ?_
 refine Vs rfl ?_
 refine Lw rfl (w_box rfl rfl) ?_
 rintro _ _ ⟨b1, hb1, rfl, rfl⟩
 refine La rfl rfl rfl ?_
 refine L_then (kp [1] rfl) ?_
 refine Vs rfl ?_
 refine Lp rfl (p_fieldo fo24_0 rfl rfl) ?_
 refine Lr rfl (rl ag3 rfl rfl rfl) ?_
 refine Lp rfl (p_fieldo fo24_1 rfl rfl) ?_
 refine Lr rfl (rl ag3 rfl rfl rfl) ?_
 refine Lp rfl (p_gtr rfl rfl rfl) ?_
 refine La rfl rfl rfl ?_
 refine L_then (kp [2] rfl) ?_
 refine V_ret ?_
 refine Leave.nil (.tmp rfl .nil) ?_
 rfl
theorem rsizeA_c (a b : Int) (h : (-1000000000000000 ≤ a - b ∧ a - b ≤ 1000000000000000)) (w : World) : FnP Tryz.prog 65 [.int .i64 (a - b)] w (.int .i64 (apartI a b)) := by
 rw [apart_size]; exact rsize_c _ (by omega) w
set_option maxHeartbeats 4000000 in
theorem rplaces_c (t : Task) (v : Value) (ps : List Int) (sv : Value) (w : World) (ht : TaskR w v t) (hs : SliceR w 1 sv (ps.map fun n => [Value.int .i64 n])) (hG : GoodT t) (hp : ∀ i ∈ ps, 0 ≤ i ∧ i < t.plots.length) (hl : ps.length ≤ 60) (k u : Int) (hu : u ≤ 100000) : FnP Tryz.prog 127 [v, sv, .int .i64 k, .int .i64 u] w (.agg #[.int .i64 (placeT t ps k u).lo, .int .i64 (placeT t ps k u).hi]) := by
 have hT := ht
 obtain ⟨tv, pv, rfl, htr, hpl⟩ := ht.ex
 obtain ⟨ta, tc, rfl, htc, hte⟩ := htr.ex
 obtain ⟨pa, pc, rfl, hpc, hpe⟩ := hpl.ex
 have hltr := hT.ltr
 have hlpl := hT.lpl
 simp only [List.length_map] at hT htc hpc ⊢
 have hS := hs
 obtain ⟨sa, sc, rfl, hsc, hse⟩ := hs.ex
 obtain ⟨hfrm, hspd, hacc⟩ := hG.nums
 have hpl60 := hG.h2
 simp only [List.length_map] at hS hsc ⊢
 refine fn_pure Tryz.func127 rfl (by kernel_rfl) Tryz.ntmps127 Tryz.results127 rfl ?_
 refine Vs rfl ?_
 refine Lw rfl (w_box rfl rfl) ?_
 rintro _ _ ⟨b1, hb1, rfl, rfl⟩
 refine Lw rfl (w_alloc zr24 rfl) ?_
 rintro _ _ ⟨b2, hb2, rfl, rfl⟩
 refine L_then (kp [1, 2, 3, 4, 8] rfl) ?_
 refine V_seq ?_
 refine Vs rfl ?_
 refine Lm rfl rfl rfl ?_
 refine Lp rfl (p_fieldo fo39_0 rfl rfl) ?_
 refine Lr rfl (rl ag3 rfl rfl rfl) ?_
 refine Lp rfl (p_leq rfl rfl rfl) ?_
 refine L_then (kp [1, 2, 3, 4, 8, 15] rfl) ?_
 refine V_cond rfl ?_ ?_
 ·intro c1; try simp only [td] at c1
  refine Vs rfl ?_
  refine Lp rfl (p_build (r := [_, _]) pl24 zr24 rfl rfl rfl) ?_
  refine Ls (cs' := [_, _]) rfl sz24 rfl rfl rfl rfl rfl rfl rfl ?_
  refine L_then (kp [8] rfl) ?_
  refine V_ret (then_r ?_)
  refine Leave.nil (.cellA (us := [_, _]) rfl ag24 sz24 (by repeat first | exact mH | apply mT) rfl .nil) ?_
  rw [placeT, if_neg (by omega)]; rfl
 intro c1; try simp only [td] at c1
 have hrb := reachT_bnd hG (n := u - t.frm) (by omega)
 refine V_skip (then_n ?_)
 refine V_mid (γ := Nat) (kp [1, 2, 3, 4, 8] rfl) (fun x9 => [(9, .pointer (some ⟨x9, 0, none⟩))]) (fun x9 => [(x9, .cells #[.int .i64 (common (aroundS 0 2000000000) (aroundS 0 (reachT t (u - t.frm)))).lo, .int .i64 (common (aroundS 0 2000000000) (aroundS 0 (reachT t (u - t.frm)))).hi] 24), (b2, .cells #[.int .i64 0, .int .i64 0] 24), (b1, t.obj (.slice ta t.trackers.length tc) (.slice pa t.plots.length pc) 39)]) (fun x9 => True) ?_ ?_
 ·refine V_draw (.rd 1 (.rd 2 (.rd 3 (.rd 4 (.rd 5 (.wr2 0 [5, 4, 3, 2, 1] (.wr2 6 [4, 3, 2] (.wr2 7 [5, 4, 3, 2, 1] (.wr2 8 [5, 4, 3, 2, 1] (.wr 9 [5, 4, 3, 2, 1] (.wr 10 [] .done)) 9 [5, 4, 3, 2, 1] (.wr 8 [5, 4, 3, 2, 1] (.wr 10 [] .done))) 9 [5, 4, 3, 2, 1] (.wr 7 [5, 4, 3, 2, 1] (.wr 8 [5, 4, 3, 2, 1] (.wr 10 [] .done)))) 9 [5, 4, 3, 2, 1] (.wr 6 [4, 3, 2] (.wr 7 [5, 4, 3, 2, 1] (.wr 8 [5, 4, 3, 2, 1] (.wr 10 [] .done))))) 9 [5, 4, 3, 2, 1] (.wr 0 [5, 4, 3, 2, 1] (.wr 6 [4, 3, 2] (.wr 7 [5, 4, 3, 2, 1] (.wr 8 [5, 4, 3, 2, 1] (.wr 10 [] .done))))))))))) mixed (by kernel_rfl) rfl ?_
  refine Dr rfl rfl (rlA (vs := [_, _, _, _, _]) ag39 sz39 rfl rfl rfl) ?_
  refine Dm rfl rfl rfl rfl ?_
  refine Dp rfl rfl (p_fieldo fo39_0 rfl rfl) ?_
  refine Dr rfl rfl (rl ag3 rfl rfl rfl) ?_
  first | refine Dp rfl rfl (p_sub' rfl rfl rfl (by unfold InI; omega)) ?_ | refine Dp rfl rfl (p_sub rfl rfl rfl) ?_
  refine D_wr2 rfl ?_ ?_
  ·refine (.go (E' := [(4, _), (1, _)]) rfl (.plain rfl) (w_callP rfl rfl rfl (fun w hg => raround_c _ _ (by omega) (by omega) w)) rfl ?_)
   rintro _ _ ⟨rfl, rfl⟩
   refine ⟨(.cons rfl (.plain rfl) (rl ag3 rfl rfl rfl) (.cons rfl (.plain rfl) (rlA (vs := [_, _, _, _, _]) ag39 sz39 rfl rfl rfl) .nil)), ?_⟩
   refine D_wr2 rfl ?_ ?_
   ·refine (.go (E' := [(4, _)]) rfl (.plain rfl) (w_callP rfl rfl rfl (fun w hg => rreach_c t _ w (hT.good hg) hG _ (by omega))) rfl ?_)
    rintro _ _ ⟨rfl, rfl⟩
    refine ⟨(.cons rfl (.plain rfl) (rl ag3 rfl rfl rfl) .nil), ?_⟩
    refine D_wr2 rfl ?_ ?_
    ·refine (.go (E' := [(4, _)]) rfl (.plain rfl) (w_callP rfl rfl rfl (fun w hg => raround_c _ _ (by omega) (by omega) w)) rfl ?_)
     rintro _ _ ⟨rfl, rfl⟩
     refine ⟨(.cons rfl (.plain rfl) (rl ag3 rfl rfl rfl) .nil), ?_⟩
     refine D_wr2 rfl ?_ ?_
     ·refine (.go (E' := [(4, _)]) rfl (.plain rfl) (w_callP rfl rfl rfl (fun w hg => rcommon_c _ _ _ _ w)) rfl ?_)
      rintro _ _ ⟨rfl, rfl⟩
      refine ⟨(.cons rfl (.plain rfl) (rl ag3 rfl rfl rfl) .nil), ?_⟩
      refine D_wr (.go (E' := [(4, _)]) rfl (.plain rfl) (w_alloc zr24 rfl) rfl ?_)
      rintro _ _ ⟨b3, hb3, rfl, rfl⟩
      refine ⟨(.cons rfl (.plain rfl) (rl ag3 rfl rfl rfl) .nil), ?_⟩
      refine D_wr (.go (E' := []) rfl (.plain rfl) (ws (cs' := [_, _]) sz24 rfl rfl rfl rfl rfl rfl rfl) rfl ?_)
      rintro _ _ ⟨rfl, rfl⟩
      refine ⟨.nil, ?_⟩
      refine D_then (kp [1, 2, 3, 4, 8, 9] rfl) ?_
      refine ⟨b3, trivial, (.cons rfl (.cons rfl (.cons rfl (.cons rfl (.cons rfl (.cons rfl (.nil _))))))), (by (try dsimp only); repeat (first | exact HSub.nil _ | refine HSub.take (by repeat first | exact Take.head | apply Take.tail) ?_ | exact HSub.refl _ | refine HSub.drop ?_ | refine HSub.app ?_)), rfl⟩
     refine (.go (E' := [(4, _)]) rfl (.plain rfl) (w_alloc zr24 rfl) rfl ?_)
     rintro _ _ ⟨b3, hb3, rfl, rfl⟩
     refine ⟨(.cons rfl (.plain rfl) (rl ag3 rfl rfl rfl) .nil), ?_⟩
     refine D_wr (.go (E' := [(4, _)]) rfl (.plain rfl) (w_callP rfl rfl rfl (fun w hg => rcommon_c _ _ _ _ w)) rfl ?_)
     rintro _ _ ⟨rfl, rfl⟩
     refine ⟨(.cons rfl (.plain rfl) (rl ag3 rfl rfl rfl) .nil), ?_⟩
     refine D_wr (.go (E' := []) rfl (.plain rfl) (ws (cs' := [_, _]) sz24 rfl rfl rfl rfl rfl rfl rfl) rfl ?_)
     rintro _ _ ⟨rfl, rfl⟩
     refine ⟨.nil, ?_⟩
     refine D_then (kp [1, 2, 3, 4, 8, 9] rfl) ?_
     refine ⟨b3, trivial, (.cons rfl (.cons rfl (.cons rfl (.cons rfl (.cons rfl (.cons rfl (.nil _))))))), (by (try dsimp only); repeat (first | exact HSub.nil _ | refine HSub.take (by repeat first | exact Take.head | apply Take.tail) ?_ | exact HSub.refl _ | refine HSub.drop ?_ | refine HSub.app ?_)), rfl⟩
    refine (.go (E' := [(4, _)]) rfl (.plain rfl) (w_alloc zr24 rfl) rfl ?_)
    rintro _ _ ⟨b3, hb3, rfl, rfl⟩
    refine ⟨(.cons rfl (.plain rfl) (rl ag3 rfl rfl rfl) .nil), ?_⟩
    refine D_wr (.go (E' := [(4, _)]) rfl (.plain rfl) (w_callP rfl rfl rfl (fun w hg => raround_c _ _ (by omega) (by omega) w)) rfl ?_)
    rintro _ _ ⟨rfl, rfl⟩
    refine ⟨(.cons rfl (.plain rfl) (rl ag3 rfl rfl rfl) .nil), ?_⟩
    refine D_wr (.go (E' := [(4, _)]) rfl (.plain rfl) (w_callP rfl rfl rfl (fun w hg => rcommon_c _ _ _ _ w)) rfl ?_)
    rintro _ _ ⟨rfl, rfl⟩
    refine ⟨(.cons rfl (.plain rfl) (rl ag3 rfl rfl rfl) .nil), ?_⟩
    refine D_wr (.go (E' := []) rfl (.plain rfl) (ws (cs' := [_, _]) sz24 rfl rfl rfl rfl rfl rfl rfl) rfl ?_)
    rintro _ _ ⟨rfl, rfl⟩
    refine ⟨.nil, ?_⟩
    refine D_then (kp [1, 2, 3, 4, 8, 9] rfl) ?_
    refine ⟨b3, trivial, (.cons rfl (.cons rfl (.cons rfl (.cons rfl (.cons rfl (.cons rfl (.nil _))))))), (by (try dsimp only); repeat (first | exact HSub.nil _ | refine HSub.take (by repeat first | exact Take.head | apply Take.tail) ?_ | exact HSub.refl _ | refine HSub.drop ?_ | refine HSub.app ?_)), rfl⟩
   refine (.go (E' := [(4, _), (1, _)]) rfl (.plain rfl) (w_alloc zr24 rfl) rfl ?_)
   rintro _ _ ⟨b3, hb3, rfl, rfl⟩
   refine ⟨(.cons rfl (.plain rfl) (rl ag3 rfl rfl rfl) (.cons rfl (.plain rfl) (rlA (vs := [_, _, _, _, _]) ag39 sz39 rfl rfl rfl) .nil)), ?_⟩
   refine D_wr (.go (E' := [(4, _)]) rfl (.plain rfl) (w_callP rfl rfl rfl (fun w hg => rreach_c t _ w (hT.good hg) hG _ (by omega))) rfl ?_)
   rintro _ _ ⟨rfl, rfl⟩
   refine ⟨(.cons rfl (.plain rfl) (rl ag3 rfl rfl rfl) .nil), ?_⟩
   refine D_wr (.go (E' := [(4, _)]) rfl (.plain rfl) (w_callP rfl rfl rfl (fun w hg => raround_c _ _ (by omega) (by omega) w)) rfl ?_)
   rintro _ _ ⟨rfl, rfl⟩
   refine ⟨(.cons rfl (.plain rfl) (rl ag3 rfl rfl rfl) .nil), ?_⟩
   refine D_wr (.go (E' := [(4, _)]) rfl (.plain rfl) (w_callP rfl rfl rfl (fun w hg => rcommon_c _ _ _ _ w)) rfl ?_)
   rintro _ _ ⟨rfl, rfl⟩
   refine ⟨(.cons rfl (.plain rfl) (rl ag3 rfl rfl rfl) .nil), ?_⟩
   refine D_wr (.go (E' := []) rfl (.plain rfl) (ws (cs' := [_, _]) sz24 rfl rfl rfl rfl rfl rfl rfl) rfl ?_)
   rintro _ _ ⟨rfl, rfl⟩
   refine ⟨.nil, ?_⟩
   refine D_then (kp [1, 2, 3, 4, 8, 9] rfl) ?_
   refine ⟨b3, trivial, (.cons rfl (.cons rfl (.cons rfl (.cons rfl (.cons rfl (.cons rfl (.nil _))))))), (by (try dsimp only); repeat (first | exact HSub.nil _ | refine HSub.take (by repeat first | exact Take.head | apply Take.tail) ?_ | exact HSub.refl _ | refine HSub.drop ?_ | refine HSub.app ?_)), rfl⟩
  refine (.go (E' := [(4, _), (1, _)]) rfl (.plain rfl) (w_alloc zr24 rfl) rfl ?_)
  rintro _ _ ⟨b3, hb3, rfl, rfl⟩
  refine ⟨(.cons rfl (.plain rfl) (rl ag3 rfl rfl rfl) (.cons rfl (.plain rfl) (rlA (vs := [_, _, _, _, _]) ag39 sz39 rfl rfl rfl) .nil)), ?_⟩
  refine D_wr (.go (E' := [(4, _), (1, _)]) rfl (.plain rfl) (w_callP rfl rfl rfl (fun w hg => raround_c _ _ (by omega) (by omega) w)) rfl ?_)
  rintro _ _ ⟨rfl, rfl⟩
  refine ⟨(.cons rfl (.plain rfl) (rl ag3 rfl rfl rfl) (.cons rfl (.plain rfl) (rlA (vs := [_, _, _, _, _]) ag39 sz39 rfl rfl rfl) .nil)), ?_⟩
  refine D_wr (.go (E' := [(4, _)]) rfl (.plain rfl) (w_callP rfl rfl rfl (fun w hg => rreach_c t _ w (hT.good hg) hG _ (by omega))) rfl ?_)
  rintro _ _ ⟨rfl, rfl⟩
  refine ⟨(.cons rfl (.plain rfl) (rl ag3 rfl rfl rfl) .nil), ?_⟩
  refine D_wr (.go (E' := [(4, _)]) rfl (.plain rfl) (w_callP rfl rfl rfl (fun w hg => raround_c _ _ (by omega) (by omega) w)) rfl ?_)
  rintro _ _ ⟨rfl, rfl⟩
  refine ⟨(.cons rfl (.plain rfl) (rl ag3 rfl rfl rfl) .nil), ?_⟩
  refine D_wr (.go (E' := [(4, _)]) rfl (.plain rfl) (w_callP rfl rfl rfl (fun w hg => rcommon_c _ _ _ _ w)) rfl ?_)
  rintro _ _ ⟨rfl, rfl⟩
  refine ⟨(.cons rfl (.plain rfl) (rl ag3 rfl rfl rfl) .nil), ?_⟩
  refine D_wr (.go (E' := []) rfl (.plain rfl) (ws (cs' := [_, _]) sz24 rfl rfl rfl rfl rfl rfl rfl) rfl ?_)
  rintro _ _ ⟨rfl, rfl⟩
  refine ⟨.nil, ?_⟩
  refine D_then (kp [1, 2, 3, 4, 8, 9] rfl) ?_
  refine ⟨b3, trivial, (.cons rfl (.cons rfl (.cons rfl (.cons rfl (.cons rfl (.cons rfl (.nil _))))))), (by (try dsimp only); repeat (first | exact HSub.nil _ | refine HSub.take (by repeat first | exact Take.head | apply Take.tail) ?_ | exact HSub.refl _ | refine HSub.drop ?_ | refine HSub.app ?_)), rfl⟩
 rintro x9 _
 refine V_seq ?_
 refine Vs rfl ?_
 refine La rfl rfl rfl ?_
 refine L_then (kp [1, 2, 3, 4, 8, 9, 10] rfl) ?_
 refine V_block ?_
 refine V_loop1 (γ := Int × Span) (kp [1, 2, 3, 4, 8, 9] rfl) (fun (j, s) => [(10, .int .i64 j)]) (fun (j, s) => [(x9, .cells #[.int .i64 s.lo, .int .i64 s.hi] 24), (b2, .cells #[.int .i64 0, .int .i64 0] 24), (b1, t.obj (.slice ta t.trackers.length tc) (.slice pa t.plots.length pc) 39)]) (fun (j, s) => 0 ≤ j ∧ j ≤ ps.length ∧ s = (ps.take j.toNat).foldl (fun s i => common s (plotS t k u i)) (room0 (min 2000000000 (reachT t (u - t.frm))))) (fun (j, s) => (ps.length - j).toNat) ((0, (common (aroundS 0 2000000000) (aroundS 0 (reachT t (u - t.frm)))))) (.cons rfl (.nil _)) (by repeat (first | exact List.Sublist.refl _ | apply List.Sublist.cons_cons | apply List.Sublist.cons)) (⟨by omega, by omega, room0_common⟩) ?_
 rintro ⟨j, s⟩ hi
 obtain ⟨hj0, hj1, hsj⟩ := hi
 refine V_seq ?_
 refine Vs rfl ?_
 iterate 2 refine Lm rfl rfl rfl ?_
 refine Lp rfl (p_len isl53 rfl rfl) ?_
 refine Lp rfl (p_lss rfl rfl rfl) ?_
 refine L_then (kp [1, 2, 3, 4, 8, 9, 10, 29] rfl) ?_
 refine V_cond rfl ?_ ?_
 ·intro c2; try simp only [td] at c2
  obtain ⟨sb, rfl, hcs⟩ := hse j.toNat _ (getD_cells (f := fun n : Int => [Value.int .i64 n]) (d := 0) (by omega))
  have hib := hp (ps.getD j.toNat 0) (getD_mem (by omega))
  have hii : (ps.getD j.toNat 0).toNat < t.plots.length := by omega
  obtain ⟨pb, rfl, hcp⟩ := hpe (ps.getD j.toNat 0).toNat _ (getD_cells (d := plZ) (by omega))
  have hsl := slack_bnd hG hii (show 0 ≤ u ∧ u ≤ 100000 by omega)
  have hwd := width_bnd hG hii
  have hpt := part_bnd hG hii k
  have htk := (hG.plot hii).tick
  have hsl0 : slackT t u (ps.getD j.toNat 0).toNat = widthT t (ps.getD j.toNat 0).toNat + t.speed * apartI (t.pl (ps.getD j.toNat 0).toNat).tick u := rfl
  simp only [Task.pl] at hsl htk hsl0 hpt
  refine V_skip (then_n ?_)
  refine V_seq ?_
  refine V_block ?_
  refine V_seq (V_draw (.rd 0 (.rd 1 (.rd 2 (.rd 3 (.rd 4 (.rd 5 (.rd 6 (.rd 7 (.wr 8 [7, 6, 5, 4, 3, 2, 1, 0] (.wr 9 [] .done)))))))))) mixed (by kernel_rfl) rfl ?_)
  refine Dp rfl rfl (p_fieldo fo39_4 rfl rfl) ?_
  refine Dr rfl rfl (rl ag37 rfl rfl rfl) ?_
  iterate 2 refine Dm rfl rfl rfl rfl ?_
  refine Dp rfl rfl (p_idx es53 rfl rfl rfl (by omega) (by omega)) ?_
  refine Dr rfl rfl (r_loadB ag3 rfl rfl hcs.zero List.not_mem_nil) ?_
  refine Dp rfl rfl (p_idx es37 rfl rfl rfl (by omega) (by omega)) ?_
  refine Dr rfl rfl (r_loadBA ag138 sz138 rfl rfl hcp rfl List.not_mem_nil) ?_
  refine D_wr (.go (E' := [(7, _), (5, _), (1, _)]) rfl (.plain rfl) (w_alloc zr138 rfl) rfl ?_)
  rintro _ _ ⟨b3, hb3, rfl, rfl⟩
  refine ⟨(.cons rfl (.plain rfl) (r_loadBA ag138 sz138 rfl rfl hcp rfl List.not_mem_nil) (.cons rfl (.plain rfl) (r_loadB ag3 rfl rfl hcs.zero List.not_mem_nil) (.cons rfl (.plain rfl) (rl ag37 rfl rfl rfl) .nil))), ?_⟩
  refine D_wr (.go (E' := []) rfl (.plain rfl) (ws (cs' := [_, _, _, _, _]) sz138 rfl rfl rfl rfl rfl rfl rfl) rfl ?_)
  rintro _ _ ⟨rfl, rfl⟩
  refine ⟨.nil, ?_⟩
  refine D_then (kp [1, 2, 3, 4, 8, 9, 10, 11] rfl) ?_
  refine V_draw (.rd 0 (.rd 1 (.rd 2 (.rd 4 (.rd 5 (.rd 6 (.rd 7 (.rd 8 (.rd 10 (.rd 11 (.rd 12 (.rd 13 (.rd 14 (.rd 15 (.wr 3 [15, 14, 13, 12, 11, 10, 8, 7, 6, 5, 4, 0] (.wr 9 [15, 14, 13, 12, 11, 10, 7, 6, 5, 2, 1, 0] (.wr 16 [14, 13, 12, 11, 10, 8, 7, 6, 5, 4, 2, 1, 0] (.rd 17 (.rd 18 (.wr 19 [17, 15, 14, 13, 12, 11, 10, 8, 7, 6, 5, 4, 2, 1, 0] (.wr 20 [18, 17, 15, 14, 13, 12, 11, 10, 8, 7, 6, 5, 4, 2, 1] (.wr 21 [] .done)))))))))))))))))))))) mixed (by kernel_rfl) rfl ?_
  refine Dr rfl rfl (rlA (vs := [_, _]) ag24 sz24 rfl rfl rfl) ?_
  refine Dr rfl rfl (rlA (vs := [_, _, _, _, _]) ag138 sz138 rfl rfl rfl) ?_
  refine Dm rfl rfl rfl rfl ?_
  refine Dr rfl rfl (rlA (vs := [_, _, _, _, _]) ag39 sz39 rfl rfl rfl) ?_
  iterate 2 refine Dm rfl rfl rfl rfl ?_
  refine Dp rfl rfl (p_idx es53 rfl rfl rfl (by omega) (by omega)) ?_
  refine Dr rfl rfl (r_loadB ag3 rfl rfl hcs.zero List.not_mem_nil) ?_
  refine Dp rfl rfl (p_fieldo fo39_1 rfl rfl) ?_
  refine Dr rfl rfl (rl ag3 rfl rfl rfl) ?_
  refine Dp rfl rfl (p_fieldo fo138_1 rfl rfl) ?_
  refine Dr rfl rfl (rl ag3 rfl rfl rfl) ?_
  refine Dm rfl rfl rfl rfl ?_
  first | refine Dp rfl rfl (p_sub' rfl rfl rfl (by unfold InI; omega)) ?_ | refine Dp rfl rfl (p_sub rfl rfl rfl) ?_
  refine D_wr (.go (E' := [(13, _), (11, _), (8, _), (4, _), (0, _)]) rfl (.plain rfl) (w_callP rfl rfl rfl (fun w hg => rpart_c (t.plots.getD (ps.getD j.toNat 0).toNat plZ) k w)) rfl ?_)
  rintro _ _ ⟨rfl, rfl⟩
  refine ⟨(.cons rfl (.plain rfl) (rl ag3 rfl rfl rfl) (.cons rfl (.plain rfl) (rl ag3 rfl rfl rfl) (.cons rfl (.plain rfl) (r_loadB ag3 rfl rfl hcs.zero List.not_mem_nil) (.cons rfl (.plain rfl) (rlA (vs := [_, _, _, _, _]) ag39 sz39 rfl rfl rfl) (.cons rfl (.plain rfl) (rlA (vs := [_, _]) ag24 sz24 rfl rfl rfl) .nil))))), ?_⟩
  refine D_wr (.go (E' := [(13, _), (11, _), (0, _)]) rfl (.plain rfl) (w_callP rfl rfl rfl (fun w hg => rwidth_c t _ w (hT.good hg) hG (ps.getD j.toNat 0) hib.1 hib.2)) rfl ?_)
  rintro _ _ ⟨rfl, rfl⟩
  refine ⟨(.cons rfl (.plain rfl) (rl ag3 rfl rfl rfl) (.cons rfl (.plain rfl) (rl ag3 rfl rfl rfl) (.cons rfl (.plain rfl) (rlA (vs := [_, _]) ag24 sz24 rfl rfl rfl) .nil))), ?_⟩
  refine D_wr (.go (E' := [(13, _), (11, _), (0, _)]) rfl (.plain rfl) (w_callP rfl rfl rfl (fun w hg => rsizeA_c _ _ (by omega) w)) rfl ?_)
  rintro _ _ ⟨rfl, rfl⟩
  refine ⟨(.cons rfl (.plain rfl) (rl ag3 rfl rfl rfl) (.cons rfl (.plain rfl) (rl ag3 rfl rfl rfl) (.cons rfl (.plain rfl) (rlA (vs := [_, _]) ag24 sz24 rfl rfl rfl) .nil))), ?_⟩
  first | refine Dp rfl rfl (p_mul' rfl rfl rfl (by unfold InI; omega)) ?_ | refine Dp rfl rfl (p_mul rfl rfl rfl) ?_
  first | refine Dp rfl rfl (p_add' rfl rfl rfl (by unfold InI; omega)) ?_ | refine Dp rfl rfl (p_add rfl rfl rfl) ?_
  refine D_wr (.go (E' := [(13, _), (11, _), (0, _)]) rfl (.plain rfl) (w_callP rfl rfl rfl (fun w hg => raround_c _ _ (by omega) (by omega) w)) rfl ?_)
  rintro _ _ ⟨rfl, rfl⟩
  refine ⟨(.cons rfl (.plain rfl) (rl ag3 rfl rfl rfl) (.cons rfl (.plain rfl) (rl ag3 rfl rfl rfl) (.cons rfl (.plain rfl) (rlA (vs := [_, _]) ag24 sz24 rfl rfl rfl) .nil))), ?_⟩
  refine D_wr (.go (E' := [(13, _), (11, _)]) rfl (.plain rfl) (w_callP rfl rfl rfl (fun w hg => rcommon_c _ _ _ _ w)) rfl ?_)
  rintro _ _ ⟨rfl, rfl⟩
  refine ⟨(.cons rfl (.plain rfl) (rl ag3 rfl rfl rfl) (.cons rfl (.plain rfl) (rl ag3 rfl rfl rfl) .nil)), ?_⟩
  refine D_wr (.go (E' := []) rfl (.plain rfl) (ws (cs' := [_, _]) sz24 rfl rfl rfl rfl rfl rfl rfl) rfl ?_)
  rintro _ _ ⟨rfl, rfl⟩
  refine ⟨.nil, ?_⟩
  refine D_keep (kp [1, 2, 3, 4, 8, 9, 10] rfl) (blk_n (then_n ?_))
  refine V_region rfl ?_
  refine Lm rfl rfl rfl ?_
  first | refine Lp rfl (p_add' rfl rfl rfl (by unfold InI; omega)) ?_ | refine Lp rfl (p_add rfl rfl rfl) ?_
  refine La rfl rfl rfl ?_
  refine L_keep (kp [1, 2, 3, 4, 8, 9, 10] rfl) (then_n ?_)
  refine ⟨(j + 1, common s (plotS t k u (ps.getD j.toNat 0))), ?_, ?_, (.cons rfl (.cons rfl (.cons rfl (.cons rfl (.cons rfl (.cons rfl (.cons rfl (.nil _)))))))), (by repeat (first | exact List.Sublist.refl _ | apply List.Sublist.cons_cons | apply List.Sublist.cons | apply List.sublist_append_of_sublist_right)), rfl⟩
  ·refine ⟨by omega, by omega, ?_⟩
   have e : (j + 1).toNat = j.toNat + 1 := by omega
   rw [e, take_snoc (d := 0) (by omega), List.foldl_append, ← hsj]; rfl
  dsimp only; omega
 intro c2; try simp only [td] at c2
 have hsN : s = placeN t ps k u := by rw [hsj, List.take_of_length_le (by omega)]; rfl
 refine V_exit (then_e (then_e (blk_e rfl (then_n ?_))))
 refine Vs rfl ?_
 refine Lr rfl (rlA (vs := [_, _]) ag24 sz24 rfl rfl rfl) ?_
 refine Ls (cs' := [_, _]) rfl sz24 rfl rfl rfl rfl rfl rfl rfl ?_
 refine L_then (kp [8] rfl) ?_
 refine V_ret ?_
 refine Leave.nil (.cellA (us := [_, _]) rfl ag24 sz24 (by repeat first | exact mH | apply mT) rfl .nil) ?_
 rw [placeT, if_pos (by omega), ← hsN]; rfl
theorem rfloor_c (a b : Int) (hb : 0 < b ∧ b ≤ 1000000000000000) (ha : (-1000000000000000 ≤ a ∧ a ≤ 1000000000000000)) (w : World) : FnP Tryz.prog 142 [.int .i64 a, .int .i64 b] w (.int .i64 (a / b)) := by
 have hq := tdiv_abs hb.1 ha
 have hm := tdiv_mul_abs hb.1 ha hb.2
 refine fn_pure Tryz.func142 rfl (by kernel_rfl) Tryz.ntmps142 Tryz.results142 rfl ?_
 refine Vs rfl ?_
 refine La rfl rfl rfl ?_
 refine L_then (kp [0, 1] rfl) ?_
 refine Vs rfl ?_
 iterate 2 refine Lm rfl rfl rfl ?_
 first | refine Lp rfl (p_quo' rfl rfl rfl (by first | decide | omega) (by unfold InI; omega)) ?_ | refine Lp rfl (p_quo rfl rfl rfl (by first | decide | omega)) ?_
 refine La rfl rfl rfl ?_
 refine L_then (kp [0, 1, 5] rfl) ?_
 refine V_seq ?_
 refine Vs rfl ?_
 iterate 3 refine Lm rfl rfl rfl ?_
 first | refine Lp rfl (p_mul' rfl rfl rfl (by unfold InI; omega)) ?_ | refine Lp rfl (p_mul rfl rfl rfl) ?_
 refine Lp rfl (p_lss rfl rfl rfl) ?_
 refine L_then (kp [5, 13] rfl) ?_
 refine V_cond rfl ?_ ?_
 ·intro c1; try simp only [td] at c1
  refine V_region rfl ?_
  refine Lm rfl rfl rfl ?_
  first | refine Lp rfl (p_sub' rfl rfl rfl (by unfold InI; omega)) ?_ | refine Lp rfl (p_sub rfl rfl rfl) ?_
  refine La rfl rfl rfl ?_
  refine L_then (kp [5] rfl) ?_
  refine Vs rfl ?_
  refine Lm rfl rfl rfl ?_
  refine La rfl rfl rfl ?_
  refine L_then (kp [4] rfl) ?_
  refine V_ret ?_
  refine Leave.nil (.tmp rfl .nil) ?_
  show Value.int .i64 _ = _; rw [← floor_eq hb.1, if_pos c1]
 intro c1; try simp only [td] at c1
 refine V_skip (then_n ?_)
 refine Vs rfl ?_
 refine Lm rfl rfl rfl ?_
 refine La rfl rfl rfl ?_
 refine L_then (kp [4] rfl) ?_
 refine V_ret ?_
 refine Leave.nil (.tmp rfl .nil) ?_
 show Value.int .i64 _ = _; rw [← floor_eq hb.1, if_neg (by omega)]
theorem rceil_c (a b : Int) (hb : 0 < b ∧ b ≤ 1000000000000000) (ha : (-1000000000000000 ≤ a ∧ a ≤ 1000000000000000)) (w : World) : FnP Tryz.prog 141 [.int .i64 a, .int .i64 b] w (.int .i64 (-((-a) / b))) := by
 have hq := ediv_abs (a := -a) (A := 1000000000000000) hb.1 (by omega)
 refine fn_pure Tryz.func141 rfl (by kernel_rfl) Tryz.ntmps141 Tryz.results141 rfl ?_
 refine Vs rfl ?_
 refine La rfl rfl rfl ?_
 refine L_then (kp [0, 1] rfl) ?_
 refine Vs rfl ?_
 refine Lm rfl rfl rfl ?_
 first | refine Lp rfl (p_neg' rfl rfl (by unfold InI; omega)) ?_ | refine Lp rfl (p_neg rfl rfl) ?_
 refine Lm rfl rfl rfl ?_
 refine Lc rfl rfl rfl rfl (fun w hg => rfloor_c _ _ (by omega) (by omega) w) ?_
 first | refine Lp rfl (p_neg' rfl rfl (by unfold InI; omega)) ?_ | refine Lp rfl (p_neg rfl rfl) ?_
 refine La rfl rfl rfl ?_
 refine L_then (kp [4] rfl) ?_
 refine V_ret ?_
 refine Leave.nil (.tmp rfl .nil) ?_
 rfl

end Go.Proofs.YtlcccpeelombbaaGreatDoor

/- YtlcccpeelombbaaGreatDoor: the reference's speeds and boxes. -/
set_option linter.all false
namespace Go.Proofs.YtlcccpeelombbaaGreatDoor
open Go.Vc Go.Tk
set_option maxRecDepth 100000
set_option maxHeartbeats 4000000 in
theorem rspeeds_c (t : Task) (v : Value) (ps : List Int) (sv : Value) (w : World) (ht : TaskR w v t) (hs : SliceR w 1 sv (ps.map fun n => [Value.int .i64 n])) (hG : GoodT t) (hp : ∀ i ∈ ps, 0 ≤ i ∧ i < t.plots.length) (hl : ps.length ≤ 60) (k u : Int) (hu : 0 ≤ u ∧ u ≤ 100000) : FnC Tryz.prog 128 [v, sv, .int .i64 k, .int .i64 u] w fun v w' => ∃ Hc, Vc.Good w [] Hc w' ∧ (SpeedV t ps k u v ∧ Hc = []) := by
 have hT := ht
 obtain ⟨tv, pv, rfl, htr, hpl⟩ := ht.ex
 obtain ⟨ta, tc, rfl, htc, hte⟩ := htr.ex
 obtain ⟨pa, pc, rfl, hpc, hpe⟩ := hpl.ex
 have hltr := hT.ltr
 have hlpl := hT.lpl
 simp only [List.length_map] at hT htc hpc ⊢
 have hS := hs
 obtain ⟨sa, sc, rfl, hsc, hse⟩ := hs.ex
 obtain ⟨hfrm, hspd, hacc⟩ := hG.nums
 have hpl60 := hG.h2
 simp only [List.length_map] at hS hsc ⊢
 refine fn_new Tryz.func128 rfl (by kernel_rfl) Tryz.ntmps128 Tryz.results128 rfl ?_
 refine Vs rfl ?_
 refine Lw rfl (w_box rfl rfl) ?_
 rintro _ _ ⟨b1, hb1, rfl, rfl⟩
 refine Lw rfl (w_alloc zr24 rfl) ?_
 rintro _ _ ⟨b2, hb2, rfl, rfl⟩
 refine La rfl rfl rfl ?_
 refine L_then (kp [1, 2, 3, 4, 8] rfl) ?_
 refine V_seq ?_
 refine Vs rfl ?_
 refine Lm rfl rfl rfl ?_
 refine Lp rfl (p_fieldo fo39_0 rfl rfl) ?_
 refine Lr rfl (rl ag3 rfl rfl rfl) ?_
 refine Lp rfl (p_lss rfl rfl rfl) ?_
 refine L_then (kp [1, 2, 3, 4, 8, 20] rfl) ?_
 refine V_cond rfl ?_ ?_
 ·intro c1; try simp only [td] at c1
  refine Vs rfl ?_
  refine Lp rfl (p_build (r := [_, _]) pl24 zr24 rfl rfl rfl) ?_
  refine Ls (cs' := [_, _]) rfl sz24 rfl rfl rfl rfl rfl rfl rfl ?_
  refine La rfl rfl rfl ?_
  refine L_then (kp [8, 9] rfl) ?_
  refine V_ret (then_r ?_)
  refine Leave.nil (.cellA (us := [_, _]) rfl ag24 sz24 (by repeat first | exact mH | apply mT) rfl (.tmp rfl .nil)) ?_
  exact ⟨[], HSub.nil _, ⟨0, 0, true, rfl, .inl ⟨rfl, by rw [fastT, if_pos (by omega)]; rfl⟩⟩, rfl⟩
 intro c1; try simp only [td] at c1
 have hm0 := mul_bnd (show 0 ≤ t.accel ∧ t.accel ≤ 1000000 by omega) (show 0 ≤ u - t.frm + 1 ∧ u - t.frm + 1 ≤ 100001 by omega)
 refine V_skip (then_n ?_)
 refine Vs rfl ?_
 refine Lp rfl (p_fieldo fo39_1 rfl rfl) ?_
 refine Lr rfl (rl ag3 rfl rfl rfl) ?_
 refine Lp rfl (p_fieldo fo39_2 rfl rfl) ?_
 refine Lr rfl (rl ag3 rfl rfl rfl) ?_
 refine Lm rfl rfl rfl ?_
 refine Lp rfl (p_fieldo fo39_0 rfl rfl) ?_
 refine Lr rfl (rl ag3 rfl rfl rfl) ?_
 first | refine Lp rfl (p_sub' rfl rfl rfl (by unfold InI; omega)) ?_ | refine Lp rfl (p_sub rfl rfl rfl) ?_
 first | refine Lp rfl (p_add' rfl rfl rfl (by unfold InI; omega)) ?_ | refine Lp rfl (p_add rfl rfl rfl) ?_
 first | refine Lp rfl (p_mul' rfl rfl rfl (by unfold InI; omega)) ?_ | refine Lp rfl (p_mul rfl rfl rfl) ?_
 refine Lp rfl (p_min rfl rfl rfl) ?_
 refine Lc rfl rfl rfl rfl (fun w hg => raround_c _ _ (by omega) (by omega) w) ?_
 refine Lw rfl (w_alloc zr24 rfl) ?_
 rintro _ _ ⟨b3, hb3, rfl, rfl⟩
 refine Ls (cs' := [_, _]) rfl sz24 rfl rfl rfl rfl rfl rfl rfl ?_
 refine L_then (kp [1, 2, 3, 4, 8, 10] rfl) ?_
 refine Vs rfl ?_
 refine Lr rfl (rlA (vs := [_, _, _, _, _]) ag39 sz39 rfl rfl rfl) ?_
 iterate 3 refine Lm rfl rfl rfl ?_
 refine Lc rfl rfl rfl rfl (fun w hg => rplaces_c t _ ps _ w (hT.good hg) (hS.good hg) hG hp hl _ _ (by omega)) ?_
 refine Lw rfl (w_alloc zr24 rfl) ?_
 rintro _ _ ⟨b4, hb4, rfl, rfl⟩
 refine Ls (cs' := [_, _]) rfl sz24 rfl rfl rfl rfl rfl rfl rfl ?_
 refine L_then (kp [1, 2, 3, 4, 8, 10, 11] rfl) ?_
 refine V_seq ?_
 refine Vs rfl ?_
 refine La rfl rfl rfl ?_
 refine L_then (kp [1, 2, 3, 4, 8, 10, 11, 12] rfl) ?_
 refine V_block ?_
 refine V_loop1 (γ := Int × Span) (kp [1, 2, 3, 4, 8, 10, 11] rfl) (fun (j, s) => [(12, .int .i64 j)]) (fun (j, s) => [(b4, .cells #[.int .i64 (placeT t ps k u).lo, .int .i64 (placeT t ps k u).hi] 24), (b3, .cells #[.int .i64 s.lo, .int .i64 s.hi] 24), (b2, .cells #[.int .i64 0, .int .i64 0] 24), (b1, t.obj (.slice ta t.trackers.length tc) (.slice pa t.plots.length pc) 39)]) (fun (j, s) => 1 ≤ j ∧ j ≤ 9 ∧ fastN t ps k u (j - 1).toNat = some s) (fun (j, s) => (9 - j).toNat) ((1, ⟨0 - (min t.speed (t.accel * (u - t.frm + 1))), 0 + (min t.speed (t.accel * (u - t.frm + 1)))⟩)) (.cons rfl (.nil _)) (by repeat (first | exact List.Sublist.refl _ | apply List.Sublist.cons_cons | apply List.Sublist.cons)) (⟨by omega, by omega, by show some (room0 _) = _; simp [room0]⟩) ?_
 rintro ⟨j, s⟩ hi
 obtain ⟨hj0, hj1, hN⟩ := hi
 refine V_seq ?_
 refine Vs rfl ?_
 refine Lm rfl rfl rfl ?_
 refine Lp rfl (p_leq rfl rfl rfl) ?_
 refine L_then (kp [1, 2, 3, 4, 8, 10, 11, 12, 40] rfl) ?_
 refine V_cond rfl ?_ ?_
 ·intro c2; try simp only [td] at c2
  have hmb := moreB_bnd hG (j := j) ⟨by omega, by omega⟩
  have hmf := moreF_bnd hG (j := j) ⟨by omega, by omega⟩
  have hmb3 : 0 ≤ moreB t j ∧ moreB t j ≤ 72000000 := hmb.2.2
  have hmf3 : 0 ≤ moreF t j ∧ moreF t j ≤ 56000000 := hmf.2.2
  have hpu := placeT_bnd hG hp hu.2 k
  unfold SpanB at hpu
  have haj := mul_bnd (show 0 ≤ t.accel ∧ t.accel ≤ 1000000 by omega) (show 0 ≤ j ∧ j ≤ 8 by omega)
  have haj1 := mul_bnd haj (show 0 ≤ j + 1 ∧ j + 1 ≤ 9 by omega)
  have haj2 := mul_bnd haj (show 0 ≤ j - 1 ∧ j - 1 ≤ 7 by omega)
  have hd1 := tdiv_bnd (b := 2) (by omega) haj1
  have hd2 := tdiv_bnd (b := 2) (by omega) haj2
  refine V_skip (then_n ?_)
  refine V_seq ?_
  refine V_block ?_
  refine V_seq ?_
  refine Vs rfl ?_
  iterate 2 refine Lm rfl rfl rfl ?_
  first | refine Lp rfl (p_sub' rfl rfl rfl (by unfold InI; omega)) ?_ | refine Lp rfl (p_sub rfl rfl rfl) ?_
  refine Lp rfl (p_fieldo fo39_0 rfl rfl) ?_
  refine Lr rfl (rl ag3 rfl rfl rfl) ?_
  refine Lp rfl (p_geq rfl rfl rfl) ?_
  refine L_then (kp [1, 2, 3, 4, 8, 10, 11, 12, 48] rfl) ?_
  refine V_cond rfl ?_ ?_
  ·intro c3; try simp only [td] at c3
   have hpv := placeT_bnd hG hp (u := u - j) (by omega) k
   unfold SpanB at hpv
   refine Vs rfl ?_
   refine Lr rfl (rlA (vs := [_, _, _, _, _]) ag39 sz39 rfl rfl rfl) ?_
   iterate 4 refine Lm rfl rfl rfl ?_
   first | refine Lp rfl (p_sub' rfl rfl rfl (by unfold InI; omega)) ?_ | refine Lp rfl (p_sub rfl rfl rfl) ?_
   refine Lc rfl rfl rfl rfl (fun w hg => rplaces_c t _ ps _ w (hT.good hg) (hS.good hg) hG hp hl _ _ (by omega)) ?_
   refine Lw rfl (w_alloc zr24 rfl) ?_
   rintro _ _ ⟨b5, hb5, rfl, rfl⟩
   refine Ls (cs' := [_, _]) rfl sz24 rfl rfl rfl rfl rfl rfl rfl ?_
   refine L_then (kp [1, 2, 3, 4, 8, 10, 11, 12, 13] rfl) ?_
   refine V_seq ?_
   refine Vs rfl ?_
   refine Lr rfl (rlA (vs := [_, _]) ag24 sz24 rfl rfl rfl) ?_
   refine Lc rfl rfl rfl rfl (fun w hg => rnone_c _ _ w) ?_
   refine L_then (kp [1, 2, 3, 4, 8, 10, 11, 12, 13, 57] rfl) ?_
   refine V_cond rfl ?_ ?_
   ·intro c4; try simp only [td] at c4
    refine Vs rfl ?_
    refine Lr rfl (rlA (vs := [_, _]) ag24 sz24 rfl rfl rfl) ?_
    refine Ls (cs' := [_, _]) rfl sz24 rfl rfl rfl rfl rfl rfl rfl ?_
    refine La rfl rfl rfl ?_
    refine L_then (kp [8, 9] rfl) ?_
    refine V_ret (then_r (then_r (blk_r (then_r (then_r (blk_r (then_r ?_)))))))
    refine Leave.nil (.cellA (us := [_, _]) rfl ag24 sz24 (by repeat first | exact mH | apply mT) rfl (.tmp rfl .nil)) ?_
    exact ⟨[], HSub.nil _, ⟨_, _, false, rfl, .inr ⟨rfl, fastT_none1 (by omega) ⟨by omega, by omega⟩ hN (fastB_none (by omega) c4)⟩⟩, rfl⟩
   intro c4; try simp only [td] at c4
   refine V_skip (then_n ?_)
   refine Vs rfl ?_
   refine Lp rfl (p_fieldo fo39_2 rfl rfl) ?_
   refine Lr rfl (rl ag3 rfl rfl rfl) ?_
   refine Lm rfl rfl rfl ?_
   first | refine Lp rfl (p_mul' rfl rfl rfl (by unfold InI; omega)) ?_ | refine Lp rfl (p_mul rfl rfl rfl) ?_
   refine Lm rfl rfl rfl ?_
   first | refine Lp rfl (p_add' rfl rfl rfl (by unfold InI; omega)) ?_ | refine Lp rfl (p_add rfl rfl rfl) ?_
   first | refine Lp rfl (p_mul' rfl rfl rfl (by unfold InI; omega)) ?_ | refine Lp rfl (p_mul rfl rfl rfl) ?_
   refine Lp rfl (show RdP _ _ _ (.int .i64 (moreB t j)) from moreB_alt t j ▸ p_quo' rfl rfl rfl (by decide) (by unfold InI; omega)) ?_
   refine La rfl rfl rfl ?_
   refine L_then (kp [1, 2, 3, 4, 8, 10, 11, 12, 13, 14] rfl) ?_
   refine V_draw (.rd 0 (.rd 1 (.rd 2 (.rd 3 (.rd 4 (.rd 5 (.rd 6 (.rd 7 (.rd 8 (.rd 10 (.rd 11 (.rd 12 (.rd 13 (.rd 14 (.rd 15 (.rd 16 (.rd 17 (.wr 9 [17, 16, 15, 14, 13, 12, 11, 10, 6, 5, 4, 3, 2, 1, 0] (.wr 18 [15, 14, 13, 12, 11, 10, 8, 7, 6, 5, 4, 3, 2, 1, 0] (.rd 19 (.wr 20 [17, 16, 15, 14, 13, 12, 11, 10, 8, 7, 6, 5, 4, 3, 2, 1] (.wr 21 [] .done)))))))))))))))))))))) mixed (by kernel_rfl) rfl ?_
   refine Dr rfl rfl (rlA (vs := [_, _]) ag24 sz24 rfl rfl rfl) ?_
   refine Dp rfl rfl (p_fieldo fo24_0 rfl rfl) ?_
   refine Dr rfl rfl (rl ag3 rfl rfl rfl) ?_
   refine Dp rfl rfl (p_fieldo fo24_1 rfl rfl) ?_
   refine Dr rfl rfl (rl ag3 rfl rfl rfl) ?_
   first | refine Dp rfl rfl (p_sub' rfl rfl rfl (by unfold InI; omega)) ?_ | refine Dp rfl rfl (p_sub rfl rfl rfl) ?_
   refine Dm rfl rfl rfl rfl ?_
   first | refine Dp rfl rfl (p_sub' rfl rfl rfl (by unfold InI; omega)) ?_ | refine Dp rfl rfl (p_sub rfl rfl rfl) ?_
   refine Dm rfl rfl rfl rfl ?_
   refine Dp rfl rfl (p_fieldo fo24_1 rfl rfl) ?_
   refine Dr rfl rfl (rl ag3 rfl rfl rfl) ?_
   refine Dp rfl rfl (p_fieldo fo24_0 rfl rfl) ?_
   refine Dr rfl rfl (rl ag3 rfl rfl rfl) ?_
   first | refine Dp rfl rfl (p_sub' rfl rfl rfl (by unfold InI; omega)) ?_ | refine Dp rfl rfl (p_sub rfl rfl rfl) ?_
   refine Dm rfl rfl rfl rfl ?_
   first | refine Dp rfl rfl (p_add' rfl rfl rfl (by unfold InI; omega)) ?_ | refine Dp rfl rfl (p_add rfl rfl rfl) ?_
   refine Dm rfl rfl rfl rfl ?_
   refine D_wr (.go (E' := [(13, _), (11, _), (4, _), (2, _), (0, _)]) rfl (.plain rfl) (w_callP rfl rfl rfl (fun w hg => rceil_c _ _ (by omega) (by omega) w)) rfl ?_)
   rintro _ _ ⟨rfl, rfl⟩
   refine ⟨(.cons rfl (.plain rfl) (rl ag3 rfl rfl rfl) (.cons rfl (.plain rfl) (rl ag3 rfl rfl rfl) (.cons rfl (.plain rfl) (rl ag3 rfl rfl rfl) (.cons rfl (.plain rfl) (rl ag3 rfl rfl rfl) (.cons rfl (.plain rfl) (rlA (vs := [_, _]) ag24 sz24 rfl rfl rfl) .nil))))), ?_⟩
   refine D_wr (.go (E' := [(13, _), (11, _), (4, _), (2, _), (0, _)]) rfl (.plain rfl) (w_callP rfl rfl rfl (fun w hg => rfloor_c _ _ (by omega) (by omega) w)) rfl ?_)
   rintro _ _ ⟨rfl, rfl⟩
   refine ⟨(.cons rfl (.plain rfl) (rl ag3 rfl rfl rfl) (.cons rfl (.plain rfl) (rl ag3 rfl rfl rfl) (.cons rfl (.plain rfl) (rl ag3 rfl rfl rfl) (.cons rfl (.plain rfl) (rl ag3 rfl rfl rfl) (.cons rfl (.plain rfl) (rlA (vs := [_, _]) ag24 sz24 rfl rfl rfl) .nil))))), ?_⟩
   refine Dp rfl rfl (p_build (r := [_, _]) pl24 zr24 rfl rfl rfl) ?_
   refine D_wr (.go (E' := [(13, _), (11, _), (4, _), (2, _)]) rfl (.plain rfl) (w_callP rfl rfl rfl (fun w hg => rcommon_c _ _ _ _ w)) rfl ?_)
   rintro _ _ ⟨rfl, rfl⟩
   refine ⟨(.cons rfl (.plain rfl) (rl ag3 rfl rfl rfl) (.cons rfl (.plain rfl) (rl ag3 rfl rfl rfl) (.cons rfl (.plain rfl) (rl ag3 rfl rfl rfl) (.cons rfl (.plain rfl) (rl ag3 rfl rfl rfl) .nil)))), ?_⟩
   refine D_wr (.go (E' := []) rfl (.plain rfl) (ws (cs' := [_, _]) sz24 rfl rfl rfl rfl rfl rfl rfl) rfl ?_)
   rintro _ _ ⟨rfl, rfl⟩
   refine ⟨.nil, ?_⟩
   refine D_then (kp [1, 2, 3, 4, 8, 10, 11, 12] rfl) ?_
   refine Vs rfl ?_
   iterate 2 refine Lm rfl rfl rfl ?_
   first | refine Lp rfl (p_add' rfl rfl rfl (by unfold InI; omega)) ?_ | refine Lp rfl (p_add rfl rfl rfl) ?_
   refine Lp rfl (p_leq rfl rfl rfl) ?_
   refine L_then (kp [1, 2, 3, 4, 8, 10, 11, 12, 91] rfl) ?_
   refine V_cond rfl ?_ ?_
   ·intro c5; try simp only [td] at c5
    have hpw := placeT_bnd hG hp (u := u + j) (by omega) k
    unfold SpanB at hpw
    refine Vs rfl ?_
    refine Lr rfl (rlA (vs := [_, _, _, _, _]) ag39 sz39 rfl rfl rfl) ?_
    iterate 4 refine Lm rfl rfl rfl ?_
    first | refine Lp rfl (p_add' rfl rfl rfl (by unfold InI; omega)) ?_ | refine Lp rfl (p_add rfl rfl rfl) ?_
    refine Lc rfl rfl rfl rfl (fun w hg => rplaces_c t _ ps _ w (hT.good hg) (hS.good hg) hG hp hl _ _ (by omega)) ?_
    refine Lw rfl (w_alloc zr24 rfl) ?_
    rintro _ _ ⟨b6, hb6, rfl, rfl⟩
    refine Ls (cs' := [_, _]) rfl sz24 rfl rfl rfl rfl rfl rfl rfl ?_
    refine L_then (kp [1, 2, 3, 4, 8, 10, 11, 12, 15] rfl) ?_
    refine V_seq ?_
    refine Vs rfl ?_
    refine Lr rfl (rlA (vs := [_, _]) ag24 sz24 rfl rfl rfl) ?_
    refine Lc rfl rfl rfl rfl (fun w hg => rnone_c _ _ w) ?_
    refine L_then (kp [1, 2, 3, 4, 8, 10, 11, 12, 15, 100] rfl) ?_
    refine V_cond rfl ?_ ?_
    ·intro c6; try simp only [td] at c6
     refine Vs rfl ?_
     refine Lr rfl (rlA (vs := [_, _]) ag24 sz24 rfl rfl rfl) ?_
     refine Ls (cs' := [_, _]) rfl sz24 rfl rfl rfl rfl rfl rfl rfl ?_
     refine La rfl rfl rfl ?_
     refine L_then (kp [8, 9] rfl) ?_
     refine V_ret (then_r (blk_r (then_r (then_r (blk_r (then_r ?_))))))
     refine Leave.nil (.cellA (us := [_, _]) rfl ag24 sz24 (by repeat first | exact mH | apply mT) rfl (.tmp rfl .nil)) ?_
     exact ⟨[], HSub.nil _, ⟨_, _, false, rfl, .inr ⟨rfl, fastT_none2 (by omega) ⟨by omega, by omega⟩ hN (fastB_go (by omega) c4) (fastF_none (by omega) c6)⟩⟩, rfl⟩
    intro c6; try simp only [td] at c6
    refine V_skip (then_n ?_)
    refine Vs rfl ?_
    refine Lp rfl (p_fieldo fo39_2 rfl rfl) ?_
    refine Lr rfl (rl ag3 rfl rfl rfl) ?_
    refine Lm rfl rfl rfl ?_
    first | refine Lp rfl (p_mul' rfl rfl rfl (by unfold InI; omega)) ?_ | refine Lp rfl (p_mul rfl rfl rfl) ?_
    refine Lm rfl rfl rfl ?_
    first | refine Lp rfl (p_sub' rfl rfl rfl (by unfold InI; omega)) ?_ | refine Lp rfl (p_sub rfl rfl rfl) ?_
    first | refine Lp rfl (p_mul' rfl rfl rfl (by unfold InI; omega)) ?_ | refine Lp rfl (p_mul rfl rfl rfl) ?_
    refine Lp rfl (show RdP _ _ _ (.int .i64 (moreF t j)) from moreF_alt t j ▸ p_quo' rfl rfl rfl (by decide) (by unfold InI; omega)) ?_
    refine La rfl rfl rfl ?_
    refine L_then (kp [1, 2, 3, 4, 8, 10, 11, 12, 15, 16] rfl) ?_
    refine V_draw (.rd 0 (.rd 1 (.rd 2 (.rd 3 (.rd 4 (.rd 5 (.rd 6 (.rd 7 (.rd 8 (.rd 10 (.rd 11 (.rd 12 (.rd 13 (.rd 14 (.rd 15 (.rd 16 (.rd 17 (.wr 9 [17, 16, 15, 14, 13, 12, 11, 10, 6, 5, 4, 3, 2, 1, 0] (.wr 18 [15, 14, 13, 12, 11, 10, 8, 7, 6, 5, 4, 3, 2, 1, 0] (.rd 19 (.wr 20 [17, 16, 15, 14, 13, 12, 11, 10, 8, 7, 6, 5, 4, 3, 2, 1] (.wr 21 [] .done)))))))))))))))))))))) mixed (by kernel_rfl) rfl ?_
    refine Dr rfl rfl (rlA (vs := [_, _]) ag24 sz24 rfl rfl rfl) ?_
    refine Dp rfl rfl (p_fieldo fo24_0 rfl rfl) ?_
    refine Dr rfl rfl (rl ag3 rfl rfl rfl) ?_
    refine Dp rfl rfl (p_fieldo fo24_1 rfl rfl) ?_
    refine Dr rfl rfl (rl ag3 rfl rfl rfl) ?_
    first | refine Dp rfl rfl (p_sub' rfl rfl rfl (by unfold InI; omega)) ?_ | refine Dp rfl rfl (p_sub rfl rfl rfl) ?_
    refine Dm rfl rfl rfl rfl ?_
    first | refine Dp rfl rfl (p_sub' rfl rfl rfl (by unfold InI; omega)) ?_ | refine Dp rfl rfl (p_sub rfl rfl rfl) ?_
    refine Dm rfl rfl rfl rfl ?_
    refine Dp rfl rfl (p_fieldo fo24_1 rfl rfl) ?_
    refine Dr rfl rfl (rl ag3 rfl rfl rfl) ?_
    refine Dp rfl rfl (p_fieldo fo24_0 rfl rfl) ?_
    refine Dr rfl rfl (rl ag3 rfl rfl rfl) ?_
    first | refine Dp rfl rfl (p_sub' rfl rfl rfl (by unfold InI; omega)) ?_ | refine Dp rfl rfl (p_sub rfl rfl rfl) ?_
    refine Dm rfl rfl rfl rfl ?_
    first | refine Dp rfl rfl (p_add' rfl rfl rfl (by unfold InI; omega)) ?_ | refine Dp rfl rfl (p_add rfl rfl rfl) ?_
    refine Dm rfl rfl rfl rfl ?_
    refine D_wr (.go (E' := [(13, _), (11, _), (4, _), (2, _), (0, _)]) rfl (.plain rfl) (w_callP rfl rfl rfl (fun w hg => rceil_c _ _ (by omega) (by omega) w)) rfl ?_)
    rintro _ _ ⟨rfl, rfl⟩
    refine ⟨(.cons rfl (.plain rfl) (rl ag3 rfl rfl rfl) (.cons rfl (.plain rfl) (rl ag3 rfl rfl rfl) (.cons rfl (.plain rfl) (rl ag3 rfl rfl rfl) (.cons rfl (.plain rfl) (rl ag3 rfl rfl rfl) (.cons rfl (.plain rfl) (rlA (vs := [_, _]) ag24 sz24 rfl rfl rfl) .nil))))), ?_⟩
    refine D_wr (.go (E' := [(13, _), (11, _), (4, _), (2, _), (0, _)]) rfl (.plain rfl) (w_callP rfl rfl rfl (fun w hg => rfloor_c _ _ (by omega) (by omega) w)) rfl ?_)
    rintro _ _ ⟨rfl, rfl⟩
    refine ⟨(.cons rfl (.plain rfl) (rl ag3 rfl rfl rfl) (.cons rfl (.plain rfl) (rl ag3 rfl rfl rfl) (.cons rfl (.plain rfl) (rl ag3 rfl rfl rfl) (.cons rfl (.plain rfl) (rl ag3 rfl rfl rfl) (.cons rfl (.plain rfl) (rlA (vs := [_, _]) ag24 sz24 rfl rfl rfl) .nil))))), ?_⟩
    refine Dp rfl rfl (p_build (r := [_, _]) pl24 zr24 rfl rfl rfl) ?_
    refine D_wr (.go (E' := [(13, _), (11, _), (4, _), (2, _)]) rfl (.plain rfl) (w_callP rfl rfl rfl (fun w hg => rcommon_c _ _ _ _ w)) rfl ?_)
    rintro _ _ ⟨rfl, rfl⟩
    refine ⟨(.cons rfl (.plain rfl) (rl ag3 rfl rfl rfl) (.cons rfl (.plain rfl) (rl ag3 rfl rfl rfl) (.cons rfl (.plain rfl) (rl ag3 rfl rfl rfl) (.cons rfl (.plain rfl) (rl ag3 rfl rfl rfl) .nil)))), ?_⟩
    refine D_wr (.go (E' := []) rfl (.plain rfl) (ws (cs' := [_, _]) sz24 rfl rfl rfl rfl rfl rfl rfl) rfl ?_)
    rintro _ _ ⟨rfl, rfl⟩
    refine ⟨.nil, ?_⟩
    refine D_keep (kp [1, 2, 3, 4, 8, 10, 11, 12] rfl) (blk_n (then_n ?_))
    refine V_region rfl ?_
    refine Lm rfl rfl rfl ?_
    first | refine Lp rfl (p_add' rfl rfl rfl (by unfold InI; omega)) ?_ | refine Lp rfl (p_add rfl rfl rfl) ?_
    refine La rfl rfl rfl ?_
    refine L_keep (kp [1, 2, 3, 4, 8, 10, 11, 12] rfl) (then_n ?_)
    refine ⟨(j + 1, sF t ps k u j (sB t ps k u j s)), ?_, ?_, (.cons rfl (.cons rfl (.cons rfl (.cons rfl (.cons rfl (.cons rfl (.cons rfl (.cons rfl (.nil _))))))))), (by repeat (first | exact List.Sublist.refl _ | apply List.Sublist.cons_cons | apply List.Sublist.cons | apply List.sublist_append_of_sublist_right)), rfl⟩
    ·exact ⟨by omega, by omega, fastN_go hj0 hN (fastB_go (by omega) c4) (fastF_go (by omega) c6)⟩
    dsimp only; omega
   intro c5; try simp only [td] at c5
   refine V_skip (blk_n (then_n ?_))
   refine V_region rfl ?_
   refine Lm rfl rfl rfl ?_
   first | refine Lp rfl (p_add' rfl rfl rfl (by unfold InI; omega)) ?_ | refine Lp rfl (p_add rfl rfl rfl) ?_
   refine La rfl rfl rfl ?_
   refine L_keep (kp [1, 2, 3, 4, 8, 10, 11, 12] rfl) (then_n ?_)
   refine ⟨(j + 1, sB t ps k u j s), ?_, ?_, (.cons rfl (.cons rfl (.cons rfl (.cons rfl (.cons rfl (.cons rfl (.cons rfl (.cons rfl (.nil _))))))))), (by repeat (first | exact List.Sublist.refl _ | apply List.Sublist.cons_cons | apply List.Sublist.cons | apply List.sublist_append_of_sublist_right)), rfl⟩
   ·exact ⟨by omega, by omega, fastN_go hj0 hN (fastB_go (by omega) c4) (fastF_skip (by omega))⟩
   dsimp only; omega
  intro c3; try simp only [td] at c3
  refine V_skip (then_n ?_)
  refine Vs rfl ?_
  iterate 2 refine Lm rfl rfl rfl ?_
  first | refine Lp rfl (p_add' rfl rfl rfl (by unfold InI; omega)) ?_ | refine Lp rfl (p_add rfl rfl rfl) ?_
  refine Lp rfl (p_leq rfl rfl rfl) ?_
  refine L_then (kp [1, 2, 3, 4, 8, 10, 11, 12, 91] rfl) ?_
  refine V_cond rfl ?_ ?_
  ·intro c7; try simp only [td] at c7
   have hpw := placeT_bnd hG hp (u := u + j) (by omega) k
   unfold SpanB at hpw
   refine Vs rfl ?_
   refine Lr rfl (rlA (vs := [_, _, _, _, _]) ag39 sz39 rfl rfl rfl) ?_
   iterate 4 refine Lm rfl rfl rfl ?_
   first | refine Lp rfl (p_add' rfl rfl rfl (by unfold InI; omega)) ?_ | refine Lp rfl (p_add rfl rfl rfl) ?_
   refine Lc rfl rfl rfl rfl (fun w hg => rplaces_c t _ ps _ w (hT.good hg) (hS.good hg) hG hp hl _ _ (by omega)) ?_
   refine Lw rfl (w_alloc zr24 rfl) ?_
   rintro _ _ ⟨b5, hb5, rfl, rfl⟩
   refine Ls (cs' := [_, _]) rfl sz24 rfl rfl rfl rfl rfl rfl rfl ?_
   refine L_then (kp [1, 2, 3, 4, 8, 10, 11, 12, 15] rfl) ?_
   refine V_seq ?_
   refine Vs rfl ?_
   refine Lr rfl (rlA (vs := [_, _]) ag24 sz24 rfl rfl rfl) ?_
   refine Lc rfl rfl rfl rfl (fun w hg => rnone_c _ _ w) ?_
   refine L_then (kp [1, 2, 3, 4, 8, 10, 11, 12, 15, 100] rfl) ?_
   refine V_cond rfl ?_ ?_
   ·intro c8; try simp only [td] at c8
    refine Vs rfl ?_
    refine Lr rfl (rlA (vs := [_, _]) ag24 sz24 rfl rfl rfl) ?_
    refine Ls (cs' := [_, _]) rfl sz24 rfl rfl rfl rfl rfl rfl rfl ?_
    refine La rfl rfl rfl ?_
    refine L_then (kp [8, 9] rfl) ?_
    refine V_ret (then_r (blk_r (then_r (then_r (blk_r (then_r ?_))))))
    refine Leave.nil (.cellA (us := [_, _]) rfl ag24 sz24 (by repeat first | exact mH | apply mT) rfl (.tmp rfl .nil)) ?_
    exact ⟨[], HSub.nil _, ⟨_, _, false, rfl, .inr ⟨rfl, fastT_none2 (by omega) ⟨by omega, by omega⟩ hN (fastB_skip (by omega)) (fastF_none (by omega) c8)⟩⟩, rfl⟩
   intro c8; try simp only [td] at c8
   refine V_skip (then_n ?_)
   refine Vs rfl ?_
   refine Lp rfl (p_fieldo fo39_2 rfl rfl) ?_
   refine Lr rfl (rl ag3 rfl rfl rfl) ?_
   refine Lm rfl rfl rfl ?_
   first | refine Lp rfl (p_mul' rfl rfl rfl (by unfold InI; omega)) ?_ | refine Lp rfl (p_mul rfl rfl rfl) ?_
   refine Lm rfl rfl rfl ?_
   first | refine Lp rfl (p_sub' rfl rfl rfl (by unfold InI; omega)) ?_ | refine Lp rfl (p_sub rfl rfl rfl) ?_
   first | refine Lp rfl (p_mul' rfl rfl rfl (by unfold InI; omega)) ?_ | refine Lp rfl (p_mul rfl rfl rfl) ?_
   refine Lp rfl (show RdP _ _ _ (.int .i64 (moreF t j)) from moreF_alt t j ▸ p_quo' rfl rfl rfl (by decide) (by unfold InI; omega)) ?_
   refine La rfl rfl rfl ?_
   refine L_then (kp [1, 2, 3, 4, 8, 10, 11, 12, 15, 16] rfl) ?_
   refine V_draw (.rd 0 (.rd 1 (.rd 2 (.rd 3 (.rd 4 (.rd 5 (.rd 6 (.rd 7 (.rd 8 (.rd 10 (.rd 11 (.rd 12 (.rd 13 (.rd 14 (.rd 15 (.rd 16 (.rd 17 (.wr 9 [17, 16, 15, 14, 13, 12, 11, 10, 6, 5, 4, 3, 2, 1, 0] (.wr 18 [15, 14, 13, 12, 11, 10, 8, 7, 6, 5, 4, 3, 2, 1, 0] (.rd 19 (.wr 20 [17, 16, 15, 14, 13, 12, 11, 10, 8, 7, 6, 5, 4, 3, 2, 1] (.wr 21 [] .done)))))))))))))))))))))) mixed (by kernel_rfl) rfl ?_
   refine Dr rfl rfl (rlA (vs := [_, _]) ag24 sz24 rfl rfl rfl) ?_
   refine Dp rfl rfl (p_fieldo fo24_0 rfl rfl) ?_
   refine Dr rfl rfl (rl ag3 rfl rfl rfl) ?_
   refine Dp rfl rfl (p_fieldo fo24_1 rfl rfl) ?_
   refine Dr rfl rfl (rl ag3 rfl rfl rfl) ?_
   first | refine Dp rfl rfl (p_sub' rfl rfl rfl (by unfold InI; omega)) ?_ | refine Dp rfl rfl (p_sub rfl rfl rfl) ?_
   refine Dm rfl rfl rfl rfl ?_
   first | refine Dp rfl rfl (p_sub' rfl rfl rfl (by unfold InI; omega)) ?_ | refine Dp rfl rfl (p_sub rfl rfl rfl) ?_
   refine Dm rfl rfl rfl rfl ?_
   refine Dp rfl rfl (p_fieldo fo24_1 rfl rfl) ?_
   refine Dr rfl rfl (rl ag3 rfl rfl rfl) ?_
   refine Dp rfl rfl (p_fieldo fo24_0 rfl rfl) ?_
   refine Dr rfl rfl (rl ag3 rfl rfl rfl) ?_
   first | refine Dp rfl rfl (p_sub' rfl rfl rfl (by unfold InI; omega)) ?_ | refine Dp rfl rfl (p_sub rfl rfl rfl) ?_
   refine Dm rfl rfl rfl rfl ?_
   first | refine Dp rfl rfl (p_add' rfl rfl rfl (by unfold InI; omega)) ?_ | refine Dp rfl rfl (p_add rfl rfl rfl) ?_
   refine Dm rfl rfl rfl rfl ?_
   refine D_wr (.go (E' := [(13, _), (11, _), (4, _), (2, _), (0, _)]) rfl (.plain rfl) (w_callP rfl rfl rfl (fun w hg => rceil_c _ _ (by omega) (by omega) w)) rfl ?_)
   rintro _ _ ⟨rfl, rfl⟩
   refine ⟨(.cons rfl (.plain rfl) (rl ag3 rfl rfl rfl) (.cons rfl (.plain rfl) (rl ag3 rfl rfl rfl) (.cons rfl (.plain rfl) (rl ag3 rfl rfl rfl) (.cons rfl (.plain rfl) (rl ag3 rfl rfl rfl) (.cons rfl (.plain rfl) (rlA (vs := [_, _]) ag24 sz24 rfl rfl rfl) .nil))))), ?_⟩
   refine D_wr (.go (E' := [(13, _), (11, _), (4, _), (2, _), (0, _)]) rfl (.plain rfl) (w_callP rfl rfl rfl (fun w hg => rfloor_c _ _ (by omega) (by omega) w)) rfl ?_)
   rintro _ _ ⟨rfl, rfl⟩
   refine ⟨(.cons rfl (.plain rfl) (rl ag3 rfl rfl rfl) (.cons rfl (.plain rfl) (rl ag3 rfl rfl rfl) (.cons rfl (.plain rfl) (rl ag3 rfl rfl rfl) (.cons rfl (.plain rfl) (rl ag3 rfl rfl rfl) (.cons rfl (.plain rfl) (rlA (vs := [_, _]) ag24 sz24 rfl rfl rfl) .nil))))), ?_⟩
   refine Dp rfl rfl (p_build (r := [_, _]) pl24 zr24 rfl rfl rfl) ?_
   refine D_wr (.go (E' := [(13, _), (11, _), (4, _), (2, _)]) rfl (.plain rfl) (w_callP rfl rfl rfl (fun w hg => rcommon_c _ _ _ _ w)) rfl ?_)
   rintro _ _ ⟨rfl, rfl⟩
   refine ⟨(.cons rfl (.plain rfl) (rl ag3 rfl rfl rfl) (.cons rfl (.plain rfl) (rl ag3 rfl rfl rfl) (.cons rfl (.plain rfl) (rl ag3 rfl rfl rfl) (.cons rfl (.plain rfl) (rl ag3 rfl rfl rfl) .nil)))), ?_⟩
   refine D_wr (.go (E' := []) rfl (.plain rfl) (ws (cs' := [_, _]) sz24 rfl rfl rfl rfl rfl rfl rfl) rfl ?_)
   rintro _ _ ⟨rfl, rfl⟩
   refine ⟨.nil, ?_⟩
   refine D_keep (kp [1, 2, 3, 4, 8, 10, 11, 12] rfl) (blk_n (then_n ?_))
   refine V_region rfl ?_
   refine Lm rfl rfl rfl ?_
   first | refine Lp rfl (p_add' rfl rfl rfl (by unfold InI; omega)) ?_ | refine Lp rfl (p_add rfl rfl rfl) ?_
   refine La rfl rfl rfl ?_
   refine L_keep (kp [1, 2, 3, 4, 8, 10, 11, 12] rfl) (then_n ?_)
   refine ⟨(j + 1, sF t ps k u j s), ?_, ?_, (.cons rfl (.cons rfl (.cons rfl (.cons rfl (.cons rfl (.cons rfl (.cons rfl (.cons rfl (.nil _))))))))), (by repeat (first | exact List.Sublist.refl _ | apply List.Sublist.cons_cons | apply List.Sublist.cons | apply List.sublist_append_of_sublist_right)), rfl⟩
   ·exact ⟨by omega, by omega, fastN_go hj0 hN (fastB_skip (by omega)) (fastF_go (by omega) c8)⟩
   dsimp only; omega
  intro c7; try simp only [td] at c7
  refine V_skip (blk_n (then_n ?_))
  refine V_region rfl ?_
  refine Lm rfl rfl rfl ?_
  first | refine Lp rfl (p_add' rfl rfl rfl (by unfold InI; omega)) ?_ | refine Lp rfl (p_add rfl rfl rfl) ?_
  refine La rfl rfl rfl ?_
  refine L_keep (kp [1, 2, 3, 4, 8, 10, 11, 12] rfl) (then_n ?_)
  refine ⟨(j + 1, s), ?_, ?_, (.cons rfl (.cons rfl (.cons rfl (.cons rfl (.cons rfl (.cons rfl (.cons rfl (.cons rfl (.nil _))))))))), (by repeat (first | exact List.Sublist.refl _ | apply List.Sublist.cons_cons | apply List.Sublist.cons | apply List.sublist_append_of_sublist_right)), rfl⟩
  ·exact ⟨by omega, by omega, fastN_go hj0 hN (fastB_skip (by omega)) (fastF_skip (by omega))⟩
  dsimp only; omega
 intro c2; try simp only [td] at c2
 refine V_exit (then_e (then_e (blk_e rfl (then_n ?_))))
 refine Vs rfl ?_
 refine Lr rfl (rlA (vs := [_, _]) ag24 sz24 rfl rfl rfl) ?_
 refine Ls (cs' := [_, _]) rfl sz24 rfl rfl rfl rfl rfl rfl rfl ?_
 refine La rfl rfl rfl ?_
 refine L_then (kp [8, 9] rfl) ?_
 refine V_ret ?_
 refine Leave.nil (.cellA (us := [_, _]) rfl ag24 sz24 (by repeat first | exact mH | apply mT) rfl (.tmp rfl .nil)) ?_
 have hj9 : j = 9 := by omega
 subst hj9
 exact ⟨[], HSub.nil _, ⟨s.lo, s.hi, true, rfl, .inl ⟨rfl, fastT_end (by omega) hN⟩⟩, rfl⟩
set_option maxHeartbeats 4000000 in
theorem rbox_c (t : Task) (v : Value) (ps : List Int) (sv : Value) (w : World) (ht : TaskR w v t) (hs : SliceR w 1 sv (ps.map fun n => [Value.int .i64 n])) (hG : GoodT t) (hp : ∀ i ∈ ps, 0 ≤ i ∧ i < t.plots.length) (hl : ps.length ≤ 60) (u : Int) (hu : 0 ≤ u ∧ u ≤ 100000) : FnP Tryz.prog 116 [v, sv, .int .i64 u] w (boxV (boxT t ps u)) := by
 have hT := ht
 obtain ⟨tv, pv, rfl, htr, hpl⟩ := ht.ex
 obtain ⟨ta, tc, rfl, htc, hte⟩ := htr.ex
 obtain ⟨pa, pc, rfl, hpc, hpe⟩ := hpl.ex
 have hltr := hT.ltr
 have hlpl := hT.lpl
 simp only [List.length_map] at hT htc hpc ⊢
 have hS := hs
 obtain ⟨sa, sc, rfl, hsc, hse⟩ := hs.ex
 obtain ⟨hfrm, hspd, hacc⟩ := hG.nums
 have hpl60 := hG.h2
 simp only [List.length_map] at hS hsc ⊢
 refine fn_pure Tryz.func116 rfl (by kernel_rfl) Tryz.ntmps116 Tryz.results116 rfl ?_
 refine Vs rfl ?_
 refine Lw rfl (w_box rfl rfl) ?_
 rintro _ _ ⟨b1, hb1, rfl, rfl⟩
 refine Lw rfl (w_alloc zr28 rfl) ?_
 rintro _ _ ⟨b2, hb2, rfl, rfl⟩
 refine La rfl rfl rfl ?_
 refine L_then (kp [1, 2, 3, 6] rfl) ?_
 refine Vs rfl ?_
 refine Lw rfl (w_alloc zr108 rfl) ?_
 rintro _ _ ⟨b3, hb3, rfl, rfl⟩
 refine Lw rfl (w_alloc zr108 rfl) ?_
 rintro _ _ ⟨b4, hb4, rfl, rfl⟩
 refine L_then (kp [1, 2, 3, 6, 8, 9] rfl) ?_
 refine V_seq ?_
 refine Vs rfl ?_
 refine La rfl rfl rfl ?_
 refine L_then (kp [1, 2, 3, 6, 8, 9, 10] rfl) ?_
 refine V_block ?_
 refine V_loopU ?_
 refine LU_step ?_
 refine V_seq ?_
 refine Vs rfl ?_
 refine Lm rfl rfl rfl ?_
 refine Lp rfl (p_lss rfl rfl rfl) ?_
 refine L_then (kp [1, 2, 3, 6, 8, 9, 10, 14] rfl) ?_
 refine V_cond_t rfl rfl ?_
 refine V_skip (then_n ?_)
 refine V_seq ?_
 refine V_block ?_
 refine Vs rfl ?_
 refine Lm rfl rfl rfl ?_
 refine Lr rfl (rlA (vs := [_, _, _, _, _]) ag39 sz39 rfl rfl rfl) ?_
 iterate 3 refine Lm rfl rfl rfl ?_
 refine Lc rfl rfl rfl rfl (fun w hg => rplaces_c t _ ps _ w (hT.good hg) (hS.good hg) hG hp hl _ _ (by omega)) ?_
 refine Lp rfl (p_idxao ar108 rfl rfl rfl (by omega) (by omega)) ?_
 refine Ls (cs' := [_, _, _, _, _, _]) rfl sz24 rfl rfl rfl rfl rfl rfl rfl ?_
 refine L_then (kp [1, 2, 3, 6, 8, 9, 10] rfl) ?_
 refine V_seq ?_
 refine Vs rfl ?_
 refine Lm rfl rfl rfl ?_
 refine Lp rfl (p_idxao ar108 rfl rfl rfl (by omega) (by omega)) ?_
 refine Lr rfl (rlA (vs := [_, _]) ag24 sz24 rfl rfl rfl) ?_
 refine Lc rfl rfl rfl rfl (fun w hg => rnone_c _ _ w) ?_
 refine L_then (kp [1, 2, 3, 6, 8, 9, 10, 27] rfl) ?_
 refine V_cond rfl ?_ ?_
 ·intro c1; try simp only [td] at c1
  refine Vs rfl ?_
  refine Lp rfl (p_build (r := [_, _, _, _, _, _, _, _, _, _, _, _, _]) pl28 zr28 rfl rfl rfl) ?_
  refine Ls (cs' := [_, _, _, _, _, _, _, _, _, _, _, _, _]) rfl sz28 rfl rfl rfl rfl rfl rfl rfl ?_
  refine La rfl rfl rfl ?_
  refine L_then (kp [6, 7] rfl) ?_
  refine V_ret (then_r (blk_r (then_r (then_r (blk_r (then_r ?_))))))
  refine Leave.nil (.cellA (us := [_, _, _, _, _, _, _, _, _, _, _, _, _]) rfl ag28 sz28 (by repeat first | exact mH | apply mT) rfl (.tmp rfl .nil)) ?_
  rw [boxT_0 (partT_none2 c1)]; rfl
 intro c1; try simp only [td] at c1
 refine V_skip (then_n ?_)
 refine Vs rfl ?_
 refine Lr rfl (rlA (vs := [_, _, _, _, _]) ag39 sz39 rfl rfl rfl) ?_
 iterate 3 refine Lm rfl rfl rfl ?_
 refine Lw rfl (w_callN rfl rfl rfl (fun w hg => rspeeds_c t _ ps _ w (hT.good hg) (hS.good hg) hG hp hl _ u hu)) ?_
 rintro _ _ ⟨_, rfl, _, ⟨lo1, hi1, ok1, rfl, hok1⟩, rfl⟩
 try simp only [List.nil_append]
 refine Lm rfl rfl rfl ?_
 iterate 2 refine Lp rfl (p_ext rfl rfl rfl) ?_
 refine Lw rfl (w_alloc zr24 rfl) ?_
 rintro _ _ ⟨b6, hb6, rfl, rfl⟩
 refine Ls (cs' := [_, _]) rfl sz24 rfl rfl rfl rfl rfl rfl rfl ?_
 refine La rfl rfl rfl ?_
 refine L_then (kp [1, 2, 3, 6, 8, 9, 10, 11, 12] rfl) ?_
 refine V_seq ?_
 refine Vs rfl ?_
 refine Lm rfl rfl rfl ?_
 refine Lp rfl (p_not rfl rfl) ?_
 refine Lm rfl rfl rfl ?_
 refine L_cases (d := 39) rfl ?_ ?_
 ·intro g1; have g1' := g1; try simp only [td] at g1'
  iterate 2 refine L_no rfl rfl rfl g1 ?_
  refine Lp rfl (p_pick_t rfl rfl g1 rfl) ?_
  refine L_then (kp [1, 2, 3, 6, 8, 9, 10, 11, 42] rfl) ?_
  refine V_cond_t rfl rfl ?_
  refine Vs rfl ?_
  refine Lp rfl (p_build (r := [_, _, _, _, _, _, _, _, _, _, _, _, _]) pl28 zr28 rfl rfl rfl) ?_
  refine Ls (cs' := [_, _, _, _, _, _, _, _, _, _, _, _, _]) rfl sz28 rfl rfl rfl rfl rfl rfl rfl ?_
  refine La rfl rfl rfl ?_
  refine L_then (kp [6, 7] rfl) ?_
  refine V_ret (then_r (blk_r (then_r (then_r (blk_r (then_r ?_))))))
  refine Leave.nil (.cellA (us := [_, _, _, _, _, _, _, _, _, _, _, _, _]) rfl ag28 sz28 (by repeat first | exact mH | apply mT) rfl (.tmp rfl .nil)) ?_
  rw [boxT_0 (partT_none1 (sv_none hok1 (.inl g1')))]; rfl
 intro g1; have g1' := g1; try simp only [td] at g1'
 refine L_yes rfl rfl rfl g1 (X_rd (rlA (vs := [_, _]) ag24 sz24 rfl rfl rfl) ?_)
 refine L_yes rfl rfl rfl g1 (X_wr (w_callP rfl rfl rfl (fun w hg => rnone_c _ _ w)) ?_)
 rintro _ _ ⟨rfl, rfl⟩
 refine Lp rfl (p_pick_f rfl rfl g1 rfl) ?_
 refine L_then (kp [1, 2, 3, 6, 8, 9, 10, 11, 42] rfl) ?_
 refine V_cond rfl ?_ ?_
 ·intro c2; try simp only [td] at c2
  refine Vs rfl ?_
  refine Lp rfl (p_build (r := [_, _, _, _, _, _, _, _, _, _, _, _, _]) pl28 zr28 rfl rfl rfl) ?_
  refine Ls (cs' := [_, _, _, _, _, _, _, _, _, _, _, _, _]) rfl sz28 rfl rfl rfl rfl rfl rfl rfl ?_
  refine La rfl rfl rfl ?_
  refine L_then (kp [6, 7] rfl) ?_
  refine V_ret (then_r (blk_r (then_r (then_r (blk_r (then_r ?_))))))
  refine Leave.nil (.cellA (us := [_, _, _, _, _, _, _, _, _, _, _, _, _]) rfl ag28 sz28 (by repeat first | exact mH | apply mT) rfl (.tmp rfl .nil)) ?_
  rw [boxT_0 (partT_none1 (sv_none hok1 (.inr c2)))]; rfl
 intro c2; try simp only [td] at c2
 refine V_skip (then_n ?_)
 refine V_region rfl ?_
 refine Lm rfl rfl rfl ?_
 refine Lr rfl (rlA (vs := [_, _]) ag24 sz24 rfl rfl rfl) ?_
 refine Lp rfl (p_idxao ar108 rfl rfl rfl (by omega) (by omega)) ?_
 refine Ls (cs' := [_, _, _, _, _, _]) rfl sz24 rfl rfl rfl rfl rfl rfl rfl ?_
 refine L_keep (kp [1, 2, 3, 6, 8, 9, 10] rfl) (blk_n (then_n ?_))
 refine V_region rfl ?_
 refine Lm rfl rfl rfl ?_
 first | refine Lp rfl (p_add' rfl rfl rfl (by unfold InI; omega)) ?_ | refine Lp rfl (p_add rfl rfl rfl) ?_
 refine La rfl rfl rfl ?_
 refine L_keep (kp [1, 2, 3, 6, 8, 9, 10] rfl) (then_n ?_)
 refine LU_step ?_
 refine V_seq ?_
 refine Vs rfl ?_
 refine Lm rfl rfl rfl ?_
 refine Lp rfl (p_lss rfl rfl rfl) ?_
 refine L_then (kp [1, 2, 3, 6, 8, 9, 10, 14] rfl) ?_
 refine V_cond_t rfl rfl ?_
 refine V_skip (then_n ?_)
 refine V_seq ?_
 refine V_block ?_
 refine Vs rfl ?_
 refine Lm rfl rfl rfl ?_
 refine Lr rfl (rlA (vs := [_, _, _, _, _]) ag39 sz39 rfl rfl rfl) ?_
 iterate 3 refine Lm rfl rfl rfl ?_
 refine Lc rfl rfl rfl rfl (fun w hg => rplaces_c t _ ps _ w (hT.good hg) (hS.good hg) hG hp hl _ _ (by omega)) ?_
 refine Lp rfl (p_idxao ar108 rfl rfl rfl (by omega) (by omega)) ?_
 refine Ls (cs' := [_, _, _, _, _, _]) rfl sz24 rfl rfl rfl rfl rfl rfl rfl ?_
 refine L_then (kp [1, 2, 3, 6, 8, 9, 10] rfl) ?_
 refine V_seq ?_
 refine Vs rfl ?_
 refine Lm rfl rfl rfl ?_
 refine Lp rfl (p_idxao ar108 rfl rfl rfl (by omega) (by omega)) ?_
 refine Lr rfl (rlA (vs := [_, _]) ag24 sz24 rfl rfl rfl) ?_
 refine Lc rfl rfl rfl rfl (fun w hg => rnone_c _ _ w) ?_
 refine L_then (kp [1, 2, 3, 6, 8, 9, 10, 27] rfl) ?_
 refine V_cond rfl ?_ ?_
 ·intro c3; try simp only [td] at c3
  refine Vs rfl ?_
  refine Lp rfl (p_build (r := [_, _, _, _, _, _, _, _, _, _, _, _, _]) pl28 zr28 rfl rfl rfl) ?_
  refine Ls (cs' := [_, _, _, _, _, _, _, _, _, _, _, _, _]) rfl sz28 rfl rfl rfl rfl rfl rfl rfl ?_
  refine La rfl rfl rfl ?_
  refine L_then (kp [6, 7] rfl) ?_
  refine V_ret (then_r (blk_r (then_r (then_r (blk_r (then_r ?_))))))
  refine Leave.nil (.cellA (us := [_, _, _, _, _, _, _, _, _, _, _, _, _]) rfl ag28 sz28 (by repeat first | exact mH | apply mT) rfl (.tmp rfl .nil)) ?_
  rw [boxT_1 (partT_some (sv_some hok1 g1' c2) c1) (partT_none2 c3)]; rfl
 intro c3; try simp only [td] at c3
 refine V_skip (then_n ?_)
 refine Vs rfl ?_
 refine Lr rfl (rlA (vs := [_, _, _, _, _]) ag39 sz39 rfl rfl rfl) ?_
 iterate 3 refine Lm rfl rfl rfl ?_
 refine Lw rfl (w_callN rfl rfl rfl (fun w hg => rspeeds_c t _ ps _ w (hT.good hg) (hS.good hg) hG hp hl _ u hu)) ?_
 rintro _ _ ⟨_, rfl, _, ⟨lo2, hi2, ok2, rfl, hok2⟩, rfl⟩
 try simp only [List.nil_append]
 refine Lm rfl rfl rfl ?_
 iterate 2 refine Lp rfl (p_ext rfl rfl rfl) ?_
 refine Lw rfl (w_alloc zr24 rfl) ?_
 rintro _ _ ⟨b8, hb8, rfl, rfl⟩
 refine Ls (cs' := [_, _]) rfl sz24 rfl rfl rfl rfl rfl rfl rfl ?_
 refine La rfl rfl rfl ?_
 refine L_then (kp [1, 2, 3, 6, 8, 9, 10, 11, 12] rfl) ?_
 refine V_seq ?_
 refine Vs rfl ?_
 refine Lm rfl rfl rfl ?_
 refine Lp rfl (p_not rfl rfl) ?_
 refine Lm rfl rfl rfl ?_
 refine L_cases (d := 39) rfl ?_ ?_
 ·intro g2; have g2' := g2; try simp only [td] at g2'
  iterate 2 refine L_no rfl rfl rfl g2 ?_
  refine Lp rfl (p_pick_t rfl rfl g2 rfl) ?_
  refine L_then (kp [1, 2, 3, 6, 8, 9, 10, 11, 42] rfl) ?_
  refine V_cond_t rfl rfl ?_
  refine Vs rfl ?_
  refine Lp rfl (p_build (r := [_, _, _, _, _, _, _, _, _, _, _, _, _]) pl28 zr28 rfl rfl rfl) ?_
  refine Ls (cs' := [_, _, _, _, _, _, _, _, _, _, _, _, _]) rfl sz28 rfl rfl rfl rfl rfl rfl rfl ?_
  refine La rfl rfl rfl ?_
  refine L_then (kp [6, 7] rfl) ?_
  refine V_ret (then_r (blk_r (then_r (then_r (blk_r (then_r ?_))))))
  refine Leave.nil (.cellA (us := [_, _, _, _, _, _, _, _, _, _, _, _, _]) rfl ag28 sz28 (by repeat first | exact mH | apply mT) rfl (.tmp rfl .nil)) ?_
  rw [boxT_1 (partT_some (sv_some hok1 g1' c2) c1) (partT_none1 (sv_none hok2 (.inl g2')))]; rfl
 intro g2; have g2' := g2; try simp only [td] at g2'
 refine L_yes rfl rfl rfl g2 (X_rd (rlA (vs := [_, _]) ag24 sz24 rfl rfl rfl) ?_)
 refine L_yes rfl rfl rfl g2 (X_wr (w_callP rfl rfl rfl (fun w hg => rnone_c _ _ w)) ?_)
 rintro _ _ ⟨rfl, rfl⟩
 refine Lp rfl (p_pick_f rfl rfl g2 rfl) ?_
 refine L_then (kp [1, 2, 3, 6, 8, 9, 10, 11, 42] rfl) ?_
 refine V_cond rfl ?_ ?_
 ·intro c4; try simp only [td] at c4
  refine Vs rfl ?_
  refine Lp rfl (p_build (r := [_, _, _, _, _, _, _, _, _, _, _, _, _]) pl28 zr28 rfl rfl rfl) ?_
  refine Ls (cs' := [_, _, _, _, _, _, _, _, _, _, _, _, _]) rfl sz28 rfl rfl rfl rfl rfl rfl rfl ?_
  refine La rfl rfl rfl ?_
  refine L_then (kp [6, 7] rfl) ?_
  refine V_ret (then_r (blk_r (then_r (then_r (blk_r (then_r ?_))))))
  refine Leave.nil (.cellA (us := [_, _, _, _, _, _, _, _, _, _, _, _, _]) rfl ag28 sz28 (by repeat first | exact mH | apply mT) rfl (.tmp rfl .nil)) ?_
  rw [boxT_1 (partT_some (sv_some hok1 g1' c2) c1) (partT_none1 (sv_none hok2 (.inr c4)))]; rfl
 intro c4; try simp only [td] at c4
 refine V_skip (then_n ?_)
 refine V_region rfl ?_
 refine Lm rfl rfl rfl ?_
 refine Lr rfl (rlA (vs := [_, _]) ag24 sz24 rfl rfl rfl) ?_
 refine Lp rfl (p_idxao ar108 rfl rfl rfl (by omega) (by omega)) ?_
 refine Ls (cs' := [_, _, _, _, _, _]) rfl sz24 rfl rfl rfl rfl rfl rfl rfl ?_
 refine L_keep (kp [1, 2, 3, 6, 8, 9, 10] rfl) (blk_n (then_n ?_))
 refine V_region rfl ?_
 refine Lm rfl rfl rfl ?_
 first | refine Lp rfl (p_add' rfl rfl rfl (by unfold InI; omega)) ?_ | refine Lp rfl (p_add rfl rfl rfl) ?_
 refine La rfl rfl rfl ?_
 refine L_keep (kp [1, 2, 3, 6, 8, 9, 10] rfl) (then_n ?_)
 refine LU_step ?_
 refine V_seq ?_
 refine Vs rfl ?_
 refine Lm rfl rfl rfl ?_
 refine Lp rfl (p_lss rfl rfl rfl) ?_
 refine L_then (kp [1, 2, 3, 6, 8, 9, 10, 14] rfl) ?_
 refine V_cond_t rfl rfl ?_
 refine V_skip (then_n ?_)
 refine V_seq ?_
 refine V_block ?_
 refine Vs rfl ?_
 refine Lm rfl rfl rfl ?_
 refine Lr rfl (rlA (vs := [_, _, _, _, _]) ag39 sz39 rfl rfl rfl) ?_
 iterate 3 refine Lm rfl rfl rfl ?_
 refine Lc rfl rfl rfl rfl (fun w hg => rplaces_c t _ ps _ w (hT.good hg) (hS.good hg) hG hp hl _ _ (by omega)) ?_
 refine Lp rfl (p_idxao ar108 rfl rfl rfl (by omega) (by omega)) ?_
 refine Ls (cs' := [_, _, _, _, _, _]) rfl sz24 rfl rfl rfl rfl rfl rfl rfl ?_
 refine L_then (kp [1, 2, 3, 6, 8, 9, 10] rfl) ?_
 refine V_seq ?_
 refine Vs rfl ?_
 refine Lm rfl rfl rfl ?_
 refine Lp rfl (p_idxao ar108 rfl rfl rfl (by omega) (by omega)) ?_
 refine Lr rfl (rlA (vs := [_, _]) ag24 sz24 rfl rfl rfl) ?_
 refine Lc rfl rfl rfl rfl (fun w hg => rnone_c _ _ w) ?_
 refine L_then (kp [1, 2, 3, 6, 8, 9, 10, 27] rfl) ?_
 refine V_cond rfl ?_ ?_
 ·intro c5; try simp only [td] at c5
  refine Vs rfl ?_
  refine Lp rfl (p_build (r := [_, _, _, _, _, _, _, _, _, _, _, _, _]) pl28 zr28 rfl rfl rfl) ?_
  refine Ls (cs' := [_, _, _, _, _, _, _, _, _, _, _, _, _]) rfl sz28 rfl rfl rfl rfl rfl rfl rfl ?_
  refine La rfl rfl rfl ?_
  refine L_then (kp [6, 7] rfl) ?_
  refine V_ret (then_r (blk_r (then_r (then_r (blk_r (then_r ?_))))))
  refine Leave.nil (.cellA (us := [_, _, _, _, _, _, _, _, _, _, _, _, _]) rfl ag28 sz28 (by repeat first | exact mH | apply mT) rfl (.tmp rfl .nil)) ?_
  rw [boxT_2 (partT_some (sv_some hok1 g1' c2) c1) (partT_some (sv_some hok2 g2' c4) c3) (partT_none2 c5)]; rfl
 intro c5; try simp only [td] at c5
 refine V_skip (then_n ?_)
 refine Vs rfl ?_
 refine Lr rfl (rlA (vs := [_, _, _, _, _]) ag39 sz39 rfl rfl rfl) ?_
 iterate 3 refine Lm rfl rfl rfl ?_
 refine Lw rfl (w_callN rfl rfl rfl (fun w hg => rspeeds_c t _ ps _ w (hT.good hg) (hS.good hg) hG hp hl _ u hu)) ?_
 rintro _ _ ⟨_, rfl, _, ⟨lo3, hi3, ok3, rfl, hok3⟩, rfl⟩
 try simp only [List.nil_append]
 refine Lm rfl rfl rfl ?_
 iterate 2 refine Lp rfl (p_ext rfl rfl rfl) ?_
 refine Lw rfl (w_alloc zr24 rfl) ?_
 rintro _ _ ⟨b10, hb10, rfl, rfl⟩
 refine Ls (cs' := [_, _]) rfl sz24 rfl rfl rfl rfl rfl rfl rfl ?_
 refine La rfl rfl rfl ?_
 refine L_then (kp [1, 2, 3, 6, 8, 9, 10, 11, 12] rfl) ?_
 refine V_seq ?_
 refine Vs rfl ?_
 refine Lm rfl rfl rfl ?_
 refine Lp rfl (p_not rfl rfl) ?_
 refine Lm rfl rfl rfl ?_
 refine L_cases (d := 39) rfl ?_ ?_
 ·intro g3; have g3' := g3; try simp only [td] at g3'
  iterate 2 refine L_no rfl rfl rfl g3 ?_
  refine Lp rfl (p_pick_t rfl rfl g3 rfl) ?_
  refine L_then (kp [1, 2, 3, 6, 8, 9, 10, 11, 42] rfl) ?_
  refine V_cond_t rfl rfl ?_
  refine Vs rfl ?_
  refine Lp rfl (p_build (r := [_, _, _, _, _, _, _, _, _, _, _, _, _]) pl28 zr28 rfl rfl rfl) ?_
  refine Ls (cs' := [_, _, _, _, _, _, _, _, _, _, _, _, _]) rfl sz28 rfl rfl rfl rfl rfl rfl rfl ?_
  refine La rfl rfl rfl ?_
  refine L_then (kp [6, 7] rfl) ?_
  refine V_ret (then_r (blk_r (then_r (then_r (blk_r (then_r ?_))))))
  refine Leave.nil (.cellA (us := [_, _, _, _, _, _, _, _, _, _, _, _, _]) rfl ag28 sz28 (by repeat first | exact mH | apply mT) rfl (.tmp rfl .nil)) ?_
  rw [boxT_2 (partT_some (sv_some hok1 g1' c2) c1) (partT_some (sv_some hok2 g2' c4) c3) (partT_none1 (sv_none hok3 (.inl g3')))]; rfl
 intro g3; have g3' := g3; try simp only [td] at g3'
 refine L_yes rfl rfl rfl g3 (X_rd (rlA (vs := [_, _]) ag24 sz24 rfl rfl rfl) ?_)
 refine L_yes rfl rfl rfl g3 (X_wr (w_callP rfl rfl rfl (fun w hg => rnone_c _ _ w)) ?_)
 rintro _ _ ⟨rfl, rfl⟩
 refine Lp rfl (p_pick_f rfl rfl g3 rfl) ?_
 refine L_then (kp [1, 2, 3, 6, 8, 9, 10, 11, 42] rfl) ?_
 refine V_cond rfl ?_ ?_
 ·intro c6; try simp only [td] at c6
  refine Vs rfl ?_
  refine Lp rfl (p_build (r := [_, _, _, _, _, _, _, _, _, _, _, _, _]) pl28 zr28 rfl rfl rfl) ?_
  refine Ls (cs' := [_, _, _, _, _, _, _, _, _, _, _, _, _]) rfl sz28 rfl rfl rfl rfl rfl rfl rfl ?_
  refine La rfl rfl rfl ?_
  refine L_then (kp [6, 7] rfl) ?_
  refine V_ret (then_r (blk_r (then_r (then_r (blk_r (then_r ?_))))))
  refine Leave.nil (.cellA (us := [_, _, _, _, _, _, _, _, _, _, _, _, _]) rfl ag28 sz28 (by repeat first | exact mH | apply mT) rfl (.tmp rfl .nil)) ?_
  rw [boxT_2 (partT_some (sv_some hok1 g1' c2) c1) (partT_some (sv_some hok2 g2' c4) c3) (partT_none1 (sv_none hok3 (.inr c6)))]; rfl
 intro c6; try simp only [td] at c6
 refine V_skip (then_n ?_)
 refine V_region rfl ?_
 refine Lm rfl rfl rfl ?_
 refine Lr rfl (rlA (vs := [_, _]) ag24 sz24 rfl rfl rfl) ?_
 refine Lp rfl (p_idxao ar108 rfl rfl rfl (by omega) (by omega)) ?_
 refine Ls (cs' := [_, _, _, _, _, _]) rfl sz24 rfl rfl rfl rfl rfl rfl rfl ?_
 refine L_keep (kp [1, 2, 3, 6, 8, 9, 10] rfl) (blk_n (then_n ?_))
 refine V_region rfl ?_
 refine Lm rfl rfl rfl ?_
 first | refine Lp rfl (p_add' rfl rfl rfl (by unfold InI; omega)) ?_ | refine Lp rfl (p_add rfl rfl rfl) ?_
 refine La rfl rfl rfl ?_
 refine L_keep (kp [1, 2, 3, 6, 8, 9, 10] rfl) (then_n ?_)
 refine LU_step ?_
 refine V_seq ?_
 refine Vs rfl ?_
 refine Lm rfl rfl rfl ?_
 refine Lp rfl (p_lss rfl rfl rfl) ?_
 refine L_then (kp [1, 2, 3, 6, 8, 9, 10, 14] rfl) ?_
 refine V_cond_f rfl rfl ?_
 refine V_exit (then_e (then_e (blk_e rfl (then_n ?_))))
 refine Vs rfl ?_
 refine Lm rfl rfl rfl ?_
 refine Lp rfl (p_idxao ar108 rfl rfl rfl (by omega) (by omega)) ?_
 refine Lr rfl (rlA (vs := [_, _]) ag24 sz24 rfl rfl rfl) ?_
 refine Lp rfl (p_idxao ar108 rfl rfl rfl (by omega) (by omega)) ?_
 refine Lr rfl (rlA (vs := [_, _]) ag24 sz24 rfl rfl rfl) ?_
 refine Lp rfl (p_idxao ar108 rfl rfl rfl (by omega) (by omega)) ?_
 refine Lr rfl (rlA (vs := [_, _]) ag24 sz24 rfl rfl rfl) ?_
 refine Lp rfl (p_idxao ar108 rfl rfl rfl (by omega) (by omega)) ?_
 refine Lr rfl (rlA (vs := [_, _]) ag24 sz24 rfl rfl rfl) ?_
 refine Lp rfl (p_idxao ar108 rfl rfl rfl (by omega) (by omega)) ?_
 refine Lr rfl (rlA (vs := [_, _]) ag24 sz24 rfl rfl rfl) ?_
 refine Lp rfl (p_idxao ar108 rfl rfl rfl (by omega) (by omega)) ?_
 refine Lr rfl (rlA (vs := [_, _]) ag24 sz24 rfl rfl rfl) ?_
 refine Lp rfl (p_build (r := [_, _, _, _, _, _, _, _, _, _, _, _, _]) pl28 zr28 rfl rfl rfl) ?_
 refine Ls (cs' := [_, _, _, _, _, _, _, _, _, _, _, _, _]) rfl sz28 rfl rfl rfl rfl rfl rfl rfl ?_
 refine La rfl rfl rfl ?_
 refine L_then (kp [6, 7] rfl) ?_
 refine V_ret ?_
 refine Leave.nil (.cellA (us := [_, _, _, _, _, _, _, _, _, _, _, _, _]) rfl ag28 sz28 (by repeat first | exact mH | apply mT) rfl (.tmp rfl .nil)) ?_
 rw [boxT_3 (partT_some (sv_some hok1 g1' c2) c1) (partT_some (sv_some hok2 g2' c4) c3) (partT_some (sv_some hok3 g3' c6) c5)]; rfl

end Go.Proofs.YtlcccpeelombbaaGreatDoor

/- YtlcccpeelombbaaGreatDoor: the reference's Where and Alone. -/
set_option linter.all false
namespace Go.Proofs.YtlcccpeelombbaaGreatDoor
open Go.Vc Go.Tk
set_option maxRecDepth 100000
theorem rby_c (t : Task) (v : Value) (w : World) (ht : TaskR w v t) (hG : GoodT t) (but alone now : Int) : FnC Tryz.prog 117 [v, .int .i64 but, .int .i64 alone, .int .i64 now] w fun v w' => ∃ Hc, Vc.Good w [] Hc w' ∧ ∃ A G, Hc = A ++ G ∧ ListOut 3 (byT t now (wantR but alone)) (fun sv => sv) v A G := by
 have hT := ht
 obtain ⟨tv, pv, rfl, htr, hpl⟩ := ht.ex
 obtain ⟨ta, tc, rfl, htc, hte⟩ := htr.ex
 obtain ⟨pa, pc, rfl, hpc, hpe⟩ := hpl.ex
 have hltr := hT.ltr
 have hlpl := hT.lpl
 simp only [List.length_map] at hT htc hpc ⊢
 have hpl60 := hG.h2
 refine fn_new Tryz.func117 rfl (by kernel_rfl) Tryz.ntmps117 Tryz.results117 rfl ?_
 refine Vs rfl ?_
 refine Lw rfl (w_box rfl rfl) ?_
 rintro _ _ ⟨b1, hb1, rfl, rfl⟩
 refine La rfl rfl rfl ?_
 refine L_then (kp [1, 2, 3, 4] rfl) ?_
 refine Vs rfl ?_
 refine La rfl rfl rfl ?_
 refine L_then (kp [1, 2, 3, 4, 9] rfl) ?_
 refine V_seq ?_
 refine Vs rfl ?_
 refine La rfl rfl rfl ?_
 refine L_then (kp [1, 2, 3, 4, 9, 10] rfl) ?_
 refine V_block ?_
 refine V_loop1 (γ := Int × Value × Heap) (kp [1, 2, 3, 4] rfl) (fun (k, sv, G) => [(10, .int .i64 k), (9, sv)]) (fun (k, sv, G) => (b1, t.obj (.slice ta t.trackers.length tc) (.slice pa t.plots.length pc) 39) :: G) (fun (k, sv, G) => 0 ≤ k ∧ k ≤ t.plots.length ∧ Grow 3 1 sv (byN t now (wantR but alone) k.toNat).length (iiL (byN t now (wantR but alone) k.toNat)) G) (fun (k, sv, G) => (t.plots.length - k).toNat) ((0, .slice none 0 0, [])) (.cons rfl (.cons rfl (.nil _))) (by repeat (first | exact List.Sublist.refl _ | apply List.Sublist.cons_cons | apply List.Sublist.cons)) (⟨by omega, by omega, .nil⟩) ?_
 rintro ⟨k, sv, G⟩ hi
 obtain ⟨hk0, hk1, hgr⟩ := hi
 have hkl := byN_len (t := t) (now := now) (want := wantR but alone) k.toNat
 refine V_seq ?_
 refine Vs rfl ?_
 refine Lm rfl rfl rfl ?_
 refine Lp rfl (p_fieldo fo39_4 rfl rfl) ?_
 refine Lr rfl (rl ag37 rfl rfl rfl) ?_
 refine Lp rfl (p_len isl37 rfl rfl) ?_
 refine Lp rfl (p_lss rfl rfl rfl) ?_
 refine L_then (kp [1, 2, 3, 4, 9, 10, 16] rfl) ?_
 refine V_cond rfl ?_ ?_
 ·intro c1; try simp only [td] at c1
  obtain ⟨pb, rfl, hcp⟩ := hpe k.toNat _ (getD_cells (d := plZ) (by omega))
  refine V_skip (then_n ?_)
  refine V_seq ?_
  refine V_block ?_
  refine Vs rfl ?_
  refine Lp rfl (p_fieldo fo39_4 rfl rfl) ?_
  refine Lr rfl (rl ag37 rfl rfl rfl) ?_
  refine Lm rfl rfl rfl ?_
  refine Lp rfl (p_idx es37 rfl rfl rfl (by omega) (by omega)) ?_
  refine Lp rfl (p_field fo138_0 rfl rfl) ?_
  refine Lr rfl (r_loadB ag3 rfl rfl (hcp 0 _ rfl) List.not_mem_nil) ?_
  refine La rfl rfl rfl ?_
  refine L_then (kp [1, 2, 3, 4, 9, 10, 11] rfl) ?_
  refine Vs rfl ?_
  refine Lr rfl (rlA (vs := [_, _, _, _, _]) ag39 sz39 rfl rfl rfl) ?_
  iterate 2 refine Lm rfl rfl rfl ?_
  refine Lc rfl rfl rfl rfl (fun w hg => rknown_c t _ w (hT.good hg) hG _ _ (by omega) (by omega)) ?_
  refine Lm rfl rfl rfl ?_
  refine L_cases (d := 29) rfl ?_ ?_
  ·intro g1; have g1' := g1; try simp only [td] at g1'
   refine L_yes rfl rfl rfl g1 (X_p (p_move rfl rfl) ?_)
   refine L_yes rfl rfl rfl g1 (X_p (p_move rfl rfl) ?_)
   refine L_yes rfl rfl rfl g1 (X_p (p_neq rfl rfl rfl) ?_)
   refine Lp rfl (p_pick_t rfl rfl g1 rfl) ?_
   refine Lm rfl rfl rfl ?_
   refine L_cases (d := 34) rfl ?_ ?_
   ·intro g2; have g2' := g2; try simp only [td] at g2'
    refine L_yes rfl rfl rfl g2 (X_p (p_move rfl rfl) ?_)
    refine L_yes rfl rfl rfl g2 (X_p (p_eql rfl rfl rfl) ?_)
    refine L_yes rfl rfl rfl g2 (X_p (p_move rfl rfl) ?_)
    refine L_cases (d := 37) rfl ?_ ?_
    ·intro g3; have g3' := g3; try simp only [td] at g3'
     iterate 3 refine L_no rfl rfl rfl g3 ?_
     refine L_yes rfl rfl rfl g2 (X_p (p_pick_t rfl rfl g3 rfl) ?_)
     refine Lp rfl (p_pick_t rfl rfl g2 rfl) ?_
     refine L_then (kp [1, 2, 3, 4, 9, 10, 42] rfl) ?_
     refine V_cond_t rfl rfl ?_
     refine V_region rfl ?_
     iterate 2 refine Lm rfl rfl rfl ?_
     refine Lw rfl (w_slice (r := [_]) un53 sz3 zr3 rfl (by decide) rfl (by decide) rfl rfl) ?_
     rintro _ _ ⟨b2, hb2, rfl, rfl⟩
     refine Lw rfl (w_app (pre := [_, _]) (G := G) (post := []) ap53 rfl rfl rfl hgr (by rw [List.append_nil]; rfl) rfl (news_own (by repeat first | exact mH | apply mT)) (by simp [Value.oneCell']) (by omega) (by simp only [maxLen]; omega)) ?_
     rintro _ _ ⟨G1a, G1c, G1, rfl, rfl, hgr1⟩
     try simp only [List.cons_append, List.nil_append, List.append_nil]
     refine La rfl rfl rfl ?_
     refine L_keep (kp [1, 2, 3, 4, 9, 10] rfl) (blk_n (then_n ?_))
     refine V_region rfl ?_
     refine Lm rfl rfl rfl ?_
     first | refine Lp rfl (p_add' rfl rfl rfl (by unfold InI; omega)) ?_ | refine Lp rfl (p_add rfl rfl rfl) ?_
     refine La rfl rfl rfl ?_
     refine L_keep (kp [1, 2, 3, 4, 9, 10] rfl) (then_n ?_)
     refine ⟨(k + 1, _, G1), ?_, ?_, (.cons rfl (.cons rfl (.cons rfl (.cons rfl (.cons rfl (.cons rfl (.nil _))))))), (by repeat (first | exact List.Sublist.refl _ | apply List.Sublist.cons_cons | apply List.Sublist.cons | apply List.sublist_append_of_sublist_right)), rfl⟩
     ·refine ⟨by omega, by omega, ?_⟩
      rw [byN_yes hk0 (by assumption) (wantR_yes (x := (t.plots.getD k.toNat plZ).tracker) (by assumption) (by first | exact .inl (by assumption) | exact .inr (by assumption))), List.length_append, iiL, List.map_append]; exact hgr1
     dsimp only; omega
    intro g3; have g3' := g3; try simp only [td] at g3'
    refine L_yes rfl rfl rfl g3 (X_p (p_move rfl rfl) ?_)
    refine L_yes rfl rfl rfl g3 (X_p (p_move rfl rfl) ?_)
    refine L_yes rfl rfl rfl g3 (X_p (p_eql rfl rfl rfl) ?_)
    refine L_yes rfl rfl rfl g2 (X_p (p_pick_f rfl rfl g3 rfl) ?_)
    refine Lp rfl (p_pick_t rfl rfl g2 rfl) ?_
    refine L_then (kp [1, 2, 3, 4, 9, 10, 42] rfl) ?_
    refine V_cond rfl ?_ ?_
    ·intro c2; try simp only [td] at c2
     refine V_region rfl ?_
     iterate 2 refine Lm rfl rfl rfl ?_
     refine Lw rfl (w_slice (r := [_]) un53 sz3 zr3 rfl (by decide) rfl (by decide) rfl rfl) ?_
     rintro _ _ ⟨b2, hb2, rfl, rfl⟩
     refine Lw rfl (w_app (pre := [_, _]) (G := G) (post := []) ap53 rfl rfl rfl hgr (by rw [List.append_nil]; rfl) rfl (news_own (by repeat first | exact mH | apply mT)) (by simp [Value.oneCell']) (by omega) (by simp only [maxLen]; omega)) ?_
     rintro _ _ ⟨G1a, G1c, G1, rfl, rfl, hgr1⟩
     try simp only [List.cons_append, List.nil_append, List.append_nil]
     refine La rfl rfl rfl ?_
     refine L_keep (kp [1, 2, 3, 4, 9, 10] rfl) (blk_n (then_n ?_))
     refine V_region rfl ?_
     refine Lm rfl rfl rfl ?_
     first | refine Lp rfl (p_add' rfl rfl rfl (by unfold InI; omega)) ?_ | refine Lp rfl (p_add rfl rfl rfl) ?_
     refine La rfl rfl rfl ?_
     refine L_keep (kp [1, 2, 3, 4, 9, 10] rfl) (then_n ?_)
     refine ⟨(k + 1, _, G1), ?_, ?_, (.cons rfl (.cons rfl (.cons rfl (.cons rfl (.cons rfl (.cons rfl (.nil _))))))), (by repeat (first | exact List.Sublist.refl _ | apply List.Sublist.cons_cons | apply List.Sublist.cons | apply List.sublist_append_of_sublist_right)), rfl⟩
     ·refine ⟨by omega, by omega, ?_⟩
      rw [byN_yes hk0 (by assumption) (wantR_yes (x := (t.plots.getD k.toNat plZ).tracker) (by assumption) (by first | exact .inl (by assumption) | exact .inr (by assumption))), List.length_append, iiL, List.map_append]; exact hgr1
     dsimp only; omega
    intro c2; try simp only [td] at c2
    refine V_skip (blk_n (then_n ?_))
    refine V_region rfl ?_
    refine Lm rfl rfl rfl ?_
    first | refine Lp rfl (p_add' rfl rfl rfl (by unfold InI; omega)) ?_ | refine Lp rfl (p_add rfl rfl rfl) ?_
    refine La rfl rfl rfl ?_
    refine L_keep (kp [1, 2, 3, 4, 9, 10] rfl) (then_n ?_)
    refine ⟨(k + 1, sv, G), ?_, ?_, (.cons rfl (.cons rfl (.cons rfl (.cons rfl (.cons rfl (.cons rfl (.nil _))))))), (by repeat (first | exact List.Sublist.refl _ | apply List.Sublist.cons_cons | apply List.Sublist.cons | apply List.sublist_append_of_sublist_right)), rfl⟩
    ·refine ⟨by omega, by omega, ?_⟩
     rw [byN_no hk0 (by first | exact .inl (by assumption) | exact .inr (wantR_no1 (x := (t.plots.getD k.toNat plZ).tracker) (by assumption)) | exact .inr (wantR_no2 (x := (t.plots.getD k.toNat plZ).tracker) (by assumption) (by assumption)))]; exact hgr
    dsimp only; omega
   intro g2; have g2' := g2; try simp only [td] at g2'
   iterate 3 refine L_no rfl rfl rfl g2 ?_
   iterate 3 refine L_nou rfl rfl rfl ?_
   refine L_no rfl rfl rfl g2 ?_
   refine Lp rfl (p_pick_f rfl rfl g2 rfl) ?_
   refine L_then (kp [1, 2, 3, 4, 9, 10, 42] rfl) ?_
   refine V_cond_f rfl rfl ?_
   refine V_skip (blk_n (then_n ?_))
   refine V_region rfl ?_
   refine Lm rfl rfl rfl ?_
   first | refine Lp rfl (p_add' rfl rfl rfl (by unfold InI; omega)) ?_ | refine Lp rfl (p_add rfl rfl rfl) ?_
   refine La rfl rfl rfl ?_
   refine L_keep (kp [1, 2, 3, 4, 9, 10] rfl) (then_n ?_)
   refine ⟨(k + 1, sv, G), ?_, ?_, (.cons rfl (.cons rfl (.cons rfl (.cons rfl (.cons rfl (.cons rfl (.nil _))))))), (by repeat (first | exact List.Sublist.refl _ | apply List.Sublist.cons_cons | apply List.Sublist.cons | apply List.sublist_append_of_sublist_right)), rfl⟩
   ·refine ⟨by omega, by omega, ?_⟩
    rw [byN_no hk0 (by first | exact .inl (by assumption) | exact .inr (wantR_no1 (x := (t.plots.getD k.toNat plZ).tracker) (by assumption)) | exact .inr (wantR_no2 (x := (t.plots.getD k.toNat plZ).tracker) (by assumption) (by assumption)))]; exact hgr
   dsimp only; omega
  intro g1; have g1' := g1; try simp only [td] at g1'
  iterate 3 refine L_no rfl rfl rfl g1 ?_
  refine Lp rfl (p_pick_f rfl rfl g1 rfl) ?_
  refine Lm rfl rfl rfl ?_
  iterate 3 refine L_no rfl rfl rfl rfl ?_
  iterate 3 refine L_nou rfl rfl rfl ?_
  refine L_no rfl rfl rfl rfl ?_
  refine Lp rfl (p_pick_f rfl rfl rfl rfl) ?_
  refine L_then (kp [1, 2, 3, 4, 9, 10, 42] rfl) ?_
  refine V_cond_f rfl rfl ?_
  refine V_skip (blk_n (then_n ?_))
  refine V_region rfl ?_
  refine Lm rfl rfl rfl ?_
  first | refine Lp rfl (p_add' rfl rfl rfl (by unfold InI; omega)) ?_ | refine Lp rfl (p_add rfl rfl rfl) ?_
  refine La rfl rfl rfl ?_
  refine L_keep (kp [1, 2, 3, 4, 9, 10] rfl) (then_n ?_)
  refine ⟨(k + 1, sv, G), ?_, ?_, (.cons rfl (.cons rfl (.cons rfl (.cons rfl (.cons rfl (.cons rfl (.nil _))))))), (by repeat (first | exact List.Sublist.refl _ | apply List.Sublist.cons_cons | apply List.Sublist.cons | apply List.sublist_append_of_sublist_right)), rfl⟩
  ·refine ⟨by omega, by omega, ?_⟩
   rw [byN_no hk0 (by first | exact .inl (by assumption) | exact .inr (wantR_no1 (x := (t.plots.getD k.toNat plZ).tracker) (by assumption)) | exact .inr (wantR_no2 (x := (t.plots.getD k.toNat plZ).tracker) (by assumption) (by assumption)))]; exact hgr
  dsimp only; omega
 intro c1; try simp only [td] at c1
 refine V_exit (then_e (then_e (blk_e rfl (then_n ?_))))
 refine Vs rfl ?_
 refine Lm rfl rfl rfl ?_
 refine La rfl rfl rfl ?_
 refine L_then (kp [8] rfl) ?_
 refine V_ret ?_
 refine Leave.nil (.tmp rfl .nil) ?_
 have ek : k.toNat = t.plots.length := by omega
 rw [ek] at hgr
 exact ⟨G, (by (try dsimp only); repeat (first | exact HSub.nil _ | refine HSub.take (by repeat first | exact Take.head | apply Take.tail) ?_ | exact HSub.refl _ | refine HSub.drop ?_ | refine HSub.app ?_)), [], G, rfl, sv, rfl, rfl, hgr⟩
theorem rasked_c (t : Task) (v : Value) (w : World) (ht : TaskR w v t) (u now : Int) : FnP Tryz.prog 103 [v, .int .i64 u, .int .i64 now] w (.int .i64 (askedT t [u, now])) := by
 have hT := ht
 obtain ⟨tv, pv, rfl, htr, hpl⟩ := ht.ex
 obtain ⟨ta, tc, rfl, htc, hte⟩ := htr.ex
 obtain ⟨pa, pc, rfl, hpc, hpe⟩ := hpl.ex
 have hltr := hT.ltr
 have hlpl := hT.lpl
 simp only [List.length_map] at hT htc hpc ⊢
 refine fn_pure Tryz.func103 rfl (by kernel_rfl) Tryz.ntmps103 Tryz.results103 rfl ?_
 refine Vs rfl ?_
 refine Lw rfl (w_box rfl rfl) ?_
 rintro _ _ ⟨b1, hb1, rfl, rfl⟩
 refine La rfl rfl rfl ?_
 refine L_then (kp [1, 2, 3] rfl) ?_
 refine Vs rfl ?_
 refine Lr rfl (rlA (vs := [_, _, _, _, _]) ag39 sz39 rfl rfl rfl) ?_
 refine Lc rfl rfl rfl rfl (fun w hg => rvalid_c t _ w (hT.good hg)) ?_
 refine La rfl rfl rfl ?_
 refine L_then (kp [1, 2, 7] rfl) ?_
 refine V_seq ?_
 refine Vs rfl ?_
 refine Lm rfl rfl rfl ?_
 refine Lp rfl (p_eql rfl rfl rfl) ?_
 refine Lm rfl rfl rfl ?_
 refine L_cases (d := 12) rfl ?_ ?_
 ·intro g1; have g1' := g1; try simp only [td] at g1'
  refine L_yes rfl rfl rfl g1 (X_p (p_move rfl rfl) ?_)
  refine L_yes rfl rfl rfl g1 (X_wr (w_callP rfl rfl rfl (fun w hg => rtick_c _ w)) ?_)
  rintro _ _ ⟨rfl, rfl⟩
  refine L_yes rfl rfl rfl g1 (X_p (p_not rfl rfl) ?_)
  refine L_yes rfl rfl rfl g1 (X_p (p_move rfl rfl) ?_)
  refine L_cases (d := 16) rfl ?_ ?_
  ·intro g2; have g2' := g2; try simp only [td] at g2'
   iterate 3 refine L_no rfl rfl rfl g2 ?_
   refine L_yes rfl rfl rfl g1 (X_p (p_pick_t rfl rfl g2 rfl) ?_)
   refine Lp rfl (p_pick_t rfl rfl g1 rfl) ?_
   refine L_then (kp [7, 21] rfl) ?_
   refine V_cond_t rfl rfl ?_
   refine V_region rfl ?_
   refine La rfl rfl rfl ?_
   refine L_then (kp [7] rfl) ?_
   refine Vs rfl ?_
   refine Lm rfl rfl rfl ?_
   refine La rfl rfl rfl ?_
   refine L_then (kp [6] rfl) ?_
   refine V_ret ?_
   refine Leave.nil (.tmp rfl .nil) ?_
   show Value.int .i64 _ = _
   rw [asked_any g1' (by simp [g2'])]
  intro g2; have g2' := g2; try simp only [td] at g2'
  refine L_yes rfl rfl rfl g2 (X_p (p_move rfl rfl) ?_)
  refine L_yes rfl rfl rfl g2 (X_wr (w_callP rfl rfl rfl (fun w hg => rtick_c _ w)) ?_)
  rintro _ _ ⟨rfl, rfl⟩
  refine L_yes rfl rfl rfl g2 (X_p (p_not rfl rfl) ?_)
  refine L_yes rfl rfl rfl g1 (X_p (p_pick_f rfl rfl g2 rfl) ?_)
  refine Lp rfl (p_pick_t rfl rfl g1 rfl) ?_
  refine L_then (kp [7, 21] rfl) ?_
  refine V_cond rfl ?_ ?_
  ·intro c1; try simp only [td] at c1
   refine V_region rfl ?_
   refine La rfl rfl rfl ?_
   refine L_then (kp [7] rfl) ?_
   refine Vs rfl ?_
   refine Lm rfl rfl rfl ?_
   refine La rfl rfl rfl ?_
   refine L_then (kp [6] rfl) ?_
   refine V_ret ?_
   refine Leave.nil (.tmp rfl .nil) ?_
   show Value.int .i64 _ = _
   rw [asked_any g1' (by simp [c1])]
  intro c1; try simp only [td] at c1
  refine V_skip (then_n ?_)
  refine Vs rfl ?_
  refine Lm rfl rfl rfl ?_
  refine La rfl rfl rfl ?_
  refine L_then (kp [6] rfl) ?_
  refine V_ret ?_
  refine Leave.nil (.tmp rfl .nil) ?_
  show Value.int .i64 _ = _
  rw [asked_same (fun _ => by simp [g2', c1])]
 intro g1; have g1' := g1; try simp only [td] at g1'
 iterate 4 refine L_no rfl rfl rfl g1 ?_
 iterate 3 refine L_nou rfl rfl rfl ?_
 refine L_no rfl rfl rfl g1 ?_
 refine Lp rfl (p_pick_f rfl rfl g1 rfl) ?_
 refine L_then (kp [7, 21] rfl) ?_
 refine V_cond_f rfl rfl ?_
 refine V_skip (then_n ?_)
 refine Vs rfl ?_
 refine Lm rfl rfl rfl ?_
 refine La rfl rfl rfl ?_
 refine L_then (kp [6] rfl) ?_
 refine V_ret ?_
 refine Leave.nil (.tmp rfl .nil) ?_
 show Value.int .i64 _ = _
 rw [asked_bad g1']

end Go.Proofs.YtlcccpeelombbaaGreatDoor

/- YtlcccpeelombbaaGreatDoor: the reference's Fails, Spare and Best. -/
set_option linter.all false
namespace Go.Proofs.YtlcccpeelombbaaGreatDoor
open Go.Vc Go.Tk
set_option maxRecDepth 100000
theorem rjoin_c (a b c d : Int) (w : World) : FnP Tryz.prog 130 [.agg #[.int .i64 a, .int .i64 b], .agg #[.int .i64 c, .int .i64 d]] w (.agg #[.int .i64 (min a c), .int .i64 (max b d)]) := by
 refine fn_pure Tryz.func130 rfl (by kernel_rfl) Tryz.ntmps130 Tryz.results130 rfl ?_
 refine Vs rfl ?_
 refine Lw rfl (w_box rfl rfl) ?_
 rintro _ _ ⟨b1, hb1, rfl, rfl⟩
 refine Lw rfl (w_box rfl rfl) ?_
 rintro _ _ ⟨b2, hb2, rfl, rfl⟩
 refine Lw rfl (w_alloc zr24 rfl) ?_
 rintro _ _ ⟨b3, hb3, rfl, rfl⟩
 refine L_then (kp [2, 3, 4] rfl) ?_
 refine Vs rfl ?_
 refine Lp rfl (p_fieldo fo24_0 rfl rfl) ?_
 refine Lr rfl (rl ag3 rfl rfl rfl) ?_
 refine Lp rfl (p_fieldo fo24_0 rfl rfl) ?_
 refine Lr rfl (rl ag3 rfl rfl rfl) ?_
 refine Lp rfl (p_min rfl rfl rfl) ?_
 refine Lp rfl (p_fieldo fo24_1 rfl rfl) ?_
 refine Lr rfl (rl ag3 rfl rfl rfl) ?_
 refine Lp rfl (p_fieldo fo24_1 rfl rfl) ?_
 refine Lr rfl (rl ag3 rfl rfl rfl) ?_
 refine Lp rfl (p_max rfl rfl rfl) ?_
 refine Lp rfl (p_build (r := [_, _]) pl24 zr24 rfl rfl rfl) ?_
 refine Ls (cs' := [_, _]) rfl sz24 rfl rfl rfl rfl rfl rfl rfl ?_
 refine L_then (kp [4] rfl) ?_
 refine V_ret ?_
 refine Leave.nil (.cellA (us := [_, _]) rfl ag24 sz24 (by repeat first | exact mH | apply mT) rfl .nil) ?_
 rfl
theorem rJoin_c (a b : Box) (w : World) : FnP Tryz.prog 118 [.agg (Box.cells a).toArray, .agg (Box.cells b).toArray] w (.agg (Box.cells (joinB a b)).toArray) := by
 refine fn_pure Tryz.func118 rfl (by kernel_rfl) Tryz.ntmps118 Tryz.results118 rfl ?_
 refine Vs rfl ?_
 refine Lw rfl (w_box rfl rfl) ?_
 rintro _ _ ⟨b1, hb1, rfl, rfl⟩
 refine Lw rfl (w_box rfl rfl) ?_
 rintro _ _ ⟨b2, hb2, rfl, rfl⟩
 refine Lw rfl (w_alloc zr28 rfl) ?_
 rintro _ _ ⟨b3, hb3, rfl, rfl⟩
 refine L_then (kp [2, 3, 4] rfl) ?_
 refine V_seq (V_draw (.rd 0 (.rd 1 (.rd 2 (.rd 3 (.rd 4 (.rd 5 (.rd 7 (.rd 8 (.rd 9 (.rd 10 (.rd 12 (.rd 13 (.rd 14 (.rd 15 (.rd 17 (.rd 18 (.rd 19 (.rd 20 (.rd 22 (.rd 23 (.rd 24 (.rd 25 (.rd 27 (.rd 28 (.rd 29 (.rd 30 (.wr 6 [30, 29, 28, 27, 25, 24, 23, 22, 20, 19, 18, 17, 15, 14, 13, 12, 10, 9, 8, 7, 4, 2, 1, 0] (.wr 11 [30, 29, 28, 27, 25, 24, 23, 22, 20, 19, 18, 17, 15, 14, 13, 12, 9, 7, 5, 4, 3, 2, 1, 0] (.wr 16 [30, 29, 28, 27, 25, 24, 23, 22, 20, 19, 18, 17, 14, 12, 10, 9, 8, 7, 5, 4, 3, 2, 1, 0] (.wr 21 [30, 29, 28, 27, 25, 24, 23, 22, 19, 17, 15, 14, 13, 12, 10, 9, 8, 7, 5, 4, 3, 2, 1, 0] (.wr 26 [30, 29, 28, 27, 24, 22, 20, 19, 18, 17, 15, 14, 13, 12, 10, 9, 8, 7, 5, 4, 3, 2, 1, 0] (.wr 31 [29, 27, 25, 24, 23, 22, 20, 19, 18, 17, 15, 14, 13, 12, 10, 9, 8, 7, 5, 4, 3, 2, 1, 0] (.rd 32 (.wr 33 [] .done)))))))))))))))))))))))))))))))))) mixed (by kernel_rfl) rfl ?_)
 refine Dp rfl rfl (p_fieldo fo28_0 rfl rfl) ?_
 refine Dr rfl rfl (rl ag3 rfl rfl rfl) ?_
 refine Dp rfl rfl (p_fieldo fo28_1 rfl rfl) ?_
 refine Dr rfl rfl (rlA (vs := [_, _]) ag24 sz24 rfl rfl rfl) ?_
 refine Dp rfl rfl (p_fieldo fo28_1 rfl rfl) ?_
 refine Dr rfl rfl (rlA (vs := [_, _]) ag24 sz24 rfl rfl rfl) ?_
 refine Dp rfl rfl (p_fieldo fo28_2 rfl rfl) ?_
 refine Dr rfl rfl (rlA (vs := [_, _]) ag24 sz24 rfl rfl rfl) ?_
 refine Dp rfl rfl (p_fieldo fo28_2 rfl rfl) ?_
 refine Dr rfl rfl (rlA (vs := [_, _]) ag24 sz24 rfl rfl rfl) ?_
 refine Dp rfl rfl (p_fieldo fo28_3 rfl rfl) ?_
 refine Dr rfl rfl (rlA (vs := [_, _]) ag24 sz24 rfl rfl rfl) ?_
 refine Dp rfl rfl (p_fieldo fo28_3 rfl rfl) ?_
 refine Dr rfl rfl (rlA (vs := [_, _]) ag24 sz24 rfl rfl rfl) ?_
 refine Dp rfl rfl (p_fieldo fo28_4 rfl rfl) ?_
 refine Dr rfl rfl (rlA (vs := [_, _]) ag24 sz24 rfl rfl rfl) ?_
 refine Dp rfl rfl (p_fieldo fo28_4 rfl rfl) ?_
 refine Dr rfl rfl (rlA (vs := [_, _]) ag24 sz24 rfl rfl rfl) ?_
 refine Dp rfl rfl (p_fieldo fo28_5 rfl rfl) ?_
 refine Dr rfl rfl (rlA (vs := [_, _]) ag24 sz24 rfl rfl rfl) ?_
 refine Dp rfl rfl (p_fieldo fo28_5 rfl rfl) ?_
 refine Dr rfl rfl (rlA (vs := [_, _]) ag24 sz24 rfl rfl rfl) ?_
 refine Dp rfl rfl (p_fieldo fo28_6 rfl rfl) ?_
 refine Dr rfl rfl (rlA (vs := [_, _]) ag24 sz24 rfl rfl rfl) ?_
 refine Dp rfl rfl (p_fieldo fo28_6 rfl rfl) ?_
 refine Dr rfl rfl (rlA (vs := [_, _]) ag24 sz24 rfl rfl rfl) ?_
 refine D_wr (.go (E' := [(30, _), (28, _), (25, _), (23, _), (20, _), (18, _), (15, _), (13, _), (10, _), (8, _), (1, _)]) rfl (.plain rfl) (w_callP rfl rfl rfl (fun w hg => rjoin_c _ _ _ _ w)) rfl ?_)
 rintro _ _ ⟨rfl, rfl⟩
 refine ⟨(.cons rfl (.plain rfl) (rlA (vs := [_, _]) ag24 sz24 rfl rfl rfl) (.cons rfl (.plain rfl) (rlA (vs := [_, _]) ag24 sz24 rfl rfl rfl) (.cons rfl (.plain rfl) (rlA (vs := [_, _]) ag24 sz24 rfl rfl rfl) (.cons rfl (.plain rfl) (rlA (vs := [_, _]) ag24 sz24 rfl rfl rfl) (.cons rfl (.plain rfl) (rlA (vs := [_, _]) ag24 sz24 rfl rfl rfl) (.cons rfl (.plain rfl) (rlA (vs := [_, _]) ag24 sz24 rfl rfl rfl) (.cons rfl (.plain rfl) (rlA (vs := [_, _]) ag24 sz24 rfl rfl rfl) (.cons rfl (.plain rfl) (rlA (vs := [_, _]) ag24 sz24 rfl rfl rfl) (.cons rfl (.plain rfl) (rlA (vs := [_, _]) ag24 sz24 rfl rfl rfl) (.cons rfl (.plain rfl) (rlA (vs := [_, _]) ag24 sz24 rfl rfl rfl) (.cons rfl (.plain rfl) (rl ag3 rfl rfl rfl) .nil))))))))))), ?_⟩
 refine D_wr (.go (E' := [(30, _), (28, _), (25, _), (23, _), (20, _), (18, _), (15, _), (13, _), (1, _)]) rfl (.plain rfl) (w_callP rfl rfl rfl (fun w hg => rjoin_c _ _ _ _ w)) rfl ?_)
 rintro _ _ ⟨rfl, rfl⟩
 refine ⟨(.cons rfl (.plain rfl) (rlA (vs := [_, _]) ag24 sz24 rfl rfl rfl) (.cons rfl (.plain rfl) (rlA (vs := [_, _]) ag24 sz24 rfl rfl rfl) (.cons rfl (.plain rfl) (rlA (vs := [_, _]) ag24 sz24 rfl rfl rfl) (.cons rfl (.plain rfl) (rlA (vs := [_, _]) ag24 sz24 rfl rfl rfl) (.cons rfl (.plain rfl) (rlA (vs := [_, _]) ag24 sz24 rfl rfl rfl) (.cons rfl (.plain rfl) (rlA (vs := [_, _]) ag24 sz24 rfl rfl rfl) (.cons rfl (.plain rfl) (rlA (vs := [_, _]) ag24 sz24 rfl rfl rfl) (.cons rfl (.plain rfl) (rlA (vs := [_, _]) ag24 sz24 rfl rfl rfl) (.cons rfl (.plain rfl) (rl ag3 rfl rfl rfl) .nil))))))))), ?_⟩
 refine D_wr (.go (E' := [(30, _), (28, _), (25, _), (23, _), (20, _), (18, _), (1, _)]) rfl (.plain rfl) (w_callP rfl rfl rfl (fun w hg => rjoin_c _ _ _ _ w)) rfl ?_)
 rintro _ _ ⟨rfl, rfl⟩
 refine ⟨(.cons rfl (.plain rfl) (rlA (vs := [_, _]) ag24 sz24 rfl rfl rfl) (.cons rfl (.plain rfl) (rlA (vs := [_, _]) ag24 sz24 rfl rfl rfl) (.cons rfl (.plain rfl) (rlA (vs := [_, _]) ag24 sz24 rfl rfl rfl) (.cons rfl (.plain rfl) (rlA (vs := [_, _]) ag24 sz24 rfl rfl rfl) (.cons rfl (.plain rfl) (rlA (vs := [_, _]) ag24 sz24 rfl rfl rfl) (.cons rfl (.plain rfl) (rlA (vs := [_, _]) ag24 sz24 rfl rfl rfl) (.cons rfl (.plain rfl) (rl ag3 rfl rfl rfl) .nil))))))), ?_⟩
 refine D_wr (.go (E' := [(30, _), (28, _), (25, _), (23, _), (1, _)]) rfl (.plain rfl) (w_callP rfl rfl rfl (fun w hg => rjoin_c _ _ _ _ w)) rfl ?_)
 rintro _ _ ⟨rfl, rfl⟩
 refine ⟨(.cons rfl (.plain rfl) (rlA (vs := [_, _]) ag24 sz24 rfl rfl rfl) (.cons rfl (.plain rfl) (rlA (vs := [_, _]) ag24 sz24 rfl rfl rfl) (.cons rfl (.plain rfl) (rlA (vs := [_, _]) ag24 sz24 rfl rfl rfl) (.cons rfl (.plain rfl) (rlA (vs := [_, _]) ag24 sz24 rfl rfl rfl) (.cons rfl (.plain rfl) (rl ag3 rfl rfl rfl) .nil))))), ?_⟩
 refine D_wr (.go (E' := [(30, _), (28, _), (1, _)]) rfl (.plain rfl) (w_callP rfl rfl rfl (fun w hg => rjoin_c _ _ _ _ w)) rfl ?_)
 rintro _ _ ⟨rfl, rfl⟩
 refine ⟨(.cons rfl (.plain rfl) (rlA (vs := [_, _]) ag24 sz24 rfl rfl rfl) (.cons rfl (.plain rfl) (rlA (vs := [_, _]) ag24 sz24 rfl rfl rfl) (.cons rfl (.plain rfl) (rl ag3 rfl rfl rfl) .nil))), ?_⟩
 refine D_wr (.go (E' := [(1, _)]) rfl (.plain rfl) (w_callP rfl rfl rfl (fun w hg => rjoin_c _ _ _ _ w)) rfl ?_)
 rintro _ _ ⟨rfl, rfl⟩
 refine ⟨(.cons rfl (.plain rfl) (rl ag3 rfl rfl rfl) .nil), ?_⟩
 refine Dp rfl rfl (p_build (r := [_, _, _, _, _, _, _, _, _, _, _, _, _]) pl28 zr28 rfl rfl rfl) ?_
 refine D_wr (.go (E' := []) rfl (.plain rfl) (ws (cs' := [_, _, _, _, _, _, _, _, _, _, _, _, _]) sz28 rfl rfl rfl rfl rfl rfl rfl) rfl ?_)
 rintro _ _ ⟨rfl, rfl⟩
 refine ⟨.nil, ?_⟩
 refine D_then (kp [4] rfl) ?_
 refine V_ret ?_
 refine Leave.nil (.cellA (us := [_, _, _, _, _, _, _, _, _, _, _, _, _]) rfl ag28 sz28 (by repeat first | exact mH | apply mT) rfl .nil) ?_
 rfl
set_option maxHeartbeats 4000000 in
theorem rspare_c (t : Task) (v : Value) (w : World) (ht : TaskR w v t) (hG : GoodT t) (u now : Int) (hu : 0 ≤ u ∧ u ≤ 100000) : FnP Tryz.prog 104 [v, .int .i64 u, .int .i64 now] w (boxV (spareT t u now)) := by
 have hT := ht
 obtain ⟨tv, pv, rfl, htr, hpl⟩ := ht.ex
 obtain ⟨ta, tc, rfl, htc, hte⟩ := htr.ex
 obtain ⟨pa, pc, rfl, hpc, hpe⟩ := hpl.ex
 have hltr := hT.ltr
 have hlpl := hT.lpl
 simp only [List.length_map] at hT htc hpc ⊢
 have htr5 := hG.h1
 refine fn_pure Tryz.func104 rfl (by kernel_rfl) Tryz.ntmps104 Tryz.results104 rfl ?_
 refine Vs rfl ?_
 refine Lw rfl (w_box rfl rfl) ?_
 rintro _ _ ⟨b1, hb1, rfl, rfl⟩
 refine Lw rfl (w_alloc zr28 rfl) ?_
 rintro _ _ ⟨b2, hb2, rfl, rfl⟩
 refine La rfl rfl rfl ?_
 refine L_then (kp [1, 2, 3, 6] rfl) ?_
 refine V_seq ?_
 refine Vs rfl ?_
 refine Lp rfl (p_fieldo fo39_3 rfl rfl) ?_
 refine Lr rfl (rl ag36 rfl rfl rfl) ?_
 refine Lp rfl (p_len isl36 rfl rfl) ?_
 refine Lp rfl (p_eql rfl rfl rfl) ?_
 refine L_then (kp [1, 2, 3, 6, 16] rfl) ?_
 refine V_cond rfl ?_ ?_
 ·intro c1; have c1r := c1; try simp only [td] at c1
  refine Vs rfl ?_
  refine Lr rfl (rlA (vs := [_, _, _, _, _]) ag39 sz39 rfl rfl rfl) ?_
  refine Lm rfl rfl rfl ?_
  refine Lc rfl rfl rfl rfl (fun w hg => (show FnP _ _ _ w (boxV (boxT t (byT t now fun _ => true) u)) from (byT_none hG now (fun _ => true) (by omega)).symm ▸ rbox_c t _ [] _ w (hT.good hg) (SliceR.nil _ _) hG (fun i hi => by cases hi) (by decide) u hu)) ?_
  iterate 2 refine Lp rfl (p_ext rfl rfl rfl) ?_
  refine Ls (cs' := [_, _, _, _, _, _, _, _, _, _, _, _, _]) rfl sz28 rfl rfl rfl rfl rfl rfl rfl ?_
  refine La rfl rfl rfl ?_
  refine L_then (kp [6, 7] rfl) ?_
  refine V_ret (then_r ?_)
  refine Leave.nil (.cellA (us := [_, _, _, _, _, _, _, _, _, _, _, _, _]) rfl ag28 sz28 (by repeat first | exact mH | apply mT) rfl (.tmp rfl .nil)) ?_
  have e : spareT t u now = boxT t (byT t now fun _ => true) u := if_pos (by omega)
  rw [e]; rfl
 intro c1; have c1r := c1; try simp only [td] at c1
 refine V_skip (then_n ?_)
 refine Vs rfl ?_
 refine Lw rfl (w_alloc zr28 rfl) ?_
 rintro _ _ ⟨b3, hb3, rfl, rfl⟩
 refine L_then (kp [1, 2, 3, 6, 8] rfl) ?_
 refine Vs rfl ?_
 refine La rfl rfl rfl ?_
 refine L_then (kp [1, 2, 3, 6, 8, 9] rfl) ?_
 refine V_seq ?_
 refine Vs rfl ?_
 refine La rfl rfl rfl ?_
 refine L_then (kp [1, 2, 3, 6, 8, 9, 10] rfl) ?_
 refine V_block ?_
 refine V_loop1 (γ := Int × Option Box) (kp [1, 2, 3, 6, 8] rfl) (fun (k, acc) => [(10, .int .i64 k), (9, .bool acc.isSome)]) (fun (k, acc) => [(b3, .cells (Box.cells (acc.getD boxZ)).toArray 28), (b2, .cells (Box.cells boxZ).toArray 28), (b1, t.obj (.slice ta t.trackers.length tc) (.slice pa t.plots.length pc) 39)]) (fun (k, acc) => 0 ≤ k ∧ k ≤ t.trackers.length ∧ acc = foldB (othersV t u now k.toNat)) (fun (k, acc) => (t.trackers.length - k).toNat) ((0, none)) (.cons rfl (.cons rfl (.nil _))) (by repeat (first | exact List.nil_sublist _ | exact List.Sublist.refl _ | apply List.Sublist.cons_cons | apply List.Sublist.cons)) (⟨by omega, by omega, rfl⟩) ?_
 rintro ⟨k, acc⟩ hi
 obtain ⟨hk0, hk1, hacc⟩ := hi
 refine V_seq ?_
 refine Vs rfl ?_
 refine Lm rfl rfl rfl ?_
 refine Lp rfl (p_fieldo fo39_3 rfl rfl) ?_
 refine Lr rfl (rl ag36 rfl rfl rfl) ?_
 refine Lp rfl (p_len isl36 rfl rfl) ?_
 refine Lp rfl (p_lss rfl rfl rfl) ?_
 refine L_then (kp [1, 2, 3, 6, 8, 9, 10, 26] rfl) ?_
 refine V_cond rfl ?_ ?_
 ·intro c2; have c2r := c2; try simp only [td] at c2
  refine V_skip (then_n ?_)
  refine V_seq ?_
  refine V_block ?_
  refine V_mid (γ := Nat) (kp [1, 2, 3, 6, 8, 9, 10] rfl) (fun x11 => [(11, .pointer (some ⟨x11, 0, none⟩)), (12, .bool (boxT t (byT t now (fun x => decide (x ≠ k))) u).isSome)]) (fun x11 => (x11, .cells (Box.cells ((boxT t (byT t now (fun x => decide (x ≠ k))) u).getD boxZ)).toArray 28) :: [(b3, .cells (Box.cells (acc.getD boxZ)).toArray 28), (b2, .cells (Box.cells boxZ).toArray 28), (b1, t.obj (.slice ta t.trackers.length tc) (.slice pa t.plots.length pc) 39)]) (fun x11 => True) ?_ ?_
  ·refine V_draw (.rd 0 (.rd 1 (.rd 2 (.rd 3 (.rd 5 (.wr2 4 [5, 0] (.wr2 6 [3, 2, 1] (.rd 7 (.rd 8 (.rd 9 (.wr 10 [9, 8, 7, 5, 3, 2, 1, 0] (.wr 11 [9] (.rd 12 .done)))))) 10 [5, 3, 2, 1, 0] (.wr 6 [3, 2, 1] (.rd 7 (.rd 8 (.rd 9 (.wr 11 [9] (.rd 12 .done))))))) 10 [5, 3, 2, 1, 0] (.wr 4 [5, 0] (.wr 6 [3, 2, 1] (.rd 7 (.rd 8 (.rd 9 (.wr 11 [9] (.rd 12 .done))))))))))))) mixed (by kernel_rfl) rfl ?_
   iterate 2 refine Dr rfl rfl (rlA (vs := [_, _, _, _, _]) ag39 sz39 rfl rfl rfl) ?_
   iterate 3 refine Dm rfl rfl rfl rfl ?_
   refine D_wr2 rfl ?_ ?_
   ·refine (.go (E' := [(0, _)]) rfl (.plain rfl) (w_callG (pre := [_, _, _]) rfl rfl rfl rfl (fun w hg => rby_c t _ w (hT.good hg) hG (k) (-1) now)) rfl ?_)
    rintro _ _ ⟨_, Gb, rfl, hfrb, svb, rfl, rfl, hgrb⟩
    try dsimp only at hgrb
    try simp only [List.cons_append, List.nil_append, List.append_nil]
    refine ⟨(.cons rfl (.plain rfl) (rlA (vs := [_, _, _, _, _]) ag39 sz39 rfl rfl rfl) .nil), ?_⟩
    refine D_wr2 rfl ?_ ?_
    ·refine (.go (E' := []) rfl (.plain rfl) (w_callP rfl rfl rfl (fun w hg => (show FnP _ _ _ w (boxV (boxT t (byT t now (fun x => decide (x ≠ k))) u)) from want_butF k ▸ rbox_c t _ (byT t now (wantR (k) (-1))) _ w (hT.good hg) (Grow.slice hgrb (fun p hp => hg.own p (by repeat first | exact hp | exact List.mem_append_left _ hp | apply List.mem_append_right | apply mT))) hG byT_bnd (Nat.le_trans byT_len hG.h2) u hu))) rfl ?_)
     rintro _ _ ⟨rfl, rfl⟩
     refine ⟨.nil, ?_⟩
     refine Dm rfl rfl rfl rfl ?_
     iterate 2 refine Dp rfl rfl (p_ext rfl rfl rfl) ?_
     refine D_wr (.go (E' := []) rfl (.plain rfl) (w_alloc zr28 rfl) rfl ?_)
     rintro _ _ ⟨b5, hb5, rfl, rfl⟩
     refine ⟨.nil, ?_⟩
     refine D_wr (.go (E' := []) rfl (.plain rfl) (ws (cs' := [_, _, _, _, _, _, _, _, _, _, _, _, _]) sz28 rfl rfl rfl rfl rfl rfl rfl) rfl ?_)
     rintro _ _ ⟨rfl, rfl⟩
     refine ⟨.nil, ?_⟩
     refine Dp rfl rfl (p_assign rfl rfl) ?_
     refine D_then (kp [1, 2, 3, 6, 8, 9, 10, 11, 12] rfl) ?_
     refine ⟨b5, trivial, (.cons rfl (.cons rfl (.cons rfl (.cons rfl (.cons rfl (.cons rfl (.cons rfl (.cons rfl (.cons rfl (.nil _)))))))))), (by (try dsimp only); repeat (first | exact HSub.nil _ | refine HSub.take (by repeat first | exact Take.head | apply Take.tail) ?_ | exact HSub.refl _ | refine HSub.drop ?_ | refine HSub.app ?_)), rfl⟩
    refine (.go (E' := [(0, _)]) rfl (.plain rfl) (w_alloc zr28 rfl) rfl ?_)
    rintro _ _ ⟨b5, hb5, rfl, rfl⟩
    refine ⟨(.cons rfl (.plain rfl) (rlA (vs := [_, _, _, _, _]) ag39 sz39 rfl rfl rfl) .nil), ?_⟩
    refine D_wr (.go (E' := []) rfl (.plain rfl) (w_callP rfl rfl rfl (fun w hg => (show FnP _ _ _ w (boxV (boxT t (byT t now (fun x => decide (x ≠ k))) u)) from want_butF k ▸ rbox_c t _ (byT t now (wantR (k) (-1))) _ w (hT.good hg) (Grow.slice hgrb (fun p hp => hg.own p (by repeat first | exact hp | exact List.mem_append_left _ hp | apply List.mem_append_right | apply mT))) hG byT_bnd (Nat.le_trans byT_len hG.h2) u hu))) rfl ?_)
    rintro _ _ ⟨rfl, rfl⟩
    refine ⟨.nil, ?_⟩
    refine Dm rfl rfl rfl rfl ?_
    iterate 2 refine Dp rfl rfl (p_ext rfl rfl rfl) ?_
    refine D_wr (.go (E' := []) rfl (.plain rfl) (ws (cs' := [_, _, _, _, _, _, _, _, _, _, _, _, _]) sz28 rfl rfl rfl rfl rfl rfl rfl) rfl ?_)
    rintro _ _ ⟨rfl, rfl⟩
    refine ⟨.nil, ?_⟩
    refine Dp rfl rfl (p_assign rfl rfl) ?_
    refine D_then (kp [1, 2, 3, 6, 8, 9, 10, 11, 12] rfl) ?_
    refine ⟨b5, trivial, (.cons rfl (.cons rfl (.cons rfl (.cons rfl (.cons rfl (.cons rfl (.cons rfl (.cons rfl (.cons rfl (.nil _)))))))))), (by (try dsimp only); repeat (first | exact HSub.nil _ | refine HSub.take (by repeat first | exact Take.head | apply Take.tail) ?_ | exact HSub.refl _ | refine HSub.drop ?_ | refine HSub.app ?_)), rfl⟩
   refine (.go (E' := [(1, _), (0, _)]) rfl (.plain rfl) (w_alloc zr28 rfl) rfl ?_)
   rintro _ _ ⟨b4, hb4, rfl, rfl⟩
   refine ⟨(.cons rfl (.plain rfl) (rlA (vs := [_, _, _, _, _]) ag39 sz39 rfl rfl rfl) (.cons rfl (.plain rfl) (rlA (vs := [_, _, _, _, _]) ag39 sz39 rfl rfl rfl) .nil)), ?_⟩
   refine D_wr (.go (E' := [(0, _)]) rfl (.plain rfl) (w_callG (pre := [_, _, _, _]) rfl rfl rfl rfl (fun w hg => rby_c t _ w (hT.good hg) hG (k) (-1) now)) rfl ?_)
   rintro _ _ ⟨_, Gb, rfl, hfrb, svb, rfl, rfl, hgrb⟩
   try dsimp only at hgrb
   try simp only [List.cons_append, List.nil_append, List.append_nil]
   refine ⟨(.cons rfl (.plain rfl) (rlA (vs := [_, _, _, _, _]) ag39 sz39 rfl rfl rfl) .nil), ?_⟩
   refine D_wr (.go (E' := []) rfl (.plain rfl) (w_callP rfl rfl rfl (fun w hg => (show FnP _ _ _ w (boxV (boxT t (byT t now (fun x => decide (x ≠ k))) u)) from want_butF k ▸ rbox_c t _ (byT t now (wantR (k) (-1))) _ w (hT.good hg) (Grow.slice hgrb (fun p hp => hg.own p (by repeat first | exact hp | exact List.mem_append_left _ hp | apply List.mem_append_right | apply mT))) hG byT_bnd (Nat.le_trans byT_len hG.h2) u hu))) rfl ?_)
   rintro _ _ ⟨rfl, rfl⟩
   refine ⟨.nil, ?_⟩
   refine Dm rfl rfl rfl rfl ?_
   iterate 2 refine Dp rfl rfl (p_ext rfl rfl rfl) ?_
   refine D_wr (.go (E' := []) rfl (.plain rfl) (ws (cs' := [_, _, _, _, _, _, _, _, _, _, _, _, _]) sz28 rfl rfl rfl rfl rfl rfl rfl) rfl ?_)
   rintro _ _ ⟨rfl, rfl⟩
   refine ⟨.nil, ?_⟩
   refine Dp rfl rfl (p_assign rfl rfl) ?_
   refine D_then (kp [1, 2, 3, 6, 8, 9, 10, 11, 12] rfl) ?_
   refine ⟨b4, trivial, (.cons rfl (.cons rfl (.cons rfl (.cons rfl (.cons rfl (.cons rfl (.cons rfl (.cons rfl (.cons rfl (.nil _)))))))))), (by (try dsimp only); repeat (first | exact HSub.nil _ | refine HSub.take (by repeat first | exact Take.head | apply Take.tail) ?_ | exact HSub.refl _ | refine HSub.drop ?_ | refine HSub.app ?_)), rfl⟩
  rintro x11 _
  refine V_seq ?_
  refine Vs rfl ?_
  iterate 2 refine Lm rfl rfl rfl ?_
  refine L_cases (d := 40) rfl ?_ ?_
  ·intro g1; have g1' := g1; try simp only [td] at g1'
   refine L_yes rfl rfl rfl g1 (X_p (p_move rfl rfl) ?_)
   refine Lp rfl (p_pick_t rfl rfl g1 rfl) ?_
   refine L_then (kp [1, 2, 3, 6, 8, 9, 10, 11, 12, 42] rfl) ?_
   refine V_cond rfl ?_ ?_
   ·intro c3; have c3r := c3; try simp only [td] at c3
    obtain ⟨a, rfl⟩ := isSome_ex c3
    refine V_region rfl ?_
    iterate 2 refine Lr rfl (rlA (vs := [_, _, _, _, _, _, _, _, _, _, _, _, _]) ag28 sz28 rfl rfl rfl) ?_
    refine Lc rfl rfl rfl rfl (fun w hg => rJoin_c _ _ w) ?_
    refine Ls (cs' := [_, _, _, _, _, _, _, _, _, _, _, _, _]) rfl sz28 rfl rfl rfl rfl rfl rfl rfl ?_
    refine L_then (kp [1, 2, 3, 6, 8, 9, 10, 11, 12] rfl) ?_
    refine Vs rfl ?_
    iterate 2 refine Lm rfl rfl rfl ?_
    refine L_yes rfl rfl rfl g1 (X_p (p_move rfl rfl) ?_)
    refine L_yes rfl rfl rfl g1 (X_p (p_not rfl rfl) ?_)
    refine Lp rfl (p_pick_t rfl rfl g1 rfl) ?_
    refine L_then (kp [1, 2, 3, 6, 8, 9, 10, 11, 50] rfl) ?_
    refine V_cond_f rfl (notk_t c3r) ?_
    refine V_skip (blk_n (then_n ?_))
    refine V_region rfl ?_
    refine Lm rfl rfl rfl ?_
    first | refine Lp rfl (p_add' rfl rfl rfl (by unfold InI; omega)) ?_ | refine Lp rfl (p_add rfl rfl rfl) ?_
    refine La rfl rfl rfl ?_
    refine L_keep (kp [1, 2, 3, 6, 8, 9, 10] rfl) (then_n ?_)
    refine ⟨(k + 1, some (joinB a ((boxT t (byT t now (fun x => decide (x ≠ k))) u).getD boxZ))), ?_, ?_, (.cons rfl (.cons rfl (.cons rfl (.cons rfl (.cons rfl (.cons rfl (.cons rfl (.nil _)))))))), (by repeat (first | exact List.nil_sublist _ | exact List.Sublist.refl _ | apply List.Sublist.cons_cons | apply List.Sublist.cons | apply List.sublist_append_of_sublist_right)), rfl⟩
    ·refine ⟨by omega, by omega, ?_⟩
     rw [foldB_yes hk0 (isSome_get g1), ← hacc]; rfl
    dsimp only; omega
   intro c3; have c3r := c3; try simp only [td] at c3
   obtain rfl := isSome_none c3
   refine V_skip (then_n ?_)
   refine Vs rfl ?_
   iterate 2 refine Lm rfl rfl rfl ?_
   refine L_yes rfl rfl rfl g1 (X_p (p_move rfl rfl) ?_)
   refine L_yes rfl rfl rfl g1 (X_p (p_not rfl rfl) ?_)
   refine Lp rfl (p_pick_t rfl rfl g1 rfl) ?_
   refine L_then (kp [1, 2, 3, 6, 8, 9, 10, 11, 50] rfl) ?_
   refine V_cond_t rfl (notk_f c3r) ?_
   refine V_region rfl ?_
   refine Lr rfl (rlA (vs := [_, _, _, _, _, _, _, _, _, _, _, _, _]) ag28 sz28 rfl rfl rfl) ?_
   refine Ls (cs' := [_, _, _, _, _, _, _, _, _, _, _, _, _]) rfl sz28 rfl rfl rfl rfl rfl rfl rfl ?_
   refine La rfl rfl rfl ?_
   refine L_keep (kp [1, 2, 3, 6, 8, 9, 10] rfl) (blk_n (then_n ?_))
   refine V_region rfl ?_
   refine Lm rfl rfl rfl ?_
   first | refine Lp rfl (p_add' rfl rfl rfl (by unfold InI; omega)) ?_ | refine Lp rfl (p_add rfl rfl rfl) ?_
   refine La rfl rfl rfl ?_
   refine L_keep (kp [1, 2, 3, 6, 8, 9, 10] rfl) (then_n ?_)
   refine ⟨(k + 1, some ((boxT t (byT t now (fun x => decide (x ≠ k))) u).getD boxZ)), ?_, ?_, (.cons rfl (.cons rfl (.cons rfl (.cons rfl (.cons rfl (.cons rfl (.cons rfl (.nil _)))))))), (by repeat (first | exact List.nil_sublist _ | exact List.Sublist.refl _ | apply List.Sublist.cons_cons | apply List.Sublist.cons | apply List.sublist_append_of_sublist_right)), rfl⟩
   ·refine ⟨by omega, by omega, ?_⟩
    rw [foldB_yes hk0 (isSome_get g1), ← hacc]; rfl
   dsimp only; omega
  intro g1; have g1' := g1; try simp only [td] at g1'
  refine L_no rfl rfl rfl g1 ?_
  refine Lp rfl (p_pick_f rfl rfl g1 rfl) ?_
  refine L_then (kp [1, 2, 3, 6, 8, 9, 10, 11, 12, 42] rfl) ?_
  refine V_cond_f rfl rfl ?_
  refine V_skip (then_n ?_)
  refine Vs rfl ?_
  iterate 2 refine Lm rfl rfl rfl ?_
  iterate 2 refine L_no rfl rfl rfl g1 ?_
  refine Lp rfl (p_pick_f rfl rfl g1 rfl) ?_
  refine L_then (kp [1, 2, 3, 6, 8, 9, 10, 11, 50] rfl) ?_
  refine V_cond_f rfl rfl ?_
  refine V_skip (blk_n (then_n ?_))
  refine V_region rfl ?_
  refine Lm rfl rfl rfl ?_
  first | refine Lp rfl (p_add' rfl rfl rfl (by unfold InI; omega)) ?_ | refine Lp rfl (p_add rfl rfl rfl) ?_
  refine La rfl rfl rfl ?_
  refine L_keep (kp [1, 2, 3, 6, 8, 9, 10] rfl) (then_n ?_)
  refine ⟨(k + 1, acc), ?_, ?_, (.cons rfl (.cons rfl (.cons rfl (.cons rfl (.cons rfl (.cons rfl (.cons rfl (.nil _)))))))), (by repeat (first | exact List.nil_sublist _ | exact List.Sublist.refl _ | apply List.Sublist.cons_cons | apply List.Sublist.cons | apply List.sublist_append_of_sublist_right)), rfl⟩
  ·refine ⟨by omega, by omega, ?_⟩
   rw [foldB_no hk0 (isSome_none g1)]; exact hacc
  dsimp only; omega
 intro c2; have c2r := c2; try simp only [td] at c2
 refine V_exit (then_e (then_e (blk_e rfl (then_n ?_))))
 refine Vs rfl ?_
 refine Lr rfl (rlA (vs := [_, _, _, _, _, _, _, _, _, _, _, _, _]) ag28 sz28 rfl rfl rfl) ?_
 refine Lm rfl rfl rfl ?_
 refine Ls (cs' := [_, _, _, _, _, _, _, _, _, _, _, _, _]) rfl sz28 rfl rfl rfl rfl rfl rfl rfl ?_
 refine La rfl rfl rfl ?_
 refine L_then (kp [6, 7] rfl) ?_
 refine V_ret ?_
 refine Leave.nil (.cellA (us := [_, _, _, _, _, _, _, _, _, _, _, _, _]) rfl ag28 sz28 (by repeat first | exact mH | apply mT) rfl (.tmp rfl .nil)) ?_
 have ek : k.toNat = t.trackers.length := by omega
 rw [ek] at hacc
 have e : spareT t u now = acc := by rw [spareT, if_neg (by omega), hacc]
 rw [e]; rfl
set_option maxHeartbeats 4000000 in
theorem rspareR_c (t : Task) (v : Value) (w : World) (ht : TaskR w v t) (u now : Int) : FnP Tryz.prog 80 [v, .int .i64 u, .int .i64 now] w (.tuple #[.agg (Box.cells (spareP t u now).1).toArray, .int .i64 (spareP t u now).2]) := by
 have hT := ht
 obtain ⟨tv, pv, rfl, htr, hpl⟩ := ht.ex
 obtain ⟨ta, tc, rfl, htc, hte⟩ := htr.ex
 obtain ⟨pa, pc, rfl, hpc, hpe⟩ := hpl.ex
 have hltr := hT.ltr
 have hlpl := hT.lpl
 simp only [List.length_map] at hT htc hpc ⊢
 refine fn_pure Tryz.func80 rfl (by kernel_rfl) Tryz.ntmps80 Tryz.results80 rfl ?_
 refine Vs rfl ?_
 refine Lw rfl (w_box rfl rfl) ?_
 rintro _ _ ⟨b1, hb1, rfl, rfl⟩
 refine Lw rfl (w_alloc zr28 rfl) ?_
 rintro _ _ ⟨b2, hb2, rfl, rfl⟩
 refine La rfl rfl rfl ?_
 refine L_then (kp [1, 2, 3, 6] rfl) ?_
 refine Vs rfl ?_
 refine Lr rfl (rlA (vs := [_, _, _, _, _]) ag39 sz39 rfl rfl rfl) ?_
 iterate 2 refine Lm rfl rfl rfl ?_
 refine Lc rfl rfl rfl rfl (fun w hg => rasked_c t _ w (hT.good hg) _ _) ?_
 refine La rfl rfl rfl ?_
 refine L_then (kp [1, 2, 3, 6, 8] rfl) ?_
 refine V_seq ?_
 refine Vs rfl ?_
 refine Lm rfl rfl rfl ?_
 refine Lp rfl (p_neq rfl rfl rfl) ?_
 refine L_then (kp [1, 2, 3, 6, 8, 16] rfl) ?_
 refine V_cond rfl ?_ ?_
 ·intro c1; try simp only [td] at c1
  refine Vs rfl ?_
  refine Lp rfl (p_build (r := [_, _, _, _, _, _, _, _, _, _, _, _, _]) pl28 zr28 rfl rfl rfl) ?_
  refine Lm rfl rfl rfl ?_
  refine Ls (cs' := [_, _, _, _, _, _, _, _, _, _, _, _, _]) rfl sz28 rfl rfl rfl rfl rfl rfl rfl ?_
  refine La rfl rfl rfl ?_
  refine L_then (kp [6, 7] rfl) ?_
  refine V_ret (then_r ?_)
  refine Leave.nil (.cellA (us := [_, _, _, _, _, _, _, _, _, _, _, _, _]) rfl ag28 sz28 (by repeat first | exact mH | apply mT) rfl (.tmp rfl .nil)) ?_
  rw [spareP, if_pos c1]; rfl
 intro c1; try simp only [td] at c1
 obtain ⟨hG, hn⟩ := asked_zero c1
 have hu := hn u (.head _)
 have hw : spareP t u now = foundP (spareT t u now) := if_neg (fun h => h c1)
 refine V_skip (then_n ?_)
 refine Vs rfl ?_
 refine Lr rfl (rlA (vs := [_, _, _, _, _]) ag39 sz39 rfl rfl rfl) ?_
 iterate 2 refine Lm rfl rfl rfl ?_
 refine Lc rfl rfl rfl rfl (fun w hg => rspare_c t _ w (hT.good hg) hG u now hu) ?_
 refine Lm rfl rfl rfl ?_
 iterate 2 refine Lp rfl (p_ext rfl rfl rfl) ?_
 refine Lw rfl (w_alloc zr28 rfl) ?_
 rintro _ _ ⟨b3, hb3, rfl, rfl⟩
 refine Ls (cs' := [_, _, _, _, _, _, _, _, _, _, _, _, _]) rfl sz28 rfl rfl rfl rfl rfl rfl rfl ?_
 refine La rfl rfl rfl ?_
 refine L_then (kp [6, 9, 10] rfl) ?_
 refine V_seq ?_
 refine Vs rfl ?_
 refine Lm rfl rfl rfl ?_
 refine Lp rfl (p_not rfl rfl) ?_
 refine L_then (kp [6, 9, 27] rfl) ?_
 refine V_cond rfl ?_ ?_
 ·intro c2; try simp only [td] at c2
  refine Vs rfl ?_
  refine Lp rfl (p_build (r := [_, _, _, _, _, _, _, _, _, _, _, _, _]) pl28 zr28 rfl rfl rfl) ?_
  refine Ls (cs' := [_, _, _, _, _, _, _, _, _, _, _, _, _]) rfl sz28 rfl rfl rfl rfl rfl rfl rfl ?_
  refine La rfl rfl rfl ?_
  refine L_then (kp [6, 7] rfl) ?_
  refine V_ret (then_r ?_)
  refine Leave.nil (.cellA (us := [_, _, _, _, _, _, _, _, _, _, _, _, _]) rfl ag28 sz28 (by repeat first | exact mH | apply mT) rfl (.tmp rfl .nil)) ?_
  rw [hw, isSome_none c2]; rfl
 intro c2; try simp only [td] at c2
 refine V_skip (then_n ?_)
 refine Vs rfl ?_
 refine Lr rfl (rlA (vs := [_, _, _, _, _, _, _, _, _, _, _, _, _]) ag28 sz28 rfl rfl rfl) ?_
 refine Ls (cs' := [_, _, _, _, _, _, _, _, _, _, _, _, _]) rfl sz28 rfl rfl rfl rfl rfl rfl rfl ?_
 refine La rfl rfl rfl ?_
 refine L_then (kp [6, 7] rfl) ?_
 refine V_ret ?_
 refine Leave.nil (.cellA (us := [_, _, _, _, _, _, _, _, _, _, _, _, _]) rfl ag28 sz28 (by repeat first | exact mH | apply mT) rfl (.tmp rfl .nil)) ?_
 rw [hw, isSome_get c2]; rfl

end Go.Proofs.YtlcccpeelombbaaGreatDoor
