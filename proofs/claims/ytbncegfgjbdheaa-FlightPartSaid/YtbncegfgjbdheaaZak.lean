/- Joined texts. -/
import Derived.Test.YtbncegfgjbdheaaZaj
import Derived.Test.YtbncegfgjbdheaaZad
import Derived.Test.YtbncegfgjbdheaaZae
import Derived.Test.YtbncegfgjbdheaaZai
/- Ytbncegfgjbdheaa: the air and the winds that heights meet. -/
set_option linter.all false
namespace Go.Proofs.Ytbncegfgjbdheaa
open Go.Vc Go.Tk Go.Fl
set_option maxRecDepth 100000
set_option maxHeartbeats 8000000 in
theorem fair_c (z : Span) (hz : (-4611686018427387904 ≤ z.lo ∧ z.lo ≤ 4611686018427387903) ∧ (-4611686018427387904 ≤ z.hi ∧ z.hi ≤ 4611686018427387903)) (v : Veh) (x : Value) (hG : GoodV v) (w : World) (hv : VehR w x v) : FnP Try.prog 67 [x, .agg #[.int .i64 z.lo, .int .i64 z.hi]] w (.agg #[.int .i64 (airT v z).lo, .int .i64 (airT v z).hi]) := by
 have hV := hv
 obtain ⟨av, pv, qv, rfl, hsa, hsp, hsq⟩ := hv.ex
 obtain ⟨aa, ac, rfl, hac, hae⟩ := hsa.ex
 have hl20 := hG.air20
 simp only [List.length_map] at hV hac ⊢
 refine fn_pure Try.func67 rfl (by kernel_rfl) Try.ntmps67 Try.results67 rfl ?_
 refine Vs rfl ?_
 refine Lw rfl (w_box rfl rfl) ?_
 rintro _ _ ⟨b1, hb1, rfl, rfl⟩
 refine Lw rfl (w_box rfl rfl) ?_
 rintro _ _ ⟨b2, hb2, rfl, rfl⟩
 refine Lw rfl (w_alloc zr97 rfl) ?_
 rintro _ _ ⟨b3, hb3, rfl, rfl⟩
 refine L_then (kp [2, 3, 4] rfl) ?_
 refine Vs rfl ?_
 refine La rfl rfl rfl ?_
 refine L_then (kp [2, 3, 4, 5] rfl) ?_
 refine Vs rfl ?_
 refine La rfl rfl rfl ?_
 refine L_then (kp [2, 3, 4, 5, 6] rfl) ?_
 refine V_seq ?_
 refine Vs rfl ?_
 refine Lp rfl (p_fieldo fo28_2 rfl rfl) ?_
 refine Lr rfl (rl ag24 rfl rfl rfl) ?_
 refine Lp rfl (p_len isl24 rfl rfl) ?_
 refine Lm rfl rfl rfl ?_
 refine L_then (kp [3, 4, 5, 6, 10, 11, 12] rfl) ?_
 refine V_block ?_
 refine V_loop1 (γ := Int × Value × Value × Heap × Heap) (kp [3, 4, 10, 11] rfl) (fun (k, sv, tv, G, G9) => [(12, .int .i64 k), (5, sv), (6, tv)]) (fun (k, sv, tv, G, G9) => (b3, .cells #[.int .i64 0, .int .i64 0] 97) :: (b2, .cells #[.int .i64 z.lo, .int .i64 z.hi] 97) :: (b1, .cells #[.string v.name, .int .i64 v.gravity.lo, .int .i64 v.gravity.hi, .slice aa v.air.length ac, pv, qv] 28) :: (G ++ G9)) (fun (k, sv, tv, G, G9) => 0 ≤ k ∧ k ≤ v.air.length ∧ Grow 3 1 sv k.toNat (iiL (arFN v k.toNat)) G ∧ Grow 103 6 tv k.toNat (axL (arON v k.toNat)) G9) (fun (k, sv, tv, G, G9) => (v.air.length - k).toNat) ((0, .slice none 0 0, .slice none 0 0, [], [])) (.cons rfl (.cons rfl (.cons rfl (.nil _)))) (by repeat (first | exact List.Sublist.refl _ | apply List.Sublist.cons_cons | apply List.Sublist.cons)) (⟨by omega, by omega, .nil, .nil⟩) ?_
 rintro ⟨k, sv, tv, G, G9⟩ hi
 obtain ⟨hk0, hk1, hgr, hgs⟩ := hi
 dsimp only at hk0 hk1 hgr hgs ⊢
 refine Vs rfl ?_
 refine Lp rfl (p_lss rfl rfl rfl) ?_
 refine L_then (kp [3, 4, 5, 6, 10, 11, 12, 13] rfl) ?_
 refine V_seq ?_
 refine V_cond rfl ?_ ?_
 ·intro c1; try simp only [td] at c1
  obtain ⟨tb, rfl, hc⟩ := hae k.toNat _ (getD_cells (d := airZ) (by omega))
  refine V_skip (then_n ?_)
  refine V_seq ?_
  refine V_block ?_
  refine Vs rfl ?_
  refine Lp rfl (p_idx es24 rfl rfl rfl (by omega) (by omega)) ?_
  refine Lr rfl (r_loadBA ag100 sz100 rfl rfl hc rfl List.not_mem_nil) ?_
  refine Lw rfl (w_alloc zr100 rfl) ?_
  rintro _ _ ⟨b4, hb4, rfl, rfl⟩
  refine Ls (cs' := [_, _]) rfl sz100 rfl rfl rfl rfl rfl rfl rfl ?_
  refine L_then (kp [3, 4, 5, 6, 8, 10, 11, 12] rfl) ?_
  refine V_draw (.rd 0 (.rd 1 (.rd 2 (.rd 5 (.rd 6 (.rd 7 (.wr 3 [7, 6, 5, 1, 0] (.wr 4 [7, 6, 5, 2, 1] (.wr 8 [6, 5, 2, 1, 0] (.rd 9 (.wr 10 [7, 6, 5, 2, 1, 0] (.wr 11 [9, 7, 6, 2, 1, 0] (.wr 12 [9, 7, 6, 5] (.wr 13 [] .done)))))))))))))) mixed (by kernel_rfl) rfl ?_
  refine Dm rfl rfl rfl rfl ?_
  refine Dp rfl rfl (p_fieldo fo100_0 rfl rfl) ?_
  refine Dr rfl rfl (rl ag3 rfl rfl rfl) ?_
  refine Dm rfl rfl rfl rfl ?_
  refine Dp rfl rfl (p_fieldo fo100_1 rfl rfl) ?_
  refine Dr rfl rfl (rl ag3 rfl rfl rfl) ?_
  refine D_wr (.go (E' := [(7, _)]) rfl (.plain rfl) (w_slice (r := [_]) un166 sz3 zr3 rfl (by decide) rfl (by decide) rfl rfl) rfl ?_)
  rintro _ _ ⟨b5, hb5, rfl, rfl⟩
  refine ⟨(.cons rfl (.plain rfl) (rl ag3 rfl rfl rfl) .nil), ?_⟩
  refine D_wr (.go (E' := [(7, _)]) rfl (.plain rfl) (w_app (pre := [_, _, _, _, _]) (G := G) ap166 rfl rfl rfl hgr rfl rfl (news_own (by repeat first | exact mH | apply mT | apply List.mem_append_right)) (by simp [Value.oneCell']) (by omega) (by simp only [maxLen]; omega)) rfl ?_)
  rintro _ _ ⟨G1a, G1c, G1, rfl, rfl, hgr1⟩
  try simp only [List.cons_append, List.nil_append, List.append_nil]
  refine ⟨(.cons rfl (.plain rfl) (rl ag3 rfl rfl rfl) .nil), ?_⟩
  refine D_wr (.go (E' := []) rfl (.plain rfl) (w_callP rfl rfl rfl (fun w hg => fat_c _ w)) rfl ?_)
  rintro _ _ ⟨rfl, rfl⟩
  refine ⟨.nil, ?_⟩
  refine Dp rfl rfl (p_buildA (r := [_, _, _, _, _, _]) ar103 zr103 rfl rfl rfl) ?_
  refine D_wr (.go (E' := []) rfl (.plain rfl) (w_slice (r := [_, _, _, _, _, _]) un167 sz103 zr103 rfl (by decide) rfl (by decide) rfl rfl) rfl ?_)
  rintro _ _ ⟨b6, hb6, rfl, rfl⟩
  refine ⟨.nil, ?_⟩
  refine D_wr (.go (E' := []) rfl (.plain rfl) (w_app (pre := ([_, _, _, _, _, _] ++ G1)) (G := G9) (post := []) ap167 rfl rfl rfl hgs (by rw [List.append_nil]; rfl) rfl (news_own (by repeat first | exact mH | apply mT | apply List.mem_append_right)) (by intro u hu; simp only [List.mem_cons, List.not_mem_nil, or_false] at hu; rcases hu with rfl | rfl | rfl | rfl | rfl | rfl <;> rfl) (by omega) (by simp only [maxLen]; omega)) rfl ?_)
  rintro _ _ ⟨G2a, G2c, G2, rfl, rfl, hgs1⟩
  try simp only [List.cons_append, List.nil_append, List.append_nil]
  refine ⟨.nil, ?_⟩
  refine D_wr (.go (E' := []) rfl (.plain rfl) (rd_wr (RdP.rd (p_assign rfl rfl))) rfl ?_)
  rintro _ _ ⟨rfl, rfl⟩
  refine ⟨.nil, ?_⟩
  refine D_wr (.go (E' := []) rfl (.plain rfl) (rd_wr (RdP.rd (p_assign rfl rfl))) rfl ?_)
  rintro _ _ ⟨rfl, rfl⟩
  refine ⟨.nil, ?_⟩
  refine D_keep (kp [3, 4, 5, 6, 10, 11, 12] rfl) (blk_n (then_n ?_))
  refine V_region rfl ?_
  first | refine Lp rfl (p_add' rfl rfl rfl (by unfold InI; omega)) ?_ | refine Lp rfl (p_add rfl rfl rfl) ?_
  refine Lm rfl rfl rfl ?_
  refine L_keep (kp [3, 4, 5, 6, 10, 11, 12] rfl) (then_n ?_)
  refine ⟨(k + 1, _, _, G1, G2), ?_, ?_, (.cons rfl (.cons rfl (.cons rfl (.cons rfl (.cons rfl (.cons rfl (.cons rfl (.nil _)))))))), (by repeat (first | exact List.Sublist.refl _ | apply List.Sublist.cons_cons | apply List.Sublist.cons | apply List.sublist_append_of_sublist_right)), rfl⟩
  ·have ek : (k + 1).toNat = k.toNat + 1 := by omega
   refine ⟨by omega, by omega, ?_, ?_⟩
   ·rw [ek, arFN_s (by omega)]; exact hgr1
   rw [ek, arON_s (by omega)]; exact hgs1
  dsimp only; omega
 intro c1; try simp only [td] at c1
 have ek : k.toNat = v.air.length := by omega
 rw [ek, arFN_all] at hgr
 rw [ek, arON_all] at hgs
 have el : v.air.length = (arFrm v).length := by simp [arFrm]
 have el2 : v.air.length = (arOf v).length := by simp [arOf]
 rw [el] at hgr
 rw [el2] at hgs
 refine V_exit (then_e (then_e (blk_e rfl (then_n ?_))))
 refine Vs rfl ?_
 refine Lr rfl (rlA (vs := [_, _]) ag97 sz97 rfl rfl rfl) ?_
 iterate 2 refine Lm rfl rfl rfl ?_
 refine Lc rfl rfl rfl rfl (fun w hg => fsome_c z (arFrm v) (arOf v) _ _ w (Grow.slice hgr (fun p hp => hg.own p (by repeat first | exact hp | exact List.mem_append_left _ hp | apply List.mem_append_right | apply mT))) (Grow.rows (els := (arOf v).map axC) hgs (axL_len _) (by simp [arOf]) (fun p hp => hg.own p (by repeat first | exact hp | exact List.mem_append_left _ hp | apply List.mem_append_right | apply mT))) (by simp [arFrm, arOf]) (by simp [arOf]; omega) (by omega) (arFrm_bnd hG)) ?_
 refine Lp rfl (p_atA un103 ag97 sz97 rfl rfl rfl (by omega) (by omega) rfl) ?_
 refine Ls (cs' := [_, _]) rfl sz97 rfl rfl rfl rfl rfl rfl rfl ?_
 refine L_then (kp [4] rfl) ?_
 refine V_ret ?_
 refine Leave.nil (.cellA (us := [_, _]) rfl ag97 sz97 (by repeat first | exact mH | apply mT | apply List.mem_append_right) rfl .nil) ?_
 rfl
set_option maxHeartbeats 8000000 in
theorem fwinds_c (z : Span) (hz : (-4611686018427387904 ≤ z.lo ∧ z.lo ≤ 4611686018427387903) ∧ (-4611686018427387904 ≤ z.hi ∧ z.hi ≤ 4611686018427387903)) (l : List Fl.Band) (x : Value) (w : World) (hG : GoodB l) (hb : BdsR w x l) : FnP Try.prog 63 [x, .agg #[.int .i64 z.lo, .int .i64 z.hi]] w (.agg #[.int .i64 (windsT l z).x.lo, .int .i64 (windsT l z).x.hi, .int .i64 (windsT l z).y.lo, .int .i64 (windsT l z).y.hi, .int .i64 (windsT l z).z.lo, .int .i64 (windsT l z).z.hi]) := by
 have hB := hb
 obtain ⟨ba, bc, rfl, hbc, hbe⟩ := hb.sl.ex
 have hlb := hb.len
 have h20 := oP_false.1 hG.len
 simp only [List.length_map] at hbc hB ⊢
 refine fn_pure Try.func63 rfl (by kernel_rfl) Try.ntmps63 Try.results63 rfl ?_
 refine Vs rfl ?_
 refine Lw rfl (w_box rfl rfl) ?_
 rintro _ _ ⟨b1, hb1, rfl, rfl⟩
 refine Lw rfl (w_alloc zr103 rfl) ?_
 rintro _ _ ⟨b2, hb2, rfl, rfl⟩
 refine L_then (kp [0, 3, 4] rfl) ?_
 refine Vs rfl ?_
 refine La rfl rfl rfl ?_
 refine L_then (kp [0, 3, 4, 5] rfl) ?_
 refine Vs rfl ?_
 refine La rfl rfl rfl ?_
 refine L_then (kp [0, 3, 4, 5, 6] rfl) ?_
 refine V_seq ?_
 refine Vs rfl ?_
 refine Lm rfl rfl rfl ?_
 refine Lp rfl (p_len isl37 rfl rfl) ?_
 refine Lm rfl rfl rfl ?_
 refine L_then (kp [0, 3, 4, 5, 6, 9, 10, 11] rfl) ?_
 refine V_block ?_
 refine V_loop1 (γ := Int × Value × Value × Heap × Heap) (kp [0, 3, 4, 9, 10] rfl) (fun (k, sv, tv, G, G9) => [(11, .int .i64 k), (5, sv), (6, tv)]) (fun (k, sv, tv, G, G9) => (b2, .cells #[.int .i64 0, .int .i64 0, .int .i64 0, .int .i64 0, .int .i64 0, .int .i64 0] 103) :: (b1, .cells #[.int .i64 z.lo, .int .i64 z.hi] 97) :: (G ++ G9)) (fun (k, sv, tv, G, G9) => 0 ≤ k ∧ k ≤ l.length ∧ Grow 3 1 sv (bdFN l k.toNat).length (iiL (bdFN l k.toNat)) G ∧ Grow 103 6 tv (bdON l k.toNat).length (axL (bdON l k.toNat)) G9) (fun (k, sv, tv, G, G9) => (l.length - k).toNat) ((0, .slice none 0 0, .slice none 0 0, [], [])) (.cons rfl (.cons rfl (.cons rfl (.nil _)))) (by repeat (first | exact List.Sublist.refl _ | apply List.Sublist.cons_cons | apply List.Sublist.cons)) (⟨by omega, by omega, by rw [show Int.toNat 0 = 0 from rfl, bdFN_0]; exact .nil, by rw [show Int.toNat 0 = 0 from rfl, bdON_0]; exact .nil⟩) ?_
 rintro ⟨k, sv, tv, G, G9⟩ hi
 obtain ⟨hk0, hk1, hgr, hgs⟩ := hi
 dsimp only at hk0 hk1 hgr hgs ⊢
 refine Vs rfl ?_
 refine Lp rfl (p_lss rfl rfl rfl) ?_
 refine L_then (kp [0, 3, 4, 5, 6, 9, 10, 11, 12] rfl) ?_
 refine V_seq ?_
 refine V_cond rfl ?_ ?_
 ·intro c1; try simp only [td] at c1
  obtain ⟨tb, rfl, hc⟩ := hbe k.toNat _ (getD_cells (d := bdZ) (by omega))
  have hle1 := bdFN_len (l := l) (k := k.toNat) (by omega)
  have hle2 := bdON_len (l := l) (k := k.toNat) (by omega)
  refine V_skip (then_n ?_)
  refine V_seq ?_
  refine V_block ?_
  refine Vs rfl ?_
  refine Lm rfl rfl rfl ?_
  refine Lp rfl (p_idx es37 rfl rfl rfl (by omega) (by omega)) ?_
  refine Lr rfl (r_loadBA ag51 sz51 rfl rfl hc rfl List.not_mem_nil) ?_
  refine Lw rfl (w_alloc zr51 rfl) ?_
  rintro _ _ ⟨b3, hb3, rfl, rfl⟩
  refine La rfl rfl rfl ?_
  refine Ls (cs' := [_, _, _, _, _, _]) rfl sz51 rfl rfl rfl rfl rfl rfl rfl ?_
  refine L_then (kp [0, 3, 4, 5, 6, 7, 8, 9, 10, 11] rfl) ?_
  refine V_seq (V_draw (.rd 0 (.rd 1 (.rd 2 (.rd 5 (.rd 6 (.rd 7 (.rd 8 (.rd 9 (.rd 10 (.wr2 3 [10, 9, 8, 7, 6, 5, 1, 0] (.wr2 4 [10, 9, 8, 7, 6, 5, 2, 1] (.wr 11 [9, 8, 7, 6, 5, 2, 1, 0] (.wr 12 [10, 9, 8, 7, 6, 2, 1, 0] (.wr 13 [10, 9, 8, 7, 6, 5] (.wr 14 [] .done)))) 11 [9, 8, 7, 6, 5, 2, 1, 0] (.wr 4 [10, 9, 8, 7, 6, 5, 2, 1] (.wr 12 [10, 9, 8, 7, 6, 2, 1, 0] (.wr 13 [10, 9, 8, 7, 6, 5] (.wr 14 [] .done))))) 11 [9, 8, 7, 6, 5, 2, 1, 0] (.wr 3 [10, 9, 8, 7, 6, 5, 1, 0] (.wr 4 [10, 9, 8, 7, 6, 5, 2, 1] (.wr 12 [10, 9, 8, 7, 6, 2, 1, 0] (.wr 13 [10, 9, 8, 7, 6, 5] (.wr 14 [] .done))))))))))))))) mixed (by kernel_rfl) rfl ?_)
  refine Dm rfl rfl rfl rfl ?_
  refine Dp rfl rfl (p_fieldo fo51_0 rfl rfl) ?_
  refine Dr rfl rfl (rl ag3 rfl rfl rfl) ?_
  refine Dm rfl rfl rfl rfl ?_
  refine Dp rfl rfl (p_fieldo fo51_2 rfl rfl) ?_
  refine Dr rfl rfl (rlA (vs := [_, _]) ag23 sz23 rfl rfl rfl) ?_
  refine Dp rfl rfl (p_fieldo fo51_3 rfl rfl) ?_
  refine Dr rfl rfl (rlA (vs := [_, _]) ag23 sz23 rfl rfl rfl) ?_
  refine Dp rfl rfl (p_buildA (r := [_, _, _, _, _, _]) ar103 zr103 rfl rfl rfl) ?_
  refine D_wr2 rfl ?_ ?_
  ·refine (.go (E' := [(9, _), (7, _)]) rfl (.plain rfl) (w_slice (r := [_]) un166 sz3 zr3 rfl (by decide) rfl (by decide) rfl rfl) rfl ?_)
   rintro _ _ ⟨b4, hb4, rfl, rfl⟩
   refine ⟨(.cons rfl (.plain rfl) (rlA (vs := [_, _]) ag23 sz23 rfl rfl rfl) (.cons rfl (.plain rfl) (rlA (vs := [_, _]) ag23 sz23 rfl rfl rfl) .nil)), ?_⟩
   refine D_wr2 rfl ?_ ?_
   ·refine (.go (E' := [(9, _), (7, _)]) rfl (.plain rfl) (w_app (pre := [_, _, _, _]) (G := G) ap166 rfl rfl rfl hgr rfl rfl (news_own (by repeat first | exact mH | apply mT | apply List.mem_append_right)) (by simp [Value.oneCell']) (by omega) (by simp only [maxLen]; omega)) rfl ?_)
    rintro _ _ ⟨G1a, G1c, G1, rfl, rfl, hgr1⟩
    try simp only [List.cons_append, List.nil_append, List.append_nil]
    refine ⟨(.cons rfl (.plain rfl) (rlA (vs := [_, _]) ag23 sz23 rfl rfl rfl) (.cons rfl (.plain rfl) (rlA (vs := [_, _]) ag23 sz23 rfl rfl rfl) .nil)), ?_⟩
    refine D_wr (.go (E' := [(9, _), (7, _)]) rfl (.plain rfl) (w_slice (r := [_, _, _, _, _, _]) un167 sz103 zr103 rfl (by decide) rfl (by decide) rfl rfl) rfl ?_)
    rintro _ _ ⟨b5, hb5, rfl, rfl⟩
    refine ⟨(.cons rfl (.plain rfl) (rlA (vs := [_, _]) ag23 sz23 rfl rfl rfl) (.cons rfl (.plain rfl) (rlA (vs := [_, _]) ag23 sz23 rfl rfl rfl) .nil)), ?_⟩
    refine D_wr (.go (E' := [(9, _), (7, _)]) rfl (.plain rfl) (w_app (pre := ([_, _, _, _, _] ++ G1)) (G := G9) (post := []) ap167 rfl rfl rfl hgs (by rw [List.append_nil]; rfl) rfl (news_own (by repeat first | exact mH | apply mT | apply List.mem_append_right)) (by intro u hu; simp only [List.mem_cons, List.not_mem_nil, or_false] at hu; rcases hu with rfl | rfl | rfl | rfl | rfl | rfl <;> rfl) (by omega) (by simp only [maxLen]; omega)) rfl ?_)
    rintro _ _ ⟨G2a, G2c, G2, rfl, rfl, hgs1⟩
    try simp only [List.cons_append, List.nil_append, List.append_nil]
    refine ⟨(.cons rfl (.plain rfl) (rlA (vs := [_, _]) ag23 sz23 rfl rfl rfl) (.cons rfl (.plain rfl) (rlA (vs := [_, _]) ag23 sz23 rfl rfl rfl) .nil)), ?_⟩
    refine D_wr (.go (E' := [(9, _), (7, _)]) rfl (.plain rfl) (rd_wr (RdP.rd (p_assign rfl rfl))) rfl ?_)
    rintro _ _ ⟨rfl, rfl⟩
    refine ⟨(.cons rfl (.plain rfl) (rlA (vs := [_, _]) ag23 sz23 rfl rfl rfl) (.cons rfl (.plain rfl) (rlA (vs := [_, _]) ag23 sz23 rfl rfl rfl) .nil)), ?_⟩
    refine D_wr (.go (E' := []) rfl (.plain rfl) (rd_wr (RdP.rd (p_assign rfl rfl))) rfl ?_)
    rintro _ _ ⟨rfl, rfl⟩
    refine ⟨.nil, ?_⟩
    refine D_then (kp [0, 3, 4, 5, 6, 7, 8, 9, 10, 11] rfl) ?_
    refine Vs rfl ?_
    refine Lm rfl rfl rfl ?_
    first | refine Lp rfl (p_add' rfl rfl rfl (by unfold InI; omega)) ?_ | refine Lp rfl (p_add rfl rfl rfl) ?_
    refine Lm rfl rfl rfl ?_
    refine Lp rfl (p_len isl37 rfl rfl) ?_
    refine Lp rfl (p_eql rfl rfl rfl) ?_
    refine L_then (kp [0, 3, 4, 5, 6, 8, 9, 10, 11, 33] rfl) ?_
    refine V_cond rfl ?_ ?_
    ·intro c2; try simp only [td] at c2
     refine V_region rfl ?_
     refine Lm rfl rfl rfl ?_
     refine Lp rfl (p_fieldo fo51_1 rfl rfl) ?_
     refine Lr rfl (rl ag3 rfl rfl rfl) ?_
     refine Lw rfl (w_slice (r := [_]) un166 sz3 zr3 rfl (by decide) rfl (by decide) rfl rfl) ?_
     rintro _ _ ⟨b6, hb6, rfl, rfl⟩
     refine Lw rfl (w_app (pre := [_, _, _, _, _, _]) (G := G1) ap166 rfl rfl rfl hgr1 rfl rfl (news_own (by repeat first | exact mH | apply mT | apply List.mem_append_right)) (by simp [Value.oneCell']) (by omega) (by simp only [maxLen]; omega)) ?_
     rintro _ _ ⟨G3a, G3c, G3, rfl, rfl, hgr3⟩
     try simp only [List.cons_append, List.nil_append, List.append_nil]
     refine Lm rfl rfl rfl ?_
     refine Lp rfl (p_buildA (r := [_, _, _, _, _, _]) ar103 zr103 rfl rfl rfl) ?_
     refine Lw rfl (w_slice (r := [_, _, _, _, _, _]) un167 sz103 zr103 rfl (by decide) rfl (by decide) rfl rfl) ?_
     rintro _ _ ⟨b7, hb7, rfl, rfl⟩
     refine Lw rfl (w_app (pre := ([_, _, _, _, _, _, _] ++ G3)) (G := G2) (post := []) ap167 rfl rfl rfl hgs1 (by rw [List.append_nil]; rfl) rfl (news_own (by repeat first | exact mH | apply mT | apply List.mem_append_right)) (by intro u hu; simp only [List.mem_cons, List.not_mem_nil, or_false] at hu; rcases hu with rfl | rfl | rfl | rfl | rfl | rfl <;> rfl) (by omega) (by simp only [maxLen]; omega)) ?_
     rintro _ _ ⟨G4a, G4c, G4, rfl, rfl, hgs3⟩
     try simp only [List.cons_append, List.nil_append, List.append_nil]
     iterate 2 refine La rfl rfl rfl ?_
     refine L_keep (kp [0, 3, 4, 5, 6, 9, 10, 11] rfl) (blk_n (then_n ?_))
     refine V_region rfl ?_
     first | refine Lp rfl (p_add' rfl rfl rfl (by unfold InI; omega)) ?_ | refine Lp rfl (p_add rfl rfl rfl) ?_
     refine Lm rfl rfl rfl ?_
     refine L_keep (kp [0, 3, 4, 5, 6, 9, 10, 11] rfl) (then_n ?_)
     refine ⟨(k + 1, _, _, G3, G4), ?_, ?_, (.cons rfl (.cons rfl (.cons rfl (.cons rfl (.cons rfl (.cons rfl (.cons rfl (.cons rfl (.nil _))))))))), (by repeat (first | exact List.Sublist.refl _ | apply List.Sublist.cons_cons | apply List.Sublist.cons | apply List.sublist_append_of_sublist_right)), rfl⟩
     ·have ek : (k + 1).toNat = k.toNat + 1 := by omega
      refine ⟨by omega, by omega, ?_, ?_⟩
      ·rw [ek, bdFN_e (by omega), iiL_app, iiL_app, List.length_append, List.length_append]; exact hgr3
      rw [ek, bdON_e (by omega), axL_app, axL_app, List.length_append, List.length_append]; exact hgs3
     dsimp only; omega
    intro c2; try simp only [td] at c2
    refine V_skip (blk_n (then_n ?_))
    refine V_region rfl ?_
    first | refine Lp rfl (p_add' rfl rfl rfl (by unfold InI; omega)) ?_ | refine Lp rfl (p_add rfl rfl rfl) ?_
    refine Lm rfl rfl rfl ?_
    refine L_keep (kp [0, 3, 4, 5, 6, 9, 10, 11] rfl) (then_n ?_)
    refine ⟨(k + 1, _, _, G1, G2), ?_, ?_, (.cons rfl (.cons rfl (.cons rfl (.cons rfl (.cons rfl (.cons rfl (.cons rfl (.cons rfl (.nil _))))))))), (by repeat (first | exact List.Sublist.refl _ | apply List.Sublist.cons_cons | apply List.Sublist.cons | apply List.sublist_append_of_sublist_right)), rfl⟩
    ·have ek : (k + 1).toNat = k.toNat + 1 := by omega
     refine ⟨by omega, by omega, ?_, ?_⟩
     ·rw [ek, bdFN_s (by omega), iiL_app, List.length_append]; exact hgr1
     rw [ek, bdON_s (by omega), axL_app, List.length_append]; exact hgs1
    dsimp only; omega
   refine (.go (E' := [(9, _), (7, _)]) rfl (.plain rfl) (w_slice (r := [_, _, _, _, _, _]) un167 sz103 zr103 rfl (by decide) rfl (by decide) rfl rfl) rfl ?_)
   rintro _ _ ⟨b5, hb5, rfl, rfl⟩
   refine ⟨(.cons rfl (.plain rfl) (rlA (vs := [_, _]) ag23 sz23 rfl rfl rfl) (.cons rfl (.plain rfl) (rlA (vs := [_, _]) ag23 sz23 rfl rfl rfl) .nil)), ?_⟩
   refine D_wr (.go (E' := [(9, _), (7, _)]) rfl (.plain rfl) (w_app (pre := [_, _, _, _, _]) (G := G) ap166 rfl rfl rfl hgr rfl rfl (news_own (by repeat first | exact mH | apply mT | apply List.mem_append_right)) (by simp [Value.oneCell']) (by omega) (by simp only [maxLen]; omega)) rfl ?_)
   rintro _ _ ⟨G1a, G1c, G1, rfl, rfl, hgr1⟩
   try simp only [List.cons_append, List.nil_append, List.append_nil]
   refine ⟨(.cons rfl (.plain rfl) (rlA (vs := [_, _]) ag23 sz23 rfl rfl rfl) (.cons rfl (.plain rfl) (rlA (vs := [_, _]) ag23 sz23 rfl rfl rfl) .nil)), ?_⟩
   refine D_wr (.go (E' := [(9, _), (7, _)]) rfl (.plain rfl) (w_app (pre := ([_, _, _, _, _] ++ G1)) (G := G9) (post := []) ap167 rfl rfl rfl hgs (by rw [List.append_nil]; rfl) rfl (news_own (by repeat first | exact mH | apply mT | apply List.mem_append_right)) (by intro u hu; simp only [List.mem_cons, List.not_mem_nil, or_false] at hu; rcases hu with rfl | rfl | rfl | rfl | rfl | rfl <;> rfl) (by omega) (by simp only [maxLen]; omega)) rfl ?_)
   rintro _ _ ⟨G2a, G2c, G2, rfl, rfl, hgs1⟩
   try simp only [List.cons_append, List.nil_append, List.append_nil]
   refine ⟨(.cons rfl (.plain rfl) (rlA (vs := [_, _]) ag23 sz23 rfl rfl rfl) (.cons rfl (.plain rfl) (rlA (vs := [_, _]) ag23 sz23 rfl rfl rfl) .nil)), ?_⟩
   refine D_wr (.go (E' := [(9, _), (7, _)]) rfl (.plain rfl) (rd_wr (RdP.rd (p_assign rfl rfl))) rfl ?_)
   rintro _ _ ⟨rfl, rfl⟩
   refine ⟨(.cons rfl (.plain rfl) (rlA (vs := [_, _]) ag23 sz23 rfl rfl rfl) (.cons rfl (.plain rfl) (rlA (vs := [_, _]) ag23 sz23 rfl rfl rfl) .nil)), ?_⟩
   refine D_wr (.go (E' := []) rfl (.plain rfl) (rd_wr (RdP.rd (p_assign rfl rfl))) rfl ?_)
   rintro _ _ ⟨rfl, rfl⟩
   refine ⟨.nil, ?_⟩
   refine D_then (kp [0, 3, 4, 5, 6, 7, 8, 9, 10, 11] rfl) ?_
   refine Vs rfl ?_
   refine Lm rfl rfl rfl ?_
   first | refine Lp rfl (p_add' rfl rfl rfl (by unfold InI; omega)) ?_ | refine Lp rfl (p_add rfl rfl rfl) ?_
   refine Lm rfl rfl rfl ?_
   refine Lp rfl (p_len isl37 rfl rfl) ?_
   refine Lp rfl (p_eql rfl rfl rfl) ?_
   refine L_then (kp [0, 3, 4, 5, 6, 8, 9, 10, 11, 33] rfl) ?_
   refine V_cond rfl ?_ ?_
   ·intro c3; try simp only [td] at c3
    refine V_region rfl ?_
    refine Lm rfl rfl rfl ?_
    refine Lp rfl (p_fieldo fo51_1 rfl rfl) ?_
    refine Lr rfl (rl ag3 rfl rfl rfl) ?_
    refine Lw rfl (w_slice (r := [_]) un166 sz3 zr3 rfl (by decide) rfl (by decide) rfl rfl) ?_
    rintro _ _ ⟨b6, hb6, rfl, rfl⟩
    refine Lw rfl (w_app (pre := [_, _, _, _, _, _]) (G := G1) ap166 rfl rfl rfl hgr1 rfl rfl (news_own (by repeat first | exact mH | apply mT | apply List.mem_append_right)) (by simp [Value.oneCell']) (by omega) (by simp only [maxLen]; omega)) ?_
    rintro _ _ ⟨G3a, G3c, G3, rfl, rfl, hgr3⟩
    try simp only [List.cons_append, List.nil_append, List.append_nil]
    refine Lm rfl rfl rfl ?_
    refine Lp rfl (p_buildA (r := [_, _, _, _, _, _]) ar103 zr103 rfl rfl rfl) ?_
    refine Lw rfl (w_slice (r := [_, _, _, _, _, _]) un167 sz103 zr103 rfl (by decide) rfl (by decide) rfl rfl) ?_
    rintro _ _ ⟨b7, hb7, rfl, rfl⟩
    refine Lw rfl (w_app (pre := ([_, _, _, _, _, _, _] ++ G3)) (G := G2) (post := []) ap167 rfl rfl rfl hgs1 (by rw [List.append_nil]; rfl) rfl (news_own (by repeat first | exact mH | apply mT | apply List.mem_append_right)) (by intro u hu; simp only [List.mem_cons, List.not_mem_nil, or_false] at hu; rcases hu with rfl | rfl | rfl | rfl | rfl | rfl <;> rfl) (by omega) (by simp only [maxLen]; omega)) ?_
    rintro _ _ ⟨G4a, G4c, G4, rfl, rfl, hgs3⟩
    try simp only [List.cons_append, List.nil_append, List.append_nil]
    iterate 2 refine La rfl rfl rfl ?_
    refine L_keep (kp [0, 3, 4, 5, 6, 9, 10, 11] rfl) (blk_n (then_n ?_))
    refine V_region rfl ?_
    first | refine Lp rfl (p_add' rfl rfl rfl (by unfold InI; omega)) ?_ | refine Lp rfl (p_add rfl rfl rfl) ?_
    refine Lm rfl rfl rfl ?_
    refine L_keep (kp [0, 3, 4, 5, 6, 9, 10, 11] rfl) (then_n ?_)
    refine ⟨(k + 1, _, _, G3, G4), ?_, ?_, (.cons rfl (.cons rfl (.cons rfl (.cons rfl (.cons rfl (.cons rfl (.cons rfl (.cons rfl (.nil _))))))))), (by repeat (first | exact List.Sublist.refl _ | apply List.Sublist.cons_cons | apply List.Sublist.cons | apply List.sublist_append_of_sublist_right)), rfl⟩
    ·have ek : (k + 1).toNat = k.toNat + 1 := by omega
     refine ⟨by omega, by omega, ?_, ?_⟩
     ·rw [ek, bdFN_e (by omega), iiL_app, iiL_app, List.length_append, List.length_append]; exact hgr3
     rw [ek, bdON_e (by omega), axL_app, axL_app, List.length_append, List.length_append]; exact hgs3
    dsimp only; omega
   intro c3; try simp only [td] at c3
   refine V_skip (blk_n (then_n ?_))
   refine V_region rfl ?_
   first | refine Lp rfl (p_add' rfl rfl rfl (by unfold InI; omega)) ?_ | refine Lp rfl (p_add rfl rfl rfl) ?_
   refine Lm rfl rfl rfl ?_
   refine L_keep (kp [0, 3, 4, 5, 6, 9, 10, 11] rfl) (then_n ?_)
   refine ⟨(k + 1, _, _, G1, G2), ?_, ?_, (.cons rfl (.cons rfl (.cons rfl (.cons rfl (.cons rfl (.cons rfl (.cons rfl (.cons rfl (.nil _))))))))), (by repeat (first | exact List.Sublist.refl _ | apply List.Sublist.cons_cons | apply List.Sublist.cons | apply List.sublist_append_of_sublist_right)), rfl⟩
   ·have ek : (k + 1).toNat = k.toNat + 1 := by omega
    refine ⟨by omega, by omega, ?_, ?_⟩
    ·rw [ek, bdFN_s (by omega), iiL_app, List.length_append]; exact hgr1
    rw [ek, bdON_s (by omega), axL_app, List.length_append]; exact hgs1
   dsimp only; omega
  refine (.go (E' := [(9, _), (7, _), (2, _)]) rfl (.plain rfl) (w_slice (r := [_, _, _, _, _, _]) un167 sz103 zr103 rfl (by decide) rfl (by decide) rfl rfl) rfl ?_)
  rintro _ _ ⟨b4, hb4, rfl, rfl⟩
  refine ⟨(.cons rfl (.plain rfl) (rlA (vs := [_, _]) ag23 sz23 rfl rfl rfl) (.cons rfl (.plain rfl) (rlA (vs := [_, _]) ag23 sz23 rfl rfl rfl) (.cons rfl (.plain rfl) (rl ag3 rfl rfl rfl) .nil))), ?_⟩
  refine D_wr (.go (E' := [(9, _), (7, _)]) rfl (.plain rfl) (w_slice (r := [_]) un166 sz3 zr3 rfl (by decide) rfl (by decide) rfl rfl) rfl ?_)
  rintro _ _ ⟨b5, hb5, rfl, rfl⟩
  refine ⟨(.cons rfl (.plain rfl) (rlA (vs := [_, _]) ag23 sz23 rfl rfl rfl) (.cons rfl (.plain rfl) (rlA (vs := [_, _]) ag23 sz23 rfl rfl rfl) .nil)), ?_⟩
  refine D_wr (.go (E' := [(9, _), (7, _)]) rfl (.plain rfl) (w_app (pre := [_, _, _, _, _]) (G := G) ap166 rfl rfl rfl hgr rfl rfl (news_own (by repeat first | exact mH | apply mT | apply List.mem_append_right)) (by simp [Value.oneCell']) (by omega) (by simp only [maxLen]; omega)) rfl ?_)
  rintro _ _ ⟨G1a, G1c, G1, rfl, rfl, hgr1⟩
  try simp only [List.cons_append, List.nil_append, List.append_nil]
  refine ⟨(.cons rfl (.plain rfl) (rlA (vs := [_, _]) ag23 sz23 rfl rfl rfl) (.cons rfl (.plain rfl) (rlA (vs := [_, _]) ag23 sz23 rfl rfl rfl) .nil)), ?_⟩
  refine D_wr (.go (E' := [(9, _), (7, _)]) rfl (.plain rfl) (w_app (pre := ([_, _, _, _, _] ++ G1)) (G := G9) (post := []) ap167 rfl rfl rfl hgs (by rw [List.append_nil]; rfl) rfl (news_own (by repeat first | exact mH | apply mT | apply List.mem_append_right)) (by intro u hu; simp only [List.mem_cons, List.not_mem_nil, or_false] at hu; rcases hu with rfl | rfl | rfl | rfl | rfl | rfl <;> rfl) (by omega) (by simp only [maxLen]; omega)) rfl ?_)
  rintro _ _ ⟨G2a, G2c, G2, rfl, rfl, hgs1⟩
  try simp only [List.cons_append, List.nil_append, List.append_nil]
  refine ⟨(.cons rfl (.plain rfl) (rlA (vs := [_, _]) ag23 sz23 rfl rfl rfl) (.cons rfl (.plain rfl) (rlA (vs := [_, _]) ag23 sz23 rfl rfl rfl) .nil)), ?_⟩
  refine D_wr (.go (E' := [(9, _), (7, _)]) rfl (.plain rfl) (rd_wr (RdP.rd (p_assign rfl rfl))) rfl ?_)
  rintro _ _ ⟨rfl, rfl⟩
  refine ⟨(.cons rfl (.plain rfl) (rlA (vs := [_, _]) ag23 sz23 rfl rfl rfl) (.cons rfl (.plain rfl) (rlA (vs := [_, _]) ag23 sz23 rfl rfl rfl) .nil)), ?_⟩
  refine D_wr (.go (E' := []) rfl (.plain rfl) (rd_wr (RdP.rd (p_assign rfl rfl))) rfl ?_)
  rintro _ _ ⟨rfl, rfl⟩
  refine ⟨.nil, ?_⟩
  refine D_then (kp [0, 3, 4, 5, 6, 7, 8, 9, 10, 11] rfl) ?_
  refine Vs rfl ?_
  refine Lm rfl rfl rfl ?_
  first | refine Lp rfl (p_add' rfl rfl rfl (by unfold InI; omega)) ?_ | refine Lp rfl (p_add rfl rfl rfl) ?_
  refine Lm rfl rfl rfl ?_
  refine Lp rfl (p_len isl37 rfl rfl) ?_
  refine Lp rfl (p_eql rfl rfl rfl) ?_
  refine L_then (kp [0, 3, 4, 5, 6, 8, 9, 10, 11, 33] rfl) ?_
  refine V_cond rfl ?_ ?_
  ·intro c4; try simp only [td] at c4
   refine V_region rfl ?_
   refine Lm rfl rfl rfl ?_
   refine Lp rfl (p_fieldo fo51_1 rfl rfl) ?_
   refine Lr rfl (rl ag3 rfl rfl rfl) ?_
   refine Lw rfl (w_slice (r := [_]) un166 sz3 zr3 rfl (by decide) rfl (by decide) rfl rfl) ?_
   rintro _ _ ⟨b6, hb6, rfl, rfl⟩
   refine Lw rfl (w_app (pre := [_, _, _, _, _, _]) (G := G1) ap166 rfl rfl rfl hgr1 rfl rfl (news_own (by repeat first | exact mH | apply mT | apply List.mem_append_right)) (by simp [Value.oneCell']) (by omega) (by simp only [maxLen]; omega)) ?_
   rintro _ _ ⟨G3a, G3c, G3, rfl, rfl, hgr3⟩
   try simp only [List.cons_append, List.nil_append, List.append_nil]
   refine Lm rfl rfl rfl ?_
   refine Lp rfl (p_buildA (r := [_, _, _, _, _, _]) ar103 zr103 rfl rfl rfl) ?_
   refine Lw rfl (w_slice (r := [_, _, _, _, _, _]) un167 sz103 zr103 rfl (by decide) rfl (by decide) rfl rfl) ?_
   rintro _ _ ⟨b7, hb7, rfl, rfl⟩
   refine Lw rfl (w_app (pre := ([_, _, _, _, _, _, _] ++ G3)) (G := G2) (post := []) ap167 rfl rfl rfl hgs1 (by rw [List.append_nil]; rfl) rfl (news_own (by repeat first | exact mH | apply mT | apply List.mem_append_right)) (by intro u hu; simp only [List.mem_cons, List.not_mem_nil, or_false] at hu; rcases hu with rfl | rfl | rfl | rfl | rfl | rfl <;> rfl) (by omega) (by simp only [maxLen]; omega)) ?_
   rintro _ _ ⟨G4a, G4c, G4, rfl, rfl, hgs3⟩
   try simp only [List.cons_append, List.nil_append, List.append_nil]
   iterate 2 refine La rfl rfl rfl ?_
   refine L_keep (kp [0, 3, 4, 5, 6, 9, 10, 11] rfl) (blk_n (then_n ?_))
   refine V_region rfl ?_
   first | refine Lp rfl (p_add' rfl rfl rfl (by unfold InI; omega)) ?_ | refine Lp rfl (p_add rfl rfl rfl) ?_
   refine Lm rfl rfl rfl ?_
   refine L_keep (kp [0, 3, 4, 5, 6, 9, 10, 11] rfl) (then_n ?_)
   refine ⟨(k + 1, _, _, G3, G4), ?_, ?_, (.cons rfl (.cons rfl (.cons rfl (.cons rfl (.cons rfl (.cons rfl (.cons rfl (.cons rfl (.nil _))))))))), (by repeat (first | exact List.Sublist.refl _ | apply List.Sublist.cons_cons | apply List.Sublist.cons | apply List.sublist_append_of_sublist_right)), rfl⟩
   ·have ek : (k + 1).toNat = k.toNat + 1 := by omega
    refine ⟨by omega, by omega, ?_, ?_⟩
    ·rw [ek, bdFN_e (by omega), iiL_app, iiL_app, List.length_append, List.length_append]; exact hgr3
    rw [ek, bdON_e (by omega), axL_app, axL_app, List.length_append, List.length_append]; exact hgs3
   dsimp only; omega
  intro c4; try simp only [td] at c4
  refine V_skip (blk_n (then_n ?_))
  refine V_region rfl ?_
  first | refine Lp rfl (p_add' rfl rfl rfl (by unfold InI; omega)) ?_ | refine Lp rfl (p_add rfl rfl rfl) ?_
  refine Lm rfl rfl rfl ?_
  refine L_keep (kp [0, 3, 4, 5, 6, 9, 10, 11] rfl) (then_n ?_)
  refine ⟨(k + 1, _, _, G1, G2), ?_, ?_, (.cons rfl (.cons rfl (.cons rfl (.cons rfl (.cons rfl (.cons rfl (.cons rfl (.cons rfl (.nil _))))))))), (by repeat (first | exact List.Sublist.refl _ | apply List.Sublist.cons_cons | apply List.Sublist.cons | apply List.sublist_append_of_sublist_right)), rfl⟩
  ·have ek : (k + 1).toNat = k.toNat + 1 := by omega
   refine ⟨by omega, by omega, ?_, ?_⟩
   ·rw [ek, bdFN_s (by omega), iiL_app, List.length_append]; exact hgr1
   rw [ek, bdON_s (by omega), axL_app, List.length_append]; exact hgs1
  dsimp only; omega
 intro c1; try simp only [td] at c1
 have ek : k.toNat = l.length := by omega
 rw [ek, bdFN_all] at hgr
 rw [ek, bdON_all] at hgs
 refine V_exit (then_e (then_e (blk_e rfl (then_n ?_))))
 refine Vs rfl ?_
 refine Lr rfl (rlA (vs := [_, _]) ag97 sz97 rfl rfl rfl) ?_
 iterate 2 refine Lm rfl rfl rfl ?_
 refine Lc rfl rfl rfl rfl (fun w hg => fsome_c z (bdFrm l) (bdOf l) _ _ w (Grow.slice hgr (fun p hp => hg.own p (by repeat first | exact hp | exact List.mem_append_left _ hp | apply List.mem_append_right | apply mT))) (Grow.rows (els := (bdOf l).map axC) hgs (axL_len _) (by simp) (fun p hp => hg.own p (by repeat first | exact hp | exact List.mem_append_left _ hp | apply List.mem_append_right | apply mT))) (bdFrm_len l) (by rw [← bdFrm_len]; unfold bdFrm; split <;> simp <;> omega) (by omega) (bdFrm_bnd hG)) ?_
 refine Ls (cs' := [_, _, _, _, _, _]) rfl sz103 rfl rfl rfl rfl rfl rfl rfl ?_
 refine L_then (kp [4] rfl) ?_
 refine V_ret ?_
 refine Leave.nil (.cellA (us := [_, _, _, _, _, _]) rfl ag103 sz103 (by repeat first | exact mH | apply mT | apply List.mem_append_right) rfl .nil) ?_
 rfl

end Go.Proofs.Ytbncegfgjbdheaa

/- Ytbncegfgjbdheaa: the force on a state. -/
set_option linter.all false
namespace Go.Proofs.Ytbncegfgjbdheaa
open Go.Vc Go.Tk Go.Fl
set_option maxRecDepth 100000
theorem fforce1_c (p : Phase) (k : Int) (t : Span) (hpu : SpB 20000000 (pushS p)) (hm : 1 ≤ p.mass.lo ∧ p.mass.lo ≤ p.mass.hi ∧ p.mass.hi ≤ 100000) (hk : -10000 ≤ k ∧ k ≤ 10000) (ht : SpB 2000 t) (b ty : Nat) (fr : Nat × Nat) (w : World) (hb : w.heap[b]? = some (.cells #[.int .i64 (pushS p).lo, .int .i64 (pushS p).hi, .int .i64 p.mass.lo, .int .i64 p.mass.hi, .int .i64 p.drag.lo, .int .i64 p.drag.hi, .int .i64 p.tilt.x.lo, .int .i64 p.tilt.x.hi, .int .i64 p.tilt.y.lo, .int .i64 p.tilt.y.hi, .int .i64 p.tilt.z.lo, .int .i64 p.tilt.z.hi] ty fr)) : FnP Try.prog 103 [.agg #[.int .i64 (at1 k).lo, .int .i64 (at1 k).hi], .agg #[.int .i64 t.lo, .int .i64 t.hi], .pointer (some ⟨b, 0, none⟩)] w (.agg #[.int .i64 (divS (Fl.mulS (pushS p) (Fl.addS (at1 k) t)) p.mass 10000).lo, .int .i64 (divS (Fl.mulS (pushS p) (Fl.addS (at1 k) t)) p.mass 10000).hi]) := by
 have hq : SpB 12000 (Fl.addS (at1 k) t) := addS_bnd (A := 10000) (by unfold SpB at1; dsimp only; omega) ht
 have hq2 := mulS_bnd hpu hq
 refine fn_pure Try.func103 rfl (by kernel_rfl) Try.ntmps103 Try.results103 rfl ?_
 refine Vs rfl ?_
 refine Lw rfl (w_box rfl rfl) ?_
 rintro _ _ ⟨b1, hb1, rfl, rfl⟩
 refine Lw rfl (w_box rfl rfl) ?_
 rintro _ _ ⟨b2, hb2, rfl, rfl⟩
 refine Lw rfl (w_alloc zr97 rfl) ?_
 rintro _ _ ⟨b3, hb3, rfl, rfl⟩
 refine L_then (kp [2, 3, 4, 5] rfl) ?_
 refine V_seq (V_draw (.rd 0 (.rd 1 (.rd 2 (.rd 3 (.rd 6 (.rd 7 (.wr 4 [7, 6, 1, 0] (.wr 5 [7, 6, 3, 2, 0] (.wr 8 [6, 3, 2, 1, 0] (.wr 9 [] .done)))))))))) mixed (by kernel_rfl) rfl ?_)
 refine Dp rfl rfl (p_fieldo fo139_0 rfl rfl) ?_
 refine Dr rfl rfl (r_loadBA (vs := [_, _]) ag97 sz97 rfl rfl (own_slice (n := 2) (vs := [_, _]) hb rfl).1 rfl List.not_mem_nil) ?_
 iterate 2 refine Dr rfl rfl (rlA (vs := [_, _]) ag97 sz97 rfl rfl rfl) ?_
 refine Dp rfl rfl (p_fieldo fo139_1 rfl rfl) ?_
 refine Dr rfl rfl (r_loadBA (vs := [_, _]) ag97 sz97 rfl rfl (own_slice (n := 2) (vs := [_, _]) hb rfl).1 rfl List.not_mem_nil) ?_
 refine D_wr (.go (E' := [(7, _), (1, _)]) rfl (.plain rfl) (w_callP rfl rfl rfl (fun w hg => fplus_c (at1 k) t (by obtain ⟨t1, t2, t3⟩ := ht; dsimp only [at1]; omega) w)) rfl ?_)
 rintro _ _ ⟨rfl, rfl⟩
 refine ⟨(.cons rfl (.plain rfl) (r_loadBA (vs := [_, _]) ag97 sz97 rfl rfl (own_slice (n := 2) (vs := [_, _]) hb rfl).1 rfl List.not_mem_nil) (.cons rfl (.plain rfl) (r_loadBA (vs := [_, _]) ag97 sz97 rfl rfl (own_slice (n := 2) (vs := [_, _]) hb rfl).1 rfl List.not_mem_nil) .nil)), ?_⟩
 refine D_wr (.go (E' := [(7, _)]) rfl (.plain rfl) (w_callP rfl rfl rfl (fun w hg => ftimes_c (pushS p) (Fl.addS (at1 k) t) hpu hq (by decide) w)) rfl ?_)
 rintro _ _ ⟨rfl, rfl⟩
 refine ⟨(.cons rfl (.plain rfl) (r_loadBA (vs := [_, _]) ag97 sz97 rfl rfl (own_slice (n := 2) (vs := [_, _]) hb rfl).1 rfl List.not_mem_nil) .nil), ?_⟩
 refine D_wr (.go (E' := []) rfl (.plain rfl) (w_callP rfl rfl rfl (fun w hg => fover_c (Fl.mulS (pushS p) (Fl.addS (at1 k) t)) p.mass 10000 hq2 (by decide) hm (by decide) w)) rfl ?_)
 rintro _ _ ⟨rfl, rfl⟩
 refine ⟨.nil, ?_⟩
 refine D_wr (.go (E' := []) rfl (.plain rfl) (ws (cs' := [_, _]) sz97 rfl rfl rfl rfl rfl rfl rfl) rfl ?_)
 rintro _ _ ⟨rfl, rfl⟩
 refine ⟨.nil, ?_⟩
 refine D_then (kp [5] rfl) ?_
 refine V_ret ?_
 refine Leave.nil (.cellA (us := [_, _]) rfl ag97 sz97 (by repeat first | exact mH | apply mT) rfl .nil) ?_
 rfl
theorem fforce2_c (p : Phase) (D t u : Span) (hD : SpB 1766693000000 D) (hm : 1 ≤ p.mass.lo ∧ p.mass.lo ≤ p.mass.hi ∧ p.mass.hi ≤ 100000) (ht : SpB 24000000 t) (hu : SpB 1020000 u) (b bD ty ty2 : Nat) (fr fr2 : Nat × Nat) (w : World) (hb : w.heap[b]? = some (.cells #[.int .i64 (pushS p).lo, .int .i64 (pushS p).hi, .int .i64 p.mass.lo, .int .i64 p.mass.hi, .int .i64 p.drag.lo, .int .i64 p.drag.hi, .int .i64 p.tilt.x.lo, .int .i64 p.tilt.x.hi, .int .i64 p.tilt.y.lo, .int .i64 p.tilt.y.hi, .int .i64 p.tilt.z.lo, .int .i64 p.tilt.z.hi] ty fr)) (hbD : w.heap[bD]? = some (.cells #[.int .i64 D.lo, .int .i64 D.hi] ty2 fr2)) : FnP Try.prog 105 [.agg #[.int .i64 t.lo, .int .i64 t.hi], .agg #[.int .i64 u.lo, .int .i64 u.hi], .pointer (some ⟨bD, 0, none⟩), .pointer (some ⟨b, 0, none⟩)] w (.agg #[.int .i64 (Fl.subS t (divS (Fl.mulS D u) p.mass 1000000000)).lo, .int .i64 (Fl.subS t (divS (Fl.mulS D u) p.mass 1000000000)).hi]) := by
 have hq := mulS_bnd hD hu
 have hq2 := divS_bnd2 (A := 1802026860) (n := 1000000000) (m := p.mass) (by decide) (by decide) ⟨hm.1, hm.2.1⟩ hq
 refine fn_pure Try.func105 rfl (by kernel_rfl) Try.ntmps105 Try.results105 rfl ?_
 refine Vs rfl ?_
 refine Lw rfl (w_box rfl rfl) ?_
 rintro _ _ ⟨b1, hb1, rfl, rfl⟩
 refine Lw rfl (w_box rfl rfl) ?_
 rintro _ _ ⟨b2, hb2, rfl, rfl⟩
 refine Lw rfl (w_alloc zr97 rfl) ?_
 rintro _ _ ⟨b3, hb3, rfl, rfl⟩
 refine L_then (kp [2, 3, 4, 5, 6] rfl) ?_
 refine V_seq (V_draw (.rd 0 (.rd 1 (.rd 2 (.rd 4 (.rd 5 (.wr 3 [5, 4, 0] (.wr 6 [4, 2, 1, 0] (.wr 7 [5, 4, 2, 1] (.wr 8 [] .done))))))))) mixed (by kernel_rfl) rfl ?_)
 refine Dr rfl rfl (rlA (vs := [_, _]) ag97 sz97 rfl rfl rfl) ?_
 refine Dr rfl rfl (r_loadBA (vs := [_, _]) ag97 sz97 rfl rfl (own_slice (n := 2) (vs := [_, _]) hbD rfl).1 rfl List.not_mem_nil) ?_
 refine Dr rfl rfl (rlA (vs := [_, _]) ag97 sz97 rfl rfl rfl) ?_
 refine Dp rfl rfl (p_fieldo fo139_1 rfl rfl) ?_
 refine Dr rfl rfl (r_loadBA (vs := [_, _]) ag97 sz97 rfl rfl (own_slice (n := 2) (vs := [_, _]) hb rfl).1 rfl List.not_mem_nil) ?_
 refine D_wr (.go (E' := [(5, _), (0, _)]) rfl (.plain rfl) (w_callP rfl rfl rfl (fun w hg => ftimes_c D u hD hu (by decide) w)) rfl ?_)
 rintro _ _ ⟨rfl, rfl⟩
 refine ⟨(.cons rfl (.plain rfl) (r_loadBA (vs := [_, _]) ag97 sz97 rfl rfl (own_slice (n := 2) (vs := [_, _]) hb rfl).1 rfl List.not_mem_nil) (.cons rfl (.plain rfl) (rlA (vs := [_, _]) ag97 sz97 rfl rfl rfl) .nil)), ?_⟩
 refine D_wr (.go (E' := [(0, _)]) rfl (.plain rfl) (w_callP rfl rfl rfl (fun w hg => fover_c (Fl.mulS D u) p.mass 1000000000 hq (by decide) hm (by decide) w)) rfl ?_)
 rintro _ _ ⟨rfl, rfl⟩
 refine ⟨(.cons rfl (.plain rfl) (rlA (vs := [_, _]) ag97 sz97 rfl rfl rfl) .nil), ?_⟩
 refine D_wr (.go (E' := []) rfl (.plain rfl) (w_callP rfl rfl rfl (fun w hg => fminus_c t (divS (Fl.mulS D u) p.mass 1000000000) (by obtain ⟨t1, t2, t3⟩ := ht; obtain ⟨q1, q2, q3⟩ := hq2; omega) w)) rfl ?_)
 rintro _ _ ⟨rfl, rfl⟩
 refine ⟨.nil, ?_⟩
 refine D_wr (.go (E' := []) rfl (.plain rfl) (ws (cs' := [_, _]) sz97 rfl rfl rfl rfl rfl rfl rfl) rfl ?_)
 rintro _ _ ⟨rfl, rfl⟩
 refine ⟨.nil, ?_⟩
 refine D_then (kp [6] rfl) ?_
 refine V_ret ?_
 refine Leave.nil (.cellA (us := [_, _]) rfl ag97 sz97 (by repeat first | exact mH | apply mT) rfl .nil) ?_
 rfl
set_option maxHeartbeats 8000000 in
theorem fforce_c (v : Veh) (d : Dir) (l : List Fl.Band) (av pv qv bv : Value) (hV : GoodV v) (hd : dirE d = 0) (hB : GoodB l) (p : Phase) (s : St) (hp : PhB p) (hs : farS s = false) (b ty : Nat) (fr : Nat × Nat) (w : World) (hb : w.heap[b]? = some (.cells (flC v av pv qv d bv).toArray ty fr)) (hv : VehR w (VehV v av pv qv) v) (hl : BdsR w bv l) : FnP Try.prog 74 [.pointer (some ⟨b, 0, none⟩), .agg #[.int .i64 (pushS p).lo, .int .i64 (pushS p).hi, .int .i64 p.mass.lo, .int .i64 p.mass.hi, .int .i64 p.drag.lo, .int .i64 p.drag.hi, .int .i64 p.tilt.x.lo, .int .i64 p.tilt.x.hi, .int .i64 p.tilt.y.lo, .int .i64 p.tilt.y.hi, .int .i64 p.tilt.z.lo, .int .i64 p.tilt.z.hi], .agg #[.int .i64 s.p.x.lo, .int .i64 s.p.x.hi, .int .i64 s.p.y.lo, .int .i64 s.p.y.hi, .int .i64 s.p.z.lo, .int .i64 s.p.z.hi, .int .i64 s.v.x.lo, .int .i64 s.v.x.hi, .int .i64 s.v.y.lo, .int .i64 s.v.y.hi, .int .i64 s.v.z.lo, .int .i64 s.v.z.hi]] w (.agg #[.int .i64 (forceT v d l p s).x.lo, .int .i64 (forceT v d l p s).x.hi, .int .i64 (forceT v d l p s).y.lo, .int .i64 (forceT v d l p s).y.hi, .int .i64 (forceT v d l p s).z.lo, .int .i64 (forceT v d l p s).z.hi]) := by
 obtain ⟨⟨⟨p1, p2, p3⟩, ⟨p4, p5, p6⟩, ⟨p7, p8, p9⟩⟩, hsv⟩ := far_false.1 hs
 have hrel := rel_bnd hB hsv
 obtain ⟨⟨v1, v2, v3⟩, ⟨v4, v5, v6⟩, ⟨v7, v8, v9⟩⟩ := hsv
 obtain ⟨⟨w1, w2, w3⟩, ⟨w4, w5, w6⟩, hwz⟩ := winds_bnd hB s.p.z
 have w7 : (windsT l s.p.z).z.lo = 0 := by rw [hwz]; rfl
 have w8 : (windsT l s.p.z).z.hi = 0 := by rw [hwz]; rfl
 have hsum := sum_bnd hrel
 have hq1 := sqS_bnd hrel.1
 have hq2 := sqS_bnd hrel.2.1
 have hq3 := sqS_bnd hrel.2.2
 have hspd := speed_bnd hrel
 have hai0 := air_bnd hV s.p.z
 have hpd := hp.drag
 have hdg : SpB 1000 p.drag := by unfold SpB; omega
 have hai : SpB 1000 (airT v s.p.z) := by unfold SpB; omega
 have hsp2 : SpB 1766693 (speedS (relA l s)) := by unfold SpB; omega
 have hdr2 := (drag_bnd hV hp.drag (s := s) hrel).2
 have hpu := push_bnd hp
 obtain ⟨d1, d2, d3⟩ := dir_bnd hd
 have hmm := hp.mass
 have ax := axis_bnd hpu hdr2 (show 1 ≤ p.mass.lo ∧ p.mass.lo ≤ p.mass.hi by omega) d1 hp.tx hrel.1
 have ay := axis_bnd hpu hdr2 (show 1 ≤ p.mass.lo ∧ p.mass.lo ≤ p.mass.hi by omega) d2 hp.ty hrel.2.1
 have az := axis_bnd hpu hdr2 (show 1 ≤ p.mass.lo ∧ p.mass.lo ≤ p.mass.hi by omega) (show -10000 ≤ d.z ∧ d.z ≤ 10000 by omega) hp.tz hrel.2.2
 obtain ⟨z1, z2, z3⟩ := az.all
 have hgv := beyond_false.1 hV.grav
 refine fn_pure Try.func74 rfl (by kernel_rfl) Try.ntmps74 Try.results74 rfl ?_
 refine Vs rfl ?_
 refine Lw rfl (w_box rfl rfl) ?_
 rintro _ _ ⟨b1, hb1, rfl, rfl⟩
 refine Lw rfl (w_box rfl rfl) ?_
 rintro _ _ ⟨b2, hb2, rfl, rfl⟩
 refine Lw rfl (w_alloc zr103 rfl) ?_
 rintro _ _ ⟨b3, hb3, rfl, rfl⟩
 refine L_then (kp [0, 4, 5, 6] rfl) ?_
 refine V_mid (γ := Nat) (kp [0, 4, 5, 6] rfl) (fun x7 => [(7, .pointer (some ⟨x7, 0, none⟩))]) (fun x7 => (x7, .cells #[.int .i64 (relA l s).x.lo, .int .i64 (relA l s).x.hi, .int .i64 (relA l s).y.lo, .int .i64 (relA l s).y.hi, .int .i64 (relA l s).z.lo, .int .i64 (relA l s).z.hi] 103) :: (b3, .cells #[.int .i64 0, .int .i64 0, .int .i64 0, .int .i64 0, .int .i64 0, .int .i64 0] 103) :: (b2, .cells #[.int .i64 s.p.x.lo, .int .i64 s.p.x.hi, .int .i64 s.p.y.lo, .int .i64 s.p.y.hi, .int .i64 s.p.z.lo, .int .i64 s.p.z.hi, .int .i64 s.v.x.lo, .int .i64 s.v.x.hi, .int .i64 s.v.y.lo, .int .i64 s.v.y.hi, .int .i64 s.v.z.lo, .int .i64 s.v.z.hi] 121) :: [(b1, .cells #[.int .i64 (pushS p).lo, .int .i64 (pushS p).hi, .int .i64 p.mass.lo, .int .i64 p.mass.hi, .int .i64 p.drag.lo, .int .i64 p.drag.hi, .int .i64 p.tilt.x.lo, .int .i64 p.tilt.x.hi, .int .i64 p.tilt.y.lo, .int .i64 p.tilt.y.hi, .int .i64 p.tilt.z.lo, .int .i64 p.tilt.z.hi] 139)]) (fun x7 => True) ?_ ?_
 ·refine V_draw (.rd 0 (.rd 1 (.rd 2 (.rd 3 (.rd 4 (.rd 5 (.rd 6 (.rd 7 (.rd 8 (.wr2 9 [7, 6, 4, 3, 2, 1, 0] (.wr2 10 [8, 7, 6, 5, 4, 3, 2, 0] (.wr 11 [8, 7, 6, 5, 4, 3, 2, 1, 0] (.wr 12 [] .done)) 11 [8, 7, 6, 5, 4, 3, 2, 1, 0] (.wr 10 [8, 7, 6, 5, 4, 3, 2, 0] (.wr 12 [] .done))) 11 [8, 7, 6, 5, 4, 3, 2, 1, 0] (.wr 9 [7, 6, 4, 3, 2, 1, 0] (.wr 10 [8, 7, 6, 5, 4, 3, 2, 0] (.wr 12 [] .done))))))))))))) mixed (by kernel_rfl) rfl ?_
  refine Dp rfl rfl (p_fieldo fo121_1 rfl rfl) ?_
  refine Dr rfl rfl (rlA (vs := [_, _, _, _, _, _]) ag103 sz103 rfl rfl rfl) ?_
  refine Dm rfl rfl rfl rfl ?_
  refine Dp rfl rfl (p_nil rfl rfl) ?_
  refine Dp rfl rfl (p_fieldo fo152_2 rfl rfl) ?_
  refine Dr rfl rfl (r_loadB ag37 rfl rfl (own_cell hb _) List.not_mem_nil) ?_
  refine Dp rfl rfl (p_fieldo fo121_0 rfl rfl) ?_
  refine Dp rfl rfl (p_idxao ar103 rfl rfl rfl (by omega) (by omega)) ?_
  refine Dr rfl rfl (rlA (vs := [_, _]) ag97 sz97 rfl rfl rfl) ?_
  refine D_wr2 rfl ?_ ?_
  ·refine (.go (E' := [(1, _)]) rfl (.plain rfl) (w_callP rfl rfl rfl (fun w hg => fwinds_c s.p.z (by omega) l _ w hB (hl.good hg))) rfl ?_)
   rintro _ _ ⟨rfl, rfl⟩
   refine ⟨(.cons rfl (.plain rfl) (rlA (vs := [_, _, _, _, _, _]) ag103 sz103 rfl rfl rfl) .nil), ?_⟩
   refine D_wr2 rfl ?_ ?_
   ·refine (.go (E' := []) rfl (.plain rfl) (w_callP rfl rfl rfl (fun w hg => feach_c s.v (windsT l s.p.z) (relA l s) _ #[] w (fun w' he => fminus_c s.v.x (windsT l s.p.z).x (by omega) w') (fun w' he => fminus_c s.v.y (windsT l s.p.z).y (by omega) w') (fun w' he => fminus_c s.v.z (windsT l s.p.z).z (by omega) w'))) rfl ?_)
    rintro _ _ ⟨rfl, rfl⟩
    refine ⟨.nil, ?_⟩
    refine D_wr (.go (E' := []) rfl (.plain rfl) (w_alloc zr103 rfl) rfl ?_)
    rintro _ _ ⟨b4, hb4, rfl, rfl⟩
    refine ⟨.nil, ?_⟩
    refine D_wr (.go (E' := []) rfl (.plain rfl) (ws (cs' := [_, _, _, _, _, _]) sz103 rfl rfl rfl rfl rfl rfl rfl) rfl ?_)
    rintro _ _ ⟨rfl, rfl⟩
    refine ⟨.nil, ?_⟩
    refine D_then (kp [0, 4, 5, 6, 7] rfl) ?_
    refine ⟨b4, trivial, (.cons rfl (.cons rfl (.cons rfl (.cons rfl (.cons rfl (.nil _)))))), (by (try dsimp only); repeat (first | exact HSub.nil _ | refine HSub.take (by repeat first | exact Take.head | apply Take.tail) ?_ | exact HSub.refl _ | refine HSub.drop ?_ | refine HSub.app ?_)), rfl⟩
   refine (.go (E' := [(1, _)]) rfl (.plain rfl) (w_alloc zr103 rfl) rfl ?_)
   rintro _ _ ⟨b4, hb4, rfl, rfl⟩
   refine ⟨(.cons rfl (.plain rfl) (rlA (vs := [_, _, _, _, _, _]) ag103 sz103 rfl rfl rfl) .nil), ?_⟩
   refine D_wr (.go (E' := []) rfl (.plain rfl) (w_callP rfl rfl rfl (fun w hg => feach_c s.v (windsT l s.p.z) (relA l s) _ #[] w (fun w' he => fminus_c s.v.x (windsT l s.p.z).x (by omega) w') (fun w' he => fminus_c s.v.y (windsT l s.p.z).y (by omega) w') (fun w' he => fminus_c s.v.z (windsT l s.p.z).z (by omega) w'))) rfl ?_)
   rintro _ _ ⟨rfl, rfl⟩
   refine ⟨.nil, ?_⟩
   refine D_wr (.go (E' := []) rfl (.plain rfl) (ws (cs' := [_, _, _, _, _, _]) sz103 rfl rfl rfl rfl rfl rfl rfl) rfl ?_)
   rintro _ _ ⟨rfl, rfl⟩
   refine ⟨.nil, ?_⟩
   refine D_then (kp [0, 4, 5, 6, 7] rfl) ?_
   refine ⟨b4, trivial, (.cons rfl (.cons rfl (.cons rfl (.cons rfl (.cons rfl (.nil _)))))), (by (try dsimp only); repeat (first | exact HSub.nil _ | refine HSub.take (by repeat first | exact Take.head | apply Take.tail) ?_ | exact HSub.refl _ | refine HSub.drop ?_ | refine HSub.app ?_)), rfl⟩
  refine (.go (E' := [(8, _), (5, _), (1, _)]) rfl (.plain rfl) (w_alloc zr103 rfl) rfl ?_)
  rintro _ _ ⟨b4, hb4, rfl, rfl⟩
  refine ⟨(.cons rfl (.plain rfl) (rlA (vs := [_, _]) ag97 sz97 rfl rfl rfl) (.cons rfl (.plain rfl) (r_loadB ag37 rfl rfl (own_cell hb _) List.not_mem_nil) (.cons rfl (.plain rfl) (rlA (vs := [_, _, _, _, _, _]) ag103 sz103 rfl rfl rfl) .nil))), ?_⟩
  refine D_wr (.go (E' := [(1, _)]) rfl (.plain rfl) (w_callP rfl rfl rfl (fun w hg => fwinds_c s.p.z (by omega) l _ w hB (hl.good hg))) rfl ?_)
  rintro _ _ ⟨rfl, rfl⟩
  refine ⟨(.cons rfl (.plain rfl) (rlA (vs := [_, _, _, _, _, _]) ag103 sz103 rfl rfl rfl) .nil), ?_⟩
  refine D_wr (.go (E' := []) rfl (.plain rfl) (w_callP rfl rfl rfl (fun w hg => feach_c s.v (windsT l s.p.z) (relA l s) _ #[] w (fun w' he => fminus_c s.v.x (windsT l s.p.z).x (by omega) w') (fun w' he => fminus_c s.v.y (windsT l s.p.z).y (by omega) w') (fun w' he => fminus_c s.v.z (windsT l s.p.z).z (by omega) w'))) rfl ?_)
  rintro _ _ ⟨rfl, rfl⟩
  refine ⟨.nil, ?_⟩
  refine D_wr (.go (E' := []) rfl (.plain rfl) (ws (cs' := [_, _, _, _, _, _]) sz103 rfl rfl rfl rfl rfl rfl rfl) rfl ?_)
  rintro _ _ ⟨rfl, rfl⟩
  refine ⟨.nil, ?_⟩
  refine D_then (kp [0, 4, 5, 6, 7] rfl) ?_
  refine ⟨b4, trivial, (.cons rfl (.cons rfl (.cons rfl (.cons rfl (.cons rfl (.nil _)))))), (by (try dsimp only); repeat (first | exact HSub.nil _ | refine HSub.take (by repeat first | exact Take.head | apply Take.tail) ?_ | exact HSub.refl _ | refine HSub.drop ?_ | refine HSub.app ?_)), rfl⟩
 rintro x7 _
 refine Vs rfl ?_
 refine Lc rfl rfl rfl rfl (fun w hg => fat_c _ w) ?_
 refine Lw rfl (w_alloc zr97 rfl) ?_
 rintro _ _ ⟨b4, hb4, rfl, rfl⟩
 refine Ls (cs' := [_, _]) rfl sz97 rfl rfl rfl rfl rfl rfl rfl ?_
 refine L_then (kp [0, 4, 5, 6, 7, 8] rfl) ?_
 refine V_seq ?_
 refine Vs rfl ?_
 refine Lr rfl (rlA (vs := [_, _, _, _, _, _]) ag103 sz103 rfl rfl rfl) ?_
 refine Lm rfl rfl rfl ?_
 refine L_then (kp [0, 4, 5, 6, 7, 8, 26, 27] rfl) ?_
 refine V_block ?_
 refine V_loopU ?_
 refine LU_step ?_
 refine Vs rfl ?_
 refine Lp rfl (p_lss rfl rfl rfl) ?_
 refine L_then (kp [0, 4, 5, 6, 7, 8, 26, 27, 28] rfl) ?_
 refine V_seq ?_
 refine V_cond_t rfl rfl ?_
 refine V_skip (then_n ?_)
 refine V_seq ?_
 refine V_block ?_
 refine Vs rfl ?_
 refine Lp rfl (p_atA un103 ag97 sz97 rfl rfl rfl (by omega) (by omega) rfl) ?_
 refine Lw rfl (w_alloc zr97 rfl) ?_
 rintro _ _ ⟨b5, hb5, rfl, rfl⟩
 refine Ls (cs' := [_, _]) rfl sz97 rfl rfl rfl rfl rfl rfl rfl ?_
 refine L_then (kp [0, 4, 5, 6, 7, 8, 10, 26, 27] rfl) ?_
 refine V_draw (.rd 0 (.rd 1 (.wr 2 [0] (.wr 3 [1] (.wr 4 [] .done))))) mixed (by kernel_rfl) rfl ?_
 iterate 2 refine Dr rfl rfl (rlA (vs := [_, _]) ag97 sz97 rfl rfl rfl) ?_
 refine D_wr (.go (E' := [(0, _)]) rfl (.plain rfl) (w_callP rfl rfl rfl (fun w hg => fsq_c (relA l s).x hrel.1 w)) rfl ?_)
 rintro _ _ ⟨rfl, rfl⟩
 refine ⟨(.cons rfl (.plain rfl) (rlA (vs := [_, _]) ag97 sz97 rfl rfl rfl) .nil), ?_⟩
 refine D_wr (.go (E' := []) rfl (.plain rfl) (w_callP rfl rfl rfl (fun w hg => fplus_c (at1 0) (sqS (relA l s).x) (by simp only [Fl.addS, at1] at *; omega) w)) rfl ?_)
 rintro _ _ ⟨rfl, rfl⟩
 refine ⟨.nil, ?_⟩
 refine D_wr (.go (E' := []) rfl (.plain rfl) (ws (cs' := [_, _]) sz97 rfl rfl rfl rfl rfl rfl rfl) rfl ?_)
 rintro _ _ ⟨rfl, rfl⟩
 refine ⟨.nil, ?_⟩
 refine D_keep (kp [0, 4, 5, 6, 7, 8, 26, 27] rfl) (blk_n (then_n ?_))
 refine V_region rfl ?_
 first | refine Lp rfl (p_add' rfl rfl rfl (by unfold InI; omega)) ?_ | refine Lp rfl (p_add rfl rfl rfl) ?_
 refine Lm rfl rfl rfl ?_
 refine L_keep (kp [0, 4, 5, 6, 7, 8, 26, 27] rfl) (then_n ?_)
 refine LU_step ?_
 refine Vs rfl ?_
 refine Lp rfl (p_lss rfl rfl rfl) ?_
 refine L_then (kp [0, 4, 5, 6, 7, 8, 26, 27, 28] rfl) ?_
 refine V_seq ?_
 refine V_cond_t rfl rfl ?_
 refine V_skip (then_n ?_)
 refine V_seq ?_
 refine V_block ?_
 refine Vs rfl ?_
 refine Lp rfl (p_atA un103 ag97 sz97 rfl rfl rfl (by omega) (by omega) rfl) ?_
 refine Lw rfl (w_alloc zr97 rfl) ?_
 rintro _ _ ⟨b6, hb6, rfl, rfl⟩
 refine Ls (cs' := [_, _]) rfl sz97 rfl rfl rfl rfl rfl rfl rfl ?_
 refine L_then (kp [0, 4, 5, 6, 7, 8, 10, 26, 27] rfl) ?_
 refine V_draw (.rd 0 (.rd 1 (.wr 2 [0] (.wr 3 [1] (.wr 4 [] .done))))) mixed (by kernel_rfl) rfl ?_
 iterate 2 refine Dr rfl rfl (rlA (vs := [_, _]) ag97 sz97 rfl rfl rfl) ?_
 refine D_wr (.go (E' := [(0, _)]) rfl (.plain rfl) (w_callP rfl rfl rfl (fun w hg => fsq_c (relA l s).y hrel.2.1 w)) rfl ?_)
 rintro _ _ ⟨rfl, rfl⟩
 refine ⟨(.cons rfl (.plain rfl) (rlA (vs := [_, _]) ag97 sz97 rfl rfl rfl) .nil), ?_⟩
 refine D_wr (.go (E' := []) rfl (.plain rfl) (w_callP rfl rfl rfl (fun w hg => fplus_c (Fl.addS (at1 0) (sqS (relA l s).x)) (sqS (relA l s).y) (by simp only [Fl.addS, at1] at *; omega) w)) rfl ?_)
 rintro _ _ ⟨rfl, rfl⟩
 refine ⟨.nil, ?_⟩
 refine D_wr (.go (E' := []) rfl (.plain rfl) (ws (cs' := [_, _]) sz97 rfl rfl rfl rfl rfl rfl rfl) rfl ?_)
 rintro _ _ ⟨rfl, rfl⟩
 refine ⟨.nil, ?_⟩
 refine D_keep (kp [0, 4, 5, 6, 7, 8, 26, 27] rfl) (blk_n (then_n ?_))
 refine V_region rfl ?_
 first | refine Lp rfl (p_add' rfl rfl rfl (by unfold InI; omega)) ?_ | refine Lp rfl (p_add rfl rfl rfl) ?_
 refine Lm rfl rfl rfl ?_
 refine L_keep (kp [0, 4, 5, 6, 7, 8, 26, 27] rfl) (then_n ?_)
 refine LU_step ?_
 refine Vs rfl ?_
 refine Lp rfl (p_lss rfl rfl rfl) ?_
 refine L_then (kp [0, 4, 5, 6, 7, 8, 26, 27, 28] rfl) ?_
 refine V_seq ?_
 refine V_cond_t rfl rfl ?_
 refine V_skip (then_n ?_)
 refine V_seq ?_
 refine V_block ?_
 refine Vs rfl ?_
 refine Lp rfl (p_atA un103 ag97 sz97 rfl rfl rfl (by omega) (by omega) rfl) ?_
 refine Lw rfl (w_alloc zr97 rfl) ?_
 rintro _ _ ⟨b7, hb7, rfl, rfl⟩
 refine Ls (cs' := [_, _]) rfl sz97 rfl rfl rfl rfl rfl rfl rfl ?_
 refine L_then (kp [0, 4, 5, 6, 7, 8, 10, 26, 27] rfl) ?_
 refine V_draw (.rd 0 (.rd 1 (.wr 2 [0] (.wr 3 [1] (.wr 4 [] .done))))) mixed (by kernel_rfl) rfl ?_
 iterate 2 refine Dr rfl rfl (rlA (vs := [_, _]) ag97 sz97 rfl rfl rfl) ?_
 refine D_wr (.go (E' := [(0, _)]) rfl (.plain rfl) (w_callP rfl rfl rfl (fun w hg => fsq_c (relA l s).z hrel.2.2 w)) rfl ?_)
 rintro _ _ ⟨rfl, rfl⟩
 refine ⟨(.cons rfl (.plain rfl) (rlA (vs := [_, _]) ag97 sz97 rfl rfl rfl) .nil), ?_⟩
 refine D_wr (.go (E' := []) rfl (.plain rfl) (w_callP rfl rfl rfl (fun w hg => fplus_c (Fl.addS (Fl.addS (at1 0) (sqS (relA l s).x)) (sqS (relA l s).y)) (sqS (relA l s).z) (by simp only [Fl.addS, at1] at *; omega) w)) rfl ?_)
 rintro _ _ ⟨rfl, rfl⟩
 refine ⟨.nil, ?_⟩
 refine D_wr (.go (E' := []) rfl (.plain rfl) (ws (cs' := [_, _]) sz97 rfl rfl rfl rfl rfl rfl rfl) rfl ?_)
 rintro _ _ ⟨rfl, rfl⟩
 refine ⟨.nil, ?_⟩
 refine D_keep (kp [0, 4, 5, 6, 7, 8, 26, 27] rfl) (blk_n (then_n ?_))
 refine V_region rfl ?_
 first | refine Lp rfl (p_add' rfl rfl rfl (by unfold InI; omega)) ?_ | refine Lp rfl (p_add rfl rfl rfl) ?_
 refine Lm rfl rfl rfl ?_
 refine L_keep (kp [0, 4, 5, 6, 7, 8, 26, 27] rfl) (then_n ?_)
 refine LU_step ?_
 refine Vs rfl ?_
 refine Lp rfl (p_lss rfl rfl rfl) ?_
 refine L_then (kp [0, 4, 5, 6, 7, 8, 26, 27, 28] rfl) ?_
 refine V_seq ?_
 refine V_cond_f rfl rfl ?_
 refine V_exit (then_e (then_e (blk_e rfl (then_n ?_))))
 refine V_mid (γ := Nat) (kp [0, 4, 6] rfl) (fun x11 => [(11, .pointer (some ⟨x11, 0, none⟩)), (7, .pointer (some ⟨x7, 0, none⟩))]) (fun x11 => (x11, .cells #[.int .i64 (dragS v p.drag s (relA l s)).lo, .int .i64 (dragS v p.drag s (relA l s)).hi] 97) :: (x7, .cells #[.int .i64 (relA l s).x.lo, .int .i64 (relA l s).x.hi, .int .i64 (relA l s).y.lo, .int .i64 (relA l s).y.hi, .int .i64 (relA l s).z.lo, .int .i64 (relA l s).z.hi] 103) :: (b3, .cells #[.int .i64 0, .int .i64 0, .int .i64 0, .int .i64 0, .int .i64 0, .int .i64 0] 103) :: (b2, .cells #[.int .i64 s.p.x.lo, .int .i64 s.p.x.hi, .int .i64 s.p.y.lo, .int .i64 s.p.y.hi, .int .i64 s.p.z.lo, .int .i64 s.p.z.hi, .int .i64 s.v.x.lo, .int .i64 s.v.x.hi, .int .i64 s.v.y.lo, .int .i64 s.v.y.hi, .int .i64 s.v.z.lo, .int .i64 s.v.z.hi] 121) :: [(b1, .cells #[.int .i64 (pushS p).lo, .int .i64 (pushS p).hi, .int .i64 p.mass.lo, .int .i64 p.mass.hi, .int .i64 p.drag.lo, .int .i64 p.drag.hi, .int .i64 p.tilt.x.lo, .int .i64 p.tilt.x.hi, .int .i64 p.tilt.y.lo, .int .i64 p.tilt.y.hi, .int .i64 p.tilt.z.lo, .int .i64 p.tilt.z.hi] 139)]) (fun x11 => True) ?_ ?_
 ·refine V_draw (.rd 0 (.rd 1 (.rd 2 (.rd 3 (.rd 4 (.rd 5 (.rd 6 (.rd 7 (.rd 8 (.rd 11 (.wr2 9 [11, 7, 6, 4, 3, 2, 1, 0] (.wr2 10 [11, 8, 7, 6, 5, 4, 3, 2, 0] (.wr2 12 [8, 7, 6, 5, 4, 3, 2, 1, 0] (.wr2 13 [11, 8, 7, 6, 5, 4, 3, 2, 1, 0] (.wr 14 [11, 8, 7, 6, 5, 4, 3, 2, 1, 0] (.wr 15 [] .done)) 14 [11, 8, 7, 6, 5, 4, 3, 2, 1, 0] (.wr 13 [11, 8, 7, 6, 5, 4, 3, 2, 1, 0] (.wr 15 [] .done))) 14 [11, 8, 7, 6, 5, 4, 3, 2, 1, 0] (.wr 12 [8, 7, 6, 5, 4, 3, 2, 1, 0] (.wr 13 [11, 8, 7, 6, 5, 4, 3, 2, 1, 0] (.wr 15 [] .done)))) 14 [11, 8, 7, 6, 5, 4, 3, 2, 1, 0] (.wr 10 [11, 8, 7, 6, 5, 4, 3, 2, 0] (.wr 12 [8, 7, 6, 5, 4, 3, 2, 1, 0] (.wr 13 [11, 8, 7, 6, 5, 4, 3, 2, 1, 0] (.wr 15 [] .done))))) 14 [11, 8, 7, 6, 5, 4, 3, 2, 1, 0] (.wr 9 [11, 7, 6, 4, 3, 2, 1, 0] (.wr 10 [11, 8, 7, 6, 5, 4, 3, 2, 0] (.wr 12 [8, 7, 6, 5, 4, 3, 2, 1, 0] (.wr 13 [11, 8, 7, 6, 5, 4, 3, 2, 1, 0] (.wr 15 [] .done)))))))))))))))) mixed (by kernel_rfl) rfl ?_
  refine Dp rfl rfl (p_fieldo fo139_2 rfl rfl) ?_
  refine Dr rfl rfl (rlA (vs := [_, _]) ag97 sz97 rfl rfl rfl) ?_
  refine Dm rfl rfl rfl rfl ?_
  refine Dp rfl rfl (p_nil rfl rfl) ?_
  refine Dp rfl rfl (p_fieldo fo152_0 rfl rfl) ?_
  refine Dr rfl rfl (r_loadBA (vs := [_, _, _, _, _, _]) ag28 sz28 rfl rfl (own_slice (n := 6) (vs := [_, _, _, _, _, _]) hb rfl).1 rfl List.not_mem_nil) ?_
  refine Dp rfl rfl (p_fieldo fo121_0 rfl rfl) ?_
  refine Dp rfl rfl (p_idxao ar103 rfl rfl rfl (by omega) (by omega)) ?_
  iterate 2 refine Dr rfl rfl (rlA (vs := [_, _]) ag97 sz97 rfl rfl rfl) ?_
  refine D_wr2 rfl ?_ ?_
  ·refine (.go (E' := [(11, _), (1, _)]) rfl (.plain rfl) (w_callP rfl rfl rfl (fun w hg => fair_c s.p.z (by omega) v _ hV w (hv.good hg))) rfl ?_)
   rintro _ _ ⟨rfl, rfl⟩
   refine ⟨(.cons rfl (.plain rfl) (rlA (vs := [_, _]) ag97 sz97 rfl rfl rfl) (.cons rfl (.plain rfl) (rlA (vs := [_, _]) ag97 sz97 rfl rfl rfl) .nil)), ?_⟩
   refine D_wr2 rfl ?_ ?_
   ·refine (.go (E' := [(11, _)]) rfl (.plain rfl) (w_callP rfl rfl rfl (fun w hg => ftimes_c p.drag (airT v s.p.z) hdg hai (by decide) w)) rfl ?_)
    rintro _ _ ⟨rfl, rfl⟩
    refine ⟨(.cons rfl (.plain rfl) (rlA (vs := [_, _]) ag97 sz97 rfl rfl rfl) .nil), ?_⟩
    refine D_wr2 rfl ?_ ?_
    ·refine (.go (E' := []) rfl (.plain rfl) (w_callP rfl rfl rfl (fun w hg => frooted_c (Fl.addS (Fl.addS (Fl.addS (at1 0) (sqS (relA l s).x)) (sqS (relA l s).y)) (sqS (relA l s).z)) ⟨hsum.1, hsum.2.1, hsum.2.2⟩ w)) rfl ?_)
     rintro _ _ ⟨rfl, rfl⟩
     refine ⟨.nil, ?_⟩
     refine D_wr2 rfl ?_ ?_
     ·refine (.go (E' := []) rfl (.plain rfl) (w_callP rfl rfl rfl (fun w hg => ftimes_c (Fl.mulS p.drag (airT v s.p.z)) (speedS (relA l s)) (mulS_bnd hdg hai) hsp2 (by decide) w)) rfl ?_)
      rintro _ _ ⟨rfl, rfl⟩
      refine ⟨.nil, ?_⟩
      refine D_wr (.go (E' := []) rfl (.plain rfl) (w_alloc zr97 rfl) rfl ?_)
      rintro _ _ ⟨b8, hb8, rfl, rfl⟩
      refine ⟨.nil, ?_⟩
      refine D_wr (.go (E' := []) rfl (.plain rfl) (ws (cs' := [_, _]) sz97 rfl rfl rfl rfl rfl rfl rfl) rfl ?_)
      rintro _ _ ⟨rfl, rfl⟩
      refine ⟨.nil, ?_⟩
      refine D_then (kp [0, 4, 6, 7, 11] rfl) ?_
      refine ⟨b8, trivial, (.cons rfl (.cons rfl (.cons rfl (.cons rfl (.cons rfl (.nil _)))))), (by (try dsimp only); repeat (first | exact HSub.nil _ | refine HSub.take (by repeat first | exact Take.head | apply Take.tail) ?_ | exact HSub.refl _ | refine HSub.drop ?_ | refine HSub.app ?_)), rfl⟩
     refine (.go (E' := []) rfl (.plain rfl) (w_alloc zr97 rfl) rfl ?_)
     rintro _ _ ⟨b8, hb8, rfl, rfl⟩
     refine ⟨.nil, ?_⟩
     refine D_wr (.go (E' := []) rfl (.plain rfl) (w_callP rfl rfl rfl (fun w hg => ftimes_c (Fl.mulS p.drag (airT v s.p.z)) (speedS (relA l s)) (mulS_bnd hdg hai) hsp2 (by decide) w)) rfl ?_)
     rintro _ _ ⟨rfl, rfl⟩
     refine ⟨.nil, ?_⟩
     refine D_wr (.go (E' := []) rfl (.plain rfl) (ws (cs' := [_, _]) sz97 rfl rfl rfl rfl rfl rfl rfl) rfl ?_)
     rintro _ _ ⟨rfl, rfl⟩
     refine ⟨.nil, ?_⟩
     refine D_then (kp [0, 4, 6, 7, 11] rfl) ?_
     refine ⟨b8, trivial, (.cons rfl (.cons rfl (.cons rfl (.cons rfl (.cons rfl (.nil _)))))), (by (try dsimp only); repeat (first | exact HSub.nil _ | refine HSub.take (by repeat first | exact Take.head | apply Take.tail) ?_ | exact HSub.refl _ | refine HSub.drop ?_ | refine HSub.app ?_)), rfl⟩
    refine (.go (E' := [(11, _)]) rfl (.plain rfl) (w_alloc zr97 rfl) rfl ?_)
    rintro _ _ ⟨b8, hb8, rfl, rfl⟩
    refine ⟨(.cons rfl (.plain rfl) (rlA (vs := [_, _]) ag97 sz97 rfl rfl rfl) .nil), ?_⟩
    refine D_wr (.go (E' := []) rfl (.plain rfl) (w_callP rfl rfl rfl (fun w hg => frooted_c (Fl.addS (Fl.addS (Fl.addS (at1 0) (sqS (relA l s).x)) (sqS (relA l s).y)) (sqS (relA l s).z)) ⟨hsum.1, hsum.2.1, hsum.2.2⟩ w)) rfl ?_)
    rintro _ _ ⟨rfl, rfl⟩
    refine ⟨.nil, ?_⟩
    refine D_wr (.go (E' := []) rfl (.plain rfl) (w_callP rfl rfl rfl (fun w hg => ftimes_c (Fl.mulS p.drag (airT v s.p.z)) (speedS (relA l s)) (mulS_bnd hdg hai) hsp2 (by decide) w)) rfl ?_)
    rintro _ _ ⟨rfl, rfl⟩
    refine ⟨.nil, ?_⟩
    refine D_wr (.go (E' := []) rfl (.plain rfl) (ws (cs' := [_, _]) sz97 rfl rfl rfl rfl rfl rfl rfl) rfl ?_)
    rintro _ _ ⟨rfl, rfl⟩
    refine ⟨.nil, ?_⟩
    refine D_then (kp [0, 4, 6, 7, 11] rfl) ?_
    refine ⟨b8, trivial, (.cons rfl (.cons rfl (.cons rfl (.cons rfl (.cons rfl (.nil _)))))), (by (try dsimp only); repeat (first | exact HSub.nil _ | refine HSub.take (by repeat first | exact Take.head | apply Take.tail) ?_ | exact HSub.refl _ | refine HSub.drop ?_ | refine HSub.app ?_)), rfl⟩
   refine (.go (E' := [(11, _), (1, _)]) rfl (.plain rfl) (w_alloc zr97 rfl) rfl ?_)
   rintro _ _ ⟨b8, hb8, rfl, rfl⟩
   refine ⟨(.cons rfl (.plain rfl) (rlA (vs := [_, _]) ag97 sz97 rfl rfl rfl) (.cons rfl (.plain rfl) (rlA (vs := [_, _]) ag97 sz97 rfl rfl rfl) .nil)), ?_⟩
   refine D_wr (.go (E' := [(11, _)]) rfl (.plain rfl) (w_callP rfl rfl rfl (fun w hg => ftimes_c p.drag (airT v s.p.z) hdg hai (by decide) w)) rfl ?_)
   rintro _ _ ⟨rfl, rfl⟩
   refine ⟨(.cons rfl (.plain rfl) (rlA (vs := [_, _]) ag97 sz97 rfl rfl rfl) .nil), ?_⟩
   refine D_wr (.go (E' := []) rfl (.plain rfl) (w_callP rfl rfl rfl (fun w hg => frooted_c (Fl.addS (Fl.addS (Fl.addS (at1 0) (sqS (relA l s).x)) (sqS (relA l s).y)) (sqS (relA l s).z)) ⟨hsum.1, hsum.2.1, hsum.2.2⟩ w)) rfl ?_)
   rintro _ _ ⟨rfl, rfl⟩
   refine ⟨.nil, ?_⟩
   refine D_wr (.go (E' := []) rfl (.plain rfl) (w_callP rfl rfl rfl (fun w hg => ftimes_c (Fl.mulS p.drag (airT v s.p.z)) (speedS (relA l s)) (mulS_bnd hdg hai) hsp2 (by decide) w)) rfl ?_)
   rintro _ _ ⟨rfl, rfl⟩
   refine ⟨.nil, ?_⟩
   refine D_wr (.go (E' := []) rfl (.plain rfl) (ws (cs' := [_, _]) sz97 rfl rfl rfl rfl rfl rfl rfl) rfl ?_)
   rintro _ _ ⟨rfl, rfl⟩
   refine ⟨.nil, ?_⟩
   refine D_then (kp [0, 4, 6, 7, 11] rfl) ?_
   refine ⟨b8, trivial, (.cons rfl (.cons rfl (.cons rfl (.cons rfl (.cons rfl (.nil _)))))), (by (try dsimp only); repeat (first | exact HSub.nil _ | refine HSub.take (by repeat first | exact Take.head | apply Take.tail) ?_ | exact HSub.refl _ | refine HSub.drop ?_ | refine HSub.app ?_)), rfl⟩
  refine (.go (E' := [(11, _), (8, _), (5, _), (1, _)]) rfl (.plain rfl) (w_alloc zr97 rfl) rfl ?_)
  rintro _ _ ⟨b8, hb8, rfl, rfl⟩
  refine ⟨(.cons rfl (.plain rfl) (rlA (vs := [_, _]) ag97 sz97 rfl rfl rfl) (.cons rfl (.plain rfl) (rlA (vs := [_, _]) ag97 sz97 rfl rfl rfl) (.cons rfl (.plain rfl) (r_loadBA (vs := [_, _, _, _, _, _]) ag28 sz28 rfl rfl (own_slice (n := 6) (vs := [_, _, _, _, _, _]) hb rfl).1 rfl List.not_mem_nil) (.cons rfl (.plain rfl) (rlA (vs := [_, _]) ag97 sz97 rfl rfl rfl) .nil)))), ?_⟩
  refine D_wr (.go (E' := [(11, _), (1, _)]) rfl (.plain rfl) (w_callP rfl rfl rfl (fun w hg => fair_c s.p.z (by omega) v _ hV w (hv.good hg))) rfl ?_)
  rintro _ _ ⟨rfl, rfl⟩
  refine ⟨(.cons rfl (.plain rfl) (rlA (vs := [_, _]) ag97 sz97 rfl rfl rfl) (.cons rfl (.plain rfl) (rlA (vs := [_, _]) ag97 sz97 rfl rfl rfl) .nil)), ?_⟩
  refine D_wr (.go (E' := [(11, _)]) rfl (.plain rfl) (w_callP rfl rfl rfl (fun w hg => ftimes_c p.drag (airT v s.p.z) hdg hai (by decide) w)) rfl ?_)
  rintro _ _ ⟨rfl, rfl⟩
  refine ⟨(.cons rfl (.plain rfl) (rlA (vs := [_, _]) ag97 sz97 rfl rfl rfl) .nil), ?_⟩
  refine D_wr (.go (E' := []) rfl (.plain rfl) (w_callP rfl rfl rfl (fun w hg => frooted_c (Fl.addS (Fl.addS (Fl.addS (at1 0) (sqS (relA l s).x)) (sqS (relA l s).y)) (sqS (relA l s).z)) ⟨hsum.1, hsum.2.1, hsum.2.2⟩ w)) rfl ?_)
  rintro _ _ ⟨rfl, rfl⟩
  refine ⟨.nil, ?_⟩
  refine D_wr (.go (E' := []) rfl (.plain rfl) (w_callP rfl rfl rfl (fun w hg => ftimes_c (Fl.mulS p.drag (airT v s.p.z)) (speedS (relA l s)) (mulS_bnd hdg hai) hsp2 (by decide) w)) rfl ?_)
  rintro _ _ ⟨rfl, rfl⟩
  refine ⟨.nil, ?_⟩
  refine D_wr (.go (E' := []) rfl (.plain rfl) (ws (cs' := [_, _]) sz97 rfl rfl rfl rfl rfl rfl rfl) rfl ?_)
  rintro _ _ ⟨rfl, rfl⟩
  refine ⟨.nil, ?_⟩
  refine D_then (kp [0, 4, 6, 7, 11] rfl) ?_
  refine ⟨b8, trivial, (.cons rfl (.cons rfl (.cons rfl (.cons rfl (.cons rfl (.nil _)))))), (by (try dsimp only); repeat (first | exact HSub.nil _ | refine HSub.take (by repeat first | exact Take.head | apply Take.tail) ?_ | exact HSub.refl _ | refine HSub.drop ?_ | refine HSub.app ?_)), rfl⟩
 rintro x11 _
 refine V_mid (γ := Nat) (kp [0, 4, 6] rfl) (fun x12 => [(12, .pointer (some ⟨x12, 0, none⟩)), (11, .pointer (some ⟨x11, 0, none⟩)), (7, .pointer (some ⟨x7, 0, none⟩))]) (fun x12 => (x12, .cells #[.int .i64 (⟨divS (Fl.mulS (pushS p) (Fl.addS (at1 d.x) p.tilt.x)) p.mass 10000, divS (Fl.mulS (pushS p) (Fl.addS (at1 d.y) p.tilt.y)) p.mass 10000, divS (Fl.mulS (pushS p) (Fl.addS (at1 d.z) p.tilt.z)) p.mass 10000⟩ : Ax).x.lo, .int .i64 (⟨divS (Fl.mulS (pushS p) (Fl.addS (at1 d.x) p.tilt.x)) p.mass 10000, divS (Fl.mulS (pushS p) (Fl.addS (at1 d.y) p.tilt.y)) p.mass 10000, divS (Fl.mulS (pushS p) (Fl.addS (at1 d.z) p.tilt.z)) p.mass 10000⟩ : Ax).x.hi, .int .i64 (⟨divS (Fl.mulS (pushS p) (Fl.addS (at1 d.x) p.tilt.x)) p.mass 10000, divS (Fl.mulS (pushS p) (Fl.addS (at1 d.y) p.tilt.y)) p.mass 10000, divS (Fl.mulS (pushS p) (Fl.addS (at1 d.z) p.tilt.z)) p.mass 10000⟩ : Ax).y.lo, .int .i64 (⟨divS (Fl.mulS (pushS p) (Fl.addS (at1 d.x) p.tilt.x)) p.mass 10000, divS (Fl.mulS (pushS p) (Fl.addS (at1 d.y) p.tilt.y)) p.mass 10000, divS (Fl.mulS (pushS p) (Fl.addS (at1 d.z) p.tilt.z)) p.mass 10000⟩ : Ax).y.hi, .int .i64 (⟨divS (Fl.mulS (pushS p) (Fl.addS (at1 d.x) p.tilt.x)) p.mass 10000, divS (Fl.mulS (pushS p) (Fl.addS (at1 d.y) p.tilt.y)) p.mass 10000, divS (Fl.mulS (pushS p) (Fl.addS (at1 d.z) p.tilt.z)) p.mass 10000⟩ : Ax).z.lo, .int .i64 (⟨divS (Fl.mulS (pushS p) (Fl.addS (at1 d.x) p.tilt.x)) p.mass 10000, divS (Fl.mulS (pushS p) (Fl.addS (at1 d.y) p.tilt.y)) p.mass 10000, divS (Fl.mulS (pushS p) (Fl.addS (at1 d.z) p.tilt.z)) p.mass 10000⟩ : Ax).z.hi] 103) :: (x11, .cells #[.int .i64 (dragS v p.drag s (relA l s)).lo, .int .i64 (dragS v p.drag s (relA l s)).hi] 97) :: (x7, .cells #[.int .i64 (relA l s).x.lo, .int .i64 (relA l s).x.hi, .int .i64 (relA l s).y.lo, .int .i64 (relA l s).y.hi, .int .i64 (relA l s).z.lo, .int .i64 (relA l s).z.hi] 103) :: (b3, .cells #[.int .i64 0, .int .i64 0, .int .i64 0, .int .i64 0, .int .i64 0, .int .i64 0] 103) :: (b2, .cells #[.int .i64 s.p.x.lo, .int .i64 s.p.x.hi, .int .i64 s.p.y.lo, .int .i64 s.p.y.hi, .int .i64 s.p.z.lo, .int .i64 s.p.z.hi, .int .i64 s.v.x.lo, .int .i64 s.v.x.hi, .int .i64 s.v.y.lo, .int .i64 s.v.y.hi, .int .i64 s.v.z.lo, .int .i64 s.v.z.hi] 121) :: [(b1, .cells #[.int .i64 (pushS p).lo, .int .i64 (pushS p).hi, .int .i64 p.mass.lo, .int .i64 p.mass.hi, .int .i64 p.drag.lo, .int .i64 p.drag.hi, .int .i64 p.tilt.x.lo, .int .i64 p.tilt.x.hi, .int .i64 p.tilt.y.lo, .int .i64 p.tilt.y.hi, .int .i64 p.tilt.z.lo, .int .i64 p.tilt.z.hi] 139)]) (fun x12 => True) ?_ ?_
 ·refine V_draw (.rd 0 (.rd 1 (.rd 2 (.rd 3 (.rd 4 (.rd 5 (.rd 6 (.wr2 7 [4, 2, 1, 0] (.wr 8 [6, 5, 4, 3, 2, 1, 0] (.wr 9 [] .done)) 8 [6, 5, 4, 3, 2, 1, 0] (.wr 7 [4, 2, 1, 0] (.wr 9 [] .done)))))))))) mixed (by kernel_rfl) rfl ?_
  refine Dm rfl rfl rfl rfl ?_
  refine Dp rfl rfl (p_nil rfl rfl) ?_
  refine Dp rfl rfl (p_fieldo fo152_1 rfl rfl) ?_
  refine Dr rfl rfl (r_loadBA (vs := [_, _, _, _, _, _]) ag103 sz103 rfl rfl (own_slice (n := 6) (vs := [_, _, _, _, _, _]) hb rfl).1 rfl List.not_mem_nil) ?_
  refine Dp rfl rfl (p_fieldo fo139_3 rfl rfl) ?_
  refine Dr rfl rfl (rlA (vs := [_, _, _, _, _, _]) ag103 sz103 rfl rfl rfl) ?_
  refine Dp rfl rfl (p_func rfl rfl rfl) ?_
  refine D_wr2 rfl ?_ ?_
  ·refine (.go (E' := []) rfl (.plain rfl) (w_callP rfl rfl rfl (fun w hg => feach_c (⟨at1 d.x, at1 d.y, at1 d.z⟩ : Ax) p.tilt (⟨divS (Fl.mulS (pushS p) (Fl.addS (at1 d.x) p.tilt.x)) p.mass 10000, divS (Fl.mulS (pushS p) (Fl.addS (at1 d.y) p.tilt.y)) p.mass 10000, divS (Fl.mulS (pushS p) (Fl.addS (at1 d.z) p.tilt.z)) p.mass 10000⟩ : Ax) _ #[_] w (fun w' he => fforce1_c p d.x p.tilt.x hpu hp.mass (by omega) hp.tx _ _ _ w' (he.heap (hg.own (b1, _) (by repeat first | exact mH | apply mT)))) (fun w' he => fforce1_c p d.y p.tilt.y hpu hp.mass (by omega) hp.ty _ _ _ w' (he.heap (hg.own (b1, _) (by repeat first | exact mH | apply mT)))) (fun w' he => fforce1_c p d.z p.tilt.z hpu hp.mass (by omega) hp.tz _ _ _ w' (he.heap (hg.own (b1, _) (by repeat first | exact mH | apply mT)))))) rfl ?_)
   rintro _ _ ⟨rfl, rfl⟩
   refine ⟨.nil, ?_⟩
   refine D_wr (.go (E' := []) rfl (.plain rfl) (w_alloc zr103 rfl) rfl ?_)
   rintro _ _ ⟨b8, hb8, rfl, rfl⟩
   refine ⟨.nil, ?_⟩
   refine D_wr (.go (E' := []) rfl (.plain rfl) (ws (cs' := [_, _, _, _, _, _]) sz103 rfl rfl rfl rfl rfl rfl rfl) rfl ?_)
   rintro _ _ ⟨rfl, rfl⟩
   refine ⟨.nil, ?_⟩
   refine D_then (kp [0, 4, 6, 7, 11, 12] rfl) ?_
   refine ⟨b8, trivial, (.cons rfl (.cons rfl (.cons rfl (.cons rfl (.cons rfl (.cons rfl (.nil _))))))), (by (try dsimp only); repeat (first | exact HSub.nil _ | refine HSub.take (by repeat first | exact Take.head | apply Take.tail) ?_ | exact HSub.refl _ | refine HSub.drop ?_ | refine HSub.app ?_)), rfl⟩
  refine (.go (E' := [(5, _), (3, _)]) rfl (.plain rfl) (w_alloc zr103 rfl) rfl ?_)
  rintro _ _ ⟨b8, hb8, rfl, rfl⟩
  refine ⟨(.cons rfl (.plain rfl) (rlA (vs := [_, _, _, _, _, _]) ag103 sz103 rfl rfl rfl) (.cons rfl (.plain rfl) (r_loadBA (vs := [_, _, _, _, _, _]) ag103 sz103 rfl rfl (own_slice (n := 6) (vs := [_, _, _, _, _, _]) hb rfl).1 rfl List.not_mem_nil) .nil)), ?_⟩
  refine D_wr (.go (E' := []) rfl (.plain rfl) (w_callP rfl rfl rfl (fun w hg => feach_c (⟨at1 d.x, at1 d.y, at1 d.z⟩ : Ax) p.tilt (⟨divS (Fl.mulS (pushS p) (Fl.addS (at1 d.x) p.tilt.x)) p.mass 10000, divS (Fl.mulS (pushS p) (Fl.addS (at1 d.y) p.tilt.y)) p.mass 10000, divS (Fl.mulS (pushS p) (Fl.addS (at1 d.z) p.tilt.z)) p.mass 10000⟩ : Ax) _ #[_] w (fun w' he => fforce1_c p d.x p.tilt.x hpu hp.mass (by omega) hp.tx _ _ _ w' (he.heap (hg.own (b1, _) (by repeat first | exact mH | apply mT)))) (fun w' he => fforce1_c p d.y p.tilt.y hpu hp.mass (by omega) hp.ty _ _ _ w' (he.heap (hg.own (b1, _) (by repeat first | exact mH | apply mT)))) (fun w' he => fforce1_c p d.z p.tilt.z hpu hp.mass (by omega) hp.tz _ _ _ w' (he.heap (hg.own (b1, _) (by repeat first | exact mH | apply mT)))))) rfl ?_)
  rintro _ _ ⟨rfl, rfl⟩
  refine ⟨.nil, ?_⟩
  refine D_wr (.go (E' := []) rfl (.plain rfl) (ws (cs' := [_, _, _, _, _, _]) sz103 rfl rfl rfl rfl rfl rfl rfl) rfl ?_)
  rintro _ _ ⟨rfl, rfl⟩
  refine ⟨.nil, ?_⟩
  refine D_then (kp [0, 4, 6, 7, 11, 12] rfl) ?_
  refine ⟨b8, trivial, (.cons rfl (.cons rfl (.cons rfl (.cons rfl (.cons rfl (.cons rfl (.nil _))))))), (by (try dsimp only); repeat (first | exact HSub.nil _ | refine HSub.take (by repeat first | exact Take.head | apply Take.tail) ?_ | exact HSub.refl _ | refine HSub.drop ?_ | refine HSub.app ?_)), rfl⟩
 rintro x12 _
 refine Vs rfl ?_
 iterate 2 refine Lr rfl (rlA (vs := [_, _, _, _, _, _]) ag103 sz103 rfl rfl rfl) ?_
 refine Lp rfl (p_func rfl rfl rfl) ?_
 refine Lc rfl rfl rfl rfl (fun w hg => feach_c (⟨divS (Fl.mulS (pushS p) (Fl.addS (at1 d.x) p.tilt.x)) p.mass 10000, divS (Fl.mulS (pushS p) (Fl.addS (at1 d.y) p.tilt.y)) p.mass 10000, divS (Fl.mulS (pushS p) (Fl.addS (at1 d.z) p.tilt.z)) p.mass 10000⟩ : Ax) (relA l s) (⟨axisS (pushS p) (dragS v p.drag s (relA l s)) p.mass d.x p.tilt.x (relA l s).x, axisS (pushS p) (dragS v p.drag s (relA l s)) p.mass d.y p.tilt.y (relA l s).y, axisS (pushS p) (dragS v p.drag s (relA l s)) p.mass d.z p.tilt.z (relA l s).z⟩ : Ax) _ #[_, _] w (fun w' he => fforce2_c p (dragS v p.drag s (relA l s)) _ (relA l s).x hdr2 hp.mass ax.thr hrel.1 _ _ _ _ _ _ w' (he.heap (hg.own (b1, _) (by repeat first | exact mH | apply mT))) (he.heap (hg.own (x11, _) (by repeat first | exact mH | apply mT)))) (fun w' he => fforce2_c p (dragS v p.drag s (relA l s)) _ (relA l s).y hdr2 hp.mass ay.thr hrel.2.1 _ _ _ _ _ _ w' (he.heap (hg.own (b1, _) (by repeat first | exact mH | apply mT))) (he.heap (hg.own (x11, _) (by repeat first | exact mH | apply mT)))) (fun w' he => fforce2_c p (dragS v p.drag s (relA l s)) _ (relA l s).z hdr2 hp.mass az.thr hrel.2.2 _ _ _ _ _ _ w' (he.heap (hg.own (b1, _) (by repeat first | exact mH | apply mT))) (he.heap (hg.own (x11, _) (by repeat first | exact mH | apply mT))))) ?_
 refine Lw rfl (w_alloc zr103 rfl) ?_
 rintro _ _ ⟨b8, hb8, rfl, rfl⟩
 refine Ls (cs' := [_, _, _, _, _, _]) rfl sz103 rfl rfl rfl rfl rfl rfl rfl ?_
 refine L_then (kp [0, 6, 13] rfl) ?_
 refine V_seq (V_draw (.rd 0 (.rd 1 (.rd 2 (.rd 3 (.rd 4 (.rd 5 (.rd 6 (.wr 7 [5, 4, 3, 2, 0] (.rd 8 (.wr 9 [] .done)))))))))) mixed (by kernel_rfl) rfl ?_)
 refine Dp rfl rfl (p_idxao ar103 rfl rfl rfl (by omega) (by omega)) ?_
 refine Dr rfl rfl (rlA (vs := [_, _]) ag97 sz97 rfl rfl rfl) ?_
 refine Dm rfl rfl rfl rfl ?_
 refine Dp rfl rfl (p_nil rfl rfl) ?_
 refine Dp rfl rfl (p_fieldo fo152_0 rfl rfl) ?_
 refine Dp rfl rfl (p_fieldo fo28_1 rfl rfl) ?_
 refine Dr rfl rfl (r_loadBA (vs := [_, _]) ag23 sz23 rfl rfl (own_slice (n := 2) (vs := [_, _]) hb rfl).1 rfl List.not_mem_nil) ?_
 refine D_wr (.go (E' := []) rfl (.plain rfl) (w_callP rfl rfl rfl (fun w hg => fminus_c (axisS (pushS p) (dragS v p.drag s (relA l s)) p.mass d.z p.tilt.z (relA l s).z) v.gravity (by omega) w)) rfl ?_)
 rintro _ _ ⟨rfl, rfl⟩
 refine ⟨.nil, ?_⟩
 refine Dp rfl rfl (p_idxao ar103 rfl rfl rfl (by omega) (by omega)) ?_
 refine D_wr (.go (E' := []) rfl (.plain rfl) (ws (cs' := [_, _, _, _, _, _]) sz97 rfl rfl rfl rfl rfl rfl rfl) rfl ?_)
 rintro _ _ ⟨rfl, rfl⟩
 refine ⟨.nil, ?_⟩
 refine D_then (kp [6, 13] rfl) ?_
 refine Vs rfl ?_
 refine Lr rfl (rlA (vs := [_, _, _, _, _, _]) ag103 sz103 rfl rfl rfl) ?_
 refine Ls (cs' := [_, _, _, _, _, _]) rfl sz103 rfl rfl rfl rfl rfl rfl rfl ?_
 refine L_then (kp [6] rfl) ?_
 refine V_ret ?_
 refine Leave.nil (.cellA (us := [_, _, _, _, _, _]) rfl ag103 sz103 (by repeat first | exact mH | apply mT) rfl .nil) ?_
 rfl

end Go.Proofs.Ytbncegfgjbdheaa

/- Ytbncegfgjbdheaa: the next state; what flies at a tick. -/
set_option linter.all false
namespace Go.Proofs.Ytbncegfgjbdheaa
open Go.Vc Go.Tk Go.Fl
set_option maxRecDepth 100000
set_option maxHeartbeats 4000000 in
theorem fnext_c (v : Veh) (d : Dir) (l : List Fl.Band) (av pv qv bv : Value) (hV : GoodV v) (hd : dirE d = 0) (hB : GoodB l) (p : Phase) (s : St) (hp : PhB p) (hs : farS s = false) (b ty : Nat) (fr : Nat × Nat) (w : World) (hb : w.heap[b]? = some (.cells (flC v av pv qv d bv).toArray ty fr)) (hv : VehR w (VehV v av pv qv) v) (hl : BdsR w bv l) : FnP Try.prog 87 [.pointer (some ⟨b, 0, none⟩), .agg #[.int .i64 (pushS p).lo, .int .i64 (pushS p).hi, .int .i64 p.mass.lo, .int .i64 p.mass.hi, .int .i64 p.drag.lo, .int .i64 p.drag.hi, .int .i64 p.tilt.x.lo, .int .i64 p.tilt.x.hi, .int .i64 p.tilt.y.lo, .int .i64 p.tilt.y.hi, .int .i64 p.tilt.z.lo, .int .i64 p.tilt.z.hi], .agg #[.int .i64 s.p.x.lo, .int .i64 s.p.x.hi, .int .i64 s.p.y.lo, .int .i64 s.p.y.hi, .int .i64 s.p.z.lo, .int .i64 s.p.z.hi, .int .i64 s.v.x.lo, .int .i64 s.v.x.hi, .int .i64 s.v.y.lo, .int .i64 s.v.y.hi, .int .i64 s.v.z.lo, .int .i64 s.v.z.hi]] w (.agg #[.int .i64 (nextS s (forceT v d l p s)).p.x.lo, .int .i64 (nextS s (forceT v d l p s)).p.x.hi, .int .i64 (nextS s (forceT v d l p s)).p.y.lo, .int .i64 (nextS s (forceT v d l p s)).p.y.hi, .int .i64 (nextS s (forceT v d l p s)).p.z.lo, .int .i64 (nextS s (forceT v d l p s)).p.z.hi, .int .i64 (nextS s (forceT v d l p s)).v.x.lo, .int .i64 (nextS s (forceT v d l p s)).v.x.hi, .int .i64 (nextS s (forceT v d l p s)).v.y.lo, .int .i64 (nextS s (forceT v d l p s)).v.y.hi, .int .i64 (nextS s (forceT v d l p s)).v.z.lo, .int .i64 (nextS s (forceT v d l p s)).v.z.hi]) := by
 obtain ⟨⟨⟨p1, p2, p3⟩, ⟨p4, p5, p6⟩, ⟨p7, p8, p9⟩⟩, hsv⟩ := far_false.1 hs
 obtain ⟨⟨f1, f2, f3⟩, ⟨f4, f5, f6⟩, ⟨f7, f8, f9⟩⟩ := force_bnd (l := l) hV hd hB hp (s := s) hsv
 obtain ⟨⟨v1, v2, v3⟩, ⟨v4, v5, v6⟩, ⟨v7, v8, v9⟩⟩ := hsv
 refine fn_pure Try.func87 rfl (by kernel_rfl) Try.ntmps87 Try.results87 rfl ?_
 refine Vs rfl ?_
 refine Lw rfl (w_box rfl rfl) ?_
 rintro _ _ ⟨b1, hb1, rfl, rfl⟩
 refine Lw rfl (w_box rfl rfl) ?_
 rintro _ _ ⟨b2, hb2, rfl, rfl⟩
 refine Lw rfl (w_alloc zr121 rfl) ?_
 rintro _ _ ⟨b3, hb3, rfl, rfl⟩
 refine L_then (kp [0, 4, 5, 6] rfl) ?_
 refine V_seq (V_draw (.rd 0 (.rd 1 (.rd 2 (.rd 3 (.rd 4 (.wr 5 [1, 0] (.wr 6 [4, 3, 2, 0] (.rd 7 (.wr 8 [] .done))))))))) mixed (by kernel_rfl) rfl ?_)
 refine Dp rfl rfl (p_fieldo fo121_1 rfl rfl) ?_
 refine Dr rfl rfl (rlA (vs := [_, _, _, _, _, _]) ag103 sz103 rfl rfl rfl) ?_
 refine Dm rfl rfl rfl rfl ?_
 refine Dr rfl rfl (rlA (vs := [_, _, _, _, _, _, _, _, _, _, _, _]) ag139 sz139 rfl rfl rfl) ?_
 refine Dr rfl rfl (rlA (vs := [_, _, _, _, _, _, _, _, _, _, _, _]) ag121 sz121 rfl rfl rfl) ?_
 refine D_wr (.go (E' := [(1, _)]) rfl (.plain rfl) (w_callP rfl rfl rfl (fun w hg => fforce_c v d l av pv qv bv hV hd hB p s hp hs b _ _ w (hg.toExt.heap hb) (hv.good hg) (hl.good hg))) rfl ?_)
 rintro _ _ ⟨rfl, rfl⟩
 refine ⟨(.cons rfl (.plain rfl) (rlA (vs := [_, _, _, _, _, _]) ag103 sz103 rfl rfl rfl) .nil), ?_⟩
 refine D_wr (.go (E' := []) rfl (.plain rfl) (w_callP rfl rfl rfl (fun w hg => feach_c s.v (forceT v d l p s) (Fl.addA s.v (forceT v d l p s)) _ #[] w (fun w' he => fplus_c s.v.x (forceT v d l p s).x (by omega) w') (fun w' he => fplus_c s.v.y (forceT v d l p s).y (by omega) w') (fun w' he => fplus_c s.v.z (forceT v d l p s).z (by omega) w'))) rfl ?_)
 rintro _ _ ⟨rfl, rfl⟩
 refine ⟨.nil, ?_⟩
 refine Dp rfl rfl (p_fieldo fo121_1 rfl rfl) ?_
 refine D_wr (.go (E' := []) rfl (.plain rfl) (ws (cs' := [_, _, _, _, _, _, _, _, _, _, _, _]) sz103 rfl rfl rfl rfl rfl rfl rfl) rfl ?_)
 rintro _ _ ⟨rfl, rfl⟩
 refine ⟨.nil, ?_⟩
 refine D_then (kp [5, 6] rfl) ?_
 refine Vs rfl ?_
 refine Lp rfl (p_fieldo fo121_0 rfl rfl) ?_
 refine Lr rfl (rlA (vs := [_, _, _, _, _, _]) ag103 sz103 rfl rfl rfl) ?_
 refine Lp rfl (p_fieldo fo121_1 rfl rfl) ?_
 refine Lr rfl (rlA (vs := [_, _, _, _, _, _]) ag103 sz103 rfl rfl rfl) ?_
 refine Lc rfl rfl rfl rfl (fun w hg => feach_c s.p (Fl.addA s.v (forceT v d l p s)) (Fl.addA s.p (Fl.addA s.v (forceT v d l p s))) _ #[] w (fun w' he => fplus_c s.p.x (Fl.addS s.v.x (forceT v d l p s).x) (by simp only [Fl.addS]; omega) w') (fun w' he => fplus_c s.p.y (Fl.addS s.v.y (forceT v d l p s).y) (by simp only [Fl.addS]; omega) w') (fun w' he => fplus_c s.p.z (Fl.addS s.v.z (forceT v d l p s).z) (by simp only [Fl.addS]; omega) w')) ?_
 refine Lp rfl (p_fieldo fo121_0 rfl rfl) ?_
 refine Ls (cs' := [_, _, _, _, _, _, _, _, _, _, _, _]) rfl sz103 rfl rfl rfl rfl rfl rfl rfl ?_
 refine L_then (kp [5, 6] rfl) ?_
 refine Vs rfl ?_
 refine Lr rfl (rlA (vs := [_, _, _, _, _, _, _, _, _, _, _, _]) ag121 sz121 rfl rfl rfl) ?_
 refine Ls (cs' := [_, _, _, _, _, _, _, _, _, _, _, _]) rfl sz121 rfl rfl rfl rfl rfl rfl rfl ?_
 refine L_then (kp [6] rfl) ?_
 refine V_ret ?_
 refine Leave.nil (.cellA (us := [_, _, _, _, _, _, _, _, _, _, _, _]) rfl ag121 sz121 (by repeat first | exact mH | apply mT) rfl .nil) ?_
 rfl
set_option maxHeartbeats 8000000 in
theorem fbody_c (v : Veh) (d : Dir) (l : List Fl.Band) (av pv qv bv : Value) (hV : GoodV v) (tick : Int) (ht : 0 ≤ tick ∧ tick ≤ 1000000) (b ty : Nat) (fr : Nat × Nat) (w : World) (hb : w.heap[b]? = some (.cells (flC v av pv qv d bv).toArray ty fr)) (hv : VehR w (VehV v av pv qv) v) : FnP Try.prog 57 [.pointer (some ⟨b, 0, none⟩), .int .i64 tick] w (.agg #[.int .i64 (pushS (nowT v tick)).lo, .int .i64 (pushS (nowT v tick)).hi, .int .i64 (nowT v tick).mass.lo, .int .i64 (nowT v tick).mass.hi, .int .i64 (nowT v tick).drag.lo, .int .i64 (nowT v tick).drag.hi, .int .i64 (nowT v tick).tilt.x.lo, .int .i64 (nowT v tick).tilt.x.hi, .int .i64 (nowT v tick).tilt.y.lo, .int .i64 (nowT v tick).tilt.y.hi, .int .i64 (nowT v tick).tilt.z.lo, .int .i64 (nowT v tick).tilt.z.hi]) := by
 obtain ⟨pa, pc, rfl, hpc, hpe⟩ := hv.sl.2.1.ex
 have h12 := oP_false.1 hV.ph12
 simp only [List.length_map] at hpc hb hv ⊢
 refine fn_pure Try.func57 rfl (by kernel_rfl) Try.ntmps57 Try.results57 rfl ?_
 refine Vs rfl ?_
 refine Lw rfl (w_alloc zr139 rfl) ?_
 rintro _ _ ⟨b1, hb1, rfl, rfl⟩
 refine L_then (kp [0, 1, 4] rfl) ?_
 refine V_seq (V_draw (.rd 0 (.rd 1 (.rd 2 (.rd 3 (.rd 4 (.rd 5 (.rd 6 (.rd 7 (.rd 8 (.rd 9 (.rd 10 (.rd 11 (.rd 12 (.rd 13 (.wr 14 [13, 12, 11, 10, 9, 8, 7, 6, 5, 4, 3, 2, 1, 0] (.wr 15 [] .done)))))))))))))))) mixed (by kernel_rfl) rfl ?_)
 obtain ⟨tb, rfl, hcl⟩ := hpe ((v.phases.length : Int) - 1).toNat _ (getD_cells (d := phZ) (by omega))
 refine Dm rfl rfl rfl rfl ?_
 refine Dp rfl rfl (p_nil rfl rfl) ?_
 refine Dp rfl rfl (p_fieldo fo152_0 rfl rfl) ?_
 refine Dp rfl rfl (p_fieldo fo28_3 rfl rfl) ?_
 refine Dr rfl rfl (r_loadB ag25 rfl rfl (own_cell hb _) List.not_mem_nil) ?_
 refine Dm rfl rfl rfl rfl ?_
 refine Dp rfl rfl (p_nil rfl rfl) ?_
 refine Dp rfl rfl (p_fieldo fo152_0 rfl rfl) ?_
 refine Dp rfl rfl (p_fieldo fo28_3 rfl rfl) ?_
 refine Dr rfl rfl (r_loadB ag25 rfl rfl (own_cell hb _) List.not_mem_nil) ?_
 refine Dp rfl rfl (p_len isl25 rfl rfl) ?_
 first | refine Dp rfl rfl (p_sub' rfl rfl rfl (by unfold InI; omega)) ?_ | refine Dp rfl rfl (p_sub rfl rfl rfl) ?_
 refine Dp rfl rfl (p_idx es25 rfl rfl rfl (by omega) (by omega)) ?_
 refine Dr rfl rfl (r_loadBA ag46 sz46 rfl rfl hcl rfl List.not_mem_nil) ?_
 refine D_wr (.go (E' := [(13, _), (9, _), (4, _)]) rfl (.plain rfl) (w_alloc zr46 rfl) rfl ?_)
 rintro _ _ ⟨b2, hb2, rfl, rfl⟩
 refine ⟨(.cons rfl (.plain rfl) (r_loadBA ag46 sz46 rfl rfl hcl rfl List.not_mem_nil) (.cons rfl (.plain rfl) (r_loadB ag25 rfl rfl (own_cell hb _) List.not_mem_nil) (.cons rfl (.plain rfl) (r_loadB ag25 rfl rfl (own_cell hb _) List.not_mem_nil) .nil))), ?_⟩
 refine D_wr (.go (E' := []) rfl (.plain rfl) (ws (cs' := [_, _, _, _, _, _, _, _, _, _, _, _, _]) sz46 rfl rfl rfl rfl rfl rfl rfl) rfl ?_)
 rintro _ _ ⟨rfl, rfl⟩
 refine ⟨.nil, ?_⟩
 refine D_then (kp [0, 1, 4, 5] rfl) ?_
 refine Vs rfl ?_
 refine Lp rfl (p_build (r := [_, _]) pl23 zr23 rfl rfl rfl) ?_
 refine Lp rfl (p_build (r := [_, _, _, _, _, _]) pl44 zr44 rfl rfl rfl) ?_
 refine Lp rfl (p_fieldo fo46_1 rfl rfl) ?_
 refine Ls (cs' := [_, _, _, _, _, _, _, _, _, _, _, _, _]) rfl sz23 rfl rfl rfl rfl rfl rfl rfl ?_
 refine Lp rfl (p_fieldo fo46_4 rfl rfl) ?_
 refine Ls (cs' := [_, _, _, _, _, _, _, _, _, _, _, _, _]) rfl sz44 rfl rfl rfl rfl rfl rfl rfl ?_
 refine L_then (kp [0, 1, 4, 5] rfl) ?_
 refine V_seq ?_
 refine Vs rfl ?_
 refine Lm rfl rfl rfl ?_
 refine Ln rfl rfl rfl ?_
 refine Lp rfl (p_fieldo fo152_0 rfl rfl) ?_
 refine Lp rfl (p_fieldo fo28_3 rfl rfl) ?_
 refine Lr rfl (r_loadB ag25 rfl rfl (own_cell hb _) List.not_mem_nil) ?_
 refine Lp rfl (p_len isl25 rfl rfl) ?_
 refine Lm rfl rfl rfl ?_
 refine L_then (kp [1, 4, 5, 30, 31, 32] rfl) ?_
 refine V_midT (γ := Phase) (kp [4, 5] rfl) (fun q => []) (fun q => (b2, .cells (Fl.Phase.cells q).toArray 46) :: [(b1, .cells #[.int .i64 0, .int .i64 0, .int .i64 0, .int .i64 0, .int .i64 0, .int .i64 0, .int .i64 0, .int .i64 0, .int .i64 0, .int .i64 0, .int .i64 0, .int .i64 0] 139)]) (fun q => q = nowT v tick) ?_ ?_
 ·refine V_block ?_
  refine V_loop1 (γ := Int × Int) (kp [4, 5, 30, 31] rfl) (fun (k, t) => [(32, .int .i64 k), (1, .int .i64 t)]) (fun (k, t) => (b2, .cells (Fl.Phase.cells (lastQ v)).toArray 46) :: [(b1, .cells #[.int .i64 0, .int .i64 0, .int .i64 0, .int .i64 0, .int .i64 0, .int .i64 0, .int .i64 0, .int .i64 0, .int .i64 0, .int .i64 0, .int .i64 0, .int .i64 0] 139)]) (fun (k, t) => 0 ≤ k ∧ k ≤ v.phases.length ∧ (0 ≤ t ∧ t ≤ 1000000) ∧ phaseN v.phases tick = phaseN (v.phases.drop k.toNat) t) (fun (k, t) => (v.phases.length - k).toNat) ((0, tick)) (.cons rfl (.cons rfl (.nil _))) (by repeat (first | exact List.Sublist.refl _ | apply List.Sublist.cons_cons | apply List.Sublist.cons)) (⟨by omega, by omega, by omega, rfl⟩) ?_
  rintro ⟨k, t⟩ hi
  obtain ⟨hk0, hk1, htt, hph⟩ := hi
  dsimp only at hk0 hk1 htt hph ⊢
  refine Vs rfl ?_
  refine Lp rfl (p_lss rfl rfl rfl) ?_
  refine L_then (kp [1, 4, 5, 30, 31, 32, 33] rfl) ?_
  refine V_seq ?_
  refine V_cond rfl ?_ ?_
  ·intro c1; try simp only [td] at c1
   obtain ⟨b9, e9, hc⟩ := hpe k.toNat _ (getD_cells (d := phZ) (by omega))
   injection e9 with e9
   subst e9
   have hpk := (ph_zero (hV.ph k.toNat (by omega))).1
   simp only [Veh.ph] at hpk
   refine V_skip (then_n ?_)
   refine V_seq ?_
   refine V_block ?_
   refine Vs rfl ?_
   refine Lp rfl (p_idx es25 rfl rfl rfl (by omega) (by omega)) ?_
   refine Lr rfl (r_loadBA ag46 sz46 rfl rfl hc rfl List.not_mem_nil) ?_
   refine Lw rfl (w_alloc zr46 rfl) ?_
   rintro _ _ ⟨b3, hb3, rfl, rfl⟩
   refine Ls (cs' := [_, _, _, _, _, _, _, _, _, _, _, _, _]) rfl sz46 rfl rfl rfl rfl rfl rfl rfl ?_
   refine L_then (kp [1, 4, 5, 7, 30, 31, 32] rfl) ?_
   refine V_seq ?_
   refine Vs rfl ?_
   refine Lm rfl rfl rfl ?_
   refine Lp rfl (p_fieldo fo46_0 rfl rfl) ?_
   refine Lr rfl (rl ag3 rfl rfl rfl) ?_
   refine Lp rfl (p_lss rfl rfl rfl) ?_
   refine L_then (kp [1, 4, 5, 7, 30, 31, 32, 39] rfl) ?_
   refine V_cond rfl ?_ ?_
   ·intro c2; try simp only [td] at c2
    refine Vs rfl ?_
    refine Lr rfl (rlA (vs := [_, _, _, _, _, _, _, _, _, _, _, _, _]) ag46 sz46 rfl rfl rfl) ?_
    refine Ls (cs' := [_, _, _, _, _, _, _, _, _, _, _, _, _]) rfl sz46 rfl rfl rfl rfl rfl rfl rfl ?_
    refine L_then (kp [4, 5] rfl) ?_
    refine V_exit (then_e (blk_o rfl (then_e (then_e (blk_e rfl (then_n ?_))))))
    refine ⟨(v.phases.getD k.toNat phZ), ?_, (.cons rfl (.cons rfl (.nil _))), (by (try dsimp only); repeat (first | exact HSub.nil _ | refine HSub.take (by repeat first | exact Take.head | apply Take.tail) ?_ | exact HSub.refl _ | refine HSub.drop ?_ | refine HSub.app ?_)), rfl⟩
    exact (now_hit (by omega) hph (by unfold Veh.ph; omega)).symm
   intro c2; try simp only [td] at c2
   refine V_skip (then_n ?_)
   refine V_region rfl ?_
   refine Lm rfl rfl rfl ?_
   refine Lp rfl (p_fieldo fo46_0 rfl rfl) ?_
   refine Lr rfl (rl ag3 rfl rfl rfl) ?_
   first | refine Lp rfl (p_sub' rfl rfl rfl (by unfold InI; omega)) ?_ | refine Lp rfl (p_sub rfl rfl rfl) ?_
   refine La rfl rfl rfl ?_
   refine L_keep (kp [1, 4, 5, 30, 31, 32] rfl) (blk_n (then_n ?_))
   refine V_region rfl ?_
   first | refine Lp rfl (p_add' rfl rfl rfl (by unfold InI; omega)) ?_ | refine Lp rfl (p_add rfl rfl rfl) ?_
   refine Lm rfl rfl rfl ?_
   refine L_keep (kp [1, 4, 5, 30, 31, 32] rfl) (then_n ?_)
   refine ⟨(k + 1, t - (v.phases.getD k.toNat phZ).ticks), ?_, ?_, (.cons rfl (.cons rfl (.cons rfl (.cons rfl (.cons rfl (.cons rfl (.nil _))))))), (by repeat (first | exact List.Sublist.refl _ | apply List.Sublist.cons_cons | apply List.Sublist.cons | apply List.sublist_append_of_sublist_right)), rfl⟩
   ·have ek : (k + 1).toNat = k.toNat + 1 := by omega
    refine ⟨by omega, by omega, by dsimp only; omega, ?_⟩
    rw [ek]; exact now_step (by omega) hph (by unfold Veh.ph; omega)
   dsimp only; omega
  intro c1; try simp only [td] at c1
  refine V_exit (then_e (then_e (blk_e rfl (then_n ?_))))
  refine ⟨(lastQ v), ?_, (.cons rfl (.cons rfl (.nil _))), (by (try dsimp only); repeat (first | exact HSub.nil _ | refine HSub.take (by repeat first | exact Take.head | apply Take.tail) ?_ | exact HSub.refl _ | refine HSub.drop ?_ | refine HSub.app ?_)), rfl⟩
  exact (lastQ_eq v).trans (now_end (by omega) hph).symm
 rintro q hq
 subst hq
 have hpb := now_ph hV tick
 have hth := hpb.thrust
 refine V_seq (V_draw (.rd 0 (.rd 1 (.rd 4 (.rd 5 (.rd 6 (.rd 7 (.rd 8 (.rd 9 (.wr 2 [9, 8, 7, 6, 5, 4, 1, 0] (.wr 3 [9, 8, 7, 6, 5, 4, 0] (.wr 10 [8, 7, 6, 5, 4, 1, 0] (.rd 11 (.wr 12 [] .done))))))))))))) mixed (by kernel_rfl) rfl ?_)
 refine Dp rfl rfl (p_fieldo fo46_1 rfl rfl) ?_
 refine Dr rfl rfl (rlA (vs := [_, _]) ag23 sz23 rfl rfl rfl) ?_
 refine Dp rfl rfl (p_fieldo fo46_2 rfl rfl) ?_
 refine Dr rfl rfl (rlA (vs := [_, _]) ag23 sz23 rfl rfl rfl) ?_
 refine Dp rfl rfl (p_fieldo fo46_3 rfl rfl) ?_
 refine Dr rfl rfl (rlA (vs := [_, _]) ag23 sz23 rfl rfl rfl) ?_
 refine Dp rfl rfl (p_fieldo fo46_4 rfl rfl) ?_
 refine Dr rfl rfl (rlA (vs := [_, _, _, _, _, _]) ag44 sz44 rfl rfl rfl) ?_
 refine D_wr (.go (E' := [(9, _), (7, _), (5, _), (1, _)]) rfl (.plain rfl) (w_callP rfl rfl rfl (fun w hg => fat_c _ w)) rfl ?_)
 rintro _ _ ⟨rfl, rfl⟩
 refine ⟨(.cons rfl (.plain rfl) (rlA (vs := [_, _, _, _, _, _]) ag44 sz44 rfl rfl rfl) (.cons rfl (.plain rfl) (rlA (vs := [_, _]) ag23 sz23 rfl rfl rfl) (.cons rfl (.plain rfl) (rlA (vs := [_, _]) ag23 sz23 rfl rfl rfl) (.cons rfl (.plain rfl) (rlA (vs := [_, _]) ag23 sz23 rfl rfl rfl) .nil)))), ?_⟩
 refine D_wr (.go (E' := [(9, _), (7, _), (5, _)]) rfl (.plain rfl) (w_callP rfl rfl rfl (fun w hg => ftimes_c (nowT v tick).thrust (at1 10) (A := 2000000) (B := 10) (by unfold SpB; omega) (by unfold SpB at1; decide) (by decide) w)) rfl ?_)
 rintro _ _ ⟨rfl, rfl⟩
 refine ⟨(.cons rfl (.plain rfl) (rlA (vs := [_, _, _, _, _, _]) ag44 sz44 rfl rfl rfl) (.cons rfl (.plain rfl) (rlA (vs := [_, _]) ag23 sz23 rfl rfl rfl) (.cons rfl (.plain rfl) (rlA (vs := [_, _]) ag23 sz23 rfl rfl rfl) .nil))), ?_⟩
 refine D_wr (.go (E' := [(7, _), (5, _)]) rfl (.plain rfl) (w_callP rfl rfl rfl (fun w hg => ftilted_c (nowT v tick).tilt w)) rfl ?_)
 rintro _ _ ⟨rfl, rfl⟩
 refine ⟨(.cons rfl (.plain rfl) (rlA (vs := [_, _]) ag23 sz23 rfl rfl rfl) (.cons rfl (.plain rfl) (rlA (vs := [_, _]) ag23 sz23 rfl rfl rfl) .nil)), ?_⟩
 refine Dp rfl rfl (p_build (r := [_, _, _, _, _, _, _, _, _, _, _, _]) pl139 zr139 rfl rfl rfl) ?_
 refine D_wr (.go (E' := []) rfl (.plain rfl) (ws (cs' := [_, _, _, _, _, _, _, _, _, _, _, _]) sz139 rfl rfl rfl rfl rfl rfl rfl) rfl ?_)
 rintro _ _ ⟨rfl, rfl⟩
 refine ⟨.nil, ?_⟩
 refine D_then (kp [4] rfl) ?_
 refine V_ret ?_
 refine Leave.nil (.cellA (us := [_, _, _, _, _, _, _, _, _, _, _, _]) rfl ag139 sz139 (by repeat first | exact mH | apply mT) rfl .nil) ?_
 rfl

end Go.Proofs.Ytbncegfgjbdheaa

/- Ytbncegfgjbdheaa: begin; Winds and Air. -/
set_option linter.all false
namespace Go.Proofs.Ytbncegfgjbdheaa
open Go.Vc Go.Tk Go.Fl
set_option maxRecDepth 100000
theorem fbeginE_c (v : Veh) (d : Dir) (l : List Fl.Band) (av pv qv bv : Value) (w : World) (hv : VehR w (VehV v av pv qv) v) (hl : BdsR w bv l) (h : askedF v d l ≠ 0) : FnP Try.prog 52 [VehV v av pv qv, .agg #[.int .i64 d.x, .int .i64 d.y, .int .i64 d.z], bv] w (.tuple #[.pointer none, .int .i64 (askedF v d l)]) := by
 have hA : ¬((checkV v).2.2 = 0 ∧ dirE d = 0 ∧ (checkB l).2 = 0) := fun ⟨h1, h2, h3⟩ => h ((asked_3 h1 h2).trans h3)
 refine fn_pure Try.func52 rfl (by kernel_rfl) Try.ntmps52 Try.results52 rfl ?_
 refine Vs rfl ?_
 refine Lw rfl (w_box rfl rfl) ?_
 rintro _ _ ⟨b1, hb1, rfl, rfl⟩
 refine Lw rfl (w_box rfl rfl) ?_
 rintro _ _ ⟨b2, hb2, rfl, rfl⟩
 iterate 2 refine La rfl rfl rfl ?_
 refine L_then (kp [2, 3, 4] rfl) ?_
 refine V_seq ?_
 refine Vs rfl ?_
 refine Lr rfl (rlA (vs := [_, _, _, _, _, _]) ag28 sz28 rfl rfl rfl) ?_
 refine Lc rfl rfl rfl rfl (fun w hg => fcheck_c v _ w (hv.good hg)) ?_
 refine Lm rfl rfl rfl ?_
 iterate 3 refine Lp rfl (p_ext rfl rfl rfl) ?_
 iterate 3 refine La rfl rfl rfl ?_
 refine L_then (kp [2, 3, 4, 10] rfl) ?_
 refine Vs rfl ?_
 refine Lm rfl rfl rfl ?_
 refine Lp rfl (p_neq rfl rfl rfl) ?_
 refine L_then (kp [2, 3, 4, 10, 21] rfl) ?_
 refine V_cond rfl ?_ ?_
 ·intro c1; try simp only [td] at c1
  refine Vs rfl ?_
  refine Lm rfl rfl rfl ?_
  iterate 2 refine La rfl rfl rfl ?_
  refine L_then (kp [6, 7] rfl) ?_
  refine V_ret (then_r ?_)
  refine Leave.nil (.tmp rfl (.tmp rfl .nil)) ?_
  rw [asked_1 c1]; rfl
 intro c1; try simp only [td] at c1
 refine V_skip (then_n ?_)
 refine V_seq ?_
 refine Vs rfl ?_
 refine Lr rfl (rlA (vs := [_, _, _]) ag30 sz30 rfl rfl rfl) ?_
 refine Lc rfl rfl rfl rfl (fun w hg => fdir_c d w) ?_
 refine La rfl rfl rfl ?_
 refine L_then (kp [2, 3, 4, 11] rfl) ?_
 refine Vs rfl ?_
 refine Lm rfl rfl rfl ?_
 refine Lp rfl (p_neq rfl rfl rfl) ?_
 refine L_then (kp [2, 3, 4, 11, 26] rfl) ?_
 refine V_cond rfl ?_ ?_
 ·intro c2; try simp only [td] at c2
  refine Vs rfl ?_
  refine Lm rfl rfl rfl ?_
  iterate 2 refine La rfl rfl rfl ?_
  refine L_then (kp [6, 7] rfl) ?_
  refine V_ret (then_r ?_)
  refine Leave.nil (.tmp rfl (.tmp rfl .nil)) ?_
  rw [asked_2 (by omega) c2]; rfl
 intro c2; try simp only [td] at c2
 refine V_skip (then_n ?_)
 refine V_seq ?_
 refine Vs rfl ?_
 refine Lm rfl rfl rfl ?_
 refine Lc rfl rfl rfl rfl (fun w hg => wbands_c l _ w (hl.good hg)) ?_
 refine Lm rfl rfl rfl ?_
 iterate 2 refine Lp rfl (p_ext rfl rfl rfl) ?_
 iterate 2 refine La rfl rfl rfl ?_
 refine L_then (kp [2, 3, 4, 13] rfl) ?_
 refine Vs rfl ?_
 refine Lm rfl rfl rfl ?_
 refine Lp rfl (p_neq rfl rfl rfl) ?_
 refine L_then (kp [2, 3, 4, 13, 34] rfl) ?_
 refine V_cond rfl ?_ ?_
 ·intro c3; try simp only [td] at c3
  refine Vs rfl ?_
  refine Lm rfl rfl rfl ?_
  iterate 2 refine La rfl rfl rfl ?_
  refine L_then (kp [6, 7] rfl) ?_
  refine V_ret (then_r ?_)
  refine Leave.nil (.tmp rfl (.tmp rfl .nil)) ?_
  rw [asked_3 (by omega) (by omega)]; rfl
 intro c3; try simp only [td] at c3
 exfalso; omega
theorem fbegin_c (v : Veh) (d : Dir) (l : List Fl.Band) (av pv qv bv : Value) (w : World) (hv : VehR w (VehV v av pv qv) v) (hl : BdsR w bv l) (h : askedF v d l = 0) : FnC Try.prog 52 [VehV v av pv qv, .agg #[.int .i64 d.x, .int .i64 d.y, .int .i64 d.z], bv] w fun u w' => ∃ Hc, Vc.Good w [] Hc w' ∧ ∃ b1, u = .tuple #[.pointer (some ⟨b1, 0, none⟩), .int .i64 0] ∧ Hc = [(b1, .cells (flC v av pv qv d bv).toArray 152)] := by
 have hA := asked_0 h
 have hL := hl
 obtain ⟨ba, bc, rfl, hbc, hbe⟩ := hl.sl.ex
 simp only [List.length_map] at hL ⊢
 refine fn_new Try.func52 rfl (by kernel_rfl) Try.ntmps52 Try.results52 rfl ?_
 refine Vs rfl ?_
 refine Lw rfl (w_box rfl rfl) ?_
 rintro _ _ ⟨b1, hb1, rfl, rfl⟩
 refine Lw rfl (w_box rfl rfl) ?_
 rintro _ _ ⟨b2, hb2, rfl, rfl⟩
 iterate 2 refine La rfl rfl rfl ?_
 refine L_then (kp [2, 3, 4] rfl) ?_
 refine V_seq ?_
 refine Vs rfl ?_
 refine Lr rfl (rlA (vs := [_, _, _, _, _, _]) ag28 sz28 rfl rfl rfl) ?_
 refine Lc rfl rfl rfl rfl (fun w hg => fcheck_c v _ w (hv.good hg)) ?_
 refine Lm rfl rfl rfl ?_
 iterate 3 refine Lp rfl (p_ext rfl rfl rfl) ?_
 iterate 3 refine La rfl rfl rfl ?_
 refine L_then (kp [2, 3, 4, 10] rfl) ?_
 refine Vs rfl ?_
 refine Lm rfl rfl rfl ?_
 refine Lp rfl (p_neq rfl rfl rfl) ?_
 refine L_then (kp [2, 3, 4, 10, 21] rfl) ?_
 refine V_cond rfl ?_ ?_
 ·intro c1; try simp only [td] at c1
  exfalso; omega
 intro c1; try simp only [td] at c1
 refine V_skip (then_n ?_)
 refine V_seq ?_
 refine Vs rfl ?_
 refine Lr rfl (rlA (vs := [_, _, _]) ag30 sz30 rfl rfl rfl) ?_
 refine Lc rfl rfl rfl rfl (fun w hg => fdir_c d w) ?_
 refine La rfl rfl rfl ?_
 refine L_then (kp [2, 3, 4, 11] rfl) ?_
 refine Vs rfl ?_
 refine Lm rfl rfl rfl ?_
 refine Lp rfl (p_neq rfl rfl rfl) ?_
 refine L_then (kp [2, 3, 4, 11, 26] rfl) ?_
 refine V_cond rfl ?_ ?_
 ·intro c2; try simp only [td] at c2
  exfalso; omega
 intro c2; try simp only [td] at c2
 refine V_skip (then_n ?_)
 refine V_seq ?_
 refine Vs rfl ?_
 refine Lm rfl rfl rfl ?_
 refine Lc rfl rfl rfl rfl (fun w hg => wbands_c l _ w (hL.good hg)) ?_
 refine Lm rfl rfl rfl ?_
 iterate 2 refine Lp rfl (p_ext rfl rfl rfl) ?_
 iterate 2 refine La rfl rfl rfl ?_
 refine L_then (kp [2, 3, 4, 13] rfl) ?_
 refine Vs rfl ?_
 refine Lm rfl rfl rfl ?_
 refine Lp rfl (p_neq rfl rfl rfl) ?_
 refine L_then (kp [2, 3, 4, 13, 34] rfl) ?_
 refine V_cond rfl ?_ ?_
 ·intro c3; try simp only [td] at c3
  exfalso; omega
 intro c3; try simp only [td] at c3
 refine V_skip (then_n ?_)
 refine V_seq (V_draw (.rd 0 (.rd 1 (.rd 2 (.rd 4 (.rd 5 (.rd 7 (.rd 8 (.rd 11 (.wr 3 [11, 8, 7, 5, 4, 1, 0] (.wr 6 [11, 8, 7, 4, 2, 1, 0] (.wr 9 [11, 7, 5, 4, 2, 1, 0] (.rd 10 (.rd 12 (.wr 13 [11, 10, 8, 7, 5, 4, 2, 1, 0] (.rd 14 (.rd 15 .done)))))))))))))))) mixed (by kernel_rfl) rfl ?_)
 refine Dr rfl rfl (rlA (vs := [_, _, _, _, _, _]) ag28 sz28 rfl rfl rfl) ?_
 refine Dp rfl rfl (p_fieldo fo30_0 rfl rfl) ?_
 refine Dr rfl rfl (rl ag3 rfl rfl rfl) ?_
 refine Dp rfl rfl (p_fieldo fo30_1 rfl rfl) ?_
 refine Dr rfl rfl (rl ag3 rfl rfl rfl) ?_
 refine Dp rfl rfl (p_fieldo fo30_2 rfl rfl) ?_
 refine Dr rfl rfl (rl ag3 rfl rfl rfl) ?_
 refine Dm rfl rfl rfl rfl ?_
 refine D_wr (.go (E' := [(8, _), (5, _), (0, _)]) rfl (.plain rfl) (w_callP rfl rfl rfl (fun w hg => fat_c _ w)) rfl ?_)
 rintro _ _ ⟨rfl, rfl⟩
 refine ⟨(.cons rfl (.plain rfl) (rl ag3 rfl rfl rfl) (.cons rfl (.plain rfl) (rl ag3 rfl rfl rfl) (.cons rfl (.plain rfl) (rlA (vs := [_, _, _, _, _, _]) ag28 sz28 rfl rfl rfl) .nil))), ?_⟩
 refine D_wr (.go (E' := [(8, _), (0, _)]) rfl (.plain rfl) (w_callP rfl rfl rfl (fun w hg => fat_c _ w)) rfl ?_)
 rintro _ _ ⟨rfl, rfl⟩
 refine ⟨(.cons rfl (.plain rfl) (rl ag3 rfl rfl rfl) (.cons rfl (.plain rfl) (rlA (vs := [_, _, _, _, _, _]) ag28 sz28 rfl rfl rfl) .nil)), ?_⟩
 refine D_wr (.go (E' := [(0, _)]) rfl (.plain rfl) (w_callP rfl rfl rfl (fun w hg => fat_c _ w)) rfl ?_)
 rintro _ _ ⟨rfl, rfl⟩
 refine ⟨(.cons rfl (.plain rfl) (rlA (vs := [_, _, _, _, _, _]) ag28 sz28 rfl rfl rfl) .nil), ?_⟩
 refine Dp rfl rfl (p_buildA (r := [_, _, _, _, _, _]) ar103 zr103 rfl rfl rfl) ?_
 refine Dp rfl rfl (p_build (r := [_, _, _, _, _, _, _, _, _, _, _, _, _]) pl152 zr152 rfl rfl rfl) ?_
 refine D_wr (.go (E' := [(0, _)]) rfl (.plain rfl) (w_box rfl rfl) rfl ?_)
 rintro _ _ ⟨b3, hb3, rfl, rfl⟩
 refine ⟨(.cons rfl (.plain rfl) (rlA (vs := [_, _, _, _, _, _]) ag28 sz28 rfl rfl rfl) .nil), ?_⟩
 iterate 2 refine Dp rfl rfl (p_assign rfl rfl) ?_
 refine D_then (kp [6, 7] rfl) ?_
 refine V_ret ?_
 refine Leave.nil (.tmp rfl (.tmp rfl .nil)) ?_
 exact ⟨_, (by (try dsimp only); repeat (first | exact HSub.nil _ | refine HSub.take (by repeat first | exact Take.head | apply Take.tail) ?_ | exact HSub.refl _ | refine HSub.drop ?_ | refine HSub.app ?_)), _, rfl, rfl⟩
end Go.Proofs.Ytbncegfgjbdheaa

/- Ytbncegfgjbdheaa: Force. -/
set_option linter.all false
namespace Go.Proofs.Ytbncegfgjbdheaa
open Go.Vc Go.Tk Go.Fl
set_option maxRecDepth 100000
theorem fForceE_c (v : Veh) (d : Dir) (l : List Fl.Band) (av pv qv bv : Value) (w : World) (hv : VehR w (VehV v av pv qv) v) (hl : BdsR w bv l) (tick : Int) (s : St) (h : askedF v d l ≠ 0) : FnP Try.prog 33 [VehV v av pv qv, .agg #[.int .i64 d.x, .int .i64 d.y, .int .i64 d.z], bv, .int .i64 tick, .agg #[.int .i64 s.p.x.lo, .int .i64 s.p.x.hi, .int .i64 s.p.y.lo, .int .i64 s.p.y.hi, .int .i64 s.p.z.lo, .int .i64 s.p.z.hi, .int .i64 s.v.x.lo, .int .i64 s.v.x.hi, .int .i64 s.v.y.lo, .int .i64 s.v.y.hi, .int .i64 s.v.z.lo, .int .i64 s.v.z.hi]] w (.tuple #[.agg #[.int .i64 (forceP v d l tick s).x.lo, .int .i64 (forceP v d l tick s).x.hi, .int .i64 (forceP v d l tick s).y.lo, .int .i64 (forceP v d l tick s).y.hi, .int .i64 (forceP v d l tick s).z.lo, .int .i64 (forceP v d l tick s).z.hi], .int .i64 (forceE v d l tick s)]) := by
 refine fn_pure Try.func33 rfl (by kernel_rfl) Try.ntmps33 Try.results33 rfl ?_
 refine Vs rfl ?_
 refine Lw rfl (w_box rfl rfl) ?_
 rintro _ _ ⟨b1, hb1, rfl, rfl⟩
 refine Lw rfl (w_box rfl rfl) ?_
 rintro _ _ ⟨b2, hb2, rfl, rfl⟩
 refine Lw rfl (w_box rfl rfl) ?_
 rintro _ _ ⟨b3, hb3, rfl, rfl⟩
 refine Lw rfl (w_alloc zr90 rfl) ?_
 rintro _ _ ⟨b4, hb4, rfl, rfl⟩
 refine La rfl rfl rfl ?_
 refine L_then (kp [2, 3, 5, 6, 9, 10] rfl) ?_
 refine Vs rfl ?_
 refine Lr rfl (rlA (vs := [_, _, _, _, _, _]) ag28 sz28 rfl rfl rfl) ?_
 refine Lr rfl (rlA (vs := [_, _, _]) ag30 sz30 rfl rfl rfl) ?_
 refine Lm rfl rfl rfl ?_
 refine Lc rfl rfl rfl rfl (fun w hg => fbeginE_c v d l av pv qv _ w (hv.good hg) (hl.good hg) h) ?_
 refine Lm rfl rfl rfl ?_
 iterate 2 refine Lp rfl (p_ext rfl rfl rfl) ?_
 iterate 2 refine La rfl rfl rfl ?_
 refine L_then (kp [3, 9, 10, 12, 13] rfl) ?_
 refine V_seq ?_
 refine V_block ?_
 refine Vs rfl ?_
 refine Lm rfl rfl rfl ?_
 refine Lp rfl (p_neq rfl rfl rfl) ?_
 refine La rfl rfl rfl ?_
 refine L_then (kp [3, 9, 10, 12, 13, 22] rfl) ?_
 refine V_cond rfl ?_ ?_
 ·intro c1; try simp only [td] at c1
  refine Vs rfl ?_
  refine Lp rfl (p_build (r := [_, _, _, _, _, _]) pl90 zr90 rfl rfl rfl) ?_
  refine Lm rfl rfl rfl ?_
  refine Ls (cs' := [_, _, _, _, _, _]) rfl sz90 rfl rfl rfl rfl rfl rfl rfl ?_
  refine La rfl rfl rfl ?_
  refine L_then (kp [10, 11] rfl) ?_
  refine V_ret (blk_r (then_r ?_))
  refine Leave.nil (.cellA (us := [_, _, _, _, _, _]) rfl ag90 sz90 (by repeat first | exact mH | apply mT) rfl (.tmp rfl .nil)) ?_
  rw [forceP_e (by rw [forceE_1 h]; exact h), forceE_1 h]; rfl
 intro c1; try simp only [td] at c1
 exfalso; omega
set_option maxHeartbeats 4000000 in
theorem fForceO_c (v : Veh) (d : Dir) (l : List Fl.Band) (av pv qv bv : Value) (w : World) (hv : VehR w (VehV v av pv qv) v) (hl : BdsR w bv l) (tick : Int) (s : St) (h : askedF v d l = 0) : FnP Try.prog 33 [VehV v av pv qv, .agg #[.int .i64 d.x, .int .i64 d.y, .int .i64 d.z], bv, .int .i64 tick, .agg #[.int .i64 s.p.x.lo, .int .i64 s.p.x.hi, .int .i64 s.p.y.lo, .int .i64 s.p.y.hi, .int .i64 s.p.z.lo, .int .i64 s.p.z.hi, .int .i64 s.v.x.lo, .int .i64 s.v.x.hi, .int .i64 s.v.y.lo, .int .i64 s.v.y.hi, .int .i64 s.v.z.lo, .int .i64 s.v.z.hi]] w (.tuple #[.agg #[.int .i64 (forceP v d l tick s).x.lo, .int .i64 (forceP v d l tick s).x.hi, .int .i64 (forceP v d l tick s).y.lo, .int .i64 (forceP v d l tick s).y.hi, .int .i64 (forceP v d l tick s).z.lo, .int .i64 (forceP v d l tick s).z.hi], .int .i64 (forceE v d l tick s)]) := by
 have hL := hl
 obtain ⟨ba, bc, rfl, hbc, hbe⟩ := hl.sl.ex
 simp only [List.length_map] at hL ⊢
 refine fn_pure Try.func33 rfl (by kernel_rfl) Try.ntmps33 Try.results33 rfl ?_
 refine Vs rfl ?_
 refine Lw rfl (w_box rfl rfl) ?_
 rintro _ _ ⟨b1, hb1, rfl, rfl⟩
 refine Lw rfl (w_box rfl rfl) ?_
 rintro _ _ ⟨b2, hb2, rfl, rfl⟩
 refine Lw rfl (w_box rfl rfl) ?_
 rintro _ _ ⟨b3, hb3, rfl, rfl⟩
 refine Lw rfl (w_alloc zr90 rfl) ?_
 rintro _ _ ⟨b4, hb4, rfl, rfl⟩
 refine La rfl rfl rfl ?_
 refine L_then (kp [2, 3, 5, 6, 9, 10] rfl) ?_
 refine Vs rfl ?_
 refine Lr rfl (rlA (vs := [_, _, _, _, _, _]) ag28 sz28 rfl rfl rfl) ?_
 refine Lr rfl (rlA (vs := [_, _, _]) ag30 sz30 rfl rfl rfl) ?_
 refine Lm rfl rfl rfl ?_
 refine Lw rfl (w_callN rfl rfl rfl (fun w hg => fbegin_c v d l av pv qv _ w (hv.good hg) (hL.good hg) h)) ?_
 rintro _ _ ⟨_, rfl, _, xf, rfl, rfl⟩
 refine Lm rfl rfl rfl ?_
 iterate 2 refine Lp rfl (p_ext rfl rfl rfl) ?_
 iterate 2 refine La rfl rfl rfl ?_
 refine L_then (kp [3, 9, 10, 12, 13] rfl) ?_
 refine V_seq ?_
 refine V_block ?_
 refine Vs rfl ?_
 refine Lm rfl rfl rfl ?_
 refine Lp rfl (p_neq rfl rfl rfl) ?_
 refine La rfl rfl rfl ?_
 refine L_then (kp [3, 9, 10, 12, 13, 22] rfl) ?_
 refine V_cond rfl ?_ ?_
 ·intro c1; try simp only [td] at c1
  exfalso; simp_all; done
 intro c1; try simp only [td] at c1
 refine Vs rfl ?_
 refine Lm rfl rfl rfl ?_
 refine Lc rfl rfl rfl rfl (fun w hg => fout_c _ _ _ w) ?_
 refine Lm rfl rfl rfl ?_
 refine L_cases (d := 30) rfl ?_ ?_
 ·intro g1; have g1' := g1; try simp only [td] at g1'
  iterate 3 refine L_no rfl rfl rfl g1 ?_
  refine Lp rfl (p_pick_t rfl rfl g1 rfl) ?_
  refine La rfl rfl rfl ?_
  refine L_then (kp [3, 9, 10, 12, 27] rfl) ?_
  refine V_cond_t rfl rfl ?_
  refine Vs rfl ?_
  refine Lp rfl (p_build (r := [_, _, _, _, _, _]) pl90 zr90 rfl rfl rfl) ?_
  refine Ls (cs' := [_, _, _, _, _, _]) rfl sz90 rfl rfl rfl rfl rfl rfl rfl ?_
  refine La rfl rfl rfl ?_
  refine L_then (kp [10, 11] rfl) ?_
  refine V_ret (blk_r (then_r ?_))
  refine Leave.nil (.cellA (us := [_, _, _, _, _, _]) rfl ag90 sz90 (by repeat first | exact mH | apply mT) rfl (.tmp rfl .nil)) ?_
  first | (have e0 : forceE v d l tick s = 0 := forceE_3 h hot hfar; rw [forceP_0 e0, e0]; rfl) | (have e7 : forceE v d l tick s = 7 := forceE_2 h (by first | exact .inl (by assumption) | exact .inr (by assumption)); rw [forceP_e (by rw [e7]; decide), e7]; rfl)
 intro g1; have g1' := g1; try simp only [td] at g1'
 refine L_yes rfl rfl rfl g1 (X_rd (rlA (vs := [_, _, _, _, _, _, _, _, _, _, _, _]) ag54 sz54 rfl rfl rfl) ?_)
 refine L_yes rfl rfl rfl g1 (X_wr (w_callP rfl rfl rfl (fun w hg => fread_c _ w)) ?_)
 rintro _ _ ⟨rfl, rfl⟩
 refine L_yes rfl rfl rfl g1 (X_wr (w_callP rfl rfl rfl (fun w hg => ffar_c _ w)) ?_)
 rintro _ _ ⟨rfl, rfl⟩
 refine Lp rfl (p_pick_f rfl rfl g1 rfl) ?_
 refine La rfl rfl rfl ?_
 refine L_then (kp [3, 9, 10, 12, 27] rfl) ?_
 refine V_cond rfl ?_ ?_
 ·intro c2; try simp only [td] at c2
  refine Vs rfl ?_
  refine Lp rfl (p_build (r := [_, _, _, _, _, _]) pl90 zr90 rfl rfl rfl) ?_
  refine Ls (cs' := [_, _, _, _, _, _]) rfl sz90 rfl rfl rfl rfl rfl rfl rfl ?_
  refine La rfl rfl rfl ?_
  refine L_then (kp [10, 11] rfl) ?_
  refine V_ret (blk_r (then_r ?_))
  refine Leave.nil (.cellA (us := [_, _, _, _, _, _]) rfl ag90 sz90 (by repeat first | exact mH | apply mT) rfl (.tmp rfl .nil)) ?_
  first | (have e0 : forceE v d l tick s = 0 := forceE_3 h hot hfar; rw [forceP_0 e0, e0]; rfl) | (have e7 : forceE v d l tick s = 7 := forceE_2 h (by first | exact .inl (by assumption) | exact .inr (by assumption)); rw [forceP_e (by rw [e7]; decide), e7]; rfl)
 intro c2; try simp only [td] at c2
 refine V_skip (blk_n (then_n ?_))
 refine V_seq (V_draw (.rd 0 (.rd 1 (.rd 2 (.rd 4 (.wr2 3 [4, 0] (.wr2 5 [2, 1, 0] (.wr2 6 [4, 2, 1] (.wr 7 [4, 2, 1, 0] (.wr 8 [] .done)) 7 [4, 2, 1, 0] (.wr 6 [4, 2, 1] (.wr 8 [] .done))) 7 [4, 2, 1, 0] (.wr 5 [2, 1, 0] (.wr 6 [4, 2, 1] (.wr 8 [] .done)))) 7 [4, 2, 1, 0] (.wr 3 [4, 0] (.wr 5 [2, 1, 0] (.wr 6 [4, 2, 1] (.wr 8 [] .done))))))))) mixed (by kernel_rfl) rfl ?_)
 have hGG := asked_good h
 have hGV := hGG.1
 have hdd := hGG.2.1
 have hGB := hGG.2.2
 have hot : oP tick 0 3000 = false := by assumption
 have hfar : farS s = false := by assumption
 have hto := oP_false.1 hot
 iterate 3 refine Dm rfl rfl rfl rfl ?_
 refine Dr rfl rfl (rlA (vs := [_, _, _, _, _, _, _, _, _, _, _, _]) ag54 sz54 rfl rfl rfl) ?_
 refine D_wr2 rfl ?_ ?_
 ·refine (.go (E' := [(4, _)]) rfl (.plain rfl) (w_callP rfl rfl rfl (fun w hg => fbody_c v d l av pv qv _ hGV tick (by omega) xf _ _ w (hg.own (xf, _) (by repeat first | exact mH | apply mT)) (hv.good hg))) rfl ?_)
  rintro _ _ ⟨rfl, rfl⟩
  refine ⟨(.cons rfl (.plain rfl) (rlA (vs := [_, _, _, _, _, _, _, _, _, _, _, _]) ag54 sz54 rfl rfl rfl) .nil), ?_⟩
  refine D_wr2 rfl ?_ ?_
  ·refine (.go (E' := []) rfl (.plain rfl) (w_callP rfl rfl rfl (fun w hg => fread_c _ w)) rfl ?_)
   rintro _ _ ⟨rfl, rfl⟩
   refine ⟨.nil, ?_⟩
   refine D_wr2 rfl ?_ ?_
   ·refine (.go (E' := []) rfl (.plain rfl) (w_callP rfl rfl rfl (fun w hg => fforce_c v d l av pv qv _ hGV hdd hGB (nowT v tick) s (now_ph hGV tick) hfar xf _ _ w (hg.own (xf, _) (by repeat first | exact mH | apply mT)) (hv.good hg) (hL.good hg))) rfl ?_)
    rintro _ _ ⟨rfl, rfl⟩
    refine ⟨.nil, ?_⟩
    refine D_wr (.go (E' := []) rfl (.plain rfl) (w_alloc zr103 rfl) rfl ?_)
    rintro _ _ ⟨b6, hb6, rfl, rfl⟩
    refine ⟨.nil, ?_⟩
    refine D_wr (.go (E' := []) rfl (.plain rfl) (ws (cs' := [_, _, _, _, _, _]) sz103 rfl rfl rfl rfl rfl rfl rfl) rfl ?_)
    rintro _ _ ⟨rfl, rfl⟩
    refine ⟨.nil, ?_⟩
    refine D_then (kp [10, 14] rfl) ?_
    refine Vs rfl ?_
    refine Lp rfl (p_idxao ar103 rfl rfl rfl (by omega) (by omega)) ?_
    refine Lr rfl (rlA (vs := [_, _]) ag97 sz97 rfl rfl rfl) ?_
    refine Lp rfl (p_idxao ar103 rfl rfl rfl (by omega) (by omega)) ?_
    refine Lr rfl (rlA (vs := [_, _]) ag97 sz97 rfl rfl rfl) ?_
    refine Lp rfl (p_idxao ar103 rfl rfl rfl (by omega) (by omega)) ?_
    refine Lr rfl (rlA (vs := [_, _]) ag97 sz97 rfl rfl rfl) ?_
    refine Lp rfl (p_build (r := [_, _, _, _, _, _]) pl90 zr90 rfl rfl rfl) ?_
    refine Ls (cs' := [_, _, _, _, _, _]) rfl sz90 rfl rfl rfl rfl rfl rfl rfl ?_
    refine La rfl rfl rfl ?_
    refine L_then (kp [10, 11] rfl) ?_
    refine V_ret ?_
    refine Leave.nil (.cellA (us := [_, _, _, _, _, _]) rfl ag90 sz90 (by repeat first | exact mH | apply mT) rfl (.tmp rfl .nil)) ?_
    first | (have e0 : forceE v d l tick s = 0 := forceE_3 h hot hfar; rw [forceP_0 e0, e0]; rfl) | (have e7 : forceE v d l tick s = 7 := forceE_2 h (by first | exact .inl (by assumption) | exact .inr (by assumption)); rw [forceP_e (by rw [e7]; decide), e7]; rfl)
   refine (.go (E' := []) rfl (.plain rfl) (w_alloc zr103 rfl) rfl ?_)
   rintro _ _ ⟨b6, hb6, rfl, rfl⟩
   refine ⟨.nil, ?_⟩
   refine D_wr (.go (E' := []) rfl (.plain rfl) (w_callP rfl rfl rfl (fun w hg => fforce_c v d l av pv qv _ hGV hdd hGB (nowT v tick) s (now_ph hGV tick) hfar xf _ _ w (hg.own (xf, _) (by repeat first | exact mH | apply mT)) (hv.good hg) (hL.good hg))) rfl ?_)
   rintro _ _ ⟨rfl, rfl⟩
   refine ⟨.nil, ?_⟩
   refine D_wr (.go (E' := []) rfl (.plain rfl) (ws (cs' := [_, _, _, _, _, _]) sz103 rfl rfl rfl rfl rfl rfl rfl) rfl ?_)
   rintro _ _ ⟨rfl, rfl⟩
   refine ⟨.nil, ?_⟩
   refine D_then (kp [10, 14] rfl) ?_
   refine Vs rfl ?_
   refine Lp rfl (p_idxao ar103 rfl rfl rfl (by omega) (by omega)) ?_
   refine Lr rfl (rlA (vs := [_, _]) ag97 sz97 rfl rfl rfl) ?_
   refine Lp rfl (p_idxao ar103 rfl rfl rfl (by omega) (by omega)) ?_
   refine Lr rfl (rlA (vs := [_, _]) ag97 sz97 rfl rfl rfl) ?_
   refine Lp rfl (p_idxao ar103 rfl rfl rfl (by omega) (by omega)) ?_
   refine Lr rfl (rlA (vs := [_, _]) ag97 sz97 rfl rfl rfl) ?_
   refine Lp rfl (p_build (r := [_, _, _, _, _, _]) pl90 zr90 rfl rfl rfl) ?_
   refine Ls (cs' := [_, _, _, _, _, _]) rfl sz90 rfl rfl rfl rfl rfl rfl rfl ?_
   refine La rfl rfl rfl ?_
   refine L_then (kp [10, 11] rfl) ?_
   refine V_ret ?_
   refine Leave.nil (.cellA (us := [_, _, _, _, _, _]) rfl ag90 sz90 (by repeat first | exact mH | apply mT) rfl (.tmp rfl .nil)) ?_
   first | (have e0 : forceE v d l tick s = 0 := forceE_3 h hot hfar; rw [forceP_0 e0, e0]; rfl) | (have e7 : forceE v d l tick s = 7 := forceE_2 h (by first | exact .inl (by assumption) | exact .inr (by assumption)); rw [forceP_e (by rw [e7]; decide), e7]; rfl)
  refine (.go (E' := [(4, _)]) rfl (.plain rfl) (w_alloc zr103 rfl) rfl ?_)
  rintro _ _ ⟨b6, hb6, rfl, rfl⟩
  refine ⟨(.cons rfl (.plain rfl) (rlA (vs := [_, _, _, _, _, _, _, _, _, _, _, _]) ag54 sz54 rfl rfl rfl) .nil), ?_⟩
  refine D_wr (.go (E' := []) rfl (.plain rfl) (w_callP rfl rfl rfl (fun w hg => fread_c _ w)) rfl ?_)
  rintro _ _ ⟨rfl, rfl⟩
  refine ⟨.nil, ?_⟩
  refine D_wr (.go (E' := []) rfl (.plain rfl) (w_callP rfl rfl rfl (fun w hg => fforce_c v d l av pv qv _ hGV hdd hGB (nowT v tick) s (now_ph hGV tick) hfar xf _ _ w (hg.own (xf, _) (by repeat first | exact mH | apply mT)) (hv.good hg) (hL.good hg))) rfl ?_)
  rintro _ _ ⟨rfl, rfl⟩
  refine ⟨.nil, ?_⟩
  refine D_wr (.go (E' := []) rfl (.plain rfl) (ws (cs' := [_, _, _, _, _, _]) sz103 rfl rfl rfl rfl rfl rfl rfl) rfl ?_)
  rintro _ _ ⟨rfl, rfl⟩
  refine ⟨.nil, ?_⟩
  refine D_then (kp [10, 14] rfl) ?_
  refine Vs rfl ?_
  refine Lp rfl (p_idxao ar103 rfl rfl rfl (by omega) (by omega)) ?_
  refine Lr rfl (rlA (vs := [_, _]) ag97 sz97 rfl rfl rfl) ?_
  refine Lp rfl (p_idxao ar103 rfl rfl rfl (by omega) (by omega)) ?_
  refine Lr rfl (rlA (vs := [_, _]) ag97 sz97 rfl rfl rfl) ?_
  refine Lp rfl (p_idxao ar103 rfl rfl rfl (by omega) (by omega)) ?_
  refine Lr rfl (rlA (vs := [_, _]) ag97 sz97 rfl rfl rfl) ?_
  refine Lp rfl (p_build (r := [_, _, _, _, _, _]) pl90 zr90 rfl rfl rfl) ?_
  refine Ls (cs' := [_, _, _, _, _, _]) rfl sz90 rfl rfl rfl rfl rfl rfl rfl ?_
  refine La rfl rfl rfl ?_
  refine L_then (kp [10, 11] rfl) ?_
  refine V_ret ?_
  refine Leave.nil (.cellA (us := [_, _, _, _, _, _]) rfl ag90 sz90 (by repeat first | exact mH | apply mT) rfl (.tmp rfl .nil)) ?_
  first | (have e0 : forceE v d l tick s = 0 := forceE_3 h hot hfar; rw [forceP_0 e0, e0]; rfl) | (have e7 : forceE v d l tick s = 7 := forceE_2 h (by first | exact .inl (by assumption) | exact .inr (by assumption)); rw [forceP_e (by rw [e7]; decide), e7]; rfl)
 refine (.go (E' := [(4, _)]) rfl (.plain rfl) (w_alloc zr103 rfl) rfl ?_)
 rintro _ _ ⟨b6, hb6, rfl, rfl⟩
 refine ⟨(.cons rfl (.plain rfl) (rlA (vs := [_, _, _, _, _, _, _, _, _, _, _, _]) ag54 sz54 rfl rfl rfl) .nil), ?_⟩
 refine D_wr (.go (E' := [(4, _)]) rfl (.plain rfl) (w_callP rfl rfl rfl (fun w hg => fbody_c v d l av pv qv _ hGV tick (by omega) xf _ _ w (hg.own (xf, _) (by repeat first | exact mH | apply mT)) (hv.good hg))) rfl ?_)
 rintro _ _ ⟨rfl, rfl⟩
 refine ⟨(.cons rfl (.plain rfl) (rlA (vs := [_, _, _, _, _, _, _, _, _, _, _, _]) ag54 sz54 rfl rfl rfl) .nil), ?_⟩
 refine D_wr (.go (E' := []) rfl (.plain rfl) (w_callP rfl rfl rfl (fun w hg => fread_c _ w)) rfl ?_)
 rintro _ _ ⟨rfl, rfl⟩
 refine ⟨.nil, ?_⟩
 refine D_wr (.go (E' := []) rfl (.plain rfl) (w_callP rfl rfl rfl (fun w hg => fforce_c v d l av pv qv _ hGV hdd hGB (nowT v tick) s (now_ph hGV tick) hfar xf _ _ w (hg.own (xf, _) (by repeat first | exact mH | apply mT)) (hv.good hg) (hL.good hg))) rfl ?_)
 rintro _ _ ⟨rfl, rfl⟩
 refine ⟨.nil, ?_⟩
 refine D_wr (.go (E' := []) rfl (.plain rfl) (ws (cs' := [_, _, _, _, _, _]) sz103 rfl rfl rfl rfl rfl rfl rfl) rfl ?_)
 rintro _ _ ⟨rfl, rfl⟩
 refine ⟨.nil, ?_⟩
 refine D_then (kp [10, 14] rfl) ?_
 refine Vs rfl ?_
 refine Lp rfl (p_idxao ar103 rfl rfl rfl (by omega) (by omega)) ?_
 refine Lr rfl (rlA (vs := [_, _]) ag97 sz97 rfl rfl rfl) ?_
 refine Lp rfl (p_idxao ar103 rfl rfl rfl (by omega) (by omega)) ?_
 refine Lr rfl (rlA (vs := [_, _]) ag97 sz97 rfl rfl rfl) ?_
 refine Lp rfl (p_idxao ar103 rfl rfl rfl (by omega) (by omega)) ?_
 refine Lr rfl (rlA (vs := [_, _]) ag97 sz97 rfl rfl rfl) ?_
 refine Lp rfl (p_build (r := [_, _, _, _, _, _]) pl90 zr90 rfl rfl rfl) ?_
 refine Ls (cs' := [_, _, _, _, _, _]) rfl sz90 rfl rfl rfl rfl rfl rfl rfl ?_
 refine La rfl rfl rfl ?_
 refine L_then (kp [10, 11] rfl) ?_
 refine V_ret ?_
 refine Leave.nil (.cellA (us := [_, _, _, _, _, _]) rfl ag90 sz90 (by repeat first | exact mH | apply mT) rfl (.tmp rfl .nil)) ?_
 first | (have e0 : forceE v d l tick s = 0 := forceE_3 h hot hfar; rw [forceP_0 e0, e0]; rfl) | (have e7 : forceE v d l tick s = 7 := forceE_2 h (by first | exact .inl (by assumption) | exact .inr (by assumption)); rw [forceP_e (by rw [e7]; decide), e7]; rfl)
theorem fForce_c (v : Veh) (d : Dir) (l : List Fl.Band) (av pv qv bv : Value) (w : World) (hv : VehR w (VehV v av pv qv) v) (hl : BdsR w bv l) (tick : Int) (s : St) : FnP Try.prog 33 [VehV v av pv qv, .agg #[.int .i64 d.x, .int .i64 d.y, .int .i64 d.z], bv, .int .i64 tick, .agg #[.int .i64 s.p.x.lo, .int .i64 s.p.x.hi, .int .i64 s.p.y.lo, .int .i64 s.p.y.hi, .int .i64 s.p.z.lo, .int .i64 s.p.z.hi, .int .i64 s.v.x.lo, .int .i64 s.v.x.hi, .int .i64 s.v.y.lo, .int .i64 s.v.y.hi, .int .i64 s.v.z.lo, .int .i64 s.v.z.hi]] w (.tuple #[.agg #[.int .i64 (forceP v d l tick s).x.lo, .int .i64 (forceP v d l tick s).x.hi, .int .i64 (forceP v d l tick s).y.lo, .int .i64 (forceP v d l tick s).y.hi, .int .i64 (forceP v d l tick s).z.lo, .int .i64 (forceP v d l tick s).z.hi], .int .i64 (forceE v d l tick s)]) := by
 by_cases h : askedF v d l = 0
 ·exact fForceO_c v d l av pv qv bv w hv hl tick s h
 exact fForceE_c v d l av pv qv bv w hv hl tick s h

end Go.Proofs.Ytbncegfgjbdheaa

/- Ytbncegfgjbdheaa: the states, one after another. -/
set_option linter.all false
namespace Go.Proofs.Ytbncegfgjbdheaa
open Go.Vc Go.Tk Go.Fl
set_option maxRecDepth 100000
theorem fstates_c (bf fid : Nat) (fst cap : Array Value) (s0 : St) (w : World) : FnC Try.prog 56 [.pointer (some ⟨bf, 0, none⟩), .agg #[.int .i64 s0.p.x.lo, .int .i64 s0.p.x.hi, .int .i64 s0.p.y.lo, .int .i64 s0.p.y.hi, .int .i64 s0.p.z.lo, .int .i64 s0.p.z.hi, .int .i64 s0.v.x.lo, .int .i64 s0.v.x.hi, .int .i64 s0.v.y.lo, .int .i64 s0.v.y.hi, .int .i64 s0.v.z.lo, .int .i64 s0.v.z.hi], .func (.func fid) fst cap] w fun u w' => ∃ Hc, Vc.Good w [] Hc w' ∧ ∃ c1 c2 c3, u = .func (.func 86) #[] #[.pointer (some ⟨c2, 0, none⟩), .pointer (some ⟨c1, 0, none⟩), .pointer (some ⟨c3, 0, none⟩)] ∧ Hc = [(c3, .cells #[.func (.func fid) fst cap] 122), (c2, .cells #[.int .i64 s0.p.x.lo, .int .i64 s0.p.x.hi, .int .i64 s0.p.y.lo, .int .i64 s0.p.y.hi, .int .i64 s0.p.z.lo, .int .i64 s0.p.z.hi, .int .i64 s0.v.x.lo, .int .i64 s0.v.x.hi, .int .i64 s0.v.y.lo, .int .i64 s0.v.y.hi, .int .i64 s0.v.z.lo, .int .i64 s0.v.z.hi] 121), (c1, .cells #[.pointer (some ⟨bf, 0, none⟩)] 112)] := by
 refine fn_new Try.func56 rfl (by kernel_rfl) Try.ntmps56 Try.results56 rfl ?_
 refine Vs rfl ?_
 refine Lw rfl (w_box rfl rfl) ?_
 rintro _ _ ⟨b1, hb1, rfl, rfl⟩
 refine Lw rfl (w_box rfl rfl) ?_
 rintro _ _ ⟨b2, hb2, rfl, rfl⟩
 refine Lw rfl (w_box rfl rfl) ?_
 rintro _ _ ⟨b3, hb3, rfl, rfl⟩
 refine La rfl rfl rfl ?_
 refine L_then (kp [3, 4, 5] rfl) ?_
 refine Vs rfl ?_
 refine Lp rfl (p_func rfl rfl rfl) ?_
 refine La rfl rfl rfl ?_
 refine L_then (kp [6] rfl) ?_
 refine V_ret ?_
 refine Leave.nil (.tmp rfl .nil) ?_
 exact ⟨_, HSub.refl _, _, _, _, rfl, rfl⟩
set_option maxHeartbeats 4000000 in
theorem fstates1_c (v : Veh) (d : Dir) (l : List Fl.Band) (av pv qv bv : Value) (hV : GoodV v) (hd : dirE d = 0) (hB : GoodB l) (ph : Nat → Phase) (hph : ∀ n, PhB (ph n)) (s0 : St) (N : Nat) (hN : N ≤ 3000) (bf ty : Nat) (fr : Nat × Nat) (fid : Nat) (fst cap : Array Value) (w0 : World) (Mo : List Nat) (lp c1 c2 c3 : Nat) (I E : List (List Value) → Heap → Prop) (hW : ∀ H w, Vc.Good w0 Mo H w → w.heap[bf]? = some (.cells (flC v av pv qv d bv).toArray ty fr) ∧ VehR w (VehV v av pv qv) v ∧ BdsR w bv l) (hof : ∀ done Hs w, I done Hs → Vc.Good w0 Mo Hs w → ∀ t : Nat, t ≤ 3000 → FnP Try.prog fid (fst.toList ++ [.int .i64 (t : Int)] ++ cap.toList) w (.agg #[.int .i64 (pushS (ph t)).lo, .int .i64 (pushS (ph t)).hi, .int .i64 (ph t).mass.lo, .int .i64 (ph t).mass.hi, .int .i64 (ph t).drag.lo, .int .i64 (ph t).drag.hi, .int .i64 (ph t).tilt.x.lo, .int .i64 (ph t).tilt.x.hi, .int .i64 (ph t).tilt.y.lo, .int .i64 (ph t).tilt.y.hi, .int .i64 (ph t).tilt.z.lo, .int .i64 (ph t).tilt.z.hi])) (hY : RoundX Try.prog w0 Mo lp (fun done x => done.length ≤ N ∧ farS (Fl.runT v d l ph s0 done.length) = false ∧ x = [.int .i64 (done.length : Int), .agg (St.cells (Fl.runT v d l ph s0 done.length)).toArray]) I E) (hI : ∀ done Hs, I done Hs → done.length ≤ N ∧ (c1, Obj.cells #[.pointer (some ⟨bf, 0, none⟩)] 112) ∈ Hs ∧ (c3, Obj.cells #[.func (.func fid) fst cap] 122) ∈ Hs) (w : World) (Hs0 : Heap) (h0 : I [] Hs0) (hg0 : Vc.Good w0 Mo ((c2, .cells #[.int .i64 s0.p.x.lo, .int .i64 s0.p.x.hi, .int .i64 s0.p.y.lo, .int .i64 s0.p.y.hi, .int .i64 s0.p.z.lo, .int .i64 s0.p.z.hi, .int .i64 s0.v.x.lo, .int .i64 s0.v.x.hi, .int .i64 s0.v.y.lo, .int .i64 s0.v.y.hi, .int .i64 s0.v.z.lo, .int .i64 s0.v.z.hi] 121) :: Hs0) w) : FnX Try.prog 86 [.func (.yield lp) #[] #[], .pointer (some ⟨c2, 0, none⟩), .pointer (some ⟨c1, 0, none⟩), .pointer (some ⟨c3, 0, none⟩)] w (fun _ w' => ∃ Hs, Vc.Good w0 Mo Hs w' ∧ ∃ done, E done Hs) (fun ch w' => ∃ Hs, Vc.Good w0 Mo Hs w' ∧ ∃ done, ch = [{ v := .iface 154 (.agg #[]), recovered := false }] ∧ farS (Fl.runT v d l ph s0 done.length) = true ∧ I done Hs) := by
 have hm0 := hI _ _ h0
 obtain ⟨_, hm1, hm3⟩ := hm0
 refine fn_overX (M := Mo) (H0 := (c2, _) :: Hs0) Try.func86 rfl (by kernel_rfl) Try.ntmps86 Try.results86 rfl hg0 ?_
 refine Vs rfl ?_
 refine La rfl rfl rfl ?_
 refine L_then (kp [0, 1, 2, 3, 5] rfl) ?_
 refine V_block ?_
 refine V_loop1 (γ := Nat × Heap) (kp [0, 1, 2, 3] rfl) (fun (n, Hs) => [(5, .int .i64 (n : Int))]) (fun (n, Hs) => (c2, .cells #[.int .i64 (Fl.runT v d l ph s0 n).p.x.lo, .int .i64 (Fl.runT v d l ph s0 n).p.x.hi, .int .i64 (Fl.runT v d l ph s0 n).p.y.lo, .int .i64 (Fl.runT v d l ph s0 n).p.y.hi, .int .i64 (Fl.runT v d l ph s0 n).p.z.lo, .int .i64 (Fl.runT v d l ph s0 n).p.z.hi, .int .i64 (Fl.runT v d l ph s0 n).v.x.lo, .int .i64 (Fl.runT v d l ph s0 n).v.x.hi, .int .i64 (Fl.runT v d l ph s0 n).v.y.lo, .int .i64 (Fl.runT v d l ph s0 n).v.y.hi, .int .i64 (Fl.runT v d l ph s0 n).v.z.lo, .int .i64 (Fl.runT v d l ph s0 n).v.z.hi] 121) :: Hs) (fun (n, Hs) => I (statesV (Fl.runT v d l ph s0) n) Hs) (fun (n, Hs) => N + 1 - n) ((0, Hs0)) (.cons rfl (.nil _)) (by repeat (first | exact List.Sublist.refl _ | apply List.Sublist.cons_cons | apply List.Sublist.cons)) (h0) ?_
 rintro ⟨n, Hs⟩ hi
 have hik := hi
 dsimp only at hik ⊢
 obtain ⟨hnN, hm1, hm3⟩ := hI _ _ hik
 rw [statesV_len] at hnN
 refine V_seq ?_
 refine V_block ?_
 refine V_seq ?_
 refine Vs rfl ?_
 refine Lr rfl (r_loadA (vs := [_, _, _, _, _, _, _, _, _, _, _, _]) ag121 sz121 rfl rfl (by repeat first | exact hm1 | exact hm3 | exact mH | apply mT) rfl) ?_
 refine Lc rfl rfl rfl rfl (fun w hg => ffar_c (Fl.runT v d l ph s0 n) w) ?_
 refine L_then (kp [0, 1, 2, 3, 5, 9] rfl) ?_
 refine V_cond rfl ?_ ?_
 ·intro c1; try simp only [td] at c1
  have hfar := c1
  refine V_region rfl ?_
  refine Lp rfl (p_build (r := []) pl154 zr154 rfl rfl rfl) ?_
  refine Lp rfl (p_makeS un154 rfl rfl) ?_
  refine L_go rfl (X_panicI rfl rfl (then_p (blk_p (then_p (then_p (blk_p ?_))))))
  refine LeaveP.nil ?_
  exact ⟨Hs, (by (try dsimp only); repeat (first | exact HSub.nil _ | refine HSub.take (by repeat first | exact Take.head | apply Take.tail) ?_ | exact HSub.refl _ | refine HSub.drop ?_ | refine HSub.app ?_)), _, rfl, by rw [statesV_len]; exact hfar, hik⟩
 intro c1; try simp only [td] at c1
 have hfar := c1
 refine V_skip (then_n ?_)
 refine V_seq ?_
 refine Vs rfl ?_
 iterate 2 refine Lm rfl rfl rfl ?_
 refine Lr rfl (r_loadA (vs := [_, _, _, _, _, _, _, _, _, _, _, _]) ag121 sz121 rfl rfl (by repeat first | exact hm1 | exact hm3 | exact mH | apply mT) rfl) ?_
 refine Lw rfl (w_yieldX (own := [_]) rfl rfl rfl hY ⟨by rw [statesV_len]; exact hnN, by rw [statesV_len]; exact hfar, by rw [statesV_len]; rfl⟩ hik rfl) ?_
 rintro _ _ ⟨Hs1, go, rfl, rfl, hgo⟩
 refine Lp rfl (p_not rfl rfl) ?_
 refine L_then (kp [0, 1, 2, 3, 5, 16] rfl) ?_
 refine V_cond rfl ?_ ?_
 ·intro c2; try simp only [td] at c2
  have hgo' := hgo.resolve_left (by rintro ⟨h, _⟩; simp_all)
  refine V_ret (then_r (blk_r (then_r (then_r (blk_r ?_)))))
  refine Leave.nil .nil ?_
  exact ⟨Hs1, (by (try dsimp only); repeat (first | exact HSub.nil _ | refine HSub.take (by repeat first | exact Take.head | apply Take.tail) ?_ | exact HSub.refl _ | refine HSub.drop ?_ | refine HSub.app ?_)), _, hgo'.2⟩
 intro c2; try simp only [td] at c2
 have hgo := (hgo.resolve_right (by rintro ⟨h, _⟩; simp_all)).2
 have hnm := (hI _ _ hgo).2
 obtain ⟨hm1, hm3⟩ := hnm
 have hnN2 := (hI _ _ hgo).1
 rw [List.length_append, statesV_len] at hnN2
 simp only [List.length_cons, List.length_nil] at hnN2
 refine V_skip (then_n ?_)
 refine V_draw (.rd 0 (.rd 1 (.rd 2 (.rd 4 (.wr 3 [4, 0] (.wr 5 [2, 1] (.wr 6 [] .done))))))) mixed (by kernel_rfl) rfl ?_
 refine Dr rfl rfl (r_load ag112 rfl rfl (by repeat first | exact hm1 | exact hm3 | exact mH | apply mT) rfl) ?_
 refine Dr rfl rfl (r_load ag122 rfl rfl (by repeat first | exact hm1 | exact hm3 | exact mH | apply mT) rfl) ?_
 refine Dm rfl rfl rfl rfl ?_
 refine Dr rfl rfl (r_loadA (vs := [_, _, _, _, _, _, _, _, _, _, _, _]) ag121 sz121 rfl rfl (by repeat first | exact hm1 | exact hm3 | exact mH | apply mT) rfl) ?_
 refine D_wr (.go (E' := [(4, _), (0, _)]) rfl (.plain rfl) (w_callB rfl rfl rfl (fun w hg => hof _ _ w hgo (hg.sub (List.sublist_cons_self _ _)) n (by omega))) rfl ?_)
 rintro _ _ ⟨rfl, rfl⟩
 refine ⟨(.cons rfl (.plain rfl) (r_loadA (vs := [_, _, _, _, _, _, _, _, _, _, _, _]) ag121 sz121 rfl rfl (by repeat first | exact hm1 | exact hm3 | exact mH | apply mT) rfl) (.cons rfl (.plain rfl) (r_load ag112 rfl rfl (by repeat first | exact hm1 | exact hm3 | exact mH | apply mT) rfl) .nil)), ?_⟩
 refine D_wr (.go (E' := []) rfl (.plain rfl) (w_callP rfl rfl rfl (fun w hg => fnext_c v d l av pv qv bv hV hd hB (ph n) (Fl.runT v d l ph s0 n) (hph n) hfar bf _ _ w (hW _ w hg).1 (hW _ w hg).2.1 (hW _ w hg).2.2)) rfl ?_)
 rintro _ _ ⟨rfl, rfl⟩
 refine ⟨.nil, ?_⟩
 refine D_wr (.go (E' := []) rfl (.plain rfl) (ws (cs' := [_, _, _, _, _, _, _, _, _, _, _, _]) sz121 rfl rfl rfl rfl rfl rfl rfl) rfl ?_)
 rintro _ _ ⟨rfl, rfl⟩
 refine ⟨.nil, ?_⟩
 refine D_keep (kp [0, 1, 2, 3, 5] rfl) (blk_n (then_n ?_))
 refine V_region rfl ?_
 refine Lm rfl rfl rfl ?_
 first | refine Lp rfl (p_add' rfl rfl rfl (by unfold InI; omega)) ?_ | refine Lp rfl (p_add rfl rfl rfl) ?_
 refine La rfl rfl rfl ?_
 refine L_keep (kp [0, 1, 2, 3, 5] rfl) (then_n ?_)
 refine ⟨(n + 1, Hs1), ?_, ?_, (.cons rfl (.cons rfl (.cons rfl (.cons rfl (.cons rfl (.nil _)))))), (by repeat (first | exact List.Sublist.refl _ | apply List.Sublist.cons_cons | apply List.Sublist.cons | apply List.sublist_append_of_sublist_right)), rfl⟩
 ·rw [statesV_s]; exact hgo
 dsimp only; omega

end Go.Proofs.Ytbncegfgjbdheaa

/- Ytbncegfgjbdheaa: the vehicle at a tick. -/
set_option linter.all false
namespace Go.Proofs.Ytbncegfgjbdheaa
open Go.Vc Go.Tk Go.Fl
set_option maxRecDepth 100000
set_option maxHeartbeats 4000000 in
theorem fup_c (v : Veh) (d : Dir) (l : List Fl.Band) (av pv qv bv : Value) (hV : GoodV v) (hd : dirE d = 0) (hB : GoodB l) (tick : Int) (ht : 0 ≤ tick ∧ tick ≤ 3000) (b ty : Nat) (fr : Nat × Nat) (w : World) (hb : w.heap[b]? = some (.cells (flC v av pv qv d bv).toArray ty fr)) (hv : VehR w (VehV v av pv qv) v) (hl : BdsR w bv l) : FnX Try.prog 90 [.pointer (some ⟨b, 0, none⟩), .int .i64 tick] w (fun u w' => ∃ Hc, Vc.Good w [] Hc w' ∧ u = .agg #[.int .i64 (Fl.runT v d l (fun n => nowT v n) Fl.stZ tick.toNat).p.x.lo, .int .i64 (Fl.runT v d l (fun n => nowT v n) Fl.stZ tick.toNat).p.x.hi, .int .i64 (Fl.runT v d l (fun n => nowT v n) Fl.stZ tick.toNat).p.y.lo, .int .i64 (Fl.runT v d l (fun n => nowT v n) Fl.stZ tick.toNat).p.y.hi, .int .i64 (Fl.runT v d l (fun n => nowT v n) Fl.stZ tick.toNat).p.z.lo, .int .i64 (Fl.runT v d l (fun n => nowT v n) Fl.stZ tick.toNat).p.z.hi, .int .i64 (Fl.runT v d l (fun n => nowT v n) Fl.stZ tick.toNat).v.x.lo, .int .i64 (Fl.runT v d l (fun n => nowT v n) Fl.stZ tick.toNat).v.x.hi, .int .i64 (Fl.runT v d l (fun n => nowT v n) Fl.stZ tick.toNat).v.y.lo, .int .i64 (Fl.runT v d l (fun n => nowT v n) Fl.stZ tick.toNat).v.y.hi, .int .i64 (Fl.runT v d l (fun n => nowT v n) Fl.stZ tick.toNat).v.z.lo, .int .i64 (Fl.runT v d l (fun n => nowT v n) Fl.stZ tick.toNat).v.z.hi] ∧ ∀ j, j ≤ tick.toNat → farS (Fl.runT v d l (fun n => nowT v n) Fl.stZ j) = false) (fun ch w' => ∃ Hc, Vc.Good w [] Hc w' ∧ ch = [{ v := .iface 154 (.agg #[]), recovered := false }] ∧ ∃ j, j ≤ tick.toNat ∧ farS (Fl.runT v d l (fun n => nowT v n) Fl.stZ j) = true) := by
 refine fn_newX Try.func90 rfl (by kernel_rfl) Try.ntmps90 Try.results90 rfl ?_
 refine Vs rfl ?_
 refine Lw rfl (w_box rfl rfl) ?_
 rintro _ _ ⟨b1, hb1, rfl, rfl⟩
 refine Lw rfl (w_alloc zr121 rfl) ?_
 rintro _ _ ⟨b2, hb2, rfl, rfl⟩
 refine L_then (kp [0, 3, 4] rfl) ?_
 refine V_seq ?_
 refine Vs rfl ?_
 refine Lm rfl rfl rfl ?_
 refine Lp rfl (p_build (r := [_, _, _, _, _, _, _, _, _, _, _, _]) pl121 zr121 rfl rfl rfl) ?_
 refine Lm rfl rfl rfl ?_
 refine Lp rfl (p_func rfl rfl rfl) ?_
 refine Lw rfl (w_callN rfl rfl rfl (fun w hg => fstates_c b _ #[_] #[] Fl.stZ w)) ?_
 rintro _ _ ⟨_, rfl, _, y1, y2, y3, rfl, rfl⟩
 refine L_then (kp [3, 4, 11] rfl) ?_
 refine V_block ?_
 refine V_hs (H' := [(y3, .cells #[.func (.func 57) #[.pointer (some ⟨b, 0, none⟩)] #[]] 122), (y1, .cells #[.pointer (some ⟨b, 0, none⟩)] 112), (b2, .cells #[.int .i64 0, .int .i64 0, .int .i64 0, .int .i64 0, .int .i64 0, .int .i64 0, .int .i64 0, .int .i64 0, .int .i64 0, .int .i64 0, .int .i64 0, .int .i64 0] 121), (b1, .cells #[.int .i64 tick] 3), (y2, .cells #[.int .i64 0, .int .i64 0, .int .i64 0, .int .i64 0, .int .i64 0, .int .i64 0, .int .i64 0, .int .i64 0, .int .i64 0, .int .i64 0, .int .i64 0, .int .i64 0] 121)]) (by (try dsimp only); repeat (first | exact HSub.nil _ | refine HSub.take (by repeat first | exact Take.head | apply Take.tail) ?_ | exact HSub.refl _ | refine HSub.drop ?_ | refine HSub.app ?_)) ?_
 refine V_rangeX (H0 := [(y3, .cells #[.func (.func 57) #[.pointer (some ⟨b, 0, none⟩)] #[]] 122), (y1, .cells #[.pointer (some ⟨b, 0, none⟩)] 112), (b2, .cells #[.int .i64 0, .int .i64 0, .int .i64 0, .int .i64 0, .int .i64 0, .int .i64 0, .int .i64 0, .int .i64 0, .int .i64 0, .int .i64 0, .int .i64 0, .int .i64 0] 121), (b1, .cells #[.int .i64 tick] 3)]) (Hi := [(y2, .cells #[.int .i64 0, .int .i64 0, .int .i64 0, .int .i64 0, .int .i64 0, .int .i64 0, .int .i64 0, .int .i64 0, .int .i64 0, .int .i64 0, .int .i64 0, .int .i64 0] 121)]) rfl (kp [3, 4, 11] rfl) rfl rfl (fun done x => done.length ≤ tick.toNat ∧ farS (Fl.runT v d l (fun n => nowT v n) Fl.stZ done.length) = false ∧ x = [.int .i64 (done.length : Int), .agg (St.cells (Fl.runT v d l (fun n => nowT v n) Fl.stZ done.length)).toArray]) (fun done Hr => ∃ s : St, Hr = [(y3, .cells #[.func (.func 57) #[.pointer (some ⟨b, 0, none⟩)] #[]] 122), (y1, .cells #[.pointer (some ⟨b, 0, none⟩)] 112), (b2, .cells #[.int .i64 s.p.x.lo, .int .i64 s.p.x.hi, .int .i64 s.p.y.lo, .int .i64 s.p.y.hi, .int .i64 s.p.z.lo, .int .i64 s.p.z.hi, .int .i64 s.v.x.lo, .int .i64 s.v.x.hi, .int .i64 s.v.y.lo, .int .i64 s.v.y.hi, .int .i64 s.v.z.lo, .int .i64 s.v.z.hi] 121), (b1, .cells #[.int .i64 tick] 3)] ∧ done.length ≤ tick.toNat ∧ ∀ j, j < done.length → farS (Fl.runT v d l (fun n => nowT v n) Fl.stZ j) = false) (fun _ jc Hr => jc = .exit 0 ∧ Hr = [(y3, .cells #[.func (.func 57) #[.pointer (some ⟨b, 0, none⟩)] #[]] 122), (y1, .cells #[.pointer (some ⟨b, 0, none⟩)] 112), (b2, .cells #[.int .i64 (Fl.runT v d l (fun n => nowT v n) Fl.stZ tick.toNat).p.x.lo, .int .i64 (Fl.runT v d l (fun n => nowT v n) Fl.stZ tick.toNat).p.x.hi, .int .i64 (Fl.runT v d l (fun n => nowT v n) Fl.stZ tick.toNat).p.y.lo, .int .i64 (Fl.runT v d l (fun n => nowT v n) Fl.stZ tick.toNat).p.y.hi, .int .i64 (Fl.runT v d l (fun n => nowT v n) Fl.stZ tick.toNat).p.z.lo, .int .i64 (Fl.runT v d l (fun n => nowT v n) Fl.stZ tick.toNat).p.z.hi, .int .i64 (Fl.runT v d l (fun n => nowT v n) Fl.stZ tick.toNat).v.x.lo, .int .i64 (Fl.runT v d l (fun n => nowT v n) Fl.stZ tick.toNat).v.x.hi, .int .i64 (Fl.runT v d l (fun n => nowT v n) Fl.stZ tick.toNat).v.y.lo, .int .i64 (Fl.runT v d l (fun n => nowT v n) Fl.stZ tick.toNat).v.y.hi, .int .i64 (Fl.runT v d l (fun n => nowT v n) Fl.stZ tick.toNat).v.z.lo, .int .i64 (Fl.runT v d l (fun n => nowT v n) Fl.stZ tick.toNat).v.z.hi] 121), (b1, .cells #[.int .i64 tick] 3)] ∧ ∀ j, j ≤ tick.toNat → farS (Fl.runT v d l (fun n => nowT v n) Fl.stZ j) = false) (fun _ => False) (fun done ch => ch = [{ v := .iface 154 (.agg #[]), recovered := false }] ∧ farS (Fl.runT v d l (fun n => nowT v n) Fl.stZ done.length) = true) ((by rintro done vs ⟨_, _, rfl⟩; rfl)) (by repeat (first | exact List.nil_sublist _ | exact List.Sublist.refl _ | apply List.Sublist.cons_cons | apply List.Sublist.cons)) (⟨Fl.stZ, rfl, Nat.zero_le _, fun j hj => absurd hj (Nat.not_lt_zero _)⟩) ?_ ?_ ?_ ?_ ?_
 ·intro l1 D1 r1 done vs Hr own hp hJ
  obtain ⟨hdl, hfar, rfl⟩ := hp
  obtain ⟨s, rfl, hdn, hall⟩ := hJ
  refine Vs rfl ?_
  refine La rfl rfl rfl ?_
  refine L_then (kp [3, 4, 5, 11, 13] rfl) ?_
  refine V_region rfl ?_
  refine Lw rfl (w_alloc zr121 rfl) ?_
  rintro _ _ ⟨b4, hb4, rfl, rfl⟩
  refine Ls (cs' := [_, _, _, _, _, _, _, _, _, _, _, _]) rfl sz121 rfl rfl rfl rfl rfl rfl rfl ?_
  refine L_keep (kp [3, 4, 5, 6, 11] rfl) ?_
  refine asgI (by repeat first | exact .head | apply SetAt.tail) ?_
  refine V_block ?_
  refine Vs rfl ?_
  refine Lr rfl (rlA (vs := [_, _, _, _, _, _, _, _, _, _, _, _]) ag121 sz121 rfl rfl rfl) ?_
  refine Ls (cs' := [_, _, _, _, _, _, _, _, _, _, _, _]) rfl sz121 rfl rfl rfl rfl rfl rfl rfl ?_
  refine L_then (kp [3, 4, 5] rfl) ?_
  refine Vs rfl ?_
  refine Lm rfl rfl rfl ?_
  refine Lr rfl (rl ag3 rfl rfl rfl) ?_
  refine Lp rfl (p_eql rfl rfl rfl) ?_
  refine L_then (kp [4, 17] rfl) ?_
  refine V_cond rfl ?_ ?_
  ·intro c1; try simp only [td] at c1
   refine V_exit (blk_o rfl ?_)
   refine endX_e (by repeat first | exact .head | apply SetAt.tail) ?_
   refine ⟨[(y3, .cells #[.func (.func 57) #[.pointer (some ⟨b, 0, none⟩)] #[]] 122), (y1, .cells #[.pointer (some ⟨b, 0, none⟩)] 112), (b2, .cells #[.int .i64 (Fl.runT v d l (fun n => nowT v n) Fl.stZ done.length).p.x.lo, .int .i64 (Fl.runT v d l (fun n => nowT v n) Fl.stZ done.length).p.x.hi, .int .i64 (Fl.runT v d l (fun n => nowT v n) Fl.stZ done.length).p.y.lo, .int .i64 (Fl.runT v d l (fun n => nowT v n) Fl.stZ done.length).p.y.hi, .int .i64 (Fl.runT v d l (fun n => nowT v n) Fl.stZ done.length).p.z.lo, .int .i64 (Fl.runT v d l (fun n => nowT v n) Fl.stZ done.length).p.z.hi, .int .i64 (Fl.runT v d l (fun n => nowT v n) Fl.stZ done.length).v.x.lo, .int .i64 (Fl.runT v d l (fun n => nowT v n) Fl.stZ done.length).v.x.hi, .int .i64 (Fl.runT v d l (fun n => nowT v n) Fl.stZ done.length).v.y.lo, .int .i64 (Fl.runT v d l (fun n => nowT v n) Fl.stZ done.length).v.y.hi, .int .i64 (Fl.runT v d l (fun n => nowT v n) Fl.stZ done.length).v.z.lo, .int .i64 (Fl.runT v d l (fun n => nowT v n) Fl.stZ done.length).v.z.hi] 121), (b1, .cells #[.int .i64 tick] 3)], (by (try dsimp only); repeat (first | exact HSub.nil _ | refine HSub.take (by repeat first | exact Take.head | apply Take.tail) ?_ | exact HSub.refl _ | refine HSub.drop ?_ | refine HSub.app ?_)), ?_⟩
   have ed : done.length = tick.toNat := by omega
   rw [ed] at hall hfar
   refine ⟨rfl, by rw [ed], fun j hj => ?_⟩
   by_cases e : j < tick.toNat
   ·exact hall j e
   have ej : j = tick.toNat := by omega
   rw [ej]; exact hfar
  intro c1; try simp only [td] at c1
  refine V_skip (blk_n ?_)
  refine endX_n (by repeat first | exact .head | apply SetAt.tail) ?_
  refine ⟨[(y3, .cells #[.func (.func 57) #[.pointer (some ⟨b, 0, none⟩)] #[]] 122), (y1, .cells #[.pointer (some ⟨b, 0, none⟩)] 112), (b2, .cells #[.int .i64 (Fl.runT v d l (fun n => nowT v n) Fl.stZ done.length).p.x.lo, .int .i64 (Fl.runT v d l (fun n => nowT v n) Fl.stZ done.length).p.x.hi, .int .i64 (Fl.runT v d l (fun n => nowT v n) Fl.stZ done.length).p.y.lo, .int .i64 (Fl.runT v d l (fun n => nowT v n) Fl.stZ done.length).p.y.hi, .int .i64 (Fl.runT v d l (fun n => nowT v n) Fl.stZ done.length).p.z.lo, .int .i64 (Fl.runT v d l (fun n => nowT v n) Fl.stZ done.length).p.z.hi, .int .i64 (Fl.runT v d l (fun n => nowT v n) Fl.stZ done.length).v.x.lo, .int .i64 (Fl.runT v d l (fun n => nowT v n) Fl.stZ done.length).v.x.hi, .int .i64 (Fl.runT v d l (fun n => nowT v n) Fl.stZ done.length).v.y.lo, .int .i64 (Fl.runT v d l (fun n => nowT v n) Fl.stZ done.length).v.y.hi, .int .i64 (Fl.runT v d l (fun n => nowT v n) Fl.stZ done.length).v.z.lo, .int .i64 (Fl.runT v d l (fun n => nowT v n) Fl.stZ done.length).v.z.hi] 121), (b1, .cells #[.int .i64 tick] 3)], (by (try dsimp only); repeat (first | exact HSub.nil _ | refine HSub.take (by repeat first | exact Take.head | apply Take.tail) ?_ | exact HSub.refl _ | refine HSub.drop ?_ | refine HSub.app ?_)), ?_⟩
  have hl : (done ++ [[Value.int .i64 (done.length : Int), Value.agg (St.cells (Fl.runT v d l (fun n => nowT v n) Fl.stZ done.length)).toArray]]).length = done.length + 1 := by simp
  refine ⟨_, rfl, by rw [hl]; omega, fun j hj => ?_⟩
  rw [hl] at hj
  by_cases e : j < done.length
  ·exact hall j e
  have ej : j = done.length := by omega
  rw [ej]; exact hfar
 ·intro l1 D1 r1 w1 hY hgi
  simp only [List.cons_append, List.nil_append] at hgi
  refine (fstates1_c v d l av pv qv bv hV hd hB (fun n => nowT v n) (fun n => now_ph hV n) Fl.stZ tick.toNat (by omega) b ty fr 57 #[.pointer (some ⟨b, 0, none⟩)] #[] w [] l1 y1 y2 y3 _ _ (fun H w' hg => ⟨hg.toExt.heap hb, hv.good hg, hl.good hg⟩) (fun _ H w' _ hg t ht => fbody_c v d l av pv qv bv hV t (by omega) b _ _ w' (hg.toExt.heap hb) (hv.good hg)) hY ?_ w1 _ ⟨_, rfl, Fl.stZ, rfl, Nat.zero_le _, fun j hj => absurd hj (Nat.not_lt_zero _)⟩ (hgi.hsub (by (try dsimp only); repeat (first | exact HSub.nil _ | refine HSub.take (by repeat first | exact Take.head | apply Take.tail) ?_ | exact HSub.refl _ | refine HSub.drop ?_ | refine HSub.app ?_)))).mono ?_ ?_
  ·rintro done _ ⟨Hr, rfl, s, rfl, hdn, hall⟩
   exact ⟨hdn, .tail _ (.tail _ (.tail _ (.head _))), .tail _ (.tail _ (.head _))⟩
  ·rintro _ w2 ⟨Hs, hg, done, h⟩
   exact ⟨Hs, hg, done, .inr h⟩
  rintro ch w2 ⟨Hs, hg, done, h1, h2, h3⟩
  exact ⟨Hs, hg, done, ⟨h1, h2⟩, h3⟩
 ·intro l1 D1 ob1 done Hr hF hJ
  exact hF.elim
 ·intro l1 D1 ob1 done jc Hr hE
  obtain ⟨rfl, rfl, hall⟩ := hE
  refine V_exit (blk_e rfl (then_n ?_))
  refine Vs rfl ?_
  refine Lr rfl (rlA (vs := [_, _, _, _, _, _, _, _, _, _, _, _]) ag121 sz121 rfl rfl rfl) ?_
  refine Ls (cs' := [_, _, _, _, _, _, _, _, _, _, _, _]) rfl sz121 rfl rfl rfl rfl rfl rfl rfl ?_
  refine L_then (kp [4] rfl) ?_
  refine V_ret ?_
  refine Leave.mark (by repeat first | exact .head | apply SetAt.tail) (Leave.nil (.cellA (us := [_, _, _, _, _, _, _, _, _, _, _, _]) rfl ag121 sz121 (by repeat first | exact mH | apply mT) rfl .nil) ?_)
  exact ⟨[], HSub.nil _, rfl, hall⟩
 intro l1 D1 ob1 done ch Hr hS hJ
 obtain ⟨rfl, hfar⟩ := hS
 obtain ⟨s, rfl, hdn, _⟩ := hJ
 refine (blk_p (then_p ?_))
 refine LeaveP.mark (by repeat first | exact .head | apply SetAt.tail) (LeaveP.nil ?_)
 exact ⟨[], HSub.nil _, rfl, _, hdn, hfar⟩

end Go.Proofs.Ytbncegfgjbdheaa

/- Ytbncegfgjbdheaa: the deferred function of limited. -/
set_option linter.all false
namespace Go.Proofs.Ytbncegfgjbdheaa
open Go.Vc Go.Tk Go.Fl
set_option maxRecDepth 100000
theorem flim1_nil (w0 w : World) (M : List Nat) (H0 : Heap) (b : Nat) (hg : Vc.Good w0 M H0 w) : CallsDIn (FW none) 0 Try.prog 84 #[.pointer (some ⟨b, 0, none⟩)] .returning w (fun e u' w' => ∃ v, e = .returned v ∧ u' = .returning ∧ ∃ H, Vc.Good w0 M H w' ∧ H = H0) := by
 refine callsD_recover (args := [.pointer (some ⟨b, 0, none⟩)]) (r := .nilIface) (t := 4) (n := 10) Try.func84 rfl Try.ntmps84 Try.results84 rfl hg rfl rfl rfl (by decide) (fun c cs hc => .inr ⟨recD_none hc, rfl, rfl⟩) ?_
 refine V_block ?_
 refine Vs rfl ?_
 refine Lp rfl (p_ifnil (show Try.prog.underlying 20 = some (.interface #[]) by kernel_rfl) rfl rfl) ?_
 refine L_then (kp [4, 6] rfl) ?_
 refine V_cond_t rfl rfl ?_
 refine V_region rfl ?_
 refine La rfl rfl rfl ?_
 exact L_nil (blk_n ⟨rfl, rfl⟩)
theorem flim1_far (w0 w : World) (M : List Nat) (H1 : Heap) (b ty : Nat) (x : Value) (hg : Vc.Good w0 M ((b, .cells #[x] ty) :: H1) w) : CallsDIn (FW none) 0 Try.prog 84 #[.pointer (some ⟨b, 0, none⟩)] (.panicking [{ v := .iface 154 (.agg #[]), recovered := false }]) w (fun e u' w' => ∃ v, e = .returned v ∧ u' = .panicking [{ v := .iface 154 (.agg #[]), recovered := true }] ∧ ∃ H, Vc.Good w0 M H w' ∧ ((b, Obj.cells #[.int .i64 3] ty) :: H1).Sublist H) := by
 refine callsD_recover (args := [.pointer (some ⟨b, 0, none⟩)]) (r := .iface 154 (.agg #[])) (t := 4) (n := 10) Try.func84 rfl Try.ntmps84 Try.results84 rfl hg rfl rfl rfl (by decide) (fun c cs hc => .inl (recD_some hc)) ?_
 refine V_block ?_
 refine Vs rfl ?_
 refine Lp rfl (p_ifsome (show Try.prog.underlying 20 = some (.interface #[]) by kernel_rfl) rfl rfl) ?_
 refine L_then (kp [0, 4, 6] rfl) ?_
 refine V_cond_f rfl rfl ?_
 refine Vs rfl ?_
 refine Lp rfl (p_tassert un154 rfl rfl) ?_
 iterate 2 refine Lp rfl (p_ext rfl rfl rfl) ?_
 refine L_then (kp [0, 8, 9] rfl) ?_
 refine V_cond_t rfl rfl ?_
 refine Vs rfl ?_
 refine Lw rfl (w_alloc zr154 rfl) ?_
 rintro _ _ ⟨b2, hb2, rfl, rfl⟩
 refine Ls (cs' := []) rfl sz154 rfl rfl rfl rfl rfl rfl rfl ?_
 refine L_then (kp [0] rfl) ?_
 refine V_region rfl ?_
 refine Ls (cs' := [_]) rfl sz31 rfl rfl rfl rfl rfl rfl rfl ?_
 exact L_nil (blk_n ⟨rfl, .cons _ (List.Sublist.refl _)⟩)

end Go.Proofs.Ytbncegfgjbdheaa

/- Ytbncegfgjbdheaa: limited; the first states. -/
set_option linter.all false
namespace Go.Proofs.Ytbncegfgjbdheaa
open Go.Vc Go.Tk Go.Fl
set_option maxRecDepth 100000
theorem flimited_c (w : World) (Hm : Heap) (hm : ∀ p ∈ Hm, w.heap[p.1]? = some p.2) (hn : (Hm.map Prod.fst).Nodup) (fid : Nat) (cap : Array Value) (R : Int → Heap → Prop) (S : Heap → Prop)
  (hdo : ∀ w', Ext w w' → FnX Try.prog fid cap.toList w' (fun v w2 => ∃ Hc, Vc.Good w' (Hm.map Prod.fst) Hc w2 ∧ ∃ e, v = .int .i64 e ∧ R e Hc) (fun ch w2 => ∃ Hc, Vc.Good w' (Hm.map Prod.fst) Hc w2 ∧ ch = [{ v := .iface 154 (.agg #[]), recovered := false }] ∧ S Hc)) :
  FnC Try.prog 53 [.func (.func fid) #[] cap] w (fun v w' => ∃ Hc, Vc.Good w (Hm.map Prod.fst) Hc w' ∧ ∃ e, v = .int .i64 e ∧ (R e Hc ∨ (e = 3 ∧ S Hc))) := by
 have hent : Ent Try.prog 84 := ent_of Try.func84 (by kernel_rfl) rfl
 refine (fn_bodyD (M := Hm.map Prod.fst) (H0 := Hm) (R := fun v H => ∃ x Hc, H = x :: Hc ∧ ∃ e, v = .int .i64 e ∧ (R e Hc ∨ (e = 3 ∧ S Hc))) Try.func53 rfl (by kernel_rfl) Try.ntmps53 Try.results53 rfl (Good.startWith hm hn) ?_).mono ?_
 ·refine Vs rfl ?_
  refine Lw rfl (w_alloc zr31 rfl) ?_
  rintro _ _ ⟨b1, hb1, rfl, rfl⟩
  refine L_then (kp [0, 2] rfl) ?_
  refine Vs rfl ?_
  refine Lp rfl (p_func rfl rfl rfl) ?_
  refine L_go rfl (X_defer rfl rfl rfl ?_)
  refine L_then (kp [0, 2] rfl) ?_
  refine Vs rfl ?_
  refine Lp rfl (p_move rfl rfl) ?_
  refine L_go rfl (X_callX (R := fun v H' => ∃ Hc, H' = [(b1, Obj.cells #[.int .i64 0] 31)] ++ Hc ∧ ∃ e, v = .int .i64 e ∧ R e Hc) (S := fun ch H' => ∃ Hc, H' = [(b1, Obj.cells #[.int .i64 0] 31)] ++ Hc ∧ ch = [{ v := .iface 154 (.agg #[]), recovered := false }] ∧ S Hc) rfl rfl rfl (fun w1 hg => ?_) ?_ ?_)
  ·have hx := Good.extOf (A := [(b1, Obj.cells #[.int .i64 0] 31)]) hm hg
   exact FnX.over (hg.perm (List.perm_append_comm (l₁ := [(b1, Obj.cells #[.int .i64 0] 31)]))) (HSub.refl _) (hdo w1 hx)
  ·rintro _ _ ⟨Hc, rfl, rfl, hS⟩
   refine then_p ⟨84, _, rfl, hent, fun w2 hg2 => ?_⟩
   refine (flim1_far w w2 _ Hc b1 _ _ hg2).mono ?_
   rintro e u' w3 ⟨v, rfl, rfl, H3, hg3, hsub⟩
   exact ⟨v, rfl, rfl, _, hg3.sub hsub, Leave.nil (.cell rfl ag31 mH rfl .nil) ⟨_, _, rfl, 3, rfl, .inr ⟨rfl, hS⟩⟩⟩
  rintro _ _ ⟨Hc, rfl, e, rfl, hR⟩
  refine Ls (cs' := [_]) rfl sz31 rfl rfl rfl rfl rfl rfl rfl ?_
  refine L_then (kp [2] rfl) ?_
  refine V_ret ⟨84, _, rfl, hent, fun w2 hg2 => ?_⟩
  refine (flim1_nil w w2 _ _ b1 hg2).mono ?_
  rintro e2 u' w3 ⟨v, rfl, rfl, _, hg3, rfl⟩
  exact ⟨v, rfl, rfl, _, hg3, Leave.nil (.cell rfl ag31 mH rfl .nil) ⟨_, _, rfl, e, rfl, .inl hR⟩⟩
 rintro v w' ⟨_, hg, x, Hc, rfl, h⟩
 exact ⟨Hc, hg.sub (List.sublist_cons_self _ _), h⟩

end Go.Proofs.Ytbncegfgjbdheaa

/- Ytbncegfgjbdheaa: the first states; Fly. -/
set_option linter.all false
namespace Go.Proofs.Ytbncegfgjbdheaa
open Go.Vc Go.Tk Go.Fl
set_option maxRecDepth 100000
set_option maxHeartbeats 4000000 in
theorem ffirst_c (v : Veh) (d : Dir) (l : List Fl.Band) (av pv qv bv : Value) (hV : GoodV v) (hd : dirE d = 0) (hB : GoodB l) (ph : Nat → Phase) (hph : ∀ n, PhB (ph n)) (s0 : St) (bf ty : Nat) (fr : Nat × Nat) (fid : Nat) (fst cap : Array Value) (w : World) (y1 y2 y3 : Nat) (hW : ∀ H w2, Vc.Good w [y3, y2, y1] H w2 → w2.heap[bf]? = some (.cells (flC v av pv qv d bv).toArray ty fr) ∧ VehR w2 (VehV v av pv qv) v ∧ BdsR w2 bv l) (hof : ∀ H w2, Vc.Good w [y3, y2, y1] H w2 → ∀ t : Nat, t ≤ 3000 → FnP Try.prog fid (fst.toList ++ [.int .i64 (t : Int)] ++ cap.toList) w2 (.agg #[.int .i64 (pushS (ph t)).lo, .int .i64 (pushS (ph t)).hi, .int .i64 (ph t).mass.lo, .int .i64 (ph t).mass.hi, .int .i64 (ph t).drag.lo, .int .i64 (ph t).drag.hi, .int .i64 (ph t).tilt.x.lo, .int .i64 (ph t).tilt.x.hi, .int .i64 (ph t).tilt.y.lo, .int .i64 (ph t).tilt.y.hi, .int .i64 (ph t).tilt.z.lo, .int .i64 (ph t).tilt.z.hi])) (hg0 : Vc.Good w [y3, y2, y1] [(y3, Obj.cells #[.func (.func fid) fst cap] 122), (y2, Obj.cells #[.int .i64 s0.p.x.lo, .int .i64 s0.p.x.hi, .int .i64 s0.p.y.lo, .int .i64 s0.p.y.hi, .int .i64 s0.p.z.lo, .int .i64 s0.p.z.hi, .int .i64 s0.v.x.lo, .int .i64 s0.v.x.hi, .int .i64 s0.v.y.lo, .int .i64 s0.v.y.hi, .int .i64 s0.v.z.lo, .int .i64 s0.v.z.hi] 121), (y1, Obj.cells #[.pointer (some ⟨bf, 0, none⟩)] 112)] w) (n : Int) (hn : 0 ≤ n ∧ n ≤ 3000) : FnX Try.prog 55 [.func (.func 86) #[] #[.pointer (some ⟨y2, 0, none⟩), .pointer (some ⟨y1, 0, none⟩), .pointer (some ⟨y3, 0, none⟩)], .int .i64 n] w (fun u w' => ∃ Hc, Vc.Good w [y3, y2, y1] Hc w' ∧ Grow 54 12 u (n.toNat + 1) (stL (runL (Fl.runT v d l ph s0) (n.toNat + 1))) Hc ∧ ∀ j, j ≤ n.toNat → farS (Fl.runT v d l ph s0 j) = false) (fun ch w' => ∃ Hc, Vc.Good w [y3, y2, y1] Hc w' ∧ ch = [{ v := .iface 154 (.agg #[]), recovered := false }] ∧ ∃ j, j ≤ n.toNat ∧ farS (Fl.runT v d l ph s0 j) = true) := by
 refine fn_overX (M := [y3, y2, y1]) (H0 := [(y3, Obj.cells #[.func (.func fid) fst cap] 122), (y2, Obj.cells #[.int .i64 s0.p.x.lo, .int .i64 s0.p.x.hi, .int .i64 s0.p.y.lo, .int .i64 s0.p.y.hi, .int .i64 s0.p.z.lo, .int .i64 s0.p.z.hi, .int .i64 s0.v.x.lo, .int .i64 s0.v.x.hi, .int .i64 s0.v.y.lo, .int .i64 s0.v.y.hi, .int .i64 s0.v.z.lo, .int .i64 s0.v.z.hi] 121), (y1, Obj.cells #[.pointer (some ⟨bf, 0, none⟩)] 112)]) Try.func55 rfl (by kernel_rfl) Try.ntmps55 Try.results55 rfl hg0 ?_
 refine Vs rfl ?_
 refine Lw rfl (w_box rfl rfl) ?_
 rintro _ _ ⟨b1, hb1, rfl, rfl⟩
 refine Lw rfl (w_alloc zr40 rfl) ?_
 rintro _ _ ⟨b2, hb2, rfl, rfl⟩
 refine L_then (kp [0, 3, 4] rfl) ?_
 refine V_seq ?_
 refine Vs rfl ?_
 refine Lm rfl rfl rfl ?_
 refine L_then (kp [3, 4, 7] rfl) ?_
 refine V_block ?_
 refine V_hs (H' := [(y3, Obj.cells #[.func (.func fid) fst cap] 122), (y1, Obj.cells #[.pointer (some ⟨bf, 0, none⟩)] 112), (b2, .cells #[.slice none 0 0] 40), (b1, .cells #[.int .i64 n] 3), (y2, Obj.cells #[.int .i64 s0.p.x.lo, .int .i64 s0.p.x.hi, .int .i64 s0.p.y.lo, .int .i64 s0.p.y.hi, .int .i64 s0.p.z.lo, .int .i64 s0.p.z.hi, .int .i64 s0.v.x.lo, .int .i64 s0.v.x.hi, .int .i64 s0.v.y.lo, .int .i64 s0.v.y.hi, .int .i64 s0.v.z.lo, .int .i64 s0.v.z.hi] 121)]) (by (try dsimp only); repeat (first | exact HSub.nil _ | refine HSub.take (by repeat first | exact Take.head | apply Take.tail) ?_ | exact HSub.refl _ | refine HSub.drop ?_ | refine HSub.app ?_)) ?_
 refine V_rangeX (H0 := (y3, Obj.cells #[.func (.func fid) fst cap] 122) :: (y1, Obj.cells #[.pointer (some ⟨bf, 0, none⟩)] 112) :: (b2, .cells #[.slice none 0 0] 40) :: (b1, .cells #[.int .i64 n] 3) :: []) (Hi := [(y2, Obj.cells #[.int .i64 s0.p.x.lo, .int .i64 s0.p.x.hi, .int .i64 s0.p.y.lo, .int .i64 s0.p.y.hi, .int .i64 s0.p.z.lo, .int .i64 s0.p.z.hi, .int .i64 s0.v.x.lo, .int .i64 s0.v.x.hi, .int .i64 s0.v.y.lo, .int .i64 s0.v.y.hi, .int .i64 s0.v.z.lo, .int .i64 s0.v.z.hi] 121)]) rfl (kp [3, 4, 7] rfl) rfl rfl (fun done x => done.length ≤ n.toNat ∧ farS (Fl.runT v d l ph s0 done.length) = false ∧ x = [.int .i64 (done.length : Int), .agg (St.cells (Fl.runT v d l ph s0 done.length)).toArray]) (fun done Hr => ∃ sv G, Hr = (y3, Obj.cells #[.func (.func fid) fst cap] 122) :: (y1, Obj.cells #[.pointer (some ⟨bf, 0, none⟩)] 112) :: (b2, .cells #[sv] 40) :: (b1, .cells #[.int .i64 n] 3) :: G ∧ Grow 54 12 sv done.length (stL (runL (Fl.runT v d l ph s0) done.length)) G ∧ done.length ≤ n.toNat ∧ ∀ j, j < done.length → farS (Fl.runT v d l ph s0 j) = false) (fun _ jc Hr => jc = .exit 0 ∧ ∃ sv G, Hr = (y3, Obj.cells #[.func (.func fid) fst cap] 122) :: (y1, Obj.cells #[.pointer (some ⟨bf, 0, none⟩)] 112) :: (b2, .cells #[sv] 40) :: (b1, .cells #[.int .i64 n] 3) :: G ∧ Grow 54 12 sv (n.toNat + 1) (stL (runL (Fl.runT v d l ph s0) (n.toNat + 1))) G ∧ ∀ j, j ≤ n.toNat → farS (Fl.runT v d l ph s0 j) = false) (fun _ => False) (fun done ch => ch = [{ v := .iface 154 (.agg #[]), recovered := false }] ∧ farS (Fl.runT v d l ph s0 done.length) = true) ((by rintro done vs ⟨_, _, rfl⟩; rfl)) (by repeat (first | exact List.nil_sublist _ | exact List.Sublist.refl _ | apply List.Sublist.cons_cons | apply List.Sublist.cons)) (⟨_, [], rfl, .nil, Nat.zero_le _, fun j hj => absurd hj (Nat.not_lt_zero _)⟩) ?_ ?_ ?_ ?_ ?_
 ·intro l1 D1 r1 done vs Hr own hp hJ
  obtain ⟨hdl, hfar, rfl⟩ := hp
  obtain ⟨sv, G, rfl, hgr, hd1, hall⟩ := hJ
  have hgr0 := hgr
  refine Vs rfl ?_
  refine La rfl rfl rfl ?_
  refine L_then (kp [3, 4, 5, 7, 9] rfl) ?_
  refine V_region rfl ?_
  refine Lw rfl (w_alloc zr121 rfl) ?_
  rintro _ _ ⟨b3, hb3, rfl, rfl⟩
  refine Ls (cs' := [_, _, _, _, _, _, _, _, _, _, _, _]) rfl sz121 rfl rfl rfl rfl rfl rfl rfl ?_
  refine L_keep (kp [3, 4, 5, 6, 7] rfl) ?_
  refine asgI (by repeat first | exact .head | apply SetAt.tail) ?_
  refine V_block ?_
  refine V_seq (V_draw (.rd 0 (.rd 1 (.wr 2 [0] (.wr 3 [1, 0] (.wr 4 [1] (.wr 5 [] .done)))))) mixed (by kernel_rfl) rfl ?_)
  refine Dr rfl rfl (rl ag40 rfl rfl rfl) ?_
  refine Dr rfl rfl (rlA (vs := [_, _, _, _, _, _, _, _, _, _, _, _]) ag121 sz121 rfl rfl rfl) ?_
  refine D_wr (.go (E' := [(0, _)]) rfl (.plain rfl) (w_callP rfl rfl rfl (fun w hg => ftold_c (Fl.runT v d l ph s0 done.length) w)) rfl ?_)
  rintro _ _ ⟨rfl, rfl⟩
  refine ⟨(.cons rfl (.plain rfl) (rl ag40 rfl rfl rfl) .nil), ?_⟩
  refine D_wr (.go (E' := [(0, _)]) rfl (.plain rfl) (w_slice (r := [_, _, _, _, _, _, _, _, _, _, _, _]) un40 sz54 zr54 rfl (by decide) rfl (by decide) rfl rfl) rfl ?_)
  rintro _ _ ⟨b4, hb4, rfl, rfl⟩
  refine ⟨(.cons rfl (.plain rfl) (rl ag40 rfl rfl rfl) .nil), ?_⟩
  refine D_wr (.go (E' := []) rfl (.plain rfl) (w_app (pre := [_, _, _, _, _, _, _, _]) (G := G) ap40 rfl rfl rfl hgr rfl rfl (news_own (by repeat first | exact mH | apply mT)) (by intro u hu; simp only [St.cells, List.mem_cons, List.not_mem_nil, or_false] at hu; rcases hu with rfl | rfl | rfl | rfl | rfl | rfl | rfl | rfl | rfl | rfl | rfl | rfl <;> rfl) (by omega) (by simp only [maxLen]; omega)) rfl ?_)
  rintro _ _ ⟨G1a, G1c, G1, rfl, rfl, hgr1⟩
  try simp only [List.cons_append, List.nil_append, List.append_nil]
  refine ⟨.nil, ?_⟩
  refine D_wr (.go (E' := []) rfl (.plain rfl) (ws (cs' := [_]) sz40 rfl rfl rfl rfl rfl rfl rfl) rfl ?_)
  rintro _ _ ⟨rfl, rfl⟩
  refine ⟨.nil, ?_⟩
  refine D_then (kp [3, 4, 5] rfl) ?_
  refine Vs rfl ?_
  refine Lm rfl rfl rfl ?_
  refine Lr rfl (rl ag3 rfl rfl rfl) ?_
  refine Lp rfl (p_eql rfl rfl rfl) ?_
  refine L_then (kp [4, 17] rfl) ?_
  refine V_cond rfl ?_ ?_
  ·intro c1; try simp only [td] at c1
   refine V_exit (blk_o rfl ?_)
   refine endX_e (by repeat first | exact .head | apply SetAt.tail) ?_
   refine ⟨(y3, Obj.cells #[.func (.func fid) fst cap] 122) :: (y1, Obj.cells #[.pointer (some ⟨bf, 0, none⟩)] 112) :: (b2, .cells #[_] 40) :: (b1, .cells #[.int .i64 n] 3) :: G1, (by (try dsimp only); repeat (first | exact HSub.nil _ | refine HSub.take (by repeat first | exact Take.head | apply Take.tail) ?_ | exact HSub.refl _ | refine HSub.drop ?_ | refine HSub.app ?_)), ?_⟩
   have ed : done.length = n.toNat := by omega
   have hgr2 : Grow 54 12 (.slice G1a (done.length + 1) G1c) (done.length + 1) (stL (runL (Fl.runT v d l ph s0) (done.length + 1))) G1 := by rw [runL_s]; exact hgr1
   rw [ed] at hgr2 hall hfar
   refine ⟨rfl, _, G1, by rw [ed], hgr2, fun j hj => ?_⟩
   by_cases e : j < n.toNat
   ·exact hall j e
   have ej : j = n.toNat := by omega
   rw [ej]; exact hfar
  intro c1; try simp only [td] at c1
  refine V_skip (blk_n ?_)
  refine endX_n (by repeat first | exact .head | apply SetAt.tail) ?_
  refine ⟨(y3, Obj.cells #[.func (.func fid) fst cap] 122) :: (y1, Obj.cells #[.pointer (some ⟨bf, 0, none⟩)] 112) :: (b2, .cells #[_] 40) :: (b1, .cells #[.int .i64 n] 3) :: G1, (by (try dsimp only); repeat (first | exact HSub.nil _ | refine HSub.take (by repeat first | exact Take.head | apply Take.tail) ?_ | exact HSub.refl _ | refine HSub.drop ?_ | refine HSub.app ?_)), ?_⟩
  have hl : (done ++ [[Value.int .i64 (done.length : Int), Value.agg (St.cells (Fl.runT v d l ph s0 done.length)).toArray]]).length = done.length + 1 := by simp
  have hgr2 : Grow 54 12 (.slice G1a (done.length + 1) G1c) (done.length + 1) (stL (runL (Fl.runT v d l ph s0) (done.length + 1))) G1 := by rw [runL_s]; exact hgr1
  refine ⟨_, G1, rfl, by rw [hl]; exact hgr2, by rw [hl]; omega, fun j hj => ?_⟩
  rw [hl] at hj
  by_cases e : j < done.length
  ·exact hall j e
  have ej : j = done.length := by omega
  rw [ej]; exact hfar
 ·intro l1 D1 r1 w1 hY hgi
  simp only [List.cons_append, List.nil_append] at hgi
  refine (fstates1_c v d l av pv qv bv hV hd hB ph hph s0 n.toNat (by omega) bf ty fr fid fst cap w [y3, y2, y1] l1 y1 y2 y3 _ _ hW (fun _ H w2 _ hg t ht => hof H w2 hg t ht) hY ?_ w1 _ ⟨_, rfl, _, [], rfl, .nil, Nat.zero_le _, fun j hj => absurd hj (Nat.not_lt_zero _)⟩ (hgi.hsub (by (try dsimp only); repeat (first | exact HSub.nil _ | refine HSub.take (by repeat first | exact Take.head | apply Take.tail) ?_ | exact HSub.refl _ | refine HSub.drop ?_ | refine HSub.app ?_)))).mono ?_ ?_
  ·rintro done _ ⟨Hr, rfl, sv, G, rfl, hgr, hdn, hall⟩
   exact ⟨hdn, .tail _ (.tail _ (.tail _ (.head _))), .tail _ (.tail _ (.head _))⟩
  ·rintro _ w2 ⟨Hs, hg, done, h⟩
   exact ⟨Hs, hg, done, .inr h⟩
  rintro ch w2 ⟨Hs, hg, done, h1, h2, h3⟩
  exact ⟨Hs, hg, done, ⟨h1, h2⟩, h3⟩
 ·intro l1 D1 ob1 done Hr hF hJ
  exact hF.elim
 ·intro l1 D1 ob1 done jc Hr hE
  obtain ⟨rfl, sv, G, rfl, hgr, hall⟩ := hE
  obtain ⟨a9, cap9, rfl⟩ := hgr.isSl
  refine V_exit (blk_e rfl (then_n ?_))
  refine Vs rfl ?_
  refine Lr rfl (rl ag40 rfl rfl rfl) ?_
  refine Ls (cs' := [_]) rfl sz40 rfl rfl rfl rfl rfl rfl rfl ?_
  refine L_then (kp [4] rfl) ?_
  refine V_ret ?_
  refine Leave.mark (by repeat first | exact .head | apply SetAt.tail) (Leave.nil (.cell rfl ag40 (by repeat first | exact mH | apply mT) rfl .nil) ?_)
  exact ⟨G, (by (try dsimp only); repeat (first | exact HSub.nil _ | refine HSub.take (by repeat first | exact Take.head | apply Take.tail) ?_ | exact HSub.refl _ | refine HSub.drop ?_ | refine HSub.app ?_)), hgr, hall⟩
 intro l1 D1 ob1 done ch Hr hS hJ
 obtain ⟨rfl, hfar⟩ := hS
 obtain ⟨sv, G, rfl, hgr, hdn, _⟩ := hJ
 refine (blk_p (then_p ?_))
 refine LeaveP.mark (by repeat first | exact .head | apply SetAt.tail) (LeaveP.nil ?_)
 exact ⟨[], HSub.nil _, rfl, _, by omega, hfar⟩
set_option maxHeartbeats 4000000 in
theorem fFly1_c (v : Veh) (d : Dir) (l : List Fl.Band) (av pv qv bv : Value) (hV : GoodV v) (hd : dirE d = 0) (hB : GoodB l) (n : Int) (hn : 0 ≤ n ∧ n ≤ 3000) (fb nb lb xf ty ty1 ty2 : Nat) (fr fr1 fr2 : Nat × Nat) (w : World) (hfb : w.heap[fb]? = some (.cells #[.pointer (some ⟨xf, 0, none⟩)] ty1 fr1)) (hnb : w.heap[nb]? = some (.cells #[.int .i64 n] ty2 fr2)) (hd1 : fb ≠ lb) (hd2 : nb ≠ lb) (hW : ∀ H w2, Vc.Good w [lb] H w2 → w2.heap[xf]? = some (.cells (flC v av pv qv d bv).toArray ty fr) ∧ VehR w2 (VehV v av pv qv) v ∧ BdsR w2 bv l) (hg0 : Vc.Good w [lb] [(lb, Obj.cells #[.slice none 0 0] 40)] w) : FnX Try.prog 54 [.pointer (some ⟨fb, 0, none⟩), .pointer (some ⟨nb, 0, none⟩), .pointer (some ⟨lb, 0, none⟩)] w (fun u w' => ∃ Hc, Vc.Good w [lb] Hc w' ∧ u = .int .i64 0 ∧ ∃ sv G, Hc = (lb, Obj.cells #[sv] 40) :: G ∧ Grow 54 12 sv (n.toNat + 1) (stL (runL (Fl.stT v d l) (n.toNat + 1))) G ∧ ∀ j, j ≤ n.toNat → farS ((Fl.stT v d l) j) = false) (fun ch w' => ∃ Hc, Vc.Good w [lb] Hc w' ∧ ch = [{ v := .iface 154 (.agg #[]), recovered := false }] ∧ Hc = [(lb, Obj.cells #[.slice none 0 0] 40)] ∧ ∃ j, j ≤ n.toNat ∧ farS ((Fl.stT v d l) j) = true) := by
 refine fn_overX (M := [lb]) (H0 := [(lb, Obj.cells #[.slice none 0 0] 40)]) Try.func54 rfl (by kernel_rfl) Try.ntmps54 Try.results54 rfl hg0 ?_
 refine Vs rfl ?_
 refine La rfl rfl rfl ?_
 refine L_then (kp [0, 1, 2] rfl) ?_
 refine V_seq (V_draw (.rd 0 (.rd 1 (.rd 2 (.rd 3 (.rd 5 (.wr 4 [5, 2] (.wr 6 [3, 2, 1, 0] (.wr 7 [] .done)))))))) mixed (by kernel_rfl) rfl ?_)
 refine Dr rfl rfl (r_loadB ag112 rfl rfl (own_cell hfb _) (by simp [hd1, hd2])) ?_
 refine Dp rfl rfl (p_build (r := [_, _, _, _, _, _, _, _, _, _, _, _]) pl121 zr121 rfl rfl rfl) ?_
 refine Dr rfl rfl (r_loadB ag112 rfl rfl (own_cell hfb _) (by simp [hd1, hd2])) ?_
 refine Dp rfl rfl (p_func rfl rfl rfl) ?_
 refine Dr rfl rfl (r_loadB ag3 rfl rfl (own_cell hnb _) (by simp [hd1, hd2])) ?_
 refine D_wr (.go (E' := [(5, _), (2, _)]) rfl (.plain rfl) (w_callN rfl rfl rfl (fun w hg => fstates_c xf _ #[_] #[] Fl.stZ w)) rfl ?_)
 rintro _ _ ⟨_, rfl, _, y1, y2, y3, rfl, rfl⟩
 refine ⟨(.cons rfl (.plain rfl) (r_loadB ag3 rfl rfl (own_cell hnb _) (by simp [hd1, hd2])) (.cons rfl (.plain rfl) (r_loadB ag112 rfl rfl (own_cell hfb _) (by simp [hd1, hd2])) .nil)), ?_⟩
 refine D_wr (.goX (E' := [(2, _)]) rfl (.plain rfl) (wx_call rfl rfl rfl (fun w hg => FnX.over (Hm := _ :: _ :: _ :: []) (Hk := _ :: []) hg (HSub.refl _) (ffirst_c v d l av pv qv bv hV hd hB (fun n => nowT v n) (fun n => now_ph hV n) Fl.stZ xf ty fr 57 #[.pointer (some ⟨xf, 0, none⟩)] #[] w y1 y2 y3 (fun H w2 hg2 => hW _ w2 (hg.pastM HSub.three hg2)) (fun H w2 hg2 t ht => fbody_c v d l av pv qv bv hV t (by omega) xf _ _ w2 (hW _ w2 (hg.pastM HSub.three hg2)).1 (hW _ w2 (hg.pastM HSub.three hg2)).2.1) (hg.begin HSub.three) n hn))) rfl ?_ ?_)
 ·rintro _ _ ⟨G, rfl, rfl, hfar⟩
  refine (then_p ?_)
  refine LeaveP.nil ?_
  exact ⟨_, (by (try dsimp only); repeat (first | exact HSub.nil _ | refine HSub.take (by repeat first | exact Take.head | apply Take.tail) ?_ | exact HSub.refl _ | refine HSub.drop ?_ | refine HSub.app ?_)), rfl, rfl, hfar⟩
 rintro sv _ ⟨G, rfl, hgr, hall⟩
 obtain ⟨a9, cap9, rfl⟩ := hgr.isSl
 refine ⟨(.cons rfl (.plain rfl) (r_loadB ag112 rfl rfl (own_cell hfb _) (by simp [hd1, hd2])) .nil), ?_⟩
 refine D_wr (.go (E' := []) rfl (.plain rfl) (ws (cs' := [_]) sz40 rfl rfl rfl rfl rfl rfl rfl) rfl ?_)
 rintro _ _ ⟨rfl, rfl⟩
 refine ⟨.nil, ?_⟩
 refine D_then .nil ?_
 refine Vs rfl ?_
 refine La rfl rfl rfl ?_
 refine L_then (kp [3] rfl) ?_
 refine V_ret ?_
 refine Leave.nil (.tmp rfl .nil) ?_
 exact ⟨_, HSub.refl _, rfl, _, G, rfl, hgr, hall⟩
theorem fFlyE_c (v : Veh) (d : Dir) (l : List Fl.Band) (av pv qv bv : Value) (w : World) (hv : VehR w (VehV v av pv qv) v) (hl : BdsR w bv l) (n : Int) (h : askedF v d l ≠ 0) : FnC Try.prog 16 [VehV v av pv qv, .agg #[.int .i64 d.x, .int .i64 d.y, .int .i64 d.z], bv, .int .i64 n] w fun u w' => ∃ Hc, Vc.Good w [] Hc w' ∧ ∃ A G, Hc = A ++ G ∧ LstOut 54 12 (flyL v d l n).length (stL (flyL v d l n)) (fun sv => .tuple #[sv, .int .i64 (flyE v d l n)]) u A G := by
 refine fn_new Try.func16 rfl (by kernel_rfl) Try.ntmps16 Try.results16 rfl ?_
 refine Vs rfl ?_
 refine Lw rfl (w_box rfl rfl) ?_
 rintro _ _ ⟨b1, hb1, rfl, rfl⟩
 refine Lw rfl (w_box rfl rfl) ?_
 rintro _ _ ⟨b2, hb2, rfl, rfl⟩
 refine Lw rfl (w_box rfl rfl) ?_
 rintro _ _ ⟨b3, hb3, rfl, rfl⟩
 refine Lw rfl (w_alloc zr40 rfl) ?_
 rintro _ _ ⟨b4, hb4, rfl, rfl⟩
 refine La rfl rfl rfl ?_
 refine L_then (kp [2, 4, 5, 7, 8] rfl) ?_
 refine Vs rfl ?_
 refine Lr rfl (rlA (vs := [_, _, _, _, _, _]) ag28 sz28 rfl rfl rfl) ?_
 refine Lr rfl (rlA (vs := [_, _, _]) ag30 sz30 rfl rfl rfl) ?_
 refine Lm rfl rfl rfl ?_
 refine Lc rfl rfl rfl rfl (fun w hg => fbeginE_c v d l av pv qv _ w (hv.good hg) (hl.good hg) h) ?_
 refine Lm rfl rfl rfl ?_
 iterate 2 refine Lp rfl (p_ext rfl rfl rfl) ?_
 refine Lw rfl (w_alloc zr112 rfl) ?_
 rintro _ _ ⟨b5, hb5, rfl, rfl⟩
 refine Ls (cs' := [_]) rfl sz112 rfl rfl rfl rfl rfl rfl rfl ?_
 refine La rfl rfl rfl ?_
 refine L_then (kp [7, 8, 9, 10] rfl) ?_
 refine V_seq ?_
 refine V_block ?_
 refine Vs rfl ?_
 refine Lm rfl rfl rfl ?_
 refine Lp rfl (p_neq rfl rfl rfl) ?_
 refine La rfl rfl rfl ?_
 refine L_then (kp [7, 8, 9, 10, 18] rfl) ?_
 refine V_cond rfl ?_ ?_
 ·intro c1; try simp only [td] at c1
  refine Vs rfl ?_
  refine Lm rfl rfl rfl ?_
  refine Ls (cs' := [_]) rfl sz40 rfl rfl rfl rfl rfl rfl rfl ?_
  refine La rfl rfl rfl ?_
  refine L_then (kp [8, 9] rfl) ?_
  refine V_ret (blk_r (then_r ?_))
  refine Leave.nil (.cell rfl ag40 (by repeat first | exact mH | apply mT) rfl (.tmp rfl .nil)) ?_
  refine ⟨[], HSub.nil _, [], [], rfl, rfl, .slice none 0 0, by rw [fly_asked h]; rfl, ?_⟩
  rw [flyL_bad (by rw [fly_asked h]; exact h)]; exact .nil
 intro c1; try simp only [td] at c1
 exfalso; omega
set_option maxHeartbeats 4000000 in
theorem fFlyO_c (v : Veh) (d : Dir) (l : List Fl.Band) (av pv qv bv : Value) (w : World) (hv : VehR w (VehV v av pv qv) v) (hl : BdsR w bv l) (n : Int) (h : askedF v d l = 0) : FnC Try.prog 16 [VehV v av pv qv, .agg #[.int .i64 d.x, .int .i64 d.y, .int .i64 d.z], bv, .int .i64 n] w fun u w' => ∃ Hc, Vc.Good w [] Hc w' ∧ ∃ A G, Hc = A ++ G ∧ LstOut 54 12 (flyL v d l n).length (stL (flyL v d l n)) (fun sv => .tuple #[sv, .int .i64 (flyE v d l n)]) u A G := by
 have hL := hl
 obtain ⟨ba, bc, rfl, hbc, hbe⟩ := hl.sl.ex
 simp only [List.length_map] at hL ⊢
 refine fn_new Try.func16 rfl (by kernel_rfl) Try.ntmps16 Try.results16 rfl ?_
 refine Vs rfl ?_
 refine Lw rfl (w_box rfl rfl) ?_
 rintro _ _ ⟨b1, hb1, rfl, rfl⟩
 refine Lw rfl (w_box rfl rfl) ?_
 rintro _ _ ⟨b2, hb2, rfl, rfl⟩
 refine Lw rfl (w_box rfl rfl) ?_
 rintro _ _ ⟨b3, hb3, rfl, rfl⟩
 refine Lw rfl (w_alloc zr40 rfl) ?_
 rintro _ _ ⟨b4, hb4, rfl, rfl⟩
 refine La rfl rfl rfl ?_
 refine L_then (kp [2, 4, 5, 7, 8] rfl) ?_
 refine Vs rfl ?_
 refine Lr rfl (rlA (vs := [_, _, _, _, _, _]) ag28 sz28 rfl rfl rfl) ?_
 refine Lr rfl (rlA (vs := [_, _, _]) ag30 sz30 rfl rfl rfl) ?_
 refine Lm rfl rfl rfl ?_
 refine Lw rfl (w_callN rfl rfl rfl (fun w hg => fbegin_c v d l av pv qv _ w (hv.good hg) (hL.good hg) h)) ?_
 rintro _ _ ⟨_, rfl, _, xf, rfl, rfl⟩
 refine Lm rfl rfl rfl ?_
 iterate 2 refine Lp rfl (p_ext rfl rfl rfl) ?_
 refine Lw rfl (w_alloc zr112 rfl) ?_
 rintro _ _ ⟨b6, hb6, rfl, rfl⟩
 refine Ls (cs' := [_]) rfl sz112 rfl rfl rfl rfl rfl rfl rfl ?_
 refine La rfl rfl rfl ?_
 refine L_then (kp [7, 8, 9, 10] rfl) ?_
 refine V_seq ?_
 refine V_block ?_
 refine Vs rfl ?_
 refine Lm rfl rfl rfl ?_
 refine Lp rfl (p_neq rfl rfl rfl) ?_
 refine La rfl rfl rfl ?_
 refine L_then (kp [7, 8, 9, 10, 18] rfl) ?_
 refine V_cond rfl ?_ ?_
 ·intro c1; try simp only [td] at c1
  exfalso; simp_all; done
 intro c1; try simp only [td] at c1
 refine Vs rfl ?_
 refine Lr rfl (rl ag3 rfl rfl rfl) ?_
 refine Lc rfl rfl rfl rfl (fun w hg => fout_c _ _ _ w) ?_
 refine La rfl rfl rfl ?_
 refine L_then (kp [7, 8, 10, 22] rfl) ?_
 refine V_cond rfl ?_ ?_
 ·intro c2; try simp only [td] at c2
  have hot : oP n 0 3000 = true := c2
  refine Vs rfl ?_
  refine Ls (cs' := [_]) rfl sz40 rfl rfl rfl rfl rfl rfl rfl ?_
  refine La rfl rfl rfl ?_
  refine L_then (kp [8, 9] rfl) ?_
  refine V_ret (blk_r (then_r ?_))
  refine Leave.nil (.cell rfl ag40 (by repeat first | exact mH | apply mT) rfl (.tmp rfl .nil)) ?_
  refine ⟨[], HSub.nil _, [], [], rfl, rfl, .slice none 0 0, by rw [fly_range h hot]; rfl, ?_⟩
  rw [flyL_bad (by rw [fly_range h hot]; decide)]; exact .nil
 intro c2; try simp only [td] at c2
 have hot : oP n 0 3000 = false := c2
 have hnr := oP_false.1 hot
 have hGG := asked_good h
 have hGV := hGG.1
 have hdd := hGG.2.1
 have hGB := hGG.2.2
 refine V_skip (blk_n (then_n ?_))
 refine Vs rfl ?_
 refine Lp rfl (p_func rfl rfl rfl) ?_
 refine L_go rfl (X_wr (wr_call rfl rfl rfl (fun w hg => FnC.over (Hm := [(b4, Obj.cells #[.slice none 0 0] 40)]) (Hk := [_, _, _]) hg (by (try dsimp only); repeat (first | exact HSub.nil _ | refine HSub.take (by repeat first | exact Take.head | apply Take.tail) ?_ | exact HSub.refl _ | refine HSub.drop ?_ | refine HSub.app ?_)) (flimited_c w [(b4, Obj.cells #[.slice none 0 0] 40)] (fun p hp => by rw [List.mem_singleton.1 hp]; exact hg.own (b4, _) (by repeat first | exact mH | apply mT)) (by simp) 54 #[.pointer (some ⟨b6, 0, none⟩), .pointer (some ⟨b3, 0, none⟩), .pointer (some ⟨b4, 0, none⟩)]
 (fun e Hc => e = 0 ∧ ∃ sv G, Hc = (b4, Obj.cells #[sv] 40) :: G ∧ Grow 54 12 sv (n.toNat + 1) (stL (runL (Fl.stT v d l) (n.toNat + 1))) G ∧ ∀ j, j ≤ n.toNat → farS ((Fl.stT v d l) j) = false)
 (fun Hc => Hc = [(b4, Obj.cells #[.slice none 0 0] 40)] ∧ ∃ j, j ≤ n.toNat ∧ farS ((Fl.stT v d l) j) = true)
 (fun w1 he => (fFly1_c v d l av pv qv _ hGV hdd hGB n hnr b6 b3 b4 xf _ _ _ _ _ _ w1 ((hg.ext he).own (b6, _) (by repeat first | exact mH | apply mT)) ((hg.ext he).own (b3, _) (by repeat first | exact mH | apply mT)) (hg.dist (p := (b4, _)) (q := (b6, _)) (by (try dsimp only); repeat (first | exact HSub.nil _ | refine HSub.take (by repeat first | exact Take.head | apply Take.tail) ?_ | exact HSub.refl _ | refine HSub.drop ?_ | refine HSub.app ?_))) (hg.dist (p := (b4, _)) (q := (b3, _)) (by (try dsimp only); repeat (first | exact HSub.nil _ | refine HSub.take (by repeat first | exact Take.head | apply Take.tail) ?_ | exact HSub.refl _ | refine HSub.drop ?_ | refine HSub.app ?_)))
  (fun H w2 hg2 => ⟨(hg.ext he).kept hg2 (p := (xf, _)) (by repeat first | exact mH | apply mT) (by simpa using hg.dist (p := (b4, _)) (q := (xf, _)) (by (try dsimp only); repeat (first | exact HSub.nil _ | refine HSub.take (by repeat first | exact Take.head | apply Take.tail) ?_ | exact HSub.refl _ | refine HSub.drop ?_ | refine HSub.app ?_))), hv.good ((hg.ext he).pastM (Hm := [(b4, _)]) (by (try dsimp only); repeat (first | exact HSub.nil _ | refine HSub.take (by repeat first | exact Take.head | apply Take.tail) ?_ | exact HSub.refl _ | refine HSub.drop ?_ | refine HSub.app ?_)) hg2), hL.good ((hg.ext he).pastM (Hm := [(b4, _)]) (by (try dsimp only); repeat (first | exact HSub.nil _ | refine HSub.take (by repeat first | exact Take.head | apply Take.tail) ?_ | exact HSub.refl _ | refine HSub.drop ?_ | refine HSub.app ?_)) hg2)⟩)
  ((hg.ext he).begin (Hm := [(b4, _)]) (by (try dsimp only); repeat (first | exact HSub.nil _ | refine HSub.take (by repeat first | exact Take.head | apply Take.tail) ?_ | exact HSub.refl _ | refine HSub.drop ?_ | refine HSub.app ?_)))).mono (by rintro _ w2 ⟨Hc, h1, rfl, h2⟩; exact ⟨Hc, h1, 0, rfl, rfl, h2⟩) (by rintro ch w2 ⟨Hc, h1, rfl, h2, h3⟩; exact ⟨Hc, h1, rfl, h2, h3⟩))))) ?_)
 rintro _ _ ⟨Hc, rfl, e, rfl, hor⟩
 obtain ⟨sv, G, rfl, rfl, hgr⟩ : ∃ sv G, Hc = (b4, Obj.cells #[sv] 40) :: G ∧ e = (flyE v d l n) ∧ Grow 54 12 sv (flyL v d l n).length (stL (flyL v d l n)) G := by
  rcases hor with ⟨rfl, sv, G, rfl, hgr, hall⟩ | ⟨rfl, rfl, j, hj, hjf⟩
  ·have e0 := fly_mk h hnr hall
   refine ⟨sv, G, rfl, e0.symm, ?_⟩
   rw [flyL_ok e0, rowS_len]; exact hgr
  have e3 := fly_far h hot hj hjf
  refine ⟨_, [], rfl, e3.symm, ?_⟩
  rw [flyL_bad (by rw [e3]; decide)]; exact .nil
 obtain ⟨a9, cap9, rfl⟩ := hgr.isSl
 refine La rfl rfl rfl ?_
 refine L_then (kp [8, 9] rfl) ?_
 refine Vs rfl ?_
 refine Lr rfl (rl ag40 rfl rfl rfl) ?_
 refine Lm rfl rfl rfl ?_
 refine Ls (cs' := [_]) rfl sz40 rfl rfl rfl rfl rfl rfl rfl ?_
 refine La rfl rfl rfl ?_
 refine L_then (kp [8, 9] rfl) ?_
 refine V_ret ?_
 refine Leave.nil (.cell rfl ag40 (by repeat first | exact mH | apply mT) rfl (.tmp rfl .nil)) ?_
 exact ⟨G, (by (try dsimp only); repeat (first | exact HSub.nil _ | refine HSub.take (by repeat first | exact Take.head | apply Take.tail) ?_ | exact HSub.refl _ | refine HSub.drop ?_ | refine HSub.app ?_)), [], G, rfl, rfl, _, rfl, hgr⟩
theorem fFly_c (v : Veh) (d : Dir) (l : List Fl.Band) (av pv qv bv : Value) (w : World) (hv : VehR w (VehV v av pv qv) v) (hl : BdsR w bv l) (n : Int) : FnC Try.prog 16 [VehV v av pv qv, .agg #[.int .i64 d.x, .int .i64 d.y, .int .i64 d.z], bv, .int .i64 n] w fun u w' => ∃ Hc, Vc.Good w [] Hc w' ∧ ∃ A G, Hc = A ++ G ∧ LstOut 54 12 (flyL v d l n).length (stL (flyL v d l n)) (fun sv => .tuple #[sv, .int .i64 (flyE v d l n)]) u A G := by
 by_cases h : askedF v d l = 0
 ·exact fFlyO_c v d l av pv qv bv w hv hl n h
 exact fFlyE_c v d l av pv qv bv w hv hl n h

end Go.Proofs.Ytbncegfgjbdheaa

/- Ytbncegfgjbdheaa: pieces; Top. -/
set_option linter.all false
namespace Go.Proofs.Ytbncegfgjbdheaa
open Go.Vc Go.Tk Go.Fl
set_option maxRecDepth 100000
theorem fpiece1_c (x : Fl.Piece) (k : Int) (b ty : Nat) (fr : Nat × Nat) (w : World) (hb : w.heap[b]? = some (.cells #[.int .i64 0, .int .i64 0, .int .i64 x.mass.lo, .int .i64 x.mass.hi, .int .i64 x.drag.lo, .int .i64 x.drag.hi, .int .i64 0, .int .i64 0, .int .i64 0, .int .i64 0, .int .i64 0, .int .i64 0] ty fr)) : FnP Try.prog 93 [.int .i64 k, .pointer (some ⟨b, 0, none⟩)] w (.agg #[.int .i64 (pushS (pcPh x)).lo, .int .i64 (pushS (pcPh x)).hi, .int .i64 (pcPh x).mass.lo, .int .i64 (pcPh x).mass.hi, .int .i64 (pcPh x).drag.lo, .int .i64 (pcPh x).drag.hi, .int .i64 (pcPh x).tilt.x.lo, .int .i64 (pcPh x).tilt.x.hi, .int .i64 (pcPh x).tilt.y.lo, .int .i64 (pcPh x).tilt.y.hi, .int .i64 (pcPh x).tilt.z.lo, .int .i64 (pcPh x).tilt.z.hi]) := by
 refine fn_pure Try.func93 rfl (by kernel_rfl) Try.ntmps93 Try.results93 rfl ?_
 refine Vs rfl ?_
 refine Lw rfl (w_alloc zr139 rfl) ?_
 rintro _ _ ⟨b1, hb1, rfl, rfl⟩
 refine L_then (kp [1, 3] rfl) ?_
 refine Vs rfl ?_
 refine Lr rfl (r_loadBA (vs := [_, _, _, _, _, _, _, _, _, _, _, _]) ag139 sz139 rfl rfl (own_slice (n := 12) (vs := [_, _, _, _, _, _, _, _, _, _, _, _]) hb rfl).1 rfl List.not_mem_nil) ?_
 refine Ls (cs' := [_, _, _, _, _, _, _, _, _, _, _, _]) rfl sz139 rfl rfl rfl rfl rfl rfl rfl ?_
 refine L_then (kp [3] rfl) ?_
 refine V_ret ?_
 refine Leave.nil (.cellA (us := [_, _, _, _, _, _, _, _, _, _, _, _]) rfl ag139 sz139 (by repeat first | exact mH | apply mT) rfl .nil) ?_
 rfl
set_option maxHeartbeats 4000000 in
theorem fpiece_c (v : Veh) (d : Dir) (l : List Fl.Band) (av pv qv bv : Value) (hV : GoodV v) (hd : dirE d = 0) (hB : GoodB l) (i : Int) (hi : 0 ≤ i ∧ i < v.pieces.length) (b ty : Nat) (fr : Nat × Nat) (w : World) (hb : w.heap[b]? = some (.cells (flC v av pv qv d bv).toArray ty fr)) (hv : VehR w (VehV v av pv qv) v) (hl : BdsR w bv l) : FnX Try.prog 61 [.pointer (some ⟨b, 0, none⟩), .int .i64 i] w (fun u w' => ∃ Hc, Vc.Good w [] Hc w' ∧ ∃ y1 y2 y3 yb, u = .func (.func 86) #[] #[.pointer (some ⟨y2, 0, none⟩), .pointer (some ⟨y1, 0, none⟩), .pointer (some ⟨y3, 0, none⟩)] ∧ Hc = [(y3, Obj.cells #[.func (.func 93) #[] #[.pointer (some ⟨yb, 0, none⟩)]] 122), (y2, Obj.cells #[.int .i64 (kickS (Fl.stT v d l (v.pc i.toNat).at_.toNat) (v.pc i.toNat).kick).p.x.lo, .int .i64 (kickS (Fl.stT v d l (v.pc i.toNat).at_.toNat) (v.pc i.toNat).kick).p.x.hi, .int .i64 (kickS (Fl.stT v d l (v.pc i.toNat).at_.toNat) (v.pc i.toNat).kick).p.y.lo, .int .i64 (kickS (Fl.stT v d l (v.pc i.toNat).at_.toNat) (v.pc i.toNat).kick).p.y.hi, .int .i64 (kickS (Fl.stT v d l (v.pc i.toNat).at_.toNat) (v.pc i.toNat).kick).p.z.lo, .int .i64 (kickS (Fl.stT v d l (v.pc i.toNat).at_.toNat) (v.pc i.toNat).kick).p.z.hi, .int .i64 (kickS (Fl.stT v d l (v.pc i.toNat).at_.toNat) (v.pc i.toNat).kick).v.x.lo, .int .i64 (kickS (Fl.stT v d l (v.pc i.toNat).at_.toNat) (v.pc i.toNat).kick).v.x.hi, .int .i64 (kickS (Fl.stT v d l (v.pc i.toNat).at_.toNat) (v.pc i.toNat).kick).v.y.lo, .int .i64 (kickS (Fl.stT v d l (v.pc i.toNat).at_.toNat) (v.pc i.toNat).kick).v.y.hi, .int .i64 (kickS (Fl.stT v d l (v.pc i.toNat).at_.toNat) (v.pc i.toNat).kick).v.z.lo, .int .i64 (kickS (Fl.stT v d l (v.pc i.toNat).at_.toNat) (v.pc i.toNat).kick).v.z.hi] 121), (y1, Obj.cells #[.pointer (some ⟨b, 0, none⟩)] 112), (yb, Obj.cells #[.int .i64 0, .int .i64 0, .int .i64 (v.pc i.toNat).mass.lo, .int .i64 (v.pc i.toNat).mass.hi, .int .i64 (v.pc i.toNat).drag.lo, .int .i64 (v.pc i.toNat).drag.hi, .int .i64 0, .int .i64 0, .int .i64 0, .int .i64 0, .int .i64 0, .int .i64 0] 139)] ∧ ∀ j, j ≤ (v.pc i.toNat).at_.toNat → farS (Fl.stT v d l j) = false) (fun ch w' => ∃ Hc, Vc.Good w [] Hc w' ∧ ch = [{ v := .iface 154 (.agg #[]), recovered := false }] ∧ ∃ j, j ≤ (v.pc i.toNat).at_.toNat ∧ farS (Fl.stT v d l j) = true) := by
 obtain ⟨qa, qc, rfl, hqc, hqe⟩ := hv.sl.2.2.ex
 obtain ⟨tb, rfl, hc⟩ := hqe i.toNat _ (getD_cells (d := pcZ) (by omega))
 have hpc := pc_zero (hV.pc i.toNat (by omega))
 obtain ⟨⟨k1, k2, k3⟩, ⟨k4, k5, k6⟩, ⟨k7, k8, k9⟩⟩ := hpc.kick
 have hat := hpc.at_
 simp only [List.length_map] at hqc hb hv ⊢
 refine fn_newX Try.func61 rfl (by kernel_rfl) Try.ntmps61 Try.results61 rfl ?_
 refine Vs rfl ?_
 refine La rfl rfl rfl ?_
 refine L_then (kp [0, 1] rfl) ?_
 refine Vs rfl ?_
 refine Lm rfl rfl rfl ?_
 refine Ln rfl rfl rfl ?_
 refine Lp rfl (p_fieldo fo152_0 rfl rfl) ?_
 refine Lp rfl (p_fieldo fo28_4 rfl rfl) ?_
 refine Lr rfl (r_loadB ag26 rfl rfl (own_cell hb _) List.not_mem_nil) ?_
 refine Lm rfl rfl rfl ?_
 refine Lp rfl (p_idx es26 rfl rfl rfl (by omega) (by omega)) ?_
 refine Lr rfl (r_loadBA ag49 sz49 rfl rfl hc rfl List.not_mem_nil) ?_
 refine Lw rfl (w_alloc zr49 rfl) ?_
 rintro _ _ ⟨b1, hb1, rfl, rfl⟩
 refine Ls (cs' := [_, _, _, _, _, _, _, _, _, _, _, _, _]) rfl sz49 rfl rfl rfl rfl rfl rfl rfl ?_
 refine L_then (kp [0, 5] rfl) ?_
 refine Vs rfl ?_
 refine Lm rfl rfl rfl ?_
 refine Lp rfl (p_fieldo fo49_1 rfl rfl) ?_
 refine Lr rfl (rl ag3 rfl rfl rfl) ?_
 refine L_go rfl (X_callX rfl rfl rfl (fun w hg => FnX.over (Hm := []) (Hk := _) hg (HSub.refl _) (fup_c v d l av pv _ bv hV hd hB (v.pc i.toNat).at_ (by omega) b ty fr w (hg.toExt.heap hb) (hv.good hg) (hl.good hg))) ?_ ?_)
 ·rintro _ _ ⟨Hc, rfl, rfl, hfar⟩
  refine (then_p ?_)
  refine LeaveP.nil ?_
  exact ⟨[], HSub.nil _, rfl, hfar⟩
 rintro _ _ ⟨Hc, rfl, rfl, hall⟩
 have hvv := far_false.1 (show farS (Fl.stT v d l (v.pc i.toNat).at_.toNat) = false from hall _ (Nat.le_refl _))
 obtain ⟨_, ⟨f1, f2, f3⟩, ⟨f4, f5, f6⟩, ⟨f7, f8, f9⟩⟩ := hvv
 refine Lw rfl (w_alloc zr121 rfl) ?_
 rintro _ _ ⟨b3, hb3, rfl, rfl⟩
 refine Ls (cs' := [_, _, _, _, _, _, _, _, _, _, _, _]) rfl sz121 rfl rfl rfl rfl rfl rfl rfl ?_
 refine L_then (kp [0, 5, 6] rfl) ?_
 refine V_seq (V_draw (.rd 0 (.rd 1 (.rd 2 (.rd 3 (.wr 4 [2, 1, 0] (.wr 5 [3, 2, 0] (.rd 6 (.wr 7 [] .done)))))))) mixed (by kernel_rfl) rfl ?_)
 refine Dp rfl rfl (p_fieldo fo121_1 rfl rfl) ?_
 refine Dr rfl rfl (rlA (vs := [_, _, _, _, _, _]) ag103 sz103 rfl rfl rfl) ?_
 refine Dp rfl rfl (p_fieldo fo49_4 rfl rfl) ?_
 refine Dr rfl rfl (rlA (vs := [_, _, _, _, _, _]) ag44 sz44 rfl rfl rfl) ?_
 refine D_wr (.go (E' := [(1, _)]) rfl (.plain rfl) (w_callP rfl rfl rfl (fun w hg => ftilted_c _ w)) rfl ?_)
 rintro _ _ ⟨rfl, rfl⟩
 refine ⟨(.cons rfl (.plain rfl) (rlA (vs := [_, _, _, _, _, _]) ag103 sz103 rfl rfl rfl) .nil), ?_⟩
 refine D_wr (.go (E' := []) rfl (.plain rfl) (w_callP rfl rfl rfl (fun w hg => feach_c (Fl.stT v d l (v.pc i.toNat).at_.toNat).v (v.pc i.toNat).kick (Fl.addA (Fl.stT v d l (v.pc i.toNat).at_.toNat).v (v.pc i.toNat).kick) _ #[] w (fun w' he => fplus_c (Fl.stT v d l (v.pc i.toNat).at_.toNat).v.x (v.pc i.toNat).kick.x (by omega) w') (fun w' he => fplus_c (Fl.stT v d l (v.pc i.toNat).at_.toNat).v.y (v.pc i.toNat).kick.y (by omega) w') (fun w' he => fplus_c (Fl.stT v d l (v.pc i.toNat).at_.toNat).v.z (v.pc i.toNat).kick.z (by omega) w'))) rfl ?_)
 rintro _ _ ⟨rfl, rfl⟩
 refine ⟨.nil, ?_⟩
 refine Dp rfl rfl (p_fieldo fo121_1 rfl rfl) ?_
 refine D_wr (.go (E' := []) rfl (.plain rfl) (ws (cs' := [_, _, _, _, _, _, _, _, _, _, _, _]) sz103 rfl rfl rfl rfl rfl rfl rfl) rfl ?_)
 rintro _ _ ⟨rfl, rfl⟩
 refine ⟨.nil, ?_⟩
 refine D_then (kp [0, 5, 6] rfl) ?_
 refine Vs rfl ?_
 refine Lp rfl (p_fieldo fo49_2 rfl rfl) ?_
 refine Lr rfl (rlA (vs := [_, _]) ag23 sz23 rfl rfl rfl) ?_
 refine Lp rfl (p_fieldo fo49_3 rfl rfl) ?_
 refine Lr rfl (rlA (vs := [_, _]) ag23 sz23 rfl rfl rfl) ?_
 refine Lp rfl (p_build (r := [_, _, _, _, _, _, _, _, _, _, _, _]) pl139 zr139 rfl rfl rfl) ?_
 refine Lw rfl (w_alloc zr139 rfl) ?_
 rintro _ _ ⟨b4, hb4, rfl, rfl⟩
 refine Ls (cs' := [_, _, _, _, _, _, _, _, _, _, _, _]) rfl sz139 rfl rfl rfl rfl rfl rfl rfl ?_
 refine L_then (kp [0, 6, 7] rfl) ?_
 refine Vs rfl ?_
 refine Lm rfl rfl rfl ?_
 refine Lr rfl (rlA (vs := [_, _, _, _, _, _, _, _, _, _, _, _]) ag121 sz121 rfl rfl rfl) ?_
 refine Lp rfl (p_func rfl rfl rfl) ?_
 refine Lw rfl (w_callN rfl rfl rfl (fun w hg => fstates_c b _ #[] #[_] (kickS (Fl.stT v d l (v.pc i.toNat).at_.toNat) (v.pc i.toNat).kick) w)) ?_
 rintro _ _ ⟨_, rfl, _, y1, y2, y3, rfl, rfl⟩
 refine La rfl rfl rfl ?_
 refine L_then (kp [4] rfl) ?_
 refine V_ret ?_
 refine Leave.nil (.tmp rfl .nil) ?_
 exact ⟨_, (by (try dsimp only); repeat (first | exact HSub.nil _ | refine HSub.take (by repeat first | exact Take.head | apply Take.tail) ?_ | exact HSub.refl _ | refine HSub.drop ?_ | refine HSub.app ?_)), y1, y2, y3, _, rfl, rfl, hall⟩
set_option maxHeartbeats 4000000 in
theorem fPiece1_c (v : Veh) (d : Dir) (l : List Fl.Band) (av pv qv bv : Value) (hV : GoodV v) (hd : dirE d = 0) (hB : GoodB l) (i n : Int) (hi : 0 ≤ i ∧ i < v.pieces.length) (hn : 0 ≤ n ∧ n ≤ 3000) (fb ib nb lb xf ty ty1 ty2 ty3 : Nat) (fr fr1 fr2 fr3 : Nat × Nat) (w : World) (hfb : w.heap[fb]? = some (.cells #[.pointer (some ⟨xf, 0, none⟩)] ty1 fr1)) (hib : w.heap[ib]? = some (.cells #[.int .i64 i] ty2 fr2)) (hnb : w.heap[nb]? = some (.cells #[.int .i64 n] ty3 fr3)) (hd1 : fb ≠ lb) (hd2 : ib ≠ lb) (hd3 : nb ≠ lb) (hW : ∀ H w2, Vc.Good w [lb] H w2 → w2.heap[xf]? = some (.cells (flC v av pv qv d bv).toArray ty fr) ∧ VehR w2 (VehV v av pv qv) v ∧ BdsR w2 bv l) (hg0 : Vc.Good w [lb] [(lb, Obj.cells #[.slice none 0 0] 40)] w) : FnX Try.prog 60 [.pointer (some ⟨fb, 0, none⟩), .pointer (some ⟨ib, 0, none⟩), .pointer (some ⟨nb, 0, none⟩), .pointer (some ⟨lb, 0, none⟩)] w (fun u w' => ∃ Hc, Vc.Good w [lb] Hc w' ∧ u = .int .i64 0 ∧ ∃ sv G, Hc = (lb, Obj.cells #[sv] 40) :: G ∧ Grow 54 12 sv (n.toNat + 1) (stL (runL (Fl.pcT v d l (v.pc i.toNat)) (n.toNat + 1))) G ∧ (∀ j, j ≤ (v.pc i.toNat).at_.toNat → farS (Fl.stT v d l j) = false) ∧ ∀ j, j ≤ n.toNat → farS ((Fl.pcT v d l (v.pc i.toNat)) j) = false) (fun ch w' => ∃ Hc, Vc.Good w [lb] Hc w' ∧ ch = [{ v := .iface 154 (.agg #[]), recovered := false }] ∧ Hc = [(lb, Obj.cells #[.slice none 0 0] 40)] ∧ ((∃ j, j ≤ (v.pc i.toNat).at_.toNat ∧ farS (Fl.stT v d l j) = true) ∨ ∃ j, j ≤ n.toNat ∧ farS ((Fl.pcT v d l (v.pc i.toNat)) j) = true)) := by
 refine fn_overX (M := [lb]) (H0 := [(lb, Obj.cells #[.slice none 0 0] 40)]) Try.func60 rfl (by kernel_rfl) Try.ntmps60 Try.results60 rfl hg0 ?_
 refine Vs rfl ?_
 refine La rfl rfl rfl ?_
 refine L_then (kp [0, 1, 2, 3] rfl) ?_
 refine V_seq (V_draw (.rd 0 (.rd 1 (.rd 3 (.wr 2 [3] (.wr 4 [1, 0] (.wr 5 [] .done)))))) mixed (by kernel_rfl) rfl ?_)
 refine Dr rfl rfl (r_loadB ag112 rfl rfl (own_cell hfb _) (by simp [hd1, hd2, hd3])) ?_
 refine Dr rfl rfl (r_loadB ag3 rfl rfl (own_cell hib _) (by simp [hd1, hd2, hd3])) ?_
 refine Dr rfl rfl (r_loadB ag3 rfl rfl (own_cell hnb _) (by simp [hd1, hd2, hd3])) ?_
 refine D_wr (.goX (E' := [(3, _)]) rfl (.plain rfl) (wx_call rfl rfl rfl (fun w hg => FnX.over (Hm := []) (Hk := _) hg (HSub.refl _) (fpiece_c v d l av pv qv bv hV hd hB i hi xf _ _ w (hW _ w hg).1 (hW _ w hg).2.1 (hW _ w hg).2.2))) rfl ?_ ?_)
 ·rintro _ _ ⟨_, rfl, rfl, hfar⟩
  refine (then_p ?_)
  refine LeaveP.nil ?_
  first | exact ⟨_, (by (try dsimp only); repeat (first | exact HSub.nil _ | refine HSub.take (by repeat first | exact Take.head | apply Take.tail) ?_ | exact HSub.refl _ | refine HSub.drop ?_ | refine HSub.app ?_)), rfl, rfl, .inl hfar⟩ | exact ⟨_, (by (try dsimp only); repeat (first | exact HSub.nil _ | refine HSub.take (by repeat first | exact Take.head | apply Take.tail) ?_ | exact HSub.refl _ | refine HSub.drop ?_ | refine HSub.app ?_)), rfl, rfl, .inr hfar2⟩
 rintro _ _ ⟨_, rfl, y1, y2, y3, yb, rfl, rfl, hst⟩
 refine ⟨(.cons rfl (.plain rfl) (r_loadB ag3 rfl rfl (own_cell hnb _) (by simp [hd1, hd2, hd3])) .nil), ?_⟩
 refine D_wr (.goX (E' := []) rfl (.plain rfl) (wx_call rfl rfl rfl (fun w hg => FnX.over (Hm := [(y3, _), (y2, _), (y1, _)]) (Hk := [(lb, _), (yb, _)]) hg (by (try dsimp only); repeat (first | exact HSub.nil _ | refine HSub.take (by repeat first | exact Take.head | apply Take.tail) ?_ | exact HSub.refl _ | refine HSub.drop ?_ | refine HSub.app ?_)) (ffirst_c v d l av pv qv bv hV hd hB (fun _ => pcPh (v.pc i.toNat)) (fun _ => PcB.ph (pc_zero (hV.pc i.toNat (by omega)))) (kickS (Fl.stT v d l (v.pc i.toNat).at_.toNat) (v.pc i.toNat).kick) xf ty fr 93 #[] #[.pointer (some ⟨yb, 0, none⟩)] w y1 y2 y3 (fun H w2 hg2 => hW _ w2 (hg.pastM (Hm := [(y3, _), (y2, _), (y1, _)]) (by (try dsimp only); repeat (first | exact HSub.nil _ | refine HSub.take (by repeat first | exact Take.head | apply Take.tail) ?_ | exact HSub.refl _ | refine HSub.drop ?_ | refine HSub.app ?_)) hg2)) (fun H w2 hg2 t ht => fpiece1_c (v.pc i.toNat) _ yb _ _ w2 (hg.keptM (p := (yb, _)) (Hm := [(y3, _), (y2, _), (y1, _)]) (by (try dsimp only); repeat (first | exact HSub.nil _ | refine HSub.take (by repeat first | exact Take.head | apply Take.tail) ?_ | exact HSub.refl _ | refine HSub.drop ?_ | refine HSub.app ?_)) hg2)) (hg.begin (Hm := [(y3, _), (y2, _), (y1, _)]) (by (try dsimp only); repeat (first | exact HSub.nil _ | refine HSub.take (by repeat first | exact Take.head | apply Take.tail) ?_ | exact HSub.refl _ | refine HSub.drop ?_ | refine HSub.app ?_))) n (by omega)))) rfl ?_ ?_)
 ·rintro _ _ ⟨G, rfl, rfl, hfar2⟩
  refine (then_p ?_)
  refine LeaveP.nil ?_
  first | exact ⟨_, (by (try dsimp only); repeat (first | exact HSub.nil _ | refine HSub.take (by repeat first | exact Take.head | apply Take.tail) ?_ | exact HSub.refl _ | refine HSub.drop ?_ | refine HSub.app ?_)), rfl, rfl, .inl hfar⟩ | exact ⟨_, (by (try dsimp only); repeat (first | exact HSub.nil _ | refine HSub.take (by repeat first | exact Take.head | apply Take.tail) ?_ | exact HSub.refl _ | refine HSub.drop ?_ | refine HSub.app ?_)), rfl, rfl, .inr hfar2⟩
 rintro sv _ ⟨G, rfl, hgr, hall⟩
 obtain ⟨a9, cap9, rfl⟩ := hgr.isSl
 refine ⟨.nil, ?_⟩
 refine D_wr (.go (E' := []) rfl (.plain rfl) (ws (cs' := [_]) sz40 rfl rfl rfl rfl rfl rfl rfl) rfl ?_)
 rintro _ _ ⟨rfl, rfl⟩
 refine ⟨.nil, ?_⟩
 refine D_then .nil ?_
 refine Vs rfl ?_
 refine La rfl rfl rfl ?_
 refine L_then (kp [4] rfl) ?_
 refine V_ret ?_
 refine Leave.nil (.tmp rfl .nil) ?_
 exact ⟨_, (by (try dsimp only); repeat (first | exact HSub.nil _ | refine HSub.take (by repeat first | exact Take.head | apply Take.tail) ?_ | exact HSub.refl _ | refine HSub.drop ?_ | refine HSub.app ?_)), rfl, _, G, rfl, hgr, hst, hall⟩
theorem fPieceE_c (v : Veh) (d : Dir) (l : List Fl.Band) (av pv qv bv : Value) (w : World) (hv : VehR w (VehV v av pv qv) v) (hl : BdsR w bv l) (i n : Int) (h : askedF v d l ≠ 0) : FnC Try.prog 25 [VehV v av pv qv, .agg #[.int .i64 d.x, .int .i64 d.y, .int .i64 d.z], bv, .int .i64 i, .int .i64 n] w fun u w' => ∃ Hc, Vc.Good w [] Hc w' ∧ ∃ A G, Hc = A ++ G ∧ LstOut 54 12 (pieceL v d l i n).length (stL (pieceL v d l i n)) (fun sv => .tuple #[sv, .int .i64 (pieceE v d l i n)]) u A G := by
 refine fn_new Try.func25 rfl (by kernel_rfl) Try.ntmps25 Try.results25 rfl ?_
 refine Vs rfl ?_
 refine Lw rfl (w_box rfl rfl) ?_
 rintro _ _ ⟨b1, hb1, rfl, rfl⟩
 refine Lw rfl (w_box rfl rfl) ?_
 rintro _ _ ⟨b2, hb2, rfl, rfl⟩
 refine Lw rfl (w_box rfl rfl) ?_
 rintro _ _ ⟨b3, hb3, rfl, rfl⟩
 refine Lw rfl (w_box rfl rfl) ?_
 rintro _ _ ⟨b4, hb4, rfl, rfl⟩
 refine Lw rfl (w_alloc zr40 rfl) ?_
 rintro _ _ ⟨b5, hb5, rfl, rfl⟩
 refine La rfl rfl rfl ?_
 refine L_then (kp [2, 5, 6, 8, 9, 10] rfl) ?_
 refine Vs rfl ?_
 refine Lr rfl (rlA (vs := [_, _, _, _, _, _]) ag28 sz28 rfl rfl rfl) ?_
 refine Lr rfl (rlA (vs := [_, _, _]) ag30 sz30 rfl rfl rfl) ?_
 refine Lm rfl rfl rfl ?_
 refine Lc rfl rfl rfl rfl (fun w hg => fbeginE_c v d l av pv qv _ w (hv.good hg) (hl.good hg) h) ?_
 refine Lm rfl rfl rfl ?_
 iterate 2 refine Lp rfl (p_ext rfl rfl rfl) ?_
 refine Lw rfl (w_alloc zr112 rfl) ?_
 rintro _ _ ⟨b6, hb6, rfl, rfl⟩
 refine Ls (cs' := [_]) rfl sz112 rfl rfl rfl rfl rfl rfl rfl ?_
 refine La rfl rfl rfl ?_
 refine L_then (kp [5, 8, 9, 10, 11, 12] rfl) ?_
 refine V_seq ?_
 refine V_block ?_
 refine Vs rfl ?_
 refine Lm rfl rfl rfl ?_
 refine Lp rfl (p_neq rfl rfl rfl) ?_
 refine La rfl rfl rfl ?_
 refine L_then (kp [5, 8, 9, 10, 11, 12, 20] rfl) ?_
 refine V_cond rfl ?_ ?_
 ·intro c1; try simp only [td] at c1
  refine Vs rfl ?_
  refine Lm rfl rfl rfl ?_
  refine Ls (cs' := [_]) rfl sz40 rfl rfl rfl rfl rfl rfl rfl ?_
  refine La rfl rfl rfl ?_
  refine L_then (kp [10, 11] rfl) ?_
  refine V_ret (blk_r (then_r ?_))
  refine Leave.nil (.cell rfl ag40 (by repeat first | exact mH | apply mT) rfl (.tmp rfl .nil)) ?_
  refine ⟨[], HSub.nil _, [], [], rfl, rfl, .slice none 0 0, by rw [piece_asked h]; rfl, ?_⟩
  rw [pieceL_bad (by rw [piece_asked h]; first | exact h | decide)]; exact .nil
 intro c1; try simp only [td] at c1
 exfalso; omega
set_option maxHeartbeats 4000000 in
theorem fPieceO_c (v : Veh) (d : Dir) (l : List Fl.Band) (av pv qv bv : Value) (w : World) (hv : VehR w (VehV v av pv qv) v) (hl : BdsR w bv l) (i n : Int) (h : askedF v d l = 0) : FnC Try.prog 25 [VehV v av pv qv, .agg #[.int .i64 d.x, .int .i64 d.y, .int .i64 d.z], bv, .int .i64 i, .int .i64 n] w fun u w' => ∃ Hc, Vc.Good w [] Hc w' ∧ ∃ A G, Hc = A ++ G ∧ LstOut 54 12 (pieceL v d l i n).length (stL (pieceL v d l i n)) (fun sv => .tuple #[sv, .int .i64 (pieceE v d l i n)]) u A G := by
 have hL := hl
 obtain ⟨ba, bc, rfl, hbc, hbe⟩ := hl.sl.ex
 simp only [List.length_map] at hL ⊢
 obtain ⟨qa, qc, rfl, hqc, hqe⟩ := hv.sl.2.2.ex
 have hlq := hv.lq
 simp only [List.length_map] at hqc hv ⊢
 refine fn_new Try.func25 rfl (by kernel_rfl) Try.ntmps25 Try.results25 rfl ?_
 refine Vs rfl ?_
 refine Lw rfl (w_box rfl rfl) ?_
 rintro _ _ ⟨b1, hb1, rfl, rfl⟩
 refine Lw rfl (w_box rfl rfl) ?_
 rintro _ _ ⟨b2, hb2, rfl, rfl⟩
 refine Lw rfl (w_box rfl rfl) ?_
 rintro _ _ ⟨b3, hb3, rfl, rfl⟩
 refine Lw rfl (w_box rfl rfl) ?_
 rintro _ _ ⟨b4, hb4, rfl, rfl⟩
 refine Lw rfl (w_alloc zr40 rfl) ?_
 rintro _ _ ⟨b5, hb5, rfl, rfl⟩
 refine La rfl rfl rfl ?_
 refine L_then (kp [2, 5, 6, 8, 9, 10] rfl) ?_
 refine Vs rfl ?_
 refine Lr rfl (rlA (vs := [_, _, _, _, _, _]) ag28 sz28 rfl rfl rfl) ?_
 refine Lr rfl (rlA (vs := [_, _, _]) ag30 sz30 rfl rfl rfl) ?_
 refine Lm rfl rfl rfl ?_
 refine Lw rfl (w_callN rfl rfl rfl (fun w hg => fbegin_c v d l av pv _ _ w (hv.good hg) (hL.good hg) h)) ?_
 rintro _ _ ⟨_, rfl, _, xf, rfl, rfl⟩
 refine Lm rfl rfl rfl ?_
 iterate 2 refine Lp rfl (p_ext rfl rfl rfl) ?_
 refine Lw rfl (w_alloc zr112 rfl) ?_
 rintro _ _ ⟨b7, hb7, rfl, rfl⟩
 refine Ls (cs' := [_]) rfl sz112 rfl rfl rfl rfl rfl rfl rfl ?_
 refine La rfl rfl rfl ?_
 refine L_then (kp [5, 8, 9, 10, 11, 12] rfl) ?_
 refine V_seq ?_
 refine V_block ?_
 refine Vs rfl ?_
 refine Lm rfl rfl rfl ?_
 refine Lp rfl (p_neq rfl rfl rfl) ?_
 refine La rfl rfl rfl ?_
 refine L_then (kp [5, 8, 9, 10, 11, 12, 20] rfl) ?_
 refine V_cond rfl ?_ ?_
 ·intro c1; try simp only [td] at c1
  exfalso; simp_all; done
 intro c1; try simp only [td] at c1
 refine Vs rfl ?_
 refine Lr rfl (rl ag3 rfl rfl rfl) ?_
 refine Lp rfl (p_fieldo fo28_4 rfl rfl) ?_
 refine Lr rfl (rl ag26 rfl rfl rfl) ?_
 refine Lp rfl (p_len isl26 rfl rfl) ?_
 first | refine Lp rfl (p_sub' rfl rfl rfl (by unfold InI; omega)) ?_ | refine Lp rfl (p_sub rfl rfl rfl) ?_
 refine Lc rfl rfl rfl rfl (fun w hg => fout_c _ _ _ w) ?_
 refine La rfl rfl rfl ?_
 refine L_then (kp [5, 8, 9, 10, 12, 24] rfl) ?_
 refine V_cond rfl ?_ ?_
 ·intro c2; try simp only [td] at c2
  have hoi : oP i 0 (v.pieces.length - 1) = true := c2
  refine Vs rfl ?_
  refine Ls (cs' := [_]) rfl sz40 rfl rfl rfl rfl rfl rfl rfl ?_
  refine La rfl rfl rfl ?_
  refine L_then (kp [10, 11] rfl) ?_
  refine V_ret (blk_r (then_r ?_))
  refine Leave.nil (.cell rfl ag40 (by repeat first | exact mH | apply mT) rfl (.tmp rfl .nil)) ?_
  refine ⟨[], HSub.nil _, [], [], rfl, rfl, .slice none 0 0, by rw [piece_none h hoi]; rfl, ?_⟩
  rw [pieceL_bad (by rw [piece_none h hoi]; first | exact h | decide)]; exact .nil
 intro c2; try simp only [td] at c2
 have hoi : oP i 0 (v.pieces.length - 1) = false := c2
 have hir := oP_false.1 hoi
 obtain ⟨tb, rfl, hc⟩ := hqe i.toNat _ (getD_cells (d := pcZ) (by omega))
 have hGG := asked_good h
 have hGV := hGG.1
 have hdd := hGG.2.1
 have hGB := hGG.2.2
 have hat := (pc_zero (hGV.pc i.toNat (by omega))).at_
 simp only [Veh.pc] at hat
 refine V_seq (V_draw (.rd 0 (.rd 1 (.rd 2 (.rd 3 (.rd 4 (.rd 5 (.rd 6 (.rd 7 (.wr 8 [6, 5, 4, 3, 2, 1] (.rd 9 .done)))))))))) mixed (by kernel_rfl) rfl ?_)
 refine Dr rfl rfl (rl ag3 rfl rfl rfl) ?_
 refine Dp rfl rfl (p_fieldo fo28_4 rfl rfl) ?_
 refine Dr rfl rfl (rl ag26 rfl rfl rfl) ?_
 refine Dr rfl rfl (rl ag3 rfl rfl rfl) ?_
 refine Dp rfl rfl (p_idx es26 rfl rfl rfl (by omega) (by omega)) ?_
 refine Dp rfl rfl (p_field fo49_1 rfl rfl) ?_
 refine Dr rfl rfl (r_loadB ag3 rfl rfl (hc 1 _ rfl) List.not_mem_nil) ?_
 first | refine Dp rfl rfl (p_sub' rfl rfl rfl (by unfold InI; omega)) ?_ | refine Dp rfl rfl (p_sub rfl rfl rfl) ?_
 refine D_wr (.go (E' := [(6, _), (3, _), (2, _)]) rfl (.plain rfl) (w_callP rfl rfl rfl (fun w hg => fout_c _ _ _ w)) rfl ?_)
 rintro _ _ ⟨rfl, rfl⟩
 refine ⟨(.cons rfl (.plain rfl) (r_loadB ag3 rfl rfl (hc 1 _ rfl) List.not_mem_nil) (.cons rfl (.plain rfl) (rl ag3 rfl rfl rfl) (.cons rfl (.plain rfl) (rl ag26 rfl rfl rfl) .nil))), ?_⟩
 refine Dp rfl rfl (p_assign rfl rfl) ?_
 refine D_then (kp [8, 9, 10, 12, 31] rfl) ?_
 refine V_cond rfl ?_ ?_
 ·intro c3; try simp only [td] at c3
  have hot : oP n 0 (3000 - (v.pc i.toNat).at_) = true := c3
  refine Vs rfl ?_
  refine Ls (cs' := [_]) rfl sz40 rfl rfl rfl rfl rfl rfl rfl ?_
  refine La rfl rfl rfl ?_
  refine L_then (kp [10, 11] rfl) ?_
  refine V_ret (blk_r (then_r ?_))
  refine Leave.nil (.cell rfl ag40 (by repeat first | exact mH | apply mT) rfl (.tmp rfl .nil)) ?_
  refine ⟨[], HSub.nil _, [], [], rfl, rfl, .slice none 0 0, by rw [piece_range h hoi hot]; rfl, ?_⟩
  rw [pieceL_bad (by rw [piece_range h hoi hot]; first | exact h | decide)]; exact .nil
 ·intro c3; try simp only [td] at c3
  have hot : oP n 0 (3000 - (v.pc i.toNat).at_) = false := c3
  have hnr := oP_false.1 hot
  simp only [Veh.pc] at hnr
  refine V_skip (blk_n (then_n ?_))
  refine Vs rfl ?_
  refine Lp rfl (p_func rfl rfl rfl) ?_
  refine L_go rfl (X_wr (wr_call rfl rfl rfl (fun w hg => FnC.over (Hm := [(b5, Obj.cells #[.slice none 0 0] 40)]) (Hk := [(b7, _), (xf, _), (b4, _), (b3, _)]) hg (by (try dsimp only); repeat (first | exact HSub.nil _ | refine HSub.take (by repeat first | exact Take.head | apply Take.tail) ?_ | exact HSub.refl _ | refine HSub.drop ?_ | refine HSub.app ?_)) (flimited_c w [(b5, Obj.cells #[.slice none 0 0] 40)] (fun p hp => by rw [List.mem_singleton.1 hp]; exact hg.own (b5, _) (by repeat first | exact mH | apply mT)) (by simp) 60 #[.pointer (some ⟨b7, 0, none⟩), .pointer (some ⟨b3, 0, none⟩), .pointer (some ⟨b4, 0, none⟩), .pointer (some ⟨b5, 0, none⟩)]
 (fun e Hc => e = 0 ∧ ∃ sv G, Hc = (b5, Obj.cells #[sv] 40) :: G ∧ Grow 54 12 sv (n.toNat + 1) (stL (runL (Fl.pcT v d l (v.pc i.toNat)) (n.toNat + 1))) G ∧ (∀ j, j ≤ (v.pc i.toNat).at_.toNat → farS (Fl.stT v d l j) = false) ∧ ∀ j, j ≤ n.toNat → farS ((Fl.pcT v d l (v.pc i.toNat)) j) = false)
 (fun Hc => Hc = [(b5, Obj.cells #[.slice none 0 0] 40)] ∧ ((∃ j, j ≤ (v.pc i.toNat).at_.toNat ∧ farS (Fl.stT v d l j) = true) ∨ ∃ j, j ≤ n.toNat ∧ farS ((Fl.pcT v d l (v.pc i.toNat)) j) = true))
 (fun w1 he => (fPiece1_c v d l av pv _ _ hGV hdd hGB i n (by omega) (by omega) b7 b3 b4 b5 xf _ _ _ _ _ _ _ _ w1 ((hg.ext he).own (b7, _) (by repeat first | exact mH | apply mT)) ((hg.ext he).own (b3, _) (by repeat first | exact mH | apply mT)) ((hg.ext he).own (b4, _) (by repeat first | exact mH | apply mT)) (hg.dist (p := (b5, _)) (q := (b7, _)) (by (try dsimp only); repeat (first | exact HSub.nil _ | refine HSub.take (by repeat first | exact Take.head | apply Take.tail) ?_ | exact HSub.refl _ | refine HSub.drop ?_ | refine HSub.app ?_))) (hg.dist (p := (b5, _)) (q := (b3, _)) (by (try dsimp only); repeat (first | exact HSub.nil _ | refine HSub.take (by repeat first | exact Take.head | apply Take.tail) ?_ | exact HSub.refl _ | refine HSub.drop ?_ | refine HSub.app ?_))) (hg.dist (p := (b5, _)) (q := (b4, _)) (by (try dsimp only); repeat (first | exact HSub.nil _ | refine HSub.take (by repeat first | exact Take.head | apply Take.tail) ?_ | exact HSub.refl _ | refine HSub.drop ?_ | refine HSub.app ?_)))
  (fun H w2 hg2 => ⟨(hg.ext he).kept hg2 (p := (xf, _)) (by repeat first | exact mH | apply mT) (by simpa using hg.dist (p := (b5, _)) (q := (xf, _)) (by (try dsimp only); repeat (first | exact HSub.nil _ | refine HSub.take (by repeat first | exact Take.head | apply Take.tail) ?_ | exact HSub.refl _ | refine HSub.drop ?_ | refine HSub.app ?_))), hv.good ((hg.ext he).pastM (Hm := [(b5, _)]) (by (try dsimp only); repeat (first | exact HSub.nil _ | refine HSub.take (by repeat first | exact Take.head | apply Take.tail) ?_ | exact HSub.refl _ | refine HSub.drop ?_ | refine HSub.app ?_)) hg2), hL.good ((hg.ext he).pastM (Hm := [(b5, _)]) (by (try dsimp only); repeat (first | exact HSub.nil _ | refine HSub.take (by repeat first | exact Take.head | apply Take.tail) ?_ | exact HSub.refl _ | refine HSub.drop ?_ | refine HSub.app ?_)) hg2)⟩)
  ((hg.ext he).begin (Hm := [(b5, _)]) (by (try dsimp only); repeat (first | exact HSub.nil _ | refine HSub.take (by repeat first | exact Take.head | apply Take.tail) ?_ | exact HSub.refl _ | refine HSub.drop ?_ | refine HSub.app ?_)))).mono (by rintro _ w2 ⟨Hc, h1, rfl, h2⟩; exact ⟨Hc, h1, 0, rfl, rfl, h2⟩) (by rintro ch w2 ⟨Hc, h1, rfl, h2, h3⟩; exact ⟨Hc, h1, rfl, h2, h3⟩))))) ?_)
  rintro _ _ ⟨Hc, rfl, e, rfl, hor⟩
  obtain ⟨sv, G, rfl, rfl, hgr⟩ : ∃ sv G, Hc = (b5, Obj.cells #[sv] 40) :: G ∧ e = (pieceE v d l i n) ∧ Grow 54 12 sv (pieceL v d l i n).length (stL (pieceL v d l i n)) G := by
   rcases hor with ⟨rfl, sv, G, rfl, hgr, hst, hall⟩ | ⟨rfl, rfl, ⟨j, hj, hjf⟩ | ⟨j, hj, hjf⟩⟩
   ·have e0 := piece_mk h hir hnr hst hall
    refine ⟨sv, G, rfl, e0.symm, ?_⟩
    rw [pieceL_ok e0, rowS_len]; exact hgr
   ·have e3 := piece_far1 h hoi hot hj hjf
    refine ⟨_, [], rfl, e3.symm, ?_⟩
    rw [pieceL_bad (by rw [e3]; decide)]; exact .nil
   have e3 := piece_far2 h hoi hot hj hjf
   refine ⟨_, [], rfl, e3.symm, ?_⟩
   rw [pieceL_bad (by rw [e3]; decide)]; exact .nil
  obtain ⟨a9, cap9, rfl⟩ := hgr.isSl
  refine La rfl rfl rfl ?_
  refine L_then (kp [10, 11] rfl) ?_
  refine Vs rfl ?_
  refine Lr rfl (rl ag40 rfl rfl rfl) ?_
  refine Lm rfl rfl rfl ?_
  refine Ls (cs' := [_]) rfl sz40 rfl rfl rfl rfl rfl rfl rfl ?_
  refine La rfl rfl rfl ?_
  refine L_then (kp [10, 11] rfl) ?_
  refine V_ret ?_
  refine Leave.nil (.cell rfl ag40 (by repeat first | exact mH | apply mT) rfl (.tmp rfl .nil)) ?_
  exact ⟨G, (by (try dsimp only); repeat (first | exact HSub.nil _ | refine HSub.take (by repeat first | exact Take.head | apply Take.tail) ?_ | exact HSub.refl _ | refine HSub.drop ?_ | refine HSub.app ?_)), [], G, rfl, rfl, _, rfl, hgr⟩
theorem fPiece_c (v : Veh) (d : Dir) (l : List Fl.Band) (av pv qv bv : Value) (w : World) (hv : VehR w (VehV v av pv qv) v) (hl : BdsR w bv l) (i n : Int) : FnC Try.prog 25 [VehV v av pv qv, .agg #[.int .i64 d.x, .int .i64 d.y, .int .i64 d.z], bv, .int .i64 i, .int .i64 n] w fun u w' => ∃ Hc, Vc.Good w [] Hc w' ∧ ∃ A G, Hc = A ++ G ∧ LstOut 54 12 (pieceL v d l i n).length (stL (pieceL v d l i n)) (fun sv => .tuple #[sv, .int .i64 (pieceE v d l i n)]) u A G := by
 by_cases h : askedF v d l = 0
 ·exact fPieceO_c v d l av pv qv bv w hv hl i n h
 exact fPieceE_c v d l av pv qv bv w hv hl i n h

end Go.Proofs.Ytbncegfgjbdheaa
