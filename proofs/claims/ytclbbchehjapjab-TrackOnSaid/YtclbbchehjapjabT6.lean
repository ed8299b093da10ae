/- Ytclbbchehjapjab: the walk of box. -/
import Derived.Test.YtclbbchehjapjabT5
set_option linter.all false
namespace Go.Proofs.Ytclbbchehjapjab
open Go.Vc Go.Tk
set_option maxRecDepth 100000
theorem parts_c (b : Nat) (w : World) : FnP Try.prog 43 [.pointer (some ⟨b, 0, none⟩)] w (.agg #[.pointer (some ⟨b, 1, none⟩), .pointer (some ⟨b, 3, none⟩), .pointer (some ⟨b, 5, none⟩), .pointer (some ⟨b, 7, none⟩), .pointer (some ⟨b, 9, none⟩), .pointer (some ⟨b, 11, none⟩)]) := by
  refine fn_pure Try.func43 rfl (by kernel_rfl) Try.ntmps43 Try.results43 rfl ?_
  refine V_seq (V_region rfl ?_)
  refine L_go rfl (X_wr (w_alloc zr95 rfl) ?_)
  rintro _ _ ⟨b1, hb1, rfl, rfl⟩
  refine L_then (.cons (k := 0) rfl (.cons (k := 2) rfl .nil)) ?_
  refine V_seq (V_draw (.rd 0 (.rd 1 (.rd 2 (.rd 3 (.rd 4 (.rd 5 (.rd 6 (.rd 7 (.rd 8 (.rd 9 (.rd 10 (.rd 11 (.rd 12 (.rd 13 (.rd 14 (.rd 15 (.rd 16 (.rd 17 (.rd 18 (.wr 19 [] .done)))))))))))))))))))) mixed (by kernel_rfl) rfl ?_)
  refine D_p rfl (.plain rfl) (p_move rfl rfl) ?_
  refine D_p rfl (.plain rfl) (p_nil rfl rfl) ?_
  refine D_p rfl (.plain rfl) (p_fieldo fo34_1 rfl rfl) ?_
  refine D_p rfl (.plain rfl) (p_move rfl rfl) ?_
  refine D_p rfl (.plain rfl) (p_nil rfl rfl) ?_
  refine D_p rfl (.plain rfl) (p_fieldo fo34_2 rfl rfl) ?_
  refine D_p rfl (.plain rfl) (p_move rfl rfl) ?_
  refine D_p rfl (.plain rfl) (p_nil rfl rfl) ?_
  refine D_p rfl (.plain rfl) (p_fieldo fo34_3 rfl rfl) ?_
  refine D_p rfl (.plain rfl) (p_move rfl rfl) ?_
  refine D_p rfl (.plain rfl) (p_nil rfl rfl) ?_
  refine D_p rfl (.plain rfl) (p_fieldo fo34_4 rfl rfl) ?_
  refine D_p rfl (.plain rfl) (p_move rfl rfl) ?_
  refine D_p rfl (.plain rfl) (p_nil rfl rfl) ?_
  refine D_p rfl (.plain rfl) (p_fieldo fo34_5 rfl rfl) ?_
  refine D_p rfl (.plain rfl) (p_move rfl rfl) ?_
  refine D_p rfl (.plain rfl) (p_nil rfl rfl) ?_
  refine D_p rfl (.plain rfl) (p_fieldo fo34_6 rfl rfl) ?_
  refine D_p rfl (.plain rfl) (p_buildA (r := [_, _, _, _, _, _]) ar95 zr95 rfl rfl rfl) ?_
  refine D_wr (.go (E' := []) rfl (.plain rfl) (w_store (cs' := [_, _, _, _, _, _]) sz95 rfl rfl rfl rfl rfl (by repeat first | exact .head | apply SetAt.tail) (Nat.le_of_ble_eq_true rfl) rfl) rfl ?_)
  rintro _ _ ⟨rfl, rfl⟩
  refine ⟨.nil, ?_⟩
  refine D_then (.cons (k := 2) rfl .nil) ?_
  refine V_ret ?_
  refine Leave.nil (.cellA (us := [_, _, _, _, _, _]) rfl ag95 sz95 (by repeat first | exact mH | apply mT) rfl .nil) ?_
  rfl
set_option maxHeartbeats 4000000 in
theorem box_c (bp bm : Nat) (es : Array MapEntry) (clk : Nat) (t : Task) (ps : List Int) (u : Int) (hu : 0 ≤ u ∧ u ≤ 100000) (w : World) (hp : PickR w bp bm (.map (some bm)) t ps) (hc : Cache t ps es) (hb : w.heap[bm]? = some (.map es clk)) : FnC Try.prog 35 [.pointer (some ⟨bp, 0, none⟩), .int .i64 u] w fun v w' => ∃ o', Vc.Good w [bm] [(bm, o')] w' ∧ (v = boxV (boxT t ps u) ∧ ∃ es' clk', o' = .map es' clk' ∧ Cache t ps es') := by
  have hP := hp
  obtain ⟨tv, pv, sv, ty, fr, hbp, htr, hpl, hsv⟩ := hp.ex
  obtain ⟨ta, tc, rfl, htc, hte⟩ := htr.ex
  obtain ⟨pa, pc, rfl, hpc, hpe⟩ := hpl.ex
  obtain ⟨sa, sc, rfl, hsc, hse⟩ := hsv.ex
  have hG := hP.good
  obtain ⟨hfrm, hspd, hacc⟩ := hG.nums
  have hne := hP.ne
  have hpsl := hP.psl
  simp only [List.length_map] at hbp htc hpc hsc
  refine fn_mod (b := bm) Try.func35 rfl (by kernel_rfl) Try.ntmps35 Try.results35 rfl hb ?_
  refine V_seq (V_region rfl ?_)
  refine L_go rfl (X_wr (w_alloc zr34 rfl) ?_)
  rintro _ _ ⟨b1, hb1, rfl, rfl⟩
  refine L_go rfl (X_p (p_assign rfl rfl) ?_)
  refine L_then (.cons (k := 0) rfl (.cons (k := 1) rfl (.cons (k := 4) rfl .nil))) ?_
  refine V_seq (V_region rfl ?_)
  refine L_go rfl (X_p (p_move rfl rfl) ?_)
  refine L_go rfl (X_p (p_fieldo fo34_0 rfl rfl) ?_)
  refine L_go rfl (X_wr (w_store (cs' := [_, _, _, _, _, _, _, _, _, _, _, _, _]) sz3 rfl rfl rfl rfl rfl (by repeat first | exact .head | apply SetAt.tail) (Nat.le_of_ble_eq_true rfl) rfl) ?_)
  rintro _ _ ⟨rfl, rfl⟩
  refine L_then (.cons (k := 0) rfl (.cons (k := 1) rfl (.cons (k := 4) rfl .nil))) ?_
  refine V_seq (V_region rfl ?_)
  refine L_go rfl (X_wr (w_callP rfl rfl rfl (fun w hg => parts_c b1 w)) ?_)
  rintro _ _ ⟨rfl, rfl⟩
  refine L_go rfl (X_wr (w_alloc zr95 rfl) ?_)
  rintro _ _ ⟨b2, hb2, rfl, rfl⟩
  refine L_go rfl (X_wr (w_store (cs' := [_, _, _, _, _, _]) sz95 rfl rfl rfl rfl rfl (by repeat first | exact .head | apply SetAt.tail) (Nat.le_of_ble_eq_true rfl) rfl) ?_)
  rintro _ _ ⟨rfl, rfl⟩
  refine L_then (.cons (k := 0) rfl (.cons (k := 1) rfl (.cons (k := 4) rfl (.cons (k := 6) rfl .nil)))) ?_
  refine V_seq ?_
  refine V_seq (V_region rfl ?_)
  refine L_go rfl (X_p (p_move rfl rfl) ?_)
  refine L_then (.cons (k := 0) rfl (.cons (k := 1) rfl (.cons (k := 4) rfl (.cons (k := 6) rfl (.cons (k := 15) rfl .nil))))) ?_
  refine V_block ?_
  refine V_loopU ?_
  refine LU_step ?_
  refine V_seq (V_region rfl ?_)
  refine L_go rfl (X_p (p_lss rfl rfl rfl) ?_)
  refine L_then (.cons (k := 0) rfl (.cons (k := 1) rfl (.cons (k := 4) rfl (.cons (k := 6) rfl (.cons (k := 15) rfl (.cons (k := 16) rfl .nil)))))) ?_
  refine V_seq ?_
  refine V_cond_t rfl rfl ?_
  refine V_skip (then_n ?_)
  refine V_seq ?_
  refine V_block ?_
  refine V_seq (V_region rfl ?_)
  refine L_go rfl (X_p (p_move rfl rfl) ?_)
  refine L_go rfl (X_p (p_assign rfl rfl) ?_)
  refine L_then (.cons (k := 0) rfl (.cons (k := 1) rfl (.cons (k := 4) rfl (.cons (k := 6) rfl (.cons (k := 7) rfl (.cons (k := 15) rfl .nil)))))) ?_
  refine V_seq (V_region rfl ?_)
  refine L_go rfl (X_p (p_move rfl rfl) ?_)
  refine L_go rfl (X_p (p_move rfl rfl) ?_)
  refine L_go rfl (X_p (p_build (r := [_, _]) pl125 zr125 rfl rfl rfl) ?_)
  refine L_go rfl (X_wr (w_alloc zr125 rfl) ?_)
  rintro _ _ ⟨b3, hb3, rfl, rfl⟩
  refine L_go rfl (X_wr (w_store (cs' := [_, _]) sz125 rfl rfl rfl rfl rfl (by repeat first | exact .head | apply SetAt.tail) (Nat.le_of_ble_eq_true rfl) rfl) ?_)
  rintro _ _ ⟨rfl, rfl⟩
  refine L_then (.cons (k := 0) rfl (.cons (k := 1) rfl (.cons (k := 4) rfl (.cons (k := 6) rfl (.cons (k := 7) rfl (.cons (k := 8) rfl (.cons (k := 15) rfl .nil))))))) ?_
  refine V_seq (V_region rfl ?_)
  refine L_go rfl (X_p (p_move rfl rfl) ?_)
  refine L_go rfl (X_rd (r_loadA (vs := [_, _]) ag125 sz125 rfl rfl (by repeat first | exact mH | apply mT) rfl) ?_)
  refine L_go rfl (X_wr (w_callM rfl rfl rfl (fun o' => (by repeat first | exact .head | apply SetAt.tail)) (fun w hg => place_c bp bm es clk t ps _ u (by decide) hu w (hP.good' hg) hc (hg.own (bm, _) (by repeat first | exact mH | apply mT)))) ?_)
  rintro _ _ ⟨_, rfl, rfl, ea1, ck1, rfl, ha1⟩
  refine L_go rfl (X_wr (w_alloc zr103 rfl) ?_)
  rintro _ _ ⟨b4, hb4, rfl, rfl⟩
  refine L_go rfl (X_wr (w_store (cs' := [_, _]) sz103 rfl rfl rfl rfl rfl (by repeat first | exact .head | apply SetAt.tail) (Nat.le_of_ble_eq_true rfl) rfl) ?_)
  rintro _ _ ⟨rfl, rfl⟩
  refine L_then (.cons (k := 0) rfl (.cons (k := 1) rfl (.cons (k := 4) rfl (.cons (k := 6) rfl (.cons (k := 7) rfl (.cons (k := 8) rfl (.cons (k := 9) rfl (.cons (k := 15) rfl .nil)))))))) ?_
  refine V_seq (V_region rfl ?_)
  refine L_go rfl (X_p (p_move rfl rfl) ?_)
  refine L_go rfl (X_rd (r_loadA (vs := [_, _]) ag125 sz125 rfl rfl (by repeat first | exact mH | apply mT) rfl) ?_)
  refine L_go rfl (X_wr (w_callM rfl rfl rfl (fun o' => (by repeat first | exact .head | apply SetAt.tail)) (fun w hg => fast_c bp bm ea1 ck1 t ps _ u (by decide) hu w (hP.good' hg) ha1 (hg.own (bm, _) (by repeat first | exact mH | apply mT)))) ?_)
  rintro _ _ ⟨_, rfl, ⟨lo1, hi1, ok1, rfl, hok1⟩, eb1, cl1, rfl, hb1⟩
  refine L_go rfl (X_p (p_move rfl rfl) ?_)
  refine L_go rfl (X_p (p_ext rfl rfl rfl) ?_)
  refine L_go rfl (X_p (p_ext rfl rfl rfl) ?_)
  refine L_go rfl (X_wr (w_alloc zr103 rfl) ?_)
  rintro _ _ ⟨b5, hb5, rfl, rfl⟩
  refine L_go rfl (X_wr (w_store (cs' := [_, _]) sz103 rfl rfl rfl rfl rfl (by repeat first | exact .head | apply SetAt.tail) (Nat.le_of_ble_eq_true rfl) rfl) ?_)
  rintro _ _ ⟨rfl, rfl⟩
  refine L_go rfl (X_p (p_assign rfl rfl) ?_)
  refine L_then (.cons (k := 0) rfl (.cons (k := 1) rfl (.cons (k := 4) rfl (.cons (k := 6) rfl (.cons (k := 7) rfl (.cons (k := 9) rfl (.cons (k := 10) rfl (.cons (k := 11) rfl (.cons (k := 15) rfl .nil))))))))) ?_
  refine V_seq ?_
  refine V_seq (V_region rfl ?_)
  refine L_go rfl (X_p (p_move rfl rfl) ?_)
  refine L_go rfl (X_p (p_not rfl rfl) ?_)
  refine L_go rfl (X_p (p_move rfl rfl) ?_)
  refine L_cases (d := 32) rfl ?_ ?_
  · intro g1; have g1' := g1; try simp only [td] at g1'
    refine L_no rfl rfl rfl g1 ?_
    refine L_go rfl (X_p (p_pick_t rfl rfl g1 rfl) ?_)
    refine L_then (.cons (k := 0) rfl (.cons (k := 1) rfl (.cons (k := 4) rfl (.cons (k := 6) rfl (.cons (k := 7) rfl (.cons (k := 9) rfl (.cons (k := 10) rfl (.cons (k := 15) rfl (.cons (k := 34) rfl .nil))))))))) ?_
    refine V_cond_t rfl rfl ?_
    refine V_seq (V_region rfl ?_)
    refine L_go rfl (X_p (p_build (r := [_, _, _, _, _, _, _, _, _, _, _, _, _]) pl34 zr34 rfl rfl rfl) ?_)
    refine L_go rfl (X_wr (w_store (cs' := [_, _, _, _, _, _, _, _, _, _, _, _, _]) sz34 rfl rfl rfl rfl rfl (by repeat first | exact .head | apply SetAt.tail) (Nat.le_of_ble_eq_true rfl) rfl) ?_)
    rintro _ _ ⟨rfl, rfl⟩
    refine L_go rfl (X_p (p_assign rfl rfl) ?_)
    refine L_then (.cons (k := 4) rfl (.cons (k := 5) rfl .nil)) ?_
    refine V_ret (then_r (blk_r (then_r (then_r (blk_r (then_r ?_))))))
    refine Leave.nil (.cellA (us := [_, _, _, _, _, _, _, _, _, _, _, _, _]) rfl ag34 sz34 (by repeat first | exact mH | apply mT) rfl (.tmp rfl .nil)) ?_
    exact ⟨_, (by repeat first | exact mH | apply mT), by rw [boxT_0 (partT_none1 (fv_none hok1 g1'))]; rfl, _, _, rfl, hb1⟩
  · intro g1; have g1' := g1; try simp only [td] at g1'
    refine L_yes rfl rfl rfl g1 (X_wr (w_callP rfl rfl rfl (fun w hg => empty_c b4 _ _ 103 w (hg.own (b4, _) (by repeat first | exact mH | apply mT)))) ?_)
    rintro _ _ ⟨rfl, rfl⟩
    refine L_go rfl (X_p (p_pick_f rfl rfl g1 rfl) ?_)
    refine L_then (.cons (k := 0) rfl (.cons (k := 1) rfl (.cons (k := 4) rfl (.cons (k := 6) rfl (.cons (k := 7) rfl (.cons (k := 9) rfl (.cons (k := 10) rfl (.cons (k := 15) rfl (.cons (k := 34) rfl .nil))))))))) ?_
    refine V_cond rfl ?_ ?_
    · intro c1; try simp only [td] at c1
      refine V_seq (V_region rfl ?_)
      refine L_go rfl (X_p (p_build (r := [_, _, _, _, _, _, _, _, _, _, _, _, _]) pl34 zr34 rfl rfl rfl) ?_)
      refine L_go rfl (X_wr (w_store (cs' := [_, _, _, _, _, _, _, _, _, _, _, _, _]) sz34 rfl rfl rfl rfl rfl (by repeat first | exact .head | apply SetAt.tail) (Nat.le_of_ble_eq_true rfl) rfl) ?_)
      rintro _ _ ⟨rfl, rfl⟩
      refine L_go rfl (X_p (p_assign rfl rfl) ?_)
      refine L_then (.cons (k := 4) rfl (.cons (k := 5) rfl .nil)) ?_
      refine V_ret (then_r (blk_r (then_r (then_r (blk_r (then_r ?_))))))
      refine Leave.nil (.cellA (us := [_, _, _, _, _, _, _, _, _, _, _, _, _]) rfl ag34 sz34 (by repeat first | exact mH | apply mT) rfl (.tmp rfl .nil)) ?_
      exact ⟨_, (by repeat first | exact mH | apply mT), by rw [boxT_0 (partT_none2 c1)]; rfl, _, _, rfl, hb1⟩
    · intro c1; try simp only [td] at c1
      refine V_skip (then_n ?_)
      refine V_draw (.rd 0 (.rd 1 (.rd 2 (.rd 3 (.rd 4 (.rd 5 (.rd 6 (.rd 7 (.rd 8 (.rd 9 (.rd 10 (.rd 11 (.wr 12 [10, 9, 6, 5, 4, 3] (.rd 13 (.wr 14 [] .done))))))))))))))) mixed (by kernel_rfl) rfl ?_
      refine D_p rfl (.plain rfl) (p_move rfl rfl) ?_
      refine D_p rfl (.plain rfl) (p_idxao ar95 rfl rfl rfl (by omega) (by omega)) ?_
      refine D_rd rfl (.plain rfl) (r_load ag94 rfl rfl (by repeat first | exact mH | apply mT) rfl) ?_
      refine D_p rfl (.plain rfl) (p_move rfl rfl) ?_
      first | refine D_p rfl (.plain rfl) (p_add' rfl rfl rfl (by unfold InI; omega)) ?_ | refine D_p rfl (.plain rfl) (p_add rfl rfl rfl) ?_
      refine D_p rfl (.plain rfl) (p_idxao ar95 rfl rfl rfl (by omega) (by omega)) ?_
      refine D_rd rfl (.plain rfl) (r_load ag94 rfl rfl (by repeat first | exact mH | apply mT) rfl) ?_
      refine D_p rfl (.plain rfl) (p_fieldo fo103_0 rfl rfl) ?_
      refine D_rd rfl (.plain rfl) (r_loadA (vs := [_, _]) ag32 sz32 rfl rfl (by repeat first | exact mH | apply mT) rfl) ?_
      refine D_p rfl (.plain rfl) (p_fieldo fo103_0 rfl rfl) ?_
      refine D_rd rfl (.plain rfl) (r_loadA (vs := [_, _]) ag32 sz32 rfl rfl (by repeat first | exact mH | apply mT) rfl) ?_
      refine D_p rfl (.plain rfl) (p_nil rfl rfl) ?_
      refine D_wr (.go (E' := [(10, _), (6, _)]) rfl (.plain rfl) (w_store (cs' := [_, _, _, _, _, _, _, _, _, _, _, _, _]) sz32 rfl rfl rfl rfl rfl (by repeat first | exact .head | apply SetAt.tail) (Nat.le_of_ble_eq_true rfl) rfl) rfl ?_)
      rintro _ _ ⟨rfl, rfl⟩
      refine ⟨(.cons rfl (.plain rfl) (r_loadA (vs := [_, _]) ag32 sz32 rfl rfl (by repeat first | exact mH | apply mT) rfl) (.cons rfl (.plain rfl) (r_load ag94 rfl rfl (by repeat first | exact mH | apply mT) rfl) .nil)), ?_⟩
      refine D_p rfl (.plain rfl) (p_nil rfl rfl) ?_
      refine D_wr (.go (E' := []) rfl (.plain rfl) (w_store (cs' := [_, _, _, _, _, _, _, _, _, _, _, _, _]) sz32 rfl rfl rfl rfl rfl (by repeat first | exact .head | apply SetAt.tail) (Nat.le_of_ble_eq_true rfl) rfl) rfl ?_)
      rintro _ _ ⟨rfl, rfl⟩
      refine ⟨.nil, ?_⟩
      refine D_keep (.cons (k := 0) rfl (.cons (k := 1) rfl (.cons (k := 4) rfl (.cons (k := 6) rfl (.cons (k := 15) rfl .nil))))) (blk_n (then_n ?_))
      refine V_region rfl ?_
      first | refine L_go rfl (X_p (p_add' rfl rfl rfl (by unfold InI; omega)) ?_) | refine L_go rfl (X_p (p_add rfl rfl rfl) ?_)
      refine L_go rfl (X_p (p_move rfl rfl) ?_)
      refine L_keep (.cons (k := 0) rfl (.cons (k := 1) rfl (.cons (k := 4) rfl (.cons (k := 6) rfl (.cons (k := 15) rfl .nil))))) (then_n ?_)
      refine LU_step ?_
      refine V_seq (V_region rfl ?_)
      refine L_go rfl (X_p (p_lss rfl rfl rfl) ?_)
      refine L_then (.cons (k := 0) rfl (.cons (k := 1) rfl (.cons (k := 4) rfl (.cons (k := 6) rfl (.cons (k := 15) rfl (.cons (k := 16) rfl .nil)))))) ?_
      refine V_seq ?_
      refine V_cond_t rfl rfl ?_
      refine V_skip (then_n ?_)
      refine V_seq ?_
      refine V_block ?_
      refine V_seq (V_region rfl ?_)
      refine L_go rfl (X_p (p_move rfl rfl) ?_)
      refine L_go rfl (X_p (p_assign rfl rfl) ?_)
      refine L_then (.cons (k := 0) rfl (.cons (k := 1) rfl (.cons (k := 4) rfl (.cons (k := 6) rfl (.cons (k := 7) rfl (.cons (k := 15) rfl .nil)))))) ?_
      refine V_seq (V_region rfl ?_)
      refine L_go rfl (X_p (p_move rfl rfl) ?_)
      refine L_go rfl (X_p (p_move rfl rfl) ?_)
      refine L_go rfl (X_p (p_build (r := [_, _]) pl125 zr125 rfl rfl rfl) ?_)
      refine L_go rfl (X_wr (w_alloc zr125 rfl) ?_)
      rintro _ _ ⟨b6, hb6, rfl, rfl⟩
      refine L_go rfl (X_wr (w_store (cs' := [_, _]) sz125 rfl rfl rfl rfl rfl (by repeat first | exact .head | apply SetAt.tail) (Nat.le_of_ble_eq_true rfl) rfl) ?_)
      rintro _ _ ⟨rfl, rfl⟩
      refine L_then (.cons (k := 0) rfl (.cons (k := 1) rfl (.cons (k := 4) rfl (.cons (k := 6) rfl (.cons (k := 7) rfl (.cons (k := 8) rfl (.cons (k := 15) rfl .nil))))))) ?_
      refine V_seq (V_region rfl ?_)
      refine L_go rfl (X_p (p_move rfl rfl) ?_)
      refine L_go rfl (X_rd (r_loadA (vs := [_, _]) ag125 sz125 rfl rfl (by repeat first | exact mH | apply mT) rfl) ?_)
      refine L_go rfl (X_wr (w_callM rfl rfl rfl (fun o' => (by repeat first | exact .head | apply SetAt.tail)) (fun w hg => place_c bp bm eb1 cl1 t ps _ u (by decide) hu w (hP.good' hg) hb1 (hg.own (bm, _) (by repeat first | exact mH | apply mT)))) ?_)
      rintro _ _ ⟨_, rfl, rfl, ea2, ck2, rfl, ha2⟩
      refine L_go rfl (X_wr (w_alloc zr103 rfl) ?_)
      rintro _ _ ⟨b7, hb7, rfl, rfl⟩
      refine L_go rfl (X_wr (w_store (cs' := [_, _]) sz103 rfl rfl rfl rfl rfl (by repeat first | exact .head | apply SetAt.tail) (Nat.le_of_ble_eq_true rfl) rfl) ?_)
      rintro _ _ ⟨rfl, rfl⟩
      refine L_then (.cons (k := 0) rfl (.cons (k := 1) rfl (.cons (k := 4) rfl (.cons (k := 6) rfl (.cons (k := 7) rfl (.cons (k := 8) rfl (.cons (k := 9) rfl (.cons (k := 15) rfl .nil)))))))) ?_
      refine V_seq (V_region rfl ?_)
      refine L_go rfl (X_p (p_move rfl rfl) ?_)
      refine L_go rfl (X_rd (r_loadA (vs := [_, _]) ag125 sz125 rfl rfl (by repeat first | exact mH | apply mT) rfl) ?_)
      refine L_go rfl (X_wr (w_callM rfl rfl rfl (fun o' => (by repeat first | exact .head | apply SetAt.tail)) (fun w hg => fast_c bp bm ea2 ck2 t ps _ u (by decide) hu w (hP.good' hg) ha2 (hg.own (bm, _) (by repeat first | exact mH | apply mT)))) ?_)
      rintro _ _ ⟨_, rfl, ⟨lo2, hi2, ok2, rfl, hok2⟩, eb2, cl2, rfl, hb2⟩
      refine L_go rfl (X_p (p_move rfl rfl) ?_)
      refine L_go rfl (X_p (p_ext rfl rfl rfl) ?_)
      refine L_go rfl (X_p (p_ext rfl rfl rfl) ?_)
      refine L_go rfl (X_wr (w_alloc zr103 rfl) ?_)
      rintro _ _ ⟨b8, hb8, rfl, rfl⟩
      refine L_go rfl (X_wr (w_store (cs' := [_, _]) sz103 rfl rfl rfl rfl rfl (by repeat first | exact .head | apply SetAt.tail) (Nat.le_of_ble_eq_true rfl) rfl) ?_)
      rintro _ _ ⟨rfl, rfl⟩
      refine L_go rfl (X_p (p_assign rfl rfl) ?_)
      refine L_then (.cons (k := 0) rfl (.cons (k := 1) rfl (.cons (k := 4) rfl (.cons (k := 6) rfl (.cons (k := 7) rfl (.cons (k := 9) rfl (.cons (k := 10) rfl (.cons (k := 11) rfl (.cons (k := 15) rfl .nil))))))))) ?_
      refine V_seq ?_
      refine V_seq (V_region rfl ?_)
      refine L_go rfl (X_p (p_move rfl rfl) ?_)
      refine L_go rfl (X_p (p_not rfl rfl) ?_)
      refine L_go rfl (X_p (p_move rfl rfl) ?_)
      refine L_cases (d := 32) rfl ?_ ?_
      · intro g2; have g2' := g2; try simp only [td] at g2'
        refine L_no rfl rfl rfl g2 ?_
        refine L_go rfl (X_p (p_pick_t rfl rfl g2 rfl) ?_)
        refine L_then (.cons (k := 0) rfl (.cons (k := 1) rfl (.cons (k := 4) rfl (.cons (k := 6) rfl (.cons (k := 7) rfl (.cons (k := 9) rfl (.cons (k := 10) rfl (.cons (k := 15) rfl (.cons (k := 34) rfl .nil))))))))) ?_
        refine V_cond_t rfl rfl ?_
        refine V_seq (V_region rfl ?_)
        refine L_go rfl (X_p (p_build (r := [_, _, _, _, _, _, _, _, _, _, _, _, _]) pl34 zr34 rfl rfl rfl) ?_)
        refine L_go rfl (X_wr (w_store (cs' := [_, _, _, _, _, _, _, _, _, _, _, _, _]) sz34 rfl rfl rfl rfl rfl (by repeat first | exact .head | apply SetAt.tail) (Nat.le_of_ble_eq_true rfl) rfl) ?_)
        rintro _ _ ⟨rfl, rfl⟩
        refine L_go rfl (X_p (p_assign rfl rfl) ?_)
        refine L_then (.cons (k := 4) rfl (.cons (k := 5) rfl .nil)) ?_
        refine V_ret (then_r (blk_r (then_r (then_r (blk_r (then_r ?_))))))
        refine Leave.nil (.cellA (us := [_, _, _, _, _, _, _, _, _, _, _, _, _]) rfl ag34 sz34 (by repeat first | exact mH | apply mT) rfl (.tmp rfl .nil)) ?_
        exact ⟨_, (by repeat first | exact mH | apply mT), by rw [boxT_1 (partT_some (fv_some hok1 g1') c1) (partT_none1 (fv_none hok2 g2'))]; rfl, _, _, rfl, hb2⟩
      · intro g2; have g2' := g2; try simp only [td] at g2'
        refine L_yes rfl rfl rfl g2 (X_wr (w_callP rfl rfl rfl (fun w hg => empty_c b7 _ _ 103 w (hg.own (b7, _) (by repeat first | exact mH | apply mT)))) ?_)
        rintro _ _ ⟨rfl, rfl⟩
        refine L_go rfl (X_p (p_pick_f rfl rfl g2 rfl) ?_)
        refine L_then (.cons (k := 0) rfl (.cons (k := 1) rfl (.cons (k := 4) rfl (.cons (k := 6) rfl (.cons (k := 7) rfl (.cons (k := 9) rfl (.cons (k := 10) rfl (.cons (k := 15) rfl (.cons (k := 34) rfl .nil))))))))) ?_
        refine V_cond rfl ?_ ?_
        · intro c2; try simp only [td] at c2
          refine V_seq (V_region rfl ?_)
          refine L_go rfl (X_p (p_build (r := [_, _, _, _, _, _, _, _, _, _, _, _, _]) pl34 zr34 rfl rfl rfl) ?_)
          refine L_go rfl (X_wr (w_store (cs' := [_, _, _, _, _, _, _, _, _, _, _, _, _]) sz34 rfl rfl rfl rfl rfl (by repeat first | exact .head | apply SetAt.tail) (Nat.le_of_ble_eq_true rfl) rfl) ?_)
          rintro _ _ ⟨rfl, rfl⟩
          refine L_go rfl (X_p (p_assign rfl rfl) ?_)
          refine L_then (.cons (k := 4) rfl (.cons (k := 5) rfl .nil)) ?_
          refine V_ret (then_r (blk_r (then_r (then_r (blk_r (then_r ?_))))))
          refine Leave.nil (.cellA (us := [_, _, _, _, _, _, _, _, _, _, _, _, _]) rfl ag34 sz34 (by repeat first | exact mH | apply mT) rfl (.tmp rfl .nil)) ?_
          exact ⟨_, (by repeat first | exact mH | apply mT), by rw [boxT_1 (partT_some (fv_some hok1 g1') c1) (partT_none2 c2)]; rfl, _, _, rfl, hb2⟩
        · intro c2; try simp only [td] at c2
          refine V_skip (then_n ?_)
          refine V_draw (.rd 0 (.rd 1 (.rd 2 (.rd 3 (.rd 4 (.rd 5 (.rd 6 (.rd 7 (.rd 8 (.rd 9 (.rd 10 (.rd 11 (.wr 12 [10, 9, 6, 5, 4, 3] (.rd 13 (.wr 14 [] .done))))))))))))))) mixed (by kernel_rfl) rfl ?_
          refine D_p rfl (.plain rfl) (p_move rfl rfl) ?_
          refine D_p rfl (.plain rfl) (p_idxao ar95 rfl rfl rfl (by omega) (by omega)) ?_
          refine D_rd rfl (.plain rfl) (r_load ag94 rfl rfl (by repeat first | exact mH | apply mT) rfl) ?_
          refine D_p rfl (.plain rfl) (p_move rfl rfl) ?_
          first | refine D_p rfl (.plain rfl) (p_add' rfl rfl rfl (by unfold InI; omega)) ?_ | refine D_p rfl (.plain rfl) (p_add rfl rfl rfl) ?_
          refine D_p rfl (.plain rfl) (p_idxao ar95 rfl rfl rfl (by omega) (by omega)) ?_
          refine D_rd rfl (.plain rfl) (r_load ag94 rfl rfl (by repeat first | exact mH | apply mT) rfl) ?_
          refine D_p rfl (.plain rfl) (p_fieldo fo103_0 rfl rfl) ?_
          refine D_rd rfl (.plain rfl) (r_loadA (vs := [_, _]) ag32 sz32 rfl rfl (by repeat first | exact mH | apply mT) rfl) ?_
          refine D_p rfl (.plain rfl) (p_fieldo fo103_0 rfl rfl) ?_
          refine D_rd rfl (.plain rfl) (r_loadA (vs := [_, _]) ag32 sz32 rfl rfl (by repeat first | exact mH | apply mT) rfl) ?_
          refine D_p rfl (.plain rfl) (p_nil rfl rfl) ?_
          refine D_wr (.go (E' := [(10, _), (6, _)]) rfl (.plain rfl) (w_store (cs' := [_, _, _, _, _, _, _, _, _, _, _, _, _]) sz32 rfl rfl rfl rfl rfl (by repeat first | exact .head | apply SetAt.tail) (Nat.le_of_ble_eq_true rfl) rfl) rfl ?_)
          rintro _ _ ⟨rfl, rfl⟩
          refine ⟨(.cons rfl (.plain rfl) (r_loadA (vs := [_, _]) ag32 sz32 rfl rfl (by repeat first | exact mH | apply mT) rfl) (.cons rfl (.plain rfl) (r_load ag94 rfl rfl (by repeat first | exact mH | apply mT) rfl) .nil)), ?_⟩
          refine D_p rfl (.plain rfl) (p_nil rfl rfl) ?_
          refine D_wr (.go (E' := []) rfl (.plain rfl) (w_store (cs' := [_, _, _, _, _, _, _, _, _, _, _, _, _]) sz32 rfl rfl rfl rfl rfl (by repeat first | exact .head | apply SetAt.tail) (Nat.le_of_ble_eq_true rfl) rfl) rfl ?_)
          rintro _ _ ⟨rfl, rfl⟩
          refine ⟨.nil, ?_⟩
          refine D_keep (.cons (k := 0) rfl (.cons (k := 1) rfl (.cons (k := 4) rfl (.cons (k := 6) rfl (.cons (k := 15) rfl .nil))))) (blk_n (then_n ?_))
          refine V_region rfl ?_
          first | refine L_go rfl (X_p (p_add' rfl rfl rfl (by unfold InI; omega)) ?_) | refine L_go rfl (X_p (p_add rfl rfl rfl) ?_)
          refine L_go rfl (X_p (p_move rfl rfl) ?_)
          refine L_keep (.cons (k := 0) rfl (.cons (k := 1) rfl (.cons (k := 4) rfl (.cons (k := 6) rfl (.cons (k := 15) rfl .nil))))) (then_n ?_)
          refine LU_step ?_
          refine V_seq (V_region rfl ?_)
          refine L_go rfl (X_p (p_lss rfl rfl rfl) ?_)
          refine L_then (.cons (k := 0) rfl (.cons (k := 1) rfl (.cons (k := 4) rfl (.cons (k := 6) rfl (.cons (k := 15) rfl (.cons (k := 16) rfl .nil)))))) ?_
          refine V_seq ?_
          refine V_cond_t rfl rfl ?_
          refine V_skip (then_n ?_)
          refine V_seq ?_
          refine V_block ?_
          refine V_seq (V_region rfl ?_)
          refine L_go rfl (X_p (p_move rfl rfl) ?_)
          refine L_go rfl (X_p (p_assign rfl rfl) ?_)
          refine L_then (.cons (k := 0) rfl (.cons (k := 1) rfl (.cons (k := 4) rfl (.cons (k := 6) rfl (.cons (k := 7) rfl (.cons (k := 15) rfl .nil)))))) ?_
          refine V_seq (V_region rfl ?_)
          refine L_go rfl (X_p (p_move rfl rfl) ?_)
          refine L_go rfl (X_p (p_move rfl rfl) ?_)
          refine L_go rfl (X_p (p_build (r := [_, _]) pl125 zr125 rfl rfl rfl) ?_)
          refine L_go rfl (X_wr (w_alloc zr125 rfl) ?_)
          rintro _ _ ⟨b9, hb9, rfl, rfl⟩
          refine L_go rfl (X_wr (w_store (cs' := [_, _]) sz125 rfl rfl rfl rfl rfl (by repeat first | exact .head | apply SetAt.tail) (Nat.le_of_ble_eq_true rfl) rfl) ?_)
          rintro _ _ ⟨rfl, rfl⟩
          refine L_then (.cons (k := 0) rfl (.cons (k := 1) rfl (.cons (k := 4) rfl (.cons (k := 6) rfl (.cons (k := 7) rfl (.cons (k := 8) rfl (.cons (k := 15) rfl .nil))))))) ?_
          refine V_seq (V_region rfl ?_)
          refine L_go rfl (X_p (p_move rfl rfl) ?_)
          refine L_go rfl (X_rd (r_loadA (vs := [_, _]) ag125 sz125 rfl rfl (by repeat first | exact mH | apply mT) rfl) ?_)
          refine L_go rfl (X_wr (w_callM rfl rfl rfl (fun o' => (by repeat first | exact .head | apply SetAt.tail)) (fun w hg => place_c bp bm eb2 cl2 t ps _ u (by decide) hu w (hP.good' hg) hb2 (hg.own (bm, _) (by repeat first | exact mH | apply mT)))) ?_)
          rintro _ _ ⟨_, rfl, rfl, ea3, ck3, rfl, ha3⟩
          refine L_go rfl (X_wr (w_alloc zr103 rfl) ?_)
          rintro _ _ ⟨b10, hb10, rfl, rfl⟩
          refine L_go rfl (X_wr (w_store (cs' := [_, _]) sz103 rfl rfl rfl rfl rfl (by repeat first | exact .head | apply SetAt.tail) (Nat.le_of_ble_eq_true rfl) rfl) ?_)
          rintro _ _ ⟨rfl, rfl⟩
          refine L_then (.cons (k := 0) rfl (.cons (k := 1) rfl (.cons (k := 4) rfl (.cons (k := 6) rfl (.cons (k := 7) rfl (.cons (k := 8) rfl (.cons (k := 9) rfl (.cons (k := 15) rfl .nil)))))))) ?_
          refine V_seq (V_region rfl ?_)
          refine L_go rfl (X_p (p_move rfl rfl) ?_)
          refine L_go rfl (X_rd (r_loadA (vs := [_, _]) ag125 sz125 rfl rfl (by repeat first | exact mH | apply mT) rfl) ?_)
          refine L_go rfl (X_wr (w_callM rfl rfl rfl (fun o' => (by repeat first | exact .head | apply SetAt.tail)) (fun w hg => fast_c bp bm ea3 ck3 t ps _ u (by decide) hu w (hP.good' hg) ha3 (hg.own (bm, _) (by repeat first | exact mH | apply mT)))) ?_)
          rintro _ _ ⟨_, rfl, ⟨lo3, hi3, ok3, rfl, hok3⟩, eb3, cl3, rfl, hb3⟩
          refine L_go rfl (X_p (p_move rfl rfl) ?_)
          refine L_go rfl (X_p (p_ext rfl rfl rfl) ?_)
          refine L_go rfl (X_p (p_ext rfl rfl rfl) ?_)
          refine L_go rfl (X_wr (w_alloc zr103 rfl) ?_)
          rintro _ _ ⟨b11, hb11, rfl, rfl⟩
          refine L_go rfl (X_wr (w_store (cs' := [_, _]) sz103 rfl rfl rfl rfl rfl (by repeat first | exact .head | apply SetAt.tail) (Nat.le_of_ble_eq_true rfl) rfl) ?_)
          rintro _ _ ⟨rfl, rfl⟩
          refine L_go rfl (X_p (p_assign rfl rfl) ?_)
          refine L_then (.cons (k := 0) rfl (.cons (k := 1) rfl (.cons (k := 4) rfl (.cons (k := 6) rfl (.cons (k := 7) rfl (.cons (k := 9) rfl (.cons (k := 10) rfl (.cons (k := 11) rfl (.cons (k := 15) rfl .nil))))))))) ?_
          refine V_seq ?_
          refine V_seq (V_region rfl ?_)
          refine L_go rfl (X_p (p_move rfl rfl) ?_)
          refine L_go rfl (X_p (p_not rfl rfl) ?_)
          refine L_go rfl (X_p (p_move rfl rfl) ?_)
          refine L_cases (d := 32) rfl ?_ ?_
          · intro g3; have g3' := g3; try simp only [td] at g3'
            refine L_no rfl rfl rfl g3 ?_
            refine L_go rfl (X_p (p_pick_t rfl rfl g3 rfl) ?_)
            refine L_then (.cons (k := 0) rfl (.cons (k := 1) rfl (.cons (k := 4) rfl (.cons (k := 6) rfl (.cons (k := 7) rfl (.cons (k := 9) rfl (.cons (k := 10) rfl (.cons (k := 15) rfl (.cons (k := 34) rfl .nil))))))))) ?_
            refine V_cond_t rfl rfl ?_
            refine V_seq (V_region rfl ?_)
            refine L_go rfl (X_p (p_build (r := [_, _, _, _, _, _, _, _, _, _, _, _, _]) pl34 zr34 rfl rfl rfl) ?_)
            refine L_go rfl (X_wr (w_store (cs' := [_, _, _, _, _, _, _, _, _, _, _, _, _]) sz34 rfl rfl rfl rfl rfl (by repeat first | exact .head | apply SetAt.tail) (Nat.le_of_ble_eq_true rfl) rfl) ?_)
            rintro _ _ ⟨rfl, rfl⟩
            refine L_go rfl (X_p (p_assign rfl rfl) ?_)
            refine L_then (.cons (k := 4) rfl (.cons (k := 5) rfl .nil)) ?_
            refine V_ret (then_r (blk_r (then_r (then_r (blk_r (then_r ?_))))))
            refine Leave.nil (.cellA (us := [_, _, _, _, _, _, _, _, _, _, _, _, _]) rfl ag34 sz34 (by repeat first | exact mH | apply mT) rfl (.tmp rfl .nil)) ?_
            exact ⟨_, (by repeat first | exact mH | apply mT), by rw [boxT_2 (partT_some (fv_some hok1 g1') c1) (partT_some (fv_some hok2 g2') c2) (partT_none1 (fv_none hok3 g3'))]; rfl, _, _, rfl, hb3⟩
          · intro g3; have g3' := g3; try simp only [td] at g3'
            refine L_yes rfl rfl rfl g3 (X_wr (w_callP rfl rfl rfl (fun w hg => empty_c b10 _ _ 103 w (hg.own (b10, _) (by repeat first | exact mH | apply mT)))) ?_)
            rintro _ _ ⟨rfl, rfl⟩
            refine L_go rfl (X_p (p_pick_f rfl rfl g3 rfl) ?_)
            refine L_then (.cons (k := 0) rfl (.cons (k := 1) rfl (.cons (k := 4) rfl (.cons (k := 6) rfl (.cons (k := 7) rfl (.cons (k := 9) rfl (.cons (k := 10) rfl (.cons (k := 15) rfl (.cons (k := 34) rfl .nil))))))))) ?_
            refine V_cond rfl ?_ ?_
            · intro c3; try simp only [td] at c3
              refine V_seq (V_region rfl ?_)
              refine L_go rfl (X_p (p_build (r := [_, _, _, _, _, _, _, _, _, _, _, _, _]) pl34 zr34 rfl rfl rfl) ?_)
              refine L_go rfl (X_wr (w_store (cs' := [_, _, _, _, _, _, _, _, _, _, _, _, _]) sz34 rfl rfl rfl rfl rfl (by repeat first | exact .head | apply SetAt.tail) (Nat.le_of_ble_eq_true rfl) rfl) ?_)
              rintro _ _ ⟨rfl, rfl⟩
              refine L_go rfl (X_p (p_assign rfl rfl) ?_)
              refine L_then (.cons (k := 4) rfl (.cons (k := 5) rfl .nil)) ?_
              refine V_ret (then_r (blk_r (then_r (then_r (blk_r (then_r ?_))))))
              refine Leave.nil (.cellA (us := [_, _, _, _, _, _, _, _, _, _, _, _, _]) rfl ag34 sz34 (by repeat first | exact mH | apply mT) rfl (.tmp rfl .nil)) ?_
              exact ⟨_, (by repeat first | exact mH | apply mT), by rw [boxT_2 (partT_some (fv_some hok1 g1') c1) (partT_some (fv_some hok2 g2') c2) (partT_none2 c3)]; rfl, _, _, rfl, hb3⟩
            · intro c3; try simp only [td] at c3
              refine V_skip (then_n ?_)
              refine V_draw (.rd 0 (.rd 1 (.rd 2 (.rd 3 (.rd 4 (.rd 5 (.rd 6 (.rd 7 (.rd 8 (.rd 9 (.rd 10 (.rd 11 (.wr 12 [10, 9, 6, 5, 4, 3] (.rd 13 (.wr 14 [] .done))))))))))))))) mixed (by kernel_rfl) rfl ?_
              refine D_p rfl (.plain rfl) (p_move rfl rfl) ?_
              refine D_p rfl (.plain rfl) (p_idxao ar95 rfl rfl rfl (by omega) (by omega)) ?_
              refine D_rd rfl (.plain rfl) (r_load ag94 rfl rfl (by repeat first | exact mH | apply mT) rfl) ?_
              refine D_p rfl (.plain rfl) (p_move rfl rfl) ?_
              first | refine D_p rfl (.plain rfl) (p_add' rfl rfl rfl (by unfold InI; omega)) ?_ | refine D_p rfl (.plain rfl) (p_add rfl rfl rfl) ?_
              refine D_p rfl (.plain rfl) (p_idxao ar95 rfl rfl rfl (by omega) (by omega)) ?_
              refine D_rd rfl (.plain rfl) (r_load ag94 rfl rfl (by repeat first | exact mH | apply mT) rfl) ?_
              refine D_p rfl (.plain rfl) (p_fieldo fo103_0 rfl rfl) ?_
              refine D_rd rfl (.plain rfl) (r_loadA (vs := [_, _]) ag32 sz32 rfl rfl (by repeat first | exact mH | apply mT) rfl) ?_
              refine D_p rfl (.plain rfl) (p_fieldo fo103_0 rfl rfl) ?_
              refine D_rd rfl (.plain rfl) (r_loadA (vs := [_, _]) ag32 sz32 rfl rfl (by repeat first | exact mH | apply mT) rfl) ?_
              refine D_p rfl (.plain rfl) (p_nil rfl rfl) ?_
              refine D_wr (.go (E' := [(10, _), (6, _)]) rfl (.plain rfl) (w_store (cs' := [_, _, _, _, _, _, _, _, _, _, _, _, _]) sz32 rfl rfl rfl rfl rfl (by repeat first | exact .head | apply SetAt.tail) (Nat.le_of_ble_eq_true rfl) rfl) rfl ?_)
              rintro _ _ ⟨rfl, rfl⟩
              refine ⟨(.cons rfl (.plain rfl) (r_loadA (vs := [_, _]) ag32 sz32 rfl rfl (by repeat first | exact mH | apply mT) rfl) (.cons rfl (.plain rfl) (r_load ag94 rfl rfl (by repeat first | exact mH | apply mT) rfl) .nil)), ?_⟩
              refine D_p rfl (.plain rfl) (p_nil rfl rfl) ?_
              refine D_wr (.go (E' := []) rfl (.plain rfl) (w_store (cs' := [_, _, _, _, _, _, _, _, _, _, _, _, _]) sz32 rfl rfl rfl rfl rfl (by repeat first | exact .head | apply SetAt.tail) (Nat.le_of_ble_eq_true rfl) rfl) rfl ?_)
              rintro _ _ ⟨rfl, rfl⟩
              refine ⟨.nil, ?_⟩
              refine D_keep (.cons (k := 0) rfl (.cons (k := 1) rfl (.cons (k := 4) rfl (.cons (k := 6) rfl (.cons (k := 15) rfl .nil))))) (blk_n (then_n ?_))
              refine V_region rfl ?_
              first | refine L_go rfl (X_p (p_add' rfl rfl rfl (by unfold InI; omega)) ?_) | refine L_go rfl (X_p (p_add rfl rfl rfl) ?_)
              refine L_go rfl (X_p (p_move rfl rfl) ?_)
              refine L_keep (.cons (k := 0) rfl (.cons (k := 1) rfl (.cons (k := 4) rfl (.cons (k := 6) rfl (.cons (k := 15) rfl .nil))))) (then_n ?_)
              refine LU_step ?_
              refine V_seq (V_region rfl ?_)
              refine L_go rfl (X_p (p_lss rfl rfl rfl) ?_)
              refine L_then (.cons (k := 0) rfl (.cons (k := 1) rfl (.cons (k := 4) rfl (.cons (k := 6) rfl (.cons (k := 15) rfl (.cons (k := 16) rfl .nil)))))) ?_
              refine V_seq ?_
              refine V_cond_f rfl rfl ?_
              refine V_exit (then_e (then_e (blk_e rfl (then_n ?_))))
              refine V_seq (V_region rfl ?_)
              refine L_go rfl (X_rd (r_loadA (vs := [_, _, _, _, _, _, _, _, _, _, _, _, _]) ag34 sz34 rfl rfl (by repeat first | exact mH | apply mT) rfl) ?_)
              refine L_go rfl (X_wr (w_store (cs' := [_, _, _, _, _, _, _, _, _, _, _, _, _]) sz34 rfl rfl rfl rfl rfl (by repeat first | exact .head | apply SetAt.tail) (Nat.le_of_ble_eq_true rfl) rfl) ?_)
              rintro _ _ ⟨rfl, rfl⟩
              refine L_go rfl (X_p (p_assign rfl rfl) ?_)
              refine L_then (.cons (k := 4) rfl (.cons (k := 5) rfl .nil)) ?_
              refine V_ret ?_
              refine Leave.nil (.cellA (us := [_, _, _, _, _, _, _, _, _, _, _, _, _]) rfl ag34 sz34 (by repeat first | exact mH | apply mT) rfl (.tmp rfl .nil)) ?_
              exact ⟨_, (by repeat first | exact mH | apply mT), by rw [boxT_3 (partT_some (fv_some hok1 g1') c1) (partT_some (fv_some hok2 g2') c2) (partT_some (fv_some hok3 g3') c3)]; rfl, _, _, rfl, hb3⟩

end Go.Proofs.Ytclbbchehjapjab
