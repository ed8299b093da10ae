/- Ytclbbchehjapjaa: small functions of the statements. -/
import Derived.Test.YtclbbchehjapjaaT12
import Derived.Test.YtclbbchehjapjaaT14
import Derived.Test.YtclbbchehjapjaaX
set_option linter.all false
namespace Go.Proofs.Ytclbbchehjapjaa
open Go.Vc Go.Tk
set_option maxRecDepth 100000
set_option maxHeartbeats 4000000 in
theorem lwithin_c (a b : Box) (h : InB a b) (w : World) : FnP Try.prog 19 [.agg (Box.cells a).toArray, .agg (Box.cells b).toArray] w (.bool true) := by
  obtain ⟨h0, h1, h2, h3, h4, h5, h6⟩ := h
  simp only [InS] at h1 h2 h3 h4 h5 h6
  refine fn_pure Try.func19 rfl (by kernel_rfl) Try.ntmps19 Try.results19 rfl ?_
  refine V_seq (V_region rfl ?_)
  refine L_go rfl (X_wr (w_box rfl rfl) ?_)
  rintro _ _ ⟨b1, hb1, rfl, rfl⟩
  refine L_go rfl (X_wr (w_box rfl rfl) ?_)
  rintro _ _ ⟨b2, hb2, rfl, rfl⟩
  refine L_go rfl (X_p (p_assign rfl rfl) ?_)
  refine L_then (.cons (k := 2) rfl (.cons (k := 3) rfl .nil)) ?_
  refine V_seq (V_region rfl ?_)
  refine L_go rfl (X_p (p_fieldo fo35_1 rfl rfl) ?_)
  refine L_go rfl (X_rd (r_loadA (vs := [_, _]) ag33 sz33 rfl rfl (by repeat first | exact mH | apply mT) rfl) ?_)
  refine L_go rfl (X_p (p_fieldo fo35_2 rfl rfl) ?_)
  refine L_go rfl (X_rd (r_loadA (vs := [_, _]) ag33 sz33 rfl rfl (by repeat first | exact mH | apply mT) rfl) ?_)
  refine L_go rfl (X_p (p_fieldo fo35_3 rfl rfl) ?_)
  refine L_go rfl (X_rd (r_loadA (vs := [_, _]) ag33 sz33 rfl rfl (by repeat first | exact mH | apply mT) rfl) ?_)
  refine L_go rfl (X_p (p_fieldo fo35_4 rfl rfl) ?_)
  refine L_go rfl (X_rd (r_loadA (vs := [_, _]) ag33 sz33 rfl rfl (by repeat first | exact mH | apply mT) rfl) ?_)
  refine L_go rfl (X_p (p_fieldo fo35_5 rfl rfl) ?_)
  refine L_go rfl (X_rd (r_loadA (vs := [_, _]) ag33 sz33 rfl rfl (by repeat first | exact mH | apply mT) rfl) ?_)
  refine L_go rfl (X_p (p_fieldo fo35_6 rfl rfl) ?_)
  refine L_go rfl (X_rd (r_loadA (vs := [_, _]) ag33 sz33 rfl rfl (by repeat first | exact mH | apply mT) rfl) ?_)
  refine L_go rfl (X_p (p_buildA (r := [_, _, _, _, _, _, _, _, _, _, _, _]) ar105 zr105 rfl rfl rfl) ?_)
  refine L_go rfl (X_wr (w_alloc zr105 rfl) ?_)
  rintro _ _ ⟨b3, hb3, rfl, rfl⟩
  refine L_go rfl (X_wr (w_store (cs' := [_, _, _, _, _, _, _, _, _, _, _, _]) sz105 rfl rfl rfl rfl rfl (by repeat first | exact .head | apply SetAt.tail) (Nat.le_of_ble_eq_true rfl) rfl) ?_)
  rintro _ _ ⟨rfl, rfl⟩
  refine L_then (.cons (k := 2) rfl (.cons (k := 3) rfl (.cons (k := 5) rfl .nil))) ?_
  refine V_seq (V_region rfl ?_)
  refine L_go rfl (X_p (p_fieldo fo35_1 rfl rfl) ?_)
  refine L_go rfl (X_rd (r_loadA (vs := [_, _]) ag33 sz33 rfl rfl (by repeat first | exact mH | apply mT) rfl) ?_)
  refine L_go rfl (X_p (p_fieldo fo35_2 rfl rfl) ?_)
  refine L_go rfl (X_rd (r_loadA (vs := [_, _]) ag33 sz33 rfl rfl (by repeat first | exact mH | apply mT) rfl) ?_)
  refine L_go rfl (X_p (p_fieldo fo35_3 rfl rfl) ?_)
  refine L_go rfl (X_rd (r_loadA (vs := [_, _]) ag33 sz33 rfl rfl (by repeat first | exact mH | apply mT) rfl) ?_)
  refine L_go rfl (X_p (p_fieldo fo35_4 rfl rfl) ?_)
  refine L_go rfl (X_rd (r_loadA (vs := [_, _]) ag33 sz33 rfl rfl (by repeat first | exact mH | apply mT) rfl) ?_)
  refine L_go rfl (X_p (p_fieldo fo35_5 rfl rfl) ?_)
  refine L_go rfl (X_rd (r_loadA (vs := [_, _]) ag33 sz33 rfl rfl (by repeat first | exact mH | apply mT) rfl) ?_)
  refine L_go rfl (X_p (p_fieldo fo35_6 rfl rfl) ?_)
  refine L_go rfl (X_rd (r_loadA (vs := [_, _]) ag33 sz33 rfl rfl (by repeat first | exact mH | apply mT) rfl) ?_)
  refine L_go rfl (X_p (p_buildA (r := [_, _, _, _, _, _, _, _, _, _, _, _]) ar105 zr105 rfl rfl rfl) ?_)
  refine L_go rfl (X_wr (w_alloc zr105 rfl) ?_)
  rintro _ _ ⟨b4, hb4, rfl, rfl⟩
  refine L_go rfl (X_wr (w_store (cs' := [_, _, _, _, _, _, _, _, _, _, _, _]) sz105 rfl rfl rfl rfl rfl (by repeat first | exact .head | apply SetAt.tail) (Nat.le_of_ble_eq_true rfl) rfl) ?_)
  rintro _ _ ⟨rfl, rfl⟩
  refine L_then (.cons (k := 2) rfl (.cons (k := 3) rfl (.cons (k := 5) rfl (.cons (k := 6) rfl .nil)))) ?_
  refine V_seq ?_
  refine V_seq (V_region rfl ?_)
  refine L_go rfl (X_p (p_assign rfl rfl) ?_)
  refine L_then (.cons (k := 2) rfl (.cons (k := 3) rfl (.cons (k := 5) rfl (.cons (k := 6) rfl (.cons (k := 7) rfl .nil))))) ?_
  refine V_block ?_
  refine V_loopU ?_
  refine LU_step ?_
  refine V_seq ?_
  refine V_seq (V_region rfl ?_)
  refine L_go rfl (X_p (p_move rfl rfl) ?_)
  refine L_go rfl (X_p (p_lss rfl rfl rfl) ?_)
  refine L_then (.cons (k := 2) rfl (.cons (k := 3) rfl (.cons (k := 5) rfl (.cons (k := 6) rfl (.cons (k := 7) rfl (.cons (k := 35) rfl .nil)))))) ?_
  refine V_cond_t rfl rfl ?_
  refine V_skip (then_n ?_)
  refine V_seq ?_
  refine V_block ?_
  refine V_seq (V_draw (.rd 0 (.rd 1 (.rd 2 (.rd 3 (.rd 4 (.rd 5 (.rd 6 (.rd 7 (.rd 8 (.rd 9 (.rd 10 (.rd 11 (.rd 12 (.rd 13 (.rd 14 (.rd 15 (.rd 16 (.rd 17 (.rd 18 (.rd 19 .done)))))))))))))))))))) mixed (by kernel_rfl) rfl ?_)
  refine D_p rfl (.plain rfl) (p_move rfl rfl) ?_
  refine D_p rfl (.plain rfl) (p_idxao ar105 rfl rfl rfl (by omega) (by omega)) ?_
  refine D_p rfl (.plain rfl) (p_fieldo fo33_0 rfl rfl) ?_
  refine D_rd rfl (.plain rfl) (r_load ag3 rfl rfl (by repeat first | exact mH | apply mT) rfl) ?_
  refine D_p rfl (.plain rfl) (p_move rfl rfl) ?_
  refine D_p rfl (.plain rfl) (p_idxao ar105 rfl rfl rfl (by omega) (by omega)) ?_
  refine D_p rfl (.plain rfl) (p_fieldo fo33_0 rfl rfl) ?_
  refine D_rd rfl (.plain rfl) (r_load ag3 rfl rfl (by repeat first | exact mH | apply mT) rfl) ?_
  refine D_p rfl (.plain rfl) (p_lss rfl rfl rfl) ?_
  refine D_p rfl (.plain rfl) (p_move rfl rfl) ?_
  refine D_p rfl (.yes rfl rfl rfl (decide_eq_false (by omega))) (p_move rfl rfl) ?_
  refine D_p rfl (.yes rfl rfl rfl (decide_eq_false (by omega))) (p_idxao ar105 rfl rfl rfl (by omega) (by omega)) ?_
  refine D_p rfl (.yes rfl rfl rfl (decide_eq_false (by omega))) (p_fieldo fo33_1 rfl rfl) ?_
  refine D_rd rfl (.yes rfl rfl rfl (decide_eq_false (by omega))) (r_load ag3 rfl rfl (by repeat first | exact mH | apply mT) rfl) ?_
  refine D_p rfl (.yes rfl rfl rfl (decide_eq_false (by omega))) (p_move rfl rfl) ?_
  refine D_p rfl (.yes rfl rfl rfl (decide_eq_false (by omega))) (p_idxao ar105 rfl rfl rfl (by omega) (by omega)) ?_
  refine D_p rfl (.yes rfl rfl rfl (decide_eq_false (by omega))) (p_fieldo fo33_1 rfl rfl) ?_
  refine D_rd rfl (.yes rfl rfl rfl (decide_eq_false (by omega))) (r_load ag3 rfl rfl (by repeat first | exact mH | apply mT) rfl) ?_
  refine D_p rfl (.yes rfl rfl rfl (decide_eq_false (by omega))) (p_gtr rfl rfl rfl) ?_
  refine D_p rfl (.plain rfl) (p_pick_f rfl rfl (decide_eq_false (by omega)) rfl) ?_
  refine D_then (.cons (k := 2) rfl (.cons (k := 3) rfl (.cons (k := 5) rfl (.cons (k := 6) rfl (.cons (k := 7) rfl (.cons (k := 57) rfl .nil)))))) ?_
  refine V_cond_f rfl (decide_eq_false (by omega)) ?_
  refine V_skip (blk_n (then_n ?_))
  refine V_region rfl ?_
  refine L_go rfl (X_p (p_move rfl rfl) ?_)
  first | refine L_go rfl (X_p (p_add' rfl rfl rfl (by unfold InI; omega)) ?_) | refine L_go rfl (X_p (p_add rfl rfl rfl) ?_)
  refine L_go rfl (X_p (p_assign rfl rfl) ?_)
  refine L_keep (.cons (k := 2) rfl (.cons (k := 3) rfl (.cons (k := 5) rfl (.cons (k := 6) rfl (.cons (k := 7) rfl .nil))))) (then_n ?_)
  refine LU_step ?_
  refine V_seq ?_
  refine V_seq (V_region rfl ?_)
  refine L_go rfl (X_p (p_move rfl rfl) ?_)
  refine L_go rfl (X_p (p_lss rfl rfl rfl) ?_)
  refine L_then (.cons (k := 2) rfl (.cons (k := 3) rfl (.cons (k := 5) rfl (.cons (k := 6) rfl (.cons (k := 7) rfl (.cons (k := 35) rfl .nil)))))) ?_
  refine V_cond_t rfl rfl ?_
  refine V_skip (then_n ?_)
  refine V_seq ?_
  refine V_block ?_
  refine V_seq (V_draw (.rd 0 (.rd 1 (.rd 2 (.rd 3 (.rd 4 (.rd 5 (.rd 6 (.rd 7 (.rd 8 (.rd 9 (.rd 10 (.rd 11 (.rd 12 (.rd 13 (.rd 14 (.rd 15 (.rd 16 (.rd 17 (.rd 18 (.rd 19 .done)))))))))))))))))))) mixed (by kernel_rfl) rfl ?_)
  refine D_p rfl (.plain rfl) (p_move rfl rfl) ?_
  refine D_p rfl (.plain rfl) (p_idxao ar105 rfl rfl rfl (by omega) (by omega)) ?_
  refine D_p rfl (.plain rfl) (p_fieldo fo33_0 rfl rfl) ?_
  refine D_rd rfl (.plain rfl) (r_load ag3 rfl rfl (by repeat first | exact mH | apply mT) rfl) ?_
  refine D_p rfl (.plain rfl) (p_move rfl rfl) ?_
  refine D_p rfl (.plain rfl) (p_idxao ar105 rfl rfl rfl (by omega) (by omega)) ?_
  refine D_p rfl (.plain rfl) (p_fieldo fo33_0 rfl rfl) ?_
  refine D_rd rfl (.plain rfl) (r_load ag3 rfl rfl (by repeat first | exact mH | apply mT) rfl) ?_
  refine D_p rfl (.plain rfl) (p_lss rfl rfl rfl) ?_
  refine D_p rfl (.plain rfl) (p_move rfl rfl) ?_
  refine D_p rfl (.yes rfl rfl rfl (decide_eq_false (by omega))) (p_move rfl rfl) ?_
  refine D_p rfl (.yes rfl rfl rfl (decide_eq_false (by omega))) (p_idxao ar105 rfl rfl rfl (by omega) (by omega)) ?_
  refine D_p rfl (.yes rfl rfl rfl (decide_eq_false (by omega))) (p_fieldo fo33_1 rfl rfl) ?_
  refine D_rd rfl (.yes rfl rfl rfl (decide_eq_false (by omega))) (r_load ag3 rfl rfl (by repeat first | exact mH | apply mT) rfl) ?_
  refine D_p rfl (.yes rfl rfl rfl (decide_eq_false (by omega))) (p_move rfl rfl) ?_
  refine D_p rfl (.yes rfl rfl rfl (decide_eq_false (by omega))) (p_idxao ar105 rfl rfl rfl (by omega) (by omega)) ?_
  refine D_p rfl (.yes rfl rfl rfl (decide_eq_false (by omega))) (p_fieldo fo33_1 rfl rfl) ?_
  refine D_rd rfl (.yes rfl rfl rfl (decide_eq_false (by omega))) (r_load ag3 rfl rfl (by repeat first | exact mH | apply mT) rfl) ?_
  refine D_p rfl (.yes rfl rfl rfl (decide_eq_false (by omega))) (p_gtr rfl rfl rfl) ?_
  refine D_p rfl (.plain rfl) (p_pick_f rfl rfl (decide_eq_false (by omega)) rfl) ?_
  refine D_then (.cons (k := 2) rfl (.cons (k := 3) rfl (.cons (k := 5) rfl (.cons (k := 6) rfl (.cons (k := 7) rfl (.cons (k := 57) rfl .nil)))))) ?_
  refine V_cond_f rfl (decide_eq_false (by omega)) ?_
  refine V_skip (blk_n (then_n ?_))
  refine V_region rfl ?_
  refine L_go rfl (X_p (p_move rfl rfl) ?_)
  first | refine L_go rfl (X_p (p_add' rfl rfl rfl (by unfold InI; omega)) ?_) | refine L_go rfl (X_p (p_add rfl rfl rfl) ?_)
  refine L_go rfl (X_p (p_assign rfl rfl) ?_)
  refine L_keep (.cons (k := 2) rfl (.cons (k := 3) rfl (.cons (k := 5) rfl (.cons (k := 6) rfl (.cons (k := 7) rfl .nil))))) (then_n ?_)
  refine LU_step ?_
  refine V_seq ?_
  refine V_seq (V_region rfl ?_)
  refine L_go rfl (X_p (p_move rfl rfl) ?_)
  refine L_go rfl (X_p (p_lss rfl rfl rfl) ?_)
  refine L_then (.cons (k := 2) rfl (.cons (k := 3) rfl (.cons (k := 5) rfl (.cons (k := 6) rfl (.cons (k := 7) rfl (.cons (k := 35) rfl .nil)))))) ?_
  refine V_cond_t rfl rfl ?_
  refine V_skip (then_n ?_)
  refine V_seq ?_
  refine V_block ?_
  refine V_seq (V_draw (.rd 0 (.rd 1 (.rd 2 (.rd 3 (.rd 4 (.rd 5 (.rd 6 (.rd 7 (.rd 8 (.rd 9 (.rd 10 (.rd 11 (.rd 12 (.rd 13 (.rd 14 (.rd 15 (.rd 16 (.rd 17 (.rd 18 (.rd 19 .done)))))))))))))))))))) mixed (by kernel_rfl) rfl ?_)
  refine D_p rfl (.plain rfl) (p_move rfl rfl) ?_
  refine D_p rfl (.plain rfl) (p_idxao ar105 rfl rfl rfl (by omega) (by omega)) ?_
  refine D_p rfl (.plain rfl) (p_fieldo fo33_0 rfl rfl) ?_
  refine D_rd rfl (.plain rfl) (r_load ag3 rfl rfl (by repeat first | exact mH | apply mT) rfl) ?_
  refine D_p rfl (.plain rfl) (p_move rfl rfl) ?_
  refine D_p rfl (.plain rfl) (p_idxao ar105 rfl rfl rfl (by omega) (by omega)) ?_
  refine D_p rfl (.plain rfl) (p_fieldo fo33_0 rfl rfl) ?_
  refine D_rd rfl (.plain rfl) (r_load ag3 rfl rfl (by repeat first | exact mH | apply mT) rfl) ?_
  refine D_p rfl (.plain rfl) (p_lss rfl rfl rfl) ?_
  refine D_p rfl (.plain rfl) (p_move rfl rfl) ?_
  refine D_p rfl (.yes rfl rfl rfl (decide_eq_false (by omega))) (p_move rfl rfl) ?_
  refine D_p rfl (.yes rfl rfl rfl (decide_eq_false (by omega))) (p_idxao ar105 rfl rfl rfl (by omega) (by omega)) ?_
  refine D_p rfl (.yes rfl rfl rfl (decide_eq_false (by omega))) (p_fieldo fo33_1 rfl rfl) ?_
  refine D_rd rfl (.yes rfl rfl rfl (decide_eq_false (by omega))) (r_load ag3 rfl rfl (by repeat first | exact mH | apply mT) rfl) ?_
  refine D_p rfl (.yes rfl rfl rfl (decide_eq_false (by omega))) (p_move rfl rfl) ?_
  refine D_p rfl (.yes rfl rfl rfl (decide_eq_false (by omega))) (p_idxao ar105 rfl rfl rfl (by omega) (by omega)) ?_
  refine D_p rfl (.yes rfl rfl rfl (decide_eq_false (by omega))) (p_fieldo fo33_1 rfl rfl) ?_
  refine D_rd rfl (.yes rfl rfl rfl (decide_eq_false (by omega))) (r_load ag3 rfl rfl (by repeat first | exact mH | apply mT) rfl) ?_
  refine D_p rfl (.yes rfl rfl rfl (decide_eq_false (by omega))) (p_gtr rfl rfl rfl) ?_
  refine D_p rfl (.plain rfl) (p_pick_f rfl rfl (decide_eq_false (by omega)) rfl) ?_
  refine D_then (.cons (k := 2) rfl (.cons (k := 3) rfl (.cons (k := 5) rfl (.cons (k := 6) rfl (.cons (k := 7) rfl (.cons (k := 57) rfl .nil)))))) ?_
  refine V_cond_f rfl (decide_eq_false (by omega)) ?_
  refine V_skip (blk_n (then_n ?_))
  refine V_region rfl ?_
  refine L_go rfl (X_p (p_move rfl rfl) ?_)
  first | refine L_go rfl (X_p (p_add' rfl rfl rfl (by unfold InI; omega)) ?_) | refine L_go rfl (X_p (p_add rfl rfl rfl) ?_)
  refine L_go rfl (X_p (p_assign rfl rfl) ?_)
  refine L_keep (.cons (k := 2) rfl (.cons (k := 3) rfl (.cons (k := 5) rfl (.cons (k := 6) rfl (.cons (k := 7) rfl .nil))))) (then_n ?_)
  refine LU_step ?_
  refine V_seq ?_
  refine V_seq (V_region rfl ?_)
  refine L_go rfl (X_p (p_move rfl rfl) ?_)
  refine L_go rfl (X_p (p_lss rfl rfl rfl) ?_)
  refine L_then (.cons (k := 2) rfl (.cons (k := 3) rfl (.cons (k := 5) rfl (.cons (k := 6) rfl (.cons (k := 7) rfl (.cons (k := 35) rfl .nil)))))) ?_
  refine V_cond_t rfl rfl ?_
  refine V_skip (then_n ?_)
  refine V_seq ?_
  refine V_block ?_
  refine V_seq (V_draw (.rd 0 (.rd 1 (.rd 2 (.rd 3 (.rd 4 (.rd 5 (.rd 6 (.rd 7 (.rd 8 (.rd 9 (.rd 10 (.rd 11 (.rd 12 (.rd 13 (.rd 14 (.rd 15 (.rd 16 (.rd 17 (.rd 18 (.rd 19 .done)))))))))))))))))))) mixed (by kernel_rfl) rfl ?_)
  refine D_p rfl (.plain rfl) (p_move rfl rfl) ?_
  refine D_p rfl (.plain rfl) (p_idxao ar105 rfl rfl rfl (by omega) (by omega)) ?_
  refine D_p rfl (.plain rfl) (p_fieldo fo33_0 rfl rfl) ?_
  refine D_rd rfl (.plain rfl) (r_load ag3 rfl rfl (by repeat first | exact mH | apply mT) rfl) ?_
  refine D_p rfl (.plain rfl) (p_move rfl rfl) ?_
  refine D_p rfl (.plain rfl) (p_idxao ar105 rfl rfl rfl (by omega) (by omega)) ?_
  refine D_p rfl (.plain rfl) (p_fieldo fo33_0 rfl rfl) ?_
  refine D_rd rfl (.plain rfl) (r_load ag3 rfl rfl (by repeat first | exact mH | apply mT) rfl) ?_
  refine D_p rfl (.plain rfl) (p_lss rfl rfl rfl) ?_
  refine D_p rfl (.plain rfl) (p_move rfl rfl) ?_
  refine D_p rfl (.yes rfl rfl rfl (decide_eq_false (by omega))) (p_move rfl rfl) ?_
  refine D_p rfl (.yes rfl rfl rfl (decide_eq_false (by omega))) (p_idxao ar105 rfl rfl rfl (by omega) (by omega)) ?_
  refine D_p rfl (.yes rfl rfl rfl (decide_eq_false (by omega))) (p_fieldo fo33_1 rfl rfl) ?_
  refine D_rd rfl (.yes rfl rfl rfl (decide_eq_false (by omega))) (r_load ag3 rfl rfl (by repeat first | exact mH | apply mT) rfl) ?_
  refine D_p rfl (.yes rfl rfl rfl (decide_eq_false (by omega))) (p_move rfl rfl) ?_
  refine D_p rfl (.yes rfl rfl rfl (decide_eq_false (by omega))) (p_idxao ar105 rfl rfl rfl (by omega) (by omega)) ?_
  refine D_p rfl (.yes rfl rfl rfl (decide_eq_false (by omega))) (p_fieldo fo33_1 rfl rfl) ?_
  refine D_rd rfl (.yes rfl rfl rfl (decide_eq_false (by omega))) (r_load ag3 rfl rfl (by repeat first | exact mH | apply mT) rfl) ?_
  refine D_p rfl (.yes rfl rfl rfl (decide_eq_false (by omega))) (p_gtr rfl rfl rfl) ?_
  refine D_p rfl (.plain rfl) (p_pick_f rfl rfl (decide_eq_false (by omega)) rfl) ?_
  refine D_then (.cons (k := 2) rfl (.cons (k := 3) rfl (.cons (k := 5) rfl (.cons (k := 6) rfl (.cons (k := 7) rfl (.cons (k := 57) rfl .nil)))))) ?_
  refine V_cond_f rfl (decide_eq_false (by omega)) ?_
  refine V_skip (blk_n (then_n ?_))
  refine V_region rfl ?_
  refine L_go rfl (X_p (p_move rfl rfl) ?_)
  first | refine L_go rfl (X_p (p_add' rfl rfl rfl (by unfold InI; omega)) ?_) | refine L_go rfl (X_p (p_add rfl rfl rfl) ?_)
  refine L_go rfl (X_p (p_assign rfl rfl) ?_)
  refine L_keep (.cons (k := 2) rfl (.cons (k := 3) rfl (.cons (k := 5) rfl (.cons (k := 6) rfl (.cons (k := 7) rfl .nil))))) (then_n ?_)
  refine LU_step ?_
  refine V_seq ?_
  refine V_seq (V_region rfl ?_)
  refine L_go rfl (X_p (p_move rfl rfl) ?_)
  refine L_go rfl (X_p (p_lss rfl rfl rfl) ?_)
  refine L_then (.cons (k := 2) rfl (.cons (k := 3) rfl (.cons (k := 5) rfl (.cons (k := 6) rfl (.cons (k := 7) rfl (.cons (k := 35) rfl .nil)))))) ?_
  refine V_cond_t rfl rfl ?_
  refine V_skip (then_n ?_)
  refine V_seq ?_
  refine V_block ?_
  refine V_seq (V_draw (.rd 0 (.rd 1 (.rd 2 (.rd 3 (.rd 4 (.rd 5 (.rd 6 (.rd 7 (.rd 8 (.rd 9 (.rd 10 (.rd 11 (.rd 12 (.rd 13 (.rd 14 (.rd 15 (.rd 16 (.rd 17 (.rd 18 (.rd 19 .done)))))))))))))))))))) mixed (by kernel_rfl) rfl ?_)
  refine D_p rfl (.plain rfl) (p_move rfl rfl) ?_
  refine D_p rfl (.plain rfl) (p_idxao ar105 rfl rfl rfl (by omega) (by omega)) ?_
  refine D_p rfl (.plain rfl) (p_fieldo fo33_0 rfl rfl) ?_
  refine D_rd rfl (.plain rfl) (r_load ag3 rfl rfl (by repeat first | exact mH | apply mT) rfl) ?_
  refine D_p rfl (.plain rfl) (p_move rfl rfl) ?_
  refine D_p rfl (.plain rfl) (p_idxao ar105 rfl rfl rfl (by omega) (by omega)) ?_
  refine D_p rfl (.plain rfl) (p_fieldo fo33_0 rfl rfl) ?_
  refine D_rd rfl (.plain rfl) (r_load ag3 rfl rfl (by repeat first | exact mH | apply mT) rfl) ?_
  refine D_p rfl (.plain rfl) (p_lss rfl rfl rfl) ?_
  refine D_p rfl (.plain rfl) (p_move rfl rfl) ?_
  refine D_p rfl (.yes rfl rfl rfl (decide_eq_false (by omega))) (p_move rfl rfl) ?_
  refine D_p rfl (.yes rfl rfl rfl (decide_eq_false (by omega))) (p_idxao ar105 rfl rfl rfl (by omega) (by omega)) ?_
  refine D_p rfl (.yes rfl rfl rfl (decide_eq_false (by omega))) (p_fieldo fo33_1 rfl rfl) ?_
  refine D_rd rfl (.yes rfl rfl rfl (decide_eq_false (by omega))) (r_load ag3 rfl rfl (by repeat first | exact mH | apply mT) rfl) ?_
  refine D_p rfl (.yes rfl rfl rfl (decide_eq_false (by omega))) (p_move rfl rfl) ?_
  refine D_p rfl (.yes rfl rfl rfl (decide_eq_false (by omega))) (p_idxao ar105 rfl rfl rfl (by omega) (by omega)) ?_
  refine D_p rfl (.yes rfl rfl rfl (decide_eq_false (by omega))) (p_fieldo fo33_1 rfl rfl) ?_
  refine D_rd rfl (.yes rfl rfl rfl (decide_eq_false (by omega))) (r_load ag3 rfl rfl (by repeat first | exact mH | apply mT) rfl) ?_
  refine D_p rfl (.yes rfl rfl rfl (decide_eq_false (by omega))) (p_gtr rfl rfl rfl) ?_
  refine D_p rfl (.plain rfl) (p_pick_f rfl rfl (decide_eq_false (by omega)) rfl) ?_
  refine D_then (.cons (k := 2) rfl (.cons (k := 3) rfl (.cons (k := 5) rfl (.cons (k := 6) rfl (.cons (k := 7) rfl (.cons (k := 57) rfl .nil)))))) ?_
  refine V_cond_f rfl (decide_eq_false (by omega)) ?_
  refine V_skip (blk_n (then_n ?_))
  refine V_region rfl ?_
  refine L_go rfl (X_p (p_move rfl rfl) ?_)
  first | refine L_go rfl (X_p (p_add' rfl rfl rfl (by unfold InI; omega)) ?_) | refine L_go rfl (X_p (p_add rfl rfl rfl) ?_)
  refine L_go rfl (X_p (p_assign rfl rfl) ?_)
  refine L_keep (.cons (k := 2) rfl (.cons (k := 3) rfl (.cons (k := 5) rfl (.cons (k := 6) rfl (.cons (k := 7) rfl .nil))))) (then_n ?_)
  refine LU_step ?_
  refine V_seq ?_
  refine V_seq (V_region rfl ?_)
  refine L_go rfl (X_p (p_move rfl rfl) ?_)
  refine L_go rfl (X_p (p_lss rfl rfl rfl) ?_)
  refine L_then (.cons (k := 2) rfl (.cons (k := 3) rfl (.cons (k := 5) rfl (.cons (k := 6) rfl (.cons (k := 7) rfl (.cons (k := 35) rfl .nil)))))) ?_
  refine V_cond_t rfl rfl ?_
  refine V_skip (then_n ?_)
  refine V_seq ?_
  refine V_block ?_
  refine V_seq (V_draw (.rd 0 (.rd 1 (.rd 2 (.rd 3 (.rd 4 (.rd 5 (.rd 6 (.rd 7 (.rd 8 (.rd 9 (.rd 10 (.rd 11 (.rd 12 (.rd 13 (.rd 14 (.rd 15 (.rd 16 (.rd 17 (.rd 18 (.rd 19 .done)))))))))))))))))))) mixed (by kernel_rfl) rfl ?_)
  refine D_p rfl (.plain rfl) (p_move rfl rfl) ?_
  refine D_p rfl (.plain rfl) (p_idxao ar105 rfl rfl rfl (by omega) (by omega)) ?_
  refine D_p rfl (.plain rfl) (p_fieldo fo33_0 rfl rfl) ?_
  refine D_rd rfl (.plain rfl) (r_load ag3 rfl rfl (by repeat first | exact mH | apply mT) rfl) ?_
  refine D_p rfl (.plain rfl) (p_move rfl rfl) ?_
  refine D_p rfl (.plain rfl) (p_idxao ar105 rfl rfl rfl (by omega) (by omega)) ?_
  refine D_p rfl (.plain rfl) (p_fieldo fo33_0 rfl rfl) ?_
  refine D_rd rfl (.plain rfl) (r_load ag3 rfl rfl (by repeat first | exact mH | apply mT) rfl) ?_
  refine D_p rfl (.plain rfl) (p_lss rfl rfl rfl) ?_
  refine D_p rfl (.plain rfl) (p_move rfl rfl) ?_
  refine D_p rfl (.yes rfl rfl rfl (decide_eq_false (by omega))) (p_move rfl rfl) ?_
  refine D_p rfl (.yes rfl rfl rfl (decide_eq_false (by omega))) (p_idxao ar105 rfl rfl rfl (by omega) (by omega)) ?_
  refine D_p rfl (.yes rfl rfl rfl (decide_eq_false (by omega))) (p_fieldo fo33_1 rfl rfl) ?_
  refine D_rd rfl (.yes rfl rfl rfl (decide_eq_false (by omega))) (r_load ag3 rfl rfl (by repeat first | exact mH | apply mT) rfl) ?_
  refine D_p rfl (.yes rfl rfl rfl (decide_eq_false (by omega))) (p_move rfl rfl) ?_
  refine D_p rfl (.yes rfl rfl rfl (decide_eq_false (by omega))) (p_idxao ar105 rfl rfl rfl (by omega) (by omega)) ?_
  refine D_p rfl (.yes rfl rfl rfl (decide_eq_false (by omega))) (p_fieldo fo33_1 rfl rfl) ?_
  refine D_rd rfl (.yes rfl rfl rfl (decide_eq_false (by omega))) (r_load ag3 rfl rfl (by repeat first | exact mH | apply mT) rfl) ?_
  refine D_p rfl (.yes rfl rfl rfl (decide_eq_false (by omega))) (p_gtr rfl rfl rfl) ?_
  refine D_p rfl (.plain rfl) (p_pick_f rfl rfl (decide_eq_false (by omega)) rfl) ?_
  refine D_then (.cons (k := 2) rfl (.cons (k := 3) rfl (.cons (k := 5) rfl (.cons (k := 6) rfl (.cons (k := 7) rfl (.cons (k := 57) rfl .nil)))))) ?_
  refine V_cond_f rfl (decide_eq_false (by omega)) ?_
  refine V_skip (blk_n (then_n ?_))
  refine V_region rfl ?_
  refine L_go rfl (X_p (p_move rfl rfl) ?_)
  first | refine L_go rfl (X_p (p_add' rfl rfl rfl (by unfold InI; omega)) ?_) | refine L_go rfl (X_p (p_add rfl rfl rfl) ?_)
  refine L_go rfl (X_p (p_assign rfl rfl) ?_)
  refine L_keep (.cons (k := 2) rfl (.cons (k := 3) rfl (.cons (k := 5) rfl (.cons (k := 6) rfl (.cons (k := 7) rfl .nil))))) (then_n ?_)
  refine LU_step ?_
  refine V_seq ?_
  refine V_seq (V_region rfl ?_)
  refine L_go rfl (X_p (p_move rfl rfl) ?_)
  refine L_go rfl (X_p (p_lss rfl rfl rfl) ?_)
  refine L_then (.cons (k := 2) rfl (.cons (k := 3) rfl (.cons (k := 5) rfl (.cons (k := 6) rfl (.cons (k := 7) rfl (.cons (k := 35) rfl .nil)))))) ?_
  refine V_cond_f rfl rfl ?_
  refine V_exit (then_e (then_e (blk_e rfl (then_n ?_))))
  refine V_seq (V_region rfl ?_)
  refine L_go rfl (X_p (p_fieldo fo35_0 rfl rfl) ?_)
  refine L_go rfl (X_rd (r_load ag3 rfl rfl (by repeat first | exact mH | apply mT) rfl) ?_)
  refine L_go rfl (X_p (p_fieldo fo35_0 rfl rfl) ?_)
  refine L_go rfl (X_rd (r_load ag3 rfl rfl (by repeat first | exact mH | apply mT) rfl) ?_)
  refine L_go rfl (X_p (p_eql rfl rfl rfl) ?_)
  refine L_go rfl (X_p (p_assign rfl rfl) ?_)
  refine L_then (.cons (k := 4) rfl .nil) ?_
  refine V_ret ?_
  refine Leave.nil (.tmp rfl .nil) ?_
  show Value.bool (decide (a.at_ = b.at_)) = _; rw [decide_eq_true h0]
theorem lwide_c (b : Box) (hb : BoxB 1000000000000000 b) (w : World) : FnP Try.prog 42 [.agg (Box.cells b).toArray] w (.int .i64 (wideB b)) := by
  obtain ⟨hx, hy, hz⟩ := hb
  unfold SpanB at hx hy hz
  refine fn_pure Try.func42 rfl (by kernel_rfl) Try.ntmps42 Try.results42 rfl ?_
  refine V_seq (V_region rfl ?_)
  refine L_go rfl (X_wr (w_box rfl rfl) ?_)
  rintro _ _ ⟨b1, hb1, rfl, rfl⟩
  refine L_go rfl (X_p (p_assign rfl rfl) ?_)
  refine L_then (.cons (k := 1) rfl .nil) ?_
  refine V_seq (V_region rfl ?_)
  refine L_go rfl (X_p (p_fieldo fo35_1 rfl rfl) ?_)
  refine L_go rfl (X_p (p_fieldo fo33_1 rfl rfl) ?_)
  refine L_go rfl (X_rd (r_load ag3 rfl rfl (by repeat first | exact mH | apply mT) rfl) ?_)
  refine L_go rfl (X_p (p_fieldo fo35_1 rfl rfl) ?_)
  refine L_go rfl (X_p (p_fieldo fo33_0 rfl rfl) ?_)
  refine L_go rfl (X_rd (r_load ag3 rfl rfl (by repeat first | exact mH | apply mT) rfl) ?_)
  first | refine L_go rfl (X_p (p_sub' rfl rfl rfl (by unfold InI; omega)) ?_) | refine L_go rfl (X_p (p_sub rfl rfl rfl) ?_)
  refine L_go rfl (X_p (p_fieldo fo35_2 rfl rfl) ?_)
  refine L_go rfl (X_p (p_fieldo fo33_1 rfl rfl) ?_)
  refine L_go rfl (X_rd (r_load ag3 rfl rfl (by repeat first | exact mH | apply mT) rfl) ?_)
  refine L_go rfl (X_p (p_fieldo fo35_2 rfl rfl) ?_)
  refine L_go rfl (X_p (p_fieldo fo33_0 rfl rfl) ?_)
  refine L_go rfl (X_rd (r_load ag3 rfl rfl (by repeat first | exact mH | apply mT) rfl) ?_)
  first | refine L_go rfl (X_p (p_sub' rfl rfl rfl (by unfold InI; omega)) ?_) | refine L_go rfl (X_p (p_sub rfl rfl rfl) ?_)
  refine L_go rfl (X_p (p_fieldo fo35_3 rfl rfl) ?_)
  refine L_go rfl (X_p (p_fieldo fo33_1 rfl rfl) ?_)
  refine L_go rfl (X_rd (r_load ag3 rfl rfl (by repeat first | exact mH | apply mT) rfl) ?_)
  refine L_go rfl (X_p (p_fieldo fo35_3 rfl rfl) ?_)
  refine L_go rfl (X_p (p_fieldo fo33_0 rfl rfl) ?_)
  refine L_go rfl (X_rd (r_load ag3 rfl rfl (by repeat first | exact mH | apply mT) rfl) ?_)
  first | refine L_go rfl (X_p (p_sub' rfl rfl rfl (by unfold InI; omega)) ?_) | refine L_go rfl (X_p (p_sub rfl rfl rfl) ?_)
  refine L_go rfl (X_p (p_max3 rfl rfl rfl rfl) ?_)
  refine L_go rfl (X_p (p_assign rfl rfl) ?_)
  refine L_then (.cons (k := 2) rfl .nil) ?_
  refine V_ret ?_
  refine Leave.nil (.tmp rfl .nil) ?_
  rfl
theorem lmeet_c (a b : Span) (w : World) : FnP Try.prog 41 [.agg #[.int .i64 a.lo, .int .i64 a.hi], .agg #[.int .i64 b.lo, .int .i64 b.hi]] w (.bool (meetS a b)) := by
  refine fn_pure Try.func41 rfl (by kernel_rfl) Try.ntmps41 Try.results41 rfl ?_
  refine V_seq (V_region rfl ?_)
  refine L_go rfl (X_wr (w_box rfl rfl) ?_)
  rintro _ _ ⟨b1, hb1, rfl, rfl⟩
  refine L_go rfl (X_wr (w_box rfl rfl) ?_)
  rintro _ _ ⟨b2, hb2, rfl, rfl⟩
  refine L_go rfl (X_p (p_assign rfl rfl) ?_)
  refine L_then (.cons (k := 2) rfl (.cons (k := 3) rfl .nil)) ?_
  refine V_seq (V_region rfl ?_)
  refine L_go rfl (X_p (p_fieldo fo33_0 rfl rfl) ?_)
  refine L_go rfl (X_rd (r_load ag3 rfl rfl (by repeat first | exact mH | apply mT) rfl) ?_)
  refine L_go rfl (X_p (p_fieldo fo33_1 rfl rfl) ?_)
  refine L_go rfl (X_rd (r_load ag3 rfl rfl (by repeat first | exact mH | apply mT) rfl) ?_)
  refine L_go rfl (X_p (p_leq rfl rfl rfl) ?_)
  refine L_go rfl (X_p (p_move rfl rfl) ?_)
  refine L_cases (d := 10) rfl ?_ ?_
  · intro g1; have g1' := g1; try simp only [td] at g1'
    refine L_yes rfl rfl rfl g1 (X_p (p_fieldo fo33_0 rfl rfl) ?_)
    refine L_yes rfl rfl rfl g1 (X_rd (r_load ag3 rfl rfl (by repeat first | exact mH | apply mT) rfl) ?_)
    refine L_yes rfl rfl rfl g1 (X_p (p_fieldo fo33_1 rfl rfl) ?_)
    refine L_yes rfl rfl rfl g1 (X_rd (r_load ag3 rfl rfl (by repeat first | exact mH | apply mT) rfl) ?_)
    refine L_yes rfl rfl rfl g1 (X_p (p_leq rfl rfl rfl) ?_)
    refine L_go rfl (X_p (p_pick_t rfl rfl g1 rfl) ?_)
    refine L_go rfl (X_p (p_assign rfl rfl) ?_)
    refine L_then (.cons (k := 4) rfl .nil) ?_
    refine V_ret ?_
    refine Leave.nil (.tmp rfl .nil) ?_
    show Value.bool _ = _; rw [meetS, decide_eq_true g1']; rfl
  · intro g1; have g1' := g1; try simp only [td] at g1'
    refine L_no rfl rfl rfl g1 ?_
    refine L_no rfl rfl rfl g1 ?_
    refine L_no rfl rfl rfl g1 ?_
    refine L_no rfl rfl rfl g1 ?_
    refine L_no rfl rfl rfl g1 ?_
    refine L_go rfl (X_p (p_pick_f rfl rfl g1 rfl) ?_)
    refine L_go rfl (X_p (p_assign rfl rfl) ?_)
    refine L_then (.cons (k := 4) rfl .nil) ?_
    refine V_ret ?_
    refine Leave.nil (.tmp rfl .nil) ?_
    show Value.bool _ = _; rw [meetS, decide_eq_false (Int.not_le.2 g1')]; rfl

end Go.Proofs.Ytclbbchehjapjaa
