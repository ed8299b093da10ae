/- Ytclbbchehjapjab: what is done with boxes. -/
import Derived.Test.YtclbbchehjapjabT6
import Derived.Test.YtclbbchehjapjabP
set_option linter.all false
namespace Go.Proofs.Ytclbbchehjapjab
open Go.Vc Go.Tk
set_option maxRecDepth 100000
set_option maxHeartbeats 4000000 in
theorem meet_c (a b : Box) (w : World) : FnP Try.prog 59 [.agg (Box.cells a).toArray, .agg (Box.cells b).toArray] w (.bool (meetB a b)) := by
  refine fn_pure Try.func59 rfl (by kernel_rfl) Try.ntmps59 Try.results59 rfl ?_
  refine V_seq (V_region rfl ?_)
  refine L_go rfl (X_wr (w_box rfl rfl) ?_)
  rintro _ _ ⟨b1, hb1, rfl, rfl⟩
  refine L_go rfl (X_wr (w_box rfl rfl) ?_)
  rintro _ _ ⟨b2, hb2, rfl, rfl⟩
  refine L_go rfl (X_p (p_assign rfl rfl) ?_)
  refine L_then (.cons (k := 2) rfl (.cons (k := 3) rfl .nil)) ?_
  refine V_seq (V_region rfl ?_)
  refine L_go rfl (X_wr (w_callP rfl rfl rfl (fun w hg => parts_c b2 w)) ?_)
  rintro _ _ ⟨rfl, rfl⟩
  refine L_go rfl (X_wr (w_alloc zr95 rfl) ?_)
  rintro _ _ ⟨b3, hb3, rfl, rfl⟩
  refine L_go rfl (X_wr (w_store (cs' := [_, _, _, _, _, _]) sz95 rfl rfl rfl rfl rfl (by repeat first | exact .head | apply SetAt.tail) (Nat.le_of_ble_eq_true rfl) rfl) ?_)
  rintro _ _ ⟨rfl, rfl⟩
  refine L_then (.cons (k := 2) rfl (.cons (k := 5) rfl .nil)) ?_
  refine V_seq ?_
  refine V_seq (V_region rfl ?_)
  refine L_go rfl (X_wr (w_callP rfl rfl rfl (fun w hg => parts_c b1 w)) ?_)
  rintro _ _ ⟨rfl, rfl⟩
  refine L_go rfl (X_p (p_move rfl rfl) ?_)
  refine L_then (.cons (k := 5) rfl (.cons (k := 9) rfl (.cons (k := 10) rfl .nil))) ?_
  refine V_block ?_
  refine V_loopU ?_
  refine LU_step ?_
  refine V_seq (V_region rfl ?_)
  refine L_go rfl (X_p (p_lss rfl rfl rfl) ?_)
  refine L_then (.cons (k := 5) rfl (.cons (k := 9) rfl (.cons (k := 10) rfl (.cons (k := 11) rfl .nil)))) ?_
  refine V_seq ?_
  refine V_cond_t rfl rfl ?_
  refine V_skip (then_n ?_)
  refine V_seq ?_
  refine V_block ?_
  refine V_seq (V_region rfl ?_)
  refine L_go rfl (X_p (p_move rfl rfl) ?_)
  refine L_go rfl (X_p (p_at un95 ag94 sz94 rfl rfl rfl (by omega) (by omega) rfl) ?_)
  refine L_go rfl (X_p (p_assign rfl rfl) ?_)
  refine L_go rfl (X_p (p_assign rfl rfl) ?_)
  refine L_then (.cons (k := 5) rfl (.cons (k := 6) rfl (.cons (k := 7) rfl (.cons (k := 9) rfl (.cons (k := 10) rfl .nil))))) ?_
  refine V_seq (V_draw (.rd 0 (.rd 1 (.rd 2 (.rd 3 (.rd 4 (.rd 5 (.rd 6 (.rd 7 (.rd 8 (.rd 9 (.rd 10 (.rd 11 (.rd 12 (.rd 13 (.rd 14 (.rd 15 (.rd 16 (.rd 17 (.rd 18 (.rd 19 (.rd 20 (.rd 21 (.rd 22 (.rd 23 .done)))))))))))))))))))))))) mixed (by kernel_rfl) rfl ?_)
  refine D_p rfl (.plain rfl) (p_move rfl rfl) ?_
  refine D_p rfl (.plain rfl) (p_nil rfl rfl) ?_
  refine D_p rfl (.plain rfl) (p_fieldo fo32_0 rfl rfl) ?_
  refine D_rd rfl (.plain rfl) (r_load ag3 rfl rfl (by repeat first | exact mH | apply mT) rfl) ?_
  refine D_p rfl (.plain rfl) (p_move rfl rfl) ?_
  refine D_p rfl (.plain rfl) (p_idxao ar95 rfl rfl rfl (by omega) (by omega)) ?_
  refine D_rd rfl (.plain rfl) (r_load ag94 rfl rfl (by repeat first | exact mH | apply mT) rfl) ?_
  refine D_p rfl (.plain rfl) (p_nil rfl rfl) ?_
  refine D_p rfl (.plain rfl) (p_fieldo fo32_1 rfl rfl) ?_
  refine D_rd rfl (.plain rfl) (r_load ag3 rfl rfl (by repeat first | exact mH | apply mT) rfl) ?_
  refine D_p rfl (.plain rfl) (p_gtr rfl rfl rfl) ?_
  refine D_p rfl (.plain rfl) (p_move rfl rfl) ?_
  refine D_cases (d := 25) rfl ?_ ?_
  · intro g1; have g1' := g1; try simp only [td] at g1'
    refine D_no rfl (.mk' rfl rfl rfl g1) ?_
    refine D_no rfl (.mk' rfl rfl rfl g1) ?_
    refine D_no rfl (.mk' rfl rfl rfl g1) ?_
    refine D_no rfl (.mk' rfl rfl rfl g1) ?_
    refine D_no rfl (.mk' rfl rfl rfl g1) ?_
    refine D_no rfl (.mk' rfl rfl rfl g1) ?_
    refine D_no rfl (.mk' rfl rfl rfl g1) ?_
    refine D_no rfl (.mk' rfl rfl rfl g1) ?_
    refine D_no rfl (.mk' rfl rfl rfl g1) ?_
    refine D_no rfl (.mk' rfl rfl rfl g1) ?_
    refine D_no rfl (.mk' rfl rfl rfl g1) ?_
    refine D_p rfl (.plain rfl) (p_pick_t rfl rfl g1 rfl) ?_
    refine D_then (.cons (k := 5) rfl (.cons (k := 9) rfl (.cons (k := 10) rfl (.cons (k := 37) rfl .nil)))) ?_
    refine V_cond_t rfl rfl ?_
    refine V_seq (V_region rfl ?_)
    refine L_go rfl (X_p (p_assign rfl rfl) ?_)
    refine L_then (.cons (k := 4) rfl .nil) ?_
    refine V_ret (blk_r (then_r (then_r (blk_r (then_r ?_)))))
    refine Leave.nil (.tmp rfl .nil) ?_
    first | (show Value.bool false = _; rw [show meetB a b = false by rw [← Bool.not_eq_true, meetB_iff]; omega]; done) | (show Value.bool true = _; rw [show meetB a b = true by rw [meetB_iff]; omega]; done)
  · intro g1; have g1' := g1; try simp only [td] at g1'
    refine D_p rfl (.yes rfl rfl rfl g1) (p_move rfl rfl) ?_
    refine D_p rfl (.yes rfl rfl rfl g1) (p_idxao ar95 rfl rfl rfl (by omega) (by omega)) ?_
    refine D_rd rfl (.yes rfl rfl rfl g1) (r_load ag94 rfl rfl (by repeat first | exact mH | apply mT) rfl) ?_
    refine D_p rfl (.yes rfl rfl rfl g1) (p_nil rfl rfl) ?_
    refine D_p rfl (.yes rfl rfl rfl g1) (p_fieldo fo32_0 rfl rfl) ?_
    refine D_rd rfl (.yes rfl rfl rfl g1) (r_load ag3 rfl rfl (by repeat first | exact mH | apply mT) rfl) ?_
    refine D_p rfl (.yes rfl rfl rfl g1) (p_move rfl rfl) ?_
    refine D_p rfl (.yes rfl rfl rfl g1) (p_nil rfl rfl) ?_
    refine D_p rfl (.yes rfl rfl rfl g1) (p_fieldo fo32_1 rfl rfl) ?_
    refine D_rd rfl (.yes rfl rfl rfl g1) (r_load ag3 rfl rfl (by repeat first | exact mH | apply mT) rfl) ?_
    refine D_p rfl (.yes rfl rfl rfl g1) (p_gtr rfl rfl rfl) ?_
    refine D_p rfl (.plain rfl) (p_pick_f rfl rfl g1 rfl) ?_
    refine D_then (.cons (k := 5) rfl (.cons (k := 9) rfl (.cons (k := 10) rfl (.cons (k := 37) rfl .nil)))) ?_
    refine V_cond rfl ?_ ?_
    · intro c1; try simp only [td] at c1
      refine V_seq (V_region rfl ?_)
      refine L_go rfl (X_p (p_assign rfl rfl) ?_)
      refine L_then (.cons (k := 4) rfl .nil) ?_
      refine V_ret (blk_r (then_r (then_r (blk_r (then_r ?_)))))
      refine Leave.nil (.tmp rfl .nil) ?_
      first | (show Value.bool false = _; rw [show meetB a b = false by rw [← Bool.not_eq_true, meetB_iff]; omega]; done) | (show Value.bool true = _; rw [show meetB a b = true by rw [meetB_iff]; omega]; done)
    · intro c1; try simp only [td] at c1
      refine V_skip (blk_n (then_n ?_))
      refine V_region rfl ?_
      first | refine L_go rfl (X_p (p_add' rfl rfl rfl (by unfold InI; omega)) ?_) | refine L_go rfl (X_p (p_add rfl rfl rfl) ?_)
      refine L_go rfl (X_p (p_move rfl rfl) ?_)
      refine L_keep (.cons (k := 5) rfl (.cons (k := 9) rfl (.cons (k := 10) rfl .nil))) (then_n ?_)
      refine LU_step ?_
      refine V_seq (V_region rfl ?_)
      refine L_go rfl (X_p (p_lss rfl rfl rfl) ?_)
      refine L_then (.cons (k := 5) rfl (.cons (k := 9) rfl (.cons (k := 10) rfl (.cons (k := 11) rfl .nil)))) ?_
      refine V_seq ?_
      refine V_cond_t rfl rfl ?_
      refine V_skip (then_n ?_)
      refine V_seq ?_
      refine V_block ?_
      refine V_seq (V_region rfl ?_)
      refine L_go rfl (X_p (p_move rfl rfl) ?_)
      refine L_go rfl (X_p (p_at un95 ag94 sz94 rfl rfl rfl (by omega) (by omega) rfl) ?_)
      refine L_go rfl (X_p (p_assign rfl rfl) ?_)
      refine L_go rfl (X_p (p_assign rfl rfl) ?_)
      refine L_then (.cons (k := 5) rfl (.cons (k := 6) rfl (.cons (k := 7) rfl (.cons (k := 9) rfl (.cons (k := 10) rfl .nil))))) ?_
      refine V_seq (V_draw (.rd 0 (.rd 1 (.rd 2 (.rd 3 (.rd 4 (.rd 5 (.rd 6 (.rd 7 (.rd 8 (.rd 9 (.rd 10 (.rd 11 (.rd 12 (.rd 13 (.rd 14 (.rd 15 (.rd 16 (.rd 17 (.rd 18 (.rd 19 (.rd 20 (.rd 21 (.rd 22 (.rd 23 .done)))))))))))))))))))))))) mixed (by kernel_rfl) rfl ?_)
      refine D_p rfl (.plain rfl) (p_move rfl rfl) ?_
      refine D_p rfl (.plain rfl) (p_nil rfl rfl) ?_
      refine D_p rfl (.plain rfl) (p_fieldo fo32_0 rfl rfl) ?_
      refine D_rd rfl (.plain rfl) (r_load ag3 rfl rfl (by repeat first | exact mH | apply mT) rfl) ?_
      refine D_p rfl (.plain rfl) (p_move rfl rfl) ?_
      refine D_p rfl (.plain rfl) (p_idxao ar95 rfl rfl rfl (by omega) (by omega)) ?_
      refine D_rd rfl (.plain rfl) (r_load ag94 rfl rfl (by repeat first | exact mH | apply mT) rfl) ?_
      refine D_p rfl (.plain rfl) (p_nil rfl rfl) ?_
      refine D_p rfl (.plain rfl) (p_fieldo fo32_1 rfl rfl) ?_
      refine D_rd rfl (.plain rfl) (r_load ag3 rfl rfl (by repeat first | exact mH | apply mT) rfl) ?_
      refine D_p rfl (.plain rfl) (p_gtr rfl rfl rfl) ?_
      refine D_p rfl (.plain rfl) (p_move rfl rfl) ?_
      refine D_cases (d := 25) rfl ?_ ?_
      · intro g2; have g2' := g2; try simp only [td] at g2'
        refine D_no rfl (.mk' rfl rfl rfl g2) ?_
        refine D_no rfl (.mk' rfl rfl rfl g2) ?_
        refine D_no rfl (.mk' rfl rfl rfl g2) ?_
        refine D_no rfl (.mk' rfl rfl rfl g2) ?_
        refine D_no rfl (.mk' rfl rfl rfl g2) ?_
        refine D_no rfl (.mk' rfl rfl rfl g2) ?_
        refine D_no rfl (.mk' rfl rfl rfl g2) ?_
        refine D_no rfl (.mk' rfl rfl rfl g2) ?_
        refine D_no rfl (.mk' rfl rfl rfl g2) ?_
        refine D_no rfl (.mk' rfl rfl rfl g2) ?_
        refine D_no rfl (.mk' rfl rfl rfl g2) ?_
        refine D_p rfl (.plain rfl) (p_pick_t rfl rfl g2 rfl) ?_
        refine D_then (.cons (k := 5) rfl (.cons (k := 9) rfl (.cons (k := 10) rfl (.cons (k := 37) rfl .nil)))) ?_
        refine V_cond_t rfl rfl ?_
        refine V_seq (V_region rfl ?_)
        refine L_go rfl (X_p (p_assign rfl rfl) ?_)
        refine L_then (.cons (k := 4) rfl .nil) ?_
        refine V_ret (blk_r (then_r (then_r (blk_r (then_r ?_)))))
        refine Leave.nil (.tmp rfl .nil) ?_
        first | (show Value.bool false = _; rw [show meetB a b = false by rw [← Bool.not_eq_true, meetB_iff]; omega]; done) | (show Value.bool true = _; rw [show meetB a b = true by rw [meetB_iff]; omega]; done)
      · intro g2; have g2' := g2; try simp only [td] at g2'
        refine D_p rfl (.yes rfl rfl rfl g2) (p_move rfl rfl) ?_
        refine D_p rfl (.yes rfl rfl rfl g2) (p_idxao ar95 rfl rfl rfl (by omega) (by omega)) ?_
        refine D_rd rfl (.yes rfl rfl rfl g2) (r_load ag94 rfl rfl (by repeat first | exact mH | apply mT) rfl) ?_
        refine D_p rfl (.yes rfl rfl rfl g2) (p_nil rfl rfl) ?_
        refine D_p rfl (.yes rfl rfl rfl g2) (p_fieldo fo32_0 rfl rfl) ?_
        refine D_rd rfl (.yes rfl rfl rfl g2) (r_load ag3 rfl rfl (by repeat first | exact mH | apply mT) rfl) ?_
        refine D_p rfl (.yes rfl rfl rfl g2) (p_move rfl rfl) ?_
        refine D_p rfl (.yes rfl rfl rfl g2) (p_nil rfl rfl) ?_
        refine D_p rfl (.yes rfl rfl rfl g2) (p_fieldo fo32_1 rfl rfl) ?_
        refine D_rd rfl (.yes rfl rfl rfl g2) (r_load ag3 rfl rfl (by repeat first | exact mH | apply mT) rfl) ?_
        refine D_p rfl (.yes rfl rfl rfl g2) (p_gtr rfl rfl rfl) ?_
        refine D_p rfl (.plain rfl) (p_pick_f rfl rfl g2 rfl) ?_
        refine D_then (.cons (k := 5) rfl (.cons (k := 9) rfl (.cons (k := 10) rfl (.cons (k := 37) rfl .nil)))) ?_
        refine V_cond rfl ?_ ?_
        · intro c2; try simp only [td] at c2
          refine V_seq (V_region rfl ?_)
          refine L_go rfl (X_p (p_assign rfl rfl) ?_)
          refine L_then (.cons (k := 4) rfl .nil) ?_
          refine V_ret (blk_r (then_r (then_r (blk_r (then_r ?_)))))
          refine Leave.nil (.tmp rfl .nil) ?_
          first | (show Value.bool false = _; rw [show meetB a b = false by rw [← Bool.not_eq_true, meetB_iff]; omega]; done) | (show Value.bool true = _; rw [show meetB a b = true by rw [meetB_iff]; omega]; done)
        · intro c2; try simp only [td] at c2
          refine V_skip (blk_n (then_n ?_))
          refine V_region rfl ?_
          first | refine L_go rfl (X_p (p_add' rfl rfl rfl (by unfold InI; omega)) ?_) | refine L_go rfl (X_p (p_add rfl rfl rfl) ?_)
          refine L_go rfl (X_p (p_move rfl rfl) ?_)
          refine L_keep (.cons (k := 5) rfl (.cons (k := 9) rfl (.cons (k := 10) rfl .nil))) (then_n ?_)
          refine LU_step ?_
          refine V_seq (V_region rfl ?_)
          refine L_go rfl (X_p (p_lss rfl rfl rfl) ?_)
          refine L_then (.cons (k := 5) rfl (.cons (k := 9) rfl (.cons (k := 10) rfl (.cons (k := 11) rfl .nil)))) ?_
          refine V_seq ?_
          refine V_cond_t rfl rfl ?_
          refine V_skip (then_n ?_)
          refine V_seq ?_
          refine V_block ?_
          refine V_seq (V_region rfl ?_)
          refine L_go rfl (X_p (p_move rfl rfl) ?_)
          refine L_go rfl (X_p (p_at un95 ag94 sz94 rfl rfl rfl (by omega) (by omega) rfl) ?_)
          refine L_go rfl (X_p (p_assign rfl rfl) ?_)
          refine L_go rfl (X_p (p_assign rfl rfl) ?_)
          refine L_then (.cons (k := 5) rfl (.cons (k := 6) rfl (.cons (k := 7) rfl (.cons (k := 9) rfl (.cons (k := 10) rfl .nil))))) ?_
          refine V_seq (V_draw (.rd 0 (.rd 1 (.rd 2 (.rd 3 (.rd 4 (.rd 5 (.rd 6 (.rd 7 (.rd 8 (.rd 9 (.rd 10 (.rd 11 (.rd 12 (.rd 13 (.rd 14 (.rd 15 (.rd 16 (.rd 17 (.rd 18 (.rd 19 (.rd 20 (.rd 21 (.rd 22 (.rd 23 .done)))))))))))))))))))))))) mixed (by kernel_rfl) rfl ?_)
          refine D_p rfl (.plain rfl) (p_move rfl rfl) ?_
          refine D_p rfl (.plain rfl) (p_nil rfl rfl) ?_
          refine D_p rfl (.plain rfl) (p_fieldo fo32_0 rfl rfl) ?_
          refine D_rd rfl (.plain rfl) (r_load ag3 rfl rfl (by repeat first | exact mH | apply mT) rfl) ?_
          refine D_p rfl (.plain rfl) (p_move rfl rfl) ?_
          refine D_p rfl (.plain rfl) (p_idxao ar95 rfl rfl rfl (by omega) (by omega)) ?_
          refine D_rd rfl (.plain rfl) (r_load ag94 rfl rfl (by repeat first | exact mH | apply mT) rfl) ?_
          refine D_p rfl (.plain rfl) (p_nil rfl rfl) ?_
          refine D_p rfl (.plain rfl) (p_fieldo fo32_1 rfl rfl) ?_
          refine D_rd rfl (.plain rfl) (r_load ag3 rfl rfl (by repeat first | exact mH | apply mT) rfl) ?_
          refine D_p rfl (.plain rfl) (p_gtr rfl rfl rfl) ?_
          refine D_p rfl (.plain rfl) (p_move rfl rfl) ?_
          refine D_cases (d := 25) rfl ?_ ?_
          · intro g3; have g3' := g3; try simp only [td] at g3'
            refine D_no rfl (.mk' rfl rfl rfl g3) ?_
            refine D_no rfl (.mk' rfl rfl rfl g3) ?_
            refine D_no rfl (.mk' rfl rfl rfl g3) ?_
            refine D_no rfl (.mk' rfl rfl rfl g3) ?_
            refine D_no rfl (.mk' rfl rfl rfl g3) ?_
            refine D_no rfl (.mk' rfl rfl rfl g3) ?_
            refine D_no rfl (.mk' rfl rfl rfl g3) ?_
            refine D_no rfl (.mk' rfl rfl rfl g3) ?_
            refine D_no rfl (.mk' rfl rfl rfl g3) ?_
            refine D_no rfl (.mk' rfl rfl rfl g3) ?_
            refine D_no rfl (.mk' rfl rfl rfl g3) ?_
            refine D_p rfl (.plain rfl) (p_pick_t rfl rfl g3 rfl) ?_
            refine D_then (.cons (k := 5) rfl (.cons (k := 9) rfl (.cons (k := 10) rfl (.cons (k := 37) rfl .nil)))) ?_
            refine V_cond_t rfl rfl ?_
            refine V_seq (V_region rfl ?_)
            refine L_go rfl (X_p (p_assign rfl rfl) ?_)
            refine L_then (.cons (k := 4) rfl .nil) ?_
            refine V_ret (blk_r (then_r (then_r (blk_r (then_r ?_)))))
            refine Leave.nil (.tmp rfl .nil) ?_
            first | (show Value.bool false = _; rw [show meetB a b = false by rw [← Bool.not_eq_true, meetB_iff]; omega]; done) | (show Value.bool true = _; rw [show meetB a b = true by rw [meetB_iff]; omega]; done)
          · intro g3; have g3' := g3; try simp only [td] at g3'
            refine D_p rfl (.yes rfl rfl rfl g3) (p_move rfl rfl) ?_
            refine D_p rfl (.yes rfl rfl rfl g3) (p_idxao ar95 rfl rfl rfl (by omega) (by omega)) ?_
            refine D_rd rfl (.yes rfl rfl rfl g3) (r_load ag94 rfl rfl (by repeat first | exact mH | apply mT) rfl) ?_
            refine D_p rfl (.yes rfl rfl rfl g3) (p_nil rfl rfl) ?_
            refine D_p rfl (.yes rfl rfl rfl g3) (p_fieldo fo32_0 rfl rfl) ?_
            refine D_rd rfl (.yes rfl rfl rfl g3) (r_load ag3 rfl rfl (by repeat first | exact mH | apply mT) rfl) ?_
            refine D_p rfl (.yes rfl rfl rfl g3) (p_move rfl rfl) ?_
            refine D_p rfl (.yes rfl rfl rfl g3) (p_nil rfl rfl) ?_
            refine D_p rfl (.yes rfl rfl rfl g3) (p_fieldo fo32_1 rfl rfl) ?_
            refine D_rd rfl (.yes rfl rfl rfl g3) (r_load ag3 rfl rfl (by repeat first | exact mH | apply mT) rfl) ?_
            refine D_p rfl (.yes rfl rfl rfl g3) (p_gtr rfl rfl rfl) ?_
            refine D_p rfl (.plain rfl) (p_pick_f rfl rfl g3 rfl) ?_
            refine D_then (.cons (k := 5) rfl (.cons (k := 9) rfl (.cons (k := 10) rfl (.cons (k := 37) rfl .nil)))) ?_
            refine V_cond rfl ?_ ?_
            · intro c3; try simp only [td] at c3
              refine V_seq (V_region rfl ?_)
              refine L_go rfl (X_p (p_assign rfl rfl) ?_)
              refine L_then (.cons (k := 4) rfl .nil) ?_
              refine V_ret (blk_r (then_r (then_r (blk_r (then_r ?_)))))
              refine Leave.nil (.tmp rfl .nil) ?_
              first | (show Value.bool false = _; rw [show meetB a b = false by rw [← Bool.not_eq_true, meetB_iff]; omega]; done) | (show Value.bool true = _; rw [show meetB a b = true by rw [meetB_iff]; omega]; done)
            · intro c3; try simp only [td] at c3
              refine V_skip (blk_n (then_n ?_))
              refine V_region rfl ?_
              first | refine L_go rfl (X_p (p_add' rfl rfl rfl (by unfold InI; omega)) ?_) | refine L_go rfl (X_p (p_add rfl rfl rfl) ?_)
              refine L_go rfl (X_p (p_move rfl rfl) ?_)
              refine L_keep (.cons (k := 5) rfl (.cons (k := 9) rfl (.cons (k := 10) rfl .nil))) (then_n ?_)
              refine LU_step ?_
              refine V_seq (V_region rfl ?_)
              refine L_go rfl (X_p (p_lss rfl rfl rfl) ?_)
              refine L_then (.cons (k := 5) rfl (.cons (k := 9) rfl (.cons (k := 10) rfl (.cons (k := 11) rfl .nil)))) ?_
              refine V_seq ?_
              refine V_cond_t rfl rfl ?_
              refine V_skip (then_n ?_)
              refine V_seq ?_
              refine V_block ?_
              refine V_seq (V_region rfl ?_)
              refine L_go rfl (X_p (p_move rfl rfl) ?_)
              refine L_go rfl (X_p (p_at un95 ag94 sz94 rfl rfl rfl (by omega) (by omega) rfl) ?_)
              refine L_go rfl (X_p (p_assign rfl rfl) ?_)
              refine L_go rfl (X_p (p_assign rfl rfl) ?_)
              refine L_then (.cons (k := 5) rfl (.cons (k := 6) rfl (.cons (k := 7) rfl (.cons (k := 9) rfl (.cons (k := 10) rfl .nil))))) ?_
              refine V_seq (V_draw (.rd 0 (.rd 1 (.rd 2 (.rd 3 (.rd 4 (.rd 5 (.rd 6 (.rd 7 (.rd 8 (.rd 9 (.rd 10 (.rd 11 (.rd 12 (.rd 13 (.rd 14 (.rd 15 (.rd 16 (.rd 17 (.rd 18 (.rd 19 (.rd 20 (.rd 21 (.rd 22 (.rd 23 .done)))))))))))))))))))))))) mixed (by kernel_rfl) rfl ?_)
              refine D_p rfl (.plain rfl) (p_move rfl rfl) ?_
              refine D_p rfl (.plain rfl) (p_nil rfl rfl) ?_
              refine D_p rfl (.plain rfl) (p_fieldo fo32_0 rfl rfl) ?_
              refine D_rd rfl (.plain rfl) (r_load ag3 rfl rfl (by repeat first | exact mH | apply mT) rfl) ?_
              refine D_p rfl (.plain rfl) (p_move rfl rfl) ?_
              refine D_p rfl (.plain rfl) (p_idxao ar95 rfl rfl rfl (by omega) (by omega)) ?_
              refine D_rd rfl (.plain rfl) (r_load ag94 rfl rfl (by repeat first | exact mH | apply mT) rfl) ?_
              refine D_p rfl (.plain rfl) (p_nil rfl rfl) ?_
              refine D_p rfl (.plain rfl) (p_fieldo fo32_1 rfl rfl) ?_
              refine D_rd rfl (.plain rfl) (r_load ag3 rfl rfl (by repeat first | exact mH | apply mT) rfl) ?_
              refine D_p rfl (.plain rfl) (p_gtr rfl rfl rfl) ?_
              refine D_p rfl (.plain rfl) (p_move rfl rfl) ?_
              refine D_cases (d := 25) rfl ?_ ?_
              · intro g4; have g4' := g4; try simp only [td] at g4'
                refine D_no rfl (.mk' rfl rfl rfl g4) ?_
                refine D_no rfl (.mk' rfl rfl rfl g4) ?_
                refine D_no rfl (.mk' rfl rfl rfl g4) ?_
                refine D_no rfl (.mk' rfl rfl rfl g4) ?_
                refine D_no rfl (.mk' rfl rfl rfl g4) ?_
                refine D_no rfl (.mk' rfl rfl rfl g4) ?_
                refine D_no rfl (.mk' rfl rfl rfl g4) ?_
                refine D_no rfl (.mk' rfl rfl rfl g4) ?_
                refine D_no rfl (.mk' rfl rfl rfl g4) ?_
                refine D_no rfl (.mk' rfl rfl rfl g4) ?_
                refine D_no rfl (.mk' rfl rfl rfl g4) ?_
                refine D_p rfl (.plain rfl) (p_pick_t rfl rfl g4 rfl) ?_
                refine D_then (.cons (k := 5) rfl (.cons (k := 9) rfl (.cons (k := 10) rfl (.cons (k := 37) rfl .nil)))) ?_
                refine V_cond_t rfl rfl ?_
                refine V_seq (V_region rfl ?_)
                refine L_go rfl (X_p (p_assign rfl rfl) ?_)
                refine L_then (.cons (k := 4) rfl .nil) ?_
                refine V_ret (blk_r (then_r (then_r (blk_r (then_r ?_)))))
                refine Leave.nil (.tmp rfl .nil) ?_
                first | (show Value.bool false = _; rw [show meetB a b = false by rw [← Bool.not_eq_true, meetB_iff]; omega]; done) | (show Value.bool true = _; rw [show meetB a b = true by rw [meetB_iff]; omega]; done)
              · intro g4; have g4' := g4; try simp only [td] at g4'
                refine D_p rfl (.yes rfl rfl rfl g4) (p_move rfl rfl) ?_
                refine D_p rfl (.yes rfl rfl rfl g4) (p_idxao ar95 rfl rfl rfl (by omega) (by omega)) ?_
                refine D_rd rfl (.yes rfl rfl rfl g4) (r_load ag94 rfl rfl (by repeat first | exact mH | apply mT) rfl) ?_
                refine D_p rfl (.yes rfl rfl rfl g4) (p_nil rfl rfl) ?_
                refine D_p rfl (.yes rfl rfl rfl g4) (p_fieldo fo32_0 rfl rfl) ?_
                refine D_rd rfl (.yes rfl rfl rfl g4) (r_load ag3 rfl rfl (by repeat first | exact mH | apply mT) rfl) ?_
                refine D_p rfl (.yes rfl rfl rfl g4) (p_move rfl rfl) ?_
                refine D_p rfl (.yes rfl rfl rfl g4) (p_nil rfl rfl) ?_
                refine D_p rfl (.yes rfl rfl rfl g4) (p_fieldo fo32_1 rfl rfl) ?_
                refine D_rd rfl (.yes rfl rfl rfl g4) (r_load ag3 rfl rfl (by repeat first | exact mH | apply mT) rfl) ?_
                refine D_p rfl (.yes rfl rfl rfl g4) (p_gtr rfl rfl rfl) ?_
                refine D_p rfl (.plain rfl) (p_pick_f rfl rfl g4 rfl) ?_
                refine D_then (.cons (k := 5) rfl (.cons (k := 9) rfl (.cons (k := 10) rfl (.cons (k := 37) rfl .nil)))) ?_
                refine V_cond rfl ?_ ?_
                · intro c4; try simp only [td] at c4
                  refine V_seq (V_region rfl ?_)
                  refine L_go rfl (X_p (p_assign rfl rfl) ?_)
                  refine L_then (.cons (k := 4) rfl .nil) ?_
                  refine V_ret (blk_r (then_r (then_r (blk_r (then_r ?_)))))
                  refine Leave.nil (.tmp rfl .nil) ?_
                  first | (show Value.bool false = _; rw [show meetB a b = false by rw [← Bool.not_eq_true, meetB_iff]; omega]; done) | (show Value.bool true = _; rw [show meetB a b = true by rw [meetB_iff]; omega]; done)
                · intro c4; try simp only [td] at c4
                  refine V_skip (blk_n (then_n ?_))
                  refine V_region rfl ?_
                  first | refine L_go rfl (X_p (p_add' rfl rfl rfl (by unfold InI; omega)) ?_) | refine L_go rfl (X_p (p_add rfl rfl rfl) ?_)
                  refine L_go rfl (X_p (p_move rfl rfl) ?_)
                  refine L_keep (.cons (k := 5) rfl (.cons (k := 9) rfl (.cons (k := 10) rfl .nil))) (then_n ?_)
                  refine LU_step ?_
                  refine V_seq (V_region rfl ?_)
                  refine L_go rfl (X_p (p_lss rfl rfl rfl) ?_)
                  refine L_then (.cons (k := 5) rfl (.cons (k := 9) rfl (.cons (k := 10) rfl (.cons (k := 11) rfl .nil)))) ?_
                  refine V_seq ?_
                  refine V_cond_t rfl rfl ?_
                  refine V_skip (then_n ?_)
                  refine V_seq ?_
                  refine V_block ?_
                  refine V_seq (V_region rfl ?_)
                  refine L_go rfl (X_p (p_move rfl rfl) ?_)
                  refine L_go rfl (X_p (p_at un95 ag94 sz94 rfl rfl rfl (by omega) (by omega) rfl) ?_)
                  refine L_go rfl (X_p (p_assign rfl rfl) ?_)
                  refine L_go rfl (X_p (p_assign rfl rfl) ?_)
                  refine L_then (.cons (k := 5) rfl (.cons (k := 6) rfl (.cons (k := 7) rfl (.cons (k := 9) rfl (.cons (k := 10) rfl .nil))))) ?_
                  refine V_seq (V_draw (.rd 0 (.rd 1 (.rd 2 (.rd 3 (.rd 4 (.rd 5 (.rd 6 (.rd 7 (.rd 8 (.rd 9 (.rd 10 (.rd 11 (.rd 12 (.rd 13 (.rd 14 (.rd 15 (.rd 16 (.rd 17 (.rd 18 (.rd 19 (.rd 20 (.rd 21 (.rd 22 (.rd 23 .done)))))))))))))))))))))))) mixed (by kernel_rfl) rfl ?_)
                  refine D_p rfl (.plain rfl) (p_move rfl rfl) ?_
                  refine D_p rfl (.plain rfl) (p_nil rfl rfl) ?_
                  refine D_p rfl (.plain rfl) (p_fieldo fo32_0 rfl rfl) ?_
                  refine D_rd rfl (.plain rfl) (r_load ag3 rfl rfl (by repeat first | exact mH | apply mT) rfl) ?_
                  refine D_p rfl (.plain rfl) (p_move rfl rfl) ?_
                  refine D_p rfl (.plain rfl) (p_idxao ar95 rfl rfl rfl (by omega) (by omega)) ?_
                  refine D_rd rfl (.plain rfl) (r_load ag94 rfl rfl (by repeat first | exact mH | apply mT) rfl) ?_
                  refine D_p rfl (.plain rfl) (p_nil rfl rfl) ?_
                  refine D_p rfl (.plain rfl) (p_fieldo fo32_1 rfl rfl) ?_
                  refine D_rd rfl (.plain rfl) (r_load ag3 rfl rfl (by repeat first | exact mH | apply mT) rfl) ?_
                  refine D_p rfl (.plain rfl) (p_gtr rfl rfl rfl) ?_
                  refine D_p rfl (.plain rfl) (p_move rfl rfl) ?_
                  refine D_cases (d := 25) rfl ?_ ?_
                  · intro g5; have g5' := g5; try simp only [td] at g5'
                    refine D_no rfl (.mk' rfl rfl rfl g5) ?_
                    refine D_no rfl (.mk' rfl rfl rfl g5) ?_
                    refine D_no rfl (.mk' rfl rfl rfl g5) ?_
                    refine D_no rfl (.mk' rfl rfl rfl g5) ?_
                    refine D_no rfl (.mk' rfl rfl rfl g5) ?_
                    refine D_no rfl (.mk' rfl rfl rfl g5) ?_
                    refine D_no rfl (.mk' rfl rfl rfl g5) ?_
                    refine D_no rfl (.mk' rfl rfl rfl g5) ?_
                    refine D_no rfl (.mk' rfl rfl rfl g5) ?_
                    refine D_no rfl (.mk' rfl rfl rfl g5) ?_
                    refine D_no rfl (.mk' rfl rfl rfl g5) ?_
                    refine D_p rfl (.plain rfl) (p_pick_t rfl rfl g5 rfl) ?_
                    refine D_then (.cons (k := 5) rfl (.cons (k := 9) rfl (.cons (k := 10) rfl (.cons (k := 37) rfl .nil)))) ?_
                    refine V_cond_t rfl rfl ?_
                    refine V_seq (V_region rfl ?_)
                    refine L_go rfl (X_p (p_assign rfl rfl) ?_)
                    refine L_then (.cons (k := 4) rfl .nil) ?_
                    refine V_ret (blk_r (then_r (then_r (blk_r (then_r ?_)))))
                    refine Leave.nil (.tmp rfl .nil) ?_
                    first | (show Value.bool false = _; rw [show meetB a b = false by rw [← Bool.not_eq_true, meetB_iff]; omega]; done) | (show Value.bool true = _; rw [show meetB a b = true by rw [meetB_iff]; omega]; done)
                  · intro g5; have g5' := g5; try simp only [td] at g5'
                    refine D_p rfl (.yes rfl rfl rfl g5) (p_move rfl rfl) ?_
                    refine D_p rfl (.yes rfl rfl rfl g5) (p_idxao ar95 rfl rfl rfl (by omega) (by omega)) ?_
                    refine D_rd rfl (.yes rfl rfl rfl g5) (r_load ag94 rfl rfl (by repeat first | exact mH | apply mT) rfl) ?_
                    refine D_p rfl (.yes rfl rfl rfl g5) (p_nil rfl rfl) ?_
                    refine D_p rfl (.yes rfl rfl rfl g5) (p_fieldo fo32_0 rfl rfl) ?_
                    refine D_rd rfl (.yes rfl rfl rfl g5) (r_load ag3 rfl rfl (by repeat first | exact mH | apply mT) rfl) ?_
                    refine D_p rfl (.yes rfl rfl rfl g5) (p_move rfl rfl) ?_
                    refine D_p rfl (.yes rfl rfl rfl g5) (p_nil rfl rfl) ?_
                    refine D_p rfl (.yes rfl rfl rfl g5) (p_fieldo fo32_1 rfl rfl) ?_
                    refine D_rd rfl (.yes rfl rfl rfl g5) (r_load ag3 rfl rfl (by repeat first | exact mH | apply mT) rfl) ?_
                    refine D_p rfl (.yes rfl rfl rfl g5) (p_gtr rfl rfl rfl) ?_
                    refine D_p rfl (.plain rfl) (p_pick_f rfl rfl g5 rfl) ?_
                    refine D_then (.cons (k := 5) rfl (.cons (k := 9) rfl (.cons (k := 10) rfl (.cons (k := 37) rfl .nil)))) ?_
                    refine V_cond rfl ?_ ?_
                    · intro c5; try simp only [td] at c5
                      refine V_seq (V_region rfl ?_)
                      refine L_go rfl (X_p (p_assign rfl rfl) ?_)
                      refine L_then (.cons (k := 4) rfl .nil) ?_
                      refine V_ret (blk_r (then_r (then_r (blk_r (then_r ?_)))))
                      refine Leave.nil (.tmp rfl .nil) ?_
                      first | (show Value.bool false = _; rw [show meetB a b = false by rw [← Bool.not_eq_true, meetB_iff]; omega]; done) | (show Value.bool true = _; rw [show meetB a b = true by rw [meetB_iff]; omega]; done)
                    · intro c5; try simp only [td] at c5
                      refine V_skip (blk_n (then_n ?_))
                      refine V_region rfl ?_
                      first | refine L_go rfl (X_p (p_add' rfl rfl rfl (by unfold InI; omega)) ?_) | refine L_go rfl (X_p (p_add rfl rfl rfl) ?_)
                      refine L_go rfl (X_p (p_move rfl rfl) ?_)
                      refine L_keep (.cons (k := 5) rfl (.cons (k := 9) rfl (.cons (k := 10) rfl .nil))) (then_n ?_)
                      refine LU_step ?_
                      refine V_seq (V_region rfl ?_)
                      refine L_go rfl (X_p (p_lss rfl rfl rfl) ?_)
                      refine L_then (.cons (k := 5) rfl (.cons (k := 9) rfl (.cons (k := 10) rfl (.cons (k := 11) rfl .nil)))) ?_
                      refine V_seq ?_
                      refine V_cond_t rfl rfl ?_
                      refine V_skip (then_n ?_)
                      refine V_seq ?_
                      refine V_block ?_
                      refine V_seq (V_region rfl ?_)
                      refine L_go rfl (X_p (p_move rfl rfl) ?_)
                      refine L_go rfl (X_p (p_at un95 ag94 sz94 rfl rfl rfl (by omega) (by omega) rfl) ?_)
                      refine L_go rfl (X_p (p_assign rfl rfl) ?_)
                      refine L_go rfl (X_p (p_assign rfl rfl) ?_)
                      refine L_then (.cons (k := 5) rfl (.cons (k := 6) rfl (.cons (k := 7) rfl (.cons (k := 9) rfl (.cons (k := 10) rfl .nil))))) ?_
                      refine V_seq (V_draw (.rd 0 (.rd 1 (.rd 2 (.rd 3 (.rd 4 (.rd 5 (.rd 6 (.rd 7 (.rd 8 (.rd 9 (.rd 10 (.rd 11 (.rd 12 (.rd 13 (.rd 14 (.rd 15 (.rd 16 (.rd 17 (.rd 18 (.rd 19 (.rd 20 (.rd 21 (.rd 22 (.rd 23 .done)))))))))))))))))))))))) mixed (by kernel_rfl) rfl ?_)
                      refine D_p rfl (.plain rfl) (p_move rfl rfl) ?_
                      refine D_p rfl (.plain rfl) (p_nil rfl rfl) ?_
                      refine D_p rfl (.plain rfl) (p_fieldo fo32_0 rfl rfl) ?_
                      refine D_rd rfl (.plain rfl) (r_load ag3 rfl rfl (by repeat first | exact mH | apply mT) rfl) ?_
                      refine D_p rfl (.plain rfl) (p_move rfl rfl) ?_
                      refine D_p rfl (.plain rfl) (p_idxao ar95 rfl rfl rfl (by omega) (by omega)) ?_
                      refine D_rd rfl (.plain rfl) (r_load ag94 rfl rfl (by repeat first | exact mH | apply mT) rfl) ?_
                      refine D_p rfl (.plain rfl) (p_nil rfl rfl) ?_
                      refine D_p rfl (.plain rfl) (p_fieldo fo32_1 rfl rfl) ?_
                      refine D_rd rfl (.plain rfl) (r_load ag3 rfl rfl (by repeat first | exact mH | apply mT) rfl) ?_
                      refine D_p rfl (.plain rfl) (p_gtr rfl rfl rfl) ?_
                      refine D_p rfl (.plain rfl) (p_move rfl rfl) ?_
                      refine D_cases (d := 25) rfl ?_ ?_
                      · intro g6; have g6' := g6; try simp only [td] at g6'
                        refine D_no rfl (.mk' rfl rfl rfl g6) ?_
                        refine D_no rfl (.mk' rfl rfl rfl g6) ?_
                        refine D_no rfl (.mk' rfl rfl rfl g6) ?_
                        refine D_no rfl (.mk' rfl rfl rfl g6) ?_
                        refine D_no rfl (.mk' rfl rfl rfl g6) ?_
                        refine D_no rfl (.mk' rfl rfl rfl g6) ?_
                        refine D_no rfl (.mk' rfl rfl rfl g6) ?_
                        refine D_no rfl (.mk' rfl rfl rfl g6) ?_
                        refine D_no rfl (.mk' rfl rfl rfl g6) ?_
                        refine D_no rfl (.mk' rfl rfl rfl g6) ?_
                        refine D_no rfl (.mk' rfl rfl rfl g6) ?_
                        refine D_p rfl (.plain rfl) (p_pick_t rfl rfl g6 rfl) ?_
                        refine D_then (.cons (k := 5) rfl (.cons (k := 9) rfl (.cons (k := 10) rfl (.cons (k := 37) rfl .nil)))) ?_
                        refine V_cond_t rfl rfl ?_
                        refine V_seq (V_region rfl ?_)
                        refine L_go rfl (X_p (p_assign rfl rfl) ?_)
                        refine L_then (.cons (k := 4) rfl .nil) ?_
                        refine V_ret (blk_r (then_r (then_r (blk_r (then_r ?_)))))
                        refine Leave.nil (.tmp rfl .nil) ?_
                        first | (show Value.bool false = _; rw [show meetB a b = false by rw [← Bool.not_eq_true, meetB_iff]; omega]; done) | (show Value.bool true = _; rw [show meetB a b = true by rw [meetB_iff]; omega]; done)
                      · intro g6; have g6' := g6; try simp only [td] at g6'
                        refine D_p rfl (.yes rfl rfl rfl g6) (p_move rfl rfl) ?_
                        refine D_p rfl (.yes rfl rfl rfl g6) (p_idxao ar95 rfl rfl rfl (by omega) (by omega)) ?_
                        refine D_rd rfl (.yes rfl rfl rfl g6) (r_load ag94 rfl rfl (by repeat first | exact mH | apply mT) rfl) ?_
                        refine D_p rfl (.yes rfl rfl rfl g6) (p_nil rfl rfl) ?_
                        refine D_p rfl (.yes rfl rfl rfl g6) (p_fieldo fo32_0 rfl rfl) ?_
                        refine D_rd rfl (.yes rfl rfl rfl g6) (r_load ag3 rfl rfl (by repeat first | exact mH | apply mT) rfl) ?_
                        refine D_p rfl (.yes rfl rfl rfl g6) (p_move rfl rfl) ?_
                        refine D_p rfl (.yes rfl rfl rfl g6) (p_nil rfl rfl) ?_
                        refine D_p rfl (.yes rfl rfl rfl g6) (p_fieldo fo32_1 rfl rfl) ?_
                        refine D_rd rfl (.yes rfl rfl rfl g6) (r_load ag3 rfl rfl (by repeat first | exact mH | apply mT) rfl) ?_
                        refine D_p rfl (.yes rfl rfl rfl g6) (p_gtr rfl rfl rfl) ?_
                        refine D_p rfl (.plain rfl) (p_pick_f rfl rfl g6 rfl) ?_
                        refine D_then (.cons (k := 5) rfl (.cons (k := 9) rfl (.cons (k := 10) rfl (.cons (k := 37) rfl .nil)))) ?_
                        refine V_cond rfl ?_ ?_
                        · intro c6; try simp only [td] at c6
                          refine V_seq (V_region rfl ?_)
                          refine L_go rfl (X_p (p_assign rfl rfl) ?_)
                          refine L_then (.cons (k := 4) rfl .nil) ?_
                          refine V_ret (blk_r (then_r (then_r (blk_r (then_r ?_)))))
                          refine Leave.nil (.tmp rfl .nil) ?_
                          first | (show Value.bool false = _; rw [show meetB a b = false by rw [← Bool.not_eq_true, meetB_iff]; omega]; done) | (show Value.bool true = _; rw [show meetB a b = true by rw [meetB_iff]; omega]; done)
                        · intro c6; try simp only [td] at c6
                          refine V_skip (blk_n (then_n ?_))
                          refine V_region rfl ?_
                          first | refine L_go rfl (X_p (p_add' rfl rfl rfl (by unfold InI; omega)) ?_) | refine L_go rfl (X_p (p_add rfl rfl rfl) ?_)
                          refine L_go rfl (X_p (p_move rfl rfl) ?_)
                          refine L_keep (.cons (k := 5) rfl (.cons (k := 9) rfl (.cons (k := 10) rfl .nil))) (then_n ?_)
                          refine LU_step ?_
                          refine V_seq (V_region rfl ?_)
                          refine L_go rfl (X_p (p_lss rfl rfl rfl) ?_)
                          refine L_then (.cons (k := 5) rfl (.cons (k := 9) rfl (.cons (k := 10) rfl (.cons (k := 11) rfl .nil)))) ?_
                          refine V_seq ?_
                          refine V_cond_f rfl rfl ?_
                          refine V_exit (then_e (then_e (blk_e rfl (then_n ?_))))
                          refine V_seq (V_region rfl ?_)
                          refine L_go rfl (X_p (p_assign rfl rfl) ?_)
                          refine L_then (.cons (k := 4) rfl .nil) ?_
                          refine V_ret ?_
                          refine Leave.nil (.tmp rfl .nil) ?_
                          first | (show Value.bool false = _; rw [show meetB a b = false by rw [← Bool.not_eq_true, meetB_iff]; omega]; done) | (show Value.bool true = _; rw [show meetB a b = true by rw [meetB_iff]; omega]; done)
theorem span_c (b : Box) (hb : BoxB 1000000000000000 b) (w : World) : FnP Try.prog 42 [.agg (Box.cells b).toArray] w (.int .i64 (wideB b)) := by
  obtain ⟨hx, hy, hz⟩ := hb
  unfold SpanB at hx hy hz
  refine fn_pure Try.func42 rfl (by kernel_rfl) Try.ntmps42 Try.results42 rfl ?_
  refine V_seq (V_region rfl ?_)
  refine L_go rfl (X_wr (w_box rfl rfl) ?_)
  rintro _ _ ⟨b1, hb1, rfl, rfl⟩
  refine L_go rfl (X_p (p_assign rfl rfl) ?_)
  refine L_then (.cons (k := 1) rfl .nil) ?_
  refine V_seq (V_region rfl ?_)
  refine L_go rfl (X_p (p_fieldo fo34_1 rfl rfl) ?_)
  refine L_go rfl (X_p (p_fieldo fo32_1 rfl rfl) ?_)
  refine L_go rfl (X_rd (r_load ag3 rfl rfl (by repeat first | exact mH | apply mT) rfl) ?_)
  refine L_go rfl (X_p (p_fieldo fo34_1 rfl rfl) ?_)
  refine L_go rfl (X_p (p_fieldo fo32_0 rfl rfl) ?_)
  refine L_go rfl (X_rd (r_load ag3 rfl rfl (by repeat first | exact mH | apply mT) rfl) ?_)
  first | refine L_go rfl (X_p (p_sub' rfl rfl rfl (by unfold InI; omega)) ?_) | refine L_go rfl (X_p (p_sub rfl rfl rfl) ?_)
  refine L_go rfl (X_p (p_fieldo fo34_2 rfl rfl) ?_)
  refine L_go rfl (X_p (p_fieldo fo32_1 rfl rfl) ?_)
  refine L_go rfl (X_rd (r_load ag3 rfl rfl (by repeat first | exact mH | apply mT) rfl) ?_)
  refine L_go rfl (X_p (p_fieldo fo34_2 rfl rfl) ?_)
  refine L_go rfl (X_p (p_fieldo fo32_0 rfl rfl) ?_)
  refine L_go rfl (X_rd (r_load ag3 rfl rfl (by repeat first | exact mH | apply mT) rfl) ?_)
  first | refine L_go rfl (X_p (p_sub' rfl rfl rfl (by unfold InI; omega)) ?_) | refine L_go rfl (X_p (p_sub rfl rfl rfl) ?_)
  refine L_go rfl (X_p (p_fieldo fo34_3 rfl rfl) ?_)
  refine L_go rfl (X_p (p_fieldo fo32_1 rfl rfl) ?_)
  refine L_go rfl (X_rd (r_load ag3 rfl rfl (by repeat first | exact mH | apply mT) rfl) ?_)
  refine L_go rfl (X_p (p_fieldo fo34_3 rfl rfl) ?_)
  refine L_go rfl (X_p (p_fieldo fo32_0 rfl rfl) ?_)
  refine L_go rfl (X_rd (r_load ag3 rfl rfl (by repeat first | exact mH | apply mT) rfl) ?_)
  first | refine L_go rfl (X_p (p_sub' rfl rfl rfl (by unfold InI; omega)) ?_) | refine L_go rfl (X_p (p_sub rfl rfl rfl) ?_)
  refine L_go rfl (X_p (p_max3 rfl rfl rfl rfl) ?_)
  refine L_go rfl (X_p (p_assign rfl rfl) ?_)
  refine L_then (.cons (k := 2) rfl .nil) ?_
  refine V_ret ?_
  refine Leave.nil (.tmp rfl .nil) ?_
  rfl
theorem found_c (o : Option Box) (w : World) : FnP Try.prog 37 [.agg (Box.cells (o.getD boxZ)).toArray, .bool o.isSome] w (foundT o) := by
  refine fn_pure Try.func37 rfl (by kernel_rfl) Try.ntmps37 Try.results37 rfl ?_
  refine V_seq (V_region rfl ?_)
  refine L_go rfl (X_wr (w_box rfl rfl) ?_)
  rintro _ _ ⟨b1, hb1, rfl, rfl⟩
  refine L_go rfl (X_wr (w_alloc zr34 rfl) ?_)
  rintro _ _ ⟨b2, hb2, rfl, rfl⟩
  refine L_go rfl (X_p (p_assign rfl rfl) ?_)
  refine L_then (.cons (k := 1) rfl (.cons (k := 2) rfl (.cons (k := 4) rfl .nil))) ?_
  refine V_seq ?_
  refine V_seq (V_region rfl ?_)
  refine L_go rfl (X_p (p_move rfl rfl) ?_)
  refine L_go rfl (X_p (p_not rfl rfl) ?_)
  refine L_then (.cons (k := 2) rfl (.cons (k := 4) rfl (.cons (k := 7) rfl .nil))) ?_
  refine V_cond rfl ?_ ?_
  · intro c1; try simp only [td] at c1
    refine V_seq (V_region rfl ?_)
    refine L_go rfl (X_p (p_build (r := [_, _, _, _, _, _, _, _, _, _, _, _, _]) pl34 zr34 rfl rfl rfl) ?_)
    refine L_go rfl (X_wr (w_store (cs' := [_, _, _, _, _, _, _, _, _, _, _, _, _]) sz34 rfl rfl rfl rfl rfl (by repeat first | exact .head | apply SetAt.tail) (Nat.le_of_ble_eq_true rfl) rfl) ?_)
    rintro _ _ ⟨rfl, rfl⟩
    refine L_go rfl (X_p (p_assign rfl rfl) ?_)
    refine L_then (.cons (k := 4) rfl (.cons (k := 5) rfl .nil)) ?_
    refine V_ret (then_r ?_)
    refine Leave.nil (.cellA (us := [_, _, _, _, _, _, _, _, _, _, _, _, _]) rfl ag34 sz34 (by repeat first | exact mH | apply mT) rfl (.tmp rfl .nil)) ?_
    rw [foundT, isSome_none c1]; rfl
  · intro c1; try simp only [td] at c1
    refine V_skip (then_n ?_)
    refine V_seq (V_region rfl ?_)
    refine L_go rfl (X_rd (r_loadA (vs := [_, _, _, _, _, _, _, _, _, _, _, _, _]) ag34 sz34 rfl rfl (by repeat first | exact mH | apply mT) rfl) ?_)
    refine L_go rfl (X_wr (w_store (cs' := [_, _, _, _, _, _, _, _, _, _, _, _, _]) sz34 rfl rfl rfl rfl rfl (by repeat first | exact .head | apply SetAt.tail) (Nat.le_of_ble_eq_true rfl) rfl) ?_)
    rintro _ _ ⟨rfl, rfl⟩
    refine L_go rfl (X_p (p_assign rfl rfl) ?_)
    refine L_then (.cons (k := 4) rfl (.cons (k := 5) rfl .nil)) ?_
    refine V_ret ?_
    refine Leave.nil (.cellA (us := [_, _, _, _, _, _, _, _, _, _, _, _, _]) rfl ag34 sz34 (by repeat first | exact mH | apply mT) rfl (.tmp rfl .nil)) ?_
    rw [foundT, c1]; rfl

end Go.Proofs.Ytclbbchehjapjab
