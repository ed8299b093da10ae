/- Joined texts. -/
import Derived.Test.YtlcccpeelombbaaDoorZe
import Derived.Test.YtlcccpeelombbaaDoorZc
import Derived.Test.YtlcccpeelombbaaDoorZd
/- YtlcccpeelombbaaDoor: CheckBox and Ahead. -/
set_option linter.all false
namespace Go.Proofs.YtlcccpeelombbaaDoor
open Go.Vc Go.Tk
set_option maxRecDepth 100000
set_option maxHeartbeats 4000000 in
theorem checkbox_c (b : Box) (w : World) : FnP Tryd.prog 35 [.agg (Box.cells b).toArray] w (.int .i64 (boxE b)) := by
  refine fn_pure Tryd.func35 rfl (by kernel_rfl) Tryd.ntmps35 Tryd.results35 rfl ?_
  refine V_seq (V_region rfl ?_)
  refine L_go rfl (X_wr (w_box rfl rfl) ?_)
  rintro _ _ ⟨b1, hb1, rfl, rfl⟩
  refine L_go rfl (X_p (p_assign rfl rfl) ?_)
  refine L_then (.cons (k := 1) rfl .nil) ?_
  refine V_seq ?_
  refine V_seq (V_region rfl ?_)
  refine L_go rfl (X_p (p_fieldo fo33_0 rfl rfl) ?_)
  refine L_go rfl (X_rd (r_load ag3 rfl rfl (by repeat first | exact mH | apply mT) rfl) ?_)
  refine L_go rfl (X_wr (w_slice (r := [_]) un66 sz3 zr3 rfl (by decide) rfl (by decide) rfl rfl) ?_)
  rintro _ _ ⟨b2, hb2, rfl, rfl⟩
  refine L_go rfl (X_wr (w_callP rfl rfl rfl (fun w hg => never_c [_] _ w (own_ints (l := [_]) (hg.own _ (by repeat first | exact mH | apply mT)) rfl (by decide)) (by simp))) ?_)
  rintro _ _ ⟨rfl, rfl⟩
  refine L_then (.cons (k := 1) rfl (.cons (k := 9) rfl .nil)) ?_
  refine V_cond rfl ?_ ?_
  · intro c1; try simp only [td] at c1
    try simp only [oP_true, oP_false] at c1
    refine V_seq (V_region rfl ?_)
    refine L_go rfl (X_p (p_assign rfl rfl) ?_)
    refine L_then (.cons (k := 2) rfl .nil) ?_
    refine V_ret (then_r ?_)
    refine Leave.nil (.tmp rfl .nil) ?_
    show Value.int .i64 7 = _
    rw [boxE_7 (by unfold BoxOk okS; omega)]
  · intro c1; try simp only [td] at c1
    try simp only [oP_true, oP_false] at c1
    refine V_skip (then_n ?_)
    refine V_seq ?_
    refine V_seq (V_region rfl ?_)
    refine L_go rfl (X_wr (w_callP rfl rfl rfl (fun w hg => parts_c b1 w)) ?_)
    rintro _ _ ⟨rfl, rfl⟩
    refine L_go rfl (X_p (p_move rfl rfl) ?_)
    refine L_then (.cons (k := 10) rfl (.cons (k := 11) rfl .nil)) ?_
    refine V_block ?_
    refine V_loopU ?_
    refine LU_step ?_
    refine V_seq (V_region rfl ?_)
    refine L_go rfl (X_p (p_lss rfl rfl rfl) ?_)
    refine L_then (.cons (k := 10) rfl (.cons (k := 11) rfl (.cons (k := 12) rfl .nil))) ?_
    refine V_seq ?_
    refine V_cond_t rfl rfl ?_
    refine V_skip (then_n ?_)
    refine V_seq ?_
    refine V_block ?_
    refine V_seq (V_region rfl ?_)
    refine L_go rfl (X_p (p_move rfl rfl) ?_)
    refine L_go rfl (X_p (p_at un117 ag116 sz116 rfl rfl rfl (by omega) (by omega) rfl) ?_)
    refine L_go rfl (X_p (p_assign rfl rfl) ?_)
    refine L_go rfl (X_p (p_assign rfl rfl) ?_)
    refine L_then (.cons (k := 3) rfl (.cons (k := 4) rfl (.cons (k := 10) rfl (.cons (k := 11) rfl .nil)))) ?_
    refine V_seq (V_region rfl ?_)
    refine L_go rfl (X_p (p_assign rfl rfl) ?_)
    refine L_then (.cons (k := 3) rfl (.cons (k := 4) rfl (.cons (k := 5) rfl (.cons (k := 10) rfl (.cons (k := 11) rfl .nil))))) ?_
    refine V_seq ?_
    refine V_seq (V_region rfl ?_)
    refine L_go rfl (X_p (p_move rfl rfl) ?_)
    refine L_go rfl (X_p (p_gtr rfl rfl rfl) ?_)
    refine L_then (.cons (k := 4) rfl (.cons (k := 5) rfl (.cons (k := 10) rfl (.cons (k := 11) rfl (.cons (k := 16) rfl .nil))))) ?_
    refine V_cond_f rfl rfl ?_
    refine V_skip (then_n ?_)
    refine V_seq (V_draw (.rd 0 (.rd 1 (.rd 2 (.rd 3 (.rd 4 (.rd 5 (.rd 6 (.rd 7 (.rd 8 (.wr 9 [7, 6, 5, 3, 2, 1, 0] (.wr 10 [8, 7, 6, 5, 4, 3, 2, 1] (.rd 11 (.rd 12 (.rd 13 (.rd 14 (.rd 15 (.rd 16 (.rd 17 (.rd 18 (.rd 19 (.rd 20 (.rd 21 .done)))))))))))))))))))))) mixed (by kernel_rfl) rfl ?_)
    refine D_p rfl (.plain rfl) (p_move rfl rfl) ?_
    refine D_p rfl (.plain rfl) (p_move rfl rfl) ?_
    refine D_p rfl (.plain rfl) (p_nil rfl rfl) ?_
    refine D_p rfl (.plain rfl) (p_fieldo fo24_0 rfl rfl) ?_
    refine D_rd rfl (.plain rfl) (r_load ag3 rfl rfl (by repeat first | exact mH | apply mT) rfl) ?_
    refine D_p rfl (.plain rfl) (p_move rfl rfl) ?_
    refine D_p rfl (.plain rfl) (p_nil rfl rfl) ?_
    refine D_p rfl (.plain rfl) (p_fieldo fo24_1 rfl rfl) ?_
    refine D_rd rfl (.plain rfl) (r_load ag3 rfl rfl (by repeat first | exact mH | apply mT) rfl) ?_
    refine D_wr (.go (E' := []) rfl (.plain rfl) (w_slice (r := [_, _]) un66 sz3 zr3 rfl (by decide) rfl (by decide) rfl rfl) rfl ?_)
    rintro _ _ ⟨b3, hb3, rfl, rfl⟩
    refine ⟨.nil, ?_⟩
    refine D_wr (.go (E' := []) rfl (.plain rfl) (w_callP rfl rfl rfl (fun w hg => wide_c _ (by decide) [_, _] _ w (own_ints (l := [_, _]) (hg.own _ (by repeat first | exact mH | apply mT)) rfl (by decide)) (by simp))) rfl ?_)
    rintro _ _ ⟨rfl, rfl⟩
    refine ⟨.nil, ?_⟩
    refine D_p rfl (.plain rfl) (p_move rfl rfl) ?_
    refine D_cases (d := 28) rfl ?_ ?_
    · intro g1; have g1' := g1; try simp only [td] at g1'
      try simp only [oP_true, oP_false] at g1'
      refine D_no rfl (.mk' rfl rfl rfl g1) ?_
      refine D_no rfl (.mk' rfl rfl rfl g1) ?_
      refine D_no rfl (.mk' rfl rfl rfl g1) ?_
      refine D_no rfl (.mk' rfl rfl rfl g1) ?_
      refine D_no rfl (.mk' rfl rfl rfl g1) ?_
      refine D_no rfl (.mk' rfl rfl rfl g1) ?_
      refine D_no rfl (.mk' rfl rfl rfl g1) ?_
      refine D_no rfl (.mk' rfl rfl rfl g1) ?_
      refine D_no rfl (.mk' rfl rfl rfl g1) ?_
      refine D_p rfl (.plain rfl) (p_pick_t rfl rfl g1 rfl) ?_
      refine D_then (.cons (k := 10) rfl (.cons (k := 11) rfl (.cons (k := 38) rfl .nil))) ?_
      refine V_cond_t rfl rfl ?_
      refine V_seq (V_region rfl ?_)
      refine L_go rfl (X_p (p_assign rfl rfl) ?_)
      refine L_then (.cons (k := 2) rfl .nil) ?_
      refine V_ret (blk_r (then_r (then_r (blk_r (then_r ?_)))))
      refine Leave.nil (.tmp rfl .nil) ?_
      show Value.int .i64 7 = _
      rw [boxE_7 (by unfold BoxOk okS; omega)]
    · intro g1; have g1' := g1; try simp only [td] at g1'
      try simp only [oP_true, oP_false] at g1'
      refine D_p rfl (.yes rfl rfl rfl g1) (p_move rfl rfl) ?_
      refine D_p rfl (.yes rfl rfl rfl g1) (p_nil rfl rfl) ?_
      refine D_p rfl (.yes rfl rfl rfl g1) (p_fieldo fo24_0 rfl rfl) ?_
      refine D_rd rfl (.yes rfl rfl rfl g1) (r_load ag3 rfl rfl (by repeat first | exact mH | apply mT) rfl) ?_
      refine D_p rfl (.yes rfl rfl rfl g1) (p_move rfl rfl) ?_
      refine D_p rfl (.yes rfl rfl rfl g1) (p_nil rfl rfl) ?_
      refine D_p rfl (.yes rfl rfl rfl g1) (p_fieldo fo24_1 rfl rfl) ?_
      refine D_rd rfl (.yes rfl rfl rfl g1) (r_load ag3 rfl rfl (by repeat first | exact mH | apply mT) rfl) ?_
      refine D_p rfl (.yes rfl rfl rfl g1) (p_gtr rfl rfl rfl) ?_
      refine D_p rfl (.plain rfl) (p_pick_f rfl rfl g1 rfl) ?_
      refine D_then (.cons (k := 10) rfl (.cons (k := 11) rfl (.cons (k := 38) rfl .nil))) ?_
      refine V_cond rfl ?_ ?_
      · intro c2; try simp only [td] at c2
        try simp only [oP_true, oP_false] at c2
        refine V_seq (V_region rfl ?_)
        refine L_go rfl (X_p (p_assign rfl rfl) ?_)
        refine L_then (.cons (k := 2) rfl .nil) ?_
        refine V_ret (blk_r (then_r (then_r (blk_r (then_r ?_)))))
        refine Leave.nil (.tmp rfl .nil) ?_
        show Value.int .i64 7 = _
        rw [boxE_7 (by unfold BoxOk okS; omega)]
      · intro c2; try simp only [td] at c2
        try simp only [oP_true, oP_false] at c2
        refine V_skip (blk_n (then_n ?_))
        refine V_region rfl ?_
        first | refine L_go rfl (X_p (p_add' rfl rfl rfl (by unfold InI; omega)) ?_) | refine L_go rfl (X_p (p_add rfl rfl rfl) ?_)
        refine L_go rfl (X_p (p_move rfl rfl) ?_)
        refine L_keep (.cons (k := 10) rfl (.cons (k := 11) rfl .nil)) (then_n ?_)
        refine LU_step ?_
        refine V_seq (V_region rfl ?_)
        refine L_go rfl (X_p (p_lss rfl rfl rfl) ?_)
        refine L_then (.cons (k := 10) rfl (.cons (k := 11) rfl (.cons (k := 12) rfl .nil))) ?_
        refine V_seq ?_
        refine V_cond_t rfl rfl ?_
        refine V_skip (then_n ?_)
        refine V_seq ?_
        refine V_block ?_
        refine V_seq (V_region rfl ?_)
        refine L_go rfl (X_p (p_move rfl rfl) ?_)
        refine L_go rfl (X_p (p_at un117 ag116 sz116 rfl rfl rfl (by omega) (by omega) rfl) ?_)
        refine L_go rfl (X_p (p_assign rfl rfl) ?_)
        refine L_go rfl (X_p (p_assign rfl rfl) ?_)
        refine L_then (.cons (k := 3) rfl (.cons (k := 4) rfl (.cons (k := 10) rfl (.cons (k := 11) rfl .nil)))) ?_
        refine V_seq (V_region rfl ?_)
        refine L_go rfl (X_p (p_assign rfl rfl) ?_)
        refine L_then (.cons (k := 3) rfl (.cons (k := 4) rfl (.cons (k := 5) rfl (.cons (k := 10) rfl (.cons (k := 11) rfl .nil))))) ?_
        refine V_seq ?_
        refine V_seq (V_region rfl ?_)
        refine L_go rfl (X_p (p_move rfl rfl) ?_)
        refine L_go rfl (X_p (p_gtr rfl rfl rfl) ?_)
        refine L_then (.cons (k := 4) rfl (.cons (k := 5) rfl (.cons (k := 10) rfl (.cons (k := 11) rfl (.cons (k := 16) rfl .nil))))) ?_
        refine V_cond_f rfl rfl ?_
        refine V_skip (then_n ?_)
        refine V_seq (V_draw (.rd 0 (.rd 1 (.rd 2 (.rd 3 (.rd 4 (.rd 5 (.rd 6 (.rd 7 (.rd 8 (.wr 9 [7, 6, 5, 3, 2, 1, 0] (.wr 10 [8, 7, 6, 5, 4, 3, 2, 1] (.rd 11 (.rd 12 (.rd 13 (.rd 14 (.rd 15 (.rd 16 (.rd 17 (.rd 18 (.rd 19 (.rd 20 (.rd 21 .done)))))))))))))))))))))) mixed (by kernel_rfl) rfl ?_)
        refine D_p rfl (.plain rfl) (p_move rfl rfl) ?_
        refine D_p rfl (.plain rfl) (p_move rfl rfl) ?_
        refine D_p rfl (.plain rfl) (p_nil rfl rfl) ?_
        refine D_p rfl (.plain rfl) (p_fieldo fo24_0 rfl rfl) ?_
        refine D_rd rfl (.plain rfl) (r_load ag3 rfl rfl (by repeat first | exact mH | apply mT) rfl) ?_
        refine D_p rfl (.plain rfl) (p_move rfl rfl) ?_
        refine D_p rfl (.plain rfl) (p_nil rfl rfl) ?_
        refine D_p rfl (.plain rfl) (p_fieldo fo24_1 rfl rfl) ?_
        refine D_rd rfl (.plain rfl) (r_load ag3 rfl rfl (by repeat first | exact mH | apply mT) rfl) ?_
        refine D_wr (.go (E' := []) rfl (.plain rfl) (w_slice (r := [_, _]) un66 sz3 zr3 rfl (by decide) rfl (by decide) rfl rfl) rfl ?_)
        rintro _ _ ⟨b4, hb4, rfl, rfl⟩
        refine ⟨.nil, ?_⟩
        refine D_wr (.go (E' := []) rfl (.plain rfl) (w_callP rfl rfl rfl (fun w hg => wide_c _ (by decide) [_, _] _ w (own_ints (l := [_, _]) (hg.own _ (by repeat first | exact mH | apply mT)) rfl (by decide)) (by simp))) rfl ?_)
        rintro _ _ ⟨rfl, rfl⟩
        refine ⟨.nil, ?_⟩
        refine D_p rfl (.plain rfl) (p_move rfl rfl) ?_
        refine D_cases (d := 28) rfl ?_ ?_
        · intro g2; have g2' := g2; try simp only [td] at g2'
          try simp only [oP_true, oP_false] at g2'
          refine D_no rfl (.mk' rfl rfl rfl g2) ?_
          refine D_no rfl (.mk' rfl rfl rfl g2) ?_
          refine D_no rfl (.mk' rfl rfl rfl g2) ?_
          refine D_no rfl (.mk' rfl rfl rfl g2) ?_
          refine D_no rfl (.mk' rfl rfl rfl g2) ?_
          refine D_no rfl (.mk' rfl rfl rfl g2) ?_
          refine D_no rfl (.mk' rfl rfl rfl g2) ?_
          refine D_no rfl (.mk' rfl rfl rfl g2) ?_
          refine D_no rfl (.mk' rfl rfl rfl g2) ?_
          refine D_p rfl (.plain rfl) (p_pick_t rfl rfl g2 rfl) ?_
          refine D_then (.cons (k := 10) rfl (.cons (k := 11) rfl (.cons (k := 38) rfl .nil))) ?_
          refine V_cond_t rfl rfl ?_
          refine V_seq (V_region rfl ?_)
          refine L_go rfl (X_p (p_assign rfl rfl) ?_)
          refine L_then (.cons (k := 2) rfl .nil) ?_
          refine V_ret (blk_r (then_r (then_r (blk_r (then_r ?_)))))
          refine Leave.nil (.tmp rfl .nil) ?_
          show Value.int .i64 7 = _
          rw [boxE_7 (by unfold BoxOk okS; omega)]
        · intro g2; have g2' := g2; try simp only [td] at g2'
          try simp only [oP_true, oP_false] at g2'
          refine D_p rfl (.yes rfl rfl rfl g2) (p_move rfl rfl) ?_
          refine D_p rfl (.yes rfl rfl rfl g2) (p_nil rfl rfl) ?_
          refine D_p rfl (.yes rfl rfl rfl g2) (p_fieldo fo24_0 rfl rfl) ?_
          refine D_rd rfl (.yes rfl rfl rfl g2) (r_load ag3 rfl rfl (by repeat first | exact mH | apply mT) rfl) ?_
          refine D_p rfl (.yes rfl rfl rfl g2) (p_move rfl rfl) ?_
          refine D_p rfl (.yes rfl rfl rfl g2) (p_nil rfl rfl) ?_
          refine D_p rfl (.yes rfl rfl rfl g2) (p_fieldo fo24_1 rfl rfl) ?_
          refine D_rd rfl (.yes rfl rfl rfl g2) (r_load ag3 rfl rfl (by repeat first | exact mH | apply mT) rfl) ?_
          refine D_p rfl (.yes rfl rfl rfl g2) (p_gtr rfl rfl rfl) ?_
          refine D_p rfl (.plain rfl) (p_pick_f rfl rfl g2 rfl) ?_
          refine D_then (.cons (k := 10) rfl (.cons (k := 11) rfl (.cons (k := 38) rfl .nil))) ?_
          refine V_cond rfl ?_ ?_
          · intro c3; try simp only [td] at c3
            try simp only [oP_true, oP_false] at c3
            refine V_seq (V_region rfl ?_)
            refine L_go rfl (X_p (p_assign rfl rfl) ?_)
            refine L_then (.cons (k := 2) rfl .nil) ?_
            refine V_ret (blk_r (then_r (then_r (blk_r (then_r ?_)))))
            refine Leave.nil (.tmp rfl .nil) ?_
            show Value.int .i64 7 = _
            rw [boxE_7 (by unfold BoxOk okS; omega)]
          · intro c3; try simp only [td] at c3
            try simp only [oP_true, oP_false] at c3
            refine V_skip (blk_n (then_n ?_))
            refine V_region rfl ?_
            first | refine L_go rfl (X_p (p_add' rfl rfl rfl (by unfold InI; omega)) ?_) | refine L_go rfl (X_p (p_add rfl rfl rfl) ?_)
            refine L_go rfl (X_p (p_move rfl rfl) ?_)
            refine L_keep (.cons (k := 10) rfl (.cons (k := 11) rfl .nil)) (then_n ?_)
            refine LU_step ?_
            refine V_seq (V_region rfl ?_)
            refine L_go rfl (X_p (p_lss rfl rfl rfl) ?_)
            refine L_then (.cons (k := 10) rfl (.cons (k := 11) rfl (.cons (k := 12) rfl .nil))) ?_
            refine V_seq ?_
            refine V_cond_t rfl rfl ?_
            refine V_skip (then_n ?_)
            refine V_seq ?_
            refine V_block ?_
            refine V_seq (V_region rfl ?_)
            refine L_go rfl (X_p (p_move rfl rfl) ?_)
            refine L_go rfl (X_p (p_at un117 ag116 sz116 rfl rfl rfl (by omega) (by omega) rfl) ?_)
            refine L_go rfl (X_p (p_assign rfl rfl) ?_)
            refine L_go rfl (X_p (p_assign rfl rfl) ?_)
            refine L_then (.cons (k := 3) rfl (.cons (k := 4) rfl (.cons (k := 10) rfl (.cons (k := 11) rfl .nil)))) ?_
            refine V_seq (V_region rfl ?_)
            refine L_go rfl (X_p (p_assign rfl rfl) ?_)
            refine L_then (.cons (k := 3) rfl (.cons (k := 4) rfl (.cons (k := 5) rfl (.cons (k := 10) rfl (.cons (k := 11) rfl .nil))))) ?_
            refine V_seq ?_
            refine V_seq (V_region rfl ?_)
            refine L_go rfl (X_p (p_move rfl rfl) ?_)
            refine L_go rfl (X_p (p_gtr rfl rfl rfl) ?_)
            refine L_then (.cons (k := 4) rfl (.cons (k := 5) rfl (.cons (k := 10) rfl (.cons (k := 11) rfl (.cons (k := 16) rfl .nil))))) ?_
            refine V_cond_f rfl rfl ?_
            refine V_skip (then_n ?_)
            refine V_seq (V_draw (.rd 0 (.rd 1 (.rd 2 (.rd 3 (.rd 4 (.rd 5 (.rd 6 (.rd 7 (.rd 8 (.wr 9 [7, 6, 5, 3, 2, 1, 0] (.wr 10 [8, 7, 6, 5, 4, 3, 2, 1] (.rd 11 (.rd 12 (.rd 13 (.rd 14 (.rd 15 (.rd 16 (.rd 17 (.rd 18 (.rd 19 (.rd 20 (.rd 21 .done)))))))))))))))))))))) mixed (by kernel_rfl) rfl ?_)
            refine D_p rfl (.plain rfl) (p_move rfl rfl) ?_
            refine D_p rfl (.plain rfl) (p_move rfl rfl) ?_
            refine D_p rfl (.plain rfl) (p_nil rfl rfl) ?_
            refine D_p rfl (.plain rfl) (p_fieldo fo24_0 rfl rfl) ?_
            refine D_rd rfl (.plain rfl) (r_load ag3 rfl rfl (by repeat first | exact mH | apply mT) rfl) ?_
            refine D_p rfl (.plain rfl) (p_move rfl rfl) ?_
            refine D_p rfl (.plain rfl) (p_nil rfl rfl) ?_
            refine D_p rfl (.plain rfl) (p_fieldo fo24_1 rfl rfl) ?_
            refine D_rd rfl (.plain rfl) (r_load ag3 rfl rfl (by repeat first | exact mH | apply mT) rfl) ?_
            refine D_wr (.go (E' := []) rfl (.plain rfl) (w_slice (r := [_, _]) un66 sz3 zr3 rfl (by decide) rfl (by decide) rfl rfl) rfl ?_)
            rintro _ _ ⟨b5, hb5, rfl, rfl⟩
            refine ⟨.nil, ?_⟩
            refine D_wr (.go (E' := []) rfl (.plain rfl) (w_callP rfl rfl rfl (fun w hg => wide_c _ (by decide) [_, _] _ w (own_ints (l := [_, _]) (hg.own _ (by repeat first | exact mH | apply mT)) rfl (by decide)) (by simp))) rfl ?_)
            rintro _ _ ⟨rfl, rfl⟩
            refine ⟨.nil, ?_⟩
            refine D_p rfl (.plain rfl) (p_move rfl rfl) ?_
            refine D_cases (d := 28) rfl ?_ ?_
            · intro g3; have g3' := g3; try simp only [td] at g3'
              try simp only [oP_true, oP_false] at g3'
              refine D_no rfl (.mk' rfl rfl rfl g3) ?_
              refine D_no rfl (.mk' rfl rfl rfl g3) ?_
              refine D_no rfl (.mk' rfl rfl rfl g3) ?_
              refine D_no rfl (.mk' rfl rfl rfl g3) ?_
              refine D_no rfl (.mk' rfl rfl rfl g3) ?_
              refine D_no rfl (.mk' rfl rfl rfl g3) ?_
              refine D_no rfl (.mk' rfl rfl rfl g3) ?_
              refine D_no rfl (.mk' rfl rfl rfl g3) ?_
              refine D_no rfl (.mk' rfl rfl rfl g3) ?_
              refine D_p rfl (.plain rfl) (p_pick_t rfl rfl g3 rfl) ?_
              refine D_then (.cons (k := 10) rfl (.cons (k := 11) rfl (.cons (k := 38) rfl .nil))) ?_
              refine V_cond_t rfl rfl ?_
              refine V_seq (V_region rfl ?_)
              refine L_go rfl (X_p (p_assign rfl rfl) ?_)
              refine L_then (.cons (k := 2) rfl .nil) ?_
              refine V_ret (blk_r (then_r (then_r (blk_r (then_r ?_)))))
              refine Leave.nil (.tmp rfl .nil) ?_
              show Value.int .i64 7 = _
              rw [boxE_7 (by unfold BoxOk okS; omega)]
            · intro g3; have g3' := g3; try simp only [td] at g3'
              try simp only [oP_true, oP_false] at g3'
              refine D_p rfl (.yes rfl rfl rfl g3) (p_move rfl rfl) ?_
              refine D_p rfl (.yes rfl rfl rfl g3) (p_nil rfl rfl) ?_
              refine D_p rfl (.yes rfl rfl rfl g3) (p_fieldo fo24_0 rfl rfl) ?_
              refine D_rd rfl (.yes rfl rfl rfl g3) (r_load ag3 rfl rfl (by repeat first | exact mH | apply mT) rfl) ?_
              refine D_p rfl (.yes rfl rfl rfl g3) (p_move rfl rfl) ?_
              refine D_p rfl (.yes rfl rfl rfl g3) (p_nil rfl rfl) ?_
              refine D_p rfl (.yes rfl rfl rfl g3) (p_fieldo fo24_1 rfl rfl) ?_
              refine D_rd rfl (.yes rfl rfl rfl g3) (r_load ag3 rfl rfl (by repeat first | exact mH | apply mT) rfl) ?_
              refine D_p rfl (.yes rfl rfl rfl g3) (p_gtr rfl rfl rfl) ?_
              refine D_p rfl (.plain rfl) (p_pick_f rfl rfl g3 rfl) ?_
              refine D_then (.cons (k := 10) rfl (.cons (k := 11) rfl (.cons (k := 38) rfl .nil))) ?_
              refine V_cond rfl ?_ ?_
              · intro c4; try simp only [td] at c4
                try simp only [oP_true, oP_false] at c4
                refine V_seq (V_region rfl ?_)
                refine L_go rfl (X_p (p_assign rfl rfl) ?_)
                refine L_then (.cons (k := 2) rfl .nil) ?_
                refine V_ret (blk_r (then_r (then_r (blk_r (then_r ?_)))))
                refine Leave.nil (.tmp rfl .nil) ?_
                show Value.int .i64 7 = _
                rw [boxE_7 (by unfold BoxOk okS; omega)]
              · intro c4; try simp only [td] at c4
                try simp only [oP_true, oP_false] at c4
                refine V_skip (blk_n (then_n ?_))
                refine V_region rfl ?_
                first | refine L_go rfl (X_p (p_add' rfl rfl rfl (by unfold InI; omega)) ?_) | refine L_go rfl (X_p (p_add rfl rfl rfl) ?_)
                refine L_go rfl (X_p (p_move rfl rfl) ?_)
                refine L_keep (.cons (k := 10) rfl (.cons (k := 11) rfl .nil)) (then_n ?_)
                refine LU_step ?_
                refine V_seq (V_region rfl ?_)
                refine L_go rfl (X_p (p_lss rfl rfl rfl) ?_)
                refine L_then (.cons (k := 10) rfl (.cons (k := 11) rfl (.cons (k := 12) rfl .nil))) ?_
                refine V_seq ?_
                refine V_cond_t rfl rfl ?_
                refine V_skip (then_n ?_)
                refine V_seq ?_
                refine V_block ?_
                refine V_seq (V_region rfl ?_)
                refine L_go rfl (X_p (p_move rfl rfl) ?_)
                refine L_go rfl (X_p (p_at un117 ag116 sz116 rfl rfl rfl (by omega) (by omega) rfl) ?_)
                refine L_go rfl (X_p (p_assign rfl rfl) ?_)
                refine L_go rfl (X_p (p_assign rfl rfl) ?_)
                refine L_then (.cons (k := 3) rfl (.cons (k := 4) rfl (.cons (k := 10) rfl (.cons (k := 11) rfl .nil)))) ?_
                refine V_seq (V_region rfl ?_)
                refine L_go rfl (X_p (p_assign rfl rfl) ?_)
                refine L_then (.cons (k := 3) rfl (.cons (k := 4) rfl (.cons (k := 5) rfl (.cons (k := 10) rfl (.cons (k := 11) rfl .nil))))) ?_
                refine V_seq ?_
                refine V_seq (V_region rfl ?_)
                refine L_go rfl (X_p (p_move rfl rfl) ?_)
                refine L_go rfl (X_p (p_gtr rfl rfl rfl) ?_)
                refine L_then (.cons (k := 4) rfl (.cons (k := 5) rfl (.cons (k := 10) rfl (.cons (k := 11) rfl (.cons (k := 16) rfl .nil))))) ?_
                refine V_cond_t rfl rfl ?_
                refine V_region rfl ?_
                refine L_go rfl (X_p (p_assign rfl rfl) ?_)
                refine L_then (.cons (k := 4) rfl (.cons (k := 5) rfl (.cons (k := 10) rfl (.cons (k := 11) rfl .nil)))) ?_
                refine V_seq (V_draw (.rd 0 (.rd 1 (.rd 2 (.rd 3 (.rd 4 (.rd 5 (.rd 6 (.rd 7 (.rd 8 (.wr 9 [7, 6, 5, 3, 2, 1, 0] (.wr 10 [8, 7, 6, 5, 4, 3, 2, 1] (.rd 11 (.rd 12 (.rd 13 (.rd 14 (.rd 15 (.rd 16 (.rd 17 (.rd 18 (.rd 19 (.rd 20 (.rd 21 .done)))))))))))))))))))))) mixed (by kernel_rfl) rfl ?_)
                refine D_p rfl (.plain rfl) (p_move rfl rfl) ?_
                refine D_p rfl (.plain rfl) (p_move rfl rfl) ?_
                refine D_p rfl (.plain rfl) (p_nil rfl rfl) ?_
                refine D_p rfl (.plain rfl) (p_fieldo fo24_0 rfl rfl) ?_
                refine D_rd rfl (.plain rfl) (r_load ag3 rfl rfl (by repeat first | exact mH | apply mT) rfl) ?_
                refine D_p rfl (.plain rfl) (p_move rfl rfl) ?_
                refine D_p rfl (.plain rfl) (p_nil rfl rfl) ?_
                refine D_p rfl (.plain rfl) (p_fieldo fo24_1 rfl rfl) ?_
                refine D_rd rfl (.plain rfl) (r_load ag3 rfl rfl (by repeat first | exact mH | apply mT) rfl) ?_
                refine D_wr (.go (E' := []) rfl (.plain rfl) (w_slice (r := [_, _]) un66 sz3 zr3 rfl (by decide) rfl (by decide) rfl rfl) rfl ?_)
                rintro _ _ ⟨b6, hb6, rfl, rfl⟩
                refine ⟨.nil, ?_⟩
                refine D_wr (.go (E' := []) rfl (.plain rfl) (w_callP rfl rfl rfl (fun w hg => wide_c _ (by decide) [_, _] _ w (own_ints (l := [_, _]) (hg.own _ (by repeat first | exact mH | apply mT)) rfl (by decide)) (by simp))) rfl ?_)
                rintro _ _ ⟨rfl, rfl⟩
                refine ⟨.nil, ?_⟩
                refine D_p rfl (.plain rfl) (p_move rfl rfl) ?_
                refine D_cases (d := 28) rfl ?_ ?_
                · intro g4; have g4' := g4; try simp only [td] at g4'
                  try simp only [oP_true, oP_false] at g4'
                  refine D_no rfl (.mk' rfl rfl rfl g4) ?_
                  refine D_no rfl (.mk' rfl rfl rfl g4) ?_
                  refine D_no rfl (.mk' rfl rfl rfl g4) ?_
                  refine D_no rfl (.mk' rfl rfl rfl g4) ?_
                  refine D_no rfl (.mk' rfl rfl rfl g4) ?_
                  refine D_no rfl (.mk' rfl rfl rfl g4) ?_
                  refine D_no rfl (.mk' rfl rfl rfl g4) ?_
                  refine D_no rfl (.mk' rfl rfl rfl g4) ?_
                  refine D_no rfl (.mk' rfl rfl rfl g4) ?_
                  refine D_p rfl (.plain rfl) (p_pick_t rfl rfl g4 rfl) ?_
                  refine D_then (.cons (k := 10) rfl (.cons (k := 11) rfl (.cons (k := 38) rfl .nil))) ?_
                  refine V_cond_t rfl rfl ?_
                  refine V_seq (V_region rfl ?_)
                  refine L_go rfl (X_p (p_assign rfl rfl) ?_)
                  refine L_then (.cons (k := 2) rfl .nil) ?_
                  refine V_ret (blk_r (then_r (then_r (blk_r (then_r ?_)))))
                  refine Leave.nil (.tmp rfl .nil) ?_
                  show Value.int .i64 7 = _
                  rw [boxE_7 (by unfold BoxOk okS; omega)]
                · intro g4; have g4' := g4; try simp only [td] at g4'
                  try simp only [oP_true, oP_false] at g4'
                  refine D_p rfl (.yes rfl rfl rfl g4) (p_move rfl rfl) ?_
                  refine D_p rfl (.yes rfl rfl rfl g4) (p_nil rfl rfl) ?_
                  refine D_p rfl (.yes rfl rfl rfl g4) (p_fieldo fo24_0 rfl rfl) ?_
                  refine D_rd rfl (.yes rfl rfl rfl g4) (r_load ag3 rfl rfl (by repeat first | exact mH | apply mT) rfl) ?_
                  refine D_p rfl (.yes rfl rfl rfl g4) (p_move rfl rfl) ?_
                  refine D_p rfl (.yes rfl rfl rfl g4) (p_nil rfl rfl) ?_
                  refine D_p rfl (.yes rfl rfl rfl g4) (p_fieldo fo24_1 rfl rfl) ?_
                  refine D_rd rfl (.yes rfl rfl rfl g4) (r_load ag3 rfl rfl (by repeat first | exact mH | apply mT) rfl) ?_
                  refine D_p rfl (.yes rfl rfl rfl g4) (p_gtr rfl rfl rfl) ?_
                  refine D_p rfl (.plain rfl) (p_pick_f rfl rfl g4 rfl) ?_
                  refine D_then (.cons (k := 10) rfl (.cons (k := 11) rfl (.cons (k := 38) rfl .nil))) ?_
                  refine V_cond rfl ?_ ?_
                  · intro c5; try simp only [td] at c5
                    try simp only [oP_true, oP_false] at c5
                    refine V_seq (V_region rfl ?_)
                    refine L_go rfl (X_p (p_assign rfl rfl) ?_)
                    refine L_then (.cons (k := 2) rfl .nil) ?_
                    refine V_ret (blk_r (then_r (then_r (blk_r (then_r ?_)))))
                    refine Leave.nil (.tmp rfl .nil) ?_
                    show Value.int .i64 7 = _
                    rw [boxE_7 (by unfold BoxOk okS; omega)]
                  · intro c5; try simp only [td] at c5
                    try simp only [oP_true, oP_false] at c5
                    refine V_skip (blk_n (then_n ?_))
                    refine V_region rfl ?_
                    first | refine L_go rfl (X_p (p_add' rfl rfl rfl (by unfold InI; omega)) ?_) | refine L_go rfl (X_p (p_add rfl rfl rfl) ?_)
                    refine L_go rfl (X_p (p_move rfl rfl) ?_)
                    refine L_keep (.cons (k := 10) rfl (.cons (k := 11) rfl .nil)) (then_n ?_)
                    refine LU_step ?_
                    refine V_seq (V_region rfl ?_)
                    refine L_go rfl (X_p (p_lss rfl rfl rfl) ?_)
                    refine L_then (.cons (k := 10) rfl (.cons (k := 11) rfl (.cons (k := 12) rfl .nil))) ?_
                    refine V_seq ?_
                    refine V_cond_t rfl rfl ?_
                    refine V_skip (then_n ?_)
                    refine V_seq ?_
                    refine V_block ?_
                    refine V_seq (V_region rfl ?_)
                    refine L_go rfl (X_p (p_move rfl rfl) ?_)
                    refine L_go rfl (X_p (p_at un117 ag116 sz116 rfl rfl rfl (by omega) (by omega) rfl) ?_)
                    refine L_go rfl (X_p (p_assign rfl rfl) ?_)
                    refine L_go rfl (X_p (p_assign rfl rfl) ?_)
                    refine L_then (.cons (k := 3) rfl (.cons (k := 4) rfl (.cons (k := 10) rfl (.cons (k := 11) rfl .nil)))) ?_
                    refine V_seq (V_region rfl ?_)
                    refine L_go rfl (X_p (p_assign rfl rfl) ?_)
                    refine L_then (.cons (k := 3) rfl (.cons (k := 4) rfl (.cons (k := 5) rfl (.cons (k := 10) rfl (.cons (k := 11) rfl .nil))))) ?_
                    refine V_seq ?_
                    refine V_seq (V_region rfl ?_)
                    refine L_go rfl (X_p (p_move rfl rfl) ?_)
                    refine L_go rfl (X_p (p_gtr rfl rfl rfl) ?_)
                    refine L_then (.cons (k := 4) rfl (.cons (k := 5) rfl (.cons (k := 10) rfl (.cons (k := 11) rfl (.cons (k := 16) rfl .nil))))) ?_
                    refine V_cond_t rfl rfl ?_
                    refine V_region rfl ?_
                    refine L_go rfl (X_p (p_assign rfl rfl) ?_)
                    refine L_then (.cons (k := 4) rfl (.cons (k := 5) rfl (.cons (k := 10) rfl (.cons (k := 11) rfl .nil)))) ?_
                    refine V_seq (V_draw (.rd 0 (.rd 1 (.rd 2 (.rd 3 (.rd 4 (.rd 5 (.rd 6 (.rd 7 (.rd 8 (.wr 9 [7, 6, 5, 3, 2, 1, 0] (.wr 10 [8, 7, 6, 5, 4, 3, 2, 1] (.rd 11 (.rd 12 (.rd 13 (.rd 14 (.rd 15 (.rd 16 (.rd 17 (.rd 18 (.rd 19 (.rd 20 (.rd 21 .done)))))))))))))))))))))) mixed (by kernel_rfl) rfl ?_)
                    refine D_p rfl (.plain rfl) (p_move rfl rfl) ?_
                    refine D_p rfl (.plain rfl) (p_move rfl rfl) ?_
                    refine D_p rfl (.plain rfl) (p_nil rfl rfl) ?_
                    refine D_p rfl (.plain rfl) (p_fieldo fo24_0 rfl rfl) ?_
                    refine D_rd rfl (.plain rfl) (r_load ag3 rfl rfl (by repeat first | exact mH | apply mT) rfl) ?_
                    refine D_p rfl (.plain rfl) (p_move rfl rfl) ?_
                    refine D_p rfl (.plain rfl) (p_nil rfl rfl) ?_
                    refine D_p rfl (.plain rfl) (p_fieldo fo24_1 rfl rfl) ?_
                    refine D_rd rfl (.plain rfl) (r_load ag3 rfl rfl (by repeat first | exact mH | apply mT) rfl) ?_
                    refine D_wr (.go (E' := []) rfl (.plain rfl) (w_slice (r := [_, _]) un66 sz3 zr3 rfl (by decide) rfl (by decide) rfl rfl) rfl ?_)
                    rintro _ _ ⟨b7, hb7, rfl, rfl⟩
                    refine ⟨.nil, ?_⟩
                    refine D_wr (.go (E' := []) rfl (.plain rfl) (w_callP rfl rfl rfl (fun w hg => wide_c _ (by decide) [_, _] _ w (own_ints (l := [_, _]) (hg.own _ (by repeat first | exact mH | apply mT)) rfl (by decide)) (by simp))) rfl ?_)
                    rintro _ _ ⟨rfl, rfl⟩
                    refine ⟨.nil, ?_⟩
                    refine D_p rfl (.plain rfl) (p_move rfl rfl) ?_
                    refine D_cases (d := 28) rfl ?_ ?_
                    · intro g5; have g5' := g5; try simp only [td] at g5'
                      try simp only [oP_true, oP_false] at g5'
                      refine D_no rfl (.mk' rfl rfl rfl g5) ?_
                      refine D_no rfl (.mk' rfl rfl rfl g5) ?_
                      refine D_no rfl (.mk' rfl rfl rfl g5) ?_
                      refine D_no rfl (.mk' rfl rfl rfl g5) ?_
                      refine D_no rfl (.mk' rfl rfl rfl g5) ?_
                      refine D_no rfl (.mk' rfl rfl rfl g5) ?_
                      refine D_no rfl (.mk' rfl rfl rfl g5) ?_
                      refine D_no rfl (.mk' rfl rfl rfl g5) ?_
                      refine D_no rfl (.mk' rfl rfl rfl g5) ?_
                      refine D_p rfl (.plain rfl) (p_pick_t rfl rfl g5 rfl) ?_
                      refine D_then (.cons (k := 10) rfl (.cons (k := 11) rfl (.cons (k := 38) rfl .nil))) ?_
                      refine V_cond_t rfl rfl ?_
                      refine V_seq (V_region rfl ?_)
                      refine L_go rfl (X_p (p_assign rfl rfl) ?_)
                      refine L_then (.cons (k := 2) rfl .nil) ?_
                      refine V_ret (blk_r (then_r (then_r (blk_r (then_r ?_)))))
                      refine Leave.nil (.tmp rfl .nil) ?_
                      show Value.int .i64 7 = _
                      rw [boxE_7 (by unfold BoxOk okS; omega)]
                    · intro g5; have g5' := g5; try simp only [td] at g5'
                      try simp only [oP_true, oP_false] at g5'
                      refine D_p rfl (.yes rfl rfl rfl g5) (p_move rfl rfl) ?_
                      refine D_p rfl (.yes rfl rfl rfl g5) (p_nil rfl rfl) ?_
                      refine D_p rfl (.yes rfl rfl rfl g5) (p_fieldo fo24_0 rfl rfl) ?_
                      refine D_rd rfl (.yes rfl rfl rfl g5) (r_load ag3 rfl rfl (by repeat first | exact mH | apply mT) rfl) ?_
                      refine D_p rfl (.yes rfl rfl rfl g5) (p_move rfl rfl) ?_
                      refine D_p rfl (.yes rfl rfl rfl g5) (p_nil rfl rfl) ?_
                      refine D_p rfl (.yes rfl rfl rfl g5) (p_fieldo fo24_1 rfl rfl) ?_
                      refine D_rd rfl (.yes rfl rfl rfl g5) (r_load ag3 rfl rfl (by repeat first | exact mH | apply mT) rfl) ?_
                      refine D_p rfl (.yes rfl rfl rfl g5) (p_gtr rfl rfl rfl) ?_
                      refine D_p rfl (.plain rfl) (p_pick_f rfl rfl g5 rfl) ?_
                      refine D_then (.cons (k := 10) rfl (.cons (k := 11) rfl (.cons (k := 38) rfl .nil))) ?_
                      refine V_cond rfl ?_ ?_
                      · intro c6; try simp only [td] at c6
                        try simp only [oP_true, oP_false] at c6
                        refine V_seq (V_region rfl ?_)
                        refine L_go rfl (X_p (p_assign rfl rfl) ?_)
                        refine L_then (.cons (k := 2) rfl .nil) ?_
                        refine V_ret (blk_r (then_r (then_r (blk_r (then_r ?_)))))
                        refine Leave.nil (.tmp rfl .nil) ?_
                        show Value.int .i64 7 = _
                        rw [boxE_7 (by unfold BoxOk okS; omega)]
                      · intro c6; try simp only [td] at c6
                        try simp only [oP_true, oP_false] at c6
                        refine V_skip (blk_n (then_n ?_))
                        refine V_region rfl ?_
                        first | refine L_go rfl (X_p (p_add' rfl rfl rfl (by unfold InI; omega)) ?_) | refine L_go rfl (X_p (p_add rfl rfl rfl) ?_)
                        refine L_go rfl (X_p (p_move rfl rfl) ?_)
                        refine L_keep (.cons (k := 10) rfl (.cons (k := 11) rfl .nil)) (then_n ?_)
                        refine LU_step ?_
                        refine V_seq (V_region rfl ?_)
                        refine L_go rfl (X_p (p_lss rfl rfl rfl) ?_)
                        refine L_then (.cons (k := 10) rfl (.cons (k := 11) rfl (.cons (k := 12) rfl .nil))) ?_
                        refine V_seq ?_
                        refine V_cond_t rfl rfl ?_
                        refine V_skip (then_n ?_)
                        refine V_seq ?_
                        refine V_block ?_
                        refine V_seq (V_region rfl ?_)
                        refine L_go rfl (X_p (p_move rfl rfl) ?_)
                        refine L_go rfl (X_p (p_at un117 ag116 sz116 rfl rfl rfl (by omega) (by omega) rfl) ?_)
                        refine L_go rfl (X_p (p_assign rfl rfl) ?_)
                        refine L_go rfl (X_p (p_assign rfl rfl) ?_)
                        refine L_then (.cons (k := 3) rfl (.cons (k := 4) rfl (.cons (k := 10) rfl (.cons (k := 11) rfl .nil)))) ?_
                        refine V_seq (V_region rfl ?_)
                        refine L_go rfl (X_p (p_assign rfl rfl) ?_)
                        refine L_then (.cons (k := 3) rfl (.cons (k := 4) rfl (.cons (k := 5) rfl (.cons (k := 10) rfl (.cons (k := 11) rfl .nil))))) ?_
                        refine V_seq ?_
                        refine V_seq (V_region rfl ?_)
                        refine L_go rfl (X_p (p_move rfl rfl) ?_)
                        refine L_go rfl (X_p (p_gtr rfl rfl rfl) ?_)
                        refine L_then (.cons (k := 4) rfl (.cons (k := 5) rfl (.cons (k := 10) rfl (.cons (k := 11) rfl (.cons (k := 16) rfl .nil))))) ?_
                        refine V_cond_t rfl rfl ?_
                        refine V_region rfl ?_
                        refine L_go rfl (X_p (p_assign rfl rfl) ?_)
                        refine L_then (.cons (k := 4) rfl (.cons (k := 5) rfl (.cons (k := 10) rfl (.cons (k := 11) rfl .nil)))) ?_
                        refine V_seq (V_draw (.rd 0 (.rd 1 (.rd 2 (.rd 3 (.rd 4 (.rd 5 (.rd 6 (.rd 7 (.rd 8 (.wr 9 [7, 6, 5, 3, 2, 1, 0] (.wr 10 [8, 7, 6, 5, 4, 3, 2, 1] (.rd 11 (.rd 12 (.rd 13 (.rd 14 (.rd 15 (.rd 16 (.rd 17 (.rd 18 (.rd 19 (.rd 20 (.rd 21 .done)))))))))))))))))))))) mixed (by kernel_rfl) rfl ?_)
                        refine D_p rfl (.plain rfl) (p_move rfl rfl) ?_
                        refine D_p rfl (.plain rfl) (p_move rfl rfl) ?_
                        refine D_p rfl (.plain rfl) (p_nil rfl rfl) ?_
                        refine D_p rfl (.plain rfl) (p_fieldo fo24_0 rfl rfl) ?_
                        refine D_rd rfl (.plain rfl) (r_load ag3 rfl rfl (by repeat first | exact mH | apply mT) rfl) ?_
                        refine D_p rfl (.plain rfl) (p_move rfl rfl) ?_
                        refine D_p rfl (.plain rfl) (p_nil rfl rfl) ?_
                        refine D_p rfl (.plain rfl) (p_fieldo fo24_1 rfl rfl) ?_
                        refine D_rd rfl (.plain rfl) (r_load ag3 rfl rfl (by repeat first | exact mH | apply mT) rfl) ?_
                        refine D_wr (.go (E' := []) rfl (.plain rfl) (w_slice (r := [_, _]) un66 sz3 zr3 rfl (by decide) rfl (by decide) rfl rfl) rfl ?_)
                        rintro _ _ ⟨b8, hb8, rfl, rfl⟩
                        refine ⟨.nil, ?_⟩
                        refine D_wr (.go (E' := []) rfl (.plain rfl) (w_callP rfl rfl rfl (fun w hg => wide_c _ (by decide) [_, _] _ w (own_ints (l := [_, _]) (hg.own _ (by repeat first | exact mH | apply mT)) rfl (by decide)) (by simp))) rfl ?_)
                        rintro _ _ ⟨rfl, rfl⟩
                        refine ⟨.nil, ?_⟩
                        refine D_p rfl (.plain rfl) (p_move rfl rfl) ?_
                        refine D_cases (d := 28) rfl ?_ ?_
                        · intro g6; have g6' := g6; try simp only [td] at g6'
                          try simp only [oP_true, oP_false] at g6'
                          refine D_no rfl (.mk' rfl rfl rfl g6) ?_
                          refine D_no rfl (.mk' rfl rfl rfl g6) ?_
                          refine D_no rfl (.mk' rfl rfl rfl g6) ?_
                          refine D_no rfl (.mk' rfl rfl rfl g6) ?_
                          refine D_no rfl (.mk' rfl rfl rfl g6) ?_
                          refine D_no rfl (.mk' rfl rfl rfl g6) ?_
                          refine D_no rfl (.mk' rfl rfl rfl g6) ?_
                          refine D_no rfl (.mk' rfl rfl rfl g6) ?_
                          refine D_no rfl (.mk' rfl rfl rfl g6) ?_
                          refine D_p rfl (.plain rfl) (p_pick_t rfl rfl g6 rfl) ?_
                          refine D_then (.cons (k := 10) rfl (.cons (k := 11) rfl (.cons (k := 38) rfl .nil))) ?_
                          refine V_cond_t rfl rfl ?_
                          refine V_seq (V_region rfl ?_)
                          refine L_go rfl (X_p (p_assign rfl rfl) ?_)
                          refine L_then (.cons (k := 2) rfl .nil) ?_
                          refine V_ret (blk_r (then_r (then_r (blk_r (then_r ?_)))))
                          refine Leave.nil (.tmp rfl .nil) ?_
                          show Value.int .i64 7 = _
                          rw [boxE_7 (by unfold BoxOk okS; omega)]
                        · intro g6; have g6' := g6; try simp only [td] at g6'
                          try simp only [oP_true, oP_false] at g6'
                          refine D_p rfl (.yes rfl rfl rfl g6) (p_move rfl rfl) ?_
                          refine D_p rfl (.yes rfl rfl rfl g6) (p_nil rfl rfl) ?_
                          refine D_p rfl (.yes rfl rfl rfl g6) (p_fieldo fo24_0 rfl rfl) ?_
                          refine D_rd rfl (.yes rfl rfl rfl g6) (r_load ag3 rfl rfl (by repeat first | exact mH | apply mT) rfl) ?_
                          refine D_p rfl (.yes rfl rfl rfl g6) (p_move rfl rfl) ?_
                          refine D_p rfl (.yes rfl rfl rfl g6) (p_nil rfl rfl) ?_
                          refine D_p rfl (.yes rfl rfl rfl g6) (p_fieldo fo24_1 rfl rfl) ?_
                          refine D_rd rfl (.yes rfl rfl rfl g6) (r_load ag3 rfl rfl (by repeat first | exact mH | apply mT) rfl) ?_
                          refine D_p rfl (.yes rfl rfl rfl g6) (p_gtr rfl rfl rfl) ?_
                          refine D_p rfl (.plain rfl) (p_pick_f rfl rfl g6 rfl) ?_
                          refine D_then (.cons (k := 10) rfl (.cons (k := 11) rfl (.cons (k := 38) rfl .nil))) ?_
                          refine V_cond rfl ?_ ?_
                          · intro c7; try simp only [td] at c7
                            try simp only [oP_true, oP_false] at c7
                            refine V_seq (V_region rfl ?_)
                            refine L_go rfl (X_p (p_assign rfl rfl) ?_)
                            refine L_then (.cons (k := 2) rfl .nil) ?_
                            refine V_ret (blk_r (then_r (then_r (blk_r (then_r ?_)))))
                            refine Leave.nil (.tmp rfl .nil) ?_
                            show Value.int .i64 7 = _
                            rw [boxE_7 (by unfold BoxOk okS; omega)]
                          · intro c7; try simp only [td] at c7
                            try simp only [oP_true, oP_false] at c7
                            refine V_skip (blk_n (then_n ?_))
                            refine V_region rfl ?_
                            first | refine L_go rfl (X_p (p_add' rfl rfl rfl (by unfold InI; omega)) ?_) | refine L_go rfl (X_p (p_add rfl rfl rfl) ?_)
                            refine L_go rfl (X_p (p_move rfl rfl) ?_)
                            refine L_keep (.cons (k := 10) rfl (.cons (k := 11) rfl .nil)) (then_n ?_)
                            refine LU_step ?_
                            refine V_seq (V_region rfl ?_)
                            refine L_go rfl (X_p (p_lss rfl rfl rfl) ?_)
                            refine L_then (.cons (k := 10) rfl (.cons (k := 11) rfl (.cons (k := 12) rfl .nil))) ?_
                            refine V_seq ?_
                            refine V_cond_f rfl rfl ?_
                            refine V_exit (then_e (then_e (blk_e rfl (then_n ?_))))
                            refine V_seq (V_region rfl ?_)
                            refine L_go rfl (X_p (p_assign rfl rfl) ?_)
                            refine L_then (.cons (k := 2) rfl .nil) ?_
                            refine V_ret ?_
                            refine Leave.nil (.tmp rfl .nil) ?_
                            show Value.int .i64 0 = _
                            rw [boxE_0 (by unfold BoxOk okS; omega)]
set_option maxHeartbeats 16000000 in
theorem ahead_c (b : Box) (t : Task) (tv pv : Value) (n : Int) (w : World) (ht : TaskR w (.agg #[.int .i64 t.frm, .int .i64 t.speed, .int .i64 t.accel, tv, pv]) t) : FnP Tryd.prog 28 [.agg #[.int .i64 t.frm, .int .i64 t.speed, .int .i64 t.accel, tv, pv], .agg (Box.cells b).toArray, .int .i64 n] w (.tuple #[.agg (Box.cells (aheadP t b n).1).toArray, .int .i64 (aheadP t b n).2]) := by
  have hT := ht
  refine fn_pure Tryd.func28 rfl (by kernel_rfl) Tryd.ntmps28 Tryd.results28 rfl ?_
  refine V_seq (V_region rfl ?_)
  refine L_go rfl (X_wr (w_box rfl rfl) ?_)
  rintro _ _ ⟨b1, hb1, rfl, rfl⟩
  refine L_go rfl (X_wr (w_box rfl rfl) ?_)
  rintro _ _ ⟨b2, hb2, rfl, rfl⟩
  refine L_go rfl (X_wr (w_alloc zr33 rfl) ?_)
  rintro _ _ ⟨b3, hb3, rfl, rfl⟩
  refine L_go rfl (X_p (p_assign rfl rfl) ?_)
  refine L_then (.cons (k := 2) rfl (.cons (k := 3) rfl (.cons (k := 4) rfl (.cons (k := 6) rfl .nil)))) ?_
  refine V_seq (V_region rfl ?_)
  refine L_go rfl (X_rd (r_loadA (vs := [_, _, _, _, _]) ag54 sz54 rfl rfl (by repeat first | exact mH | apply mT) rfl) ?_)
  refine L_go rfl (X_wr (w_callP rfl rfl rfl (fun w hg => asked_c t [] _ _ w (hT.good hg) (SliceR.nil _ _) (by simp))) ?_)
  rintro _ _ ⟨rfl, rfl⟩
  refine L_go rfl (X_p (p_assign rfl rfl) ?_)
  refine L_then (.cons (k := 2) rfl (.cons (k := 3) rfl (.cons (k := 4) rfl (.cons (k := 6) rfl (.cons (k := 8) rfl .nil))))) ?_
  refine V_seq ?_
  refine V_seq (V_region rfl ?_)
  refine L_go rfl (X_p (p_move rfl rfl) ?_)
  refine L_go rfl (X_p (p_eql rfl rfl rfl) ?_)
  refine L_then (.cons (k := 2) rfl (.cons (k := 3) rfl (.cons (k := 4) rfl (.cons (k := 6) rfl (.cons (k := 8) rfl (.cons (k := 16) rfl .nil)))))) ?_
  refine V_cond rfl ?_ ?_
  · intro c1; have c1r := c1; try simp only [td] at c1
    refine V_region rfl ?_
    refine L_go rfl (X_rd (r_loadA (vs := [_, _, _, _, _, _, _, _, _, _, _, _, _]) ag33 sz33 rfl rfl (by repeat first | exact mH | apply mT) rfl) ?_)
    refine L_go rfl (X_wr (w_callP rfl rfl rfl (fun w hg => checkbox_c b w)) ?_)
    rintro _ _ ⟨rfl, rfl⟩
    refine L_go rfl (X_p (p_assign rfl rfl) ?_)
    refine L_then (.cons (k := 2) rfl (.cons (k := 3) rfl (.cons (k := 4) rfl (.cons (k := 6) rfl (.cons (k := 8) rfl .nil))))) ?_
    refine V_seq ?_
    refine V_block ?_
    refine V_seq (V_region rfl ?_)
    refine L_go rfl (X_p (p_move rfl rfl) ?_)
    refine L_go rfl (X_p (p_neq rfl rfl rfl) ?_)
    refine L_go rfl (X_p (p_assign rfl rfl) ?_)
    refine L_then (.cons (k := 2) rfl (.cons (k := 3) rfl (.cons (k := 4) rfl (.cons (k := 6) rfl (.cons (k := 8) rfl (.cons (k := 19) rfl .nil)))))) ?_
    refine V_cond rfl ?_ ?_
    · intro c2; have c2r := c2; try simp only [td] at c2
      refine V_seq (V_region rfl ?_)
      refine L_go rfl (X_p (p_build (r := [_, _, _, _, _, _, _, _, _, _, _, _, _]) pl33 zr33 rfl rfl rfl) ?_)
      refine L_go rfl (X_p (p_move rfl rfl) ?_)
      refine L_go rfl (X_wr (w_store (cs' := [_, _, _, _, _, _, _, _, _, _, _, _, _]) sz33 rfl rfl rfl rfl rfl (by repeat first | exact .head | apply SetAt.tail) (Nat.le_of_ble_eq_true rfl) rfl) ?_)
      rintro _ _ ⟨rfl, rfl⟩
      refine L_go rfl (X_p (p_assign rfl rfl) ?_)
      refine L_then (.cons (k := 6) rfl (.cons (k := 7) rfl .nil)) ?_
      refine V_ret (blk_r (then_r ?_))
      refine Leave.nil (.cellA (us := [_, _, _, _, _, _, _, _, _, _, _, _, _]) rfl ag33 sz33 (by repeat first | exact mH | apply mT) rfl (.tmp rfl .nil)) ?_
      have hnb : ¬ BoxOk b := fun h => c2 (boxE_0 h)
      rw [aheadP_bad (aheadE_2 c1 hnb) (by decide), boxE_7 hnb]; rfl
    · intro c2; have c2r := c2; try simp only [td] at c2
      have hok := boxE_ok c2
      have hb := hok
      unfold BoxOk okS at hb
      have hG := (asked_zero c1).1
      obtain ⟨_, hspd, hacc⟩ := hG.nums
      refine V_seq (V_region rfl ?_)
      refine L_go rfl (X_p (p_move rfl rfl) ?_)
      refine L_go rfl (X_wr (w_callP rfl rfl rfl (fun w hg => out_c _ _ _ w)) ?_)
      rintro _ _ ⟨rfl, rfl⟩
      refine L_go rfl (X_p (p_move rfl rfl) ?_)
      refine L_cases (d := 27) rfl ?_ ?_
      · intro g1; have g1' := g1; try simp only [td] at g1'
        refine L_no rfl rfl rfl g1 ?_
        refine L_no rfl rfl rfl g1 ?_
        refine L_no rfl rfl rfl g1 ?_
        refine L_no rfl rfl rfl g1 ?_
        refine L_no rfl rfl rfl g1 ?_
        refine L_no rfl rfl rfl g1 ?_
        refine L_go rfl (X_p (p_pick_t rfl rfl g1 rfl) ?_)
        refine L_go rfl (X_p (p_assign rfl rfl) ?_)
        refine L_then (.cons (k := 2) rfl (.cons (k := 3) rfl (.cons (k := 4) rfl (.cons (k := 6) rfl (.cons (k := 24) rfl .nil))))) ?_
        refine V_cond_t rfl rfl ?_
        refine V_seq (V_region rfl ?_)
        refine L_go rfl (X_p (p_build (r := [_, _, _, _, _, _, _, _, _, _, _, _, _]) pl33 zr33 rfl rfl rfl) ?_)
        refine L_go rfl (X_wr (w_store (cs' := [_, _, _, _, _, _, _, _, _, _, _, _, _]) sz33 rfl rfl rfl rfl rfl (by repeat first | exact .head | apply SetAt.tail) (Nat.le_of_ble_eq_true rfl) rfl) ?_)
        rintro _ _ ⟨rfl, rfl⟩
        refine L_go rfl (X_p (p_assign rfl rfl) ?_)
        refine L_then (.cons (k := 6) rfl (.cons (k := 7) rfl .nil)) ?_
        refine V_ret (blk_r (then_r ?_))
        refine Leave.nil (.cellA (us := [_, _, _, _, _, _, _, _, _, _, _, _, _]) rfl ag33 sz33 (by repeat first | exact mH | apply mT) rfl (.tmp rfl .nil)) ?_
        rw [aheadP_bad (aheadE_3 c1 hok (.inl g1')) (by decide)]; rfl
      · intro g1; have g1' := g1; try simp only [td] at g1'
        have hn := oP_in g1'
        refine L_yes rfl rfl rfl g1 (X_p (p_fieldo fo33_0 rfl rfl) ?_)
        refine L_yes rfl rfl rfl g1 (X_rd (r_load ag3 rfl rfl (by repeat first | exact mH | apply mT) rfl) ?_)
        refine L_yes rfl rfl rfl g1 (X_p (p_move rfl rfl) ?_)
        first | refine L_yes rfl rfl rfl g1 (X_p (p_add' rfl rfl rfl (by unfold InI; omega)) ?_) | refine L_yes rfl rfl rfl g1 (X_p (p_add rfl rfl rfl) ?_)
        refine L_yes rfl rfl rfl g1 (X_wr (w_slice (r := [_]) un66 sz3 zr3 rfl (by decide) rfl (by decide) rfl rfl) ?_)
        rintro _ _ ⟨b4, hb4, rfl, rfl⟩
        refine L_yes rfl rfl rfl g1 (X_wr (w_callP rfl rfl rfl (fun w hg => never_c [_] _ w (own_ints (l := [_]) (hg.own _ (by repeat first | exact mH | apply mT)) rfl (by decide)) (by simp))) ?_)
        rintro _ _ ⟨rfl, rfl⟩
        refine L_go rfl (X_p (p_pick_f rfl rfl g1 rfl) ?_)
        refine L_go rfl (X_p (p_assign rfl rfl) ?_)
        refine L_then (.cons (k := 2) rfl (.cons (k := 3) rfl (.cons (k := 4) rfl (.cons (k := 6) rfl (.cons (k := 24) rfl .nil))))) ?_
        refine V_cond rfl ?_ ?_
        · intro c3; have c3r := c3; try simp only [td] at c3
          refine V_seq (V_region rfl ?_)
          refine L_go rfl (X_p (p_build (r := [_, _, _, _, _, _, _, _, _, _, _, _, _]) pl33 zr33 rfl rfl rfl) ?_)
          refine L_go rfl (X_wr (w_store (cs' := [_, _, _, _, _, _, _, _, _, _, _, _, _]) sz33 rfl rfl rfl rfl rfl (by repeat first | exact .head | apply SetAt.tail) (Nat.le_of_ble_eq_true rfl) rfl) ?_)
          rintro _ _ ⟨rfl, rfl⟩
          refine L_go rfl (X_p (p_assign rfl rfl) ?_)
          refine L_then (.cons (k := 6) rfl (.cons (k := 7) rfl .nil)) ?_
          refine V_ret (blk_r (then_r ?_))
          refine Leave.nil (.cellA (us := [_, _, _, _, _, _, _, _, _, _, _, _, _]) rfl ag33 sz33 (by repeat first | exact mH | apply mT) rfl (.tmp rfl .nil)) ?_
          rw [aheadP_bad (aheadE_3 c1 hok (.inr c3)) (by decide)]; rfl
        · intro c3; have c3r := c3; try simp only [td] at c3
          have he := aheadE_4 c1 hok g1' c3
          refine V_skip (blk_n (then_n ?_))
          refine V_seq (V_region rfl ?_)
          refine L_go rfl (X_p (p_fieldo fo33_0 rfl rfl) ?_)
          refine L_go rfl (X_rd (r_load ag3 rfl rfl (by repeat first | exact mH | apply mT) rfl) ?_)
          refine L_go rfl (X_p (p_move rfl rfl) ?_)
          first | refine L_go rfl (X_p (p_add' rfl rfl rfl (by unfold InI; omega)) ?_) | refine L_go rfl (X_p (p_add rfl rfl rfl) ?_)
          refine L_go rfl (X_p (p_fieldo fo33_0 rfl rfl) ?_)
          refine L_go rfl (X_wr (w_store (cs' := [_, _, _, _, _, _, _, _, _, _, _, _, _]) sz3 rfl rfl rfl rfl rfl (by repeat first | exact .head | apply SetAt.tail) (Nat.le_of_ble_eq_true rfl) rfl) ?_)
          rintro _ _ ⟨rfl, rfl⟩
          refine L_then (.cons (k := 2) rfl (.cons (k := 3) rfl (.cons (k := 4) rfl (.cons (k := 6) rfl .nil)))) ?_
          refine V_seq (V_region rfl ?_)
          refine L_go rfl (X_wr (w_callP rfl rfl rfl (fun w hg => parts_c b2 w)) ?_)
          rintro _ _ ⟨rfl, rfl⟩
          refine L_go rfl (X_wr (w_alloc zr117 rfl) ?_)
          rintro _ _ ⟨b5, hb5, rfl, rfl⟩
          refine L_go rfl (X_wr (w_store (cs' := [_, _, _, _, _, _]) sz117 rfl rfl rfl rfl rfl (by repeat first | exact .head | apply SetAt.tail) (Nat.le_of_ble_eq_true rfl) rfl) ?_)
          rintro _ _ ⟨rfl, rfl⟩
          refine L_then (.cons (k := 2) rfl (.cons (k := 3) rfl (.cons (k := 4) rfl (.cons (k := 6) rfl (.cons (k := 9) rfl .nil))))) ?_
          refine V_seq ?_
          refine V_seq (V_region rfl ?_)
          refine L_go rfl (X_p (p_move rfl rfl) ?_)
          refine L_then (.cons (k := 2) rfl (.cons (k := 3) rfl (.cons (k := 4) rfl (.cons (k := 6) rfl (.cons (k := 9) rfl (.cons (k := 42) rfl .nil)))))) ?_
          refine V_block ?_
          refine V_loopU ?_
          refine LU_step ?_
          refine V_seq (V_region rfl ?_)
          refine L_go rfl (X_p (p_lss rfl rfl rfl) ?_)
          refine L_then (.cons (k := 2) rfl (.cons (k := 3) rfl (.cons (k := 4) rfl (.cons (k := 6) rfl (.cons (k := 9) rfl (.cons (k := 42) rfl (.cons (k := 43) rfl .nil))))))) ?_
          refine V_seq ?_
          refine V_cond_t rfl rfl ?_
          refine V_skip (then_n ?_)
          refine V_seq ?_
          refine V_block ?_
          refine V_seq (V_region rfl ?_)
          refine L_go rfl (X_p (p_move rfl rfl) ?_)
          refine L_go rfl (X_p (p_assign rfl rfl) ?_)
          refine L_then (.cons (k := 2) rfl (.cons (k := 3) rfl (.cons (k := 4) rfl (.cons (k := 6) rfl (.cons (k := 9) rfl (.cons (k := 10) rfl (.cons (k := 42) rfl .nil))))))) ?_
          refine V_mid (γ := Nat × Nat) (.cons (k := 2) rfl (.cons (k := 3) rfl (.cons (k := 4) rfl (.cons (k := 6) rfl (.cons (k := 9) rfl (.cons (k := 10) rfl (.cons (k := 42) rfl .nil))))))) (fun (x11, x12) => [(11, .pointer (some ⟨x11, 0, none⟩)), (12, .pointer (some ⟨x12, 0, none⟩))]) (fun (x11, x12) => (x11, .cells #[.int .i64 b.x.lo, .int .i64 b.x.hi] 121) :: (x12, .cells #[.int .i64 b.vx.lo, .int .i64 b.vx.hi] 121) :: (b5, .cells #[.pointer (some ⟨b2, 1, none⟩), .pointer (some ⟨b2, 3, none⟩), .pointer (some ⟨b2, 5, none⟩), .pointer (some ⟨b2, 7, none⟩), .pointer (some ⟨b2, 9, none⟩), .pointer (some ⟨b2, 11, none⟩)] 117) :: (b3, .cells (Box.cells boxZ).toArray 33) :: (b2, .cells (Box.cells ⟨b.at_ + n, b.x, b.y, b.z, b.vx, b.vy, b.vz⟩).toArray 33) :: (b1, t.obj tv pv 54) :: []) (fun (x11, x12) => True) ?_ ?_
          · refine V_draw (.rd 0 (.rd 1 (.rd 2 (.rd 3 (.rd 4 (.rd 5 (.rd 6 (.rd 7 (.rd 8 (.rd 9 (.rd 10 (.rd 11 (.rd 12 (.wr2 13 [12, 11, 10, 9, 8, 7, 6, 5, 4, 3, 2, 1, 0] (.wr 14 [12, 11, 10, 9, 8, 7, 6, 5, 4, 3, 2, 1, 0] (.wr 15 [12, 10, 9, 8, 7, 6] (.wr 16 [] .done))) 14 [12, 11, 10, 9, 8, 7, 6, 5, 4, 3, 2, 1, 0] (.wr 13 [12, 11, 10, 9, 8, 7, 6, 5, 4, 3, 2, 1, 0] (.wr 15 [12, 10, 9, 8, 7, 6] (.wr 16 [] .done))))))))))))))))) mixed (by kernel_rfl) rfl ?_
            refine D_p rfl (.plain rfl) (p_move rfl rfl) ?_
            refine D_p rfl (.plain rfl) (p_idxao ar117 rfl rfl rfl (by omega) (by omega)) ?_
            refine D_rd rfl (.plain rfl) (r_load ag116 rfl rfl (by repeat first | exact mH | apply mT) rfl) ?_
            refine D_p rfl (.plain rfl) (p_nil rfl rfl) ?_
            refine D_rd rfl (.plain rfl) (r_loadA (vs := [_, _]) ag24 sz24 rfl rfl (by repeat first | exact mH | apply mT) rfl) ?_
            refine D_p rfl (.plain rfl) (p_build (r := [_, _]) pl121 zr121 rfl rfl rfl) ?_
            refine D_p rfl (.plain rfl) (p_move rfl rfl) ?_
            first | refine D_p rfl (.plain rfl) (p_add' rfl rfl rfl (by unfold InI; omega)) ?_ | refine D_p rfl (.plain rfl) (p_add rfl rfl rfl) ?_
            refine D_p rfl (.plain rfl) (p_idxao ar117 rfl rfl rfl (by omega) (by omega)) ?_
            refine D_rd rfl (.plain rfl) (r_load ag116 rfl rfl (by repeat first | exact mH | apply mT) rfl) ?_
            refine D_p rfl (.plain rfl) (p_nil rfl rfl) ?_
            refine D_rd rfl (.plain rfl) (r_loadA (vs := [_, _]) ag24 sz24 rfl rfl (by repeat first | exact mH | apply mT) rfl) ?_
            refine D_p rfl (.plain rfl) (p_build (r := [_, _]) pl121 zr121 rfl rfl rfl) ?_
            refine D_wr2 rfl ?_ ?_
            · refine (.go (E' := [(11, _), (9, _), (4, _), (2, _)]) rfl (.plain rfl) (w_alloc zr121 rfl) rfl ?_)
              rintro _ _ ⟨b6, hb6, rfl, rfl⟩
              refine ⟨(.cons rfl (.plain rfl) (r_loadA (vs := [_, _]) ag24 sz24 rfl rfl (by repeat first | exact mH | apply mT) rfl) (.cons rfl (.plain rfl) (r_load ag116 rfl rfl (by repeat first | exact mH | apply mT) rfl) (.cons rfl (.plain rfl) (r_loadA (vs := [_, _]) ag24 sz24 rfl rfl (by repeat first | exact mH | apply mT) rfl) (.cons rfl (.plain rfl) (r_load ag116 rfl rfl (by repeat first | exact mH | apply mT) rfl) .nil)))), ?_⟩
              refine D_wr (.go (E' := [(11, _), (9, _), (4, _), (2, _)]) rfl (.plain rfl) (w_alloc zr121 rfl) rfl ?_)
              rintro _ _ ⟨b7, hb7, rfl, rfl⟩
              refine ⟨(.cons rfl (.plain rfl) (r_loadA (vs := [_, _]) ag24 sz24 rfl rfl (by repeat first | exact mH | apply mT) rfl) (.cons rfl (.plain rfl) (r_load ag116 rfl rfl (by repeat first | exact mH | apply mT) rfl) (.cons rfl (.plain rfl) (r_loadA (vs := [_, _]) ag24 sz24 rfl rfl (by repeat first | exact mH | apply mT) rfl) (.cons rfl (.plain rfl) (r_load ag116 rfl rfl (by repeat first | exact mH | apply mT) rfl) .nil)))), ?_⟩
              refine D_wr (.go (E' := [(9, _)]) rfl (.plain rfl) (w_store (cs' := [_, _]) sz121 rfl rfl rfl rfl rfl (by repeat first | exact .head | apply SetAt.tail) (Nat.le_of_ble_eq_true rfl) rfl) rfl ?_)
              rintro _ _ ⟨rfl, rfl⟩
              refine ⟨(.cons rfl (.plain rfl) (r_load ag116 rfl rfl (by repeat first | exact mH | apply mT) rfl) .nil), ?_⟩
              refine D_wr (.go (E' := []) rfl (.plain rfl) (w_store (cs' := [_, _]) sz121 rfl rfl rfl rfl rfl (by repeat first | exact .head | apply SetAt.tail) (Nat.le_of_ble_eq_true rfl) rfl) rfl ?_)
              rintro _ _ ⟨rfl, rfl⟩
              refine ⟨.nil, ?_⟩
              refine D_then (.cons (k := 2) rfl (.cons (k := 3) rfl (.cons (k := 4) rfl (.cons (k := 6) rfl (.cons (k := 9) rfl (.cons (k := 10) rfl (.cons (k := 11) rfl (.cons (k := 12) rfl (.cons (k := 42) rfl .nil))))))))) ?_
              refine ⟨(b6, b7), trivial, (.cons rfl (.cons rfl (.cons rfl (.cons rfl (.cons rfl (.cons rfl (.cons rfl (.cons rfl (.cons rfl (.nil _)))))))))), (by (try dsimp only); repeat (first | exact HSub.nil _ | refine HSub.take (by repeat first | exact Take.head | apply Take.tail) ?_ | exact HSub.refl _ | refine HSub.drop ?_ | refine HSub.app ?_)), rfl⟩
            · refine (.go (E' := [(11, _), (9, _), (4, _), (2, _)]) rfl (.plain rfl) (w_alloc zr121 rfl) rfl ?_)
              rintro _ _ ⟨b6, hb6, rfl, rfl⟩
              refine ⟨(.cons rfl (.plain rfl) (r_loadA (vs := [_, _]) ag24 sz24 rfl rfl (by repeat first | exact mH | apply mT) rfl) (.cons rfl (.plain rfl) (r_load ag116 rfl rfl (by repeat first | exact mH | apply mT) rfl) (.cons rfl (.plain rfl) (r_loadA (vs := [_, _]) ag24 sz24 rfl rfl (by repeat first | exact mH | apply mT) rfl) (.cons rfl (.plain rfl) (r_load ag116 rfl rfl (by repeat first | exact mH | apply mT) rfl) .nil)))), ?_⟩
              refine D_wr (.go (E' := [(11, _), (9, _), (4, _), (2, _)]) rfl (.plain rfl) (w_alloc zr121 rfl) rfl ?_)
              rintro _ _ ⟨b7, hb7, rfl, rfl⟩
              refine ⟨(.cons rfl (.plain rfl) (r_loadA (vs := [_, _]) ag24 sz24 rfl rfl (by repeat first | exact mH | apply mT) rfl) (.cons rfl (.plain rfl) (r_load ag116 rfl rfl (by repeat first | exact mH | apply mT) rfl) (.cons rfl (.plain rfl) (r_loadA (vs := [_, _]) ag24 sz24 rfl rfl (by repeat first | exact mH | apply mT) rfl) (.cons rfl (.plain rfl) (r_load ag116 rfl rfl (by repeat first | exact mH | apply mT) rfl) .nil)))), ?_⟩
              refine D_wr (.go (E' := [(9, _)]) rfl (.plain rfl) (w_store (cs' := [_, _]) sz121 rfl rfl rfl rfl rfl (by repeat first | exact .head | apply SetAt.tail) (Nat.le_of_ble_eq_true rfl) rfl) rfl ?_)
              rintro _ _ ⟨rfl, rfl⟩
              refine ⟨(.cons rfl (.plain rfl) (r_load ag116 rfl rfl (by repeat first | exact mH | apply mT) rfl) .nil), ?_⟩
              refine D_wr (.go (E' := []) rfl (.plain rfl) (w_store (cs' := [_, _]) sz121 rfl rfl rfl rfl rfl (by repeat first | exact .head | apply SetAt.tail) (Nat.le_of_ble_eq_true rfl) rfl) rfl ?_)
              rintro _ _ ⟨rfl, rfl⟩
              refine ⟨.nil, ?_⟩
              refine D_then (.cons (k := 2) rfl (.cons (k := 3) rfl (.cons (k := 4) rfl (.cons (k := 6) rfl (.cons (k := 9) rfl (.cons (k := 10) rfl (.cons (k := 11) rfl (.cons (k := 12) rfl (.cons (k := 42) rfl .nil))))))))) ?_
              refine ⟨(b7, b6), trivial, (.cons rfl (.cons rfl (.cons rfl (.cons rfl (.cons rfl (.cons rfl (.cons rfl (.cons rfl (.cons rfl (.nil _)))))))))), (by (try dsimp only); repeat (first | exact HSub.nil _ | refine HSub.take (by repeat first | exact Take.head | apply Take.tail) ?_ | exact HSub.refl _ | refine HSub.drop ?_ | refine HSub.app ?_)), rfl⟩
          · rintro ⟨x11, x12⟩ _
            refine V_seq (V_region rfl ?_)
            refine L_go rfl (X_p (p_fieldo fo54_1 rfl rfl) ?_)
            refine L_go rfl (X_rd (r_load ag3 rfl rfl (by repeat first | exact mH | apply mT) rfl) ?_)
            first | refine L_go rfl (X_p (p_neg' rfl rfl (by unfold InI; omega)) ?_) | refine L_go rfl (X_p (p_neg rfl rfl) ?_)
            refine L_go rfl (X_p (p_fieldo fo54_1 rfl rfl) ?_)
            refine L_go rfl (X_rd (r_load ag3 rfl rfl (by repeat first | exact mH | apply mT) rfl) ?_)
            refine L_go rfl (X_wr (w_callM rfl rfl rfl (fun o' => (by repeat first | exact .head | apply SetAt.tail)) (fun w hg => narrow_c x12 _ _ 121 (-t.speed) t.speed w (hg.own (x12, _) (by repeat first | exact mH | apply mT)))) ?_)
            rintro _ _ ⟨_, rfl, rfl, rfl⟩
            refine L_then (.cons (k := 2) rfl (.cons (k := 3) rfl (.cons (k := 4) rfl (.cons (k := 6) rfl (.cons (k := 9) rfl (.cons (k := 10) rfl (.cons (k := 11) rfl (.cons (k := 12) rfl (.cons (k := 42) rfl .nil))))))))) ?_
            refine V_seq ?_
            refine V_seq (V_region rfl ?_)
            refine L_go rfl (X_p (p_move rfl rfl) ?_)
            refine L_go rfl (X_p (p_move rfl rfl) ?_)
            refine L_then (.cons (k := 2) rfl (.cons (k := 3) rfl (.cons (k := 4) rfl (.cons (k := 6) rfl (.cons (k := 9) rfl (.cons (k := 10) rfl (.cons (k := 11) rfl (.cons (k := 12) rfl (.cons (k := 42) rfl (.cons (k := 64) rfl (.cons (k := 65) rfl .nil))))))))))) ?_
            refine V_midT (γ := Span × Span) (.cons (k := 2) rfl (.cons (k := 3) rfl (.cons (k := 4) rfl (.cons (k := 6) rfl (.cons (k := 9) rfl (.cons (k := 10) rfl (.cons (k := 11) rfl (.cons (k := 12) rfl (.cons (k := 42) rfl .nil))))))))) (fun (q0, r0) => []) (fun (q0, r0) => (x11, .cells #[.int .i64 q0.lo, .int .i64 q0.hi] 121) :: (x12, .cells #[.int .i64 r0.lo, .int .i64 r0.hi] 121) :: (b5, .cells #[.pointer (some ⟨b2, 1, none⟩), .pointer (some ⟨b2, 3, none⟩), .pointer (some ⟨b2, 5, none⟩), .pointer (some ⟨b2, 7, none⟩), .pointer (some ⟨b2, 9, none⟩), .pointer (some ⟨b2, 11, none⟩)] 117) :: (b3, .cells (Box.cells boxZ).toArray 33) :: (b2, .cells (Box.cells ⟨b.at_ + n, b.x, b.y, b.z, b.vx, b.vy, b.vz⟩).toArray 33) :: (b1, t.obj tv pv 54) :: []) (fun (q0, r0) => Met (aheadS t n b.x b.vx) q0 r0) ?_ ?_
            · refine V_block ?_
              refine V_loop1 (γ := Int × Span × Span) (.cons (k := 2) rfl (.cons (k := 3) rfl (.cons (k := 4) rfl (.cons (k := 6) rfl (.cons (k := 9) rfl (.cons (k := 10) rfl (.cons (k := 11) rfl (.cons (k := 12) rfl (.cons (k := 42) rfl (.cons (k := 64) rfl .nil)))))))))) (fun (k, p, v) => [(65, .int .i64 k)]) (fun (k, p, v) => (x11, .cells #[.int .i64 p.lo, .int .i64 p.hi] 121) :: (x12, .cells #[.int .i64 v.lo, .int .i64 v.hi] 121) :: (b5, .cells #[.pointer (some ⟨b2, 1, none⟩), .pointer (some ⟨b2, 3, none⟩), .pointer (some ⟨b2, 5, none⟩), .pointer (some ⟨b2, 7, none⟩), .pointer (some ⟨b2, 9, none⟩), .pointer (some ⟨b2, 11, none⟩)] 117) :: (b3, .cells (Box.cells boxZ).toArray 33) :: (b2, .cells (Box.cells ⟨b.at_ + n, b.x, b.y, b.z, b.vx, b.vy, b.vz⟩).toArray 33) :: (b1, t.obj tv pv 54) :: []) (fun (k, p, v) => 0 ≤ k ∧ k ≤ n ∧ aheadS t n b.x b.vx = aheadN t (n - k).toNat p v ∧ okS 2000000000 p ∧ SpanB 1000000 v) (fun (k, p, v) => (n - k).toNat) ((0, b.x, common b.vx (room0 t.speed))) (.cons rfl (.nil _)) (by repeat (first | exact List.nil_sublist _ | exact List.Sublist.refl _ | apply List.Sublist.cons_cons | apply List.Sublist.cons)) (⟨by omega, by omega, by rw [Int.sub_zero]; rfl, by unfold okS; omega, by simp only [SpanB, common, room0]; omega⟩) ?_
              rintro ⟨k, p, v⟩ hi
              obtain ⟨hk0, hk1, hah, hp, hv⟩ := hi
              have hpn : p.none = false := by simp only [Span.none, decide_eq_false_iff_not]; unfold okS at hp; omega
              unfold okS at hp
              unfold SpanB at hv
              refine V_seq (V_region rfl ?_)
              refine L_go rfl (X_p (p_lss rfl rfl rfl) ?_)
              refine L_then (.cons (k := 2) rfl (.cons (k := 3) rfl (.cons (k := 4) rfl (.cons (k := 6) rfl (.cons (k := 9) rfl (.cons (k := 10) rfl (.cons (k := 11) rfl (.cons (k := 12) rfl (.cons (k := 42) rfl (.cons (k := 64) rfl (.cons (k := 65) rfl (.cons (k := 66) rfl .nil)))))))))))) ?_
              refine V_seq ?_
              refine V_cond rfl ?_ ?_
              · intro c4; have c4r := c4; try simp only [td] at c4
                refine V_skip (then_n ?_)
                refine V_seq ?_
                refine V_block ?_
                refine V_seq ?_
                refine V_seq (V_region rfl ?_)
                refine L_go rfl (X_wr (w_callP rfl rfl rfl (fun w hg => empty_c x12 _ _ 121 w (hg.own (x12, _) (by repeat first | exact mH | apply mT)))) ?_)
                rintro _ _ ⟨rfl, rfl⟩
                refine L_then (.cons (k := 2) rfl (.cons (k := 3) rfl (.cons (k := 4) rfl (.cons (k := 6) rfl (.cons (k := 9) rfl (.cons (k := 10) rfl (.cons (k := 11) rfl (.cons (k := 12) rfl (.cons (k := 42) rfl (.cons (k := 64) rfl (.cons (k := 65) rfl (.cons (k := 67) rfl .nil)))))))))))) ?_
                refine V_cond rfl ?_ ?_
                · intro c5; have c5r := c5; try simp only [td] at c5
                  refine V_exit (then_e (blk_o rfl (then_e (then_e (blk_e rfl (then_n ?_))))))
                  refine ⟨(p, v), ?_, (.cons rfl (.cons rfl (.cons rfl (.cons rfl (.cons rfl (.cons rfl (.cons rfl (.cons rfl (.cons rfl (.nil _)))))))))), (by (try dsimp only); repeat (first | exact HSub.nil _ | refine HSub.take (by repeat first | exact Take.head | apply Take.tail) ?_ | exact HSub.refl _ | refine HSub.drop ?_ | refine HSub.app ?_)), rfl⟩
                  exact met_v hah c5
                · intro c5; have c5r := c5; try simp only [td] at c5
                  refine V_skip (then_n ?_)
                  refine V_seq (V_region rfl ?_)
                  refine L_go rfl (X_p (p_fieldo fo121_0 rfl rfl) ?_)
                  refine L_go rfl (X_p (p_fieldo fo24_0 rfl rfl) ?_)
                  refine L_go rfl (X_rd (r_load ag3 rfl rfl (by repeat first | exact mH | apply mT) rfl) ?_)
                  refine L_go rfl (X_p (p_fieldo fo121_0 rfl rfl) ?_)
                  refine L_go rfl (X_p (p_fieldo fo24_0 rfl rfl) ?_)
                  refine L_go rfl (X_rd (r_load ag3 rfl rfl (by repeat first | exact mH | apply mT) rfl) ?_)
                  first | refine L_go rfl (X_p (p_add' rfl rfl rfl (by unfold InI; omega)) ?_) | refine L_go rfl (X_p (p_add rfl rfl rfl) ?_)
                  refine L_go rfl (X_p (p_fieldo fo121_0 rfl rfl) ?_)
                  refine L_go rfl (X_p (p_fieldo fo24_1 rfl rfl) ?_)
                  refine L_go rfl (X_rd (r_load ag3 rfl rfl (by repeat first | exact mH | apply mT) rfl) ?_)
                  refine L_go rfl (X_p (p_fieldo fo121_0 rfl rfl) ?_)
                  refine L_go rfl (X_p (p_fieldo fo24_1 rfl rfl) ?_)
                  refine L_go rfl (X_rd (r_load ag3 rfl rfl (by repeat first | exact mH | apply mT) rfl) ?_)
                  first | refine L_go rfl (X_p (p_add' rfl rfl rfl (by unfold InI; omega)) ?_) | refine L_go rfl (X_p (p_add rfl rfl rfl) ?_)
                  refine L_go rfl (X_p (p_fieldo fo121_0 rfl rfl) ?_)
                  refine L_go rfl (X_p (p_fieldo fo24_0 rfl rfl) ?_)
                  refine L_go rfl (X_wr (w_store (cs' := [_, _]) sz3 rfl rfl rfl rfl rfl (by repeat first | exact .head | apply SetAt.tail) (Nat.le_of_ble_eq_true rfl) rfl) ?_)
                  rintro _ _ ⟨rfl, rfl⟩
                  refine L_go rfl (X_p (p_fieldo fo121_0 rfl rfl) ?_)
                  refine L_go rfl (X_p (p_fieldo fo24_1 rfl rfl) ?_)
                  refine L_go rfl (X_wr (w_store (cs' := [_, _]) sz3 rfl rfl rfl rfl rfl (by repeat first | exact .head | apply SetAt.tail) (Nat.le_of_ble_eq_true rfl) rfl) ?_)
                  rintro _ _ ⟨rfl, rfl⟩
                  refine L_then (.cons (k := 2) rfl (.cons (k := 3) rfl (.cons (k := 4) rfl (.cons (k := 6) rfl (.cons (k := 9) rfl (.cons (k := 10) rfl (.cons (k := 11) rfl (.cons (k := 12) rfl (.cons (k := 42) rfl (.cons (k := 64) rfl (.cons (k := 65) rfl .nil))))))))))) ?_
                  refine V_seq (V_region rfl ?_)
                  refine L_go rfl (X_wr (w_callM rfl rfl rfl (fun o' => (by repeat first | exact .head | apply SetAt.tail)) (fun w hg => narrow_c x11 _ _ 121 (-2000000000) 2000000000 w (hg.own (x11, _) (by repeat first | exact mH | apply mT)))) ?_)
                  rintro _ _ ⟨_, rfl, rfl, rfl⟩
                  refine L_then (.cons (k := 2) rfl (.cons (k := 3) rfl (.cons (k := 4) rfl (.cons (k := 6) rfl (.cons (k := 9) rfl (.cons (k := 10) rfl (.cons (k := 11) rfl (.cons (k := 12) rfl (.cons (k := 42) rfl (.cons (k := 64) rfl (.cons (k := 65) rfl .nil))))))))))) ?_
                  refine V_seq ?_
                  refine V_seq (V_region rfl ?_)
                  refine L_go rfl (X_wr (w_callP rfl rfl rfl (fun w hg => empty_c x11 _ _ 121 w (hg.own (x11, _) (by repeat first | exact mH | apply mT)))) ?_)
                  rintro _ _ ⟨rfl, rfl⟩
                  refine L_then (.cons (k := 2) rfl (.cons (k := 3) rfl (.cons (k := 4) rfl (.cons (k := 6) rfl (.cons (k := 9) rfl (.cons (k := 10) rfl (.cons (k := 11) rfl (.cons (k := 12) rfl (.cons (k := 42) rfl (.cons (k := 64) rfl (.cons (k := 65) rfl (.cons (k := 87) rfl .nil)))))))))))) ?_
                  refine V_cond rfl ?_ ?_
                  · intro c6; have c6r := c6; try simp only [td] at c6
                    refine V_exit (then_e (blk_o rfl (then_e (then_e (blk_e rfl (then_n ?_))))))
                    refine ⟨(stepP p v, v), ?_, (.cons rfl (.cons rfl (.cons rfl (.cons rfl (.cons rfl (.cons rfl (.cons rfl (.cons rfl (.cons rfl (.nil _)))))))))), (by (try dsimp only); repeat (first | exact HSub.nil _ | refine HSub.take (by repeat first | exact Take.head | apply Take.tail) ?_ | exact HSub.refl _ | refine HSub.drop ?_ | refine HSub.app ?_)), rfl⟩
                    exact met_p (hah.trans (aheadN_go ⟨hk0, by omega⟩ hpn c5)) c6
                  · intro c6; have c6r := c6; try simp only [td] at c6
                    refine V_skip (then_n ?_)
                    refine V_seq (V_draw (.rd 0 (.rd 1 (.rd 2 (.rd 3 (.rd 4 (.rd 5 (.rd 6 (.rd 7 (.rd 8 (.rd 9 (.rd 10 (.rd 11 (.rd 12 (.rd 13 (.wr 14 [12, 11, 10, 9, 7, 6] (.rd 15 (.rd 16 (.wr 17 [15] .done)))))))))))))))))) mixed (by kernel_rfl) rfl ?_)
                    refine D_p rfl (.plain rfl) (p_fieldo fo121_0 rfl rfl) ?_
                    refine D_p rfl (.plain rfl) (p_fieldo fo24_0 rfl rfl) ?_
                    refine D_rd rfl (.plain rfl) (r_load ag3 rfl rfl (by repeat first | exact mH | apply mT) rfl) ?_
                    refine D_p rfl (.plain rfl) (p_fieldo fo54_2 rfl rfl) ?_
                    refine D_rd rfl (.plain rfl) (r_load ag3 rfl rfl (by repeat first | exact mH | apply mT) rfl) ?_
                    first | refine D_p rfl (.plain rfl) (p_sub' rfl rfl rfl (by unfold InI; omega)) ?_ | refine D_p rfl (.plain rfl) (p_sub rfl rfl rfl) ?_
                    refine D_p rfl (.plain rfl) (p_fieldo fo121_0 rfl rfl) ?_
                    refine D_p rfl (.plain rfl) (p_fieldo fo24_1 rfl rfl) ?_
                    refine D_rd rfl (.plain rfl) (r_load ag3 rfl rfl (by repeat first | exact mH | apply mT) rfl) ?_
                    refine D_p rfl (.plain rfl) (p_fieldo fo54_2 rfl rfl) ?_
                    refine D_rd rfl (.plain rfl) (r_load ag3 rfl rfl (by repeat first | exact mH | apply mT) rfl) ?_
                    first | refine D_p rfl (.plain rfl) (p_add' rfl rfl rfl (by unfold InI; omega)) ?_ | refine D_p rfl (.plain rfl) (p_add rfl rfl rfl) ?_
                    refine D_p rfl (.plain rfl) (p_fieldo fo121_0 rfl rfl) ?_
                    refine D_p rfl (.plain rfl) (p_fieldo fo24_0 rfl rfl) ?_
                    refine D_wr (.go (E' := [(10, _)]) rfl (.plain rfl) (w_store (cs' := [_, _]) sz3 rfl rfl rfl rfl rfl (by repeat first | exact .head | apply SetAt.tail) (Nat.le_of_ble_eq_true rfl) rfl) rfl ?_)
                    rintro _ _ ⟨rfl, rfl⟩
                    refine ⟨(.cons rfl (.plain rfl) (r_load ag3 rfl rfl (by repeat first | exact mH | apply mT) rfl) .nil), ?_⟩
                    refine D_p rfl (.plain rfl) (p_fieldo fo121_0 rfl rfl) ?_
                    refine D_p rfl (.plain rfl) (p_fieldo fo24_1 rfl rfl) ?_
                    refine D_wr (.go (E' := []) rfl (.plain rfl) (w_store (cs' := [_, _]) sz3 rfl rfl rfl rfl rfl (by repeat first | exact .head | apply SetAt.tail) (Nat.le_of_ble_eq_true rfl) rfl) rfl ?_)
                    rintro _ _ ⟨rfl, rfl⟩
                    refine ⟨.nil, ?_⟩
                    refine D_then (.cons (k := 2) rfl (.cons (k := 3) rfl (.cons (k := 4) rfl (.cons (k := 6) rfl (.cons (k := 9) rfl (.cons (k := 10) rfl (.cons (k := 11) rfl (.cons (k := 12) rfl (.cons (k := 42) rfl (.cons (k := 64) rfl (.cons (k := 65) rfl .nil))))))))))) ?_
                    refine V_region rfl ?_
                    refine L_go rfl (X_p (p_fieldo fo54_1 rfl rfl) ?_)
                    refine L_go rfl (X_rd (r_load ag3 rfl rfl (by repeat first | exact mH | apply mT) rfl) ?_)
                    first | refine L_go rfl (X_p (p_neg' rfl rfl (by unfold InI; omega)) ?_) | refine L_go rfl (X_p (p_neg rfl rfl) ?_)
                    refine L_go rfl (X_p (p_fieldo fo54_1 rfl rfl) ?_)
                    refine L_go rfl (X_rd (r_load ag3 rfl rfl (by repeat first | exact mH | apply mT) rfl) ?_)
                    refine L_go rfl (X_wr (w_callM rfl rfl rfl (fun o' => (by repeat first | exact .head | apply SetAt.tail)) (fun w hg => narrow_c x12 _ _ 121 (-t.speed) t.speed w (hg.own (x12, _) (by repeat first | exact mH | apply mT)))) ?_)
                    rintro _ _ ⟨_, rfl, rfl, rfl⟩
                    refine L_keep (.cons (k := 2) rfl (.cons (k := 3) rfl (.cons (k := 4) rfl (.cons (k := 6) rfl (.cons (k := 9) rfl (.cons (k := 10) rfl (.cons (k := 11) rfl (.cons (k := 12) rfl (.cons (k := 42) rfl (.cons (k := 64) rfl (.cons (k := 65) rfl .nil))))))))))) (blk_n (then_n ?_))
                    refine V_region rfl ?_
                    first | refine L_go rfl (X_p (p_add' rfl rfl rfl (by unfold InI; omega)) ?_) | refine L_go rfl (X_p (p_add rfl rfl rfl) ?_)
                    refine L_go rfl (X_p (p_move rfl rfl) ?_)
                    refine L_keep (.cons (k := 2) rfl (.cons (k := 3) rfl (.cons (k := 4) rfl (.cons (k := 6) rfl (.cons (k := 9) rfl (.cons (k := 10) rfl (.cons (k := 11) rfl (.cons (k := 12) rfl (.cons (k := 42) rfl (.cons (k := 64) rfl (.cons (k := 65) rfl .nil))))))))))) (then_n ?_)
                    refine ⟨(k + 1, stepP p v, stepV t v), ?_, ?_, (.cons rfl (.cons rfl (.cons rfl (.cons rfl (.cons rfl (.cons rfl (.cons rfl (.cons rfl (.cons rfl (.cons rfl (.cons rfl (.nil _)))))))))))), (by repeat (first | exact List.nil_sublist _ | exact List.Sublist.refl _ | apply List.Sublist.cons_cons | apply List.Sublist.cons | apply List.sublist_append_of_sublist_right)), rfl⟩
                    · refine ⟨by omega, by omega, hah.trans (aheadN_go ⟨hk0, by omega⟩ hpn c5), ?_, ?_⟩
                      · have h5 := none_false c6
                        simp only [stepP, common, room0] at h5
                        simp only [okS, stepP, common, room0]; omega
                      · simp only [SpanB, stepV, common, room0]; omega
                    · dsimp only; omega
              · intro c4; have c4r := c4; try simp only [td] at c4
                refine V_exit (then_e (then_e (blk_e rfl (then_n ?_))))
                refine ⟨(p, v), ?_, (.cons rfl (.cons rfl (.cons rfl (.cons rfl (.cons rfl (.cons rfl (.cons rfl (.cons rfl (.cons rfl (.nil _)))))))))), (by (try dsimp only); repeat (first | exact HSub.nil _ | refine HSub.take (by repeat first | exact Take.head | apply Take.tail) ?_ | exact HSub.refl _ | refine HSub.drop ?_ | refine HSub.app ?_)), rfl⟩
                exact met_end hah (by omega) hpn
            · rintro ⟨q0, r0⟩ hm0
              refine V_seq ?_
              refine V_seq (V_region rfl ?_)
              refine L_go rfl (X_wr (w_callP rfl rfl rfl (fun w hg => empty_c x11 _ _ 121 w (hg.own (x11, _) (by repeat first | exact mH | apply mT)))) ?_)
              rintro _ _ ⟨rfl, rfl⟩
              refine L_go rfl (X_p (p_move rfl rfl) ?_)
              refine L_cases (d := 112) rfl ?_ ?_
              · intro g2; have g2' := g2; try simp only [td] at g2'
                refine L_no rfl rfl rfl g2 ?_
                refine L_go rfl (X_p (p_pick_t rfl rfl g2 rfl) ?_)
                refine L_then (.cons (k := 2) rfl (.cons (k := 3) rfl (.cons (k := 4) rfl (.cons (k := 6) rfl (.cons (k := 9) rfl (.cons (k := 10) rfl (.cons (k := 11) rfl (.cons (k := 12) rfl (.cons (k := 42) rfl (.cons (k := 114) rfl .nil)))))))))) ?_
                refine V_cond_t rfl rfl ?_
                refine V_seq (V_region rfl ?_)
                refine L_go rfl (X_p (p_build (r := [_, _, _, _, _, _, _, _, _, _, _, _, _]) pl33 zr33 rfl rfl rfl) ?_)
                refine L_go rfl (X_wr (w_store (cs' := [_, _, _, _, _, _, _, _, _, _, _, _, _]) sz33 rfl rfl rfl rfl rfl (by repeat first | exact .head | apply SetAt.tail) (Nat.le_of_ble_eq_true rfl) rfl) ?_)
                rintro _ _ ⟨rfl, rfl⟩
                refine L_go rfl (X_p (p_assign rfl rfl) ?_)
                refine L_then (.cons (k := 6) rfl (.cons (k := 7) rfl .nil)) ?_
                refine V_ret (then_r (blk_r (then_r (then_r (blk_r (then_r ?_))))))
                refine Leave.nil (.cellA (us := [_, _, _, _, _, _, _, _, _, _, _, _, _]) rfl ag33 sz33 (by repeat first | exact mH | apply mT) rfl (.tmp rfl .nil)) ?_
                rw [aheadP_ok he, foundP_none (aheadB_0 (hm0.no (.inl g2')))]; rfl
              · intro g2; have g2' := g2; try simp only [td] at g2'
                refine L_yes rfl rfl rfl g2 (X_wr (w_callP rfl rfl rfl (fun w hg => empty_c x12 _ _ 121 w (hg.own (x12, _) (by repeat first | exact mH | apply mT)))) ?_)
                rintro _ _ ⟨rfl, rfl⟩
                refine L_go rfl (X_p (p_pick_f rfl rfl g2 rfl) ?_)
                refine L_then (.cons (k := 2) rfl (.cons (k := 3) rfl (.cons (k := 4) rfl (.cons (k := 6) rfl (.cons (k := 9) rfl (.cons (k := 10) rfl (.cons (k := 11) rfl (.cons (k := 12) rfl (.cons (k := 42) rfl (.cons (k := 114) rfl .nil)))))))))) ?_
                refine V_cond rfl ?_ ?_
                · intro c7; have c7r := c7; try simp only [td] at c7
                  refine V_seq (V_region rfl ?_)
                  refine L_go rfl (X_p (p_build (r := [_, _, _, _, _, _, _, _, _, _, _, _, _]) pl33 zr33 rfl rfl rfl) ?_)
                  refine L_go rfl (X_wr (w_store (cs' := [_, _, _, _, _, _, _, _, _, _, _, _, _]) sz33 rfl rfl rfl rfl rfl (by repeat first | exact .head | apply SetAt.tail) (Nat.le_of_ble_eq_true rfl) rfl) ?_)
                  rintro _ _ ⟨rfl, rfl⟩
                  refine L_go rfl (X_p (p_assign rfl rfl) ?_)
                  refine L_then (.cons (k := 6) rfl (.cons (k := 7) rfl .nil)) ?_
                  refine V_ret (then_r (blk_r (then_r (then_r (blk_r (then_r ?_))))))
                  refine Leave.nil (.cellA (us := [_, _, _, _, _, _, _, _, _, _, _, _, _]) rfl ag33 sz33 (by repeat first | exact mH | apply mT) rfl (.tmp rfl .nil)) ?_
                  rw [aheadP_ok he, foundP_none (aheadB_0 (hm0.no (.inr c7)))]; rfl
                · intro c7; have c7r := c7; try simp only [td] at c7
                  refine V_skip (then_n ?_)
                  refine V_draw (.rd 0 (.rd 1 (.rd 2 (.rd 3 (.rd 4 (.rd 5 (.rd 6 (.rd 7 (.rd 8 (.rd 9 (.rd 10 (.rd 11 (.wr 12 [9, 6, 5, 4, 3] (.rd 13 (.wr 14 [] .done))))))))))))))) mixed (by kernel_rfl) rfl ?_
                  refine D_p rfl (.plain rfl) (p_move rfl rfl) ?_
                  refine D_p rfl (.plain rfl) (p_idxao ar117 rfl rfl rfl (by omega) (by omega)) ?_
                  refine D_rd rfl (.plain rfl) (r_load ag116 rfl rfl (by repeat first | exact mH | apply mT) rfl) ?_
                  refine D_p rfl (.plain rfl) (p_move rfl rfl) ?_
                  first | refine D_p rfl (.plain rfl) (p_add' rfl rfl rfl (by unfold InI; omega)) ?_ | refine D_p rfl (.plain rfl) (p_add rfl rfl rfl) ?_
                  refine D_p rfl (.plain rfl) (p_idxao ar117 rfl rfl rfl (by omega) (by omega)) ?_
                  refine D_rd rfl (.plain rfl) (r_load ag116 rfl rfl (by repeat first | exact mH | apply mT) rfl) ?_
                  refine D_p rfl (.plain rfl) (p_fieldo fo121_0 rfl rfl) ?_
                  refine D_rd rfl (.plain rfl) (r_loadA (vs := [_, _]) ag24 sz24 rfl rfl (by repeat first | exact mH | apply mT) rfl) ?_
                  refine D_p rfl (.plain rfl) (p_fieldo fo121_0 rfl rfl) ?_
                  refine D_rd rfl (.plain rfl) (r_loadA (vs := [_, _]) ag24 sz24 rfl rfl (by repeat first | exact mH | apply mT) rfl) ?_
                  refine D_p rfl (.plain rfl) (p_nil rfl rfl) ?_
                  refine D_wr (.go (E' := [(6, _)]) rfl (.plain rfl) (w_store (cs' := [_, _, _, _, _, _, _, _, _, _, _, _, _]) sz24 rfl rfl rfl rfl rfl (by repeat first | exact .head | apply SetAt.tail) (Nat.le_of_ble_eq_true rfl) rfl) rfl ?_)
                  rintro _ _ ⟨rfl, rfl⟩
                  refine ⟨(.cons rfl (.plain rfl) (r_load ag116 rfl rfl (by repeat first | exact mH | apply mT) rfl) .nil), ?_⟩
                  refine D_p rfl (.plain rfl) (p_nil rfl rfl) ?_
                  refine D_wr (.go (E' := []) rfl (.plain rfl) (w_store (cs' := [_, _, _, _, _, _, _, _, _, _, _, _, _]) sz24 rfl rfl rfl rfl rfl (by repeat first | exact .head | apply SetAt.tail) (Nat.le_of_ble_eq_true rfl) rfl) rfl ?_)
                  rintro _ _ ⟨rfl, rfl⟩
                  refine ⟨.nil, ?_⟩
                  refine D_keep (.cons (k := 2) rfl (.cons (k := 3) rfl (.cons (k := 4) rfl (.cons (k := 6) rfl (.cons (k := 9) rfl (.cons (k := 42) rfl .nil)))))) (blk_n (then_n ?_))
                  refine V_region rfl ?_
                  first | refine L_go rfl (X_p (p_add' rfl rfl rfl (by unfold InI; omega)) ?_) | refine L_go rfl (X_p (p_add rfl rfl rfl) ?_)
                  refine L_go rfl (X_p (p_move rfl rfl) ?_)
                  refine L_keep (.cons (k := 2) rfl (.cons (k := 3) rfl (.cons (k := 4) rfl (.cons (k := 6) rfl (.cons (k := 9) rfl (.cons (k := 42) rfl .nil)))))) (then_n ?_)
                  refine LU_step ?_
                  refine V_seq (V_region rfl ?_)
                  refine L_go rfl (X_p (p_lss rfl rfl rfl) ?_)
                  refine L_then (.cons (k := 2) rfl (.cons (k := 3) rfl (.cons (k := 4) rfl (.cons (k := 6) rfl (.cons (k := 9) rfl (.cons (k := 42) rfl (.cons (k := 43) rfl .nil))))))) ?_
                  refine V_seq ?_
                  refine V_cond_t rfl rfl ?_
                  refine V_skip (then_n ?_)
                  refine V_seq ?_
                  refine V_block ?_
                  refine V_seq (V_region rfl ?_)
                  refine L_go rfl (X_p (p_move rfl rfl) ?_)
                  refine L_go rfl (X_p (p_assign rfl rfl) ?_)
                  refine L_then (.cons (k := 2) rfl (.cons (k := 3) rfl (.cons (k := 4) rfl (.cons (k := 6) rfl (.cons (k := 9) rfl (.cons (k := 10) rfl (.cons (k := 42) rfl .nil))))))) ?_
                  refine V_mid (γ := Nat × Nat) (.cons (k := 2) rfl (.cons (k := 3) rfl (.cons (k := 4) rfl (.cons (k := 6) rfl (.cons (k := 9) rfl (.cons (k := 10) rfl (.cons (k := 42) rfl .nil))))))) (fun (x11, x12) => [(11, .pointer (some ⟨x11, 0, none⟩)), (12, .pointer (some ⟨x12, 0, none⟩))]) (fun (x11, x12) => (x11, .cells #[.int .i64 b.y.lo, .int .i64 b.y.hi] 121) :: (x12, .cells #[.int .i64 b.vy.lo, .int .i64 b.vy.hi] 121) :: (b5, .cells #[.pointer (some ⟨b2, 1, none⟩), .pointer (some ⟨b2, 3, none⟩), .pointer (some ⟨b2, 5, none⟩), .pointer (some ⟨b2, 7, none⟩), .pointer (some ⟨b2, 9, none⟩), .pointer (some ⟨b2, 11, none⟩)] 117) :: (b3, .cells (Box.cells boxZ).toArray 33) :: (b2, .cells (Box.cells ⟨b.at_ + n, q0, b.y, b.z, r0, b.vy, b.vz⟩).toArray 33) :: (b1, t.obj tv pv 54) :: []) (fun (x11, x12) => True) ?_ ?_
                  · refine V_draw (.rd 0 (.rd 1 (.rd 2 (.rd 3 (.rd 4 (.rd 5 (.rd 6 (.rd 7 (.rd 8 (.rd 9 (.rd 10 (.rd 11 (.rd 12 (.wr2 13 [12, 11, 10, 9, 8, 7, 6, 5, 4, 3, 2, 1, 0] (.wr 14 [12, 11, 10, 9, 8, 7, 6, 5, 4, 3, 2, 1, 0] (.wr 15 [12, 10, 9, 8, 7, 6] (.wr 16 [] .done))) 14 [12, 11, 10, 9, 8, 7, 6, 5, 4, 3, 2, 1, 0] (.wr 13 [12, 11, 10, 9, 8, 7, 6, 5, 4, 3, 2, 1, 0] (.wr 15 [12, 10, 9, 8, 7, 6] (.wr 16 [] .done))))))))))))))))) mixed (by kernel_rfl) rfl ?_
                    refine D_p rfl (.plain rfl) (p_move rfl rfl) ?_
                    refine D_p rfl (.plain rfl) (p_idxao ar117 rfl rfl rfl (by omega) (by omega)) ?_
                    refine D_rd rfl (.plain rfl) (r_load ag116 rfl rfl (by repeat first | exact mH | apply mT) rfl) ?_
                    refine D_p rfl (.plain rfl) (p_nil rfl rfl) ?_
                    refine D_rd rfl (.plain rfl) (r_loadA (vs := [_, _]) ag24 sz24 rfl rfl (by repeat first | exact mH | apply mT) rfl) ?_
                    refine D_p rfl (.plain rfl) (p_build (r := [_, _]) pl121 zr121 rfl rfl rfl) ?_
                    refine D_p rfl (.plain rfl) (p_move rfl rfl) ?_
                    first | refine D_p rfl (.plain rfl) (p_add' rfl rfl rfl (by unfold InI; omega)) ?_ | refine D_p rfl (.plain rfl) (p_add rfl rfl rfl) ?_
                    refine D_p rfl (.plain rfl) (p_idxao ar117 rfl rfl rfl (by omega) (by omega)) ?_
                    refine D_rd rfl (.plain rfl) (r_load ag116 rfl rfl (by repeat first | exact mH | apply mT) rfl) ?_
                    refine D_p rfl (.plain rfl) (p_nil rfl rfl) ?_
                    refine D_rd rfl (.plain rfl) (r_loadA (vs := [_, _]) ag24 sz24 rfl rfl (by repeat first | exact mH | apply mT) rfl) ?_
                    refine D_p rfl (.plain rfl) (p_build (r := [_, _]) pl121 zr121 rfl rfl rfl) ?_
                    refine D_wr2 rfl ?_ ?_
                    · refine (.go (E' := [(11, _), (9, _), (4, _), (2, _)]) rfl (.plain rfl) (w_alloc zr121 rfl) rfl ?_)
                      rintro _ _ ⟨b6, hb6, rfl, rfl⟩
                      refine ⟨(.cons rfl (.plain rfl) (r_loadA (vs := [_, _]) ag24 sz24 rfl rfl (by repeat first | exact mH | apply mT) rfl) (.cons rfl (.plain rfl) (r_load ag116 rfl rfl (by repeat first | exact mH | apply mT) rfl) (.cons rfl (.plain rfl) (r_loadA (vs := [_, _]) ag24 sz24 rfl rfl (by repeat first | exact mH | apply mT) rfl) (.cons rfl (.plain rfl) (r_load ag116 rfl rfl (by repeat first | exact mH | apply mT) rfl) .nil)))), ?_⟩
                      refine D_wr (.go (E' := [(11, _), (9, _), (4, _), (2, _)]) rfl (.plain rfl) (w_alloc zr121 rfl) rfl ?_)
                      rintro _ _ ⟨b7, hb7, rfl, rfl⟩
                      refine ⟨(.cons rfl (.plain rfl) (r_loadA (vs := [_, _]) ag24 sz24 rfl rfl (by repeat first | exact mH | apply mT) rfl) (.cons rfl (.plain rfl) (r_load ag116 rfl rfl (by repeat first | exact mH | apply mT) rfl) (.cons rfl (.plain rfl) (r_loadA (vs := [_, _]) ag24 sz24 rfl rfl (by repeat first | exact mH | apply mT) rfl) (.cons rfl (.plain rfl) (r_load ag116 rfl rfl (by repeat first | exact mH | apply mT) rfl) .nil)))), ?_⟩
                      refine D_wr (.go (E' := [(9, _)]) rfl (.plain rfl) (w_store (cs' := [_, _]) sz121 rfl rfl rfl rfl rfl (by repeat first | exact .head | apply SetAt.tail) (Nat.le_of_ble_eq_true rfl) rfl) rfl ?_)
                      rintro _ _ ⟨rfl, rfl⟩
                      refine ⟨(.cons rfl (.plain rfl) (r_load ag116 rfl rfl (by repeat first | exact mH | apply mT) rfl) .nil), ?_⟩
                      refine D_wr (.go (E' := []) rfl (.plain rfl) (w_store (cs' := [_, _]) sz121 rfl rfl rfl rfl rfl (by repeat first | exact .head | apply SetAt.tail) (Nat.le_of_ble_eq_true rfl) rfl) rfl ?_)
                      rintro _ _ ⟨rfl, rfl⟩
                      refine ⟨.nil, ?_⟩
                      refine D_then (.cons (k := 2) rfl (.cons (k := 3) rfl (.cons (k := 4) rfl (.cons (k := 6) rfl (.cons (k := 9) rfl (.cons (k := 10) rfl (.cons (k := 11) rfl (.cons (k := 12) rfl (.cons (k := 42) rfl .nil))))))))) ?_
                      refine ⟨(b6, b7), trivial, (.cons rfl (.cons rfl (.cons rfl (.cons rfl (.cons rfl (.cons rfl (.cons rfl (.cons rfl (.cons rfl (.nil _)))))))))), (by (try dsimp only); repeat (first | exact HSub.nil _ | refine HSub.take (by repeat first | exact Take.head | apply Take.tail) ?_ | exact HSub.refl _ | refine HSub.drop ?_ | refine HSub.app ?_)), rfl⟩
                    · refine (.go (E' := [(11, _), (9, _), (4, _), (2, _)]) rfl (.plain rfl) (w_alloc zr121 rfl) rfl ?_)
                      rintro _ _ ⟨b6, hb6, rfl, rfl⟩
                      refine ⟨(.cons rfl (.plain rfl) (r_loadA (vs := [_, _]) ag24 sz24 rfl rfl (by repeat first | exact mH | apply mT) rfl) (.cons rfl (.plain rfl) (r_load ag116 rfl rfl (by repeat first | exact mH | apply mT) rfl) (.cons rfl (.plain rfl) (r_loadA (vs := [_, _]) ag24 sz24 rfl rfl (by repeat first | exact mH | apply mT) rfl) (.cons rfl (.plain rfl) (r_load ag116 rfl rfl (by repeat first | exact mH | apply mT) rfl) .nil)))), ?_⟩
                      refine D_wr (.go (E' := [(11, _), (9, _), (4, _), (2, _)]) rfl (.plain rfl) (w_alloc zr121 rfl) rfl ?_)
                      rintro _ _ ⟨b7, hb7, rfl, rfl⟩
                      refine ⟨(.cons rfl (.plain rfl) (r_loadA (vs := [_, _]) ag24 sz24 rfl rfl (by repeat first | exact mH | apply mT) rfl) (.cons rfl (.plain rfl) (r_load ag116 rfl rfl (by repeat first | exact mH | apply mT) rfl) (.cons rfl (.plain rfl) (r_loadA (vs := [_, _]) ag24 sz24 rfl rfl (by repeat first | exact mH | apply mT) rfl) (.cons rfl (.plain rfl) (r_load ag116 rfl rfl (by repeat first | exact mH | apply mT) rfl) .nil)))), ?_⟩
                      refine D_wr (.go (E' := [(9, _)]) rfl (.plain rfl) (w_store (cs' := [_, _]) sz121 rfl rfl rfl rfl rfl (by repeat first | exact .head | apply SetAt.tail) (Nat.le_of_ble_eq_true rfl) rfl) rfl ?_)
                      rintro _ _ ⟨rfl, rfl⟩
                      refine ⟨(.cons rfl (.plain rfl) (r_load ag116 rfl rfl (by repeat first | exact mH | apply mT) rfl) .nil), ?_⟩
                      refine D_wr (.go (E' := []) rfl (.plain rfl) (w_store (cs' := [_, _]) sz121 rfl rfl rfl rfl rfl (by repeat first | exact .head | apply SetAt.tail) (Nat.le_of_ble_eq_true rfl) rfl) rfl ?_)
                      rintro _ _ ⟨rfl, rfl⟩
                      refine ⟨.nil, ?_⟩
                      refine D_then (.cons (k := 2) rfl (.cons (k := 3) rfl (.cons (k := 4) rfl (.cons (k := 6) rfl (.cons (k := 9) rfl (.cons (k := 10) rfl (.cons (k := 11) rfl (.cons (k := 12) rfl (.cons (k := 42) rfl .nil))))))))) ?_
                      refine ⟨(b7, b6), trivial, (.cons rfl (.cons rfl (.cons rfl (.cons rfl (.cons rfl (.cons rfl (.cons rfl (.cons rfl (.cons rfl (.nil _)))))))))), (by (try dsimp only); repeat (first | exact HSub.nil _ | refine HSub.take (by repeat first | exact Take.head | apply Take.tail) ?_ | exact HSub.refl _ | refine HSub.drop ?_ | refine HSub.app ?_)), rfl⟩
                  · rintro ⟨x11, x12⟩ _
                    refine V_seq (V_region rfl ?_)
                    refine L_go rfl (X_p (p_fieldo fo54_1 rfl rfl) ?_)
                    refine L_go rfl (X_rd (r_load ag3 rfl rfl (by repeat first | exact mH | apply mT) rfl) ?_)
                    first | refine L_go rfl (X_p (p_neg' rfl rfl (by unfold InI; omega)) ?_) | refine L_go rfl (X_p (p_neg rfl rfl) ?_)
                    refine L_go rfl (X_p (p_fieldo fo54_1 rfl rfl) ?_)
                    refine L_go rfl (X_rd (r_load ag3 rfl rfl (by repeat first | exact mH | apply mT) rfl) ?_)
                    refine L_go rfl (X_wr (w_callM rfl rfl rfl (fun o' => (by repeat first | exact .head | apply SetAt.tail)) (fun w hg => narrow_c x12 _ _ 121 (-t.speed) t.speed w (hg.own (x12, _) (by repeat first | exact mH | apply mT)))) ?_)
                    rintro _ _ ⟨_, rfl, rfl, rfl⟩
                    refine L_then (.cons (k := 2) rfl (.cons (k := 3) rfl (.cons (k := 4) rfl (.cons (k := 6) rfl (.cons (k := 9) rfl (.cons (k := 10) rfl (.cons (k := 11) rfl (.cons (k := 12) rfl (.cons (k := 42) rfl .nil))))))))) ?_
                    refine V_seq ?_
                    refine V_seq (V_region rfl ?_)
                    refine L_go rfl (X_p (p_move rfl rfl) ?_)
                    refine L_go rfl (X_p (p_move rfl rfl) ?_)
                    refine L_then (.cons (k := 2) rfl (.cons (k := 3) rfl (.cons (k := 4) rfl (.cons (k := 6) rfl (.cons (k := 9) rfl (.cons (k := 10) rfl (.cons (k := 11) rfl (.cons (k := 12) rfl (.cons (k := 42) rfl (.cons (k := 64) rfl (.cons (k := 65) rfl .nil))))))))))) ?_
                    refine V_midT (γ := Span × Span) (.cons (k := 2) rfl (.cons (k := 3) rfl (.cons (k := 4) rfl (.cons (k := 6) rfl (.cons (k := 9) rfl (.cons (k := 10) rfl (.cons (k := 11) rfl (.cons (k := 12) rfl (.cons (k := 42) rfl .nil))))))))) (fun (q1, r1) => []) (fun (q1, r1) => (x11, .cells #[.int .i64 q1.lo, .int .i64 q1.hi] 121) :: (x12, .cells #[.int .i64 r1.lo, .int .i64 r1.hi] 121) :: (b5, .cells #[.pointer (some ⟨b2, 1, none⟩), .pointer (some ⟨b2, 3, none⟩), .pointer (some ⟨b2, 5, none⟩), .pointer (some ⟨b2, 7, none⟩), .pointer (some ⟨b2, 9, none⟩), .pointer (some ⟨b2, 11, none⟩)] 117) :: (b3, .cells (Box.cells boxZ).toArray 33) :: (b2, .cells (Box.cells ⟨b.at_ + n, q0, b.y, b.z, r0, b.vy, b.vz⟩).toArray 33) :: (b1, t.obj tv pv 54) :: []) (fun (q1, r1) => Met (aheadS t n b.y b.vy) q1 r1) ?_ ?_
                    · refine V_block ?_
                      refine V_loop1 (γ := Int × Span × Span) (.cons (k := 2) rfl (.cons (k := 3) rfl (.cons (k := 4) rfl (.cons (k := 6) rfl (.cons (k := 9) rfl (.cons (k := 10) rfl (.cons (k := 11) rfl (.cons (k := 12) rfl (.cons (k := 42) rfl (.cons (k := 64) rfl .nil)))))))))) (fun (k, p, v) => [(65, .int .i64 k)]) (fun (k, p, v) => (x11, .cells #[.int .i64 p.lo, .int .i64 p.hi] 121) :: (x12, .cells #[.int .i64 v.lo, .int .i64 v.hi] 121) :: (b5, .cells #[.pointer (some ⟨b2, 1, none⟩), .pointer (some ⟨b2, 3, none⟩), .pointer (some ⟨b2, 5, none⟩), .pointer (some ⟨b2, 7, none⟩), .pointer (some ⟨b2, 9, none⟩), .pointer (some ⟨b2, 11, none⟩)] 117) :: (b3, .cells (Box.cells boxZ).toArray 33) :: (b2, .cells (Box.cells ⟨b.at_ + n, q0, b.y, b.z, r0, b.vy, b.vz⟩).toArray 33) :: (b1, t.obj tv pv 54) :: []) (fun (k, p, v) => 0 ≤ k ∧ k ≤ n ∧ aheadS t n b.y b.vy = aheadN t (n - k).toNat p v ∧ okS 2000000000 p ∧ SpanB 1000000 v) (fun (k, p, v) => (n - k).toNat) ((0, b.y, common b.vy (room0 t.speed))) (.cons rfl (.nil _)) (by repeat (first | exact List.nil_sublist _ | exact List.Sublist.refl _ | apply List.Sublist.cons_cons | apply List.Sublist.cons)) (⟨by omega, by omega, by rw [Int.sub_zero]; rfl, by unfold okS; omega, by simp only [SpanB, common, room0]; omega⟩) ?_
                      rintro ⟨k, p, v⟩ hi
                      obtain ⟨hk0, hk1, hah, hp, hv⟩ := hi
                      have hpn : p.none = false := by simp only [Span.none, decide_eq_false_iff_not]; unfold okS at hp; omega
                      unfold okS at hp
                      unfold SpanB at hv
                      refine V_seq (V_region rfl ?_)
                      refine L_go rfl (X_p (p_lss rfl rfl rfl) ?_)
                      refine L_then (.cons (k := 2) rfl (.cons (k := 3) rfl (.cons (k := 4) rfl (.cons (k := 6) rfl (.cons (k := 9) rfl (.cons (k := 10) rfl (.cons (k := 11) rfl (.cons (k := 12) rfl (.cons (k := 42) rfl (.cons (k := 64) rfl (.cons (k := 65) rfl (.cons (k := 66) rfl .nil)))))))))))) ?_
                      refine V_seq ?_
                      refine V_cond rfl ?_ ?_
                      · intro c8; have c8r := c8; try simp only [td] at c8
                        refine V_skip (then_n ?_)
                        refine V_seq ?_
                        refine V_block ?_
                        refine V_seq ?_
                        refine V_seq (V_region rfl ?_)
                        refine L_go rfl (X_wr (w_callP rfl rfl rfl (fun w hg => empty_c x12 _ _ 121 w (hg.own (x12, _) (by repeat first | exact mH | apply mT)))) ?_)
                        rintro _ _ ⟨rfl, rfl⟩
                        refine L_then (.cons (k := 2) rfl (.cons (k := 3) rfl (.cons (k := 4) rfl (.cons (k := 6) rfl (.cons (k := 9) rfl (.cons (k := 10) rfl (.cons (k := 11) rfl (.cons (k := 12) rfl (.cons (k := 42) rfl (.cons (k := 64) rfl (.cons (k := 65) rfl (.cons (k := 67) rfl .nil)))))))))))) ?_
                        refine V_cond rfl ?_ ?_
                        · intro c9; have c9r := c9; try simp only [td] at c9
                          refine V_exit (then_e (blk_o rfl (then_e (then_e (blk_e rfl (then_n ?_))))))
                          refine ⟨(p, v), ?_, (.cons rfl (.cons rfl (.cons rfl (.cons rfl (.cons rfl (.cons rfl (.cons rfl (.cons rfl (.cons rfl (.nil _)))))))))), (by (try dsimp only); repeat (first | exact HSub.nil _ | refine HSub.take (by repeat first | exact Take.head | apply Take.tail) ?_ | exact HSub.refl _ | refine HSub.drop ?_ | refine HSub.app ?_)), rfl⟩
                          exact met_v hah c9
                        · intro c9; have c9r := c9; try simp only [td] at c9
                          refine V_skip (then_n ?_)
                          refine V_seq (V_region rfl ?_)
                          refine L_go rfl (X_p (p_fieldo fo121_0 rfl rfl) ?_)
                          refine L_go rfl (X_p (p_fieldo fo24_0 rfl rfl) ?_)
                          refine L_go rfl (X_rd (r_load ag3 rfl rfl (by repeat first | exact mH | apply mT) rfl) ?_)
                          refine L_go rfl (X_p (p_fieldo fo121_0 rfl rfl) ?_)
                          refine L_go rfl (X_p (p_fieldo fo24_0 rfl rfl) ?_)
                          refine L_go rfl (X_rd (r_load ag3 rfl rfl (by repeat first | exact mH | apply mT) rfl) ?_)
                          first | refine L_go rfl (X_p (p_add' rfl rfl rfl (by unfold InI; omega)) ?_) | refine L_go rfl (X_p (p_add rfl rfl rfl) ?_)
                          refine L_go rfl (X_p (p_fieldo fo121_0 rfl rfl) ?_)
                          refine L_go rfl (X_p (p_fieldo fo24_1 rfl rfl) ?_)
                          refine L_go rfl (X_rd (r_load ag3 rfl rfl (by repeat first | exact mH | apply mT) rfl) ?_)
                          refine L_go rfl (X_p (p_fieldo fo121_0 rfl rfl) ?_)
                          refine L_go rfl (X_p (p_fieldo fo24_1 rfl rfl) ?_)
                          refine L_go rfl (X_rd (r_load ag3 rfl rfl (by repeat first | exact mH | apply mT) rfl) ?_)
                          first | refine L_go rfl (X_p (p_add' rfl rfl rfl (by unfold InI; omega)) ?_) | refine L_go rfl (X_p (p_add rfl rfl rfl) ?_)
                          refine L_go rfl (X_p (p_fieldo fo121_0 rfl rfl) ?_)
                          refine L_go rfl (X_p (p_fieldo fo24_0 rfl rfl) ?_)
                          refine L_go rfl (X_wr (w_store (cs' := [_, _]) sz3 rfl rfl rfl rfl rfl (by repeat first | exact .head | apply SetAt.tail) (Nat.le_of_ble_eq_true rfl) rfl) ?_)
                          rintro _ _ ⟨rfl, rfl⟩
                          refine L_go rfl (X_p (p_fieldo fo121_0 rfl rfl) ?_)
                          refine L_go rfl (X_p (p_fieldo fo24_1 rfl rfl) ?_)
                          refine L_go rfl (X_wr (w_store (cs' := [_, _]) sz3 rfl rfl rfl rfl rfl (by repeat first | exact .head | apply SetAt.tail) (Nat.le_of_ble_eq_true rfl) rfl) ?_)
                          rintro _ _ ⟨rfl, rfl⟩
                          refine L_then (.cons (k := 2) rfl (.cons (k := 3) rfl (.cons (k := 4) rfl (.cons (k := 6) rfl (.cons (k := 9) rfl (.cons (k := 10) rfl (.cons (k := 11) rfl (.cons (k := 12) rfl (.cons (k := 42) rfl (.cons (k := 64) rfl (.cons (k := 65) rfl .nil))))))))))) ?_
                          refine V_seq (V_region rfl ?_)
                          refine L_go rfl (X_wr (w_callM rfl rfl rfl (fun o' => (by repeat first | exact .head | apply SetAt.tail)) (fun w hg => narrow_c x11 _ _ 121 (-2000000000) 2000000000 w (hg.own (x11, _) (by repeat first | exact mH | apply mT)))) ?_)
                          rintro _ _ ⟨_, rfl, rfl, rfl⟩
                          refine L_then (.cons (k := 2) rfl (.cons (k := 3) rfl (.cons (k := 4) rfl (.cons (k := 6) rfl (.cons (k := 9) rfl (.cons (k := 10) rfl (.cons (k := 11) rfl (.cons (k := 12) rfl (.cons (k := 42) rfl (.cons (k := 64) rfl (.cons (k := 65) rfl .nil))))))))))) ?_
                          refine V_seq ?_
                          refine V_seq (V_region rfl ?_)
                          refine L_go rfl (X_wr (w_callP rfl rfl rfl (fun w hg => empty_c x11 _ _ 121 w (hg.own (x11, _) (by repeat first | exact mH | apply mT)))) ?_)
                          rintro _ _ ⟨rfl, rfl⟩
                          refine L_then (.cons (k := 2) rfl (.cons (k := 3) rfl (.cons (k := 4) rfl (.cons (k := 6) rfl (.cons (k := 9) rfl (.cons (k := 10) rfl (.cons (k := 11) rfl (.cons (k := 12) rfl (.cons (k := 42) rfl (.cons (k := 64) rfl (.cons (k := 65) rfl (.cons (k := 87) rfl .nil)))))))))))) ?_
                          refine V_cond rfl ?_ ?_
                          · intro c10; have c10r := c10; try simp only [td] at c10
                            refine V_exit (then_e (blk_o rfl (then_e (then_e (blk_e rfl (then_n ?_))))))
                            refine ⟨(stepP p v, v), ?_, (.cons rfl (.cons rfl (.cons rfl (.cons rfl (.cons rfl (.cons rfl (.cons rfl (.cons rfl (.cons rfl (.nil _)))))))))), (by (try dsimp only); repeat (first | exact HSub.nil _ | refine HSub.take (by repeat first | exact Take.head | apply Take.tail) ?_ | exact HSub.refl _ | refine HSub.drop ?_ | refine HSub.app ?_)), rfl⟩
                            exact met_p (hah.trans (aheadN_go ⟨hk0, by omega⟩ hpn c9)) c10
                          · intro c10; have c10r := c10; try simp only [td] at c10
                            refine V_skip (then_n ?_)
                            refine V_seq (V_draw (.rd 0 (.rd 1 (.rd 2 (.rd 3 (.rd 4 (.rd 5 (.rd 6 (.rd 7 (.rd 8 (.rd 9 (.rd 10 (.rd 11 (.rd 12 (.rd 13 (.wr 14 [12, 11, 10, 9, 7, 6] (.rd 15 (.rd 16 (.wr 17 [15] .done)))))))))))))))))) mixed (by kernel_rfl) rfl ?_)
                            refine D_p rfl (.plain rfl) (p_fieldo fo121_0 rfl rfl) ?_
                            refine D_p rfl (.plain rfl) (p_fieldo fo24_0 rfl rfl) ?_
                            refine D_rd rfl (.plain rfl) (r_load ag3 rfl rfl (by repeat first | exact mH | apply mT) rfl) ?_
                            refine D_p rfl (.plain rfl) (p_fieldo fo54_2 rfl rfl) ?_
                            refine D_rd rfl (.plain rfl) (r_load ag3 rfl rfl (by repeat first | exact mH | apply mT) rfl) ?_
                            first | refine D_p rfl (.plain rfl) (p_sub' rfl rfl rfl (by unfold InI; omega)) ?_ | refine D_p rfl (.plain rfl) (p_sub rfl rfl rfl) ?_
                            refine D_p rfl (.plain rfl) (p_fieldo fo121_0 rfl rfl) ?_
                            refine D_p rfl (.plain rfl) (p_fieldo fo24_1 rfl rfl) ?_
                            refine D_rd rfl (.plain rfl) (r_load ag3 rfl rfl (by repeat first | exact mH | apply mT) rfl) ?_
                            refine D_p rfl (.plain rfl) (p_fieldo fo54_2 rfl rfl) ?_
                            refine D_rd rfl (.plain rfl) (r_load ag3 rfl rfl (by repeat first | exact mH | apply mT) rfl) ?_
                            first | refine D_p rfl (.plain rfl) (p_add' rfl rfl rfl (by unfold InI; omega)) ?_ | refine D_p rfl (.plain rfl) (p_add rfl rfl rfl) ?_
                            refine D_p rfl (.plain rfl) (p_fieldo fo121_0 rfl rfl) ?_
                            refine D_p rfl (.plain rfl) (p_fieldo fo24_0 rfl rfl) ?_
                            refine D_wr (.go (E' := [(10, _)]) rfl (.plain rfl) (w_store (cs' := [_, _]) sz3 rfl rfl rfl rfl rfl (by repeat first | exact .head | apply SetAt.tail) (Nat.le_of_ble_eq_true rfl) rfl) rfl ?_)
                            rintro _ _ ⟨rfl, rfl⟩
                            refine ⟨(.cons rfl (.plain rfl) (r_load ag3 rfl rfl (by repeat first | exact mH | apply mT) rfl) .nil), ?_⟩
                            refine D_p rfl (.plain rfl) (p_fieldo fo121_0 rfl rfl) ?_
                            refine D_p rfl (.plain rfl) (p_fieldo fo24_1 rfl rfl) ?_
                            refine D_wr (.go (E' := []) rfl (.plain rfl) (w_store (cs' := [_, _]) sz3 rfl rfl rfl rfl rfl (by repeat first | exact .head | apply SetAt.tail) (Nat.le_of_ble_eq_true rfl) rfl) rfl ?_)
                            rintro _ _ ⟨rfl, rfl⟩
                            refine ⟨.nil, ?_⟩
                            refine D_then (.cons (k := 2) rfl (.cons (k := 3) rfl (.cons (k := 4) rfl (.cons (k := 6) rfl (.cons (k := 9) rfl (.cons (k := 10) rfl (.cons (k := 11) rfl (.cons (k := 12) rfl (.cons (k := 42) rfl (.cons (k := 64) rfl (.cons (k := 65) rfl .nil))))))))))) ?_
                            refine V_region rfl ?_
                            refine L_go rfl (X_p (p_fieldo fo54_1 rfl rfl) ?_)
                            refine L_go rfl (X_rd (r_load ag3 rfl rfl (by repeat first | exact mH | apply mT) rfl) ?_)
                            first | refine L_go rfl (X_p (p_neg' rfl rfl (by unfold InI; omega)) ?_) | refine L_go rfl (X_p (p_neg rfl rfl) ?_)
                            refine L_go rfl (X_p (p_fieldo fo54_1 rfl rfl) ?_)
                            refine L_go rfl (X_rd (r_load ag3 rfl rfl (by repeat first | exact mH | apply mT) rfl) ?_)
                            refine L_go rfl (X_wr (w_callM rfl rfl rfl (fun o' => (by repeat first | exact .head | apply SetAt.tail)) (fun w hg => narrow_c x12 _ _ 121 (-t.speed) t.speed w (hg.own (x12, _) (by repeat first | exact mH | apply mT)))) ?_)
                            rintro _ _ ⟨_, rfl, rfl, rfl⟩
                            refine L_keep (.cons (k := 2) rfl (.cons (k := 3) rfl (.cons (k := 4) rfl (.cons (k := 6) rfl (.cons (k := 9) rfl (.cons (k := 10) rfl (.cons (k := 11) rfl (.cons (k := 12) rfl (.cons (k := 42) rfl (.cons (k := 64) rfl (.cons (k := 65) rfl .nil))))))))))) (blk_n (then_n ?_))
                            refine V_region rfl ?_
                            first | refine L_go rfl (X_p (p_add' rfl rfl rfl (by unfold InI; omega)) ?_) | refine L_go rfl (X_p (p_add rfl rfl rfl) ?_)
                            refine L_go rfl (X_p (p_move rfl rfl) ?_)
                            refine L_keep (.cons (k := 2) rfl (.cons (k := 3) rfl (.cons (k := 4) rfl (.cons (k := 6) rfl (.cons (k := 9) rfl (.cons (k := 10) rfl (.cons (k := 11) rfl (.cons (k := 12) rfl (.cons (k := 42) rfl (.cons (k := 64) rfl (.cons (k := 65) rfl .nil))))))))))) (then_n ?_)
                            refine ⟨(k + 1, stepP p v, stepV t v), ?_, ?_, (.cons rfl (.cons rfl (.cons rfl (.cons rfl (.cons rfl (.cons rfl (.cons rfl (.cons rfl (.cons rfl (.cons rfl (.cons rfl (.nil _)))))))))))), (by repeat (first | exact List.nil_sublist _ | exact List.Sublist.refl _ | apply List.Sublist.cons_cons | apply List.Sublist.cons | apply List.sublist_append_of_sublist_right)), rfl⟩
                            · refine ⟨by omega, by omega, hah.trans (aheadN_go ⟨hk0, by omega⟩ hpn c9), ?_, ?_⟩
                              · have h5 := none_false c10
                                simp only [stepP, common, room0] at h5
                                simp only [okS, stepP, common, room0]; omega
                              · simp only [SpanB, stepV, common, room0]; omega
                            · dsimp only; omega
                      · intro c8; have c8r := c8; try simp only [td] at c8
                        refine V_exit (then_e (then_e (blk_e rfl (then_n ?_))))
                        refine ⟨(p, v), ?_, (.cons rfl (.cons rfl (.cons rfl (.cons rfl (.cons rfl (.cons rfl (.cons rfl (.cons rfl (.cons rfl (.nil _)))))))))), (by (try dsimp only); repeat (first | exact HSub.nil _ | refine HSub.take (by repeat first | exact Take.head | apply Take.tail) ?_ | exact HSub.refl _ | refine HSub.drop ?_ | refine HSub.app ?_)), rfl⟩
                        exact met_end hah (by omega) hpn
                    · rintro ⟨q1, r1⟩ hm1
                      refine V_seq ?_
                      refine V_seq (V_region rfl ?_)
                      refine L_go rfl (X_wr (w_callP rfl rfl rfl (fun w hg => empty_c x11 _ _ 121 w (hg.own (x11, _) (by repeat first | exact mH | apply mT)))) ?_)
                      rintro _ _ ⟨rfl, rfl⟩
                      refine L_go rfl (X_p (p_move rfl rfl) ?_)
                      refine L_cases (d := 112) rfl ?_ ?_
                      · intro g3; have g3' := g3; try simp only [td] at g3'
                        refine L_no rfl rfl rfl g3 ?_
                        refine L_go rfl (X_p (p_pick_t rfl rfl g3 rfl) ?_)
                        refine L_then (.cons (k := 2) rfl (.cons (k := 3) rfl (.cons (k := 4) rfl (.cons (k := 6) rfl (.cons (k := 9) rfl (.cons (k := 10) rfl (.cons (k := 11) rfl (.cons (k := 12) rfl (.cons (k := 42) rfl (.cons (k := 114) rfl .nil)))))))))) ?_
                        refine V_cond_t rfl rfl ?_
                        refine V_seq (V_region rfl ?_)
                        refine L_go rfl (X_p (p_build (r := [_, _, _, _, _, _, _, _, _, _, _, _, _]) pl33 zr33 rfl rfl rfl) ?_)
                        refine L_go rfl (X_wr (w_store (cs' := [_, _, _, _, _, _, _, _, _, _, _, _, _]) sz33 rfl rfl rfl rfl rfl (by repeat first | exact .head | apply SetAt.tail) (Nat.le_of_ble_eq_true rfl) rfl) ?_)
                        rintro _ _ ⟨rfl, rfl⟩
                        refine L_go rfl (X_p (p_assign rfl rfl) ?_)
                        refine L_then (.cons (k := 6) rfl (.cons (k := 7) rfl .nil)) ?_
                        refine V_ret (then_r (blk_r (then_r (then_r (blk_r (then_r ?_))))))
                        refine Leave.nil (.cellA (us := [_, _, _, _, _, _, _, _, _, _, _, _, _]) rfl ag33 sz33 (by repeat first | exact mH | apply mT) rfl (.tmp rfl .nil)) ?_
                        rw [aheadP_ok he, foundP_none (aheadB_1 (hm0.yes g2' c7) (hm1.no (.inl g3')))]; rfl
                      · intro g3; have g3' := g3; try simp only [td] at g3'
                        refine L_yes rfl rfl rfl g3 (X_wr (w_callP rfl rfl rfl (fun w hg => empty_c x12 _ _ 121 w (hg.own (x12, _) (by repeat first | exact mH | apply mT)))) ?_)
                        rintro _ _ ⟨rfl, rfl⟩
                        refine L_go rfl (X_p (p_pick_f rfl rfl g3 rfl) ?_)
                        refine L_then (.cons (k := 2) rfl (.cons (k := 3) rfl (.cons (k := 4) rfl (.cons (k := 6) rfl (.cons (k := 9) rfl (.cons (k := 10) rfl (.cons (k := 11) rfl (.cons (k := 12) rfl (.cons (k := 42) rfl (.cons (k := 114) rfl .nil)))))))))) ?_
                        refine V_cond rfl ?_ ?_
                        · intro c11; have c11r := c11; try simp only [td] at c11
                          refine V_seq (V_region rfl ?_)
                          refine L_go rfl (X_p (p_build (r := [_, _, _, _, _, _, _, _, _, _, _, _, _]) pl33 zr33 rfl rfl rfl) ?_)
                          refine L_go rfl (X_wr (w_store (cs' := [_, _, _, _, _, _, _, _, _, _, _, _, _]) sz33 rfl rfl rfl rfl rfl (by repeat first | exact .head | apply SetAt.tail) (Nat.le_of_ble_eq_true rfl) rfl) ?_)
                          rintro _ _ ⟨rfl, rfl⟩
                          refine L_go rfl (X_p (p_assign rfl rfl) ?_)
                          refine L_then (.cons (k := 6) rfl (.cons (k := 7) rfl .nil)) ?_
                          refine V_ret (then_r (blk_r (then_r (then_r (blk_r (then_r ?_))))))
                          refine Leave.nil (.cellA (us := [_, _, _, _, _, _, _, _, _, _, _, _, _]) rfl ag33 sz33 (by repeat first | exact mH | apply mT) rfl (.tmp rfl .nil)) ?_
                          rw [aheadP_ok he, foundP_none (aheadB_1 (hm0.yes g2' c7) (hm1.no (.inr c11)))]; rfl
                        · intro c11; have c11r := c11; try simp only [td] at c11
                          refine V_skip (then_n ?_)
                          refine V_draw (.rd 0 (.rd 1 (.rd 2 (.rd 3 (.rd 4 (.rd 5 (.rd 6 (.rd 7 (.rd 8 (.rd 9 (.rd 10 (.rd 11 (.wr 12 [9, 6, 5, 4, 3] (.rd 13 (.wr 14 [] .done))))))))))))))) mixed (by kernel_rfl) rfl ?_
                          refine D_p rfl (.plain rfl) (p_move rfl rfl) ?_
                          refine D_p rfl (.plain rfl) (p_idxao ar117 rfl rfl rfl (by omega) (by omega)) ?_
                          refine D_rd rfl (.plain rfl) (r_load ag116 rfl rfl (by repeat first | exact mH | apply mT) rfl) ?_
                          refine D_p rfl (.plain rfl) (p_move rfl rfl) ?_
                          first | refine D_p rfl (.plain rfl) (p_add' rfl rfl rfl (by unfold InI; omega)) ?_ | refine D_p rfl (.plain rfl) (p_add rfl rfl rfl) ?_
                          refine D_p rfl (.plain rfl) (p_idxao ar117 rfl rfl rfl (by omega) (by omega)) ?_
                          refine D_rd rfl (.plain rfl) (r_load ag116 rfl rfl (by repeat first | exact mH | apply mT) rfl) ?_
                          refine D_p rfl (.plain rfl) (p_fieldo fo121_0 rfl rfl) ?_
                          refine D_rd rfl (.plain rfl) (r_loadA (vs := [_, _]) ag24 sz24 rfl rfl (by repeat first | exact mH | apply mT) rfl) ?_
                          refine D_p rfl (.plain rfl) (p_fieldo fo121_0 rfl rfl) ?_
                          refine D_rd rfl (.plain rfl) (r_loadA (vs := [_, _]) ag24 sz24 rfl rfl (by repeat first | exact mH | apply mT) rfl) ?_
                          refine D_p rfl (.plain rfl) (p_nil rfl rfl) ?_
                          refine D_wr (.go (E' := [(6, _)]) rfl (.plain rfl) (w_store (cs' := [_, _, _, _, _, _, _, _, _, _, _, _, _]) sz24 rfl rfl rfl rfl rfl (by repeat first | exact .head | apply SetAt.tail) (Nat.le_of_ble_eq_true rfl) rfl) rfl ?_)
                          rintro _ _ ⟨rfl, rfl⟩
                          refine ⟨(.cons rfl (.plain rfl) (r_load ag116 rfl rfl (by repeat first | exact mH | apply mT) rfl) .nil), ?_⟩
                          refine D_p rfl (.plain rfl) (p_nil rfl rfl) ?_
                          refine D_wr (.go (E' := []) rfl (.plain rfl) (w_store (cs' := [_, _, _, _, _, _, _, _, _, _, _, _, _]) sz24 rfl rfl rfl rfl rfl (by repeat first | exact .head | apply SetAt.tail) (Nat.le_of_ble_eq_true rfl) rfl) rfl ?_)
                          rintro _ _ ⟨rfl, rfl⟩
                          refine ⟨.nil, ?_⟩
                          refine D_keep (.cons (k := 2) rfl (.cons (k := 3) rfl (.cons (k := 4) rfl (.cons (k := 6) rfl (.cons (k := 9) rfl (.cons (k := 42) rfl .nil)))))) (blk_n (then_n ?_))
                          refine V_region rfl ?_
                          first | refine L_go rfl (X_p (p_add' rfl rfl rfl (by unfold InI; omega)) ?_) | refine L_go rfl (X_p (p_add rfl rfl rfl) ?_)
                          refine L_go rfl (X_p (p_move rfl rfl) ?_)
                          refine L_keep (.cons (k := 2) rfl (.cons (k := 3) rfl (.cons (k := 4) rfl (.cons (k := 6) rfl (.cons (k := 9) rfl (.cons (k := 42) rfl .nil)))))) (then_n ?_)
                          refine LU_step ?_
                          refine V_seq (V_region rfl ?_)
                          refine L_go rfl (X_p (p_lss rfl rfl rfl) ?_)
                          refine L_then (.cons (k := 2) rfl (.cons (k := 3) rfl (.cons (k := 4) rfl (.cons (k := 6) rfl (.cons (k := 9) rfl (.cons (k := 42) rfl (.cons (k := 43) rfl .nil))))))) ?_
                          refine V_seq ?_
                          refine V_cond_t rfl rfl ?_
                          refine V_skip (then_n ?_)
                          refine V_seq ?_
                          refine V_block ?_
                          refine V_seq (V_region rfl ?_)
                          refine L_go rfl (X_p (p_move rfl rfl) ?_)
                          refine L_go rfl (X_p (p_assign rfl rfl) ?_)
                          refine L_then (.cons (k := 2) rfl (.cons (k := 3) rfl (.cons (k := 4) rfl (.cons (k := 6) rfl (.cons (k := 9) rfl (.cons (k := 10) rfl (.cons (k := 42) rfl .nil))))))) ?_
                          refine V_mid (γ := Nat × Nat) (.cons (k := 2) rfl (.cons (k := 3) rfl (.cons (k := 4) rfl (.cons (k := 6) rfl (.cons (k := 9) rfl (.cons (k := 10) rfl (.cons (k := 42) rfl .nil))))))) (fun (x11, x12) => [(11, .pointer (some ⟨x11, 0, none⟩)), (12, .pointer (some ⟨x12, 0, none⟩))]) (fun (x11, x12) => (x11, .cells #[.int .i64 b.z.lo, .int .i64 b.z.hi] 121) :: (x12, .cells #[.int .i64 b.vz.lo, .int .i64 b.vz.hi] 121) :: (b5, .cells #[.pointer (some ⟨b2, 1, none⟩), .pointer (some ⟨b2, 3, none⟩), .pointer (some ⟨b2, 5, none⟩), .pointer (some ⟨b2, 7, none⟩), .pointer (some ⟨b2, 9, none⟩), .pointer (some ⟨b2, 11, none⟩)] 117) :: (b3, .cells (Box.cells boxZ).toArray 33) :: (b2, .cells (Box.cells ⟨b.at_ + n, q0, q1, b.z, r0, r1, b.vz⟩).toArray 33) :: (b1, t.obj tv pv 54) :: []) (fun (x11, x12) => True) ?_ ?_
                          · refine V_draw (.rd 0 (.rd 1 (.rd 2 (.rd 3 (.rd 4 (.rd 5 (.rd 6 (.rd 7 (.rd 8 (.rd 9 (.rd 10 (.rd 11 (.rd 12 (.wr2 13 [12, 11, 10, 9, 8, 7, 6, 5, 4, 3, 2, 1, 0] (.wr 14 [12, 11, 10, 9, 8, 7, 6, 5, 4, 3, 2, 1, 0] (.wr 15 [12, 10, 9, 8, 7, 6] (.wr 16 [] .done))) 14 [12, 11, 10, 9, 8, 7, 6, 5, 4, 3, 2, 1, 0] (.wr 13 [12, 11, 10, 9, 8, 7, 6, 5, 4, 3, 2, 1, 0] (.wr 15 [12, 10, 9, 8, 7, 6] (.wr 16 [] .done))))))))))))))))) mixed (by kernel_rfl) rfl ?_
                            refine D_p rfl (.plain rfl) (p_move rfl rfl) ?_
                            refine D_p rfl (.plain rfl) (p_idxao ar117 rfl rfl rfl (by omega) (by omega)) ?_
                            refine D_rd rfl (.plain rfl) (r_load ag116 rfl rfl (by repeat first | exact mH | apply mT) rfl) ?_
                            refine D_p rfl (.plain rfl) (p_nil rfl rfl) ?_
                            refine D_rd rfl (.plain rfl) (r_loadA (vs := [_, _]) ag24 sz24 rfl rfl (by repeat first | exact mH | apply mT) rfl) ?_
                            refine D_p rfl (.plain rfl) (p_build (r := [_, _]) pl121 zr121 rfl rfl rfl) ?_
                            refine D_p rfl (.plain rfl) (p_move rfl rfl) ?_
                            first | refine D_p rfl (.plain rfl) (p_add' rfl rfl rfl (by unfold InI; omega)) ?_ | refine D_p rfl (.plain rfl) (p_add rfl rfl rfl) ?_
                            refine D_p rfl (.plain rfl) (p_idxao ar117 rfl rfl rfl (by omega) (by omega)) ?_
                            refine D_rd rfl (.plain rfl) (r_load ag116 rfl rfl (by repeat first | exact mH | apply mT) rfl) ?_
                            refine D_p rfl (.plain rfl) (p_nil rfl rfl) ?_
                            refine D_rd rfl (.plain rfl) (r_loadA (vs := [_, _]) ag24 sz24 rfl rfl (by repeat first | exact mH | apply mT) rfl) ?_
                            refine D_p rfl (.plain rfl) (p_build (r := [_, _]) pl121 zr121 rfl rfl rfl) ?_
                            refine D_wr2 rfl ?_ ?_
                            · refine (.go (E' := [(11, _), (9, _), (4, _), (2, _)]) rfl (.plain rfl) (w_alloc zr121 rfl) rfl ?_)
                              rintro _ _ ⟨b6, hb6, rfl, rfl⟩
                              refine ⟨(.cons rfl (.plain rfl) (r_loadA (vs := [_, _]) ag24 sz24 rfl rfl (by repeat first | exact mH | apply mT) rfl) (.cons rfl (.plain rfl) (r_load ag116 rfl rfl (by repeat first | exact mH | apply mT) rfl) (.cons rfl (.plain rfl) (r_loadA (vs := [_, _]) ag24 sz24 rfl rfl (by repeat first | exact mH | apply mT) rfl) (.cons rfl (.plain rfl) (r_load ag116 rfl rfl (by repeat first | exact mH | apply mT) rfl) .nil)))), ?_⟩
                              refine D_wr (.go (E' := [(11, _), (9, _), (4, _), (2, _)]) rfl (.plain rfl) (w_alloc zr121 rfl) rfl ?_)
                              rintro _ _ ⟨b7, hb7, rfl, rfl⟩
                              refine ⟨(.cons rfl (.plain rfl) (r_loadA (vs := [_, _]) ag24 sz24 rfl rfl (by repeat first | exact mH | apply mT) rfl) (.cons rfl (.plain rfl) (r_load ag116 rfl rfl (by repeat first | exact mH | apply mT) rfl) (.cons rfl (.plain rfl) (r_loadA (vs := [_, _]) ag24 sz24 rfl rfl (by repeat first | exact mH | apply mT) rfl) (.cons rfl (.plain rfl) (r_load ag116 rfl rfl (by repeat first | exact mH | apply mT) rfl) .nil)))), ?_⟩
                              refine D_wr (.go (E' := [(9, _)]) rfl (.plain rfl) (w_store (cs' := [_, _]) sz121 rfl rfl rfl rfl rfl (by repeat first | exact .head | apply SetAt.tail) (Nat.le_of_ble_eq_true rfl) rfl) rfl ?_)
                              rintro _ _ ⟨rfl, rfl⟩
                              refine ⟨(.cons rfl (.plain rfl) (r_load ag116 rfl rfl (by repeat first | exact mH | apply mT) rfl) .nil), ?_⟩
                              refine D_wr (.go (E' := []) rfl (.plain rfl) (w_store (cs' := [_, _]) sz121 rfl rfl rfl rfl rfl (by repeat first | exact .head | apply SetAt.tail) (Nat.le_of_ble_eq_true rfl) rfl) rfl ?_)
                              rintro _ _ ⟨rfl, rfl⟩
                              refine ⟨.nil, ?_⟩
                              refine D_then (.cons (k := 2) rfl (.cons (k := 3) rfl (.cons (k := 4) rfl (.cons (k := 6) rfl (.cons (k := 9) rfl (.cons (k := 10) rfl (.cons (k := 11) rfl (.cons (k := 12) rfl (.cons (k := 42) rfl .nil))))))))) ?_
                              refine ⟨(b6, b7), trivial, (.cons rfl (.cons rfl (.cons rfl (.cons rfl (.cons rfl (.cons rfl (.cons rfl (.cons rfl (.cons rfl (.nil _)))))))))), (by (try dsimp only); repeat (first | exact HSub.nil _ | refine HSub.take (by repeat first | exact Take.head | apply Take.tail) ?_ | exact HSub.refl _ | refine HSub.drop ?_ | refine HSub.app ?_)), rfl⟩
                            · refine (.go (E' := [(11, _), (9, _), (4, _), (2, _)]) rfl (.plain rfl) (w_alloc zr121 rfl) rfl ?_)
                              rintro _ _ ⟨b6, hb6, rfl, rfl⟩
                              refine ⟨(.cons rfl (.plain rfl) (r_loadA (vs := [_, _]) ag24 sz24 rfl rfl (by repeat first | exact mH | apply mT) rfl) (.cons rfl (.plain rfl) (r_load ag116 rfl rfl (by repeat first | exact mH | apply mT) rfl) (.cons rfl (.plain rfl) (r_loadA (vs := [_, _]) ag24 sz24 rfl rfl (by repeat first | exact mH | apply mT) rfl) (.cons rfl (.plain rfl) (r_load ag116 rfl rfl (by repeat first | exact mH | apply mT) rfl) .nil)))), ?_⟩
                              refine D_wr (.go (E' := [(11, _), (9, _), (4, _), (2, _)]) rfl (.plain rfl) (w_alloc zr121 rfl) rfl ?_)
                              rintro _ _ ⟨b7, hb7, rfl, rfl⟩
                              refine ⟨(.cons rfl (.plain rfl) (r_loadA (vs := [_, _]) ag24 sz24 rfl rfl (by repeat first | exact mH | apply mT) rfl) (.cons rfl (.plain rfl) (r_load ag116 rfl rfl (by repeat first | exact mH | apply mT) rfl) (.cons rfl (.plain rfl) (r_loadA (vs := [_, _]) ag24 sz24 rfl rfl (by repeat first | exact mH | apply mT) rfl) (.cons rfl (.plain rfl) (r_load ag116 rfl rfl (by repeat first | exact mH | apply mT) rfl) .nil)))), ?_⟩
                              refine D_wr (.go (E' := [(9, _)]) rfl (.plain rfl) (w_store (cs' := [_, _]) sz121 rfl rfl rfl rfl rfl (by repeat first | exact .head | apply SetAt.tail) (Nat.le_of_ble_eq_true rfl) rfl) rfl ?_)
                              rintro _ _ ⟨rfl, rfl⟩
                              refine ⟨(.cons rfl (.plain rfl) (r_load ag116 rfl rfl (by repeat first | exact mH | apply mT) rfl) .nil), ?_⟩
                              refine D_wr (.go (E' := []) rfl (.plain rfl) (w_store (cs' := [_, _]) sz121 rfl rfl rfl rfl rfl (by repeat first | exact .head | apply SetAt.tail) (Nat.le_of_ble_eq_true rfl) rfl) rfl ?_)
                              rintro _ _ ⟨rfl, rfl⟩
                              refine ⟨.nil, ?_⟩
                              refine D_then (.cons (k := 2) rfl (.cons (k := 3) rfl (.cons (k := 4) rfl (.cons (k := 6) rfl (.cons (k := 9) rfl (.cons (k := 10) rfl (.cons (k := 11) rfl (.cons (k := 12) rfl (.cons (k := 42) rfl .nil))))))))) ?_
                              refine ⟨(b7, b6), trivial, (.cons rfl (.cons rfl (.cons rfl (.cons rfl (.cons rfl (.cons rfl (.cons rfl (.cons rfl (.cons rfl (.nil _)))))))))), (by (try dsimp only); repeat (first | exact HSub.nil _ | refine HSub.take (by repeat first | exact Take.head | apply Take.tail) ?_ | exact HSub.refl _ | refine HSub.drop ?_ | refine HSub.app ?_)), rfl⟩
                          · rintro ⟨x11, x12⟩ _
                            refine V_seq (V_region rfl ?_)
                            refine L_go rfl (X_p (p_fieldo fo54_1 rfl rfl) ?_)
                            refine L_go rfl (X_rd (r_load ag3 rfl rfl (by repeat first | exact mH | apply mT) rfl) ?_)
                            first | refine L_go rfl (X_p (p_neg' rfl rfl (by unfold InI; omega)) ?_) | refine L_go rfl (X_p (p_neg rfl rfl) ?_)
                            refine L_go rfl (X_p (p_fieldo fo54_1 rfl rfl) ?_)
                            refine L_go rfl (X_rd (r_load ag3 rfl rfl (by repeat first | exact mH | apply mT) rfl) ?_)
                            refine L_go rfl (X_wr (w_callM rfl rfl rfl (fun o' => (by repeat first | exact .head | apply SetAt.tail)) (fun w hg => narrow_c x12 _ _ 121 (-t.speed) t.speed w (hg.own (x12, _) (by repeat first | exact mH | apply mT)))) ?_)
                            rintro _ _ ⟨_, rfl, rfl, rfl⟩
                            refine L_then (.cons (k := 2) rfl (.cons (k := 3) rfl (.cons (k := 4) rfl (.cons (k := 6) rfl (.cons (k := 9) rfl (.cons (k := 10) rfl (.cons (k := 11) rfl (.cons (k := 12) rfl (.cons (k := 42) rfl .nil))))))))) ?_
                            refine V_seq ?_
                            refine V_seq (V_region rfl ?_)
                            refine L_go rfl (X_p (p_move rfl rfl) ?_)
                            refine L_go rfl (X_p (p_move rfl rfl) ?_)
                            refine L_then (.cons (k := 2) rfl (.cons (k := 3) rfl (.cons (k := 4) rfl (.cons (k := 6) rfl (.cons (k := 9) rfl (.cons (k := 10) rfl (.cons (k := 11) rfl (.cons (k := 12) rfl (.cons (k := 42) rfl (.cons (k := 64) rfl (.cons (k := 65) rfl .nil))))))))))) ?_
                            refine V_midT (γ := Span × Span) (.cons (k := 2) rfl (.cons (k := 3) rfl (.cons (k := 4) rfl (.cons (k := 6) rfl (.cons (k := 9) rfl (.cons (k := 10) rfl (.cons (k := 11) rfl (.cons (k := 12) rfl (.cons (k := 42) rfl .nil))))))))) (fun (q2, r2) => []) (fun (q2, r2) => (x11, .cells #[.int .i64 q2.lo, .int .i64 q2.hi] 121) :: (x12, .cells #[.int .i64 r2.lo, .int .i64 r2.hi] 121) :: (b5, .cells #[.pointer (some ⟨b2, 1, none⟩), .pointer (some ⟨b2, 3, none⟩), .pointer (some ⟨b2, 5, none⟩), .pointer (some ⟨b2, 7, none⟩), .pointer (some ⟨b2, 9, none⟩), .pointer (some ⟨b2, 11, none⟩)] 117) :: (b3, .cells (Box.cells boxZ).toArray 33) :: (b2, .cells (Box.cells ⟨b.at_ + n, q0, q1, b.z, r0, r1, b.vz⟩).toArray 33) :: (b1, t.obj tv pv 54) :: []) (fun (q2, r2) => Met (aheadS t n b.z b.vz) q2 r2) ?_ ?_
                            · refine V_block ?_
                              refine V_loop1 (γ := Int × Span × Span) (.cons (k := 2) rfl (.cons (k := 3) rfl (.cons (k := 4) rfl (.cons (k := 6) rfl (.cons (k := 9) rfl (.cons (k := 10) rfl (.cons (k := 11) rfl (.cons (k := 12) rfl (.cons (k := 42) rfl (.cons (k := 64) rfl .nil)))))))))) (fun (k, p, v) => [(65, .int .i64 k)]) (fun (k, p, v) => (x11, .cells #[.int .i64 p.lo, .int .i64 p.hi] 121) :: (x12, .cells #[.int .i64 v.lo, .int .i64 v.hi] 121) :: (b5, .cells #[.pointer (some ⟨b2, 1, none⟩), .pointer (some ⟨b2, 3, none⟩), .pointer (some ⟨b2, 5, none⟩), .pointer (some ⟨b2, 7, none⟩), .pointer (some ⟨b2, 9, none⟩), .pointer (some ⟨b2, 11, none⟩)] 117) :: (b3, .cells (Box.cells boxZ).toArray 33) :: (b2, .cells (Box.cells ⟨b.at_ + n, q0, q1, b.z, r0, r1, b.vz⟩).toArray 33) :: (b1, t.obj tv pv 54) :: []) (fun (k, p, v) => 0 ≤ k ∧ k ≤ n ∧ aheadS t n b.z b.vz = aheadN t (n - k).toNat p v ∧ okS 2000000000 p ∧ SpanB 1000000 v) (fun (k, p, v) => (n - k).toNat) ((0, b.z, common b.vz (room0 t.speed))) (.cons rfl (.nil _)) (by repeat (first | exact List.nil_sublist _ | exact List.Sublist.refl _ | apply List.Sublist.cons_cons | apply List.Sublist.cons)) (⟨by omega, by omega, by rw [Int.sub_zero]; rfl, by unfold okS; omega, by simp only [SpanB, common, room0]; omega⟩) ?_
                              rintro ⟨k, p, v⟩ hi
                              obtain ⟨hk0, hk1, hah, hp, hv⟩ := hi
                              have hpn : p.none = false := by simp only [Span.none, decide_eq_false_iff_not]; unfold okS at hp; omega
                              unfold okS at hp
                              unfold SpanB at hv
                              refine V_seq (V_region rfl ?_)
                              refine L_go rfl (X_p (p_lss rfl rfl rfl) ?_)
                              refine L_then (.cons (k := 2) rfl (.cons (k := 3) rfl (.cons (k := 4) rfl (.cons (k := 6) rfl (.cons (k := 9) rfl (.cons (k := 10) rfl (.cons (k := 11) rfl (.cons (k := 12) rfl (.cons (k := 42) rfl (.cons (k := 64) rfl (.cons (k := 65) rfl (.cons (k := 66) rfl .nil)))))))))))) ?_
                              refine V_seq ?_
                              refine V_cond rfl ?_ ?_
                              · intro c12; have c12r := c12; try simp only [td] at c12
                                refine V_skip (then_n ?_)
                                refine V_seq ?_
                                refine V_block ?_
                                refine V_seq ?_
                                refine V_seq (V_region rfl ?_)
                                refine L_go rfl (X_wr (w_callP rfl rfl rfl (fun w hg => empty_c x12 _ _ 121 w (hg.own (x12, _) (by repeat first | exact mH | apply mT)))) ?_)
                                rintro _ _ ⟨rfl, rfl⟩
                                refine L_then (.cons (k := 2) rfl (.cons (k := 3) rfl (.cons (k := 4) rfl (.cons (k := 6) rfl (.cons (k := 9) rfl (.cons (k := 10) rfl (.cons (k := 11) rfl (.cons (k := 12) rfl (.cons (k := 42) rfl (.cons (k := 64) rfl (.cons (k := 65) rfl (.cons (k := 67) rfl .nil)))))))))))) ?_
                                refine V_cond rfl ?_ ?_
                                · intro c13; have c13r := c13; try simp only [td] at c13
                                  refine V_exit (then_e (blk_o rfl (then_e (then_e (blk_e rfl (then_n ?_))))))
                                  refine ⟨(p, v), ?_, (.cons rfl (.cons rfl (.cons rfl (.cons rfl (.cons rfl (.cons rfl (.cons rfl (.cons rfl (.cons rfl (.nil _)))))))))), (by (try dsimp only); repeat (first | exact HSub.nil _ | refine HSub.take (by repeat first | exact Take.head | apply Take.tail) ?_ | exact HSub.refl _ | refine HSub.drop ?_ | refine HSub.app ?_)), rfl⟩
                                  exact met_v hah c13
                                · intro c13; have c13r := c13; try simp only [td] at c13
                                  refine V_skip (then_n ?_)
                                  refine V_seq (V_region rfl ?_)
                                  refine L_go rfl (X_p (p_fieldo fo121_0 rfl rfl) ?_)
                                  refine L_go rfl (X_p (p_fieldo fo24_0 rfl rfl) ?_)
                                  refine L_go rfl (X_rd (r_load ag3 rfl rfl (by repeat first | exact mH | apply mT) rfl) ?_)
                                  refine L_go rfl (X_p (p_fieldo fo121_0 rfl rfl) ?_)
                                  refine L_go rfl (X_p (p_fieldo fo24_0 rfl rfl) ?_)
                                  refine L_go rfl (X_rd (r_load ag3 rfl rfl (by repeat first | exact mH | apply mT) rfl) ?_)
                                  first | refine L_go rfl (X_p (p_add' rfl rfl rfl (by unfold InI; omega)) ?_) | refine L_go rfl (X_p (p_add rfl rfl rfl) ?_)
                                  refine L_go rfl (X_p (p_fieldo fo121_0 rfl rfl) ?_)
                                  refine L_go rfl (X_p (p_fieldo fo24_1 rfl rfl) ?_)
                                  refine L_go rfl (X_rd (r_load ag3 rfl rfl (by repeat first | exact mH | apply mT) rfl) ?_)
                                  refine L_go rfl (X_p (p_fieldo fo121_0 rfl rfl) ?_)
                                  refine L_go rfl (X_p (p_fieldo fo24_1 rfl rfl) ?_)
                                  refine L_go rfl (X_rd (r_load ag3 rfl rfl (by repeat first | exact mH | apply mT) rfl) ?_)
                                  first | refine L_go rfl (X_p (p_add' rfl rfl rfl (by unfold InI; omega)) ?_) | refine L_go rfl (X_p (p_add rfl rfl rfl) ?_)
                                  refine L_go rfl (X_p (p_fieldo fo121_0 rfl rfl) ?_)
                                  refine L_go rfl (X_p (p_fieldo fo24_0 rfl rfl) ?_)
                                  refine L_go rfl (X_wr (w_store (cs' := [_, _]) sz3 rfl rfl rfl rfl rfl (by repeat first | exact .head | apply SetAt.tail) (Nat.le_of_ble_eq_true rfl) rfl) ?_)
                                  rintro _ _ ⟨rfl, rfl⟩
                                  refine L_go rfl (X_p (p_fieldo fo121_0 rfl rfl) ?_)
                                  refine L_go rfl (X_p (p_fieldo fo24_1 rfl rfl) ?_)
                                  refine L_go rfl (X_wr (w_store (cs' := [_, _]) sz3 rfl rfl rfl rfl rfl (by repeat first | exact .head | apply SetAt.tail) (Nat.le_of_ble_eq_true rfl) rfl) ?_)
                                  rintro _ _ ⟨rfl, rfl⟩
                                  refine L_then (.cons (k := 2) rfl (.cons (k := 3) rfl (.cons (k := 4) rfl (.cons (k := 6) rfl (.cons (k := 9) rfl (.cons (k := 10) rfl (.cons (k := 11) rfl (.cons (k := 12) rfl (.cons (k := 42) rfl (.cons (k := 64) rfl (.cons (k := 65) rfl .nil))))))))))) ?_
                                  refine V_seq (V_region rfl ?_)
                                  refine L_go rfl (X_wr (w_callM rfl rfl rfl (fun o' => (by repeat first | exact .head | apply SetAt.tail)) (fun w hg => narrow_c x11 _ _ 121 (-2000000000) 2000000000 w (hg.own (x11, _) (by repeat first | exact mH | apply mT)))) ?_)
                                  rintro _ _ ⟨_, rfl, rfl, rfl⟩
                                  refine L_then (.cons (k := 2) rfl (.cons (k := 3) rfl (.cons (k := 4) rfl (.cons (k := 6) rfl (.cons (k := 9) rfl (.cons (k := 10) rfl (.cons (k := 11) rfl (.cons (k := 12) rfl (.cons (k := 42) rfl (.cons (k := 64) rfl (.cons (k := 65) rfl .nil))))))))))) ?_
                                  refine V_seq ?_
                                  refine V_seq (V_region rfl ?_)
                                  refine L_go rfl (X_wr (w_callP rfl rfl rfl (fun w hg => empty_c x11 _ _ 121 w (hg.own (x11, _) (by repeat first | exact mH | apply mT)))) ?_)
                                  rintro _ _ ⟨rfl, rfl⟩
                                  refine L_then (.cons (k := 2) rfl (.cons (k := 3) rfl (.cons (k := 4) rfl (.cons (k := 6) rfl (.cons (k := 9) rfl (.cons (k := 10) rfl (.cons (k := 11) rfl (.cons (k := 12) rfl (.cons (k := 42) rfl (.cons (k := 64) rfl (.cons (k := 65) rfl (.cons (k := 87) rfl .nil)))))))))))) ?_
                                  refine V_cond rfl ?_ ?_
                                  · intro c14; have c14r := c14; try simp only [td] at c14
                                    refine V_exit (then_e (blk_o rfl (then_e (then_e (blk_e rfl (then_n ?_))))))
                                    refine ⟨(stepP p v, v), ?_, (.cons rfl (.cons rfl (.cons rfl (.cons rfl (.cons rfl (.cons rfl (.cons rfl (.cons rfl (.cons rfl (.nil _)))))))))), (by (try dsimp only); repeat (first | exact HSub.nil _ | refine HSub.take (by repeat first | exact Take.head | apply Take.tail) ?_ | exact HSub.refl _ | refine HSub.drop ?_ | refine HSub.app ?_)), rfl⟩
                                    exact met_p (hah.trans (aheadN_go ⟨hk0, by omega⟩ hpn c13)) c14
                                  · intro c14; have c14r := c14; try simp only [td] at c14
                                    refine V_skip (then_n ?_)
                                    refine V_seq (V_draw (.rd 0 (.rd 1 (.rd 2 (.rd 3 (.rd 4 (.rd 5 (.rd 6 (.rd 7 (.rd 8 (.rd 9 (.rd 10 (.rd 11 (.rd 12 (.rd 13 (.wr 14 [12, 11, 10, 9, 7, 6] (.rd 15 (.rd 16 (.wr 17 [15] .done)))))))))))))))))) mixed (by kernel_rfl) rfl ?_)
                                    refine D_p rfl (.plain rfl) (p_fieldo fo121_0 rfl rfl) ?_
                                    refine D_p rfl (.plain rfl) (p_fieldo fo24_0 rfl rfl) ?_
                                    refine D_rd rfl (.plain rfl) (r_load ag3 rfl rfl (by repeat first | exact mH | apply mT) rfl) ?_
                                    refine D_p rfl (.plain rfl) (p_fieldo fo54_2 rfl rfl) ?_
                                    refine D_rd rfl (.plain rfl) (r_load ag3 rfl rfl (by repeat first | exact mH | apply mT) rfl) ?_
                                    first | refine D_p rfl (.plain rfl) (p_sub' rfl rfl rfl (by unfold InI; omega)) ?_ | refine D_p rfl (.plain rfl) (p_sub rfl rfl rfl) ?_
                                    refine D_p rfl (.plain rfl) (p_fieldo fo121_0 rfl rfl) ?_
                                    refine D_p rfl (.plain rfl) (p_fieldo fo24_1 rfl rfl) ?_
                                    refine D_rd rfl (.plain rfl) (r_load ag3 rfl rfl (by repeat first | exact mH | apply mT) rfl) ?_
                                    refine D_p rfl (.plain rfl) (p_fieldo fo54_2 rfl rfl) ?_
                                    refine D_rd rfl (.plain rfl) (r_load ag3 rfl rfl (by repeat first | exact mH | apply mT) rfl) ?_
                                    first | refine D_p rfl (.plain rfl) (p_add' rfl rfl rfl (by unfold InI; omega)) ?_ | refine D_p rfl (.plain rfl) (p_add rfl rfl rfl) ?_
                                    refine D_p rfl (.plain rfl) (p_fieldo fo121_0 rfl rfl) ?_
                                    refine D_p rfl (.plain rfl) (p_fieldo fo24_0 rfl rfl) ?_
                                    refine D_wr (.go (E' := [(10, _)]) rfl (.plain rfl) (w_store (cs' := [_, _]) sz3 rfl rfl rfl rfl rfl (by repeat first | exact .head | apply SetAt.tail) (Nat.le_of_ble_eq_true rfl) rfl) rfl ?_)
                                    rintro _ _ ⟨rfl, rfl⟩
                                    refine ⟨(.cons rfl (.plain rfl) (r_load ag3 rfl rfl (by repeat first | exact mH | apply mT) rfl) .nil), ?_⟩
                                    refine D_p rfl (.plain rfl) (p_fieldo fo121_0 rfl rfl) ?_
                                    refine D_p rfl (.plain rfl) (p_fieldo fo24_1 rfl rfl) ?_
                                    refine D_wr (.go (E' := []) rfl (.plain rfl) (w_store (cs' := [_, _]) sz3 rfl rfl rfl rfl rfl (by repeat first | exact .head | apply SetAt.tail) (Nat.le_of_ble_eq_true rfl) rfl) rfl ?_)
                                    rintro _ _ ⟨rfl, rfl⟩
                                    refine ⟨.nil, ?_⟩
                                    refine D_then (.cons (k := 2) rfl (.cons (k := 3) rfl (.cons (k := 4) rfl (.cons (k := 6) rfl (.cons (k := 9) rfl (.cons (k := 10) rfl (.cons (k := 11) rfl (.cons (k := 12) rfl (.cons (k := 42) rfl (.cons (k := 64) rfl (.cons (k := 65) rfl .nil))))))))))) ?_
                                    refine V_region rfl ?_
                                    refine L_go rfl (X_p (p_fieldo fo54_1 rfl rfl) ?_)
                                    refine L_go rfl (X_rd (r_load ag3 rfl rfl (by repeat first | exact mH | apply mT) rfl) ?_)
                                    first | refine L_go rfl (X_p (p_neg' rfl rfl (by unfold InI; omega)) ?_) | refine L_go rfl (X_p (p_neg rfl rfl) ?_)
                                    refine L_go rfl (X_p (p_fieldo fo54_1 rfl rfl) ?_)
                                    refine L_go rfl (X_rd (r_load ag3 rfl rfl (by repeat first | exact mH | apply mT) rfl) ?_)
                                    refine L_go rfl (X_wr (w_callM rfl rfl rfl (fun o' => (by repeat first | exact .head | apply SetAt.tail)) (fun w hg => narrow_c x12 _ _ 121 (-t.speed) t.speed w (hg.own (x12, _) (by repeat first | exact mH | apply mT)))) ?_)
                                    rintro _ _ ⟨_, rfl, rfl, rfl⟩
                                    refine L_keep (.cons (k := 2) rfl (.cons (k := 3) rfl (.cons (k := 4) rfl (.cons (k := 6) rfl (.cons (k := 9) rfl (.cons (k := 10) rfl (.cons (k := 11) rfl (.cons (k := 12) rfl (.cons (k := 42) rfl (.cons (k := 64) rfl (.cons (k := 65) rfl .nil))))))))))) (blk_n (then_n ?_))
                                    refine V_region rfl ?_
                                    first | refine L_go rfl (X_p (p_add' rfl rfl rfl (by unfold InI; omega)) ?_) | refine L_go rfl (X_p (p_add rfl rfl rfl) ?_)
                                    refine L_go rfl (X_p (p_move rfl rfl) ?_)
                                    refine L_keep (.cons (k := 2) rfl (.cons (k := 3) rfl (.cons (k := 4) rfl (.cons (k := 6) rfl (.cons (k := 9) rfl (.cons (k := 10) rfl (.cons (k := 11) rfl (.cons (k := 12) rfl (.cons (k := 42) rfl (.cons (k := 64) rfl (.cons (k := 65) rfl .nil))))))))))) (then_n ?_)
                                    refine ⟨(k + 1, stepP p v, stepV t v), ?_, ?_, (.cons rfl (.cons rfl (.cons rfl (.cons rfl (.cons rfl (.cons rfl (.cons rfl (.cons rfl (.cons rfl (.cons rfl (.cons rfl (.nil _)))))))))))), (by repeat (first | exact List.nil_sublist _ | exact List.Sublist.refl _ | apply List.Sublist.cons_cons | apply List.Sublist.cons | apply List.sublist_append_of_sublist_right)), rfl⟩
                                    · refine ⟨by omega, by omega, hah.trans (aheadN_go ⟨hk0, by omega⟩ hpn c13), ?_, ?_⟩
                                      · have h5 := none_false c14
                                        simp only [stepP, common, room0] at h5
                                        simp only [okS, stepP, common, room0]; omega
                                      · simp only [SpanB, stepV, common, room0]; omega
                                    · dsimp only; omega
                              · intro c12; have c12r := c12; try simp only [td] at c12
                                refine V_exit (then_e (then_e (blk_e rfl (then_n ?_))))
                                refine ⟨(p, v), ?_, (.cons rfl (.cons rfl (.cons rfl (.cons rfl (.cons rfl (.cons rfl (.cons rfl (.cons rfl (.cons rfl (.nil _)))))))))), (by (try dsimp only); repeat (first | exact HSub.nil _ | refine HSub.take (by repeat first | exact Take.head | apply Take.tail) ?_ | exact HSub.refl _ | refine HSub.drop ?_ | refine HSub.app ?_)), rfl⟩
                                exact met_end hah (by omega) hpn
                            · rintro ⟨q2, r2⟩ hm2
                              refine V_seq ?_
                              refine V_seq (V_region rfl ?_)
                              refine L_go rfl (X_wr (w_callP rfl rfl rfl (fun w hg => empty_c x11 _ _ 121 w (hg.own (x11, _) (by repeat first | exact mH | apply mT)))) ?_)
                              rintro _ _ ⟨rfl, rfl⟩
                              refine L_go rfl (X_p (p_move rfl rfl) ?_)
                              refine L_cases (d := 112) rfl ?_ ?_
                              · intro g4; have g4' := g4; try simp only [td] at g4'
                                refine L_no rfl rfl rfl g4 ?_
                                refine L_go rfl (X_p (p_pick_t rfl rfl g4 rfl) ?_)
                                refine L_then (.cons (k := 2) rfl (.cons (k := 3) rfl (.cons (k := 4) rfl (.cons (k := 6) rfl (.cons (k := 9) rfl (.cons (k := 10) rfl (.cons (k := 11) rfl (.cons (k := 12) rfl (.cons (k := 42) rfl (.cons (k := 114) rfl .nil)))))))))) ?_
                                refine V_cond_t rfl rfl ?_
                                refine V_seq (V_region rfl ?_)
                                refine L_go rfl (X_p (p_build (r := [_, _, _, _, _, _, _, _, _, _, _, _, _]) pl33 zr33 rfl rfl rfl) ?_)
                                refine L_go rfl (X_wr (w_store (cs' := [_, _, _, _, _, _, _, _, _, _, _, _, _]) sz33 rfl rfl rfl rfl rfl (by repeat first | exact .head | apply SetAt.tail) (Nat.le_of_ble_eq_true rfl) rfl) ?_)
                                rintro _ _ ⟨rfl, rfl⟩
                                refine L_go rfl (X_p (p_assign rfl rfl) ?_)
                                refine L_then (.cons (k := 6) rfl (.cons (k := 7) rfl .nil)) ?_
                                refine V_ret (then_r (blk_r (then_r (then_r (blk_r (then_r ?_))))))
                                refine Leave.nil (.cellA (us := [_, _, _, _, _, _, _, _, _, _, _, _, _]) rfl ag33 sz33 (by repeat first | exact mH | apply mT) rfl (.tmp rfl .nil)) ?_
                                rw [aheadP_ok he, foundP_none (aheadB_2 (hm0.yes g2' c7) (hm1.yes g3' c11) (hm2.no (.inl g4')))]; rfl
                              · intro g4; have g4' := g4; try simp only [td] at g4'
                                refine L_yes rfl rfl rfl g4 (X_wr (w_callP rfl rfl rfl (fun w hg => empty_c x12 _ _ 121 w (hg.own (x12, _) (by repeat first | exact mH | apply mT)))) ?_)
                                rintro _ _ ⟨rfl, rfl⟩
                                refine L_go rfl (X_p (p_pick_f rfl rfl g4 rfl) ?_)
                                refine L_then (.cons (k := 2) rfl (.cons (k := 3) rfl (.cons (k := 4) rfl (.cons (k := 6) rfl (.cons (k := 9) rfl (.cons (k := 10) rfl (.cons (k := 11) rfl (.cons (k := 12) rfl (.cons (k := 42) rfl (.cons (k := 114) rfl .nil)))))))))) ?_
                                refine V_cond rfl ?_ ?_
                                · intro c15; have c15r := c15; try simp only [td] at c15
                                  refine V_seq (V_region rfl ?_)
                                  refine L_go rfl (X_p (p_build (r := [_, _, _, _, _, _, _, _, _, _, _, _, _]) pl33 zr33 rfl rfl rfl) ?_)
                                  refine L_go rfl (X_wr (w_store (cs' := [_, _, _, _, _, _, _, _, _, _, _, _, _]) sz33 rfl rfl rfl rfl rfl (by repeat first | exact .head | apply SetAt.tail) (Nat.le_of_ble_eq_true rfl) rfl) ?_)
                                  rintro _ _ ⟨rfl, rfl⟩
                                  refine L_go rfl (X_p (p_assign rfl rfl) ?_)
                                  refine L_then (.cons (k := 6) rfl (.cons (k := 7) rfl .nil)) ?_
                                  refine V_ret (then_r (blk_r (then_r (then_r (blk_r (then_r ?_))))))
                                  refine Leave.nil (.cellA (us := [_, _, _, _, _, _, _, _, _, _, _, _, _]) rfl ag33 sz33 (by repeat first | exact mH | apply mT) rfl (.tmp rfl .nil)) ?_
                                  rw [aheadP_ok he, foundP_none (aheadB_2 (hm0.yes g2' c7) (hm1.yes g3' c11) (hm2.no (.inr c15)))]; rfl
                                · intro c15; have c15r := c15; try simp only [td] at c15
                                  refine V_skip (then_n ?_)
                                  refine V_draw (.rd 0 (.rd 1 (.rd 2 (.rd 3 (.rd 4 (.rd 5 (.rd 6 (.rd 7 (.rd 8 (.rd 9 (.rd 10 (.rd 11 (.wr 12 [9, 6, 5, 4, 3] (.rd 13 (.wr 14 [] .done))))))))))))))) mixed (by kernel_rfl) rfl ?_
                                  refine D_p rfl (.plain rfl) (p_move rfl rfl) ?_
                                  refine D_p rfl (.plain rfl) (p_idxao ar117 rfl rfl rfl (by omega) (by omega)) ?_
                                  refine D_rd rfl (.plain rfl) (r_load ag116 rfl rfl (by repeat first | exact mH | apply mT) rfl) ?_
                                  refine D_p rfl (.plain rfl) (p_move rfl rfl) ?_
                                  first | refine D_p rfl (.plain rfl) (p_add' rfl rfl rfl (by unfold InI; omega)) ?_ | refine D_p rfl (.plain rfl) (p_add rfl rfl rfl) ?_
                                  refine D_p rfl (.plain rfl) (p_idxao ar117 rfl rfl rfl (by omega) (by omega)) ?_
                                  refine D_rd rfl (.plain rfl) (r_load ag116 rfl rfl (by repeat first | exact mH | apply mT) rfl) ?_
                                  refine D_p rfl (.plain rfl) (p_fieldo fo121_0 rfl rfl) ?_
                                  refine D_rd rfl (.plain rfl) (r_loadA (vs := [_, _]) ag24 sz24 rfl rfl (by repeat first | exact mH | apply mT) rfl) ?_
                                  refine D_p rfl (.plain rfl) (p_fieldo fo121_0 rfl rfl) ?_
                                  refine D_rd rfl (.plain rfl) (r_loadA (vs := [_, _]) ag24 sz24 rfl rfl (by repeat first | exact mH | apply mT) rfl) ?_
                                  refine D_p rfl (.plain rfl) (p_nil rfl rfl) ?_
                                  refine D_wr (.go (E' := [(6, _)]) rfl (.plain rfl) (w_store (cs' := [_, _, _, _, _, _, _, _, _, _, _, _, _]) sz24 rfl rfl rfl rfl rfl (by repeat first | exact .head | apply SetAt.tail) (Nat.le_of_ble_eq_true rfl) rfl) rfl ?_)
                                  rintro _ _ ⟨rfl, rfl⟩
                                  refine ⟨(.cons rfl (.plain rfl) (r_load ag116 rfl rfl (by repeat first | exact mH | apply mT) rfl) .nil), ?_⟩
                                  refine D_p rfl (.plain rfl) (p_nil rfl rfl) ?_
                                  refine D_wr (.go (E' := []) rfl (.plain rfl) (w_store (cs' := [_, _, _, _, _, _, _, _, _, _, _, _, _]) sz24 rfl rfl rfl rfl rfl (by repeat first | exact .head | apply SetAt.tail) (Nat.le_of_ble_eq_true rfl) rfl) rfl ?_)
                                  rintro _ _ ⟨rfl, rfl⟩
                                  refine ⟨.nil, ?_⟩
                                  refine D_keep (.cons (k := 2) rfl (.cons (k := 3) rfl (.cons (k := 4) rfl (.cons (k := 6) rfl (.cons (k := 9) rfl (.cons (k := 42) rfl .nil)))))) (blk_n (then_n ?_))
                                  refine V_region rfl ?_
                                  first | refine L_go rfl (X_p (p_add' rfl rfl rfl (by unfold InI; omega)) ?_) | refine L_go rfl (X_p (p_add rfl rfl rfl) ?_)
                                  refine L_go rfl (X_p (p_move rfl rfl) ?_)
                                  refine L_keep (.cons (k := 2) rfl (.cons (k := 3) rfl (.cons (k := 4) rfl (.cons (k := 6) rfl (.cons (k := 9) rfl (.cons (k := 42) rfl .nil)))))) (then_n ?_)
                                  refine LU_step ?_
                                  refine V_seq (V_region rfl ?_)
                                  refine L_go rfl (X_p (p_lss rfl rfl rfl) ?_)
                                  refine L_then (.cons (k := 2) rfl (.cons (k := 3) rfl (.cons (k := 4) rfl (.cons (k := 6) rfl (.cons (k := 9) rfl (.cons (k := 42) rfl (.cons (k := 43) rfl .nil))))))) ?_
                                  refine V_seq ?_
                                  refine V_cond_f rfl rfl ?_
                                  refine V_exit (then_e (then_e (blk_e rfl (then_n ?_))))
                                  refine V_seq (V_region rfl ?_)
                                  refine L_go rfl (X_rd (r_loadA (vs := [_, _, _, _, _, _, _, _, _, _, _, _, _]) ag33 sz33 rfl rfl (by repeat first | exact mH | apply mT) rfl) ?_)
                                  refine L_go rfl (X_wr (w_store (cs' := [_, _, _, _, _, _, _, _, _, _, _, _, _]) sz33 rfl rfl rfl rfl rfl (by repeat first | exact .head | apply SetAt.tail) (Nat.le_of_ble_eq_true rfl) rfl) ?_)
                                  rintro _ _ ⟨rfl, rfl⟩
                                  refine L_go rfl (X_p (p_assign rfl rfl) ?_)
                                  refine L_then (.cons (k := 6) rfl (.cons (k := 7) rfl .nil)) ?_
                                  refine V_ret ?_
                                  refine Leave.nil (.cellA (us := [_, _, _, _, _, _, _, _, _, _, _, _, _]) rfl ag33 sz33 (by repeat first | exact mH | apply mT) rfl (.tmp rfl .nil)) ?_
                                  rw [aheadP_ok he, foundP_some (aheadB_3 (hm0.yes g2' c7) (hm1.yes g3' c11) (hm2.yes g4' c15))]; rfl
  · intro c1; have c1r := c1; try simp only [td] at c1
    refine V_skip (then_n ?_)
    refine V_seq ?_
    refine V_block ?_
    refine V_seq (V_region rfl ?_)
    refine L_go rfl (X_p (p_move rfl rfl) ?_)
    refine L_go rfl (X_p (p_neq rfl rfl rfl) ?_)
    refine L_go rfl (X_p (p_assign rfl rfl) ?_)
    refine L_then (.cons (k := 2) rfl (.cons (k := 3) rfl (.cons (k := 4) rfl (.cons (k := 6) rfl (.cons (k := 8) rfl (.cons (k := 19) rfl .nil)))))) ?_
    refine V_cond_t rfl (by simp [c1]) ?_
    refine V_seq (V_region rfl ?_)
    refine L_go rfl (X_p (p_build (r := [_, _, _, _, _, _, _, _, _, _, _, _, _]) pl33 zr33 rfl rfl rfl) ?_)
    refine L_go rfl (X_p (p_move rfl rfl) ?_)
    refine L_go rfl (X_wr (w_store (cs' := [_, _, _, _, _, _, _, _, _, _, _, _, _]) sz33 rfl rfl rfl rfl rfl (by repeat first | exact .head | apply SetAt.tail) (Nat.le_of_ble_eq_true rfl) rfl) ?_)
    rintro _ _ ⟨rfl, rfl⟩
    refine L_go rfl (X_p (p_assign rfl rfl) ?_)
    refine L_then (.cons (k := 6) rfl (.cons (k := 7) rfl .nil)) ?_
    refine V_ret (blk_r (then_r ?_))
    refine Leave.nil (.cellA (us := [_, _, _, _, _, _, _, _, _, _, _, _, _]) rfl ag33 sz33 (by repeat first | exact mH | apply mT) rfl (.tmp rfl .nil)) ?_
    rw [aheadP_bad (aheadE_1 c1) c1]; rfl

end Go.Proofs.YtlcccpeelombbaaDoor

/- YtlcccpeelombbaaDoor: Fall; lines are measured. -/
set_option linter.all false
namespace Go.Proofs.YtlcccpeelombbaaDoor
open Go.Vc Go.Tk Go.De
set_option maxRecDepth 100000
set_option maxHeartbeats 4000000 in
theorem dFall_c (b : Box) (p : De.Plan) (pv : Value) (aF aL : Addr) (w : World) (hE : ErrR w 0 1 188 aF aL)  (hp : PlanR w pv p) : FnP Tryd.prog 13 [pv, .agg (Box.cells b).toArray] w (.tuple #[.agg #[.int .i64 (De.fallP p b).x.lo, .int .i64 (De.fallP p b).x.hi, .int .i64 (De.fallP p b).y.lo, .int .i64 (De.fallP p b).y.hi], .agg #[.int .i64 (De.fallP p b).at_.lo, .int .i64 (De.fallP p b).at_.hi], .int .i64 (De.fallP p b).e]) := by
  have hP := hp
  obtain ⟨lv, rfl, hls⟩ := hp.ex
  have hlen := hp.len
  refine fn_pure Tryd.func13 rfl (by kernel_rfl) Tryd.ntmps13 Tryd.results13 rfl ?_
  refine V_seq (V_region rfl ?_)
  refine L_go rfl (X_wr (w_box rfl rfl) ?_)
  rintro _ _ ⟨b1, hb1, rfl, rfl⟩
  refine L_go rfl (X_wr (w_box rfl rfl) ?_)
  rintro _ _ ⟨b2, hb2, rfl, rfl⟩
  refine L_go rfl (X_wr (w_alloc zr36 rfl) ?_)
  rintro _ _ ⟨b3, hb3, rfl, rfl⟩
  refine L_go rfl (X_wr (w_alloc zr24 rfl) ?_)
  rintro _ _ ⟨b4, hb4, rfl, rfl⟩
  refine L_go rfl (X_p (p_assign rfl rfl) ?_)
  refine L_then (.cons (k := 2) rfl (.cons (k := 3) rfl (.cons (k := 4) rfl (.cons (k := 5) rfl .nil)))) ?_
  refine V_seq (V_region rfl ?_)
  refine L_go rfl (X_rd (r_loadA (vs := [_, _, _, _, _]) ag26 sz26 rfl rfl (by repeat first | exact mH | apply mT) rfl) ?_)
  refine L_go rfl (X_wr (w_callP rfl rfl rfl (fun w hg => dvalid_c p _ w (hP.good hg))) ?_)
  rintro _ _ ⟨rfl, rfl⟩
  refine L_go rfl (X_p (p_assign rfl rfl) ?_)
  refine L_then (.cons (k := 2) rfl (.cons (k := 3) rfl (.cons (k := 4) rfl (.cons (k := 5) rfl (.cons (k := 6) rfl .nil))))) ?_
  refine V_seq ?_
  refine V_seq (V_region rfl ?_)
  refine L_go rfl (X_p (p_move rfl rfl) ?_)
  refine L_go rfl (X_p (p_eql rfl rfl rfl) ?_)
  refine L_then (.cons (k := 2) rfl (.cons (k := 3) rfl (.cons (k := 4) rfl (.cons (k := 5) rfl (.cons (k := 6) rfl (.cons (k := 11) rfl .nil)))))) ?_
  refine V_cond rfl ?_ ?_
  · intro c1; try simp only [td] at c1
    have hpe := c1
    refine V_region rfl ?_
    refine L_go rfl (X_rd (r_loadA (vs := [_, _, _, _, _, _, _, _, _, _, _, _, _]) ag33 sz33 rfl rfl (by repeat first | exact mH | apply mT) rfl) ?_)
    refine L_go rfl (X_wr (w_callP rfl rfl rfl (fun w hg => checkbox_c b w)) ?_)
    rintro _ _ ⟨rfl, rfl⟩
    refine L_go rfl (X_p (p_assign rfl rfl) ?_)
    refine L_then (.cons (k := 2) rfl (.cons (k := 3) rfl (.cons (k := 4) rfl (.cons (k := 5) rfl (.cons (k := 6) rfl .nil))))) ?_
    refine V_seq ?_
    refine V_seq (V_region rfl ?_)
    refine L_go rfl (X_p (p_move rfl rfl) ?_)
    refine L_go rfl (X_p (p_neq rfl rfl rfl) ?_)
    refine L_then (.cons (k := 2) rfl (.cons (k := 3) rfl (.cons (k := 4) rfl (.cons (k := 5) rfl (.cons (k := 6) rfl (.cons (k := 15) rfl .nil)))))) ?_
    refine V_cond rfl ?_ ?_
    · intro c2; try simp only [td] at c2
      have hq := c2
      refine V_seq (V_region rfl ?_)
      refine L_go rfl (X_p (p_build (r := [_, _, _, _]) pl36 zr36 rfl rfl rfl) ?_)
      refine L_go rfl (X_p (p_build (r := [_, _]) pl24 zr24 rfl rfl rfl) ?_)
      refine L_go rfl (X_p (p_move rfl rfl) ?_)
      refine L_go rfl (X_wr (w_store (cs' := [_, _, _, _]) sz36 rfl rfl rfl rfl rfl (by repeat first | exact .head | apply SetAt.tail) (Nat.le_of_ble_eq_true rfl) rfl) ?_)
      rintro _ _ ⟨rfl, rfl⟩
      refine L_go rfl (X_wr (w_store (cs' := [_, _]) sz24 rfl rfl rfl rfl rfl (by repeat first | exact .head | apply SetAt.tail) (Nat.le_of_ble_eq_true rfl) rfl) ?_)
      rintro _ _ ⟨rfl, rfl⟩
      refine L_go rfl (X_p (p_assign rfl rfl) ?_)
      refine L_then (.cons (k := 4) rfl (.cons (k := 5) rfl (.cons (k := 6) rfl .nil))) ?_
      refine V_ret (then_r ?_)
      refine Leave.nil (.cellA (us := [_, _, _, _]) rfl ag36 sz36 (by repeat first | exact mH | apply mT) rfl (.cellA (us := [_, _]) rfl ag24 sz24 (by repeat first | exact mH | apply mT) rfl (.tmp rfl .nil))) ?_
      have hf : De.fallP p b = ⟨spZ, spZ, spZ, boxE b⟩ := by unfold De.fallP; rw [if_neg (by omega), if_pos (by omega)]
      rw [hf]
      all_goals rfl
    · intro c2; try simp only [td] at c2
      have hb : boxE b = 0 := by omega
      have hgr := (good_of_plan hpe).nums.2.1
      have hf : De.fallP p b = fallT p.grav b := by unfold De.fallP; rw [if_neg (by omega), if_neg (by omega)]
      rw [hf]
      refine V_skip (then_n ?_)
      refine V_seq (V_region rfl ?_)
      refine L_go rfl (X_rd (r_loadA (vs := [_, _, _, _, _, _, _, _, _, _, _, _, _]) ag33 sz33 rfl rfl (by repeat first | exact mH | apply mT) rfl) ?_)
      refine L_go rfl (X_p (p_fieldo fo26_1 rfl rfl) ?_)
      refine L_go rfl (X_rd (r_loadA (vs := [_, _]) ag24 sz24 rfl rfl (by repeat first | exact mH | apply mT) rfl) ?_)
      refine L_go rfl (X_wr (w_callP rfl rfl rfl (fun w hg => dfall_c b p.grav (fallB_0 (boxE_ok hb)) hgr aF aL w (hE.good hg))) ?_)
      rintro _ _ ⟨rfl, rfl⟩
      refine L_go rfl (X_p (p_move rfl rfl) ?_)
      refine L_go rfl (X_p (p_ext rfl rfl rfl) ?_)
      refine L_go rfl (X_p (p_ext rfl rfl rfl) ?_)
      refine L_go rfl (X_p (p_ext rfl rfl rfl) ?_)
      refine L_go rfl (X_wr (w_store (cs' := [_, _, _, _]) sz36 rfl rfl rfl rfl rfl (by repeat first | exact .head | apply SetAt.tail) (Nat.le_of_ble_eq_true rfl) rfl) ?_)
      rintro _ _ ⟨rfl, rfl⟩
      refine L_go rfl (X_wr (w_store (cs' := [_, _]) sz24 rfl rfl rfl rfl rfl (by repeat first | exact .head | apply SetAt.tail) (Nat.le_of_ble_eq_true rfl) rfl) ?_)
      rintro _ _ ⟨rfl, rfl⟩
      refine L_go rfl (X_p (p_assign rfl rfl) ?_)
      refine L_then (.cons (k := 4) rfl (.cons (k := 5) rfl (.cons (k := 6) rfl (.cons (k := 7) rfl .nil)))) ?_
      refine V_seq ?_
      refine V_block ?_
      refine V_seq (V_region rfl ?_)
      refine L_go rfl (X_p (p_move rfl rfl) ?_)
      refine L_go rfl (X_rd (r_loadB ag92 rfl rfl hE.far List.not_mem_nil) ?_)
      refine L_go rfl (X_wr (w_callP rfl rfl rfl (fun w hg => eIs_far aF aL w (hE.good hg) _ (fallT_e _ _))) ?_)
      rintro _ _ ⟨rfl, rfl⟩
      refine L_go rfl (X_p (p_assign rfl rfl) ?_)
      refine L_then (.cons (k := 4) rfl (.cons (k := 5) rfl (.cons (k := 6) rfl (.cons (k := 7) rfl (.cons (k := 27) rfl .nil))))) ?_
      refine V_cond rfl ?_ ?_
      · intro c3; try simp only [td] at c3
        have he3 := c3
        refine V_region rfl ?_
        refine L_go rfl (X_p (p_assign rfl rfl) ?_)
        refine L_keep (.cons (k := 4) rfl (.cons (k := 5) rfl (.cons (k := 6) rfl .nil))) (blk_n (then_n ?_))
        refine V_seq (V_draw (.rd 0 (.rd 1 (.rd 2 (.wr 3 [2, 1] (.wr 4 [2] (.wr 5 [] .done)))))) mixed (by kernel_rfl) rfl ?_)
        refine D_rd rfl (.plain rfl) (r_loadA (vs := [_, _, _, _]) ag36 sz36 rfl rfl (by repeat first | exact mH | apply mT) rfl) ?_
        refine D_rd rfl (.plain rfl) (r_loadA (vs := [_, _]) ag24 sz24 rfl rfl (by repeat first | exact mH | apply mT) rfl) ?_
        refine D_p rfl (.plain rfl) (p_move rfl rfl) ?_
        refine D_wr (.go (E' := [(1, _)]) rfl (.plain rfl) (w_store (cs' := [_, _, _, _]) sz36 rfl rfl rfl rfl rfl (by repeat first | exact .head | apply SetAt.tail) (Nat.le_of_ble_eq_true rfl) rfl) rfl ?_)
        rintro _ _ ⟨rfl, rfl⟩
        refine ⟨(.cons rfl (.plain rfl) (r_loadA (vs := [_, _]) ag24 sz24 rfl rfl (by repeat first | exact mH | apply mT) rfl) .nil), ?_⟩
        refine D_wr (.go (E' := []) rfl (.plain rfl) (w_store (cs' := [_, _]) sz24 rfl rfl rfl rfl rfl (by repeat first | exact .head | apply SetAt.tail) (Nat.le_of_ble_eq_true rfl) rfl) rfl ?_)
        rintro _ _ ⟨rfl, rfl⟩
        refine ⟨.nil, ?_⟩
        refine D_wr (.go (E' := []) rfl (.plain rfl) (rd_wr (RdP.rd (p_assign rfl rfl))) rfl ?_)
        rintro _ _ ⟨rfl, rfl⟩
        refine ⟨.nil, ?_⟩
        refine D_then (.cons (k := 4) rfl (.cons (k := 5) rfl (.cons (k := 6) rfl .nil))) ?_
        refine V_ret ?_
        refine Leave.nil (.cellA (us := [_, _, _, _]) rfl ag36 sz36 (by repeat first | exact mH | apply mT) rfl (.cellA (us := [_, _]) rfl ag24 sz24 (by repeat first | exact mH | apply mT) rfl (.tmp rfl .nil))) ?_
        rw [he3]; rfl
      · intro c3; try simp only [td] at c3
        have he3 := c3
        refine V_seq (V_region rfl ?_)
        refine L_go rfl (X_p (p_move rfl rfl) ?_)
        refine L_go rfl (X_rd (r_loadB ag92 rfl rfl hE.long List.not_mem_nil) ?_)
        refine L_go rfl (X_wr (w_callP rfl rfl rfl (fun w hg => eIs_long aF aL w (hE.good hg) _ (fallT_e _ _))) ?_)
        rintro _ _ ⟨rfl, rfl⟩
        refine L_go rfl (X_p (p_assign rfl rfl) ?_)
        refine L_then (.cons (k := 4) rfl (.cons (k := 5) rfl (.cons (k := 6) rfl (.cons (k := 31) rfl .nil)))) ?_
        refine V_cond rfl ?_ ?_
        · intro c4; try simp only [td] at c4
          have he9 := c4
          refine V_region rfl ?_
          refine L_go rfl (X_p (p_assign rfl rfl) ?_)
          refine L_keep (.cons (k := 4) rfl (.cons (k := 5) rfl (.cons (k := 6) rfl .nil))) (blk_n (then_n ?_))
          refine V_seq (V_draw (.rd 0 (.rd 1 (.rd 2 (.wr 3 [2, 1] (.wr 4 [2] (.wr 5 [] .done)))))) mixed (by kernel_rfl) rfl ?_)
          refine D_rd rfl (.plain rfl) (r_loadA (vs := [_, _, _, _]) ag36 sz36 rfl rfl (by repeat first | exact mH | apply mT) rfl) ?_
          refine D_rd rfl (.plain rfl) (r_loadA (vs := [_, _]) ag24 sz24 rfl rfl (by repeat first | exact mH | apply mT) rfl) ?_
          refine D_p rfl (.plain rfl) (p_move rfl rfl) ?_
          refine D_wr (.go (E' := [(1, _)]) rfl (.plain rfl) (w_store (cs' := [_, _, _, _]) sz36 rfl rfl rfl rfl rfl (by repeat first | exact .head | apply SetAt.tail) (Nat.le_of_ble_eq_true rfl) rfl) rfl ?_)
          rintro _ _ ⟨rfl, rfl⟩
          refine ⟨(.cons rfl (.plain rfl) (r_loadA (vs := [_, _]) ag24 sz24 rfl rfl (by repeat first | exact mH | apply mT) rfl) .nil), ?_⟩
          refine D_wr (.go (E' := []) rfl (.plain rfl) (w_store (cs' := [_, _]) sz24 rfl rfl rfl rfl rfl (by repeat first | exact .head | apply SetAt.tail) (Nat.le_of_ble_eq_true rfl) rfl) rfl ?_)
          rintro _ _ ⟨rfl, rfl⟩
          refine ⟨.nil, ?_⟩
          refine D_wr (.go (E' := []) rfl (.plain rfl) (rd_wr (RdP.rd (p_assign rfl rfl))) rfl ?_)
          rintro _ _ ⟨rfl, rfl⟩
          refine ⟨.nil, ?_⟩
          refine D_then (.cons (k := 4) rfl (.cons (k := 5) rfl (.cons (k := 6) rfl .nil))) ?_
          refine V_ret ?_
          refine Leave.nil (.cellA (us := [_, _, _, _]) rfl ag36 sz36 (by repeat first | exact mH | apply mT) rfl (.cellA (us := [_, _]) rfl ag24 sz24 (by repeat first | exact mH | apply mT) rfl (.tmp rfl .nil))) ?_
          rw [he9]; rfl
        · intro c4; try simp only [td] at c4
          have he9 := c4
          refine V_skip (blk_n (then_n ?_))
          refine V_seq (V_draw (.rd 0 (.rd 1 (.rd 2 (.wr 3 [2, 1] (.wr 4 [2] (.wr 5 [] .done)))))) mixed (by kernel_rfl) rfl ?_)
          refine D_rd rfl (.plain rfl) (r_loadA (vs := [_, _, _, _]) ag36 sz36 rfl rfl (by repeat first | exact mH | apply mT) rfl) ?_
          refine D_rd rfl (.plain rfl) (r_loadA (vs := [_, _]) ag24 sz24 rfl rfl (by repeat first | exact mH | apply mT) rfl) ?_
          refine D_p rfl (.plain rfl) (p_move rfl rfl) ?_
          refine D_wr (.go (E' := [(1, _)]) rfl (.plain rfl) (w_store (cs' := [_, _, _, _]) sz36 rfl rfl rfl rfl rfl (by repeat first | exact .head | apply SetAt.tail) (Nat.le_of_ble_eq_true rfl) rfl) rfl ?_)
          rintro _ _ ⟨rfl, rfl⟩
          refine ⟨(.cons rfl (.plain rfl) (r_loadA (vs := [_, _]) ag24 sz24 rfl rfl (by repeat first | exact mH | apply mT) rfl) .nil), ?_⟩
          refine D_wr (.go (E' := []) rfl (.plain rfl) (w_store (cs' := [_, _]) sz24 rfl rfl rfl rfl rfl (by repeat first | exact .head | apply SetAt.tail) (Nat.le_of_ble_eq_true rfl) rfl) rfl ?_)
          rintro _ _ ⟨rfl, rfl⟩
          refine ⟨.nil, ?_⟩
          refine D_wr (.go (E' := []) rfl (.plain rfl) (rd_wr (RdP.rd (p_assign rfl rfl))) rfl ?_)
          rintro _ _ ⟨rfl, rfl⟩
          refine ⟨.nil, ?_⟩
          refine D_then (.cons (k := 4) rfl (.cons (k := 5) rfl (.cons (k := 6) rfl .nil))) ?_
          refine V_ret ?_
          refine Leave.nil (.cellA (us := [_, _, _, _]) rfl ag36 sz36 (by repeat first | exact mH | apply mT) rfl (.cellA (us := [_, _]) rfl ag24 sz24 (by repeat first | exact mH | apply mT) rfl (.tmp rfl .nil))) ?_
          have := fallT_e p.grav b
          have e0 : (fallT p.grav b).e = 0 := by omega
          rw [e0, hb]; rfl
  · intro c1; try simp only [td] at c1
    have hpe := c1
    refine V_skip (then_n ?_)
    refine V_seq ?_
    refine V_seq (V_region rfl ?_)
    refine L_go rfl (X_p (p_move rfl rfl) ?_)
    refine L_go rfl (X_p (p_neq rfl rfl rfl) ?_)
    refine L_then (.cons (k := 2) rfl (.cons (k := 3) rfl (.cons (k := 4) rfl (.cons (k := 5) rfl (.cons (k := 6) rfl (.cons (k := 15) rfl .nil)))))) ?_
    refine V_cond rfl ?_ ?_
    · intro c5; try simp only [td] at c5
      have hq := c5
      refine V_seq (V_region rfl ?_)
      refine L_go rfl (X_p (p_build (r := [_, _, _, _]) pl36 zr36 rfl rfl rfl) ?_)
      refine L_go rfl (X_p (p_build (r := [_, _]) pl24 zr24 rfl rfl rfl) ?_)
      refine L_go rfl (X_p (p_move rfl rfl) ?_)
      refine L_go rfl (X_wr (w_store (cs' := [_, _, _, _]) sz36 rfl rfl rfl rfl rfl (by repeat first | exact .head | apply SetAt.tail) (Nat.le_of_ble_eq_true rfl) rfl) ?_)
      rintro _ _ ⟨rfl, rfl⟩
      refine L_go rfl (X_wr (w_store (cs' := [_, _]) sz24 rfl rfl rfl rfl rfl (by repeat first | exact .head | apply SetAt.tail) (Nat.le_of_ble_eq_true rfl) rfl) ?_)
      rintro _ _ ⟨rfl, rfl⟩
      refine L_go rfl (X_p (p_assign rfl rfl) ?_)
      refine L_then (.cons (k := 4) rfl (.cons (k := 5) rfl (.cons (k := 6) rfl .nil))) ?_
      refine V_ret (then_r ?_)
      refine Leave.nil (.cellA (us := [_, _, _, _]) rfl ag36 sz36 (by repeat first | exact mH | apply mT) rfl (.cellA (us := [_, _]) rfl ag24 sz24 (by repeat first | exact mH | apply mT) rfl (.tmp rfl .nil))) ?_
      have hf : De.fallP p b = ⟨spZ, spZ, spZ, planE p⟩ := by unfold De.fallP; rw [if_pos (by omega)]
      rw [hf]
      all_goals rfl
    · intro c5; try simp only [td] at c5
      exfalso; omega
theorem dmeas1_c (a : Int) (s : Span) (h1 : InI (a * s.lo)) (h2 : InI (a * s.hi)) (w : World) : FnP Tryd.prog 71 [.int .i64 a, .agg #[.int .i64 s.lo, .int .i64 s.hi]] w (.tuple #[.int .i64 (min (a * s.lo) (a * s.hi)), .int .i64 (max (a * s.lo) (a * s.hi))]) := by
  refine fn_pure Tryd.func71 rfl (by kernel_rfl) Tryd.ntmps71 Tryd.results71 rfl ?_
  refine V_seq (V_region rfl ?_)
  refine L_go rfl (X_wr (w_box rfl rfl) ?_)
  rintro _ _ ⟨b1, hb1, rfl, rfl⟩
  refine L_go rfl (X_p (p_assign rfl rfl) ?_)
  refine L_go rfl (X_p (p_assign rfl rfl) ?_)
  refine L_then (.cons (k := 0) rfl (.cons (k := 3) rfl .nil)) ?_
  refine V_seq (V_draw (.rd 0 (.rd 1 (.rd 2 (.rd 3 (.rd 4 (.rd 5 (.rd 6 (.rd 7 (.rd 8 (.rd 9 (.rd 10 (.rd 11 (.rd 12 (.rd 13 (.rd 14 (.rd 15 (.rd 16 (.rd 17 (.rd 18 (.rd 19 .done)))))))))))))))))))) mixed (by kernel_rfl) rfl ?_)
  refine D_p rfl (.plain rfl) (p_move rfl rfl) ?_
  refine D_p rfl (.plain rfl) (p_fieldo fo24_0 rfl rfl) ?_
  refine D_rd rfl (.plain rfl) (r_load ag3 rfl rfl (by repeat first | exact mH | apply mT) rfl) ?_
  refine D_p rfl (.plain rfl) (p_mul' rfl rfl rfl (h1)) ?_
  refine D_p rfl (.plain rfl) (p_move rfl rfl) ?_
  refine D_p rfl (.plain rfl) (p_fieldo fo24_1 rfl rfl) ?_
  refine D_rd rfl (.plain rfl) (r_load ag3 rfl rfl (by repeat first | exact mH | apply mT) rfl) ?_
  refine D_p rfl (.plain rfl) (p_mul' rfl rfl rfl (h2)) ?_
  refine D_p rfl (.plain rfl) (p_min rfl rfl rfl) ?_
  refine D_p rfl (.plain rfl) (p_move rfl rfl) ?_
  refine D_p rfl (.plain rfl) (p_fieldo fo24_0 rfl rfl) ?_
  refine D_rd rfl (.plain rfl) (r_load ag3 rfl rfl (by repeat first | exact mH | apply mT) rfl) ?_
  refine D_p rfl (.plain rfl) (p_mul' rfl rfl rfl (h1)) ?_
  refine D_p rfl (.plain rfl) (p_move rfl rfl) ?_
  refine D_p rfl (.plain rfl) (p_fieldo fo24_1 rfl rfl) ?_
  refine D_rd rfl (.plain rfl) (r_load ag3 rfl rfl (by repeat first | exact mH | apply mT) rfl) ?_
  refine D_p rfl (.plain rfl) (p_mul' rfl rfl rfl (h2)) ?_
  refine D_p rfl (.plain rfl) (p_max rfl rfl rfl) ?_
  refine D_p rfl (.plain rfl) (p_assign rfl rfl) ?_
  refine D_p rfl (.plain rfl) (p_assign rfl rfl) ?_
  refine D_then (.cons (k := 4) rfl (.cons (k := 5) rfl .nil)) ?_
  refine V_ret ?_
  refine Leave.nil (.tmp rfl (.tmp rfl .nil)) ?_
  rfl
set_option maxHeartbeats 4000000 in
theorem dmeas_c (l : De.Line) (x y : Span) (hl : LnB l) (hx : offS x = false) (hy : offS y = false) (w : World) : FnP Tryd.prog 45 [.agg (De.Line.cells l).toArray, .agg #[.int .i64 x.lo, .int .i64 x.hi, .int .i64 y.lo, .int .i64 y.hi]] w (.tuple #[.int .i64 (leastL l x y), .int .i64 (mostL l x y)]) := by
  have hx := off_false.1 hx
  have hy := off_false.1 hy
  have m0 := mul_abs (A := 1000) (B := 2000000000) (by omega) hl.a (b := x.lo) (by omega)
  have m1 := mul_abs (A := 1000) (B := 2000000000) (by omega) hl.a (b := x.hi) (by omega)
  have m2 := mul_abs (A := 1000) (B := 2000000000) (by omega) hl.b (b := y.lo) (by omega)
  have m3 := mul_abs (A := 1000) (B := 2000000000) (by omega) hl.b (b := y.hi) (by omega)
  refine fn_pure Tryd.func45 rfl (by kernel_rfl) Tryd.ntmps45 Tryd.results45 rfl ?_
  refine V_seq (V_region rfl ?_)
  refine L_go rfl (X_wr (w_box rfl rfl) ?_)
  rintro _ _ ⟨b1, hb1, rfl, rfl⟩
  refine L_go rfl (X_wr (w_box rfl rfl) ?_)
  rintro _ _ ⟨b2, hb2, rfl, rfl⟩
  refine L_go rfl (X_p (p_assign rfl rfl) ?_)
  refine L_go rfl (X_p (p_assign rfl rfl) ?_)
  refine L_then (.cons (k := 2) rfl (.cons (k := 3) rfl .nil)) ?_
  refine V_seq (V_region rfl ?_)
  refine L_go rfl (X_p (p_assign rfl rfl) ?_)
  refine L_then (.cons (k := 2) rfl (.cons (k := 3) rfl (.cons (k := 6) rfl .nil))) ?_
  refine V_seq (V_region rfl ?_)
  refine L_go rfl (X_p (p_move rfl rfl) ?_)
  refine L_go rfl (X_p (p_fieldo fo60_0 rfl rfl) ?_)
  refine L_go rfl (X_rd (r_load ag3 rfl rfl (by repeat first | exact mH | apply mT) rfl) ?_)
  refine L_go rfl (X_p (p_fieldo fo36_0 rfl rfl) ?_)
  refine L_go rfl (X_rd (r_loadA (vs := [_, _]) ag24 sz24 rfl rfl (by repeat first | exact mH | apply mT) rfl) ?_)
  refine L_go rfl (X_wr (w_callP rfl rfl rfl (fun w hg => dmeas1_c l.a x (by unfold InI; omega) (by unfold InI; omega) w)) ?_)
  rintro _ _ ⟨rfl, rfl⟩
  refine L_go rfl (X_p (p_move rfl rfl) ?_)
  refine L_go rfl (X_p (p_ext rfl rfl rfl) ?_)
  refine L_go rfl (X_p (p_ext rfl rfl rfl) ?_)
  refine L_go rfl (X_p (p_assign rfl rfl) ?_)
  refine L_go rfl (X_p (p_assign rfl rfl) ?_)
  refine L_then (.cons (k := 2) rfl (.cons (k := 3) rfl (.cons (k := 6) rfl (.cons (k := 7) rfl (.cons (k := 8) rfl .nil))))) ?_
  refine V_seq (V_region rfl ?_)
  refine L_go rfl (X_p (p_move rfl rfl) ?_)
  refine L_go rfl (X_p (p_fieldo fo60_1 rfl rfl) ?_)
  refine L_go rfl (X_rd (r_load ag3 rfl rfl (by repeat first | exact mH | apply mT) rfl) ?_)
  refine L_go rfl (X_p (p_fieldo fo36_1 rfl rfl) ?_)
  refine L_go rfl (X_rd (r_loadA (vs := [_, _]) ag24 sz24 rfl rfl (by repeat first | exact mH | apply mT) rfl) ?_)
  refine L_go rfl (X_wr (w_callP rfl rfl rfl (fun w hg => dmeas1_c l.b y (by unfold InI; omega) (by unfold InI; omega) w)) ?_)
  rintro _ _ ⟨rfl, rfl⟩
  refine L_go rfl (X_p (p_move rfl rfl) ?_)
  refine L_go rfl (X_p (p_ext rfl rfl rfl) ?_)
  refine L_go rfl (X_p (p_ext rfl rfl rfl) ?_)
  refine L_go rfl (X_p (p_assign rfl rfl) ?_)
  refine L_go rfl (X_p (p_assign rfl rfl) ?_)
  refine L_then (.cons (k := 7) rfl (.cons (k := 8) rfl (.cons (k := 9) rfl (.cons (k := 10) rfl .nil)))) ?_
  refine V_seq (V_region rfl ?_)
  refine L_go rfl (X_p (p_move rfl rfl) ?_)
  refine L_go rfl (X_p (p_move rfl rfl) ?_)
  first | refine L_go rfl (X_p (p_add' rfl rfl rfl (by unfold InI; omega)) ?_) | refine L_go rfl (X_p (p_add rfl rfl rfl) ?_)
  refine L_go rfl (X_p (p_move rfl rfl) ?_)
  refine L_go rfl (X_p (p_move rfl rfl) ?_)
  first | refine L_go rfl (X_p (p_add' rfl rfl rfl (by unfold InI; omega)) ?_) | refine L_go rfl (X_p (p_add rfl rfl rfl) ?_)
  refine L_go rfl (X_p (p_assign rfl rfl) ?_)
  refine L_go rfl (X_p (p_assign rfl rfl) ?_)
  refine L_then (.cons (k := 4) rfl (.cons (k := 5) rfl .nil)) ?_
  refine V_ret ?_
  refine Leave.nil (.tmp rfl (.tmp rfl .nil)) ?_
  rfl
abbrev FnT := Nat × Array Value × Bool
def fnZ : FnT := (0, #[], false)
theorem idxFn_c (l : List FnT) (v : Value) (fid : Nat) (cap : Array Value) (p : FnT → Bool) (w : World) (hv : SliceR w 1 v (l.map (fun x : FnT => [Value.func (.func x.1) #[] x.2.1]))) (hl : (l.length : Int) ≤ 9223372036854775806) (hf : ∀ j : Nat, j < l.length → ∀ w', Ext w w' → FnP Tryd.prog fid (.func (.func (l.getD j fnZ).1) #[] (l.getD j fnZ).2.1 :: cap.toList) w' (.bool (p (l.getD j fnZ)))) : FnP Tryd.prog 92 [v, .func (.func fid) #[] cap] w (.int .i64 (Tk.firstIdx (fun i => p (l.getD i fnZ)) 0 l.length)) := by
  obtain ⟨a, ca, rfl, hcap, hel⟩ := hv.ex
  simp only [List.length_map]
  refine fn_pure Tryd.func92 rfl (by kernel_rfl) Tryd.ntmps92 Tryd.results92 rfl ?_
  refine V_seq (V_region rfl ?_)
  refine L_go rfl (X_p (p_assign rfl rfl) ?_)
  refine L_then (.cons (k := 0) rfl (.cons (k := 1) rfl .nil)) ?_
  refine V_seq ?_
  refine V_seq (V_region rfl ?_)
  refine L_go rfl (X_p (p_move rfl rfl) ?_)
  refine L_go rfl (X_p (p_len isl170 rfl rfl) ?_)
  refine L_go rfl (X_p (p_move rfl rfl) ?_)
  refine L_then (.cons (k := 0) rfl (.cons (k := 1) rfl (.cons (k := 7) rfl (.cons (k := 8) rfl .nil)))) ?_
  refine V_block ?_
  refine V_loop0 (γ := Int) (.cons (k := 0) rfl (.cons (k := 1) rfl (.cons (k := 7) rfl .nil))) (fun k => [(8, .int .i64 k)]) (fun k => 0 ≤ k ∧ k ≤ l.length ∧ ∀ j : Nat, (j : Int) < k → p (l.getD j fnZ) = false) (fun k => (l.length - k).toNat) (0) (.cons rfl (.nil _)) (⟨by omega, by omega, fun j hj => by omega⟩) ?_
  rintro k hi
  obtain ⟨hk0, hk1, hkp⟩ := hi
  refine V_seq (V_region rfl ?_)
  refine L_go rfl (X_p (p_lss rfl rfl rfl) ?_)
  refine L_then (.cons (k := 0) rfl (.cons (k := 1) rfl (.cons (k := 7) rfl (.cons (k := 8) rfl (.cons (k := 9) rfl .nil))))) ?_
  refine V_seq ?_
  refine V_cond rfl ?_ ?_
  · intro c1; try simp only [td] at c1
    obtain ⟨b, rfl, hc⟩ := hel k.toNat _ (getD_cells (d := fnZ) (by omega))
    refine V_skip (then_n ?_)
    refine V_seq ?_
    refine V_block ?_
    refine V_seq (V_region rfl ?_)
    refine L_go rfl (X_p (p_move rfl rfl) ?_)
    refine L_go rfl (X_p (p_assign rfl rfl) ?_)
    refine L_then (.cons (k := 0) rfl (.cons (k := 1) rfl (.cons (k := 5) rfl (.cons (k := 7) rfl (.cons (k := 8) rfl .nil))))) ?_
    refine V_seq (V_region rfl ?_)
    refine L_go rfl (X_p (p_move rfl rfl) ?_)
    refine L_go rfl (X_p (p_move rfl rfl) ?_)
    refine L_go rfl (X_p (p_move rfl rfl) ?_)
    refine L_go rfl (X_p (p_idx es170 rfl rfl rfl (by omega) (by omega)) ?_)
    refine L_go rfl (X_rd (r_loadB ag30 rfl rfl hc.zero List.not_mem_nil) ?_)
    refine L_go rfl (X_wr (w_callP rfl rfl rfl (fun w hg => hf k.toNat (by omega) _ hg.toExt)) ?_)
    rintro _ _ ⟨rfl, rfl⟩
    refine L_then (.cons (k := 0) rfl (.cons (k := 1) rfl (.cons (k := 5) rfl (.cons (k := 7) rfl (.cons (k := 8) rfl (.cons (k := 16) rfl .nil)))))) ?_
    refine V_cond rfl ?_ ?_
    · intro c2; try simp only [td] at c2
      refine V_seq (V_region rfl ?_)
      refine L_go rfl (X_p (p_move rfl rfl) ?_)
      refine L_go rfl (X_p (p_assign rfl rfl) ?_)
      refine L_then (.cons (k := 4) rfl .nil) ?_
      refine V_ret (blk_r (then_r (then_r (blk_r (then_r ?_)))))
      refine Leave.nil (.tmp rfl .nil) ?_
      show Value.int .i64 k = _
      rw [firstIdx_hit (p := fun i => p (l.getD i fnZ)) (k := k.toNat) (by omega) c2 (fun j hj => hkp j (by omega))]
      congr 1; omega
    · intro c2; try simp only [td] at c2
      refine V_skip (blk_n (then_n ?_))
      refine V_region rfl ?_
      first | refine L_go rfl (X_p (p_add' rfl rfl rfl (by unfold InI; omega)) ?_) | refine L_go rfl (X_p (p_add rfl rfl rfl) ?_)
      refine L_go rfl (X_p (p_move rfl rfl) ?_)
      refine L_keep (.cons (k := 0) rfl (.cons (k := 1) rfl (.cons (k := 7) rfl (.cons (k := 8) rfl .nil)))) (then_n ?_)
      refine ⟨k + 1, ?_, ?_, (.cons rfl (.cons rfl (.cons rfl (.cons rfl (.nil _))))), (by repeat (first | exact List.Sublist.refl _ | apply List.Sublist.cons_cons | apply List.Sublist.cons | apply List.sublist_append_of_sublist_right)), rfl⟩
      · refine ⟨by omega, by omega, fun j hj => ?_⟩; by_cases e : (j : Int) < k
        · exact hkp j e
        · have : j = k.toNat := by omega
          rw [this]; exact c2
      · omega
  · intro c1; try simp only [td] at c1
    refine V_exit (then_e (then_e (blk_e rfl (then_n ?_))))
    refine V_seq (V_region rfl ?_)
    refine L_go rfl (X_p (p_assign rfl rfl) ?_)
    refine L_then (.cons (k := 4) rfl .nil) ?_
    refine V_ret ?_
    refine Leave.nil (.tmp rfl .nil) ?_
    show Value.int .i64 (-1) = _
    rw [firstIdx_none (p := fun i => p (l.getD i fnZ)) (fun j hj => hkp j (by omega))]
theorem contFn_c (l : List FnT) (v : Value) (fid : Nat) (cap : Array Value) (p : FnT → Bool) (w : World) (hv : SliceR w 1 v (l.map (fun x : FnT => [Value.func (.func x.1) #[] x.2.1]))) (hl : (l.length : Int) ≤ 9223372036854775806) (hf : ∀ j : Nat, j < l.length → ∀ w', Ext w w' → FnP Tryd.prog fid (.func (.func (l.getD j fnZ).1) #[] (l.getD j fnZ).2.1 :: cap.toList) w' (.bool (p (l.getD j fnZ)))) : FnP Tryd.prog 84 [v, .func (.func fid) #[] cap] w (.bool (l.any p)) := by
  refine fn_pure Tryd.func84 rfl (by kernel_rfl) Tryd.ntmps84 Tryd.results84 rfl ?_
  refine V_seq (V_region rfl ?_)
  refine L_go rfl (X_p (p_assign rfl rfl) ?_)
  refine L_then (.cons (k := 0) rfl (.cons (k := 1) rfl .nil)) ?_
  refine V_seq (V_region rfl ?_)
  refine L_go rfl (X_p (p_move rfl rfl) ?_)
  refine L_go rfl (X_p (p_move rfl rfl) ?_)
  refine L_go rfl (X_wr (w_callP rfl rfl rfl (fun w hg => idxFn_c l _ _ _ p w (hv.good hg) hl (fun j hj w' he => hf j hj w' (hg.toExt.trans he)))) ?_)
  rintro _ _ ⟨rfl, rfl⟩
  refine L_go rfl (X_p (p_geq rfl rfl rfl) ?_)
  refine L_go rfl (X_p (p_assign rfl rfl) ?_)
  refine L_then (.cons (k := 4) rfl .nil) ?_
  refine V_ret ?_
  refine Leave.nil (.tmp rfl .nil) ?_
  show Value.bool _ = _
  rw [firstIdx_any, anyIdx_list]
theorem idxLn_c (l : List De.Line) (v : Value) (fid : Nat) (cap : Array Value) (p : De.Line → Bool) (w : World) (hv : SliceR w 4 v (l.map (De.Line.cells))) (hl : (l.length : Int) ≤ 9223372036854775806) (hf : ∀ j : Nat, j < l.length → ∀ w', Ext w w' → FnP Tryd.prog fid (.agg (De.Line.cells (l.getD j lnZ)).toArray :: cap.toList) w' (.bool (p (l.getD j lnZ)))) : FnP Tryd.prog 72 [v, .func (.func fid) #[] cap] w (.int .i64 (Tk.firstIdx (fun i => p (l.getD i lnZ)) 0 l.length)) := by
  obtain ⟨a, ca, rfl, hcap, hel⟩ := hv.ex
  simp only [List.length_map]
  refine fn_pure Tryd.func72 rfl (by kernel_rfl) Tryd.ntmps72 Tryd.results72 rfl ?_
  refine V_seq (V_region rfl ?_)
  refine L_go rfl (X_p (p_assign rfl rfl) ?_)
  refine L_then (.cons (k := 0) rfl (.cons (k := 1) rfl .nil)) ?_
  refine V_seq ?_
  refine V_seq (V_region rfl ?_)
  refine L_go rfl (X_p (p_move rfl rfl) ?_)
  refine L_go rfl (X_p (p_len isl22 rfl rfl) ?_)
  refine L_go rfl (X_p (p_move rfl rfl) ?_)
  refine L_then (.cons (k := 0) rfl (.cons (k := 1) rfl (.cons (k := 7) rfl (.cons (k := 8) rfl .nil)))) ?_
  refine V_block ?_
  refine V_loop0 (γ := Int) (.cons (k := 0) rfl (.cons (k := 1) rfl (.cons (k := 7) rfl .nil))) (fun k => [(8, .int .i64 k)]) (fun k => 0 ≤ k ∧ k ≤ l.length ∧ ∀ j : Nat, (j : Int) < k → p (l.getD j lnZ) = false) (fun k => (l.length - k).toNat) (0) (.cons rfl (.nil _)) (⟨by omega, by omega, fun j hj => by omega⟩) ?_
  rintro k hi
  obtain ⟨hk0, hk1, hkp⟩ := hi
  refine V_seq (V_region rfl ?_)
  refine L_go rfl (X_p (p_lss rfl rfl rfl) ?_)
  refine L_then (.cons (k := 0) rfl (.cons (k := 1) rfl (.cons (k := 7) rfl (.cons (k := 8) rfl (.cons (k := 9) rfl .nil))))) ?_
  refine V_seq ?_
  refine V_cond rfl ?_ ?_
  · intro c1; try simp only [td] at c1
    obtain ⟨b, rfl, hc⟩ := hel k.toNat _ (getD_cells (d := lnZ) (by omega))
    refine V_skip (then_n ?_)
    refine V_seq ?_
    refine V_block ?_
    refine V_seq (V_region rfl ?_)
    refine L_go rfl (X_p (p_move rfl rfl) ?_)
    refine L_go rfl (X_p (p_assign rfl rfl) ?_)
    refine L_then (.cons (k := 0) rfl (.cons (k := 1) rfl (.cons (k := 5) rfl (.cons (k := 7) rfl (.cons (k := 8) rfl .nil))))) ?_
    refine V_seq (V_region rfl ?_)
    refine L_go rfl (X_p (p_move rfl rfl) ?_)
    refine L_go rfl (X_p (p_move rfl rfl) ?_)
    refine L_go rfl (X_p (p_move rfl rfl) ?_)
    refine L_go rfl (X_p (p_idx es22 rfl rfl rfl (by omega) (by omega)) ?_)
    refine L_go rfl (X_rd (r_loadBA ag60 sz60 rfl rfl hc rfl List.not_mem_nil) ?_)
    refine L_go rfl (X_wr (w_callP rfl rfl rfl (fun w hg => hf k.toNat (by omega) _ hg.toExt)) ?_)
    rintro _ _ ⟨rfl, rfl⟩
    refine L_then (.cons (k := 0) rfl (.cons (k := 1) rfl (.cons (k := 5) rfl (.cons (k := 7) rfl (.cons (k := 8) rfl (.cons (k := 16) rfl .nil)))))) ?_
    refine V_cond rfl ?_ ?_
    · intro c2; try simp only [td] at c2
      refine V_seq (V_region rfl ?_)
      refine L_go rfl (X_p (p_move rfl rfl) ?_)
      refine L_go rfl (X_p (p_assign rfl rfl) ?_)
      refine L_then (.cons (k := 4) rfl .nil) ?_
      refine V_ret (blk_r (then_r (then_r (blk_r (then_r ?_)))))
      refine Leave.nil (.tmp rfl .nil) ?_
      show Value.int .i64 k = _
      rw [firstIdx_hit (p := fun i => p (l.getD i lnZ)) (k := k.toNat) (by omega) c2 (fun j hj => hkp j (by omega))]
      congr 1; omega
    · intro c2; try simp only [td] at c2
      refine V_skip (blk_n (then_n ?_))
      refine V_region rfl ?_
      first | refine L_go rfl (X_p (p_add' rfl rfl rfl (by unfold InI; omega)) ?_) | refine L_go rfl (X_p (p_add rfl rfl rfl) ?_)
      refine L_go rfl (X_p (p_move rfl rfl) ?_)
      refine L_keep (.cons (k := 0) rfl (.cons (k := 1) rfl (.cons (k := 7) rfl (.cons (k := 8) rfl .nil)))) (then_n ?_)
      refine ⟨k + 1, ?_, ?_, (.cons rfl (.cons rfl (.cons rfl (.cons rfl (.nil _))))), (by repeat (first | exact List.Sublist.refl _ | apply List.Sublist.cons_cons | apply List.Sublist.cons | apply List.sublist_append_of_sublist_right)), rfl⟩
      · refine ⟨by omega, by omega, fun j hj => ?_⟩; by_cases e : (j : Int) < k
        · exact hkp j e
        · have : j = k.toNat := by omega
          rw [this]; exact c2
      · omega
  · intro c1; try simp only [td] at c1
    refine V_exit (then_e (then_e (blk_e rfl (then_n ?_))))
    refine V_seq (V_region rfl ?_)
    refine L_go rfl (X_p (p_assign rfl rfl) ?_)
    refine L_then (.cons (k := 4) rfl .nil) ?_
    refine V_ret ?_
    refine Leave.nil (.tmp rfl .nil) ?_
    show Value.int .i64 (-1) = _
    rw [firstIdx_none (p := fun i => p (l.getD i lnZ)) (fun j hj => hkp j (by omega))]
theorem contLn_c (l : List De.Line) (v : Value) (fid : Nat) (cap : Array Value) (p : De.Line → Bool) (w : World) (hv : SliceR w 4 v (l.map (De.Line.cells))) (hl : (l.length : Int) ≤ 9223372036854775806) (hf : ∀ j : Nat, j < l.length → ∀ w', Ext w w' → FnP Tryd.prog fid (.agg (De.Line.cells (l.getD j lnZ)).toArray :: cap.toList) w' (.bool (p (l.getD j lnZ)))) : FnP Tryd.prog 46 [v, .func (.func fid) #[] cap] w (.bool (l.any p)) := by
  refine fn_pure Tryd.func46 rfl (by kernel_rfl) Tryd.ntmps46 Tryd.results46 rfl ?_
  refine V_seq (V_region rfl ?_)
  refine L_go rfl (X_p (p_assign rfl rfl) ?_)
  refine L_then (.cons (k := 0) rfl (.cons (k := 1) rfl .nil)) ?_
  refine V_seq (V_region rfl ?_)
  refine L_go rfl (X_p (p_move rfl rfl) ?_)
  refine L_go rfl (X_p (p_move rfl rfl) ?_)
  refine L_go rfl (X_wr (w_callP rfl rfl rfl (fun w hg => idxLn_c l _ _ _ p w (hv.good hg) hl (fun j hj w' he => hf j hj w' (hg.toExt.trans he)))) ?_)
  rintro _ _ ⟨rfl, rfl⟩
  refine L_go rfl (X_p (p_geq rfl rfl rfl) ?_)
  refine L_go rfl (X_p (p_assign rfl rfl) ?_)
  refine L_then (.cons (k := 4) rfl .nil) ?_
  refine V_ret ?_
  refine Leave.nil (.tmp rfl .nil) ?_
  show Value.bool _ = _
  rw [firstIdx_any, anyIdx_list]
theorem dsome1_c (f : Nat) (cf : Array Value) (p : Bool) (w : World) (h : ∀ w', Ext w w' → FnP Tryd.prog f cf.toList w' (.bool p)) : FnP Tryd.prog 85 [.func (.func f) #[] cf] w (.bool p) := by
  refine fn_pure Tryd.func85 rfl (by kernel_rfl) Tryd.ntmps85 Tryd.results85 rfl ?_
  refine V_seq (V_region rfl ?_)
  refine L_go rfl (X_p (p_assign rfl rfl) ?_)
  refine L_then (.cons (k := 0) rfl .nil) ?_
  refine V_seq (V_region rfl ?_)
  refine L_go rfl (X_p (p_move rfl rfl) ?_)
  refine L_go rfl (X_wr (w_callP rfl rfl rfl (fun w hg => h _ hg.toExt)) ?_)
  rintro _ _ ⟨rfl, rfl⟩
  refine L_go rfl (X_p (p_assign rfl rfl) ?_)
  refine L_then (.cons (k := 2) rfl .nil) ?_
  refine V_ret ?_
  refine Leave.nil (.tmp rfl .nil) ?_
  rfl
theorem dsome_c (l : List FnT) (v : Value) (w : World) (hv : SliceR w 1 v (l.map fun x : FnT => [Value.func (.func x.1) #[] x.2.1])) (hl : (l.length : Int) ≤ 9223372036854775806) (hf : ∀ j : Nat, j < l.length → ∀ w', Ext w w' → FnP Tryd.prog (l.getD j fnZ).1 (l.getD j fnZ).2.1.toList w' (.bool (l.getD j fnZ).2.2)) : FnP Tryd.prog 68 [v] w (.bool (l.any fun x => x.2.2)) := by
  refine fn_pure Tryd.func68 rfl (by kernel_rfl) Tryd.ntmps68 Tryd.results68 rfl ?_
  refine V_seq (V_region rfl ?_)
  refine L_go rfl (X_p (p_assign rfl rfl) ?_)
  refine L_then (.cons (k := 0) rfl .nil) ?_
  refine V_seq (V_region rfl ?_)
  refine L_go rfl (X_p (p_move rfl rfl) ?_)
  refine L_go rfl (X_wr (w_callP rfl rfl rfl (fun w hg => contFn_c l _ _ _ (fun x => x.2.2) w (hv.good hg) hl (fun j hj w' he => dsome1_c _ _ _ w' fun w2 he2 => hf j hj w2 ((hg.toExt.trans he).trans he2)))) ?_)
  rintro _ _ ⟨rfl, rfl⟩
  refine L_go rfl (X_p (p_assign rfl rfl) ?_)
  refine L_then (.cons (k := 2) rfl .nil) ?_
  refine V_ret ?_
  refine Leave.nil (.tmp rfl .nil) ?_
  rfl
theorem dasked1_c (x y : Span) (b ty : Nat) (fr : Nat × Nat) (w : World) (hb : w.heap[b]? = some (.cells #[.int .i64 x.lo, .int .i64 x.hi, .int .i64 y.lo, .int .i64 y.hi] ty fr)) : FnP Tryd.prog 69 [.pointer (some ⟨b, 0, none⟩)] w (.bool (offS x)) := by
  refine fn_pure Tryd.func69 rfl (by kernel_rfl) Tryd.ntmps69 Tryd.results69 rfl ?_
  refine V_seq (V_region rfl ?_)
  refine L_go rfl (X_p (p_assign rfl rfl) ?_)
  refine L_then (.cons (k := 0) rfl .nil) ?_
  refine V_seq (V_region rfl ?_)
  refine L_go rfl (X_p (p_fieldo fo36_0 rfl rfl) ?_)
  refine L_go rfl (X_rd (r_loadBA (vs := [_, _]) ag24 sz24 rfl rfl (own_slice (n := 2) (vs := [_, _]) hb rfl).1 rfl List.not_mem_nil) ?_)
  refine L_go rfl (X_wr (w_callP rfl rfl rfl (fun w hg => doff_c _ w)) ?_)
  rintro _ _ ⟨rfl, rfl⟩
  refine L_go rfl (X_p (p_assign rfl rfl) ?_)
  refine L_then (.cons (k := 1) rfl .nil) ?_
  refine V_ret ?_
  refine Leave.nil (.tmp rfl .nil) ?_
  rfl
theorem dasked2_c (x y : Span) (b ty : Nat) (fr : Nat × Nat) (w : World) (hb : w.heap[b]? = some (.cells #[.int .i64 x.lo, .int .i64 x.hi, .int .i64 y.lo, .int .i64 y.hi] ty fr)) : FnP Tryd.prog 70 [.pointer (some ⟨b, 0, none⟩)] w (.bool (offS y)) := by
  refine fn_pure Tryd.func70 rfl (by kernel_rfl) Tryd.ntmps70 Tryd.results70 rfl ?_
  refine V_seq (V_region rfl ?_)
  refine L_go rfl (X_p (p_assign rfl rfl) ?_)
  refine L_then (.cons (k := 0) rfl .nil) ?_
  refine V_seq (V_region rfl ?_)
  refine L_go rfl (X_p (p_fieldo fo36_1 rfl rfl) ?_)
  refine L_go rfl (X_rd (r_loadBA (vs := [_, _]) ag24 sz24 rfl rfl (own_slice (n := 2) (vs := [_, _]) hb rfl).1 rfl List.not_mem_nil) ?_)
  refine L_go rfl (X_wr (w_callP rfl rfl rfl (fun w hg => doff_c _ w)) ?_)
  rintro _ _ ⟨rfl, rfl⟩
  refine L_go rfl (X_p (p_assign rfl rfl) ?_)
  refine L_then (.cons (k := 1) rfl .nil) ?_
  refine V_ret ?_
  refine Leave.nil (.tmp rfl .nil) ?_
  rfl
theorem dasked_c (x y : Span) (p : De.Plan) (pv : Value) (w : World) (hp : PlanR w pv p) : FnP Tryd.prog 43 [pv, .agg #[.int .i64 x.lo, .int .i64 x.hi, .int .i64 y.lo, .int .i64 y.hi]] w (.int .i64 (areaE p x y)) := by
  have hP := hp
  obtain ⟨lv, rfl, hls⟩ := hp.ex
  have hlen := hp.len
  refine fn_pure Tryd.func43 rfl (by kernel_rfl) Tryd.ntmps43 Tryd.results43 rfl ?_
  refine V_seq (V_region rfl ?_)
  refine L_go rfl (X_wr (w_box rfl rfl) ?_)
  rintro _ _ ⟨b1, hb1, rfl, rfl⟩
  refine L_go rfl (X_wr (w_box rfl rfl) ?_)
  rintro _ _ ⟨b2, hb2, rfl, rfl⟩
  refine L_go rfl (X_p (p_assign rfl rfl) ?_)
  refine L_then (.cons (k := 2) rfl (.cons (k := 3) rfl .nil)) ?_
  refine V_seq ?_
  refine V_seq (V_region rfl ?_)
  refine L_go rfl (X_rd (r_loadA (vs := [_, _, _, _, _]) ag26 sz26 rfl rfl (by repeat first | exact mH | apply mT) rfl) ?_)
  refine L_go rfl (X_wr (w_callP rfl rfl rfl (fun w hg => dvalid_c p _ w (hP.good hg))) ?_)
  rintro _ _ ⟨rfl, rfl⟩
  refine L_go rfl (X_p (p_assign rfl rfl) ?_)
  refine L_then (.cons (k := 3) rfl (.cons (k := 5) rfl .nil)) ?_
  refine V_seq (V_region rfl ?_)
  refine L_go rfl (X_p (p_move rfl rfl) ?_)
  refine L_go rfl (X_p (p_neq rfl rfl rfl) ?_)
  refine L_then (.cons (k := 3) rfl (.cons (k := 5) rfl (.cons (k := 9) rfl .nil))) ?_
  refine V_cond rfl ?_ ?_
  · intro c1; try simp only [td] at c1
    refine V_seq (V_region rfl ?_)
    refine L_go rfl (X_p (p_move rfl rfl) ?_)
    refine L_go rfl (X_p (p_assign rfl rfl) ?_)
    refine L_then (.cons (k := 4) rfl .nil) ?_
    refine V_ret (then_r ?_)
    refine Leave.nil (.tmp rfl .nil) ?_
    unfold areaE; rw [if_pos (by assumption)]; rfl
  · intro c1; try simp only [td] at c1
    refine V_skip (then_n ?_)
    refine V_seq ?_
    refine V_seq (V_region rfl ?_)
    refine L_go rfl (X_p (p_func rfl rfl rfl) ?_)
    refine L_go rfl (X_p (p_func rfl rfl rfl) ?_)
    refine L_go rfl (X_wr (w_slice (r := [_, _]) un170 sz30 zr30 rfl (by decide) rfl (by decide) rfl rfl) ?_)
    rintro _ _ ⟨b3, hb3, rfl, rfl⟩
    refine L_go rfl (X_wr (w_callP rfl rfl rfl (fun w hg => dsome_c [(69, #[.pointer (some ⟨b2, 0, none⟩)], offS x), (70, #[.pointer (some ⟨b2, 0, none⟩)], offS y)] _ w (own_rows (hg.own _ (by repeat first | exact mH | apply mT)) rfl (by simp) rfl (by decide)) (by simp) (fun j hj w' he => by
      have hh := he.heap (hg.own (b2, _) (by repeat first | exact mH | apply mT))
      rcases j with _ | _ | j
      · exact dasked1_c x y _ _ _ w' hh
      · exact dasked2_c x y _ _ _ w' hh
      · simp at hj; omega))) ?_)
    rintro _ _ ⟨rfl, rfl⟩
    refine L_then (.cons (k := 14) rfl .nil) ?_
    refine V_cond rfl ?_ ?_
    · intro c2; try simp only [td] at c2
      refine V_seq (V_region rfl ?_)
      refine L_go rfl (X_p (p_assign rfl rfl) ?_)
      refine L_then (.cons (k := 4) rfl .nil) ?_
      refine V_ret (then_r ?_)
      refine Leave.nil (.tmp rfl .nil) ?_
      unfold areaE; rw [if_neg (by omega), if_pos (by simpa using c2)]; rfl
    · intro c2; try simp only [td] at c2
      refine V_skip (then_n ?_)
      refine V_seq (V_region rfl ?_)
      refine L_go rfl (X_p (p_assign rfl rfl) ?_)
      refine L_then (.cons (k := 4) rfl .nil) ?_
      refine V_ret ?_
      refine Leave.nil (.tmp rfl .nil) ?_
      unfold areaE; rw [if_neg (by omega), if_neg (by simpa using c2)]; rfl

end Go.Proofs.YtlcccpeelombbaaDoor

/- Layer 6: boxes used, and lines measured, as the program finds them (plain). -/
set_option linter.all false
namespace Go.De
open Go.Vc Go.Tk

def usedW (p : Plan) (t : Task) (now : Int) : Nat → Int → Box × Int × Bool
  | 0, _ => (boxZ, 0, false)
  | k + 1, frm => if frm < 0 ∨ p.blind < now - frm then (boxZ, 0, false) else if (spareP t frm now).2 = 0 then
      ((aheadP t (spareP t frm now).1 (now - frm + p.wait + 1)).1, frm, decide ((aheadP t (spareP t frm now).1 (now - frm + p.wait + 1)).2 = 0))
    else usedW p t now k (frm - 1)
def usedQ (p : Plan) (t : Task) (now : Int) : Box × Int × Bool := usedW p t now (p.blind + 1).toNat now
section
variable {p : Plan} {t : Task} {now : Int}
theorem usedW_is : ∀ (k : Nat) (frm : Int), (∀ b f, usedN p t now k frm = some (b, f) → usedW p t now k frm = (b, f, true)) ∧ (usedN p t now k frm = none → (usedW p t now k frm).2.2 = false) := by
  intro k
  induction k with
  | zero => intro frm; exact ⟨fun b f h => (by cases h), fun _ => rfl⟩
  | succ k ih =>
    intro frm
    unfold usedN usedW
    split
    · exact ⟨fun b f h => (by cases h), fun _ => rfl⟩
    · split
      · split
        · rename_i h3
          refine ⟨fun b f h => ?_, fun h => (by cases h)⟩
          simp only [Option.some.injEq, Prod.mk.injEq] at h
          obtain ⟨rfl, rfl⟩ := h
          rw [decide_eq_true h3]
        · rename_i h3
          exact ⟨fun b f h => (by cases h), fun _ => decide_eq_false h3⟩
      · exact ih (frm - 1)
theorem usedQ_some {b : Box} {f : Int} (h : usedT p t now = some (b, f)) : usedQ p t now = (b, f, true) := (usedW_is _ _).1 b f h
theorem usedQ_none (h : usedT p t now = none) : (usedQ p t now).2.2 = false := (usedW_is _ _).2 h
theorem usedQ_t (h : (usedQ p t now).2.2 = true) : usedT p t now = some ((usedQ p t now).1, (usedQ p t now).2.1) := by
  cases hu : usedT p t now with
  | none => rw [usedQ_none hu] at h; cases h
  | some q => obtain ⟨b, f⟩ := q; rw [usedQ_some hu]
theorem usedQ_f (h : (usedQ p t now).2.2 = false) : usedT p t now = none := by
  cases hu : usedT p t now with
  | none => rfl
  | some q => obtain ⟨b, f⟩ := q; rw [usedQ_some hu] at h; cases h
theorem usedW_stop (k : Nat) {frm : Int} (h : frm < 0 ∨ p.blind < now - frm) : usedW p t now k frm = (boxZ, 0, false) := by
  cases k with
  | zero => rfl
  | succ k => unfold usedW; rw [if_pos h]
theorem usedW_hit {frm : Int} (h0 : 0 ≤ frm) (h1 : now - frm ≤ p.blind) (h2 : (spareP t frm now).2 = 0) : usedW p t now (p.blind + 1 - (now - frm)).toNat frm =
    ((aheadP t (spareP t frm now).1 (now - frm + p.wait + 1)).1, frm, decide ((aheadP t (spareP t frm now).1 (now - frm + p.wait + 1)).2 = 0)) := by
  rw [show (p.blind + 1 - (now - frm)).toNat = (p.blind - (now - frm)).toNat + 1 by omega, usedW, if_neg (by omega), if_pos h2]
theorem usedW_go {frm : Int} (h0 : 0 ≤ frm) (h1 : now - frm ≤ p.blind) (h2 : (spareP t frm now).2 ≠ 0) : usedW p t now (p.blind + 1 - (now - frm)).toNat frm = usedW p t now (p.blind + 1 - (now - (frm - 1))).toNat (frm - 1) := by
  rw [show (p.blind + 1 - (now - frm)).toNat = (p.blind - (now - frm)).toNat + 1 by omega, usedW, if_neg (by omega), if_neg h2, show p.blind - (now - frm) = p.blind + 1 - (now - (frm - 1)) by omega]
end

theorem most_bnd {l : Line} {x y : Span} (hl : LnB l) (hx : offS x = false) (hy : offS y = false) : (-4000000000000 ≤ mostL l x y ∧ mostL l x y ≤ 4000000000000) ∧ (-4000000000000 ≤ leastL l x y ∧ leastL l x y ≤ 4000000000000) := by
  have hx := off_false.1 hx
  have hy := off_false.1 hy
  have m0 := mul_abs (A := 1000) (B := 2000000000) (by omega) hl.a (b := x.lo) (by omega)
  have m1 := mul_abs (A := 1000) (B := 2000000000) (by omega) hl.a (b := x.hi) (by omega)
  have m2 := mul_abs (A := 1000) (B := 2000000000) (by omega) hl.b (b := y.lo) (by omega)
  have m3 := mul_abs (A := 1000) (B := 2000000000) (by omega) hl.b (b := y.hi) (by omega)
  unfold mostL leastL
  omega
def sideN (p : Plan) (x y : Span) (k : Nat) : List Int := (p.lines.take k).map fun l => l.line - mostL l x y
theorem sideN_succ {p : Plan} {x y : Span} {k : Nat} (hk : k < p.lines.length) : sideN p x y (k + 1) = sideN p x y k ++ [(p.ln k).line - mostL (p.ln k) x y] := by
  unfold sideN Plan.ln
  rw [List.getD_eq_getElem?_getD, List.getElem?_eq_getElem hk, List.take_succ, List.getElem?_eq_getElem hk, List.map_append]; rfl
theorem sideN_all {p : Plan} {x y : Span} (h : areaE p x y = 0) : sideN p x y p.lines.length = sideL p x y := by
  unfold sideN sideL
  rw [List.take_length, if_neg (by omega)]
theorem sideL_bad {p : Plan} {x y : Span} (h : areaE p x y ≠ 0) : sideL p x y = [] := if_pos h
theorem area_zero {p : Plan} {x y : Span} (h : areaE p x y = 0) : GoodP p ∧ offS x = false ∧ offS y = false := by
  unfold areaE at h
  split at h
  · contradiction
  · rename_i h1
    split at h
    · cases h
    · rename_i h2
      simp only [Bool.or_eq_true, not_or, Bool.not_eq_true] at h2
      exact ⟨good_of_plan (by omega), h2⟩
theorem GoodP.ln_at {p : Plan} (h : GoodP p) {i : Nat} (hi : i < p.lines.length) : LnB (p.ln i) := ln_zero (h.ln i hi)
/-- the lines beyond which a place is, from the first on -/
theorem over_hit {p : Plan} {x y : Span} {k : Int} (h0 : 0 ≤ k) (hk : k < p.lines.length) (hb : ∀ j : Nat, (j : Int) < k → mostL (p.ln j) x y ≤ (p.ln j).line) (h : (p.ln k.toNat).line < mostL (p.ln k.toNat) x y) : overI p x y = k := by
  unfold overI
  rw [Tk.firstIdx_hit (p := fun i => decide ((p.ln i).line < mostL (p.ln i) x y)) (k := k.toNat) (by omega) (decide_eq_true h) (fun j hj => decide_eq_false (by have := hb j (by omega); omega))]
  omega
theorem over_no {p : Plan} {x y : Span} (hb : ∀ j : Nat, j < p.lines.length → mostL (p.ln j) x y ≤ (p.ln j).line) : overI p x y = -1 := by
  unfold overI
  exact Tk.firstIdx_none fun j hj => decide_eq_false (by have := hb j hj; omega)
theorem over_neg {p : Plan} {x y : Span} (h : overI p x y < 0) : overI p x y = -1 := by
  refine over_no fun j hj => ?_
  unfold overI at h
  have := firstIdx_lt.1 h j hj
  have := of_decide_eq_false this
  omega
theorem area_fall {g : Span} {b : Box} (h : (fallT g b).e = 0) : offS (fallT g b).x = false ∧ offS (fallT g b).y = false := by
  obtain ⟨m, n, hi, _⟩ := fallT_is h
  have key : ∀ j, j ≤ n - m → InS (runF g b (m + j)).x ⟨-2000000000, 2000000000⟩ ∧ InS (runF g b (m + j)).y ⟨-2000000000, 2000000000⟩ := by
    intro j hj
    have := hi.off (m + j) (by have := hi.a1; omega) (by have := hi.ab; omega)
    simp only [offB, Bool.or_eq_false_iff, off_false] at this
    unfold InS; dsimp only; omega
  have h1 := hullF_sub (n - m) key
  have h2 := hullF_in (runF g b) m (n - m) 0 (by omega)
  have h3 := hi.off m hi.a1 hi.ab
  simp only [offB, Bool.or_eq_false_iff, off_false] at h3
  rw [← hi.x, ← hi.y] at h1 h2
  obtain ⟨⟨a1, a2⟩, ⟨b1, b2⟩⟩ := h1
  obtain ⟨⟨c1, c2⟩, ⟨d1, d2⟩⟩ := h2
  simp only [Nat.add_zero] at c1 c2 d1 d2
  dsimp only at a1 a2 b1 b2
  simp only [off_false]
  omega
theorem fallT_bad {g : Span} {b : Box} (h : ¬(fallT g b).e = 0) : (fallT g b).x = spZ ∧ (fallT g b).y = spZ ∧ (fallT g b).at_ = spZ := by
  have key : ∀ (k t : Nat) (acc : Option (Span × Span × Nat)), ¬(fallN (runF g b) b.at_ k t acc).e = 0 → (fallN (runF g b) b.at_ k t acc).x = spZ ∧ (fallN (runF g b) b.at_ k t acc).y = spZ ∧ (fallN (runF g b) b.at_ k t acc).at_ = spZ := by
    intro k
    induction k with
    | zero => intro t acc _; exact ⟨rfl, rfl, rfl⟩
    | succ k ih =>
      intro t acc
      unfold fallN
      split
      · intro _; exact ⟨rfl, rfl, rfl⟩
      · split
        · intro h; exfalso; apply h; unfold doneF; split <;> rfl
        · exact ih _ _
  exact key _ _ _ h
end Go.De
