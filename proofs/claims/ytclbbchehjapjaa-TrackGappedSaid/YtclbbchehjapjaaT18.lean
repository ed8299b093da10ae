/- Ytclbbchehjapjaa: the reference's Fails, Spare and Best. -/
import Derived.Test.YtclbbchehjapjaaT17
import Derived.Test.YtclbbchehjapjaaW
set_option linter.all false
namespace Go.Proofs.Ytclbbchehjapjaa
open Go.Vc Go.Tk
set_option maxRecDepth 100000
theorem rjoin_c (a b c d : Int) (w : World) : FnP Try.prog 113 [.agg #[.int .i64 a, .int .i64 b], .agg #[.int .i64 c, .int .i64 d]] w (.agg #[.int .i64 (min a c), .int .i64 (max b d)]) := by
  refine fn_pure Try.func113 rfl (by kernel_rfl) Try.ntmps113 Try.results113 rfl ?_
  refine V_seq (V_region rfl ?_)
  refine L_go rfl (X_wr (w_box rfl rfl) ?_)
  rintro _ _ ⟨b1, hb1, rfl, rfl⟩
  refine L_go rfl (X_wr (w_box rfl rfl) ?_)
  rintro _ _ ⟨b2, hb2, rfl, rfl⟩
  refine L_go rfl (X_wr (w_alloc zr33 rfl) ?_)
  rintro _ _ ⟨b3, hb3, rfl, rfl⟩
  refine L_then (.cons (k := 2) rfl (.cons (k := 3) rfl (.cons (k := 4) rfl .nil))) ?_
  refine V_seq (V_region rfl ?_)
  refine L_go rfl (X_p (p_fieldo fo33_0 rfl rfl) ?_)
  refine L_go rfl (X_rd (r_load ag3 rfl rfl (by repeat first | exact mH | apply mT) rfl) ?_)
  refine L_go rfl (X_p (p_fieldo fo33_0 rfl rfl) ?_)
  refine L_go rfl (X_rd (r_load ag3 rfl rfl (by repeat first | exact mH | apply mT) rfl) ?_)
  refine L_go rfl (X_p (p_min rfl rfl rfl) ?_)
  refine L_go rfl (X_p (p_fieldo fo33_1 rfl rfl) ?_)
  refine L_go rfl (X_rd (r_load ag3 rfl rfl (by repeat first | exact mH | apply mT) rfl) ?_)
  refine L_go rfl (X_p (p_fieldo fo33_1 rfl rfl) ?_)
  refine L_go rfl (X_rd (r_load ag3 rfl rfl (by repeat first | exact mH | apply mT) rfl) ?_)
  refine L_go rfl (X_p (p_max rfl rfl rfl) ?_)
  refine L_go rfl (X_p (p_build (r := [_, _]) pl33 zr33 rfl rfl rfl) ?_)
  refine L_go rfl (X_wr (w_store (cs' := [_, _]) sz33 rfl rfl rfl rfl rfl (by repeat first | exact .head | apply SetAt.tail) (Nat.le_of_ble_eq_true rfl) rfl) ?_)
  rintro _ _ ⟨rfl, rfl⟩
  refine L_then (.cons (k := 4) rfl .nil) ?_
  refine V_ret ?_
  refine Leave.nil (.cellA (us := [_, _]) rfl ag33 sz33 (by repeat first | exact mH | apply mT) rfl .nil) ?_
  rfl
theorem rJoin_c (a b : Box) (w : World) : FnP Try.prog 101 [.agg (Box.cells a).toArray, .agg (Box.cells b).toArray] w (.agg (Box.cells (joinB a b)).toArray) := by
  refine fn_pure Try.func101 rfl (by kernel_rfl) Try.ntmps101 Try.results101 rfl ?_
  refine V_seq (V_region rfl ?_)
  refine L_go rfl (X_wr (w_box rfl rfl) ?_)
  rintro _ _ ⟨b1, hb1, rfl, rfl⟩
  refine L_go rfl (X_wr (w_box rfl rfl) ?_)
  rintro _ _ ⟨b2, hb2, rfl, rfl⟩
  refine L_go rfl (X_wr (w_alloc zr35 rfl) ?_)
  rintro _ _ ⟨b3, hb3, rfl, rfl⟩
  refine L_then (.cons (k := 2) rfl (.cons (k := 3) rfl (.cons (k := 4) rfl .nil))) ?_
  refine V_seq (V_draw (.rd 0 (.rd 1 (.rd 2 (.rd 3 (.rd 4 (.rd 5 (.rd 7 (.rd 8 (.rd 9 (.rd 10 (.rd 12 (.rd 13 (.rd 14 (.rd 15 (.rd 17 (.rd 18 (.rd 19 (.rd 20 (.rd 22 (.rd 23 (.rd 24 (.rd 25 (.rd 27 (.rd 28 (.rd 29 (.rd 30 (.wr 6 [30, 29, 28, 27, 25, 24, 23, 22, 20, 19, 18, 17, 15, 14, 13, 12, 10, 9, 8, 7, 4, 2, 1, 0] (.wr 11 [30, 29, 28, 27, 25, 24, 23, 22, 20, 19, 18, 17, 15, 14, 13, 12, 9, 7, 5, 4, 3, 2, 1, 0] (.wr 16 [30, 29, 28, 27, 25, 24, 23, 22, 20, 19, 18, 17, 14, 12, 10, 9, 8, 7, 5, 4, 3, 2, 1, 0] (.wr 21 [30, 29, 28, 27, 25, 24, 23, 22, 19, 17, 15, 14, 13, 12, 10, 9, 8, 7, 5, 4, 3, 2, 1, 0] (.wr 26 [30, 29, 28, 27, 24, 22, 20, 19, 18, 17, 15, 14, 13, 12, 10, 9, 8, 7, 5, 4, 3, 2, 1, 0] (.wr 31 [29, 27, 25, 24, 23, 22, 20, 19, 18, 17, 15, 14, 13, 12, 10, 9, 8, 7, 5, 4, 3, 2, 1, 0] (.rd 32 (.wr 33 [] .done)))))))))))))))))))))))))))))))))) mixed (by kernel_rfl) rfl ?_)
  refine D_p rfl (.plain rfl) (p_fieldo fo35_0 rfl rfl) ?_
  refine D_rd rfl (.plain rfl) (r_load ag3 rfl rfl (by repeat first | exact mH | apply mT) rfl) ?_
  refine D_p rfl (.plain rfl) (p_fieldo fo35_1 rfl rfl) ?_
  refine D_rd rfl (.plain rfl) (r_loadA (vs := [_, _]) ag33 sz33 rfl rfl (by repeat first | exact mH | apply mT) rfl) ?_
  refine D_p rfl (.plain rfl) (p_fieldo fo35_1 rfl rfl) ?_
  refine D_rd rfl (.plain rfl) (r_loadA (vs := [_, _]) ag33 sz33 rfl rfl (by repeat first | exact mH | apply mT) rfl) ?_
  refine D_p rfl (.plain rfl) (p_fieldo fo35_2 rfl rfl) ?_
  refine D_rd rfl (.plain rfl) (r_loadA (vs := [_, _]) ag33 sz33 rfl rfl (by repeat first | exact mH | apply mT) rfl) ?_
  refine D_p rfl (.plain rfl) (p_fieldo fo35_2 rfl rfl) ?_
  refine D_rd rfl (.plain rfl) (r_loadA (vs := [_, _]) ag33 sz33 rfl rfl (by repeat first | exact mH | apply mT) rfl) ?_
  refine D_p rfl (.plain rfl) (p_fieldo fo35_3 rfl rfl) ?_
  refine D_rd rfl (.plain rfl) (r_loadA (vs := [_, _]) ag33 sz33 rfl rfl (by repeat first | exact mH | apply mT) rfl) ?_
  refine D_p rfl (.plain rfl) (p_fieldo fo35_3 rfl rfl) ?_
  refine D_rd rfl (.plain rfl) (r_loadA (vs := [_, _]) ag33 sz33 rfl rfl (by repeat first | exact mH | apply mT) rfl) ?_
  refine D_p rfl (.plain rfl) (p_fieldo fo35_4 rfl rfl) ?_
  refine D_rd rfl (.plain rfl) (r_loadA (vs := [_, _]) ag33 sz33 rfl rfl (by repeat first | exact mH | apply mT) rfl) ?_
  refine D_p rfl (.plain rfl) (p_fieldo fo35_4 rfl rfl) ?_
  refine D_rd rfl (.plain rfl) (r_loadA (vs := [_, _]) ag33 sz33 rfl rfl (by repeat first | exact mH | apply mT) rfl) ?_
  refine D_p rfl (.plain rfl) (p_fieldo fo35_5 rfl rfl) ?_
  refine D_rd rfl (.plain rfl) (r_loadA (vs := [_, _]) ag33 sz33 rfl rfl (by repeat first | exact mH | apply mT) rfl) ?_
  refine D_p rfl (.plain rfl) (p_fieldo fo35_5 rfl rfl) ?_
  refine D_rd rfl (.plain rfl) (r_loadA (vs := [_, _]) ag33 sz33 rfl rfl (by repeat first | exact mH | apply mT) rfl) ?_
  refine D_p rfl (.plain rfl) (p_fieldo fo35_6 rfl rfl) ?_
  refine D_rd rfl (.plain rfl) (r_loadA (vs := [_, _]) ag33 sz33 rfl rfl (by repeat first | exact mH | apply mT) rfl) ?_
  refine D_p rfl (.plain rfl) (p_fieldo fo35_6 rfl rfl) ?_
  refine D_rd rfl (.plain rfl) (r_loadA (vs := [_, _]) ag33 sz33 rfl rfl (by repeat first | exact mH | apply mT) rfl) ?_
  refine D_wr (.go (E' := [(30, _), (28, _), (25, _), (23, _), (20, _), (18, _), (15, _), (13, _), (10, _), (8, _), (1, _)]) rfl (.plain rfl) (w_callP rfl rfl rfl (fun w hg => rjoin_c _ _ _ _ w)) rfl ?_)
  rintro _ _ ⟨rfl, rfl⟩
  refine ⟨(.cons rfl (.plain rfl) (r_loadA (vs := [_, _]) ag33 sz33 rfl rfl (by repeat first | exact mH | apply mT) rfl) (.cons rfl (.plain rfl) (r_loadA (vs := [_, _]) ag33 sz33 rfl rfl (by repeat first | exact mH | apply mT) rfl) (.cons rfl (.plain rfl) (r_loadA (vs := [_, _]) ag33 sz33 rfl rfl (by repeat first | exact mH | apply mT) rfl) (.cons rfl (.plain rfl) (r_loadA (vs := [_, _]) ag33 sz33 rfl rfl (by repeat first | exact mH | apply mT) rfl) (.cons rfl (.plain rfl) (r_loadA (vs := [_, _]) ag33 sz33 rfl rfl (by repeat first | exact mH | apply mT) rfl) (.cons rfl (.plain rfl) (r_loadA (vs := [_, _]) ag33 sz33 rfl rfl (by repeat first | exact mH | apply mT) rfl) (.cons rfl (.plain rfl) (r_loadA (vs := [_, _]) ag33 sz33 rfl rfl (by repeat first | exact mH | apply mT) rfl) (.cons rfl (.plain rfl) (r_loadA (vs := [_, _]) ag33 sz33 rfl rfl (by repeat first | exact mH | apply mT) rfl) (.cons rfl (.plain rfl) (r_loadA (vs := [_, _]) ag33 sz33 rfl rfl (by repeat first | exact mH | apply mT) rfl) (.cons rfl (.plain rfl) (r_loadA (vs := [_, _]) ag33 sz33 rfl rfl (by repeat first | exact mH | apply mT) rfl) (.cons rfl (.plain rfl) (r_load ag3 rfl rfl (by repeat first | exact mH | apply mT) rfl) .nil))))))))))), ?_⟩
  refine D_wr (.go (E' := [(30, _), (28, _), (25, _), (23, _), (20, _), (18, _), (15, _), (13, _), (1, _)]) rfl (.plain rfl) (w_callP rfl rfl rfl (fun w hg => rjoin_c _ _ _ _ w)) rfl ?_)
  rintro _ _ ⟨rfl, rfl⟩
  refine ⟨(.cons rfl (.plain rfl) (r_loadA (vs := [_, _]) ag33 sz33 rfl rfl (by repeat first | exact mH | apply mT) rfl) (.cons rfl (.plain rfl) (r_loadA (vs := [_, _]) ag33 sz33 rfl rfl (by repeat first | exact mH | apply mT) rfl) (.cons rfl (.plain rfl) (r_loadA (vs := [_, _]) ag33 sz33 rfl rfl (by repeat first | exact mH | apply mT) rfl) (.cons rfl (.plain rfl) (r_loadA (vs := [_, _]) ag33 sz33 rfl rfl (by repeat first | exact mH | apply mT) rfl) (.cons rfl (.plain rfl) (r_loadA (vs := [_, _]) ag33 sz33 rfl rfl (by repeat first | exact mH | apply mT) rfl) (.cons rfl (.plain rfl) (r_loadA (vs := [_, _]) ag33 sz33 rfl rfl (by repeat first | exact mH | apply mT) rfl) (.cons rfl (.plain rfl) (r_loadA (vs := [_, _]) ag33 sz33 rfl rfl (by repeat first | exact mH | apply mT) rfl) (.cons rfl (.plain rfl) (r_loadA (vs := [_, _]) ag33 sz33 rfl rfl (by repeat first | exact mH | apply mT) rfl) (.cons rfl (.plain rfl) (r_load ag3 rfl rfl (by repeat first | exact mH | apply mT) rfl) .nil))))))))), ?_⟩
  refine D_wr (.go (E' := [(30, _), (28, _), (25, _), (23, _), (20, _), (18, _), (1, _)]) rfl (.plain rfl) (w_callP rfl rfl rfl (fun w hg => rjoin_c _ _ _ _ w)) rfl ?_)
  rintro _ _ ⟨rfl, rfl⟩
  refine ⟨(.cons rfl (.plain rfl) (r_loadA (vs := [_, _]) ag33 sz33 rfl rfl (by repeat first | exact mH | apply mT) rfl) (.cons rfl (.plain rfl) (r_loadA (vs := [_, _]) ag33 sz33 rfl rfl (by repeat first | exact mH | apply mT) rfl) (.cons rfl (.plain rfl) (r_loadA (vs := [_, _]) ag33 sz33 rfl rfl (by repeat first | exact mH | apply mT) rfl) (.cons rfl (.plain rfl) (r_loadA (vs := [_, _]) ag33 sz33 rfl rfl (by repeat first | exact mH | apply mT) rfl) (.cons rfl (.plain rfl) (r_loadA (vs := [_, _]) ag33 sz33 rfl rfl (by repeat first | exact mH | apply mT) rfl) (.cons rfl (.plain rfl) (r_loadA (vs := [_, _]) ag33 sz33 rfl rfl (by repeat first | exact mH | apply mT) rfl) (.cons rfl (.plain rfl) (r_load ag3 rfl rfl (by repeat first | exact mH | apply mT) rfl) .nil))))))), ?_⟩
  refine D_wr (.go (E' := [(30, _), (28, _), (25, _), (23, _), (1, _)]) rfl (.plain rfl) (w_callP rfl rfl rfl (fun w hg => rjoin_c _ _ _ _ w)) rfl ?_)
  rintro _ _ ⟨rfl, rfl⟩
  refine ⟨(.cons rfl (.plain rfl) (r_loadA (vs := [_, _]) ag33 sz33 rfl rfl (by repeat first | exact mH | apply mT) rfl) (.cons rfl (.plain rfl) (r_loadA (vs := [_, _]) ag33 sz33 rfl rfl (by repeat first | exact mH | apply mT) rfl) (.cons rfl (.plain rfl) (r_loadA (vs := [_, _]) ag33 sz33 rfl rfl (by repeat first | exact mH | apply mT) rfl) (.cons rfl (.plain rfl) (r_loadA (vs := [_, _]) ag33 sz33 rfl rfl (by repeat first | exact mH | apply mT) rfl) (.cons rfl (.plain rfl) (r_load ag3 rfl rfl (by repeat first | exact mH | apply mT) rfl) .nil))))), ?_⟩
  refine D_wr (.go (E' := [(30, _), (28, _), (1, _)]) rfl (.plain rfl) (w_callP rfl rfl rfl (fun w hg => rjoin_c _ _ _ _ w)) rfl ?_)
  rintro _ _ ⟨rfl, rfl⟩
  refine ⟨(.cons rfl (.plain rfl) (r_loadA (vs := [_, _]) ag33 sz33 rfl rfl (by repeat first | exact mH | apply mT) rfl) (.cons rfl (.plain rfl) (r_loadA (vs := [_, _]) ag33 sz33 rfl rfl (by repeat first | exact mH | apply mT) rfl) (.cons rfl (.plain rfl) (r_load ag3 rfl rfl (by repeat first | exact mH | apply mT) rfl) .nil))), ?_⟩
  refine D_wr (.go (E' := [(1, _)]) rfl (.plain rfl) (w_callP rfl rfl rfl (fun w hg => rjoin_c _ _ _ _ w)) rfl ?_)
  rintro _ _ ⟨rfl, rfl⟩
  refine ⟨(.cons rfl (.plain rfl) (r_load ag3 rfl rfl (by repeat first | exact mH | apply mT) rfl) .nil), ?_⟩
  refine D_p rfl (.plain rfl) (p_build (r := [_, _, _, _, _, _, _, _, _, _, _, _, _]) pl35 zr35 rfl rfl rfl) ?_
  refine D_wr (.go (E' := []) rfl (.plain rfl) (w_store (cs' := [_, _, _, _, _, _, _, _, _, _, _, _, _]) sz35 rfl rfl rfl rfl rfl (by repeat first | exact .head | apply SetAt.tail) (Nat.le_of_ble_eq_true rfl) rfl) rfl ?_)
  rintro _ _ ⟨rfl, rfl⟩
  refine ⟨.nil, ?_⟩
  refine D_then (.cons (k := 4) rfl .nil) ?_
  refine V_ret ?_
  refine Leave.nil (.cellA (us := [_, _, _, _, _, _, _, _, _, _, _, _, _]) rfl ag35 sz35 (by repeat first | exact mH | apply mT) rfl .nil) ?_
  rfl
theorem rWide_c (b : Box) (hb : BoxB 1000000000000000 b) (w : World) : FnP Try.prog 80 [.agg (Box.cells b).toArray] w (.int .i64 (wideB b)) := by
  obtain ⟨hx, hy, hz⟩ := hb
  unfold SpanB at hx hy hz
  refine fn_pure Try.func80 rfl (by kernel_rfl) Try.ntmps80 Try.results80 rfl ?_
  refine V_seq (V_region rfl ?_)
  refine L_go rfl (X_wr (w_box rfl rfl) ?_)
  rintro _ _ ⟨b1, hb1, rfl, rfl⟩
  refine L_go rfl (X_p (p_assign rfl rfl) ?_)
  refine L_then (.cons (k := 1) rfl .nil) ?_
  refine V_seq (V_region rfl ?_)
  refine L_go rfl (X_p (p_fieldo fo35_1 rfl rfl) ?_)
  refine L_go rfl (X_p (p_fieldo fo33_1 rfl rfl) ?_)
  refine L_go rfl (X_rd (r_load ag3 rfl rfl (by repeat first | exact mH | apply mT) rfl) ?_)
  refine L_go rfl (X_p (p_fieldo fo35_1 rfl rfl) ?_)
  refine L_go rfl (X_p (p_fieldo fo33_0 rfl rfl) ?_)
  refine L_go rfl (X_rd (r_load ag3 rfl rfl (by repeat first | exact mH | apply mT) rfl) ?_)
  first | refine L_go rfl (X_p (p_sub' rfl rfl rfl (by unfold InI; omega)) ?_) | refine L_go rfl (X_p (p_sub rfl rfl rfl) ?_)
  refine L_go rfl (X_p (p_fieldo fo35_2 rfl rfl) ?_)
  refine L_go rfl (X_p (p_fieldo fo33_1 rfl rfl) ?_)
  refine L_go rfl (X_rd (r_load ag3 rfl rfl (by repeat first | exact mH | apply mT) rfl) ?_)
  refine L_go rfl (X_p (p_fieldo fo35_2 rfl rfl) ?_)
  refine L_go rfl (X_p (p_fieldo fo33_0 rfl rfl) ?_)
  refine L_go rfl (X_rd (r_load ag3 rfl rfl (by repeat first | exact mH | apply mT) rfl) ?_)
  first | refine L_go rfl (X_p (p_sub' rfl rfl rfl (by unfold InI; omega)) ?_) | refine L_go rfl (X_p (p_sub rfl rfl rfl) ?_)
  refine L_go rfl (X_p (p_fieldo fo35_3 rfl rfl) ?_)
  refine L_go rfl (X_p (p_fieldo fo33_1 rfl rfl) ?_)
  refine L_go rfl (X_rd (r_load ag3 rfl rfl (by repeat first | exact mH | apply mT) rfl) ?_)
  refine L_go rfl (X_p (p_fieldo fo35_3 rfl rfl) ?_)
  refine L_go rfl (X_p (p_fieldo fo33_0 rfl rfl) ?_)
  refine L_go rfl (X_rd (r_load ag3 rfl rfl (by repeat first | exact mH | apply mT) rfl) ?_)
  first | refine L_go rfl (X_p (p_sub' rfl rfl rfl (by unfold InI; omega)) ?_) | refine L_go rfl (X_p (p_sub rfl rfl rfl) ?_)
  refine L_go rfl (X_p (p_max3 rfl rfl rfl rfl) ?_)
  refine L_go rfl (X_p (p_assign rfl rfl) ?_)
  refine L_then (.cons (k := 2) rfl .nil) ?_
  refine V_ret ?_
  refine Leave.nil (.tmp rfl .nil) ?_
  rfl
set_option maxHeartbeats 4000000 in
theorem rMeet_c (a b : Box) (ha : BoxNe a) (hb : BoxNe b) (w : World) : FnP Try.prog 79 [.agg (Box.cells a).toArray, .agg (Box.cells b).toArray] w (.bool (meetB a b)) := by
  obtain ⟨a1, a2, a3, a4, a5, a6⟩ := ha
  obtain ⟨b1, b2, b3, b4, b5, b6⟩ := hb
  refine fn_pure Try.func79 rfl (by kernel_rfl) Try.ntmps79 Try.results79 rfl ?_
  refine V_seq (V_region rfl ?_)
  refine L_go rfl (X_wr (w_box rfl rfl) ?_)
  rintro _ _ ⟨b1, hb1, rfl, rfl⟩
  refine L_go rfl (X_wr (w_box rfl rfl) ?_)
  rintro _ _ ⟨b2, hb2, rfl, rfl⟩
  refine L_go rfl (X_p (p_assign rfl rfl) ?_)
  refine L_then (.cons (k := 2) rfl (.cons (k := 3) rfl .nil)) ?_
  refine V_seq (V_region rfl ?_)
  refine L_go rfl (X_p (p_fieldo fo35_1 rfl rfl) ?_)
  refine L_go rfl (X_rd (r_loadA (vs := [_, _]) ag33 sz33 rfl rfl (by repeat first | exact mH | apply mT) rfl) ?_)
  refine L_go rfl (X_p (p_fieldo fo35_1 rfl rfl) ?_)
  refine L_go rfl (X_rd (r_loadA (vs := [_, _]) ag33 sz33 rfl rfl (by repeat first | exact mH | apply mT) rfl) ?_)
  refine L_go rfl (X_wr (w_callP rfl rfl rfl (fun w hg => rcommon_c _ _ _ _ w)) ?_)
  rintro _ _ ⟨rfl, rfl⟩
  refine L_go rfl (X_wr (w_callP rfl rfl rfl (fun w hg => rnone_c _ _ w)) ?_)
  rintro _ _ ⟨rfl, rfl⟩
  refine L_go rfl (X_p (p_not rfl rfl) ?_)
  refine L_go rfl (X_p (p_move rfl rfl) ?_)
  refine L_cases (d := 12) rfl ?_ ?_
  · intro g1; have g1' := g1; try simp only [td] at g1'
    simp only [Span.none, decide_eq_true_eq, decide_eq_false_iff_not] at g1'
    refine L_yes rfl rfl rfl g1 (X_p (p_fieldo fo35_2 rfl rfl) ?_)
    refine L_yes rfl rfl rfl g1 (X_rd (r_loadA (vs := [_, _]) ag33 sz33 rfl rfl (by repeat first | exact mH | apply mT) rfl) ?_)
    refine L_yes rfl rfl rfl g1 (X_p (p_fieldo fo35_2 rfl rfl) ?_)
    refine L_yes rfl rfl rfl g1 (X_rd (r_loadA (vs := [_, _]) ag33 sz33 rfl rfl (by repeat first | exact mH | apply mT) rfl) ?_)
    refine L_yes rfl rfl rfl g1 (X_wr (w_callP rfl rfl rfl (fun w hg => rcommon_c _ _ _ _ w)) ?_)
    rintro _ _ ⟨rfl, rfl⟩
    refine L_yes rfl rfl rfl g1 (X_wr (w_callP rfl rfl rfl (fun w hg => rnone_c _ _ w)) ?_)
    rintro _ _ ⟨rfl, rfl⟩
    refine L_yes rfl rfl rfl g1 (X_p (p_not rfl rfl) ?_)
    refine L_go rfl (X_p (p_pick_t rfl rfl g1 rfl) ?_)
    refine L_go rfl (X_p (p_move rfl rfl) ?_)
    refine L_cases (d := 21) rfl ?_ ?_
    · intro g2; have g2' := g2; try simp only [td] at g2'
      simp only [Span.none, decide_eq_true_eq, decide_eq_false_iff_not] at g2'
      refine L_yes rfl rfl rfl g2 (X_p (p_fieldo fo35_3 rfl rfl) ?_)
      refine L_yes rfl rfl rfl g2 (X_rd (r_loadA (vs := [_, _]) ag33 sz33 rfl rfl (by repeat first | exact mH | apply mT) rfl) ?_)
      refine L_yes rfl rfl rfl g2 (X_p (p_fieldo fo35_3 rfl rfl) ?_)
      refine L_yes rfl rfl rfl g2 (X_rd (r_loadA (vs := [_, _]) ag33 sz33 rfl rfl (by repeat first | exact mH | apply mT) rfl) ?_)
      refine L_yes rfl rfl rfl g2 (X_wr (w_callP rfl rfl rfl (fun w hg => rcommon_c _ _ _ _ w)) ?_)
      rintro _ _ ⟨rfl, rfl⟩
      refine L_yes rfl rfl rfl g2 (X_wr (w_callP rfl rfl rfl (fun w hg => rnone_c _ _ w)) ?_)
      rintro _ _ ⟨rfl, rfl⟩
      refine L_yes rfl rfl rfl g2 (X_p (p_not rfl rfl) ?_)
      refine L_go rfl (X_p (p_pick_t rfl rfl g2 rfl) ?_)
      refine L_go rfl (X_p (p_move rfl rfl) ?_)
      refine L_cases (d := 30) rfl ?_ ?_
      · intro g3; have g3' := g3; try simp only [td] at g3'
        simp only [Span.none, decide_eq_true_eq, decide_eq_false_iff_not] at g3'
        refine L_yes rfl rfl rfl g3 (X_p (p_fieldo fo35_4 rfl rfl) ?_)
        refine L_yes rfl rfl rfl g3 (X_rd (r_loadA (vs := [_, _]) ag33 sz33 rfl rfl (by repeat first | exact mH | apply mT) rfl) ?_)
        refine L_yes rfl rfl rfl g3 (X_p (p_fieldo fo35_4 rfl rfl) ?_)
        refine L_yes rfl rfl rfl g3 (X_rd (r_loadA (vs := [_, _]) ag33 sz33 rfl rfl (by repeat first | exact mH | apply mT) rfl) ?_)
        refine L_yes rfl rfl rfl g3 (X_wr (w_callP rfl rfl rfl (fun w hg => rcommon_c _ _ _ _ w)) ?_)
        rintro _ _ ⟨rfl, rfl⟩
        refine L_yes rfl rfl rfl g3 (X_wr (w_callP rfl rfl rfl (fun w hg => rnone_c _ _ w)) ?_)
        rintro _ _ ⟨rfl, rfl⟩
        refine L_yes rfl rfl rfl g3 (X_p (p_not rfl rfl) ?_)
        refine L_go rfl (X_p (p_pick_t rfl rfl g3 rfl) ?_)
        refine L_go rfl (X_p (p_move rfl rfl) ?_)
        refine L_cases (d := 39) rfl ?_ ?_
        · intro g4; have g4' := g4; try simp only [td] at g4'
          simp only [Span.none, decide_eq_true_eq, decide_eq_false_iff_not] at g4'
          refine L_yes rfl rfl rfl g4 (X_p (p_fieldo fo35_5 rfl rfl) ?_)
          refine L_yes rfl rfl rfl g4 (X_rd (r_loadA (vs := [_, _]) ag33 sz33 rfl rfl (by repeat first | exact mH | apply mT) rfl) ?_)
          refine L_yes rfl rfl rfl g4 (X_p (p_fieldo fo35_5 rfl rfl) ?_)
          refine L_yes rfl rfl rfl g4 (X_rd (r_loadA (vs := [_, _]) ag33 sz33 rfl rfl (by repeat first | exact mH | apply mT) rfl) ?_)
          refine L_yes rfl rfl rfl g4 (X_wr (w_callP rfl rfl rfl (fun w hg => rcommon_c _ _ _ _ w)) ?_)
          rintro _ _ ⟨rfl, rfl⟩
          refine L_yes rfl rfl rfl g4 (X_wr (w_callP rfl rfl rfl (fun w hg => rnone_c _ _ w)) ?_)
          rintro _ _ ⟨rfl, rfl⟩
          refine L_yes rfl rfl rfl g4 (X_p (p_not rfl rfl) ?_)
          refine L_go rfl (X_p (p_pick_t rfl rfl g4 rfl) ?_)
          refine L_go rfl (X_p (p_move rfl rfl) ?_)
          refine L_cases (d := 48) rfl ?_ ?_
          · intro g5; have g5' := g5; try simp only [td] at g5'
            simp only [Span.none, decide_eq_true_eq, decide_eq_false_iff_not] at g5'
            refine L_yes rfl rfl rfl g5 (X_p (p_fieldo fo35_6 rfl rfl) ?_)
            refine L_yes rfl rfl rfl g5 (X_rd (r_loadA (vs := [_, _]) ag33 sz33 rfl rfl (by repeat first | exact mH | apply mT) rfl) ?_)
            refine L_yes rfl rfl rfl g5 (X_p (p_fieldo fo35_6 rfl rfl) ?_)
            refine L_yes rfl rfl rfl g5 (X_rd (r_loadA (vs := [_, _]) ag33 sz33 rfl rfl (by repeat first | exact mH | apply mT) rfl) ?_)
            refine L_yes rfl rfl rfl g5 (X_wr (w_callP rfl rfl rfl (fun w hg => rcommon_c _ _ _ _ w)) ?_)
            rintro _ _ ⟨rfl, rfl⟩
            refine L_yes rfl rfl rfl g5 (X_wr (w_callP rfl rfl rfl (fun w hg => rnone_c _ _ w)) ?_)
            rintro _ _ ⟨rfl, rfl⟩
            refine L_yes rfl rfl rfl g5 (X_p (p_not rfl rfl) ?_)
            refine L_go rfl (X_p (p_pick_t rfl rfl g5 rfl) ?_)
            refine L_go rfl (X_p (p_assign rfl rfl) ?_)
            refine L_then (.cons (k := 4) rfl .nil) ?_
            refine V_ret ?_
            refine Leave.nil (.tmp rfl .nil) ?_
            show Value.bool (!(Span.none _)) = _; congr 1; rw [Bool.eq_iff_iff, meetB_iff]; simp only [Span.none, Bool.not_eq_true', decide_eq_false_iff_not]; omega
          · intro g5; have g5' := g5; try simp only [td] at g5'
            simp only [Span.none, decide_eq_true_eq, decide_eq_false_iff_not] at g5'
            refine L_no rfl rfl rfl g5 ?_
            refine L_no rfl rfl rfl g5 ?_
            refine L_no rfl rfl rfl g5 ?_
            refine L_no rfl rfl rfl g5 ?_
            refine L_no rfl rfl rfl g5 ?_
            refine L_no rfl rfl rfl g5 ?_
            refine L_no rfl rfl rfl g5 ?_
            refine L_go rfl (X_p (p_pick_f rfl rfl g5 rfl) ?_)
            refine L_go rfl (X_p (p_assign rfl rfl) ?_)
            refine L_then (.cons (k := 4) rfl .nil) ?_
            refine V_ret ?_
            refine Leave.nil (.tmp rfl .nil) ?_
            show Value.bool false = _; rw [show meetB a b = false by rw [← Bool.not_eq_true, meetB_iff]; omega]
        · intro g4; have g4' := g4; try simp only [td] at g4'
          simp only [Span.none, decide_eq_true_eq, decide_eq_false_iff_not] at g4'
          refine L_no rfl rfl rfl g4 ?_
          refine L_no rfl rfl rfl g4 ?_
          refine L_no rfl rfl rfl g4 ?_
          refine L_no rfl rfl rfl g4 ?_
          refine L_no rfl rfl rfl g4 ?_
          refine L_no rfl rfl rfl g4 ?_
          refine L_no rfl rfl rfl g4 ?_
          refine L_go rfl (X_p (p_pick_f rfl rfl g4 rfl) ?_)
          refine L_go rfl (X_p (p_move rfl rfl) ?_)
          refine L_no rfl rfl rfl rfl ?_
          refine L_no rfl rfl rfl rfl ?_
          refine L_no rfl rfl rfl rfl ?_
          refine L_no rfl rfl rfl rfl ?_
          refine L_no rfl rfl rfl rfl ?_
          refine L_no rfl rfl rfl rfl ?_
          refine L_no rfl rfl rfl rfl ?_
          refine L_go rfl (X_p (p_pick_f rfl rfl rfl rfl) ?_)
          refine L_go rfl (X_p (p_assign rfl rfl) ?_)
          refine L_then (.cons (k := 4) rfl .nil) ?_
          refine V_ret ?_
          refine Leave.nil (.tmp rfl .nil) ?_
          show Value.bool false = _; rw [show meetB a b = false by rw [← Bool.not_eq_true, meetB_iff]; omega]
      · intro g3; have g3' := g3; try simp only [td] at g3'
        simp only [Span.none, decide_eq_true_eq, decide_eq_false_iff_not] at g3'
        refine L_no rfl rfl rfl g3 ?_
        refine L_no rfl rfl rfl g3 ?_
        refine L_no rfl rfl rfl g3 ?_
        refine L_no rfl rfl rfl g3 ?_
        refine L_no rfl rfl rfl g3 ?_
        refine L_no rfl rfl rfl g3 ?_
        refine L_no rfl rfl rfl g3 ?_
        refine L_go rfl (X_p (p_pick_f rfl rfl g3 rfl) ?_)
        refine L_go rfl (X_p (p_move rfl rfl) ?_)
        refine L_no rfl rfl rfl rfl ?_
        refine L_no rfl rfl rfl rfl ?_
        refine L_no rfl rfl rfl rfl ?_
        refine L_no rfl rfl rfl rfl ?_
        refine L_no rfl rfl rfl rfl ?_
        refine L_no rfl rfl rfl rfl ?_
        refine L_no rfl rfl rfl rfl ?_
        refine L_go rfl (X_p (p_pick_f rfl rfl rfl rfl) ?_)
        refine L_go rfl (X_p (p_move rfl rfl) ?_)
        refine L_no rfl rfl rfl rfl ?_
        refine L_no rfl rfl rfl rfl ?_
        refine L_no rfl rfl rfl rfl ?_
        refine L_no rfl rfl rfl rfl ?_
        refine L_no rfl rfl rfl rfl ?_
        refine L_no rfl rfl rfl rfl ?_
        refine L_no rfl rfl rfl rfl ?_
        refine L_go rfl (X_p (p_pick_f rfl rfl rfl rfl) ?_)
        refine L_go rfl (X_p (p_assign rfl rfl) ?_)
        refine L_then (.cons (k := 4) rfl .nil) ?_
        refine V_ret ?_
        refine Leave.nil (.tmp rfl .nil) ?_
        show Value.bool false = _; rw [show meetB a b = false by rw [← Bool.not_eq_true, meetB_iff]; omega]
    · intro g2; have g2' := g2; try simp only [td] at g2'
      simp only [Span.none, decide_eq_true_eq, decide_eq_false_iff_not] at g2'
      refine L_no rfl rfl rfl g2 ?_
      refine L_no rfl rfl rfl g2 ?_
      refine L_no rfl rfl rfl g2 ?_
      refine L_no rfl rfl rfl g2 ?_
      refine L_no rfl rfl rfl g2 ?_
      refine L_no rfl rfl rfl g2 ?_
      refine L_no rfl rfl rfl g2 ?_
      refine L_go rfl (X_p (p_pick_f rfl rfl g2 rfl) ?_)
      refine L_go rfl (X_p (p_move rfl rfl) ?_)
      refine L_no rfl rfl rfl rfl ?_
      refine L_no rfl rfl rfl rfl ?_
      refine L_no rfl rfl rfl rfl ?_
      refine L_no rfl rfl rfl rfl ?_
      refine L_no rfl rfl rfl rfl ?_
      refine L_no rfl rfl rfl rfl ?_
      refine L_no rfl rfl rfl rfl ?_
      refine L_go rfl (X_p (p_pick_f rfl rfl rfl rfl) ?_)
      refine L_go rfl (X_p (p_move rfl rfl) ?_)
      refine L_no rfl rfl rfl rfl ?_
      refine L_no rfl rfl rfl rfl ?_
      refine L_no rfl rfl rfl rfl ?_
      refine L_no rfl rfl rfl rfl ?_
      refine L_no rfl rfl rfl rfl ?_
      refine L_no rfl rfl rfl rfl ?_
      refine L_no rfl rfl rfl rfl ?_
      refine L_go rfl (X_p (p_pick_f rfl rfl rfl rfl) ?_)
      refine L_go rfl (X_p (p_move rfl rfl) ?_)
      refine L_no rfl rfl rfl rfl ?_
      refine L_no rfl rfl rfl rfl ?_
      refine L_no rfl rfl rfl rfl ?_
      refine L_no rfl rfl rfl rfl ?_
      refine L_no rfl rfl rfl rfl ?_
      refine L_no rfl rfl rfl rfl ?_
      refine L_no rfl rfl rfl rfl ?_
      refine L_go rfl (X_p (p_pick_f rfl rfl rfl rfl) ?_)
      refine L_go rfl (X_p (p_assign rfl rfl) ?_)
      refine L_then (.cons (k := 4) rfl .nil) ?_
      refine V_ret ?_
      refine Leave.nil (.tmp rfl .nil) ?_
      show Value.bool false = _; rw [show meetB a b = false by rw [← Bool.not_eq_true, meetB_iff]; omega]
  · intro g1; have g1' := g1; try simp only [td] at g1'
    simp only [Span.none, decide_eq_true_eq, decide_eq_false_iff_not] at g1'
    refine L_no rfl rfl rfl g1 ?_
    refine L_no rfl rfl rfl g1 ?_
    refine L_no rfl rfl rfl g1 ?_
    refine L_no rfl rfl rfl g1 ?_
    refine L_no rfl rfl rfl g1 ?_
    refine L_no rfl rfl rfl g1 ?_
    refine L_no rfl rfl rfl g1 ?_
    refine L_go rfl (X_p (p_pick_f rfl rfl g1 rfl) ?_)
    refine L_go rfl (X_p (p_move rfl rfl) ?_)
    refine L_no rfl rfl rfl rfl ?_
    refine L_no rfl rfl rfl rfl ?_
    refine L_no rfl rfl rfl rfl ?_
    refine L_no rfl rfl rfl rfl ?_
    refine L_no rfl rfl rfl rfl ?_
    refine L_no rfl rfl rfl rfl ?_
    refine L_no rfl rfl rfl rfl ?_
    refine L_go rfl (X_p (p_pick_f rfl rfl rfl rfl) ?_)
    refine L_go rfl (X_p (p_move rfl rfl) ?_)
    refine L_no rfl rfl rfl rfl ?_
    refine L_no rfl rfl rfl rfl ?_
    refine L_no rfl rfl rfl rfl ?_
    refine L_no rfl rfl rfl rfl ?_
    refine L_no rfl rfl rfl rfl ?_
    refine L_no rfl rfl rfl rfl ?_
    refine L_no rfl rfl rfl rfl ?_
    refine L_go rfl (X_p (p_pick_f rfl rfl rfl rfl) ?_)
    refine L_go rfl (X_p (p_move rfl rfl) ?_)
    refine L_no rfl rfl rfl rfl ?_
    refine L_no rfl rfl rfl rfl ?_
    refine L_no rfl rfl rfl rfl ?_
    refine L_no rfl rfl rfl rfl ?_
    refine L_no rfl rfl rfl rfl ?_
    refine L_no rfl rfl rfl rfl ?_
    refine L_no rfl rfl rfl rfl ?_
    refine L_go rfl (X_p (p_pick_f rfl rfl rfl rfl) ?_)
    refine L_go rfl (X_p (p_move rfl rfl) ?_)
    refine L_no rfl rfl rfl rfl ?_
    refine L_no rfl rfl rfl rfl ?_
    refine L_no rfl rfl rfl rfl ?_
    refine L_no rfl rfl rfl rfl ?_
    refine L_no rfl rfl rfl rfl ?_
    refine L_no rfl rfl rfl rfl ?_
    refine L_no rfl rfl rfl rfl ?_
    refine L_go rfl (X_p (p_pick_f rfl rfl rfl rfl) ?_)
    refine L_go rfl (X_p (p_assign rfl rfl) ?_)
    refine L_then (.cons (k := 4) rfl .nil) ?_
    refine V_ret ?_
    refine Leave.nil (.tmp rfl .nil) ?_
    show Value.bool false = _; rw [show meetB a b = false by rw [← Bool.not_eq_true, meetB_iff]; omega]
set_option maxHeartbeats 4000000 in
theorem rspare_c (t : Task) (v : Value) (w : World) (ht : TaskR w v t) (hG : GoodT t) (u now : Int) (hu : 0 ≤ u ∧ u ≤ 100000) : FnP Try.prog 75 [v, .int .i64 u, .int .i64 now] w (boxV (spareT t u now)) := by
  have hT := ht
  obtain ⟨tv, pv, rfl, htr, hpl⟩ := ht.ex
  obtain ⟨ta, tc, rfl, htc, hte⟩ := htr.ex
  obtain ⟨pa, pc, rfl, hpc, hpe⟩ := hpl.ex
  have hltr := hT.ltr
  have hlpl := hT.lpl
  simp only [List.length_map] at hT htc hpc ⊢
  have htr5 := hG.h1
  refine fn_pure Try.func75 rfl (by kernel_rfl) Try.ntmps75 Try.results75 rfl ?_
  refine V_seq (V_region rfl ?_)
  refine L_go rfl (X_wr (w_box rfl rfl) ?_)
  rintro _ _ ⟨b1, hb1, rfl, rfl⟩
  refine L_go rfl (X_wr (w_alloc zr35 rfl) ?_)
  rintro _ _ ⟨b2, hb2, rfl, rfl⟩
  refine L_go rfl (X_p (p_assign rfl rfl) ?_)
  refine L_then (.cons (k := 1) rfl (.cons (k := 2) rfl (.cons (k := 3) rfl (.cons (k := 6) rfl .nil)))) ?_
  refine V_seq ?_
  refine V_seq (V_region rfl ?_)
  refine L_go rfl (X_p (p_fieldo fo25_3 rfl rfl) ?_)
  refine L_go rfl (X_rd (r_load ag22 rfl rfl (by repeat first | exact mH | apply mT) rfl) ?_)
  refine L_go rfl (X_p (p_len isl22 rfl rfl) ?_)
  refine L_go rfl (X_p (p_eql rfl rfl rfl) ?_)
  refine L_then (.cons (k := 1) rfl (.cons (k := 2) rfl (.cons (k := 3) rfl (.cons (k := 6) rfl (.cons (k := 16) rfl .nil))))) ?_
  refine V_cond rfl ?_ ?_
  · intro c1; have c1r := c1; try simp only [td] at c1
    refine V_seq (V_region rfl ?_)
    refine L_go rfl (X_rd (r_loadA (vs := [_, _, _, _, _]) ag25 sz25 rfl rfl (by repeat first | exact mH | apply mT) rfl) ?_)
    refine L_go rfl (X_p (p_move rfl rfl) ?_)
    refine L_go rfl (X_wr (w_callP rfl rfl rfl (fun w hg => (show FnP _ _ _ w (boxV (boxT t (byT t now fun _ => true) u)) from (byT_none hG now (fun _ => true) (by omega)).symm ▸ rbox_c t _ [] _ w (hT.good hg) (SliceR.nil _ _) hG (fun i hi => by cases hi) (by decide) u hu))) ?_)
    rintro _ _ ⟨rfl, rfl⟩
    refine L_go rfl (X_p (p_ext rfl rfl rfl) ?_)
    refine L_go rfl (X_p (p_ext rfl rfl rfl) ?_)
    refine L_go rfl (X_wr (w_store (cs' := [_, _, _, _, _, _, _, _, _, _, _, _, _]) sz35 rfl rfl rfl rfl rfl (by repeat first | exact .head | apply SetAt.tail) (Nat.le_of_ble_eq_true rfl) rfl) ?_)
    rintro _ _ ⟨rfl, rfl⟩
    refine L_go rfl (X_p (p_assign rfl rfl) ?_)
    refine L_then (.cons (k := 6) rfl (.cons (k := 7) rfl .nil)) ?_
    refine V_ret (then_r ?_)
    refine Leave.nil (.cellA (us := [_, _, _, _, _, _, _, _, _, _, _, _, _]) rfl ag35 sz35 (by repeat first | exact mH | apply mT) rfl (.tmp rfl .nil)) ?_
    have e : spareT t u now = boxT t (byT t now fun _ => true) u := if_pos (by omega)
    rw [e]; rfl
  · intro c1; have c1r := c1; try simp only [td] at c1
    refine V_skip (then_n ?_)
    refine V_seq (V_region rfl ?_)
    refine L_go rfl (X_wr (w_alloc zr35 rfl) ?_)
    rintro _ _ ⟨b3, hb3, rfl, rfl⟩
    refine L_then (.cons (k := 1) rfl (.cons (k := 2) rfl (.cons (k := 3) rfl (.cons (k := 6) rfl (.cons (k := 8) rfl .nil))))) ?_
    refine V_seq (V_region rfl ?_)
    refine L_go rfl (X_p (p_assign rfl rfl) ?_)
    refine L_then (.cons (k := 1) rfl (.cons (k := 2) rfl (.cons (k := 3) rfl (.cons (k := 6) rfl (.cons (k := 8) rfl (.cons (k := 9) rfl .nil)))))) ?_
    refine V_seq ?_
    refine V_seq (V_region rfl ?_)
    refine L_go rfl (X_p (p_assign rfl rfl) ?_)
    refine L_then (.cons (k := 1) rfl (.cons (k := 2) rfl (.cons (k := 3) rfl (.cons (k := 6) rfl (.cons (k := 8) rfl (.cons (k := 9) rfl (.cons (k := 10) rfl .nil))))))) ?_
    refine V_block ?_
    refine V_loop1 (γ := Int × Option Box) (.cons (k := 1) rfl (.cons (k := 2) rfl (.cons (k := 3) rfl (.cons (k := 6) rfl (.cons (k := 8) rfl .nil))))) (fun (k, acc) => [(10, .int .i64 k), (9, .bool acc.isSome)]) (fun (k, acc) => [(b3, .cells (Box.cells (acc.getD boxZ)).toArray 35), (b2, .cells (Box.cells boxZ).toArray 35), (b1, t.obj (.slice ta t.trackers.length tc) (.slice pa t.plots.length pc) 25)]) (fun (k, acc) => 0 ≤ k ∧ k ≤ t.trackers.length ∧ acc = foldB (othersV t u now k.toNat)) (fun (k, acc) => (t.trackers.length - k).toNat) ((0, none)) (.cons rfl (.cons rfl (.nil _))) (by repeat (first | exact List.nil_sublist _ | exact List.Sublist.refl _ | apply List.Sublist.cons_cons | apply List.Sublist.cons)) (⟨by omega, by omega, rfl⟩) ?_
    rintro ⟨k, acc⟩ hi
    obtain ⟨hk0, hk1, hacc⟩ := hi
    refine V_seq ?_
    refine V_seq (V_region rfl ?_)
    refine L_go rfl (X_p (p_move rfl rfl) ?_)
    refine L_go rfl (X_p (p_fieldo fo25_3 rfl rfl) ?_)
    refine L_go rfl (X_rd (r_load ag22 rfl rfl (by repeat first | exact mH | apply mT) rfl) ?_)
    refine L_go rfl (X_p (p_len isl22 rfl rfl) ?_)
    refine L_go rfl (X_p (p_lss rfl rfl rfl) ?_)
    refine L_then (.cons (k := 1) rfl (.cons (k := 2) rfl (.cons (k := 3) rfl (.cons (k := 6) rfl (.cons (k := 8) rfl (.cons (k := 9) rfl (.cons (k := 10) rfl (.cons (k := 26) rfl .nil)))))))) ?_
    refine V_cond rfl ?_ ?_
    · intro c2; have c2r := c2; try simp only [td] at c2
      refine V_skip (then_n ?_)
      refine V_seq ?_
      refine V_block ?_
      refine V_mid (γ := Nat) (.cons (k := 1) rfl (.cons (k := 2) rfl (.cons (k := 3) rfl (.cons (k := 6) rfl (.cons (k := 8) rfl (.cons (k := 9) rfl (.cons (k := 10) rfl .nil))))))) (fun x11 => [(11, .pointer (some ⟨x11, 0, none⟩)), (12, .bool (boxT t (byT t now (fun x => decide (x ≠ k))) u).isSome)]) (fun x11 => (x11, .cells (Box.cells ((boxT t (byT t now (fun x => decide (x ≠ k))) u).getD boxZ)).toArray 35) :: [(b3, .cells (Box.cells (acc.getD boxZ)).toArray 35), (b2, .cells (Box.cells boxZ).toArray 35), (b1, t.obj (.slice ta t.trackers.length tc) (.slice pa t.plots.length pc) 25)]) (fun x11 => True) ?_ ?_
      · refine V_draw (.rd 0 (.rd 1 (.rd 2 (.rd 3 (.rd 5 (.wr2 4 [5, 0] (.wr2 6 [3, 2, 1] (.rd 7 (.rd 8 (.rd 9 (.wr 10 [9, 8, 7, 5, 3, 2, 1, 0] (.wr 11 [9] (.rd 12 .done)))))) 10 [5, 3, 2, 1, 0] (.wr 6 [3, 2, 1] (.rd 7 (.rd 8 (.rd 9 (.wr 11 [9] (.rd 12 .done))))))) 10 [5, 3, 2, 1, 0] (.wr 4 [5, 0] (.wr 6 [3, 2, 1] (.rd 7 (.rd 8 (.rd 9 (.wr 11 [9] (.rd 12 .done))))))))))))) mixed (by kernel_rfl) rfl ?_
        refine D_rd rfl (.plain rfl) (r_loadA (vs := [_, _, _, _, _]) ag25 sz25 rfl rfl (by repeat first | exact mH | apply mT) rfl) ?_
        refine D_rd rfl (.plain rfl) (r_loadA (vs := [_, _, _, _, _]) ag25 sz25 rfl rfl (by repeat first | exact mH | apply mT) rfl) ?_
        refine D_p rfl (.plain rfl) (p_move rfl rfl) ?_
        refine D_p rfl (.plain rfl) (p_move rfl rfl) ?_
        refine D_p rfl (.plain rfl) (p_move rfl rfl) ?_
        refine D_wr2 rfl ?_ ?_
        · refine (.go (E' := [(0, _)]) rfl (.plain rfl) (w_callG (pre := [_, _, _]) rfl rfl rfl rfl (fun w hg => rby_c t _ w (hT.good hg) hG (k) (-1) now)) rfl ?_)
          rintro _ _ ⟨_, Gb, rfl, hfrb, svb, rfl, rfl, hgrb⟩
          try dsimp only at hgrb
          try simp only [List.cons_append, List.nil_append, List.append_nil]
          refine ⟨(.cons rfl (.plain rfl) (r_loadA (vs := [_, _, _, _, _]) ag25 sz25 rfl rfl (by repeat first | exact mH | apply mT) rfl) .nil), ?_⟩
          refine D_wr2 rfl ?_ ?_
          · refine (.go (E' := []) rfl (.plain rfl) (w_callP rfl rfl rfl (fun w hg => (show FnP _ _ _ w (boxV (boxT t (byT t now (fun x => decide (x ≠ k))) u)) from want_butF k ▸ rbox_c t _ (byT t now (wantR (k) (-1))) _ w (hT.good hg) (Grow.slice hgrb (fun p hp => hg.own p (by repeat first | exact hp | exact List.mem_append_left _ hp | apply List.mem_append_right | apply mT))) hG byT_bnd (Nat.le_trans byT_len hG.h2) u hu))) rfl ?_)
            rintro _ _ ⟨rfl, rfl⟩
            refine ⟨.nil, ?_⟩
            refine D_p rfl (.plain rfl) (p_move rfl rfl) ?_
            refine D_p rfl (.plain rfl) (p_ext rfl rfl rfl) ?_
            refine D_p rfl (.plain rfl) (p_ext rfl rfl rfl) ?_
            refine D_wr (.go (E' := []) rfl (.plain rfl) (w_alloc zr35 rfl) rfl ?_)
            rintro _ _ ⟨b5, hb5, rfl, rfl⟩
            refine ⟨.nil, ?_⟩
            refine D_wr (.go (E' := []) rfl (.plain rfl) (w_store (cs' := [_, _, _, _, _, _, _, _, _, _, _, _, _]) sz35 rfl rfl rfl rfl rfl (by repeat first | exact .head | apply SetAt.tail) (Nat.le_of_ble_eq_true rfl) rfl) rfl ?_)
            rintro _ _ ⟨rfl, rfl⟩
            refine ⟨.nil, ?_⟩
            refine D_p rfl (.plain rfl) (p_assign rfl rfl) ?_
            refine D_then (.cons (k := 1) rfl (.cons (k := 2) rfl (.cons (k := 3) rfl (.cons (k := 6) rfl (.cons (k := 8) rfl (.cons (k := 9) rfl (.cons (k := 10) rfl (.cons (k := 11) rfl (.cons (k := 12) rfl .nil))))))))) ?_
            refine ⟨b5, trivial, (.cons rfl (.cons rfl (.cons rfl (.cons rfl (.cons rfl (.cons rfl (.cons rfl (.cons rfl (.cons rfl (.nil _)))))))))), (by (try dsimp only); repeat (first | exact HSub.nil _ | refine HSub.take (by repeat first | exact Take.head | apply Take.tail) ?_ | exact HSub.refl _ | refine HSub.drop ?_ | refine HSub.app ?_)), rfl⟩
          · refine (.go (E' := [(0, _)]) rfl (.plain rfl) (w_alloc zr35 rfl) rfl ?_)
            rintro _ _ ⟨b5, hb5, rfl, rfl⟩
            refine ⟨(.cons rfl (.plain rfl) (r_loadA (vs := [_, _, _, _, _]) ag25 sz25 rfl rfl (by repeat first | exact mH | apply mT) rfl) .nil), ?_⟩
            refine D_wr (.go (E' := []) rfl (.plain rfl) (w_callP rfl rfl rfl (fun w hg => (show FnP _ _ _ w (boxV (boxT t (byT t now (fun x => decide (x ≠ k))) u)) from want_butF k ▸ rbox_c t _ (byT t now (wantR (k) (-1))) _ w (hT.good hg) (Grow.slice hgrb (fun p hp => hg.own p (by repeat first | exact hp | exact List.mem_append_left _ hp | apply List.mem_append_right | apply mT))) hG byT_bnd (Nat.le_trans byT_len hG.h2) u hu))) rfl ?_)
            rintro _ _ ⟨rfl, rfl⟩
            refine ⟨.nil, ?_⟩
            refine D_p rfl (.plain rfl) (p_move rfl rfl) ?_
            refine D_p rfl (.plain rfl) (p_ext rfl rfl rfl) ?_
            refine D_p rfl (.plain rfl) (p_ext rfl rfl rfl) ?_
            refine D_wr (.go (E' := []) rfl (.plain rfl) (w_store (cs' := [_, _, _, _, _, _, _, _, _, _, _, _, _]) sz35 rfl rfl rfl rfl rfl (by repeat first | exact .head | apply SetAt.tail) (Nat.le_of_ble_eq_true rfl) rfl) rfl ?_)
            rintro _ _ ⟨rfl, rfl⟩
            refine ⟨.nil, ?_⟩
            refine D_p rfl (.plain rfl) (p_assign rfl rfl) ?_
            refine D_then (.cons (k := 1) rfl (.cons (k := 2) rfl (.cons (k := 3) rfl (.cons (k := 6) rfl (.cons (k := 8) rfl (.cons (k := 9) rfl (.cons (k := 10) rfl (.cons (k := 11) rfl (.cons (k := 12) rfl .nil))))))))) ?_
            refine ⟨b5, trivial, (.cons rfl (.cons rfl (.cons rfl (.cons rfl (.cons rfl (.cons rfl (.cons rfl (.cons rfl (.cons rfl (.nil _)))))))))), (by (try dsimp only); repeat (first | exact HSub.nil _ | refine HSub.take (by repeat first | exact Take.head | apply Take.tail) ?_ | exact HSub.refl _ | refine HSub.drop ?_ | refine HSub.app ?_)), rfl⟩
        · refine (.go (E' := [(1, _), (0, _)]) rfl (.plain rfl) (w_alloc zr35 rfl) rfl ?_)
          rintro _ _ ⟨b4, hb4, rfl, rfl⟩
          refine ⟨(.cons rfl (.plain rfl) (r_loadA (vs := [_, _, _, _, _]) ag25 sz25 rfl rfl (by repeat first | exact mH | apply mT) rfl) (.cons rfl (.plain rfl) (r_loadA (vs := [_, _, _, _, _]) ag25 sz25 rfl rfl (by repeat first | exact mH | apply mT) rfl) .nil)), ?_⟩
          refine D_wr (.go (E' := [(0, _)]) rfl (.plain rfl) (w_callG (pre := [_, _, _, _]) rfl rfl rfl rfl (fun w hg => rby_c t _ w (hT.good hg) hG (k) (-1) now)) rfl ?_)
          rintro _ _ ⟨_, Gb, rfl, hfrb, svb, rfl, rfl, hgrb⟩
          try dsimp only at hgrb
          try simp only [List.cons_append, List.nil_append, List.append_nil]
          refine ⟨(.cons rfl (.plain rfl) (r_loadA (vs := [_, _, _, _, _]) ag25 sz25 rfl rfl (by repeat first | exact mH | apply mT) rfl) .nil), ?_⟩
          refine D_wr (.go (E' := []) rfl (.plain rfl) (w_callP rfl rfl rfl (fun w hg => (show FnP _ _ _ w (boxV (boxT t (byT t now (fun x => decide (x ≠ k))) u)) from want_butF k ▸ rbox_c t _ (byT t now (wantR (k) (-1))) _ w (hT.good hg) (Grow.slice hgrb (fun p hp => hg.own p (by repeat first | exact hp | exact List.mem_append_left _ hp | apply List.mem_append_right | apply mT))) hG byT_bnd (Nat.le_trans byT_len hG.h2) u hu))) rfl ?_)
          rintro _ _ ⟨rfl, rfl⟩
          refine ⟨.nil, ?_⟩
          refine D_p rfl (.plain rfl) (p_move rfl rfl) ?_
          refine D_p rfl (.plain rfl) (p_ext rfl rfl rfl) ?_
          refine D_p rfl (.plain rfl) (p_ext rfl rfl rfl) ?_
          refine D_wr (.go (E' := []) rfl (.plain rfl) (w_store (cs' := [_, _, _, _, _, _, _, _, _, _, _, _, _]) sz35 rfl rfl rfl rfl rfl (by repeat first | exact .head | apply SetAt.tail) (Nat.le_of_ble_eq_true rfl) rfl) rfl ?_)
          rintro _ _ ⟨rfl, rfl⟩
          refine ⟨.nil, ?_⟩
          refine D_p rfl (.plain rfl) (p_assign rfl rfl) ?_
          refine D_then (.cons (k := 1) rfl (.cons (k := 2) rfl (.cons (k := 3) rfl (.cons (k := 6) rfl (.cons (k := 8) rfl (.cons (k := 9) rfl (.cons (k := 10) rfl (.cons (k := 11) rfl (.cons (k := 12) rfl .nil))))))))) ?_
          refine ⟨b4, trivial, (.cons rfl (.cons rfl (.cons rfl (.cons rfl (.cons rfl (.cons rfl (.cons rfl (.cons rfl (.cons rfl (.nil _)))))))))), (by (try dsimp only); repeat (first | exact HSub.nil _ | refine HSub.take (by repeat first | exact Take.head | apply Take.tail) ?_ | exact HSub.refl _ | refine HSub.drop ?_ | refine HSub.app ?_)), rfl⟩
      · rintro x11 _
        refine V_seq ?_
        refine V_seq (V_region rfl ?_)
        refine L_go rfl (X_p (p_move rfl rfl) ?_)
        refine L_go rfl (X_p (p_move rfl rfl) ?_)
        refine L_cases (d := 40) rfl ?_ ?_
        · intro g1; have g1' := g1; try simp only [td] at g1'
          refine L_yes rfl rfl rfl g1 (X_p (p_move rfl rfl) ?_)
          refine L_go rfl (X_p (p_pick_t rfl rfl g1 rfl) ?_)
          refine L_then (.cons (k := 1) rfl (.cons (k := 2) rfl (.cons (k := 3) rfl (.cons (k := 6) rfl (.cons (k := 8) rfl (.cons (k := 9) rfl (.cons (k := 10) rfl (.cons (k := 11) rfl (.cons (k := 12) rfl (.cons (k := 42) rfl .nil)))))))))) ?_
          refine V_cond rfl ?_ ?_
          · intro c3; have c3r := c3; try simp only [td] at c3
            obtain ⟨a, rfl⟩ := isSome_ex c3
            refine V_region rfl ?_
            refine L_go rfl (X_rd (r_loadA (vs := [_, _, _, _, _, _, _, _, _, _, _, _, _]) ag35 sz35 rfl rfl (by repeat first | exact mH | apply mT) rfl) ?_)
            refine L_go rfl (X_rd (r_loadA (vs := [_, _, _, _, _, _, _, _, _, _, _, _, _]) ag35 sz35 rfl rfl (by repeat first | exact mH | apply mT) rfl) ?_)
            refine L_go rfl (X_wr (w_callP rfl rfl rfl (fun w hg => rJoin_c _ _ w)) ?_)
            rintro _ _ ⟨rfl, rfl⟩
            refine L_go rfl (X_wr (w_store (cs' := [_, _, _, _, _, _, _, _, _, _, _, _, _]) sz35 rfl rfl rfl rfl rfl (by repeat first | exact .head | apply SetAt.tail) (Nat.le_of_ble_eq_true rfl) rfl) ?_)
            rintro _ _ ⟨rfl, rfl⟩
            refine L_then (.cons (k := 1) rfl (.cons (k := 2) rfl (.cons (k := 3) rfl (.cons (k := 6) rfl (.cons (k := 8) rfl (.cons (k := 9) rfl (.cons (k := 10) rfl (.cons (k := 11) rfl (.cons (k := 12) rfl .nil))))))))) ?_
            refine V_seq (V_region rfl ?_)
            refine L_go rfl (X_p (p_move rfl rfl) ?_)
            refine L_go rfl (X_p (p_move rfl rfl) ?_)
            refine L_yes rfl rfl rfl g1 (X_p (p_move rfl rfl) ?_)
            refine L_yes rfl rfl rfl g1 (X_p (p_not rfl rfl) ?_)
            refine L_go rfl (X_p (p_pick_t rfl rfl g1 rfl) ?_)
            refine L_then (.cons (k := 1) rfl (.cons (k := 2) rfl (.cons (k := 3) rfl (.cons (k := 6) rfl (.cons (k := 8) rfl (.cons (k := 9) rfl (.cons (k := 10) rfl (.cons (k := 11) rfl (.cons (k := 50) rfl .nil))))))))) ?_
            refine V_cond_f rfl (notk_t c3r) ?_
            refine V_skip (blk_n (then_n ?_))
            refine V_region rfl ?_
            refine L_go rfl (X_p (p_move rfl rfl) ?_)
            first | refine L_go rfl (X_p (p_add' rfl rfl rfl (by unfold InI; omega)) ?_) | refine L_go rfl (X_p (p_add rfl rfl rfl) ?_)
            refine L_go rfl (X_p (p_assign rfl rfl) ?_)
            refine L_keep (.cons (k := 1) rfl (.cons (k := 2) rfl (.cons (k := 3) rfl (.cons (k := 6) rfl (.cons (k := 8) rfl (.cons (k := 9) rfl (.cons (k := 10) rfl .nil))))))) (then_n ?_)
            refine ⟨(k + 1, some (joinB a ((boxT t (byT t now (fun x => decide (x ≠ k))) u).getD boxZ))), ?_, ?_, (.cons rfl (.cons rfl (.cons rfl (.cons rfl (.cons rfl (.cons rfl (.cons rfl (.nil _)))))))), (by repeat (first | exact List.nil_sublist _ | exact List.Sublist.refl _ | apply List.Sublist.cons_cons | apply List.Sublist.cons | apply List.sublist_append_of_sublist_right)), rfl⟩
            · refine ⟨by omega, by omega, ?_⟩
              rw [foldB_yes hk0 (isSome_get g1), ← hacc]; rfl
            · dsimp only; omega
          · intro c3; have c3r := c3; try simp only [td] at c3
            obtain rfl := isSome_none c3
            refine V_skip (then_n ?_)
            refine V_seq (V_region rfl ?_)
            refine L_go rfl (X_p (p_move rfl rfl) ?_)
            refine L_go rfl (X_p (p_move rfl rfl) ?_)
            refine L_yes rfl rfl rfl g1 (X_p (p_move rfl rfl) ?_)
            refine L_yes rfl rfl rfl g1 (X_p (p_not rfl rfl) ?_)
            refine L_go rfl (X_p (p_pick_t rfl rfl g1 rfl) ?_)
            refine L_then (.cons (k := 1) rfl (.cons (k := 2) rfl (.cons (k := 3) rfl (.cons (k := 6) rfl (.cons (k := 8) rfl (.cons (k := 9) rfl (.cons (k := 10) rfl (.cons (k := 11) rfl (.cons (k := 50) rfl .nil))))))))) ?_
            refine V_cond_t rfl (notk_f c3r) ?_
            refine V_region rfl ?_
            refine L_go rfl (X_rd (r_loadA (vs := [_, _, _, _, _, _, _, _, _, _, _, _, _]) ag35 sz35 rfl rfl (by repeat first | exact mH | apply mT) rfl) ?_)
            refine L_go rfl (X_wr (w_store (cs' := [_, _, _, _, _, _, _, _, _, _, _, _, _]) sz35 rfl rfl rfl rfl rfl (by repeat first | exact .head | apply SetAt.tail) (Nat.le_of_ble_eq_true rfl) rfl) ?_)
            rintro _ _ ⟨rfl, rfl⟩
            refine L_go rfl (X_p (p_assign rfl rfl) ?_)
            refine L_keep (.cons (k := 1) rfl (.cons (k := 2) rfl (.cons (k := 3) rfl (.cons (k := 6) rfl (.cons (k := 8) rfl (.cons (k := 9) rfl (.cons (k := 10) rfl .nil))))))) (blk_n (then_n ?_))
            refine V_region rfl ?_
            refine L_go rfl (X_p (p_move rfl rfl) ?_)
            first | refine L_go rfl (X_p (p_add' rfl rfl rfl (by unfold InI; omega)) ?_) | refine L_go rfl (X_p (p_add rfl rfl rfl) ?_)
            refine L_go rfl (X_p (p_assign rfl rfl) ?_)
            refine L_keep (.cons (k := 1) rfl (.cons (k := 2) rfl (.cons (k := 3) rfl (.cons (k := 6) rfl (.cons (k := 8) rfl (.cons (k := 9) rfl (.cons (k := 10) rfl .nil))))))) (then_n ?_)
            refine ⟨(k + 1, some ((boxT t (byT t now (fun x => decide (x ≠ k))) u).getD boxZ)), ?_, ?_, (.cons rfl (.cons rfl (.cons rfl (.cons rfl (.cons rfl (.cons rfl (.cons rfl (.nil _)))))))), (by repeat (first | exact List.nil_sublist _ | exact List.Sublist.refl _ | apply List.Sublist.cons_cons | apply List.Sublist.cons | apply List.sublist_append_of_sublist_right)), rfl⟩
            · refine ⟨by omega, by omega, ?_⟩
              rw [foldB_yes hk0 (isSome_get g1), ← hacc]; rfl
            · dsimp only; omega
        · intro g1; have g1' := g1; try simp only [td] at g1'
          refine L_no rfl rfl rfl g1 ?_
          refine L_go rfl (X_p (p_pick_f rfl rfl g1 rfl) ?_)
          refine L_then (.cons (k := 1) rfl (.cons (k := 2) rfl (.cons (k := 3) rfl (.cons (k := 6) rfl (.cons (k := 8) rfl (.cons (k := 9) rfl (.cons (k := 10) rfl (.cons (k := 11) rfl (.cons (k := 12) rfl (.cons (k := 42) rfl .nil)))))))))) ?_
          refine V_cond_f rfl rfl ?_
          refine V_skip (then_n ?_)
          refine V_seq (V_region rfl ?_)
          refine L_go rfl (X_p (p_move rfl rfl) ?_)
          refine L_go rfl (X_p (p_move rfl rfl) ?_)
          refine L_no rfl rfl rfl g1 ?_
          refine L_no rfl rfl rfl g1 ?_
          refine L_go rfl (X_p (p_pick_f rfl rfl g1 rfl) ?_)
          refine L_then (.cons (k := 1) rfl (.cons (k := 2) rfl (.cons (k := 3) rfl (.cons (k := 6) rfl (.cons (k := 8) rfl (.cons (k := 9) rfl (.cons (k := 10) rfl (.cons (k := 11) rfl (.cons (k := 50) rfl .nil))))))))) ?_
          refine V_cond_f rfl rfl ?_
          refine V_skip (blk_n (then_n ?_))
          refine V_region rfl ?_
          refine L_go rfl (X_p (p_move rfl rfl) ?_)
          first | refine L_go rfl (X_p (p_add' rfl rfl rfl (by unfold InI; omega)) ?_) | refine L_go rfl (X_p (p_add rfl rfl rfl) ?_)
          refine L_go rfl (X_p (p_assign rfl rfl) ?_)
          refine L_keep (.cons (k := 1) rfl (.cons (k := 2) rfl (.cons (k := 3) rfl (.cons (k := 6) rfl (.cons (k := 8) rfl (.cons (k := 9) rfl (.cons (k := 10) rfl .nil))))))) (then_n ?_)
          refine ⟨(k + 1, acc), ?_, ?_, (.cons rfl (.cons rfl (.cons rfl (.cons rfl (.cons rfl (.cons rfl (.cons rfl (.nil _)))))))), (by repeat (first | exact List.nil_sublist _ | exact List.Sublist.refl _ | apply List.Sublist.cons_cons | apply List.Sublist.cons | apply List.sublist_append_of_sublist_right)), rfl⟩
          · refine ⟨by omega, by omega, ?_⟩
            rw [foldB_no hk0 (isSome_none g1)]; exact hacc
          · dsimp only; omega
    · intro c2; have c2r := c2; try simp only [td] at c2
      refine V_exit (then_e (then_e (blk_e rfl (then_n ?_))))
      refine V_seq (V_region rfl ?_)
      refine L_go rfl (X_rd (r_loadA (vs := [_, _, _, _, _, _, _, _, _, _, _, _, _]) ag35 sz35 rfl rfl (by repeat first | exact mH | apply mT) rfl) ?_)
      refine L_go rfl (X_p (p_move rfl rfl) ?_)
      refine L_go rfl (X_wr (w_store (cs' := [_, _, _, _, _, _, _, _, _, _, _, _, _]) sz35 rfl rfl rfl rfl rfl (by repeat first | exact .head | apply SetAt.tail) (Nat.le_of_ble_eq_true rfl) rfl) ?_)
      rintro _ _ ⟨rfl, rfl⟩
      refine L_go rfl (X_p (p_assign rfl rfl) ?_)
      refine L_then (.cons (k := 6) rfl (.cons (k := 7) rfl .nil)) ?_
      refine V_ret ?_
      refine Leave.nil (.cellA (us := [_, _, _, _, _, _, _, _, _, _, _, _, _]) rfl ag35 sz35 (by repeat first | exact mH | apply mT) rfl (.tmp rfl .nil)) ?_
      have ek : k.toNat = t.trackers.length := by omega
      rw [ek] at hacc
      have e : spareT t u now = acc := by rw [spareT, if_neg (by omega), hacc]
      rw [e]; rfl
set_option maxHeartbeats 4000000 in
theorem rspareR_c (t : Task) (v : Value) (w : World) (ht : TaskR w v t) (u now : Int) : FnP Try.prog 32 [v, .int .i64 u, .int .i64 now] w (.tuple #[.agg (Box.cells (spareP t u now).1).toArray, .int .i64 (spareP t u now).2]) := by
  have hT := ht
  obtain ⟨tv, pv, rfl, htr, hpl⟩ := ht.ex
  obtain ⟨ta, tc, rfl, htc, hte⟩ := htr.ex
  obtain ⟨pa, pc, rfl, hpc, hpe⟩ := hpl.ex
  have hltr := hT.ltr
  have hlpl := hT.lpl
  simp only [List.length_map] at hT htc hpc ⊢
  refine fn_pure Try.func32 rfl (by kernel_rfl) Try.ntmps32 Try.results32 rfl ?_
  refine V_seq (V_region rfl ?_)
  refine L_go rfl (X_wr (w_box rfl rfl) ?_)
  rintro _ _ ⟨b1, hb1, rfl, rfl⟩
  refine L_go rfl (X_wr (w_alloc zr35 rfl) ?_)
  rintro _ _ ⟨b2, hb2, rfl, rfl⟩
  refine L_go rfl (X_p (p_assign rfl rfl) ?_)
  refine L_then (.cons (k := 1) rfl (.cons (k := 2) rfl (.cons (k := 3) rfl (.cons (k := 6) rfl .nil)))) ?_
  refine V_seq (V_region rfl ?_)
  refine L_go rfl (X_rd (r_loadA (vs := [_, _, _, _, _]) ag25 sz25 rfl rfl (by repeat first | exact mH | apply mT) rfl) ?_)
  refine L_go rfl (X_p (p_move rfl rfl) ?_)
  refine L_go rfl (X_p (p_move rfl rfl) ?_)
  refine L_go rfl (X_wr (w_callP rfl rfl rfl (fun w hg => rasked_c t _ w (hT.good hg) _ _)) ?_)
  rintro _ _ ⟨rfl, rfl⟩
  refine L_go rfl (X_p (p_assign rfl rfl) ?_)
  refine L_then (.cons (k := 1) rfl (.cons (k := 2) rfl (.cons (k := 3) rfl (.cons (k := 6) rfl (.cons (k := 8) rfl .nil))))) ?_
  refine V_seq ?_
  refine V_seq (V_region rfl ?_)
  refine L_go rfl (X_p (p_move rfl rfl) ?_)
  refine L_go rfl (X_p (p_neq rfl rfl rfl) ?_)
  refine L_then (.cons (k := 1) rfl (.cons (k := 2) rfl (.cons (k := 3) rfl (.cons (k := 6) rfl (.cons (k := 8) rfl (.cons (k := 16) rfl .nil)))))) ?_
  refine V_cond rfl ?_ ?_
  · intro c1; try simp only [td] at c1
    refine V_seq (V_region rfl ?_)
    refine L_go rfl (X_p (p_build (r := [_, _, _, _, _, _, _, _, _, _, _, _, _]) pl35 zr35 rfl rfl rfl) ?_)
    refine L_go rfl (X_p (p_move rfl rfl) ?_)
    refine L_go rfl (X_wr (w_store (cs' := [_, _, _, _, _, _, _, _, _, _, _, _, _]) sz35 rfl rfl rfl rfl rfl (by repeat first | exact .head | apply SetAt.tail) (Nat.le_of_ble_eq_true rfl) rfl) ?_)
    rintro _ _ ⟨rfl, rfl⟩
    refine L_go rfl (X_p (p_assign rfl rfl) ?_)
    refine L_then (.cons (k := 6) rfl (.cons (k := 7) rfl .nil)) ?_
    refine V_ret (then_r ?_)
    refine Leave.nil (.cellA (us := [_, _, _, _, _, _, _, _, _, _, _, _, _]) rfl ag35 sz35 (by repeat first | exact mH | apply mT) rfl (.tmp rfl .nil)) ?_
    rw [spareP, if_pos c1]; rfl
  · intro c1; try simp only [td] at c1
    obtain ⟨hG, hn⟩ := asked_zero c1
    have hu := hn u (.head _)
    have hw : spareP t u now = foundP (spareT t u now) := if_neg (fun h => h c1)
    refine V_skip (then_n ?_)
    refine V_seq (V_region rfl ?_)
    refine L_go rfl (X_rd (r_loadA (vs := [_, _, _, _, _]) ag25 sz25 rfl rfl (by repeat first | exact mH | apply mT) rfl) ?_)
    refine L_go rfl (X_p (p_move rfl rfl) ?_)
    refine L_go rfl (X_p (p_move rfl rfl) ?_)
    refine L_go rfl (X_wr (w_callP rfl rfl rfl (fun w hg => rspare_c t _ w (hT.good hg) hG u now hu)) ?_)
    rintro _ _ ⟨rfl, rfl⟩
    refine L_go rfl (X_p (p_move rfl rfl) ?_)
    refine L_go rfl (X_p (p_ext rfl rfl rfl) ?_)
    refine L_go rfl (X_p (p_ext rfl rfl rfl) ?_)
    refine L_go rfl (X_wr (w_alloc zr35 rfl) ?_)
    rintro _ _ ⟨b3, hb3, rfl, rfl⟩
    refine L_go rfl (X_wr (w_store (cs' := [_, _, _, _, _, _, _, _, _, _, _, _, _]) sz35 rfl rfl rfl rfl rfl (by repeat first | exact .head | apply SetAt.tail) (Nat.le_of_ble_eq_true rfl) rfl) ?_)
    rintro _ _ ⟨rfl, rfl⟩
    refine L_go rfl (X_p (p_assign rfl rfl) ?_)
    refine L_then (.cons (k := 6) rfl (.cons (k := 9) rfl (.cons (k := 10) rfl .nil))) ?_
    refine V_seq ?_
    refine V_seq (V_region rfl ?_)
    refine L_go rfl (X_p (p_move rfl rfl) ?_)
    refine L_go rfl (X_p (p_not rfl rfl) ?_)
    refine L_then (.cons (k := 6) rfl (.cons (k := 9) rfl (.cons (k := 27) rfl .nil))) ?_
    refine V_cond rfl ?_ ?_
    · intro c2; try simp only [td] at c2
      refine V_seq (V_region rfl ?_)
      refine L_go rfl (X_p (p_build (r := [_, _, _, _, _, _, _, _, _, _, _, _, _]) pl35 zr35 rfl rfl rfl) ?_)
      refine L_go rfl (X_wr (w_store (cs' := [_, _, _, _, _, _, _, _, _, _, _, _, _]) sz35 rfl rfl rfl rfl rfl (by repeat first | exact .head | apply SetAt.tail) (Nat.le_of_ble_eq_true rfl) rfl) ?_)
      rintro _ _ ⟨rfl, rfl⟩
      refine L_go rfl (X_p (p_assign rfl rfl) ?_)
      refine L_then (.cons (k := 6) rfl (.cons (k := 7) rfl .nil)) ?_
      refine V_ret (then_r ?_)
      refine Leave.nil (.cellA (us := [_, _, _, _, _, _, _, _, _, _, _, _, _]) rfl ag35 sz35 (by repeat first | exact mH | apply mT) rfl (.tmp rfl .nil)) ?_
      rw [hw, isSome_none c2]; rfl
    · intro c2; try simp only [td] at c2
      refine V_skip (then_n ?_)
      refine V_seq (V_region rfl ?_)
      refine L_go rfl (X_rd (r_loadA (vs := [_, _, _, _, _, _, _, _, _, _, _, _, _]) ag35 sz35 rfl rfl (by repeat first | exact mH | apply mT) rfl) ?_)
      refine L_go rfl (X_wr (w_store (cs' := [_, _, _, _, _, _, _, _, _, _, _, _, _]) sz35 rfl rfl rfl rfl rfl (by repeat first | exact .head | apply SetAt.tail) (Nat.le_of_ble_eq_true rfl) rfl) ?_)
      rintro _ _ ⟨rfl, rfl⟩
      refine L_go rfl (X_p (p_assign rfl rfl) ?_)
      refine L_then (.cons (k := 6) rfl (.cons (k := 7) rfl .nil)) ?_
      refine V_ret ?_
      refine Leave.nil (.cellA (us := [_, _, _, _, _, _, _, _, _, _, _, _, _]) rfl ag35 sz35 (by repeat first | exact mH | apply mT) rfl (.tmp rfl .nil)) ?_
      rw [hw, isSome_get c2]; rfl
set_option maxHeartbeats 4000000 in
theorem rbest_c (t : Task) (v : Value) (w : World) (ht : TaskR w v t) (u now : Int) : FnP Try.prog 34 [v, .int .i64 u, .int .i64 now] w (.tuple #[.int .i64 (bestP t u now).1, .int .i64 (bestP t u now).2]) := by
  have hT := ht
  obtain ⟨tv, pv, rfl, htr, hpl⟩ := ht.ex
  obtain ⟨ta, tc, rfl, htc, hte⟩ := htr.ex
  obtain ⟨pa, pc, rfl, hpc, hpe⟩ := hpl.ex
  have hltr := hT.ltr
  have hlpl := hT.lpl
  simp only [List.length_map] at hT htc hpc ⊢
  refine fn_pure Try.func34 rfl (by kernel_rfl) Try.ntmps34 Try.results34 rfl ?_
  refine V_seq (V_region rfl ?_)
  refine L_go rfl (X_wr (w_box rfl rfl) ?_)
  rintro _ _ ⟨b1, hb1, rfl, rfl⟩
  refine L_go rfl (X_p (p_assign rfl rfl) ?_)
  refine L_go rfl (X_p (p_assign rfl rfl) ?_)
  refine L_then (.cons (k := 1) rfl (.cons (k := 2) rfl (.cons (k := 3) rfl .nil))) ?_
  refine V_seq (V_region rfl ?_)
  refine L_go rfl (X_rd (r_loadA (vs := [_, _, _, _, _]) ag25 sz25 rfl rfl (by repeat first | exact mH | apply mT) rfl) ?_)
  refine L_go rfl (X_p (p_move rfl rfl) ?_)
  refine L_go rfl (X_p (p_move rfl rfl) ?_)
  refine L_go rfl (X_wr (w_callP rfl rfl rfl (fun w hg => rspareR_c t _ w (hT.good hg) u now)) ?_)
  rintro _ _ ⟨rfl, rfl⟩
  refine L_go rfl (X_p (p_move rfl rfl) ?_)
  refine L_go rfl (X_p (p_ext rfl rfl rfl) ?_)
  refine L_go rfl (X_p (p_ext rfl rfl rfl) ?_)
  refine L_go rfl (X_wr (w_alloc zr35 rfl) ?_)
  rintro _ _ ⟨b2, hb2, rfl, rfl⟩
  refine L_go rfl (X_wr (w_store (cs' := [_, _, _, _, _, _, _, _, _, _, _, _, _]) sz35 rfl rfl rfl rfl rfl (by repeat first | exact .head | apply SetAt.tail) (Nat.le_of_ble_eq_true rfl) rfl) ?_)
  rintro _ _ ⟨rfl, rfl⟩
  refine L_go rfl (X_p (p_assign rfl rfl) ?_)
  refine L_then (.cons (k := 1) rfl (.cons (k := 2) rfl (.cons (k := 3) rfl (.cons (k := 8) rfl (.cons (k := 9) rfl .nil))))) ?_
  refine V_seq ?_
  refine V_seq (V_region rfl ?_)
  refine L_go rfl (X_p (p_move rfl rfl) ?_)
  refine L_go rfl (X_p (p_neq rfl rfl rfl) ?_)
  refine L_then (.cons (k := 1) rfl (.cons (k := 2) rfl (.cons (k := 3) rfl (.cons (k := 8) rfl (.cons (k := 9) rfl (.cons (k := 23) rfl .nil)))))) ?_
  refine V_cond rfl ?_ ?_
  · intro c1; have c1r := c1; try simp only [td] at c1
    refine V_seq (V_region rfl ?_)
    refine L_go rfl (X_p (p_move rfl rfl) ?_)
    refine L_go rfl (X_p (p_assign rfl rfl) ?_)
    refine L_go rfl (X_p (p_assign rfl rfl) ?_)
    refine L_then (.cons (k := 6) rfl (.cons (k := 7) rfl .nil)) ?_
    refine V_ret (then_r ?_)
    refine Leave.nil (.tmp rfl (.tmp rfl .nil)) ?_
    rw [bestP_1 c1]; rfl
  · intro c1; have c1r := c1; try simp only [td] at c1
    obtain ⟨ha, hs⟩ := spareP_ok c1
    obtain ⟨hG, hn⟩ := asked_zero ha
    have hu := hn u (.head _)
    have hpl2 := hG.h1
    refine V_skip (then_n ?_)
    refine V_seq (V_region rfl ?_)
    refine L_go rfl (X_p (p_assign rfl rfl) ?_)
    refine L_go rfl (X_p (p_assign rfl rfl) ?_)
    refine L_then (.cons (k := 1) rfl (.cons (k := 2) rfl (.cons (k := 3) rfl (.cons (k := 8) rfl (.cons (k := 10) rfl (.cons (k := 11) rfl .nil)))))) ?_
    refine V_seq ?_
    refine V_seq (V_region rfl ?_)
    refine L_go rfl (X_p (p_assign rfl rfl) ?_)
    refine L_then (.cons (k := 1) rfl (.cons (k := 2) rfl (.cons (k := 3) rfl (.cons (k := 8) rfl (.cons (k := 10) rfl (.cons (k := 11) rfl (.cons (k := 12) rfl .nil))))))) ?_
    refine V_block ?_
    refine V_loop1 (γ := Int × Int × Int) (.cons (k := 1) rfl (.cons (k := 2) rfl (.cons (k := 3) rfl (.cons (k := 8) rfl .nil)))) (fun (k, a, l) => [(12, .int .i64 k), (10, .int .i64 a), (11, .int .i64 l)]) (fun (k, a, l) => [(b2, .cells (Box.cells (spareP t u now).1).toArray 35), (b1, t.obj (.slice ta t.trackers.length tc) (.slice pa t.plots.length pc) 25)]) (fun (k, a, l) => 0 ≤ k ∧ k ≤ t.trackers.length ∧ bestN t (spareP t u now).1 u now k.toNat = (a, l)) (fun (k, a, l) => (t.trackers.length - k).toNat) ((0, -1, 0)) (.cons rfl (.cons rfl (.cons rfl (.nil _)))) (by repeat (first | exact List.nil_sublist _ | exact List.Sublist.refl _ | apply List.Sublist.cons_cons | apply List.Sublist.cons)) (⟨by omega, by omega, rfl⟩) ?_
    rintro ⟨k, a, l⟩ hi
    obtain ⟨hk0, hk1, hbn⟩ := hi
    refine V_seq ?_
    refine V_seq (V_region rfl ?_)
    refine L_go rfl (X_p (p_move rfl rfl) ?_)
    refine L_go rfl (X_p (p_fieldo fo25_3 rfl rfl) ?_)
    refine L_go rfl (X_rd (r_load ag22 rfl rfl (by repeat first | exact mH | apply mT) rfl) ?_)
    refine L_go rfl (X_p (p_len isl22 rfl rfl) ?_)
    refine L_go rfl (X_p (p_lss rfl rfl rfl) ?_)
    refine L_then (.cons (k := 1) rfl (.cons (k := 2) rfl (.cons (k := 3) rfl (.cons (k := 8) rfl (.cons (k := 10) rfl (.cons (k := 11) rfl (.cons (k := 12) rfl (.cons (k := 29) rfl .nil)))))))) ?_
    refine V_cond rfl ?_ ?_
    · intro c2; have c2r := c2; try simp only [td] at c2
      refine V_skip (then_n ?_)
      refine V_seq ?_
      refine V_block ?_
      refine V_mid (γ := Nat) (.cons (k := 1) rfl (.cons (k := 2) rfl (.cons (k := 3) rfl (.cons (k := 8) rfl (.cons (k := 10) rfl (.cons (k := 11) rfl (.cons (k := 12) rfl .nil))))))) (fun x11 => [(13, .pointer (some ⟨x11, 0, none⟩)), (14, .bool (ownT t u now k).isSome)]) (fun x11 => (x11, .cells (Box.cells ((ownT t u now k).getD boxZ)).toArray 35) :: [(b2, .cells (Box.cells (spareP t u now).1).toArray 35), (b1, t.obj (.slice ta t.trackers.length tc) (.slice pa t.plots.length pc) 25)]) (fun x11 => True) ?_ ?_
      · refine V_draw (.rd 0 (.rd 1 (.rd 2 (.rd 3 (.rd 5 (.wr2 4 [5, 0] (.wr2 6 [3, 2, 1] (.rd 7 (.rd 8 (.rd 9 (.wr 10 [9, 8, 7, 5, 3, 2, 1, 0] (.wr 11 [9] (.rd 12 .done)))))) 10 [5, 3, 2, 1, 0] (.wr 6 [3, 2, 1] (.rd 7 (.rd 8 (.rd 9 (.wr 11 [9] (.rd 12 .done))))))) 10 [5, 3, 2, 1, 0] (.wr 4 [5, 0] (.wr 6 [3, 2, 1] (.rd 7 (.rd 8 (.rd 9 (.wr 11 [9] (.rd 12 .done))))))))))))) mixed (by kernel_rfl) rfl ?_
        refine D_rd rfl (.plain rfl) (r_loadA (vs := [_, _, _, _, _]) ag25 sz25 rfl rfl (by repeat first | exact mH | apply mT) rfl) ?_
        refine D_rd rfl (.plain rfl) (r_loadA (vs := [_, _, _, _, _]) ag25 sz25 rfl rfl (by repeat first | exact mH | apply mT) rfl) ?_
        refine D_p rfl (.plain rfl) (p_move rfl rfl) ?_
        refine D_p rfl (.plain rfl) (p_move rfl rfl) ?_
        refine D_p rfl (.plain rfl) (p_move rfl rfl) ?_
        refine D_wr2 rfl ?_ ?_
        · refine (.go (E' := [(0, _)]) rfl (.plain rfl) (w_callG (pre := [_, _]) rfl rfl rfl rfl (fun w hg => rby_c t _ w (hT.good hg) hG (-1) (k) now)) rfl ?_)
          rintro _ _ ⟨_, Gb, rfl, hfrb, svb, rfl, rfl, hgrb⟩
          try dsimp only at hgrb
          try simp only [List.cons_append, List.nil_append, List.append_nil]
          refine ⟨(.cons rfl (.plain rfl) (r_loadA (vs := [_, _, _, _, _]) ag25 sz25 rfl rfl (by repeat first | exact mH | apply mT) rfl) .nil), ?_⟩
          refine D_wr2 rfl ?_ ?_
          · refine (.go (E' := []) rfl (.plain rfl) (w_callP rfl rfl rfl (fun w hg => (show FnP _ _ _ w (boxV (ownT t u now k)) from own_ref hG hk0 ▸ rbox_c t _ (byT t now (wantR (-1) (k))) _ w (hT.good hg) (Grow.slice hgrb (fun p hp => hg.own p (by repeat first | exact hp | exact List.mem_append_left _ hp | apply List.mem_append_right | apply mT))) hG byT_bnd (Nat.le_trans byT_len hG.h2) u hu))) rfl ?_)
            rintro _ _ ⟨rfl, rfl⟩
            refine ⟨.nil, ?_⟩
            refine D_p rfl (.plain rfl) (p_move rfl rfl) ?_
            refine D_p rfl (.plain rfl) (p_ext rfl rfl rfl) ?_
            refine D_p rfl (.plain rfl) (p_ext rfl rfl rfl) ?_
            refine D_wr (.go (E' := []) rfl (.plain rfl) (w_alloc zr35 rfl) rfl ?_)
            rintro _ _ ⟨b4, hb4, rfl, rfl⟩
            refine ⟨.nil, ?_⟩
            refine D_wr (.go (E' := []) rfl (.plain rfl) (w_store (cs' := [_, _, _, _, _, _, _, _, _, _, _, _, _]) sz35 rfl rfl rfl rfl rfl (by repeat first | exact .head | apply SetAt.tail) (Nat.le_of_ble_eq_true rfl) rfl) rfl ?_)
            rintro _ _ ⟨rfl, rfl⟩
            refine ⟨.nil, ?_⟩
            refine D_p rfl (.plain rfl) (p_assign rfl rfl) ?_
            refine D_then (.cons (k := 1) rfl (.cons (k := 2) rfl (.cons (k := 3) rfl (.cons (k := 8) rfl (.cons (k := 10) rfl (.cons (k := 11) rfl (.cons (k := 12) rfl (.cons (k := 13) rfl (.cons (k := 14) rfl .nil))))))))) ?_
            refine ⟨b4, trivial, (.cons rfl (.cons rfl (.cons rfl (.cons rfl (.cons rfl (.cons rfl (.cons rfl (.cons rfl (.cons rfl (.nil _)))))))))), (by (try dsimp only); repeat (first | exact HSub.nil _ | refine HSub.take (by repeat first | exact Take.head | apply Take.tail) ?_ | exact HSub.refl _ | refine HSub.drop ?_ | refine HSub.app ?_)), rfl⟩
          · refine (.go (E' := [(0, _)]) rfl (.plain rfl) (w_alloc zr35 rfl) rfl ?_)
            rintro _ _ ⟨b4, hb4, rfl, rfl⟩
            refine ⟨(.cons rfl (.plain rfl) (r_loadA (vs := [_, _, _, _, _]) ag25 sz25 rfl rfl (by repeat first | exact mH | apply mT) rfl) .nil), ?_⟩
            refine D_wr (.go (E' := []) rfl (.plain rfl) (w_callP rfl rfl rfl (fun w hg => (show FnP _ _ _ w (boxV (ownT t u now k)) from own_ref hG hk0 ▸ rbox_c t _ (byT t now (wantR (-1) (k))) _ w (hT.good hg) (Grow.slice hgrb (fun p hp => hg.own p (by repeat first | exact hp | exact List.mem_append_left _ hp | apply List.mem_append_right | apply mT))) hG byT_bnd (Nat.le_trans byT_len hG.h2) u hu))) rfl ?_)
            rintro _ _ ⟨rfl, rfl⟩
            refine ⟨.nil, ?_⟩
            refine D_p rfl (.plain rfl) (p_move rfl rfl) ?_
            refine D_p rfl (.plain rfl) (p_ext rfl rfl rfl) ?_
            refine D_p rfl (.plain rfl) (p_ext rfl rfl rfl) ?_
            refine D_wr (.go (E' := []) rfl (.plain rfl) (w_store (cs' := [_, _, _, _, _, _, _, _, _, _, _, _, _]) sz35 rfl rfl rfl rfl rfl (by repeat first | exact .head | apply SetAt.tail) (Nat.le_of_ble_eq_true rfl) rfl) rfl ?_)
            rintro _ _ ⟨rfl, rfl⟩
            refine ⟨.nil, ?_⟩
            refine D_p rfl (.plain rfl) (p_assign rfl rfl) ?_
            refine D_then (.cons (k := 1) rfl (.cons (k := 2) rfl (.cons (k := 3) rfl (.cons (k := 8) rfl (.cons (k := 10) rfl (.cons (k := 11) rfl (.cons (k := 12) rfl (.cons (k := 13) rfl (.cons (k := 14) rfl .nil))))))))) ?_
            refine ⟨b4, trivial, (.cons rfl (.cons rfl (.cons rfl (.cons rfl (.cons rfl (.cons rfl (.cons rfl (.cons rfl (.cons rfl (.nil _)))))))))), (by (try dsimp only); repeat (first | exact HSub.nil _ | refine HSub.take (by repeat first | exact Take.head | apply Take.tail) ?_ | exact HSub.refl _ | refine HSub.drop ?_ | refine HSub.app ?_)), rfl⟩
        · refine (.go (E' := [(1, _), (0, _)]) rfl (.plain rfl) (w_alloc zr35 rfl) rfl ?_)
          rintro _ _ ⟨b3, hb3, rfl, rfl⟩
          refine ⟨(.cons rfl (.plain rfl) (r_loadA (vs := [_, _, _, _, _]) ag25 sz25 rfl rfl (by repeat first | exact mH | apply mT) rfl) (.cons rfl (.plain rfl) (r_loadA (vs := [_, _, _, _, _]) ag25 sz25 rfl rfl (by repeat first | exact mH | apply mT) rfl) .nil)), ?_⟩
          refine D_wr (.go (E' := [(0, _)]) rfl (.plain rfl) (w_callG (pre := [_, _, _]) rfl rfl rfl rfl (fun w hg => rby_c t _ w (hT.good hg) hG (-1) (k) now)) rfl ?_)
          rintro _ _ ⟨_, Gb, rfl, hfrb, svb, rfl, rfl, hgrb⟩
          try dsimp only at hgrb
          try simp only [List.cons_append, List.nil_append, List.append_nil]
          refine ⟨(.cons rfl (.plain rfl) (r_loadA (vs := [_, _, _, _, _]) ag25 sz25 rfl rfl (by repeat first | exact mH | apply mT) rfl) .nil), ?_⟩
          refine D_wr (.go (E' := []) rfl (.plain rfl) (w_callP rfl rfl rfl (fun w hg => (show FnP _ _ _ w (boxV (ownT t u now k)) from own_ref hG hk0 ▸ rbox_c t _ (byT t now (wantR (-1) (k))) _ w (hT.good hg) (Grow.slice hgrb (fun p hp => hg.own p (by repeat first | exact hp | exact List.mem_append_left _ hp | apply List.mem_append_right | apply mT))) hG byT_bnd (Nat.le_trans byT_len hG.h2) u hu))) rfl ?_)
          rintro _ _ ⟨rfl, rfl⟩
          refine ⟨.nil, ?_⟩
          refine D_p rfl (.plain rfl) (p_move rfl rfl) ?_
          refine D_p rfl (.plain rfl) (p_ext rfl rfl rfl) ?_
          refine D_p rfl (.plain rfl) (p_ext rfl rfl rfl) ?_
          refine D_wr (.go (E' := []) rfl (.plain rfl) (w_store (cs' := [_, _, _, _, _, _, _, _, _, _, _, _, _]) sz35 rfl rfl rfl rfl rfl (by repeat first | exact .head | apply SetAt.tail) (Nat.le_of_ble_eq_true rfl) rfl) rfl ?_)
          rintro _ _ ⟨rfl, rfl⟩
          refine ⟨.nil, ?_⟩
          refine D_p rfl (.plain rfl) (p_assign rfl rfl) ?_
          refine D_then (.cons (k := 1) rfl (.cons (k := 2) rfl (.cons (k := 3) rfl (.cons (k := 8) rfl (.cons (k := 10) rfl (.cons (k := 11) rfl (.cons (k := 12) rfl (.cons (k := 13) rfl (.cons (k := 14) rfl .nil))))))))) ?_
          refine ⟨b3, trivial, (.cons rfl (.cons rfl (.cons rfl (.cons rfl (.cons rfl (.cons rfl (.cons rfl (.cons rfl (.cons rfl (.nil _)))))))))), (by (try dsimp only); repeat (first | exact HSub.nil _ | refine HSub.take (by repeat first | exact Take.head | apply Take.tail) ?_ | exact HSub.refl _ | refine HSub.drop ?_ | refine HSub.app ?_)), rfl⟩
      · rintro x11 _
        refine V_seq (V_region rfl ?_)
        refine L_go rfl (X_p (p_move rfl rfl) ?_)
        refine L_go rfl (X_p (p_move rfl rfl) ?_)
        refine L_cases (d := 43) rfl ?_ ?_
        · intro g1; have g1' := g1; try simp only [td] at g1'
          refine L_yes rfl rfl rfl g1 (X_rd (r_loadA (vs := [_, _, _, _, _, _, _, _, _, _, _, _, _]) ag35 sz35 rfl rfl (by repeat first | exact mH | apply mT) rfl) ?_)
          refine L_yes rfl rfl rfl g1 (X_rd (r_loadA (vs := [_, _, _, _, _, _, _, _, _, _, _, _, _]) ag35 sz35 rfl rfl (by repeat first | exact mH | apply mT) rfl) ?_)
          refine L_yes rfl rfl rfl g1 (X_wr (w_callP rfl rfl rfl (fun w hg => rMeet_c ((ownT t u now k).getD boxZ) (spareP t u now).1 (boxT_ne (isSome_get g1)) (spareT_ne hs) w)) ?_)
          rintro _ _ ⟨rfl, rfl⟩
          refine L_go rfl (X_p (p_pick_t rfl rfl g1 rfl) ?_)
          refine L_go rfl (X_p (p_move rfl rfl) ?_)
          refine L_cases (d := 48) rfl ?_ ?_
          · intro g2; have g2' := g2; try simp only [td] at g2'
            refine L_yes rfl rfl rfl g2 (X_p (p_move rfl rfl) ?_)
            refine L_yes rfl rfl rfl g2 (X_p (p_lss rfl rfl rfl) ?_)
            refine L_yes rfl rfl rfl g2 (X_p (p_move rfl rfl) ?_)
            refine L_cases (d := 51) rfl ?_ ?_
            · intro g3; have g3' := g3; try simp only [td] at g3'
              refine L_no rfl rfl rfl g3 ?_
              refine L_no rfl rfl rfl g3 ?_
              refine L_no rfl rfl rfl g3 ?_
              refine L_no rfl rfl rfl g3 ?_
              refine L_yes rfl rfl rfl g2 (X_p (p_pick_t rfl rfl g3 rfl) ?_)
              refine L_go rfl (X_p (p_pick_t rfl rfl g2 rfl) ?_)
              refine L_then (.cons (k := 1) rfl (.cons (k := 2) rfl (.cons (k := 3) rfl (.cons (k := 8) rfl (.cons (k := 10) rfl (.cons (k := 11) rfl (.cons (k := 12) rfl (.cons (k := 13) rfl (.cons (k := 57) rfl .nil))))))))) ?_
              refine V_cond_t rfl rfl ?_
              refine V_region rfl ?_
              refine L_go rfl (X_p (p_move rfl rfl) ?_)
              refine L_go rfl (X_rd (r_loadA (vs := [_, _, _, _, _, _, _, _, _, _, _, _, _]) ag35 sz35 rfl rfl (by repeat first | exact mH | apply mT) rfl) ?_)
              refine L_go rfl (X_wr (w_callP rfl rfl rfl (fun w hg => rWide_c ((ownT t u now k).getD boxZ) (ownT_bnd hG hu.2 g1) w)) ?_)
              rintro _ _ ⟨rfl, rfl⟩
              refine L_go rfl (X_p (p_assign rfl rfl) ?_)
              refine L_go rfl (X_p (p_assign rfl rfl) ?_)
              refine L_keep (.cons (k := 1) rfl (.cons (k := 2) rfl (.cons (k := 3) rfl (.cons (k := 8) rfl (.cons (k := 10) rfl (.cons (k := 11) rfl (.cons (k := 12) rfl .nil))))))) (blk_n (then_n ?_))
              refine V_region rfl ?_
              refine L_go rfl (X_p (p_move rfl rfl) ?_)
              first | refine L_go rfl (X_p (p_add' rfl rfl rfl (by unfold InI; omega)) ?_) | refine L_go rfl (X_p (p_add rfl rfl rfl) ?_)
              refine L_go rfl (X_p (p_assign rfl rfl) ?_)
              refine L_keep (.cons (k := 1) rfl (.cons (k := 2) rfl (.cons (k := 3) rfl (.cons (k := 8) rfl (.cons (k := 10) rfl (.cons (k := 11) rfl (.cons (k := 12) rfl .nil))))))) (then_n ?_)
              refine ⟨(k + 1, k, wideB ((ownT t u now k).getD boxZ)), ?_, ?_, (.cons rfl (.cons rfl (.cons rfl (.cons rfl (.cons rfl (.cons rfl (.cons rfl (.nil _)))))))), (by repeat (first | exact List.nil_sublist _ | exact List.Sublist.refl _ | apply List.Sublist.cons_cons | apply List.Sublist.cons | apply List.sublist_append_of_sublist_right)), rfl⟩
              · refine ⟨by omega, by omega, ?_⟩
                rw [bestN_succ hk0, hbn]
                exact bestStep_yes g1 g2 (by first | exact .inl g3' | exact .inr c3)
              · dsimp only; omega
            · intro g3; have g3' := g3; try simp only [td] at g3'
              refine L_yes rfl rfl rfl g3 (X_rd (r_loadA (vs := [_, _, _, _, _, _, _, _, _, _, _, _, _]) ag35 sz35 rfl rfl (by repeat first | exact mH | apply mT) rfl) ?_)
              refine L_yes rfl rfl rfl g3 (X_wr (w_callP rfl rfl rfl (fun w hg => rWide_c ((ownT t u now k).getD boxZ) (ownT_bnd hG hu.2 g1) w)) ?_)
              rintro _ _ ⟨rfl, rfl⟩
              refine L_yes rfl rfl rfl g3 (X_p (p_move rfl rfl) ?_)
              refine L_yes rfl rfl rfl g3 (X_p (p_lss rfl rfl rfl) ?_)
              refine L_yes rfl rfl rfl g2 (X_p (p_pick_f rfl rfl g3 rfl) ?_)
              refine L_go rfl (X_p (p_pick_t rfl rfl g2 rfl) ?_)
              refine L_then (.cons (k := 1) rfl (.cons (k := 2) rfl (.cons (k := 3) rfl (.cons (k := 8) rfl (.cons (k := 10) rfl (.cons (k := 11) rfl (.cons (k := 12) rfl (.cons (k := 13) rfl (.cons (k := 57) rfl .nil))))))))) ?_
              refine V_cond rfl ?_ ?_
              · intro c3; have c3r := c3; try simp only [td] at c3
                refine V_region rfl ?_
                refine L_go rfl (X_p (p_move rfl rfl) ?_)
                refine L_go rfl (X_rd (r_loadA (vs := [_, _, _, _, _, _, _, _, _, _, _, _, _]) ag35 sz35 rfl rfl (by repeat first | exact mH | apply mT) rfl) ?_)
                refine L_go rfl (X_wr (w_callP rfl rfl rfl (fun w hg => rWide_c ((ownT t u now k).getD boxZ) (ownT_bnd hG hu.2 g1) w)) ?_)
                rintro _ _ ⟨rfl, rfl⟩
                refine L_go rfl (X_p (p_assign rfl rfl) ?_)
                refine L_go rfl (X_p (p_assign rfl rfl) ?_)
                refine L_keep (.cons (k := 1) rfl (.cons (k := 2) rfl (.cons (k := 3) rfl (.cons (k := 8) rfl (.cons (k := 10) rfl (.cons (k := 11) rfl (.cons (k := 12) rfl .nil))))))) (blk_n (then_n ?_))
                refine V_region rfl ?_
                refine L_go rfl (X_p (p_move rfl rfl) ?_)
                first | refine L_go rfl (X_p (p_add' rfl rfl rfl (by unfold InI; omega)) ?_) | refine L_go rfl (X_p (p_add rfl rfl rfl) ?_)
                refine L_go rfl (X_p (p_assign rfl rfl) ?_)
                refine L_keep (.cons (k := 1) rfl (.cons (k := 2) rfl (.cons (k := 3) rfl (.cons (k := 8) rfl (.cons (k := 10) rfl (.cons (k := 11) rfl (.cons (k := 12) rfl .nil))))))) (then_n ?_)
                refine ⟨(k + 1, k, wideB ((ownT t u now k).getD boxZ)), ?_, ?_, (.cons rfl (.cons rfl (.cons rfl (.cons rfl (.cons rfl (.cons rfl (.cons rfl (.nil _)))))))), (by repeat (first | exact List.nil_sublist _ | exact List.Sublist.refl _ | apply List.Sublist.cons_cons | apply List.Sublist.cons | apply List.sublist_append_of_sublist_right)), rfl⟩
                · refine ⟨by omega, by omega, ?_⟩
                  rw [bestN_succ hk0, hbn]
                  exact bestStep_yes g1 g2 (by first | exact .inl g3' | exact .inr c3)
                · dsimp only; omega
              · intro c3; have c3r := c3; try simp only [td] at c3
                refine V_skip (blk_n (then_n ?_))
                refine V_region rfl ?_
                refine L_go rfl (X_p (p_move rfl rfl) ?_)
                first | refine L_go rfl (X_p (p_add' rfl rfl rfl (by unfold InI; omega)) ?_) | refine L_go rfl (X_p (p_add rfl rfl rfl) ?_)
                refine L_go rfl (X_p (p_assign rfl rfl) ?_)
                refine L_keep (.cons (k := 1) rfl (.cons (k := 2) rfl (.cons (k := 3) rfl (.cons (k := 8) rfl (.cons (k := 10) rfl (.cons (k := 11) rfl (.cons (k := 12) rfl .nil))))))) (then_n ?_)
                refine ⟨(k + 1, a, l), ?_, ?_, (.cons rfl (.cons rfl (.cons rfl (.cons rfl (.cons rfl (.cons rfl (.cons rfl (.nil _)))))))), (by repeat (first | exact List.nil_sublist _ | exact List.Sublist.refl _ | apply List.Sublist.cons_cons | apply List.Sublist.cons | apply List.sublist_append_of_sublist_right)), rfl⟩
                · refine ⟨by omega, by omega, ?_⟩
                  rw [bestN_succ hk0, hbn]
                  exact bestStep_no g1 (by rintro ⟨ha, hb⟩; first | omega | (rw [g2] at ha; cases ha))
                · dsimp only; omega
          · intro g2; have g2' := g2; try simp only [td] at g2'
            refine L_no rfl rfl rfl g2 ?_
            refine L_no rfl rfl rfl g2 ?_
            refine L_no rfl rfl rfl g2 ?_
            refine L_nou rfl rfl rfl ?_
            refine L_nou rfl rfl rfl ?_
            refine L_nou rfl rfl rfl ?_
            refine L_nou rfl rfl rfl ?_
            refine L_no rfl rfl rfl g2 ?_
            refine L_go rfl (X_p (p_pick_f rfl rfl g2 rfl) ?_)
            refine L_then (.cons (k := 1) rfl (.cons (k := 2) rfl (.cons (k := 3) rfl (.cons (k := 8) rfl (.cons (k := 10) rfl (.cons (k := 11) rfl (.cons (k := 12) rfl (.cons (k := 13) rfl (.cons (k := 57) rfl .nil))))))))) ?_
            refine V_cond_f rfl rfl ?_
            refine V_skip (blk_n (then_n ?_))
            refine V_region rfl ?_
            refine L_go rfl (X_p (p_move rfl rfl) ?_)
            first | refine L_go rfl (X_p (p_add' rfl rfl rfl (by unfold InI; omega)) ?_) | refine L_go rfl (X_p (p_add rfl rfl rfl) ?_)
            refine L_go rfl (X_p (p_assign rfl rfl) ?_)
            refine L_keep (.cons (k := 1) rfl (.cons (k := 2) rfl (.cons (k := 3) rfl (.cons (k := 8) rfl (.cons (k := 10) rfl (.cons (k := 11) rfl (.cons (k := 12) rfl .nil))))))) (then_n ?_)
            refine ⟨(k + 1, a, l), ?_, ?_, (.cons rfl (.cons rfl (.cons rfl (.cons rfl (.cons rfl (.cons rfl (.cons rfl (.nil _)))))))), (by repeat (first | exact List.nil_sublist _ | exact List.Sublist.refl _ | apply List.Sublist.cons_cons | apply List.Sublist.cons | apply List.sublist_append_of_sublist_right)), rfl⟩
            · refine ⟨by omega, by omega, ?_⟩
              rw [bestN_succ hk0, hbn]
              exact bestStep_no g1 (by rintro ⟨ha, hb⟩; first | omega | (rw [g2] at ha; cases ha))
            · dsimp only; omega
        · intro g1; have g1' := g1; try simp only [td] at g1'
          refine L_no rfl rfl rfl g1 ?_
          refine L_no rfl rfl rfl g1 ?_
          refine L_no rfl rfl rfl g1 ?_
          refine L_go rfl (X_p (p_pick_f rfl rfl g1 rfl) ?_)
          refine L_go rfl (X_p (p_move rfl rfl) ?_)
          refine L_no rfl rfl rfl rfl ?_
          refine L_no rfl rfl rfl rfl ?_
          refine L_no rfl rfl rfl rfl ?_
          refine L_nou rfl rfl rfl ?_
          refine L_nou rfl rfl rfl ?_
          refine L_nou rfl rfl rfl ?_
          refine L_nou rfl rfl rfl ?_
          refine L_no rfl rfl rfl rfl ?_
          refine L_go rfl (X_p (p_pick_f rfl rfl rfl rfl) ?_)
          refine L_then (.cons (k := 1) rfl (.cons (k := 2) rfl (.cons (k := 3) rfl (.cons (k := 8) rfl (.cons (k := 10) rfl (.cons (k := 11) rfl (.cons (k := 12) rfl (.cons (k := 13) rfl (.cons (k := 57) rfl .nil))))))))) ?_
          refine V_cond_f rfl rfl ?_
          refine V_skip (blk_n (then_n ?_))
          refine V_region rfl ?_
          refine L_go rfl (X_p (p_move rfl rfl) ?_)
          first | refine L_go rfl (X_p (p_add' rfl rfl rfl (by unfold InI; omega)) ?_) | refine L_go rfl (X_p (p_add rfl rfl rfl) ?_)
          refine L_go rfl (X_p (p_assign rfl rfl) ?_)
          refine L_keep (.cons (k := 1) rfl (.cons (k := 2) rfl (.cons (k := 3) rfl (.cons (k := 8) rfl (.cons (k := 10) rfl (.cons (k := 11) rfl (.cons (k := 12) rfl .nil))))))) (then_n ?_)
          refine ⟨(k + 1, a, l), ?_, ?_, (.cons rfl (.cons rfl (.cons rfl (.cons rfl (.cons rfl (.cons rfl (.cons rfl (.nil _)))))))), (by repeat (first | exact List.nil_sublist _ | exact List.Sublist.refl _ | apply List.Sublist.cons_cons | apply List.Sublist.cons | apply List.sublist_append_of_sublist_right)), rfl⟩
          · refine ⟨by omega, by omega, ?_⟩
            rw [bestN_succ hk0, hbn]
            exact bestStep_none g1
          · dsimp only; omega
    · intro c2; have c2r := c2; try simp only [td] at c2
      refine V_exit (then_e (then_e (blk_e rfl (then_n ?_))))
      refine V_seq ?_
      refine V_seq (V_region rfl ?_)
      refine L_go rfl (X_p (p_move rfl rfl) ?_)
      refine L_go rfl (X_p (p_lss rfl rfl rfl) ?_)
      refine L_then (.cons (k := 10) rfl (.cons (k := 62) rfl .nil)) ?_
      refine V_cond rfl ?_ ?_
      · intro c4; have c4r := c4; try simp only [td] at c4
        refine V_seq (V_region rfl ?_)
        refine L_go rfl (X_p (p_assign rfl rfl) ?_)
        refine L_go rfl (X_p (p_assign rfl rfl) ?_)
        refine L_then (.cons (k := 6) rfl (.cons (k := 7) rfl .nil)) ?_
        refine V_ret (then_r ?_)
        refine Leave.nil (.tmp rfl (.tmp rfl .nil)) ?_
        have ek : k.toNat = t.trackers.length := by omega
        rw [ek] at hbn
        rw [bestP_2 c1 hbn (by assumption)]; rfl
      · intro c4; have c4r := c4; try simp only [td] at c4
        refine V_skip (then_n ?_)
        refine V_seq (V_region rfl ?_)
        refine L_go rfl (X_p (p_move rfl rfl) ?_)
        refine L_go rfl (X_p (p_assign rfl rfl) ?_)
        refine L_go rfl (X_p (p_assign rfl rfl) ?_)
        refine L_then (.cons (k := 6) rfl (.cons (k := 7) rfl .nil)) ?_
        refine V_ret ?_
        refine Leave.nil (.tmp rfl (.tmp rfl .nil)) ?_
        have ek : k.toNat = t.trackers.length := by omega
        rw [ek] at hbn
        rw [bestP_3 c1 hbn (by omega)]; rfl
set_option maxHeartbeats 4000000 in
theorem rfails_c (t : Task) (v : Value) (w : World) (ht : TaskR w v t) (u now : Int) : FnC Try.prog 31 [v, .int .i64 u, .int .i64 now] w fun v w' => ∃ Hc, Vc.Good w [] Hc w' ∧ ∃ A G, Hc = A ++ G ∧ ListOut 3 (failsL t u now) (fun sv => .tuple #[sv, .bool (failsB t u now), .int .i64 (askedT t [u, now])]) v A G := by
  have hT := ht
  obtain ⟨tv, pv, rfl, htr, hpl⟩ := ht.ex
  obtain ⟨ta, tc, rfl, htc, hte⟩ := htr.ex
  obtain ⟨pa, pc, rfl, hpc, hpe⟩ := hpl.ex
  have hltr := hT.ltr
  have hlpl := hT.lpl
  simp only [List.length_map] at hT htc hpc ⊢
  refine fn_new Try.func31 rfl (by kernel_rfl) Try.ntmps31 Try.results31 rfl ?_
  refine V_seq (V_region rfl ?_)
  refine L_go rfl (X_wr (w_box rfl rfl) ?_)
  rintro _ _ ⟨b1, hb1, rfl, rfl⟩
  refine L_go rfl (X_p (p_assign rfl rfl) ?_)
  refine L_go rfl (X_p (p_assign rfl rfl) ?_)
  refine L_go rfl (X_p (p_assign rfl rfl) ?_)
  refine L_then (.cons (k := 1) rfl (.cons (k := 2) rfl (.cons (k := 3) rfl .nil))) ?_
  refine V_seq (V_region rfl ?_)
  refine L_go rfl (X_rd (r_loadA (vs := [_, _, _, _, _]) ag25 sz25 rfl rfl (by repeat first | exact mH | apply mT) rfl) ?_)
  refine L_go rfl (X_p (p_move rfl rfl) ?_)
  refine L_go rfl (X_p (p_move rfl rfl) ?_)
  refine L_go rfl (X_wr (w_callP rfl rfl rfl (fun w hg => rasked_c t _ w (hT.good hg) _ _)) ?_)
  rintro _ _ ⟨rfl, rfl⟩
  refine L_go rfl (X_p (p_assign rfl rfl) ?_)
  refine L_then (.cons (k := 1) rfl (.cons (k := 2) rfl (.cons (k := 3) rfl (.cons (k := 9) rfl .nil)))) ?_
  refine V_seq ?_
  refine V_seq (V_region rfl ?_)
  refine L_go rfl (X_p (p_move rfl rfl) ?_)
  refine L_go rfl (X_p (p_neq rfl rfl rfl) ?_)
  refine L_then (.cons (k := 1) rfl (.cons (k := 2) rfl (.cons (k := 3) rfl (.cons (k := 9) rfl (.cons (k := 21) rfl .nil))))) ?_
  refine V_cond rfl ?_ ?_
  · intro c1; have c1r := c1; try simp only [td] at c1
    refine V_seq (V_region rfl ?_)
    refine L_go rfl (X_p (p_move rfl rfl) ?_)
    refine L_go rfl (X_p (p_assign rfl rfl) ?_)
    refine L_go rfl (X_p (p_assign rfl rfl) ?_)
    refine L_go rfl (X_p (p_assign rfl rfl) ?_)
    refine L_then (.cons (k := 6) rfl (.cons (k := 7) rfl (.cons (k := 8) rfl .nil))) ?_
    refine V_ret (then_r ?_)
    refine Leave.nil (.tmp rfl (.tmp rfl (.tmp rfl .nil))) ?_
    obtain ⟨e1, e2⟩ := failsL_1 c1
    refine ⟨[], HSub.nil _, [], [], rfl, .slice none 0 0, rfl, ?_, ?_⟩
    · rw [e2]; rfl
    · rw [e1]; exact .nil
  · intro c1; have c1r := c1; try simp only [td] at c1
    obtain ⟨hG, hn⟩ := asked_zero c1
    have hu := hn u (.head _)
    have hpl2 := hG.h1
    refine V_skip (then_n ?_)
    refine V_mid (γ := Nat) (.cons (k := 1) rfl (.cons (k := 2) rfl (.cons (k := 3) rfl .nil))) (fun x10 => [(11, .bool (boxT t (byT t now fun _ => true) u).isSome)]) (fun x10 => [(b1, t.obj (.slice ta t.trackers.length tc) (.slice pa t.plots.length pc) 25)]) (fun x10 => True) ?_ ?_
    · refine V_draw (.rd 0 (.rd 1 (.rd 2 (.rd 4 (.wr2 3 [4, 0] (.wr2 5 [2, 1] (.rd 6 (.rd 7 (.rd 8 (.wr 9 [8, 7, 6, 4, 2, 1, 0] (.wr 10 [8] (.rd 11 .done)))))) 9 [4, 2, 1, 0] (.wr 5 [2, 1] (.rd 6 (.rd 7 (.rd 8 (.wr 10 [8] (.rd 11 .done))))))) 9 [4, 2, 1, 0] (.wr 3 [4, 0] (.wr 5 [2, 1] (.rd 6 (.rd 7 (.rd 8 (.wr 10 [8] (.rd 11 .done)))))))))))) mixed (by kernel_rfl) rfl ?_
      refine D_rd rfl (.plain rfl) (r_loadA (vs := [_, _, _, _, _]) ag25 sz25 rfl rfl (by repeat first | exact mH | apply mT) rfl) ?_
      refine D_rd rfl (.plain rfl) (r_loadA (vs := [_, _, _, _, _]) ag25 sz25 rfl rfl (by repeat first | exact mH | apply mT) rfl) ?_
      refine D_p rfl (.plain rfl) (p_move rfl rfl) ?_
      refine D_p rfl (.plain rfl) (p_move rfl rfl) ?_
      refine D_wr2 rfl ?_ ?_
      · refine (.go (E' := [(0, _)]) rfl (.plain rfl) (w_callG (pre := [_]) rfl rfl rfl rfl (fun w hg => rby_c t _ w (hT.good hg) hG (-1) (-1) now)) rfl ?_)
        rintro _ _ ⟨_, Gb, rfl, hfrb, svb, rfl, rfl, hgrb⟩
        try dsimp only at hgrb
        try simp only [List.cons_append, List.nil_append, List.append_nil]
        refine ⟨(.cons rfl (.plain rfl) (r_loadA (vs := [_, _, _, _, _]) ag25 sz25 rfl rfl (by repeat first | exact mH | apply mT) rfl) .nil), ?_⟩
        refine D_wr2 rfl ?_ ?_
        · refine (.go (E' := []) rfl (.plain rfl) (w_callP rfl rfl rfl (fun w hg => (show FnP _ _ _ w (boxV (boxT t (byT t now fun _ => true) u)) from all_ref hG ▸ rbox_c t _ (byT t now (wantR (-1) (-1))) _ w (hT.good hg) (Grow.slice hgrb (fun p hp => hg.own p (by repeat first | exact hp | exact List.mem_append_left _ hp | apply List.mem_append_right | apply mT))) hG byT_bnd (Nat.le_trans byT_len hG.h2) u hu))) rfl ?_)
          rintro _ _ ⟨rfl, rfl⟩
          refine ⟨.nil, ?_⟩
          refine D_p rfl (.plain rfl) (p_move rfl rfl) ?_
          refine D_p rfl (.plain rfl) (p_ext rfl rfl rfl) ?_
          refine D_p rfl (.plain rfl) (p_ext rfl rfl rfl) ?_
          refine D_wr (.go (E' := []) rfl (.plain rfl) (w_alloc zr35 rfl) rfl ?_)
          rintro _ _ ⟨b3, hb3, rfl, rfl⟩
          refine ⟨.nil, ?_⟩
          refine D_wr (.go (E' := []) rfl (.plain rfl) (w_store (cs' := [_, _, _, _, _, _, _, _, _, _, _, _, _]) sz35 rfl rfl rfl rfl rfl (by repeat first | exact .head | apply SetAt.tail) (Nat.le_of_ble_eq_true rfl) rfl) rfl ?_)
          rintro _ _ ⟨rfl, rfl⟩
          refine ⟨.nil, ?_⟩
          refine D_p rfl (.plain rfl) (p_assign rfl rfl) ?_
          refine D_then (.cons (k := 1) rfl (.cons (k := 2) rfl (.cons (k := 3) rfl (.cons (k := 11) rfl .nil)))) ?_
          refine ⟨0, trivial, (.cons rfl (.cons rfl (.cons rfl (.cons rfl (.nil _))))), (by (try dsimp only); repeat (first | exact HSub.nil _ | refine HSub.take (by repeat first | exact Take.head | apply Take.tail) ?_ | exact HSub.refl _ | refine HSub.drop ?_ | refine HSub.app ?_)), rfl⟩
        · refine (.go (E' := [(0, _)]) rfl (.plain rfl) (w_alloc zr35 rfl) rfl ?_)
          rintro _ _ ⟨b3, hb3, rfl, rfl⟩
          refine ⟨(.cons rfl (.plain rfl) (r_loadA (vs := [_, _, _, _, _]) ag25 sz25 rfl rfl (by repeat first | exact mH | apply mT) rfl) .nil), ?_⟩
          refine D_wr (.go (E' := []) rfl (.plain rfl) (w_callP rfl rfl rfl (fun w hg => (show FnP _ _ _ w (boxV (boxT t (byT t now fun _ => true) u)) from all_ref hG ▸ rbox_c t _ (byT t now (wantR (-1) (-1))) _ w (hT.good hg) (Grow.slice hgrb (fun p hp => hg.own p (by repeat first | exact hp | exact List.mem_append_left _ hp | apply List.mem_append_right | apply mT))) hG byT_bnd (Nat.le_trans byT_len hG.h2) u hu))) rfl ?_)
          rintro _ _ ⟨rfl, rfl⟩
          refine ⟨.nil, ?_⟩
          refine D_p rfl (.plain rfl) (p_move rfl rfl) ?_
          refine D_p rfl (.plain rfl) (p_ext rfl rfl rfl) ?_
          refine D_p rfl (.plain rfl) (p_ext rfl rfl rfl) ?_
          refine D_wr (.go (E' := []) rfl (.plain rfl) (w_store (cs' := [_, _, _, _, _, _, _, _, _, _, _, _, _]) sz35 rfl rfl rfl rfl rfl (by repeat first | exact .head | apply SetAt.tail) (Nat.le_of_ble_eq_true rfl) rfl) rfl ?_)
          rintro _ _ ⟨rfl, rfl⟩
          refine ⟨.nil, ?_⟩
          refine D_p rfl (.plain rfl) (p_assign rfl rfl) ?_
          refine D_then (.cons (k := 1) rfl (.cons (k := 2) rfl (.cons (k := 3) rfl (.cons (k := 11) rfl .nil)))) ?_
          refine ⟨0, trivial, (.cons rfl (.cons rfl (.cons rfl (.cons rfl (.nil _))))), (by (try dsimp only); repeat (first | exact HSub.nil _ | refine HSub.take (by repeat first | exact Take.head | apply Take.tail) ?_ | exact HSub.refl _ | refine HSub.drop ?_ | refine HSub.app ?_)), rfl⟩
      · refine (.go (E' := [(1, _), (0, _)]) rfl (.plain rfl) (w_alloc zr35 rfl) rfl ?_)
        rintro _ _ ⟨b2, hb2, rfl, rfl⟩
        refine ⟨(.cons rfl (.plain rfl) (r_loadA (vs := [_, _, _, _, _]) ag25 sz25 rfl rfl (by repeat first | exact mH | apply mT) rfl) (.cons rfl (.plain rfl) (r_loadA (vs := [_, _, _, _, _]) ag25 sz25 rfl rfl (by repeat first | exact mH | apply mT) rfl) .nil)), ?_⟩
        refine D_wr (.go (E' := [(0, _)]) rfl (.plain rfl) (w_callG (pre := [_, _]) rfl rfl rfl rfl (fun w hg => rby_c t _ w (hT.good hg) hG (-1) (-1) now)) rfl ?_)
        rintro _ _ ⟨_, Gb, rfl, hfrb, svb, rfl, rfl, hgrb⟩
        try dsimp only at hgrb
        try simp only [List.cons_append, List.nil_append, List.append_nil]
        refine ⟨(.cons rfl (.plain rfl) (r_loadA (vs := [_, _, _, _, _]) ag25 sz25 rfl rfl (by repeat first | exact mH | apply mT) rfl) .nil), ?_⟩
        refine D_wr (.go (E' := []) rfl (.plain rfl) (w_callP rfl rfl rfl (fun w hg => (show FnP _ _ _ w (boxV (boxT t (byT t now fun _ => true) u)) from all_ref hG ▸ rbox_c t _ (byT t now (wantR (-1) (-1))) _ w (hT.good hg) (Grow.slice hgrb (fun p hp => hg.own p (by repeat first | exact hp | exact List.mem_append_left _ hp | apply List.mem_append_right | apply mT))) hG byT_bnd (Nat.le_trans byT_len hG.h2) u hu))) rfl ?_)
        rintro _ _ ⟨rfl, rfl⟩
        refine ⟨.nil, ?_⟩
        refine D_p rfl (.plain rfl) (p_move rfl rfl) ?_
        refine D_p rfl (.plain rfl) (p_ext rfl rfl rfl) ?_
        refine D_p rfl (.plain rfl) (p_ext rfl rfl rfl) ?_
        refine D_wr (.go (E' := []) rfl (.plain rfl) (w_store (cs' := [_, _, _, _, _, _, _, _, _, _, _, _, _]) sz35 rfl rfl rfl rfl rfl (by repeat first | exact .head | apply SetAt.tail) (Nat.le_of_ble_eq_true rfl) rfl) rfl ?_)
        rintro _ _ ⟨rfl, rfl⟩
        refine ⟨.nil, ?_⟩
        refine D_p rfl (.plain rfl) (p_assign rfl rfl) ?_
        refine D_then (.cons (k := 1) rfl (.cons (k := 2) rfl (.cons (k := 3) rfl (.cons (k := 11) rfl .nil)))) ?_
        refine ⟨0, trivial, (.cons rfl (.cons rfl (.cons rfl (.cons rfl (.nil _))))), (by (try dsimp only); repeat (first | exact HSub.nil _ | refine HSub.take (by repeat first | exact Take.head | apply Take.tail) ?_ | exact HSub.refl _ | refine HSub.drop ?_ | refine HSub.app ?_)), rfl⟩
    · rintro x10 _
      refine V_seq (V_region rfl ?_)
      refine L_go rfl (X_p (p_assign rfl rfl) ?_)
      refine L_then (.cons (k := 1) rfl (.cons (k := 2) rfl (.cons (k := 3) rfl (.cons (k := 11) rfl (.cons (k := 12) rfl .nil))))) ?_
      refine V_seq ?_
      refine V_seq (V_region rfl ?_)
      refine L_go rfl (X_p (p_assign rfl rfl) ?_)
      refine L_then (.cons (k := 1) rfl (.cons (k := 2) rfl (.cons (k := 3) rfl (.cons (k := 11) rfl (.cons (k := 12) rfl (.cons (k := 13) rfl .nil)))))) ?_
      refine V_block ?_
      refine V_loop1 (γ := Int × Value × Heap) (.cons (k := 1) rfl (.cons (k := 2) rfl (.cons (k := 3) rfl (.cons (k := 11) rfl .nil)))) (fun (k, sv, G) => [(13, .int .i64 k), (12, sv)]) (fun (k, sv, G) => (b1, t.obj (.slice ta t.trackers.length tc) (.slice pa t.plots.length pc) 25) :: G) (fun (k, sv, G) => 0 ≤ k ∧ k ≤ t.trackers.length ∧ Grow 3 1 sv ((othersV t u now k.toNat).map Prod.fst).length (iiL ((othersV t u now k.toNat).map Prod.fst)) G) (fun (k, sv, G) => (t.trackers.length - k).toNat) ((0, .slice none 0 0, [])) (.cons rfl (.cons rfl (.nil _))) (by repeat (first | exact List.nil_sublist _ | exact List.Sublist.refl _ | apply List.Sublist.cons_cons | apply List.Sublist.cons)) (⟨by omega, by omega, .nil⟩) ?_
      rintro ⟨k, sv, G⟩ hi
      obtain ⟨hk0, hk1, hgr⟩ := hi
      have hkl := fstV_len (t := t) (u := u) (now := now) (n := k.toNat)
      refine V_seq ?_
      refine V_seq (V_region rfl ?_)
      refine L_go rfl (X_p (p_move rfl rfl) ?_)
      refine L_go rfl (X_p (p_fieldo fo25_3 rfl rfl) ?_)
      refine L_go rfl (X_rd (r_load ag22 rfl rfl (by repeat first | exact mH | apply mT) rfl) ?_)
      refine L_go rfl (X_p (p_len isl22 rfl rfl) ?_)
      refine L_go rfl (X_p (p_lss rfl rfl rfl) ?_)
      refine L_then (.cons (k := 1) rfl (.cons (k := 2) rfl (.cons (k := 3) rfl (.cons (k := 11) rfl (.cons (k := 12) rfl (.cons (k := 13) rfl (.cons (k := 36) rfl .nil))))))) ?_
      refine V_cond rfl ?_ ?_
      · intro c2; have c2r := c2; try simp only [td] at c2
        refine V_skip (then_n ?_)
        refine V_seq ?_
        refine V_block ?_
        refine V_mid (γ := Nat) (.cons (k := 1) rfl (.cons (k := 2) rfl (.cons (k := 3) rfl (.cons (k := 11) rfl (.cons (k := 12) rfl (.cons (k := 13) rfl .nil)))))) (fun x14 => [(15, .bool (boxT t (byT t now (fun x => decide (x ≠ k))) u).isSome)]) (fun x14 => (b1, t.obj (.slice ta t.trackers.length tc) (.slice pa t.plots.length pc) 25) :: G) (fun x14 => True) ?_ ?_
        · refine V_draw (.rd 0 (.rd 1 (.rd 2 (.rd 3 (.rd 5 (.wr2 4 [5, 0] (.wr2 6 [3, 2, 1] (.rd 7 (.rd 8 (.rd 9 (.wr 10 [9, 8, 7, 5, 3, 2, 1, 0] (.wr 11 [9] (.rd 12 .done)))))) 10 [5, 3, 2, 1, 0] (.wr 6 [3, 2, 1] (.rd 7 (.rd 8 (.rd 9 (.wr 11 [9] (.rd 12 .done))))))) 10 [5, 3, 2, 1, 0] (.wr 4 [5, 0] (.wr 6 [3, 2, 1] (.rd 7 (.rd 8 (.rd 9 (.wr 11 [9] (.rd 12 .done))))))))))))) mixed (by kernel_rfl) rfl ?_
          refine D_rd rfl (.plain rfl) (r_loadA (vs := [_, _, _, _, _]) ag25 sz25 rfl rfl (by repeat first | exact mH | apply mT) rfl) ?_
          refine D_rd rfl (.plain rfl) (r_loadA (vs := [_, _, _, _, _]) ag25 sz25 rfl rfl (by repeat first | exact mH | apply mT) rfl) ?_
          refine D_p rfl (.plain rfl) (p_move rfl rfl) ?_
          refine D_p rfl (.plain rfl) (p_move rfl rfl) ?_
          refine D_p rfl (.plain rfl) (p_move rfl rfl) ?_
          refine D_wr2 rfl ?_ ?_
          · refine (.go (E' := [(0, _)]) rfl (.plain rfl) (w_callG (pre := [_]) rfl rfl rfl rfl (fun w hg => rby_c t _ w (hT.good hg) hG (k) (-1) now)) rfl ?_)
            rintro _ _ ⟨_, Gb, rfl, hfrb, svb, rfl, rfl, hgrb⟩
            try dsimp only at hgrb
            try simp only [List.cons_append, List.nil_append, List.append_nil]
            refine ⟨(.cons rfl (.plain rfl) (r_loadA (vs := [_, _, _, _, _]) ag25 sz25 rfl rfl (by repeat first | exact mH | apply mT) rfl) .nil), ?_⟩
            refine D_wr2 rfl ?_ ?_
            · refine (.go (E' := []) rfl (.plain rfl) (w_callP rfl rfl rfl (fun w hg => (show FnP _ _ _ w (boxV (boxT t (byT t now (fun x => decide (x ≠ k))) u)) from want_butF k ▸ rbox_c t _ (byT t now (wantR (k) (-1))) _ w (hT.good hg) (Grow.slice hgrb (fun p hp => hg.own p (by repeat first | exact hp | exact List.mem_append_left _ hp | apply List.mem_append_right | apply mT))) hG byT_bnd (Nat.le_trans byT_len hG.h2) u hu))) rfl ?_)
              rintro _ _ ⟨rfl, rfl⟩
              refine ⟨.nil, ?_⟩
              refine D_p rfl (.plain rfl) (p_move rfl rfl) ?_
              refine D_p rfl (.plain rfl) (p_ext rfl rfl rfl) ?_
              refine D_p rfl (.plain rfl) (p_ext rfl rfl rfl) ?_
              refine D_wr (.go (E' := []) rfl (.plain rfl) (w_alloc zr35 rfl) rfl ?_)
              rintro _ _ ⟨b3, hb3, rfl, rfl⟩
              refine ⟨.nil, ?_⟩
              refine D_wr (.go (E' := []) rfl (.plain rfl) (w_store (cs' := [_, _, _, _, _, _, _, _, _, _, _, _, _]) sz35 rfl rfl rfl rfl rfl (by repeat first | exact .head | apply SetAt.tail) (Nat.le_of_ble_eq_true rfl) rfl) rfl ?_)
              rintro _ _ ⟨rfl, rfl⟩
              refine ⟨.nil, ?_⟩
              refine D_p rfl (.plain rfl) (p_assign rfl rfl) ?_
              refine D_then (.cons (k := 1) rfl (.cons (k := 2) rfl (.cons (k := 3) rfl (.cons (k := 11) rfl (.cons (k := 12) rfl (.cons (k := 13) rfl (.cons (k := 15) rfl .nil))))))) ?_
              refine ⟨0, trivial, (.cons rfl (.cons rfl (.cons rfl (.cons rfl (.cons rfl (.cons rfl (.cons rfl (.nil _)))))))), (by (try dsimp only); repeat (first | exact HSub.nil _ | refine HSub.take (by repeat first | exact Take.head | apply Take.tail) ?_ | exact HSub.refl _ | refine HSub.drop ?_ | refine HSub.app ?_)), rfl⟩
            · refine (.go (E' := [(0, _)]) rfl (.plain rfl) (w_alloc zr35 rfl) rfl ?_)
              rintro _ _ ⟨b3, hb3, rfl, rfl⟩
              refine ⟨(.cons rfl (.plain rfl) (r_loadA (vs := [_, _, _, _, _]) ag25 sz25 rfl rfl (by repeat first | exact mH | apply mT) rfl) .nil), ?_⟩
              refine D_wr (.go (E' := []) rfl (.plain rfl) (w_callP rfl rfl rfl (fun w hg => (show FnP _ _ _ w (boxV (boxT t (byT t now (fun x => decide (x ≠ k))) u)) from want_butF k ▸ rbox_c t _ (byT t now (wantR (k) (-1))) _ w (hT.good hg) (Grow.slice hgrb (fun p hp => hg.own p (by repeat first | exact hp | exact List.mem_append_left _ hp | apply List.mem_append_right | apply mT))) hG byT_bnd (Nat.le_trans byT_len hG.h2) u hu))) rfl ?_)
              rintro _ _ ⟨rfl, rfl⟩
              refine ⟨.nil, ?_⟩
              refine D_p rfl (.plain rfl) (p_move rfl rfl) ?_
              refine D_p rfl (.plain rfl) (p_ext rfl rfl rfl) ?_
              refine D_p rfl (.plain rfl) (p_ext rfl rfl rfl) ?_
              refine D_wr (.go (E' := []) rfl (.plain rfl) (w_store (cs' := [_, _, _, _, _, _, _, _, _, _, _, _, _]) sz35 rfl rfl rfl rfl rfl (by repeat first | exact .head | apply SetAt.tail) (Nat.le_of_ble_eq_true rfl) rfl) rfl ?_)
              rintro _ _ ⟨rfl, rfl⟩
              refine ⟨.nil, ?_⟩
              refine D_p rfl (.plain rfl) (p_assign rfl rfl) ?_
              refine D_then (.cons (k := 1) rfl (.cons (k := 2) rfl (.cons (k := 3) rfl (.cons (k := 11) rfl (.cons (k := 12) rfl (.cons (k := 13) rfl (.cons (k := 15) rfl .nil))))))) ?_
              refine ⟨0, trivial, (.cons rfl (.cons rfl (.cons rfl (.cons rfl (.cons rfl (.cons rfl (.cons rfl (.nil _)))))))), (by (try dsimp only); repeat (first | exact HSub.nil _ | refine HSub.take (by repeat first | exact Take.head | apply Take.tail) ?_ | exact HSub.refl _ | refine HSub.drop ?_ | refine HSub.app ?_)), rfl⟩
          · refine (.go (E' := [(1, _), (0, _)]) rfl (.plain rfl) (w_alloc zr35 rfl) rfl ?_)
            rintro _ _ ⟨b2, hb2, rfl, rfl⟩
            refine ⟨(.cons rfl (.plain rfl) (r_loadA (vs := [_, _, _, _, _]) ag25 sz25 rfl rfl (by repeat first | exact mH | apply mT) rfl) (.cons rfl (.plain rfl) (r_loadA (vs := [_, _, _, _, _]) ag25 sz25 rfl rfl (by repeat first | exact mH | apply mT) rfl) .nil)), ?_⟩
            refine D_wr (.go (E' := [(0, _)]) rfl (.plain rfl) (w_callG (pre := [_, _]) rfl rfl rfl rfl (fun w hg => rby_c t _ w (hT.good hg) hG (k) (-1) now)) rfl ?_)
            rintro _ _ ⟨_, Gb, rfl, hfrb, svb, rfl, rfl, hgrb⟩
            try dsimp only at hgrb
            try simp only [List.cons_append, List.nil_append, List.append_nil]
            refine ⟨(.cons rfl (.plain rfl) (r_loadA (vs := [_, _, _, _, _]) ag25 sz25 rfl rfl (by repeat first | exact mH | apply mT) rfl) .nil), ?_⟩
            refine D_wr (.go (E' := []) rfl (.plain rfl) (w_callP rfl rfl rfl (fun w hg => (show FnP _ _ _ w (boxV (boxT t (byT t now (fun x => decide (x ≠ k))) u)) from want_butF k ▸ rbox_c t _ (byT t now (wantR (k) (-1))) _ w (hT.good hg) (Grow.slice hgrb (fun p hp => hg.own p (by repeat first | exact hp | exact List.mem_append_left _ hp | apply List.mem_append_right | apply mT))) hG byT_bnd (Nat.le_trans byT_len hG.h2) u hu))) rfl ?_)
            rintro _ _ ⟨rfl, rfl⟩
            refine ⟨.nil, ?_⟩
            refine D_p rfl (.plain rfl) (p_move rfl rfl) ?_
            refine D_p rfl (.plain rfl) (p_ext rfl rfl rfl) ?_
            refine D_p rfl (.plain rfl) (p_ext rfl rfl rfl) ?_
            refine D_wr (.go (E' := []) rfl (.plain rfl) (w_store (cs' := [_, _, _, _, _, _, _, _, _, _, _, _, _]) sz35 rfl rfl rfl rfl rfl (by repeat first | exact .head | apply SetAt.tail) (Nat.le_of_ble_eq_true rfl) rfl) rfl ?_)
            rintro _ _ ⟨rfl, rfl⟩
            refine ⟨.nil, ?_⟩
            refine D_p rfl (.plain rfl) (p_assign rfl rfl) ?_
            refine D_then (.cons (k := 1) rfl (.cons (k := 2) rfl (.cons (k := 3) rfl (.cons (k := 11) rfl (.cons (k := 12) rfl (.cons (k := 13) rfl (.cons (k := 15) rfl .nil))))))) ?_
            refine ⟨0, trivial, (.cons rfl (.cons rfl (.cons rfl (.cons rfl (.cons rfl (.cons rfl (.cons rfl (.nil _)))))))), (by (try dsimp only); repeat (first | exact HSub.nil _ | refine HSub.take (by repeat first | exact Take.head | apply Take.tail) ?_ | exact HSub.refl _ | refine HSub.drop ?_ | refine HSub.app ?_)), rfl⟩
        · rintro x14 _
          refine V_seq (V_region rfl ?_)
          refine L_go rfl (X_p (p_move rfl rfl) ?_)
          refine L_then (.cons (k := 1) rfl (.cons (k := 2) rfl (.cons (k := 3) rfl (.cons (k := 11) rfl (.cons (k := 12) rfl (.cons (k := 13) rfl (.cons (k := 49) rfl .nil))))))) ?_
          refine V_cond rfl ?_ ?_
          · intro c3; have c3r := c3; try simp only [td] at c3
            refine V_region rfl ?_
            refine L_go rfl (X_p (p_move rfl rfl) ?_)
            refine L_go rfl (X_p (p_move rfl rfl) ?_)
            refine L_go rfl (X_wr (w_slice (r := [_]) un57 sz3 zr3 rfl (by decide) rfl (by decide) rfl rfl) ?_)
            rintro _ _ ⟨b2, hb2, rfl, rfl⟩
            refine L_go rfl (X_wr (w_app (pre := [_, _]) (G := G) (post := []) ap57 rfl rfl rfl hgr (by rw [List.append_nil]; rfl) rfl (news_own (by repeat first | exact mH | apply mT)) (by simp [Value.oneCell']) (by omega) (by simp only [maxLen]; omega)) ?_)
            rintro _ _ ⟨G1a, G1c, G1, rfl, rfl, hgr1⟩
            try simp only [List.cons_append, List.nil_append, List.append_nil]
            refine L_go rfl (X_p (p_assign rfl rfl) ?_)
            refine L_keep (.cons (k := 1) rfl (.cons (k := 2) rfl (.cons (k := 3) rfl (.cons (k := 11) rfl (.cons (k := 12) rfl (.cons (k := 13) rfl .nil)))))) (blk_n (then_n ?_))
            refine V_region rfl ?_
            refine L_go rfl (X_p (p_move rfl rfl) ?_)
            first | refine L_go rfl (X_p (p_add' rfl rfl rfl (by unfold InI; omega)) ?_) | refine L_go rfl (X_p (p_add rfl rfl rfl) ?_)
            refine L_go rfl (X_p (p_assign rfl rfl) ?_)
            refine L_keep (.cons (k := 1) rfl (.cons (k := 2) rfl (.cons (k := 3) rfl (.cons (k := 11) rfl (.cons (k := 12) rfl (.cons (k := 13) rfl .nil)))))) (then_n ?_)
            refine ⟨(k + 1, _, G1), ?_, ?_, (.cons rfl (.cons rfl (.cons rfl (.cons rfl (.cons rfl (.cons rfl (.nil _))))))), (by repeat (first | exact List.nil_sublist _ | exact List.Sublist.refl _ | apply List.Sublist.cons_cons | apply List.Sublist.cons | apply List.sublist_append_of_sublist_right)), rfl⟩
            · refine ⟨by omega, by omega, ?_⟩
              rw [fstV_yes hk0 (isSome_get c3), List.length_append, iiL, List.map_append]; exact hgr1
            · dsimp only; omega
          · intro c3; have c3r := c3; try simp only [td] at c3
            refine V_skip (blk_n (then_n ?_))
            refine V_region rfl ?_
            refine L_go rfl (X_p (p_move rfl rfl) ?_)
            first | refine L_go rfl (X_p (p_add' rfl rfl rfl (by unfold InI; omega)) ?_) | refine L_go rfl (X_p (p_add rfl rfl rfl) ?_)
            refine L_go rfl (X_p (p_assign rfl rfl) ?_)
            refine L_keep (.cons (k := 1) rfl (.cons (k := 2) rfl (.cons (k := 3) rfl (.cons (k := 11) rfl (.cons (k := 12) rfl (.cons (k := 13) rfl .nil)))))) (then_n ?_)
            refine ⟨(k + 1, sv, G), ?_, ?_, (.cons rfl (.cons rfl (.cons rfl (.cons rfl (.cons rfl (.cons rfl (.nil _))))))), (by repeat (first | exact List.nil_sublist _ | exact List.Sublist.refl _ | apply List.Sublist.cons_cons | apply List.Sublist.cons | apply List.sublist_append_of_sublist_right)), rfl⟩
            · refine ⟨by omega, by omega, ?_⟩
              rw [fstV_no hk0 (isSome_none c3)]; exact hgr
            · dsimp only; omega
      · intro c2; have c2r := c2; try simp only [td] at c2
        refine V_exit (then_e (then_e (blk_e rfl (then_n ?_))))
        refine V_seq (V_region rfl ?_)
        refine L_go rfl (X_p (p_move rfl rfl) ?_)
        refine L_go rfl (X_p (p_move rfl rfl) ?_)
        refine L_go rfl (X_p (p_assign rfl rfl) ?_)
        refine L_go rfl (X_p (p_assign rfl rfl) ?_)
        refine L_go rfl (X_p (p_assign rfl rfl) ?_)
        refine L_then (.cons (k := 6) rfl (.cons (k := 7) rfl (.cons (k := 8) rfl .nil))) ?_
        refine V_ret ?_
        refine Leave.nil (.tmp rfl (.tmp rfl (.tmp rfl .nil))) ?_
        have ek : k.toNat = t.trackers.length := by omega
        rw [ek] at hgr
        obtain ⟨e1, e2⟩ := failsL_2 c1
        refine ⟨G, (by (try dsimp only); repeat (first | exact HSub.nil _ | refine HSub.take (by repeat first | exact Take.head | apply Take.tail) ?_ | exact HSub.refl _ | refine HSub.drop ?_ | refine HSub.app ?_)), [], G, rfl, sv, rfl, ?_, ?_⟩
        · rw [e2, c1]; rfl
        · rw [e1]; exact hgr

end Go.Proofs.Ytclbbchehjapjaa
