/- Ytclbbchehjapjab: the example's task, and what the statements ask of it. -/
import Derived.Test.YtclbbchehjapjabT11
import Derived.Test.YtclbbchehjapjabR
set_option linter.all false
namespace Go.Proofs.Ytclbbchehjapjab
open Go.Vc Go.Tk
set_option maxRecDepth 100000
theorem example_c (w : World) : FnC Try.prog 25 [] w fun v w' => ∃ Hc, Vc.Good w [] Hc w' ∧ ∃ b1 b2, v = exV b1 b2 ∧ Hc = [(b2, exO2 114), (b1, exO1 116)] := by
  refine fn_new Try.func25 rfl (by kernel_rfl) Try.ntmps25 Try.results25 rfl ?_
  refine V_seq (V_region rfl ?_)
  refine L_go rfl (X_wr (w_alloc zr25 rfl) ?_)
  rintro _ _ ⟨b1, hb1, rfl, rfl⟩
  refine L_then (.cons (k := 0) rfl .nil) ?_
  refine V_seq (V_region rfl ?_)
  refine L_go rfl (X_p (p_build (r := [_, _, _, _, _, _]) pl116 zr116 rfl rfl rfl) ?_)
  refine L_go rfl (X_p (p_build (r := [_, _, _, _, _, _]) pl116 zr116 rfl rfl rfl) ?_)
  refine L_go rfl (X_p (p_build (r := [_, _, _, _, _, _]) pl116 zr116 rfl rfl rfl) ?_)
  refine L_go rfl (X_wr (w_slice (r := [_, _, _, _, _, _, _, _, _, _, _, _, _, _, _, _, _, _]) un22 sz116 zr116 rfl (by decide) rfl (by decide) rfl rfl) ?_)
  rintro _ _ ⟨b2, hb2, rfl, rfl⟩
  refine L_go rfl (X_p (p_build (r := [_, _, _, _, _]) pl114 zr114 rfl rfl rfl) ?_)
  refine L_go rfl (X_p (p_build (r := [_, _, _, _, _]) pl114 zr114 rfl rfl rfl) ?_)
  refine L_go rfl (X_p (p_build (r := [_, _, _, _, _]) pl114 zr114 rfl rfl rfl) ?_)
  refine L_go rfl (X_p (p_build (r := [_, _, _, _, _]) pl114 zr114 rfl rfl rfl) ?_)
  refine L_go rfl (X_wr (w_slice (r := [_, _, _, _, _, _, _, _, _, _, _, _, _, _, _, _, _, _, _, _]) un23 sz114 zr114 rfl (by decide) rfl (by decide) rfl rfl) ?_)
  rintro _ _ ⟨b3, hb3, rfl, rfl⟩
  refine L_go rfl (X_p (p_build (r := [_, _, _, _, _]) pl25 zr25 rfl rfl rfl) ?_)
  refine L_go rfl (X_wr (w_store (cs' := [_, _, _, _, _]) sz25 rfl rfl rfl rfl rfl (by repeat first | exact .head | apply SetAt.tail) (Nat.le_of_ble_eq_true rfl) rfl) ?_)
  rintro _ _ ⟨rfl, rfl⟩
  refine L_then (.cons (k := 0) rfl .nil) ?_
  refine V_ret ?_
  refine Leave.nil (.cellA (us := [_, _, _, _, _]) rfl ag25 sz25 (by repeat first | exact mH | apply mT) rfl .nil) ?_
  exact ⟨[(b3, _), (b2, _)], (by (try dsimp only); repeat (first | exact HSub.nil _ | refine HSub.take (by repeat first | exact Take.head | apply Take.tail) ?_ | exact HSub.refl _ | refine HSub.drop ?_ | refine HSub.app ?_)), b2, b3, rfl, rfl⟩
theorem lspan_c (lo hi : Int) (w : World) : FnP Try.prog 23 [.int .i64 lo, .int .i64 hi] w (.agg #[.int .i64 lo, .int .i64 hi]) := by
  refine fn_pure Try.func23 rfl (by kernel_rfl) Try.ntmps23 Try.results23 rfl ?_
  refine V_seq (V_region rfl ?_)
  refine L_go rfl (X_wr (w_alloc zr32 rfl) ?_)
  rintro _ _ ⟨b1, hb1, rfl, rfl⟩
  refine L_then (.cons (k := 0) rfl (.cons (k := 1) rfl (.cons (k := 4) rfl .nil))) ?_
  refine V_seq (V_region rfl ?_)
  refine L_go rfl (X_p (p_move rfl rfl) ?_)
  refine L_go rfl (X_p (p_move rfl rfl) ?_)
  refine L_go rfl (X_p (p_build (r := [_, _]) pl32 zr32 rfl rfl rfl) ?_)
  refine L_go rfl (X_wr (w_store (cs' := [_, _]) sz32 rfl rfl rfl rfl rfl (by repeat first | exact .head | apply SetAt.tail) (Nat.le_of_ble_eq_true rfl) rfl) ?_)
  rintro _ _ ⟨rfl, rfl⟩
  refine L_then (.cons (k := 4) rfl .nil) ?_
  refine V_ret ?_
  refine Leave.nil (.cellA (us := [_, _]) rfl ag32 sz32 (by repeat first | exact mH | apply mT) rfl .nil) ?_
  rfl
theorem ex_where (w : World) (b1 b2 : Nat) (h : TaskR w (exV b1 b2) exT) : FnP Try.prog 9 [exV b1 b2, .int .i64 120, .int .i64 150] w (.tuple #[.agg #[.int .i64 120, .int .i64 (-600), .int .i64 1000, .int .i64 (-700), .int .i64 900, .int .i64 8700, .int .i64 10300, .int .i64 (-612), .int .i64 637, .int .i64 (-612), .int .i64 637, .int .i64 563, .int .i64 1000], .int .i64 0]) := ex_where0 ▸ where_c exT _ _ 120 150 w h
theorem ex_reach (w : World) (b1 b2 : Nat) (h : TaskR w (exV b1 b2) exT) : FnP Try.prog 28 [exV b1 b2, .int .i64 30] w (.tuple #[.int .i64 20500, .int .i64 0]) := ex_reach0 ▸ reachR_c exT _ _ 30 w h
theorem ex_width (w : World) (b1 b2 : Nat) (h : TaskR w (exV b1 b2) exT) : FnP Try.prog 26 [exV b1 b2, .int .i64 1] w (.tuple #[.int .i64 4000, .int .i64 0]) := ex_width0 ▸ widthR_c exT _ _ 1 w h
theorem ex_best (w : World) (b1 b2 : Nat) (h : TaskR w (exV b1 b2) exT) : FnP Try.prog 30 [exV b1 b2, .int .i64 (-1), .int .i64 0] w (.tuple #[.int .i64 0, .int .i64 7]) := ex_asked0 ▸ bestE_c exT _ _ (-1) 0 w h (by rw [ex_asked0]; decide)
theorem awake_c (w : World) : FnP Try.prog 10 [] w (.bool true) := by
  refine fn_pure Try.func10 rfl (by kernel_rfl) Try.ntmps10 Try.results10 rfl ?_
  refine V_seq (V_region rfl ?_)
  refine L_go rfl (X_p (p_assign rfl rfl) ?_)
  refine L_then .nil ?_
  refine V_seq (V_region rfl ?_)
  refine L_go rfl (X_wr (w_callN rfl rfl rfl (fun w hg => example_c w)) ?_)
  rintro _ _ ⟨_, rfl, _, x1, y1, rfl, rfl⟩
  refine L_go rfl (X_wr (w_callP rfl rfl rfl (fun w hg => ex_where w _ _ (exTask (hg.own (x1, _) (by repeat first | exact mH | apply mT)) (hg.own (y1, _) (by repeat first | exact mH | apply mT))))) ?_)
  rintro _ _ ⟨rfl, rfl⟩
  refine L_go rfl (X_p (p_move rfl rfl) ?_)
  refine L_go rfl (X_p (p_ext rfl rfl rfl) ?_)
  refine L_go rfl (X_p (p_ext rfl rfl rfl) ?_)
  refine L_go rfl (X_wr (w_alloc zr34 rfl) ?_)
  rintro _ _ ⟨b2, hb2, rfl, rfl⟩
  refine L_go rfl (X_wr (w_store (cs' := [_, _, _, _, _, _, _, _, _, _, _, _, _]) sz34 rfl rfl rfl rfl rfl (by repeat first | exact .head | apply SetAt.tail) (Nat.le_of_ble_eq_true rfl) rfl) ?_)
  rintro _ _ ⟨rfl, rfl⟩
  refine L_go rfl (X_p (p_assign rfl rfl) ?_)
  refine L_then (.cons (k := 1) rfl (.cons (k := 2) rfl .nil)) ?_
  refine V_seq (V_region rfl ?_)
  refine L_go rfl (X_wr (w_callN rfl rfl rfl (fun w hg => example_c w)) ?_)
  rintro _ _ ⟨_, rfl, _, x3, y3, rfl, rfl⟩
  refine L_go rfl (X_wr (w_callP rfl rfl rfl (fun w hg => ex_reach w _ _ (exTask (hg.own (x3, _) (by repeat first | exact mH | apply mT)) (hg.own (y3, _) (by repeat first | exact mH | apply mT))))) ?_)
  rintro _ _ ⟨rfl, rfl⟩
  refine L_go rfl (X_p (p_move rfl rfl) ?_)
  refine L_go rfl (X_p (p_ext rfl rfl rfl) ?_)
  refine L_go rfl (X_p (p_ext rfl rfl rfl) ?_)
  refine L_go rfl (X_p (p_assign rfl rfl) ?_)
  refine L_go rfl (X_p (p_assign rfl rfl) ?_)
  refine L_then (.cons (k := 1) rfl (.cons (k := 2) rfl (.cons (k := 3) rfl (.cons (k := 4) rfl .nil)))) ?_
  refine V_seq (V_region rfl ?_)
  refine L_go rfl (X_wr (w_callN rfl rfl rfl (fun w hg => example_c w)) ?_)
  rintro _ _ ⟨_, rfl, _, x4, y4, rfl, rfl⟩
  refine L_go rfl (X_wr (w_callP rfl rfl rfl (fun w hg => ex_width w _ _ (exTask (hg.own (x4, _) (by repeat first | exact mH | apply mT)) (hg.own (y4, _) (by repeat first | exact mH | apply mT))))) ?_)
  rintro _ _ ⟨rfl, rfl⟩
  refine L_go rfl (X_p (p_move rfl rfl) ?_)
  refine L_go rfl (X_p (p_ext rfl rfl rfl) ?_)
  refine L_go rfl (X_p (p_ext rfl rfl rfl) ?_)
  refine L_go rfl (X_p (p_assign rfl rfl) ?_)
  refine L_go rfl (X_p (p_assign rfl rfl) ?_)
  refine L_then (.cons (k := 1) rfl (.cons (k := 2) rfl (.cons (k := 3) rfl (.cons (k := 4) rfl (.cons (k := 5) rfl (.cons (k := 6) rfl .nil)))))) ?_
  refine V_seq (V_region rfl ?_)
  refine L_go rfl (X_wr (w_callN rfl rfl rfl (fun w hg => example_c w)) ?_)
  rintro _ _ ⟨_, rfl, _, x5, y5, rfl, rfl⟩
  refine L_go rfl (X_wr (w_callP rfl rfl rfl (fun w hg => ex_best w _ _ (exTask (hg.own (x5, _) (by repeat first | exact mH | apply mT)) (hg.own (y5, _) (by repeat first | exact mH | apply mT))))) ?_)
  rintro _ _ ⟨rfl, rfl⟩
  refine L_go rfl (X_p (p_move rfl rfl) ?_)
  refine L_go rfl (X_p (p_ext rfl rfl rfl) ?_)
  refine L_go rfl (X_p (p_ext rfl rfl rfl) ?_)
  refine L_go rfl (X_p (p_assign rfl rfl) ?_)
  refine L_go rfl (X_p (p_assign rfl rfl) ?_)
  refine L_then (.cons (k := 1) rfl (.cons (k := 2) rfl (.cons (k := 3) rfl (.cons (k := 4) rfl (.cons (k := 5) rfl (.cons (k := 6) rfl (.cons (k := 8) rfl .nil))))))) ?_
  refine V_seq (V_draw (.rd 0 (.rd 1 (.rd 2 (.rd 3 (.rd 4 (.rd 5 (.rd 6 (.rd 7 (.rd 8 (.rd 9 (.rd 10 (.rd 11 (.rd 12 (.rd 13 (.rd 14 (.rd 15 (.rd 16 (.rd 17 (.rd 18 (.rd 19 (.rd 20 (.rd 21 (.rd 22 (.rd 23 (.rd 24 (.wr 25 [24, 23, 21, 20, 19, 18, 17, 16, 15, 14, 13, 12, 11, 10, 9, 8, 7, 6, 5, 4, 3, 2, 1, 0] (.rd 26 (.rd 27 (.rd 28 (.rd 29 (.rd 30 (.wr 31 [30, 29, 27, 26, 24, 23, 22, 21, 20, 19, 18, 17, 16, 15, 14, 13, 12, 11, 10, 9, 8, 7, 6, 5, 4, 3, 2, 1, 0] (.rd 32 (.rd 33 (.rd 34 .done))))))))))))))))))))))))))))))))))) mixed (by kernel_rfl) rfl ?_)
  refine D_p rfl (.plain rfl) (p_move rfl rfl) ?_
  refine D_p rfl (.plain rfl) (p_eql rfl rfl rfl) ?_
  refine D_p rfl (.plain rfl) (p_move rfl rfl) ?_
  refine D_p rfl (.yes rfl rfl rfl (by first | rfl | simp | decide)) (p_move rfl rfl) ?_
  refine D_p rfl (.yes rfl rfl rfl (by first | rfl | simp | decide)) (p_eql rfl rfl rfl) ?_
  refine D_p rfl (.plain rfl) (p_pick_t rfl rfl (by first | rfl | simp | decide) rfl) ?_
  refine D_p rfl (.plain rfl) (p_move rfl rfl) ?_
  refine D_p rfl (.yes rfl rfl rfl (by first | rfl | simp | decide)) (p_move rfl rfl) ?_
  refine D_p rfl (.yes rfl rfl rfl (by first | rfl | simp | decide)) (p_eql rfl rfl rfl) ?_
  refine D_p rfl (.plain rfl) (p_pick_t rfl rfl (by first | rfl | simp | decide) rfl) ?_
  refine D_p rfl (.plain rfl) (p_move rfl rfl) ?_
  refine D_p rfl (.yes rfl rfl rfl (by first | rfl | simp | decide)) (p_move rfl rfl) ?_
  refine D_p rfl (.yes rfl rfl rfl (by first | rfl | simp | decide)) (p_eql rfl rfl rfl) ?_
  refine D_p rfl (.plain rfl) (p_pick_t rfl rfl (by first | rfl | simp | decide) rfl) ?_
  refine D_p rfl (.plain rfl) (p_move rfl rfl) ?_
  refine D_p rfl (.yes rfl rfl rfl (by first | rfl | simp | decide)) (p_move rfl rfl) ?_
  refine D_p rfl (.yes rfl rfl rfl (by first | rfl | simp | decide)) (p_eql rfl rfl rfl) ?_
  refine D_p rfl (.plain rfl) (p_pick_t rfl rfl (by first | rfl | simp | decide) rfl) ?_
  refine D_p rfl (.plain rfl) (p_move rfl rfl) ?_
  refine D_p rfl (.yes rfl rfl rfl (by first | rfl | simp | decide)) (p_move rfl rfl) ?_
  refine D_p rfl (.yes rfl rfl rfl (by first | rfl | simp | decide)) (p_eql rfl rfl rfl) ?_
  refine D_p rfl (.plain rfl) (p_pick_t rfl rfl (by first | rfl | simp | decide) rfl) ?_
  refine D_p rfl (.plain rfl) (p_move rfl rfl) ?_
  refine D_p rfl (.yes rfl rfl rfl (by first | rfl | simp | decide)) (p_fieldo fo34_1 rfl rfl) ?_
  refine D_rd rfl (.yes rfl rfl rfl (by first | rfl | simp | decide)) (r_loadA (vs := [_, _]) ag32 sz32 rfl rfl (by repeat first | exact mH | apply mT) rfl) ?_
  refine D_wr (.go (E' := [(24, _)]) rfl (.yes rfl rfl rfl (by first | rfl | simp | decide)) (w_callP rfl rfl rfl (fun w hg => lspan_c _ _ w)) rfl ?_)
  rintro _ _ ⟨rfl, rfl⟩
  refine ⟨(.cons rfl (.yes rfl rfl rfl (by first | rfl | simp | decide)) (r_loadA (vs := [_, _]) ag32 sz32 rfl rfl (by repeat first | exact mH | apply mT) rfl) .nil), ?_⟩
  refine D_p rfl (.yes rfl rfl rfl (by first | rfl | simp | decide)) (p_eqS lv32 ag32 eg32 rfl rfl rfl rfl rfl) ?_
  refine D_p rfl (.plain rfl) (p_pick_t rfl rfl (by first | rfl | simp | decide) rfl) ?_
  refine D_p rfl (.plain rfl) (p_move rfl rfl) ?_
  refine D_p rfl (.yes rfl rfl rfl (by first | rfl | (simp; done) | (simp [eqL, eqv, Box.cells]; done) | decide)) (p_fieldo fo34_6 rfl rfl) ?_
  refine D_rd rfl (.yes rfl rfl rfl (by first | rfl | (simp; done) | (simp [eqL, eqv, Box.cells]; done) | decide)) (r_loadA (vs := [_, _]) ag32 sz32 rfl rfl (by repeat first | exact mH | apply mT) rfl) ?_
  refine D_wr (.go (E' := [(30, _), (24, _)]) rfl (.yes rfl rfl rfl (by first | rfl | (simp; done) | (simp [eqL, eqv, Box.cells]; done) | decide)) (w_callP rfl rfl rfl (fun w hg => lspan_c _ _ w)) rfl ?_)
  rintro _ _ ⟨rfl, rfl⟩
  refine ⟨(.cons rfl (.yes rfl rfl rfl (by first | rfl | (simp; done) | (simp [eqL, eqv, Box.cells]; done) | decide)) (r_loadA (vs := [_, _]) ag32 sz32 rfl rfl (by repeat first | exact mH | apply mT) rfl) (.cons rfl (.yes rfl rfl rfl (by first | rfl | simp | decide)) (r_loadA (vs := [_, _]) ag32 sz32 rfl rfl (by repeat first | exact mH | apply mT) rfl) .nil)), ?_⟩
  refine D_p rfl (.yes rfl rfl rfl (by first | rfl | (simp; done) | (simp [eqL, eqv, Box.cells]; done) | decide)) (p_eqS lv32 ag32 eg32 rfl rfl rfl rfl rfl) ?_
  refine D_p rfl (.plain rfl) (p_pick_t rfl rfl (by first | rfl | (simp; done) | (simp [eqL, eqv, Box.cells]; done) | decide) rfl) ?_
  refine D_p rfl (.plain rfl) (p_assign rfl rfl) ?_
  refine D_then (.cons (k := 0) rfl .nil) ?_
  refine V_ret ?_
  refine Leave.nil (.tmp rfl .nil) ?_
  rfl

end Go.Proofs.Ytclbbchehjapjab
