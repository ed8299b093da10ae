/- Ytclbbchehjapjab: TrackKnown is proved: it returns true (no condition). -/
import Derived.Test.YtclbbchehjapjabRows
import Derived.Test.YtclbbchehjapjabT12
import Derived.Test.YtclbbchehjapjabT13
import Derived.Test.YtclbbchehjapjabT14
import Derived.Test.YtclbbchehjapjabT20
import Derived.Test.YtclbbchehjapjabT21
import Derived.Test.YtclbbchehjapjabS
import Derived.ProofKit
set_option linter.all false
namespace Go.Proofs.Ytclbbchehjapjab
open Go.Vc Go.Tk Go.ChangeShapes Go.WideShapes Go.ChangeAt Go.RowKit
set_option maxRecDepth 100000
theorem exk_width0 (w : World) (b1 b2 : Nat) (h : TaskR w (exV b1 b2) exT) : FnP Try.prog 26 [exV b1 b2, .int .i64 0] w (.tuple #[.int .i64 3500, .int .i64 0]) := by
  have e : widthP exT 0 = (3500, 0) := by kernel_rfl
  have h1 := widthR_c exT _ _ 0 w h
  rw [widthR_eq, e] at h1
  exact h1
theorem exk_width1 (w : World) (b1 b2 : Nat) (h : TaskR w (exV b1 b2) exT) : FnP Try.prog 26 [exV b1 b2, .int .i64 1] w (.tuple #[.int .i64 4000, .int .i64 0]) := by
  have e : widthP exT 1 = (4000, 0) := by kernel_rfl
  have h1 := widthR_c exT _ _ 1 w h
  rw [widthR_eq, e] at h1
  exact h1
theorem exk_width2 (w : World) (b1 b2 : Nat) (h : TaskR w (exV b1 b2) exT) : FnP Try.prog 26 [exV b1 b2, .int .i64 2] w (.tuple #[.int .i64 800, .int .i64 0]) := by
  have e : widthP exT 2 = (800, 0) := by kernel_rfl
  have h1 := widthR_c exT _ _ 2 w h
  rw [widthR_eq, e] at h1
  exact h1
theorem exk_reach0 (w : World) (b1 b2 : Nat) (h : TaskR w (exV b1 b2) exT) : FnP Try.prog 28 [exV b1 b2, .int .i64 1] w (.tuple #[.int .i64 50, .int .i64 0]) := by
  have e : reachP exT 1 = (50, 0) := by kernel_rfl
  have h1 := reachR_c exT _ _ 1 w h
  rw [reachR_eq, e] at h1
  exact h1
theorem exk_reach1 (w : World) (b1 b2 : Nat) (h : TaskR w (exV b1 b2) exT) : FnP Try.prog 28 [exV b1 b2, .int .i64 20] w (.tuple #[.int .i64 10500, .int .i64 0]) := by
  have e : reachP exT 20 = (10500, 0) := by kernel_rfl
  have h1 := reachR_c exT _ _ 20 w h
  rw [reachR_eq, e] at h1
  exact h1
theorem exk_reach2 (w : World) (b1 b2 : Nat) (h : TaskR w (exV b1 b2) exT) : FnP Try.prog 28 [exV b1 b2, .int .i64 30] w (.tuple #[.int .i64 20500, .int .i64 0]) := by
  have e : reachP exT 30 = (20500, 0) := by kernel_rfl
  have h1 := reachR_c exT _ _ 30 w h
  rw [reachR_eq, e] at h1
  exact h1
theorem exk_where1 (w : World) (b1 b2 : Nat) (h : TaskR w (exV b1 b2) exT) : FnP Try.prog 9 [exV b1 b2, .int .i64 100, .int .i64 150] w (.tuple #[.agg #[.int .i64 (100), .int .i64 (0), .int .i64 (0), .int .i64 (0), .int .i64 (0), .int .i64 (0), .int .i64 (0), .int .i64 (-50), .int .i64 (50), .int .i64 (-50), .int .i64 (50), .int .i64 (-50), .int .i64 (50)], .int .i64 0]) := by
  have e : whereP exT 100 150 = (⟨100, ⟨0, 0⟩, ⟨0, 0⟩, ⟨0, 0⟩, ⟨-50, 50⟩, ⟨-50, 50⟩, ⟨-50, 50⟩⟩, 0) := by kernel_rfl
  have h1 := where_c exT _ _ 100 150 w h
  rw [whereT_eq, e] at h1
  exact h1
theorem exk_where2 (w : World) (b1 b2 : Nat) (h : TaskR w (exV b1 b2) exT) : FnP Try.prog 9 [exV b1 b2, .int .i64 120, .int .i64 150] w (.tuple #[.agg #[.int .i64 (120), .int .i64 (-600), .int .i64 (1000), .int .i64 (-700), .int .i64 (900), .int .i64 (8700), .int .i64 (10300), .int .i64 (-612), .int .i64 (637), .int .i64 (-612), .int .i64 (637), .int .i64 (563), .int .i64 (1000)], .int .i64 0]) := by
  have e : whereP exT 120 150 = (⟨120, ⟨-600, 1000⟩, ⟨-700, 900⟩, ⟨8700, 10300⟩, ⟨-612, 637⟩, ⟨-612, 637⟩, ⟨563, 1000⟩⟩, 0) := by kernel_rfl
  have h1 := where_c exT _ _ 120 150 w h
  rw [whereT_eq, e] at h1
  exact h1
theorem exk_alone (w : World) (b1 b2 : Nat) (h : TaskR w (exV b1 b2) exT) : FnP Try.prog 13 [exV b1 b2, .int .i64 1, .int .i64 120, .int .i64 150] w (.tuple #[.agg #[.int .i64 (120), .int .i64 (-3000), .int .i64 (5000), .int .i64 (-4000), .int .i64 (4000), .int .i64 (4000), .int .i64 (10500), .int .i64 (-1000), .int .i64 (1000), .int .i64 (-1000), .int .i64 (1000), .int .i64 (-212), .int .i64 (1000)], .int .i64 0]) := by
  have e : aloneP exT 1 120 150 = (⟨120, ⟨-3000, 5000⟩, ⟨-4000, 4000⟩, ⟨4000, 10500⟩, ⟨-1000, 1000⟩, ⟨-1000, 1000⟩, ⟨-212, 1000⟩⟩, 0) := by kernel_rfl
  have h1 := alone_c exT _ _ 1 120 150 w h
  rw [e] at h1
  exact h1
theorem exk_spare (w : World) (b1 b2 : Nat) (h : TaskR w (exV b1 b2) exT) : FnP Try.prog 11 [exV b1 b2, .int .i64 120, .int .i64 150] w (.tuple #[.agg #[.int .i64 (120), .int .i64 (-3000), .int .i64 (3500), .int .i64 (-3500), .int .i64 (3500), .int .i64 (6500), .int .i64 (10500), .int .i64 (-1000), .int .i64 (1000), .int .i64 (-1000), .int .i64 (1000), .int .i64 (100), .int .i64 (1000)], .int .i64 0]) := by
  have e : spareP exT 120 150 = (⟨120, ⟨-3000, 3500⟩, ⟨-3500, 3500⟩, ⟨6500, 10500⟩, ⟨-1000, 1000⟩, ⟨-1000, 1000⟩, ⟨100, 1000⟩⟩, 0) := by kernel_rfl
  have h1 := spareR_c exT _ _ 120 150 w h
  rw [spareR_eq, e] at h1
  exact h1
theorem exk_best0 (w : World) (b1 b2 : Nat) (h : TaskR w (exV b1 b2) exT) : FnP Try.prog 30 [exV b1 b2, .int .i64 120, .int .i64 150] w (.tuple #[.int .i64 2, .int .i64 0]) := by
  have e : bestP exT 120 150 = (2, 0) := by kernel_rfl
  have h1 := best_c exT _ _ 120 150 w h
  rw [e] at h1
  exact h1
theorem exk_best1 (w : World) (b1 b2 : Nat) (h : TaskR w (exV b1 b2) exT) : FnP Try.prog 30 [exV b1 b2, .int .i64 120, .int .i64 120] w (.tuple #[.int .i64 1, .int .i64 0]) := by
  have e : bestP exT 120 120 = (1, 0) := by kernel_rfl
  have h1 := best_c exT _ _ 120 120 w h
  rw [e] at h1
  exact h1
theorem exk_ahead (w : World) (b1 b2 : Nat) (h : TaskR w (exV b1 b2) exT) : FnP Try.prog 18 [exV b1 b2, .agg #[.int .i64 (120), .int .i64 (0), .int .i64 (10), .int .i64 (0), .int .i64 (0), .int .i64 (0), .int .i64 (0), .int .i64 (100), .int .i64 (200), .int .i64 (0), .int .i64 (0), .int .i64 (0), .int .i64 (0)], .int .i64 2] w (.tuple #[.agg #[.int .i64 (122), .int .i64 (150), .int .i64 (460), .int .i64 (-50), .int .i64 (50), .int .i64 (-50), .int .i64 (50), .int .i64 (0), .int .i64 (300), .int .i64 (-100), .int .i64 (100), .int .i64 (-100), .int .i64 (100)], .int .i64 0]) := by
  have e : aheadP exT ⟨120, ⟨0, 10⟩, ⟨0, 0⟩, ⟨0, 0⟩, ⟨100, 200⟩, ⟨0, 0⟩, ⟨0, 0⟩⟩ 2 = (⟨122, ⟨150, 460⟩, ⟨-50, 50⟩, ⟨-50, 50⟩, ⟨0, 300⟩, ⟨-100, 100⟩, ⟨-100, 100⟩⟩, 0) := by kernel_rfl
  have h1 := ahead_c ⟨120, ⟨0, 10⟩, ⟨0, 0⟩, ⟨0, 0⟩, ⟨100, 200⟩, ⟨0, 0⟩, ⟨0, 0⟩⟩ exT _ _ 2 w h
  rw [e] at h1
  exact h1
theorem exk_known0 (w : World) (b1 b2 : Nat) (h : TaskR w (exV b1 b2) exT) : FnC Try.prog 27 [exV b1 b2, .int .i64 120] w (fun v w'' => ∃ Hc, Vc.Good w [] Hc w'' ∧ ∃ A G, Hc = A ++ G ∧ ListOut 3 [1] (fun sv => .tuple #[sv, .int .i64 0]) v A G) := by
  have e : knownL exT 120 = [1] := by kernel_rfl
  have e2 : askedT exT [120] = 0 := by kernel_rfl
  have h1 := knownR_c exT _ _ 120 w h
  rw [e, e2] at h1
  exact h1
theorem exk_known1 (w : World) (b1 b2 : Nat) (h : TaskR w (exV b1 b2) exT) : FnC Try.prog 27 [exV b1 b2, .int .i64 139] w (fun v w'' => ∃ Hc, Vc.Good w [] Hc w'' ∧ ∃ A G, Hc = A ++ G ∧ ListOut 3 [0, 1] (fun sv => .tuple #[sv, .int .i64 0]) v A G) := by
  have e : knownL exT 139 = [0, 1] := by kernel_rfl
  have e2 : askedT exT [139] = 0 := by kernel_rfl
  have h1 := knownR_c exT _ _ 139 w h
  rw [e, e2] at h1
  exact h1
theorem exk_known2 (w : World) (b1 b2 : Nat) (h : TaskR w (exV b1 b2) exT) : FnC Try.prog 27 [exV b1 b2, .int .i64 150] w (fun v w'' => ∃ Hc, Vc.Good w [] Hc w'' ∧ ∃ A G, Hc = A ++ G ∧ ListOut 3 [0, 1, 2, 3] (fun sv => .tuple #[sv, .int .i64 0]) v A G) := by
  have e : knownL exT 150 = [0, 1, 2, 3] := by kernel_rfl
  have e2 : askedT exT [150] = 0 := by kernel_rfl
  have h1 := knownR_c exT _ _ 150 w h
  rw [e, e2] at h1
  exact h1
theorem exk_fails (w : World) (b1 b2 : Nat) (h : TaskR w (exV b1 b2) exT) : FnC Try.prog 8 [exV b1 b2, .int .i64 120, .int .i64 150] w (fun v w'' => ∃ Hc, Vc.Good w [] Hc w'' ∧ ∃ A G, Hc = A ++ G ∧ ListOut 3 [0, 1, 2] (fun sv => .tuple #[sv, .bool true, .int .i64 0]) v A G) := by
  have e : failsL exT 120 150 = [0, 1, 2] := by kernel_rfl
  have e2 : failsB exT 120 150 = true := by kernel_rfl
  have e3 : askedT exT [120, 150] = 0 := by kernel_rfl
  have h1 := fails_c exT _ _ 120 150 w h
  rw [e, e2, e3] at h1
  exact h1
theorem exk_gaps0 (w : World) (b1 b2 : Nat) (h : TaskR w (exV b1 b2) exT) : FnC Try.prog 14 [exV b1 b2, .int .i64 100, .int .i64 104, .int .i64 150, .int .i64 99] w (fun v w'' => ∃ Hc, Vc.Good w [] Hc w'' ∧ ∃ A G, Hc = A ++ G ∧ GapsOut 47 [(101, 104)] (fun sv => .tuple #[sv, .int .i64 0]) v A G) := by
  have e : gapsL exT 100 104 150 99 = [(101, 104)] := by kernel_rfl
  have e2 : gapsE exT 100 104 150 99 = 0 := by kernel_rfl
  have h1 := gaps_c exT _ w h 100 104 150 99
  rw [e, e2] at h1
  exact h1
theorem exk_gaps1 (w : World) (b1 b2 : Nat) (h : TaskR w (exV b1 b2) exT) : FnC Try.prog 14 [exV b1 b2, .int .i64 100, .int .i64 104, .int .i64 150, .int .i64 100] w (fun v w'' => ∃ Hc, Vc.Good w [] Hc w'' ∧ ∃ A G, Hc = A ++ G ∧ GapsOut 47 [(102, 104)] (fun sv => .tuple #[sv, .int .i64 0]) v A G) := by
  have e : gapsL exT 100 104 150 100 = [(102, 104)] := by kernel_rfl
  have e2 : gapsE exT 100 104 150 100 = 0 := by kernel_rfl
  have h1 := gaps_c exT _ w h 100 104 150 100
  rw [e, e2] at h1
  exact h1
theorem exk_gaps2 (w : World) (b1 b2 : Nat) (h : TaskR w (exV b1 b2) exT) : FnC Try.prog 14 [exV b1 b2, .int .i64 100, .int .i64 104, .int .i64 150, .int .i64 600] w (fun v w'' => ∃ Hc, Vc.Good w [] Hc w'' ∧ ∃ A G, Hc = A ++ G ∧ GapsOut 47 [] (fun sv => .tuple #[sv, .int .i64 0]) v A G) := by
  have e : gapsL exT 100 104 150 600 = [] := by kernel_rfl
  have e2 : gapsE exT 100 104 150 600 = 0 := by kernel_rfl
  have h1 := gaps_c exT _ w h 100 104 150 600
  rw [e, e2] at h1
  exact h1
set_option maxHeartbeats 8000000 in
theorem trackKnown_c (w : World) : FnP Try.prog 7 [] w (.bool true) := by
  refine fn_pure Try.func7 rfl (by kernel_rfl) Try.ntmps7 Try.results7 rfl ?_
  refine V_seq (V_region rfl ?_)
  refine L_go rfl (X_p (p_assign rfl rfl) ?_)
  refine L_then .nil ?_
  refine V_seq (V_region rfl ?_)
  refine L_go rfl (X_wr (w_callN rfl rfl rfl (fun w hg => example_c w)) ?_)
  rintro _ _ ⟨_, rfl, _, x1, y1, rfl, rfl⟩
  refine L_go rfl (X_wr (w_alloc zr25 rfl) ?_)
  rintro _ _ ⟨b2, hb2, rfl, rfl⟩
  refine L_go rfl (X_wr (w_store (cs' := [_, _, _, _, _]) sz25 rfl rfl rfl rfl rfl (by repeat first | exact .head | apply SetAt.tail) (Nat.le_of_ble_eq_true rfl) rfl) ?_)
  rintro _ _ ⟨rfl, rfl⟩
  refine L_then (.cons (k := 1) rfl .nil) ?_
  refine V_seq (V_region rfl ?_)
  refine L_go rfl (X_wr (w_slice (r := [_, _, _]) un27 sz3 zr3 rfl (by decide) rfl (by decide) rfl rfl) ?_)
  rintro _ _ ⟨b3, hb3, rfl, rfl⟩
  refine L_go rfl (X_wr (w_slice (r := [_, _, _]) un27 sz3 zr3 rfl (by decide) rfl (by decide) rfl rfl) ?_)
  rintro _ _ ⟨b4, hb4, rfl, rfl⟩
  refine L_go rfl (X_wr (w_slice (r := [_]) un27 sz3 zr3 rfl (by decide) rfl (by decide) rfl rfl) ?_)
  rintro _ _ ⟨b5, hb5, rfl, rfl⟩
  refine L_go rfl (X_wr (w_slice (r := [_, _]) un27 sz3 zr3 rfl (by decide) rfl (by decide) rfl rfl) ?_)
  rintro _ _ ⟨b6, hb6, rfl, rfl⟩
  refine L_go rfl (X_wr (w_slice (r := [_, _, _, _]) un27 sz3 zr3 rfl (by decide) rfl (by decide) rfl rfl) ?_)
  rintro _ _ ⟨b7, hb7, rfl, rfl⟩
  refine L_go rfl (X_wr (w_slice (r := [_, _, _]) un72 sz27 zr27 rfl (by decide) rfl (by decide) rfl rfl) ?_)
  rintro _ _ ⟨b8, hb8, rfl, rfl⟩
  refine L_go rfl (X_p (p_assign rfl rfl) ?_)
  refine L_go rfl (X_p (p_assign rfl rfl) ?_)
  refine L_go rfl (X_p (p_assign rfl rfl) ?_)
  refine L_then (.cons (k := 1) rfl (.cons (k := 2) rfl (.cons (k := 3) rfl (.cons (k := 4) rfl .nil)))) ?_
  refine V_seq (V_region rfl ?_)
  refine L_go rfl (X_wr (w_slice (r := [_, _, _]) un27 sz3 zr3 rfl (by decide) rfl (by decide) rfl rfl) ?_)
  rintro _ _ ⟨b9, hb9, rfl, rfl⟩
  refine L_go rfl (X_wr (w_slice (r := [_, _, _]) un27 sz3 zr3 rfl (by decide) rfl (by decide) rfl rfl) ?_)
  rintro _ _ ⟨b10, hb10, rfl, rfl⟩
  refine L_go rfl (X_p (p_assign rfl rfl) ?_)
  refine L_go rfl (X_p (p_assign rfl rfl) ?_)
  refine L_then (.cons (k := 1) rfl (.cons (k := 2) rfl (.cons (k := 3) rfl (.cons (k := 4) rfl (.cons (k := 5) rfl (.cons (k := 6) rfl .nil)))))) ?_
  refine V_seq ?_
  refine V_seq (V_region rfl ?_)
  refine L_go rfl (X_p (p_assign rfl rfl) ?_)
  refine L_then (.cons (k := 1) rfl (.cons (k := 2) rfl (.cons (k := 3) rfl (.cons (k := 4) rfl (.cons (k := 5) rfl (.cons (k := 6) rfl (.cons (k := 7) rfl .nil))))))) ?_
  refine V_block ?_
  refine V_loopU ?_
  refine LU_step ?_
  refine V_seq ?_
  refine V_seq (V_region rfl ?_)
  refine L_go rfl (X_p (p_move rfl rfl) ?_)
  refine L_go rfl (X_p (p_lss rfl rfl rfl) ?_)
  refine L_then (.cons (k := 1) rfl (.cons (k := 2) rfl (.cons (k := 3) rfl (.cons (k := 4) rfl (.cons (k := 5) rfl (.cons (k := 6) rfl (.cons (k := 7) rfl (.cons (k := 41) rfl .nil)))))))) ?_
  refine V_cond_t rfl rfl ?_
  refine V_skip (then_n ?_)
  refine V_seq ?_
  refine V_block ?_
  refine V_seq (V_region rfl ?_)
  refine L_go rfl (X_rd (r_loadA (vs := [_, _, _, _, _]) ag25 sz25 rfl rfl (by repeat first | exact mH | apply mT | apply List.mem_append_right) rfl) ?_)
  refine L_go rfl (X_p (p_move rfl rfl) ?_)
  refine L_go rfl (X_wr (w_callP rfl rfl rfl (fun w hg => exk_width0 w _ _ (exTask (hg.own (x1, _) (by repeat first | exact mH | apply mT | apply List.mem_append_right)) (hg.own (y1, _) (by repeat first | exact mH | apply mT | apply List.mem_append_right))))) ?_)
  rintro _ _ ⟨rfl, rfl⟩
  refine L_go rfl (X_p (p_move rfl rfl) ?_)
  refine L_go rfl (X_p (p_ext rfl rfl rfl) ?_)
  refine L_go rfl (X_p (p_ext rfl rfl rfl) ?_)
  refine L_go rfl (X_p (p_assign rfl rfl) ?_)
  refine L_go rfl (X_p (p_assign rfl rfl) ?_)
  refine L_then (.cons (k := 1) rfl (.cons (k := 2) rfl (.cons (k := 3) rfl (.cons (k := 4) rfl (.cons (k := 5) rfl (.cons (k := 6) rfl (.cons (k := 7) rfl (.cons (k := 8) rfl (.cons (k := 9) rfl .nil))))))))) ?_
  refine V_seq (V_draw (.rd 0 (.rd 1 (.rd 2 (.rd 3 (.rd 4 (.wr 5 [3, 2, 1] (.rd 6 (.rd 7 (.rd 8 (.rd 9 (.rd 10 .done))))))))))) mixed (by kernel_rfl) rfl ?_)
  refine D_rd rfl (.plain rfl) (r_loadA (vs := [_, _, _, _, _]) ag25 sz25 rfl rfl (by repeat first | exact mH | apply mT | apply List.mem_append_right) rfl) ?_
  refine D_p rfl (.plain rfl) (p_move rfl rfl) ?_
  refine D_p rfl (.plain rfl) (p_move rfl rfl) ?_
  refine D_p rfl (.plain rfl) (p_idxo es27 rfl rfl rfl (by omega) (by omega)) ?_
  refine D_rd rfl (.plain rfl) (r_load ag3 rfl rfl (by repeat first | exact mH | apply mT | apply List.mem_append_right) rfl) ?_
  refine D_wr (.go (E' := []) rfl (.plain rfl) (w_callG (pre := [_, _, _, _, _, _, _, _, _, _, _]) rfl rfl rfl rfl (fun w hg => exk_known0 w _ _ (exTask (hg.own (x1, _) (by repeat first | exact mH | apply mT | apply List.mem_append_right)) (hg.own (y1, _) (by repeat first | exact mH | apply mT | apply List.mem_append_right))))) rfl ?_)
  rintro _ _ ⟨_, G11, rfl, hfr11, sv11, rfl, rfl, hgr11⟩
  try simp only [List.cons_append, List.nil_append, List.append_nil]
  refine ⟨.nil, ?_⟩
  refine D_p rfl (.plain rfl) (p_move rfl rfl) ?_
  refine D_p rfl (.plain rfl) (p_ext rfl rfl rfl) ?_
  refine D_p rfl (.plain rfl) (p_ext rfl rfl rfl) ?_
  refine D_p rfl (.plain rfl) (p_assign rfl rfl) ?_
  refine D_p rfl (.plain rfl) (p_assign rfl rfl) ?_
  refine D_then (.cons (k := 1) rfl (.cons (k := 2) rfl (.cons (k := 3) rfl (.cons (k := 4) rfl (.cons (k := 5) rfl (.cons (k := 6) rfl (.cons (k := 7) rfl (.cons (k := 8) rfl (.cons (k := 9) rfl (.cons (k := 10) rfl (.cons (k := 11) rfl .nil))))))))))) ?_
  refine V_seq (V_draw (.rd 0 (.rd 1 (.rd 2 (.rd 3 (.rd 4 (.wr 5 [3, 2, 1] (.rd 6 (.rd 7 (.rd 8 (.rd 9 (.rd 10 .done))))))))))) mixed (by kernel_rfl) rfl ?_)
  refine D_rd rfl (.plain rfl) (r_loadA (vs := [_, _, _, _, _]) ag25 sz25 rfl rfl (by repeat first | exact mH | apply mT | apply List.mem_append_right) rfl) ?_
  refine D_p rfl (.plain rfl) (p_move rfl rfl) ?_
  refine D_p rfl (.plain rfl) (p_move rfl rfl) ?_
  refine D_p rfl (.plain rfl) (p_idxo es27 rfl rfl rfl (by omega) (by omega)) ?_
  refine D_rd rfl (.plain rfl) (r_load ag3 rfl rfl (by repeat first | exact mH | apply mT | apply List.mem_append_right) rfl) ?_
  refine D_wr (.go (E' := []) rfl (.plain rfl) (w_callP rfl rfl rfl (fun w hg => exk_reach0 w _ _ (exTask (hg.own (x1, _) (by repeat first | exact mH | apply mT | apply List.mem_append_right)) (hg.own (y1, _) (by repeat first | exact mH | apply mT | apply List.mem_append_right))))) rfl ?_)
  rintro _ _ ⟨rfl, rfl⟩
  refine ⟨.nil, ?_⟩
  refine D_p rfl (.plain rfl) (p_move rfl rfl) ?_
  refine D_p rfl (.plain rfl) (p_ext rfl rfl rfl) ?_
  refine D_p rfl (.plain rfl) (p_ext rfl rfl rfl) ?_
  refine D_p rfl (.plain rfl) (p_assign rfl rfl) ?_
  refine D_p rfl (.plain rfl) (p_assign rfl rfl) ?_
  refine D_then (.cons (k := 1) rfl (.cons (k := 2) rfl (.cons (k := 3) rfl (.cons (k := 4) rfl (.cons (k := 5) rfl (.cons (k := 6) rfl (.cons (k := 7) rfl (.cons (k := 8) rfl (.cons (k := 9) rfl (.cons (k := 10) rfl (.cons (k := 11) rfl (.cons (k := 12) rfl (.cons (k := 13) rfl .nil))))))))))))) ?_
  refine V_seq (V_region rfl ?_)
  refine L_go rfl (X_p (p_move rfl rfl) ?_)
  refine L_go rfl (X_p (p_neq rfl rfl rfl) ?_)
  refine L_go rfl (X_p (p_move rfl rfl) ?_)
  refine L_yes rfl rfl rfl (by first | rfl | simp | decide) (X_p (p_move rfl rfl) ?_)
  refine L_yes rfl rfl rfl (by first | rfl | simp | decide) (X_p (p_neq rfl rfl rfl) ?_)
  refine L_go rfl (X_p (p_pick_f rfl rfl (by first | rfl | simp | decide) rfl) ?_)
  refine L_go rfl (X_p (p_move rfl rfl) ?_)
  refine L_yes rfl rfl rfl (by first | rfl | simp | decide) (X_p (p_move rfl rfl) ?_)
  refine L_yes rfl rfl rfl (by first | rfl | simp | decide) (X_p (p_neq rfl rfl rfl) ?_)
  refine L_go rfl (X_p (p_pick_f rfl rfl (by first | rfl | simp | decide) rfl) ?_)
  refine L_go rfl (X_p (p_move rfl rfl) ?_)
  refine L_yes rfl rfl rfl (by first | rfl | simp | decide) (X_p (p_move rfl rfl) ?_)
  refine L_yes rfl rfl rfl (by first | rfl | simp | decide) (X_p (p_move rfl rfl) ?_)
  refine L_yes rfl rfl rfl (by first | rfl | simp | decide) (X_p (p_move rfl rfl) ?_)
  refine L_yes rfl rfl rfl (by first | rfl | simp | decide) (X_p (p_idxo es27 rfl rfl rfl (by omega) (by omega)) ?_)
  refine L_yes rfl rfl rfl (by first | rfl | simp | decide) (X_rd (r_load ag3 rfl rfl (by repeat first | exact mH | apply mT | apply List.mem_append_right) rfl) ?_)
  refine L_yes rfl rfl rfl (by first | rfl | simp | decide) (X_p (p_neq rfl rfl rfl) ?_)
  refine L_go rfl (X_p (p_pick_f rfl rfl (by first | rfl | simp | decide) rfl) ?_)
  refine L_go rfl (X_p (p_move rfl rfl) ?_)
  refine L_yes rfl rfl rfl (by first | rfl | simp | decide) (X_p (p_move rfl rfl) ?_)
  refine L_yes rfl rfl rfl (by first | rfl | simp | decide) (X_p (p_move rfl rfl) ?_)
  refine L_yes rfl rfl rfl (by first | rfl | simp | decide) (X_p (p_move rfl rfl) ?_)
  refine L_yes rfl rfl rfl (by first | rfl | simp | decide) (X_p (p_idxo es27 rfl rfl rfl (by omega) (by omega)) ?_)
  refine L_yes rfl rfl rfl (by first | rfl | simp | decide) (X_rd (r_load ag3 rfl rfl (by repeat first | exact mH | apply mT | apply List.mem_append_right) rfl) ?_)
  refine L_yes rfl rfl rfl (by first | rfl | simp | decide) (X_p (p_neq rfl rfl rfl) ?_)
  refine L_go rfl (X_p (p_pick_f rfl rfl (by first | rfl | simp | decide) rfl) ?_)
  refine L_go rfl (X_p (p_move rfl rfl) ?_)
  refine L_yes rfl rfl rfl (by first | rfl | simp | decide) (X_p (p_move rfl rfl) ?_)
  refine L_yes rfl rfl rfl (by first | rfl | simp | decide) (X_p (p_move rfl rfl) ?_)
  refine L_yes rfl rfl rfl (by first | rfl | simp | decide) (X_p (p_move rfl rfl) ?_)
  refine L_yes rfl rfl rfl (by first | rfl | simp | decide) (X_p (p_idxo es72 rfl rfl rfl (by omega) (by omega)) ?_)
  refine L_yes rfl rfl rfl (by first | rfl | simp | decide) (X_rd (r_load ag27 rfl rfl (by repeat first | exact mH | apply mT | apply List.mem_append_right) rfl) ?_)
  refine L_yes rfl rfl rfl (by first | rfl | simp | decide) (X_wr (w_callP rfl rfl rfl (fun w hg => ints_same [1] _ _ w (Grow.slice hgr11 (fun p hp => hg.own p (by repeat first | exact hp | exact List.mem_append_left _ hp | apply List.mem_append_right | apply mT))) (own_ints (l := [1]) (hg.own (b5, _) (by repeat first | exact mH | apply mT | apply List.mem_append_right)) rfl (by decide)) (by decide))) ?_)
  rintro _ _ ⟨rfl, rfl⟩
  refine L_yes rfl rfl rfl (by first | rfl | simp | decide) (X_p (p_not rfl rfl) ?_)
  refine L_go rfl (X_p (p_pick_f rfl rfl (by first | rfl | simp | decide) rfl) ?_)
  refine L_then (.cons (k := 1) rfl (.cons (k := 2) rfl (.cons (k := 3) rfl (.cons (k := 4) rfl (.cons (k := 5) rfl (.cons (k := 6) rfl (.cons (k := 7) rfl (.cons (k := 102) rfl .nil)))))))) ?_
  refine V_cond_f rfl rfl ?_
  refine V_skip (blk_n (then_n ?_))
  refine V_region rfl ?_
  refine L_go rfl (X_p (p_move rfl rfl) ?_)
  first | refine L_go rfl (X_p (p_add' rfl rfl rfl (by unfold InI; omega)) ?_) | refine L_go rfl (X_p (p_add rfl rfl rfl) ?_)
  refine L_go rfl (X_p (p_assign rfl rfl) ?_)
  refine L_keep (.cons (k := 1) rfl (.cons (k := 2) rfl (.cons (k := 3) rfl (.cons (k := 4) rfl (.cons (k := 5) rfl (.cons (k := 6) rfl (.cons (k := 7) rfl .nil))))))) (then_n ?_)
  refine LU_step ?_
  refine V_seq ?_
  refine V_seq (V_region rfl ?_)
  refine L_go rfl (X_p (p_move rfl rfl) ?_)
  refine L_go rfl (X_p (p_lss rfl rfl rfl) ?_)
  refine L_then (.cons (k := 1) rfl (.cons (k := 2) rfl (.cons (k := 3) rfl (.cons (k := 4) rfl (.cons (k := 5) rfl (.cons (k := 6) rfl (.cons (k := 7) rfl (.cons (k := 41) rfl .nil)))))))) ?_
  refine V_cond_t rfl rfl ?_
  refine V_skip (then_n ?_)
  refine V_seq ?_
  refine V_block ?_
  refine V_seq (V_region rfl ?_)
  refine L_go rfl (X_rd (r_loadA (vs := [_, _, _, _, _]) ag25 sz25 rfl rfl (by repeat first | exact mH | apply mT | apply List.mem_append_right) rfl) ?_)
  refine L_go rfl (X_p (p_move rfl rfl) ?_)
  refine L_go rfl (X_wr (w_callP rfl rfl rfl (fun w hg => exk_width1 w _ _ (exTask (hg.own (x1, _) (by repeat first | exact mH | apply mT | apply List.mem_append_right)) (hg.own (y1, _) (by repeat first | exact mH | apply mT | apply List.mem_append_right))))) ?_)
  rintro _ _ ⟨rfl, rfl⟩
  refine L_go rfl (X_p (p_move rfl rfl) ?_)
  refine L_go rfl (X_p (p_ext rfl rfl rfl) ?_)
  refine L_go rfl (X_p (p_ext rfl rfl rfl) ?_)
  refine L_go rfl (X_p (p_assign rfl rfl) ?_)
  refine L_go rfl (X_p (p_assign rfl rfl) ?_)
  refine L_then (.cons (k := 1) rfl (.cons (k := 2) rfl (.cons (k := 3) rfl (.cons (k := 4) rfl (.cons (k := 5) rfl (.cons (k := 6) rfl (.cons (k := 7) rfl (.cons (k := 8) rfl (.cons (k := 9) rfl .nil))))))))) ?_
  refine V_seq (V_draw (.rd 0 (.rd 1 (.rd 2 (.rd 3 (.rd 4 (.wr 5 [3, 2, 1] (.rd 6 (.rd 7 (.rd 8 (.rd 9 (.rd 10 .done))))))))))) mixed (by kernel_rfl) rfl ?_)
  refine D_rd rfl (.plain rfl) (r_loadA (vs := [_, _, _, _, _]) ag25 sz25 rfl rfl (by repeat first | exact mH | apply mT | apply List.mem_append_right) rfl) ?_
  refine D_p rfl (.plain rfl) (p_move rfl rfl) ?_
  refine D_p rfl (.plain rfl) (p_move rfl rfl) ?_
  refine D_p rfl (.plain rfl) (p_idxo es27 rfl rfl rfl (by omega) (by omega)) ?_
  refine D_rd rfl (.plain rfl) (r_load ag3 rfl rfl (by repeat first | exact mH | apply mT | apply List.mem_append_right) rfl) ?_
  refine D_wr (.go (E' := []) rfl (.plain rfl) (w_callG (pre := [_, _, _, _, _, _, _, _, _, _, _]) rfl rfl rfl rfl (fun w hg => exk_known1 w _ _ (exTask (hg.own (x1, _) (by repeat first | exact mH | apply mT | apply List.mem_append_right)) (hg.own (y1, _) (by repeat first | exact mH | apply mT | apply List.mem_append_right))))) rfl ?_)
  rintro _ _ ⟨_, G12, rfl, hfr12, sv12, rfl, rfl, hgr12⟩
  try simp only [List.cons_append, List.nil_append, List.append_nil]
  refine ⟨.nil, ?_⟩
  refine D_p rfl (.plain rfl) (p_move rfl rfl) ?_
  refine D_p rfl (.plain rfl) (p_ext rfl rfl rfl) ?_
  refine D_p rfl (.plain rfl) (p_ext rfl rfl rfl) ?_
  refine D_p rfl (.plain rfl) (p_assign rfl rfl) ?_
  refine D_p rfl (.plain rfl) (p_assign rfl rfl) ?_
  refine D_then (.cons (k := 1) rfl (.cons (k := 2) rfl (.cons (k := 3) rfl (.cons (k := 4) rfl (.cons (k := 5) rfl (.cons (k := 6) rfl (.cons (k := 7) rfl (.cons (k := 8) rfl (.cons (k := 9) rfl (.cons (k := 10) rfl (.cons (k := 11) rfl .nil))))))))))) ?_
  refine V_seq (V_draw (.rd 0 (.rd 1 (.rd 2 (.rd 3 (.rd 4 (.wr 5 [3, 2, 1] (.rd 6 (.rd 7 (.rd 8 (.rd 9 (.rd 10 .done))))))))))) mixed (by kernel_rfl) rfl ?_)
  refine D_rd rfl (.plain rfl) (r_loadA (vs := [_, _, _, _, _]) ag25 sz25 rfl rfl (by repeat first | exact mH | apply mT | apply List.mem_append_right) rfl) ?_
  refine D_p rfl (.plain rfl) (p_move rfl rfl) ?_
  refine D_p rfl (.plain rfl) (p_move rfl rfl) ?_
  refine D_p rfl (.plain rfl) (p_idxo es27 rfl rfl rfl (by omega) (by omega)) ?_
  refine D_rd rfl (.plain rfl) (r_load ag3 rfl rfl (by repeat first | exact mH | apply mT | apply List.mem_append_right) rfl) ?_
  refine D_wr (.go (E' := []) rfl (.plain rfl) (w_callP rfl rfl rfl (fun w hg => exk_reach1 w _ _ (exTask (hg.own (x1, _) (by repeat first | exact mH | apply mT | apply List.mem_append_right)) (hg.own (y1, _) (by repeat first | exact mH | apply mT | apply List.mem_append_right))))) rfl ?_)
  rintro _ _ ⟨rfl, rfl⟩
  refine ⟨.nil, ?_⟩
  refine D_p rfl (.plain rfl) (p_move rfl rfl) ?_
  refine D_p rfl (.plain rfl) (p_ext rfl rfl rfl) ?_
  refine D_p rfl (.plain rfl) (p_ext rfl rfl rfl) ?_
  refine D_p rfl (.plain rfl) (p_assign rfl rfl) ?_
  refine D_p rfl (.plain rfl) (p_assign rfl rfl) ?_
  refine D_then (.cons (k := 1) rfl (.cons (k := 2) rfl (.cons (k := 3) rfl (.cons (k := 4) rfl (.cons (k := 5) rfl (.cons (k := 6) rfl (.cons (k := 7) rfl (.cons (k := 8) rfl (.cons (k := 9) rfl (.cons (k := 10) rfl (.cons (k := 11) rfl (.cons (k := 12) rfl (.cons (k := 13) rfl .nil))))))))))))) ?_
  refine V_seq (V_region rfl ?_)
  refine L_go rfl (X_p (p_move rfl rfl) ?_)
  refine L_go rfl (X_p (p_neq rfl rfl rfl) ?_)
  refine L_go rfl (X_p (p_move rfl rfl) ?_)
  refine L_yes rfl rfl rfl (by first | rfl | simp | decide) (X_p (p_move rfl rfl) ?_)
  refine L_yes rfl rfl rfl (by first | rfl | simp | decide) (X_p (p_neq rfl rfl rfl) ?_)
  refine L_go rfl (X_p (p_pick_f rfl rfl (by first | rfl | simp | decide) rfl) ?_)
  refine L_go rfl (X_p (p_move rfl rfl) ?_)
  refine L_yes rfl rfl rfl (by first | rfl | simp | decide) (X_p (p_move rfl rfl) ?_)
  refine L_yes rfl rfl rfl (by first | rfl | simp | decide) (X_p (p_neq rfl rfl rfl) ?_)
  refine L_go rfl (X_p (p_pick_f rfl rfl (by first | rfl | simp | decide) rfl) ?_)
  refine L_go rfl (X_p (p_move rfl rfl) ?_)
  refine L_yes rfl rfl rfl (by first | rfl | simp | decide) (X_p (p_move rfl rfl) ?_)
  refine L_yes rfl rfl rfl (by first | rfl | simp | decide) (X_p (p_move rfl rfl) ?_)
  refine L_yes rfl rfl rfl (by first | rfl | simp | decide) (X_p (p_move rfl rfl) ?_)
  refine L_yes rfl rfl rfl (by first | rfl | simp | decide) (X_p (p_idxo es27 rfl rfl rfl (by omega) (by omega)) ?_)
  refine L_yes rfl rfl rfl (by first | rfl | simp | decide) (X_rd (r_load ag3 rfl rfl (by repeat first | exact mH | apply mT | apply List.mem_append_right) rfl) ?_)
  refine L_yes rfl rfl rfl (by first | rfl | simp | decide) (X_p (p_neq rfl rfl rfl) ?_)
  refine L_go rfl (X_p (p_pick_f rfl rfl (by first | rfl | simp | decide) rfl) ?_)
  refine L_go rfl (X_p (p_move rfl rfl) ?_)
  refine L_yes rfl rfl rfl (by first | rfl | simp | decide) (X_p (p_move rfl rfl) ?_)
  refine L_yes rfl rfl rfl (by first | rfl | simp | decide) (X_p (p_move rfl rfl) ?_)
  refine L_yes rfl rfl rfl (by first | rfl | simp | decide) (X_p (p_move rfl rfl) ?_)
  refine L_yes rfl rfl rfl (by first | rfl | simp | decide) (X_p (p_idxo es27 rfl rfl rfl (by omega) (by omega)) ?_)
  refine L_yes rfl rfl rfl (by first | rfl | simp | decide) (X_rd (r_load ag3 rfl rfl (by repeat first | exact mH | apply mT | apply List.mem_append_right) rfl) ?_)
  refine L_yes rfl rfl rfl (by first | rfl | simp | decide) (X_p (p_neq rfl rfl rfl) ?_)
  refine L_go rfl (X_p (p_pick_f rfl rfl (by first | rfl | simp | decide) rfl) ?_)
  refine L_go rfl (X_p (p_move rfl rfl) ?_)
  refine L_yes rfl rfl rfl (by first | rfl | simp | decide) (X_p (p_move rfl rfl) ?_)
  refine L_yes rfl rfl rfl (by first | rfl | simp | decide) (X_p (p_move rfl rfl) ?_)
  refine L_yes rfl rfl rfl (by first | rfl | simp | decide) (X_p (p_move rfl rfl) ?_)
  refine L_yes rfl rfl rfl (by first | rfl | simp | decide) (X_p (p_idxo es72 rfl rfl rfl (by omega) (by omega)) ?_)
  refine L_yes rfl rfl rfl (by first | rfl | simp | decide) (X_rd (r_load ag27 rfl rfl (by repeat first | exact mH | apply mT | apply List.mem_append_right) rfl) ?_)
  refine L_yes rfl rfl rfl (by first | rfl | simp | decide) (X_wr (w_callP rfl rfl rfl (fun w hg => ints_same [0, 1] _ _ w (Grow.slice hgr12 (fun p hp => hg.own p (by repeat first | exact hp | exact List.mem_append_left _ hp | apply List.mem_append_right | apply mT))) (own_ints (l := [0, 1]) (hg.own (b6, _) (by repeat first | exact mH | apply mT | apply List.mem_append_right)) rfl (by decide)) (by decide))) ?_)
  rintro _ _ ⟨rfl, rfl⟩
  refine L_yes rfl rfl rfl (by first | rfl | simp | decide) (X_p (p_not rfl rfl) ?_)
  refine L_go rfl (X_p (p_pick_f rfl rfl (by first | rfl | simp | decide) rfl) ?_)
  refine L_then (.cons (k := 1) rfl (.cons (k := 2) rfl (.cons (k := 3) rfl (.cons (k := 4) rfl (.cons (k := 5) rfl (.cons (k := 6) rfl (.cons (k := 7) rfl (.cons (k := 102) rfl .nil)))))))) ?_
  refine V_cond_f rfl rfl ?_
  refine V_skip (blk_n (then_n ?_))
  refine V_region rfl ?_
  refine L_go rfl (X_p (p_move rfl rfl) ?_)
  first | refine L_go rfl (X_p (p_add' rfl rfl rfl (by unfold InI; omega)) ?_) | refine L_go rfl (X_p (p_add rfl rfl rfl) ?_)
  refine L_go rfl (X_p (p_assign rfl rfl) ?_)
  refine L_keep (.cons (k := 1) rfl (.cons (k := 2) rfl (.cons (k := 3) rfl (.cons (k := 4) rfl (.cons (k := 5) rfl (.cons (k := 6) rfl (.cons (k := 7) rfl .nil))))))) (then_n ?_)
  refine LU_step ?_
  refine V_seq ?_
  refine V_seq (V_region rfl ?_)
  refine L_go rfl (X_p (p_move rfl rfl) ?_)
  refine L_go rfl (X_p (p_lss rfl rfl rfl) ?_)
  refine L_then (.cons (k := 1) rfl (.cons (k := 2) rfl (.cons (k := 3) rfl (.cons (k := 4) rfl (.cons (k := 5) rfl (.cons (k := 6) rfl (.cons (k := 7) rfl (.cons (k := 41) rfl .nil)))))))) ?_
  refine V_cond_t rfl rfl ?_
  refine V_skip (then_n ?_)
  refine V_seq ?_
  refine V_block ?_
  refine V_seq (V_region rfl ?_)
  refine L_go rfl (X_rd (r_loadA (vs := [_, _, _, _, _]) ag25 sz25 rfl rfl (by repeat first | exact mH | apply mT | apply List.mem_append_right) rfl) ?_)
  refine L_go rfl (X_p (p_move rfl rfl) ?_)
  refine L_go rfl (X_wr (w_callP rfl rfl rfl (fun w hg => exk_width2 w _ _ (exTask (hg.own (x1, _) (by repeat first | exact mH | apply mT | apply List.mem_append_right)) (hg.own (y1, _) (by repeat first | exact mH | apply mT | apply List.mem_append_right))))) ?_)
  rintro _ _ ⟨rfl, rfl⟩
  refine L_go rfl (X_p (p_move rfl rfl) ?_)
  refine L_go rfl (X_p (p_ext rfl rfl rfl) ?_)
  refine L_go rfl (X_p (p_ext rfl rfl rfl) ?_)
  refine L_go rfl (X_p (p_assign rfl rfl) ?_)
  refine L_go rfl (X_p (p_assign rfl rfl) ?_)
  refine L_then (.cons (k := 1) rfl (.cons (k := 2) rfl (.cons (k := 3) rfl (.cons (k := 4) rfl (.cons (k := 5) rfl (.cons (k := 6) rfl (.cons (k := 7) rfl (.cons (k := 8) rfl (.cons (k := 9) rfl .nil))))))))) ?_
  refine V_seq (V_draw (.rd 0 (.rd 1 (.rd 2 (.rd 3 (.rd 4 (.wr 5 [3, 2, 1] (.rd 6 (.rd 7 (.rd 8 (.rd 9 (.rd 10 .done))))))))))) mixed (by kernel_rfl) rfl ?_)
  refine D_rd rfl (.plain rfl) (r_loadA (vs := [_, _, _, _, _]) ag25 sz25 rfl rfl (by repeat first | exact mH | apply mT | apply List.mem_append_right) rfl) ?_
  refine D_p rfl (.plain rfl) (p_move rfl rfl) ?_
  refine D_p rfl (.plain rfl) (p_move rfl rfl) ?_
  refine D_p rfl (.plain rfl) (p_idxo es27 rfl rfl rfl (by omega) (by omega)) ?_
  refine D_rd rfl (.plain rfl) (r_load ag3 rfl rfl (by repeat first | exact mH | apply mT | apply List.mem_append_right) rfl) ?_
  refine D_wr (.go (E' := []) rfl (.plain rfl) (w_callG (pre := [_, _, _, _, _, _, _, _, _, _, _]) rfl rfl rfl rfl (fun w hg => exk_known2 w _ _ (exTask (hg.own (x1, _) (by repeat first | exact mH | apply mT | apply List.mem_append_right)) (hg.own (y1, _) (by repeat first | exact mH | apply mT | apply List.mem_append_right))))) rfl ?_)
  rintro _ _ ⟨_, G13, rfl, hfr13, sv13, rfl, rfl, hgr13⟩
  try simp only [List.cons_append, List.nil_append, List.append_nil]
  refine ⟨.nil, ?_⟩
  refine D_p rfl (.plain rfl) (p_move rfl rfl) ?_
  refine D_p rfl (.plain rfl) (p_ext rfl rfl rfl) ?_
  refine D_p rfl (.plain rfl) (p_ext rfl rfl rfl) ?_
  refine D_p rfl (.plain rfl) (p_assign rfl rfl) ?_
  refine D_p rfl (.plain rfl) (p_assign rfl rfl) ?_
  refine D_then (.cons (k := 1) rfl (.cons (k := 2) rfl (.cons (k := 3) rfl (.cons (k := 4) rfl (.cons (k := 5) rfl (.cons (k := 6) rfl (.cons (k := 7) rfl (.cons (k := 8) rfl (.cons (k := 9) rfl (.cons (k := 10) rfl (.cons (k := 11) rfl .nil))))))))))) ?_
  refine V_seq (V_draw (.rd 0 (.rd 1 (.rd 2 (.rd 3 (.rd 4 (.wr 5 [3, 2, 1] (.rd 6 (.rd 7 (.rd 8 (.rd 9 (.rd 10 .done))))))))))) mixed (by kernel_rfl) rfl ?_)
  refine D_rd rfl (.plain rfl) (r_loadA (vs := [_, _, _, _, _]) ag25 sz25 rfl rfl (by repeat first | exact mH | apply mT | apply List.mem_append_right) rfl) ?_
  refine D_p rfl (.plain rfl) (p_move rfl rfl) ?_
  refine D_p rfl (.plain rfl) (p_move rfl rfl) ?_
  refine D_p rfl (.plain rfl) (p_idxo es27 rfl rfl rfl (by omega) (by omega)) ?_
  refine D_rd rfl (.plain rfl) (r_load ag3 rfl rfl (by repeat first | exact mH | apply mT | apply List.mem_append_right) rfl) ?_
  refine D_wr (.go (E' := []) rfl (.plain rfl) (w_callP rfl rfl rfl (fun w hg => exk_reach2 w _ _ (exTask (hg.own (x1, _) (by repeat first | exact mH | apply mT | apply List.mem_append_right)) (hg.own (y1, _) (by repeat first | exact mH | apply mT | apply List.mem_append_right))))) rfl ?_)
  rintro _ _ ⟨rfl, rfl⟩
  refine ⟨.nil, ?_⟩
  refine D_p rfl (.plain rfl) (p_move rfl rfl) ?_
  refine D_p rfl (.plain rfl) (p_ext rfl rfl rfl) ?_
  refine D_p rfl (.plain rfl) (p_ext rfl rfl rfl) ?_
  refine D_p rfl (.plain rfl) (p_assign rfl rfl) ?_
  refine D_p rfl (.plain rfl) (p_assign rfl rfl) ?_
  refine D_then (.cons (k := 1) rfl (.cons (k := 2) rfl (.cons (k := 3) rfl (.cons (k := 4) rfl (.cons (k := 5) rfl (.cons (k := 6) rfl (.cons (k := 7) rfl (.cons (k := 8) rfl (.cons (k := 9) rfl (.cons (k := 10) rfl (.cons (k := 11) rfl (.cons (k := 12) rfl (.cons (k := 13) rfl .nil))))))))))))) ?_
  refine V_seq (V_region rfl ?_)
  refine L_go rfl (X_p (p_move rfl rfl) ?_)
  refine L_go rfl (X_p (p_neq rfl rfl rfl) ?_)
  refine L_go rfl (X_p (p_move rfl rfl) ?_)
  refine L_yes rfl rfl rfl (by first | rfl | simp | decide) (X_p (p_move rfl rfl) ?_)
  refine L_yes rfl rfl rfl (by first | rfl | simp | decide) (X_p (p_neq rfl rfl rfl) ?_)
  refine L_go rfl (X_p (p_pick_f rfl rfl (by first | rfl | simp | decide) rfl) ?_)
  refine L_go rfl (X_p (p_move rfl rfl) ?_)
  refine L_yes rfl rfl rfl (by first | rfl | simp | decide) (X_p (p_move rfl rfl) ?_)
  refine L_yes rfl rfl rfl (by first | rfl | simp | decide) (X_p (p_neq rfl rfl rfl) ?_)
  refine L_go rfl (X_p (p_pick_f rfl rfl (by first | rfl | simp | decide) rfl) ?_)
  refine L_go rfl (X_p (p_move rfl rfl) ?_)
  refine L_yes rfl rfl rfl (by first | rfl | simp | decide) (X_p (p_move rfl rfl) ?_)
  refine L_yes rfl rfl rfl (by first | rfl | simp | decide) (X_p (p_move rfl rfl) ?_)
  refine L_yes rfl rfl rfl (by first | rfl | simp | decide) (X_p (p_move rfl rfl) ?_)
  refine L_yes rfl rfl rfl (by first | rfl | simp | decide) (X_p (p_idxo es27 rfl rfl rfl (by omega) (by omega)) ?_)
  refine L_yes rfl rfl rfl (by first | rfl | simp | decide) (X_rd (r_load ag3 rfl rfl (by repeat first | exact mH | apply mT | apply List.mem_append_right) rfl) ?_)
  refine L_yes rfl rfl rfl (by first | rfl | simp | decide) (X_p (p_neq rfl rfl rfl) ?_)
  refine L_go rfl (X_p (p_pick_f rfl rfl (by first | rfl | simp | decide) rfl) ?_)
  refine L_go rfl (X_p (p_move rfl rfl) ?_)
  refine L_yes rfl rfl rfl (by first | rfl | simp | decide) (X_p (p_move rfl rfl) ?_)
  refine L_yes rfl rfl rfl (by first | rfl | simp | decide) (X_p (p_move rfl rfl) ?_)
  refine L_yes rfl rfl rfl (by first | rfl | simp | decide) (X_p (p_move rfl rfl) ?_)
  refine L_yes rfl rfl rfl (by first | rfl | simp | decide) (X_p (p_idxo es27 rfl rfl rfl (by omega) (by omega)) ?_)
  refine L_yes rfl rfl rfl (by first | rfl | simp | decide) (X_rd (r_load ag3 rfl rfl (by repeat first | exact mH | apply mT | apply List.mem_append_right) rfl) ?_)
  refine L_yes rfl rfl rfl (by first | rfl | simp | decide) (X_p (p_neq rfl rfl rfl) ?_)
  refine L_go rfl (X_p (p_pick_f rfl rfl (by first | rfl | simp | decide) rfl) ?_)
  refine L_go rfl (X_p (p_move rfl rfl) ?_)
  refine L_yes rfl rfl rfl (by first | rfl | simp | decide) (X_p (p_move rfl rfl) ?_)
  refine L_yes rfl rfl rfl (by first | rfl | simp | decide) (X_p (p_move rfl rfl) ?_)
  refine L_yes rfl rfl rfl (by first | rfl | simp | decide) (X_p (p_move rfl rfl) ?_)
  refine L_yes rfl rfl rfl (by first | rfl | simp | decide) (X_p (p_idxo es72 rfl rfl rfl (by omega) (by omega)) ?_)
  refine L_yes rfl rfl rfl (by first | rfl | simp | decide) (X_rd (r_load ag27 rfl rfl (by repeat first | exact mH | apply mT | apply List.mem_append_right) rfl) ?_)
  refine L_yes rfl rfl rfl (by first | rfl | simp | decide) (X_wr (w_callP rfl rfl rfl (fun w hg => ints_same [0, 1, 2, 3] _ _ w (Grow.slice hgr13 (fun p hp => hg.own p (by repeat first | exact hp | exact List.mem_append_left _ hp | apply List.mem_append_right | apply mT))) (own_ints (l := [0, 1, 2, 3]) (hg.own (b7, _) (by repeat first | exact mH | apply mT | apply List.mem_append_right)) rfl (by decide)) (by decide))) ?_)
  rintro _ _ ⟨rfl, rfl⟩
  refine L_yes rfl rfl rfl (by first | rfl | simp | decide) (X_p (p_not rfl rfl) ?_)
  refine L_go rfl (X_p (p_pick_f rfl rfl (by first | rfl | simp | decide) rfl) ?_)
  refine L_then (.cons (k := 1) rfl (.cons (k := 2) rfl (.cons (k := 3) rfl (.cons (k := 4) rfl (.cons (k := 5) rfl (.cons (k := 6) rfl (.cons (k := 7) rfl (.cons (k := 102) rfl .nil)))))))) ?_
  refine V_cond_f rfl rfl ?_
  refine V_skip (blk_n (then_n ?_))
  refine V_region rfl ?_
  refine L_go rfl (X_p (p_move rfl rfl) ?_)
  first | refine L_go rfl (X_p (p_add' rfl rfl rfl (by unfold InI; omega)) ?_) | refine L_go rfl (X_p (p_add rfl rfl rfl) ?_)
  refine L_go rfl (X_p (p_assign rfl rfl) ?_)
  refine L_keep (.cons (k := 1) rfl (.cons (k := 2) rfl (.cons (k := 3) rfl (.cons (k := 4) rfl (.cons (k := 5) rfl (.cons (k := 6) rfl (.cons (k := 7) rfl .nil))))))) (then_n ?_)
  refine LU_step ?_
  refine V_seq ?_
  refine V_seq (V_region rfl ?_)
  refine L_go rfl (X_p (p_move rfl rfl) ?_)
  refine L_go rfl (X_p (p_lss rfl rfl rfl) ?_)
  refine L_then (.cons (k := 1) rfl (.cons (k := 2) rfl (.cons (k := 3) rfl (.cons (k := 4) rfl (.cons (k := 5) rfl (.cons (k := 6) rfl (.cons (k := 7) rfl (.cons (k := 41) rfl .nil)))))))) ?_
  refine V_cond_f rfl rfl ?_
  refine V_exit (then_e (then_e (blk_e rfl (then_n ?_))))
  refine V_seq (V_region rfl ?_)
  refine L_go rfl (X_rd (r_loadA (vs := [_, _, _, _, _]) ag25 sz25 rfl rfl (by repeat first | exact mH | apply mT | apply List.mem_append_right) rfl) ?_)
  refine L_go rfl (X_wr (w_callP rfl rfl rfl (fun w hg => exk_where1 w _ _ (exTask (hg.own (x1, _) (by repeat first | exact mH | apply mT | apply List.mem_append_right)) (hg.own (y1, _) (by repeat first | exact mH | apply mT | apply List.mem_append_right))))) ?_)
  rintro _ _ ⟨rfl, rfl⟩
  refine L_go rfl (X_p (p_move rfl rfl) ?_)
  refine L_go rfl (X_p (p_ext rfl rfl rfl) ?_)
  refine L_go rfl (X_p (p_ext rfl rfl rfl) ?_)
  refine L_go rfl (X_wr (w_alloc zr34 rfl) ?_)
  rintro _ _ ⟨b14, hb14, rfl, rfl⟩
  refine L_go rfl (X_wr (w_store (cs' := [_, _, _, _, _, _, _, _, _, _, _, _, _]) sz34 rfl rfl rfl rfl rfl (by repeat first | exact .head | apply SetAt.tail) (Nat.le_of_ble_eq_true rfl) rfl) ?_)
  rintro _ _ ⟨rfl, rfl⟩
  refine L_go rfl (X_p (p_assign rfl rfl) ?_)
  refine L_then (.cons (k := 1) rfl (.cons (k := 14) rfl (.cons (k := 15) rfl .nil))) ?_
  refine V_seq (V_region rfl ?_)
  refine L_go rfl (X_rd (r_loadA (vs := [_, _, _, _, _]) ag25 sz25 rfl rfl (by repeat first | exact mH | apply mT | apply List.mem_append_right) rfl) ?_)
  refine L_go rfl (X_wr (w_callP rfl rfl rfl (fun w hg => exk_where2 w _ _ (exTask (hg.own (x1, _) (by repeat first | exact mH | apply mT | apply List.mem_append_right)) (hg.own (y1, _) (by repeat first | exact mH | apply mT | apply List.mem_append_right))))) ?_)
  rintro _ _ ⟨rfl, rfl⟩
  refine L_go rfl (X_p (p_move rfl rfl) ?_)
  refine L_go rfl (X_p (p_ext rfl rfl rfl) ?_)
  refine L_go rfl (X_p (p_ext rfl rfl rfl) ?_)
  refine L_go rfl (X_wr (w_alloc zr34 rfl) ?_)
  rintro _ _ ⟨b15, hb15, rfl, rfl⟩
  refine L_go rfl (X_wr (w_store (cs' := [_, _, _, _, _, _, _, _, _, _, _, _, _]) sz34 rfl rfl rfl rfl rfl (by repeat first | exact .head | apply SetAt.tail) (Nat.le_of_ble_eq_true rfl) rfl) ?_)
  rintro _ _ ⟨rfl, rfl⟩
  refine L_go rfl (X_p (p_assign rfl rfl) ?_)
  refine L_then (.cons (k := 1) rfl (.cons (k := 14) rfl (.cons (k := 15) rfl (.cons (k := 16) rfl (.cons (k := 17) rfl .nil))))) ?_
  refine V_seq (V_region rfl ?_)
  refine L_go rfl (X_rd (r_loadA (vs := [_, _, _, _, _]) ag25 sz25 rfl rfl (by repeat first | exact mH | apply mT | apply List.mem_append_right) rfl) ?_)
  refine L_go rfl (X_wr (w_callP rfl rfl rfl (fun w hg => exk_alone w _ _ (exTask (hg.own (x1, _) (by repeat first | exact mH | apply mT | apply List.mem_append_right)) (hg.own (y1, _) (by repeat first | exact mH | apply mT | apply List.mem_append_right))))) ?_)
  rintro _ _ ⟨rfl, rfl⟩
  refine L_go rfl (X_p (p_move rfl rfl) ?_)
  refine L_go rfl (X_p (p_ext rfl rfl rfl) ?_)
  refine L_go rfl (X_p (p_ext rfl rfl rfl) ?_)
  refine L_go rfl (X_wr (w_alloc zr34 rfl) ?_)
  rintro _ _ ⟨b16, hb16, rfl, rfl⟩
  refine L_go rfl (X_wr (w_store (cs' := [_, _, _, _, _, _, _, _, _, _, _, _, _]) sz34 rfl rfl rfl rfl rfl (by repeat first | exact .head | apply SetAt.tail) (Nat.le_of_ble_eq_true rfl) rfl) ?_)
  rintro _ _ ⟨rfl, rfl⟩
  refine L_go rfl (X_p (p_assign rfl rfl) ?_)
  refine L_then (.cons (k := 1) rfl (.cons (k := 14) rfl (.cons (k := 15) rfl (.cons (k := 16) rfl (.cons (k := 17) rfl (.cons (k := 18) rfl (.cons (k := 19) rfl .nil))))))) ?_
  refine V_seq (V_region rfl ?_)
  refine L_go rfl (X_rd (r_loadA (vs := [_, _, _, _, _]) ag25 sz25 rfl rfl (by repeat first | exact mH | apply mT | apply List.mem_append_right) rfl) ?_)
  refine L_go rfl (X_wr (w_callP rfl rfl rfl (fun w hg => exk_spare w _ _ (exTask (hg.own (x1, _) (by repeat first | exact mH | apply mT | apply List.mem_append_right)) (hg.own (y1, _) (by repeat first | exact mH | apply mT | apply List.mem_append_right))))) ?_)
  rintro _ _ ⟨rfl, rfl⟩
  refine L_go rfl (X_p (p_move rfl rfl) ?_)
  refine L_go rfl (X_p (p_ext rfl rfl rfl) ?_)
  refine L_go rfl (X_p (p_ext rfl rfl rfl) ?_)
  refine L_go rfl (X_wr (w_alloc zr34 rfl) ?_)
  rintro _ _ ⟨b17, hb17, rfl, rfl⟩
  refine L_go rfl (X_wr (w_store (cs' := [_, _, _, _, _, _, _, _, _, _, _, _, _]) sz34 rfl rfl rfl rfl rfl (by repeat first | exact .head | apply SetAt.tail) (Nat.le_of_ble_eq_true rfl) rfl) ?_)
  rintro _ _ ⟨rfl, rfl⟩
  refine L_go rfl (X_p (p_assign rfl rfl) ?_)
  refine L_then (.cons (k := 1) rfl (.cons (k := 14) rfl (.cons (k := 15) rfl (.cons (k := 16) rfl (.cons (k := 17) rfl (.cons (k := 18) rfl (.cons (k := 19) rfl (.cons (k := 20) rfl (.cons (k := 21) rfl .nil))))))))) ?_
  refine V_seq ?_
  refine V_seq (V_draw (.rd 0 (.rd 1 (.rd 2 (.rd 3 (.rd 4 (.rd 5 (.rd 6 (.rd 7 (.rd 8 (.rd 9 (.rd 10 (.rd 11 (.rd 12 (.rd 13 (.rd 14 (.rd 15 (.rd 16 (.wr 17 [16, 15, 13, 12, 11, 10, 9, 8, 7, 6, 5, 4, 3, 2, 1, 0] (.rd 18 (.rd 19 (.rd 20 (.rd 21 (.rd 22 (.wr 23 [22, 21, 19, 18, 16, 15, 14, 13, 12, 11, 10, 9, 8, 7, 6, 5, 4, 3, 2, 1, 0] (.rd 24 (.rd 25 (.rd 26 (.rd 27 (.rd 28 (.wr 29 [28, 27, 25, 24, 22, 21, 20, 19, 18, 16, 15, 14, 13, 12, 11, 10, 9, 8, 7, 6, 5, 4, 3, 2, 1, 0] (.rd 30 (.rd 31 (.rd 32 (.rd 33 (.rd 34 (.wr 35 [34, 33, 31, 30, 28, 27, 26, 25, 24, 22, 21, 20, 19, 18, 16, 15, 14, 13, 12, 11, 10, 9, 8, 7, 6, 5, 4, 3, 2, 1, 0] (.rd 36 (.rd 37 (.rd 38 (.rd 39 (.rd 40 (.wr 41 [40, 39, 37, 36, 34, 33, 32, 31, 30, 28, 27, 26, 25, 24, 22, 21, 20, 19, 18, 16, 15, 14, 13, 12, 11, 10, 9, 8, 7, 6, 5, 4, 3, 2, 1, 0] (.rd 42 (.rd 43 (.rd 44 (.rd 45 (.rd 46 (.wr 47 [46, 45, 43, 42, 40, 39, 38, 37, 36, 34, 33, 32, 31, 30, 28, 27, 26, 25, 24, 22, 21, 20, 19, 18, 16, 15, 14, 13, 12, 11, 10, 9, 8, 7, 6, 5, 4, 3, 2, 1, 0] (.rd 48 (.rd 49 (.rd 50 (.rd 51 (.rd 52 (.wr 53 [52, 51, 49, 48, 46, 45, 44, 43, 42, 40, 39, 38, 37, 36, 34, 33, 32, 31, 30, 28, 27, 26, 25, 24, 22, 21, 20, 19, 18, 16, 15, 14, 13, 12, 11, 10, 9, 8, 7, 6, 5, 4, 3, 2, 1, 0] (.rd 54 (.rd 55 (.rd 56 (.rd 57 (.rd 58 (.wr 59 [58, 57, 55, 54, 52, 51, 50, 49, 48, 46, 45, 44, 43, 42, 40, 39, 38, 37, 36, 34, 33, 32, 31, 30, 28, 27, 26, 25, 24, 22, 21, 20, 19, 18, 16, 15, 14, 13, 12, 11, 10, 9, 8, 7, 6, 5, 4, 3, 2, 1, 0] (.rd 60 (.rd 61 .done)))))))))))))))))))))))))))))))))))))))))))))))))))))))))))))) mixed (by kernel_rfl) rfl ?_)
  refine D_p rfl (.plain rfl) (p_move rfl rfl) ?_
  refine D_p rfl (.plain rfl) (p_neq rfl rfl rfl) ?_
  refine D_p rfl (.plain rfl) (p_move rfl rfl) ?_
  refine D_p rfl (.yes rfl rfl rfl (by first | rfl | simp | decide)) (p_move rfl rfl) ?_
  refine D_p rfl (.yes rfl rfl rfl (by first | rfl | simp | decide)) (p_neq rfl rfl rfl) ?_
  refine D_p rfl (.plain rfl) (p_pick_f rfl rfl (by first | rfl | simp | decide) rfl) ?_
  refine D_p rfl (.plain rfl) (p_move rfl rfl) ?_
  refine D_p rfl (.yes rfl rfl rfl (by first | rfl | simp | decide)) (p_move rfl rfl) ?_
  refine D_p rfl (.yes rfl rfl rfl (by first | rfl | simp | decide)) (p_neq rfl rfl rfl) ?_
  refine D_p rfl (.plain rfl) (p_pick_f rfl rfl (by first | rfl | simp | decide) rfl) ?_
  refine D_p rfl (.plain rfl) (p_move rfl rfl) ?_
  refine D_p rfl (.yes rfl rfl rfl (by first | rfl | simp | decide)) (p_move rfl rfl) ?_
  refine D_p rfl (.yes rfl rfl rfl (by first | rfl | simp | decide)) (p_neq rfl rfl rfl) ?_
  refine D_p rfl (.plain rfl) (p_pick_f rfl rfl (by first | rfl | simp | decide) rfl) ?_
  refine D_p rfl (.plain rfl) (p_move rfl rfl) ?_
  refine D_p rfl (.yes rfl rfl rfl (by first | rfl | simp | decide)) (p_fieldo fo34_1 rfl rfl) ?_
  refine D_rd rfl (.yes rfl rfl rfl (by first | rfl | simp | decide)) (r_loadA (vs := [_, _]) ag32 sz32 rfl rfl (by repeat first | exact mH | apply mT | apply List.mem_append_right) rfl) ?_
  refine D_wr (.go (E' := [(16, _)]) rfl (.yes rfl rfl rfl (by first | rfl | simp | decide)) (w_callP rfl rfl rfl (fun w hg => lspan_c _ _ w)) rfl ?_)
  rintro _ _ ⟨rfl, rfl⟩
  refine ⟨(.cons rfl (.yes rfl rfl rfl (by first | rfl | simp | decide)) (r_loadA (vs := [_, _]) ag32 sz32 rfl rfl (by repeat first | exact mH | apply mT | apply List.mem_append_right) rfl) .nil), ?_⟩
  refine D_p rfl (.yes rfl rfl rfl (by first | rfl | simp | decide)) (p_neS lv32 ag32 eg32 rfl rfl rfl rfl rfl) ?_
  refine D_p rfl (.plain rfl) (p_pick_f rfl rfl (by first | rfl | simp | decide) rfl) ?_
  refine D_p rfl (.plain rfl) (p_move rfl rfl) ?_
  refine D_p rfl (.yes rfl rfl rfl (by first | rfl | (simp; done) | (simp [eqL, eqv, Box.cells]; done) | decide)) (p_fieldo fo34_4 rfl rfl) ?_
  refine D_rd rfl (.yes rfl rfl rfl (by first | rfl | (simp; done) | (simp [eqL, eqv, Box.cells]; done) | decide)) (r_loadA (vs := [_, _]) ag32 sz32 rfl rfl (by repeat first | exact mH | apply mT | apply List.mem_append_right) rfl) ?_
  refine D_wr (.go (E' := [(22, _), (16, _)]) rfl (.yes rfl rfl rfl (by first | rfl | (simp; done) | (simp [eqL, eqv, Box.cells]; done) | decide)) (w_callP rfl rfl rfl (fun w hg => lspan_c _ _ w)) rfl ?_)
  rintro _ _ ⟨rfl, rfl⟩
  refine ⟨(.cons rfl (.yes rfl rfl rfl (by first | rfl | (simp; done) | (simp [eqL, eqv, Box.cells]; done) | decide)) (r_loadA (vs := [_, _]) ag32 sz32 rfl rfl (by repeat first | exact mH | apply mT | apply List.mem_append_right) rfl) (.cons rfl (.yes rfl rfl rfl (by first | rfl | simp | decide)) (r_loadA (vs := [_, _]) ag32 sz32 rfl rfl (by repeat first | exact mH | apply mT | apply List.mem_append_right) rfl) .nil)), ?_⟩
  refine D_p rfl (.yes rfl rfl rfl (by first | rfl | (simp; done) | (simp [eqL, eqv, Box.cells]; done) | decide)) (p_neS lv32 ag32 eg32 rfl rfl rfl rfl rfl) ?_
  refine D_p rfl (.plain rfl) (p_pick_f rfl rfl (by first | rfl | (simp; done) | (simp [eqL, eqv, Box.cells]; done) | decide) rfl) ?_
  refine D_p rfl (.plain rfl) (p_move rfl rfl) ?_
  refine D_p rfl (.yes rfl rfl rfl (by first | rfl | (simp; done) | (simp [eqL, eqv, Box.cells]; done) | decide)) (p_fieldo fo34_1 rfl rfl) ?_
  refine D_rd rfl (.yes rfl rfl rfl (by first | rfl | (simp; done) | (simp [eqL, eqv, Box.cells]; done) | decide)) (r_loadA (vs := [_, _]) ag32 sz32 rfl rfl (by repeat first | exact mH | apply mT | apply List.mem_append_right) rfl) ?_
  refine D_wr (.go (E' := [(28, _), (22, _), (16, _)]) rfl (.yes rfl rfl rfl (by first | rfl | (simp; done) | (simp [eqL, eqv, Box.cells]; done) | decide)) (w_callP rfl rfl rfl (fun w hg => lspan_c _ _ w)) rfl ?_)
  rintro _ _ ⟨rfl, rfl⟩
  refine ⟨(.cons rfl (.yes rfl rfl rfl (by first | rfl | (simp; done) | (simp [eqL, eqv, Box.cells]; done) | decide)) (r_loadA (vs := [_, _]) ag32 sz32 rfl rfl (by repeat first | exact mH | apply mT | apply List.mem_append_right) rfl) (.cons rfl (.yes rfl rfl rfl (by first | rfl | (simp; done) | (simp [eqL, eqv, Box.cells]; done) | decide)) (r_loadA (vs := [_, _]) ag32 sz32 rfl rfl (by repeat first | exact mH | apply mT | apply List.mem_append_right) rfl) (.cons rfl (.yes rfl rfl rfl (by first | rfl | simp | decide)) (r_loadA (vs := [_, _]) ag32 sz32 rfl rfl (by repeat first | exact mH | apply mT | apply List.mem_append_right) rfl) .nil))), ?_⟩
  refine D_p rfl (.yes rfl rfl rfl (by first | rfl | (simp; done) | (simp [eqL, eqv, Box.cells]; done) | decide)) (p_neS lv32 ag32 eg32 rfl rfl rfl rfl rfl) ?_
  refine D_p rfl (.plain rfl) (p_pick_f rfl rfl (by first | rfl | (simp; done) | (simp [eqL, eqv, Box.cells]; done) | decide) rfl) ?_
  refine D_p rfl (.plain rfl) (p_move rfl rfl) ?_
  refine D_p rfl (.yes rfl rfl rfl (by first | rfl | (simp; done) | (simp [eqL, eqv, Box.cells]; done) | decide)) (p_fieldo fo34_2 rfl rfl) ?_
  refine D_rd rfl (.yes rfl rfl rfl (by first | rfl | (simp; done) | (simp [eqL, eqv, Box.cells]; done) | decide)) (r_loadA (vs := [_, _]) ag32 sz32 rfl rfl (by repeat first | exact mH | apply mT | apply List.mem_append_right) rfl) ?_
  refine D_wr (.go (E' := [(34, _), (28, _), (22, _), (16, _)]) rfl (.yes rfl rfl rfl (by first | rfl | (simp; done) | (simp [eqL, eqv, Box.cells]; done) | decide)) (w_callP rfl rfl rfl (fun w hg => lspan_c _ _ w)) rfl ?_)
  rintro _ _ ⟨rfl, rfl⟩
  refine ⟨(.cons rfl (.yes rfl rfl rfl (by first | rfl | (simp; done) | (simp [eqL, eqv, Box.cells]; done) | decide)) (r_loadA (vs := [_, _]) ag32 sz32 rfl rfl (by repeat first | exact mH | apply mT | apply List.mem_append_right) rfl) (.cons rfl (.yes rfl rfl rfl (by first | rfl | (simp; done) | (simp [eqL, eqv, Box.cells]; done) | decide)) (r_loadA (vs := [_, _]) ag32 sz32 rfl rfl (by repeat first | exact mH | apply mT | apply List.mem_append_right) rfl) (.cons rfl (.yes rfl rfl rfl (by first | rfl | (simp; done) | (simp [eqL, eqv, Box.cells]; done) | decide)) (r_loadA (vs := [_, _]) ag32 sz32 rfl rfl (by repeat first | exact mH | apply mT | apply List.mem_append_right) rfl) (.cons rfl (.yes rfl rfl rfl (by first | rfl | simp | decide)) (r_loadA (vs := [_, _]) ag32 sz32 rfl rfl (by repeat first | exact mH | apply mT | apply List.mem_append_right) rfl) .nil)))), ?_⟩
  refine D_p rfl (.yes rfl rfl rfl (by first | rfl | (simp; done) | (simp [eqL, eqv, Box.cells]; done) | decide)) (p_neS lv32 ag32 eg32 rfl rfl rfl rfl rfl) ?_
  refine D_p rfl (.plain rfl) (p_pick_f rfl rfl (by first | rfl | (simp; done) | (simp [eqL, eqv, Box.cells]; done) | decide) rfl) ?_
  refine D_p rfl (.plain rfl) (p_move rfl rfl) ?_
  refine D_p rfl (.yes rfl rfl rfl (by first | rfl | (simp; done) | (simp [eqL, eqv, Box.cells]; done) | decide)) (p_fieldo fo34_3 rfl rfl) ?_
  refine D_rd rfl (.yes rfl rfl rfl (by first | rfl | (simp; done) | (simp [eqL, eqv, Box.cells]; done) | decide)) (r_loadA (vs := [_, _]) ag32 sz32 rfl rfl (by repeat first | exact mH | apply mT | apply List.mem_append_right) rfl) ?_
  refine D_wr (.go (E' := [(40, _), (34, _), (28, _), (22, _), (16, _)]) rfl (.yes rfl rfl rfl (by first | rfl | (simp; done) | (simp [eqL, eqv, Box.cells]; done) | decide)) (w_callP rfl rfl rfl (fun w hg => lspan_c _ _ w)) rfl ?_)
  rintro _ _ ⟨rfl, rfl⟩
  refine ⟨(.cons rfl (.yes rfl rfl rfl (by first | rfl | (simp; done) | (simp [eqL, eqv, Box.cells]; done) | decide)) (r_loadA (vs := [_, _]) ag32 sz32 rfl rfl (by repeat first | exact mH | apply mT | apply List.mem_append_right) rfl) (.cons rfl (.yes rfl rfl rfl (by first | rfl | (simp; done) | (simp [eqL, eqv, Box.cells]; done) | decide)) (r_loadA (vs := [_, _]) ag32 sz32 rfl rfl (by repeat first | exact mH | apply mT | apply List.mem_append_right) rfl) (.cons rfl (.yes rfl rfl rfl (by first | rfl | (simp; done) | (simp [eqL, eqv, Box.cells]; done) | decide)) (r_loadA (vs := [_, _]) ag32 sz32 rfl rfl (by repeat first | exact mH | apply mT | apply List.mem_append_right) rfl) (.cons rfl (.yes rfl rfl rfl (by first | rfl | (simp; done) | (simp [eqL, eqv, Box.cells]; done) | decide)) (r_loadA (vs := [_, _]) ag32 sz32 rfl rfl (by repeat first | exact mH | apply mT | apply List.mem_append_right) rfl) (.cons rfl (.yes rfl rfl rfl (by first | rfl | simp | decide)) (r_loadA (vs := [_, _]) ag32 sz32 rfl rfl (by repeat first | exact mH | apply mT | apply List.mem_append_right) rfl) .nil))))), ?_⟩
  refine D_p rfl (.yes rfl rfl rfl (by first | rfl | (simp; done) | (simp [eqL, eqv, Box.cells]; done) | decide)) (p_neS lv32 ag32 eg32 rfl rfl rfl rfl rfl) ?_
  refine D_p rfl (.plain rfl) (p_pick_f rfl rfl (by first | rfl | (simp; done) | (simp [eqL, eqv, Box.cells]; done) | decide) rfl) ?_
  refine D_p rfl (.plain rfl) (p_move rfl rfl) ?_
  refine D_p rfl (.yes rfl rfl rfl (by first | rfl | (simp; done) | (simp [eqL, eqv, Box.cells]; done) | decide)) (p_fieldo fo34_6 rfl rfl) ?_
  refine D_rd rfl (.yes rfl rfl rfl (by first | rfl | (simp; done) | (simp [eqL, eqv, Box.cells]; done) | decide)) (r_loadA (vs := [_, _]) ag32 sz32 rfl rfl (by repeat first | exact mH | apply mT | apply List.mem_append_right) rfl) ?_
  refine D_wr (.go (E' := [(46, _), (40, _), (34, _), (28, _), (22, _), (16, _)]) rfl (.yes rfl rfl rfl (by first | rfl | (simp; done) | (simp [eqL, eqv, Box.cells]; done) | decide)) (w_callP rfl rfl rfl (fun w hg => lspan_c _ _ w)) rfl ?_)
  rintro _ _ ⟨rfl, rfl⟩
  refine ⟨(.cons rfl (.yes rfl rfl rfl (by first | rfl | (simp; done) | (simp [eqL, eqv, Box.cells]; done) | decide)) (r_loadA (vs := [_, _]) ag32 sz32 rfl rfl (by repeat first | exact mH | apply mT | apply List.mem_append_right) rfl) (.cons rfl (.yes rfl rfl rfl (by first | rfl | (simp; done) | (simp [eqL, eqv, Box.cells]; done) | decide)) (r_loadA (vs := [_, _]) ag32 sz32 rfl rfl (by repeat first | exact mH | apply mT | apply List.mem_append_right) rfl) (.cons rfl (.yes rfl rfl rfl (by first | rfl | (simp; done) | (simp [eqL, eqv, Box.cells]; done) | decide)) (r_loadA (vs := [_, _]) ag32 sz32 rfl rfl (by repeat first | exact mH | apply mT | apply List.mem_append_right) rfl) (.cons rfl (.yes rfl rfl rfl (by first | rfl | (simp; done) | (simp [eqL, eqv, Box.cells]; done) | decide)) (r_loadA (vs := [_, _]) ag32 sz32 rfl rfl (by repeat first | exact mH | apply mT | apply List.mem_append_right) rfl) (.cons rfl (.yes rfl rfl rfl (by first | rfl | (simp; done) | (simp [eqL, eqv, Box.cells]; done) | decide)) (r_loadA (vs := [_, _]) ag32 sz32 rfl rfl (by repeat first | exact mH | apply mT | apply List.mem_append_right) rfl) (.cons rfl (.yes rfl rfl rfl (by first | rfl | simp | decide)) (r_loadA (vs := [_, _]) ag32 sz32 rfl rfl (by repeat first | exact mH | apply mT | apply List.mem_append_right) rfl) .nil)))))), ?_⟩
  refine D_p rfl (.yes rfl rfl rfl (by first | rfl | (simp; done) | (simp [eqL, eqv, Box.cells]; done) | decide)) (p_neS lv32 ag32 eg32 rfl rfl rfl rfl rfl) ?_
  refine D_p rfl (.plain rfl) (p_pick_f rfl rfl (by first | rfl | (simp; done) | (simp [eqL, eqv, Box.cells]; done) | decide) rfl) ?_
  refine D_p rfl (.plain rfl) (p_move rfl rfl) ?_
  refine D_p rfl (.yes rfl rfl rfl (by first | rfl | (simp; done) | (simp [eqL, eqv, Box.cells]; done) | decide)) (p_fieldo fo34_3 rfl rfl) ?_
  refine D_rd rfl (.yes rfl rfl rfl (by first | rfl | (simp; done) | (simp [eqL, eqv, Box.cells]; done) | decide)) (r_loadA (vs := [_, _]) ag32 sz32 rfl rfl (by repeat first | exact mH | apply mT | apply List.mem_append_right) rfl) ?_
  refine D_wr (.go (E' := [(52, _), (46, _), (40, _), (34, _), (28, _), (22, _), (16, _)]) rfl (.yes rfl rfl rfl (by first | rfl | (simp; done) | (simp [eqL, eqv, Box.cells]; done) | decide)) (w_callP rfl rfl rfl (fun w hg => lspan_c _ _ w)) rfl ?_)
  rintro _ _ ⟨rfl, rfl⟩
  refine ⟨(.cons rfl (.yes rfl rfl rfl (by first | rfl | (simp; done) | (simp [eqL, eqv, Box.cells]; done) | decide)) (r_loadA (vs := [_, _]) ag32 sz32 rfl rfl (by repeat first | exact mH | apply mT | apply List.mem_append_right) rfl) (.cons rfl (.yes rfl rfl rfl (by first | rfl | (simp; done) | (simp [eqL, eqv, Box.cells]; done) | decide)) (r_loadA (vs := [_, _]) ag32 sz32 rfl rfl (by repeat first | exact mH | apply mT | apply List.mem_append_right) rfl) (.cons rfl (.yes rfl rfl rfl (by first | rfl | (simp; done) | (simp [eqL, eqv, Box.cells]; done) | decide)) (r_loadA (vs := [_, _]) ag32 sz32 rfl rfl (by repeat first | exact mH | apply mT | apply List.mem_append_right) rfl) (.cons rfl (.yes rfl rfl rfl (by first | rfl | (simp; done) | (simp [eqL, eqv, Box.cells]; done) | decide)) (r_loadA (vs := [_, _]) ag32 sz32 rfl rfl (by repeat first | exact mH | apply mT | apply List.mem_append_right) rfl) (.cons rfl (.yes rfl rfl rfl (by first | rfl | (simp; done) | (simp [eqL, eqv, Box.cells]; done) | decide)) (r_loadA (vs := [_, _]) ag32 sz32 rfl rfl (by repeat first | exact mH | apply mT | apply List.mem_append_right) rfl) (.cons rfl (.yes rfl rfl rfl (by first | rfl | (simp; done) | (simp [eqL, eqv, Box.cells]; done) | decide)) (r_loadA (vs := [_, _]) ag32 sz32 rfl rfl (by repeat first | exact mH | apply mT | apply List.mem_append_right) rfl) (.cons rfl (.yes rfl rfl rfl (by first | rfl | simp | decide)) (r_loadA (vs := [_, _]) ag32 sz32 rfl rfl (by repeat first | exact mH | apply mT | apply List.mem_append_right) rfl) .nil))))))), ?_⟩
  refine D_p rfl (.yes rfl rfl rfl (by first | rfl | (simp; done) | (simp [eqL, eqv, Box.cells]; done) | decide)) (p_neS lv32 ag32 eg32 rfl rfl rfl rfl rfl) ?_
  refine D_p rfl (.plain rfl) (p_pick_f rfl rfl (by first | rfl | (simp; done) | (simp [eqL, eqv, Box.cells]; done) | decide) rfl) ?_
  refine D_p rfl (.plain rfl) (p_move rfl rfl) ?_
  refine D_p rfl (.yes rfl rfl rfl (by first | rfl | (simp; done) | (simp [eqL, eqv, Box.cells]; done) | decide)) (p_fieldo fo34_3 rfl rfl) ?_
  refine D_rd rfl (.yes rfl rfl rfl (by first | rfl | (simp; done) | (simp [eqL, eqv, Box.cells]; done) | decide)) (r_loadA (vs := [_, _]) ag32 sz32 rfl rfl (by repeat first | exact mH | apply mT | apply List.mem_append_right) rfl) ?_
  refine D_wr (.go (E' := [(58, _), (52, _), (46, _), (40, _), (34, _), (28, _), (22, _), (16, _)]) rfl (.yes rfl rfl rfl (by first | rfl | (simp; done) | (simp [eqL, eqv, Box.cells]; done) | decide)) (w_callP rfl rfl rfl (fun w hg => lspan_c _ _ w)) rfl ?_)
  rintro _ _ ⟨rfl, rfl⟩
  refine ⟨(.cons rfl (.yes rfl rfl rfl (by first | rfl | (simp; done) | (simp [eqL, eqv, Box.cells]; done) | decide)) (r_loadA (vs := [_, _]) ag32 sz32 rfl rfl (by repeat first | exact mH | apply mT | apply List.mem_append_right) rfl) (.cons rfl (.yes rfl rfl rfl (by first | rfl | (simp; done) | (simp [eqL, eqv, Box.cells]; done) | decide)) (r_loadA (vs := [_, _]) ag32 sz32 rfl rfl (by repeat first | exact mH | apply mT | apply List.mem_append_right) rfl) (.cons rfl (.yes rfl rfl rfl (by first | rfl | (simp; done) | (simp [eqL, eqv, Box.cells]; done) | decide)) (r_loadA (vs := [_, _]) ag32 sz32 rfl rfl (by repeat first | exact mH | apply mT | apply List.mem_append_right) rfl) (.cons rfl (.yes rfl rfl rfl (by first | rfl | (simp; done) | (simp [eqL, eqv, Box.cells]; done) | decide)) (r_loadA (vs := [_, _]) ag32 sz32 rfl rfl (by repeat first | exact mH | apply mT | apply List.mem_append_right) rfl) (.cons rfl (.yes rfl rfl rfl (by first | rfl | (simp; done) | (simp [eqL, eqv, Box.cells]; done) | decide)) (r_loadA (vs := [_, _]) ag32 sz32 rfl rfl (by repeat first | exact mH | apply mT | apply List.mem_append_right) rfl) (.cons rfl (.yes rfl rfl rfl (by first | rfl | (simp; done) | (simp [eqL, eqv, Box.cells]; done) | decide)) (r_loadA (vs := [_, _]) ag32 sz32 rfl rfl (by repeat first | exact mH | apply mT | apply List.mem_append_right) rfl) (.cons rfl (.yes rfl rfl rfl (by first | rfl | (simp; done) | (simp [eqL, eqv, Box.cells]; done) | decide)) (r_loadA (vs := [_, _]) ag32 sz32 rfl rfl (by repeat first | exact mH | apply mT | apply List.mem_append_right) rfl) (.cons rfl (.yes rfl rfl rfl (by first | rfl | simp | decide)) (r_loadA (vs := [_, _]) ag32 sz32 rfl rfl (by repeat first | exact mH | apply mT | apply List.mem_append_right) rfl) .nil)))))))), ?_⟩
  refine D_p rfl (.yes rfl rfl rfl (by first | rfl | (simp; done) | (simp [eqL, eqv, Box.cells]; done) | decide)) (p_neS lv32 ag32 eg32 rfl rfl rfl rfl rfl) ?_
  refine D_p rfl (.plain rfl) (p_pick_f rfl rfl (by first | rfl | (simp; done) | (simp [eqL, eqv, Box.cells]; done) | decide) rfl) ?_
  refine D_then (.cons (k := 1) rfl (.cons (k := 14) rfl (.cons (k := 184) rfl .nil))) ?_
  refine V_cond_f rfl (by first | rfl | (simp; done) | (simp [eqL, eqv, Box.cells]; done) | decide) ?_
  refine V_skip (then_n ?_)
  refine V_seq (V_region rfl ?_)
  refine L_go rfl (X_rd (r_loadA (vs := [_, _, _, _, _]) ag25 sz25 rfl rfl (by repeat first | exact mH | apply mT | apply List.mem_append_right) rfl) ?_)
  refine L_go rfl (X_wr (w_callG (pre := [_, _, _, _, _, _, _, _, _, _, _, _, _, _, _]) rfl rfl rfl rfl (fun w hg => exk_fails w _ _ (exTask (hg.own (x1, _) (by repeat first | exact mH | apply mT | apply List.mem_append_right)) (hg.own (y1, _) (by repeat first | exact mH | apply mT | apply List.mem_append_right))))) ?_)
  rintro _ _ ⟨_, G18, rfl, hfr18, sv18, rfl, rfl, hgr18⟩
  try simp only [List.cons_append, List.nil_append, List.append_nil]
  refine L_go rfl (X_p (p_move rfl rfl) ?_)
  refine L_go rfl (X_p (p_ext rfl rfl rfl) ?_)
  refine L_go rfl (X_p (p_ext rfl rfl rfl) ?_)
  refine L_go rfl (X_p (p_ext rfl rfl rfl) ?_)
  refine L_go rfl (X_p (p_assign rfl rfl) ?_)
  refine L_go rfl (X_p (p_assign rfl rfl) ?_)
  refine L_go rfl (X_p (p_assign rfl rfl) ?_)
  refine L_then (.cons (k := 1) rfl (.cons (k := 14) rfl (.cons (k := 15) rfl (.cons (k := 22) rfl (.cons (k := 23) rfl .nil))))) ?_
  refine V_seq (V_region rfl ?_)
  refine L_go rfl (X_rd (r_loadA (vs := [_, _, _, _, _]) ag25 sz25 rfl rfl (by repeat first | exact mH | apply mT | apply List.mem_append_right) rfl) ?_)
  refine L_go rfl (X_wr (w_callP rfl rfl rfl (fun w hg => exk_best0 w _ _ (exTask (hg.own (x1, _) (by repeat first | exact mH | apply mT | apply List.mem_append_right)) (hg.own (y1, _) (by repeat first | exact mH | apply mT | apply List.mem_append_right))))) ?_)
  rintro _ _ ⟨rfl, rfl⟩
  refine L_go rfl (X_p (p_move rfl rfl) ?_)
  refine L_go rfl (X_p (p_ext rfl rfl rfl) ?_)
  refine L_go rfl (X_p (p_ext rfl rfl rfl) ?_)
  refine L_go rfl (X_p (p_assign rfl rfl) ?_)
  refine L_go rfl (X_p (p_assign rfl rfl) ?_)
  refine L_then (.cons (k := 1) rfl (.cons (k := 14) rfl (.cons (k := 15) rfl (.cons (k := 17) rfl (.cons (k := 22) rfl (.cons (k := 23) rfl (.cons (k := 24) rfl .nil))))))) ?_
  refine V_seq (V_region rfl ?_)
  refine L_go rfl (X_rd (r_loadA (vs := [_, _, _, _, _]) ag25 sz25 rfl rfl (by repeat first | exact mH | apply mT | apply List.mem_append_right) rfl) ?_)
  refine L_go rfl (X_wr (w_callP rfl rfl rfl (fun w hg => exk_best1 w _ _ (exTask (hg.own (x1, _) (by repeat first | exact mH | apply mT | apply List.mem_append_right)) (hg.own (y1, _) (by repeat first | exact mH | apply mT | apply List.mem_append_right))))) ?_)
  rintro _ _ ⟨rfl, rfl⟩
  refine L_go rfl (X_p (p_move rfl rfl) ?_)
  refine L_go rfl (X_p (p_ext rfl rfl rfl) ?_)
  refine L_go rfl (X_p (p_ext rfl rfl rfl) ?_)
  refine L_go rfl (X_p (p_assign rfl rfl) ?_)
  refine L_go rfl (X_p (p_assign rfl rfl) ?_)
  refine L_then (.cons (k := 1) rfl (.cons (k := 14) rfl (.cons (k := 15) rfl (.cons (k := 17) rfl (.cons (k := 19) rfl (.cons (k := 22) rfl (.cons (k := 23) rfl (.cons (k := 24) rfl (.cons (k := 25) rfl .nil))))))))) ?_
  refine V_seq ?_
  refine V_seq (V_region rfl ?_)
  refine L_go rfl (X_p (p_move rfl rfl) ?_)
  refine L_go rfl (X_p (p_neq rfl rfl rfl) ?_)
  refine L_go rfl (X_p (p_move rfl rfl) ?_)
  refine L_yes rfl rfl rfl (by first | rfl | simp | decide) (X_p (p_move rfl rfl) ?_)
  refine L_yes rfl rfl rfl (by first | rfl | simp | decide) (X_p (p_neq rfl rfl rfl) ?_)
  refine L_go rfl (X_p (p_pick_f rfl rfl (by first | rfl | simp | decide) rfl) ?_)
  refine L_go rfl (X_p (p_move rfl rfl) ?_)
  refine L_yes rfl rfl rfl (by first | rfl | simp | decide) (X_p (p_move rfl rfl) ?_)
  refine L_yes rfl rfl rfl (by first | rfl | simp | decide) (X_p (p_neq rfl rfl rfl) ?_)
  refine L_go rfl (X_p (p_pick_f rfl rfl (by first | rfl | simp | decide) rfl) ?_)
  refine L_go rfl (X_p (p_move rfl rfl) ?_)
  refine L_yes rfl rfl rfl (by first | rfl | simp | decide) (X_p (p_move rfl rfl) ?_)
  refine L_yes rfl rfl rfl (by first | rfl | simp | decide) (X_p (p_not rfl rfl) ?_)
  refine L_go rfl (X_p (p_pick_f rfl rfl (by first | rfl | simp | decide) rfl) ?_)
  refine L_go rfl (X_p (p_move rfl rfl) ?_)
  refine L_yes rfl rfl rfl rfl (X_p (p_move rfl rfl) ?_)
  refine L_yes rfl rfl rfl rfl (X_p (p_neq rfl rfl rfl) ?_)
  refine L_go rfl (X_p (p_pick_f rfl rfl rfl rfl) ?_)
  refine L_go rfl (X_p (p_move rfl rfl) ?_)
  refine L_yes rfl rfl rfl (by first | rfl | simp | decide) (X_p (p_move rfl rfl) ?_)
  refine L_yes rfl rfl rfl (by first | rfl | simp | decide) (X_p (p_neq rfl rfl rfl) ?_)
  refine L_go rfl (X_p (p_pick_f rfl rfl (by first | rfl | simp | decide) rfl) ?_)
  refine L_go rfl (X_p (p_move rfl rfl) ?_)
  refine L_yes rfl rfl rfl (by first | rfl | simp | decide) (X_p (p_move rfl rfl) ?_)
  refine L_yes rfl rfl rfl (by first | rfl | simp | decide) (X_wr (w_slice (r := [_, _, _]) un27 sz3 zr3 rfl (by decide) rfl (by decide) rfl rfl) ?_)
  rintro _ _ ⟨b19, hb19, rfl, rfl⟩
  refine L_yes rfl rfl rfl (by first | rfl | simp | decide) (X_wr (w_callP rfl rfl rfl (fun w hg => ints_same [0, 1, 2] _ _ w (Grow.slice hgr18 (fun p hp => hg.own p (by repeat first | exact hp | exact List.mem_append_left _ hp | apply List.mem_append_right | apply mT))) (own_ints (l := [0, 1, 2]) (hg.own (b19, _) (by repeat first | exact mH | apply mT | apply List.mem_append_right)) rfl (by decide)) (by decide))) ?_)
  rintro _ _ ⟨rfl, rfl⟩
  refine L_yes rfl rfl rfl (by first | rfl | simp | decide) (X_p (p_not rfl rfl) ?_)
  refine L_go rfl (X_p (p_pick_f rfl rfl (by first | rfl | simp | decide) rfl) ?_)
  refine L_then (.cons (k := 1) rfl (.cons (k := 14) rfl (.cons (k := 228) rfl .nil))) ?_
  refine V_cond_f rfl rfl ?_
  refine V_skip (then_n ?_)
  refine V_seq (V_draw (.rd 0 (.wr 1 [0] (.wr 2 [0] (.rd 3 (.wr 4 [] (.rd 5 (.rd 6 (.rd 7 (.wr 8 [7] (.rd 9 .done)))))))))) mixed (by kernel_rfl) rfl ?_)
  refine D_rd rfl (.plain rfl) (r_loadA (vs := [_, _, _, _, _]) ag25 sz25 rfl rfl (by repeat first | exact mH | apply mT | apply List.mem_append_right) rfl) ?_
  refine D_wr (.go (E' := [(0, _)]) rfl (.plain rfl) (w_callP rfl rfl rfl (fun w hg => lspan_c _ _ w)) rfl ?_)
  rintro _ _ ⟨rfl, rfl⟩
  refine ⟨(.cons rfl (.plain rfl) (r_loadA (vs := [_, _, _, _, _]) ag25 sz25 rfl rfl (by repeat first | exact mH | apply mT | apply List.mem_append_right) rfl) .nil), ?_⟩
  refine D_wr (.go (E' := [(0, _)]) rfl (.plain rfl) (w_callP rfl rfl rfl (fun w hg => lspan_c _ _ w)) rfl ?_)
  rintro _ _ ⟨rfl, rfl⟩
  refine ⟨(.cons rfl (.plain rfl) (r_loadA (vs := [_, _, _, _, _]) ag25 sz25 rfl rfl (by repeat first | exact mH | apply mT | apply List.mem_append_right) rfl) .nil), ?_⟩
  refine D_p rfl (.plain rfl) (p_build (r := [_, _, _, _, _, _, _, _, _, _, _, _, _]) pl34 zr34 rfl rfl rfl) ?_
  refine D_wr (.go (E' := []) rfl (.plain rfl) (w_callP rfl rfl rfl (fun w hg => exk_ahead w _ _ (exTask (hg.own (x1, _) (by repeat first | exact mH | apply mT | apply List.mem_append_right)) (hg.own (y1, _) (by repeat first | exact mH | apply mT | apply List.mem_append_right))))) rfl ?_)
  rintro _ _ ⟨rfl, rfl⟩
  refine ⟨.nil, ?_⟩
  refine D_p rfl (.plain rfl) (p_move rfl rfl) ?_
  refine D_p rfl (.plain rfl) (p_ext rfl rfl rfl) ?_
  refine D_p rfl (.plain rfl) (p_ext rfl rfl rfl) ?_
  refine D_wr (.go (E' := []) rfl (.plain rfl) (w_store (cs' := [_, _, _, _, _, _, _, _, _, _, _, _, _]) sz34 rfl rfl rfl rfl rfl (by repeat first | exact .head | apply SetAt.tail) (Nat.le_of_ble_eq_true rfl) rfl) rfl ?_)
  rintro _ _ ⟨rfl, rfl⟩
  refine ⟨.nil, ?_⟩
  refine D_p rfl (.plain rfl) (p_assign rfl rfl) ?_
  refine D_then (.cons (k := 1) rfl (.cons (k := 14) rfl (.cons (k := 15) rfl .nil))) ?_
  refine V_seq ?_
  refine V_seq (V_draw (.rd 0 (.rd 1 (.rd 2 (.rd 3 (.rd 4 (.rd 5 (.rd 6 (.rd 7 (.rd 8 (.rd 9 (.wr 10 [9, 8, 6, 5, 4, 3, 2, 1, 0] (.rd 11 (.rd 12 (.rd 13 (.rd 14 (.rd 15 (.wr 16 [15, 14, 12, 11, 9, 8, 7, 6, 5, 4, 3, 2, 1, 0] (.rd 17 (.rd 18 .done))))))))))))))))))) mixed (by kernel_rfl) rfl ?_)
  refine D_p rfl (.plain rfl) (p_move rfl rfl) ?_
  refine D_p rfl (.plain rfl) (p_neq rfl rfl rfl) ?_
  refine D_p rfl (.plain rfl) (p_move rfl rfl) ?_
  refine D_p rfl (.yes rfl rfl rfl (by first | rfl | simp | decide)) (p_fieldo fo34_0 rfl rfl) ?_
  refine D_rd rfl (.yes rfl rfl rfl (by first | rfl | simp | decide)) (r_load ag3 rfl rfl (by repeat first | exact mH | apply mT | apply List.mem_append_right) rfl) ?_
  refine D_p rfl (.yes rfl rfl rfl (by first | rfl | simp | decide)) (p_neq rfl rfl rfl) ?_
  refine D_p rfl (.plain rfl) (p_pick_f rfl rfl (by first | rfl | simp | decide) rfl) ?_
  refine D_p rfl (.plain rfl) (p_move rfl rfl) ?_
  refine D_p rfl (.yes rfl rfl rfl (by first | rfl | simp | decide)) (p_fieldo fo34_1 rfl rfl) ?_
  refine D_rd rfl (.yes rfl rfl rfl (by first | rfl | simp | decide)) (r_loadA (vs := [_, _]) ag32 sz32 rfl rfl (by repeat first | exact mH | apply mT | apply List.mem_append_right) rfl) ?_
  refine D_wr (.go (E' := [(9, _), (4, _)]) rfl (.yes rfl rfl rfl (by first | rfl | simp | decide)) (w_callP rfl rfl rfl (fun w hg => lspan_c _ _ w)) rfl ?_)
  rintro _ _ ⟨rfl, rfl⟩
  refine ⟨(.cons rfl (.yes rfl rfl rfl (by first | rfl | simp | decide)) (r_loadA (vs := [_, _]) ag32 sz32 rfl rfl (by repeat first | exact mH | apply mT | apply List.mem_append_right) rfl) (.cons rfl (.yes rfl rfl rfl (by first | rfl | simp | decide)) (r_load ag3 rfl rfl (by repeat first | exact mH | apply mT | apply List.mem_append_right) rfl) .nil)), ?_⟩
  refine D_p rfl (.yes rfl rfl rfl (by first | rfl | simp | decide)) (p_neS lv32 ag32 eg32 rfl rfl rfl rfl rfl) ?_
  refine D_p rfl (.plain rfl) (p_pick_f rfl rfl (by first | rfl | simp | decide) rfl) ?_
  refine D_p rfl (.plain rfl) (p_move rfl rfl) ?_
  refine D_p rfl (.yes rfl rfl rfl (by first | rfl | (simp; done) | (simp [eqL, eqv, Box.cells]; done) | decide)) (p_fieldo fo34_4 rfl rfl) ?_
  refine D_rd rfl (.yes rfl rfl rfl (by first | rfl | (simp; done) | (simp [eqL, eqv, Box.cells]; done) | decide)) (r_loadA (vs := [_, _]) ag32 sz32 rfl rfl (by repeat first | exact mH | apply mT | apply List.mem_append_right) rfl) ?_
  refine D_wr (.go (E' := [(15, _), (9, _), (4, _)]) rfl (.yes rfl rfl rfl (by first | rfl | (simp; done) | (simp [eqL, eqv, Box.cells]; done) | decide)) (w_callP rfl rfl rfl (fun w hg => lspan_c _ _ w)) rfl ?_)
  rintro _ _ ⟨rfl, rfl⟩
  refine ⟨(.cons rfl (.yes rfl rfl rfl (by first | rfl | (simp; done) | (simp [eqL, eqv, Box.cells]; done) | decide)) (r_loadA (vs := [_, _]) ag32 sz32 rfl rfl (by repeat first | exact mH | apply mT | apply List.mem_append_right) rfl) (.cons rfl (.yes rfl rfl rfl (by first | rfl | simp | decide)) (r_loadA (vs := [_, _]) ag32 sz32 rfl rfl (by repeat first | exact mH | apply mT | apply List.mem_append_right) rfl) (.cons rfl (.yes rfl rfl rfl (by first | rfl | simp | decide)) (r_load ag3 rfl rfl (by repeat first | exact mH | apply mT | apply List.mem_append_right) rfl) .nil))), ?_⟩
  refine D_p rfl (.yes rfl rfl rfl (by first | rfl | (simp; done) | (simp [eqL, eqv, Box.cells]; done) | decide)) (p_neS lv32 ag32 eg32 rfl rfl rfl rfl rfl) ?_
  refine D_p rfl (.plain rfl) (p_pick_f rfl rfl (by first | rfl | (simp; done) | (simp [eqL, eqv, Box.cells]; done) | decide) rfl) ?_
  refine D_then (.cons (k := 1) rfl (.cons (k := 255) rfl .nil)) ?_
  refine V_cond_f rfl (by first | rfl | (simp; done) | (simp [eqL, eqv, Box.cells]; done) | decide) ?_
  refine V_skip (then_n ?_)
  refine V_seq (V_region rfl ?_)
  refine L_go rfl (X_wr (w_slice (r := [_, _, _]) un27 sz3 zr3 rfl (by decide) rfl (by decide) rfl rfl) ?_)
  rintro _ _ ⟨b20, hb20, rfl, rfl⟩
  refine L_go rfl (X_p (p_build (r := [_, _]) pl47 zr47 rfl rfl rfl) ?_)
  refine L_go rfl (X_wr (w_slice (r := [_, _]) un43 sz47 zr47 rfl (by decide) rfl (by decide) rfl rfl) ?_)
  rintro _ _ ⟨b21, hb21, rfl, rfl⟩
  refine L_go rfl (X_p (p_build (r := [_, _]) pl47 zr47 rfl rfl rfl) ?_)
  refine L_go rfl (X_wr (w_slice (r := [_, _]) un43 sz47 zr47 rfl (by decide) rfl (by decide) rfl rfl) ?_)
  rintro _ _ ⟨b22, hb22, rfl, rfl⟩
  refine L_go rfl (X_wr (w_slice (r := [_, _, _]) un79 sz43 zr43 rfl (by decide) rfl (by decide) rfl rfl) ?_)
  rintro _ _ ⟨b23, hb23, rfl, rfl⟩
  refine L_go rfl (X_p (p_assign rfl rfl) ?_)
  refine L_go rfl (X_p (p_assign rfl rfl) ?_)
  refine L_then (.cons (k := 1) rfl (.cons (k := 26) rfl (.cons (k := 27) rfl .nil))) ?_
  refine V_seq ?_
  refine V_seq (V_region rfl ?_)
  refine L_go rfl (X_p (p_assign rfl rfl) ?_)
  refine L_then (.cons (k := 1) rfl (.cons (k := 26) rfl (.cons (k := 27) rfl (.cons (k := 28) rfl .nil)))) ?_
  refine V_block ?_
  refine V_loopU ?_
  refine LU_step ?_
  refine V_seq ?_
  refine V_seq (V_region rfl ?_)
  refine L_go rfl (X_p (p_move rfl rfl) ?_)
  refine L_go rfl (X_p (p_lss rfl rfl rfl) ?_)
  refine L_then (.cons (k := 1) rfl (.cons (k := 26) rfl (.cons (k := 27) rfl (.cons (k := 28) rfl (.cons (k := 263) rfl .nil))))) ?_
  refine V_cond_t rfl rfl ?_
  refine V_skip (then_n ?_)
  refine V_seq ?_
  refine V_block ?_
  refine V_seq (V_draw (.rd 0 (.rd 1 (.rd 2 (.rd 3 (.rd 4 (.wr 5 [3, 2, 1] (.rd 6 (.rd 7 (.rd 8 (.rd 9 (.rd 10 .done))))))))))) mixed (by kernel_rfl) rfl ?_)
  refine D_rd rfl (.plain rfl) (r_loadA (vs := [_, _, _, _, _]) ag25 sz25 rfl rfl (by repeat first | exact mH | apply mT | apply List.mem_append_right) rfl) ?_
  refine D_p rfl (.plain rfl) (p_move rfl rfl) ?_
  refine D_p rfl (.plain rfl) (p_move rfl rfl) ?_
  refine D_p rfl (.plain rfl) (p_idxo es27 rfl rfl rfl (by omega) (by omega)) ?_
  refine D_rd rfl (.plain rfl) (r_load ag3 rfl rfl (by repeat first | exact mH | apply mT | apply List.mem_append_right) rfl) ?_
  refine D_wr (.go (E' := []) rfl (.plain rfl) (w_callG (pre := [_, _, _, _, _, _, _, _, _, _, _, _, _, _, _, _, _, _, _, _]) rfl rfl rfl rfl (fun w hg => exk_gaps0 w _ _ (exTask (hg.own (x1, _) (by repeat first | exact mH | apply mT | apply List.mem_append_right)) (hg.own (y1, _) (by repeat first | exact mH | apply mT | apply List.mem_append_right))))) rfl ?_)
  rintro _ _ ⟨_, G24, rfl, hfr24, sv24, rfl, rfl, hgr24⟩
  try simp only [List.cons_append, List.nil_append, List.append_nil]
  refine ⟨.nil, ?_⟩
  refine D_p rfl (.plain rfl) (p_move rfl rfl) ?_
  refine D_p rfl (.plain rfl) (p_ext rfl rfl rfl) ?_
  refine D_p rfl (.plain rfl) (p_ext rfl rfl rfl) ?_
  refine D_p rfl (.plain rfl) (p_assign rfl rfl) ?_
  refine D_p rfl (.plain rfl) (p_assign rfl rfl) ?_
  refine D_then (.cons (k := 1) rfl (.cons (k := 26) rfl (.cons (k := 27) rfl (.cons (k := 28) rfl (.cons (k := 29) rfl (.cons (k := 30) rfl .nil)))))) ?_
  refine V_seq (V_region rfl ?_)
  refine L_go rfl (X_p (p_move rfl rfl) ?_)
  refine L_go rfl (X_p (p_neq rfl rfl rfl) ?_)
  refine L_go rfl (X_p (p_move rfl rfl) ?_)
  refine L_yes rfl rfl rfl (by first | rfl | simp | decide) (X_p (p_move rfl rfl) ?_)
  refine L_yes rfl rfl rfl (by first | rfl | simp | decide) (X_p (p_move rfl rfl) ?_)
  refine L_yes rfl rfl rfl (by first | rfl | simp | decide) (X_p (p_move rfl rfl) ?_)
  refine L_yes rfl rfl rfl (by first | rfl | simp | decide) (X_p (p_idxo es79 rfl rfl rfl (by omega) (by omega)) ?_)
  refine L_yes rfl rfl rfl (by first | rfl | simp | decide) (X_rd (r_load ag43 rfl rfl (by repeat first | exact mH | apply mT | apply List.mem_append_right) rfl) ?_)
  refine L_yes rfl rfl rfl (by first | rfl | simp | decide) (X_wr (w_callP rfl rfl rfl (fun w hg => lgaps_c [(101, 104)] _ _ w (Grow.rows (els := ([(101, 104)] : List (Int × Int)).map gapC) hgr24 (by intro e he; obtain ⟨x, _, rfl⟩ := List.mem_map.1 he; rfl) rfl (fun p hp => hg.own p (by repeat first | exact hp | exact List.mem_append_left _ hp | apply List.mem_append_right | apply mT))) (own_rows (els := ([(101, 104)] : List (Int × Int)).map gapC) (hg.own (b21, _) (by repeat first | exact mH | apply mT | apply List.mem_append_right)) rfl (by intro e he; obtain ⟨x, _, rfl⟩ := List.mem_map.1 he; rfl) rfl (by decide)) (by decide))) ?_)
  rintro _ _ ⟨rfl, rfl⟩
  refine L_yes rfl rfl rfl (by first | rfl | simp | decide) (X_p (p_not rfl rfl) ?_)
  refine L_go rfl (X_p (p_pick_f rfl rfl (by first | rfl | simp | decide) rfl) ?_)
  refine L_then (.cons (k := 1) rfl (.cons (k := 26) rfl (.cons (k := 27) rfl (.cons (k := 28) rfl (.cons (k := 285) rfl .nil))))) ?_
  refine V_cond_f rfl rfl ?_
  refine V_skip (blk_n (then_n ?_))
  refine V_region rfl ?_
  refine L_go rfl (X_p (p_move rfl rfl) ?_)
  first | refine L_go rfl (X_p (p_add' rfl rfl rfl (by unfold InI; omega)) ?_) | refine L_go rfl (X_p (p_add rfl rfl rfl) ?_)
  refine L_go rfl (X_p (p_assign rfl rfl) ?_)
  refine L_keep (.cons (k := 1) rfl (.cons (k := 26) rfl (.cons (k := 27) rfl (.cons (k := 28) rfl .nil)))) (then_n ?_)
  refine LU_step ?_
  refine V_seq ?_
  refine V_seq (V_region rfl ?_)
  refine L_go rfl (X_p (p_move rfl rfl) ?_)
  refine L_go rfl (X_p (p_lss rfl rfl rfl) ?_)
  refine L_then (.cons (k := 1) rfl (.cons (k := 26) rfl (.cons (k := 27) rfl (.cons (k := 28) rfl (.cons (k := 263) rfl .nil))))) ?_
  refine V_cond_t rfl rfl ?_
  refine V_skip (then_n ?_)
  refine V_seq ?_
  refine V_block ?_
  refine V_seq (V_draw (.rd 0 (.rd 1 (.rd 2 (.rd 3 (.rd 4 (.wr 5 [3, 2, 1] (.rd 6 (.rd 7 (.rd 8 (.rd 9 (.rd 10 .done))))))))))) mixed (by kernel_rfl) rfl ?_)
  refine D_rd rfl (.plain rfl) (r_loadA (vs := [_, _, _, _, _]) ag25 sz25 rfl rfl (by repeat first | exact mH | apply mT | apply List.mem_append_right) rfl) ?_
  refine D_p rfl (.plain rfl) (p_move rfl rfl) ?_
  refine D_p rfl (.plain rfl) (p_move rfl rfl) ?_
  refine D_p rfl (.plain rfl) (p_idxo es27 rfl rfl rfl (by omega) (by omega)) ?_
  refine D_rd rfl (.plain rfl) (r_load ag3 rfl rfl (by repeat first | exact mH | apply mT | apply List.mem_append_right) rfl) ?_
  refine D_wr (.go (E' := []) rfl (.plain rfl) (w_callG (pre := [_, _, _, _, _, _, _, _, _, _, _, _, _, _, _, _, _, _, _, _]) rfl rfl rfl rfl (fun w hg => exk_gaps1 w _ _ (exTask (hg.own (x1, _) (by repeat first | exact mH | apply mT | apply List.mem_append_right)) (hg.own (y1, _) (by repeat first | exact mH | apply mT | apply List.mem_append_right))))) rfl ?_)
  rintro _ _ ⟨_, G25, rfl, hfr25, sv25, rfl, rfl, hgr25⟩
  try simp only [List.cons_append, List.nil_append, List.append_nil]
  refine ⟨.nil, ?_⟩
  refine D_p rfl (.plain rfl) (p_move rfl rfl) ?_
  refine D_p rfl (.plain rfl) (p_ext rfl rfl rfl) ?_
  refine D_p rfl (.plain rfl) (p_ext rfl rfl rfl) ?_
  refine D_p rfl (.plain rfl) (p_assign rfl rfl) ?_
  refine D_p rfl (.plain rfl) (p_assign rfl rfl) ?_
  refine D_then (.cons (k := 1) rfl (.cons (k := 26) rfl (.cons (k := 27) rfl (.cons (k := 28) rfl (.cons (k := 29) rfl (.cons (k := 30) rfl .nil)))))) ?_
  refine V_seq (V_region rfl ?_)
  refine L_go rfl (X_p (p_move rfl rfl) ?_)
  refine L_go rfl (X_p (p_neq rfl rfl rfl) ?_)
  refine L_go rfl (X_p (p_move rfl rfl) ?_)
  refine L_yes rfl rfl rfl (by first | rfl | simp | decide) (X_p (p_move rfl rfl) ?_)
  refine L_yes rfl rfl rfl (by first | rfl | simp | decide) (X_p (p_move rfl rfl) ?_)
  refine L_yes rfl rfl rfl (by first | rfl | simp | decide) (X_p (p_move rfl rfl) ?_)
  refine L_yes rfl rfl rfl (by first | rfl | simp | decide) (X_p (p_idxo es79 rfl rfl rfl (by omega) (by omega)) ?_)
  refine L_yes rfl rfl rfl (by first | rfl | simp | decide) (X_rd (r_load ag43 rfl rfl (by repeat first | exact mH | apply mT | apply List.mem_append_right) rfl) ?_)
  refine L_yes rfl rfl rfl (by first | rfl | simp | decide) (X_wr (w_callP rfl rfl rfl (fun w hg => lgaps_c [(102, 104)] _ _ w (Grow.rows (els := ([(102, 104)] : List (Int × Int)).map gapC) hgr25 (by intro e he; obtain ⟨x, _, rfl⟩ := List.mem_map.1 he; rfl) rfl (fun p hp => hg.own p (by repeat first | exact hp | exact List.mem_append_left _ hp | apply List.mem_append_right | apply mT))) (own_rows (els := ([(102, 104)] : List (Int × Int)).map gapC) (hg.own (b22, _) (by repeat first | exact mH | apply mT | apply List.mem_append_right)) rfl (by intro e he; obtain ⟨x, _, rfl⟩ := List.mem_map.1 he; rfl) rfl (by decide)) (by decide))) ?_)
  rintro _ _ ⟨rfl, rfl⟩
  refine L_yes rfl rfl rfl (by first | rfl | simp | decide) (X_p (p_not rfl rfl) ?_)
  refine L_go rfl (X_p (p_pick_f rfl rfl (by first | rfl | simp | decide) rfl) ?_)
  refine L_then (.cons (k := 1) rfl (.cons (k := 26) rfl (.cons (k := 27) rfl (.cons (k := 28) rfl (.cons (k := 285) rfl .nil))))) ?_
  refine V_cond_f rfl rfl ?_
  refine V_skip (blk_n (then_n ?_))
  refine V_region rfl ?_
  refine L_go rfl (X_p (p_move rfl rfl) ?_)
  first | refine L_go rfl (X_p (p_add' rfl rfl rfl (by unfold InI; omega)) ?_) | refine L_go rfl (X_p (p_add rfl rfl rfl) ?_)
  refine L_go rfl (X_p (p_assign rfl rfl) ?_)
  refine L_keep (.cons (k := 1) rfl (.cons (k := 26) rfl (.cons (k := 27) rfl (.cons (k := 28) rfl .nil)))) (then_n ?_)
  refine LU_step ?_
  refine V_seq ?_
  refine V_seq (V_region rfl ?_)
  refine L_go rfl (X_p (p_move rfl rfl) ?_)
  refine L_go rfl (X_p (p_lss rfl rfl rfl) ?_)
  refine L_then (.cons (k := 1) rfl (.cons (k := 26) rfl (.cons (k := 27) rfl (.cons (k := 28) rfl (.cons (k := 263) rfl .nil))))) ?_
  refine V_cond_t rfl rfl ?_
  refine V_skip (then_n ?_)
  refine V_seq ?_
  refine V_block ?_
  refine V_seq (V_draw (.rd 0 (.rd 1 (.rd 2 (.rd 3 (.rd 4 (.wr 5 [3, 2, 1] (.rd 6 (.rd 7 (.rd 8 (.rd 9 (.rd 10 .done))))))))))) mixed (by kernel_rfl) rfl ?_)
  refine D_rd rfl (.plain rfl) (r_loadA (vs := [_, _, _, _, _]) ag25 sz25 rfl rfl (by repeat first | exact mH | apply mT | apply List.mem_append_right) rfl) ?_
  refine D_p rfl (.plain rfl) (p_move rfl rfl) ?_
  refine D_p rfl (.plain rfl) (p_move rfl rfl) ?_
  refine D_p rfl (.plain rfl) (p_idxo es27 rfl rfl rfl (by omega) (by omega)) ?_
  refine D_rd rfl (.plain rfl) (r_load ag3 rfl rfl (by repeat first | exact mH | apply mT | apply List.mem_append_right) rfl) ?_
  refine D_wr (.go (E' := []) rfl (.plain rfl) (w_callG (pre := [_, _, _, _, _, _, _, _, _, _, _, _, _, _, _, _, _, _, _, _]) rfl rfl rfl rfl (fun w hg => exk_gaps2 w _ _ (exTask (hg.own (x1, _) (by repeat first | exact mH | apply mT | apply List.mem_append_right)) (hg.own (y1, _) (by repeat first | exact mH | apply mT | apply List.mem_append_right))))) rfl ?_)
  rintro _ _ ⟨_, G26, rfl, hfr26, sv26, rfl, rfl, hgr26⟩
  try simp only [List.cons_append, List.nil_append, List.append_nil]
  refine ⟨.nil, ?_⟩
  refine D_p rfl (.plain rfl) (p_move rfl rfl) ?_
  refine D_p rfl (.plain rfl) (p_ext rfl rfl rfl) ?_
  refine D_p rfl (.plain rfl) (p_ext rfl rfl rfl) ?_
  refine D_p rfl (.plain rfl) (p_assign rfl rfl) ?_
  refine D_p rfl (.plain rfl) (p_assign rfl rfl) ?_
  refine D_then (.cons (k := 1) rfl (.cons (k := 26) rfl (.cons (k := 27) rfl (.cons (k := 28) rfl (.cons (k := 29) rfl (.cons (k := 30) rfl .nil)))))) ?_
  refine V_seq (V_region rfl ?_)
  refine L_go rfl (X_p (p_move rfl rfl) ?_)
  refine L_go rfl (X_p (p_neq rfl rfl rfl) ?_)
  refine L_go rfl (X_p (p_move rfl rfl) ?_)
  refine L_yes rfl rfl rfl (by first | rfl | simp | decide) (X_p (p_move rfl rfl) ?_)
  refine L_yes rfl rfl rfl (by first | rfl | simp | decide) (X_p (p_move rfl rfl) ?_)
  refine L_yes rfl rfl rfl (by first | rfl | simp | decide) (X_p (p_move rfl rfl) ?_)
  refine L_yes rfl rfl rfl (by first | rfl | simp | decide) (X_p (p_idxo es79 rfl rfl rfl (by omega) (by omega)) ?_)
  refine L_yes rfl rfl rfl (by first | rfl | simp | decide) (X_rd (r_load ag43 rfl rfl (by repeat first | exact mH | apply mT | apply List.mem_append_right) rfl) ?_)
  refine L_yes rfl rfl rfl (by first | rfl | simp | decide) (X_wr (w_callP rfl rfl rfl (fun w hg => lgaps_c [] _ _ w (Grow.rows (els := ([] : List (Int × Int)).map gapC) hgr26 (by intro e he; obtain ⟨x, _, rfl⟩ := List.mem_map.1 he; rfl) rfl (fun p hp => hg.own p (by repeat first | exact hp | exact List.mem_append_left _ hp | apply List.mem_append_right | apply mT))) (SliceR.nil _ _) (by decide))) ?_)
  rintro _ _ ⟨rfl, rfl⟩
  refine L_yes rfl rfl rfl (by first | rfl | simp | decide) (X_p (p_not rfl rfl) ?_)
  refine L_go rfl (X_p (p_pick_f rfl rfl (by first | rfl | simp | decide) rfl) ?_)
  refine L_then (.cons (k := 1) rfl (.cons (k := 26) rfl (.cons (k := 27) rfl (.cons (k := 28) rfl (.cons (k := 285) rfl .nil))))) ?_
  refine V_cond_f rfl rfl ?_
  refine V_skip (blk_n (then_n ?_))
  refine V_region rfl ?_
  refine L_go rfl (X_p (p_move rfl rfl) ?_)
  first | refine L_go rfl (X_p (p_add' rfl rfl rfl (by unfold InI; omega)) ?_) | refine L_go rfl (X_p (p_add rfl rfl rfl) ?_)
  refine L_go rfl (X_p (p_assign rfl rfl) ?_)
  refine L_keep (.cons (k := 1) rfl (.cons (k := 26) rfl (.cons (k := 27) rfl (.cons (k := 28) rfl .nil)))) (then_n ?_)
  refine LU_step ?_
  refine V_seq ?_
  refine V_seq (V_region rfl ?_)
  refine L_go rfl (X_p (p_move rfl rfl) ?_)
  refine L_go rfl (X_p (p_lss rfl rfl rfl) ?_)
  refine L_then (.cons (k := 1) rfl (.cons (k := 26) rfl (.cons (k := 27) rfl (.cons (k := 28) rfl (.cons (k := 263) rfl .nil))))) ?_
  refine V_cond_f rfl rfl ?_
  refine V_exit (then_e (then_e (blk_e rfl (then_n ?_))))
  refine V_seq (V_region rfl ?_)
  refine L_go rfl (X_wr (w_callP rfl rfl rfl (fun w hg => awake_c w)) ?_)
  rintro _ _ ⟨rfl, rfl⟩
  refine L_go rfl (X_p (p_assign rfl rfl) ?_)
  refine L_then (.cons (k := 0) rfl .nil) ?_
  refine V_ret ?_
  refine Leave.nil (.tmp rfl .nil) ?_
  rfl

theorem own_ : ownKnob Try.prog.godebug = none := by kernel_rfl

theorem trackKnown_lifted (os : Os) (started : os.Started) (H : Type) (enc : TypeId × Value → H) :
    ReturnsInHanded {} Try.checked os 7 .any (Rows.trackKnownSpec.pre6 enc Try.prog Try.f7 Rows.trackKnownRow.domain false) (Rows.trackKnownSpec.post enc Try.prog Try.f7 false true false false) := by
  refine returnsInHanded_of_change (C := Try.checked) own_ started (by kernel_rfl) Try.func7
    (ChangeSpec.witness6 (enc := enc) (C := Try.checked) false ⟨#[], #[], []⟩ 8 (by kernel_rfl) (by kernel_rfl) (by kernel_rfl) (by kernel_rfl)) ?_
  intro W base args ds gs before hval0 hW hcnd _
  have hval : ∀ (j : Nat) t v, Try.f7.params[j]? = some t → args[j]? = some v → Value.okWide Try.prog W .any base t v := hval0
  have hW' := hW
  obtain ⟨pA, pB, hA0, hV, rfl, _, _⟩ := hW
  have hA : DataW.TrodAll enc Try.prog W 0 (fun _ => true) true Try.f7.params.toList args.toList ds pA := hA0
  clear hA0 hval0
  rw [Try.params7] at hA hval
  obtain ⟨rfl, rfl⟩ := trodVars_none hV
  obtain ⟨ea0, rfl, rfl⟩ := trodAll_nil hA
  have ea : args = #[] := Array.toList_inj.1 ea0
  subst ea
  
  refine (calls_of (trackKnown_c W)).mono ?_
  rintro _ W' ⟨_, rfl, rfl, hE⟩
  exact ⟨_, rfl, post_true hW' rfl hE (by kernel_rfl) (by kernel_rfl) rfl rfl rfl (by kernel_rfl) Try.underlying4⟩

theorem trackKnown_holds : Rows.TrackKnownSaid :=
  OpenClaim.holds_of_wide 7 Try.f7 rfl rfl rfl rfl rfl rfl rfl ⟨rfl, rfl, rfl, rfl, rfl⟩ rfl rfl rfl rfl rfl (by kernel_rfl) Try.func7 (by kernel_rfl)
    (of_decide_eq_true (by kernel_rfl)) (by unfold Func.isWrapper; first | (rw [if_pos (by decide +kernel)]; kernel_rfl) | (rw [if_neg (by decide +kernel)]; exact ⟨rfl, rfl⟩))
    (fun os started H enc _ => trackKnown_lifted os started H enc)
#print axioms trackKnown_holds

end Go.Proofs.Ytclbbchehjapjab
