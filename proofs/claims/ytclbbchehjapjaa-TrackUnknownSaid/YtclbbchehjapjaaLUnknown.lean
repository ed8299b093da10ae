/- Ytclbbchehjapjaa: TrackUnknown is proved: for any task, ticks and other place (no condition) it returns true. -/
import Derived.Test.YtclbbchehjapjaaRows
import Derived.Test.YtclbbchehjapjaaS1
import Derived.Test.YtclbbchehjapjaaT13
import Derived.Test.YtclbbchehjapjaaK
import Derived.Test.YtclbbchehjapjaaSc
import Derived.Test.YtclbbchehjapjaaS
import Derived.ProofKit
set_option linter.all false
namespace Go.Proofs.Ytclbbchehjapjaa
open Go.Vc Go.Tk Go.ChangeShapes Go.WideShapes Go.ChangeAt Go.RowKit
set_option maxRecDepth 100000
set_option maxHeartbeats 4000000 in
theorem lalike_c (t t' : Task) (tv pv tv' pv' : Value) (x0 x1 : Int) (hs : SameW t t' x0 x1) (w : World) (ht : TaskR w (.agg #[.int .i64 t.frm, .int .i64 t.speed, .int .i64 t.accel, tv, pv]) t) (ht' : TaskR w (.agg #[.int .i64 t'.frm, .int .i64 t'.speed, .int .i64 t'.accel, tv', pv']) t') : FnP Try.prog 29 [.agg #[.int .i64 t.frm, .int .i64 t.speed, .int .i64 t.accel, tv, pv], .agg #[.int .i64 t'.frm, .int .i64 t'.speed, .int .i64 t'.accel, tv', pv'], .int .i64 x0, .int .i64 x1] w (.bool true) := by
  refine fn_pure Try.func29 rfl (by kernel_rfl) Try.ntmps29 Try.results29 rfl ?_
  refine V_seq (V_region rfl ?_)
  refine L_go rfl (X_wr (w_box rfl rfl) ?_)
  rintro _ _ ⟨b1, hb1, rfl, rfl⟩
  refine L_go rfl (X_wr (w_box rfl rfl) ?_)
  rintro _ _ ⟨b2, hb2, rfl, rfl⟩
  refine L_go rfl (X_p (p_assign rfl rfl) ?_)
  refine L_then (.cons (k := 2) rfl (.cons (k := 3) rfl (.cons (k := 4) rfl (.cons (k := 5) rfl .nil)))) ?_
  refine V_seq (V_region rfl ?_)
  refine L_go rfl (X_rd (r_loadA (vs := [_, _, _, _, _]) ag25 sz25 rfl rfl (by repeat first | exact mH | apply mT) rfl) ?_)
  refine L_go rfl (X_p (p_move rfl rfl) ?_)
  refine L_go rfl (X_p (p_move rfl rfl) ?_)
  refine L_go rfl (X_wr (w_callP rfl rfl rfl (fun w hg => (show FnP _ _ _ w (.tuple #[.agg (Box.cells (whereP t x0 x1).1).toArray, .int .i64 (whereP t x0 x1).2]) from by have h1 := where_c t _ _ x0 x1 w (ht.good hg); rw [whereT_eq] at h1; exact h1))) ?_)
  rintro _ _ ⟨rfl, rfl⟩
  refine L_go rfl (X_p (p_move rfl rfl) ?_)
  refine L_go rfl (X_p (p_ext rfl rfl rfl) ?_)
  refine L_go rfl (X_p (p_ext rfl rfl rfl) ?_)
  refine L_go rfl (X_wr (w_alloc zr35 rfl) ?_)
  rintro _ _ ⟨b3, hb3, rfl, rfl⟩
  refine L_go rfl (X_wr (w_store (cs' := [_, _, _, _, _, _, _, _, _, _, _, _, _]) sz35 rfl rfl rfl rfl rfl (by repeat first | exact .head | apply SetAt.tail) (Nat.le_of_ble_eq_true rfl) rfl) ?_)
  rintro _ _ ⟨rfl, rfl⟩
  refine L_go rfl (X_p (p_assign rfl rfl) ?_)
  refine L_then (.cons (k := 2) rfl (.cons (k := 3) rfl (.cons (k := 4) rfl (.cons (k := 5) rfl (.cons (k := 9) rfl (.cons (k := 10) rfl .nil)))))) ?_
  refine V_seq (V_region rfl ?_)
  refine L_go rfl (X_rd (r_loadA (vs := [_, _, _, _, _]) ag25 sz25 rfl rfl (by repeat first | exact mH | apply mT) rfl) ?_)
  refine L_go rfl (X_p (p_move rfl rfl) ?_)
  refine L_go rfl (X_p (p_move rfl rfl) ?_)
  refine L_go rfl (X_wr (w_callP rfl rfl rfl (fun w hg => (show FnP _ _ _ w (.tuple #[.agg (Box.cells (whereP t x0 x1).1).toArray, .int .i64 (whereP t x0 x1).2]) from by have h1 := where_c t' _ _ x0 x1 w (ht'.good hg); rw [whereT_eq, hs.wher] at h1; exact h1))) ?_)
  rintro _ _ ⟨rfl, rfl⟩
  refine L_go rfl (X_p (p_move rfl rfl) ?_)
  refine L_go rfl (X_p (p_ext rfl rfl rfl) ?_)
  refine L_go rfl (X_p (p_ext rfl rfl rfl) ?_)
  refine L_go rfl (X_wr (w_alloc zr35 rfl) ?_)
  rintro _ _ ⟨b4, hb4, rfl, rfl⟩
  refine L_go rfl (X_wr (w_store (cs' := [_, _, _, _, _, _, _, _, _, _, _, _, _]) sz35 rfl rfl rfl rfl rfl (by repeat first | exact .head | apply SetAt.tail) (Nat.le_of_ble_eq_true rfl) rfl) ?_)
  rintro _ _ ⟨rfl, rfl⟩
  refine L_go rfl (X_p (p_assign rfl rfl) ?_)
  refine L_then (.cons (k := 2) rfl (.cons (k := 3) rfl (.cons (k := 4) rfl (.cons (k := 5) rfl (.cons (k := 9) rfl (.cons (k := 10) rfl (.cons (k := 11) rfl (.cons (k := 12) rfl .nil)))))))) ?_
  refine V_seq ?_
  refine V_seq (V_region rfl ?_)
  refine L_go rfl (X_rd (r_loadA (vs := [_, _, _, _, _, _, _, _, _, _, _, _, _]) ag35 sz35 rfl rfl (by repeat first | exact mH | apply mT) rfl) ?_)
  refine L_go rfl (X_rd (r_loadA (vs := [_, _, _, _, _, _, _, _, _, _, _, _, _]) ag35 sz35 rfl rfl (by repeat first | exact mH | apply mT) rfl) ?_)
  refine L_go rfl (X_p (p_neS lv35 ag35 eg35 rfl rfl rfl rfl rfl) ?_)
  refine L_go rfl (X_p (p_move rfl rfl) ?_)
  refine L_yes rfl rfl rfl (by first | rfl | (simp; done) | (simp [eqL, eqv, Box.cells]; done) | decide) (X_p (p_move rfl rfl) ?_)
  refine L_yes rfl rfl rfl (by first | rfl | (simp; done) | (simp [eqL, eqv, Box.cells]; done) | decide) (X_p (p_move rfl rfl) ?_)
  refine L_yes rfl rfl rfl (by first | rfl | (simp; done) | (simp [eqL, eqv, Box.cells]; done) | decide) (X_p (p_neq rfl rfl rfl) ?_)
  refine L_go rfl (X_p (p_pick_f rfl rfl (by first | rfl | (simp; done) | (simp [eqL, eqv, Box.cells]; done) | decide) rfl) ?_)
  refine L_then (.cons (k := 2) rfl (.cons (k := 3) rfl (.cons (k := 4) rfl (.cons (k := 5) rfl (.cons (k := 9) rfl (.cons (k := 11) rfl (.cons (k := 36) rfl .nil))))))) ?_
  refine V_cond_f rfl (by first | rfl | simp | decide) ?_
  refine V_skip (then_n ?_)
  refine V_seq (V_region rfl ?_)
  refine L_go rfl (X_rd (r_loadA (vs := [_, _, _, _, _]) ag25 sz25 rfl rfl (by repeat first | exact mH | apply mT) rfl) ?_)
  refine L_go rfl (X_p (p_move rfl rfl) ?_)
  refine L_go rfl (X_p (p_move rfl rfl) ?_)
  refine L_go rfl (X_wr (w_callP rfl rfl rfl (fun w hg => (show FnP _ _ _ w (.tuple #[.agg (Box.cells (spareP t x0 x1).1).toArray, .int .i64 (spareP t x0 x1).2]) from by have h1 := spareR_c t _ _ x0 x1 w (ht.good hg); rw [spareR_eq] at h1; exact h1))) ?_)
  rintro _ _ ⟨rfl, rfl⟩
  refine L_go rfl (X_p (p_move rfl rfl) ?_)
  refine L_go rfl (X_p (p_ext rfl rfl rfl) ?_)
  refine L_go rfl (X_p (p_ext rfl rfl rfl) ?_)
  refine L_go rfl (X_wr (w_store (cs' := [_, _, _, _, _, _, _, _, _, _, _, _, _]) sz35 rfl rfl rfl rfl rfl (by repeat first | exact .head | apply SetAt.tail) (Nat.le_of_ble_eq_true rfl) rfl) ?_)
  rintro _ _ ⟨rfl, rfl⟩
  refine L_go rfl (X_p (p_assign rfl rfl) ?_)
  refine L_then (.cons (k := 2) rfl (.cons (k := 3) rfl (.cons (k := 4) rfl (.cons (k := 5) rfl (.cons (k := 9) rfl (.cons (k := 10) rfl (.cons (k := 11) rfl .nil))))))) ?_
  refine V_seq (V_region rfl ?_)
  refine L_go rfl (X_rd (r_loadA (vs := [_, _, _, _, _]) ag25 sz25 rfl rfl (by repeat first | exact mH | apply mT) rfl) ?_)
  refine L_go rfl (X_p (p_move rfl rfl) ?_)
  refine L_go rfl (X_p (p_move rfl rfl) ?_)
  refine L_go rfl (X_wr (w_callP rfl rfl rfl (fun w hg => (show FnP _ _ _ w (.tuple #[.agg (Box.cells (spareP t x0 x1).1).toArray, .int .i64 (spareP t x0 x1).2]) from by have h1 := spareR_c t' _ _ x0 x1 w (ht'.good hg); rw [spareR_eq, hs.spare] at h1; exact h1))) ?_)
  rintro _ _ ⟨rfl, rfl⟩
  refine L_go rfl (X_p (p_move rfl rfl) ?_)
  refine L_go rfl (X_p (p_ext rfl rfl rfl) ?_)
  refine L_go rfl (X_p (p_ext rfl rfl rfl) ?_)
  refine L_go rfl (X_wr (w_store (cs' := [_, _, _, _, _, _, _, _, _, _, _, _, _]) sz35 rfl rfl rfl rfl rfl (by repeat first | exact .head | apply SetAt.tail) (Nat.le_of_ble_eq_true rfl) rfl) ?_)
  rintro _ _ ⟨rfl, rfl⟩
  refine L_go rfl (X_p (p_assign rfl rfl) ?_)
  refine L_then (.cons (k := 2) rfl (.cons (k := 3) rfl (.cons (k := 4) rfl (.cons (k := 5) rfl (.cons (k := 9) rfl (.cons (k := 10) rfl (.cons (k := 11) rfl (.cons (k := 12) rfl .nil)))))))) ?_
  refine V_seq ?_
  refine V_seq (V_region rfl ?_)
  refine L_go rfl (X_rd (r_loadA (vs := [_, _, _, _, _, _, _, _, _, _, _, _, _]) ag35 sz35 rfl rfl (by repeat first | exact mH | apply mT) rfl) ?_)
  refine L_go rfl (X_rd (r_loadA (vs := [_, _, _, _, _, _, _, _, _, _, _, _, _]) ag35 sz35 rfl rfl (by repeat first | exact mH | apply mT) rfl) ?_)
  refine L_go rfl (X_p (p_neS lv35 ag35 eg35 rfl rfl rfl rfl rfl) ?_)
  refine L_go rfl (X_p (p_move rfl rfl) ?_)
  refine L_yes rfl rfl rfl (by first | rfl | (simp; done) | (simp [eqL, eqv, Box.cells]; done) | decide) (X_p (p_move rfl rfl) ?_)
  refine L_yes rfl rfl rfl (by first | rfl | (simp; done) | (simp [eqL, eqv, Box.cells]; done) | decide) (X_p (p_move rfl rfl) ?_)
  refine L_yes rfl rfl rfl (by first | rfl | (simp; done) | (simp [eqL, eqv, Box.cells]; done) | decide) (X_p (p_neq rfl rfl rfl) ?_)
  refine L_go rfl (X_p (p_pick_f rfl rfl (by first | rfl | (simp; done) | (simp [eqL, eqv, Box.cells]; done) | decide) rfl) ?_)
  refine L_then (.cons (k := 2) rfl (.cons (k := 3) rfl (.cons (k := 4) rfl (.cons (k := 5) rfl (.cons (k := 58) rfl .nil))))) ?_
  refine V_cond_f rfl (by first | rfl | simp | decide) ?_
  refine V_skip (then_n ?_)
  refine V_seq (V_region rfl ?_)
  refine L_go rfl (X_rd (r_loadA (vs := [_, _, _, _, _]) ag25 sz25 rfl rfl (by repeat first | exact mH | apply mT) rfl) ?_)
  refine L_go rfl (X_p (p_move rfl rfl) ?_)
  refine L_go rfl (X_p (p_move rfl rfl) ?_)
  refine L_go rfl (X_wr (w_callP rfl rfl rfl (fun w hg => best_c t _ _ x0 x1 w (ht.good hg))) ?_)
  rintro _ _ ⟨rfl, rfl⟩
  refine L_go rfl (X_p (p_move rfl rfl) ?_)
  refine L_go rfl (X_p (p_ext rfl rfl rfl) ?_)
  refine L_go rfl (X_p (p_ext rfl rfl rfl) ?_)
  refine L_go rfl (X_p (p_assign rfl rfl) ?_)
  refine L_go rfl (X_p (p_assign rfl rfl) ?_)
  refine L_then (.cons (k := 2) rfl (.cons (k := 3) rfl (.cons (k := 5) rfl (.cons (k := 10) rfl (.cons (k := 13) rfl .nil))))) ?_
  refine V_seq (V_region rfl ?_)
  refine L_go rfl (X_rd (r_loadA (vs := [_, _, _, _, _]) ag25 sz25 rfl rfl (by repeat first | exact mH | apply mT) rfl) ?_)
  refine L_go rfl (X_p (p_move rfl rfl) ?_)
  refine L_go rfl (X_p (p_move rfl rfl) ?_)
  refine L_go rfl (X_wr (w_callP rfl rfl rfl (fun w hg => (show FnP _ _ _ w (.tuple #[.int .i64 (bestP t x0 x1).1, .int .i64 (bestP t x0 x1).2]) from by have h1 := best_c t' _ _ x0 x1 w (ht'.good hg); rw [hs.best] at h1; exact h1))) ?_)
  rintro _ _ ⟨rfl, rfl⟩
  refine L_go rfl (X_p (p_move rfl rfl) ?_)
  refine L_go rfl (X_p (p_ext rfl rfl rfl) ?_)
  refine L_go rfl (X_p (p_ext rfl rfl rfl) ?_)
  refine L_go rfl (X_p (p_assign rfl rfl) ?_)
  refine L_go rfl (X_p (p_assign rfl rfl) ?_)
  refine L_then (.cons (k := 10) rfl (.cons (k := 12) rfl (.cons (k := 13) rfl (.cons (k := 14) rfl .nil)))) ?_
  refine V_seq (V_region rfl ?_)
  refine L_go rfl (X_p (p_move rfl rfl) ?_)
  refine L_go rfl (X_p (p_move rfl rfl) ?_)
  refine L_go rfl (X_p (p_eql rfl rfl rfl) ?_)
  refine L_go rfl (X_p (p_move rfl rfl) ?_)
  refine L_yes rfl rfl rfl (by first | rfl | simp | decide) (X_p (p_move rfl rfl) ?_)
  refine L_yes rfl rfl rfl (by first | rfl | simp | decide) (X_p (p_move rfl rfl) ?_)
  refine L_yes rfl rfl rfl (by first | rfl | simp | decide) (X_p (p_eql rfl rfl rfl) ?_)
  refine L_go rfl (X_p (p_pick_t rfl rfl (by first | rfl | simp | decide) rfl) ?_)
  refine L_go rfl (X_p (p_assign rfl rfl) ?_)
  refine L_then (.cons (k := 8) rfl .nil) ?_
  refine V_ret ?_
  refine Leave.nil (.tmp rfl .nil) ?_
  show Value.bool _ = _
  first | rfl | simp
theorem unknownA (t : Task) (tv pv : Value) (x0 x1 o0 o1 o2 : Int) (h32 : (-2147483648 ≤ o0 ∧ o0 ≤ 2147483647) ∧ (-2147483648 ≤ o1 ∧ o1 ≤ 2147483647) ∧ (-2147483648 ≤ o2 ∧ o2 ≤ 2147483647)) (w : World) (ht : TaskR w (.agg #[.int .i64 t.frm, .int .i64 t.speed, .int .i64 t.accel, tv, pv]) t) (h : askedT t [x1] ≠ 0) : FnP Try.prog 8 [.agg #[.int .i64 t.frm, .int .i64 t.speed, .int .i64 t.accel, tv, pv], .agg #[.int .i64 x0, .int .i64 x1], .agg #[.int .i32 o0, .int .i32 o1, .int .i32 o2]] w (.bool true) := by
  have e1 := knownL_bad h
  have e2 : askedT t [x1] = askedT t [x1] := rfl
  have hF : ∀ w', TaskR w' (.agg #[.int .i64 t.frm, .int .i64 t.speed, .int .i64 t.accel, tv, pv]) t → FnC Try.prog 25 [.agg #[.int .i64 t.frm, .int .i64 t.speed, .int .i64 t.accel, tv, pv], .int .i64 x1] w' (fun v w'' => ∃ Hc, Vc.Good w' [] Hc w'' ∧ ∃ A G, Hc = A ++ G ∧ ListOut 3 ([]) (fun sv => .tuple #[sv, .int .i64 (askedT t [x1])]) v A G) := fun w' h => by
    have h1 := knownR_c t _ _ x1 w' h
    rw [e1, e2] at h1
    exact h1
  refine fn_pure Try.func8 rfl (by kernel_rfl) Try.ntmps8 Try.results8 rfl ?_
  refine V_seq (V_region rfl ?_)
  refine L_go rfl (X_wr (w_box rfl rfl) ?_)
  rintro _ _ ⟨b1, hb1, rfl, rfl⟩
  refine L_go rfl (X_wr (w_box rfl rfl) ?_)
  rintro _ _ ⟨b2, hb2, rfl, rfl⟩
  refine L_go rfl (X_wr (w_box rfl rfl) ?_)
  rintro _ _ ⟨b3, hb3, rfl, rfl⟩
  refine L_go rfl (X_p (p_assign rfl rfl) ?_)
  refine L_then (.cons (k := 3) rfl (.cons (k := 4) rfl (.cons (k := 5) rfl .nil))) ?_
  refine V_seq (V_region rfl ?_)
  refine L_go rfl (X_rd (r_loadA (vs := [_, _, _, _, _]) ag25 sz25 rfl rfl (by repeat first | exact mH | apply mT) rfl) ?_)
  refine L_go rfl (X_p (p_idxao ar31 rfl rfl rfl (by omega) (by omega)) ?_)
  refine L_go rfl (X_rd (r_load ag3 rfl rfl (by repeat first | exact mH | apply mT) rfl) ?_)
  refine L_go rfl (X_wr (w_callG (pre := [_, _, _]) rfl rfl rfl rfl (fun w hg => hF w (ht.good hg))) ?_)
  rintro _ _ ⟨_, G1, rfl, hfr1, sv1, rfl, rfl, hgr1⟩
  obtain ⟨sa1, sc1, rfl⟩ := Grow.form hgr1
  try simp only [List.cons_append, List.nil_append, List.append_nil]
  refine L_go rfl (X_p (p_move rfl rfl) ?_)
  refine L_go rfl (X_p (p_ext rfl rfl rfl) ?_)
  refine L_go rfl (X_p (p_ext rfl rfl rfl) ?_)
  refine L_go rfl (X_p (p_assign rfl rfl) ?_)
  refine L_go rfl (X_p (p_assign rfl rfl) ?_)
  refine L_then (.cons (k := 3) rfl (.cons (k := 4) rfl (.cons (k := 5) rfl (.cons (k := 7) rfl (.cons (k := 8) rfl .nil))))) ?_
  refine V_seq ?_
  refine V_seq (V_region rfl ?_)
  refine L_go rfl (X_p (p_move rfl rfl) ?_)
  refine L_go rfl (X_p (p_neq rfl rfl rfl) ?_)
  refine L_then (.cons (k := 3) rfl (.cons (k := 4) rfl (.cons (k := 5) rfl (.cons (k := 7) rfl (.cons (k := 22) rfl .nil))))) ?_
  refine V_cond_t rfl (by simp [h]) ?_
  refine V_seq (V_region rfl ?_)
  refine L_go rfl (X_p (p_move rfl rfl) ?_)
  refine L_go rfl (X_p (p_len isl57 rfl rfl) ?_)
  refine L_go rfl (X_p (p_eql rfl rfl rfl) ?_)
  refine L_go rfl (X_p (p_move rfl rfl) ?_)
  refine L_yes rfl rfl rfl (by simp) (X_wr (w_callP rfl rfl rfl (fun w hg => awake_c w)) ?_)
  rintro _ _ ⟨rfl, rfl⟩
  refine L_go rfl (X_p (p_pick_t rfl rfl (by simp) rfl) ?_)
  refine L_go rfl (X_p (p_assign rfl rfl) ?_)
  refine L_then (.cons (k := 6) rfl .nil) ?_
  refine V_ret (then_r ?_)
  refine Leave.nil (.tmp rfl .nil) ?_
  rfl
set_option maxHeartbeats 8000000 in
theorem unknownB (t : Task) (tv pv : Value) (x0 x1 o0 o1 o2 : Int) (h32 : (-2147483648 ≤ o0 ∧ o0 ≤ 2147483647) ∧ (-2147483648 ≤ o1 ∧ o1 ≤ 2147483647) ∧ (-2147483648 ≤ o2 ∧ o2 ≤ 2147483647)) (w : World) (ht : TaskR w (.agg #[.int .i64 t.frm, .int .i64 t.speed, .int .i64 t.accel, tv, pv]) t) (h : askedT t [x1] = 0) : FnP Try.prog 8 [.agg #[.int .i64 t.frm, .int .i64 t.speed, .int .i64 t.accel, tv, pv], .agg #[.int .i64 x0, .int .i64 x1], .agg #[.int .i32 o0, .int .i32 o1, .int .i32 o2]] w (.bool true) := by
  obtain ⟨hG, _⟩ := asked_zero h
  have e1 : knownL t x1 = (knownN t x1 t.plots.length) := by rw [knownL_ok h, byT_all]
  have e2 := h
  have hF : ∀ w', TaskR w' (.agg #[.int .i64 t.frm, .int .i64 t.speed, .int .i64 t.accel, tv, pv]) t → FnC Try.prog 25 [.agg #[.int .i64 t.frm, .int .i64 t.speed, .int .i64 t.accel, tv, pv], .int .i64 x1] w' (fun v w'' => ∃ Hc, Vc.Good w' [] Hc w'' ∧ ∃ A G, Hc = A ++ G ∧ ListOut 3 ((knownN t x1 t.plots.length)) (fun sv => .tuple #[sv, .int .i64 0]) v A G) := fun w' h => by
    have h1 := knownR_c t _ _ x1 w' h
    rw [e1, e2] at h1
    exact h1
  have hkn60 := knownN_len (t := t) (now := x1) t.plots.length
  have hT := ht
  obtain ⟨_, _, _, htr, hpl⟩ := ht.lit
  obtain ⟨ta, tc, rfl, htc, hte⟩ := htr.ex
  obtain ⟨pa, pc, rfl, hpc, hpe⟩ := hpl.ex
  have hpl60 := hG.h2
  simp only [List.length_map] at hT hpl hpc htc hF ⊢
  refine fn_pure Try.func8 rfl (by kernel_rfl) Try.ntmps8 Try.results8 rfl ?_
  refine V_seq (V_region rfl ?_)
  refine L_go rfl (X_wr (w_box rfl rfl) ?_)
  rintro _ _ ⟨b1, hb1, rfl, rfl⟩
  refine L_go rfl (X_wr (w_box rfl rfl) ?_)
  rintro _ _ ⟨b2, hb2, rfl, rfl⟩
  refine L_go rfl (X_wr (w_box rfl rfl) ?_)
  rintro _ _ ⟨b3, hb3, rfl, rfl⟩
  refine L_go rfl (X_p (p_assign rfl rfl) ?_)
  refine L_then (.cons (k := 3) rfl (.cons (k := 4) rfl (.cons (k := 5) rfl .nil))) ?_
  refine V_seq (V_region rfl ?_)
  refine L_go rfl (X_rd (r_loadA (vs := [_, _, _, _, _]) ag25 sz25 rfl rfl (by repeat first | exact mH | apply mT | apply List.mem_append_right) rfl) ?_)
  refine L_go rfl (X_p (p_idxao ar31 rfl rfl rfl (by omega) (by omega)) ?_)
  refine L_go rfl (X_rd (r_load ag3 rfl rfl (by repeat first | exact mH | apply mT | apply List.mem_append_right) rfl) ?_)
  refine L_go rfl (X_wr (w_callG (pre := [_, _, _]) rfl rfl rfl rfl (fun w hg => hF w (hT.good hg))) ?_)
  rintro _ _ ⟨_, G1, rfl, hfr1, sv1, rfl, rfl, hgr1⟩
  obtain ⟨sa1, sc1, rfl⟩ := Grow.form hgr1
  try simp only [List.cons_append, List.nil_append, List.append_nil]
  refine L_go rfl (X_p (p_move rfl rfl) ?_)
  refine L_go rfl (X_p (p_ext rfl rfl rfl) ?_)
  refine L_go rfl (X_p (p_ext rfl rfl rfl) ?_)
  refine L_go rfl (X_p (p_assign rfl rfl) ?_)
  refine L_go rfl (X_p (p_assign rfl rfl) ?_)
  refine L_then (.cons (k := 3) rfl (.cons (k := 4) rfl (.cons (k := 5) rfl (.cons (k := 7) rfl (.cons (k := 8) rfl .nil))))) ?_
  refine V_seq ?_
  refine V_seq (V_region rfl ?_)
  refine L_go rfl (X_p (p_move rfl rfl) ?_)
  refine L_go rfl (X_p (p_neq rfl rfl rfl) ?_)
  refine L_then (.cons (k := 3) rfl (.cons (k := 4) rfl (.cons (k := 5) rfl (.cons (k := 7) rfl (.cons (k := 22) rfl .nil))))) ?_
  refine V_cond_f rfl rfl ?_
  refine V_skip (then_n ?_)
  refine V_mid (γ := Nat × Nat) (.cons (k := 3) rfl (.cons (k := 4) rfl (.cons (k := 5) rfl (.cons (k := 7) rfl .nil)))) (fun (x5, x6) => [(9, .pointer (some ⟨x5, 0, none⟩)), (10, .pointer (some ⟨x6, 0, none⟩))]) (fun (x5, x6) => (x6, t.obj (.slice ta t.trackers.length tc) (.slice pa t.plots.length pc) 25) :: (x5, t.obj (.slice ta t.trackers.length tc) (.slice pa t.plots.length pc) 25) :: (b3, .cells #[.int .i32 o0, .int .i32 o1, .int .i32 o2] 62) :: (b2, .cells #[.int .i64 x0, .int .i64 x1] 31) :: (b1, t.obj (.slice ta t.trackers.length tc) (.slice pa t.plots.length pc) 25) :: G1) (fun (x5, x6) => True) ?_ ?_
  · refine V_draw (.rd 0 (.rd 1 (.wr2 2 [1, 0] (.wr 3 [1, 0] (.wr 4 [1] (.wr 5 [] .done))) 3 [1, 0] (.wr 2 [1, 0] (.wr 4 [1] (.wr 5 [] .done)))))) mixed (by kernel_rfl) rfl ?_
    refine D_rd rfl (.plain rfl) (r_loadA (vs := [_, _, _, _, _]) ag25 sz25 rfl rfl (by repeat first | exact mH | apply mT | apply List.mem_append_right) rfl) ?_
    refine D_rd rfl (.plain rfl) (r_loadA (vs := [_, _, _, _, _]) ag25 sz25 rfl rfl (by repeat first | exact mH | apply mT | apply List.mem_append_right) rfl) ?_
    refine D_wr2 rfl ?_ ?_
    · refine (.go (E' := [(1, _), (0, _)]) rfl (.plain rfl) (w_alloc zr25 rfl) rfl ?_)
      rintro _ _ ⟨b5, hb5, rfl, rfl⟩
      refine ⟨(.cons rfl (.plain rfl) (r_loadA (vs := [_, _, _, _, _]) ag25 sz25 rfl rfl (by repeat first | exact mH | apply mT | apply List.mem_append_right) rfl) (.cons rfl (.plain rfl) (r_loadA (vs := [_, _, _, _, _]) ag25 sz25 rfl rfl (by repeat first | exact mH | apply mT | apply List.mem_append_right) rfl) .nil)), ?_⟩
      refine D_wr (.go (E' := [(1, _), (0, _)]) rfl (.plain rfl) (w_alloc zr25 rfl) rfl ?_)
      rintro _ _ ⟨b6, hb6, rfl, rfl⟩
      refine ⟨(.cons rfl (.plain rfl) (r_loadA (vs := [_, _, _, _, _]) ag25 sz25 rfl rfl (by repeat first | exact mH | apply mT | apply List.mem_append_right) rfl) (.cons rfl (.plain rfl) (r_loadA (vs := [_, _, _, _, _]) ag25 sz25 rfl rfl (by repeat first | exact mH | apply mT | apply List.mem_append_right) rfl) .nil)), ?_⟩
      refine D_wr (.go (E' := [(1, _)]) rfl (.plain rfl) (w_store (cs' := [_, _, _, _, _]) sz25 rfl rfl rfl rfl rfl (by repeat first | exact .head | apply SetAt.tail) (Nat.le_of_ble_eq_true rfl) rfl) rfl ?_)
      rintro _ _ ⟨rfl, rfl⟩
      refine ⟨(.cons rfl (.plain rfl) (r_loadA (vs := [_, _, _, _, _]) ag25 sz25 rfl rfl (by repeat first | exact mH | apply mT | apply List.mem_append_right) rfl) .nil), ?_⟩
      refine D_wr (.go (E' := []) rfl (.plain rfl) (w_store (cs' := [_, _, _, _, _]) sz25 rfl rfl rfl rfl rfl (by repeat first | exact .head | apply SetAt.tail) (Nat.le_of_ble_eq_true rfl) rfl) rfl ?_)
      rintro _ _ ⟨rfl, rfl⟩
      refine ⟨.nil, ?_⟩
      refine D_then (.cons (k := 3) rfl (.cons (k := 4) rfl (.cons (k := 5) rfl (.cons (k := 7) rfl (.cons (k := 9) rfl (.cons (k := 10) rfl .nil)))))) ?_
      refine ⟨(b5, b6), trivial, (.cons rfl (.cons rfl (.cons rfl (.cons rfl (.cons rfl (.cons rfl (.nil _))))))), (by (try dsimp only); repeat (first | exact HSub.nil _ | refine HSub.take (by repeat first | exact Take.head | apply Take.tail) ?_ | exact HSub.refl _ | refine HSub.drop ?_ | refine HSub.app ?_)), rfl⟩
    · refine (.go (E' := [(1, _), (0, _)]) rfl (.plain rfl) (w_alloc zr25 rfl) rfl ?_)
      rintro _ _ ⟨b5, hb5, rfl, rfl⟩
      refine ⟨(.cons rfl (.plain rfl) (r_loadA (vs := [_, _, _, _, _]) ag25 sz25 rfl rfl (by repeat first | exact mH | apply mT | apply List.mem_append_right) rfl) (.cons rfl (.plain rfl) (r_loadA (vs := [_, _, _, _, _]) ag25 sz25 rfl rfl (by repeat first | exact mH | apply mT | apply List.mem_append_right) rfl) .nil)), ?_⟩
      refine D_wr (.go (E' := [(1, _), (0, _)]) rfl (.plain rfl) (w_alloc zr25 rfl) rfl ?_)
      rintro _ _ ⟨b6, hb6, rfl, rfl⟩
      refine ⟨(.cons rfl (.plain rfl) (r_loadA (vs := [_, _, _, _, _]) ag25 sz25 rfl rfl (by repeat first | exact mH | apply mT | apply List.mem_append_right) rfl) (.cons rfl (.plain rfl) (r_loadA (vs := [_, _, _, _, _]) ag25 sz25 rfl rfl (by repeat first | exact mH | apply mT | apply List.mem_append_right) rfl) .nil)), ?_⟩
      refine D_wr (.go (E' := [(1, _)]) rfl (.plain rfl) (w_store (cs' := [_, _, _, _, _]) sz25 rfl rfl rfl rfl rfl (by repeat first | exact .head | apply SetAt.tail) (Nat.le_of_ble_eq_true rfl) rfl) rfl ?_)
      rintro _ _ ⟨rfl, rfl⟩
      refine ⟨(.cons rfl (.plain rfl) (r_loadA (vs := [_, _, _, _, _]) ag25 sz25 rfl rfl (by repeat first | exact mH | apply mT | apply List.mem_append_right) rfl) .nil), ?_⟩
      refine D_wr (.go (E' := []) rfl (.plain rfl) (w_store (cs' := [_, _, _, _, _]) sz25 rfl rfl rfl rfl rfl (by repeat first | exact .head | apply SetAt.tail) (Nat.le_of_ble_eq_true rfl) rfl) rfl ?_)
      rintro _ _ ⟨rfl, rfl⟩
      refine ⟨.nil, ?_⟩
      refine D_then (.cons (k := 3) rfl (.cons (k := 4) rfl (.cons (k := 5) rfl (.cons (k := 7) rfl (.cons (k := 9) rfl (.cons (k := 10) rfl .nil)))))) ?_
      refine ⟨(b6, b5), trivial, (.cons rfl (.cons rfl (.cons rfl (.cons rfl (.cons rfl (.cons rfl (.nil _))))))), (by (try dsimp only); repeat (first | exact HSub.nil _ | refine HSub.take (by repeat first | exact Take.head | apply Take.tail) ?_ | exact HSub.refl _ | refine HSub.drop ?_ | refine HSub.app ?_)), rfl⟩
  · rintro ⟨x5, x6⟩ _
    refine V_seq (V_region rfl ?_)
    refine L_go rfl (X_wr (w_slice (r := []) un23 sz64 zr64 rfl (by decide) rfl (by decide) rfl rfl) ?_)
    rintro _ _ ⟨b5, hb5, rfl, rfl⟩
    refine L_go rfl (X_p (p_fieldo fo25_4 rfl rfl) ?_)
    refine L_go rfl (X_rd (r_load ag23 rfl rfl (by repeat first | exact mH | apply mT | apply List.mem_append_right) rfl) ?_)
    refine L_go rfl (X_wr (w_appT (pre := []) (G := [_]) ap23 rfl rfl rfl (Grow.row (cur := #[]) (by decide) (by decide) rfl rfl rfl) rfl (by rw [pl_flat_len]) (news_slice (els := t.plots.map Plot.cells) rfl hpl pl_len (by decide)) pl_one (by omega) (by simp only [maxLen]; omega)) ?_)
    rintro _ _ ⟨GSa, GSc, GS, rfl, rfl, hgs⟩
    try simp only [List.cons_append, List.nil_append, List.append_nil]
    simp only [Nat.zero_add] at hgs ⊢
    refine L_go rfl (X_p (p_fieldo fo25_4 rfl rfl) ?_)
    refine L_go rfl (X_wr (w_store (cs' := [_, _, _, _, _]) sz23 rfl rfl rfl rfl rfl (by repeat first | exact .head | apply SetAt.tail) (Nat.le_of_ble_eq_true rfl) rfl) ?_)
    rintro _ _ ⟨rfl, rfl⟩
    refine L_go rfl (X_p (p_fieldo fo25_4 rfl rfl) ?_)
    refine L_go rfl (X_wr (w_store (cs' := [_, _, _, _, _]) sz23 rfl rfl rfl rfl rfl (by repeat first | exact .head | apply SetAt.tail) (Nat.le_of_ble_eq_true rfl) rfl) ?_)
    rintro _ _ ⟨rfl, rfl⟩
    refine L_then (.cons (k := 3) rfl (.cons (k := 4) rfl (.cons (k := 5) rfl (.cons (k := 7) rfl (.cons (k := 9) rfl (.cons (k := 10) rfl .nil)))))) ?_
    refine V_seq ?_
    refine V_seq (V_region rfl ?_)
    refine L_go rfl (X_p (p_assign rfl rfl) ?_)
    refine L_then (.cons (k := 3) rfl (.cons (k := 4) rfl (.cons (k := 5) rfl (.cons (k := 7) rfl (.cons (k := 9) rfl (.cons (k := 10) rfl (.cons (k := 11) rfl .nil))))))) ?_
    refine V_block ?_
    refine V_loop1 (γ := Int × Nat × Option Addr × Nat × Heap × Heap) (.cons (k := 3) rfl (.cons (k := 4) rfl (.cons (k := 5) rfl (.cons (k := 7) rfl (.cons (k := 9) rfl (.cons (k := 10) rfl .nil)))))) (fun (k, n, la, lc, GL, GS) => [(11, .int .i64 k)]) (fun (k, n, la, lc, GL, GS) => (x6, t.obj (.slice ta t.trackers.length tc) (.slice GSa t.plots.length GSc) 25) :: (x5, t.obj (.slice ta t.trackers.length tc) (.slice la n lc) 25) :: (b3, .cells #[.int .i32 o0, .int .i32 o1, .int .i32 o2] 62) :: (b2, .cells #[.int .i64 x0, .int .i64 x1] 31) :: (b1, t.obj (.slice ta t.trackers.length tc) (.slice pa t.plots.length pc) 25) :: (GL ++ (G1 ++ GS))) (fun (k, n, la, lc, GL, GS) => 0 ≤ k ∧ k ≤ t.plots.length ∧ n = (lessL t x1 k.toNat).length ∧ Grow 64 5 (.slice la n lc) n ((lessL t x1 k.toNat).map Plot.cells).flatten GL ∧ Grow 64 5 (.slice GSa t.plots.length GSc) t.plots.length ((saidL t x1 (o0.tmod 2000000000) (o1.tmod 2000000000) (o2.tmod 2000000000) k.toNat).map Plot.cells).flatten GS) (fun (k, n, la, lc, GL, GS) => (t.plots.length - k).toNat) ((0, 0, none, 0, [], GS)) (.cons rfl (.nil _)) (by repeat (first | exact List.nil_sublist _ | exact List.Sublist.refl _ | apply List.Sublist.cons_cons | apply List.Sublist.cons)) (⟨by omega, by omega, rfl, .nil, by rw [show (0 : Int).toNat = 0 from rfl, saidL_zero]; exact hgs⟩) ?_
    rintro ⟨k, n, la, lc, GL, GS⟩ hi
    clear hgs
    obtain ⟨hk0, hk1, hln, hgl, hgs⟩ := hi
    have hll := lessL_len (t := t) (now := x1) k.toNat
    refine V_seq ?_
    refine V_seq (V_region rfl ?_)
    refine L_go rfl (X_p (p_move rfl rfl) ?_)
    refine L_go rfl (X_p (p_fieldo fo25_4 rfl rfl) ?_)
    refine L_go rfl (X_rd (r_load ag23 rfl rfl (by repeat first | exact mH | apply mT | apply List.mem_append_right) rfl) ?_)
    refine L_go rfl (X_p (p_len isl23 rfl rfl) ?_)
    refine L_go rfl (X_p (p_lss rfl rfl rfl) ?_)
    refine L_then (.cons (k := 3) rfl (.cons (k := 4) rfl (.cons (k := 5) rfl (.cons (k := 7) rfl (.cons (k := 9) rfl (.cons (k := 10) rfl (.cons (k := 11) rfl (.cons (k := 41) rfl .nil)))))))) ?_
    refine V_cond rfl ?_ ?_
    · intro c1; have c1r := c1; try simp only [td] at c1
      obtain ⟨gb, cur, rfl, rfl, hcur, hcs, hgn, hgm⟩ := Grow.form2 hgs (by omega)
      refine V_skip (then_n ?_)
      refine V_seq ?_
      refine V_block ?_
      refine V_seq (V_region rfl ?_)
      refine L_go rfl (X_p (p_assign rfl rfl) ?_)
      refine L_then (.cons (k := 3) rfl (.cons (k := 4) rfl (.cons (k := 5) rfl (.cons (k := 7) rfl (.cons (k := 9) rfl (.cons (k := 10) rfl (.cons (k := 11) rfl (.cons (k := 12) rfl .nil)))))))) ?_
      refine V_seq ?_
      refine V_seq (V_region rfl ?_)
      refine L_go rfl (X_p (p_assign rfl rfl) ?_)
      refine L_then (.cons (k := 3) rfl (.cons (k := 4) rfl (.cons (k := 5) rfl (.cons (k := 7) rfl (.cons (k := 9) rfl (.cons (k := 10) rfl (.cons (k := 11) rfl (.cons (k := 12) rfl (.cons (k := 13) rfl .nil))))))))) ?_
      refine V_block ?_
      refine V_loop1 (γ := Int × Bool) (.cons (k := 3) rfl (.cons (k := 4) rfl (.cons (k := 5) rfl (.cons (k := 7) rfl (.cons (k := 9) rfl (.cons (k := 10) rfl (.cons (k := 11) rfl .nil))))))) (fun (m, kn) => [(12, .bool kn), (13, .int .i64 m)]) (fun (m, kn) => (x6, t.obj (.slice ta t.trackers.length tc) (.slice (some ⟨gb, 0, none⟩) t.plots.length GSc) 25) :: (x5, t.obj (.slice ta t.trackers.length tc) (.slice la n lc) 25) :: (b3, .cells #[.int .i32 o0, .int .i32 o1, .int .i32 o2] 62) :: (b2, .cells #[.int .i64 x0, .int .i64 x1] 31) :: (b1, t.obj (.slice ta t.trackers.length tc) (.slice pa t.plots.length pc) 25) :: (GL ++ (G1 ++ [(gb, .cells cur 64)]))) (fun (m, kn) => 0 ≤ m ∧ m ≤ (knownN t x1 t.plots.length).length ∧ kn = ((knownN t x1 t.plots.length).take m.toNat).any fun i => decide (i = k)) (fun (m, kn) => ((knownN t x1 t.plots.length).length - m).toNat) ((0, false)) (.cons rfl (.cons rfl (.nil _))) (by repeat (first | exact List.nil_sublist _ | exact List.Sublist.refl _ | apply List.Sublist.cons_cons | apply List.Sublist.cons)) (⟨by omega, by omega, rfl⟩) ?_
      rintro ⟨m, kn⟩ hi
      obtain ⟨hm0, hm1, hkn⟩ := hi
      refine V_seq ?_
      refine V_seq (V_region rfl ?_)
      refine L_go rfl (X_p (p_move rfl rfl) ?_)
      refine L_go rfl (X_p (p_move rfl rfl) ?_)
      refine L_go rfl (X_p (p_len isl57 rfl rfl) ?_)
      refine L_go rfl (X_p (p_lss rfl rfl rfl) ?_)
      refine L_then (.cons (k := 3) rfl (.cons (k := 4) rfl (.cons (k := 5) rfl (.cons (k := 7) rfl (.cons (k := 9) rfl (.cons (k := 10) rfl (.cons (k := 11) rfl (.cons (k := 12) rfl (.cons (k := 13) rfl (.cons (k := 47) rfl .nil)))))))))) ?_
      refine V_cond rfl ?_ ?_
      · intro c2; have c2r := c2; try simp only [td] at c2
        obtain ⟨gb1, cur1, rfl, rfl, hcur1, hcs1, hgn1, hgm1⟩ := Grow.form2 hgr1 (by omega)
        refine V_skip (then_n ?_)
        refine V_seq ?_
        refine V_block ?_
        refine V_region rfl ?_
        refine L_go rfl (X_p (p_move rfl rfl) ?_)
        refine L_go rfl (X_p (p_move rfl rfl) ?_)
        refine L_cases (d := 51) rfl ?_ ?_
        · intro g1; have g1' := g1; try simp only [td] at g1'
          refine L_no rfl rfl rfl g1 ?_
          refine L_no rfl rfl rfl g1 ?_
          refine L_no rfl rfl rfl g1 ?_
          refine L_no rfl rfl rfl g1 ?_
          refine L_no rfl rfl rfl g1 ?_
          refine L_no rfl rfl rfl g1 ?_
          refine L_go rfl (X_p (p_pick_t rfl rfl g1 rfl) ?_)
          refine L_go rfl (X_p (p_assign rfl rfl) ?_)
          refine L_keep (.cons (k := 3) rfl (.cons (k := 4) rfl (.cons (k := 5) rfl (.cons (k := 7) rfl (.cons (k := 9) rfl (.cons (k := 10) rfl (.cons (k := 11) rfl (.cons (k := 12) rfl (.cons (k := 13) rfl .nil))))))))) (blk_n (then_n ?_))
          refine V_region rfl ?_
          refine L_go rfl (X_p (p_move rfl rfl) ?_)
          first | refine L_go rfl (X_p (p_add' rfl rfl rfl (by unfold InI; omega)) ?_) | refine L_go rfl (X_p (p_add rfl rfl rfl) ?_)
          refine L_go rfl (X_p (p_assign rfl rfl) ?_)
          refine L_keep (.cons (k := 3) rfl (.cons (k := 4) rfl (.cons (k := 5) rfl (.cons (k := 7) rfl (.cons (k := 9) rfl (.cons (k := 10) rfl (.cons (k := 11) rfl (.cons (k := 12) rfl (.cons (k := 13) rfl .nil))))))))) (then_n ?_)
          refine ⟨(m + 1, true), ?_, ?_, (.cons rfl (.cons rfl (.cons rfl (.cons rfl (.cons rfl (.cons rfl (.cons rfl (.cons rfl (.cons rfl (.nil _)))))))))), (by repeat (first | exact List.nil_sublist _ | exact List.Sublist.refl _ | apply List.Sublist.cons_cons | apply List.Sublist.cons | apply List.sublist_append_of_sublist_right)), rfl⟩
          · refine ⟨by omega, by omega, ?_⟩
            rw [any_snoc hm0 (by omega), ← hkn, g1', Bool.true_or]
          · dsimp only; omega
        · intro g1; have g1' := g1; try simp only [td] at g1'
          refine L_yes rfl rfl rfl g1 (X_p (p_move rfl rfl) ?_)
          refine L_yes rfl rfl rfl g1 (X_p (p_move rfl rfl) ?_)
          refine L_yes rfl rfl rfl g1 (X_p (p_idxo es57 rfl rfl rfl (by omega) (by omega)) ?_)
          refine L_yes rfl rfl rfl g1 (X_rd (r_load ag3 rfl rfl (by repeat first | exact mH | apply mT | apply List.mem_append_right) (v := .int .i64 ((knownN t x1 t.plots.length).getD m.toNat 0)) (cur_at hcur1 (ii_at (by omega) (by omega)))) ?_)
          refine L_yes rfl rfl rfl g1 (X_p (p_move rfl rfl) ?_)
          refine L_yes rfl rfl rfl g1 (X_p (p_eql rfl rfl rfl) ?_)
          refine L_go rfl (X_p (p_pick_f rfl rfl g1 rfl) ?_)
          refine L_go rfl (X_p (p_assign rfl rfl) ?_)
          refine L_keep (.cons (k := 3) rfl (.cons (k := 4) rfl (.cons (k := 5) rfl (.cons (k := 7) rfl (.cons (k := 9) rfl (.cons (k := 10) rfl (.cons (k := 11) rfl (.cons (k := 12) rfl (.cons (k := 13) rfl .nil))))))))) (blk_n (then_n ?_))
          refine V_region rfl ?_
          refine L_go rfl (X_p (p_move rfl rfl) ?_)
          first | refine L_go rfl (X_p (p_add' rfl rfl rfl (by unfold InI; omega)) ?_) | refine L_go rfl (X_p (p_add rfl rfl rfl) ?_)
          refine L_go rfl (X_p (p_assign rfl rfl) ?_)
          refine L_keep (.cons (k := 3) rfl (.cons (k := 4) rfl (.cons (k := 5) rfl (.cons (k := 7) rfl (.cons (k := 9) rfl (.cons (k := 10) rfl (.cons (k := 11) rfl (.cons (k := 12) rfl (.cons (k := 13) rfl .nil))))))))) (then_n ?_)
          refine ⟨(m + 1, decide ((knownN t x1 t.plots.length).getD m.toNat 0 = k)), ?_, ?_, (.cons rfl (.cons rfl (.cons rfl (.cons rfl (.cons rfl (.cons rfl (.cons rfl (.cons rfl (.cons rfl (.nil _)))))))))), (by repeat (first | exact List.nil_sublist _ | exact List.Sublist.refl _ | apply List.Sublist.cons_cons | apply List.Sublist.cons | apply List.sublist_append_of_sublist_right)), rfl⟩
          · refine ⟨by omega, by omega, ?_⟩
            rw [any_snoc hm0 (by omega), ← hkn, g1', Bool.false_or]
          · dsimp only; omega
      · intro c2; have c2r := c2; try simp only [td] at c2
        have hkb : kn = knownB t x1 k.toNat := by rw [hkn, List.take_of_length_le (by omega)]; exact known_any hk0 (by omega)
        refine V_exit (then_e (then_e (blk_e rfl (then_n ?_))))
        refine V_seq (V_region rfl ?_)
        refine L_go rfl (X_p (p_move rfl rfl) ?_)
        refine L_then (.cons (k := 3) rfl (.cons (k := 4) rfl (.cons (k := 5) rfl (.cons (k := 7) rfl (.cons (k := 9) rfl (.cons (k := 10) rfl (.cons (k := 11) rfl (.cons (k := 59) rfl .nil)))))))) ?_
        refine V_cond rfl ?_ ?_
        · intro c3; have c3r := c3; try simp only [td] at c3
          have hkt : knownB t x1 k.toNat = true := by rw [← hkb]; exact c3r
          obtain ⟨pb, rfl, hcp⟩ := hpe k.toNat _ (getD_cells (d := plZ) (by omega))
          refine V_draw (.rd 0 (.rd 1 (.rd 2 (.rd 3 (.rd 4 (.rd 5 (.rd 6 (.wr 7 [5, 4, 3, 2, 1, 0] (.wr 8 [6, 5, 4, 3, 2, 0] (.rd 9 (.wr 10 [] .done))))))))))) mixed (by kernel_rfl) rfl ?_
          refine D_p rfl (.plain rfl) (p_fieldo fo25_4 rfl rfl) ?_
          refine D_rd rfl (.plain rfl) (r_load ag23 rfl rfl (by repeat first | exact mH | apply mT | apply List.mem_append_right) rfl) ?_
          refine D_p rfl (.plain rfl) (p_fieldo fo25_4 rfl rfl) ?_
          refine D_rd rfl (.plain rfl) (r_load ag23 rfl rfl (by repeat first | exact mH | apply mT | apply List.mem_append_right) rfl) ?_
          refine D_p rfl (.plain rfl) (p_move rfl rfl) ?_
          refine D_p rfl (.plain rfl) (p_idx es23 rfl rfl rfl (by omega) (by omega)) ?_
          refine D_rd rfl (.plain rfl) (r_loadBA ag64 sz64 rfl rfl hcp rfl List.not_mem_nil) ?_
          refine D_wr (.go (E' := [(3, _), (1, _)]) rfl (.plain rfl) (w_slice (r := [_, _, _, _, _]) un23 sz64 zr64 rfl (by decide) rfl (by decide) rfl rfl) rfl ?_)
          rintro _ _ ⟨b6, hb6, rfl, rfl⟩
          refine ⟨(.cons rfl (.plain rfl) (r_load ag23 rfl rfl (by repeat first | exact mH | apply mT | apply List.mem_append_right) rfl) (.cons rfl (.plain rfl) (r_load ag23 rfl rfl (by repeat first | exact mH | apply mT | apply List.mem_append_right) rfl) .nil)), ?_⟩
          refine D_wr (.go (E' := [(3, _)]) rfl (.plain rfl) (w_app (pre := [_, _, _, _, _, _]) (G := GL) ap23 rfl rfl rfl hgl rfl rfl (news_own (by repeat first | exact mH | apply mT | apply List.mem_append_right)) (pl_one (l := [t.pl k.toNat])) (by omega) (by simp only [maxLen]; omega)) rfl ?_)
          rintro _ _ ⟨GL1a, GL1c, GL1, rfl, rfl, hgl1⟩
          try simp only [List.cons_append, List.nil_append, List.append_nil]
          refine ⟨(.cons rfl (.plain rfl) (r_load ag23 rfl rfl (by repeat first | exact mH | apply mT | apply List.mem_append_right) rfl) .nil), ?_⟩
          refine D_p rfl (.plain rfl) (p_fieldo fo25_4 rfl rfl) ?_
          refine D_wr (.go (E' := []) rfl (.plain rfl) (w_store (cs' := [_, _, _, _, _]) sz23 rfl rfl rfl rfl rfl (by repeat first | exact .head | apply SetAt.tail) (Nat.le_of_ble_eq_true rfl) rfl) rfl ?_)
          rintro _ _ ⟨rfl, rfl⟩
          refine ⟨.nil, ?_⟩
          refine D_keep (.cons (k := 3) rfl (.cons (k := 4) rfl (.cons (k := 5) rfl (.cons (k := 7) rfl (.cons (k := 9) rfl (.cons (k := 10) rfl (.cons (k := 11) rfl .nil))))))) (blk_n (then_n ?_))
          refine V_region rfl ?_
          refine L_go rfl (X_p (p_move rfl rfl) ?_)
          first | refine L_go rfl (X_p (p_add' rfl rfl rfl (by unfold InI; omega)) ?_) | refine L_go rfl (X_p (p_add rfl rfl rfl) ?_)
          refine L_go rfl (X_p (p_assign rfl rfl) ?_)
          refine L_keep (.cons (k := 3) rfl (.cons (k := 4) rfl (.cons (k := 5) rfl (.cons (k := 7) rfl (.cons (k := 9) rfl (.cons (k := 10) rfl (.cons (k := 11) rfl .nil))))))) (then_n ?_)
          refine ⟨(k + 1, n + 1, _, _, GL1, [(gb, .cells cur 64)]), ?_, ?_, (.cons rfl (.cons rfl (.cons rfl (.cons rfl (.cons rfl (.cons rfl (.cons rfl (.nil _)))))))), (by repeat (first | exact List.nil_sublist _ | exact List.Sublist.refl _ | apply List.Sublist.cons_cons | apply List.Sublist.cons | apply List.sublist_append_of_sublist_right)), rfl⟩
          · refine ⟨by omega, by omega, ?_, ?_, ?_⟩
            · rw [lessL_yes hk0 hkt, List.length_append, hln]; rfl
            · rw [lessL_yes hk0 hkt, List.map_append, List.flatten_append]; exact hgl1
            · rw [saidL_yes hk0 hkt]; exact .row hgn hgm hcs hcur (by rw [pl_flat_len, saidL_len])
          · dsimp only; omega
        · intro c3; have c3r := c3; try simp only [td] at c3
          have hkf : knownB t x1 k.toNat = false := by rw [← hkb]; exact c3r
          refine V_draw (.rd 0 (.rd 1 (.rd 2 (.rd 3 (.rd 4 (.rd 5 (.rd 6 (.rd 7 (.rd 8 (.rd 9 (.rd 10 (.rd 11 (.rd 12 (.rd 13 (.rd 14 (.rd 15 (.rd 16 (.rd 17 (.rd 18 (.rd 19 (.rd 20 (.rd 21 (.rd 22 (.wr 23 [21, 20, 19, 18, 17, 16, 15, 14, 13, 8, 7, 6, 5, 4, 3] (.rd 24 (.rd 25 (.wr 26 [24, 20, 19, 18, 17, 8, 7, 6] (.rd 27 (.rd 28 (.wr 29 [27] .done)))))))))))))))))))))))))))))) mixed (by kernel_rfl) rfl ?_
          refine D_p rfl (.plain rfl) (p_fieldo fo25_4 rfl rfl) ?_
          refine D_rd rfl (.plain rfl) (r_load ag23 rfl rfl (by repeat first | exact mH | apply mT | apply List.mem_append_right) rfl) ?_
          refine D_p rfl (.plain rfl) (p_move rfl rfl) ?_
          refine D_p rfl (.plain rfl) (p_fieldo fo25_4 rfl rfl) ?_
          refine D_rd rfl (.plain rfl) (r_load ag23 rfl rfl (by repeat first | exact mH | apply mT | apply List.mem_append_right) rfl) ?_
          refine D_p rfl (.plain rfl) (p_move rfl rfl) ?_
          refine D_p rfl (.plain rfl) (p_fieldo fo25_4 rfl rfl) ?_
          refine D_rd rfl (.plain rfl) (r_load ag23 rfl rfl (by repeat first | exact mH | apply mT | apply List.mem_append_right) rfl) ?_
          refine D_p rfl (.plain rfl) (p_move rfl rfl) ?_
          refine D_p rfl (.plain rfl) (p_idxao ar62 rfl rfl rfl (by omega) (by omega)) ?_
          refine D_rd rfl (.plain rfl) (r_load ag21 rfl rfl (by repeat first | exact mH | apply mT | apply List.mem_append_right) rfl) ?_
          refine D_p rfl (.plain rfl) (p_convI un21 un3 rfl rfl (by unfold InI; omega)) ?_
          refine D_p rfl (.plain rfl) (p_rem rfl rfl rfl (by first | decide | omega)) ?_
          refine D_p rfl (.plain rfl) (p_idxao ar62 rfl rfl rfl (by omega) (by omega)) ?_
          refine D_rd rfl (.plain rfl) (r_load ag21 rfl rfl (by repeat first | exact mH | apply mT | apply List.mem_append_right) rfl) ?_
          refine D_p rfl (.plain rfl) (p_convI un21 un3 rfl rfl (by unfold InI; omega)) ?_
          refine D_p rfl (.plain rfl) (p_rem rfl rfl rfl (by first | decide | omega)) ?_
          refine D_p rfl (.plain rfl) (p_idxao ar62 rfl rfl rfl (by omega) (by omega)) ?_
          refine D_rd rfl (.plain rfl) (r_load ag21 rfl rfl (by repeat first | exact mH | apply mT | apply List.mem_append_right) rfl) ?_
          refine D_p rfl (.plain rfl) (p_convI un21 un3 rfl rfl (by unfold InI; omega)) ?_
          refine D_p rfl (.plain rfl) (p_rem rfl rfl rfl (by first | decide | omega)) ?_
          refine D_p rfl (.plain rfl) (p_idxo es23 rfl rfl rfl (by omega) (by omega)) ?_
          refine D_p rfl (.plain rfl) (p_fieldo fo64_2 rfl rfl) ?_
          refine D_wr (.go (E' := [(18, _), (14, _), (7, _), (4, _)]) rfl (.plain rfl) (w_store (cs' := (cur.toList).set (0 + k.toNat * 5 + 2) (.int .i64 (o0.tmod 2000000000))) sz3 rfl rfl rfl rfl rfl (by repeat first | exact .head | apply SetAt.tail | apply SetAt.app) (by simp only [List.length_set, Array.length_toList, List.size_toArray, hcs]; omega) rfl) rfl ?_)
          rintro _ _ ⟨rfl, rfl⟩
          refine ⟨(.cons rfl (.plain rfl) (r_load ag21 rfl rfl (by repeat first | exact mH | apply mT | apply List.mem_append_right) rfl) (.cons rfl (.plain rfl) (r_load ag21 rfl rfl (by repeat first | exact mH | apply mT | apply List.mem_append_right) rfl) (.cons rfl (.plain rfl) (r_load ag23 rfl rfl (by repeat first | exact mH | apply mT | apply List.mem_append_right) rfl) (.cons rfl (.plain rfl) (r_load ag23 rfl rfl (by repeat first | exact mH | apply mT | apply List.mem_append_right) rfl) .nil)))), ?_⟩
          refine D_p rfl (.plain rfl) (p_idxo es23 rfl rfl rfl (by omega) (by omega)) ?_
          refine D_p rfl (.plain rfl) (p_fieldo fo64_3 rfl rfl) ?_
          refine D_wr (.go (E' := [(18, _), (7, _)]) rfl (.plain rfl) (w_store (cs' := ((cur.toList.set (0 + k.toNat * 5 + 2) (.int .i64 (o0.tmod 2000000000)))).set (0 + k.toNat * 5 + 3) (.int .i64 (o1.tmod 2000000000))) sz3 rfl rfl rfl rfl rfl (by repeat first | exact .head | apply SetAt.tail | apply SetAt.app) (by simp only [List.length_set, Array.length_toList, List.size_toArray, hcs]; omega) rfl) rfl ?_)
          rintro _ _ ⟨rfl, rfl⟩
          refine ⟨(.cons rfl (.plain rfl) (r_load ag21 rfl rfl (by repeat first | exact mH | apply mT | apply List.mem_append_right) rfl) (.cons rfl (.plain rfl) (r_load ag23 rfl rfl (by repeat first | exact mH | apply mT | apply List.mem_append_right) rfl) .nil)), ?_⟩
          refine D_p rfl (.plain rfl) (p_idxo es23 rfl rfl rfl (by omega) (by omega)) ?_
          refine D_p rfl (.plain rfl) (p_fieldo fo64_4 rfl rfl) ?_
          refine D_wr (.go (E' := []) rfl (.plain rfl) (w_store (cs' := (((cur.toList.set (0 + k.toNat * 5 + 2) (.int .i64 (o0.tmod 2000000000))).set (0 + k.toNat * 5 + 3) (.int .i64 (o1.tmod 2000000000)))).set (0 + k.toNat * 5 + 4) (.int .i64 (o2.tmod 2000000000))) sz3 rfl rfl rfl rfl rfl (by repeat first | exact .head | apply SetAt.tail | apply SetAt.app) (by simp only [List.length_set, Array.length_toList, List.size_toArray, hcs]; omega) rfl) rfl ?_)
          rintro _ _ ⟨rfl, rfl⟩
          refine ⟨.nil, ?_⟩
          refine D_keep (.cons (k := 3) rfl (.cons (k := 4) rfl (.cons (k := 5) rfl (.cons (k := 7) rfl (.cons (k := 9) rfl (.cons (k := 10) rfl (.cons (k := 11) rfl .nil))))))) (blk_n (then_n ?_))
          refine V_region rfl ?_
          refine L_go rfl (X_p (p_move rfl rfl) ?_)
          first | refine L_go rfl (X_p (p_add' rfl rfl rfl (by unfold InI; omega)) ?_) | refine L_go rfl (X_p (p_add rfl rfl rfl) ?_)
          refine L_go rfl (X_p (p_assign rfl rfl) ?_)
          refine L_keep (.cons (k := 3) rfl (.cons (k := 4) rfl (.cons (k := 5) rfl (.cons (k := 7) rfl (.cons (k := 9) rfl (.cons (k := 10) rfl (.cons (k := 11) rfl .nil))))))) (then_n ?_)
          refine ⟨(k + 1, n, la, lc, GL, [(gb, _)]), ?_, ?_, (.cons rfl (.cons rfl (.cons rfl (.cons rfl (.cons rfl (.cons rfl (.cons rfl (.nil _)))))))), (by repeat (first | exact List.nil_sublist _ | exact List.Sublist.refl _ | apply List.Sublist.cons_cons | apply List.Sublist.cons | apply List.sublist_append_of_sublist_right)), rfl⟩
          · obtain ⟨e1, e2⟩ := saidL_no (a := o0.tmod 2000000000) (b := o1.tmod 2000000000) (c := o2.tmod 2000000000) hk0 (by omega) hkf
            refine ⟨by omega, by omega, by rw [lessL_no hk0 hkf]; exact hln, by rw [lessL_no hk0 hkf]; exact hgl, ?_⟩
            have h3 := Grow.sets (el := 64) (b := gb) (i := k.toNat) (x := o0.tmod 2000000000) (y := o1.tmod 2000000000) (z := o2.tmod 2000000000) hgn hgm hcs hcur (saidL_len _).symm (by rw [saidL_len]; omega)
            rw [e2, ← e1] at h3
            exact h3
          · dsimp only; omega
    · intro c1; have c1r := c1; try simp only [td] at c1
      have ek : k.toNat = t.plots.length := by omega
      rw [ek] at hgl hgs hln
      refine V_exit (then_e (then_e (blk_e rfl (then_n ?_))))
      refine V_seq (V_region rfl ?_)
      refine L_go rfl (X_rd (r_loadA (vs := [_, _, _, _, _]) ag25 sz25 rfl rfl (by repeat first | exact mH | apply mT | apply List.mem_append_right) rfl) ?_)
      refine L_go rfl (X_rd (r_loadA (vs := [_, _, _, _, _]) ag25 sz25 rfl rfl (by repeat first | exact mH | apply mT | apply List.mem_append_right) rfl) ?_)
      refine L_go rfl (X_p (p_idxao ar31 rfl rfl rfl (by omega) (by omega)) ?_)
      refine L_go rfl (X_rd (r_load ag3 rfl rfl (by repeat first | exact mH | apply mT | apply List.mem_append_right) rfl) ?_)
      refine L_go rfl (X_p (p_idxao ar31 rfl rfl rfl (by omega) (by omega)) ?_)
      refine L_go rfl (X_rd (r_load ag3 rfl rfl (by repeat first | exact mH | apply mT | apply List.mem_append_right) rfl) ?_)
      refine L_go rfl (X_wr (w_callP rfl rfl rfl (fun w hg => lalike_c t (lessT t x1) _ _ _ _ x0 x1 (lessT_same hG x0) w (hT.good hg) (TaskR.withPlots (t := t) (hT.good hg) (Grow.rows (els := (lessT t x1).plots.map Plot.cells) hgl pl_len (by rw [List.length_map]; exact hln) (fun p hp => hg.own p (by repeat first | exact hp | exact List.mem_append_left _ hp | apply List.mem_append_right | apply mT))) (by show ((lessL t x1 t.plots.length).length : Int) ≤ _; have := lessL_len (t := t) (now := x1) t.plots.length; omega)))) ?_)
      rintro _ _ ⟨rfl, rfl⟩
      refine L_go rfl (X_p (p_move rfl rfl) ?_)
      refine L_yes rfl rfl rfl rfl (X_rd (r_loadA (vs := [_, _, _, _, _]) ag25 sz25 rfl rfl (by repeat first | exact mH | apply mT | apply List.mem_append_right) rfl) ?_)
      refine L_yes rfl rfl rfl rfl (X_rd (r_loadA (vs := [_, _, _, _, _]) ag25 sz25 rfl rfl (by repeat first | exact mH | apply mT | apply List.mem_append_right) rfl) ?_)
      refine L_yes rfl rfl rfl rfl (X_p (p_idxao ar31 rfl rfl rfl (by omega) (by omega)) ?_)
      refine L_yes rfl rfl rfl rfl (X_rd (r_load ag3 rfl rfl (by repeat first | exact mH | apply mT | apply List.mem_append_right) rfl) ?_)
      refine L_yes rfl rfl rfl rfl (X_p (p_idxao ar31 rfl rfl rfl (by omega) (by omega)) ?_)
      refine L_yes rfl rfl rfl rfl (X_rd (r_load ag3 rfl rfl (by repeat first | exact mH | apply mT | apply List.mem_append_right) rfl) ?_)
      refine L_yes rfl rfl rfl rfl (X_wr (w_callP rfl rfl rfl (fun w hg => lalike_c t (saidT t x1 (o0.tmod 2000000000) (o1.tmod 2000000000) (o2.tmod 2000000000)) _ _ _ _ x0 x1 (SayT.same (saidT_say hG (tmod_place o0) (tmod_place o1) (tmod_place o2)) hG x0) w (hT.good hg) (TaskR.withPlots (t := t) (hT.good hg) (Grow.rows (els := (saidT t x1 (o0.tmod 2000000000) (o1.tmod 2000000000) (o2.tmod 2000000000)).plots.map Plot.cells) hgs pl_len (by rw [List.length_map]; exact (saidL_len _).symm) (fun p hp => hg.own p (by repeat first | exact hp | exact List.mem_append_left _ hp | apply List.mem_append_right | apply mT))) (by show ((saidL t x1 (o0.tmod 2000000000) (o1.tmod 2000000000) (o2.tmod 2000000000) t.plots.length).length : Int) ≤ _; have := saidL_len (t := t) (now := x1) (a := o0.tmod 2000000000) (b := o1.tmod 2000000000) (c := o2.tmod 2000000000) t.plots.length; omega)))) ?_)
      rintro _ _ ⟨rfl, rfl⟩
      refine L_go rfl (X_p (p_pick_t rfl rfl rfl rfl) ?_)
      refine L_go rfl (X_p (p_move rfl rfl) ?_)
      refine L_yes rfl rfl rfl rfl (X_wr (w_callP rfl rfl rfl (fun w hg => awake_c w)) ?_)
      rintro _ _ ⟨rfl, rfl⟩
      refine L_go rfl (X_p (p_pick_t rfl rfl rfl rfl) ?_)
      refine L_go rfl (X_p (p_assign rfl rfl) ?_)
      refine L_then (.cons (k := 6) rfl .nil) ?_
      refine V_ret ?_
      refine Leave.nil (.tmp rfl .nil) ?_
      rfl
theorem trackUnknown_c (t : Task) (tv pv : Value) (x0 x1 o0 o1 o2 : Int) (h32 : (-2147483648 ≤ o0 ∧ o0 ≤ 2147483647) ∧ (-2147483648 ≤ o1 ∧ o1 ≤ 2147483647) ∧ (-2147483648 ≤ o2 ∧ o2 ≤ 2147483647)) (w : World) (ht : TaskR w (.agg #[.int .i64 t.frm, .int .i64 t.speed, .int .i64 t.accel, tv, pv]) t) : FnP Try.prog 8 [.agg #[.int .i64 t.frm, .int .i64 t.speed, .int .i64 t.accel, tv, pv], .agg #[.int .i64 x0, .int .i64 x1], .agg #[.int .i32 o0, .int .i32 o1, .int .i32 o2]] w (.bool true) := by
  by_cases h : askedT t [x1] = 0
  · exact unknownB t tv pv x0 x1 o0 o1 o2 h32 w ht h
  · exact unknownA t tv pv x0 x1 o0 o1 o2 h32 w ht h

theorem own_ : ownKnob Try.prog.godebug = none := by kernel_rfl

theorem trackUnknown_lifted (os : Os) (started : os.Started) (H : Type) (enc : TypeId × Value → H) :
    ReturnsInHanded {} Try.checked os 8 .any (Rows.trackUnknownSpec.pre6 enc Try.prog Try.f8 Rows.trackUnknownRow.domain false) (Rows.trackUnknownSpec.post enc Try.prog Try.f8 false true false false) := by
  refine returnsInHanded_of_change (C := Try.checked) own_ started (by kernel_rfl) Try.func8
    (ChangeSpec.witness6 (enc := enc) (C := Try.checked) false ⟨#[], #[.agg #[.int .i64 0, .int .i64 0, .int .i64 0, .slice none 0 0, .slice none 0 0], .agg #[.int .i64 0, .int .i64 0], .agg #[.int .i32 0, .int .i32 0, .int .i32 0]], []⟩ 8 (by kernel_rfl) (by kernel_rfl) (by kernel_rfl) (by kernel_rfl)) ?_
  intro W base args ds gs before hval0 hW hcnd _
  have hval : ∀ (j : Nat) t v, Try.f8.params[j]? = some t → args[j]? = some v → Value.okWide Try.prog W .any base t v := hval0
  have hW' := hW
  obtain ⟨pA, pB, hA0, hV, rfl, _, _⟩ := hW
  have hA : DataW.TrodAll enc Try.prog W 0 (fun _ => true) true Try.f8.params.toList args.toList ds pA := hA0
  clear hA0 hval0
  rw [Try.params8] at hA hval
  obtain ⟨rfl, rfl⟩ := trodVars_none hV
  obtain ⟨v0, vs0, d0, ds0, p0, q0, ea0, rfl, rfl, h0, hA0⟩ := trodAll_cons hA
  obtain ⟨v1, vs1, d1, ds1, p1, q1, ea1, rfl, rfl, h1, hA1⟩ := trodAll_cons hA0
  obtain ⟨v2, vs2, d2, ds2, p2, q2, ea2, rfl, rfl, h2, hA2⟩ := trodAll_cons hA1
  obtain ⟨rfl, rfl, rfl⟩ := trodAll_nil hA2
  subst ea2
  subst ea1
  have ea : args = #[v0, v1, v2] := Array.toList_inj.1 ea0
  subst ea
  have k0 := hval 0 _ v0 rfl rfl
  have k1 := hval 1 _ v1 rfl rfl
  have k2 := hval 2 _ v2 rfl rfl
  obtain ⟨T, tv, pv, rfl, hT⟩ := open_task (P := Try.prog) (by kernel_rfl) k0 h0
  obtain ⟨x0, x1, rfl⟩ := open_ints2 (P := Try.prog) (by kernel_rfl) k1 h1
  obtain ⟨o0, o1, o2, rfl, w0, w1, w2⟩ := open_3i32 (P := Try.prog) (by kernel_rfl) k2 h2
  refine (calls_of (trackUnknown_c T tv pv x0 x1 o0 o1 o2 ⟨i32_wf w0, i32_wf w1, i32_wf w2⟩ W hT)).mono ?_
  rintro _ W' ⟨_, rfl, rfl, hE⟩
  exact ⟨_, rfl, post_true hW' rfl hE (by kernel_rfl) (by kernel_rfl) rfl rfl rfl (by kernel_rfl) Try.underlying4⟩

theorem trackUnknown_holds : Rows.TrackUnknownSaid :=
  OpenClaim.holds_of_wide 8 Try.f8 rfl rfl rfl rfl rfl rfl rfl ⟨rfl, rfl, rfl, rfl, rfl⟩ rfl rfl rfl rfl rfl (by kernel_rfl) Try.func8 (by kernel_rfl)
    (of_decide_eq_true (by kernel_rfl)) (by unfold Func.isWrapper; first | (rw [if_pos (by decide +kernel)]; kernel_rfl) | (rw [if_neg (by decide +kernel)]; exact ⟨rfl, rfl⟩))
    (fun os started H enc _ => trackUnknown_lifted os started H enc)
#print axioms trackUnknown_holds

end Go.Proofs.Ytclbbchehjapjaa
