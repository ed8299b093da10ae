/- Ytclbbchehjapjaa: TrackBest is proved: for any task and ticks (no condition) it returns true. -/
import Derived.Test.YtclbbchehjapjaaRows
import Derived.Test.YtclbbchehjapjaaS1
import Derived.Test.YtclbbchehjapjaaS
import Derived.ProofKit
set_option linter.all false
namespace Go.Proofs.Ytclbbchehjapjaa
open Go.Vc Go.Tk Go.ChangeShapes Go.WideShapes Go.ChangeAt Go.RowKit
set_option maxRecDepth 100000
theorem bestA (t : Task) (tv pv : Value) (x0 x1 : Int) (w : World) (ht : TaskR w (.agg #[.int .i64 t.frm, .int .i64 t.speed, .int .i64 t.accel, tv, pv]) t) (h : (spareP t x0 x1).2 ≠ 0) : FnP Try.prog 13 [.agg #[.int .i64 t.frm, .int .i64 t.speed, .int .i64 t.accel, tv, pv], .agg #[.int .i64 x0, .int .i64 x1]] w (.bool true) := by
  refine fn_pure Try.func13 rfl (by kernel_rfl) Try.ntmps13 Try.results13 rfl ?_
  refine V_seq (V_region rfl ?_)
  refine L_go rfl (X_wr (w_box rfl rfl) ?_)
  rintro _ _ ⟨b1, hb1, rfl, rfl⟩
  refine L_go rfl (X_wr (w_box rfl rfl) ?_)
  rintro _ _ ⟨b2, hb2, rfl, rfl⟩
  refine L_go rfl (X_p (p_assign rfl rfl) ?_)
  refine L_then (.cons (k := 2) rfl (.cons (k := 3) rfl .nil)) ?_
  refine V_seq (V_region rfl ?_)
  refine L_go rfl (X_rd (r_loadA (vs := [_, _, _, _, _]) ag25 sz25 rfl rfl (by repeat first | exact mH | apply mT) rfl) ?_)
  refine L_go rfl (X_p (p_idxao ar31 rfl rfl rfl (by omega) (by omega)) ?_)
  refine L_go rfl (X_rd (r_load ag3 rfl rfl (by repeat first | exact mH | apply mT) rfl) ?_)
  refine L_go rfl (X_p (p_idxao ar31 rfl rfl rfl (by omega) (by omega)) ?_)
  refine L_go rfl (X_rd (r_load ag3 rfl rfl (by repeat first | exact mH | apply mT) rfl) ?_)
  refine L_go rfl (X_wr (w_callP rfl rfl rfl (fun w hg => (show FnP _ _ _ w (.tuple #[.int .i64 0, .int .i64 (spareP t x0 x1).2]) from by have h1 := best_c t _ _ x0 x1 w (ht.good hg); rw [bestP_1 h] at h1; exact h1))) ?_)
  rintro _ _ ⟨rfl, rfl⟩
  refine L_go rfl (X_p (p_move rfl rfl) ?_)
  refine L_go rfl (X_p (p_ext rfl rfl rfl) ?_)
  refine L_go rfl (X_p (p_ext rfl rfl rfl) ?_)
  refine L_go rfl (X_p (p_assign rfl rfl) ?_)
  refine L_go rfl (X_p (p_assign rfl rfl) ?_)
  refine L_then (.cons (k := 2) rfl (.cons (k := 3) rfl (.cons (k := 5) rfl (.cons (k := 6) rfl .nil)))) ?_
  refine V_seq (V_region rfl ?_)
  refine L_go rfl (X_rd (r_loadA (vs := [_, _, _, _, _]) ag25 sz25 rfl rfl (by repeat first | exact mH | apply mT) rfl) ?_)
  refine L_go rfl (X_p (p_idxao ar31 rfl rfl rfl (by omega) (by omega)) ?_)
  refine L_go rfl (X_rd (r_load ag3 rfl rfl (by repeat first | exact mH | apply mT) rfl) ?_)
  refine L_go rfl (X_p (p_idxao ar31 rfl rfl rfl (by omega) (by omega)) ?_)
  refine L_go rfl (X_rd (r_load ag3 rfl rfl (by repeat first | exact mH | apply mT) rfl) ?_)
  refine L_go rfl (X_wr (w_callP rfl rfl rfl (fun w hg => (show FnP _ _ _ w (.tuple #[.agg (Box.cells (spareP t x0 x1).1).toArray, .int .i64 (spareP t x0 x1).2]) from spareR_eq t x0 x1 ▸ spareR_c t _ _ x0 x1 w (ht.good hg)))) ?_)
  rintro _ _ ⟨rfl, rfl⟩
  refine L_go rfl (X_p (p_move rfl rfl) ?_)
  refine L_go rfl (X_p (p_ext rfl rfl rfl) ?_)
  refine L_go rfl (X_p (p_ext rfl rfl rfl) ?_)
  refine L_go rfl (X_wr (w_alloc zr35 rfl) ?_)
  rintro _ _ ⟨b3, hb3, rfl, rfl⟩
  refine L_go rfl (X_wr (w_store (cs' := [_, _, _, _, _, _, _, _, _, _, _, _, _]) sz35 rfl rfl rfl rfl rfl (by repeat first | exact .head | apply SetAt.tail) (Nat.le_of_ble_eq_true rfl) rfl) ?_)
  rintro _ _ ⟨rfl, rfl⟩
  refine L_go rfl (X_p (p_assign rfl rfl) ?_)
  refine L_then (.cons (k := 2) rfl (.cons (k := 3) rfl (.cons (k := 5) rfl (.cons (k := 6) rfl (.cons (k := 7) rfl (.cons (k := 8) rfl .nil)))))) ?_
  refine V_seq ?_
  refine V_seq (V_region rfl ?_)
  refine L_go rfl (X_p (p_move rfl rfl) ?_)
  refine L_go rfl (X_p (p_eql rfl rfl rfl) ?_)
  refine L_go rfl (X_p (p_move rfl rfl) ?_)
  refine L_no rfl rfl rfl (by simp [h]) ?_
  refine L_no rfl rfl rfl (by simp [h]) ?_
  refine L_go rfl (X_p (p_pick_f rfl rfl (by simp [h]) rfl) ?_)
  refine L_go rfl (X_p (p_move rfl rfl) ?_)
  refine L_yes rfl rfl rfl rfl (X_p (p_move rfl rfl) ?_)
  refine L_yes rfl rfl rfl rfl (X_p (p_eql rfl rfl rfl) ?_)
  refine L_yes rfl rfl rfl rfl (X_p (p_move rfl rfl) ?_)
  refine L_no rfl rfl rfl (by simp [h]) ?_
  refine L_no rfl rfl rfl (by simp [h]) ?_
  refine L_yes rfl rfl rfl rfl (X_p (p_pick_f rfl rfl (by simp [h]) rfl) ?_)
  refine L_yes rfl rfl rfl rfl (X_p (p_move rfl rfl) ?_)
  refine L_no rfl rfl rfl rfl ?_
  refine L_no rfl rfl rfl rfl ?_
  refine L_yes rfl rfl rfl rfl (X_p (p_pick_f rfl rfl rfl rfl) ?_)
  refine L_go rfl (X_p (p_pick_f rfl rfl rfl rfl) ?_)
  refine L_then (.cons (k := 2) rfl (.cons (k := 3) rfl (.cons (k := 5) rfl (.cons (k := 6) rfl (.cons (k := 7) rfl (.cons (k := 8) rfl (.cons (k := 49) rfl .nil))))))) ?_
  refine V_cond_f rfl rfl ?_
  refine V_skip (then_n ?_)
  refine V_seq ?_
  refine V_seq (V_region rfl ?_)
  refine L_go rfl (X_p (p_move rfl rfl) ?_)
  refine L_go rfl (X_p (p_neq rfl rfl rfl) ?_)
  refine L_then (.cons (k := 2) rfl (.cons (k := 3) rfl (.cons (k := 5) rfl (.cons (k := 6) rfl (.cons (k := 7) rfl (.cons (k := 51) rfl .nil)))))) ?_
  refine V_cond_t rfl (by simp [h]) ?_
  refine V_seq (V_region rfl ?_)
  refine L_go rfl (X_wr (w_callP rfl rfl rfl (fun w hg => awake_c w)) ?_)
  rintro _ _ ⟨rfl, rfl⟩
  refine L_go rfl (X_p (p_assign rfl rfl) ?_)
  refine L_then (.cons (k := 4) rfl .nil) ?_
  refine V_ret (then_r ?_)
  refine Leave.nil (.tmp rfl .nil) ?_
  rfl
set_option maxHeartbeats 8000000 in
theorem bestB (t : Task) (tv pv : Value) (x0 x1 : Int) (w : World) (ht : TaskR w (.agg #[.int .i64 t.frm, .int .i64 t.speed, .int .i64 t.accel, tv, pv]) t) (h : askedT t [x0, x1] = 0) (s : Box) (hs : spareT t x0 x1 = some s) (f0 l0 : Int) (hN0 : bestN t s x0 x1 t.trackers.length = (f0, l0)) (hf : f0 < 0) : FnP Try.prog 13 [.agg #[.int .i64 t.frm, .int .i64 t.speed, .int .i64 t.accel, tv, pv], .agg #[.int .i64 x0, .int .i64 x1]] w (.bool true) := by
  have hS := spareP_some h hs
  have hF : (spareP t x0 x1).2 = 0 := by rw [hS]
  have hN : bestN t (spareP t x0 x1).1 x0 x1 t.trackers.length = (f0, l0) := by rw [hS]; exact hN0
  obtain ⟨hG, hn0⟩ := asked_zero h
  have hu := hn0 x0 (.head _)
  have hT := ht
  obtain ⟨_, _, _, htr, hpl⟩ := ht.lit
  obtain ⟨ta, tc, rfl, htc, hte⟩ := htr.ex
  have htl := hG.h1
  simp only [List.length_map] at hT htc ⊢
  refine fn_pure Try.func13 rfl (by kernel_rfl) Try.ntmps13 Try.results13 rfl ?_
  refine V_seq (V_region rfl ?_)
  refine L_go rfl (X_wr (w_box rfl rfl) ?_)
  rintro _ _ ⟨b1, hb1, rfl, rfl⟩
  refine L_go rfl (X_wr (w_box rfl rfl) ?_)
  rintro _ _ ⟨b2, hb2, rfl, rfl⟩
  refine L_go rfl (X_p (p_assign rfl rfl) ?_)
  refine L_then (.cons (k := 2) rfl (.cons (k := 3) rfl .nil)) ?_
  refine V_seq (V_region rfl ?_)
  refine L_go rfl (X_rd (r_loadA (vs := [_, _, _, _, _]) ag25 sz25 rfl rfl (by repeat first | exact mH | apply mT) rfl) ?_)
  refine L_go rfl (X_p (p_idxao ar31 rfl rfl rfl (by omega) (by omega)) ?_)
  refine L_go rfl (X_rd (r_load ag3 rfl rfl (by repeat first | exact mH | apply mT) rfl) ?_)
  refine L_go rfl (X_p (p_idxao ar31 rfl rfl rfl (by omega) (by omega)) ?_)
  refine L_go rfl (X_rd (r_load ag3 rfl rfl (by repeat first | exact mH | apply mT) rfl) ?_)
  refine L_go rfl (X_wr (w_callP rfl rfl rfl (fun w hg => (show FnP _ _ _ w (.tuple #[.int .i64 0, .int .i64 4]) from by have h1 := best_c t _ _ x0 x1 w (hT.good hg); rw [bestP_2 hF hN hf] at h1; exact h1))) ?_)
  rintro _ _ ⟨rfl, rfl⟩
  refine L_go rfl (X_p (p_move rfl rfl) ?_)
  refine L_go rfl (X_p (p_ext rfl rfl rfl) ?_)
  refine L_go rfl (X_p (p_ext rfl rfl rfl) ?_)
  refine L_go rfl (X_p (p_assign rfl rfl) ?_)
  refine L_go rfl (X_p (p_assign rfl rfl) ?_)
  refine L_then (.cons (k := 2) rfl (.cons (k := 3) rfl (.cons (k := 5) rfl (.cons (k := 6) rfl .nil)))) ?_
  refine V_seq (V_region rfl ?_)
  refine L_go rfl (X_rd (r_loadA (vs := [_, _, _, _, _]) ag25 sz25 rfl rfl (by repeat first | exact mH | apply mT) rfl) ?_)
  refine L_go rfl (X_p (p_idxao ar31 rfl rfl rfl (by omega) (by omega)) ?_)
  refine L_go rfl (X_rd (r_load ag3 rfl rfl (by repeat first | exact mH | apply mT) rfl) ?_)
  refine L_go rfl (X_p (p_idxao ar31 rfl rfl rfl (by omega) (by omega)) ?_)
  refine L_go rfl (X_rd (r_load ag3 rfl rfl (by repeat first | exact mH | apply mT) rfl) ?_)
  refine L_go rfl (X_wr (w_callP rfl rfl rfl (fun w hg => (show FnP _ _ _ w (.tuple #[.agg (Box.cells s).toArray, .int .i64 0]) from by have h1 := spareR_c t _ _ x0 x1 w (hT.good hg); rw [spareR_eq, hS] at h1; exact h1))) ?_)
  rintro _ _ ⟨rfl, rfl⟩
  refine L_go rfl (X_p (p_move rfl rfl) ?_)
  refine L_go rfl (X_p (p_ext rfl rfl rfl) ?_)
  refine L_go rfl (X_p (p_ext rfl rfl rfl) ?_)
  refine L_go rfl (X_wr (w_alloc zr35 rfl) ?_)
  rintro _ _ ⟨b3, hb3, rfl, rfl⟩
  refine L_go rfl (X_wr (w_store (cs' := [_, _, _, _, _, _, _, _, _, _, _, _, _]) sz35 rfl rfl rfl rfl rfl (by repeat first | exact .head | apply SetAt.tail) (Nat.le_of_ble_eq_true rfl) rfl) ?_)
  rintro _ _ ⟨rfl, rfl⟩
  refine L_go rfl (X_p (p_assign rfl rfl) ?_)
  refine L_then (.cons (k := 2) rfl (.cons (k := 3) rfl (.cons (k := 5) rfl (.cons (k := 6) rfl (.cons (k := 7) rfl (.cons (k := 8) rfl .nil)))))) ?_
  refine V_seq ?_
  refine V_seq (V_region rfl ?_)
  refine L_go rfl (X_p (p_move rfl rfl) ?_)
  refine L_go rfl (X_p (p_eql rfl rfl rfl) ?_)
  refine L_go rfl (X_p (p_move rfl rfl) ?_)
  refine L_no rfl rfl rfl rfl ?_
  refine L_no rfl rfl rfl rfl ?_
  refine L_go rfl (X_p (p_pick_f rfl rfl rfl rfl) ?_)
  refine L_go rfl (X_p (p_move rfl rfl) ?_)
  refine L_yes rfl rfl rfl rfl (X_p (p_move rfl rfl) ?_)
  refine L_yes rfl rfl rfl rfl (X_p (p_eql rfl rfl rfl) ?_)
  refine L_yes rfl rfl rfl rfl (X_p (p_move rfl rfl) ?_)
  refine L_yes rfl rfl rfl rfl (X_p (p_move rfl rfl) ?_)
  refine L_yes rfl rfl rfl rfl (X_p (p_neq rfl rfl rfl) ?_)
  refine L_yes rfl rfl rfl rfl (X_p (p_pick_t rfl rfl rfl rfl) ?_)
  refine L_yes rfl rfl rfl rfl (X_p (p_move rfl rfl) ?_)
  refine L_yes rfl rfl rfl rfl (X_p (p_move rfl rfl) ?_)
  refine L_yes rfl rfl rfl rfl (X_p (p_neq rfl rfl rfl) ?_)
  refine L_yes rfl rfl rfl rfl (X_p (p_pick_t rfl rfl rfl rfl) ?_)
  refine L_go rfl (X_p (p_pick_f rfl rfl rfl rfl) ?_)
  refine L_then (.cons (k := 2) rfl (.cons (k := 3) rfl (.cons (k := 5) rfl (.cons (k := 6) rfl (.cons (k := 7) rfl (.cons (k := 8) rfl (.cons (k := 49) rfl .nil))))))) ?_
  refine V_cond_f rfl rfl ?_
  refine V_skip (then_n ?_)
  refine V_seq ?_
  refine V_seq (V_region rfl ?_)
  refine L_go rfl (X_p (p_move rfl rfl) ?_)
  refine L_go rfl (X_p (p_neq rfl rfl rfl) ?_)
  refine L_then (.cons (k := 2) rfl (.cons (k := 3) rfl (.cons (k := 5) rfl (.cons (k := 6) rfl (.cons (k := 7) rfl (.cons (k := 51) rfl .nil)))))) ?_
  refine V_cond_f rfl rfl ?_
  refine V_skip (then_n ?_)
  refine V_seq (V_region rfl ?_)
  refine L_go rfl (X_p (p_assign rfl rfl) ?_)
  refine L_go rfl (X_p (p_assign rfl rfl) ?_)
  refine L_then (.cons (k := 2) rfl (.cons (k := 3) rfl (.cons (k := 5) rfl (.cons (k := 6) rfl (.cons (k := 7) rfl (.cons (k := 9) rfl (.cons (k := 10) rfl .nil))))))) ?_
  refine V_seq ?_
  refine V_seq (V_region rfl ?_)
  refine L_go rfl (X_p (p_assign rfl rfl) ?_)
  refine L_then (.cons (k := 2) rfl (.cons (k := 3) rfl (.cons (k := 5) rfl (.cons (k := 6) rfl (.cons (k := 7) rfl (.cons (k := 9) rfl (.cons (k := 10) rfl (.cons (k := 11) rfl .nil)))))))) ?_
  refine V_block ?_
  refine V_loop1 (γ := Int × Int × Int) (.cons (k := 2) rfl (.cons (k := 3) rfl (.cons (k := 5) rfl (.cons (k := 6) rfl (.cons (k := 7) rfl .nil))))) (fun (k, l, f) => [(11, .int .i64 k), (9, .int .i64 l), (10, .int .i64 f)]) (fun (k, l, f) => (b3, .cells (Box.cells s).toArray 35) :: (b2, .cells #[.int .i64 x0, .int .i64 x1] 31) :: (b1, t.obj (.slice ta t.trackers.length tc) pv 25) :: []) (fun (k, l, f) => 0 ≤ k ∧ k ≤ t.trackers.length ∧ ∃ l2, bestN t s x0 x1 k.toNat = (f, l2) ∧ (f < 0 ∨ l = l2)) (fun (k, l, f) => (t.trackers.length - k).toNat) ((0, -1, -1)) (.cons rfl (.cons rfl (.cons rfl (.nil _)))) (by repeat (first | exact List.nil_sublist _ | exact List.Sublist.refl _ | apply List.Sublist.cons_cons | apply List.Sublist.cons)) (⟨by omega, by omega, 0, rfl, .inl (by decide)⟩) ?_
  rintro ⟨k, l, f⟩ hi
  obtain ⟨hk0, hk1, l2, hbn, hl⟩ := hi
  refine V_seq ?_
  refine V_seq (V_region rfl ?_)
  refine L_go rfl (X_p (p_move rfl rfl) ?_)
  refine L_go rfl (X_p (p_fieldo fo25_3 rfl rfl) ?_)
  refine L_go rfl (X_rd (r_load ag22 rfl rfl (by repeat first | exact mH | apply mT) rfl) ?_)
  refine L_go rfl (X_p (p_len isl22 rfl rfl) ?_)
  refine L_go rfl (X_p (p_lss rfl rfl rfl) ?_)
  refine L_then (.cons (k := 2) rfl (.cons (k := 3) rfl (.cons (k := 5) rfl (.cons (k := 6) rfl (.cons (k := 7) rfl (.cons (k := 9) rfl (.cons (k := 10) rfl (.cons (k := 11) rfl (.cons (k := 57) rfl .nil))))))))) ?_
  refine V_cond rfl ?_ ?_
  · intro c1; have c1r := c1; try simp only [td] at c1
    refine V_skip (then_n ?_)
    refine V_seq ?_
    refine V_block ?_
    refine V_seq (V_region rfl ?_)
    refine L_go rfl (X_rd (r_loadA (vs := [_, _, _, _, _]) ag25 sz25 rfl rfl (by repeat first | exact mH | apply mT) rfl) ?_)
    refine L_go rfl (X_p (p_move rfl rfl) ?_)
    refine L_go rfl (X_p (p_idxao ar31 rfl rfl rfl (by omega) (by omega)) ?_)
    refine L_go rfl (X_rd (r_load ag3 rfl rfl (by repeat first | exact mH | apply mT) rfl) ?_)
    refine L_go rfl (X_p (p_idxao ar31 rfl rfl rfl (by omega) (by omega)) ?_)
    refine L_go rfl (X_rd (r_load ag3 rfl rfl (by repeat first | exact mH | apply mT) rfl) ?_)
    refine L_go rfl (X_wr (w_callP rfl rfl rfl (fun w hg => (show FnP _ _ _ w (.tuple #[.agg (Box.cells ((ownT t x0 x1 k).getD boxZ)).toArray, .int .i64 (if (ownT t x0 x1 k).isSome then 0 else 9)]) from by have h1 := alone_c t _ _ k x0 x1 w (hT.good hg); rw [alone_none h ⟨hk0, by omega⟩] at h1; exact h1))) ?_)
    rintro _ _ ⟨rfl, rfl⟩
    refine L_go rfl (X_p (p_move rfl rfl) ?_)
    refine L_go rfl (X_p (p_ext rfl rfl rfl) ?_)
    refine L_go rfl (X_p (p_ext rfl rfl rfl) ?_)
    refine L_go rfl (X_wr (w_alloc zr35 rfl) ?_)
    rintro _ _ ⟨b4, hb4, rfl, rfl⟩
    refine L_go rfl (X_wr (w_store (cs' := [_, _, _, _, _, _, _, _, _, _, _, _, _]) sz35 rfl rfl rfl rfl rfl (by repeat first | exact .head | apply SetAt.tail) (Nat.le_of_ble_eq_true rfl) rfl) ?_)
    rintro _ _ ⟨rfl, rfl⟩
    refine L_go rfl (X_p (p_assign rfl rfl) ?_)
    refine L_then (.cons (k := 2) rfl (.cons (k := 3) rfl (.cons (k := 5) rfl (.cons (k := 6) rfl (.cons (k := 7) rfl (.cons (k := 9) rfl (.cons (k := 10) rfl (.cons (k := 11) rfl (.cons (k := 12) rfl (.cons (k := 13) rfl .nil)))))))))) ?_
    refine V_seq ?_
    refine V_seq (V_region rfl ?_)
    refine L_go rfl (X_p (p_move rfl rfl) ?_)
    refine L_go rfl (X_p (p_neq rfl rfl rfl) ?_)
    refine L_go rfl (X_p (p_move rfl rfl) ?_)
    refine L_cases (d := 72) rfl ?_ ?_
    · intro g1; have g1' := g1; try simp only [td] at g1'
      have hn := own9_t g1'
      refine L_no rfl rfl rfl g1 ?_
      refine L_no rfl rfl rfl g1 ?_
      refine L_no rfl rfl rfl g1 ?_
      refine L_no rfl rfl rfl g1 ?_
      refine L_no rfl rfl rfl g1 ?_
      refine L_no rfl rfl rfl g1 ?_
      refine L_go rfl (X_p (p_pick_t rfl rfl g1 rfl) ?_)
      refine L_go rfl (X_p (p_move rfl rfl) ?_)
      refine L_no rfl rfl rfl rfl ?_
      refine L_no rfl rfl rfl rfl ?_
      refine L_no rfl rfl rfl rfl ?_
      refine L_no rfl rfl rfl rfl ?_
      refine L_no rfl rfl rfl rfl ?_
      refine L_no rfl rfl rfl rfl ?_
      refine L_go rfl (X_p (p_pick_t rfl rfl rfl rfl) ?_)
      refine L_go rfl (X_p (p_move rfl rfl) ?_)
      refine L_no rfl rfl rfl rfl ?_
      refine L_no rfl rfl rfl rfl ?_
      refine L_no rfl rfl rfl rfl ?_
      refine L_no rfl rfl rfl rfl ?_
      refine L_no rfl rfl rfl rfl ?_
      refine L_no rfl rfl rfl rfl ?_
      refine L_go rfl (X_p (p_pick_t rfl rfl rfl rfl) ?_)
      refine L_go rfl (X_p (p_move rfl rfl) ?_)
      refine L_no rfl rfl rfl rfl ?_
      refine L_no rfl rfl rfl rfl ?_
      refine L_no rfl rfl rfl rfl ?_
      refine L_no rfl rfl rfl rfl ?_
      refine L_no rfl rfl rfl rfl ?_
      refine L_no rfl rfl rfl rfl ?_
      refine L_go rfl (X_p (p_pick_t rfl rfl rfl rfl) ?_)
      refine L_go rfl (X_p (p_move rfl rfl) ?_)
      refine L_no rfl rfl rfl rfl ?_
      refine L_no rfl rfl rfl rfl ?_
      refine L_no rfl rfl rfl rfl ?_
      refine L_no rfl rfl rfl rfl ?_
      refine L_no rfl rfl rfl rfl ?_
      refine L_no rfl rfl rfl rfl ?_
      refine L_go rfl (X_p (p_pick_t rfl rfl rfl rfl) ?_)
      refine L_go rfl (X_p (p_move rfl rfl) ?_)
      refine L_no rfl rfl rfl rfl ?_
      refine L_no rfl rfl rfl rfl ?_
      refine L_no rfl rfl rfl rfl ?_
      refine L_no rfl rfl rfl rfl ?_
      refine L_no rfl rfl rfl rfl ?_
      refine L_no rfl rfl rfl rfl ?_
      refine L_go rfl (X_p (p_pick_t rfl rfl rfl rfl) ?_)
      refine L_then (.cons (k := 2) rfl (.cons (k := 3) rfl (.cons (k := 5) rfl (.cons (k := 6) rfl (.cons (k := 7) rfl (.cons (k := 9) rfl (.cons (k := 10) rfl (.cons (k := 11) rfl (.cons (k := 12) rfl (.cons (k := 119) rfl .nil)))))))))) ?_
      refine V_cond_t rfl rfl ?_
      refine V_exit (then_e (blk_e rfl (then_n ?_)))
      refine V_region rfl ?_
      refine L_go rfl (X_p (p_move rfl rfl) ?_)
      first | refine L_go rfl (X_p (p_add' rfl rfl rfl (by unfold InI; omega)) ?_) | refine L_go rfl (X_p (p_add rfl rfl rfl) ?_)
      refine L_go rfl (X_p (p_assign rfl rfl) ?_)
      refine L_keep (.cons (k := 2) rfl (.cons (k := 3) rfl (.cons (k := 5) rfl (.cons (k := 6) rfl (.cons (k := 7) rfl (.cons (k := 9) rfl (.cons (k := 10) rfl (.cons (k := 11) rfl .nil)))))))) (then_n ?_)
      refine ⟨(k + 1, l, f), ?_, ?_, (.cons rfl (.cons rfl (.cons rfl (.cons rfl (.cons rfl (.cons rfl (.cons rfl (.cons rfl (.nil _))))))))), (by repeat (first | exact List.nil_sublist _ | exact List.Sublist.refl _ | apply List.Sublist.cons_cons | apply List.Sublist.cons | apply List.sublist_append_of_sublist_right)), rfl⟩
      · refine ⟨by omega, by omega, l2, ?_, hl⟩
        rw [bestN_succ hk0, hbn]
        exact bestStep_none hn
      · dsimp only; omega
    · intro g1; have g1' := g1; try simp only [td] at g1'
      have hsm := own9_f g1'
      refine L_yes rfl rfl rfl g1 (X_p (p_fieldo fo35_1 rfl rfl) ?_)
      refine L_yes rfl rfl rfl g1 (X_rd (r_loadA (vs := [_, _]) ag33 sz33 rfl rfl (by repeat first | exact mH | apply mT) rfl) ?_)
      refine L_yes rfl rfl rfl g1 (X_p (p_fieldo fo35_1 rfl rfl) ?_)
      refine L_yes rfl rfl rfl g1 (X_rd (r_loadA (vs := [_, _]) ag33 sz33 rfl rfl (by repeat first | exact mH | apply mT) rfl) ?_)
      refine L_yes rfl rfl rfl g1 (X_wr (w_callP rfl rfl rfl (fun w hg => lmeet_c ((ownT t x0 x1 k).getD boxZ).x s.x w)) ?_)
      rintro _ _ ⟨rfl, rfl⟩
      refine L_yes rfl rfl rfl g1 (X_p (p_not rfl rfl) ?_)
      refine L_go rfl (X_p (p_pick_f rfl rfl g1 rfl) ?_)
      refine L_go rfl (X_p (p_move rfl rfl) ?_)
      refine L_cases (d := 80) rfl ?_ ?_
      · intro g2; have g2' := g2; try simp only [td] at g2'
        refine L_no rfl rfl rfl g2 ?_
        refine L_no rfl rfl rfl g2 ?_
        refine L_no rfl rfl rfl g2 ?_
        refine L_no rfl rfl rfl g2 ?_
        refine L_no rfl rfl rfl g2 ?_
        refine L_no rfl rfl rfl g2 ?_
        refine L_go rfl (X_p (p_pick_t rfl rfl g2 rfl) ?_)
        refine L_go rfl (X_p (p_move rfl rfl) ?_)
        refine L_no rfl rfl rfl rfl ?_
        refine L_no rfl rfl rfl rfl ?_
        refine L_no rfl rfl rfl rfl ?_
        refine L_no rfl rfl rfl rfl ?_
        refine L_no rfl rfl rfl rfl ?_
        refine L_no rfl rfl rfl rfl ?_
        refine L_go rfl (X_p (p_pick_t rfl rfl rfl rfl) ?_)
        refine L_go rfl (X_p (p_move rfl rfl) ?_)
        refine L_no rfl rfl rfl rfl ?_
        refine L_no rfl rfl rfl rfl ?_
        refine L_no rfl rfl rfl rfl ?_
        refine L_no rfl rfl rfl rfl ?_
        refine L_no rfl rfl rfl rfl ?_
        refine L_no rfl rfl rfl rfl ?_
        refine L_go rfl (X_p (p_pick_t rfl rfl rfl rfl) ?_)
        refine L_go rfl (X_p (p_move rfl rfl) ?_)
        refine L_no rfl rfl rfl rfl ?_
        refine L_no rfl rfl rfl rfl ?_
        refine L_no rfl rfl rfl rfl ?_
        refine L_no rfl rfl rfl rfl ?_
        refine L_no rfl rfl rfl rfl ?_
        refine L_no rfl rfl rfl rfl ?_
        refine L_go rfl (X_p (p_pick_t rfl rfl rfl rfl) ?_)
        refine L_go rfl (X_p (p_move rfl rfl) ?_)
        refine L_no rfl rfl rfl rfl ?_
        refine L_no rfl rfl rfl rfl ?_
        refine L_no rfl rfl rfl rfl ?_
        refine L_no rfl rfl rfl rfl ?_
        refine L_no rfl rfl rfl rfl ?_
        refine L_no rfl rfl rfl rfl ?_
        refine L_go rfl (X_p (p_pick_t rfl rfl rfl rfl) ?_)
        refine L_then (.cons (k := 2) rfl (.cons (k := 3) rfl (.cons (k := 5) rfl (.cons (k := 6) rfl (.cons (k := 7) rfl (.cons (k := 9) rfl (.cons (k := 10) rfl (.cons (k := 11) rfl (.cons (k := 12) rfl (.cons (k := 119) rfl .nil)))))))))) ?_
        refine V_cond_t rfl rfl ?_
        refine V_exit (then_e (blk_e rfl (then_n ?_)))
        refine V_region rfl ?_
        refine L_go rfl (X_p (p_move rfl rfl) ?_)
        first | refine L_go rfl (X_p (p_add' rfl rfl rfl (by unfold InI; omega)) ?_) | refine L_go rfl (X_p (p_add rfl rfl rfl) ?_)
        refine L_go rfl (X_p (p_assign rfl rfl) ?_)
        refine L_keep (.cons (k := 2) rfl (.cons (k := 3) rfl (.cons (k := 5) rfl (.cons (k := 6) rfl (.cons (k := 7) rfl (.cons (k := 9) rfl (.cons (k := 10) rfl (.cons (k := 11) rfl .nil)))))))) (then_n ?_)
        refine ⟨(k + 1, l, f), ?_, ?_, (.cons rfl (.cons rfl (.cons rfl (.cons rfl (.cons rfl (.cons rfl (.cons rfl (.cons rfl (.nil _))))))))), (by repeat (first | exact List.nil_sublist _ | exact List.Sublist.refl _ | apply List.Sublist.cons_cons | apply List.Sublist.cons | apply List.sublist_append_of_sublist_right)), rfl⟩
        · refine ⟨by omega, by omega, l2, ?_, hl⟩
          rw [bestN_succ hk0, hbn]
          exact bestStep_no hsm (by rintro ⟨ha, _⟩; simp only [meetB, Bool.and_eq_true] at ha; simp_all)
        · dsimp only; omega
      · intro g2; have g2' := g2; try simp only [td] at g2'
        refine L_yes rfl rfl rfl g2 (X_p (p_fieldo fo35_2 rfl rfl) ?_)
        refine L_yes rfl rfl rfl g2 (X_rd (r_loadA (vs := [_, _]) ag33 sz33 rfl rfl (by repeat first | exact mH | apply mT) rfl) ?_)
        refine L_yes rfl rfl rfl g2 (X_p (p_fieldo fo35_2 rfl rfl) ?_)
        refine L_yes rfl rfl rfl g2 (X_rd (r_loadA (vs := [_, _]) ag33 sz33 rfl rfl (by repeat first | exact mH | apply mT) rfl) ?_)
        refine L_yes rfl rfl rfl g2 (X_wr (w_callP rfl rfl rfl (fun w hg => lmeet_c ((ownT t x0 x1 k).getD boxZ).y s.y w)) ?_)
        rintro _ _ ⟨rfl, rfl⟩
        refine L_yes rfl rfl rfl g2 (X_p (p_not rfl rfl) ?_)
        refine L_go rfl (X_p (p_pick_f rfl rfl g2 rfl) ?_)
        refine L_go rfl (X_p (p_move rfl rfl) ?_)
        refine L_cases (d := 88) rfl ?_ ?_
        · intro g3; have g3' := g3; try simp only [td] at g3'
          refine L_no rfl rfl rfl g3 ?_
          refine L_no rfl rfl rfl g3 ?_
          refine L_no rfl rfl rfl g3 ?_
          refine L_no rfl rfl rfl g3 ?_
          refine L_no rfl rfl rfl g3 ?_
          refine L_no rfl rfl rfl g3 ?_
          refine L_go rfl (X_p (p_pick_t rfl rfl g3 rfl) ?_)
          refine L_go rfl (X_p (p_move rfl rfl) ?_)
          refine L_no rfl rfl rfl rfl ?_
          refine L_no rfl rfl rfl rfl ?_
          refine L_no rfl rfl rfl rfl ?_
          refine L_no rfl rfl rfl rfl ?_
          refine L_no rfl rfl rfl rfl ?_
          refine L_no rfl rfl rfl rfl ?_
          refine L_go rfl (X_p (p_pick_t rfl rfl rfl rfl) ?_)
          refine L_go rfl (X_p (p_move rfl rfl) ?_)
          refine L_no rfl rfl rfl rfl ?_
          refine L_no rfl rfl rfl rfl ?_
          refine L_no rfl rfl rfl rfl ?_
          refine L_no rfl rfl rfl rfl ?_
          refine L_no rfl rfl rfl rfl ?_
          refine L_no rfl rfl rfl rfl ?_
          refine L_go rfl (X_p (p_pick_t rfl rfl rfl rfl) ?_)
          refine L_go rfl (X_p (p_move rfl rfl) ?_)
          refine L_no rfl rfl rfl rfl ?_
          refine L_no rfl rfl rfl rfl ?_
          refine L_no rfl rfl rfl rfl ?_
          refine L_no rfl rfl rfl rfl ?_
          refine L_no rfl rfl rfl rfl ?_
          refine L_no rfl rfl rfl rfl ?_
          refine L_go rfl (X_p (p_pick_t rfl rfl rfl rfl) ?_)
          refine L_then (.cons (k := 2) rfl (.cons (k := 3) rfl (.cons (k := 5) rfl (.cons (k := 6) rfl (.cons (k := 7) rfl (.cons (k := 9) rfl (.cons (k := 10) rfl (.cons (k := 11) rfl (.cons (k := 12) rfl (.cons (k := 119) rfl .nil)))))))))) ?_
          refine V_cond_t rfl rfl ?_
          refine V_exit (then_e (blk_e rfl (then_n ?_)))
          refine V_region rfl ?_
          refine L_go rfl (X_p (p_move rfl rfl) ?_)
          first | refine L_go rfl (X_p (p_add' rfl rfl rfl (by unfold InI; omega)) ?_) | refine L_go rfl (X_p (p_add rfl rfl rfl) ?_)
          refine L_go rfl (X_p (p_assign rfl rfl) ?_)
          refine L_keep (.cons (k := 2) rfl (.cons (k := 3) rfl (.cons (k := 5) rfl (.cons (k := 6) rfl (.cons (k := 7) rfl (.cons (k := 9) rfl (.cons (k := 10) rfl (.cons (k := 11) rfl .nil)))))))) (then_n ?_)
          refine ⟨(k + 1, l, f), ?_, ?_, (.cons rfl (.cons rfl (.cons rfl (.cons rfl (.cons rfl (.cons rfl (.cons rfl (.cons rfl (.nil _))))))))), (by repeat (first | exact List.nil_sublist _ | exact List.Sublist.refl _ | apply List.Sublist.cons_cons | apply List.Sublist.cons | apply List.sublist_append_of_sublist_right)), rfl⟩
          · refine ⟨by omega, by omega, l2, ?_, hl⟩
            rw [bestN_succ hk0, hbn]
            exact bestStep_no hsm (by rintro ⟨ha, _⟩; simp only [meetB, Bool.and_eq_true] at ha; simp_all)
          · dsimp only; omega
        · intro g3; have g3' := g3; try simp only [td] at g3'
          refine L_yes rfl rfl rfl g3 (X_p (p_fieldo fo35_3 rfl rfl) ?_)
          refine L_yes rfl rfl rfl g3 (X_rd (r_loadA (vs := [_, _]) ag33 sz33 rfl rfl (by repeat first | exact mH | apply mT) rfl) ?_)
          refine L_yes rfl rfl rfl g3 (X_p (p_fieldo fo35_3 rfl rfl) ?_)
          refine L_yes rfl rfl rfl g3 (X_rd (r_loadA (vs := [_, _]) ag33 sz33 rfl rfl (by repeat first | exact mH | apply mT) rfl) ?_)
          refine L_yes rfl rfl rfl g3 (X_wr (w_callP rfl rfl rfl (fun w hg => lmeet_c ((ownT t x0 x1 k).getD boxZ).z s.z w)) ?_)
          rintro _ _ ⟨rfl, rfl⟩
          refine L_yes rfl rfl rfl g3 (X_p (p_not rfl rfl) ?_)
          refine L_go rfl (X_p (p_pick_f rfl rfl g3 rfl) ?_)
          refine L_go rfl (X_p (p_move rfl rfl) ?_)
          refine L_cases (d := 96) rfl ?_ ?_
          · intro g4; have g4' := g4; try simp only [td] at g4'
            refine L_no rfl rfl rfl g4 ?_
            refine L_no rfl rfl rfl g4 ?_
            refine L_no rfl rfl rfl g4 ?_
            refine L_no rfl rfl rfl g4 ?_
            refine L_no rfl rfl rfl g4 ?_
            refine L_no rfl rfl rfl g4 ?_
            refine L_go rfl (X_p (p_pick_t rfl rfl g4 rfl) ?_)
            refine L_go rfl (X_p (p_move rfl rfl) ?_)
            refine L_no rfl rfl rfl rfl ?_
            refine L_no rfl rfl rfl rfl ?_
            refine L_no rfl rfl rfl rfl ?_
            refine L_no rfl rfl rfl rfl ?_
            refine L_no rfl rfl rfl rfl ?_
            refine L_no rfl rfl rfl rfl ?_
            refine L_go rfl (X_p (p_pick_t rfl rfl rfl rfl) ?_)
            refine L_go rfl (X_p (p_move rfl rfl) ?_)
            refine L_no rfl rfl rfl rfl ?_
            refine L_no rfl rfl rfl rfl ?_
            refine L_no rfl rfl rfl rfl ?_
            refine L_no rfl rfl rfl rfl ?_
            refine L_no rfl rfl rfl rfl ?_
            refine L_no rfl rfl rfl rfl ?_
            refine L_go rfl (X_p (p_pick_t rfl rfl rfl rfl) ?_)
            refine L_then (.cons (k := 2) rfl (.cons (k := 3) rfl (.cons (k := 5) rfl (.cons (k := 6) rfl (.cons (k := 7) rfl (.cons (k := 9) rfl (.cons (k := 10) rfl (.cons (k := 11) rfl (.cons (k := 12) rfl (.cons (k := 119) rfl .nil)))))))))) ?_
            refine V_cond_t rfl rfl ?_
            refine V_exit (then_e (blk_e rfl (then_n ?_)))
            refine V_region rfl ?_
            refine L_go rfl (X_p (p_move rfl rfl) ?_)
            first | refine L_go rfl (X_p (p_add' rfl rfl rfl (by unfold InI; omega)) ?_) | refine L_go rfl (X_p (p_add rfl rfl rfl) ?_)
            refine L_go rfl (X_p (p_assign rfl rfl) ?_)
            refine L_keep (.cons (k := 2) rfl (.cons (k := 3) rfl (.cons (k := 5) rfl (.cons (k := 6) rfl (.cons (k := 7) rfl (.cons (k := 9) rfl (.cons (k := 10) rfl (.cons (k := 11) rfl .nil)))))))) (then_n ?_)
            refine ⟨(k + 1, l, f), ?_, ?_, (.cons rfl (.cons rfl (.cons rfl (.cons rfl (.cons rfl (.cons rfl (.cons rfl (.cons rfl (.nil _))))))))), (by repeat (first | exact List.nil_sublist _ | exact List.Sublist.refl _ | apply List.Sublist.cons_cons | apply List.Sublist.cons | apply List.sublist_append_of_sublist_right)), rfl⟩
            · refine ⟨by omega, by omega, l2, ?_, hl⟩
              rw [bestN_succ hk0, hbn]
              exact bestStep_no hsm (by rintro ⟨ha, _⟩; simp only [meetB, Bool.and_eq_true] at ha; simp_all)
            · dsimp only; omega
          · intro g4; have g4' := g4; try simp only [td] at g4'
            refine L_yes rfl rfl rfl g4 (X_p (p_fieldo fo35_4 rfl rfl) ?_)
            refine L_yes rfl rfl rfl g4 (X_rd (r_loadA (vs := [_, _]) ag33 sz33 rfl rfl (by repeat first | exact mH | apply mT) rfl) ?_)
            refine L_yes rfl rfl rfl g4 (X_p (p_fieldo fo35_4 rfl rfl) ?_)
            refine L_yes rfl rfl rfl g4 (X_rd (r_loadA (vs := [_, _]) ag33 sz33 rfl rfl (by repeat first | exact mH | apply mT) rfl) ?_)
            refine L_yes rfl rfl rfl g4 (X_wr (w_callP rfl rfl rfl (fun w hg => lmeet_c ((ownT t x0 x1 k).getD boxZ).vx s.vx w)) ?_)
            rintro _ _ ⟨rfl, rfl⟩
            refine L_yes rfl rfl rfl g4 (X_p (p_not rfl rfl) ?_)
            refine L_go rfl (X_p (p_pick_f rfl rfl g4 rfl) ?_)
            refine L_go rfl (X_p (p_move rfl rfl) ?_)
            refine L_cases (d := 104) rfl ?_ ?_
            · intro g5; have g5' := g5; try simp only [td] at g5'
              refine L_no rfl rfl rfl g5 ?_
              refine L_no rfl rfl rfl g5 ?_
              refine L_no rfl rfl rfl g5 ?_
              refine L_no rfl rfl rfl g5 ?_
              refine L_no rfl rfl rfl g5 ?_
              refine L_no rfl rfl rfl g5 ?_
              refine L_go rfl (X_p (p_pick_t rfl rfl g5 rfl) ?_)
              refine L_go rfl (X_p (p_move rfl rfl) ?_)
              refine L_no rfl rfl rfl rfl ?_
              refine L_no rfl rfl rfl rfl ?_
              refine L_no rfl rfl rfl rfl ?_
              refine L_no rfl rfl rfl rfl ?_
              refine L_no rfl rfl rfl rfl ?_
              refine L_no rfl rfl rfl rfl ?_
              refine L_go rfl (X_p (p_pick_t rfl rfl rfl rfl) ?_)
              refine L_then (.cons (k := 2) rfl (.cons (k := 3) rfl (.cons (k := 5) rfl (.cons (k := 6) rfl (.cons (k := 7) rfl (.cons (k := 9) rfl (.cons (k := 10) rfl (.cons (k := 11) rfl (.cons (k := 12) rfl (.cons (k := 119) rfl .nil)))))))))) ?_
              refine V_cond_t rfl rfl ?_
              refine V_exit (then_e (blk_e rfl (then_n ?_)))
              refine V_region rfl ?_
              refine L_go rfl (X_p (p_move rfl rfl) ?_)
              first | refine L_go rfl (X_p (p_add' rfl rfl rfl (by unfold InI; omega)) ?_) | refine L_go rfl (X_p (p_add rfl rfl rfl) ?_)
              refine L_go rfl (X_p (p_assign rfl rfl) ?_)
              refine L_keep (.cons (k := 2) rfl (.cons (k := 3) rfl (.cons (k := 5) rfl (.cons (k := 6) rfl (.cons (k := 7) rfl (.cons (k := 9) rfl (.cons (k := 10) rfl (.cons (k := 11) rfl .nil)))))))) (then_n ?_)
              refine ⟨(k + 1, l, f), ?_, ?_, (.cons rfl (.cons rfl (.cons rfl (.cons rfl (.cons rfl (.cons rfl (.cons rfl (.cons rfl (.nil _))))))))), (by repeat (first | exact List.nil_sublist _ | exact List.Sublist.refl _ | apply List.Sublist.cons_cons | apply List.Sublist.cons | apply List.sublist_append_of_sublist_right)), rfl⟩
              · refine ⟨by omega, by omega, l2, ?_, hl⟩
                rw [bestN_succ hk0, hbn]
                exact bestStep_no hsm (by rintro ⟨ha, _⟩; simp only [meetB, Bool.and_eq_true] at ha; simp_all)
              · dsimp only; omega
            · intro g5; have g5' := g5; try simp only [td] at g5'
              refine L_yes rfl rfl rfl g5 (X_p (p_fieldo fo35_5 rfl rfl) ?_)
              refine L_yes rfl rfl rfl g5 (X_rd (r_loadA (vs := [_, _]) ag33 sz33 rfl rfl (by repeat first | exact mH | apply mT) rfl) ?_)
              refine L_yes rfl rfl rfl g5 (X_p (p_fieldo fo35_5 rfl rfl) ?_)
              refine L_yes rfl rfl rfl g5 (X_rd (r_loadA (vs := [_, _]) ag33 sz33 rfl rfl (by repeat first | exact mH | apply mT) rfl) ?_)
              refine L_yes rfl rfl rfl g5 (X_wr (w_callP rfl rfl rfl (fun w hg => lmeet_c ((ownT t x0 x1 k).getD boxZ).vy s.vy w)) ?_)
              rintro _ _ ⟨rfl, rfl⟩
              refine L_yes rfl rfl rfl g5 (X_p (p_not rfl rfl) ?_)
              refine L_go rfl (X_p (p_pick_f rfl rfl g5 rfl) ?_)
              refine L_go rfl (X_p (p_move rfl rfl) ?_)
              refine L_cases (d := 112) rfl ?_ ?_
              · intro g6; have g6' := g6; try simp only [td] at g6'
                refine L_no rfl rfl rfl g6 ?_
                refine L_no rfl rfl rfl g6 ?_
                refine L_no rfl rfl rfl g6 ?_
                refine L_no rfl rfl rfl g6 ?_
                refine L_no rfl rfl rfl g6 ?_
                refine L_no rfl rfl rfl g6 ?_
                refine L_go rfl (X_p (p_pick_t rfl rfl g6 rfl) ?_)
                refine L_then (.cons (k := 2) rfl (.cons (k := 3) rfl (.cons (k := 5) rfl (.cons (k := 6) rfl (.cons (k := 7) rfl (.cons (k := 9) rfl (.cons (k := 10) rfl (.cons (k := 11) rfl (.cons (k := 12) rfl (.cons (k := 119) rfl .nil)))))))))) ?_
                refine V_cond_t rfl rfl ?_
                refine V_exit (then_e (blk_e rfl (then_n ?_)))
                refine V_region rfl ?_
                refine L_go rfl (X_p (p_move rfl rfl) ?_)
                first | refine L_go rfl (X_p (p_add' rfl rfl rfl (by unfold InI; omega)) ?_) | refine L_go rfl (X_p (p_add rfl rfl rfl) ?_)
                refine L_go rfl (X_p (p_assign rfl rfl) ?_)
                refine L_keep (.cons (k := 2) rfl (.cons (k := 3) rfl (.cons (k := 5) rfl (.cons (k := 6) rfl (.cons (k := 7) rfl (.cons (k := 9) rfl (.cons (k := 10) rfl (.cons (k := 11) rfl .nil)))))))) (then_n ?_)
                refine ⟨(k + 1, l, f), ?_, ?_, (.cons rfl (.cons rfl (.cons rfl (.cons rfl (.cons rfl (.cons rfl (.cons rfl (.cons rfl (.nil _))))))))), (by repeat (first | exact List.nil_sublist _ | exact List.Sublist.refl _ | apply List.Sublist.cons_cons | apply List.Sublist.cons | apply List.sublist_append_of_sublist_right)), rfl⟩
                · refine ⟨by omega, by omega, l2, ?_, hl⟩
                  rw [bestN_succ hk0, hbn]
                  exact bestStep_no hsm (by rintro ⟨ha, _⟩; simp only [meetB, Bool.and_eq_true] at ha; simp_all)
                · dsimp only; omega
              · intro g6; have g6' := g6; try simp only [td] at g6'
                refine L_yes rfl rfl rfl g6 (X_p (p_fieldo fo35_6 rfl rfl) ?_)
                refine L_yes rfl rfl rfl g6 (X_rd (r_loadA (vs := [_, _]) ag33 sz33 rfl rfl (by repeat first | exact mH | apply mT) rfl) ?_)
                refine L_yes rfl rfl rfl g6 (X_p (p_fieldo fo35_6 rfl rfl) ?_)
                refine L_yes rfl rfl rfl g6 (X_rd (r_loadA (vs := [_, _]) ag33 sz33 rfl rfl (by repeat first | exact mH | apply mT) rfl) ?_)
                refine L_yes rfl rfl rfl g6 (X_wr (w_callP rfl rfl rfl (fun w hg => lmeet_c ((ownT t x0 x1 k).getD boxZ).vz s.vz w)) ?_)
                rintro _ _ ⟨rfl, rfl⟩
                refine L_yes rfl rfl rfl g6 (X_p (p_not rfl rfl) ?_)
                refine L_go rfl (X_p (p_pick_f rfl rfl g6 rfl) ?_)
                refine L_then (.cons (k := 2) rfl (.cons (k := 3) rfl (.cons (k := 5) rfl (.cons (k := 6) rfl (.cons (k := 7) rfl (.cons (k := 9) rfl (.cons (k := 10) rfl (.cons (k := 11) rfl (.cons (k := 12) rfl (.cons (k := 119) rfl .nil)))))))))) ?_
                refine V_cond rfl ?_ ?_
                · intro c2; have c2r := c2; try simp only [td] at c2
                  refine V_exit (then_e (blk_e rfl (then_n ?_)))
                  refine V_region rfl ?_
                  refine L_go rfl (X_p (p_move rfl rfl) ?_)
                  first | refine L_go rfl (X_p (p_add' rfl rfl rfl (by unfold InI; omega)) ?_) | refine L_go rfl (X_p (p_add rfl rfl rfl) ?_)
                  refine L_go rfl (X_p (p_assign rfl rfl) ?_)
                  refine L_keep (.cons (k := 2) rfl (.cons (k := 3) rfl (.cons (k := 5) rfl (.cons (k := 6) rfl (.cons (k := 7) rfl (.cons (k := 9) rfl (.cons (k := 10) rfl (.cons (k := 11) rfl .nil)))))))) (then_n ?_)
                  refine ⟨(k + 1, l, f), ?_, ?_, (.cons rfl (.cons rfl (.cons rfl (.cons rfl (.cons rfl (.cons rfl (.cons rfl (.cons rfl (.nil _))))))))), (by repeat (first | exact List.nil_sublist _ | exact List.Sublist.refl _ | apply List.Sublist.cons_cons | apply List.Sublist.cons | apply List.sublist_append_of_sublist_right)), rfl⟩
                  · refine ⟨by omega, by omega, l2, ?_, hl⟩
                    rw [bestN_succ hk0, hbn]
                    exact bestStep_no hsm (by rintro ⟨ha, _⟩; simp only [meetB, Bool.and_eq_true] at ha; simp_all)
                  · dsimp only; omega
                · intro c2; have c2r := c2; try simp only [td] at c2
                  refine V_skip (then_n ?_)
                  refine V_seq (V_region rfl ?_)
                  refine L_go rfl (X_p (p_move rfl rfl) ?_)
                  refine L_go rfl (X_p (p_lss rfl rfl rfl) ?_)
                  refine L_go rfl (X_p (p_move rfl rfl) ?_)
                  refine L_cases (d := 122) rfl ?_ ?_
                  · intro g7; have g7' := g7; try simp only [td] at g7'
                    refine L_no rfl rfl rfl g7 ?_
                    refine L_no rfl rfl rfl g7 ?_
                    refine L_no rfl rfl rfl g7 ?_
                    refine L_no rfl rfl rfl g7 ?_
                    refine L_go rfl (X_p (p_pick_t rfl rfl g7 rfl) ?_)
                    refine L_then (.cons (k := 2) rfl (.cons (k := 3) rfl (.cons (k := 5) rfl (.cons (k := 6) rfl (.cons (k := 7) rfl (.cons (k := 9) rfl (.cons (k := 10) rfl (.cons (k := 11) rfl (.cons (k := 12) rfl (.cons (k := 127) rfl .nil)))))))))) ?_
                    refine V_cond_t rfl rfl ?_
                    refine V_region rfl ?_
                    refine L_go rfl (X_rd (r_loadA (vs := [_, _, _, _, _, _, _, _, _, _, _, _, _]) ag35 sz35 rfl rfl (by repeat first | exact mH | apply mT) rfl) ?_)
                    refine L_go rfl (X_wr (w_callP rfl rfl rfl (fun w hg => lwide_c ((ownT t x0 x1 k).getD boxZ) (ownT_bnd hG hu.2 hsm) w)) ?_)
                    rintro _ _ ⟨rfl, rfl⟩
                    refine L_go rfl (X_p (p_move rfl rfl) ?_)
                    refine L_go rfl (X_p (p_assign rfl rfl) ?_)
                    refine L_go rfl (X_p (p_assign rfl rfl) ?_)
                    refine L_keep (.cons (k := 2) rfl (.cons (k := 3) rfl (.cons (k := 5) rfl (.cons (k := 6) rfl (.cons (k := 7) rfl (.cons (k := 9) rfl (.cons (k := 10) rfl (.cons (k := 11) rfl .nil)))))))) (blk_n (then_n ?_))
                    refine V_region rfl ?_
                    refine L_go rfl (X_p (p_move rfl rfl) ?_)
                    first | refine L_go rfl (X_p (p_add' rfl rfl rfl (by unfold InI; omega)) ?_) | refine L_go rfl (X_p (p_add rfl rfl rfl) ?_)
                    refine L_go rfl (X_p (p_assign rfl rfl) ?_)
                    refine L_keep (.cons (k := 2) rfl (.cons (k := 3) rfl (.cons (k := 5) rfl (.cons (k := 6) rfl (.cons (k := 7) rfl (.cons (k := 9) rfl (.cons (k := 10) rfl (.cons (k := 11) rfl .nil)))))))) (then_n ?_)
                    refine ⟨(k + 1, wideB ((ownT t x0 x1 k).getD boxZ), k), ?_, ?_, (.cons rfl (.cons rfl (.cons rfl (.cons rfl (.cons rfl (.cons rfl (.cons rfl (.cons rfl (.nil _))))))))), (by repeat (first | exact List.nil_sublist _ | exact List.Sublist.refl _ | apply List.Sublist.cons_cons | apply List.Sublist.cons | apply List.sublist_append_of_sublist_right)), rfl⟩
                    · refine ⟨by omega, by omega, wideB ((ownT t x0 x1 k).getD boxZ), ?_, .inr rfl⟩
                      rw [bestN_succ hk0, hbn]
                      exact bestStep_yes hsm (by simp only [meetB, Bool.and_eq_true]; simp_all) (by omega)
                    · dsimp only; omega
                  · intro g7; have g7' := g7; try simp only [td] at g7'
                    refine L_yes rfl rfl rfl g7 (X_rd (r_loadA (vs := [_, _, _, _, _, _, _, _, _, _, _, _, _]) ag35 sz35 rfl rfl (by repeat first | exact mH | apply mT) rfl) ?_)
                    refine L_yes rfl rfl rfl g7 (X_wr (w_callP rfl rfl rfl (fun w hg => lwide_c ((ownT t x0 x1 k).getD boxZ) (ownT_bnd hG hu.2 hsm) w)) ?_)
                    rintro _ _ ⟨rfl, rfl⟩
                    refine L_yes rfl rfl rfl g7 (X_p (p_move rfl rfl) ?_)
                    refine L_yes rfl rfl rfl g7 (X_p (p_lss rfl rfl rfl) ?_)
                    refine L_go rfl (X_p (p_pick_f rfl rfl g7 rfl) ?_)
                    refine L_then (.cons (k := 2) rfl (.cons (k := 3) rfl (.cons (k := 5) rfl (.cons (k := 6) rfl (.cons (k := 7) rfl (.cons (k := 9) rfl (.cons (k := 10) rfl (.cons (k := 11) rfl (.cons (k := 12) rfl (.cons (k := 127) rfl .nil)))))))))) ?_
                    refine V_cond rfl ?_ ?_
                    · intro c3; have c3r := c3; try simp only [td] at c3
                      refine V_region rfl ?_
                      refine L_go rfl (X_rd (r_loadA (vs := [_, _, _, _, _, _, _, _, _, _, _, _, _]) ag35 sz35 rfl rfl (by repeat first | exact mH | apply mT) rfl) ?_)
                      refine L_go rfl (X_wr (w_callP rfl rfl rfl (fun w hg => lwide_c ((ownT t x0 x1 k).getD boxZ) (ownT_bnd hG hu.2 hsm) w)) ?_)
                      rintro _ _ ⟨rfl, rfl⟩
                      refine L_go rfl (X_p (p_move rfl rfl) ?_)
                      refine L_go rfl (X_p (p_assign rfl rfl) ?_)
                      refine L_go rfl (X_p (p_assign rfl rfl) ?_)
                      refine L_keep (.cons (k := 2) rfl (.cons (k := 3) rfl (.cons (k := 5) rfl (.cons (k := 6) rfl (.cons (k := 7) rfl (.cons (k := 9) rfl (.cons (k := 10) rfl (.cons (k := 11) rfl .nil)))))))) (blk_n (then_n ?_))
                      refine V_region rfl ?_
                      refine L_go rfl (X_p (p_move rfl rfl) ?_)
                      first | refine L_go rfl (X_p (p_add' rfl rfl rfl (by unfold InI; omega)) ?_) | refine L_go rfl (X_p (p_add rfl rfl rfl) ?_)
                      refine L_go rfl (X_p (p_assign rfl rfl) ?_)
                      refine L_keep (.cons (k := 2) rfl (.cons (k := 3) rfl (.cons (k := 5) rfl (.cons (k := 6) rfl (.cons (k := 7) rfl (.cons (k := 9) rfl (.cons (k := 10) rfl (.cons (k := 11) rfl .nil)))))))) (then_n ?_)
                      refine ⟨(k + 1, wideB ((ownT t x0 x1 k).getD boxZ), k), ?_, ?_, (.cons rfl (.cons rfl (.cons rfl (.cons rfl (.cons rfl (.cons rfl (.cons rfl (.cons rfl (.nil _))))))))), (by repeat (first | exact List.nil_sublist _ | exact List.Sublist.refl _ | apply List.Sublist.cons_cons | apply List.Sublist.cons | apply List.sublist_append_of_sublist_right)), rfl⟩
                      · refine ⟨by omega, by omega, wideB ((ownT t x0 x1 k).getD boxZ), ?_, .inr rfl⟩
                        rw [bestN_succ hk0, hbn]
                        exact bestStep_yes hsm (by simp only [meetB, Bool.and_eq_true]; simp_all) (by omega)
                      · dsimp only; omega
                    · intro c3; have c3r := c3; try simp only [td] at c3
                      refine V_skip (blk_n (then_n ?_))
                      refine V_region rfl ?_
                      refine L_go rfl (X_p (p_move rfl rfl) ?_)
                      first | refine L_go rfl (X_p (p_add' rfl rfl rfl (by unfold InI; omega)) ?_) | refine L_go rfl (X_p (p_add rfl rfl rfl) ?_)
                      refine L_go rfl (X_p (p_assign rfl rfl) ?_)
                      refine L_keep (.cons (k := 2) rfl (.cons (k := 3) rfl (.cons (k := 5) rfl (.cons (k := 6) rfl (.cons (k := 7) rfl (.cons (k := 9) rfl (.cons (k := 10) rfl (.cons (k := 11) rfl .nil)))))))) (then_n ?_)
                      refine ⟨(k + 1, l, f), ?_, ?_, (.cons rfl (.cons rfl (.cons rfl (.cons rfl (.cons rfl (.cons rfl (.cons rfl (.cons rfl (.nil _))))))))), (by repeat (first | exact List.nil_sublist _ | exact List.Sublist.refl _ | apply List.Sublist.cons_cons | apply List.Sublist.cons | apply List.sublist_append_of_sublist_right)), rfl⟩
                      · refine ⟨by omega, by omega, l2, ?_, hl⟩
                        rw [bestN_succ hk0, hbn]
                        exact bestStep_no hsm (by rintro ⟨_, ha⟩; omega)
                      · dsimp only; omega
  · intro c1; have c1r := c1; try simp only [td] at c1
    refine V_exit (then_e (then_e (blk_e rfl (then_n ?_))))
    refine V_seq (V_region rfl ?_)
    have ek : k.toNat = t.trackers.length := by omega
    rw [ek, hN0] at hbn
    obtain ⟨rfl, rfl⟩ := Prod.mk.inj hbn
    refine L_go rfl (X_p (p_move rfl rfl) ?_)
    refine L_go rfl (X_p (p_eql rfl rfl rfl) ?_)
    refine L_go rfl (X_p (p_move rfl rfl) ?_)
    refine L_go rfl (X_p (p_geq rfl rfl rfl) ?_)
    refine L_go rfl (X_p (p_eqlb un4 rfl rfl rfl) ?_)
    refine L_go rfl (X_p (p_move rfl rfl) ?_)
    refine L_yes rfl rfl rfl (by first | (simp; omega) | simp) (X_p (p_move rfl rfl) ?_)
    refine L_yes rfl rfl rfl (by first | (simp; omega) | simp) (X_p (p_neq rfl rfl rfl) ?_)
    refine L_yes rfl rfl rfl (by first | (simp; omega) | simp) (X_p (p_move rfl rfl) ?_)
    refine L_no rfl rfl rfl rfl ?_
    refine L_no rfl rfl rfl rfl ?_
    refine L_no rfl rfl rfl rfl ?_
    refine L_yes rfl rfl rfl (by first | (simp; omega) | simp) (X_p (p_pick_t rfl rfl rfl rfl) ?_)
    refine L_go rfl (X_p (p_pick_t rfl rfl (by first | (simp; omega) | simp) rfl) ?_)
    refine L_go rfl (X_p (p_move rfl rfl) ?_)
    refine L_yes rfl rfl rfl rfl (X_wr (w_callP rfl rfl rfl (fun w hg => awake_c w)) ?_)
    rintro _ _ ⟨rfl, rfl⟩
    refine L_go rfl (X_p (p_pick_t rfl rfl rfl rfl) ?_)
    refine L_go rfl (X_p (p_assign rfl rfl) ?_)
    refine L_then (.cons (k := 4) rfl .nil) ?_
    refine V_ret ?_
    refine Leave.nil (.tmp rfl .nil) ?_
    rfl
set_option maxHeartbeats 8000000 in
theorem bestC (t : Task) (tv pv : Value) (x0 x1 : Int) (w : World) (ht : TaskR w (.agg #[.int .i64 t.frm, .int .i64 t.speed, .int .i64 t.accel, tv, pv]) t) (h : askedT t [x0, x1] = 0) (s : Box) (hs : spareT t x0 x1 = some s) (f0 l0 : Int) (hN0 : bestN t s x0 x1 t.trackers.length = (f0, l0)) (hf : ¬ f0 < 0) : FnP Try.prog 13 [.agg #[.int .i64 t.frm, .int .i64 t.speed, .int .i64 t.accel, tv, pv], .agg #[.int .i64 x0, .int .i64 x1]] w (.bool true) := by
  have hS := spareP_some h hs
  have hF : (spareP t x0 x1).2 = 0 := by rw [hS]
  have hN : bestN t (spareP t x0 x1).1 x0 x1 t.trackers.length = (f0, l0) := by rw [hS]; exact hN0
  obtain ⟨hG, hn0⟩ := asked_zero h
  have hu := hn0 x0 (.head _)
  have hT := ht
  obtain ⟨_, _, _, htr, hpl⟩ := ht.lit
  obtain ⟨ta, tc, rfl, htc, hte⟩ := htr.ex
  have htl := hG.h1
  simp only [List.length_map] at hT htc ⊢
  refine fn_pure Try.func13 rfl (by kernel_rfl) Try.ntmps13 Try.results13 rfl ?_
  refine V_seq (V_region rfl ?_)
  refine L_go rfl (X_wr (w_box rfl rfl) ?_)
  rintro _ _ ⟨b1, hb1, rfl, rfl⟩
  refine L_go rfl (X_wr (w_box rfl rfl) ?_)
  rintro _ _ ⟨b2, hb2, rfl, rfl⟩
  refine L_go rfl (X_p (p_assign rfl rfl) ?_)
  refine L_then (.cons (k := 2) rfl (.cons (k := 3) rfl .nil)) ?_
  refine V_seq (V_region rfl ?_)
  refine L_go rfl (X_rd (r_loadA (vs := [_, _, _, _, _]) ag25 sz25 rfl rfl (by repeat first | exact mH | apply mT) rfl) ?_)
  refine L_go rfl (X_p (p_idxao ar31 rfl rfl rfl (by omega) (by omega)) ?_)
  refine L_go rfl (X_rd (r_load ag3 rfl rfl (by repeat first | exact mH | apply mT) rfl) ?_)
  refine L_go rfl (X_p (p_idxao ar31 rfl rfl rfl (by omega) (by omega)) ?_)
  refine L_go rfl (X_rd (r_load ag3 rfl rfl (by repeat first | exact mH | apply mT) rfl) ?_)
  refine L_go rfl (X_wr (w_callP rfl rfl rfl (fun w hg => (show FnP _ _ _ w (.tuple #[.int .i64 f0, .int .i64 0]) from by have h1 := best_c t _ _ x0 x1 w (hT.good hg); rw [bestP_3 hF hN hf] at h1; exact h1))) ?_)
  rintro _ _ ⟨rfl, rfl⟩
  refine L_go rfl (X_p (p_move rfl rfl) ?_)
  refine L_go rfl (X_p (p_ext rfl rfl rfl) ?_)
  refine L_go rfl (X_p (p_ext rfl rfl rfl) ?_)
  refine L_go rfl (X_p (p_assign rfl rfl) ?_)
  refine L_go rfl (X_p (p_assign rfl rfl) ?_)
  refine L_then (.cons (k := 2) rfl (.cons (k := 3) rfl (.cons (k := 5) rfl (.cons (k := 6) rfl .nil)))) ?_
  refine V_seq (V_region rfl ?_)
  refine L_go rfl (X_rd (r_loadA (vs := [_, _, _, _, _]) ag25 sz25 rfl rfl (by repeat first | exact mH | apply mT) rfl) ?_)
  refine L_go rfl (X_p (p_idxao ar31 rfl rfl rfl (by omega) (by omega)) ?_)
  refine L_go rfl (X_rd (r_load ag3 rfl rfl (by repeat first | exact mH | apply mT) rfl) ?_)
  refine L_go rfl (X_p (p_idxao ar31 rfl rfl rfl (by omega) (by omega)) ?_)
  refine L_go rfl (X_rd (r_load ag3 rfl rfl (by repeat first | exact mH | apply mT) rfl) ?_)
  refine L_go rfl (X_wr (w_callP rfl rfl rfl (fun w hg => (show FnP _ _ _ w (.tuple #[.agg (Box.cells s).toArray, .int .i64 0]) from by have h1 := spareR_c t _ _ x0 x1 w (hT.good hg); rw [spareR_eq, hS] at h1; exact h1))) ?_)
  rintro _ _ ⟨rfl, rfl⟩
  refine L_go rfl (X_p (p_move rfl rfl) ?_)
  refine L_go rfl (X_p (p_ext rfl rfl rfl) ?_)
  refine L_go rfl (X_p (p_ext rfl rfl rfl) ?_)
  refine L_go rfl (X_wr (w_alloc zr35 rfl) ?_)
  rintro _ _ ⟨b3, hb3, rfl, rfl⟩
  refine L_go rfl (X_wr (w_store (cs' := [_, _, _, _, _, _, _, _, _, _, _, _, _]) sz35 rfl rfl rfl rfl rfl (by repeat first | exact .head | apply SetAt.tail) (Nat.le_of_ble_eq_true rfl) rfl) ?_)
  rintro _ _ ⟨rfl, rfl⟩
  refine L_go rfl (X_p (p_assign rfl rfl) ?_)
  refine L_then (.cons (k := 2) rfl (.cons (k := 3) rfl (.cons (k := 5) rfl (.cons (k := 6) rfl (.cons (k := 7) rfl (.cons (k := 8) rfl .nil)))))) ?_
  refine V_seq ?_
  refine V_seq (V_region rfl ?_)
  refine L_go rfl (X_p (p_move rfl rfl) ?_)
  refine L_go rfl (X_p (p_eql rfl rfl rfl) ?_)
  refine L_go rfl (X_p (p_move rfl rfl) ?_)
  refine L_yes rfl rfl rfl rfl (X_p (p_move rfl rfl) ?_)
  refine L_yes rfl rfl rfl rfl (X_p (p_neq rfl rfl rfl) ?_)
  refine L_go rfl (X_p (p_pick_t rfl rfl rfl rfl) ?_)
  refine L_go rfl (X_p (p_move rfl rfl) ?_)
  refine L_yes rfl rfl rfl rfl (X_p (p_move rfl rfl) ?_)
  refine L_yes rfl rfl rfl rfl (X_p (p_eql rfl rfl rfl) ?_)
  refine L_yes rfl rfl rfl rfl (X_p (p_move rfl rfl) ?_)
  refine L_yes rfl rfl rfl rfl (X_p (p_move rfl rfl) ?_)
  refine L_yes rfl rfl rfl rfl (X_p (p_neq rfl rfl rfl) ?_)
  refine L_yes rfl rfl rfl rfl (X_p (p_pick_t rfl rfl rfl rfl) ?_)
  refine L_yes rfl rfl rfl rfl (X_p (p_move rfl rfl) ?_)
  refine L_no rfl rfl rfl rfl ?_
  refine L_no rfl rfl rfl rfl ?_
  refine L_yes rfl rfl rfl rfl (X_p (p_pick_f rfl rfl rfl rfl) ?_)
  refine L_go rfl (X_p (p_pick_f rfl rfl rfl rfl) ?_)
  refine L_then (.cons (k := 2) rfl (.cons (k := 3) rfl (.cons (k := 5) rfl (.cons (k := 6) rfl (.cons (k := 7) rfl (.cons (k := 8) rfl (.cons (k := 49) rfl .nil))))))) ?_
  refine V_cond_f rfl rfl ?_
  refine V_skip (then_n ?_)
  refine V_seq ?_
  refine V_seq (V_region rfl ?_)
  refine L_go rfl (X_p (p_move rfl rfl) ?_)
  refine L_go rfl (X_p (p_neq rfl rfl rfl) ?_)
  refine L_then (.cons (k := 2) rfl (.cons (k := 3) rfl (.cons (k := 5) rfl (.cons (k := 6) rfl (.cons (k := 7) rfl (.cons (k := 51) rfl .nil)))))) ?_
  refine V_cond_f rfl rfl ?_
  refine V_skip (then_n ?_)
  refine V_seq (V_region rfl ?_)
  refine L_go rfl (X_p (p_assign rfl rfl) ?_)
  refine L_go rfl (X_p (p_assign rfl rfl) ?_)
  refine L_then (.cons (k := 2) rfl (.cons (k := 3) rfl (.cons (k := 5) rfl (.cons (k := 6) rfl (.cons (k := 7) rfl (.cons (k := 9) rfl (.cons (k := 10) rfl .nil))))))) ?_
  refine V_seq ?_
  refine V_seq (V_region rfl ?_)
  refine L_go rfl (X_p (p_assign rfl rfl) ?_)
  refine L_then (.cons (k := 2) rfl (.cons (k := 3) rfl (.cons (k := 5) rfl (.cons (k := 6) rfl (.cons (k := 7) rfl (.cons (k := 9) rfl (.cons (k := 10) rfl (.cons (k := 11) rfl .nil)))))))) ?_
  refine V_block ?_
  refine V_loop1 (γ := Int × Int × Int) (.cons (k := 2) rfl (.cons (k := 3) rfl (.cons (k := 5) rfl (.cons (k := 6) rfl (.cons (k := 7) rfl .nil))))) (fun (k, l, f) => [(11, .int .i64 k), (9, .int .i64 l), (10, .int .i64 f)]) (fun (k, l, f) => (b3, .cells (Box.cells s).toArray 35) :: (b2, .cells #[.int .i64 x0, .int .i64 x1] 31) :: (b1, t.obj (.slice ta t.trackers.length tc) pv 25) :: []) (fun (k, l, f) => 0 ≤ k ∧ k ≤ t.trackers.length ∧ ∃ l2, bestN t s x0 x1 k.toNat = (f, l2) ∧ (f < 0 ∨ l = l2)) (fun (k, l, f) => (t.trackers.length - k).toNat) ((0, -1, -1)) (.cons rfl (.cons rfl (.cons rfl (.nil _)))) (by repeat (first | exact List.nil_sublist _ | exact List.Sublist.refl _ | apply List.Sublist.cons_cons | apply List.Sublist.cons)) (⟨by omega, by omega, 0, rfl, .inl (by decide)⟩) ?_
  rintro ⟨k, l, f⟩ hi
  obtain ⟨hk0, hk1, l2, hbn, hl⟩ := hi
  refine V_seq ?_
  refine V_seq (V_region rfl ?_)
  refine L_go rfl (X_p (p_move rfl rfl) ?_)
  refine L_go rfl (X_p (p_fieldo fo25_3 rfl rfl) ?_)
  refine L_go rfl (X_rd (r_load ag22 rfl rfl (by repeat first | exact mH | apply mT) rfl) ?_)
  refine L_go rfl (X_p (p_len isl22 rfl rfl) ?_)
  refine L_go rfl (X_p (p_lss rfl rfl rfl) ?_)
  refine L_then (.cons (k := 2) rfl (.cons (k := 3) rfl (.cons (k := 5) rfl (.cons (k := 6) rfl (.cons (k := 7) rfl (.cons (k := 9) rfl (.cons (k := 10) rfl (.cons (k := 11) rfl (.cons (k := 57) rfl .nil))))))))) ?_
  refine V_cond rfl ?_ ?_
  · intro c1; have c1r := c1; try simp only [td] at c1
    refine V_skip (then_n ?_)
    refine V_seq ?_
    refine V_block ?_
    refine V_seq (V_region rfl ?_)
    refine L_go rfl (X_rd (r_loadA (vs := [_, _, _, _, _]) ag25 sz25 rfl rfl (by repeat first | exact mH | apply mT) rfl) ?_)
    refine L_go rfl (X_p (p_move rfl rfl) ?_)
    refine L_go rfl (X_p (p_idxao ar31 rfl rfl rfl (by omega) (by omega)) ?_)
    refine L_go rfl (X_rd (r_load ag3 rfl rfl (by repeat first | exact mH | apply mT) rfl) ?_)
    refine L_go rfl (X_p (p_idxao ar31 rfl rfl rfl (by omega) (by omega)) ?_)
    refine L_go rfl (X_rd (r_load ag3 rfl rfl (by repeat first | exact mH | apply mT) rfl) ?_)
    refine L_go rfl (X_wr (w_callP rfl rfl rfl (fun w hg => (show FnP _ _ _ w (.tuple #[.agg (Box.cells ((ownT t x0 x1 k).getD boxZ)).toArray, .int .i64 (if (ownT t x0 x1 k).isSome then 0 else 9)]) from by have h1 := alone_c t _ _ k x0 x1 w (hT.good hg); rw [alone_none h ⟨hk0, by omega⟩] at h1; exact h1))) ?_)
    rintro _ _ ⟨rfl, rfl⟩
    refine L_go rfl (X_p (p_move rfl rfl) ?_)
    refine L_go rfl (X_p (p_ext rfl rfl rfl) ?_)
    refine L_go rfl (X_p (p_ext rfl rfl rfl) ?_)
    refine L_go rfl (X_wr (w_alloc zr35 rfl) ?_)
    rintro _ _ ⟨b4, hb4, rfl, rfl⟩
    refine L_go rfl (X_wr (w_store (cs' := [_, _, _, _, _, _, _, _, _, _, _, _, _]) sz35 rfl rfl rfl rfl rfl (by repeat first | exact .head | apply SetAt.tail) (Nat.le_of_ble_eq_true rfl) rfl) ?_)
    rintro _ _ ⟨rfl, rfl⟩
    refine L_go rfl (X_p (p_assign rfl rfl) ?_)
    refine L_then (.cons (k := 2) rfl (.cons (k := 3) rfl (.cons (k := 5) rfl (.cons (k := 6) rfl (.cons (k := 7) rfl (.cons (k := 9) rfl (.cons (k := 10) rfl (.cons (k := 11) rfl (.cons (k := 12) rfl (.cons (k := 13) rfl .nil)))))))))) ?_
    refine V_seq ?_
    refine V_seq (V_region rfl ?_)
    refine L_go rfl (X_p (p_move rfl rfl) ?_)
    refine L_go rfl (X_p (p_neq rfl rfl rfl) ?_)
    refine L_go rfl (X_p (p_move rfl rfl) ?_)
    refine L_cases (d := 72) rfl ?_ ?_
    · intro g1; have g1' := g1; try simp only [td] at g1'
      have hn := own9_t g1'
      refine L_no rfl rfl rfl g1 ?_
      refine L_no rfl rfl rfl g1 ?_
      refine L_no rfl rfl rfl g1 ?_
      refine L_no rfl rfl rfl g1 ?_
      refine L_no rfl rfl rfl g1 ?_
      refine L_no rfl rfl rfl g1 ?_
      refine L_go rfl (X_p (p_pick_t rfl rfl g1 rfl) ?_)
      refine L_go rfl (X_p (p_move rfl rfl) ?_)
      refine L_no rfl rfl rfl rfl ?_
      refine L_no rfl rfl rfl rfl ?_
      refine L_no rfl rfl rfl rfl ?_
      refine L_no rfl rfl rfl rfl ?_
      refine L_no rfl rfl rfl rfl ?_
      refine L_no rfl rfl rfl rfl ?_
      refine L_go rfl (X_p (p_pick_t rfl rfl rfl rfl) ?_)
      refine L_go rfl (X_p (p_move rfl rfl) ?_)
      refine L_no rfl rfl rfl rfl ?_
      refine L_no rfl rfl rfl rfl ?_
      refine L_no rfl rfl rfl rfl ?_
      refine L_no rfl rfl rfl rfl ?_
      refine L_no rfl rfl rfl rfl ?_
      refine L_no rfl rfl rfl rfl ?_
      refine L_go rfl (X_p (p_pick_t rfl rfl rfl rfl) ?_)
      refine L_go rfl (X_p (p_move rfl rfl) ?_)
      refine L_no rfl rfl rfl rfl ?_
      refine L_no rfl rfl rfl rfl ?_
      refine L_no rfl rfl rfl rfl ?_
      refine L_no rfl rfl rfl rfl ?_
      refine L_no rfl rfl rfl rfl ?_
      refine L_no rfl rfl rfl rfl ?_
      refine L_go rfl (X_p (p_pick_t rfl rfl rfl rfl) ?_)
      refine L_go rfl (X_p (p_move rfl rfl) ?_)
      refine L_no rfl rfl rfl rfl ?_
      refine L_no rfl rfl rfl rfl ?_
      refine L_no rfl rfl rfl rfl ?_
      refine L_no rfl rfl rfl rfl ?_
      refine L_no rfl rfl rfl rfl ?_
      refine L_no rfl rfl rfl rfl ?_
      refine L_go rfl (X_p (p_pick_t rfl rfl rfl rfl) ?_)
      refine L_go rfl (X_p (p_move rfl rfl) ?_)
      refine L_no rfl rfl rfl rfl ?_
      refine L_no rfl rfl rfl rfl ?_
      refine L_no rfl rfl rfl rfl ?_
      refine L_no rfl rfl rfl rfl ?_
      refine L_no rfl rfl rfl rfl ?_
      refine L_no rfl rfl rfl rfl ?_
      refine L_go rfl (X_p (p_pick_t rfl rfl rfl rfl) ?_)
      refine L_then (.cons (k := 2) rfl (.cons (k := 3) rfl (.cons (k := 5) rfl (.cons (k := 6) rfl (.cons (k := 7) rfl (.cons (k := 9) rfl (.cons (k := 10) rfl (.cons (k := 11) rfl (.cons (k := 12) rfl (.cons (k := 119) rfl .nil)))))))))) ?_
      refine V_cond_t rfl rfl ?_
      refine V_exit (then_e (blk_e rfl (then_n ?_)))
      refine V_region rfl ?_
      refine L_go rfl (X_p (p_move rfl rfl) ?_)
      first | refine L_go rfl (X_p (p_add' rfl rfl rfl (by unfold InI; omega)) ?_) | refine L_go rfl (X_p (p_add rfl rfl rfl) ?_)
      refine L_go rfl (X_p (p_assign rfl rfl) ?_)
      refine L_keep (.cons (k := 2) rfl (.cons (k := 3) rfl (.cons (k := 5) rfl (.cons (k := 6) rfl (.cons (k := 7) rfl (.cons (k := 9) rfl (.cons (k := 10) rfl (.cons (k := 11) rfl .nil)))))))) (then_n ?_)
      refine ⟨(k + 1, l, f), ?_, ?_, (.cons rfl (.cons rfl (.cons rfl (.cons rfl (.cons rfl (.cons rfl (.cons rfl (.cons rfl (.nil _))))))))), (by repeat (first | exact List.nil_sublist _ | exact List.Sublist.refl _ | apply List.Sublist.cons_cons | apply List.Sublist.cons | apply List.sublist_append_of_sublist_right)), rfl⟩
      · refine ⟨by omega, by omega, l2, ?_, hl⟩
        rw [bestN_succ hk0, hbn]
        exact bestStep_none hn
      · dsimp only; omega
    · intro g1; have g1' := g1; try simp only [td] at g1'
      have hsm := own9_f g1'
      refine L_yes rfl rfl rfl g1 (X_p (p_fieldo fo35_1 rfl rfl) ?_)
      refine L_yes rfl rfl rfl g1 (X_rd (r_loadA (vs := [_, _]) ag33 sz33 rfl rfl (by repeat first | exact mH | apply mT) rfl) ?_)
      refine L_yes rfl rfl rfl g1 (X_p (p_fieldo fo35_1 rfl rfl) ?_)
      refine L_yes rfl rfl rfl g1 (X_rd (r_loadA (vs := [_, _]) ag33 sz33 rfl rfl (by repeat first | exact mH | apply mT) rfl) ?_)
      refine L_yes rfl rfl rfl g1 (X_wr (w_callP rfl rfl rfl (fun w hg => lmeet_c ((ownT t x0 x1 k).getD boxZ).x s.x w)) ?_)
      rintro _ _ ⟨rfl, rfl⟩
      refine L_yes rfl rfl rfl g1 (X_p (p_not rfl rfl) ?_)
      refine L_go rfl (X_p (p_pick_f rfl rfl g1 rfl) ?_)
      refine L_go rfl (X_p (p_move rfl rfl) ?_)
      refine L_cases (d := 80) rfl ?_ ?_
      · intro g2; have g2' := g2; try simp only [td] at g2'
        refine L_no rfl rfl rfl g2 ?_
        refine L_no rfl rfl rfl g2 ?_
        refine L_no rfl rfl rfl g2 ?_
        refine L_no rfl rfl rfl g2 ?_
        refine L_no rfl rfl rfl g2 ?_
        refine L_no rfl rfl rfl g2 ?_
        refine L_go rfl (X_p (p_pick_t rfl rfl g2 rfl) ?_)
        refine L_go rfl (X_p (p_move rfl rfl) ?_)
        refine L_no rfl rfl rfl rfl ?_
        refine L_no rfl rfl rfl rfl ?_
        refine L_no rfl rfl rfl rfl ?_
        refine L_no rfl rfl rfl rfl ?_
        refine L_no rfl rfl rfl rfl ?_
        refine L_no rfl rfl rfl rfl ?_
        refine L_go rfl (X_p (p_pick_t rfl rfl rfl rfl) ?_)
        refine L_go rfl (X_p (p_move rfl rfl) ?_)
        refine L_no rfl rfl rfl rfl ?_
        refine L_no rfl rfl rfl rfl ?_
        refine L_no rfl rfl rfl rfl ?_
        refine L_no rfl rfl rfl rfl ?_
        refine L_no rfl rfl rfl rfl ?_
        refine L_no rfl rfl rfl rfl ?_
        refine L_go rfl (X_p (p_pick_t rfl rfl rfl rfl) ?_)
        refine L_go rfl (X_p (p_move rfl rfl) ?_)
        refine L_no rfl rfl rfl rfl ?_
        refine L_no rfl rfl rfl rfl ?_
        refine L_no rfl rfl rfl rfl ?_
        refine L_no rfl rfl rfl rfl ?_
        refine L_no rfl rfl rfl rfl ?_
        refine L_no rfl rfl rfl rfl ?_
        refine L_go rfl (X_p (p_pick_t rfl rfl rfl rfl) ?_)
        refine L_go rfl (X_p (p_move rfl rfl) ?_)
        refine L_no rfl rfl rfl rfl ?_
        refine L_no rfl rfl rfl rfl ?_
        refine L_no rfl rfl rfl rfl ?_
        refine L_no rfl rfl rfl rfl ?_
        refine L_no rfl rfl rfl rfl ?_
        refine L_no rfl rfl rfl rfl ?_
        refine L_go rfl (X_p (p_pick_t rfl rfl rfl rfl) ?_)
        refine L_then (.cons (k := 2) rfl (.cons (k := 3) rfl (.cons (k := 5) rfl (.cons (k := 6) rfl (.cons (k := 7) rfl (.cons (k := 9) rfl (.cons (k := 10) rfl (.cons (k := 11) rfl (.cons (k := 12) rfl (.cons (k := 119) rfl .nil)))))))))) ?_
        refine V_cond_t rfl rfl ?_
        refine V_exit (then_e (blk_e rfl (then_n ?_)))
        refine V_region rfl ?_
        refine L_go rfl (X_p (p_move rfl rfl) ?_)
        first | refine L_go rfl (X_p (p_add' rfl rfl rfl (by unfold InI; omega)) ?_) | refine L_go rfl (X_p (p_add rfl rfl rfl) ?_)
        refine L_go rfl (X_p (p_assign rfl rfl) ?_)
        refine L_keep (.cons (k := 2) rfl (.cons (k := 3) rfl (.cons (k := 5) rfl (.cons (k := 6) rfl (.cons (k := 7) rfl (.cons (k := 9) rfl (.cons (k := 10) rfl (.cons (k := 11) rfl .nil)))))))) (then_n ?_)
        refine ⟨(k + 1, l, f), ?_, ?_, (.cons rfl (.cons rfl (.cons rfl (.cons rfl (.cons rfl (.cons rfl (.cons rfl (.cons rfl (.nil _))))))))), (by repeat (first | exact List.nil_sublist _ | exact List.Sublist.refl _ | apply List.Sublist.cons_cons | apply List.Sublist.cons | apply List.sublist_append_of_sublist_right)), rfl⟩
        · refine ⟨by omega, by omega, l2, ?_, hl⟩
          rw [bestN_succ hk0, hbn]
          exact bestStep_no hsm (by rintro ⟨ha, _⟩; simp only [meetB, Bool.and_eq_true] at ha; simp_all)
        · dsimp only; omega
      · intro g2; have g2' := g2; try simp only [td] at g2'
        refine L_yes rfl rfl rfl g2 (X_p (p_fieldo fo35_2 rfl rfl) ?_)
        refine L_yes rfl rfl rfl g2 (X_rd (r_loadA (vs := [_, _]) ag33 sz33 rfl rfl (by repeat first | exact mH | apply mT) rfl) ?_)
        refine L_yes rfl rfl rfl g2 (X_p (p_fieldo fo35_2 rfl rfl) ?_)
        refine L_yes rfl rfl rfl g2 (X_rd (r_loadA (vs := [_, _]) ag33 sz33 rfl rfl (by repeat first | exact mH | apply mT) rfl) ?_)
        refine L_yes rfl rfl rfl g2 (X_wr (w_callP rfl rfl rfl (fun w hg => lmeet_c ((ownT t x0 x1 k).getD boxZ).y s.y w)) ?_)
        rintro _ _ ⟨rfl, rfl⟩
        refine L_yes rfl rfl rfl g2 (X_p (p_not rfl rfl) ?_)
        refine L_go rfl (X_p (p_pick_f rfl rfl g2 rfl) ?_)
        refine L_go rfl (X_p (p_move rfl rfl) ?_)
        refine L_cases (d := 88) rfl ?_ ?_
        · intro g3; have g3' := g3; try simp only [td] at g3'
          refine L_no rfl rfl rfl g3 ?_
          refine L_no rfl rfl rfl g3 ?_
          refine L_no rfl rfl rfl g3 ?_
          refine L_no rfl rfl rfl g3 ?_
          refine L_no rfl rfl rfl g3 ?_
          refine L_no rfl rfl rfl g3 ?_
          refine L_go rfl (X_p (p_pick_t rfl rfl g3 rfl) ?_)
          refine L_go rfl (X_p (p_move rfl rfl) ?_)
          refine L_no rfl rfl rfl rfl ?_
          refine L_no rfl rfl rfl rfl ?_
          refine L_no rfl rfl rfl rfl ?_
          refine L_no rfl rfl rfl rfl ?_
          refine L_no rfl rfl rfl rfl ?_
          refine L_no rfl rfl rfl rfl ?_
          refine L_go rfl (X_p (p_pick_t rfl rfl rfl rfl) ?_)
          refine L_go rfl (X_p (p_move rfl rfl) ?_)
          refine L_no rfl rfl rfl rfl ?_
          refine L_no rfl rfl rfl rfl ?_
          refine L_no rfl rfl rfl rfl ?_
          refine L_no rfl rfl rfl rfl ?_
          refine L_no rfl rfl rfl rfl ?_
          refine L_no rfl rfl rfl rfl ?_
          refine L_go rfl (X_p (p_pick_t rfl rfl rfl rfl) ?_)
          refine L_go rfl (X_p (p_move rfl rfl) ?_)
          refine L_no rfl rfl rfl rfl ?_
          refine L_no rfl rfl rfl rfl ?_
          refine L_no rfl rfl rfl rfl ?_
          refine L_no rfl rfl rfl rfl ?_
          refine L_no rfl rfl rfl rfl ?_
          refine L_no rfl rfl rfl rfl ?_
          refine L_go rfl (X_p (p_pick_t rfl rfl rfl rfl) ?_)
          refine L_then (.cons (k := 2) rfl (.cons (k := 3) rfl (.cons (k := 5) rfl (.cons (k := 6) rfl (.cons (k := 7) rfl (.cons (k := 9) rfl (.cons (k := 10) rfl (.cons (k := 11) rfl (.cons (k := 12) rfl (.cons (k := 119) rfl .nil)))))))))) ?_
          refine V_cond_t rfl rfl ?_
          refine V_exit (then_e (blk_e rfl (then_n ?_)))
          refine V_region rfl ?_
          refine L_go rfl (X_p (p_move rfl rfl) ?_)
          first | refine L_go rfl (X_p (p_add' rfl rfl rfl (by unfold InI; omega)) ?_) | refine L_go rfl (X_p (p_add rfl rfl rfl) ?_)
          refine L_go rfl (X_p (p_assign rfl rfl) ?_)
          refine L_keep (.cons (k := 2) rfl (.cons (k := 3) rfl (.cons (k := 5) rfl (.cons (k := 6) rfl (.cons (k := 7) rfl (.cons (k := 9) rfl (.cons (k := 10) rfl (.cons (k := 11) rfl .nil)))))))) (then_n ?_)
          refine ⟨(k + 1, l, f), ?_, ?_, (.cons rfl (.cons rfl (.cons rfl (.cons rfl (.cons rfl (.cons rfl (.cons rfl (.cons rfl (.nil _))))))))), (by repeat (first | exact List.nil_sublist _ | exact List.Sublist.refl _ | apply List.Sublist.cons_cons | apply List.Sublist.cons | apply List.sublist_append_of_sublist_right)), rfl⟩
          · refine ⟨by omega, by omega, l2, ?_, hl⟩
            rw [bestN_succ hk0, hbn]
            exact bestStep_no hsm (by rintro ⟨ha, _⟩; simp only [meetB, Bool.and_eq_true] at ha; simp_all)
          · dsimp only; omega
        · intro g3; have g3' := g3; try simp only [td] at g3'
          refine L_yes rfl rfl rfl g3 (X_p (p_fieldo fo35_3 rfl rfl) ?_)
          refine L_yes rfl rfl rfl g3 (X_rd (r_loadA (vs := [_, _]) ag33 sz33 rfl rfl (by repeat first | exact mH | apply mT) rfl) ?_)
          refine L_yes rfl rfl rfl g3 (X_p (p_fieldo fo35_3 rfl rfl) ?_)
          refine L_yes rfl rfl rfl g3 (X_rd (r_loadA (vs := [_, _]) ag33 sz33 rfl rfl (by repeat first | exact mH | apply mT) rfl) ?_)
          refine L_yes rfl rfl rfl g3 (X_wr (w_callP rfl rfl rfl (fun w hg => lmeet_c ((ownT t x0 x1 k).getD boxZ).z s.z w)) ?_)
          rintro _ _ ⟨rfl, rfl⟩
          refine L_yes rfl rfl rfl g3 (X_p (p_not rfl rfl) ?_)
          refine L_go rfl (X_p (p_pick_f rfl rfl g3 rfl) ?_)
          refine L_go rfl (X_p (p_move rfl rfl) ?_)
          refine L_cases (d := 96) rfl ?_ ?_
          · intro g4; have g4' := g4; try simp only [td] at g4'
            refine L_no rfl rfl rfl g4 ?_
            refine L_no rfl rfl rfl g4 ?_
            refine L_no rfl rfl rfl g4 ?_
            refine L_no rfl rfl rfl g4 ?_
            refine L_no rfl rfl rfl g4 ?_
            refine L_no rfl rfl rfl g4 ?_
            refine L_go rfl (X_p (p_pick_t rfl rfl g4 rfl) ?_)
            refine L_go rfl (X_p (p_move rfl rfl) ?_)
            refine L_no rfl rfl rfl rfl ?_
            refine L_no rfl rfl rfl rfl ?_
            refine L_no rfl rfl rfl rfl ?_
            refine L_no rfl rfl rfl rfl ?_
            refine L_no rfl rfl rfl rfl ?_
            refine L_no rfl rfl rfl rfl ?_
            refine L_go rfl (X_p (p_pick_t rfl rfl rfl rfl) ?_)
            refine L_go rfl (X_p (p_move rfl rfl) ?_)
            refine L_no rfl rfl rfl rfl ?_
            refine L_no rfl rfl rfl rfl ?_
            refine L_no rfl rfl rfl rfl ?_
            refine L_no rfl rfl rfl rfl ?_
            refine L_no rfl rfl rfl rfl ?_
            refine L_no rfl rfl rfl rfl ?_
            refine L_go rfl (X_p (p_pick_t rfl rfl rfl rfl) ?_)
            refine L_then (.cons (k := 2) rfl (.cons (k := 3) rfl (.cons (k := 5) rfl (.cons (k := 6) rfl (.cons (k := 7) rfl (.cons (k := 9) rfl (.cons (k := 10) rfl (.cons (k := 11) rfl (.cons (k := 12) rfl (.cons (k := 119) rfl .nil)))))))))) ?_
            refine V_cond_t rfl rfl ?_
            refine V_exit (then_e (blk_e rfl (then_n ?_)))
            refine V_region rfl ?_
            refine L_go rfl (X_p (p_move rfl rfl) ?_)
            first | refine L_go rfl (X_p (p_add' rfl rfl rfl (by unfold InI; omega)) ?_) | refine L_go rfl (X_p (p_add rfl rfl rfl) ?_)
            refine L_go rfl (X_p (p_assign rfl rfl) ?_)
            refine L_keep (.cons (k := 2) rfl (.cons (k := 3) rfl (.cons (k := 5) rfl (.cons (k := 6) rfl (.cons (k := 7) rfl (.cons (k := 9) rfl (.cons (k := 10) rfl (.cons (k := 11) rfl .nil)))))))) (then_n ?_)
            refine ⟨(k + 1, l, f), ?_, ?_, (.cons rfl (.cons rfl (.cons rfl (.cons rfl (.cons rfl (.cons rfl (.cons rfl (.cons rfl (.nil _))))))))), (by repeat (first | exact List.nil_sublist _ | exact List.Sublist.refl _ | apply List.Sublist.cons_cons | apply List.Sublist.cons | apply List.sublist_append_of_sublist_right)), rfl⟩
            · refine ⟨by omega, by omega, l2, ?_, hl⟩
              rw [bestN_succ hk0, hbn]
              exact bestStep_no hsm (by rintro ⟨ha, _⟩; simp only [meetB, Bool.and_eq_true] at ha; simp_all)
            · dsimp only; omega
          · intro g4; have g4' := g4; try simp only [td] at g4'
            refine L_yes rfl rfl rfl g4 (X_p (p_fieldo fo35_4 rfl rfl) ?_)
            refine L_yes rfl rfl rfl g4 (X_rd (r_loadA (vs := [_, _]) ag33 sz33 rfl rfl (by repeat first | exact mH | apply mT) rfl) ?_)
            refine L_yes rfl rfl rfl g4 (X_p (p_fieldo fo35_4 rfl rfl) ?_)
            refine L_yes rfl rfl rfl g4 (X_rd (r_loadA (vs := [_, _]) ag33 sz33 rfl rfl (by repeat first | exact mH | apply mT) rfl) ?_)
            refine L_yes rfl rfl rfl g4 (X_wr (w_callP rfl rfl rfl (fun w hg => lmeet_c ((ownT t x0 x1 k).getD boxZ).vx s.vx w)) ?_)
            rintro _ _ ⟨rfl, rfl⟩
            refine L_yes rfl rfl rfl g4 (X_p (p_not rfl rfl) ?_)
            refine L_go rfl (X_p (p_pick_f rfl rfl g4 rfl) ?_)
            refine L_go rfl (X_p (p_move rfl rfl) ?_)
            refine L_cases (d := 104) rfl ?_ ?_
            · intro g5; have g5' := g5; try simp only [td] at g5'
              refine L_no rfl rfl rfl g5 ?_
              refine L_no rfl rfl rfl g5 ?_
              refine L_no rfl rfl rfl g5 ?_
              refine L_no rfl rfl rfl g5 ?_
              refine L_no rfl rfl rfl g5 ?_
              refine L_no rfl rfl rfl g5 ?_
              refine L_go rfl (X_p (p_pick_t rfl rfl g5 rfl) ?_)
              refine L_go rfl (X_p (p_move rfl rfl) ?_)
              refine L_no rfl rfl rfl rfl ?_
              refine L_no rfl rfl rfl rfl ?_
              refine L_no rfl rfl rfl rfl ?_
              refine L_no rfl rfl rfl rfl ?_
              refine L_no rfl rfl rfl rfl ?_
              refine L_no rfl rfl rfl rfl ?_
              refine L_go rfl (X_p (p_pick_t rfl rfl rfl rfl) ?_)
              refine L_then (.cons (k := 2) rfl (.cons (k := 3) rfl (.cons (k := 5) rfl (.cons (k := 6) rfl (.cons (k := 7) rfl (.cons (k := 9) rfl (.cons (k := 10) rfl (.cons (k := 11) rfl (.cons (k := 12) rfl (.cons (k := 119) rfl .nil)))))))))) ?_
              refine V_cond_t rfl rfl ?_
              refine V_exit (then_e (blk_e rfl (then_n ?_)))
              refine V_region rfl ?_
              refine L_go rfl (X_p (p_move rfl rfl) ?_)
              first | refine L_go rfl (X_p (p_add' rfl rfl rfl (by unfold InI; omega)) ?_) | refine L_go rfl (X_p (p_add rfl rfl rfl) ?_)
              refine L_go rfl (X_p (p_assign rfl rfl) ?_)
              refine L_keep (.cons (k := 2) rfl (.cons (k := 3) rfl (.cons (k := 5) rfl (.cons (k := 6) rfl (.cons (k := 7) rfl (.cons (k := 9) rfl (.cons (k := 10) rfl (.cons (k := 11) rfl .nil)))))))) (then_n ?_)
              refine ⟨(k + 1, l, f), ?_, ?_, (.cons rfl (.cons rfl (.cons rfl (.cons rfl (.cons rfl (.cons rfl (.cons rfl (.cons rfl (.nil _))))))))), (by repeat (first | exact List.nil_sublist _ | exact List.Sublist.refl _ | apply List.Sublist.cons_cons | apply List.Sublist.cons | apply List.sublist_append_of_sublist_right)), rfl⟩
              · refine ⟨by omega, by omega, l2, ?_, hl⟩
                rw [bestN_succ hk0, hbn]
                exact bestStep_no hsm (by rintro ⟨ha, _⟩; simp only [meetB, Bool.and_eq_true] at ha; simp_all)
              · dsimp only; omega
            · intro g5; have g5' := g5; try simp only [td] at g5'
              refine L_yes rfl rfl rfl g5 (X_p (p_fieldo fo35_5 rfl rfl) ?_)
              refine L_yes rfl rfl rfl g5 (X_rd (r_loadA (vs := [_, _]) ag33 sz33 rfl rfl (by repeat first | exact mH | apply mT) rfl) ?_)
              refine L_yes rfl rfl rfl g5 (X_p (p_fieldo fo35_5 rfl rfl) ?_)
              refine L_yes rfl rfl rfl g5 (X_rd (r_loadA (vs := [_, _]) ag33 sz33 rfl rfl (by repeat first | exact mH | apply mT) rfl) ?_)
              refine L_yes rfl rfl rfl g5 (X_wr (w_callP rfl rfl rfl (fun w hg => lmeet_c ((ownT t x0 x1 k).getD boxZ).vy s.vy w)) ?_)
              rintro _ _ ⟨rfl, rfl⟩
              refine L_yes rfl rfl rfl g5 (X_p (p_not rfl rfl) ?_)
              refine L_go rfl (X_p (p_pick_f rfl rfl g5 rfl) ?_)
              refine L_go rfl (X_p (p_move rfl rfl) ?_)
              refine L_cases (d := 112) rfl ?_ ?_
              · intro g6; have g6' := g6; try simp only [td] at g6'
                refine L_no rfl rfl rfl g6 ?_
                refine L_no rfl rfl rfl g6 ?_
                refine L_no rfl rfl rfl g6 ?_
                refine L_no rfl rfl rfl g6 ?_
                refine L_no rfl rfl rfl g6 ?_
                refine L_no rfl rfl rfl g6 ?_
                refine L_go rfl (X_p (p_pick_t rfl rfl g6 rfl) ?_)
                refine L_then (.cons (k := 2) rfl (.cons (k := 3) rfl (.cons (k := 5) rfl (.cons (k := 6) rfl (.cons (k := 7) rfl (.cons (k := 9) rfl (.cons (k := 10) rfl (.cons (k := 11) rfl (.cons (k := 12) rfl (.cons (k := 119) rfl .nil)))))))))) ?_
                refine V_cond_t rfl rfl ?_
                refine V_exit (then_e (blk_e rfl (then_n ?_)))
                refine V_region rfl ?_
                refine L_go rfl (X_p (p_move rfl rfl) ?_)
                first | refine L_go rfl (X_p (p_add' rfl rfl rfl (by unfold InI; omega)) ?_) | refine L_go rfl (X_p (p_add rfl rfl rfl) ?_)
                refine L_go rfl (X_p (p_assign rfl rfl) ?_)
                refine L_keep (.cons (k := 2) rfl (.cons (k := 3) rfl (.cons (k := 5) rfl (.cons (k := 6) rfl (.cons (k := 7) rfl (.cons (k := 9) rfl (.cons (k := 10) rfl (.cons (k := 11) rfl .nil)))))))) (then_n ?_)
                refine ⟨(k + 1, l, f), ?_, ?_, (.cons rfl (.cons rfl (.cons rfl (.cons rfl (.cons rfl (.cons rfl (.cons rfl (.cons rfl (.nil _))))))))), (by repeat (first | exact List.nil_sublist _ | exact List.Sublist.refl _ | apply List.Sublist.cons_cons | apply List.Sublist.cons | apply List.sublist_append_of_sublist_right)), rfl⟩
                · refine ⟨by omega, by omega, l2, ?_, hl⟩
                  rw [bestN_succ hk0, hbn]
                  exact bestStep_no hsm (by rintro ⟨ha, _⟩; simp only [meetB, Bool.and_eq_true] at ha; simp_all)
                · dsimp only; omega
              · intro g6; have g6' := g6; try simp only [td] at g6'
                refine L_yes rfl rfl rfl g6 (X_p (p_fieldo fo35_6 rfl rfl) ?_)
                refine L_yes rfl rfl rfl g6 (X_rd (r_loadA (vs := [_, _]) ag33 sz33 rfl rfl (by repeat first | exact mH | apply mT) rfl) ?_)
                refine L_yes rfl rfl rfl g6 (X_p (p_fieldo fo35_6 rfl rfl) ?_)
                refine L_yes rfl rfl rfl g6 (X_rd (r_loadA (vs := [_, _]) ag33 sz33 rfl rfl (by repeat first | exact mH | apply mT) rfl) ?_)
                refine L_yes rfl rfl rfl g6 (X_wr (w_callP rfl rfl rfl (fun w hg => lmeet_c ((ownT t x0 x1 k).getD boxZ).vz s.vz w)) ?_)
                rintro _ _ ⟨rfl, rfl⟩
                refine L_yes rfl rfl rfl g6 (X_p (p_not rfl rfl) ?_)
                refine L_go rfl (X_p (p_pick_f rfl rfl g6 rfl) ?_)
                refine L_then (.cons (k := 2) rfl (.cons (k := 3) rfl (.cons (k := 5) rfl (.cons (k := 6) rfl (.cons (k := 7) rfl (.cons (k := 9) rfl (.cons (k := 10) rfl (.cons (k := 11) rfl (.cons (k := 12) rfl (.cons (k := 119) rfl .nil)))))))))) ?_
                refine V_cond rfl ?_ ?_
                · intro c2; have c2r := c2; try simp only [td] at c2
                  refine V_exit (then_e (blk_e rfl (then_n ?_)))
                  refine V_region rfl ?_
                  refine L_go rfl (X_p (p_move rfl rfl) ?_)
                  first | refine L_go rfl (X_p (p_add' rfl rfl rfl (by unfold InI; omega)) ?_) | refine L_go rfl (X_p (p_add rfl rfl rfl) ?_)
                  refine L_go rfl (X_p (p_assign rfl rfl) ?_)
                  refine L_keep (.cons (k := 2) rfl (.cons (k := 3) rfl (.cons (k := 5) rfl (.cons (k := 6) rfl (.cons (k := 7) rfl (.cons (k := 9) rfl (.cons (k := 10) rfl (.cons (k := 11) rfl .nil)))))))) (then_n ?_)
                  refine ⟨(k + 1, l, f), ?_, ?_, (.cons rfl (.cons rfl (.cons rfl (.cons rfl (.cons rfl (.cons rfl (.cons rfl (.cons rfl (.nil _))))))))), (by repeat (first | exact List.nil_sublist _ | exact List.Sublist.refl _ | apply List.Sublist.cons_cons | apply List.Sublist.cons | apply List.sublist_append_of_sublist_right)), rfl⟩
                  · refine ⟨by omega, by omega, l2, ?_, hl⟩
                    rw [bestN_succ hk0, hbn]
                    exact bestStep_no hsm (by rintro ⟨ha, _⟩; simp only [meetB, Bool.and_eq_true] at ha; simp_all)
                  · dsimp only; omega
                · intro c2; have c2r := c2; try simp only [td] at c2
                  refine V_skip (then_n ?_)
                  refine V_seq (V_region rfl ?_)
                  refine L_go rfl (X_p (p_move rfl rfl) ?_)
                  refine L_go rfl (X_p (p_lss rfl rfl rfl) ?_)
                  refine L_go rfl (X_p (p_move rfl rfl) ?_)
                  refine L_cases (d := 122) rfl ?_ ?_
                  · intro g7; have g7' := g7; try simp only [td] at g7'
                    refine L_no rfl rfl rfl g7 ?_
                    refine L_no rfl rfl rfl g7 ?_
                    refine L_no rfl rfl rfl g7 ?_
                    refine L_no rfl rfl rfl g7 ?_
                    refine L_go rfl (X_p (p_pick_t rfl rfl g7 rfl) ?_)
                    refine L_then (.cons (k := 2) rfl (.cons (k := 3) rfl (.cons (k := 5) rfl (.cons (k := 6) rfl (.cons (k := 7) rfl (.cons (k := 9) rfl (.cons (k := 10) rfl (.cons (k := 11) rfl (.cons (k := 12) rfl (.cons (k := 127) rfl .nil)))))))))) ?_
                    refine V_cond_t rfl rfl ?_
                    refine V_region rfl ?_
                    refine L_go rfl (X_rd (r_loadA (vs := [_, _, _, _, _, _, _, _, _, _, _, _, _]) ag35 sz35 rfl rfl (by repeat first | exact mH | apply mT) rfl) ?_)
                    refine L_go rfl (X_wr (w_callP rfl rfl rfl (fun w hg => lwide_c ((ownT t x0 x1 k).getD boxZ) (ownT_bnd hG hu.2 hsm) w)) ?_)
                    rintro _ _ ⟨rfl, rfl⟩
                    refine L_go rfl (X_p (p_move rfl rfl) ?_)
                    refine L_go rfl (X_p (p_assign rfl rfl) ?_)
                    refine L_go rfl (X_p (p_assign rfl rfl) ?_)
                    refine L_keep (.cons (k := 2) rfl (.cons (k := 3) rfl (.cons (k := 5) rfl (.cons (k := 6) rfl (.cons (k := 7) rfl (.cons (k := 9) rfl (.cons (k := 10) rfl (.cons (k := 11) rfl .nil)))))))) (blk_n (then_n ?_))
                    refine V_region rfl ?_
                    refine L_go rfl (X_p (p_move rfl rfl) ?_)
                    first | refine L_go rfl (X_p (p_add' rfl rfl rfl (by unfold InI; omega)) ?_) | refine L_go rfl (X_p (p_add rfl rfl rfl) ?_)
                    refine L_go rfl (X_p (p_assign rfl rfl) ?_)
                    refine L_keep (.cons (k := 2) rfl (.cons (k := 3) rfl (.cons (k := 5) rfl (.cons (k := 6) rfl (.cons (k := 7) rfl (.cons (k := 9) rfl (.cons (k := 10) rfl (.cons (k := 11) rfl .nil)))))))) (then_n ?_)
                    refine ⟨(k + 1, wideB ((ownT t x0 x1 k).getD boxZ), k), ?_, ?_, (.cons rfl (.cons rfl (.cons rfl (.cons rfl (.cons rfl (.cons rfl (.cons rfl (.cons rfl (.nil _))))))))), (by repeat (first | exact List.nil_sublist _ | exact List.Sublist.refl _ | apply List.Sublist.cons_cons | apply List.Sublist.cons | apply List.sublist_append_of_sublist_right)), rfl⟩
                    · refine ⟨by omega, by omega, wideB ((ownT t x0 x1 k).getD boxZ), ?_, .inr rfl⟩
                      rw [bestN_succ hk0, hbn]
                      exact bestStep_yes hsm (by simp only [meetB, Bool.and_eq_true]; simp_all) (by omega)
                    · dsimp only; omega
                  · intro g7; have g7' := g7; try simp only [td] at g7'
                    refine L_yes rfl rfl rfl g7 (X_rd (r_loadA (vs := [_, _, _, _, _, _, _, _, _, _, _, _, _]) ag35 sz35 rfl rfl (by repeat first | exact mH | apply mT) rfl) ?_)
                    refine L_yes rfl rfl rfl g7 (X_wr (w_callP rfl rfl rfl (fun w hg => lwide_c ((ownT t x0 x1 k).getD boxZ) (ownT_bnd hG hu.2 hsm) w)) ?_)
                    rintro _ _ ⟨rfl, rfl⟩
                    refine L_yes rfl rfl rfl g7 (X_p (p_move rfl rfl) ?_)
                    refine L_yes rfl rfl rfl g7 (X_p (p_lss rfl rfl rfl) ?_)
                    refine L_go rfl (X_p (p_pick_f rfl rfl g7 rfl) ?_)
                    refine L_then (.cons (k := 2) rfl (.cons (k := 3) rfl (.cons (k := 5) rfl (.cons (k := 6) rfl (.cons (k := 7) rfl (.cons (k := 9) rfl (.cons (k := 10) rfl (.cons (k := 11) rfl (.cons (k := 12) rfl (.cons (k := 127) rfl .nil)))))))))) ?_
                    refine V_cond rfl ?_ ?_
                    · intro c3; have c3r := c3; try simp only [td] at c3
                      refine V_region rfl ?_
                      refine L_go rfl (X_rd (r_loadA (vs := [_, _, _, _, _, _, _, _, _, _, _, _, _]) ag35 sz35 rfl rfl (by repeat first | exact mH | apply mT) rfl) ?_)
                      refine L_go rfl (X_wr (w_callP rfl rfl rfl (fun w hg => lwide_c ((ownT t x0 x1 k).getD boxZ) (ownT_bnd hG hu.2 hsm) w)) ?_)
                      rintro _ _ ⟨rfl, rfl⟩
                      refine L_go rfl (X_p (p_move rfl rfl) ?_)
                      refine L_go rfl (X_p (p_assign rfl rfl) ?_)
                      refine L_go rfl (X_p (p_assign rfl rfl) ?_)
                      refine L_keep (.cons (k := 2) rfl (.cons (k := 3) rfl (.cons (k := 5) rfl (.cons (k := 6) rfl (.cons (k := 7) rfl (.cons (k := 9) rfl (.cons (k := 10) rfl (.cons (k := 11) rfl .nil)))))))) (blk_n (then_n ?_))
                      refine V_region rfl ?_
                      refine L_go rfl (X_p (p_move rfl rfl) ?_)
                      first | refine L_go rfl (X_p (p_add' rfl rfl rfl (by unfold InI; omega)) ?_) | refine L_go rfl (X_p (p_add rfl rfl rfl) ?_)
                      refine L_go rfl (X_p (p_assign rfl rfl) ?_)
                      refine L_keep (.cons (k := 2) rfl (.cons (k := 3) rfl (.cons (k := 5) rfl (.cons (k := 6) rfl (.cons (k := 7) rfl (.cons (k := 9) rfl (.cons (k := 10) rfl (.cons (k := 11) rfl .nil)))))))) (then_n ?_)
                      refine ⟨(k + 1, wideB ((ownT t x0 x1 k).getD boxZ), k), ?_, ?_, (.cons rfl (.cons rfl (.cons rfl (.cons rfl (.cons rfl (.cons rfl (.cons rfl (.cons rfl (.nil _))))))))), (by repeat (first | exact List.nil_sublist _ | exact List.Sublist.refl _ | apply List.Sublist.cons_cons | apply List.Sublist.cons | apply List.sublist_append_of_sublist_right)), rfl⟩
                      · refine ⟨by omega, by omega, wideB ((ownT t x0 x1 k).getD boxZ), ?_, .inr rfl⟩
                        rw [bestN_succ hk0, hbn]
                        exact bestStep_yes hsm (by simp only [meetB, Bool.and_eq_true]; simp_all) (by omega)
                      · dsimp only; omega
                    · intro c3; have c3r := c3; try simp only [td] at c3
                      refine V_skip (blk_n (then_n ?_))
                      refine V_region rfl ?_
                      refine L_go rfl (X_p (p_move rfl rfl) ?_)
                      first | refine L_go rfl (X_p (p_add' rfl rfl rfl (by unfold InI; omega)) ?_) | refine L_go rfl (X_p (p_add rfl rfl rfl) ?_)
                      refine L_go rfl (X_p (p_assign rfl rfl) ?_)
                      refine L_keep (.cons (k := 2) rfl (.cons (k := 3) rfl (.cons (k := 5) rfl (.cons (k := 6) rfl (.cons (k := 7) rfl (.cons (k := 9) rfl (.cons (k := 10) rfl (.cons (k := 11) rfl .nil)))))))) (then_n ?_)
                      refine ⟨(k + 1, l, f), ?_, ?_, (.cons rfl (.cons rfl (.cons rfl (.cons rfl (.cons rfl (.cons rfl (.cons rfl (.cons rfl (.nil _))))))))), (by repeat (first | exact List.nil_sublist _ | exact List.Sublist.refl _ | apply List.Sublist.cons_cons | apply List.Sublist.cons | apply List.sublist_append_of_sublist_right)), rfl⟩
                      · refine ⟨by omega, by omega, l2, ?_, hl⟩
                        rw [bestN_succ hk0, hbn]
                        exact bestStep_no hsm (by rintro ⟨_, ha⟩; omega)
                      · dsimp only; omega
  · intro c1; have c1r := c1; try simp only [td] at c1
    refine V_exit (then_e (then_e (blk_e rfl (then_n ?_))))
    refine V_seq (V_region rfl ?_)
    have ek : k.toNat = t.trackers.length := by omega
    rw [ek, hN0] at hbn
    obtain ⟨rfl, rfl⟩ := Prod.mk.inj hbn
    refine L_go rfl (X_p (p_move rfl rfl) ?_)
    refine L_go rfl (X_p (p_eql rfl rfl rfl) ?_)
    refine L_go rfl (X_p (p_move rfl rfl) ?_)
    refine L_go rfl (X_p (p_geq rfl rfl rfl) ?_)
    refine L_go rfl (X_p (p_eqlb un4 rfl rfl rfl) ?_)
    refine L_go rfl (X_p (p_move rfl rfl) ?_)
    refine L_yes rfl rfl rfl (by first | (simp; omega) | simp) (X_p (p_move rfl rfl) ?_)
    refine L_yes rfl rfl rfl (by first | (simp; omega) | simp) (X_p (p_neq rfl rfl rfl) ?_)
    refine L_yes rfl rfl rfl (by first | (simp; omega) | simp) (X_p (p_move rfl rfl) ?_)
    refine L_yes rfl rfl rfl rfl (X_p (p_move rfl rfl) ?_)
    refine L_yes rfl rfl rfl rfl (X_p (p_move rfl rfl) ?_)
    refine L_yes rfl rfl rfl rfl (X_p (p_eql rfl rfl rfl) ?_)
    refine L_yes rfl rfl rfl (by first | (simp; omega) | simp) (X_p (p_pick_f rfl rfl rfl rfl) ?_)
    refine L_go rfl (X_p (p_pick_t rfl rfl (by first | (simp; omega) | simp) rfl) ?_)
    refine L_go rfl (X_p (p_move rfl rfl) ?_)
    refine L_yes rfl rfl rfl (by simp) (X_wr (w_callP rfl rfl rfl (fun w hg => awake_c w)) ?_)
    rintro _ _ ⟨rfl, rfl⟩
    refine L_go rfl (X_p (p_pick_t rfl rfl (by simp) rfl) ?_)
    refine L_go rfl (X_p (p_assign rfl rfl) ?_)
    refine L_then (.cons (k := 4) rfl .nil) ?_
    refine V_ret ?_
    refine Leave.nil (.tmp rfl .nil) ?_
    rfl
theorem trackBest_c (t : Task) (tv pv : Value) (x0 x1 : Int) (w : World) (ht : TaskR w (.agg #[.int .i64 t.frm, .int .i64 t.speed, .int .i64 t.accel, tv, pv]) t) : FnP Try.prog 13 [.agg #[.int .i64 t.frm, .int .i64 t.speed, .int .i64 t.accel, tv, pv], .agg #[.int .i64 x0, .int .i64 x1]] w (.bool true) := by
  by_cases h : (spareP t x0 x1).2 = 0
  · obtain ⟨ha, hs⟩ := spareP_ok h
    cases hN : bestN t (spareP t x0 x1).1 x0 x1 t.trackers.length with
    | mk f l =>
      by_cases hf : f < 0
      · exact bestB t tv pv x0 x1 w ht ha _ hs f l hN hf
      · exact bestC t tv pv x0 x1 w ht ha _ hs f l hN hf
  · exact bestA t tv pv x0 x1 w ht h

theorem own_ : ownKnob Try.prog.godebug = none := by kernel_rfl

theorem trackBest_lifted (os : Os) (started : os.Started) (H : Type) (enc : TypeId × Value → H) :
    ReturnsInHanded {} Try.checked os 13 .any (Rows.trackBestSpec.pre6 enc Try.prog Try.f13 Rows.trackBestRow.domain false) (Rows.trackBestSpec.post enc Try.prog Try.f13 false true false false) := by
  refine returnsInHanded_of_change (C := Try.checked) own_ started (by kernel_rfl) Try.func13
    (ChangeSpec.witness6 (enc := enc) (C := Try.checked) false ⟨#[], #[.agg #[.int .i64 0, .int .i64 0, .int .i64 0, .slice none 0 0, .slice none 0 0], .agg #[.int .i64 0, .int .i64 0]], []⟩ 8 (by kernel_rfl) (by kernel_rfl) (by kernel_rfl) (by kernel_rfl)) ?_
  intro W base args ds gs before hval0 hW hcnd _
  have hval : ∀ (j : Nat) t v, Try.f13.params[j]? = some t → args[j]? = some v → Value.okWide Try.prog W .any base t v := hval0
  have hW' := hW
  obtain ⟨pA, pB, hA0, hV, rfl, _, _⟩ := hW
  have hA : DataW.TrodAll enc Try.prog W 0 (fun _ => true) true Try.f13.params.toList args.toList ds pA := hA0
  clear hA0 hval0
  rw [Try.params13] at hA hval
  obtain ⟨rfl, rfl⟩ := trodVars_none hV
  obtain ⟨v0, vs0, d0, ds0, p0, q0, ea0, rfl, rfl, h0, hA0⟩ := trodAll_cons hA
  obtain ⟨v1, vs1, d1, ds1, p1, q1, ea1, rfl, rfl, h1, hA1⟩ := trodAll_cons hA0
  obtain ⟨rfl, rfl, rfl⟩ := trodAll_nil hA1
  subst ea1
  have ea : args = #[v0, v1] := Array.toList_inj.1 ea0
  subst ea
  have k0 := hval 0 _ v0 rfl rfl
  have k1 := hval 1 _ v1 rfl rfl
  obtain ⟨T, tv, pv, rfl, hT⟩ := open_task (P := Try.prog) (by kernel_rfl) k0 h0
  obtain ⟨x0, x1, rfl⟩ := open_ints2 (P := Try.prog) (by kernel_rfl) k1 h1
  refine (calls_of (trackBest_c T tv pv x0 x1 W hT)).mono ?_
  rintro _ W' ⟨_, rfl, rfl, hE⟩
  exact ⟨_, rfl, post_true hW' rfl hE (by kernel_rfl) (by kernel_rfl) rfl rfl rfl (by kernel_rfl) Try.underlying4⟩

theorem trackBest_holds : Rows.TrackBestSaid :=
  OpenClaim.holds_of_wide 13 Try.f13 rfl rfl rfl rfl rfl rfl rfl ⟨rfl, rfl, rfl, rfl, rfl⟩ rfl rfl rfl rfl rfl (by kernel_rfl) Try.func13 (by kernel_rfl)
    (of_decide_eq_true (by kernel_rfl)) (by unfold Func.isWrapper; first | (rw [if_pos (by decide +kernel)]; kernel_rfl) | (rw [if_neg (by decide +kernel)]; exact ⟨rfl, rfl⟩))
    (fun os started H enc _ => trackBest_lifted os started H enc)
#print axioms trackBest_holds

end Go.Proofs.Ytclbbchehjapjaa
