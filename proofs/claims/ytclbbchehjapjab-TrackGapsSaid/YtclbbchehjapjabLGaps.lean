/- Ytclbbchehjapjab: TrackGaps is proved: for any task and numbers (no condition) it returns true. -/
import Derived.Test.YtclbbchehjapjabRows
import Derived.Test.YtclbbchehjapjabS1
import Derived.Test.YtclbbchehjapjabT19
import Derived.Test.YtclbbchehjapjabGa
import Derived.Test.YtclbbchehjapjabS
import Derived.ProofKit
set_option linter.all false
namespace Go.Proofs.Ytclbbchehjapjab
open Go.Vc Go.Tk Go.ChangeShapes Go.WideShapes Go.ChangeAt Go.RowKit
set_option maxRecDepth 100000
theorem gapsA (t : Task) (tv pv : Value) (x0 x1 x2 x3 y : Int) (hx3 : InI x3) (hy : 0 ≤ y ∧ y ≤ 65535) (w : World) (ht : TaskR w (.agg #[.int .i64 t.frm, .int .i64 t.speed, .int .i64 t.accel, tv, pv]) t) (h : gapsE t x0 x1 x2 x3 ≠ 0) : FnP Try.prog 4 [.agg #[.int .i64 t.frm, .int .i64 t.speed, .int .i64 t.accel, tv, pv], .agg #[.int .i64 x0, .int .i64 x1, .int .i64 x2, .int .i64 x3], .int .u16 y] w (.bool true) := by
  have e1 : gapsL t x0 x1 x2 x3 = [] := gapsL_bad h
  have e2 : gapsE t x0 x1 x2 x3 = gapsE t x0 x1 x2 x3 := rfl
  have hF1 : ∀ w', TaskR w' (.agg #[.int .i64 t.frm, .int .i64 t.speed, .int .i64 t.accel, tv, pv]) t → FnC Try.prog 14 [.agg #[.int .i64 t.frm, .int .i64 t.speed, .int .i64 t.accel, tv, pv], .int .i64 x0, .int .i64 x1, .int .i64 x2, .int .i64 x3] w' (fun v w'' => ∃ Hc, Vc.Good w' [] Hc w'' ∧ ∃ A G, Hc = A ++ G ∧ GapsOut 47 [] (fun sv => .tuple #[sv, .int .i64 (gapsE t x0 x1 x2 x3)]) v A G) := fun w' h => by
    have h1 := gaps_c t _ w' h x0 x1 x2 x3
    rw [e1, e2] at h1
    exact h1
  refine fn_pure Try.func4 rfl (by kernel_rfl) Try.ntmps4 Try.results4 rfl ?_
  refine V_seq (V_region rfl ?_)
  refine L_go rfl (X_wr (w_box rfl rfl) ?_)
  rintro _ _ ⟨b1, hb1, rfl, rfl⟩
  refine L_go rfl (X_wr (w_box rfl rfl) ?_)
  rintro _ _ ⟨b2, hb2, rfl, rfl⟩
  refine L_go rfl (X_p (p_assign rfl rfl) ?_)
  refine L_then (.cons (k := 2) rfl (.cons (k := 3) rfl (.cons (k := 4) rfl .nil))) ?_
  refine V_seq (V_region rfl ?_)
  refine L_go rfl (X_rd (r_loadA (vs := [_, _, _, _, _]) ag25 sz25 rfl rfl (by repeat first | exact mH | apply mT) rfl) ?_)
  refine L_go rfl (X_p (p_idxao ar41 rfl rfl rfl (by omega) (by omega)) ?_)
  refine L_go rfl (X_rd (r_load ag3 rfl rfl (by repeat first | exact mH | apply mT) rfl) ?_)
  refine L_go rfl (X_p (p_idxao ar41 rfl rfl rfl (by omega) (by omega)) ?_)
  refine L_go rfl (X_rd (r_load ag3 rfl rfl (by repeat first | exact mH | apply mT) rfl) ?_)
  refine L_go rfl (X_p (p_idxao ar41 rfl rfl rfl (by omega) (by omega)) ?_)
  refine L_go rfl (X_rd (r_load ag3 rfl rfl (by repeat first | exact mH | apply mT) rfl) ?_)
  refine L_go rfl (X_p (p_idxao ar41 rfl rfl rfl (by omega) (by omega)) ?_)
  refine L_go rfl (X_rd (r_load ag3 rfl rfl (by repeat first | exact mH | apply mT) rfl) ?_)
  refine L_go rfl (X_wr (w_callG (pre := [_, _]) rfl rfl rfl rfl (fun w hg => hF1 w (ht.good hg))) ?_)
  rintro _ _ ⟨_, G1, rfl, hfr1, sv1, rfl, rfl, hgr1⟩
  obtain ⟨sa1, sc1, rfl⟩ := Grow.form hgr1
  try simp only [List.cons_append, List.nil_append, List.append_nil]
  refine L_go rfl (X_p (p_move rfl rfl) ?_)
  refine L_go rfl (X_p (p_ext rfl rfl rfl) ?_)
  refine L_go rfl (X_p (p_ext rfl rfl rfl) ?_)
  refine L_go rfl (X_p (p_assign rfl rfl) ?_)
  refine L_go rfl (X_p (p_assign rfl rfl) ?_)
  refine L_then (.cons (k := 2) rfl (.cons (k := 3) rfl (.cons (k := 4) rfl (.cons (k := 7) rfl (.cons (k := 8) rfl .nil))))) ?_
  refine V_seq ?_
  refine V_seq (V_region rfl ?_)
  refine L_go rfl (X_p (p_move rfl rfl) ?_)
  refine L_go rfl (X_p (p_neq rfl rfl rfl) ?_)
  refine L_then (.cons (k := 2) rfl (.cons (k := 3) rfl (.cons (k := 4) rfl (.cons (k := 7) rfl (.cons (k := 32) rfl .nil))))) ?_
  refine V_cond_t rfl (by simp [h]) ?_
  refine V_seq (V_region rfl ?_)
  refine L_go rfl (X_p (p_move rfl rfl) ?_)
  refine L_go rfl (X_p (p_len isl43 rfl rfl) ?_)
  refine L_go rfl (X_p (p_eql rfl rfl rfl) ?_)
  refine L_go rfl (X_p (p_move rfl rfl) ?_)
  refine L_yes rfl rfl rfl (by simp) (X_wr (w_callP rfl rfl rfl (fun w hg => awake_c w)) ?_)
  rintro _ _ ⟨rfl, rfl⟩
  refine L_go rfl (X_p (p_pick_t rfl rfl (by simp) rfl) ?_)
  refine L_go rfl (X_p (p_assign rfl rfl) ?_)
  refine L_then (.cons (k := 6) rfl .nil) ?_
  refine V_ret (then_r ?_)
  refine Leave.nil (.tmp rfl .nil) ?_
  rfl
set_option maxHeartbeats 8000000 in
theorem gapsB (t : Task) (tv pv : Value) (x0 x1 x2 x3 y : Int) (hx3 : InI x3) (hy : 0 ≤ y ∧ y ≤ 65535) (w : World) (ht : TaskR w (.agg #[.int .i64 t.frm, .int .i64 t.speed, .int .i64 t.accel, tv, pv]) t) (h : gapsE t x0 x1 x2 x3 = 0) : FnP Try.prog 4 [.agg #[.int .i64 t.frm, .int .i64 t.speed, .int .i64 t.accel, tv, pv], .agg #[.int .i64 x0, .int .i64 x1, .int .i64 x2, .int .i64 x3], .int .u16 y] w (.bool true) := by
  obtain ⟨h0, hf0, hf1, hf2, hfl, hfw, hln⟩ := gapsE_ok h
  have hG := (asked_zero h0).1
  have hp2 : gapsE t x0 x1 x2 (x3 + y) = 0 := gapsE_wd h (by omega)
  have e1 := gapsL_ok h
  have e2 := h
  have e3 := gapsL_ok hp2
  have e4 := hp2
  have hok := gapsN_ok (t := t) (now := x2) (wd := x3) (frm := x0) (x1 - x0).toNat
  unfold InI at hx3
  have hL1 := gapsN_len (t := t) (now := x2) (wd := x3) (frm := x0) (x1 - x0).toNat
  have hL2 := gapsN_len (t := t) (now := x2) (wd := x3 + y) (frm := x0) (x1 - x0).toNat
  have hF1 : ∀ w', TaskR w' (.agg #[.int .i64 t.frm, .int .i64 t.speed, .int .i64 t.accel, tv, pv]) t → FnC Try.prog 14 [.agg #[.int .i64 t.frm, .int .i64 t.speed, .int .i64 t.accel, tv, pv], .int .i64 x0, .int .i64 x1, .int .i64 x2, .int .i64 x3] w' (fun v w'' => ∃ Hc, Vc.Good w' [] Hc w'' ∧ ∃ A G, Hc = A ++ G ∧ GapsOut 47 (gapsN t x2 x3 x0 (x1 - x0).toNat) (fun sv => .tuple #[sv, .int .i64 0]) v A G) := fun w' h => by
    have h1 := gaps_c t _ w' h x0 x1 x2 x3
    rw [e1, e2] at h1
    exact h1
  have hF2 : ∀ w', TaskR w' (.agg #[.int .i64 t.frm, .int .i64 t.speed, .int .i64 t.accel, tv, pv]) t → FnC Try.prog 14 [.agg #[.int .i64 t.frm, .int .i64 t.speed, .int .i64 t.accel, tv, pv], .int .i64 x0, .int .i64 x1, .int .i64 x2, .int .i64 (x3 + y)] w' (fun v w'' => ∃ Hc, Vc.Good w' [] Hc w'' ∧ ∃ A G, Hc = A ++ G ∧ GapsOut 47 (gapsN t x2 (x3 + y) x0 (x1 - x0).toNat) (fun sv => .tuple #[sv, .int .i64 0]) v A G) := fun w' h => by
    have h1 := gaps_c t _ w' h x0 x1 x2 (x3 + y)
    rw [e3, e4] at h1
    exact h1
  refine fn_pure Try.func4 rfl (by kernel_rfl) Try.ntmps4 Try.results4 rfl ?_
  refine V_seq (V_region rfl ?_)
  refine L_go rfl (X_wr (w_box rfl rfl) ?_)
  rintro _ _ ⟨b1, hb1, rfl, rfl⟩
  refine L_go rfl (X_wr (w_box rfl rfl) ?_)
  rintro _ _ ⟨b2, hb2, rfl, rfl⟩
  refine L_go rfl (X_p (p_assign rfl rfl) ?_)
  refine L_then (.cons (k := 2) rfl (.cons (k := 3) rfl (.cons (k := 4) rfl .nil))) ?_
  refine V_seq (V_region rfl ?_)
  refine L_go rfl (X_rd (r_loadA (vs := [_, _, _, _, _]) ag25 sz25 rfl rfl (by repeat first | exact mH | apply mT | apply List.mem_append_right) rfl) ?_)
  refine L_go rfl (X_p (p_idxao ar41 rfl rfl rfl (by omega) (by omega)) ?_)
  refine L_go rfl (X_rd (r_load ag3 rfl rfl (by repeat first | exact mH | apply mT | apply List.mem_append_right) rfl) ?_)
  refine L_go rfl (X_p (p_idxao ar41 rfl rfl rfl (by omega) (by omega)) ?_)
  refine L_go rfl (X_rd (r_load ag3 rfl rfl (by repeat first | exact mH | apply mT | apply List.mem_append_right) rfl) ?_)
  refine L_go rfl (X_p (p_idxao ar41 rfl rfl rfl (by omega) (by omega)) ?_)
  refine L_go rfl (X_rd (r_load ag3 rfl rfl (by repeat first | exact mH | apply mT | apply List.mem_append_right) rfl) ?_)
  refine L_go rfl (X_p (p_idxao ar41 rfl rfl rfl (by omega) (by omega)) ?_)
  refine L_go rfl (X_rd (r_load ag3 rfl rfl (by repeat first | exact mH | apply mT | apply List.mem_append_right) rfl) ?_)
  refine L_go rfl (X_wr (w_callG (pre := [_, _]) rfl rfl rfl rfl (fun w hg => hF1 w (ht.good hg))) ?_)
  rintro _ _ ⟨_, G1, rfl, hfr1, sv1, rfl, rfl, hgr1⟩
  obtain ⟨sa1, sc1, rfl⟩ := Grow.form hgr1
  try simp only [List.cons_append, List.nil_append, List.append_nil]
  refine L_go rfl (X_p (p_move rfl rfl) ?_)
  refine L_go rfl (X_p (p_ext rfl rfl rfl) ?_)
  refine L_go rfl (X_p (p_ext rfl rfl rfl) ?_)
  refine L_go rfl (X_p (p_assign rfl rfl) ?_)
  refine L_go rfl (X_p (p_assign rfl rfl) ?_)
  refine L_then (.cons (k := 2) rfl (.cons (k := 3) rfl (.cons (k := 4) rfl (.cons (k := 7) rfl (.cons (k := 8) rfl .nil))))) ?_
  refine V_seq ?_
  refine V_seq (V_region rfl ?_)
  refine L_go rfl (X_p (p_move rfl rfl) ?_)
  refine L_go rfl (X_p (p_neq rfl rfl rfl) ?_)
  refine L_then (.cons (k := 2) rfl (.cons (k := 3) rfl (.cons (k := 4) rfl (.cons (k := 7) rfl (.cons (k := 32) rfl .nil))))) ?_
  refine V_cond_f rfl rfl ?_
  refine V_skip (then_n ?_)
  refine V_seq ?_
  refine V_seq (V_region rfl ?_)
  refine L_go rfl (X_p (p_idxao ar41 rfl rfl rfl (by omega) (by omega)) ?_)
  refine L_go rfl (X_rd (r_load ag3 rfl rfl (by repeat first | exact mH | apply mT | apply List.mem_append_right) rfl) ?_)
  refine L_go rfl (X_p (p_idxao ar41 rfl rfl rfl (by omega) (by omega)) ?_)
  refine L_go rfl (X_rd (r_load ag3 rfl rfl (by repeat first | exact mH | apply mT | apply List.mem_append_right) rfl) ?_)
  first | refine L_go rfl (X_p (p_sub' rfl rfl rfl (by unfold InI; omega)) ?_) | refine L_go rfl (X_p (p_sub rfl rfl rfl) ?_)
  refine L_go rfl (X_p (p_gtr rfl rfl rfl) ?_)
  refine L_go rfl (X_p (p_move rfl rfl) ?_)
  refine L_cases (d := 45) rfl ?_ ?_
  · intro g1; have g1' := g1; try simp only [td] at g1'
    refine L_no rfl rfl rfl g1 ?_
    refine L_no rfl rfl rfl g1 ?_
    refine L_no rfl rfl rfl g1 ?_
    refine L_go rfl (X_p (p_pick_t rfl rfl g1 rfl) ?_)
    refine L_then (.cons (k := 2) rfl (.cons (k := 3) rfl (.cons (k := 4) rfl (.cons (k := 7) rfl (.cons (k := 49) rfl .nil))))) ?_
    refine V_cond_t rfl rfl ?_
    refine V_seq (V_region rfl ?_)
    refine L_go rfl (X_wr (w_callP rfl rfl rfl (fun w hg => awake_c w)) ?_)
    rintro _ _ ⟨rfl, rfl⟩
    refine L_go rfl (X_p (p_assign rfl rfl) ?_)
    refine L_then (.cons (k := 6) rfl .nil) ?_
    refine V_ret (then_r ?_)
    refine Leave.nil (.tmp rfl .nil) ?_
    rfl
  · intro g1; have g1' := g1; try simp only [td] at g1'
    refine L_yes rfl rfl rfl g1 (X_p (p_idxao ar41 rfl rfl rfl (by omega) (by omega)) ?_)
    refine L_yes rfl rfl rfl g1 (X_rd (r_load ag3 rfl rfl (by repeat first | exact mH | apply mT | apply List.mem_append_right) rfl) ?_)
    refine L_yes rfl rfl rfl g1 (X_p (p_gtr rfl rfl rfl) ?_)
    refine L_go rfl (X_p (p_pick_f rfl rfl g1 rfl) ?_)
    refine L_then (.cons (k := 2) rfl (.cons (k := 3) rfl (.cons (k := 4) rfl (.cons (k := 7) rfl (.cons (k := 49) rfl .nil))))) ?_
    refine V_cond rfl ?_ ?_
    · intro c1; have c1r := c1; try simp only [td] at c1
      refine V_seq (V_region rfl ?_)
      refine L_go rfl (X_wr (w_callP rfl rfl rfl (fun w hg => awake_c w)) ?_)
      rintro _ _ ⟨rfl, rfl⟩
      refine L_go rfl (X_p (p_assign rfl rfl) ?_)
      refine L_then (.cons (k := 6) rfl .nil) ?_
      refine V_ret (then_r ?_)
      refine Leave.nil (.tmp rfl .nil) ?_
      rfl
    · intro c1; have c1r := c1; try simp only [td] at c1
      refine V_skip (then_n ?_)
      refine V_seq (V_region rfl ?_)
      refine L_go rfl (X_rd (r_loadA (vs := [_, _, _, _, _]) ag25 sz25 rfl rfl (by repeat first | exact mH | apply mT | apply List.mem_append_right) rfl) ?_)
      refine L_go rfl (X_p (p_idxao ar41 rfl rfl rfl (by omega) (by omega)) ?_)
      refine L_go rfl (X_rd (r_load ag3 rfl rfl (by repeat first | exact mH | apply mT | apply List.mem_append_right) rfl) ?_)
      refine L_go rfl (X_p (p_idxao ar41 rfl rfl rfl (by omega) (by omega)) ?_)
      refine L_go rfl (X_rd (r_load ag3 rfl rfl (by repeat first | exact mH | apply mT | apply List.mem_append_right) rfl) ?_)
      refine L_go rfl (X_p (p_idxao ar41 rfl rfl rfl (by omega) (by omega)) ?_)
      refine L_go rfl (X_rd (r_load ag3 rfl rfl (by repeat first | exact mH | apply mT | apply List.mem_append_right) rfl) ?_)
      refine L_go rfl (X_p (p_idxao ar41 rfl rfl rfl (by omega) (by omega)) ?_)
      refine L_go rfl (X_rd (r_load ag3 rfl rfl (by repeat first | exact mH | apply mT | apply List.mem_append_right) rfl) ?_)
      refine L_go rfl (X_p (p_move rfl rfl) ?_)
      refine L_go rfl (X_p (p_convI un42 un3 rfl rfl (by unfold InI; omega)) ?_)
      first | refine L_go rfl (X_p (p_add' rfl rfl rfl (by unfold InI; omega)) ?_) | refine L_go rfl (X_p (p_add rfl rfl rfl) ?_)
      refine L_go rfl (X_wr (w_callG (pre := [_, _]) rfl rfl rfl rfl (fun w hg => hF2 w (ht.good hg))) ?_)
      rintro _ _ ⟨_, G2, rfl, hfr2, sv2, rfl, rfl, hgr2⟩
      obtain ⟨sa2, sc2, rfl⟩ := Grow.form hgr2
      try simp only [List.cons_append, List.nil_append, List.append_nil]
      refine L_go rfl (X_p (p_move rfl rfl) ?_)
      refine L_go rfl (X_p (p_ext rfl rfl rfl) ?_)
      refine L_go rfl (X_p (p_ext rfl rfl rfl) ?_)
      refine L_go rfl (X_p (p_assign rfl rfl) ?_)
      refine L_go rfl (X_p (p_assign rfl rfl) ?_)
      refine L_then (.cons (k := 3) rfl (.cons (k := 4) rfl (.cons (k := 7) rfl (.cons (k := 8) rfl (.cons (k := 9) rfl .nil))))) ?_
      refine V_seq ?_
      refine V_seq (V_region rfl ?_)
      refine L_go rfl (X_p (p_move rfl rfl) ?_)
      refine L_go rfl (X_p (p_neq rfl rfl rfl) ?_)
      refine L_then (.cons (k := 3) rfl (.cons (k := 4) rfl (.cons (k := 7) rfl (.cons (k := 9) rfl (.cons (k := 68) rfl .nil))))) ?_
      refine V_cond_f rfl rfl ?_
      refine V_skip (then_n ?_)
      refine V_seq ?_
      refine V_seq (V_region rfl ?_)
      refine L_go rfl (X_p (p_idxao ar41 rfl rfl rfl (by omega) (by omega)) ?_)
      refine L_go rfl (X_rd (r_load ag3 rfl rfl (by repeat first | exact mH | apply mT | apply List.mem_append_right) rfl) ?_)
      refine L_go rfl (X_p (p_assign rfl rfl) ?_)
      refine L_then (.cons (k := 3) rfl (.cons (k := 4) rfl (.cons (k := 7) rfl (.cons (k := 9) rfl (.cons (k := 10) rfl .nil))))) ?_
      refine V_block ?_
      refine V_loop0 (γ := Int) (.cons (k := 3) rfl (.cons (k := 4) rfl (.cons (k := 7) rfl (.cons (k := 9) rfl .nil)))) (fun u => [(10, .int .i64 u)]) (fun u => x0 ≤ u ∧ u ≤ x1) (fun u => (x1 - u).toNat) (x0) (.cons rfl (.nil _)) (⟨by omega, by omega⟩) ?_
      rintro u hi
      obtain ⟨hu0, hu1⟩ := hi
      refine V_seq ?_
      refine V_seq (V_region rfl ?_)
      refine L_go rfl (X_p (p_move rfl rfl) ?_)
      refine L_go rfl (X_p (p_idxao ar41 rfl rfl rfl (by omega) (by omega)) ?_)
      refine L_go rfl (X_rd (r_load ag3 rfl rfl (by repeat first | exact mH | apply mT | apply List.mem_append_right) rfl) ?_)
      refine L_go rfl (X_p (p_lss rfl rfl rfl) ?_)
      refine L_then (.cons (k := 3) rfl (.cons (k := 4) rfl (.cons (k := 7) rfl (.cons (k := 9) rfl (.cons (k := 10) rfl (.cons (k := 74) rfl .nil)))))) ?_
      refine V_cond rfl ?_ ?_
      · intro c2; have c2r := c2; try simp only [td] at c2
        refine V_skip (then_n ?_)
        refine V_seq ?_
        refine V_block ?_
        refine V_seq (V_region rfl ?_)
        refine L_go rfl (X_rd (r_loadA (vs := [_, _, _, _, _]) ag25 sz25 rfl rfl (by repeat first | exact mH | apply mT | apply List.mem_append_right) rfl) ?_)
        refine L_go rfl (X_p (p_move rfl rfl) ?_)
        refine L_go rfl (X_p (p_idxao ar41 rfl rfl rfl (by omega) (by omega)) ?_)
        refine L_go rfl (X_rd (r_load ag3 rfl rfl (by repeat first | exact mH | apply mT | apply List.mem_append_right) rfl) ?_)
        refine L_go rfl (X_wr (w_callP rfl rfl rfl (fun w hg => (show FnP _ _ _ w (.tuple #[.agg (Box.cells ((spareT t u x2).getD boxZ)).toArray, .int .i64 (if (spareT t u x2).isSome then 0 else 9)]) from by have h1 := spareR_c t _ _ u x2 w (ht.good hg); rw [spareR_eq, spare_in h ⟨hu0, by omega⟩] at h1; exact h1))) ?_)
        rintro _ _ ⟨rfl, rfl⟩
        refine L_go rfl (X_p (p_move rfl rfl) ?_)
        refine L_go rfl (X_p (p_ext rfl rfl rfl) ?_)
        refine L_go rfl (X_p (p_ext rfl rfl rfl) ?_)
        refine L_go rfl (X_wr (w_alloc zr34 rfl) ?_)
        rintro _ _ ⟨b5, hb5, rfl, rfl⟩
        refine L_go rfl (X_wr (w_store (cs' := [_, _, _, _, _, _, _, _, _, _, _, _, _]) sz34 rfl rfl rfl rfl rfl (by repeat first | exact .head | apply SetAt.tail) (Nat.le_of_ble_eq_true rfl) rfl) ?_)
        rintro _ _ ⟨rfl, rfl⟩
        refine L_go rfl (X_p (p_assign rfl rfl) ?_)
        refine L_then (.cons (k := 3) rfl (.cons (k := 4) rfl (.cons (k := 7) rfl (.cons (k := 9) rfl (.cons (k := 10) rfl (.cons (k := 11) rfl (.cons (k := 12) rfl .nil))))))) ?_
        refine V_seq (V_region rfl ?_)
        refine L_go rfl (X_p (p_assign rfl rfl) ?_)
        refine L_go rfl (X_p (p_assign rfl rfl) ?_)
        refine L_then (.cons (k := 3) rfl (.cons (k := 4) rfl (.cons (k := 7) rfl (.cons (k := 9) rfl (.cons (k := 10) rfl (.cons (k := 11) rfl (.cons (k := 12) rfl (.cons (k := 13) rfl (.cons (k := 14) rfl .nil))))))))) ?_
        refine V_seq ?_
        refine V_seq (V_region rfl ?_)
        refine L_go rfl (X_p (p_assign rfl rfl) ?_)
        refine L_then (.cons (k := 3) rfl (.cons (k := 4) rfl (.cons (k := 7) rfl (.cons (k := 9) rfl (.cons (k := 10) rfl (.cons (k := 11) rfl (.cons (k := 12) rfl (.cons (k := 13) rfl (.cons (k := 14) rfl (.cons (k := 15) rfl .nil)))))))))) ?_
        refine V_block ?_
        refine V_loop1 (γ := Int × Bool) (.cons (k := 3) rfl (.cons (k := 4) rfl (.cons (k := 7) rfl (.cons (k := 9) rfl (.cons (k := 10) rfl (.cons (k := 11) rfl (.cons (k := 12) rfl (.cons (k := 14) rfl .nil)))))))) (fun (i, bb) => [(15, .int .i64 i), (13, .bool bb)]) (fun (i, bb) => (b5, .cells (Box.cells ((spareT t u x2).getD boxZ)).toArray 34) :: (b2, .cells #[.int .i64 x0, .int .i64 x1, .int .i64 x2, .int .i64 x3] 41) :: (b1, t.obj tv pv 25) :: (G2 ++ G1)) (fun (i, bb) => 0 ≤ i ∧ i ≤ (gapsN t x2 x3 x0 (x1 - x0).toNat).length ∧ bb = ((gapsN t x2 x3 x0 (x1 - x0).toNat).take i.toNat).any (cov u)) (fun (i, bb) => ((gapsN t x2 x3 x0 (x1 - x0).toNat).length - i).toNat) ((0, false)) (.cons rfl (.cons rfl (.nil _))) (by repeat (first | exact List.nil_sublist _ | exact List.Sublist.refl _ | apply List.Sublist.cons_cons | apply List.Sublist.cons)) (⟨by omega, by omega, rfl⟩) ?_
        rintro ⟨i, bb⟩ hi
        obtain ⟨hi0, hi1, hbb⟩ := hi
        refine V_seq ?_
        refine V_seq (V_region rfl ?_)
        refine L_go rfl (X_p (p_move rfl rfl) ?_)
        refine L_go rfl (X_p (p_move rfl rfl) ?_)
        refine L_go rfl (X_p (p_len isl43 rfl rfl) ?_)
        refine L_go rfl (X_p (p_lss rfl rfl rfl) ?_)
        refine L_then (.cons (k := 3) rfl (.cons (k := 4) rfl (.cons (k := 7) rfl (.cons (k := 9) rfl (.cons (k := 10) rfl (.cons (k := 11) rfl (.cons (k := 12) rfl (.cons (k := 13) rfl (.cons (k := 14) rfl (.cons (k := 15) rfl (.cons (k := 88) rfl .nil))))))))))) ?_
        refine V_cond rfl ?_ ?_
        · intro c3; have c3r := c3; try simp only [td] at c3
          obtain ⟨gb, cur, rfl, rfl, hcur, hcs, hgn, hgm⟩ := Grow.form2 hgr1 (by omega)
          refine V_skip (then_n ?_)
          refine V_seq ?_
          refine V_block ?_
          refine V_region rfl ?_
          refine L_go rfl (X_p (p_move rfl rfl) ?_)
          refine L_go rfl (X_p (p_move rfl rfl) ?_)
          refine L_cases (d := 92) rfl ?_ ?_
          · intro g2; have g2' := g2; try simp only [td] at g2'
            refine L_no rfl rfl rfl g2 ?_
            refine L_no rfl rfl rfl g2 ?_
            refine L_no rfl rfl rfl g2 ?_
            refine L_no rfl rfl rfl g2 ?_
            refine L_no rfl rfl rfl g2 ?_
            refine L_no rfl rfl rfl g2 ?_
            refine L_no rfl rfl rfl g2 ?_
            refine L_no rfl rfl rfl g2 ?_
            refine L_nou rfl rfl rfl ?_
            refine L_nou rfl rfl rfl ?_
            refine L_nou rfl rfl rfl ?_
            refine L_nou rfl rfl rfl ?_
            refine L_nou rfl rfl rfl ?_
            refine L_nou rfl rfl rfl ?_
            refine L_nou rfl rfl rfl ?_
            refine L_no rfl rfl rfl g2 ?_
            refine L_go rfl (X_p (p_pick_t rfl rfl g2 rfl) ?_)
            refine L_go rfl (X_p (p_assign rfl rfl) ?_)
            refine L_keep (.cons (k := 3) rfl (.cons (k := 4) rfl (.cons (k := 7) rfl (.cons (k := 9) rfl (.cons (k := 10) rfl (.cons (k := 11) rfl (.cons (k := 12) rfl (.cons (k := 13) rfl (.cons (k := 14) rfl (.cons (k := 15) rfl .nil)))))))))) (blk_n (then_n ?_))
            refine V_region rfl ?_
            refine L_go rfl (X_p (p_move rfl rfl) ?_)
            first | refine L_go rfl (X_p (p_add' rfl rfl rfl (by unfold InI; omega)) ?_) | refine L_go rfl (X_p (p_add rfl rfl rfl) ?_)
            refine L_go rfl (X_p (p_assign rfl rfl) ?_)
            refine L_keep (.cons (k := 3) rfl (.cons (k := 4) rfl (.cons (k := 7) rfl (.cons (k := 9) rfl (.cons (k := 10) rfl (.cons (k := 11) rfl (.cons (k := 12) rfl (.cons (k := 13) rfl (.cons (k := 14) rfl (.cons (k := 15) rfl .nil)))))))))) (then_n ?_)
            refine ⟨(i + 1, true), ?_, ?_, (.cons rfl (.cons rfl (.cons rfl (.cons rfl (.cons rfl (.cons rfl (.cons rfl (.cons rfl (.cons rfl (.cons rfl (.nil _))))))))))), (by repeat (first | exact List.nil_sublist _ | exact List.Sublist.refl _ | apply List.Sublist.cons_cons | apply List.Sublist.cons | apply List.sublist_append_of_sublist_right)), rfl⟩
            · refine ⟨by omega, by omega, ?_⟩
              have e : (i + 1).toNat = i.toNat + 1 := by omega
              rw [e, any_take_succ (d := (0, 0)) (by omega), ← hbb, g2, Bool.true_or]
            · dsimp only; omega
          · intro g2; have g2' := g2; try simp only [td] at g2'
            refine L_yes rfl rfl rfl g2 (X_p (p_move rfl rfl) ?_)
            refine L_yes rfl rfl rfl g2 (X_p (p_move rfl rfl) ?_)
            refine L_yes rfl rfl rfl g2 (X_p (p_idxo es43 rfl rfl rfl (by omega) (by omega)) ?_)
            refine L_yes rfl rfl rfl g2 (X_p (p_fieldo fo47_0 rfl rfl) ?_)
            refine L_yes rfl rfl rfl g2 (X_rd (r_load ag3 rfl rfl (by repeat first | exact mH | apply mT | apply List.mem_append_right) (v := .int .i64 ((gapsN t x2 x3 x0 (x1 - x0).toNat).getD i.toNat (0, 0)).1) (cur_at hcur (gapV_at (by omega)).2)) ?_)
            refine L_yes rfl rfl rfl g2 (X_p (p_move rfl rfl) ?_)
            refine L_yes rfl rfl rfl g2 (X_p (p_leq rfl rfl rfl) ?_)
            refine L_yes rfl rfl rfl g2 (X_p (p_move rfl rfl) ?_)
            refine L_cases (d := 100) rfl ?_ ?_
            · intro g3; have g3' := g3; try simp only [td] at g3'
              refine L_yes rfl rfl rfl g3 (X_p (p_move rfl rfl) ?_)
              refine L_yes rfl rfl rfl g3 (X_p (p_move rfl rfl) ?_)
              refine L_yes rfl rfl rfl g3 (X_p (p_move rfl rfl) ?_)
              refine L_yes rfl rfl rfl g3 (X_p (p_idxo es43 rfl rfl rfl (by omega) (by omega)) ?_)
              refine L_yes rfl rfl rfl g3 (X_p (p_fieldo fo47_1 rfl rfl) ?_)
              refine L_yes rfl rfl rfl g3 (X_rd (r_load ag3 rfl rfl (by repeat first | exact mH | apply mT | apply List.mem_append_right) (v := .int .i64 ((gapsN t x2 x3 x0 (x1 - x0).toNat).getD i.toNat (0, 0)).2) (cur_at hcur (gapV_at (by omega)).1)) ?_)
              refine L_yes rfl rfl rfl g3 (X_p (p_lss rfl rfl rfl) ?_)
              refine L_yes rfl rfl rfl g2 (X_p (p_pick_t rfl rfl g3 rfl) ?_)
              refine L_go rfl (X_p (p_pick_f rfl rfl g2 rfl) ?_)
              refine L_go rfl (X_p (p_assign rfl rfl) ?_)
              refine L_keep (.cons (k := 3) rfl (.cons (k := 4) rfl (.cons (k := 7) rfl (.cons (k := 9) rfl (.cons (k := 10) rfl (.cons (k := 11) rfl (.cons (k := 12) rfl (.cons (k := 13) rfl (.cons (k := 14) rfl (.cons (k := 15) rfl .nil)))))))))) (blk_n (then_n ?_))
              refine V_region rfl ?_
              refine L_go rfl (X_p (p_move rfl rfl) ?_)
              first | refine L_go rfl (X_p (p_add' rfl rfl rfl (by unfold InI; omega)) ?_) | refine L_go rfl (X_p (p_add rfl rfl rfl) ?_)
              refine L_go rfl (X_p (p_assign rfl rfl) ?_)
              refine L_keep (.cons (k := 3) rfl (.cons (k := 4) rfl (.cons (k := 7) rfl (.cons (k := 9) rfl (.cons (k := 10) rfl (.cons (k := 11) rfl (.cons (k := 12) rfl (.cons (k := 13) rfl (.cons (k := 14) rfl (.cons (k := 15) rfl .nil)))))))))) (then_n ?_)
              refine ⟨(i + 1, decide (u < ((gapsN t x2 x3 x0 (x1 - x0).toNat).getD i.toNat (0, 0)).2)), ?_, ?_, (.cons rfl (.cons rfl (.cons rfl (.cons rfl (.cons rfl (.cons rfl (.cons rfl (.cons rfl (.cons rfl (.cons rfl (.nil _))))))))))), (by repeat (first | exact List.nil_sublist _ | exact List.Sublist.refl _ | apply List.Sublist.cons_cons | apply List.Sublist.cons | apply List.sublist_append_of_sublist_right)), rfl⟩
              · refine ⟨by omega, by omega, ?_⟩
                have e : (i + 1).toNat = i.toNat + 1 := by omega
                rw [e, any_take_succ (d := (0, 0)) (by omega), ← hbb, g2, Bool.false_or, cov, decide_eq_true g3', Bool.true_and]
              · dsimp only; omega
            · intro g3; have g3' := g3; try simp only [td] at g3'
              refine L_no rfl rfl rfl g3 ?_
              refine L_no rfl rfl rfl g3 ?_
              refine L_no rfl rfl rfl g3 ?_
              refine L_no rfl rfl rfl g3 ?_
              refine L_no rfl rfl rfl g3 ?_
              refine L_no rfl rfl rfl g3 ?_
              refine L_no rfl rfl rfl g3 ?_
              refine L_yes rfl rfl rfl g2 (X_p (p_pick_f rfl rfl g3 rfl) ?_)
              refine L_go rfl (X_p (p_pick_f rfl rfl g2 rfl) ?_)
              refine L_go rfl (X_p (p_assign rfl rfl) ?_)
              refine L_keep (.cons (k := 3) rfl (.cons (k := 4) rfl (.cons (k := 7) rfl (.cons (k := 9) rfl (.cons (k := 10) rfl (.cons (k := 11) rfl (.cons (k := 12) rfl (.cons (k := 13) rfl (.cons (k := 14) rfl (.cons (k := 15) rfl .nil)))))))))) (blk_n (then_n ?_))
              refine V_region rfl ?_
              refine L_go rfl (X_p (p_move rfl rfl) ?_)
              first | refine L_go rfl (X_p (p_add' rfl rfl rfl (by unfold InI; omega)) ?_) | refine L_go rfl (X_p (p_add rfl rfl rfl) ?_)
              refine L_go rfl (X_p (p_assign rfl rfl) ?_)
              refine L_keep (.cons (k := 3) rfl (.cons (k := 4) rfl (.cons (k := 7) rfl (.cons (k := 9) rfl (.cons (k := 10) rfl (.cons (k := 11) rfl (.cons (k := 12) rfl (.cons (k := 13) rfl (.cons (k := 14) rfl (.cons (k := 15) rfl .nil)))))))))) (then_n ?_)
              refine ⟨(i + 1, false), ?_, ?_, (.cons rfl (.cons rfl (.cons rfl (.cons rfl (.cons rfl (.cons rfl (.cons rfl (.cons rfl (.cons rfl (.cons rfl (.nil _))))))))))), (by repeat (first | exact List.nil_sublist _ | exact List.Sublist.refl _ | apply List.Sublist.cons_cons | apply List.Sublist.cons | apply List.sublist_append_of_sublist_right)), rfl⟩
              · refine ⟨by omega, by omega, ?_⟩
                have e : (i + 1).toNat = i.toNat + 1 := by omega
                rw [e, any_take_succ (d := (0, 0)) (by omega), ← hbb, g2, Bool.false_or, cov, decide_eq_false (Int.not_le.2 g3'), Bool.false_and]
              · dsimp only; omega
        · intro c3; have c3r := c3; try simp only [td] at c3
          have hb1 : bb = !(okGap t u x2 x3) := by rw [hbb, List.take_of_length_le (by omega)]; exact gap_cov hfl ⟨hu0, by omega⟩
          refine V_exit (then_e (then_e (blk_e rfl (then_n ?_))))
          refine V_seq ?_
          refine V_seq (V_region rfl ?_)
          refine L_go rfl (X_p (p_assign rfl rfl) ?_)
          refine L_then (.cons (k := 3) rfl (.cons (k := 4) rfl (.cons (k := 7) rfl (.cons (k := 9) rfl (.cons (k := 10) rfl (.cons (k := 11) rfl (.cons (k := 12) rfl (.cons (k := 13) rfl (.cons (k := 14) rfl (.cons (k := 16) rfl .nil)))))))))) ?_
          refine V_block ?_
          refine V_loop1 (γ := Int × Bool) (.cons (k := 3) rfl (.cons (k := 4) rfl (.cons (k := 7) rfl (.cons (k := 9) rfl (.cons (k := 10) rfl (.cons (k := 11) rfl (.cons (k := 12) rfl (.cons (k := 13) rfl .nil)))))))) (fun (i, bb) => [(16, .int .i64 i), (14, .bool bb)]) (fun (i, bb) => (b5, .cells (Box.cells ((spareT t u x2).getD boxZ)).toArray 34) :: (b2, .cells #[.int .i64 x0, .int .i64 x1, .int .i64 x2, .int .i64 x3] 41) :: (b1, t.obj tv pv 25) :: (G2 ++ G1)) (fun (i, bb) => 0 ≤ i ∧ i ≤ (gapsN t x2 (x3 + y) x0 (x1 - x0).toNat).length ∧ bb = ((gapsN t x2 (x3 + y) x0 (x1 - x0).toNat).take i.toNat).any (cov u)) (fun (i, bb) => ((gapsN t x2 (x3 + y) x0 (x1 - x0).toNat).length - i).toNat) ((0, false)) (.cons rfl (.cons rfl (.nil _))) (by repeat (first | exact List.nil_sublist _ | exact List.Sublist.refl _ | apply List.Sublist.cons_cons | apply List.Sublist.cons)) (⟨by omega, by omega, rfl⟩) ?_
          rintro ⟨i, bb⟩ hi
          obtain ⟨hi0, hi1, hbb⟩ := hi
          refine V_seq ?_
          refine V_seq (V_region rfl ?_)
          refine L_go rfl (X_p (p_move rfl rfl) ?_)
          refine L_go rfl (X_p (p_move rfl rfl) ?_)
          refine L_go rfl (X_p (p_len isl43 rfl rfl) ?_)
          refine L_go rfl (X_p (p_lss rfl rfl rfl) ?_)
          refine L_then (.cons (k := 3) rfl (.cons (k := 4) rfl (.cons (k := 7) rfl (.cons (k := 9) rfl (.cons (k := 10) rfl (.cons (k := 11) rfl (.cons (k := 12) rfl (.cons (k := 13) rfl (.cons (k := 14) rfl (.cons (k := 16) rfl (.cons (k := 113) rfl .nil))))))))))) ?_
          refine V_cond rfl ?_ ?_
          · intro c4; have c4r := c4; try simp only [td] at c4
            obtain ⟨gb, cur, rfl, rfl, hcur, hcs, hgn, hgm⟩ := Grow.form2 hgr2 (by omega)
            refine V_skip (then_n ?_)
            refine V_seq ?_
            refine V_block ?_
            refine V_region rfl ?_
            refine L_go rfl (X_p (p_move rfl rfl) ?_)
            refine L_go rfl (X_p (p_move rfl rfl) ?_)
            refine L_cases (d := 117) rfl ?_ ?_
            · intro g4; have g4' := g4; try simp only [td] at g4'
              refine L_no rfl rfl rfl g4 ?_
              refine L_no rfl rfl rfl g4 ?_
              refine L_no rfl rfl rfl g4 ?_
              refine L_no rfl rfl rfl g4 ?_
              refine L_no rfl rfl rfl g4 ?_
              refine L_no rfl rfl rfl g4 ?_
              refine L_no rfl rfl rfl g4 ?_
              refine L_no rfl rfl rfl g4 ?_
              refine L_nou rfl rfl rfl ?_
              refine L_nou rfl rfl rfl ?_
              refine L_nou rfl rfl rfl ?_
              refine L_nou rfl rfl rfl ?_
              refine L_nou rfl rfl rfl ?_
              refine L_nou rfl rfl rfl ?_
              refine L_nou rfl rfl rfl ?_
              refine L_no rfl rfl rfl g4 ?_
              refine L_go rfl (X_p (p_pick_t rfl rfl g4 rfl) ?_)
              refine L_go rfl (X_p (p_assign rfl rfl) ?_)
              refine L_keep (.cons (k := 3) rfl (.cons (k := 4) rfl (.cons (k := 7) rfl (.cons (k := 9) rfl (.cons (k := 10) rfl (.cons (k := 11) rfl (.cons (k := 12) rfl (.cons (k := 13) rfl (.cons (k := 14) rfl (.cons (k := 16) rfl .nil)))))))))) (blk_n (then_n ?_))
              refine V_region rfl ?_
              refine L_go rfl (X_p (p_move rfl rfl) ?_)
              first | refine L_go rfl (X_p (p_add' rfl rfl rfl (by unfold InI; omega)) ?_) | refine L_go rfl (X_p (p_add rfl rfl rfl) ?_)
              refine L_go rfl (X_p (p_assign rfl rfl) ?_)
              refine L_keep (.cons (k := 3) rfl (.cons (k := 4) rfl (.cons (k := 7) rfl (.cons (k := 9) rfl (.cons (k := 10) rfl (.cons (k := 11) rfl (.cons (k := 12) rfl (.cons (k := 13) rfl (.cons (k := 14) rfl (.cons (k := 16) rfl .nil)))))))))) (then_n ?_)
              refine ⟨(i + 1, true), ?_, ?_, (.cons rfl (.cons rfl (.cons rfl (.cons rfl (.cons rfl (.cons rfl (.cons rfl (.cons rfl (.cons rfl (.cons rfl (.nil _))))))))))), (by repeat (first | exact List.nil_sublist _ | exact List.Sublist.refl _ | apply List.Sublist.cons_cons | apply List.Sublist.cons | apply List.sublist_append_of_sublist_right)), rfl⟩
              · refine ⟨by omega, by omega, ?_⟩
                have e : (i + 1).toNat = i.toNat + 1 := by omega
                rw [e, any_take_succ (d := (0, 0)) (by omega), ← hbb, g4, Bool.true_or]
              · dsimp only; omega
            · intro g4; have g4' := g4; try simp only [td] at g4'
              refine L_yes rfl rfl rfl g4 (X_p (p_move rfl rfl) ?_)
              refine L_yes rfl rfl rfl g4 (X_p (p_move rfl rfl) ?_)
              refine L_yes rfl rfl rfl g4 (X_p (p_idxo es43 rfl rfl rfl (by omega) (by omega)) ?_)
              refine L_yes rfl rfl rfl g4 (X_p (p_fieldo fo47_0 rfl rfl) ?_)
              refine L_yes rfl rfl rfl g4 (X_rd (r_load ag3 rfl rfl (by repeat first | exact mH | apply mT | apply List.mem_append_right) (v := .int .i64 ((gapsN t x2 (x3 + y) x0 (x1 - x0).toNat).getD i.toNat (0, 0)).1) (cur_at hcur (gapV_at (by omega)).2)) ?_)
              refine L_yes rfl rfl rfl g4 (X_p (p_move rfl rfl) ?_)
              refine L_yes rfl rfl rfl g4 (X_p (p_leq rfl rfl rfl) ?_)
              refine L_yes rfl rfl rfl g4 (X_p (p_move rfl rfl) ?_)
              refine L_cases (d := 125) rfl ?_ ?_
              · intro g5; have g5' := g5; try simp only [td] at g5'
                refine L_yes rfl rfl rfl g5 (X_p (p_move rfl rfl) ?_)
                refine L_yes rfl rfl rfl g5 (X_p (p_move rfl rfl) ?_)
                refine L_yes rfl rfl rfl g5 (X_p (p_move rfl rfl) ?_)
                refine L_yes rfl rfl rfl g5 (X_p (p_idxo es43 rfl rfl rfl (by omega) (by omega)) ?_)
                refine L_yes rfl rfl rfl g5 (X_p (p_fieldo fo47_1 rfl rfl) ?_)
                refine L_yes rfl rfl rfl g5 (X_rd (r_load ag3 rfl rfl (by repeat first | exact mH | apply mT | apply List.mem_append_right) (v := .int .i64 ((gapsN t x2 (x3 + y) x0 (x1 - x0).toNat).getD i.toNat (0, 0)).2) (cur_at hcur (gapV_at (by omega)).1)) ?_)
                refine L_yes rfl rfl rfl g5 (X_p (p_lss rfl rfl rfl) ?_)
                refine L_yes rfl rfl rfl g4 (X_p (p_pick_t rfl rfl g5 rfl) ?_)
                refine L_go rfl (X_p (p_pick_f rfl rfl g4 rfl) ?_)
                refine L_go rfl (X_p (p_assign rfl rfl) ?_)
                refine L_keep (.cons (k := 3) rfl (.cons (k := 4) rfl (.cons (k := 7) rfl (.cons (k := 9) rfl (.cons (k := 10) rfl (.cons (k := 11) rfl (.cons (k := 12) rfl (.cons (k := 13) rfl (.cons (k := 14) rfl (.cons (k := 16) rfl .nil)))))))))) (blk_n (then_n ?_))
                refine V_region rfl ?_
                refine L_go rfl (X_p (p_move rfl rfl) ?_)
                first | refine L_go rfl (X_p (p_add' rfl rfl rfl (by unfold InI; omega)) ?_) | refine L_go rfl (X_p (p_add rfl rfl rfl) ?_)
                refine L_go rfl (X_p (p_assign rfl rfl) ?_)
                refine L_keep (.cons (k := 3) rfl (.cons (k := 4) rfl (.cons (k := 7) rfl (.cons (k := 9) rfl (.cons (k := 10) rfl (.cons (k := 11) rfl (.cons (k := 12) rfl (.cons (k := 13) rfl (.cons (k := 14) rfl (.cons (k := 16) rfl .nil)))))))))) (then_n ?_)
                refine ⟨(i + 1, decide (u < ((gapsN t x2 (x3 + y) x0 (x1 - x0).toNat).getD i.toNat (0, 0)).2)), ?_, ?_, (.cons rfl (.cons rfl (.cons rfl (.cons rfl (.cons rfl (.cons rfl (.cons rfl (.cons rfl (.cons rfl (.cons rfl (.nil _))))))))))), (by repeat (first | exact List.nil_sublist _ | exact List.Sublist.refl _ | apply List.Sublist.cons_cons | apply List.Sublist.cons | apply List.sublist_append_of_sublist_right)), rfl⟩
                · refine ⟨by omega, by omega, ?_⟩
                  have e : (i + 1).toNat = i.toNat + 1 := by omega
                  rw [e, any_take_succ (d := (0, 0)) (by omega), ← hbb, g4, Bool.false_or, cov, decide_eq_true g5', Bool.true_and]
                · dsimp only; omega
              · intro g5; have g5' := g5; try simp only [td] at g5'
                refine L_no rfl rfl rfl g5 ?_
                refine L_no rfl rfl rfl g5 ?_
                refine L_no rfl rfl rfl g5 ?_
                refine L_no rfl rfl rfl g5 ?_
                refine L_no rfl rfl rfl g5 ?_
                refine L_no rfl rfl rfl g5 ?_
                refine L_no rfl rfl rfl g5 ?_
                refine L_yes rfl rfl rfl g4 (X_p (p_pick_f rfl rfl g5 rfl) ?_)
                refine L_go rfl (X_p (p_pick_f rfl rfl g4 rfl) ?_)
                refine L_go rfl (X_p (p_assign rfl rfl) ?_)
                refine L_keep (.cons (k := 3) rfl (.cons (k := 4) rfl (.cons (k := 7) rfl (.cons (k := 9) rfl (.cons (k := 10) rfl (.cons (k := 11) rfl (.cons (k := 12) rfl (.cons (k := 13) rfl (.cons (k := 14) rfl (.cons (k := 16) rfl .nil)))))))))) (blk_n (then_n ?_))
                refine V_region rfl ?_
                refine L_go rfl (X_p (p_move rfl rfl) ?_)
                first | refine L_go rfl (X_p (p_add' rfl rfl rfl (by unfold InI; omega)) ?_) | refine L_go rfl (X_p (p_add rfl rfl rfl) ?_)
                refine L_go rfl (X_p (p_assign rfl rfl) ?_)
                refine L_keep (.cons (k := 3) rfl (.cons (k := 4) rfl (.cons (k := 7) rfl (.cons (k := 9) rfl (.cons (k := 10) rfl (.cons (k := 11) rfl (.cons (k := 12) rfl (.cons (k := 13) rfl (.cons (k := 14) rfl (.cons (k := 16) rfl .nil)))))))))) (then_n ?_)
                refine ⟨(i + 1, false), ?_, ?_, (.cons rfl (.cons rfl (.cons rfl (.cons rfl (.cons rfl (.cons rfl (.cons rfl (.cons rfl (.cons rfl (.cons rfl (.nil _))))))))))), (by repeat (first | exact List.nil_sublist _ | exact List.Sublist.refl _ | apply List.Sublist.cons_cons | apply List.Sublist.cons | apply List.sublist_append_of_sublist_right)), rfl⟩
                · refine ⟨by omega, by omega, ?_⟩
                  have e : (i + 1).toNat = i.toNat + 1 := by omega
                  rw [e, any_take_succ (d := (0, 0)) (by omega), ← hbb, g4, Bool.false_or, cov, decide_eq_false (Int.not_le.2 g5'), Bool.false_and]
                · dsimp only; omega
          · intro c4; have c4r := c4; try simp only [td] at c4
            have hb2 : bb = !(okGap t u x2 (x3 + y)) := by rw [hbb, List.take_of_length_le (by omega)]; exact gap_cov hfl ⟨hu0, by omega⟩
            refine V_exit (then_e (then_e (blk_e rfl (then_n ?_))))
            refine V_seq (V_draw (.rd 0 (.rd 1 (.rd 2 (.rd 3 (.rd 4 (.rd 6 (.rd 7 (.wr 5 [7, 6, 2, 1, 0] (.rd 8 (.rd 9 (.rd 10 (.rd 11 (.rd 12 (.rd 13 (.rd 14 (.rd 15 (.rd 16 (.rd 17 .done)))))))))))))))))) mixed (by kernel_rfl) rfl ?_)
            refine D_p rfl (.plain rfl) (p_move rfl rfl) ?_
            refine D_p rfl (.plain rfl) (p_move rfl rfl) ?_
            refine D_p rfl (.plain rfl) (p_neq rfl rfl rfl) ?_
            refine D_p rfl (.plain rfl) (p_move rfl rfl) ?_
            refine D_cases (d := 138) rfl ?_ ?_
            · intro g6; have g6' := g6; try simp only [td] at g6'
              refine D_no rfl (.mk' rfl rfl rfl g6) ?_
              refine D_no rfl (.mk' rfl rfl rfl g6) ?_
              refine D_no rfl (.mk' rfl rfl rfl g6) ?_
              refine D_wr (.pass (E' := []) rfl (.mk' rfl rfl rfl g6) rfl ⟨.nil, ?_⟩)
              refine D_no rfl (.mk' rfl rfl rfl g6) ?_
              refine D_p rfl (.plain rfl) (p_pick_t rfl rfl g6 rfl) ?_
              refine D_p rfl (.plain rfl) (p_neqb un4 rfl rfl rfl) ?_
              refine D_p rfl (.plain rfl) (p_move rfl rfl) ?_
              refine D_p rfl (.yes rfl rfl rfl (by rw [hb1, okGap_none (own9_t g6')]; rfl)) (p_move rfl rfl) ?_
              refine D_p rfl (.yes rfl rfl rfl (by rw [hb1, okGap_none (own9_t g6')]; rfl)) (p_move rfl rfl) ?_
              refine D_cases (d := 148) rfl ?_ ?_
              · intro g7; have g7' := g7; try simp only [td] at g7'
                refine D_p rfl (.yes rfl rfl rfl g7) (p_move rfl rfl) ?_
                refine D_p rfl (.yes rfl rfl rfl g7) (p_not rfl rfl) ?_
                refine D_p rfl (.yes rfl rfl rfl (by rw [hb1, okGap_none (own9_t g6')]; rfl)) (p_pick_t rfl rfl g7 rfl) ?_
                refine D_p rfl (.plain rfl) (p_pick_f rfl rfl (by rw [hb1, okGap_none (own9_t g6')]; rfl) rfl) ?_
                refine D_then (.cons (k := 3) rfl (.cons (k := 4) rfl (.cons (k := 7) rfl (.cons (k := 9) rfl (.cons (k := 10) rfl (.cons (k := 152) rfl .nil)))))) ?_
                refine V_cond_f rfl (by rw [hb2] at g7; rw [hb1]; cases hh : okGap t u x2 x3 with | false => rfl | true => rw [okGap_mono (show x3 ≤ x3 + y by omega) hh] at g7; cases g7) ?_
                refine V_skip (blk_n (then_n ?_))
                refine V_region rfl ?_
                refine L_go rfl (X_p (p_move rfl rfl) ?_)
                first | refine L_go rfl (X_p (p_add' rfl rfl rfl (by unfold InI; omega)) ?_) | refine L_go rfl (X_p (p_add rfl rfl rfl) ?_)
                refine L_go rfl (X_p (p_assign rfl rfl) ?_)
                refine L_keep (.cons (k := 3) rfl (.cons (k := 4) rfl (.cons (k := 7) rfl (.cons (k := 9) rfl (.cons (k := 10) rfl .nil))))) (then_n ?_)
                refine ⟨u + 1, ?_, ?_, (.cons rfl (.cons rfl (.cons rfl (.cons rfl (.cons rfl (.nil _)))))), (by repeat (first | exact List.nil_sublist _ | exact List.Sublist.refl _ | apply List.Sublist.cons_cons | apply List.Sublist.cons | apply List.sublist_append_of_sublist_right)), rfl⟩
                · exact ⟨by omega, by omega⟩
                · omega
              · intro g7; have g7' := g7; try simp only [td] at g7'
                refine D_no rfl (.mk' rfl rfl rfl g7) ?_
                refine D_no rfl (.mk' rfl rfl rfl g7) ?_
                refine D_p rfl (.yes rfl rfl rfl (by rw [hb1, okGap_none (own9_t g6')]; rfl)) (p_pick_f rfl rfl g7 rfl) ?_
                refine D_p rfl (.plain rfl) (p_pick_f rfl rfl (by rw [hb1, okGap_none (own9_t g6')]; rfl) rfl) ?_
                refine D_then (.cons (k := 3) rfl (.cons (k := 4) rfl (.cons (k := 7) rfl (.cons (k := 9) rfl (.cons (k := 10) rfl (.cons (k := 152) rfl .nil)))))) ?_
                refine V_cond_f rfl rfl ?_
                refine V_skip (blk_n (then_n ?_))
                refine V_region rfl ?_
                refine L_go rfl (X_p (p_move rfl rfl) ?_)
                first | refine L_go rfl (X_p (p_add' rfl rfl rfl (by unfold InI; omega)) ?_) | refine L_go rfl (X_p (p_add rfl rfl rfl) ?_)
                refine L_go rfl (X_p (p_assign rfl rfl) ?_)
                refine L_keep (.cons (k := 3) rfl (.cons (k := 4) rfl (.cons (k := 7) rfl (.cons (k := 9) rfl (.cons (k := 10) rfl .nil))))) (then_n ?_)
                refine ⟨u + 1, ?_, ?_, (.cons rfl (.cons rfl (.cons rfl (.cons rfl (.cons rfl (.nil _)))))), (by repeat (first | exact List.nil_sublist _ | exact List.Sublist.refl _ | apply List.Sublist.cons_cons | apply List.Sublist.cons | apply List.sublist_append_of_sublist_right)), rfl⟩
                · exact ⟨by omega, by omega⟩
                · omega
            · intro g6; have g6' := g6; try simp only [td] at g6'
              refine D_rd rfl (.yes rfl rfl rfl g6) (r_loadA (vs := [_, _, _, _, _, _, _, _, _, _, _, _, _]) ag34 sz34 rfl rfl (by repeat first | exact mH | apply mT | apply List.mem_append_right) rfl) ?_
              refine D_p rfl (.yes rfl rfl rfl g6) (p_idxao ar41 rfl rfl rfl (by omega) (by omega)) ?_
              refine D_rd rfl (.yes rfl rfl rfl g6) (r_load ag3 rfl rfl (by repeat first | exact mH | apply mT | apply List.mem_append_right) rfl) ?_
              refine D_wr (.go (E' := [(7, _)]) rfl (.yes rfl rfl rfl g6) (w_callP rfl rfl rfl (fun w hg => lwide_c ((spareT t u x2).getD boxZ) (BoxB.big (spareT_bnd hG (by omega) (isSome_get (own9_f g6')))) w)) rfl ?_)
              rintro _ _ ⟨rfl, rfl⟩
              refine ⟨(.cons rfl (.yes rfl rfl rfl g6) (r_load ag3 rfl rfl (by repeat first | exact mH | apply mT | apply List.mem_append_right) rfl) .nil), ?_⟩
              refine D_p rfl (.yes rfl rfl rfl g6) (p_gtr rfl rfl rfl) ?_
              refine D_p rfl (.plain rfl) (p_pick_f rfl rfl g6 rfl) ?_
              refine D_p rfl (.plain rfl) (p_neqb un4 rfl rfl rfl) ?_
              refine D_p rfl (.plain rfl) (p_move rfl rfl) ?_
              refine D_p rfl (.yes rfl rfl rfl (by rw [hb1, okGap_some (own9_f g6')]; exact gap_neq)) (p_move rfl rfl) ?_
              refine D_p rfl (.yes rfl rfl rfl (by rw [hb1, okGap_some (own9_f g6')]; exact gap_neq)) (p_move rfl rfl) ?_
              refine D_cases (d := 148) rfl ?_ ?_
              · intro g8; have g8' := g8; try simp only [td] at g8'
                refine D_p rfl (.yes rfl rfl rfl g8) (p_move rfl rfl) ?_
                refine D_p rfl (.yes rfl rfl rfl g8) (p_not rfl rfl) ?_
                refine D_p rfl (.yes rfl rfl rfl (by rw [hb1, okGap_some (own9_f g6')]; exact gap_neq)) (p_pick_t rfl rfl g8 rfl) ?_
                refine D_p rfl (.plain rfl) (p_pick_f rfl rfl (by rw [hb1, okGap_some (own9_f g6')]; exact gap_neq) rfl) ?_
                refine D_then (.cons (k := 3) rfl (.cons (k := 4) rfl (.cons (k := 7) rfl (.cons (k := 9) rfl (.cons (k := 10) rfl (.cons (k := 152) rfl .nil)))))) ?_
                refine V_cond_f rfl (by rw [hb2] at g8; rw [hb1]; cases hh : okGap t u x2 x3 with | false => rfl | true => rw [okGap_mono (show x3 ≤ x3 + y by omega) hh] at g8; cases g8) ?_
                refine V_skip (blk_n (then_n ?_))
                refine V_region rfl ?_
                refine L_go rfl (X_p (p_move rfl rfl) ?_)
                first | refine L_go rfl (X_p (p_add' rfl rfl rfl (by unfold InI; omega)) ?_) | refine L_go rfl (X_p (p_add rfl rfl rfl) ?_)
                refine L_go rfl (X_p (p_assign rfl rfl) ?_)
                refine L_keep (.cons (k := 3) rfl (.cons (k := 4) rfl (.cons (k := 7) rfl (.cons (k := 9) rfl (.cons (k := 10) rfl .nil))))) (then_n ?_)
                refine ⟨u + 1, ?_, ?_, (.cons rfl (.cons rfl (.cons rfl (.cons rfl (.cons rfl (.nil _)))))), (by repeat (first | exact List.nil_sublist _ | exact List.Sublist.refl _ | apply List.Sublist.cons_cons | apply List.Sublist.cons | apply List.sublist_append_of_sublist_right)), rfl⟩
                · exact ⟨by omega, by omega⟩
                · omega
              · intro g8; have g8' := g8; try simp only [td] at g8'
                refine D_no rfl (.mk' rfl rfl rfl g8) ?_
                refine D_no rfl (.mk' rfl rfl rfl g8) ?_
                refine D_p rfl (.yes rfl rfl rfl (by rw [hb1, okGap_some (own9_f g6')]; exact gap_neq)) (p_pick_f rfl rfl g8 rfl) ?_
                refine D_p rfl (.plain rfl) (p_pick_f rfl rfl (by rw [hb1, okGap_some (own9_f g6')]; exact gap_neq) rfl) ?_
                refine D_then (.cons (k := 3) rfl (.cons (k := 4) rfl (.cons (k := 7) rfl (.cons (k := 9) rfl (.cons (k := 10) rfl (.cons (k := 152) rfl .nil)))))) ?_
                refine V_cond_f rfl rfl ?_
                refine V_skip (blk_n (then_n ?_))
                refine V_region rfl ?_
                refine L_go rfl (X_p (p_move rfl rfl) ?_)
                first | refine L_go rfl (X_p (p_add' rfl rfl rfl (by unfold InI; omega)) ?_) | refine L_go rfl (X_p (p_add rfl rfl rfl) ?_)
                refine L_go rfl (X_p (p_assign rfl rfl) ?_)
                refine L_keep (.cons (k := 3) rfl (.cons (k := 4) rfl (.cons (k := 7) rfl (.cons (k := 9) rfl (.cons (k := 10) rfl .nil))))) (then_n ?_)
                refine ⟨u + 1, ?_, ?_, (.cons rfl (.cons rfl (.cons rfl (.cons rfl (.cons rfl (.nil _)))))), (by repeat (first | exact List.nil_sublist _ | exact List.Sublist.refl _ | apply List.Sublist.cons_cons | apply List.Sublist.cons | apply List.sublist_append_of_sublist_right)), rfl⟩
                · exact ⟨by omega, by omega⟩
                · omega
      · intro c2; have c2r := c2; try simp only [td] at c2
        refine V_exit (then_e (then_e (blk_e rfl (then_n ?_))))
        refine V_seq ?_
        refine V_seq (V_region rfl ?_)
        refine L_go rfl (X_p (p_assign rfl rfl) ?_)
        refine L_then (.cons (k := 4) rfl (.cons (k := 7) rfl (.cons (k := 17) rfl .nil))) ?_
        refine V_block ?_
        refine V_loop0 (γ := Int) (.cons (k := 4) rfl (.cons (k := 7) rfl .nil)) (fun i => [(17, .int .i64 i)]) (fun i => 0 ≤ i ∧ i ≤ (gapsN t x2 x3 x0 (x1 - x0).toNat).length) (fun i => ((gapsN t x2 x3 x0 (x1 - x0).toNat).length - i).toNat) (0) (.cons rfl (.nil _)) (⟨by omega, by omega⟩) ?_
        rintro i hi
        obtain ⟨hi0, hi1⟩ := hi
        refine V_seq ?_
        refine V_seq (V_region rfl ?_)
        refine L_go rfl (X_p (p_move rfl rfl) ?_)
        refine L_go rfl (X_p (p_move rfl rfl) ?_)
        refine L_go rfl (X_p (p_len isl43 rfl rfl) ?_)
        refine L_go rfl (X_p (p_lss rfl rfl rfl) ?_)
        refine L_then (.cons (k := 4) rfl (.cons (k := 7) rfl (.cons (k := 17) rfl (.cons (k := 156) rfl .nil)))) ?_
        refine V_cond rfl ?_ ?_
        · intro c5; have c5r := c5; try simp only [td] at c5
          obtain ⟨gb, cur, rfl, rfl, hcur, hcs, hgn, hgm⟩ := Grow.form2 hgr1 (by omega)
          have hm := gaps_mem hok (i := i.toNat) (by omega)
          refine V_skip (then_n ?_)
          refine V_seq ?_
          refine V_block ?_
          refine V_seq (V_draw (.rd 0 (.rd 1 (.rd 2 (.rd 3 (.rd 4 (.rd 5 (.rd 6 (.rd 7 (.rd 8 (.rd 9 (.rd 10 (.rd 11 (.rd 12 (.rd 13 (.rd 14 (.rd 15 (.rd 16 (.rd 17 (.rd 18 (.rd 19 (.rd 20 (.rd 21 (.rd 22 (.rd 23 (.rd 24 (.rd 25 (.rd 26 (.rd 27 (.rd 28 (.rd 29 (.rd 30 (.rd 31 (.rd 32 (.rd 33 (.rd 34 (.rd 35 (.rd 36 (.rd 37 (.rd 38 (.rd 39 (.rd 40 (.rd 41 (.rd 42 (.rd 43 (.rd 44 (.rd 45 (.rd 46 (.rd 47 (.rd 48 .done))))))))))))))))))))))))))))))))))))))))))))))))) mixed (by kernel_rfl) rfl ?_)
          refine D_p rfl (.plain rfl) (p_move rfl rfl) ?_
          refine D_p rfl (.plain rfl) (p_move rfl rfl) ?_
          refine D_p rfl (.plain rfl) (p_idxo es43 rfl rfl rfl (by omega) (by omega)) ?_
          refine D_p rfl (.plain rfl) (p_fieldo fo47_0 rfl rfl) ?_
          refine D_rd rfl (.plain rfl) (r_load ag3 rfl rfl (by repeat first | exact mH | apply mT | apply List.mem_append_right) (v := .int .i64 ((gapsN t x2 x3 x0 (x1 - x0).toNat).getD i.toNat (0, 0)).1) (cur_at hcur (gapV_at (by omega)).2)) ?_
          refine D_p rfl (.plain rfl) (p_idxao ar41 rfl rfl rfl (by omega) (by omega)) ?_
          refine D_rd rfl (.plain rfl) (r_load ag3 rfl rfl (by repeat first | exact mH | apply mT | apply List.mem_append_right) rfl) ?_
          refine D_p rfl (.plain rfl) (p_lss rfl rfl rfl) ?_
          refine D_p rfl (.plain rfl) (p_move rfl rfl) ?_
          refine D_p rfl (.yes rfl rfl rfl (decide_eq_false (by omega))) (p_move rfl rfl) ?_
          refine D_p rfl (.yes rfl rfl rfl (decide_eq_false (by omega))) (p_move rfl rfl) ?_
          refine D_p rfl (.yes rfl rfl rfl (decide_eq_false (by omega))) (p_idxo es43 rfl rfl rfl (by omega) (by omega)) ?_
          refine D_p rfl (.yes rfl rfl rfl (decide_eq_false (by omega))) (p_fieldo fo47_1 rfl rfl) ?_
          refine D_rd rfl (.yes rfl rfl rfl (decide_eq_false (by omega))) (r_load ag3 rfl rfl (by repeat first | exact mH | apply mT | apply List.mem_append_right) (v := .int .i64 ((gapsN t x2 x3 x0 (x1 - x0).toNat).getD i.toNat (0, 0)).2) (cur_at hcur (gapV_at (by omega)).1)) ?_
          refine D_p rfl (.yes rfl rfl rfl (decide_eq_false (by omega))) (p_idxao ar41 rfl rfl rfl (by omega) (by omega)) ?_
          refine D_rd rfl (.yes rfl rfl rfl (decide_eq_false (by omega))) (r_load ag3 rfl rfl (by repeat first | exact mH | apply mT | apply List.mem_append_right) rfl) ?_
          refine D_p rfl (.yes rfl rfl rfl (decide_eq_false (by omega))) (p_gtr rfl rfl rfl) ?_
          refine D_p rfl (.plain rfl) (p_pick_f rfl rfl (decide_eq_false (by omega)) rfl) ?_
          refine D_p rfl (.plain rfl) (p_move rfl rfl) ?_
          refine D_p rfl (.yes rfl rfl rfl (decide_eq_false (by omega))) (p_move rfl rfl) ?_
          refine D_p rfl (.yes rfl rfl rfl (decide_eq_false (by omega))) (p_move rfl rfl) ?_
          refine D_p rfl (.yes rfl rfl rfl (decide_eq_false (by omega))) (p_idxo es43 rfl rfl rfl (by omega) (by omega)) ?_
          refine D_p rfl (.yes rfl rfl rfl (decide_eq_false (by omega))) (p_fieldo fo47_0 rfl rfl) ?_
          refine D_rd rfl (.yes rfl rfl rfl (decide_eq_false (by omega))) (r_load ag3 rfl rfl (by repeat first | exact mH | apply mT | apply List.mem_append_right) (v := .int .i64 ((gapsN t x2 x3 x0 (x1 - x0).toNat).getD i.toNat (0, 0)).1) (cur_at hcur (gapV_at (by omega)).2)) ?_
          refine D_p rfl (.yes rfl rfl rfl (decide_eq_false (by omega))) (p_move rfl rfl) ?_
          refine D_p rfl (.yes rfl rfl rfl (decide_eq_false (by omega))) (p_move rfl rfl) ?_
          refine D_p rfl (.yes rfl rfl rfl (decide_eq_false (by omega))) (p_idxo es43 rfl rfl rfl (by omega) (by omega)) ?_
          refine D_p rfl (.yes rfl rfl rfl (decide_eq_false (by omega))) (p_fieldo fo47_1 rfl rfl) ?_
          refine D_rd rfl (.yes rfl rfl rfl (decide_eq_false (by omega))) (r_load ag3 rfl rfl (by repeat first | exact mH | apply mT | apply List.mem_append_right) (v := .int .i64 ((gapsN t x2 x3 x0 (x1 - x0).toNat).getD i.toNat (0, 0)).2) (cur_at hcur (gapV_at (by omega)).1)) ?_
          refine D_p rfl (.yes rfl rfl rfl (decide_eq_false (by omega))) (p_geq rfl rfl rfl) ?_
          refine D_p rfl (.plain rfl) (p_pick_f rfl rfl (decide_eq_false (by omega)) rfl) ?_
          refine D_p rfl (.plain rfl) (p_move rfl rfl) ?_
          refine D_p rfl (.yes rfl rfl rfl (decide_eq_false (by omega))) (p_move rfl rfl) ?_
          refine D_p rfl (.yes rfl rfl rfl (decide_eq_false (by omega))) (p_gtr rfl rfl rfl) ?_
          refine D_p rfl (.yes rfl rfl rfl (decide_eq_false (by omega))) (p_move rfl rfl) ?_
          refine D_cases (d := 193) rfl ?_ ?_
          · intro g9; have g9' := g9; try simp only [td] at g9'
            have hs := gaps_sep hok (i := i.toNat) (by omega) (by omega)
            have e1 : (i - 1).toNat = i.toNat - 1 := by omega
            rw [← e1] at hs
            refine D_p rfl (.yes rfl rfl rfl g9) (p_move rfl rfl) ?_
            refine D_p rfl (.yes rfl rfl rfl g9) (p_move rfl rfl) ?_
            refine D_p rfl (.yes rfl rfl rfl g9) (p_idxo es43 rfl rfl rfl (by omega) (by omega)) ?_
            refine D_p rfl (.yes rfl rfl rfl g9) (p_fieldo fo47_0 rfl rfl) ?_
            refine D_rd rfl (.yes rfl rfl rfl g9) (r_load ag3 rfl rfl (by repeat first | exact mH | apply mT | apply List.mem_append_right) (v := .int .i64 ((gapsN t x2 x3 x0 (x1 - x0).toNat).getD i.toNat (0, 0)).1) (cur_at hcur (gapV_at (by omega)).2)) ?_
            refine D_p rfl (.yes rfl rfl rfl g9) (p_move rfl rfl) ?_
            refine D_p rfl (.yes rfl rfl rfl g9) (p_move rfl rfl) ?_
            first | refine D_p rfl (.yes rfl rfl rfl g9) (p_sub' rfl rfl rfl (by unfold InI; omega)) ?_ | refine D_p rfl (.yes rfl rfl rfl g9) (p_sub rfl rfl rfl) ?_
            refine D_p rfl (.yes rfl rfl rfl g9) (p_idxo es43 rfl rfl rfl (by omega) (by omega)) ?_
            refine D_p rfl (.yes rfl rfl rfl g9) (p_fieldo fo47_1 rfl rfl) ?_
            refine D_rd rfl (.yes rfl rfl rfl g9) (r_load ag3 rfl rfl (by repeat first | exact mH | apply mT | apply List.mem_append_right) (v := .int .i64 ((gapsN t x2 x3 x0 (x1 - x0).toNat).getD (i - 1).toNat (0, 0)).2) (cur_at hcur (gapV_at (by omega)).1)) ?_
            refine D_p rfl (.yes rfl rfl rfl g9) (p_leq rfl rfl rfl) ?_
            refine D_p rfl (.yes rfl rfl rfl (decide_eq_false (by omega))) (p_pick_t rfl rfl g9 rfl) ?_
            refine D_p rfl (.plain rfl) (p_pick_f rfl rfl (decide_eq_false (by omega)) rfl) ?_
            refine D_then (.cons (k := 4) rfl (.cons (k := 7) rfl (.cons (k := 17) rfl (.cons (k := 207) rfl .nil)))) ?_
            refine V_cond_f rfl (decide_eq_false (by omega)) ?_
            refine V_skip (blk_n (then_n ?_))
            refine V_region rfl ?_
            refine L_go rfl (X_p (p_move rfl rfl) ?_)
            first | refine L_go rfl (X_p (p_add' rfl rfl rfl (by unfold InI; omega)) ?_) | refine L_go rfl (X_p (p_add rfl rfl rfl) ?_)
            refine L_go rfl (X_p (p_assign rfl rfl) ?_)
            refine L_keep (.cons (k := 4) rfl (.cons (k := 7) rfl (.cons (k := 17) rfl .nil))) (then_n ?_)
            refine ⟨i + 1, ?_, ?_, (.cons rfl (.cons rfl (.cons rfl (.nil _)))), (by repeat (first | exact List.nil_sublist _ | exact List.Sublist.refl _ | apply List.Sublist.cons_cons | apply List.Sublist.cons | apply List.sublist_append_of_sublist_right)), rfl⟩
            · exact ⟨by omega, by omega⟩
            · omega
          · intro g9; have g9' := g9; try simp only [td] at g9'
            refine D_no rfl (.mk' rfl rfl rfl g9) ?_
            refine D_no rfl (.mk' rfl rfl rfl g9) ?_
            refine D_no rfl (.mk' rfl rfl rfl g9) ?_
            refine D_no rfl (.mk' rfl rfl rfl g9) ?_
            refine D_no rfl (.mk' rfl rfl rfl g9) ?_
            refine D_no rfl (.mk' rfl rfl rfl g9) ?_
            refine D_no rfl (.mk' rfl rfl rfl g9) ?_
            refine D_no rfl (.mk' rfl rfl rfl g9) ?_
            refine D_no rfl (.mk' rfl rfl rfl g9) ?_
            refine D_no rfl (.mk' rfl rfl rfl g9) ?_
            refine D_no rfl (.mk' rfl rfl rfl g9) ?_
            refine D_no rfl (.mk' rfl rfl rfl g9) ?_
            refine D_p rfl (.yes rfl rfl rfl (decide_eq_false (by omega))) (p_pick_f rfl rfl g9 rfl) ?_
            refine D_p rfl (.plain rfl) (p_pick_f rfl rfl (decide_eq_false (by omega)) rfl) ?_
            refine D_then (.cons (k := 4) rfl (.cons (k := 7) rfl (.cons (k := 17) rfl (.cons (k := 207) rfl .nil)))) ?_
            refine V_cond_f rfl rfl ?_
            refine V_skip (blk_n (then_n ?_))
            refine V_region rfl ?_
            refine L_go rfl (X_p (p_move rfl rfl) ?_)
            first | refine L_go rfl (X_p (p_add' rfl rfl rfl (by unfold InI; omega)) ?_) | refine L_go rfl (X_p (p_add rfl rfl rfl) ?_)
            refine L_go rfl (X_p (p_assign rfl rfl) ?_)
            refine L_keep (.cons (k := 4) rfl (.cons (k := 7) rfl (.cons (k := 17) rfl .nil))) (then_n ?_)
            refine ⟨i + 1, ?_, ?_, (.cons rfl (.cons rfl (.cons rfl (.nil _)))), (by repeat (first | exact List.nil_sublist _ | exact List.Sublist.refl _ | apply List.Sublist.cons_cons | apply List.Sublist.cons | apply List.sublist_append_of_sublist_right)), rfl⟩
            · exact ⟨by omega, by omega⟩
            · omega
        · intro c5; have c5r := c5; try simp only [td] at c5
          refine V_exit (then_e (then_e (blk_e rfl (then_n ?_))))
          refine V_seq (V_region rfl ?_)
          refine L_go rfl (X_wr (w_callP rfl rfl rfl (fun w hg => awake_c w)) ?_)
          rintro _ _ ⟨rfl, rfl⟩
          refine L_go rfl (X_p (p_assign rfl rfl) ?_)
          refine L_then (.cons (k := 6) rfl .nil) ?_
          refine V_ret ?_
          refine Leave.nil (.tmp rfl .nil) ?_
          rfl
theorem trackGaps_c (t : Task) (tv pv : Value) (x0 x1 x2 x3 y : Int) (hx3 : InI x3) (hy : 0 ≤ y ∧ y ≤ 65535) (w : World) (ht : TaskR w (.agg #[.int .i64 t.frm, .int .i64 t.speed, .int .i64 t.accel, tv, pv]) t) : FnP Try.prog 4 [.agg #[.int .i64 t.frm, .int .i64 t.speed, .int .i64 t.accel, tv, pv], .agg #[.int .i64 x0, .int .i64 x1, .int .i64 x2, .int .i64 x3], .int .u16 y] w (.bool true) := by
  by_cases h : gapsE t x0 x1 x2 x3 = 0
  · exact gapsB t tv pv x0 x1 x2 x3 y hx3 hy w ht h
  · exact gapsA t tv pv x0 x1 x2 x3 y hx3 hy w ht h

theorem own_ : ownKnob Try.prog.godebug = none := by kernel_rfl

theorem trackGaps_lifted (os : Os) (started : os.Started) (H : Type) (enc : TypeId × Value → H) :
    ReturnsInHanded {} Try.checked os 4 .any (Rows.trackGapsSpec.pre6 enc Try.prog Try.f4 Rows.trackGapsRow.domain false) (Rows.trackGapsSpec.post enc Try.prog Try.f4 false true false false) := by
  refine returnsInHanded_of_change (C := Try.checked) own_ started (by kernel_rfl) Try.func4
    (ChangeSpec.witness6 (enc := enc) (C := Try.checked) false ⟨#[], #[.agg #[.int .i64 0, .int .i64 0, .int .i64 0, .slice none 0 0, .slice none 0 0], .agg #[.int .i64 0, .int .i64 0, .int .i64 0, .int .i64 0], .int .u16 0], []⟩ 8 (by kernel_rfl) (by kernel_rfl) (by kernel_rfl) (by kernel_rfl)) ?_
  intro W base args ds gs before hval0 hW hcnd _
  have hval : ∀ (j : Nat) t v, Try.f4.params[j]? = some t → args[j]? = some v → Value.okWide Try.prog W .any base t v := hval0
  have hW' := hW
  obtain ⟨pA, pB, hA0, hV, rfl, _, _⟩ := hW
  have hA : DataW.TrodAll enc Try.prog W 0 (fun _ => true) true Try.f4.params.toList args.toList ds pA := hA0
  clear hA0 hval0
  rw [Try.params4] at hA hval
  obtain ⟨rfl, rfl⟩ := trodVars_none hV
  obtain ⟨v0, vs0, d0, ds0, p0, q0, ea0, rfl, rfl, h0, hA0⟩ := trodAll_cons hA
  obtain ⟨v1, vs1, d1, ds1, p1, q1, ea1, rfl, rfl, h1, hA1⟩ := trodAll_cons hA0
  obtain ⟨v2, vs2, d2, ds2, p2, q2, ea2, rfl, rfl, h2, hA2⟩ := trodAll_cons hA1
  obtain ⟨rfl, rfl, rfl⟩ := trodAll_nil hA2
  subst ea2
  subst ea1
  have ea : args = #[v0, v1, v2] := Array.toList_inj.1 ea0
  subst ea
  have k0 := hval 0 _ v0 rfl rfl
  have k1 := hval 1 _ v1 rfl rfl
  have k2 := hval 2 _ v2 rfl rfl
  obtain ⟨T, tv, pv, rfl, hT⟩ := open_task (P := Try.prog) (by kernel_rfl) k0 h0
  obtain ⟨x0, x1, x2, x3, rfl, wx0, wx1, wx2, wx3⟩ := open_ints4 (P := Try.prog) (by kernel_rfl) k1 h1
  obtain ⟨y, rfl, _, _, w2⟩ := open_int (P := Try.prog) (k := .u16) (by kernel_rfl) k2 h2
  have hy := u16_wf w2
  refine (calls_of (trackGaps_c T tv pv x0 x1 x2 x3 y wx3 hy W hT)).mono ?_
  rintro _ W' ⟨_, rfl, rfl, hE⟩
  exact ⟨_, rfl, post_true hW' rfl hE (by kernel_rfl) (by kernel_rfl) rfl rfl rfl (by kernel_rfl) Try.underlying4⟩

theorem trackGaps_holds : Rows.TrackGapsSaid :=
  OpenClaim.holds_of_wide 4 Try.f4 rfl rfl rfl rfl rfl rfl rfl ⟨rfl, rfl, rfl, rfl, rfl⟩ rfl rfl rfl rfl rfl (by kernel_rfl) Try.func4 (by kernel_rfl)
    (of_decide_eq_true (by kernel_rfl)) (by unfold Func.isWrapper; first | (rw [if_pos (by decide +kernel)]; kernel_rfl) | (rw [if_neg (by decide +kernel)]; exact ⟨rfl, rfl⟩))
    (fun os started H enc _ => trackGaps_lifted os started H enc)
#print axioms trackGaps_holds

end Go.Proofs.Ytclbbchehjapjab
