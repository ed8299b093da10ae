/- Ytclbbchehjapjaa: TrackReach is proved: for any task, number of ticks and path (no condition) it returns true. -/
import Derived.Test.YtclbbchehjapjaaRows
import Derived.Test.YtclbbchehjapjaaT12
import Derived.Test.YtclbbchehjapjaaT13
import Derived.Test.YtclbbchehjapjaaT23
import Derived.Test.YtclbbchehjapjaaPc
import Derived.Test.YtclbbchehjapjaaSd
import Derived.Test.YtclbbchehjapjaaS
import Derived.ProofKit
set_option linter.all false
namespace Go.Proofs.Ytclbbchehjapjaa
open Go.Vc Go.Tk Go.ChangeShapes Go.WideShapes Go.ChangeAt Go.RowKit
set_option maxRecDepth 100000
theorem reachA (p : PathM) (pv : Value) (w : World) (hpr : PathR w pv p) (t : Task) (tv pv2 : Value) (ht : TaskR w (.agg #[.int .i64 t.frm, .int .i64 t.speed, .int .i64 t.accel, tv, pv2]) t) (n : Int) (h : askedT t [n] ≠ 0) : FnP Try.prog 6 [.agg #[.int .i64 t.frm, .int .i64 t.speed, .int .i64 t.accel, tv, pv2], .int .i64 n, pv] w (.bool true) := by
  obtain ⟨pp, pc, wa, wc, rfl, hps, hws, hpsl, hpwl⟩ := hpr.ex
  have hT := ht
  obtain ⟨_, _, _, htr, hpl⟩ := ht.lit
  obtain ⟨ta, tc, rfl, htc, hte⟩ := htr.ex
  obtain ⟨pa, pc2, rfl, hpc, hpe⟩ := hpl.ex
  have hlpl := ht.lpl
  simp only [List.length_map] at hT hpl hpc htc ⊢
  refine fn_pure Try.func6 rfl (by kernel_rfl) Try.ntmps6 Try.results6 rfl ?_
  refine V_seq (V_region rfl ?_)
  refine L_go rfl (X_wr (w_box rfl rfl) ?_)
  rintro _ _ ⟨b1, hb1, rfl, rfl⟩
  refine L_go rfl (X_wr (w_box rfl rfl) ?_)
  rintro _ _ ⟨b2, hb2, rfl, rfl⟩
  refine L_go rfl (X_p (p_assign rfl rfl) ?_)
  refine L_then (.cons (k := 1) rfl (.cons (k := 3) rfl (.cons (k := 5) rfl .nil))) ?_
  refine V_seq (V_region rfl ?_)
  refine L_go rfl (X_rd (r_loadA (vs := [_, _, _, _, _]) ag25 sz25 rfl rfl (by repeat first | exact mH | apply mT) rfl) ?_)
  refine L_go rfl (X_p (p_move rfl rfl) ?_)
  refine L_go rfl (X_wr (w_callP rfl rfl rfl (fun w hg => (show FnP _ _ _ w (.tuple #[.int .i64 0, .int .i64 (askedT t [n])]) from by have h1 := reachR_c t _ _ n w (hT.good hg); rw [reachR_eq, reachP_bad h] at h1; exact h1))) ?_)
  rintro _ _ ⟨rfl, rfl⟩
  refine L_go rfl (X_p (p_move rfl rfl) ?_)
  refine L_go rfl (X_p (p_ext rfl rfl rfl) ?_)
  refine L_go rfl (X_p (p_ext rfl rfl rfl) ?_)
  refine L_go rfl (X_p (p_assign rfl rfl) ?_)
  refine L_go rfl (X_p (p_assign rfl rfl) ?_)
  refine L_then (.cons (k := 1) rfl (.cons (k := 3) rfl (.cons (k := 5) rfl (.cons (k := 7) rfl (.cons (k := 8) rfl .nil))))) ?_
  refine V_seq ?_
  refine V_seq (V_region rfl ?_)
  refine L_go rfl (X_p (p_move rfl rfl) ?_)
  refine L_go rfl (X_p (p_neq rfl rfl rfl) ?_)
  refine L_then (.cons (k := 1) rfl (.cons (k := 3) rfl (.cons (k := 5) rfl (.cons (k := 7) rfl (.cons (k := 22) rfl .nil))))) ?_
  refine V_cond_t rfl (by simp [h]) ?_
  refine V_seq (V_region rfl ?_)
  refine L_go rfl (X_p (p_move rfl rfl) ?_)
  refine L_go rfl (X_p (p_eql rfl rfl rfl) ?_)
  refine L_go rfl (X_p (p_move rfl rfl) ?_)
  refine L_yes rfl rfl rfl rfl (X_wr (w_callP rfl rfl rfl (fun w hg => awake_c w)) ?_)
  rintro _ _ ⟨rfl, rfl⟩
  refine L_go rfl (X_p (p_pick_t rfl rfl rfl rfl) ?_)
  refine L_go rfl (X_p (p_assign rfl rfl) ?_)
  refine L_then (.cons (k := 6) rfl .nil) ?_
  refine V_ret (then_r ?_)
  refine Leave.nil (.tmp rfl .nil) ?_
  rfl
set_option maxHeartbeats 16000000 in
theorem reachB (p : PathM) (pv : Value) (w : World) (hpr : PathR w pv p) (t : Task) (tv pv2 : Value) (ht : TaskR w (.agg #[.int .i64 t.frm, .int .i64 t.speed, .int .i64 t.accel, tv, pv2]) t) (n : Int) (h : askedT t [n] = 0) : FnP Try.prog 6 [.agg #[.int .i64 t.frm, .int .i64 t.speed, .int .i64 t.accel, tv, pv2], .int .i64 n, pv] w (.bool true) := by
  obtain ⟨pp, pc, wa, wc, rfl, hps, hws, hpsl, hpwl⟩ := hpr.ex
  have hT := ht
  obtain ⟨_, _, _, htr, hpl⟩ := ht.lit
  obtain ⟨ta, tc, rfl, htc, hte⟩ := htr.ex
  obtain ⟨pa, pc2, rfl, hpc, hpe⟩ := hpl.ex
  have hlpl := ht.lpl
  simp only [List.length_map] at hT hpl hpc htc ⊢
  obtain ⟨hG, hnb⟩ := asked_zero h
  have hn0 := hnb n (.head _)
  obtain ⟨hf, hs, ha⟩ := hG.nums
  have hb0 := reachT_bnd hG (n := n) hn0
  refine fn_pure Try.func6 rfl (by kernel_rfl) Try.ntmps6 Try.results6 rfl ?_
  refine V_seq (V_region rfl ?_)
  refine L_go rfl (X_wr (w_box rfl rfl) ?_)
  rintro _ _ ⟨b1, hb1, rfl, rfl⟩
  refine L_go rfl (X_wr (w_box rfl rfl) ?_)
  rintro _ _ ⟨b2, hb2, rfl, rfl⟩
  refine L_go rfl (X_p (p_assign rfl rfl) ?_)
  refine L_then (.cons (k := 1) rfl (.cons (k := 3) rfl (.cons (k := 5) rfl .nil))) ?_
  refine V_seq (V_region rfl ?_)
  refine L_go rfl (X_rd (r_loadA (vs := [_, _, _, _, _]) ag25 sz25 rfl rfl (by repeat first | exact mH | apply mT | apply List.mem_append_right) rfl) ?_)
  refine L_go rfl (X_p (p_move rfl rfl) ?_)
  refine L_go rfl (X_wr (w_callP rfl rfl rfl (fun w hg => (show FnP _ _ _ w (.tuple #[.int .i64 (reachT t n), .int .i64 0]) from by have h1 := reachR_c t _ _ n w (hT.good hg); rw [reachR_eq, reachP_ok h] at h1; exact h1))) ?_)
  rintro _ _ ⟨rfl, rfl⟩
  refine L_go rfl (X_p (p_move rfl rfl) ?_)
  refine L_go rfl (X_p (p_ext rfl rfl rfl) ?_)
  refine L_go rfl (X_p (p_ext rfl rfl rfl) ?_)
  refine L_go rfl (X_p (p_assign rfl rfl) ?_)
  refine L_go rfl (X_p (p_assign rfl rfl) ?_)
  refine L_then (.cons (k := 1) rfl (.cons (k := 3) rfl (.cons (k := 5) rfl (.cons (k := 7) rfl (.cons (k := 8) rfl .nil))))) ?_
  refine V_seq ?_
  refine V_seq (V_region rfl ?_)
  refine L_go rfl (X_p (p_move rfl rfl) ?_)
  refine L_go rfl (X_p (p_neq rfl rfl rfl) ?_)
  refine L_then (.cons (k := 1) rfl (.cons (k := 3) rfl (.cons (k := 5) rfl (.cons (k := 7) rfl (.cons (k := 22) rfl .nil))))) ?_
  refine V_cond_f rfl rfl ?_
  refine V_skip (then_n ?_)
  refine V_seq ?_
  refine V_seq (V_region rfl ?_)
  refine L_go rfl (X_p (p_move rfl rfl) ?_)
  refine L_go rfl (X_p (p_eql rfl rfl rfl) ?_)
  refine L_go rfl (X_p (p_move rfl rfl) ?_)
  refine L_cases (d := 30) rfl ?_ ?_
  · intro g1; have g1' := g1; try simp only [td] at g1'
    refine L_yes rfl rfl rfl g1 (X_p (p_move rfl rfl) ?_)
    refine L_yes rfl rfl rfl g1 (X_p (p_neq rfl rfl rfl) ?_)
    refine L_go rfl (X_p (p_pick_t rfl rfl g1 rfl) ?_)
    refine L_then (.cons (k := 1) rfl (.cons (k := 3) rfl (.cons (k := 5) rfl (.cons (k := 7) rfl (.cons (k := 33) rfl .nil))))) ?_
    refine V_cond_f rfl (by rw [g1', reach_0 hG]; rfl) ?_
    refine V_skip (then_n ?_)
    refine V_seq ?_
    refine V_seq (V_region rfl ?_)
    refine L_go rfl (X_p (p_move rfl rfl) ?_)
    refine L_go rfl (X_p (p_lss rfl rfl rfl) ?_)
    refine L_then (.cons (k := 1) rfl (.cons (k := 3) rfl (.cons (k := 5) rfl (.cons (k := 7) rfl (.cons (k := 35) rfl .nil))))) ?_
    refine V_cond rfl ?_ ?_
    · intro c1; have c1r := c1; try simp only [td] at c1
      have hA1 : askedT t [n + 1] = 0 := asked_good hG (by simp only [List.any_cons, List.any_nil, Bool.or_false]; exact oP_false.2 (by omega))
      have hb1 := reachT_bnd hG (n := n + 1) (by omega)
      have hmb := mul_bnd (A := 1000000) (B := 100001) (show 0 ≤ t.accel ∧ t.accel ≤ 1000000 by omega) (show 0 ≤ n + 1 ∧ n + 1 ≤ 100001 by omega)
      refine V_seq (V_region rfl ?_)
      refine L_go rfl (X_rd (r_loadA (vs := [_, _, _, _, _]) ag25 sz25 rfl rfl (by repeat first | exact mH | apply mT | apply List.mem_append_right) rfl) ?_)
      refine L_go rfl (X_p (p_move rfl rfl) ?_)
      first | refine L_go rfl (X_p (p_add' rfl rfl rfl (by unfold InI; omega)) ?_) | refine L_go rfl (X_p (p_add rfl rfl rfl) ?_)
      refine L_go rfl (X_wr (w_callP rfl rfl rfl (fun w hg => (show FnP _ _ _ w (.tuple #[.int .i64 (reachT t (n + 1)), .int .i64 0]) from by have h1 := reachR_c t _ _ (n + 1) w (hT.good hg); rw [reachR_eq, reachP_ok hA1] at h1; exact h1))) ?_)
      rintro _ _ ⟨rfl, rfl⟩
      refine L_go rfl (X_p (p_move rfl rfl) ?_)
      refine L_go rfl (X_p (p_ext rfl rfl rfl) ?_)
      refine L_go rfl (X_p (p_ext rfl rfl rfl) ?_)
      refine L_go rfl (X_p (p_assign rfl rfl) ?_)
      refine L_go rfl (X_p (p_assign rfl rfl) ?_)
      refine L_then (.cons (k := 1) rfl (.cons (k := 3) rfl (.cons (k := 5) rfl (.cons (k := 7) rfl (.cons (k := 9) rfl (.cons (k := 10) rfl .nil)))))) ?_
      refine V_seq (V_region rfl ?_)
      refine L_go rfl (X_p (p_move rfl rfl) ?_)
      refine L_go rfl (X_p (p_neq rfl rfl rfl) ?_)
      refine L_go rfl (X_p (p_move rfl rfl) ?_)
      refine L_yes rfl rfl rfl rfl (X_p (p_move rfl rfl) ?_)
      refine L_yes rfl rfl rfl rfl (X_p (p_move rfl rfl) ?_)
      first | refine L_yes rfl rfl rfl rfl (X_p (p_sub' rfl rfl rfl (by unfold InI; omega)) ?_) | refine L_yes rfl rfl rfl rfl (X_p (p_sub rfl rfl rfl) ?_)
      refine L_yes rfl rfl rfl rfl (X_p (p_fieldo fo25_2 rfl rfl) ?_)
      refine L_yes rfl rfl rfl rfl (X_rd (r_load ag3 rfl rfl (by repeat first | exact mH | apply mT | apply List.mem_append_right) rfl) ?_)
      refine L_yes rfl rfl rfl rfl (X_p (p_move rfl rfl) ?_)
      first | refine L_yes rfl rfl rfl rfl (X_p (p_add' rfl rfl rfl (by unfold InI; omega)) ?_) | refine L_yes rfl rfl rfl rfl (X_p (p_add rfl rfl rfl) ?_)
      first | refine L_yes rfl rfl rfl rfl (X_p (p_mul' rfl rfl rfl (by unfold InI; omega)) ?_) | refine L_yes rfl rfl rfl rfl (X_p (p_mul rfl rfl rfl) ?_)
      refine L_yes rfl rfl rfl rfl (X_p (p_fieldo fo25_1 rfl rfl) ?_)
      refine L_yes rfl rfl rfl rfl (X_rd (r_load ag3 rfl rfl (by repeat first | exact mH | apply mT | apply List.mem_append_right) rfl) ?_)
      refine L_yes rfl rfl rfl rfl (X_p (p_min rfl rfl rfl) ?_)
      refine L_yes rfl rfl rfl rfl (X_p (p_neq rfl rfl rfl) ?_)
      refine L_go rfl (X_p (p_pick_f rfl rfl rfl rfl) ?_)
      refine L_then (.cons (k := 1) rfl (.cons (k := 3) rfl (.cons (k := 5) rfl (.cons (k := 7) rfl (.cons (k := 58) rfl .nil))))) ?_
      refine V_cond_f rfl (by rw [reach_next hG (by omega)]; simp) ?_
      refine V_skip (then_n ?_)
      refine V_seq (V_region rfl ?_)
      refine L_go rfl (X_rd (r_loadA (vs := [_, _, _, _]) ag49 sz49 rfl rfl (by repeat first | exact mH | apply mT | apply List.mem_append_right) rfl) ?_)
      refine L_go rfl (X_rd (r_loadA (vs := [_, _, _, _, _]) ag25 sz25 rfl rfl (by repeat first | exact mH | apply mT | apply List.mem_append_right) rfl) ?_)
      refine L_go rfl (X_wr (w_callG (pre := [_, _]) rfl rfl rfl rfl (fun w hg => follow_c p _ w (hpr.good hg) t _ _ (hT.good hg) (-1))) ?_)
      rintro _ _ ⟨GR, GP, rfl, hfr1, ok1, pa1, ra1, pn1, pc1, rn1, rc1, rxs1, rfl, himp⟩
      try simp only [List.cons_append, List.nil_append, List.append_nil]
      refine L_go rfl (X_p (p_move rfl rfl) ?_)
      refine L_go rfl (X_p (p_ext rfl rfl rfl) ?_)
      refine L_go rfl (X_p (p_ext rfl rfl rfl) ?_)
      refine L_go rfl (X_p (p_ext rfl rfl rfl) ?_)
      refine L_go rfl (X_wr (w_alloc zr25 rfl) ?_)
      rintro _ _ ⟨b4, hb4, rfl, rfl⟩
      refine L_go rfl (X_wr (w_store (cs' := [_, _, _, _, _]) sz25 rfl rfl rfl rfl rfl (by repeat first | exact .head | apply SetAt.tail) (Nat.le_of_ble_eq_true rfl) rfl) ?_)
      rintro _ _ ⟨rfl, rfl⟩
      refine L_go rfl (X_p (p_assign rfl rfl) ?_)
      refine L_go rfl (X_p (p_assign rfl rfl) ?_)
      refine L_then (.cons (k := 1) rfl (.cons (k := 7) rfl (.cons (k := 12) rfl (.cons (k := 13) rfl .nil)))) ?_
      refine V_seq ?_
      refine V_seq (V_region rfl ?_)
      refine L_go rfl (X_p (p_move rfl rfl) ?_)
      refine L_go rfl (X_p (p_not rfl rfl) ?_)
      refine L_go rfl (X_p (p_move rfl rfl) ?_)
      refine L_cases (d := 68) rfl ?_ ?_
      · intro g2; have g2' := g2; try simp only [td] at g2'
        refine L_no rfl rfl rfl g2 ?_
        refine L_no rfl rfl rfl g2 ?_
        refine L_go rfl (X_p (p_pick_t rfl rfl g2 rfl) ?_)
        refine L_go rfl (X_p (p_move rfl rfl) ?_)
        refine L_no rfl rfl rfl rfl ?_
        refine L_no rfl rfl rfl rfl ?_
        refine L_no rfl rfl rfl rfl ?_
        refine L_no rfl rfl rfl rfl ?_
        refine L_go rfl (X_p (p_pick_t rfl rfl rfl rfl) ?_)
        refine L_then (.cons (k := 1) rfl (.cons (k := 7) rfl (.cons (k := 12) rfl (.cons (k := 77) rfl .nil)))) ?_
        refine V_cond_t rfl rfl ?_
        refine V_seq (V_region rfl ?_)
        refine L_go rfl (X_wr (w_callP rfl rfl rfl (fun w hg => awake_c w)) ?_)
        rintro _ _ ⟨rfl, rfl⟩
        refine L_go rfl (X_p (p_assign rfl rfl) ?_)
        refine L_then (.cons (k := 6) rfl .nil) ?_
        refine V_ret (then_r ?_)
        refine Leave.nil (.tmp rfl .nil) ?_
        rfl
      · intro g2; have g2' := g2; try simp only [td] at g2'
        have hk1 : ok1 = true := by revert g2; cases ok1 <;> simp
        obtain ⟨_, hG', rfl, rfl, rfl, hsm, hsp, hgP, hgR⟩ := himp hk1
        refine L_yes rfl rfl rfl g2 (X_p (p_move rfl rfl) ?_)
        refine L_yes rfl rfl rfl g2 (X_p (p_lss rfl rfl rfl) ?_)
        refine L_go rfl (X_p (p_pick_f rfl rfl g2 rfl) ?_)
        refine L_go rfl (X_p (p_move rfl rfl) ?_)
        refine L_yes rfl rfl rfl (decide_eq_false (by omega)) (X_p (p_move rfl rfl) ?_)
        refine L_yes rfl rfl rfl (decide_eq_false (by omega)) (X_p (p_move rfl rfl) ?_)
        refine L_yes rfl rfl rfl (decide_eq_false (by omega)) (X_p (p_len isl52 rfl rfl) ?_)
        refine L_yes rfl rfl rfl (decide_eq_false (by omega)) (X_p (p_geq rfl rfl rfl) ?_)
        refine L_go rfl (X_p (p_pick_f rfl rfl (decide_eq_false (by omega)) rfl) ?_)
        refine L_then (.cons (k := 1) rfl (.cons (k := 7) rfl (.cons (k := 12) rfl (.cons (k := 77) rfl .nil)))) ?_
        refine V_cond rfl ?_ ?_
        · intro c2; have c2r := c2; try simp only [td] at c2
          refine V_seq (V_region rfl ?_)
          refine L_go rfl (X_wr (w_callP rfl rfl rfl (fun w hg => awake_c w)) ?_)
          rintro _ _ ⟨rfl, rfl⟩
          refine L_go rfl (X_p (p_assign rfl rfl) ?_)
          refine L_then (.cons (k := 6) rfl .nil) ?_
          refine V_ret (then_r ?_)
          refine Leave.nil (.tmp rfl .nil) ?_
          rfl
        · intro c2; have c2r := c2; try simp only [td] at c2
          obtain ⟨gb, cur, rfl, rfl, hcur, hcs, hgn, hgm⟩ := Grow.form2 hgR (by omega)
          refine V_skip (then_n ?_)
          refine V_seq ?_
          refine V_seq (V_region rfl ?_)
          refine L_go rfl (X_p (p_assign rfl rfl) ?_)
          refine L_then (.cons (k := 1) rfl (.cons (k := 7) rfl (.cons (k := 12) rfl (.cons (k := 14) rfl .nil)))) ?_
          refine V_block ?_
          refine V_loopU ?_
          refine LU_step ?_
          refine V_seq ?_
          refine V_seq (V_region rfl ?_)
          refine L_go rfl (X_p (p_move rfl rfl) ?_)
          refine L_go rfl (X_p (p_lss rfl rfl rfl) ?_)
          refine L_then (.cons (k := 1) rfl (.cons (k := 7) rfl (.cons (k := 12) rfl (.cons (k := 14) rfl (.cons (k := 80) rfl .nil))))) ?_
          refine V_cond_t rfl rfl ?_
          refine V_skip (then_n ?_)
          refine V_seq ?_
          refine V_block ?_
          refine V_seq (V_region rfl ?_)
          refine L_go rfl (X_p (p_move rfl rfl) ?_)
          refine L_go rfl (X_p (p_move rfl rfl) ?_)
          refine L_go rfl (X_p (p_move rfl rfl) ?_)
          refine L_go rfl (X_p (p_idxo es52 rfl rfl rfl (by omega) (by omega)) ?_)
          refine L_go rfl (X_p (p_idxao ar55 rfl rfl rfl (by omega) (by omega)) ?_)
          refine L_go rfl (X_rd (r_load ag3 rfl rfl (by repeat first | exact mH | apply mT | apply List.mem_append_right) (v := .int .i64 (posT t p 0 n.toNat)) (cur_at hcur (pos_at (by omega) (by decide)))) ?_)
          refine L_go rfl (X_p (p_move rfl rfl) ?_)
          refine L_go rfl (X_p (p_gtr rfl rfl rfl) ?_)
          refine L_go rfl (X_p (p_move rfl rfl) ?_)
          refine L_yes rfl rfl rfl (decide_eq_false (by have := pos_reachI hG hpr.ok (n := n) (by omega) 0; omega)) (X_p (p_move rfl rfl) ?_)
          refine L_yes rfl rfl rfl (decide_eq_false (by have := pos_reachI hG hpr.ok (n := n) (by omega) 0; omega)) (X_p (p_move rfl rfl) ?_)
          refine L_yes rfl rfl rfl (decide_eq_false (by have := pos_reachI hG hpr.ok (n := n) (by omega) 0; omega)) (X_p (p_move rfl rfl) ?_)
          refine L_yes rfl rfl rfl (decide_eq_false (by have := pos_reachI hG hpr.ok (n := n) (by omega) 0; omega)) (X_p (p_idxo es52 rfl rfl rfl (by omega) (by omega)) ?_)
          refine L_yes rfl rfl rfl (decide_eq_false (by have := pos_reachI hG hpr.ok (n := n) (by omega) 0; omega)) (X_p (p_idxao ar55 rfl rfl rfl (by omega) (by omega)) ?_)
          refine L_yes rfl rfl rfl (decide_eq_false (by have := pos_reachI hG hpr.ok (n := n) (by omega) 0; omega)) (X_rd (r_load ag3 rfl rfl (by repeat first | exact mH | apply mT | apply List.mem_append_right) (v := .int .i64 (posT t p 0 n.toNat)) (cur_at hcur (pos_at (by omega) (by decide)))) ?_)
          refine L_yes rfl rfl rfl (decide_eq_false (by have := pos_reachI hG hpr.ok (n := n) (by omega) 0; omega)) (X_p (p_move rfl rfl) ?_)
          first | refine L_yes rfl rfl rfl (decide_eq_false (by have := pos_reachI hG hpr.ok (n := n) (by omega) 0; omega)) (X_p (p_neg' rfl rfl (by unfold InI; omega)) ?_) | refine L_yes rfl rfl rfl (decide_eq_false (by have := pos_reachI hG hpr.ok (n := n) (by omega) 0; omega)) (X_p (p_neg rfl rfl) ?_)
          refine L_yes rfl rfl rfl (decide_eq_false (by have := pos_reachI hG hpr.ok (n := n) (by omega) 0; omega)) (X_p (p_lss rfl rfl rfl) ?_)
          refine L_go rfl (X_p (p_pick_f rfl rfl (decide_eq_false (by have := pos_reachI hG hpr.ok (n := n) (by omega) 0; omega)) rfl) ?_)
          refine L_then (.cons (k := 1) rfl (.cons (k := 7) rfl (.cons (k := 12) rfl (.cons (k := 14) rfl (.cons (k := 101) rfl .nil))))) ?_
          refine V_cond_f rfl (decide_eq_false (by have := pos_reachI hG hpr.ok (n := n) (by omega) 0; omega)) ?_
          refine V_skip (blk_n (then_n ?_))
          refine V_region rfl ?_
          refine L_go rfl (X_p (p_move rfl rfl) ?_)
          first | refine L_go rfl (X_p (p_add' rfl rfl rfl (by unfold InI; omega)) ?_) | refine L_go rfl (X_p (p_add rfl rfl rfl) ?_)
          refine L_go rfl (X_p (p_assign rfl rfl) ?_)
          refine L_keep (.cons (k := 1) rfl (.cons (k := 7) rfl (.cons (k := 12) rfl (.cons (k := 14) rfl .nil)))) (then_n ?_)
          refine LU_step ?_
          refine V_seq ?_
          refine V_seq (V_region rfl ?_)
          refine L_go rfl (X_p (p_move rfl rfl) ?_)
          refine L_go rfl (X_p (p_lss rfl rfl rfl) ?_)
          refine L_then (.cons (k := 1) rfl (.cons (k := 7) rfl (.cons (k := 12) rfl (.cons (k := 14) rfl (.cons (k := 80) rfl .nil))))) ?_
          refine V_cond_t rfl rfl ?_
          refine V_skip (then_n ?_)
          refine V_seq ?_
          refine V_block ?_
          refine V_seq (V_region rfl ?_)
          refine L_go rfl (X_p (p_move rfl rfl) ?_)
          refine L_go rfl (X_p (p_move rfl rfl) ?_)
          refine L_go rfl (X_p (p_move rfl rfl) ?_)
          refine L_go rfl (X_p (p_idxo es52 rfl rfl rfl (by omega) (by omega)) ?_)
          refine L_go rfl (X_p (p_idxao ar55 rfl rfl rfl (by omega) (by omega)) ?_)
          refine L_go rfl (X_rd (r_load ag3 rfl rfl (by repeat first | exact mH | apply mT | apply List.mem_append_right) (v := .int .i64 (posT t p 1 n.toNat)) (cur_at hcur (pos_at (by omega) (by decide)))) ?_)
          refine L_go rfl (X_p (p_move rfl rfl) ?_)
          refine L_go rfl (X_p (p_gtr rfl rfl rfl) ?_)
          refine L_go rfl (X_p (p_move rfl rfl) ?_)
          refine L_yes rfl rfl rfl (decide_eq_false (by have := pos_reachI hG hpr.ok (n := n) (by omega) 1; omega)) (X_p (p_move rfl rfl) ?_)
          refine L_yes rfl rfl rfl (decide_eq_false (by have := pos_reachI hG hpr.ok (n := n) (by omega) 1; omega)) (X_p (p_move rfl rfl) ?_)
          refine L_yes rfl rfl rfl (decide_eq_false (by have := pos_reachI hG hpr.ok (n := n) (by omega) 1; omega)) (X_p (p_move rfl rfl) ?_)
          refine L_yes rfl rfl rfl (decide_eq_false (by have := pos_reachI hG hpr.ok (n := n) (by omega) 1; omega)) (X_p (p_idxo es52 rfl rfl rfl (by omega) (by omega)) ?_)
          refine L_yes rfl rfl rfl (decide_eq_false (by have := pos_reachI hG hpr.ok (n := n) (by omega) 1; omega)) (X_p (p_idxao ar55 rfl rfl rfl (by omega) (by omega)) ?_)
          refine L_yes rfl rfl rfl (decide_eq_false (by have := pos_reachI hG hpr.ok (n := n) (by omega) 1; omega)) (X_rd (r_load ag3 rfl rfl (by repeat first | exact mH | apply mT | apply List.mem_append_right) (v := .int .i64 (posT t p 1 n.toNat)) (cur_at hcur (pos_at (by omega) (by decide)))) ?_)
          refine L_yes rfl rfl rfl (decide_eq_false (by have := pos_reachI hG hpr.ok (n := n) (by omega) 1; omega)) (X_p (p_move rfl rfl) ?_)
          first | refine L_yes rfl rfl rfl (decide_eq_false (by have := pos_reachI hG hpr.ok (n := n) (by omega) 1; omega)) (X_p (p_neg' rfl rfl (by unfold InI; omega)) ?_) | refine L_yes rfl rfl rfl (decide_eq_false (by have := pos_reachI hG hpr.ok (n := n) (by omega) 1; omega)) (X_p (p_neg rfl rfl) ?_)
          refine L_yes rfl rfl rfl (decide_eq_false (by have := pos_reachI hG hpr.ok (n := n) (by omega) 1; omega)) (X_p (p_lss rfl rfl rfl) ?_)
          refine L_go rfl (X_p (p_pick_f rfl rfl (decide_eq_false (by have := pos_reachI hG hpr.ok (n := n) (by omega) 1; omega)) rfl) ?_)
          refine L_then (.cons (k := 1) rfl (.cons (k := 7) rfl (.cons (k := 12) rfl (.cons (k := 14) rfl (.cons (k := 101) rfl .nil))))) ?_
          refine V_cond_f rfl (decide_eq_false (by have := pos_reachI hG hpr.ok (n := n) (by omega) 1; omega)) ?_
          refine V_skip (blk_n (then_n ?_))
          refine V_region rfl ?_
          refine L_go rfl (X_p (p_move rfl rfl) ?_)
          first | refine L_go rfl (X_p (p_add' rfl rfl rfl (by unfold InI; omega)) ?_) | refine L_go rfl (X_p (p_add rfl rfl rfl) ?_)
          refine L_go rfl (X_p (p_assign rfl rfl) ?_)
          refine L_keep (.cons (k := 1) rfl (.cons (k := 7) rfl (.cons (k := 12) rfl (.cons (k := 14) rfl .nil)))) (then_n ?_)
          refine LU_step ?_
          refine V_seq ?_
          refine V_seq (V_region rfl ?_)
          refine L_go rfl (X_p (p_move rfl rfl) ?_)
          refine L_go rfl (X_p (p_lss rfl rfl rfl) ?_)
          refine L_then (.cons (k := 1) rfl (.cons (k := 7) rfl (.cons (k := 12) rfl (.cons (k := 14) rfl (.cons (k := 80) rfl .nil))))) ?_
          refine V_cond_t rfl rfl ?_
          refine V_skip (then_n ?_)
          refine V_seq ?_
          refine V_block ?_
          refine V_seq (V_region rfl ?_)
          refine L_go rfl (X_p (p_move rfl rfl) ?_)
          refine L_go rfl (X_p (p_move rfl rfl) ?_)
          refine L_go rfl (X_p (p_move rfl rfl) ?_)
          refine L_go rfl (X_p (p_idxo es52 rfl rfl rfl (by omega) (by omega)) ?_)
          refine L_go rfl (X_p (p_idxao ar55 rfl rfl rfl (by omega) (by omega)) ?_)
          refine L_go rfl (X_rd (r_load ag3 rfl rfl (by repeat first | exact mH | apply mT | apply List.mem_append_right) (v := .int .i64 (posT t p 2 n.toNat)) (cur_at hcur (pos_at (by omega) (by decide)))) ?_)
          refine L_go rfl (X_p (p_move rfl rfl) ?_)
          refine L_go rfl (X_p (p_gtr rfl rfl rfl) ?_)
          refine L_go rfl (X_p (p_move rfl rfl) ?_)
          refine L_yes rfl rfl rfl (decide_eq_false (by have := pos_reachI hG hpr.ok (n := n) (by omega) 2; omega)) (X_p (p_move rfl rfl) ?_)
          refine L_yes rfl rfl rfl (decide_eq_false (by have := pos_reachI hG hpr.ok (n := n) (by omega) 2; omega)) (X_p (p_move rfl rfl) ?_)
          refine L_yes rfl rfl rfl (decide_eq_false (by have := pos_reachI hG hpr.ok (n := n) (by omega) 2; omega)) (X_p (p_move rfl rfl) ?_)
          refine L_yes rfl rfl rfl (decide_eq_false (by have := pos_reachI hG hpr.ok (n := n) (by omega) 2; omega)) (X_p (p_idxo es52 rfl rfl rfl (by omega) (by omega)) ?_)
          refine L_yes rfl rfl rfl (decide_eq_false (by have := pos_reachI hG hpr.ok (n := n) (by omega) 2; omega)) (X_p (p_idxao ar55 rfl rfl rfl (by omega) (by omega)) ?_)
          refine L_yes rfl rfl rfl (decide_eq_false (by have := pos_reachI hG hpr.ok (n := n) (by omega) 2; omega)) (X_rd (r_load ag3 rfl rfl (by repeat first | exact mH | apply mT | apply List.mem_append_right) (v := .int .i64 (posT t p 2 n.toNat)) (cur_at hcur (pos_at (by omega) (by decide)))) ?_)
          refine L_yes rfl rfl rfl (decide_eq_false (by have := pos_reachI hG hpr.ok (n := n) (by omega) 2; omega)) (X_p (p_move rfl rfl) ?_)
          first | refine L_yes rfl rfl rfl (decide_eq_false (by have := pos_reachI hG hpr.ok (n := n) (by omega) 2; omega)) (X_p (p_neg' rfl rfl (by unfold InI; omega)) ?_) | refine L_yes rfl rfl rfl (decide_eq_false (by have := pos_reachI hG hpr.ok (n := n) (by omega) 2; omega)) (X_p (p_neg rfl rfl) ?_)
          refine L_yes rfl rfl rfl (decide_eq_false (by have := pos_reachI hG hpr.ok (n := n) (by omega) 2; omega)) (X_p (p_lss rfl rfl rfl) ?_)
          refine L_go rfl (X_p (p_pick_f rfl rfl (decide_eq_false (by have := pos_reachI hG hpr.ok (n := n) (by omega) 2; omega)) rfl) ?_)
          refine L_then (.cons (k := 1) rfl (.cons (k := 7) rfl (.cons (k := 12) rfl (.cons (k := 14) rfl (.cons (k := 101) rfl .nil))))) ?_
          refine V_cond_f rfl (decide_eq_false (by have := pos_reachI hG hpr.ok (n := n) (by omega) 2; omega)) ?_
          refine V_skip (blk_n (then_n ?_))
          refine V_region rfl ?_
          refine L_go rfl (X_p (p_move rfl rfl) ?_)
          first | refine L_go rfl (X_p (p_add' rfl rfl rfl (by unfold InI; omega)) ?_) | refine L_go rfl (X_p (p_add rfl rfl rfl) ?_)
          refine L_go rfl (X_p (p_assign rfl rfl) ?_)
          refine L_keep (.cons (k := 1) rfl (.cons (k := 7) rfl (.cons (k := 12) rfl (.cons (k := 14) rfl .nil)))) (then_n ?_)
          refine LU_step ?_
          refine V_seq ?_
          refine V_seq (V_region rfl ?_)
          refine L_go rfl (X_p (p_move rfl rfl) ?_)
          refine L_go rfl (X_p (p_lss rfl rfl rfl) ?_)
          refine L_then (.cons (k := 1) rfl (.cons (k := 7) rfl (.cons (k := 12) rfl (.cons (k := 14) rfl (.cons (k := 80) rfl .nil))))) ?_
          refine V_cond_f rfl rfl ?_
          refine V_exit (then_e (then_e (blk_e rfl (then_n ?_))))
          refine V_seq (V_region rfl ?_)
          refine L_go rfl (X_wr (w_callP rfl rfl rfl (fun w hg => awake_c w)) ?_)
          rintro _ _ ⟨rfl, rfl⟩
          refine L_go rfl (X_p (p_assign rfl rfl) ?_)
          refine L_then (.cons (k := 6) rfl .nil) ?_
          refine V_ret ?_
          refine Leave.nil (.tmp rfl .nil) ?_
          rfl
    · intro c1; have c1r := c1; try simp only [td] at c1
      refine V_skip (then_n ?_)
      refine V_seq (V_region rfl ?_)
      refine L_go rfl (X_rd (r_loadA (vs := [_, _, _, _]) ag49 sz49 rfl rfl (by repeat first | exact mH | apply mT | apply List.mem_append_right) rfl) ?_)
      refine L_go rfl (X_rd (r_loadA (vs := [_, _, _, _, _]) ag25 sz25 rfl rfl (by repeat first | exact mH | apply mT | apply List.mem_append_right) rfl) ?_)
      refine L_go rfl (X_wr (w_callG (pre := [_, _]) rfl rfl rfl rfl (fun w hg => follow_c p _ w (hpr.good hg) t _ _ (hT.good hg) (-1))) ?_)
      rintro _ _ ⟨GR, GP, rfl, hfr1, ok1, pa1, ra1, pn1, pc1, rn1, rc1, rxs1, rfl, himp⟩
      try simp only [List.cons_append, List.nil_append, List.append_nil]
      refine L_go rfl (X_p (p_move rfl rfl) ?_)
      refine L_go rfl (X_p (p_ext rfl rfl rfl) ?_)
      refine L_go rfl (X_p (p_ext rfl rfl rfl) ?_)
      refine L_go rfl (X_p (p_ext rfl rfl rfl) ?_)
      refine L_go rfl (X_wr (w_alloc zr25 rfl) ?_)
      rintro _ _ ⟨b4, hb4, rfl, rfl⟩
      refine L_go rfl (X_wr (w_store (cs' := [_, _, _, _, _]) sz25 rfl rfl rfl rfl rfl (by repeat first | exact .head | apply SetAt.tail) (Nat.le_of_ble_eq_true rfl) rfl) ?_)
      rintro _ _ ⟨rfl, rfl⟩
      refine L_go rfl (X_p (p_assign rfl rfl) ?_)
      refine L_go rfl (X_p (p_assign rfl rfl) ?_)
      refine L_then (.cons (k := 1) rfl (.cons (k := 7) rfl (.cons (k := 12) rfl (.cons (k := 13) rfl .nil)))) ?_
      refine V_seq ?_
      refine V_seq (V_region rfl ?_)
      refine L_go rfl (X_p (p_move rfl rfl) ?_)
      refine L_go rfl (X_p (p_not rfl rfl) ?_)
      refine L_go rfl (X_p (p_move rfl rfl) ?_)
      refine L_cases (d := 68) rfl ?_ ?_
      · intro g3; have g3' := g3; try simp only [td] at g3'
        refine L_no rfl rfl rfl g3 ?_
        refine L_no rfl rfl rfl g3 ?_
        refine L_go rfl (X_p (p_pick_t rfl rfl g3 rfl) ?_)
        refine L_go rfl (X_p (p_move rfl rfl) ?_)
        refine L_no rfl rfl rfl rfl ?_
        refine L_no rfl rfl rfl rfl ?_
        refine L_no rfl rfl rfl rfl ?_
        refine L_no rfl rfl rfl rfl ?_
        refine L_go rfl (X_p (p_pick_t rfl rfl rfl rfl) ?_)
        refine L_then (.cons (k := 1) rfl (.cons (k := 7) rfl (.cons (k := 12) rfl (.cons (k := 77) rfl .nil)))) ?_
        refine V_cond_t rfl rfl ?_
        refine V_seq (V_region rfl ?_)
        refine L_go rfl (X_wr (w_callP rfl rfl rfl (fun w hg => awake_c w)) ?_)
        rintro _ _ ⟨rfl, rfl⟩
        refine L_go rfl (X_p (p_assign rfl rfl) ?_)
        refine L_then (.cons (k := 6) rfl .nil) ?_
        refine V_ret (then_r ?_)
        refine Leave.nil (.tmp rfl .nil) ?_
        rfl
      · intro g3; have g3' := g3; try simp only [td] at g3'
        have hk1 : ok1 = true := by revert g3; cases ok1 <;> simp
        obtain ⟨_, hG', rfl, rfl, rfl, hsm, hsp, hgP, hgR⟩ := himp hk1
        refine L_yes rfl rfl rfl g3 (X_p (p_move rfl rfl) ?_)
        refine L_yes rfl rfl rfl g3 (X_p (p_lss rfl rfl rfl) ?_)
        refine L_go rfl (X_p (p_pick_f rfl rfl g3 rfl) ?_)
        refine L_go rfl (X_p (p_move rfl rfl) ?_)
        refine L_yes rfl rfl rfl (decide_eq_false (by omega)) (X_p (p_move rfl rfl) ?_)
        refine L_yes rfl rfl rfl (decide_eq_false (by omega)) (X_p (p_move rfl rfl) ?_)
        refine L_yes rfl rfl rfl (decide_eq_false (by omega)) (X_p (p_len isl52 rfl rfl) ?_)
        refine L_yes rfl rfl rfl (decide_eq_false (by omega)) (X_p (p_geq rfl rfl rfl) ?_)
        refine L_go rfl (X_p (p_pick_f rfl rfl (decide_eq_false (by omega)) rfl) ?_)
        refine L_then (.cons (k := 1) rfl (.cons (k := 7) rfl (.cons (k := 12) rfl (.cons (k := 77) rfl .nil)))) ?_
        refine V_cond rfl ?_ ?_
        · intro c3; have c3r := c3; try simp only [td] at c3
          refine V_seq (V_region rfl ?_)
          refine L_go rfl (X_wr (w_callP rfl rfl rfl (fun w hg => awake_c w)) ?_)
          rintro _ _ ⟨rfl, rfl⟩
          refine L_go rfl (X_p (p_assign rfl rfl) ?_)
          refine L_then (.cons (k := 6) rfl .nil) ?_
          refine V_ret (then_r ?_)
          refine Leave.nil (.tmp rfl .nil) ?_
          rfl
        · intro c3; have c3r := c3; try simp only [td] at c3
          obtain ⟨gb, cur, rfl, rfl, hcur, hcs, hgn, hgm⟩ := Grow.form2 hgR (by omega)
          refine V_skip (then_n ?_)
          refine V_seq ?_
          refine V_seq (V_region rfl ?_)
          refine L_go rfl (X_p (p_assign rfl rfl) ?_)
          refine L_then (.cons (k := 1) rfl (.cons (k := 7) rfl (.cons (k := 12) rfl (.cons (k := 14) rfl .nil)))) ?_
          refine V_block ?_
          refine V_loopU ?_
          refine LU_step ?_
          refine V_seq ?_
          refine V_seq (V_region rfl ?_)
          refine L_go rfl (X_p (p_move rfl rfl) ?_)
          refine L_go rfl (X_p (p_lss rfl rfl rfl) ?_)
          refine L_then (.cons (k := 1) rfl (.cons (k := 7) rfl (.cons (k := 12) rfl (.cons (k := 14) rfl (.cons (k := 80) rfl .nil))))) ?_
          refine V_cond_t rfl rfl ?_
          refine V_skip (then_n ?_)
          refine V_seq ?_
          refine V_block ?_
          refine V_seq (V_region rfl ?_)
          refine L_go rfl (X_p (p_move rfl rfl) ?_)
          refine L_go rfl (X_p (p_move rfl rfl) ?_)
          refine L_go rfl (X_p (p_move rfl rfl) ?_)
          refine L_go rfl (X_p (p_idxo es52 rfl rfl rfl (by omega) (by omega)) ?_)
          refine L_go rfl (X_p (p_idxao ar55 rfl rfl rfl (by omega) (by omega)) ?_)
          refine L_go rfl (X_rd (r_load ag3 rfl rfl (by repeat first | exact mH | apply mT | apply List.mem_append_right) (v := .int .i64 (posT t p 0 n.toNat)) (cur_at hcur (pos_at (by omega) (by decide)))) ?_)
          refine L_go rfl (X_p (p_move rfl rfl) ?_)
          refine L_go rfl (X_p (p_gtr rfl rfl rfl) ?_)
          refine L_go rfl (X_p (p_move rfl rfl) ?_)
          refine L_yes rfl rfl rfl (decide_eq_false (by have := pos_reachI hG hpr.ok (n := n) (by omega) 0; omega)) (X_p (p_move rfl rfl) ?_)
          refine L_yes rfl rfl rfl (decide_eq_false (by have := pos_reachI hG hpr.ok (n := n) (by omega) 0; omega)) (X_p (p_move rfl rfl) ?_)
          refine L_yes rfl rfl rfl (decide_eq_false (by have := pos_reachI hG hpr.ok (n := n) (by omega) 0; omega)) (X_p (p_move rfl rfl) ?_)
          refine L_yes rfl rfl rfl (decide_eq_false (by have := pos_reachI hG hpr.ok (n := n) (by omega) 0; omega)) (X_p (p_idxo es52 rfl rfl rfl (by omega) (by omega)) ?_)
          refine L_yes rfl rfl rfl (decide_eq_false (by have := pos_reachI hG hpr.ok (n := n) (by omega) 0; omega)) (X_p (p_idxao ar55 rfl rfl rfl (by omega) (by omega)) ?_)
          refine L_yes rfl rfl rfl (decide_eq_false (by have := pos_reachI hG hpr.ok (n := n) (by omega) 0; omega)) (X_rd (r_load ag3 rfl rfl (by repeat first | exact mH | apply mT | apply List.mem_append_right) (v := .int .i64 (posT t p 0 n.toNat)) (cur_at hcur (pos_at (by omega) (by decide)))) ?_)
          refine L_yes rfl rfl rfl (decide_eq_false (by have := pos_reachI hG hpr.ok (n := n) (by omega) 0; omega)) (X_p (p_move rfl rfl) ?_)
          first | refine L_yes rfl rfl rfl (decide_eq_false (by have := pos_reachI hG hpr.ok (n := n) (by omega) 0; omega)) (X_p (p_neg' rfl rfl (by unfold InI; omega)) ?_) | refine L_yes rfl rfl rfl (decide_eq_false (by have := pos_reachI hG hpr.ok (n := n) (by omega) 0; omega)) (X_p (p_neg rfl rfl) ?_)
          refine L_yes rfl rfl rfl (decide_eq_false (by have := pos_reachI hG hpr.ok (n := n) (by omega) 0; omega)) (X_p (p_lss rfl rfl rfl) ?_)
          refine L_go rfl (X_p (p_pick_f rfl rfl (decide_eq_false (by have := pos_reachI hG hpr.ok (n := n) (by omega) 0; omega)) rfl) ?_)
          refine L_then (.cons (k := 1) rfl (.cons (k := 7) rfl (.cons (k := 12) rfl (.cons (k := 14) rfl (.cons (k := 101) rfl .nil))))) ?_
          refine V_cond_f rfl (decide_eq_false (by have := pos_reachI hG hpr.ok (n := n) (by omega) 0; omega)) ?_
          refine V_skip (blk_n (then_n ?_))
          refine V_region rfl ?_
          refine L_go rfl (X_p (p_move rfl rfl) ?_)
          first | refine L_go rfl (X_p (p_add' rfl rfl rfl (by unfold InI; omega)) ?_) | refine L_go rfl (X_p (p_add rfl rfl rfl) ?_)
          refine L_go rfl (X_p (p_assign rfl rfl) ?_)
          refine L_keep (.cons (k := 1) rfl (.cons (k := 7) rfl (.cons (k := 12) rfl (.cons (k := 14) rfl .nil)))) (then_n ?_)
          refine LU_step ?_
          refine V_seq ?_
          refine V_seq (V_region rfl ?_)
          refine L_go rfl (X_p (p_move rfl rfl) ?_)
          refine L_go rfl (X_p (p_lss rfl rfl rfl) ?_)
          refine L_then (.cons (k := 1) rfl (.cons (k := 7) rfl (.cons (k := 12) rfl (.cons (k := 14) rfl (.cons (k := 80) rfl .nil))))) ?_
          refine V_cond_t rfl rfl ?_
          refine V_skip (then_n ?_)
          refine V_seq ?_
          refine V_block ?_
          refine V_seq (V_region rfl ?_)
          refine L_go rfl (X_p (p_move rfl rfl) ?_)
          refine L_go rfl (X_p (p_move rfl rfl) ?_)
          refine L_go rfl (X_p (p_move rfl rfl) ?_)
          refine L_go rfl (X_p (p_idxo es52 rfl rfl rfl (by omega) (by omega)) ?_)
          refine L_go rfl (X_p (p_idxao ar55 rfl rfl rfl (by omega) (by omega)) ?_)
          refine L_go rfl (X_rd (r_load ag3 rfl rfl (by repeat first | exact mH | apply mT | apply List.mem_append_right) (v := .int .i64 (posT t p 1 n.toNat)) (cur_at hcur (pos_at (by omega) (by decide)))) ?_)
          refine L_go rfl (X_p (p_move rfl rfl) ?_)
          refine L_go rfl (X_p (p_gtr rfl rfl rfl) ?_)
          refine L_go rfl (X_p (p_move rfl rfl) ?_)
          refine L_yes rfl rfl rfl (decide_eq_false (by have := pos_reachI hG hpr.ok (n := n) (by omega) 1; omega)) (X_p (p_move rfl rfl) ?_)
          refine L_yes rfl rfl rfl (decide_eq_false (by have := pos_reachI hG hpr.ok (n := n) (by omega) 1; omega)) (X_p (p_move rfl rfl) ?_)
          refine L_yes rfl rfl rfl (decide_eq_false (by have := pos_reachI hG hpr.ok (n := n) (by omega) 1; omega)) (X_p (p_move rfl rfl) ?_)
          refine L_yes rfl rfl rfl (decide_eq_false (by have := pos_reachI hG hpr.ok (n := n) (by omega) 1; omega)) (X_p (p_idxo es52 rfl rfl rfl (by omega) (by omega)) ?_)
          refine L_yes rfl rfl rfl (decide_eq_false (by have := pos_reachI hG hpr.ok (n := n) (by omega) 1; omega)) (X_p (p_idxao ar55 rfl rfl rfl (by omega) (by omega)) ?_)
          refine L_yes rfl rfl rfl (decide_eq_false (by have := pos_reachI hG hpr.ok (n := n) (by omega) 1; omega)) (X_rd (r_load ag3 rfl rfl (by repeat first | exact mH | apply mT | apply List.mem_append_right) (v := .int .i64 (posT t p 1 n.toNat)) (cur_at hcur (pos_at (by omega) (by decide)))) ?_)
          refine L_yes rfl rfl rfl (decide_eq_false (by have := pos_reachI hG hpr.ok (n := n) (by omega) 1; omega)) (X_p (p_move rfl rfl) ?_)
          first | refine L_yes rfl rfl rfl (decide_eq_false (by have := pos_reachI hG hpr.ok (n := n) (by omega) 1; omega)) (X_p (p_neg' rfl rfl (by unfold InI; omega)) ?_) | refine L_yes rfl rfl rfl (decide_eq_false (by have := pos_reachI hG hpr.ok (n := n) (by omega) 1; omega)) (X_p (p_neg rfl rfl) ?_)
          refine L_yes rfl rfl rfl (decide_eq_false (by have := pos_reachI hG hpr.ok (n := n) (by omega) 1; omega)) (X_p (p_lss rfl rfl rfl) ?_)
          refine L_go rfl (X_p (p_pick_f rfl rfl (decide_eq_false (by have := pos_reachI hG hpr.ok (n := n) (by omega) 1; omega)) rfl) ?_)
          refine L_then (.cons (k := 1) rfl (.cons (k := 7) rfl (.cons (k := 12) rfl (.cons (k := 14) rfl (.cons (k := 101) rfl .nil))))) ?_
          refine V_cond_f rfl (decide_eq_false (by have := pos_reachI hG hpr.ok (n := n) (by omega) 1; omega)) ?_
          refine V_skip (blk_n (then_n ?_))
          refine V_region rfl ?_
          refine L_go rfl (X_p (p_move rfl rfl) ?_)
          first | refine L_go rfl (X_p (p_add' rfl rfl rfl (by unfold InI; omega)) ?_) | refine L_go rfl (X_p (p_add rfl rfl rfl) ?_)
          refine L_go rfl (X_p (p_assign rfl rfl) ?_)
          refine L_keep (.cons (k := 1) rfl (.cons (k := 7) rfl (.cons (k := 12) rfl (.cons (k := 14) rfl .nil)))) (then_n ?_)
          refine LU_step ?_
          refine V_seq ?_
          refine V_seq (V_region rfl ?_)
          refine L_go rfl (X_p (p_move rfl rfl) ?_)
          refine L_go rfl (X_p (p_lss rfl rfl rfl) ?_)
          refine L_then (.cons (k := 1) rfl (.cons (k := 7) rfl (.cons (k := 12) rfl (.cons (k := 14) rfl (.cons (k := 80) rfl .nil))))) ?_
          refine V_cond_t rfl rfl ?_
          refine V_skip (then_n ?_)
          refine V_seq ?_
          refine V_block ?_
          refine V_seq (V_region rfl ?_)
          refine L_go rfl (X_p (p_move rfl rfl) ?_)
          refine L_go rfl (X_p (p_move rfl rfl) ?_)
          refine L_go rfl (X_p (p_move rfl rfl) ?_)
          refine L_go rfl (X_p (p_idxo es52 rfl rfl rfl (by omega) (by omega)) ?_)
          refine L_go rfl (X_p (p_idxao ar55 rfl rfl rfl (by omega) (by omega)) ?_)
          refine L_go rfl (X_rd (r_load ag3 rfl rfl (by repeat first | exact mH | apply mT | apply List.mem_append_right) (v := .int .i64 (posT t p 2 n.toNat)) (cur_at hcur (pos_at (by omega) (by decide)))) ?_)
          refine L_go rfl (X_p (p_move rfl rfl) ?_)
          refine L_go rfl (X_p (p_gtr rfl rfl rfl) ?_)
          refine L_go rfl (X_p (p_move rfl rfl) ?_)
          refine L_yes rfl rfl rfl (decide_eq_false (by have := pos_reachI hG hpr.ok (n := n) (by omega) 2; omega)) (X_p (p_move rfl rfl) ?_)
          refine L_yes rfl rfl rfl (decide_eq_false (by have := pos_reachI hG hpr.ok (n := n) (by omega) 2; omega)) (X_p (p_move rfl rfl) ?_)
          refine L_yes rfl rfl rfl (decide_eq_false (by have := pos_reachI hG hpr.ok (n := n) (by omega) 2; omega)) (X_p (p_move rfl rfl) ?_)
          refine L_yes rfl rfl rfl (decide_eq_false (by have := pos_reachI hG hpr.ok (n := n) (by omega) 2; omega)) (X_p (p_idxo es52 rfl rfl rfl (by omega) (by omega)) ?_)
          refine L_yes rfl rfl rfl (decide_eq_false (by have := pos_reachI hG hpr.ok (n := n) (by omega) 2; omega)) (X_p (p_idxao ar55 rfl rfl rfl (by omega) (by omega)) ?_)
          refine L_yes rfl rfl rfl (decide_eq_false (by have := pos_reachI hG hpr.ok (n := n) (by omega) 2; omega)) (X_rd (r_load ag3 rfl rfl (by repeat first | exact mH | apply mT | apply List.mem_append_right) (v := .int .i64 (posT t p 2 n.toNat)) (cur_at hcur (pos_at (by omega) (by decide)))) ?_)
          refine L_yes rfl rfl rfl (decide_eq_false (by have := pos_reachI hG hpr.ok (n := n) (by omega) 2; omega)) (X_p (p_move rfl rfl) ?_)
          first | refine L_yes rfl rfl rfl (decide_eq_false (by have := pos_reachI hG hpr.ok (n := n) (by omega) 2; omega)) (X_p (p_neg' rfl rfl (by unfold InI; omega)) ?_) | refine L_yes rfl rfl rfl (decide_eq_false (by have := pos_reachI hG hpr.ok (n := n) (by omega) 2; omega)) (X_p (p_neg rfl rfl) ?_)
          refine L_yes rfl rfl rfl (decide_eq_false (by have := pos_reachI hG hpr.ok (n := n) (by omega) 2; omega)) (X_p (p_lss rfl rfl rfl) ?_)
          refine L_go rfl (X_p (p_pick_f rfl rfl (decide_eq_false (by have := pos_reachI hG hpr.ok (n := n) (by omega) 2; omega)) rfl) ?_)
          refine L_then (.cons (k := 1) rfl (.cons (k := 7) rfl (.cons (k := 12) rfl (.cons (k := 14) rfl (.cons (k := 101) rfl .nil))))) ?_
          refine V_cond_f rfl (decide_eq_false (by have := pos_reachI hG hpr.ok (n := n) (by omega) 2; omega)) ?_
          refine V_skip (blk_n (then_n ?_))
          refine V_region rfl ?_
          refine L_go rfl (X_p (p_move rfl rfl) ?_)
          first | refine L_go rfl (X_p (p_add' rfl rfl rfl (by unfold InI; omega)) ?_) | refine L_go rfl (X_p (p_add rfl rfl rfl) ?_)
          refine L_go rfl (X_p (p_assign rfl rfl) ?_)
          refine L_keep (.cons (k := 1) rfl (.cons (k := 7) rfl (.cons (k := 12) rfl (.cons (k := 14) rfl .nil)))) (then_n ?_)
          refine LU_step ?_
          refine V_seq ?_
          refine V_seq (V_region rfl ?_)
          refine L_go rfl (X_p (p_move rfl rfl) ?_)
          refine L_go rfl (X_p (p_lss rfl rfl rfl) ?_)
          refine L_then (.cons (k := 1) rfl (.cons (k := 7) rfl (.cons (k := 12) rfl (.cons (k := 14) rfl (.cons (k := 80) rfl .nil))))) ?_
          refine V_cond_f rfl rfl ?_
          refine V_exit (then_e (then_e (blk_e rfl (then_n ?_))))
          refine V_seq (V_region rfl ?_)
          refine L_go rfl (X_wr (w_callP rfl rfl rfl (fun w hg => awake_c w)) ?_)
          rintro _ _ ⟨rfl, rfl⟩
          refine L_go rfl (X_p (p_assign rfl rfl) ?_)
          refine L_then (.cons (k := 6) rfl .nil) ?_
          refine V_ret ?_
          refine Leave.nil (.tmp rfl .nil) ?_
          rfl
  · intro g1; have g1' := g1; try simp only [td] at g1'
    refine L_no rfl rfl rfl g1 ?_
    refine L_no rfl rfl rfl g1 ?_
    refine L_go rfl (X_p (p_pick_f rfl rfl g1 rfl) ?_)
    refine L_then (.cons (k := 1) rfl (.cons (k := 3) rfl (.cons (k := 5) rfl (.cons (k := 7) rfl (.cons (k := 33) rfl .nil))))) ?_
    refine V_cond_f rfl rfl ?_
    refine V_skip (then_n ?_)
    refine V_seq ?_
    refine V_seq (V_region rfl ?_)
    refine L_go rfl (X_p (p_move rfl rfl) ?_)
    refine L_go rfl (X_p (p_lss rfl rfl rfl) ?_)
    refine L_then (.cons (k := 1) rfl (.cons (k := 3) rfl (.cons (k := 5) rfl (.cons (k := 7) rfl (.cons (k := 35) rfl .nil))))) ?_
    refine V_cond rfl ?_ ?_
    · intro c4; have c4r := c4; try simp only [td] at c4
      have hA1 : askedT t [n + 1] = 0 := asked_good hG (by simp only [List.any_cons, List.any_nil, Bool.or_false]; exact oP_false.2 (by omega))
      have hb1 := reachT_bnd hG (n := n + 1) (by omega)
      have hmb := mul_bnd (A := 1000000) (B := 100001) (show 0 ≤ t.accel ∧ t.accel ≤ 1000000 by omega) (show 0 ≤ n + 1 ∧ n + 1 ≤ 100001 by omega)
      refine V_seq (V_region rfl ?_)
      refine L_go rfl (X_rd (r_loadA (vs := [_, _, _, _, _]) ag25 sz25 rfl rfl (by repeat first | exact mH | apply mT | apply List.mem_append_right) rfl) ?_)
      refine L_go rfl (X_p (p_move rfl rfl) ?_)
      first | refine L_go rfl (X_p (p_add' rfl rfl rfl (by unfold InI; omega)) ?_) | refine L_go rfl (X_p (p_add rfl rfl rfl) ?_)
      refine L_go rfl (X_wr (w_callP rfl rfl rfl (fun w hg => (show FnP _ _ _ w (.tuple #[.int .i64 (reachT t (n + 1)), .int .i64 0]) from by have h1 := reachR_c t _ _ (n + 1) w (hT.good hg); rw [reachR_eq, reachP_ok hA1] at h1; exact h1))) ?_)
      rintro _ _ ⟨rfl, rfl⟩
      refine L_go rfl (X_p (p_move rfl rfl) ?_)
      refine L_go rfl (X_p (p_ext rfl rfl rfl) ?_)
      refine L_go rfl (X_p (p_ext rfl rfl rfl) ?_)
      refine L_go rfl (X_p (p_assign rfl rfl) ?_)
      refine L_go rfl (X_p (p_assign rfl rfl) ?_)
      refine L_then (.cons (k := 1) rfl (.cons (k := 3) rfl (.cons (k := 5) rfl (.cons (k := 7) rfl (.cons (k := 9) rfl (.cons (k := 10) rfl .nil)))))) ?_
      refine V_seq (V_region rfl ?_)
      refine L_go rfl (X_p (p_move rfl rfl) ?_)
      refine L_go rfl (X_p (p_neq rfl rfl rfl) ?_)
      refine L_go rfl (X_p (p_move rfl rfl) ?_)
      refine L_yes rfl rfl rfl rfl (X_p (p_move rfl rfl) ?_)
      refine L_yes rfl rfl rfl rfl (X_p (p_move rfl rfl) ?_)
      first | refine L_yes rfl rfl rfl rfl (X_p (p_sub' rfl rfl rfl (by unfold InI; omega)) ?_) | refine L_yes rfl rfl rfl rfl (X_p (p_sub rfl rfl rfl) ?_)
      refine L_yes rfl rfl rfl rfl (X_p (p_fieldo fo25_2 rfl rfl) ?_)
      refine L_yes rfl rfl rfl rfl (X_rd (r_load ag3 rfl rfl (by repeat first | exact mH | apply mT | apply List.mem_append_right) rfl) ?_)
      refine L_yes rfl rfl rfl rfl (X_p (p_move rfl rfl) ?_)
      first | refine L_yes rfl rfl rfl rfl (X_p (p_add' rfl rfl rfl (by unfold InI; omega)) ?_) | refine L_yes rfl rfl rfl rfl (X_p (p_add rfl rfl rfl) ?_)
      first | refine L_yes rfl rfl rfl rfl (X_p (p_mul' rfl rfl rfl (by unfold InI; omega)) ?_) | refine L_yes rfl rfl rfl rfl (X_p (p_mul rfl rfl rfl) ?_)
      refine L_yes rfl rfl rfl rfl (X_p (p_fieldo fo25_1 rfl rfl) ?_)
      refine L_yes rfl rfl rfl rfl (X_rd (r_load ag3 rfl rfl (by repeat first | exact mH | apply mT | apply List.mem_append_right) rfl) ?_)
      refine L_yes rfl rfl rfl rfl (X_p (p_min rfl rfl rfl) ?_)
      refine L_yes rfl rfl rfl rfl (X_p (p_neq rfl rfl rfl) ?_)
      refine L_go rfl (X_p (p_pick_f rfl rfl rfl rfl) ?_)
      refine L_then (.cons (k := 1) rfl (.cons (k := 3) rfl (.cons (k := 5) rfl (.cons (k := 7) rfl (.cons (k := 58) rfl .nil))))) ?_
      refine V_cond_f rfl (by rw [reach_next hG (by omega)]; simp) ?_
      refine V_skip (then_n ?_)
      refine V_seq (V_region rfl ?_)
      refine L_go rfl (X_rd (r_loadA (vs := [_, _, _, _]) ag49 sz49 rfl rfl (by repeat first | exact mH | apply mT | apply List.mem_append_right) rfl) ?_)
      refine L_go rfl (X_rd (r_loadA (vs := [_, _, _, _, _]) ag25 sz25 rfl rfl (by repeat first | exact mH | apply mT | apply List.mem_append_right) rfl) ?_)
      refine L_go rfl (X_wr (w_callG (pre := [_, _]) rfl rfl rfl rfl (fun w hg => follow_c p _ w (hpr.good hg) t _ _ (hT.good hg) (-1))) ?_)
      rintro _ _ ⟨GR, GP, rfl, hfr1, ok1, pa1, ra1, pn1, pc1, rn1, rc1, rxs1, rfl, himp⟩
      try simp only [List.cons_append, List.nil_append, List.append_nil]
      refine L_go rfl (X_p (p_move rfl rfl) ?_)
      refine L_go rfl (X_p (p_ext rfl rfl rfl) ?_)
      refine L_go rfl (X_p (p_ext rfl rfl rfl) ?_)
      refine L_go rfl (X_p (p_ext rfl rfl rfl) ?_)
      refine L_go rfl (X_wr (w_alloc zr25 rfl) ?_)
      rintro _ _ ⟨b4, hb4, rfl, rfl⟩
      refine L_go rfl (X_wr (w_store (cs' := [_, _, _, _, _]) sz25 rfl rfl rfl rfl rfl (by repeat first | exact .head | apply SetAt.tail) (Nat.le_of_ble_eq_true rfl) rfl) ?_)
      rintro _ _ ⟨rfl, rfl⟩
      refine L_go rfl (X_p (p_assign rfl rfl) ?_)
      refine L_go rfl (X_p (p_assign rfl rfl) ?_)
      refine L_then (.cons (k := 1) rfl (.cons (k := 7) rfl (.cons (k := 12) rfl (.cons (k := 13) rfl .nil)))) ?_
      refine V_seq ?_
      refine V_seq (V_region rfl ?_)
      refine L_go rfl (X_p (p_move rfl rfl) ?_)
      refine L_go rfl (X_p (p_not rfl rfl) ?_)
      refine L_go rfl (X_p (p_move rfl rfl) ?_)
      refine L_cases (d := 68) rfl ?_ ?_
      · intro g4; have g4' := g4; try simp only [td] at g4'
        refine L_no rfl rfl rfl g4 ?_
        refine L_no rfl rfl rfl g4 ?_
        refine L_go rfl (X_p (p_pick_t rfl rfl g4 rfl) ?_)
        refine L_go rfl (X_p (p_move rfl rfl) ?_)
        refine L_no rfl rfl rfl rfl ?_
        refine L_no rfl rfl rfl rfl ?_
        refine L_no rfl rfl rfl rfl ?_
        refine L_no rfl rfl rfl rfl ?_
        refine L_go rfl (X_p (p_pick_t rfl rfl rfl rfl) ?_)
        refine L_then (.cons (k := 1) rfl (.cons (k := 7) rfl (.cons (k := 12) rfl (.cons (k := 77) rfl .nil)))) ?_
        refine V_cond_t rfl rfl ?_
        refine V_seq (V_region rfl ?_)
        refine L_go rfl (X_wr (w_callP rfl rfl rfl (fun w hg => awake_c w)) ?_)
        rintro _ _ ⟨rfl, rfl⟩
        refine L_go rfl (X_p (p_assign rfl rfl) ?_)
        refine L_then (.cons (k := 6) rfl .nil) ?_
        refine V_ret (then_r ?_)
        refine Leave.nil (.tmp rfl .nil) ?_
        rfl
      · intro g4; have g4' := g4; try simp only [td] at g4'
        have hk1 : ok1 = true := by revert g4; cases ok1 <;> simp
        obtain ⟨_, hG', rfl, rfl, rfl, hsm, hsp, hgP, hgR⟩ := himp hk1
        refine L_yes rfl rfl rfl g4 (X_p (p_move rfl rfl) ?_)
        refine L_yes rfl rfl rfl g4 (X_p (p_lss rfl rfl rfl) ?_)
        refine L_go rfl (X_p (p_pick_f rfl rfl g4 rfl) ?_)
        refine L_go rfl (X_p (p_move rfl rfl) ?_)
        refine L_yes rfl rfl rfl (decide_eq_false (by omega)) (X_p (p_move rfl rfl) ?_)
        refine L_yes rfl rfl rfl (decide_eq_false (by omega)) (X_p (p_move rfl rfl) ?_)
        refine L_yes rfl rfl rfl (decide_eq_false (by omega)) (X_p (p_len isl52 rfl rfl) ?_)
        refine L_yes rfl rfl rfl (decide_eq_false (by omega)) (X_p (p_geq rfl rfl rfl) ?_)
        refine L_go rfl (X_p (p_pick_f rfl rfl (decide_eq_false (by omega)) rfl) ?_)
        refine L_then (.cons (k := 1) rfl (.cons (k := 7) rfl (.cons (k := 12) rfl (.cons (k := 77) rfl .nil)))) ?_
        refine V_cond rfl ?_ ?_
        · intro c5; have c5r := c5; try simp only [td] at c5
          refine V_seq (V_region rfl ?_)
          refine L_go rfl (X_wr (w_callP rfl rfl rfl (fun w hg => awake_c w)) ?_)
          rintro _ _ ⟨rfl, rfl⟩
          refine L_go rfl (X_p (p_assign rfl rfl) ?_)
          refine L_then (.cons (k := 6) rfl .nil) ?_
          refine V_ret (then_r ?_)
          refine Leave.nil (.tmp rfl .nil) ?_
          rfl
        · intro c5; have c5r := c5; try simp only [td] at c5
          obtain ⟨gb, cur, rfl, rfl, hcur, hcs, hgn, hgm⟩ := Grow.form2 hgR (by omega)
          refine V_skip (then_n ?_)
          refine V_seq ?_
          refine V_seq (V_region rfl ?_)
          refine L_go rfl (X_p (p_assign rfl rfl) ?_)
          refine L_then (.cons (k := 1) rfl (.cons (k := 7) rfl (.cons (k := 12) rfl (.cons (k := 14) rfl .nil)))) ?_
          refine V_block ?_
          refine V_loopU ?_
          refine LU_step ?_
          refine V_seq ?_
          refine V_seq (V_region rfl ?_)
          refine L_go rfl (X_p (p_move rfl rfl) ?_)
          refine L_go rfl (X_p (p_lss rfl rfl rfl) ?_)
          refine L_then (.cons (k := 1) rfl (.cons (k := 7) rfl (.cons (k := 12) rfl (.cons (k := 14) rfl (.cons (k := 80) rfl .nil))))) ?_
          refine V_cond_t rfl rfl ?_
          refine V_skip (then_n ?_)
          refine V_seq ?_
          refine V_block ?_
          refine V_seq (V_region rfl ?_)
          refine L_go rfl (X_p (p_move rfl rfl) ?_)
          refine L_go rfl (X_p (p_move rfl rfl) ?_)
          refine L_go rfl (X_p (p_move rfl rfl) ?_)
          refine L_go rfl (X_p (p_idxo es52 rfl rfl rfl (by omega) (by omega)) ?_)
          refine L_go rfl (X_p (p_idxao ar55 rfl rfl rfl (by omega) (by omega)) ?_)
          refine L_go rfl (X_rd (r_load ag3 rfl rfl (by repeat first | exact mH | apply mT | apply List.mem_append_right) (v := .int .i64 (posT t p 0 n.toNat)) (cur_at hcur (pos_at (by omega) (by decide)))) ?_)
          refine L_go rfl (X_p (p_move rfl rfl) ?_)
          refine L_go rfl (X_p (p_gtr rfl rfl rfl) ?_)
          refine L_go rfl (X_p (p_move rfl rfl) ?_)
          refine L_yes rfl rfl rfl (decide_eq_false (by have := pos_reachI hG hpr.ok (n := n) (by omega) 0; omega)) (X_p (p_move rfl rfl) ?_)
          refine L_yes rfl rfl rfl (decide_eq_false (by have := pos_reachI hG hpr.ok (n := n) (by omega) 0; omega)) (X_p (p_move rfl rfl) ?_)
          refine L_yes rfl rfl rfl (decide_eq_false (by have := pos_reachI hG hpr.ok (n := n) (by omega) 0; omega)) (X_p (p_move rfl rfl) ?_)
          refine L_yes rfl rfl rfl (decide_eq_false (by have := pos_reachI hG hpr.ok (n := n) (by omega) 0; omega)) (X_p (p_idxo es52 rfl rfl rfl (by omega) (by omega)) ?_)
          refine L_yes rfl rfl rfl (decide_eq_false (by have := pos_reachI hG hpr.ok (n := n) (by omega) 0; omega)) (X_p (p_idxao ar55 rfl rfl rfl (by omega) (by omega)) ?_)
          refine L_yes rfl rfl rfl (decide_eq_false (by have := pos_reachI hG hpr.ok (n := n) (by omega) 0; omega)) (X_rd (r_load ag3 rfl rfl (by repeat first | exact mH | apply mT | apply List.mem_append_right) (v := .int .i64 (posT t p 0 n.toNat)) (cur_at hcur (pos_at (by omega) (by decide)))) ?_)
          refine L_yes rfl rfl rfl (decide_eq_false (by have := pos_reachI hG hpr.ok (n := n) (by omega) 0; omega)) (X_p (p_move rfl rfl) ?_)
          first | refine L_yes rfl rfl rfl (decide_eq_false (by have := pos_reachI hG hpr.ok (n := n) (by omega) 0; omega)) (X_p (p_neg' rfl rfl (by unfold InI; omega)) ?_) | refine L_yes rfl rfl rfl (decide_eq_false (by have := pos_reachI hG hpr.ok (n := n) (by omega) 0; omega)) (X_p (p_neg rfl rfl) ?_)
          refine L_yes rfl rfl rfl (decide_eq_false (by have := pos_reachI hG hpr.ok (n := n) (by omega) 0; omega)) (X_p (p_lss rfl rfl rfl) ?_)
          refine L_go rfl (X_p (p_pick_f rfl rfl (decide_eq_false (by have := pos_reachI hG hpr.ok (n := n) (by omega) 0; omega)) rfl) ?_)
          refine L_then (.cons (k := 1) rfl (.cons (k := 7) rfl (.cons (k := 12) rfl (.cons (k := 14) rfl (.cons (k := 101) rfl .nil))))) ?_
          refine V_cond_f rfl (decide_eq_false (by have := pos_reachI hG hpr.ok (n := n) (by omega) 0; omega)) ?_
          refine V_skip (blk_n (then_n ?_))
          refine V_region rfl ?_
          refine L_go rfl (X_p (p_move rfl rfl) ?_)
          first | refine L_go rfl (X_p (p_add' rfl rfl rfl (by unfold InI; omega)) ?_) | refine L_go rfl (X_p (p_add rfl rfl rfl) ?_)
          refine L_go rfl (X_p (p_assign rfl rfl) ?_)
          refine L_keep (.cons (k := 1) rfl (.cons (k := 7) rfl (.cons (k := 12) rfl (.cons (k := 14) rfl .nil)))) (then_n ?_)
          refine LU_step ?_
          refine V_seq ?_
          refine V_seq (V_region rfl ?_)
          refine L_go rfl (X_p (p_move rfl rfl) ?_)
          refine L_go rfl (X_p (p_lss rfl rfl rfl) ?_)
          refine L_then (.cons (k := 1) rfl (.cons (k := 7) rfl (.cons (k := 12) rfl (.cons (k := 14) rfl (.cons (k := 80) rfl .nil))))) ?_
          refine V_cond_t rfl rfl ?_
          refine V_skip (then_n ?_)
          refine V_seq ?_
          refine V_block ?_
          refine V_seq (V_region rfl ?_)
          refine L_go rfl (X_p (p_move rfl rfl) ?_)
          refine L_go rfl (X_p (p_move rfl rfl) ?_)
          refine L_go rfl (X_p (p_move rfl rfl) ?_)
          refine L_go rfl (X_p (p_idxo es52 rfl rfl rfl (by omega) (by omega)) ?_)
          refine L_go rfl (X_p (p_idxao ar55 rfl rfl rfl (by omega) (by omega)) ?_)
          refine L_go rfl (X_rd (r_load ag3 rfl rfl (by repeat first | exact mH | apply mT | apply List.mem_append_right) (v := .int .i64 (posT t p 1 n.toNat)) (cur_at hcur (pos_at (by omega) (by decide)))) ?_)
          refine L_go rfl (X_p (p_move rfl rfl) ?_)
          refine L_go rfl (X_p (p_gtr rfl rfl rfl) ?_)
          refine L_go rfl (X_p (p_move rfl rfl) ?_)
          refine L_yes rfl rfl rfl (decide_eq_false (by have := pos_reachI hG hpr.ok (n := n) (by omega) 1; omega)) (X_p (p_move rfl rfl) ?_)
          refine L_yes rfl rfl rfl (decide_eq_false (by have := pos_reachI hG hpr.ok (n := n) (by omega) 1; omega)) (X_p (p_move rfl rfl) ?_)
          refine L_yes rfl rfl rfl (decide_eq_false (by have := pos_reachI hG hpr.ok (n := n) (by omega) 1; omega)) (X_p (p_move rfl rfl) ?_)
          refine L_yes rfl rfl rfl (decide_eq_false (by have := pos_reachI hG hpr.ok (n := n) (by omega) 1; omega)) (X_p (p_idxo es52 rfl rfl rfl (by omega) (by omega)) ?_)
          refine L_yes rfl rfl rfl (decide_eq_false (by have := pos_reachI hG hpr.ok (n := n) (by omega) 1; omega)) (X_p (p_idxao ar55 rfl rfl rfl (by omega) (by omega)) ?_)
          refine L_yes rfl rfl rfl (decide_eq_false (by have := pos_reachI hG hpr.ok (n := n) (by omega) 1; omega)) (X_rd (r_load ag3 rfl rfl (by repeat first | exact mH | apply mT | apply List.mem_append_right) (v := .int .i64 (posT t p 1 n.toNat)) (cur_at hcur (pos_at (by omega) (by decide)))) ?_)
          refine L_yes rfl rfl rfl (decide_eq_false (by have := pos_reachI hG hpr.ok (n := n) (by omega) 1; omega)) (X_p (p_move rfl rfl) ?_)
          first | refine L_yes rfl rfl rfl (decide_eq_false (by have := pos_reachI hG hpr.ok (n := n) (by omega) 1; omega)) (X_p (p_neg' rfl rfl (by unfold InI; omega)) ?_) | refine L_yes rfl rfl rfl (decide_eq_false (by have := pos_reachI hG hpr.ok (n := n) (by omega) 1; omega)) (X_p (p_neg rfl rfl) ?_)
          refine L_yes rfl rfl rfl (decide_eq_false (by have := pos_reachI hG hpr.ok (n := n) (by omega) 1; omega)) (X_p (p_lss rfl rfl rfl) ?_)
          refine L_go rfl (X_p (p_pick_f rfl rfl (decide_eq_false (by have := pos_reachI hG hpr.ok (n := n) (by omega) 1; omega)) rfl) ?_)
          refine L_then (.cons (k := 1) rfl (.cons (k := 7) rfl (.cons (k := 12) rfl (.cons (k := 14) rfl (.cons (k := 101) rfl .nil))))) ?_
          refine V_cond_f rfl (decide_eq_false (by have := pos_reachI hG hpr.ok (n := n) (by omega) 1; omega)) ?_
          refine V_skip (blk_n (then_n ?_))
          refine V_region rfl ?_
          refine L_go rfl (X_p (p_move rfl rfl) ?_)
          first | refine L_go rfl (X_p (p_add' rfl rfl rfl (by unfold InI; omega)) ?_) | refine L_go rfl (X_p (p_add rfl rfl rfl) ?_)
          refine L_go rfl (X_p (p_assign rfl rfl) ?_)
          refine L_keep (.cons (k := 1) rfl (.cons (k := 7) rfl (.cons (k := 12) rfl (.cons (k := 14) rfl .nil)))) (then_n ?_)
          refine LU_step ?_
          refine V_seq ?_
          refine V_seq (V_region rfl ?_)
          refine L_go rfl (X_p (p_move rfl rfl) ?_)
          refine L_go rfl (X_p (p_lss rfl rfl rfl) ?_)
          refine L_then (.cons (k := 1) rfl (.cons (k := 7) rfl (.cons (k := 12) rfl (.cons (k := 14) rfl (.cons (k := 80) rfl .nil))))) ?_
          refine V_cond_t rfl rfl ?_
          refine V_skip (then_n ?_)
          refine V_seq ?_
          refine V_block ?_
          refine V_seq (V_region rfl ?_)
          refine L_go rfl (X_p (p_move rfl rfl) ?_)
          refine L_go rfl (X_p (p_move rfl rfl) ?_)
          refine L_go rfl (X_p (p_move rfl rfl) ?_)
          refine L_go rfl (X_p (p_idxo es52 rfl rfl rfl (by omega) (by omega)) ?_)
          refine L_go rfl (X_p (p_idxao ar55 rfl rfl rfl (by omega) (by omega)) ?_)
          refine L_go rfl (X_rd (r_load ag3 rfl rfl (by repeat first | exact mH | apply mT | apply List.mem_append_right) (v := .int .i64 (posT t p 2 n.toNat)) (cur_at hcur (pos_at (by omega) (by decide)))) ?_)
          refine L_go rfl (X_p (p_move rfl rfl) ?_)
          refine L_go rfl (X_p (p_gtr rfl rfl rfl) ?_)
          refine L_go rfl (X_p (p_move rfl rfl) ?_)
          refine L_yes rfl rfl rfl (decide_eq_false (by have := pos_reachI hG hpr.ok (n := n) (by omega) 2; omega)) (X_p (p_move rfl rfl) ?_)
          refine L_yes rfl rfl rfl (decide_eq_false (by have := pos_reachI hG hpr.ok (n := n) (by omega) 2; omega)) (X_p (p_move rfl rfl) ?_)
          refine L_yes rfl rfl rfl (decide_eq_false (by have := pos_reachI hG hpr.ok (n := n) (by omega) 2; omega)) (X_p (p_move rfl rfl) ?_)
          refine L_yes rfl rfl rfl (decide_eq_false (by have := pos_reachI hG hpr.ok (n := n) (by omega) 2; omega)) (X_p (p_idxo es52 rfl rfl rfl (by omega) (by omega)) ?_)
          refine L_yes rfl rfl rfl (decide_eq_false (by have := pos_reachI hG hpr.ok (n := n) (by omega) 2; omega)) (X_p (p_idxao ar55 rfl rfl rfl (by omega) (by omega)) ?_)
          refine L_yes rfl rfl rfl (decide_eq_false (by have := pos_reachI hG hpr.ok (n := n) (by omega) 2; omega)) (X_rd (r_load ag3 rfl rfl (by repeat first | exact mH | apply mT | apply List.mem_append_right) (v := .int .i64 (posT t p 2 n.toNat)) (cur_at hcur (pos_at (by omega) (by decide)))) ?_)
          refine L_yes rfl rfl rfl (decide_eq_false (by have := pos_reachI hG hpr.ok (n := n) (by omega) 2; omega)) (X_p (p_move rfl rfl) ?_)
          first | refine L_yes rfl rfl rfl (decide_eq_false (by have := pos_reachI hG hpr.ok (n := n) (by omega) 2; omega)) (X_p (p_neg' rfl rfl (by unfold InI; omega)) ?_) | refine L_yes rfl rfl rfl (decide_eq_false (by have := pos_reachI hG hpr.ok (n := n) (by omega) 2; omega)) (X_p (p_neg rfl rfl) ?_)
          refine L_yes rfl rfl rfl (decide_eq_false (by have := pos_reachI hG hpr.ok (n := n) (by omega) 2; omega)) (X_p (p_lss rfl rfl rfl) ?_)
          refine L_go rfl (X_p (p_pick_f rfl rfl (decide_eq_false (by have := pos_reachI hG hpr.ok (n := n) (by omega) 2; omega)) rfl) ?_)
          refine L_then (.cons (k := 1) rfl (.cons (k := 7) rfl (.cons (k := 12) rfl (.cons (k := 14) rfl (.cons (k := 101) rfl .nil))))) ?_
          refine V_cond_f rfl (decide_eq_false (by have := pos_reachI hG hpr.ok (n := n) (by omega) 2; omega)) ?_
          refine V_skip (blk_n (then_n ?_))
          refine V_region rfl ?_
          refine L_go rfl (X_p (p_move rfl rfl) ?_)
          first | refine L_go rfl (X_p (p_add' rfl rfl rfl (by unfold InI; omega)) ?_) | refine L_go rfl (X_p (p_add rfl rfl rfl) ?_)
          refine L_go rfl (X_p (p_assign rfl rfl) ?_)
          refine L_keep (.cons (k := 1) rfl (.cons (k := 7) rfl (.cons (k := 12) rfl (.cons (k := 14) rfl .nil)))) (then_n ?_)
          refine LU_step ?_
          refine V_seq ?_
          refine V_seq (V_region rfl ?_)
          refine L_go rfl (X_p (p_move rfl rfl) ?_)
          refine L_go rfl (X_p (p_lss rfl rfl rfl) ?_)
          refine L_then (.cons (k := 1) rfl (.cons (k := 7) rfl (.cons (k := 12) rfl (.cons (k := 14) rfl (.cons (k := 80) rfl .nil))))) ?_
          refine V_cond_f rfl rfl ?_
          refine V_exit (then_e (then_e (blk_e rfl (then_n ?_))))
          refine V_seq (V_region rfl ?_)
          refine L_go rfl (X_wr (w_callP rfl rfl rfl (fun w hg => awake_c w)) ?_)
          rintro _ _ ⟨rfl, rfl⟩
          refine L_go rfl (X_p (p_assign rfl rfl) ?_)
          refine L_then (.cons (k := 6) rfl .nil) ?_
          refine V_ret ?_
          refine Leave.nil (.tmp rfl .nil) ?_
          rfl
    · intro c4; have c4r := c4; try simp only [td] at c4
      refine V_skip (then_n ?_)
      refine V_seq (V_region rfl ?_)
      refine L_go rfl (X_rd (r_loadA (vs := [_, _, _, _]) ag49 sz49 rfl rfl (by repeat first | exact mH | apply mT | apply List.mem_append_right) rfl) ?_)
      refine L_go rfl (X_rd (r_loadA (vs := [_, _, _, _, _]) ag25 sz25 rfl rfl (by repeat first | exact mH | apply mT | apply List.mem_append_right) rfl) ?_)
      refine L_go rfl (X_wr (w_callG (pre := [_, _]) rfl rfl rfl rfl (fun w hg => follow_c p _ w (hpr.good hg) t _ _ (hT.good hg) (-1))) ?_)
      rintro _ _ ⟨GR, GP, rfl, hfr1, ok1, pa1, ra1, pn1, pc1, rn1, rc1, rxs1, rfl, himp⟩
      try simp only [List.cons_append, List.nil_append, List.append_nil]
      refine L_go rfl (X_p (p_move rfl rfl) ?_)
      refine L_go rfl (X_p (p_ext rfl rfl rfl) ?_)
      refine L_go rfl (X_p (p_ext rfl rfl rfl) ?_)
      refine L_go rfl (X_p (p_ext rfl rfl rfl) ?_)
      refine L_go rfl (X_wr (w_alloc zr25 rfl) ?_)
      rintro _ _ ⟨b4, hb4, rfl, rfl⟩
      refine L_go rfl (X_wr (w_store (cs' := [_, _, _, _, _]) sz25 rfl rfl rfl rfl rfl (by repeat first | exact .head | apply SetAt.tail) (Nat.le_of_ble_eq_true rfl) rfl) ?_)
      rintro _ _ ⟨rfl, rfl⟩
      refine L_go rfl (X_p (p_assign rfl rfl) ?_)
      refine L_go rfl (X_p (p_assign rfl rfl) ?_)
      refine L_then (.cons (k := 1) rfl (.cons (k := 7) rfl (.cons (k := 12) rfl (.cons (k := 13) rfl .nil)))) ?_
      refine V_seq ?_
      refine V_seq (V_region rfl ?_)
      refine L_go rfl (X_p (p_move rfl rfl) ?_)
      refine L_go rfl (X_p (p_not rfl rfl) ?_)
      refine L_go rfl (X_p (p_move rfl rfl) ?_)
      refine L_cases (d := 68) rfl ?_ ?_
      · intro g5; have g5' := g5; try simp only [td] at g5'
        refine L_no rfl rfl rfl g5 ?_
        refine L_no rfl rfl rfl g5 ?_
        refine L_go rfl (X_p (p_pick_t rfl rfl g5 rfl) ?_)
        refine L_go rfl (X_p (p_move rfl rfl) ?_)
        refine L_no rfl rfl rfl rfl ?_
        refine L_no rfl rfl rfl rfl ?_
        refine L_no rfl rfl rfl rfl ?_
        refine L_no rfl rfl rfl rfl ?_
        refine L_go rfl (X_p (p_pick_t rfl rfl rfl rfl) ?_)
        refine L_then (.cons (k := 1) rfl (.cons (k := 7) rfl (.cons (k := 12) rfl (.cons (k := 77) rfl .nil)))) ?_
        refine V_cond_t rfl rfl ?_
        refine V_seq (V_region rfl ?_)
        refine L_go rfl (X_wr (w_callP rfl rfl rfl (fun w hg => awake_c w)) ?_)
        rintro _ _ ⟨rfl, rfl⟩
        refine L_go rfl (X_p (p_assign rfl rfl) ?_)
        refine L_then (.cons (k := 6) rfl .nil) ?_
        refine V_ret (then_r ?_)
        refine Leave.nil (.tmp rfl .nil) ?_
        rfl
      · intro g5; have g5' := g5; try simp only [td] at g5'
        have hk1 : ok1 = true := by revert g5; cases ok1 <;> simp
        obtain ⟨_, hG', rfl, rfl, rfl, hsm, hsp, hgP, hgR⟩ := himp hk1
        refine L_yes rfl rfl rfl g5 (X_p (p_move rfl rfl) ?_)
        refine L_yes rfl rfl rfl g5 (X_p (p_lss rfl rfl rfl) ?_)
        refine L_go rfl (X_p (p_pick_f rfl rfl g5 rfl) ?_)
        refine L_go rfl (X_p (p_move rfl rfl) ?_)
        refine L_yes rfl rfl rfl (decide_eq_false (by omega)) (X_p (p_move rfl rfl) ?_)
        refine L_yes rfl rfl rfl (decide_eq_false (by omega)) (X_p (p_move rfl rfl) ?_)
        refine L_yes rfl rfl rfl (decide_eq_false (by omega)) (X_p (p_len isl52 rfl rfl) ?_)
        refine L_yes rfl rfl rfl (decide_eq_false (by omega)) (X_p (p_geq rfl rfl rfl) ?_)
        refine L_go rfl (X_p (p_pick_f rfl rfl (decide_eq_false (by omega)) rfl) ?_)
        refine L_then (.cons (k := 1) rfl (.cons (k := 7) rfl (.cons (k := 12) rfl (.cons (k := 77) rfl .nil)))) ?_
        refine V_cond rfl ?_ ?_
        · intro c6; have c6r := c6; try simp only [td] at c6
          refine V_seq (V_region rfl ?_)
          refine L_go rfl (X_wr (w_callP rfl rfl rfl (fun w hg => awake_c w)) ?_)
          rintro _ _ ⟨rfl, rfl⟩
          refine L_go rfl (X_p (p_assign rfl rfl) ?_)
          refine L_then (.cons (k := 6) rfl .nil) ?_
          refine V_ret (then_r ?_)
          refine Leave.nil (.tmp rfl .nil) ?_
          rfl
        · intro c6; have c6r := c6; try simp only [td] at c6
          obtain ⟨gb, cur, rfl, rfl, hcur, hcs, hgn, hgm⟩ := Grow.form2 hgR (by omega)
          refine V_skip (then_n ?_)
          refine V_seq ?_
          refine V_seq (V_region rfl ?_)
          refine L_go rfl (X_p (p_assign rfl rfl) ?_)
          refine L_then (.cons (k := 1) rfl (.cons (k := 7) rfl (.cons (k := 12) rfl (.cons (k := 14) rfl .nil)))) ?_
          refine V_block ?_
          refine V_loopU ?_
          refine LU_step ?_
          refine V_seq ?_
          refine V_seq (V_region rfl ?_)
          refine L_go rfl (X_p (p_move rfl rfl) ?_)
          refine L_go rfl (X_p (p_lss rfl rfl rfl) ?_)
          refine L_then (.cons (k := 1) rfl (.cons (k := 7) rfl (.cons (k := 12) rfl (.cons (k := 14) rfl (.cons (k := 80) rfl .nil))))) ?_
          refine V_cond_t rfl rfl ?_
          refine V_skip (then_n ?_)
          refine V_seq ?_
          refine V_block ?_
          refine V_seq (V_region rfl ?_)
          refine L_go rfl (X_p (p_move rfl rfl) ?_)
          refine L_go rfl (X_p (p_move rfl rfl) ?_)
          refine L_go rfl (X_p (p_move rfl rfl) ?_)
          refine L_go rfl (X_p (p_idxo es52 rfl rfl rfl (by omega) (by omega)) ?_)
          refine L_go rfl (X_p (p_idxao ar55 rfl rfl rfl (by omega) (by omega)) ?_)
          refine L_go rfl (X_rd (r_load ag3 rfl rfl (by repeat first | exact mH | apply mT | apply List.mem_append_right) (v := .int .i64 (posT t p 0 n.toNat)) (cur_at hcur (pos_at (by omega) (by decide)))) ?_)
          refine L_go rfl (X_p (p_move rfl rfl) ?_)
          refine L_go rfl (X_p (p_gtr rfl rfl rfl) ?_)
          refine L_go rfl (X_p (p_move rfl rfl) ?_)
          refine L_yes rfl rfl rfl (decide_eq_false (by have := pos_reachI hG hpr.ok (n := n) (by omega) 0; omega)) (X_p (p_move rfl rfl) ?_)
          refine L_yes rfl rfl rfl (decide_eq_false (by have := pos_reachI hG hpr.ok (n := n) (by omega) 0; omega)) (X_p (p_move rfl rfl) ?_)
          refine L_yes rfl rfl rfl (decide_eq_false (by have := pos_reachI hG hpr.ok (n := n) (by omega) 0; omega)) (X_p (p_move rfl rfl) ?_)
          refine L_yes rfl rfl rfl (decide_eq_false (by have := pos_reachI hG hpr.ok (n := n) (by omega) 0; omega)) (X_p (p_idxo es52 rfl rfl rfl (by omega) (by omega)) ?_)
          refine L_yes rfl rfl rfl (decide_eq_false (by have := pos_reachI hG hpr.ok (n := n) (by omega) 0; omega)) (X_p (p_idxao ar55 rfl rfl rfl (by omega) (by omega)) ?_)
          refine L_yes rfl rfl rfl (decide_eq_false (by have := pos_reachI hG hpr.ok (n := n) (by omega) 0; omega)) (X_rd (r_load ag3 rfl rfl (by repeat first | exact mH | apply mT | apply List.mem_append_right) (v := .int .i64 (posT t p 0 n.toNat)) (cur_at hcur (pos_at (by omega) (by decide)))) ?_)
          refine L_yes rfl rfl rfl (decide_eq_false (by have := pos_reachI hG hpr.ok (n := n) (by omega) 0; omega)) (X_p (p_move rfl rfl) ?_)
          first | refine L_yes rfl rfl rfl (decide_eq_false (by have := pos_reachI hG hpr.ok (n := n) (by omega) 0; omega)) (X_p (p_neg' rfl rfl (by unfold InI; omega)) ?_) | refine L_yes rfl rfl rfl (decide_eq_false (by have := pos_reachI hG hpr.ok (n := n) (by omega) 0; omega)) (X_p (p_neg rfl rfl) ?_)
          refine L_yes rfl rfl rfl (decide_eq_false (by have := pos_reachI hG hpr.ok (n := n) (by omega) 0; omega)) (X_p (p_lss rfl rfl rfl) ?_)
          refine L_go rfl (X_p (p_pick_f rfl rfl (decide_eq_false (by have := pos_reachI hG hpr.ok (n := n) (by omega) 0; omega)) rfl) ?_)
          refine L_then (.cons (k := 1) rfl (.cons (k := 7) rfl (.cons (k := 12) rfl (.cons (k := 14) rfl (.cons (k := 101) rfl .nil))))) ?_
          refine V_cond_f rfl (decide_eq_false (by have := pos_reachI hG hpr.ok (n := n) (by omega) 0; omega)) ?_
          refine V_skip (blk_n (then_n ?_))
          refine V_region rfl ?_
          refine L_go rfl (X_p (p_move rfl rfl) ?_)
          first | refine L_go rfl (X_p (p_add' rfl rfl rfl (by unfold InI; omega)) ?_) | refine L_go rfl (X_p (p_add rfl rfl rfl) ?_)
          refine L_go rfl (X_p (p_assign rfl rfl) ?_)
          refine L_keep (.cons (k := 1) rfl (.cons (k := 7) rfl (.cons (k := 12) rfl (.cons (k := 14) rfl .nil)))) (then_n ?_)
          refine LU_step ?_
          refine V_seq ?_
          refine V_seq (V_region rfl ?_)
          refine L_go rfl (X_p (p_move rfl rfl) ?_)
          refine L_go rfl (X_p (p_lss rfl rfl rfl) ?_)
          refine L_then (.cons (k := 1) rfl (.cons (k := 7) rfl (.cons (k := 12) rfl (.cons (k := 14) rfl (.cons (k := 80) rfl .nil))))) ?_
          refine V_cond_t rfl rfl ?_
          refine V_skip (then_n ?_)
          refine V_seq ?_
          refine V_block ?_
          refine V_seq (V_region rfl ?_)
          refine L_go rfl (X_p (p_move rfl rfl) ?_)
          refine L_go rfl (X_p (p_move rfl rfl) ?_)
          refine L_go rfl (X_p (p_move rfl rfl) ?_)
          refine L_go rfl (X_p (p_idxo es52 rfl rfl rfl (by omega) (by omega)) ?_)
          refine L_go rfl (X_p (p_idxao ar55 rfl rfl rfl (by omega) (by omega)) ?_)
          refine L_go rfl (X_rd (r_load ag3 rfl rfl (by repeat first | exact mH | apply mT | apply List.mem_append_right) (v := .int .i64 (posT t p 1 n.toNat)) (cur_at hcur (pos_at (by omega) (by decide)))) ?_)
          refine L_go rfl (X_p (p_move rfl rfl) ?_)
          refine L_go rfl (X_p (p_gtr rfl rfl rfl) ?_)
          refine L_go rfl (X_p (p_move rfl rfl) ?_)
          refine L_yes rfl rfl rfl (decide_eq_false (by have := pos_reachI hG hpr.ok (n := n) (by omega) 1; omega)) (X_p (p_move rfl rfl) ?_)
          refine L_yes rfl rfl rfl (decide_eq_false (by have := pos_reachI hG hpr.ok (n := n) (by omega) 1; omega)) (X_p (p_move rfl rfl) ?_)
          refine L_yes rfl rfl rfl (decide_eq_false (by have := pos_reachI hG hpr.ok (n := n) (by omega) 1; omega)) (X_p (p_move rfl rfl) ?_)
          refine L_yes rfl rfl rfl (decide_eq_false (by have := pos_reachI hG hpr.ok (n := n) (by omega) 1; omega)) (X_p (p_idxo es52 rfl rfl rfl (by omega) (by omega)) ?_)
          refine L_yes rfl rfl rfl (decide_eq_false (by have := pos_reachI hG hpr.ok (n := n) (by omega) 1; omega)) (X_p (p_idxao ar55 rfl rfl rfl (by omega) (by omega)) ?_)
          refine L_yes rfl rfl rfl (decide_eq_false (by have := pos_reachI hG hpr.ok (n := n) (by omega) 1; omega)) (X_rd (r_load ag3 rfl rfl (by repeat first | exact mH | apply mT | apply List.mem_append_right) (v := .int .i64 (posT t p 1 n.toNat)) (cur_at hcur (pos_at (by omega) (by decide)))) ?_)
          refine L_yes rfl rfl rfl (decide_eq_false (by have := pos_reachI hG hpr.ok (n := n) (by omega) 1; omega)) (X_p (p_move rfl rfl) ?_)
          first | refine L_yes rfl rfl rfl (decide_eq_false (by have := pos_reachI hG hpr.ok (n := n) (by omega) 1; omega)) (X_p (p_neg' rfl rfl (by unfold InI; omega)) ?_) | refine L_yes rfl rfl rfl (decide_eq_false (by have := pos_reachI hG hpr.ok (n := n) (by omega) 1; omega)) (X_p (p_neg rfl rfl) ?_)
          refine L_yes rfl rfl rfl (decide_eq_false (by have := pos_reachI hG hpr.ok (n := n) (by omega) 1; omega)) (X_p (p_lss rfl rfl rfl) ?_)
          refine L_go rfl (X_p (p_pick_f rfl rfl (decide_eq_false (by have := pos_reachI hG hpr.ok (n := n) (by omega) 1; omega)) rfl) ?_)
          refine L_then (.cons (k := 1) rfl (.cons (k := 7) rfl (.cons (k := 12) rfl (.cons (k := 14) rfl (.cons (k := 101) rfl .nil))))) ?_
          refine V_cond_f rfl (decide_eq_false (by have := pos_reachI hG hpr.ok (n := n) (by omega) 1; omega)) ?_
          refine V_skip (blk_n (then_n ?_))
          refine V_region rfl ?_
          refine L_go rfl (X_p (p_move rfl rfl) ?_)
          first | refine L_go rfl (X_p (p_add' rfl rfl rfl (by unfold InI; omega)) ?_) | refine L_go rfl (X_p (p_add rfl rfl rfl) ?_)
          refine L_go rfl (X_p (p_assign rfl rfl) ?_)
          refine L_keep (.cons (k := 1) rfl (.cons (k := 7) rfl (.cons (k := 12) rfl (.cons (k := 14) rfl .nil)))) (then_n ?_)
          refine LU_step ?_
          refine V_seq ?_
          refine V_seq (V_region rfl ?_)
          refine L_go rfl (X_p (p_move rfl rfl) ?_)
          refine L_go rfl (X_p (p_lss rfl rfl rfl) ?_)
          refine L_then (.cons (k := 1) rfl (.cons (k := 7) rfl (.cons (k := 12) rfl (.cons (k := 14) rfl (.cons (k := 80) rfl .nil))))) ?_
          refine V_cond_t rfl rfl ?_
          refine V_skip (then_n ?_)
          refine V_seq ?_
          refine V_block ?_
          refine V_seq (V_region rfl ?_)
          refine L_go rfl (X_p (p_move rfl rfl) ?_)
          refine L_go rfl (X_p (p_move rfl rfl) ?_)
          refine L_go rfl (X_p (p_move rfl rfl) ?_)
          refine L_go rfl (X_p (p_idxo es52 rfl rfl rfl (by omega) (by omega)) ?_)
          refine L_go rfl (X_p (p_idxao ar55 rfl rfl rfl (by omega) (by omega)) ?_)
          refine L_go rfl (X_rd (r_load ag3 rfl rfl (by repeat first | exact mH | apply mT | apply List.mem_append_right) (v := .int .i64 (posT t p 2 n.toNat)) (cur_at hcur (pos_at (by omega) (by decide)))) ?_)
          refine L_go rfl (X_p (p_move rfl rfl) ?_)
          refine L_go rfl (X_p (p_gtr rfl rfl rfl) ?_)
          refine L_go rfl (X_p (p_move rfl rfl) ?_)
          refine L_yes rfl rfl rfl (decide_eq_false (by have := pos_reachI hG hpr.ok (n := n) (by omega) 2; omega)) (X_p (p_move rfl rfl) ?_)
          refine L_yes rfl rfl rfl (decide_eq_false (by have := pos_reachI hG hpr.ok (n := n) (by omega) 2; omega)) (X_p (p_move rfl rfl) ?_)
          refine L_yes rfl rfl rfl (decide_eq_false (by have := pos_reachI hG hpr.ok (n := n) (by omega) 2; omega)) (X_p (p_move rfl rfl) ?_)
          refine L_yes rfl rfl rfl (decide_eq_false (by have := pos_reachI hG hpr.ok (n := n) (by omega) 2; omega)) (X_p (p_idxo es52 rfl rfl rfl (by omega) (by omega)) ?_)
          refine L_yes rfl rfl rfl (decide_eq_false (by have := pos_reachI hG hpr.ok (n := n) (by omega) 2; omega)) (X_p (p_idxao ar55 rfl rfl rfl (by omega) (by omega)) ?_)
          refine L_yes rfl rfl rfl (decide_eq_false (by have := pos_reachI hG hpr.ok (n := n) (by omega) 2; omega)) (X_rd (r_load ag3 rfl rfl (by repeat first | exact mH | apply mT | apply List.mem_append_right) (v := .int .i64 (posT t p 2 n.toNat)) (cur_at hcur (pos_at (by omega) (by decide)))) ?_)
          refine L_yes rfl rfl rfl (decide_eq_false (by have := pos_reachI hG hpr.ok (n := n) (by omega) 2; omega)) (X_p (p_move rfl rfl) ?_)
          first | refine L_yes rfl rfl rfl (decide_eq_false (by have := pos_reachI hG hpr.ok (n := n) (by omega) 2; omega)) (X_p (p_neg' rfl rfl (by unfold InI; omega)) ?_) | refine L_yes rfl rfl rfl (decide_eq_false (by have := pos_reachI hG hpr.ok (n := n) (by omega) 2; omega)) (X_p (p_neg rfl rfl) ?_)
          refine L_yes rfl rfl rfl (decide_eq_false (by have := pos_reachI hG hpr.ok (n := n) (by omega) 2; omega)) (X_p (p_lss rfl rfl rfl) ?_)
          refine L_go rfl (X_p (p_pick_f rfl rfl (decide_eq_false (by have := pos_reachI hG hpr.ok (n := n) (by omega) 2; omega)) rfl) ?_)
          refine L_then (.cons (k := 1) rfl (.cons (k := 7) rfl (.cons (k := 12) rfl (.cons (k := 14) rfl (.cons (k := 101) rfl .nil))))) ?_
          refine V_cond_f rfl (decide_eq_false (by have := pos_reachI hG hpr.ok (n := n) (by omega) 2; omega)) ?_
          refine V_skip (blk_n (then_n ?_))
          refine V_region rfl ?_
          refine L_go rfl (X_p (p_move rfl rfl) ?_)
          first | refine L_go rfl (X_p (p_add' rfl rfl rfl (by unfold InI; omega)) ?_) | refine L_go rfl (X_p (p_add rfl rfl rfl) ?_)
          refine L_go rfl (X_p (p_assign rfl rfl) ?_)
          refine L_keep (.cons (k := 1) rfl (.cons (k := 7) rfl (.cons (k := 12) rfl (.cons (k := 14) rfl .nil)))) (then_n ?_)
          refine LU_step ?_
          refine V_seq ?_
          refine V_seq (V_region rfl ?_)
          refine L_go rfl (X_p (p_move rfl rfl) ?_)
          refine L_go rfl (X_p (p_lss rfl rfl rfl) ?_)
          refine L_then (.cons (k := 1) rfl (.cons (k := 7) rfl (.cons (k := 12) rfl (.cons (k := 14) rfl (.cons (k := 80) rfl .nil))))) ?_
          refine V_cond_f rfl rfl ?_
          refine V_exit (then_e (then_e (blk_e rfl (then_n ?_))))
          refine V_seq (V_region rfl ?_)
          refine L_go rfl (X_wr (w_callP rfl rfl rfl (fun w hg => awake_c w)) ?_)
          rintro _ _ ⟨rfl, rfl⟩
          refine L_go rfl (X_p (p_assign rfl rfl) ?_)
          refine L_then (.cons (k := 6) rfl .nil) ?_
          refine V_ret ?_
          refine Leave.nil (.tmp rfl .nil) ?_
          rfl
theorem trackReach_c (p : PathM) (pv : Value) (w : World) (hpr : PathR w pv p) (t : Task) (tv pv2 : Value) (ht : TaskR w (.agg #[.int .i64 t.frm, .int .i64 t.speed, .int .i64 t.accel, tv, pv2]) t) (n : Int) : FnP Try.prog 6 [.agg #[.int .i64 t.frm, .int .i64 t.speed, .int .i64 t.accel, tv, pv2], .int .i64 n, pv] w (.bool true) := by
  by_cases h : askedT t [n] = 0
  · exact reachB p pv w hpr t tv pv2 ht n h
  · exact reachA p pv w hpr t tv pv2 ht n h

theorem own_ : ownKnob Try.prog.godebug = none := by kernel_rfl

theorem trackReach_lifted (os : Os) (started : os.Started) (H : Type) (enc : TypeId × Value → H) :
    ReturnsInHanded {} Try.checked os 6 .any (Rows.trackReachSpec.pre6 enc Try.prog Try.f6 Rows.trackReachRow.domain false) (Rows.trackReachSpec.post enc Try.prog Try.f6 false true false false) := by
  refine returnsInHanded_of_change (C := Try.checked) own_ started (by kernel_rfl) Try.func6
    (ChangeSpec.witness6 (enc := enc) (C := Try.checked) false ⟨#[], #[.agg #[.int .i64 0, .int .i64 0, .int .i64 0, .slice none 0 0, .slice none 0 0], .int .i64 0, .agg #[.slice none 0 0, .slice none 0 0, .slice none 0 0, .slice none 0 0]], []⟩ 8 (by kernel_rfl) (by kernel_rfl) (by kernel_rfl) (by kernel_rfl)) ?_
  intro W base args ds gs before hval0 hW hcnd _
  have hval : ∀ (j : Nat) t v, Try.f6.params[j]? = some t → args[j]? = some v → Value.okWide Try.prog W .any base t v := hval0
  have hW' := hW
  obtain ⟨pA, pB, hA0, hV, rfl, _, _⟩ := hW
  have hA : DataW.TrodAll enc Try.prog W 0 (fun _ => true) true Try.f6.params.toList args.toList ds pA := hA0
  clear hA0 hval0
  rw [Try.params6] at hA hval
  obtain ⟨rfl, rfl⟩ := trodVars_none hV
  obtain ⟨v0, vs0, d0, ds0, p0, q0, ea0, rfl, rfl, h0, hA0⟩ := trodAll_cons hA
  obtain ⟨v1, vs1, d1, ds1, p1, q1, ea1, rfl, rfl, h1, hA1⟩ := trodAll_cons hA0
  obtain ⟨v2, vs2, d2, ds2, p2, q2, ea2, rfl, rfl, h2, hA2⟩ := trodAll_cons hA1
  obtain ⟨rfl, rfl, rfl⟩ := trodAll_nil hA2
  subst ea2
  subst ea1
  have ea : args = #[v0, v1, v2] := Array.toList_inj.1 ea0
  subst ea
  have k0 := hval 0 _ v0 rfl rfl
  have k1 := hval 1 _ v1 rfl rfl
  have k2 := hval 2 _ v2 rfl rfl
  obtain ⟨T, tv, pv, rfl, hT⟩ := open_task (P := Try.prog) (by kernel_rfl) k0 h0
  obtain ⟨n, rfl, _, _, _⟩ := open_int (P := Try.prog) (k := .i64) (by kernel_rfl) k1 h1
  obtain ⟨p, hpr⟩ := open_path (P := Try.prog) (by kernel_rfl) k2 h2
  refine (calls_of (trackReach_c p _ W hpr T tv pv hT n)).mono ?_
  rintro _ W' ⟨_, rfl, rfl, hE⟩
  exact ⟨_, rfl, post_true hW' rfl hE (by kernel_rfl) (by kernel_rfl) rfl rfl rfl (by kernel_rfl) Try.underlying4⟩

theorem trackReach_holds : Rows.TrackReachSaid :=
  OpenClaim.holds_of_wide 6 Try.f6 rfl rfl rfl rfl rfl rfl rfl ⟨rfl, rfl, rfl, rfl, rfl⟩ rfl rfl rfl rfl rfl (by kernel_rfl) Try.func6 (by kernel_rfl)
    (of_decide_eq_true (by kernel_rfl)) (by unfold Func.isWrapper; first | (rw [if_pos (by decide +kernel)]; kernel_rfl) | (rw [if_neg (by decide +kernel)]; exact ⟨rfl, rfl⟩))
    (fun os started H enc _ => trackReach_lifted os started H enc)
#print axioms trackReach_holds

end Go.Proofs.Ytclbbchehjapjaa
