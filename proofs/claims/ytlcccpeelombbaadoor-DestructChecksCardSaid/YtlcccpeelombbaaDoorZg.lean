/- Joined texts. -/
import Derived.Test.YtlcccpeelombbaaDoorZf
import Derived.Test.YtlcccpeelombbaaDoorZe
import Derived.Test.YtlcccpeelombbaaDoorZb
import Derived.Test.YtlcccpeelombbaaDoorZc
import Derived.KernelRfl
import Derived.Deep.Slices
import Derived.OpenShut
import Derived.Carry
import Derived.ChangeSame
import Derived.WideKeyArgs
/- YtlcccpeelombbaaDoor: what is asked; the box that is used; sides. -/
set_option linter.all false
namespace Go.Proofs.YtlcccpeelombbaaDoor
open Go.Vc Go.Tk Go.De
set_option maxRecDepth 100000
theorem dat1_c (n : Int) (w : World) : FnP Tryd.prog 63 [.int .i64 n] w (.bool (oP n 0 100000)) := by
  refine fn_pure Tryd.func63 rfl (by kernel_rfl) Tryd.ntmps63 Tryd.results63 rfl ?_
  refine V_seq (V_region rfl ?_)
  refine L_go rfl (X_p (p_assign rfl rfl) ?_)
  refine L_then (.cons (k := 0) rfl .nil) ?_
  refine V_seq (V_region rfl ?_)
  refine L_go rfl (X_p (p_move rfl rfl) ?_)
  refine L_go rfl (X_wr (w_callP rfl rfl rfl (fun w hg => dout_c _ _ _ w)) ?_)
  rintro _ _ ⟨rfl, rfl⟩
  refine L_go rfl (X_p (p_assign rfl rfl) ?_)
  refine L_then (.cons (k := 2) rfl .nil) ?_
  refine V_ret ?_
  refine Leave.nil (.tmp rfl .nil) ?_
  rfl
theorem dat_c (p : De.Plan) (pv : Value) (w : World) (hp : PlanR w pv p) (t : Task) (tv qv : Value) (ht : TaskR w (.agg #[.int .i64 t.frm, .int .i64 t.speed, .int .i64 t.accel, tv, qv]) t) (l : List Int) (lv : Value) (hl : SliceR w 1 lv (l.map fun n => [Value.int .i64 n])) (hll : (l.length : Int) ≤ 9223372036854775806) : FnP Tryd.prog 38 [pv, .agg #[.int .i64 t.frm, .int .i64 t.speed, .int .i64 t.accel, tv, qv], lv] w (.int .i64 (ticksE p t l)) := by
  have hP := hp
  obtain ⟨lv, rfl, hls⟩ := hp.ex
  have hlen := hp.len
  have hT := ht
  refine fn_pure Tryd.func38 rfl (by kernel_rfl) Tryd.ntmps38 Tryd.results38 rfl ?_
  refine V_seq (V_region rfl ?_)
  refine L_go rfl (X_wr (w_box rfl rfl) ?_)
  rintro _ _ ⟨b1, hb1, rfl, rfl⟩
  refine L_go rfl (X_wr (w_box rfl rfl) ?_)
  rintro _ _ ⟨b2, hb2, rfl, rfl⟩
  refine L_go rfl (X_p (p_assign rfl rfl) ?_)
  refine L_then (.cons (k := 2) rfl (.cons (k := 3) rfl (.cons (k := 4) rfl .nil))) ?_
  refine V_seq (V_region rfl ?_)
  refine L_go rfl (X_rd (r_loadA (vs := [_, _, _, _, _]) ag26 sz26 rfl rfl (by repeat first | exact mH | apply mT) rfl) ?_)
  refine L_go rfl (X_wr (w_callP rfl rfl rfl (fun w hg => dvalid_c p _ w (hP.good hg))) ?_)
  rintro _ _ ⟨rfl, rfl⟩
  refine L_go rfl (X_p (p_assign rfl rfl) ?_)
  refine L_then (.cons (k := 2) rfl (.cons (k := 4) rfl (.cons (k := 7) rfl .nil))) ?_
  refine V_seq ?_
  refine V_seq (V_region rfl ?_)
  refine L_go rfl (X_p (p_move rfl rfl) ?_)
  refine L_go rfl (X_p (p_eql rfl rfl rfl) ?_)
  refine L_then (.cons (k := 2) rfl (.cons (k := 4) rfl (.cons (k := 7) rfl (.cons (k := 11) rfl .nil)))) ?_
  refine V_cond rfl ?_ ?_
  · intro c1; try simp only [td] at c1
    have hpe := c1
    refine V_region rfl ?_
    refine L_go rfl (X_rd (r_loadA (vs := [_, _, _, _, _]) ag54 sz54 rfl rfl (by repeat first | exact mH | apply mT) rfl) ?_)
    refine L_go rfl (X_wr (w_callP rfl rfl rfl (fun w hg => check_c t _ w (hT.good hg))) ?_)
    rintro _ _ ⟨rfl, rfl⟩
    refine L_go rfl (X_p (p_move rfl rfl) ?_)
    refine L_go rfl (X_p (p_ext rfl rfl rfl) ?_)
    refine L_go rfl (X_p (p_ext rfl rfl rfl) ?_)
    refine L_go rfl (X_p (p_ext rfl rfl rfl) ?_)
    refine L_go rfl (X_p (p_assign rfl rfl) ?_)
    refine L_then (.cons (k := 2) rfl (.cons (k := 7) rfl .nil)) ?_
    refine V_seq ?_
    refine V_seq (V_region rfl ?_)
    refine L_go rfl (X_p (p_move rfl rfl) ?_)
    refine L_go rfl (X_p (p_eql rfl rfl rfl) ?_)
    refine L_go rfl (X_p (p_move rfl rfl) ?_)
    refine L_cases (d := 20) rfl ?_ ?_
    · intro g1; have g1' := g1; try simp only [td] at g1'
      refine L_yes rfl rfl rfl g1 (X_p (p_move rfl rfl) ?_)
      refine L_yes rfl rfl rfl g1 (X_wr (w_callP rfl rfl rfl (fun w hg => contInt_c l _ _ _ _ w (hl.good hg) hll (fun x w' he => dat1_c x w'))) ?_)
      rintro _ _ ⟨rfl, rfl⟩
      refine L_go rfl (X_p (p_pick_t rfl rfl g1 rfl) ?_)
      refine L_then (.cons (k := 7) rfl (.cons (k := 23) rfl .nil)) ?_
      refine V_cond rfl ?_ ?_
      · intro c2; try simp only [td] at c2
        refine V_region rfl ?_
        refine L_go rfl (X_p (p_assign rfl rfl) ?_)
        refine L_then (.cons (k := 7) rfl .nil) ?_
        refine V_seq (V_region rfl ?_)
        refine L_go rfl (X_p (p_move rfl rfl) ?_)
        refine L_go rfl (X_p (p_assign rfl rfl) ?_)
        refine L_then (.cons (k := 6) rfl .nil) ?_
        refine V_ret ?_
        refine Leave.nil (.tmp rfl .nil) ?_
        show Value.int .i64 _ = _
        unfold ticksE taskE
        first | (rw [if_neg (show ¬(planE p ≠ 0) by omega)]; simp [*]; done) | (rw [if_pos (show planE p ≠ 0 by omega)]; simp [*]; done)
      · intro c2; try simp only [td] at c2
        refine V_skip (then_n ?_)
        refine V_seq (V_region rfl ?_)
        refine L_go rfl (X_p (p_move rfl rfl) ?_)
        refine L_go rfl (X_p (p_assign rfl rfl) ?_)
        refine L_then (.cons (k := 6) rfl .nil) ?_
        refine V_ret ?_
        refine Leave.nil (.tmp rfl .nil) ?_
        show Value.int .i64 _ = _
        unfold ticksE taskE
        first | (rw [if_neg (show ¬(planE p ≠ 0) by omega)]; simp [*]; done) | (rw [if_pos (show planE p ≠ 0 by omega)]; simp [*]; done)
    · intro g1; have g1' := g1; try simp only [td] at g1'
      refine L_no rfl rfl rfl g1 ?_
      refine L_no rfl rfl rfl g1 ?_
      refine L_go rfl (X_p (p_pick_f rfl rfl g1 rfl) ?_)
      refine L_then (.cons (k := 7) rfl (.cons (k := 23) rfl .nil)) ?_
      refine V_cond_f rfl rfl ?_
      refine V_skip (then_n ?_)
      refine V_seq (V_region rfl ?_)
      refine L_go rfl (X_p (p_move rfl rfl) ?_)
      refine L_go rfl (X_p (p_assign rfl rfl) ?_)
      refine L_then (.cons (k := 6) rfl .nil) ?_
      refine V_ret ?_
      refine Leave.nil (.tmp rfl .nil) ?_
      show Value.int .i64 _ = _
      unfold ticksE taskE
      first | (rw [if_neg (show ¬(planE p ≠ 0) by omega)]; simp [*]; done) | (rw [if_pos (show planE p ≠ 0 by omega)]; simp [*]; done)
  · intro c1; try simp only [td] at c1
    have hpe := c1
    refine V_skip (then_n ?_)
    refine V_seq ?_
    refine V_seq (V_region rfl ?_)
    refine L_go rfl (X_p (p_move rfl rfl) ?_)
    refine L_go rfl (X_p (p_eql rfl rfl rfl) ?_)
    refine L_go rfl (X_p (p_move rfl rfl) ?_)
    refine L_cases (d := 20) rfl ?_ ?_
    · intro g2; have g2' := g2; try simp only [td] at g2'
      refine L_yes rfl rfl rfl g2 (X_p (p_move rfl rfl) ?_)
      refine L_yes rfl rfl rfl g2 (X_wr (w_callP rfl rfl rfl (fun w hg => contInt_c l _ _ _ _ w (hl.good hg) hll (fun x w' he => dat1_c x w'))) ?_)
      rintro _ _ ⟨rfl, rfl⟩
      refine L_go rfl (X_p (p_pick_t rfl rfl g2 rfl) ?_)
      refine L_then (.cons (k := 7) rfl (.cons (k := 23) rfl .nil)) ?_
      refine V_cond rfl ?_ ?_
      · intro c3; try simp only [td] at c3
        refine V_region rfl ?_
        refine L_go rfl (X_p (p_assign rfl rfl) ?_)
        refine L_then (.cons (k := 7) rfl .nil) ?_
        refine V_seq (V_region rfl ?_)
        refine L_go rfl (X_p (p_move rfl rfl) ?_)
        refine L_go rfl (X_p (p_assign rfl rfl) ?_)
        refine L_then (.cons (k := 6) rfl .nil) ?_
        refine V_ret ?_
        refine Leave.nil (.tmp rfl .nil) ?_
        show Value.int .i64 _ = _
        unfold ticksE taskE
        first | (rw [if_neg (show ¬(planE p ≠ 0) by omega)]; simp [*]; done) | (rw [if_pos (show planE p ≠ 0 by omega)]; simp [*]; done)
      · intro c3; try simp only [td] at c3
        refine V_skip (then_n ?_)
        refine V_seq (V_region rfl ?_)
        refine L_go rfl (X_p (p_move rfl rfl) ?_)
        refine L_go rfl (X_p (p_assign rfl rfl) ?_)
        refine L_then (.cons (k := 6) rfl .nil) ?_
        refine V_ret ?_
        refine Leave.nil (.tmp rfl .nil) ?_
        show Value.int .i64 _ = _
        unfold ticksE taskE
        first | (rw [if_neg (show ¬(planE p ≠ 0) by omega)]; simp [*]; done) | (rw [if_pos (show planE p ≠ 0 by omega)]; simp [*]; done)
    · intro g2; have g2' := g2; try simp only [td] at g2'
      refine L_no rfl rfl rfl g2 ?_
      refine L_no rfl rfl rfl g2 ?_
      refine L_go rfl (X_p (p_pick_f rfl rfl g2 rfl) ?_)
      refine L_then (.cons (k := 7) rfl (.cons (k := 23) rfl .nil)) ?_
      refine V_cond_f rfl rfl ?_
      refine V_skip (then_n ?_)
      refine V_seq (V_region rfl ?_)
      refine L_go rfl (X_p (p_move rfl rfl) ?_)
      refine L_go rfl (X_p (p_assign rfl rfl) ?_)
      refine L_then (.cons (k := 6) rfl .nil) ?_
      refine V_ret ?_
      refine Leave.nil (.tmp rfl .nil) ?_
      show Value.int .i64 _ = _
      unfold ticksE taskE
      first | (rw [if_neg (show ¬(planE p ≠ 0) by omega)]; simp [*]; done) | (rw [if_pos (show planE p ≠ 0 by omega)]; simp [*]; done)
set_option maxHeartbeats 4000000 in
theorem dused_c (now : Int) (hn : 0 ≤ now ∧ now ≤ 100000) (p : De.Plan) (pv : Value) (w : World) (hp : PlanR w pv p) (hgp : GoodP p) (t : Task) (tv qv : Value) (ht : TaskR w (.agg #[.int .i64 t.frm, .int .i64 t.speed, .int .i64 t.accel, tv, qv]) t) (hG : GoodT t) : FnP Tryd.prog 47 [pv, .agg #[.int .i64 t.frm, .int .i64 t.speed, .int .i64 t.accel, tv, qv], .int .i64 now] w (.tuple #[.agg (Box.cells (usedQ p t now).1).toArray, .int .i64 (usedQ p t now).2.1, .bool (usedQ p t now).2.2]) := by
  have hP := hp
  obtain ⟨lv, rfl, hls⟩ := hp.ex
  have hlen := hp.len
  have hT := ht
  obtain ⟨hln, hgr, hwt, hbl⟩ := hgp.nums
  refine fn_pure Tryd.func47 rfl (by kernel_rfl) Tryd.ntmps47 Tryd.results47 rfl ?_
  refine V_seq (V_region rfl ?_)
  refine L_go rfl (X_wr (w_box rfl rfl) ?_)
  rintro _ _ ⟨b1, hb1, rfl, rfl⟩
  refine L_go rfl (X_wr (w_box rfl rfl) ?_)
  rintro _ _ ⟨b2, hb2, rfl, rfl⟩
  refine L_go rfl (X_wr (w_alloc zr33 rfl) ?_)
  rintro _ _ ⟨b3, hb3, rfl, rfl⟩
  refine L_go rfl (X_p (p_assign rfl rfl) ?_)
  refine L_go rfl (X_p (p_assign rfl rfl) ?_)
  refine L_then (.cons (k := 2) rfl (.cons (k := 3) rfl (.cons (k := 4) rfl (.cons (k := 6) rfl .nil)))) ?_
  refine V_seq ?_
  refine V_seq (V_region rfl ?_)
  refine L_go rfl (X_p (p_move rfl rfl) ?_)
  refine L_go rfl (X_p (p_assign rfl rfl) ?_)
  refine L_then (.cons (k := 2) rfl (.cons (k := 3) rfl (.cons (k := 4) rfl (.cons (k := 6) rfl (.cons (k := 7) rfl .nil))))) ?_
  refine V_block ?_
  refine V_loop0 (γ := Int) (.cons (k := 2) rfl (.cons (k := 3) rfl (.cons (k := 4) rfl (.cons (k := 6) rfl .nil)))) (fun f => [(7, .int .i64 f)]) (fun f => -1 ≤ f ∧ f ≤ now ∧ now - f ≤ p.blind + 1 ∧ usedQ p t now = usedW p t now (p.blind + 1 - (now - f)).toNat f) (fun f => (f + 1).toNat) (now) (.cons rfl (.nil _)) (⟨by omega, by omega, by omega, by rw [Int.sub_self, Int.sub_zero]; rfl⟩) ?_
  rintro f hi
  obtain ⟨hf0, hf1, hf2, hu⟩ := hi
  refine V_seq ?_
  refine V_seq (V_region rfl ?_)
  refine L_go rfl (X_p (p_move rfl rfl) ?_)
  refine L_go rfl (X_p (p_geq rfl rfl rfl) ?_)
  refine L_go rfl (X_p (p_move rfl rfl) ?_)
  refine L_cases (d := 14) rfl ?_ ?_
  · intro g1; have g1' := g1; try simp only [td] at g1'
    refine L_yes rfl rfl rfl g1 (X_p (p_move rfl rfl) ?_)
    refine L_yes rfl rfl rfl g1 (X_p (p_move rfl rfl) ?_)
    first | refine L_yes rfl rfl rfl g1 (X_p (p_sub' rfl rfl rfl (by unfold InI; omega)) ?_) | refine L_yes rfl rfl rfl g1 (X_p (p_sub rfl rfl rfl) ?_)
    refine L_yes rfl rfl rfl g1 (X_p (p_fieldo fo26_3 rfl rfl) ?_)
    refine L_yes rfl rfl rfl g1 (X_rd (r_load ag3 rfl rfl (by repeat first | exact mH | apply mT) rfl) ?_)
    refine L_yes rfl rfl rfl g1 (X_p (p_leq rfl rfl rfl) ?_)
    refine L_go rfl (X_p (p_pick_t rfl rfl g1 rfl) ?_)
    refine L_then (.cons (k := 2) rfl (.cons (k := 3) rfl (.cons (k := 4) rfl (.cons (k := 6) rfl (.cons (k := 7) rfl (.cons (k := 21) rfl .nil)))))) ?_
    refine V_cond rfl ?_ ?_
    · intro c1; try simp only [td] at c1
      refine V_skip (then_n ?_)
      refine V_seq ?_
      refine V_block ?_
      refine V_seq (V_region rfl ?_)
      refine L_go rfl (X_rd (r_loadA (vs := [_, _, _, _, _]) ag54 sz54 rfl rfl (by repeat first | exact mH | apply mT) rfl) ?_)
      refine L_go rfl (X_p (p_move rfl rfl) ?_)
      refine L_go rfl (X_p (p_move rfl rfl) ?_)
      refine L_go rfl (X_wr (w_callP rfl rfl rfl (fun w hg => (show FnP _ _ _ w (.tuple #[.agg (Box.cells (spareP t f now).1).toArray, .int .i64 (spareP t f now).2]) from spareR_eq t f now ▸ spareR_c t _ _ f now w (hT.good hg)))) ?_)
      rintro _ _ ⟨rfl, rfl⟩
      refine L_go rfl (X_p (p_move rfl rfl) ?_)
      refine L_go rfl (X_p (p_ext rfl rfl rfl) ?_)
      refine L_go rfl (X_p (p_ext rfl rfl rfl) ?_)
      refine L_go rfl (X_wr (w_alloc zr33 rfl) ?_)
      rintro _ _ ⟨b4, hb4, rfl, rfl⟩
      refine L_go rfl (X_wr (w_store (cs' := [_, _, _, _, _, _, _, _, _, _, _, _, _]) sz33 rfl rfl rfl rfl rfl (by repeat first | exact .head | apply SetAt.tail) (Nat.le_of_ble_eq_true rfl) rfl) ?_)
      rintro _ _ ⟨rfl, rfl⟩
      refine L_go rfl (X_p (p_assign rfl rfl) ?_)
      refine L_then (.cons (k := 2) rfl (.cons (k := 3) rfl (.cons (k := 4) rfl (.cons (k := 6) rfl (.cons (k := 7) rfl (.cons (k := 9) rfl (.cons (k := 10) rfl .nil))))))) ?_
      refine V_seq (V_region rfl ?_)
      refine L_go rfl (X_p (p_move rfl rfl) ?_)
      refine L_go rfl (X_p (p_eql rfl rfl rfl) ?_)
      refine L_then (.cons (k := 2) rfl (.cons (k := 3) rfl (.cons (k := 4) rfl (.cons (k := 6) rfl (.cons (k := 7) rfl (.cons (k := 9) rfl (.cons (k := 32) rfl .nil))))))) ?_
      refine V_cond rfl ?_ ?_
      · intro c2; try simp only [td] at c2
        have hs := c2
        refine V_seq (V_region rfl ?_)
        refine L_go rfl (X_rd (r_loadA (vs := [_, _, _, _, _]) ag54 sz54 rfl rfl (by repeat first | exact mH | apply mT) rfl) ?_)
        refine L_go rfl (X_rd (r_loadA (vs := [_, _, _, _, _, _, _, _, _, _, _, _, _]) ag33 sz33 rfl rfl (by repeat first | exact mH | apply mT) rfl) ?_)
        refine L_go rfl (X_p (p_move rfl rfl) ?_)
        refine L_go rfl (X_p (p_move rfl rfl) ?_)
        first | refine L_go rfl (X_p (p_sub' rfl rfl rfl (by unfold InI; omega)) ?_) | refine L_go rfl (X_p (p_sub rfl rfl rfl) ?_)
        refine L_go rfl (X_p (p_fieldo fo26_2 rfl rfl) ?_)
        refine L_go rfl (X_rd (r_load ag3 rfl rfl (by repeat first | exact mH | apply mT) rfl) ?_)
        first | refine L_go rfl (X_p (p_add' rfl rfl rfl (by unfold InI; omega)) ?_) | refine L_go rfl (X_p (p_add rfl rfl rfl) ?_)
        first | refine L_go rfl (X_p (p_add' rfl rfl rfl (by unfold InI; omega)) ?_) | refine L_go rfl (X_p (p_add rfl rfl rfl) ?_)
        refine L_go rfl (X_wr (w_callP rfl rfl rfl (fun w hg => ahead_c _ t _ _ _ w (hT.good hg))) ?_)
        rintro _ _ ⟨rfl, rfl⟩
        refine L_go rfl (X_p (p_move rfl rfl) ?_)
        refine L_go rfl (X_p (p_ext rfl rfl rfl) ?_)
        refine L_go rfl (X_p (p_ext rfl rfl rfl) ?_)
        refine L_go rfl (X_wr (w_store (cs' := [_, _, _, _, _, _, _, _, _, _, _, _, _]) sz33 rfl rfl rfl rfl rfl (by repeat first | exact .head | apply SetAt.tail) (Nat.le_of_ble_eq_true rfl) rfl) ?_)
        rintro _ _ ⟨rfl, rfl⟩
        refine L_go rfl (X_p (p_assign rfl rfl) ?_)
        refine L_then (.cons (k := 6) rfl (.cons (k := 7) rfl (.cons (k := 9) rfl (.cons (k := 10) rfl .nil)))) ?_
        refine V_seq (V_region rfl ?_)
        refine L_go rfl (X_rd (r_loadA (vs := [_, _, _, _, _, _, _, _, _, _, _, _, _]) ag33 sz33 rfl rfl (by repeat first | exact mH | apply mT) rfl) ?_)
        refine L_go rfl (X_p (p_move rfl rfl) ?_)
        refine L_go rfl (X_p (p_move rfl rfl) ?_)
        refine L_go rfl (X_p (p_eql rfl rfl rfl) ?_)
        refine L_go rfl (X_wr (w_store (cs' := [_, _, _, _, _, _, _, _, _, _, _, _, _]) sz33 rfl rfl rfl rfl rfl (by repeat first | exact .head | apply SetAt.tail) (Nat.le_of_ble_eq_true rfl) rfl) ?_)
        rintro _ _ ⟨rfl, rfl⟩
        refine L_go rfl (X_p (p_assign rfl rfl) ?_)
        refine L_go rfl (X_p (p_assign rfl rfl) ?_)
        refine L_then (.cons (k := 6) rfl (.cons (k := 7) rfl (.cons (k := 8) rfl .nil))) ?_
        refine V_ret (blk_r (then_r (then_r (blk_r (then_r ?_)))))
        refine Leave.nil (.cellA (us := [_, _, _, _, _, _, _, _, _, _, _, _, _]) rfl ag33 sz33 (by repeat first | exact mH | apply mT) rfl (.tmp rfl (.tmp rfl .nil))) ?_
        rw [hu, usedW_hit (by omega) (by omega) hs]; rfl
      · intro c2; try simp only [td] at c2
        have hs := c2
        refine V_skip (blk_n (then_n ?_))
        refine V_region rfl ?_
        refine L_go rfl (X_p (p_move rfl rfl) ?_)
        first | refine L_go rfl (X_p (p_sub' rfl rfl rfl (by unfold InI; omega)) ?_) | refine L_go rfl (X_p (p_sub rfl rfl rfl) ?_)
        refine L_go rfl (X_p (p_assign rfl rfl) ?_)
        refine L_keep (.cons (k := 2) rfl (.cons (k := 3) rfl (.cons (k := 4) rfl (.cons (k := 6) rfl (.cons (k := 7) rfl .nil))))) (then_n ?_)
        refine ⟨f - 1, ?_, ?_, (.cons rfl (.cons rfl (.cons rfl (.cons rfl (.cons rfl (.nil _)))))), (by repeat (first | exact List.nil_sublist _ | exact List.Sublist.refl _ | apply List.Sublist.cons_cons | apply List.Sublist.cons | apply List.sublist_append_of_sublist_right)), rfl⟩
        · exact ⟨by omega, by omega, by omega, hu.trans (usedW_go (by omega) (by omega) (by assumption))⟩
        · omega
    · intro c1; try simp only [td] at c1
      refine V_exit (then_e (then_e (blk_e rfl (then_n ?_))))
      refine V_seq (V_region rfl ?_)
      refine L_go rfl (X_p (p_build (r := [_, _, _, _, _, _, _, _, _, _, _, _, _]) pl33 zr33 rfl rfl rfl) ?_)
      refine L_go rfl (X_wr (w_store (cs' := [_, _, _, _, _, _, _, _, _, _, _, _, _]) sz33 rfl rfl rfl rfl rfl (by repeat first | exact .head | apply SetAt.tail) (Nat.le_of_ble_eq_true rfl) rfl) ?_)
      rintro _ _ ⟨rfl, rfl⟩
      refine L_go rfl (X_p (p_assign rfl rfl) ?_)
      refine L_go rfl (X_p (p_assign rfl rfl) ?_)
      refine L_then (.cons (k := 6) rfl (.cons (k := 7) rfl (.cons (k := 8) rfl .nil))) ?_
      refine V_ret ?_
      refine Leave.nil (.cellA (us := [_, _, _, _, _, _, _, _, _, _, _, _, _]) rfl ag33 sz33 (by repeat first | exact mH | apply mT) rfl (.tmp rfl (.tmp rfl .nil))) ?_
      rw [hu, usedW_stop _ (by omega)]; rfl
  · intro g1; have g1' := g1; try simp only [td] at g1'
    refine L_no rfl rfl rfl g1 ?_
    refine L_no rfl rfl rfl g1 ?_
    refine L_no rfl rfl rfl g1 ?_
    refine L_no rfl rfl rfl g1 ?_
    refine L_no rfl rfl rfl g1 ?_
    refine L_no rfl rfl rfl g1 ?_
    refine L_go rfl (X_p (p_pick_f rfl rfl g1 rfl) ?_)
    refine L_then (.cons (k := 2) rfl (.cons (k := 3) rfl (.cons (k := 4) rfl (.cons (k := 6) rfl (.cons (k := 7) rfl (.cons (k := 21) rfl .nil)))))) ?_
    refine V_cond_f rfl rfl ?_
    refine V_exit (then_e (then_e (blk_e rfl (then_n ?_))))
    refine V_seq (V_region rfl ?_)
    refine L_go rfl (X_p (p_build (r := [_, _, _, _, _, _, _, _, _, _, _, _, _]) pl33 zr33 rfl rfl rfl) ?_)
    refine L_go rfl (X_wr (w_store (cs' := [_, _, _, _, _, _, _, _, _, _, _, _, _]) sz33 rfl rfl rfl rfl rfl (by repeat first | exact .head | apply SetAt.tail) (Nat.le_of_ble_eq_true rfl) rfl) ?_)
    rintro _ _ ⟨rfl, rfl⟩
    refine L_go rfl (X_p (p_assign rfl rfl) ?_)
    refine L_go rfl (X_p (p_assign rfl rfl) ?_)
    refine L_then (.cons (k := 6) rfl (.cons (k := 7) rfl (.cons (k := 8) rfl .nil))) ?_
    refine V_ret ?_
    refine Leave.nil (.cellA (us := [_, _, _, _, _, _, _, _, _, _, _, _, _]) rfl ag33 sz33 (by repeat first | exact mH | apply mT) rfl (.tmp rfl (.tmp rfl .nil))) ?_
    rw [hu, usedW_stop _ (by omega)]; rfl
theorem dUsed_c (now : Int) (p : De.Plan) (pv : Value) (w : World) (hp : PlanR w pv p) (t : Task) (tv qv : Value) (ht : TaskR w (.agg #[.int .i64 t.frm, .int .i64 t.speed, .int .i64 t.accel, tv, qv]) t) : FnP Tryd.prog 26 [pv, .agg #[.int .i64 t.frm, .int .i64 t.speed, .int .i64 t.accel, tv, qv], .int .i64 now] w (.tuple #[.agg (Box.cells (usedP p t now).1).toArray, .int .i64 (usedP p t now).2, .int .i64 (usedE p t now)]) := by
  have hP := hp
  obtain ⟨lv, rfl, hls⟩ := hp.ex
  have hlen := hp.len
  have hT := ht
  refine fn_pure Tryd.func26 rfl (by kernel_rfl) Tryd.ntmps26 Tryd.results26 rfl ?_
  refine V_seq (V_region rfl ?_)
  refine L_go rfl (X_wr (w_box rfl rfl) ?_)
  rintro _ _ ⟨b1, hb1, rfl, rfl⟩
  refine L_go rfl (X_wr (w_box rfl rfl) ?_)
  rintro _ _ ⟨b2, hb2, rfl, rfl⟩
  refine L_go rfl (X_wr (w_alloc zr33 rfl) ?_)
  rintro _ _ ⟨b3, hb3, rfl, rfl⟩
  refine L_go rfl (X_p (p_assign rfl rfl) ?_)
  refine L_go rfl (X_p (p_assign rfl rfl) ?_)
  refine L_then (.cons (k := 2) rfl (.cons (k := 3) rfl (.cons (k := 4) rfl (.cons (k := 6) rfl .nil)))) ?_
  refine V_seq ?_
  refine V_seq (V_region rfl ?_)
  refine L_go rfl (X_rd (r_loadA (vs := [_, _, _, _, _]) ag26 sz26 rfl rfl (by repeat first | exact mH | apply mT) rfl) ?_)
  refine L_go rfl (X_rd (r_loadA (vs := [_, _, _, _, _]) ag54 sz54 rfl rfl (by repeat first | exact mH | apply mT) rfl) ?_)
  refine L_go rfl (X_p (p_move rfl rfl) ?_)
  refine L_go rfl (X_wr (w_slice (r := [_]) un66 sz3 zr3 rfl (by decide) rfl (by decide) rfl rfl) ?_)
  rintro _ _ ⟨b4, hb4, rfl, rfl⟩
  refine L_go rfl (X_wr (w_callP rfl rfl rfl (fun w hg => dat_c p _ w (hP.good hg) t _ _ (hT.good hg) [now] _ (own_ints (l := [now]) (hg.own (b4, _) (by repeat first | exact mH | apply mT)) rfl (by decide)) (by simp))) ?_)
  rintro _ _ ⟨rfl, rfl⟩
  refine L_go rfl (X_p (p_assign rfl rfl) ?_)
  refine L_then (.cons (k := 2) rfl (.cons (k := 3) rfl (.cons (k := 4) rfl (.cons (k := 6) rfl (.cons (k := 8) rfl .nil))))) ?_
  refine V_seq (V_region rfl ?_)
  refine L_go rfl (X_p (p_move rfl rfl) ?_)
  refine L_go rfl (X_p (p_neq rfl rfl rfl) ?_)
  refine L_then (.cons (k := 2) rfl (.cons (k := 3) rfl (.cons (k := 4) rfl (.cons (k := 6) rfl (.cons (k := 8) rfl (.cons (k := 16) rfl .nil)))))) ?_
  refine V_cond rfl ?_ ?_
  · intro c1; try simp only [td] at c1
    have he : usedE p t now = ticksE p t [now] := by unfold usedE; rw [if_pos c1]
    refine V_seq (V_region rfl ?_)
    refine L_go rfl (X_p (p_build (r := [_, _, _, _, _, _, _, _, _, _, _, _, _]) pl33 zr33 rfl rfl rfl) ?_)
    refine L_go rfl (X_p (p_move rfl rfl) ?_)
    refine L_go rfl (X_wr (w_store (cs' := [_, _, _, _, _, _, _, _, _, _, _, _, _]) sz33 rfl rfl rfl rfl rfl (by repeat first | exact .head | apply SetAt.tail) (Nat.le_of_ble_eq_true rfl) rfl) ?_)
    rintro _ _ ⟨rfl, rfl⟩
    refine L_go rfl (X_p (p_assign rfl rfl) ?_)
    refine L_go rfl (X_p (p_assign rfl rfl) ?_)
    refine L_then (.cons (k := 6) rfl (.cons (k := 7) rfl (.cons (k := 8) rfl .nil))) ?_
    refine V_ret (then_r ?_)
    refine Leave.nil (.cellA (us := [_, _, _, _, _, _, _, _, _, _, _, _, _]) rfl ag33 sz33 (by repeat first | exact mH | apply mT) rfl (.tmp rfl (.tmp rfl .nil))) ?_
    have h2 : usedP p t now = (boxZ, 0) := by unfold usedP; rw [if_pos (by omega)]
    rw [h2, he]; rfl
  · intro c1; try simp only [td] at c1
    have hz := ticks_zero c1
    have h0 := c1
    refine V_skip (then_n ?_)
    refine V_seq (V_region rfl ?_)
    refine L_go rfl (X_rd (r_loadA (vs := [_, _, _, _, _]) ag26 sz26 rfl rfl (by repeat first | exact mH | apply mT) rfl) ?_)
    refine L_go rfl (X_rd (r_loadA (vs := [_, _, _, _, _]) ag54 sz54 rfl rfl (by repeat first | exact mH | apply mT) rfl) ?_)
    refine L_go rfl (X_p (p_move rfl rfl) ?_)
    refine L_go rfl (X_wr (w_callP rfl rfl rfl (fun w hg => dused_c now (hz.2.2 now (.head _)) p _ w (hP.good hg) hz.1 t _ _ (hT.good hg) hz.2.1)) ?_)
    rintro _ _ ⟨rfl, rfl⟩
    refine L_go rfl (X_p (p_move rfl rfl) ?_)
    refine L_go rfl (X_p (p_ext rfl rfl rfl) ?_)
    refine L_go rfl (X_p (p_ext rfl rfl rfl) ?_)
    refine L_go rfl (X_p (p_ext rfl rfl rfl) ?_)
    refine L_go rfl (X_wr (w_store (cs' := [_, _, _, _, _, _, _, _, _, _, _, _, _]) sz33 rfl rfl rfl rfl rfl (by repeat first | exact .head | apply SetAt.tail) (Nat.le_of_ble_eq_true rfl) rfl) ?_)
    rintro _ _ ⟨rfl, rfl⟩
    refine L_go rfl (X_p (p_assign rfl rfl) ?_)
    refine L_go rfl (X_p (p_assign rfl rfl) ?_)
    refine L_then (.cons (k := 6) rfl (.cons (k := 7) rfl (.cons (k := 9) rfl .nil))) ?_
    refine V_seq ?_
    refine V_seq (V_region rfl ?_)
    refine L_go rfl (X_p (p_move rfl rfl) ?_)
    refine L_go rfl (X_p (p_not rfl rfl) ?_)
    refine L_then (.cons (k := 6) rfl (.cons (k := 7) rfl (.cons (k := 28) rfl .nil))) ?_
    refine V_cond rfl ?_ ?_
    · intro c2; try simp only [td] at c2
      have hu := usedQ_f c2
      have he : usedE p t now = 9 := by unfold usedE; rw [if_neg (by omega), hu]; rfl
      refine V_seq (V_region rfl ?_)
      refine L_go rfl (X_p (p_build (r := [_, _, _, _, _, _, _, _, _, _, _, _, _]) pl33 zr33 rfl rfl rfl) ?_)
      refine L_go rfl (X_wr (w_store (cs' := [_, _, _, _, _, _, _, _, _, _, _, _, _]) sz33 rfl rfl rfl rfl rfl (by repeat first | exact .head | apply SetAt.tail) (Nat.le_of_ble_eq_true rfl) rfl) ?_)
      rintro _ _ ⟨rfl, rfl⟩
      refine L_go rfl (X_p (p_assign rfl rfl) ?_)
      refine L_go rfl (X_p (p_assign rfl rfl) ?_)
      refine L_then (.cons (k := 6) rfl (.cons (k := 7) rfl (.cons (k := 8) rfl .nil))) ?_
      refine V_ret (then_r ?_)
      refine Leave.nil (.cellA (us := [_, _, _, _, _, _, _, _, _, _, _, _, _]) rfl ag33 sz33 (by repeat first | exact mH | apply mT) rfl (.tmp rfl (.tmp rfl .nil))) ?_
      have h2 : usedP p t now = (boxZ, 0) := by unfold usedP; rw [if_pos (by omega)]
      rw [h2, he]; rfl
    · intro c2; try simp only [td] at c2
      have hu := usedQ_t c2
      have he : usedE p t now = 0 := by unfold usedE; rw [if_neg (by omega), hu]; rfl
      refine V_skip (then_n ?_)
      refine V_seq (V_region rfl ?_)
      refine L_go rfl (X_rd (r_loadA (vs := [_, _, _, _, _, _, _, _, _, _, _, _, _]) ag33 sz33 rfl rfl (by repeat first | exact mH | apply mT) rfl) ?_)
      refine L_go rfl (X_p (p_move rfl rfl) ?_)
      refine L_go rfl (X_wr (w_store (cs' := [_, _, _, _, _, _, _, _, _, _, _, _, _]) sz33 rfl rfl rfl rfl rfl (by repeat first | exact .head | apply SetAt.tail) (Nat.le_of_ble_eq_true rfl) rfl) ?_)
      rintro _ _ ⟨rfl, rfl⟩
      refine L_go rfl (X_p (p_assign rfl rfl) ?_)
      refine L_go rfl (X_p (p_assign rfl rfl) ?_)
      refine L_then (.cons (k := 6) rfl (.cons (k := 7) rfl (.cons (k := 8) rfl .nil))) ?_
      refine V_ret ?_
      refine Leave.nil (.cellA (us := [_, _, _, _, _, _, _, _, _, _, _, _, _]) rfl ag33 sz33 (by repeat first | exact mH | apply mT) rfl (.tmp rfl (.tmp rfl .nil))) ?_
      have h2 : usedP p t now = ((usedQ p t now).1, (usedQ p t now).2.1) := by unfold usedP; rw [if_neg (by omega), hu]; rfl
      rw [h2, he]; rfl
theorem dkeeps1_c (x y : Span) (l : De.Line) (hl : LnB l) (hx : offS x = false) (hy : offS y = false) (b ty : Nat) (fr : Nat × Nat) (w : World) (hb : w.heap[b]? = some (.cells #[.int .i64 x.lo, .int .i64 x.hi, .int .i64 y.lo, .int .i64 y.hi] ty fr)) : FnP Tryd.prog 44 [.agg (De.Line.cells l).toArray, .pointer (some ⟨b, 0, none⟩)] w (.bool (decide (l.keep < mostL l x y))) := by
  refine fn_pure Tryd.func44 rfl (by kernel_rfl) Tryd.ntmps44 Tryd.results44 rfl ?_
  refine V_seq (V_region rfl ?_)
  refine L_go rfl (X_wr (w_box rfl rfl) ?_)
  rintro _ _ ⟨b1, hb1, rfl, rfl⟩
  refine L_go rfl (X_p (p_assign rfl rfl) ?_)
  refine L_then (.cons (k := 1) rfl (.cons (k := 2) rfl .nil)) ?_
  refine V_seq (V_region rfl ?_)
  refine L_go rfl (X_rd (r_loadA (vs := [_, _, _, _]) ag60 sz60 rfl rfl (by repeat first | exact mH | apply mT) rfl) ?_)
  refine L_go rfl (X_rd (r_loadBA (vs := [_, _, _, _]) ag36 sz36 rfl rfl (own_slice (n := 4) (vs := [_, _, _, _]) hb rfl).1 rfl List.not_mem_nil) ?_)
  refine L_go rfl (X_wr (w_callP rfl rfl rfl (fun w hg => dmeas_c l x y hl hx hy w)) ?_)
  rintro _ _ ⟨rfl, rfl⟩
  refine L_go rfl (X_p (p_move rfl rfl) ?_)
  refine L_go rfl (X_p (p_ext rfl rfl rfl) ?_)
  refine L_go rfl (X_p (p_ext rfl rfl rfl) ?_)
  refine L_go rfl (X_p (p_assign rfl rfl) ?_)
  refine L_go rfl (X_p (p_assign rfl rfl) ?_)
  refine L_then (.cons (k := 2) rfl (.cons (k := 5) rfl .nil)) ?_
  refine V_seq (V_region rfl ?_)
  refine L_go rfl (X_p (p_move rfl rfl) ?_)
  refine L_go rfl (X_p (p_fieldo fo60_2 rfl rfl) ?_)
  refine L_go rfl (X_rd (r_load ag3 rfl rfl (by repeat first | exact mH | apply mT) rfl) ?_)
  refine L_go rfl (X_p (p_gtr rfl rfl rfl) ?_)
  refine L_go rfl (X_p (p_assign rfl rfl) ?_)
  refine L_then (.cons (k := 3) rfl .nil) ?_
  refine V_ret ?_
  refine Leave.nil (.tmp rfl .nil) ?_
  rfl
theorem dkeeps_c (x y : Span) (p : De.Plan) (pv : Value) (w : World) (hp : PlanR w pv p) : FnP Tryd.prog 22 [pv, .agg #[.int .i64 x.lo, .int .i64 x.hi, .int .i64 y.lo, .int .i64 y.hi]] w (.tuple #[.bool (keepsB p x y), .int .i64 (areaE p x y)]) := by
  have hP := hp
  obtain ⟨lv, rfl, hls⟩ := hp.ex
  have hlen := hp.len
  refine fn_pure Tryd.func22 rfl (by kernel_rfl) Tryd.ntmps22 Tryd.results22 rfl ?_
  refine V_seq (V_region rfl ?_)
  refine L_go rfl (X_wr (w_box rfl rfl) ?_)
  rintro _ _ ⟨b1, hb1, rfl, rfl⟩
  refine L_go rfl (X_wr (w_box rfl rfl) ?_)
  rintro _ _ ⟨b2, hb2, rfl, rfl⟩
  refine L_go rfl (X_p (p_assign rfl rfl) ?_)
  refine L_go rfl (X_p (p_assign rfl rfl) ?_)
  refine L_then (.cons (k := 2) rfl (.cons (k := 3) rfl .nil)) ?_
  refine V_seq ?_
  refine V_seq (V_region rfl ?_)
  refine L_go rfl (X_rd (r_loadA (vs := [_, _, _, _, _]) ag26 sz26 rfl rfl (by repeat first | exact mH | apply mT) rfl) ?_)
  refine L_go rfl (X_rd (r_loadA (vs := [_, _, _, _]) ag36 sz36 rfl rfl (by repeat first | exact mH | apply mT) rfl) ?_)
  refine L_go rfl (X_wr (w_callP rfl rfl rfl (fun w hg => dasked_c x y p _ w (hP.good hg))) ?_)
  rintro _ _ ⟨rfl, rfl⟩
  refine L_go rfl (X_p (p_assign rfl rfl) ?_)
  refine L_then (.cons (k := 2) rfl (.cons (k := 3) rfl (.cons (k := 6) rfl .nil))) ?_
  refine V_seq (V_region rfl ?_)
  refine L_go rfl (X_p (p_move rfl rfl) ?_)
  refine L_go rfl (X_p (p_neq rfl rfl rfl) ?_)
  refine L_then (.cons (k := 2) rfl (.cons (k := 3) rfl (.cons (k := 6) rfl (.cons (k := 12) rfl .nil)))) ?_
  refine V_cond rfl ?_ ?_
  · intro c1; try simp only [td] at c1
    refine V_seq (V_region rfl ?_)
    refine L_go rfl (X_p (p_move rfl rfl) ?_)
    refine L_go rfl (X_p (p_assign rfl rfl) ?_)
    refine L_go rfl (X_p (p_assign rfl rfl) ?_)
    refine L_then (.cons (k := 4) rfl (.cons (k := 5) rfl .nil)) ?_
    refine V_ret (then_r ?_)
    refine Leave.nil (.tmp rfl (.tmp rfl .nil)) ?_
    have e : keepsB p x y = false := if_pos c1
    rw [e]; rfl
  · intro c1; try simp only [td] at c1
    have hz := area_zero c1
    have hln := hz.1.nums.1
    refine V_skip (then_n ?_)
    refine V_seq (V_region rfl ?_)
    refine L_go rfl (X_p (p_func rfl rfl rfl) ?_)
    refine L_go rfl (X_p (p_assign rfl rfl) ?_)
    refine L_then (.cons (k := 2) rfl (.cons (k := 7) rfl .nil)) ?_
    refine V_seq (V_region rfl ?_)
    refine L_go rfl (X_p (p_fieldo fo26_0 rfl rfl) ?_)
    refine L_go rfl (X_rd (r_load ag22 rfl rfl (by repeat first | exact mH | apply mT) rfl) ?_)
    refine L_go rfl (X_p (p_move rfl rfl) ?_)
    refine L_go rfl (X_wr (w_callP rfl rfl rfl (fun w hg => contLn_c p.lines _ _ _ (fun l => decide (l.keep < mostL l x y)) w (hls.good hg) (by omega) (fun j hj w' he => dkeeps1_c x y _ (hz.1.ln_at hj) hz.2.1 hz.2.2 _ _ _ w' (he.heap (hg.own (b2, _) (by repeat first | exact mH | apply mT)))))) ?_)
    rintro _ _ ⟨rfl, rfl⟩
    refine L_go rfl (X_p (p_not rfl rfl) ?_)
    refine L_go rfl (X_p (p_assign rfl rfl) ?_)
    refine L_go rfl (X_p (p_assign rfl rfl) ?_)
    refine L_then (.cons (k := 4) rfl (.cons (k := 5) rfl .nil)) ?_
    refine V_ret ?_
    refine Leave.nil (.tmp rfl (.tmp rfl .nil)) ?_
    have e : keepsB p x y = !(p.lines.any fun l => decide (l.keep < mostL l x y)) := if_neg (by omega)
    rw [e, c1]; rfl
set_option maxHeartbeats 4000000 in
theorem dside_c (x y : Span) (p : De.Plan) (pv : Value) (w : World) (hp : PlanR w pv p) : FnC Tryd.prog 24 [pv, .agg #[.int .i64 x.lo, .int .i64 x.hi, .int .i64 y.lo, .int .i64 y.hi]] w fun v w' => ∃ Hc, Vc.Good w [] Hc w' ∧ ∃ A G, Hc = A ++ G ∧ ListOut 3 (sideL p x y) (fun sv => .tuple #[sv, .int .i64 (areaE p x y)]) v A G := by
  have hP := hp
  obtain ⟨lv, rfl, hls⟩ := hp.ex
  have hlen := hp.len
  obtain ⟨la, lc, rfl, hlc, hle⟩ := hls.ex
  simp only [List.length_map] at hP hlc ⊢
  refine fn_new Tryd.func24 rfl (by kernel_rfl) Tryd.ntmps24 Tryd.results24 rfl ?_
  refine V_seq (V_region rfl ?_)
  refine L_go rfl (X_wr (w_box rfl rfl) ?_)
  rintro _ _ ⟨b1, hb1, rfl, rfl⟩
  refine L_go rfl (X_wr (w_box rfl rfl) ?_)
  rintro _ _ ⟨b2, hb2, rfl, rfl⟩
  refine L_go rfl (X_p (p_assign rfl rfl) ?_)
  refine L_go rfl (X_p (p_assign rfl rfl) ?_)
  refine L_then (.cons (k := 2) rfl (.cons (k := 3) rfl (.cons (k := 4) rfl .nil))) ?_
  refine V_seq ?_
  refine V_seq (V_region rfl ?_)
  refine L_go rfl (X_rd (r_loadA (vs := [_, _, _, _, _]) ag26 sz26 rfl rfl (by repeat first | exact mH | apply mT) rfl) ?_)
  refine L_go rfl (X_rd (r_loadA (vs := [_, _, _, _]) ag36 sz36 rfl rfl (by repeat first | exact mH | apply mT) rfl) ?_)
  refine L_go rfl (X_wr (w_callP rfl rfl rfl (fun w hg => dasked_c x y p _ w (hP.good hg))) ?_)
  rintro _ _ ⟨rfl, rfl⟩
  refine L_go rfl (X_p (p_assign rfl rfl) ?_)
  refine L_then (.cons (k := 2) rfl (.cons (k := 3) rfl (.cons (k := 4) rfl (.cons (k := 5) rfl .nil)))) ?_
  refine V_seq (V_region rfl ?_)
  refine L_go rfl (X_p (p_move rfl rfl) ?_)
  refine L_go rfl (X_p (p_neq rfl rfl rfl) ?_)
  refine L_then (.cons (k := 2) rfl (.cons (k := 3) rfl (.cons (k := 4) rfl (.cons (k := 5) rfl (.cons (k := 14) rfl .nil))))) ?_
  refine V_cond rfl ?_ ?_
  · intro c1; try simp only [td] at c1
    refine V_seq (V_region rfl ?_)
    refine L_go rfl (X_p (p_move rfl rfl) ?_)
    refine L_go rfl (X_p (p_assign rfl rfl) ?_)
    refine L_go rfl (X_p (p_assign rfl rfl) ?_)
    refine L_then (.cons (k := 4) rfl (.cons (k := 5) rfl .nil)) ?_
    refine V_ret (then_r ?_)
    refine Leave.nil (.tmp rfl (.tmp rfl .nil)) ?_
    refine ⟨[], HSub.nil _, [], [], rfl, .slice none 0 0, rfl, rfl, ?_⟩
    rw [sideL_bad c1]; exact .nil
  · intro c1; try simp only [td] at c1
    have hz := area_zero c1
    have h0 := c1
    have hln := hz.1.nums.1
    refine V_skip (then_n ?_)
    refine V_seq ?_
    refine V_seq (V_region rfl ?_)
    refine L_go rfl (X_p (p_fieldo fo26_0 rfl rfl) ?_)
    refine L_go rfl (X_rd (r_load ag22 rfl rfl (by repeat first | exact mH | apply mT) rfl) ?_)
    refine L_go rfl (X_p (p_len isl22 rfl rfl) ?_)
    refine L_go rfl (X_p (p_move rfl rfl) ?_)
    refine L_then (.cons (k := 3) rfl (.cons (k := 4) rfl (.cons (k := 17) rfl (.cons (k := 18) rfl (.cons (k := 19) rfl .nil))))) ?_
    refine V_block ?_
    refine V_loop1 (γ := Int × Value × Heap) (.cons (k := 3) rfl (.cons (k := 17) rfl (.cons (k := 18) rfl .nil))) (fun (k, sv, G) => [(19, .int .i64 k), (4, sv)]) (fun (k, sv, G) => (b2, .cells #[.int .i64 x.lo, .int .i64 x.hi, .int .i64 y.lo, .int .i64 y.hi] 36) :: (b1, .cells #[.slice la p.lines.length lc, .int .i64 p.grav.lo, .int .i64 p.grav.hi, .int .i64 p.wait, .int .i64 p.blind] 26) :: G) (fun (k, sv, G) => 0 ≤ k ∧ k ≤ p.lines.length ∧ Grow 3 1 sv (sideN p x y k.toNat).length (iiL (sideN p x y k.toNat)) G) (fun (k, sv, G) => (p.lines.length - k).toNat) ((0, .slice none 0 0, [])) (.cons rfl (.cons rfl (.nil _))) (by repeat (first | exact List.Sublist.refl _ | apply List.Sublist.cons_cons | apply List.Sublist.cons)) (⟨by omega, by omega, .nil⟩) ?_
    rintro ⟨k, sv, G⟩ hi
    obtain ⟨hk0, hk1, hgr⟩ := hi
    have hkl : (sideN p x y k.toNat).length ≤ 8 := by simp only [sideN, List.length_map, List.length_take]; omega
    refine V_seq (V_region rfl ?_)
    refine L_go rfl (X_p (p_lss rfl rfl rfl) ?_)
    refine L_then (.cons (k := 3) rfl (.cons (k := 4) rfl (.cons (k := 17) rfl (.cons (k := 18) rfl (.cons (k := 19) rfl (.cons (k := 20) rfl .nil)))))) ?_
    refine V_seq ?_
    refine V_cond rfl ?_ ?_
    · intro c2; try simp only [td] at c2
      obtain ⟨tb, rfl, hc⟩ := hle k.toNat _ (getD_cells (d := lnZ) (by omega))
      have hlb := hz.1.ln_at (i := k.toNat) (by omega)
      have hmb := most_bnd hlb hz.2.1 hz.2.2
      have hl3 := hlb.line
      have hl4 := hlb.keep
      simp only [Plan.ln] at hl3 hl4
      refine V_skip (then_n ?_)
      refine V_seq ?_
      refine V_block ?_
      refine V_seq (V_region rfl ?_)
      refine L_go rfl (X_p (p_idx es22 rfl rfl rfl (by omega) (by omega)) ?_)
      refine L_go rfl (X_rd (r_loadBA ag60 sz60 rfl rfl hc rfl List.not_mem_nil) ?_)
      refine L_go rfl (X_wr (w_alloc zr60 rfl) ?_)
      rintro _ _ ⟨b3, hb3, rfl, rfl⟩
      refine L_go rfl (X_wr (w_store (cs' := [_, _, _, _]) sz60 rfl rfl rfl rfl rfl (by repeat first | exact .head | apply SetAt.tail) (Nat.le_of_ble_eq_true rfl) rfl) ?_)
      rintro _ _ ⟨rfl, rfl⟩
      refine L_then (.cons (k := 3) rfl (.cons (k := 4) rfl (.cons (k := 7) rfl (.cons (k := 17) rfl (.cons (k := 18) rfl (.cons (k := 19) rfl .nil)))))) ?_
      refine V_seq (V_region rfl ?_)
      refine L_go rfl (X_rd (r_loadA (vs := [_, _, _, _]) ag60 sz60 rfl rfl (by repeat first | exact mH | apply mT) rfl) ?_)
      refine L_go rfl (X_rd (r_loadA (vs := [_, _, _, _]) ag36 sz36 rfl rfl (by repeat first | exact mH | apply mT) rfl) ?_)
      refine L_go rfl (X_wr (w_callP rfl rfl rfl (fun w hg => dmeas_c (p.ln k.toNat) x y (hz.1.ln_at (by omega)) hz.2.1 hz.2.2 w)) ?_)
      rintro _ _ ⟨rfl, rfl⟩
      refine L_go rfl (X_p (p_move rfl rfl) ?_)
      refine L_go rfl (X_p (p_ext rfl rfl rfl) ?_)
      refine L_go rfl (X_p (p_ext rfl rfl rfl) ?_)
      refine L_go rfl (X_p (p_assign rfl rfl) ?_)
      refine L_go rfl (X_p (p_assign rfl rfl) ?_)
      refine L_then (.cons (k := 3) rfl (.cons (k := 4) rfl (.cons (k := 7) rfl (.cons (k := 9) rfl (.cons (k := 17) rfl (.cons (k := 18) rfl (.cons (k := 19) rfl .nil))))))) ?_
      refine V_region rfl ?_
      refine L_go rfl (X_p (p_move rfl rfl) ?_)
      refine L_go rfl (X_p (p_fieldo fo60_3 rfl rfl) ?_)
      refine L_go rfl (X_rd (r_load ag3 rfl rfl (by repeat first | exact mH | apply mT) rfl) ?_)
      refine L_go rfl (X_p (p_move rfl rfl) ?_)
      first | refine L_go rfl (X_p (p_sub' rfl rfl rfl (by unfold InI; omega)) ?_) | refine L_go rfl (X_p (p_sub rfl rfl rfl) ?_)
      refine L_go rfl (X_wr (w_slice (r := [_]) un66 sz3 zr3 rfl (by decide) rfl (by decide) rfl rfl) ?_)
      rintro _ _ ⟨b4, hb4, rfl, rfl⟩
      refine L_go rfl (X_wr (w_app (pre := [_, _, _, _]) (G := G) (post := []) ap66 rfl rfl rfl hgr (by rw [List.append_nil]; rfl) rfl (news_own (by repeat first | exact mH | apply mT)) (by simp [Value.oneCell']) (by omega) (by simp only [maxLen]; omega)) ?_)
      rintro _ _ ⟨G1a, G1c, G1, rfl, rfl, hgr1⟩
      try simp only [List.cons_append, List.nil_append, List.append_nil]
      refine L_go rfl (X_p (p_assign rfl rfl) ?_)
      refine L_keep (.cons (k := 3) rfl (.cons (k := 4) rfl (.cons (k := 17) rfl (.cons (k := 18) rfl (.cons (k := 19) rfl .nil))))) (blk_n (then_n ?_))
      refine V_region rfl ?_
      first | refine L_go rfl (X_p (p_add' rfl rfl rfl (by unfold InI; omega)) ?_) | refine L_go rfl (X_p (p_add rfl rfl rfl) ?_)
      refine L_go rfl (X_p (p_move rfl rfl) ?_)
      refine L_keep (.cons (k := 3) rfl (.cons (k := 4) rfl (.cons (k := 17) rfl (.cons (k := 18) rfl (.cons (k := 19) rfl .nil))))) (then_n ?_)
      refine ⟨(k + 1, _, G1), ?_, ?_, (.cons rfl (.cons rfl (.cons rfl (.cons rfl (.cons rfl (.nil _)))))), (by repeat (first | exact List.Sublist.refl _ | apply List.Sublist.cons_cons | apply List.Sublist.cons | apply List.sublist_append_of_sublist_right)), rfl⟩
      · refine ⟨by omega, by omega, ?_⟩
        rw [show (k + 1).toNat = k.toNat + 1 by omega, sideN_succ (by omega), List.length_append, iiL, List.map_append]; exact hgr1
      · dsimp only; omega
    · intro c2; try simp only [td] at c2
      refine V_exit (then_e (then_e (blk_e rfl (then_n ?_))))
      refine V_seq (V_region rfl ?_)
      refine L_go rfl (X_p (p_move rfl rfl) ?_)
      refine L_go rfl (X_p (p_assign rfl rfl) ?_)
      refine L_go rfl (X_p (p_assign rfl rfl) ?_)
      refine L_then (.cons (k := 4) rfl (.cons (k := 5) rfl .nil)) ?_
      refine V_ret ?_
      refine Leave.nil (.tmp rfl (.tmp rfl .nil)) ?_
      have ek : k.toNat = p.lines.length := by omega
      rw [ek, sideN_all h0] at hgr
      refine ⟨G, (by (try dsimp only); repeat (first | exact HSub.nil _ | refine HSub.take (by repeat first | exact Take.head | apply Take.tail) ?_ | exact HSub.refl _ | refine HSub.drop ?_ | refine HSub.app ?_)), [], G, rfl, sv, rfl, ?_, hgr⟩
      rw [h0]; rfl

end Go.Proofs.YtlcccpeelombbaaDoor

/- YtlcccpeelombbaaDoor: looks. -/
set_option linter.all false
namespace Go.Proofs.YtlcccpeelombbaaDoor
open Go.Vc Go.Tk Go.De
set_option maxRecDepth 100000
theorem errV_neq (aF aL : Addr) {e : Int} (he : e = 0 ∨ e = 3 ∨ e = 9) (w : World) : (binOp .neq 92 (errV 188 aF aL e) .nilIface).run Tryd.prog w = .ok (.bool (decide (e ≠ 0))) w := by
  rcases he with rfl | rfl | rfl
  · exact neq_nil Tryd.underlying92 w
  · exact neq_some _ _ Tryd.underlying92 w
  · exact neq_some _ _ Tryd.underlying92 w
theorem errV_guard (aF aL : Addr) {e : Int} (he : e = 0 ∨ e = 3 ∨ e = 9) {x : Operand} (w : World) : (eqGuard .neq 92 x (.const .nilIface) (errV 188 aF aL e) .nilIface).run Tryd.prog w = .ok () w := by
  rcases he with rfl | rfl | rfl <;> cases x <;> rfl
def lookB (q : Box × Int × Bool) : Box := if q.2.2 = true then q.1 else boxZ
set_option maxHeartbeats 4000000 in
theorem dlook1_c (p : De.Plan) (lv : Value) (hgp : GoodP p) (t : Task) (tv qv : Value) (hG : GoodT t) (now : Int) (hn : 0 ≤ now ∧ now ≤ 100000) (B : Box) (x y a : Span) (why line : Int) (b1 b2 b3 b4 : Nat) (w0 : World) (hp : PlanR w0 (PlanV p lv) p) (ht : TaskR w0 (.agg #[.int .i64 t.frm, .int .i64 t.speed, .int .i64 t.accel, tv, qv]) t) (w : World) (hg0 : Vc.Good w0 [] ([(b4, .cells #[.int .i64 (B).at_, .int .i64 (B).x.lo, .int .i64 (B).x.hi, .int .i64 (B).y.lo, .int .i64 (B).y.hi, .int .i64 (B).z.lo, .int .i64 (B).z.hi, .int .i64 (B).vx.lo, .int .i64 (B).vx.hi, .int .i64 (B).vy.lo, .int .i64 (B).vy.hi, .int .i64 (B).vz.lo, .int .i64 (B).vz.hi, .int .i64 (x).lo, .int .i64 (x).hi, .int .i64 (y).lo, .int .i64 (y).hi, .int .i64 (a).lo, .int .i64 (a).hi, .int .i64 (why), .int .i64 (line)] 56), (b3, .cells #[.int .i64 now] 3), (b2, t.obj tv qv 54), (b1, .cells #[lv, .int .i64 p.grav.lo, .int .i64 p.grav.hi, .int .i64 p.wait, .int .i64 p.blind] 26)]) w) : FnC Tryd.prog 64 [.pointer (some ⟨b1, 0, none⟩), .pointer (some ⟨b2, 0, none⟩), .pointer (some ⟨b3, 0, none⟩), .pointer (some ⟨b4, 0, none⟩)] w fun v w' => ∃ Hc, Vc.Good w0 [] Hc w' ∧ (v = .bool (!(usedQ p t now).2.2) ∧ Hc = [(b4, .cells #[.int .i64 (lookB (usedQ p t now)).at_, .int .i64 (lookB (usedQ p t now)).x.lo, .int .i64 (lookB (usedQ p t now)).x.hi, .int .i64 (lookB (usedQ p t now)).y.lo, .int .i64 (lookB (usedQ p t now)).y.hi, .int .i64 (lookB (usedQ p t now)).z.lo, .int .i64 (lookB (usedQ p t now)).z.hi, .int .i64 (lookB (usedQ p t now)).vx.lo, .int .i64 (lookB (usedQ p t now)).vx.hi, .int .i64 (lookB (usedQ p t now)).vy.lo, .int .i64 (lookB (usedQ p t now)).vy.hi, .int .i64 (lookB (usedQ p t now)).vz.lo, .int .i64 (lookB (usedQ p t now)).vz.hi, .int .i64 (x).lo, .int .i64 (x).hi, .int .i64 (y).lo, .int .i64 (y).hi, .int .i64 (a).lo, .int .i64 (a).hi, .int .i64 (if (usedQ p t now).2.2 = true then why else 2), .int .i64 (line)] 56), (b3, .cells #[.int .i64 now] 3), (b2, t.obj tv qv 54), (b1, .cells #[lv, .int .i64 p.grav.lo, .int .i64 p.grav.hi, .int .i64 p.wait, .int .i64 p.blind] 26)]) := by
  refine fn_over (M := []) (H0 := [(b4, .cells #[.int .i64 (B).at_, .int .i64 (B).x.lo, .int .i64 (B).x.hi, .int .i64 (B).y.lo, .int .i64 (B).y.hi, .int .i64 (B).z.lo, .int .i64 (B).z.hi, .int .i64 (B).vx.lo, .int .i64 (B).vx.hi, .int .i64 (B).vy.lo, .int .i64 (B).vy.hi, .int .i64 (B).vz.lo, .int .i64 (B).vz.hi, .int .i64 (x).lo, .int .i64 (x).hi, .int .i64 (y).lo, .int .i64 (y).hi, .int .i64 (a).lo, .int .i64 (a).hi, .int .i64 (why), .int .i64 (line)] 56), (b3, .cells #[.int .i64 now] 3), (b2, t.obj tv qv 54), (b1, .cells #[lv, .int .i64 p.grav.lo, .int .i64 p.grav.hi, .int .i64 p.wait, .int .i64 p.blind] 26)]) Tryd.func64 rfl (by kernel_rfl) Tryd.ntmps64 Tryd.results64 rfl hg0 ?_
  refine V_seq (V_region rfl ?_)
  refine L_go rfl (X_p (p_assign rfl rfl) ?_)
  refine L_then (.cons (k := 0) rfl (.cons (k := 1) rfl (.cons (k := 2) rfl (.cons (k := 3) rfl .nil)))) ?_
  refine V_seq (V_region rfl ?_)
  refine L_go rfl (X_rd (r_loadA (vs := [_, _, _, _, _]) ag26 sz26 rfl rfl (by repeat first | exact mH | apply mT) rfl) ?_)
  refine L_go rfl (X_rd (r_loadA (vs := [_, _, _, _, _]) ag54 sz54 rfl rfl (by repeat first | exact mH | apply mT) rfl) ?_)
  refine L_go rfl (X_rd (r_load ag3 rfl rfl (by repeat first | exact mH | apply mT) rfl) ?_)
  refine L_go rfl (X_wr (w_callP rfl rfl rfl (fun w hg => dused_c now hn p _ w (hp.good hg) hgp t _ _ (ht.good hg) hG)) ?_)
  rintro _ _ ⟨rfl, rfl⟩
  refine L_go rfl (X_p (p_move rfl rfl) ?_)
  refine L_go rfl (X_p (p_ext rfl rfl rfl) ?_)
  refine L_go rfl (X_p (p_ext rfl rfl rfl) ?_)
  refine L_go rfl (X_p (p_ext rfl rfl rfl) ?_)
  refine L_go rfl (X_p (p_fieldo fo56_0 rfl rfl) ?_)
  refine L_go rfl (X_wr (w_store (cs' := [_, _, _, _, _, _, _, _, _, _, _, _, _, _, _, _, _, _, _, _, _]) sz33 rfl rfl rfl rfl rfl (by repeat first | exact .head | apply SetAt.tail) (Nat.le_of_ble_eq_true rfl) rfl) ?_)
  rintro _ _ ⟨rfl, rfl⟩
  refine L_go rfl (X_p (p_assign rfl rfl) ?_)
  refine L_then (.cons (k := 3) rfl (.cons (k := 4) rfl .nil)) ?_
  refine V_seq ?_
  refine V_seq (V_region rfl ?_)
  refine L_go rfl (X_p (p_move rfl rfl) ?_)
  refine L_go rfl (X_p (p_not rfl rfl) ?_)
  refine L_then (.cons (k := 3) rfl (.cons (k := 4) rfl (.cons (k := 15) rfl .nil))) ?_
  refine V_cond rfl ?_ ?_
  · intro c1; try simp only [td] at c1
    have hq := c1
    refine V_region rfl ?_
    refine L_go rfl (X_p (p_build (r := [_, _, _, _, _, _, _, _, _, _, _, _, _]) pl33 zr33 rfl rfl rfl) ?_)
    refine L_go rfl (X_p (p_fieldo fo56_0 rfl rfl) ?_)
    refine L_go rfl (X_wr (w_store (cs' := [_, _, _, _, _, _, _, _, _, _, _, _, _, _, _, _, _, _, _, _, _]) sz33 rfl rfl rfl rfl rfl (by repeat first | exact .head | apply SetAt.tail) (Nat.le_of_ble_eq_true rfl) rfl) ?_)
    rintro _ _ ⟨rfl, rfl⟩
    refine L_go rfl (X_p (p_fieldo fo56_3 rfl rfl) ?_)
    refine L_go rfl (X_wr (w_store (cs' := [_, _, _, _, _, _, _, _, _, _, _, _, _, _, _, _, _, _, _, _, _]) sz3 rfl rfl rfl rfl rfl (by repeat first | exact .head | apply SetAt.tail) (Nat.le_of_ble_eq_true rfl) rfl) ?_)
    rintro _ _ ⟨rfl, rfl⟩
    refine L_then (.cons (k := 4) rfl .nil) ?_
    refine V_seq (V_region rfl ?_)
    refine L_go rfl (X_p (p_move rfl rfl) ?_)
    refine L_go rfl (X_p (p_not rfl rfl) ?_)
    refine L_go rfl (X_p (p_assign rfl rfl) ?_)
    refine L_then (.cons (k := 4) rfl .nil) ?_
    refine V_ret ?_
    refine Leave.nil (.tmp rfl .nil) ?_
    have e : lookB (usedQ p t now) = boxZ := by unfold lookB; rw [hq]; rfl
    rw [e, if_neg (by rw [hq]; decide)]
    exact ⟨_, (by (try dsimp only); repeat (first | exact HSub.nil _ | refine HSub.take (by repeat first | exact Take.head | apply Take.tail) ?_ | exact HSub.refl _ | refine HSub.drop ?_ | refine HSub.app ?_)), rfl, rfl⟩
  · intro c1; try simp only [td] at c1
    have hq := c1
    refine V_skip (then_n ?_)
    refine V_seq (V_region rfl ?_)
    refine L_go rfl (X_p (p_move rfl rfl) ?_)
    refine L_go rfl (X_p (p_not rfl rfl) ?_)
    refine L_go rfl (X_p (p_assign rfl rfl) ?_)
    refine L_then (.cons (k := 4) rfl .nil) ?_
    refine V_ret ?_
    refine Leave.nil (.tmp rfl .nil) ?_
    have e : lookB (usedQ p t now) = (usedQ p t now).1 := by unfold lookB; rw [hq]; rfl
    rw [e, if_pos hq]
    exact ⟨_, (by (try dsimp only); repeat (first | exact HSub.nil _ | refine HSub.take (by repeat first | exact Take.head | apply Take.tail) ?_ | exact HSub.refl _ | refine HSub.drop ?_ | refine HSub.app ?_)), rfl, rfl⟩
set_option maxHeartbeats 4000000 in
theorem dlook2_c (p : De.Plan) (lv : Value) (hgp : GoodP p) (t : Task) (tv qv : Value) (hG : GoodT t) (now : Int) (hn : 0 ≤ now ∧ now ≤ 100000) (B : Box) (x y a : Span) (why line : Int) (b1 b2 b3 b4 : Nat) (w0 : World) (hp : PlanR w0 (PlanV p lv) p) (ht : TaskR w0 (.agg #[.int .i64 t.frm, .int .i64 t.speed, .int .i64 t.accel, tv, qv]) t) (hb : FallB 0 B) (aF aL : Addr) (hE : ErrR w0 0 1 188 aF aL) (w : World) (hg0 : Vc.Good w0 [] ([(b4, .cells #[.int .i64 (B).at_, .int .i64 (B).x.lo, .int .i64 (B).x.hi, .int .i64 (B).y.lo, .int .i64 (B).y.hi, .int .i64 (B).z.lo, .int .i64 (B).z.hi, .int .i64 (B).vx.lo, .int .i64 (B).vx.hi, .int .i64 (B).vy.lo, .int .i64 (B).vy.hi, .int .i64 (B).vz.lo, .int .i64 (B).vz.hi, .int .i64 (x).lo, .int .i64 (x).hi, .int .i64 (y).lo, .int .i64 (y).hi, .int .i64 (a).lo, .int .i64 (a).hi, .int .i64 (why), .int .i64 (line)] 56), (b3, .cells #[.int .i64 now] 3), (b2, t.obj tv qv 54), (b1, .cells #[lv, .int .i64 p.grav.lo, .int .i64 p.grav.hi, .int .i64 p.wait, .int .i64 p.blind] 26)]) w) : FnC Tryd.prog 65 [.pointer (some ⟨b4, 0, none⟩), .pointer (some ⟨b1, 0, none⟩)] w fun v w' => ∃ Hc, Vc.Good w0 [] Hc w' ∧ (v = .bool (decide ((fallT p.grav B).e ≠ 0)) ∧ Hc = [(b4, .cells #[.int .i64 (B).at_, .int .i64 (B).x.lo, .int .i64 (B).x.hi, .int .i64 (B).y.lo, .int .i64 (B).y.hi, .int .i64 (B).z.lo, .int .i64 (B).z.hi, .int .i64 (B).vx.lo, .int .i64 (B).vx.hi, .int .i64 (B).vy.lo, .int .i64 (B).vy.hi, .int .i64 (B).vz.lo, .int .i64 (B).vz.hi, .int .i64 ((fallT p.grav B).x).lo, .int .i64 ((fallT p.grav B).x).hi, .int .i64 ((fallT p.grav B).y).lo, .int .i64 ((fallT p.grav B).y).hi, .int .i64 ((fallT p.grav B).at_).lo, .int .i64 ((fallT p.grav B).at_).hi, .int .i64 (if (fallT p.grav B).e ≠ 0 then 3 else why), .int .i64 (line)] 56), (b3, .cells #[.int .i64 now] 3), (b2, t.obj tv qv 54), (b1, .cells #[lv, .int .i64 p.grav.lo, .int .i64 p.grav.hi, .int .i64 p.wait, .int .i64 p.blind] 26)]) := by
  refine fn_over (M := []) (H0 := [(b4, .cells #[.int .i64 (B).at_, .int .i64 (B).x.lo, .int .i64 (B).x.hi, .int .i64 (B).y.lo, .int .i64 (B).y.hi, .int .i64 (B).z.lo, .int .i64 (B).z.hi, .int .i64 (B).vx.lo, .int .i64 (B).vx.hi, .int .i64 (B).vy.lo, .int .i64 (B).vy.hi, .int .i64 (B).vz.lo, .int .i64 (B).vz.hi, .int .i64 (x).lo, .int .i64 (x).hi, .int .i64 (y).lo, .int .i64 (y).hi, .int .i64 (a).lo, .int .i64 (a).hi, .int .i64 (why), .int .i64 (line)] 56), (b3, .cells #[.int .i64 now] 3), (b2, t.obj tv qv 54), (b1, .cells #[lv, .int .i64 p.grav.lo, .int .i64 p.grav.hi, .int .i64 p.wait, .int .i64 p.blind] 26)]) Tryd.func65 rfl (by kernel_rfl) Tryd.ntmps65 Tryd.results65 rfl hg0 ?_
  refine V_seq (V_region rfl ?_)
  refine L_go rfl (X_p (p_assign rfl rfl) ?_)
  refine L_then (.cons (k := 0) rfl (.cons (k := 1) rfl .nil)) ?_
  refine V_seq (V_region rfl ?_)
  refine L_go rfl (X_p (p_fieldo fo56_0 rfl rfl) ?_)
  refine L_go rfl (X_rd (r_loadA (vs := [_, _, _, _, _, _, _, _, _, _, _, _, _]) ag33 sz33 rfl rfl (by repeat first | exact mH | apply mT) rfl) ?_)
  refine L_go rfl (X_p (p_fieldo fo26_1 rfl rfl) ?_)
  refine L_go rfl (X_rd (r_loadA (vs := [_, _]) ag24 sz24 rfl rfl (by repeat first | exact mH | apply mT) rfl) ?_)
  refine L_go rfl (X_wr (w_callP rfl rfl rfl (fun w hg => dfall_c B p.grav hb hgp.nums.2.1 aF aL w (hE.good hg))) ?_)
  rintro _ _ ⟨rfl, rfl⟩
  refine L_go rfl (X_p (p_move rfl rfl) ?_)
  refine L_go rfl (X_p (p_ext rfl rfl rfl) ?_)
  refine L_go rfl (X_p (p_ext rfl rfl rfl) ?_)
  refine L_go rfl (X_p (p_ext rfl rfl rfl) ?_)
  refine L_go rfl (X_wr (w_alloc zr36 rfl) ?_)
  rintro _ _ ⟨b1, hb1, rfl, rfl⟩
  refine L_go rfl (X_wr (w_alloc zr24 rfl) ?_)
  rintro _ _ ⟨b2, hb2, rfl, rfl⟩
  refine L_go rfl (X_wr (w_store (cs' := [_, _, _, _]) sz36 rfl rfl rfl rfl rfl (by repeat first | exact .head | apply SetAt.tail) (Nat.le_of_ble_eq_true rfl) rfl) ?_)
  rintro _ _ ⟨rfl, rfl⟩
  refine L_go rfl (X_wr (w_store (cs' := [_, _]) sz24 rfl rfl rfl rfl rfl (by repeat first | exact .head | apply SetAt.tail) (Nat.le_of_ble_eq_true rfl) rfl) ?_)
  rintro _ _ ⟨rfl, rfl⟩
  refine L_go rfl (X_p (p_assign rfl rfl) ?_)
  refine L_then (.cons (k := 0) rfl (.cons (k := 3) rfl (.cons (k := 4) rfl (.cons (k := 5) rfl .nil)))) ?_
  refine V_seq ?_
  refine V_seq (V_draw (.rd 0 (.rd 1 (.rd 2 (.wr 3 [1] (.rd 4 (.wr 5 [] .done)))))) mixed (by kernel_rfl) rfl ?_)
  refine D_rd rfl (.plain rfl) (r_loadA (vs := [_, _, _, _]) ag36 sz36 rfl rfl (by repeat first | exact mH | apply mT) rfl) ?_
  refine D_rd rfl (.plain rfl) (r_loadA (vs := [_, _]) ag24 sz24 rfl rfl (by repeat first | exact mH | apply mT) rfl) ?_
  refine D_p rfl (.plain rfl) (p_fieldo fo56_1 rfl rfl) ?_
  refine D_wr (.go (E' := [(1, _)]) rfl (.plain rfl) (w_store (cs' := [_, _, _, _, _, _, _, _, _, _, _, _, _, _, _, _, _, _, _, _, _]) sz36 rfl rfl rfl rfl rfl (by repeat first | exact .head | apply SetAt.tail) (Nat.le_of_ble_eq_true rfl) rfl) rfl ?_)
  rintro _ _ ⟨rfl, rfl⟩
  refine ⟨(.cons rfl (.plain rfl) (r_loadA (vs := [_, _]) ag24 sz24 rfl rfl (by repeat first | exact mH | apply mT) rfl) .nil), ?_⟩
  refine D_p rfl (.plain rfl) (p_fieldo fo56_2 rfl rfl) ?_
  refine D_wr (.go (E' := []) rfl (.plain rfl) (w_store (cs' := [_, _, _, _, _, _, _, _, _, _, _, _, _, _, _, _, _, _, _, _, _]) sz24 rfl rfl rfl rfl rfl (by repeat first | exact .head | apply SetAt.tail) (Nat.le_of_ble_eq_true rfl) rfl) rfl ?_)
  rintro _ _ ⟨rfl, rfl⟩
  refine ⟨.nil, ?_⟩
  refine D_then (.cons (k := 0) rfl (.cons (k := 5) rfl .nil)) ?_
  refine V_seq (V_region rfl ?_)
  refine L_go rfl (X_p (p_move rfl rfl) ?_)
  refine L_go rfl (X_p (p_cmp rfl rfl rfl (fun _ => errV_guard aF aL (fallT_e _ _) _) (fun w => errV_neq aF aL (fallT_e _ _) w)) ?_)
  refine L_then (.cons (k := 0) rfl (.cons (k := 5) rfl (.cons (k := 20) rfl .nil))) ?_
  refine V_cond rfl ?_ ?_
  · intro c1; try simp only [td] at c1
    refine V_region rfl ?_
    refine L_go rfl (X_p (p_fieldo fo56_3 rfl rfl) ?_)
    refine L_go rfl (X_wr (w_store (cs' := [_, _, _, _, _, _, _, _, _, _, _, _, _, _, _, _, _, _, _, _, _]) sz3 rfl rfl rfl rfl rfl (by repeat first | exact .head | apply SetAt.tail) (Nat.le_of_ble_eq_true rfl) rfl) ?_)
    rintro _ _ ⟨rfl, rfl⟩
    refine L_then (.cons (k := 5) rfl .nil) ?_
    refine V_seq (V_region rfl ?_)
    refine L_go rfl (X_p (p_move rfl rfl) ?_)
    refine L_go rfl (X_p (p_cmp rfl rfl rfl (fun _ => errV_guard aF aL (fallT_e _ _) _) (fun w => errV_neq aF aL (fallT_e _ _) w)) ?_)
    refine L_go rfl (X_p (p_assign rfl rfl) ?_)
    refine L_then (.cons (k := 2) rfl .nil) ?_
    refine V_ret ?_
    refine Leave.nil (.tmp rfl .nil) ?_
    rw [if_pos c1]
    exact ⟨_, (by (try dsimp only); repeat (first | exact HSub.nil _ | refine HSub.take (by repeat first | exact Take.head | apply Take.tail) ?_ | exact HSub.refl _ | refine HSub.drop ?_ | refine HSub.app ?_)), rfl, rfl⟩
  · intro c1; try simp only [td] at c1
    refine V_skip (then_n ?_)
    refine V_seq (V_region rfl ?_)
    refine L_go rfl (X_p (p_move rfl rfl) ?_)
    refine L_go rfl (X_p (p_cmp rfl rfl rfl (fun _ => errV_guard aF aL (fallT_e _ _) _) (fun w => errV_neq aF aL (fallT_e _ _) w)) ?_)
    refine L_go rfl (X_p (p_assign rfl rfl) ?_)
    refine L_then (.cons (k := 2) rfl .nil) ?_
    refine V_ret ?_
    refine Leave.nil (.tmp rfl .nil) ?_
    rw [if_neg (by omega)]
    exact ⟨_, (by (try dsimp only); repeat (first | exact HSub.nil _ | refine HSub.take (by repeat first | exact Take.head | apply Take.tail) ?_ | exact HSub.refl _ | refine HSub.drop ?_ | refine HSub.app ?_)), rfl, rfl⟩
set_option maxHeartbeats 4000000 in
theorem dlook3_c (p : De.Plan) (lv : Value) (hgp : GoodP p) (t : Task) (tv qv : Value) (hG : GoodT t) (now : Int) (hn : 0 ≤ now ∧ now ≤ 100000) (B : Box) (x y a : Span) (why line : Int) (b1 b2 b3 b4 : Nat) (w0 : World) (hp : PlanR w0 (PlanV p lv) p) (ht : TaskR w0 (.agg #[.int .i64 t.frm, .int .i64 t.speed, .int .i64 t.accel, tv, qv]) t) (hx : offS x = false) (hy : offS y = false) (w : World) (hg0 : Vc.Good w0 [] ([(b4, .cells #[.int .i64 (B).at_, .int .i64 (B).x.lo, .int .i64 (B).x.hi, .int .i64 (B).y.lo, .int .i64 (B).y.hi, .int .i64 (B).z.lo, .int .i64 (B).z.hi, .int .i64 (B).vx.lo, .int .i64 (B).vx.hi, .int .i64 (B).vy.lo, .int .i64 (B).vy.hi, .int .i64 (B).vz.lo, .int .i64 (B).vz.hi, .int .i64 (x).lo, .int .i64 (x).hi, .int .i64 (y).lo, .int .i64 (y).hi, .int .i64 (a).lo, .int .i64 (a).hi, .int .i64 (why), .int .i64 (line)] 56), (b3, .cells #[.int .i64 now] 3), (b2, t.obj tv qv 54), (b1, .cells #[lv, .int .i64 p.grav.lo, .int .i64 p.grav.hi, .int .i64 p.wait, .int .i64 p.blind] 26)]) w) : FnC Tryd.prog 66 [.pointer (some ⟨b1, 0, none⟩), .pointer (some ⟨b4, 0, none⟩)] w fun v w' => ∃ Hc, Vc.Good w0 [] Hc w' ∧ (v = .bool (decide (0 ≤ (overI p x y))) ∧ Hc = [(b4, .cells #[.int .i64 (B).at_, .int .i64 (B).x.lo, .int .i64 (B).x.hi, .int .i64 (B).y.lo, .int .i64 (B).y.hi, .int .i64 (B).z.lo, .int .i64 (B).z.hi, .int .i64 (B).vx.lo, .int .i64 (B).vx.hi, .int .i64 (B).vy.lo, .int .i64 (B).vy.hi, .int .i64 (B).vz.lo, .int .i64 (B).vz.hi, .int .i64 (x).lo, .int .i64 (x).hi, .int .i64 (y).lo, .int .i64 (y).hi, .int .i64 (a).lo, .int .i64 (a).hi, .int .i64 (if 0 ≤ (overI p x y) then 1 else why), .int .i64 (if 0 ≤ (overI p x y) then (overI p x y) else line)] 56), (b3, .cells #[.int .i64 now] 3), (b2, t.obj tv qv 54), (b1, .cells #[lv, .int .i64 p.grav.lo, .int .i64 p.grav.hi, .int .i64 p.wait, .int .i64 p.blind] 26)]) := by
  have hln := hgp.nums.1
  obtain ⟨lv0, e0, hls⟩ := hp.ex
  injection e0 with e0; injection e0 with e0; injection e0 with e0; subst e0
  obtain ⟨la, lc, rfl, hlc, hle⟩ := hls.ex
  simp only [List.length_map] at hp hlc hg0 ⊢
  refine fn_over (M := []) (H0 := [(b4, .cells #[.int .i64 (B).at_, .int .i64 (B).x.lo, .int .i64 (B).x.hi, .int .i64 (B).y.lo, .int .i64 (B).y.hi, .int .i64 (B).z.lo, .int .i64 (B).z.hi, .int .i64 (B).vx.lo, .int .i64 (B).vx.hi, .int .i64 (B).vy.lo, .int .i64 (B).vy.hi, .int .i64 (B).vz.lo, .int .i64 (B).vz.hi, .int .i64 (x).lo, .int .i64 (x).hi, .int .i64 (y).lo, .int .i64 (y).hi, .int .i64 (a).lo, .int .i64 (a).hi, .int .i64 (why), .int .i64 (line)] 56), (b3, .cells #[.int .i64 now] 3), (b2, t.obj tv qv 54), (b1, .cells #[(.slice la p.lines.length lc), .int .i64 p.grav.lo, .int .i64 p.grav.hi, .int .i64 p.wait, .int .i64 p.blind] 26)]) Tryd.func66 rfl (by kernel_rfl) Tryd.ntmps66 Tryd.results66 rfl hg0 ?_
  refine V_seq (V_region rfl ?_)
  refine L_go rfl (X_p (p_assign rfl rfl) ?_)
  refine L_then (.cons (k := 0) rfl (.cons (k := 1) rfl .nil)) ?_
  refine V_seq ?_
  refine V_seq (V_region rfl ?_)
  refine L_go rfl (X_p (p_fieldo fo26_0 rfl rfl) ?_)
  refine L_go rfl (X_rd (r_load ag22 rfl rfl (by repeat first | exact mH | apply mT) rfl) ?_)
  refine L_go rfl (X_p (p_len isl22 rfl rfl) ?_)
  refine L_go rfl (X_p (p_move rfl rfl) ?_)
  refine L_then (.cons (k := 1) rfl (.cons (k := 8) rfl (.cons (k := 9) rfl (.cons (k := 10) rfl .nil)))) ?_
  refine V_block ?_
  refine V_loop0 (γ := Int) (.cons (k := 1) rfl (.cons (k := 8) rfl (.cons (k := 9) rfl .nil))) (fun k => [(10, .int .i64 k)]) (fun k => 0 ≤ k ∧ k ≤ p.lines.length ∧ ∀ j : Nat, (j : Int) < k → mostL (p.ln j) x y ≤ (p.ln j).line) (fun k => (p.lines.length - k).toNat) (0) (.cons rfl (.nil _)) (⟨by omega, by omega, fun j hj => by omega⟩) ?_
  rintro k hi
  obtain ⟨hk0, hk1, hkp⟩ := hi
  refine V_seq (V_region rfl ?_)
  refine L_go rfl (X_p (p_lss rfl rfl rfl) ?_)
  refine L_then (.cons (k := 1) rfl (.cons (k := 8) rfl (.cons (k := 9) rfl (.cons (k := 10) rfl (.cons (k := 11) rfl .nil))))) ?_
  refine V_seq ?_
  refine V_cond rfl ?_ ?_
  · intro c1; try simp only [td] at c1
    obtain ⟨tb, rfl, hc⟩ := hle k.toNat _ (getD_cells (d := lnZ) (by omega))
    refine V_skip (then_n ?_)
    refine V_seq ?_
    refine V_block ?_
    refine V_seq (V_region rfl ?_)
    refine L_go rfl (X_p (p_move rfl rfl) ?_)
    refine L_go rfl (X_p (p_idx es22 rfl rfl rfl (by omega) (by omega)) ?_)
    refine L_go rfl (X_rd (r_loadBA ag60 sz60 rfl rfl hc rfl List.not_mem_nil) ?_)
    refine L_go rfl (X_wr (w_alloc zr60 rfl) ?_)
    rintro _ _ ⟨b1, hb1, rfl, rfl⟩
    refine L_go rfl (X_p (p_assign rfl rfl) ?_)
    refine L_go rfl (X_wr (w_store (cs' := [_, _, _, _]) sz60 rfl rfl rfl rfl rfl (by repeat first | exact .head | apply SetAt.tail) (Nat.le_of_ble_eq_true rfl) rfl) ?_)
    rintro _ _ ⟨rfl, rfl⟩
    refine L_then (.cons (k := 1) rfl (.cons (k := 3) rfl (.cons (k := 4) rfl (.cons (k := 8) rfl (.cons (k := 9) rfl (.cons (k := 10) rfl .nil)))))) ?_
    refine V_seq (V_region rfl ?_)
    refine L_go rfl (X_rd (r_loadA (vs := [_, _, _, _]) ag60 sz60 rfl rfl (by repeat first | exact mH | apply mT) rfl) ?_)
    refine L_go rfl (X_p (p_fieldo fo56_1 rfl rfl) ?_)
    refine L_go rfl (X_rd (r_loadA (vs := [_, _, _, _]) ag36 sz36 rfl rfl (by repeat first | exact mH | apply mT) rfl) ?_)
    refine L_go rfl (X_wr (w_callP rfl rfl rfl (fun w hg => dmeas_c (p.ln k.toNat) x y (hgp.ln_at (by omega)) hx hy w)) ?_)
    rintro _ _ ⟨rfl, rfl⟩
    refine L_go rfl (X_p (p_move rfl rfl) ?_)
    refine L_go rfl (X_p (p_ext rfl rfl rfl) ?_)
    refine L_go rfl (X_p (p_ext rfl rfl rfl) ?_)
    refine L_go rfl (X_p (p_assign rfl rfl) ?_)
    refine L_go rfl (X_p (p_assign rfl rfl) ?_)
    refine L_then (.cons (k := 1) rfl (.cons (k := 3) rfl (.cons (k := 4) rfl (.cons (k := 6) rfl (.cons (k := 8) rfl (.cons (k := 9) rfl (.cons (k := 10) rfl .nil))))))) ?_
    refine V_seq (V_region rfl ?_)
    refine L_go rfl (X_p (p_move rfl rfl) ?_)
    refine L_go rfl (X_p (p_fieldo fo60_3 rfl rfl) ?_)
    refine L_go rfl (X_rd (r_load ag3 rfl rfl (by repeat first | exact mH | apply mT) rfl) ?_)
    refine L_go rfl (X_p (p_gtr rfl rfl rfl) ?_)
    refine L_then (.cons (k := 1) rfl (.cons (k := 3) rfl (.cons (k := 8) rfl (.cons (k := 9) rfl (.cons (k := 10) rfl (.cons (k := 25) rfl .nil)))))) ?_
    refine V_cond rfl ?_ ?_
    · intro c2; try simp only [td] at c2
      have ho : (p.ln k.toNat).line < mostL (p.ln k.toNat) x y := c2
      refine V_seq (V_region rfl ?_)
      refine L_go rfl (X_p (p_move rfl rfl) ?_)
      refine L_go rfl (X_p (p_fieldo fo56_3 rfl rfl) ?_)
      refine L_go rfl (X_wr (w_store (cs' := [_, _, _, _, _, _, _, _, _, _, _, _, _, _, _, _, _, _, _, _, _]) sz3 rfl rfl rfl rfl rfl (by repeat first | exact .head | apply SetAt.tail) (Nat.le_of_ble_eq_true rfl) rfl) ?_)
      rintro _ _ ⟨rfl, rfl⟩
      refine L_go rfl (X_p (p_fieldo fo56_4 rfl rfl) ?_)
      refine L_go rfl (X_wr (w_store (cs' := [_, _, _, _, _, _, _, _, _, _, _, _, _, _, _, _, _, _, _, _, _]) sz3 rfl rfl rfl rfl rfl (by repeat first | exact .head | apply SetAt.tail) (Nat.le_of_ble_eq_true rfl) rfl) ?_)
      rintro _ _ ⟨rfl, rfl⟩
      refine L_then .nil ?_
      refine V_seq (V_region rfl ?_)
      refine L_go rfl (X_p (p_assign rfl rfl) ?_)
      refine L_then (.cons (k := 2) rfl .nil) ?_
      refine V_ret (blk_r (then_r (then_r (blk_r (then_r ?_)))))
      refine Leave.nil (.tmp rfl .nil) ?_
      have e := over_hit hk0 (by omega) hkp ho
      rw [e, if_pos hk0, if_pos hk0, decide_eq_true hk0]
      exact ⟨_, (by (try dsimp only); repeat (first | exact HSub.nil _ | refine HSub.take (by repeat first | exact Take.head | apply Take.tail) ?_ | exact HSub.refl _ | refine HSub.drop ?_ | refine HSub.app ?_)), rfl, rfl⟩
    · intro c2; try simp only [td] at c2
      have ho : mostL (p.ln k.toNat) x y ≤ (p.lines.getD k.toNat lnZ).line := by omega
      refine V_skip (blk_n (then_n ?_))
      refine V_region rfl ?_
      first | refine L_go rfl (X_p (p_add' rfl rfl rfl (by unfold InI; omega)) ?_) | refine L_go rfl (X_p (p_add rfl rfl rfl) ?_)
      refine L_go rfl (X_p (p_move rfl rfl) ?_)
      refine L_keep (.cons (k := 1) rfl (.cons (k := 8) rfl (.cons (k := 9) rfl (.cons (k := 10) rfl .nil)))) (then_n ?_)
      refine ⟨k + 1, ?_, ?_, (.cons rfl (.cons rfl (.cons rfl (.cons rfl (.nil _))))), (by repeat (first | exact List.Sublist.refl _ | apply List.Sublist.cons_cons | apply List.Sublist.cons | apply List.sublist_append_of_sublist_right)), rfl⟩
      · refine ⟨by omega, by omega, fun j hj => ?_⟩; by_cases e : (j : Int) < k
        · exact hkp j e
        · have ej : j = k.toNat := by omega
          rw [ej]; exact ho
      · omega
  · intro c1; try simp only [td] at c1
    refine V_exit (then_e (then_e (blk_e rfl (then_n ?_))))
    refine V_seq (V_region rfl ?_)
    refine L_go rfl (X_p (p_assign rfl rfl) ?_)
    refine L_then (.cons (k := 2) rfl .nil) ?_
    refine V_ret ?_
    refine Leave.nil (.tmp rfl .nil) ?_
    have e := over_no (p := p) (x := x) (y := y) (fun j hj => hkp j (by omega))
    rw [e, if_neg (by decide), if_neg (by decide)]
    exact ⟨_, (by (try dsimp only); repeat (first | exact HSub.nil _ | refine HSub.take (by repeat first | exact Take.head | apply Take.tail) ?_ | exact HSub.refl _ | refine HSub.drop ?_ | refine HSub.app ?_)), rfl, rfl⟩
set_option maxHeartbeats 3000000 in
theorem dlook_c (now : Int) (hn : 0 ≤ now ∧ now ≤ 100000) (p : De.Plan) (pv : Value) (hgp : GoodP p) (aF aL : Addr) (w : World) (hE : ErrR w 0 1 188 aF aL)  (hp : PlanR w pv p) (t : Task) (tv qv : Value) (ht : TaskR w (.agg #[.int .i64 t.frm, .int .i64 t.speed, .int .i64 t.accel, tv, qv]) t) (hG : GoodT t) : FnP Tryd.prog 39 [pv, .agg #[.int .i64 t.frm, .int .i64 t.speed, .int .i64 t.accel, tv, qv], .int .i64 now] w (.agg (De.Look.cells (lookT p t now)).toArray) := by
  have hP := hp
  obtain ⟨lv, rfl, hls⟩ := hp.ex
  have hlen := hp.len
  have hT := ht
  refine fn_pure Tryd.func39 rfl (by kernel_rfl) Tryd.ntmps39 Tryd.results39 rfl ?_
  refine V_seq (V_region rfl ?_)
  refine L_go rfl (X_wr (w_box rfl rfl) ?_)
  rintro _ _ ⟨b1, hb1, rfl, rfl⟩
  refine L_go rfl (X_wr (w_box rfl rfl) ?_)
  rintro _ _ ⟨b2, hb2, rfl, rfl⟩
  refine L_go rfl (X_wr (w_box rfl rfl) ?_)
  rintro _ _ ⟨b3, hb3, rfl, rfl⟩
  refine L_go rfl (X_wr (w_alloc zr56 rfl) ?_)
  rintro _ _ ⟨b4, hb4, rfl, rfl⟩
  refine L_then (.cons (k := 3) rfl (.cons (k := 4) rfl (.cons (k := 5) rfl (.cons (k := 6) rfl .nil)))) ?_
  refine V_scope ?_
  refine V_seq (V_region rfl ?_)
  refine L_go rfl (X_p (p_fieldo fo56_4 rfl rfl) ?_)
  refine L_go rfl (X_wr (w_store (cs' := [_, _, _, _, _, _, _, _, _, _, _, _, _, _, _, _, _, _, _, _, _]) sz3 rfl rfl rfl rfl rfl (by repeat first | exact .head | apply SetAt.tail) (Nat.le_of_ble_eq_true rfl) rfl) ?_)
  rintro _ _ ⟨rfl, rfl⟩
  refine L_then (.cons (k := 3) rfl (.cons (k := 4) rfl (.cons (k := 5) rfl (.cons (k := 6) rfl .nil)))) ?_
  refine V_seq (V_region rfl ?_)
  refine L_go rfl (X_p (p_func rfl rfl rfl) ?_)
  refine L_go rfl (X_p (p_assign rfl rfl) ?_)
  refine L_then (.cons (k := 3) rfl (.cons (k := 6) rfl (.cons (k := 7) rfl .nil))) ?_
  refine V_seq (V_region rfl ?_)
  refine L_go rfl (X_p (p_func rfl rfl rfl) ?_)
  refine L_go rfl (X_p (p_assign rfl rfl) ?_)
  refine L_then (.cons (k := 3) rfl (.cons (k := 6) rfl (.cons (k := 7) rfl (.cons (k := 8) rfl .nil)))) ?_
  refine V_seq (V_region rfl ?_)
  refine L_go rfl (X_p (p_func rfl rfl rfl) ?_)
  refine L_go rfl (X_p (p_assign rfl rfl) ?_)
  refine L_then (.cons (k := 6) rfl (.cons (k := 7) rfl (.cons (k := 8) rfl (.cons (k := 9) rfl .nil)))) ?_
  refine V_seq ?_
  refine V_label (then_n ?_)
  refine V_seq ?_
  refine V_seq (V_region rfl ?_)
  refine L_go rfl (X_p (p_move rfl rfl) ?_)
  refine L_go rfl (X_p (p_move rfl rfl) ?_)
  refine L_go rfl (X_p (p_move rfl rfl) ?_)
  refine L_go rfl (X_p (p_buildA (r := [_, _, _]) ar137 zr137 rfl rfl rfl) ?_)
  refine L_go rfl (X_p (p_move rfl rfl) ?_)
  refine L_then (.cons (k := 6) rfl (.cons (k := 19) rfl (.cons (k := 20) rfl .nil))) ?_
  refine V_block ?_
  refine V_loopU ?_
  refine LU_step ?_
  refine V_seq (V_region rfl ?_)
  refine L_go rfl (X_p (p_lss rfl rfl rfl) ?_)
  refine L_then (.cons (k := 6) rfl (.cons (k := 19) rfl (.cons (k := 20) rfl (.cons (k := 21) rfl .nil)))) ?_
  refine V_seq ?_
  refine V_cond_t rfl rfl ?_
  refine V_skip (then_n ?_)
  refine V_seq ?_
  refine V_block ?_
  refine V_seq (V_region rfl ?_)
  refine L_go rfl (X_p (p_at un137 ag30 sz30 rfl rfl rfl (by omega) (by omega) rfl) ?_)
  refine L_go rfl (X_p (p_assign rfl rfl) ?_)
  refine L_then (.cons (k := 6) rfl (.cons (k := 11) rfl (.cons (k := 19) rfl (.cons (k := 20) rfl .nil)))) ?_
  refine V_seq (V_region rfl ?_)
  refine L_go rfl (X_p (p_move rfl rfl) ?_)
  refine L_go rfl (X_wr (wr_call rfl rfl rfl (fun w hg => by exact dlook1_c p _ hgp t _ _ hG now hn boxZ spZ spZ spZ 0 (-1) b1 b2 b3 b4 _ hP hT w hg)) ?_)
  rintro _ _ ⟨rfl, rfl⟩
  generalize hB : lookB (usedQ p t now) = B1
  generalize hW : (if (usedQ p t now).2.2 = true then (0 : Int) else 2) = W1
  refine L_then (.cons (k := 6) rfl (.cons (k := 19) rfl (.cons (k := 20) rfl (.cons (k := 24) rfl .nil)))) ?_
  refine V_cond rfl ?_ ?_
  · intro c1; try simp only [td] at c1
    have hu := usedQ_f c1
    refine V_exit (blk_o rfl (then_e (then_e (blk_e rfl (then_n ?_)))))
    refine V_seq (V_region rfl ?_)
    refine L_go rfl (X_rd (r_loadA (vs := [_, _, _, _, _, _, _, _, _, _, _, _, _, _, _, _, _, _, _, _, _]) ag56 sz56 rfl rfl (by repeat first | exact mH | apply mT) rfl) ?_)
    refine L_go rfl (X_wr (w_storeAll (cs' := [_, _, _, _, _, _, _, _, _, _, _, _, _, _, _, _, _, _, _, _, _]) sz56 rfl rfl rfl rfl rfl rfl (by repeat first | exact .head | apply SetAt.tail) rfl) ?_)
    rintro _ _ ⟨rfl, rfl⟩
    refine L_then (.cons (k := 6) rfl .nil) ?_
    refine V_ret (sc_r ?_)
    refine Leave.nil (.cellA (us := [_, _, _, _, _, _, _, _, _, _, _, _, _, _, _, _, _, _, _, _, _]) rfl ag56 sz56 (by repeat first | exact mH | apply mT) rfl .nil) ?_
    have e1 : lookT p t now = ⟨boxZ, spZ, spZ, spZ, 2, -1⟩ := by unfold lookT; rw [hu]
    have e2 : B1 = boxZ := by rw [← hB]; exact if_neg (by rw [c1]; decide)
    have e3 : W1 = 2 := by rw [← hW]; exact if_neg (by rw [c1]; decide)
    rw [e1, e2, e3]; rfl
  · intro c1; try simp only [td] at c1
    have hu := usedQ_t c1
    have hlb : B1 = (usedQ p t now).1 := by rw [← hB]; exact if_pos c1
    have hw1 : W1 = 0 := by rw [← hW]; exact if_pos c1
    have hbb : FallB 0 B1 := by rw [hlb]; exact fallB_0 (used_ok (usedT_is hu))
    refine V_skip (blk_n (then_n ?_))
    refine V_region rfl ?_
    first | refine L_go rfl (X_p (p_add' rfl rfl rfl (by unfold InI; omega)) ?_) | refine L_go rfl (X_p (p_add rfl rfl rfl) ?_)
    refine L_go rfl (X_p (p_move rfl rfl) ?_)
    refine L_keep (.cons (k := 6) rfl (.cons (k := 19) rfl (.cons (k := 20) rfl .nil))) (then_n ?_)
    refine LU_step ?_
    refine V_seq (V_region rfl ?_)
    refine L_go rfl (X_p (p_lss rfl rfl rfl) ?_)
    refine L_then (.cons (k := 6) rfl (.cons (k := 19) rfl (.cons (k := 20) rfl (.cons (k := 21) rfl .nil)))) ?_
    refine V_seq ?_
    refine V_cond_t rfl rfl ?_
    refine V_skip (then_n ?_)
    refine V_seq ?_
    refine V_block ?_
    refine V_seq (V_region rfl ?_)
    refine L_go rfl (X_p (p_at un137 ag30 sz30 rfl rfl rfl (by omega) (by omega) rfl) ?_)
    refine L_go rfl (X_p (p_assign rfl rfl) ?_)
    refine L_then (.cons (k := 6) rfl (.cons (k := 11) rfl (.cons (k := 19) rfl (.cons (k := 20) rfl .nil)))) ?_
    refine V_seq (V_region rfl ?_)
    refine L_go rfl (X_p (p_move rfl rfl) ?_)
    refine L_go rfl (X_wr (wr_call rfl rfl rfl (fun w hg => by exact dlook2_c p _ hgp t _ _ hG now hn B1 spZ spZ spZ W1 (-1) b1 b2 b3 b4 _ hP hT hbb aF aL hE w hg)) ?_)
    rintro _ _ ⟨rfl, rfl⟩
    generalize hF : fallT p.grav B1 = F1
    generalize hW2 : (if F1.e ≠ 0 then (3 : Int) else W1) = W2
    refine L_then (.cons (k := 6) rfl (.cons (k := 19) rfl (.cons (k := 20) rfl (.cons (k := 24) rfl .nil)))) ?_
    refine V_cond rfl ?_ ?_
    · intro c2; try simp only [td] at c2
      have he := c2
      refine V_exit (blk_o rfl (then_e (then_e (blk_e rfl (then_n ?_)))))
      refine V_seq (V_region rfl ?_)
      refine L_go rfl (X_rd (r_loadA (vs := [_, _, _, _, _, _, _, _, _, _, _, _, _, _, _, _, _, _, _, _, _]) ag56 sz56 rfl rfl (by repeat first | exact mH | apply mT) rfl) ?_)
      refine L_go rfl (X_wr (w_storeAll (cs' := [_, _, _, _, _, _, _, _, _, _, _, _, _, _, _, _, _, _, _, _, _]) sz56 rfl rfl rfl rfl rfl rfl (by repeat first | exact .head | apply SetAt.tail) rfl) ?_)
      rintro _ _ ⟨rfl, rfl⟩
      refine L_then (.cons (k := 6) rfl .nil) ?_
      refine V_ret (sc_r ?_)
      refine Leave.nil (.cellA (us := [_, _, _, _, _, _, _, _, _, _, _, _, _, _, _, _, _, _, _, _, _]) rfl ag56 sz56 (by repeat first | exact mH | apply mT) rfl .nil) ?_
      obtain ⟨hx, hy, ha⟩ := fallT_bad (g := p.grav) (b := B1) (by rw [hF]; exact he)
      rw [hF] at hx hy ha
      have e3 : W2 = 3 := by rw [← hW2]; exact if_pos he
      rw [lookT_of hu, ← hlb, hF, lookF, if_pos he, hx, hy, ha, e3]; rfl
    · intro c2; try simp only [td] at c2
      have he := c2
      have harea := area_fall (g := p.grav) (b := B1) (by rw [hF]; exact he)
      rw [hF] at harea
      refine V_skip (blk_n (then_n ?_))
      refine V_region rfl ?_
      first | refine L_go rfl (X_p (p_add' rfl rfl rfl (by unfold InI; omega)) ?_) | refine L_go rfl (X_p (p_add rfl rfl rfl) ?_)
      refine L_go rfl (X_p (p_move rfl rfl) ?_)
      refine L_keep (.cons (k := 6) rfl (.cons (k := 19) rfl (.cons (k := 20) rfl .nil))) (then_n ?_)
      refine LU_step ?_
      refine V_seq (V_region rfl ?_)
      refine L_go rfl (X_p (p_lss rfl rfl rfl) ?_)
      refine L_then (.cons (k := 6) rfl (.cons (k := 19) rfl (.cons (k := 20) rfl (.cons (k := 21) rfl .nil)))) ?_
      refine V_seq ?_
      refine V_cond_t rfl rfl ?_
      refine V_skip (then_n ?_)
      refine V_seq ?_
      refine V_block ?_
      refine V_seq (V_region rfl ?_)
      refine L_go rfl (X_p (p_at un137 ag30 sz30 rfl rfl rfl (by omega) (by omega) rfl) ?_)
      refine L_go rfl (X_p (p_assign rfl rfl) ?_)
      refine L_then (.cons (k := 6) rfl (.cons (k := 11) rfl (.cons (k := 19) rfl (.cons (k := 20) rfl .nil)))) ?_
      refine V_seq (V_region rfl ?_)
      refine L_go rfl (X_p (p_move rfl rfl) ?_)
      refine L_go rfl (X_wr (wr_call rfl rfl rfl (fun w hg => by exact dlook3_c p _ hgp t _ _ hG now hn B1 F1.x F1.y F1.at_ W2 (-1) b1 b2 b3 b4 _ hP hT harea.1 harea.2 w hg)) ?_)
      rintro _ _ ⟨rfl, rfl⟩
      generalize hO : overI p F1.x F1.y = O1
      generalize hW3 : (if 0 ≤ O1 then (1 : Int) else W2) = W3
      generalize hL3 : (if 0 ≤ O1 then O1 else (-1 : Int)) = L3
      refine L_then (.cons (k := 6) rfl (.cons (k := 19) rfl (.cons (k := 20) rfl (.cons (k := 24) rfl .nil)))) ?_
      refine V_cond rfl ?_ ?_
      · intro c3; try simp only [td] at c3
        refine V_exit (blk_o rfl (then_e (then_e (blk_e rfl (then_n ?_)))))
        refine V_seq (V_region rfl ?_)
        refine L_go rfl (X_rd (r_loadA (vs := [_, _, _, _, _, _, _, _, _, _, _, _, _, _, _, _, _, _, _, _, _]) ag56 sz56 rfl rfl (by repeat first | exact mH | apply mT) rfl) ?_)
        refine L_go rfl (X_wr (w_storeAll (cs' := [_, _, _, _, _, _, _, _, _, _, _, _, _, _, _, _, _, _, _, _, _]) sz56 rfl rfl rfl rfl rfl rfl (by repeat first | exact .head | apply SetAt.tail) rfl) ?_)
        rintro _ _ ⟨rfl, rfl⟩
        refine L_then (.cons (k := 6) rfl .nil) ?_
        refine V_ret (sc_r ?_)
        refine Leave.nil (.cellA (us := [_, _, _, _, _, _, _, _, _, _, _, _, _, _, _, _, _, _, _, _, _]) rfl ag56 sz56 (by repeat first | exact mH | apply mT) rfl .nil) ?_
        have e3 : W3 = 1 := by rw [← hW3]; exact if_pos c3
        have e4 : L3 = O1 := by rw [← hL3]; exact if_pos c3
        rw [lookT_of hu, ← hlb, hF, lookF, if_neg (fun h => h he), hO, if_pos c3, e3, e4]; rfl
      · intro c3; try simp only [td] at c3
        refine V_skip (blk_n (then_n ?_))
        refine V_region rfl ?_
        first | refine L_go rfl (X_p (p_add' rfl rfl rfl (by unfold InI; omega)) ?_) | refine L_go rfl (X_p (p_add rfl rfl rfl) ?_)
        refine L_go rfl (X_p (p_move rfl rfl) ?_)
        refine L_keep (.cons (k := 6) rfl (.cons (k := 19) rfl (.cons (k := 20) rfl .nil))) (then_n ?_)
        refine LU_step ?_
        refine V_seq (V_region rfl ?_)
        refine L_go rfl (X_p (p_lss rfl rfl rfl) ?_)
        refine L_then (.cons (k := 6) rfl (.cons (k := 19) rfl (.cons (k := 20) rfl (.cons (k := 21) rfl .nil)))) ?_
        refine V_seq ?_
        refine V_cond_f rfl rfl ?_
        refine V_exit (then_e (then_e (blk_e rfl (then_n ?_))))
        refine V_seq (V_region rfl ?_)
        refine L_go rfl (X_rd (r_loadA (vs := [_, _, _, _, _, _, _, _, _, _, _, _, _, _, _, _, _, _, _, _, _]) ag56 sz56 rfl rfl (by repeat first | exact mH | apply mT) rfl) ?_)
        refine L_go rfl (X_wr (w_storeAll (cs' := [_, _, _, _, _, _, _, _, _, _, _, _, _, _, _, _, _, _, _, _, _]) sz56 rfl rfl rfl rfl rfl rfl (by repeat first | exact .head | apply SetAt.tail) rfl) ?_)
        rintro _ _ ⟨rfl, rfl⟩
        refine L_then (.cons (k := 6) rfl .nil) ?_
        refine V_ret (sc_r ?_)
        refine Leave.nil (.cellA (us := [_, _, _, _, _, _, _, _, _, _, _, _, _, _, _, _, _, _, _, _, _]) rfl ag56 sz56 (by repeat first | exact mH | apply mT) rfl .nil) ?_
        have ho : O1 = -1 := by rw [← hO]; exact over_neg (by rw [hO]; omega)
        have e3 : W3 = 0 := by rw [← hW3, if_neg (by omega), ← hW2, if_neg (fun h => h he), hw1]
        have e4 : L3 = -1 := by rw [← hL3, if_neg (by omega)]
        rw [lookT_of hu, ← hlb, hF, lookF, if_neg (fun h => h he), hO, if_neg (by omega), e3, e4, ho]; rfl

end Go.Proofs.YtlcccpeelombbaaDoor

/- Layer 5: gaps. -/
set_option linter.all false
namespace Go.Tk
open Go.Vc

def gapC (p : Int × Int) : List Value := [.int .i64 p.1, .int .i64 p.2]
def gapV (l : List (Int × Int)) : List Value := (l.map gapC).flatten
def okGap (t : Task) (u now wd : Int) : Bool := match spareT t u now with
  | some b => decide (wideB b ≤ wd)
  | none => false
def gapStep (t : Task) (now wd : Int) (l : List (Int × Int)) (u : Int) : List (Int × Int) :=
  if okGap t u now wd = true then l
  else if 0 < l.length ∧ (l.getD (l.length - 1) (0, 0)).2 = u then l.set (l.length - 1) ((l.getD (l.length - 1) (0, 0)).1, u + 1)
  else l ++ [(u, u + 1)]
def gapsN (t : Task) (now wd frm : Int) : Nat → List (Int × Int)
  | 0 => []
  | n + 1 => gapStep t now wd (gapsN t now wd frm n) (frm + n)
def gapsE (t : Task) (frm til now wd : Int) : Int :=
  if askedT t [frm, til, now] ≠ 0 then askedT t [frm, til, now] else if til < frm ∨ wd < 0 then 7 else if 200 < til - frm then 3 else 0
def gapsL (t : Task) (frm til now wd : Int) : List (Int × Int) := if gapsE t frm til now wd ≠ 0 then [] else gapsN t now wd frm (til - frm).toNat
def GapsOut (ty : Nat) (xs : List (Int × Int)) (f : Value → Value) (v : Value) (A G : Heap) : Prop := ∃ sv, A = [] ∧ v = f sv ∧ Grow ty 2 sv xs.length (gapV xs) G

section
variable {t : Task} {now wd frm u : Int}
theorem gapsN_succ (h : frm ≤ u) : gapsN t now wd frm (u + 1 - frm).toNat = gapStep t now wd (gapsN t now wd frm (u - frm).toNat) u := by
  have e : (u + 1 - frm).toNat = (u - frm).toNat + 1 := by omega
  have e2 : frm + ((u - frm).toNat : Int) = u := by omega
  rw [e, gapsN, e2]
theorem step_ok {l : List (Int × Int)} {o : Option Box} (ho : spareT t u now = o) (h : o.isSome = true) (h2 : wideB (o.getD boxZ) ≤ wd) : gapStep t now wd l u = l := by
  have : okGap t u now wd = true := by rw [okGap, ho, isSome_get h]; exact decide_eq_true h2
  rw [gapStep, if_pos this]
theorem step_bad {o : Option Box} (ho : spareT t u now = o) (h : o.isSome = false ∨ ¬ wideB (o.getD boxZ) ≤ wd) : okGap t u now wd = false := by
  rw [okGap, ho]
  cases o with
  | none => rfl
  | some b =>
    rcases h with h | h
    · cases h
    · exact decide_eq_false h
theorem step_new {l : List (Int × Int)} (h : okGap t u now wd = false) (h2 : ¬ (0 < l.length ∧ (l.getD (l.length - 1) (0, 0)).2 = u)) : gapStep t now wd l u = l ++ [(u, u + 1)] := by
  rw [gapStep, if_neg (by rw [h]; decide), if_neg h2]
theorem step_more {l : List (Int × Int)} (h : okGap t u now wd = false) (h2 : 0 < l.length) (h3 : (l.getD (l.length - 1) (0, 0)).2 = u) : gapStep t now wd l u = l.set (l.length - 1) ((l.getD (l.length - 1) (0, 0)).1, u + 1) := by
  rw [gapStep, if_neg (by rw [h]; decide), if_pos ⟨h2, h3⟩]
theorem gapsN_len : ∀ n, (gapsN t now wd frm n).length ≤ n := by
  intro n
  induction n with
  | zero => exact Nat.le_refl _
  | succ n ih =>
    rw [gapsN, gapStep]
    split
    · omega
    · split
      · rw [List.length_set]; omega
      · rw [List.length_append]; simp; omega
theorem gapV_len (l : List (Int × Int)) : (gapV l).length = l.length * 2 := by
  rw [gapV, flat_len (size := 2) _ (by intro e he; obtain ⟨x, _, rfl⟩ := List.mem_map.1 he; rfl), List.length_map]
theorem gapV_app (l : List (Int × Int)) (a b : Int) : gapV (l ++ [(a, b)]) = gapV l ++ [.int .i64 a, .int .i64 b] := by
  simp [gapV, gapC]
theorem gapV_at {l : List (Int × Int)} {i : Nat} (h : i < l.length) : (gapV l)[0 + i * 2 + 1]? = some (.int .i64 (l.getD i (0, 0)).2) ∧ (gapV l)[0 + i * 2]? = some (.int .i64 (l.getD i (0, 0)).1) := by
  have h1 : (l.map gapC)[i]? = some (gapC (l.getD i (0, 0))) := getD_cells h
  have hs : ∀ e ∈ l.map gapC, e.length = 2 := by intro e he; obtain ⟨x, _, rfl⟩ := List.mem_map.1 he; rfl
  have f1 := flat_at (l.map gapC) i 1 _ hs h1 (by decide)
  have f0 := flat_at (l.map gapC) i 0 _ hs h1 (by decide)
  rw [Nat.zero_add]
  exact ⟨f1, f0⟩
theorem gapV_set : ∀ (l : List (Int × Int)) (i : Nat) (b : Int), i < l.length → gapV (l.set i ((l.getD i (0, 0)).1, b)) = (gapV l).set (0 + i * 2 + 1) (.int .i64 b) := by
  intro l
  induction l with
  | nil => intro i b h; simp at h
  | cons p l ih =>
    intro i b h
    cases i with
    | zero => rfl
    | succ i =>
      have h' : i < l.length := by simpa using h
      have := ih i b h'
      have e : 0 + (i + 1) * 2 + 1 = (0 + i * 2 + 1) + 1 + 1 := by omega
      rw [e]
      show gapC p ++ gapV (l.set i ((l.getD i (0, 0)).1, b)) = _
      rw [this]; rfl
theorem grow_set {el n c : Nat} {b : Nat} {cur : Array Value} {xs : List Value} {i : Nat} {v : Value} (h1 : n ≤ c) (h2 : c ≤ maxLen) (h3 : cur.size = c * 2) (h4 : cur.toList.take (n * 2) = xs) (h5 : xs.length = n * 2) :
    Grow el 2 (.slice (some ⟨b, 0, none⟩) n c) n (xs.set i v) [(b, .cells (cur.toList.set i v).toArray el)] :=
  .row h1 h2 (by simp [h3]) (by rw [← h4, List.take_set]) (by rw [List.length_set, h5])
theorem gapsE_1 {til : Int} (h : askedT t [frm, til, now] ≠ 0) : gapsE t frm til now wd = askedT t [frm, til, now] := if_pos h
theorem gapsE_2 {til : Int} (h : askedT t [frm, til, now] = 0) (h1 : til < frm ∨ wd < 0) : gapsE t frm til now wd = 7 := by rw [gapsE, if_neg (fun a => a h), if_pos h1]
theorem gapsE_3 {til : Int} (h : askedT t [frm, til, now] = 0) (h1 : ¬ (til < frm ∨ wd < 0)) (h2 : 200 < til - frm) : gapsE t frm til now wd = 3 := by rw [gapsE, if_neg (fun a => a h), if_neg h1, if_pos h2]
theorem gapsE_4 {til : Int} (h : askedT t [frm, til, now] = 0) (h1 : ¬ (til < frm ∨ wd < 0)) (h2 : ¬ 200 < til - frm) : gapsE t frm til now wd = 0 := by rw [gapsE, if_neg (fun a => a h), if_neg h1, if_neg h2]
theorem gapsL_bad {til : Int} (h : gapsE t frm til now wd ≠ 0) : gapsL t frm til now wd = [] := if_pos h
theorem gapsL_ok {til : Int} (h : gapsE t frm til now wd = 0) : gapsL t frm til now wd = gapsN t now wd frm (til - frm).toNat := if_neg (fun a => a h)
theorem gapsE_ok {til : Int} (h : gapsE t frm til now wd = 0) : askedT t [frm, til, now] = 0 ∧ (0 ≤ frm ∧ frm ≤ 100000) ∧ (0 ≤ til ∧ til ≤ 100000) ∧ (0 ≤ now ∧ now ≤ 100000) ∧ frm ≤ til ∧ 0 ≤ wd ∧ til - frm ≤ 200 := by
  unfold gapsE at h
  split at h
  · rename_i hn; exact absurd h hn
  · rename_i hn
    have h0 : askedT t [frm, til, now] = 0 := Decidable.of_not_not hn
    split at h
    · cases h
    · rename_i h1
      split at h
      · cases h
      · have hz := (asked_zero h0).2
        exact ⟨h0, hz _ (.head _), hz _ (.tail _ (.head _)), hz _ (.tail _ (.tail _ (.head _))), by omega, by omega, by omega⟩
end

theorem gapsL_len (t : Task) (frm til now wd : Int) : (gapsL t frm til now wd).length ≤ 200 := by
  by_cases h : gapsE t frm til now wd = 0
  · rw [gapsL_ok h]
    have := gapsN_len (t := t) (now := now) (wd := wd) (frm := frm) (til - frm).toNat
    have := (gapsE_ok h).2.2.2.2.2.2
    omega
  · rw [gapsL_bad h]; exact Nat.zero_le _
theorem asked3_bad {t : Task} {frm til now : Int} (h : askedT t [frm, now] = 0) (ho : oP til 0 100000 = true) : askedT t [frm, til, now] = 7 := by
  have hz : (checkT t).2.2 = 0 := by
    by_cases hz : (checkT t).2.2 = 0
    · exact hz
    · rw [asked_bad hz] at h; exact absurd h hz
  exact asked_any hz (by simp [ho])
theorem asked3_ok {t : Task} {frm til now : Int} (h : askedT t [frm, now] = 0) (ho : oP til 0 100000 = false) : askedT t [frm, til, now] = 0 := by
  have hz : (checkT t).2.2 = 0 := by
    by_cases hz : (checkT t).2.2 = 0
    · exact hz
    · rw [asked_bad hz] at h; exact absurd h hz
  have ha := asked_any0 h
  simp only [List.any_cons, List.any_nil, Bool.or_false, Bool.or_eq_false_iff] at ha
  exact asked_ok hz (by simp [ho, ha.1, ha.2])
theorem asked3_err {t : Task} {frm til now : Int} (h : ¬ askedT t [frm, now] = 0) : askedT t [frm, til, now] = askedT t [frm, now] := by
  by_cases hz : (checkT t).2.2 = 0
  · obtain ⟨h1, h2⟩ := asked_ne hz h
    rw [h2]
    refine asked_any hz ?_
    simp only [List.any_cons, List.any_nil, Bool.or_false, Bool.or_eq_true] at h1 ⊢
    rcases h1 with h1 | h1
    · exact .inl h1
    · exact .inr (.inr h1)
  · rw [asked_bad hz, asked_bad hz]

theorem foldl_bnd {B : Int} : ∀ (l : List (Int × Box)) (acc : Option Box), (∀ b, acc = some b → BoxB B b) → (∀ p ∈ l, BoxB B p.2) → ∀ b, l.foldl (fun acc p => addB acc p.2) acc = some b → BoxB B b := by
  intro l
  induction l with
  | nil => intro acc h _ b hb; exact h b hb
  | cons p l ih =>
    intro acc h hp b hb
    refine ih (addB acc p.2) ?_ (fun q hq => hp q (.tail _ hq)) b hb
    intro c hc
    have h2 := hp p (.head _)
    cases acc with
    | none => cases hc; exact h2
    | some a =>
      cases hc
      have h1 := h a rfl
      obtain ⟨a1, a2, a3⟩ := h1
      obtain ⟨b1, b2, b3⟩ := h2
      unfold SpanB at a1 a2 a3 b1 b2 b3
      refine ⟨?_, ?_, ?_⟩ <;> (simp only [SpanB, joinB, joinS]; omega)
theorem spareT_bnd {t : Task} (hG : GoodT t) {u now : Int} (hu : u ≤ 100000) {b : Box} (h : spareT t u now = some b) : BoxB 2000000000 b := by
  unfold spareT at h
  split at h
  · exact boxT_bnd hG byT_bnd hu h
  · exact foldl_bnd _ none (fun _ h => by cases h) (fun p hp => boxT_bnd hG byT_bnd hu (others_mem hp).1) b h
theorem BoxB.big {b : Box} (h : BoxB 2000000000 b) : BoxB 1000000000000000 b := by
  obtain ⟨a1, a2, a3⟩ := h
  unfold SpanB at a1 a2 a3
  refine ⟨?_, ?_, ?_⟩ <;> (unfold SpanB; omega)

end Go.Tk

/- Layer 6: decisions; spare boxes are sound; plots that are not known (plain). -/
set_option linter.all false
namespace Go.De
open Go.Vc Go.Tk

/-! ### decisions -/
section
variable {p : Plan} {t : Task} {b now : Int}
theorem decN_hit (h : now ≤ b) (hw : (lookT p t now).why ≠ 0) : decN p t (b - now + 1).toNat now = ⟨now, (lookT p t now).why, (lookT p t now).line⟩ := by
  rw [show (b - now + 1).toNat = (b - now).toNat + 1 by omega, decN, if_pos hw]
theorem decN_go (h : now ≤ b) (hw : (lookT p t now).why = 0) : decN p t (b - now + 1).toNat now = decN p t (b - (now + 1) + 1).toNat (now + 1) := by
  rw [show (b - now + 1).toNat = (b - now).toNat + 1 by omega, decN, if_neg (by omega), show b - now = b - (now + 1) + 1 by omega]
theorem decN_end (h : b < now) : decN p t (b - now + 1).toNat now = ⟨-1, 0, -1⟩ := by
  rw [show (b - now + 1).toNat = 0 by omega]; rfl

theorem decP_1 {a : Int} (h : ticksE p t [a, b] ≠ 0) : decP p t a b = (⟨0, 0, 0⟩, ticksE p t [a, b]) := by
  have e : decE p t a b = ticksE p t [a, b] := by unfold decE; rw [if_pos h]
  unfold decP; rw [e, if_pos h]
theorem decP_2 {a : Int} (h : ticksE p t [a, b] = 0) (hl : b < a) : decP p t a b = (⟨0, 0, 0⟩, 7) := by
  have e : decE p t a b = 7 := by unfold decE; rw [if_neg (by omega), if_pos hl]
  unfold decP; rw [e, if_pos (by decide)]
theorem decP_3 {a : Int} (h : ticksE p t [a, b] = 0) (hl : a ≤ b) (hm : 200 ≤ b - a) : decP p t a b = (⟨0, 0, 0⟩, 3) := by
  have e : decE p t a b = 3 := by unfold decE; rw [if_neg (by omega), if_neg (by omega), if_pos hm]
  unfold decP; rw [e, if_pos (by decide)]
theorem decP_4 {a : Int} (h : ticksE p t [a, b] = 0) (hl : a ≤ b) (hm : b - a < 200) : decP p t a b = (decN p t (b - a + 1).toNat a, 0) := by
  have e : decE p t a b = 0 := by unfold decE; rw [if_neg (by omega), if_neg (by omega), if_neg (by omega)]
  unfold decP; rw [e, if_neg (by decide)]
theorem lookP_1 (h : ticksE p t [now] ≠ 0) : lookP p t now = (lookZ, ticksE p t [now]) := if_pos h
theorem lookP_2 (h : ticksE p t [now] = 0) : lookP p t now = (lookT p t now, 0) := if_neg (by omega)
end

theorem tailP_alt (p : Plan) : tailP p = (oP p.grav.lo 1 200 || (oP p.grav.hi p.grav.lo 200 || (oP p.wait 0 100 || oP p.blind 0 300))) := by
  rw [Bool.eq_iff_iff]; simp only [tailP, Bool.or_eq_true, oP_true]; omega

/-! ### spare boxes are sound -/
theorem boxT_ok {t : Task} (hG : GoodT t) {ps : List Int} (hp : ∀ i ∈ ps, 0 ≤ i ∧ i < t.plots.length) {u : Int} (hu : 0 ≤ u ∧ u ≤ 100000) {b : Box} (h : boxT t ps u = some b) : BoxOk b := by
  have hsp := hG.nums
  have sub : ∀ (k : Int) (n : Nat) (s : Span), fastN t ps k u n = some s → -t.speed ≤ s.lo ∧ s.hi ≤ t.speed := by
    intro k n
    induction n with
    | zero => intro s h; simp only [fastN, Option.some.injEq] at h; subst h; unfold room0; dsimp only; omega
    | succ n ih =>
      intro s h
      unfold fastN at h
      cases h0 : fastN t ps k u n with
      | none => rw [h0] at h; cases h
      | some r =>
        have hr := ih r h0
        rw [h0, Option.bind_some] at h
        have one : ∀ r' , fastB t ps k u ((n : Int) + 1) r = some r' → -t.speed ≤ r'.lo ∧ r'.hi ≤ t.speed := by
          intro r' h'
          unfold fastB at h'
          split at h'
          · split at h'
            · cases h'
            · cases h'; unfold goneS; dsimp only; omega
          · cases h'; exact hr
        cases h1 : fastB t ps k u ((n : Int) + 1) r with
        | none => rw [h1] at h; cases h
        | some r' =>
          have hr' := one r' h1
          rw [h1, Option.bind_some] at h
          unfold fastF at h
          split at h
          · split at h
            · cases h
            · cases h; unfold goneS; dsimp only; omega
          · cases h; exact hr'
  have fast : ∀ (k : Int) (a : Span × Span), partT t ps k u = some a → okS 2000000000 a.1 ∧ okS 1000000 a.2 := by
    intro k a h
    have hne := partT_ne h
    have hpl := partT_place h
    have hb := placeT_bnd hG hp hu.2 k
    rw [← hpl] at hb
    unfold SpanB at hb
    refine ⟨by unfold okS; omega, ?_⟩
    unfold partT at h
    cases hf : fastT t ps k u with
    | none => rw [hf] at h; cases h
    | some v =>
      rw [hf] at h
      simp only [Option.bind_some] at h
      split at h
      · cases h
      · cases h
        dsimp only at hne ⊢
        unfold fastT at hf
        split at hf
        · cases hf; unfold okS; dsimp only; omega
        · cases h8 : fastN t ps k u 8 with
          | none => rw [h8] at hf; cases hf
          | some r =>
            rw [h8] at hf
            simp only [Option.bind_some] at hf
            split at hf
            · cases hf
            · cases hf
              have := sub k 8 _ h8
              unfold okS; omega
  obtain ⟨p0, p1, p2, e0, e1, e2, rfl⟩ := boxT_parts h
  have f0 := fast 0 p0 e0; have f1 := fast 1 p1 e1; have f2 := fast 2 p2 e2
  exact ⟨hu, f0.1, f1.1, f2.1, f0.2, f1.2, f2.2⟩
theorem foldl_ok {u : Int} : ∀ (l : List (Int × Box)) (acc : Option Box), (∀ b, acc = some b → BoxOk b) → (∀ p ∈ l, BoxOk p.2) → ∀ b, l.foldl (fun acc p => addB acc p.2) acc = some b → BoxOk b := by
  intro l
  induction l with
  | nil => intro acc h _ b hb; exact h b hb
  | cons p l ih =>
    intro acc h hp b hb
    refine ih (addB acc p.2) ?_ (fun q hq => hp q (.tail _ hq)) b hb
    intro c hc
    have h2 := hp p (.head _)
    cases acc with
    | none => cases hc; exact h2
    | some a =>
      cases hc
      have h1 := h a rfl
      unfold BoxOk okS at h1 h2 ⊢
      simp only [joinB, joinS]
      omega
theorem spareT_ok {t : Task} (hG : GoodT t) {u now : Int} (hu : 0 ≤ u ∧ u ≤ 100000) {b : Box} (h : spareT t u now = some b) : BoxOk b := by
  unfold spareT at h
  split at h
  · exact boxT_ok hG byT_bnd hu h
  · exact foldl_ok (u := u) _ none (fun _ h => by cases h) (fun p hp => boxT_ok hG byT_bnd hu (others_mem hp).1) b h
theorem spareP_box {t : Task} {u now : Int} (h : (spareP t u now).2 = 0) : BoxOk (spareP t u now).1 := by
  obtain ⟨hG, hu⟩ := spare_box h
  exact spareT_ok hG hu (spareP_ok h).2
theorem BoxOk.int {b : Box} (h : BoxOk b) : BoxI b := by
  unfold BoxOk okS at h
  unfold BoxI InI; omega

/-! ### plots that are not known -/
/-- two tasks that are seen alike up to a tick -/
structure Alike (t t' : Task) (now : Int) : Prop where
  good : GoodT t
  good' : GoodT t'
  frm : t'.frm = t.frm
  speed : t'.speed = t.speed
  accel : t'.accel = t.accel
  same : ∀ u n, n ≤ now → SameW t t' u n
section
variable {t t' : Task} {now : Int}
theorem Alike.ahead (h : Alike t t' now) (b : Box) (n : Int) : aheadP t' b n = aheadP t b n := by
  have e1 : ∀ p v, stepV t' v = stepV t v ∧ stepP p v = stepP p v := fun p v => ⟨by unfold stepV; rw [h.accel, h.speed], rfl⟩
  have e2 : ∀ k p v, aheadN t' k p v = aheadN t k p v := by
    intro k
    induction k with
    | zero => intro p v; rfl
    | succ k ih => intro p v; unfold aheadN; rw [ih, (e1 p v).1]
  have e3 : ∀ p v, aheadS t' n p v = aheadS t n p v := fun p v => by unfold aheadS; rw [e2, h.speed]
  unfold aheadP aheadE
  rw [asked_both h.good h.good']
  have e4 : aheadB t' b n = aheadB t b n := by unfold aheadB; simp only [e3]
  rw [e4]
theorem Alike.used (h : Alike t t' now) (p : Plan) {n : Int} (hn : n ≤ now) : ∀ (k : Nat) (f : Int), usedN p t' n k f = usedN p t n k f := by
  intro k
  induction k with
  | zero => intro f; rfl
  | succ k ih => intro f; unfold usedN; rw [ih, (h.same f n hn).spare, h.ahead]
theorem Alike.look (h : Alike t t' now) (p : Plan) {n : Int} (hn : n ≤ now) : lookT p t' n = lookT p t n := by
  unfold lookT usedT; rw [h.used p hn]
theorem Alike.ticks (h : Alike t t' now) (p : Plan) (l : List Int) : ticksE p t' l = ticksE p t l := by
  have e : (checkT t').2.2 = (checkT t).2.2 := by
    rw [checkT_ok h.good.toHead h.good.tr h.good.pl, checkT_ok h.good'.toHead h.good'.tr h.good'.pl]
  unfold ticksE taskE; rw [e]
theorem Alike.dec (h : Alike t t' now) (p : Plan) {a : Int} : decP p t' a now = decP p t a now := by
  have e : ∀ (k : Nat) (n : Int), n + k ≤ now + 1 → decN p t' k n = decN p t k n := by
    intro k
    induction k with
    | zero => intro n _; rfl
    | succ k ih => intro n hn; unfold decN; rw [ih (n + 1) (by omega), h.look p (by omega)]
  have ht := h.ticks p [a, now]
  by_cases h0 : ticksE p t [a, now] = 0
  · by_cases hl : now < a
    · rw [decP_2 h0 hl, decP_2 (by rw [ht]; exact h0) hl]
    · by_cases hm : 200 ≤ now - a
      · rw [decP_3 h0 (by omega) hm, decP_3 (by rw [ht]; exact h0) (by omega) hm]
      · rw [decP_4 h0 (by omega) (by omega), decP_4 (by rw [ht]; exact h0) (by omega) (by omega), e _ _ (by omega)]
  · rw [decP_1 h0, decP_1 (by rw [ht]; exact h0), ht]
theorem knownB_le {now n : Int} (hn : n ≤ now) {j : Nat} (h : knownB t n j = true) : knownB t now j = true := by
  unfold knownB at *
  simp only [decide_eq_true_eq] at *; omega
theorem said_alike {a b c : Int} (hG : GoodT t) (ha : -2000000000 ≤ a ∧ a ≤ 2000000000) (h' : SayT t t' now) : Alike t t' now :=
  ⟨hG, h'.good hG, h'.frm, h'.speed, h'.accel, fun u n hn => SayT.same (now := n) ⟨h'.frm, h'.speed, h'.accel, h'.trackers, h'.len, fun j hj => let ⟨x1, x2, x3, x4⟩ := h'.pl j hj; ⟨x1, x2, fun hk => x3 (knownB_le hn hk), x4⟩⟩ hG u⟩
theorem less_alike (hG : GoodT t) : Alike t (lessT t now) now := by
  have h := lessT_sub (t := t) now
  refine ⟨hG, h.good hG, rfl, rfl, rfl, fun u n hn => ⟨asked_both hG (h.good hG) _, rfl, fun want => (box_same (h.binds hG n want) (h.rbinds hG n want fun i hi hk => ?_) u).symm⟩⟩
  have hm : (i : Int) ∈ knownN t now t.plots.length := by
    rw [knownN, List.mem_map]
    exact ⟨i, List.mem_filter.2 ⟨List.mem_range.2 hi, knownB_le hn hk⟩, rfl⟩
  obtain ⟨j, hj, e⟩ := List.getElem_of_mem hm
  refine ⟨j, by show j < (lessL _ _ _).length; rw [lessL, List.length_map]; exact hj, ?_⟩
  rw [List.getD_eq_getElem?_getD, List.getElem?_eq_getElem hj]
  show (_ : Int).toNat = i
  rw [e]; exact Int.toNat_natCast i
end

/-- with a greater last it is the same; the last tick may be that at which it is ended -/
theorem dec_last {p : Plan} {t : Task} {a b : Int} (h : (decP p t a b).2 = 0) : decP p t a (if 0 ≤ (decP p t a b).1.tick then (decP p t a b).1.tick else b) = decP p t a b ∧
    (0 ≤ (if 0 ≤ (decP p t a b).1.tick then (decP p t a b).1.tick else b) ∧ (if 0 ≤ (decP p t a b).1.tick then (decP p t a b).1.tick else b) ≤ 100000) ∧ GoodP p ∧ GoodT t := by
  have hz : decE p t a b = 0 := by
    unfold decP at h
    split at h
    · contradiction
    · rename_i h1; omega
  have ht : ticksE p t [a, b] = 0 := by
    unfold decE at hz
    split at hz
    · contradiction
    · rename_i h1; omega
  obtain ⟨hp, hG, hn⟩ := ticks_zero ht
  have ha := hn a (.head _)
  have hb := hn b (.tail _ (.head _))
  have hab : a ≤ b ∧ b - a < 200 := by
    unfold decE at hz
    rw [if_neg (by omega)] at hz
    split at hz
    · cases hz
    · split at hz
      · cases hz
      · omega
  have e : decP p t a b = (decN p t (b - a + 1).toNat a, 0) := by unfold decP; rw [if_neg (by omega)]
  have key : ∀ (k : Nat) (n : Int), (decN p t k n).tick = -1 ∨ ∃ j : Nat, j < k ∧ (decN p t k n).tick = n + j ∧ decN p t (j + 1) n = decN p t k n := by
    intro k
    induction k with
    | zero => intro n; exact .inl rfl
    | succ k ih =>
      intro n
      by_cases hw : (lookT p t n).why ≠ 0
      · right
        refine ⟨0, by omega, ?_, ?_⟩
        · rw [decN, if_pos hw]; simp
        · rw [decN, if_pos hw, decN, if_pos hw]
      · have e1 : ∀ m, decN p t (m + 1) n = decN p t m (n + 1) := fun m => by rw [decN, if_neg hw]
        rw [e1]
        rcases ih (n + 1) with h | ⟨j, h1, h2, h3⟩
        · exact .inl h
        · right
          refine ⟨j + 1, by omega, by rw [h2]; push_cast; omega, ?_⟩
          rw [e1, h3]
  rcases key (b - a + 1).toNat a with h0 | ⟨j, h1, h2, h3⟩
  · rw [e]
    dsimp only
    rw [h0, if_neg (by decide)]
    exact ⟨e, hb, hp, hG⟩
  · rw [e]
    dsimp only
    rw [h2, if_pos (by omega)]
    refine ⟨?_, by omega, hp, hG⟩
    have hz2 : decE p t a (a + j) = 0 := by
      unfold decE
      have hc := ticks_check ht
      have : ticksE p t [a, a + j] = 0 := ticks_good hp hc (by
        intro x hx
        simp only [List.mem_cons, List.not_mem_nil, or_false] at hx
        rcases hx with rfl | rfl <;> omega)
      rw [if_neg (by omega), if_neg (by omega), if_neg (by omega)]
    unfold decP
    rw [if_neg (by omega), show (a + (j : Int) - a + 1).toNat = j + 1 by omega, h3]

/-! ### the reference's falls -/
theorem offZ {b : Box} (h : offB b = false) (hz : (0 : Int) < b.z.lo) : 0 < b.z.hi := by have := offB_z h; omega

/-! ### one that stays -/
theorem stay_law {p : Plan} {x y : Span} {a b : Int} (hk : ∀ l ∈ p.lines, measI l a b ≤ l.keep) (hn : ∀ l ∈ p.lines, mostL l x y - measI l a b ≤ l.line - l.keep) : overI p x y < 0 := by
  rw [over_none]
  intro l hl
  have := hk l hl
  have := hn l hl
  omega
end Go.De

/- YtlcccpeelombbaaDoor: looks and decisions. -/
set_option linter.all false
namespace Go.Proofs.YtlcccpeelombbaaDoor
open Go.Vc Go.Tk Go.De
set_option maxRecDepth 100000
theorem dLook_c (now : Int) (p : De.Plan) (pv : Value) (aF aL : Addr) (w : World) (hE : ErrR w 0 1 188 aF aL)  (hp : PlanR w pv p) (t : Task) (tv qv : Value) (ht : TaskR w (.agg #[.int .i64 t.frm, .int .i64 t.speed, .int .i64 t.accel, tv, qv]) t) : FnP Tryd.prog 19 [pv, .agg #[.int .i64 t.frm, .int .i64 t.speed, .int .i64 t.accel, tv, qv], .int .i64 now] w (.tuple #[.agg (De.Look.cells (lookP p t now).1).toArray, .int .i64 (lookP p t now).2]) := by
  have hP := hp
  obtain ⟨lv, rfl, hls⟩ := hp.ex
  have hlen := hp.len
  have hT := ht
  refine fn_pure Tryd.func19 rfl (by kernel_rfl) Tryd.ntmps19 Tryd.results19 rfl ?_
  refine V_seq (V_region rfl ?_)
  refine L_go rfl (X_wr (w_box rfl rfl) ?_)
  rintro _ _ ⟨b1, hb1, rfl, rfl⟩
  refine L_go rfl (X_wr (w_box rfl rfl) ?_)
  rintro _ _ ⟨b2, hb2, rfl, rfl⟩
  refine L_go rfl (X_wr (w_alloc zr56 rfl) ?_)
  rintro _ _ ⟨b3, hb3, rfl, rfl⟩
  refine L_go rfl (X_p (p_assign rfl rfl) ?_)
  refine L_then (.cons (k := 2) rfl (.cons (k := 3) rfl (.cons (k := 4) rfl (.cons (k := 6) rfl .nil)))) ?_
  refine V_seq ?_
  refine V_seq (V_region rfl ?_)
  refine L_go rfl (X_rd (r_loadA (vs := [_, _, _, _, _]) ag26 sz26 rfl rfl (by repeat first | exact mH | apply mT) rfl) ?_)
  refine L_go rfl (X_rd (r_loadA (vs := [_, _, _, _, _]) ag54 sz54 rfl rfl (by repeat first | exact mH | apply mT) rfl) ?_)
  refine L_go rfl (X_p (p_move rfl rfl) ?_)
  refine L_go rfl (X_wr (w_slice (r := [_]) un66 sz3 zr3 rfl (by decide) rfl (by decide) rfl rfl) ?_)
  rintro _ _ ⟨b4, hb4, rfl, rfl⟩
  refine L_go rfl (X_wr (w_callP rfl rfl rfl (fun w hg => dat_c p _ w (hP.good hg) t _ _ (hT.good hg) [now] _ (own_ints (l := [now]) (hg.own (b4, _) (by repeat first | exact mH | apply mT)) rfl (by decide)) (by simp))) ?_)
  rintro _ _ ⟨rfl, rfl⟩
  refine L_go rfl (X_p (p_assign rfl rfl) ?_)
  refine L_then (.cons (k := 2) rfl (.cons (k := 3) rfl (.cons (k := 4) rfl (.cons (k := 6) rfl (.cons (k := 8) rfl .nil))))) ?_
  refine V_seq (V_region rfl ?_)
  refine L_go rfl (X_p (p_move rfl rfl) ?_)
  refine L_go rfl (X_p (p_neq rfl rfl rfl) ?_)
  refine L_then (.cons (k := 2) rfl (.cons (k := 3) rfl (.cons (k := 4) rfl (.cons (k := 6) rfl (.cons (k := 8) rfl (.cons (k := 15) rfl .nil)))))) ?_
  refine V_cond rfl ?_ ?_
  · intro c1; try simp only [td] at c1
    have hl := lookP_1 c1
    refine V_seq (V_region rfl ?_)
    refine L_go rfl (X_p (p_build (r := [_, _, _, _, _, _, _, _, _, _, _, _, _, _, _, _, _, _, _, _, _]) pl56 zr56 rfl rfl rfl) ?_)
    refine L_go rfl (X_p (p_move rfl rfl) ?_)
    refine L_go rfl (X_wr (w_storeAll (cs' := [_, _, _, _, _, _, _, _, _, _, _, _, _, _, _, _, _, _, _, _, _]) sz56 rfl rfl rfl rfl rfl rfl (by repeat first | exact .head | apply SetAt.tail) rfl) ?_)
    rintro _ _ ⟨rfl, rfl⟩
    refine L_go rfl (X_p (p_assign rfl rfl) ?_)
    refine L_then (.cons (k := 6) rfl (.cons (k := 7) rfl .nil)) ?_
    refine V_ret (then_r ?_)
    refine Leave.nil (.cellA (us := [_, _, _, _, _, _, _, _, _, _, _, _, _, _, _, _, _, _, _, _, _]) rfl ag56 sz56 (by repeat first | exact mH | apply mT) rfl (.tmp rfl .nil)) ?_
    rw [hl]; rfl
  · intro c1; try simp only [td] at c1
    have hz := ticks_zero c1
    have hl := lookP_2 c1
    refine V_skip (then_n ?_)
    refine V_seq (V_region rfl ?_)
    refine L_go rfl (X_rd (r_loadA (vs := [_, _, _, _, _]) ag26 sz26 rfl rfl (by repeat first | exact mH | apply mT) rfl) ?_)
    refine L_go rfl (X_rd (r_loadA (vs := [_, _, _, _, _]) ag54 sz54 rfl rfl (by repeat first | exact mH | apply mT) rfl) ?_)
    refine L_go rfl (X_p (p_move rfl rfl) ?_)
    refine L_go rfl (X_wr (w_callP rfl rfl rfl (fun w hg => dlook_c now (hz.2.2 _ (.head _)) p _ hz.1 aF aL w (hE.good hg) (hP.good hg) t _ _ (hT.good hg) hz.2.1)) ?_)
    rintro _ _ ⟨rfl, rfl⟩
    refine L_go rfl (X_wr (w_storeAll (cs' := [_, _, _, _, _, _, _, _, _, _, _, _, _, _, _, _, _, _, _, _, _]) sz56 rfl rfl rfl rfl rfl rfl (by repeat first | exact .head | apply SetAt.tail) rfl) ?_)
    rintro _ _ ⟨rfl, rfl⟩
    refine L_go rfl (X_p (p_assign rfl rfl) ?_)
    refine L_then (.cons (k := 6) rfl (.cons (k := 7) rfl .nil)) ?_
    refine V_ret ?_
    refine Leave.nil (.cellA (us := [_, _, _, _, _, _, _, _, _, _, _, _, _, _, _, _, _, _, _, _, _]) rfl ag56 sz56 (by repeat first | exact mH | apply mT) rfl (.tmp rfl .nil)) ?_
    rw [hl]; rfl
set_option maxHeartbeats 4000000 in
theorem dDecide_c (a b : Int) (p : De.Plan) (pv : Value) (aF aL : Addr) (w : World) (hE : ErrR w 0 1 188 aF aL)  (hp : PlanR w pv p) (t : Task) (tv qv : Value) (ht : TaskR w (.agg #[.int .i64 t.frm, .int .i64 t.speed, .int .i64 t.accel, tv, qv]) t) : FnP Tryd.prog 20 [pv, .agg #[.int .i64 t.frm, .int .i64 t.speed, .int .i64 t.accel, tv, qv], .int .i64 a, .int .i64 b] w (.tuple #[.agg #[.int .i64 (decP p t a b).1.tick, .int .i64 (decP p t a b).1.why, .int .i64 (decP p t a b).1.line], .int .i64 (decP p t a b).2]) := by
  have hP := hp
  obtain ⟨lv, rfl, hls⟩ := hp.ex
  have hlen := hp.len
  have hT := ht
  refine fn_pure Tryd.func20 rfl (by kernel_rfl) Tryd.ntmps20 Tryd.results20 rfl ?_
  refine V_seq (V_region rfl ?_)
  refine L_go rfl (X_wr (w_box rfl rfl) ?_)
  rintro _ _ ⟨b1, hb1, rfl, rfl⟩
  refine L_go rfl (X_wr (w_box rfl rfl) ?_)
  rintro _ _ ⟨b2, hb2, rfl, rfl⟩
  refine L_go rfl (X_wr (w_alloc zr63 rfl) ?_)
  rintro _ _ ⟨b3, hb3, rfl, rfl⟩
  refine L_go rfl (X_p (p_assign rfl rfl) ?_)
  refine L_then (.cons (k := 2) rfl (.cons (k := 3) rfl (.cons (k := 4) rfl (.cons (k := 5) rfl (.cons (k := 8) rfl .nil))))) ?_
  refine V_seq (V_region rfl ?_)
  refine L_go rfl (X_rd (r_loadA (vs := [_, _, _, _, _]) ag26 sz26 rfl rfl (by repeat first | exact mH | apply mT) rfl) ?_)
  refine L_go rfl (X_rd (r_loadA (vs := [_, _, _, _, _]) ag54 sz54 rfl rfl (by repeat first | exact mH | apply mT) rfl) ?_)
  refine L_go rfl (X_p (p_move rfl rfl) ?_)
  refine L_go rfl (X_p (p_move rfl rfl) ?_)
  refine L_go rfl (X_wr (w_slice (r := [_, _]) un66 sz3 zr3 rfl (by decide) rfl (by decide) rfl rfl) ?_)
  rintro _ _ ⟨b4, hb4, rfl, rfl⟩
  refine L_go rfl (X_wr (w_callP rfl rfl rfl (fun w hg => dat_c p _ w (hP.good hg) t _ _ (hT.good hg) [a, b] _ (own_ints (l := [a, b]) (hg.own (b4, _) (by repeat first | exact mH | apply mT)) rfl (by decide)) (by simp))) ?_)
  rintro _ _ ⟨rfl, rfl⟩
  refine L_go rfl (X_p (p_assign rfl rfl) ?_)
  refine L_then (.cons (k := 2) rfl (.cons (k := 3) rfl (.cons (k := 4) rfl (.cons (k := 5) rfl (.cons (k := 8) rfl (.cons (k := 10) rfl .nil)))))) ?_
  refine V_seq ?_
  refine V_block ?_
  refine V_seq (V_region rfl ?_)
  refine L_go rfl (X_p (p_move rfl rfl) ?_)
  refine L_go rfl (X_p (p_neq rfl rfl rfl) ?_)
  refine L_go rfl (X_p (p_assign rfl rfl) ?_)
  refine L_then (.cons (k := 2) rfl (.cons (k := 3) rfl (.cons (k := 4) rfl (.cons (k := 5) rfl (.cons (k := 8) rfl (.cons (k := 10) rfl (.cons (k := 19) rfl .nil))))))) ?_
  refine V_cond rfl ?_ ?_
  · intro c1; try simp only [td] at c1
    have hl := decP_1 c1
    refine V_seq (V_region rfl ?_)
    refine L_go rfl (X_p (p_build (r := [_, _, _]) pl63 zr63 rfl rfl rfl) ?_)
    refine L_go rfl (X_p (p_move rfl rfl) ?_)
    refine L_go rfl (X_wr (w_store (cs' := [_, _, _]) sz63 rfl rfl rfl rfl rfl (by repeat first | exact .head | apply SetAt.tail) (Nat.le_of_ble_eq_true rfl) rfl) ?_)
    rintro _ _ ⟨rfl, rfl⟩
    refine L_go rfl (X_p (p_assign rfl rfl) ?_)
    refine L_then (.cons (k := 8) rfl (.cons (k := 9) rfl .nil)) ?_
    refine V_ret (blk_r (then_r ?_))
    refine Leave.nil (.cellA (us := [_, _, _]) rfl ag63 sz63 (by repeat first | exact mH | apply mT) rfl (.tmp rfl .nil)) ?_
    rw [hl]; rfl
  · intro c1; try simp only [td] at c1
    have h0 := c1
    have hz := ticks_zero c1
    have ha := hz.2.2 a (.head _)
    have hb := hz.2.2 b (.tail _ (.head _))
    refine V_seq (V_region rfl ?_)
    refine L_go rfl (X_p (p_move rfl rfl) ?_)
    refine L_go rfl (X_p (p_move rfl rfl) ?_)
    refine L_go rfl (X_p (p_gtr rfl rfl rfl) ?_)
    refine L_go rfl (X_p (p_assign rfl rfl) ?_)
    refine L_then (.cons (k := 2) rfl (.cons (k := 3) rfl (.cons (k := 4) rfl (.cons (k := 5) rfl (.cons (k := 8) rfl (.cons (k := 24) rfl .nil)))))) ?_
    refine V_cond rfl ?_ ?_
    · intro c2; try simp only [td] at c2
      have hl := decP_2 h0 c2
      refine V_seq (V_region rfl ?_)
      refine L_go rfl (X_p (p_build (r := [_, _, _]) pl63 zr63 rfl rfl rfl) ?_)
      refine L_go rfl (X_wr (w_store (cs' := [_, _, _]) sz63 rfl rfl rfl rfl rfl (by repeat first | exact .head | apply SetAt.tail) (Nat.le_of_ble_eq_true rfl) rfl) ?_)
      rintro _ _ ⟨rfl, rfl⟩
      refine L_go rfl (X_p (p_assign rfl rfl) ?_)
      refine L_then (.cons (k := 8) rfl (.cons (k := 9) rfl .nil)) ?_
      refine V_ret (blk_r (then_r ?_))
      refine Leave.nil (.cellA (us := [_, _, _]) rfl ag63 sz63 (by repeat first | exact mH | apply mT) rfl (.tmp rfl .nil)) ?_
      rw [hl]; rfl
    · intro c2; try simp only [td] at c2
      have hab := c2
      refine V_seq (V_region rfl ?_)
      refine L_go rfl (X_p (p_move rfl rfl) ?_)
      refine L_go rfl (X_p (p_move rfl rfl) ?_)
      first | refine L_go rfl (X_p (p_sub' rfl rfl rfl (by unfold InI; omega)) ?_) | refine L_go rfl (X_p (p_sub rfl rfl rfl) ?_)
      refine L_go rfl (X_p (p_geq rfl rfl rfl) ?_)
      refine L_go rfl (X_p (p_assign rfl rfl) ?_)
      refine L_then (.cons (k := 2) rfl (.cons (k := 3) rfl (.cons (k := 4) rfl (.cons (k := 5) rfl (.cons (k := 8) rfl (.cons (k := 29) rfl .nil)))))) ?_
      refine V_cond rfl ?_ ?_
      · intro c3; try simp only [td] at c3
        have hl := decP_3 h0 hab c3
        refine V_seq (V_region rfl ?_)
        refine L_go rfl (X_p (p_build (r := [_, _, _]) pl63 zr63 rfl rfl rfl) ?_)
        refine L_go rfl (X_wr (w_store (cs' := [_, _, _]) sz63 rfl rfl rfl rfl rfl (by repeat first | exact .head | apply SetAt.tail) (Nat.le_of_ble_eq_true rfl) rfl) ?_)
        rintro _ _ ⟨rfl, rfl⟩
        refine L_go rfl (X_p (p_assign rfl rfl) ?_)
        refine L_then (.cons (k := 8) rfl (.cons (k := 9) rfl .nil)) ?_
        refine V_ret (blk_r (then_r ?_))
        refine Leave.nil (.cellA (us := [_, _, _]) rfl ag63 sz63 (by repeat first | exact mH | apply mT) rfl (.tmp rfl .nil)) ?_
        rw [hl]; rfl
      · intro c3; try simp only [td] at c3
        have hl := decP_4 h0 hab c3
        refine V_skip (blk_n (then_n ?_))
        refine V_seq ?_
        refine V_seq (V_region rfl ?_)
        refine L_go rfl (X_p (p_move rfl rfl) ?_)
        refine L_go rfl (X_p (p_assign rfl rfl) ?_)
        refine L_then (.cons (k := 3) rfl (.cons (k := 4) rfl (.cons (k := 5) rfl (.cons (k := 8) rfl (.cons (k := 11) rfl .nil))))) ?_
        refine V_block ?_
        refine V_loop0 (γ := Int) (.cons (k := 3) rfl (.cons (k := 4) rfl (.cons (k := 5) rfl (.cons (k := 8) rfl .nil)))) (fun k => [(11, .int .i64 k)]) (fun k => a ≤ k ∧ k ≤ b + 1 ∧ decN p t (b - a + 1).toNat a = decN p t (b - k + 1).toNat k) (fun k => (b + 1 - k).toNat) (a) (.cons rfl (.nil _)) (⟨by omega, by omega, rfl⟩) ?_
        rintro k hi
        obtain ⟨hk0, hk1, hd⟩ := hi
        refine V_seq ?_
        refine V_seq (V_region rfl ?_)
        refine L_go rfl (X_p (p_move rfl rfl) ?_)
        refine L_go rfl (X_p (p_move rfl rfl) ?_)
        refine L_go rfl (X_p (p_leq rfl rfl rfl) ?_)
        refine L_then (.cons (k := 3) rfl (.cons (k := 4) rfl (.cons (k := 5) rfl (.cons (k := 8) rfl (.cons (k := 11) rfl (.cons (k := 38) rfl .nil)))))) ?_
        refine V_cond rfl ?_ ?_
        · intro c4; try simp only [td] at c4
          refine V_skip (then_n ?_)
          refine V_seq ?_
          refine V_block ?_
          refine V_seq (V_region rfl ?_)
          refine L_go rfl (X_rd (r_loadA (vs := [_, _, _, _, _]) ag26 sz26 rfl rfl (by repeat first | exact mH | apply mT) rfl) ?_)
          refine L_go rfl (X_rd (r_loadA (vs := [_, _, _, _, _]) ag54 sz54 rfl rfl (by repeat first | exact mH | apply mT) rfl) ?_)
          refine L_go rfl (X_p (p_move rfl rfl) ?_)
          refine L_go rfl (X_wr (w_callP rfl rfl rfl (fun w hg => dlook_c k (by omega) p _ hz.1 aF aL w (hE.good hg) (hP.good hg) t _ _ (hT.good hg) hz.2.1)) ?_)
          rintro _ _ ⟨rfl, rfl⟩
          refine L_go rfl (X_wr (w_alloc zr56 rfl) ?_)
          rintro _ _ ⟨b5, hb5, rfl, rfl⟩
          refine L_go rfl (X_wr (w_storeAll (cs' := [_, _, _, _, _, _, _, _, _, _, _, _, _, _, _, _, _, _, _, _, _]) sz56 rfl rfl rfl rfl rfl rfl (by repeat first | exact .head | apply SetAt.tail) rfl) ?_)
          rintro _ _ ⟨rfl, rfl⟩
          refine L_then (.cons (k := 3) rfl (.cons (k := 4) rfl (.cons (k := 5) rfl (.cons (k := 8) rfl (.cons (k := 11) rfl (.cons (k := 12) rfl .nil)))))) ?_
          refine V_seq (V_region rfl ?_)
          refine L_go rfl (X_p (p_fieldo fo56_3 rfl rfl) ?_)
          refine L_go rfl (X_rd (r_load ag3 rfl rfl (by repeat first | exact mH | apply mT) rfl) ?_)
          refine L_go rfl (X_p (p_neq rfl rfl rfl) ?_)
          refine L_then (.cons (k := 3) rfl (.cons (k := 4) rfl (.cons (k := 5) rfl (.cons (k := 8) rfl (.cons (k := 11) rfl (.cons (k := 12) rfl (.cons (k := 47) rfl .nil))))))) ?_
          refine V_cond rfl ?_ ?_
          · intro c5; try simp only [td] at c5
            have hw := c5
            refine V_seq (V_region rfl ?_)
            refine L_go rfl (X_p (p_move rfl rfl) ?_)
            refine L_go rfl (X_p (p_fieldo fo56_3 rfl rfl) ?_)
            refine L_go rfl (X_rd (r_load ag3 rfl rfl (by repeat first | exact mH | apply mT) rfl) ?_)
            refine L_go rfl (X_p (p_fieldo fo56_4 rfl rfl) ?_)
            refine L_go rfl (X_rd (r_load ag3 rfl rfl (by repeat first | exact mH | apply mT) rfl) ?_)
            refine L_go rfl (X_p (p_build (r := [_, _, _]) pl63 zr63 rfl rfl rfl) ?_)
            refine L_go rfl (X_wr (w_store (cs' := [_, _, _]) sz63 rfl rfl rfl rfl rfl (by repeat first | exact .head | apply SetAt.tail) (Nat.le_of_ble_eq_true rfl) rfl) ?_)
            rintro _ _ ⟨rfl, rfl⟩
            refine L_go rfl (X_p (p_assign rfl rfl) ?_)
            refine L_then (.cons (k := 8) rfl (.cons (k := 9) rfl .nil)) ?_
            refine V_ret (blk_r (then_r (then_r (blk_r (then_r ?_)))))
            refine Leave.nil (.cellA (us := [_, _, _]) rfl ag63 sz63 (by repeat first | exact mH | apply mT) rfl (.tmp rfl .nil)) ?_
            rw [hl, hd, decN_hit (by omega) hw]; rfl
          · intro c5; try simp only [td] at c5
            have hw := c5
            refine V_skip (blk_n (then_n ?_))
            refine V_region rfl ?_
            refine L_go rfl (X_p (p_move rfl rfl) ?_)
            first | refine L_go rfl (X_p (p_add' rfl rfl rfl (by unfold InI; omega)) ?_) | refine L_go rfl (X_p (p_add rfl rfl rfl) ?_)
            refine L_go rfl (X_p (p_assign rfl rfl) ?_)
            refine L_keep (.cons (k := 3) rfl (.cons (k := 4) rfl (.cons (k := 5) rfl (.cons (k := 8) rfl (.cons (k := 11) rfl .nil))))) (then_n ?_)
            refine ⟨k + 1, ?_, ?_, (.cons rfl (.cons rfl (.cons rfl (.cons rfl (.cons rfl (.nil _)))))), (by repeat (first | exact List.nil_sublist _ | exact List.Sublist.refl _ | apply List.Sublist.cons_cons | apply List.Sublist.cons | apply List.sublist_append_of_sublist_right)), rfl⟩
            · exact ⟨by omega, by omega, hd.trans (decN_go (by omega) hw)⟩
            · omega
        · intro c4; try simp only [td] at c4
          refine V_exit (then_e (then_e (blk_e rfl (then_n ?_))))
          refine V_seq (V_region rfl ?_)
          refine L_go rfl (X_p (p_build (r := [_, _, _]) pl63 zr63 rfl rfl rfl) ?_)
          refine L_go rfl (X_wr (w_store (cs' := [_, _, _]) sz63 rfl rfl rfl rfl rfl (by repeat first | exact .head | apply SetAt.tail) (Nat.le_of_ble_eq_true rfl) rfl) ?_)
          rintro _ _ ⟨rfl, rfl⟩
          refine L_go rfl (X_p (p_assign rfl rfl) ?_)
          refine L_then (.cons (k := 8) rfl (.cons (k := 9) rfl .nil)) ?_
          refine V_ret ?_
          refine Leave.nil (.cellA (us := [_, _, _]) rfl ag63 sz63 (by repeat first | exact mH | apply mT) rfl (.tmp rfl .nil)) ?_
          rw [hl, hd, decN_end (by omega)]; rfl

end Go.Proofs.YtlcccpeelombbaaDoor

/- Layer 6: the examples (plain). -/
set_option linter.all false
namespace Go.De
open Go.Vc Go.Tk

def exPl : Plan := ⟨[⟨1, 0, 100000, 200000⟩, ⟨0, -1, 50000, 80000⟩], ⟨98, 98⟩, 2, 10⟩
def exBx : Box := ⟨50, ⟨0, 10⟩, ⟨0, 0⟩, ⟨1000, 1000⟩, ⟨100, 110⟩, ⟨-5, 5⟩, ⟨0, 0⟩⟩
def exTk : Task := ⟨0, 200000, 100, [], []⟩
def exLs (b : Nat) : Value := .slice (some ⟨b, 0, none⟩) 2 2
def exPV (b : Nat) : Value := .agg #[.slice (some ⟨b, 0, none⟩) 2 2, .int .i64 98, .int .i64 98, .int .i64 2, .int .i64 10]
def exTV : Value := .agg #[.int .i64 0, .int .i64 200000, .int .i64 100, .slice none 0 0, .slice none 0 0]
def exPO (ty : Nat) : Obj := .cells ((exPl.lines.map Line.cells).flatten).toArray ty
theorem exPlR {w : World} {b ty : Nat} (h : w.heap[b]? = some (exPO ty)) : PlanR w (exPV b) exPl := by
  refine ⟨by decide, _, rfl, own_rows h rfl ?_ rfl (by decide)⟩
  intro e he; obtain ⟨x, _, rfl⟩ := List.mem_map.1 he; rfl
theorem exTkR (w : World) : TaskR w exTV exTk :=
  ⟨fun x hx => (by cases hx), by decide, by decide, _, _, rfl, SliceR.nil w _, SliceR.nil w _⟩
theorem ex_fall : fallP exPl exBx = ⟨⟨600, 670⟩, ⟨-30, 30⟩, ⟨56, 56⟩, 0⟩ := by kernel_rfl
def exLk : Look := ⟨⟨3, ⟨-600, 600⟩, ⟨-600, 600⟩, ⟨-600, 600⟩, ⟨-400, 400⟩, ⟨-400, 400⟩, ⟨-400, 400⟩⟩, ⟨-5000, 5000⟩, ⟨-5000, 5000⟩, ⟨4, 14⟩, 0, -1⟩
theorem ex_look : lookP exPl exTk 0 = (exLk, 0) := by kernel_rfl
theorem ex_side : areaE exPl ⟨1, 0⟩ ⟨0, 0⟩ = 7 := by kernel_rfl
theorem ex_sideL : sideL exPl ⟨1, 0⟩ ⟨0, 0⟩ = [] := by kernel_rfl
theorem ex_dec : decP exPl exTk 0 200 = (⟨0, 0, 0⟩, 3) := by kernel_rfl
end Go.De

/- YtlcccpeelombbaaDoor: the examples of the statements. -/
set_option linter.all false
namespace Go.Proofs.YtlcccpeelombbaaDoor
open Go.Vc Go.Tk Go.De
set_option maxRecDepth 100000
theorem lspan6_c (lo hi : Int) (w : World) : FnP Tryd.prog 17 [.int .i64 lo, .int .i64 hi] w (.agg #[.int .i64 lo, .int .i64 hi]) := by
  refine fn_pure Tryd.func17 rfl (by kernel_rfl) Tryd.ntmps17 Tryd.results17 rfl ?_
  refine V_seq (V_region rfl ?_)
  refine L_go rfl (X_wr (w_alloc zr24 rfl) ?_)
  rintro _ _ ⟨b1, hb1, rfl, rfl⟩
  refine L_then (.cons (k := 0) rfl (.cons (k := 1) rfl (.cons (k := 4) rfl .nil))) ?_
  refine V_seq (V_region rfl ?_)
  refine L_go rfl (X_p (p_move rfl rfl) ?_)
  refine L_go rfl (X_p (p_move rfl rfl) ?_)
  refine L_go rfl (X_p (p_build (r := [_, _]) pl24 zr24 rfl rfl rfl) ?_)
  refine L_go rfl (X_wr (w_store (cs' := [_, _]) sz24 rfl rfl rfl rfl rfl (by repeat first | exact .head | apply SetAt.tail) (Nat.le_of_ble_eq_true rfl) rfl) ?_)
  rintro _ _ ⟨rfl, rfl⟩
  refine L_then (.cons (k := 4) rfl .nil) ?_
  refine V_ret ?_
  refine Leave.nil (.cellA (us := [_, _]) rfl ag24 sz24 (by repeat first | exact mH | apply mT) rfl .nil) ?_
  rfl
theorem larea_c (a b c d : Int) (w : World) : FnP Tryd.prog 23 [.int .i64 a, .int .i64 b, .int .i64 c, .int .i64 d] w (.agg #[.int .i64 a, .int .i64 b, .int .i64 c, .int .i64 d]) := by
  refine fn_pure Tryd.func23 rfl (by kernel_rfl) Tryd.ntmps23 Tryd.results23 rfl ?_
  refine V_seq (V_region rfl ?_)
  refine L_go rfl (X_wr (w_alloc zr36 rfl) ?_)
  rintro _ _ ⟨b1, hb1, rfl, rfl⟩
  refine L_then (.cons (k := 0) rfl (.cons (k := 1) rfl (.cons (k := 2) rfl (.cons (k := 3) rfl (.cons (k := 8) rfl .nil))))) ?_
  refine V_seq (V_region rfl ?_)
  refine L_go rfl (X_p (p_move rfl rfl) ?_)
  refine L_go rfl (X_p (p_move rfl rfl) ?_)
  refine L_go rfl (X_wr (w_callP rfl rfl rfl (fun w hg => lspan6_c _ _ w)) ?_)
  rintro _ _ ⟨rfl, rfl⟩
  refine L_go rfl (X_p (p_move rfl rfl) ?_)
  refine L_go rfl (X_p (p_move rfl rfl) ?_)
  refine L_go rfl (X_wr (w_callP rfl rfl rfl (fun w hg => lspan6_c _ _ w)) ?_)
  rintro _ _ ⟨rfl, rfl⟩
  refine L_go rfl (X_p (p_build (r := [_, _, _, _]) pl36 zr36 rfl rfl rfl) ?_)
  refine L_go rfl (X_wr (w_store (cs' := [_, _, _, _]) sz36 rfl rfl rfl rfl rfl (by repeat first | exact .head | apply SetAt.tail) (Nat.le_of_ble_eq_true rfl) rfl) ?_)
  rintro _ _ ⟨rfl, rfl⟩
  refine L_then (.cons (k := 8) rfl .nil) ?_
  refine V_ret ?_
  refine Leave.nil (.cellA (us := [_, _, _, _]) rfl ag36 sz36 (by repeat first | exact mH | apply mT) rfl .nil) ?_
  rfl
theorem lplan_c (w : World) : FnC Tryd.prog 31 [] w fun v w' => ∃ Hc, Vc.Good w [] Hc w' ∧ ∃ b1, v = exPV b1 ∧ Hc = [(b1, exPO 60)] := by
  refine fn_new Tryd.func31 rfl (by kernel_rfl) Tryd.ntmps31 Tryd.results31 rfl ?_
  refine V_seq (V_region rfl ?_)
  refine L_go rfl (X_wr (w_alloc zr26 rfl) ?_)
  rintro _ _ ⟨b1, hb1, rfl, rfl⟩
  refine L_then (.cons (k := 0) rfl .nil) ?_
  refine V_seq (V_region rfl ?_)
  refine L_go rfl (X_p (p_build (r := [_, _, _, _]) pl60 zr60 rfl rfl rfl) ?_)
  refine L_go rfl (X_p (p_build (r := [_, _, _, _]) pl60 zr60 rfl rfl rfl) ?_)
  refine L_go rfl (X_wr (w_slice (r := [_, _, _, _, _, _, _, _]) un22 sz60 zr60 rfl (by decide) rfl (by decide) rfl rfl) ?_)
  rintro _ _ ⟨b2, hb2, rfl, rfl⟩
  refine L_go rfl (X_wr (w_callP rfl rfl rfl (fun w hg => lspan6_c _ _ w)) ?_)
  rintro _ _ ⟨rfl, rfl⟩
  refine L_go rfl (X_p (p_build (r := [_, _, _, _, _]) pl26 zr26 rfl rfl rfl) ?_)
  refine L_go rfl (X_wr (w_store (cs' := [_, _, _, _, _]) sz26 rfl rfl rfl rfl rfl (by repeat first | exact .head | apply SetAt.tail) (Nat.le_of_ble_eq_true rfl) rfl) ?_)
  rintro _ _ ⟨rfl, rfl⟩
  refine L_then (.cons (k := 0) rfl .nil) ?_
  refine V_ret ?_
  refine Leave.nil (.cellA (us := [_, _, _, _, _]) rfl ag26 sz26 (by repeat first | exact mH | apply mT) rfl .nil) ?_
  exact ⟨[(b2, _)], (by (try dsimp only); repeat (first | exact HSub.nil _ | refine HSub.take (by repeat first | exact Take.head | apply Take.tail) ?_ | exact HSub.refl _ | refine HSub.drop ?_ | refine HSub.app ?_)), b2, rfl, rfl⟩
theorem lbox_c (w : World) : FnP Tryd.prog 32 [] w (.agg (Box.cells exBx).toArray) := by
  refine fn_pure Tryd.func32 rfl (by kernel_rfl) Tryd.ntmps32 Tryd.results32 rfl ?_
  refine V_seq (V_region rfl ?_)
  refine L_go rfl (X_wr (w_alloc zr33 rfl) ?_)
  rintro _ _ ⟨b1, hb1, rfl, rfl⟩
  refine L_then (.cons (k := 0) rfl .nil) ?_
  refine V_seq (V_region rfl ?_)
  refine L_go rfl (X_wr (w_callP rfl rfl rfl (fun w hg => lspan6_c _ _ w)) ?_)
  rintro _ _ ⟨rfl, rfl⟩
  refine L_go rfl (X_wr (w_callP rfl rfl rfl (fun w hg => lspan6_c _ _ w)) ?_)
  rintro _ _ ⟨rfl, rfl⟩
  refine L_go rfl (X_wr (w_callP rfl rfl rfl (fun w hg => lspan6_c _ _ w)) ?_)
  rintro _ _ ⟨rfl, rfl⟩
  refine L_go rfl (X_wr (w_callP rfl rfl rfl (fun w hg => lspan6_c _ _ w)) ?_)
  rintro _ _ ⟨rfl, rfl⟩
  refine L_go rfl (X_p (p_build (r := [_, _, _, _, _, _, _, _, _, _, _, _, _]) pl33 zr33 rfl rfl rfl) ?_)
  refine L_go rfl (X_wr (w_store (cs' := [_, _, _, _, _, _, _, _, _, _, _, _, _]) sz33 rfl rfl rfl rfl rfl (by repeat first | exact .head | apply SetAt.tail) (Nat.le_of_ble_eq_true rfl) rfl) ?_)
  rintro _ _ ⟨rfl, rfl⟩
  refine L_then (.cons (k := 0) rfl .nil) ?_
  refine V_ret ?_
  refine Leave.nil (.cellA (us := [_, _, _, _, _, _, _, _, _, _, _, _, _]) rfl ag33 sz33 (by repeat first | exact mH | apply mT) rfl .nil) ?_
  rfl
theorem ltask_c (w : World) : FnP Tryd.prog 33 [] w exTV := by
  refine fn_pure Tryd.func33 rfl (by kernel_rfl) Tryd.ntmps33 Tryd.results33 rfl ?_
  refine V_seq (V_region rfl ?_)
  refine L_go rfl (X_wr (w_alloc zr54 rfl) ?_)
  rintro _ _ ⟨b1, hb1, rfl, rfl⟩
  refine L_then (.cons (k := 0) rfl .nil) ?_
  refine V_seq (V_region rfl ?_)
  refine L_go rfl (X_p (p_build (r := [_, _, _, _, _]) pl54 zr54 rfl rfl rfl) ?_)
  refine L_go rfl (X_wr (w_store (cs' := [_, _, _, _, _]) sz54 rfl rfl rfl rfl rfl (by repeat first | exact .head | apply SetAt.tail) (Nat.le_of_ble_eq_true rfl) rfl) ?_)
  rintro _ _ ⟨rfl, rfl⟩
  refine L_then (.cons (k := 0) rfl .nil) ?_
  refine V_ret ?_
  refine Leave.nil (.cellA (us := [_, _, _, _, _]) rfl ag54 sz54 (by repeat first | exact mH | apply mT) rfl .nil) ?_
  rfl
theorem exa_fall (w : World) (b1 : Nat) (aF aL : Addr) (hE : ErrR w 0 1 188 aF aL) (h : PlanR w (exPV b1) exPl) : FnP Tryd.prog 13 [exPV b1, .agg (Box.cells exBx).toArray] w (.tuple #[.agg #[.int .i64 600, .int .i64 670, .int .i64 (-30), .int .i64 30], .agg #[.int .i64 56, .int .i64 56], .int .i64 0]) := by
  have h1 := dFall_c exBx exPl _ aF aL w hE h
  rw [ex_fall] at h1
  exact h1
theorem exa_look (w : World) (b1 : Nat) (aF aL : Addr) (hE : ErrR w 0 1 188 aF aL) (h : PlanR w (exPV b1) exPl) : FnP Tryd.prog 19 [exPV b1, exTV, .int .i64 0] w (.tuple #[.agg (De.Look.cells exLk).toArray, .int .i64 0]) := by
  have h1 := dLook_c 0 exPl _ aF aL w hE h exTk _ _ (exTkR w)
  rw [ex_look] at h1
  exact h1
theorem exa_dec (w : World) (b1 : Nat) (aF aL : Addr) (hE : ErrR w 0 1 188 aF aL) (h : PlanR w (exPV b1) exPl) : FnP Tryd.prog 20 [exPV b1, exTV, .int .i64 0, .int .i64 200] w (.tuple #[.agg #[.int .i64 0, .int .i64 0, .int .i64 0], .int .i64 3]) := by
  have h1 := dDecide_c 0 200 exPl _ aF aL w hE h exTk _ _ (exTkR w)
  rw [ex_dec] at h1
  exact h1
theorem exa_side (w : World) (b1 : Nat) (h : PlanR w (exPV b1) exPl) : FnC Tryd.prog 24 [exPV b1, .agg #[.int .i64 1, .int .i64 0, .int .i64 0, .int .i64 0]] w fun v w' => ∃ Hc, Vc.Good w [] Hc w' ∧ ∃ A G, Hc = A ++ G ∧ ListOut 3 [] (fun sv => .tuple #[sv, .int .i64 7]) v A G := by
  have h1 := dside_c ⟨1, 0⟩ ⟨0, 0⟩ exPl _ w h
  rw [ex_side, ex_sideL] at h1
  exact h1
set_option maxHeartbeats 4000000 in
theorem dawake_c (aF aL : Addr) (w : World) (hE : ErrR w 0 1 188 aF aL) : FnP Tryd.prog 12 [] w (.bool true) := by
  refine fn_pure Tryd.func12 rfl (by kernel_rfl) Tryd.ntmps12 Tryd.results12 rfl ?_
  refine V_seq (V_region rfl ?_)
  refine L_go rfl (X_p (p_assign rfl rfl) ?_)
  refine L_then .nil ?_
  refine V_seq (V_region rfl ?_)
  refine L_go rfl (X_wr (w_callN rfl rfl rfl (fun w hg => lplan_c w)) ?_)
  rintro _ _ ⟨_, rfl, _, x1, rfl, rfl⟩
  refine L_go rfl (X_wr (w_callP rfl rfl rfl (fun w hg => lbox_c w)) ?_)
  rintro _ _ ⟨rfl, rfl⟩
  refine L_go rfl (X_wr (w_callP rfl rfl rfl (fun w hg => exa_fall w _ aF aL (hE.good hg) (exPlR (hg.own (x1, _) (by repeat first | exact mH | apply mT | apply List.mem_append_right))))) ?_)
  rintro _ _ ⟨rfl, rfl⟩
  refine L_go rfl (X_p (p_move rfl rfl) ?_)
  refine L_go rfl (X_p (p_ext rfl rfl rfl) ?_)
  refine L_go rfl (X_p (p_ext rfl rfl rfl) ?_)
  refine L_go rfl (X_p (p_ext rfl rfl rfl) ?_)
  refine L_go rfl (X_wr (w_alloc zr36 rfl) ?_)
  rintro _ _ ⟨b2, hb2, rfl, rfl⟩
  refine L_go rfl (X_wr (w_alloc zr24 rfl) ?_)
  rintro _ _ ⟨b3, hb3, rfl, rfl⟩
  refine L_go rfl (X_wr (w_store (cs' := [_, _, _, _]) sz36 rfl rfl rfl rfl rfl (by repeat first | exact .head | apply SetAt.tail) (Nat.le_of_ble_eq_true rfl) rfl) ?_)
  rintro _ _ ⟨rfl, rfl⟩
  refine L_go rfl (X_wr (w_store (cs' := [_, _]) sz24 rfl rfl rfl rfl rfl (by repeat first | exact .head | apply SetAt.tail) (Nat.le_of_ble_eq_true rfl) rfl) ?_)
  rintro _ _ ⟨rfl, rfl⟩
  refine L_go rfl (X_p (p_assign rfl rfl) ?_)
  refine L_then (.cons (k := 1) rfl (.cons (k := 2) rfl (.cons (k := 3) rfl .nil))) ?_
  refine V_seq (V_region rfl ?_)
  refine L_go rfl (X_wr (w_callN rfl rfl rfl (fun w hg => lplan_c w)) ?_)
  rintro _ _ ⟨_, rfl, _, x4, rfl, rfl⟩
  refine L_go rfl (X_wr (w_callP rfl rfl rfl (fun w hg => ltask_c w)) ?_)
  rintro _ _ ⟨rfl, rfl⟩
  refine L_go rfl (X_wr (w_callP rfl rfl rfl (fun w hg => exa_look w _ aF aL (hE.good hg) (exPlR (hg.own (x4, _) (by repeat first | exact mH | apply mT | apply List.mem_append_right))))) ?_)
  rintro _ _ ⟨rfl, rfl⟩
  refine L_go rfl (X_p (p_move rfl rfl) ?_)
  refine L_go rfl (X_p (p_ext rfl rfl rfl) ?_)
  refine L_go rfl (X_p (p_ext rfl rfl rfl) ?_)
  refine L_go rfl (X_wr (w_alloc zr56 rfl) ?_)
  rintro _ _ ⟨b5, hb5, rfl, rfl⟩
  refine L_go rfl (X_wr (w_storeAll (cs' := [_, _, _, _, _, _, _, _, _, _, _, _, _, _, _, _, _, _, _, _, _]) sz56 rfl rfl rfl rfl rfl rfl (by repeat first | exact .head | apply SetAt.tail) rfl) ?_)
  rintro _ _ ⟨rfl, rfl⟩
  refine L_go rfl (X_p (p_assign rfl rfl) ?_)
  refine L_then (.cons (k := 1) rfl (.cons (k := 2) rfl (.cons (k := 3) rfl (.cons (k := 4) rfl (.cons (k := 5) rfl .nil))))) ?_
  refine V_seq (V_region rfl ?_)
  refine L_go rfl (X_wr (w_callN rfl rfl rfl (fun w hg => lplan_c w)) ?_)
  rintro _ _ ⟨_, rfl, _, x6, rfl, rfl⟩
  refine L_go rfl (X_wr (w_callP rfl rfl rfl (fun w hg => larea_c _ _ _ _ w)) ?_)
  rintro _ _ ⟨rfl, rfl⟩
  refine L_go rfl (X_wr (w_callG (pre := [_, _, _, _, _, _]) rfl rfl rfl rfl (fun w hg => exa_side w _ (exPlR (hg.own (x6, _) (by repeat first | exact mH | apply mT | apply List.mem_append_right))))) ?_)
  rintro _ _ ⟨_, G7, rfl, hfr7, sv7, rfl, rfl, hgr7⟩
  try simp only [List.cons_append, List.nil_append, List.append_nil]
  refine L_go rfl (X_p (p_move rfl rfl) ?_)
  refine L_go rfl (X_p (p_ext rfl rfl rfl) ?_)
  refine L_go rfl (X_p (p_ext rfl rfl rfl) ?_)
  refine L_go rfl (X_p (p_assign rfl rfl) ?_)
  refine L_go rfl (X_p (p_assign rfl rfl) ?_)
  refine L_then (.cons (k := 1) rfl (.cons (k := 2) rfl (.cons (k := 3) rfl (.cons (k := 4) rfl (.cons (k := 5) rfl (.cons (k := 7) rfl .nil)))))) ?_
  refine V_seq (V_region rfl ?_)
  refine L_go rfl (X_wr (w_callN rfl rfl rfl (fun w hg => lplan_c w)) ?_)
  rintro _ _ ⟨_, rfl, _, x8, rfl, rfl⟩
  refine L_go rfl (X_wr (w_callP rfl rfl rfl (fun w hg => ltask_c w)) ?_)
  rintro _ _ ⟨rfl, rfl⟩
  refine L_go rfl (X_wr (w_callP rfl rfl rfl (fun w hg => exa_dec w _ aF aL (hE.good hg) (exPlR (hg.own (x8, _) (by repeat first | exact mH | apply mT | apply List.mem_append_right))))) ?_)
  rintro _ _ ⟨rfl, rfl⟩
  refine L_go rfl (X_p (p_move rfl rfl) ?_)
  refine L_go rfl (X_p (p_ext rfl rfl rfl) ?_)
  refine L_go rfl (X_p (p_ext rfl rfl rfl) ?_)
  refine L_go rfl (X_wr (w_alloc zr63 rfl) ?_)
  rintro _ _ ⟨b9, hb9, rfl, rfl⟩
  refine L_go rfl (X_wr (w_store (cs' := [_, _, _]) sz63 rfl rfl rfl rfl rfl (by repeat first | exact .head | apply SetAt.tail) (Nat.le_of_ble_eq_true rfl) rfl) ?_)
  rintro _ _ ⟨rfl, rfl⟩
  refine L_go rfl (X_p (p_assign rfl rfl) ?_)
  refine L_then (.cons (k := 1) rfl (.cons (k := 2) rfl (.cons (k := 3) rfl (.cons (k := 4) rfl (.cons (k := 5) rfl (.cons (k := 7) rfl (.cons (k := 9) rfl .nil))))))) ?_
  refine V_seq (V_draw (.rd 0 (.rd 1 (.rd 2 (.rd 3 (.rd 4 (.rd 5 (.rd 6 (.rd 7 (.rd 8 (.rd 9 (.rd 10 (.rd 11 (.rd 12 (.rd 13 (.rd 14 (.rd 15 (.wr 16 [15, 13, 12, 11, 10, 9, 8, 7, 6, 5, 4, 3, 2, 1, 0] (.rd 17 (.rd 18 (.rd 19 (.rd 20 (.wr 21 [20, 18, 17, 15, 14, 13, 12, 11, 10, 9, 8, 7, 6, 5, 4, 3, 2, 1, 0] (.rd 22 (.rd 23 (.rd 24 (.rd 25 (.rd 26 (.wr 27 [26, 25, 23, 22, 20, 19, 18, 17, 15, 14, 13, 12, 11, 10, 9, 8, 7, 6, 5, 4, 3, 2, 1, 0] (.rd 28 (.rd 29 (.rd 30 (.rd 31 (.rd 32 (.rd 33 (.rd 34 (.rd 35 (.rd 36 (.rd 37 (.rd 38 (.rd 39 (.rd 40 .done))))))))))))))))))))))))))))))))))))))))) mixed (by kernel_rfl) rfl ?_)
  refine D_p rfl (.plain rfl) (p_move rfl rfl) ?_
  refine D_p rfl (.plain rfl) (p_eql rfl rfl rfl) ?_
  refine D_p rfl (.plain rfl) (p_move rfl rfl) ?_
  refine D_p rfl (.yes rfl rfl rfl (by first | rfl | simp | decide)) (p_move rfl rfl) ?_
  refine D_p rfl (.yes rfl rfl rfl (by first | rfl | simp | decide)) (p_eql rfl rfl rfl) ?_
  refine D_p rfl (.plain rfl) (p_pick_t rfl rfl (by first | rfl | simp | decide) rfl) ?_
  refine D_p rfl (.plain rfl) (p_move rfl rfl) ?_
  refine D_p rfl (.yes rfl rfl rfl (by first | rfl | simp | decide)) (p_move rfl rfl) ?_
  refine D_p rfl (.yes rfl rfl rfl (by first | rfl | simp | decide)) (p_eql rfl rfl rfl) ?_
  refine D_p rfl (.plain rfl) (p_pick_t rfl rfl (by first | rfl | simp | decide) rfl) ?_
  refine D_p rfl (.plain rfl) (p_move rfl rfl) ?_
  refine D_p rfl (.yes rfl rfl rfl (by first | rfl | simp | decide)) (p_move rfl rfl) ?_
  refine D_p rfl (.yes rfl rfl rfl (by first | rfl | simp | decide)) (p_eql rfl rfl rfl) ?_
  refine D_p rfl (.plain rfl) (p_pick_t rfl rfl (by first | rfl | simp | decide) rfl) ?_
  refine D_p rfl (.plain rfl) (p_move rfl rfl) ?_
  refine D_rd rfl (.yes rfl rfl rfl (by first | rfl | simp | decide)) (r_loadA (vs := [_, _, _, _]) ag36 sz36 rfl rfl (by repeat first | exact mH | apply mT | apply List.mem_append_right) rfl) ?_
  refine D_wr (.go (E' := [(15, _)]) rfl (.yes rfl rfl rfl (by first | rfl | simp | decide)) (w_callP rfl rfl rfl (fun w hg => larea_c _ _ _ _ w)) rfl ?_)
  rintro _ _ ⟨rfl, rfl⟩
  refine ⟨(.cons rfl (.yes rfl rfl rfl (by first | rfl | simp | decide)) (r_loadA (vs := [_, _, _, _]) ag36 sz36 rfl rfl (by repeat first | exact mH | apply mT | apply List.mem_append_right) rfl) .nil), ?_⟩
  refine D_p rfl (.yes rfl rfl rfl (by first | rfl | simp | decide)) (p_eqS lv36 ag36 eg36 rfl rfl rfl rfl rfl) ?_
  refine D_p rfl (.plain rfl) (p_pick_t rfl rfl (by first | rfl | simp | decide) rfl) ?_
  refine D_p rfl (.plain rfl) (p_move rfl rfl) ?_
  refine D_rd rfl (.yes rfl rfl rfl (by first | rfl | (simp; done) | (simp [eqL, eqv, Box.cells]; done) | decide)) (r_loadA (vs := [_, _]) ag24 sz24 rfl rfl (by repeat first | exact mH | apply mT | apply List.mem_append_right) rfl) ?_
  refine D_wr (.go (E' := [(20, _), (15, _)]) rfl (.yes rfl rfl rfl (by first | rfl | (simp; done) | (simp [eqL, eqv, Box.cells]; done) | decide)) (w_callP rfl rfl rfl (fun w hg => lspan6_c _ _ w)) rfl ?_)
  rintro _ _ ⟨rfl, rfl⟩
  refine ⟨(.cons rfl (.yes rfl rfl rfl (by first | rfl | (simp; done) | (simp [eqL, eqv, Box.cells]; done) | decide)) (r_loadA (vs := [_, _]) ag24 sz24 rfl rfl (by repeat first | exact mH | apply mT | apply List.mem_append_right) rfl) (.cons rfl (.yes rfl rfl rfl (by first | rfl | simp | decide)) (r_loadA (vs := [_, _, _, _]) ag36 sz36 rfl rfl (by repeat first | exact mH | apply mT | apply List.mem_append_right) rfl) .nil)), ?_⟩
  refine D_p rfl (.yes rfl rfl rfl (by first | rfl | (simp; done) | (simp [eqL, eqv, Box.cells]; done) | decide)) (p_eqS lv24 ag24 eg24 rfl rfl rfl rfl rfl) ?_
  refine D_p rfl (.plain rfl) (p_pick_t rfl rfl (by first | rfl | (simp; done) | (simp [eqL, eqv, Box.cells]; done) | decide) rfl) ?_
  refine D_p rfl (.plain rfl) (p_move rfl rfl) ?_
  refine D_p rfl (.yes rfl rfl rfl (by first | rfl | (simp; done) | (simp [eqL, eqv, Box.cells]; done) | decide)) (p_fieldo fo56_1 rfl rfl) ?_
  refine D_rd rfl (.yes rfl rfl rfl (by first | rfl | (simp; done) | (simp [eqL, eqv, Box.cells]; done) | decide)) (r_loadA (vs := [_, _, _, _]) ag36 sz36 rfl rfl (by repeat first | exact mH | apply mT | apply List.mem_append_right) rfl) ?_
  refine D_wr (.go (E' := [(26, _), (20, _), (15, _)]) rfl (.yes rfl rfl rfl (by first | rfl | (simp; done) | (simp [eqL, eqv, Box.cells]; done) | decide)) (w_callP rfl rfl rfl (fun w hg => larea_c _ _ _ _ w)) rfl ?_)
  rintro _ _ ⟨rfl, rfl⟩
  refine ⟨(.cons rfl (.yes rfl rfl rfl (by first | rfl | (simp; done) | (simp [eqL, eqv, Box.cells]; done) | decide)) (r_loadA (vs := [_, _, _, _]) ag36 sz36 rfl rfl (by repeat first | exact mH | apply mT | apply List.mem_append_right) rfl) (.cons rfl (.yes rfl rfl rfl (by first | rfl | (simp; done) | (simp [eqL, eqv, Box.cells]; done) | decide)) (r_loadA (vs := [_, _]) ag24 sz24 rfl rfl (by repeat first | exact mH | apply mT | apply List.mem_append_right) rfl) (.cons rfl (.yes rfl rfl rfl (by first | rfl | simp | decide)) (r_loadA (vs := [_, _, _, _]) ag36 sz36 rfl rfl (by repeat first | exact mH | apply mT | apply List.mem_append_right) rfl) .nil))), ?_⟩
  refine D_p rfl (.yes rfl rfl rfl (by first | rfl | (simp; done) | (simp [eqL, eqv, Box.cells]; done) | decide)) (p_eqS lv36 ag36 eg36 rfl rfl rfl rfl rfl) ?_
  refine D_p rfl (.plain rfl) (p_pick_t rfl rfl (by first | rfl | (simp; done) | (simp [eqL, eqv, Box.cells]; done) | decide) rfl) ?_
  refine D_p rfl (.plain rfl) (p_move rfl rfl) ?_
  refine D_p rfl (.yes rfl rfl rfl (by first | rfl | (simp; done) | (simp [eqL, eqv, Box.cells]; done) | decide)) (p_fieldo fo56_4 rfl rfl) ?_
  refine D_rd rfl (.yes rfl rfl rfl (by first | rfl | (simp; done) | (simp [eqL, eqv, Box.cells]; done) | decide)) (r_load ag3 rfl rfl (by repeat first | exact mH | apply mT | apply List.mem_append_right) rfl) ?_
  refine D_p rfl (.yes rfl rfl rfl (by first | rfl | (simp; done) | (simp [eqL, eqv, Box.cells]; done) | decide)) (p_eql rfl rfl rfl) ?_
  refine D_p rfl (.plain rfl) (p_pick_t rfl rfl (by first | rfl | (simp; done) | (simp [eqL, eqv, Box.cells]; done) | decide) rfl) ?_
  refine D_p rfl (.plain rfl) (p_move rfl rfl) ?_
  refine D_p rfl (.yes rfl rfl rfl (by first | rfl | simp | decide)) (p_fieldo fo56_3 rfl rfl) ?_
  refine D_rd rfl (.yes rfl rfl rfl (by first | rfl | simp | decide)) (r_load ag3 rfl rfl (by repeat first | exact mH | apply mT | apply List.mem_append_right) rfl) ?_
  refine D_p rfl (.yes rfl rfl rfl (by first | rfl | simp | decide)) (p_eql rfl rfl rfl) ?_
  refine D_p rfl (.plain rfl) (p_pick_t rfl rfl (by first | rfl | simp | decide) rfl) ?_
  refine D_p rfl (.plain rfl) (p_assign rfl rfl) ?_
  refine D_then (.cons (k := 0) rfl .nil) ?_
  refine V_ret ?_
  refine Leave.nil (.tmp rfl .nil) ?_
  rfl

end Go.Proofs.YtlcccpeelombbaaDoor

/- YtlcccpeelombbaaDoor: the reference of layer 6. -/
set_option linter.all false
namespace Go.Proofs.YtlcccpeelombbaaDoor
open Go.Vc Go.Tk Go.De
set_option maxRecDepth 100000
theorem drin_c (n lo hi : Int) (w : World) : FnP Tryd.prog 30 [.int .i64 n, .int .i64 lo, .int .i64 hi] w (.bool (!(oP n lo hi))) := by
  refine fn_pure Tryd.func30 rfl (by kernel_rfl) Tryd.ntmps30 Tryd.results30 rfl ?_
  refine V_seq (V_region rfl ?_)
  refine L_go rfl (X_p (p_assign rfl rfl) ?_)
  refine L_then (.cons (k := 0) rfl (.cons (k := 1) rfl (.cons (k := 2) rfl .nil))) ?_
  refine V_seq (V_region rfl ?_)
  refine L_go rfl (X_p (p_move rfl rfl) ?_)
  refine L_go rfl (X_p (p_move rfl rfl) ?_)
  refine L_go rfl (X_p (p_geq rfl rfl rfl) ?_)
  refine L_go rfl (X_p (p_move rfl rfl) ?_)
  refine L_cases (d := 10) rfl ?_ ?_
  · intro g1; have g1' := g1; try simp only [td] at g1'
    refine L_yes rfl rfl rfl g1 (X_p (p_move rfl rfl) ?_)
    refine L_yes rfl rfl rfl g1 (X_p (p_move rfl rfl) ?_)
    refine L_yes rfl rfl rfl g1 (X_p (p_leq rfl rfl rfl) ?_)
    refine L_go rfl (X_p (p_pick_t rfl rfl g1 rfl) ?_)
    refine L_go rfl (X_p (p_assign rfl rfl) ?_)
    refine L_then (.cons (k := 6) rfl .nil) ?_
    refine V_ret ?_
    refine Leave.nil (.tmp rfl .nil) ?_
    show Value.bool _ = _
    congr 1
    rw [Bool.eq_iff_iff]
    simp only [Bool.not_eq_true', oP_false, decide_eq_true_eq, Bool.false_eq_true, false_iff]
    omega
  · intro g1; have g1' := g1; try simp only [td] at g1'
    refine L_no rfl rfl rfl g1 ?_
    refine L_no rfl rfl rfl g1 ?_
    refine L_no rfl rfl rfl g1 ?_
    refine L_go rfl (X_p (p_pick_f rfl rfl g1 rfl) ?_)
    refine L_go rfl (X_p (p_assign rfl rfl) ?_)
    refine L_then (.cons (k := 6) rfl .nil) ?_
    refine V_ret ?_
    refine Leave.nil (.tmp rfl .nil) ?_
    show Value.bool _ = _
    congr 1
    rw [Bool.eq_iff_iff]
    simp only [Bool.not_eq_true', oP_false, decide_eq_true_eq, Bool.false_eq_true, false_iff]
    omega
set_option maxHeartbeats 8000000 in
theorem drcheck_c (p : De.Plan) (pv : Value) (w : World) (hp : PlanR w pv p) : FnP Tryd.prog 11 [pv] w (.tuple #[.int .i64 (De.checkP p).1, .int .i64 (De.checkP p).2.1, .int .i64 (De.checkP p).2.2]) := by
  have hP := hp
  obtain ⟨lv, rfl, hls⟩ := hp.ex
  have hlen := hp.len
  obtain ⟨la, lc, rfl, hlc, hle⟩ := hls.ex
  simp only [List.length_map] at hP hlc ⊢
  refine fn_pure Tryd.func11 rfl (by kernel_rfl) Tryd.ntmps11 Tryd.results11 rfl ?_
  refine V_seq (V_region rfl ?_)
  refine L_go rfl (X_wr (w_box rfl rfl) ?_)
  rintro _ _ ⟨b1, hb1, rfl, rfl⟩
  refine L_go rfl (X_p (p_assign rfl rfl) ?_)
  refine L_go rfl (X_p (p_assign rfl rfl) ?_)
  refine L_go rfl (X_p (p_assign rfl rfl) ?_)
  refine L_then (.cons (k := 1) rfl .nil) ?_
  refine V_seq ?_
  refine V_seq (V_region rfl ?_)
  refine L_go rfl (X_p (p_fieldo fo26_0 rfl rfl) ?_)
  refine L_go rfl (X_rd (r_load ag22 rfl rfl (by repeat first | exact mH | apply mT) rfl) ?_)
  refine L_go rfl (X_p (p_len isl22 rfl rfl) ?_)
  refine L_go rfl (X_wr (w_callP rfl rfl rfl (fun w hg => drin_c _ _ _ w)) ?_)
  rintro _ _ ⟨rfl, rfl⟩
  refine L_go rfl (X_p (p_not rfl rfl) ?_)
  refine L_then (.cons (k := 1) rfl (.cons (k := 11) rfl .nil)) ?_
  refine V_cond rfl ?_ ?_
  · intro c1; have c1r := c1; try simp only [td] at c1
    refine V_seq (V_region rfl ?_)
    refine L_go rfl (X_p (p_assign rfl rfl) ?_)
    refine L_go rfl (X_p (p_assign rfl rfl) ?_)
    refine L_go rfl (X_p (p_assign rfl rfl) ?_)
    refine L_then (.cons (k := 2) rfl (.cons (k := 3) rfl (.cons (k := 4) rfl .nil))) ?_
    refine V_ret (then_r ?_)
    refine Leave.nil (.tmp rfl (.tmp rfl (.tmp rfl .nil))) ?_
    first | (rw [checkP_long (by simpa using c1)]; rfl) | (rw [checkP_tail hlo hln (by rw [tailP_alt]; simp only [Bool.or_eq_true, Bool.or_eq_false_iff, Bool.false_eq_true, or_true, true_or, or_false, false_or, and_true, true_and, and_self, not_false_eq_true, not_true_eq_false, *])]; rfl) | (rw [checkP_ok hlo hln (by rw [tailP_alt]; simp only [Bool.or_eq_true, Bool.or_eq_false_iff, Bool.false_eq_true, or_true, true_or, or_false, false_or, and_true, true_and, and_self, not_false_eq_true, not_true_eq_false, *])]; rfl) | (rw [checkP_ln (k := k) (e := 7) hlo (by omega) (by omega) hkp (by unfold errLn Plan.ln; rw [if_pos (by simp only [Bool.or_eq_true, Bool.or_eq_false_iff, Bool.false_eq_true, or_true, true_or, or_false, false_or, and_true, true_and, and_self, not_false_eq_true, not_true_eq_false, *])]) (by decide)]; rfl) | (rw [checkP_ln (k := k) (e := 2) hlo (by omega) (by omega) hkp (by unfold errLn Plan.ln; rw [if_neg (by rw [g1', g2', g3', c3]; decide), if_pos (by omega)]) (by decide)]; rfl)
  · intro c1; have c1r := c1; try simp only [td] at c1
    have hlo : oP p.lines.length 1 8 = false := by simpa using c1
    refine V_skip (then_n ?_)
    refine V_seq ?_
    refine V_seq (V_region rfl ?_)
    refine L_go rfl (X_p (p_assign rfl rfl) ?_)
    refine L_then (.cons (k := 1) rfl (.cons (k := 5) rfl .nil)) ?_
    refine V_block ?_
    refine V_loop0 (γ := Int) (.cons (k := 1) rfl .nil) (fun k => [(5, .int .i64 k)]) (fun k => 0 ≤ k ∧ k ≤ p.lines.length ∧ ∀ j : Nat, (j : Int) < k → errLn (p.ln j) = 0) (fun k => (p.lines.length - k).toNat) (0) (.cons rfl (.nil _)) (⟨by omega, by omega, fun j hj => by omega⟩) ?_
    rintro k hi
    obtain ⟨hk0, hk1, hkp⟩ := hi
    refine V_seq ?_
    refine V_seq (V_region rfl ?_)
    refine L_go rfl (X_p (p_move rfl rfl) ?_)
    refine L_go rfl (X_p (p_fieldo fo26_0 rfl rfl) ?_)
    refine L_go rfl (X_rd (r_load ag22 rfl rfl (by repeat first | exact mH | apply mT) rfl) ?_)
    refine L_go rfl (X_p (p_len isl22 rfl rfl) ?_)
    refine L_go rfl (X_p (p_lss rfl rfl rfl) ?_)
    refine L_then (.cons (k := 1) rfl (.cons (k := 5) rfl (.cons (k := 16) rfl .nil))) ?_
    refine V_cond rfl ?_ ?_
    · intro c2; have c2r := c2; try simp only [td] at c2
      obtain ⟨lb, rfl, hc⟩ := hle k.toNat _ (getD_cells (d := lnZ) (by omega))
      refine V_skip (then_n ?_)
      refine V_seq ?_
      refine V_block ?_
      refine V_seq (V_region rfl ?_)
      refine L_go rfl (X_p (p_fieldo fo26_0 rfl rfl) ?_)
      refine L_go rfl (X_rd (r_load ag22 rfl rfl (by repeat first | exact mH | apply mT) rfl) ?_)
      refine L_go rfl (X_p (p_move rfl rfl) ?_)
      refine L_go rfl (X_p (p_idx es22 rfl rfl rfl (by omega) (by omega)) ?_)
      refine L_go rfl (X_rd (r_loadBA ag60 sz60 rfl rfl hc rfl List.not_mem_nil) ?_)
      refine L_go rfl (X_wr (w_alloc zr60 rfl) ?_)
      rintro _ _ ⟨b2, hb2, rfl, rfl⟩
      refine L_go rfl (X_wr (w_store (cs' := [_, _, _, _]) sz60 rfl rfl rfl rfl rfl (by repeat first | exact .head | apply SetAt.tail) (Nat.le_of_ble_eq_true rfl) rfl) ?_)
      rintro _ _ ⟨rfl, rfl⟩
      refine L_then (.cons (k := 1) rfl (.cons (k := 5) rfl (.cons (k := 6) rfl .nil))) ?_
      refine V_seq ?_
      refine V_seq (V_region rfl ?_)
      refine L_go rfl (X_p (p_fieldo fo60_0 rfl rfl) ?_)
      refine L_go rfl (X_rd (r_load ag3 rfl rfl (by repeat first | exact mH | apply mT) rfl) ?_)
      refine L_go rfl (X_wr (w_callP rfl rfl rfl (fun w hg => drin_c _ _ _ w)) ?_)
      rintro _ _ ⟨rfl, rfl⟩
      refine L_go rfl (X_p (p_not rfl rfl) ?_)
      refine L_go rfl (X_p (p_move rfl rfl) ?_)
      refine L_cases (d := 28) rfl ?_ ?_
      · intro g1; have g1' := g1; try simp only [td] at g1'
        refine L_no rfl rfl rfl g1 ?_
        refine L_no rfl rfl rfl g1 ?_
        refine L_no rfl rfl rfl g1 ?_
        refine L_no rfl rfl rfl g1 ?_
        refine L_go rfl (X_p (p_pick_t rfl rfl g1 rfl) ?_)
        refine L_go rfl (X_p (p_move rfl rfl) ?_)
        refine L_no rfl rfl rfl rfl ?_
        refine L_no rfl rfl rfl rfl ?_
        refine L_no rfl rfl rfl rfl ?_
        refine L_no rfl rfl rfl rfl ?_
        refine L_go rfl (X_p (p_pick_t rfl rfl rfl rfl) ?_)
        refine L_go rfl (X_p (p_move rfl rfl) ?_)
        refine L_no rfl rfl rfl rfl ?_
        refine L_no rfl rfl rfl rfl ?_
        refine L_no rfl rfl rfl rfl ?_
        refine L_no rfl rfl rfl rfl ?_
        refine L_go rfl (X_p (p_pick_t rfl rfl rfl rfl) ?_)
        refine L_then (.cons (k := 1) rfl (.cons (k := 5) rfl (.cons (k := 6) rfl (.cons (k := 45) rfl .nil)))) ?_
        refine V_cond_t rfl rfl ?_
        refine V_seq (V_region rfl ?_)
        refine L_go rfl (X_p (p_move rfl rfl) ?_)
        refine L_go rfl (X_p (p_assign rfl rfl) ?_)
        refine L_go rfl (X_p (p_assign rfl rfl) ?_)
        refine L_go rfl (X_p (p_assign rfl rfl) ?_)
        refine L_then (.cons (k := 2) rfl (.cons (k := 3) rfl (.cons (k := 4) rfl .nil))) ?_
        refine V_ret (then_r (blk_r (then_r (then_r (blk_r (then_r ?_))))))
        refine Leave.nil (.tmp rfl (.tmp rfl (.tmp rfl .nil))) ?_
        first | (rw [checkP_long (by simpa using c1)]; rfl) | (rw [checkP_tail hlo hln (by rw [tailP_alt]; simp only [Bool.or_eq_true, Bool.or_eq_false_iff, Bool.false_eq_true, or_true, true_or, or_false, false_or, and_true, true_and, and_self, not_false_eq_true, not_true_eq_false, *])]; rfl) | (rw [checkP_ok hlo hln (by rw [tailP_alt]; simp only [Bool.or_eq_true, Bool.or_eq_false_iff, Bool.false_eq_true, or_true, true_or, or_false, false_or, and_true, true_and, and_self, not_false_eq_true, not_true_eq_false, *])]; rfl) | (rw [checkP_ln (k := k) (e := 7) hlo (by omega) (by omega) hkp (by unfold errLn Plan.ln; rw [if_pos (by simp only [Bool.or_eq_true, Bool.or_eq_false_iff, Bool.false_eq_true, or_true, true_or, or_false, false_or, and_true, true_and, and_self, not_false_eq_true, not_true_eq_false, *])]) (by decide)]; rfl) | (rw [checkP_ln (k := k) (e := 2) hlo (by omega) (by omega) hkp (by unfold errLn Plan.ln; rw [if_neg (by rw [g1', g2', g3', c3]; decide), if_pos (by omega)]) (by decide)]; rfl)
      · intro g1; have g1' := g1; try simp only [td] at g1'
        refine L_yes rfl rfl rfl g1 (X_p (p_fieldo fo60_1 rfl rfl) ?_)
        refine L_yes rfl rfl rfl g1 (X_rd (r_load ag3 rfl rfl (by repeat first | exact mH | apply mT) rfl) ?_)
        refine L_yes rfl rfl rfl g1 (X_wr (w_callP rfl rfl rfl (fun w hg => drin_c _ _ _ w)) ?_)
        rintro _ _ ⟨rfl, rfl⟩
        refine L_yes rfl rfl rfl g1 (X_p (p_not rfl rfl) ?_)
        refine L_go rfl (X_p (p_pick_f rfl rfl g1 rfl) ?_)
        refine L_go rfl (X_p (p_move rfl rfl) ?_)
        refine L_cases (d := 34) rfl ?_ ?_
        · intro g2; have g2' := g2; try simp only [td] at g2'
          refine L_no rfl rfl rfl g2 ?_
          refine L_no rfl rfl rfl g2 ?_
          refine L_no rfl rfl rfl g2 ?_
          refine L_no rfl rfl rfl g2 ?_
          refine L_go rfl (X_p (p_pick_t rfl rfl g2 rfl) ?_)
          refine L_go rfl (X_p (p_move rfl rfl) ?_)
          refine L_no rfl rfl rfl rfl ?_
          refine L_no rfl rfl rfl rfl ?_
          refine L_no rfl rfl rfl rfl ?_
          refine L_no rfl rfl rfl rfl ?_
          refine L_go rfl (X_p (p_pick_t rfl rfl rfl rfl) ?_)
          refine L_then (.cons (k := 1) rfl (.cons (k := 5) rfl (.cons (k := 6) rfl (.cons (k := 45) rfl .nil)))) ?_
          refine V_cond_t rfl rfl ?_
          refine V_seq (V_region rfl ?_)
          refine L_go rfl (X_p (p_move rfl rfl) ?_)
          refine L_go rfl (X_p (p_assign rfl rfl) ?_)
          refine L_go rfl (X_p (p_assign rfl rfl) ?_)
          refine L_go rfl (X_p (p_assign rfl rfl) ?_)
          refine L_then (.cons (k := 2) rfl (.cons (k := 3) rfl (.cons (k := 4) rfl .nil))) ?_
          refine V_ret (then_r (blk_r (then_r (then_r (blk_r (then_r ?_))))))
          refine Leave.nil (.tmp rfl (.tmp rfl (.tmp rfl .nil))) ?_
          first | (rw [checkP_long (by simpa using c1)]; rfl) | (rw [checkP_tail hlo hln (by rw [tailP_alt]; simp only [Bool.or_eq_true, Bool.or_eq_false_iff, Bool.false_eq_true, or_true, true_or, or_false, false_or, and_true, true_and, and_self, not_false_eq_true, not_true_eq_false, *])]; rfl) | (rw [checkP_ok hlo hln (by rw [tailP_alt]; simp only [Bool.or_eq_true, Bool.or_eq_false_iff, Bool.false_eq_true, or_true, true_or, or_false, false_or, and_true, true_and, and_self, not_false_eq_true, not_true_eq_false, *])]; rfl) | (rw [checkP_ln (k := k) (e := 7) hlo (by omega) (by omega) hkp (by unfold errLn Plan.ln; rw [if_pos (by simp only [Bool.or_eq_true, Bool.or_eq_false_iff, Bool.false_eq_true, or_true, true_or, or_false, false_or, and_true, true_and, and_self, not_false_eq_true, not_true_eq_false, *])]) (by decide)]; rfl) | (rw [checkP_ln (k := k) (e := 2) hlo (by omega) (by omega) hkp (by unfold errLn Plan.ln; rw [if_neg (by rw [g1', g2', g3', c3]; decide), if_pos (by omega)]) (by decide)]; rfl)
        · intro g2; have g2' := g2; try simp only [td] at g2'
          refine L_yes rfl rfl rfl g2 (X_p (p_fieldo fo60_2 rfl rfl) ?_)
          refine L_yes rfl rfl rfl g2 (X_rd (r_load ag3 rfl rfl (by repeat first | exact mH | apply mT) rfl) ?_)
          refine L_yes rfl rfl rfl g2 (X_wr (w_callP rfl rfl rfl (fun w hg => drin_c _ _ _ w)) ?_)
          rintro _ _ ⟨rfl, rfl⟩
          refine L_yes rfl rfl rfl g2 (X_p (p_not rfl rfl) ?_)
          refine L_go rfl (X_p (p_pick_f rfl rfl g2 rfl) ?_)
          refine L_go rfl (X_p (p_move rfl rfl) ?_)
          refine L_cases (d := 40) rfl ?_ ?_
          · intro g3; have g3' := g3; try simp only [td] at g3'
            refine L_no rfl rfl rfl g3 ?_
            refine L_no rfl rfl rfl g3 ?_
            refine L_no rfl rfl rfl g3 ?_
            refine L_no rfl rfl rfl g3 ?_
            refine L_go rfl (X_p (p_pick_t rfl rfl g3 rfl) ?_)
            refine L_then (.cons (k := 1) rfl (.cons (k := 5) rfl (.cons (k := 6) rfl (.cons (k := 45) rfl .nil)))) ?_
            refine V_cond_t rfl rfl ?_
            refine V_seq (V_region rfl ?_)
            refine L_go rfl (X_p (p_move rfl rfl) ?_)
            refine L_go rfl (X_p (p_assign rfl rfl) ?_)
            refine L_go rfl (X_p (p_assign rfl rfl) ?_)
            refine L_go rfl (X_p (p_assign rfl rfl) ?_)
            refine L_then (.cons (k := 2) rfl (.cons (k := 3) rfl (.cons (k := 4) rfl .nil))) ?_
            refine V_ret (then_r (blk_r (then_r (then_r (blk_r (then_r ?_))))))
            refine Leave.nil (.tmp rfl (.tmp rfl (.tmp rfl .nil))) ?_
            first | (rw [checkP_long (by simpa using c1)]; rfl) | (rw [checkP_tail hlo hln (by rw [tailP_alt]; simp only [Bool.or_eq_true, Bool.or_eq_false_iff, Bool.false_eq_true, or_true, true_or, or_false, false_or, and_true, true_and, and_self, not_false_eq_true, not_true_eq_false, *])]; rfl) | (rw [checkP_ok hlo hln (by rw [tailP_alt]; simp only [Bool.or_eq_true, Bool.or_eq_false_iff, Bool.false_eq_true, or_true, true_or, or_false, false_or, and_true, true_and, and_self, not_false_eq_true, not_true_eq_false, *])]; rfl) | (rw [checkP_ln (k := k) (e := 7) hlo (by omega) (by omega) hkp (by unfold errLn Plan.ln; rw [if_pos (by simp only [Bool.or_eq_true, Bool.or_eq_false_iff, Bool.false_eq_true, or_true, true_or, or_false, false_or, and_true, true_and, and_self, not_false_eq_true, not_true_eq_false, *])]) (by decide)]; rfl) | (rw [checkP_ln (k := k) (e := 2) hlo (by omega) (by omega) hkp (by unfold errLn Plan.ln; rw [if_neg (by rw [g1', g2', g3', c3]; decide), if_pos (by omega)]) (by decide)]; rfl)
          · intro g3; have g3' := g3; try simp only [td] at g3'
            refine L_yes rfl rfl rfl g3 (X_p (p_fieldo fo60_3 rfl rfl) ?_)
            refine L_yes rfl rfl rfl g3 (X_rd (r_load ag3 rfl rfl (by repeat first | exact mH | apply mT) rfl) ?_)
            refine L_yes rfl rfl rfl g3 (X_wr (w_callP rfl rfl rfl (fun w hg => drin_c _ _ _ w)) ?_)
            rintro _ _ ⟨rfl, rfl⟩
            refine L_yes rfl rfl rfl g3 (X_p (p_not rfl rfl) ?_)
            refine L_go rfl (X_p (p_pick_f rfl rfl g3 rfl) ?_)
            refine L_then (.cons (k := 1) rfl (.cons (k := 5) rfl (.cons (k := 6) rfl (.cons (k := 45) rfl .nil)))) ?_
            refine V_cond rfl ?_ ?_
            · intro c3; have c3r := c3; try simp only [td] at c3
              refine V_seq (V_region rfl ?_)
              refine L_go rfl (X_p (p_move rfl rfl) ?_)
              refine L_go rfl (X_p (p_assign rfl rfl) ?_)
              refine L_go rfl (X_p (p_assign rfl rfl) ?_)
              refine L_go rfl (X_p (p_assign rfl rfl) ?_)
              refine L_then (.cons (k := 2) rfl (.cons (k := 3) rfl (.cons (k := 4) rfl .nil))) ?_
              refine V_ret (then_r (blk_r (then_r (then_r (blk_r (then_r ?_))))))
              refine Leave.nil (.tmp rfl (.tmp rfl (.tmp rfl .nil))) ?_
              first | (rw [checkP_long (by simpa using c1)]; rfl) | (rw [checkP_tail hlo hln (by rw [tailP_alt]; simp only [Bool.or_eq_true, Bool.or_eq_false_iff, Bool.false_eq_true, or_true, true_or, or_false, false_or, and_true, true_and, and_self, not_false_eq_true, not_true_eq_false, *])]; rfl) | (rw [checkP_ok hlo hln (by rw [tailP_alt]; simp only [Bool.or_eq_true, Bool.or_eq_false_iff, Bool.false_eq_true, or_true, true_or, or_false, false_or, and_true, true_and, and_self, not_false_eq_true, not_true_eq_false, *])]; rfl) | (rw [checkP_ln (k := k) (e := 7) hlo (by omega) (by omega) hkp (by unfold errLn Plan.ln; rw [if_pos (by simp only [Bool.or_eq_true, Bool.or_eq_false_iff, Bool.false_eq_true, or_true, true_or, or_false, false_or, and_true, true_and, and_self, not_false_eq_true, not_true_eq_false, *])]) (by decide)]; rfl) | (rw [checkP_ln (k := k) (e := 2) hlo (by omega) (by omega) hkp (by unfold errLn Plan.ln; rw [if_neg (by rw [g1', g2', g3', c3]; decide), if_pos (by omega)]) (by decide)]; rfl)
            · intro c3; have c3r := c3; try simp only [td] at c3
              refine V_skip (then_n ?_)
              refine V_seq (V_region rfl ?_)
              refine L_go rfl (X_p (p_fieldo fo60_0 rfl rfl) ?_)
              refine L_go rfl (X_rd (r_load ag3 rfl rfl (by repeat first | exact mH | apply mT) rfl) ?_)
              refine L_go rfl (X_p (p_eql rfl rfl rfl) ?_)
              refine L_go rfl (X_p (p_move rfl rfl) ?_)
              refine L_cases (d := 50) rfl ?_ ?_
              · intro g4; have g4' := g4; try simp only [td] at g4'
                refine L_yes rfl rfl rfl g4 (X_p (p_fieldo fo60_1 rfl rfl) ?_)
                refine L_yes rfl rfl rfl g4 (X_rd (r_load ag3 rfl rfl (by repeat first | exact mH | apply mT) rfl) ?_)
                refine L_yes rfl rfl rfl g4 (X_p (p_eql rfl rfl rfl) ?_)
                refine L_go rfl (X_p (p_pick_t rfl rfl g4 rfl) ?_)
                refine L_go rfl (X_p (p_move rfl rfl) ?_)
                refine L_cases (d := 55) rfl ?_ ?_
                · intro g5; have g5' := g5; try simp only [td] at g5'
                  refine L_no rfl rfl rfl g5 ?_
                  refine L_no rfl rfl rfl g5 ?_
                  refine L_no rfl rfl rfl g5 ?_
                  refine L_no rfl rfl rfl g5 ?_
                  refine L_no rfl rfl rfl g5 ?_
                  refine L_go rfl (X_p (p_pick_t rfl rfl g5 rfl) ?_)
                  refine L_then (.cons (k := 1) rfl (.cons (k := 5) rfl (.cons (k := 61) rfl .nil))) ?_
                  refine V_cond_t rfl rfl ?_
                  refine V_seq (V_region rfl ?_)
                  refine L_go rfl (X_p (p_move rfl rfl) ?_)
                  refine L_go rfl (X_p (p_assign rfl rfl) ?_)
                  refine L_go rfl (X_p (p_assign rfl rfl) ?_)
                  refine L_go rfl (X_p (p_assign rfl rfl) ?_)
                  refine L_then (.cons (k := 2) rfl (.cons (k := 3) rfl (.cons (k := 4) rfl .nil))) ?_
                  refine V_ret (blk_r (then_r (then_r (blk_r (then_r ?_)))))
                  refine Leave.nil (.tmp rfl (.tmp rfl (.tmp rfl .nil))) ?_
                  first | (rw [checkP_long (by simpa using c1)]; rfl) | (rw [checkP_tail hlo hln (by rw [tailP_alt]; simp only [Bool.or_eq_true, Bool.or_eq_false_iff, Bool.false_eq_true, or_true, true_or, or_false, false_or, and_true, true_and, and_self, not_false_eq_true, not_true_eq_false, *])]; rfl) | (rw [checkP_ok hlo hln (by rw [tailP_alt]; simp only [Bool.or_eq_true, Bool.or_eq_false_iff, Bool.false_eq_true, or_true, true_or, or_false, false_or, and_true, true_and, and_self, not_false_eq_true, not_true_eq_false, *])]; rfl) | (rw [checkP_ln (k := k) (e := 7) hlo (by omega) (by omega) hkp (by unfold errLn Plan.ln; rw [if_pos (by simp only [Bool.or_eq_true, Bool.or_eq_false_iff, Bool.false_eq_true, or_true, true_or, or_false, false_or, and_true, true_and, and_self, not_false_eq_true, not_true_eq_false, *])]) (by decide)]; rfl) | (rw [checkP_ln (k := k) (e := 2) hlo (by omega) (by omega) hkp (by unfold errLn Plan.ln; rw [if_neg (by rw [g1', g2', g3', c3]; decide), if_pos (by omega)]) (by decide)]; rfl)
                · intro g5; have g5' := g5; try simp only [td] at g5'
                  refine L_yes rfl rfl rfl g5 (X_p (p_fieldo fo60_2 rfl rfl) ?_)
                  refine L_yes rfl rfl rfl g5 (X_rd (r_load ag3 rfl rfl (by repeat first | exact mH | apply mT) rfl) ?_)
                  refine L_yes rfl rfl rfl g5 (X_p (p_fieldo fo60_3 rfl rfl) ?_)
                  refine L_yes rfl rfl rfl g5 (X_rd (r_load ag3 rfl rfl (by repeat first | exact mH | apply mT) rfl) ?_)
                  refine L_yes rfl rfl rfl g5 (X_p (p_gtr rfl rfl rfl) ?_)
                  refine L_go rfl (X_p (p_pick_f rfl rfl g5 rfl) ?_)
                  refine L_then (.cons (k := 1) rfl (.cons (k := 5) rfl (.cons (k := 61) rfl .nil))) ?_
                  refine V_cond rfl ?_ ?_
                  · intro c4; have c4r := c4; try simp only [td] at c4
                    refine V_seq (V_region rfl ?_)
                    refine L_go rfl (X_p (p_move rfl rfl) ?_)
                    refine L_go rfl (X_p (p_assign rfl rfl) ?_)
                    refine L_go rfl (X_p (p_assign rfl rfl) ?_)
                    refine L_go rfl (X_p (p_assign rfl rfl) ?_)
                    refine L_then (.cons (k := 2) rfl (.cons (k := 3) rfl (.cons (k := 4) rfl .nil))) ?_
                    refine V_ret (blk_r (then_r (then_r (blk_r (then_r ?_)))))
                    refine Leave.nil (.tmp rfl (.tmp rfl (.tmp rfl .nil))) ?_
                    first | (rw [checkP_long (by simpa using c1)]; rfl) | (rw [checkP_tail hlo hln (by rw [tailP_alt]; simp only [Bool.or_eq_true, Bool.or_eq_false_iff, Bool.false_eq_true, or_true, true_or, or_false, false_or, and_true, true_and, and_self, not_false_eq_true, not_true_eq_false, *])]; rfl) | (rw [checkP_ok hlo hln (by rw [tailP_alt]; simp only [Bool.or_eq_true, Bool.or_eq_false_iff, Bool.false_eq_true, or_true, true_or, or_false, false_or, and_true, true_and, and_self, not_false_eq_true, not_true_eq_false, *])]; rfl) | (rw [checkP_ln (k := k) (e := 7) hlo (by omega) (by omega) hkp (by unfold errLn Plan.ln; rw [if_pos (by simp only [Bool.or_eq_true, Bool.or_eq_false_iff, Bool.false_eq_true, or_true, true_or, or_false, false_or, and_true, true_and, and_self, not_false_eq_true, not_true_eq_false, *])]) (by decide)]; rfl) | (rw [checkP_ln (k := k) (e := 2) hlo (by omega) (by omega) hkp (by unfold errLn Plan.ln; rw [if_neg (by rw [g1', g2', g3', c3]; decide), if_pos (by omega)]) (by decide)]; rfl)
                  · intro c4; have c4r := c4; try simp only [td] at c4
                    refine V_skip (blk_n (then_n ?_))
                    refine V_region rfl ?_
                    refine L_go rfl (X_p (p_move rfl rfl) ?_)
                    first | refine L_go rfl (X_p (p_add' rfl rfl rfl (by unfold InI; omega)) ?_) | refine L_go rfl (X_p (p_add rfl rfl rfl) ?_)
                    refine L_go rfl (X_p (p_assign rfl rfl) ?_)
                    refine L_keep (.cons (k := 1) rfl (.cons (k := 5) rfl .nil)) (then_n ?_)
                    refine ⟨k + 1, ?_, ?_, (.cons rfl (.cons rfl (.nil _))), (by repeat (first | exact List.Sublist.refl _ | apply List.Sublist.cons_cons | apply List.Sublist.cons | apply List.sublist_append_of_sublist_right)), rfl⟩
                    · refine ⟨by omega, by omega, fun j hj => ?_⟩; by_cases e : (j : Int) < k
                      · exact hkp j e
                      · have ej : j = k.toNat := by omega
                        rw [ej]; unfold errLn Plan.ln; rw [if_neg (by rw [g1', g2', g3', c3]; decide), if_neg (by omega)]
                    · omega
              · intro g4; have g4' := g4; try simp only [td] at g4'
                refine L_no rfl rfl rfl g4 ?_
                refine L_no rfl rfl rfl g4 ?_
                refine L_no rfl rfl rfl g4 ?_
                refine L_go rfl (X_p (p_pick_f rfl rfl g4 rfl) ?_)
                refine L_go rfl (X_p (p_move rfl rfl) ?_)
                refine L_yes rfl rfl rfl rfl (X_p (p_fieldo fo60_2 rfl rfl) ?_)
                refine L_yes rfl rfl rfl rfl (X_rd (r_load ag3 rfl rfl (by repeat first | exact mH | apply mT) rfl) ?_)
                refine L_yes rfl rfl rfl rfl (X_p (p_fieldo fo60_3 rfl rfl) ?_)
                refine L_yes rfl rfl rfl rfl (X_rd (r_load ag3 rfl rfl (by repeat first | exact mH | apply mT) rfl) ?_)
                refine L_yes rfl rfl rfl rfl (X_p (p_gtr rfl rfl rfl) ?_)
                refine L_go rfl (X_p (p_pick_f rfl rfl rfl rfl) ?_)
                refine L_then (.cons (k := 1) rfl (.cons (k := 5) rfl (.cons (k := 61) rfl .nil))) ?_
                refine V_cond rfl ?_ ?_
                · intro c5; have c5r := c5; try simp only [td] at c5
                  refine V_seq (V_region rfl ?_)
                  refine L_go rfl (X_p (p_move rfl rfl) ?_)
                  refine L_go rfl (X_p (p_assign rfl rfl) ?_)
                  refine L_go rfl (X_p (p_assign rfl rfl) ?_)
                  refine L_go rfl (X_p (p_assign rfl rfl) ?_)
                  refine L_then (.cons (k := 2) rfl (.cons (k := 3) rfl (.cons (k := 4) rfl .nil))) ?_
                  refine V_ret (blk_r (then_r (then_r (blk_r (then_r ?_)))))
                  refine Leave.nil (.tmp rfl (.tmp rfl (.tmp rfl .nil))) ?_
                  first | (rw [checkP_long (by simpa using c1)]; rfl) | (rw [checkP_tail hlo hln (by rw [tailP_alt]; simp only [Bool.or_eq_true, Bool.or_eq_false_iff, Bool.false_eq_true, or_true, true_or, or_false, false_or, and_true, true_and, and_self, not_false_eq_true, not_true_eq_false, *])]; rfl) | (rw [checkP_ok hlo hln (by rw [tailP_alt]; simp only [Bool.or_eq_true, Bool.or_eq_false_iff, Bool.false_eq_true, or_true, true_or, or_false, false_or, and_true, true_and, and_self, not_false_eq_true, not_true_eq_false, *])]; rfl) | (rw [checkP_ln (k := k) (e := 7) hlo (by omega) (by omega) hkp (by unfold errLn Plan.ln; rw [if_pos (by simp only [Bool.or_eq_true, Bool.or_eq_false_iff, Bool.false_eq_true, or_true, true_or, or_false, false_or, and_true, true_and, and_self, not_false_eq_true, not_true_eq_false, *])]) (by decide)]; rfl) | (rw [checkP_ln (k := k) (e := 2) hlo (by omega) (by omega) hkp (by unfold errLn Plan.ln; rw [if_neg (by rw [g1', g2', g3', c3]; decide), if_pos (by omega)]) (by decide)]; rfl)
                · intro c5; have c5r := c5; try simp only [td] at c5
                  refine V_skip (blk_n (then_n ?_))
                  refine V_region rfl ?_
                  refine L_go rfl (X_p (p_move rfl rfl) ?_)
                  first | refine L_go rfl (X_p (p_add' rfl rfl rfl (by unfold InI; omega)) ?_) | refine L_go rfl (X_p (p_add rfl rfl rfl) ?_)
                  refine L_go rfl (X_p (p_assign rfl rfl) ?_)
                  refine L_keep (.cons (k := 1) rfl (.cons (k := 5) rfl .nil)) (then_n ?_)
                  refine ⟨k + 1, ?_, ?_, (.cons rfl (.cons rfl (.nil _))), (by repeat (first | exact List.Sublist.refl _ | apply List.Sublist.cons_cons | apply List.Sublist.cons | apply List.sublist_append_of_sublist_right)), rfl⟩
                  · refine ⟨by omega, by omega, fun j hj => ?_⟩; by_cases e : (j : Int) < k
                    · exact hkp j e
                    · have ej : j = k.toNat := by omega
                      rw [ej]; unfold errLn Plan.ln; rw [if_neg (by rw [g1', g2', g3', c3]; decide), if_neg (by omega)]
                  · omega
    · intro c2; have c2r := c2; try simp only [td] at c2
      have hln : ∀ j : Nat, j < p.lines.length → errLn (p.ln j) = 0 := fun j hj => hkp j (by omega)
      refine V_exit (then_e (then_e (blk_e rfl (then_n ?_))))
      refine V_seq ?_
      refine V_seq (V_region rfl ?_)
      refine L_go rfl (X_p (p_fieldo fo26_1 rfl rfl) ?_)
      refine L_go rfl (X_p (p_fieldo fo24_0 rfl rfl) ?_)
      refine L_go rfl (X_rd (r_load ag3 rfl rfl (by repeat first | exact mH | apply mT) rfl) ?_)
      refine L_go rfl (X_wr (w_callP rfl rfl rfl (fun w hg => drin_c _ _ _ w)) ?_)
      rintro _ _ ⟨rfl, rfl⟩
      refine L_go rfl (X_p (p_not rfl rfl) ?_)
      refine L_go rfl (X_p (p_move rfl rfl) ?_)
      refine L_cases (d := 68) rfl ?_ ?_
      · intro g6; have g6' := g6; try simp only [td] at g6'
        refine L_no rfl rfl rfl g6 ?_
        refine L_no rfl rfl rfl g6 ?_
        refine L_no rfl rfl rfl g6 ?_
        refine L_no rfl rfl rfl g6 ?_
        refine L_no rfl rfl rfl g6 ?_
        refine L_no rfl rfl rfl g6 ?_
        refine L_no rfl rfl rfl g6 ?_
        refine L_no rfl rfl rfl g6 ?_
        refine L_go rfl (X_p (p_pick_t rfl rfl g6 rfl) ?_)
        refine L_go rfl (X_p (p_move rfl rfl) ?_)
        refine L_no rfl rfl rfl rfl ?_
        refine L_no rfl rfl rfl rfl ?_
        refine L_no rfl rfl rfl rfl ?_
        refine L_no rfl rfl rfl rfl ?_
        refine L_go rfl (X_p (p_pick_t rfl rfl rfl rfl) ?_)
        refine L_go rfl (X_p (p_move rfl rfl) ?_)
        refine L_no rfl rfl rfl rfl ?_
        refine L_no rfl rfl rfl rfl ?_
        refine L_no rfl rfl rfl rfl ?_
        refine L_no rfl rfl rfl rfl ?_
        refine L_go rfl (X_p (p_pick_t rfl rfl rfl rfl) ?_)
        refine L_then (.cons (k := 89) rfl .nil) ?_
        refine V_cond_t rfl rfl ?_
        refine V_seq (V_region rfl ?_)
        refine L_go rfl (X_p (p_assign rfl rfl) ?_)
        refine L_go rfl (X_p (p_assign rfl rfl) ?_)
        refine L_go rfl (X_p (p_assign rfl rfl) ?_)
        refine L_then (.cons (k := 2) rfl (.cons (k := 3) rfl (.cons (k := 4) rfl .nil))) ?_
        refine V_ret (then_r ?_)
        refine Leave.nil (.tmp rfl (.tmp rfl (.tmp rfl .nil))) ?_
        first | (rw [checkP_long (by simpa using c1)]; rfl) | (rw [checkP_tail hlo hln (by rw [tailP_alt]; simp only [Bool.or_eq_true, Bool.or_eq_false_iff, Bool.false_eq_true, or_true, true_or, or_false, false_or, and_true, true_and, and_self, not_false_eq_true, not_true_eq_false, *])]; rfl) | (rw [checkP_ok hlo hln (by rw [tailP_alt]; simp only [Bool.or_eq_true, Bool.or_eq_false_iff, Bool.false_eq_true, or_true, true_or, or_false, false_or, and_true, true_and, and_self, not_false_eq_true, not_true_eq_false, *])]; rfl) | (rw [checkP_ln (k := k) (e := 7) hlo (by omega) (by omega) hkp (by unfold errLn Plan.ln; rw [if_pos (by simp only [Bool.or_eq_true, Bool.or_eq_false_iff, Bool.false_eq_true, or_true, true_or, or_false, false_or, and_true, true_and, and_self, not_false_eq_true, not_true_eq_false, *])]) (by decide)]; rfl) | (rw [checkP_ln (k := k) (e := 2) hlo (by omega) (by omega) hkp (by unfold errLn Plan.ln; rw [if_neg (by rw [g1', g2', g3', c3]; decide), if_pos (by omega)]) (by decide)]; rfl)
      · intro g6; have g6' := g6; try simp only [td] at g6'
        refine L_yes rfl rfl rfl g6 (X_p (p_fieldo fo26_1 rfl rfl) ?_)
        refine L_yes rfl rfl rfl g6 (X_p (p_fieldo fo24_1 rfl rfl) ?_)
        refine L_yes rfl rfl rfl g6 (X_rd (r_load ag3 rfl rfl (by repeat first | exact mH | apply mT) rfl) ?_)
        refine L_yes rfl rfl rfl g6 (X_p (p_fieldo fo26_1 rfl rfl) ?_)
        refine L_yes rfl rfl rfl g6 (X_p (p_fieldo fo24_0 rfl rfl) ?_)
        refine L_yes rfl rfl rfl g6 (X_rd (r_load ag3 rfl rfl (by repeat first | exact mH | apply mT) rfl) ?_)
        refine L_yes rfl rfl rfl g6 (X_wr (w_callP rfl rfl rfl (fun w hg => drin_c _ _ _ w)) ?_)
        rintro _ _ ⟨rfl, rfl⟩
        refine L_yes rfl rfl rfl g6 (X_p (p_not rfl rfl) ?_)
        refine L_go rfl (X_p (p_pick_f rfl rfl g6 rfl) ?_)
        refine L_go rfl (X_p (p_move rfl rfl) ?_)
        refine L_cases (d := 78) rfl ?_ ?_
        · intro g7; have g7' := g7; try simp only [td] at g7'
          refine L_no rfl rfl rfl g7 ?_
          refine L_no rfl rfl rfl g7 ?_
          refine L_no rfl rfl rfl g7 ?_
          refine L_no rfl rfl rfl g7 ?_
          refine L_go rfl (X_p (p_pick_t rfl rfl g7 rfl) ?_)
          refine L_go rfl (X_p (p_move rfl rfl) ?_)
          refine L_no rfl rfl rfl rfl ?_
          refine L_no rfl rfl rfl rfl ?_
          refine L_no rfl rfl rfl rfl ?_
          refine L_no rfl rfl rfl rfl ?_
          refine L_go rfl (X_p (p_pick_t rfl rfl rfl rfl) ?_)
          refine L_then (.cons (k := 89) rfl .nil) ?_
          refine V_cond_t rfl rfl ?_
          refine V_seq (V_region rfl ?_)
          refine L_go rfl (X_p (p_assign rfl rfl) ?_)
          refine L_go rfl (X_p (p_assign rfl rfl) ?_)
          refine L_go rfl (X_p (p_assign rfl rfl) ?_)
          refine L_then (.cons (k := 2) rfl (.cons (k := 3) rfl (.cons (k := 4) rfl .nil))) ?_
          refine V_ret (then_r ?_)
          refine Leave.nil (.tmp rfl (.tmp rfl (.tmp rfl .nil))) ?_
          first | (rw [checkP_long (by simpa using c1)]; rfl) | (rw [checkP_tail hlo hln (by rw [tailP_alt]; simp only [Bool.or_eq_true, Bool.or_eq_false_iff, Bool.false_eq_true, or_true, true_or, or_false, false_or, and_true, true_and, and_self, not_false_eq_true, not_true_eq_false, *])]; rfl) | (rw [checkP_ok hlo hln (by rw [tailP_alt]; simp only [Bool.or_eq_true, Bool.or_eq_false_iff, Bool.false_eq_true, or_true, true_or, or_false, false_or, and_true, true_and, and_self, not_false_eq_true, not_true_eq_false, *])]; rfl) | (rw [checkP_ln (k := k) (e := 7) hlo (by omega) (by omega) hkp (by unfold errLn Plan.ln; rw [if_pos (by simp only [Bool.or_eq_true, Bool.or_eq_false_iff, Bool.false_eq_true, or_true, true_or, or_false, false_or, and_true, true_and, and_self, not_false_eq_true, not_true_eq_false, *])]) (by decide)]; rfl) | (rw [checkP_ln (k := k) (e := 2) hlo (by omega) (by omega) hkp (by unfold errLn Plan.ln; rw [if_neg (by rw [g1', g2', g3', c3]; decide), if_pos (by omega)]) (by decide)]; rfl)
        · intro g7; have g7' := g7; try simp only [td] at g7'
          refine L_yes rfl rfl rfl g7 (X_p (p_fieldo fo26_2 rfl rfl) ?_)
          refine L_yes rfl rfl rfl g7 (X_rd (r_load ag3 rfl rfl (by repeat first | exact mH | apply mT) rfl) ?_)
          refine L_yes rfl rfl rfl g7 (X_wr (w_callP rfl rfl rfl (fun w hg => drin_c _ _ _ w)) ?_)
          rintro _ _ ⟨rfl, rfl⟩
          refine L_yes rfl rfl rfl g7 (X_p (p_not rfl rfl) ?_)
          refine L_go rfl (X_p (p_pick_f rfl rfl g7 rfl) ?_)
          refine L_go rfl (X_p (p_move rfl rfl) ?_)
          refine L_cases (d := 84) rfl ?_ ?_
          · intro g8; have g8' := g8; try simp only [td] at g8'
            refine L_no rfl rfl rfl g8 ?_
            refine L_no rfl rfl rfl g8 ?_
            refine L_no rfl rfl rfl g8 ?_
            refine L_no rfl rfl rfl g8 ?_
            refine L_go rfl (X_p (p_pick_t rfl rfl g8 rfl) ?_)
            refine L_then (.cons (k := 89) rfl .nil) ?_
            refine V_cond_t rfl rfl ?_
            refine V_seq (V_region rfl ?_)
            refine L_go rfl (X_p (p_assign rfl rfl) ?_)
            refine L_go rfl (X_p (p_assign rfl rfl) ?_)
            refine L_go rfl (X_p (p_assign rfl rfl) ?_)
            refine L_then (.cons (k := 2) rfl (.cons (k := 3) rfl (.cons (k := 4) rfl .nil))) ?_
            refine V_ret (then_r ?_)
            refine Leave.nil (.tmp rfl (.tmp rfl (.tmp rfl .nil))) ?_
            first | (rw [checkP_long (by simpa using c1)]; rfl) | (rw [checkP_tail hlo hln (by rw [tailP_alt]; simp only [Bool.or_eq_true, Bool.or_eq_false_iff, Bool.false_eq_true, or_true, true_or, or_false, false_or, and_true, true_and, and_self, not_false_eq_true, not_true_eq_false, *])]; rfl) | (rw [checkP_ok hlo hln (by rw [tailP_alt]; simp only [Bool.or_eq_true, Bool.or_eq_false_iff, Bool.false_eq_true, or_true, true_or, or_false, false_or, and_true, true_and, and_self, not_false_eq_true, not_true_eq_false, *])]; rfl) | (rw [checkP_ln (k := k) (e := 7) hlo (by omega) (by omega) hkp (by unfold errLn Plan.ln; rw [if_pos (by simp only [Bool.or_eq_true, Bool.or_eq_false_iff, Bool.false_eq_true, or_true, true_or, or_false, false_or, and_true, true_and, and_self, not_false_eq_true, not_true_eq_false, *])]) (by decide)]; rfl) | (rw [checkP_ln (k := k) (e := 2) hlo (by omega) (by omega) hkp (by unfold errLn Plan.ln; rw [if_neg (by rw [g1', g2', g3', c3]; decide), if_pos (by omega)]) (by decide)]; rfl)
          · intro g8; have g8' := g8; try simp only [td] at g8'
            refine L_yes rfl rfl rfl g8 (X_p (p_fieldo fo26_3 rfl rfl) ?_)
            refine L_yes rfl rfl rfl g8 (X_rd (r_load ag3 rfl rfl (by repeat first | exact mH | apply mT) rfl) ?_)
            refine L_yes rfl rfl rfl g8 (X_wr (w_callP rfl rfl rfl (fun w hg => drin_c _ _ _ w)) ?_)
            rintro _ _ ⟨rfl, rfl⟩
            refine L_yes rfl rfl rfl g8 (X_p (p_not rfl rfl) ?_)
            refine L_go rfl (X_p (p_pick_f rfl rfl g8 rfl) ?_)
            refine L_then (.cons (k := 89) rfl .nil) ?_
            refine V_cond rfl ?_ ?_
            · intro c6; have c6r := c6; try simp only [td] at c6
              refine V_seq (V_region rfl ?_)
              refine L_go rfl (X_p (p_assign rfl rfl) ?_)
              refine L_go rfl (X_p (p_assign rfl rfl) ?_)
              refine L_go rfl (X_p (p_assign rfl rfl) ?_)
              refine L_then (.cons (k := 2) rfl (.cons (k := 3) rfl (.cons (k := 4) rfl .nil))) ?_
              refine V_ret (then_r ?_)
              refine Leave.nil (.tmp rfl (.tmp rfl (.tmp rfl .nil))) ?_
              first | (rw [checkP_long (by simpa using c1)]; rfl) | (rw [checkP_tail hlo hln (by rw [tailP_alt]; simp only [Bool.or_eq_true, Bool.or_eq_false_iff, Bool.false_eq_true, or_true, true_or, or_false, false_or, and_true, true_and, and_self, not_false_eq_true, not_true_eq_false, *])]; rfl) | (rw [checkP_ok hlo hln (by rw [tailP_alt]; simp only [Bool.or_eq_true, Bool.or_eq_false_iff, Bool.false_eq_true, or_true, true_or, or_false, false_or, and_true, true_and, and_self, not_false_eq_true, not_true_eq_false, *])]; rfl) | (rw [checkP_ln (k := k) (e := 7) hlo (by omega) (by omega) hkp (by unfold errLn Plan.ln; rw [if_pos (by simp only [Bool.or_eq_true, Bool.or_eq_false_iff, Bool.false_eq_true, or_true, true_or, or_false, false_or, and_true, true_and, and_self, not_false_eq_true, not_true_eq_false, *])]) (by decide)]; rfl) | (rw [checkP_ln (k := k) (e := 2) hlo (by omega) (by omega) hkp (by unfold errLn Plan.ln; rw [if_neg (by rw [g1', g2', g3', c3]; decide), if_pos (by omega)]) (by decide)]; rfl)
            · intro c6; have c6r := c6; try simp only [td] at c6
              refine V_skip (then_n ?_)
              refine V_seq (V_region rfl ?_)
              refine L_go rfl (X_p (p_assign rfl rfl) ?_)
              refine L_go rfl (X_p (p_assign rfl rfl) ?_)
              refine L_go rfl (X_p (p_assign rfl rfl) ?_)
              refine L_then (.cons (k := 2) rfl (.cons (k := 3) rfl (.cons (k := 4) rfl .nil))) ?_
              refine V_ret ?_
              refine Leave.nil (.tmp rfl (.tmp rfl (.tmp rfl .nil))) ?_
              first | (rw [checkP_long (by simpa using c1)]; rfl) | (rw [checkP_tail hlo hln (by rw [tailP_alt]; simp only [Bool.or_eq_true, Bool.or_eq_false_iff, Bool.false_eq_true, or_true, true_or, or_false, false_or, and_true, true_and, and_self, not_false_eq_true, not_true_eq_false, *])]; rfl) | (rw [checkP_ok hlo hln (by rw [tailP_alt]; simp only [Bool.or_eq_true, Bool.or_eq_false_iff, Bool.false_eq_true, or_true, true_or, or_false, false_or, and_true, true_and, and_self, not_false_eq_true, not_true_eq_false, *])]; rfl) | (rw [checkP_ln (k := k) (e := 7) hlo (by omega) (by omega) hkp (by unfold errLn Plan.ln; rw [if_pos (by simp only [Bool.or_eq_true, Bool.or_eq_false_iff, Bool.false_eq_true, or_true, true_or, or_false, false_or, and_true, true_and, and_self, not_false_eq_true, not_true_eq_false, *])]) (by decide)]; rfl) | (rw [checkP_ln (k := k) (e := 2) hlo (by omega) (by omega) hkp (by unfold errLn Plan.ln; rw [if_neg (by rw [g1', g2', g3', c3]; decide), if_pos (by omega)]) (by decide)]; rfl)

end Go.Proofs.YtlcccpeelombbaaDoor

/- Layer 5: arguments opened; a row's last step. -/
set_option linter.all false
namespace Go.Vc
open Go.ChangeShapes Go.WideShapes Go.RowKit

/-! ### values without references -/

def Leaf.ok : Leaf → Value → Prop
  | .int k, v => ∃ n, v = .int k n ∧ (Lit.int k n).wf = true
  | .str, v => ∃ s : ByteArray, v = .string s ∧ s.size ≤ maxLen
  | .bool, v => ∃ b, v = .bool b

def OkL : List Leaf → List Value → Prop
  | [], [] => True
  | l :: ls, v :: vs => l.ok v ∧ OkL ls vs
  | _, _ => False

theorem OkL.cons {l : Leaf} {ls : List Leaf} {cs : List Value} (h : OkL (l :: ls) cs) : ∃ v vs, cs = v :: vs ∧ l.ok v ∧ OkL ls vs := by
  cases cs with
  | nil => exact h.elim
  | cons v vs => exact ⟨v, vs, rfl, h.1, h.2⟩
theorem OkL.nil {cs : List Value} (h : OkL [] cs) : cs = [] := by
  cases cs with
  | nil => rfl
  | cons v vs => exact h.elim
theorem OkL.int {k : IntKind} {ls : List Leaf} {cs : List Value} (h : OkL (.int k :: ls) cs) : ∃ n vs, cs = .int k n :: vs ∧ (Lit.int k n).wf = true ∧ OkL ls vs := by
  obtain ⟨v, vs, rfl, ⟨n, rfl, hw⟩, h2⟩ := h.cons
  exact ⟨n, vs, rfl, hw, h2⟩

theorem OkL.app {l : List Leaf} : ∀ {r : List Leaf} {cs : List Value}, OkL l (cs.take l.length) → OkL r (cs.drop l.length) → OkL (l ++ r) cs := by
  induction l with
  | nil => intro r cs _ h; exact h
  | cons a l ih =>
    intro r cs h1 h2
    cases cs with
    | nil => exact h1.elim
    | cons v vs => exact ⟨h1.1, ih h1.2 h2⟩

def flatF (P : Program) (fl : TypeId → Option (List Leaf)) : List Field → Nat → Option (List Leaf)
  | [], _ => some []
  | f :: fs, off => if f.offset ≠ off then none else match fl f.type with
    | none => none
    | some l => if P.cellsOf f.type ≠ l.length then none else match flatF P fl fs (off + l.length) with
      | none => none
      | some r => some (l ++ r)

def flatA : Nat → List Leaf → List Leaf
  | 0, _ => []
  | n + 1, l => l ++ flatA n l

/-- the leaves of a type without references -/
def flat (P : Program) : Nat → TypeId → Option (List Leaf)
  | 0, _ => none
  | d + 1, t => match P.underlying t with
    | some (.int k) => some [.int k]
    | some .string => some [.str]
    | some .bool => some [.bool]
    | some (.struct fs) => match flatF P (flat P d) fs.toList 0 with
      | some r => if P.cellsOf t = r.length then some r else none
      | none => none
    | some (.array n e) => match flat P d e with
      | some l => if P.cellsOf e = l.length ∧ P.cellsOf t = n * l.length then some (flatA n l) else none
      | none => none
    | _ => none

theorem flatA_length (l : List Leaf) : ∀ n, (flatA n l).length = n * l.length
  | 0 => by simp [flatA]
  | n + 1 => by simp [flatA, flatA_length l n, Nat.add_mul]; omega

theorem flatF_ok {P : Program} {fl : TypeId → Option (List Leaf)} {cs : List Value} : ∀ (fs : List Field) (off : Nat) (r : List Leaf), flatF P fl fs off = some r →
    (∀ f ∈ fs, ∀ l, fl f.type = some l → P.cellsOf f.type = l.length → OkL l ((cs.drop f.offset).take l.length)) → OkL r ((cs.drop off).take r.length) := by
  intro fs
  induction fs with
  | nil => intro off r h _; simp only [flatF, Option.some.injEq] at h; subst h; simp [OkL]
  | cons f fs ih =>
    intro off r h hf
    simp only [flatF] at h
    split at h
    · cases h
    · rename_i ho
      cases hl : fl f.type with
      | none => simp [hl] at h
      | some l =>
        simp only [hl] at h
        split at h
        · cases h
        · rename_i hc
          cases hr : flatF P fl fs (off + l.length) with
          | none => simp [hr] at h
          | some r' =>
            simp only [hr, Option.some.injEq] at h
            subst h
            have ho' : f.offset = off := Decidable.of_not_not ho
            have h1 := hf f (.head _) l hl (Decidable.of_not_not hc)
            rw [ho'] at h1
            have h2 := ih (off + l.length) r' hr (fun g hg => hf g (.tail _ hg))
            refine OkL.app ?_ ?_
            · rw [List.take_take, List.length_append, Nat.min_eq_left (Nat.le_add_right _ _)]; exact h1
            · rw [List.length_append, List.drop_take, List.drop_drop, Nat.add_sub_cancel_left]; exact h2

theorem flatA_ok {l : List Leaf} {cs : List Value} : ∀ (n k : Nat), (∀ i, i < n → OkL l ((cs.drop ((k + i) * l.length)).take l.length)) → OkL (flatA n l) ((cs.drop (k * l.length)).take (n * l.length)) := by
  intro n
  induction n with
  | zero => intro k _; simp [flatA, OkL]
  | succ n ih =>
    intro k h
    refine OkL.app ?_ ?_
    · rw [List.take_take, Nat.min_eq_left (by rw [Nat.add_mul]; omega)]; simpa using h 0 (by omega)
    · have h2 := ih (k + 1) (fun i hi => by have := h (i + 1) (by omega); rwa [show k + (i + 1) = k + 1 + i by omega] at this)
      rw [List.drop_take, List.drop_drop, show k * l.length + l.length = (k + 1) * l.length by rw [Nat.add_mul]; omega, show (n + 1) * l.length - l.length = n * l.length by rw [Nat.add_mul]; omega]
      exact h2

section
variable {H : Type} {enc : TypeId × Value → H} {P : Program} {w : World} {base : Nat} {spare : Nat → Bool} {held : Bool}

theorem flat_ok : ∀ (d : Nat) (t : TypeId) (ls : List Leaf), flat P d t = some ls → ∀ (fuel : Nat) (cs : List Value) (x : DataW H × List MemPlace), DataW.trod enc P w base spare held fuel t cs = some x → OkL ls cs := by
  intro d
  induction d with
  | zero => intro t ls h; simp [flat] at h
  | succ d ih =>
    intro t ls h fuel cs x hx
    simp only [flat] at h
    split at h
    · rename_i k hu
      cases h
      obtain ⟨n, rfl, _, hw⟩ := DataW.trod_int hu hx
      exact ⟨⟨n, rfl, hw⟩, trivial⟩
    · rename_i hu
      cases h
      obtain ⟨s, rfl, _, hs⟩ := DataW.trod_string hu hx
      exact ⟨⟨s, rfl, hs⟩, trivial⟩
    · rename_i hu
      cases h
      obtain ⟨b, rfl, _⟩ := DataW.trod_bool hu hx
      exact ⟨⟨b, rfl⟩, trivial⟩
    · rename_i fs hu
      split at h
      · rename_i r hr
        split at h
        · rename_i hc
          simp only [Option.some.injEq] at h
          subst h
          obtain ⟨xs, n, _, _, hlen, hxl, hf⟩ := DataW.trod_struct hu hx
          have := flatF_ok (cs := cs) fs.toList 0 r hr (fun f hfm l hl hcl => by
            obtain ⟨i, hi, hfi⟩ := List.getElem_of_mem hfm
            have hfi' : fs[i]? = some f := by rw [← Array.getElem?_toList, List.getElem?_eq_getElem hi, hfi]
            have h1 := hf i f hfi'
            rw [hcl] at h1
            have hi' : i < xs.length := by rw [hxl]; simpa using hi
            rw [List.getElem?_eq_getElem hi'] at h1
            exact ih f.type l hl n _ _ h1)
          rw [List.drop_zero, ← hc, ← hlen, List.take_length] at this
          exact this
        · cases h
      · cases h
    · rename_i n e hu
      split at h
      · rename_i l hl
        split at h
        · rename_i hc
          cases h
          obtain ⟨xs, m, _, _, hlen, hxl, hf⟩ := DataW.trod_array hu hx
          have := flatA_ok (l := l) (cs := cs) n 0 (fun i hi => by
            have h1 := hf i hi
            rw [hc.1] at h1
            rw [List.getElem?_eq_getElem (by omega)] at h1
            rw [Nat.zero_add]
            exact ih e l hl m _ _ h1)
          rw [Nat.zero_mul, List.drop_zero, ← hc.2, ← hlen, List.take_length] at this
          exact this
        · cases h
      · cases h
    · cases h

theorem list_of {α : Type} {Q : Nat → α → Prop} : ∀ n, (∀ i, i < n → ∃ x, Q i x) → ∃ l : List α, l.length = n ∧ ∀ i x, l[i]? = some x → Q i x := by
  intro n
  induction n with
  | zero => intro _; exact ⟨[], rfl, fun i x h => by simp at h⟩
  | succ n ih =>
    intro h
    obtain ⟨l, hl, hq⟩ := ih (fun i hi => h i (by omega))
    obtain ⟨x, hx⟩ := h n (by omega)
    refine ⟨l ++ [x], by simp [hl], fun i y hi => ?_⟩
    rw [List.getElem?_append] at hi
    split at hi
    · exact hq i y hi
    · rename_i hge
      have hlt := (List.getElem?_eq_some_iff.1 hi).1
      simp only [List.length_cons, List.length_nil] at hlt
      have h0 : i - l.length = 0 := by omega
      rw [h0] at hi
      simp only [List.getElem?_cons_zero, Option.some.injEq] at hi
      subst hi
      rw [show i = n by omega]; exact hx

/-- a slice of values without references -/
theorem slice_ok {t e : TypeId} {ls : List Leaf} {d fuel : Nat} {cs : List Value} {x : DataW H × List MemPlace} (ht : P.underlying t = some (.slice e)) (hf : flat P d e = some ls) (hc : P.cellsOf e = ls.length)
    (h : DataW.trod enc P w base spare held fuel t cs = some x) : ∃ v els, cs = [v] ∧ Go.Tk.SliceR w ls.length v els ∧ (∀ e ∈ els, OkL ls e) ∧ els.length ≤ maxLen := by
  rcases Go.Deep.open_slice ht h with ⟨rfl, _⟩ | ⟨a, len, cap, m, n, D, Pl, rfl, hb, hl, hm, hmm, hx, hi⟩
  · exact ⟨_, [], rfl, Go.Tk.SliceR.nil w _, (fun e he => absurd he List.not_mem_nil), Nat.zero_le _⟩
  · have hlm : len ≤ m := by rw [hmm]; split <;> omega
    obtain ⟨els, hel, hq⟩ := list_of (Q := fun i (e : List Value) => cellsAt w (a.add (i * ls.length)) e ∧ OkL ls e) len (fun i him => by
      obtain ⟨cs', hcs, ht'⟩ := hi i (by omega)
      rw [hc] at hcs
      obtain ⟨_, hcl, hat⟩ := World.cells?_some hcs
      refine ⟨cs', fun j v hj => ?_, flat_ok d e ls hf n cs' _ ht'⟩
      have hjl : j < cs'.length := (List.getElem?_eq_some_iff.1 hj).1
      rw [hat j (by omega)]
      exact hj)
    refine ⟨_, els, rfl, ⟨some a, cap, by rw [hel], by omega, fun i e he => ⟨a, rfl, (hq i e he).1⟩⟩, fun e he => ?_, by omega⟩
    obtain ⟨i, hi, rfl⟩ := List.getElem_of_mem he
    exact (hq i _ (List.getElem?_eq_getElem hi)).2

theorem map_of {α : Type} {f : α → List Value} {Q : α → Prop} : ∀ {els : List (List Value)}, (∀ e ∈ els, ∃ x, e = f x ∧ Q x) → ∃ l : List α, els = l.map f ∧ ∀ x ∈ l, Q x := by
  intro els
  induction els with
  | nil => intro _; exact ⟨[], rfl, fun x h => by cases h⟩
  | cons e els ih =>
    intro h
    obtain ⟨x, rfl, hx⟩ := h e (.head _)
    obtain ⟨l, rfl, hl⟩ := ih (fun e he => h e (.tail _ he))
    exact ⟨x :: l, rfl, fun y hy => (List.mem_cons.1 hy).elim (fun e => e ▸ hx) (hl y)⟩
end

theorem calls_of {P : Program} {f : FuncId} {args : List Value} {w : World} {R : Value → World → Prop} (h : FnC P f args w R) : Calls P f args.toArray w (fun e w' => ∃ v, e = .returned v ∧ R v w') := callsIn_wide.1 h.calls

/-! ### a row's last step: nothing that lay has turned, and the answer is true -/
section
variable {H : Type} {enc : TypeId × Value → H} {P : Program}

theorem Ext.kept {W W' : World} (h : Ext W W') (may : MemPlace → Prop) : W.keptBut W' may := by
  refine ⟨h.io.1, h.io.2, fun i hi => ?_⟩
  rw [h.same i hi]
  split <;> simp_all

theorem Ext.sameAt {W W' : World} (h : Ext W W') {p : MemPlace} (hp : p.block < W.heap.size) : W.sameAt W' p := by
  cases p with
  | cell b o => exact World.cell?_of_block (w := W) (h.same b hp)
  | map b => exact h.same b hp

theorem TrodAll_stays {W W' : World} {sp : Nat → Bool} (hl : laidOutB P = true) (hE : Ext W W') : ∀ {ts : List TypeId} {vs : List Value} {ds : List (DataW H)} {ps : List MemPlace}, (ts.all fun t => P.readableRec t && Nat.blt t P.types.size) = true →
    DataW.TrodAll enc P W 0 (fun _ => true) true ts vs ds ps → (∀ p ∈ ps, p.block < W.heap.size) → (∀ p ∈ ps, sp p.block = true) → DataW.TrodAll enc P W' 0 sp true ts vs ds ps
  | [], [], [], _, _, h, _, _ => h
  | t :: _, _ :: _, _ :: _, _, ht, ⟨p, q, h1, h2, e⟩, hlt, hs => by
    simp only [List.all_cons, Bool.and_eq_true] at ht
    subst e
    refine ⟨p, q, Go.WideElems.Trod_stays hl ht.1.1 (Nat.le_of_ble_eq_true ht.1.2) h1 (fun x hx => hE.sameAt (hlt x (List.mem_append_left _ hx))) (fun x hx => hs x (List.mem_append_left _ hx)), ?_, rfl⟩
    exact TrodAll_stays hl hE ht.2 h2 (fun x hx => hlt x (List.mem_append_right _ hx)) (fun x hx => hs x (List.mem_append_right _ hx))

theorem post_true {f : Func} {s : ChangeSpec} {apart fresh handsOn again : Bool} {W W' : World} {args : Array Value} {ds gs : List (DataW H)} {before : List MemPlace} {tb : TypeId}
    (hW : DataW.Whole enc P f.params.toList s.vars apart W args.toList ds gs before) (hv : s.vars = []) (hE : Ext W W') (hl : laidOutB P = true) (hts : (f.params.toList.all fun t => P.readableRec t && Nat.blt t P.types.size) = true)
    (h1 : (s.fn H ds).results = [.lit (.bool true)]) (h2 : (s.fn H ds).args = ds) (h3 : (s.fn H ds).vars = []) (hr : f.resultTypes = #[tb]) (hb : P.underlying tb = some .bool) :
    s.post enc P f apart fresh handsOn again W args (.bool true) W' := by
  have hlt : ∀ p ∈ before, p.block < W.heap.size := fun p hp => hW.lt p hp
  have hW' := hW
  obtain ⟨p, q, hA, hV, rfl, hz, hn⟩ := hW
  rw [hv] at hV
  obtain ⟨rfl, rfl⟩ := trodVars_none hV
  simp only [List.append_nil] at hW' hlt hz hn
  have hres : ∀ (b : Nat) (sp : Nat → Bool) (hd : Bool), DataW.TrodAll enc P W' b sp hd f.resultTypes.toList ((Value.bool true).resultList f.resultTypes.size) (s.fn H (ds ++ [])).results [] := by
    intro b sp hd
    rw [List.append_nil, h1, hr]
    exact trodAll_mk1 (shut_bool hb _)
  have hargs : ∀ sp : Nat → Bool, (∀ x ∈ p, sp x.block = true) → DataW.TrodAll enc P W' 0 sp true f.params.toList args.toList (s.fn H (ds ++ [])).args p := by
    intro sp hsp
    rw [List.append_nil, h2]
    exact TrodAll_stays hl hE hts hA hlt hsp
  have hvars : ∀ sp : Nat → Bool, DataW.TrodVars enc P W' sp s.vars (s.fn H (ds ++ [])).vars [] := by
    intro sp
    rw [List.append_nil, h3, hv]; rfl
  have hold : ∀ x ∈ p, (fun b => decide (b < W.heap.size)) x.block = true := fun x hx => by simpa using hlt x hx
  refine ⟨ds, [], p, [], p, [], hW', hres _ _ _, hargs _ hold, hvars _, hE.kept _, fun _ => ?_⟩
  refine ⟨ok_one hr rfl (okWide_bool_mk hb _), _, _, ([] ++ p) ++ [], ⟨[] ++ p, [], trodAll_append (hargs _ (fun _ _ => rfl)) (hres _ _ _), hvars _, rfl, ?_, ?_⟩, ?_⟩
  · intro b off hp
    simp only [List.nil_append, List.append_nil] at hp
    rw [World.frozen?_of_block (w := W) (hE.same b (hlt _ hp))]
    exact hz b off hp
  · intro ha
    simpa using hn ha
  · intro x hx _
    simpa using hx
end
end Go.Vc

namespace Go.Tk
open Go.Vc Go.ChangeShapes Go.WideShapes Go.RowKit

def trLeaves : List Leaf := [.str, .int .i64, .int .i64, .int .i64, .int .i64, .int .i64]
def plLeaves : List Leaf := [.int .i64, .int .i64, .int .i64, .int .i64, .int .i64]

/-- t is the type of a task -/
def taskTy (P : Program) (t : TypeId) : Bool := match P.underlying t with
  | some (.struct fs) => match fs.toList with
    | [f0, f1, f2, f3, f4] => decide (f0.offset = 0 ∧ f1.offset = 1 ∧ f2.offset = 2 ∧ f3.offset = 3 ∧ f4.offset = 4 ∧ P.cellsOf f0.type = 1 ∧ P.cellsOf f1.type = 1 ∧ P.cellsOf f2.type = 1 ∧ P.cellsOf f3.type = 1 ∧ P.cellsOf f4.type = 1 ∧ P.cellsOf t = 5 ∧
        flat P 3 f0.type = some [.int .i64] ∧ flat P 3 f1.type = some [.int .i64] ∧ flat P 3 f2.type = some [.int .i64]) &&
      (match P.underlying f3.type with | some (.slice e) => decide (flat P 5 e = some trLeaves ∧ P.cellsOf e = 6) | _ => false) &&
      (match P.underlying f4.type with | some (.slice e) => decide (flat P 5 e = some plLeaves ∧ P.cellsOf e = 5) | _ => false)
    | _ => false
  | _ => false

theorem ok_int1 {cs : List Value} (h : OkL [.int .i64] cs) : ∃ n, cs = [.int .i64 n] := by
  obtain ⟨n, _, rfl, _, q1⟩ := h.int
  rw [q1.nil]; exact ⟨n, rfl⟩
theorem ok_tr {cs : List Value} (h : OkL trLeaves cs) : ∃ x : Tracker, cs = x.cells ∧ x.name.size ≤ maxLen := by
  obtain ⟨_, _, rfl, ⟨s, rfl, hs⟩, q1⟩ := h.cons
  obtain ⟨n1, _, rfl, _, q2⟩ := q1.int
  obtain ⟨n2, _, rfl, _, q3⟩ := q2.int
  obtain ⟨n3, _, rfl, _, q4⟩ := q3.int
  obtain ⟨n4, _, rfl, _, q5⟩ := q4.int
  obtain ⟨n5, _, rfl, _, q6⟩ := q5.int
  rw [q6.nil]; exact ⟨⟨s, n1, n2, n3, n4, n5⟩, rfl, hs⟩
theorem ok_pl {cs : List Value} (h : OkL plLeaves cs) : ∃ x : Plot, cs = x.cells ∧ True := by
  obtain ⟨n1, _, rfl, _, q1⟩ := h.int
  obtain ⟨n2, _, rfl, _, q2⟩ := q1.int
  obtain ⟨n3, _, rfl, _, q3⟩ := q2.int
  obtain ⟨n4, _, rfl, _, q4⟩ := q3.int
  obtain ⟨n5, _, rfl, _, q5⟩ := q4.int
  rw [q5.nil]; exact ⟨⟨n1, n2, n3, n4, n5⟩, rfl, trivial⟩

theorem five {cs : List Value} (h : cs.length = 5) : ∃ a b c d e, cs = [a, b, c, d, e] := by
  match cs, h with
  | [a, b, c, d, e], _ => exact ⟨a, b, c, d, e, rfl⟩

theorem open_task {H : Type} {enc : TypeId × Value → H} {P : Program} {w : World} {base : Nat} {spare : Nat → Bool} {held : Bool} {r : Reach} {b0 : Nat} {t : TypeId} {v : Value} {d : DataW H} {p : List MemPlace} (hty : taskTy P t = true)
    (hv : Value.okWide P w r b0 t v) (h : DataW.Trod enc P w base spare held t v d p) : ∃ (T : Task) (tv pv : Value), v = .agg #[.int .i64 T.frm, .int .i64 T.speed, .int .i64 T.accel, tv, pv] ∧ TaskR w v T := by
  unfold taskTy at hty
  split at hty
  · rename_i fs hu
    split at hty
    · rename_i f0 f1 f2 f3 f4 hfs
      simp only [Bool.and_eq_true, decide_eq_true_eq] at hty
      obtain ⟨⟨⟨o0, o1, o2, o3, o4, c0, c1, c2, c3, c4, cT, t0, t1, t2⟩, k3⟩, k4⟩ := hty
      obtain ⟨cs, rfl, hsz⟩ := okWide_struct hu hv
      obtain ⟨fuel, hf⟩ := h
      obtain ⟨xs, n, _, _, hlen, hxl, hfl⟩ := DataW.trod_struct hu hf
      have hfs0 : fs.toList = [f0, f1, f2, f3, f4] := hfs
      have hat : ∀ (i : Nat) (f : Field), [f0, f1, f2, f3, f4][i]? = some f → ∃ y, DataW.trod enc P w base spare held n f.type (((Value.agg cs).cells.toList.drop f.offset).take (P.cellsOf f.type)) = some y := by
        intro i f hi
        have hfi : fs[i]? = some f := by rw [← Array.getElem?_toList, hfs0]; exact hi
        have := hfl i f hfi
        have hil : i < xs.length := by rw [hxl]; exact (Array.getElem?_eq_some_iff.1 hfi).1
        rw [List.getElem?_eq_getElem hil] at this
        exact ⟨_, this⟩
      have hcl : (Value.agg cs).cells.toList = cs.toList := rfl
      rw [hcl] at hat
      obtain ⟨a, b, c, tv, pv, hcs⟩ := five (cs := cs.toList) (by rw [Array.length_toList, hsz, cT])
      have hce : cs = #[a, b, c, tv, pv] := Array.toList_inj.1 hcs
      subst hce
      obtain ⟨y0, z0⟩ := hat 0 f0 rfl
      obtain ⟨y1, z1⟩ := hat 1 f1 rfl
      obtain ⟨y2, z2⟩ := hat 2 f2 rfl
      obtain ⟨y3, z3⟩ := hat 3 f3 rfl
      obtain ⟨y4, z4⟩ := hat 4 f4 rfl
      rw [o0, c0] at z0
      rw [o1, c1] at z1
      rw [o2, c2] at z2
      rw [o3, c3] at z3
      rw [o4, c4] at z4
      obtain ⟨n0, e0⟩ := ok_int1 (flat_ok 3 _ _ t0 n _ _ z0)
      obtain ⟨n1, e1⟩ := ok_int1 (flat_ok 3 _ _ t1 n _ _ z1)
      obtain ⟨n2, e2⟩ := ok_int1 (flat_ok 3 _ _ t2 n _ _ z2)
      split at k3
      · rename_i e3 hu3
        simp only [decide_eq_true_eq] at k3
        obtain ⟨v3, els, q3, hS, hok, hl3⟩ := slice_ok hu3 k3.1 k3.2 z3
        split at k4
        · rename_i e4 hu4
          simp only [decide_eq_true_eq] at k4
          obtain ⟨v4, els', q4, hS', hok', hl4⟩ := slice_ok hu4 k4.1 k4.2 z4
          obtain ⟨tr, rfl, htr⟩ := map_of (fun e he => ok_tr (hok e he))
          obtain ⟨pl, rfl, _⟩ := map_of (fun e he => ok_pl (hok' e he))
          simp only [List.drop_zero, List.take_succ_cons, List.take_zero, List.drop_succ_cons, List.cons.injEq, and_true] at e0 e1 e2 q3 q4
          subst e0 e1 e2 q3 q4
          simp only [List.length_map] at hl3 hl4
          simp only [maxLen] at hl3 hl4
          refine ⟨⟨n0, n1, n2, tr, pl⟩, _, _, rfl, fun x hx => ?_, by show (tr.length : Int) ≤ _; omega, by show (pl.length : Int) ≤ _; omega, _, _, rfl, hS, hS'⟩
          have := htr x hx
          simp only [maxLen] at this
          omega
        · cases k4
      · cases k3
    · cases hty
  · cases hty

/-! ### values of ints -/
theorem int_wf {n : Int} (h : (Lit.int .i64 n).wf = true) : InI n := by
  simp only [Lit.wf, IntKind.min, IntKind.max, IntKind.signed, IntKind.bits, Bool.and_eq_true, decide_eq_true_eq] at h
  exact ⟨by have := h.1; simp at this; omega, by have := h.2; simp at this; omega⟩
theorem ok_ints2 {cs : List Value} (h : OkL [.int .i64, .int .i64] cs) : ∃ a b, cs = [.int .i64 a, .int .i64 b] ∧ InI a ∧ InI b := by
  obtain ⟨a, _, rfl, w1, q1⟩ := h.int
  obtain ⟨b, _, rfl, w2, q2⟩ := q1.int
  rw [q2.nil]; exact ⟨a, b, rfl, int_wf w1, int_wf w2⟩

section
variable {H : Type} {enc : TypeId × Value → H} {P : Program} {w : World} {base : Nat} {spare : Nat → Bool} {held : Bool} {r : Reach} {b0 : Nat} {t : TypeId} {v : Value} {d : DataW H} {p : List MemPlace}
theorem okWide_array {n : Nat} {e : TypeId} (ht : P.underlying t = some (.array n e)) (h : Value.okWide P w r b0 t v) : ∃ cs, v = .agg cs := by
  simp only [Value.okWide, ht] at h
  obtain ⟨cs, h1, _⟩ := h
  exact ⟨cs, h1⟩
/-- a value of a type without references, of one or more cells: its leaves -/
def aggTy (P : Program) (t : TypeId) (ls : List Leaf) : Bool := match P.underlying t with
  | some (.struct _) => decide (flat P 6 t = some ls)
  | some (.array _ _) => decide (flat P 6 t = some ls)
  | _ => false
theorem open_agg {ls : List Leaf} (hty : aggTy P t ls = true) (hv : Value.okWide P w r b0 t v) (h : DataW.Trod enc P w base spare held t v d p) : ∃ cs, v = .agg cs ∧ OkL ls cs.toList := by
  obtain ⟨fuel, hf⟩ := h
  unfold aggTy at hty
  split at hty
  · rename_i fs hu
    obtain ⟨cs, rfl, _⟩ := okWide_struct hu hv
    exact ⟨cs, rfl, flat_ok 6 _ _ (of_decide_eq_true hty) _ _ _ hf⟩
  · rename_i n e hu
    obtain ⟨cs, rfl⟩ := okWide_array hu hv
    exact ⟨cs, rfl, flat_ok 6 _ _ (of_decide_eq_true hty) _ _ _ hf⟩
  · cases hty
theorem open_ints2 (hty : aggTy P t [.int .i64, .int .i64] = true) (hv : Value.okWide P w r b0 t v) (h : DataW.Trod enc P w base spare held t v d p) : ∃ a b, v = .agg #[.int .i64 a, .int .i64 b] := by
  obtain ⟨cs, rfl, q⟩ := open_agg hty hv h
  obtain ⟨a, _, e1, _, q1⟩ := q.int
  obtain ⟨b, _, rfl, _, q2⟩ := q1.int
  rw [q2.nil] at e1
  exact ⟨a, b, congrArg Value.agg (Array.toList_inj.1 e1)⟩
theorem open_ints3 (hty : aggTy P t [.int .i64, .int .i64, .int .i64] = true) (hv : Value.okWide P w r b0 t v) (h : DataW.Trod enc P w base spare held t v d p) : ∃ a b c, v = .agg #[.int .i64 a, .int .i64 b, .int .i64 c] := by
  obtain ⟨cs, rfl, q⟩ := open_agg hty hv h
  obtain ⟨a, _, e1, _, q1⟩ := q.int
  obtain ⟨b, _, rfl, _, q2⟩ := q1.int
  obtain ⟨c, _, rfl, _, q3⟩ := q2.int
  rw [q3.nil] at e1
  exact ⟨a, b, c, congrArg Value.agg (Array.toList_inj.1 e1)⟩
theorem open_ints4 (hty : aggTy P t [.int .i64, .int .i64, .int .i64, .int .i64] = true) (hv : Value.okWide P w r b0 t v) (h : DataW.Trod enc P w base spare held t v d p) : ∃ a b c e, v = .agg #[.int .i64 a, .int .i64 b, .int .i64 c, .int .i64 e] ∧ InI a ∧ InI b ∧ InI c ∧ InI e := by
  obtain ⟨cs, rfl, q⟩ := open_agg hty hv h
  obtain ⟨a, _, e1, w1, q1⟩ := q.int
  obtain ⟨b, _, rfl, w2, q2⟩ := q1.int
  obtain ⟨c, _, rfl, w3, q3⟩ := q2.int
  obtain ⟨e, _, rfl, w4, q4⟩ := q3.int
  rw [q4.nil] at e1
  exact ⟨a, b, c, e, congrArg Value.agg (Array.toList_inj.1 e1), int_wf w1, int_wf w2, int_wf w3, int_wf w4⟩
end
theorem u8_wf {n : Int} (h : (Lit.int .u8 n).wf = true) : 0 ≤ n ∧ n ≤ 255 := by
  simp only [Lit.wf, IntKind.min, IntKind.max, IntKind.signed, IntKind.bits, Bool.and_eq_true, decide_eq_true_eq] at h
  exact ⟨by have := h.1; simp at this; omega, by have := h.2; simp at this; omega⟩
theorem u16_wf {n : Int} (h : (Lit.int .u16 n).wf = true) : 0 ≤ n ∧ n ≤ 65535 := by
  simp only [Lit.wf, IntKind.min, IntKind.max, IntKind.signed, IntKind.bits, Bool.and_eq_true, decide_eq_true_eq] at h
  exact ⟨by have := h.1; simp at this; omega, by have := h.2; simp at this; omega⟩
theorem i32_wf {n : Int} (h : (Lit.int .i32 n).wf = true) : -2147483648 ≤ n ∧ n ≤ 2147483647 := by
  simp only [Lit.wf, IntKind.min, IntKind.max, IntKind.signed, IntKind.bits, Bool.and_eq_true, decide_eq_true_eq] at h
  exact ⟨by have := h.1; simp at this; omega, by have := h.2; simp at this; omega⟩
theorem i8_wf {n : Int} (h : (Lit.int .i8 n).wf = true) : -128 ≤ n ∧ n ≤ 127 := by
  simp only [Lit.wf, IntKind.min, IntKind.max, IntKind.signed, IntKind.bits, Bool.and_eq_true, decide_eq_true_eq] at h
  exact ⟨by have := h.1; simp at this; omega, by have := h.2; simp at this; omega⟩
end Go.Tk

/- Layer 5: a box as an argument. -/
set_option linter.all false
namespace Go.Tk
open Go.Vc Go.ChangeShapes Go.WideShapes Go.RowKit
section
variable {H : Type} {enc : TypeId × Value → H} {P : Program} {w : World} {base : Nat} {spare : Nat → Bool} {held : Bool} {r : Reach} {b0 : Nat} {t : TypeId} {v : Value} {d : DataW H} {p : List MemPlace}
def i13 : List Leaf := [.int .i64, .int .i64, .int .i64, .int .i64, .int .i64, .int .i64, .int .i64, .int .i64, .int .i64, .int .i64, .int .i64, .int .i64, .int .i64]
theorem open_box (hty : aggTy P t i13 = true) (hv : Value.okWide P w r b0 t v) (h : DataW.Trod enc P w base spare held t v d p) : ∃ b : Box, v = .agg (Box.cells b).toArray ∧ BoxI b := by
  obtain ⟨cs, rfl, q⟩ := open_agg hty hv h
  obtain ⟨a0, _, e, w0, q0⟩ := q.int
  obtain ⟨a1, _, rfl, w1, q1⟩ := q0.int
  obtain ⟨a2, _, rfl, w2, q2⟩ := q1.int
  obtain ⟨a3, _, rfl, w3, q3⟩ := q2.int
  obtain ⟨a4, _, rfl, w4, q4⟩ := q3.int
  obtain ⟨a5, _, rfl, w5, q5⟩ := q4.int
  obtain ⟨a6, _, rfl, w6, q6⟩ := q5.int
  obtain ⟨a7, _, rfl, w7, q7⟩ := q6.int
  obtain ⟨a8, _, rfl, w8, q8⟩ := q7.int
  obtain ⟨a9, _, rfl, w9, q9⟩ := q8.int
  obtain ⟨a10, _, rfl, w10, q10⟩ := q9.int
  obtain ⟨a11, _, rfl, w11, q11⟩ := q10.int
  obtain ⟨a12, _, rfl, w12, q12⟩ := q11.int
  rw [q12.nil] at e
  exact ⟨⟨a0, ⟨a1, a2⟩, ⟨a3, a4⟩, ⟨a5, a6⟩, ⟨a7, a8⟩, ⟨a9, a10⟩, ⟨a11, a12⟩⟩, congrArg Value.agg (Array.toList_inj.1 e), int_wf w0, ⟨int_wf w1, int_wf w2⟩, ⟨int_wf w3, int_wf w4⟩, ⟨int_wf w5, int_wf w6⟩, ⟨int_wf w7, int_wf w8⟩, ⟨int_wf w9, int_wf w10⟩, ⟨int_wf w11, int_wf w12⟩⟩
end
end Go.Tk

/- Layer 6: arguments opened. -/
set_option linter.all false
namespace Go.De
open Go.Vc Go.Tk Go.ChangeShapes Go.WideShapes Go.RowKit
section
variable {H : Type} {enc : TypeId × Value → H} {P : Program} {w : World} {base b0 : Nat} {spare : Nat → Bool} {held : Bool} {r : Reach} {t : TypeId} {v : Value} {d : DataW H} {p : List MemPlace}

/-- the fields of a struct, by where they begin and how many cells they have -/
def fieldsTy (P : Program) (t : TypeId) (l : List (Nat × Nat)) (n : Nat) : Bool := match P.underlying t with
  | some (.struct fs) => decide (fs.toList.map (fun f => (f.offset, P.cellsOf f.type)) = l ∧ P.cellsOf t = n)
  | _ => false
/-- field i has this type -/
def fieldTy (P : Program) (t : TypeId) (i : Nat) (q : TypeId → Bool) : Bool := match P.underlying t with
  | some (.struct fs) => match fs[i]? with
    | some f => q f.type
    | none => false
  | _ => false
/-- a struct is opened: its cells, and each field by its own type -/
theorem open_fields {l : List (Nat × Nat)} {n : Nat} (hty : fieldsTy P t l n = true) (hv : Value.okWide P w r b0 t v) (h : DataW.Trod enc P w base spare held t v d p) :
    ∃ (cs : Array Value) (m : Nat), v = .agg cs ∧ cs.size = n ∧ ∀ i o k, l[i]? = some (o, k) → ∀ q : TypeId → Bool, fieldTy P t i q = true → ∃ ft y, q ft = true ∧ DataW.trod enc P w base spare held m ft ((cs.toList.drop o).take k) = some y := by
  unfold fieldsTy at hty
  split at hty
  · rename_i fs hu
    simp only [decide_eq_true_eq] at hty
    obtain ⟨hl, hn⟩ := hty
    obtain ⟨cs, rfl, hsz⟩ := okWide_struct hu hv
    obtain ⟨fuel, hf⟩ := h
    obtain ⟨xs, m, _, _, hlen, hxl, hfl⟩ := DataW.trod_struct hu hf
    refine ⟨cs, m, rfl, hsz.trans hn, fun i o k hi q hq => ?_⟩
    rw [← hl, List.getElem?_map] at hi
    cases hfi : fs.toList[i]? with
    | none => rw [hfi] at hi; cases hi
    | some f =>
      rw [hfi] at hi
      simp only [Option.map_some, Option.some.injEq, Prod.mk.injEq] at hi
      obtain ⟨rfl, rfl⟩ := hi
      have hfi2 : fs[i]? = some f := by rw [← Array.getElem?_toList]; exact hfi
      have h1 := hfl i f hfi2
      have hil : i < xs.length := by rw [hxl]; exact (Array.getElem?_eq_some_iff.1 hfi2).1
      rw [List.getElem?_eq_getElem hil] at h1
      unfold fieldTy at hq
      rw [hu] at hq
      simp only [hfi2] at hq
      exact ⟨f.type, _, hq, h1⟩
  · cases hty
def sliceTy (P : Program) (ls : List Leaf) (t : TypeId) : Bool := match P.underlying t with
  | some (.slice e) => decide (flat P 6 e = some ls ∧ P.cellsOf e = ls.length)
  | _ => false
theorem open_sl {ls : List Leaf} {fuel : Nat} {cs : List Value} {x : DataW H × List MemPlace} (hty : sliceTy P ls t = true) (h : DataW.trod enc P w base spare held fuel t cs = some x) : ∃ v els, cs = [v] ∧ SliceR w ls.length v els ∧ (∀ e ∈ els, OkL ls e) ∧ els.length ≤ maxLen := by
  unfold sliceTy at hty
  split at hty
  · rename_i e hu
    simp only [decide_eq_true_eq] at hty
    exact slice_ok hu hty.1 hty.2 h
  · cases hty
def flatTy (P : Program) (ls : List Leaf) (t : TypeId) : Bool := decide (flat P 6 t = some ls)
theorem open_fl {ls : List Leaf} {fuel : Nat} {cs : List Value} {x : DataW H × List MemPlace} (hty : flatTy P ls t = true) (h : DataW.trod enc P w base spare held fuel t cs = some x) : OkL ls cs :=
  flat_ok 6 _ _ (of_decide_eq_true hty) _ _ _ h
/-- a slice as an argument -/
theorem open_slice1 {ls : List Leaf} (hty : sliceTy P ls t = true) (hv : Value.okWide P w r b0 t v) (h : DataW.Trod enc P w base spare held t v d p) : ∃ els, SliceR w ls.length v els ∧ (∀ e ∈ els, OkL ls e) ∧ els.length ≤ maxLen := by
  obtain ⟨fuel, hf⟩ := h
  have hty0 := hty
  unfold sliceTy at hty
  split at hty
  · rename_i e hu
    obtain ⟨a, n, c, rfl⟩ := okWide_slice hu hv
    obtain ⟨v', els, e1, h1, h2, h3⟩ := open_sl hty0 hf
    have e2 : [Value.slice a n c] = [v'] := e1
    injection e2 with e2 _
    subst e2
    exact ⟨els, h1, h2, h3⟩
  · cases hty
theorem five5 {cs : Array Value} (h : cs.size = 5) : ∃ a b c d e, cs = #[a, b, c, d, e] := by
  obtain ⟨l⟩ := cs
  match l, h with
  | [a, b, c, d, e], _ => exact ⟨a, b, c, d, e, rfl⟩

def lnLeaves : List Leaf := [.int .i64, .int .i64, .int .i64, .int .i64]
theorem ok_ln {cs : List Value} (h : OkL lnLeaves cs) : ∃ x : Line, cs = x.cells ∧ True := by
  obtain ⟨n1, _, rfl, _, q1⟩ := h.int
  obtain ⟨n2, _, rfl, _, q2⟩ := q1.int
  obtain ⟨n3, _, rfl, _, q3⟩ := q2.int
  obtain ⟨n4, _, rfl, _, q4⟩ := q3.int
  rw [q4.nil]; exact ⟨⟨n1, n2, n3, n4⟩, rfl, trivial⟩
def planTy (P : Program) (t : TypeId) : Bool := fieldsTy P t [(0, 1), (1, 2), (3, 1), (4, 1)] 5 && fieldTy P t 0 (sliceTy P lnLeaves) && fieldTy P t 1 (flatTy P [.int .i64, .int .i64]) && fieldTy P t 2 (flatTy P [.int .i64]) && fieldTy P t 3 (flatTy P [.int .i64])
theorem open_plan (hty : planTy P t = true) (hv : Value.okWide P w r b0 t v) (h : DataW.Trod enc P w base spare held t v d p) : ∃ p : Plan, PlanR w v p := by
  simp only [planTy, Bool.and_eq_true] at hty
  obtain ⟨⟨⟨⟨h0, h1⟩, h2⟩, h3⟩, h4⟩ := hty
  obtain ⟨cs, m, rfl, hsz, hf⟩ := open_fields h0 hv h
  obtain ⟨a, b, c, e, f, rfl⟩ := five5 hsz
  obtain ⟨_, _, k1, z1⟩ := hf 0 0 1 rfl _ h1
  obtain ⟨_, _, k2, z2⟩ := hf 1 1 2 rfl _ h2
  obtain ⟨_, _, k3, z3⟩ := hf 2 3 1 rfl _ h3
  obtain ⟨_, _, k4, z4⟩ := hf 3 4 1 rfl _ h4
  obtain ⟨lv, els, e1, hS, hok, hl⟩ := open_sl k1 z1
  obtain ⟨l, rfl, _⟩ := map_of (fun e he => ok_ln (hok e he))
  obtain ⟨g0, g1, e2, _⟩ := ok_ints2 (open_fl k2 z2)
  obtain ⟨n3, e3⟩ := ok_int1 (open_fl k3 z3)
  obtain ⟨n4, e4⟩ := ok_int1 (open_fl k4 z4)
  simp only [List.drop_zero, List.take_succ_cons, List.take_zero, List.drop_succ_cons, List.cons.injEq, and_true] at e1 e2 e3 e4
  obtain ⟨rfl, rfl⟩ := e2
  subst e1 e3 e4
  refine ⟨⟨l, ⟨g0, g1⟩, n3, n4⟩, ?_, a, rfl, hS⟩
  simp only [List.length_map, maxLen] at hl
  show (l.length : Int) ≤ _
  omega
theorem ok_u8 {cs : List Value} (h : OkL [.int .u8] cs) : ∃ n : Int, cs = [.int .u8 n] ∧ (0 ≤ n ∧ n ≤ 255) := by
  obtain ⟨n, _, rfl, hw, q1⟩ := h.int
  rw [q1.nil]; exact ⟨n, rfl, u8_wf hw⟩
/-- shares -/
theorem open_u8s (hty : sliceTy P [.int .u8] t = true) (hv : Value.okWide P w r b0 t v) (h : DataW.Trod enc P w base spare held t v d p) : ∃ l : List Int, SliceR w 1 v (l.map fun n => [Value.int .u8 n]) ∧ (∀ n ∈ l, 0 ≤ n ∧ n ≤ 255) ∧ (l.length : Int) ≤ 9223372036854775807 := by
  obtain ⟨els, hS, hok, hl⟩ := open_slice1 hty hv h
  obtain ⟨l, rfl, hl8⟩ := map_of (f := fun n : Int => [Value.int .u8 n]) (Q := fun n => 0 ≤ n ∧ n ≤ 255) (fun e he => ok_u8 (hok e he))
  refine ⟨l, hS, hl8, ?_⟩
  simp only [List.length_map, maxLen] at hl
  omega
theorem open_6u8 (hty : aggTy P t [.int .u8, .int .u8, .int .u8, .int .u8, .int .u8, .int .u8] = true) (hv : Value.okWide P w r b0 t v) (h : DataW.Trod enc P w base spare held t v d p) :
    ∃ a b c e f g, v = .agg #[.int .u8 a, .int .u8 b, .int .u8 c, .int .u8 e, .int .u8 f, .int .u8 g] ∧ (0 ≤ a ∧ a ≤ 255) ∧ (0 ≤ b ∧ b ≤ 255) ∧ (0 ≤ c ∧ c ≤ 255) ∧ (0 ≤ e ∧ e ≤ 255) ∧ (0 ≤ f ∧ f ≤ 255) ∧ (0 ≤ g ∧ g ≤ 255) := by
  obtain ⟨cs, rfl, q⟩ := open_agg hty hv h
  obtain ⟨a, _, e1, w1, q1⟩ := q.int
  obtain ⟨b, _, rfl, w2, q2⟩ := q1.int
  obtain ⟨c, _, rfl, w3, q3⟩ := q2.int
  obtain ⟨e, _, rfl, w4, q4⟩ := q3.int
  obtain ⟨f, _, rfl, w5, q5⟩ := q4.int
  obtain ⟨g, _, rfl, w6, q6⟩ := q5.int
  rw [q6.nil] at e1
  exact ⟨a, b, c, e, f, g, congrArg Value.agg (Array.toList_inj.1 e1), u8_wf w1, u8_wf w2, u8_wf w3, u8_wf w4, u8_wf w5, u8_wf w6⟩
theorem open_place (hty : aggTy P t [.int .i64, .int .u8, .int .u8] = true) (hv : Value.okWide P w r b0 t v) (h : DataW.Trod enc P w base spare held t v d p) : ∃ n a b, v = .agg #[.int .i64 n, .int .u8 a, .int .u8 b] ∧ InI n ∧ (0 ≤ a ∧ a ≤ 255) ∧ (0 ≤ b ∧ b ≤ 255) := by
  obtain ⟨cs, rfl, q⟩ := open_agg hty hv h
  obtain ⟨a, _, e1, w1, q1⟩ := q.int
  obtain ⟨b, _, rfl, w2, q2⟩ := q1.int
  obtain ⟨c, _, rfl, w3, q3⟩ := q2.int
  rw [q3.nil] at e1
  exact ⟨a, b, c, congrArg Value.agg (Array.toList_inj.1 e1), int_wf w1, u8_wf w2, u8_wf w3⟩
/-- one integer -/
def intTy (P : Program) (t : TypeId) : Bool := match P.underlying t with
  | some (.int .i64) => true
  | _ => false
theorem open_i64 (hty : intTy P t = true) (hv : Value.okWide P w r b0 t v) (h : DataW.Trod enc P w base spare held t v d p) : ∃ n, v = .int .i64 n ∧ InI n := by
  unfold intTy at hty
  split at hty
  · rename_i hu
    obtain ⟨n, rfl, _, _, hw⟩ := open_int hu hv h
    exact ⟨n, rfl, int_wf hw⟩
  · cases hty
end
end Go.De
