/- Ytclbbchehjapjaa: Alone, Best and Fails. -/
import Derived.Test.YtclbbchehjapjaaT11
import Derived.Test.YtclbbchehjapjaaU
set_option linter.all false
namespace Go.Proofs.Ytclbbchehjapjaa
open Go.Vc Go.Tk
set_option maxRecDepth 100000
theorem alone1_c (x i : Int) (b ty : Nat) (fr : Nat × Nat) (w : World) (hb : w.heap[b]? = some (.cells #[.int .i64 i] ty fr)) : FnP Try.prog 81 [.int .i64 x, .pointer (some ⟨b, 0, none⟩)] w (.bool (decide (x = i))) := by
  refine fn_pure Try.func81 rfl (by kernel_rfl) Try.ntmps81 Try.results81 rfl ?_
  refine V_seq (V_region rfl ?_)
  refine L_go rfl (X_p (p_assign rfl rfl) ?_)
  refine L_then (.cons (k := 0) rfl (.cons (k := 1) rfl .nil)) ?_
  refine V_seq (V_region rfl ?_)
  refine L_go rfl (X_p (p_move rfl rfl) ?_)
  refine L_go rfl (X_rd (r_loadB ag3 rfl rfl (own_cell hb 0) List.not_mem_nil) ?_)
  refine L_go rfl (X_p (p_eql rfl rfl rfl) ?_)
  refine L_go rfl (X_p (p_assign rfl rfl) ?_)
  refine L_then (.cons (k := 3) rfl .nil) ?_
  refine V_ret ?_
  refine Leave.nil (.tmp rfl .nil) ?_
  rfl
theorem best1_c (x i : Int) (b ty : Nat) (fr : Nat × Nat) (w : World) (hb : w.heap[b]? = some (.cells #[.int .i64 i] ty fr)) : FnP Try.prog 76 [.int .i64 x, .pointer (some ⟨b, 0, none⟩)] w (.bool (decide (x = i))) := by
  refine fn_pure Try.func76 rfl (by kernel_rfl) Try.ntmps76 Try.results76 rfl ?_
  refine V_seq (V_region rfl ?_)
  refine L_go rfl (X_p (p_assign rfl rfl) ?_)
  refine L_then (.cons (k := 0) rfl (.cons (k := 1) rfl .nil)) ?_
  refine V_seq (V_region rfl ?_)
  refine L_go rfl (X_p (p_move rfl rfl) ?_)
  refine L_go rfl (X_rd (r_loadB ag3 rfl rfl (own_cell hb 0) List.not_mem_nil) ?_)
  refine L_go rfl (X_p (p_eql rfl rfl rfl) ?_)
  refine L_go rfl (X_p (p_assign rfl rfl) ?_)
  refine L_then (.cons (k := 3) rfl .nil) ?_
  refine V_ret ?_
  refine Leave.nil (.tmp rfl .nil) ?_
  rfl
theorem alone_c (t : Task) (tv pv : Value) (tr u now : Int) (w : World) (ht : TaskR w (.agg #[.int .i64 t.frm, .int .i64 t.speed, .int .i64 t.accel, tv, pv]) t) : FnP Try.prog 39 [.agg #[.int .i64 t.frm, .int .i64 t.speed, .int .i64 t.accel, tv, pv], .int .i64 tr, .int .i64 u, .int .i64 now] w (.tuple #[.agg (Box.cells (aloneP t tr u now).1).toArray, .int .i64 (aloneP t tr u now).2]) := by
  have hT := ht
  obtain ⟨_, _, _, htr, hpl⟩ := ht.lit
  obtain ⟨ta, tc, rfl, htc, hte⟩ := htr.ex
  have hltr := ht.ltr
  simp only [List.length_map] at hT htc ⊢
  refine fn_pure Try.func39 rfl (by kernel_rfl) Try.ntmps39 Try.results39 rfl ?_
  refine V_seq (V_region rfl ?_)
  refine L_go rfl (X_wr (w_box rfl rfl) ?_)
  rintro _ _ ⟨b1, hb1, rfl, rfl⟩
  refine L_go rfl (X_wr (w_box rfl rfl) ?_)
  rintro _ _ ⟨b2, hb2, rfl, rfl⟩
  refine L_go rfl (X_wr (w_alloc zr35 rfl) ?_)
  rintro _ _ ⟨b3, hb3, rfl, rfl⟩
  refine L_go rfl (X_p (p_assign rfl rfl) ?_)
  refine L_then (.cons (k := 2) rfl (.cons (k := 3) rfl (.cons (k := 4) rfl (.cons (k := 5) rfl (.cons (k := 8) rfl .nil))))) ?_
  refine V_seq (V_region rfl ?_)
  refine L_go rfl (X_rd (r_loadA (vs := [_, _, _, _, _]) ag25 sz25 rfl rfl (by repeat first | exact mH | apply mT) rfl) ?_)
  refine L_go rfl (X_wr (w_callP rfl rfl rfl (fun w hg => asked_c t [] _ _ w (hT.good hg) (SliceR.nil _ _) (by simp))) ?_)
  rintro _ _ ⟨rfl, rfl⟩
  refine L_go rfl (X_p (p_assign rfl rfl) ?_)
  refine L_then (.cons (k := 2) rfl (.cons (k := 3) rfl (.cons (k := 4) rfl (.cons (k := 5) rfl (.cons (k := 8) rfl (.cons (k := 10) rfl .nil)))))) ?_
  refine V_seq ?_
  refine V_block ?_
  refine V_seq (V_region rfl ?_)
  refine L_go rfl (X_p (p_move rfl rfl) ?_)
  refine L_go rfl (X_p (p_neq rfl rfl rfl) ?_)
  refine L_go rfl (X_p (p_assign rfl rfl) ?_)
  refine L_then (.cons (k := 2) rfl (.cons (k := 3) rfl (.cons (k := 4) rfl (.cons (k := 5) rfl (.cons (k := 8) rfl (.cons (k := 10) rfl (.cons (k := 13) rfl .nil))))))) ?_
  refine V_cond rfl ?_ ?_
  · intro c1; try simp only [td] at c1
    refine V_seq (V_region rfl ?_)
    refine L_go rfl (X_p (p_build (r := [_, _, _, _, _, _, _, _, _, _, _, _, _]) pl35 zr35 rfl rfl rfl) ?_)
    refine L_go rfl (X_p (p_move rfl rfl) ?_)
    refine L_go rfl (X_wr (w_store (cs' := [_, _, _, _, _, _, _, _, _, _, _, _, _]) sz35 rfl rfl rfl rfl rfl (by repeat first | exact .head | apply SetAt.tail) (Nat.le_of_ble_eq_true rfl) rfl) ?_)
    rintro _ _ ⟨rfl, rfl⟩
    refine L_go rfl (X_p (p_assign rfl rfl) ?_)
    refine L_then (.cons (k := 8) rfl (.cons (k := 9) rfl .nil)) ?_
    refine V_ret (blk_r (then_r ?_))
    refine Leave.nil (.cellA (us := [_, _, _, _, _, _, _, _, _, _, _, _, _]) rfl ag35 sz35 (by repeat first | exact mH | apply mT) rfl (.tmp rfl .nil)) ?_
    rw [aloneP_1 c1]; rfl
  · intro c1; try simp only [td] at c1
    have hG := (asked_zero c1).1
    have hpl2 := hG.h1
    refine V_seq (V_region rfl ?_)
    refine L_go rfl (X_rd (r_load ag3 rfl rfl (by repeat first | exact mH | apply mT) rfl) ?_)
    refine L_go rfl (X_p (p_fieldo fo25_3 rfl rfl) ?_)
    refine L_go rfl (X_rd (r_load ag22 rfl rfl (by repeat first | exact mH | apply mT) rfl) ?_)
    refine L_go rfl (X_p (p_len isl22 rfl rfl) ?_)
    first | refine L_go rfl (X_p (p_sub' rfl rfl rfl (by unfold InI; omega)) ?_) | refine L_go rfl (X_p (p_sub rfl rfl rfl) ?_)
    refine L_go rfl (X_wr (w_callP rfl rfl rfl (fun w hg => out_c _ _ _ w)) ?_)
    rintro _ _ ⟨rfl, rfl⟩
    refine L_go rfl (X_p (p_assign rfl rfl) ?_)
    refine L_then (.cons (k := 2) rfl (.cons (k := 3) rfl (.cons (k := 4) rfl (.cons (k := 5) rfl (.cons (k := 8) rfl (.cons (k := 18) rfl .nil)))))) ?_
    refine V_cond rfl ?_ ?_
    · intro c2; try simp only [td] at c2
      refine V_seq (V_region rfl ?_)
      refine L_go rfl (X_p (p_build (r := [_, _, _, _, _, _, _, _, _, _, _, _, _]) pl35 zr35 rfl rfl rfl) ?_)
      refine L_go rfl (X_wr (w_store (cs' := [_, _, _, _, _, _, _, _, _, _, _, _, _]) sz35 rfl rfl rfl rfl rfl (by repeat first | exact .head | apply SetAt.tail) (Nat.le_of_ble_eq_true rfl) rfl) ?_)
      rintro _ _ ⟨rfl, rfl⟩
      refine L_go rfl (X_p (p_assign rfl rfl) ?_)
      refine L_then (.cons (k := 8) rfl (.cons (k := 9) rfl .nil)) ?_
      refine V_ret (blk_r (then_r ?_))
      refine Leave.nil (.cellA (us := [_, _, _, _, _, _, _, _, _, _, _, _, _]) rfl ag35 sz35 (by repeat first | exact mH | apply mT) rfl (.tmp rfl .nil)) ?_
      rw [aloneP_2 c1 c2]; rfl
    · intro c2; try simp only [td] at c2
      refine V_seq (V_region rfl ?_)
      refine L_go rfl (X_p (p_move rfl rfl) ?_)
      refine L_go rfl (X_p (p_move rfl rfl) ?_)
      refine L_go rfl (X_wr (w_slice (r := [_, _]) un57 sz3 zr3 rfl (by decide) rfl (by decide) rfl rfl) ?_)
      rintro _ _ ⟨b4, hb4, rfl, rfl⟩
      refine L_go rfl (X_wr (w_callP rfl rfl rfl (fun w hg => never_c [_, _] _ w (own_ints (l := [_, _]) (hg.own _ (by repeat first | exact mH | apply mT)) rfl (by decide)) (by simp))) ?_)
      rintro _ _ ⟨rfl, rfl⟩
      refine L_go rfl (X_p (p_assign rfl rfl) ?_)
      refine L_then (.cons (k := 2) rfl (.cons (k := 3) rfl (.cons (k := 4) rfl (.cons (k := 5) rfl (.cons (k := 8) rfl (.cons (k := 26) rfl .nil)))))) ?_
      refine V_cond rfl ?_ ?_
      · intro c3; try simp only [td] at c3
        refine V_seq (V_region rfl ?_)
        refine L_go rfl (X_p (p_build (r := [_, _, _, _, _, _, _, _, _, _, _, _, _]) pl35 zr35 rfl rfl rfl) ?_)
        refine L_go rfl (X_wr (w_store (cs' := [_, _, _, _, _, _, _, _, _, _, _, _, _]) sz35 rfl rfl rfl rfl rfl (by repeat first | exact .head | apply SetAt.tail) (Nat.le_of_ble_eq_true rfl) rfl) ?_)
        rintro _ _ ⟨rfl, rfl⟩
        refine L_go rfl (X_p (p_assign rfl rfl) ?_)
        refine L_then (.cons (k := 8) rfl (.cons (k := 9) rfl .nil)) ?_
        refine V_ret (blk_r (then_r ?_))
        refine Leave.nil (.cellA (us := [_, _, _, _, _, _, _, _, _, _, _, _, _]) rfl ag35 sz35 (by repeat first | exact mH | apply mT) rfl (.tmp rfl .nil)) ?_
        rw [aloneP_3 c1 c2 (by simp only [List.any_cons, List.any_nil, Bool.or_false, Bool.or_eq_true]; exact c3)]; rfl
      · intro c3; try simp only [td] at c3
        have hn := any2_false (u := u) (now := now) (by simp only [List.any_cons, List.any_nil, Bool.or_false, Bool.or_eq_false_iff]; exact c3)
        refine V_skip (blk_n (then_n ?_))
        refine V_seq (V_region rfl ?_)
        refine L_go rfl (X_rd (r_loadA (vs := [_, _, _, _, _]) ag25 sz25 rfl rfl (by repeat first | exact mH | apply mT) rfl) ?_)
        refine L_go rfl (X_p (p_move rfl rfl) ?_)
        refine L_go rfl (X_p (p_func rfl rfl rfl) ?_)
        refine L_go rfl (X_wr (w_callG (pre := [_, _, _, _]) rfl rfl rfl rfl (fun w hg => pickOf_c t hG _ _ now (fun x => decide (x = tr)) _ _ w (hT.good hg) (fun x w' he => alone1_c x tr b2 _ _ w' (he.heap (hg.own (b2, _) (by repeat first | exact mH | apply mT)))))) ?_)
        rintro _ _ ⟨_, G, rfl, hfr, bp, bm, sv, clk, rfl, rfl, hgr⟩
        try simp only [List.cons_append, List.nil_append, List.append_nil]
        refine L_go rfl (X_p (p_move rfl rfl) ?_)
        refine L_go rfl (X_wr (w_callM rfl rfl rfl (fun o' => (by repeat first | exact .head | apply SetAt.tail)) (fun w hg => box_c bp bm #[] clk t _ u hn.1 w (PickR.own hg hG hT (hfr _ (.tail _ (.head _))) (by repeat first | exact mH | apply mT) (by repeat first | exact mH | apply mT) (fun p hp => by repeat first | exact hp | exact List.mem_append_left _ hp | apply List.mem_append_right | apply mT) hgr) (Cache.nil _ _) (hg.own (bm, _) (by repeat first | exact mH | apply mT)))) ?_)
        rintro _ _ ⟨_, rfl, rfl, es2, clk2, rfl, _⟩
        refine L_go rfl (X_p (p_ext rfl rfl rfl) ?_)
        refine L_go rfl (X_p (p_ext rfl rfl rfl) ?_)
        refine L_go rfl (X_wr (w_callP rfl rfl rfl (fun w hg => found_c _ w)) ?_)
        rintro _ _ ⟨rfl, rfl⟩
        refine L_go rfl (X_p (p_ext rfl rfl rfl) ?_)
        refine L_go rfl (X_p (p_ext rfl rfl rfl) ?_)
        refine L_go rfl (X_wr (w_store (cs' := [_, _, _, _, _, _, _, _, _, _, _, _, _]) sz35 rfl rfl rfl rfl rfl (by repeat first | exact .head | apply SetAt.tail) (Nat.le_of_ble_eq_true rfl) rfl) ?_)
        rintro _ _ ⟨rfl, rfl⟩
        refine L_go rfl (X_p (p_assign rfl rfl) ?_)
        refine L_then (.cons (k := 8) rfl (.cons (k := 9) rfl .nil)) ?_
        refine V_ret ?_
        refine Leave.nil (.cellA (us := [_, _, _, _, _, _, _, _, _, _, _, _, _]) rfl ag35 sz35 (by repeat first | exact mH | apply mT) rfl (.tmp rfl .nil)) ?_
        rw [aloneP_4 c1 c2 (by simp only [List.any_cons, List.any_nil, Bool.or_false, Bool.or_eq_false_iff]; exact c3)]; rfl
set_option maxHeartbeats 4000000 in
theorem best_c (t : Task) (tv pv : Value) (u now : Int) (w : World) (ht : TaskR w (.agg #[.int .i64 t.frm, .int .i64 t.speed, .int .i64 t.accel, tv, pv]) t) : FnP Try.prog 33 [.agg #[.int .i64 t.frm, .int .i64 t.speed, .int .i64 t.accel, tv, pv], .int .i64 u, .int .i64 now] w (.tuple #[.int .i64 (bestP t u now).1, .int .i64 (bestP t u now).2]) := by
  have hT := ht
  obtain ⟨_, _, _, htr, hpl⟩ := ht.lit
  obtain ⟨ta, tc, rfl, htc, hte⟩ := htr.ex
  have hltr := ht.ltr
  simp only [List.length_map] at hT htc ⊢
  refine fn_pure Try.func33 rfl (by kernel_rfl) Try.ntmps33 Try.results33 rfl ?_
  refine V_seq (V_region rfl ?_)
  refine L_go rfl (X_wr (w_box rfl rfl) ?_)
  rintro _ _ ⟨b1, hb1, rfl, rfl⟩
  refine L_go rfl (X_p (p_assign rfl rfl) ?_)
  refine L_go rfl (X_p (p_assign rfl rfl) ?_)
  refine L_then (.cons (k := 1) rfl (.cons (k := 2) rfl (.cons (k := 3) rfl .nil))) ?_
  refine V_seq (V_region rfl ?_)
  refine L_go rfl (X_rd (r_loadA (vs := [_, _, _, _, _]) ag25 sz25 rfl rfl (by repeat first | exact mH | apply mT) rfl) ?_)
  refine L_go rfl (X_p (p_move rfl rfl) ?_)
  refine L_go rfl (X_p (p_move rfl rfl) ?_)
  refine L_go rfl (X_wr (w_callP rfl rfl rfl (fun w hg => (show FnP _ _ _ w (.tuple #[.agg (Box.cells (spareP t u now).1).toArray, .int .i64 (spareP t u now).2]) from spareR_eq t u now ▸ spareR_c t _ _ u now w (hT.good hg)))) ?_)
  rintro _ _ ⟨rfl, rfl⟩
  refine L_go rfl (X_p (p_move rfl rfl) ?_)
  refine L_go rfl (X_p (p_ext rfl rfl rfl) ?_)
  refine L_go rfl (X_p (p_ext rfl rfl rfl) ?_)
  refine L_go rfl (X_wr (w_alloc zr35 rfl) ?_)
  rintro _ _ ⟨b2, hb2, rfl, rfl⟩
  refine L_go rfl (X_wr (w_store (cs' := [_, _, _, _, _, _, _, _, _, _, _, _, _]) sz35 rfl rfl rfl rfl rfl (by repeat first | exact .head | apply SetAt.tail) (Nat.le_of_ble_eq_true rfl) rfl) ?_)
  rintro _ _ ⟨rfl, rfl⟩
  refine L_go rfl (X_p (p_assign rfl rfl) ?_)
  refine L_then (.cons (k := 1) rfl (.cons (k := 2) rfl (.cons (k := 3) rfl (.cons (k := 8) rfl (.cons (k := 9) rfl .nil))))) ?_
  refine V_seq ?_
  refine V_seq (V_region rfl ?_)
  refine L_go rfl (X_p (p_move rfl rfl) ?_)
  refine L_go rfl (X_p (p_neq rfl rfl rfl) ?_)
  refine L_then (.cons (k := 1) rfl (.cons (k := 2) rfl (.cons (k := 3) rfl (.cons (k := 8) rfl (.cons (k := 9) rfl (.cons (k := 23) rfl .nil)))))) ?_
  refine V_cond rfl ?_ ?_
  · intro c1; try simp only [td] at c1
    refine V_seq (V_region rfl ?_)
    refine L_go rfl (X_p (p_move rfl rfl) ?_)
    refine L_go rfl (X_p (p_assign rfl rfl) ?_)
    refine L_go rfl (X_p (p_assign rfl rfl) ?_)
    refine L_then (.cons (k := 6) rfl (.cons (k := 7) rfl .nil)) ?_
    refine V_ret (then_r ?_)
    refine Leave.nil (.tmp rfl (.tmp rfl .nil)) ?_
    rw [bestP_1 c1]; rfl
  · intro c1; try simp only [td] at c1
    obtain ⟨ha, hs⟩ := spareP_ok c1
    obtain ⟨hG, hn⟩ := asked_zero ha
    have hu := hn u (.head _)
    have hpl2 := hG.h1
    refine V_skip (then_n ?_)
    refine V_seq (V_region rfl ?_)
    refine L_go rfl (X_p (p_assign rfl rfl) ?_)
    refine L_go rfl (X_p (p_assign rfl rfl) ?_)
    refine L_then (.cons (k := 1) rfl (.cons (k := 2) rfl (.cons (k := 3) rfl (.cons (k := 8) rfl (.cons (k := 10) rfl (.cons (k := 11) rfl .nil)))))) ?_
    refine V_seq ?_
    refine V_seq (V_region rfl ?_)
    refine L_go rfl (X_p (p_fieldo fo25_3 rfl rfl) ?_)
    refine L_go rfl (X_rd (r_load ag22 rfl rfl (by repeat first | exact mH | apply mT) rfl) ?_)
    refine L_go rfl (X_p (p_len isl22 rfl rfl) ?_)
    refine L_go rfl (X_p (p_move rfl rfl) ?_)
    refine L_then (.cons (k := 1) rfl (.cons (k := 2) rfl (.cons (k := 3) rfl (.cons (k := 8) rfl (.cons (k := 10) rfl (.cons (k := 11) rfl (.cons (k := 27) rfl (.cons (k := 28) rfl .nil)))))))) ?_
    refine V_block ?_
    refine V_loop1 (γ := Int × Int × Int) (.cons (k := 1) rfl (.cons (k := 2) rfl (.cons (k := 3) rfl (.cons (k := 8) rfl (.cons (k := 27) rfl .nil))))) (fun (k, a, l) => [(28, .int .i64 k), (10, .int .i64 a), (11, .int .i64 l)]) (fun (k, a, l) => [(b2, .cells (Box.cells (spareP t u now).1).toArray 35), (b1, t.obj (.slice ta t.trackers.length tc) pv 25)]) (fun (k, a, l) => 0 ≤ k ∧ k ≤ t.trackers.length ∧ bestN t (spareP t u now).1 u now k.toNat = (a, l)) (fun (k, a, l) => (t.trackers.length - k).toNat) ((0, -1, 0)) (.cons rfl (.cons rfl (.cons rfl (.nil _)))) (by repeat (first | exact List.nil_sublist _ | exact List.Sublist.refl _ | apply List.Sublist.cons_cons | apply List.Sublist.cons)) (⟨by omega, by omega, rfl⟩) ?_
    rintro ⟨k, a, l⟩ hi
    obtain ⟨hk0, hk1, hbn⟩ := hi
    refine V_seq (V_region rfl ?_)
    refine L_go rfl (X_p (p_lss rfl rfl rfl) ?_)
    refine L_then (.cons (k := 1) rfl (.cons (k := 2) rfl (.cons (k := 3) rfl (.cons (k := 8) rfl (.cons (k := 10) rfl (.cons (k := 11) rfl (.cons (k := 27) rfl (.cons (k := 28) rfl (.cons (k := 29) rfl .nil))))))))) ?_
    refine V_seq ?_
    refine V_cond rfl ?_ ?_
    · intro c2; try simp only [td] at c2
      refine V_skip (then_n ?_)
      refine V_seq ?_
      refine V_block ?_
      refine V_seq (V_region rfl ?_)
      refine L_go rfl (X_p (p_move rfl rfl) ?_)
      refine L_go rfl (X_wr (w_alloc zr3 rfl) ?_)
      rintro _ _ ⟨b3, hb3, rfl, rfl⟩
      refine L_go rfl (X_wr (w_store (cs' := [_]) sz3 rfl rfl rfl rfl rfl (by repeat first | exact .head | apply SetAt.tail) (Nat.le_of_ble_eq_true rfl) rfl) ?_)
      rintro _ _ ⟨rfl, rfl⟩
      refine L_then (.cons (k := 1) rfl (.cons (k := 2) rfl (.cons (k := 3) rfl (.cons (k := 8) rfl (.cons (k := 10) rfl (.cons (k := 11) rfl (.cons (k := 12) rfl (.cons (k := 27) rfl (.cons (k := 28) rfl .nil))))))))) ?_
      refine V_seq (V_region rfl ?_)
      refine L_go rfl (X_rd (r_loadA (vs := [_, _, _, _, _]) ag25 sz25 rfl rfl (by repeat first | exact mH | apply mT) rfl) ?_)
      refine L_go rfl (X_p (p_move rfl rfl) ?_)
      refine L_go rfl (X_p (p_func rfl rfl rfl) ?_)
      refine L_go rfl (X_wr (w_callG (pre := [_, _, _]) rfl rfl rfl rfl (fun w hg => pickOf_c t hG _ _ now (fun x => decide (x = k)) _ _ w (hT.good hg) (fun x w' he => best1_c x k b3 _ _ w' (he.heap (hg.own (b3, _) (by repeat first | exact mH | apply mT)))))) ?_)
      rintro _ _ ⟨_, G, rfl, hfr, bp, bm, sv, clk, rfl, rfl, hgr⟩
      try simp only [List.cons_append, List.nil_append, List.append_nil]
      refine L_go rfl (X_p (p_move rfl rfl) ?_)
      refine L_go rfl (X_wr (w_callM rfl rfl rfl (fun o' => (by repeat first | exact .head | apply SetAt.tail)) (fun w hg => box_c bp bm #[] clk t _ u hu w (PickR.own hg hG hT (hfr _ (.tail _ (.head _))) (by repeat first | exact mH | apply mT) (by repeat first | exact mH | apply mT) (fun p hp => by repeat first | exact hp | exact List.mem_append_left _ hp | apply List.mem_append_right | apply mT) hgr) (Cache.nil _ _) (hg.own (bm, _) (by repeat first | exact mH | apply mT)))) ?_)
      rintro _ _ ⟨_, rfl, rfl, es2, clk2, rfl, _⟩
      refine L_go rfl (X_p (p_move rfl rfl) ?_)
      refine L_go rfl (X_p (p_ext rfl rfl rfl) ?_)
      refine L_go rfl (X_p (p_ext rfl rfl rfl) ?_)
      refine L_go rfl (X_wr (w_alloc zr35 rfl) ?_)
      rintro _ _ ⟨b5, hb5, rfl, rfl⟩
      refine L_go rfl (X_wr (w_store (cs' := [_, _, _, _, _, _, _, _, _, _, _, _, _]) sz35 rfl rfl rfl rfl rfl (by repeat first | exact .head | apply SetAt.tail) (Nat.le_of_ble_eq_true rfl) rfl) ?_)
      rintro _ _ ⟨rfl, rfl⟩
      refine L_go rfl (X_p (p_assign rfl rfl) ?_)
      refine L_then (.cons (k := 1) rfl (.cons (k := 2) rfl (.cons (k := 3) rfl (.cons (k := 8) rfl (.cons (k := 10) rfl (.cons (k := 11) rfl (.cons (k := 12) rfl (.cons (k := 13) rfl (.cons (k := 14) rfl (.cons (k := 27) rfl (.cons (k := 28) rfl .nil))))))))))) ?_
      refine V_seq (V_region rfl ?_)
      refine L_go rfl (X_p (p_move rfl rfl) ?_)
      refine L_go rfl (X_p (p_move rfl rfl) ?_)
      refine L_cases (d := 41) rfl ?_ ?_
      · intro g1; have g1' := g1; try simp only [td] at g1'
        refine L_yes rfl rfl rfl g1 (X_rd (r_loadA (vs := [_, _, _, _, _, _, _, _, _, _, _, _, _]) ag35 sz35 rfl rfl (by repeat first | exact mH | apply mT) rfl) ?_)
        refine L_yes rfl rfl rfl g1 (X_rd (r_loadA (vs := [_, _, _, _, _, _, _, _, _, _, _, _, _]) ag35 sz35 rfl rfl (by repeat first | exact mH | apply mT) rfl) ?_)
        refine L_yes rfl rfl rfl g1 (X_wr (w_callP rfl rfl rfl (fun w hg => meet_c ((ownT t u now k).getD boxZ) (spareP t u now).1 w)) ?_)
        rintro _ _ ⟨rfl, rfl⟩
        refine L_go rfl (X_p (p_pick_t rfl rfl g1 rfl) ?_)
        refine L_go rfl (X_p (p_move rfl rfl) ?_)
        refine L_cases (d := 46) rfl ?_ ?_
        · intro g2; have g2' := g2; try simp only [td] at g2'
          refine L_yes rfl rfl rfl g2 (X_p (p_move rfl rfl) ?_)
          refine L_yes rfl rfl rfl g2 (X_p (p_lss rfl rfl rfl) ?_)
          refine L_yes rfl rfl rfl g2 (X_p (p_move rfl rfl) ?_)
          refine L_cases (d := 49) rfl ?_ ?_
          · intro g3; have g3' := g3; try simp only [td] at g3'
            refine L_no rfl rfl rfl g3 ?_
            refine L_no rfl rfl rfl g3 ?_
            refine L_no rfl rfl rfl g3 ?_
            refine L_no rfl rfl rfl g3 ?_
            refine L_yes rfl rfl rfl g2 (X_p (p_pick_t rfl rfl g3 rfl) ?_)
            refine L_go rfl (X_p (p_pick_t rfl rfl g2 rfl) ?_)
            refine L_then (.cons (k := 1) rfl (.cons (k := 2) rfl (.cons (k := 3) rfl (.cons (k := 8) rfl (.cons (k := 10) rfl (.cons (k := 11) rfl (.cons (k := 12) rfl (.cons (k := 13) rfl (.cons (k := 27) rfl (.cons (k := 28) rfl (.cons (k := 55) rfl .nil))))))))))) ?_
            refine V_cond_t rfl rfl ?_
            refine V_draw (.rd 0 (.rd 1 (.wr 2 [0] (.rd 3 (.rd 4 .done))))) mixed (by kernel_rfl) rfl ?_
            refine D_rd rfl (.plain rfl) (r_load ag3 rfl rfl (by repeat first | exact mH | apply mT) rfl) ?_
            refine D_rd rfl (.plain rfl) (r_loadA (vs := [_, _, _, _, _, _, _, _, _, _, _, _, _]) ag35 sz35 rfl rfl (by repeat first | exact mH | apply mT) rfl) ?_
            refine D_wr (.go (E' := [(0, _)]) rfl (.plain rfl) (w_callP rfl rfl rfl (fun w hg => span_c ((ownT t u now k).getD boxZ) (ownT_bnd hG hu.2 g1) w)) rfl ?_)
            rintro _ _ ⟨rfl, rfl⟩
            refine ⟨(.cons rfl (.plain rfl) (r_load ag3 rfl rfl (by repeat first | exact mH | apply mT) rfl) .nil), ?_⟩
            refine D_p rfl (.plain rfl) (p_assign rfl rfl) ?_
            refine D_p rfl (.plain rfl) (p_assign rfl rfl) ?_
            refine D_keep (.cons (k := 1) rfl (.cons (k := 2) rfl (.cons (k := 3) rfl (.cons (k := 8) rfl (.cons (k := 10) rfl (.cons (k := 11) rfl (.cons (k := 27) rfl (.cons (k := 28) rfl .nil)))))))) (blk_n (then_n ?_))
            refine V_region rfl ?_
            first | refine L_go rfl (X_p (p_add' rfl rfl rfl (by unfold InI; omega)) ?_) | refine L_go rfl (X_p (p_add rfl rfl rfl) ?_)
            refine L_go rfl (X_p (p_move rfl rfl) ?_)
            refine L_keep (.cons (k := 1) rfl (.cons (k := 2) rfl (.cons (k := 3) rfl (.cons (k := 8) rfl (.cons (k := 10) rfl (.cons (k := 11) rfl (.cons (k := 27) rfl (.cons (k := 28) rfl .nil)))))))) (then_n ?_)
            refine ⟨(k + 1, k, wideB ((ownT t u now k).getD boxZ)), ?_, ?_, (.cons rfl (.cons rfl (.cons rfl (.cons rfl (.cons rfl (.cons rfl (.cons rfl (.cons rfl (.nil _))))))))), (by repeat (first | exact List.nil_sublist _ | exact List.Sublist.refl _ | apply List.Sublist.cons_cons | apply List.Sublist.cons | apply List.sublist_append_of_sublist_right)), rfl⟩
            · refine ⟨by omega, by omega, ?_⟩
              rw [bestN_succ hk0, hbn]
              exact bestStep_yes g1 g2 (by first | exact .inl g3' | exact .inr c3)
            · dsimp only; omega
          · intro g3; have g3' := g3; try simp only [td] at g3'
            refine L_yes rfl rfl rfl g3 (X_rd (r_loadA (vs := [_, _, _, _, _, _, _, _, _, _, _, _, _]) ag35 sz35 rfl rfl (by repeat first | exact mH | apply mT) rfl) ?_)
            refine L_yes rfl rfl rfl g3 (X_wr (w_callP rfl rfl rfl (fun w hg => span_c ((ownT t u now k).getD boxZ) (ownT_bnd hG hu.2 g1) w)) ?_)
            rintro _ _ ⟨rfl, rfl⟩
            refine L_yes rfl rfl rfl g3 (X_p (p_move rfl rfl) ?_)
            refine L_yes rfl rfl rfl g3 (X_p (p_lss rfl rfl rfl) ?_)
            refine L_yes rfl rfl rfl g2 (X_p (p_pick_f rfl rfl g3 rfl) ?_)
            refine L_go rfl (X_p (p_pick_t rfl rfl g2 rfl) ?_)
            refine L_then (.cons (k := 1) rfl (.cons (k := 2) rfl (.cons (k := 3) rfl (.cons (k := 8) rfl (.cons (k := 10) rfl (.cons (k := 11) rfl (.cons (k := 12) rfl (.cons (k := 13) rfl (.cons (k := 27) rfl (.cons (k := 28) rfl (.cons (k := 55) rfl .nil))))))))))) ?_
            refine V_cond rfl ?_ ?_
            · intro c3; try simp only [td] at c3
              refine V_draw (.rd 0 (.rd 1 (.wr 2 [0] (.rd 3 (.rd 4 .done))))) mixed (by kernel_rfl) rfl ?_
              refine D_rd rfl (.plain rfl) (r_load ag3 rfl rfl (by repeat first | exact mH | apply mT) rfl) ?_
              refine D_rd rfl (.plain rfl) (r_loadA (vs := [_, _, _, _, _, _, _, _, _, _, _, _, _]) ag35 sz35 rfl rfl (by repeat first | exact mH | apply mT) rfl) ?_
              refine D_wr (.go (E' := [(0, _)]) rfl (.plain rfl) (w_callP rfl rfl rfl (fun w hg => span_c ((ownT t u now k).getD boxZ) (ownT_bnd hG hu.2 g1) w)) rfl ?_)
              rintro _ _ ⟨rfl, rfl⟩
              refine ⟨(.cons rfl (.plain rfl) (r_load ag3 rfl rfl (by repeat first | exact mH | apply mT) rfl) .nil), ?_⟩
              refine D_p rfl (.plain rfl) (p_assign rfl rfl) ?_
              refine D_p rfl (.plain rfl) (p_assign rfl rfl) ?_
              refine D_keep (.cons (k := 1) rfl (.cons (k := 2) rfl (.cons (k := 3) rfl (.cons (k := 8) rfl (.cons (k := 10) rfl (.cons (k := 11) rfl (.cons (k := 27) rfl (.cons (k := 28) rfl .nil)))))))) (blk_n (then_n ?_))
              refine V_region rfl ?_
              first | refine L_go rfl (X_p (p_add' rfl rfl rfl (by unfold InI; omega)) ?_) | refine L_go rfl (X_p (p_add rfl rfl rfl) ?_)
              refine L_go rfl (X_p (p_move rfl rfl) ?_)
              refine L_keep (.cons (k := 1) rfl (.cons (k := 2) rfl (.cons (k := 3) rfl (.cons (k := 8) rfl (.cons (k := 10) rfl (.cons (k := 11) rfl (.cons (k := 27) rfl (.cons (k := 28) rfl .nil)))))))) (then_n ?_)
              refine ⟨(k + 1, k, wideB ((ownT t u now k).getD boxZ)), ?_, ?_, (.cons rfl (.cons rfl (.cons rfl (.cons rfl (.cons rfl (.cons rfl (.cons rfl (.cons rfl (.nil _))))))))), (by repeat (first | exact List.nil_sublist _ | exact List.Sublist.refl _ | apply List.Sublist.cons_cons | apply List.Sublist.cons | apply List.sublist_append_of_sublist_right)), rfl⟩
              · refine ⟨by omega, by omega, ?_⟩
                rw [bestN_succ hk0, hbn]
                exact bestStep_yes g1 g2 (by first | exact .inl g3' | exact .inr c3)
              · dsimp only; omega
            · intro c3; try simp only [td] at c3
              refine V_skip (blk_n (then_n ?_))
              refine V_region rfl ?_
              first | refine L_go rfl (X_p (p_add' rfl rfl rfl (by unfold InI; omega)) ?_) | refine L_go rfl (X_p (p_add rfl rfl rfl) ?_)
              refine L_go rfl (X_p (p_move rfl rfl) ?_)
              refine L_keep (.cons (k := 1) rfl (.cons (k := 2) rfl (.cons (k := 3) rfl (.cons (k := 8) rfl (.cons (k := 10) rfl (.cons (k := 11) rfl (.cons (k := 27) rfl (.cons (k := 28) rfl .nil)))))))) (then_n ?_)
              refine ⟨(k + 1, a, l), ?_, ?_, (.cons rfl (.cons rfl (.cons rfl (.cons rfl (.cons rfl (.cons rfl (.cons rfl (.cons rfl (.nil _))))))))), (by repeat (first | exact List.nil_sublist _ | exact List.Sublist.refl _ | apply List.Sublist.cons_cons | apply List.Sublist.cons | apply List.sublist_append_of_sublist_right)), rfl⟩
              · refine ⟨by omega, by omega, ?_⟩
                rw [bestN_succ hk0, hbn]
                exact bestStep_no g1 (by rintro ⟨ha, hb⟩; first | omega | (rw [g2] at ha; cases ha))
              · dsimp only; omega
        · intro g2; have g2' := g2; try simp only [td] at g2'
          refine L_no rfl rfl rfl g2 ?_
          refine L_no rfl rfl rfl g2 ?_
          refine L_no rfl rfl rfl g2 ?_
          refine L_nou rfl rfl rfl ?_
          refine L_nou rfl rfl rfl ?_
          refine L_nou rfl rfl rfl ?_
          refine L_nou rfl rfl rfl ?_
          refine L_no rfl rfl rfl g2 ?_
          refine L_go rfl (X_p (p_pick_f rfl rfl g2 rfl) ?_)
          refine L_then (.cons (k := 1) rfl (.cons (k := 2) rfl (.cons (k := 3) rfl (.cons (k := 8) rfl (.cons (k := 10) rfl (.cons (k := 11) rfl (.cons (k := 12) rfl (.cons (k := 13) rfl (.cons (k := 27) rfl (.cons (k := 28) rfl (.cons (k := 55) rfl .nil))))))))))) ?_
          refine V_cond_f rfl rfl ?_
          refine V_skip (blk_n (then_n ?_))
          refine V_region rfl ?_
          first | refine L_go rfl (X_p (p_add' rfl rfl rfl (by unfold InI; omega)) ?_) | refine L_go rfl (X_p (p_add rfl rfl rfl) ?_)
          refine L_go rfl (X_p (p_move rfl rfl) ?_)
          refine L_keep (.cons (k := 1) rfl (.cons (k := 2) rfl (.cons (k := 3) rfl (.cons (k := 8) rfl (.cons (k := 10) rfl (.cons (k := 11) rfl (.cons (k := 27) rfl (.cons (k := 28) rfl .nil)))))))) (then_n ?_)
          refine ⟨(k + 1, a, l), ?_, ?_, (.cons rfl (.cons rfl (.cons rfl (.cons rfl (.cons rfl (.cons rfl (.cons rfl (.cons rfl (.nil _))))))))), (by repeat (first | exact List.nil_sublist _ | exact List.Sublist.refl _ | apply List.Sublist.cons_cons | apply List.Sublist.cons | apply List.sublist_append_of_sublist_right)), rfl⟩
          · refine ⟨by omega, by omega, ?_⟩
            rw [bestN_succ hk0, hbn]
            exact bestStep_no g1 (by rintro ⟨ha, hb⟩; first | omega | (rw [g2] at ha; cases ha))
          · dsimp only; omega
      · intro g1; have g1' := g1; try simp only [td] at g1'
        refine L_no rfl rfl rfl g1 ?_
        refine L_no rfl rfl rfl g1 ?_
        refine L_no rfl rfl rfl g1 ?_
        refine L_go rfl (X_p (p_pick_f rfl rfl g1 rfl) ?_)
        refine L_go rfl (X_p (p_move rfl rfl) ?_)
        refine L_no rfl rfl rfl rfl ?_
        refine L_no rfl rfl rfl rfl ?_
        refine L_no rfl rfl rfl rfl ?_
        refine L_nou rfl rfl rfl ?_
        refine L_nou rfl rfl rfl ?_
        refine L_nou rfl rfl rfl ?_
        refine L_nou rfl rfl rfl ?_
        refine L_no rfl rfl rfl rfl ?_
        refine L_go rfl (X_p (p_pick_f rfl rfl rfl rfl) ?_)
        refine L_then (.cons (k := 1) rfl (.cons (k := 2) rfl (.cons (k := 3) rfl (.cons (k := 8) rfl (.cons (k := 10) rfl (.cons (k := 11) rfl (.cons (k := 12) rfl (.cons (k := 13) rfl (.cons (k := 27) rfl (.cons (k := 28) rfl (.cons (k := 55) rfl .nil))))))))))) ?_
        refine V_cond_f rfl rfl ?_
        refine V_skip (blk_n (then_n ?_))
        refine V_region rfl ?_
        first | refine L_go rfl (X_p (p_add' rfl rfl rfl (by unfold InI; omega)) ?_) | refine L_go rfl (X_p (p_add rfl rfl rfl) ?_)
        refine L_go rfl (X_p (p_move rfl rfl) ?_)
        refine L_keep (.cons (k := 1) rfl (.cons (k := 2) rfl (.cons (k := 3) rfl (.cons (k := 8) rfl (.cons (k := 10) rfl (.cons (k := 11) rfl (.cons (k := 27) rfl (.cons (k := 28) rfl .nil)))))))) (then_n ?_)
        refine ⟨(k + 1, a, l), ?_, ?_, (.cons rfl (.cons rfl (.cons rfl (.cons rfl (.cons rfl (.cons rfl (.cons rfl (.cons rfl (.nil _))))))))), (by repeat (first | exact List.nil_sublist _ | exact List.Sublist.refl _ | apply List.Sublist.cons_cons | apply List.Sublist.cons | apply List.sublist_append_of_sublist_right)), rfl⟩
        · refine ⟨by omega, by omega, ?_⟩
          rw [bestN_succ hk0, hbn]
          exact bestStep_none g1
        · dsimp only; omega
    · intro c2; try simp only [td] at c2
      refine V_exit (then_e (then_e (blk_e rfl (then_n ?_))))
      refine V_seq ?_
      refine V_seq (V_region rfl ?_)
      refine L_go rfl (X_p (p_move rfl rfl) ?_)
      refine L_go rfl (X_p (p_lss rfl rfl rfl) ?_)
      refine L_then (.cons (k := 10) rfl (.cons (k := 61) rfl .nil)) ?_
      refine V_cond rfl ?_ ?_
      · intro c4; try simp only [td] at c4
        refine V_seq (V_region rfl ?_)
        refine L_go rfl (X_p (p_assign rfl rfl) ?_)
        refine L_go rfl (X_p (p_assign rfl rfl) ?_)
        refine L_then (.cons (k := 6) rfl (.cons (k := 7) rfl .nil)) ?_
        refine V_ret (then_r ?_)
        refine Leave.nil (.tmp rfl (.tmp rfl .nil)) ?_
        have ek : k.toNat = t.trackers.length := by omega
        rw [ek] at hbn
        rw [bestP_2 c1 hbn (by assumption)]; rfl
      · intro c4; try simp only [td] at c4
        refine V_skip (then_n ?_)
        refine V_seq (V_region rfl ?_)
        refine L_go rfl (X_p (p_move rfl rfl) ?_)
        refine L_go rfl (X_p (p_assign rfl rfl) ?_)
        refine L_go rfl (X_p (p_assign rfl rfl) ?_)
        refine L_then (.cons (k := 6) rfl (.cons (k := 7) rfl .nil)) ?_
        refine V_ret ?_
        refine Leave.nil (.tmp rfl (.tmp rfl .nil)) ?_
        have ek : k.toNat = t.trackers.length := by omega
        rw [ek] at hbn
        rw [bestP_3 c1 hbn (by omega)]; rfl
set_option maxHeartbeats 4000000 in
theorem fails_c (t : Task) (tv pv : Value) (u now : Int) (w : World) (ht : TaskR w (.agg #[.int .i64 t.frm, .int .i64 t.speed, .int .i64 t.accel, tv, pv]) t) : FnC Try.prog 30 [.agg #[.int .i64 t.frm, .int .i64 t.speed, .int .i64 t.accel, tv, pv], .int .i64 u, .int .i64 now] w fun v w' => ∃ Hc, Vc.Good w [] Hc w' ∧ ∃ A G, Hc = A ++ G ∧ ListOut 3 (failsL t u now) (fun sv => .tuple #[sv, .bool (failsB t u now), .int .i64 (askedT t [u, now])]) v A G := by
  have hT := ht
  obtain ⟨_, _, _, htr, hpl⟩ := ht.lit
  obtain ⟨ta, tc, rfl, htc, hte⟩ := htr.ex
  simp only [List.length_map] at hT htc htr ⊢
  refine fn_new Try.func30 rfl (by kernel_rfl) Try.ntmps30 Try.results30 rfl ?_
  refine V_seq (V_region rfl ?_)
  refine L_go rfl (X_wr (w_box rfl rfl) ?_)
  rintro _ _ ⟨b1, hb1, rfl, rfl⟩
  refine L_go rfl (X_wr (w_alloc zr57 rfl) ?_)
  rintro _ _ ⟨b2, hb2, rfl, rfl⟩
  refine L_go rfl (X_p (p_assign rfl rfl) ?_)
  refine L_go rfl (X_p (p_assign rfl rfl) ?_)
  refine L_then (.cons (k := 1) rfl (.cons (k := 2) rfl (.cons (k := 3) rfl (.cons (k := 6) rfl .nil)))) ?_
  refine V_seq ?_
  refine V_seq (V_region rfl ?_)
  refine L_go rfl (X_rd (r_loadA (vs := [_, _, _, _, _]) ag25 sz25 rfl rfl (by repeat first | exact mH | apply mT) rfl) ?_)
  refine L_go rfl (X_p (p_move rfl rfl) ?_)
  refine L_go rfl (X_p (p_move rfl rfl) ?_)
  refine L_go rfl (X_wr (w_slice (r := [_, _]) un57 sz3 zr3 rfl (by decide) rfl (by decide) rfl rfl) ?_)
  rintro _ _ ⟨b3, hb3, rfl, rfl⟩
  refine L_go rfl (X_wr (w_callP rfl rfl rfl (fun w hg => asked_c t [u, now] _ _ w (hT.good hg) (own_ints (l := [u, now]) (hg.own (b3, _) (by repeat first | exact mH | apply mT)) rfl (by decide)) (by simp))) ?_)
  rintro _ _ ⟨rfl, rfl⟩
  refine L_go rfl (X_p (p_assign rfl rfl) ?_)
  refine L_then (.cons (k := 1) rfl (.cons (k := 2) rfl (.cons (k := 3) rfl (.cons (k := 6) rfl (.cons (k := 8) rfl .nil))))) ?_
  refine V_seq (V_region rfl ?_)
  refine L_go rfl (X_p (p_move rfl rfl) ?_)
  refine L_go rfl (X_p (p_neq rfl rfl rfl) ?_)
  refine L_then (.cons (k := 1) rfl (.cons (k := 2) rfl (.cons (k := 3) rfl (.cons (k := 6) rfl (.cons (k := 8) rfl (.cons (k := 16) rfl .nil)))))) ?_
  refine V_cond rfl ?_ ?_
  · intro c1; try simp only [td] at c1
    refine V_seq (V_region rfl ?_)
    refine L_go rfl (X_p (p_move rfl rfl) ?_)
    refine L_go rfl (X_wr (w_store (cs' := [_]) sz57 rfl rfl rfl rfl rfl (by repeat first | exact .head | apply SetAt.tail) (Nat.le_of_ble_eq_true rfl) rfl) ?_)
    rintro _ _ ⟨rfl, rfl⟩
    refine L_go rfl (X_p (p_assign rfl rfl) ?_)
    refine L_go rfl (X_p (p_assign rfl rfl) ?_)
    refine L_then (.cons (k := 6) rfl (.cons (k := 7) rfl (.cons (k := 8) rfl .nil))) ?_
    refine V_ret (then_r ?_)
    refine Leave.nil (.cell rfl ag57 (by repeat first | exact mH | apply mT) rfl (.tmp rfl (.tmp rfl .nil))) ?_
    obtain ⟨e1, e2⟩ := failsL_1 c1
    refine ⟨[], HSub.nil _, [], [], rfl, .slice none 0 0, rfl, ?_, ?_⟩
    · rw [e2]; rfl
    · rw [e1]; exact .nil
  · intro c1; try simp only [td] at c1
    obtain ⟨hG, hn⟩ := asked_zero c1
    have hu := hn u (.head _)
    have htl := hG.h1
    refine V_skip (then_n ?_)
    refine V_seq (V_region rfl ?_)
    refine L_go rfl (X_rd (r_loadA (vs := [_, _, _, _, _]) ag25 sz25 rfl rfl (by repeat first | exact mH | apply mT) rfl) ?_)
    refine L_go rfl (X_p (p_move rfl rfl) ?_)
    refine L_go rfl (X_wr (w_callG (pre := [_, _, _]) (post := []) rfl rfl rfl (by rw [List.append_nil]) (fun w hg => pickOf_c t hG _ _ now (fun _ => true) _ _ w (hT.good hg) (fun x w' he => all_c x w'))) ?_)
    rintro _ _ ⟨_, G, rfl, hfr, bp, bm, sv, clk, rfl, rfl, hgr⟩
    try simp only [List.cons_append, List.nil_append, List.append_nil]
    refine L_go rfl (X_p (p_move rfl rfl) ?_)
    refine L_go rfl (X_wr (w_callM rfl rfl rfl (fun o' => (by repeat first | exact .head | apply SetAt.tail)) (fun w hg => box_c bp bm #[] clk t _ u hu w (PickR.own hg hG hT (hfr _ (.tail _ (.head _))) (by repeat first | exact mH | apply mT) (by repeat first | exact mH | apply mT) (fun p hp => by repeat first | exact hp | exact List.mem_append_left _ hp | apply List.mem_append_right | apply mT) hgr) (Cache.nil _ _) (hg.own (bm, _) (by repeat first | exact mH | apply mT)))) ?_)
    rintro _ _ ⟨_, rfl, rfl, es2, clk2, rfl, _⟩
    refine L_go rfl (X_p (p_move rfl rfl) ?_)
    refine L_go rfl (X_p (p_ext rfl rfl rfl) ?_)
    refine L_go rfl (X_p (p_ext rfl rfl rfl) ?_)
    refine L_go rfl (X_p (p_assign rfl rfl) ?_)
    refine L_then (.cons (k := 1) rfl (.cons (k := 2) rfl (.cons (k := 3) rfl (.cons (k := 6) rfl (.cons (k := 7) rfl (.cons (k := 8) rfl .nil)))))) ?_
    refine V_seq ?_
    refine V_seq (V_region rfl ?_)
    refine L_go rfl (X_rd (r_loadA (vs := [_, _, _, _, _]) ag25 sz25 rfl rfl (by repeat first | exact mH | apply mT) rfl) ?_)
    refine L_go rfl (X_p (p_move rfl rfl) ?_)
    refine L_go rfl (X_p (p_move rfl rfl) ?_)
    refine L_go rfl (X_wr (w_callN rfl rfl rfl (fun w hg => others_c t _ _ u now w)) ?_)
    rintro _ _ ⟨_, rfl, _, y1, y2, y3, rfl, rfl⟩
    refine L_then (.cons (k := 6) rfl (.cons (k := 7) rfl (.cons (k := 8) rfl (.cons (k := 29) rfl .nil)))) ?_
    refine V_block ?_
    refine V_range (L := (othersV t u now t.trackers.length).map ov) rfl (.cons (k := 6) rfl (.cons (k := 7) rfl (.cons (k := 8) rfl (.cons (k := 29) rfl .nil)))) rfl rfl (fun done x => done.length < t.trackers.length ∧ ∃ p : Int × Box, x = ov p) (fun done Hs => ∃ (qs : List (Int × Box)) (sv : Value) (G : Heap), done = qs.map ov ∧ Hs = (y2, .cells #[.int .i64 now] 3) :: (y3, .cells #[.int .i64 u] 3) :: (y1, t.obj (.slice ta t.trackers.length tc) pv 25) :: (b2, .cells #[sv] 57) :: (b1, t.obj (.slice ta t.trackers.length tc) pv 25) :: G ∧ Grow 3 1 sv (qs.map Prod.fst).length (iiL (qs.map Prod.fst)) G) (by rintro done vs ⟨_, p, rfl⟩; rfl) (by repeat (first | exact List.nil_sublist _ | exact List.Sublist.refl _ | apply List.Sublist.cons_cons | apply List.Sublist.cons)) (⟨[], _, [], rfl, rfl, .nil⟩) ?_ ?_ ?_
    · intro l1 D1 r1 done vs Hr own hp hJ
      obtain ⟨hdl, p, rfl⟩ := hp
      obtain ⟨qs, sv, G, rfl, rfl, hgr⟩ := hJ
      simp only [List.length_map] at hdl hgr
      refine V_region rfl ?_
      refine L_go rfl (X_p (p_assign rfl rfl) ?_)
      refine L_keep (.cons (k := 6) rfl (.cons (k := 7) rfl (.cons (k := 8) rfl (.cons (k := 9) rfl (.cons (k := 29) rfl .nil))))) ?_
      refine asgI (by repeat first | exact .head | apply SetAt.tail) ?_
      refine V_block ?_
      refine V_region rfl ?_
      refine L_go rfl (X_rd (r_load ag57 rfl rfl (by repeat first | exact mH | apply mT) rfl) ?_)
      refine L_go rfl (X_p (p_move rfl rfl) ?_)
      refine L_go rfl (X_wr (w_slice (r := [_]) un57 sz3 zr3 rfl (by decide) rfl (by decide) rfl rfl) ?_)
      rintro _ _ ⟨b6, hb6, rfl, rfl⟩
      refine L_go rfl (X_wr (w_app (pre := [_, _, _, _, _, _, _, _]) (G := G) ap57 rfl rfl rfl hgr rfl rfl (news_own (by repeat first | exact mH | apply mT)) (by simp [Value.oneCell']) (by omega) (by simp only [maxLen]; omega)) ?_)
      rintro _ _ ⟨G1a, G1c, G1, rfl, rfl, hgr1⟩
      try simp only [List.cons_append, List.nil_append, List.append_nil]
      refine L_go rfl (X_wr (w_store (cs' := [_]) sz57 rfl rfl rfl rfl rfl (by repeat first | exact .head | apply SetAt.tail) (Nat.le_of_ble_eq_true rfl) rfl) ?_)
      rintro _ _ ⟨rfl, rfl⟩
      refine L_keep .nil (blk_n ?_)
      refine endI (by repeat first | exact .head | apply SetAt.tail) ?_
      refine ⟨(y2, .cells #[.int .i64 now] 3) :: (y3, .cells #[.int .i64 u] 3) :: (y1, t.obj (.slice ta t.trackers.length tc) pv 25) :: (b2, .cells #[_] 57) :: (b1, t.obj (.slice ta t.trackers.length tc) pv 25) :: G1, (by (try dsimp only); repeat (first | exact HSub.nil _ | refine HSub.take (by repeat first | exact Take.head | apply Take.tail) ?_ | exact HSub.refl _ | refine HSub.drop ?_ | refine HSub.app ?_)), ?_⟩
      refine ⟨qs ++ [p], _, G1, by rw [List.map_append]; rfl, rfl, ?_⟩
      rw [List.map_append, iiL, List.map_append, List.length_append, List.length_map]
      exact hgr1
    · intro l1 D1 r1 w1 hY hgi
      refine (others1_c t hG u now hu w l1 y1 y2 y3 ta tc pv _ hT hY ?_ w1 _ ⟨_, rfl, [], _, [], rfl, rfl, .nil⟩ hgi).mono (fun _ w2 ⟨Hs, hg2, Hr, e, hJ⟩ => ⟨Hr, e ▸ hg2, hJ⟩)
      rintro done _ ⟨Hr, rfl, qs, sv, G, rfl, rfl, hgr⟩
      exact ⟨.tail _ (.tail _ (.tail _ (.tail _ (.head _)))), .tail _ (.tail _ (.head _)), .tail _ (.tail _ (.tail _ (.head _)))⟩
    · intro l1 D1 ob1 Hr hJ
      obtain ⟨qs, sv, G, hL, rfl, hgr⟩ := hJ
      obtain ⟨sa, sc, rfl⟩ := Grow.form hgr
      have hqs := ov_inj hL
      refine (blk_n (then_n ?_))
      refine V_seq (V_region rfl ?_)
      refine L_go rfl (X_rd (r_load ag57 rfl rfl (by repeat first | exact mH | apply mT) rfl) ?_)
      refine L_go rfl (X_p (p_move rfl rfl) ?_)
      refine L_go rfl (X_wr (w_store (cs' := [_]) sz57 rfl rfl rfl rfl rfl (by repeat first | exact .head | apply SetAt.tail) (Nat.le_of_ble_eq_true rfl) rfl) ?_)
      rintro _ _ ⟨rfl, rfl⟩
      refine L_go rfl (X_p (p_assign rfl rfl) ?_)
      refine L_go rfl (X_p (p_assign rfl rfl) ?_)
      refine L_then (.cons (k := 6) rfl (.cons (k := 7) rfl (.cons (k := 8) rfl .nil))) ?_
      refine V_ret ?_
      refine Leave.mark (by repeat first | exact .head | apply SetAt.tail) (Leave.nil (.cell rfl ag57 (by repeat first | exact mH | apply mT) rfl (.tmp rfl (.tmp rfl .nil))) ?_)
      obtain ⟨e1, e2⟩ := failsL_2 c1
      refine ⟨G, (by (try dsimp only); repeat (first | exact HSub.nil _ | refine HSub.take (by repeat first | exact Take.head | apply Take.tail) ?_ | exact HSub.refl _ | refine HSub.drop ?_ | refine HSub.app ?_)), [], G, rfl, .slice sa (qs.map Prod.fst).length sc, rfl, ?_, ?_⟩
      · rw [e2, c1]; rfl
      · rw [e1, hqs]; exact hgr

end Go.Proofs.Ytclbbchehjapjaa
