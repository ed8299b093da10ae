/- Ytclbbchehjapjaa: TrackMore is proved: for any task, ticks and plot (no condition) it returns true. -/
import Derived.Test.YtclbbchehjapjaaRows
import Derived.Test.YtclbbchehjapjaaS1
import Derived.Test.YtclbbchehjapjaaY
import Derived.Test.YtclbbchehjapjaaS
import Derived.ProofKit
set_option linter.all false
namespace Go.Proofs.Ytclbbchehjapjaa
open Go.Vc Go.Tk Go.ChangeShapes Go.WideShapes Go.ChangeAt Go.RowKit
set_option maxRecDepth 100000
theorem moreA (t : Task) (tv pv : Value) (x0 x1 x2 : Int) (hx : 0 ≤ x2 ∧ x2 ≤ 255) (w : World) (ht : TaskR w (.agg #[.int .i64 t.frm, .int .i64 t.speed, .int .i64 t.accel, tv, pv]) t) (h : (whereP t x0 x1).2 ≠ 0) : FnP Try.prog 4 [.agg #[.int .i64 t.frm, .int .i64 t.speed, .int .i64 t.accel, tv, pv], .agg #[.int .i64 x0, .int .i64 x1], .int .u8 x2] w (.bool true) := by
  refine fn_pure Try.func4 rfl (by kernel_rfl) Try.ntmps4 Try.results4 rfl ?_
  refine V_seq (V_region rfl ?_)
  refine L_go rfl (X_wr (w_box rfl rfl) ?_)
  rintro _ _ ⟨b1, hb1, rfl, rfl⟩
  refine L_go rfl (X_wr (w_box rfl rfl) ?_)
  rintro _ _ ⟨b2, hb2, rfl, rfl⟩
  refine L_go rfl (X_p (p_assign rfl rfl) ?_)
  refine L_then (.cons (k := 2) rfl (.cons (k := 3) rfl (.cons (k := 4) rfl .nil))) ?_
  refine V_seq (V_region rfl ?_)
  refine L_go rfl (X_rd (r_loadA (vs := [_, _, _, _, _]) ag25 sz25 rfl rfl (by repeat first | exact mH | apply mT) rfl) ?_)
  refine L_go rfl (X_p (p_idxao ar31 rfl rfl rfl (by omega) (by omega)) ?_)
  refine L_go rfl (X_rd (r_load ag3 rfl rfl (by repeat first | exact mH | apply mT) rfl) ?_)
  refine L_go rfl (X_p (p_idxao ar31 rfl rfl rfl (by omega) (by omega)) ?_)
  refine L_go rfl (X_rd (r_load ag3 rfl rfl (by repeat first | exact mH | apply mT) rfl) ?_)
  refine L_go rfl (X_wr (w_callP rfl rfl rfl (fun w hg => (show FnP _ _ _ w (.tuple #[.agg (Box.cells boxZ).toArray, .int .i64 (whereP t x0 x1).2]) from by have h1 := where_c t _ _ x0 x1 w (ht.good hg); rw [whereT_eq, whereP_1 h] at h1; exact h1))) ?_)
  rintro _ _ ⟨rfl, rfl⟩
  refine L_go rfl (X_p (p_move rfl rfl) ?_)
  refine L_go rfl (X_p (p_ext rfl rfl rfl) ?_)
  refine L_go rfl (X_p (p_ext rfl rfl rfl) ?_)
  refine L_go rfl (X_wr (w_alloc zr35 rfl) ?_)
  rintro _ _ ⟨b3, hb3, rfl, rfl⟩
  refine L_go rfl (X_wr (w_store (cs' := [_, _, _, _, _, _, _, _, _, _, _, _, _]) sz35 rfl rfl rfl rfl rfl (by repeat first | exact .head | apply SetAt.tail) (Nat.le_of_ble_eq_true rfl) rfl) ?_)
  rintro _ _ ⟨rfl, rfl⟩
  refine L_go rfl (X_p (p_assign rfl rfl) ?_)
  refine L_then (.cons (k := 2) rfl (.cons (k := 3) rfl (.cons (k := 4) rfl (.cons (k := 7) rfl (.cons (k := 8) rfl .nil))))) ?_
  refine V_seq ?_
  refine V_seq (V_region rfl ?_)
  refine L_go rfl (X_p (p_move rfl rfl) ?_)
  refine L_go rfl (X_p (p_neq rfl rfl rfl) ?_)
  refine L_then (.cons (k := 2) rfl (.cons (k := 3) rfl (.cons (k := 4) rfl (.cons (k := 7) rfl (.cons (k := 22) rfl .nil))))) ?_
  refine V_cond_t rfl (by simp [h]) ?_
  refine V_seq (V_region rfl ?_)
  refine L_go rfl (X_rd (r_loadA (vs := [_, _, _, _, _, _, _, _, _, _, _, _, _]) ag35 sz35 rfl rfl (by repeat first | exact mH | apply mT) rfl) ?_)
  refine L_go rfl (X_p (p_build (r := [_, _, _, _, _, _, _, _, _, _, _, _, _]) pl35 zr35 rfl rfl rfl) ?_)
  refine L_go rfl (X_p (p_eqS lv35 ag35 eg35 rfl rfl rfl rfl rfl) ?_)
  refine L_go rfl (X_p (p_move rfl rfl) ?_)
  refine L_yes rfl rfl rfl rfl (X_wr (w_callP rfl rfl rfl (fun w hg => awake_c w)) ?_)
  rintro _ _ ⟨rfl, rfl⟩
  refine L_go rfl (X_p (p_pick_t rfl rfl rfl rfl) ?_)
  refine L_go rfl (X_p (p_assign rfl rfl) ?_)
  refine L_then (.cons (k := 6) rfl .nil) ?_
  refine V_ret (then_r ?_)
  refine Leave.nil (.tmp rfl .nil) ?_
  rfl
set_option maxHeartbeats 8000000 in
theorem moreB (t : Task) (tv pv : Value) (x0 x1 x2 : Int) (hx : 0 ≤ x2 ∧ x2 ≤ 255) (w : World) (ht : TaskR w (.agg #[.int .i64 t.frm, .int .i64 t.speed, .int .i64 t.accel, tv, pv]) t) (b : Box) (h : askedT t [x0, x1] = 0) (hb : boxT t (byT t x1 fun _ => true) x0 = some b) : FnP Try.prog 4 [.agg #[.int .i64 t.frm, .int .i64 t.speed, .int .i64 t.accel, tv, pv], .agg #[.int .i64 x0, .int .i64 x1], .int .u8 x2] w (.bool true) := by
  obtain ⟨hG, hn0⟩ := asked_zero h
  have hT := ht
  obtain ⟨_, _, _, htr, hpl⟩ := ht.lit
  obtain ⟨ta, tc, rfl, htc, hte⟩ := htr.ex
  obtain ⟨pa, pc, rfl, hpc, hpe⟩ := hpl.ex
  have hpl60 := hG.h2
  simp only [List.length_map] at hT hpl hpc ⊢
  refine fn_pure Try.func4 rfl (by kernel_rfl) Try.ntmps4 Try.results4 rfl ?_
  refine V_seq (V_region rfl ?_)
  refine L_go rfl (X_wr (w_box rfl rfl) ?_)
  rintro _ _ ⟨b1, hb1, rfl, rfl⟩
  refine L_go rfl (X_wr (w_box rfl rfl) ?_)
  rintro _ _ ⟨b2, hb2, rfl, rfl⟩
  refine L_go rfl (X_p (p_assign rfl rfl) ?_)
  refine L_then (.cons (k := 2) rfl (.cons (k := 3) rfl (.cons (k := 4) rfl .nil))) ?_
  refine V_seq (V_region rfl ?_)
  refine L_go rfl (X_rd (r_loadA (vs := [_, _, _, _, _]) ag25 sz25 rfl rfl (by repeat first | exact mH | apply mT) rfl) ?_)
  refine L_go rfl (X_p (p_idxao ar31 rfl rfl rfl (by omega) (by omega)) ?_)
  refine L_go rfl (X_rd (r_load ag3 rfl rfl (by repeat first | exact mH | apply mT) rfl) ?_)
  refine L_go rfl (X_p (p_idxao ar31 rfl rfl rfl (by omega) (by omega)) ?_)
  refine L_go rfl (X_rd (r_load ag3 rfl rfl (by repeat first | exact mH | apply mT) rfl) ?_)
  refine L_go rfl (X_wr (w_callP rfl rfl rfl (fun w hg => (show FnP _ _ _ w (.tuple #[.agg (Box.cells b).toArray, .int .i64 0]) from by have h1 := where_c t _ _ x0 x1 w (hT.good hg); rw [whereT_eq, whereP_some h hb] at h1; exact h1))) ?_)
  rintro _ _ ⟨rfl, rfl⟩
  refine L_go rfl (X_p (p_move rfl rfl) ?_)
  refine L_go rfl (X_p (p_ext rfl rfl rfl) ?_)
  refine L_go rfl (X_p (p_ext rfl rfl rfl) ?_)
  refine L_go rfl (X_wr (w_alloc zr35 rfl) ?_)
  rintro _ _ ⟨b3, hb3, rfl, rfl⟩
  refine L_go rfl (X_wr (w_store (cs' := [_, _, _, _, _, _, _, _, _, _, _, _, _]) sz35 rfl rfl rfl rfl rfl (by repeat first | exact .head | apply SetAt.tail) (Nat.le_of_ble_eq_true rfl) rfl) ?_)
  rintro _ _ ⟨rfl, rfl⟩
  refine L_go rfl (X_p (p_assign rfl rfl) ?_)
  refine L_then (.cons (k := 2) rfl (.cons (k := 3) rfl (.cons (k := 4) rfl (.cons (k := 7) rfl (.cons (k := 8) rfl .nil))))) ?_
  refine V_seq ?_
  refine V_seq (V_region rfl ?_)
  refine L_go rfl (X_p (p_move rfl rfl) ?_)
  refine L_go rfl (X_p (p_neq rfl rfl rfl) ?_)
  refine L_then (.cons (k := 2) rfl (.cons (k := 3) rfl (.cons (k := 4) rfl (.cons (k := 7) rfl (.cons (k := 22) rfl .nil))))) ?_
  refine V_cond_f rfl rfl ?_
  refine V_skip (then_n ?_)
  refine V_seq ?_
  refine V_seq (V_region rfl ?_)
  refine L_go rfl (X_p (p_fieldo fo25_4 rfl rfl) ?_)
  refine L_go rfl (X_rd (r_load ag23 rfl rfl (by repeat first | exact mH | apply mT) rfl) ?_)
  refine L_go rfl (X_p (p_len isl23 rfl rfl) ?_)
  refine L_go rfl (X_p (p_eql rfl rfl rfl) ?_)
  refine L_then (.cons (k := 2) rfl (.cons (k := 3) rfl (.cons (k := 4) rfl (.cons (k := 7) rfl (.cons (k := 32) rfl .nil))))) ?_
  refine V_cond rfl ?_ ?_
  · intro c1; have c1r := c1; try simp only [td] at c1
    refine V_seq (V_region rfl ?_)
    refine L_go rfl (X_wr (w_callP rfl rfl rfl (fun w hg => awake_c w)) ?_)
    rintro _ _ ⟨rfl, rfl⟩
    refine L_go rfl (X_p (p_assign rfl rfl) ?_)
    refine L_then (.cons (k := 6) rfl .nil) ?_
    refine V_ret (then_r ?_)
    refine Leave.nil (.tmp rfl .nil) ?_
    rfl
  · intro c1; have c1r := c1; try simp only [td] at c1
    have hk0 : 0 ≤ (x2.tmod (t.plots.length : Int)) ∧ (x2.tmod (t.plots.length : Int)) < t.plots.length := ⟨Int.tmod_nonneg _ (by omega), Int.tmod_lt_of_pos _ (by omega)⟩
    obtain ⟨b2, hd, hin⟩ := drop_where hG (k := (x2.tmod (t.plots.length : Int)).toNat) (by omega) h hb
    have hdl : (dropT t (x2.tmod (t.plots.length : Int)).toNat).plots.length = t.plots.length - 1 := by simp only [dropT, List.length_append, List.length_take, List.length_drop]; omega
    have hds : ([] ++ ((t.plots.take (x2.tmod (t.plots.length : Int)).toNat).map Plot.cells).flatten) ++ ((t.plots.drop ((x2.tmod (t.plots.length : Int)) + 1).toNat).map Plot.cells).flatten = ((dropT t (x2.tmod (t.plots.length : Int)).toNat).plots.map Plot.cells).flatten := by
      have e : ((x2.tmod (t.plots.length : Int)) + 1).toNat = (x2.tmod (t.plots.length : Int)).toNat + 1 := by omega
      rw [e, List.nil_append, dropT, List.map_append, List.flatten_append]
    refine V_skip (then_n ?_)
    refine V_seq (V_region rfl ?_)
    refine L_go rfl (X_p (p_move rfl rfl) ?_)
    refine L_go rfl (X_p (p_convI un5 un3 rfl rfl (by unfold InI; omega)) ?_)
    refine L_go rfl (X_p (p_fieldo fo25_4 rfl rfl) ?_)
    refine L_go rfl (X_rd (r_load ag23 rfl rfl (by repeat first | exact mH | apply mT) rfl) ?_)
    refine L_go rfl (X_p (p_len isl23 rfl rfl) ?_)
    refine L_go rfl (X_p (p_rem rfl rfl rfl (by first | decide | omega)) ?_)
    refine L_go rfl (X_p (p_assign rfl rfl) ?_)
    refine L_then (.cons (k := 3) rfl (.cons (k := 4) rfl (.cons (k := 7) rfl (.cons (k := 9) rfl .nil)))) ?_
    refine V_seq (V_region rfl ?_)
    refine L_go rfl (X_rd (r_loadA (vs := [_, _, _, _, _]) ag25 sz25 rfl rfl (by repeat first | exact mH | apply mT) rfl) ?_)
    refine L_go rfl (X_wr (w_alloc zr25 rfl) ?_)
    rintro _ _ ⟨b4, hb4, rfl, rfl⟩
    refine L_go rfl (X_wr (w_store (cs' := [_, _, _, _, _]) sz25 rfl rfl rfl rfl rfl (by repeat first | exact .head | apply SetAt.tail) (Nat.le_of_ble_eq_true rfl) rfl) ?_)
    rintro _ _ ⟨rfl, rfl⟩
    refine L_then (.cons (k := 3) rfl (.cons (k := 4) rfl (.cons (k := 7) rfl (.cons (k := 9) rfl (.cons (k := 10) rfl .nil))))) ?_
    refine V_seq (V_draw (.rd 1 (.rd 2 (.rd 3 (.rd 4 (.rd 6 (.rd 7 (.rd 8 (.rd 9 (.rd 10 (.wr 0 [10, 9, 8, 7, 6, 4, 3, 2, 1] (.wr 5 [10, 9, 8, 7, 6, 3, 2, 1] (.wr 11 [9, 8, 7, 6, 4, 3, 2, 1] (.rd 12 (.wr 13 [] .done)))))))))))))) mixed (by kernel_rfl) rfl ?_)
    refine D_p rfl (.plain rfl) (p_fieldo fo25_4 rfl rfl) ?_
    refine D_rd rfl (.plain rfl) (r_load ag23 rfl rfl (by repeat first | exact mH | apply mT) rfl) ?_
    refine D_p rfl (.plain rfl) (p_move rfl rfl) ?_
    refine D_p rfl (.plain rfl) (p_slTo es23 rfl rfl rfl (by omega) (by omega)) ?_
    refine D_p rfl (.plain rfl) (p_fieldo fo25_4 rfl rfl) ?_
    refine D_rd rfl (.plain rfl) (r_load ag23 rfl rfl (by repeat first | exact mH | apply mT) rfl) ?_
    refine D_p rfl (.plain rfl) (p_move rfl rfl) ?_
    first | refine D_p rfl (.plain rfl) (p_add' rfl rfl rfl (by unfold InI; omega)) ?_ | refine D_p rfl (.plain rfl) (p_add rfl rfl rfl) ?_
    refine D_p rfl (.plain rfl) (p_slFrom es23 rfl rfl rfl (by omega) (by omega) (by omega)) ?_
    refine D_wr (.go (E' := [(7, _), (2, _)]) rfl (.plain rfl) (w_slice (r := []) un23 sz64 zr64 rfl (by decide) rfl (by decide) rfl rfl) rfl ?_)
    rintro _ _ ⟨b5, hb5, rfl, rfl⟩
    refine ⟨(.cons rfl (.plain rfl) (r_load ag23 rfl rfl (by repeat first | exact mH | apply mT) rfl) (.cons rfl (.plain rfl) (r_load ag23 rfl rfl (by repeat first | exact mH | apply mT) rfl) .nil)), ?_⟩
    refine D_wr (.go (E' := [(7, _), (2, _)]) rfl (.plain rfl) (w_appT (pre := []) (G := [_]) ap23 rfl rfl rfl (Grow.row (cur := #[]) (by decide) (by decide) rfl rfl rfl) rfl (by rw [pl_flat_len, List.length_take]; congr 1; omega) (news_slice (els := (t.plots.take (x2.tmod (t.plots.length : Int)).toNat).map Plot.cells) rfl (SliceR.takeM hpl (by omega)) pl_len (by decide)) pl_one (by omega) (by simp only [maxLen]; omega)) rfl ?_)
    rintro _ _ ⟨G1a, G1c, G1, rfl, rfl, hgr1⟩
    try simp only [List.cons_append, List.nil_append, List.append_nil]
    refine ⟨(.cons rfl (.plain rfl) (r_load ag23 rfl rfl (by repeat first | exact mH | apply mT) rfl) (.cons rfl (.plain rfl) (r_load ag23 rfl rfl (by repeat first | exact mH | apply mT) rfl) .nil)), ?_⟩
    refine D_wr (.go (E' := [(7, _), (2, _)]) rfl (.plain rfl) (w_appT (pre := [_, _, _, _]) (G := G1) (post := []) ap23 rfl rfl rfl hgr1 (by rw [List.append_nil]; rfl) (by rw [pl_flat_len, List.length_drop]) (news_slice (els := (t.plots.drop ((x2.tmod (t.plots.length : Int)) + 1).toNat).map Plot.cells) rfl (SliceR.dropM hpl (by omega)) pl_len (by decide)) pl_one (by omega) (by simp only [maxLen]; omega)) rfl ?_)
    rintro _ _ ⟨G2a, G2c, G2, rfl, rfl, hgr2⟩
    try simp only [List.cons_append, List.nil_append, List.append_nil]
    refine ⟨(.cons rfl (.plain rfl) (r_load ag23 rfl rfl (by repeat first | exact mH | apply mT) rfl) (.cons rfl (.plain rfl) (r_load ag23 rfl rfl (by repeat first | exact mH | apply mT) rfl) .nil)), ?_⟩
    refine D_p rfl (.plain rfl) (p_fieldo fo25_4 rfl rfl) ?_
    refine D_wr (.go (E' := []) rfl (.plain rfl) (w_store (cs' := [_, _, _, _, _]) sz23 rfl rfl rfl rfl rfl (by repeat first | exact .head | apply SetAt.tail) (Nat.le_of_ble_eq_true rfl) rfl) rfl ?_)
    rintro _ _ ⟨rfl, rfl⟩
    refine ⟨.nil, ?_⟩
    refine D_then (.cons (k := 4) rfl (.cons (k := 7) rfl (.cons (k := 10) rfl .nil))) ?_
    refine V_seq (V_region rfl ?_)
    refine L_go rfl (X_rd (r_loadA (vs := [_, _, _, _, _]) ag25 sz25 rfl rfl (by repeat first | exact mH | apply mT) rfl) ?_)
    refine L_go rfl (X_p (p_idxao ar31 rfl rfl rfl (by omega) (by omega)) ?_)
    refine L_go rfl (X_rd (r_load ag3 rfl rfl (by repeat first | exact mH | apply mT) rfl) ?_)
    refine L_go rfl (X_p (p_idxao ar31 rfl rfl rfl (by omega) (by omega)) ?_)
    refine L_go rfl (X_rd (r_load ag3 rfl rfl (by repeat first | exact mH | apply mT) rfl) ?_)
    refine L_go rfl (X_wr (w_callP rfl rfl rfl (fun w hg => (show FnP _ _ _ w (.tuple #[.agg (Box.cells b2).toArray, .int .i64 0]) from by have hT2 := TaskR.withPlots (t := t) (hT.good hg) (Grow.rows (els := (dropT t (x2.tmod (t.plots.length : Int)).toNat).plots.map Plot.cells) (by rw [← hds]; exact hgr2) pl_len (by rw [List.length_map, hdl]; omega) (fun p hp => hg.own p (by repeat first | exact hp | exact List.mem_append_left _ hp | apply List.mem_append_right | apply mT))) (by show ((dropT t (x2.tmod (t.plots.length : Int)).toNat).plots.length : Int) ≤ _; rw [hdl]; omega); have h1 := where_c (dropT t (x2.tmod (t.plots.length : Int)).toNat) _ _ x0 x1 w hT2; rw [whereT_eq, hd] at h1; exact h1))) ?_)
    rintro _ _ ⟨rfl, rfl⟩
    refine L_go rfl (X_p (p_move rfl rfl) ?_)
    refine L_go rfl (X_p (p_ext rfl rfl rfl) ?_)
    refine L_go rfl (X_p (p_ext rfl rfl rfl) ?_)
    refine L_go rfl (X_wr (w_alloc zr35 rfl) ?_)
    rintro _ _ ⟨b6, hb6, rfl, rfl⟩
    refine L_go rfl (X_wr (w_store (cs' := [_, _, _, _, _, _, _, _, _, _, _, _, _]) sz35 rfl rfl rfl rfl rfl (by repeat first | exact .head | apply SetAt.tail) (Nat.le_of_ble_eq_true rfl) rfl) ?_)
    rintro _ _ ⟨rfl, rfl⟩
    refine L_go rfl (X_p (p_assign rfl rfl) ?_)
    refine L_then (.cons (k := 7) rfl (.cons (k := 8) rfl (.cons (k := 11) rfl .nil))) ?_
    refine V_seq (V_region rfl ?_)
    refine L_go rfl (X_p (p_move rfl rfl) ?_)
    refine L_go rfl (X_p (p_eql rfl rfl rfl) ?_)
    refine L_go rfl (X_p (p_move rfl rfl) ?_)
    refine L_yes rfl rfl rfl rfl (X_rd (r_loadA (vs := [_, _, _, _, _, _, _, _, _, _, _, _, _]) ag35 sz35 rfl rfl (by repeat first | exact mH | apply mT) rfl) ?_)
    refine L_yes rfl rfl rfl rfl (X_rd (r_loadA (vs := [_, _, _, _, _, _, _, _, _, _, _, _, _]) ag35 sz35 rfl rfl (by repeat first | exact mH | apply mT) rfl) ?_)
    refine L_yes rfl rfl rfl rfl (X_wr (w_callP rfl rfl rfl (fun w hg => lwithin_c b b2 hin w)) ?_)
    rintro _ _ ⟨rfl, rfl⟩
    refine L_go rfl (X_p (p_pick_t rfl rfl rfl rfl) ?_)
    refine L_go rfl (X_p (p_move rfl rfl) ?_)
    refine L_yes rfl rfl rfl rfl (X_wr (w_callP rfl rfl rfl (fun w hg => awake_c w)) ?_)
    rintro _ _ ⟨rfl, rfl⟩
    refine L_go rfl (X_p (p_pick_t rfl rfl rfl rfl) ?_)
    refine L_go rfl (X_p (p_assign rfl rfl) ?_)
    refine L_then (.cons (k := 6) rfl .nil) ?_
    refine V_ret ?_
    refine Leave.nil (.tmp rfl .nil) ?_
    rfl
theorem trackMore_c (t : Task) (tv pv : Value) (x0 x1 x2 : Int) (hx : 0 ≤ x2 ∧ x2 ≤ 255) (w : World) (ht : TaskR w (.agg #[.int .i64 t.frm, .int .i64 t.speed, .int .i64 t.accel, tv, pv]) t) : FnP Try.prog 4 [.agg #[.int .i64 t.frm, .int .i64 t.speed, .int .i64 t.accel, tv, pv], .agg #[.int .i64 x0, .int .i64 x1], .int .u8 x2] w (.bool true) := by
  by_cases h : (whereP t x0 x1).2 = 0
  · obtain ⟨ha, hb⟩ := whereP_2 h
    exact moreB t tv pv x0 x1 x2 hx w ht _ ha hb
  · exact moreA t tv pv x0 x1 x2 hx w ht h

theorem own_ : ownKnob Try.prog.godebug = none := by kernel_rfl

theorem trackMore_lifted (os : Os) (started : os.Started) (H : Type) (enc : TypeId × Value → H) :
    ReturnsInHanded {} Try.checked os 4 .any (Rows.trackMoreSpec.pre6 enc Try.prog Try.f4 Rows.trackMoreRow.domain false) (Rows.trackMoreSpec.post enc Try.prog Try.f4 false true false false) := by
  refine returnsInHanded_of_change (C := Try.checked) own_ started (by kernel_rfl) Try.func4
    (ChangeSpec.witness6 (enc := enc) (C := Try.checked) false ⟨#[], #[.agg #[.int .i64 0, .int .i64 0, .int .i64 0, .slice none 0 0, .slice none 0 0], .agg #[.int .i64 0, .int .i64 0], .int .u8 0], []⟩ 8 (by kernel_rfl) (by kernel_rfl) (by kernel_rfl) (by kernel_rfl)) ?_
  intro W base args ds gs before hval0 hW hcnd _
  have hval : ∀ (j : Nat) t v, Try.f4.params[j]? = some t → args[j]? = some v → Value.okWide Try.prog W .any base t v := hval0
  have hW' := hW
  obtain ⟨pA, pB, hA0, hV, rfl, _, _⟩ := hW
  have hA : DataW.TrodAll enc Try.prog W 0 (fun _ => true) true Try.f4.params.toList args.toList ds pA := hA0
  clear hA0 hval0
  rw [Try.params4] at hA hval
  obtain ⟨rfl, rfl⟩ := trodVars_none hV
  obtain ⟨v0, vs0, d0, ds0, p0, q0, ea0, rfl, rfl, h0, hA0⟩ := trodAll_cons hA
  obtain ⟨v1, vs1, d1, ds1, p1, q1, ea1, rfl, rfl, h1, hA1⟩ := trodAll_cons hA0
  obtain ⟨v2, vs2, d2, ds2, p2, q2, ea2, rfl, rfl, h2, hA2⟩ := trodAll_cons hA1
  obtain ⟨rfl, rfl, rfl⟩ := trodAll_nil hA2
  subst ea2
  subst ea1
  have ea : args = #[v0, v1, v2] := Array.toList_inj.1 ea0
  subst ea
  have k0 := hval 0 _ v0 rfl rfl
  have k1 := hval 1 _ v1 rfl rfl
  have k2 := hval 2 _ v2 rfl rfl
  obtain ⟨T, tv, pv, rfl, hT⟩ := open_task (P := Try.prog) (by kernel_rfl) k0 h0
  obtain ⟨x0, x1, rfl⟩ := open_ints2 (P := Try.prog) (by kernel_rfl) k1 h1
  obtain ⟨x2, rfl, _, _, w2⟩ := open_int (P := Try.prog) (k := .u8) (by kernel_rfl) k2 h2
  have hx := u8_wf w2
  refine (calls_of (trackMore_c T tv pv x0 x1 x2 hx W hT)).mono ?_
  rintro _ W' ⟨_, rfl, rfl, hE⟩
  exact ⟨_, rfl, post_true hW' rfl hE (by kernel_rfl) (by kernel_rfl) rfl rfl rfl (by kernel_rfl) Try.underlying4⟩

theorem trackMore_holds : Rows.TrackMoreSaid :=
  OpenClaim.holds_of_wide 4 Try.f4 rfl rfl rfl rfl rfl rfl rfl ⟨rfl, rfl, rfl, rfl, rfl⟩ rfl rfl rfl rfl rfl (by kernel_rfl) Try.func4 (by kernel_rfl)
    (of_decide_eq_true (by kernel_rfl)) (by unfold Func.isWrapper; first | (rw [if_pos (by decide +kernel)]; kernel_rfl) | (rw [if_neg (by decide +kernel)]; exact ⟨rfl, rfl⟩))
    (fun os started H enc _ => trackMore_lifted os started H enc)
#print axioms trackMore_holds

end Go.Proofs.Ytclbbchehjapjaa
