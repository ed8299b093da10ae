/- Ytclbbchehjapjaa: TrackLooser is proved: for any task, ticks and numbers (no condition) it returns true. -/
import Derived.Test.YtclbbchehjapjaaRows
import Derived.Test.YtclbbchehjapjaaS1
import Derived.Test.YtclbbchehjapjaaL
import Derived.Test.YtclbbchehjapjaaSc
import Derived.Test.YtclbbchehjapjaaS
import Derived.ProofKit
set_option linter.all false
namespace Go.Proofs.Ytclbbchehjapjaa
open Go.Vc Go.Tk Go.ChangeShapes Go.WideShapes Go.ChangeAt Go.RowKit
set_option maxRecDepth 100000
set_option maxHeartbeats 8000000 in
theorem trackLooser_c (t : Task) (tv pv : Value) (x0 x1 y0 y1 y2 y3 : Int) (hy0 : 0 ≤ y0 ∧ y0 ≤ 65535) (hy1 : 0 ≤ y1 ∧ y1 ≤ 65535) (hy2 : 0 ≤ y2 ∧ y2 ≤ 65535) (hy3 : 0 ≤ y3 ∧ y3 ≤ 65535) (w : World) (ht : TaskR w (.agg #[.int .i64 t.frm, .int .i64 t.speed, .int .i64 t.accel, tv, pv]) t) (hsz : ∀ a n c, tv = .slice a n c → n * 56 ≤ reachBytes) : FnP Try.prog 5 [.agg #[.int .i64 t.frm, .int .i64 t.speed, .int .i64 t.accel, tv, pv], .agg #[.int .i64 x0, .int .i64 x1], .agg #[.int .u16 y0, .int .u16 y1, .int .u16 y2, .int .u16 y3]] w (.bool true) := by
  have hT := ht
  obtain ⟨_, _, _, htr, hpl⟩ := ht.lit
  obtain ⟨ta, tc, rfl, htc, hte⟩ := htr.ex
  obtain ⟨pa, pc, rfl, hpc, hpe⟩ := hpl.ex
  have htl := ht.ltr
  simp only [List.length_map] at hT hpl hpc htr htc hsz ⊢
  refine fn_pure Try.func5 rfl (by kernel_rfl) Try.ntmps5 Try.results5 rfl ?_
  refine V_seq (V_region rfl ?_)
  refine L_go rfl (X_wr (w_box rfl rfl) ?_)
  rintro _ _ ⟨b1, hb1, rfl, rfl⟩
  refine L_go rfl (X_wr (w_box rfl rfl) ?_)
  rintro _ _ ⟨b2, hb2, rfl, rfl⟩
  refine L_go rfl (X_wr (w_box rfl rfl) ?_)
  rintro _ _ ⟨b3, hb3, rfl, rfl⟩
  refine L_go rfl (X_p (p_assign rfl rfl) ?_)
  refine L_then (.cons (k := 3) rfl (.cons (k := 4) rfl (.cons (k := 5) rfl .nil))) ?_
  refine V_seq (V_region rfl ?_)
  refine L_go rfl (X_rd (r_loadA (vs := [_, _, _, _, _]) ag25 sz25 rfl rfl (by repeat first | exact mH | apply mT | apply List.mem_append_right) rfl) ?_)
  refine L_go rfl (X_p (p_idxao ar31 rfl rfl rfl (by omega) (by omega)) ?_)
  refine L_go rfl (X_rd (r_load ag3 rfl rfl (by repeat first | exact mH | apply mT | apply List.mem_append_right) rfl) ?_)
  refine L_go rfl (X_p (p_idxao ar31 rfl rfl rfl (by omega) (by omega)) ?_)
  refine L_go rfl (X_rd (r_load ag3 rfl rfl (by repeat first | exact mH | apply mT | apply List.mem_append_right) rfl) ?_)
  refine L_go rfl (X_wr (w_callP rfl rfl rfl (fun w hg => (show FnP _ _ _ w (.tuple #[.agg (Box.cells (whereP t x0 x1).1).toArray, .int .i64 (whereP t x0 x1).2]) from by have h1 := where_c t _ _ x0 x1 w (hT.good hg); rw [whereT_eq] at h1; exact h1))) ?_)
  rintro _ _ ⟨rfl, rfl⟩
  refine L_go rfl (X_p (p_move rfl rfl) ?_)
  refine L_go rfl (X_p (p_ext rfl rfl rfl) ?_)
  refine L_go rfl (X_p (p_ext rfl rfl rfl) ?_)
  refine L_go rfl (X_wr (w_alloc zr35 rfl) ?_)
  rintro _ _ ⟨b4, hb4, rfl, rfl⟩
  refine L_go rfl (X_wr (w_store (cs' := [_, _, _, _, _, _, _, _, _, _, _, _, _]) sz35 rfl rfl rfl rfl rfl (by repeat first | exact .head | apply SetAt.tail) (Nat.le_of_ble_eq_true rfl) rfl) ?_)
  rintro _ _ ⟨rfl, rfl⟩
  refine L_go rfl (X_p (p_assign rfl rfl) ?_)
  refine L_then (.cons (k := 3) rfl (.cons (k := 4) rfl (.cons (k := 5) rfl (.cons (k := 7) rfl (.cons (k := 8) rfl .nil))))) ?_
  refine V_seq (V_region rfl ?_)
  refine L_go rfl (X_rd (r_loadA (vs := [_, _, _, _, _]) ag25 sz25 rfl rfl (by repeat first | exact mH | apply mT | apply List.mem_append_right) rfl) ?_)
  refine L_go rfl (X_p (p_idxao ar31 rfl rfl rfl (by omega) (by omega)) ?_)
  refine L_go rfl (X_rd (r_load ag3 rfl rfl (by repeat first | exact mH | apply mT | apply List.mem_append_right) rfl) ?_)
  refine L_go rfl (X_p (p_idxao ar31 rfl rfl rfl (by omega) (by omega)) ?_)
  refine L_go rfl (X_rd (r_load ag3 rfl rfl (by repeat first | exact mH | apply mT | apply List.mem_append_right) rfl) ?_)
  refine L_go rfl (X_wr (w_callP rfl rfl rfl (fun w hg => (show FnP _ _ _ w (.tuple #[.agg (Box.cells (spareP t x0 x1).1).toArray, .int .i64 (spareP t x0 x1).2]) from by have h1 := spareR_c t _ _ x0 x1 w (hT.good hg); rw [spareR_eq] at h1; exact h1))) ?_)
  rintro _ _ ⟨rfl, rfl⟩
  refine L_go rfl (X_p (p_move rfl rfl) ?_)
  refine L_go rfl (X_p (p_ext rfl rfl rfl) ?_)
  refine L_go rfl (X_p (p_ext rfl rfl rfl) ?_)
  refine L_go rfl (X_wr (w_alloc zr35 rfl) ?_)
  rintro _ _ ⟨b5, hb5, rfl, rfl⟩
  refine L_go rfl (X_wr (w_store (cs' := [_, _, _, _, _, _, _, _, _, _, _, _, _]) sz35 rfl rfl rfl rfl rfl (by repeat first | exact .head | apply SetAt.tail) (Nat.le_of_ble_eq_true rfl) rfl) ?_)
  rintro _ _ ⟨rfl, rfl⟩
  refine L_go rfl (X_p (p_assign rfl rfl) ?_)
  refine L_then (.cons (k := 3) rfl (.cons (k := 4) rfl (.cons (k := 5) rfl (.cons (k := 7) rfl (.cons (k := 8) rfl (.cons (k := 9) rfl (.cons (k := 10) rfl .nil))))))) ?_
  refine V_seq (V_region rfl ?_)
  refine L_go rfl (X_rd (r_loadA (vs := [_, _, _, _, _]) ag25 sz25 rfl rfl (by repeat first | exact mH | apply mT | apply List.mem_append_right) rfl) ?_)
  refine L_go rfl (X_wr (w_alloc zr25 rfl) ?_)
  rintro _ _ ⟨b6, hb6, rfl, rfl⟩
  refine L_go rfl (X_wr (w_store (cs' := [_, _, _, _, _]) sz25 rfl rfl rfl rfl rfl (by repeat first | exact .head | apply SetAt.tail) (Nat.le_of_ble_eq_true rfl) rfl) ?_)
  rintro _ _ ⟨rfl, rfl⟩
  refine L_then (.cons (k := 3) rfl (.cons (k := 4) rfl (.cons (k := 5) rfl (.cons (k := 7) rfl (.cons (k := 8) rfl (.cons (k := 9) rfl (.cons (k := 10) rfl (.cons (k := 11) rfl .nil)))))))) ?_
  refine V_seq (V_draw (.rd 0 (.rd 1 (.rd 2 (.rd 3 (.rd 4 (.rd 5 (.rd 6 (.rd 7 (.rd 8 (.rd 9 (.rd 10 (.rd 11 (.rd 12 (.rd 13 (.rd 14 (.wr 15 [13, 12, 11, 10, 9, 8, 7] (.rd 16 (.wr 17 [] .done)))))))))))))))))) mixed (by kernel_rfl) rfl ?_)
  refine D_p rfl (.plain rfl) (p_fieldo fo25_1 rfl rfl) ?_
  refine D_rd rfl (.plain rfl) (r_load ag3 rfl rfl (by repeat first | exact mH | apply mT | apply List.mem_append_right) rfl) ?_
  refine D_p rfl (.plain rfl) (p_fieldo fo42_2 rfl rfl) ?_
  refine D_rd rfl (.plain rfl) (r_load ag40 rfl rfl (by repeat first | exact mH | apply mT | apply List.mem_append_right) rfl) ?_
  refine D_p rfl (.plain rfl) (p_convI un40 un3 rfl rfl (by unfold InI; omega)) ?_
  refine D_p rfl (.plain rfl) (p_add rfl rfl rfl) ?_
  refine D_p rfl (.plain rfl) (p_min rfl rfl rfl) ?_
  refine D_p rfl (.plain rfl) (p_fieldo fo25_2 rfl rfl) ?_
  refine D_rd rfl (.plain rfl) (r_load ag3 rfl rfl (by repeat first | exact mH | apply mT | apply List.mem_append_right) rfl) ?_
  refine D_p rfl (.plain rfl) (p_fieldo fo42_3 rfl rfl) ?_
  refine D_rd rfl (.plain rfl) (r_load ag40 rfl rfl (by repeat first | exact mH | apply mT | apply List.mem_append_right) rfl) ?_
  refine D_p rfl (.plain rfl) (p_convI un40 un3 rfl rfl (by unfold InI; omega)) ?_
  refine D_p rfl (.plain rfl) (p_add rfl rfl rfl) ?_
  refine D_p rfl (.plain rfl) (p_min rfl rfl rfl) ?_
  refine D_p rfl (.plain rfl) (p_fieldo fo25_1 rfl rfl) ?_
  refine D_wr (.go (E' := [(10, _), (8, _)]) rfl (.plain rfl) (w_store (cs' := [_, _, _, _, _]) sz3 rfl rfl rfl rfl rfl (by repeat first | exact .head | apply SetAt.tail) (Nat.le_of_ble_eq_true rfl) rfl) rfl ?_)
  rintro _ _ ⟨rfl, rfl⟩
  refine ⟨(.cons rfl (.plain rfl) (r_load ag40 rfl rfl (by repeat first | exact mH | apply mT | apply List.mem_append_right) rfl) (.cons rfl (.plain rfl) (r_load ag3 rfl rfl (by repeat first | exact mH | apply mT | apply List.mem_append_right) rfl) .nil)), ?_⟩
  refine D_p rfl (.plain rfl) (p_fieldo fo25_2 rfl rfl) ?_
  refine D_wr (.go (E' := []) rfl (.plain rfl) (w_store (cs' := [_, _, _, _, _]) sz3 rfl rfl rfl rfl rfl (by repeat first | exact .head | apply SetAt.tail) (Nat.le_of_ble_eq_true rfl) rfl) rfl ?_)
  rintro _ _ ⟨rfl, rfl⟩
  refine ⟨.nil, ?_⟩
  refine D_then (.cons (k := 3) rfl (.cons (k := 4) rfl (.cons (k := 5) rfl (.cons (k := 7) rfl (.cons (k := 8) rfl (.cons (k := 9) rfl (.cons (k := 10) rfl (.cons (k := 11) rfl .nil)))))))) ?_
  refine V_seq (V_region rfl ?_)
  refine L_go rfl (X_wr (w_slice (r := []) un22 sz44 zr44 rfl (by decide) rfl (by decide) rfl rfl) ?_)
  rintro _ _ ⟨b7, hb7, rfl, rfl⟩
  refine L_go rfl (X_p (p_fieldo fo25_3 rfl rfl) ?_)
  refine L_go rfl (X_rd (r_load ag22 rfl rfl (by repeat first | exact mH | apply mT | apply List.mem_append_right) rfl) ?_)
  refine L_go rfl (X_wr (w_appT (pre := []) (G := [_]) ap22 rfl rfl rfl (Grow.row (cur := #[]) (by decide) (by decide) rfl rfl rfl) rfl (by rw [tr_flat_len]) (news_slice (els := t.trackers.map Tracker.cells) rfl htr tr_len (by decide)) tr_one (by have h9 := hsz _ _ _ rfl; unfold reachBytes at h9; omega) (by have h9 := hsz _ _ _ rfl; unfold reachBytes at h9; simp only [maxLen]; omega)) ?_)
  rintro _ _ ⟨GSa, GSc, GS, rfl, rfl, hgs⟩
  try simp only [List.cons_append, List.nil_append, List.append_nil]
  simp only [Nat.zero_add] at hgs ⊢
  refine L_go rfl (X_p (p_fieldo fo25_3 rfl rfl) ?_)
  refine L_go rfl (X_wr (w_store (cs' := [_, _, _, _, _]) sz22 rfl rfl rfl rfl rfl (by repeat first | exact .head | apply SetAt.tail) (Nat.le_of_ble_eq_true rfl) rfl) ?_)
  rintro _ _ ⟨rfl, rfl⟩
  refine L_then (.cons (k := 3) rfl (.cons (k := 4) rfl (.cons (k := 5) rfl (.cons (k := 7) rfl (.cons (k := 8) rfl (.cons (k := 9) rfl (.cons (k := 10) rfl (.cons (k := 11) rfl .nil)))))))) ?_
  refine V_seq ?_
  refine V_seq (V_region rfl ?_)
  refine L_go rfl (X_p (p_assign rfl rfl) ?_)
  refine L_then (.cons (k := 3) rfl (.cons (k := 4) rfl (.cons (k := 5) rfl (.cons (k := 7) rfl (.cons (k := 8) rfl (.cons (k := 9) rfl (.cons (k := 10) rfl (.cons (k := 11) rfl (.cons (k := 12) rfl .nil))))))))) ?_
  refine V_block ?_
  refine V_loop1 (γ := Int × Heap) (.cons (k := 3) rfl (.cons (k := 4) rfl (.cons (k := 5) rfl (.cons (k := 7) rfl (.cons (k := 8) rfl (.cons (k := 9) rfl (.cons (k := 10) rfl (.cons (k := 11) rfl .nil)))))))) (fun (k, GS) => [(12, .int .i64 k)]) (fun (k, GS) => (b6, .cells #[.int .i64 t.frm, .int .i64 (min 1000000 (addW t.speed y2)), .int .i64 (min 1000000 (addW t.accel y3)), .slice GSa t.trackers.length GSc, .slice pa t.plots.length pc] 25) :: (b5, .cells (Box.cells (spareP t x0 x1).1).toArray 35) :: (b4, .cells (Box.cells (whereP t x0 x1).1).toArray 35) :: (b3, .cells #[.int .u16 y0, .int .u16 y1, .int .u16 y2, .int .u16 y3] 42) :: (b2, .cells #[.int .i64 x0, .int .i64 x1] 31) :: (b1, t.obj (.slice ta t.trackers.length tc) (.slice pa t.plots.length pc) 25) :: GS) (fun (k, GS) => 0 ≤ k ∧ k ≤ t.trackers.length ∧ Grow 44 6 (.slice GSa t.trackers.length GSc) t.trackers.length ((looseL t.trackers y0 y1 k.toNat).map Tracker.cells).flatten GS) (fun (k, GS) => (t.trackers.length - k).toNat) ((0, GS)) (.cons rfl (.nil _)) (by repeat (first | exact List.nil_sublist _ | exact List.Sublist.refl _ | apply List.Sublist.cons_cons | apply List.Sublist.cons)) (⟨by omega, by omega, hgs⟩) ?_
  rintro ⟨k, GS⟩ hi
  clear hgs
  obtain ⟨hk0, hk1, hgs⟩ := hi
  refine V_seq ?_
  refine V_seq (V_region rfl ?_)
  refine L_go rfl (X_p (p_move rfl rfl) ?_)
  refine L_go rfl (X_p (p_fieldo fo25_3 rfl rfl) ?_)
  refine L_go rfl (X_rd (r_load ag22 rfl rfl (by repeat first | exact mH | apply mT | apply List.mem_append_right) rfl) ?_)
  refine L_go rfl (X_p (p_len isl22 rfl rfl) ?_)
  refine L_go rfl (X_p (p_lss rfl rfl rfl) ?_)
  refine L_then (.cons (k := 3) rfl (.cons (k := 4) rfl (.cons (k := 5) rfl (.cons (k := 7) rfl (.cons (k := 8) rfl (.cons (k := 9) rfl (.cons (k := 10) rfl (.cons (k := 11) rfl (.cons (k := 12) rfl (.cons (k := 61) rfl .nil)))))))))) ?_
  refine V_cond rfl ?_ ?_
  · intro c1; have c1r := c1; try simp only [td] at c1
    obtain ⟨gb, cur, rfl, rfl, hcur, hcs, hgn, hgm⟩ := Grow.form2 hgs (by omega)
    obtain ⟨tb, rfl, hct⟩ := hte k.toNat _ (getD_cells (d := trZ) (by omega))
    refine V_skip (then_n ?_)
    refine V_seq ?_
    refine V_block ?_
    refine V_seq (V_draw (.rd 0 (.rd 1 (.rd 2 (.rd 3 (.rd 4 (.rd 5 (.rd 6 (.rd 7 (.rd 8 (.rd 9 (.rd 10 (.rd 11 (.rd 12 (.rd 13 (.rd 14 (.rd 15 (.wr 16 [14] .done))))))))))))))))) mixed (by kernel_rfl) rfl ?_)
    refine D_p rfl (.plain rfl) (p_fieldo fo25_3 rfl rfl) ?_
    refine D_rd rfl (.plain rfl) (r_load ag22 rfl rfl (by repeat first | exact mH | apply mT | apply List.mem_append_right) rfl) ?_
    refine D_p rfl (.plain rfl) (p_move rfl rfl) ?_
    refine D_p rfl (.plain rfl) (p_fieldo fo25_3 rfl rfl) ?_
    refine D_rd rfl (.plain rfl) (r_load ag22 rfl rfl (by repeat first | exact mH | apply mT | apply List.mem_append_right) rfl) ?_
    refine D_p rfl (.plain rfl) (p_move rfl rfl) ?_
    refine D_p rfl (.plain rfl) (p_idx es22 rfl rfl rfl (by omega) (by omega)) ?_
    refine D_p rfl (.plain rfl) (p_field fo44_3 rfl rfl) ?_
    refine D_rd rfl (.plain rfl) (r_loadB ag3 rfl rfl (hct 3 _ rfl) List.not_mem_nil) ?_
    refine D_p rfl (.plain rfl) (p_fieldo fo42_0 rfl rfl) ?_
    refine D_rd rfl (.plain rfl) (r_load ag40 rfl rfl (by repeat first | exact mH | apply mT | apply List.mem_append_right) rfl) ?_
    refine D_p rfl (.plain rfl) (p_convI un40 un3 rfl rfl (by unfold InI; omega)) ?_
    refine D_p rfl (.plain rfl) (p_add rfl rfl rfl) ?_
    refine D_p rfl (.plain rfl) (p_min rfl rfl rfl) ?_
    refine D_p rfl (.plain rfl) (p_idxo es22 rfl rfl rfl (by omega) (by omega)) ?_
    refine D_p rfl (.plain rfl) (p_fieldo fo44_3 rfl rfl) ?_
    refine D_wr (.go (E' := []) rfl (.plain rfl) (w_store (cs' := (cur.toList).set (0 + k.toNat * 6 + 3) (.int .i64 (min 10000000 (addW (t.trackers.getD k.toNat trZ).error y0)))) sz3 rfl rfl rfl rfl rfl (by repeat first | exact .head | apply SetAt.tail) (by simp only [List.length_set, Array.length_toList, List.size_toArray, hcs]; omega) rfl) rfl ?_)
    rintro _ _ ⟨rfl, rfl⟩
    refine ⟨.nil, ?_⟩
    refine D_then (.cons (k := 3) rfl (.cons (k := 4) rfl (.cons (k := 5) rfl (.cons (k := 7) rfl (.cons (k := 8) rfl (.cons (k := 9) rfl (.cons (k := 10) rfl (.cons (k := 11) rfl (.cons (k := 12) rfl .nil))))))))) ?_
    refine V_draw (.rd 0 (.rd 1 (.rd 2 (.rd 3 (.rd 4 (.rd 5 (.rd 6 (.rd 7 (.rd 8 (.rd 9 (.rd 10 (.rd 11 (.rd 12 (.rd 13 (.rd 14 (.rd 15 (.wr 16 [14] .done))))))))))))))))) mixed (by kernel_rfl) rfl ?_
    refine D_p rfl (.plain rfl) (p_fieldo fo25_3 rfl rfl) ?_
    refine D_rd rfl (.plain rfl) (r_load ag22 rfl rfl (by repeat first | exact mH | apply mT | apply List.mem_append_right) rfl) ?_
    refine D_p rfl (.plain rfl) (p_move rfl rfl) ?_
    refine D_p rfl (.plain rfl) (p_fieldo fo25_3 rfl rfl) ?_
    refine D_rd rfl (.plain rfl) (r_load ag22 rfl rfl (by repeat first | exact mH | apply mT | apply List.mem_append_right) rfl) ?_
    refine D_p rfl (.plain rfl) (p_move rfl rfl) ?_
    refine D_p rfl (.plain rfl) (p_idx es22 rfl rfl rfl (by omega) (by omega)) ?_
    refine D_p rfl (.plain rfl) (p_field fo44_4 rfl rfl) ?_
    refine D_rd rfl (.plain rfl) (r_loadB ag3 rfl rfl (hct 4 _ rfl) List.not_mem_nil) ?_
    refine D_p rfl (.plain rfl) (p_fieldo fo42_1 rfl rfl) ?_
    refine D_rd rfl (.plain rfl) (r_load ag40 rfl rfl (by repeat first | exact mH | apply mT | apply List.mem_append_right) rfl) ?_
    refine D_p rfl (.plain rfl) (p_convI un40 un3 rfl rfl (by unfold InI; omega)) ?_
    refine D_p rfl (.plain rfl) (p_add rfl rfl rfl) ?_
    refine D_p rfl (.plain rfl) (p_min rfl rfl rfl) ?_
    refine D_p rfl (.plain rfl) (p_idxo es22 rfl rfl rfl (by omega) (by omega)) ?_
    refine D_p rfl (.plain rfl) (p_fieldo fo44_4 rfl rfl) ?_
    refine D_wr (.go (E' := []) rfl (.plain rfl) (w_store (cs' := (cur.toList.set (0 + k.toNat * 6 + 3) (.int .i64 (min 10000000 (addW (t.trackers.getD k.toNat trZ).error y0)))).set (0 + k.toNat * 6 + 4) (.int .i64 (min 10000 (addW (t.trackers.getD k.toNat trZ).grow y1)))) sz3 rfl rfl rfl rfl rfl (by repeat first | exact .head | apply SetAt.tail) (by simp only [List.length_set, Array.length_toList, List.size_toArray, hcs]; omega) rfl) rfl ?_)
    rintro _ _ ⟨rfl, rfl⟩
    refine ⟨.nil, ?_⟩
    refine D_keep (.cons (k := 3) rfl (.cons (k := 4) rfl (.cons (k := 5) rfl (.cons (k := 7) rfl (.cons (k := 8) rfl (.cons (k := 9) rfl (.cons (k := 10) rfl (.cons (k := 11) rfl (.cons (k := 12) rfl .nil))))))))) (blk_n (then_n ?_))
    refine V_region rfl ?_
    refine L_go rfl (X_p (p_move rfl rfl) ?_)
    first | refine L_go rfl (X_p (p_add' rfl rfl rfl (by unfold InI; omega)) ?_) | refine L_go rfl (X_p (p_add rfl rfl rfl) ?_)
    refine L_go rfl (X_p (p_assign rfl rfl) ?_)
    refine L_keep (.cons (k := 3) rfl (.cons (k := 4) rfl (.cons (k := 5) rfl (.cons (k := 7) rfl (.cons (k := 8) rfl (.cons (k := 9) rfl (.cons (k := 10) rfl (.cons (k := 11) rfl (.cons (k := 12) rfl .nil))))))))) (then_n ?_)
    refine ⟨(k + 1, [(gb, _)]), ?_, ?_, (.cons rfl (.cons rfl (.cons rfl (.cons rfl (.cons rfl (.cons rfl (.cons rfl (.cons rfl (.cons rfl (.nil _)))))))))), (by repeat (first | exact List.nil_sublist _ | exact List.Sublist.refl _ | apply List.Sublist.cons_cons | apply List.Sublist.cons | apply List.sublist_append_of_sublist_right)), rfl⟩
    · have e : (k + 1).toNat = k.toNat + 1 := by omega
      refine ⟨by omega, by omega, ?_⟩
      rw [e]
      exact Grow.loose hgn hgm hcs hcur rfl (by omega)
    · dsimp only; omega
  · intro c1; have c1r := c1; try simp only [td] at c1
    have ek : k.toNat = t.trackers.length := by omega
    rw [ek, looseL_end] at hgs
    refine V_exit (then_e (then_e (blk_e rfl (then_n ?_))))
    refine V_seq (V_region rfl ?_)
    refine L_go rfl (X_rd (r_loadA (vs := [_, _, _, _, _]) ag25 sz25 rfl rfl (by repeat first | exact mH | apply mT | apply List.mem_append_right) rfl) ?_)
    refine L_go rfl (X_p (p_idxao ar31 rfl rfl rfl (by omega) (by omega)) ?_)
    refine L_go rfl (X_rd (r_load ag3 rfl rfl (by repeat first | exact mH | apply mT | apply List.mem_append_right) rfl) ?_)
    refine L_go rfl (X_p (p_idxao ar31 rfl rfl rfl (by omega) (by omega)) ?_)
    refine L_go rfl (X_rd (r_load ag3 rfl rfl (by repeat first | exact mH | apply mT | apply List.mem_append_right) rfl) ?_)
    refine L_go rfl (X_wr (w_callP rfl rfl rfl (fun w hg => (show FnP _ _ _ w (.tuple #[.agg (Box.cells (whereP (looseT t y0 y1 y2 y3) x0 x1).1).toArray, .int .i64 (whereP (looseT t y0 y1 y2 y3) x0 x1).2]) from by have h1 := where_c (looseT t y0 y1 y2 y3) _ _ x0 x1 w (TaskR.loose (c := y2) (d := y3) (hT.good hg) (Grow.rows (els := (t.trackers.map fun x => looseTr x y0 y1).map Tracker.cells) hgs tr_len (by rw [List.length_map, List.length_map]) (fun p hp => hg.own p (by repeat first | exact hp | exact List.mem_append_left _ hp | apply List.mem_append_right | apply mT)))); rw [whereT_eq] at h1; exact h1))) ?_)
    rintro _ _ ⟨rfl, rfl⟩
    refine L_go rfl (X_p (p_move rfl rfl) ?_)
    refine L_go rfl (X_p (p_ext rfl rfl rfl) ?_)
    refine L_go rfl (X_p (p_ext rfl rfl rfl) ?_)
    refine L_go rfl (X_wr (w_alloc zr35 rfl) ?_)
    rintro _ _ ⟨b8, hb8, rfl, rfl⟩
    refine L_go rfl (X_wr (w_store (cs' := [_, _, _, _, _, _, _, _, _, _, _, _, _]) sz35 rfl rfl rfl rfl rfl (by repeat first | exact .head | apply SetAt.tail) (Nat.le_of_ble_eq_true rfl) rfl) ?_)
    rintro _ _ ⟨rfl, rfl⟩
    refine L_go rfl (X_p (p_assign rfl rfl) ?_)
    refine L_then (.cons (k := 4) rfl (.cons (k := 7) rfl (.cons (k := 8) rfl (.cons (k := 9) rfl (.cons (k := 10) rfl (.cons (k := 11) rfl (.cons (k := 13) rfl (.cons (k := 14) rfl .nil)))))))) ?_
    refine V_seq (V_region rfl ?_)
    refine L_go rfl (X_rd (r_loadA (vs := [_, _, _, _, _]) ag25 sz25 rfl rfl (by repeat first | exact mH | apply mT | apply List.mem_append_right) rfl) ?_)
    refine L_go rfl (X_p (p_idxao ar31 rfl rfl rfl (by omega) (by omega)) ?_)
    refine L_go rfl (X_rd (r_load ag3 rfl rfl (by repeat first | exact mH | apply mT | apply List.mem_append_right) rfl) ?_)
    refine L_go rfl (X_p (p_idxao ar31 rfl rfl rfl (by omega) (by omega)) ?_)
    refine L_go rfl (X_rd (r_load ag3 rfl rfl (by repeat first | exact mH | apply mT | apply List.mem_append_right) rfl) ?_)
    refine L_go rfl (X_wr (w_callP rfl rfl rfl (fun w hg => (show FnP _ _ _ w (.tuple #[.agg (Box.cells (spareP (looseT t y0 y1 y2 y3) x0 x1).1).toArray, .int .i64 (spareP (looseT t y0 y1 y2 y3) x0 x1).2]) from by have h1 := spareR_c (looseT t y0 y1 y2 y3) _ _ x0 x1 w (TaskR.loose (c := y2) (d := y3) (hT.good hg) (Grow.rows (els := (t.trackers.map fun x => looseTr x y0 y1).map Tracker.cells) hgs tr_len (by rw [List.length_map, List.length_map]) (fun p hp => hg.own p (by repeat first | exact hp | exact List.mem_append_left _ hp | apply List.mem_append_right | apply mT)))); rw [spareR_eq] at h1; exact h1))) ?_)
    rintro _ _ ⟨rfl, rfl⟩
    refine L_go rfl (X_p (p_move rfl rfl) ?_)
    refine L_go rfl (X_p (p_ext rfl rfl rfl) ?_)
    refine L_go rfl (X_p (p_ext rfl rfl rfl) ?_)
    refine L_go rfl (X_wr (w_alloc zr35 rfl) ?_)
    rintro _ _ ⟨b9, hb9, rfl, rfl⟩
    refine L_go rfl (X_wr (w_store (cs' := [_, _, _, _, _, _, _, _, _, _, _, _, _]) sz35 rfl rfl rfl rfl rfl (by repeat first | exact .head | apply SetAt.tail) (Nat.le_of_ble_eq_true rfl) rfl) ?_)
    rintro _ _ ⟨rfl, rfl⟩
    refine L_go rfl (X_p (p_assign rfl rfl) ?_)
    refine L_then (.cons (k := 7) rfl (.cons (k := 8) rfl (.cons (k := 9) rfl (.cons (k := 10) rfl (.cons (k := 13) rfl (.cons (k := 14) rfl (.cons (k := 15) rfl (.cons (k := 16) rfl .nil)))))))) ?_
    refine V_seq ?_
    refine V_seq (V_region rfl ?_)
    refine L_go rfl (X_p (p_move rfl rfl) ?_)
    refine L_go rfl (X_p (p_eql rfl rfl rfl) ?_)
    refine L_go rfl (X_p (p_move rfl rfl) ?_)
    refine L_cases (d := 116) rfl ?_ ?_
    · intro g1; have g1' := g1; try simp only [td] at g1'
      refine L_yes rfl rfl rfl g1 (X_p (p_move rfl rfl) ?_)
      refine L_yes rfl rfl rfl g1 (X_p (p_neq rfl rfl rfl) ?_)
      refine L_yes rfl rfl rfl g1 (X_p (p_move rfl rfl) ?_)
      refine L_yes rfl rfl rfl (by rw [(loose_where hy0 hy1 hy2 hy3 g1').1]; rfl) (X_rd (r_loadA (vs := [_, _, _, _, _, _, _, _, _, _, _, _, _]) ag35 sz35 rfl rfl (by repeat first | exact mH | apply mT | apply List.mem_append_right) rfl) ?_)
      refine L_yes rfl rfl rfl (by rw [(loose_where hy0 hy1 hy2 hy3 g1').1]; rfl) (X_rd (r_loadA (vs := [_, _, _, _, _, _, _, _, _, _, _, _, _]) ag35 sz35 rfl rfl (by repeat first | exact mH | apply mT | apply List.mem_append_right) rfl) ?_)
      refine L_yes rfl rfl rfl (by rw [(loose_where hy0 hy1 hy2 hy3 g1').1]; rfl) (X_wr (w_callP rfl rfl rfl (fun w hg => lwithin_c _ _ (loose_where hy0 hy1 hy2 hy3 g1').2 w)) ?_)
      rintro _ _ ⟨rfl, rfl⟩
      refine L_yes rfl rfl rfl (by rw [(loose_where hy0 hy1 hy2 hy3 g1').1]; rfl) (X_p (p_not rfl rfl) ?_)
      refine L_yes rfl rfl rfl g1 (X_p (p_pick_f rfl rfl (by rw [(loose_where hy0 hy1 hy2 hy3 g1').1]; rfl) rfl) ?_)
      refine L_go rfl (X_p (p_pick_t rfl rfl g1 rfl) ?_)
      refine L_then (.cons (k := 9) rfl (.cons (k := 10) rfl (.cons (k := 15) rfl (.cons (k := 16) rfl (.cons (k := 125) rfl .nil))))) ?_
      refine V_cond_f rfl rfl ?_
      refine V_skip (then_n ?_)
      refine V_seq (V_region rfl ?_)
      refine L_go rfl (X_p (p_move rfl rfl) ?_)
      refine L_go rfl (X_p (p_neq rfl rfl rfl) ?_)
      refine L_go rfl (X_p (p_move rfl rfl) ?_)
      refine L_cases (d := 128) rfl ?_ ?_
      · intro g2; have g2' := g2; try simp only [td] at g2'
        refine L_no rfl rfl rfl g2 ?_
        refine L_no rfl rfl rfl g2 ?_
        refine L_no rfl rfl rfl g2 ?_
        refine L_nou rfl rfl rfl ?_
        refine L_nou rfl rfl rfl ?_
        refine L_nou rfl rfl rfl ?_
        refine L_no rfl rfl rfl g2 ?_
        refine L_go rfl (X_p (p_pick_t rfl rfl g2 rfl) ?_)
        refine L_go rfl (X_p (p_move rfl rfl) ?_)
        refine L_yes rfl rfl rfl rfl (X_wr (w_callP rfl rfl rfl (fun w hg => awake_c w)) ?_)
        rintro _ _ ⟨rfl, rfl⟩
        refine L_go rfl (X_p (p_pick_t rfl rfl rfl rfl) ?_)
        refine L_go rfl (X_p (p_assign rfl rfl) ?_)
        refine L_then (.cons (k := 6) rfl .nil) ?_
        refine V_ret ?_
        refine Leave.nil (.tmp rfl .nil) ?_
        rfl
      · intro g2; have g2' := g2; try simp only [td] at g2'
        refine L_yes rfl rfl rfl g2 (X_p (p_move rfl rfl) ?_)
        refine L_yes rfl rfl rfl g2 (X_p (p_eql rfl rfl rfl) ?_)
        refine L_yes rfl rfl rfl g2 (X_p (p_move rfl rfl) ?_)
        refine L_yes rfl rfl rfl (by rw [(loose_spare hy0 hy1 hy2 hy3 g2').1]; rfl) (X_rd (r_loadA (vs := [_, _, _, _, _, _, _, _, _, _, _, _, _]) ag35 sz35 rfl rfl (by repeat first | exact mH | apply mT | apply List.mem_append_right) rfl) ?_)
        refine L_yes rfl rfl rfl (by rw [(loose_spare hy0 hy1 hy2 hy3 g2').1]; rfl) (X_rd (r_loadA (vs := [_, _, _, _, _, _, _, _, _, _, _, _, _]) ag35 sz35 rfl rfl (by repeat first | exact mH | apply mT | apply List.mem_append_right) rfl) ?_)
        refine L_yes rfl rfl rfl (by rw [(loose_spare hy0 hy1 hy2 hy3 g2').1]; rfl) (X_wr (w_callP rfl rfl rfl (fun w hg => lwithin_c _ _ (loose_spare hy0 hy1 hy2 hy3 g2').2 w)) ?_)
        rintro _ _ ⟨rfl, rfl⟩
        refine L_yes rfl rfl rfl g2 (X_p (p_pick_t rfl rfl (by rw [(loose_spare hy0 hy1 hy2 hy3 g2').1]; rfl) rfl) ?_)
        refine L_go rfl (X_p (p_pick_f rfl rfl g2 rfl) ?_)
        refine L_go rfl (X_p (p_move rfl rfl) ?_)
        refine L_yes rfl rfl rfl rfl (X_wr (w_callP rfl rfl rfl (fun w hg => awake_c w)) ?_)
        rintro _ _ ⟨rfl, rfl⟩
        refine L_go rfl (X_p (p_pick_t rfl rfl rfl rfl) ?_)
        refine L_go rfl (X_p (p_assign rfl rfl) ?_)
        refine L_then (.cons (k := 6) rfl .nil) ?_
        refine V_ret ?_
        refine Leave.nil (.tmp rfl .nil) ?_
        rfl
    · intro g1; have g1' := g1; try simp only [td] at g1'
      refine L_no rfl rfl rfl g1 ?_
      refine L_no rfl rfl rfl g1 ?_
      refine L_no rfl rfl rfl g1 ?_
      refine L_nou rfl rfl rfl ?_
      refine L_nou rfl rfl rfl ?_
      refine L_nou rfl rfl rfl ?_
      refine L_nou rfl rfl rfl ?_
      refine L_no rfl rfl rfl g1 ?_
      refine L_go rfl (X_p (p_pick_f rfl rfl g1 rfl) ?_)
      refine L_then (.cons (k := 9) rfl (.cons (k := 10) rfl (.cons (k := 15) rfl (.cons (k := 16) rfl (.cons (k := 125) rfl .nil))))) ?_
      refine V_cond_f rfl rfl ?_
      refine V_skip (then_n ?_)
      refine V_seq (V_region rfl ?_)
      refine L_go rfl (X_p (p_move rfl rfl) ?_)
      refine L_go rfl (X_p (p_neq rfl rfl rfl) ?_)
      refine L_go rfl (X_p (p_move rfl rfl) ?_)
      refine L_cases (d := 128) rfl ?_ ?_
      · intro g3; have g3' := g3; try simp only [td] at g3'
        refine L_no rfl rfl rfl g3 ?_
        refine L_no rfl rfl rfl g3 ?_
        refine L_no rfl rfl rfl g3 ?_
        refine L_nou rfl rfl rfl ?_
        refine L_nou rfl rfl rfl ?_
        refine L_nou rfl rfl rfl ?_
        refine L_no rfl rfl rfl g3 ?_
        refine L_go rfl (X_p (p_pick_t rfl rfl g3 rfl) ?_)
        refine L_go rfl (X_p (p_move rfl rfl) ?_)
        refine L_yes rfl rfl rfl rfl (X_wr (w_callP rfl rfl rfl (fun w hg => awake_c w)) ?_)
        rintro _ _ ⟨rfl, rfl⟩
        refine L_go rfl (X_p (p_pick_t rfl rfl rfl rfl) ?_)
        refine L_go rfl (X_p (p_assign rfl rfl) ?_)
        refine L_then (.cons (k := 6) rfl .nil) ?_
        refine V_ret ?_
        refine Leave.nil (.tmp rfl .nil) ?_
        rfl
      · intro g3; have g3' := g3; try simp only [td] at g3'
        refine L_yes rfl rfl rfl g3 (X_p (p_move rfl rfl) ?_)
        refine L_yes rfl rfl rfl g3 (X_p (p_eql rfl rfl rfl) ?_)
        refine L_yes rfl rfl rfl g3 (X_p (p_move rfl rfl) ?_)
        refine L_yes rfl rfl rfl (by rw [(loose_spare hy0 hy1 hy2 hy3 g3').1]; rfl) (X_rd (r_loadA (vs := [_, _, _, _, _, _, _, _, _, _, _, _, _]) ag35 sz35 rfl rfl (by repeat first | exact mH | apply mT | apply List.mem_append_right) rfl) ?_)
        refine L_yes rfl rfl rfl (by rw [(loose_spare hy0 hy1 hy2 hy3 g3').1]; rfl) (X_rd (r_loadA (vs := [_, _, _, _, _, _, _, _, _, _, _, _, _]) ag35 sz35 rfl rfl (by repeat first | exact mH | apply mT | apply List.mem_append_right) rfl) ?_)
        refine L_yes rfl rfl rfl (by rw [(loose_spare hy0 hy1 hy2 hy3 g3').1]; rfl) (X_wr (w_callP rfl rfl rfl (fun w hg => lwithin_c _ _ (loose_spare hy0 hy1 hy2 hy3 g3').2 w)) ?_)
        rintro _ _ ⟨rfl, rfl⟩
        refine L_yes rfl rfl rfl g3 (X_p (p_pick_t rfl rfl (by rw [(loose_spare hy0 hy1 hy2 hy3 g3').1]; rfl) rfl) ?_)
        refine L_go rfl (X_p (p_pick_f rfl rfl g3 rfl) ?_)
        refine L_go rfl (X_p (p_move rfl rfl) ?_)
        refine L_yes rfl rfl rfl rfl (X_wr (w_callP rfl rfl rfl (fun w hg => awake_c w)) ?_)
        rintro _ _ ⟨rfl, rfl⟩
        refine L_go rfl (X_p (p_pick_t rfl rfl rfl rfl) ?_)
        refine L_go rfl (X_p (p_assign rfl rfl) ?_)
        refine L_then (.cons (k := 6) rfl .nil) ?_
        refine V_ret ?_
        refine Leave.nil (.tmp rfl .nil) ?_
        rfl

theorem own_ : ownKnob Try.prog.godebug = none := by kernel_rfl

theorem trackLooser_lifted (os : Os) (started : os.Started) (H : Type) (enc : TypeId × Value → H) :
    ReturnsInHanded {} Try.checked os 5 .any (Rows.trackLooserSpec.pre6 enc Try.prog Try.f5 Rows.trackLooserRow.domain false) (Rows.trackLooserSpec.post enc Try.prog Try.f5 false true false false) := by
  refine returnsInHanded_of_change_sized (C := Try.checked) own_ started (by kernel_rfl) Try.func5
    (ChangeSpec.witness6 (enc := enc) (C := Try.checked) false ⟨#[], #[.agg #[.int .i64 0, .int .i64 0, .int .i64 0, .slice none 0 0, .slice none 0 0], .agg #[.int .i64 0, .int .i64 0], .agg #[.int .u16 0, .int .u16 0, .int .u16 0, .int .u16 0]], []⟩ 8 (by kernel_rfl) (by kernel_rfl) (by kernel_rfl) (by kernel_rfl)) ?_
  intro W base args ds gs before hval0 hW hcnd hsz _
  have hval : ∀ (j : Nat) t v, Try.f5.params[j]? = some t → args[j]? = some v → Value.okWide Try.prog W .any base t v := hval0
  have hW' := hW
  obtain ⟨pA, pB, hA0, hV, rfl, _, _⟩ := hW
  have hA : DataW.TrodAll enc Try.prog W 0 (fun _ => true) true Try.f5.params.toList args.toList ds pA := hA0
  clear hA0 hval0
  rw [Try.params5] at hA hval
  obtain ⟨rfl, rfl⟩ := trodVars_none hV
  obtain ⟨v0, vs0, d0, ds0, p0, q0, ea0, rfl, rfl, h0, hA0⟩ := trodAll_cons hA
  obtain ⟨v1, vs1, d1, ds1, p1, q1, ea1, rfl, rfl, h1, hA1⟩ := trodAll_cons hA0
  obtain ⟨v2, vs2, d2, ds2, p2, q2, ea2, rfl, rfl, h2, hA2⟩ := trodAll_cons hA1
  obtain ⟨rfl, rfl, rfl⟩ := trodAll_nil hA2
  subst ea2
  subst ea1
  have ea : args = #[v0, v1, v2] := Array.toList_inj.1 ea0
  subst ea
  have k0 := hval 0 _ v0 rfl rfl
  have k1 := hval 1 _ v1 rfl rfl
  have k2 := hval 2 _ v2 rfl rfl
  obtain ⟨T, tv, pv, rfl, hT⟩ := open_task (P := Try.prog) (by kernel_rfl) k0 h0
  obtain ⟨x0, x1, rfl⟩ := open_ints2 (P := Try.prog) (by kernel_rfl) k1 h1
  obtain ⟨y0, y1, y2, y3, rfl, hy0, hy1, hy2, hy3⟩ := open_4u16 (P := Try.prog) (by kernel_rfl) k2 h2
  refine (calls_of (trackLooser_c T tv pv x0 x1 y0 y1 y2 y3 hy0 hy1 hy2 hy3 W hT (fun a n c e => field_sized (i := 3) (off := 3) (b := 56) (by kernel_rfl) h0 (arg_sized (j := 0) hsz rfl rfl) (by rw [e]; rfl)))).mono ?_
  rintro _ W' ⟨_, rfl, rfl, hE⟩
  exact ⟨_, rfl, post_true hW' rfl hE (by kernel_rfl) (by kernel_rfl) rfl rfl rfl (by kernel_rfl) Try.underlying4⟩

theorem trackLooser_holds : Rows.TrackLooserSaid :=
  OpenClaim.holds_of_wide 5 Try.f5 rfl rfl rfl rfl rfl rfl rfl ⟨rfl, rfl, rfl, rfl, rfl⟩ rfl rfl rfl rfl rfl (by kernel_rfl) Try.func5 (by kernel_rfl)
    (of_decide_eq_true (by kernel_rfl)) (by unfold Func.isWrapper; first | (rw [if_pos (by decide +kernel)]; kernel_rfl) | (rw [if_neg (by decide +kernel)]; exact ⟨rfl, rfl⟩))
    (fun os started H enc _ => trackLooser_lifted os started H enc)
#print axioms trackLooser_holds

end Go.Proofs.Ytclbbchehjapjaa
