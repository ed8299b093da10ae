/- Ytclbbchehjapjab: spare boxes. -/
import Derived.Test.YtclbbchehjapjabT8
import Derived.Test.YtclbbchehjapjabT9
import Derived.Test.YtclbbchehjapjabQ
set_option linter.all false
namespace Go.Proofs.Ytclbbchehjapjab
open Go.Vc Go.Tk
set_option maxRecDepth 100000
theorem all_c (x : Int) (w : World) : FnP Try.prog 34 [.int .i64 x] w (.bool true) := by
  refine fn_pure Try.func34 rfl (by kernel_rfl) Try.ntmps34 Try.results34 rfl ?_
  refine V_seq (V_region rfl ?_)
  refine L_go rfl (X_p (p_assign rfl rfl) ?_)
  refine L_then .nil ?_
  refine V_seq (V_region rfl ?_)
  refine L_go rfl (X_p (p_assign rfl rfl) ?_)
  refine L_then (.cons (k := 2) rfl .nil) ?_
  refine V_ret ?_
  refine Leave.nil (.tmp rfl .nil) ?_
  rfl
set_option maxHeartbeats 4000000 in
theorem spare_c (t : Task) (hG : GoodT t) (tv pv : Value) (u now : Int) (hu : 0 ≤ u ∧ u ≤ 100000) (w : World) (ht : TaskR w (.agg #[.int .i64 t.frm, .int .i64 t.speed, .int .i64 t.accel, tv, pv]) t) : FnP Try.prog 38 [.agg #[.int .i64 t.frm, .int .i64 t.speed, .int .i64 t.accel, tv, pv], .int .i64 u, .int .i64 now] w (boxV (spareT t u now)) := by
  have hT := ht
  obtain ⟨_, _, _, htr, hpl⟩ := ht.lit
  obtain ⟨ta, tc, rfl, htc, hte⟩ := htr.ex
  have htl := hG.h1
  simp only [List.length_map] at hT htc htr ⊢
  refine fn_pure Try.func38 rfl (by kernel_rfl) Try.ntmps38 Try.results38 rfl ?_
  refine V_seq (V_region rfl ?_)
  refine L_go rfl (X_wr (w_box rfl rfl) ?_)
  rintro _ _ ⟨b1, hb1, rfl, rfl⟩
  refine L_go rfl (X_wr (w_alloc zr34 rfl) ?_)
  rintro _ _ ⟨b2, hb2, rfl, rfl⟩
  refine L_go rfl (X_wr (w_alloc zr4 rfl) ?_)
  rintro _ _ ⟨b3, hb3, rfl, rfl⟩
  refine L_then (.cons (k := 1) rfl (.cons (k := 2) rfl (.cons (k := 3) rfl (.cons (k := 6) rfl (.cons (k := 7) rfl .nil))))) ?_
  refine V_seq ?_
  refine V_seq (V_region rfl ?_)
  refine L_go rfl (X_p (p_fieldo fo25_3 rfl rfl) ?_)
  refine L_go rfl (X_rd (r_load ag22 rfl rfl (by repeat first | exact mH | apply mT) rfl) ?_)
  refine L_go rfl (X_p (p_len isl22 rfl rfl) ?_)
  refine L_go rfl (X_p (p_eql rfl rfl rfl) ?_)
  refine L_then (.cons (k := 1) rfl (.cons (k := 2) rfl (.cons (k := 3) rfl (.cons (k := 6) rfl (.cons (k := 7) rfl (.cons (k := 16) rfl .nil)))))) ?_
  refine V_cond rfl ?_ ?_
  · intro c1; try simp only [td] at c1
    refine V_seq (V_region rfl ?_)
    refine L_go rfl (X_rd (r_loadA (vs := [_, _, _, _, _]) ag25 sz25 rfl rfl (by repeat first | exact mH | apply mT) rfl) ?_)
    refine L_go rfl (X_p (p_move rfl rfl) ?_)
    refine L_go rfl (X_wr (w_callG (pre := [_, _, _]) (post := []) rfl rfl rfl (by rw [List.append_nil]) (fun w hg => pickOf_c t hG _ _ now (fun _ => true) _ _ w (hT.good hg) (fun x w' he => all_c x w'))) ?_)
    rintro _ _ ⟨_, G, rfl, hfr, bp, bm, sv, clk, rfl, rfl, hgr⟩
    try simp only [List.cons_append, List.nil_append, List.append_nil]
    refine L_go rfl (X_p (p_move rfl rfl) ?_)
    refine L_go rfl (X_wr (w_callM rfl rfl rfl (fun o' => (by repeat first | exact .head | apply SetAt.tail)) (fun w hg => box_c bp bm #[] clk t _ u hu w (PickR.own hg hG hT (hfr _ (.tail _ (.head _))) (by repeat first | exact mH | apply mT) (by repeat first | exact mH | apply mT) (fun p hp => by repeat first | exact hp | exact List.mem_append_left _ hp | apply List.mem_append_right | apply mT) hgr) (Cache.nil _ _) (hg.own (bm, _) (by repeat first | exact mH | apply mT)))) ?_)
    rintro _ _ ⟨_, rfl, rfl, es2, clk2, rfl, _⟩
    refine L_go rfl (X_p (p_ext rfl rfl rfl) ?_)
    refine L_go rfl (X_p (p_ext rfl rfl rfl) ?_)
    refine L_go rfl (X_wr (w_store (cs' := [_, _, _, _, _, _, _, _, _, _, _, _, _]) sz34 rfl rfl rfl rfl rfl (by repeat first | exact .head | apply SetAt.tail) (Nat.le_of_ble_eq_true rfl) rfl) ?_)
    rintro _ _ ⟨rfl, rfl⟩
    refine L_go rfl (X_wr (w_store (cs' := [_]) sz4 rfl rfl rfl rfl rfl (by repeat first | exact .head | apply SetAt.tail) (Nat.le_of_ble_eq_true rfl) rfl) ?_)
    rintro _ _ ⟨rfl, rfl⟩
    refine L_then (.cons (k := 6) rfl (.cons (k := 7) rfl .nil)) ?_
    refine V_ret (then_r ?_)
    refine Leave.nil (.cellA (us := [_, _, _, _, _, _, _, _, _, _, _, _, _]) rfl ag34 sz34 (by repeat first | exact mH | apply mT) rfl (.cell rfl ag4 (by repeat first | exact mH | apply mT) rfl .nil)) ?_
    have e : spareT t u now = boxT t (byT t now fun _ => true) u := if_pos (by omega)
    rw [e]; rfl
  · intro c1; try simp only [td] at c1
    refine V_skip (then_n ?_)
    refine V_seq ?_
    refine V_seq (V_region rfl ?_)
    refine L_go rfl (X_rd (r_loadA (vs := [_, _, _, _, _]) ag25 sz25 rfl rfl (by repeat first | exact mH | apply mT) rfl) ?_)
    refine L_go rfl (X_p (p_move rfl rfl) ?_)
    refine L_go rfl (X_p (p_move rfl rfl) ?_)
    refine L_go rfl (X_wr (w_callN rfl rfl rfl (fun w hg => others_c t _ _ u now w)) ?_)
    rintro _ _ ⟨_, rfl, _, y1, y2, y3, rfl, rfl⟩
    refine L_then (.cons (k := 6) rfl (.cons (k := 7) rfl (.cons (k := 27) rfl .nil))) ?_
    refine V_block ?_
    refine V_range (L := (othersV t u now t.trackers.length).map ov) rfl (.cons (k := 6) rfl (.cons (k := 7) rfl (.cons (k := 27) rfl .nil))) rfl rfl (fun done x => done.length < t.trackers.length ∧ ∃ p : Int × Box, x = ov p) (fun done Hs => ∃ qs : List (Int × Box), done = qs.map ov ∧ Hs = (y2, .cells #[.int .i64 now] 3) :: (y3, .cells #[.int .i64 u] 3) :: (y1, t.obj (.slice ta t.trackers.length tc) pv 25) :: (b3, .cells #[.bool (foldB qs).isSome] 4) :: (b2, .cells (Box.cells ((foldB qs).getD boxZ)).toArray 34) :: (b1, t.obj (.slice ta t.trackers.length tc) pv 25) :: []) (by rintro done vs ⟨_, p, rfl⟩; rfl) (by repeat (first | exact List.Sublist.refl _ | apply List.Sublist.cons_cons | apply List.Sublist.cons)) (⟨[], rfl, rfl⟩) ?_ ?_ ?_
    · intro l1 D1 r1 done vs Hr own hp hJ
      obtain ⟨hdl, p, rfl⟩ := hp
      obtain ⟨qs, rfl, rfl⟩ := hJ
      have hsn := foldB_snoc qs p
      generalize foldB qs = acc at hsn
      refine V_region rfl ?_
      refine L_go rfl (X_wr (w_alloc zr34 rfl) ?_)
      rintro _ _ ⟨b5, hb5, rfl, rfl⟩
      refine L_go rfl (X_wr (w_store (cs' := [_, _, _, _, _, _, _, _, _, _, _, _, _]) sz34 rfl rfl rfl rfl rfl (by repeat first | exact .head | apply SetAt.tail) (Nat.le_of_ble_eq_true rfl) rfl) ?_)
      rintro _ _ ⟨rfl, rfl⟩
      refine L_keep (.cons (k := 6) rfl (.cons (k := 7) rfl (.cons (k := 9) rfl (.cons (k := 27) rfl .nil)))) ?_
      refine asgI (by repeat first | exact .head | apply SetAt.tail) ?_
      refine V_block ?_
      refine V_seq ?_
      refine V_seq (V_region rfl ?_)
      refine L_go rfl (X_rd (r_load ag4 rfl rfl (by repeat first | exact mH | apply mT) rfl) ?_)
      refine L_go rfl (X_p (p_not rfl rfl) ?_)
      refine L_then (.cons (k := 6) rfl (.cons (k := 7) rfl (.cons (k := 9) rfl (.cons (k := 31) rfl .nil)))) ?_
      refine V_cond rfl ?_ ?_
      · intro c2; try simp only [td] at c2
        refine V_seq (V_region rfl ?_)
        refine L_go rfl (X_rd (r_loadA (vs := [_, _, _, _, _, _, _, _, _, _, _, _, _]) ag34 sz34 rfl rfl (by repeat first | exact mH | apply mT) rfl) ?_)
        refine L_go rfl (X_wr (w_store (cs' := [_, _, _, _, _, _, _, _, _, _, _, _, _]) sz34 rfl rfl rfl rfl rfl (by repeat first | exact .head | apply SetAt.tail) (Nat.le_of_ble_eq_true rfl) rfl) ?_)
        rintro _ _ ⟨rfl, rfl⟩
        refine L_go rfl (X_wr (w_store (cs' := [_]) sz4 rfl rfl rfl rfl rfl (by repeat first | exact .head | apply SetAt.tail) (Nat.le_of_ble_eq_true rfl) rfl) ?_)
        rintro _ _ ⟨rfl, rfl⟩
        refine L_then .nil ?_
        refine V_exit (then_e (blk_e rfl ?_))
        refine endI (by repeat first | exact .head | apply SetAt.tail) ?_
        refine ⟨(y2, .cells #[.int .i64 now] 3) :: (y3, .cells #[.int .i64 u] 3) :: (y1, t.obj (.slice ta t.trackers.length tc) pv 25) :: (b3, .cells #[.bool true] 4) :: (b2, .cells (Box.cells p.2).toArray 34) :: (b1, t.obj (.slice ta t.trackers.length tc) pv 25) :: [], (by (try dsimp only); repeat (first | exact HSub.nil _ | refine HSub.take (by repeat first | exact Take.head | apply Take.tail) ?_ | exact HSub.refl _ | refine HSub.drop ?_ | refine HSub.app ?_)), ?_⟩
        have e : acc = none := isSome_none c2
        subst e
        refine ⟨qs ++ [p], by rw [List.map_append]; rfl, ?_⟩
        rw [hsn]; rfl
      · intro c2; try simp only [td] at c2
        refine V_skip (then_n ?_)
        refine V_seq (V_region rfl ?_)
        refine L_go rfl (X_wr (w_callP rfl rfl rfl (fun w hg => parts_c b2 w)) ?_)
        rintro _ _ ⟨rfl, rfl⟩
        refine L_go rfl (X_wr (w_alloc zr95 rfl) ?_)
        rintro _ _ ⟨b6, hb6, rfl, rfl⟩
        refine L_go rfl (X_wr (w_store (cs' := [_, _, _, _, _, _]) sz95 rfl rfl rfl rfl rfl (by repeat first | exact .head | apply SetAt.tail) (Nat.le_of_ble_eq_true rfl) rfl) ?_)
        rintro _ _ ⟨rfl, rfl⟩
        refine L_then (.cons (k := 9) rfl (.cons (k := 10) rfl .nil)) ?_
        refine V_seq (V_region rfl ?_)
        refine L_go rfl (X_wr (w_callP rfl rfl rfl (fun w hg => parts_c b5 w)) ?_)
        rintro _ _ ⟨rfl, rfl⟩
        refine L_go rfl (X_p (p_move rfl rfl) ?_)
        refine L_then (.cons (k := 10) rfl (.cons (k := 34) rfl (.cons (k := 35) rfl .nil))) ?_
        refine V_block ?_
        refine V_loopU ?_
        refine LU_step ?_
        refine V_seq (V_region rfl ?_)
        refine L_go rfl (X_p (p_lss rfl rfl rfl) ?_)
        refine L_then (.cons (k := 10) rfl (.cons (k := 34) rfl (.cons (k := 35) rfl (.cons (k := 36) rfl .nil)))) ?_
        refine V_seq ?_
        refine V_cond_t rfl rfl ?_
        refine V_skip (then_n ?_)
        refine V_seq ?_
        refine V_block ?_
        refine V_seq (V_region rfl ?_)
        refine L_go rfl (X_p (p_move rfl rfl) ?_)
        refine L_go rfl (X_p (p_at un95 ag94 sz94 rfl rfl rfl (by omega) (by omega) rfl) ?_)
        refine L_go rfl (X_p (p_assign rfl rfl) ?_)
        refine L_go rfl (X_p (p_assign rfl rfl) ?_)
        refine L_then (.cons (k := 10) rfl (.cons (k := 11) rfl (.cons (k := 12) rfl (.cons (k := 34) rfl (.cons (k := 35) rfl .nil))))) ?_
        refine V_draw (.rd 0 (.rd 1 (.rd 2 (.rd 3 (.rd 4 (.rd 5 (.rd 6 (.rd 7 (.rd 8 (.rd 9 (.rd 10 (.rd 11 (.rd 12 (.rd 13 (.rd 14 (.rd 15 (.rd 16 (.rd 17 (.rd 18 (.rd 19 (.rd 20 (.rd 21 (.rd 22 (.rd 23 (.rd 24 (.rd 25 (.rd 26 (.rd 27 (.rd 28 (.rd 29 (.wr 30 [28, 27, 25, 24, 23, 21, 20, 19, 18, 17, 5, 4, 3] (.rd 31 (.rd 32 (.wr 33 [31] .done)))))))))))))))))))))))))))))))))) mixed (by kernel_rfl) rfl ?_
        refine D_p rfl (.plain rfl) (p_move rfl rfl) ?_
        refine D_p rfl (.plain rfl) (p_idxao ar95 rfl rfl rfl (by omega) (by omega)) ?_
        refine D_rd rfl (.plain rfl) (r_load ag94 rfl rfl (by repeat first | exact mH | apply mT) rfl) ?_
        refine D_p rfl (.plain rfl) (p_move rfl rfl) ?_
        refine D_p rfl (.plain rfl) (p_idxao ar95 rfl rfl rfl (by omega) (by omega)) ?_
        refine D_rd rfl (.plain rfl) (r_load ag94 rfl rfl (by repeat first | exact mH | apply mT) rfl) ?_
        refine D_p rfl (.plain rfl) (p_move rfl rfl) ?_
        refine D_p rfl (.plain rfl) (p_idxao ar95 rfl rfl rfl (by omega) (by omega)) ?_
        refine D_rd rfl (.plain rfl) (r_load ag94 rfl rfl (by repeat first | exact mH | apply mT) rfl) ?_
        refine D_p rfl (.plain rfl) (p_nil rfl rfl) ?_
        refine D_p rfl (.plain rfl) (p_fieldo fo32_0 rfl rfl) ?_
        refine D_rd rfl (.plain rfl) (r_load ag3 rfl rfl (by repeat first | exact mH | apply mT) rfl) ?_
        refine D_p rfl (.plain rfl) (p_move rfl rfl) ?_
        refine D_p rfl (.plain rfl) (p_nil rfl rfl) ?_
        refine D_p rfl (.plain rfl) (p_fieldo fo32_0 rfl rfl) ?_
        refine D_rd rfl (.plain rfl) (r_load ag3 rfl rfl (by repeat first | exact mH | apply mT) rfl) ?_
        refine D_p rfl (.plain rfl) (p_min rfl rfl rfl) ?_
        refine D_p rfl (.plain rfl) (p_move rfl rfl) ?_
        refine D_p rfl (.plain rfl) (p_idxao ar95 rfl rfl rfl (by omega) (by omega)) ?_
        refine D_rd rfl (.plain rfl) (r_load ag94 rfl rfl (by repeat first | exact mH | apply mT) rfl) ?_
        refine D_p rfl (.plain rfl) (p_nil rfl rfl) ?_
        refine D_p rfl (.plain rfl) (p_fieldo fo32_1 rfl rfl) ?_
        refine D_rd rfl (.plain rfl) (r_load ag3 rfl rfl (by repeat first | exact mH | apply mT) rfl) ?_
        refine D_p rfl (.plain rfl) (p_move rfl rfl) ?_
        refine D_p rfl (.plain rfl) (p_nil rfl rfl) ?_
        refine D_p rfl (.plain rfl) (p_fieldo fo32_1 rfl rfl) ?_
        refine D_rd rfl (.plain rfl) (r_load ag3 rfl rfl (by repeat first | exact mH | apply mT) rfl) ?_
        refine D_p rfl (.plain rfl) (p_max rfl rfl rfl) ?_
        refine D_p rfl (.plain rfl) (p_nil rfl rfl) ?_
        refine D_p rfl (.plain rfl) (p_fieldo fo32_0 rfl rfl) ?_
        refine D_wr (.go (E' := [(19, _), (5, _)]) rfl (.plain rfl) (w_store (cs' := [_, _, _, _, _, _, _, _, _, _, _, _, _]) sz3 rfl rfl rfl rfl rfl (by repeat first | exact .head | apply SetAt.tail) (Nat.le_of_ble_eq_true rfl) rfl) rfl ?_)
        rintro _ _ ⟨rfl, rfl⟩
        refine ⟨(.cons rfl (.plain rfl) (r_load ag94 rfl rfl (by repeat first | exact mH | apply mT) rfl) (.cons rfl (.plain rfl) (r_load ag94 rfl rfl (by repeat first | exact mH | apply mT) rfl) .nil)), ?_⟩
        refine D_p rfl (.plain rfl) (p_nil rfl rfl) ?_
        refine D_p rfl (.plain rfl) (p_fieldo fo32_1 rfl rfl) ?_
        refine D_wr (.go (E' := []) rfl (.plain rfl) (w_store (cs' := [_, _, _, _, _, _, _, _, _, _, _, _, _]) sz3 rfl rfl rfl rfl rfl (by repeat first | exact .head | apply SetAt.tail) (Nat.le_of_ble_eq_true rfl) rfl) rfl ?_)
        rintro _ _ ⟨rfl, rfl⟩
        refine ⟨.nil, ?_⟩
        refine D_keep (.cons (k := 10) rfl (.cons (k := 34) rfl (.cons (k := 35) rfl .nil))) (blk_n (then_n ?_))
        refine V_region rfl ?_
        first | refine L_go rfl (X_p (p_add' rfl rfl rfl (by unfold InI; omega)) ?_) | refine L_go rfl (X_p (p_add rfl rfl rfl) ?_)
        refine L_go rfl (X_p (p_move rfl rfl) ?_)
        refine L_keep (.cons (k := 10) rfl (.cons (k := 34) rfl (.cons (k := 35) rfl .nil))) (then_n ?_)
        refine LU_step ?_
        refine V_seq (V_region rfl ?_)
        refine L_go rfl (X_p (p_lss rfl rfl rfl) ?_)
        refine L_then (.cons (k := 10) rfl (.cons (k := 34) rfl (.cons (k := 35) rfl (.cons (k := 36) rfl .nil)))) ?_
        refine V_seq ?_
        refine V_cond_t rfl rfl ?_
        refine V_skip (then_n ?_)
        refine V_seq ?_
        refine V_block ?_
        refine V_seq (V_region rfl ?_)
        refine L_go rfl (X_p (p_move rfl rfl) ?_)
        refine L_go rfl (X_p (p_at un95 ag94 sz94 rfl rfl rfl (by omega) (by omega) rfl) ?_)
        refine L_go rfl (X_p (p_assign rfl rfl) ?_)
        refine L_go rfl (X_p (p_assign rfl rfl) ?_)
        refine L_then (.cons (k := 10) rfl (.cons (k := 11) rfl (.cons (k := 12) rfl (.cons (k := 34) rfl (.cons (k := 35) rfl .nil))))) ?_
        refine V_draw (.rd 0 (.rd 1 (.rd 2 (.rd 3 (.rd 4 (.rd 5 (.rd 6 (.rd 7 (.rd 8 (.rd 9 (.rd 10 (.rd 11 (.rd 12 (.rd 13 (.rd 14 (.rd 15 (.rd 16 (.rd 17 (.rd 18 (.rd 19 (.rd 20 (.rd 21 (.rd 22 (.rd 23 (.rd 24 (.rd 25 (.rd 26 (.rd 27 (.rd 28 (.rd 29 (.wr 30 [28, 27, 25, 24, 23, 21, 20, 19, 18, 17, 5, 4, 3] (.rd 31 (.rd 32 (.wr 33 [31] .done)))))))))))))))))))))))))))))))))) mixed (by kernel_rfl) rfl ?_
        refine D_p rfl (.plain rfl) (p_move rfl rfl) ?_
        refine D_p rfl (.plain rfl) (p_idxao ar95 rfl rfl rfl (by omega) (by omega)) ?_
        refine D_rd rfl (.plain rfl) (r_load ag94 rfl rfl (by repeat first | exact mH | apply mT) rfl) ?_
        refine D_p rfl (.plain rfl) (p_move rfl rfl) ?_
        refine D_p rfl (.plain rfl) (p_idxao ar95 rfl rfl rfl (by omega) (by omega)) ?_
        refine D_rd rfl (.plain rfl) (r_load ag94 rfl rfl (by repeat first | exact mH | apply mT) rfl) ?_
        refine D_p rfl (.plain rfl) (p_move rfl rfl) ?_
        refine D_p rfl (.plain rfl) (p_idxao ar95 rfl rfl rfl (by omega) (by omega)) ?_
        refine D_rd rfl (.plain rfl) (r_load ag94 rfl rfl (by repeat first | exact mH | apply mT) rfl) ?_
        refine D_p rfl (.plain rfl) (p_nil rfl rfl) ?_
        refine D_p rfl (.plain rfl) (p_fieldo fo32_0 rfl rfl) ?_
        refine D_rd rfl (.plain rfl) (r_load ag3 rfl rfl (by repeat first | exact mH | apply mT) rfl) ?_
        refine D_p rfl (.plain rfl) (p_move rfl rfl) ?_
        refine D_p rfl (.plain rfl) (p_nil rfl rfl) ?_
        refine D_p rfl (.plain rfl) (p_fieldo fo32_0 rfl rfl) ?_
        refine D_rd rfl (.plain rfl) (r_load ag3 rfl rfl (by repeat first | exact mH | apply mT) rfl) ?_
        refine D_p rfl (.plain rfl) (p_min rfl rfl rfl) ?_
        refine D_p rfl (.plain rfl) (p_move rfl rfl) ?_
        refine D_p rfl (.plain rfl) (p_idxao ar95 rfl rfl rfl (by omega) (by omega)) ?_
        refine D_rd rfl (.plain rfl) (r_load ag94 rfl rfl (by repeat first | exact mH | apply mT) rfl) ?_
        refine D_p rfl (.plain rfl) (p_nil rfl rfl) ?_
        refine D_p rfl (.plain rfl) (p_fieldo fo32_1 rfl rfl) ?_
        refine D_rd rfl (.plain rfl) (r_load ag3 rfl rfl (by repeat first | exact mH | apply mT) rfl) ?_
        refine D_p rfl (.plain rfl) (p_move rfl rfl) ?_
        refine D_p rfl (.plain rfl) (p_nil rfl rfl) ?_
        refine D_p rfl (.plain rfl) (p_fieldo fo32_1 rfl rfl) ?_
        refine D_rd rfl (.plain rfl) (r_load ag3 rfl rfl (by repeat first | exact mH | apply mT) rfl) ?_
        refine D_p rfl (.plain rfl) (p_max rfl rfl rfl) ?_
        refine D_p rfl (.plain rfl) (p_nil rfl rfl) ?_
        refine D_p rfl (.plain rfl) (p_fieldo fo32_0 rfl rfl) ?_
        refine D_wr (.go (E' := [(19, _), (5, _)]) rfl (.plain rfl) (w_store (cs' := [_, _, _, _, _, _, _, _, _, _, _, _, _]) sz3 rfl rfl rfl rfl rfl (by repeat first | exact .head | apply SetAt.tail) (Nat.le_of_ble_eq_true rfl) rfl) rfl ?_)
        rintro _ _ ⟨rfl, rfl⟩
        refine ⟨(.cons rfl (.plain rfl) (r_load ag94 rfl rfl (by repeat first | exact mH | apply mT) rfl) (.cons rfl (.plain rfl) (r_load ag94 rfl rfl (by repeat first | exact mH | apply mT) rfl) .nil)), ?_⟩
        refine D_p rfl (.plain rfl) (p_nil rfl rfl) ?_
        refine D_p rfl (.plain rfl) (p_fieldo fo32_1 rfl rfl) ?_
        refine D_wr (.go (E' := []) rfl (.plain rfl) (w_store (cs' := [_, _, _, _, _, _, _, _, _, _, _, _, _]) sz3 rfl rfl rfl rfl rfl (by repeat first | exact .head | apply SetAt.tail) (Nat.le_of_ble_eq_true rfl) rfl) rfl ?_)
        rintro _ _ ⟨rfl, rfl⟩
        refine ⟨.nil, ?_⟩
        refine D_keep (.cons (k := 10) rfl (.cons (k := 34) rfl (.cons (k := 35) rfl .nil))) (blk_n (then_n ?_))
        refine V_region rfl ?_
        first | refine L_go rfl (X_p (p_add' rfl rfl rfl (by unfold InI; omega)) ?_) | refine L_go rfl (X_p (p_add rfl rfl rfl) ?_)
        refine L_go rfl (X_p (p_move rfl rfl) ?_)
        refine L_keep (.cons (k := 10) rfl (.cons (k := 34) rfl (.cons (k := 35) rfl .nil))) (then_n ?_)
        refine LU_step ?_
        refine V_seq (V_region rfl ?_)
        refine L_go rfl (X_p (p_lss rfl rfl rfl) ?_)
        refine L_then (.cons (k := 10) rfl (.cons (k := 34) rfl (.cons (k := 35) rfl (.cons (k := 36) rfl .nil)))) ?_
        refine V_seq ?_
        refine V_cond_t rfl rfl ?_
        refine V_skip (then_n ?_)
        refine V_seq ?_
        refine V_block ?_
        refine V_seq (V_region rfl ?_)
        refine L_go rfl (X_p (p_move rfl rfl) ?_)
        refine L_go rfl (X_p (p_at un95 ag94 sz94 rfl rfl rfl (by omega) (by omega) rfl) ?_)
        refine L_go rfl (X_p (p_assign rfl rfl) ?_)
        refine L_go rfl (X_p (p_assign rfl rfl) ?_)
        refine L_then (.cons (k := 10) rfl (.cons (k := 11) rfl (.cons (k := 12) rfl (.cons (k := 34) rfl (.cons (k := 35) rfl .nil))))) ?_
        refine V_draw (.rd 0 (.rd 1 (.rd 2 (.rd 3 (.rd 4 (.rd 5 (.rd 6 (.rd 7 (.rd 8 (.rd 9 (.rd 10 (.rd 11 (.rd 12 (.rd 13 (.rd 14 (.rd 15 (.rd 16 (.rd 17 (.rd 18 (.rd 19 (.rd 20 (.rd 21 (.rd 22 (.rd 23 (.rd 24 (.rd 25 (.rd 26 (.rd 27 (.rd 28 (.rd 29 (.wr 30 [28, 27, 25, 24, 23, 21, 20, 19, 18, 17, 5, 4, 3] (.rd 31 (.rd 32 (.wr 33 [31] .done)))))))))))))))))))))))))))))))))) mixed (by kernel_rfl) rfl ?_
        refine D_p rfl (.plain rfl) (p_move rfl rfl) ?_
        refine D_p rfl (.plain rfl) (p_idxao ar95 rfl rfl rfl (by omega) (by omega)) ?_
        refine D_rd rfl (.plain rfl) (r_load ag94 rfl rfl (by repeat first | exact mH | apply mT) rfl) ?_
        refine D_p rfl (.plain rfl) (p_move rfl rfl) ?_
        refine D_p rfl (.plain rfl) (p_idxao ar95 rfl rfl rfl (by omega) (by omega)) ?_
        refine D_rd rfl (.plain rfl) (r_load ag94 rfl rfl (by repeat first | exact mH | apply mT) rfl) ?_
        refine D_p rfl (.plain rfl) (p_move rfl rfl) ?_
        refine D_p rfl (.plain rfl) (p_idxao ar95 rfl rfl rfl (by omega) (by omega)) ?_
        refine D_rd rfl (.plain rfl) (r_load ag94 rfl rfl (by repeat first | exact mH | apply mT) rfl) ?_
        refine D_p rfl (.plain rfl) (p_nil rfl rfl) ?_
        refine D_p rfl (.plain rfl) (p_fieldo fo32_0 rfl rfl) ?_
        refine D_rd rfl (.plain rfl) (r_load ag3 rfl rfl (by repeat first | exact mH | apply mT) rfl) ?_
        refine D_p rfl (.plain rfl) (p_move rfl rfl) ?_
        refine D_p rfl (.plain rfl) (p_nil rfl rfl) ?_
        refine D_p rfl (.plain rfl) (p_fieldo fo32_0 rfl rfl) ?_
        refine D_rd rfl (.plain rfl) (r_load ag3 rfl rfl (by repeat first | exact mH | apply mT) rfl) ?_
        refine D_p rfl (.plain rfl) (p_min rfl rfl rfl) ?_
        refine D_p rfl (.plain rfl) (p_move rfl rfl) ?_
        refine D_p rfl (.plain rfl) (p_idxao ar95 rfl rfl rfl (by omega) (by omega)) ?_
        refine D_rd rfl (.plain rfl) (r_load ag94 rfl rfl (by repeat first | exact mH | apply mT) rfl) ?_
        refine D_p rfl (.plain rfl) (p_nil rfl rfl) ?_
        refine D_p rfl (.plain rfl) (p_fieldo fo32_1 rfl rfl) ?_
        refine D_rd rfl (.plain rfl) (r_load ag3 rfl rfl (by repeat first | exact mH | apply mT) rfl) ?_
        refine D_p rfl (.plain rfl) (p_move rfl rfl) ?_
        refine D_p rfl (.plain rfl) (p_nil rfl rfl) ?_
        refine D_p rfl (.plain rfl) (p_fieldo fo32_1 rfl rfl) ?_
        refine D_rd rfl (.plain rfl) (r_load ag3 rfl rfl (by repeat first | exact mH | apply mT) rfl) ?_
        refine D_p rfl (.plain rfl) (p_max rfl rfl rfl) ?_
        refine D_p rfl (.plain rfl) (p_nil rfl rfl) ?_
        refine D_p rfl (.plain rfl) (p_fieldo fo32_0 rfl rfl) ?_
        refine D_wr (.go (E' := [(19, _), (5, _)]) rfl (.plain rfl) (w_store (cs' := [_, _, _, _, _, _, _, _, _, _, _, _, _]) sz3 rfl rfl rfl rfl rfl (by repeat first | exact .head | apply SetAt.tail) (Nat.le_of_ble_eq_true rfl) rfl) rfl ?_)
        rintro _ _ ⟨rfl, rfl⟩
        refine ⟨(.cons rfl (.plain rfl) (r_load ag94 rfl rfl (by repeat first | exact mH | apply mT) rfl) (.cons rfl (.plain rfl) (r_load ag94 rfl rfl (by repeat first | exact mH | apply mT) rfl) .nil)), ?_⟩
        refine D_p rfl (.plain rfl) (p_nil rfl rfl) ?_
        refine D_p rfl (.plain rfl) (p_fieldo fo32_1 rfl rfl) ?_
        refine D_wr (.go (E' := []) rfl (.plain rfl) (w_store (cs' := [_, _, _, _, _, _, _, _, _, _, _, _, _]) sz3 rfl rfl rfl rfl rfl (by repeat first | exact .head | apply SetAt.tail) (Nat.le_of_ble_eq_true rfl) rfl) rfl ?_)
        rintro _ _ ⟨rfl, rfl⟩
        refine ⟨.nil, ?_⟩
        refine D_keep (.cons (k := 10) rfl (.cons (k := 34) rfl (.cons (k := 35) rfl .nil))) (blk_n (then_n ?_))
        refine V_region rfl ?_
        first | refine L_go rfl (X_p (p_add' rfl rfl rfl (by unfold InI; omega)) ?_) | refine L_go rfl (X_p (p_add rfl rfl rfl) ?_)
        refine L_go rfl (X_p (p_move rfl rfl) ?_)
        refine L_keep (.cons (k := 10) rfl (.cons (k := 34) rfl (.cons (k := 35) rfl .nil))) (then_n ?_)
        refine LU_step ?_
        refine V_seq (V_region rfl ?_)
        refine L_go rfl (X_p (p_lss rfl rfl rfl) ?_)
        refine L_then (.cons (k := 10) rfl (.cons (k := 34) rfl (.cons (k := 35) rfl (.cons (k := 36) rfl .nil)))) ?_
        refine V_seq ?_
        refine V_cond_t rfl rfl ?_
        refine V_skip (then_n ?_)
        refine V_seq ?_
        refine V_block ?_
        refine V_seq (V_region rfl ?_)
        refine L_go rfl (X_p (p_move rfl rfl) ?_)
        refine L_go rfl (X_p (p_at un95 ag94 sz94 rfl rfl rfl (by omega) (by omega) rfl) ?_)
        refine L_go rfl (X_p (p_assign rfl rfl) ?_)
        refine L_go rfl (X_p (p_assign rfl rfl) ?_)
        refine L_then (.cons (k := 10) rfl (.cons (k := 11) rfl (.cons (k := 12) rfl (.cons (k := 34) rfl (.cons (k := 35) rfl .nil))))) ?_
        refine V_draw (.rd 0 (.rd 1 (.rd 2 (.rd 3 (.rd 4 (.rd 5 (.rd 6 (.rd 7 (.rd 8 (.rd 9 (.rd 10 (.rd 11 (.rd 12 (.rd 13 (.rd 14 (.rd 15 (.rd 16 (.rd 17 (.rd 18 (.rd 19 (.rd 20 (.rd 21 (.rd 22 (.rd 23 (.rd 24 (.rd 25 (.rd 26 (.rd 27 (.rd 28 (.rd 29 (.wr 30 [28, 27, 25, 24, 23, 21, 20, 19, 18, 17, 5, 4, 3] (.rd 31 (.rd 32 (.wr 33 [31] .done)))))))))))))))))))))))))))))))))) mixed (by kernel_rfl) rfl ?_
        refine D_p rfl (.plain rfl) (p_move rfl rfl) ?_
        refine D_p rfl (.plain rfl) (p_idxao ar95 rfl rfl rfl (by omega) (by omega)) ?_
        refine D_rd rfl (.plain rfl) (r_load ag94 rfl rfl (by repeat first | exact mH | apply mT) rfl) ?_
        refine D_p rfl (.plain rfl) (p_move rfl rfl) ?_
        refine D_p rfl (.plain rfl) (p_idxao ar95 rfl rfl rfl (by omega) (by omega)) ?_
        refine D_rd rfl (.plain rfl) (r_load ag94 rfl rfl (by repeat first | exact mH | apply mT) rfl) ?_
        refine D_p rfl (.plain rfl) (p_move rfl rfl) ?_
        refine D_p rfl (.plain rfl) (p_idxao ar95 rfl rfl rfl (by omega) (by omega)) ?_
        refine D_rd rfl (.plain rfl) (r_load ag94 rfl rfl (by repeat first | exact mH | apply mT) rfl) ?_
        refine D_p rfl (.plain rfl) (p_nil rfl rfl) ?_
        refine D_p rfl (.plain rfl) (p_fieldo fo32_0 rfl rfl) ?_
        refine D_rd rfl (.plain rfl) (r_load ag3 rfl rfl (by repeat first | exact mH | apply mT) rfl) ?_
        refine D_p rfl (.plain rfl) (p_move rfl rfl) ?_
        refine D_p rfl (.plain rfl) (p_nil rfl rfl) ?_
        refine D_p rfl (.plain rfl) (p_fieldo fo32_0 rfl rfl) ?_
        refine D_rd rfl (.plain rfl) (r_load ag3 rfl rfl (by repeat first | exact mH | apply mT) rfl) ?_
        refine D_p rfl (.plain rfl) (p_min rfl rfl rfl) ?_
        refine D_p rfl (.plain rfl) (p_move rfl rfl) ?_
        refine D_p rfl (.plain rfl) (p_idxao ar95 rfl rfl rfl (by omega) (by omega)) ?_
        refine D_rd rfl (.plain rfl) (r_load ag94 rfl rfl (by repeat first | exact mH | apply mT) rfl) ?_
        refine D_p rfl (.plain rfl) (p_nil rfl rfl) ?_
        refine D_p rfl (.plain rfl) (p_fieldo fo32_1 rfl rfl) ?_
        refine D_rd rfl (.plain rfl) (r_load ag3 rfl rfl (by repeat first | exact mH | apply mT) rfl) ?_
        refine D_p rfl (.plain rfl) (p_move rfl rfl) ?_
        refine D_p rfl (.plain rfl) (p_nil rfl rfl) ?_
        refine D_p rfl (.plain rfl) (p_fieldo fo32_1 rfl rfl) ?_
        refine D_rd rfl (.plain rfl) (r_load ag3 rfl rfl (by repeat first | exact mH | apply mT) rfl) ?_
        refine D_p rfl (.plain rfl) (p_max rfl rfl rfl) ?_
        refine D_p rfl (.plain rfl) (p_nil rfl rfl) ?_
        refine D_p rfl (.plain rfl) (p_fieldo fo32_0 rfl rfl) ?_
        refine D_wr (.go (E' := [(19, _), (5, _)]) rfl (.plain rfl) (w_store (cs' := [_, _, _, _, _, _, _, _, _, _, _, _, _]) sz3 rfl rfl rfl rfl rfl (by repeat first | exact .head | apply SetAt.tail) (Nat.le_of_ble_eq_true rfl) rfl) rfl ?_)
        rintro _ _ ⟨rfl, rfl⟩
        refine ⟨(.cons rfl (.plain rfl) (r_load ag94 rfl rfl (by repeat first | exact mH | apply mT) rfl) (.cons rfl (.plain rfl) (r_load ag94 rfl rfl (by repeat first | exact mH | apply mT) rfl) .nil)), ?_⟩
        refine D_p rfl (.plain rfl) (p_nil rfl rfl) ?_
        refine D_p rfl (.plain rfl) (p_fieldo fo32_1 rfl rfl) ?_
        refine D_wr (.go (E' := []) rfl (.plain rfl) (w_store (cs' := [_, _, _, _, _, _, _, _, _, _, _, _, _]) sz3 rfl rfl rfl rfl rfl (by repeat first | exact .head | apply SetAt.tail) (Nat.le_of_ble_eq_true rfl) rfl) rfl ?_)
        rintro _ _ ⟨rfl, rfl⟩
        refine ⟨.nil, ?_⟩
        refine D_keep (.cons (k := 10) rfl (.cons (k := 34) rfl (.cons (k := 35) rfl .nil))) (blk_n (then_n ?_))
        refine V_region rfl ?_
        first | refine L_go rfl (X_p (p_add' rfl rfl rfl (by unfold InI; omega)) ?_) | refine L_go rfl (X_p (p_add rfl rfl rfl) ?_)
        refine L_go rfl (X_p (p_move rfl rfl) ?_)
        refine L_keep (.cons (k := 10) rfl (.cons (k := 34) rfl (.cons (k := 35) rfl .nil))) (then_n ?_)
        refine LU_step ?_
        refine V_seq (V_region rfl ?_)
        refine L_go rfl (X_p (p_lss rfl rfl rfl) ?_)
        refine L_then (.cons (k := 10) rfl (.cons (k := 34) rfl (.cons (k := 35) rfl (.cons (k := 36) rfl .nil)))) ?_
        refine V_seq ?_
        refine V_cond_t rfl rfl ?_
        refine V_skip (then_n ?_)
        refine V_seq ?_
        refine V_block ?_
        refine V_seq (V_region rfl ?_)
        refine L_go rfl (X_p (p_move rfl rfl) ?_)
        refine L_go rfl (X_p (p_at un95 ag94 sz94 rfl rfl rfl (by omega) (by omega) rfl) ?_)
        refine L_go rfl (X_p (p_assign rfl rfl) ?_)
        refine L_go rfl (X_p (p_assign rfl rfl) ?_)
        refine L_then (.cons (k := 10) rfl (.cons (k := 11) rfl (.cons (k := 12) rfl (.cons (k := 34) rfl (.cons (k := 35) rfl .nil))))) ?_
        refine V_draw (.rd 0 (.rd 1 (.rd 2 (.rd 3 (.rd 4 (.rd 5 (.rd 6 (.rd 7 (.rd 8 (.rd 9 (.rd 10 (.rd 11 (.rd 12 (.rd 13 (.rd 14 (.rd 15 (.rd 16 (.rd 17 (.rd 18 (.rd 19 (.rd 20 (.rd 21 (.rd 22 (.rd 23 (.rd 24 (.rd 25 (.rd 26 (.rd 27 (.rd 28 (.rd 29 (.wr 30 [28, 27, 25, 24, 23, 21, 20, 19, 18, 17, 5, 4, 3] (.rd 31 (.rd 32 (.wr 33 [31] .done)))))))))))))))))))))))))))))))))) mixed (by kernel_rfl) rfl ?_
        refine D_p rfl (.plain rfl) (p_move rfl rfl) ?_
        refine D_p rfl (.plain rfl) (p_idxao ar95 rfl rfl rfl (by omega) (by omega)) ?_
        refine D_rd rfl (.plain rfl) (r_load ag94 rfl rfl (by repeat first | exact mH | apply mT) rfl) ?_
        refine D_p rfl (.plain rfl) (p_move rfl rfl) ?_
        refine D_p rfl (.plain rfl) (p_idxao ar95 rfl rfl rfl (by omega) (by omega)) ?_
        refine D_rd rfl (.plain rfl) (r_load ag94 rfl rfl (by repeat first | exact mH | apply mT) rfl) ?_
        refine D_p rfl (.plain rfl) (p_move rfl rfl) ?_
        refine D_p rfl (.plain rfl) (p_idxao ar95 rfl rfl rfl (by omega) (by omega)) ?_
        refine D_rd rfl (.plain rfl) (r_load ag94 rfl rfl (by repeat first | exact mH | apply mT) rfl) ?_
        refine D_p rfl (.plain rfl) (p_nil rfl rfl) ?_
        refine D_p rfl (.plain rfl) (p_fieldo fo32_0 rfl rfl) ?_
        refine D_rd rfl (.plain rfl) (r_load ag3 rfl rfl (by repeat first | exact mH | apply mT) rfl) ?_
        refine D_p rfl (.plain rfl) (p_move rfl rfl) ?_
        refine D_p rfl (.plain rfl) (p_nil rfl rfl) ?_
        refine D_p rfl (.plain rfl) (p_fieldo fo32_0 rfl rfl) ?_
        refine D_rd rfl (.plain rfl) (r_load ag3 rfl rfl (by repeat first | exact mH | apply mT) rfl) ?_
        refine D_p rfl (.plain rfl) (p_min rfl rfl rfl) ?_
        refine D_p rfl (.plain rfl) (p_move rfl rfl) ?_
        refine D_p rfl (.plain rfl) (p_idxao ar95 rfl rfl rfl (by omega) (by omega)) ?_
        refine D_rd rfl (.plain rfl) (r_load ag94 rfl rfl (by repeat first | exact mH | apply mT) rfl) ?_
        refine D_p rfl (.plain rfl) (p_nil rfl rfl) ?_
        refine D_p rfl (.plain rfl) (p_fieldo fo32_1 rfl rfl) ?_
        refine D_rd rfl (.plain rfl) (r_load ag3 rfl rfl (by repeat first | exact mH | apply mT) rfl) ?_
        refine D_p rfl (.plain rfl) (p_move rfl rfl) ?_
        refine D_p rfl (.plain rfl) (p_nil rfl rfl) ?_
        refine D_p rfl (.plain rfl) (p_fieldo fo32_1 rfl rfl) ?_
        refine D_rd rfl (.plain rfl) (r_load ag3 rfl rfl (by repeat first | exact mH | apply mT) rfl) ?_
        refine D_p rfl (.plain rfl) (p_max rfl rfl rfl) ?_
        refine D_p rfl (.plain rfl) (p_nil rfl rfl) ?_
        refine D_p rfl (.plain rfl) (p_fieldo fo32_0 rfl rfl) ?_
        refine D_wr (.go (E' := [(19, _), (5, _)]) rfl (.plain rfl) (w_store (cs' := [_, _, _, _, _, _, _, _, _, _, _, _, _]) sz3 rfl rfl rfl rfl rfl (by repeat first | exact .head | apply SetAt.tail) (Nat.le_of_ble_eq_true rfl) rfl) rfl ?_)
        rintro _ _ ⟨rfl, rfl⟩
        refine ⟨(.cons rfl (.plain rfl) (r_load ag94 rfl rfl (by repeat first | exact mH | apply mT) rfl) (.cons rfl (.plain rfl) (r_load ag94 rfl rfl (by repeat first | exact mH | apply mT) rfl) .nil)), ?_⟩
        refine D_p rfl (.plain rfl) (p_nil rfl rfl) ?_
        refine D_p rfl (.plain rfl) (p_fieldo fo32_1 rfl rfl) ?_
        refine D_wr (.go (E' := []) rfl (.plain rfl) (w_store (cs' := [_, _, _, _, _, _, _, _, _, _, _, _, _]) sz3 rfl rfl rfl rfl rfl (by repeat first | exact .head | apply SetAt.tail) (Nat.le_of_ble_eq_true rfl) rfl) rfl ?_)
        rintro _ _ ⟨rfl, rfl⟩
        refine ⟨.nil, ?_⟩
        refine D_keep (.cons (k := 10) rfl (.cons (k := 34) rfl (.cons (k := 35) rfl .nil))) (blk_n (then_n ?_))
        refine V_region rfl ?_
        first | refine L_go rfl (X_p (p_add' rfl rfl rfl (by unfold InI; omega)) ?_) | refine L_go rfl (X_p (p_add rfl rfl rfl) ?_)
        refine L_go rfl (X_p (p_move rfl rfl) ?_)
        refine L_keep (.cons (k := 10) rfl (.cons (k := 34) rfl (.cons (k := 35) rfl .nil))) (then_n ?_)
        refine LU_step ?_
        refine V_seq (V_region rfl ?_)
        refine L_go rfl (X_p (p_lss rfl rfl rfl) ?_)
        refine L_then (.cons (k := 10) rfl (.cons (k := 34) rfl (.cons (k := 35) rfl (.cons (k := 36) rfl .nil)))) ?_
        refine V_seq ?_
        refine V_cond_t rfl rfl ?_
        refine V_skip (then_n ?_)
        refine V_seq ?_
        refine V_block ?_
        refine V_seq (V_region rfl ?_)
        refine L_go rfl (X_p (p_move rfl rfl) ?_)
        refine L_go rfl (X_p (p_at un95 ag94 sz94 rfl rfl rfl (by omega) (by omega) rfl) ?_)
        refine L_go rfl (X_p (p_assign rfl rfl) ?_)
        refine L_go rfl (X_p (p_assign rfl rfl) ?_)
        refine L_then (.cons (k := 10) rfl (.cons (k := 11) rfl (.cons (k := 12) rfl (.cons (k := 34) rfl (.cons (k := 35) rfl .nil))))) ?_
        refine V_draw (.rd 0 (.rd 1 (.rd 2 (.rd 3 (.rd 4 (.rd 5 (.rd 6 (.rd 7 (.rd 8 (.rd 9 (.rd 10 (.rd 11 (.rd 12 (.rd 13 (.rd 14 (.rd 15 (.rd 16 (.rd 17 (.rd 18 (.rd 19 (.rd 20 (.rd 21 (.rd 22 (.rd 23 (.rd 24 (.rd 25 (.rd 26 (.rd 27 (.rd 28 (.rd 29 (.wr 30 [28, 27, 25, 24, 23, 21, 20, 19, 18, 17, 5, 4, 3] (.rd 31 (.rd 32 (.wr 33 [31] .done)))))))))))))))))))))))))))))))))) mixed (by kernel_rfl) rfl ?_
        refine D_p rfl (.plain rfl) (p_move rfl rfl) ?_
        refine D_p rfl (.plain rfl) (p_idxao ar95 rfl rfl rfl (by omega) (by omega)) ?_
        refine D_rd rfl (.plain rfl) (r_load ag94 rfl rfl (by repeat first | exact mH | apply mT) rfl) ?_
        refine D_p rfl (.plain rfl) (p_move rfl rfl) ?_
        refine D_p rfl (.plain rfl) (p_idxao ar95 rfl rfl rfl (by omega) (by omega)) ?_
        refine D_rd rfl (.plain rfl) (r_load ag94 rfl rfl (by repeat first | exact mH | apply mT) rfl) ?_
        refine D_p rfl (.plain rfl) (p_move rfl rfl) ?_
        refine D_p rfl (.plain rfl) (p_idxao ar95 rfl rfl rfl (by omega) (by omega)) ?_
        refine D_rd rfl (.plain rfl) (r_load ag94 rfl rfl (by repeat first | exact mH | apply mT) rfl) ?_
        refine D_p rfl (.plain rfl) (p_nil rfl rfl) ?_
        refine D_p rfl (.plain rfl) (p_fieldo fo32_0 rfl rfl) ?_
        refine D_rd rfl (.plain rfl) (r_load ag3 rfl rfl (by repeat first | exact mH | apply mT) rfl) ?_
        refine D_p rfl (.plain rfl) (p_move rfl rfl) ?_
        refine D_p rfl (.plain rfl) (p_nil rfl rfl) ?_
        refine D_p rfl (.plain rfl) (p_fieldo fo32_0 rfl rfl) ?_
        refine D_rd rfl (.plain rfl) (r_load ag3 rfl rfl (by repeat first | exact mH | apply mT) rfl) ?_
        refine D_p rfl (.plain rfl) (p_min rfl rfl rfl) ?_
        refine D_p rfl (.plain rfl) (p_move rfl rfl) ?_
        refine D_p rfl (.plain rfl) (p_idxao ar95 rfl rfl rfl (by omega) (by omega)) ?_
        refine D_rd rfl (.plain rfl) (r_load ag94 rfl rfl (by repeat first | exact mH | apply mT) rfl) ?_
        refine D_p rfl (.plain rfl) (p_nil rfl rfl) ?_
        refine D_p rfl (.plain rfl) (p_fieldo fo32_1 rfl rfl) ?_
        refine D_rd rfl (.plain rfl) (r_load ag3 rfl rfl (by repeat first | exact mH | apply mT) rfl) ?_
        refine D_p rfl (.plain rfl) (p_move rfl rfl) ?_
        refine D_p rfl (.plain rfl) (p_nil rfl rfl) ?_
        refine D_p rfl (.plain rfl) (p_fieldo fo32_1 rfl rfl) ?_
        refine D_rd rfl (.plain rfl) (r_load ag3 rfl rfl (by repeat first | exact mH | apply mT) rfl) ?_
        refine D_p rfl (.plain rfl) (p_max rfl rfl rfl) ?_
        refine D_p rfl (.plain rfl) (p_nil rfl rfl) ?_
        refine D_p rfl (.plain rfl) (p_fieldo fo32_0 rfl rfl) ?_
        refine D_wr (.go (E' := [(19, _), (5, _)]) rfl (.plain rfl) (w_store (cs' := [_, _, _, _, _, _, _, _, _, _, _, _, _]) sz3 rfl rfl rfl rfl rfl (by repeat first | exact .head | apply SetAt.tail) (Nat.le_of_ble_eq_true rfl) rfl) rfl ?_)
        rintro _ _ ⟨rfl, rfl⟩
        refine ⟨(.cons rfl (.plain rfl) (r_load ag94 rfl rfl (by repeat first | exact mH | apply mT) rfl) (.cons rfl (.plain rfl) (r_load ag94 rfl rfl (by repeat first | exact mH | apply mT) rfl) .nil)), ?_⟩
        refine D_p rfl (.plain rfl) (p_nil rfl rfl) ?_
        refine D_p rfl (.plain rfl) (p_fieldo fo32_1 rfl rfl) ?_
        refine D_wr (.go (E' := []) rfl (.plain rfl) (w_store (cs' := [_, _, _, _, _, _, _, _, _, _, _, _, _]) sz3 rfl rfl rfl rfl rfl (by repeat first | exact .head | apply SetAt.tail) (Nat.le_of_ble_eq_true rfl) rfl) rfl ?_)
        rintro _ _ ⟨rfl, rfl⟩
        refine ⟨.nil, ?_⟩
        refine D_keep (.cons (k := 10) rfl (.cons (k := 34) rfl (.cons (k := 35) rfl .nil))) (blk_n (then_n ?_))
        refine V_region rfl ?_
        first | refine L_go rfl (X_p (p_add' rfl rfl rfl (by unfold InI; omega)) ?_) | refine L_go rfl (X_p (p_add rfl rfl rfl) ?_)
        refine L_go rfl (X_p (p_move rfl rfl) ?_)
        refine L_keep (.cons (k := 10) rfl (.cons (k := 34) rfl (.cons (k := 35) rfl .nil))) (then_n ?_)
        refine LU_step ?_
        refine V_seq (V_region rfl ?_)
        refine L_go rfl (X_p (p_lss rfl rfl rfl) ?_)
        refine L_then (.cons (k := 10) rfl (.cons (k := 34) rfl (.cons (k := 35) rfl (.cons (k := 36) rfl .nil)))) ?_
        refine V_seq ?_
        refine V_cond_f rfl rfl ?_
        refine V_exit (then_e (then_e (blk_e rfl (blk_n ?_))))
        refine endI (by repeat first | exact .head | apply SetAt.tail) ?_
        refine ⟨(y2, .cells #[.int .i64 now] 3) :: (y3, .cells #[.int .i64 u] 3) :: (y1, t.obj (.slice ta t.trackers.length tc) pv 25) :: (b3, .cells #[.bool acc.isSome] 4) :: (b2, .cells (Box.cells (joinB (acc.getD boxZ) p.2)).toArray 34) :: (b1, t.obj (.slice ta t.trackers.length tc) pv 25) :: [], (by (try dsimp only); repeat (first | exact HSub.nil _ | refine HSub.take (by repeat first | exact Take.head | apply Take.tail) ?_ | exact HSub.refl _ | refine HSub.drop ?_ | refine HSub.app ?_)), ?_⟩
        have e : acc = some (acc.getD boxZ) := isSome_get c2
        refine ⟨qs ++ [p], by rw [List.map_append]; rfl, ?_⟩
        rw [hsn]; revert e; generalize acc.getD boxZ = bb; rintro rfl; rfl
    · intro l1 D1 r1 w1 hY hgi
      refine (others1_c t hG u now hu w l1 y1 y2 y3 ta tc pv _ hT hY ?_ w1 _ ⟨_, rfl, [], rfl, rfl⟩ hgi).mono (fun _ w2 ⟨Hs, hg2, Hr, e, hJ⟩ => ⟨Hr, e ▸ hg2, hJ⟩)
      rintro done _ ⟨Hr, rfl, qs, rfl, rfl⟩
      exact ⟨.tail _ (.tail _ (.tail _ (.tail _ (.head _)))), .tail _ (.tail _ (.head _)), .tail _ (.tail _ (.tail _ (.head _)))⟩
    · intro l1 D1 ob1 Hr hJ
      obtain ⟨qs, hL, rfl⟩ := hJ
      have hqs := ov_inj hL
      refine (blk_n (then_n ?_))
      refine V_seq (V_draw (.rd 0 (.rd 1 (.wr 2 [1] (.wr 3 [] .done)))) mixed (by kernel_rfl) rfl ?_)
      refine D_rd rfl (.plain rfl) (r_loadA (vs := [_, _, _, _, _, _, _, _, _, _, _, _, _]) ag34 sz34 rfl rfl (by repeat first | exact mH | apply mT) rfl) ?_
      refine D_rd rfl (.plain rfl) (r_load ag4 rfl rfl (by repeat first | exact mH | apply mT) rfl) ?_
      refine D_wr (.go (E' := [(1, _)]) rfl (.plain rfl) (w_store (cs' := [_, _, _, _, _, _, _, _, _, _, _, _, _]) sz34 rfl rfl rfl rfl rfl (by repeat first | exact .head | apply SetAt.tail) (Nat.le_of_ble_eq_true rfl) rfl) rfl ?_)
      rintro _ _ ⟨rfl, rfl⟩
      refine ⟨(.cons rfl (.plain rfl) (r_load ag4 rfl rfl (by repeat first | exact mH | apply mT) rfl) .nil), ?_⟩
      refine D_wr (.go (E' := []) rfl (.plain rfl) (w_store (cs' := [_]) sz4 rfl rfl rfl rfl rfl (by repeat first | exact .head | apply SetAt.tail) (Nat.le_of_ble_eq_true rfl) rfl) rfl ?_)
      rintro _ _ ⟨rfl, rfl⟩
      refine ⟨.nil, ?_⟩
      refine D_then (.cons (k := 6) rfl (.cons (k := 7) rfl .nil)) ?_
      refine V_ret ?_
      refine Leave.mark (by repeat first | exact .head | apply SetAt.tail) (Leave.nil (.cellA (us := [_, _, _, _, _, _, _, _, _, _, _, _, _]) rfl ag34 sz34 (by repeat first | exact mH | apply mT) rfl (.cell rfl ag4 (by repeat first | exact mH | apply mT) rfl .nil)) ?_)
      have e : spareT t u now = foldB qs := by rw [spareT, if_neg (by omega), hqs]
      rw [e]; rfl

end Go.Proofs.Ytclbbchehjapjab
