/- Ytclbbchehjapjab: the walk of fast. -/
import Derived.Test.YtclbbchehjapjabT4
set_option linter.all false
namespace Go.Proofs.Ytclbbchehjapjab
open Go.Vc Go.Tk
set_option maxRecDepth 100000
set_option maxHeartbeats 4000000 in
theorem fast_c (bp bm : Nat) (es : Array MapEntry) (clk : Nat) (t : Task) (ps : List Int) (k u : Int) (hk : k = 0 ∨ k = 1 ∨ k = 2) (hu : 0 ≤ u ∧ u ≤ 100000) (w : World) (hp : PickR w bp bm (.map (some bm)) t ps) (hc : Cache t ps es) (hb : w.heap[bm]? = some (.map es clk)) : FnC Try.prog 62 [.pointer (some ⟨bp, 0, none⟩), .agg #[.int .i64 k, .int .i64 u]] w fun v w' => ∃ o', Vc.Good w [bm] [(bm, o')] w' ∧ (FastV (fastT t ps k u) v ∧ ∃ es' clk', o' = .map es' clk' ∧ Cache t ps es') := by
  have hP := hp
  obtain ⟨tv, pv, sv, ty, fr, hbp, htr, hpl, hsv⟩ := hp.ex
  obtain ⟨ta, tc, rfl, htc, hte⟩ := htr.ex
  obtain ⟨pa, pc, rfl, hpc, hpe⟩ := hpl.ex
  obtain ⟨sa, sc, rfl, hsc, hse⟩ := hsv.ex
  have hG := hP.good
  obtain ⟨hfrm, hspd, hacc⟩ := hG.nums
  have hne := hP.ne
  have hpsl := hP.psl
  simp only [List.length_map] at hbp htc hpc hsc
  refine fn_mod (b := bm) Try.func62 rfl (by kernel_rfl) Try.ntmps62 Try.results62 rfl hb ?_
  refine V_seq (V_region rfl ?_)
  refine L_go rfl (X_wr (w_box rfl rfl) ?_)
  rintro _ _ ⟨b1, hb1, rfl, rfl⟩
  refine L_go rfl (X_wr (w_alloc zr103 rfl) ?_)
  rintro _ _ ⟨b2, hb2, rfl, rfl⟩
  refine L_go rfl (X_p (p_assign rfl rfl) ?_)
  refine L_then (.cons (k := 0) rfl (.cons (k := 3) rfl (.cons (k := 4) rfl .nil))) ?_
  refine V_seq ?_
  refine V_seq (V_draw (.rd 0 (.rd 1 (.rd 2 (.rd 3 (.rd 4 (.rd 5 (.rd 6 (.rd 7 .done)))))))) mixed (by kernel_rfl) rfl ?_)
  refine D_p rfl (.plain rfl) (p_fieldo fo125_1 rfl rfl) ?_
  refine D_rd rfl (.plain rfl) (r_load ag3 rfl rfl (by repeat first | exact mH | apply mT) rfl) ?_
  refine D_p rfl (.plain rfl) (p_move rfl rfl) ?_
  refine D_p rfl (.plain rfl) (p_nil rfl rfl) ?_
  refine D_p rfl (.plain rfl) (p_fieldo fo120_0 rfl rfl) ?_
  refine D_p rfl (.plain rfl) (p_fieldo fo25_0 rfl rfl) ?_
  refine D_rd rfl (.plain rfl) (r_loadB ag3 rfl rfl (own_cell hbp _) (by simp only [Vc.add_block, List.mem_singleton]; assumption)) ?_
  refine D_p rfl (.plain rfl) (p_lss rfl rfl rfl) ?_
  refine D_then (.cons (k := 0) rfl (.cons (k := 3) rfl (.cons (k := 4) rfl (.cons (k := 20) rfl .nil)))) ?_
  refine V_cond rfl ?_ ?_
  · intro c1; try simp only [td] at c1
    refine V_seq (V_region rfl ?_)
    refine L_go rfl (X_p (p_build (r := [_, _]) pl103 zr103 rfl rfl rfl) ?_)
    refine L_go rfl (X_wr (w_store (cs' := [_, _]) sz103 rfl rfl rfl rfl rfl (by repeat first | exact .head | apply SetAt.tail) (Nat.le_of_ble_eq_true rfl) rfl) ?_)
    rintro _ _ ⟨rfl, rfl⟩
    refine L_go rfl (X_p (p_assign rfl rfl) ?_)
    refine L_then (.cons (k := 4) rfl (.cons (k := 5) rfl .nil)) ?_
    refine V_ret (then_r ?_)
    refine Leave.nil (.cellA (us := [_, _]) rfl ag103 sz103 (by repeat first | exact mH | apply mT) rfl (.tmp rfl .nil)) ?_
    exact ⟨_, (by repeat first | exact mH | apply mT), ⟨0, 0, true, rfl, .inl ⟨rfl, by rw [fastT, if_pos (by omega)]⟩⟩, _, _, rfl, hc⟩
  · intro c1; try simp only [td] at c1
    have hm0 := mul_bnd (show 0 ≤ t.accel ∧ t.accel ≤ 1000000 by omega) (show 0 ≤ u - t.frm + 1 ∧ u - t.frm + 1 ≤ 100001 by omega)
    refine V_skip (then_n ?_)
    refine V_mid (γ := Nat × Nat × Array MapEntry × Nat) (.cons (k := 0) rfl (.cons (k := 3) rfl (.cons (k := 4) rfl .nil))) (fun (x6, x7, es1, clk1) => [(6, .pointer (some ⟨x6, 0, none⟩)), (7, .pointer (some ⟨x7, 0, none⟩))]) (fun (x6, x7, es1, clk1) => [(x6, .cells #[.int .i64 (-(min t.speed (t.accel * (u - t.frm + 1)))), .int .i64 (min t.speed (t.accel * (u - t.frm + 1)))] 103), (x7, .cells #[.int .i64 (placeT t ps k u).lo, .int .i64 (placeT t ps k u).hi] 103), (b2, .cells #[.int .i64 0, .int .i64 0] 103), (b1, .cells #[.int .i64 k, .int .i64 u] 125), (bm, .map es1 clk1)]) (fun (x6, x7, es1, clk1) => Cache t ps es1) ?_ ?_
    · refine V_draw (.rd 0 (.rd 1 (.rd 2 (.rd 3 (.rd 4 (.rd 5 (.rd 6 (.rd 7 (.rd 8 (.rd 9 (.rd 10 (.rd 11 (.rd 12 (.rd 13 (.rd 14 (.rd 15 (.rd 16 (.rd 17 (.rd 18 (.rd 19 (.rd 20 (.rd 22 (.rd 23 (.wr3 21 [23, 22, 19, 18, 17, 16, 15, 14, 13, 12, 11, 10, 9, 8, 7, 6, 5, 4, 3, 2, 1, 0] (.wr3 24 [20, 19, 18, 17, 16, 15, 14, 13, 12, 11, 10, 9, 8, 7, 6, 5, 4, 3, 2, 1, 0] (.wr2 25 [23, 22, 20, 19, 18, 17, 16, 15, 14, 13, 12, 11, 10, 9, 8, 7, 6, 5, 4, 3, 2, 1, 0] (.wr 26 [23, 22, 20, 19, 18, 17, 16, 15, 14, 13, 12, 11, 10, 9, 8, 7, 6, 5, 4, 3, 2, 1, 0] (.wr 27 [23, 22] (.wr 28 [] .done))) 26 [23, 22, 20, 19, 18, 17, 16, 15, 14, 13, 12, 11, 10, 9, 8, 7, 6, 5, 4, 3, 2, 1, 0] (.wr 25 [23, 22, 20, 19, 18, 17, 16, 15, 14, 13, 12, 11, 10, 9, 8, 7, 6, 5, 4, 3, 2, 1, 0] (.wr 27 [23, 22] (.wr 28 [] .done)))) 25 [23, 22, 20, 19, 18, 17, 16, 15, 14, 13, 12, 11, 10, 9, 8, 7, 6, 5, 4, 3, 2, 1, 0] (.wr2 24 [20, 19, 18, 17, 16, 15, 14, 13, 12, 11, 10, 9, 8, 7, 6, 5, 4, 3, 2, 1, 0] (.wr 26 [23, 22, 20, 19, 18, 17, 16, 15, 14, 13, 12, 11, 10, 9, 8, 7, 6, 5, 4, 3, 2, 1, 0] (.wr 27 [23, 22] (.wr 28 [] .done))) 26 [23, 22, 20, 19, 18, 17, 16, 15, 14, 13, 12, 11, 10, 9, 8, 7, 6, 5, 4, 3, 2, 1, 0] (.wr 24 [20, 19, 18, 17, 16, 15, 14, 13, 12, 11, 10, 9, 8, 7, 6, 5, 4, 3, 2, 1, 0] (.wr 27 [23, 22] (.wr 28 [] .done)))) 26 [23, 22, 20, 19, 18, 17, 16, 15, 14, 13, 12, 11, 10, 9, 8, 7, 6, 5, 4, 3, 2, 1, 0] (.wr2 24 [20, 19, 18, 17, 16, 15, 14, 13, 12, 11, 10, 9, 8, 7, 6, 5, 4, 3, 2, 1, 0] (.wr 25 [23, 22, 20, 19, 18, 17, 16, 15, 14, 13, 12, 11, 10, 9, 8, 7, 6, 5, 4, 3, 2, 1, 0] (.wr 27 [23, 22] (.wr 28 [] .done))) 25 [23, 22, 20, 19, 18, 17, 16, 15, 14, 13, 12, 11, 10, 9, 8, 7, 6, 5, 4, 3, 2, 1, 0] (.wr 24 [20, 19, 18, 17, 16, 15, 14, 13, 12, 11, 10, 9, 8, 7, 6, 5, 4, 3, 2, 1, 0] (.wr 27 [23, 22] (.wr 28 [] .done))))) 25 [23, 22, 20, 19, 18, 17, 16, 15, 14, 13, 12, 11, 10, 9, 8, 7, 6, 5, 4, 3, 2, 1, 0] (.wr2 21 [23, 22, 19, 18, 17, 16, 15, 14, 13, 12, 11, 10, 9, 8, 7, 6, 5, 4, 3, 2, 1, 0] (.wr2 24 [20, 19, 18, 17, 16, 15, 14, 13, 12, 11, 10, 9, 8, 7, 6, 5, 4, 3, 2, 1, 0] (.wr 26 [23, 22, 20, 19, 18, 17, 16, 15, 14, 13, 12, 11, 10, 9, 8, 7, 6, 5, 4, 3, 2, 1, 0] (.wr 27 [23, 22] (.wr 28 [] .done))) 26 [23, 22, 20, 19, 18, 17, 16, 15, 14, 13, 12, 11, 10, 9, 8, 7, 6, 5, 4, 3, 2, 1, 0] (.wr 24 [20, 19, 18, 17, 16, 15, 14, 13, 12, 11, 10, 9, 8, 7, 6, 5, 4, 3, 2, 1, 0] (.wr 27 [23, 22] (.wr 28 [] .done)))) 26 [23, 22, 20, 19, 18, 17, 16, 15, 14, 13, 12, 11, 10, 9, 8, 7, 6, 5, 4, 3, 2, 1, 0] (.wr 21 [23, 22, 19, 18, 17, 16, 15, 14, 13, 12, 11, 10, 9, 8, 7, 6, 5, 4, 3, 2, 1, 0] (.wr 24 [20, 19, 18, 17, 16, 15, 14, 13, 12, 11, 10, 9, 8, 7, 6, 5, 4, 3, 2, 1, 0] (.wr 27 [23, 22] (.wr 28 [] .done))))) 26 [23, 22, 20, 19, 18, 17, 16, 15, 14, 13, 12, 11, 10, 9, 8, 7, 6, 5, 4, 3, 2, 1, 0] (.wr2 21 [23, 22, 19, 18, 17, 16, 15, 14, 13, 12, 11, 10, 9, 8, 7, 6, 5, 4, 3, 2, 1, 0] (.wr2 24 [20, 19, 18, 17, 16, 15, 14, 13, 12, 11, 10, 9, 8, 7, 6, 5, 4, 3, 2, 1, 0] (.wr 25 [23, 22, 20, 19, 18, 17, 16, 15, 14, 13, 12, 11, 10, 9, 8, 7, 6, 5, 4, 3, 2, 1, 0] (.wr 27 [23, 22] (.wr 28 [] .done))) 25 [23, 22, 20, 19, 18, 17, 16, 15, 14, 13, 12, 11, 10, 9, 8, 7, 6, 5, 4, 3, 2, 1, 0] (.wr 24 [20, 19, 18, 17, 16, 15, 14, 13, 12, 11, 10, 9, 8, 7, 6, 5, 4, 3, 2, 1, 0] (.wr 27 [23, 22] (.wr 28 [] .done)))) 25 [23, 22, 20, 19, 18, 17, 16, 15, 14, 13, 12, 11, 10, 9, 8, 7, 6, 5, 4, 3, 2, 1, 0] (.wr 21 [23, 22, 19, 18, 17, 16, 15, 14, 13, 12, 11, 10, 9, 8, 7, 6, 5, 4, 3, 2, 1, 0] (.wr 24 [20, 19, 18, 17, 16, 15, 14, 13, 12, 11, 10, 9, 8, 7, 6, 5, 4, 3, 2, 1, 0] (.wr 27 [23, 22] (.wr 28 [] .done))))))))))))))))))))))))))))) mixed (by kernel_rfl) rfl ?_
      refine D_p rfl (.plain rfl) (p_move rfl rfl) ?_
      refine D_p rfl (.plain rfl) (p_nil rfl rfl) ?_
      refine D_p rfl (.plain rfl) (p_fieldo fo120_0 rfl rfl) ?_
      refine D_p rfl (.plain rfl) (p_fieldo fo25_1 rfl rfl) ?_
      refine D_rd rfl (.plain rfl) (r_loadB ag3 rfl rfl (own_cell hbp _) (by simp only [Vc.add_block, List.mem_singleton]; assumption)) ?_
      refine D_p rfl (.plain rfl) (p_move rfl rfl) ?_
      refine D_p rfl (.plain rfl) (p_nil rfl rfl) ?_
      refine D_p rfl (.plain rfl) (p_fieldo fo120_0 rfl rfl) ?_
      refine D_p rfl (.plain rfl) (p_fieldo fo25_2 rfl rfl) ?_
      refine D_rd rfl (.plain rfl) (r_loadB ag3 rfl rfl (own_cell hbp _) (by simp only [Vc.add_block, List.mem_singleton]; assumption)) ?_
      refine D_p rfl (.plain rfl) (p_fieldo fo125_1 rfl rfl) ?_
      refine D_rd rfl (.plain rfl) (r_load ag3 rfl rfl (by repeat first | exact mH | apply mT) rfl) ?_
      refine D_p rfl (.plain rfl) (p_move rfl rfl) ?_
      refine D_p rfl (.plain rfl) (p_nil rfl rfl) ?_
      refine D_p rfl (.plain rfl) (p_fieldo fo120_0 rfl rfl) ?_
      refine D_p rfl (.plain rfl) (p_fieldo fo25_0 rfl rfl) ?_
      refine D_rd rfl (.plain rfl) (r_loadB ag3 rfl rfl (own_cell hbp _) (by simp only [Vc.add_block, List.mem_singleton]; assumption)) ?_
      first | refine D_p rfl (.plain rfl) (p_sub' rfl rfl rfl (by unfold InI; omega)) ?_ | refine D_p rfl (.plain rfl) (p_sub rfl rfl rfl) ?_
      first | refine D_p rfl (.plain rfl) (p_add' rfl rfl rfl (by unfold InI; omega)) ?_ | refine D_p rfl (.plain rfl) (p_add rfl rfl rfl) ?_
      first | refine D_p rfl (.plain rfl) (p_mul' rfl rfl rfl (by unfold InI; omega)) ?_ | refine D_p rfl (.plain rfl) (p_mul rfl rfl rfl) ?_
      refine D_p rfl (.plain rfl) (p_min rfl rfl rfl) ?_
      refine D_p rfl (.plain rfl) (p_move rfl rfl) ?_
      refine D_rd rfl (.plain rfl) (r_loadA (vs := [_, _]) ag125 sz125 rfl rfl (by repeat first | exact mH | apply mT) rfl) ?_
      refine D_wr3 rfl rfl rfl ?_ ?_ ?_
      · refine (.go (E' := [(23, _), (16, _), (11, _), (9, _), (4, _)]) rfl (.plain rfl) (w_callP rfl rfl rfl (fun w hg => around_c _ (by omega) w)) rfl ?_)
        rintro _ _ ⟨rfl, rfl⟩
        refine ⟨(.cons rfl (.plain rfl) (r_loadA (vs := [_, _]) ag125 sz125 rfl rfl (by repeat first | exact mH | apply mT) rfl) (.cons rfl (.plain rfl) (r_loadB ag3 rfl rfl (own_cell hbp _) (by simp only [Vc.add_block, List.mem_singleton]; assumption)) (.cons rfl (.plain rfl) (r_load ag3 rfl rfl (by repeat first | exact mH | apply mT) rfl) (.cons rfl (.plain rfl) (r_loadB ag3 rfl rfl (own_cell hbp _) (by simp only [Vc.add_block, List.mem_singleton]; assumption)) (.cons rfl (.plain rfl) (r_loadB ag3 rfl rfl (own_cell hbp _) (by simp only [Vc.add_block, List.mem_singleton]; assumption)) .nil))))), ?_⟩
        refine D_wr3 rfl rfl rfl ?_ ?_ ?_
        · refine (.go (E' := [(16, _), (11, _), (9, _), (4, _)]) rfl (.plain rfl) (w_callM rfl rfl rfl (fun o' => (by repeat first | exact .head | apply SetAt.tail)) (fun w hg => place_c bp bm es clk t ps k u hk hu w (hP.good' hg) hc (hg.own (bm, _) (by repeat first | exact mH | apply mT)))) rfl ?_)
          rintro _ _ ⟨_, rfl, rfl, es1, clk1, rfl, hc1⟩
          refine ⟨(.cons rfl (.plain rfl) (r_loadB ag3 rfl rfl (own_cell hbp _) (by simp only [Vc.add_block, List.mem_singleton]; assumption)) (.cons rfl (.plain rfl) (r_load ag3 rfl rfl (by repeat first | exact mH | apply mT) rfl) (.cons rfl (.plain rfl) (r_loadB ag3 rfl rfl (own_cell hbp _) (by simp only [Vc.add_block, List.mem_singleton]; assumption)) (.cons rfl (.plain rfl) (r_loadB ag3 rfl rfl (own_cell hbp _) (by simp only [Vc.add_block, List.mem_singleton]; assumption)) .nil)))), ?_⟩
          refine D_wr2 rfl ?_ ?_
          · refine (.go (E' := [(16, _), (11, _), (9, _), (4, _)]) rfl (.plain rfl) (w_alloc zr103 rfl) rfl ?_)
            rintro _ _ ⟨b3, hb3, rfl, rfl⟩
            refine ⟨(.cons rfl (.plain rfl) (r_loadB ag3 rfl rfl (own_cell hbp _) (by simp only [Vc.add_block, List.mem_singleton]; assumption)) (.cons rfl (.plain rfl) (r_load ag3 rfl rfl (by repeat first | exact mH | apply mT) rfl) (.cons rfl (.plain rfl) (r_loadB ag3 rfl rfl (own_cell hbp _) (by simp only [Vc.add_block, List.mem_singleton]; assumption)) (.cons rfl (.plain rfl) (r_loadB ag3 rfl rfl (own_cell hbp _) (by simp only [Vc.add_block, List.mem_singleton]; assumption)) .nil)))), ?_⟩
            refine D_wr (.go (E' := [(16, _), (11, _), (9, _), (4, _)]) rfl (.plain rfl) (w_alloc zr103 rfl) rfl ?_)
            rintro _ _ ⟨b4, hb4, rfl, rfl⟩
            refine ⟨(.cons rfl (.plain rfl) (r_loadB ag3 rfl rfl (own_cell hbp _) (by simp only [Vc.add_block, List.mem_singleton]; assumption)) (.cons rfl (.plain rfl) (r_load ag3 rfl rfl (by repeat first | exact mH | apply mT) rfl) (.cons rfl (.plain rfl) (r_loadB ag3 rfl rfl (own_cell hbp _) (by simp only [Vc.add_block, List.mem_singleton]; assumption)) (.cons rfl (.plain rfl) (r_loadB ag3 rfl rfl (own_cell hbp _) (by simp only [Vc.add_block, List.mem_singleton]; assumption)) .nil)))), ?_⟩
            refine D_wr (.go (E' := []) rfl (.plain rfl) (w_store (cs' := [_, _]) sz103 rfl rfl rfl rfl rfl (by repeat first | exact .head | apply SetAt.tail) (Nat.le_of_ble_eq_true rfl) rfl) rfl ?_)
            rintro _ _ ⟨rfl, rfl⟩
            refine ⟨.nil, ?_⟩
            refine D_wr (.go (E' := []) rfl (.plain rfl) (w_store (cs' := [_, _]) sz103 rfl rfl rfl rfl rfl (by repeat first | exact .head | apply SetAt.tail) (Nat.le_of_ble_eq_true rfl) rfl) rfl ?_)
            rintro _ _ ⟨rfl, rfl⟩
            refine ⟨.nil, ?_⟩
            refine D_then (.cons (k := 0) rfl (.cons (k := 3) rfl (.cons (k := 4) rfl (.cons (k := 6) rfl (.cons (k := 7) rfl .nil))))) ?_
            refine ⟨(b3, b4, es1, clk1), hc1, (.cons rfl (.cons rfl (.cons rfl (.cons rfl (.cons rfl (.nil _)))))), (by (try dsimp only); repeat (first | exact HSub.nil _ | refine HSub.take (by repeat first | exact Take.head | apply Take.tail) ?_ | exact HSub.refl _ | refine HSub.drop ?_ | refine HSub.app ?_)), rfl⟩
          · refine (.go (E' := [(16, _), (11, _), (9, _), (4, _)]) rfl (.plain rfl) (w_alloc zr103 rfl) rfl ?_)
            rintro _ _ ⟨b3, hb3, rfl, rfl⟩
            refine ⟨(.cons rfl (.plain rfl) (r_loadB ag3 rfl rfl (own_cell hbp _) (by simp only [Vc.add_block, List.mem_singleton]; assumption)) (.cons rfl (.plain rfl) (r_load ag3 rfl rfl (by repeat first | exact mH | apply mT) rfl) (.cons rfl (.plain rfl) (r_loadB ag3 rfl rfl (own_cell hbp _) (by simp only [Vc.add_block, List.mem_singleton]; assumption)) (.cons rfl (.plain rfl) (r_loadB ag3 rfl rfl (own_cell hbp _) (by simp only [Vc.add_block, List.mem_singleton]; assumption)) .nil)))), ?_⟩
            refine D_wr (.go (E' := [(16, _), (11, _), (9, _), (4, _)]) rfl (.plain rfl) (w_alloc zr103 rfl) rfl ?_)
            rintro _ _ ⟨b4, hb4, rfl, rfl⟩
            refine ⟨(.cons rfl (.plain rfl) (r_loadB ag3 rfl rfl (own_cell hbp _) (by simp only [Vc.add_block, List.mem_singleton]; assumption)) (.cons rfl (.plain rfl) (r_load ag3 rfl rfl (by repeat first | exact mH | apply mT) rfl) (.cons rfl (.plain rfl) (r_loadB ag3 rfl rfl (own_cell hbp _) (by simp only [Vc.add_block, List.mem_singleton]; assumption)) (.cons rfl (.plain rfl) (r_loadB ag3 rfl rfl (own_cell hbp _) (by simp only [Vc.add_block, List.mem_singleton]; assumption)) .nil)))), ?_⟩
            refine D_wr (.go (E' := []) rfl (.plain rfl) (w_store (cs' := [_, _]) sz103 rfl rfl rfl rfl rfl (by repeat first | exact .head | apply SetAt.tail) (Nat.le_of_ble_eq_true rfl) rfl) rfl ?_)
            rintro _ _ ⟨rfl, rfl⟩
            refine ⟨.nil, ?_⟩
            refine D_wr (.go (E' := []) rfl (.plain rfl) (w_store (cs' := [_, _]) sz103 rfl rfl rfl rfl rfl (by repeat first | exact .head | apply SetAt.tail) (Nat.le_of_ble_eq_true rfl) rfl) rfl ?_)
            rintro _ _ ⟨rfl, rfl⟩
            refine ⟨.nil, ?_⟩
            refine D_then (.cons (k := 0) rfl (.cons (k := 3) rfl (.cons (k := 4) rfl (.cons (k := 6) rfl (.cons (k := 7) rfl .nil))))) ?_
            refine ⟨(b4, b3, es1, clk1), hc1, (.cons rfl (.cons rfl (.cons rfl (.cons rfl (.cons rfl (.nil _)))))), (by (try dsimp only); repeat (first | exact HSub.nil _ | refine HSub.take (by repeat first | exact Take.head | apply Take.tail) ?_ | exact HSub.refl _ | refine HSub.drop ?_ | refine HSub.app ?_)), rfl⟩
        · refine (.go (E' := [(23, _), (16, _), (11, _), (9, _), (4, _)]) rfl (.plain rfl) (w_alloc zr103 rfl) rfl ?_)
          rintro _ _ ⟨b3, hb3, rfl, rfl⟩
          refine ⟨(.cons rfl (.plain rfl) (r_loadA (vs := [_, _]) ag125 sz125 rfl rfl (by repeat first | exact mH | apply mT) rfl) (.cons rfl (.plain rfl) (r_loadB ag3 rfl rfl (own_cell hbp _) (by simp only [Vc.add_block, List.mem_singleton]; assumption)) (.cons rfl (.plain rfl) (r_load ag3 rfl rfl (by repeat first | exact mH | apply mT) rfl) (.cons rfl (.plain rfl) (r_loadB ag3 rfl rfl (own_cell hbp _) (by simp only [Vc.add_block, List.mem_singleton]; assumption)) (.cons rfl (.plain rfl) (r_loadB ag3 rfl rfl (own_cell hbp _) (by simp only [Vc.add_block, List.mem_singleton]; assumption)) .nil))))), ?_⟩
          refine D_wr2 rfl ?_ ?_
          · refine (.go (E' := [(16, _), (11, _), (9, _), (4, _)]) rfl (.plain rfl) (w_callM rfl rfl rfl (fun o' => (by repeat first | exact .head | apply SetAt.tail)) (fun w hg => place_c bp bm es clk t ps k u hk hu w (hP.good' hg) hc (hg.own (bm, _) (by repeat first | exact mH | apply mT)))) rfl ?_)
            rintro _ _ ⟨_, rfl, rfl, es1, clk1, rfl, hc1⟩
            refine ⟨(.cons rfl (.plain rfl) (r_loadB ag3 rfl rfl (own_cell hbp _) (by simp only [Vc.add_block, List.mem_singleton]; assumption)) (.cons rfl (.plain rfl) (r_load ag3 rfl rfl (by repeat first | exact mH | apply mT) rfl) (.cons rfl (.plain rfl) (r_loadB ag3 rfl rfl (own_cell hbp _) (by simp only [Vc.add_block, List.mem_singleton]; assumption)) (.cons rfl (.plain rfl) (r_loadB ag3 rfl rfl (own_cell hbp _) (by simp only [Vc.add_block, List.mem_singleton]; assumption)) .nil)))), ?_⟩
            refine D_wr (.go (E' := [(16, _), (11, _), (9, _), (4, _)]) rfl (.plain rfl) (w_alloc zr103 rfl) rfl ?_)
            rintro _ _ ⟨b4, hb4, rfl, rfl⟩
            refine ⟨(.cons rfl (.plain rfl) (r_loadB ag3 rfl rfl (own_cell hbp _) (by simp only [Vc.add_block, List.mem_singleton]; assumption)) (.cons rfl (.plain rfl) (r_load ag3 rfl rfl (by repeat first | exact mH | apply mT) rfl) (.cons rfl (.plain rfl) (r_loadB ag3 rfl rfl (own_cell hbp _) (by simp only [Vc.add_block, List.mem_singleton]; assumption)) (.cons rfl (.plain rfl) (r_loadB ag3 rfl rfl (own_cell hbp _) (by simp only [Vc.add_block, List.mem_singleton]; assumption)) .nil)))), ?_⟩
            refine D_wr (.go (E' := []) rfl (.plain rfl) (w_store (cs' := [_, _]) sz103 rfl rfl rfl rfl rfl (by repeat first | exact .head | apply SetAt.tail) (Nat.le_of_ble_eq_true rfl) rfl) rfl ?_)
            rintro _ _ ⟨rfl, rfl⟩
            refine ⟨.nil, ?_⟩
            refine D_wr (.go (E' := []) rfl (.plain rfl) (w_store (cs' := [_, _]) sz103 rfl rfl rfl rfl rfl (by repeat first | exact .head | apply SetAt.tail) (Nat.le_of_ble_eq_true rfl) rfl) rfl ?_)
            rintro _ _ ⟨rfl, rfl⟩
            refine ⟨.nil, ?_⟩
            refine D_then (.cons (k := 0) rfl (.cons (k := 3) rfl (.cons (k := 4) rfl (.cons (k := 6) rfl (.cons (k := 7) rfl .nil))))) ?_
            refine ⟨(b3, b4, es1, clk1), hc1, (.cons rfl (.cons rfl (.cons rfl (.cons rfl (.cons rfl (.nil _)))))), (by (try dsimp only); repeat (first | exact HSub.nil _ | refine HSub.take (by repeat first | exact Take.head | apply Take.tail) ?_ | exact HSub.refl _ | refine HSub.drop ?_ | refine HSub.app ?_)), rfl⟩
          · refine (.go (E' := [(23, _), (16, _), (11, _), (9, _), (4, _)]) rfl (.plain rfl) (w_alloc zr103 rfl) rfl ?_)
            rintro _ _ ⟨b4, hb4, rfl, rfl⟩
            refine ⟨(.cons rfl (.plain rfl) (r_loadA (vs := [_, _]) ag125 sz125 rfl rfl (by repeat first | exact mH | apply mT) rfl) (.cons rfl (.plain rfl) (r_loadB ag3 rfl rfl (own_cell hbp _) (by simp only [Vc.add_block, List.mem_singleton]; assumption)) (.cons rfl (.plain rfl) (r_load ag3 rfl rfl (by repeat first | exact mH | apply mT) rfl) (.cons rfl (.plain rfl) (r_loadB ag3 rfl rfl (own_cell hbp _) (by simp only [Vc.add_block, List.mem_singleton]; assumption)) (.cons rfl (.plain rfl) (r_loadB ag3 rfl rfl (own_cell hbp _) (by simp only [Vc.add_block, List.mem_singleton]; assumption)) .nil))))), ?_⟩
            refine D_wr (.go (E' := [(16, _), (11, _), (9, _), (4, _)]) rfl (.plain rfl) (w_callM rfl rfl rfl (fun o' => (by repeat first | exact .head | apply SetAt.tail)) (fun w hg => place_c bp bm es clk t ps k u hk hu w (hP.good' hg) hc (hg.own (bm, _) (by repeat first | exact mH | apply mT)))) rfl ?_)
            rintro _ _ ⟨_, rfl, rfl, es1, clk1, rfl, hc1⟩
            refine ⟨(.cons rfl (.plain rfl) (r_loadB ag3 rfl rfl (own_cell hbp _) (by simp only [Vc.add_block, List.mem_singleton]; assumption)) (.cons rfl (.plain rfl) (r_load ag3 rfl rfl (by repeat first | exact mH | apply mT) rfl) (.cons rfl (.plain rfl) (r_loadB ag3 rfl rfl (own_cell hbp _) (by simp only [Vc.add_block, List.mem_singleton]; assumption)) (.cons rfl (.plain rfl) (r_loadB ag3 rfl rfl (own_cell hbp _) (by simp only [Vc.add_block, List.mem_singleton]; assumption)) .nil)))), ?_⟩
            refine D_wr (.go (E' := []) rfl (.plain rfl) (w_store (cs' := [_, _]) sz103 rfl rfl rfl rfl rfl (by repeat first | exact .head | apply SetAt.tail) (Nat.le_of_ble_eq_true rfl) rfl) rfl ?_)
            rintro _ _ ⟨rfl, rfl⟩
            refine ⟨.nil, ?_⟩
            refine D_wr (.go (E' := []) rfl (.plain rfl) (w_store (cs' := [_, _]) sz103 rfl rfl rfl rfl rfl (by repeat first | exact .head | apply SetAt.tail) (Nat.le_of_ble_eq_true rfl) rfl) rfl ?_)
            rintro _ _ ⟨rfl, rfl⟩
            refine ⟨.nil, ?_⟩
            refine D_then (.cons (k := 0) rfl (.cons (k := 3) rfl (.cons (k := 4) rfl (.cons (k := 6) rfl (.cons (k := 7) rfl .nil))))) ?_
            refine ⟨(b3, b4, es1, clk1), hc1, (.cons rfl (.cons rfl (.cons rfl (.cons rfl (.cons rfl (.nil _)))))), (by (try dsimp only); repeat (first | exact HSub.nil _ | refine HSub.take (by repeat first | exact Take.head | apply Take.tail) ?_ | exact HSub.refl _ | refine HSub.drop ?_ | refine HSub.app ?_)), rfl⟩
        · refine (.go (E' := [(23, _), (16, _), (11, _), (9, _), (4, _)]) rfl (.plain rfl) (w_alloc zr103 rfl) rfl ?_)
          rintro _ _ ⟨b3, hb3, rfl, rfl⟩
          refine ⟨(.cons rfl (.plain rfl) (r_loadA (vs := [_, _]) ag125 sz125 rfl rfl (by repeat first | exact mH | apply mT) rfl) (.cons rfl (.plain rfl) (r_loadB ag3 rfl rfl (own_cell hbp _) (by simp only [Vc.add_block, List.mem_singleton]; assumption)) (.cons rfl (.plain rfl) (r_load ag3 rfl rfl (by repeat first | exact mH | apply mT) rfl) (.cons rfl (.plain rfl) (r_loadB ag3 rfl rfl (own_cell hbp _) (by simp only [Vc.add_block, List.mem_singleton]; assumption)) (.cons rfl (.plain rfl) (r_loadB ag3 rfl rfl (own_cell hbp _) (by simp only [Vc.add_block, List.mem_singleton]; assumption)) .nil))))), ?_⟩
          refine D_wr2 rfl ?_ ?_
          · refine (.go (E' := [(16, _), (11, _), (9, _), (4, _)]) rfl (.plain rfl) (w_callM rfl rfl rfl (fun o' => (by repeat first | exact .head | apply SetAt.tail)) (fun w hg => place_c bp bm es clk t ps k u hk hu w (hP.good' hg) hc (hg.own (bm, _) (by repeat first | exact mH | apply mT)))) rfl ?_)
            rintro _ _ ⟨_, rfl, rfl, es1, clk1, rfl, hc1⟩
            refine ⟨(.cons rfl (.plain rfl) (r_loadB ag3 rfl rfl (own_cell hbp _) (by simp only [Vc.add_block, List.mem_singleton]; assumption)) (.cons rfl (.plain rfl) (r_load ag3 rfl rfl (by repeat first | exact mH | apply mT) rfl) (.cons rfl (.plain rfl) (r_loadB ag3 rfl rfl (own_cell hbp _) (by simp only [Vc.add_block, List.mem_singleton]; assumption)) (.cons rfl (.plain rfl) (r_loadB ag3 rfl rfl (own_cell hbp _) (by simp only [Vc.add_block, List.mem_singleton]; assumption)) .nil)))), ?_⟩
            refine D_wr (.go (E' := [(16, _), (11, _), (9, _), (4, _)]) rfl (.plain rfl) (w_alloc zr103 rfl) rfl ?_)
            rintro _ _ ⟨b4, hb4, rfl, rfl⟩
            refine ⟨(.cons rfl (.plain rfl) (r_loadB ag3 rfl rfl (own_cell hbp _) (by simp only [Vc.add_block, List.mem_singleton]; assumption)) (.cons rfl (.plain rfl) (r_load ag3 rfl rfl (by repeat first | exact mH | apply mT) rfl) (.cons rfl (.plain rfl) (r_loadB ag3 rfl rfl (own_cell hbp _) (by simp only [Vc.add_block, List.mem_singleton]; assumption)) (.cons rfl (.plain rfl) (r_loadB ag3 rfl rfl (own_cell hbp _) (by simp only [Vc.add_block, List.mem_singleton]; assumption)) .nil)))), ?_⟩
            refine D_wr (.go (E' := []) rfl (.plain rfl) (w_store (cs' := [_, _]) sz103 rfl rfl rfl rfl rfl (by repeat first | exact .head | apply SetAt.tail) (Nat.le_of_ble_eq_true rfl) rfl) rfl ?_)
            rintro _ _ ⟨rfl, rfl⟩
            refine ⟨.nil, ?_⟩
            refine D_wr (.go (E' := []) rfl (.plain rfl) (w_store (cs' := [_, _]) sz103 rfl rfl rfl rfl rfl (by repeat first | exact .head | apply SetAt.tail) (Nat.le_of_ble_eq_true rfl) rfl) rfl ?_)
            rintro _ _ ⟨rfl, rfl⟩
            refine ⟨.nil, ?_⟩
            refine D_then (.cons (k := 0) rfl (.cons (k := 3) rfl (.cons (k := 4) rfl (.cons (k := 6) rfl (.cons (k := 7) rfl .nil))))) ?_
            refine ⟨(b4, b3, es1, clk1), hc1, (.cons rfl (.cons rfl (.cons rfl (.cons rfl (.cons rfl (.nil _)))))), (by (try dsimp only); repeat (first | exact HSub.nil _ | refine HSub.take (by repeat first | exact Take.head | apply Take.tail) ?_ | exact HSub.refl _ | refine HSub.drop ?_ | refine HSub.app ?_)), rfl⟩
          · refine (.go (E' := [(23, _), (16, _), (11, _), (9, _), (4, _)]) rfl (.plain rfl) (w_alloc zr103 rfl) rfl ?_)
            rintro _ _ ⟨b4, hb4, rfl, rfl⟩
            refine ⟨(.cons rfl (.plain rfl) (r_loadA (vs := [_, _]) ag125 sz125 rfl rfl (by repeat first | exact mH | apply mT) rfl) (.cons rfl (.plain rfl) (r_loadB ag3 rfl rfl (own_cell hbp _) (by simp only [Vc.add_block, List.mem_singleton]; assumption)) (.cons rfl (.plain rfl) (r_load ag3 rfl rfl (by repeat first | exact mH | apply mT) rfl) (.cons rfl (.plain rfl) (r_loadB ag3 rfl rfl (own_cell hbp _) (by simp only [Vc.add_block, List.mem_singleton]; assumption)) (.cons rfl (.plain rfl) (r_loadB ag3 rfl rfl (own_cell hbp _) (by simp only [Vc.add_block, List.mem_singleton]; assumption)) .nil))))), ?_⟩
            refine D_wr (.go (E' := [(16, _), (11, _), (9, _), (4, _)]) rfl (.plain rfl) (w_callM rfl rfl rfl (fun o' => (by repeat first | exact .head | apply SetAt.tail)) (fun w hg => place_c bp bm es clk t ps k u hk hu w (hP.good' hg) hc (hg.own (bm, _) (by repeat first | exact mH | apply mT)))) rfl ?_)
            rintro _ _ ⟨_, rfl, rfl, es1, clk1, rfl, hc1⟩
            refine ⟨(.cons rfl (.plain rfl) (r_loadB ag3 rfl rfl (own_cell hbp _) (by simp only [Vc.add_block, List.mem_singleton]; assumption)) (.cons rfl (.plain rfl) (r_load ag3 rfl rfl (by repeat first | exact mH | apply mT) rfl) (.cons rfl (.plain rfl) (r_loadB ag3 rfl rfl (own_cell hbp _) (by simp only [Vc.add_block, List.mem_singleton]; assumption)) (.cons rfl (.plain rfl) (r_loadB ag3 rfl rfl (own_cell hbp _) (by simp only [Vc.add_block, List.mem_singleton]; assumption)) .nil)))), ?_⟩
            refine D_wr (.go (E' := []) rfl (.plain rfl) (w_store (cs' := [_, _]) sz103 rfl rfl rfl rfl rfl (by repeat first | exact .head | apply SetAt.tail) (Nat.le_of_ble_eq_true rfl) rfl) rfl ?_)
            rintro _ _ ⟨rfl, rfl⟩
            refine ⟨.nil, ?_⟩
            refine D_wr (.go (E' := []) rfl (.plain rfl) (w_store (cs' := [_, _]) sz103 rfl rfl rfl rfl rfl (by repeat first | exact .head | apply SetAt.tail) (Nat.le_of_ble_eq_true rfl) rfl) rfl ?_)
            rintro _ _ ⟨rfl, rfl⟩
            refine ⟨.nil, ?_⟩
            refine D_then (.cons (k := 0) rfl (.cons (k := 3) rfl (.cons (k := 4) rfl (.cons (k := 6) rfl (.cons (k := 7) rfl .nil))))) ?_
            refine ⟨(b4, b3, es1, clk1), hc1, (.cons rfl (.cons rfl (.cons rfl (.cons rfl (.cons rfl (.nil _)))))), (by (try dsimp only); repeat (first | exact HSub.nil _ | refine HSub.take (by repeat first | exact Take.head | apply Take.tail) ?_ | exact HSub.refl _ | refine HSub.drop ?_ | refine HSub.app ?_)), rfl⟩
      · refine (.go (E' := [(23, _), (16, _), (11, _), (9, _), (4, _)]) rfl (.plain rfl) (w_alloc zr103 rfl) rfl ?_)
        rintro _ _ ⟨b3, hb3, rfl, rfl⟩
        refine ⟨(.cons rfl (.plain rfl) (r_loadA (vs := [_, _]) ag125 sz125 rfl rfl (by repeat first | exact mH | apply mT) rfl) (.cons rfl (.plain rfl) (r_loadB ag3 rfl rfl (own_cell hbp _) (by simp only [Vc.add_block, List.mem_singleton]; assumption)) (.cons rfl (.plain rfl) (r_load ag3 rfl rfl (by repeat first | exact mH | apply mT) rfl) (.cons rfl (.plain rfl) (r_loadB ag3 rfl rfl (own_cell hbp _) (by simp only [Vc.add_block, List.mem_singleton]; assumption)) (.cons rfl (.plain rfl) (r_loadB ag3 rfl rfl (own_cell hbp _) (by simp only [Vc.add_block, List.mem_singleton]; assumption)) .nil))))), ?_⟩
        refine D_wr2 rfl ?_ ?_
        · refine (.go (E' := [(23, _), (16, _), (11, _), (9, _), (4, _)]) rfl (.plain rfl) (w_callP rfl rfl rfl (fun w hg => around_c _ (by omega) w)) rfl ?_)
          rintro _ _ ⟨rfl, rfl⟩
          refine ⟨(.cons rfl (.plain rfl) (r_loadA (vs := [_, _]) ag125 sz125 rfl rfl (by repeat first | exact mH | apply mT) rfl) (.cons rfl (.plain rfl) (r_loadB ag3 rfl rfl (own_cell hbp _) (by simp only [Vc.add_block, List.mem_singleton]; assumption)) (.cons rfl (.plain rfl) (r_load ag3 rfl rfl (by repeat first | exact mH | apply mT) rfl) (.cons rfl (.plain rfl) (r_loadB ag3 rfl rfl (own_cell hbp _) (by simp only [Vc.add_block, List.mem_singleton]; assumption)) (.cons rfl (.plain rfl) (r_loadB ag3 rfl rfl (own_cell hbp _) (by simp only [Vc.add_block, List.mem_singleton]; assumption)) .nil))))), ?_⟩
          refine D_wr2 rfl ?_ ?_
          · refine (.go (E' := [(16, _), (11, _), (9, _), (4, _)]) rfl (.plain rfl) (w_callM rfl rfl rfl (fun o' => (by repeat first | exact .head | apply SetAt.tail)) (fun w hg => place_c bp bm es clk t ps k u hk hu w (hP.good' hg) hc (hg.own (bm, _) (by repeat first | exact mH | apply mT)))) rfl ?_)
            rintro _ _ ⟨_, rfl, rfl, es1, clk1, rfl, hc1⟩
            refine ⟨(.cons rfl (.plain rfl) (r_loadB ag3 rfl rfl (own_cell hbp _) (by simp only [Vc.add_block, List.mem_singleton]; assumption)) (.cons rfl (.plain rfl) (r_load ag3 rfl rfl (by repeat first | exact mH | apply mT) rfl) (.cons rfl (.plain rfl) (r_loadB ag3 rfl rfl (own_cell hbp _) (by simp only [Vc.add_block, List.mem_singleton]; assumption)) (.cons rfl (.plain rfl) (r_loadB ag3 rfl rfl (own_cell hbp _) (by simp only [Vc.add_block, List.mem_singleton]; assumption)) .nil)))), ?_⟩
            refine D_wr (.go (E' := [(16, _), (11, _), (9, _), (4, _)]) rfl (.plain rfl) (w_alloc zr103 rfl) rfl ?_)
            rintro _ _ ⟨b4, hb4, rfl, rfl⟩
            refine ⟨(.cons rfl (.plain rfl) (r_loadB ag3 rfl rfl (own_cell hbp _) (by simp only [Vc.add_block, List.mem_singleton]; assumption)) (.cons rfl (.plain rfl) (r_load ag3 rfl rfl (by repeat first | exact mH | apply mT) rfl) (.cons rfl (.plain rfl) (r_loadB ag3 rfl rfl (own_cell hbp _) (by simp only [Vc.add_block, List.mem_singleton]; assumption)) (.cons rfl (.plain rfl) (r_loadB ag3 rfl rfl (own_cell hbp _) (by simp only [Vc.add_block, List.mem_singleton]; assumption)) .nil)))), ?_⟩
            refine D_wr (.go (E' := []) rfl (.plain rfl) (w_store (cs' := [_, _]) sz103 rfl rfl rfl rfl rfl (by repeat first | exact .head | apply SetAt.tail) (Nat.le_of_ble_eq_true rfl) rfl) rfl ?_)
            rintro _ _ ⟨rfl, rfl⟩
            refine ⟨.nil, ?_⟩
            refine D_wr (.go (E' := []) rfl (.plain rfl) (w_store (cs' := [_, _]) sz103 rfl rfl rfl rfl rfl (by repeat first | exact .head | apply SetAt.tail) (Nat.le_of_ble_eq_true rfl) rfl) rfl ?_)
            rintro _ _ ⟨rfl, rfl⟩
            refine ⟨.nil, ?_⟩
            refine D_then (.cons (k := 0) rfl (.cons (k := 3) rfl (.cons (k := 4) rfl (.cons (k := 6) rfl (.cons (k := 7) rfl .nil))))) ?_
            refine ⟨(b3, b4, es1, clk1), hc1, (.cons rfl (.cons rfl (.cons rfl (.cons rfl (.cons rfl (.nil _)))))), (by (try dsimp only); repeat (first | exact HSub.nil _ | refine HSub.take (by repeat first | exact Take.head | apply Take.tail) ?_ | exact HSub.refl _ | refine HSub.drop ?_ | refine HSub.app ?_)), rfl⟩
          · refine (.go (E' := [(23, _), (16, _), (11, _), (9, _), (4, _)]) rfl (.plain rfl) (w_alloc zr103 rfl) rfl ?_)
            rintro _ _ ⟨b4, hb4, rfl, rfl⟩
            refine ⟨(.cons rfl (.plain rfl) (r_loadA (vs := [_, _]) ag125 sz125 rfl rfl (by repeat first | exact mH | apply mT) rfl) (.cons rfl (.plain rfl) (r_loadB ag3 rfl rfl (own_cell hbp _) (by simp only [Vc.add_block, List.mem_singleton]; assumption)) (.cons rfl (.plain rfl) (r_load ag3 rfl rfl (by repeat first | exact mH | apply mT) rfl) (.cons rfl (.plain rfl) (r_loadB ag3 rfl rfl (own_cell hbp _) (by simp only [Vc.add_block, List.mem_singleton]; assumption)) (.cons rfl (.plain rfl) (r_loadB ag3 rfl rfl (own_cell hbp _) (by simp only [Vc.add_block, List.mem_singleton]; assumption)) .nil))))), ?_⟩
            refine D_wr (.go (E' := [(16, _), (11, _), (9, _), (4, _)]) rfl (.plain rfl) (w_callM rfl rfl rfl (fun o' => (by repeat first | exact .head | apply SetAt.tail)) (fun w hg => place_c bp bm es clk t ps k u hk hu w (hP.good' hg) hc (hg.own (bm, _) (by repeat first | exact mH | apply mT)))) rfl ?_)
            rintro _ _ ⟨_, rfl, rfl, es1, clk1, rfl, hc1⟩
            refine ⟨(.cons rfl (.plain rfl) (r_loadB ag3 rfl rfl (own_cell hbp _) (by simp only [Vc.add_block, List.mem_singleton]; assumption)) (.cons rfl (.plain rfl) (r_load ag3 rfl rfl (by repeat first | exact mH | apply mT) rfl) (.cons rfl (.plain rfl) (r_loadB ag3 rfl rfl (own_cell hbp _) (by simp only [Vc.add_block, List.mem_singleton]; assumption)) (.cons rfl (.plain rfl) (r_loadB ag3 rfl rfl (own_cell hbp _) (by simp only [Vc.add_block, List.mem_singleton]; assumption)) .nil)))), ?_⟩
            refine D_wr (.go (E' := []) rfl (.plain rfl) (w_store (cs' := [_, _]) sz103 rfl rfl rfl rfl rfl (by repeat first | exact .head | apply SetAt.tail) (Nat.le_of_ble_eq_true rfl) rfl) rfl ?_)
            rintro _ _ ⟨rfl, rfl⟩
            refine ⟨.nil, ?_⟩
            refine D_wr (.go (E' := []) rfl (.plain rfl) (w_store (cs' := [_, _]) sz103 rfl rfl rfl rfl rfl (by repeat first | exact .head | apply SetAt.tail) (Nat.le_of_ble_eq_true rfl) rfl) rfl ?_)
            rintro _ _ ⟨rfl, rfl⟩
            refine ⟨.nil, ?_⟩
            refine D_then (.cons (k := 0) rfl (.cons (k := 3) rfl (.cons (k := 4) rfl (.cons (k := 6) rfl (.cons (k := 7) rfl .nil))))) ?_
            refine ⟨(b3, b4, es1, clk1), hc1, (.cons rfl (.cons rfl (.cons rfl (.cons rfl (.cons rfl (.nil _)))))), (by (try dsimp only); repeat (first | exact HSub.nil _ | refine HSub.take (by repeat first | exact Take.head | apply Take.tail) ?_ | exact HSub.refl _ | refine HSub.drop ?_ | refine HSub.app ?_)), rfl⟩
        · refine (.go (E' := [(23, _), (16, _), (11, _), (9, _), (4, _)]) rfl (.plain rfl) (w_alloc zr103 rfl) rfl ?_)
          rintro _ _ ⟨b4, hb4, rfl, rfl⟩
          refine ⟨(.cons rfl (.plain rfl) (r_loadA (vs := [_, _]) ag125 sz125 rfl rfl (by repeat first | exact mH | apply mT) rfl) (.cons rfl (.plain rfl) (r_loadB ag3 rfl rfl (own_cell hbp _) (by simp only [Vc.add_block, List.mem_singleton]; assumption)) (.cons rfl (.plain rfl) (r_load ag3 rfl rfl (by repeat first | exact mH | apply mT) rfl) (.cons rfl (.plain rfl) (r_loadB ag3 rfl rfl (own_cell hbp _) (by simp only [Vc.add_block, List.mem_singleton]; assumption)) (.cons rfl (.plain rfl) (r_loadB ag3 rfl rfl (own_cell hbp _) (by simp only [Vc.add_block, List.mem_singleton]; assumption)) .nil))))), ?_⟩
          refine D_wr (.go (E' := [(23, _), (16, _), (11, _), (9, _), (4, _)]) rfl (.plain rfl) (w_callP rfl rfl rfl (fun w hg => around_c _ (by omega) w)) rfl ?_)
          rintro _ _ ⟨rfl, rfl⟩
          refine ⟨(.cons rfl (.plain rfl) (r_loadA (vs := [_, _]) ag125 sz125 rfl rfl (by repeat first | exact mH | apply mT) rfl) (.cons rfl (.plain rfl) (r_loadB ag3 rfl rfl (own_cell hbp _) (by simp only [Vc.add_block, List.mem_singleton]; assumption)) (.cons rfl (.plain rfl) (r_load ag3 rfl rfl (by repeat first | exact mH | apply mT) rfl) (.cons rfl (.plain rfl) (r_loadB ag3 rfl rfl (own_cell hbp _) (by simp only [Vc.add_block, List.mem_singleton]; assumption)) (.cons rfl (.plain rfl) (r_loadB ag3 rfl rfl (own_cell hbp _) (by simp only [Vc.add_block, List.mem_singleton]; assumption)) .nil))))), ?_⟩
          refine D_wr (.go (E' := [(16, _), (11, _), (9, _), (4, _)]) rfl (.plain rfl) (w_callM rfl rfl rfl (fun o' => (by repeat first | exact .head | apply SetAt.tail)) (fun w hg => place_c bp bm es clk t ps k u hk hu w (hP.good' hg) hc (hg.own (bm, _) (by repeat first | exact mH | apply mT)))) rfl ?_)
          rintro _ _ ⟨_, rfl, rfl, es1, clk1, rfl, hc1⟩
          refine ⟨(.cons rfl (.plain rfl) (r_loadB ag3 rfl rfl (own_cell hbp _) (by simp only [Vc.add_block, List.mem_singleton]; assumption)) (.cons rfl (.plain rfl) (r_load ag3 rfl rfl (by repeat first | exact mH | apply mT) rfl) (.cons rfl (.plain rfl) (r_loadB ag3 rfl rfl (own_cell hbp _) (by simp only [Vc.add_block, List.mem_singleton]; assumption)) (.cons rfl (.plain rfl) (r_loadB ag3 rfl rfl (own_cell hbp _) (by simp only [Vc.add_block, List.mem_singleton]; assumption)) .nil)))), ?_⟩
          refine D_wr (.go (E' := []) rfl (.plain rfl) (w_store (cs' := [_, _]) sz103 rfl rfl rfl rfl rfl (by repeat first | exact .head | apply SetAt.tail) (Nat.le_of_ble_eq_true rfl) rfl) rfl ?_)
          rintro _ _ ⟨rfl, rfl⟩
          refine ⟨.nil, ?_⟩
          refine D_wr (.go (E' := []) rfl (.plain rfl) (w_store (cs' := [_, _]) sz103 rfl rfl rfl rfl rfl (by repeat first | exact .head | apply SetAt.tail) (Nat.le_of_ble_eq_true rfl) rfl) rfl ?_)
          rintro _ _ ⟨rfl, rfl⟩
          refine ⟨.nil, ?_⟩
          refine D_then (.cons (k := 0) rfl (.cons (k := 3) rfl (.cons (k := 4) rfl (.cons (k := 6) rfl (.cons (k := 7) rfl .nil))))) ?_
          refine ⟨(b3, b4, es1, clk1), hc1, (.cons rfl (.cons rfl (.cons rfl (.cons rfl (.cons rfl (.nil _)))))), (by (try dsimp only); repeat (first | exact HSub.nil _ | refine HSub.take (by repeat first | exact Take.head | apply Take.tail) ?_ | exact HSub.refl _ | refine HSub.drop ?_ | refine HSub.app ?_)), rfl⟩
      · refine (.go (E' := [(23, _), (16, _), (11, _), (9, _), (4, _)]) rfl (.plain rfl) (w_alloc zr103 rfl) rfl ?_)
        rintro _ _ ⟨b3, hb3, rfl, rfl⟩
        refine ⟨(.cons rfl (.plain rfl) (r_loadA (vs := [_, _]) ag125 sz125 rfl rfl (by repeat first | exact mH | apply mT) rfl) (.cons rfl (.plain rfl) (r_loadB ag3 rfl rfl (own_cell hbp _) (by simp only [Vc.add_block, List.mem_singleton]; assumption)) (.cons rfl (.plain rfl) (r_load ag3 rfl rfl (by repeat first | exact mH | apply mT) rfl) (.cons rfl (.plain rfl) (r_loadB ag3 rfl rfl (own_cell hbp _) (by simp only [Vc.add_block, List.mem_singleton]; assumption)) (.cons rfl (.plain rfl) (r_loadB ag3 rfl rfl (own_cell hbp _) (by simp only [Vc.add_block, List.mem_singleton]; assumption)) .nil))))), ?_⟩
        refine D_wr2 rfl ?_ ?_
        · refine (.go (E' := [(23, _), (16, _), (11, _), (9, _), (4, _)]) rfl (.plain rfl) (w_callP rfl rfl rfl (fun w hg => around_c _ (by omega) w)) rfl ?_)
          rintro _ _ ⟨rfl, rfl⟩
          refine ⟨(.cons rfl (.plain rfl) (r_loadA (vs := [_, _]) ag125 sz125 rfl rfl (by repeat first | exact mH | apply mT) rfl) (.cons rfl (.plain rfl) (r_loadB ag3 rfl rfl (own_cell hbp _) (by simp only [Vc.add_block, List.mem_singleton]; assumption)) (.cons rfl (.plain rfl) (r_load ag3 rfl rfl (by repeat first | exact mH | apply mT) rfl) (.cons rfl (.plain rfl) (r_loadB ag3 rfl rfl (own_cell hbp _) (by simp only [Vc.add_block, List.mem_singleton]; assumption)) (.cons rfl (.plain rfl) (r_loadB ag3 rfl rfl (own_cell hbp _) (by simp only [Vc.add_block, List.mem_singleton]; assumption)) .nil))))), ?_⟩
          refine D_wr2 rfl ?_ ?_
          · refine (.go (E' := [(16, _), (11, _), (9, _), (4, _)]) rfl (.plain rfl) (w_callM rfl rfl rfl (fun o' => (by repeat first | exact .head | apply SetAt.tail)) (fun w hg => place_c bp bm es clk t ps k u hk hu w (hP.good' hg) hc (hg.own (bm, _) (by repeat first | exact mH | apply mT)))) rfl ?_)
            rintro _ _ ⟨_, rfl, rfl, es1, clk1, rfl, hc1⟩
            refine ⟨(.cons rfl (.plain rfl) (r_loadB ag3 rfl rfl (own_cell hbp _) (by simp only [Vc.add_block, List.mem_singleton]; assumption)) (.cons rfl (.plain rfl) (r_load ag3 rfl rfl (by repeat first | exact mH | apply mT) rfl) (.cons rfl (.plain rfl) (r_loadB ag3 rfl rfl (own_cell hbp _) (by simp only [Vc.add_block, List.mem_singleton]; assumption)) (.cons rfl (.plain rfl) (r_loadB ag3 rfl rfl (own_cell hbp _) (by simp only [Vc.add_block, List.mem_singleton]; assumption)) .nil)))), ?_⟩
            refine D_wr (.go (E' := [(16, _), (11, _), (9, _), (4, _)]) rfl (.plain rfl) (w_alloc zr103 rfl) rfl ?_)
            rintro _ _ ⟨b4, hb4, rfl, rfl⟩
            refine ⟨(.cons rfl (.plain rfl) (r_loadB ag3 rfl rfl (own_cell hbp _) (by simp only [Vc.add_block, List.mem_singleton]; assumption)) (.cons rfl (.plain rfl) (r_load ag3 rfl rfl (by repeat first | exact mH | apply mT) rfl) (.cons rfl (.plain rfl) (r_loadB ag3 rfl rfl (own_cell hbp _) (by simp only [Vc.add_block, List.mem_singleton]; assumption)) (.cons rfl (.plain rfl) (r_loadB ag3 rfl rfl (own_cell hbp _) (by simp only [Vc.add_block, List.mem_singleton]; assumption)) .nil)))), ?_⟩
            refine D_wr (.go (E' := []) rfl (.plain rfl) (w_store (cs' := [_, _]) sz103 rfl rfl rfl rfl rfl (by repeat first | exact .head | apply SetAt.tail) (Nat.le_of_ble_eq_true rfl) rfl) rfl ?_)
            rintro _ _ ⟨rfl, rfl⟩
            refine ⟨.nil, ?_⟩
            refine D_wr (.go (E' := []) rfl (.plain rfl) (w_store (cs' := [_, _]) sz103 rfl rfl rfl rfl rfl (by repeat first | exact .head | apply SetAt.tail) (Nat.le_of_ble_eq_true rfl) rfl) rfl ?_)
            rintro _ _ ⟨rfl, rfl⟩
            refine ⟨.nil, ?_⟩
            refine D_then (.cons (k := 0) rfl (.cons (k := 3) rfl (.cons (k := 4) rfl (.cons (k := 6) rfl (.cons (k := 7) rfl .nil))))) ?_
            refine ⟨(b4, b3, es1, clk1), hc1, (.cons rfl (.cons rfl (.cons rfl (.cons rfl (.cons rfl (.nil _)))))), (by (try dsimp only); repeat (first | exact HSub.nil _ | refine HSub.take (by repeat first | exact Take.head | apply Take.tail) ?_ | exact HSub.refl _ | refine HSub.drop ?_ | refine HSub.app ?_)), rfl⟩
          · refine (.go (E' := [(23, _), (16, _), (11, _), (9, _), (4, _)]) rfl (.plain rfl) (w_alloc zr103 rfl) rfl ?_)
            rintro _ _ ⟨b4, hb4, rfl, rfl⟩
            refine ⟨(.cons rfl (.plain rfl) (r_loadA (vs := [_, _]) ag125 sz125 rfl rfl (by repeat first | exact mH | apply mT) rfl) (.cons rfl (.plain rfl) (r_loadB ag3 rfl rfl (own_cell hbp _) (by simp only [Vc.add_block, List.mem_singleton]; assumption)) (.cons rfl (.plain rfl) (r_load ag3 rfl rfl (by repeat first | exact mH | apply mT) rfl) (.cons rfl (.plain rfl) (r_loadB ag3 rfl rfl (own_cell hbp _) (by simp only [Vc.add_block, List.mem_singleton]; assumption)) (.cons rfl (.plain rfl) (r_loadB ag3 rfl rfl (own_cell hbp _) (by simp only [Vc.add_block, List.mem_singleton]; assumption)) .nil))))), ?_⟩
            refine D_wr (.go (E' := [(16, _), (11, _), (9, _), (4, _)]) rfl (.plain rfl) (w_callM rfl rfl rfl (fun o' => (by repeat first | exact .head | apply SetAt.tail)) (fun w hg => place_c bp bm es clk t ps k u hk hu w (hP.good' hg) hc (hg.own (bm, _) (by repeat first | exact mH | apply mT)))) rfl ?_)
            rintro _ _ ⟨_, rfl, rfl, es1, clk1, rfl, hc1⟩
            refine ⟨(.cons rfl (.plain rfl) (r_loadB ag3 rfl rfl (own_cell hbp _) (by simp only [Vc.add_block, List.mem_singleton]; assumption)) (.cons rfl (.plain rfl) (r_load ag3 rfl rfl (by repeat first | exact mH | apply mT) rfl) (.cons rfl (.plain rfl) (r_loadB ag3 rfl rfl (own_cell hbp _) (by simp only [Vc.add_block, List.mem_singleton]; assumption)) (.cons rfl (.plain rfl) (r_loadB ag3 rfl rfl (own_cell hbp _) (by simp only [Vc.add_block, List.mem_singleton]; assumption)) .nil)))), ?_⟩
            refine D_wr (.go (E' := []) rfl (.plain rfl) (w_store (cs' := [_, _]) sz103 rfl rfl rfl rfl rfl (by repeat first | exact .head | apply SetAt.tail) (Nat.le_of_ble_eq_true rfl) rfl) rfl ?_)
            rintro _ _ ⟨rfl, rfl⟩
            refine ⟨.nil, ?_⟩
            refine D_wr (.go (E' := []) rfl (.plain rfl) (w_store (cs' := [_, _]) sz103 rfl rfl rfl rfl rfl (by repeat first | exact .head | apply SetAt.tail) (Nat.le_of_ble_eq_true rfl) rfl) rfl ?_)
            rintro _ _ ⟨rfl, rfl⟩
            refine ⟨.nil, ?_⟩
            refine D_then (.cons (k := 0) rfl (.cons (k := 3) rfl (.cons (k := 4) rfl (.cons (k := 6) rfl (.cons (k := 7) rfl .nil))))) ?_
            refine ⟨(b4, b3, es1, clk1), hc1, (.cons rfl (.cons rfl (.cons rfl (.cons rfl (.cons rfl (.nil _)))))), (by (try dsimp only); repeat (first | exact HSub.nil _ | refine HSub.take (by repeat first | exact Take.head | apply Take.tail) ?_ | exact HSub.refl _ | refine HSub.drop ?_ | refine HSub.app ?_)), rfl⟩
        · refine (.go (E' := [(23, _), (16, _), (11, _), (9, _), (4, _)]) rfl (.plain rfl) (w_alloc zr103 rfl) rfl ?_)
          rintro _ _ ⟨b4, hb4, rfl, rfl⟩
          refine ⟨(.cons rfl (.plain rfl) (r_loadA (vs := [_, _]) ag125 sz125 rfl rfl (by repeat first | exact mH | apply mT) rfl) (.cons rfl (.plain rfl) (r_loadB ag3 rfl rfl (own_cell hbp _) (by simp only [Vc.add_block, List.mem_singleton]; assumption)) (.cons rfl (.plain rfl) (r_load ag3 rfl rfl (by repeat first | exact mH | apply mT) rfl) (.cons rfl (.plain rfl) (r_loadB ag3 rfl rfl (own_cell hbp _) (by simp only [Vc.add_block, List.mem_singleton]; assumption)) (.cons rfl (.plain rfl) (r_loadB ag3 rfl rfl (own_cell hbp _) (by simp only [Vc.add_block, List.mem_singleton]; assumption)) .nil))))), ?_⟩
          refine D_wr (.go (E' := [(23, _), (16, _), (11, _), (9, _), (4, _)]) rfl (.plain rfl) (w_callP rfl rfl rfl (fun w hg => around_c _ (by omega) w)) rfl ?_)
          rintro _ _ ⟨rfl, rfl⟩
          refine ⟨(.cons rfl (.plain rfl) (r_loadA (vs := [_, _]) ag125 sz125 rfl rfl (by repeat first | exact mH | apply mT) rfl) (.cons rfl (.plain rfl) (r_loadB ag3 rfl rfl (own_cell hbp _) (by simp only [Vc.add_block, List.mem_singleton]; assumption)) (.cons rfl (.plain rfl) (r_load ag3 rfl rfl (by repeat first | exact mH | apply mT) rfl) (.cons rfl (.plain rfl) (r_loadB ag3 rfl rfl (own_cell hbp _) (by simp only [Vc.add_block, List.mem_singleton]; assumption)) (.cons rfl (.plain rfl) (r_loadB ag3 rfl rfl (own_cell hbp _) (by simp only [Vc.add_block, List.mem_singleton]; assumption)) .nil))))), ?_⟩
          refine D_wr (.go (E' := [(16, _), (11, _), (9, _), (4, _)]) rfl (.plain rfl) (w_callM rfl rfl rfl (fun o' => (by repeat first | exact .head | apply SetAt.tail)) (fun w hg => place_c bp bm es clk t ps k u hk hu w (hP.good' hg) hc (hg.own (bm, _) (by repeat first | exact mH | apply mT)))) rfl ?_)
          rintro _ _ ⟨_, rfl, rfl, es1, clk1, rfl, hc1⟩
          refine ⟨(.cons rfl (.plain rfl) (r_loadB ag3 rfl rfl (own_cell hbp _) (by simp only [Vc.add_block, List.mem_singleton]; assumption)) (.cons rfl (.plain rfl) (r_load ag3 rfl rfl (by repeat first | exact mH | apply mT) rfl) (.cons rfl (.plain rfl) (r_loadB ag3 rfl rfl (own_cell hbp _) (by simp only [Vc.add_block, List.mem_singleton]; assumption)) (.cons rfl (.plain rfl) (r_loadB ag3 rfl rfl (own_cell hbp _) (by simp only [Vc.add_block, List.mem_singleton]; assumption)) .nil)))), ?_⟩
          refine D_wr (.go (E' := []) rfl (.plain rfl) (w_store (cs' := [_, _]) sz103 rfl rfl rfl rfl rfl (by repeat first | exact .head | apply SetAt.tail) (Nat.le_of_ble_eq_true rfl) rfl) rfl ?_)
          rintro _ _ ⟨rfl, rfl⟩
          refine ⟨.nil, ?_⟩
          refine D_wr (.go (E' := []) rfl (.plain rfl) (w_store (cs' := [_, _]) sz103 rfl rfl rfl rfl rfl (by repeat first | exact .head | apply SetAt.tail) (Nat.le_of_ble_eq_true rfl) rfl) rfl ?_)
          rintro _ _ ⟨rfl, rfl⟩
          refine ⟨.nil, ?_⟩
          refine D_then (.cons (k := 0) rfl (.cons (k := 3) rfl (.cons (k := 4) rfl (.cons (k := 6) rfl (.cons (k := 7) rfl .nil))))) ?_
          refine ⟨(b4, b3, es1, clk1), hc1, (.cons rfl (.cons rfl (.cons rfl (.cons rfl (.cons rfl (.nil _)))))), (by (try dsimp only); repeat (first | exact HSub.nil _ | refine HSub.take (by repeat first | exact Take.head | apply Take.tail) ?_ | exact HSub.refl _ | refine HSub.drop ?_ | refine HSub.app ?_)), rfl⟩
    · rintro ⟨x6, x7, es1, clk1⟩ hc1
      refine V_seq ?_
      refine V_seq (V_region rfl ?_)
      refine L_go rfl (X_p (p_assign rfl rfl) ?_)
      refine L_then (.cons (k := 0) rfl (.cons (k := 3) rfl (.cons (k := 4) rfl (.cons (k := 6) rfl (.cons (k := 7) rfl (.cons (k := 8) rfl .nil)))))) ?_
      refine V_block ?_
      refine V_loop1 (γ := Int × Span × Array MapEntry × Nat) (.cons (k := 0) rfl (.cons (k := 3) rfl (.cons (k := 4) rfl (.cons (k := 6) rfl (.cons (k := 7) rfl .nil))))) (fun (j, s, es1, clk1) => [(8, .int .i64 j)]) (fun (j, s, es1, clk1) => [(x6, .cells #[.int .i64 s.lo, .int .i64 s.hi] 103), (x7, .cells #[.int .i64 (placeT t ps k u).lo, .int .i64 (placeT t ps k u).hi] 103), (b2, .cells #[.int .i64 0, .int .i64 0] 103), (b1, .cells #[.int .i64 k, .int .i64 u] 125), (bm, .map es1 clk1)]) (fun (j, s, es1, clk1) => 1 ≤ j ∧ j ≤ 9 ∧ fastN t ps k u (j - 1).toNat = some s ∧ Cache t ps es1) (fun (j, s, es1, clk1) => (9 - j).toNat) ((1, room0 (min t.speed (t.accel * (u - t.frm + 1))), es1, clk1)) (.cons rfl (.nil _)) (by repeat (first | exact List.Sublist.refl _ | apply List.Sublist.cons_cons | apply List.Sublist.cons)) (⟨by omega, by omega, rfl, hc1⟩) ?_
      rintro ⟨j, s, es1, clk1⟩ hi
      obtain ⟨hj0, hj1, hN, hc1⟩ := hi
      refine V_seq ?_
      refine V_seq (V_region rfl ?_)
      refine L_go rfl (X_p (p_move rfl rfl) ?_)
      refine L_go rfl (X_p (p_leq rfl rfl rfl) ?_)
      refine L_then (.cons (k := 0) rfl (.cons (k := 3) rfl (.cons (k := 4) rfl (.cons (k := 6) rfl (.cons (k := 7) rfl (.cons (k := 8) rfl (.cons (k := 48) rfl .nil))))))) ?_
      refine V_cond rfl ?_ ?_
      · intro c2; try simp only [td] at c2
        have hmb := moreB_bnd hG (j := j) ⟨by omega, by omega⟩
        have hmf := moreF_bnd hG (j := j) ⟨by omega, by omega⟩
        have hmb3 : 0 ≤ moreB t j ∧ moreB t j ≤ 72000000 := hmb.2.2
        have hmf3 : 0 ≤ moreF t j ∧ moreF t j ≤ 56000000 := hmf.2.2
        have hpu := placeT_bnd hG hP.bnd hu.2 k
        unfold SpanB at hpu
        refine V_skip (then_n ?_)
        refine V_seq ?_
        refine V_block ?_
        refine V_seq ?_
        refine V_seq (V_draw (.rd 0 (.rd 1 (.rd 2 (.rd 3 (.rd 4 (.rd 5 (.rd 6 (.rd 7 (.rd 8 (.rd 9 .done)))))))))) mixed (by kernel_rfl) rfl ?_)
        refine D_p rfl (.plain rfl) (p_fieldo fo125_1 rfl rfl) ?_
        refine D_rd rfl (.plain rfl) (r_load ag3 rfl rfl (by repeat first | exact mH | apply mT) rfl) ?_
        refine D_p rfl (.plain rfl) (p_move rfl rfl) ?_
        first | refine D_p rfl (.plain rfl) (p_sub' rfl rfl rfl (by unfold InI; omega)) ?_ | refine D_p rfl (.plain rfl) (p_sub rfl rfl rfl) ?_
        refine D_p rfl (.plain rfl) (p_move rfl rfl) ?_
        refine D_p rfl (.plain rfl) (p_nil rfl rfl) ?_
        refine D_p rfl (.plain rfl) (p_fieldo fo120_0 rfl rfl) ?_
        refine D_p rfl (.plain rfl) (p_fieldo fo25_0 rfl rfl) ?_
        refine D_rd rfl (.plain rfl) (r_loadB ag3 rfl rfl (own_cell hbp _) (by simp only [Vc.add_block, List.mem_singleton]; assumption)) ?_
        refine D_p rfl (.plain rfl) (p_geq rfl rfl rfl) ?_
        refine D_then (.cons (k := 0) rfl (.cons (k := 3) rfl (.cons (k := 4) rfl (.cons (k := 6) rfl (.cons (k := 7) rfl (.cons (k := 8) rfl (.cons (k := 60) rfl .nil))))))) ?_
        refine V_cond rfl ?_ ?_
        · intro c3; try simp only [td] at c3
          have hpv := placeT_bnd hG hP.bnd (u := u - j) (by omega) k
          unfold SpanB at hpv
          refine V_mid (γ := Nat × Array MapEntry × Nat) (.cons (k := 0) rfl (.cons (k := 3) rfl (.cons (k := 4) rfl (.cons (k := 6) rfl (.cons (k := 7) rfl (.cons (k := 8) rfl .nil)))))) (fun (x9, es2, clk2) => [(9, .pointer (some ⟨x9, 0, none⟩)), (10, .int .i64 (moreB t j))]) (fun (x9, es2, clk2) => [(x9, .cells #[.int .i64 (placeT t ps k (u - j)).lo, .int .i64 (placeT t ps k (u - j)).hi] 103), (x6, .cells #[.int .i64 s.lo, .int .i64 s.hi] 103), (x7, .cells #[.int .i64 (placeT t ps k u).lo, .int .i64 (placeT t ps k u).hi] 103), (b2, .cells #[.int .i64 0, .int .i64 0] 103), (b1, .cells #[.int .i64 k, .int .i64 u] 125), (bm, .map es2 clk2)]) (fun (x9, es2, clk2) => Cache t ps es2) ?_ ?_
          · refine V_draw (.rd 0 (.rd 1 (.rd 2 (.rd 3 (.rd 4 (.rd 5 (.rd 6 (.rd 7 (.rd 9 (.rd 10 (.rd 11 (.rd 12 (.rd 13 (.rd 14 (.rd 15 (.rd 16 (.rd 17 (.rd 18 (.rd 19 (.wr2 8 [19, 18, 17, 16, 15, 14, 13, 12, 11, 10, 9, 6, 5, 4, 3, 2, 1] (.wr 20 [19, 18, 17, 16, 15, 14, 13, 12, 11, 10, 9, 7, 6, 5, 4, 3, 2, 1, 0] (.wr 21 [19, 18, 17, 16, 15, 14, 12, 11, 10, 9] (.rd 22 .done))) 20 [19, 18, 17, 16, 15, 14, 13, 12, 11, 10, 9, 7, 6, 5, 4, 3, 2, 1, 0] (.wr 8 [19, 18, 17, 16, 15, 14, 13, 12, 11, 10, 9, 6, 5, 4, 3, 2, 1] (.wr 21 [19, 18, 17, 16, 15, 14, 12, 11, 10, 9] (.rd 22 .done))))))))))))))))))))))) mixed (by kernel_rfl) rfl ?_
            refine D_p rfl (.plain rfl) (p_move rfl rfl) ?_
            refine D_p rfl (.plain rfl) (p_fieldo fo125_0 rfl rfl) ?_
            refine D_rd rfl (.plain rfl) (r_load ag3 rfl rfl (by repeat first | exact mH | apply mT) rfl) ?_
            refine D_p rfl (.plain rfl) (p_fieldo fo125_1 rfl rfl) ?_
            refine D_rd rfl (.plain rfl) (r_load ag3 rfl rfl (by repeat first | exact mH | apply mT) rfl) ?_
            refine D_p rfl (.plain rfl) (p_move rfl rfl) ?_
            first | refine D_p rfl (.plain rfl) (p_sub' rfl rfl rfl (by unfold InI; omega)) ?_ | refine D_p rfl (.plain rfl) (p_sub rfl rfl rfl) ?_
            refine D_p rfl (.plain rfl) (p_build (r := [_, _]) pl125 zr125 rfl rfl rfl) ?_
            refine D_p rfl (.plain rfl) (p_move rfl rfl) ?_
            refine D_p rfl (.plain rfl) (p_nil rfl rfl) ?_
            refine D_p rfl (.plain rfl) (p_fieldo fo120_0 rfl rfl) ?_
            refine D_p rfl (.plain rfl) (p_fieldo fo25_2 rfl rfl) ?_
            refine D_rd rfl (.plain rfl) (r_loadB ag3 rfl rfl (own_cell hbp _) (by simp only [Vc.add_block, List.mem_singleton]; assumption)) ?_
            refine D_p rfl (.plain rfl) (p_move rfl rfl) ?_
            refine D_p rfl (.plain rfl) (p_move rfl rfl) ?_
            first | refine D_p rfl (.plain rfl) (p_add' rfl rfl rfl (by unfold InI; omega)) ?_ | refine D_p rfl (.plain rfl) (p_add rfl rfl rfl) ?_
            first | refine D_p rfl (.plain rfl) (p_mul' rfl rfl rfl (by unfold InI; omega)) ?_ | refine D_p rfl (.plain rfl) (p_mul rfl rfl rfl) ?_
            first | refine D_p rfl (.plain rfl) (p_quo' rfl rfl rfl (by first | decide | omega) (by unfold InI; omega)) ?_ | refine D_p rfl (.plain rfl) (p_quo rfl rfl rfl (by first | decide | omega)) ?_
            first | refine D_p rfl (.plain rfl) (p_mul' rfl rfl rfl (by unfold InI; omega)) ?_ | refine D_p rfl (.plain rfl) (p_mul rfl rfl rfl) ?_
            refine D_wr2 rfl ?_ ?_
            · refine (.go (E' := [(13, _), (4, _), (2, _)]) rfl (.plain rfl) (w_callM rfl rfl rfl (fun o' => (by repeat first | exact .head | apply SetAt.tail)) (fun w hg => place_c bp bm es1 clk1 t ps k (u - j) hk (by omega) w (hP.good' hg) hc1 (hg.own (bm, _) (by repeat first | exact mH | apply mT)))) rfl ?_)
              rintro _ _ ⟨_, rfl, rfl, es2, clk2, rfl, hc2⟩
              refine ⟨(.cons rfl (.plain rfl) (r_loadB ag3 rfl rfl (own_cell hbp _) (by simp only [Vc.add_block, List.mem_singleton]; assumption)) (.cons rfl (.plain rfl) (r_load ag3 rfl rfl (by repeat first | exact mH | apply mT) rfl) (.cons rfl (.plain rfl) (r_load ag3 rfl rfl (by repeat first | exact mH | apply mT) rfl) .nil))), ?_⟩
              refine D_wr (.go (E' := [(13, _), (4, _), (2, _)]) rfl (.plain rfl) (w_alloc zr103 rfl) rfl ?_)
              rintro _ _ ⟨b3, hb3, rfl, rfl⟩
              refine ⟨(.cons rfl (.plain rfl) (r_loadB ag3 rfl rfl (own_cell hbp _) (by simp only [Vc.add_block, List.mem_singleton]; assumption)) (.cons rfl (.plain rfl) (r_load ag3 rfl rfl (by repeat first | exact mH | apply mT) rfl) (.cons rfl (.plain rfl) (r_load ag3 rfl rfl (by repeat first | exact mH | apply mT) rfl) .nil))), ?_⟩
              refine D_wr (.go (E' := []) rfl (.plain rfl) (w_store (cs' := [_, _]) sz103 rfl rfl rfl rfl rfl (by repeat first | exact .head | apply SetAt.tail) (Nat.le_of_ble_eq_true rfl) rfl) rfl ?_)
              rintro _ _ ⟨rfl, rfl⟩
              refine ⟨.nil, ?_⟩
              refine D_p rfl (.plain rfl) (p_assign rfl rfl) ?_
              refine D_then (.cons (k := 0) rfl (.cons (k := 3) rfl (.cons (k := 4) rfl (.cons (k := 6) rfl (.cons (k := 7) rfl (.cons (k := 8) rfl (.cons (k := 9) rfl (.cons (k := 10) rfl .nil)))))))) ?_
              refine ⟨(b3, es2, clk2), hc2, (.cons rfl (.cons rfl (.cons rfl (.cons rfl (.cons rfl (.cons rfl (.cons rfl (.cons rfl (.nil _))))))))), (by (try dsimp only); repeat (first | exact HSub.nil _ | refine HSub.take (by repeat first | exact Take.head | apply Take.tail) ?_ | exact HSub.refl _ | refine HSub.drop ?_ | refine HSub.app ?_)), rfl⟩
            · refine (.go (E' := [(13, _), (4, _), (2, _)]) rfl (.plain rfl) (w_alloc zr103 rfl) rfl ?_)
              rintro _ _ ⟨b3, hb3, rfl, rfl⟩
              refine ⟨(.cons rfl (.plain rfl) (r_loadB ag3 rfl rfl (own_cell hbp _) (by simp only [Vc.add_block, List.mem_singleton]; assumption)) (.cons rfl (.plain rfl) (r_load ag3 rfl rfl (by repeat first | exact mH | apply mT) rfl) (.cons rfl (.plain rfl) (r_load ag3 rfl rfl (by repeat first | exact mH | apply mT) rfl) .nil))), ?_⟩
              refine D_wr (.go (E' := [(13, _), (4, _), (2, _)]) rfl (.plain rfl) (w_callM rfl rfl rfl (fun o' => (by repeat first | exact .head | apply SetAt.tail)) (fun w hg => place_c bp bm es1 clk1 t ps k (u - j) hk (by omega) w (hP.good' hg) hc1 (hg.own (bm, _) (by repeat first | exact mH | apply mT)))) rfl ?_)
              rintro _ _ ⟨_, rfl, rfl, es2, clk2, rfl, hc2⟩
              refine ⟨(.cons rfl (.plain rfl) (r_loadB ag3 rfl rfl (own_cell hbp _) (by simp only [Vc.add_block, List.mem_singleton]; assumption)) (.cons rfl (.plain rfl) (r_load ag3 rfl rfl (by repeat first | exact mH | apply mT) rfl) (.cons rfl (.plain rfl) (r_load ag3 rfl rfl (by repeat first | exact mH | apply mT) rfl) .nil))), ?_⟩
              refine D_wr (.go (E' := []) rfl (.plain rfl) (w_store (cs' := [_, _]) sz103 rfl rfl rfl rfl rfl (by repeat first | exact .head | apply SetAt.tail) (Nat.le_of_ble_eq_true rfl) rfl) rfl ?_)
              rintro _ _ ⟨rfl, rfl⟩
              refine ⟨.nil, ?_⟩
              refine D_p rfl (.plain rfl) (p_assign rfl rfl) ?_
              refine D_then (.cons (k := 0) rfl (.cons (k := 3) rfl (.cons (k := 4) rfl (.cons (k := 6) rfl (.cons (k := 7) rfl (.cons (k := 8) rfl (.cons (k := 9) rfl (.cons (k := 10) rfl .nil)))))))) ?_
              refine ⟨(b3, es2, clk2), hc2, (.cons rfl (.cons rfl (.cons rfl (.cons rfl (.cons rfl (.cons rfl (.cons rfl (.cons rfl (.nil _))))))))), (by (try dsimp only); repeat (first | exact HSub.nil _ | refine HSub.take (by repeat first | exact Take.head | apply Take.tail) ?_ | exact HSub.refl _ | refine HSub.drop ?_ | refine HSub.app ?_)), rfl⟩
          · rintro ⟨x9, es2, clk2⟩ hc2
            refine V_seq ?_
            refine V_seq (V_region rfl ?_)
            refine L_go rfl (X_wr (w_callP rfl rfl rfl (fun w hg => empty_c x9 _ _ 103 w (hg.own (x9, _) (by repeat first | exact mH | apply mT)))) ?_)
            rintro _ _ ⟨rfl, rfl⟩
            refine L_then (.cons (k := 0) rfl (.cons (k := 3) rfl (.cons (k := 4) rfl (.cons (k := 6) rfl (.cons (k := 7) rfl (.cons (k := 8) rfl (.cons (k := 9) rfl (.cons (k := 10) rfl (.cons (k := 81) rfl .nil))))))))) ?_
            refine V_cond rfl ?_ ?_
            · intro c4; try simp only [td] at c4
              refine V_seq (V_region rfl ?_)
              refine L_go rfl (X_rd (r_loadA (vs := [_, _]) ag103 sz103 rfl rfl (by repeat first | exact mH | apply mT) rfl) ?_)
              refine L_go rfl (X_wr (w_store (cs' := [_, _]) sz103 rfl rfl rfl rfl rfl (by repeat first | exact .head | apply SetAt.tail) (Nat.le_of_ble_eq_true rfl) rfl) ?_)
              rintro _ _ ⟨rfl, rfl⟩
              refine L_go rfl (X_p (p_assign rfl rfl) ?_)
              refine L_then (.cons (k := 4) rfl (.cons (k := 5) rfl .nil)) ?_
              refine V_ret (then_r (then_r (blk_r (then_r (then_r (blk_r (then_r ?_)))))))
              refine Leave.nil (.cellA (us := [_, _]) rfl ag103 sz103 (by repeat first | exact mH | apply mT) rfl (.tmp rfl .nil)) ?_
              exact ⟨_, (by repeat first | exact mH | apply mT), ⟨_, _, false, rfl, .inr ⟨rfl, fastT_none1 (by omega) ⟨by omega, by omega⟩ hN (fastB_none (by omega) c4)⟩⟩, _, _, rfl, hc2⟩
            · intro c4; try simp only [td] at c4
              refine V_skip (then_n ?_)
              refine V_region rfl ?_
              refine L_go rfl (X_p (p_fieldo fo103_0 rfl rfl) ?_)
              refine L_go rfl (X_p (p_fieldo fo32_0 rfl rfl) ?_)
              refine L_go rfl (X_rd (r_load ag3 rfl rfl (by repeat first | exact mH | apply mT) rfl) ?_)
              refine L_go rfl (X_p (p_fieldo fo103_0 rfl rfl) ?_)
              refine L_go rfl (X_p (p_fieldo fo32_1 rfl rfl) ?_)
              refine L_go rfl (X_rd (r_load ag3 rfl rfl (by repeat first | exact mH | apply mT) rfl) ?_)
              first | refine L_go rfl (X_p (p_sub' rfl rfl rfl (by unfold InI; omega)) ?_) | refine L_go rfl (X_p (p_sub rfl rfl rfl) ?_)
              refine L_go rfl (X_p (p_move rfl rfl) ?_)
              first | refine L_go rfl (X_p (p_sub' rfl rfl rfl (by unfold InI; omega)) ?_) | refine L_go rfl (X_p (p_sub rfl rfl rfl) ?_)
              refine L_go rfl (X_p (p_fieldo fo103_0 rfl rfl) ?_)
              refine L_go rfl (X_p (p_fieldo fo32_1 rfl rfl) ?_)
              refine L_go rfl (X_rd (r_load ag3 rfl rfl (by repeat first | exact mH | apply mT) rfl) ?_)
              refine L_go rfl (X_p (p_fieldo fo103_0 rfl rfl) ?_)
              refine L_go rfl (X_p (p_fieldo fo32_0 rfl rfl) ?_)
              refine L_go rfl (X_rd (r_load ag3 rfl rfl (by repeat first | exact mH | apply mT) rfl) ?_)
              first | refine L_go rfl (X_p (p_sub' rfl rfl rfl (by unfold InI; omega)) ?_) | refine L_go rfl (X_p (p_sub rfl rfl rfl) ?_)
              refine L_go rfl (X_p (p_move rfl rfl) ?_)
              first | refine L_go rfl (X_p (p_add' rfl rfl rfl (by unfold InI; omega)) ?_) | refine L_go rfl (X_p (p_add rfl rfl rfl) ?_)
              refine L_go rfl (X_p (p_move rfl rfl) ?_)
              refine L_go rfl (X_wr (w_callM rfl rfl rfl (fun o' => (by repeat first | exact .head | apply SetAt.tail)) (fun w hg => gone_c x6 s.lo s.hi 103 _ _ _ (by omega) (by omega) (by omega) w (hg.own (x6, _) (by repeat first | exact mH | apply mT)))) ?_)
              rintro _ _ ⟨_, rfl, rfl, rfl⟩
              refine L_then (.cons (k := 0) rfl (.cons (k := 3) rfl (.cons (k := 4) rfl (.cons (k := 6) rfl (.cons (k := 7) rfl (.cons (k := 8) rfl .nil)))))) ?_
              refine V_seq (V_region rfl ?_)
              refine L_go rfl (X_p (p_fieldo fo125_1 rfl rfl) ?_)
              refine L_go rfl (X_rd (r_load ag3 rfl rfl (by repeat first | exact mH | apply mT) rfl) ?_)
              refine L_go rfl (X_p (p_move rfl rfl) ?_)
              first | refine L_go rfl (X_p (p_add' rfl rfl rfl (by unfold InI; omega)) ?_) | refine L_go rfl (X_p (p_add rfl rfl rfl) ?_)
              refine L_go rfl (X_p (p_leq rfl rfl rfl) ?_)
              refine L_then (.cons (k := 0) rfl (.cons (k := 3) rfl (.cons (k := 4) rfl (.cons (k := 6) rfl (.cons (k := 7) rfl (.cons (k := 8) rfl (.cons (k := 107) rfl .nil))))))) ?_
              refine V_cond rfl ?_ ?_
              · intro c5; try simp only [td] at c5
                have hpw := placeT_bnd hG hP.bnd (u := u + j) (by omega) k
                unfold SpanB at hpw
                refine V_mid (γ := Nat × Array MapEntry × Nat) (.cons (k := 0) rfl (.cons (k := 3) rfl (.cons (k := 4) rfl (.cons (k := 6) rfl (.cons (k := 7) rfl (.cons (k := 8) rfl .nil)))))) (fun (x11, es3, clk3) => [(11, .pointer (some ⟨x11, 0, none⟩)), (12, .int .i64 (moreF t j))]) (fun (x11, es3, clk3) => [(x11, .cells #[.int .i64 (placeT t ps k (u + j)).lo, .int .i64 (placeT t ps k (u + j)).hi] 103), (x6, .cells #[.int .i64 (sB t ps k u j s).lo, .int .i64 (sB t ps k u j s).hi] 103), (x7, .cells #[.int .i64 (placeT t ps k u).lo, .int .i64 (placeT t ps k u).hi] 103), (b2, .cells #[.int .i64 0, .int .i64 0] 103), (b1, .cells #[.int .i64 k, .int .i64 u] 125), (bm, .map es3 clk3)]) (fun (x11, es3, clk3) => Cache t ps es3) ?_ ?_
                · refine V_draw (.rd 0 (.rd 1 (.rd 2 (.rd 3 (.rd 4 (.rd 5 (.rd 6 (.rd 7 (.rd 9 (.rd 10 (.rd 11 (.rd 12 (.rd 13 (.rd 14 (.rd 15 (.rd 16 (.rd 17 (.rd 18 (.rd 19 (.wr2 8 [19, 18, 17, 16, 15, 14, 13, 12, 11, 10, 9, 6, 5, 4, 3, 2, 1] (.wr 20 [19, 18, 17, 16, 15, 14, 13, 12, 11, 10, 9, 7, 6, 5, 4, 3, 2, 1, 0] (.wr 21 [19, 18, 17, 16, 15, 14, 12, 11, 10, 9] (.rd 22 .done))) 20 [19, 18, 17, 16, 15, 14, 13, 12, 11, 10, 9, 7, 6, 5, 4, 3, 2, 1, 0] (.wr 8 [19, 18, 17, 16, 15, 14, 13, 12, 11, 10, 9, 6, 5, 4, 3, 2, 1] (.wr 21 [19, 18, 17, 16, 15, 14, 12, 11, 10, 9] (.rd 22 .done))))))))))))))))))))))) mixed (by kernel_rfl) rfl ?_
                  refine D_p rfl (.plain rfl) (p_move rfl rfl) ?_
                  refine D_p rfl (.plain rfl) (p_fieldo fo125_0 rfl rfl) ?_
                  refine D_rd rfl (.plain rfl) (r_load ag3 rfl rfl (by repeat first | exact mH | apply mT) rfl) ?_
                  refine D_p rfl (.plain rfl) (p_fieldo fo125_1 rfl rfl) ?_
                  refine D_rd rfl (.plain rfl) (r_load ag3 rfl rfl (by repeat first | exact mH | apply mT) rfl) ?_
                  refine D_p rfl (.plain rfl) (p_move rfl rfl) ?_
                  first | refine D_p rfl (.plain rfl) (p_add' rfl rfl rfl (by unfold InI; omega)) ?_ | refine D_p rfl (.plain rfl) (p_add rfl rfl rfl) ?_
                  refine D_p rfl (.plain rfl) (p_build (r := [_, _]) pl125 zr125 rfl rfl rfl) ?_
                  refine D_p rfl (.plain rfl) (p_move rfl rfl) ?_
                  refine D_p rfl (.plain rfl) (p_nil rfl rfl) ?_
                  refine D_p rfl (.plain rfl) (p_fieldo fo120_0 rfl rfl) ?_
                  refine D_p rfl (.plain rfl) (p_fieldo fo25_2 rfl rfl) ?_
                  refine D_rd rfl (.plain rfl) (r_loadB ag3 rfl rfl (own_cell hbp _) (by simp only [Vc.add_block, List.mem_singleton]; assumption)) ?_
                  refine D_p rfl (.plain rfl) (p_move rfl rfl) ?_
                  refine D_p rfl (.plain rfl) (p_move rfl rfl) ?_
                  first | refine D_p rfl (.plain rfl) (p_sub' rfl rfl rfl (by unfold InI; omega)) ?_ | refine D_p rfl (.plain rfl) (p_sub rfl rfl rfl) ?_
                  first | refine D_p rfl (.plain rfl) (p_mul' rfl rfl rfl (by unfold InI; omega)) ?_ | refine D_p rfl (.plain rfl) (p_mul rfl rfl rfl) ?_
                  first | refine D_p rfl (.plain rfl) (p_quo' rfl rfl rfl (by first | decide | omega) (by unfold InI; omega)) ?_ | refine D_p rfl (.plain rfl) (p_quo rfl rfl rfl (by first | decide | omega)) ?_
                  first | refine D_p rfl (.plain rfl) (p_mul' rfl rfl rfl (by unfold InI; omega)) ?_ | refine D_p rfl (.plain rfl) (p_mul rfl rfl rfl) ?_
                  refine D_wr2 rfl ?_ ?_
                  · refine (.go (E' := [(13, _), (4, _), (2, _)]) rfl (.plain rfl) (w_callM rfl rfl rfl (fun o' => (by repeat first | exact .head | apply SetAt.tail)) (fun w hg => place_c bp bm es2 clk2 t ps k (u + j) hk (by omega) w (hP.good' hg) hc2 (hg.own (bm, _) (by repeat first | exact mH | apply mT)))) rfl ?_)
                    rintro _ _ ⟨_, rfl, rfl, es3, clk3, rfl, hc3⟩
                    refine ⟨(.cons rfl (.plain rfl) (r_loadB ag3 rfl rfl (own_cell hbp _) (by simp only [Vc.add_block, List.mem_singleton]; assumption)) (.cons rfl (.plain rfl) (r_load ag3 rfl rfl (by repeat first | exact mH | apply mT) rfl) (.cons rfl (.plain rfl) (r_load ag3 rfl rfl (by repeat first | exact mH | apply mT) rfl) .nil))), ?_⟩
                    refine D_wr (.go (E' := [(13, _), (4, _), (2, _)]) rfl (.plain rfl) (w_alloc zr103 rfl) rfl ?_)
                    rintro _ _ ⟨b3, hb3, rfl, rfl⟩
                    refine ⟨(.cons rfl (.plain rfl) (r_loadB ag3 rfl rfl (own_cell hbp _) (by simp only [Vc.add_block, List.mem_singleton]; assumption)) (.cons rfl (.plain rfl) (r_load ag3 rfl rfl (by repeat first | exact mH | apply mT) rfl) (.cons rfl (.plain rfl) (r_load ag3 rfl rfl (by repeat first | exact mH | apply mT) rfl) .nil))), ?_⟩
                    refine D_wr (.go (E' := []) rfl (.plain rfl) (w_store (cs' := [_, _]) sz103 rfl rfl rfl rfl rfl (by repeat first | exact .head | apply SetAt.tail) (Nat.le_of_ble_eq_true rfl) rfl) rfl ?_)
                    rintro _ _ ⟨rfl, rfl⟩
                    refine ⟨.nil, ?_⟩
                    refine D_p rfl (.plain rfl) (p_assign rfl rfl) ?_
                    refine D_then (.cons (k := 0) rfl (.cons (k := 3) rfl (.cons (k := 4) rfl (.cons (k := 6) rfl (.cons (k := 7) rfl (.cons (k := 8) rfl (.cons (k := 11) rfl (.cons (k := 12) rfl .nil)))))))) ?_
                    refine ⟨(b3, es3, clk3), hc3, (.cons rfl (.cons rfl (.cons rfl (.cons rfl (.cons rfl (.cons rfl (.cons rfl (.cons rfl (.nil _))))))))), (by (try dsimp only); repeat (first | exact HSub.nil _ | refine HSub.take (by repeat first | exact Take.head | apply Take.tail) ?_ | exact HSub.refl _ | refine HSub.drop ?_ | refine HSub.app ?_)), rfl⟩
                  · refine (.go (E' := [(13, _), (4, _), (2, _)]) rfl (.plain rfl) (w_alloc zr103 rfl) rfl ?_)
                    rintro _ _ ⟨b3, hb3, rfl, rfl⟩
                    refine ⟨(.cons rfl (.plain rfl) (r_loadB ag3 rfl rfl (own_cell hbp _) (by simp only [Vc.add_block, List.mem_singleton]; assumption)) (.cons rfl (.plain rfl) (r_load ag3 rfl rfl (by repeat first | exact mH | apply mT) rfl) (.cons rfl (.plain rfl) (r_load ag3 rfl rfl (by repeat first | exact mH | apply mT) rfl) .nil))), ?_⟩
                    refine D_wr (.go (E' := [(13, _), (4, _), (2, _)]) rfl (.plain rfl) (w_callM rfl rfl rfl (fun o' => (by repeat first | exact .head | apply SetAt.tail)) (fun w hg => place_c bp bm es2 clk2 t ps k (u + j) hk (by omega) w (hP.good' hg) hc2 (hg.own (bm, _) (by repeat first | exact mH | apply mT)))) rfl ?_)
                    rintro _ _ ⟨_, rfl, rfl, es3, clk3, rfl, hc3⟩
                    refine ⟨(.cons rfl (.plain rfl) (r_loadB ag3 rfl rfl (own_cell hbp _) (by simp only [Vc.add_block, List.mem_singleton]; assumption)) (.cons rfl (.plain rfl) (r_load ag3 rfl rfl (by repeat first | exact mH | apply mT) rfl) (.cons rfl (.plain rfl) (r_load ag3 rfl rfl (by repeat first | exact mH | apply mT) rfl) .nil))), ?_⟩
                    refine D_wr (.go (E' := []) rfl (.plain rfl) (w_store (cs' := [_, _]) sz103 rfl rfl rfl rfl rfl (by repeat first | exact .head | apply SetAt.tail) (Nat.le_of_ble_eq_true rfl) rfl) rfl ?_)
                    rintro _ _ ⟨rfl, rfl⟩
                    refine ⟨.nil, ?_⟩
                    refine D_p rfl (.plain rfl) (p_assign rfl rfl) ?_
                    refine D_then (.cons (k := 0) rfl (.cons (k := 3) rfl (.cons (k := 4) rfl (.cons (k := 6) rfl (.cons (k := 7) rfl (.cons (k := 8) rfl (.cons (k := 11) rfl (.cons (k := 12) rfl .nil)))))))) ?_
                    refine ⟨(b3, es3, clk3), hc3, (.cons rfl (.cons rfl (.cons rfl (.cons rfl (.cons rfl (.cons rfl (.cons rfl (.cons rfl (.nil _))))))))), (by (try dsimp only); repeat (first | exact HSub.nil _ | refine HSub.take (by repeat first | exact Take.head | apply Take.tail) ?_ | exact HSub.refl _ | refine HSub.drop ?_ | refine HSub.app ?_)), rfl⟩
                · rintro ⟨x11, es3, clk3⟩ hc3
                  refine V_seq ?_
                  refine V_seq (V_region rfl ?_)
                  refine L_go rfl (X_wr (w_callP rfl rfl rfl (fun w hg => empty_c x11 _ _ 103 w (hg.own (x11, _) (by repeat first | exact mH | apply mT)))) ?_)
                  rintro _ _ ⟨rfl, rfl⟩
                  refine L_then (.cons (k := 0) rfl (.cons (k := 3) rfl (.cons (k := 4) rfl (.cons (k := 6) rfl (.cons (k := 7) rfl (.cons (k := 8) rfl (.cons (k := 11) rfl (.cons (k := 12) rfl (.cons (k := 128) rfl .nil))))))))) ?_
                  refine V_cond rfl ?_ ?_
                  · intro c6; try simp only [td] at c6
                    refine V_seq (V_region rfl ?_)
                    refine L_go rfl (X_rd (r_loadA (vs := [_, _]) ag103 sz103 rfl rfl (by repeat first | exact mH | apply mT) rfl) ?_)
                    refine L_go rfl (X_wr (w_store (cs' := [_, _]) sz103 rfl rfl rfl rfl rfl (by repeat first | exact .head | apply SetAt.tail) (Nat.le_of_ble_eq_true rfl) rfl) ?_)
                    rintro _ _ ⟨rfl, rfl⟩
                    refine L_go rfl (X_p (p_assign rfl rfl) ?_)
                    refine L_then (.cons (k := 4) rfl (.cons (k := 5) rfl .nil)) ?_
                    refine V_ret (then_r (blk_r (then_r (then_r (blk_r (then_r ?_))))))
                    refine Leave.nil (.cellA (us := [_, _]) rfl ag103 sz103 (by repeat first | exact mH | apply mT) rfl (.tmp rfl .nil)) ?_
                    exact ⟨_, (by repeat first | exact mH | apply mT), ⟨_, _, false, rfl, .inr ⟨rfl, fastT_none2 (by omega) ⟨by omega, by omega⟩ hN (fastB_go (by omega) c4) (fastF_none (by omega) c6)⟩⟩, _, _, rfl, hc3⟩
                  · intro c6; try simp only [td] at c6
                    refine V_skip (then_n ?_)
                    refine V_region rfl ?_
                    refine L_go rfl (X_p (p_fieldo fo103_0 rfl rfl) ?_)
                    refine L_go rfl (X_p (p_fieldo fo32_0 rfl rfl) ?_)
                    refine L_go rfl (X_rd (r_load ag3 rfl rfl (by repeat first | exact mH | apply mT) rfl) ?_)
                    refine L_go rfl (X_p (p_fieldo fo103_0 rfl rfl) ?_)
                    refine L_go rfl (X_p (p_fieldo fo32_1 rfl rfl) ?_)
                    refine L_go rfl (X_rd (r_load ag3 rfl rfl (by repeat first | exact mH | apply mT) rfl) ?_)
                    first | refine L_go rfl (X_p (p_sub' rfl rfl rfl (by unfold InI; omega)) ?_) | refine L_go rfl (X_p (p_sub rfl rfl rfl) ?_)
                    refine L_go rfl (X_p (p_move rfl rfl) ?_)
                    first | refine L_go rfl (X_p (p_sub' rfl rfl rfl (by unfold InI; omega)) ?_) | refine L_go rfl (X_p (p_sub rfl rfl rfl) ?_)
                    refine L_go rfl (X_p (p_fieldo fo103_0 rfl rfl) ?_)
                    refine L_go rfl (X_p (p_fieldo fo32_1 rfl rfl) ?_)
                    refine L_go rfl (X_rd (r_load ag3 rfl rfl (by repeat first | exact mH | apply mT) rfl) ?_)
                    refine L_go rfl (X_p (p_fieldo fo103_0 rfl rfl) ?_)
                    refine L_go rfl (X_p (p_fieldo fo32_0 rfl rfl) ?_)
                    refine L_go rfl (X_rd (r_load ag3 rfl rfl (by repeat first | exact mH | apply mT) rfl) ?_)
                    first | refine L_go rfl (X_p (p_sub' rfl rfl rfl (by unfold InI; omega)) ?_) | refine L_go rfl (X_p (p_sub rfl rfl rfl) ?_)
                    refine L_go rfl (X_p (p_move rfl rfl) ?_)
                    first | refine L_go rfl (X_p (p_add' rfl rfl rfl (by unfold InI; omega)) ?_) | refine L_go rfl (X_p (p_add rfl rfl rfl) ?_)
                    refine L_go rfl (X_p (p_move rfl rfl) ?_)
                    refine L_go rfl (X_wr (w_callM rfl rfl rfl (fun o' => (by repeat first | exact .head | apply SetAt.tail)) (fun w hg => gone_c x6 (sB t ps k u j s).lo (sB t ps k u j s).hi 103 _ _ _ (by omega) (by omega) (by omega) w (hg.own (x6, _) (by repeat first | exact mH | apply mT)))) ?_)
                    rintro _ _ ⟨_, rfl, rfl, rfl⟩
                    refine L_keep (.cons (k := 0) rfl (.cons (k := 3) rfl (.cons (k := 4) rfl (.cons (k := 6) rfl (.cons (k := 7) rfl (.cons (k := 8) rfl .nil)))))) (blk_n (then_n ?_))
                    refine V_region rfl ?_
                    refine L_go rfl (X_p (p_move rfl rfl) ?_)
                    first | refine L_go rfl (X_p (p_add' rfl rfl rfl (by unfold InI; omega)) ?_) | refine L_go rfl (X_p (p_add rfl rfl rfl) ?_)
                    refine L_go rfl (X_p (p_assign rfl rfl) ?_)
                    refine L_keep (.cons (k := 0) rfl (.cons (k := 3) rfl (.cons (k := 4) rfl (.cons (k := 6) rfl (.cons (k := 7) rfl (.cons (k := 8) rfl .nil)))))) (then_n ?_)
                    refine ⟨(j + 1, sF t ps k u j (sB t ps k u j s), es3, clk3), ?_, ?_, (.cons rfl (.cons rfl (.cons rfl (.cons rfl (.cons rfl (.cons rfl (.nil _))))))), (by repeat (first | exact List.Sublist.refl _ | apply List.Sublist.cons_cons | apply List.Sublist.cons | apply List.sublist_append_of_sublist_right)), rfl⟩
                    · exact ⟨by omega, by omega, fastN_go hj0 hN (fastB_go (by omega) c4) (fastF_go (by omega) c6), hc3⟩
                    · dsimp only; omega
              · intro c5; try simp only [td] at c5
                refine V_skip (blk_n (then_n ?_))
                refine V_region rfl ?_
                refine L_go rfl (X_p (p_move rfl rfl) ?_)
                first | refine L_go rfl (X_p (p_add' rfl rfl rfl (by unfold InI; omega)) ?_) | refine L_go rfl (X_p (p_add rfl rfl rfl) ?_)
                refine L_go rfl (X_p (p_assign rfl rfl) ?_)
                refine L_keep (.cons (k := 0) rfl (.cons (k := 3) rfl (.cons (k := 4) rfl (.cons (k := 6) rfl (.cons (k := 7) rfl (.cons (k := 8) rfl .nil)))))) (then_n ?_)
                refine ⟨(j + 1, sB t ps k u j s, es2, clk2), ?_, ?_, (.cons rfl (.cons rfl (.cons rfl (.cons rfl (.cons rfl (.cons rfl (.nil _))))))), (by repeat (first | exact List.Sublist.refl _ | apply List.Sublist.cons_cons | apply List.Sublist.cons | apply List.sublist_append_of_sublist_right)), rfl⟩
                · exact ⟨by omega, by omega, fastN_go hj0 hN (fastB_go (by omega) c4) (fastF_skip (by omega)), hc2⟩
                · dsimp only; omega
        · intro c3; try simp only [td] at c3
          refine V_skip (then_n ?_)
          refine V_seq (V_region rfl ?_)
          refine L_go rfl (X_p (p_fieldo fo125_1 rfl rfl) ?_)
          refine L_go rfl (X_rd (r_load ag3 rfl rfl (by repeat first | exact mH | apply mT) rfl) ?_)
          refine L_go rfl (X_p (p_move rfl rfl) ?_)
          first | refine L_go rfl (X_p (p_add' rfl rfl rfl (by unfold InI; omega)) ?_) | refine L_go rfl (X_p (p_add rfl rfl rfl) ?_)
          refine L_go rfl (X_p (p_leq rfl rfl rfl) ?_)
          refine L_then (.cons (k := 0) rfl (.cons (k := 3) rfl (.cons (k := 4) rfl (.cons (k := 6) rfl (.cons (k := 7) rfl (.cons (k := 8) rfl (.cons (k := 107) rfl .nil))))))) ?_
          refine V_cond rfl ?_ ?_
          · intro c7; try simp only [td] at c7
            have hpw := placeT_bnd hG hP.bnd (u := u + j) (by omega) k
            unfold SpanB at hpw
            refine V_mid (γ := Nat × Array MapEntry × Nat) (.cons (k := 0) rfl (.cons (k := 3) rfl (.cons (k := 4) rfl (.cons (k := 6) rfl (.cons (k := 7) rfl (.cons (k := 8) rfl .nil)))))) (fun (x11, es3, clk3) => [(11, .pointer (some ⟨x11, 0, none⟩)), (12, .int .i64 (moreF t j))]) (fun (x11, es3, clk3) => [(x11, .cells #[.int .i64 (placeT t ps k (u + j)).lo, .int .i64 (placeT t ps k (u + j)).hi] 103), (x6, .cells #[.int .i64 s.lo, .int .i64 s.hi] 103), (x7, .cells #[.int .i64 (placeT t ps k u).lo, .int .i64 (placeT t ps k u).hi] 103), (b2, .cells #[.int .i64 0, .int .i64 0] 103), (b1, .cells #[.int .i64 k, .int .i64 u] 125), (bm, .map es3 clk3)]) (fun (x11, es3, clk3) => Cache t ps es3) ?_ ?_
            · refine V_draw (.rd 0 (.rd 1 (.rd 2 (.rd 3 (.rd 4 (.rd 5 (.rd 6 (.rd 7 (.rd 9 (.rd 10 (.rd 11 (.rd 12 (.rd 13 (.rd 14 (.rd 15 (.rd 16 (.rd 17 (.rd 18 (.rd 19 (.wr2 8 [19, 18, 17, 16, 15, 14, 13, 12, 11, 10, 9, 6, 5, 4, 3, 2, 1] (.wr 20 [19, 18, 17, 16, 15, 14, 13, 12, 11, 10, 9, 7, 6, 5, 4, 3, 2, 1, 0] (.wr 21 [19, 18, 17, 16, 15, 14, 12, 11, 10, 9] (.rd 22 .done))) 20 [19, 18, 17, 16, 15, 14, 13, 12, 11, 10, 9, 7, 6, 5, 4, 3, 2, 1, 0] (.wr 8 [19, 18, 17, 16, 15, 14, 13, 12, 11, 10, 9, 6, 5, 4, 3, 2, 1] (.wr 21 [19, 18, 17, 16, 15, 14, 12, 11, 10, 9] (.rd 22 .done))))))))))))))))))))))) mixed (by kernel_rfl) rfl ?_
              refine D_p rfl (.plain rfl) (p_move rfl rfl) ?_
              refine D_p rfl (.plain rfl) (p_fieldo fo125_0 rfl rfl) ?_
              refine D_rd rfl (.plain rfl) (r_load ag3 rfl rfl (by repeat first | exact mH | apply mT) rfl) ?_
              refine D_p rfl (.plain rfl) (p_fieldo fo125_1 rfl rfl) ?_
              refine D_rd rfl (.plain rfl) (r_load ag3 rfl rfl (by repeat first | exact mH | apply mT) rfl) ?_
              refine D_p rfl (.plain rfl) (p_move rfl rfl) ?_
              first | refine D_p rfl (.plain rfl) (p_add' rfl rfl rfl (by unfold InI; omega)) ?_ | refine D_p rfl (.plain rfl) (p_add rfl rfl rfl) ?_
              refine D_p rfl (.plain rfl) (p_build (r := [_, _]) pl125 zr125 rfl rfl rfl) ?_
              refine D_p rfl (.plain rfl) (p_move rfl rfl) ?_
              refine D_p rfl (.plain rfl) (p_nil rfl rfl) ?_
              refine D_p rfl (.plain rfl) (p_fieldo fo120_0 rfl rfl) ?_
              refine D_p rfl (.plain rfl) (p_fieldo fo25_2 rfl rfl) ?_
              refine D_rd rfl (.plain rfl) (r_loadB ag3 rfl rfl (own_cell hbp _) (by simp only [Vc.add_block, List.mem_singleton]; assumption)) ?_
              refine D_p rfl (.plain rfl) (p_move rfl rfl) ?_
              refine D_p rfl (.plain rfl) (p_move rfl rfl) ?_
              first | refine D_p rfl (.plain rfl) (p_sub' rfl rfl rfl (by unfold InI; omega)) ?_ | refine D_p rfl (.plain rfl) (p_sub rfl rfl rfl) ?_
              first | refine D_p rfl (.plain rfl) (p_mul' rfl rfl rfl (by unfold InI; omega)) ?_ | refine D_p rfl (.plain rfl) (p_mul rfl rfl rfl) ?_
              first | refine D_p rfl (.plain rfl) (p_quo' rfl rfl rfl (by first | decide | omega) (by unfold InI; omega)) ?_ | refine D_p rfl (.plain rfl) (p_quo rfl rfl rfl (by first | decide | omega)) ?_
              first | refine D_p rfl (.plain rfl) (p_mul' rfl rfl rfl (by unfold InI; omega)) ?_ | refine D_p rfl (.plain rfl) (p_mul rfl rfl rfl) ?_
              refine D_wr2 rfl ?_ ?_
              · refine (.go (E' := [(13, _), (4, _), (2, _)]) rfl (.plain rfl) (w_callM rfl rfl rfl (fun o' => (by repeat first | exact .head | apply SetAt.tail)) (fun w hg => place_c bp bm es1 clk1 t ps k (u + j) hk (by omega) w (hP.good' hg) hc1 (hg.own (bm, _) (by repeat first | exact mH | apply mT)))) rfl ?_)
                rintro _ _ ⟨_, rfl, rfl, es3, clk3, rfl, hc3⟩
                refine ⟨(.cons rfl (.plain rfl) (r_loadB ag3 rfl rfl (own_cell hbp _) (by simp only [Vc.add_block, List.mem_singleton]; assumption)) (.cons rfl (.plain rfl) (r_load ag3 rfl rfl (by repeat first | exact mH | apply mT) rfl) (.cons rfl (.plain rfl) (r_load ag3 rfl rfl (by repeat first | exact mH | apply mT) rfl) .nil))), ?_⟩
                refine D_wr (.go (E' := [(13, _), (4, _), (2, _)]) rfl (.plain rfl) (w_alloc zr103 rfl) rfl ?_)
                rintro _ _ ⟨b3, hb3, rfl, rfl⟩
                refine ⟨(.cons rfl (.plain rfl) (r_loadB ag3 rfl rfl (own_cell hbp _) (by simp only [Vc.add_block, List.mem_singleton]; assumption)) (.cons rfl (.plain rfl) (r_load ag3 rfl rfl (by repeat first | exact mH | apply mT) rfl) (.cons rfl (.plain rfl) (r_load ag3 rfl rfl (by repeat first | exact mH | apply mT) rfl) .nil))), ?_⟩
                refine D_wr (.go (E' := []) rfl (.plain rfl) (w_store (cs' := [_, _]) sz103 rfl rfl rfl rfl rfl (by repeat first | exact .head | apply SetAt.tail) (Nat.le_of_ble_eq_true rfl) rfl) rfl ?_)
                rintro _ _ ⟨rfl, rfl⟩
                refine ⟨.nil, ?_⟩
                refine D_p rfl (.plain rfl) (p_assign rfl rfl) ?_
                refine D_then (.cons (k := 0) rfl (.cons (k := 3) rfl (.cons (k := 4) rfl (.cons (k := 6) rfl (.cons (k := 7) rfl (.cons (k := 8) rfl (.cons (k := 11) rfl (.cons (k := 12) rfl .nil)))))))) ?_
                refine ⟨(b3, es3, clk3), hc3, (.cons rfl (.cons rfl (.cons rfl (.cons rfl (.cons rfl (.cons rfl (.cons rfl (.cons rfl (.nil _))))))))), (by (try dsimp only); repeat (first | exact HSub.nil _ | refine HSub.take (by repeat first | exact Take.head | apply Take.tail) ?_ | exact HSub.refl _ | refine HSub.drop ?_ | refine HSub.app ?_)), rfl⟩
              · refine (.go (E' := [(13, _), (4, _), (2, _)]) rfl (.plain rfl) (w_alloc zr103 rfl) rfl ?_)
                rintro _ _ ⟨b3, hb3, rfl, rfl⟩
                refine ⟨(.cons rfl (.plain rfl) (r_loadB ag3 rfl rfl (own_cell hbp _) (by simp only [Vc.add_block, List.mem_singleton]; assumption)) (.cons rfl (.plain rfl) (r_load ag3 rfl rfl (by repeat first | exact mH | apply mT) rfl) (.cons rfl (.plain rfl) (r_load ag3 rfl rfl (by repeat first | exact mH | apply mT) rfl) .nil))), ?_⟩
                refine D_wr (.go (E' := [(13, _), (4, _), (2, _)]) rfl (.plain rfl) (w_callM rfl rfl rfl (fun o' => (by repeat first | exact .head | apply SetAt.tail)) (fun w hg => place_c bp bm es1 clk1 t ps k (u + j) hk (by omega) w (hP.good' hg) hc1 (hg.own (bm, _) (by repeat first | exact mH | apply mT)))) rfl ?_)
                rintro _ _ ⟨_, rfl, rfl, es3, clk3, rfl, hc3⟩
                refine ⟨(.cons rfl (.plain rfl) (r_loadB ag3 rfl rfl (own_cell hbp _) (by simp only [Vc.add_block, List.mem_singleton]; assumption)) (.cons rfl (.plain rfl) (r_load ag3 rfl rfl (by repeat first | exact mH | apply mT) rfl) (.cons rfl (.plain rfl) (r_load ag3 rfl rfl (by repeat first | exact mH | apply mT) rfl) .nil))), ?_⟩
                refine D_wr (.go (E' := []) rfl (.plain rfl) (w_store (cs' := [_, _]) sz103 rfl rfl rfl rfl rfl (by repeat first | exact .head | apply SetAt.tail) (Nat.le_of_ble_eq_true rfl) rfl) rfl ?_)
                rintro _ _ ⟨rfl, rfl⟩
                refine ⟨.nil, ?_⟩
                refine D_p rfl (.plain rfl) (p_assign rfl rfl) ?_
                refine D_then (.cons (k := 0) rfl (.cons (k := 3) rfl (.cons (k := 4) rfl (.cons (k := 6) rfl (.cons (k := 7) rfl (.cons (k := 8) rfl (.cons (k := 11) rfl (.cons (k := 12) rfl .nil)))))))) ?_
                refine ⟨(b3, es3, clk3), hc3, (.cons rfl (.cons rfl (.cons rfl (.cons rfl (.cons rfl (.cons rfl (.cons rfl (.cons rfl (.nil _))))))))), (by (try dsimp only); repeat (first | exact HSub.nil _ | refine HSub.take (by repeat first | exact Take.head | apply Take.tail) ?_ | exact HSub.refl _ | refine HSub.drop ?_ | refine HSub.app ?_)), rfl⟩
            · rintro ⟨x11, es3, clk3⟩ hc3
              refine V_seq ?_
              refine V_seq (V_region rfl ?_)
              refine L_go rfl (X_wr (w_callP rfl rfl rfl (fun w hg => empty_c x11 _ _ 103 w (hg.own (x11, _) (by repeat first | exact mH | apply mT)))) ?_)
              rintro _ _ ⟨rfl, rfl⟩
              refine L_then (.cons (k := 0) rfl (.cons (k := 3) rfl (.cons (k := 4) rfl (.cons (k := 6) rfl (.cons (k := 7) rfl (.cons (k := 8) rfl (.cons (k := 11) rfl (.cons (k := 12) rfl (.cons (k := 128) rfl .nil))))))))) ?_
              refine V_cond rfl ?_ ?_
              · intro c8; try simp only [td] at c8
                refine V_seq (V_region rfl ?_)
                refine L_go rfl (X_rd (r_loadA (vs := [_, _]) ag103 sz103 rfl rfl (by repeat first | exact mH | apply mT) rfl) ?_)
                refine L_go rfl (X_wr (w_store (cs' := [_, _]) sz103 rfl rfl rfl rfl rfl (by repeat first | exact .head | apply SetAt.tail) (Nat.le_of_ble_eq_true rfl) rfl) ?_)
                rintro _ _ ⟨rfl, rfl⟩
                refine L_go rfl (X_p (p_assign rfl rfl) ?_)
                refine L_then (.cons (k := 4) rfl (.cons (k := 5) rfl .nil)) ?_
                refine V_ret (then_r (blk_r (then_r (then_r (blk_r (then_r ?_))))))
                refine Leave.nil (.cellA (us := [_, _]) rfl ag103 sz103 (by repeat first | exact mH | apply mT) rfl (.tmp rfl .nil)) ?_
                exact ⟨_, (by repeat first | exact mH | apply mT), ⟨_, _, false, rfl, .inr ⟨rfl, fastT_none2 (by omega) ⟨by omega, by omega⟩ hN (fastB_skip (by omega)) (fastF_none (by omega) c8)⟩⟩, _, _, rfl, hc3⟩
              · intro c8; try simp only [td] at c8
                refine V_skip (then_n ?_)
                refine V_region rfl ?_
                refine L_go rfl (X_p (p_fieldo fo103_0 rfl rfl) ?_)
                refine L_go rfl (X_p (p_fieldo fo32_0 rfl rfl) ?_)
                refine L_go rfl (X_rd (r_load ag3 rfl rfl (by repeat first | exact mH | apply mT) rfl) ?_)
                refine L_go rfl (X_p (p_fieldo fo103_0 rfl rfl) ?_)
                refine L_go rfl (X_p (p_fieldo fo32_1 rfl rfl) ?_)
                refine L_go rfl (X_rd (r_load ag3 rfl rfl (by repeat first | exact mH | apply mT) rfl) ?_)
                first | refine L_go rfl (X_p (p_sub' rfl rfl rfl (by unfold InI; omega)) ?_) | refine L_go rfl (X_p (p_sub rfl rfl rfl) ?_)
                refine L_go rfl (X_p (p_move rfl rfl) ?_)
                first | refine L_go rfl (X_p (p_sub' rfl rfl rfl (by unfold InI; omega)) ?_) | refine L_go rfl (X_p (p_sub rfl rfl rfl) ?_)
                refine L_go rfl (X_p (p_fieldo fo103_0 rfl rfl) ?_)
                refine L_go rfl (X_p (p_fieldo fo32_1 rfl rfl) ?_)
                refine L_go rfl (X_rd (r_load ag3 rfl rfl (by repeat first | exact mH | apply mT) rfl) ?_)
                refine L_go rfl (X_p (p_fieldo fo103_0 rfl rfl) ?_)
                refine L_go rfl (X_p (p_fieldo fo32_0 rfl rfl) ?_)
                refine L_go rfl (X_rd (r_load ag3 rfl rfl (by repeat first | exact mH | apply mT) rfl) ?_)
                first | refine L_go rfl (X_p (p_sub' rfl rfl rfl (by unfold InI; omega)) ?_) | refine L_go rfl (X_p (p_sub rfl rfl rfl) ?_)
                refine L_go rfl (X_p (p_move rfl rfl) ?_)
                first | refine L_go rfl (X_p (p_add' rfl rfl rfl (by unfold InI; omega)) ?_) | refine L_go rfl (X_p (p_add rfl rfl rfl) ?_)
                refine L_go rfl (X_p (p_move rfl rfl) ?_)
                refine L_go rfl (X_wr (w_callM rfl rfl rfl (fun o' => (by repeat first | exact .head | apply SetAt.tail)) (fun w hg => gone_c x6 s.lo s.hi 103 _ _ _ (by omega) (by omega) (by omega) w (hg.own (x6, _) (by repeat first | exact mH | apply mT)))) ?_)
                rintro _ _ ⟨_, rfl, rfl, rfl⟩
                refine L_keep (.cons (k := 0) rfl (.cons (k := 3) rfl (.cons (k := 4) rfl (.cons (k := 6) rfl (.cons (k := 7) rfl (.cons (k := 8) rfl .nil)))))) (blk_n (then_n ?_))
                refine V_region rfl ?_
                refine L_go rfl (X_p (p_move rfl rfl) ?_)
                first | refine L_go rfl (X_p (p_add' rfl rfl rfl (by unfold InI; omega)) ?_) | refine L_go rfl (X_p (p_add rfl rfl rfl) ?_)
                refine L_go rfl (X_p (p_assign rfl rfl) ?_)
                refine L_keep (.cons (k := 0) rfl (.cons (k := 3) rfl (.cons (k := 4) rfl (.cons (k := 6) rfl (.cons (k := 7) rfl (.cons (k := 8) rfl .nil)))))) (then_n ?_)
                refine ⟨(j + 1, sF t ps k u j s, es3, clk3), ?_, ?_, (.cons rfl (.cons rfl (.cons rfl (.cons rfl (.cons rfl (.cons rfl (.nil _))))))), (by repeat (first | exact List.Sublist.refl _ | apply List.Sublist.cons_cons | apply List.Sublist.cons | apply List.sublist_append_of_sublist_right)), rfl⟩
                · exact ⟨by omega, by omega, fastN_go hj0 hN (fastB_skip (by omega)) (fastF_go (by omega) c8), hc3⟩
                · dsimp only; omega
          · intro c7; try simp only [td] at c7
            refine V_skip (blk_n (then_n ?_))
            refine V_region rfl ?_
            refine L_go rfl (X_p (p_move rfl rfl) ?_)
            first | refine L_go rfl (X_p (p_add' rfl rfl rfl (by unfold InI; omega)) ?_) | refine L_go rfl (X_p (p_add rfl rfl rfl) ?_)
            refine L_go rfl (X_p (p_assign rfl rfl) ?_)
            refine L_keep (.cons (k := 0) rfl (.cons (k := 3) rfl (.cons (k := 4) rfl (.cons (k := 6) rfl (.cons (k := 7) rfl (.cons (k := 8) rfl .nil)))))) (then_n ?_)
            refine ⟨(j + 1, s, es1, clk1), ?_, ?_, (.cons rfl (.cons rfl (.cons rfl (.cons rfl (.cons rfl (.cons rfl (.nil _))))))), (by repeat (first | exact List.Sublist.refl _ | apply List.Sublist.cons_cons | apply List.Sublist.cons | apply List.sublist_append_of_sublist_right)), rfl⟩
            · exact ⟨by omega, by omega, fastN_go hj0 hN (fastB_skip (by omega)) (fastF_skip (by omega)), hc1⟩
            · dsimp only; omega
      · intro c2; try simp only [td] at c2
        refine V_exit (then_e (then_e (blk_e rfl (then_n ?_))))
        refine V_seq (V_draw (.rd 0 (.wr 1 [0] (.rd 2 (.wr 3 [2] (.rd 4 .done))))) mixed (by kernel_rfl) rfl ?_)
        refine D_rd rfl (.plain rfl) (r_loadA (vs := [_, _]) ag103 sz103 rfl rfl (by repeat first | exact mH | apply mT) rfl) ?_
        refine D_wr (.go (E' := [(0, _)]) rfl (.plain rfl) (w_callP rfl rfl rfl (fun w hg => empty_c x6 _ _ 103 w (hg.own (x6, _) (by repeat first | exact mH | apply mT)))) rfl ?_)
        rintro _ _ ⟨rfl, rfl⟩
        refine ⟨(.cons rfl (.plain rfl) (r_loadA (vs := [_, _]) ag103 sz103 rfl rfl (by repeat first | exact mH | apply mT) rfl) .nil), ?_⟩
        refine D_p rfl (.plain rfl) (p_not rfl rfl) ?_
        refine D_wr (.go (E' := []) rfl (.plain rfl) (w_store (cs' := [_, _]) sz103 rfl rfl rfl rfl rfl (by repeat first | exact .head | apply SetAt.tail) (Nat.le_of_ble_eq_true rfl) rfl) rfl ?_)
        rintro _ _ ⟨rfl, rfl⟩
        refine ⟨.nil, ?_⟩
        refine D_p rfl (.plain rfl) (p_assign rfl rfl) ?_
        refine D_then (.cons (k := 4) rfl (.cons (k := 5) rfl .nil)) ?_
        refine V_ret ?_
        refine Leave.nil (.cellA (us := [_, _]) rfl ag103 sz103 (by repeat first | exact mH | apply mT) rfl (.tmp rfl .nil)) ?_
        have hj9 : j = 9 := by omega
        subst hj9
        refine ⟨_, (by repeat first | exact mH | apply mT), ⟨s.lo, s.hi, !(Span.none s), rfl, ?_⟩, _, _, rfl, hc1⟩
        rw [fastT_end (by omega) hN]
        cases hh : Span.none s
        · exact .inl ⟨rfl, rfl⟩
        · exact .inr ⟨rfl, rfl⟩

end Go.Proofs.Ytclbbchehjapjab
