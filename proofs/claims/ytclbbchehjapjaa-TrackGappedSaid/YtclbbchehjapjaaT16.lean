/- Ytclbbchehjapjaa: the reference's speeds and boxes. -/
import Derived.Test.YtclbbchehjapjaaT15
set_option linter.all false
namespace Go.Proofs.Ytclbbchehjapjaa
open Go.Vc Go.Tk
set_option maxRecDepth 100000
set_option maxHeartbeats 4000000 in
theorem rspeeds_c (t : Task) (v : Value) (ps : List Int) (sv : Value) (w : World) (ht : TaskR w v t) (hs : SliceR w 1 sv (ps.map fun n => [Value.int .i64 n])) (hG : GoodT t) (hp : ∀ i ∈ ps, 0 ≤ i ∧ i < t.plots.length) (hl : ps.length ≤ 60) (k u : Int) (hu : 0 ≤ u ∧ u ≤ 100000) : FnC Try.prog 100 [v, sv, .int .i64 k, .int .i64 u] w fun v w' => ∃ Hc, Vc.Good w [] Hc w' ∧ (SpeedV t ps k u v ∧ Hc = []) := by
  have hT := ht
  obtain ⟨tv, pv, rfl, htr, hpl⟩ := ht.ex
  obtain ⟨ta, tc, rfl, htc, hte⟩ := htr.ex
  obtain ⟨pa, pc, rfl, hpc, hpe⟩ := hpl.ex
  have hltr := hT.ltr
  have hlpl := hT.lpl
  simp only [List.length_map] at hT htc hpc ⊢
  have hS := hs
  obtain ⟨sa, sc, rfl, hsc, hse⟩ := hs.ex
  obtain ⟨hfrm, hspd, hacc⟩ := hG.nums
  have hpl60 := hG.h2
  simp only [List.length_map] at hS hsc ⊢
  refine fn_new Try.func100 rfl (by kernel_rfl) Try.ntmps100 Try.results100 rfl ?_
  refine V_seq (V_region rfl ?_)
  refine L_go rfl (X_wr (w_box rfl rfl) ?_)
  rintro _ _ ⟨b1, hb1, rfl, rfl⟩
  refine L_go rfl (X_wr (w_alloc zr33 rfl) ?_)
  rintro _ _ ⟨b2, hb2, rfl, rfl⟩
  refine L_go rfl (X_p (p_assign rfl rfl) ?_)
  refine L_then (.cons (k := 1) rfl (.cons (k := 2) rfl (.cons (k := 3) rfl (.cons (k := 4) rfl (.cons (k := 8) rfl .nil))))) ?_
  refine V_seq ?_
  refine V_seq (V_region rfl ?_)
  refine L_go rfl (X_p (p_move rfl rfl) ?_)
  refine L_go rfl (X_p (p_fieldo fo25_0 rfl rfl) ?_)
  refine L_go rfl (X_rd (r_load ag3 rfl rfl (by repeat first | exact mH | apply mT) rfl) ?_)
  refine L_go rfl (X_p (p_lss rfl rfl rfl) ?_)
  refine L_then (.cons (k := 1) rfl (.cons (k := 2) rfl (.cons (k := 3) rfl (.cons (k := 4) rfl (.cons (k := 8) rfl (.cons (k := 20) rfl .nil)))))) ?_
  refine V_cond rfl ?_ ?_
  · intro c1; try simp only [td] at c1
    refine V_seq (V_region rfl ?_)
    refine L_go rfl (X_p (p_build (r := [_, _]) pl33 zr33 rfl rfl rfl) ?_)
    refine L_go rfl (X_wr (w_store (cs' := [_, _]) sz33 rfl rfl rfl rfl rfl (by repeat first | exact .head | apply SetAt.tail) (Nat.le_of_ble_eq_true rfl) rfl) ?_)
    rintro _ _ ⟨rfl, rfl⟩
    refine L_go rfl (X_p (p_assign rfl rfl) ?_)
    refine L_then (.cons (k := 8) rfl (.cons (k := 9) rfl .nil)) ?_
    refine V_ret (then_r ?_)
    refine Leave.nil (.cellA (us := [_, _]) rfl ag33 sz33 (by repeat first | exact mH | apply mT) rfl (.tmp rfl .nil)) ?_
    exact ⟨[], HSub.nil _, ⟨0, 0, true, rfl, .inl ⟨rfl, by rw [fastT, if_pos (by omega)]; rfl⟩⟩, rfl⟩
  · intro c1; try simp only [td] at c1
    have hm0 := mul_bnd (show 0 ≤ t.accel ∧ t.accel ≤ 1000000 by omega) (show 0 ≤ u - t.frm + 1 ∧ u - t.frm + 1 ≤ 100001 by omega)
    refine V_skip (then_n ?_)
    refine V_seq (V_region rfl ?_)
    refine L_go rfl (X_p (p_fieldo fo25_1 rfl rfl) ?_)
    refine L_go rfl (X_rd (r_load ag3 rfl rfl (by repeat first | exact mH | apply mT) rfl) ?_)
    refine L_go rfl (X_p (p_fieldo fo25_2 rfl rfl) ?_)
    refine L_go rfl (X_rd (r_load ag3 rfl rfl (by repeat first | exact mH | apply mT) rfl) ?_)
    refine L_go rfl (X_p (p_move rfl rfl) ?_)
    refine L_go rfl (X_p (p_fieldo fo25_0 rfl rfl) ?_)
    refine L_go rfl (X_rd (r_load ag3 rfl rfl (by repeat first | exact mH | apply mT) rfl) ?_)
    first | refine L_go rfl (X_p (p_sub' rfl rfl rfl (by unfold InI; omega)) ?_) | refine L_go rfl (X_p (p_sub rfl rfl rfl) ?_)
    first | refine L_go rfl (X_p (p_add' rfl rfl rfl (by unfold InI; omega)) ?_) | refine L_go rfl (X_p (p_add rfl rfl rfl) ?_)
    first | refine L_go rfl (X_p (p_mul' rfl rfl rfl (by unfold InI; omega)) ?_) | refine L_go rfl (X_p (p_mul rfl rfl rfl) ?_)
    refine L_go rfl (X_p (p_min rfl rfl rfl) ?_)
    refine L_go rfl (X_wr (w_callP rfl rfl rfl (fun w hg => raround_c _ _ (by omega) (by omega) w)) ?_)
    rintro _ _ ⟨rfl, rfl⟩
    refine L_go rfl (X_wr (w_alloc zr33 rfl) ?_)
    rintro _ _ ⟨b3, hb3, rfl, rfl⟩
    refine L_go rfl (X_wr (w_store (cs' := [_, _]) sz33 rfl rfl rfl rfl rfl (by repeat first | exact .head | apply SetAt.tail) (Nat.le_of_ble_eq_true rfl) rfl) ?_)
    rintro _ _ ⟨rfl, rfl⟩
    refine L_then (.cons (k := 1) rfl (.cons (k := 2) rfl (.cons (k := 3) rfl (.cons (k := 4) rfl (.cons (k := 8) rfl (.cons (k := 10) rfl .nil)))))) ?_
    refine V_seq (V_region rfl ?_)
    refine L_go rfl (X_rd (r_loadA (vs := [_, _, _, _, _]) ag25 sz25 rfl rfl (by repeat first | exact mH | apply mT) rfl) ?_)
    refine L_go rfl (X_p (p_move rfl rfl) ?_)
    refine L_go rfl (X_p (p_move rfl rfl) ?_)
    refine L_go rfl (X_p (p_move rfl rfl) ?_)
    refine L_go rfl (X_wr (w_callP rfl rfl rfl (fun w hg => rplaces_c t _ ps _ w (hT.good hg) (hS.good hg) hG hp hl _ _ (by omega))) ?_)
    rintro _ _ ⟨rfl, rfl⟩
    refine L_go rfl (X_wr (w_alloc zr33 rfl) ?_)
    rintro _ _ ⟨b4, hb4, rfl, rfl⟩
    refine L_go rfl (X_wr (w_store (cs' := [_, _]) sz33 rfl rfl rfl rfl rfl (by repeat first | exact .head | apply SetAt.tail) (Nat.le_of_ble_eq_true rfl) rfl) ?_)
    rintro _ _ ⟨rfl, rfl⟩
    refine L_then (.cons (k := 1) rfl (.cons (k := 2) rfl (.cons (k := 3) rfl (.cons (k := 4) rfl (.cons (k := 8) rfl (.cons (k := 10) rfl (.cons (k := 11) rfl .nil))))))) ?_
    refine V_seq ?_
    refine V_seq (V_region rfl ?_)
    refine L_go rfl (X_p (p_assign rfl rfl) ?_)
    refine L_then (.cons (k := 1) rfl (.cons (k := 2) rfl (.cons (k := 3) rfl (.cons (k := 4) rfl (.cons (k := 8) rfl (.cons (k := 10) rfl (.cons (k := 11) rfl (.cons (k := 12) rfl .nil)))))))) ?_
    refine V_block ?_
    refine V_loop1 (γ := Int × Span) (.cons (k := 1) rfl (.cons (k := 2) rfl (.cons (k := 3) rfl (.cons (k := 4) rfl (.cons (k := 8) rfl (.cons (k := 10) rfl (.cons (k := 11) rfl .nil))))))) (fun (j, s) => [(12, .int .i64 j)]) (fun (j, s) => [(b4, .cells #[.int .i64 (placeT t ps k u).lo, .int .i64 (placeT t ps k u).hi] 33), (b3, .cells #[.int .i64 s.lo, .int .i64 s.hi] 33), (b2, .cells #[.int .i64 0, .int .i64 0] 33), (b1, t.obj (.slice ta t.trackers.length tc) (.slice pa t.plots.length pc) 25)]) (fun (j, s) => 1 ≤ j ∧ j ≤ 9 ∧ fastN t ps k u (j - 1).toNat = some s) (fun (j, s) => (9 - j).toNat) ((1, ⟨0 - (min t.speed (t.accel * (u - t.frm + 1))), 0 + (min t.speed (t.accel * (u - t.frm + 1)))⟩)) (.cons rfl (.nil _)) (by repeat (first | exact List.Sublist.refl _ | apply List.Sublist.cons_cons | apply List.Sublist.cons)) (⟨by omega, by omega, by show some (room0 _) = _; simp [room0]⟩) ?_
    rintro ⟨j, s⟩ hi
    obtain ⟨hj0, hj1, hN⟩ := hi
    refine V_seq ?_
    refine V_seq (V_region rfl ?_)
    refine L_go rfl (X_p (p_move rfl rfl) ?_)
    refine L_go rfl (X_p (p_leq rfl rfl rfl) ?_)
    refine L_then (.cons (k := 1) rfl (.cons (k := 2) rfl (.cons (k := 3) rfl (.cons (k := 4) rfl (.cons (k := 8) rfl (.cons (k := 10) rfl (.cons (k := 11) rfl (.cons (k := 12) rfl (.cons (k := 40) rfl .nil))))))))) ?_
    refine V_cond rfl ?_ ?_
    · intro c2; try simp only [td] at c2
      have hmb := moreB_bnd hG (j := j) ⟨by omega, by omega⟩
      have hmf := moreF_bnd hG (j := j) ⟨by omega, by omega⟩
      have hmb3 : 0 ≤ moreB t j ∧ moreB t j ≤ 72000000 := hmb.2.2
      have hmf3 : 0 ≤ moreF t j ∧ moreF t j ≤ 56000000 := hmf.2.2
      have hpu := placeT_bnd hG hp hu.2 k
      unfold SpanB at hpu
      have haj := mul_bnd (show 0 ≤ t.accel ∧ t.accel ≤ 1000000 by omega) (show 0 ≤ j ∧ j ≤ 8 by omega)
      have haj1 := mul_bnd haj (show 0 ≤ j + 1 ∧ j + 1 ≤ 9 by omega)
      have haj2 := mul_bnd haj (show 0 ≤ j - 1 ∧ j - 1 ≤ 7 by omega)
      have hd1 := tdiv_bnd (b := 2) (by omega) haj1
      have hd2 := tdiv_bnd (b := 2) (by omega) haj2
      refine V_skip (then_n ?_)
      refine V_seq ?_
      refine V_block ?_
      refine V_seq ?_
      refine V_seq (V_region rfl ?_)
      refine L_go rfl (X_p (p_move rfl rfl) ?_)
      refine L_go rfl (X_p (p_move rfl rfl) ?_)
      first | refine L_go rfl (X_p (p_sub' rfl rfl rfl (by unfold InI; omega)) ?_) | refine L_go rfl (X_p (p_sub rfl rfl rfl) ?_)
      refine L_go rfl (X_p (p_fieldo fo25_0 rfl rfl) ?_)
      refine L_go rfl (X_rd (r_load ag3 rfl rfl (by repeat first | exact mH | apply mT) rfl) ?_)
      refine L_go rfl (X_p (p_geq rfl rfl rfl) ?_)
      refine L_then (.cons (k := 1) rfl (.cons (k := 2) rfl (.cons (k := 3) rfl (.cons (k := 4) rfl (.cons (k := 8) rfl (.cons (k := 10) rfl (.cons (k := 11) rfl (.cons (k := 12) rfl (.cons (k := 48) rfl .nil))))))))) ?_
      refine V_cond rfl ?_ ?_
      · intro c3; try simp only [td] at c3
        have hpv := placeT_bnd hG hp (u := u - j) (by omega) k
        unfold SpanB at hpv
        refine V_seq (V_region rfl ?_)
        refine L_go rfl (X_rd (r_loadA (vs := [_, _, _, _, _]) ag25 sz25 rfl rfl (by repeat first | exact mH | apply mT) rfl) ?_)
        refine L_go rfl (X_p (p_move rfl rfl) ?_)
        refine L_go rfl (X_p (p_move rfl rfl) ?_)
        refine L_go rfl (X_p (p_move rfl rfl) ?_)
        refine L_go rfl (X_p (p_move rfl rfl) ?_)
        first | refine L_go rfl (X_p (p_sub' rfl rfl rfl (by unfold InI; omega)) ?_) | refine L_go rfl (X_p (p_sub rfl rfl rfl) ?_)
        refine L_go rfl (X_wr (w_callP rfl rfl rfl (fun w hg => rplaces_c t _ ps _ w (hT.good hg) (hS.good hg) hG hp hl _ _ (by omega))) ?_)
        rintro _ _ ⟨rfl, rfl⟩
        refine L_go rfl (X_wr (w_alloc zr33 rfl) ?_)
        rintro _ _ ⟨b5, hb5, rfl, rfl⟩
        refine L_go rfl (X_wr (w_store (cs' := [_, _]) sz33 rfl rfl rfl rfl rfl (by repeat first | exact .head | apply SetAt.tail) (Nat.le_of_ble_eq_true rfl) rfl) ?_)
        rintro _ _ ⟨rfl, rfl⟩
        refine L_then (.cons (k := 1) rfl (.cons (k := 2) rfl (.cons (k := 3) rfl (.cons (k := 4) rfl (.cons (k := 8) rfl (.cons (k := 10) rfl (.cons (k := 11) rfl (.cons (k := 12) rfl (.cons (k := 13) rfl .nil))))))))) ?_
        refine V_seq ?_
        refine V_seq (V_region rfl ?_)
        refine L_go rfl (X_rd (r_loadA (vs := [_, _]) ag33 sz33 rfl rfl (by repeat first | exact mH | apply mT) rfl) ?_)
        refine L_go rfl (X_wr (w_callP rfl rfl rfl (fun w hg => rnone_c _ _ w)) ?_)
        rintro _ _ ⟨rfl, rfl⟩
        refine L_then (.cons (k := 1) rfl (.cons (k := 2) rfl (.cons (k := 3) rfl (.cons (k := 4) rfl (.cons (k := 8) rfl (.cons (k := 10) rfl (.cons (k := 11) rfl (.cons (k := 12) rfl (.cons (k := 13) rfl (.cons (k := 57) rfl .nil)))))))))) ?_
        refine V_cond rfl ?_ ?_
        · intro c4; try simp only [td] at c4
          refine V_seq (V_region rfl ?_)
          refine L_go rfl (X_rd (r_loadA (vs := [_, _]) ag33 sz33 rfl rfl (by repeat first | exact mH | apply mT) rfl) ?_)
          refine L_go rfl (X_wr (w_store (cs' := [_, _]) sz33 rfl rfl rfl rfl rfl (by repeat first | exact .head | apply SetAt.tail) (Nat.le_of_ble_eq_true rfl) rfl) ?_)
          rintro _ _ ⟨rfl, rfl⟩
          refine L_go rfl (X_p (p_assign rfl rfl) ?_)
          refine L_then (.cons (k := 8) rfl (.cons (k := 9) rfl .nil)) ?_
          refine V_ret (then_r (then_r (blk_r (then_r (then_r (blk_r (then_r ?_)))))))
          refine Leave.nil (.cellA (us := [_, _]) rfl ag33 sz33 (by repeat first | exact mH | apply mT) rfl (.tmp rfl .nil)) ?_
          exact ⟨[], HSub.nil _, ⟨_, _, false, rfl, .inr ⟨rfl, fastT_none1 (by omega) ⟨by omega, by omega⟩ hN (fastB_none (by omega) c4)⟩⟩, rfl⟩
        · intro c4; try simp only [td] at c4
          refine V_skip (then_n ?_)
          refine V_seq (V_region rfl ?_)
          refine L_go rfl (X_p (p_fieldo fo25_2 rfl rfl) ?_)
          refine L_go rfl (X_rd (r_load ag3 rfl rfl (by repeat first | exact mH | apply mT) rfl) ?_)
          refine L_go rfl (X_p (p_move rfl rfl) ?_)
          first | refine L_go rfl (X_p (p_mul' rfl rfl rfl (by unfold InI; omega)) ?_) | refine L_go rfl (X_p (p_mul rfl rfl rfl) ?_)
          refine L_go rfl (X_p (p_move rfl rfl) ?_)
          first | refine L_go rfl (X_p (p_add' rfl rfl rfl (by unfold InI; omega)) ?_) | refine L_go rfl (X_p (p_add rfl rfl rfl) ?_)
          first | refine L_go rfl (X_p (p_mul' rfl rfl rfl (by unfold InI; omega)) ?_) | refine L_go rfl (X_p (p_mul rfl rfl rfl) ?_)
          refine L_go rfl (X_p (show RdP _ _ _ (.int .i64 (moreB t j)) from moreB_alt t j ▸ p_quo' rfl rfl rfl (by decide) (by unfold InI; omega)) ?_)
          refine L_go rfl (X_p (p_assign rfl rfl) ?_)
          refine L_then (.cons (k := 1) rfl (.cons (k := 2) rfl (.cons (k := 3) rfl (.cons (k := 4) rfl (.cons (k := 8) rfl (.cons (k := 10) rfl (.cons (k := 11) rfl (.cons (k := 12) rfl (.cons (k := 13) rfl (.cons (k := 14) rfl .nil)))))))))) ?_
          refine V_draw (.rd 0 (.rd 1 (.rd 2 (.rd 3 (.rd 4 (.rd 5 (.rd 6 (.rd 7 (.rd 8 (.rd 10 (.rd 11 (.rd 12 (.rd 13 (.rd 14 (.rd 15 (.rd 16 (.rd 17 (.wr 9 [17, 16, 15, 14, 13, 12, 11, 10, 6, 5, 4, 3, 2, 1, 0] (.wr 18 [15, 14, 13, 12, 11, 10, 8, 7, 6, 5, 4, 3, 2, 1, 0] (.rd 19 (.wr 20 [17, 16, 15, 14, 13, 12, 11, 10, 8, 7, 6, 5, 4, 3, 2, 1] (.wr 21 [] .done)))))))))))))))))))))) mixed (by kernel_rfl) rfl ?_
          refine D_rd rfl (.plain rfl) (r_loadA (vs := [_, _]) ag33 sz33 rfl rfl (by repeat first | exact mH | apply mT) rfl) ?_
          refine D_p rfl (.plain rfl) (p_fieldo fo33_0 rfl rfl) ?_
          refine D_rd rfl (.plain rfl) (r_load ag3 rfl rfl (by repeat first | exact mH | apply mT) rfl) ?_
          refine D_p rfl (.plain rfl) (p_fieldo fo33_1 rfl rfl) ?_
          refine D_rd rfl (.plain rfl) (r_load ag3 rfl rfl (by repeat first | exact mH | apply mT) rfl) ?_
          first | refine D_p rfl (.plain rfl) (p_sub' rfl rfl rfl (by unfold InI; omega)) ?_ | refine D_p rfl (.plain rfl) (p_sub rfl rfl rfl) ?_
          refine D_p rfl (.plain rfl) (p_move rfl rfl) ?_
          first | refine D_p rfl (.plain rfl) (p_sub' rfl rfl rfl (by unfold InI; omega)) ?_ | refine D_p rfl (.plain rfl) (p_sub rfl rfl rfl) ?_
          refine D_p rfl (.plain rfl) (p_move rfl rfl) ?_
          refine D_p rfl (.plain rfl) (p_fieldo fo33_1 rfl rfl) ?_
          refine D_rd rfl (.plain rfl) (r_load ag3 rfl rfl (by repeat first | exact mH | apply mT) rfl) ?_
          refine D_p rfl (.plain rfl) (p_fieldo fo33_0 rfl rfl) ?_
          refine D_rd rfl (.plain rfl) (r_load ag3 rfl rfl (by repeat first | exact mH | apply mT) rfl) ?_
          first | refine D_p rfl (.plain rfl) (p_sub' rfl rfl rfl (by unfold InI; omega)) ?_ | refine D_p rfl (.plain rfl) (p_sub rfl rfl rfl) ?_
          refine D_p rfl (.plain rfl) (p_move rfl rfl) ?_
          first | refine D_p rfl (.plain rfl) (p_add' rfl rfl rfl (by unfold InI; omega)) ?_ | refine D_p rfl (.plain rfl) (p_add rfl rfl rfl) ?_
          refine D_p rfl (.plain rfl) (p_move rfl rfl) ?_
          refine D_wr (.go (E' := [(13, _), (11, _), (4, _), (2, _), (0, _)]) rfl (.plain rfl) (w_callP rfl rfl rfl (fun w hg => rceil_c _ _ (by omega) (by omega) w)) rfl ?_)
          rintro _ _ ⟨rfl, rfl⟩
          refine ⟨(.cons rfl (.plain rfl) (r_load ag3 rfl rfl (by repeat first | exact mH | apply mT) rfl) (.cons rfl (.plain rfl) (r_load ag3 rfl rfl (by repeat first | exact mH | apply mT) rfl) (.cons rfl (.plain rfl) (r_load ag3 rfl rfl (by repeat first | exact mH | apply mT) rfl) (.cons rfl (.plain rfl) (r_load ag3 rfl rfl (by repeat first | exact mH | apply mT) rfl) (.cons rfl (.plain rfl) (r_loadA (vs := [_, _]) ag33 sz33 rfl rfl (by repeat first | exact mH | apply mT) rfl) .nil))))), ?_⟩
          refine D_wr (.go (E' := [(13, _), (11, _), (4, _), (2, _), (0, _)]) rfl (.plain rfl) (w_callP rfl rfl rfl (fun w hg => rfloor_c _ _ (by omega) (by omega) w)) rfl ?_)
          rintro _ _ ⟨rfl, rfl⟩
          refine ⟨(.cons rfl (.plain rfl) (r_load ag3 rfl rfl (by repeat first | exact mH | apply mT) rfl) (.cons rfl (.plain rfl) (r_load ag3 rfl rfl (by repeat first | exact mH | apply mT) rfl) (.cons rfl (.plain rfl) (r_load ag3 rfl rfl (by repeat first | exact mH | apply mT) rfl) (.cons rfl (.plain rfl) (r_load ag3 rfl rfl (by repeat first | exact mH | apply mT) rfl) (.cons rfl (.plain rfl) (r_loadA (vs := [_, _]) ag33 sz33 rfl rfl (by repeat first | exact mH | apply mT) rfl) .nil))))), ?_⟩
          refine D_p rfl (.plain rfl) (p_build (r := [_, _]) pl33 zr33 rfl rfl rfl) ?_
          refine D_wr (.go (E' := [(13, _), (11, _), (4, _), (2, _)]) rfl (.plain rfl) (w_callP rfl rfl rfl (fun w hg => rcommon_c _ _ _ _ w)) rfl ?_)
          rintro _ _ ⟨rfl, rfl⟩
          refine ⟨(.cons rfl (.plain rfl) (r_load ag3 rfl rfl (by repeat first | exact mH | apply mT) rfl) (.cons rfl (.plain rfl) (r_load ag3 rfl rfl (by repeat first | exact mH | apply mT) rfl) (.cons rfl (.plain rfl) (r_load ag3 rfl rfl (by repeat first | exact mH | apply mT) rfl) (.cons rfl (.plain rfl) (r_load ag3 rfl rfl (by repeat first | exact mH | apply mT) rfl) .nil)))), ?_⟩
          refine D_wr (.go (E' := []) rfl (.plain rfl) (w_store (cs' := [_, _]) sz33 rfl rfl rfl rfl rfl (by repeat first | exact .head | apply SetAt.tail) (Nat.le_of_ble_eq_true rfl) rfl) rfl ?_)
          rintro _ _ ⟨rfl, rfl⟩
          refine ⟨.nil, ?_⟩
          refine D_then (.cons (k := 1) rfl (.cons (k := 2) rfl (.cons (k := 3) rfl (.cons (k := 4) rfl (.cons (k := 8) rfl (.cons (k := 10) rfl (.cons (k := 11) rfl (.cons (k := 12) rfl .nil)))))))) ?_
          refine V_seq (V_region rfl ?_)
          refine L_go rfl (X_p (p_move rfl rfl) ?_)
          refine L_go rfl (X_p (p_move rfl rfl) ?_)
          first | refine L_go rfl (X_p (p_add' rfl rfl rfl (by unfold InI; omega)) ?_) | refine L_go rfl (X_p (p_add rfl rfl rfl) ?_)
          refine L_go rfl (X_p (p_leq rfl rfl rfl) ?_)
          refine L_then (.cons (k := 1) rfl (.cons (k := 2) rfl (.cons (k := 3) rfl (.cons (k := 4) rfl (.cons (k := 8) rfl (.cons (k := 10) rfl (.cons (k := 11) rfl (.cons (k := 12) rfl (.cons (k := 91) rfl .nil))))))))) ?_
          refine V_cond rfl ?_ ?_
          · intro c5; try simp only [td] at c5
            have hpw := placeT_bnd hG hp (u := u + j) (by omega) k
            unfold SpanB at hpw
            refine V_seq (V_region rfl ?_)
            refine L_go rfl (X_rd (r_loadA (vs := [_, _, _, _, _]) ag25 sz25 rfl rfl (by repeat first | exact mH | apply mT) rfl) ?_)
            refine L_go rfl (X_p (p_move rfl rfl) ?_)
            refine L_go rfl (X_p (p_move rfl rfl) ?_)
            refine L_go rfl (X_p (p_move rfl rfl) ?_)
            refine L_go rfl (X_p (p_move rfl rfl) ?_)
            first | refine L_go rfl (X_p (p_add' rfl rfl rfl (by unfold InI; omega)) ?_) | refine L_go rfl (X_p (p_add rfl rfl rfl) ?_)
            refine L_go rfl (X_wr (w_callP rfl rfl rfl (fun w hg => rplaces_c t _ ps _ w (hT.good hg) (hS.good hg) hG hp hl _ _ (by omega))) ?_)
            rintro _ _ ⟨rfl, rfl⟩
            refine L_go rfl (X_wr (w_alloc zr33 rfl) ?_)
            rintro _ _ ⟨b6, hb6, rfl, rfl⟩
            refine L_go rfl (X_wr (w_store (cs' := [_, _]) sz33 rfl rfl rfl rfl rfl (by repeat first | exact .head | apply SetAt.tail) (Nat.le_of_ble_eq_true rfl) rfl) ?_)
            rintro _ _ ⟨rfl, rfl⟩
            refine L_then (.cons (k := 1) rfl (.cons (k := 2) rfl (.cons (k := 3) rfl (.cons (k := 4) rfl (.cons (k := 8) rfl (.cons (k := 10) rfl (.cons (k := 11) rfl (.cons (k := 12) rfl (.cons (k := 15) rfl .nil))))))))) ?_
            refine V_seq ?_
            refine V_seq (V_region rfl ?_)
            refine L_go rfl (X_rd (r_loadA (vs := [_, _]) ag33 sz33 rfl rfl (by repeat first | exact mH | apply mT) rfl) ?_)
            refine L_go rfl (X_wr (w_callP rfl rfl rfl (fun w hg => rnone_c _ _ w)) ?_)
            rintro _ _ ⟨rfl, rfl⟩
            refine L_then (.cons (k := 1) rfl (.cons (k := 2) rfl (.cons (k := 3) rfl (.cons (k := 4) rfl (.cons (k := 8) rfl (.cons (k := 10) rfl (.cons (k := 11) rfl (.cons (k := 12) rfl (.cons (k := 15) rfl (.cons (k := 100) rfl .nil)))))))))) ?_
            refine V_cond rfl ?_ ?_
            · intro c6; try simp only [td] at c6
              refine V_seq (V_region rfl ?_)
              refine L_go rfl (X_rd (r_loadA (vs := [_, _]) ag33 sz33 rfl rfl (by repeat first | exact mH | apply mT) rfl) ?_)
              refine L_go rfl (X_wr (w_store (cs' := [_, _]) sz33 rfl rfl rfl rfl rfl (by repeat first | exact .head | apply SetAt.tail) (Nat.le_of_ble_eq_true rfl) rfl) ?_)
              rintro _ _ ⟨rfl, rfl⟩
              refine L_go rfl (X_p (p_assign rfl rfl) ?_)
              refine L_then (.cons (k := 8) rfl (.cons (k := 9) rfl .nil)) ?_
              refine V_ret (then_r (blk_r (then_r (then_r (blk_r (then_r ?_))))))
              refine Leave.nil (.cellA (us := [_, _]) rfl ag33 sz33 (by repeat first | exact mH | apply mT) rfl (.tmp rfl .nil)) ?_
              exact ⟨[], HSub.nil _, ⟨_, _, false, rfl, .inr ⟨rfl, fastT_none2 (by omega) ⟨by omega, by omega⟩ hN (fastB_go (by omega) c4) (fastF_none (by omega) c6)⟩⟩, rfl⟩
            · intro c6; try simp only [td] at c6
              refine V_skip (then_n ?_)
              refine V_seq (V_region rfl ?_)
              refine L_go rfl (X_p (p_fieldo fo25_2 rfl rfl) ?_)
              refine L_go rfl (X_rd (r_load ag3 rfl rfl (by repeat first | exact mH | apply mT) rfl) ?_)
              refine L_go rfl (X_p (p_move rfl rfl) ?_)
              first | refine L_go rfl (X_p (p_mul' rfl rfl rfl (by unfold InI; omega)) ?_) | refine L_go rfl (X_p (p_mul rfl rfl rfl) ?_)
              refine L_go rfl (X_p (p_move rfl rfl) ?_)
              first | refine L_go rfl (X_p (p_sub' rfl rfl rfl (by unfold InI; omega)) ?_) | refine L_go rfl (X_p (p_sub rfl rfl rfl) ?_)
              first | refine L_go rfl (X_p (p_mul' rfl rfl rfl (by unfold InI; omega)) ?_) | refine L_go rfl (X_p (p_mul rfl rfl rfl) ?_)
              refine L_go rfl (X_p (show RdP _ _ _ (.int .i64 (moreF t j)) from moreF_alt t j ▸ p_quo' rfl rfl rfl (by decide) (by unfold InI; omega)) ?_)
              refine L_go rfl (X_p (p_assign rfl rfl) ?_)
              refine L_then (.cons (k := 1) rfl (.cons (k := 2) rfl (.cons (k := 3) rfl (.cons (k := 4) rfl (.cons (k := 8) rfl (.cons (k := 10) rfl (.cons (k := 11) rfl (.cons (k := 12) rfl (.cons (k := 15) rfl (.cons (k := 16) rfl .nil)))))))))) ?_
              refine V_draw (.rd 0 (.rd 1 (.rd 2 (.rd 3 (.rd 4 (.rd 5 (.rd 6 (.rd 7 (.rd 8 (.rd 10 (.rd 11 (.rd 12 (.rd 13 (.rd 14 (.rd 15 (.rd 16 (.rd 17 (.wr 9 [17, 16, 15, 14, 13, 12, 11, 10, 6, 5, 4, 3, 2, 1, 0] (.wr 18 [15, 14, 13, 12, 11, 10, 8, 7, 6, 5, 4, 3, 2, 1, 0] (.rd 19 (.wr 20 [17, 16, 15, 14, 13, 12, 11, 10, 8, 7, 6, 5, 4, 3, 2, 1] (.wr 21 [] .done)))))))))))))))))))))) mixed (by kernel_rfl) rfl ?_
              refine D_rd rfl (.plain rfl) (r_loadA (vs := [_, _]) ag33 sz33 rfl rfl (by repeat first | exact mH | apply mT) rfl) ?_
              refine D_p rfl (.plain rfl) (p_fieldo fo33_0 rfl rfl) ?_
              refine D_rd rfl (.plain rfl) (r_load ag3 rfl rfl (by repeat first | exact mH | apply mT) rfl) ?_
              refine D_p rfl (.plain rfl) (p_fieldo fo33_1 rfl rfl) ?_
              refine D_rd rfl (.plain rfl) (r_load ag3 rfl rfl (by repeat first | exact mH | apply mT) rfl) ?_
              first | refine D_p rfl (.plain rfl) (p_sub' rfl rfl rfl (by unfold InI; omega)) ?_ | refine D_p rfl (.plain rfl) (p_sub rfl rfl rfl) ?_
              refine D_p rfl (.plain rfl) (p_move rfl rfl) ?_
              first | refine D_p rfl (.plain rfl) (p_sub' rfl rfl rfl (by unfold InI; omega)) ?_ | refine D_p rfl (.plain rfl) (p_sub rfl rfl rfl) ?_
              refine D_p rfl (.plain rfl) (p_move rfl rfl) ?_
              refine D_p rfl (.plain rfl) (p_fieldo fo33_1 rfl rfl) ?_
              refine D_rd rfl (.plain rfl) (r_load ag3 rfl rfl (by repeat first | exact mH | apply mT) rfl) ?_
              refine D_p rfl (.plain rfl) (p_fieldo fo33_0 rfl rfl) ?_
              refine D_rd rfl (.plain rfl) (r_load ag3 rfl rfl (by repeat first | exact mH | apply mT) rfl) ?_
              first | refine D_p rfl (.plain rfl) (p_sub' rfl rfl rfl (by unfold InI; omega)) ?_ | refine D_p rfl (.plain rfl) (p_sub rfl rfl rfl) ?_
              refine D_p rfl (.plain rfl) (p_move rfl rfl) ?_
              first | refine D_p rfl (.plain rfl) (p_add' rfl rfl rfl (by unfold InI; omega)) ?_ | refine D_p rfl (.plain rfl) (p_add rfl rfl rfl) ?_
              refine D_p rfl (.plain rfl) (p_move rfl rfl) ?_
              refine D_wr (.go (E' := [(13, _), (11, _), (4, _), (2, _), (0, _)]) rfl (.plain rfl) (w_callP rfl rfl rfl (fun w hg => rceil_c _ _ (by omega) (by omega) w)) rfl ?_)
              rintro _ _ ⟨rfl, rfl⟩
              refine ⟨(.cons rfl (.plain rfl) (r_load ag3 rfl rfl (by repeat first | exact mH | apply mT) rfl) (.cons rfl (.plain rfl) (r_load ag3 rfl rfl (by repeat first | exact mH | apply mT) rfl) (.cons rfl (.plain rfl) (r_load ag3 rfl rfl (by repeat first | exact mH | apply mT) rfl) (.cons rfl (.plain rfl) (r_load ag3 rfl rfl (by repeat first | exact mH | apply mT) rfl) (.cons rfl (.plain rfl) (r_loadA (vs := [_, _]) ag33 sz33 rfl rfl (by repeat first | exact mH | apply mT) rfl) .nil))))), ?_⟩
              refine D_wr (.go (E' := [(13, _), (11, _), (4, _), (2, _), (0, _)]) rfl (.plain rfl) (w_callP rfl rfl rfl (fun w hg => rfloor_c _ _ (by omega) (by omega) w)) rfl ?_)
              rintro _ _ ⟨rfl, rfl⟩
              refine ⟨(.cons rfl (.plain rfl) (r_load ag3 rfl rfl (by repeat first | exact mH | apply mT) rfl) (.cons rfl (.plain rfl) (r_load ag3 rfl rfl (by repeat first | exact mH | apply mT) rfl) (.cons rfl (.plain rfl) (r_load ag3 rfl rfl (by repeat first | exact mH | apply mT) rfl) (.cons rfl (.plain rfl) (r_load ag3 rfl rfl (by repeat first | exact mH | apply mT) rfl) (.cons rfl (.plain rfl) (r_loadA (vs := [_, _]) ag33 sz33 rfl rfl (by repeat first | exact mH | apply mT) rfl) .nil))))), ?_⟩
              refine D_p rfl (.plain rfl) (p_build (r := [_, _]) pl33 zr33 rfl rfl rfl) ?_
              refine D_wr (.go (E' := [(13, _), (11, _), (4, _), (2, _)]) rfl (.plain rfl) (w_callP rfl rfl rfl (fun w hg => rcommon_c _ _ _ _ w)) rfl ?_)
              rintro _ _ ⟨rfl, rfl⟩
              refine ⟨(.cons rfl (.plain rfl) (r_load ag3 rfl rfl (by repeat first | exact mH | apply mT) rfl) (.cons rfl (.plain rfl) (r_load ag3 rfl rfl (by repeat first | exact mH | apply mT) rfl) (.cons rfl (.plain rfl) (r_load ag3 rfl rfl (by repeat first | exact mH | apply mT) rfl) (.cons rfl (.plain rfl) (r_load ag3 rfl rfl (by repeat first | exact mH | apply mT) rfl) .nil)))), ?_⟩
              refine D_wr (.go (E' := []) rfl (.plain rfl) (w_store (cs' := [_, _]) sz33 rfl rfl rfl rfl rfl (by repeat first | exact .head | apply SetAt.tail) (Nat.le_of_ble_eq_true rfl) rfl) rfl ?_)
              rintro _ _ ⟨rfl, rfl⟩
              refine ⟨.nil, ?_⟩
              refine D_keep (.cons (k := 1) rfl (.cons (k := 2) rfl (.cons (k := 3) rfl (.cons (k := 4) rfl (.cons (k := 8) rfl (.cons (k := 10) rfl (.cons (k := 11) rfl (.cons (k := 12) rfl .nil)))))))) (blk_n (then_n ?_))
              refine V_region rfl ?_
              refine L_go rfl (X_p (p_move rfl rfl) ?_)
              first | refine L_go rfl (X_p (p_add' rfl rfl rfl (by unfold InI; omega)) ?_) | refine L_go rfl (X_p (p_add rfl rfl rfl) ?_)
              refine L_go rfl (X_p (p_assign rfl rfl) ?_)
              refine L_keep (.cons (k := 1) rfl (.cons (k := 2) rfl (.cons (k := 3) rfl (.cons (k := 4) rfl (.cons (k := 8) rfl (.cons (k := 10) rfl (.cons (k := 11) rfl (.cons (k := 12) rfl .nil)))))))) (then_n ?_)
              refine ⟨(j + 1, sF t ps k u j (sB t ps k u j s)), ?_, ?_, (.cons rfl (.cons rfl (.cons rfl (.cons rfl (.cons rfl (.cons rfl (.cons rfl (.cons rfl (.nil _))))))))), (by repeat (first | exact List.Sublist.refl _ | apply List.Sublist.cons_cons | apply List.Sublist.cons | apply List.sublist_append_of_sublist_right)), rfl⟩
              · exact ⟨by omega, by omega, fastN_go hj0 hN (fastB_go (by omega) c4) (fastF_go (by omega) c6)⟩
              · dsimp only; omega
          · intro c5; try simp only [td] at c5
            refine V_skip (blk_n (then_n ?_))
            refine V_region rfl ?_
            refine L_go rfl (X_p (p_move rfl rfl) ?_)
            first | refine L_go rfl (X_p (p_add' rfl rfl rfl (by unfold InI; omega)) ?_) | refine L_go rfl (X_p (p_add rfl rfl rfl) ?_)
            refine L_go rfl (X_p (p_assign rfl rfl) ?_)
            refine L_keep (.cons (k := 1) rfl (.cons (k := 2) rfl (.cons (k := 3) rfl (.cons (k := 4) rfl (.cons (k := 8) rfl (.cons (k := 10) rfl (.cons (k := 11) rfl (.cons (k := 12) rfl .nil)))))))) (then_n ?_)
            refine ⟨(j + 1, sB t ps k u j s), ?_, ?_, (.cons rfl (.cons rfl (.cons rfl (.cons rfl (.cons rfl (.cons rfl (.cons rfl (.cons rfl (.nil _))))))))), (by repeat (first | exact List.Sublist.refl _ | apply List.Sublist.cons_cons | apply List.Sublist.cons | apply List.sublist_append_of_sublist_right)), rfl⟩
            · exact ⟨by omega, by omega, fastN_go hj0 hN (fastB_go (by omega) c4) (fastF_skip (by omega))⟩
            · dsimp only; omega
      · intro c3; try simp only [td] at c3
        refine V_skip (then_n ?_)
        refine V_seq (V_region rfl ?_)
        refine L_go rfl (X_p (p_move rfl rfl) ?_)
        refine L_go rfl (X_p (p_move rfl rfl) ?_)
        first | refine L_go rfl (X_p (p_add' rfl rfl rfl (by unfold InI; omega)) ?_) | refine L_go rfl (X_p (p_add rfl rfl rfl) ?_)
        refine L_go rfl (X_p (p_leq rfl rfl rfl) ?_)
        refine L_then (.cons (k := 1) rfl (.cons (k := 2) rfl (.cons (k := 3) rfl (.cons (k := 4) rfl (.cons (k := 8) rfl (.cons (k := 10) rfl (.cons (k := 11) rfl (.cons (k := 12) rfl (.cons (k := 91) rfl .nil))))))))) ?_
        refine V_cond rfl ?_ ?_
        · intro c7; try simp only [td] at c7
          have hpw := placeT_bnd hG hp (u := u + j) (by omega) k
          unfold SpanB at hpw
          refine V_seq (V_region rfl ?_)
          refine L_go rfl (X_rd (r_loadA (vs := [_, _, _, _, _]) ag25 sz25 rfl rfl (by repeat first | exact mH | apply mT) rfl) ?_)
          refine L_go rfl (X_p (p_move rfl rfl) ?_)
          refine L_go rfl (X_p (p_move rfl rfl) ?_)
          refine L_go rfl (X_p (p_move rfl rfl) ?_)
          refine L_go rfl (X_p (p_move rfl rfl) ?_)
          first | refine L_go rfl (X_p (p_add' rfl rfl rfl (by unfold InI; omega)) ?_) | refine L_go rfl (X_p (p_add rfl rfl rfl) ?_)
          refine L_go rfl (X_wr (w_callP rfl rfl rfl (fun w hg => rplaces_c t _ ps _ w (hT.good hg) (hS.good hg) hG hp hl _ _ (by omega))) ?_)
          rintro _ _ ⟨rfl, rfl⟩
          refine L_go rfl (X_wr (w_alloc zr33 rfl) ?_)
          rintro _ _ ⟨b5, hb5, rfl, rfl⟩
          refine L_go rfl (X_wr (w_store (cs' := [_, _]) sz33 rfl rfl rfl rfl rfl (by repeat first | exact .head | apply SetAt.tail) (Nat.le_of_ble_eq_true rfl) rfl) ?_)
          rintro _ _ ⟨rfl, rfl⟩
          refine L_then (.cons (k := 1) rfl (.cons (k := 2) rfl (.cons (k := 3) rfl (.cons (k := 4) rfl (.cons (k := 8) rfl (.cons (k := 10) rfl (.cons (k := 11) rfl (.cons (k := 12) rfl (.cons (k := 15) rfl .nil))))))))) ?_
          refine V_seq ?_
          refine V_seq (V_region rfl ?_)
          refine L_go rfl (X_rd (r_loadA (vs := [_, _]) ag33 sz33 rfl rfl (by repeat first | exact mH | apply mT) rfl) ?_)
          refine L_go rfl (X_wr (w_callP rfl rfl rfl (fun w hg => rnone_c _ _ w)) ?_)
          rintro _ _ ⟨rfl, rfl⟩
          refine L_then (.cons (k := 1) rfl (.cons (k := 2) rfl (.cons (k := 3) rfl (.cons (k := 4) rfl (.cons (k := 8) rfl (.cons (k := 10) rfl (.cons (k := 11) rfl (.cons (k := 12) rfl (.cons (k := 15) rfl (.cons (k := 100) rfl .nil)))))))))) ?_
          refine V_cond rfl ?_ ?_
          · intro c8; try simp only [td] at c8
            refine V_seq (V_region rfl ?_)
            refine L_go rfl (X_rd (r_loadA (vs := [_, _]) ag33 sz33 rfl rfl (by repeat first | exact mH | apply mT) rfl) ?_)
            refine L_go rfl (X_wr (w_store (cs' := [_, _]) sz33 rfl rfl rfl rfl rfl (by repeat first | exact .head | apply SetAt.tail) (Nat.le_of_ble_eq_true rfl) rfl) ?_)
            rintro _ _ ⟨rfl, rfl⟩
            refine L_go rfl (X_p (p_assign rfl rfl) ?_)
            refine L_then (.cons (k := 8) rfl (.cons (k := 9) rfl .nil)) ?_
            refine V_ret (then_r (blk_r (then_r (then_r (blk_r (then_r ?_))))))
            refine Leave.nil (.cellA (us := [_, _]) rfl ag33 sz33 (by repeat first | exact mH | apply mT) rfl (.tmp rfl .nil)) ?_
            exact ⟨[], HSub.nil _, ⟨_, _, false, rfl, .inr ⟨rfl, fastT_none2 (by omega) ⟨by omega, by omega⟩ hN (fastB_skip (by omega)) (fastF_none (by omega) c8)⟩⟩, rfl⟩
          · intro c8; try simp only [td] at c8
            refine V_skip (then_n ?_)
            refine V_seq (V_region rfl ?_)
            refine L_go rfl (X_p (p_fieldo fo25_2 rfl rfl) ?_)
            refine L_go rfl (X_rd (r_load ag3 rfl rfl (by repeat first | exact mH | apply mT) rfl) ?_)
            refine L_go rfl (X_p (p_move rfl rfl) ?_)
            first | refine L_go rfl (X_p (p_mul' rfl rfl rfl (by unfold InI; omega)) ?_) | refine L_go rfl (X_p (p_mul rfl rfl rfl) ?_)
            refine L_go rfl (X_p (p_move rfl rfl) ?_)
            first | refine L_go rfl (X_p (p_sub' rfl rfl rfl (by unfold InI; omega)) ?_) | refine L_go rfl (X_p (p_sub rfl rfl rfl) ?_)
            first | refine L_go rfl (X_p (p_mul' rfl rfl rfl (by unfold InI; omega)) ?_) | refine L_go rfl (X_p (p_mul rfl rfl rfl) ?_)
            refine L_go rfl (X_p (show RdP _ _ _ (.int .i64 (moreF t j)) from moreF_alt t j ▸ p_quo' rfl rfl rfl (by decide) (by unfold InI; omega)) ?_)
            refine L_go rfl (X_p (p_assign rfl rfl) ?_)
            refine L_then (.cons (k := 1) rfl (.cons (k := 2) rfl (.cons (k := 3) rfl (.cons (k := 4) rfl (.cons (k := 8) rfl (.cons (k := 10) rfl (.cons (k := 11) rfl (.cons (k := 12) rfl (.cons (k := 15) rfl (.cons (k := 16) rfl .nil)))))))))) ?_
            refine V_draw (.rd 0 (.rd 1 (.rd 2 (.rd 3 (.rd 4 (.rd 5 (.rd 6 (.rd 7 (.rd 8 (.rd 10 (.rd 11 (.rd 12 (.rd 13 (.rd 14 (.rd 15 (.rd 16 (.rd 17 (.wr 9 [17, 16, 15, 14, 13, 12, 11, 10, 6, 5, 4, 3, 2, 1, 0] (.wr 18 [15, 14, 13, 12, 11, 10, 8, 7, 6, 5, 4, 3, 2, 1, 0] (.rd 19 (.wr 20 [17, 16, 15, 14, 13, 12, 11, 10, 8, 7, 6, 5, 4, 3, 2, 1] (.wr 21 [] .done)))))))))))))))))))))) mixed (by kernel_rfl) rfl ?_
            refine D_rd rfl (.plain rfl) (r_loadA (vs := [_, _]) ag33 sz33 rfl rfl (by repeat first | exact mH | apply mT) rfl) ?_
            refine D_p rfl (.plain rfl) (p_fieldo fo33_0 rfl rfl) ?_
            refine D_rd rfl (.plain rfl) (r_load ag3 rfl rfl (by repeat first | exact mH | apply mT) rfl) ?_
            refine D_p rfl (.plain rfl) (p_fieldo fo33_1 rfl rfl) ?_
            refine D_rd rfl (.plain rfl) (r_load ag3 rfl rfl (by repeat first | exact mH | apply mT) rfl) ?_
            first | refine D_p rfl (.plain rfl) (p_sub' rfl rfl rfl (by unfold InI; omega)) ?_ | refine D_p rfl (.plain rfl) (p_sub rfl rfl rfl) ?_
            refine D_p rfl (.plain rfl) (p_move rfl rfl) ?_
            first | refine D_p rfl (.plain rfl) (p_sub' rfl rfl rfl (by unfold InI; omega)) ?_ | refine D_p rfl (.plain rfl) (p_sub rfl rfl rfl) ?_
            refine D_p rfl (.plain rfl) (p_move rfl rfl) ?_
            refine D_p rfl (.plain rfl) (p_fieldo fo33_1 rfl rfl) ?_
            refine D_rd rfl (.plain rfl) (r_load ag3 rfl rfl (by repeat first | exact mH | apply mT) rfl) ?_
            refine D_p rfl (.plain rfl) (p_fieldo fo33_0 rfl rfl) ?_
            refine D_rd rfl (.plain rfl) (r_load ag3 rfl rfl (by repeat first | exact mH | apply mT) rfl) ?_
            first | refine D_p rfl (.plain rfl) (p_sub' rfl rfl rfl (by unfold InI; omega)) ?_ | refine D_p rfl (.plain rfl) (p_sub rfl rfl rfl) ?_
            refine D_p rfl (.plain rfl) (p_move rfl rfl) ?_
            first | refine D_p rfl (.plain rfl) (p_add' rfl rfl rfl (by unfold InI; omega)) ?_ | refine D_p rfl (.plain rfl) (p_add rfl rfl rfl) ?_
            refine D_p rfl (.plain rfl) (p_move rfl rfl) ?_
            refine D_wr (.go (E' := [(13, _), (11, _), (4, _), (2, _), (0, _)]) rfl (.plain rfl) (w_callP rfl rfl rfl (fun w hg => rceil_c _ _ (by omega) (by omega) w)) rfl ?_)
            rintro _ _ ⟨rfl, rfl⟩
            refine ⟨(.cons rfl (.plain rfl) (r_load ag3 rfl rfl (by repeat first | exact mH | apply mT) rfl) (.cons rfl (.plain rfl) (r_load ag3 rfl rfl (by repeat first | exact mH | apply mT) rfl) (.cons rfl (.plain rfl) (r_load ag3 rfl rfl (by repeat first | exact mH | apply mT) rfl) (.cons rfl (.plain rfl) (r_load ag3 rfl rfl (by repeat first | exact mH | apply mT) rfl) (.cons rfl (.plain rfl) (r_loadA (vs := [_, _]) ag33 sz33 rfl rfl (by repeat first | exact mH | apply mT) rfl) .nil))))), ?_⟩
            refine D_wr (.go (E' := [(13, _), (11, _), (4, _), (2, _), (0, _)]) rfl (.plain rfl) (w_callP rfl rfl rfl (fun w hg => rfloor_c _ _ (by omega) (by omega) w)) rfl ?_)
            rintro _ _ ⟨rfl, rfl⟩
            refine ⟨(.cons rfl (.plain rfl) (r_load ag3 rfl rfl (by repeat first | exact mH | apply mT) rfl) (.cons rfl (.plain rfl) (r_load ag3 rfl rfl (by repeat first | exact mH | apply mT) rfl) (.cons rfl (.plain rfl) (r_load ag3 rfl rfl (by repeat first | exact mH | apply mT) rfl) (.cons rfl (.plain rfl) (r_load ag3 rfl rfl (by repeat first | exact mH | apply mT) rfl) (.cons rfl (.plain rfl) (r_loadA (vs := [_, _]) ag33 sz33 rfl rfl (by repeat first | exact mH | apply mT) rfl) .nil))))), ?_⟩
            refine D_p rfl (.plain rfl) (p_build (r := [_, _]) pl33 zr33 rfl rfl rfl) ?_
            refine D_wr (.go (E' := [(13, _), (11, _), (4, _), (2, _)]) rfl (.plain rfl) (w_callP rfl rfl rfl (fun w hg => rcommon_c _ _ _ _ w)) rfl ?_)
            rintro _ _ ⟨rfl, rfl⟩
            refine ⟨(.cons rfl (.plain rfl) (r_load ag3 rfl rfl (by repeat first | exact mH | apply mT) rfl) (.cons rfl (.plain rfl) (r_load ag3 rfl rfl (by repeat first | exact mH | apply mT) rfl) (.cons rfl (.plain rfl) (r_load ag3 rfl rfl (by repeat first | exact mH | apply mT) rfl) (.cons rfl (.plain rfl) (r_load ag3 rfl rfl (by repeat first | exact mH | apply mT) rfl) .nil)))), ?_⟩
            refine D_wr (.go (E' := []) rfl (.plain rfl) (w_store (cs' := [_, _]) sz33 rfl rfl rfl rfl rfl (by repeat first | exact .head | apply SetAt.tail) (Nat.le_of_ble_eq_true rfl) rfl) rfl ?_)
            rintro _ _ ⟨rfl, rfl⟩
            refine ⟨.nil, ?_⟩
            refine D_keep (.cons (k := 1) rfl (.cons (k := 2) rfl (.cons (k := 3) rfl (.cons (k := 4) rfl (.cons (k := 8) rfl (.cons (k := 10) rfl (.cons (k := 11) rfl (.cons (k := 12) rfl .nil)))))))) (blk_n (then_n ?_))
            refine V_region rfl ?_
            refine L_go rfl (X_p (p_move rfl rfl) ?_)
            first | refine L_go rfl (X_p (p_add' rfl rfl rfl (by unfold InI; omega)) ?_) | refine L_go rfl (X_p (p_add rfl rfl rfl) ?_)
            refine L_go rfl (X_p (p_assign rfl rfl) ?_)
            refine L_keep (.cons (k := 1) rfl (.cons (k := 2) rfl (.cons (k := 3) rfl (.cons (k := 4) rfl (.cons (k := 8) rfl (.cons (k := 10) rfl (.cons (k := 11) rfl (.cons (k := 12) rfl .nil)))))))) (then_n ?_)
            refine ⟨(j + 1, sF t ps k u j s), ?_, ?_, (.cons rfl (.cons rfl (.cons rfl (.cons rfl (.cons rfl (.cons rfl (.cons rfl (.cons rfl (.nil _))))))))), (by repeat (first | exact List.Sublist.refl _ | apply List.Sublist.cons_cons | apply List.Sublist.cons | apply List.sublist_append_of_sublist_right)), rfl⟩
            · exact ⟨by omega, by omega, fastN_go hj0 hN (fastB_skip (by omega)) (fastF_go (by omega) c8)⟩
            · dsimp only; omega
        · intro c7; try simp only [td] at c7
          refine V_skip (blk_n (then_n ?_))
          refine V_region rfl ?_
          refine L_go rfl (X_p (p_move rfl rfl) ?_)
          first | refine L_go rfl (X_p (p_add' rfl rfl rfl (by unfold InI; omega)) ?_) | refine L_go rfl (X_p (p_add rfl rfl rfl) ?_)
          refine L_go rfl (X_p (p_assign rfl rfl) ?_)
          refine L_keep (.cons (k := 1) rfl (.cons (k := 2) rfl (.cons (k := 3) rfl (.cons (k := 4) rfl (.cons (k := 8) rfl (.cons (k := 10) rfl (.cons (k := 11) rfl (.cons (k := 12) rfl .nil)))))))) (then_n ?_)
          refine ⟨(j + 1, s), ?_, ?_, (.cons rfl (.cons rfl (.cons rfl (.cons rfl (.cons rfl (.cons rfl (.cons rfl (.cons rfl (.nil _))))))))), (by repeat (first | exact List.Sublist.refl _ | apply List.Sublist.cons_cons | apply List.Sublist.cons | apply List.sublist_append_of_sublist_right)), rfl⟩
          · exact ⟨by omega, by omega, fastN_go hj0 hN (fastB_skip (by omega)) (fastF_skip (by omega))⟩
          · dsimp only; omega
    · intro c2; try simp only [td] at c2
      refine V_exit (then_e (then_e (blk_e rfl (then_n ?_))))
      refine V_seq (V_region rfl ?_)
      refine L_go rfl (X_rd (r_loadA (vs := [_, _]) ag33 sz33 rfl rfl (by repeat first | exact mH | apply mT) rfl) ?_)
      refine L_go rfl (X_wr (w_store (cs' := [_, _]) sz33 rfl rfl rfl rfl rfl (by repeat first | exact .head | apply SetAt.tail) (Nat.le_of_ble_eq_true rfl) rfl) ?_)
      rintro _ _ ⟨rfl, rfl⟩
      refine L_go rfl (X_p (p_assign rfl rfl) ?_)
      refine L_then (.cons (k := 8) rfl (.cons (k := 9) rfl .nil)) ?_
      refine V_ret ?_
      refine Leave.nil (.cellA (us := [_, _]) rfl ag33 sz33 (by repeat first | exact mH | apply mT) rfl (.tmp rfl .nil)) ?_
      have hj9 : j = 9 := by omega
      subst hj9
      exact ⟨[], HSub.nil _, ⟨s.lo, s.hi, true, rfl, .inl ⟨rfl, fastT_end (by omega) hN⟩⟩, rfl⟩
set_option maxHeartbeats 4000000 in
theorem rbox_c (t : Task) (v : Value) (ps : List Int) (sv : Value) (w : World) (ht : TaskR w v t) (hs : SliceR w 1 sv (ps.map fun n => [Value.int .i64 n])) (hG : GoodT t) (hp : ∀ i ∈ ps, 0 ≤ i ∧ i < t.plots.length) (hl : ps.length ≤ 60) (u : Int) (hu : 0 ≤ u ∧ u ≤ 100000) : FnP Try.prog 73 [v, sv, .int .i64 u] w (boxV (boxT t ps u)) := by
  have hT := ht
  obtain ⟨tv, pv, rfl, htr, hpl⟩ := ht.ex
  obtain ⟨ta, tc, rfl, htc, hte⟩ := htr.ex
  obtain ⟨pa, pc, rfl, hpc, hpe⟩ := hpl.ex
  have hltr := hT.ltr
  have hlpl := hT.lpl
  simp only [List.length_map] at hT htc hpc ⊢
  have hS := hs
  obtain ⟨sa, sc, rfl, hsc, hse⟩ := hs.ex
  obtain ⟨hfrm, hspd, hacc⟩ := hG.nums
  have hpl60 := hG.h2
  simp only [List.length_map] at hS hsc ⊢
  refine fn_pure Try.func73 rfl (by kernel_rfl) Try.ntmps73 Try.results73 rfl ?_
  refine V_seq (V_region rfl ?_)
  refine L_go rfl (X_wr (w_box rfl rfl) ?_)
  rintro _ _ ⟨b1, hb1, rfl, rfl⟩
  refine L_go rfl (X_wr (w_alloc zr35 rfl) ?_)
  rintro _ _ ⟨b2, hb2, rfl, rfl⟩
  refine L_go rfl (X_p (p_assign rfl rfl) ?_)
  refine L_then (.cons (k := 1) rfl (.cons (k := 2) rfl (.cons (k := 3) rfl (.cons (k := 6) rfl .nil)))) ?_
  refine V_seq (V_region rfl ?_)
  refine L_go rfl (X_wr (w_alloc zr124 rfl) ?_)
  rintro _ _ ⟨b3, hb3, rfl, rfl⟩
  refine L_go rfl (X_wr (w_alloc zr124 rfl) ?_)
  rintro _ _ ⟨b4, hb4, rfl, rfl⟩
  refine L_then (.cons (k := 1) rfl (.cons (k := 2) rfl (.cons (k := 3) rfl (.cons (k := 6) rfl (.cons (k := 8) rfl (.cons (k := 9) rfl .nil)))))) ?_
  refine V_seq ?_
  refine V_seq (V_region rfl ?_)
  refine L_go rfl (X_p (p_assign rfl rfl) ?_)
  refine L_then (.cons (k := 1) rfl (.cons (k := 2) rfl (.cons (k := 3) rfl (.cons (k := 6) rfl (.cons (k := 8) rfl (.cons (k := 9) rfl (.cons (k := 10) rfl .nil))))))) ?_
  refine V_block ?_
  refine V_loopU ?_
  refine LU_step ?_
  refine V_seq ?_
  refine V_seq (V_region rfl ?_)
  refine L_go rfl (X_p (p_move rfl rfl) ?_)
  refine L_go rfl (X_p (p_lss rfl rfl rfl) ?_)
  refine L_then (.cons (k := 1) rfl (.cons (k := 2) rfl (.cons (k := 3) rfl (.cons (k := 6) rfl (.cons (k := 8) rfl (.cons (k := 9) rfl (.cons (k := 10) rfl (.cons (k := 14) rfl .nil)))))))) ?_
  refine V_cond_t rfl rfl ?_
  refine V_skip (then_n ?_)
  refine V_seq ?_
  refine V_block ?_
  refine V_seq (V_region rfl ?_)
  refine L_go rfl (X_p (p_move rfl rfl) ?_)
  refine L_go rfl (X_rd (r_loadA (vs := [_, _, _, _, _]) ag25 sz25 rfl rfl (by repeat first | exact mH | apply mT) rfl) ?_)
  refine L_go rfl (X_p (p_move rfl rfl) ?_)
  refine L_go rfl (X_p (p_move rfl rfl) ?_)
  refine L_go rfl (X_p (p_move rfl rfl) ?_)
  refine L_go rfl (X_wr (w_callP rfl rfl rfl (fun w hg => rplaces_c t _ ps _ w (hT.good hg) (hS.good hg) hG hp hl _ _ (by omega))) ?_)
  rintro _ _ ⟨rfl, rfl⟩
  refine L_go rfl (X_p (p_idxao ar124 rfl rfl rfl (by omega) (by omega)) ?_)
  refine L_go rfl (X_wr (w_store (cs' := [_, _, _, _, _, _]) sz33 rfl rfl rfl rfl rfl (by repeat first | exact .head | apply SetAt.tail) (Nat.le_of_ble_eq_true rfl) rfl) ?_)
  rintro _ _ ⟨rfl, rfl⟩
  refine L_then (.cons (k := 1) rfl (.cons (k := 2) rfl (.cons (k := 3) rfl (.cons (k := 6) rfl (.cons (k := 8) rfl (.cons (k := 9) rfl (.cons (k := 10) rfl .nil))))))) ?_
  refine V_seq ?_
  refine V_seq (V_region rfl ?_)
  refine L_go rfl (X_p (p_move rfl rfl) ?_)
  refine L_go rfl (X_p (p_idxao ar124 rfl rfl rfl (by omega) (by omega)) ?_)
  refine L_go rfl (X_rd (r_loadA (vs := [_, _]) ag33 sz33 rfl rfl (by repeat first | exact mH | apply mT) rfl) ?_)
  refine L_go rfl (X_wr (w_callP rfl rfl rfl (fun w hg => rnone_c _ _ w)) ?_)
  rintro _ _ ⟨rfl, rfl⟩
  refine L_then (.cons (k := 1) rfl (.cons (k := 2) rfl (.cons (k := 3) rfl (.cons (k := 6) rfl (.cons (k := 8) rfl (.cons (k := 9) rfl (.cons (k := 10) rfl (.cons (k := 27) rfl .nil)))))))) ?_
  refine V_cond rfl ?_ ?_
  · intro c1; try simp only [td] at c1
    refine V_seq (V_region rfl ?_)
    refine L_go rfl (X_p (p_build (r := [_, _, _, _, _, _, _, _, _, _, _, _, _]) pl35 zr35 rfl rfl rfl) ?_)
    refine L_go rfl (X_wr (w_store (cs' := [_, _, _, _, _, _, _, _, _, _, _, _, _]) sz35 rfl rfl rfl rfl rfl (by repeat first | exact .head | apply SetAt.tail) (Nat.le_of_ble_eq_true rfl) rfl) ?_)
    rintro _ _ ⟨rfl, rfl⟩
    refine L_go rfl (X_p (p_assign rfl rfl) ?_)
    refine L_then (.cons (k := 6) rfl (.cons (k := 7) rfl .nil)) ?_
    refine V_ret (then_r (blk_r (then_r (then_r (blk_r (then_r ?_))))))
    refine Leave.nil (.cellA (us := [_, _, _, _, _, _, _, _, _, _, _, _, _]) rfl ag35 sz35 (by repeat first | exact mH | apply mT) rfl (.tmp rfl .nil)) ?_
    rw [boxT_0 (partT_none2 c1)]; rfl
  · intro c1; try simp only [td] at c1
    refine V_skip (then_n ?_)
    refine V_seq (V_region rfl ?_)
    refine L_go rfl (X_rd (r_loadA (vs := [_, _, _, _, _]) ag25 sz25 rfl rfl (by repeat first | exact mH | apply mT) rfl) ?_)
    refine L_go rfl (X_p (p_move rfl rfl) ?_)
    refine L_go rfl (X_p (p_move rfl rfl) ?_)
    refine L_go rfl (X_p (p_move rfl rfl) ?_)
    refine L_go rfl (X_wr (w_callN rfl rfl rfl (fun w hg => rspeeds_c t _ ps _ w (hT.good hg) (hS.good hg) hG hp hl _ u hu)) ?_)
    rintro _ _ ⟨_, rfl, _, ⟨lo1, hi1, ok1, rfl, hok1⟩, rfl⟩
    try simp only [List.nil_append]
    refine L_go rfl (X_p (p_move rfl rfl) ?_)
    refine L_go rfl (X_p (p_ext rfl rfl rfl) ?_)
    refine L_go rfl (X_p (p_ext rfl rfl rfl) ?_)
    refine L_go rfl (X_wr (w_alloc zr33 rfl) ?_)
    rintro _ _ ⟨b6, hb6, rfl, rfl⟩
    refine L_go rfl (X_wr (w_store (cs' := [_, _]) sz33 rfl rfl rfl rfl rfl (by repeat first | exact .head | apply SetAt.tail) (Nat.le_of_ble_eq_true rfl) rfl) ?_)
    rintro _ _ ⟨rfl, rfl⟩
    refine L_go rfl (X_p (p_assign rfl rfl) ?_)
    refine L_then (.cons (k := 1) rfl (.cons (k := 2) rfl (.cons (k := 3) rfl (.cons (k := 6) rfl (.cons (k := 8) rfl (.cons (k := 9) rfl (.cons (k := 10) rfl (.cons (k := 11) rfl (.cons (k := 12) rfl .nil))))))))) ?_
    refine V_seq ?_
    refine V_seq (V_region rfl ?_)
    refine L_go rfl (X_p (p_move rfl rfl) ?_)
    refine L_go rfl (X_p (p_not rfl rfl) ?_)
    refine L_go rfl (X_p (p_move rfl rfl) ?_)
    refine L_cases (d := 39) rfl ?_ ?_
    · intro g1; have g1' := g1; try simp only [td] at g1'
      refine L_no rfl rfl rfl g1 ?_
      refine L_no rfl rfl rfl g1 ?_
      refine L_go rfl (X_p (p_pick_t rfl rfl g1 rfl) ?_)
      refine L_then (.cons (k := 1) rfl (.cons (k := 2) rfl (.cons (k := 3) rfl (.cons (k := 6) rfl (.cons (k := 8) rfl (.cons (k := 9) rfl (.cons (k := 10) rfl (.cons (k := 11) rfl (.cons (k := 42) rfl .nil))))))))) ?_
      refine V_cond_t rfl rfl ?_
      refine V_seq (V_region rfl ?_)
      refine L_go rfl (X_p (p_build (r := [_, _, _, _, _, _, _, _, _, _, _, _, _]) pl35 zr35 rfl rfl rfl) ?_)
      refine L_go rfl (X_wr (w_store (cs' := [_, _, _, _, _, _, _, _, _, _, _, _, _]) sz35 rfl rfl rfl rfl rfl (by repeat first | exact .head | apply SetAt.tail) (Nat.le_of_ble_eq_true rfl) rfl) ?_)
      rintro _ _ ⟨rfl, rfl⟩
      refine L_go rfl (X_p (p_assign rfl rfl) ?_)
      refine L_then (.cons (k := 6) rfl (.cons (k := 7) rfl .nil)) ?_
      refine V_ret (then_r (blk_r (then_r (then_r (blk_r (then_r ?_))))))
      refine Leave.nil (.cellA (us := [_, _, _, _, _, _, _, _, _, _, _, _, _]) rfl ag35 sz35 (by repeat first | exact mH | apply mT) rfl (.tmp rfl .nil)) ?_
      rw [boxT_0 (partT_none1 (sv_none hok1 (.inl g1')))]; rfl
    · intro g1; have g1' := g1; try simp only [td] at g1'
      refine L_yes rfl rfl rfl g1 (X_rd (r_loadA (vs := [_, _]) ag33 sz33 rfl rfl (by repeat first | exact mH | apply mT) rfl) ?_)
      refine L_yes rfl rfl rfl g1 (X_wr (w_callP rfl rfl rfl (fun w hg => rnone_c _ _ w)) ?_)
      rintro _ _ ⟨rfl, rfl⟩
      refine L_go rfl (X_p (p_pick_f rfl rfl g1 rfl) ?_)
      refine L_then (.cons (k := 1) rfl (.cons (k := 2) rfl (.cons (k := 3) rfl (.cons (k := 6) rfl (.cons (k := 8) rfl (.cons (k := 9) rfl (.cons (k := 10) rfl (.cons (k := 11) rfl (.cons (k := 42) rfl .nil))))))))) ?_
      refine V_cond rfl ?_ ?_
      · intro c2; try simp only [td] at c2
        refine V_seq (V_region rfl ?_)
        refine L_go rfl (X_p (p_build (r := [_, _, _, _, _, _, _, _, _, _, _, _, _]) pl35 zr35 rfl rfl rfl) ?_)
        refine L_go rfl (X_wr (w_store (cs' := [_, _, _, _, _, _, _, _, _, _, _, _, _]) sz35 rfl rfl rfl rfl rfl (by repeat first | exact .head | apply SetAt.tail) (Nat.le_of_ble_eq_true rfl) rfl) ?_)
        rintro _ _ ⟨rfl, rfl⟩
        refine L_go rfl (X_p (p_assign rfl rfl) ?_)
        refine L_then (.cons (k := 6) rfl (.cons (k := 7) rfl .nil)) ?_
        refine V_ret (then_r (blk_r (then_r (then_r (blk_r (then_r ?_))))))
        refine Leave.nil (.cellA (us := [_, _, _, _, _, _, _, _, _, _, _, _, _]) rfl ag35 sz35 (by repeat first | exact mH | apply mT) rfl (.tmp rfl .nil)) ?_
        rw [boxT_0 (partT_none1 (sv_none hok1 (.inr c2)))]; rfl
      · intro c2; try simp only [td] at c2
        refine V_skip (then_n ?_)
        refine V_region rfl ?_
        refine L_go rfl (X_p (p_move rfl rfl) ?_)
        refine L_go rfl (X_rd (r_loadA (vs := [_, _]) ag33 sz33 rfl rfl (by repeat first | exact mH | apply mT) rfl) ?_)
        refine L_go rfl (X_p (p_idxao ar124 rfl rfl rfl (by omega) (by omega)) ?_)
        refine L_go rfl (X_wr (w_store (cs' := [_, _, _, _, _, _]) sz33 rfl rfl rfl rfl rfl (by repeat first | exact .head | apply SetAt.tail) (Nat.le_of_ble_eq_true rfl) rfl) ?_)
        rintro _ _ ⟨rfl, rfl⟩
        refine L_keep (.cons (k := 1) rfl (.cons (k := 2) rfl (.cons (k := 3) rfl (.cons (k := 6) rfl (.cons (k := 8) rfl (.cons (k := 9) rfl (.cons (k := 10) rfl .nil))))))) (blk_n (then_n ?_))
        refine V_region rfl ?_
        refine L_go rfl (X_p (p_move rfl rfl) ?_)
        first | refine L_go rfl (X_p (p_add' rfl rfl rfl (by unfold InI; omega)) ?_) | refine L_go rfl (X_p (p_add rfl rfl rfl) ?_)
        refine L_go rfl (X_p (p_assign rfl rfl) ?_)
        refine L_keep (.cons (k := 1) rfl (.cons (k := 2) rfl (.cons (k := 3) rfl (.cons (k := 6) rfl (.cons (k := 8) rfl (.cons (k := 9) rfl (.cons (k := 10) rfl .nil))))))) (then_n ?_)
        refine LU_step ?_
        refine V_seq ?_
        refine V_seq (V_region rfl ?_)
        refine L_go rfl (X_p (p_move rfl rfl) ?_)
        refine L_go rfl (X_p (p_lss rfl rfl rfl) ?_)
        refine L_then (.cons (k := 1) rfl (.cons (k := 2) rfl (.cons (k := 3) rfl (.cons (k := 6) rfl (.cons (k := 8) rfl (.cons (k := 9) rfl (.cons (k := 10) rfl (.cons (k := 14) rfl .nil)))))))) ?_
        refine V_cond_t rfl rfl ?_
        refine V_skip (then_n ?_)
        refine V_seq ?_
        refine V_block ?_
        refine V_seq (V_region rfl ?_)
        refine L_go rfl (X_p (p_move rfl rfl) ?_)
        refine L_go rfl (X_rd (r_loadA (vs := [_, _, _, _, _]) ag25 sz25 rfl rfl (by repeat first | exact mH | apply mT) rfl) ?_)
        refine L_go rfl (X_p (p_move rfl rfl) ?_)
        refine L_go rfl (X_p (p_move rfl rfl) ?_)
        refine L_go rfl (X_p (p_move rfl rfl) ?_)
        refine L_go rfl (X_wr (w_callP rfl rfl rfl (fun w hg => rplaces_c t _ ps _ w (hT.good hg) (hS.good hg) hG hp hl _ _ (by omega))) ?_)
        rintro _ _ ⟨rfl, rfl⟩
        refine L_go rfl (X_p (p_idxao ar124 rfl rfl rfl (by omega) (by omega)) ?_)
        refine L_go rfl (X_wr (w_store (cs' := [_, _, _, _, _, _]) sz33 rfl rfl rfl rfl rfl (by repeat first | exact .head | apply SetAt.tail) (Nat.le_of_ble_eq_true rfl) rfl) ?_)
        rintro _ _ ⟨rfl, rfl⟩
        refine L_then (.cons (k := 1) rfl (.cons (k := 2) rfl (.cons (k := 3) rfl (.cons (k := 6) rfl (.cons (k := 8) rfl (.cons (k := 9) rfl (.cons (k := 10) rfl .nil))))))) ?_
        refine V_seq ?_
        refine V_seq (V_region rfl ?_)
        refine L_go rfl (X_p (p_move rfl rfl) ?_)
        refine L_go rfl (X_p (p_idxao ar124 rfl rfl rfl (by omega) (by omega)) ?_)
        refine L_go rfl (X_rd (r_loadA (vs := [_, _]) ag33 sz33 rfl rfl (by repeat first | exact mH | apply mT) rfl) ?_)
        refine L_go rfl (X_wr (w_callP rfl rfl rfl (fun w hg => rnone_c _ _ w)) ?_)
        rintro _ _ ⟨rfl, rfl⟩
        refine L_then (.cons (k := 1) rfl (.cons (k := 2) rfl (.cons (k := 3) rfl (.cons (k := 6) rfl (.cons (k := 8) rfl (.cons (k := 9) rfl (.cons (k := 10) rfl (.cons (k := 27) rfl .nil)))))))) ?_
        refine V_cond rfl ?_ ?_
        · intro c3; try simp only [td] at c3
          refine V_seq (V_region rfl ?_)
          refine L_go rfl (X_p (p_build (r := [_, _, _, _, _, _, _, _, _, _, _, _, _]) pl35 zr35 rfl rfl rfl) ?_)
          refine L_go rfl (X_wr (w_store (cs' := [_, _, _, _, _, _, _, _, _, _, _, _, _]) sz35 rfl rfl rfl rfl rfl (by repeat first | exact .head | apply SetAt.tail) (Nat.le_of_ble_eq_true rfl) rfl) ?_)
          rintro _ _ ⟨rfl, rfl⟩
          refine L_go rfl (X_p (p_assign rfl rfl) ?_)
          refine L_then (.cons (k := 6) rfl (.cons (k := 7) rfl .nil)) ?_
          refine V_ret (then_r (blk_r (then_r (then_r (blk_r (then_r ?_))))))
          refine Leave.nil (.cellA (us := [_, _, _, _, _, _, _, _, _, _, _, _, _]) rfl ag35 sz35 (by repeat first | exact mH | apply mT) rfl (.tmp rfl .nil)) ?_
          rw [boxT_1 (partT_some (sv_some hok1 g1' c2) c1) (partT_none2 c3)]; rfl
        · intro c3; try simp only [td] at c3
          refine V_skip (then_n ?_)
          refine V_seq (V_region rfl ?_)
          refine L_go rfl (X_rd (r_loadA (vs := [_, _, _, _, _]) ag25 sz25 rfl rfl (by repeat first | exact mH | apply mT) rfl) ?_)
          refine L_go rfl (X_p (p_move rfl rfl) ?_)
          refine L_go rfl (X_p (p_move rfl rfl) ?_)
          refine L_go rfl (X_p (p_move rfl rfl) ?_)
          refine L_go rfl (X_wr (w_callN rfl rfl rfl (fun w hg => rspeeds_c t _ ps _ w (hT.good hg) (hS.good hg) hG hp hl _ u hu)) ?_)
          rintro _ _ ⟨_, rfl, _, ⟨lo2, hi2, ok2, rfl, hok2⟩, rfl⟩
          try simp only [List.nil_append]
          refine L_go rfl (X_p (p_move rfl rfl) ?_)
          refine L_go rfl (X_p (p_ext rfl rfl rfl) ?_)
          refine L_go rfl (X_p (p_ext rfl rfl rfl) ?_)
          refine L_go rfl (X_wr (w_alloc zr33 rfl) ?_)
          rintro _ _ ⟨b8, hb8, rfl, rfl⟩
          refine L_go rfl (X_wr (w_store (cs' := [_, _]) sz33 rfl rfl rfl rfl rfl (by repeat first | exact .head | apply SetAt.tail) (Nat.le_of_ble_eq_true rfl) rfl) ?_)
          rintro _ _ ⟨rfl, rfl⟩
          refine L_go rfl (X_p (p_assign rfl rfl) ?_)
          refine L_then (.cons (k := 1) rfl (.cons (k := 2) rfl (.cons (k := 3) rfl (.cons (k := 6) rfl (.cons (k := 8) rfl (.cons (k := 9) rfl (.cons (k := 10) rfl (.cons (k := 11) rfl (.cons (k := 12) rfl .nil))))))))) ?_
          refine V_seq ?_
          refine V_seq (V_region rfl ?_)
          refine L_go rfl (X_p (p_move rfl rfl) ?_)
          refine L_go rfl (X_p (p_not rfl rfl) ?_)
          refine L_go rfl (X_p (p_move rfl rfl) ?_)
          refine L_cases (d := 39) rfl ?_ ?_
          · intro g2; have g2' := g2; try simp only [td] at g2'
            refine L_no rfl rfl rfl g2 ?_
            refine L_no rfl rfl rfl g2 ?_
            refine L_go rfl (X_p (p_pick_t rfl rfl g2 rfl) ?_)
            refine L_then (.cons (k := 1) rfl (.cons (k := 2) rfl (.cons (k := 3) rfl (.cons (k := 6) rfl (.cons (k := 8) rfl (.cons (k := 9) rfl (.cons (k := 10) rfl (.cons (k := 11) rfl (.cons (k := 42) rfl .nil))))))))) ?_
            refine V_cond_t rfl rfl ?_
            refine V_seq (V_region rfl ?_)
            refine L_go rfl (X_p (p_build (r := [_, _, _, _, _, _, _, _, _, _, _, _, _]) pl35 zr35 rfl rfl rfl) ?_)
            refine L_go rfl (X_wr (w_store (cs' := [_, _, _, _, _, _, _, _, _, _, _, _, _]) sz35 rfl rfl rfl rfl rfl (by repeat first | exact .head | apply SetAt.tail) (Nat.le_of_ble_eq_true rfl) rfl) ?_)
            rintro _ _ ⟨rfl, rfl⟩
            refine L_go rfl (X_p (p_assign rfl rfl) ?_)
            refine L_then (.cons (k := 6) rfl (.cons (k := 7) rfl .nil)) ?_
            refine V_ret (then_r (blk_r (then_r (then_r (blk_r (then_r ?_))))))
            refine Leave.nil (.cellA (us := [_, _, _, _, _, _, _, _, _, _, _, _, _]) rfl ag35 sz35 (by repeat first | exact mH | apply mT) rfl (.tmp rfl .nil)) ?_
            rw [boxT_1 (partT_some (sv_some hok1 g1' c2) c1) (partT_none1 (sv_none hok2 (.inl g2')))]; rfl
          · intro g2; have g2' := g2; try simp only [td] at g2'
            refine L_yes rfl rfl rfl g2 (X_rd (r_loadA (vs := [_, _]) ag33 sz33 rfl rfl (by repeat first | exact mH | apply mT) rfl) ?_)
            refine L_yes rfl rfl rfl g2 (X_wr (w_callP rfl rfl rfl (fun w hg => rnone_c _ _ w)) ?_)
            rintro _ _ ⟨rfl, rfl⟩
            refine L_go rfl (X_p (p_pick_f rfl rfl g2 rfl) ?_)
            refine L_then (.cons (k := 1) rfl (.cons (k := 2) rfl (.cons (k := 3) rfl (.cons (k := 6) rfl (.cons (k := 8) rfl (.cons (k := 9) rfl (.cons (k := 10) rfl (.cons (k := 11) rfl (.cons (k := 42) rfl .nil))))))))) ?_
            refine V_cond rfl ?_ ?_
            · intro c4; try simp only [td] at c4
              refine V_seq (V_region rfl ?_)
              refine L_go rfl (X_p (p_build (r := [_, _, _, _, _, _, _, _, _, _, _, _, _]) pl35 zr35 rfl rfl rfl) ?_)
              refine L_go rfl (X_wr (w_store (cs' := [_, _, _, _, _, _, _, _, _, _, _, _, _]) sz35 rfl rfl rfl rfl rfl (by repeat first | exact .head | apply SetAt.tail) (Nat.le_of_ble_eq_true rfl) rfl) ?_)
              rintro _ _ ⟨rfl, rfl⟩
              refine L_go rfl (X_p (p_assign rfl rfl) ?_)
              refine L_then (.cons (k := 6) rfl (.cons (k := 7) rfl .nil)) ?_
              refine V_ret (then_r (blk_r (then_r (then_r (blk_r (then_r ?_))))))
              refine Leave.nil (.cellA (us := [_, _, _, _, _, _, _, _, _, _, _, _, _]) rfl ag35 sz35 (by repeat first | exact mH | apply mT) rfl (.tmp rfl .nil)) ?_
              rw [boxT_1 (partT_some (sv_some hok1 g1' c2) c1) (partT_none1 (sv_none hok2 (.inr c4)))]; rfl
            · intro c4; try simp only [td] at c4
              refine V_skip (then_n ?_)
              refine V_region rfl ?_
              refine L_go rfl (X_p (p_move rfl rfl) ?_)
              refine L_go rfl (X_rd (r_loadA (vs := [_, _]) ag33 sz33 rfl rfl (by repeat first | exact mH | apply mT) rfl) ?_)
              refine L_go rfl (X_p (p_idxao ar124 rfl rfl rfl (by omega) (by omega)) ?_)
              refine L_go rfl (X_wr (w_store (cs' := [_, _, _, _, _, _]) sz33 rfl rfl rfl rfl rfl (by repeat first | exact .head | apply SetAt.tail) (Nat.le_of_ble_eq_true rfl) rfl) ?_)
              rintro _ _ ⟨rfl, rfl⟩
              refine L_keep (.cons (k := 1) rfl (.cons (k := 2) rfl (.cons (k := 3) rfl (.cons (k := 6) rfl (.cons (k := 8) rfl (.cons (k := 9) rfl (.cons (k := 10) rfl .nil))))))) (blk_n (then_n ?_))
              refine V_region rfl ?_
              refine L_go rfl (X_p (p_move rfl rfl) ?_)
              first | refine L_go rfl (X_p (p_add' rfl rfl rfl (by unfold InI; omega)) ?_) | refine L_go rfl (X_p (p_add rfl rfl rfl) ?_)
              refine L_go rfl (X_p (p_assign rfl rfl) ?_)
              refine L_keep (.cons (k := 1) rfl (.cons (k := 2) rfl (.cons (k := 3) rfl (.cons (k := 6) rfl (.cons (k := 8) rfl (.cons (k := 9) rfl (.cons (k := 10) rfl .nil))))))) (then_n ?_)
              refine LU_step ?_
              refine V_seq ?_
              refine V_seq (V_region rfl ?_)
              refine L_go rfl (X_p (p_move rfl rfl) ?_)
              refine L_go rfl (X_p (p_lss rfl rfl rfl) ?_)
              refine L_then (.cons (k := 1) rfl (.cons (k := 2) rfl (.cons (k := 3) rfl (.cons (k := 6) rfl (.cons (k := 8) rfl (.cons (k := 9) rfl (.cons (k := 10) rfl (.cons (k := 14) rfl .nil)))))))) ?_
              refine V_cond_t rfl rfl ?_
              refine V_skip (then_n ?_)
              refine V_seq ?_
              refine V_block ?_
              refine V_seq (V_region rfl ?_)
              refine L_go rfl (X_p (p_move rfl rfl) ?_)
              refine L_go rfl (X_rd (r_loadA (vs := [_, _, _, _, _]) ag25 sz25 rfl rfl (by repeat first | exact mH | apply mT) rfl) ?_)
              refine L_go rfl (X_p (p_move rfl rfl) ?_)
              refine L_go rfl (X_p (p_move rfl rfl) ?_)
              refine L_go rfl (X_p (p_move rfl rfl) ?_)
              refine L_go rfl (X_wr (w_callP rfl rfl rfl (fun w hg => rplaces_c t _ ps _ w (hT.good hg) (hS.good hg) hG hp hl _ _ (by omega))) ?_)
              rintro _ _ ⟨rfl, rfl⟩
              refine L_go rfl (X_p (p_idxao ar124 rfl rfl rfl (by omega) (by omega)) ?_)
              refine L_go rfl (X_wr (w_store (cs' := [_, _, _, _, _, _]) sz33 rfl rfl rfl rfl rfl (by repeat first | exact .head | apply SetAt.tail) (Nat.le_of_ble_eq_true rfl) rfl) ?_)
              rintro _ _ ⟨rfl, rfl⟩
              refine L_then (.cons (k := 1) rfl (.cons (k := 2) rfl (.cons (k := 3) rfl (.cons (k := 6) rfl (.cons (k := 8) rfl (.cons (k := 9) rfl (.cons (k := 10) rfl .nil))))))) ?_
              refine V_seq ?_
              refine V_seq (V_region rfl ?_)
              refine L_go rfl (X_p (p_move rfl rfl) ?_)
              refine L_go rfl (X_p (p_idxao ar124 rfl rfl rfl (by omega) (by omega)) ?_)
              refine L_go rfl (X_rd (r_loadA (vs := [_, _]) ag33 sz33 rfl rfl (by repeat first | exact mH | apply mT) rfl) ?_)
              refine L_go rfl (X_wr (w_callP rfl rfl rfl (fun w hg => rnone_c _ _ w)) ?_)
              rintro _ _ ⟨rfl, rfl⟩
              refine L_then (.cons (k := 1) rfl (.cons (k := 2) rfl (.cons (k := 3) rfl (.cons (k := 6) rfl (.cons (k := 8) rfl (.cons (k := 9) rfl (.cons (k := 10) rfl (.cons (k := 27) rfl .nil)))))))) ?_
              refine V_cond rfl ?_ ?_
              · intro c5; try simp only [td] at c5
                refine V_seq (V_region rfl ?_)
                refine L_go rfl (X_p (p_build (r := [_, _, _, _, _, _, _, _, _, _, _, _, _]) pl35 zr35 rfl rfl rfl) ?_)
                refine L_go rfl (X_wr (w_store (cs' := [_, _, _, _, _, _, _, _, _, _, _, _, _]) sz35 rfl rfl rfl rfl rfl (by repeat first | exact .head | apply SetAt.tail) (Nat.le_of_ble_eq_true rfl) rfl) ?_)
                rintro _ _ ⟨rfl, rfl⟩
                refine L_go rfl (X_p (p_assign rfl rfl) ?_)
                refine L_then (.cons (k := 6) rfl (.cons (k := 7) rfl .nil)) ?_
                refine V_ret (then_r (blk_r (then_r (then_r (blk_r (then_r ?_))))))
                refine Leave.nil (.cellA (us := [_, _, _, _, _, _, _, _, _, _, _, _, _]) rfl ag35 sz35 (by repeat first | exact mH | apply mT) rfl (.tmp rfl .nil)) ?_
                rw [boxT_2 (partT_some (sv_some hok1 g1' c2) c1) (partT_some (sv_some hok2 g2' c4) c3) (partT_none2 c5)]; rfl
              · intro c5; try simp only [td] at c5
                refine V_skip (then_n ?_)
                refine V_seq (V_region rfl ?_)
                refine L_go rfl (X_rd (r_loadA (vs := [_, _, _, _, _]) ag25 sz25 rfl rfl (by repeat first | exact mH | apply mT) rfl) ?_)
                refine L_go rfl (X_p (p_move rfl rfl) ?_)
                refine L_go rfl (X_p (p_move rfl rfl) ?_)
                refine L_go rfl (X_p (p_move rfl rfl) ?_)
                refine L_go rfl (X_wr (w_callN rfl rfl rfl (fun w hg => rspeeds_c t _ ps _ w (hT.good hg) (hS.good hg) hG hp hl _ u hu)) ?_)
                rintro _ _ ⟨_, rfl, _, ⟨lo3, hi3, ok3, rfl, hok3⟩, rfl⟩
                try simp only [List.nil_append]
                refine L_go rfl (X_p (p_move rfl rfl) ?_)
                refine L_go rfl (X_p (p_ext rfl rfl rfl) ?_)
                refine L_go rfl (X_p (p_ext rfl rfl rfl) ?_)
                refine L_go rfl (X_wr (w_alloc zr33 rfl) ?_)
                rintro _ _ ⟨b10, hb10, rfl, rfl⟩
                refine L_go rfl (X_wr (w_store (cs' := [_, _]) sz33 rfl rfl rfl rfl rfl (by repeat first | exact .head | apply SetAt.tail) (Nat.le_of_ble_eq_true rfl) rfl) ?_)
                rintro _ _ ⟨rfl, rfl⟩
                refine L_go rfl (X_p (p_assign rfl rfl) ?_)
                refine L_then (.cons (k := 1) rfl (.cons (k := 2) rfl (.cons (k := 3) rfl (.cons (k := 6) rfl (.cons (k := 8) rfl (.cons (k := 9) rfl (.cons (k := 10) rfl (.cons (k := 11) rfl (.cons (k := 12) rfl .nil))))))))) ?_
                refine V_seq ?_
                refine V_seq (V_region rfl ?_)
                refine L_go rfl (X_p (p_move rfl rfl) ?_)
                refine L_go rfl (X_p (p_not rfl rfl) ?_)
                refine L_go rfl (X_p (p_move rfl rfl) ?_)
                refine L_cases (d := 39) rfl ?_ ?_
                · intro g3; have g3' := g3; try simp only [td] at g3'
                  refine L_no rfl rfl rfl g3 ?_
                  refine L_no rfl rfl rfl g3 ?_
                  refine L_go rfl (X_p (p_pick_t rfl rfl g3 rfl) ?_)
                  refine L_then (.cons (k := 1) rfl (.cons (k := 2) rfl (.cons (k := 3) rfl (.cons (k := 6) rfl (.cons (k := 8) rfl (.cons (k := 9) rfl (.cons (k := 10) rfl (.cons (k := 11) rfl (.cons (k := 42) rfl .nil))))))))) ?_
                  refine V_cond_t rfl rfl ?_
                  refine V_seq (V_region rfl ?_)
                  refine L_go rfl (X_p (p_build (r := [_, _, _, _, _, _, _, _, _, _, _, _, _]) pl35 zr35 rfl rfl rfl) ?_)
                  refine L_go rfl (X_wr (w_store (cs' := [_, _, _, _, _, _, _, _, _, _, _, _, _]) sz35 rfl rfl rfl rfl rfl (by repeat first | exact .head | apply SetAt.tail) (Nat.le_of_ble_eq_true rfl) rfl) ?_)
                  rintro _ _ ⟨rfl, rfl⟩
                  refine L_go rfl (X_p (p_assign rfl rfl) ?_)
                  refine L_then (.cons (k := 6) rfl (.cons (k := 7) rfl .nil)) ?_
                  refine V_ret (then_r (blk_r (then_r (then_r (blk_r (then_r ?_))))))
                  refine Leave.nil (.cellA (us := [_, _, _, _, _, _, _, _, _, _, _, _, _]) rfl ag35 sz35 (by repeat first | exact mH | apply mT) rfl (.tmp rfl .nil)) ?_
                  rw [boxT_2 (partT_some (sv_some hok1 g1' c2) c1) (partT_some (sv_some hok2 g2' c4) c3) (partT_none1 (sv_none hok3 (.inl g3')))]; rfl
                · intro g3; have g3' := g3; try simp only [td] at g3'
                  refine L_yes rfl rfl rfl g3 (X_rd (r_loadA (vs := [_, _]) ag33 sz33 rfl rfl (by repeat first | exact mH | apply mT) rfl) ?_)
                  refine L_yes rfl rfl rfl g3 (X_wr (w_callP rfl rfl rfl (fun w hg => rnone_c _ _ w)) ?_)
                  rintro _ _ ⟨rfl, rfl⟩
                  refine L_go rfl (X_p (p_pick_f rfl rfl g3 rfl) ?_)
                  refine L_then (.cons (k := 1) rfl (.cons (k := 2) rfl (.cons (k := 3) rfl (.cons (k := 6) rfl (.cons (k := 8) rfl (.cons (k := 9) rfl (.cons (k := 10) rfl (.cons (k := 11) rfl (.cons (k := 42) rfl .nil))))))))) ?_
                  refine V_cond rfl ?_ ?_
                  · intro c6; try simp only [td] at c6
                    refine V_seq (V_region rfl ?_)
                    refine L_go rfl (X_p (p_build (r := [_, _, _, _, _, _, _, _, _, _, _, _, _]) pl35 zr35 rfl rfl rfl) ?_)
                    refine L_go rfl (X_wr (w_store (cs' := [_, _, _, _, _, _, _, _, _, _, _, _, _]) sz35 rfl rfl rfl rfl rfl (by repeat first | exact .head | apply SetAt.tail) (Nat.le_of_ble_eq_true rfl) rfl) ?_)
                    rintro _ _ ⟨rfl, rfl⟩
                    refine L_go rfl (X_p (p_assign rfl rfl) ?_)
                    refine L_then (.cons (k := 6) rfl (.cons (k := 7) rfl .nil)) ?_
                    refine V_ret (then_r (blk_r (then_r (then_r (blk_r (then_r ?_))))))
                    refine Leave.nil (.cellA (us := [_, _, _, _, _, _, _, _, _, _, _, _, _]) rfl ag35 sz35 (by repeat first | exact mH | apply mT) rfl (.tmp rfl .nil)) ?_
                    rw [boxT_2 (partT_some (sv_some hok1 g1' c2) c1) (partT_some (sv_some hok2 g2' c4) c3) (partT_none1 (sv_none hok3 (.inr c6)))]; rfl
                  · intro c6; try simp only [td] at c6
                    refine V_skip (then_n ?_)
                    refine V_region rfl ?_
                    refine L_go rfl (X_p (p_move rfl rfl) ?_)
                    refine L_go rfl (X_rd (r_loadA (vs := [_, _]) ag33 sz33 rfl rfl (by repeat first | exact mH | apply mT) rfl) ?_)
                    refine L_go rfl (X_p (p_idxao ar124 rfl rfl rfl (by omega) (by omega)) ?_)
                    refine L_go rfl (X_wr (w_store (cs' := [_, _, _, _, _, _]) sz33 rfl rfl rfl rfl rfl (by repeat first | exact .head | apply SetAt.tail) (Nat.le_of_ble_eq_true rfl) rfl) ?_)
                    rintro _ _ ⟨rfl, rfl⟩
                    refine L_keep (.cons (k := 1) rfl (.cons (k := 2) rfl (.cons (k := 3) rfl (.cons (k := 6) rfl (.cons (k := 8) rfl (.cons (k := 9) rfl (.cons (k := 10) rfl .nil))))))) (blk_n (then_n ?_))
                    refine V_region rfl ?_
                    refine L_go rfl (X_p (p_move rfl rfl) ?_)
                    first | refine L_go rfl (X_p (p_add' rfl rfl rfl (by unfold InI; omega)) ?_) | refine L_go rfl (X_p (p_add rfl rfl rfl) ?_)
                    refine L_go rfl (X_p (p_assign rfl rfl) ?_)
                    refine L_keep (.cons (k := 1) rfl (.cons (k := 2) rfl (.cons (k := 3) rfl (.cons (k := 6) rfl (.cons (k := 8) rfl (.cons (k := 9) rfl (.cons (k := 10) rfl .nil))))))) (then_n ?_)
                    refine LU_step ?_
                    refine V_seq ?_
                    refine V_seq (V_region rfl ?_)
                    refine L_go rfl (X_p (p_move rfl rfl) ?_)
                    refine L_go rfl (X_p (p_lss rfl rfl rfl) ?_)
                    refine L_then (.cons (k := 1) rfl (.cons (k := 2) rfl (.cons (k := 3) rfl (.cons (k := 6) rfl (.cons (k := 8) rfl (.cons (k := 9) rfl (.cons (k := 10) rfl (.cons (k := 14) rfl .nil)))))))) ?_
                    refine V_cond_f rfl rfl ?_
                    refine V_exit (then_e (then_e (blk_e rfl (then_n ?_))))
                    refine V_seq (V_region rfl ?_)
                    refine L_go rfl (X_p (p_move rfl rfl) ?_)
                    refine L_go rfl (X_p (p_idxao ar124 rfl rfl rfl (by omega) (by omega)) ?_)
                    refine L_go rfl (X_rd (r_loadA (vs := [_, _]) ag33 sz33 rfl rfl (by repeat first | exact mH | apply mT) rfl) ?_)
                    refine L_go rfl (X_p (p_idxao ar124 rfl rfl rfl (by omega) (by omega)) ?_)
                    refine L_go rfl (X_rd (r_loadA (vs := [_, _]) ag33 sz33 rfl rfl (by repeat first | exact mH | apply mT) rfl) ?_)
                    refine L_go rfl (X_p (p_idxao ar124 rfl rfl rfl (by omega) (by omega)) ?_)
                    refine L_go rfl (X_rd (r_loadA (vs := [_, _]) ag33 sz33 rfl rfl (by repeat first | exact mH | apply mT) rfl) ?_)
                    refine L_go rfl (X_p (p_idxao ar124 rfl rfl rfl (by omega) (by omega)) ?_)
                    refine L_go rfl (X_rd (r_loadA (vs := [_, _]) ag33 sz33 rfl rfl (by repeat first | exact mH | apply mT) rfl) ?_)
                    refine L_go rfl (X_p (p_idxao ar124 rfl rfl rfl (by omega) (by omega)) ?_)
                    refine L_go rfl (X_rd (r_loadA (vs := [_, _]) ag33 sz33 rfl rfl (by repeat first | exact mH | apply mT) rfl) ?_)
                    refine L_go rfl (X_p (p_idxao ar124 rfl rfl rfl (by omega) (by omega)) ?_)
                    refine L_go rfl (X_rd (r_loadA (vs := [_, _]) ag33 sz33 rfl rfl (by repeat first | exact mH | apply mT) rfl) ?_)
                    refine L_go rfl (X_p (p_build (r := [_, _, _, _, _, _, _, _, _, _, _, _, _]) pl35 zr35 rfl rfl rfl) ?_)
                    refine L_go rfl (X_wr (w_store (cs' := [_, _, _, _, _, _, _, _, _, _, _, _, _]) sz35 rfl rfl rfl rfl rfl (by repeat first | exact .head | apply SetAt.tail) (Nat.le_of_ble_eq_true rfl) rfl) ?_)
                    rintro _ _ ⟨rfl, rfl⟩
                    refine L_go rfl (X_p (p_assign rfl rfl) ?_)
                    refine L_then (.cons (k := 6) rfl (.cons (k := 7) rfl .nil)) ?_
                    refine V_ret ?_
                    refine Leave.nil (.cellA (us := [_, _, _, _, _, _, _, _, _, _, _, _, _]) rfl ag35 sz35 (by repeat first | exact mH | apply mT) rfl (.tmp rfl .nil)) ?_
                    rw [boxT_3 (partT_some (sv_some hok1 g1' c2) c1) (partT_some (sv_some hok2 g2' c4) c3) (partT_some (sv_some hok3 g3' c6) c5)]; rfl

end Go.Proofs.Ytclbbchehjapjaa
