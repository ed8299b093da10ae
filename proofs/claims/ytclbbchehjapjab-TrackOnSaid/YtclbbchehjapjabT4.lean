/- Ytclbbchehjapjab: the walk of place. -/
import Derived.Test.YtclbbchehjapjabT3
set_option linter.all false
namespace Go.Proofs.Ytclbbchehjapjab
open Go.Vc Go.Tk
set_option maxRecDepth 100000
theorem place_c (bp bm : Nat) (es : Array MapEntry) (clk : Nat) (t : Task) (ps : List Int) (k u : Int) (hk : k = 0 ∨ k = 1 ∨ k = 2) (hu : 0 ≤ u ∧ u ≤ 100000) (w : World) (hp : PickR w bp bm (.map (some bm)) t ps) (hc : Cache t ps es) (hb : w.heap[bm]? = some (.map es clk)) : FnC Try.prog 61 [.pointer (some ⟨bp, 0, none⟩), .agg #[.int .i64 k, .int .i64 u]] w fun v w' => ∃ o', Vc.Good w [bm] [(bm, o')] w' ∧ (v = .agg #[.int .i64 (placeT t ps k u).lo, .int .i64 (placeT t ps k u).hi] ∧ ∃ es' clk', o' = .map es' clk' ∧ Cache t ps es') := by
  have hP := hp
  obtain ⟨tv, pv, sv, ty, fr, hbp, htr, hpl, hsv⟩ := hp.ex
  obtain ⟨ta, tc, rfl, htc, hte⟩ := htr.ex
  obtain ⟨pa, pc, rfl, hpc, hpe⟩ := hpl.ex
  obtain ⟨sa, sc, rfl, hsc, hse⟩ := hsv.ex
  have hG := hP.good
  obtain ⟨hfrm, hspd, hacc⟩ := hG.nums
  have hne := hP.ne
  have hpsl := hP.psl
  simp only [List.length_map] at hbp htc hpc hsc
  obtain ⟨l, his, hca⟩ := hc
  obtain ⟨lo0, hi0, is0, hs1, hs2, hs3, hs4⟩ := cache_look hca k u
  refine fn_mod (b := bm) Try.func61 rfl (by kernel_rfl) Try.ntmps61 Try.results61 rfl hb ?_
  refine V_seq (V_region rfl ?_)
  refine L_go rfl (X_wr (w_box rfl rfl) ?_)
  rintro _ _ ⟨b1, hb1, rfl, rfl⟩
  refine L_go rfl (X_wr (w_alloc zr103 rfl) ?_)
  rintro _ _ ⟨b2, hb2, rfl, rfl⟩
  refine L_then (.cons (k := 0) rfl (.cons (k := 3) rfl (.cons (k := 4) rfl .nil))) ?_
  refine V_seq ?_
  refine V_seq (V_draw (.rd 0 (.rd 1 (.rd 2 (.rd 3 (.rd 4 (.rd 5 (.rd 6 (.rd 7 (.rd 8 (.wr 9 [8, 7, 6, 5, 4, 3, 2, 1, 0] (.wr 10 [8] (.rd 11 .done)))))))))))) mixed (by kernel_rfl) rfl ?_)
  refine D_p rfl (.plain rfl) (p_move rfl rfl) ?_
  refine D_p rfl (.plain rfl) (p_nil rfl rfl) ?_
  refine D_p rfl (.plain rfl) (p_fieldo fo120_2 rfl rfl) ?_
  refine D_rd rfl (.plain rfl) (r_loadB ag118 rfl rfl (own_cell hbp _) (by simp only [Vc.add_block, List.mem_singleton]; assumption)) ?_
  refine D_rd rfl (.plain rfl) (r_loadA (vs := [_, _]) ag125 sz125 rfl rfl (by repeat first | exact mH | apply mT) rfl) ?_
  refine D_rd rfl (.plain rfl) (show RdA _ _ _ _ (.tuple #[.agg #[.int .i64 lo0, .int .i64 hi0], .bool is0]) from hs1 ▸ hs2 ▸ r_look2 un118 lv125 ag125 zr103 rfl rfl rfl (k := [_, _]) rfl (by repeat first | exact mH | apply mT) his (cache_fit hca)) ?_
  refine D_p rfl (.plain rfl) (p_move rfl rfl) ?_
  refine D_p rfl (.plain rfl) (p_ext rfl rfl rfl) ?_
  refine D_p rfl (.plain rfl) (p_ext rfl rfl rfl) ?_
  refine D_wr (.go (E' := [(5, _), (4, _), (3, _)]) rfl (.plain rfl) (w_alloc zr103 rfl) rfl ?_)
  rintro _ _ ⟨b3, hb3, rfl, rfl⟩
  refine ⟨(.cons rfl (.plain rfl) (show RdA _ _ _ _ (.tuple #[.agg #[.int .i64 lo0, .int .i64 hi0], .bool is0]) from hs1 ▸ hs2 ▸ r_look2 un118 lv125 ag125 zr103 rfl rfl rfl (k := [_, _]) rfl (by repeat first | exact mH | apply mT) his (cache_fit hca)) (.cons rfl (.plain rfl) (r_loadA (vs := [_, _]) ag125 sz125 rfl rfl (by repeat first | exact mH | apply mT) rfl) (.cons rfl (.plain rfl) (r_loadB ag118 rfl rfl (own_cell hbp _) (by simp only [Vc.add_block, List.mem_singleton]; assumption)) .nil))), ?_⟩
  refine D_wr (.go (E' := []) rfl (.plain rfl) (w_store (cs' := [_, _]) sz103 rfl rfl rfl rfl rfl (by repeat first | exact .head | apply SetAt.tail) (Nat.le_of_ble_eq_true rfl) rfl) rfl ?_)
  rintro _ _ ⟨rfl, rfl⟩
  refine ⟨.nil, ?_⟩
  refine D_p rfl (.plain rfl) (p_assign rfl rfl) ?_
  refine D_then (.cons (k := 0) rfl (.cons (k := 3) rfl (.cons (k := 4) rfl (.cons (k := 5) rfl (.cons (k := 6) rfl .nil))))) ?_
  refine V_seq (V_region rfl ?_)
  refine L_go rfl (X_p (p_move rfl rfl) ?_)
  refine L_then (.cons (k := 0) rfl (.cons (k := 3) rfl (.cons (k := 4) rfl (.cons (k := 5) rfl (.cons (k := 23) rfl .nil))))) ?_
  refine V_cond rfl ?_ ?_
  · intro c1; try simp only [td] at c1
    refine V_seq (V_region rfl ?_)
    refine L_go rfl (X_rd (r_loadA (vs := [_, _]) ag103 sz103 rfl rfl (by repeat first | exact mH | apply mT) rfl) ?_)
    refine L_go rfl (X_wr (w_store (cs' := [_, _]) sz103 rfl rfl rfl rfl rfl (by repeat first | exact .head | apply SetAt.tail) (Nat.le_of_ble_eq_true rfl) rfl) ?_)
    rintro _ _ ⟨rfl, rfl⟩
    refine L_then (.cons (k := 4) rfl .nil) ?_
    refine V_ret (then_r ?_)
    refine Leave.nil (.cellA (us := [_, _]) rfl ag103 sz103 (by repeat first | exact mH | apply mT) rfl .nil) ?_
    obtain ⟨rfl, rfl⟩ := hs3 c1
    exact ⟨_, (by repeat first | exact mH | apply mT), rfl, _, _, rfl, l, his, hca⟩
  · intro c1; try simp only [td] at c1
    refine V_skip (then_n ?_)
    refine V_seq (V_region rfl ?_)
    refine L_go rfl (X_wr (w_alloc zr103 rfl) ?_)
    rintro _ _ ⟨b4, hb4, rfl, rfl⟩
    refine L_then (.cons (k := 0) rfl (.cons (k := 3) rfl (.cons (k := 4) rfl (.cons (k := 7) rfl .nil)))) ?_
    refine V_seq ?_
    refine V_seq (V_draw (.rd 0 (.rd 1 (.rd 2 (.rd 3 (.rd 4 (.rd 5 (.rd 6 (.rd 7 (.rd 8 .done))))))))) mixed (by kernel_rfl) rfl ?_)
    refine D_p rfl (.plain rfl) (p_fieldo fo125_1 rfl rfl) ?_
    refine D_rd rfl (.plain rfl) (r_load ag3 rfl rfl (by repeat first | exact mH | apply mT) rfl) ?_
    refine D_p rfl (.plain rfl) (p_move rfl rfl) ?_
    refine D_p rfl (.plain rfl) (p_nil rfl rfl) ?_
    refine D_p rfl (.plain rfl) (p_fieldo fo120_0 rfl rfl) ?_
    refine D_p rfl (.plain rfl) (p_fieldo fo25_0 rfl rfl) ?_
    refine D_rd rfl (.plain rfl) (r_loadB ag3 rfl rfl (own_cell hbp _) (by simp only [Vc.add_block, List.mem_singleton]; assumption)) ?_
    first | refine D_p rfl (.plain rfl) (p_sub' rfl rfl rfl (by unfold InI; omega)) ?_ | refine D_p rfl (.plain rfl) (p_sub rfl rfl rfl) ?_
    refine D_p rfl (.plain rfl) (p_assign rfl rfl) ?_
    refine D_then (.cons (k := 0) rfl (.cons (k := 3) rfl (.cons (k := 4) rfl (.cons (k := 7) rfl (.cons (k := 8) rfl .nil))))) ?_
    refine V_seq (V_region rfl ?_)
    refine L_go rfl (X_p (p_move rfl rfl) ?_)
    refine L_go rfl (X_p (p_gtr rfl rfl rfl) ?_)
    refine L_then (.cons (k := 0) rfl (.cons (k := 3) rfl (.cons (k := 4) rfl (.cons (k := 7) rfl (.cons (k := 8) rfl (.cons (k := 34) rfl .nil)))))) ?_
    refine V_cond rfl ?_ ?_
    · intro c2; try simp only [td] at c2
      have hrb := reachT_bnd hG (n := u - t.frm) (by omega)
      refine V_seq (V_region rfl ?_)
      refine L_go rfl (X_p (p_move rfl rfl) ?_)
      refine L_go rfl (X_p (p_move rfl rfl) ?_)
      refine L_go rfl (X_wr (w_callP rfl rfl rfl (fun w hg => reach_c bp bm _ t ps w (hP.good' hg) _ (by omega))) ?_)
      rintro _ _ ⟨rfl, rfl⟩
      refine L_go rfl (X_p (p_min rfl rfl rfl) ?_)
      refine L_go rfl (X_wr (w_callP rfl rfl rfl (fun w hg => around_c _ (by omega) w)) ?_)
      rintro _ _ ⟨rfl, rfl⟩
      refine L_go rfl (X_wr (w_store (cs' := [_, _]) sz103 rfl rfl rfl rfl rfl (by repeat first | exact .head | apply SetAt.tail) (Nat.le_of_ble_eq_true rfl) rfl) ?_)
      rintro _ _ ⟨rfl, rfl⟩
      refine L_then (.cons (k := 0) rfl (.cons (k := 3) rfl (.cons (k := 4) rfl (.cons (k := 7) rfl .nil)))) ?_
      refine V_seq (V_region rfl ?_)
      refine L_go rfl (X_p (p_fieldo fo125_0 rfl rfl) ?_)
      refine L_go rfl (X_rd (r_load ag3 rfl rfl (by repeat first | exact mH | apply mT) rfl) ?_)
      refine L_go rfl (X_wr (w_callP rfl rfl rfl (fun w hg => part_c k hk w)) ?_)
      rintro _ _ ⟨rfl, rfl⟩
      refine L_go rfl (X_p (p_assign rfl rfl) ?_)
      refine L_then (.cons (k := 0) rfl (.cons (k := 3) rfl (.cons (k := 4) rfl (.cons (k := 7) rfl (.cons (k := 9) rfl .nil))))) ?_
      refine V_seq (V_region rfl ?_)
      refine L_go rfl (X_p (p_move rfl rfl) ?_)
      refine L_go rfl (X_p (p_nil rfl rfl) ?_)
      refine L_go rfl (X_p (p_fieldo fo120_1 rfl rfl) ?_)
      refine L_go rfl (X_rd (r_loadB ag27 rfl rfl (own_cell hbp _) (by simp only [Vc.add_block, List.mem_singleton]; assumption)) ?_)
      refine L_go rfl (X_p (p_len isl27 rfl rfl) ?_)
      refine L_go rfl (X_p (p_move rfl rfl) ?_)
      refine L_then (.cons (k := 0) rfl (.cons (k := 3) rfl (.cons (k := 4) rfl (.cons (k := 7) rfl (.cons (k := 9) rfl (.cons (k := 46) rfl (.cons (k := 47) rfl (.cons (k := 48) rfl .nil)))))))) ?_
      refine V_block ?_
      refine V_loop1 (γ := Int × Span) (.cons (k := 0) rfl (.cons (k := 3) rfl (.cons (k := 4) rfl (.cons (k := 7) rfl (.cons (k := 9) rfl (.cons (k := 46) rfl (.cons (k := 47) rfl .nil))))))) (fun (j, s) => [(48, .int .i64 j)]) (fun (j, s) => [(b4, .cells #[.int .i64 s.lo, .int .i64 s.hi] 103), (b2, .cells #[.int .i64 0, .int .i64 0] 103), (b1, .cells #[.int .i64 k, .int .i64 u] 125), (bm, .map es clk)]) (fun (j, s) => 0 ≤ j ∧ j ≤ ps.length ∧ s = (ps.take j.toNat).foldl (fun s i => common s (plotS t k u i)) (room0 (min 2000000000 (reachT t (u - t.frm))))) (fun (j, s) => (ps.length - j).toNat) ((0, room0 (min 2000000000 (reachT t (u - t.frm))))) (.cons rfl (.nil _)) (by repeat (first | exact List.Sublist.refl _ | apply List.Sublist.cons_cons | apply List.Sublist.cons)) (⟨by omega, by omega, rfl⟩) ?_
      rintro ⟨j, s⟩ hi
      obtain ⟨hj0, hj1, hs⟩ := hi
      refine V_seq (V_region rfl ?_)
      refine L_go rfl (X_p (p_lss rfl rfl rfl) ?_)
      refine L_then (.cons (k := 0) rfl (.cons (k := 3) rfl (.cons (k := 4) rfl (.cons (k := 7) rfl (.cons (k := 9) rfl (.cons (k := 46) rfl (.cons (k := 47) rfl (.cons (k := 48) rfl (.cons (k := 49) rfl .nil))))))))) ?_
      refine V_seq ?_
      refine V_cond rfl ?_ ?_
      · intro c3; try simp only [td] at c3
        obtain ⟨sb, rfl, hsn, hcs⟩ := hse j.toNat _ (getD_cells (f := fun n : Int => [Value.int .i64 n]) (d := 0) (by omega))
        have hib := hP.bnd (ps.getD j.toNat 0) (getD_mem (by omega))
        have hii : (ps.getD j.toNat 0).toNat < t.plots.length := by omega
        obtain ⟨pb, rfl, hpn, hcp⟩ := hpe (ps.getD j.toNat 0).toNat _ (getD_cells (d := plZ) (by omega))
        have hsl := slack_bnd hG hii hu
        have hwd := width_bnd hG hii
        have hpt := part_bnd hG hii k
        have htk := (hG.plot hii).tick
        have hsl0 : slackT t u (ps.getD j.toNat 0).toNat = widthT t (ps.getD j.toNat 0).toNat + t.speed * apartI (t.pl (ps.getD j.toNat 0).toNat).tick u := rfl
        simp only [Task.pl] at hsl htk hsl0 hpt
        refine V_skip (then_n ?_)
        refine V_seq ?_
        refine V_block ?_
        refine V_seq (V_region rfl ?_)
        refine L_go rfl (X_p (p_idx es27 rfl rfl rfl (by omega) (by omega)) ?_)
        refine L_go rfl (X_rd (r_loadB ag3 rfl rfl hcs.zero (by simp only [Vc.add_block, List.mem_singleton]; assumption)) ?_)
        refine L_go rfl (X_p (p_assign rfl rfl) ?_)
        refine L_then (.cons (k := 0) rfl (.cons (k := 3) rfl (.cons (k := 4) rfl (.cons (k := 7) rfl (.cons (k := 9) rfl (.cons (k := 11) rfl (.cons (k := 46) rfl (.cons (k := 47) rfl (.cons (k := 48) rfl .nil))))))))) ?_
        refine V_seq (V_region rfl ?_)
        refine L_go rfl (X_p (p_move rfl rfl) ?_)
        refine L_go rfl (X_p (p_nil rfl rfl) ?_)
        refine L_go rfl (X_p (p_fieldo fo120_0 rfl rfl) ?_)
        refine L_go rfl (X_p (p_fieldo fo25_4 rfl rfl) ?_)
        refine L_go rfl (X_rd (r_loadB ag23 rfl rfl (own_cell hbp _) (by simp only [Vc.add_block, List.mem_singleton]; assumption)) ?_)
        refine L_go rfl (X_p (p_move rfl rfl) ?_)
        refine L_go rfl (X_p (p_idx es23 rfl rfl rfl (by omega) (by omega)) ?_)
        refine L_go rfl (X_rd (r_loadBA ag114 sz114 rfl rfl hcp rfl (by simp only [Vc.add_block, List.mem_singleton]; assumption)) ?_)
        refine L_go rfl (X_wr (w_alloc zr114 rfl) ?_)
        rintro _ _ ⟨b5, hb5, rfl, rfl⟩
        refine L_go rfl (X_wr (w_store (cs' := [_, _, _, _, _]) sz114 rfl rfl rfl rfl rfl (by repeat first | exact .head | apply SetAt.tail) (Nat.le_of_ble_eq_true rfl) rfl) ?_)
        rintro _ _ ⟨rfl, rfl⟩
        refine L_then (.cons (k := 0) rfl (.cons (k := 3) rfl (.cons (k := 4) rfl (.cons (k := 7) rfl (.cons (k := 9) rfl (.cons (k := 11) rfl (.cons (k := 12) rfl (.cons (k := 46) rfl (.cons (k := 47) rfl (.cons (k := 48) rfl .nil)))))))))) ?_
        refine V_seq (V_draw (.rd 0 (.rd 1 (.rd 3 (.rd 4 (.rd 5 (.rd 6 (.rd 7 (.rd 8 (.rd 9 (.rd 10 (.rd 11 (.wr 2 [11, 10, 9, 8, 7, 6, 5, 4, 3] (.wr 12 [10, 8, 7, 6, 5, 4, 3, 1, 0] (.rd 13 (.rd 14 (.rd 15 .done)))))))))))))))) mixed (by kernel_rfl) rfl ?_)
        refine D_p rfl (.plain rfl) (p_move rfl rfl) ?_
        refine D_p rfl (.plain rfl) (p_move rfl rfl) ?_
        refine D_p rfl (.plain rfl) (p_move rfl rfl) ?_
        refine D_p rfl (.plain rfl) (p_nil rfl rfl) ?_
        refine D_p rfl (.plain rfl) (p_fieldo fo120_0 rfl rfl) ?_
        refine D_p rfl (.plain rfl) (p_fieldo fo25_1 rfl rfl) ?_
        refine D_rd rfl (.plain rfl) (r_loadB ag3 rfl rfl (own_cell hbp _) (by simp only [Vc.add_block, List.mem_singleton]; assumption)) ?_
        refine D_p rfl (.plain rfl) (p_fieldo fo114_1 rfl rfl) ?_
        refine D_rd rfl (.plain rfl) (r_load ag3 rfl rfl (by repeat first | exact mH | apply mT) rfl) ?_
        refine D_p rfl (.plain rfl) (p_fieldo fo125_1 rfl rfl) ?_
        refine D_rd rfl (.plain rfl) (r_load ag3 rfl rfl (by repeat first | exact mH | apply mT) rfl) ?_
        refine D_wr (.go (E' := [(11, _), (9, _), (7, _)]) rfl (.plain rfl) (w_callP rfl rfl rfl (fun w hg => width_c bp bm _ t ps w (hP.good' hg) _ hib.1 hib.2)) rfl ?_)
        rintro _ _ ⟨rfl, rfl⟩
        refine ⟨(.cons rfl (.plain rfl) (r_load ag3 rfl rfl (by repeat first | exact mH | apply mT) rfl) (.cons rfl (.plain rfl) (r_load ag3 rfl rfl (by repeat first | exact mH | apply mT) rfl) (.cons rfl (.plain rfl) (r_loadB ag3 rfl rfl (own_cell hbp _) (by simp only [Vc.add_block, List.mem_singleton]; assumption)) .nil))), ?_⟩
        refine D_wr (.go (E' := [(7, _)]) rfl (.plain rfl) (w_callP rfl rfl rfl (fun w hg => apart_c _ _ (by omega) (by omega) w)) rfl ?_)
        rintro _ _ ⟨rfl, rfl⟩
        refine ⟨(.cons rfl (.plain rfl) (r_loadB ag3 rfl rfl (own_cell hbp _) (by simp only [Vc.add_block, List.mem_singleton]; assumption)) .nil), ?_⟩
        first | refine D_p rfl (.plain rfl) (p_mul' rfl rfl rfl (by unfold InI; omega)) ?_ | refine D_p rfl (.plain rfl) (p_mul rfl rfl rfl) ?_
        first | refine D_p rfl (.plain rfl) (p_add' rfl rfl rfl (by unfold InI; omega)) ?_ | refine D_p rfl (.plain rfl) (p_add rfl rfl rfl) ?_
        refine D_p rfl (.plain rfl) (p_assign rfl rfl) ?_
        refine D_then (.cons (k := 0) rfl (.cons (k := 3) rfl (.cons (k := 4) rfl (.cons (k := 7) rfl (.cons (k := 9) rfl (.cons (k := 12) rfl (.cons (k := 13) rfl (.cons (k := 46) rfl (.cons (k := 47) rfl (.cons (k := 48) rfl .nil)))))))))) ?_
        refine V_draw (.rd 0 (.rd 1 (.rd 3 (.rd 5 (.rd 6 (.rd 8 (.wr 2 [8, 6, 5, 3] (.rd 4 (.wr 7 [8, 4, 3, 1, 0] (.rd 9 (.wr 10 [8, 6, 5, 3, 1, 0] .done))))))))))) mixed (by kernel_rfl) rfl ?_
        refine D_p rfl (.plain rfl) (p_move rfl rfl) ?_
        refine D_rd rfl (.plain rfl) (r_loadA (vs := [_, _, _, _, _]) ag114 sz114 rfl rfl (by repeat first | exact mH | apply mT) rfl) ?_
        refine D_p rfl (.plain rfl) (p_move rfl rfl) ?_
        refine D_p rfl (.plain rfl) (p_move rfl rfl) ?_
        refine D_rd rfl (.plain rfl) (r_loadA (vs := [_, _, _, _, _]) ag114 sz114 rfl rfl (by repeat first | exact mH | apply mT) rfl) ?_
        refine D_p rfl (.plain rfl) (p_move rfl rfl) ?_
        refine D_wr (.go (E' := [(6, _)]) rfl (.plain rfl) (w_callP rfl rfl rfl (fun w hg => pf_c k (t.plots.getD (ps.getD j.toNat 0).toNat plZ) w)) rfl ?_)
        rintro _ _ ⟨rfl, rfl⟩
        refine ⟨(.cons rfl (.plain rfl) (r_loadA (vs := [_, _, _, _, _]) ag114 sz114 rfl rfl (by repeat first | exact mH | apply mT) rfl) .nil), ?_⟩
        first | refine D_p rfl (.plain rfl) (p_sub' rfl rfl rfl (by unfold InI; omega)) ?_ | refine D_p rfl (.plain rfl) (p_sub rfl rfl rfl) ?_
        refine D_wr (.go (E' := []) rfl (.plain rfl) (w_callP rfl rfl rfl (fun w hg => pf_c k (t.plots.getD (ps.getD j.toNat 0).toNat plZ) w)) rfl ?_)
        rintro _ _ ⟨rfl, rfl⟩
        refine ⟨.nil, ?_⟩
        first | refine D_p rfl (.plain rfl) (p_add' rfl rfl rfl (by unfold InI; omega)) ?_ | refine D_p rfl (.plain rfl) (p_add rfl rfl rfl) ?_
        refine D_wr (.go (E' := []) rfl (.plain rfl) (w_callM rfl rfl rfl (fun o' => (by repeat first | exact .head | apply SetAt.tail)) (fun w hg => narrow_c b4 s.lo s.hi 103 _ _ w (hg.own (b4, _) (by repeat first | exact mH | apply mT)))) rfl ?_)
        rintro _ _ ⟨_, rfl, rfl, rfl⟩
        refine ⟨.nil, ?_⟩
        refine D_keep (.cons (k := 0) rfl (.cons (k := 3) rfl (.cons (k := 4) rfl (.cons (k := 7) rfl (.cons (k := 9) rfl (.cons (k := 46) rfl (.cons (k := 47) rfl (.cons (k := 48) rfl .nil)))))))) (blk_n (then_n ?_))
        refine V_region rfl ?_
        first | refine L_go rfl (X_p (p_add' rfl rfl rfl (by unfold InI; omega)) ?_) | refine L_go rfl (X_p (p_add rfl rfl rfl) ?_)
        refine L_go rfl (X_p (p_move rfl rfl) ?_)
        refine L_keep (.cons (k := 0) rfl (.cons (k := 3) rfl (.cons (k := 4) rfl (.cons (k := 7) rfl (.cons (k := 9) rfl (.cons (k := 46) rfl (.cons (k := 47) rfl (.cons (k := 48) rfl .nil)))))))) (then_n ?_)
        refine ⟨(j + 1, common s (plotS t k u (ps.getD j.toNat 0))), ?_, ?_, (.cons rfl (.cons rfl (.cons rfl (.cons rfl (.cons rfl (.cons rfl (.cons rfl (.cons rfl (.nil _))))))))), (by repeat (first | exact List.Sublist.refl _ | apply List.Sublist.cons_cons | apply List.Sublist.cons | apply List.sublist_append_of_sublist_right)), rfl⟩
        · refine ⟨by omega, by omega, ?_⟩
          rw [show (j + 1).toNat = j.toNat + 1 by omega, take_snoc (d := 0) (by omega), List.foldl_append, ← hs]; rfl
        · dsimp only; omega
      · intro c3; try simp only [td] at c3
        have hsN : s = placeN t ps k u := by rw [hs, List.take_of_length_le (by omega)]; rfl
        refine V_exit (then_e (then_e (blk_e rfl (then_n ?_))))
        refine V_seq (V_draw (.rd 0 (.rd 1 (.rd 2 (.rd 3 (.rd 4 (.rd 5 (.wr 6 [] .done))))))) mixed (by kernel_rfl) rfl ?_)
        refine D_p rfl (.plain rfl) (p_move rfl rfl) ?_
        refine D_p rfl (.plain rfl) (p_nil rfl rfl) ?_
        refine D_p rfl (.plain rfl) (p_fieldo fo120_2 rfl rfl) ?_
        refine D_rd rfl (.plain rfl) (r_loadB ag118 rfl rfl (own_cell hbp _) (by simp only [Vc.add_block, List.mem_singleton]; assumption)) ?_
        refine D_rd rfl (.plain rfl) (r_loadA (vs := [_, _]) ag125 sz125 rfl rfl (by repeat first | exact mH | apply mT) rfl) ?_
        refine D_rd rfl (.plain rfl) (r_loadA (vs := [_, _]) ag103 sz103 rfl rfl (by repeat first | exact mH | apply mT) rfl) ?_
        refine D_wr (.go (E' := []) rfl (.plain rfl) (w_mapNew un118 lv125 ag125 rfl rfl rfl (k := [_, _]) rfl rfl (fun o' => (by repeat first | exact .head | apply SetAt.tail)) his (cache_fit hca) (hs4 c1)) rfl ?_)
        rintro _ _ ⟨es1, clk1, rfl, his1⟩
        refine ⟨.nil, ?_⟩
        refine D_then (.cons (k := 4) rfl (.cons (k := 7) rfl .nil)) ?_
        refine V_seq (V_region rfl ?_)
        refine L_go rfl (X_rd (r_loadA (vs := [_, _]) ag103 sz103 rfl rfl (by repeat first | exact mH | apply mT) rfl) ?_)
        refine L_go rfl (X_wr (w_store (cs' := [_, _]) sz103 rfl rfl rfl rfl rfl (by repeat first | exact .head | apply SetAt.tail) (Nat.le_of_ble_eq_true rfl) rfl) ?_)
        rintro _ _ ⟨rfl, rfl⟩
        refine L_then (.cons (k := 4) rfl .nil) ?_
        refine V_ret ?_
        refine Leave.nil (.cellA (us := [_, _]) rfl ag103 sz103 (by repeat first | exact mH | apply mT) rfl .nil) ?_
        have e : placeT t ps k u = s := by rw [placeT, if_pos (by omega), hsN]
        exact ⟨_, (by repeat first | exact mH | apply mT), by rw [e]; rfl, _, _, rfl, Cache.add hca his1 (by rw [e])⟩
    · intro c2; try simp only [td] at c2
      refine V_skip (then_n ?_)
      refine V_seq (V_draw (.rd 0 (.rd 1 (.rd 2 (.rd 3 (.rd 4 (.rd 5 (.wr 6 [] .done))))))) mixed (by kernel_rfl) rfl ?_)
      refine D_p rfl (.plain rfl) (p_move rfl rfl) ?_
      refine D_p rfl (.plain rfl) (p_nil rfl rfl) ?_
      refine D_p rfl (.plain rfl) (p_fieldo fo120_2 rfl rfl) ?_
      refine D_rd rfl (.plain rfl) (r_loadB ag118 rfl rfl (own_cell hbp _) (by simp only [Vc.add_block, List.mem_singleton]; assumption)) ?_
      refine D_rd rfl (.plain rfl) (r_loadA (vs := [_, _]) ag125 sz125 rfl rfl (by repeat first | exact mH | apply mT) rfl) ?_
      refine D_rd rfl (.plain rfl) (r_loadA (vs := [_, _]) ag103 sz103 rfl rfl (by repeat first | exact mH | apply mT) rfl) ?_
      refine D_wr (.go (E' := []) rfl (.plain rfl) (w_mapNew un118 lv125 ag125 rfl rfl rfl (k := [_, _]) rfl rfl (fun o' => (by repeat first | exact .head | apply SetAt.tail)) his (cache_fit hca) (hs4 c1)) rfl ?_)
      rintro _ _ ⟨es1, clk1, rfl, his1⟩
      refine ⟨.nil, ?_⟩
      refine D_then (.cons (k := 4) rfl (.cons (k := 7) rfl .nil)) ?_
      refine V_seq (V_region rfl ?_)
      refine L_go rfl (X_rd (r_loadA (vs := [_, _]) ag103 sz103 rfl rfl (by repeat first | exact mH | apply mT) rfl) ?_)
      refine L_go rfl (X_wr (w_store (cs' := [_, _]) sz103 rfl rfl rfl rfl rfl (by repeat first | exact .head | apply SetAt.tail) (Nat.le_of_ble_eq_true rfl) rfl) ?_)
      rintro _ _ ⟨rfl, rfl⟩
      refine L_then (.cons (k := 4) rfl .nil) ?_
      refine V_ret ?_
      refine Leave.nil (.cellA (us := [_, _]) rfl ag103 sz103 (by repeat first | exact mH | apply mT) rfl .nil) ?_
      have e : placeT t ps k u = ⟨0, 0⟩ := by rw [placeT, if_neg (by omega)]
      exact ⟨_, (by repeat first | exact mH | apply mT), by rw [e]; rfl, _, _, rfl, Cache.add hca his1 (by rw [e])⟩

end Go.Proofs.Ytclbbchehjapjab
