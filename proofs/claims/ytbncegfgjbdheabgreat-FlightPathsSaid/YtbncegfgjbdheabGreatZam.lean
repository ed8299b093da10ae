/- Joined texts. -/
import Derived.Test.YtbncegfgjbdheabGreatZal
import Derived.Test.YtbncegfgjbdheabGreatZak
import Derived.Test.YtbncegfgjbdheabGreatZae

set_option linter.all false
namespace Go.Proofs.YtbncegfgjbdheabGreat
open Go.Vc Go.Tk Go.Fl
set_option maxRecDepth 100000
set_option maxHeartbeats 8000000 in
theorem rCheck_c (v : Veh) (x : Value) (w : World) (hv : VehR w x v) : FnP Tryz.prog 50 [x] w (.tuple #[.int .i64 (checkV v).1, .int .i64 (checkV v).2.1, .int .i64 (checkV v).2.2]) := by
 have hV := hv
 obtain ⟨av, pv, qv, rfl, hsa, hsp, hsq⟩ := hv.ex
 obtain ⟨aa, ac, rfl, hac, hae⟩ := hsa.ex
 obtain ⟨pa, pc, rfl, hpc, hpe⟩ := hsp.ex
 obtain ⟨qa, qc, rfl, hqc, hqe⟩ := hsq.ex
 have hla := hV.la
 have hlp := hV.lp
 have hlq := hV.lq
 have hnm := hV.name
 simp only [List.length_map] at hV hac hpc hqc hsq hsp hsa ⊢
 refine fn_pure Tryz.func50 rfl (by kernel_rfl) Tryz.ntmps50 Tryz.results50 rfl ?_
 refine Vs rfl ?_
 refine Lw rfl (w_box rfl rfl) ?_
 rintro _ _ ⟨b1, hb1, rfl, rfl⟩
 iterate 3 refine La rfl rfl rfl ?_
 refine L_then (kp [1] rfl) ?_
 refine V_seq ?_
 refine Vs rfl ?_
 refine Lp rfl (p_fieldo fo28_0 rfl rfl) ?_
 refine Lr rfl (rl ag9 rfl rfl rfl) ?_
 refine Lc rfl rfl rfl rfl (fun w hg => rname_c _ hnm w) ?_
 refine Lp rfl (p_not rfl rfl) ?_
 refine L_then (kp [1, 14] rfl) ?_
 refine V_cond rfl ?_ ?_
 ·intro c1; try simp only [td] at c1
  refine Vs rfl ?_
  iterate 3 refine La rfl rfl rfl ?_
  refine L_then (kp [2, 3, 4] rfl) ?_
  refine V_ret (then_r ?_)
  refine Leave.nil (.tmp rfl (.tmp rfl (.tmp rfl .nil))) ?_
  first | (rw [checkV_name (by assumption)]; rfl) | (rw [checkV_grav (by assumption) (by assumption)]; rfl) | (rw [checkV_long (by assumption) (by assumption) (by omega)]; rfl) | (rw [ck_air (e := errAir v k.toNat) hd hk0 (by omega) hkp rfl hne]; rfl) | (rw [ck_ph hd hk0 ha0 hp12 (by omega) hkp h7, h7]; rfl) | (rw [ck_pc (e := errPc v k.toNat) hd hk0 ha0 hp12 hp0 hq6 (by omega) hkp rfl hne]; rfl) | (rw [checkV_phs hd ha0 (by assumption)]; rfl) | (rw [checkV_pcs hd ha0 hp12 hp0 (by omega)]; rfl) | (rw [checkV_ok hd ha0 hp12 hp0 hq6 hq0]; rfl)
 intro c1; try simp only [td] at c1
 refine V_skip (then_n ?_)
 refine V_seq ?_
 refine Vs rfl ?_
 refine Lp rfl (p_fieldo fo28_1 rfl rfl) ?_
 refine Lr rfl (rlA (vs := [_, _]) ag23 sz23 rfl rfl rfl) ?_
 refine Lc rfl rfl rfl rfl (fun w hg => rwithin_c v.gravity _ _ w) ?_
 refine Lp rfl (p_not rfl rfl) ?_
 refine L_then (kp [1, 18] rfl) ?_
 refine V_cond rfl ?_ ?_
 ·intro c2; try simp only [td] at c2
  refine Vs rfl ?_
  iterate 3 refine La rfl rfl rfl ?_
  refine L_then (kp [2, 3, 4] rfl) ?_
  refine V_ret (then_r ?_)
  refine Leave.nil (.tmp rfl (.tmp rfl (.tmp rfl .nil))) ?_
  first | (rw [checkV_name (by assumption)]; rfl) | (rw [checkV_grav (by assumption) (by assumption)]; rfl) | (rw [checkV_long (by assumption) (by assumption) (by omega)]; rfl) | (rw [ck_air (e := errAir v k.toNat) hd hk0 (by omega) hkp rfl hne]; rfl) | (rw [ck_ph hd hk0 ha0 hp12 (by omega) hkp h7, h7]; rfl) | (rw [ck_pc (e := errPc v k.toNat) hd hk0 ha0 hp12 hp0 hq6 (by omega) hkp rfl hne]; rfl) | (rw [checkV_phs hd ha0 (by assumption)]; rfl) | (rw [checkV_pcs hd ha0 hp12 hp0 (by omega)]; rfl) | (rw [checkV_ok hd ha0 hp12 hp0 hq6 hq0]; rfl)
 intro c2; try simp only [td] at c2
 refine V_skip (then_n ?_)
 refine V_seq ?_
 refine Vs rfl ?_
 refine Lp rfl (p_fieldo fo28_2 rfl rfl) ?_
 refine Lr rfl (rl ag24 rfl rfl rfl) ?_
 refine Lp rfl (p_len isl24 rfl rfl) ?_
 refine Lp rfl (p_gtr rfl rfl rfl) ?_
 refine L_then (kp [1, 22] rfl) ?_
 refine V_cond rfl ?_ ?_
 ·intro c3; try simp only [td] at c3
  refine Vs rfl ?_
  iterate 3 refine La rfl rfl rfl ?_
  refine L_then (kp [2, 3, 4] rfl) ?_
  refine V_ret (then_r ?_)
  refine Leave.nil (.tmp rfl (.tmp rfl (.tmp rfl .nil))) ?_
  first | (rw [checkV_name (by assumption)]; rfl) | (rw [checkV_grav (by assumption) (by assumption)]; rfl) | (rw [checkV_long (by assumption) (by assumption) (by omega)]; rfl) | (rw [ck_air (e := errAir v k.toNat) hd hk0 (by omega) hkp rfl hne]; rfl) | (rw [ck_ph hd hk0 ha0 hp12 (by omega) hkp h7, h7]; rfl) | (rw [ck_pc (e := errPc v k.toNat) hd hk0 ha0 hp12 hp0 hq6 (by omega) hkp rfl hne]; rfl) | (rw [checkV_phs hd ha0 (by assumption)]; rfl) | (rw [checkV_pcs hd ha0 hp12 hp0 (by omega)]; rfl) | (rw [checkV_ok hd ha0 hp12 hp0 hq6 hq0]; rfl)
 intro c3; try simp only [td] at c3
 have hd : HeadV v := ⟨by assumption, by assumption, by omega⟩
 refine V_skip (then_n ?_)
 refine V_seq ?_
 refine Vs rfl ?_
 refine La rfl rfl rfl ?_
 refine L_then (kp [1, 5] rfl) ?_
 refine V_block ?_
 refine V_loop0 (γ := Int) (kp [1] rfl) (fun k => [(5, .int .i64 k)]) (fun k => 0 ≤ k ∧ k ≤ v.air.length ∧ ∀ j : Nat, (j : Int) < k → errAir v j = 0) (fun k => (v.air.length - k).toNat) (0) (.cons rfl (.nil _)) (⟨by omega, by omega, fun j hj => by omega⟩) ?_
 rintro k hi
 obtain ⟨hk0, hk1, hkp⟩ := hi
 refine V_seq ?_
 refine Vs rfl ?_
 refine Lm rfl rfl rfl ?_
 refine Lp rfl (p_fieldo fo28_2 rfl rfl) ?_
 refine Lr rfl (rl ag24 rfl rfl rfl) ?_
 refine Lp rfl (p_len isl24 rfl rfl) ?_
 refine Lp rfl (p_lss rfl rfl rfl) ?_
 refine L_then (kp [1, 5, 27] rfl) ?_
 refine V_cond rfl ?_ ?_
 ·intro c4; try simp only [td] at c4
  refine V_skip (then_n ?_)
  refine V_seq ?_
  refine V_block ?_
  refine Vs rfl ?_
  refine Lr rfl (rlA (vs := [_, _, _, _, _, _]) ag28 sz28 rfl rfl rfl) ?_
  refine Lm rfl rfl rfl ?_
  refine Lc rfl rfl rfl rfl (fun w hg => rair_c k v _ w (hV.good hg) (by omega)) ?_
  refine La rfl rfl rfl ?_
  refine L_then (kp [1, 5, 6] rfl) ?_
  refine Vs rfl ?_
  refine Lm rfl rfl rfl ?_
  refine Lp rfl (p_neq rfl rfl rfl) ?_
  refine L_then (kp [1, 5, 6, 34] rfl) ?_
  refine V_cond rfl ?_ ?_
  ·intro c5; try simp only [td] at c5
   have hne : errAir v k.toNat ≠ 0 := c5
   refine Vs rfl ?_
   iterate 2 refine Lm rfl rfl rfl ?_
   iterate 3 refine La rfl rfl rfl ?_
   refine L_then (kp [2, 3, 4] rfl) ?_
   refine V_ret (blk_r (then_r (then_r (blk_r (then_r ?_)))))
   refine Leave.nil (.tmp rfl (.tmp rfl (.tmp rfl .nil))) ?_
   first | (rw [checkV_name (by assumption)]; rfl) | (rw [checkV_grav (by assumption) (by assumption)]; rfl) | (rw [checkV_long (by assumption) (by assumption) (by omega)]; rfl) | (rw [ck_air (e := errAir v k.toNat) hd hk0 (by omega) hkp rfl hne]; rfl) | (rw [ck_ph hd hk0 ha0 hp12 (by omega) hkp h7, h7]; rfl) | (rw [ck_pc (e := errPc v k.toNat) hd hk0 ha0 hp12 hp0 hq6 (by omega) hkp rfl hne]; rfl) | (rw [checkV_phs hd ha0 (by assumption)]; rfl) | (rw [checkV_pcs hd ha0 hp12 hp0 (by omega)]; rfl) | (rw [checkV_ok hd ha0 hp12 hp0 hq6 hq0]; rfl)
  intro c5; try simp only [td] at c5
  have he0 : errAir v k.toNat = 0 := by first | exact c5 | omega
  refine V_skip (blk_n (then_n ?_))
  refine V_region rfl ?_
  refine Lm rfl rfl rfl ?_
  first | refine Lp rfl (p_add' rfl rfl rfl (by unfold InI; omega)) ?_ | refine Lp rfl (p_add rfl rfl rfl) ?_
  refine La rfl rfl rfl ?_
  refine L_keep (kp [1, 5] rfl) (then_n ?_)
  refine ⟨k + 1, ?_, ?_, (.cons rfl (.cons rfl (.nil _))), (by repeat (first | exact List.Sublist.refl _ | apply List.Sublist.cons_cons | apply List.Sublist.cons | apply List.sublist_append_of_sublist_right)), rfl⟩
  ·refine ⟨by omega, by omega, fun j hj => ?_⟩; by_cases e : (j : Int) < k
   ·exact hkp j e
   have ej : j = k.toNat := by omega
   rw [ej]; exact he0
  omega
 intro c4; try simp only [td] at c4
 have ha0 : ∀ j : Nat, j < v.air.length → errAir v j = 0 := fun j hj => hkp j (by omega)
 refine V_exit (then_e (then_e (blk_e rfl (then_n ?_))))
 refine V_seq ?_
 refine Vs rfl ?_
 refine Lp rfl (p_fieldo fo28_3 rfl rfl) ?_
 refine Lr rfl (rl ag25 rfl rfl rfl) ?_
 refine Lp rfl (p_len isl25 rfl rfl) ?_
 refine Lc rfl rfl rfl rfl (fun w hg => r2in_c _ _ _ w) ?_
 refine Lp rfl (p_not rfl rfl) ?_
 refine L_then (kp [1, 41] rfl) ?_
 refine V_cond rfl ?_ ?_
 ·intro c6; try simp only [td] at c6
  refine Vs rfl ?_
  iterate 3 refine La rfl rfl rfl ?_
  refine L_then (kp [2, 3, 4] rfl) ?_
  refine V_ret (then_r ?_)
  refine Leave.nil (.tmp rfl (.tmp rfl (.tmp rfl .nil))) ?_
  first | (rw [checkV_name (by assumption)]; rfl) | (rw [checkV_grav (by assumption) (by assumption)]; rfl) | (rw [checkV_long (by assumption) (by assumption) (by omega)]; rfl) | (rw [ck_air (e := errAir v k.toNat) hd hk0 (by omega) hkp rfl hne]; rfl) | (rw [ck_ph hd hk0 ha0 hp12 (by omega) hkp h7, h7]; rfl) | (rw [ck_pc (e := errPc v k.toNat) hd hk0 ha0 hp12 hp0 hq6 (by omega) hkp rfl hne]; rfl) | (rw [checkV_phs hd ha0 (by assumption)]; rfl) | (rw [checkV_pcs hd ha0 hp12 hp0 (by omega)]; rfl) | (rw [checkV_ok hd ha0 hp12 hp0 hq6 hq0]; rfl)
 intro c6; try simp only [td] at c6
 have hp12 : oP v.phases.length 1 12 = false := by assumption
 refine V_skip (then_n ?_)
 refine V_seq ?_
 refine Vs rfl ?_
 refine La rfl rfl rfl ?_
 refine L_then (kp [1, 7] rfl) ?_
 refine V_block ?_
 refine V_loop0 (γ := Int) (kp [1] rfl) (fun k => [(7, .int .i64 k)]) (fun k => 0 ≤ k ∧ k ≤ v.phases.length ∧ ∀ j : Nat, (j : Int) < k → errPh v j = 0) (fun k => (v.phases.length - k).toNat) (0) (.cons rfl (.nil _)) (⟨by omega, by omega, fun j hj => by omega⟩) ?_
 rintro k hi
 obtain ⟨hk0, hk1, hkp⟩ := hi
 refine V_seq ?_
 refine Vs rfl ?_
 refine Lm rfl rfl rfl ?_
 refine Lp rfl (p_fieldo fo28_3 rfl rfl) ?_
 refine Lr rfl (rl ag25 rfl rfl rfl) ?_
 refine Lp rfl (p_len isl25 rfl rfl) ?_
 refine Lp rfl (p_lss rfl rfl rfl) ?_
 refine L_then (kp [1, 7, 46] rfl) ?_
 refine V_cond rfl ?_ ?_
 ·intro c7; try simp only [td] at c7
  obtain ⟨tb, rfl, hc⟩ := hpe k.toNat _ (getD_cells (d := phZ) (by omega))
  refine V_skip (then_n ?_)
  refine V_seq ?_
  refine V_block ?_
  refine Vs rfl ?_
  refine Lp rfl (p_fieldo fo28_3 rfl rfl) ?_
  refine Lr rfl (rl ag25 rfl rfl rfl) ?_
  refine Lm rfl rfl rfl ?_
  refine Lp rfl (p_idx es25 rfl rfl rfl (by omega) (by omega)) ?_
  refine Lr rfl (r_loadBA ag66 sz66 rfl rfl hc rfl List.not_mem_nil) ?_
  refine Lc rfl rfl rfl rfl (fun w hg => (show FnP _ _ _ w (.int .i64 (errPh v k.toNat)) from rphase_c (v.phases.getD k.toNat phZ) w)) ?_
  refine La rfl rfl rfl ?_
  refine L_then (kp [1, 7, 8] rfl) ?_
  refine Vs rfl ?_
  refine Lm rfl rfl rfl ?_
  refine Lp rfl (p_neq rfl rfl rfl) ?_
  refine L_then (kp [1, 7, 8, 56] rfl) ?_
  refine V_cond rfl ?_ ?_
  ·intro c8; try simp only [td] at c8
   have hne : errPh v k.toNat ≠ 0 := c8
   have h7 : errPh v k.toNat = 7 := by
    unfold errPh at *
    split at hne <;> simp_all
   refine Vs rfl ?_
   iterate 2 refine Lm rfl rfl rfl ?_
   iterate 3 refine La rfl rfl rfl ?_
   refine L_then (kp [2, 3, 4] rfl) ?_
   refine V_ret (blk_r (then_r (then_r (blk_r (then_r ?_)))))
   refine Leave.nil (.tmp rfl (.tmp rfl (.tmp rfl .nil))) ?_
   first | (rw [checkV_name (by assumption)]; rfl) | (rw [checkV_grav (by assumption) (by assumption)]; rfl) | (rw [checkV_long (by assumption) (by assumption) (by omega)]; rfl) | (rw [ck_air (e := errAir v k.toNat) hd hk0 (by omega) hkp rfl hne]; rfl) | (rw [ck_ph hd hk0 ha0 hp12 (by omega) hkp h7, h7]; rfl) | (rw [ck_pc (e := errPc v k.toNat) hd hk0 ha0 hp12 hp0 hq6 (by omega) hkp rfl hne]; rfl) | (rw [checkV_phs hd ha0 (by assumption)]; rfl) | (rw [checkV_pcs hd ha0 hp12 hp0 (by omega)]; rfl) | (rw [checkV_ok hd ha0 hp12 hp0 hq6 hq0]; rfl)
  intro c8; try simp only [td] at c8
  have he0 : errPh v k.toNat = 0 := by first | exact c8 | omega
  refine V_skip (blk_n (then_n ?_))
  refine V_region rfl ?_
  refine Lm rfl rfl rfl ?_
  first | refine Lp rfl (p_add' rfl rfl rfl (by unfold InI; omega)) ?_ | refine Lp rfl (p_add rfl rfl rfl) ?_
  refine La rfl rfl rfl ?_
  refine L_keep (kp [1, 7] rfl) (then_n ?_)
  refine ⟨k + 1, ?_, ?_, (.cons rfl (.cons rfl (.nil _))), (by repeat (first | exact List.Sublist.refl _ | apply List.Sublist.cons_cons | apply List.Sublist.cons | apply List.sublist_append_of_sublist_right)), rfl⟩
  ·refine ⟨by omega, by omega, fun j hj => ?_⟩; by_cases e : (j : Int) < k
   ·exact hkp j e
   have ej : j = k.toNat := by omega
   rw [ej]; exact he0
  omega
 intro c7; try simp only [td] at c7
 have hp0 : ∀ j : Nat, j < v.phases.length → errPh v j = 0 := fun j hj => hkp j (by omega)
 refine V_exit (then_e (then_e (blk_e rfl (then_n ?_))))
 refine V_seq ?_
 refine Vs rfl ?_
 refine Lp rfl (p_fieldo fo28_4 rfl rfl) ?_
 refine Lr rfl (rl ag26 rfl rfl rfl) ?_
 refine Lp rfl (p_len isl26 rfl rfl) ?_
 refine Lp rfl (p_gtr rfl rfl rfl) ?_
 refine L_then (kp [1, 62] rfl) ?_
 refine V_cond rfl ?_ ?_
 ·intro c9; try simp only [td] at c9
  refine Vs rfl ?_
  iterate 3 refine La rfl rfl rfl ?_
  refine L_then (kp [2, 3, 4] rfl) ?_
  refine V_ret (then_r ?_)
  refine Leave.nil (.tmp rfl (.tmp rfl (.tmp rfl .nil))) ?_
  first | (rw [checkV_name (by assumption)]; rfl) | (rw [checkV_grav (by assumption) (by assumption)]; rfl) | (rw [checkV_long (by assumption) (by assumption) (by omega)]; rfl) | (rw [ck_air (e := errAir v k.toNat) hd hk0 (by omega) hkp rfl hne]; rfl) | (rw [ck_ph hd hk0 ha0 hp12 (by omega) hkp h7, h7]; rfl) | (rw [ck_pc (e := errPc v k.toNat) hd hk0 ha0 hp12 hp0 hq6 (by omega) hkp rfl hne]; rfl) | (rw [checkV_phs hd ha0 (by assumption)]; rfl) | (rw [checkV_pcs hd ha0 hp12 hp0 (by omega)]; rfl) | (rw [checkV_ok hd ha0 hp12 hp0 hq6 hq0]; rfl)
 intro c9; try simp only [td] at c9
 have hq6 : v.pieces.length ≤ 6 := by omega
 refine V_skip (then_n ?_)
 refine V_seq ?_
 refine Vs rfl ?_
 refine La rfl rfl rfl ?_
 refine L_then (kp [1, 9] rfl) ?_
 refine V_block ?_
 refine V_loop0 (γ := Int) (kp [1] rfl) (fun k => [(9, .int .i64 k)]) (fun k => 0 ≤ k ∧ k ≤ v.pieces.length ∧ ∀ j : Nat, (j : Int) < k → errPc v j = 0) (fun k => (v.pieces.length - k).toNat) (0) (.cons rfl (.nil _)) (⟨by omega, by omega, fun j hj => by omega⟩) ?_
 rintro k hi
 obtain ⟨hk0, hk1, hkp⟩ := hi
 refine V_seq ?_
 refine Vs rfl ?_
 refine Lm rfl rfl rfl ?_
 refine Lp rfl (p_fieldo fo28_4 rfl rfl) ?_
 refine Lr rfl (rl ag26 rfl rfl rfl) ?_
 refine Lp rfl (p_len isl26 rfl rfl) ?_
 refine Lp rfl (p_lss rfl rfl rfl) ?_
 refine L_then (kp [1, 9, 67] rfl) ?_
 refine V_cond rfl ?_ ?_
 ·intro c10; try simp only [td] at c10
  refine V_skip (then_n ?_)
  refine V_seq ?_
  refine V_block ?_
  refine Vs rfl ?_
  refine Lr rfl (rlA (vs := [_, _, _, _, _, _]) ag28 sz28 rfl rfl rfl) ?_
  refine Lm rfl rfl rfl ?_
  refine Lc rfl rfl rfl rfl (fun w hg => rpiece_c k v _ w (hV.good hg) (by omega)) ?_
  refine La rfl rfl rfl ?_
  refine L_then (kp [1, 9, 10] rfl) ?_
  refine Vs rfl ?_
  refine Lm rfl rfl rfl ?_
  refine Lp rfl (p_neq rfl rfl rfl) ?_
  refine L_then (kp [1, 9, 10, 74] rfl) ?_
  refine V_cond rfl ?_ ?_
  ·intro c11; try simp only [td] at c11
   have hne : errPc v k.toNat ≠ 0 := c11
   refine Vs rfl ?_
   iterate 2 refine Lm rfl rfl rfl ?_
   iterate 3 refine La rfl rfl rfl ?_
   refine L_then (kp [2, 3, 4] rfl) ?_
   refine V_ret (blk_r (then_r (then_r (blk_r (then_r ?_)))))
   refine Leave.nil (.tmp rfl (.tmp rfl (.tmp rfl .nil))) ?_
   first | (rw [checkV_name (by assumption)]; rfl) | (rw [checkV_grav (by assumption) (by assumption)]; rfl) | (rw [checkV_long (by assumption) (by assumption) (by omega)]; rfl) | (rw [ck_air (e := errAir v k.toNat) hd hk0 (by omega) hkp rfl hne]; rfl) | (rw [ck_ph hd hk0 ha0 hp12 (by omega) hkp h7, h7]; rfl) | (rw [ck_pc (e := errPc v k.toNat) hd hk0 ha0 hp12 hp0 hq6 (by omega) hkp rfl hne]; rfl) | (rw [checkV_phs hd ha0 (by assumption)]; rfl) | (rw [checkV_pcs hd ha0 hp12 hp0 (by omega)]; rfl) | (rw [checkV_ok hd ha0 hp12 hp0 hq6 hq0]; rfl)
  intro c11; try simp only [td] at c11
  have he0 : errPc v k.toNat = 0 := by first | exact c11 | omega
  refine V_skip (blk_n (then_n ?_))
  refine V_region rfl ?_
  refine Lm rfl rfl rfl ?_
  first | refine Lp rfl (p_add' rfl rfl rfl (by unfold InI; omega)) ?_ | refine Lp rfl (p_add rfl rfl rfl) ?_
  refine La rfl rfl rfl ?_
  refine L_keep (kp [1, 9] rfl) (then_n ?_)
  refine ⟨k + 1, ?_, ?_, (.cons rfl (.cons rfl (.nil _))), (by repeat (first | exact List.Sublist.refl _ | apply List.Sublist.cons_cons | apply List.Sublist.cons | apply List.sublist_append_of_sublist_right)), rfl⟩
  ·refine ⟨by omega, by omega, fun j hj => ?_⟩; by_cases e : (j : Int) < k
   ·exact hkp j e
   have ej : j = k.toNat := by omega
   rw [ej]; exact he0
  omega
 intro c10; try simp only [td] at c10
 have hq0 : ∀ j : Nat, j < v.pieces.length → errPc v j = 0 := fun j hj => hkp j (by omega)
 refine V_exit (then_e (then_e (blk_e rfl (then_n ?_))))
 refine Vs rfl ?_
 iterate 3 refine La rfl rfl rfl ?_
 refine L_then (kp [2, 3, 4] rfl) ?_
 refine V_ret ?_
 refine Leave.nil (.tmp rfl (.tmp rfl (.tmp rfl .nil))) ?_
 first | (rw [checkV_name (by assumption)]; rfl) | (rw [checkV_grav (by assumption) (by assumption)]; rfl) | (rw [checkV_long (by assumption) (by assumption) (by omega)]; rfl) | (rw [ck_air (e := errAir v k.toNat) hd hk0 (by omega) hkp rfl hne]; rfl) | (rw [ck_ph hd hk0 ha0 hp12 (by omega) hkp h7, h7]; rfl) | (rw [ck_pc (e := errPc v k.toNat) hd hk0 ha0 hp12 hp0 hq6 (by omega) hkp rfl hne]; rfl) | (rw [checkV_phs hd ha0 (by assumption)]; rfl) | (rw [checkV_pcs hd ha0 hp12 hp0 (by omega)]; rfl) | (rw [checkV_ok hd ha0 hp12 hp0 hq6 hq0]; rfl)
theorem rCheckDir_c (d : Dir) (w : World) : FnP Tryz.prog 51 [.agg #[.int .i64 d.x, .int .i64 d.y, .int .i64 d.z]] w (.int .i64 (dirE d)) := by
 refine fn_pure Tryz.func51 rfl (by kernel_rfl) Tryz.ntmps51 Tryz.results51 rfl ?_
 refine Vs rfl ?_
 refine Lw rfl (w_box rfl rfl) ?_
 rintro _ _ ⟨b1, hb1, rfl, rfl⟩
 refine La rfl rfl rfl ?_
 refine L_then (kp [1] rfl) ?_
 refine V_seq ?_
 refine Vs rfl ?_
 refine Lp rfl (p_fieldo fo30_0 rfl rfl) ?_
 refine Lr rfl (rl ag3 rfl rfl rfl) ?_
 refine Lc rfl rfl rfl rfl (fun w hg => r2in_c _ _ _ w) ?_
 refine Lp rfl (p_not rfl rfl) ?_
 refine Lm rfl rfl rfl ?_
 refine L_cases (d := 7) rfl ?_ ?_
 ·intro g1; have g1' := g1; try simp only [td] at g1'
  iterate 4 refine L_no rfl rfl rfl g1 ?_
  refine Lp rfl (p_pick_t rfl rfl g1 rfl) ?_
  refine Lm rfl rfl rfl ?_
  iterate 4 refine L_no rfl rfl rfl rfl ?_
  refine Lp rfl (p_pick_t rfl rfl rfl rfl) ?_
  refine L_then (kp [1, 18] rfl) ?_
  refine V_cond_t rfl rfl ?_
  refine Vs rfl ?_
  refine La rfl rfl rfl ?_
  refine L_then (kp [2] rfl) ?_
  refine V_ret (then_r ?_)
  refine Leave.nil (.tmp rfl .nil) ?_
  show Value.int .i64 _ = _
  congr 1
  unfold dirE
  simp [*]
 intro g1; have g1' := g1; try simp only [td] at g1'
 refine L_yes rfl rfl rfl g1 (X_p (p_fieldo fo30_1 rfl rfl) ?_)
 refine L_yes rfl rfl rfl g1 (X_rd (rl ag3 rfl rfl rfl) ?_)
 refine L_yes rfl rfl rfl g1 (X_wr (w_callP rfl rfl rfl (fun w hg => r2in_c _ _ _ w)) ?_)
 rintro _ _ ⟨rfl, rfl⟩
 refine L_yes rfl rfl rfl g1 (X_p (p_not rfl rfl) ?_)
 refine Lp rfl (p_pick_f rfl rfl g1 rfl) ?_
 refine Lm rfl rfl rfl ?_
 refine L_cases (d := 13) rfl ?_ ?_
 ·intro g2; have g2' := g2; try simp only [td] at g2'
  iterate 4 refine L_no rfl rfl rfl g2 ?_
  refine Lp rfl (p_pick_t rfl rfl g2 rfl) ?_
  refine L_then (kp [1, 18] rfl) ?_
  refine V_cond_t rfl rfl ?_
  refine Vs rfl ?_
  refine La rfl rfl rfl ?_
  refine L_then (kp [2] rfl) ?_
  refine V_ret (then_r ?_)
  refine Leave.nil (.tmp rfl .nil) ?_
  show Value.int .i64 _ = _
  congr 1
  unfold dirE
  simp [*]
 intro g2; have g2' := g2; try simp only [td] at g2'
 refine L_yes rfl rfl rfl g2 (X_p (p_fieldo fo30_2 rfl rfl) ?_)
 refine L_yes rfl rfl rfl g2 (X_rd (rl ag3 rfl rfl rfl) ?_)
 refine L_yes rfl rfl rfl g2 (X_wr (w_callP rfl rfl rfl (fun w hg => r2in_c _ _ _ w)) ?_)
 rintro _ _ ⟨rfl, rfl⟩
 refine L_yes rfl rfl rfl g2 (X_p (p_not rfl rfl) ?_)
 refine Lp rfl (p_pick_f rfl rfl g2 rfl) ?_
 refine L_then (kp [1, 18] rfl) ?_
 refine V_cond rfl ?_ ?_
 ·intro c1; try simp only [td] at c1
  refine Vs rfl ?_
  refine La rfl rfl rfl ?_
  refine L_then (kp [2] rfl) ?_
  refine V_ret (then_r ?_)
  refine Leave.nil (.tmp rfl .nil) ?_
  show Value.int .i64 _ = _
  congr 1
  unfold dirE
  simp [*]
 intro c1; try simp only [td] at c1
 refine V_skip (then_n ?_)
 refine V_seq ?_
 refine Vs rfl ?_
 have q1 := mul_abs (a := d.x) (b := d.x) (A := 10000) (B := 10000) (by omega) (by simp only [oP_false] at *; omega) (by simp only [oP_false] at *; omega)
 have q2 := mul_abs (a := d.y) (b := d.y) (A := 10000) (B := 10000) (by omega) (by simp only [oP_false] at *; omega) (by simp only [oP_false] at *; omega)
 have q3 := mul_abs (a := d.z) (b := d.z) (A := 10000) (B := 10000) (by omega) (by simp only [oP_false] at *; omega) (by simp only [oP_false] at *; omega)
 refine Lp rfl (p_fieldo fo30_0 rfl rfl) ?_
 refine Lr rfl (rl ag3 rfl rfl rfl) ?_
 refine Lp rfl (p_fieldo fo30_0 rfl rfl) ?_
 refine Lr rfl (rl ag3 rfl rfl rfl) ?_
 refine Lp rfl (p_mul' rfl rfl rfl (by unfold InI; omega)) ?_
 refine Lp rfl (p_fieldo fo30_1 rfl rfl) ?_
 refine Lr rfl (rl ag3 rfl rfl rfl) ?_
 refine Lp rfl (p_fieldo fo30_1 rfl rfl) ?_
 refine Lr rfl (rl ag3 rfl rfl rfl) ?_
 refine Lp rfl (p_mul' rfl rfl rfl (by unfold InI; omega)) ?_
 first | refine Lp rfl (p_add' rfl rfl rfl (by unfold InI; omega)) ?_ | refine Lp rfl (p_add rfl rfl rfl) ?_
 refine Lp rfl (p_fieldo fo30_2 rfl rfl) ?_
 refine Lr rfl (rl ag3 rfl rfl rfl) ?_
 refine Lp rfl (p_fieldo fo30_2 rfl rfl) ?_
 refine Lr rfl (rl ag3 rfl rfl rfl) ?_
 refine Lp rfl (p_mul' rfl rfl rfl (by unfold InI; omega)) ?_
 first | refine Lp rfl (p_add' rfl rfl rfl (by unfold InI; omega)) ?_ | refine Lp rfl (p_add rfl rfl rfl) ?_
 refine Lc rfl rfl rfl rfl (fun w hg => r2in_c _ _ _ w) ?_
 refine Lp rfl (p_not rfl rfl) ?_
 refine L_then (kp [37] rfl) ?_
 refine V_cond rfl ?_ ?_
 ·intro c2; try simp only [td] at c2
  refine Vs rfl ?_
  refine La rfl rfl rfl ?_
  refine L_then (kp [2] rfl) ?_
  refine V_ret (then_r ?_)
  refine Leave.nil (.tmp rfl .nil) ?_
  show Value.int .i64 _ = _
  congr 1
  unfold dirE
  simp [*]
 intro c2; try simp only [td] at c2
 refine V_skip (then_n ?_)
 refine Vs rfl ?_
 refine La rfl rfl rfl ?_
 refine L_then (kp [2] rfl) ?_
 refine V_ret ?_
 refine Leave.nil (.tmp rfl .nil) ?_
 show Value.int .i64 _ = _
 congr 1
 unfold dirE
 simp [*]
theorem r1wind_c (n : Int) (w : World) : FnP Tryz.prog 106 [.int .i64 n] w (.bool (!(oP n (-20000) 20000))) := by
 refine fn_pure Tryz.func106 rfl (by kernel_rfl) Tryz.ntmps106 Tryz.results106 rfl ?_
 refine Vs rfl ?_
 refine La rfl rfl rfl ?_
 refine L_then (kp [0] rfl) ?_
 refine Vs rfl ?_
 refine Lm rfl rfl rfl ?_
 refine Lc rfl rfl rfl rfl (fun w hg => r1in_c _ _ _ w) ?_
 refine La rfl rfl rfl ?_
 refine L_then (kp [2] rfl) ?_
 refine V_ret ?_
 refine Leave.nil (.tmp rfl .nil) ?_
 rfl
theorem r1winds_c (s : Span) (w : World) : FnP Tryz.prog 83 [.agg #[.int .i64 s.lo, .int .i64 s.hi]] w (.bool (!(wB s))) := by
 refine fn_pure Tryz.func83 rfl (by kernel_rfl) Tryz.ntmps83 Tryz.results83 rfl ?_
 refine Vs rfl ?_
 refine Lw rfl (w_box rfl rfl) ?_
 rintro _ _ ⟨b1, hb1, rfl, rfl⟩
 refine La rfl rfl rfl ?_
 refine L_then (kp [1] rfl) ?_
 refine Vs rfl ?_
 refine Lp rfl (p_fieldo fo23_0 rfl rfl) ?_
 refine Lr rfl (rl ag3 rfl rfl rfl) ?_
 refine Lc rfl rfl rfl rfl (fun w hg => r1wind_c _ w) ?_
 refine Lm rfl rfl rfl ?_
 refine L_cases (d := 6) rfl ?_ ?_
 ·intro g1; have g1' := g1; try simp only [td] at g1'
  refine L_yes rfl rfl rfl g1 (X_p (p_fieldo fo23_1 rfl rfl) ?_)
  refine L_yes rfl rfl rfl g1 (X_rd (rl ag3 rfl rfl rfl) ?_)
  refine L_yes rfl rfl rfl g1 (X_wr (w_callP rfl rfl rfl (fun w hg => r1wind_c _ w)) ?_)
  rintro _ _ ⟨rfl, rfl⟩
  refine Lp rfl (p_pick_t rfl rfl g1 rfl) ?_
  refine Lm rfl rfl rfl ?_
  refine L_cases (d := 11) rfl ?_ ?_
  ·intro g2; have g2' := g2; try simp only [td] at g2'
   refine L_yes rfl rfl rfl g2 (X_p (p_fieldo fo23_0 rfl rfl) ?_)
   refine L_yes rfl rfl rfl g2 (X_rd (rl ag3 rfl rfl rfl) ?_)
   refine L_yes rfl rfl rfl g2 (X_p (p_fieldo fo23_1 rfl rfl) ?_)
   refine L_yes rfl rfl rfl g2 (X_rd (rl ag3 rfl rfl rfl) ?_)
   refine L_yes rfl rfl rfl g2 (X_p (p_leq rfl rfl rfl) ?_)
   refine Lp rfl (p_pick_t rfl rfl g2 rfl) ?_
   refine La rfl rfl rfl ?_
   refine L_then (kp [2] rfl) ?_
   refine V_ret ?_
   refine Leave.nil (.tmp rfl .nil) ?_
   show Value.bool _ = _
   unfold wB
   have e : decide (s.lo ≤ s.hi) = !(decide (s.hi < s.lo)) := by
    by_cases h : s.lo ≤ s.hi
    ·rw [decide_eq_true h, decide_eq_false (by omega)]; rfl
    rw [decide_eq_false h, decide_eq_true (by omega)]; rfl
   simp_all
  intro g2; have g2' := g2; try simp only [td] at g2'
  iterate 5 refine L_no rfl rfl rfl g2 ?_
  refine Lp rfl (p_pick_f rfl rfl g2 rfl) ?_
  refine La rfl rfl rfl ?_
  refine L_then (kp [2] rfl) ?_
  refine V_ret ?_
  refine Leave.nil (.tmp rfl .nil) ?_
  show Value.bool _ = _
  unfold wB
  have e : decide (s.lo ≤ s.hi) = !(decide (s.hi < s.lo)) := by
   by_cases h : s.lo ≤ s.hi
   ·rw [decide_eq_true h, decide_eq_false (by omega)]; rfl
   rw [decide_eq_false h, decide_eq_true (by omega)]; rfl
  simp_all
 intro g1; have g1' := g1; try simp only [td] at g1'
 iterate 3 refine L_no rfl rfl rfl g1 ?_
 refine Lp rfl (p_pick_f rfl rfl g1 rfl) ?_
 refine Lm rfl rfl rfl ?_
 iterate 5 refine L_no rfl rfl rfl rfl ?_
 refine Lp rfl (p_pick_f rfl rfl rfl rfl) ?_
 refine La rfl rfl rfl ?_
 refine L_then (kp [2] rfl) ?_
 refine V_ret ?_
 refine Leave.nil (.tmp rfl .nil) ?_
 show Value.bool _ = _
 unfold wB
 have e : decide (s.lo ≤ s.hi) = !(decide (s.hi < s.lo)) := by
  by_cases h : s.lo ≤ s.hi
  ·rw [decide_eq_true h, decide_eq_false (by omega)]; rfl
  rw [decide_eq_false h, decide_eq_true (by omega)]; rfl
 simp_all
set_option maxHeartbeats 4000000 in
theorem r1bands_c (l : List Fl.Band) (x : Value) (w : World) (hb : BdsR w x l) : FnP Tryz.prog 52 [x] w (.tuple #[.int .i64 (checkB l).1, .int .i64 (checkB l).2]) := by
 have hB := hb
 obtain ⟨ba, bc, rfl, hbc, hbe⟩ := hb.sl.ex
 have hlb := hb.len
 simp only [List.length_map] at hbc hB ⊢
 refine fn_pure Tryz.func52 rfl (by kernel_rfl) Tryz.ntmps52 Tryz.results52 rfl ?_
 refine Vs rfl ?_
 iterate 2 refine La rfl rfl rfl ?_
 refine L_then (kp [0] rfl) ?_
 refine V_seq ?_
 refine Vs rfl ?_
 refine Lm rfl rfl rfl ?_
 refine Lp rfl (p_len isl31 rfl rfl) ?_
 refine Lc rfl rfl rfl rfl (fun w hg => r1in_c _ _ _ w) ?_
 refine Lp rfl (p_not rfl rfl) ?_
 refine L_then (kp [0, 9] rfl) ?_
 refine V_cond rfl ?_ ?_
 ·intro c1; try simp only [td] at c1
  refine Vs rfl ?_
  iterate 2 refine La rfl rfl rfl ?_
  refine L_then (kp [2, 3] rfl) ?_
  refine V_ret (then_r ?_)
  refine Leave.nil (.tmp rfl (.tmp rfl .nil)) ?_
  first | (have e : checkB l = (0, 3) := if_pos (by assumption); rw [e]; rfl) | (rw [cb_hit h20 hk0 (by omega) hkp (errBd_2 (i := k.toNat) (by rw [← hq]; exact hne)) (by decide)]; rfl) | (rw [cb_hit h20 hk0 (by omega) hkp (errBd_7 (i := k.toNat) (by unfold bdAt; first | exact hq0 | omega) (by unfold bdAt; first | exact .inl (by omega) | exact .inr (.inl (by omega)) | exact .inr (.inr (.inl (by assumption))) | exact .inr (.inr (.inr (by assumption))))) (by decide)]; rfl) | (rw [cb_ok h20 (fun j hj => hkp j (by omega))]; rfl)
 intro c1; try simp only [td] at c1
 have h20 : oP l.length 1 20 = false := by assumption
 refine V_skip (then_n ?_)
 refine V_seq ?_
 refine Vs rfl ?_
 refine La rfl rfl rfl ?_
 refine L_then (kp [0, 4] rfl) ?_
 refine V_block ?_
 refine V_loop0 (γ := Int) (kp [0] rfl) (fun k => [(4, .int .i64 k)]) (fun k => 0 ≤ k ∧ k ≤ l.length ∧ ∀ j : Nat, (j : Int) < k → errBd l j = 0) (fun k => (l.length - k).toNat) (0) (.cons rfl (.nil _)) (⟨by omega, by omega, fun j hj => by omega⟩) ?_
 rintro k hi
 obtain ⟨hk0, hk1, hkp⟩ := hi
 refine V_seq ?_
 refine Vs rfl ?_
 iterate 2 refine Lm rfl rfl rfl ?_
 refine Lp rfl (p_len isl31 rfl rfl) ?_
 refine Lp rfl (p_lss rfl rfl rfl) ?_
 refine L_then (kp [0, 4, 13] rfl) ?_
 refine V_cond rfl ?_ ?_
 ·intro c2; try simp only [td] at c2
  obtain ⟨tb, rfl, hc⟩ := hbe k.toNat _ (getD_cells (d := bdZ) (by omega))
  have hc2 : 0 < k → cellsAt w (tb.add ((k - 1).toNat * 6)) (Fl.Band.cells (l.getD (k - 1).toNat bdZ)) := fun h => by
   obtain ⟨b9, e9, h9⟩ := hbe (k - 1).toNat _ (getD_cells (d := bdZ) (by omega))
   injection e9 with e9
   subst e9; exact h9
  refine V_skip (then_n ?_)
  refine V_seq ?_
  refine V_block ?_
  refine Vs rfl ?_
  refine La rfl rfl rfl ?_
  refine L_then (kp [0, 4, 5] rfl) ?_
  refine V_seq ?_
  refine Vs rfl ?_
  refine Lm rfl rfl rfl ?_
  refine Lp rfl (p_gtr rfl rfl rfl) ?_
  refine L_then (kp [0, 4, 5, 17] rfl) ?_
  refine V_midT (γ := Int) (kp [0, 4] rfl) (fun q => [(5, .int .i64 q)]) (fun q => []) (fun q => q = begB l k.toNat) ?_ ?_
  ·refine V_cond rfl ?_ ?_
   ·intro c3; try simp only [td] at c3
    refine V_region rfl ?_
    iterate 2 refine Lm rfl rfl rfl ?_
    first | refine Lp rfl (p_sub' rfl rfl rfl (by unfold InI; omega)) ?_ | refine Lp rfl (p_sub rfl rfl rfl) ?_
    refine Lp rfl (p_idx es31 rfl rfl rfl (by omega) (by omega)) ?_
    refine Lp rfl (p_field fo115_1 rfl rfl) ?_
    refine Lr rfl (r_loadB ag3 rfl rfl (hc2 (by omega) 1 _ rfl) List.not_mem_nil) ?_
    refine La rfl rfl rfl ?_
    refine L_then (kp [0, 4, 5] rfl) ?_
    refine ⟨(l.getD (k - 1).toNat bdZ).to, ?_, (.cons rfl (.cons rfl (.cons rfl (.nil _)))), (by (try dsimp only); repeat (first | exact HSub.nil _ | refine HSub.take (by repeat first | exact Take.head | apply Take.tail) ?_ | exact HSub.refl _ | refine HSub.drop ?_ | refine HSub.app ?_)), rfl⟩
    unfold begB bdAt; rw [if_neg (by omega), show k.toNat - 1 = (k - 1).toNat by omega]
   intro c3; try simp only [td] at c3
   refine V_skip (then_n ?_)
   refine ⟨0, ?_, (.cons rfl (.cons rfl (.cons rfl (.nil _)))), (by (try dsimp only); repeat (first | exact HSub.nil _ | refine HSub.take (by repeat first | exact Take.head | apply Take.tail) ?_ | exact HSub.refl _ | refine HSub.drop ?_ | refine HSub.app ?_)), rfl⟩
   unfold begB; rw [if_pos (by omega)]
  rintro q hq
  refine V_seq ?_
  refine Vs rfl ?_
  iterate 2 refine Lm rfl rfl rfl ?_
  refine Lp rfl (p_idx es31 rfl rfl rfl (by omega) (by omega)) ?_
  refine Lp rfl (p_field fo115_0 rfl rfl) ?_
  refine Lr rfl (r_loadB ag3 rfl rfl (hc 0 _ rfl) List.not_mem_nil) ?_
  refine Lm rfl rfl rfl ?_
  refine Lp rfl (p_neq rfl rfl rfl) ?_
  refine L_then (kp [0, 4, 30] rfl) ?_
  refine V_cond rfl ?_ ?_
  ·intro c4; try simp only [td] at c4
   have hne : (l.getD k.toNat bdZ).frm ≠ q := c4
   refine Vs rfl ?_
   refine Lm rfl rfl rfl ?_
   iterate 2 refine La rfl rfl rfl ?_
   refine L_then (kp [2, 3] rfl) ?_
   refine V_ret (then_r (blk_r (then_r (then_r (blk_r (then_r ?_))))))
   refine Leave.nil (.tmp rfl (.tmp rfl .nil)) ?_
   first | (have e : checkB l = (0, 3) := if_pos (by assumption); rw [e]; rfl) | (rw [cb_hit h20 hk0 (by omega) hkp (errBd_2 (i := k.toNat) (by rw [← hq]; exact hne)) (by decide)]; rfl) | (rw [cb_hit h20 hk0 (by omega) hkp (errBd_7 (i := k.toNat) (by unfold bdAt; first | exact hq0 | omega) (by unfold bdAt; first | exact .inl (by omega) | exact .inr (.inl (by omega)) | exact .inr (.inr (.inl (by assumption))) | exact .inr (.inr (.inr (by assumption))))) (by decide)]; rfl) | (rw [cb_ok h20 (fun j hj => hkp j (by omega))]; rfl)
  intro c4; try simp only [td] at c4
  have hq0 : (l.getD k.toNat bdZ).frm = begB l k.toNat := by rw [← hq]; first | exact c4 | omega
  refine V_skip (then_n ?_)
  refine V_seq (V_draw (.rd 0 (.rd 1 (.rd 2 (.rd 3 (.rd 4 (.rd 5 (.rd 6 (.rd 7 (.rd 8 (.rd 9 (.rd 10 (.rd 11 (.rd 12 (.rd 13 (.rd 14 (.rd 15 (.rd 16 (.rd 17 (.rd 18 (.rd 19 (.rd 20 (.rd 21 (.rd 22 (.rd 23 (.rd 24 (.wr 25 [23, 22, 21, 20, 18, 17, 16, 15, 14, 13, 12, 11, 10, 9, 8, 7, 6, 5, 4, 3, 2, 1, 0] (.rd 26 (.rd 27 (.rd 28 (.rd 29 (.rd 30 (.rd 31 (.rd 32 (.rd 33 (.wr 34 [32, 31, 30, 29, 27, 26, 24, 23, 22, 21, 20, 19, 18, 17, 16, 15, 14, 13, 12, 11, 10, 9, 8, 7, 6, 5, 4, 3, 2, 1, 0] (.rd 35 (.rd 36 .done))))))))))))))))))))))))))))))))))))) mixed (by kernel_rfl) rfl ?_)
  iterate 2 refine Dm rfl rfl rfl rfl ?_
  refine Dp rfl rfl (p_idx es31 rfl rfl rfl (by omega) (by omega)) ?_
  refine Dp rfl rfl (p_field fo115_1 rfl rfl) ?_
  refine Dr rfl rfl (r_loadB ag3 rfl rfl (hc 1 _ rfl) List.not_mem_nil) ?_
  iterate 2 refine Dm rfl rfl rfl rfl ?_
  refine Dp rfl rfl (p_idx es31 rfl rfl rfl (by omega) (by omega)) ?_
  refine Dp rfl rfl (p_field fo115_0 rfl rfl) ?_
  refine Dr rfl rfl (r_loadB ag3 rfl rfl (hc 0 _ rfl) List.not_mem_nil) ?_
  refine Dp rfl rfl (p_leq rfl rfl rfl) ?_
  refine Dm rfl rfl rfl rfl ?_
  refine D_cases (d := 43) rfl ?_ ?_
  ·intro g1; have g1' := g1; try simp only [td] at g1'
   iterate 6 refine D_no rfl (.mk' rfl rfl rfl g1) ?_
   refine Dp rfl rfl (p_pick_t rfl rfl g1 rfl) ?_
   refine Dm rfl rfl rfl rfl ?_
   iterate 5 refine D_no rfl (.mk' rfl rfl rfl rfl) ?_
   refine D_wr (.pass (E' := [(9, _), (4, _)]) rfl (.mk' rfl rfl rfl rfl) rfl ⟨(.cons rfl (.plain rfl) (r_loadB ag3 rfl rfl (hc 0 _ rfl) List.not_mem_nil) (.cons rfl (.plain rfl) (r_loadB ag3 rfl rfl (hc 1 _ rfl) List.not_mem_nil) .nil)), ?_⟩)
   refine D_no rfl (.mk' rfl rfl rfl rfl) ?_
   refine Dp rfl rfl (p_pick_t rfl rfl rfl rfl) ?_
   refine Dm rfl rfl rfl rfl ?_
   iterate 5 refine D_no rfl (.mk' rfl rfl rfl rfl) ?_
   refine D_wr (.pass (E' := [(9, _), (4, _)]) rfl (.mk' rfl rfl rfl rfl) rfl ⟨(.cons rfl (.plain rfl) (r_loadB ag3 rfl rfl (hc 0 _ rfl) List.not_mem_nil) (.cons rfl (.plain rfl) (r_loadB ag3 rfl rfl (hc 1 _ rfl) List.not_mem_nil) .nil)), ?_⟩)
   refine D_no rfl (.mk' rfl rfl rfl rfl) ?_
   refine Dp rfl rfl (p_pick_t rfl rfl rfl rfl) ?_
   refine D_then (kp [0, 4, 68] rfl) ?_
   refine V_cond_t rfl rfl ?_
   refine Vs rfl ?_
   refine Lm rfl rfl rfl ?_
   iterate 2 refine La rfl rfl rfl ?_
   refine L_then (kp [2, 3] rfl) ?_
   refine V_ret (blk_r (then_r (then_r (blk_r (then_r ?_)))))
   refine Leave.nil (.tmp rfl (.tmp rfl .nil)) ?_
   first | (have e : checkB l = (0, 3) := if_pos (by assumption); rw [e]; rfl) | (rw [cb_hit h20 hk0 (by omega) hkp (errBd_2 (i := k.toNat) (by rw [← hq]; exact hne)) (by decide)]; rfl) | (rw [cb_hit h20 hk0 (by omega) hkp (errBd_7 (i := k.toNat) (by unfold bdAt; first | exact hq0 | omega) (by unfold bdAt; first | exact .inl (by omega) | exact .inr (.inl (by omega)) | exact .inr (.inr (.inl (by assumption))) | exact .inr (.inr (.inr (by assumption))))) (by decide)]; rfl) | (rw [cb_ok h20 (fun j hj => hkp j (by omega))]; rfl)
  intro g1; have g1' := g1; try simp only [td] at g1'
  iterate 2 refine D_p rfl (.yes rfl rfl rfl g1) (p_move rfl rfl) ?_
  refine D_p rfl (.yes rfl rfl rfl g1) (p_idx es31 rfl rfl rfl (by omega) (by omega)) ?_
  refine D_p rfl (.yes rfl rfl rfl g1) (p_field fo115_1 rfl rfl) ?_
  refine D_rd rfl (.yes rfl rfl rfl g1) (r_loadB ag3 rfl rfl (hc 1 _ rfl) List.not_mem_nil) ?_
  refine D_p rfl (.yes rfl rfl rfl g1) (p_gtr rfl rfl rfl) ?_
  refine Dp rfl rfl (p_pick_f rfl rfl g1 rfl) ?_
  refine Dm rfl rfl rfl rfl ?_
  refine D_cases (d := 51) rfl ?_ ?_
  ·intro g2; have g2' := g2; try simp only [td] at g2'
   iterate 5 refine D_no rfl (.mk' rfl rfl rfl g2) ?_
   refine D_wr (.pass (E' := [(16, _), (9, _), (4, _)]) rfl (.mk' rfl rfl rfl g2) rfl ⟨(.cons rfl (.yes rfl rfl rfl g1) (r_loadB ag3 rfl rfl (hc 1 _ rfl) List.not_mem_nil) (.cons rfl (.plain rfl) (r_loadB ag3 rfl rfl (hc 0 _ rfl) List.not_mem_nil) (.cons rfl (.plain rfl) (r_loadB ag3 rfl rfl (hc 1 _ rfl) List.not_mem_nil) .nil))), ?_⟩)
   refine D_no rfl (.mk' rfl rfl rfl g2) ?_
   refine Dp rfl rfl (p_pick_t rfl rfl g2 rfl) ?_
   refine Dm rfl rfl rfl rfl ?_
   iterate 5 refine D_no rfl (.mk' rfl rfl rfl rfl) ?_
   refine D_wr (.pass (E' := [(16, _), (9, _), (4, _)]) rfl (.mk' rfl rfl rfl rfl) rfl ⟨(.cons rfl (.yes rfl rfl rfl g1) (r_loadB ag3 rfl rfl (hc 1 _ rfl) List.not_mem_nil) (.cons rfl (.plain rfl) (r_loadB ag3 rfl rfl (hc 0 _ rfl) List.not_mem_nil) (.cons rfl (.plain rfl) (r_loadB ag3 rfl rfl (hc 1 _ rfl) List.not_mem_nil) .nil))), ?_⟩)
   refine D_no rfl (.mk' rfl rfl rfl rfl) ?_
   refine Dp rfl rfl (p_pick_t rfl rfl rfl rfl) ?_
   refine D_then (kp [0, 4, 68] rfl) ?_
   refine V_cond_t rfl rfl ?_
   refine Vs rfl ?_
   refine Lm rfl rfl rfl ?_
   iterate 2 refine La rfl rfl rfl ?_
   refine L_then (kp [2, 3] rfl) ?_
   refine V_ret (blk_r (then_r (then_r (blk_r (then_r ?_)))))
   refine Leave.nil (.tmp rfl (.tmp rfl .nil)) ?_
   first | (have e : checkB l = (0, 3) := if_pos (by assumption); rw [e]; rfl) | (rw [cb_hit h20 hk0 (by omega) hkp (errBd_2 (i := k.toNat) (by rw [← hq]; exact hne)) (by decide)]; rfl) | (rw [cb_hit h20 hk0 (by omega) hkp (errBd_7 (i := k.toNat) (by unfold bdAt; first | exact hq0 | omega) (by unfold bdAt; first | exact .inl (by omega) | exact .inr (.inl (by omega)) | exact .inr (.inr (.inl (by assumption))) | exact .inr (.inr (.inr (by assumption))))) (by decide)]; rfl) | (rw [cb_ok h20 (fun j hj => hkp j (by omega))]; rfl)
  intro g2; have g2' := g2; try simp only [td] at g2'
  iterate 2 refine D_p rfl (.yes rfl rfl rfl g2) (p_move rfl rfl) ?_
  refine D_p rfl (.yes rfl rfl rfl g2) (p_idx es31 rfl rfl rfl (by omega) (by omega)) ?_
  refine D_p rfl (.yes rfl rfl rfl g2) (p_field fo115_2 rfl rfl) ?_
  refine D_rd rfl (.yes rfl rfl rfl g2) (r_loadBA ag23 sz23 rfl rfl (hc.sub 2 2) rfl List.not_mem_nil) ?_
  refine D_wr (.go (E' := [(16, _), (9, _), (4, _)]) rfl (.yes rfl rfl rfl g2) (w_callP rfl rfl rfl (fun w hg => r1winds_c (l.getD k.toNat bdZ).x w)) rfl ?_)
  rintro _ _ ⟨rfl, rfl⟩
  refine ⟨(.cons rfl (.yes rfl rfl rfl g1) (r_loadB ag3 rfl rfl (hc 1 _ rfl) List.not_mem_nil) (.cons rfl (.plain rfl) (r_loadB ag3 rfl rfl (hc 0 _ rfl) List.not_mem_nil) (.cons rfl (.plain rfl) (r_loadB ag3 rfl rfl (hc 1 _ rfl) List.not_mem_nil) .nil))), ?_⟩
  refine D_p rfl (.yes rfl rfl rfl g2) (p_not rfl rfl) ?_
  refine Dp rfl rfl (p_pick_f rfl rfl g2 rfl) ?_
  refine Dm rfl rfl rfl rfl ?_
  refine D_cases (d := 60) rfl ?_ ?_
  ·intro g3; have g3' := g3; try simp only [td] at g3'
   iterate 5 refine D_no rfl (.mk' rfl rfl rfl g3) ?_
   refine D_wr (.pass (E' := [(16, _), (9, _), (4, _)]) rfl (.mk' rfl rfl rfl g3) rfl ⟨(.cons rfl (.yes rfl rfl rfl g1) (r_loadB ag3 rfl rfl (hc 1 _ rfl) List.not_mem_nil) (.cons rfl (.plain rfl) (r_loadB ag3 rfl rfl (hc 0 _ rfl) List.not_mem_nil) (.cons rfl (.plain rfl) (r_loadB ag3 rfl rfl (hc 1 _ rfl) List.not_mem_nil) .nil))), ?_⟩)
   refine D_no rfl (.mk' rfl rfl rfl g3) ?_
   refine Dp rfl rfl (p_pick_t rfl rfl g3 rfl) ?_
   refine D_then (kp [0, 4, 68] rfl) ?_
   refine V_cond_t rfl rfl ?_
   refine Vs rfl ?_
   refine Lm rfl rfl rfl ?_
   iterate 2 refine La rfl rfl rfl ?_
   refine L_then (kp [2, 3] rfl) ?_
   refine V_ret (blk_r (then_r (then_r (blk_r (then_r ?_)))))
   refine Leave.nil (.tmp rfl (.tmp rfl .nil)) ?_
   first | (have e : checkB l = (0, 3) := if_pos (by assumption); rw [e]; rfl) | (rw [cb_hit h20 hk0 (by omega) hkp (errBd_2 (i := k.toNat) (by rw [← hq]; exact hne)) (by decide)]; rfl) | (rw [cb_hit h20 hk0 (by omega) hkp (errBd_7 (i := k.toNat) (by unfold bdAt; first | exact hq0 | omega) (by unfold bdAt; first | exact .inl (by omega) | exact .inr (.inl (by omega)) | exact .inr (.inr (.inl (by assumption))) | exact .inr (.inr (.inr (by assumption))))) (by decide)]; rfl) | (rw [cb_ok h20 (fun j hj => hkp j (by omega))]; rfl)
  intro g3; have g3' := g3; try simp only [td] at g3'
  iterate 2 refine D_p rfl (.yes rfl rfl rfl g3) (p_move rfl rfl) ?_
  refine D_p rfl (.yes rfl rfl rfl g3) (p_idx es31 rfl rfl rfl (by omega) (by omega)) ?_
  refine D_p rfl (.yes rfl rfl rfl g3) (p_field fo115_3 rfl rfl) ?_
  refine D_rd rfl (.yes rfl rfl rfl g3) (r_loadBA ag23 sz23 rfl rfl (hc.sub 4 2) rfl List.not_mem_nil) ?_
  refine D_wr (.go (E' := [(16, _), (9, _), (4, _)]) rfl (.yes rfl rfl rfl g3) (w_callP rfl rfl rfl (fun w hg => r1winds_c (l.getD k.toNat bdZ).y w)) rfl ?_)
  rintro _ _ ⟨rfl, rfl⟩
  refine ⟨(.cons rfl (.yes rfl rfl rfl g1) (r_loadB ag3 rfl rfl (hc 1 _ rfl) List.not_mem_nil) (.cons rfl (.plain rfl) (r_loadB ag3 rfl rfl (hc 0 _ rfl) List.not_mem_nil) (.cons rfl (.plain rfl) (r_loadB ag3 rfl rfl (hc 1 _ rfl) List.not_mem_nil) .nil))), ?_⟩
  refine D_p rfl (.yes rfl rfl rfl g3) (p_not rfl rfl) ?_
  refine Dp rfl rfl (p_pick_f rfl rfl g3 rfl) ?_
  refine D_then (kp [0, 4, 68] rfl) ?_
  refine V_cond rfl ?_ ?_
  ·intro c5; try simp only [td] at c5
   refine Vs rfl ?_
   refine Lm rfl rfl rfl ?_
   iterate 2 refine La rfl rfl rfl ?_
   refine L_then (kp [2, 3] rfl) ?_
   refine V_ret (blk_r (then_r (then_r (blk_r (then_r ?_)))))
   refine Leave.nil (.tmp rfl (.tmp rfl .nil)) ?_
   first | (have e : checkB l = (0, 3) := if_pos (by assumption); rw [e]; rfl) | (rw [cb_hit h20 hk0 (by omega) hkp (errBd_2 (i := k.toNat) (by rw [← hq]; exact hne)) (by decide)]; rfl) | (rw [cb_hit h20 hk0 (by omega) hkp (errBd_7 (i := k.toNat) (by unfold bdAt; first | exact hq0 | omega) (by unfold bdAt; first | exact .inl (by omega) | exact .inr (.inl (by omega)) | exact .inr (.inr (.inl (by assumption))) | exact .inr (.inr (.inr (by assumption))))) (by decide)]; rfl) | (rw [cb_ok h20 (fun j hj => hkp j (by omega))]; rfl)
  intro c5; try simp only [td] at c5
  refine V_skip (blk_n (then_n ?_))
  refine V_region rfl ?_
  refine Lm rfl rfl rfl ?_
  first | refine Lp rfl (p_add' rfl rfl rfl (by unfold InI; omega)) ?_ | refine Lp rfl (p_add rfl rfl rfl) ?_
  refine La rfl rfl rfl ?_
  refine L_keep (kp [0, 4] rfl) (then_n ?_)
  refine ⟨k + 1, ?_, ?_, (.cons rfl (.cons rfl (.nil _))), (by repeat (first | exact List.nil_sublist _ | exact List.Sublist.refl _ | apply List.Sublist.cons_cons | apply List.Sublist.cons | apply List.sublist_append_of_sublist_right)), rfl⟩
  ·refine ⟨by omega, by omega, fun j hj => ?_⟩; by_cases e : (j : Int) < k
   ·exact hkp j e
   have ej : j = k.toNat := by omega
   rw [ej]; exact errBd_0 (by unfold bdAt; exact hq0) (by unfold bdAt; omega) (by unfold bdAt; omega) (by unfold bdAt; assumption) (by unfold bdAt; assumption)
  omega
 intro c2; try simp only [td] at c2
 refine V_exit (then_e (then_e (blk_e rfl (then_n ?_))))
 refine Vs rfl ?_
 iterate 2 refine La rfl rfl rfl ?_
 refine L_then (kp [2, 3] rfl) ?_
 refine V_ret ?_
 refine Leave.nil (.tmp rfl (.tmp rfl .nil)) ?_
 first | (have e : checkB l = (0, 3) := if_pos (by assumption); rw [e]; rfl) | (rw [cb_hit h20 hk0 (by omega) hkp (errBd_2 (i := k.toNat) (by rw [← hq]; exact hne)) (by decide)]; rfl) | (rw [cb_hit h20 hk0 (by omega) hkp (errBd_7 (i := k.toNat) (by unfold bdAt; first | exact hq0 | omega) (by unfold bdAt; first | exact .inl (by omega) | exact .inr (.inl (by omega)) | exact .inr (.inr (.inl (by assumption))) | exact .inr (.inr (.inr (by assumption))))) (by decide)]; rfl) | (rw [cb_ok h20 (fun j hj => hkp j (by omega))]; rfl)
theorem rhull_c (a b : Span) (w : World) : FnP Tryz.prog 109 [.agg #[.int .i64 a.lo, .int .i64 a.hi], .agg #[.int .i64 b.lo, .int .i64 b.hi]] w (.agg #[.int .i64 (Fl.hullS a b).lo, .int .i64 (Fl.hullS a b).hi]) := by
 refine fn_pure Tryz.func109 rfl (by kernel_rfl) Tryz.ntmps109 Tryz.results109 rfl ?_
 refine Vs rfl ?_
 refine Lw rfl (w_box rfl rfl) ?_
 rintro _ _ ⟨b1, hb1, rfl, rfl⟩
 refine Lw rfl (w_box rfl rfl) ?_
 rintro _ _ ⟨b2, hb2, rfl, rfl⟩
 refine Lw rfl (w_alloc zr23 rfl) ?_
 rintro _ _ ⟨b3, hb3, rfl, rfl⟩
 refine L_then (kp [2, 3, 4] rfl) ?_
 refine Vs rfl ?_
 refine Lp rfl (p_fieldo fo23_0 rfl rfl) ?_
 refine Lr rfl (rl ag3 rfl rfl rfl) ?_
 refine Lp rfl (p_fieldo fo23_0 rfl rfl) ?_
 refine Lr rfl (rl ag3 rfl rfl rfl) ?_
 refine Lp rfl (p_min rfl rfl rfl) ?_
 refine Lp rfl (p_fieldo fo23_1 rfl rfl) ?_
 refine Lr rfl (rl ag3 rfl rfl rfl) ?_
 refine Lp rfl (p_fieldo fo23_1 rfl rfl) ?_
 refine Lr rfl (rl ag3 rfl rfl rfl) ?_
 refine Lp rfl (p_max rfl rfl rfl) ?_
 refine Lp rfl (p_build (r := [_, _]) pl23 zr23 rfl rfl rfl) ?_
 refine Ls (cs' := [_, _]) rfl sz23 rfl rfl rfl rfl rfl rfl rfl ?_
 refine L_then (kp [4] rfl) ?_
 refine V_ret ?_
 refine Leave.nil (.cellA (us := [_, _]) rfl ag23 sz23 (by repeat first | exact mH | apply mT) rfl .nil) ?_
 rfl
theorem rboth_c (p q r s : Span) (w : World) : FnP Tryz.prog 107 [.agg #[.int .i64 p.lo, .int .i64 p.hi, .int .i64 q.lo, .int .i64 q.hi], .agg #[.int .i64 r.lo, .int .i64 r.hi, .int .i64 s.lo, .int .i64 s.hi]] w (.agg #[.int .i64 (Fl.hullS p r).lo, .int .i64 (Fl.hullS p r).hi, .int .i64 (Fl.hullS q s).lo, .int .i64 (Fl.hullS q s).hi]) := by
 refine fn_pure Tryz.func107 rfl (by kernel_rfl) Tryz.ntmps107 Tryz.results107 rfl ?_
 refine Vs rfl ?_
 refine Lw rfl (w_box rfl rfl) ?_
 rintro _ _ ⟨b1, hb1, rfl, rfl⟩
 refine Lw rfl (w_box rfl rfl) ?_
 rintro _ _ ⟨b2, hb2, rfl, rfl⟩
 refine Lw rfl (w_alloc zr88 rfl) ?_
 rintro _ _ ⟨b3, hb3, rfl, rfl⟩
 refine L_then (kp [2, 3, 4] rfl) ?_
 refine V_seq (V_draw (.rd 0 (.rd 1 (.rd 2 (.rd 3 (.rd 5 (.rd 6 (.rd 7 (.rd 8 (.wr 4 [8, 7, 6, 5, 2, 0] (.wr 9 [7, 5, 3, 2, 1, 0] (.rd 10 (.wr 11 [] .done)))))))))))) mixed (by kernel_rfl) rfl ?_)
 refine Dp rfl rfl (p_fieldo fo88_0 rfl rfl) ?_
 refine Dr rfl rfl (rlA (vs := [_, _]) ag23 sz23 rfl rfl rfl) ?_
 refine Dp rfl rfl (p_fieldo fo88_0 rfl rfl) ?_
 refine Dr rfl rfl (rlA (vs := [_, _]) ag23 sz23 rfl rfl rfl) ?_
 refine Dp rfl rfl (p_fieldo fo88_1 rfl rfl) ?_
 refine Dr rfl rfl (rlA (vs := [_, _]) ag23 sz23 rfl rfl rfl) ?_
 refine Dp rfl rfl (p_fieldo fo88_1 rfl rfl) ?_
 refine Dr rfl rfl (rlA (vs := [_, _]) ag23 sz23 rfl rfl rfl) ?_
 refine D_wr (.go (E' := [(8, _), (6, _)]) rfl (.plain rfl) (w_callP rfl rfl rfl (fun w hg => rhull_c p r w)) rfl ?_)
 rintro _ _ ⟨rfl, rfl⟩
 refine ⟨(.cons rfl (.plain rfl) (rlA (vs := [_, _]) ag23 sz23 rfl rfl rfl) (.cons rfl (.plain rfl) (rlA (vs := [_, _]) ag23 sz23 rfl rfl rfl) .nil)), ?_⟩
 refine D_wr (.go (E' := []) rfl (.plain rfl) (w_callP rfl rfl rfl (fun w hg => rhull_c q s w)) rfl ?_)
 rintro _ _ ⟨rfl, rfl⟩
 refine ⟨.nil, ?_⟩
 refine Dp rfl rfl (p_build (r := [_, _, _, _]) pl88 zr88 rfl rfl rfl) ?_
 refine D_wr (.go (E' := []) rfl (.plain rfl) (ws (cs' := [_, _, _, _]) sz88 rfl rfl rfl rfl rfl rfl rfl) rfl ?_)
 rintro _ _ ⟨rfl, rfl⟩
 refine ⟨.nil, ?_⟩
 refine D_then (kp [4] rfl) ?_
 refine V_ret ?_
 refine Leave.nil (.cellA (us := [_, _, _, _]) rfl ag88 sz88 (by repeat first | exact mH | apply mT) rfl .nil) ?_
 rfl
set_option maxHeartbeats 4000000 in
theorem rwinds_c (z : Span) (l : List Fl.Band) (x : Value) (w : World) (hG : GoodB l) (hb : BdsR w x l) : FnP Tryz.prog 86 [x, .agg #[.int .i64 z.lo, .int .i64 z.hi]] w (.agg #[.int .i64 (windsT l z).x.lo, .int .i64 (windsT l z).x.hi, .int .i64 (windsT l z).y.lo, .int .i64 (windsT l z).y.hi]) := by
 have hB := hb
 obtain ⟨ba, bc, rfl, hbc, hbe⟩ := hb.sl.ex
 have h20 := oP_false.1 hG.len
 obtain ⟨lb0, rfl, hcl⟩ := hbe ((l.length : Int) - 1).toNat _ (getD_cells (d := bdZ) (by omega))
 simp only [List.length_map] at hbc hB ⊢
 refine fn_pure Tryz.func86 rfl (by kernel_rfl) Tryz.ntmps86 Tryz.results86 rfl ?_
 refine Vs rfl ?_
 refine Lw rfl (w_box rfl rfl) ?_
 rintro _ _ ⟨b1, hb1, rfl, rfl⟩
 refine Lw rfl (w_alloc zr88 rfl) ?_
 rintro _ _ ⟨b2, hb2, rfl, rfl⟩
 refine L_then (kp [0, 3, 4] rfl) ?_
 refine Vs rfl ?_
 refine Lw rfl (w_alloc zr88 rfl) ?_
 rintro _ _ ⟨b3, hb3, rfl, rfl⟩
 refine L_then (kp [0, 3, 4, 5] rfl) ?_
 refine V_seq (V_draw (.rd 0 (.rd 1 (.rd 2 (.rd 3 (.rd 4 (.rd 5 (.rd 6 (.rd 7 (.rd 8 (.rd 9 (.rd 10 (.rd 11 (.rd 12 (.rd 13 (.rd 14 (.rd 15 .done)))))))))))))))) mixed (by kernel_rfl) rfl ?_)
 refine Dm rfl rfl rfl rfl ?_
 refine Dp rfl rfl (p_len isl31 rfl rfl) ?_
 refine Dp rfl rfl (p_eql rfl rfl rfl) ?_
 refine Dm rfl rfl rfl rfl ?_
 refine D_cases (d := 13) rfl ?_ ?_
 ·intro g1; have g1' := g1; try simp only [td] at g1'
  exfalso; omega
 intro g1; have g1' := g1; try simp only [td] at g1'
 refine D_p rfl (.yes rfl rfl rfl g1) (p_fieldo fo23_1 rfl rfl) ?_
 refine D_rd rfl (.yes rfl rfl rfl g1) (rl ag3 rfl rfl rfl) ?_
 iterate 2 refine D_p rfl (.yes rfl rfl rfl g1) (p_move rfl rfl) ?_
 refine D_p rfl (.yes rfl rfl rfl g1) (p_len isl31 rfl rfl) ?_
 first | refine D_p rfl (.yes rfl rfl rfl g1) (p_sub' rfl rfl rfl (by unfold InI; omega)) ?_ | refine D_p rfl (.yes rfl rfl rfl g1) (p_sub rfl rfl rfl) ?_
 refine D_p rfl (.yes rfl rfl rfl g1) (p_idx es31 rfl rfl rfl (by omega) (by omega)) ?_
 refine D_p rfl (.yes rfl rfl rfl g1) (p_field fo115_1 rfl rfl) ?_
 refine D_rd rfl (.yes rfl rfl rfl g1) (r_loadB ag3 rfl rfl (hcl 1 _ rfl) List.not_mem_nil) ?_
 refine D_p rfl (.yes rfl rfl rfl g1) (p_geq rfl rfl rfl) ?_
 refine Dp rfl rfl (p_pick_f rfl rfl g1 rfl) ?_
 refine Dp rfl rfl (p_assign rfl rfl) ?_
 refine D_then (kp [0, 3, 4, 5, 6] rfl) ?_
 refine V_seq ?_
 refine Vs rfl ?_
 refine La rfl rfl rfl ?_
 refine L_then (kp [0, 3, 4, 5, 6, 7] rfl) ?_
 refine V_block ?_
 refine V_loop1 (γ := Int × Bool × Ax) (kp [0, 3, 4, 5] rfl) (fun (k, sm, a) => [(7, .int .i64 k), (6, .bool sm)]) (fun (k, sm, a) => [(b3, .cells #[.int .i64 a.x.lo, .int .i64 a.x.hi, .int .i64 a.y.lo, .int .i64 a.y.hi] 88), (b2, .cells #[.int .i64 0, .int .i64 0, .int .i64 0, .int .i64 0] 88), (b1, .cells #[.int .i64 z.lo, .int .i64 z.hi] 23)]) (fun (k, sm, a) => 0 ≤ k ∧ k ≤ l.length ∧ RwI l z k.toNat a sm) (fun (k, sm, a) => (l.length - k).toNat) ((0, decide ((l.getD ((l.length : Int) - 1).toNat bdZ).to ≤ z.hi), Fl.axZ)) (.cons rfl (.cons rfl (.nil _))) (by repeat (first | exact List.nil_sublist _ | exact List.Sublist.refl _ | apply List.Sublist.cons_cons | apply List.Sublist.cons)) (⟨by omega, by omega, by rw [show ((l.length : Int) - 1).toNat = l.length - 1 by omega]; exact RwI.zero⟩) ?_
 rintro ⟨k, sm, a⟩ hi
 obtain ⟨hk0, hk1, hrw⟩ := hi
 dsimp only at hk0 hk1 hrw ⊢
 refine V_seq ?_
 refine Vs rfl ?_
 iterate 2 refine Lm rfl rfl rfl ?_
 refine Lp rfl (p_len isl31 rfl rfl) ?_
 refine Lp rfl (p_lss rfl rfl rfl) ?_
 refine L_then (kp [0, 3, 4, 5, 6, 7, 28] rfl) ?_
 refine V_cond rfl ?_ ?_
 ·intro c1; try simp only [td] at c1
  obtain ⟨tb, etb, hc⟩ := hbe k.toNat _ (getD_cells (d := bdZ) (by omega))
  injection etb with etb
  subst etb
  refine V_skip (then_n ?_)
  refine V_seq ?_
  refine V_block ?_
  refine Vs rfl ?_
  iterate 2 refine Lm rfl rfl rfl ?_
  refine Lp rfl (p_idx es31 rfl rfl rfl (by omega) (by omega)) ?_
  refine Lr rfl (r_loadBA ag115 sz115 rfl rfl hc rfl List.not_mem_nil) ?_
  refine Lw rfl (w_alloc zr115 rfl) ?_
  rintro _ _ ⟨b4, hb4, rfl, rfl⟩
  refine Ls (cs' := [_, _, _, _, _, _]) rfl sz115 rfl rfl rfl rfl rfl rfl rfl ?_
  refine L_then (kp [0, 3, 4, 5, 6, 7, 8] rfl) ?_
  refine V_seq ?_
  refine Vs rfl ?_
  refine Lp rfl (p_fieldo fo115_0 rfl rfl) ?_
  refine Lr rfl (rl ag3 rfl rfl rfl) ?_
  refine Lp rfl (p_fieldo fo23_1 rfl rfl) ?_
  refine Lr rfl (rl ag3 rfl rfl rfl) ?_
  refine Lp rfl (p_gtr rfl rfl rfl) ?_
  refine Lm rfl rfl rfl ?_
  refine L_cases (d := 40) rfl ?_ ?_
  ·intro g2; have g2' := g2; try simp only [td] at g2'
   refine L_yes rfl rfl rfl g2 (X_p (p_move rfl rfl) ?_)
   refine L_yes rfl rfl rfl g2 (X_p (p_gtr rfl rfl rfl) ?_)
   refine Lp rfl (p_pick_t rfl rfl g2 rfl) ?_
   refine Lm rfl rfl rfl ?_
   refine L_cases (d := 44) rfl ?_ ?_
   ·intro g3; have g3' := g3; try simp only [td] at g3'
    iterate 5 refine L_no rfl rfl rfl g3 ?_
    refine Lp rfl (p_pick_t rfl rfl g3 rfl) ?_
    refine L_then (kp [0, 3, 4, 5, 6, 7, 8, 50] rfl) ?_
    refine V_cond_t rfl rfl ?_
    refine V_exit (then_e (blk_e rfl (then_n ?_)))
    refine V_region rfl ?_
    refine Lm rfl rfl rfl ?_
    first | refine Lp rfl (p_add' rfl rfl rfl (by unfold InI; omega)) ?_ | refine Lp rfl (p_add rfl rfl rfl) ?_
    refine La rfl rfl rfl ?_
    refine L_keep (kp [0, 3, 4, 5, 6, 7] rfl) (then_n ?_)
    refine ⟨(k + 1, sm, a), ?_, ?_, (.cons rfl (.cons rfl (.cons rfl (.cons rfl (.cons rfl (.cons rfl (.nil _))))))), (by repeat (first | exact List.nil_sublist _ | exact List.Sublist.refl _ | apply List.Sublist.cons_cons | apply List.Sublist.cons | apply List.sublist_append_of_sublist_right)), rfl⟩
    ·exact ⟨by omega, by omega, by rw [show (k + 1).toNat = k.toNat + 1 by omega]; exact hrw.skip (by first | exact rskip_1 (by unfold bdAt; omega) (by omega) | exact rskip_2 (by unfold bdAt; omega))⟩
    dsimp only; omega
   intro g3; have g3' := g3; try simp only [td] at g3'
   refine L_yes rfl rfl rfl g3 (X_p (p_fieldo fo115_1 rfl rfl) ?_)
   refine L_yes rfl rfl rfl g3 (X_rd (rl ag3 rfl rfl rfl) ?_)
   refine L_yes rfl rfl rfl g3 (X_p (p_fieldo fo23_0 rfl rfl) ?_)
   refine L_yes rfl rfl rfl g3 (X_rd (rl ag3 rfl rfl rfl) ?_)
   refine L_yes rfl rfl rfl g3 (X_p (p_leq rfl rfl rfl) ?_)
   refine Lp rfl (p_pick_f rfl rfl g3 rfl) ?_
   refine L_then (kp [0, 3, 4, 5, 6, 7, 8, 50] rfl) ?_
   refine V_cond rfl ?_ ?_
   ·intro c2; try simp only [td] at c2
    refine V_exit (then_e (blk_e rfl (then_n ?_)))
    refine V_region rfl ?_
    refine Lm rfl rfl rfl ?_
    first | refine Lp rfl (p_add' rfl rfl rfl (by unfold InI; omega)) ?_ | refine Lp rfl (p_add rfl rfl rfl) ?_
    refine La rfl rfl rfl ?_
    refine L_keep (kp [0, 3, 4, 5, 6, 7] rfl) (then_n ?_)
    refine ⟨(k + 1, sm, a), ?_, ?_, (.cons rfl (.cons rfl (.cons rfl (.cons rfl (.cons rfl (.cons rfl (.nil _))))))), (by repeat (first | exact List.nil_sublist _ | exact List.Sublist.refl _ | apply List.Sublist.cons_cons | apply List.Sublist.cons | apply List.sublist_append_of_sublist_right)), rfl⟩
    ·exact ⟨by omega, by omega, by rw [show (k + 1).toNat = k.toNat + 1 by omega]; exact hrw.skip (by first | exact rskip_1 (by unfold bdAt; omega) (by omega) | exact rskip_2 (by unfold bdAt; omega))⟩
    dsimp only; omega
   intro c2; try simp only [td] at c2
   refine V_skip (then_n ?_)
   refine Vs rfl ?_
   refine Lp rfl (p_fieldo fo115_2 rfl rfl) ?_
   refine Lr rfl (rlA (vs := [_, _]) ag23 sz23 rfl rfl rfl) ?_
   refine Lp rfl (p_fieldo fo115_3 rfl rfl) ?_
   refine Lr rfl (rlA (vs := [_, _]) ag23 sz23 rfl rfl rfl) ?_
   refine Lp rfl (p_build (r := [_, _, _, _]) pl88 zr88 rfl rfl rfl) ?_
   refine Lw rfl (w_alloc zr88 rfl) ?_
   rintro _ _ ⟨b5, hb5, rfl, rfl⟩
   refine Ls (cs' := [_, _, _, _]) rfl sz88 rfl rfl rfl rfl rfl rfl rfl ?_
   refine L_then (kp [0, 3, 4, 5, 6, 7, 9] rfl) ?_
   refine V_seq ?_
   refine Vs rfl ?_
   refine Lm rfl rfl rfl ?_
   refine L_then (kp [0, 3, 4, 5, 7, 9, 56] rfl) ?_
   refine V_cond rfl ?_ ?_
   ·intro c3; try simp only [td] at c3
    refine V_region rfl ?_
    iterate 2 refine Lr rfl (rlA (vs := [_, _, _, _]) ag88 sz88 rfl rfl rfl) ?_
    refine Lc rfl rfl rfl rfl (fun w hg => rboth_c a.x a.y (l.getD k.toNat bdZ).x (l.getD k.toNat bdZ).y w) ?_
    refine Ls (cs' := [_, _, _, _]) rfl sz88 rfl rfl rfl rfl rfl rfl rfl ?_
    refine L_then (kp [0, 3, 4, 5, 7, 9] rfl) ?_
    refine V_region rfl ?_
    refine Lr rfl (rlA (vs := [_, _, _, _]) ag88 sz88 rfl rfl rfl) ?_
    refine Ls (cs' := [_, _, _, _]) rfl sz88 rfl rfl rfl rfl rfl rfl rfl ?_
    refine La rfl rfl rfl ?_
    refine L_keep (kp [0, 3, 4, 5, 6, 7] rfl) (blk_n (then_n ?_))
    refine V_region rfl ?_
    refine Lm rfl rfl rfl ?_
    first | refine Lp rfl (p_add' rfl rfl rfl (by unfold InI; omega)) ?_ | refine Lp rfl (p_add rfl rfl rfl) ?_
    refine La rfl rfl rfl ?_
    refine L_keep (kp [0, 3, 4, 5, 6, 7] rfl) (then_n ?_)
    refine ⟨(k + 1, true, Fl.hullA a ⟨(l.getD k.toNat bdZ).x, (l.getD k.toNat bdZ).y, Fl.spZ⟩), ?_, ?_, (.cons rfl (.cons rfl (.cons rfl (.cons rfl (.cons rfl (.cons rfl (.nil _))))))), (by repeat (first | exact List.nil_sublist _ | exact List.Sublist.refl _ | apply List.Sublist.cons_cons | apply List.Sublist.cons | apply List.sublist_append_of_sublist_right)), rfl⟩
    ·have hft : sm = true := by assumption
     rw [hft] at hrw
     exact ⟨by omega, by omega, by rw [show (k + 1).toNat = k.toNat + 1 by omega]; exact hrw.more (rskip_no (by unfold bdAt; omega) (by unfold bdAt; omega))⟩
    dsimp only; omega
   intro c3; try simp only [td] at c3
   refine V_skip (then_n ?_)
   refine V_region rfl ?_
   refine Lr rfl (rlA (vs := [_, _, _, _]) ag88 sz88 rfl rfl rfl) ?_
   refine Ls (cs' := [_, _, _, _]) rfl sz88 rfl rfl rfl rfl rfl rfl rfl ?_
   refine La rfl rfl rfl ?_
   refine L_keep (kp [0, 3, 4, 5, 6, 7] rfl) (blk_n (then_n ?_))
   refine V_region rfl ?_
   refine Lm rfl rfl rfl ?_
   first | refine Lp rfl (p_add' rfl rfl rfl (by unfold InI; omega)) ?_ | refine Lp rfl (p_add rfl rfl rfl) ?_
   refine La rfl rfl rfl ?_
   refine L_keep (kp [0, 3, 4, 5, 6, 7] rfl) (then_n ?_)
   refine ⟨(k + 1, true, ⟨(l.getD k.toNat bdZ).x, (l.getD k.toNat bdZ).y, Fl.spZ⟩), ?_, ?_, (.cons rfl (.cons rfl (.cons rfl (.cons rfl (.cons rfl (.cons rfl (.nil _))))))), (by repeat (first | exact List.nil_sublist _ | exact List.Sublist.refl _ | apply List.Sublist.cons_cons | apply List.Sublist.cons | apply List.sublist_append_of_sublist_right)), rfl⟩
   ·have hft : sm = false := by assumption
    rw [hft] at hrw
    exact ⟨by omega, by omega, by rw [show (k + 1).toNat = k.toNat + 1 by omega]; exact hrw.first (rskip_no (by unfold bdAt; omega) (by unfold bdAt; omega))⟩
   dsimp only; omega
  intro g2; have g2' := g2; try simp only [td] at g2'
  iterate 2 refine L_no rfl rfl rfl g2 ?_
  refine Lp rfl (p_pick_f rfl rfl g2 rfl) ?_
  refine Lm rfl rfl rfl ?_
  refine L_yes rfl rfl rfl rfl (X_p (p_fieldo fo115_1 rfl rfl) ?_)
  refine L_yes rfl rfl rfl rfl (X_rd (rl ag3 rfl rfl rfl) ?_)
  refine L_yes rfl rfl rfl rfl (X_p (p_fieldo fo23_0 rfl rfl) ?_)
  refine L_yes rfl rfl rfl rfl (X_rd (rl ag3 rfl rfl rfl) ?_)
  refine L_yes rfl rfl rfl rfl (X_p (p_leq rfl rfl rfl) ?_)
  refine Lp rfl (p_pick_f rfl rfl rfl rfl) ?_
  refine L_then (kp [0, 3, 4, 5, 6, 7, 8, 50] rfl) ?_
  refine V_cond rfl ?_ ?_
  ·intro c4; try simp only [td] at c4
   refine V_exit (then_e (blk_e rfl (then_n ?_)))
   refine V_region rfl ?_
   refine Lm rfl rfl rfl ?_
   first | refine Lp rfl (p_add' rfl rfl rfl (by unfold InI; omega)) ?_ | refine Lp rfl (p_add rfl rfl rfl) ?_
   refine La rfl rfl rfl ?_
   refine L_keep (kp [0, 3, 4, 5, 6, 7] rfl) (then_n ?_)
   refine ⟨(k + 1, sm, a), ?_, ?_, (.cons rfl (.cons rfl (.cons rfl (.cons rfl (.cons rfl (.cons rfl (.nil _))))))), (by repeat (first | exact List.nil_sublist _ | exact List.Sublist.refl _ | apply List.Sublist.cons_cons | apply List.Sublist.cons | apply List.sublist_append_of_sublist_right)), rfl⟩
   ·exact ⟨by omega, by omega, by rw [show (k + 1).toNat = k.toNat + 1 by omega]; exact hrw.skip (by first | exact rskip_1 (by unfold bdAt; omega) (by omega) | exact rskip_2 (by unfold bdAt; omega))⟩
   dsimp only; omega
  intro c4; try simp only [td] at c4
  refine V_skip (then_n ?_)
  refine Vs rfl ?_
  refine Lp rfl (p_fieldo fo115_2 rfl rfl) ?_
  refine Lr rfl (rlA (vs := [_, _]) ag23 sz23 rfl rfl rfl) ?_
  refine Lp rfl (p_fieldo fo115_3 rfl rfl) ?_
  refine Lr rfl (rlA (vs := [_, _]) ag23 sz23 rfl rfl rfl) ?_
  refine Lp rfl (p_build (r := [_, _, _, _]) pl88 zr88 rfl rfl rfl) ?_
  refine Lw rfl (w_alloc zr88 rfl) ?_
  rintro _ _ ⟨b5, hb5, rfl, rfl⟩
  refine Ls (cs' := [_, _, _, _]) rfl sz88 rfl rfl rfl rfl rfl rfl rfl ?_
  refine L_then (kp [0, 3, 4, 5, 6, 7, 9] rfl) ?_
  refine V_seq ?_
  refine Vs rfl ?_
  refine Lm rfl rfl rfl ?_
  refine L_then (kp [0, 3, 4, 5, 7, 9, 56] rfl) ?_
  refine V_cond rfl ?_ ?_
  ·intro c5; try simp only [td] at c5
   refine V_region rfl ?_
   iterate 2 refine Lr rfl (rlA (vs := [_, _, _, _]) ag88 sz88 rfl rfl rfl) ?_
   refine Lc rfl rfl rfl rfl (fun w hg => rboth_c a.x a.y (l.getD k.toNat bdZ).x (l.getD k.toNat bdZ).y w) ?_
   refine Ls (cs' := [_, _, _, _]) rfl sz88 rfl rfl rfl rfl rfl rfl rfl ?_
   refine L_then (kp [0, 3, 4, 5, 7, 9] rfl) ?_
   refine V_region rfl ?_
   refine Lr rfl (rlA (vs := [_, _, _, _]) ag88 sz88 rfl rfl rfl) ?_
   refine Ls (cs' := [_, _, _, _]) rfl sz88 rfl rfl rfl rfl rfl rfl rfl ?_
   refine La rfl rfl rfl ?_
   refine L_keep (kp [0, 3, 4, 5, 6, 7] rfl) (blk_n (then_n ?_))
   refine V_region rfl ?_
   refine Lm rfl rfl rfl ?_
   first | refine Lp rfl (p_add' rfl rfl rfl (by unfold InI; omega)) ?_ | refine Lp rfl (p_add rfl rfl rfl) ?_
   refine La rfl rfl rfl ?_
   refine L_keep (kp [0, 3, 4, 5, 6, 7] rfl) (then_n ?_)
   refine ⟨(k + 1, true, Fl.hullA a ⟨(l.getD k.toNat bdZ).x, (l.getD k.toNat bdZ).y, Fl.spZ⟩), ?_, ?_, (.cons rfl (.cons rfl (.cons rfl (.cons rfl (.cons rfl (.cons rfl (.nil _))))))), (by repeat (first | exact List.nil_sublist _ | exact List.Sublist.refl _ | apply List.Sublist.cons_cons | apply List.Sublist.cons | apply List.sublist_append_of_sublist_right)), rfl⟩
   ·have hft : sm = true := by assumption
    rw [hft] at hrw
    exact ⟨by omega, by omega, by rw [show (k + 1).toNat = k.toNat + 1 by omega]; exact hrw.more (rskip_no (by unfold bdAt; omega) (by unfold bdAt; omega))⟩
   dsimp only; omega
  intro c5; try simp only [td] at c5
  refine V_skip (then_n ?_)
  refine V_region rfl ?_
  refine Lr rfl (rlA (vs := [_, _, _, _]) ag88 sz88 rfl rfl rfl) ?_
  refine Ls (cs' := [_, _, _, _]) rfl sz88 rfl rfl rfl rfl rfl rfl rfl ?_
  refine La rfl rfl rfl ?_
  refine L_keep (kp [0, 3, 4, 5, 6, 7] rfl) (blk_n (then_n ?_))
  refine V_region rfl ?_
  refine Lm rfl rfl rfl ?_
  first | refine Lp rfl (p_add' rfl rfl rfl (by unfold InI; omega)) ?_ | refine Lp rfl (p_add rfl rfl rfl) ?_
  refine La rfl rfl rfl ?_
  refine L_keep (kp [0, 3, 4, 5, 6, 7] rfl) (then_n ?_)
  refine ⟨(k + 1, true, ⟨(l.getD k.toNat bdZ).x, (l.getD k.toNat bdZ).y, Fl.spZ⟩), ?_, ?_, (.cons rfl (.cons rfl (.cons rfl (.cons rfl (.cons rfl (.cons rfl (.nil _))))))), (by repeat (first | exact List.nil_sublist _ | exact List.Sublist.refl _ | apply List.Sublist.cons_cons | apply List.Sublist.cons | apply List.sublist_append_of_sublist_right)), rfl⟩
  ·have hft : sm = false := by assumption
   rw [hft] at hrw
   exact ⟨by omega, by omega, by rw [show (k + 1).toNat = k.toNat + 1 by omega]; exact hrw.first (rskip_no (by unfold bdAt; omega) (by unfold bdAt; omega))⟩
  dsimp only; omega
 intro c1; try simp only [td] at c1
 have ek : k.toNat = l.length := by omega
 rw [ek] at hrw
 have hw := hrw.end hG
 refine V_exit (then_e (then_e (blk_e rfl (then_n ?_))))
 refine Vs rfl ?_
 refine Lr rfl (rlA (vs := [_, _, _, _]) ag88 sz88 rfl rfl rfl) ?_
 refine Ls (cs' := [_, _, _, _]) rfl sz88 rfl rfl rfl rfl rfl rfl rfl ?_
 refine L_then (kp [4] rfl) ?_
 refine V_ret ?_
 refine Leave.nil (.cellA (us := [_, _, _, _]) rfl ag88 sz88 (by repeat first | exact mH | apply mT) rfl .nil) ?_
 rw [hw]; rfl
set_option maxHeartbeats 8000000 in
theorem rdense_c (z : Span) (v : Veh) (x : Value) (hG : GoodV v) (w : World) (hv : VehR w x v) : FnP Tryz.prog 91 [x, .agg #[.int .i64 z.lo, .int .i64 z.hi]] w (.agg #[.int .i64 (airT v z).lo, .int .i64 (airT v z).hi]) := by
 have hV := hv
 obtain ⟨av, pv, qv, rfl, hsa, hsp, hsq⟩ := hv.ex
 obtain ⟨aa, ac, rfl, hac, hae⟩ := hsa.ex
 have hl20 := hG.air20
 simp only [List.length_map] at hV hac ⊢
 refine fn_pure Tryz.func91 rfl (by kernel_rfl) Tryz.ntmps91 Tryz.results91 rfl ?_
 refine Vs rfl ?_
 refine Lw rfl (w_box rfl rfl) ?_
 rintro _ _ ⟨b1, hb1, rfl, rfl⟩
 refine Lw rfl (w_box rfl rfl) ?_
 rintro _ _ ⟨b2, hb2, rfl, rfl⟩
 refine Lw rfl (w_alloc zr23 rfl) ?_
 rintro _ _ ⟨b3, hb3, rfl, rfl⟩
 refine L_then (kp [2, 3, 4] rfl) ?_
 refine Vs rfl ?_
 refine Lw rfl (w_alloc zr23 rfl) ?_
 rintro _ _ ⟨b4, hb4, rfl, rfl⟩
 refine L_then (kp [2, 3, 4, 5] rfl) ?_
 refine Vs rfl ?_
 refine La rfl rfl rfl ?_
 refine L_then (kp [2, 3, 4, 5, 6] rfl) ?_
 refine V_seq ?_
 refine Vs rfl ?_
 refine La rfl rfl rfl ?_
 refine L_then (kp [2, 3, 4, 5, 6, 7] rfl) ?_
 refine V_block ?_
 refine V_loop1 (γ := Int × Bool × Ax) (kp [2, 3, 4, 5] rfl) (fun (k, sm, a) => [(7, .int .i64 k), (6, .bool sm)]) (fun (k, sm, a) => [(b4, .cells #[.int .i64 a.x.lo, .int .i64 a.x.hi] 23), (b3, .cells #[.int .i64 0, .int .i64 0] 23), (b2, .cells #[.int .i64 z.lo, .int .i64 z.hi] 23), (b1, .cells #[.string v.name, .int .i64 v.gravity.lo, .int .i64 v.gravity.hi, .slice aa v.air.length ac, pv, qv] 28)]) (fun (k, sm, a) => 0 ≤ k ∧ k ≤ v.air.length ∧ SomeI z (arFrm v) (arOf v) k.toNat a sm) (fun (k, sm, a) => (v.air.length - k).toNat) ((0, false, Fl.axZ)) (.cons rfl (.cons rfl (.nil _))) (by repeat (first | exact List.nil_sublist _ | exact List.Sublist.refl _ | apply List.Sublist.cons_cons | apply List.Sublist.cons)) (⟨by omega, by omega, SomeI.zero⟩) ?_
 rintro ⟨k, sm, a⟩ hi
 obtain ⟨hk0, hk1, hs⟩ := hi
 dsimp only at hk0 hk1 hs ⊢
 refine V_seq ?_
 refine Vs rfl ?_
 refine Lm rfl rfl rfl ?_
 refine Lp rfl (p_fieldo fo28_2 rfl rfl) ?_
 refine Lr rfl (rl ag24 rfl rfl rfl) ?_
 refine Lp rfl (p_len isl24 rfl rfl) ?_
 refine Lp rfl (p_lss rfl rfl rfl) ?_
 refine L_then (kp [2, 3, 4, 5, 6, 7, 13] rfl) ?_
 refine V_cond rfl ?_ ?_
 ·intro c1; try simp only [td] at c1
  obtain ⟨tb, etb, hc⟩ := hae k.toNat _ (getD_cells (d := airZ) (by omega))
  subst etb
  have hc2 : k + 1 < v.air.length → cellsAt w (tb.add ((k + 1).toNat * 2)) (AirE.cells (v.air.getD (k + 1).toNat airZ)) := fun h => by
   obtain ⟨b9, e9, h9⟩ := hae (k + 1).toNat _ (getD_cells (d := airZ) (by omega))
   injection e9 with e9
   subst e9; exact h9
  refine V_skip (then_n ?_)
  refine V_seq ?_
  refine V_block ?_
  refine V_seq ?_
  refine V_seq (V_draw (.rd 0 (.rd 1 (.rd 2 (.rd 3 (.rd 4 (.rd 5 (.rd 6 (.rd 7 (.rd 8 (.rd 9 (.rd 10 (.rd 11 (.rd 12 (.rd 13 (.rd 14 (.rd 15 (.rd 16 (.rd 17 (.rd 18 (.rd 19 (.rd 20 (.rd 21 (.rd 22 (.rd 23 (.rd 24 (.rd 25 (.rd 26 (.rd 27 (.rd 28 (.rd 29 (.rd 30 (.rd 31 (.rd 32 .done))))))))))))))))))))))))))))))))) mixed (by kernel_rfl) rfl ?_)
  refine Dp rfl rfl (p_fieldo fo28_2 rfl rfl) ?_
  refine Dr rfl rfl (rl ag24 rfl rfl rfl) ?_
  refine Dm rfl rfl rfl rfl ?_
  refine Dp rfl rfl (p_idx es24 rfl rfl rfl (by omega) (by omega)) ?_
  refine Dp rfl rfl (p_field fo118_0 rfl rfl) ?_
  refine Dr rfl rfl (r_loadB ag3 rfl rfl (hc 0 _ rfl) List.not_mem_nil) ?_
  refine Dp rfl rfl (p_fieldo fo23_1 rfl rfl) ?_
  refine Dr rfl rfl (rl ag3 rfl rfl rfl) ?_
  refine Dp rfl rfl (p_gtr rfl rfl rfl) ?_
  refine Dm rfl rfl rfl rfl ?_
  refine D_cases (d := 25) rfl ?_ ?_
  ·intro g1; have g1' := g1; try simp only [td] at g1'
   refine D_p rfl (.yes rfl rfl rfl g1) (p_move rfl rfl) ?_
   refine D_p rfl (.yes rfl rfl rfl g1) (p_gtr rfl rfl rfl) ?_
   refine Dp rfl rfl (p_pick_t rfl rfl g1 rfl) ?_
   refine Dm rfl rfl rfl rfl ?_
   refine D_cases (d := 29) rfl ?_ ?_
   ·intro g2; have g2' := g2; try simp only [td] at g2'
    iterate 7 refine D_no rfl (.mk' rfl rfl rfl g2) ?_
    iterate 10 refine D_no rfl (.und rfl rfl rfl) ?_
    refine D_no rfl (.mk' rfl rfl rfl g2) ?_
    refine Dp rfl rfl (p_pick_t rfl rfl g2 rfl) ?_
    refine D_then (kp [2, 3, 4, 5, 6, 7, 48] rfl) ?_
    refine V_cond_t rfl rfl ?_
    refine V_exit (then_e (blk_e rfl (then_n ?_)))
    refine V_region rfl ?_
    refine Lm rfl rfl rfl ?_
    first | refine Lp rfl (p_add' rfl rfl rfl (by unfold InI; omega)) ?_ | refine Lp rfl (p_add rfl rfl rfl) ?_
    refine La rfl rfl rfl ?_
    refine L_keep (kp [2, 3, 4, 5, 6, 7] rfl) (then_n ?_)
    refine ⟨(k + 1, sm, a), ?_, ?_, (.cons rfl (.cons rfl (.cons rfl (.cons rfl (.cons rfl (.cons rfl (.nil _))))))), (by repeat (first | exact List.nil_sublist _ | exact List.Sublist.refl _ | apply List.Sublist.cons_cons | apply List.Sublist.cons | apply List.sublist_append_of_sublist_right)), rfl⟩
    ·refine ⟨by omega, by omega, ?_⟩
     rw [show (k + 1).toNat = k.toNat + 1 by omega]
     exact hs.skip (by first | exact skip_lo (by omega) (by rw [arFrm_at (by omega)]; omega) | exact skip_hi (by rw [arOf_len]; omega) (by rw [arFrm_at (by omega), show k.toNat + 1 = (k + 1).toNat by omega]; omega))
    dsimp only; omega
   intro g2; have g2' := g2; try simp only [td] at g2'
   refine D_p rfl (.yes rfl rfl rfl g2) (p_move rfl rfl) ?_
   first | refine D_p rfl (.yes rfl rfl rfl g2) (p_add' rfl rfl rfl (by unfold InI; omega)) ?_ | refine D_p rfl (.yes rfl rfl rfl g2) (p_add rfl rfl rfl) ?_
   refine D_p rfl (.yes rfl rfl rfl g2) (p_fieldo fo28_2 rfl rfl) ?_
   refine D_rd rfl (.yes rfl rfl rfl g2) (rl ag24 rfl rfl rfl) ?_
   refine D_p rfl (.yes rfl rfl rfl g2) (p_len isl24 rfl rfl) ?_
   refine D_p rfl (.yes rfl rfl rfl g2) (p_lss rfl rfl rfl) ?_
   refine D_p rfl (.yes rfl rfl rfl g2) (p_move rfl rfl) ?_
   refine D_cases (d := 36) rfl ?_ ?_
   ·intro g3; have g3' := g3; try simp only [td] at g3'
    refine D_p rfl (.yes rfl rfl rfl g3) (p_fieldo fo28_2 rfl rfl) ?_
    refine D_rd rfl (.yes rfl rfl rfl g3) (rl ag24 rfl rfl rfl) ?_
    refine D_p rfl (.yes rfl rfl rfl g3) (p_move rfl rfl) ?_
    first | refine D_p rfl (.yes rfl rfl rfl g3) (p_add' rfl rfl rfl (by unfold InI; omega)) ?_ | refine D_p rfl (.yes rfl rfl rfl g3) (p_add rfl rfl rfl) ?_
    refine D_p rfl (.yes rfl rfl rfl g3) (p_idx es24 rfl rfl rfl (by omega) (by omega)) ?_
    refine D_p rfl (.yes rfl rfl rfl g3) (p_field fo118_0 rfl rfl) ?_
    refine D_rd rfl (.yes rfl rfl rfl g3) (r_loadB ag3 rfl rfl (hc2 (by omega) 0 _ rfl) List.not_mem_nil) ?_
    refine D_p rfl (.yes rfl rfl rfl g3) (p_fieldo fo23_0 rfl rfl) ?_
    refine D_rd rfl (.yes rfl rfl rfl g3) (rl ag3 rfl rfl rfl) ?_
    refine D_p rfl (.yes rfl rfl rfl g3) (p_leq rfl rfl rfl) ?_
    refine D_p rfl (.yes rfl rfl rfl g2) (p_pick_t rfl rfl g3 rfl) ?_
    refine Dp rfl rfl (p_pick_f rfl rfl g2 rfl) ?_
    refine D_then (kp [2, 3, 4, 5, 6, 7, 48] rfl) ?_
    refine V_cond rfl ?_ ?_
    ·intro c2; try simp only [td] at c2
     refine V_exit (then_e (blk_e rfl (then_n ?_)))
     refine V_region rfl ?_
     refine Lm rfl rfl rfl ?_
     first | refine Lp rfl (p_add' rfl rfl rfl (by unfold InI; omega)) ?_ | refine Lp rfl (p_add rfl rfl rfl) ?_
     refine La rfl rfl rfl ?_
     refine L_keep (kp [2, 3, 4, 5, 6, 7] rfl) (then_n ?_)
     refine ⟨(k + 1, sm, a), ?_, ?_, (.cons rfl (.cons rfl (.cons rfl (.cons rfl (.cons rfl (.cons rfl (.nil _))))))), (by repeat (first | exact List.nil_sublist _ | exact List.Sublist.refl _ | apply List.Sublist.cons_cons | apply List.Sublist.cons | apply List.sublist_append_of_sublist_right)), rfl⟩
     ·refine ⟨by omega, by omega, ?_⟩
      rw [show (k + 1).toNat = k.toNat + 1 by omega]
      exact hs.skip (by first | exact skip_lo (by omega) (by rw [arFrm_at (by omega)]; omega) | exact skip_hi (by rw [arOf_len]; omega) (by rw [arFrm_at (by omega), show k.toNat + 1 = (k + 1).toNat by omega]; omega))
     dsimp only; omega
    intro c2; try simp only [td] at c2
    refine V_skip (then_n ?_)
    refine V_seq (V_draw (.rd 0 (.rd 1 (.rd 2 (.rd 3 (.rd 4 (.rd 5 (.rd 6 (.rd 7 (.rd 8 (.rd 9 (.rd 10 (.rd 11 (.rd 12 (.wr 13 [12, 11, 10, 9, 8, 7, 6, 5, 4, 3, 2, 1, 0] (.wr 14 [] .done))))))))))))))) mixed (by kernel_rfl) rfl ?_)
    refine Dp rfl rfl (p_fieldo fo28_2 rfl rfl) ?_
    refine Dr rfl rfl (rl ag24 rfl rfl rfl) ?_
    refine Dm rfl rfl rfl rfl ?_
    refine Dp rfl rfl (p_idx es24 rfl rfl rfl (by omega) (by omega)) ?_
    refine Dp rfl rfl (p_field fo118_1 rfl rfl) ?_
    refine Dr rfl rfl (r_loadB ag3 rfl rfl (hc 1 _ rfl) List.not_mem_nil) ?_
    refine Dp rfl rfl (p_fieldo fo28_2 rfl rfl) ?_
    refine Dr rfl rfl (rl ag24 rfl rfl rfl) ?_
    refine Dm rfl rfl rfl rfl ?_
    refine Dp rfl rfl (p_idx es24 rfl rfl rfl (by omega) (by omega)) ?_
    refine Dp rfl rfl (p_field fo118_1 rfl rfl) ?_
    refine Dr rfl rfl (r_loadB ag3 rfl rfl (hc 1 _ rfl) List.not_mem_nil) ?_
    refine Dp rfl rfl (p_build (r := [_, _]) pl23 zr23 rfl rfl rfl) ?_
    refine D_wr (.go (E' := [(11, _), (7, _), (5, _), (1, _)]) rfl (.plain rfl) (w_alloc zr23 rfl) rfl ?_)
    rintro _ _ ⟨b5, hb5, rfl, rfl⟩
    refine ⟨(.cons rfl (.plain rfl) (r_loadB ag3 rfl rfl (hc 1 _ rfl) List.not_mem_nil) (.cons rfl (.plain rfl) (rl ag24 rfl rfl rfl) (.cons rfl (.plain rfl) (r_loadB ag3 rfl rfl (hc 1 _ rfl) List.not_mem_nil) (.cons rfl (.plain rfl) (rl ag24 rfl rfl rfl) .nil)))), ?_⟩
    refine D_wr (.go (E' := []) rfl (.plain rfl) (ws (cs' := [_, _]) sz23 rfl rfl rfl rfl rfl rfl rfl) rfl ?_)
    rintro _ _ ⟨rfl, rfl⟩
    refine ⟨.nil, ?_⟩
    refine D_then (kp [2, 3, 4, 5, 6, 7, 8] rfl) ?_
    refine V_seq ?_
    refine Vs rfl ?_
    refine Lm rfl rfl rfl ?_
    refine L_then (kp [2, 3, 4, 5, 7, 8, 62] rfl) ?_
    refine V_cond rfl ?_ ?_
    ·intro c3; try simp only [td] at c3
     refine V_region rfl ?_
     iterate 2 refine Lr rfl (rlA (vs := [_, _]) ag23 sz23 rfl rfl rfl) ?_
     refine Lc rfl rfl rfl rfl (fun w hg => rhull_c a.x (at1 (v.air.getD k.toNat airZ).dens) w) ?_
     refine Ls (cs' := [_, _]) rfl sz23 rfl rfl rfl rfl rfl rfl rfl ?_
     refine L_then (kp [2, 3, 4, 5, 7, 8] rfl) ?_
     refine V_region rfl ?_
     refine Lr rfl (rlA (vs := [_, _]) ag23 sz23 rfl rfl rfl) ?_
     refine Ls (cs' := [_, _]) rfl sz23 rfl rfl rfl rfl rfl rfl rfl ?_
     refine La rfl rfl rfl ?_
     refine L_keep (kp [2, 3, 4, 5, 6, 7] rfl) (blk_n (then_n ?_))
     refine V_region rfl ?_
     refine Lm rfl rfl rfl ?_
     first | refine Lp rfl (p_add' rfl rfl rfl (by unfold InI; omega)) ?_ | refine Lp rfl (p_add rfl rfl rfl) ?_
     refine La rfl rfl rfl ?_
     refine L_keep (kp [2, 3, 4, 5, 6, 7] rfl) (then_n ?_)
     refine ⟨(k + 1, true, Fl.hullA a (⟨at1 (v.air.getD k.toNat airZ).dens, Fl.spZ, Fl.spZ⟩ : Ax)), ?_, ?_, (.cons rfl (.cons rfl (.cons rfl (.cons rfl (.cons rfl (.cons rfl (.nil _))))))), (by repeat (first | exact List.nil_sublist _ | exact List.Sublist.refl _ | apply List.Sublist.cons_cons | apply List.Sublist.cons | apply List.sublist_append_of_sublist_right)), rfl⟩
     ·refine ⟨by omega, by omega, ?_⟩
      have hft : sm = true := by assumption
      rw [hft] at hs
      rw [show (k + 1).toNat = k.toNat + 1 by omega]
      have h9 := hs.more (skip_no (by rw [arFrm_at (by omega)]; omega) (by rw [arOf_len]; by_cases hkl : k.toNat + 1 < v.air.length; (rw [arFrm_at hkl, show k.toNat + 1 = (k + 1).toNat by omega]; omega); omega))
      rw [arOf_at (by omega)] at h9; exact h9
     dsimp only; omega
    intro c3; try simp only [td] at c3
    refine V_skip (then_n ?_)
    refine V_region rfl ?_
    refine Lr rfl (rlA (vs := [_, _]) ag23 sz23 rfl rfl rfl) ?_
    refine Ls (cs' := [_, _]) rfl sz23 rfl rfl rfl rfl rfl rfl rfl ?_
    refine La rfl rfl rfl ?_
    refine L_keep (kp [2, 3, 4, 5, 6, 7] rfl) (blk_n (then_n ?_))
    refine V_region rfl ?_
    refine Lm rfl rfl rfl ?_
    first | refine Lp rfl (p_add' rfl rfl rfl (by unfold InI; omega)) ?_ | refine Lp rfl (p_add rfl rfl rfl) ?_
    refine La rfl rfl rfl ?_
    refine L_keep (kp [2, 3, 4, 5, 6, 7] rfl) (then_n ?_)
    refine ⟨(k + 1, true, (⟨at1 (v.air.getD k.toNat airZ).dens, Fl.spZ, Fl.spZ⟩ : Ax)), ?_, ?_, (.cons rfl (.cons rfl (.cons rfl (.cons rfl (.cons rfl (.cons rfl (.nil _))))))), (by repeat (first | exact List.nil_sublist _ | exact List.Sublist.refl _ | apply List.Sublist.cons_cons | apply List.Sublist.cons | apply List.sublist_append_of_sublist_right)), rfl⟩
    ·refine ⟨by omega, by omega, ?_⟩
     have hft : sm = false := by assumption
     rw [hft] at hs
     rw [show (k + 1).toNat = k.toNat + 1 by omega]
     have h9 := hs.first (skip_no (by rw [arFrm_at (by omega)]; omega) (by rw [arOf_len]; by_cases hkl : k.toNat + 1 < v.air.length; (rw [arFrm_at hkl, show k.toNat + 1 = (k + 1).toNat by omega]; omega); omega))
     rw [arOf_at (by omega)] at h9; exact h9
    dsimp only; omega
   intro g3; have g3' := g3; try simp only [td] at g3'
   iterate 10 refine D_no rfl (.mk' rfl rfl rfl g3) ?_
   refine D_p rfl (.yes rfl rfl rfl g2) (p_pick_f rfl rfl g3 rfl) ?_
   refine Dp rfl rfl (p_pick_f rfl rfl g2 rfl) ?_
   refine D_then (kp [2, 3, 4, 5, 6, 7, 48] rfl) ?_
   refine V_cond_f rfl rfl ?_
   refine V_skip (then_n ?_)
   refine V_seq (V_draw (.rd 0 (.rd 1 (.rd 2 (.rd 3 (.rd 4 (.rd 5 (.rd 6 (.rd 7 (.rd 8 (.rd 9 (.rd 10 (.rd 11 (.rd 12 (.wr 13 [12, 11, 10, 9, 8, 7, 6, 5, 4, 3, 2, 1, 0] (.wr 14 [] .done))))))))))))))) mixed (by kernel_rfl) rfl ?_)
   refine Dp rfl rfl (p_fieldo fo28_2 rfl rfl) ?_
   refine Dr rfl rfl (rl ag24 rfl rfl rfl) ?_
   refine Dm rfl rfl rfl rfl ?_
   refine Dp rfl rfl (p_idx es24 rfl rfl rfl (by omega) (by omega)) ?_
   refine Dp rfl rfl (p_field fo118_1 rfl rfl) ?_
   refine Dr rfl rfl (r_loadB ag3 rfl rfl (hc 1 _ rfl) List.not_mem_nil) ?_
   refine Dp rfl rfl (p_fieldo fo28_2 rfl rfl) ?_
   refine Dr rfl rfl (rl ag24 rfl rfl rfl) ?_
   refine Dm rfl rfl rfl rfl ?_
   refine Dp rfl rfl (p_idx es24 rfl rfl rfl (by omega) (by omega)) ?_
   refine Dp rfl rfl (p_field fo118_1 rfl rfl) ?_
   refine Dr rfl rfl (r_loadB ag3 rfl rfl (hc 1 _ rfl) List.not_mem_nil) ?_
   refine Dp rfl rfl (p_build (r := [_, _]) pl23 zr23 rfl rfl rfl) ?_
   refine D_wr (.go (E' := [(11, _), (7, _), (5, _), (1, _)]) rfl (.plain rfl) (w_alloc zr23 rfl) rfl ?_)
   rintro _ _ ⟨b5, hb5, rfl, rfl⟩
   refine ⟨(.cons rfl (.plain rfl) (r_loadB ag3 rfl rfl (hc 1 _ rfl) List.not_mem_nil) (.cons rfl (.plain rfl) (rl ag24 rfl rfl rfl) (.cons rfl (.plain rfl) (r_loadB ag3 rfl rfl (hc 1 _ rfl) List.not_mem_nil) (.cons rfl (.plain rfl) (rl ag24 rfl rfl rfl) .nil)))), ?_⟩
   refine D_wr (.go (E' := []) rfl (.plain rfl) (ws (cs' := [_, _]) sz23 rfl rfl rfl rfl rfl rfl rfl) rfl ?_)
   rintro _ _ ⟨rfl, rfl⟩
   refine ⟨.nil, ?_⟩
   refine D_then (kp [2, 3, 4, 5, 6, 7, 8] rfl) ?_
   refine V_seq ?_
   refine Vs rfl ?_
   refine Lm rfl rfl rfl ?_
   refine L_then (kp [2, 3, 4, 5, 7, 8, 62] rfl) ?_
   refine V_cond rfl ?_ ?_
   ·intro c4; try simp only [td] at c4
    refine V_region rfl ?_
    iterate 2 refine Lr rfl (rlA (vs := [_, _]) ag23 sz23 rfl rfl rfl) ?_
    refine Lc rfl rfl rfl rfl (fun w hg => rhull_c a.x (at1 (v.air.getD k.toNat airZ).dens) w) ?_
    refine Ls (cs' := [_, _]) rfl sz23 rfl rfl rfl rfl rfl rfl rfl ?_
    refine L_then (kp [2, 3, 4, 5, 7, 8] rfl) ?_
    refine V_region rfl ?_
    refine Lr rfl (rlA (vs := [_, _]) ag23 sz23 rfl rfl rfl) ?_
    refine Ls (cs' := [_, _]) rfl sz23 rfl rfl rfl rfl rfl rfl rfl ?_
    refine La rfl rfl rfl ?_
    refine L_keep (kp [2, 3, 4, 5, 6, 7] rfl) (blk_n (then_n ?_))
    refine V_region rfl ?_
    refine Lm rfl rfl rfl ?_
    first | refine Lp rfl (p_add' rfl rfl rfl (by unfold InI; omega)) ?_ | refine Lp rfl (p_add rfl rfl rfl) ?_
    refine La rfl rfl rfl ?_
    refine L_keep (kp [2, 3, 4, 5, 6, 7] rfl) (then_n ?_)
    refine ⟨(k + 1, true, Fl.hullA a (⟨at1 (v.air.getD k.toNat airZ).dens, Fl.spZ, Fl.spZ⟩ : Ax)), ?_, ?_, (.cons rfl (.cons rfl (.cons rfl (.cons rfl (.cons rfl (.cons rfl (.nil _))))))), (by repeat (first | exact List.nil_sublist _ | exact List.Sublist.refl _ | apply List.Sublist.cons_cons | apply List.Sublist.cons | apply List.sublist_append_of_sublist_right)), rfl⟩
    ·refine ⟨by omega, by omega, ?_⟩
     have hft : sm = true := by assumption
     rw [hft] at hs
     rw [show (k + 1).toNat = k.toNat + 1 by omega]
     have h9 := hs.more (skip_no (by rw [arFrm_at (by omega)]; omega) (by rw [arOf_len]; by_cases hkl : k.toNat + 1 < v.air.length; (rw [arFrm_at hkl, show k.toNat + 1 = (k + 1).toNat by omega]; omega); omega))
     rw [arOf_at (by omega)] at h9; exact h9
    dsimp only; omega
   intro c4; try simp only [td] at c4
   refine V_skip (then_n ?_)
   refine V_region rfl ?_
   refine Lr rfl (rlA (vs := [_, _]) ag23 sz23 rfl rfl rfl) ?_
   refine Ls (cs' := [_, _]) rfl sz23 rfl rfl rfl rfl rfl rfl rfl ?_
   refine La rfl rfl rfl ?_
   refine L_keep (kp [2, 3, 4, 5, 6, 7] rfl) (blk_n (then_n ?_))
   refine V_region rfl ?_
   refine Lm rfl rfl rfl ?_
   first | refine Lp rfl (p_add' rfl rfl rfl (by unfold InI; omega)) ?_ | refine Lp rfl (p_add rfl rfl rfl) ?_
   refine La rfl rfl rfl ?_
   refine L_keep (kp [2, 3, 4, 5, 6, 7] rfl) (then_n ?_)
   refine ⟨(k + 1, true, (⟨at1 (v.air.getD k.toNat airZ).dens, Fl.spZ, Fl.spZ⟩ : Ax)), ?_, ?_, (.cons rfl (.cons rfl (.cons rfl (.cons rfl (.cons rfl (.cons rfl (.nil _))))))), (by repeat (first | exact List.nil_sublist _ | exact List.Sublist.refl _ | apply List.Sublist.cons_cons | apply List.Sublist.cons | apply List.sublist_append_of_sublist_right)), rfl⟩
   ·refine ⟨by omega, by omega, ?_⟩
    have hft : sm = false := by assumption
    rw [hft] at hs
    rw [show (k + 1).toNat = k.toNat + 1 by omega]
    have h9 := hs.first (skip_no (by rw [arFrm_at (by omega)]; omega) (by rw [arOf_len]; by_cases hkl : k.toNat + 1 < v.air.length; (rw [arFrm_at hkl, show k.toNat + 1 = (k + 1).toNat by omega]; omega); omega))
    rw [arOf_at (by omega)] at h9; exact h9
   dsimp only; omega
  intro g1; have g1' := g1; try simp only [td] at g1'
  iterate 2 refine D_no rfl (.mk' rfl rfl rfl g1) ?_
  refine Dp rfl rfl (p_pick_f rfl rfl g1 rfl) ?_
  refine Dm rfl rfl rfl rfl ?_
  refine D_p rfl (.yes rfl rfl rfl rfl) (p_move rfl rfl) ?_
  first | refine D_p rfl (.yes rfl rfl rfl rfl) (p_add' rfl rfl rfl (by unfold InI; omega)) ?_ | refine D_p rfl (.yes rfl rfl rfl rfl) (p_add rfl rfl rfl) ?_
  refine D_p rfl (.yes rfl rfl rfl rfl) (p_fieldo fo28_2 rfl rfl) ?_
  refine D_rd rfl (.yes rfl rfl rfl rfl) (rl ag24 rfl rfl rfl) ?_
  refine D_p rfl (.yes rfl rfl rfl rfl) (p_len isl24 rfl rfl) ?_
  refine D_p rfl (.yes rfl rfl rfl rfl) (p_lss rfl rfl rfl) ?_
  refine D_p rfl (.yes rfl rfl rfl rfl) (p_move rfl rfl) ?_
  refine D_cases (d := 36) rfl ?_ ?_
  ·intro g4; have g4' := g4; try simp only [td] at g4'
   refine D_p rfl (.yes rfl rfl rfl g4) (p_fieldo fo28_2 rfl rfl) ?_
   refine D_rd rfl (.yes rfl rfl rfl g4) (rl ag24 rfl rfl rfl) ?_
   refine D_p rfl (.yes rfl rfl rfl g4) (p_move rfl rfl) ?_
   first | refine D_p rfl (.yes rfl rfl rfl g4) (p_add' rfl rfl rfl (by unfold InI; omega)) ?_ | refine D_p rfl (.yes rfl rfl rfl g4) (p_add rfl rfl rfl) ?_
   refine D_p rfl (.yes rfl rfl rfl g4) (p_idx es24 rfl rfl rfl (by omega) (by omega)) ?_
   refine D_p rfl (.yes rfl rfl rfl g4) (p_field fo118_0 rfl rfl) ?_
   refine D_rd rfl (.yes rfl rfl rfl g4) (r_loadB ag3 rfl rfl (hc2 (by omega) 0 _ rfl) List.not_mem_nil) ?_
   refine D_p rfl (.yes rfl rfl rfl g4) (p_fieldo fo23_0 rfl rfl) ?_
   refine D_rd rfl (.yes rfl rfl rfl g4) (rl ag3 rfl rfl rfl) ?_
   refine D_p rfl (.yes rfl rfl rfl g4) (p_leq rfl rfl rfl) ?_
   refine D_p rfl (.yes rfl rfl rfl rfl) (p_pick_t rfl rfl g4 rfl) ?_
   refine Dp rfl rfl (p_pick_f rfl rfl rfl rfl) ?_
   refine D_then (kp [2, 3, 4, 5, 6, 7, 48] rfl) ?_
   refine V_cond rfl ?_ ?_
   ·intro c5; try simp only [td] at c5
    refine V_exit (then_e (blk_e rfl (then_n ?_)))
    refine V_region rfl ?_
    refine Lm rfl rfl rfl ?_
    first | refine Lp rfl (p_add' rfl rfl rfl (by unfold InI; omega)) ?_ | refine Lp rfl (p_add rfl rfl rfl) ?_
    refine La rfl rfl rfl ?_
    refine L_keep (kp [2, 3, 4, 5, 6, 7] rfl) (then_n ?_)
    refine ⟨(k + 1, sm, a), ?_, ?_, (.cons rfl (.cons rfl (.cons rfl (.cons rfl (.cons rfl (.cons rfl (.nil _))))))), (by repeat (first | exact List.nil_sublist _ | exact List.Sublist.refl _ | apply List.Sublist.cons_cons | apply List.Sublist.cons | apply List.sublist_append_of_sublist_right)), rfl⟩
    ·refine ⟨by omega, by omega, ?_⟩
     rw [show (k + 1).toNat = k.toNat + 1 by omega]
     exact hs.skip (by first | exact skip_lo (by omega) (by rw [arFrm_at (by omega)]; omega) | exact skip_hi (by rw [arOf_len]; omega) (by rw [arFrm_at (by omega), show k.toNat + 1 = (k + 1).toNat by omega]; omega))
    dsimp only; omega
   intro c5; try simp only [td] at c5
   refine V_skip (then_n ?_)
   refine V_seq (V_draw (.rd 0 (.rd 1 (.rd 2 (.rd 3 (.rd 4 (.rd 5 (.rd 6 (.rd 7 (.rd 8 (.rd 9 (.rd 10 (.rd 11 (.rd 12 (.wr 13 [12, 11, 10, 9, 8, 7, 6, 5, 4, 3, 2, 1, 0] (.wr 14 [] .done))))))))))))))) mixed (by kernel_rfl) rfl ?_)
   refine Dp rfl rfl (p_fieldo fo28_2 rfl rfl) ?_
   refine Dr rfl rfl (rl ag24 rfl rfl rfl) ?_
   refine Dm rfl rfl rfl rfl ?_
   refine Dp rfl rfl (p_idx es24 rfl rfl rfl (by omega) (by omega)) ?_
   refine Dp rfl rfl (p_field fo118_1 rfl rfl) ?_
   refine Dr rfl rfl (r_loadB ag3 rfl rfl (hc 1 _ rfl) List.not_mem_nil) ?_
   refine Dp rfl rfl (p_fieldo fo28_2 rfl rfl) ?_
   refine Dr rfl rfl (rl ag24 rfl rfl rfl) ?_
   refine Dm rfl rfl rfl rfl ?_
   refine Dp rfl rfl (p_idx es24 rfl rfl rfl (by omega) (by omega)) ?_
   refine Dp rfl rfl (p_field fo118_1 rfl rfl) ?_
   refine Dr rfl rfl (r_loadB ag3 rfl rfl (hc 1 _ rfl) List.not_mem_nil) ?_
   refine Dp rfl rfl (p_build (r := [_, _]) pl23 zr23 rfl rfl rfl) ?_
   refine D_wr (.go (E' := [(11, _), (7, _), (5, _), (1, _)]) rfl (.plain rfl) (w_alloc zr23 rfl) rfl ?_)
   rintro _ _ ⟨b5, hb5, rfl, rfl⟩
   refine ⟨(.cons rfl (.plain rfl) (r_loadB ag3 rfl rfl (hc 1 _ rfl) List.not_mem_nil) (.cons rfl (.plain rfl) (rl ag24 rfl rfl rfl) (.cons rfl (.plain rfl) (r_loadB ag3 rfl rfl (hc 1 _ rfl) List.not_mem_nil) (.cons rfl (.plain rfl) (rl ag24 rfl rfl rfl) .nil)))), ?_⟩
   refine D_wr (.go (E' := []) rfl (.plain rfl) (ws (cs' := [_, _]) sz23 rfl rfl rfl rfl rfl rfl rfl) rfl ?_)
   rintro _ _ ⟨rfl, rfl⟩
   refine ⟨.nil, ?_⟩
   refine D_then (kp [2, 3, 4, 5, 6, 7, 8] rfl) ?_
   refine V_seq ?_
   refine Vs rfl ?_
   refine Lm rfl rfl rfl ?_
   refine L_then (kp [2, 3, 4, 5, 7, 8, 62] rfl) ?_
   refine V_cond rfl ?_ ?_
   ·intro c6; try simp only [td] at c6
    refine V_region rfl ?_
    iterate 2 refine Lr rfl (rlA (vs := [_, _]) ag23 sz23 rfl rfl rfl) ?_
    refine Lc rfl rfl rfl rfl (fun w hg => rhull_c a.x (at1 (v.air.getD k.toNat airZ).dens) w) ?_
    refine Ls (cs' := [_, _]) rfl sz23 rfl rfl rfl rfl rfl rfl rfl ?_
    refine L_then (kp [2, 3, 4, 5, 7, 8] rfl) ?_
    refine V_region rfl ?_
    refine Lr rfl (rlA (vs := [_, _]) ag23 sz23 rfl rfl rfl) ?_
    refine Ls (cs' := [_, _]) rfl sz23 rfl rfl rfl rfl rfl rfl rfl ?_
    refine La rfl rfl rfl ?_
    refine L_keep (kp [2, 3, 4, 5, 6, 7] rfl) (blk_n (then_n ?_))
    refine V_region rfl ?_
    refine Lm rfl rfl rfl ?_
    first | refine Lp rfl (p_add' rfl rfl rfl (by unfold InI; omega)) ?_ | refine Lp rfl (p_add rfl rfl rfl) ?_
    refine La rfl rfl rfl ?_
    refine L_keep (kp [2, 3, 4, 5, 6, 7] rfl) (then_n ?_)
    refine ⟨(k + 1, true, Fl.hullA a (⟨at1 (v.air.getD k.toNat airZ).dens, Fl.spZ, Fl.spZ⟩ : Ax)), ?_, ?_, (.cons rfl (.cons rfl (.cons rfl (.cons rfl (.cons rfl (.cons rfl (.nil _))))))), (by repeat (first | exact List.nil_sublist _ | exact List.Sublist.refl _ | apply List.Sublist.cons_cons | apply List.Sublist.cons | apply List.sublist_append_of_sublist_right)), rfl⟩
    ·refine ⟨by omega, by omega, ?_⟩
     have hft : sm = true := by assumption
     rw [hft] at hs
     rw [show (k + 1).toNat = k.toNat + 1 by omega]
     have h9 := hs.more (skip_no (by rw [arFrm_at (by omega)]; omega) (by rw [arOf_len]; by_cases hkl : k.toNat + 1 < v.air.length; (rw [arFrm_at hkl, show k.toNat + 1 = (k + 1).toNat by omega]; omega); omega))
     rw [arOf_at (by omega)] at h9; exact h9
    dsimp only; omega
   intro c6; try simp only [td] at c6
   refine V_skip (then_n ?_)
   refine V_region rfl ?_
   refine Lr rfl (rlA (vs := [_, _]) ag23 sz23 rfl rfl rfl) ?_
   refine Ls (cs' := [_, _]) rfl sz23 rfl rfl rfl rfl rfl rfl rfl ?_
   refine La rfl rfl rfl ?_
   refine L_keep (kp [2, 3, 4, 5, 6, 7] rfl) (blk_n (then_n ?_))
   refine V_region rfl ?_
   refine Lm rfl rfl rfl ?_
   first | refine Lp rfl (p_add' rfl rfl rfl (by unfold InI; omega)) ?_ | refine Lp rfl (p_add rfl rfl rfl) ?_
   refine La rfl rfl rfl ?_
   refine L_keep (kp [2, 3, 4, 5, 6, 7] rfl) (then_n ?_)
   refine ⟨(k + 1, true, (⟨at1 (v.air.getD k.toNat airZ).dens, Fl.spZ, Fl.spZ⟩ : Ax)), ?_, ?_, (.cons rfl (.cons rfl (.cons rfl (.cons rfl (.cons rfl (.cons rfl (.nil _))))))), (by repeat (first | exact List.nil_sublist _ | exact List.Sublist.refl _ | apply List.Sublist.cons_cons | apply List.Sublist.cons | apply List.sublist_append_of_sublist_right)), rfl⟩
   ·refine ⟨by omega, by omega, ?_⟩
    have hft : sm = false := by assumption
    rw [hft] at hs
    rw [show (k + 1).toNat = k.toNat + 1 by omega]
    have h9 := hs.first (skip_no (by rw [arFrm_at (by omega)]; omega) (by rw [arOf_len]; by_cases hkl : k.toNat + 1 < v.air.length; (rw [arFrm_at hkl, show k.toNat + 1 = (k + 1).toNat by omega]; omega); omega))
    rw [arOf_at (by omega)] at h9; exact h9
   dsimp only; omega
  intro g4; have g4' := g4; try simp only [td] at g4'
  iterate 10 refine D_no rfl (.mk' rfl rfl rfl g4) ?_
  refine D_p rfl (.yes rfl rfl rfl rfl) (p_pick_f rfl rfl g4 rfl) ?_
  refine Dp rfl rfl (p_pick_f rfl rfl rfl rfl) ?_
  refine D_then (kp [2, 3, 4, 5, 6, 7, 48] rfl) ?_
  refine V_cond_f rfl rfl ?_
  refine V_skip (then_n ?_)
  refine V_seq (V_draw (.rd 0 (.rd 1 (.rd 2 (.rd 3 (.rd 4 (.rd 5 (.rd 6 (.rd 7 (.rd 8 (.rd 9 (.rd 10 (.rd 11 (.rd 12 (.wr 13 [12, 11, 10, 9, 8, 7, 6, 5, 4, 3, 2, 1, 0] (.wr 14 [] .done))))))))))))))) mixed (by kernel_rfl) rfl ?_)
  refine Dp rfl rfl (p_fieldo fo28_2 rfl rfl) ?_
  refine Dr rfl rfl (rl ag24 rfl rfl rfl) ?_
  refine Dm rfl rfl rfl rfl ?_
  refine Dp rfl rfl (p_idx es24 rfl rfl rfl (by omega) (by omega)) ?_
  refine Dp rfl rfl (p_field fo118_1 rfl rfl) ?_
  refine Dr rfl rfl (r_loadB ag3 rfl rfl (hc 1 _ rfl) List.not_mem_nil) ?_
  refine Dp rfl rfl (p_fieldo fo28_2 rfl rfl) ?_
  refine Dr rfl rfl (rl ag24 rfl rfl rfl) ?_
  refine Dm rfl rfl rfl rfl ?_
  refine Dp rfl rfl (p_idx es24 rfl rfl rfl (by omega) (by omega)) ?_
  refine Dp rfl rfl (p_field fo118_1 rfl rfl) ?_
  refine Dr rfl rfl (r_loadB ag3 rfl rfl (hc 1 _ rfl) List.not_mem_nil) ?_
  refine Dp rfl rfl (p_build (r := [_, _]) pl23 zr23 rfl rfl rfl) ?_
  refine D_wr (.go (E' := [(11, _), (7, _), (5, _), (1, _)]) rfl (.plain rfl) (w_alloc zr23 rfl) rfl ?_)
  rintro _ _ ⟨b5, hb5, rfl, rfl⟩
  refine ⟨(.cons rfl (.plain rfl) (r_loadB ag3 rfl rfl (hc 1 _ rfl) List.not_mem_nil) (.cons rfl (.plain rfl) (rl ag24 rfl rfl rfl) (.cons rfl (.plain rfl) (r_loadB ag3 rfl rfl (hc 1 _ rfl) List.not_mem_nil) (.cons rfl (.plain rfl) (rl ag24 rfl rfl rfl) .nil)))), ?_⟩
  refine D_wr (.go (E' := []) rfl (.plain rfl) (ws (cs' := [_, _]) sz23 rfl rfl rfl rfl rfl rfl rfl) rfl ?_)
  rintro _ _ ⟨rfl, rfl⟩
  refine ⟨.nil, ?_⟩
  refine D_then (kp [2, 3, 4, 5, 6, 7, 8] rfl) ?_
  refine V_seq ?_
  refine Vs rfl ?_
  refine Lm rfl rfl rfl ?_
  refine L_then (kp [2, 3, 4, 5, 7, 8, 62] rfl) ?_
  refine V_cond rfl ?_ ?_
  ·intro c7; try simp only [td] at c7
   refine V_region rfl ?_
   iterate 2 refine Lr rfl (rlA (vs := [_, _]) ag23 sz23 rfl rfl rfl) ?_
   refine Lc rfl rfl rfl rfl (fun w hg => rhull_c a.x (at1 (v.air.getD k.toNat airZ).dens) w) ?_
   refine Ls (cs' := [_, _]) rfl sz23 rfl rfl rfl rfl rfl rfl rfl ?_
   refine L_then (kp [2, 3, 4, 5, 7, 8] rfl) ?_
   refine V_region rfl ?_
   refine Lr rfl (rlA (vs := [_, _]) ag23 sz23 rfl rfl rfl) ?_
   refine Ls (cs' := [_, _]) rfl sz23 rfl rfl rfl rfl rfl rfl rfl ?_
   refine La rfl rfl rfl ?_
   refine L_keep (kp [2, 3, 4, 5, 6, 7] rfl) (blk_n (then_n ?_))
   refine V_region rfl ?_
   refine Lm rfl rfl rfl ?_
   first | refine Lp rfl (p_add' rfl rfl rfl (by unfold InI; omega)) ?_ | refine Lp rfl (p_add rfl rfl rfl) ?_
   refine La rfl rfl rfl ?_
   refine L_keep (kp [2, 3, 4, 5, 6, 7] rfl) (then_n ?_)
   refine ⟨(k + 1, true, Fl.hullA a (⟨at1 (v.air.getD k.toNat airZ).dens, Fl.spZ, Fl.spZ⟩ : Ax)), ?_, ?_, (.cons rfl (.cons rfl (.cons rfl (.cons rfl (.cons rfl (.cons rfl (.nil _))))))), (by repeat (first | exact List.nil_sublist _ | exact List.Sublist.refl _ | apply List.Sublist.cons_cons | apply List.Sublist.cons | apply List.sublist_append_of_sublist_right)), rfl⟩
   ·refine ⟨by omega, by omega, ?_⟩
    have hft : sm = true := by assumption
    rw [hft] at hs
    rw [show (k + 1).toNat = k.toNat + 1 by omega]
    have h9 := hs.more (skip_no (by rw [arFrm_at (by omega)]; omega) (by rw [arOf_len]; by_cases hkl : k.toNat + 1 < v.air.length; (rw [arFrm_at hkl, show k.toNat + 1 = (k + 1).toNat by omega]; omega); omega))
    rw [arOf_at (by omega)] at h9; exact h9
   dsimp only; omega
  intro c7; try simp only [td] at c7
  refine V_skip (then_n ?_)
  refine V_region rfl ?_
  refine Lr rfl (rlA (vs := [_, _]) ag23 sz23 rfl rfl rfl) ?_
  refine Ls (cs' := [_, _]) rfl sz23 rfl rfl rfl rfl rfl rfl rfl ?_
  refine La rfl rfl rfl ?_
  refine L_keep (kp [2, 3, 4, 5, 6, 7] rfl) (blk_n (then_n ?_))
  refine V_region rfl ?_
  refine Lm rfl rfl rfl ?_
  first | refine Lp rfl (p_add' rfl rfl rfl (by unfold InI; omega)) ?_ | refine Lp rfl (p_add rfl rfl rfl) ?_
  refine La rfl rfl rfl ?_
  refine L_keep (kp [2, 3, 4, 5, 6, 7] rfl) (then_n ?_)
  refine ⟨(k + 1, true, (⟨at1 (v.air.getD k.toNat airZ).dens, Fl.spZ, Fl.spZ⟩ : Ax)), ?_, ?_, (.cons rfl (.cons rfl (.cons rfl (.cons rfl (.cons rfl (.cons rfl (.nil _))))))), (by repeat (first | exact List.nil_sublist _ | exact List.Sublist.refl _ | apply List.Sublist.cons_cons | apply List.Sublist.cons | apply List.sublist_append_of_sublist_right)), rfl⟩
  ·refine ⟨by omega, by omega, ?_⟩
   have hft : sm = false := by assumption
   rw [hft] at hs
   rw [show (k + 1).toNat = k.toNat + 1 by omega]
   have h9 := hs.first (skip_no (by rw [arFrm_at (by omega)]; omega) (by rw [arOf_len]; by_cases hkl : k.toNat + 1 < v.air.length; (rw [arFrm_at hkl, show k.toNat + 1 = (k + 1).toNat by omega]; omega); omega))
   rw [arOf_at (by omega)] at h9; exact h9
  dsimp only; omega
 intro c1; try simp only [td] at c1
 have ek : k.toNat = (arOf v).length := by rw [arOf_len]; omega
 rw [ek] at hs
 have hw := hs.end
 refine V_exit (then_e (then_e (blk_e rfl (then_n ?_))))
 refine Vs rfl ?_
 refine Lr rfl (rlA (vs := [_, _]) ag23 sz23 rfl rfl rfl) ?_
 refine Ls (cs' := [_, _]) rfl sz23 rfl rfl rfl rfl rfl rfl rfl ?_
 refine L_then (kp [4] rfl) ?_
 refine V_ret ?_
 refine Leave.nil (.cellA (us := [_, _]) rfl ag23 sz23 (by repeat first | exact mH | apply mT) rfl .nil) ?_
 rw [hw]; rfl
end Go.Proofs.YtbncegfgjbdheabGreat


set_option linter.all false
namespace Go.Proofs.YtbncegfgjbdheabGreat
open Go.Vc Go.Tk Go.Fl
set_option maxRecDepth 100000
theorem fpoint_c (p : Fl.Pt) (w : World) : FnP Tryz.prog 13 [.agg #[.int .i64 p.x, .int .i64 p.y, .int .i64 p.z, .int .i64 p.vx, .int .i64 p.vy, .int .i64 p.vz]] w (.agg #[.int .i64 (Fl.ptS p).p.x.lo, .int .i64 (Fl.ptS p).p.x.hi, .int .i64 (Fl.ptS p).p.y.lo, .int .i64 (Fl.ptS p).p.y.hi, .int .i64 (Fl.ptS p).p.z.lo, .int .i64 (Fl.ptS p).p.z.hi, .int .i64 (Fl.ptS p).v.x.lo, .int .i64 (Fl.ptS p).v.x.hi, .int .i64 (Fl.ptS p).v.y.lo, .int .i64 (Fl.ptS p).v.y.hi, .int .i64 (Fl.ptS p).v.z.lo, .int .i64 (Fl.ptS p).v.z.hi]) := by
 refine fn_pure Tryz.func13 rfl (by kernel_rfl) Tryz.ntmps13 Tryz.results13 rfl ?_
 refine Vs rfl ?_
 refine Lw rfl (w_box rfl rfl) ?_
 rintro _ _ ⟨b1, hb1, rfl, rfl⟩
 refine Lw rfl (w_alloc zr58 rfl) ?_
 rintro _ _ ⟨b2, hb2, rfl, rfl⟩
 refine L_then (kp [1, 2] rfl) ?_
 refine V_seq (V_draw (.rd 0 (.rd 1 (.rd 3 (.rd 4 (.rd 6 (.rd 7 (.rd 10 (.rd 11 (.rd 13 (.rd 14 (.rd 16 (.rd 17 (.wr 2 [17, 16, 14, 13, 11, 10, 7, 6, 4, 3, 0] (.wr 5 [17, 16, 14, 13, 11, 10, 7, 6, 3, 1, 0] (.wr 8 [17, 16, 14, 13, 11, 10, 6, 4, 3, 1, 0] (.rd 9 (.wr 12 [17, 16, 14, 13, 10, 9, 7, 6, 4, 3, 1, 0] (.wr 15 [17, 16, 13, 11, 10, 9, 7, 6, 4, 3, 1, 0] (.wr 18 [16, 14, 13, 11, 10, 9, 7, 6, 4, 3, 1, 0] (.rd 19 (.rd 20 (.wr 21 [] .done)))))))))))))))))))))) mixed (by kernel_rfl) rfl ?_)
 refine Dp rfl rfl (p_fieldo fo49_0 rfl rfl) ?_
 refine Dr rfl rfl (rl ag3 rfl rfl rfl) ?_
 refine Dp rfl rfl (p_fieldo fo49_1 rfl rfl) ?_
 refine Dr rfl rfl (rl ag3 rfl rfl rfl) ?_
 refine Dp rfl rfl (p_fieldo fo49_2 rfl rfl) ?_
 refine Dr rfl rfl (rl ag3 rfl rfl rfl) ?_
 refine Dp rfl rfl (p_fieldo fo49_3 rfl rfl) ?_
 refine Dr rfl rfl (rl ag3 rfl rfl rfl) ?_
 refine Dp rfl rfl (p_fieldo fo49_4 rfl rfl) ?_
 refine Dr rfl rfl (rl ag3 rfl rfl rfl) ?_
 refine Dp rfl rfl (p_fieldo fo49_5 rfl rfl) ?_
 refine Dr rfl rfl (rl ag3 rfl rfl rfl) ?_
 refine D_wr (.go (E' := [(17, _), (14, _), (11, _), (7, _), (4, _)]) rfl (.plain rfl) (w_callP rfl rfl rfl (fun w hg => fat_c _ w)) rfl ?_)
 rintro _ _ ⟨rfl, rfl⟩
 refine ⟨(.cons rfl (.plain rfl) (rl ag3 rfl rfl rfl) (.cons rfl (.plain rfl) (rl ag3 rfl rfl rfl) (.cons rfl (.plain rfl) (rl ag3 rfl rfl rfl) (.cons rfl (.plain rfl) (rl ag3 rfl rfl rfl) (.cons rfl (.plain rfl) (rl ag3 rfl rfl rfl) .nil))))), ?_⟩
 refine D_wr (.go (E' := [(17, _), (14, _), (11, _), (7, _)]) rfl (.plain rfl) (w_callP rfl rfl rfl (fun w hg => fat_c _ w)) rfl ?_)
 rintro _ _ ⟨rfl, rfl⟩
 refine ⟨(.cons rfl (.plain rfl) (rl ag3 rfl rfl rfl) (.cons rfl (.plain rfl) (rl ag3 rfl rfl rfl) (.cons rfl (.plain rfl) (rl ag3 rfl rfl rfl) (.cons rfl (.plain rfl) (rl ag3 rfl rfl rfl) .nil)))), ?_⟩
 refine D_wr (.go (E' := [(17, _), (14, _), (11, _)]) rfl (.plain rfl) (w_callP rfl rfl rfl (fun w hg => fat_c _ w)) rfl ?_)
 rintro _ _ ⟨rfl, rfl⟩
 refine ⟨(.cons rfl (.plain rfl) (rl ag3 rfl rfl rfl) (.cons rfl (.plain rfl) (rl ag3 rfl rfl rfl) (.cons rfl (.plain rfl) (rl ag3 rfl rfl rfl) .nil))), ?_⟩
 refine Dp rfl rfl (p_buildA (r := [_, _, _, _, _, _]) ar52 zr52 rfl rfl rfl) ?_
 refine D_wr (.go (E' := [(17, _), (14, _)]) rfl (.plain rfl) (w_callP rfl rfl rfl (fun w hg => fat_c _ w)) rfl ?_)
 rintro _ _ ⟨rfl, rfl⟩
 refine ⟨(.cons rfl (.plain rfl) (rl ag3 rfl rfl rfl) (.cons rfl (.plain rfl) (rl ag3 rfl rfl rfl) .nil)), ?_⟩
 refine D_wr (.go (E' := [(17, _)]) rfl (.plain rfl) (w_callP rfl rfl rfl (fun w hg => fat_c _ w)) rfl ?_)
 rintro _ _ ⟨rfl, rfl⟩
 refine ⟨(.cons rfl (.plain rfl) (rl ag3 rfl rfl rfl) .nil), ?_⟩
 refine D_wr (.go (E' := []) rfl (.plain rfl) (w_callP rfl rfl rfl (fun w hg => fat_c _ w)) rfl ?_)
 rintro _ _ ⟨rfl, rfl⟩
 refine ⟨.nil, ?_⟩
 refine Dp rfl rfl (p_buildA (r := [_, _, _, _, _, _]) ar52 zr52 rfl rfl rfl) ?_
 refine Dp rfl rfl (p_build (r := [_, _, _, _, _, _, _, _, _, _, _, _]) pl58 zr58 rfl rfl rfl) ?_
 refine D_wr (.go (E' := []) rfl (.plain rfl) (ws (cs' := [_, _, _, _, _, _, _, _, _, _, _, _]) sz58 rfl rfl rfl rfl rfl rfl rfl) rfl ?_)
 rintro _ _ ⟨rfl, rfl⟩
 refine ⟨.nil, ?_⟩
 refine D_then (kp [2] rfl) ?_
 refine V_ret ?_
 refine Leave.nil (.cellA (us := [_, _, _, _, _, _, _, _, _, _, _, _]) rfl ag58 sz58 (by repeat first | exact mH | apply mT) rfl .nil) ?_
 rfl
theorem fstray1_c (p : Fl.Pt) (w : World) : FnP Tryz.prog 36 [.agg (Fl.Pt.cells p).toArray] w (.bool (farS (Fl.ptS p))) := by
 refine fn_pure Tryz.func36 rfl (by kernel_rfl) Tryz.ntmps36 Tryz.results36 rfl ?_
 refine Vs rfl ?_
 refine Lw rfl (w_box rfl rfl) ?_
 rintro _ _ ⟨b1, hb1, rfl, rfl⟩
 refine La rfl rfl rfl ?_
 refine L_then (kp [1] rfl) ?_
 refine Vs rfl ?_
 refine Lr rfl (rlA (vs := [_, _, _, _, _, _]) ag49 sz49 rfl rfl rfl) ?_
 refine Lc rfl rfl rfl rfl (fun w hg => fpoint_c p w) ?_
 refine Lc rfl rfl rfl rfl (fun w hg => ffar_c (Fl.ptS p) w) ?_
 refine La rfl rfl rfl ?_
 refine L_then (kp [2] rfl) ?_
 refine V_ret ?_
 refine Leave.nil (.tmp rfl .nil) ?_
 rfl
theorem fstray_c (l : List Fl.Pt) (x : Value) (w : World) (hl : PtsR w x l) : FnP Tryz.prog 10 [x] w (.int .i64 (strayE l)) := by
 have hL := hl
 obtain ⟨pa, pc, rfl, hpc, hpe⟩ := hl.sl.ex
 simp only [List.length_map] at hL hpc hl ⊢
 refine fn_pure Tryz.func10 rfl (by kernel_rfl) Tryz.ntmps10 Tryz.results10 rfl ?_
 refine Vs rfl ?_
 refine La rfl rfl rfl ?_
 refine L_then (kp [0] rfl) ?_
 refine V_seq ?_
 refine V_block ?_
 refine Vs rfl ?_
 refine Lm rfl rfl rfl ?_
 refine Lp rfl (p_len isl34 rfl rfl) ?_
 refine Lc rfl rfl rfl rfl (fun w hg => fout_c _ _ _ w) ?_
 refine La rfl rfl rfl ?_
 refine L_then (kp [0, 3] rfl) ?_
 refine V_cond rfl ?_ ?_
 ·intro c1; try simp only [td] at c1
  refine Vs rfl ?_
  refine La rfl rfl rfl ?_
  refine L_then (kp [2] rfl) ?_
  refine V_ret (blk_r (then_r ?_))
  refine Leave.nil (.tmp rfl .nil) ?_
  first | (unfold strayE; rw [if_pos (by assumption)]; rfl) | (unfold strayE; rw [if_neg (by simp_all), if_pos (by assumption)]; rfl) | (unfold strayE; rw [if_neg (by simp_all), if_neg (by simp_all)]; rfl)
 intro c1; try simp only [td] at c1
 refine Vs rfl ?_
 refine Lm rfl rfl rfl ?_
 refine Lc rfl rfl rfl rfl (fun w hg => contPt_c l _ _ _ (fun p => farS (Fl.ptS p)) w (hl.good hg).sl (by have := oP_false.1 (show oP l.length 1 3001 = false by assumption); omega) (fun j hj w' he => fstray1_c _ w')) ?_
 refine La rfl rfl rfl ?_
 refine L_then (kp [7] rfl) ?_
 refine V_cond rfl ?_ ?_
 ·intro c2; try simp only [td] at c2
  refine Vs rfl ?_
  refine La rfl rfl rfl ?_
  refine L_then (kp [2] rfl) ?_
  refine V_ret (blk_r (then_r ?_))
  refine Leave.nil (.tmp rfl .nil) ?_
  first | (unfold strayE; rw [if_pos (by assumption)]; rfl) | (unfold strayE; rw [if_neg (by simp_all), if_pos (by assumption)]; rfl) | (unfold strayE; rw [if_neg (by simp_all), if_neg (by simp_all)]; rfl)
 intro c2; try simp only [td] at c2
 refine V_skip (blk_n (then_n ?_))
 refine Vs rfl ?_
 refine La rfl rfl rfl ?_
 refine L_then (kp [2] rfl) ?_
 refine V_ret ?_
 refine Leave.nil (.tmp rfl .nil) ?_
 first | (unfold strayE; rw [if_pos (by assumption)]; rfl) | (unfold strayE; rw [if_neg (by simp_all), if_pos (by assumption)]; rfl) | (unfold strayE; rw [if_neg (by simp_all), if_neg (by simp_all)]; rfl)
theorem fdown1_c (y : Fl.Pt) (h : Int) (b ty : Nat) (fr : Nat × Nat) (w : World) (hb : w.heap[b]? = some (.cells #[.int .i64 h] ty fr)) : FnP Tryz.prog 21 [.agg (Fl.Pt.cells y).toArray, .pointer (some ⟨b, 0, none⟩)] w (.bool (decide (y.z ≤ h))) := by
 refine fn_pure Tryz.func21 rfl (by kernel_rfl) Tryz.ntmps21 Tryz.results21 rfl ?_
 refine Vs rfl ?_
 refine Lw rfl (w_box rfl rfl) ?_
 rintro _ _ ⟨b1, hb1, rfl, rfl⟩
 refine La rfl rfl rfl ?_
 refine L_then (kp [1, 2] rfl) ?_
 refine Vs rfl ?_
 refine Lp rfl (p_fieldo fo49_2 rfl rfl) ?_
 refine Lr rfl (rl ag3 rfl rfl rfl) ?_
 refine Lr rfl (r_loadB ag3 rfl rfl (own_cell hb _) List.not_mem_nil) ?_
 refine Lp rfl (p_leq rfl rfl rfl) ?_
 refine La rfl rfl rfl ?_
 refine L_then (kp [3] rfl) ?_
 refine V_ret ?_
 refine Leave.nil (.tmp rfl .nil) ?_
 rfl
set_option maxHeartbeats 4000000 in
theorem fDown_c (l : List Fl.Pt) (floor : Int) (x : Value) (w : World) (hl : PtsR w x l) : FnP Tryz.prog 6 [x, .int .i64 floor] w (.tuple #[.agg #[.int .i64 (Fl.downP l floor).1, .int .i64 (Fl.downP l floor).2.1], .int .i64 (Fl.downP l floor).2.2, .int .i64 (Fl.downE l floor)]) := by
 have hL := hl
 obtain ⟨pa, pc, rfl, hpc, hpe⟩ := hl.sl.ex
 simp only [List.length_map] at hL hpc hl ⊢
 refine fn_pure Tryz.func6 rfl (by kernel_rfl) Tryz.ntmps6 Tryz.results6 rfl ?_
 refine Vs rfl ?_
 refine Lw rfl (w_box rfl rfl) ?_
 rintro _ _ ⟨b1, hb1, rfl, rfl⟩
 refine Lw rfl (w_alloc zr39 rfl) ?_
 rintro _ _ ⟨b2, hb2, rfl, rfl⟩
 iterate 2 refine La rfl rfl rfl ?_
 refine L_then (kp [0, 3, 4] rfl) ?_
 refine Vs rfl ?_
 refine Lm rfl rfl rfl ?_
 refine Lc rfl rfl rfl rfl (fun w hg => fstray_c l _ w (hL.good hg)) ?_
 refine La rfl rfl rfl ?_
 refine L_then (kp [0, 3, 4, 7] rfl) ?_
 refine V_seq ?_
 refine V_block ?_
 refine Vs rfl ?_
 refine Lm rfl rfl rfl ?_
 refine Lp rfl (p_neq rfl rfl rfl) ?_
 refine La rfl rfl rfl ?_
 refine L_then (kp [0, 3, 4, 7, 11] rfl) ?_
 refine V_cond rfl ?_ ?_
 ·intro c1; try simp only [td] at c1
  refine Vs rfl ?_
  refine Lp rfl (p_build (r := [_, _]) pl39 zr39 rfl rfl rfl) ?_
  refine Lm rfl rfl rfl ?_
  refine Ls (cs' := [_, _]) rfl sz39 rfl rfl rfl rfl rfl rfl rfl ?_
  iterate 2 refine La rfl rfl rfl ?_
  refine L_then (kp [4, 5, 6] rfl) ?_
  refine V_ret (blk_r (then_r ?_))
  refine Leave.nil (.cellA (us := [_, _]) rfl ag39 sz39 (by repeat first | exact mH | apply mT) rfl (.tmp rfl (.tmp rfl .nil))) ?_
  first | (exfalso; omega) | (rw [downP_1 (by rw [downE_1 (by assumption)]; assumption), downE_1 (by assumption)]; rfl) | (rw [downP_1 (by rw [downE_7 (by omega) (by assumption)]; decide), downE_7 (by omega) (by assumption)]; rfl) | (rw [downP_1 (by rw [downE_9 (by omega) (by assumption) (by omega)]; decide), downE_9 (by omega) (by assumption) (by omega)]; rfl) | (rw [downP_0 (downE_0 (by omega) (by assumption) (by omega)), downE_0 (by omega) (by assumption) (by omega)]; rfl)
 intro c1; try simp only [td] at c1
 obtain ⟨hl1, hl2⟩ := stray_0 (l := l) (by omega)
 refine Vs rfl ?_
 refine Lr rfl (rl ag3 rfl rfl rfl) ?_
 refine Lc rfl rfl rfl rfl (fun w hg => fout_c _ _ _ w) ?_
 refine La rfl rfl rfl ?_
 refine L_then (kp [0, 3, 4, 16] rfl) ?_
 refine V_cond rfl ?_ ?_
 ·intro c2; try simp only [td] at c2
  refine Vs rfl ?_
  refine Lp rfl (p_build (r := [_, _]) pl39 zr39 rfl rfl rfl) ?_
  refine Ls (cs' := [_, _]) rfl sz39 rfl rfl rfl rfl rfl rfl rfl ?_
  iterate 2 refine La rfl rfl rfl ?_
  refine L_then (kp [4, 5, 6] rfl) ?_
  refine V_ret (blk_r (then_r ?_))
  refine Leave.nil (.cellA (us := [_, _]) rfl ag39 sz39 (by repeat first | exact mH | apply mT) rfl (.tmp rfl (.tmp rfl .nil))) ?_
  first | (exfalso; omega) | (rw [downP_1 (by rw [downE_1 (by assumption)]; assumption), downE_1 (by assumption)]; rfl) | (rw [downP_1 (by rw [downE_7 (by omega) (by assumption)]; decide), downE_7 (by omega) (by assumption)]; rfl) | (rw [downP_1 (by rw [downE_9 (by omega) (by assumption) (by omega)]; decide), downE_9 (by omega) (by assumption) (by omega)]; rfl) | (rw [downP_0 (downE_0 (by omega) (by assumption) (by omega)), downE_0 (by omega) (by assumption) (by omega)]; rfl)
 intro c2; try simp only [td] at c2
 refine V_skip (blk_n (then_n ?_))
 refine Vs rfl ?_
 refine Lm rfl rfl rfl ?_
 refine Lp rfl (p_slFrom es34 rfl rfl rfl (by omega) (by omega) (by omega)) ?_
 refine Lp rfl (p_func rfl rfl rfl) ?_
 refine Lc rfl rfl rfl rfl (fun w hg => (show FnP Tryz.prog _ _ w (.int .i64 (Fl.downI l floor)) from by have h9 := idxPt_c (l.drop 1) _ _ _ (fun p => decide (p.z ≤ floor)) w ((hl.sl.dropM (k := 1) (by omega)).good hg) (by rw [List.length_drop]; omega) (fun j hj w' he => fdown1_c _ _ _ _ _ w' (he.heap (hg.own (b1, _) (by repeat first | exact mH | apply mT)))); rwa [downI_is] at h9)) ?_
 refine La rfl rfl rfl ?_
 refine L_then (kp [0, 4, 8] rfl) ?_
 refine V_seq ?_
 refine Vs rfl ?_
 refine Lm rfl rfl rfl ?_
 refine Lp rfl (p_lss rfl rfl rfl) ?_
 refine L_then (kp [0, 4, 8, 25] rfl) ?_
 refine V_cond rfl ?_ ?_
 ·intro c3; try simp only [td] at c3
  refine Vs rfl ?_
  refine Lp rfl (p_build (r := [_, _]) pl39 zr39 rfl rfl rfl) ?_
  refine Ls (cs' := [_, _]) rfl sz39 rfl rfl rfl rfl rfl rfl rfl ?_
  iterate 2 refine La rfl rfl rfl ?_
  refine L_then (kp [4, 5, 6] rfl) ?_
  refine V_ret (then_r ?_)
  refine Leave.nil (.cellA (us := [_, _]) rfl ag39 sz39 (by repeat first | exact mH | apply mT) rfl (.tmp rfl (.tmp rfl .nil))) ?_
  first | (exfalso; omega) | (rw [downP_1 (by rw [downE_1 (by assumption)]; assumption), downE_1 (by assumption)]; rfl) | (rw [downP_1 (by rw [downE_7 (by omega) (by assumption)]; decide), downE_7 (by omega) (by assumption)]; rfl) | (rw [downP_1 (by rw [downE_9 (by omega) (by assumption) (by omega)]; decide), downE_9 (by omega) (by assumption) (by omega)]; rfl) | (rw [downP_0 (downE_0 (by omega) (by assumption) (by omega)), downE_0 (by omega) (by assumption) (by omega)]; rfl)
 intro c3; try simp only [td] at c3
 obtain ⟨hk1, hk2⟩ := downI_lt (l := l) (floor := floor) (by omega)
 obtain ⟨tb, etb, hc⟩ := hpe ((Fl.downI l floor) + 1).toNat _ (getD_cells (d := ptZ) (by omega))
 subst etb
 refine V_skip (then_n ?_)
 refine V_seq (V_draw (.rd 0 (.rd 1 (.rd 2 (.rd 3 (.rd 4 (.rd 5 (.rd 6 (.rd 7 (.rd 8 (.rd 9 (.rd 10 (.rd 11 (.rd 12 (.rd 13 (.rd 14 (.wr 15 [14, 13] (.rd 16 (.rd 17 .done)))))))))))))))))) mixed (by kernel_rfl) rfl ?_)
 iterate 2 refine Dm rfl rfl rfl rfl ?_
 first | refine Dp rfl rfl (p_add' rfl rfl rfl (by unfold InI; omega)) ?_ | refine Dp rfl rfl (p_add rfl rfl rfl) ?_
 refine Dp rfl rfl (p_idx es34 rfl rfl rfl (by omega) (by omega)) ?_
 refine Dp rfl rfl (p_field fo49_0 rfl rfl) ?_
 refine Dr rfl rfl (r_loadB ag3 rfl rfl (hc 0 _ rfl) List.not_mem_nil) ?_
 iterate 2 refine Dm rfl rfl rfl rfl ?_
 first | refine Dp rfl rfl (p_add' rfl rfl rfl (by unfold InI; omega)) ?_ | refine Dp rfl rfl (p_add rfl rfl rfl) ?_
 refine Dp rfl rfl (p_idx es34 rfl rfl rfl (by omega) (by omega)) ?_
 refine Dp rfl rfl (p_field fo49_1 rfl rfl) ?_
 refine Dr rfl rfl (r_loadB ag3 rfl rfl (hc 1 _ rfl) List.not_mem_nil) ?_
 refine Dp rfl rfl (p_build (r := [_, _]) pl39 zr39 rfl rfl rfl) ?_
 refine Dm rfl rfl rfl rfl ?_
 first | refine Dp rfl rfl (p_add' rfl rfl rfl (by unfold InI; omega)) ?_ | refine Dp rfl rfl (p_add rfl rfl rfl) ?_
 refine D_wr (.go (E' := []) rfl (.plain rfl) (ws (cs' := [_, _]) sz39 rfl rfl rfl rfl rfl rfl rfl) rfl ?_)
 rintro _ _ ⟨rfl, rfl⟩
 refine ⟨.nil, ?_⟩
 iterate 2 refine Dp rfl rfl (p_assign rfl rfl) ?_
 refine D_then (kp [4, 5, 6] rfl) ?_
 refine V_ret ?_
 refine Leave.nil (.cellA (us := [_, _]) rfl ag39 sz39 (by repeat first | exact mH | apply mT) rfl (.tmp rfl (.tmp rfl .nil))) ?_
 first | (exfalso; omega) | (rw [downP_1 (by rw [downE_1 (by assumption)]; assumption), downE_1 (by assumption)]; rfl) | (rw [downP_1 (by rw [downE_7 (by omega) (by assumption)]; decide), downE_7 (by omega) (by assumption)]; rfl) | (rw [downP_1 (by rw [downE_9 (by omega) (by assumption) (by omega)]; decide), downE_9 (by omega) (by assumption) (by omega)]; rfl) | (rw [downP_0 (downE_0 (by omega) (by assumption) (by omega)), downE_0 (by omega) (by assumption) (by omega)]; rfl)
end Go.Proofs.YtbncegfgjbdheabGreat


set_option linter.all false
namespace Go.Proofs.YtbncegfgjbdheabGreat
open Go.Vc Go.Tk Go.Fl
set_option maxRecDepth 100000
theorem fOwnE_c (v : Veh) (d : Dir) (l : List Fl.Band) (av pv qv bv : Value) (w : World) (hv : VehR w (VehV v av pv qv) v) (hl : BdsR w bv l) (q : List Fl.Pt) (x : Value) (hq : PtsR w x q) (h : askedF v d l ≠ 0) : FnP Tryz.prog 4 [VehV v av pv qv, .agg #[.int .i64 d.x, .int .i64 d.y, .int .i64 d.z], bv, x] w (.tuple #[.int .i64 (ownI v d l q), .int .i64 (ownE v d l q)]) := by
 refine fn_pure Tryz.func4 rfl (by kernel_rfl) Tryz.ntmps4 Tryz.results4 rfl ?_
 refine Vs rfl ?_
 refine Lw rfl (w_box rfl rfl) ?_
 rintro _ _ ⟨b1, hb1, rfl, rfl⟩
 refine Lw rfl (w_box rfl rfl) ?_
 rintro _ _ ⟨b2, hb2, rfl, rfl⟩
 iterate 2 refine La rfl rfl rfl ?_
 refine L_then (kp [2, 3, 4, 5] rfl) ?_
 refine Vs rfl ?_
 refine Lr rfl (rlA (vs := [_, _, _, _, _, _]) ag28 sz28 rfl rfl rfl) ?_
 refine Lr rfl (rlA (vs := [_, _, _]) ag30 sz30 rfl rfl rfl) ?_
 refine Lm rfl rfl rfl ?_
 refine Lc rfl rfl rfl rfl (fun w hg => fbeginE_c v d l av pv qv _ w (hv.good hg) (hl.good hg) h) ?_
 refine Lm rfl rfl rfl ?_
 iterate 2 refine Lp rfl (p_ext rfl rfl rfl) ?_
 iterate 2 refine La rfl rfl rfl ?_
 refine L_then (kp [3, 10, 11] rfl) ?_
 refine V_seq ?_
 refine Vs rfl ?_
 refine Lm rfl rfl rfl ?_
 refine Lp rfl (p_eql rfl rfl rfl) ?_
 refine L_then (kp [3, 10, 11, 24] rfl) ?_
 refine V_cond_f rfl (decide_eq_false h) ?_
 refine V_skip (then_n ?_)
 refine V_seq ?_
 refine Vs rfl ?_
 refine Lm rfl rfl rfl ?_
 refine Lp rfl (p_neq rfl rfl rfl) ?_
 refine L_then (kp [3, 10, 11, 28] rfl) ?_
 refine V_cond_t rfl (decide_eq_true h) ?_
 refine Vs rfl ?_
 refine Lm rfl rfl rfl ?_
 iterate 2 refine La rfl rfl rfl ?_
 refine L_then (kp [8, 9] rfl) ?_
 refine V_ret (then_r ?_)
 refine Leave.nil (.tmp rfl (.tmp rfl .nil)) ?_
 rw [own_bad (by rw [ownE_1 h]; exact h), ownE_1 h]; rfl
theorem fOwnB_c (v : Veh) (d : Dir) (l : List Fl.Band) (av pv qv bv : Value) (w : World) (hv : VehR w (VehV v av pv qv) v) (hl : BdsR w bv l) (q : List Fl.Pt) (x : Value) (hq : PtsR w x q) (h : askedF v d l = 0) (hs : strayE q ≠ 0) : FnP Tryz.prog 4 [VehV v av pv qv, .agg #[.int .i64 d.x, .int .i64 d.y, .int .i64 d.z], bv, x] w (.tuple #[.int .i64 (ownI v d l q), .int .i64 (ownE v d l q)]) := by
 have hL := hl
 obtain ⟨ba, bc, rfl, hbc, hbe⟩ := hl.sl.ex
 simp only [List.length_map] at hL ⊢
 have hQ := hq
 obtain ⟨pa, pc, rfl, hpc, hpe⟩ := hq.sl.ex
 simp only [List.length_map] at hQ hpc hq ⊢
 refine fn_pure Tryz.func4 rfl (by kernel_rfl) Tryz.ntmps4 Tryz.results4 rfl ?_
 refine Vs rfl ?_
 refine Lw rfl (w_box rfl rfl) ?_
 rintro _ _ ⟨b1, hb1, rfl, rfl⟩
 refine Lw rfl (w_box rfl rfl) ?_
 rintro _ _ ⟨b2, hb2, rfl, rfl⟩
 iterate 2 refine La rfl rfl rfl ?_
 refine L_then (kp [2, 3, 4, 5] rfl) ?_
 refine Vs rfl ?_
 refine Lr rfl (rlA (vs := [_, _, _, _, _, _]) ag28 sz28 rfl rfl rfl) ?_
 refine Lr rfl (rlA (vs := [_, _, _]) ag30 sz30 rfl rfl rfl) ?_
 refine Lm rfl rfl rfl ?_
 refine Lw rfl (w_callN rfl rfl rfl (fun w hg => fbegin_c v d l av pv qv _ w (hv.good hg) (hL.good hg) h)) ?_
 rintro _ _ ⟨_, rfl, _, xf, rfl, rfl⟩
 refine Lm rfl rfl rfl ?_
 iterate 2 refine Lp rfl (p_ext rfl rfl rfl) ?_
 iterate 2 refine La rfl rfl rfl ?_
 refine L_then (kp [3, 10, 11] rfl) ?_
 refine V_seq ?_
 refine Vs rfl ?_
 refine Lm rfl rfl rfl ?_
 refine Lp rfl (p_eql rfl rfl rfl) ?_
 refine L_then (kp [3, 10, 11, 24] rfl) ?_
 refine V_cond_t rfl rfl ?_
 refine V_region rfl ?_
 refine Lm rfl rfl rfl ?_
 refine Lc rfl rfl rfl rfl (fun w hg => fstray_c q _ w (hQ.good hg)) ?_
 refine La rfl rfl rfl ?_
 refine L_then (kp [3, 10, 11] rfl) ?_
 refine V_seq ?_
 refine Vs rfl ?_
 refine Lm rfl rfl rfl ?_
 refine Lp rfl (p_neq rfl rfl rfl) ?_
 refine L_then (kp [3, 10, 11, 28] rfl) ?_
 refine V_cond_t rfl (decide_eq_true hs) ?_
 refine Vs rfl ?_
 refine Lm rfl rfl rfl ?_
 iterate 2 refine La rfl rfl rfl ?_
 refine L_then (kp [8, 9] rfl) ?_
 refine V_ret (then_r ?_)
 refine Leave.nil (.tmp rfl (.tmp rfl .nil)) ?_
 rw [own_bad (by rw [ownE_2 h]; exact hs), ownE_2 h]; rfl
theorem fOwnC_c (v : Veh) (d : Dir) (l : List Fl.Band) (av pv qv bv : Value) (w : World) (hv : VehR w (VehV v av pv qv) v) (hl : BdsR w bv l) (q : List Fl.Pt) (x : Value) (hq : PtsR w x q) (h : askedF v d l = 0) (hs : strayE q = 0) (hz : ptAt q 0 ≠ ptZ) : FnP Tryz.prog 4 [VehV v av pv qv, .agg #[.int .i64 d.x, .int .i64 d.y, .int .i64 d.z], bv, x] w (.tuple #[.int .i64 (ownI v d l q), .int .i64 (ownE v d l q)]) := by
 have hL := hl
 obtain ⟨ba, bc, rfl, hbc, hbe⟩ := hl.sl.ex
 simp only [List.length_map] at hL ⊢
 have hQ := hq
 obtain ⟨pa, pc, rfl, hpc, hpe⟩ := hq.sl.ex
 simp only [List.length_map] at hQ hpc hq ⊢
 obtain ⟨⟨hl1, hl2⟩, hfar⟩ := stray_0 hs
 obtain ⟨tb0, etb0, hc0⟩ := hpe 0 _ (getD_cells (d := ptZ) (by omega))
 have he0 : ownE v d l q = 0 := (ownE_2 h).trans hs
 subst etb0
 refine fn_pure Tryz.func4 rfl (by kernel_rfl) Tryz.ntmps4 Tryz.results4 rfl ?_
 refine Vs rfl ?_
 refine Lw rfl (w_box rfl rfl) ?_
 rintro _ _ ⟨b1, hb1, rfl, rfl⟩
 refine Lw rfl (w_box rfl rfl) ?_
 rintro _ _ ⟨b2, hb2, rfl, rfl⟩
 iterate 2 refine La rfl rfl rfl ?_
 refine L_then (kp [2, 3, 4, 5] rfl) ?_
 refine Vs rfl ?_
 refine Lr rfl (rlA (vs := [_, _, _, _, _, _]) ag28 sz28 rfl rfl rfl) ?_
 refine Lr rfl (rlA (vs := [_, _, _]) ag30 sz30 rfl rfl rfl) ?_
 refine Lm rfl rfl rfl ?_
 refine Lw rfl (w_callN rfl rfl rfl (fun w hg => fbegin_c v d l av pv qv _ w (hv.good hg) (hL.good hg) h)) ?_
 rintro _ _ ⟨_, rfl, _, xf, rfl, rfl⟩
 refine Lm rfl rfl rfl ?_
 iterate 2 refine Lp rfl (p_ext rfl rfl rfl) ?_
 iterate 2 refine La rfl rfl rfl ?_
 refine L_then (kp [3, 10, 11] rfl) ?_
 refine V_seq ?_
 refine Vs rfl ?_
 refine Lm rfl rfl rfl ?_
 refine Lp rfl (p_eql rfl rfl rfl) ?_
 refine L_then (kp [3, 10, 11, 24] rfl) ?_
 refine V_cond_t rfl rfl ?_
 refine V_region rfl ?_
 refine Lm rfl rfl rfl ?_
 refine Lc rfl rfl rfl rfl (fun w hg => fstray_c q _ w (hQ.good hg)) ?_
 refine La rfl rfl rfl ?_
 refine L_then (kp [3, 10, 11] rfl) ?_
 refine V_seq ?_
 refine Vs rfl ?_
 refine Lm rfl rfl rfl ?_
 refine Lp rfl (p_neq rfl rfl rfl) ?_
 refine L_then (kp [3, 10, 11, 28] rfl) ?_
 refine V_cond_f rfl (decide_eq_false (fun k => k hs)) ?_
 refine V_skip (then_n ?_)
 refine V_seq ?_
 refine Vs rfl ?_
 refine Lm rfl rfl rfl ?_
 refine Lp rfl (p_idx es34 rfl rfl rfl (by omega) (by omega)) ?_
 refine Lr rfl (r_loadBA ag49 sz49 rfl rfl hc0 rfl List.not_mem_nil) ?_
 refine Lp rfl (p_build (r := [_, _, _, _, _, _]) pl49 zr49 rfl rfl rfl) ?_
 refine Lp rfl (p_neS lv49 ag49 eg49 rfl rfl rfl rfl rfl) ?_
 refine L_then (kp [3, 10, 34] rfl) ?_
 refine V_cond_t rfl (pt_ne1 hz) ?_
 refine Vs rfl ?_
 iterate 2 refine La rfl rfl rfl ?_
 refine L_then (kp [8, 9] rfl) ?_
 refine V_ret (then_r ?_)
 refine Leave.nil (.tmp rfl (.tmp rfl .nil)) ?_
 rw [own_start he0 hz, he0]; rfl
set_option maxHeartbeats 8000000 in
theorem fOwnD_c (v : Veh) (d : Dir) (l : List Fl.Band) (av pv qv bv : Value) (w : World) (hv : VehR w (VehV v av pv qv) v) (hl : BdsR w bv l) (q : List Fl.Pt) (x : Value) (hq : PtsR w x q) (h : askedF v d l = 0) (hs : strayE q = 0) (hz : ptAt q 0 = ptZ) : FnP Tryz.prog 4 [VehV v av pv qv, .agg #[.int .i64 d.x, .int .i64 d.y, .int .i64 d.z], bv, x] w (.tuple #[.int .i64 (ownI v d l q), .int .i64 (ownE v d l q)]) := by
 have hL := hl
 obtain ⟨ba, bc, rfl, hbc, hbe⟩ := hl.sl.ex
 simp only [List.length_map] at hL ⊢
 have hQ := hq
 obtain ⟨pa, pc, rfl, hpc, hpe⟩ := hq.sl.ex
 simp only [List.length_map] at hQ hpc hq ⊢
 obtain ⟨⟨hl1, hl2⟩, hfar⟩ := stray_0 hs
 obtain ⟨tb0, etb0, hc0⟩ := hpe 0 _ (getD_cells (d := ptZ) (by omega))
 have he0 : ownE v d l q = 0 := (ownE_2 h).trans hs
 subst etb0
 obtain ⟨hGV, hdd, hGB⟩ := asked_good h
 obtain ⟨sa, hsa⟩ : ∃ sa, (if pc = Int.toNat 1 then some tb0 else (some tb0).map (·.add (Int.toNat 1 * 6))) = sa := ⟨_, rfl⟩
 have hS1 : SliceR w 6 (.slice sa (q.length - 1) (pc - 1)) ((q.drop 1).map Fl.Pt.cells) := by rw [← hsa]; exact hq.sl.dropM (k := 1) (by omega)
 refine fn_pure Tryz.func4 rfl (by kernel_rfl) Tryz.ntmps4 Tryz.results4 rfl ?_
 refine Vs rfl ?_
 refine Lw rfl (w_box rfl rfl) ?_
 rintro _ _ ⟨b1, hb1, rfl, rfl⟩
 refine Lw rfl (w_box rfl rfl) ?_
 rintro _ _ ⟨b2, hb2, rfl, rfl⟩
 iterate 2 refine La rfl rfl rfl ?_
 refine L_then (kp [2, 3, 4, 5] rfl) ?_
 refine Vs rfl ?_
 refine Lr rfl (rlA (vs := [_, _, _, _, _, _]) ag28 sz28 rfl rfl rfl) ?_
 refine Lr rfl (rlA (vs := [_, _, _]) ag30 sz30 rfl rfl rfl) ?_
 refine Lm rfl rfl rfl ?_
 refine Lw rfl (w_callN rfl rfl rfl (fun w hg => fbegin_c v d l av pv qv _ w (hv.good hg) (hL.good hg) h)) ?_
 rintro _ _ ⟨_, rfl, _, xf, rfl, rfl⟩
 refine Lm rfl rfl rfl ?_
 iterate 2 refine Lp rfl (p_ext rfl rfl rfl) ?_
 iterate 2 refine La rfl rfl rfl ?_
 refine L_then (kp [3, 10, 11] rfl) ?_
 refine V_seq ?_
 refine Vs rfl ?_
 refine Lm rfl rfl rfl ?_
 refine Lp rfl (p_eql rfl rfl rfl) ?_
 refine L_then (kp [3, 10, 11, 24] rfl) ?_
 refine V_cond_t rfl rfl ?_
 refine V_region rfl ?_
 refine Lm rfl rfl rfl ?_
 refine Lc rfl rfl rfl rfl (fun w hg => fstray_c q _ w (hQ.good hg)) ?_
 refine La rfl rfl rfl ?_
 refine L_then (kp [3, 10, 11] rfl) ?_
 refine V_seq ?_
 refine Vs rfl ?_
 refine Lm rfl rfl rfl ?_
 refine Lp rfl (p_neq rfl rfl rfl) ?_
 refine L_then (kp [3, 10, 11, 28] rfl) ?_
 refine V_cond_f rfl (decide_eq_false (fun k => k hs)) ?_
 refine V_skip (then_n ?_)
 refine V_seq ?_
 refine Vs rfl ?_
 refine Lm rfl rfl rfl ?_
 refine Lp rfl (p_idx es34 rfl rfl rfl (by omega) (by omega)) ?_
 refine Lr rfl (r_loadBA ag49 sz49 rfl rfl hc0 rfl List.not_mem_nil) ?_
 refine Lp rfl (p_build (r := [_, _, _, _, _, _]) pl49 zr49 rfl rfl rfl) ?_
 refine Lp rfl (p_neS lv49 ag49 eg49 rfl rfl rfl rfl rfl) ?_
 refine L_then (kp [3, 10, 34] rfl) ?_
 refine V_cond_f rfl (pt_ne0 hz) ?_
 refine V_skip (then_n ?_)
 refine V_seq ?_
 refine Vs rfl ?_
 refine Lm rfl rfl rfl ?_
 refine Lp rfl (show RdP _ _ _ (.slice sa (q.length - 1) (pc - 1)) from by rw [← hsa]; exact p_slFrom (k := 1) es34 rfl rfl rfl (by omega) (by omega) (by omega)) ?_
 refine Lp rfl (p_len isl34 rfl rfl) ?_
 refine Lm rfl rfl rfl ?_
 refine L_then (kp [3, 10, 36, 37, 38] rfl) ?_
 refine V_block ?_
 refine V_loop0 (γ := Nat) (kp [3, 10, 36, 37] rfl) (fun k => [(38, .int .i64 (k : Int))]) (fun k => k + 1 ≤ q.length ∧ ∀ j, j < k → stepB v d l q j = true) (fun k => q.length - k) (0) (.cons rfl (.nil _)) (⟨by omega, fun j hj => absurd hj (Nat.not_lt_zero _)⟩) ?_
 rintro k hi
 obtain ⟨hk1, hall⟩ := hi
 refine Vs rfl ?_
 refine Lp rfl (p_lss rfl rfl rfl) ?_
 refine L_then (kp [3, 10, 36, 37, 38, 39] rfl) ?_
 refine V_seq ?_
 refine V_cond rfl ?_ ?_
 ·intro c1; try simp only [td] at c1
  obtain ⟨tb1, etb1, hc1⟩ := sl_at hS1 (drop_at (l := q) (k := k) (by omega))
  subst etb1
  obtain ⟨tb, etb, hc9⟩ := hpe k _ (getD_cells (d := ptZ) (by omega))
  injection etb with etb
  subst etb
  have hc : cellsAt w (tb0.add (k * 6)) (Fl.Pt.cells (ptAt q k)) := hc9
  obtain ⟨⟨⟨p1, _, p2⟩, ⟨p3, _, p4⟩, ⟨p5, _, p6⟩⟩, ⟨p7, _, p8⟩, ⟨p9, _, p10⟩, ⟨p11, _, p12⟩⟩ := far_false.1 (hfar k (by omega))
  obtain ⟨⟨⟨q1, _, q2⟩, ⟨q3, _, q4⟩, ⟨q5, _, q6⟩⟩, ⟨q7, _, q8⟩, ⟨q9, _, q10⟩, ⟨q11, _, q12⟩⟩ := far_false.1 (hfar (k + 1) (by omega))
  simp only [Fl.ptS, at1] at p1 p2 p3 p4 p5 p6 p7 p8 p9 p10 p11 p12 q1 q2 q3 q4 q5 q6 q7 q8 q9 q10 q11 q12
  refine V_skip (then_n ?_)
  refine V_seq ?_
  refine V_block ?_
  refine Vs rfl ?_
  refine Lm rfl rfl rfl ?_
  refine Lp rfl (p_idx es34 rfl rfl rfl (by omega) (by omega)) ?_
  refine Lr rfl (r_loadBA ag49 sz49 rfl rfl hc1 rfl List.not_mem_nil) ?_
  refine Lw rfl (w_alloc zr49 rfl) ?_
  rintro _ _ ⟨b4, hb4, rfl, rfl⟩
  refine La rfl rfl rfl ?_
  refine Ls (cs' := [_, _, _, _, _, _]) rfl sz49 rfl rfl rfl rfl rfl rfl rfl ?_
  refine L_then (kp [3, 10, 12, 13, 36, 37, 38] rfl) ?_
  refine Vs rfl ?_
  iterate 2 refine Lm rfl rfl rfl ?_
  refine Lp rfl (p_idx es34 rfl rfl rfl (by omega) (by omega)) ?_
  refine Lr rfl (r_loadBA ag49 sz49 rfl rfl hc rfl List.not_mem_nil) ?_
  refine Lw rfl (w_alloc zr49 rfl) ?_
  rintro _ _ ⟨b5, hb5, rfl, rfl⟩
  refine Ls (cs' := [_, _, _, _, _, _]) rfl sz49 rfl rfl rfl rfl rfl rfl rfl ?_
  refine L_then (kp [3, 10, 12, 13, 14, 36, 37, 38] rfl) ?_
  refine V_seq (V_draw (.rd 0 (.rd 1 (.rd 2 (.rd 4 (.wr2 3 [4, 0] (.wr2 5 [2, 1, 0] (.wr2 6 [4, 2, 1] (.wr 7 [4, 2, 1, 0] (.wr 8 [] .done)) 7 [4, 2, 1, 0] (.wr 6 [4, 2, 1] (.wr 8 [] .done))) 7 [4, 2, 1, 0] (.wr 5 [2, 1, 0] (.wr 6 [4, 2, 1] (.wr 8 [] .done)))) 7 [4, 2, 1, 0] (.wr 3 [4, 0] (.wr 5 [2, 1, 0] (.wr 6 [4, 2, 1] (.wr 8 [] .done))))))))) mixed (by kernel_rfl) rfl ?_)
  iterate 3 refine Dm rfl rfl rfl rfl ?_
  refine Dr rfl rfl (rlA (vs := [_, _, _, _, _, _]) ag49 sz49 rfl rfl rfl) ?_
  refine D_wr2 rfl ?_ ?_
  ·refine (.go (E' := [(4, _)]) rfl (.plain rfl) (w_callP rfl rfl rfl (fun w hg => fbody_c v d l av pv qv _ hGV (k : Int) (by omega) xf _ _ w (hg.own (xf, _) (by repeat first | exact mH | apply mT)) (hv.good hg))) rfl ?_)
   rintro _ _ ⟨rfl, rfl⟩
   refine ⟨(.cons rfl (.plain rfl) (rlA (vs := [_, _, _, _, _, _]) ag49 sz49 rfl rfl rfl) .nil), ?_⟩
   refine D_wr2 rfl ?_ ?_
   ·refine (.go (E' := []) rfl (.plain rfl) (w_callP rfl rfl rfl (fun w hg => fpoint_c (ptAt q k) w)) rfl ?_)
    rintro _ _ ⟨rfl, rfl⟩
    refine ⟨.nil, ?_⟩
    refine D_wr2 rfl ?_ ?_
    ·refine (.go (E' := []) rfl (.plain rfl) (w_callP rfl rfl rfl (fun w hg => fforce_c v d l av pv qv _ hGV hdd hGB (nowT v (k : Int)) (Fl.ptS (ptAt q k)) (now_ph hGV k) (hfar k (by omega)) xf _ _ w (hg.own (xf, _) (by repeat first | exact mH | apply mT)) (hv.good hg) (hL.good hg))) rfl ?_)
     rintro _ _ ⟨rfl, rfl⟩
     refine ⟨.nil, ?_⟩
     refine D_wr (.go (E' := []) rfl (.plain rfl) (w_alloc zr52 rfl) rfl ?_)
     rintro _ _ ⟨b6, hb6, rfl, rfl⟩
     refine ⟨.nil, ?_⟩
     refine D_wr (.go (E' := []) rfl (.plain rfl) (ws (cs' := [_, _, _, _, _, _]) sz52 rfl rfl rfl rfl rfl rfl rfl) rfl ?_)
     rintro _ _ ⟨rfl, rfl⟩
     refine ⟨.nil, ?_⟩
     refine D_then (kp [3, 10, 12, 13, 14, 15, 36, 37, 38] rfl) ?_
     refine Vs rfl ?_
     refine Lp rfl (p_idxao ar52 rfl rfl rfl (by omega) (by omega)) ?_
     refine Lr rfl (rlA (vs := [_, _]) ag50 sz50 rfl rfl rfl) ?_
     refine Lp rfl (p_fieldo fo49_3 rfl rfl) ?_
     refine Lr rfl (rl ag3 rfl rfl rfl) ?_
     refine Lp rfl (p_fieldo fo49_3 rfl rfl) ?_
     refine Lr rfl (rl ag3 rfl rfl rfl) ?_
     first | refine Lp rfl (p_sub' rfl rfl rfl (by unfold InI; omega)) ?_ | refine Lp rfl (p_sub rfl rfl rfl) ?_
     refine Lc rfl rfl rfl rfl (fun w hg => fhas_c (forceT v d l (nowT v (k : Int)) (Fl.ptS (ptAt q k))).x ((ptAt q (k + 1)).vx - (ptAt q k).vx) w) ?_
     refine Lp rfl (p_not rfl rfl) ?_
     refine Lm rfl rfl rfl ?_
     refine L_cases (d := 63) rfl ?_ ?_
     ·intro g1; have g1' := g1; try simp only [td] at g1'
      iterate 9 refine L_no rfl rfl rfl g1 ?_
      refine Lp rfl (p_pick_t rfl rfl g1 rfl) ?_
      refine Lm rfl rfl rfl ?_
      iterate 9 refine L_no rfl rfl rfl rfl ?_
      refine Lp rfl (p_pick_t rfl rfl rfl rfl) ?_
      refine Lm rfl rfl rfl ?_
      iterate 8 refine L_no rfl rfl rfl rfl ?_
      refine Lp rfl (p_pick_t rfl rfl rfl rfl) ?_
      refine Lm rfl rfl rfl ?_
      iterate 8 refine L_no rfl rfl rfl rfl ?_
      refine Lp rfl (p_pick_t rfl rfl rfl rfl) ?_
      refine Lm rfl rfl rfl ?_
      iterate 8 refine L_no rfl rfl rfl rfl ?_
      refine Lp rfl (p_pick_t rfl rfl rfl rfl) ?_
      refine L_then (kp [3, 10, 12, 36, 37, 38, 114] rfl) ?_
      refine V_cond_t rfl rfl ?_
      refine Vs rfl ?_
      refine Lm rfl rfl rfl ?_
      first | refine Lp rfl (p_add' rfl rfl rfl (by unfold InI; omega)) ?_ | refine Lp rfl (p_add rfl rfl rfl) ?_
      iterate 2 refine La rfl rfl rfl ?_
      refine L_then (kp [8, 9] rfl) ?_
      refine V_ret (blk_r (then_r (then_r (blk_r (then_r ?_)))))
      refine Leave.nil (.tmp rfl (.tmp rfl .nil)) ?_
      first | (rw [own_all he0 hz (fun j hj => hall j (by omega)), he0]; rfl) | (have hst : stepB v d l q k = false := (by rw [Bool.eq_false_iff]; intro hs9; simp only [stepB, goesB, Bool.and_eq_true, decide_eq_true_eq] at hs9; obtain ⟨s1, s2, s3, s4, s5, s6⟩ := hs9; first | omega | (simp_all; done)); rw [own_hit he0 hz (by omega) hall hst, he0]; rfl)
     intro g1; have g1' := g1; try simp only [td] at g1'
     refine L_yes rfl rfl rfl g1 (X_p (p_idxao ar52 rfl rfl rfl (by omega) (by omega)) ?_)
     refine L_yes rfl rfl rfl g1 (X_rd (rlA (vs := [_, _]) ag50 sz50 rfl rfl rfl) ?_)
     refine L_yes rfl rfl rfl g1 (X_p (p_fieldo fo49_4 rfl rfl) ?_)
     refine L_yes rfl rfl rfl g1 (X_rd (rl ag3 rfl rfl rfl) ?_)
     refine L_yes rfl rfl rfl g1 (X_p (p_fieldo fo49_4 rfl rfl) ?_)
     refine L_yes rfl rfl rfl g1 (X_rd (rl ag3 rfl rfl rfl) ?_)
     first | refine L_yes rfl rfl rfl g1 (X_p (p_sub' rfl rfl rfl (by unfold InI; omega)) ?_) | refine L_yes rfl rfl rfl g1 (X_p (p_sub rfl rfl rfl) ?_)
     refine L_yes rfl rfl rfl g1 (X_wr (w_callP rfl rfl rfl (fun w hg => fhas_c (forceT v d l (nowT v (k : Int)) (Fl.ptS (ptAt q k))).y ((ptAt q (k + 1)).vy - (ptAt q k).vy) w)) ?_)
     rintro _ _ ⟨rfl, rfl⟩
     refine L_yes rfl rfl rfl g1 (X_p (p_not rfl rfl) ?_)
     refine Lp rfl (p_pick_f rfl rfl g1 rfl) ?_
     refine Lm rfl rfl rfl ?_
     refine L_cases (d := 74) rfl ?_ ?_
     ·intro g2; have g2' := g2; try simp only [td] at g2'
      iterate 9 refine L_no rfl rfl rfl g2 ?_
      refine Lp rfl (p_pick_t rfl rfl g2 rfl) ?_
      refine Lm rfl rfl rfl ?_
      iterate 8 refine L_no rfl rfl rfl rfl ?_
      refine Lp rfl (p_pick_t rfl rfl rfl rfl) ?_
      refine Lm rfl rfl rfl ?_
      iterate 8 refine L_no rfl rfl rfl rfl ?_
      refine Lp rfl (p_pick_t rfl rfl rfl rfl) ?_
      refine Lm rfl rfl rfl ?_
      iterate 8 refine L_no rfl rfl rfl rfl ?_
      refine Lp rfl (p_pick_t rfl rfl rfl rfl) ?_
      refine L_then (kp [3, 10, 12, 36, 37, 38, 114] rfl) ?_
      refine V_cond_t rfl rfl ?_
      refine Vs rfl ?_
      refine Lm rfl rfl rfl ?_
      first | refine Lp rfl (p_add' rfl rfl rfl (by unfold InI; omega)) ?_ | refine Lp rfl (p_add rfl rfl rfl) ?_
      iterate 2 refine La rfl rfl rfl ?_
      refine L_then (kp [8, 9] rfl) ?_
      refine V_ret (blk_r (then_r (then_r (blk_r (then_r ?_)))))
      refine Leave.nil (.tmp rfl (.tmp rfl .nil)) ?_
      first | (rw [own_all he0 hz (fun j hj => hall j (by omega)), he0]; rfl) | (have hst : stepB v d l q k = false := (by rw [Bool.eq_false_iff]; intro hs9; simp only [stepB, goesB, Bool.and_eq_true, decide_eq_true_eq] at hs9; obtain ⟨s1, s2, s3, s4, s5, s6⟩ := hs9; first | omega | (simp_all; done)); rw [own_hit he0 hz (by omega) hall hst, he0]; rfl)
     intro g2; have g2' := g2; try simp only [td] at g2'
     refine L_yes rfl rfl rfl g2 (X_p (p_idxao ar52 rfl rfl rfl (by omega) (by omega)) ?_)
     refine L_yes rfl rfl rfl g2 (X_rd (rlA (vs := [_, _]) ag50 sz50 rfl rfl rfl) ?_)
     refine L_yes rfl rfl rfl g2 (X_p (p_fieldo fo49_5 rfl rfl) ?_)
     refine L_yes rfl rfl rfl g2 (X_rd (rl ag3 rfl rfl rfl) ?_)
     refine L_yes rfl rfl rfl g2 (X_p (p_fieldo fo49_5 rfl rfl) ?_)
     refine L_yes rfl rfl rfl g2 (X_rd (rl ag3 rfl rfl rfl) ?_)
     first | refine L_yes rfl rfl rfl g2 (X_p (p_sub' rfl rfl rfl (by unfold InI; omega)) ?_) | refine L_yes rfl rfl rfl g2 (X_p (p_sub rfl rfl rfl) ?_)
     refine L_yes rfl rfl rfl g2 (X_wr (w_callP rfl rfl rfl (fun w hg => fhas_c (forceT v d l (nowT v (k : Int)) (Fl.ptS (ptAt q k))).z ((ptAt q (k + 1)).vz - (ptAt q k).vz) w)) ?_)
     rintro _ _ ⟨rfl, rfl⟩
     refine L_yes rfl rfl rfl g2 (X_p (p_not rfl rfl) ?_)
     refine Lp rfl (p_pick_f rfl rfl g2 rfl) ?_
     refine Lm rfl rfl rfl ?_
     refine L_cases (d := 85) rfl ?_ ?_
     ·intro g3; have g3' := g3; try simp only [td] at g3'
      iterate 8 refine L_no rfl rfl rfl g3 ?_
      refine Lp rfl (p_pick_t rfl rfl g3 rfl) ?_
      refine Lm rfl rfl rfl ?_
      iterate 8 refine L_no rfl rfl rfl rfl ?_
      refine Lp rfl (p_pick_t rfl rfl rfl rfl) ?_
      refine Lm rfl rfl rfl ?_
      iterate 8 refine L_no rfl rfl rfl rfl ?_
      refine Lp rfl (p_pick_t rfl rfl rfl rfl) ?_
      refine L_then (kp [3, 10, 12, 36, 37, 38, 114] rfl) ?_
      refine V_cond_t rfl rfl ?_
      refine Vs rfl ?_
      refine Lm rfl rfl rfl ?_
      first | refine Lp rfl (p_add' rfl rfl rfl (by unfold InI; omega)) ?_ | refine Lp rfl (p_add rfl rfl rfl) ?_
      iterate 2 refine La rfl rfl rfl ?_
      refine L_then (kp [8, 9] rfl) ?_
      refine V_ret (blk_r (then_r (then_r (blk_r (then_r ?_)))))
      refine Leave.nil (.tmp rfl (.tmp rfl .nil)) ?_
      first | (rw [own_all he0 hz (fun j hj => hall j (by omega)), he0]; rfl) | (have hst : stepB v d l q k = false := (by rw [Bool.eq_false_iff]; intro hs9; simp only [stepB, goesB, Bool.and_eq_true, decide_eq_true_eq] at hs9; obtain ⟨s1, s2, s3, s4, s5, s6⟩ := hs9; first | omega | (simp_all; done)); rw [own_hit he0 hz (by omega) hall hst, he0]; rfl)
     intro g3; have g3' := g3; try simp only [td] at g3'
     refine L_yes rfl rfl rfl g3 (X_p (p_fieldo fo49_0 rfl rfl) ?_)
     refine L_yes rfl rfl rfl g3 (X_rd (rl ag3 rfl rfl rfl) ?_)
     refine L_yes rfl rfl rfl g3 (X_p (p_fieldo fo49_0 rfl rfl) ?_)
     refine L_yes rfl rfl rfl g3 (X_rd (rl ag3 rfl rfl rfl) ?_)
     refine L_yes rfl rfl rfl g3 (X_p (p_fieldo fo49_3 rfl rfl) ?_)
     refine L_yes rfl rfl rfl g3 (X_rd (rl ag3 rfl rfl rfl) ?_)
     first | refine L_yes rfl rfl rfl g3 (X_p (p_add' rfl rfl rfl (by unfold InI; omega)) ?_) | refine L_yes rfl rfl rfl g3 (X_p (p_add rfl rfl rfl) ?_)
     refine L_yes rfl rfl rfl g3 (X_p (p_neq rfl rfl rfl) ?_)
     refine Lp rfl (p_pick_f rfl rfl g3 rfl) ?_
     refine Lm rfl rfl rfl ?_
     refine L_cases (d := 95) rfl ?_ ?_
     ·intro g4; have g4' := g4; try simp only [td] at g4'
      iterate 8 refine L_no rfl rfl rfl g4 ?_
      refine Lp rfl (p_pick_t rfl rfl g4 rfl) ?_
      refine Lm rfl rfl rfl ?_
      iterate 8 refine L_no rfl rfl rfl rfl ?_
      refine Lp rfl (p_pick_t rfl rfl rfl rfl) ?_
      refine L_then (kp [3, 10, 12, 36, 37, 38, 114] rfl) ?_
      refine V_cond_t rfl rfl ?_
      refine Vs rfl ?_
      refine Lm rfl rfl rfl ?_
      first | refine Lp rfl (p_add' rfl rfl rfl (by unfold InI; omega)) ?_ | refine Lp rfl (p_add rfl rfl rfl) ?_
      iterate 2 refine La rfl rfl rfl ?_
      refine L_then (kp [8, 9] rfl) ?_
      refine V_ret (blk_r (then_r (then_r (blk_r (then_r ?_)))))
      refine Leave.nil (.tmp rfl (.tmp rfl .nil)) ?_
      first | (rw [own_all he0 hz (fun j hj => hall j (by omega)), he0]; rfl) | (have hst : stepB v d l q k = false := (by rw [Bool.eq_false_iff]; intro hs9; simp only [stepB, goesB, Bool.and_eq_true, decide_eq_true_eq] at hs9; obtain ⟨s1, s2, s3, s4, s5, s6⟩ := hs9; first | omega | (simp_all; done)); rw [own_hit he0 hz (by omega) hall hst, he0]; rfl)
     intro g4; have g4' := g4; try simp only [td] at g4'
     refine L_yes rfl rfl rfl g4 (X_p (p_fieldo fo49_1 rfl rfl) ?_)
     refine L_yes rfl rfl rfl g4 (X_rd (rl ag3 rfl rfl rfl) ?_)
     refine L_yes rfl rfl rfl g4 (X_p (p_fieldo fo49_1 rfl rfl) ?_)
     refine L_yes rfl rfl rfl g4 (X_rd (rl ag3 rfl rfl rfl) ?_)
     refine L_yes rfl rfl rfl g4 (X_p (p_fieldo fo49_4 rfl rfl) ?_)
     refine L_yes rfl rfl rfl g4 (X_rd (rl ag3 rfl rfl rfl) ?_)
     first | refine L_yes rfl rfl rfl g4 (X_p (p_add' rfl rfl rfl (by unfold InI; omega)) ?_) | refine L_yes rfl rfl rfl g4 (X_p (p_add rfl rfl rfl) ?_)
     refine L_yes rfl rfl rfl g4 (X_p (p_neq rfl rfl rfl) ?_)
     refine Lp rfl (p_pick_f rfl rfl g4 rfl) ?_
     refine Lm rfl rfl rfl ?_
     refine L_cases (d := 105) rfl ?_ ?_
     ·intro g5; have g5' := g5; try simp only [td] at g5'
      iterate 8 refine L_no rfl rfl rfl g5 ?_
      refine Lp rfl (p_pick_t rfl rfl g5 rfl) ?_
      refine L_then (kp [3, 10, 12, 36, 37, 38, 114] rfl) ?_
      refine V_cond_t rfl rfl ?_
      refine Vs rfl ?_
      refine Lm rfl rfl rfl ?_
      first | refine Lp rfl (p_add' rfl rfl rfl (by unfold InI; omega)) ?_ | refine Lp rfl (p_add rfl rfl rfl) ?_
      iterate 2 refine La rfl rfl rfl ?_
      refine L_then (kp [8, 9] rfl) ?_
      refine V_ret (blk_r (then_r (then_r (blk_r (then_r ?_)))))
      refine Leave.nil (.tmp rfl (.tmp rfl .nil)) ?_
      first | (rw [own_all he0 hz (fun j hj => hall j (by omega)), he0]; rfl) | (have hst : stepB v d l q k = false := (by rw [Bool.eq_false_iff]; intro hs9; simp only [stepB, goesB, Bool.and_eq_true, decide_eq_true_eq] at hs9; obtain ⟨s1, s2, s3, s4, s5, s6⟩ := hs9; first | omega | (simp_all; done)); rw [own_hit he0 hz (by omega) hall hst, he0]; rfl)
     intro g5; have g5' := g5; try simp only [td] at g5'
     refine L_yes rfl rfl rfl g5 (X_p (p_fieldo fo49_2 rfl rfl) ?_)
     refine L_yes rfl rfl rfl g5 (X_rd (rl ag3 rfl rfl rfl) ?_)
     refine L_yes rfl rfl rfl g5 (X_p (p_fieldo fo49_2 rfl rfl) ?_)
     refine L_yes rfl rfl rfl g5 (X_rd (rl ag3 rfl rfl rfl) ?_)
     refine L_yes rfl rfl rfl g5 (X_p (p_fieldo fo49_5 rfl rfl) ?_)
     refine L_yes rfl rfl rfl g5 (X_rd (rl ag3 rfl rfl rfl) ?_)
     first | refine L_yes rfl rfl rfl g5 (X_p (p_add' rfl rfl rfl (by unfold InI; omega)) ?_) | refine L_yes rfl rfl rfl g5 (X_p (p_add rfl rfl rfl) ?_)
     refine L_yes rfl rfl rfl g5 (X_p (p_neq rfl rfl rfl) ?_)
     refine Lp rfl (p_pick_f rfl rfl g5 rfl) ?_
     refine L_then (kp [3, 10, 12, 36, 37, 38, 114] rfl) ?_
     refine V_cond rfl ?_ ?_
     ·intro c2; try simp only [td] at c2
      refine Vs rfl ?_
      refine Lm rfl rfl rfl ?_
      first | refine Lp rfl (p_add' rfl rfl rfl (by unfold InI; omega)) ?_ | refine Lp rfl (p_add rfl rfl rfl) ?_
      iterate 2 refine La rfl rfl rfl ?_
      refine L_then (kp [8, 9] rfl) ?_
      refine V_ret (blk_r (then_r (then_r (blk_r (then_r ?_)))))
      refine Leave.nil (.tmp rfl (.tmp rfl .nil)) ?_
      first | (rw [own_all he0 hz (fun j hj => hall j (by omega)), he0]; rfl) | (have hst : stepB v d l q k = false := (by rw [Bool.eq_false_iff]; intro hs9; simp only [stepB, goesB, Bool.and_eq_true, decide_eq_true_eq] at hs9; obtain ⟨s1, s2, s3, s4, s5, s6⟩ := hs9; first | omega | (simp_all; done)); rw [own_hit he0 hz (by omega) hall hst, he0]; rfl)
     intro c2; try simp only [td] at c2
     refine V_skip (blk_n (then_n ?_))
     refine V_region rfl ?_
     first | refine Lp rfl (p_add' rfl rfl rfl (by unfold InI; omega)) ?_ | refine Lp rfl (p_add rfl rfl rfl) ?_
     refine Lm rfl rfl rfl ?_
     refine L_keep (kp [3, 10, 36, 37, 38] rfl) (then_n ?_)
     refine ⟨k + 1, ?_, ?_, (.cons rfl (.cons rfl (.cons rfl (.cons rfl (.cons rfl (.nil _)))))), (by repeat (first | exact List.nil_sublist _ | exact List.Sublist.refl _ | apply List.Sublist.cons_cons | apply List.Sublist.cons | apply List.sublist_append_of_sublist_right)), rfl⟩
     ·refine ⟨by omega, fun j hj => ?_⟩
      by_cases e : j < k
      ·exact hall j e
      have ej : j = k := by omega
      rw [ej]
      simp only [stepB, goesB, Bool.and_eq_true, decide_eq_true_eq]
      refine ⟨?_, ?_, ?_, ?_, ?_, ?_⟩ <;> first | omega | (simp_all; done)
     omega
    refine (.go (E' := []) rfl (.plain rfl) (w_alloc zr52 rfl) rfl ?_)
    rintro _ _ ⟨b6, hb6, rfl, rfl⟩
    refine ⟨.nil, ?_⟩
    refine D_wr (.go (E' := []) rfl (.plain rfl) (w_callP rfl rfl rfl (fun w hg => fforce_c v d l av pv qv _ hGV hdd hGB (nowT v (k : Int)) (Fl.ptS (ptAt q k)) (now_ph hGV k) (hfar k (by omega)) xf _ _ w (hg.own (xf, _) (by repeat first | exact mH | apply mT)) (hv.good hg) (hL.good hg))) rfl ?_)
    rintro _ _ ⟨rfl, rfl⟩
    refine ⟨.nil, ?_⟩
    refine D_wr (.go (E' := []) rfl (.plain rfl) (ws (cs' := [_, _, _, _, _, _]) sz52 rfl rfl rfl rfl rfl rfl rfl) rfl ?_)
    rintro _ _ ⟨rfl, rfl⟩
    refine ⟨.nil, ?_⟩
    refine D_then (kp [3, 10, 12, 13, 14, 15, 36, 37, 38] rfl) ?_
    refine Vs rfl ?_
    refine Lp rfl (p_idxao ar52 rfl rfl rfl (by omega) (by omega)) ?_
    refine Lr rfl (rlA (vs := [_, _]) ag50 sz50 rfl rfl rfl) ?_
    refine Lp rfl (p_fieldo fo49_3 rfl rfl) ?_
    refine Lr rfl (rl ag3 rfl rfl rfl) ?_
    refine Lp rfl (p_fieldo fo49_3 rfl rfl) ?_
    refine Lr rfl (rl ag3 rfl rfl rfl) ?_
    first | refine Lp rfl (p_sub' rfl rfl rfl (by unfold InI; omega)) ?_ | refine Lp rfl (p_sub rfl rfl rfl) ?_
    refine Lc rfl rfl rfl rfl (fun w hg => fhas_c (forceT v d l (nowT v (k : Int)) (Fl.ptS (ptAt q k))).x ((ptAt q (k + 1)).vx - (ptAt q k).vx) w) ?_
    refine Lp rfl (p_not rfl rfl) ?_
    refine Lm rfl rfl rfl ?_
    refine L_cases (d := 63) rfl ?_ ?_
    ·intro g6; have g6' := g6; try simp only [td] at g6'
     iterate 9 refine L_no rfl rfl rfl g6 ?_
     refine Lp rfl (p_pick_t rfl rfl g6 rfl) ?_
     refine Lm rfl rfl rfl ?_
     iterate 9 refine L_no rfl rfl rfl rfl ?_
     refine Lp rfl (p_pick_t rfl rfl rfl rfl) ?_
     refine Lm rfl rfl rfl ?_
     iterate 8 refine L_no rfl rfl rfl rfl ?_
     refine Lp rfl (p_pick_t rfl rfl rfl rfl) ?_
     refine Lm rfl rfl rfl ?_
     iterate 8 refine L_no rfl rfl rfl rfl ?_
     refine Lp rfl (p_pick_t rfl rfl rfl rfl) ?_
     refine Lm rfl rfl rfl ?_
     iterate 8 refine L_no rfl rfl rfl rfl ?_
     refine Lp rfl (p_pick_t rfl rfl rfl rfl) ?_
     refine L_then (kp [3, 10, 12, 36, 37, 38, 114] rfl) ?_
     refine V_cond_t rfl rfl ?_
     refine Vs rfl ?_
     refine Lm rfl rfl rfl ?_
     first | refine Lp rfl (p_add' rfl rfl rfl (by unfold InI; omega)) ?_ | refine Lp rfl (p_add rfl rfl rfl) ?_
     iterate 2 refine La rfl rfl rfl ?_
     refine L_then (kp [8, 9] rfl) ?_
     refine V_ret (blk_r (then_r (then_r (blk_r (then_r ?_)))))
     refine Leave.nil (.tmp rfl (.tmp rfl .nil)) ?_
     first | (rw [own_all he0 hz (fun j hj => hall j (by omega)), he0]; rfl) | (have hst : stepB v d l q k = false := (by rw [Bool.eq_false_iff]; intro hs9; simp only [stepB, goesB, Bool.and_eq_true, decide_eq_true_eq] at hs9; obtain ⟨s1, s2, s3, s4, s5, s6⟩ := hs9; first | omega | (simp_all; done)); rw [own_hit he0 hz (by omega) hall hst, he0]; rfl)
    intro g6; have g6' := g6; try simp only [td] at g6'
    refine L_yes rfl rfl rfl g6 (X_p (p_idxao ar52 rfl rfl rfl (by omega) (by omega)) ?_)
    refine L_yes rfl rfl rfl g6 (X_rd (rlA (vs := [_, _]) ag50 sz50 rfl rfl rfl) ?_)
    refine L_yes rfl rfl rfl g6 (X_p (p_fieldo fo49_4 rfl rfl) ?_)
    refine L_yes rfl rfl rfl g6 (X_rd (rl ag3 rfl rfl rfl) ?_)
    refine L_yes rfl rfl rfl g6 (X_p (p_fieldo fo49_4 rfl rfl) ?_)
    refine L_yes rfl rfl rfl g6 (X_rd (rl ag3 rfl rfl rfl) ?_)
    first | refine L_yes rfl rfl rfl g6 (X_p (p_sub' rfl rfl rfl (by unfold InI; omega)) ?_) | refine L_yes rfl rfl rfl g6 (X_p (p_sub rfl rfl rfl) ?_)
    refine L_yes rfl rfl rfl g6 (X_wr (w_callP rfl rfl rfl (fun w hg => fhas_c (forceT v d l (nowT v (k : Int)) (Fl.ptS (ptAt q k))).y ((ptAt q (k + 1)).vy - (ptAt q k).vy) w)) ?_)
    rintro _ _ ⟨rfl, rfl⟩
    refine L_yes rfl rfl rfl g6 (X_p (p_not rfl rfl) ?_)
    refine Lp rfl (p_pick_f rfl rfl g6 rfl) ?_
    refine Lm rfl rfl rfl ?_
    refine L_cases (d := 74) rfl ?_ ?_
    ·intro g7; have g7' := g7; try simp only [td] at g7'
     iterate 9 refine L_no rfl rfl rfl g7 ?_
     refine Lp rfl (p_pick_t rfl rfl g7 rfl) ?_
     refine Lm rfl rfl rfl ?_
     iterate 8 refine L_no rfl rfl rfl rfl ?_
     refine Lp rfl (p_pick_t rfl rfl rfl rfl) ?_
     refine Lm rfl rfl rfl ?_
     iterate 8 refine L_no rfl rfl rfl rfl ?_
     refine Lp rfl (p_pick_t rfl rfl rfl rfl) ?_
     refine Lm rfl rfl rfl ?_
     iterate 8 refine L_no rfl rfl rfl rfl ?_
     refine Lp rfl (p_pick_t rfl rfl rfl rfl) ?_
     refine L_then (kp [3, 10, 12, 36, 37, 38, 114] rfl) ?_
     refine V_cond_t rfl rfl ?_
     refine Vs rfl ?_
     refine Lm rfl rfl rfl ?_
     first | refine Lp rfl (p_add' rfl rfl rfl (by unfold InI; omega)) ?_ | refine Lp rfl (p_add rfl rfl rfl) ?_
     iterate 2 refine La rfl rfl rfl ?_
     refine L_then (kp [8, 9] rfl) ?_
     refine V_ret (blk_r (then_r (then_r (blk_r (then_r ?_)))))
     refine Leave.nil (.tmp rfl (.tmp rfl .nil)) ?_
     first | (rw [own_all he0 hz (fun j hj => hall j (by omega)), he0]; rfl) | (have hst : stepB v d l q k = false := (by rw [Bool.eq_false_iff]; intro hs9; simp only [stepB, goesB, Bool.and_eq_true, decide_eq_true_eq] at hs9; obtain ⟨s1, s2, s3, s4, s5, s6⟩ := hs9; first | omega | (simp_all; done)); rw [own_hit he0 hz (by omega) hall hst, he0]; rfl)
    intro g7; have g7' := g7; try simp only [td] at g7'
    refine L_yes rfl rfl rfl g7 (X_p (p_idxao ar52 rfl rfl rfl (by omega) (by omega)) ?_)
    refine L_yes rfl rfl rfl g7 (X_rd (rlA (vs := [_, _]) ag50 sz50 rfl rfl rfl) ?_)
    refine L_yes rfl rfl rfl g7 (X_p (p_fieldo fo49_5 rfl rfl) ?_)
    refine L_yes rfl rfl rfl g7 (X_rd (rl ag3 rfl rfl rfl) ?_)
    refine L_yes rfl rfl rfl g7 (X_p (p_fieldo fo49_5 rfl rfl) ?_)
    refine L_yes rfl rfl rfl g7 (X_rd (rl ag3 rfl rfl rfl) ?_)
    first | refine L_yes rfl rfl rfl g7 (X_p (p_sub' rfl rfl rfl (by unfold InI; omega)) ?_) | refine L_yes rfl rfl rfl g7 (X_p (p_sub rfl rfl rfl) ?_)
    refine L_yes rfl rfl rfl g7 (X_wr (w_callP rfl rfl rfl (fun w hg => fhas_c (forceT v d l (nowT v (k : Int)) (Fl.ptS (ptAt q k))).z ((ptAt q (k + 1)).vz - (ptAt q k).vz) w)) ?_)
    rintro _ _ ⟨rfl, rfl⟩
    refine L_yes rfl rfl rfl g7 (X_p (p_not rfl rfl) ?_)
    refine Lp rfl (p_pick_f rfl rfl g7 rfl) ?_
    refine Lm rfl rfl rfl ?_
    refine L_cases (d := 85) rfl ?_ ?_
    ·intro g8; have g8' := g8; try simp only [td] at g8'
     iterate 8 refine L_no rfl rfl rfl g8 ?_
     refine Lp rfl (p_pick_t rfl rfl g8 rfl) ?_
     refine Lm rfl rfl rfl ?_
     iterate 8 refine L_no rfl rfl rfl rfl ?_
     refine Lp rfl (p_pick_t rfl rfl rfl rfl) ?_
     refine Lm rfl rfl rfl ?_
     iterate 8 refine L_no rfl rfl rfl rfl ?_
     refine Lp rfl (p_pick_t rfl rfl rfl rfl) ?_
     refine L_then (kp [3, 10, 12, 36, 37, 38, 114] rfl) ?_
     refine V_cond_t rfl rfl ?_
     refine Vs rfl ?_
     refine Lm rfl rfl rfl ?_
     first | refine Lp rfl (p_add' rfl rfl rfl (by unfold InI; omega)) ?_ | refine Lp rfl (p_add rfl rfl rfl) ?_
     iterate 2 refine La rfl rfl rfl ?_
     refine L_then (kp [8, 9] rfl) ?_
     refine V_ret (blk_r (then_r (then_r (blk_r (then_r ?_)))))
     refine Leave.nil (.tmp rfl (.tmp rfl .nil)) ?_
     first | (rw [own_all he0 hz (fun j hj => hall j (by omega)), he0]; rfl) | (have hst : stepB v d l q k = false := (by rw [Bool.eq_false_iff]; intro hs9; simp only [stepB, goesB, Bool.and_eq_true, decide_eq_true_eq] at hs9; obtain ⟨s1, s2, s3, s4, s5, s6⟩ := hs9; first | omega | (simp_all; done)); rw [own_hit he0 hz (by omega) hall hst, he0]; rfl)
    intro g8; have g8' := g8; try simp only [td] at g8'
    refine L_yes rfl rfl rfl g8 (X_p (p_fieldo fo49_0 rfl rfl) ?_)
    refine L_yes rfl rfl rfl g8 (X_rd (rl ag3 rfl rfl rfl) ?_)
    refine L_yes rfl rfl rfl g8 (X_p (p_fieldo fo49_0 rfl rfl) ?_)
    refine L_yes rfl rfl rfl g8 (X_rd (rl ag3 rfl rfl rfl) ?_)
    refine L_yes rfl rfl rfl g8 (X_p (p_fieldo fo49_3 rfl rfl) ?_)
    refine L_yes rfl rfl rfl g8 (X_rd (rl ag3 rfl rfl rfl) ?_)
    first | refine L_yes rfl rfl rfl g8 (X_p (p_add' rfl rfl rfl (by unfold InI; omega)) ?_) | refine L_yes rfl rfl rfl g8 (X_p (p_add rfl rfl rfl) ?_)
    refine L_yes rfl rfl rfl g8 (X_p (p_neq rfl rfl rfl) ?_)
    refine Lp rfl (p_pick_f rfl rfl g8 rfl) ?_
    refine Lm rfl rfl rfl ?_
    refine L_cases (d := 95) rfl ?_ ?_
    ·intro g9; have g9' := g9; try simp only [td] at g9'
     iterate 8 refine L_no rfl rfl rfl g9 ?_
     refine Lp rfl (p_pick_t rfl rfl g9 rfl) ?_
     refine Lm rfl rfl rfl ?_
     iterate 8 refine L_no rfl rfl rfl rfl ?_
     refine Lp rfl (p_pick_t rfl rfl rfl rfl) ?_
     refine L_then (kp [3, 10, 12, 36, 37, 38, 114] rfl) ?_
     refine V_cond_t rfl rfl ?_
     refine Vs rfl ?_
     refine Lm rfl rfl rfl ?_
     first | refine Lp rfl (p_add' rfl rfl rfl (by unfold InI; omega)) ?_ | refine Lp rfl (p_add rfl rfl rfl) ?_
     iterate 2 refine La rfl rfl rfl ?_
     refine L_then (kp [8, 9] rfl) ?_
     refine V_ret (blk_r (then_r (then_r (blk_r (then_r ?_)))))
     refine Leave.nil (.tmp rfl (.tmp rfl .nil)) ?_
     first | (rw [own_all he0 hz (fun j hj => hall j (by omega)), he0]; rfl) | (have hst : stepB v d l q k = false := (by rw [Bool.eq_false_iff]; intro hs9; simp only [stepB, goesB, Bool.and_eq_true, decide_eq_true_eq] at hs9; obtain ⟨s1, s2, s3, s4, s5, s6⟩ := hs9; first | omega | (simp_all; done)); rw [own_hit he0 hz (by omega) hall hst, he0]; rfl)
    intro g9; have g9' := g9; try simp only [td] at g9'
    refine L_yes rfl rfl rfl g9 (X_p (p_fieldo fo49_1 rfl rfl) ?_)
    refine L_yes rfl rfl rfl g9 (X_rd (rl ag3 rfl rfl rfl) ?_)
    refine L_yes rfl rfl rfl g9 (X_p (p_fieldo fo49_1 rfl rfl) ?_)
    refine L_yes rfl rfl rfl g9 (X_rd (rl ag3 rfl rfl rfl) ?_)
    refine L_yes rfl rfl rfl g9 (X_p (p_fieldo fo49_4 rfl rfl) ?_)
    refine L_yes rfl rfl rfl g9 (X_rd (rl ag3 rfl rfl rfl) ?_)
    first | refine L_yes rfl rfl rfl g9 (X_p (p_add' rfl rfl rfl (by unfold InI; omega)) ?_) | refine L_yes rfl rfl rfl g9 (X_p (p_add rfl rfl rfl) ?_)
    refine L_yes rfl rfl rfl g9 (X_p (p_neq rfl rfl rfl) ?_)
    refine Lp rfl (p_pick_f rfl rfl g9 rfl) ?_
    refine Lm rfl rfl rfl ?_
    refine L_cases (d := 105) rfl ?_ ?_
    ·intro g10; have g10' := g10; try simp only [td] at g10'
     iterate 8 refine L_no rfl rfl rfl g10 ?_
     refine Lp rfl (p_pick_t rfl rfl g10 rfl) ?_
     refine L_then (kp [3, 10, 12, 36, 37, 38, 114] rfl) ?_
     refine V_cond_t rfl rfl ?_
     refine Vs rfl ?_
     refine Lm rfl rfl rfl ?_
     first | refine Lp rfl (p_add' rfl rfl rfl (by unfold InI; omega)) ?_ | refine Lp rfl (p_add rfl rfl rfl) ?_
     iterate 2 refine La rfl rfl rfl ?_
     refine L_then (kp [8, 9] rfl) ?_
     refine V_ret (blk_r (then_r (then_r (blk_r (then_r ?_)))))
     refine Leave.nil (.tmp rfl (.tmp rfl .nil)) ?_
     first | (rw [own_all he0 hz (fun j hj => hall j (by omega)), he0]; rfl) | (have hst : stepB v d l q k = false := (by rw [Bool.eq_false_iff]; intro hs9; simp only [stepB, goesB, Bool.and_eq_true, decide_eq_true_eq] at hs9; obtain ⟨s1, s2, s3, s4, s5, s6⟩ := hs9; first | omega | (simp_all; done)); rw [own_hit he0 hz (by omega) hall hst, he0]; rfl)
    intro g10; have g10' := g10; try simp only [td] at g10'
    refine L_yes rfl rfl rfl g10 (X_p (p_fieldo fo49_2 rfl rfl) ?_)
    refine L_yes rfl rfl rfl g10 (X_rd (rl ag3 rfl rfl rfl) ?_)
    refine L_yes rfl rfl rfl g10 (X_p (p_fieldo fo49_2 rfl rfl) ?_)
    refine L_yes rfl rfl rfl g10 (X_rd (rl ag3 rfl rfl rfl) ?_)
    refine L_yes rfl rfl rfl g10 (X_p (p_fieldo fo49_5 rfl rfl) ?_)
    refine L_yes rfl rfl rfl g10 (X_rd (rl ag3 rfl rfl rfl) ?_)
    first | refine L_yes rfl rfl rfl g10 (X_p (p_add' rfl rfl rfl (by unfold InI; omega)) ?_) | refine L_yes rfl rfl rfl g10 (X_p (p_add rfl rfl rfl) ?_)
    refine L_yes rfl rfl rfl g10 (X_p (p_neq rfl rfl rfl) ?_)
    refine Lp rfl (p_pick_f rfl rfl g10 rfl) ?_
    refine L_then (kp [3, 10, 12, 36, 37, 38, 114] rfl) ?_
    refine V_cond rfl ?_ ?_
    ·intro c3; try simp only [td] at c3
     refine Vs rfl ?_
     refine Lm rfl rfl rfl ?_
     first | refine Lp rfl (p_add' rfl rfl rfl (by unfold InI; omega)) ?_ | refine Lp rfl (p_add rfl rfl rfl) ?_
     iterate 2 refine La rfl rfl rfl ?_
     refine L_then (kp [8, 9] rfl) ?_
     refine V_ret (blk_r (then_r (then_r (blk_r (then_r ?_)))))
     refine Leave.nil (.tmp rfl (.tmp rfl .nil)) ?_
     first | (rw [own_all he0 hz (fun j hj => hall j (by omega)), he0]; rfl) | (have hst : stepB v d l q k = false := (by rw [Bool.eq_false_iff]; intro hs9; simp only [stepB, goesB, Bool.and_eq_true, decide_eq_true_eq] at hs9; obtain ⟨s1, s2, s3, s4, s5, s6⟩ := hs9; first | omega | (simp_all; done)); rw [own_hit he0 hz (by omega) hall hst, he0]; rfl)
    intro c3; try simp only [td] at c3
    refine V_skip (blk_n (then_n ?_))
    refine V_region rfl ?_
    first | refine Lp rfl (p_add' rfl rfl rfl (by unfold InI; omega)) ?_ | refine Lp rfl (p_add rfl rfl rfl) ?_
    refine Lm rfl rfl rfl ?_
    refine L_keep (kp [3, 10, 36, 37, 38] rfl) (then_n ?_)
    refine ⟨k + 1, ?_, ?_, (.cons rfl (.cons rfl (.cons rfl (.cons rfl (.cons rfl (.nil _)))))), (by repeat (first | exact List.nil_sublist _ | exact List.Sublist.refl _ | apply List.Sublist.cons_cons | apply List.Sublist.cons | apply List.sublist_append_of_sublist_right)), rfl⟩
    ·refine ⟨by omega, fun j hj => ?_⟩
     by_cases e : j < k
     ·exact hall j e
     have ej : j = k := by omega
     rw [ej]
     simp only [stepB, goesB, Bool.and_eq_true, decide_eq_true_eq]
     refine ⟨?_, ?_, ?_, ?_, ?_, ?_⟩ <;> first | omega | (simp_all; done)
    omega
   refine (.go (E' := [(4, _)]) rfl (.plain rfl) (w_alloc zr52 rfl) rfl ?_)
   rintro _ _ ⟨b6, hb6, rfl, rfl⟩
   refine ⟨(.cons rfl (.plain rfl) (rlA (vs := [_, _, _, _, _, _]) ag49 sz49 rfl rfl rfl) .nil), ?_⟩
   refine D_wr (.go (E' := []) rfl (.plain rfl) (w_callP rfl rfl rfl (fun w hg => fpoint_c (ptAt q k) w)) rfl ?_)
   rintro _ _ ⟨rfl, rfl⟩
   refine ⟨.nil, ?_⟩
   refine D_wr (.go (E' := []) rfl (.plain rfl) (w_callP rfl rfl rfl (fun w hg => fforce_c v d l av pv qv _ hGV hdd hGB (nowT v (k : Int)) (Fl.ptS (ptAt q k)) (now_ph hGV k) (hfar k (by omega)) xf _ _ w (hg.own (xf, _) (by repeat first | exact mH | apply mT)) (hv.good hg) (hL.good hg))) rfl ?_)
   rintro _ _ ⟨rfl, rfl⟩
   refine ⟨.nil, ?_⟩
   refine D_wr (.go (E' := []) rfl (.plain rfl) (ws (cs' := [_, _, _, _, _, _]) sz52 rfl rfl rfl rfl rfl rfl rfl) rfl ?_)
   rintro _ _ ⟨rfl, rfl⟩
   refine ⟨.nil, ?_⟩
   refine D_then (kp [3, 10, 12, 13, 14, 15, 36, 37, 38] rfl) ?_
   refine Vs rfl ?_
   refine Lp rfl (p_idxao ar52 rfl rfl rfl (by omega) (by omega)) ?_
   refine Lr rfl (rlA (vs := [_, _]) ag50 sz50 rfl rfl rfl) ?_
   refine Lp rfl (p_fieldo fo49_3 rfl rfl) ?_
   refine Lr rfl (rl ag3 rfl rfl rfl) ?_
   refine Lp rfl (p_fieldo fo49_3 rfl rfl) ?_
   refine Lr rfl (rl ag3 rfl rfl rfl) ?_
   first | refine Lp rfl (p_sub' rfl rfl rfl (by unfold InI; omega)) ?_ | refine Lp rfl (p_sub rfl rfl rfl) ?_
   refine Lc rfl rfl rfl rfl (fun w hg => fhas_c (forceT v d l (nowT v (k : Int)) (Fl.ptS (ptAt q k))).x ((ptAt q (k + 1)).vx - (ptAt q k).vx) w) ?_
   refine Lp rfl (p_not rfl rfl) ?_
   refine Lm rfl rfl rfl ?_
   refine L_cases (d := 63) rfl ?_ ?_
   ·intro g11; have g11' := g11; try simp only [td] at g11'
    iterate 9 refine L_no rfl rfl rfl g11 ?_
    refine Lp rfl (p_pick_t rfl rfl g11 rfl) ?_
    refine Lm rfl rfl rfl ?_
    iterate 9 refine L_no rfl rfl rfl rfl ?_
    refine Lp rfl (p_pick_t rfl rfl rfl rfl) ?_
    refine Lm rfl rfl rfl ?_
    iterate 8 refine L_no rfl rfl rfl rfl ?_
    refine Lp rfl (p_pick_t rfl rfl rfl rfl) ?_
    refine Lm rfl rfl rfl ?_
    iterate 8 refine L_no rfl rfl rfl rfl ?_
    refine Lp rfl (p_pick_t rfl rfl rfl rfl) ?_
    refine Lm rfl rfl rfl ?_
    iterate 8 refine L_no rfl rfl rfl rfl ?_
    refine Lp rfl (p_pick_t rfl rfl rfl rfl) ?_
    refine L_then (kp [3, 10, 12, 36, 37, 38, 114] rfl) ?_
    refine V_cond_t rfl rfl ?_
    refine Vs rfl ?_
    refine Lm rfl rfl rfl ?_
    first | refine Lp rfl (p_add' rfl rfl rfl (by unfold InI; omega)) ?_ | refine Lp rfl (p_add rfl rfl rfl) ?_
    iterate 2 refine La rfl rfl rfl ?_
    refine L_then (kp [8, 9] rfl) ?_
    refine V_ret (blk_r (then_r (then_r (blk_r (then_r ?_)))))
    refine Leave.nil (.tmp rfl (.tmp rfl .nil)) ?_
    first | (rw [own_all he0 hz (fun j hj => hall j (by omega)), he0]; rfl) | (have hst : stepB v d l q k = false := (by rw [Bool.eq_false_iff]; intro hs9; simp only [stepB, goesB, Bool.and_eq_true, decide_eq_true_eq] at hs9; obtain ⟨s1, s2, s3, s4, s5, s6⟩ := hs9; first | omega | (simp_all; done)); rw [own_hit he0 hz (by omega) hall hst, he0]; rfl)
   intro g11; have g11' := g11; try simp only [td] at g11'
   refine L_yes rfl rfl rfl g11 (X_p (p_idxao ar52 rfl rfl rfl (by omega) (by omega)) ?_)
   refine L_yes rfl rfl rfl g11 (X_rd (rlA (vs := [_, _]) ag50 sz50 rfl rfl rfl) ?_)
   refine L_yes rfl rfl rfl g11 (X_p (p_fieldo fo49_4 rfl rfl) ?_)
   refine L_yes rfl rfl rfl g11 (X_rd (rl ag3 rfl rfl rfl) ?_)
   refine L_yes rfl rfl rfl g11 (X_p (p_fieldo fo49_4 rfl rfl) ?_)
   refine L_yes rfl rfl rfl g11 (X_rd (rl ag3 rfl rfl rfl) ?_)
   first | refine L_yes rfl rfl rfl g11 (X_p (p_sub' rfl rfl rfl (by unfold InI; omega)) ?_) | refine L_yes rfl rfl rfl g11 (X_p (p_sub rfl rfl rfl) ?_)
   refine L_yes rfl rfl rfl g11 (X_wr (w_callP rfl rfl rfl (fun w hg => fhas_c (forceT v d l (nowT v (k : Int)) (Fl.ptS (ptAt q k))).y ((ptAt q (k + 1)).vy - (ptAt q k).vy) w)) ?_)
   rintro _ _ ⟨rfl, rfl⟩
   refine L_yes rfl rfl rfl g11 (X_p (p_not rfl rfl) ?_)
   refine Lp rfl (p_pick_f rfl rfl g11 rfl) ?_
   refine Lm rfl rfl rfl ?_
   refine L_cases (d := 74) rfl ?_ ?_
   ·intro g12; have g12' := g12; try simp only [td] at g12'
    iterate 9 refine L_no rfl rfl rfl g12 ?_
    refine Lp rfl (p_pick_t rfl rfl g12 rfl) ?_
    refine Lm rfl rfl rfl ?_
    iterate 8 refine L_no rfl rfl rfl rfl ?_
    refine Lp rfl (p_pick_t rfl rfl rfl rfl) ?_
    refine Lm rfl rfl rfl ?_
    iterate 8 refine L_no rfl rfl rfl rfl ?_
    refine Lp rfl (p_pick_t rfl rfl rfl rfl) ?_
    refine Lm rfl rfl rfl ?_
    iterate 8 refine L_no rfl rfl rfl rfl ?_
    refine Lp rfl (p_pick_t rfl rfl rfl rfl) ?_
    refine L_then (kp [3, 10, 12, 36, 37, 38, 114] rfl) ?_
    refine V_cond_t rfl rfl ?_
    refine Vs rfl ?_
    refine Lm rfl rfl rfl ?_
    first | refine Lp rfl (p_add' rfl rfl rfl (by unfold InI; omega)) ?_ | refine Lp rfl (p_add rfl rfl rfl) ?_
    iterate 2 refine La rfl rfl rfl ?_
    refine L_then (kp [8, 9] rfl) ?_
    refine V_ret (blk_r (then_r (then_r (blk_r (then_r ?_)))))
    refine Leave.nil (.tmp rfl (.tmp rfl .nil)) ?_
    first | (rw [own_all he0 hz (fun j hj => hall j (by omega)), he0]; rfl) | (have hst : stepB v d l q k = false := (by rw [Bool.eq_false_iff]; intro hs9; simp only [stepB, goesB, Bool.and_eq_true, decide_eq_true_eq] at hs9; obtain ⟨s1, s2, s3, s4, s5, s6⟩ := hs9; first | omega | (simp_all; done)); rw [own_hit he0 hz (by omega) hall hst, he0]; rfl)
   intro g12; have g12' := g12; try simp only [td] at g12'
   refine L_yes rfl rfl rfl g12 (X_p (p_idxao ar52 rfl rfl rfl (by omega) (by omega)) ?_)
   refine L_yes rfl rfl rfl g12 (X_rd (rlA (vs := [_, _]) ag50 sz50 rfl rfl rfl) ?_)
   refine L_yes rfl rfl rfl g12 (X_p (p_fieldo fo49_5 rfl rfl) ?_)
   refine L_yes rfl rfl rfl g12 (X_rd (rl ag3 rfl rfl rfl) ?_)
   refine L_yes rfl rfl rfl g12 (X_p (p_fieldo fo49_5 rfl rfl) ?_)
   refine L_yes rfl rfl rfl g12 (X_rd (rl ag3 rfl rfl rfl) ?_)
   first | refine L_yes rfl rfl rfl g12 (X_p (p_sub' rfl rfl rfl (by unfold InI; omega)) ?_) | refine L_yes rfl rfl rfl g12 (X_p (p_sub rfl rfl rfl) ?_)
   refine L_yes rfl rfl rfl g12 (X_wr (w_callP rfl rfl rfl (fun w hg => fhas_c (forceT v d l (nowT v (k : Int)) (Fl.ptS (ptAt q k))).z ((ptAt q (k + 1)).vz - (ptAt q k).vz) w)) ?_)
   rintro _ _ ⟨rfl, rfl⟩
   refine L_yes rfl rfl rfl g12 (X_p (p_not rfl rfl) ?_)
   refine Lp rfl (p_pick_f rfl rfl g12 rfl) ?_
   refine Lm rfl rfl rfl ?_
   refine L_cases (d := 85) rfl ?_ ?_
   ·intro g13; have g13' := g13; try simp only [td] at g13'
    iterate 8 refine L_no rfl rfl rfl g13 ?_
    refine Lp rfl (p_pick_t rfl rfl g13 rfl) ?_
    refine Lm rfl rfl rfl ?_
    iterate 8 refine L_no rfl rfl rfl rfl ?_
    refine Lp rfl (p_pick_t rfl rfl rfl rfl) ?_
    refine Lm rfl rfl rfl ?_
    iterate 8 refine L_no rfl rfl rfl rfl ?_
    refine Lp rfl (p_pick_t rfl rfl rfl rfl) ?_
    refine L_then (kp [3, 10, 12, 36, 37, 38, 114] rfl) ?_
    refine V_cond_t rfl rfl ?_
    refine Vs rfl ?_
    refine Lm rfl rfl rfl ?_
    first | refine Lp rfl (p_add' rfl rfl rfl (by unfold InI; omega)) ?_ | refine Lp rfl (p_add rfl rfl rfl) ?_
    iterate 2 refine La rfl rfl rfl ?_
    refine L_then (kp [8, 9] rfl) ?_
    refine V_ret (blk_r (then_r (then_r (blk_r (then_r ?_)))))
    refine Leave.nil (.tmp rfl (.tmp rfl .nil)) ?_
    first | (rw [own_all he0 hz (fun j hj => hall j (by omega)), he0]; rfl) | (have hst : stepB v d l q k = false := (by rw [Bool.eq_false_iff]; intro hs9; simp only [stepB, goesB, Bool.and_eq_true, decide_eq_true_eq] at hs9; obtain ⟨s1, s2, s3, s4, s5, s6⟩ := hs9; first | omega | (simp_all; done)); rw [own_hit he0 hz (by omega) hall hst, he0]; rfl)
   intro g13; have g13' := g13; try simp only [td] at g13'
   refine L_yes rfl rfl rfl g13 (X_p (p_fieldo fo49_0 rfl rfl) ?_)
   refine L_yes rfl rfl rfl g13 (X_rd (rl ag3 rfl rfl rfl) ?_)
   refine L_yes rfl rfl rfl g13 (X_p (p_fieldo fo49_0 rfl rfl) ?_)
   refine L_yes rfl rfl rfl g13 (X_rd (rl ag3 rfl rfl rfl) ?_)
   refine L_yes rfl rfl rfl g13 (X_p (p_fieldo fo49_3 rfl rfl) ?_)
   refine L_yes rfl rfl rfl g13 (X_rd (rl ag3 rfl rfl rfl) ?_)
   first | refine L_yes rfl rfl rfl g13 (X_p (p_add' rfl rfl rfl (by unfold InI; omega)) ?_) | refine L_yes rfl rfl rfl g13 (X_p (p_add rfl rfl rfl) ?_)
   refine L_yes rfl rfl rfl g13 (X_p (p_neq rfl rfl rfl) ?_)
   refine Lp rfl (p_pick_f rfl rfl g13 rfl) ?_
   refine Lm rfl rfl rfl ?_
   refine L_cases (d := 95) rfl ?_ ?_
   ·intro g14; have g14' := g14; try simp only [td] at g14'
    iterate 8 refine L_no rfl rfl rfl g14 ?_
    refine Lp rfl (p_pick_t rfl rfl g14 rfl) ?_
    refine Lm rfl rfl rfl ?_
    iterate 8 refine L_no rfl rfl rfl rfl ?_
    refine Lp rfl (p_pick_t rfl rfl rfl rfl) ?_
    refine L_then (kp [3, 10, 12, 36, 37, 38, 114] rfl) ?_
    refine V_cond_t rfl rfl ?_
    refine Vs rfl ?_
    refine Lm rfl rfl rfl ?_
    first | refine Lp rfl (p_add' rfl rfl rfl (by unfold InI; omega)) ?_ | refine Lp rfl (p_add rfl rfl rfl) ?_
    iterate 2 refine La rfl rfl rfl ?_
    refine L_then (kp [8, 9] rfl) ?_
    refine V_ret (blk_r (then_r (then_r (blk_r (then_r ?_)))))
    refine Leave.nil (.tmp rfl (.tmp rfl .nil)) ?_
    first | (rw [own_all he0 hz (fun j hj => hall j (by omega)), he0]; rfl) | (have hst : stepB v d l q k = false := (by rw [Bool.eq_false_iff]; intro hs9; simp only [stepB, goesB, Bool.and_eq_true, decide_eq_true_eq] at hs9; obtain ⟨s1, s2, s3, s4, s5, s6⟩ := hs9; first | omega | (simp_all; done)); rw [own_hit he0 hz (by omega) hall hst, he0]; rfl)
   intro g14; have g14' := g14; try simp only [td] at g14'
   refine L_yes rfl rfl rfl g14 (X_p (p_fieldo fo49_1 rfl rfl) ?_)
   refine L_yes rfl rfl rfl g14 (X_rd (rl ag3 rfl rfl rfl) ?_)
   refine L_yes rfl rfl rfl g14 (X_p (p_fieldo fo49_1 rfl rfl) ?_)
   refine L_yes rfl rfl rfl g14 (X_rd (rl ag3 rfl rfl rfl) ?_)
   refine L_yes rfl rfl rfl g14 (X_p (p_fieldo fo49_4 rfl rfl) ?_)
   refine L_yes rfl rfl rfl g14 (X_rd (rl ag3 rfl rfl rfl) ?_)
   first | refine L_yes rfl rfl rfl g14 (X_p (p_add' rfl rfl rfl (by unfold InI; omega)) ?_) | refine L_yes rfl rfl rfl g14 (X_p (p_add rfl rfl rfl) ?_)
   refine L_yes rfl rfl rfl g14 (X_p (p_neq rfl rfl rfl) ?_)
   refine Lp rfl (p_pick_f rfl rfl g14 rfl) ?_
   refine Lm rfl rfl rfl ?_
   refine L_cases (d := 105) rfl ?_ ?_
   ·intro g15; have g15' := g15; try simp only [td] at g15'
    iterate 8 refine L_no rfl rfl rfl g15 ?_
    refine Lp rfl (p_pick_t rfl rfl g15 rfl) ?_
    refine L_then (kp [3, 10, 12, 36, 37, 38, 114] rfl) ?_
    refine V_cond_t rfl rfl ?_
    refine Vs rfl ?_
    refine Lm rfl rfl rfl ?_
    first | refine Lp rfl (p_add' rfl rfl rfl (by unfold InI; omega)) ?_ | refine Lp rfl (p_add rfl rfl rfl) ?_
    iterate 2 refine La rfl rfl rfl ?_
    refine L_then (kp [8, 9] rfl) ?_
    refine V_ret (blk_r (then_r (then_r (blk_r (then_r ?_)))))
    refine Leave.nil (.tmp rfl (.tmp rfl .nil)) ?_
    first | (rw [own_all he0 hz (fun j hj => hall j (by omega)), he0]; rfl) | (have hst : stepB v d l q k = false := (by rw [Bool.eq_false_iff]; intro hs9; simp only [stepB, goesB, Bool.and_eq_true, decide_eq_true_eq] at hs9; obtain ⟨s1, s2, s3, s4, s5, s6⟩ := hs9; first | omega | (simp_all; done)); rw [own_hit he0 hz (by omega) hall hst, he0]; rfl)
   intro g15; have g15' := g15; try simp only [td] at g15'
   refine L_yes rfl rfl rfl g15 (X_p (p_fieldo fo49_2 rfl rfl) ?_)
   refine L_yes rfl rfl rfl g15 (X_rd (rl ag3 rfl rfl rfl) ?_)
   refine L_yes rfl rfl rfl g15 (X_p (p_fieldo fo49_2 rfl rfl) ?_)
   refine L_yes rfl rfl rfl g15 (X_rd (rl ag3 rfl rfl rfl) ?_)
   refine L_yes rfl rfl rfl g15 (X_p (p_fieldo fo49_5 rfl rfl) ?_)
   refine L_yes rfl rfl rfl g15 (X_rd (rl ag3 rfl rfl rfl) ?_)
   first | refine L_yes rfl rfl rfl g15 (X_p (p_add' rfl rfl rfl (by unfold InI; omega)) ?_) | refine L_yes rfl rfl rfl g15 (X_p (p_add rfl rfl rfl) ?_)
   refine L_yes rfl rfl rfl g15 (X_p (p_neq rfl rfl rfl) ?_)
   refine Lp rfl (p_pick_f rfl rfl g15 rfl) ?_
   refine L_then (kp [3, 10, 12, 36, 37, 38, 114] rfl) ?_
   refine V_cond rfl ?_ ?_
   ·intro c4; try simp only [td] at c4
    refine Vs rfl ?_
    refine Lm rfl rfl rfl ?_
    first | refine Lp rfl (p_add' rfl rfl rfl (by unfold InI; omega)) ?_ | refine Lp rfl (p_add rfl rfl rfl) ?_
    iterate 2 refine La rfl rfl rfl ?_
    refine L_then (kp [8, 9] rfl) ?_
    refine V_ret (blk_r (then_r (then_r (blk_r (then_r ?_)))))
    refine Leave.nil (.tmp rfl (.tmp rfl .nil)) ?_
    first | (rw [own_all he0 hz (fun j hj => hall j (by omega)), he0]; rfl) | (have hst : stepB v d l q k = false := (by rw [Bool.eq_false_iff]; intro hs9; simp only [stepB, goesB, Bool.and_eq_true, decide_eq_true_eq] at hs9; obtain ⟨s1, s2, s3, s4, s5, s6⟩ := hs9; first | omega | (simp_all; done)); rw [own_hit he0 hz (by omega) hall hst, he0]; rfl)
   intro c4; try simp only [td] at c4
   refine V_skip (blk_n (then_n ?_))
   refine V_region rfl ?_
   first | refine Lp rfl (p_add' rfl rfl rfl (by unfold InI; omega)) ?_ | refine Lp rfl (p_add rfl rfl rfl) ?_
   refine Lm rfl rfl rfl ?_
   refine L_keep (kp [3, 10, 36, 37, 38] rfl) (then_n ?_)
   refine ⟨k + 1, ?_, ?_, (.cons rfl (.cons rfl (.cons rfl (.cons rfl (.cons rfl (.nil _)))))), (by repeat (first | exact List.nil_sublist _ | exact List.Sublist.refl _ | apply List.Sublist.cons_cons | apply List.Sublist.cons | apply List.sublist_append_of_sublist_right)), rfl⟩
   ·refine ⟨by omega, fun j hj => ?_⟩
    by_cases e : j < k
    ·exact hall j e
    have ej : j = k := by omega
    rw [ej]
    simp only [stepB, goesB, Bool.and_eq_true, decide_eq_true_eq]
    refine ⟨?_, ?_, ?_, ?_, ?_, ?_⟩ <;> first | omega | (simp_all; done)
   omega
  refine (.go (E' := [(4, _)]) rfl (.plain rfl) (w_alloc zr52 rfl) rfl ?_)
  rintro _ _ ⟨b6, hb6, rfl, rfl⟩
  refine ⟨(.cons rfl (.plain rfl) (rlA (vs := [_, _, _, _, _, _]) ag49 sz49 rfl rfl rfl) .nil), ?_⟩
  refine D_wr (.go (E' := [(4, _)]) rfl (.plain rfl) (w_callP rfl rfl rfl (fun w hg => fbody_c v d l av pv qv _ hGV (k : Int) (by omega) xf _ _ w (hg.own (xf, _) (by repeat first | exact mH | apply mT)) (hv.good hg))) rfl ?_)
  rintro _ _ ⟨rfl, rfl⟩
  refine ⟨(.cons rfl (.plain rfl) (rlA (vs := [_, _, _, _, _, _]) ag49 sz49 rfl rfl rfl) .nil), ?_⟩
  refine D_wr (.go (E' := []) rfl (.plain rfl) (w_callP rfl rfl rfl (fun w hg => fpoint_c (ptAt q k) w)) rfl ?_)
  rintro _ _ ⟨rfl, rfl⟩
  refine ⟨.nil, ?_⟩
  refine D_wr (.go (E' := []) rfl (.plain rfl) (w_callP rfl rfl rfl (fun w hg => fforce_c v d l av pv qv _ hGV hdd hGB (nowT v (k : Int)) (Fl.ptS (ptAt q k)) (now_ph hGV k) (hfar k (by omega)) xf _ _ w (hg.own (xf, _) (by repeat first | exact mH | apply mT)) (hv.good hg) (hL.good hg))) rfl ?_)
  rintro _ _ ⟨rfl, rfl⟩
  refine ⟨.nil, ?_⟩
  refine D_wr (.go (E' := []) rfl (.plain rfl) (ws (cs' := [_, _, _, _, _, _]) sz52 rfl rfl rfl rfl rfl rfl rfl) rfl ?_)
  rintro _ _ ⟨rfl, rfl⟩
  refine ⟨.nil, ?_⟩
  refine D_then (kp [3, 10, 12, 13, 14, 15, 36, 37, 38] rfl) ?_
  refine Vs rfl ?_
  refine Lp rfl (p_idxao ar52 rfl rfl rfl (by omega) (by omega)) ?_
  refine Lr rfl (rlA (vs := [_, _]) ag50 sz50 rfl rfl rfl) ?_
  refine Lp rfl (p_fieldo fo49_3 rfl rfl) ?_
  refine Lr rfl (rl ag3 rfl rfl rfl) ?_
  refine Lp rfl (p_fieldo fo49_3 rfl rfl) ?_
  refine Lr rfl (rl ag3 rfl rfl rfl) ?_
  first | refine Lp rfl (p_sub' rfl rfl rfl (by unfold InI; omega)) ?_ | refine Lp rfl (p_sub rfl rfl rfl) ?_
  refine Lc rfl rfl rfl rfl (fun w hg => fhas_c (forceT v d l (nowT v (k : Int)) (Fl.ptS (ptAt q k))).x ((ptAt q (k + 1)).vx - (ptAt q k).vx) w) ?_
  refine Lp rfl (p_not rfl rfl) ?_
  refine Lm rfl rfl rfl ?_
  refine L_cases (d := 63) rfl ?_ ?_
  ·intro g16; have g16' := g16; try simp only [td] at g16'
   iterate 9 refine L_no rfl rfl rfl g16 ?_
   refine Lp rfl (p_pick_t rfl rfl g16 rfl) ?_
   refine Lm rfl rfl rfl ?_
   iterate 9 refine L_no rfl rfl rfl rfl ?_
   refine Lp rfl (p_pick_t rfl rfl rfl rfl) ?_
   refine Lm rfl rfl rfl ?_
   iterate 8 refine L_no rfl rfl rfl rfl ?_
   refine Lp rfl (p_pick_t rfl rfl rfl rfl) ?_
   refine Lm rfl rfl rfl ?_
   iterate 8 refine L_no rfl rfl rfl rfl ?_
   refine Lp rfl (p_pick_t rfl rfl rfl rfl) ?_
   refine Lm rfl rfl rfl ?_
   iterate 8 refine L_no rfl rfl rfl rfl ?_
   refine Lp rfl (p_pick_t rfl rfl rfl rfl) ?_
   refine L_then (kp [3, 10, 12, 36, 37, 38, 114] rfl) ?_
   refine V_cond_t rfl rfl ?_
   refine Vs rfl ?_
   refine Lm rfl rfl rfl ?_
   first | refine Lp rfl (p_add' rfl rfl rfl (by unfold InI; omega)) ?_ | refine Lp rfl (p_add rfl rfl rfl) ?_
   iterate 2 refine La rfl rfl rfl ?_
   refine L_then (kp [8, 9] rfl) ?_
   refine V_ret (blk_r (then_r (then_r (blk_r (then_r ?_)))))
   refine Leave.nil (.tmp rfl (.tmp rfl .nil)) ?_
   first | (rw [own_all he0 hz (fun j hj => hall j (by omega)), he0]; rfl) | (have hst : stepB v d l q k = false := (by rw [Bool.eq_false_iff]; intro hs9; simp only [stepB, goesB, Bool.and_eq_true, decide_eq_true_eq] at hs9; obtain ⟨s1, s2, s3, s4, s5, s6⟩ := hs9; first | omega | (simp_all; done)); rw [own_hit he0 hz (by omega) hall hst, he0]; rfl)
  intro g16; have g16' := g16; try simp only [td] at g16'
  refine L_yes rfl rfl rfl g16 (X_p (p_idxao ar52 rfl rfl rfl (by omega) (by omega)) ?_)
  refine L_yes rfl rfl rfl g16 (X_rd (rlA (vs := [_, _]) ag50 sz50 rfl rfl rfl) ?_)
  refine L_yes rfl rfl rfl g16 (X_p (p_fieldo fo49_4 rfl rfl) ?_)
  refine L_yes rfl rfl rfl g16 (X_rd (rl ag3 rfl rfl rfl) ?_)
  refine L_yes rfl rfl rfl g16 (X_p (p_fieldo fo49_4 rfl rfl) ?_)
  refine L_yes rfl rfl rfl g16 (X_rd (rl ag3 rfl rfl rfl) ?_)
  first | refine L_yes rfl rfl rfl g16 (X_p (p_sub' rfl rfl rfl (by unfold InI; omega)) ?_) | refine L_yes rfl rfl rfl g16 (X_p (p_sub rfl rfl rfl) ?_)
  refine L_yes rfl rfl rfl g16 (X_wr (w_callP rfl rfl rfl (fun w hg => fhas_c (forceT v d l (nowT v (k : Int)) (Fl.ptS (ptAt q k))).y ((ptAt q (k + 1)).vy - (ptAt q k).vy) w)) ?_)
  rintro _ _ ⟨rfl, rfl⟩
  refine L_yes rfl rfl rfl g16 (X_p (p_not rfl rfl) ?_)
  refine Lp rfl (p_pick_f rfl rfl g16 rfl) ?_
  refine Lm rfl rfl rfl ?_
  refine L_cases (d := 74) rfl ?_ ?_
  ·intro g17; have g17' := g17; try simp only [td] at g17'
   iterate 9 refine L_no rfl rfl rfl g17 ?_
   refine Lp rfl (p_pick_t rfl rfl g17 rfl) ?_
   refine Lm rfl rfl rfl ?_
   iterate 8 refine L_no rfl rfl rfl rfl ?_
   refine Lp rfl (p_pick_t rfl rfl rfl rfl) ?_
   refine Lm rfl rfl rfl ?_
   iterate 8 refine L_no rfl rfl rfl rfl ?_
   refine Lp rfl (p_pick_t rfl rfl rfl rfl) ?_
   refine Lm rfl rfl rfl ?_
   iterate 8 refine L_no rfl rfl rfl rfl ?_
   refine Lp rfl (p_pick_t rfl rfl rfl rfl) ?_
   refine L_then (kp [3, 10, 12, 36, 37, 38, 114] rfl) ?_
   refine V_cond_t rfl rfl ?_
   refine Vs rfl ?_
   refine Lm rfl rfl rfl ?_
   first | refine Lp rfl (p_add' rfl rfl rfl (by unfold InI; omega)) ?_ | refine Lp rfl (p_add rfl rfl rfl) ?_
   iterate 2 refine La rfl rfl rfl ?_
   refine L_then (kp [8, 9] rfl) ?_
   refine V_ret (blk_r (then_r (then_r (blk_r (then_r ?_)))))
   refine Leave.nil (.tmp rfl (.tmp rfl .nil)) ?_
   first | (rw [own_all he0 hz (fun j hj => hall j (by omega)), he0]; rfl) | (have hst : stepB v d l q k = false := (by rw [Bool.eq_false_iff]; intro hs9; simp only [stepB, goesB, Bool.and_eq_true, decide_eq_true_eq] at hs9; obtain ⟨s1, s2, s3, s4, s5, s6⟩ := hs9; first | omega | (simp_all; done)); rw [own_hit he0 hz (by omega) hall hst, he0]; rfl)
  intro g17; have g17' := g17; try simp only [td] at g17'
  refine L_yes rfl rfl rfl g17 (X_p (p_idxao ar52 rfl rfl rfl (by omega) (by omega)) ?_)
  refine L_yes rfl rfl rfl g17 (X_rd (rlA (vs := [_, _]) ag50 sz50 rfl rfl rfl) ?_)
  refine L_yes rfl rfl rfl g17 (X_p (p_fieldo fo49_5 rfl rfl) ?_)
  refine L_yes rfl rfl rfl g17 (X_rd (rl ag3 rfl rfl rfl) ?_)
  refine L_yes rfl rfl rfl g17 (X_p (p_fieldo fo49_5 rfl rfl) ?_)
  refine L_yes rfl rfl rfl g17 (X_rd (rl ag3 rfl rfl rfl) ?_)
  first | refine L_yes rfl rfl rfl g17 (X_p (p_sub' rfl rfl rfl (by unfold InI; omega)) ?_) | refine L_yes rfl rfl rfl g17 (X_p (p_sub rfl rfl rfl) ?_)
  refine L_yes rfl rfl rfl g17 (X_wr (w_callP rfl rfl rfl (fun w hg => fhas_c (forceT v d l (nowT v (k : Int)) (Fl.ptS (ptAt q k))).z ((ptAt q (k + 1)).vz - (ptAt q k).vz) w)) ?_)
  rintro _ _ ⟨rfl, rfl⟩
  refine L_yes rfl rfl rfl g17 (X_p (p_not rfl rfl) ?_)
  refine Lp rfl (p_pick_f rfl rfl g17 rfl) ?_
  refine Lm rfl rfl rfl ?_
  refine L_cases (d := 85) rfl ?_ ?_
  ·intro g18; have g18' := g18; try simp only [td] at g18'
   iterate 8 refine L_no rfl rfl rfl g18 ?_
   refine Lp rfl (p_pick_t rfl rfl g18 rfl) ?_
   refine Lm rfl rfl rfl ?_
   iterate 8 refine L_no rfl rfl rfl rfl ?_
   refine Lp rfl (p_pick_t rfl rfl rfl rfl) ?_
   refine Lm rfl rfl rfl ?_
   iterate 8 refine L_no rfl rfl rfl rfl ?_
   refine Lp rfl (p_pick_t rfl rfl rfl rfl) ?_
   refine L_then (kp [3, 10, 12, 36, 37, 38, 114] rfl) ?_
   refine V_cond_t rfl rfl ?_
   refine Vs rfl ?_
   refine Lm rfl rfl rfl ?_
   first | refine Lp rfl (p_add' rfl rfl rfl (by unfold InI; omega)) ?_ | refine Lp rfl (p_add rfl rfl rfl) ?_
   iterate 2 refine La rfl rfl rfl ?_
   refine L_then (kp [8, 9] rfl) ?_
   refine V_ret (blk_r (then_r (then_r (blk_r (then_r ?_)))))
   refine Leave.nil (.tmp rfl (.tmp rfl .nil)) ?_
   first | (rw [own_all he0 hz (fun j hj => hall j (by omega)), he0]; rfl) | (have hst : stepB v d l q k = false := (by rw [Bool.eq_false_iff]; intro hs9; simp only [stepB, goesB, Bool.and_eq_true, decide_eq_true_eq] at hs9; obtain ⟨s1, s2, s3, s4, s5, s6⟩ := hs9; first | omega | (simp_all; done)); rw [own_hit he0 hz (by omega) hall hst, he0]; rfl)
  intro g18; have g18' := g18; try simp only [td] at g18'
  refine L_yes rfl rfl rfl g18 (X_p (p_fieldo fo49_0 rfl rfl) ?_)
  refine L_yes rfl rfl rfl g18 (X_rd (rl ag3 rfl rfl rfl) ?_)
  refine L_yes rfl rfl rfl g18 (X_p (p_fieldo fo49_0 rfl rfl) ?_)
  refine L_yes rfl rfl rfl g18 (X_rd (rl ag3 rfl rfl rfl) ?_)
  refine L_yes rfl rfl rfl g18 (X_p (p_fieldo fo49_3 rfl rfl) ?_)
  refine L_yes rfl rfl rfl g18 (X_rd (rl ag3 rfl rfl rfl) ?_)
  first | refine L_yes rfl rfl rfl g18 (X_p (p_add' rfl rfl rfl (by unfold InI; omega)) ?_) | refine L_yes rfl rfl rfl g18 (X_p (p_add rfl rfl rfl) ?_)
  refine L_yes rfl rfl rfl g18 (X_p (p_neq rfl rfl rfl) ?_)
  refine Lp rfl (p_pick_f rfl rfl g18 rfl) ?_
  refine Lm rfl rfl rfl ?_
  refine L_cases (d := 95) rfl ?_ ?_
  ·intro g19; have g19' := g19; try simp only [td] at g19'
   iterate 8 refine L_no rfl rfl rfl g19 ?_
   refine Lp rfl (p_pick_t rfl rfl g19 rfl) ?_
   refine Lm rfl rfl rfl ?_
   iterate 8 refine L_no rfl rfl rfl rfl ?_
   refine Lp rfl (p_pick_t rfl rfl rfl rfl) ?_
   refine L_then (kp [3, 10, 12, 36, 37, 38, 114] rfl) ?_
   refine V_cond_t rfl rfl ?_
   refine Vs rfl ?_
   refine Lm rfl rfl rfl ?_
   first | refine Lp rfl (p_add' rfl rfl rfl (by unfold InI; omega)) ?_ | refine Lp rfl (p_add rfl rfl rfl) ?_
   iterate 2 refine La rfl rfl rfl ?_
   refine L_then (kp [8, 9] rfl) ?_
   refine V_ret (blk_r (then_r (then_r (blk_r (then_r ?_)))))
   refine Leave.nil (.tmp rfl (.tmp rfl .nil)) ?_
   first | (rw [own_all he0 hz (fun j hj => hall j (by omega)), he0]; rfl) | (have hst : stepB v d l q k = false := (by rw [Bool.eq_false_iff]; intro hs9; simp only [stepB, goesB, Bool.and_eq_true, decide_eq_true_eq] at hs9; obtain ⟨s1, s2, s3, s4, s5, s6⟩ := hs9; first | omega | (simp_all; done)); rw [own_hit he0 hz (by omega) hall hst, he0]; rfl)
  intro g19; have g19' := g19; try simp only [td] at g19'
  refine L_yes rfl rfl rfl g19 (X_p (p_fieldo fo49_1 rfl rfl) ?_)
  refine L_yes rfl rfl rfl g19 (X_rd (rl ag3 rfl rfl rfl) ?_)
  refine L_yes rfl rfl rfl g19 (X_p (p_fieldo fo49_1 rfl rfl) ?_)
  refine L_yes rfl rfl rfl g19 (X_rd (rl ag3 rfl rfl rfl) ?_)
  refine L_yes rfl rfl rfl g19 (X_p (p_fieldo fo49_4 rfl rfl) ?_)
  refine L_yes rfl rfl rfl g19 (X_rd (rl ag3 rfl rfl rfl) ?_)
  first | refine L_yes rfl rfl rfl g19 (X_p (p_add' rfl rfl rfl (by unfold InI; omega)) ?_) | refine L_yes rfl rfl rfl g19 (X_p (p_add rfl rfl rfl) ?_)
  refine L_yes rfl rfl rfl g19 (X_p (p_neq rfl rfl rfl) ?_)
  refine Lp rfl (p_pick_f rfl rfl g19 rfl) ?_
  refine Lm rfl rfl rfl ?_
  refine L_cases (d := 105) rfl ?_ ?_
  ·intro g20; have g20' := g20; try simp only [td] at g20'
   iterate 8 refine L_no rfl rfl rfl g20 ?_
   refine Lp rfl (p_pick_t rfl rfl g20 rfl) ?_
   refine L_then (kp [3, 10, 12, 36, 37, 38, 114] rfl) ?_
   refine V_cond_t rfl rfl ?_
   refine Vs rfl ?_
   refine Lm rfl rfl rfl ?_
   first | refine Lp rfl (p_add' rfl rfl rfl (by unfold InI; omega)) ?_ | refine Lp rfl (p_add rfl rfl rfl) ?_
   iterate 2 refine La rfl rfl rfl ?_
   refine L_then (kp [8, 9] rfl) ?_
   refine V_ret (blk_r (then_r (then_r (blk_r (then_r ?_)))))
   refine Leave.nil (.tmp rfl (.tmp rfl .nil)) ?_
   first | (rw [own_all he0 hz (fun j hj => hall j (by omega)), he0]; rfl) | (have hst : stepB v d l q k = false := (by rw [Bool.eq_false_iff]; intro hs9; simp only [stepB, goesB, Bool.and_eq_true, decide_eq_true_eq] at hs9; obtain ⟨s1, s2, s3, s4, s5, s6⟩ := hs9; first | omega | (simp_all; done)); rw [own_hit he0 hz (by omega) hall hst, he0]; rfl)
  intro g20; have g20' := g20; try simp only [td] at g20'
  refine L_yes rfl rfl rfl g20 (X_p (p_fieldo fo49_2 rfl rfl) ?_)
  refine L_yes rfl rfl rfl g20 (X_rd (rl ag3 rfl rfl rfl) ?_)
  refine L_yes rfl rfl rfl g20 (X_p (p_fieldo fo49_2 rfl rfl) ?_)
  refine L_yes rfl rfl rfl g20 (X_rd (rl ag3 rfl rfl rfl) ?_)
  refine L_yes rfl rfl rfl g20 (X_p (p_fieldo fo49_5 rfl rfl) ?_)
  refine L_yes rfl rfl rfl g20 (X_rd (rl ag3 rfl rfl rfl) ?_)
  first | refine L_yes rfl rfl rfl g20 (X_p (p_add' rfl rfl rfl (by unfold InI; omega)) ?_) | refine L_yes rfl rfl rfl g20 (X_p (p_add rfl rfl rfl) ?_)
  refine L_yes rfl rfl rfl g20 (X_p (p_neq rfl rfl rfl) ?_)
  refine Lp rfl (p_pick_f rfl rfl g20 rfl) ?_
  refine L_then (kp [3, 10, 12, 36, 37, 38, 114] rfl) ?_
  refine V_cond rfl ?_ ?_
  ·intro c5; try simp only [td] at c5
   refine Vs rfl ?_
   refine Lm rfl rfl rfl ?_
   first | refine Lp rfl (p_add' rfl rfl rfl (by unfold InI; omega)) ?_ | refine Lp rfl (p_add rfl rfl rfl) ?_
   iterate 2 refine La rfl rfl rfl ?_
   refine L_then (kp [8, 9] rfl) ?_
   refine V_ret (blk_r (then_r (then_r (blk_r (then_r ?_)))))
   refine Leave.nil (.tmp rfl (.tmp rfl .nil)) ?_
   first | (rw [own_all he0 hz (fun j hj => hall j (by omega)), he0]; rfl) | (have hst : stepB v d l q k = false := (by rw [Bool.eq_false_iff]; intro hs9; simp only [stepB, goesB, Bool.and_eq_true, decide_eq_true_eq] at hs9; obtain ⟨s1, s2, s3, s4, s5, s6⟩ := hs9; first | omega | (simp_all; done)); rw [own_hit he0 hz (by omega) hall hst, he0]; rfl)
  intro c5; try simp only [td] at c5
  refine V_skip (blk_n (then_n ?_))
  refine V_region rfl ?_
  first | refine Lp rfl (p_add' rfl rfl rfl (by unfold InI; omega)) ?_ | refine Lp rfl (p_add rfl rfl rfl) ?_
  refine Lm rfl rfl rfl ?_
  refine L_keep (kp [3, 10, 36, 37, 38] rfl) (then_n ?_)
  refine ⟨k + 1, ?_, ?_, (.cons rfl (.cons rfl (.cons rfl (.cons rfl (.cons rfl (.nil _)))))), (by repeat (first | exact List.nil_sublist _ | exact List.Sublist.refl _ | apply List.Sublist.cons_cons | apply List.Sublist.cons | apply List.sublist_append_of_sublist_right)), rfl⟩
  ·refine ⟨by omega, fun j hj => ?_⟩
   by_cases e : j < k
   ·exact hall j e
   have ej : j = k := by omega
   rw [ej]
   simp only [stepB, goesB, Bool.and_eq_true, decide_eq_true_eq]
   refine ⟨?_, ?_, ?_, ?_, ?_, ?_⟩ <;> first | omega | (simp_all; done)
  omega
 intro c1; try simp only [td] at c1
 refine V_exit (then_e (then_e (blk_e rfl (then_n ?_))))
 refine Vs rfl ?_
 iterate 2 refine La rfl rfl rfl ?_
 refine L_then (kp [8, 9] rfl) ?_
 refine V_ret ?_
 refine Leave.nil (.tmp rfl (.tmp rfl .nil)) ?_
 first | (rw [own_all he0 hz (fun j hj => hall j (by omega)), he0]; rfl) | (have hst : stepB v d l q k = false := (by rw [Bool.eq_false_iff]; intro hs9; simp only [stepB, goesB, Bool.and_eq_true, decide_eq_true_eq] at hs9; obtain ⟨s1, s2, s3, s4, s5, s6⟩ := hs9; first | omega | (simp_all; done)); rw [own_hit he0 hz (by omega) hall hst, he0]; rfl)
theorem fOwn_c (v : Veh) (d : Dir) (l : List Fl.Band) (av pv qv bv : Value) (w : World) (hv : VehR w (VehV v av pv qv) v) (hl : BdsR w bv l) (q : List Fl.Pt) (x : Value) (hq : PtsR w x q) : FnP Tryz.prog 4 [VehV v av pv qv, .agg #[.int .i64 d.x, .int .i64 d.y, .int .i64 d.z], bv, x] w (.tuple #[.int .i64 (ownI v d l q), .int .i64 (ownE v d l q)]) := by
 by_cases h : askedF v d l = 0
 ·by_cases hs : strayE q = 0
  ·by_cases hz : ptAt q 0 = ptZ
   ·exact fOwnD_c v d l av pv qv bv w hv hl q x hq h hs hz
   exact fOwnC_c v d l av pv qv bv w hv hl q x hq h hs hz
  exact fOwnB_c v d l av pv qv bv w hv hl q x hq h hs
 exact fOwnE_c v d l av pv qv bv w hv hl q x hq h
end Go.Proofs.YtbncegfgjbdheabGreat
