/- Joined texts. -/
import Derived.Test.YtbncegfgjbdheaaGreatZal
/- YtbncegfgjbdheaaGreat: the reference: checks; winds and air. -/
set_option linter.all false
namespace Go.Proofs.YtbncegfgjbdheaaGreat
open Go.Vc Go.Tk Go.Fl
set_option maxRecDepth 100000
set_option maxHeartbeats 8000000 in
theorem rCheck_c (v : Veh) (x : Value) (w : World) (hv : VehR w x v) : FnP Tryz.prog 64 [x] w (.tuple #[.int .i64 (checkV v).1, .int .i64 (checkV v).2.1, .int .i64 (checkV v).2.2]) := by
 have hV := hv
 obtain ⟨av, pv, qv, rfl, hsa, hsp, hsq⟩ := hv.ex
 obtain ⟨aa, ac, rfl, hac, hae⟩ := hsa.ex
 obtain ⟨pa, pc, rfl, hpc, hpe⟩ := hsp.ex
 obtain ⟨qa, qc, rfl, hqc, hqe⟩ := hsq.ex
 have hla := hV.la
 have hlp := hV.lp
 have hlq := hV.lq
 have hnm := hV.name
 simp only [List.length_map] at hV hac hpc hqc hsq hsp hsa ⊢
 refine fn_pure Tryz.func64 rfl (by kernel_rfl) Tryz.ntmps64 Tryz.results64 rfl ?_
 refine Vs rfl ?_
 refine Lw rfl (w_box rfl rfl) ?_
 rintro _ _ ⟨b1, hb1, rfl, rfl⟩
 iterate 3 refine La rfl rfl rfl ?_
 refine L_then (kp [1] rfl) ?_
 refine V_seq ?_
 refine Vs rfl ?_
 refine Lp rfl (p_fieldo fo28_0 rfl rfl) ?_
 refine Lr rfl (rl ag9 rfl rfl rfl) ?_
 refine Lc rfl rfl rfl rfl (fun w hg => rname_c _ hnm w) ?_
 refine Lp rfl (p_not rfl rfl) ?_
 refine L_then (kp [1, 14] rfl) ?_
 refine V_cond rfl ?_ ?_
 ·intro c1; try simp only [td] at c1
  refine Vs rfl ?_
  iterate 3 refine La rfl rfl rfl ?_
  refine L_then (kp [2, 3, 4] rfl) ?_
  refine V_ret (then_r ?_)
  refine Leave.nil (.tmp rfl (.tmp rfl (.tmp rfl .nil))) ?_
  first | (rw [checkV_name (by assumption)]; rfl) | (rw [checkV_grav (by assumption) (by assumption)]; rfl) | (rw [checkV_long (by assumption) (by assumption) (by omega)]; rfl) | (rw [ck_air (e := errAir v k.toNat) hd hk0 (by omega) hkp rfl hne]; rfl) | (rw [ck_ph hd hk0 ha0 hp12 (by omega) hkp h7, h7]; rfl) | (rw [ck_pc (e := errPc v k.toNat) hd hk0 ha0 hp12 hp0 hq6 (by omega) hkp rfl hne]; rfl) | (rw [checkV_phs hd ha0 (by assumption)]; rfl) | (rw [checkV_pcs hd ha0 hp12 hp0 (by omega)]; rfl) | (rw [checkV_ok hd ha0 hp12 hp0 hq6 hq0]; rfl)
 intro c1; try simp only [td] at c1
 refine V_skip (then_n ?_)
 refine V_seq ?_
 refine Vs rfl ?_
 refine Lp rfl (p_fieldo fo28_1 rfl rfl) ?_
 refine Lr rfl (rlA (vs := [_, _]) ag23 sz23 rfl rfl rfl) ?_
 refine Lc rfl rfl rfl rfl (fun w hg => rwithin_c v.gravity _ _ w) ?_
 refine Lp rfl (p_not rfl rfl) ?_
 refine L_then (kp [1, 18] rfl) ?_
 refine V_cond rfl ?_ ?_
 ·intro c2; try simp only [td] at c2
  refine Vs rfl ?_
  iterate 3 refine La rfl rfl rfl ?_
  refine L_then (kp [2, 3, 4] rfl) ?_
  refine V_ret (then_r ?_)
  refine Leave.nil (.tmp rfl (.tmp rfl (.tmp rfl .nil))) ?_
  first | (rw [checkV_name (by assumption)]; rfl) | (rw [checkV_grav (by assumption) (by assumption)]; rfl) | (rw [checkV_long (by assumption) (by assumption) (by omega)]; rfl) | (rw [ck_air (e := errAir v k.toNat) hd hk0 (by omega) hkp rfl hne]; rfl) | (rw [ck_ph hd hk0 ha0 hp12 (by omega) hkp h7, h7]; rfl) | (rw [ck_pc (e := errPc v k.toNat) hd hk0 ha0 hp12 hp0 hq6 (by omega) hkp rfl hne]; rfl) | (rw [checkV_phs hd ha0 (by assumption)]; rfl) | (rw [checkV_pcs hd ha0 hp12 hp0 (by omega)]; rfl) | (rw [checkV_ok hd ha0 hp12 hp0 hq6 hq0]; rfl)
 intro c2; try simp only [td] at c2
 refine V_skip (then_n ?_)
 refine V_seq ?_
 refine Vs rfl ?_
 refine Lp rfl (p_fieldo fo28_2 rfl rfl) ?_
 refine Lr rfl (rl ag24 rfl rfl rfl) ?_
 refine Lp rfl (p_len isl24 rfl rfl) ?_
 refine Lp rfl (p_gtr rfl rfl rfl) ?_
 refine L_then (kp [1, 22] rfl) ?_
 refine V_cond rfl ?_ ?_
 ·intro c3; try simp only [td] at c3
  refine Vs rfl ?_
  iterate 3 refine La rfl rfl rfl ?_
  refine L_then (kp [2, 3, 4] rfl) ?_
  refine V_ret (then_r ?_)
  refine Leave.nil (.tmp rfl (.tmp rfl (.tmp rfl .nil))) ?_
  first | (rw [checkV_name (by assumption)]; rfl) | (rw [checkV_grav (by assumption) (by assumption)]; rfl) | (rw [checkV_long (by assumption) (by assumption) (by omega)]; rfl) | (rw [ck_air (e := errAir v k.toNat) hd hk0 (by omega) hkp rfl hne]; rfl) | (rw [ck_ph hd hk0 ha0 hp12 (by omega) hkp h7, h7]; rfl) | (rw [ck_pc (e := errPc v k.toNat) hd hk0 ha0 hp12 hp0 hq6 (by omega) hkp rfl hne]; rfl) | (rw [checkV_phs hd ha0 (by assumption)]; rfl) | (rw [checkV_pcs hd ha0 hp12 hp0 (by omega)]; rfl) | (rw [checkV_ok hd ha0 hp12 hp0 hq6 hq0]; rfl)
 intro c3; try simp only [td] at c3
 have hd : HeadV v := ⟨by assumption, by assumption, by omega⟩
 refine V_skip (then_n ?_)
 refine V_seq ?_
 refine Vs rfl ?_
 refine La rfl rfl rfl ?_
 refine L_then (kp [1, 5] rfl) ?_
 refine V_block ?_
 refine V_loop0 (γ := Int) (kp [1] rfl) (fun k => [(5, .int .i64 k)]) (fun k => 0 ≤ k ∧ k ≤ v.air.length ∧ ∀ j : Nat, (j : Int) < k → errAir v j = 0) (fun k => (v.air.length - k).toNat) (0) (.cons rfl (.nil _)) (⟨by omega, by omega, fun j hj => by omega⟩) ?_
 rintro k hi
 obtain ⟨hk0, hk1, hkp⟩ := hi
 refine V_seq ?_
 refine Vs rfl ?_
 refine Lm rfl rfl rfl ?_
 refine Lp rfl (p_fieldo fo28_2 rfl rfl) ?_
 refine Lr rfl (rl ag24 rfl rfl rfl) ?_
 refine Lp rfl (p_len isl24 rfl rfl) ?_
 refine Lp rfl (p_lss rfl rfl rfl) ?_
 refine L_then (kp [1, 5, 27] rfl) ?_
 refine V_cond rfl ?_ ?_
 ·intro c4; try simp only [td] at c4
  refine V_skip (then_n ?_)
  refine V_seq ?_
  refine V_block ?_
  refine Vs rfl ?_
  refine Lr rfl (rlA (vs := [_, _, _, _, _, _]) ag28 sz28 rfl rfl rfl) ?_
  refine Lm rfl rfl rfl ?_
  refine Lc rfl rfl rfl rfl (fun w hg => rair_c k v _ w (hV.good hg) (by omega)) ?_
  refine La rfl rfl rfl ?_
  refine L_then (kp [1, 5, 6] rfl) ?_
  refine Vs rfl ?_
  refine Lm rfl rfl rfl ?_
  refine Lp rfl (p_neq rfl rfl rfl) ?_
  refine L_then (kp [1, 5, 6, 34] rfl) ?_
  refine V_cond rfl ?_ ?_
  ·intro c5; try simp only [td] at c5
   have hne : errAir v k.toNat ≠ 0 := c5
   refine Vs rfl ?_
   iterate 2 refine Lm rfl rfl rfl ?_
   iterate 3 refine La rfl rfl rfl ?_
   refine L_then (kp [2, 3, 4] rfl) ?_
   refine V_ret (blk_r (then_r (then_r (blk_r (then_r ?_)))))
   refine Leave.nil (.tmp rfl (.tmp rfl (.tmp rfl .nil))) ?_
   first | (rw [checkV_name (by assumption)]; rfl) | (rw [checkV_grav (by assumption) (by assumption)]; rfl) | (rw [checkV_long (by assumption) (by assumption) (by omega)]; rfl) | (rw [ck_air (e := errAir v k.toNat) hd hk0 (by omega) hkp rfl hne]; rfl) | (rw [ck_ph hd hk0 ha0 hp12 (by omega) hkp h7, h7]; rfl) | (rw [ck_pc (e := errPc v k.toNat) hd hk0 ha0 hp12 hp0 hq6 (by omega) hkp rfl hne]; rfl) | (rw [checkV_phs hd ha0 (by assumption)]; rfl) | (rw [checkV_pcs hd ha0 hp12 hp0 (by omega)]; rfl) | (rw [checkV_ok hd ha0 hp12 hp0 hq6 hq0]; rfl)
  intro c5; try simp only [td] at c5
  have he0 : errAir v k.toNat = 0 := by first | exact c5 | omega
  refine V_skip (blk_n (then_n ?_))
  refine V_region rfl ?_
  refine Lm rfl rfl rfl ?_
  first | refine Lp rfl (p_add' rfl rfl rfl (by unfold InI; omega)) ?_ | refine Lp rfl (p_add rfl rfl rfl) ?_
  refine La rfl rfl rfl ?_
  refine L_keep (kp [1, 5] rfl) (then_n ?_)
  refine ⟨k + 1, ?_, ?_, (.cons rfl (.cons rfl (.nil _))), (by repeat (first | exact List.Sublist.refl _ | apply List.Sublist.cons_cons | apply List.Sublist.cons | apply List.sublist_append_of_sublist_right)), rfl⟩
  ·refine ⟨by omega, by omega, fun j hj => ?_⟩; by_cases e : (j : Int) < k
   ·exact hkp j e
   have ej : j = k.toNat := by omega
   rw [ej]; exact he0
  omega
 intro c4; try simp only [td] at c4
 have ha0 : ∀ j : Nat, j < v.air.length → errAir v j = 0 := fun j hj => hkp j (by omega)
 refine V_exit (then_e (then_e (blk_e rfl (then_n ?_))))
 refine V_seq ?_
 refine Vs rfl ?_
 refine Lp rfl (p_fieldo fo28_3 rfl rfl) ?_
 refine Lr rfl (rl ag25 rfl rfl rfl) ?_
 refine Lp rfl (p_len isl25 rfl rfl) ?_
 refine Lc rfl rfl rfl rfl (fun w hg => r2in_c _ _ _ w) ?_
 refine Lp rfl (p_not rfl rfl) ?_
 refine L_then (kp [1, 41] rfl) ?_
 refine V_cond rfl ?_ ?_
 ·intro c6; try simp only [td] at c6
  refine Vs rfl ?_
  iterate 3 refine La rfl rfl rfl ?_
  refine L_then (kp [2, 3, 4] rfl) ?_
  refine V_ret (then_r ?_)
  refine Leave.nil (.tmp rfl (.tmp rfl (.tmp rfl .nil))) ?_
  first | (rw [checkV_name (by assumption)]; rfl) | (rw [checkV_grav (by assumption) (by assumption)]; rfl) | (rw [checkV_long (by assumption) (by assumption) (by omega)]; rfl) | (rw [ck_air (e := errAir v k.toNat) hd hk0 (by omega) hkp rfl hne]; rfl) | (rw [ck_ph hd hk0 ha0 hp12 (by omega) hkp h7, h7]; rfl) | (rw [ck_pc (e := errPc v k.toNat) hd hk0 ha0 hp12 hp0 hq6 (by omega) hkp rfl hne]; rfl) | (rw [checkV_phs hd ha0 (by assumption)]; rfl) | (rw [checkV_pcs hd ha0 hp12 hp0 (by omega)]; rfl) | (rw [checkV_ok hd ha0 hp12 hp0 hq6 hq0]; rfl)
 intro c6; try simp only [td] at c6
 have hp12 : oP v.phases.length 1 12 = false := by assumption
 refine V_skip (then_n ?_)
 refine V_seq ?_
 refine Vs rfl ?_
 refine La rfl rfl rfl ?_
 refine L_then (kp [1, 7] rfl) ?_
 refine V_block ?_
 refine V_loop0 (γ := Int) (kp [1] rfl) (fun k => [(7, .int .i64 k)]) (fun k => 0 ≤ k ∧ k ≤ v.phases.length ∧ ∀ j : Nat, (j : Int) < k → errPh v j = 0) (fun k => (v.phases.length - k).toNat) (0) (.cons rfl (.nil _)) (⟨by omega, by omega, fun j hj => by omega⟩) ?_
 rintro k hi
 obtain ⟨hk0, hk1, hkp⟩ := hi
 refine V_seq ?_
 refine Vs rfl ?_
 refine Lm rfl rfl rfl ?_
 refine Lp rfl (p_fieldo fo28_3 rfl rfl) ?_
 refine Lr rfl (rl ag25 rfl rfl rfl) ?_
 refine Lp rfl (p_len isl25 rfl rfl) ?_
 refine Lp rfl (p_lss rfl rfl rfl) ?_
 refine L_then (kp [1, 7, 46] rfl) ?_
 refine V_cond rfl ?_ ?_
 ·intro c7; try simp only [td] at c7
  obtain ⟨tb, rfl, hc⟩ := hpe k.toNat _ (getD_cells (d := phZ) (by omega))
  refine V_skip (then_n ?_)
  refine V_seq ?_
  refine V_block ?_
  refine Vs rfl ?_
  refine Lp rfl (p_fieldo fo28_3 rfl rfl) ?_
  refine Lr rfl (rl ag25 rfl rfl rfl) ?_
  refine Lm rfl rfl rfl ?_
  refine Lp rfl (p_idx es25 rfl rfl rfl (by omega) (by omega)) ?_
  refine Lr rfl (r_loadBA ag76 sz76 rfl rfl hc rfl List.not_mem_nil) ?_
  refine Lc rfl rfl rfl rfl (fun w hg => (show FnP _ _ _ w (.int .i64 (errPh v k.toNat)) from rphase_c (v.phases.getD k.toNat phZ) w)) ?_
  refine La rfl rfl rfl ?_
  refine L_then (kp [1, 7, 8] rfl) ?_
  refine Vs rfl ?_
  refine Lm rfl rfl rfl ?_
  refine Lp rfl (p_neq rfl rfl rfl) ?_
  refine L_then (kp [1, 7, 8, 56] rfl) ?_
  refine V_cond rfl ?_ ?_
  ·intro c8; try simp only [td] at c8
   have hne : errPh v k.toNat ≠ 0 := c8
   have h7 : errPh v k.toNat = 7 := by
    unfold errPh at *
    split at hne <;> simp_all
   refine Vs rfl ?_
   iterate 2 refine Lm rfl rfl rfl ?_
   iterate 3 refine La rfl rfl rfl ?_
   refine L_then (kp [2, 3, 4] rfl) ?_
   refine V_ret (blk_r (then_r (then_r (blk_r (then_r ?_)))))
   refine Leave.nil (.tmp rfl (.tmp rfl (.tmp rfl .nil))) ?_
   first | (rw [checkV_name (by assumption)]; rfl) | (rw [checkV_grav (by assumption) (by assumption)]; rfl) | (rw [checkV_long (by assumption) (by assumption) (by omega)]; rfl) | (rw [ck_air (e := errAir v k.toNat) hd hk0 (by omega) hkp rfl hne]; rfl) | (rw [ck_ph hd hk0 ha0 hp12 (by omega) hkp h7, h7]; rfl) | (rw [ck_pc (e := errPc v k.toNat) hd hk0 ha0 hp12 hp0 hq6 (by omega) hkp rfl hne]; rfl) | (rw [checkV_phs hd ha0 (by assumption)]; rfl) | (rw [checkV_pcs hd ha0 hp12 hp0 (by omega)]; rfl) | (rw [checkV_ok hd ha0 hp12 hp0 hq6 hq0]; rfl)
  intro c8; try simp only [td] at c8
  have he0 : errPh v k.toNat = 0 := by first | exact c8 | omega
  refine V_skip (blk_n (then_n ?_))
  refine V_region rfl ?_
  refine Lm rfl rfl rfl ?_
  first | refine Lp rfl (p_add' rfl rfl rfl (by unfold InI; omega)) ?_ | refine Lp rfl (p_add rfl rfl rfl) ?_
  refine La rfl rfl rfl ?_
  refine L_keep (kp [1, 7] rfl) (then_n ?_)
  refine ⟨k + 1, ?_, ?_, (.cons rfl (.cons rfl (.nil _))), (by repeat (first | exact List.Sublist.refl _ | apply List.Sublist.cons_cons | apply List.Sublist.cons | apply List.sublist_append_of_sublist_right)), rfl⟩
  ·refine ⟨by omega, by omega, fun j hj => ?_⟩; by_cases e : (j : Int) < k
   ·exact hkp j e
   have ej : j = k.toNat := by omega
   rw [ej]; exact he0
  omega
 intro c7; try simp only [td] at c7
 have hp0 : ∀ j : Nat, j < v.phases.length → errPh v j = 0 := fun j hj => hkp j (by omega)
 refine V_exit (then_e (then_e (blk_e rfl (then_n ?_))))
 refine V_seq ?_
 refine Vs rfl ?_
 refine Lp rfl (p_fieldo fo28_4 rfl rfl) ?_
 refine Lr rfl (rl ag26 rfl rfl rfl) ?_
 refine Lp rfl (p_len isl26 rfl rfl) ?_
 refine Lp rfl (p_gtr rfl rfl rfl) ?_
 refine L_then (kp [1, 62] rfl) ?_
 refine V_cond rfl ?_ ?_
 ·intro c9; try simp only [td] at c9
  refine Vs rfl ?_
  iterate 3 refine La rfl rfl rfl ?_
  refine L_then (kp [2, 3, 4] rfl) ?_
  refine V_ret (then_r ?_)
  refine Leave.nil (.tmp rfl (.tmp rfl (.tmp rfl .nil))) ?_
  first | (rw [checkV_name (by assumption)]; rfl) | (rw [checkV_grav (by assumption) (by assumption)]; rfl) | (rw [checkV_long (by assumption) (by assumption) (by omega)]; rfl) | (rw [ck_air (e := errAir v k.toNat) hd hk0 (by omega) hkp rfl hne]; rfl) | (rw [ck_ph hd hk0 ha0 hp12 (by omega) hkp h7, h7]; rfl) | (rw [ck_pc (e := errPc v k.toNat) hd hk0 ha0 hp12 hp0 hq6 (by omega) hkp rfl hne]; rfl) | (rw [checkV_phs hd ha0 (by assumption)]; rfl) | (rw [checkV_pcs hd ha0 hp12 hp0 (by omega)]; rfl) | (rw [checkV_ok hd ha0 hp12 hp0 hq6 hq0]; rfl)
 intro c9; try simp only [td] at c9
 have hq6 : v.pieces.length ≤ 6 := by omega
 refine V_skip (then_n ?_)
 refine V_seq ?_
 refine Vs rfl ?_
 refine La rfl rfl rfl ?_
 refine L_then (kp [1, 9] rfl) ?_
 refine V_block ?_
 refine V_loop0 (γ := Int) (kp [1] rfl) (fun k => [(9, .int .i64 k)]) (fun k => 0 ≤ k ∧ k ≤ v.pieces.length ∧ ∀ j : Nat, (j : Int) < k → errPc v j = 0) (fun k => (v.pieces.length - k).toNat) (0) (.cons rfl (.nil _)) (⟨by omega, by omega, fun j hj => by omega⟩) ?_
 rintro k hi
 obtain ⟨hk0, hk1, hkp⟩ := hi
 refine V_seq ?_
 refine Vs rfl ?_
 refine Lm rfl rfl rfl ?_
 refine Lp rfl (p_fieldo fo28_4 rfl rfl) ?_
 refine Lr rfl (rl ag26 rfl rfl rfl) ?_
 refine Lp rfl (p_len isl26 rfl rfl) ?_
 refine Lp rfl (p_lss rfl rfl rfl) ?_
 refine L_then (kp [1, 9, 67] rfl) ?_
 refine V_cond rfl ?_ ?_
 ·intro c10; try simp only [td] at c10
  refine V_skip (then_n ?_)
  refine V_seq ?_
  refine V_block ?_
  refine Vs rfl ?_
  refine Lr rfl (rlA (vs := [_, _, _, _, _, _]) ag28 sz28 rfl rfl rfl) ?_
  refine Lm rfl rfl rfl ?_
  refine Lc rfl rfl rfl rfl (fun w hg => rpiece_c k v _ w (hV.good hg) (by omega)) ?_
  refine La rfl rfl rfl ?_
  refine L_then (kp [1, 9, 10] rfl) ?_
  refine Vs rfl ?_
  refine Lm rfl rfl rfl ?_
  refine Lp rfl (p_neq rfl rfl rfl) ?_
  refine L_then (kp [1, 9, 10, 74] rfl) ?_
  refine V_cond rfl ?_ ?_
  ·intro c11; try simp only [td] at c11
   have hne : errPc v k.toNat ≠ 0 := c11
   refine Vs rfl ?_
   iterate 2 refine Lm rfl rfl rfl ?_
   iterate 3 refine La rfl rfl rfl ?_
   refine L_then (kp [2, 3, 4] rfl) ?_
   refine V_ret (blk_r (then_r (then_r (blk_r (then_r ?_)))))
   refine Leave.nil (.tmp rfl (.tmp rfl (.tmp rfl .nil))) ?_
   first | (rw [checkV_name (by assumption)]; rfl) | (rw [checkV_grav (by assumption) (by assumption)]; rfl) | (rw [checkV_long (by assumption) (by assumption) (by omega)]; rfl) | (rw [ck_air (e := errAir v k.toNat) hd hk0 (by omega) hkp rfl hne]; rfl) | (rw [ck_ph hd hk0 ha0 hp12 (by omega) hkp h7, h7]; rfl) | (rw [ck_pc (e := errPc v k.toNat) hd hk0 ha0 hp12 hp0 hq6 (by omega) hkp rfl hne]; rfl) | (rw [checkV_phs hd ha0 (by assumption)]; rfl) | (rw [checkV_pcs hd ha0 hp12 hp0 (by omega)]; rfl) | (rw [checkV_ok hd ha0 hp12 hp0 hq6 hq0]; rfl)
  intro c11; try simp only [td] at c11
  have he0 : errPc v k.toNat = 0 := by first | exact c11 | omega
  refine V_skip (blk_n (then_n ?_))
  refine V_region rfl ?_
  refine Lm rfl rfl rfl ?_
  first | refine Lp rfl (p_add' rfl rfl rfl (by unfold InI; omega)) ?_ | refine Lp rfl (p_add rfl rfl rfl) ?_
  refine La rfl rfl rfl ?_
  refine L_keep (kp [1, 9] rfl) (then_n ?_)
  refine ⟨k + 1, ?_, ?_, (.cons rfl (.cons rfl (.nil _))), (by repeat (first | exact List.Sublist.refl _ | apply List.Sublist.cons_cons | apply List.Sublist.cons | apply List.sublist_append_of_sublist_right)), rfl⟩
  ·refine ⟨by omega, by omega, fun j hj => ?_⟩; by_cases e : (j : Int) < k
   ·exact hkp j e
   have ej : j = k.toNat := by omega
   rw [ej]; exact he0
  omega
 intro c10; try simp only [td] at c10
 have hq0 : ∀ j : Nat, j < v.pieces.length → errPc v j = 0 := fun j hj => hkp j (by omega)
 refine V_exit (then_e (then_e (blk_e rfl (then_n ?_))))
 refine Vs rfl ?_
 iterate 3 refine La rfl rfl rfl ?_
 refine L_then (kp [2, 3, 4] rfl) ?_
 refine V_ret ?_
 refine Leave.nil (.tmp rfl (.tmp rfl (.tmp rfl .nil))) ?_
 first | (rw [checkV_name (by assumption)]; rfl) | (rw [checkV_grav (by assumption) (by assumption)]; rfl) | (rw [checkV_long (by assumption) (by assumption) (by omega)]; rfl) | (rw [ck_air (e := errAir v k.toNat) hd hk0 (by omega) hkp rfl hne]; rfl) | (rw [ck_ph hd hk0 ha0 hp12 (by omega) hkp h7, h7]; rfl) | (rw [ck_pc (e := errPc v k.toNat) hd hk0 ha0 hp12 hp0 hq6 (by omega) hkp rfl hne]; rfl) | (rw [checkV_phs hd ha0 (by assumption)]; rfl) | (rw [checkV_pcs hd ha0 hp12 hp0 (by omega)]; rfl) | (rw [checkV_ok hd ha0 hp12 hp0 hq6 hq0]; rfl)
theorem rCheckDir_c (d : Dir) (w : World) : FnP Tryz.prog 65 [.agg #[.int .i64 d.x, .int .i64 d.y, .int .i64 d.z]] w (.int .i64 (dirE d)) := by
 refine fn_pure Tryz.func65 rfl (by kernel_rfl) Tryz.ntmps65 Tryz.results65 rfl ?_
 refine Vs rfl ?_
 refine Lw rfl (w_box rfl rfl) ?_
 rintro _ _ ⟨b1, hb1, rfl, rfl⟩
 refine La rfl rfl rfl ?_
 refine L_then (kp [1] rfl) ?_
 refine V_seq ?_
 refine Vs rfl ?_
 refine Lp rfl (p_fieldo fo30_0 rfl rfl) ?_
 refine Lr rfl (rl ag3 rfl rfl rfl) ?_
 refine Lc rfl rfl rfl rfl (fun w hg => r2in_c _ _ _ w) ?_
 refine Lp rfl (p_not rfl rfl) ?_
 refine Lm rfl rfl rfl ?_
 refine L_cases (d := 7) rfl ?_ ?_
 ·intro g1; have g1' := g1; try simp only [td] at g1'
  iterate 4 refine L_no rfl rfl rfl g1 ?_
  refine Lp rfl (p_pick_t rfl rfl g1 rfl) ?_
  refine Lm rfl rfl rfl ?_
  iterate 4 refine L_no rfl rfl rfl rfl ?_
  refine Lp rfl (p_pick_t rfl rfl rfl rfl) ?_
  refine L_then (kp [1, 18] rfl) ?_
  refine V_cond_t rfl rfl ?_
  refine Vs rfl ?_
  refine La rfl rfl rfl ?_
  refine L_then (kp [2] rfl) ?_
  refine V_ret (then_r ?_)
  refine Leave.nil (.tmp rfl .nil) ?_
  show Value.int .i64 _ = _
  congr 1
  unfold dirE
  simp [*]
 intro g1; have g1' := g1; try simp only [td] at g1'
 refine L_yes rfl rfl rfl g1 (X_p (p_fieldo fo30_1 rfl rfl) ?_)
 refine L_yes rfl rfl rfl g1 (X_rd (rl ag3 rfl rfl rfl) ?_)
 refine L_yes rfl rfl rfl g1 (X_wr (w_callP rfl rfl rfl (fun w hg => r2in_c _ _ _ w)) ?_)
 rintro _ _ ⟨rfl, rfl⟩
 refine L_yes rfl rfl rfl g1 (X_p (p_not rfl rfl) ?_)
 refine Lp rfl (p_pick_f rfl rfl g1 rfl) ?_
 refine Lm rfl rfl rfl ?_
 refine L_cases (d := 13) rfl ?_ ?_
 ·intro g2; have g2' := g2; try simp only [td] at g2'
  iterate 4 refine L_no rfl rfl rfl g2 ?_
  refine Lp rfl (p_pick_t rfl rfl g2 rfl) ?_
  refine L_then (kp [1, 18] rfl) ?_
  refine V_cond_t rfl rfl ?_
  refine Vs rfl ?_
  refine La rfl rfl rfl ?_
  refine L_then (kp [2] rfl) ?_
  refine V_ret (then_r ?_)
  refine Leave.nil (.tmp rfl .nil) ?_
  show Value.int .i64 _ = _
  congr 1
  unfold dirE
  simp [*]
 intro g2; have g2' := g2; try simp only [td] at g2'
 refine L_yes rfl rfl rfl g2 (X_p (p_fieldo fo30_2 rfl rfl) ?_)
 refine L_yes rfl rfl rfl g2 (X_rd (rl ag3 rfl rfl rfl) ?_)
 refine L_yes rfl rfl rfl g2 (X_wr (w_callP rfl rfl rfl (fun w hg => r2in_c _ _ _ w)) ?_)
 rintro _ _ ⟨rfl, rfl⟩
 refine L_yes rfl rfl rfl g2 (X_p (p_not rfl rfl) ?_)
 refine Lp rfl (p_pick_f rfl rfl g2 rfl) ?_
 refine L_then (kp [1, 18] rfl) ?_
 refine V_cond rfl ?_ ?_
 ·intro c1; try simp only [td] at c1
  refine Vs rfl ?_
  refine La rfl rfl rfl ?_
  refine L_then (kp [2] rfl) ?_
  refine V_ret (then_r ?_)
  refine Leave.nil (.tmp rfl .nil) ?_
  show Value.int .i64 _ = _
  congr 1
  unfold dirE
  simp [*]
 intro c1; try simp only [td] at c1
 refine V_skip (then_n ?_)
 refine V_seq ?_
 refine Vs rfl ?_
 have q1 := mul_abs (a := d.x) (b := d.x) (A := 10000) (B := 10000) (by omega) (by simp only [oP_false] at *; omega) (by simp only [oP_false] at *; omega)
 have q2 := mul_abs (a := d.y) (b := d.y) (A := 10000) (B := 10000) (by omega) (by simp only [oP_false] at *; omega) (by simp only [oP_false] at *; omega)
 have q3 := mul_abs (a := d.z) (b := d.z) (A := 10000) (B := 10000) (by omega) (by simp only [oP_false] at *; omega) (by simp only [oP_false] at *; omega)
 refine Lp rfl (p_fieldo fo30_0 rfl rfl) ?_
 refine Lr rfl (rl ag3 rfl rfl rfl) ?_
 refine Lp rfl (p_fieldo fo30_0 rfl rfl) ?_
 refine Lr rfl (rl ag3 rfl rfl rfl) ?_
 refine Lp rfl (p_mul' rfl rfl rfl (by unfold InI; omega)) ?_
 refine Lp rfl (p_fieldo fo30_1 rfl rfl) ?_
 refine Lr rfl (rl ag3 rfl rfl rfl) ?_
 refine Lp rfl (p_fieldo fo30_1 rfl rfl) ?_
 refine Lr rfl (rl ag3 rfl rfl rfl) ?_
 refine Lp rfl (p_mul' rfl rfl rfl (by unfold InI; omega)) ?_
 first | refine Lp rfl (p_add' rfl rfl rfl (by unfold InI; omega)) ?_ | refine Lp rfl (p_add rfl rfl rfl) ?_
 refine Lp rfl (p_fieldo fo30_2 rfl rfl) ?_
 refine Lr rfl (rl ag3 rfl rfl rfl) ?_
 refine Lp rfl (p_fieldo fo30_2 rfl rfl) ?_
 refine Lr rfl (rl ag3 rfl rfl rfl) ?_
 refine Lp rfl (p_mul' rfl rfl rfl (by unfold InI; omega)) ?_
 first | refine Lp rfl (p_add' rfl rfl rfl (by unfold InI; omega)) ?_ | refine Lp rfl (p_add rfl rfl rfl) ?_
 refine Lc rfl rfl rfl rfl (fun w hg => r2in_c _ _ _ w) ?_
 refine Lp rfl (p_not rfl rfl) ?_
 refine L_then (kp [37] rfl) ?_
 refine V_cond rfl ?_ ?_
 ·intro c2; try simp only [td] at c2
  refine Vs rfl ?_
  refine La rfl rfl rfl ?_
  refine L_then (kp [2] rfl) ?_
  refine V_ret (then_r ?_)
  refine Leave.nil (.tmp rfl .nil) ?_
  show Value.int .i64 _ = _
  congr 1
  unfold dirE
  simp [*]
 intro c2; try simp only [td] at c2
 refine V_skip (then_n ?_)
 refine Vs rfl ?_
 refine La rfl rfl rfl ?_
 refine L_then (kp [2] rfl) ?_
 refine V_ret ?_
 refine Leave.nil (.tmp rfl .nil) ?_
 show Value.int .i64 _ = _
 congr 1
 unfold dirE
 simp [*]
theorem r1wind_c (n : Int) (w : World) : FnP Tryz.prog 115 [.int .i64 n] w (.bool (!(oP n (-20000) 20000))) := by
 refine fn_pure Tryz.func115 rfl (by kernel_rfl) Tryz.ntmps115 Tryz.results115 rfl ?_
 refine Vs rfl ?_
 refine La rfl rfl rfl ?_
 refine L_then (kp [0] rfl) ?_
 refine Vs rfl ?_
 refine Lm rfl rfl rfl ?_
 refine Lc rfl rfl rfl rfl (fun w hg => r1in_c _ _ _ w) ?_
 refine La rfl rfl rfl ?_
 refine L_then (kp [2] rfl) ?_
 refine V_ret ?_
 refine Leave.nil (.tmp rfl .nil) ?_
 rfl
theorem r1winds_c (s : Span) (w : World) : FnP Tryz.prog 105 [.agg #[.int .i64 s.lo, .int .i64 s.hi]] w (.bool (!(wB s))) := by
 refine fn_pure Tryz.func105 rfl (by kernel_rfl) Tryz.ntmps105 Tryz.results105 rfl ?_
 refine Vs rfl ?_
 refine Lw rfl (w_box rfl rfl) ?_
 rintro _ _ ⟨b1, hb1, rfl, rfl⟩
 refine La rfl rfl rfl ?_
 refine L_then (kp [1] rfl) ?_
 refine Vs rfl ?_
 refine Lp rfl (p_fieldo fo23_0 rfl rfl) ?_
 refine Lr rfl (rl ag3 rfl rfl rfl) ?_
 refine Lc rfl rfl rfl rfl (fun w hg => r1wind_c _ w) ?_
 refine Lm rfl rfl rfl ?_
 refine L_cases (d := 6) rfl ?_ ?_
 ·intro g1; have g1' := g1; try simp only [td] at g1'
  refine L_yes rfl rfl rfl g1 (X_p (p_fieldo fo23_1 rfl rfl) ?_)
  refine L_yes rfl rfl rfl g1 (X_rd (rl ag3 rfl rfl rfl) ?_)
  refine L_yes rfl rfl rfl g1 (X_wr (w_callP rfl rfl rfl (fun w hg => r1wind_c _ w)) ?_)
  rintro _ _ ⟨rfl, rfl⟩
  refine Lp rfl (p_pick_t rfl rfl g1 rfl) ?_
  refine Lm rfl rfl rfl ?_
  refine L_cases (d := 11) rfl ?_ ?_
  ·intro g2; have g2' := g2; try simp only [td] at g2'
   refine L_yes rfl rfl rfl g2 (X_p (p_fieldo fo23_0 rfl rfl) ?_)
   refine L_yes rfl rfl rfl g2 (X_rd (rl ag3 rfl rfl rfl) ?_)
   refine L_yes rfl rfl rfl g2 (X_p (p_fieldo fo23_1 rfl rfl) ?_)
   refine L_yes rfl rfl rfl g2 (X_rd (rl ag3 rfl rfl rfl) ?_)
   refine L_yes rfl rfl rfl g2 (X_p (p_leq rfl rfl rfl) ?_)
   refine Lp rfl (p_pick_t rfl rfl g2 rfl) ?_
   refine La rfl rfl rfl ?_
   refine L_then (kp [2] rfl) ?_
   refine V_ret ?_
   refine Leave.nil (.tmp rfl .nil) ?_
   show Value.bool _ = _
   unfold wB
   have e : decide (s.lo ≤ s.hi) = !(decide (s.hi < s.lo)) := by
    by_cases h : s.lo ≤ s.hi
    ·rw [decide_eq_true h, decide_eq_false (by omega)]; rfl
    rw [decide_eq_false h, decide_eq_true (by omega)]; rfl
   simp_all
  intro g2; have g2' := g2; try simp only [td] at g2'
  iterate 5 refine L_no rfl rfl rfl g2 ?_
  refine Lp rfl (p_pick_f rfl rfl g2 rfl) ?_
  refine La rfl rfl rfl ?_
  refine L_then (kp [2] rfl) ?_
  refine V_ret ?_
  refine Leave.nil (.tmp rfl .nil) ?_
  show Value.bool _ = _
  unfold wB
  have e : decide (s.lo ≤ s.hi) = !(decide (s.hi < s.lo)) := by
   by_cases h : s.lo ≤ s.hi
   ·rw [decide_eq_true h, decide_eq_false (by omega)]; rfl
   rw [decide_eq_false h, decide_eq_true (by omega)]; rfl
  simp_all
 intro g1; have g1' := g1; try simp only [td] at g1'
 iterate 3 refine L_no rfl rfl rfl g1 ?_
 refine Lp rfl (p_pick_f rfl rfl g1 rfl) ?_
 refine Lm rfl rfl rfl ?_
 iterate 5 refine L_no rfl rfl rfl rfl ?_
 refine Lp rfl (p_pick_f rfl rfl rfl rfl) ?_
 refine La rfl rfl rfl ?_
 refine L_then (kp [2] rfl) ?_
 refine V_ret ?_
 refine Leave.nil (.tmp rfl .nil) ?_
 show Value.bool _ = _
 unfold wB
 have e : decide (s.lo ≤ s.hi) = !(decide (s.hi < s.lo)) := by
  by_cases h : s.lo ≤ s.hi
  ·rw [decide_eq_true h, decide_eq_false (by omega)]; rfl
  rw [decide_eq_false h, decide_eq_true (by omega)]; rfl
 simp_all
set_option maxHeartbeats 4000000 in
theorem r1bands_c (l : List Fl.Band) (x : Value) (w : World) (hb : BdsR w x l) : FnP Tryz.prog 66 [x] w (.tuple #[.int .i64 (checkB l).1, .int .i64 (checkB l).2]) := by
 have hB := hb
 obtain ⟨ba, bc, rfl, hbc, hbe⟩ := hb.sl.ex
 have hlb := hb.len
 simp only [List.length_map] at hbc hB ⊢
 refine fn_pure Tryz.func66 rfl (by kernel_rfl) Tryz.ntmps66 Tryz.results66 rfl ?_
 refine Vs rfl ?_
 iterate 2 refine La rfl rfl rfl ?_
 refine L_then (kp [0] rfl) ?_
 refine V_seq ?_
 refine Vs rfl ?_
 refine Lm rfl rfl rfl ?_
 refine Lp rfl (p_len isl31 rfl rfl) ?_
 refine Lc rfl rfl rfl rfl (fun w hg => r1in_c _ _ _ w) ?_
 refine Lp rfl (p_not rfl rfl) ?_
 refine L_then (kp [0, 9] rfl) ?_
 refine V_cond rfl ?_ ?_
 ·intro c1; try simp only [td] at c1
  refine Vs rfl ?_
  iterate 2 refine La rfl rfl rfl ?_
  refine L_then (kp [2, 3] rfl) ?_
  refine V_ret (then_r ?_)
  refine Leave.nil (.tmp rfl (.tmp rfl .nil)) ?_
  first | (have e : checkB l = (0, 3) := if_pos (by assumption); rw [e]; rfl) | (rw [cb_hit h20 hk0 (by omega) hkp (errBd_2 (i := k.toNat) (by rw [← hq]; exact hne)) (by decide)]; rfl) | (rw [cb_hit h20 hk0 (by omega) hkp (errBd_7 (i := k.toNat) (by unfold bdAt; first | exact hq0 | omega) (by unfold bdAt; first | exact .inl (by omega) | exact .inr (.inl (by omega)) | exact .inr (.inr (.inl (by assumption))) | exact .inr (.inr (.inr (by assumption))))) (by decide)]; rfl) | (rw [cb_ok h20 (fun j hj => hkp j (by omega))]; rfl)
 intro c1; try simp only [td] at c1
 have h20 : oP l.length 1 20 = false := by assumption
 refine V_skip (then_n ?_)
 refine V_seq ?_
 refine Vs rfl ?_
 refine La rfl rfl rfl ?_
 refine L_then (kp [0, 4] rfl) ?_
 refine V_block ?_
 refine V_loop0 (γ := Int) (kp [0] rfl) (fun k => [(4, .int .i64 k)]) (fun k => 0 ≤ k ∧ k ≤ l.length ∧ ∀ j : Nat, (j : Int) < k → errBd l j = 0) (fun k => (l.length - k).toNat) (0) (.cons rfl (.nil _)) (⟨by omega, by omega, fun j hj => by omega⟩) ?_
 rintro k hi
 obtain ⟨hk0, hk1, hkp⟩ := hi
 refine V_seq ?_
 refine Vs rfl ?_
 iterate 2 refine Lm rfl rfl rfl ?_
 refine Lp rfl (p_len isl31 rfl rfl) ?_
 refine Lp rfl (p_lss rfl rfl rfl) ?_
 refine L_then (kp [0, 4, 13] rfl) ?_
 refine V_cond rfl ?_ ?_
 ·intro c2; try simp only [td] at c2
  obtain ⟨tb, rfl, hc⟩ := hbe k.toNat _ (getD_cells (d := bdZ) (by omega))
  have hc2 : 0 < k → cellsAt w (tb.add ((k - 1).toNat * 6)) (Fl.Band.cells (l.getD (k - 1).toNat bdZ)) := fun h => by
   obtain ⟨b9, e9, h9⟩ := hbe (k - 1).toNat _ (getD_cells (d := bdZ) (by omega))
   injection e9 with e9
   subst e9; exact h9
  refine V_skip (then_n ?_)
  refine V_seq ?_
  refine V_block ?_
  refine Vs rfl ?_
  refine La rfl rfl rfl ?_
  refine L_then (kp [0, 4, 5] rfl) ?_
  refine V_seq ?_
  refine Vs rfl ?_
  refine Lm rfl rfl rfl ?_
  refine Lp rfl (p_gtr rfl rfl rfl) ?_
  refine L_then (kp [0, 4, 5, 17] rfl) ?_
  refine V_midT (γ := Int) (kp [0, 4] rfl) (fun q => [(5, .int .i64 q)]) (fun q => []) (fun q => q = begB l k.toNat) ?_ ?_
  ·refine V_cond rfl ?_ ?_
   ·intro c3; try simp only [td] at c3
    refine V_region rfl ?_
    iterate 2 refine Lm rfl rfl rfl ?_
    first | refine Lp rfl (p_sub' rfl rfl rfl (by unfold InI; omega)) ?_ | refine Lp rfl (p_sub rfl rfl rfl) ?_
    refine Lp rfl (p_idx es31 rfl rfl rfl (by omega) (by omega)) ?_
    refine Lp rfl (p_field fo125_1 rfl rfl) ?_
    refine Lr rfl (r_loadB ag3 rfl rfl (hc2 (by omega) 1 _ rfl) List.not_mem_nil) ?_
    refine La rfl rfl rfl ?_
    refine L_then (kp [0, 4, 5] rfl) ?_
    refine ⟨(l.getD (k - 1).toNat bdZ).to, ?_, (.cons rfl (.cons rfl (.cons rfl (.nil _)))), (by (try dsimp only); repeat (first | exact HSub.nil _ | refine HSub.take (by repeat first | exact Take.head | apply Take.tail) ?_ | exact HSub.refl _ | refine HSub.drop ?_ | refine HSub.app ?_)), rfl⟩
    unfold begB bdAt; rw [if_neg (by omega), show k.toNat - 1 = (k - 1).toNat by omega]
   intro c3; try simp only [td] at c3
   refine V_skip (then_n ?_)
   refine ⟨0, ?_, (.cons rfl (.cons rfl (.cons rfl (.nil _)))), (by (try dsimp only); repeat (first | exact HSub.nil _ | refine HSub.take (by repeat first | exact Take.head | apply Take.tail) ?_ | exact HSub.refl _ | refine HSub.drop ?_ | refine HSub.app ?_)), rfl⟩
   unfold begB; rw [if_pos (by omega)]
  rintro q hq
  refine V_seq ?_
  refine Vs rfl ?_
  iterate 2 refine Lm rfl rfl rfl ?_
  refine Lp rfl (p_idx es31 rfl rfl rfl (by omega) (by omega)) ?_
  refine Lp rfl (p_field fo125_0 rfl rfl) ?_
  refine Lr rfl (r_loadB ag3 rfl rfl (hc 0 _ rfl) List.not_mem_nil) ?_
  refine Lm rfl rfl rfl ?_
  refine Lp rfl (p_neq rfl rfl rfl) ?_
  refine L_then (kp [0, 4, 30] rfl) ?_
  refine V_cond rfl ?_ ?_
  ·intro c4; try simp only [td] at c4
   have hne : (l.getD k.toNat bdZ).frm ≠ q := c4
   refine Vs rfl ?_
   refine Lm rfl rfl rfl ?_
   iterate 2 refine La rfl rfl rfl ?_
   refine L_then (kp [2, 3] rfl) ?_
   refine V_ret (then_r (blk_r (then_r (then_r (blk_r (then_r ?_))))))
   refine Leave.nil (.tmp rfl (.tmp rfl .nil)) ?_
   first | (have e : checkB l = (0, 3) := if_pos (by assumption); rw [e]; rfl) | (rw [cb_hit h20 hk0 (by omega) hkp (errBd_2 (i := k.toNat) (by rw [← hq]; exact hne)) (by decide)]; rfl) | (rw [cb_hit h20 hk0 (by omega) hkp (errBd_7 (i := k.toNat) (by unfold bdAt; first | exact hq0 | omega) (by unfold bdAt; first | exact .inl (by omega) | exact .inr (.inl (by omega)) | exact .inr (.inr (.inl (by assumption))) | exact .inr (.inr (.inr (by assumption))))) (by decide)]; rfl) | (rw [cb_ok h20 (fun j hj => hkp j (by omega))]; rfl)
  intro c4; try simp only [td] at c4
  have hq0 : (l.getD k.toNat bdZ).frm = begB l k.toNat := by rw [← hq]; first | exact c4 | omega
  refine V_skip (then_n ?_)
  refine V_seq (V_draw (.rd 0 (.rd 1 (.rd 2 (.rd 3 (.rd 4 (.rd 5 (.rd 6 (.rd 7 (.rd 8 (.rd 9 (.rd 10 (.rd 11 (.rd 12 (.rd 13 (.rd 14 (.rd 15 (.rd 16 (.rd 17 (.rd 18 (.rd 19 (.rd 20 (.rd 21 (.rd 22 (.rd 23 (.rd 24 (.wr 25 [23, 22, 21, 20, 18, 17, 16, 15, 14, 13, 12, 11, 10, 9, 8, 7, 6, 5, 4, 3, 2, 1, 0] (.rd 26 (.rd 27 (.rd 28 (.rd 29 (.rd 30 (.rd 31 (.rd 32 (.rd 33 (.wr 34 [32, 31, 30, 29, 27, 26, 24, 23, 22, 21, 20, 19, 18, 17, 16, 15, 14, 13, 12, 11, 10, 9, 8, 7, 6, 5, 4, 3, 2, 1, 0] (.rd 35 (.rd 36 .done))))))))))))))))))))))))))))))))))))) mixed (by kernel_rfl) rfl ?_)
  iterate 2 refine Dm rfl rfl rfl rfl ?_
  refine Dp rfl rfl (p_idx es31 rfl rfl rfl (by omega) (by omega)) ?_
  refine Dp rfl rfl (p_field fo125_1 rfl rfl) ?_
  refine Dr rfl rfl (r_loadB ag3 rfl rfl (hc 1 _ rfl) List.not_mem_nil) ?_
  iterate 2 refine Dm rfl rfl rfl rfl ?_
  refine Dp rfl rfl (p_idx es31 rfl rfl rfl (by omega) (by omega)) ?_
  refine Dp rfl rfl (p_field fo125_0 rfl rfl) ?_
  refine Dr rfl rfl (r_loadB ag3 rfl rfl (hc 0 _ rfl) List.not_mem_nil) ?_
  refine Dp rfl rfl (p_leq rfl rfl rfl) ?_
  refine Dm rfl rfl rfl rfl ?_
  refine D_cases (d := 43) rfl ?_ ?_
  ·intro g1; have g1' := g1; try simp only [td] at g1'
   iterate 6 refine D_no rfl (.mk' rfl rfl rfl g1) ?_
   refine Dp rfl rfl (p_pick_t rfl rfl g1 rfl) ?_
   refine Dm rfl rfl rfl rfl ?_
   iterate 5 refine D_no rfl (.mk' rfl rfl rfl rfl) ?_
   refine D_wr (.pass (E' := [(9, _), (4, _)]) rfl (.mk' rfl rfl rfl rfl) rfl ⟨(.cons rfl (.plain rfl) (r_loadB ag3 rfl rfl (hc 0 _ rfl) List.not_mem_nil) (.cons rfl (.plain rfl) (r_loadB ag3 rfl rfl (hc 1 _ rfl) List.not_mem_nil) .nil)), ?_⟩)
   refine D_no rfl (.mk' rfl rfl rfl rfl) ?_
   refine Dp rfl rfl (p_pick_t rfl rfl rfl rfl) ?_
   refine Dm rfl rfl rfl rfl ?_
   iterate 5 refine D_no rfl (.mk' rfl rfl rfl rfl) ?_
   refine D_wr (.pass (E' := [(9, _), (4, _)]) rfl (.mk' rfl rfl rfl rfl) rfl ⟨(.cons rfl (.plain rfl) (r_loadB ag3 rfl rfl (hc 0 _ rfl) List.not_mem_nil) (.cons rfl (.plain rfl) (r_loadB ag3 rfl rfl (hc 1 _ rfl) List.not_mem_nil) .nil)), ?_⟩)
   refine D_no rfl (.mk' rfl rfl rfl rfl) ?_
   refine Dp rfl rfl (p_pick_t rfl rfl rfl rfl) ?_
   refine D_then (kp [0, 4, 68] rfl) ?_
   refine V_cond_t rfl rfl ?_
   refine Vs rfl ?_
   refine Lm rfl rfl rfl ?_
   iterate 2 refine La rfl rfl rfl ?_
   refine L_then (kp [2, 3] rfl) ?_
   refine V_ret (blk_r (then_r (then_r (blk_r (then_r ?_)))))
   refine Leave.nil (.tmp rfl (.tmp rfl .nil)) ?_
   first | (have e : checkB l = (0, 3) := if_pos (by assumption); rw [e]; rfl) | (rw [cb_hit h20 hk0 (by omega) hkp (errBd_2 (i := k.toNat) (by rw [← hq]; exact hne)) (by decide)]; rfl) | (rw [cb_hit h20 hk0 (by omega) hkp (errBd_7 (i := k.toNat) (by unfold bdAt; first | exact hq0 | omega) (by unfold bdAt; first | exact .inl (by omega) | exact .inr (.inl (by omega)) | exact .inr (.inr (.inl (by assumption))) | exact .inr (.inr (.inr (by assumption))))) (by decide)]; rfl) | (rw [cb_ok h20 (fun j hj => hkp j (by omega))]; rfl)
  intro g1; have g1' := g1; try simp only [td] at g1'
  iterate 2 refine D_p rfl (.yes rfl rfl rfl g1) (p_move rfl rfl) ?_
  refine D_p rfl (.yes rfl rfl rfl g1) (p_idx es31 rfl rfl rfl (by omega) (by omega)) ?_
  refine D_p rfl (.yes rfl rfl rfl g1) (p_field fo125_1 rfl rfl) ?_
  refine D_rd rfl (.yes rfl rfl rfl g1) (r_loadB ag3 rfl rfl (hc 1 _ rfl) List.not_mem_nil) ?_
  refine D_p rfl (.yes rfl rfl rfl g1) (p_gtr rfl rfl rfl) ?_
  refine Dp rfl rfl (p_pick_f rfl rfl g1 rfl) ?_
  refine Dm rfl rfl rfl rfl ?_
  refine D_cases (d := 51) rfl ?_ ?_
  ·intro g2; have g2' := g2; try simp only [td] at g2'
   iterate 5 refine D_no rfl (.mk' rfl rfl rfl g2) ?_
   refine D_wr (.pass (E' := [(16, _), (9, _), (4, _)]) rfl (.mk' rfl rfl rfl g2) rfl ⟨(.cons rfl (.yes rfl rfl rfl g1) (r_loadB ag3 rfl rfl (hc 1 _ rfl) List.not_mem_nil) (.cons rfl (.plain rfl) (r_loadB ag3 rfl rfl (hc 0 _ rfl) List.not_mem_nil) (.cons rfl (.plain rfl) (r_loadB ag3 rfl rfl (hc 1 _ rfl) List.not_mem_nil) .nil))), ?_⟩)
   refine D_no rfl (.mk' rfl rfl rfl g2) ?_
   refine Dp rfl rfl (p_pick_t rfl rfl g2 rfl) ?_
   refine Dm rfl rfl rfl rfl ?_
   iterate 5 refine D_no rfl (.mk' rfl rfl rfl rfl) ?_
   refine D_wr (.pass (E' := [(16, _), (9, _), (4, _)]) rfl (.mk' rfl rfl rfl rfl) rfl ⟨(.cons rfl (.yes rfl rfl rfl g1) (r_loadB ag3 rfl rfl (hc 1 _ rfl) List.not_mem_nil) (.cons rfl (.plain rfl) (r_loadB ag3 rfl rfl (hc 0 _ rfl) List.not_mem_nil) (.cons rfl (.plain rfl) (r_loadB ag3 rfl rfl (hc 1 _ rfl) List.not_mem_nil) .nil))), ?_⟩)
   refine D_no rfl (.mk' rfl rfl rfl rfl) ?_
   refine Dp rfl rfl (p_pick_t rfl rfl rfl rfl) ?_
   refine D_then (kp [0, 4, 68] rfl) ?_
   refine V_cond_t rfl rfl ?_
   refine Vs rfl ?_
   refine Lm rfl rfl rfl ?_
   iterate 2 refine La rfl rfl rfl ?_
   refine L_then (kp [2, 3] rfl) ?_
   refine V_ret (blk_r (then_r (then_r (blk_r (then_r ?_)))))
   refine Leave.nil (.tmp rfl (.tmp rfl .nil)) ?_
   first | (have e : checkB l = (0, 3) := if_pos (by assumption); rw [e]; rfl) | (rw [cb_hit h20 hk0 (by omega) hkp (errBd_2 (i := k.toNat) (by rw [← hq]; exact hne)) (by decide)]; rfl) | (rw [cb_hit h20 hk0 (by omega) hkp (errBd_7 (i := k.toNat) (by unfold bdAt; first | exact hq0 | omega) (by unfold bdAt; first | exact .inl (by omega) | exact .inr (.inl (by omega)) | exact .inr (.inr (.inl (by assumption))) | exact .inr (.inr (.inr (by assumption))))) (by decide)]; rfl) | (rw [cb_ok h20 (fun j hj => hkp j (by omega))]; rfl)
  intro g2; have g2' := g2; try simp only [td] at g2'
  iterate 2 refine D_p rfl (.yes rfl rfl rfl g2) (p_move rfl rfl) ?_
  refine D_p rfl (.yes rfl rfl rfl g2) (p_idx es31 rfl rfl rfl (by omega) (by omega)) ?_
  refine D_p rfl (.yes rfl rfl rfl g2) (p_field fo125_2 rfl rfl) ?_
  refine D_rd rfl (.yes rfl rfl rfl g2) (r_loadBA ag23 sz23 rfl rfl (hc.sub 2 2) rfl List.not_mem_nil) ?_
  refine D_wr (.go (E' := [(16, _), (9, _), (4, _)]) rfl (.yes rfl rfl rfl g2) (w_callP rfl rfl rfl (fun w hg => r1winds_c (l.getD k.toNat bdZ).x w)) rfl ?_)
  rintro _ _ ⟨rfl, rfl⟩
  refine ⟨(.cons rfl (.yes rfl rfl rfl g1) (r_loadB ag3 rfl rfl (hc 1 _ rfl) List.not_mem_nil) (.cons rfl (.plain rfl) (r_loadB ag3 rfl rfl (hc 0 _ rfl) List.not_mem_nil) (.cons rfl (.plain rfl) (r_loadB ag3 rfl rfl (hc 1 _ rfl) List.not_mem_nil) .nil))), ?_⟩
  refine D_p rfl (.yes rfl rfl rfl g2) (p_not rfl rfl) ?_
  refine Dp rfl rfl (p_pick_f rfl rfl g2 rfl) ?_
  refine Dm rfl rfl rfl rfl ?_
  refine D_cases (d := 60) rfl ?_ ?_
  ·intro g3; have g3' := g3; try simp only [td] at g3'
   iterate 5 refine D_no rfl (.mk' rfl rfl rfl g3) ?_
   refine D_wr (.pass (E' := [(16, _), (9, _), (4, _)]) rfl (.mk' rfl rfl rfl g3) rfl ⟨(.cons rfl (.yes rfl rfl rfl g1) (r_loadB ag3 rfl rfl (hc 1 _ rfl) List.not_mem_nil) (.cons rfl (.plain rfl) (r_loadB ag3 rfl rfl (hc 0 _ rfl) List.not_mem_nil) (.cons rfl (.plain rfl) (r_loadB ag3 rfl rfl (hc 1 _ rfl) List.not_mem_nil) .nil))), ?_⟩)
   refine D_no rfl (.mk' rfl rfl rfl g3) ?_
   refine Dp rfl rfl (p_pick_t rfl rfl g3 rfl) ?_
   refine D_then (kp [0, 4, 68] rfl) ?_
   refine V_cond_t rfl rfl ?_
   refine Vs rfl ?_
   refine Lm rfl rfl rfl ?_
   iterate 2 refine La rfl rfl rfl ?_
   refine L_then (kp [2, 3] rfl) ?_
   refine V_ret (blk_r (then_r (then_r (blk_r (then_r ?_)))))
   refine Leave.nil (.tmp rfl (.tmp rfl .nil)) ?_
   first | (have e : checkB l = (0, 3) := if_pos (by assumption); rw [e]; rfl) | (rw [cb_hit h20 hk0 (by omega) hkp (errBd_2 (i := k.toNat) (by rw [← hq]; exact hne)) (by decide)]; rfl) | (rw [cb_hit h20 hk0 (by omega) hkp (errBd_7 (i := k.toNat) (by unfold bdAt; first | exact hq0 | omega) (by unfold bdAt; first | exact .inl (by omega) | exact .inr (.inl (by omega)) | exact .inr (.inr (.inl (by assumption))) | exact .inr (.inr (.inr (by assumption))))) (by decide)]; rfl) | (rw [cb_ok h20 (fun j hj => hkp j (by omega))]; rfl)
  intro g3; have g3' := g3; try simp only [td] at g3'
  iterate 2 refine D_p rfl (.yes rfl rfl rfl g3) (p_move rfl rfl) ?_
  refine D_p rfl (.yes rfl rfl rfl g3) (p_idx es31 rfl rfl rfl (by omega) (by omega)) ?_
  refine D_p rfl (.yes rfl rfl rfl g3) (p_field fo125_3 rfl rfl) ?_
  refine D_rd rfl (.yes rfl rfl rfl g3) (r_loadBA ag23 sz23 rfl rfl (hc.sub 4 2) rfl List.not_mem_nil) ?_
  refine D_wr (.go (E' := [(16, _), (9, _), (4, _)]) rfl (.yes rfl rfl rfl g3) (w_callP rfl rfl rfl (fun w hg => r1winds_c (l.getD k.toNat bdZ).y w)) rfl ?_)
  rintro _ _ ⟨rfl, rfl⟩
  refine ⟨(.cons rfl (.yes rfl rfl rfl g1) (r_loadB ag3 rfl rfl (hc 1 _ rfl) List.not_mem_nil) (.cons rfl (.plain rfl) (r_loadB ag3 rfl rfl (hc 0 _ rfl) List.not_mem_nil) (.cons rfl (.plain rfl) (r_loadB ag3 rfl rfl (hc 1 _ rfl) List.not_mem_nil) .nil))), ?_⟩
  refine D_p rfl (.yes rfl rfl rfl g3) (p_not rfl rfl) ?_
  refine Dp rfl rfl (p_pick_f rfl rfl g3 rfl) ?_
  refine D_then (kp [0, 4, 68] rfl) ?_
  refine V_cond rfl ?_ ?_
  ·intro c5; try simp only [td] at c5
   refine Vs rfl ?_
   refine Lm rfl rfl rfl ?_
   iterate 2 refine La rfl rfl rfl ?_
   refine L_then (kp [2, 3] rfl) ?_
   refine V_ret (blk_r (then_r (then_r (blk_r (then_r ?_)))))
   refine Leave.nil (.tmp rfl (.tmp rfl .nil)) ?_
   first | (have e : checkB l = (0, 3) := if_pos (by assumption); rw [e]; rfl) | (rw [cb_hit h20 hk0 (by omega) hkp (errBd_2 (i := k.toNat) (by rw [← hq]; exact hne)) (by decide)]; rfl) | (rw [cb_hit h20 hk0 (by omega) hkp (errBd_7 (i := k.toNat) (by unfold bdAt; first | exact hq0 | omega) (by unfold bdAt; first | exact .inl (by omega) | exact .inr (.inl (by omega)) | exact .inr (.inr (.inl (by assumption))) | exact .inr (.inr (.inr (by assumption))))) (by decide)]; rfl) | (rw [cb_ok h20 (fun j hj => hkp j (by omega))]; rfl)
  intro c5; try simp only [td] at c5
  refine V_skip (blk_n (then_n ?_))
  refine V_region rfl ?_
  refine Lm rfl rfl rfl ?_
  first | refine Lp rfl (p_add' rfl rfl rfl (by unfold InI; omega)) ?_ | refine Lp rfl (p_add rfl rfl rfl) ?_
  refine La rfl rfl rfl ?_
  refine L_keep (kp [0, 4] rfl) (then_n ?_)
  refine ⟨k + 1, ?_, ?_, (.cons rfl (.cons rfl (.nil _))), (by repeat (first | exact List.nil_sublist _ | exact List.Sublist.refl _ | apply List.Sublist.cons_cons | apply List.Sublist.cons | apply List.sublist_append_of_sublist_right)), rfl⟩
  ·refine ⟨by omega, by omega, fun j hj => ?_⟩; by_cases e : (j : Int) < k
   ·exact hkp j e
   have ej : j = k.toNat := by omega
   rw [ej]; exact errBd_0 (by unfold bdAt; exact hq0) (by unfold bdAt; omega) (by unfold bdAt; omega) (by unfold bdAt; assumption) (by unfold bdAt; assumption)
  omega
 intro c2; try simp only [td] at c2
 refine V_exit (then_e (then_e (blk_e rfl (then_n ?_))))
 refine Vs rfl ?_
 iterate 2 refine La rfl rfl rfl ?_
 refine L_then (kp [2, 3] rfl) ?_
 refine V_ret ?_
 refine Leave.nil (.tmp rfl (.tmp rfl .nil)) ?_
 first | (have e : checkB l = (0, 3) := if_pos (by assumption); rw [e]; rfl) | (rw [cb_hit h20 hk0 (by omega) hkp (errBd_2 (i := k.toNat) (by rw [← hq]; exact hne)) (by decide)]; rfl) | (rw [cb_hit h20 hk0 (by omega) hkp (errBd_7 (i := k.toNat) (by unfold bdAt; first | exact hq0 | omega) (by unfold bdAt; first | exact .inl (by omega) | exact .inr (.inl (by omega)) | exact .inr (.inr (.inl (by assumption))) | exact .inr (.inr (.inr (by assumption))))) (by decide)]; rfl) | (rw [cb_ok h20 (fun j hj => hkp j (by omega))]; rfl)
theorem rhull_c (a b : Span) (w : World) : FnP Tryz.prog 107 [.agg #[.int .i64 a.lo, .int .i64 a.hi], .agg #[.int .i64 b.lo, .int .i64 b.hi]] w (.agg #[.int .i64 (Fl.hullS a b).lo, .int .i64 (Fl.hullS a b).hi]) := by
 refine fn_pure Tryz.func107 rfl (by kernel_rfl) Tryz.ntmps107 Tryz.results107 rfl ?_
 refine Vs rfl ?_
 refine Lw rfl (w_box rfl rfl) ?_
 rintro _ _ ⟨b1, hb1, rfl, rfl⟩
 refine Lw rfl (w_box rfl rfl) ?_
 rintro _ _ ⟨b2, hb2, rfl, rfl⟩
 refine Lw rfl (w_alloc zr23 rfl) ?_
 rintro _ _ ⟨b3, hb3, rfl, rfl⟩
 refine L_then (kp [2, 3, 4] rfl) ?_
 refine Vs rfl ?_
 refine Lp rfl (p_fieldo fo23_0 rfl rfl) ?_
 refine Lr rfl (rl ag3 rfl rfl rfl) ?_
 refine Lp rfl (p_fieldo fo23_0 rfl rfl) ?_
 refine Lr rfl (rl ag3 rfl rfl rfl) ?_
 refine Lp rfl (p_min rfl rfl rfl) ?_
 refine Lp rfl (p_fieldo fo23_1 rfl rfl) ?_
 refine Lr rfl (rl ag3 rfl rfl rfl) ?_
 refine Lp rfl (p_fieldo fo23_1 rfl rfl) ?_
 refine Lr rfl (rl ag3 rfl rfl rfl) ?_
 refine Lp rfl (p_max rfl rfl rfl) ?_
 refine Lp rfl (p_build (r := [_, _]) pl23 zr23 rfl rfl rfl) ?_
 refine Ls (cs' := [_, _]) rfl sz23 rfl rfl rfl rfl rfl rfl rfl ?_
 refine L_then (kp [4] rfl) ?_
 refine V_ret ?_
 refine Leave.nil (.cellA (us := [_, _]) rfl ag23 sz23 (by repeat first | exact mH | apply mT) rfl .nil) ?_
 rfl
theorem rboth_c (p q r s : Span) (w : World) : FnP Tryz.prog 80 [.agg #[.int .i64 p.lo, .int .i64 p.hi, .int .i64 q.lo, .int .i64 q.hi], .agg #[.int .i64 r.lo, .int .i64 r.hi, .int .i64 s.lo, .int .i64 s.hi]] w (.agg #[.int .i64 (Fl.hullS p r).lo, .int .i64 (Fl.hullS p r).hi, .int .i64 (Fl.hullS q s).lo, .int .i64 (Fl.hullS q s).hi]) := by
 refine fn_pure Tryz.func80 rfl (by kernel_rfl) Tryz.ntmps80 Tryz.results80 rfl ?_
 refine Vs rfl ?_
 refine Lw rfl (w_box rfl rfl) ?_
 rintro _ _ ⟨b1, hb1, rfl, rfl⟩
 refine Lw rfl (w_box rfl rfl) ?_
 rintro _ _ ⟨b2, hb2, rfl, rfl⟩
 refine Lw rfl (w_alloc zr84 rfl) ?_
 rintro _ _ ⟨b3, hb3, rfl, rfl⟩
 refine L_then (kp [2, 3, 4] rfl) ?_
 refine V_seq (V_draw (.rd 0 (.rd 1 (.rd 2 (.rd 3 (.rd 5 (.rd 6 (.rd 7 (.rd 8 (.wr 4 [8, 7, 6, 5, 2, 0] (.wr 9 [7, 5, 3, 2, 1, 0] (.rd 10 (.wr 11 [] .done)))))))))))) mixed (by kernel_rfl) rfl ?_)
 refine Dp rfl rfl (p_fieldo fo84_0 rfl rfl) ?_
 refine Dr rfl rfl (rlA (vs := [_, _]) ag23 sz23 rfl rfl rfl) ?_
 refine Dp rfl rfl (p_fieldo fo84_0 rfl rfl) ?_
 refine Dr rfl rfl (rlA (vs := [_, _]) ag23 sz23 rfl rfl rfl) ?_
 refine Dp rfl rfl (p_fieldo fo84_1 rfl rfl) ?_
 refine Dr rfl rfl (rlA (vs := [_, _]) ag23 sz23 rfl rfl rfl) ?_
 refine Dp rfl rfl (p_fieldo fo84_1 rfl rfl) ?_
 refine Dr rfl rfl (rlA (vs := [_, _]) ag23 sz23 rfl rfl rfl) ?_
 refine D_wr (.go (E' := [(8, _), (6, _)]) rfl (.plain rfl) (w_callP rfl rfl rfl (fun w hg => rhull_c p r w)) rfl ?_)
 rintro _ _ ⟨rfl, rfl⟩
 refine ⟨(.cons rfl (.plain rfl) (rlA (vs := [_, _]) ag23 sz23 rfl rfl rfl) (.cons rfl (.plain rfl) (rlA (vs := [_, _]) ag23 sz23 rfl rfl rfl) .nil)), ?_⟩
 refine D_wr (.go (E' := []) rfl (.plain rfl) (w_callP rfl rfl rfl (fun w hg => rhull_c q s w)) rfl ?_)
 rintro _ _ ⟨rfl, rfl⟩
 refine ⟨.nil, ?_⟩
 refine Dp rfl rfl (p_build (r := [_, _, _, _]) pl84 zr84 rfl rfl rfl) ?_
 refine D_wr (.go (E' := []) rfl (.plain rfl) (ws (cs' := [_, _, _, _]) sz84 rfl rfl rfl rfl rfl rfl rfl) rfl ?_)
 rintro _ _ ⟨rfl, rfl⟩
 refine ⟨.nil, ?_⟩
 refine D_then (kp [4] rfl) ?_
 refine V_ret ?_
 refine Leave.nil (.cellA (us := [_, _, _, _]) rfl ag84 sz84 (by repeat first | exact mH | apply mT) rfl .nil) ?_
 rfl
set_option maxHeartbeats 4000000 in
theorem rwinds_c (z : Span) (l : List Fl.Band) (x : Value) (w : World) (hG : GoodB l) (hb : BdsR w x l) : FnP Tryz.prog 70 [x, .agg #[.int .i64 z.lo, .int .i64 z.hi]] w (.agg #[.int .i64 (windsT l z).x.lo, .int .i64 (windsT l z).x.hi, .int .i64 (windsT l z).y.lo, .int .i64 (windsT l z).y.hi]) := by
 have hB := hb
 obtain ⟨ba, bc, rfl, hbc, hbe⟩ := hb.sl.ex
 have h20 := oP_false.1 hG.len
 obtain ⟨lb0, rfl, hcl⟩ := hbe ((l.length : Int) - 1).toNat _ (getD_cells (d := bdZ) (by omega))
 simp only [List.length_map] at hbc hB ⊢
 refine fn_pure Tryz.func70 rfl (by kernel_rfl) Tryz.ntmps70 Tryz.results70 rfl ?_
 refine Vs rfl ?_
 refine Lw rfl (w_box rfl rfl) ?_
 rintro _ _ ⟨b1, hb1, rfl, rfl⟩
 refine Lw rfl (w_alloc zr84 rfl) ?_
 rintro _ _ ⟨b2, hb2, rfl, rfl⟩
 refine L_then (kp [0, 3, 4] rfl) ?_
 refine Vs rfl ?_
 refine Lw rfl (w_alloc zr84 rfl) ?_
 rintro _ _ ⟨b3, hb3, rfl, rfl⟩
 refine L_then (kp [0, 3, 4, 5] rfl) ?_
 refine V_seq (V_draw (.rd 0 (.rd 1 (.rd 2 (.rd 3 (.rd 4 (.rd 5 (.rd 6 (.rd 7 (.rd 8 (.rd 9 (.rd 10 (.rd 11 (.rd 12 (.rd 13 (.rd 14 (.rd 15 .done)))))))))))))))) mixed (by kernel_rfl) rfl ?_)
 refine Dm rfl rfl rfl rfl ?_
 refine Dp rfl rfl (p_len isl31 rfl rfl) ?_
 refine Dp rfl rfl (p_eql rfl rfl rfl) ?_
 refine Dm rfl rfl rfl rfl ?_
 refine D_cases (d := 13) rfl ?_ ?_
 ·intro g1; have g1' := g1; try simp only [td] at g1'
  exfalso; omega
 intro g1; have g1' := g1; try simp only [td] at g1'
 refine D_p rfl (.yes rfl rfl rfl g1) (p_fieldo fo23_1 rfl rfl) ?_
 refine D_rd rfl (.yes rfl rfl rfl g1) (rl ag3 rfl rfl rfl) ?_
 iterate 2 refine D_p rfl (.yes rfl rfl rfl g1) (p_move rfl rfl) ?_
 refine D_p rfl (.yes rfl rfl rfl g1) (p_len isl31 rfl rfl) ?_
 first | refine D_p rfl (.yes rfl rfl rfl g1) (p_sub' rfl rfl rfl (by unfold InI; omega)) ?_ | refine D_p rfl (.yes rfl rfl rfl g1) (p_sub rfl rfl rfl) ?_
 refine D_p rfl (.yes rfl rfl rfl g1) (p_idx es31 rfl rfl rfl (by omega) (by omega)) ?_
 refine D_p rfl (.yes rfl rfl rfl g1) (p_field fo125_1 rfl rfl) ?_
 refine D_rd rfl (.yes rfl rfl rfl g1) (r_loadB ag3 rfl rfl (hcl 1 _ rfl) List.not_mem_nil) ?_
 refine D_p rfl (.yes rfl rfl rfl g1) (p_geq rfl rfl rfl) ?_
 refine Dp rfl rfl (p_pick_f rfl rfl g1 rfl) ?_
 refine Dp rfl rfl (p_assign rfl rfl) ?_
 refine D_then (kp [0, 3, 4, 5, 6] rfl) ?_
 refine V_seq ?_
 refine Vs rfl ?_
 refine La rfl rfl rfl ?_
 refine L_then (kp [0, 3, 4, 5, 6, 7] rfl) ?_
 refine V_block ?_
 refine V_loop1 (γ := Int × Bool × Ax) (kp [0, 3, 4, 5] rfl) (fun (k, sm, a) => [(7, .int .i64 k), (6, .bool sm)]) (fun (k, sm, a) => [(b3, .cells #[.int .i64 a.x.lo, .int .i64 a.x.hi, .int .i64 a.y.lo, .int .i64 a.y.hi] 84), (b2, .cells #[.int .i64 0, .int .i64 0, .int .i64 0, .int .i64 0] 84), (b1, .cells #[.int .i64 z.lo, .int .i64 z.hi] 23)]) (fun (k, sm, a) => 0 ≤ k ∧ k ≤ l.length ∧ RwI l z k.toNat a sm) (fun (k, sm, a) => (l.length - k).toNat) ((0, decide ((l.getD ((l.length : Int) - 1).toNat bdZ).to ≤ z.hi), Fl.axZ)) (.cons rfl (.cons rfl (.nil _))) (by repeat (first | exact List.nil_sublist _ | exact List.Sublist.refl _ | apply List.Sublist.cons_cons | apply List.Sublist.cons)) (⟨by omega, by omega, by rw [show ((l.length : Int) - 1).toNat = l.length - 1 by omega]; exact RwI.zero⟩) ?_
 rintro ⟨k, sm, a⟩ hi
 obtain ⟨hk0, hk1, hrw⟩ := hi
 dsimp only at hk0 hk1 hrw ⊢
 refine V_seq ?_
 refine Vs rfl ?_
 iterate 2 refine Lm rfl rfl rfl ?_
 refine Lp rfl (p_len isl31 rfl rfl) ?_
 refine Lp rfl (p_lss rfl rfl rfl) ?_
 refine L_then (kp [0, 3, 4, 5, 6, 7, 28] rfl) ?_
 refine V_cond rfl ?_ ?_
 ·intro c1; try simp only [td] at c1
  obtain ⟨tb, etb, hc⟩ := hbe k.toNat _ (getD_cells (d := bdZ) (by omega))
  injection etb with etb
  subst etb
  refine V_skip (then_n ?_)
  refine V_seq ?_
  refine V_block ?_
  refine Vs rfl ?_
  iterate 2 refine Lm rfl rfl rfl ?_
  refine Lp rfl (p_idx es31 rfl rfl rfl (by omega) (by omega)) ?_
  refine Lr rfl (r_loadBA ag125 sz125 rfl rfl hc rfl List.not_mem_nil) ?_
  refine Lw rfl (w_alloc zr125 rfl) ?_
  rintro _ _ ⟨b4, hb4, rfl, rfl⟩
  refine Ls (cs' := [_, _, _, _, _, _]) rfl sz125 rfl rfl rfl rfl rfl rfl rfl ?_
  refine L_then (kp [0, 3, 4, 5, 6, 7, 8] rfl) ?_
  refine V_seq ?_
  refine Vs rfl ?_
  refine Lp rfl (p_fieldo fo125_0 rfl rfl) ?_
  refine Lr rfl (rl ag3 rfl rfl rfl) ?_
  refine Lp rfl (p_fieldo fo23_1 rfl rfl) ?_
  refine Lr rfl (rl ag3 rfl rfl rfl) ?_
  refine Lp rfl (p_gtr rfl rfl rfl) ?_
  refine Lm rfl rfl rfl ?_
  refine L_cases (d := 40) rfl ?_ ?_
  ·intro g2; have g2' := g2; try simp only [td] at g2'
   refine L_yes rfl rfl rfl g2 (X_p (p_move rfl rfl) ?_)
   refine L_yes rfl rfl rfl g2 (X_p (p_gtr rfl rfl rfl) ?_)
   refine Lp rfl (p_pick_t rfl rfl g2 rfl) ?_
   refine Lm rfl rfl rfl ?_
   refine L_cases (d := 44) rfl ?_ ?_
   ·intro g3; have g3' := g3; try simp only [td] at g3'
    iterate 5 refine L_no rfl rfl rfl g3 ?_
    refine Lp rfl (p_pick_t rfl rfl g3 rfl) ?_
    refine L_then (kp [0, 3, 4, 5, 6, 7, 8, 50] rfl) ?_
    refine V_cond_t rfl rfl ?_
    refine V_exit (then_e (blk_e rfl (then_n ?_)))
    refine V_region rfl ?_
    refine Lm rfl rfl rfl ?_
    first | refine Lp rfl (p_add' rfl rfl rfl (by unfold InI; omega)) ?_ | refine Lp rfl (p_add rfl rfl rfl) ?_
    refine La rfl rfl rfl ?_
    refine L_keep (kp [0, 3, 4, 5, 6, 7] rfl) (then_n ?_)
    refine ⟨(k + 1, sm, a), ?_, ?_, (.cons rfl (.cons rfl (.cons rfl (.cons rfl (.cons rfl (.cons rfl (.nil _))))))), (by repeat (first | exact List.nil_sublist _ | exact List.Sublist.refl _ | apply List.Sublist.cons_cons | apply List.Sublist.cons | apply List.sublist_append_of_sublist_right)), rfl⟩
    ·exact ⟨by omega, by omega, by rw [show (k + 1).toNat = k.toNat + 1 by omega]; exact hrw.skip (by first | exact rskip_1 (by unfold bdAt; omega) (by omega) | exact rskip_2 (by unfold bdAt; omega))⟩
    dsimp only; omega
   intro g3; have g3' := g3; try simp only [td] at g3'
   refine L_yes rfl rfl rfl g3 (X_p (p_fieldo fo125_1 rfl rfl) ?_)
   refine L_yes rfl rfl rfl g3 (X_rd (rl ag3 rfl rfl rfl) ?_)
   refine L_yes rfl rfl rfl g3 (X_p (p_fieldo fo23_0 rfl rfl) ?_)
   refine L_yes rfl rfl rfl g3 (X_rd (rl ag3 rfl rfl rfl) ?_)
   refine L_yes rfl rfl rfl g3 (X_p (p_leq rfl rfl rfl) ?_)
   refine Lp rfl (p_pick_f rfl rfl g3 rfl) ?_
   refine L_then (kp [0, 3, 4, 5, 6, 7, 8, 50] rfl) ?_
   refine V_cond rfl ?_ ?_
   ·intro c2; try simp only [td] at c2
    refine V_exit (then_e (blk_e rfl (then_n ?_)))
    refine V_region rfl ?_
    refine Lm rfl rfl rfl ?_
    first | refine Lp rfl (p_add' rfl rfl rfl (by unfold InI; omega)) ?_ | refine Lp rfl (p_add rfl rfl rfl) ?_
    refine La rfl rfl rfl ?_
    refine L_keep (kp [0, 3, 4, 5, 6, 7] rfl) (then_n ?_)
    refine ⟨(k + 1, sm, a), ?_, ?_, (.cons rfl (.cons rfl (.cons rfl (.cons rfl (.cons rfl (.cons rfl (.nil _))))))), (by repeat (first | exact List.nil_sublist _ | exact List.Sublist.refl _ | apply List.Sublist.cons_cons | apply List.Sublist.cons | apply List.sublist_append_of_sublist_right)), rfl⟩
    ·exact ⟨by omega, by omega, by rw [show (k + 1).toNat = k.toNat + 1 by omega]; exact hrw.skip (by first | exact rskip_1 (by unfold bdAt; omega) (by omega) | exact rskip_2 (by unfold bdAt; omega))⟩
    dsimp only; omega
   intro c2; try simp only [td] at c2
   refine V_skip (then_n ?_)
   refine Vs rfl ?_
   refine Lp rfl (p_fieldo fo125_2 rfl rfl) ?_
   refine Lr rfl (rlA (vs := [_, _]) ag23 sz23 rfl rfl rfl) ?_
   refine Lp rfl (p_fieldo fo125_3 rfl rfl) ?_
   refine Lr rfl (rlA (vs := [_, _]) ag23 sz23 rfl rfl rfl) ?_
   refine Lp rfl (p_build (r := [_, _, _, _]) pl84 zr84 rfl rfl rfl) ?_
   refine Lw rfl (w_alloc zr84 rfl) ?_
   rintro _ _ ⟨b5, hb5, rfl, rfl⟩
   refine Ls (cs' := [_, _, _, _]) rfl sz84 rfl rfl rfl rfl rfl rfl rfl ?_
   refine L_then (kp [0, 3, 4, 5, 6, 7, 9] rfl) ?_
   refine V_seq ?_
   refine Vs rfl ?_
   refine Lm rfl rfl rfl ?_
   refine L_then (kp [0, 3, 4, 5, 7, 9, 56] rfl) ?_
   refine V_cond rfl ?_ ?_
   ·intro c3; try simp only [td] at c3
    refine V_region rfl ?_
    iterate 2 refine Lr rfl (rlA (vs := [_, _, _, _]) ag84 sz84 rfl rfl rfl) ?_
    refine Lc rfl rfl rfl rfl (fun w hg => rboth_c a.x a.y (l.getD k.toNat bdZ).x (l.getD k.toNat bdZ).y w) ?_
    refine Ls (cs' := [_, _, _, _]) rfl sz84 rfl rfl rfl rfl rfl rfl rfl ?_
    refine L_then (kp [0, 3, 4, 5, 7, 9] rfl) ?_
    refine V_region rfl ?_
    refine Lr rfl (rlA (vs := [_, _, _, _]) ag84 sz84 rfl rfl rfl) ?_
    refine Ls (cs' := [_, _, _, _]) rfl sz84 rfl rfl rfl rfl rfl rfl rfl ?_
    refine La rfl rfl rfl ?_
    refine L_keep (kp [0, 3, 4, 5, 6, 7] rfl) (blk_n (then_n ?_))
    refine V_region rfl ?_
    refine Lm rfl rfl rfl ?_
    first | refine Lp rfl (p_add' rfl rfl rfl (by unfold InI; omega)) ?_ | refine Lp rfl (p_add rfl rfl rfl) ?_
    refine La rfl rfl rfl ?_
    refine L_keep (kp [0, 3, 4, 5, 6, 7] rfl) (then_n ?_)
    refine ⟨(k + 1, true, Fl.hullA a ⟨(l.getD k.toNat bdZ).x, (l.getD k.toNat bdZ).y, Fl.spZ⟩), ?_, ?_, (.cons rfl (.cons rfl (.cons rfl (.cons rfl (.cons rfl (.cons rfl (.nil _))))))), (by repeat (first | exact List.nil_sublist _ | exact List.Sublist.refl _ | apply List.Sublist.cons_cons | apply List.Sublist.cons | apply List.sublist_append_of_sublist_right)), rfl⟩
    ·have hft : sm = true := by assumption
     rw [hft] at hrw
     exact ⟨by omega, by omega, by rw [show (k + 1).toNat = k.toNat + 1 by omega]; exact hrw.more (rskip_no (by unfold bdAt; omega) (by unfold bdAt; omega))⟩
    dsimp only; omega
   intro c3; try simp only [td] at c3
   refine V_skip (then_n ?_)
   refine V_region rfl ?_
   refine Lr rfl (rlA (vs := [_, _, _, _]) ag84 sz84 rfl rfl rfl) ?_
   refine Ls (cs' := [_, _, _, _]) rfl sz84 rfl rfl rfl rfl rfl rfl rfl ?_
   refine La rfl rfl rfl ?_
   refine L_keep (kp [0, 3, 4, 5, 6, 7] rfl) (blk_n (then_n ?_))
   refine V_region rfl ?_
   refine Lm rfl rfl rfl ?_
   first | refine Lp rfl (p_add' rfl rfl rfl (by unfold InI; omega)) ?_ | refine Lp rfl (p_add rfl rfl rfl) ?_
   refine La rfl rfl rfl ?_
   refine L_keep (kp [0, 3, 4, 5, 6, 7] rfl) (then_n ?_)
   refine ⟨(k + 1, true, ⟨(l.getD k.toNat bdZ).x, (l.getD k.toNat bdZ).y, Fl.spZ⟩), ?_, ?_, (.cons rfl (.cons rfl (.cons rfl (.cons rfl (.cons rfl (.cons rfl (.nil _))))))), (by repeat (first | exact List.nil_sublist _ | exact List.Sublist.refl _ | apply List.Sublist.cons_cons | apply List.Sublist.cons | apply List.sublist_append_of_sublist_right)), rfl⟩
   ·have hft : sm = false := by assumption
    rw [hft] at hrw
    exact ⟨by omega, by omega, by rw [show (k + 1).toNat = k.toNat + 1 by omega]; exact hrw.first (rskip_no (by unfold bdAt; omega) (by unfold bdAt; omega))⟩
   dsimp only; omega
  intro g2; have g2' := g2; try simp only [td] at g2'
  iterate 2 refine L_no rfl rfl rfl g2 ?_
  refine Lp rfl (p_pick_f rfl rfl g2 rfl) ?_
  refine Lm rfl rfl rfl ?_
  refine L_yes rfl rfl rfl rfl (X_p (p_fieldo fo125_1 rfl rfl) ?_)
  refine L_yes rfl rfl rfl rfl (X_rd (rl ag3 rfl rfl rfl) ?_)
  refine L_yes rfl rfl rfl rfl (X_p (p_fieldo fo23_0 rfl rfl) ?_)
  refine L_yes rfl rfl rfl rfl (X_rd (rl ag3 rfl rfl rfl) ?_)
  refine L_yes rfl rfl rfl rfl (X_p (p_leq rfl rfl rfl) ?_)
  refine Lp rfl (p_pick_f rfl rfl rfl rfl) ?_
  refine L_then (kp [0, 3, 4, 5, 6, 7, 8, 50] rfl) ?_
  refine V_cond rfl ?_ ?_
  ·intro c4; try simp only [td] at c4
   refine V_exit (then_e (blk_e rfl (then_n ?_)))
   refine V_region rfl ?_
   refine Lm rfl rfl rfl ?_
   first | refine Lp rfl (p_add' rfl rfl rfl (by unfold InI; omega)) ?_ | refine Lp rfl (p_add rfl rfl rfl) ?_
   refine La rfl rfl rfl ?_
   refine L_keep (kp [0, 3, 4, 5, 6, 7] rfl) (then_n ?_)
   refine ⟨(k + 1, sm, a), ?_, ?_, (.cons rfl (.cons rfl (.cons rfl (.cons rfl (.cons rfl (.cons rfl (.nil _))))))), (by repeat (first | exact List.nil_sublist _ | exact List.Sublist.refl _ | apply List.Sublist.cons_cons | apply List.Sublist.cons | apply List.sublist_append_of_sublist_right)), rfl⟩
   ·exact ⟨by omega, by omega, by rw [show (k + 1).toNat = k.toNat + 1 by omega]; exact hrw.skip (by first | exact rskip_1 (by unfold bdAt; omega) (by omega) | exact rskip_2 (by unfold bdAt; omega))⟩
   dsimp only; omega
  intro c4; try simp only [td] at c4
  refine V_skip (then_n ?_)
  refine Vs rfl ?_
  refine Lp rfl (p_fieldo fo125_2 rfl rfl) ?_
  refine Lr rfl (rlA (vs := [_, _]) ag23 sz23 rfl rfl rfl) ?_
  refine Lp rfl (p_fieldo fo125_3 rfl rfl) ?_
  refine Lr rfl (rlA (vs := [_, _]) ag23 sz23 rfl rfl rfl) ?_
  refine Lp rfl (p_build (r := [_, _, _, _]) pl84 zr84 rfl rfl rfl) ?_
  refine Lw rfl (w_alloc zr84 rfl) ?_
  rintro _ _ ⟨b5, hb5, rfl, rfl⟩
  refine Ls (cs' := [_, _, _, _]) rfl sz84 rfl rfl rfl rfl rfl rfl rfl ?_
  refine L_then (kp [0, 3, 4, 5, 6, 7, 9] rfl) ?_
  refine V_seq ?_
  refine Vs rfl ?_
  refine Lm rfl rfl rfl ?_
  refine L_then (kp [0, 3, 4, 5, 7, 9, 56] rfl) ?_
  refine V_cond rfl ?_ ?_
  ·intro c5; try simp only [td] at c5
   refine V_region rfl ?_
   iterate 2 refine Lr rfl (rlA (vs := [_, _, _, _]) ag84 sz84 rfl rfl rfl) ?_
   refine Lc rfl rfl rfl rfl (fun w hg => rboth_c a.x a.y (l.getD k.toNat bdZ).x (l.getD k.toNat bdZ).y w) ?_
   refine Ls (cs' := [_, _, _, _]) rfl sz84 rfl rfl rfl rfl rfl rfl rfl ?_
   refine L_then (kp [0, 3, 4, 5, 7, 9] rfl) ?_
   refine V_region rfl ?_
   refine Lr rfl (rlA (vs := [_, _, _, _]) ag84 sz84 rfl rfl rfl) ?_
   refine Ls (cs' := [_, _, _, _]) rfl sz84 rfl rfl rfl rfl rfl rfl rfl ?_
   refine La rfl rfl rfl ?_
   refine L_keep (kp [0, 3, 4, 5, 6, 7] rfl) (blk_n (then_n ?_))
   refine V_region rfl ?_
   refine Lm rfl rfl rfl ?_
   first | refine Lp rfl (p_add' rfl rfl rfl (by unfold InI; omega)) ?_ | refine Lp rfl (p_add rfl rfl rfl) ?_
   refine La rfl rfl rfl ?_
   refine L_keep (kp [0, 3, 4, 5, 6, 7] rfl) (then_n ?_)
   refine ⟨(k + 1, true, Fl.hullA a ⟨(l.getD k.toNat bdZ).x, (l.getD k.toNat bdZ).y, Fl.spZ⟩), ?_, ?_, (.cons rfl (.cons rfl (.cons rfl (.cons rfl (.cons rfl (.cons rfl (.nil _))))))), (by repeat (first | exact List.nil_sublist _ | exact List.Sublist.refl _ | apply List.Sublist.cons_cons | apply List.Sublist.cons | apply List.sublist_append_of_sublist_right)), rfl⟩
   ·have hft : sm = true := by assumption
    rw [hft] at hrw
    exact ⟨by omega, by omega, by rw [show (k + 1).toNat = k.toNat + 1 by omega]; exact hrw.more (rskip_no (by unfold bdAt; omega) (by unfold bdAt; omega))⟩
   dsimp only; omega
  intro c5; try simp only [td] at c5
  refine V_skip (then_n ?_)
  refine V_region rfl ?_
  refine Lr rfl (rlA (vs := [_, _, _, _]) ag84 sz84 rfl rfl rfl) ?_
  refine Ls (cs' := [_, _, _, _]) rfl sz84 rfl rfl rfl rfl rfl rfl rfl ?_
  refine La rfl rfl rfl ?_
  refine L_keep (kp [0, 3, 4, 5, 6, 7] rfl) (blk_n (then_n ?_))
  refine V_region rfl ?_
  refine Lm rfl rfl rfl ?_
  first | refine Lp rfl (p_add' rfl rfl rfl (by unfold InI; omega)) ?_ | refine Lp rfl (p_add rfl rfl rfl) ?_
  refine La rfl rfl rfl ?_
  refine L_keep (kp [0, 3, 4, 5, 6, 7] rfl) (then_n ?_)
  refine ⟨(k + 1, true, ⟨(l.getD k.toNat bdZ).x, (l.getD k.toNat bdZ).y, Fl.spZ⟩), ?_, ?_, (.cons rfl (.cons rfl (.cons rfl (.cons rfl (.cons rfl (.cons rfl (.nil _))))))), (by repeat (first | exact List.nil_sublist _ | exact List.Sublist.refl _ | apply List.Sublist.cons_cons | apply List.Sublist.cons | apply List.sublist_append_of_sublist_right)), rfl⟩
  ·have hft : sm = false := by assumption
   rw [hft] at hrw
   exact ⟨by omega, by omega, by rw [show (k + 1).toNat = k.toNat + 1 by omega]; exact hrw.first (rskip_no (by unfold bdAt; omega) (by unfold bdAt; omega))⟩
  dsimp only; omega
 intro c1; try simp only [td] at c1
 have ek : k.toNat = l.length := by omega
 rw [ek] at hrw
 have hw := hrw.end hG
 refine V_exit (then_e (then_e (blk_e rfl (then_n ?_))))
 refine Vs rfl ?_
 refine Lr rfl (rlA (vs := [_, _, _, _]) ag84 sz84 rfl rfl rfl) ?_
 refine Ls (cs' := [_, _, _, _]) rfl sz84 rfl rfl rfl rfl rfl rfl rfl ?_
 refine L_then (kp [4] rfl) ?_
 refine V_ret ?_
 refine Leave.nil (.cellA (us := [_, _, _, _]) rfl ag84 sz84 (by repeat first | exact mH | apply mT) rfl .nil) ?_
 rw [hw]; rfl
set_option maxHeartbeats 8000000 in
theorem rdense_c (z : Span) (v : Veh) (x : Value) (hG : GoodV v) (w : World) (hv : VehR w x v) : FnP Tryz.prog 75 [x, .agg #[.int .i64 z.lo, .int .i64 z.hi]] w (.agg #[.int .i64 (airT v z).lo, .int .i64 (airT v z).hi]) := by
 have hV := hv
 obtain ⟨av, pv, qv, rfl, hsa, hsp, hsq⟩ := hv.ex
 obtain ⟨aa, ac, rfl, hac, hae⟩ := hsa.ex
 have hl20 := hG.air20
 simp only [List.length_map] at hV hac ⊢
 refine fn_pure Tryz.func75 rfl (by kernel_rfl) Tryz.ntmps75 Tryz.results75 rfl ?_
 refine Vs rfl ?_
 refine Lw rfl (w_box rfl rfl) ?_
 rintro _ _ ⟨b1, hb1, rfl, rfl⟩
 refine Lw rfl (w_box rfl rfl) ?_
 rintro _ _ ⟨b2, hb2, rfl, rfl⟩
 refine Lw rfl (w_alloc zr23 rfl) ?_
 rintro _ _ ⟨b3, hb3, rfl, rfl⟩
 refine L_then (kp [2, 3, 4] rfl) ?_
 refine Vs rfl ?_
 refine Lw rfl (w_alloc zr23 rfl) ?_
 rintro _ _ ⟨b4, hb4, rfl, rfl⟩
 refine L_then (kp [2, 3, 4, 5] rfl) ?_
 refine Vs rfl ?_
 refine La rfl rfl rfl ?_
 refine L_then (kp [2, 3, 4, 5, 6] rfl) ?_
 refine V_seq ?_
 refine Vs rfl ?_
 refine La rfl rfl rfl ?_
 refine L_then (kp [2, 3, 4, 5, 6, 7] rfl) ?_
 refine V_block ?_
 refine V_loop1 (γ := Int × Bool × Ax) (kp [2, 3, 4, 5] rfl) (fun (k, sm, a) => [(7, .int .i64 k), (6, .bool sm)]) (fun (k, sm, a) => [(b4, .cells #[.int .i64 a.x.lo, .int .i64 a.x.hi] 23), (b3, .cells #[.int .i64 0, .int .i64 0] 23), (b2, .cells #[.int .i64 z.lo, .int .i64 z.hi] 23), (b1, .cells #[.string v.name, .int .i64 v.gravity.lo, .int .i64 v.gravity.hi, .slice aa v.air.length ac, pv, qv] 28)]) (fun (k, sm, a) => 0 ≤ k ∧ k ≤ v.air.length ∧ SomeI z (arFrm v) (arOf v) k.toNat a sm) (fun (k, sm, a) => (v.air.length - k).toNat) ((0, false, Fl.axZ)) (.cons rfl (.cons rfl (.nil _))) (by repeat (first | exact List.nil_sublist _ | exact List.Sublist.refl _ | apply List.Sublist.cons_cons | apply List.Sublist.cons)) (⟨by omega, by omega, SomeI.zero⟩) ?_
 rintro ⟨k, sm, a⟩ hi
 obtain ⟨hk0, hk1, hs⟩ := hi
 dsimp only at hk0 hk1 hs ⊢
 refine V_seq ?_
 refine Vs rfl ?_
 refine Lm rfl rfl rfl ?_
 refine Lp rfl (p_fieldo fo28_2 rfl rfl) ?_
 refine Lr rfl (rl ag24 rfl rfl rfl) ?_
 refine Lp rfl (p_len isl24 rfl rfl) ?_
 refine Lp rfl (p_lss rfl rfl rfl) ?_
 refine L_then (kp [2, 3, 4, 5, 6, 7, 13] rfl) ?_
 refine V_cond rfl ?_ ?_
 ·intro c1; try simp only [td] at c1
  obtain ⟨tb, etb, hc⟩ := hae k.toNat _ (getD_cells (d := airZ) (by omega))
  subst etb
  have hc2 : k + 1 < v.air.length → cellsAt w (tb.add ((k + 1).toNat * 2)) (AirE.cells (v.air.getD (k + 1).toNat airZ)) := fun h => by
   obtain ⟨b9, e9, h9⟩ := hae (k + 1).toNat _ (getD_cells (d := airZ) (by omega))
   injection e9 with e9
   subst e9; exact h9
  refine V_skip (then_n ?_)
  refine V_seq ?_
  refine V_block ?_
  refine V_seq ?_
  refine V_seq (V_draw (.rd 0 (.rd 1 (.rd 2 (.rd 3 (.rd 4 (.rd 5 (.rd 6 (.rd 7 (.rd 8 (.rd 9 (.rd 10 (.rd 11 (.rd 12 (.rd 13 (.rd 14 (.rd 15 (.rd 16 (.rd 17 (.rd 18 (.rd 19 (.rd 20 (.rd 21 (.rd 22 (.rd 23 (.rd 24 (.rd 25 (.rd 26 (.rd 27 (.rd 28 (.rd 29 (.rd 30 (.rd 31 (.rd 32 .done))))))))))))))))))))))))))))))))) mixed (by kernel_rfl) rfl ?_)
  refine Dp rfl rfl (p_fieldo fo28_2 rfl rfl) ?_
  refine Dr rfl rfl (rl ag24 rfl rfl rfl) ?_
  refine Dm rfl rfl rfl rfl ?_
  refine Dp rfl rfl (p_idx es24 rfl rfl rfl (by omega) (by omega)) ?_
  refine Dp rfl rfl (p_field fo127_0 rfl rfl) ?_
  refine Dr rfl rfl (r_loadB ag3 rfl rfl (hc 0 _ rfl) List.not_mem_nil) ?_
  refine Dp rfl rfl (p_fieldo fo23_1 rfl rfl) ?_
  refine Dr rfl rfl (rl ag3 rfl rfl rfl) ?_
  refine Dp rfl rfl (p_gtr rfl rfl rfl) ?_
  refine Dm rfl rfl rfl rfl ?_
  refine D_cases (d := 25) rfl ?_ ?_
  ·intro g1; have g1' := g1; try simp only [td] at g1'
   refine D_p rfl (.yes rfl rfl rfl g1) (p_move rfl rfl) ?_
   refine D_p rfl (.yes rfl rfl rfl g1) (p_gtr rfl rfl rfl) ?_
   refine Dp rfl rfl (p_pick_t rfl rfl g1 rfl) ?_
   refine Dm rfl rfl rfl rfl ?_
   refine D_cases (d := 29) rfl ?_ ?_
   ·intro g2; have g2' := g2; try simp only [td] at g2'
    iterate 7 refine D_no rfl (.mk' rfl rfl rfl g2) ?_
    iterate 10 refine D_no rfl (.und rfl rfl rfl) ?_
    refine D_no rfl (.mk' rfl rfl rfl g2) ?_
    refine Dp rfl rfl (p_pick_t rfl rfl g2 rfl) ?_
    refine D_then (kp [2, 3, 4, 5, 6, 7, 48] rfl) ?_
    refine V_cond_t rfl rfl ?_
    refine V_exit (then_e (blk_e rfl (then_n ?_)))
    refine V_region rfl ?_
    refine Lm rfl rfl rfl ?_
    first | refine Lp rfl (p_add' rfl rfl rfl (by unfold InI; omega)) ?_ | refine Lp rfl (p_add rfl rfl rfl) ?_
    refine La rfl rfl rfl ?_
    refine L_keep (kp [2, 3, 4, 5, 6, 7] rfl) (then_n ?_)
    refine ⟨(k + 1, sm, a), ?_, ?_, (.cons rfl (.cons rfl (.cons rfl (.cons rfl (.cons rfl (.cons rfl (.nil _))))))), (by repeat (first | exact List.nil_sublist _ | exact List.Sublist.refl _ | apply List.Sublist.cons_cons | apply List.Sublist.cons | apply List.sublist_append_of_sublist_right)), rfl⟩
    ·refine ⟨by omega, by omega, ?_⟩
     rw [show (k + 1).toNat = k.toNat + 1 by omega]
     exact hs.skip (by first | exact skip_lo (by omega) (by rw [arFrm_at (by omega)]; omega) | exact skip_hi (by rw [arOf_len]; omega) (by rw [arFrm_at (by omega), show k.toNat + 1 = (k + 1).toNat by omega]; omega))
    dsimp only; omega
   intro g2; have g2' := g2; try simp only [td] at g2'
   refine D_p rfl (.yes rfl rfl rfl g2) (p_move rfl rfl) ?_
   first | refine D_p rfl (.yes rfl rfl rfl g2) (p_add' rfl rfl rfl (by unfold InI; omega)) ?_ | refine D_p rfl (.yes rfl rfl rfl g2) (p_add rfl rfl rfl) ?_
   refine D_p rfl (.yes rfl rfl rfl g2) (p_fieldo fo28_2 rfl rfl) ?_
   refine D_rd rfl (.yes rfl rfl rfl g2) (rl ag24 rfl rfl rfl) ?_
   refine D_p rfl (.yes rfl rfl rfl g2) (p_len isl24 rfl rfl) ?_
   refine D_p rfl (.yes rfl rfl rfl g2) (p_lss rfl rfl rfl) ?_
   refine D_p rfl (.yes rfl rfl rfl g2) (p_move rfl rfl) ?_
   refine D_cases (d := 36) rfl ?_ ?_
   ·intro g3; have g3' := g3; try simp only [td] at g3'
    refine D_p rfl (.yes rfl rfl rfl g3) (p_fieldo fo28_2 rfl rfl) ?_
    refine D_rd rfl (.yes rfl rfl rfl g3) (rl ag24 rfl rfl rfl) ?_
    refine D_p rfl (.yes rfl rfl rfl g3) (p_move rfl rfl) ?_
    first | refine D_p rfl (.yes rfl rfl rfl g3) (p_add' rfl rfl rfl (by unfold InI; omega)) ?_ | refine D_p rfl (.yes rfl rfl rfl g3) (p_add rfl rfl rfl) ?_
    refine D_p rfl (.yes rfl rfl rfl g3) (p_idx es24 rfl rfl rfl (by omega) (by omega)) ?_
    refine D_p rfl (.yes rfl rfl rfl g3) (p_field fo127_0 rfl rfl) ?_
    refine D_rd rfl (.yes rfl rfl rfl g3) (r_loadB ag3 rfl rfl (hc2 (by omega) 0 _ rfl) List.not_mem_nil) ?_
    refine D_p rfl (.yes rfl rfl rfl g3) (p_fieldo fo23_0 rfl rfl) ?_
    refine D_rd rfl (.yes rfl rfl rfl g3) (rl ag3 rfl rfl rfl) ?_
    refine D_p rfl (.yes rfl rfl rfl g3) (p_leq rfl rfl rfl) ?_
    refine D_p rfl (.yes rfl rfl rfl g2) (p_pick_t rfl rfl g3 rfl) ?_
    refine Dp rfl rfl (p_pick_f rfl rfl g2 rfl) ?_
    refine D_then (kp [2, 3, 4, 5, 6, 7, 48] rfl) ?_
    refine V_cond rfl ?_ ?_
    ·intro c2; try simp only [td] at c2
     refine V_exit (then_e (blk_e rfl (then_n ?_)))
     refine V_region rfl ?_
     refine Lm rfl rfl rfl ?_
     first | refine Lp rfl (p_add' rfl rfl rfl (by unfold InI; omega)) ?_ | refine Lp rfl (p_add rfl rfl rfl) ?_
     refine La rfl rfl rfl ?_
     refine L_keep (kp [2, 3, 4, 5, 6, 7] rfl) (then_n ?_)
     refine ⟨(k + 1, sm, a), ?_, ?_, (.cons rfl (.cons rfl (.cons rfl (.cons rfl (.cons rfl (.cons rfl (.nil _))))))), (by repeat (first | exact List.nil_sublist _ | exact List.Sublist.refl _ | apply List.Sublist.cons_cons | apply List.Sublist.cons | apply List.sublist_append_of_sublist_right)), rfl⟩
     ·refine ⟨by omega, by omega, ?_⟩
      rw [show (k + 1).toNat = k.toNat + 1 by omega]
      exact hs.skip (by first | exact skip_lo (by omega) (by rw [arFrm_at (by omega)]; omega) | exact skip_hi (by rw [arOf_len]; omega) (by rw [arFrm_at (by omega), show k.toNat + 1 = (k + 1).toNat by omega]; omega))
     dsimp only; omega
    intro c2; try simp only [td] at c2
    refine V_skip (then_n ?_)
    refine V_seq (V_draw (.rd 0 (.rd 1 (.rd 2 (.rd 3 (.rd 4 (.rd 5 (.rd 6 (.rd 7 (.rd 8 (.rd 9 (.rd 10 (.rd 11 (.rd 12 (.wr 13 [12, 11, 10, 9, 8, 7, 6, 5, 4, 3, 2, 1, 0] (.wr 14 [] .done))))))))))))))) mixed (by kernel_rfl) rfl ?_)
    refine Dp rfl rfl (p_fieldo fo28_2 rfl rfl) ?_
    refine Dr rfl rfl (rl ag24 rfl rfl rfl) ?_
    refine Dm rfl rfl rfl rfl ?_
    refine Dp rfl rfl (p_idx es24 rfl rfl rfl (by omega) (by omega)) ?_
    refine Dp rfl rfl (p_field fo127_1 rfl rfl) ?_
    refine Dr rfl rfl (r_loadB ag3 rfl rfl (hc 1 _ rfl) List.not_mem_nil) ?_
    refine Dp rfl rfl (p_fieldo fo28_2 rfl rfl) ?_
    refine Dr rfl rfl (rl ag24 rfl rfl rfl) ?_
    refine Dm rfl rfl rfl rfl ?_
    refine Dp rfl rfl (p_idx es24 rfl rfl rfl (by omega) (by omega)) ?_
    refine Dp rfl rfl (p_field fo127_1 rfl rfl) ?_
    refine Dr rfl rfl (r_loadB ag3 rfl rfl (hc 1 _ rfl) List.not_mem_nil) ?_
    refine Dp rfl rfl (p_build (r := [_, _]) pl23 zr23 rfl rfl rfl) ?_
    refine D_wr (.go (E' := [(11, _), (7, _), (5, _), (1, _)]) rfl (.plain rfl) (w_alloc zr23 rfl) rfl ?_)
    rintro _ _ ⟨b5, hb5, rfl, rfl⟩
    refine ⟨(.cons rfl (.plain rfl) (r_loadB ag3 rfl rfl (hc 1 _ rfl) List.not_mem_nil) (.cons rfl (.plain rfl) (rl ag24 rfl rfl rfl) (.cons rfl (.plain rfl) (r_loadB ag3 rfl rfl (hc 1 _ rfl) List.not_mem_nil) (.cons rfl (.plain rfl) (rl ag24 rfl rfl rfl) .nil)))), ?_⟩
    refine D_wr (.go (E' := []) rfl (.plain rfl) (ws (cs' := [_, _]) sz23 rfl rfl rfl rfl rfl rfl rfl) rfl ?_)
    rintro _ _ ⟨rfl, rfl⟩
    refine ⟨.nil, ?_⟩
    refine D_then (kp [2, 3, 4, 5, 6, 7, 8] rfl) ?_
    refine V_seq ?_
    refine Vs rfl ?_
    refine Lm rfl rfl rfl ?_
    refine L_then (kp [2, 3, 4, 5, 7, 8, 62] rfl) ?_
    refine V_cond rfl ?_ ?_
    ·intro c3; try simp only [td] at c3
     refine V_region rfl ?_
     iterate 2 refine Lr rfl (rlA (vs := [_, _]) ag23 sz23 rfl rfl rfl) ?_
     refine Lc rfl rfl rfl rfl (fun w hg => rhull_c a.x (at1 (v.air.getD k.toNat airZ).dens) w) ?_
     refine Ls (cs' := [_, _]) rfl sz23 rfl rfl rfl rfl rfl rfl rfl ?_
     refine L_then (kp [2, 3, 4, 5, 7, 8] rfl) ?_
     refine V_region rfl ?_
     refine Lr rfl (rlA (vs := [_, _]) ag23 sz23 rfl rfl rfl) ?_
     refine Ls (cs' := [_, _]) rfl sz23 rfl rfl rfl rfl rfl rfl rfl ?_
     refine La rfl rfl rfl ?_
     refine L_keep (kp [2, 3, 4, 5, 6, 7] rfl) (blk_n (then_n ?_))
     refine V_region rfl ?_
     refine Lm rfl rfl rfl ?_
     first | refine Lp rfl (p_add' rfl rfl rfl (by unfold InI; omega)) ?_ | refine Lp rfl (p_add rfl rfl rfl) ?_
     refine La rfl rfl rfl ?_
     refine L_keep (kp [2, 3, 4, 5, 6, 7] rfl) (then_n ?_)
     refine ⟨(k + 1, true, Fl.hullA a (⟨at1 (v.air.getD k.toNat airZ).dens, Fl.spZ, Fl.spZ⟩ : Ax)), ?_, ?_, (.cons rfl (.cons rfl (.cons rfl (.cons rfl (.cons rfl (.cons rfl (.nil _))))))), (by repeat (first | exact List.nil_sublist _ | exact List.Sublist.refl _ | apply List.Sublist.cons_cons | apply List.Sublist.cons | apply List.sublist_append_of_sublist_right)), rfl⟩
     ·refine ⟨by omega, by omega, ?_⟩
      have hft : sm = true := by assumption
      rw [hft] at hs
      rw [show (k + 1).toNat = k.toNat + 1 by omega]
      have h9 := hs.more (skip_no (by rw [arFrm_at (by omega)]; omega) (by rw [arOf_len]; by_cases hkl : k.toNat + 1 < v.air.length; (rw [arFrm_at hkl, show k.toNat + 1 = (k + 1).toNat by omega]; omega); omega))
      rw [arOf_at (by omega)] at h9; exact h9
     dsimp only; omega
    intro c3; try simp only [td] at c3
    refine V_skip (then_n ?_)
    refine V_region rfl ?_
    refine Lr rfl (rlA (vs := [_, _]) ag23 sz23 rfl rfl rfl) ?_
    refine Ls (cs' := [_, _]) rfl sz23 rfl rfl rfl rfl rfl rfl rfl ?_
    refine La rfl rfl rfl ?_
    refine L_keep (kp [2, 3, 4, 5, 6, 7] rfl) (blk_n (then_n ?_))
    refine V_region rfl ?_
    refine Lm rfl rfl rfl ?_
    first | refine Lp rfl (p_add' rfl rfl rfl (by unfold InI; omega)) ?_ | refine Lp rfl (p_add rfl rfl rfl) ?_
    refine La rfl rfl rfl ?_
    refine L_keep (kp [2, 3, 4, 5, 6, 7] rfl) (then_n ?_)
    refine ⟨(k + 1, true, (⟨at1 (v.air.getD k.toNat airZ).dens, Fl.spZ, Fl.spZ⟩ : Ax)), ?_, ?_, (.cons rfl (.cons rfl (.cons rfl (.cons rfl (.cons rfl (.cons rfl (.nil _))))))), (by repeat (first | exact List.nil_sublist _ | exact List.Sublist.refl _ | apply List.Sublist.cons_cons | apply List.Sublist.cons | apply List.sublist_append_of_sublist_right)), rfl⟩
    ·refine ⟨by omega, by omega, ?_⟩
     have hft : sm = false := by assumption
     rw [hft] at hs
     rw [show (k + 1).toNat = k.toNat + 1 by omega]
     have h9 := hs.first (skip_no (by rw [arFrm_at (by omega)]; omega) (by rw [arOf_len]; by_cases hkl : k.toNat + 1 < v.air.length; (rw [arFrm_at hkl, show k.toNat + 1 = (k + 1).toNat by omega]; omega); omega))
     rw [arOf_at (by omega)] at h9; exact h9
    dsimp only; omega
   intro g3; have g3' := g3; try simp only [td] at g3'
   iterate 10 refine D_no rfl (.mk' rfl rfl rfl g3) ?_
   refine D_p rfl (.yes rfl rfl rfl g2) (p_pick_f rfl rfl g3 rfl) ?_
   refine Dp rfl rfl (p_pick_f rfl rfl g2 rfl) ?_
   refine D_then (kp [2, 3, 4, 5, 6, 7, 48] rfl) ?_
   refine V_cond_f rfl rfl ?_
   refine V_skip (then_n ?_)
   refine V_seq (V_draw (.rd 0 (.rd 1 (.rd 2 (.rd 3 (.rd 4 (.rd 5 (.rd 6 (.rd 7 (.rd 8 (.rd 9 (.rd 10 (.rd 11 (.rd 12 (.wr 13 [12, 11, 10, 9, 8, 7, 6, 5, 4, 3, 2, 1, 0] (.wr 14 [] .done))))))))))))))) mixed (by kernel_rfl) rfl ?_)
   refine Dp rfl rfl (p_fieldo fo28_2 rfl rfl) ?_
   refine Dr rfl rfl (rl ag24 rfl rfl rfl) ?_
   refine Dm rfl rfl rfl rfl ?_
   refine Dp rfl rfl (p_idx es24 rfl rfl rfl (by omega) (by omega)) ?_
   refine Dp rfl rfl (p_field fo127_1 rfl rfl) ?_
   refine Dr rfl rfl (r_loadB ag3 rfl rfl (hc 1 _ rfl) List.not_mem_nil) ?_
   refine Dp rfl rfl (p_fieldo fo28_2 rfl rfl) ?_
   refine Dr rfl rfl (rl ag24 rfl rfl rfl) ?_
   refine Dm rfl rfl rfl rfl ?_
   refine Dp rfl rfl (p_idx es24 rfl rfl rfl (by omega) (by omega)) ?_
   refine Dp rfl rfl (p_field fo127_1 rfl rfl) ?_
   refine Dr rfl rfl (r_loadB ag3 rfl rfl (hc 1 _ rfl) List.not_mem_nil) ?_
   refine Dp rfl rfl (p_build (r := [_, _]) pl23 zr23 rfl rfl rfl) ?_
   refine D_wr (.go (E' := [(11, _), (7, _), (5, _), (1, _)]) rfl (.plain rfl) (w_alloc zr23 rfl) rfl ?_)
   rintro _ _ ⟨b5, hb5, rfl, rfl⟩
   refine ⟨(.cons rfl (.plain rfl) (r_loadB ag3 rfl rfl (hc 1 _ rfl) List.not_mem_nil) (.cons rfl (.plain rfl) (rl ag24 rfl rfl rfl) (.cons rfl (.plain rfl) (r_loadB ag3 rfl rfl (hc 1 _ rfl) List.not_mem_nil) (.cons rfl (.plain rfl) (rl ag24 rfl rfl rfl) .nil)))), ?_⟩
   refine D_wr (.go (E' := []) rfl (.plain rfl) (ws (cs' := [_, _]) sz23 rfl rfl rfl rfl rfl rfl rfl) rfl ?_)
   rintro _ _ ⟨rfl, rfl⟩
   refine ⟨.nil, ?_⟩
   refine D_then (kp [2, 3, 4, 5, 6, 7, 8] rfl) ?_
   refine V_seq ?_
   refine Vs rfl ?_
   refine Lm rfl rfl rfl ?_
   refine L_then (kp [2, 3, 4, 5, 7, 8, 62] rfl) ?_
   refine V_cond rfl ?_ ?_
   ·intro c4; try simp only [td] at c4
    refine V_region rfl ?_
    iterate 2 refine Lr rfl (rlA (vs := [_, _]) ag23 sz23 rfl rfl rfl) ?_
    refine Lc rfl rfl rfl rfl (fun w hg => rhull_c a.x (at1 (v.air.getD k.toNat airZ).dens) w) ?_
    refine Ls (cs' := [_, _]) rfl sz23 rfl rfl rfl rfl rfl rfl rfl ?_
    refine L_then (kp [2, 3, 4, 5, 7, 8] rfl) ?_
    refine V_region rfl ?_
    refine Lr rfl (rlA (vs := [_, _]) ag23 sz23 rfl rfl rfl) ?_
    refine Ls (cs' := [_, _]) rfl sz23 rfl rfl rfl rfl rfl rfl rfl ?_
    refine La rfl rfl rfl ?_
    refine L_keep (kp [2, 3, 4, 5, 6, 7] rfl) (blk_n (then_n ?_))
    refine V_region rfl ?_
    refine Lm rfl rfl rfl ?_
    first | refine Lp rfl (p_add' rfl rfl rfl (by unfold InI; omega)) ?_ | refine Lp rfl (p_add rfl rfl rfl) ?_
    refine La rfl rfl rfl ?_
    refine L_keep (kp [2, 3, 4, 5, 6, 7] rfl) (then_n ?_)
    refine ⟨(k + 1, true, Fl.hullA a (⟨at1 (v.air.getD k.toNat airZ).dens, Fl.spZ, Fl.spZ⟩ : Ax)), ?_, ?_, (.cons rfl (.cons rfl (.cons rfl (.cons rfl (.cons rfl (.cons rfl (.nil _))))))), (by repeat (first | exact List.nil_sublist _ | exact List.Sublist.refl _ | apply List.Sublist.cons_cons | apply List.Sublist.cons | apply List.sublist_append_of_sublist_right)), rfl⟩
    ·refine ⟨by omega, by omega, ?_⟩
     have hft : sm = true := by assumption
     rw [hft] at hs
     rw [show (k + 1).toNat = k.toNat + 1 by omega]
     have h9 := hs.more (skip_no (by rw [arFrm_at (by omega)]; omega) (by rw [arOf_len]; by_cases hkl : k.toNat + 1 < v.air.length; (rw [arFrm_at hkl, show k.toNat + 1 = (k + 1).toNat by omega]; omega); omega))
     rw [arOf_at (by omega)] at h9; exact h9
    dsimp only; omega
   intro c4; try simp only [td] at c4
   refine V_skip (then_n ?_)
   refine V_region rfl ?_
   refine Lr rfl (rlA (vs := [_, _]) ag23 sz23 rfl rfl rfl) ?_
   refine Ls (cs' := [_, _]) rfl sz23 rfl rfl rfl rfl rfl rfl rfl ?_
   refine La rfl rfl rfl ?_
   refine L_keep (kp [2, 3, 4, 5, 6, 7] rfl) (blk_n (then_n ?_))
   refine V_region rfl ?_
   refine Lm rfl rfl rfl ?_
   first | refine Lp rfl (p_add' rfl rfl rfl (by unfold InI; omega)) ?_ | refine Lp rfl (p_add rfl rfl rfl) ?_
   refine La rfl rfl rfl ?_
   refine L_keep (kp [2, 3, 4, 5, 6, 7] rfl) (then_n ?_)
   refine ⟨(k + 1, true, (⟨at1 (v.air.getD k.toNat airZ).dens, Fl.spZ, Fl.spZ⟩ : Ax)), ?_, ?_, (.cons rfl (.cons rfl (.cons rfl (.cons rfl (.cons rfl (.cons rfl (.nil _))))))), (by repeat (first | exact List.nil_sublist _ | exact List.Sublist.refl _ | apply List.Sublist.cons_cons | apply List.Sublist.cons | apply List.sublist_append_of_sublist_right)), rfl⟩
   ·refine ⟨by omega, by omega, ?_⟩
    have hft : sm = false := by assumption
    rw [hft] at hs
    rw [show (k + 1).toNat = k.toNat + 1 by omega]
    have h9 := hs.first (skip_no (by rw [arFrm_at (by omega)]; omega) (by rw [arOf_len]; by_cases hkl : k.toNat + 1 < v.air.length; (rw [arFrm_at hkl, show k.toNat + 1 = (k + 1).toNat by omega]; omega); omega))
    rw [arOf_at (by omega)] at h9; exact h9
   dsimp only; omega
  intro g1; have g1' := g1; try simp only [td] at g1'
  iterate 2 refine D_no rfl (.mk' rfl rfl rfl g1) ?_
  refine Dp rfl rfl (p_pick_f rfl rfl g1 rfl) ?_
  refine Dm rfl rfl rfl rfl ?_
  refine D_p rfl (.yes rfl rfl rfl rfl) (p_move rfl rfl) ?_
  first | refine D_p rfl (.yes rfl rfl rfl rfl) (p_add' rfl rfl rfl (by unfold InI; omega)) ?_ | refine D_p rfl (.yes rfl rfl rfl rfl) (p_add rfl rfl rfl) ?_
  refine D_p rfl (.yes rfl rfl rfl rfl) (p_fieldo fo28_2 rfl rfl) ?_
  refine D_rd rfl (.yes rfl rfl rfl rfl) (rl ag24 rfl rfl rfl) ?_
  refine D_p rfl (.yes rfl rfl rfl rfl) (p_len isl24 rfl rfl) ?_
  refine D_p rfl (.yes rfl rfl rfl rfl) (p_lss rfl rfl rfl) ?_
  refine D_p rfl (.yes rfl rfl rfl rfl) (p_move rfl rfl) ?_
  refine D_cases (d := 36) rfl ?_ ?_
  ·intro g4; have g4' := g4; try simp only [td] at g4'
   refine D_p rfl (.yes rfl rfl rfl g4) (p_fieldo fo28_2 rfl rfl) ?_
   refine D_rd rfl (.yes rfl rfl rfl g4) (rl ag24 rfl rfl rfl) ?_
   refine D_p rfl (.yes rfl rfl rfl g4) (p_move rfl rfl) ?_
   first | refine D_p rfl (.yes rfl rfl rfl g4) (p_add' rfl rfl rfl (by unfold InI; omega)) ?_ | refine D_p rfl (.yes rfl rfl rfl g4) (p_add rfl rfl rfl) ?_
   refine D_p rfl (.yes rfl rfl rfl g4) (p_idx es24 rfl rfl rfl (by omega) (by omega)) ?_
   refine D_p rfl (.yes rfl rfl rfl g4) (p_field fo127_0 rfl rfl) ?_
   refine D_rd rfl (.yes rfl rfl rfl g4) (r_loadB ag3 rfl rfl (hc2 (by omega) 0 _ rfl) List.not_mem_nil) ?_
   refine D_p rfl (.yes rfl rfl rfl g4) (p_fieldo fo23_0 rfl rfl) ?_
   refine D_rd rfl (.yes rfl rfl rfl g4) (rl ag3 rfl rfl rfl) ?_
   refine D_p rfl (.yes rfl rfl rfl g4) (p_leq rfl rfl rfl) ?_
   refine D_p rfl (.yes rfl rfl rfl rfl) (p_pick_t rfl rfl g4 rfl) ?_
   refine Dp rfl rfl (p_pick_f rfl rfl rfl rfl) ?_
   refine D_then (kp [2, 3, 4, 5, 6, 7, 48] rfl) ?_
   refine V_cond rfl ?_ ?_
   ·intro c5; try simp only [td] at c5
    refine V_exit (then_e (blk_e rfl (then_n ?_)))
    refine V_region rfl ?_
    refine Lm rfl rfl rfl ?_
    first | refine Lp rfl (p_add' rfl rfl rfl (by unfold InI; omega)) ?_ | refine Lp rfl (p_add rfl rfl rfl) ?_
    refine La rfl rfl rfl ?_
    refine L_keep (kp [2, 3, 4, 5, 6, 7] rfl) (then_n ?_)
    refine ⟨(k + 1, sm, a), ?_, ?_, (.cons rfl (.cons rfl (.cons rfl (.cons rfl (.cons rfl (.cons rfl (.nil _))))))), (by repeat (first | exact List.nil_sublist _ | exact List.Sublist.refl _ | apply List.Sublist.cons_cons | apply List.Sublist.cons | apply List.sublist_append_of_sublist_right)), rfl⟩
    ·refine ⟨by omega, by omega, ?_⟩
     rw [show (k + 1).toNat = k.toNat + 1 by omega]
     exact hs.skip (by first | exact skip_lo (by omega) (by rw [arFrm_at (by omega)]; omega) | exact skip_hi (by rw [arOf_len]; omega) (by rw [arFrm_at (by omega), show k.toNat + 1 = (k + 1).toNat by omega]; omega))
    dsimp only; omega
   intro c5; try simp only [td] at c5
   refine V_skip (then_n ?_)
   refine V_seq (V_draw (.rd 0 (.rd 1 (.rd 2 (.rd 3 (.rd 4 (.rd 5 (.rd 6 (.rd 7 (.rd 8 (.rd 9 (.rd 10 (.rd 11 (.rd 12 (.wr 13 [12, 11, 10, 9, 8, 7, 6, 5, 4, 3, 2, 1, 0] (.wr 14 [] .done))))))))))))))) mixed (by kernel_rfl) rfl ?_)
   refine Dp rfl rfl (p_fieldo fo28_2 rfl rfl) ?_
   refine Dr rfl rfl (rl ag24 rfl rfl rfl) ?_
   refine Dm rfl rfl rfl rfl ?_
   refine Dp rfl rfl (p_idx es24 rfl rfl rfl (by omega) (by omega)) ?_
   refine Dp rfl rfl (p_field fo127_1 rfl rfl) ?_
   refine Dr rfl rfl (r_loadB ag3 rfl rfl (hc 1 _ rfl) List.not_mem_nil) ?_
   refine Dp rfl rfl (p_fieldo fo28_2 rfl rfl) ?_
   refine Dr rfl rfl (rl ag24 rfl rfl rfl) ?_
   refine Dm rfl rfl rfl rfl ?_
   refine Dp rfl rfl (p_idx es24 rfl rfl rfl (by omega) (by omega)) ?_
   refine Dp rfl rfl (p_field fo127_1 rfl rfl) ?_
   refine Dr rfl rfl (r_loadB ag3 rfl rfl (hc 1 _ rfl) List.not_mem_nil) ?_
   refine Dp rfl rfl (p_build (r := [_, _]) pl23 zr23 rfl rfl rfl) ?_
   refine D_wr (.go (E' := [(11, _), (7, _), (5, _), (1, _)]) rfl (.plain rfl) (w_alloc zr23 rfl) rfl ?_)
   rintro _ _ ⟨b5, hb5, rfl, rfl⟩
   refine ⟨(.cons rfl (.plain rfl) (r_loadB ag3 rfl rfl (hc 1 _ rfl) List.not_mem_nil) (.cons rfl (.plain rfl) (rl ag24 rfl rfl rfl) (.cons rfl (.plain rfl) (r_loadB ag3 rfl rfl (hc 1 _ rfl) List.not_mem_nil) (.cons rfl (.plain rfl) (rl ag24 rfl rfl rfl) .nil)))), ?_⟩
   refine D_wr (.go (E' := []) rfl (.plain rfl) (ws (cs' := [_, _]) sz23 rfl rfl rfl rfl rfl rfl rfl) rfl ?_)
   rintro _ _ ⟨rfl, rfl⟩
   refine ⟨.nil, ?_⟩
   refine D_then (kp [2, 3, 4, 5, 6, 7, 8] rfl) ?_
   refine V_seq ?_
   refine Vs rfl ?_
   refine Lm rfl rfl rfl ?_
   refine L_then (kp [2, 3, 4, 5, 7, 8, 62] rfl) ?_
   refine V_cond rfl ?_ ?_
   ·intro c6; try simp only [td] at c6
    refine V_region rfl ?_
    iterate 2 refine Lr rfl (rlA (vs := [_, _]) ag23 sz23 rfl rfl rfl) ?_
    refine Lc rfl rfl rfl rfl (fun w hg => rhull_c a.x (at1 (v.air.getD k.toNat airZ).dens) w) ?_
    refine Ls (cs' := [_, _]) rfl sz23 rfl rfl rfl rfl rfl rfl rfl ?_
    refine L_then (kp [2, 3, 4, 5, 7, 8] rfl) ?_
    refine V_region rfl ?_
    refine Lr rfl (rlA (vs := [_, _]) ag23 sz23 rfl rfl rfl) ?_
    refine Ls (cs' := [_, _]) rfl sz23 rfl rfl rfl rfl rfl rfl rfl ?_
    refine La rfl rfl rfl ?_
    refine L_keep (kp [2, 3, 4, 5, 6, 7] rfl) (blk_n (then_n ?_))
    refine V_region rfl ?_
    refine Lm rfl rfl rfl ?_
    first | refine Lp rfl (p_add' rfl rfl rfl (by unfold InI; omega)) ?_ | refine Lp rfl (p_add rfl rfl rfl) ?_
    refine La rfl rfl rfl ?_
    refine L_keep (kp [2, 3, 4, 5, 6, 7] rfl) (then_n ?_)
    refine ⟨(k + 1, true, Fl.hullA a (⟨at1 (v.air.getD k.toNat airZ).dens, Fl.spZ, Fl.spZ⟩ : Ax)), ?_, ?_, (.cons rfl (.cons rfl (.cons rfl (.cons rfl (.cons rfl (.cons rfl (.nil _))))))), (by repeat (first | exact List.nil_sublist _ | exact List.Sublist.refl _ | apply List.Sublist.cons_cons | apply List.Sublist.cons | apply List.sublist_append_of_sublist_right)), rfl⟩
    ·refine ⟨by omega, by omega, ?_⟩
     have hft : sm = true := by assumption
     rw [hft] at hs
     rw [show (k + 1).toNat = k.toNat + 1 by omega]
     have h9 := hs.more (skip_no (by rw [arFrm_at (by omega)]; omega) (by rw [arOf_len]; by_cases hkl : k.toNat + 1 < v.air.length; (rw [arFrm_at hkl, show k.toNat + 1 = (k + 1).toNat by omega]; omega); omega))
     rw [arOf_at (by omega)] at h9; exact h9
    dsimp only; omega
   intro c6; try simp only [td] at c6
   refine V_skip (then_n ?_)
   refine V_region rfl ?_
   refine Lr rfl (rlA (vs := [_, _]) ag23 sz23 rfl rfl rfl) ?_
   refine Ls (cs' := [_, _]) rfl sz23 rfl rfl rfl rfl rfl rfl rfl ?_
   refine La rfl rfl rfl ?_
   refine L_keep (kp [2, 3, 4, 5, 6, 7] rfl) (blk_n (then_n ?_))
   refine V_region rfl ?_
   refine Lm rfl rfl rfl ?_
   first | refine Lp rfl (p_add' rfl rfl rfl (by unfold InI; omega)) ?_ | refine Lp rfl (p_add rfl rfl rfl) ?_
   refine La rfl rfl rfl ?_
   refine L_keep (kp [2, 3, 4, 5, 6, 7] rfl) (then_n ?_)
   refine ⟨(k + 1, true, (⟨at1 (v.air.getD k.toNat airZ).dens, Fl.spZ, Fl.spZ⟩ : Ax)), ?_, ?_, (.cons rfl (.cons rfl (.cons rfl (.cons rfl (.cons rfl (.cons rfl (.nil _))))))), (by repeat (first | exact List.nil_sublist _ | exact List.Sublist.refl _ | apply List.Sublist.cons_cons | apply List.Sublist.cons | apply List.sublist_append_of_sublist_right)), rfl⟩
   ·refine ⟨by omega, by omega, ?_⟩
    have hft : sm = false := by assumption
    rw [hft] at hs
    rw [show (k + 1).toNat = k.toNat + 1 by omega]
    have h9 := hs.first (skip_no (by rw [arFrm_at (by omega)]; omega) (by rw [arOf_len]; by_cases hkl : k.toNat + 1 < v.air.length; (rw [arFrm_at hkl, show k.toNat + 1 = (k + 1).toNat by omega]; omega); omega))
    rw [arOf_at (by omega)] at h9; exact h9
   dsimp only; omega
  intro g4; have g4' := g4; try simp only [td] at g4'
  iterate 10 refine D_no rfl (.mk' rfl rfl rfl g4) ?_
  refine D_p rfl (.yes rfl rfl rfl rfl) (p_pick_f rfl rfl g4 rfl) ?_
  refine Dp rfl rfl (p_pick_f rfl rfl rfl rfl) ?_
  refine D_then (kp [2, 3, 4, 5, 6, 7, 48] rfl) ?_
  refine V_cond_f rfl rfl ?_
  refine V_skip (then_n ?_)
  refine V_seq (V_draw (.rd 0 (.rd 1 (.rd 2 (.rd 3 (.rd 4 (.rd 5 (.rd 6 (.rd 7 (.rd 8 (.rd 9 (.rd 10 (.rd 11 (.rd 12 (.wr 13 [12, 11, 10, 9, 8, 7, 6, 5, 4, 3, 2, 1, 0] (.wr 14 [] .done))))))))))))))) mixed (by kernel_rfl) rfl ?_)
  refine Dp rfl rfl (p_fieldo fo28_2 rfl rfl) ?_
  refine Dr rfl rfl (rl ag24 rfl rfl rfl) ?_
  refine Dm rfl rfl rfl rfl ?_
  refine Dp rfl rfl (p_idx es24 rfl rfl rfl (by omega) (by omega)) ?_
  refine Dp rfl rfl (p_field fo127_1 rfl rfl) ?_
  refine Dr rfl rfl (r_loadB ag3 rfl rfl (hc 1 _ rfl) List.not_mem_nil) ?_
  refine Dp rfl rfl (p_fieldo fo28_2 rfl rfl) ?_
  refine Dr rfl rfl (rl ag24 rfl rfl rfl) ?_
  refine Dm rfl rfl rfl rfl ?_
  refine Dp rfl rfl (p_idx es24 rfl rfl rfl (by omega) (by omega)) ?_
  refine Dp rfl rfl (p_field fo127_1 rfl rfl) ?_
  refine Dr rfl rfl (r_loadB ag3 rfl rfl (hc 1 _ rfl) List.not_mem_nil) ?_
  refine Dp rfl rfl (p_build (r := [_, _]) pl23 zr23 rfl rfl rfl) ?_
  refine D_wr (.go (E' := [(11, _), (7, _), (5, _), (1, _)]) rfl (.plain rfl) (w_alloc zr23 rfl) rfl ?_)
  rintro _ _ ⟨b5, hb5, rfl, rfl⟩
  refine ⟨(.cons rfl (.plain rfl) (r_loadB ag3 rfl rfl (hc 1 _ rfl) List.not_mem_nil) (.cons rfl (.plain rfl) (rl ag24 rfl rfl rfl) (.cons rfl (.plain rfl) (r_loadB ag3 rfl rfl (hc 1 _ rfl) List.not_mem_nil) (.cons rfl (.plain rfl) (rl ag24 rfl rfl rfl) .nil)))), ?_⟩
  refine D_wr (.go (E' := []) rfl (.plain rfl) (ws (cs' := [_, _]) sz23 rfl rfl rfl rfl rfl rfl rfl) rfl ?_)
  rintro _ _ ⟨rfl, rfl⟩
  refine ⟨.nil, ?_⟩
  refine D_then (kp [2, 3, 4, 5, 6, 7, 8] rfl) ?_
  refine V_seq ?_
  refine Vs rfl ?_
  refine Lm rfl rfl rfl ?_
  refine L_then (kp [2, 3, 4, 5, 7, 8, 62] rfl) ?_
  refine V_cond rfl ?_ ?_
  ·intro c7; try simp only [td] at c7
   refine V_region rfl ?_
   iterate 2 refine Lr rfl (rlA (vs := [_, _]) ag23 sz23 rfl rfl rfl) ?_
   refine Lc rfl rfl rfl rfl (fun w hg => rhull_c a.x (at1 (v.air.getD k.toNat airZ).dens) w) ?_
   refine Ls (cs' := [_, _]) rfl sz23 rfl rfl rfl rfl rfl rfl rfl ?_
   refine L_then (kp [2, 3, 4, 5, 7, 8] rfl) ?_
   refine V_region rfl ?_
   refine Lr rfl (rlA (vs := [_, _]) ag23 sz23 rfl rfl rfl) ?_
   refine Ls (cs' := [_, _]) rfl sz23 rfl rfl rfl rfl rfl rfl rfl ?_
   refine La rfl rfl rfl ?_
   refine L_keep (kp [2, 3, 4, 5, 6, 7] rfl) (blk_n (then_n ?_))
   refine V_region rfl ?_
   refine Lm rfl rfl rfl ?_
   first | refine Lp rfl (p_add' rfl rfl rfl (by unfold InI; omega)) ?_ | refine Lp rfl (p_add rfl rfl rfl) ?_
   refine La rfl rfl rfl ?_
   refine L_keep (kp [2, 3, 4, 5, 6, 7] rfl) (then_n ?_)
   refine ⟨(k + 1, true, Fl.hullA a (⟨at1 (v.air.getD k.toNat airZ).dens, Fl.spZ, Fl.spZ⟩ : Ax)), ?_, ?_, (.cons rfl (.cons rfl (.cons rfl (.cons rfl (.cons rfl (.cons rfl (.nil _))))))), (by repeat (first | exact List.nil_sublist _ | exact List.Sublist.refl _ | apply List.Sublist.cons_cons | apply List.Sublist.cons | apply List.sublist_append_of_sublist_right)), rfl⟩
   ·refine ⟨by omega, by omega, ?_⟩
    have hft : sm = true := by assumption
    rw [hft] at hs
    rw [show (k + 1).toNat = k.toNat + 1 by omega]
    have h9 := hs.more (skip_no (by rw [arFrm_at (by omega)]; omega) (by rw [arOf_len]; by_cases hkl : k.toNat + 1 < v.air.length; (rw [arFrm_at hkl, show k.toNat + 1 = (k + 1).toNat by omega]; omega); omega))
    rw [arOf_at (by omega)] at h9; exact h9
   dsimp only; omega
  intro c7; try simp only [td] at c7
  refine V_skip (then_n ?_)
  refine V_region rfl ?_
  refine Lr rfl (rlA (vs := [_, _]) ag23 sz23 rfl rfl rfl) ?_
  refine Ls (cs' := [_, _]) rfl sz23 rfl rfl rfl rfl rfl rfl rfl ?_
  refine La rfl rfl rfl ?_
  refine L_keep (kp [2, 3, 4, 5, 6, 7] rfl) (blk_n (then_n ?_))
  refine V_region rfl ?_
  refine Lm rfl rfl rfl ?_
  first | refine Lp rfl (p_add' rfl rfl rfl (by unfold InI; omega)) ?_ | refine Lp rfl (p_add rfl rfl rfl) ?_
  refine La rfl rfl rfl ?_
  refine L_keep (kp [2, 3, 4, 5, 6, 7] rfl) (then_n ?_)
  refine ⟨(k + 1, true, (⟨at1 (v.air.getD k.toNat airZ).dens, Fl.spZ, Fl.spZ⟩ : Ax)), ?_, ?_, (.cons rfl (.cons rfl (.cons rfl (.cons rfl (.cons rfl (.cons rfl (.nil _))))))), (by repeat (first | exact List.nil_sublist _ | exact List.Sublist.refl _ | apply List.Sublist.cons_cons | apply List.Sublist.cons | apply List.sublist_append_of_sublist_right)), rfl⟩
  ·refine ⟨by omega, by omega, ?_⟩
   have hft : sm = false := by assumption
   rw [hft] at hs
   rw [show (k + 1).toNat = k.toNat + 1 by omega]
   have h9 := hs.first (skip_no (by rw [arFrm_at (by omega)]; omega) (by rw [arOf_len]; by_cases hkl : k.toNat + 1 < v.air.length; (rw [arFrm_at hkl, show k.toNat + 1 = (k + 1).toNat by omega]; omega); omega))
   rw [arOf_at (by omega)] at h9; exact h9
  dsimp only; omega
 intro c1; try simp only [td] at c1
 have ek : k.toNat = (arOf v).length := by rw [arOf_len]; omega
 rw [ek] at hs
 have hw := hs.end
 refine V_exit (then_e (then_e (blk_e rfl (then_n ?_))))
 refine Vs rfl ?_
 refine Lr rfl (rlA (vs := [_, _]) ag23 sz23 rfl rfl rfl) ?_
 refine Ls (cs' := [_, _]) rfl sz23 rfl rfl rfl rfl rfl rfl rfl ?_
 refine L_then (kp [4] rfl) ?_
 refine V_ret ?_
 refine Leave.nil (.cellA (us := [_, _]) rfl ag23 sz23 (by repeat first | exact mH | apply mT) rfl .nil) ?_
 rw [hw]; rfl

end Go.Proofs.YtbncegfgjbdheaaGreat
