/- Ytbncegfgjbdheaa: FlightBands is proved: for any bands, vehicle and heights (no condition) it returns true. -/
import Derived.Test.YtbncegfgjbdheaaRows
import Derived.Test.YtbncegfgjbdheaaZal
import Derived.Test.YtbncegfgjbdheaaZaf
import Derived.Test.YtbncegfgjbdheaaZam
import Derived.ProofKit
set_option linter.all false
namespace Go.Proofs.Ytbncegfgjbdheaa
open Go.Vc Go.Tk Go.Fl Go.ChangeShapes Go.WideShapes Go.ChangeAt Go.RowKit
set_option maxRecDepth 100000
theorem wnow_c (n : Int) (w : World) : FnP Try.prog 69 [.int .i64 n] w (.bool (oP n 0 99999999)) := by
 refine fn_pure Try.func69 rfl (by kernel_rfl) Try.ntmps69 Try.results69 rfl ?_
 refine Vs rfl ?_
 refine La rfl rfl rfl ?_
 refine L_then (kp [0] rfl) ?_
 refine Vs rfl ?_
 refine Lm rfl rfl rfl ?_
 refine Lc rfl rfl rfl rfl (fun w hg => wout_c _ _ _ w) ?_
 refine La rfl rfl rfl ?_
 refine L_then (kp [2] rfl) ?_
 refine V_ret ?_
 refine Leave.nil (.tmp rfl .nil) ?_
 rfl
theorem wover1_c (y : Fl.Band) (h : Int) (b ty : Nat) (fr : Nat × Nat) (w : World) (hb : w.heap[b]? = some (.cells #[.int .i64 h] ty fr)) : FnP Try.prog 71 [.agg (Fl.Band.cells y).toArray, .pointer (some ⟨b, 0, none⟩)] w (.bool (decide (h < y.to))) := by
 refine fn_pure Try.func71 rfl (by kernel_rfl) Try.ntmps71 Try.results71 rfl ?_
 refine Vs rfl ?_
 refine Lw rfl (w_box rfl rfl) ?_
 rintro _ _ ⟨b1, hb1, rfl, rfl⟩
 refine La rfl rfl rfl ?_
 refine L_then (kp [1, 2] rfl) ?_
 refine Vs rfl ?_
 refine Lr rfl (r_loadB ag3 rfl rfl (own_cell hb _) List.not_mem_nil) ?_
 refine Lp rfl (p_fieldo fo51_1 rfl rfl) ?_
 refine Lr rfl (rl ag3 rfl rfl rfl) ?_
 refine Lp rfl (p_lss rfl rfl rfl) ?_
 refine La rfl rfl rfl ?_
 refine L_then (kp [3] rfl) ?_
 refine V_ret ?_
 refine Leave.nil (.tmp rfl .nil) ?_
 rfl
theorem wOver_c (l : List Fl.Band) (h : Int) (bv : Value) (w : World) (hl : BdsR w bv l) : FnP Try.prog 31 [bv, .int .i64 h] w (.tuple #[.agg #[.int .i64 (overX l h).x.lo, .int .i64 (overX l h).x.hi], .agg #[.int .i64 (overX l h).y.lo, .int .i64 (overX l h).y.hi], .int .i64 (overE l h)]) := by
 have hL := hl
 obtain ⟨ba, bc, rfl, hbc, hbe⟩ := hl.sl.ex
 simp only [List.length_map] at hL hbc hl ⊢
 refine fn_pure Try.func31 rfl (by kernel_rfl) Try.ntmps31 Try.results31 rfl ?_
 refine Vs rfl ?_
 refine Lw rfl (w_box rfl rfl) ?_
 rintro _ _ ⟨b1, hb1, rfl, rfl⟩
 refine Lw rfl (w_alloc zr23 rfl) ?_
 rintro _ _ ⟨b2, hb2, rfl, rfl⟩
 refine Lw rfl (w_alloc zr23 rfl) ?_
 rintro _ _ ⟨b3, hb3, rfl, rfl⟩
 refine La rfl rfl rfl ?_
 refine L_then (kp [0, 3, 4, 5] rfl) ?_
 refine V_seq ?_
 refine Vs rfl ?_
 refine Lm rfl rfl rfl ?_
 refine Lc rfl rfl rfl rfl (fun w hg => wbands_c l _ w (hl.good hg)) ?_
 refine Lm rfl rfl rfl ?_
 iterate 2 refine Lp rfl (p_ext rfl rfl rfl) ?_
 refine La rfl rfl rfl ?_
 refine L_then (kp [0, 3, 4, 5, 6] rfl) ?_
 refine Vs rfl ?_
 refine Lm rfl rfl rfl ?_
 refine Lp rfl (p_neq rfl rfl rfl) ?_
 refine L_then (kp [0, 3, 4, 5, 6, 14] rfl) ?_
 refine V_cond rfl ?_ ?_
 ·intro c1; try simp only [td] at c1
  refine V_seq (V_draw (.rd 0 (.rd 1 (.rd 2 (.wr 3 [2, 1] (.wr 4 [2] (.wr 5 [] .done)))))) mixed (by kernel_rfl) rfl ?_)
  iterate 2 refine Dr rfl rfl (rlA (vs := [_, _]) ag23 sz23 rfl rfl rfl) ?_
  refine Dm rfl rfl rfl rfl ?_
  refine D_wr (.go (E' := [(1, _)]) rfl (.plain rfl) (ws (cs' := [_, _]) sz23 rfl rfl rfl rfl rfl rfl rfl) rfl ?_)
  rintro _ _ ⟨rfl, rfl⟩
  refine ⟨(.cons rfl (.plain rfl) (rlA (vs := [_, _]) ag23 sz23 rfl rfl rfl) .nil), ?_⟩
  refine D_wr (.go (E' := []) rfl (.plain rfl) (ws (cs' := [_, _]) sz23 rfl rfl rfl rfl rfl rfl rfl) rfl ?_)
  rintro _ _ ⟨rfl, rfl⟩
  refine ⟨.nil, ?_⟩
  refine D_wr (.go (E' := []) rfl (.plain rfl) (rd_wr (RdP.rd (p_assign rfl rfl))) rfl ?_)
  rintro _ _ ⟨rfl, rfl⟩
  refine ⟨.nil, ?_⟩
  refine D_then (kp [4, 5, 6] rfl) ?_
  refine V_ret (then_r ?_)
  refine Leave.nil (.cellA (us := [_, _]) rfl ag23 sz23 (by repeat first | exact mH | apply mT) rfl (.cellA (us := [_, _]) rfl ag23 sz23 (by repeat first | exact mH | apply mT) rfl (.tmp rfl .nil))) ?_
  first | (exfalso; omega) | (rw [overX_1 (by rw [overE_1 (by assumption)]; assumption), overE_1 (by assumption)]; rfl) | (rw [overX_1 (by rw [overE_7 (by omega) (by assumption)]; decide), overE_7 (by omega) (by assumption)]; rfl) | (rw [overX_1 (by rw [overE_4 (by omega) (by assumption) (by omega)]; decide), overE_4 (by omega) (by assumption) (by omega)]; rfl) | (rw [overX_0 (overE_0 (by omega) (by assumption) (by omega)), overE_0 (by omega) (by assumption) (by omega)]; rfl)
 intro c1; try simp only [td] at c1
 refine V_skip (then_n ?_)
 refine V_seq ?_
 refine Vs rfl ?_
 refine Lr rfl (rl ag3 rfl rfl rfl) ?_
 refine Lc rfl rfl rfl rfl (fun w hg => wnow_c h w) ?_
 refine L_then (kp [0, 3, 4, 5, 19] rfl) ?_
 refine V_cond rfl ?_ ?_
 ·intro c2; try simp only [td] at c2
  refine V_seq (V_draw (.rd 0 (.rd 1 (.wr 2 [1] (.wr 3 [] (.rd 4 .done))))) mixed (by kernel_rfl) rfl ?_)
  iterate 2 refine Dr rfl rfl (rlA (vs := [_, _]) ag23 sz23 rfl rfl rfl) ?_
  refine D_wr (.go (E' := [(1, _)]) rfl (.plain rfl) (ws (cs' := [_, _]) sz23 rfl rfl rfl rfl rfl rfl rfl) rfl ?_)
  rintro _ _ ⟨rfl, rfl⟩
  refine ⟨(.cons rfl (.plain rfl) (rlA (vs := [_, _]) ag23 sz23 rfl rfl rfl) .nil), ?_⟩
  refine D_wr (.go (E' := []) rfl (.plain rfl) (ws (cs' := [_, _]) sz23 rfl rfl rfl rfl rfl rfl rfl) rfl ?_)
  rintro _ _ ⟨rfl, rfl⟩
  refine ⟨.nil, ?_⟩
  refine Dp rfl rfl (p_assign rfl rfl) ?_
  refine D_then (kp [4, 5, 6] rfl) ?_
  refine V_ret (then_r ?_)
  refine Leave.nil (.cellA (us := [_, _]) rfl ag23 sz23 (by repeat first | exact mH | apply mT) rfl (.cellA (us := [_, _]) rfl ag23 sz23 (by repeat first | exact mH | apply mT) rfl (.tmp rfl .nil))) ?_
  first | (exfalso; omega) | (rw [overX_1 (by rw [overE_1 (by assumption)]; assumption), overE_1 (by assumption)]; rfl) | (rw [overX_1 (by rw [overE_7 (by omega) (by assumption)]; decide), overE_7 (by omega) (by assumption)]; rfl) | (rw [overX_1 (by rw [overE_4 (by omega) (by assumption) (by omega)]; decide), overE_4 (by omega) (by assumption) (by omega)]; rfl) | (rw [overX_0 (overE_0 (by omega) (by assumption) (by omega)), overE_0 (by omega) (by assumption) (by omega)]; rfl)
 intro c2; try simp only [td] at c2
 refine V_skip (then_n ?_)
 refine Vs rfl ?_
 refine Lm rfl rfl rfl ?_
 refine Lp rfl (p_func rfl rfl rfl) ?_
 refine Lc rfl rfl rfl rfl (fun w hg => (show FnP Try.prog _ _ w (.int .i64 (overI l h)) from idxBd_c l _ _ _ (fun y => decide (h < y.to)) w (hl.good hg).sl (by have := (good_of_checkB (l := l) (by omega)).len; have := oP_false.1 this; omega) (fun j hj w' he => wover1_c _ _ _ _ _ w' (he.heap (hg.own (b1, _) (by repeat first | exact mH | apply mT)))))) ?_
 refine La rfl rfl rfl ?_
 refine L_then (kp [0, 4, 5, 7] rfl) ?_
 refine V_seq ?_
 refine Vs rfl ?_
 refine Lm rfl rfl rfl ?_
 refine Lp rfl (p_lss rfl rfl rfl) ?_
 refine L_then (kp [0, 4, 5, 7, 26] rfl) ?_
 refine V_cond rfl ?_ ?_
 ·intro c3; try simp only [td] at c3
  refine V_seq (V_draw (.rd 0 (.rd 1 (.wr 2 [1] (.wr 3 [] (.rd 4 .done))))) mixed (by kernel_rfl) rfl ?_)
  iterate 2 refine Dr rfl rfl (rlA (vs := [_, _]) ag23 sz23 rfl rfl rfl) ?_
  refine D_wr (.go (E' := [(1, _)]) rfl (.plain rfl) (ws (cs' := [_, _]) sz23 rfl rfl rfl rfl rfl rfl rfl) rfl ?_)
  rintro _ _ ⟨rfl, rfl⟩
  refine ⟨(.cons rfl (.plain rfl) (rlA (vs := [_, _]) ag23 sz23 rfl rfl rfl) .nil), ?_⟩
  refine D_wr (.go (E' := []) rfl (.plain rfl) (ws (cs' := [_, _]) sz23 rfl rfl rfl rfl rfl rfl rfl) rfl ?_)
  rintro _ _ ⟨rfl, rfl⟩
  refine ⟨.nil, ?_⟩
  refine Dp rfl rfl (p_assign rfl rfl) ?_
  refine D_then (kp [4, 5, 6] rfl) ?_
  refine V_ret (then_r ?_)
  refine Leave.nil (.cellA (us := [_, _]) rfl ag23 sz23 (by repeat first | exact mH | apply mT) rfl (.cellA (us := [_, _]) rfl ag23 sz23 (by repeat first | exact mH | apply mT) rfl (.tmp rfl .nil))) ?_
  first | (exfalso; omega) | (rw [overX_1 (by rw [overE_1 (by assumption)]; assumption), overE_1 (by assumption)]; rfl) | (rw [overX_1 (by rw [overE_7 (by omega) (by assumption)]; decide), overE_7 (by omega) (by assumption)]; rfl) | (rw [overX_1 (by rw [overE_4 (by omega) (by assumption) (by omega)]; decide), overE_4 (by omega) (by assumption) (by omega)]; rfl) | (rw [overX_0 (overE_0 (by omega) (by assumption) (by omega)), overE_0 (by omega) (by assumption) (by omega)]; rfl)
 intro c3; try simp only [td] at c3
 obtain ⟨hk1, hk2⟩ := overI_lt (l := l) (h := h) (by omega)
 obtain ⟨tb, etb, hc⟩ := hbe (overI l h).toNat _ (getD_cells (d := bdZ) hk1)
 subst etb
 refine V_skip (then_n ?_)
 refine V_seq (V_draw (.rd 0 (.rd 1 (.rd 2 (.rd 3 (.rd 4 (.rd 5 (.rd 6 (.rd 7 (.rd 8 (.rd 9 (.wr 10 [9, 8, 7, 6, 5] (.wr 11 [] (.rd 12 .done))))))))))))) mixed (by kernel_rfl) rfl ?_)
 iterate 2 refine Dm rfl rfl rfl rfl ?_
 refine Dp rfl rfl (p_idx es37 rfl rfl rfl (by omega) (by omega)) ?_
 refine Dp rfl rfl (p_field fo51_2 rfl rfl) ?_
 refine Dr rfl rfl (r_loadBA ag23 sz23 rfl rfl (hc.sub 2 2) rfl List.not_mem_nil) ?_
 iterate 2 refine Dm rfl rfl rfl rfl ?_
 refine Dp rfl rfl (p_idx es37 rfl rfl rfl (by omega) (by omega)) ?_
 refine Dp rfl rfl (p_field fo51_3 rfl rfl) ?_
 refine Dr rfl rfl (r_loadBA ag23 sz23 rfl rfl (hc.sub 4 2) rfl List.not_mem_nil) ?_
 refine D_wr (.go (E' := [(9, _)]) rfl (.plain rfl) (ws (cs' := [_, _]) sz23 rfl rfl rfl rfl rfl rfl rfl) rfl ?_)
 rintro _ _ ⟨rfl, rfl⟩
 refine ⟨(.cons rfl (.plain rfl) (r_loadBA ag23 sz23 rfl rfl (hc.sub 4 2) rfl List.not_mem_nil) .nil), ?_⟩
 refine D_wr (.go (E' := []) rfl (.plain rfl) (ws (cs' := [_, _]) sz23 rfl rfl rfl rfl rfl rfl rfl) rfl ?_)
 rintro _ _ ⟨rfl, rfl⟩
 refine ⟨.nil, ?_⟩
 refine Dp rfl rfl (p_assign rfl rfl) ?_
 refine D_then (kp [4, 5, 6] rfl) ?_
 refine V_ret ?_
 refine Leave.nil (.cellA (us := [_, _]) rfl ag23 sz23 (by repeat first | exact mH | apply mT) rfl (.cellA (us := [_, _]) rfl ag23 sz23 (by repeat first | exact mH | apply mT) rfl (.tmp rfl .nil))) ?_
 first | (exfalso; omega) | (rw [overX_1 (by rw [overE_1 (by assumption)]; assumption), overE_1 (by assumption)]; rfl) | (rw [overX_1 (by rw [overE_7 (by omega) (by assumption)]; decide), overE_7 (by omega) (by assumption)]; rfl) | (rw [overX_1 (by rw [overE_4 (by omega) (by assumption) (by omega)]; decide), overE_4 (by omega) (by assumption) (by omega)]; rfl) | (rw [overX_0 (overE_0 (by omega) (by assumption) (by omega)), overE_0 (by omega) (by assumption) (by omega)]; rfl)
theorem lholds_c (a b : Span) (h : InS b a) (w : World) : FnP Try.prog 30 [.agg #[.int .i64 a.lo, .int .i64 a.hi], .agg #[.int .i64 b.lo, .int .i64 b.hi]] w (.bool true) := by
 refine fn_pure Try.func30 rfl (by kernel_rfl) Try.ntmps30 Try.results30 rfl ?_
 refine Vs rfl ?_
 refine Lw rfl (w_box rfl rfl) ?_
 rintro _ _ ⟨b1, hb1, rfl, rfl⟩
 refine Lw rfl (w_box rfl rfl) ?_
 rintro _ _ ⟨b2, hb2, rfl, rfl⟩
 refine La rfl rfl rfl ?_
 refine L_then (kp [2, 3] rfl) ?_
 refine Vs rfl ?_
 refine Lp rfl (p_fieldo fo23_0 rfl rfl) ?_
 refine Lr rfl (rl ag3 rfl rfl rfl) ?_
 refine Lp rfl (p_fieldo fo23_0 rfl rfl) ?_
 refine Lr rfl (rl ag3 rfl rfl rfl) ?_
 refine Lp rfl (p_leq rfl rfl rfl) ?_
 refine Lm rfl rfl rfl ?_
 refine L_yes rfl rfl rfl (decide_eq_true (by unfold InS at h; omega)) (X_p (p_fieldo fo23_1 rfl rfl) ?_)
 refine L_yes rfl rfl rfl (decide_eq_true (by unfold InS at h; omega)) (X_rd (rl ag3 rfl rfl rfl) ?_)
 refine L_yes rfl rfl rfl (decide_eq_true (by unfold InS at h; omega)) (X_p (p_fieldo fo23_1 rfl rfl) ?_)
 refine L_yes rfl rfl rfl (decide_eq_true (by unfold InS at h; omega)) (X_rd (rl ag3 rfl rfl rfl) ?_)
 refine L_yes rfl rfl rfl (decide_eq_true (by unfold InS at h; omega)) (X_p (p_leq rfl rfl rfl) ?_)
 refine Lp rfl (p_pick_t rfl rfl (decide_eq_true (by unfold InS at h; omega)) rfl) ?_
 refine La rfl rfl rfl ?_
 refine L_then (kp [4] rfl) ?_
 refine V_ret ?_
 refine Leave.nil (.tmp rfl .nil) ?_
 show Value.bool (decide _) = _
 rw [decide_eq_true (by unfold InS at h; omega)]
theorem flightBandsB (l : List Fl.Band) (v : Veh) (z : Span) (s : Int) (bv x : Value) (hs : 0 ≤ s ∧ s ≤ 255) (w : World) (hl : BdsR w bv l) (hv : VehR w x v) (hb : beyond z (-2000000000) 2000000000 = true) : FnP Try.prog 9 [bv, x, .agg #[.int .i64 z.lo, .int .i64 z.hi, .int .u8 s]] w (.bool true) := by
 have hV := hv
 obtain ⟨av, pv, qv, rfl, hsa, hsp, hsq⟩ := hv.ex
 have hz := beyond_true.1 hb
 refine fn_pure Try.func9 rfl (by kernel_rfl) Try.ntmps9 Try.results9 rfl ?_
 refine Vs rfl ?_
 refine Lw rfl (w_box rfl rfl) ?_
 rintro _ _ ⟨b1, hb1, rfl, rfl⟩
 refine Lw rfl (w_box rfl rfl) ?_
 rintro _ _ ⟨b2, hb2, rfl, rfl⟩
 refine La rfl rfl rfl ?_
 refine L_then (kp [0, 4, 5] rfl) ?_
 refine Vs rfl ?_
 refine Lp rfl (p_fieldo fo80_0 rfl rfl) ?_
 refine Lr rfl (rlA (vs := [_, _]) ag23 sz23 rfl rfl rfl) ?_
 refine Lw rfl (w_alloc zr23 rfl) ?_
 rintro _ _ ⟨b3, hb3, rfl, rfl⟩
 refine Ls (cs' := [_, _]) rfl sz23 rfl rfl rfl rfl rfl rfl rfl ?_
 refine L_then (kp [0, 4, 5, 7] rfl) ?_
 refine Vs rfl ?_
 refine Lm rfl rfl rfl ?_
 refine Lr rfl (rlA (vs := [_, _]) ag23 sz23 rfl rfl rfl) ?_
 refine Lc rfl rfl rfl rfl (fun w hg => fWinds_c z l _ w (hl.good hg)) ?_
 refine Lm rfl rfl rfl ?_
 iterate 2 refine Lp rfl (p_ext rfl rfl rfl) ?_
 refine Lw rfl (w_alloc zr60 rfl) ?_
 rintro _ _ ⟨b4, hb4, rfl, rfl⟩
 refine Ls (cs' := [_, _, _, _]) rfl sz60 rfl rfl rfl rfl rfl rfl rfl ?_
 refine La rfl rfl rfl ?_
 refine L_then (kp [0, 4, 5, 7, 8, 9] rfl) ?_
 refine Vs rfl ?_
 refine Lr rfl (rlA (vs := [_, _, _, _, _, _]) ag28 sz28 rfl rfl rfl) ?_
 refine Lr rfl (rlA (vs := [_, _]) ag23 sz23 rfl rfl rfl) ?_
 refine Lc rfl rfl rfl rfl (fun w hg => fAir_c z v _ w (hV.good hg)) ?_
 refine Lm rfl rfl rfl ?_
 iterate 2 refine Lp rfl (p_ext rfl rfl rfl) ?_
 refine Lw rfl (w_alloc zr23 rfl) ?_
 rintro _ _ ⟨b5, hb5, rfl, rfl⟩
 refine Ls (cs' := [_, _]) rfl sz23 rfl rfl rfl rfl rfl rfl rfl ?_
 refine La rfl rfl rfl ?_
 refine L_then (kp [0, 4, 5, 7, 8, 9, 10, 11] rfl) ?_
 refine V_seq ?_
 refine Vs rfl ?_
 refine Lp rfl (p_fieldo fo23_0 rfl rfl) ?_
 refine Lr rfl (rl ag3 rfl rfl rfl) ?_
 refine Lp rfl (p_fieldo fo23_1 rfl rfl) ?_
 refine Lr rfl (rl ag3 rfl rfl rfl) ?_
 refine Lp rfl (p_gtr rfl rfl rfl) ?_
 refine Lm rfl rfl rfl ?_
 refine L_cases (d := 39) rfl ?_ ?_
 ·intro g1; have g1' := g1; try simp only [td] at g1'
  iterate 3 refine L_no rfl rfl rfl g1 ?_
  refine Lp rfl (p_pick_t rfl rfl g1 rfl) ?_
  refine Lm rfl rfl rfl ?_
  iterate 3 refine L_no rfl rfl rfl rfl ?_
  refine Lp rfl (p_pick_t rfl rfl rfl rfl) ?_
  refine L_then (kp [0, 4, 5, 7, 8, 9, 10, 11, 48] rfl) ?_
  refine V_cond_t rfl rfl ?_
  refine Vs rfl ?_
  refine Lm rfl rfl rfl ?_
  refine Lp rfl (p_neq rfl rfl rfl) ?_
  refine Lm rfl rfl rfl ?_
  refine L_yes rfl rfl rfl (decide_eq_true (bad_at (l := l) (v := v) hb).1) (X_p (p_move rfl rfl) ?_)
  refine L_yes rfl rfl rfl (decide_eq_true (bad_at (l := l) (v := v) hb).1) (X_p (p_neq rfl rfl rfl) ?_)
  refine Lp rfl (p_pick_t rfl rfl (decide_eq_true (bad_at (l := l) (v := v) hb).1) rfl) ?_
  refine Lm rfl rfl rfl ?_
  refine L_yes rfl rfl rfl (decide_eq_true (bad_at (l := l) (v := v) hb).2) (X_wr (w_callP rfl rfl rfl (fun w hg => lAwake_c w)) ?_)
  rintro _ _ ⟨rfl, rfl⟩
  refine Lp rfl (p_pick_t rfl rfl (decide_eq_true (bad_at (l := l) (v := v) hb).2) rfl) ?_
  refine La rfl rfl rfl ?_
  refine L_then (kp [6] rfl) ?_
  refine V_ret (then_r ?_)
  refine Leave.nil (.tmp rfl .nil) ?_
  rfl
 intro g1; have g1' := g1; try simp only [td] at g1'
 refine L_yes rfl rfl rfl g1 (X_p (p_fieldo fo23_0 rfl rfl) ?_)
 refine L_yes rfl rfl rfl g1 (X_rd (rl ag3 rfl rfl rfl) ?_)
 refine L_yes rfl rfl rfl g1 (X_p (p_lss rfl rfl rfl) ?_)
 refine Lp rfl (p_pick_f rfl rfl g1 rfl) ?_
 refine Lm rfl rfl rfl ?_
 refine L_cases (d := 44) rfl ?_ ?_
 ·intro g2; have g2' := g2; try simp only [td] at g2'
  iterate 3 refine L_no rfl rfl rfl g2 ?_
  refine Lp rfl (p_pick_t rfl rfl g2 rfl) ?_
  refine L_then (kp [0, 4, 5, 7, 8, 9, 10, 11, 48] rfl) ?_
  refine V_cond_t rfl rfl ?_
  refine Vs rfl ?_
  refine Lm rfl rfl rfl ?_
  refine Lp rfl (p_neq rfl rfl rfl) ?_
  refine Lm rfl rfl rfl ?_
  refine L_yes rfl rfl rfl (decide_eq_true (bad_at (l := l) (v := v) hb).1) (X_p (p_move rfl rfl) ?_)
  refine L_yes rfl rfl rfl (decide_eq_true (bad_at (l := l) (v := v) hb).1) (X_p (p_neq rfl rfl rfl) ?_)
  refine Lp rfl (p_pick_t rfl rfl (decide_eq_true (bad_at (l := l) (v := v) hb).1) rfl) ?_
  refine Lm rfl rfl rfl ?_
  refine L_yes rfl rfl rfl (decide_eq_true (bad_at (l := l) (v := v) hb).2) (X_wr (w_callP rfl rfl rfl (fun w hg => lAwake_c w)) ?_)
  rintro _ _ ⟨rfl, rfl⟩
  refine Lp rfl (p_pick_t rfl rfl (decide_eq_true (bad_at (l := l) (v := v) hb).2) rfl) ?_
  refine La rfl rfl rfl ?_
  refine L_then (kp [6] rfl) ?_
  refine V_ret (then_r ?_)
  refine Leave.nil (.tmp rfl .nil) ?_
  rfl
 intro g2; have g2' := g2; try simp only [td] at g2'
 refine L_yes rfl rfl rfl g2 (X_p (p_fieldo fo23_1 rfl rfl) ?_)
 refine L_yes rfl rfl rfl g2 (X_rd (rl ag3 rfl rfl rfl) ?_)
 refine L_yes rfl rfl rfl g2 (X_p (p_gtr rfl rfl rfl) ?_)
 refine Lp rfl (p_pick_f rfl rfl g2 rfl) ?_
 refine L_then (kp [0, 4, 5, 7, 8, 9, 10, 11, 48] rfl) ?_
 refine V_cond rfl ?_ ?_
 ·intro c1; try simp only [td] at c1
  refine Vs rfl ?_
  refine Lm rfl rfl rfl ?_
  refine Lp rfl (p_neq rfl rfl rfl) ?_
  refine Lm rfl rfl rfl ?_
  refine L_yes rfl rfl rfl (decide_eq_true (bad_at (l := l) (v := v) hb).1) (X_p (p_move rfl rfl) ?_)
  refine L_yes rfl rfl rfl (decide_eq_true (bad_at (l := l) (v := v) hb).1) (X_p (p_neq rfl rfl rfl) ?_)
  refine Lp rfl (p_pick_t rfl rfl (decide_eq_true (bad_at (l := l) (v := v) hb).1) rfl) ?_
  refine Lm rfl rfl rfl ?_
  refine L_yes rfl rfl rfl (decide_eq_true (bad_at (l := l) (v := v) hb).2) (X_wr (w_callP rfl rfl rfl (fun w hg => lAwake_c w)) ?_)
  rintro _ _ ⟨rfl, rfl⟩
  refine Lp rfl (p_pick_t rfl rfl (decide_eq_true (bad_at (l := l) (v := v) hb).2) rfl) ?_
  refine La rfl rfl rfl ?_
  refine L_then (kp [6] rfl) ?_
  refine V_ret (then_r ?_)
  refine Leave.nil (.tmp rfl .nil) ?_
  rfl
 intro c1; try simp only [td] at c1
 exfalso; omega
theorem flightBandsI (l : List Fl.Band) (v : Veh) (z : Span) (s : Int) (bv x : Value) (hs : 0 ≤ s ∧ s ≤ 255) (w : World) (hl : BdsR w bv l) (hv : VehR w x v) (hb : beyond z (-2000000000) 2000000000 = false) (ho : overE l (atI z s) ≠ 0) : FnP Try.prog 9 [bv, x, .agg #[.int .i64 z.lo, .int .i64 z.hi, .int .u8 s]] w (.bool true) := by
 have hV := hv
 obtain ⟨av, pv, qv, rfl, hsa, hsp, hsq⟩ := hv.ex
 have hz := beyond_false.1 hb
 obtain ⟨hm1, hm2, hm3⟩ := at_nums (z := z) hb hs
 have hw := winds_at (l := l) (h := atI z s) hb hm3
 have ha := air_at (v := v) (h := atI z s) hb hm3
 refine fn_pure Try.func9 rfl (by kernel_rfl) Try.ntmps9 Try.results9 rfl ?_
 refine Vs rfl ?_
 refine Lw rfl (w_box rfl rfl) ?_
 rintro _ _ ⟨b1, hb1, rfl, rfl⟩
 refine Lw rfl (w_box rfl rfl) ?_
 rintro _ _ ⟨b2, hb2, rfl, rfl⟩
 refine La rfl rfl rfl ?_
 refine L_then (kp [0, 4, 5] rfl) ?_
 refine Vs rfl ?_
 refine Lp rfl (p_fieldo fo80_0 rfl rfl) ?_
 refine Lr rfl (rlA (vs := [_, _]) ag23 sz23 rfl rfl rfl) ?_
 refine Lw rfl (w_alloc zr23 rfl) ?_
 rintro _ _ ⟨b3, hb3, rfl, rfl⟩
 refine Ls (cs' := [_, _]) rfl sz23 rfl rfl rfl rfl rfl rfl rfl ?_
 refine L_then (kp [0, 4, 5, 7] rfl) ?_
 refine Vs rfl ?_
 refine Lm rfl rfl rfl ?_
 refine Lr rfl (rlA (vs := [_, _]) ag23 sz23 rfl rfl rfl) ?_
 refine Lc rfl rfl rfl rfl (fun w hg => fWinds_c z l _ w (hl.good hg)) ?_
 refine Lm rfl rfl rfl ?_
 iterate 2 refine Lp rfl (p_ext rfl rfl rfl) ?_
 refine Lw rfl (w_alloc zr60 rfl) ?_
 rintro _ _ ⟨b4, hb4, rfl, rfl⟩
 refine Ls (cs' := [_, _, _, _]) rfl sz60 rfl rfl rfl rfl rfl rfl rfl ?_
 refine La rfl rfl rfl ?_
 refine L_then (kp [0, 4, 5, 7, 8, 9] rfl) ?_
 refine Vs rfl ?_
 refine Lr rfl (rlA (vs := [_, _, _, _, _, _]) ag28 sz28 rfl rfl rfl) ?_
 refine Lr rfl (rlA (vs := [_, _]) ag23 sz23 rfl rfl rfl) ?_
 refine Lc rfl rfl rfl rfl (fun w hg => fAir_c z v _ w (hV.good hg)) ?_
 refine Lm rfl rfl rfl ?_
 iterate 2 refine Lp rfl (p_ext rfl rfl rfl) ?_
 refine Lw rfl (w_alloc zr23 rfl) ?_
 rintro _ _ ⟨b5, hb5, rfl, rfl⟩
 refine Ls (cs' := [_, _]) rfl sz23 rfl rfl rfl rfl rfl rfl rfl ?_
 refine La rfl rfl rfl ?_
 refine L_then (kp [0, 4, 5, 7, 8, 9, 10, 11] rfl) ?_
 refine V_seq ?_
 refine Vs rfl ?_
 refine Lp rfl (p_fieldo fo23_0 rfl rfl) ?_
 refine Lr rfl (rl ag3 rfl rfl rfl) ?_
 refine Lp rfl (p_fieldo fo23_1 rfl rfl) ?_
 refine Lr rfl (rl ag3 rfl rfl rfl) ?_
 refine Lp rfl (p_gtr rfl rfl rfl) ?_
 refine Lm rfl rfl rfl ?_
 refine L_cases (d := 39) rfl ?_ ?_
 ·intro g1; have g1' := g1; try simp only [td] at g1'
  exfalso; omega
 intro g1; have g1' := g1; try simp only [td] at g1'
 refine L_yes rfl rfl rfl g1 (X_p (p_fieldo fo23_0 rfl rfl) ?_)
 refine L_yes rfl rfl rfl g1 (X_rd (rl ag3 rfl rfl rfl) ?_)
 refine L_yes rfl rfl rfl g1 (X_p (p_lss rfl rfl rfl) ?_)
 refine Lp rfl (p_pick_f rfl rfl g1 rfl) ?_
 refine Lm rfl rfl rfl ?_
 refine L_cases (d := 44) rfl ?_ ?_
 ·intro g2; have g2' := g2; try simp only [td] at g2'
  exfalso; omega
 intro g2; have g2' := g2; try simp only [td] at g2'
 refine L_yes rfl rfl rfl g2 (X_p (p_fieldo fo23_1 rfl rfl) ?_)
 refine L_yes rfl rfl rfl g2 (X_rd (rl ag3 rfl rfl rfl) ?_)
 refine L_yes rfl rfl rfl g2 (X_p (p_gtr rfl rfl rfl) ?_)
 refine Lp rfl (p_pick_f rfl rfl g2 rfl) ?_
 refine L_then (kp [0, 4, 5, 7, 8, 9, 10, 11, 48] rfl) ?_
 refine V_cond rfl ?_ ?_
 ·intro c1; try simp only [td] at c1
  exfalso; omega
 intro c1; try simp only [td] at c1
 refine V_skip (then_n ?_)
 refine Vs rfl ?_
 refine Lp rfl (p_fieldo fo23_0 rfl rfl) ?_
 refine Lr rfl (rl ag3 rfl rfl rfl) ?_
 refine Lp rfl (p_fieldo fo23_1 rfl rfl) ?_
 refine Lr rfl (rl ag3 rfl rfl rfl) ?_
 refine Lp rfl (p_fieldo fo23_0 rfl rfl) ?_
 refine Lr rfl (rl ag3 rfl rfl rfl) ?_
 first | refine Lp rfl (p_sub' rfl rfl rfl (by unfold InI; omega)) ?_ | refine Lp rfl (p_sub rfl rfl rfl) ?_
 refine Lp rfl (p_fieldo fo80_1 rfl rfl) ?_
 refine Lr rfl (rl ag5 rfl rfl rfl) ?_
 refine Lp rfl (p_convI un5 un3 rfl rfl (by unfold InI; omega)) ?_
 first | refine Lp rfl (p_mul' rfl rfl rfl (by unfold InI; omega)) ?_ | refine Lp rfl (p_mul rfl rfl rfl) ?_
 first | refine Lp rfl (p_quo' rfl rfl rfl (by first | decide | omega) (by unfold InI; omega)) ?_ | refine Lp rfl (p_quo rfl rfl rfl (by first | decide | omega)) ?_
 first | refine Lp rfl (p_add' rfl rfl rfl (by unfold InI; omega)) ?_ | refine Lp rfl (p_add rfl rfl rfl) ?_
 rw [show z.lo + ((z.hi - z.lo) * s).tdiv 255 = atI z s from rfl]
 refine La rfl rfl rfl ?_
 refine L_then (kp [0, 4, 8, 9, 10, 11, 12] rfl) ?_
 refine Vs rfl ?_
 iterate 3 refine Lm rfl rfl rfl ?_
 refine Lc rfl rfl rfl rfl (fun w hg => lspan_c _ _ w) ?_
 refine Lc rfl rfl rfl rfl (fun w hg => fWinds_c (⟨atI z s, atI z s⟩ : Span) l _ w (hl.good hg)) ?_
 refine Lm rfl rfl rfl ?_
 iterate 2 refine Lp rfl (p_ext rfl rfl rfl) ?_
 refine Lw rfl (w_alloc zr60 rfl) ?_
 rintro _ _ ⟨b6, hb6, rfl, rfl⟩
 refine Ls (cs' := [_, _, _, _]) rfl sz60 rfl rfl rfl rfl rfl rfl rfl ?_
 refine La rfl rfl rfl ?_
 refine L_then (kp [0, 4, 8, 9, 10, 11, 12, 13, 14] rfl) ?_
 refine V_seq (V_draw (.rd 0 (.rd 1 (.rd 2 (.wr2 3 [0] (.wr2 4 [2, 1] (.rd 5 (.rd 6 (.rd 7 (.wr 8 [7, 6, 5, 2, 1, 0] (.wr 9 [7] (.rd 10 .done)))))) 8 [2, 1, 0] (.wr 4 [2, 1] (.rd 5 (.rd 6 (.rd 7 (.wr 9 [7] (.rd 10 .done))))))) 8 [2, 1, 0] (.wr 3 [0] (.wr 4 [2, 1] (.rd 5 (.rd 6 (.rd 7 (.wr 9 [7] (.rd 10 .done))))))))))) mixed (by kernel_rfl) rfl ?_)
 refine Dr rfl rfl (rlA (vs := [_, _, _, _, _, _]) ag28 sz28 rfl rfl rfl) ?_
 iterate 2 refine Dm rfl rfl rfl rfl ?_
 refine D_wr2 rfl ?_ ?_
 ·refine (.go (E' := [(0, _)]) rfl (.plain rfl) (w_callP rfl rfl rfl (fun w hg => lspan_c _ _ w)) rfl ?_)
  rintro _ _ ⟨rfl, rfl⟩
  refine ⟨(.cons rfl (.plain rfl) (rlA (vs := [_, _, _, _, _, _]) ag28 sz28 rfl rfl rfl) .nil), ?_⟩
  refine D_wr2 rfl ?_ ?_
  ·refine (.go (E' := []) rfl (.plain rfl) (w_callP rfl rfl rfl (fun w hg => fAir_c (⟨atI z s, atI z s⟩ : Span) v _ w (hV.good hg))) rfl ?_)
   rintro _ _ ⟨rfl, rfl⟩
   refine ⟨.nil, ?_⟩
   refine Dm rfl rfl rfl rfl ?_
   iterate 2 refine Dp rfl rfl (p_ext rfl rfl rfl) ?_
   refine D_wr (.go (E' := []) rfl (.plain rfl) (w_alloc zr23 rfl) rfl ?_)
   rintro _ _ ⟨b7, hb7, rfl, rfl⟩
   refine ⟨.nil, ?_⟩
   refine D_wr (.go (E' := []) rfl (.plain rfl) (ws (cs' := [_, _]) sz23 rfl rfl rfl rfl rfl rfl rfl) rfl ?_)
   rintro _ _ ⟨rfl, rfl⟩
   refine ⟨.nil, ?_⟩
   refine Dp rfl rfl (p_assign rfl rfl) ?_
   refine D_then (kp [0, 8, 9, 10, 11, 12, 13, 14, 15, 16] rfl) ?_
   refine V_seq ?_
   refine Vs rfl ?_
   iterate 2 refine Lm rfl rfl rfl ?_
   refine Lp rfl (p_neq rfl rfl rfl) ?_
   refine Lm rfl rfl rfl ?_
   refine L_yes rfl rfl rfl (decide_eq_false (fun k => k hw.1.symm)) (X_p (p_move rfl rfl) ?_)
   refine L_yes rfl rfl rfl (decide_eq_false (fun k => k hw.1.symm)) (X_p (p_move rfl rfl) ?_)
   refine L_yes rfl rfl rfl (decide_eq_false (fun k => k hw.1.symm)) (X_p (p_neq rfl rfl rfl) ?_)
   refine Lp rfl (p_pick_f rfl rfl (decide_eq_false (fun k => k hw.1.symm)) rfl) ?_
   refine Lm rfl rfl rfl ?_
   refine L_yes rfl rfl rfl (decide_eq_false (fun k => k ha.1.symm)) (X_p (p_fieldo fo60_0 rfl rfl) ?_)
   refine L_yes rfl rfl rfl (decide_eq_false (fun k => k ha.1.symm)) (X_rd (rlA (vs := [_, _]) ag23 sz23 rfl rfl rfl) ?_)
   refine L_yes rfl rfl rfl (decide_eq_false (fun k => k ha.1.symm)) (X_p (p_fieldo fo60_0 rfl rfl) ?_)
   refine L_yes rfl rfl rfl (decide_eq_false (fun k => k ha.1.symm)) (X_rd (rlA (vs := [_, _]) ag23 sz23 rfl rfl rfl) ?_)
   refine L_yes rfl rfl rfl (decide_eq_false (fun k => k ha.1.symm)) (X_wr (w_callP rfl rfl rfl (fun w hg => lholds_c (windsP l z).x (windsP l (⟨atI z s, atI z s⟩ : Span)).x hw.2.1 w)) ?_)
   rintro _ _ ⟨rfl, rfl⟩
   refine L_yes rfl rfl rfl (decide_eq_false (fun k => k ha.1.symm)) (X_p (p_not rfl rfl) ?_)
   refine Lp rfl (p_pick_f rfl rfl (decide_eq_false (fun k => k ha.1.symm)) rfl) ?_
   refine Lm rfl rfl rfl ?_
   refine L_yes rfl rfl rfl rfl (X_p (p_fieldo fo60_1 rfl rfl) ?_)
   refine L_yes rfl rfl rfl rfl (X_rd (rlA (vs := [_, _]) ag23 sz23 rfl rfl rfl) ?_)
   refine L_yes rfl rfl rfl rfl (X_p (p_fieldo fo60_1 rfl rfl) ?_)
   refine L_yes rfl rfl rfl rfl (X_rd (rlA (vs := [_, _]) ag23 sz23 rfl rfl rfl) ?_)
   refine L_yes rfl rfl rfl rfl (X_wr (w_callP rfl rfl rfl (fun w hg => lholds_c (windsP l z).y (windsP l (⟨atI z s, atI z s⟩ : Span)).y hw.2.2 w)) ?_)
   rintro _ _ ⟨rfl, rfl⟩
   refine L_yes rfl rfl rfl rfl (X_p (p_not rfl rfl) ?_)
   refine Lp rfl (p_pick_f rfl rfl rfl rfl) ?_
   refine Lm rfl rfl rfl ?_
   refine L_yes rfl rfl rfl rfl (X_rd (rlA (vs := [_, _]) ag23 sz23 rfl rfl rfl) ?_)
   refine L_yes rfl rfl rfl rfl (X_rd (rlA (vs := [_, _]) ag23 sz23 rfl rfl rfl) ?_)
   refine L_yes rfl rfl rfl rfl (X_wr (w_callP rfl rfl rfl (fun w hg => lholds_c (airP v z) (airP v (⟨atI z s, atI z s⟩ : Span)) ha.2 w)) ?_)
   rintro _ _ ⟨rfl, rfl⟩
   refine L_yes rfl rfl rfl rfl (X_p (p_not rfl rfl) ?_)
   refine Lp rfl (p_pick_f rfl rfl rfl rfl) ?_
   refine L_then (kp [0, 9, 12, 13, 116] rfl) ?_
   refine V_cond_f rfl rfl ?_
   refine V_skip (then_n ?_)
   refine Vs rfl ?_
   iterate 2 refine Lm rfl rfl rfl ?_
   refine Lc rfl rfl rfl rfl (fun w hg => wOver_c l (atI z s) _ w (hl.good hg)) ?_
   refine Lm rfl rfl rfl ?_
   iterate 3 refine Lp rfl (p_ext rfl rfl rfl) ?_
   refine Lw rfl (w_alloc zr23 rfl) ?_
   rintro _ _ ⟨b8, hb8, rfl, rfl⟩
   refine Lw rfl (w_alloc zr23 rfl) ?_
   rintro _ _ ⟨b9, hb9, rfl, rfl⟩
   iterate 2 refine Ls (cs' := [_, _]) rfl sz23 rfl rfl rfl rfl rfl rfl rfl ?_
   refine La rfl rfl rfl ?_
   refine L_then (kp [9, 13, 17, 18, 19] rfl) ?_
   refine Vs rfl ?_
   refine Lm rfl rfl rfl ?_
   refine Lp rfl (p_neq rfl rfl rfl) ?_
   refine Lm rfl rfl rfl ?_
   iterate 3 refine L_no rfl rfl rfl (decide_eq_true ho) ?_
   iterate 5 refine L_nou rfl rfl rfl ?_
   refine L_no rfl rfl rfl (decide_eq_true ho) ?_
   refine Lp rfl (p_pick_t rfl rfl (decide_eq_true ho) rfl) ?_
   refine Lm rfl rfl rfl ?_
   refine L_yes rfl rfl rfl rfl (X_wr (w_callP rfl rfl rfl (fun w hg => lAwake_c w)) ?_)
   rintro _ _ ⟨rfl, rfl⟩
   refine Lp rfl (p_pick_t rfl rfl rfl rfl) ?_
   refine La rfl rfl rfl ?_
   refine L_then (kp [6] rfl) ?_
   refine V_ret ?_
   refine Leave.nil (.tmp rfl .nil) ?_
   rfl
  refine (.go (E' := [(0, _)]) rfl (.plain rfl) (w_alloc zr23 rfl) rfl ?_)
  rintro _ _ ⟨b7, hb7, rfl, rfl⟩
  refine ⟨(.cons rfl (.plain rfl) (rlA (vs := [_, _, _, _, _, _]) ag28 sz28 rfl rfl rfl) .nil), ?_⟩
  refine D_wr (.go (E' := []) rfl (.plain rfl) (w_callP rfl rfl rfl (fun w hg => fAir_c (⟨atI z s, atI z s⟩ : Span) v _ w (hV.good hg))) rfl ?_)
  rintro _ _ ⟨rfl, rfl⟩
  refine ⟨.nil, ?_⟩
  refine Dm rfl rfl rfl rfl ?_
  iterate 2 refine Dp rfl rfl (p_ext rfl rfl rfl) ?_
  refine D_wr (.go (E' := []) rfl (.plain rfl) (ws (cs' := [_, _]) sz23 rfl rfl rfl rfl rfl rfl rfl) rfl ?_)
  rintro _ _ ⟨rfl, rfl⟩
  refine ⟨.nil, ?_⟩
  refine Dp rfl rfl (p_assign rfl rfl) ?_
  refine D_then (kp [0, 8, 9, 10, 11, 12, 13, 14, 15, 16] rfl) ?_
  refine V_seq ?_
  refine Vs rfl ?_
  iterate 2 refine Lm rfl rfl rfl ?_
  refine Lp rfl (p_neq rfl rfl rfl) ?_
  refine Lm rfl rfl rfl ?_
  refine L_yes rfl rfl rfl (decide_eq_false (fun k => k hw.1.symm)) (X_p (p_move rfl rfl) ?_)
  refine L_yes rfl rfl rfl (decide_eq_false (fun k => k hw.1.symm)) (X_p (p_move rfl rfl) ?_)
  refine L_yes rfl rfl rfl (decide_eq_false (fun k => k hw.1.symm)) (X_p (p_neq rfl rfl rfl) ?_)
  refine Lp rfl (p_pick_f rfl rfl (decide_eq_false (fun k => k hw.1.symm)) rfl) ?_
  refine Lm rfl rfl rfl ?_
  refine L_yes rfl rfl rfl (decide_eq_false (fun k => k ha.1.symm)) (X_p (p_fieldo fo60_0 rfl rfl) ?_)
  refine L_yes rfl rfl rfl (decide_eq_false (fun k => k ha.1.symm)) (X_rd (rlA (vs := [_, _]) ag23 sz23 rfl rfl rfl) ?_)
  refine L_yes rfl rfl rfl (decide_eq_false (fun k => k ha.1.symm)) (X_p (p_fieldo fo60_0 rfl rfl) ?_)
  refine L_yes rfl rfl rfl (decide_eq_false (fun k => k ha.1.symm)) (X_rd (rlA (vs := [_, _]) ag23 sz23 rfl rfl rfl) ?_)
  refine L_yes rfl rfl rfl (decide_eq_false (fun k => k ha.1.symm)) (X_wr (w_callP rfl rfl rfl (fun w hg => lholds_c (windsP l z).x (windsP l (⟨atI z s, atI z s⟩ : Span)).x hw.2.1 w)) ?_)
  rintro _ _ ⟨rfl, rfl⟩
  refine L_yes rfl rfl rfl (decide_eq_false (fun k => k ha.1.symm)) (X_p (p_not rfl rfl) ?_)
  refine Lp rfl (p_pick_f rfl rfl (decide_eq_false (fun k => k ha.1.symm)) rfl) ?_
  refine Lm rfl rfl rfl ?_
  refine L_yes rfl rfl rfl rfl (X_p (p_fieldo fo60_1 rfl rfl) ?_)
  refine L_yes rfl rfl rfl rfl (X_rd (rlA (vs := [_, _]) ag23 sz23 rfl rfl rfl) ?_)
  refine L_yes rfl rfl rfl rfl (X_p (p_fieldo fo60_1 rfl rfl) ?_)
  refine L_yes rfl rfl rfl rfl (X_rd (rlA (vs := [_, _]) ag23 sz23 rfl rfl rfl) ?_)
  refine L_yes rfl rfl rfl rfl (X_wr (w_callP rfl rfl rfl (fun w hg => lholds_c (windsP l z).y (windsP l (⟨atI z s, atI z s⟩ : Span)).y hw.2.2 w)) ?_)
  rintro _ _ ⟨rfl, rfl⟩
  refine L_yes rfl rfl rfl rfl (X_p (p_not rfl rfl) ?_)
  refine Lp rfl (p_pick_f rfl rfl rfl rfl) ?_
  refine Lm rfl rfl rfl ?_
  refine L_yes rfl rfl rfl rfl (X_rd (rlA (vs := [_, _]) ag23 sz23 rfl rfl rfl) ?_)
  refine L_yes rfl rfl rfl rfl (X_rd (rlA (vs := [_, _]) ag23 sz23 rfl rfl rfl) ?_)
  refine L_yes rfl rfl rfl rfl (X_wr (w_callP rfl rfl rfl (fun w hg => lholds_c (airP v z) (airP v (⟨atI z s, atI z s⟩ : Span)) ha.2 w)) ?_)
  rintro _ _ ⟨rfl, rfl⟩
  refine L_yes rfl rfl rfl rfl (X_p (p_not rfl rfl) ?_)
  refine Lp rfl (p_pick_f rfl rfl rfl rfl) ?_
  refine L_then (kp [0, 9, 12, 13, 116] rfl) ?_
  refine V_cond_f rfl rfl ?_
  refine V_skip (then_n ?_)
  refine Vs rfl ?_
  iterate 2 refine Lm rfl rfl rfl ?_
  refine Lc rfl rfl rfl rfl (fun w hg => wOver_c l (atI z s) _ w (hl.good hg)) ?_
  refine Lm rfl rfl rfl ?_
  iterate 3 refine Lp rfl (p_ext rfl rfl rfl) ?_
  refine Lw rfl (w_alloc zr23 rfl) ?_
  rintro _ _ ⟨b8, hb8, rfl, rfl⟩
  refine Lw rfl (w_alloc zr23 rfl) ?_
  rintro _ _ ⟨b9, hb9, rfl, rfl⟩
  iterate 2 refine Ls (cs' := [_, _]) rfl sz23 rfl rfl rfl rfl rfl rfl rfl ?_
  refine La rfl rfl rfl ?_
  refine L_then (kp [9, 13, 17, 18, 19] rfl) ?_
  refine Vs rfl ?_
  refine Lm rfl rfl rfl ?_
  refine Lp rfl (p_neq rfl rfl rfl) ?_
  refine Lm rfl rfl rfl ?_
  iterate 3 refine L_no rfl rfl rfl (decide_eq_true ho) ?_
  iterate 5 refine L_nou rfl rfl rfl ?_
  refine L_no rfl rfl rfl (decide_eq_true ho) ?_
  refine Lp rfl (p_pick_t rfl rfl (decide_eq_true ho) rfl) ?_
  refine Lm rfl rfl rfl ?_
  refine L_yes rfl rfl rfl rfl (X_wr (w_callP rfl rfl rfl (fun w hg => lAwake_c w)) ?_)
  rintro _ _ ⟨rfl, rfl⟩
  refine Lp rfl (p_pick_t rfl rfl rfl rfl) ?_
  refine La rfl rfl rfl ?_
  refine L_then (kp [6] rfl) ?_
  refine V_ret ?_
  refine Leave.nil (.tmp rfl .nil) ?_
  rfl
 refine (.go (E' := [(0, _)]) rfl (.plain rfl) (w_alloc zr23 rfl) rfl ?_)
 rintro _ _ ⟨b7, hb7, rfl, rfl⟩
 refine ⟨(.cons rfl (.plain rfl) (rlA (vs := [_, _, _, _, _, _]) ag28 sz28 rfl rfl rfl) .nil), ?_⟩
 refine D_wr (.go (E' := [(0, _)]) rfl (.plain rfl) (w_callP rfl rfl rfl (fun w hg => lspan_c _ _ w)) rfl ?_)
 rintro _ _ ⟨rfl, rfl⟩
 refine ⟨(.cons rfl (.plain rfl) (rlA (vs := [_, _, _, _, _, _]) ag28 sz28 rfl rfl rfl) .nil), ?_⟩
 refine D_wr (.go (E' := []) rfl (.plain rfl) (w_callP rfl rfl rfl (fun w hg => fAir_c (⟨atI z s, atI z s⟩ : Span) v _ w (hV.good hg))) rfl ?_)
 rintro _ _ ⟨rfl, rfl⟩
 refine ⟨.nil, ?_⟩
 refine Dm rfl rfl rfl rfl ?_
 iterate 2 refine Dp rfl rfl (p_ext rfl rfl rfl) ?_
 refine D_wr (.go (E' := []) rfl (.plain rfl) (ws (cs' := [_, _]) sz23 rfl rfl rfl rfl rfl rfl rfl) rfl ?_)
 rintro _ _ ⟨rfl, rfl⟩
 refine ⟨.nil, ?_⟩
 refine Dp rfl rfl (p_assign rfl rfl) ?_
 refine D_then (kp [0, 8, 9, 10, 11, 12, 13, 14, 15, 16] rfl) ?_
 refine V_seq ?_
 refine Vs rfl ?_
 iterate 2 refine Lm rfl rfl rfl ?_
 refine Lp rfl (p_neq rfl rfl rfl) ?_
 refine Lm rfl rfl rfl ?_
 refine L_yes rfl rfl rfl (decide_eq_false (fun k => k hw.1.symm)) (X_p (p_move rfl rfl) ?_)
 refine L_yes rfl rfl rfl (decide_eq_false (fun k => k hw.1.symm)) (X_p (p_move rfl rfl) ?_)
 refine L_yes rfl rfl rfl (decide_eq_false (fun k => k hw.1.symm)) (X_p (p_neq rfl rfl rfl) ?_)
 refine Lp rfl (p_pick_f rfl rfl (decide_eq_false (fun k => k hw.1.symm)) rfl) ?_
 refine Lm rfl rfl rfl ?_
 refine L_yes rfl rfl rfl (decide_eq_false (fun k => k ha.1.symm)) (X_p (p_fieldo fo60_0 rfl rfl) ?_)
 refine L_yes rfl rfl rfl (decide_eq_false (fun k => k ha.1.symm)) (X_rd (rlA (vs := [_, _]) ag23 sz23 rfl rfl rfl) ?_)
 refine L_yes rfl rfl rfl (decide_eq_false (fun k => k ha.1.symm)) (X_p (p_fieldo fo60_0 rfl rfl) ?_)
 refine L_yes rfl rfl rfl (decide_eq_false (fun k => k ha.1.symm)) (X_rd (rlA (vs := [_, _]) ag23 sz23 rfl rfl rfl) ?_)
 refine L_yes rfl rfl rfl (decide_eq_false (fun k => k ha.1.symm)) (X_wr (w_callP rfl rfl rfl (fun w hg => lholds_c (windsP l z).x (windsP l (⟨atI z s, atI z s⟩ : Span)).x hw.2.1 w)) ?_)
 rintro _ _ ⟨rfl, rfl⟩
 refine L_yes rfl rfl rfl (decide_eq_false (fun k => k ha.1.symm)) (X_p (p_not rfl rfl) ?_)
 refine Lp rfl (p_pick_f rfl rfl (decide_eq_false (fun k => k ha.1.symm)) rfl) ?_
 refine Lm rfl rfl rfl ?_
 refine L_yes rfl rfl rfl rfl (X_p (p_fieldo fo60_1 rfl rfl) ?_)
 refine L_yes rfl rfl rfl rfl (X_rd (rlA (vs := [_, _]) ag23 sz23 rfl rfl rfl) ?_)
 refine L_yes rfl rfl rfl rfl (X_p (p_fieldo fo60_1 rfl rfl) ?_)
 refine L_yes rfl rfl rfl rfl (X_rd (rlA (vs := [_, _]) ag23 sz23 rfl rfl rfl) ?_)
 refine L_yes rfl rfl rfl rfl (X_wr (w_callP rfl rfl rfl (fun w hg => lholds_c (windsP l z).y (windsP l (⟨atI z s, atI z s⟩ : Span)).y hw.2.2 w)) ?_)
 rintro _ _ ⟨rfl, rfl⟩
 refine L_yes rfl rfl rfl rfl (X_p (p_not rfl rfl) ?_)
 refine Lp rfl (p_pick_f rfl rfl rfl rfl) ?_
 refine Lm rfl rfl rfl ?_
 refine L_yes rfl rfl rfl rfl (X_rd (rlA (vs := [_, _]) ag23 sz23 rfl rfl rfl) ?_)
 refine L_yes rfl rfl rfl rfl (X_rd (rlA (vs := [_, _]) ag23 sz23 rfl rfl rfl) ?_)
 refine L_yes rfl rfl rfl rfl (X_wr (w_callP rfl rfl rfl (fun w hg => lholds_c (airP v z) (airP v (⟨atI z s, atI z s⟩ : Span)) ha.2 w)) ?_)
 rintro _ _ ⟨rfl, rfl⟩
 refine L_yes rfl rfl rfl rfl (X_p (p_not rfl rfl) ?_)
 refine Lp rfl (p_pick_f rfl rfl rfl rfl) ?_
 refine L_then (kp [0, 9, 12, 13, 116] rfl) ?_
 refine V_cond_f rfl rfl ?_
 refine V_skip (then_n ?_)
 refine Vs rfl ?_
 iterate 2 refine Lm rfl rfl rfl ?_
 refine Lc rfl rfl rfl rfl (fun w hg => wOver_c l (atI z s) _ w (hl.good hg)) ?_
 refine Lm rfl rfl rfl ?_
 iterate 3 refine Lp rfl (p_ext rfl rfl rfl) ?_
 refine Lw rfl (w_alloc zr23 rfl) ?_
 rintro _ _ ⟨b8, hb8, rfl, rfl⟩
 refine Lw rfl (w_alloc zr23 rfl) ?_
 rintro _ _ ⟨b9, hb9, rfl, rfl⟩
 iterate 2 refine Ls (cs' := [_, _]) rfl sz23 rfl rfl rfl rfl rfl rfl rfl ?_
 refine La rfl rfl rfl ?_
 refine L_then (kp [9, 13, 17, 18, 19] rfl) ?_
 refine Vs rfl ?_
 refine Lm rfl rfl rfl ?_
 refine Lp rfl (p_neq rfl rfl rfl) ?_
 refine Lm rfl rfl rfl ?_
 iterate 3 refine L_no rfl rfl rfl (decide_eq_true ho) ?_
 iterate 5 refine L_nou rfl rfl rfl ?_
 refine L_no rfl rfl rfl (decide_eq_true ho) ?_
 refine Lp rfl (p_pick_t rfl rfl (decide_eq_true ho) rfl) ?_
 refine Lm rfl rfl rfl ?_
 refine L_yes rfl rfl rfl rfl (X_wr (w_callP rfl rfl rfl (fun w hg => lAwake_c w)) ?_)
 rintro _ _ ⟨rfl, rfl⟩
 refine Lp rfl (p_pick_t rfl rfl rfl rfl) ?_
 refine La rfl rfl rfl ?_
 refine L_then (kp [6] rfl) ?_
 refine V_ret ?_
 refine Leave.nil (.tmp rfl .nil) ?_
 rfl
theorem flightBandsO (l : List Fl.Band) (v : Veh) (z : Span) (s : Int) (bv x : Value) (hs : 0 ≤ s ∧ s ≤ 255) (w : World) (hl : BdsR w bv l) (hv : VehR w x v) (hb : beyond z (-2000000000) 2000000000 = false) (ho : overE l (atI z s) = 0) : FnP Try.prog 9 [bv, x, .agg #[.int .i64 z.lo, .int .i64 z.hi, .int .u8 s]] w (.bool true) := by
 have hV := hv
 obtain ⟨av, pv, qv, rfl, hsa, hsp, hsq⟩ := hv.ex
 have hz := beyond_false.1 hb
 obtain ⟨hm1, hm2, hm3⟩ := at_nums (z := z) hb hs
 have hw := winds_at (l := l) (h := atI z s) hb hm3
 have ha := air_at (v := v) (h := atI z s) hb hm3
 have hov := over_ok ho
 refine fn_pure Try.func9 rfl (by kernel_rfl) Try.ntmps9 Try.results9 rfl ?_
 refine Vs rfl ?_
 refine Lw rfl (w_box rfl rfl) ?_
 rintro _ _ ⟨b1, hb1, rfl, rfl⟩
 refine Lw rfl (w_box rfl rfl) ?_
 rintro _ _ ⟨b2, hb2, rfl, rfl⟩
 refine La rfl rfl rfl ?_
 refine L_then (kp [0, 4, 5] rfl) ?_
 refine Vs rfl ?_
 refine Lp rfl (p_fieldo fo80_0 rfl rfl) ?_
 refine Lr rfl (rlA (vs := [_, _]) ag23 sz23 rfl rfl rfl) ?_
 refine Lw rfl (w_alloc zr23 rfl) ?_
 rintro _ _ ⟨b3, hb3, rfl, rfl⟩
 refine Ls (cs' := [_, _]) rfl sz23 rfl rfl rfl rfl rfl rfl rfl ?_
 refine L_then (kp [0, 4, 5, 7] rfl) ?_
 refine Vs rfl ?_
 refine Lm rfl rfl rfl ?_
 refine Lr rfl (rlA (vs := [_, _]) ag23 sz23 rfl rfl rfl) ?_
 refine Lc rfl rfl rfl rfl (fun w hg => fWinds_c z l _ w (hl.good hg)) ?_
 refine Lm rfl rfl rfl ?_
 iterate 2 refine Lp rfl (p_ext rfl rfl rfl) ?_
 refine Lw rfl (w_alloc zr60 rfl) ?_
 rintro _ _ ⟨b4, hb4, rfl, rfl⟩
 refine Ls (cs' := [_, _, _, _]) rfl sz60 rfl rfl rfl rfl rfl rfl rfl ?_
 refine La rfl rfl rfl ?_
 refine L_then (kp [0, 4, 5, 7, 8, 9] rfl) ?_
 refine Vs rfl ?_
 refine Lr rfl (rlA (vs := [_, _, _, _, _, _]) ag28 sz28 rfl rfl rfl) ?_
 refine Lr rfl (rlA (vs := [_, _]) ag23 sz23 rfl rfl rfl) ?_
 refine Lc rfl rfl rfl rfl (fun w hg => fAir_c z v _ w (hV.good hg)) ?_
 refine Lm rfl rfl rfl ?_
 iterate 2 refine Lp rfl (p_ext rfl rfl rfl) ?_
 refine Lw rfl (w_alloc zr23 rfl) ?_
 rintro _ _ ⟨b5, hb5, rfl, rfl⟩
 refine Ls (cs' := [_, _]) rfl sz23 rfl rfl rfl rfl rfl rfl rfl ?_
 refine La rfl rfl rfl ?_
 refine L_then (kp [0, 4, 5, 7, 8, 9, 10, 11] rfl) ?_
 refine V_seq ?_
 refine Vs rfl ?_
 refine Lp rfl (p_fieldo fo23_0 rfl rfl) ?_
 refine Lr rfl (rl ag3 rfl rfl rfl) ?_
 refine Lp rfl (p_fieldo fo23_1 rfl rfl) ?_
 refine Lr rfl (rl ag3 rfl rfl rfl) ?_
 refine Lp rfl (p_gtr rfl rfl rfl) ?_
 refine Lm rfl rfl rfl ?_
 refine L_cases (d := 39) rfl ?_ ?_
 ·intro g1; have g1' := g1; try simp only [td] at g1'
  exfalso; omega
 intro g1; have g1' := g1; try simp only [td] at g1'
 refine L_yes rfl rfl rfl g1 (X_p (p_fieldo fo23_0 rfl rfl) ?_)
 refine L_yes rfl rfl rfl g1 (X_rd (rl ag3 rfl rfl rfl) ?_)
 refine L_yes rfl rfl rfl g1 (X_p (p_lss rfl rfl rfl) ?_)
 refine Lp rfl (p_pick_f rfl rfl g1 rfl) ?_
 refine Lm rfl rfl rfl ?_
 refine L_cases (d := 44) rfl ?_ ?_
 ·intro g2; have g2' := g2; try simp only [td] at g2'
  exfalso; omega
 intro g2; have g2' := g2; try simp only [td] at g2'
 refine L_yes rfl rfl rfl g2 (X_p (p_fieldo fo23_1 rfl rfl) ?_)
 refine L_yes rfl rfl rfl g2 (X_rd (rl ag3 rfl rfl rfl) ?_)
 refine L_yes rfl rfl rfl g2 (X_p (p_gtr rfl rfl rfl) ?_)
 refine Lp rfl (p_pick_f rfl rfl g2 rfl) ?_
 refine L_then (kp [0, 4, 5, 7, 8, 9, 10, 11, 48] rfl) ?_
 refine V_cond rfl ?_ ?_
 ·intro c1; try simp only [td] at c1
  exfalso; omega
 intro c1; try simp only [td] at c1
 refine V_skip (then_n ?_)
 refine Vs rfl ?_
 refine Lp rfl (p_fieldo fo23_0 rfl rfl) ?_
 refine Lr rfl (rl ag3 rfl rfl rfl) ?_
 refine Lp rfl (p_fieldo fo23_1 rfl rfl) ?_
 refine Lr rfl (rl ag3 rfl rfl rfl) ?_
 refine Lp rfl (p_fieldo fo23_0 rfl rfl) ?_
 refine Lr rfl (rl ag3 rfl rfl rfl) ?_
 first | refine Lp rfl (p_sub' rfl rfl rfl (by unfold InI; omega)) ?_ | refine Lp rfl (p_sub rfl rfl rfl) ?_
 refine Lp rfl (p_fieldo fo80_1 rfl rfl) ?_
 refine Lr rfl (rl ag5 rfl rfl rfl) ?_
 refine Lp rfl (p_convI un5 un3 rfl rfl (by unfold InI; omega)) ?_
 first | refine Lp rfl (p_mul' rfl rfl rfl (by unfold InI; omega)) ?_ | refine Lp rfl (p_mul rfl rfl rfl) ?_
 first | refine Lp rfl (p_quo' rfl rfl rfl (by first | decide | omega) (by unfold InI; omega)) ?_ | refine Lp rfl (p_quo rfl rfl rfl (by first | decide | omega)) ?_
 first | refine Lp rfl (p_add' rfl rfl rfl (by unfold InI; omega)) ?_ | refine Lp rfl (p_add rfl rfl rfl) ?_
 rw [show z.lo + ((z.hi - z.lo) * s).tdiv 255 = atI z s from rfl]
 refine La rfl rfl rfl ?_
 refine L_then (kp [0, 4, 8, 9, 10, 11, 12] rfl) ?_
 refine Vs rfl ?_
 iterate 3 refine Lm rfl rfl rfl ?_
 refine Lc rfl rfl rfl rfl (fun w hg => lspan_c _ _ w) ?_
 refine Lc rfl rfl rfl rfl (fun w hg => fWinds_c (⟨atI z s, atI z s⟩ : Span) l _ w (hl.good hg)) ?_
 refine Lm rfl rfl rfl ?_
 iterate 2 refine Lp rfl (p_ext rfl rfl rfl) ?_
 refine Lw rfl (w_alloc zr60 rfl) ?_
 rintro _ _ ⟨b6, hb6, rfl, rfl⟩
 refine Ls (cs' := [_, _, _, _]) rfl sz60 rfl rfl rfl rfl rfl rfl rfl ?_
 refine La rfl rfl rfl ?_
 refine L_then (kp [0, 4, 8, 9, 10, 11, 12, 13, 14] rfl) ?_
 refine V_seq (V_draw (.rd 0 (.rd 1 (.rd 2 (.wr2 3 [0] (.wr2 4 [2, 1] (.rd 5 (.rd 6 (.rd 7 (.wr 8 [7, 6, 5, 2, 1, 0] (.wr 9 [7] (.rd 10 .done)))))) 8 [2, 1, 0] (.wr 4 [2, 1] (.rd 5 (.rd 6 (.rd 7 (.wr 9 [7] (.rd 10 .done))))))) 8 [2, 1, 0] (.wr 3 [0] (.wr 4 [2, 1] (.rd 5 (.rd 6 (.rd 7 (.wr 9 [7] (.rd 10 .done))))))))))) mixed (by kernel_rfl) rfl ?_)
 refine Dr rfl rfl (rlA (vs := [_, _, _, _, _, _]) ag28 sz28 rfl rfl rfl) ?_
 iterate 2 refine Dm rfl rfl rfl rfl ?_
 refine D_wr2 rfl ?_ ?_
 ·refine (.go (E' := [(0, _)]) rfl (.plain rfl) (w_callP rfl rfl rfl (fun w hg => lspan_c _ _ w)) rfl ?_)
  rintro _ _ ⟨rfl, rfl⟩
  refine ⟨(.cons rfl (.plain rfl) (rlA (vs := [_, _, _, _, _, _]) ag28 sz28 rfl rfl rfl) .nil), ?_⟩
  refine D_wr2 rfl ?_ ?_
  ·refine (.go (E' := []) rfl (.plain rfl) (w_callP rfl rfl rfl (fun w hg => fAir_c (⟨atI z s, atI z s⟩ : Span) v _ w (hV.good hg))) rfl ?_)
   rintro _ _ ⟨rfl, rfl⟩
   refine ⟨.nil, ?_⟩
   refine Dm rfl rfl rfl rfl ?_
   iterate 2 refine Dp rfl rfl (p_ext rfl rfl rfl) ?_
   refine D_wr (.go (E' := []) rfl (.plain rfl) (w_alloc zr23 rfl) rfl ?_)
   rintro _ _ ⟨b7, hb7, rfl, rfl⟩
   refine ⟨.nil, ?_⟩
   refine D_wr (.go (E' := []) rfl (.plain rfl) (ws (cs' := [_, _]) sz23 rfl rfl rfl rfl rfl rfl rfl) rfl ?_)
   rintro _ _ ⟨rfl, rfl⟩
   refine ⟨.nil, ?_⟩
   refine Dp rfl rfl (p_assign rfl rfl) ?_
   refine D_then (kp [0, 8, 9, 10, 11, 12, 13, 14, 15, 16] rfl) ?_
   refine V_seq ?_
   refine Vs rfl ?_
   iterate 2 refine Lm rfl rfl rfl ?_
   refine Lp rfl (p_neq rfl rfl rfl) ?_
   refine Lm rfl rfl rfl ?_
   refine L_yes rfl rfl rfl (decide_eq_false (fun k => k hw.1.symm)) (X_p (p_move rfl rfl) ?_)
   refine L_yes rfl rfl rfl (decide_eq_false (fun k => k hw.1.symm)) (X_p (p_move rfl rfl) ?_)
   refine L_yes rfl rfl rfl (decide_eq_false (fun k => k hw.1.symm)) (X_p (p_neq rfl rfl rfl) ?_)
   refine Lp rfl (p_pick_f rfl rfl (decide_eq_false (fun k => k hw.1.symm)) rfl) ?_
   refine Lm rfl rfl rfl ?_
   refine L_yes rfl rfl rfl (decide_eq_false (fun k => k ha.1.symm)) (X_p (p_fieldo fo60_0 rfl rfl) ?_)
   refine L_yes rfl rfl rfl (decide_eq_false (fun k => k ha.1.symm)) (X_rd (rlA (vs := [_, _]) ag23 sz23 rfl rfl rfl) ?_)
   refine L_yes rfl rfl rfl (decide_eq_false (fun k => k ha.1.symm)) (X_p (p_fieldo fo60_0 rfl rfl) ?_)
   refine L_yes rfl rfl rfl (decide_eq_false (fun k => k ha.1.symm)) (X_rd (rlA (vs := [_, _]) ag23 sz23 rfl rfl rfl) ?_)
   refine L_yes rfl rfl rfl (decide_eq_false (fun k => k ha.1.symm)) (X_wr (w_callP rfl rfl rfl (fun w hg => lholds_c (windsP l z).x (windsP l (⟨atI z s, atI z s⟩ : Span)).x hw.2.1 w)) ?_)
   rintro _ _ ⟨rfl, rfl⟩
   refine L_yes rfl rfl rfl (decide_eq_false (fun k => k ha.1.symm)) (X_p (p_not rfl rfl) ?_)
   refine Lp rfl (p_pick_f rfl rfl (decide_eq_false (fun k => k ha.1.symm)) rfl) ?_
   refine Lm rfl rfl rfl ?_
   refine L_yes rfl rfl rfl rfl (X_p (p_fieldo fo60_1 rfl rfl) ?_)
   refine L_yes rfl rfl rfl rfl (X_rd (rlA (vs := [_, _]) ag23 sz23 rfl rfl rfl) ?_)
   refine L_yes rfl rfl rfl rfl (X_p (p_fieldo fo60_1 rfl rfl) ?_)
   refine L_yes rfl rfl rfl rfl (X_rd (rlA (vs := [_, _]) ag23 sz23 rfl rfl rfl) ?_)
   refine L_yes rfl rfl rfl rfl (X_wr (w_callP rfl rfl rfl (fun w hg => lholds_c (windsP l z).y (windsP l (⟨atI z s, atI z s⟩ : Span)).y hw.2.2 w)) ?_)
   rintro _ _ ⟨rfl, rfl⟩
   refine L_yes rfl rfl rfl rfl (X_p (p_not rfl rfl) ?_)
   refine Lp rfl (p_pick_f rfl rfl rfl rfl) ?_
   refine Lm rfl rfl rfl ?_
   refine L_yes rfl rfl rfl rfl (X_rd (rlA (vs := [_, _]) ag23 sz23 rfl rfl rfl) ?_)
   refine L_yes rfl rfl rfl rfl (X_rd (rlA (vs := [_, _]) ag23 sz23 rfl rfl rfl) ?_)
   refine L_yes rfl rfl rfl rfl (X_wr (w_callP rfl rfl rfl (fun w hg => lholds_c (airP v z) (airP v (⟨atI z s, atI z s⟩ : Span)) ha.2 w)) ?_)
   rintro _ _ ⟨rfl, rfl⟩
   refine L_yes rfl rfl rfl rfl (X_p (p_not rfl rfl) ?_)
   refine Lp rfl (p_pick_f rfl rfl rfl rfl) ?_
   refine L_then (kp [0, 9, 12, 13, 116] rfl) ?_
   refine V_cond_f rfl rfl ?_
   refine V_skip (then_n ?_)
   refine Vs rfl ?_
   iterate 2 refine Lm rfl rfl rfl ?_
   refine Lc rfl rfl rfl rfl (fun w hg => wOver_c l (atI z s) _ w (hl.good hg)) ?_
   refine Lm rfl rfl rfl ?_
   iterate 3 refine Lp rfl (p_ext rfl rfl rfl) ?_
   refine Lw rfl (w_alloc zr23 rfl) ?_
   rintro _ _ ⟨b8, hb8, rfl, rfl⟩
   refine Lw rfl (w_alloc zr23 rfl) ?_
   rintro _ _ ⟨b9, hb9, rfl, rfl⟩
   iterate 2 refine Ls (cs' := [_, _]) rfl sz23 rfl rfl rfl rfl rfl rfl rfl ?_
   refine La rfl rfl rfl ?_
   refine L_then (kp [9, 13, 17, 18, 19] rfl) ?_
   refine Vs rfl ?_
   refine Lm rfl rfl rfl ?_
   refine Lp rfl (p_neq rfl rfl rfl) ?_
   refine Lm rfl rfl rfl ?_
   refine L_yes rfl rfl rfl (decide_eq_false (fun k => k ho)) (X_p (p_move rfl rfl) ?_)
   refine L_yes rfl rfl rfl (decide_eq_false (fun k => k ho)) (X_p (p_eql rfl rfl rfl) ?_)
   refine L_yes rfl rfl rfl (decide_eq_false (fun k => k ho)) (X_p (p_move rfl rfl) ?_)
   refine L_yes rfl rfl rfl (decide_eq_true (hw.1.symm.trans hov.1)) (X_rd (rlA (vs := [_, _, _, _]) ag60 sz60 rfl rfl rfl) ?_)
   refine L_yes rfl rfl rfl (decide_eq_true (hw.1.symm.trans hov.1)) (X_rd (rlA (vs := [_, _]) ag23 sz23 rfl rfl rfl) ?_)
   refine L_yes rfl rfl rfl (decide_eq_true (hw.1.symm.trans hov.1)) (X_rd (rlA (vs := [_, _]) ag23 sz23 rfl rfl rfl) ?_)
   refine L_yes rfl rfl rfl (decide_eq_true (hw.1.symm.trans hov.1)) (X_p (p_build (r := [_, _, _, _]) pl60 zr60 rfl rfl rfl) ?_)
   refine L_yes rfl rfl rfl (decide_eq_true (hw.1.symm.trans hov.1)) (X_p (p_eqS lv60 ag60 eg60 rfl rfl rfl rfl rfl) ?_)
   refine L_yes rfl rfl rfl (decide_eq_false (fun k => k ho)) (X_p (p_pick_t rfl rfl (decide_eq_true (hw.1.symm.trans hov.1)) rfl) ?_)
   refine Lp rfl (p_pick_f rfl rfl (decide_eq_false (fun k => k ho)) rfl) ?_
   refine Lm rfl rfl rfl ?_
   refine L_yes rfl rfl rfl (by rw [hov.2.1, hov.2.2]; simp [eqL, eqv]) (X_wr (w_callP rfl rfl rfl (fun w hg => lAwake_c w)) ?_)
   rintro _ _ ⟨rfl, rfl⟩
   refine Lp rfl (p_pick_t rfl rfl (by rw [hov.2.1, hov.2.2]; simp [eqL, eqv]) rfl) ?_
   refine La rfl rfl rfl ?_
   refine L_then (kp [6] rfl) ?_
   refine V_ret ?_
   refine Leave.nil (.tmp rfl .nil) ?_
   rfl
  refine (.go (E' := [(0, _)]) rfl (.plain rfl) (w_alloc zr23 rfl) rfl ?_)
  rintro _ _ ⟨b7, hb7, rfl, rfl⟩
  refine ⟨(.cons rfl (.plain rfl) (rlA (vs := [_, _, _, _, _, _]) ag28 sz28 rfl rfl rfl) .nil), ?_⟩
  refine D_wr (.go (E' := []) rfl (.plain rfl) (w_callP rfl rfl rfl (fun w hg => fAir_c (⟨atI z s, atI z s⟩ : Span) v _ w (hV.good hg))) rfl ?_)
  rintro _ _ ⟨rfl, rfl⟩
  refine ⟨.nil, ?_⟩
  refine Dm rfl rfl rfl rfl ?_
  iterate 2 refine Dp rfl rfl (p_ext rfl rfl rfl) ?_
  refine D_wr (.go (E' := []) rfl (.plain rfl) (ws (cs' := [_, _]) sz23 rfl rfl rfl rfl rfl rfl rfl) rfl ?_)
  rintro _ _ ⟨rfl, rfl⟩
  refine ⟨.nil, ?_⟩
  refine Dp rfl rfl (p_assign rfl rfl) ?_
  refine D_then (kp [0, 8, 9, 10, 11, 12, 13, 14, 15, 16] rfl) ?_
  refine V_seq ?_
  refine Vs rfl ?_
  iterate 2 refine Lm rfl rfl rfl ?_
  refine Lp rfl (p_neq rfl rfl rfl) ?_
  refine Lm rfl rfl rfl ?_
  refine L_yes rfl rfl rfl (decide_eq_false (fun k => k hw.1.symm)) (X_p (p_move rfl rfl) ?_)
  refine L_yes rfl rfl rfl (decide_eq_false (fun k => k hw.1.symm)) (X_p (p_move rfl rfl) ?_)
  refine L_yes rfl rfl rfl (decide_eq_false (fun k => k hw.1.symm)) (X_p (p_neq rfl rfl rfl) ?_)
  refine Lp rfl (p_pick_f rfl rfl (decide_eq_false (fun k => k hw.1.symm)) rfl) ?_
  refine Lm rfl rfl rfl ?_
  refine L_yes rfl rfl rfl (decide_eq_false (fun k => k ha.1.symm)) (X_p (p_fieldo fo60_0 rfl rfl) ?_)
  refine L_yes rfl rfl rfl (decide_eq_false (fun k => k ha.1.symm)) (X_rd (rlA (vs := [_, _]) ag23 sz23 rfl rfl rfl) ?_)
  refine L_yes rfl rfl rfl (decide_eq_false (fun k => k ha.1.symm)) (X_p (p_fieldo fo60_0 rfl rfl) ?_)
  refine L_yes rfl rfl rfl (decide_eq_false (fun k => k ha.1.symm)) (X_rd (rlA (vs := [_, _]) ag23 sz23 rfl rfl rfl) ?_)
  refine L_yes rfl rfl rfl (decide_eq_false (fun k => k ha.1.symm)) (X_wr (w_callP rfl rfl rfl (fun w hg => lholds_c (windsP l z).x (windsP l (⟨atI z s, atI z s⟩ : Span)).x hw.2.1 w)) ?_)
  rintro _ _ ⟨rfl, rfl⟩
  refine L_yes rfl rfl rfl (decide_eq_false (fun k => k ha.1.symm)) (X_p (p_not rfl rfl) ?_)
  refine Lp rfl (p_pick_f rfl rfl (decide_eq_false (fun k => k ha.1.symm)) rfl) ?_
  refine Lm rfl rfl rfl ?_
  refine L_yes rfl rfl rfl rfl (X_p (p_fieldo fo60_1 rfl rfl) ?_)
  refine L_yes rfl rfl rfl rfl (X_rd (rlA (vs := [_, _]) ag23 sz23 rfl rfl rfl) ?_)
  refine L_yes rfl rfl rfl rfl (X_p (p_fieldo fo60_1 rfl rfl) ?_)
  refine L_yes rfl rfl rfl rfl (X_rd (rlA (vs := [_, _]) ag23 sz23 rfl rfl rfl) ?_)
  refine L_yes rfl rfl rfl rfl (X_wr (w_callP rfl rfl rfl (fun w hg => lholds_c (windsP l z).y (windsP l (⟨atI z s, atI z s⟩ : Span)).y hw.2.2 w)) ?_)
  rintro _ _ ⟨rfl, rfl⟩
  refine L_yes rfl rfl rfl rfl (X_p (p_not rfl rfl) ?_)
  refine Lp rfl (p_pick_f rfl rfl rfl rfl) ?_
  refine Lm rfl rfl rfl ?_
  refine L_yes rfl rfl rfl rfl (X_rd (rlA (vs := [_, _]) ag23 sz23 rfl rfl rfl) ?_)
  refine L_yes rfl rfl rfl rfl (X_rd (rlA (vs := [_, _]) ag23 sz23 rfl rfl rfl) ?_)
  refine L_yes rfl rfl rfl rfl (X_wr (w_callP rfl rfl rfl (fun w hg => lholds_c (airP v z) (airP v (⟨atI z s, atI z s⟩ : Span)) ha.2 w)) ?_)
  rintro _ _ ⟨rfl, rfl⟩
  refine L_yes rfl rfl rfl rfl (X_p (p_not rfl rfl) ?_)
  refine Lp rfl (p_pick_f rfl rfl rfl rfl) ?_
  refine L_then (kp [0, 9, 12, 13, 116] rfl) ?_
  refine V_cond_f rfl rfl ?_
  refine V_skip (then_n ?_)
  refine Vs rfl ?_
  iterate 2 refine Lm rfl rfl rfl ?_
  refine Lc rfl rfl rfl rfl (fun w hg => wOver_c l (atI z s) _ w (hl.good hg)) ?_
  refine Lm rfl rfl rfl ?_
  iterate 3 refine Lp rfl (p_ext rfl rfl rfl) ?_
  refine Lw rfl (w_alloc zr23 rfl) ?_
  rintro _ _ ⟨b8, hb8, rfl, rfl⟩
  refine Lw rfl (w_alloc zr23 rfl) ?_
  rintro _ _ ⟨b9, hb9, rfl, rfl⟩
  iterate 2 refine Ls (cs' := [_, _]) rfl sz23 rfl rfl rfl rfl rfl rfl rfl ?_
  refine La rfl rfl rfl ?_
  refine L_then (kp [9, 13, 17, 18, 19] rfl) ?_
  refine Vs rfl ?_
  refine Lm rfl rfl rfl ?_
  refine Lp rfl (p_neq rfl rfl rfl) ?_
  refine Lm rfl rfl rfl ?_
  refine L_yes rfl rfl rfl (decide_eq_false (fun k => k ho)) (X_p (p_move rfl rfl) ?_)
  refine L_yes rfl rfl rfl (decide_eq_false (fun k => k ho)) (X_p (p_eql rfl rfl rfl) ?_)
  refine L_yes rfl rfl rfl (decide_eq_false (fun k => k ho)) (X_p (p_move rfl rfl) ?_)
  refine L_yes rfl rfl rfl (decide_eq_true (hw.1.symm.trans hov.1)) (X_rd (rlA (vs := [_, _, _, _]) ag60 sz60 rfl rfl rfl) ?_)
  refine L_yes rfl rfl rfl (decide_eq_true (hw.1.symm.trans hov.1)) (X_rd (rlA (vs := [_, _]) ag23 sz23 rfl rfl rfl) ?_)
  refine L_yes rfl rfl rfl (decide_eq_true (hw.1.symm.trans hov.1)) (X_rd (rlA (vs := [_, _]) ag23 sz23 rfl rfl rfl) ?_)
  refine L_yes rfl rfl rfl (decide_eq_true (hw.1.symm.trans hov.1)) (X_p (p_build (r := [_, _, _, _]) pl60 zr60 rfl rfl rfl) ?_)
  refine L_yes rfl rfl rfl (decide_eq_true (hw.1.symm.trans hov.1)) (X_p (p_eqS lv60 ag60 eg60 rfl rfl rfl rfl rfl) ?_)
  refine L_yes rfl rfl rfl (decide_eq_false (fun k => k ho)) (X_p (p_pick_t rfl rfl (decide_eq_true (hw.1.symm.trans hov.1)) rfl) ?_)
  refine Lp rfl (p_pick_f rfl rfl (decide_eq_false (fun k => k ho)) rfl) ?_
  refine Lm rfl rfl rfl ?_
  refine L_yes rfl rfl rfl (by rw [hov.2.1, hov.2.2]; simp [eqL, eqv]) (X_wr (w_callP rfl rfl rfl (fun w hg => lAwake_c w)) ?_)
  rintro _ _ ⟨rfl, rfl⟩
  refine Lp rfl (p_pick_t rfl rfl (by rw [hov.2.1, hov.2.2]; simp [eqL, eqv]) rfl) ?_
  refine La rfl rfl rfl ?_
  refine L_then (kp [6] rfl) ?_
  refine V_ret ?_
  refine Leave.nil (.tmp rfl .nil) ?_
  rfl
 refine (.go (E' := [(0, _)]) rfl (.plain rfl) (w_alloc zr23 rfl) rfl ?_)
 rintro _ _ ⟨b7, hb7, rfl, rfl⟩
 refine ⟨(.cons rfl (.plain rfl) (rlA (vs := [_, _, _, _, _, _]) ag28 sz28 rfl rfl rfl) .nil), ?_⟩
 refine D_wr (.go (E' := [(0, _)]) rfl (.plain rfl) (w_callP rfl rfl rfl (fun w hg => lspan_c _ _ w)) rfl ?_)
 rintro _ _ ⟨rfl, rfl⟩
 refine ⟨(.cons rfl (.plain rfl) (rlA (vs := [_, _, _, _, _, _]) ag28 sz28 rfl rfl rfl) .nil), ?_⟩
 refine D_wr (.go (E' := []) rfl (.plain rfl) (w_callP rfl rfl rfl (fun w hg => fAir_c (⟨atI z s, atI z s⟩ : Span) v _ w (hV.good hg))) rfl ?_)
 rintro _ _ ⟨rfl, rfl⟩
 refine ⟨.nil, ?_⟩
 refine Dm rfl rfl rfl rfl ?_
 iterate 2 refine Dp rfl rfl (p_ext rfl rfl rfl) ?_
 refine D_wr (.go (E' := []) rfl (.plain rfl) (ws (cs' := [_, _]) sz23 rfl rfl rfl rfl rfl rfl rfl) rfl ?_)
 rintro _ _ ⟨rfl, rfl⟩
 refine ⟨.nil, ?_⟩
 refine Dp rfl rfl (p_assign rfl rfl) ?_
 refine D_then (kp [0, 8, 9, 10, 11, 12, 13, 14, 15, 16] rfl) ?_
 refine V_seq ?_
 refine Vs rfl ?_
 iterate 2 refine Lm rfl rfl rfl ?_
 refine Lp rfl (p_neq rfl rfl rfl) ?_
 refine Lm rfl rfl rfl ?_
 refine L_yes rfl rfl rfl (decide_eq_false (fun k => k hw.1.symm)) (X_p (p_move rfl rfl) ?_)
 refine L_yes rfl rfl rfl (decide_eq_false (fun k => k hw.1.symm)) (X_p (p_move rfl rfl) ?_)
 refine L_yes rfl rfl rfl (decide_eq_false (fun k => k hw.1.symm)) (X_p (p_neq rfl rfl rfl) ?_)
 refine Lp rfl (p_pick_f rfl rfl (decide_eq_false (fun k => k hw.1.symm)) rfl) ?_
 refine Lm rfl rfl rfl ?_
 refine L_yes rfl rfl rfl (decide_eq_false (fun k => k ha.1.symm)) (X_p (p_fieldo fo60_0 rfl rfl) ?_)
 refine L_yes rfl rfl rfl (decide_eq_false (fun k => k ha.1.symm)) (X_rd (rlA (vs := [_, _]) ag23 sz23 rfl rfl rfl) ?_)
 refine L_yes rfl rfl rfl (decide_eq_false (fun k => k ha.1.symm)) (X_p (p_fieldo fo60_0 rfl rfl) ?_)
 refine L_yes rfl rfl rfl (decide_eq_false (fun k => k ha.1.symm)) (X_rd (rlA (vs := [_, _]) ag23 sz23 rfl rfl rfl) ?_)
 refine L_yes rfl rfl rfl (decide_eq_false (fun k => k ha.1.symm)) (X_wr (w_callP rfl rfl rfl (fun w hg => lholds_c (windsP l z).x (windsP l (⟨atI z s, atI z s⟩ : Span)).x hw.2.1 w)) ?_)
 rintro _ _ ⟨rfl, rfl⟩
 refine L_yes rfl rfl rfl (decide_eq_false (fun k => k ha.1.symm)) (X_p (p_not rfl rfl) ?_)
 refine Lp rfl (p_pick_f rfl rfl (decide_eq_false (fun k => k ha.1.symm)) rfl) ?_
 refine Lm rfl rfl rfl ?_
 refine L_yes rfl rfl rfl rfl (X_p (p_fieldo fo60_1 rfl rfl) ?_)
 refine L_yes rfl rfl rfl rfl (X_rd (rlA (vs := [_, _]) ag23 sz23 rfl rfl rfl) ?_)
 refine L_yes rfl rfl rfl rfl (X_p (p_fieldo fo60_1 rfl rfl) ?_)
 refine L_yes rfl rfl rfl rfl (X_rd (rlA (vs := [_, _]) ag23 sz23 rfl rfl rfl) ?_)
 refine L_yes rfl rfl rfl rfl (X_wr (w_callP rfl rfl rfl (fun w hg => lholds_c (windsP l z).y (windsP l (⟨atI z s, atI z s⟩ : Span)).y hw.2.2 w)) ?_)
 rintro _ _ ⟨rfl, rfl⟩
 refine L_yes rfl rfl rfl rfl (X_p (p_not rfl rfl) ?_)
 refine Lp rfl (p_pick_f rfl rfl rfl rfl) ?_
 refine Lm rfl rfl rfl ?_
 refine L_yes rfl rfl rfl rfl (X_rd (rlA (vs := [_, _]) ag23 sz23 rfl rfl rfl) ?_)
 refine L_yes rfl rfl rfl rfl (X_rd (rlA (vs := [_, _]) ag23 sz23 rfl rfl rfl) ?_)
 refine L_yes rfl rfl rfl rfl (X_wr (w_callP rfl rfl rfl (fun w hg => lholds_c (airP v z) (airP v (⟨atI z s, atI z s⟩ : Span)) ha.2 w)) ?_)
 rintro _ _ ⟨rfl, rfl⟩
 refine L_yes rfl rfl rfl rfl (X_p (p_not rfl rfl) ?_)
 refine Lp rfl (p_pick_f rfl rfl rfl rfl) ?_
 refine L_then (kp [0, 9, 12, 13, 116] rfl) ?_
 refine V_cond_f rfl rfl ?_
 refine V_skip (then_n ?_)
 refine Vs rfl ?_
 iterate 2 refine Lm rfl rfl rfl ?_
 refine Lc rfl rfl rfl rfl (fun w hg => wOver_c l (atI z s) _ w (hl.good hg)) ?_
 refine Lm rfl rfl rfl ?_
 iterate 3 refine Lp rfl (p_ext rfl rfl rfl) ?_
 refine Lw rfl (w_alloc zr23 rfl) ?_
 rintro _ _ ⟨b8, hb8, rfl, rfl⟩
 refine Lw rfl (w_alloc zr23 rfl) ?_
 rintro _ _ ⟨b9, hb9, rfl, rfl⟩
 iterate 2 refine Ls (cs' := [_, _]) rfl sz23 rfl rfl rfl rfl rfl rfl rfl ?_
 refine La rfl rfl rfl ?_
 refine L_then (kp [9, 13, 17, 18, 19] rfl) ?_
 refine Vs rfl ?_
 refine Lm rfl rfl rfl ?_
 refine Lp rfl (p_neq rfl rfl rfl) ?_
 refine Lm rfl rfl rfl ?_
 refine L_yes rfl rfl rfl (decide_eq_false (fun k => k ho)) (X_p (p_move rfl rfl) ?_)
 refine L_yes rfl rfl rfl (decide_eq_false (fun k => k ho)) (X_p (p_eql rfl rfl rfl) ?_)
 refine L_yes rfl rfl rfl (decide_eq_false (fun k => k ho)) (X_p (p_move rfl rfl) ?_)
 refine L_yes rfl rfl rfl (decide_eq_true (hw.1.symm.trans hov.1)) (X_rd (rlA (vs := [_, _, _, _]) ag60 sz60 rfl rfl rfl) ?_)
 refine L_yes rfl rfl rfl (decide_eq_true (hw.1.symm.trans hov.1)) (X_rd (rlA (vs := [_, _]) ag23 sz23 rfl rfl rfl) ?_)
 refine L_yes rfl rfl rfl (decide_eq_true (hw.1.symm.trans hov.1)) (X_rd (rlA (vs := [_, _]) ag23 sz23 rfl rfl rfl) ?_)
 refine L_yes rfl rfl rfl (decide_eq_true (hw.1.symm.trans hov.1)) (X_p (p_build (r := [_, _, _, _]) pl60 zr60 rfl rfl rfl) ?_)
 refine L_yes rfl rfl rfl (decide_eq_true (hw.1.symm.trans hov.1)) (X_p (p_eqS lv60 ag60 eg60 rfl rfl rfl rfl rfl) ?_)
 refine L_yes rfl rfl rfl (decide_eq_false (fun k => k ho)) (X_p (p_pick_t rfl rfl (decide_eq_true (hw.1.symm.trans hov.1)) rfl) ?_)
 refine Lp rfl (p_pick_f rfl rfl (decide_eq_false (fun k => k ho)) rfl) ?_
 refine Lm rfl rfl rfl ?_
 refine L_yes rfl rfl rfl (by rw [hov.2.1, hov.2.2]; simp [eqL, eqv]) (X_wr (w_callP rfl rfl rfl (fun w hg => lAwake_c w)) ?_)
 rintro _ _ ⟨rfl, rfl⟩
 refine Lp rfl (p_pick_t rfl rfl (by rw [hov.2.1, hov.2.2]; simp [eqL, eqv]) rfl) ?_
 refine La rfl rfl rfl ?_
 refine L_then (kp [6] rfl) ?_
 refine V_ret ?_
 refine Leave.nil (.tmp rfl .nil) ?_
 rfl
theorem flightBands_c (l : List Fl.Band) (v : Veh) (z : Span) (s : Int) (bv x : Value) (hs : 0 ≤ s ∧ s ≤ 255) (w : World) (hl : BdsR w bv l) (hv : VehR w x v) : FnP Try.prog 9 [bv, x, .agg #[.int .i64 z.lo, .int .i64 z.hi, .int .u8 s]] w (.bool true) := by
 cases hb : beyond z (-2000000000) 2000000000
 ·by_cases ho : overE l (atI z s) = 0
  ·exact flightBandsO l v z s bv x hs w hl hv hb ho
  exact flightBandsI l v z s bv x hs w hl hv hb ho
 exact flightBandsB l v z s bv x hs w hl hv hb

theorem own_ : ownKnob Try.prog.godebug = none := by kernel_rfl

theorem flightBands_lifted (os : Os) (started : os.Started) (H : Type) (enc : TypeId × Value → H) :
  ReturnsInHanded {} Try.checked os 9 .any (Rows.flightBandsSpec.pre6 enc Try.prog Try.f9 Rows.flightBandsRow.domain false) (Rows.flightBandsSpec.post enc Try.prog Try.f9 false true false false) := by
 refine returnsInHanded_of_change (C := Try.checked) own_ started (by kernel_rfl) Try.func9
  (ChangeSpec.witness6 (enc := enc) (C := Try.checked) false ⟨#[], #[.slice none 0 0, .agg #[.string ByteArray.empty, .int .i64 0, .int .i64 0, .slice none 0 0, .slice none 0 0, .slice none 0 0], .agg #[.int .i64 0, .int .i64 0, .int .u8 0]], []⟩ 8 (by kernel_rfl) (by kernel_rfl) (by kernel_rfl) (by kernel_rfl)) ?_
 intro W base args ds gs before hval0 hW hcnd _
 have hval : ∀ (j : Nat) t v, Try.f9.params[j]? = some t → args[j]? = some v → Value.okWide Try.prog W .any base t v := hval0
 have hW' := hW
 obtain ⟨pA, pB, hA0, hV, rfl, _, _⟩ := hW
 have hA : DataW.TrodAll enc Try.prog W 0 (fun _ => true) true Try.f9.params.toList args.toList ds pA := hA0
 clear hA0 hval0
 rw [Try.params9] at hA hval
 obtain ⟨rfl, rfl⟩ := trodVars_none hV
 obtain ⟨v0, vs0, d0, ds0, p0, q0, ea0, rfl, rfl, h0, hA0⟩ := trodAll_cons hA
 obtain ⟨v1, vs1, d1, ds1, p1, q1, ea1, rfl, rfl, h1, hA1⟩ := trodAll_cons hA0
 obtain ⟨v2, vs2, d2, ds2, p2, q2, ea2, rfl, rfl, h2, hA2⟩ := trodAll_cons hA1
 obtain ⟨rfl, rfl, rfl⟩ := trodAll_nil hA2
 subst ea2
 subst ea1
 have ea : args = #[v0, v1, v2] := Array.toList_inj.1 ea0
 subst ea
 have k0 := hval 0 _ v0 rfl rfl
 have k1 := hval 1 _ v1 rfl rfl
 have k2 := hval 2 _ v2 rfl rfl
 obtain ⟨l, hl⟩ := open_bands (P := Try.prog) (by kernel_rfl) k0 h0
 obtain ⟨v, hv⟩ := open_veh (P := Try.prog) (by kernel_rfl) k1 h1
 obtain ⟨x0, x1, s, rfl, _, _, hs⟩ := open_btw (P := Try.prog) (by kernel_rfl) k2 h2
 refine (calls_of (flightBands_c l v ⟨x0, x1⟩ s _ _ hs W hl hv)).mono ?_
 rintro _ W' ⟨_, rfl, rfl, hE⟩
 exact ⟨_, rfl, post_true hW' rfl hE (by kernel_rfl) (by kernel_rfl) rfl rfl rfl (by kernel_rfl) Try.underlying4⟩

theorem flightBands_holds : Rows.FlightBandsSaid :=
 OpenClaim.holds_of_wide 9 Try.f9 rfl rfl rfl rfl rfl rfl rfl ⟨rfl, rfl, rfl, rfl, rfl⟩ rfl rfl rfl rfl rfl (by kernel_rfl) Try.func9 (by kernel_rfl)
  (of_decide_eq_true (by kernel_rfl)) (by unfold Func.isWrapper; first | (rw [if_pos (by decide +kernel)]; kernel_rfl) | (rw [if_neg (by decide +kernel)]; exact ⟨rfl, rfl⟩))
  (fun os started H enc _ => flightBands_lifted os started H enc)
#print axioms flightBands_holds

end Go.Proofs.Ytbncegfgjbdheaa
