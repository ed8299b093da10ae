/- Joined texts. -/
import Derived.Test.YtbncegfgjbdheabGreatZao
import Derived.Test.YtbncegfgjbdheabGreatZam

set_option linter.all false
namespace Go.Proofs.YtbncegfgjbdheabGreat
open Go.Vc Go.Tk Go.Fl
set_option maxRecDepth 100000
theorem ralone_c (p : Fl.Pt) (w : World) : FnP Tryz.prog 54 [.agg #[.int .i64 p.x, .int .i64 p.y, .int .i64 p.z, .int .i64 p.vx, .int .i64 p.vy, .int .i64 p.vz]] w (.agg #[.int .i64 (Fl.ptS p).p.x.lo, .int .i64 (Fl.ptS p).p.x.hi, .int .i64 (Fl.ptS p).p.y.lo, .int .i64 (Fl.ptS p).p.y.hi, .int .i64 (Fl.ptS p).p.z.lo, .int .i64 (Fl.ptS p).p.z.hi, .int .i64 (Fl.ptS p).v.x.lo, .int .i64 (Fl.ptS p).v.x.hi, .int .i64 (Fl.ptS p).v.y.lo, .int .i64 (Fl.ptS p).v.y.hi, .int .i64 (Fl.ptS p).v.z.lo, .int .i64 (Fl.ptS p).v.z.hi]) := by
 refine fn_pure Tryz.func54 rfl (by kernel_rfl) Tryz.ntmps54 Tryz.results54 rfl ?_
 refine Vs rfl ?_
 refine Lw rfl (w_box rfl rfl) ?_
 rintro _ _ ⟨b1, hb1, rfl, rfl⟩
 refine Lw rfl (w_alloc zr82 rfl) ?_
 rintro _ _ ⟨b2, hb2, rfl, rfl⟩
 refine L_then (kp [1, 2] rfl) ?_
 refine V_seq (V_draw (.rd 0 (.rd 1 (.rd 3 (.rd 4 (.rd 6 (.rd 7 (.rd 9 (.rd 10 (.rd 12 (.rd 13 (.rd 15 (.rd 16 (.wr 2 [16, 15, 13, 12, 10, 9, 7, 6, 4, 3, 0] (.wr 5 [16, 15, 13, 12, 10, 9, 7, 6, 3, 1, 0] (.wr 8 [16, 15, 13, 12, 10, 9, 6, 4, 3, 1, 0] (.wr 11 [16, 15, 13, 12, 9, 7, 6, 4, 3, 1, 0] (.wr 14 [16, 15, 12, 10, 9, 7, 6, 4, 3, 1, 0] (.wr 17 [15, 13, 12, 10, 9, 7, 6, 4, 3, 1, 0] (.rd 18 (.wr 19 [] .done)))))))))))))))))))) mixed (by kernel_rfl) rfl ?_)
 refine Dp rfl rfl (p_fieldo fo49_0 rfl rfl) ?_
 refine Dr rfl rfl (rl ag3 rfl rfl rfl) ?_
 refine Dp rfl rfl (p_fieldo fo49_1 rfl rfl) ?_
 refine Dr rfl rfl (rl ag3 rfl rfl rfl) ?_
 refine Dp rfl rfl (p_fieldo fo49_2 rfl rfl) ?_
 refine Dr rfl rfl (rl ag3 rfl rfl rfl) ?_
 refine Dp rfl rfl (p_fieldo fo49_3 rfl rfl) ?_
 refine Dr rfl rfl (rl ag3 rfl rfl rfl) ?_
 refine Dp rfl rfl (p_fieldo fo49_4 rfl rfl) ?_
 refine Dr rfl rfl (rl ag3 rfl rfl rfl) ?_
 refine Dp rfl rfl (p_fieldo fo49_5 rfl rfl) ?_
 refine Dr rfl rfl (rl ag3 rfl rfl rfl) ?_
 refine D_wr (.go (E' := [(16, _), (13, _), (10, _), (7, _), (4, _)]) rfl (.plain rfl) (w_callP rfl rfl rfl (fun w hg => rone_c _ w)) rfl ?_)
 rintro _ _ ⟨rfl, rfl⟩
 refine ⟨(.cons rfl (.plain rfl) (rl ag3 rfl rfl rfl) (.cons rfl (.plain rfl) (rl ag3 rfl rfl rfl) (.cons rfl (.plain rfl) (rl ag3 rfl rfl rfl) (.cons rfl (.plain rfl) (rl ag3 rfl rfl rfl) (.cons rfl (.plain rfl) (rl ag3 rfl rfl rfl) .nil))))), ?_⟩
 refine D_wr (.go (E' := [(16, _), (13, _), (10, _), (7, _)]) rfl (.plain rfl) (w_callP rfl rfl rfl (fun w hg => rone_c _ w)) rfl ?_)
 rintro _ _ ⟨rfl, rfl⟩
 refine ⟨(.cons rfl (.plain rfl) (rl ag3 rfl rfl rfl) (.cons rfl (.plain rfl) (rl ag3 rfl rfl rfl) (.cons rfl (.plain rfl) (rl ag3 rfl rfl rfl) (.cons rfl (.plain rfl) (rl ag3 rfl rfl rfl) .nil)))), ?_⟩
 refine D_wr (.go (E' := [(16, _), (13, _), (10, _)]) rfl (.plain rfl) (w_callP rfl rfl rfl (fun w hg => rone_c _ w)) rfl ?_)
 rintro _ _ ⟨rfl, rfl⟩
 refine ⟨(.cons rfl (.plain rfl) (rl ag3 rfl rfl rfl) (.cons rfl (.plain rfl) (rl ag3 rfl rfl rfl) (.cons rfl (.plain rfl) (rl ag3 rfl rfl rfl) .nil))), ?_⟩
 refine D_wr (.go (E' := [(16, _), (13, _)]) rfl (.plain rfl) (w_callP rfl rfl rfl (fun w hg => rone_c _ w)) rfl ?_)
 rintro _ _ ⟨rfl, rfl⟩
 refine ⟨(.cons rfl (.plain rfl) (rl ag3 rfl rfl rfl) (.cons rfl (.plain rfl) (rl ag3 rfl rfl rfl) .nil)), ?_⟩
 refine D_wr (.go (E' := [(16, _)]) rfl (.plain rfl) (w_callP rfl rfl rfl (fun w hg => rone_c _ w)) rfl ?_)
 rintro _ _ ⟨rfl, rfl⟩
 refine ⟨(.cons rfl (.plain rfl) (rl ag3 rfl rfl rfl) .nil), ?_⟩
 refine D_wr (.go (E' := []) rfl (.plain rfl) (w_callP rfl rfl rfl (fun w hg => rone_c _ w)) rfl ?_)
 rintro _ _ ⟨rfl, rfl⟩
 refine ⟨.nil, ?_⟩
 refine Dp rfl rfl (p_build (r := [_, _, _, _, _, _, _, _, _, _, _, _]) pl82 zr82 rfl rfl rfl) ?_
 refine D_wr (.go (E' := []) rfl (.plain rfl) (ws (cs' := [_, _, _, _, _, _, _, _, _, _, _, _]) sz82 rfl rfl rfl rfl rfl rfl rfl) rfl ?_)
 rintro _ _ ⟨rfl, rfl⟩
 refine ⟨.nil, ?_⟩
 refine D_then (kp [2] rfl) ?_
 refine V_ret ?_
 refine Leave.nil (.cellA (us := [_, _, _, _, _, _, _, _, _, _, _, _]) rfl ag82 sz82 (by repeat first | exact mH | apply mT) rfl .nil) ?_
 rfl
theorem rhas_c (s : Span) (n : Int) (w : World) : FnP Tryz.prog 56 [.agg #[.int .i64 s.lo, .int .i64 s.hi], .int .i64 n] w (.bool (Fl.hasS s n)) := by
 refine fn_pure Tryz.func56 rfl (by kernel_rfl) Tryz.ntmps56 Tryz.results56 rfl ?_
 refine Vs rfl ?_
 refine Lw rfl (w_box rfl rfl) ?_
 rintro _ _ ⟨b1, hb1, rfl, rfl⟩
 refine La rfl rfl rfl ?_
 refine L_then (kp [1, 2] rfl) ?_
 refine Vs rfl ?_
 refine Lm rfl rfl rfl ?_
 refine Lp rfl (p_fieldo fo23_0 rfl rfl) ?_
 refine Lr rfl (rl ag3 rfl rfl rfl) ?_
 refine Lp rfl (p_fieldo fo23_1 rfl rfl) ?_
 refine Lr rfl (rl ag3 rfl rfl rfl) ?_
 refine Lc rfl rfl rfl rfl (fun w hg => r2in_c _ _ _ w) ?_
 refine La rfl rfl rfl ?_
 refine L_then (kp [4] rfl) ?_
 refine V_ret ?_
 refine Leave.nil (.tmp rfl .nil) ?_
 rfl
theorem rpath_c (q : List Fl.Pt) (x : Value) (w : World) (hq : PtsR w x q) : FnP Tryz.prog 16 [x] w (.int .i64 (strayE q)) := by
 have hQ := hq
 obtain ⟨pa, pc, rfl, hpc, hpe⟩ := hq.sl.ex
 simp only [List.length_map] at hQ hpc hq ⊢
 refine fn_pure Tryz.func16 rfl (by kernel_rfl) Tryz.ntmps16 Tryz.results16 rfl ?_
 refine Vs rfl ?_
 refine La rfl rfl rfl ?_
 refine L_then (kp [0] rfl) ?_
 refine V_seq ?_
 refine Vs rfl ?_
 refine Lm rfl rfl rfl ?_
 refine Lp rfl (p_len isl34 rfl rfl) ?_
 refine Lc rfl rfl rfl rfl (fun w hg => r2in_c _ _ _ w) ?_
 refine Lp rfl (p_not rfl rfl) ?_
 refine L_then (kp [0, 7] rfl) ?_
 refine V_cond rfl ?_ ?_
 ·intro c1; try simp only [td] at c1
  refine Vs rfl ?_
  refine La rfl rfl rfl ?_
  refine L_then (kp [2] rfl) ?_
  refine V_ret (then_r ?_)
  refine Leave.nil (.tmp rfl .nil) ?_
  first | (rw [stray_3 (by first | assumption | (simp_all; done))]; rfl) | (have hop : oP q.length 1 3001 = false := (by first | assumption | (simp_all; done)); first | (rw [stray_7 hop (k := k) (by omega) (by assumption)]; rfl) | (rw [stray_mk hop (fun j hj => hall j (by omega))]; rfl))
 intro c1; try simp only [td] at c1
 have hl9 := oP_false.1 (show oP q.length 1 3001 = false by first | assumption | (simp_all; done))
 refine V_skip (then_n ?_)
 refine V_seq ?_
 refine Vs rfl ?_
 refine La rfl rfl rfl ?_
 refine L_then (kp [0, 3] rfl) ?_
 refine V_block ?_
 refine V_loop0 (γ := Nat) (kp [0] rfl) (fun k => [(3, .int .i64 (k : Int))]) (fun k => k ≤ q.length ∧ ∀ j, j < k → farS (Fl.ptS (ptAt q j)) = false) (fun k => q.length - k) (0) (.cons rfl (.nil _)) (⟨Nat.zero_le _, fun j hj => absurd hj (Nat.not_lt_zero _)⟩) ?_
 rintro k hi
 obtain ⟨hk1, hall⟩ := hi
 refine V_seq ?_
 refine Vs rfl ?_
 iterate 2 refine Lm rfl rfl rfl ?_
 refine Lp rfl (p_len isl34 rfl rfl) ?_
 refine Lp rfl (p_lss rfl rfl rfl) ?_
 refine L_then (kp [0, 3, 11] rfl) ?_
 refine V_cond rfl ?_ ?_
 ·intro c2; try simp only [td] at c2
  obtain ⟨tb, etb, hc9⟩ := hpe k _ (getD_cells (d := ptZ) (by omega))
  subst etb
  have hc : cellsAt w (tb.add (k * 6)) (Fl.Pt.cells (ptAt q k)) := hc9
  refine V_skip (then_n ?_)
  refine V_seq ?_
  refine V_block ?_
  refine Vs rfl ?_
  iterate 2 refine Lm rfl rfl rfl ?_
  refine Lp rfl (p_idx es34 rfl rfl rfl (by omega) (by omega)) ?_
  refine Lr rfl (r_loadBA ag49 sz49 rfl rfl hc rfl List.not_mem_nil) ?_
  refine Lc rfl rfl rfl rfl (fun w hg => ralone_c (ptAt q k) w) ?_
  refine Lc rfl rfl rfl rfl (fun w hg => rfar_c (Fl.ptS (ptAt q k)) w) ?_
  refine L_then (kp [0, 3, 19] rfl) ?_
  refine V_cond rfl ?_ ?_
  ·intro c3; try simp only [td] at c3
   refine Vs rfl ?_
   refine La rfl rfl rfl ?_
   refine L_then (kp [2] rfl) ?_
   refine V_ret (blk_r (then_r (then_r (blk_r (then_r ?_)))))
   refine Leave.nil (.tmp rfl .nil) ?_
   first | (rw [stray_3 (by first | assumption | (simp_all; done))]; rfl) | (have hop : oP q.length 1 3001 = false := (by first | assumption | (simp_all; done)); first | (rw [stray_7 hop (k := k) (by omega) (by assumption)]; rfl) | (rw [stray_mk hop (fun j hj => hall j (by omega))]; rfl))
  intro c3; try simp only [td] at c3
  refine V_skip (blk_n (then_n ?_))
  refine V_region rfl ?_
  refine Lm rfl rfl rfl ?_
  first | refine Lp rfl (p_add' rfl rfl rfl (by unfold InI; omega)) ?_ | refine Lp rfl (p_add rfl rfl rfl) ?_
  refine La rfl rfl rfl ?_
  refine L_keep (kp [0, 3] rfl) (then_n ?_)
  refine ⟨k + 1, ?_, ?_, (.cons rfl (.cons rfl (.nil _))), (by repeat (first | exact List.nil_sublist _ | exact List.Sublist.refl _ | apply List.Sublist.cons_cons | apply List.Sublist.cons | apply List.sublist_append_of_sublist_right)), rfl⟩
  ·refine ⟨by omega, fun j hj => ?_⟩
   by_cases e : j < k
   ·exact hall j e
   have ej : j = k := by omega
   rw [ej]; assumption
  omega
 intro c2; try simp only [td] at c2
 refine V_exit (then_e (then_e (blk_e rfl (then_n ?_))))
 refine Vs rfl ?_
 refine La rfl rfl rfl ?_
 refine L_then (kp [2] rfl) ?_
 refine V_ret ?_
 refine Leave.nil (.tmp rfl .nil) ?_
 first | (rw [stray_3 (by first | assumption | (simp_all; done))]; rfl) | (have hop : oP q.length 1 3001 = false := (by first | assumption | (simp_all; done)); first | (rw [stray_7 hop (k := k) (by omega) (by assumption)]; rfl) | (rw [stray_mk hop (fun j hj => hall j (by omega))]; rfl))
set_option maxHeartbeats 8000000 in
theorem rfollows_c (d : Dir) (l : List Fl.Band) (bv : Value) (p : Phase) (a b : Fl.Pt) (v : Veh) (x : Value) (w : World) (hv : VehR w x v) (hV0 : GoodV v) (hd : dirE d = 0) (hB : GoodB l) (hp : PhB p) (hfa : farS (Fl.ptS a) = false) (hfb : farS (Fl.ptS b) = false) (hl : BdsR w bv l) : FnP Tryz.prog 17 [x, .agg #[.int .i64 d.x, .int .i64 d.y, .int .i64 d.z], bv, .agg (Phase.cells p).toArray, .agg #[.int .i64 a.x, .int .i64 a.y, .int .i64 a.z, .int .i64 a.vx, .int .i64 a.vy, .int .i64 a.vz], .agg #[.int .i64 b.x, .int .i64 b.y, .int .i64 b.z, .int .i64 b.vx, .int .i64 b.vy, .int .i64 b.vz]] w (.bool (goesB (forceT v d l p (Fl.ptS a)) a b)) := by
 have hV := hv
 obtain ⟨av, pv, qv, rfl, hsa, hsp, hsq⟩ := hv.ex
 have hfa0 := hfa
 have hfb0 := hfb
 obtain ⟨⟨⟨y1, _, y2⟩, ⟨y3, _, y4⟩, ⟨y5, _, y6⟩⟩, ⟨y7, _, y8⟩, ⟨y9, _, y10⟩, ⟨y11, _, y12⟩⟩ := far_false.1 hfa
 simp only [Fl.ptS, at1] at y1 y2 y3 y4 y5 y6 y7 y8 y9 y10 y11 y12
 obtain ⟨⟨⟨z1, _, z2⟩, ⟨z3, _, z4⟩, ⟨z5, _, z6⟩⟩, ⟨z7, _, z8⟩, ⟨z9, _, z10⟩, ⟨z11, _, z12⟩⟩ := far_false.1 hfb
 simp only [Fl.ptS, at1] at z1 z2 z3 z4 z5 z6 z7 z8 z9 z10 z11 z12
 refine fn_pure Tryz.func17 rfl (by kernel_rfl) Tryz.ntmps17 Tryz.results17 rfl ?_
 refine Vs rfl ?_
 refine Lw rfl (w_box rfl rfl) ?_
 rintro _ _ ⟨b1, hb1, rfl, rfl⟩
 refine Lw rfl (w_box rfl rfl) ?_
 rintro _ _ ⟨b2, hb2, rfl, rfl⟩
 refine Lw rfl (w_box rfl rfl) ?_
 rintro _ _ ⟨b3, hb3, rfl, rfl⟩
 refine Lw rfl (w_box rfl rfl) ?_
 rintro _ _ ⟨b4, hb4, rfl, rfl⟩
 refine Lw rfl (w_box rfl rfl) ?_
 rintro _ _ ⟨b5, hb5, rfl, rfl⟩
 refine La rfl rfl rfl ?_
 refine L_then (kp [2, 6, 7, 9, 10, 11] rfl) ?_
 refine V_seq (V_draw (.rd 0 (.rd 1 (.rd 2 (.rd 3 (.rd 4 (.wr2 5 [3, 2, 1, 0] (.wr2 6 [4] (.wr 7 [4, 3, 2, 1, 0] (.wr 8 [] .done)) 7 [4, 3, 2, 1, 0] (.wr 6 [4] (.wr 8 [] .done))) 7 [4, 3, 2, 1, 0] (.wr 5 [3, 2, 1, 0] (.wr 6 [4] (.wr 8 [] .done))))))))) mixed (by kernel_rfl) rfl ?_)
 refine Dr rfl rfl (rlA (vs := [_, _, _, _, _, _]) ag28 sz28 rfl rfl rfl) ?_
 refine Dr rfl rfl (rlA (vs := [_, _, _]) ag30 sz30 rfl rfl rfl) ?_
 refine Dm rfl rfl rfl rfl ?_
 refine Dr rfl rfl (rlA (vs := [_, _, _, _, _, _, _, _, _, _, _, _, _]) ag66 sz66 rfl rfl rfl) ?_
 refine Dr rfl rfl (rlA (vs := [_, _, _, _, _, _]) ag49 sz49 rfl rfl rfl) ?_
 refine D_wr2 rfl ?_ ?_
 ·refine (.go (E' := [(3, _), (1, _), (0, _)]) rfl (.plain rfl) (w_callP rfl rfl rfl (fun w hg => ralone_c a w)) rfl ?_)
  rintro _ _ ⟨rfl, rfl⟩
  refine ⟨(.cons rfl (.plain rfl) (rlA (vs := [_, _, _, _, _, _, _, _, _, _, _, _, _]) ag66 sz66 rfl rfl rfl) (.cons rfl (.plain rfl) (rlA (vs := [_, _, _]) ag30 sz30 rfl rfl rfl) (.cons rfl (.plain rfl) (rlA (vs := [_, _, _, _, _, _]) ag28 sz28 rfl rfl rfl) .nil))), ?_⟩
  refine D_wr2 rfl ?_ ?_
  ·refine (.go (E' := []) rfl (.plain rfl) (w_callP rfl rfl rfl (fun w hg => rforce_c d l _ p (Fl.ptS a) v _ w (hV.good hg) hV0 hd hB hp hfa (hl.good hg))) rfl ?_)
   rintro _ _ ⟨rfl, rfl⟩
   refine ⟨.nil, ?_⟩
   refine D_wr (.go (E' := []) rfl (.plain rfl) (w_alloc zr77 rfl) rfl ?_)
   rintro _ _ ⟨b6, hb6, rfl, rfl⟩
   refine ⟨.nil, ?_⟩
   refine D_wr (.go (E' := []) rfl (.plain rfl) (ws (cs' := [_, _, _, _, _, _]) sz77 rfl rfl rfl rfl rfl rfl rfl) rfl ?_)
   rintro _ _ ⟨rfl, rfl⟩
   refine ⟨.nil, ?_⟩
   refine D_then (kp [10, 11, 13] rfl) ?_
   refine Vs rfl ?_
   refine Lp rfl (p_fieldo fo77_0 rfl rfl) ?_
   refine Lr rfl (rlA (vs := [_, _]) ag23 sz23 rfl rfl rfl) ?_
   refine Lp rfl (p_fieldo fo49_3 rfl rfl) ?_
   refine Lr rfl (rl ag3 rfl rfl rfl) ?_
   refine Lp rfl (p_fieldo fo49_3 rfl rfl) ?_
   refine Lr rfl (rl ag3 rfl rfl rfl) ?_
   first | refine Lp rfl (p_sub' rfl rfl rfl (by unfold InI; omega)) ?_ | refine Lp rfl (p_sub rfl rfl rfl) ?_
   refine Lc rfl rfl rfl rfl (fun w hg => rhas_c (forceT v d l p (Fl.ptS a)).x (b.vx - a.vx) w) ?_
   refine Lm rfl rfl rfl ?_
   refine L_cases (d := 29) rfl ?_ ?_
   ·intro g1; have g1' := g1; try simp only [td] at g1'
    refine L_yes rfl rfl rfl g1 (X_p (p_fieldo fo77_1 rfl rfl) ?_)
    refine L_yes rfl rfl rfl g1 (X_rd (rlA (vs := [_, _]) ag23 sz23 rfl rfl rfl) ?_)
    refine L_yes rfl rfl rfl g1 (X_p (p_fieldo fo49_4 rfl rfl) ?_)
    refine L_yes rfl rfl rfl g1 (X_rd (rl ag3 rfl rfl rfl) ?_)
    refine L_yes rfl rfl rfl g1 (X_p (p_fieldo fo49_4 rfl rfl) ?_)
    refine L_yes rfl rfl rfl g1 (X_rd (rl ag3 rfl rfl rfl) ?_)
    first | refine L_yes rfl rfl rfl g1 (X_p (p_sub' rfl rfl rfl (by unfold InI; omega)) ?_) | refine L_yes rfl rfl rfl g1 (X_p (p_sub rfl rfl rfl) ?_)
    refine L_yes rfl rfl rfl g1 (X_wr (w_callP rfl rfl rfl (fun w hg => rhas_c (forceT v d l p (Fl.ptS a)).y (b.vy - a.vy) w)) ?_)
    rintro _ _ ⟨rfl, rfl⟩
    refine Lp rfl (p_pick_t rfl rfl g1 rfl) ?_
    refine Lm rfl rfl rfl ?_
    refine L_cases (d := 39) rfl ?_ ?_
    ·intro g2; have g2' := g2; try simp only [td] at g2'
     refine L_yes rfl rfl rfl g2 (X_p (p_fieldo fo77_2 rfl rfl) ?_)
     refine L_yes rfl rfl rfl g2 (X_rd (rlA (vs := [_, _]) ag23 sz23 rfl rfl rfl) ?_)
     refine L_yes rfl rfl rfl g2 (X_p (p_fieldo fo49_5 rfl rfl) ?_)
     refine L_yes rfl rfl rfl g2 (X_rd (rl ag3 rfl rfl rfl) ?_)
     refine L_yes rfl rfl rfl g2 (X_p (p_fieldo fo49_5 rfl rfl) ?_)
     refine L_yes rfl rfl rfl g2 (X_rd (rl ag3 rfl rfl rfl) ?_)
     first | refine L_yes rfl rfl rfl g2 (X_p (p_sub' rfl rfl rfl (by unfold InI; omega)) ?_) | refine L_yes rfl rfl rfl g2 (X_p (p_sub rfl rfl rfl) ?_)
     refine L_yes rfl rfl rfl g2 (X_wr (w_callP rfl rfl rfl (fun w hg => rhas_c (forceT v d l p (Fl.ptS a)).z (b.vz - a.vz) w)) ?_)
     rintro _ _ ⟨rfl, rfl⟩
     refine Lp rfl (p_pick_t rfl rfl g2 rfl) ?_
     refine Lm rfl rfl rfl ?_
     refine L_cases (d := 49) rfl ?_ ?_
     ·intro g3; have g3' := g3; try simp only [td] at g3'
      refine L_yes rfl rfl rfl g3 (X_p (p_fieldo fo49_0 rfl rfl) ?_)
      refine L_yes rfl rfl rfl g3 (X_rd (rl ag3 rfl rfl rfl) ?_)
      refine L_yes rfl rfl rfl g3 (X_p (p_fieldo fo49_0 rfl rfl) ?_)
      refine L_yes rfl rfl rfl g3 (X_rd (rl ag3 rfl rfl rfl) ?_)
      refine L_yes rfl rfl rfl g3 (X_p (p_fieldo fo49_3 rfl rfl) ?_)
      refine L_yes rfl rfl rfl g3 (X_rd (rl ag3 rfl rfl rfl) ?_)
      first | refine L_yes rfl rfl rfl g3 (X_p (p_add' rfl rfl rfl (by unfold InI; omega)) ?_) | refine L_yes rfl rfl rfl g3 (X_p (p_add rfl rfl rfl) ?_)
      refine L_yes rfl rfl rfl g3 (X_p (p_eql rfl rfl rfl) ?_)
      refine Lp rfl (p_pick_t rfl rfl g3 rfl) ?_
      refine Lm rfl rfl rfl ?_
      refine L_cases (d := 59) rfl ?_ ?_
      ·intro g4; have g4' := g4; try simp only [td] at g4'
       refine L_yes rfl rfl rfl g4 (X_p (p_fieldo fo49_1 rfl rfl) ?_)
       refine L_yes rfl rfl rfl g4 (X_rd (rl ag3 rfl rfl rfl) ?_)
       refine L_yes rfl rfl rfl g4 (X_p (p_fieldo fo49_1 rfl rfl) ?_)
       refine L_yes rfl rfl rfl g4 (X_rd (rl ag3 rfl rfl rfl) ?_)
       refine L_yes rfl rfl rfl g4 (X_p (p_fieldo fo49_4 rfl rfl) ?_)
       refine L_yes rfl rfl rfl g4 (X_rd (rl ag3 rfl rfl rfl) ?_)
       first | refine L_yes rfl rfl rfl g4 (X_p (p_add' rfl rfl rfl (by unfold InI; omega)) ?_) | refine L_yes rfl rfl rfl g4 (X_p (p_add rfl rfl rfl) ?_)
       refine L_yes rfl rfl rfl g4 (X_p (p_eql rfl rfl rfl) ?_)
       refine Lp rfl (p_pick_t rfl rfl g4 rfl) ?_
       refine Lm rfl rfl rfl ?_
       refine L_cases (d := 69) rfl ?_ ?_
       ·intro g5; have g5' := g5; try simp only [td] at g5'
        refine L_yes rfl rfl rfl g5 (X_p (p_fieldo fo49_2 rfl rfl) ?_)
        refine L_yes rfl rfl rfl g5 (X_rd (rl ag3 rfl rfl rfl) ?_)
        refine L_yes rfl rfl rfl g5 (X_p (p_fieldo fo49_2 rfl rfl) ?_)
        refine L_yes rfl rfl rfl g5 (X_rd (rl ag3 rfl rfl rfl) ?_)
        refine L_yes rfl rfl rfl g5 (X_p (p_fieldo fo49_5 rfl rfl) ?_)
        refine L_yes rfl rfl rfl g5 (X_rd (rl ag3 rfl rfl rfl) ?_)
        first | refine L_yes rfl rfl rfl g5 (X_p (p_add' rfl rfl rfl (by unfold InI; omega)) ?_) | refine L_yes rfl rfl rfl g5 (X_p (p_add rfl rfl rfl) ?_)
        refine L_yes rfl rfl rfl g5 (X_p (p_eql rfl rfl rfl) ?_)
        refine Lp rfl (p_pick_t rfl rfl g5 rfl) ?_
        refine La rfl rfl rfl ?_
        refine L_then (kp [12] rfl) ?_
        refine V_ret ?_
        refine Leave.nil (.tmp rfl .nil) ?_
        show Value.bool _ = Value.bool _
        congr 1
        first | (symm; rw [Bool.eq_false_iff]; intro hs9; simp only [goesB, Bool.and_eq_true, decide_eq_true_eq] at hs9; obtain ⟨s1, s2, s3, s4, s5, s6⟩ := hs9; first | omega | (simp_all; done)) | (simp_all [goesB]; done)
       intro g5; have g5' := g5; try simp only [td] at g5'
       iterate 8 refine L_no rfl rfl rfl g5 ?_
       refine Lp rfl (p_pick_f rfl rfl g5 rfl) ?_
       refine La rfl rfl rfl ?_
       refine L_then (kp [12] rfl) ?_
       refine V_ret ?_
       refine Leave.nil (.tmp rfl .nil) ?_
       show Value.bool _ = Value.bool _
       congr 1
       first | (symm; rw [Bool.eq_false_iff]; intro hs9; simp only [goesB, Bool.and_eq_true, decide_eq_true_eq] at hs9; obtain ⟨s1, s2, s3, s4, s5, s6⟩ := hs9; first | omega | (simp_all; done)) | (simp_all [goesB]; done)
      intro g4; have g4' := g4; try simp only [td] at g4'
      iterate 8 refine L_no rfl rfl rfl g4 ?_
      refine Lp rfl (p_pick_f rfl rfl g4 rfl) ?_
      refine Lm rfl rfl rfl ?_
      iterate 8 refine L_no rfl rfl rfl rfl ?_
      refine Lp rfl (p_pick_f rfl rfl rfl rfl) ?_
      refine La rfl rfl rfl ?_
      refine L_then (kp [12] rfl) ?_
      refine V_ret ?_
      refine Leave.nil (.tmp rfl .nil) ?_
      show Value.bool _ = Value.bool _
      congr 1
      first | (symm; rw [Bool.eq_false_iff]; intro hs9; simp only [goesB, Bool.and_eq_true, decide_eq_true_eq] at hs9; obtain ⟨s1, s2, s3, s4, s5, s6⟩ := hs9; first | omega | (simp_all; done)) | (simp_all [goesB]; done)
     intro g3; have g3' := g3; try simp only [td] at g3'
     iterate 8 refine L_no rfl rfl rfl g3 ?_
     refine Lp rfl (p_pick_f rfl rfl g3 rfl) ?_
     refine Lm rfl rfl rfl ?_
     iterate 8 refine L_no rfl rfl rfl rfl ?_
     refine Lp rfl (p_pick_f rfl rfl rfl rfl) ?_
     refine Lm rfl rfl rfl ?_
     iterate 8 refine L_no rfl rfl rfl rfl ?_
     refine Lp rfl (p_pick_f rfl rfl rfl rfl) ?_
     refine La rfl rfl rfl ?_
     refine L_then (kp [12] rfl) ?_
     refine V_ret ?_
     refine Leave.nil (.tmp rfl .nil) ?_
     show Value.bool _ = Value.bool _
     congr 1
     first | (symm; rw [Bool.eq_false_iff]; intro hs9; simp only [goesB, Bool.and_eq_true, decide_eq_true_eq] at hs9; obtain ⟨s1, s2, s3, s4, s5, s6⟩ := hs9; first | omega | (simp_all; done)) | (simp_all [goesB]; done)
    intro g2; have g2' := g2; try simp only [td] at g2'
    iterate 8 refine L_no rfl rfl rfl g2 ?_
    refine Lp rfl (p_pick_f rfl rfl g2 rfl) ?_
    refine Lm rfl rfl rfl ?_
    iterate 8 refine L_no rfl rfl rfl rfl ?_
    refine Lp rfl (p_pick_f rfl rfl rfl rfl) ?_
    refine Lm rfl rfl rfl ?_
    iterate 8 refine L_no rfl rfl rfl rfl ?_
    refine Lp rfl (p_pick_f rfl rfl rfl rfl) ?_
    refine Lm rfl rfl rfl ?_
    iterate 8 refine L_no rfl rfl rfl rfl ?_
    refine Lp rfl (p_pick_f rfl rfl rfl rfl) ?_
    refine La rfl rfl rfl ?_
    refine L_then (kp [12] rfl) ?_
    refine V_ret ?_
    refine Leave.nil (.tmp rfl .nil) ?_
    show Value.bool _ = Value.bool _
    congr 1
    first | (symm; rw [Bool.eq_false_iff]; intro hs9; simp only [goesB, Bool.and_eq_true, decide_eq_true_eq] at hs9; obtain ⟨s1, s2, s3, s4, s5, s6⟩ := hs9; first | omega | (simp_all; done)) | (simp_all [goesB]; done)
   intro g1; have g1' := g1; try simp only [td] at g1'
   iterate 8 refine L_no rfl rfl rfl g1 ?_
   refine Lp rfl (p_pick_f rfl rfl g1 rfl) ?_
   refine Lm rfl rfl rfl ?_
   iterate 8 refine L_no rfl rfl rfl rfl ?_
   refine Lp rfl (p_pick_f rfl rfl rfl rfl) ?_
   refine Lm rfl rfl rfl ?_
   iterate 8 refine L_no rfl rfl rfl rfl ?_
   refine Lp rfl (p_pick_f rfl rfl rfl rfl) ?_
   refine Lm rfl rfl rfl ?_
   iterate 8 refine L_no rfl rfl rfl rfl ?_
   refine Lp rfl (p_pick_f rfl rfl rfl rfl) ?_
   refine Lm rfl rfl rfl ?_
   iterate 8 refine L_no rfl rfl rfl rfl ?_
   refine Lp rfl (p_pick_f rfl rfl rfl rfl) ?_
   refine La rfl rfl rfl ?_
   refine L_then (kp [12] rfl) ?_
   refine V_ret ?_
   refine Leave.nil (.tmp rfl .nil) ?_
   show Value.bool _ = Value.bool _
   congr 1
   first | (symm; rw [Bool.eq_false_iff]; intro hs9; simp only [goesB, Bool.and_eq_true, decide_eq_true_eq] at hs9; obtain ⟨s1, s2, s3, s4, s5, s6⟩ := hs9; first | omega | (simp_all; done)) | (simp_all [goesB]; done)
  refine (.go (E' := [(3, _), (1, _), (0, _)]) rfl (.plain rfl) (w_alloc zr77 rfl) rfl ?_)
  rintro _ _ ⟨b6, hb6, rfl, rfl⟩
  refine ⟨(.cons rfl (.plain rfl) (rlA (vs := [_, _, _, _, _, _, _, _, _, _, _, _, _]) ag66 sz66 rfl rfl rfl) (.cons rfl (.plain rfl) (rlA (vs := [_, _, _]) ag30 sz30 rfl rfl rfl) (.cons rfl (.plain rfl) (rlA (vs := [_, _, _, _, _, _]) ag28 sz28 rfl rfl rfl) .nil))), ?_⟩
  refine D_wr (.go (E' := []) rfl (.plain rfl) (w_callP rfl rfl rfl (fun w hg => rforce_c d l _ p (Fl.ptS a) v _ w (hV.good hg) hV0 hd hB hp hfa (hl.good hg))) rfl ?_)
  rintro _ _ ⟨rfl, rfl⟩
  refine ⟨.nil, ?_⟩
  refine D_wr (.go (E' := []) rfl (.plain rfl) (ws (cs' := [_, _, _, _, _, _]) sz77 rfl rfl rfl rfl rfl rfl rfl) rfl ?_)
  rintro _ _ ⟨rfl, rfl⟩
  refine ⟨.nil, ?_⟩
  refine D_then (kp [10, 11, 13] rfl) ?_
  refine Vs rfl ?_
  refine Lp rfl (p_fieldo fo77_0 rfl rfl) ?_
  refine Lr rfl (rlA (vs := [_, _]) ag23 sz23 rfl rfl rfl) ?_
  refine Lp rfl (p_fieldo fo49_3 rfl rfl) ?_
  refine Lr rfl (rl ag3 rfl rfl rfl) ?_
  refine Lp rfl (p_fieldo fo49_3 rfl rfl) ?_
  refine Lr rfl (rl ag3 rfl rfl rfl) ?_
  first | refine Lp rfl (p_sub' rfl rfl rfl (by unfold InI; omega)) ?_ | refine Lp rfl (p_sub rfl rfl rfl) ?_
  refine Lc rfl rfl rfl rfl (fun w hg => rhas_c (forceT v d l p (Fl.ptS a)).x (b.vx - a.vx) w) ?_
  refine Lm rfl rfl rfl ?_
  refine L_cases (d := 29) rfl ?_ ?_
  ·intro g6; have g6' := g6; try simp only [td] at g6'
   refine L_yes rfl rfl rfl g6 (X_p (p_fieldo fo77_1 rfl rfl) ?_)
   refine L_yes rfl rfl rfl g6 (X_rd (rlA (vs := [_, _]) ag23 sz23 rfl rfl rfl) ?_)
   refine L_yes rfl rfl rfl g6 (X_p (p_fieldo fo49_4 rfl rfl) ?_)
   refine L_yes rfl rfl rfl g6 (X_rd (rl ag3 rfl rfl rfl) ?_)
   refine L_yes rfl rfl rfl g6 (X_p (p_fieldo fo49_4 rfl rfl) ?_)
   refine L_yes rfl rfl rfl g6 (X_rd (rl ag3 rfl rfl rfl) ?_)
   first | refine L_yes rfl rfl rfl g6 (X_p (p_sub' rfl rfl rfl (by unfold InI; omega)) ?_) | refine L_yes rfl rfl rfl g6 (X_p (p_sub rfl rfl rfl) ?_)
   refine L_yes rfl rfl rfl g6 (X_wr (w_callP rfl rfl rfl (fun w hg => rhas_c (forceT v d l p (Fl.ptS a)).y (b.vy - a.vy) w)) ?_)
   rintro _ _ ⟨rfl, rfl⟩
   refine Lp rfl (p_pick_t rfl rfl g6 rfl) ?_
   refine Lm rfl rfl rfl ?_
   refine L_cases (d := 39) rfl ?_ ?_
   ·intro g7; have g7' := g7; try simp only [td] at g7'
    refine L_yes rfl rfl rfl g7 (X_p (p_fieldo fo77_2 rfl rfl) ?_)
    refine L_yes rfl rfl rfl g7 (X_rd (rlA (vs := [_, _]) ag23 sz23 rfl rfl rfl) ?_)
    refine L_yes rfl rfl rfl g7 (X_p (p_fieldo fo49_5 rfl rfl) ?_)
    refine L_yes rfl rfl rfl g7 (X_rd (rl ag3 rfl rfl rfl) ?_)
    refine L_yes rfl rfl rfl g7 (X_p (p_fieldo fo49_5 rfl rfl) ?_)
    refine L_yes rfl rfl rfl g7 (X_rd (rl ag3 rfl rfl rfl) ?_)
    first | refine L_yes rfl rfl rfl g7 (X_p (p_sub' rfl rfl rfl (by unfold InI; omega)) ?_) | refine L_yes rfl rfl rfl g7 (X_p (p_sub rfl rfl rfl) ?_)
    refine L_yes rfl rfl rfl g7 (X_wr (w_callP rfl rfl rfl (fun w hg => rhas_c (forceT v d l p (Fl.ptS a)).z (b.vz - a.vz) w)) ?_)
    rintro _ _ ⟨rfl, rfl⟩
    refine Lp rfl (p_pick_t rfl rfl g7 rfl) ?_
    refine Lm rfl rfl rfl ?_
    refine L_cases (d := 49) rfl ?_ ?_
    ·intro g8; have g8' := g8; try simp only [td] at g8'
     refine L_yes rfl rfl rfl g8 (X_p (p_fieldo fo49_0 rfl rfl) ?_)
     refine L_yes rfl rfl rfl g8 (X_rd (rl ag3 rfl rfl rfl) ?_)
     refine L_yes rfl rfl rfl g8 (X_p (p_fieldo fo49_0 rfl rfl) ?_)
     refine L_yes rfl rfl rfl g8 (X_rd (rl ag3 rfl rfl rfl) ?_)
     refine L_yes rfl rfl rfl g8 (X_p (p_fieldo fo49_3 rfl rfl) ?_)
     refine L_yes rfl rfl rfl g8 (X_rd (rl ag3 rfl rfl rfl) ?_)
     first | refine L_yes rfl rfl rfl g8 (X_p (p_add' rfl rfl rfl (by unfold InI; omega)) ?_) | refine L_yes rfl rfl rfl g8 (X_p (p_add rfl rfl rfl) ?_)
     refine L_yes rfl rfl rfl g8 (X_p (p_eql rfl rfl rfl) ?_)
     refine Lp rfl (p_pick_t rfl rfl g8 rfl) ?_
     refine Lm rfl rfl rfl ?_
     refine L_cases (d := 59) rfl ?_ ?_
     ·intro g9; have g9' := g9; try simp only [td] at g9'
      refine L_yes rfl rfl rfl g9 (X_p (p_fieldo fo49_1 rfl rfl) ?_)
      refine L_yes rfl rfl rfl g9 (X_rd (rl ag3 rfl rfl rfl) ?_)
      refine L_yes rfl rfl rfl g9 (X_p (p_fieldo fo49_1 rfl rfl) ?_)
      refine L_yes rfl rfl rfl g9 (X_rd (rl ag3 rfl rfl rfl) ?_)
      refine L_yes rfl rfl rfl g9 (X_p (p_fieldo fo49_4 rfl rfl) ?_)
      refine L_yes rfl rfl rfl g9 (X_rd (rl ag3 rfl rfl rfl) ?_)
      first | refine L_yes rfl rfl rfl g9 (X_p (p_add' rfl rfl rfl (by unfold InI; omega)) ?_) | refine L_yes rfl rfl rfl g9 (X_p (p_add rfl rfl rfl) ?_)
      refine L_yes rfl rfl rfl g9 (X_p (p_eql rfl rfl rfl) ?_)
      refine Lp rfl (p_pick_t rfl rfl g9 rfl) ?_
      refine Lm rfl rfl rfl ?_
      refine L_cases (d := 69) rfl ?_ ?_
      ·intro g10; have g10' := g10; try simp only [td] at g10'
       refine L_yes rfl rfl rfl g10 (X_p (p_fieldo fo49_2 rfl rfl) ?_)
       refine L_yes rfl rfl rfl g10 (X_rd (rl ag3 rfl rfl rfl) ?_)
       refine L_yes rfl rfl rfl g10 (X_p (p_fieldo fo49_2 rfl rfl) ?_)
       refine L_yes rfl rfl rfl g10 (X_rd (rl ag3 rfl rfl rfl) ?_)
       refine L_yes rfl rfl rfl g10 (X_p (p_fieldo fo49_5 rfl rfl) ?_)
       refine L_yes rfl rfl rfl g10 (X_rd (rl ag3 rfl rfl rfl) ?_)
       first | refine L_yes rfl rfl rfl g10 (X_p (p_add' rfl rfl rfl (by unfold InI; omega)) ?_) | refine L_yes rfl rfl rfl g10 (X_p (p_add rfl rfl rfl) ?_)
       refine L_yes rfl rfl rfl g10 (X_p (p_eql rfl rfl rfl) ?_)
       refine Lp rfl (p_pick_t rfl rfl g10 rfl) ?_
       refine La rfl rfl rfl ?_
       refine L_then (kp [12] rfl) ?_
       refine V_ret ?_
       refine Leave.nil (.tmp rfl .nil) ?_
       show Value.bool _ = Value.bool _
       congr 1
       first | (symm; rw [Bool.eq_false_iff]; intro hs9; simp only [goesB, Bool.and_eq_true, decide_eq_true_eq] at hs9; obtain ⟨s1, s2, s3, s4, s5, s6⟩ := hs9; first | omega | (simp_all; done)) | (simp_all [goesB]; done)
      intro g10; have g10' := g10; try simp only [td] at g10'
      iterate 8 refine L_no rfl rfl rfl g10 ?_
      refine Lp rfl (p_pick_f rfl rfl g10 rfl) ?_
      refine La rfl rfl rfl ?_
      refine L_then (kp [12] rfl) ?_
      refine V_ret ?_
      refine Leave.nil (.tmp rfl .nil) ?_
      show Value.bool _ = Value.bool _
      congr 1
      first | (symm; rw [Bool.eq_false_iff]; intro hs9; simp only [goesB, Bool.and_eq_true, decide_eq_true_eq] at hs9; obtain ⟨s1, s2, s3, s4, s5, s6⟩ := hs9; first | omega | (simp_all; done)) | (simp_all [goesB]; done)
     intro g9; have g9' := g9; try simp only [td] at g9'
     iterate 8 refine L_no rfl rfl rfl g9 ?_
     refine Lp rfl (p_pick_f rfl rfl g9 rfl) ?_
     refine Lm rfl rfl rfl ?_
     iterate 8 refine L_no rfl rfl rfl rfl ?_
     refine Lp rfl (p_pick_f rfl rfl rfl rfl) ?_
     refine La rfl rfl rfl ?_
     refine L_then (kp [12] rfl) ?_
     refine V_ret ?_
     refine Leave.nil (.tmp rfl .nil) ?_
     show Value.bool _ = Value.bool _
     congr 1
     first | (symm; rw [Bool.eq_false_iff]; intro hs9; simp only [goesB, Bool.and_eq_true, decide_eq_true_eq] at hs9; obtain ⟨s1, s2, s3, s4, s5, s6⟩ := hs9; first | omega | (simp_all; done)) | (simp_all [goesB]; done)
    intro g8; have g8' := g8; try simp only [td] at g8'
    iterate 8 refine L_no rfl rfl rfl g8 ?_
    refine Lp rfl (p_pick_f rfl rfl g8 rfl) ?_
    refine Lm rfl rfl rfl ?_
    iterate 8 refine L_no rfl rfl rfl rfl ?_
    refine Lp rfl (p_pick_f rfl rfl rfl rfl) ?_
    refine Lm rfl rfl rfl ?_
    iterate 8 refine L_no rfl rfl rfl rfl ?_
    refine Lp rfl (p_pick_f rfl rfl rfl rfl) ?_
    refine La rfl rfl rfl ?_
    refine L_then (kp [12] rfl) ?_
    refine V_ret ?_
    refine Leave.nil (.tmp rfl .nil) ?_
    show Value.bool _ = Value.bool _
    congr 1
    first | (symm; rw [Bool.eq_false_iff]; intro hs9; simp only [goesB, Bool.and_eq_true, decide_eq_true_eq] at hs9; obtain ⟨s1, s2, s3, s4, s5, s6⟩ := hs9; first | omega | (simp_all; done)) | (simp_all [goesB]; done)
   intro g7; have g7' := g7; try simp only [td] at g7'
   iterate 8 refine L_no rfl rfl rfl g7 ?_
   refine Lp rfl (p_pick_f rfl rfl g7 rfl) ?_
   refine Lm rfl rfl rfl ?_
   iterate 8 refine L_no rfl rfl rfl rfl ?_
   refine Lp rfl (p_pick_f rfl rfl rfl rfl) ?_
   refine Lm rfl rfl rfl ?_
   iterate 8 refine L_no rfl rfl rfl rfl ?_
   refine Lp rfl (p_pick_f rfl rfl rfl rfl) ?_
   refine Lm rfl rfl rfl ?_
   iterate 8 refine L_no rfl rfl rfl rfl ?_
   refine Lp rfl (p_pick_f rfl rfl rfl rfl) ?_
   refine La rfl rfl rfl ?_
   refine L_then (kp [12] rfl) ?_
   refine V_ret ?_
   refine Leave.nil (.tmp rfl .nil) ?_
   show Value.bool _ = Value.bool _
   congr 1
   first | (symm; rw [Bool.eq_false_iff]; intro hs9; simp only [goesB, Bool.and_eq_true, decide_eq_true_eq] at hs9; obtain ⟨s1, s2, s3, s4, s5, s6⟩ := hs9; first | omega | (simp_all; done)) | (simp_all [goesB]; done)
  intro g6; have g6' := g6; try simp only [td] at g6'
  iterate 8 refine L_no rfl rfl rfl g6 ?_
  refine Lp rfl (p_pick_f rfl rfl g6 rfl) ?_
  refine Lm rfl rfl rfl ?_
  iterate 8 refine L_no rfl rfl rfl rfl ?_
  refine Lp rfl (p_pick_f rfl rfl rfl rfl) ?_
  refine Lm rfl rfl rfl ?_
  iterate 8 refine L_no rfl rfl rfl rfl ?_
  refine Lp rfl (p_pick_f rfl rfl rfl rfl) ?_
  refine Lm rfl rfl rfl ?_
  iterate 8 refine L_no rfl rfl rfl rfl ?_
  refine Lp rfl (p_pick_f rfl rfl rfl rfl) ?_
  refine Lm rfl rfl rfl ?_
  iterate 8 refine L_no rfl rfl rfl rfl ?_
  refine Lp rfl (p_pick_f rfl rfl rfl rfl) ?_
  refine La rfl rfl rfl ?_
  refine L_then (kp [12] rfl) ?_
  refine V_ret ?_
  refine Leave.nil (.tmp rfl .nil) ?_
  show Value.bool _ = Value.bool _
  congr 1
  first | (symm; rw [Bool.eq_false_iff]; intro hs9; simp only [goesB, Bool.and_eq_true, decide_eq_true_eq] at hs9; obtain ⟨s1, s2, s3, s4, s5, s6⟩ := hs9; first | omega | (simp_all; done)) | (simp_all [goesB]; done)
 refine (.go (E' := [(4, _), (3, _), (1, _), (0, _)]) rfl (.plain rfl) (w_alloc zr77 rfl) rfl ?_)
 rintro _ _ ⟨b6, hb6, rfl, rfl⟩
 refine ⟨(.cons rfl (.plain rfl) (rlA (vs := [_, _, _, _, _, _]) ag49 sz49 rfl rfl rfl) (.cons rfl (.plain rfl) (rlA (vs := [_, _, _, _, _, _, _, _, _, _, _, _, _]) ag66 sz66 rfl rfl rfl) (.cons rfl (.plain rfl) (rlA (vs := [_, _, _]) ag30 sz30 rfl rfl rfl) (.cons rfl (.plain rfl) (rlA (vs := [_, _, _, _, _, _]) ag28 sz28 rfl rfl rfl) .nil)))), ?_⟩
 refine D_wr (.go (E' := [(3, _), (1, _), (0, _)]) rfl (.plain rfl) (w_callP rfl rfl rfl (fun w hg => ralone_c a w)) rfl ?_)
 rintro _ _ ⟨rfl, rfl⟩
 refine ⟨(.cons rfl (.plain rfl) (rlA (vs := [_, _, _, _, _, _, _, _, _, _, _, _, _]) ag66 sz66 rfl rfl rfl) (.cons rfl (.plain rfl) (rlA (vs := [_, _, _]) ag30 sz30 rfl rfl rfl) (.cons rfl (.plain rfl) (rlA (vs := [_, _, _, _, _, _]) ag28 sz28 rfl rfl rfl) .nil))), ?_⟩
 refine D_wr (.go (E' := []) rfl (.plain rfl) (w_callP rfl rfl rfl (fun w hg => rforce_c d l _ p (Fl.ptS a) v _ w (hV.good hg) hV0 hd hB hp hfa (hl.good hg))) rfl ?_)
 rintro _ _ ⟨rfl, rfl⟩
 refine ⟨.nil, ?_⟩
 refine D_wr (.go (E' := []) rfl (.plain rfl) (ws (cs' := [_, _, _, _, _, _]) sz77 rfl rfl rfl rfl rfl rfl rfl) rfl ?_)
 rintro _ _ ⟨rfl, rfl⟩
 refine ⟨.nil, ?_⟩
 refine D_then (kp [10, 11, 13] rfl) ?_
 refine Vs rfl ?_
 refine Lp rfl (p_fieldo fo77_0 rfl rfl) ?_
 refine Lr rfl (rlA (vs := [_, _]) ag23 sz23 rfl rfl rfl) ?_
 refine Lp rfl (p_fieldo fo49_3 rfl rfl) ?_
 refine Lr rfl (rl ag3 rfl rfl rfl) ?_
 refine Lp rfl (p_fieldo fo49_3 rfl rfl) ?_
 refine Lr rfl (rl ag3 rfl rfl rfl) ?_
 first | refine Lp rfl (p_sub' rfl rfl rfl (by unfold InI; omega)) ?_ | refine Lp rfl (p_sub rfl rfl rfl) ?_
 refine Lc rfl rfl rfl rfl (fun w hg => rhas_c (forceT v d l p (Fl.ptS a)).x (b.vx - a.vx) w) ?_
 refine Lm rfl rfl rfl ?_
 refine L_cases (d := 29) rfl ?_ ?_
 ·intro g11; have g11' := g11; try simp only [td] at g11'
  refine L_yes rfl rfl rfl g11 (X_p (p_fieldo fo77_1 rfl rfl) ?_)
  refine L_yes rfl rfl rfl g11 (X_rd (rlA (vs := [_, _]) ag23 sz23 rfl rfl rfl) ?_)
  refine L_yes rfl rfl rfl g11 (X_p (p_fieldo fo49_4 rfl rfl) ?_)
  refine L_yes rfl rfl rfl g11 (X_rd (rl ag3 rfl rfl rfl) ?_)
  refine L_yes rfl rfl rfl g11 (X_p (p_fieldo fo49_4 rfl rfl) ?_)
  refine L_yes rfl rfl rfl g11 (X_rd (rl ag3 rfl rfl rfl) ?_)
  first | refine L_yes rfl rfl rfl g11 (X_p (p_sub' rfl rfl rfl (by unfold InI; omega)) ?_) | refine L_yes rfl rfl rfl g11 (X_p (p_sub rfl rfl rfl) ?_)
  refine L_yes rfl rfl rfl g11 (X_wr (w_callP rfl rfl rfl (fun w hg => rhas_c (forceT v d l p (Fl.ptS a)).y (b.vy - a.vy) w)) ?_)
  rintro _ _ ⟨rfl, rfl⟩
  refine Lp rfl (p_pick_t rfl rfl g11 rfl) ?_
  refine Lm rfl rfl rfl ?_
  refine L_cases (d := 39) rfl ?_ ?_
  ·intro g12; have g12' := g12; try simp only [td] at g12'
   refine L_yes rfl rfl rfl g12 (X_p (p_fieldo fo77_2 rfl rfl) ?_)
   refine L_yes rfl rfl rfl g12 (X_rd (rlA (vs := [_, _]) ag23 sz23 rfl rfl rfl) ?_)
   refine L_yes rfl rfl rfl g12 (X_p (p_fieldo fo49_5 rfl rfl) ?_)
   refine L_yes rfl rfl rfl g12 (X_rd (rl ag3 rfl rfl rfl) ?_)
   refine L_yes rfl rfl rfl g12 (X_p (p_fieldo fo49_5 rfl rfl) ?_)
   refine L_yes rfl rfl rfl g12 (X_rd (rl ag3 rfl rfl rfl) ?_)
   first | refine L_yes rfl rfl rfl g12 (X_p (p_sub' rfl rfl rfl (by unfold InI; omega)) ?_) | refine L_yes rfl rfl rfl g12 (X_p (p_sub rfl rfl rfl) ?_)
   refine L_yes rfl rfl rfl g12 (X_wr (w_callP rfl rfl rfl (fun w hg => rhas_c (forceT v d l p (Fl.ptS a)).z (b.vz - a.vz) w)) ?_)
   rintro _ _ ⟨rfl, rfl⟩
   refine Lp rfl (p_pick_t rfl rfl g12 rfl) ?_
   refine Lm rfl rfl rfl ?_
   refine L_cases (d := 49) rfl ?_ ?_
   ·intro g13; have g13' := g13; try simp only [td] at g13'
    refine L_yes rfl rfl rfl g13 (X_p (p_fieldo fo49_0 rfl rfl) ?_)
    refine L_yes rfl rfl rfl g13 (X_rd (rl ag3 rfl rfl rfl) ?_)
    refine L_yes rfl rfl rfl g13 (X_p (p_fieldo fo49_0 rfl rfl) ?_)
    refine L_yes rfl rfl rfl g13 (X_rd (rl ag3 rfl rfl rfl) ?_)
    refine L_yes rfl rfl rfl g13 (X_p (p_fieldo fo49_3 rfl rfl) ?_)
    refine L_yes rfl rfl rfl g13 (X_rd (rl ag3 rfl rfl rfl) ?_)
    first | refine L_yes rfl rfl rfl g13 (X_p (p_add' rfl rfl rfl (by unfold InI; omega)) ?_) | refine L_yes rfl rfl rfl g13 (X_p (p_add rfl rfl rfl) ?_)
    refine L_yes rfl rfl rfl g13 (X_p (p_eql rfl rfl rfl) ?_)
    refine Lp rfl (p_pick_t rfl rfl g13 rfl) ?_
    refine Lm rfl rfl rfl ?_
    refine L_cases (d := 59) rfl ?_ ?_
    ·intro g14; have g14' := g14; try simp only [td] at g14'
     refine L_yes rfl rfl rfl g14 (X_p (p_fieldo fo49_1 rfl rfl) ?_)
     refine L_yes rfl rfl rfl g14 (X_rd (rl ag3 rfl rfl rfl) ?_)
     refine L_yes rfl rfl rfl g14 (X_p (p_fieldo fo49_1 rfl rfl) ?_)
     refine L_yes rfl rfl rfl g14 (X_rd (rl ag3 rfl rfl rfl) ?_)
     refine L_yes rfl rfl rfl g14 (X_p (p_fieldo fo49_4 rfl rfl) ?_)
     refine L_yes rfl rfl rfl g14 (X_rd (rl ag3 rfl rfl rfl) ?_)
     first | refine L_yes rfl rfl rfl g14 (X_p (p_add' rfl rfl rfl (by unfold InI; omega)) ?_) | refine L_yes rfl rfl rfl g14 (X_p (p_add rfl rfl rfl) ?_)
     refine L_yes rfl rfl rfl g14 (X_p (p_eql rfl rfl rfl) ?_)
     refine Lp rfl (p_pick_t rfl rfl g14 rfl) ?_
     refine Lm rfl rfl rfl ?_
     refine L_cases (d := 69) rfl ?_ ?_
     ·intro g15; have g15' := g15; try simp only [td] at g15'
      refine L_yes rfl rfl rfl g15 (X_p (p_fieldo fo49_2 rfl rfl) ?_)
      refine L_yes rfl rfl rfl g15 (X_rd (rl ag3 rfl rfl rfl) ?_)
      refine L_yes rfl rfl rfl g15 (X_p (p_fieldo fo49_2 rfl rfl) ?_)
      refine L_yes rfl rfl rfl g15 (X_rd (rl ag3 rfl rfl rfl) ?_)
      refine L_yes rfl rfl rfl g15 (X_p (p_fieldo fo49_5 rfl rfl) ?_)
      refine L_yes rfl rfl rfl g15 (X_rd (rl ag3 rfl rfl rfl) ?_)
      first | refine L_yes rfl rfl rfl g15 (X_p (p_add' rfl rfl rfl (by unfold InI; omega)) ?_) | refine L_yes rfl rfl rfl g15 (X_p (p_add rfl rfl rfl) ?_)
      refine L_yes rfl rfl rfl g15 (X_p (p_eql rfl rfl rfl) ?_)
      refine Lp rfl (p_pick_t rfl rfl g15 rfl) ?_
      refine La rfl rfl rfl ?_
      refine L_then (kp [12] rfl) ?_
      refine V_ret ?_
      refine Leave.nil (.tmp rfl .nil) ?_
      show Value.bool _ = Value.bool _
      congr 1
      first | (symm; rw [Bool.eq_false_iff]; intro hs9; simp only [goesB, Bool.and_eq_true, decide_eq_true_eq] at hs9; obtain ⟨s1, s2, s3, s4, s5, s6⟩ := hs9; first | omega | (simp_all; done)) | (simp_all [goesB]; done)
     intro g15; have g15' := g15; try simp only [td] at g15'
     iterate 8 refine L_no rfl rfl rfl g15 ?_
     refine Lp rfl (p_pick_f rfl rfl g15 rfl) ?_
     refine La rfl rfl rfl ?_
     refine L_then (kp [12] rfl) ?_
     refine V_ret ?_
     refine Leave.nil (.tmp rfl .nil) ?_
     show Value.bool _ = Value.bool _
     congr 1
     first | (symm; rw [Bool.eq_false_iff]; intro hs9; simp only [goesB, Bool.and_eq_true, decide_eq_true_eq] at hs9; obtain ⟨s1, s2, s3, s4, s5, s6⟩ := hs9; first | omega | (simp_all; done)) | (simp_all [goesB]; done)
    intro g14; have g14' := g14; try simp only [td] at g14'
    iterate 8 refine L_no rfl rfl rfl g14 ?_
    refine Lp rfl (p_pick_f rfl rfl g14 rfl) ?_
    refine Lm rfl rfl rfl ?_
    iterate 8 refine L_no rfl rfl rfl rfl ?_
    refine Lp rfl (p_pick_f rfl rfl rfl rfl) ?_
    refine La rfl rfl rfl ?_
    refine L_then (kp [12] rfl) ?_
    refine V_ret ?_
    refine Leave.nil (.tmp rfl .nil) ?_
    show Value.bool _ = Value.bool _
    congr 1
    first | (symm; rw [Bool.eq_false_iff]; intro hs9; simp only [goesB, Bool.and_eq_true, decide_eq_true_eq] at hs9; obtain ⟨s1, s2, s3, s4, s5, s6⟩ := hs9; first | omega | (simp_all; done)) | (simp_all [goesB]; done)
   intro g13; have g13' := g13; try simp only [td] at g13'
   iterate 8 refine L_no rfl rfl rfl g13 ?_
   refine Lp rfl (p_pick_f rfl rfl g13 rfl) ?_
   refine Lm rfl rfl rfl ?_
   iterate 8 refine L_no rfl rfl rfl rfl ?_
   refine Lp rfl (p_pick_f rfl rfl rfl rfl) ?_
   refine Lm rfl rfl rfl ?_
   iterate 8 refine L_no rfl rfl rfl rfl ?_
   refine Lp rfl (p_pick_f rfl rfl rfl rfl) ?_
   refine La rfl rfl rfl ?_
   refine L_then (kp [12] rfl) ?_
   refine V_ret ?_
   refine Leave.nil (.tmp rfl .nil) ?_
   show Value.bool _ = Value.bool _
   congr 1
   first | (symm; rw [Bool.eq_false_iff]; intro hs9; simp only [goesB, Bool.and_eq_true, decide_eq_true_eq] at hs9; obtain ⟨s1, s2, s3, s4, s5, s6⟩ := hs9; first | omega | (simp_all; done)) | (simp_all [goesB]; done)
  intro g12; have g12' := g12; try simp only [td] at g12'
  iterate 8 refine L_no rfl rfl rfl g12 ?_
  refine Lp rfl (p_pick_f rfl rfl g12 rfl) ?_
  refine Lm rfl rfl rfl ?_
  iterate 8 refine L_no rfl rfl rfl rfl ?_
  refine Lp rfl (p_pick_f rfl rfl rfl rfl) ?_
  refine Lm rfl rfl rfl ?_
  iterate 8 refine L_no rfl rfl rfl rfl ?_
  refine Lp rfl (p_pick_f rfl rfl rfl rfl) ?_
  refine Lm rfl rfl rfl ?_
  iterate 8 refine L_no rfl rfl rfl rfl ?_
  refine Lp rfl (p_pick_f rfl rfl rfl rfl) ?_
  refine La rfl rfl rfl ?_
  refine L_then (kp [12] rfl) ?_
  refine V_ret ?_
  refine Leave.nil (.tmp rfl .nil) ?_
  show Value.bool _ = Value.bool _
  congr 1
  first | (symm; rw [Bool.eq_false_iff]; intro hs9; simp only [goesB, Bool.and_eq_true, decide_eq_true_eq] at hs9; obtain ⟨s1, s2, s3, s4, s5, s6⟩ := hs9; first | omega | (simp_all; done)) | (simp_all [goesB]; done)
 intro g11; have g11' := g11; try simp only [td] at g11'
 iterate 8 refine L_no rfl rfl rfl g11 ?_
 refine Lp rfl (p_pick_f rfl rfl g11 rfl) ?_
 refine Lm rfl rfl rfl ?_
 iterate 8 refine L_no rfl rfl rfl rfl ?_
 refine Lp rfl (p_pick_f rfl rfl rfl rfl) ?_
 refine Lm rfl rfl rfl ?_
 iterate 8 refine L_no rfl rfl rfl rfl ?_
 refine Lp rfl (p_pick_f rfl rfl rfl rfl) ?_
 refine Lm rfl rfl rfl ?_
 iterate 8 refine L_no rfl rfl rfl rfl ?_
 refine Lp rfl (p_pick_f rfl rfl rfl rfl) ?_
 refine Lm rfl rfl rfl ?_
 iterate 8 refine L_no rfl rfl rfl rfl ?_
 refine Lp rfl (p_pick_f rfl rfl rfl rfl) ?_
 refine La rfl rfl rfl ?_
 refine L_then (kp [12] rfl) ?_
 refine V_ret ?_
 refine Leave.nil (.tmp rfl .nil) ?_
 show Value.bool _ = Value.bool _
 congr 1
 first | (symm; rw [Bool.eq_false_iff]; intro hs9; simp only [goesB, Bool.and_eq_true, decide_eq_true_eq] at hs9; obtain ⟨s1, s2, s3, s4, s5, s6⟩ := hs9; first | omega | (simp_all; done)) | (simp_all [goesB]; done)
theorem rOwnE_c (v : Veh) (d : Dir) (l : List Fl.Band) (av pv qv bv : Value) (w : World) (hv : VehR w (VehV v av pv qv) v) (hl : BdsR w bv l) (q : List Fl.Pt) (x : Value) (hq : PtsR w x q) (h : askedF v d l ≠ 0) : FnP Tryz.prog 5 [VehV v av pv qv, .agg #[.int .i64 d.x, .int .i64 d.y, .int .i64 d.z], bv, x] w (.tuple #[.int .i64 (ownI v d l q), .int .i64 (ownE v d l q)]) := by
 have hL := hl
 obtain ⟨ba, bc, rfl, hbc, hbe⟩ := hl.sl.ex
 simp only [List.length_map] at hL ⊢
 have hQ := hq
 obtain ⟨pa, pc, rfl, hpc, hpe⟩ := hq.sl.ex
 simp only [List.length_map] at hQ hpc hq ⊢
 refine fn_pure Tryz.func5 rfl (by kernel_rfl) Tryz.ntmps5 Tryz.results5 rfl ?_
 refine Vs rfl ?_
 refine Lw rfl (w_box rfl rfl) ?_
 rintro _ _ ⟨b1, hb1, rfl, rfl⟩
 refine Lw rfl (w_box rfl rfl) ?_
 rintro _ _ ⟨b2, hb2, rfl, rfl⟩
 iterate 2 refine La rfl rfl rfl ?_
 refine L_then (kp [2, 3, 4, 5] rfl) ?_
 refine Vs rfl ?_
 refine Lr rfl (rlA (vs := [_, _, _, _, _, _]) ag28 sz28 rfl rfl rfl) ?_
 refine Lr rfl (rlA (vs := [_, _, _]) ag30 sz30 rfl rfl rfl) ?_
 refine Lm rfl rfl rfl ?_
 refine Lc rfl rfl rfl rfl (fun w hg => rasked_c v d l _ _ w (hv.good hg) (hL.good hg)) ?_
 refine La rfl rfl rfl ?_
 refine L_then (kp [2, 3, 4, 5, 10] rfl) ?_
 refine V_seq ?_
 refine Vs rfl ?_
 refine Lm rfl rfl rfl ?_
 refine Lp rfl (p_eql rfl rfl rfl) ?_
 refine L_then (kp [2, 3, 4, 5, 10, 17] rfl) ?_
 refine V_cond_f rfl (decide_eq_false h) ?_
 refine V_skip (then_n ?_)
 refine V_seq ?_
 refine Vs rfl ?_
 refine Lm rfl rfl rfl ?_
 refine Lp rfl (p_neq rfl rfl rfl) ?_
 refine L_then (kp [2, 3, 4, 5, 10, 21] rfl) ?_
 refine V_cond_t rfl (decide_eq_true h) ?_
 refine Vs rfl ?_
 refine Lm rfl rfl rfl ?_
 iterate 2 refine La rfl rfl rfl ?_
 refine L_then (kp [8, 9] rfl) ?_
 refine V_ret (then_r ?_)
 refine Leave.nil (.tmp rfl (.tmp rfl .nil)) ?_
 rw [own_bad (by rw [ownE_1 h]; exact h), ownE_1 h]; rfl
theorem rOwnB_c (v : Veh) (d : Dir) (l : List Fl.Band) (av pv qv bv : Value) (w : World) (hv : VehR w (VehV v av pv qv) v) (hl : BdsR w bv l) (q : List Fl.Pt) (x : Value) (hq : PtsR w x q) (h : askedF v d l = 0) (hs : strayE q ≠ 0) : FnP Tryz.prog 5 [VehV v av pv qv, .agg #[.int .i64 d.x, .int .i64 d.y, .int .i64 d.z], bv, x] w (.tuple #[.int .i64 (ownI v d l q), .int .i64 (ownE v d l q)]) := by
 have hL := hl
 obtain ⟨ba, bc, rfl, hbc, hbe⟩ := hl.sl.ex
 simp only [List.length_map] at hL ⊢
 have hQ := hq
 obtain ⟨pa, pc, rfl, hpc, hpe⟩ := hq.sl.ex
 simp only [List.length_map] at hQ hpc hq ⊢
 refine fn_pure Tryz.func5 rfl (by kernel_rfl) Tryz.ntmps5 Tryz.results5 rfl ?_
 refine Vs rfl ?_
 refine Lw rfl (w_box rfl rfl) ?_
 rintro _ _ ⟨b1, hb1, rfl, rfl⟩
 refine Lw rfl (w_box rfl rfl) ?_
 rintro _ _ ⟨b2, hb2, rfl, rfl⟩
 iterate 2 refine La rfl rfl rfl ?_
 refine L_then (kp [2, 3, 4, 5] rfl) ?_
 refine Vs rfl ?_
 refine Lr rfl (rlA (vs := [_, _, _, _, _, _]) ag28 sz28 rfl rfl rfl) ?_
 refine Lr rfl (rlA (vs := [_, _, _]) ag30 sz30 rfl rfl rfl) ?_
 refine Lm rfl rfl rfl ?_
 refine Lc rfl rfl rfl rfl (fun w hg => rasked_c v d l _ _ w (hv.good hg) (hL.good hg)) ?_
 refine La rfl rfl rfl ?_
 refine L_then (kp [2, 3, 4, 5, 10] rfl) ?_
 refine V_seq ?_
 refine Vs rfl ?_
 refine Lm rfl rfl rfl ?_
 refine Lp rfl (p_eql rfl rfl rfl) ?_
 refine L_then (kp [2, 3, 4, 5, 10, 17] rfl) ?_
 refine V_cond_t rfl (decide_eq_true h) ?_
 refine V_region rfl ?_
 refine Lm rfl rfl rfl ?_
 refine Lc rfl rfl rfl rfl (fun w hg => rpath_c q _ w (hQ.good hg)) ?_
 refine La rfl rfl rfl ?_
 refine L_then (kp [2, 3, 4, 5, 10] rfl) ?_
 refine V_seq ?_
 refine Vs rfl ?_
 refine Lm rfl rfl rfl ?_
 refine Lp rfl (p_neq rfl rfl rfl) ?_
 refine L_then (kp [2, 3, 4, 5, 10, 21] rfl) ?_
 refine V_cond_t rfl (decide_eq_true hs) ?_
 refine Vs rfl ?_
 refine Lm rfl rfl rfl ?_
 iterate 2 refine La rfl rfl rfl ?_
 refine L_then (kp [8, 9] rfl) ?_
 refine V_ret (then_r ?_)
 refine Leave.nil (.tmp rfl (.tmp rfl .nil)) ?_
 rw [own_bad (by rw [ownE_2 h]; exact hs), ownE_2 h]; rfl
theorem rOwnC_c (v : Veh) (d : Dir) (l : List Fl.Band) (av pv qv bv : Value) (w : World) (hv : VehR w (VehV v av pv qv) v) (hl : BdsR w bv l) (q : List Fl.Pt) (x : Value) (hq : PtsR w x q) (h : askedF v d l = 0) (hs : strayE q = 0) (hz : ptAt q 0 ≠ ptZ) : FnP Tryz.prog 5 [VehV v av pv qv, .agg #[.int .i64 d.x, .int .i64 d.y, .int .i64 d.z], bv, x] w (.tuple #[.int .i64 (ownI v d l q), .int .i64 (ownE v d l q)]) := by
 have hL := hl
 obtain ⟨ba, bc, rfl, hbc, hbe⟩ := hl.sl.ex
 simp only [List.length_map] at hL ⊢
 have hQ := hq
 obtain ⟨pa, pc, rfl, hpc, hpe⟩ := hq.sl.ex
 simp only [List.length_map] at hQ hpc hq ⊢
 obtain ⟨⟨hl1, hl2⟩, hfar⟩ := stray_0 hs
 obtain ⟨tb0, etb0, hc0⟩ := hpe 0 _ (getD_cells (d := ptZ) (by omega))
 subst etb0
 have he0 : ownE v d l q = 0 := (ownE_2 h).trans hs
 refine fn_pure Tryz.func5 rfl (by kernel_rfl) Tryz.ntmps5 Tryz.results5 rfl ?_
 refine Vs rfl ?_
 refine Lw rfl (w_box rfl rfl) ?_
 rintro _ _ ⟨b1, hb1, rfl, rfl⟩
 refine Lw rfl (w_box rfl rfl) ?_
 rintro _ _ ⟨b2, hb2, rfl, rfl⟩
 iterate 2 refine La rfl rfl rfl ?_
 refine L_then (kp [2, 3, 4, 5] rfl) ?_
 refine Vs rfl ?_
 refine Lr rfl (rlA (vs := [_, _, _, _, _, _]) ag28 sz28 rfl rfl rfl) ?_
 refine Lr rfl (rlA (vs := [_, _, _]) ag30 sz30 rfl rfl rfl) ?_
 refine Lm rfl rfl rfl ?_
 refine Lc rfl rfl rfl rfl (fun w hg => rasked_c v d l _ _ w (hv.good hg) (hL.good hg)) ?_
 refine La rfl rfl rfl ?_
 refine L_then (kp [2, 3, 4, 5, 10] rfl) ?_
 refine V_seq ?_
 refine Vs rfl ?_
 refine Lm rfl rfl rfl ?_
 refine Lp rfl (p_eql rfl rfl rfl) ?_
 refine L_then (kp [2, 3, 4, 5, 10, 17] rfl) ?_
 refine V_cond_t rfl (decide_eq_true h) ?_
 refine V_region rfl ?_
 refine Lm rfl rfl rfl ?_
 refine Lc rfl rfl rfl rfl (fun w hg => rpath_c q _ w (hQ.good hg)) ?_
 refine La rfl rfl rfl ?_
 refine L_then (kp [2, 3, 4, 5, 10] rfl) ?_
 refine V_seq ?_
 refine Vs rfl ?_
 refine Lm rfl rfl rfl ?_
 refine Lp rfl (p_neq rfl rfl rfl) ?_
 refine L_then (kp [2, 3, 4, 5, 10, 21] rfl) ?_
 refine V_cond_f rfl (decide_eq_false (fun k => k hs)) ?_
 refine V_skip (then_n ?_)
 refine V_seq ?_
 refine Vs rfl ?_
 refine Lm rfl rfl rfl ?_
 refine Lp rfl (p_idx es34 rfl rfl rfl (by omega) (by omega)) ?_
 refine Lr rfl (r_loadBA ag49 sz49 rfl rfl hc0 rfl List.not_mem_nil) ?_
 refine Lp rfl (p_build (r := [_, _, _, _, _, _]) pl49 zr49 rfl rfl rfl) ?_
 refine Lp rfl (p_neS lv49 ag49 eg49 rfl rfl rfl rfl rfl) ?_
 refine L_then (kp [2, 3, 4, 5, 27] rfl) ?_
 refine V_cond_t rfl (pt_ne1 hz) ?_
 refine Vs rfl ?_
 iterate 2 refine La rfl rfl rfl ?_
 refine L_then (kp [8, 9] rfl) ?_
 refine V_ret (then_r ?_)
 refine Leave.nil (.tmp rfl (.tmp rfl .nil)) ?_
 rw [own_start he0 hz, he0]; rfl
set_option maxHeartbeats 8000000 in
theorem rOwnD_c (v : Veh) (d : Dir) (l : List Fl.Band) (av pv qv bv : Value) (w : World) (hv : VehR w (VehV v av pv qv) v) (hl : BdsR w bv l) (q : List Fl.Pt) (x : Value) (hq : PtsR w x q) (h : askedF v d l = 0) (hs : strayE q = 0) (hz : ptAt q 0 = ptZ) : FnP Tryz.prog 5 [VehV v av pv qv, .agg #[.int .i64 d.x, .int .i64 d.y, .int .i64 d.z], bv, x] w (.tuple #[.int .i64 (ownI v d l q), .int .i64 (ownE v d l q)]) := by
 have hL := hl
 obtain ⟨ba, bc, rfl, hbc, hbe⟩ := hl.sl.ex
 simp only [List.length_map] at hL ⊢
 have hQ := hq
 obtain ⟨pa, pc, rfl, hpc, hpe⟩ := hq.sl.ex
 simp only [List.length_map] at hQ hpc hq ⊢
 obtain ⟨⟨hl1, hl2⟩, hfar⟩ := stray_0 hs
 obtain ⟨tb0, etb0, hc0⟩ := hpe 0 _ (getD_cells (d := ptZ) (by omega))
 subst etb0
 have he0 : ownE v d l q = 0 := (ownE_2 h).trans hs
 obtain ⟨hGV, hdd, hGB⟩ := Fl.asked_good h
 refine fn_pure Tryz.func5 rfl (by kernel_rfl) Tryz.ntmps5 Tryz.results5 rfl ?_
 refine Vs rfl ?_
 refine Lw rfl (w_box rfl rfl) ?_
 rintro _ _ ⟨b1, hb1, rfl, rfl⟩
 refine Lw rfl (w_box rfl rfl) ?_
 rintro _ _ ⟨b2, hb2, rfl, rfl⟩
 iterate 2 refine La rfl rfl rfl ?_
 refine L_then (kp [2, 3, 4, 5] rfl) ?_
 refine Vs rfl ?_
 refine Lr rfl (rlA (vs := [_, _, _, _, _, _]) ag28 sz28 rfl rfl rfl) ?_
 refine Lr rfl (rlA (vs := [_, _, _]) ag30 sz30 rfl rfl rfl) ?_
 refine Lm rfl rfl rfl ?_
 refine Lc rfl rfl rfl rfl (fun w hg => rasked_c v d l _ _ w (hv.good hg) (hL.good hg)) ?_
 refine La rfl rfl rfl ?_
 refine L_then (kp [2, 3, 4, 5, 10] rfl) ?_
 refine V_seq ?_
 refine Vs rfl ?_
 refine Lm rfl rfl rfl ?_
 refine Lp rfl (p_eql rfl rfl rfl) ?_
 refine L_then (kp [2, 3, 4, 5, 10, 17] rfl) ?_
 refine V_cond_t rfl (decide_eq_true h) ?_
 refine V_region rfl ?_
 refine Lm rfl rfl rfl ?_
 refine Lc rfl rfl rfl rfl (fun w hg => rpath_c q _ w (hQ.good hg)) ?_
 refine La rfl rfl rfl ?_
 refine L_then (kp [2, 3, 4, 5, 10] rfl) ?_
 refine V_seq ?_
 refine Vs rfl ?_
 refine Lm rfl rfl rfl ?_
 refine Lp rfl (p_neq rfl rfl rfl) ?_
 refine L_then (kp [2, 3, 4, 5, 10, 21] rfl) ?_
 refine V_cond_f rfl (decide_eq_false (fun k => k hs)) ?_
 refine V_skip (then_n ?_)
 refine V_seq ?_
 refine Vs rfl ?_
 refine Lm rfl rfl rfl ?_
 refine Lp rfl (p_idx es34 rfl rfl rfl (by omega) (by omega)) ?_
 refine Lr rfl (r_loadBA ag49 sz49 rfl rfl hc0 rfl List.not_mem_nil) ?_
 refine Lp rfl (p_build (r := [_, _, _, _, _, _]) pl49 zr49 rfl rfl rfl) ?_
 refine Lp rfl (p_neS lv49 ag49 eg49 rfl rfl rfl rfl rfl) ?_
 refine L_then (kp [2, 3, 4, 5, 27] rfl) ?_
 refine V_cond_f rfl (pt_ne0 hz) ?_
 refine V_skip (then_n ?_)
 refine V_seq ?_
 refine Vs rfl ?_
 refine La rfl rfl rfl ?_
 refine L_then (kp [2, 3, 4, 5, 11] rfl) ?_
 refine V_block ?_
 refine V_loop0 (γ := Nat) (kp [2, 3, 4, 5] rfl) (fun k => [(11, .int .i64 ((k : Int) + 1))]) (fun k => k + 1 ≤ q.length ∧ ∀ j, j < k → stepB v d l q j = true) (fun k => q.length - k) (0) (.cons rfl (.nil _)) (⟨by omega, fun j hj => absurd hj (Nat.not_lt_zero _)⟩) ?_
 rintro k hi
 obtain ⟨hk1, hall⟩ := hi
 refine V_seq ?_
 refine Vs rfl ?_
 iterate 2 refine Lm rfl rfl rfl ?_
 refine Lp rfl (p_len isl34 rfl rfl) ?_
 refine Lp rfl (p_lss rfl rfl rfl) ?_
 refine L_then (kp [2, 3, 4, 5, 11, 31] rfl) ?_
 refine V_cond rfl ?_ ?_
 ·intro c1; try simp only [td] at c1
  obtain ⟨tb, etb, hc9⟩ := hpe k _ (getD_cells (d := ptZ) (by omega))
  injection etb with etb
  subst etb
  have hc : cellsAt w (tb0.add (k * 6)) (Fl.Pt.cells (ptAt q k)) := hc9
  obtain ⟨tb2, etb2, hc8⟩ := hpe (k + 1) _ (getD_cells (d := ptZ) (by omega))
  injection etb2 with etb2
  subst etb2
  have hc2 : cellsAt w (tb0.add ((k + 1) * 6)) (Fl.Pt.cells (ptAt q (k + 1))) := hc8
  refine V_skip (then_n ?_)
  refine V_seq ?_
  refine V_block ?_
  refine V_seq (V_draw (.rd 0 (.rd 1 (.rd 2 (.rd 3 (.rd 4 (.rd 5 (.rd 7 (.rd 8 (.rd 9 (.rd 10 (.rd 11 (.rd 12 (.rd 13 (.rd 14 (.rd 15 (.wr 6 [15, 14, 13, 12, 11, 10, 9, 8, 7, 4, 2, 1, 0] (.wr 16 [14, 13, 12, 10, 9, 8, 7, 5, 4, 3] (.rd 17 .done)))))))))))))))))) mixed (by kernel_rfl) rfl ?_)
  refine Dr rfl rfl (rlA (vs := [_, _, _, _, _, _]) ag28 sz28 rfl rfl rfl) ?_
  refine Dr rfl rfl (rlA (vs := [_, _, _]) ag30 sz30 rfl rfl rfl) ?_
  refine Dm rfl rfl rfl rfl ?_
  refine Dr rfl rfl (rlA (vs := [_, _, _, _, _, _]) ag28 sz28 rfl rfl rfl) ?_
  refine Dm rfl rfl rfl rfl ?_
  first | refine Dp rfl rfl (p_sub' rfl rfl rfl (by unfold InI; omega)) ?_ | refine Dp rfl rfl (p_sub rfl rfl rfl) ?_
  try rw [show ((k : Int) + 1 - 1) = (k : Int) by omega]
  iterate 2 refine Dm rfl rfl rfl rfl ?_
  first | refine Dp rfl rfl (p_sub' rfl rfl rfl (by unfold InI; omega)) ?_ | refine Dp rfl rfl (p_sub rfl rfl rfl) ?_
  try rw [show ((k : Int) + 1 - 1) = (k : Int) by omega]
  refine Dp rfl rfl (p_idx es34 rfl rfl rfl (by omega) (by omega)) ?_
  refine Dr rfl rfl (r_loadBA ag49 sz49 rfl rfl hc rfl List.not_mem_nil) ?_
  iterate 2 refine Dm rfl rfl rfl rfl ?_
  refine Dp rfl rfl (p_idx es34 rfl rfl rfl (by omega) (by omega)) ?_
  refine Dr rfl rfl (r_loadBA ag49 sz49 rfl rfl hc2 rfl List.not_mem_nil) ?_
  refine D_wr (.go (E' := [(15, _), (11, _), (1, _), (0, _)]) rfl (.plain rfl) (w_callP rfl rfl rfl (fun w hg => rnow_c (k : Int) (by omega) v _ hGV w (hv.good hg))) rfl ?_)
  rintro _ _ ⟨rfl, rfl⟩
  refine ⟨(.cons rfl (.plain rfl) (r_loadBA ag49 sz49 rfl rfl hc2 rfl List.not_mem_nil) (.cons rfl (.plain rfl) (r_loadBA ag49 sz49 rfl rfl hc rfl List.not_mem_nil) (.cons rfl (.plain rfl) (rlA (vs := [_, _, _]) ag30 sz30 rfl rfl rfl) (.cons rfl (.plain rfl) (rlA (vs := [_, _, _, _, _, _]) ag28 sz28 rfl rfl rfl) .nil)))), ?_⟩
  refine D_wr (.go (E' := []) rfl (.plain rfl) (w_callP rfl rfl rfl (fun w hg => rfollows_c d l _ (nowT v (k : Int)) (ptAt q k) (ptAt q (k + 1)) v _ w (hv.good hg) hGV hdd hGB (now_ph hGV k) (hfar k (by omega)) (hfar (k + 1) (by omega)) (hL.good hg))) rfl ?_)
  rintro _ _ ⟨rfl, rfl⟩
  refine ⟨.nil, ?_⟩
  refine Dp rfl rfl (p_not rfl rfl) ?_
  refine D_then (kp [2, 3, 4, 5, 11, 51] rfl) ?_
  refine V_cond rfl ?_ ?_
  ·intro c2; try simp only [td] at c2
   refine Vs rfl ?_
   refine Lm rfl rfl rfl ?_
   iterate 2 refine La rfl rfl rfl ?_
   refine L_then (kp [8, 9] rfl) ?_
   refine V_ret (blk_r (then_r (then_r (blk_r (then_r ?_)))))
   refine Leave.nil (.tmp rfl (.tmp rfl .nil)) ?_
   first | (rw [own_all he0 hz (fun j hj => hall j (by omega)), he0]; rfl) | (rw [own_hit he0 hz (k := k) (by omega) hall (by unfold stepB; first | assumption | (simp_all; done)), he0]; rfl)
  intro c2; try simp only [td] at c2
  refine V_skip (blk_n (then_n ?_))
  refine V_region rfl ?_
  refine Lm rfl rfl rfl ?_
  first | refine Lp rfl (p_add' rfl rfl rfl (by unfold InI; omega)) ?_ | refine Lp rfl (p_add rfl rfl rfl) ?_
  refine La rfl rfl rfl ?_
  refine L_keep (kp [2, 3, 4, 5, 11] rfl) (then_n ?_)
  refine ⟨k + 1, ?_, ?_, (.cons rfl (.cons rfl (.cons rfl (.cons rfl (.cons rfl (.nil _)))))), (by repeat (first | exact List.nil_sublist _ | exact List.Sublist.refl _ | apply List.Sublist.cons_cons | apply List.Sublist.cons | apply List.sublist_append_of_sublist_right)), rfl⟩
  ·refine ⟨by omega, fun j hj => ?_⟩
   by_cases e : j < k
   ·exact hall j e
   have ej : j = k := by omega
   rw [ej]
   unfold stepB
   first | assumption | (simp_all; done)
  omega
 intro c1; try simp only [td] at c1
 refine V_exit (then_e (then_e (blk_e rfl (then_n ?_))))
 refine Vs rfl ?_
 iterate 2 refine La rfl rfl rfl ?_
 refine L_then (kp [8, 9] rfl) ?_
 refine V_ret ?_
 refine Leave.nil (.tmp rfl (.tmp rfl .nil)) ?_
 first | (rw [own_all he0 hz (fun j hj => hall j (by omega)), he0]; rfl) | (rw [own_hit he0 hz (k := k) (by omega) hall (by unfold stepB; first | assumption | (simp_all; done)), he0]; rfl)
theorem rOwn_c (v : Veh) (d : Dir) (l : List Fl.Band) (av pv qv bv : Value) (w : World) (hv : VehR w (VehV v av pv qv) v) (hl : BdsR w bv l) (q : List Fl.Pt) (x : Value) (hq : PtsR w x q) : FnP Tryz.prog 5 [VehV v av pv qv, .agg #[.int .i64 d.x, .int .i64 d.y, .int .i64 d.z], bv, x] w (.tuple #[.int .i64 (ownI v d l q), .int .i64 (ownE v d l q)]) := by
 by_cases h : askedF v d l = 0
 ·by_cases hs : strayE q = 0
  ·by_cases hz : ptAt q 0 = ptZ
   ·exact rOwnD_c v d l av pv qv bv w hv hl q x hq h hs hz
   exact rOwnC_c v d l av pv qv bv w hv hl q x hq h hs hz
  exact rOwnB_c v d l av pv qv bv w hv hl q x hq h hs
 exact rOwnE_c v d l av pv qv bv w hv hl q x hq h
set_option maxHeartbeats 4000000 in
theorem rDown_c (q : List Fl.Pt) (floor : Int) (x : Value) (w : World) (hq : PtsR w x q) : FnP Tryz.prog 7 [x, .int .i64 floor] w (.tuple #[.agg #[.int .i64 (downP q floor).1, .int .i64 (downP q floor).2.1], .int .i64 (downP q floor).2.2, .int .i64 (downE q floor)]) := by
 have hQ := hq
 obtain ⟨pa, pc, rfl, hpc, hpe⟩ := hq.sl.ex
 simp only [List.length_map] at hQ hpc hq ⊢
 refine fn_pure Tryz.func7 rfl (by kernel_rfl) Tryz.ntmps7 Tryz.results7 rfl ?_
 refine Vs rfl ?_
 refine Lw rfl (w_alloc zr39 rfl) ?_
 rintro _ _ ⟨b1, hb1, rfl, rfl⟩
 iterate 2 refine La rfl rfl rfl ?_
 refine L_then (kp [0, 1, 4] rfl) ?_
 refine Vs rfl ?_
 refine Lm rfl rfl rfl ?_
 refine Lc rfl rfl rfl rfl (fun w hg => rpath_c q _ w (hQ.good hg)) ?_
 refine La rfl rfl rfl ?_
 refine L_then (kp [0, 1, 4, 7] rfl) ?_
 refine V_seq ?_
 refine Vs rfl ?_
 refine Lm rfl rfl rfl ?_
 refine Lp rfl (p_eql rfl rfl rfl) ?_
 refine Lm rfl rfl rfl ?_
 refine L_cases (d := 13) rfl ?_ ?_
 ·intro g1; have g1' := g1; try simp only [td] at g1'
  refine L_yes rfl rfl rfl g1 (X_p (p_move rfl rfl) ?_)
  refine L_yes rfl rfl rfl g1 (X_wr (w_callP rfl rfl rfl (fun w hg => r2in_c _ _ _ w)) ?_)
  rintro _ _ ⟨rfl, rfl⟩
  refine L_yes rfl rfl rfl g1 (X_p (p_not rfl rfl) ?_)
  refine Lp rfl (p_pick_t rfl rfl g1 rfl) ?_
  refine L_then (kp [0, 1, 4, 7, 17] rfl) ?_
  refine V_cond rfl ?_ ?_
  ·intro c1; try simp only [td] at c1
   refine V_region rfl ?_
   refine La rfl rfl rfl ?_
   refine L_then (kp [0, 1, 4, 7] rfl) ?_
   refine V_seq ?_
   refine Vs rfl ?_
   refine Lm rfl rfl rfl ?_
   refine Lp rfl (p_neq rfl rfl rfl) ?_
   refine L_then (kp [0, 1, 4, 7, 19] rfl) ?_
   refine V_cond_t rfl rfl ?_
   refine Vs rfl ?_
   refine Lp rfl (p_build (r := [_, _]) pl39 zr39 rfl rfl rfl) ?_
   refine Lm rfl rfl rfl ?_
   refine Ls (cs' := [_, _]) rfl sz39 rfl rfl rfl rfl rfl rfl rfl ?_
   iterate 2 refine La rfl rfl rfl ?_
   refine L_then (kp [4, 5, 6] rfl) ?_
   refine V_ret (then_r ?_)
   refine Leave.nil (.cellA (us := [_, _]) rfl ag39 sz39 (by repeat first | exact mH | apply mT) rfl (.tmp rfl (.tmp rfl .nil))) ?_
   first | (exfalso; omega) | (have hi9 := downI_hit (l := q) (floor := floor) (k := k) (by omega) (by omega) hall; have e9 := downE_0 hs0 hop (by omega); rw [downP_0 e9, e9, hi9]; rfl) | (have hi9 := downI_none (l := q) (floor := floor) (fun j hj => hall j (by omega)); have e9 := downE_9 hs0 hop (by omega); rw [downP_1 (by rw [e9]; decide), e9]; rfl) | (rw [downP_1 (by rw [downE_7 (by omega) (by first | assumption | (simp_all; done))]; decide), downE_7 (by omega) (by first | assumption | (simp_all; done))]; rfl) | (rw [downP_1 (by rw [downE_1 (by first | assumption | omega)]; first | assumption | omega), downE_1 (by first | assumption | omega)]; rfl)
  intro c1; try simp only [td] at c1
  refine V_skip (then_n ?_)
  refine V_seq ?_
  refine Vs rfl ?_
  refine Lm rfl rfl rfl ?_
  refine Lp rfl (p_neq rfl rfl rfl) ?_
  refine L_then (kp [0, 1, 4, 7, 19] rfl) ?_
  refine V_cond rfl ?_ ?_
  ·intro c2; try simp only [td] at c2
   refine Vs rfl ?_
   refine Lp rfl (p_build (r := [_, _]) pl39 zr39 rfl rfl rfl) ?_
   refine Lm rfl rfl rfl ?_
   refine Ls (cs' := [_, _]) rfl sz39 rfl rfl rfl rfl rfl rfl rfl ?_
   iterate 2 refine La rfl rfl rfl ?_
   refine L_then (kp [4, 5, 6] rfl) ?_
   refine V_ret (then_r ?_)
   refine Leave.nil (.cellA (us := [_, _]) rfl ag39 sz39 (by repeat first | exact mH | apply mT) rfl (.tmp rfl (.tmp rfl .nil))) ?_
   first | (exfalso; omega) | (have hi9 := downI_hit (l := q) (floor := floor) (k := k) (by omega) (by omega) hall; have e9 := downE_0 hs0 hop (by omega); rw [downP_0 e9, e9, hi9]; rfl) | (have hi9 := downI_none (l := q) (floor := floor) (fun j hj => hall j (by omega)); have e9 := downE_9 hs0 hop (by omega); rw [downP_1 (by rw [e9]; decide), e9]; rfl) | (rw [downP_1 (by rw [downE_7 (by omega) (by first | assumption | (simp_all; done))]; decide), downE_7 (by omega) (by first | assumption | (simp_all; done))]; rfl) | (rw [downP_1 (by rw [downE_1 (by first | assumption | omega)]; first | assumption | omega), downE_1 (by first | assumption | omega)]; rfl)
  intro c2; try simp only [td] at c2
  have hs0 : strayE q = 0 := by first | assumption | omega
  have hl9 := (stray_0 hs0).1
  have hop : oP floor 0 2000000000 = false := by first | assumption | (simp_all; done)
  refine V_skip (then_n ?_)
  refine V_seq ?_
  refine Vs rfl ?_
  refine La rfl rfl rfl ?_
  refine L_then (kp [0, 1, 4, 8] rfl) ?_
  refine V_block ?_
  refine V_loop0 (γ := Nat) (kp [0, 1, 4] rfl) (fun k => [(8, .int .i64 ((k : Int) + 1))]) (fun k => k + 1 ≤ q.length ∧ ∀ j, j < k → ¬ (ptAt q (j + 1)).z ≤ floor) (fun k => q.length - k) (0) (.cons rfl (.nil _)) (⟨by omega, fun j hj => absurd hj (Nat.not_lt_zero _)⟩) ?_
  rintro k hi
  obtain ⟨hk1, hall⟩ := hi
  refine V_seq ?_
  refine Vs rfl ?_
  iterate 2 refine Lm rfl rfl rfl ?_
  refine Lp rfl (p_len isl34 rfl rfl) ?_
  refine Lp rfl (p_lss rfl rfl rfl) ?_
  refine L_then (kp [0, 1, 4, 8, 25] rfl) ?_
  refine V_cond rfl ?_ ?_
  ·intro c3; try simp only [td] at c3
   obtain ⟨tb, etb, hc9⟩ := hpe (k + 1) _ (getD_cells (d := ptZ) (by omega))
   subst etb
   have hc : cellsAt w (tb.add ((k + 1) * 6)) (Fl.Pt.cells (ptAt q (k + 1))) := hc9
   refine V_skip (then_n ?_)
   refine V_seq ?_
   refine V_block ?_
   refine Vs rfl ?_
   iterate 2 refine Lm rfl rfl rfl ?_
   refine Lp rfl (p_idx es34 rfl rfl rfl (by omega) (by omega)) ?_
   refine Lp rfl (p_field fo49_2 rfl rfl) ?_
   refine Lr rfl (r_loadB ag3 rfl rfl (hc 2 _ rfl) List.not_mem_nil) ?_
   refine Lm rfl rfl rfl ?_
   refine Lp rfl (p_leq rfl rfl rfl) ?_
   refine L_then (kp [0, 1, 4, 8, 34] rfl) ?_
   refine V_cond rfl ?_ ?_
   ·intro c4; try simp only [td] at c4
    refine V_seq (V_draw (.rd 0 (.rd 1 (.rd 2 (.rd 3 (.rd 4 (.rd 5 (.rd 6 (.rd 7 (.rd 8 (.rd 9 (.rd 10 (.rd 11 (.wr 12 [11] (.rd 13 (.rd 14 .done))))))))))))))) mixed (by kernel_rfl) rfl ?_)
    iterate 2 refine Dm rfl rfl rfl rfl ?_
    refine Dp rfl rfl (p_idx es34 rfl rfl rfl (by omega) (by omega)) ?_
    refine Dp rfl rfl (p_field fo49_0 rfl rfl) ?_
    refine Dr rfl rfl (r_loadB ag3 rfl rfl (hc 0 _ rfl) List.not_mem_nil) ?_
    iterate 2 refine Dm rfl rfl rfl rfl ?_
    refine Dp rfl rfl (p_idx es34 rfl rfl rfl (by omega) (by omega)) ?_
    refine Dp rfl rfl (p_field fo49_1 rfl rfl) ?_
    refine Dr rfl rfl (r_loadB ag3 rfl rfl (hc 1 _ rfl) List.not_mem_nil) ?_
    refine Dp rfl rfl (p_build (r := [_, _]) pl39 zr39 rfl rfl rfl) ?_
    refine Dm rfl rfl rfl rfl ?_
    refine D_wr (.go (E' := []) rfl (.plain rfl) (ws (cs' := [_, _]) sz39 rfl rfl rfl rfl rfl rfl rfl) rfl ?_)
    rintro _ _ ⟨rfl, rfl⟩
    refine ⟨.nil, ?_⟩
    iterate 2 refine Dp rfl rfl (p_assign rfl rfl) ?_
    refine D_then (kp [4, 5, 6] rfl) ?_
    refine V_ret (blk_r (then_r (then_r (blk_r (then_r ?_)))))
    refine Leave.nil (.cellA (us := [_, _]) rfl ag39 sz39 (by repeat first | exact mH | apply mT) rfl (.tmp rfl (.tmp rfl .nil))) ?_
    first | (exfalso; omega) | (have hi9 := downI_hit (l := q) (floor := floor) (k := k) (by omega) (by omega) hall; have e9 := downE_0 hs0 hop (by omega); rw [downP_0 e9, e9, hi9]; rfl) | (have hi9 := downI_none (l := q) (floor := floor) (fun j hj => hall j (by omega)); have e9 := downE_9 hs0 hop (by omega); rw [downP_1 (by rw [e9]; decide), e9]; rfl) | (rw [downP_1 (by rw [downE_7 (by omega) (by first | assumption | (simp_all; done))]; decide), downE_7 (by omega) (by first | assumption | (simp_all; done))]; rfl) | (rw [downP_1 (by rw [downE_1 (by first | assumption | omega)]; first | assumption | omega), downE_1 (by first | assumption | omega)]; rfl)
   intro c4; try simp only [td] at c4
   refine V_skip (blk_n (then_n ?_))
   refine V_region rfl ?_
   refine Lm rfl rfl rfl ?_
   first | refine Lp rfl (p_add' rfl rfl rfl (by unfold InI; omega)) ?_ | refine Lp rfl (p_add rfl rfl rfl) ?_
   refine La rfl rfl rfl ?_
   refine L_keep (kp [0, 1, 4, 8] rfl) (then_n ?_)
   refine ⟨k + 1, ?_, ?_, (.cons rfl (.cons rfl (.cons rfl (.cons rfl (.nil _))))), (by repeat (first | exact List.nil_sublist _ | exact List.Sublist.refl _ | apply List.Sublist.cons_cons | apply List.Sublist.cons | apply List.sublist_append_of_sublist_right)), rfl⟩
   ·refine ⟨by omega, fun j hj => ?_⟩
    by_cases e : j < k
    ·exact hall j e
    have ej : j = k := by omega
    rw [ej]; omega
   omega
  intro c3; try simp only [td] at c3
  refine V_exit (then_e (then_e (blk_e rfl (then_n ?_))))
  refine Vs rfl ?_
  refine Lp rfl (p_build (r := [_, _]) pl39 zr39 rfl rfl rfl) ?_
  refine Ls (cs' := [_, _]) rfl sz39 rfl rfl rfl rfl rfl rfl rfl ?_
  iterate 2 refine La rfl rfl rfl ?_
  refine L_then (kp [4, 5, 6] rfl) ?_
  refine V_ret ?_
  refine Leave.nil (.cellA (us := [_, _]) rfl ag39 sz39 (by repeat first | exact mH | apply mT) rfl (.tmp rfl (.tmp rfl .nil))) ?_
  first | (exfalso; omega) | (have hi9 := downI_hit (l := q) (floor := floor) (k := k) (by omega) (by omega) hall; have e9 := downE_0 hs0 hop (by omega); rw [downP_0 e9, e9, hi9]; rfl) | (have hi9 := downI_none (l := q) (floor := floor) (fun j hj => hall j (by omega)); have e9 := downE_9 hs0 hop (by omega); rw [downP_1 (by rw [e9]; decide), e9]; rfl) | (rw [downP_1 (by rw [downE_7 (by omega) (by first | assumption | (simp_all; done))]; decide), downE_7 (by omega) (by first | assumption | (simp_all; done))]; rfl) | (rw [downP_1 (by rw [downE_1 (by first | assumption | omega)]; first | assumption | omega), downE_1 (by first | assumption | omega)]; rfl)
 intro g1; have g1' := g1; try simp only [td] at g1'
 iterate 3 refine L_no rfl rfl rfl g1 ?_
 refine Lp rfl (p_pick_f rfl rfl g1 rfl) ?_
 refine L_then (kp [0, 1, 4, 7, 17] rfl) ?_
 refine V_cond_f rfl rfl ?_
 refine V_skip (then_n ?_)
 refine V_seq ?_
 refine Vs rfl ?_
 refine Lm rfl rfl rfl ?_
 refine Lp rfl (p_neq rfl rfl rfl) ?_
 refine L_then (kp [0, 1, 4, 7, 19] rfl) ?_
 refine V_cond rfl ?_ ?_
 ·intro c5; try simp only [td] at c5
  refine Vs rfl ?_
  refine Lp rfl (p_build (r := [_, _]) pl39 zr39 rfl rfl rfl) ?_
  refine Lm rfl rfl rfl ?_
  refine Ls (cs' := [_, _]) rfl sz39 rfl rfl rfl rfl rfl rfl rfl ?_
  iterate 2 refine La rfl rfl rfl ?_
  refine L_then (kp [4, 5, 6] rfl) ?_
  refine V_ret (then_r ?_)
  refine Leave.nil (.cellA (us := [_, _]) rfl ag39 sz39 (by repeat first | exact mH | apply mT) rfl (.tmp rfl (.tmp rfl .nil))) ?_
  first | (exfalso; omega) | (have hi9 := downI_hit (l := q) (floor := floor) (k := k) (by omega) (by omega) hall; have e9 := downE_0 hs0 hop (by omega); rw [downP_0 e9, e9, hi9]; rfl) | (have hi9 := downI_none (l := q) (floor := floor) (fun j hj => hall j (by omega)); have e9 := downE_9 hs0 hop (by omega); rw [downP_1 (by rw [e9]; decide), e9]; rfl) | (rw [downP_1 (by rw [downE_7 (by omega) (by first | assumption | (simp_all; done))]; decide), downE_7 (by omega) (by first | assumption | (simp_all; done))]; rfl) | (rw [downP_1 (by rw [downE_1 (by first | assumption | omega)]; first | assumption | omega), downE_1 (by first | assumption | omega)]; rfl)
 intro c5; try simp only [td] at c5
 have hs0 : strayE q = 0 := by first | assumption | omega
 have hl9 := (stray_0 hs0).1
 have hop : oP floor 0 2000000000 = false := by first | assumption | (simp_all; done)
 refine V_skip (then_n ?_)
 refine V_seq ?_
 refine Vs rfl ?_
 refine La rfl rfl rfl ?_
 refine L_then (kp [0, 1, 4, 8] rfl) ?_
 refine V_block ?_
 refine V_loop0 (γ := Nat) (kp [0, 1, 4] rfl) (fun k => [(8, .int .i64 ((k : Int) + 1))]) (fun k => k + 1 ≤ q.length ∧ ∀ j, j < k → ¬ (ptAt q (j + 1)).z ≤ floor) (fun k => q.length - k) (0) (.cons rfl (.nil _)) (⟨by omega, fun j hj => absurd hj (Nat.not_lt_zero _)⟩) ?_
 rintro k hi
 obtain ⟨hk1, hall⟩ := hi
 refine V_seq ?_
 refine Vs rfl ?_
 iterate 2 refine Lm rfl rfl rfl ?_
 refine Lp rfl (p_len isl34 rfl rfl) ?_
 refine Lp rfl (p_lss rfl rfl rfl) ?_
 refine L_then (kp [0, 1, 4, 8, 25] rfl) ?_
 refine V_cond rfl ?_ ?_
 ·intro c6; try simp only [td] at c6
  obtain ⟨tb, etb, hc9⟩ := hpe (k + 1) _ (getD_cells (d := ptZ) (by omega))
  subst etb
  have hc : cellsAt w (tb.add ((k + 1) * 6)) (Fl.Pt.cells (ptAt q (k + 1))) := hc9
  refine V_skip (then_n ?_)
  refine V_seq ?_
  refine V_block ?_
  refine Vs rfl ?_
  iterate 2 refine Lm rfl rfl rfl ?_
  refine Lp rfl (p_idx es34 rfl rfl rfl (by omega) (by omega)) ?_
  refine Lp rfl (p_field fo49_2 rfl rfl) ?_
  refine Lr rfl (r_loadB ag3 rfl rfl (hc 2 _ rfl) List.not_mem_nil) ?_
  refine Lm rfl rfl rfl ?_
  refine Lp rfl (p_leq rfl rfl rfl) ?_
  refine L_then (kp [0, 1, 4, 8, 34] rfl) ?_
  refine V_cond rfl ?_ ?_
  ·intro c7; try simp only [td] at c7
   refine V_seq (V_draw (.rd 0 (.rd 1 (.rd 2 (.rd 3 (.rd 4 (.rd 5 (.rd 6 (.rd 7 (.rd 8 (.rd 9 (.rd 10 (.rd 11 (.wr 12 [11] (.rd 13 (.rd 14 .done))))))))))))))) mixed (by kernel_rfl) rfl ?_)
   iterate 2 refine Dm rfl rfl rfl rfl ?_
   refine Dp rfl rfl (p_idx es34 rfl rfl rfl (by omega) (by omega)) ?_
   refine Dp rfl rfl (p_field fo49_0 rfl rfl) ?_
   refine Dr rfl rfl (r_loadB ag3 rfl rfl (hc 0 _ rfl) List.not_mem_nil) ?_
   iterate 2 refine Dm rfl rfl rfl rfl ?_
   refine Dp rfl rfl (p_idx es34 rfl rfl rfl (by omega) (by omega)) ?_
   refine Dp rfl rfl (p_field fo49_1 rfl rfl) ?_
   refine Dr rfl rfl (r_loadB ag3 rfl rfl (hc 1 _ rfl) List.not_mem_nil) ?_
   refine Dp rfl rfl (p_build (r := [_, _]) pl39 zr39 rfl rfl rfl) ?_
   refine Dm rfl rfl rfl rfl ?_
   refine D_wr (.go (E' := []) rfl (.plain rfl) (ws (cs' := [_, _]) sz39 rfl rfl rfl rfl rfl rfl rfl) rfl ?_)
   rintro _ _ ⟨rfl, rfl⟩
   refine ⟨.nil, ?_⟩
   iterate 2 refine Dp rfl rfl (p_assign rfl rfl) ?_
   refine D_then (kp [4, 5, 6] rfl) ?_
   refine V_ret (blk_r (then_r (then_r (blk_r (then_r ?_)))))
   refine Leave.nil (.cellA (us := [_, _]) rfl ag39 sz39 (by repeat first | exact mH | apply mT) rfl (.tmp rfl (.tmp rfl .nil))) ?_
   first | (exfalso; omega) | (have hi9 := downI_hit (l := q) (floor := floor) (k := k) (by omega) (by omega) hall; have e9 := downE_0 hs0 hop (by omega); rw [downP_0 e9, e9, hi9]; rfl) | (have hi9 := downI_none (l := q) (floor := floor) (fun j hj => hall j (by omega)); have e9 := downE_9 hs0 hop (by omega); rw [downP_1 (by rw [e9]; decide), e9]; rfl) | (rw [downP_1 (by rw [downE_7 (by omega) (by first | assumption | (simp_all; done))]; decide), downE_7 (by omega) (by first | assumption | (simp_all; done))]; rfl) | (rw [downP_1 (by rw [downE_1 (by first | assumption | omega)]; first | assumption | omega), downE_1 (by first | assumption | omega)]; rfl)
  intro c7; try simp only [td] at c7
  refine V_skip (blk_n (then_n ?_))
  refine V_region rfl ?_
  refine Lm rfl rfl rfl ?_
  first | refine Lp rfl (p_add' rfl rfl rfl (by unfold InI; omega)) ?_ | refine Lp rfl (p_add rfl rfl rfl) ?_
  refine La rfl rfl rfl ?_
  refine L_keep (kp [0, 1, 4, 8] rfl) (then_n ?_)
  refine ⟨k + 1, ?_, ?_, (.cons rfl (.cons rfl (.cons rfl (.cons rfl (.nil _))))), (by repeat (first | exact List.nil_sublist _ | exact List.Sublist.refl _ | apply List.Sublist.cons_cons | apply List.Sublist.cons | apply List.sublist_append_of_sublist_right)), rfl⟩
  ·refine ⟨by omega, fun j hj => ?_⟩
   by_cases e : j < k
   ·exact hall j e
   have ej : j = k := by omega
   rw [ej]; omega
  omega
 intro c6; try simp only [td] at c6
 refine V_exit (then_e (then_e (blk_e rfl (then_n ?_))))
 refine Vs rfl ?_
 refine Lp rfl (p_build (r := [_, _]) pl39 zr39 rfl rfl rfl) ?_
 refine Ls (cs' := [_, _]) rfl sz39 rfl rfl rfl rfl rfl rfl rfl ?_
 iterate 2 refine La rfl rfl rfl ?_
 refine L_then (kp [4, 5, 6] rfl) ?_
 refine V_ret ?_
 refine Leave.nil (.cellA (us := [_, _]) rfl ag39 sz39 (by repeat first | exact mH | apply mT) rfl (.tmp rfl (.tmp rfl .nil))) ?_
 first | (exfalso; omega) | (have hi9 := downI_hit (l := q) (floor := floor) (k := k) (by omega) (by omega) hall; have e9 := downE_0 hs0 hop (by omega); rw [downP_0 e9, e9, hi9]; rfl) | (have hi9 := downI_none (l := q) (floor := floor) (fun j hj => hall j (by omega)); have e9 := downE_9 hs0 hop (by omega); rw [downP_1 (by rw [e9]; decide), e9]; rfl) | (rw [downP_1 (by rw [downE_7 (by omega) (by first | assumption | (simp_all; done))]; decide), downE_7 (by omega) (by first | assumption | (simp_all; done))]; rfl) | (rw [downP_1 (by rw [downE_1 (by first | assumption | omega)]; first | assumption | omega), downE_1 (by first | assumption | omega)]; rfl)
end Go.Proofs.YtbncegfgjbdheabGreat
