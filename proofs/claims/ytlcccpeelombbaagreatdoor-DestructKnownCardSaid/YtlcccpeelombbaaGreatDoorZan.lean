/- Joined texts. -/
import Derived.Test.YtlcccpeelombbaaGreatDoorZal
import Derived.Test.YtlcccpeelombbaaGreatDoorZam
import Derived.Test.YtlcccpeelombbaaGreatDoorZaf
import Derived.Test.YtlcccpeelombbaaGreatDoorZaj
import Derived.Test.YtlcccpeelombbaaGreatDoorZad
/- YtlcccpeelombbaaGreatDoor: Fall; lines are measured. -/
set_option linter.all false
namespace Go.Proofs.YtlcccpeelombbaaGreatDoor
open Go.Vc Go.Tk Go.De
set_option maxRecDepth 100000
set_option maxHeartbeats 4000000 in
theorem dFall_c (b : Box) (p : De.Plan) (pv : Value) (aF aL : Addr) (w : World) (hE : ErrR w 0 1 194 aF aL)  (hp : PlanR w pv p) : FnP Tryz.prog 8 [pv, .agg (Box.cells b).toArray] w (.tuple #[.agg #[.int .i64 (De.fallP p b).x.lo, .int .i64 (De.fallP p b).x.hi, .int .i64 (De.fallP p b).y.lo, .int .i64 (De.fallP p b).y.hi], .agg #[.int .i64 (De.fallP p b).at_.lo, .int .i64 (De.fallP p b).at_.hi], .int .i64 (De.fallP p b).e]) := by
 have hP := hp
 obtain ⟨lv, rfl, hls⟩ := hp.ex
 have hlen := hp.len
 refine fn_pure Tryz.func8 rfl (by kernel_rfl) Tryz.ntmps8 Tryz.results8 rfl ?_
 refine Vs rfl ?_
 refine Lw rfl (w_box rfl rfl) ?_
 rintro _ _ ⟨b1, hb1, rfl, rfl⟩
 refine Lw rfl (w_box rfl rfl) ?_
 rintro _ _ ⟨b2, hb2, rfl, rfl⟩
 refine Lw rfl (w_alloc zr30 rfl) ?_
 rintro _ _ ⟨b3, hb3, rfl, rfl⟩
 refine Lw rfl (w_alloc zr24 rfl) ?_
 rintro _ _ ⟨b4, hb4, rfl, rfl⟩
 refine La rfl rfl rfl ?_
 refine L_then (kp [2, 3, 4, 5] rfl) ?_
 refine Vs rfl ?_
 refine Lr rfl (rlA (vs := [_, _, _, _, _]) ag26 sz26 rfl rfl rfl) ?_
 refine Lc rfl rfl rfl rfl (fun w hg => dvalid_c p _ w (hP.good hg)) ?_
 refine La rfl rfl rfl ?_
 refine L_then (kp [2, 3, 4, 5, 6] rfl) ?_
 refine V_seq ?_
 refine Vs rfl ?_
 refine Lm rfl rfl rfl ?_
 refine Lp rfl (p_eql rfl rfl rfl) ?_
 refine L_then (kp [2, 3, 4, 5, 6, 11] rfl) ?_
 refine V_cond rfl ?_ ?_
 ·intro c1; try simp only [td] at c1
  have hpe := c1
  refine V_region rfl ?_
  refine Lr rfl (rlA (vs := [_, _, _, _, _, _, _, _, _, _, _, _, _]) ag28 sz28 rfl rfl rfl) ?_
  refine Lc rfl rfl rfl rfl (fun w hg => checkbox_c b w) ?_
  refine La rfl rfl rfl ?_
  refine L_then (kp [2, 3, 4, 5, 6] rfl) ?_
  refine V_seq ?_
  refine Vs rfl ?_
  refine Lm rfl rfl rfl ?_
  refine Lp rfl (p_neq rfl rfl rfl) ?_
  refine L_then (kp [2, 3, 4, 5, 6, 15] rfl) ?_
  refine V_cond rfl ?_ ?_
  ·intro c2; try simp only [td] at c2
   have hq := c2
   refine Vs rfl ?_
   refine Lp rfl (p_build (r := [_, _, _, _]) pl30 zr30 rfl rfl rfl) ?_
   refine Lp rfl (p_build (r := [_, _]) pl24 zr24 rfl rfl rfl) ?_
   refine Lm rfl rfl rfl ?_
   refine Ls (cs' := [_, _, _, _]) rfl sz30 rfl rfl rfl rfl rfl rfl rfl ?_
   refine Ls (cs' := [_, _]) rfl sz24 rfl rfl rfl rfl rfl rfl rfl ?_
   refine La rfl rfl rfl ?_
   refine L_then (kp [4, 5, 6] rfl) ?_
   refine V_ret (then_r ?_)
   refine Leave.nil (.cellA (us := [_, _, _, _]) rfl ag30 sz30 (by repeat first | exact mH | apply mT) rfl (.cellA (us := [_, _]) rfl ag24 sz24 (by repeat first | exact mH | apply mT) rfl (.tmp rfl .nil))) ?_
   have hf : De.fallP p b = ⟨spZ, spZ, spZ, boxE b⟩ := by unfold De.fallP; rw [if_neg (by omega), if_pos (by omega)]
   rw [hf]
   all_goals rfl
  intro c2; try simp only [td] at c2
  have hb : boxE b = 0 := by omega
  have hgr := (good_of_plan hpe).nums.2.1
  have hf : De.fallP p b = fallT p.grav b := by unfold De.fallP; rw [if_neg (by omega), if_neg (by omega)]
  rw [hf]
  refine V_skip (then_n ?_)
  refine Vs rfl ?_
  refine Lr rfl (rlA (vs := [_, _, _, _, _, _, _, _, _, _, _, _, _]) ag28 sz28 rfl rfl rfl) ?_
  refine Lp rfl (p_fieldo fo26_1 rfl rfl) ?_
  refine Lr rfl (rlA (vs := [_, _]) ag24 sz24 rfl rfl rfl) ?_
  refine Lc rfl rfl rfl rfl (fun w hg => dfall_c b p.grav (fallB_0 (boxE_ok hb)) hgr aF aL w (hE.good hg)) ?_
  refine Lm rfl rfl rfl ?_
  iterate 3 refine Lp rfl (p_ext rfl rfl rfl) ?_
  refine Ls (cs' := [_, _, _, _]) rfl sz30 rfl rfl rfl rfl rfl rfl rfl ?_
  refine Ls (cs' := [_, _]) rfl sz24 rfl rfl rfl rfl rfl rfl rfl ?_
  refine La rfl rfl rfl ?_
  refine L_then (kp [4, 5, 6, 7] rfl) ?_
  refine V_seq ?_
  refine V_block ?_
  refine Vs rfl ?_
  refine Lm rfl rfl rfl ?_
  refine Lr rfl (r_loadB ag72 rfl rfl hE.far List.not_mem_nil) ?_
  refine Lc rfl rfl rfl rfl (fun w hg => eIs_far aF aL w (hE.good hg) _ (fallT_e _ _)) ?_
  refine La rfl rfl rfl ?_
  refine L_then (kp [4, 5, 6, 7, 27] rfl) ?_
  refine V_cond rfl ?_ ?_
  ·intro c3; try simp only [td] at c3
   have he3 := c3
   refine V_region rfl ?_
   refine La rfl rfl rfl ?_
   refine L_keep (kp [4, 5, 6] rfl) (blk_n (then_n ?_))
   refine V_seq (V_draw (.rd 0 (.rd 1 (.rd 2 (.wr 3 [2, 1] (.wr 4 [2] (.wr 5 [] .done)))))) mixed (by kernel_rfl) rfl ?_)
   refine Dr rfl rfl (rlA (vs := [_, _, _, _]) ag30 sz30 rfl rfl rfl) ?_
   refine Dr rfl rfl (rlA (vs := [_, _]) ag24 sz24 rfl rfl rfl) ?_
   refine Dm rfl rfl rfl rfl ?_
   refine D_wr (.go (E' := [(1, _)]) rfl (.plain rfl) (ws (cs' := [_, _, _, _]) sz30 rfl rfl rfl rfl rfl rfl rfl) rfl ?_)
   rintro _ _ ⟨rfl, rfl⟩
   refine ⟨(.cons rfl (.plain rfl) (rlA (vs := [_, _]) ag24 sz24 rfl rfl rfl) .nil), ?_⟩
   refine D_wr (.go (E' := []) rfl (.plain rfl) (ws (cs' := [_, _]) sz24 rfl rfl rfl rfl rfl rfl rfl) rfl ?_)
   rintro _ _ ⟨rfl, rfl⟩
   refine ⟨.nil, ?_⟩
   refine D_wr (.go (E' := []) rfl (.plain rfl) (rd_wr (RdP.rd (p_assign rfl rfl))) rfl ?_)
   rintro _ _ ⟨rfl, rfl⟩
   refine ⟨.nil, ?_⟩
   refine D_then (kp [4, 5, 6] rfl) ?_
   refine V_ret ?_
   refine Leave.nil (.cellA (us := [_, _, _, _]) rfl ag30 sz30 (by repeat first | exact mH | apply mT) rfl (.cellA (us := [_, _]) rfl ag24 sz24 (by repeat first | exact mH | apply mT) rfl (.tmp rfl .nil))) ?_
   rw [he3]; rfl
  intro c3; try simp only [td] at c3
  have he3 := c3
  refine Vs rfl ?_
  refine Lm rfl rfl rfl ?_
  refine Lr rfl (r_loadB ag72 rfl rfl hE.long List.not_mem_nil) ?_
  refine Lc rfl rfl rfl rfl (fun w hg => eIs_long aF aL w (hE.good hg) _ (fallT_e _ _)) ?_
  refine La rfl rfl rfl ?_
  refine L_then (kp [4, 5, 6, 31] rfl) ?_
  refine V_cond rfl ?_ ?_
  ·intro c4; try simp only [td] at c4
   have he9 := c4
   refine V_region rfl ?_
   refine La rfl rfl rfl ?_
   refine L_keep (kp [4, 5, 6] rfl) (blk_n (then_n ?_))
   refine V_seq (V_draw (.rd 0 (.rd 1 (.rd 2 (.wr 3 [2, 1] (.wr 4 [2] (.wr 5 [] .done)))))) mixed (by kernel_rfl) rfl ?_)
   refine Dr rfl rfl (rlA (vs := [_, _, _, _]) ag30 sz30 rfl rfl rfl) ?_
   refine Dr rfl rfl (rlA (vs := [_, _]) ag24 sz24 rfl rfl rfl) ?_
   refine Dm rfl rfl rfl rfl ?_
   refine D_wr (.go (E' := [(1, _)]) rfl (.plain rfl) (ws (cs' := [_, _, _, _]) sz30 rfl rfl rfl rfl rfl rfl rfl) rfl ?_)
   rintro _ _ ⟨rfl, rfl⟩
   refine ⟨(.cons rfl (.plain rfl) (rlA (vs := [_, _]) ag24 sz24 rfl rfl rfl) .nil), ?_⟩
   refine D_wr (.go (E' := []) rfl (.plain rfl) (ws (cs' := [_, _]) sz24 rfl rfl rfl rfl rfl rfl rfl) rfl ?_)
   rintro _ _ ⟨rfl, rfl⟩
   refine ⟨.nil, ?_⟩
   refine D_wr (.go (E' := []) rfl (.plain rfl) (rd_wr (RdP.rd (p_assign rfl rfl))) rfl ?_)
   rintro _ _ ⟨rfl, rfl⟩
   refine ⟨.nil, ?_⟩
   refine D_then (kp [4, 5, 6] rfl) ?_
   refine V_ret ?_
   refine Leave.nil (.cellA (us := [_, _, _, _]) rfl ag30 sz30 (by repeat first | exact mH | apply mT) rfl (.cellA (us := [_, _]) rfl ag24 sz24 (by repeat first | exact mH | apply mT) rfl (.tmp rfl .nil))) ?_
   rw [he9]; rfl
  intro c4; try simp only [td] at c4
  have he9 := c4
  refine V_skip (blk_n (then_n ?_))
  refine V_seq (V_draw (.rd 0 (.rd 1 (.rd 2 (.wr 3 [2, 1] (.wr 4 [2] (.wr 5 [] .done)))))) mixed (by kernel_rfl) rfl ?_)
  refine Dr rfl rfl (rlA (vs := [_, _, _, _]) ag30 sz30 rfl rfl rfl) ?_
  refine Dr rfl rfl (rlA (vs := [_, _]) ag24 sz24 rfl rfl rfl) ?_
  refine Dm rfl rfl rfl rfl ?_
  refine D_wr (.go (E' := [(1, _)]) rfl (.plain rfl) (ws (cs' := [_, _, _, _]) sz30 rfl rfl rfl rfl rfl rfl rfl) rfl ?_)
  rintro _ _ ⟨rfl, rfl⟩
  refine ⟨(.cons rfl (.plain rfl) (rlA (vs := [_, _]) ag24 sz24 rfl rfl rfl) .nil), ?_⟩
  refine D_wr (.go (E' := []) rfl (.plain rfl) (ws (cs' := [_, _]) sz24 rfl rfl rfl rfl rfl rfl rfl) rfl ?_)
  rintro _ _ ⟨rfl, rfl⟩
  refine ⟨.nil, ?_⟩
  refine D_wr (.go (E' := []) rfl (.plain rfl) (rd_wr (RdP.rd (p_assign rfl rfl))) rfl ?_)
  rintro _ _ ⟨rfl, rfl⟩
  refine ⟨.nil, ?_⟩
  refine D_then (kp [4, 5, 6] rfl) ?_
  refine V_ret ?_
  refine Leave.nil (.cellA (us := [_, _, _, _]) rfl ag30 sz30 (by repeat first | exact mH | apply mT) rfl (.cellA (us := [_, _]) rfl ag24 sz24 (by repeat first | exact mH | apply mT) rfl (.tmp rfl .nil))) ?_
  have := fallT_e p.grav b
  have e0 : (fallT p.grav b).e = 0 := by omega
  rw [e0, hb]; rfl
 intro c1; try simp only [td] at c1
 have hpe := c1
 refine V_skip (then_n ?_)
 refine V_seq ?_
 refine Vs rfl ?_
 refine Lm rfl rfl rfl ?_
 refine Lp rfl (p_neq rfl rfl rfl) ?_
 refine L_then (kp [2, 3, 4, 5, 6, 15] rfl) ?_
 refine V_cond rfl ?_ ?_
 ·intro c5; try simp only [td] at c5
  have hq := c5
  refine Vs rfl ?_
  refine Lp rfl (p_build (r := [_, _, _, _]) pl30 zr30 rfl rfl rfl) ?_
  refine Lp rfl (p_build (r := [_, _]) pl24 zr24 rfl rfl rfl) ?_
  refine Lm rfl rfl rfl ?_
  refine Ls (cs' := [_, _, _, _]) rfl sz30 rfl rfl rfl rfl rfl rfl rfl ?_
  refine Ls (cs' := [_, _]) rfl sz24 rfl rfl rfl rfl rfl rfl rfl ?_
  refine La rfl rfl rfl ?_
  refine L_then (kp [4, 5, 6] rfl) ?_
  refine V_ret (then_r ?_)
  refine Leave.nil (.cellA (us := [_, _, _, _]) rfl ag30 sz30 (by repeat first | exact mH | apply mT) rfl (.cellA (us := [_, _]) rfl ag24 sz24 (by repeat first | exact mH | apply mT) rfl (.tmp rfl .nil))) ?_
  have hf : De.fallP p b = ⟨spZ, spZ, spZ, planE p⟩ := by unfold De.fallP; rw [if_pos (by omega)]
  rw [hf]
  all_goals rfl
 intro c5; try simp only [td] at c5
 exfalso; omega
theorem dmeas1_c (a : Int) (s : Span) (h1 : InI (a * s.lo)) (h2 : InI (a * s.hi)) (w : World) : FnP Tryz.prog 85 [.int .i64 a, .agg #[.int .i64 s.lo, .int .i64 s.hi]] w (.tuple #[.int .i64 (min (a * s.lo) (a * s.hi)), .int .i64 (max (a * s.lo) (a * s.hi))]) := by
 refine fn_pure Tryz.func85 rfl (by kernel_rfl) Tryz.ntmps85 Tryz.results85 rfl ?_
 refine Vs rfl ?_
 refine Lw rfl (w_box rfl rfl) ?_
 rintro _ _ ⟨b1, hb1, rfl, rfl⟩
 iterate 2 refine La rfl rfl rfl ?_
 refine L_then (kp [0, 3] rfl) ?_
 refine V_seq (V_draw (.rd 0 (.rd 1 (.rd 2 (.rd 3 (.rd 4 (.rd 5 (.rd 6 (.rd 7 (.rd 8 (.rd 9 (.rd 10 (.rd 11 (.rd 12 (.rd 13 (.rd 14 (.rd 15 (.rd 16 (.rd 17 (.rd 18 (.rd 19 .done)))))))))))))))))))) mixed (by kernel_rfl) rfl ?_)
 refine Dm rfl rfl rfl rfl ?_
 refine Dp rfl rfl (p_fieldo fo24_0 rfl rfl) ?_
 refine Dr rfl rfl (rl ag3 rfl rfl rfl) ?_
 refine Dp rfl rfl (p_mul' rfl rfl rfl (h1)) ?_
 refine Dm rfl rfl rfl rfl ?_
 refine Dp rfl rfl (p_fieldo fo24_1 rfl rfl) ?_
 refine Dr rfl rfl (rl ag3 rfl rfl rfl) ?_
 refine Dp rfl rfl (p_mul' rfl rfl rfl (h2)) ?_
 refine Dp rfl rfl (p_min rfl rfl rfl) ?_
 refine Dm rfl rfl rfl rfl ?_
 refine Dp rfl rfl (p_fieldo fo24_0 rfl rfl) ?_
 refine Dr rfl rfl (rl ag3 rfl rfl rfl) ?_
 refine Dp rfl rfl (p_mul' rfl rfl rfl (h1)) ?_
 refine Dm rfl rfl rfl rfl ?_
 refine Dp rfl rfl (p_fieldo fo24_1 rfl rfl) ?_
 refine Dr rfl rfl (rl ag3 rfl rfl rfl) ?_
 refine Dp rfl rfl (p_mul' rfl rfl rfl (h2)) ?_
 refine Dp rfl rfl (p_max rfl rfl rfl) ?_
 iterate 2 refine Dp rfl rfl (p_assign rfl rfl) ?_
 refine D_then (kp [4, 5] rfl) ?_
 refine V_ret ?_
 refine Leave.nil (.tmp rfl (.tmp rfl .nil)) ?_
 rfl
set_option maxHeartbeats 4000000 in
theorem dmeas_c (l : De.Line) (x y : Span) (hl : LnB l) (hx : offS x = false) (hy : offS y = false) (w : World) : FnP Tryz.prog 44 [.agg (De.Line.cells l).toArray, .agg #[.int .i64 x.lo, .int .i64 x.hi, .int .i64 y.lo, .int .i64 y.hi]] w (.tuple #[.int .i64 (leastL l x y), .int .i64 (mostL l x y)]) := by
 have hx := off_false.1 hx
 have hy := off_false.1 hy
 have m0 := mul_abs (A := 1000) (B := 2000000000) (by omega) hl.a (b := x.lo) (by omega)
 have m1 := mul_abs (A := 1000) (B := 2000000000) (by omega) hl.a (b := x.hi) (by omega)
 have m2 := mul_abs (A := 1000) (B := 2000000000) (by omega) hl.b (b := y.lo) (by omega)
 have m3 := mul_abs (A := 1000) (B := 2000000000) (by omega) hl.b (b := y.hi) (by omega)
 refine fn_pure Tryz.func44 rfl (by kernel_rfl) Tryz.ntmps44 Tryz.results44 rfl ?_
 refine Vs rfl ?_
 refine Lw rfl (w_box rfl rfl) ?_
 rintro _ _ ⟨b1, hb1, rfl, rfl⟩
 refine Lw rfl (w_box rfl rfl) ?_
 rintro _ _ ⟨b2, hb2, rfl, rfl⟩
 iterate 2 refine La rfl rfl rfl ?_
 refine L_then (kp [2, 3] rfl) ?_
 refine Vs rfl ?_
 refine La rfl rfl rfl ?_
 refine L_then (kp [2, 3, 6] rfl) ?_
 refine Vs rfl ?_
 refine Lm rfl rfl rfl ?_
 refine Lp rfl (p_fieldo fo68_0 rfl rfl) ?_
 refine Lr rfl (rl ag3 rfl rfl rfl) ?_
 refine Lp rfl (p_fieldo fo30_0 rfl rfl) ?_
 refine Lr rfl (rlA (vs := [_, _]) ag24 sz24 rfl rfl rfl) ?_
 refine Lc rfl rfl rfl rfl (fun w hg => dmeas1_c l.a x (by unfold InI; omega) (by unfold InI; omega) w) ?_
 refine Lm rfl rfl rfl ?_
 iterate 2 refine Lp rfl (p_ext rfl rfl rfl) ?_
 iterate 2 refine La rfl rfl rfl ?_
 refine L_then (kp [2, 3, 6, 7, 8] rfl) ?_
 refine Vs rfl ?_
 refine Lm rfl rfl rfl ?_
 refine Lp rfl (p_fieldo fo68_1 rfl rfl) ?_
 refine Lr rfl (rl ag3 rfl rfl rfl) ?_
 refine Lp rfl (p_fieldo fo30_1 rfl rfl) ?_
 refine Lr rfl (rlA (vs := [_, _]) ag24 sz24 rfl rfl rfl) ?_
 refine Lc rfl rfl rfl rfl (fun w hg => dmeas1_c l.b y (by unfold InI; omega) (by unfold InI; omega) w) ?_
 refine Lm rfl rfl rfl ?_
 iterate 2 refine Lp rfl (p_ext rfl rfl rfl) ?_
 iterate 2 refine La rfl rfl rfl ?_
 refine L_then (kp [7, 8, 9, 10] rfl) ?_
 refine Vs rfl ?_
 iterate 2 refine Lm rfl rfl rfl ?_
 first | refine Lp rfl (p_add' rfl rfl rfl (by unfold InI; omega)) ?_ | refine Lp rfl (p_add rfl rfl rfl) ?_
 iterate 2 refine Lm rfl rfl rfl ?_
 first | refine Lp rfl (p_add' rfl rfl rfl (by unfold InI; omega)) ?_ | refine Lp rfl (p_add rfl rfl rfl) ?_
 iterate 2 refine La rfl rfl rfl ?_
 refine L_then (kp [4, 5] rfl) ?_
 refine V_ret ?_
 refine Leave.nil (.tmp rfl (.tmp rfl .nil)) ?_
 rfl
abbrev FnT := Nat × Array Value × Bool
def fnZ : FnT := (0, #[], false)
theorem idxFn_c (l : List FnT) (v : Value) (fid : Nat) (cap : Array Value) (p : FnT → Bool) (w : World) (hv : SliceR w 1 v (l.map (fun x : FnT => [Value.func (.func x.1) #[] x.2.1]))) (hl : (l.length : Int) ≤ 9223372036854775806) (hf : ∀ j : Nat, j < l.length → ∀ w', Ext w w' → FnP Tryz.prog fid (.func (.func (l.getD j fnZ).1) #[] (l.getD j fnZ).2.1 :: cap.toList) w' (.bool (p (l.getD j fnZ)))) : FnP Tryz.prog 121 [v, .func (.func fid) #[] cap] w (.int .i64 (Tk.firstIdx (fun i => p (l.getD i fnZ)) 0 l.length)) := by
 obtain ⟨a, ca, rfl, hcap, hel⟩ := hv.ex
 simp only [List.length_map]
 refine fn_pure Tryz.func121 rfl (by kernel_rfl) Tryz.ntmps121 Tryz.results121 rfl ?_
 refine Vs rfl ?_
 refine La rfl rfl rfl ?_
 refine L_then (kp [0, 1] rfl) ?_
 refine V_seq ?_
 refine Vs rfl ?_
 refine Lm rfl rfl rfl ?_
 refine Lp rfl (p_len isl154 rfl rfl) ?_
 refine Lm rfl rfl rfl ?_
 refine L_then (kp [0, 1, 7, 8] rfl) ?_
 refine V_block ?_
 refine V_loop0 (γ := Int) (kp [0, 1, 7] rfl) (fun k => [(8, .int .i64 k)]) (fun k => 0 ≤ k ∧ k ≤ l.length ∧ ∀ j : Nat, (j : Int) < k → p (l.getD j fnZ) = false) (fun k => (l.length - k).toNat) (0) (.cons rfl (.nil _)) (⟨by omega, by omega, fun j hj => by omega⟩) ?_
 rintro k hi
 obtain ⟨hk0, hk1, hkp⟩ := hi
 refine Vs rfl ?_
 refine Lp rfl (p_lss rfl rfl rfl) ?_
 refine L_then (kp [0, 1, 7, 8, 9] rfl) ?_
 refine V_seq ?_
 refine V_cond rfl ?_ ?_
 ·intro c1; try simp only [td] at c1
  obtain ⟨b, rfl, hc⟩ := hel k.toNat _ (getD_cells (d := fnZ) (by omega))
  refine V_skip (then_n ?_)
  refine V_seq ?_
  refine V_block ?_
  refine Vs rfl ?_
  refine Lm rfl rfl rfl ?_
  refine La rfl rfl rfl ?_
  refine L_then (kp [0, 1, 5, 7, 8] rfl) ?_
  refine Vs rfl ?_
  iterate 3 refine Lm rfl rfl rfl ?_
  refine Lp rfl (p_idx es154 rfl rfl rfl (by omega) (by omega)) ?_
  refine Lr rfl (r_loadB ag34 rfl rfl hc.zero List.not_mem_nil) ?_
  refine Lc rfl rfl rfl rfl (fun w hg => hf k.toNat (by omega) _ hg.toExt) ?_
  refine L_then (kp [0, 1, 5, 7, 8, 16] rfl) ?_
  refine V_cond rfl ?_ ?_
  ·intro c2; try simp only [td] at c2
   refine Vs rfl ?_
   refine Lm rfl rfl rfl ?_
   refine La rfl rfl rfl ?_
   refine L_then (kp [4] rfl) ?_
   refine V_ret (blk_r (then_r (then_r (blk_r (then_r ?_)))))
   refine Leave.nil (.tmp rfl .nil) ?_
   show Value.int .i64 k = _
   rw [firstIdx_hit (p := fun i => p (l.getD i fnZ)) (k := k.toNat) (by omega) c2 (fun j hj => hkp j (by omega))]
   congr 1; omega
  intro c2; try simp only [td] at c2
  refine V_skip (blk_n (then_n ?_))
  refine V_region rfl ?_
  first | refine Lp rfl (p_add' rfl rfl rfl (by unfold InI; omega)) ?_ | refine Lp rfl (p_add rfl rfl rfl) ?_
  refine Lm rfl rfl rfl ?_
  refine L_keep (kp [0, 1, 7, 8] rfl) (then_n ?_)
  refine ⟨k + 1, ?_, ?_, (.cons rfl (.cons rfl (.cons rfl (.cons rfl (.nil _))))), (by repeat (first | exact List.Sublist.refl _ | apply List.Sublist.cons_cons | apply List.Sublist.cons | apply List.sublist_append_of_sublist_right)), rfl⟩
  ·refine ⟨by omega, by omega, fun j hj => ?_⟩; by_cases e : (j : Int) < k
   ·exact hkp j e
   have : j = k.toNat := by omega
   rw [this]; exact c2
  omega
 intro c1; try simp only [td] at c1
 refine V_exit (then_e (then_e (blk_e rfl (then_n ?_))))
 refine Vs rfl ?_
 refine La rfl rfl rfl ?_
 refine L_then (kp [4] rfl) ?_
 refine V_ret ?_
 refine Leave.nil (.tmp rfl .nil) ?_
 show Value.int .i64 (-1) = _
 rw [firstIdx_none (p := fun i => p (l.getD i fnZ)) (fun j hj => hkp j (by omega))]
theorem contFn_c (l : List FnT) (v : Value) (fid : Nat) (cap : Array Value) (p : FnT → Bool) (w : World) (hv : SliceR w 1 v (l.map (fun x : FnT => [Value.func (.func x.1) #[] x.2.1]))) (hl : (l.length : Int) ≤ 9223372036854775806) (hf : ∀ j : Nat, j < l.length → ∀ w', Ext w w' → FnP Tryz.prog fid (.func (.func (l.getD j fnZ).1) #[] (l.getD j fnZ).2.1 :: cap.toList) w' (.bool (p (l.getD j fnZ)))) : FnP Tryz.prog 107 [v, .func (.func fid) #[] cap] w (.bool (l.any p)) := by
 refine fn_pure Tryz.func107 rfl (by kernel_rfl) Tryz.ntmps107 Tryz.results107 rfl ?_
 refine Vs rfl ?_
 refine La rfl rfl rfl ?_
 refine L_then (kp [0, 1] rfl) ?_
 refine Vs rfl ?_
 iterate 2 refine Lm rfl rfl rfl ?_
 refine Lc rfl rfl rfl rfl (fun w hg => idxFn_c l _ _ _ p w (hv.good hg) hl (fun j hj w' he => hf j hj w' (hg.toExt.trans he))) ?_
 refine Lp rfl (p_geq rfl rfl rfl) ?_
 refine La rfl rfl rfl ?_
 refine L_then (kp [4] rfl) ?_
 refine V_ret ?_
 refine Leave.nil (.tmp rfl .nil) ?_
 show Value.bool _ = _
 rw [firstIdx_any, anyIdx_list]
theorem idxLn_c (l : List De.Line) (v : Value) (fid : Nat) (cap : Array Value) (p : De.Line → Bool) (w : World) (hv : SliceR w 4 v (l.map (De.Line.cells))) (hl : (l.length : Int) ≤ 9223372036854775806) (hf : ∀ j : Nat, j < l.length → ∀ w', Ext w w' → FnP Tryz.prog fid (.agg (De.Line.cells (l.getD j lnZ)).toArray :: cap.toList) w' (.bool (p (l.getD j lnZ)))) : FnP Tryz.prog 49 [v, .func (.func fid) #[] cap] w (.int .i64 (Tk.firstIdx (fun i => p (l.getD i lnZ)) 0 l.length)) := by
 obtain ⟨a, ca, rfl, hcap, hel⟩ := hv.ex
 simp only [List.length_map]
 refine fn_pure Tryz.func49 rfl (by kernel_rfl) Tryz.ntmps49 Tryz.results49 rfl ?_
 refine Vs rfl ?_
 refine La rfl rfl rfl ?_
 refine L_then (kp [0, 1] rfl) ?_
 refine V_seq ?_
 refine Vs rfl ?_
 refine Lm rfl rfl rfl ?_
 refine Lp rfl (p_len isl22 rfl rfl) ?_
 refine Lm rfl rfl rfl ?_
 refine L_then (kp [0, 1, 7, 8] rfl) ?_
 refine V_block ?_
 refine V_loop0 (γ := Int) (kp [0, 1, 7] rfl) (fun k => [(8, .int .i64 k)]) (fun k => 0 ≤ k ∧ k ≤ l.length ∧ ∀ j : Nat, (j : Int) < k → p (l.getD j lnZ) = false) (fun k => (l.length - k).toNat) (0) (.cons rfl (.nil _)) (⟨by omega, by omega, fun j hj => by omega⟩) ?_
 rintro k hi
 obtain ⟨hk0, hk1, hkp⟩ := hi
 refine Vs rfl ?_
 refine Lp rfl (p_lss rfl rfl rfl) ?_
 refine L_then (kp [0, 1, 7, 8, 9] rfl) ?_
 refine V_seq ?_
 refine V_cond rfl ?_ ?_
 ·intro c1; try simp only [td] at c1
  obtain ⟨b, rfl, hc⟩ := hel k.toNat _ (getD_cells (d := lnZ) (by omega))
  refine V_skip (then_n ?_)
  refine V_seq ?_
  refine V_block ?_
  refine Vs rfl ?_
  refine Lm rfl rfl rfl ?_
  refine La rfl rfl rfl ?_
  refine L_then (kp [0, 1, 5, 7, 8] rfl) ?_
  refine Vs rfl ?_
  iterate 3 refine Lm rfl rfl rfl ?_
  refine Lp rfl (p_idx es22 rfl rfl rfl (by omega) (by omega)) ?_
  refine Lr rfl (r_loadBA ag68 sz68 rfl rfl hc rfl List.not_mem_nil) ?_
  refine Lc rfl rfl rfl rfl (fun w hg => hf k.toNat (by omega) _ hg.toExt) ?_
  refine L_then (kp [0, 1, 5, 7, 8, 16] rfl) ?_
  refine V_cond rfl ?_ ?_
  ·intro c2; try simp only [td] at c2
   refine Vs rfl ?_
   refine Lm rfl rfl rfl ?_
   refine La rfl rfl rfl ?_
   refine L_then (kp [4] rfl) ?_
   refine V_ret (blk_r (then_r (then_r (blk_r (then_r ?_)))))
   refine Leave.nil (.tmp rfl .nil) ?_
   show Value.int .i64 k = _
   rw [firstIdx_hit (p := fun i => p (l.getD i lnZ)) (k := k.toNat) (by omega) c2 (fun j hj => hkp j (by omega))]
   congr 1; omega
  intro c2; try simp only [td] at c2
  refine V_skip (blk_n (then_n ?_))
  refine V_region rfl ?_
  first | refine Lp rfl (p_add' rfl rfl rfl (by unfold InI; omega)) ?_ | refine Lp rfl (p_add rfl rfl rfl) ?_
  refine Lm rfl rfl rfl ?_
  refine L_keep (kp [0, 1, 7, 8] rfl) (then_n ?_)
  refine ⟨k + 1, ?_, ?_, (.cons rfl (.cons rfl (.cons rfl (.cons rfl (.nil _))))), (by repeat (first | exact List.Sublist.refl _ | apply List.Sublist.cons_cons | apply List.Sublist.cons | apply List.sublist_append_of_sublist_right)), rfl⟩
  ·refine ⟨by omega, by omega, fun j hj => ?_⟩; by_cases e : (j : Int) < k
   ·exact hkp j e
   have : j = k.toNat := by omega
   rw [this]; exact c2
  omega
 intro c1; try simp only [td] at c1
 refine V_exit (then_e (then_e (blk_e rfl (then_n ?_))))
 refine Vs rfl ?_
 refine La rfl rfl rfl ?_
 refine L_then (kp [4] rfl) ?_
 refine V_ret ?_
 refine Leave.nil (.tmp rfl .nil) ?_
 show Value.int .i64 (-1) = _
 rw [firstIdx_none (p := fun i => p (l.getD i lnZ)) (fun j hj => hkp j (by omega))]
theorem contLn_c (l : List De.Line) (v : Value) (fid : Nat) (cap : Array Value) (p : De.Line → Bool) (w : World) (hv : SliceR w 4 v (l.map (De.Line.cells))) (hl : (l.length : Int) ≤ 9223372036854775806) (hf : ∀ j : Nat, j < l.length → ∀ w', Ext w w' → FnP Tryz.prog fid (.agg (De.Line.cells (l.getD j lnZ)).toArray :: cap.toList) w' (.bool (p (l.getD j lnZ)))) : FnP Tryz.prog 48 [v, .func (.func fid) #[] cap] w (.bool (l.any p)) := by
 refine fn_pure Tryz.func48 rfl (by kernel_rfl) Tryz.ntmps48 Tryz.results48 rfl ?_
 refine Vs rfl ?_
 refine La rfl rfl rfl ?_
 refine L_then (kp [0, 1] rfl) ?_
 refine Vs rfl ?_
 iterate 2 refine Lm rfl rfl rfl ?_
 refine Lc rfl rfl rfl rfl (fun w hg => idxLn_c l _ _ _ p w (hv.good hg) hl (fun j hj w' he => hf j hj w' (hg.toExt.trans he))) ?_
 refine Lp rfl (p_geq rfl rfl rfl) ?_
 refine La rfl rfl rfl ?_
 refine L_then (kp [4] rfl) ?_
 refine V_ret ?_
 refine Leave.nil (.tmp rfl .nil) ?_
 show Value.bool _ = _
 rw [firstIdx_any, anyIdx_list]
theorem dsome1_c (f : Nat) (cf : Array Value) (p : Bool) (w : World) (h : ∀ w', Ext w w' → FnP Tryz.prog f cf.toList w' (.bool p)) : FnP Tryz.prog 108 [.func (.func f) #[] cf] w (.bool p) := by
 refine fn_pure Tryz.func108 rfl (by kernel_rfl) Tryz.ntmps108 Tryz.results108 rfl ?_
 refine Vs rfl ?_
 refine La rfl rfl rfl ?_
 refine L_then (kp [0] rfl) ?_
 refine Vs rfl ?_
 refine Lm rfl rfl rfl ?_
 refine Lc rfl rfl rfl rfl (fun w hg => h _ hg.toExt) ?_
 refine La rfl rfl rfl ?_
 refine L_then (kp [2] rfl) ?_
 refine V_ret ?_
 refine Leave.nil (.tmp rfl .nil) ?_
 rfl
theorem dsome_c (l : List FnT) (v : Value) (w : World) (hv : SliceR w 1 v (l.map fun x : FnT => [Value.func (.func x.1) #[] x.2.1])) (hl : (l.length : Int) ≤ 9223372036854775806) (hf : ∀ j : Nat, j < l.length → ∀ w', Ext w w' → FnP Tryz.prog (l.getD j fnZ).1 (l.getD j fnZ).2.1.toList w' (.bool (l.getD j fnZ).2.2)) : FnP Tryz.prog 82 [v] w (.bool (l.any fun x => x.2.2)) := by
 refine fn_pure Tryz.func82 rfl (by kernel_rfl) Tryz.ntmps82 Tryz.results82 rfl ?_
 refine Vs rfl ?_
 refine La rfl rfl rfl ?_
 refine L_then (kp [0] rfl) ?_
 refine Vs rfl ?_
 refine Lm rfl rfl rfl ?_
 refine Lc rfl rfl rfl rfl (fun w hg => contFn_c l _ _ _ (fun x => x.2.2) w (hv.good hg) hl (fun j hj w' he => dsome1_c _ _ _ w' fun w2 he2 => hf j hj w2 ((hg.toExt.trans he).trans he2))) ?_
 refine La rfl rfl rfl ?_
 refine L_then (kp [2] rfl) ?_
 refine V_ret ?_
 refine Leave.nil (.tmp rfl .nil) ?_
 rfl
theorem dasked1_c (x y : Span) (b ty : Nat) (fr : Nat × Nat) (w : World) (hb : w.heap[b]? = some (.cells #[.int .i64 x.lo, .int .i64 x.hi, .int .i64 y.lo, .int .i64 y.hi] ty fr)) : FnP Tryz.prog 83 [.pointer (some ⟨b, 0, none⟩)] w (.bool (offS x)) := by
 refine fn_pure Tryz.func83 rfl (by kernel_rfl) Tryz.ntmps83 Tryz.results83 rfl ?_
 refine Vs rfl ?_
 refine La rfl rfl rfl ?_
 refine L_then (kp [0] rfl) ?_
 refine Vs rfl ?_
 refine Lp rfl (p_fieldo fo30_0 rfl rfl) ?_
 refine Lr rfl (r_loadBA (vs := [_, _]) ag24 sz24 rfl rfl (own_slice (n := 2) (vs := [_, _]) hb rfl).1 rfl List.not_mem_nil) ?_
 refine Lc rfl rfl rfl rfl (fun w hg => doff_c _ w) ?_
 refine La rfl rfl rfl ?_
 refine L_then (kp [1] rfl) ?_
 refine V_ret ?_
 refine Leave.nil (.tmp rfl .nil) ?_
 rfl
theorem dasked2_c (x y : Span) (b ty : Nat) (fr : Nat × Nat) (w : World) (hb : w.heap[b]? = some (.cells #[.int .i64 x.lo, .int .i64 x.hi, .int .i64 y.lo, .int .i64 y.hi] ty fr)) : FnP Tryz.prog 84 [.pointer (some ⟨b, 0, none⟩)] w (.bool (offS y)) := by
 refine fn_pure Tryz.func84 rfl (by kernel_rfl) Tryz.ntmps84 Tryz.results84 rfl ?_
 refine Vs rfl ?_
 refine La rfl rfl rfl ?_
 refine L_then (kp [0] rfl) ?_
 refine Vs rfl ?_
 refine Lp rfl (p_fieldo fo30_1 rfl rfl) ?_
 refine Lr rfl (r_loadBA (vs := [_, _]) ag24 sz24 rfl rfl (own_slice (n := 2) (vs := [_, _]) hb rfl).1 rfl List.not_mem_nil) ?_
 refine Lc rfl rfl rfl rfl (fun w hg => doff_c _ w) ?_
 refine La rfl rfl rfl ?_
 refine L_then (kp [1] rfl) ?_
 refine V_ret ?_
 refine Leave.nil (.tmp rfl .nil) ?_
 rfl
theorem dasked_c (x y : Span) (p : De.Plan) (pv : Value) (w : World) (hp : PlanR w pv p) : FnP Tryz.prog 43 [pv, .agg #[.int .i64 x.lo, .int .i64 x.hi, .int .i64 y.lo, .int .i64 y.hi]] w (.int .i64 (areaE p x y)) := by
 have hP := hp
 obtain ⟨lv, rfl, hls⟩ := hp.ex
 have hlen := hp.len
 refine fn_pure Tryz.func43 rfl (by kernel_rfl) Tryz.ntmps43 Tryz.results43 rfl ?_
 refine Vs rfl ?_
 refine Lw rfl (w_box rfl rfl) ?_
 rintro _ _ ⟨b1, hb1, rfl, rfl⟩
 refine Lw rfl (w_box rfl rfl) ?_
 rintro _ _ ⟨b2, hb2, rfl, rfl⟩
 refine La rfl rfl rfl ?_
 refine L_then (kp [2, 3] rfl) ?_
 refine V_seq ?_
 refine Vs rfl ?_
 refine Lr rfl (rlA (vs := [_, _, _, _, _]) ag26 sz26 rfl rfl rfl) ?_
 refine Lc rfl rfl rfl rfl (fun w hg => dvalid_c p _ w (hP.good hg)) ?_
 refine La rfl rfl rfl ?_
 refine L_then (kp [3, 5] rfl) ?_
 refine Vs rfl ?_
 refine Lm rfl rfl rfl ?_
 refine Lp rfl (p_neq rfl rfl rfl) ?_
 refine L_then (kp [3, 5, 9] rfl) ?_
 refine V_cond rfl ?_ ?_
 ·intro c1; try simp only [td] at c1
  refine Vs rfl ?_
  refine Lm rfl rfl rfl ?_
  refine La rfl rfl rfl ?_
  refine L_then (kp [4] rfl) ?_
  refine V_ret (then_r ?_)
  refine Leave.nil (.tmp rfl .nil) ?_
  unfold areaE; rw [if_pos (by assumption)]; rfl
 intro c1; try simp only [td] at c1
 refine V_skip (then_n ?_)
 refine V_seq ?_
 refine Vs rfl ?_
 iterate 2 refine Lp rfl (p_func rfl rfl rfl) ?_
 refine Lw rfl (w_slice (r := [_, _]) un154 sz34 zr34 rfl (by decide) rfl (by decide) rfl rfl) ?_
 rintro _ _ ⟨b3, hb3, rfl, rfl⟩
 refine L_go rfl (X_wr (w_callP rfl rfl rfl (fun w hg => dsome_c [(83, #[.pointer (some ⟨b2, 0, none⟩)], offS x), (84, #[.pointer (some ⟨b2, 0, none⟩)], offS y)] _ w (own_rows (hg.own _ (by repeat first | exact mH | apply mT)) rfl (by simp) rfl (by decide)) (by simp) (fun j hj w' he => by
  have hh := he.heap (hg.own (b2, _) (by repeat first | exact mH | apply mT))
  rcases j with _ | _ | j
  ·exact dasked1_c x y _ _ _ w' hh
  ·exact dasked2_c x y _ _ _ w' hh
  simp at hj; omega))) ?_)
 rintro _ _ ⟨rfl, rfl⟩
 refine L_then (kp [14] rfl) ?_
 refine V_cond rfl ?_ ?_
 ·intro c2; try simp only [td] at c2
  refine Vs rfl ?_
  refine La rfl rfl rfl ?_
  refine L_then (kp [4] rfl) ?_
  refine V_ret (then_r ?_)
  refine Leave.nil (.tmp rfl .nil) ?_
  unfold areaE; rw [if_neg (by omega), if_pos (by simpa using c2)]; rfl
 intro c2; try simp only [td] at c2
 refine V_skip (then_n ?_)
 refine Vs rfl ?_
 refine La rfl rfl rfl ?_
 refine L_then (kp [4] rfl) ?_
 refine V_ret ?_
 refine Leave.nil (.tmp rfl .nil) ?_
 unfold areaE; rw [if_neg (by omega), if_neg (by simpa using c2)]; rfl

end Go.Proofs.YtlcccpeelombbaaGreatDoor

/- YtlcccpeelombbaaGreatDoor: what is asked; the box that is used; sides. -/
set_option linter.all false
namespace Go.Proofs.YtlcccpeelombbaaGreatDoor
open Go.Vc Go.Tk Go.De
set_option maxRecDepth 100000
theorem dat1_c (n : Int) (w : World) : FnP Tryz.prog 71 [.int .i64 n] w (.bool (oP n 0 100000)) := by
 refine fn_pure Tryz.func71 rfl (by kernel_rfl) Tryz.ntmps71 Tryz.results71 rfl ?_
 refine Vs rfl ?_
 refine La rfl rfl rfl ?_
 refine L_then (kp [0] rfl) ?_
 refine Vs rfl ?_
 refine Lm rfl rfl rfl ?_
 refine Lc rfl rfl rfl rfl (fun w hg => dout_c _ _ _ w) ?_
 refine La rfl rfl rfl ?_
 refine L_then (kp [2] rfl) ?_
 refine V_ret ?_
 refine Leave.nil (.tmp rfl .nil) ?_
 rfl
theorem dat_c (p : De.Plan) (pv : Value) (w : World) (hp : PlanR w pv p) (t : Task) (tv qv : Value) (ht : TaskR w (.agg #[.int .i64 t.frm, .int .i64 t.speed, .int .i64 t.accel, tv, qv]) t) (l : List Int) (lv : Value) (hl : SliceR w 1 lv (l.map fun n => [Value.int .i64 n])) (hll : (l.length : Int) ≤ 9223372036854775806) : FnP Tryz.prog 36 [pv, .agg #[.int .i64 t.frm, .int .i64 t.speed, .int .i64 t.accel, tv, qv], lv] w (.int .i64 (ticksE p t l)) := by
 have hP := hp
 obtain ⟨lv, rfl, hls⟩ := hp.ex
 have hlen := hp.len
 have hT := ht
 refine fn_pure Tryz.func36 rfl (by kernel_rfl) Tryz.ntmps36 Tryz.results36 rfl ?_
 refine Vs rfl ?_
 refine Lw rfl (w_box rfl rfl) ?_
 rintro _ _ ⟨b1, hb1, rfl, rfl⟩
 refine Lw rfl (w_box rfl rfl) ?_
 rintro _ _ ⟨b2, hb2, rfl, rfl⟩
 refine La rfl rfl rfl ?_
 refine L_then (kp [2, 3, 4] rfl) ?_
 refine Vs rfl ?_
 refine Lr rfl (rlA (vs := [_, _, _, _, _]) ag26 sz26 rfl rfl rfl) ?_
 refine Lc rfl rfl rfl rfl (fun w hg => dvalid_c p _ w (hP.good hg)) ?_
 refine La rfl rfl rfl ?_
 refine L_then (kp [2, 4, 7] rfl) ?_
 refine V_seq ?_
 refine Vs rfl ?_
 refine Lm rfl rfl rfl ?_
 refine Lp rfl (p_eql rfl rfl rfl) ?_
 refine L_then (kp [2, 4, 7, 11] rfl) ?_
 refine V_cond rfl ?_ ?_
 ·intro c1; try simp only [td] at c1
  have hpe := c1
  refine V_region rfl ?_
  refine Lr rfl (rlA (vs := [_, _, _, _, _]) ag39 sz39 rfl rfl rfl) ?_
  refine Lc rfl rfl rfl rfl (fun w hg => check_c t _ w (hT.good hg)) ?_
  refine Lm rfl rfl rfl ?_
  iterate 3 refine Lp rfl (p_ext rfl rfl rfl) ?_
  refine La rfl rfl rfl ?_
  refine L_then (kp [2, 7] rfl) ?_
  refine V_seq ?_
  refine Vs rfl ?_
  refine Lm rfl rfl rfl ?_
  refine Lp rfl (p_eql rfl rfl rfl) ?_
  refine Lm rfl rfl rfl ?_
  refine L_cases (d := 20) rfl ?_ ?_
  ·intro g1; have g1' := g1; try simp only [td] at g1'
   refine L_yes rfl rfl rfl g1 (X_p (p_move rfl rfl) ?_)
   refine L_yes rfl rfl rfl g1 (X_wr (w_callP rfl rfl rfl (fun w hg => contInt_c l _ _ _ _ w (hl.good hg) hll (fun x w' he => dat1_c x w'))) ?_)
   rintro _ _ ⟨rfl, rfl⟩
   refine Lp rfl (p_pick_t rfl rfl g1 rfl) ?_
   refine L_then (kp [7, 23] rfl) ?_
   refine V_cond rfl ?_ ?_
   ·intro c2; try simp only [td] at c2
    refine V_region rfl ?_
    refine La rfl rfl rfl ?_
    refine L_then (kp [7] rfl) ?_
    refine Vs rfl ?_
    refine Lm rfl rfl rfl ?_
    refine La rfl rfl rfl ?_
    refine L_then (kp [6] rfl) ?_
    refine V_ret ?_
    refine Leave.nil (.tmp rfl .nil) ?_
    show Value.int .i64 _ = _
    unfold ticksE taskE
    first | (rw [if_neg (show ¬(planE p ≠ 0) by omega)]; simp [*]; done) | (rw [if_pos (show planE p ≠ 0 by omega)]; simp [*]; done)
   intro c2; try simp only [td] at c2
   refine V_skip (then_n ?_)
   refine Vs rfl ?_
   refine Lm rfl rfl rfl ?_
   refine La rfl rfl rfl ?_
   refine L_then (kp [6] rfl) ?_
   refine V_ret ?_
   refine Leave.nil (.tmp rfl .nil) ?_
   show Value.int .i64 _ = _
   unfold ticksE taskE
   first | (rw [if_neg (show ¬(planE p ≠ 0) by omega)]; simp [*]; done) | (rw [if_pos (show planE p ≠ 0 by omega)]; simp [*]; done)
  intro g1; have g1' := g1; try simp only [td] at g1'
  iterate 2 refine L_no rfl rfl rfl g1 ?_
  refine Lp rfl (p_pick_f rfl rfl g1 rfl) ?_
  refine L_then (kp [7, 23] rfl) ?_
  refine V_cond_f rfl rfl ?_
  refine V_skip (then_n ?_)
  refine Vs rfl ?_
  refine Lm rfl rfl rfl ?_
  refine La rfl rfl rfl ?_
  refine L_then (kp [6] rfl) ?_
  refine V_ret ?_
  refine Leave.nil (.tmp rfl .nil) ?_
  show Value.int .i64 _ = _
  unfold ticksE taskE
  first | (rw [if_neg (show ¬(planE p ≠ 0) by omega)]; simp [*]; done) | (rw [if_pos (show planE p ≠ 0 by omega)]; simp [*]; done)
 intro c1; try simp only [td] at c1
 have hpe := c1
 refine V_skip (then_n ?_)
 refine V_seq ?_
 refine Vs rfl ?_
 refine Lm rfl rfl rfl ?_
 refine Lp rfl (p_eql rfl rfl rfl) ?_
 refine Lm rfl rfl rfl ?_
 refine L_cases (d := 20) rfl ?_ ?_
 ·intro g2; have g2' := g2; try simp only [td] at g2'
  refine L_yes rfl rfl rfl g2 (X_p (p_move rfl rfl) ?_)
  refine L_yes rfl rfl rfl g2 (X_wr (w_callP rfl rfl rfl (fun w hg => contInt_c l _ _ _ _ w (hl.good hg) hll (fun x w' he => dat1_c x w'))) ?_)
  rintro _ _ ⟨rfl, rfl⟩
  refine Lp rfl (p_pick_t rfl rfl g2 rfl) ?_
  refine L_then (kp [7, 23] rfl) ?_
  refine V_cond rfl ?_ ?_
  ·intro c3; try simp only [td] at c3
   refine V_region rfl ?_
   refine La rfl rfl rfl ?_
   refine L_then (kp [7] rfl) ?_
   refine Vs rfl ?_
   refine Lm rfl rfl rfl ?_
   refine La rfl rfl rfl ?_
   refine L_then (kp [6] rfl) ?_
   refine V_ret ?_
   refine Leave.nil (.tmp rfl .nil) ?_
   show Value.int .i64 _ = _
   unfold ticksE taskE
   first | (rw [if_neg (show ¬(planE p ≠ 0) by omega)]; simp [*]; done) | (rw [if_pos (show planE p ≠ 0 by omega)]; simp [*]; done)
  intro c3; try simp only [td] at c3
  refine V_skip (then_n ?_)
  refine Vs rfl ?_
  refine Lm rfl rfl rfl ?_
  refine La rfl rfl rfl ?_
  refine L_then (kp [6] rfl) ?_
  refine V_ret ?_
  refine Leave.nil (.tmp rfl .nil) ?_
  show Value.int .i64 _ = _
  unfold ticksE taskE
  first | (rw [if_neg (show ¬(planE p ≠ 0) by omega)]; simp [*]; done) | (rw [if_pos (show planE p ≠ 0 by omega)]; simp [*]; done)
 intro g2; have g2' := g2; try simp only [td] at g2'
 iterate 2 refine L_no rfl rfl rfl g2 ?_
 refine Lp rfl (p_pick_f rfl rfl g2 rfl) ?_
 refine L_then (kp [7, 23] rfl) ?_
 refine V_cond_f rfl rfl ?_
 refine V_skip (then_n ?_)
 refine Vs rfl ?_
 refine Lm rfl rfl rfl ?_
 refine La rfl rfl rfl ?_
 refine L_then (kp [6] rfl) ?_
 refine V_ret ?_
 refine Leave.nil (.tmp rfl .nil) ?_
 show Value.int .i64 _ = _
 unfold ticksE taskE
 first | (rw [if_neg (show ¬(planE p ≠ 0) by omega)]; simp [*]; done) | (rw [if_pos (show planE p ≠ 0 by omega)]; simp [*]; done)
set_option maxHeartbeats 4000000 in
theorem dused_c (now : Int) (hn : 0 ≤ now ∧ now ≤ 100000) (p : De.Plan) (pv : Value) (w : World) (hp : PlanR w pv p) (hgp : GoodP p) (t : Task) (tv qv : Value) (ht : TaskR w (.agg #[.int .i64 t.frm, .int .i64 t.speed, .int .i64 t.accel, tv, qv]) t) (hG : GoodT t) : FnP Tryz.prog 41 [pv, .agg #[.int .i64 t.frm, .int .i64 t.speed, .int .i64 t.accel, tv, qv], .int .i64 now] w (.tuple #[.agg (Box.cells (usedQ p t now).1).toArray, .int .i64 (usedQ p t now).2.1, .bool (usedQ p t now).2.2]) := by
 have hP := hp
 obtain ⟨lv, rfl, hls⟩ := hp.ex
 have hlen := hp.len
 have hT := ht
 obtain ⟨hln, hgr, hwt, hbl⟩ := hgp.nums
 refine fn_pure Tryz.func41 rfl (by kernel_rfl) Tryz.ntmps41 Tryz.results41 rfl ?_
 refine Vs rfl ?_
 refine Lw rfl (w_box rfl rfl) ?_
 rintro _ _ ⟨b1, hb1, rfl, rfl⟩
 refine Lw rfl (w_box rfl rfl) ?_
 rintro _ _ ⟨b2, hb2, rfl, rfl⟩
 refine Lw rfl (w_alloc zr28 rfl) ?_
 rintro _ _ ⟨b3, hb3, rfl, rfl⟩
 iterate 2 refine La rfl rfl rfl ?_
 refine L_then (kp [2, 3, 4, 6] rfl) ?_
 refine V_seq ?_
 refine Vs rfl ?_
 refine Lm rfl rfl rfl ?_
 refine La rfl rfl rfl ?_
 refine L_then (kp [2, 3, 4, 6, 7] rfl) ?_
 refine V_block ?_
 refine V_loop0 (γ := Int) (kp [2, 3, 4, 6] rfl) (fun f => [(7, .int .i64 f)]) (fun f => -1 ≤ f ∧ f ≤ now ∧ now - f ≤ p.blind + 1 ∧ usedQ p t now = usedW p t now (p.blind + 1 - (now - f)).toNat f) (fun f => (f + 1).toNat) (now) (.cons rfl (.nil _)) (⟨by omega, by omega, by omega, by rw [Int.sub_self, Int.sub_zero]; rfl⟩) ?_
 rintro f hi
 obtain ⟨hf0, hf1, hf2, hu⟩ := hi
 refine V_seq ?_
 refine Vs rfl ?_
 refine Lm rfl rfl rfl ?_
 refine Lp rfl (p_geq rfl rfl rfl) ?_
 refine Lm rfl rfl rfl ?_
 refine L_cases (d := 14) rfl ?_ ?_
 ·intro g1; have g1' := g1; try simp only [td] at g1'
  refine L_yes rfl rfl rfl g1 (X_p (p_move rfl rfl) ?_)
  refine L_yes rfl rfl rfl g1 (X_p (p_move rfl rfl) ?_)
  first | refine L_yes rfl rfl rfl g1 (X_p (p_sub' rfl rfl rfl (by unfold InI; omega)) ?_) | refine L_yes rfl rfl rfl g1 (X_p (p_sub rfl rfl rfl) ?_)
  refine L_yes rfl rfl rfl g1 (X_p (p_fieldo fo26_3 rfl rfl) ?_)
  refine L_yes rfl rfl rfl g1 (X_rd (rl ag3 rfl rfl rfl) ?_)
  refine L_yes rfl rfl rfl g1 (X_p (p_leq rfl rfl rfl) ?_)
  refine Lp rfl (p_pick_t rfl rfl g1 rfl) ?_
  refine L_then (kp [2, 3, 4, 6, 7, 21] rfl) ?_
  refine V_cond rfl ?_ ?_
  ·intro c1; try simp only [td] at c1
   refine V_skip (then_n ?_)
   refine V_seq ?_
   refine V_block ?_
   refine Vs rfl ?_
   refine Lr rfl (rlA (vs := [_, _, _, _, _]) ag39 sz39 rfl rfl rfl) ?_
   iterate 2 refine Lm rfl rfl rfl ?_
   refine Lc rfl rfl rfl rfl (fun w hg => (show FnP _ _ _ w (.tuple #[.agg (Box.cells (spareP t f now).1).toArray, .int .i64 (spareP t f now).2]) from spareR_eq t f now ▸ spareR_c t _ _ f now w (hT.good hg))) ?_
   refine Lm rfl rfl rfl ?_
   iterate 2 refine Lp rfl (p_ext rfl rfl rfl) ?_
   refine Lw rfl (w_alloc zr28 rfl) ?_
   rintro _ _ ⟨b4, hb4, rfl, rfl⟩
   refine Ls (cs' := [_, _, _, _, _, _, _, _, _, _, _, _, _]) rfl sz28 rfl rfl rfl rfl rfl rfl rfl ?_
   refine La rfl rfl rfl ?_
   refine L_then (kp [2, 3, 4, 6, 7, 9, 10] rfl) ?_
   refine Vs rfl ?_
   refine Lm rfl rfl rfl ?_
   refine Lp rfl (p_eql rfl rfl rfl) ?_
   refine L_then (kp [2, 3, 4, 6, 7, 9, 32] rfl) ?_
   refine V_cond rfl ?_ ?_
   ·intro c2; try simp only [td] at c2
    have hs := c2
    refine Vs rfl ?_
    refine Lr rfl (rlA (vs := [_, _, _, _, _]) ag39 sz39 rfl rfl rfl) ?_
    refine Lr rfl (rlA (vs := [_, _, _, _, _, _, _, _, _, _, _, _, _]) ag28 sz28 rfl rfl rfl) ?_
    iterate 2 refine Lm rfl rfl rfl ?_
    first | refine Lp rfl (p_sub' rfl rfl rfl (by unfold InI; omega)) ?_ | refine Lp rfl (p_sub rfl rfl rfl) ?_
    refine Lp rfl (p_fieldo fo26_2 rfl rfl) ?_
    refine Lr rfl (rl ag3 rfl rfl rfl) ?_
    first | refine Lp rfl (p_add' rfl rfl rfl (by unfold InI; omega)) ?_ | refine Lp rfl (p_add rfl rfl rfl) ?_
    first | refine Lp rfl (p_add' rfl rfl rfl (by unfold InI; omega)) ?_ | refine Lp rfl (p_add rfl rfl rfl) ?_
    refine Lc rfl rfl rfl rfl (fun w hg => ahead_c _ t _ _ _ w (hT.good hg)) ?_
    refine Lm rfl rfl rfl ?_
    iterate 2 refine Lp rfl (p_ext rfl rfl rfl) ?_
    refine Ls (cs' := [_, _, _, _, _, _, _, _, _, _, _, _, _]) rfl sz28 rfl rfl rfl rfl rfl rfl rfl ?_
    refine La rfl rfl rfl ?_
    refine L_then (kp [6, 7, 9, 10] rfl) ?_
    refine Vs rfl ?_
    refine Lr rfl (rlA (vs := [_, _, _, _, _, _, _, _, _, _, _, _, _]) ag28 sz28 rfl rfl rfl) ?_
    iterate 2 refine Lm rfl rfl rfl ?_
    refine Lp rfl (p_eql rfl rfl rfl) ?_
    refine Ls (cs' := [_, _, _, _, _, _, _, _, _, _, _, _, _]) rfl sz28 rfl rfl rfl rfl rfl rfl rfl ?_
    iterate 2 refine La rfl rfl rfl ?_
    refine L_then (kp [6, 7, 8] rfl) ?_
    refine V_ret (blk_r (then_r (then_r (blk_r (then_r ?_)))))
    refine Leave.nil (.cellA (us := [_, _, _, _, _, _, _, _, _, _, _, _, _]) rfl ag28 sz28 (by repeat first | exact mH | apply mT) rfl (.tmp rfl (.tmp rfl .nil))) ?_
    rw [hu, usedW_hit (by omega) (by omega) hs]; rfl
   intro c2; try simp only [td] at c2
   have hs := c2
   refine V_skip (blk_n (then_n ?_))
   refine V_region rfl ?_
   refine Lm rfl rfl rfl ?_
   first | refine Lp rfl (p_sub' rfl rfl rfl (by unfold InI; omega)) ?_ | refine Lp rfl (p_sub rfl rfl rfl) ?_
   refine La rfl rfl rfl ?_
   refine L_keep (kp [2, 3, 4, 6, 7] rfl) (then_n ?_)
   refine ⟨f - 1, ?_, ?_, (.cons rfl (.cons rfl (.cons rfl (.cons rfl (.cons rfl (.nil _)))))), (by repeat (first | exact List.nil_sublist _ | exact List.Sublist.refl _ | apply List.Sublist.cons_cons | apply List.Sublist.cons | apply List.sublist_append_of_sublist_right)), rfl⟩
   ·exact ⟨by omega, by omega, by omega, hu.trans (usedW_go (by omega) (by omega) (by assumption))⟩
   omega
  intro c1; try simp only [td] at c1
  refine V_exit (then_e (then_e (blk_e rfl (then_n ?_))))
  refine Vs rfl ?_
  refine Lp rfl (p_build (r := [_, _, _, _, _, _, _, _, _, _, _, _, _]) pl28 zr28 rfl rfl rfl) ?_
  refine Ls (cs' := [_, _, _, _, _, _, _, _, _, _, _, _, _]) rfl sz28 rfl rfl rfl rfl rfl rfl rfl ?_
  iterate 2 refine La rfl rfl rfl ?_
  refine L_then (kp [6, 7, 8] rfl) ?_
  refine V_ret ?_
  refine Leave.nil (.cellA (us := [_, _, _, _, _, _, _, _, _, _, _, _, _]) rfl ag28 sz28 (by repeat first | exact mH | apply mT) rfl (.tmp rfl (.tmp rfl .nil))) ?_
  rw [hu, usedW_stop _ (by omega)]; rfl
 intro g1; have g1' := g1; try simp only [td] at g1'
 iterate 6 refine L_no rfl rfl rfl g1 ?_
 refine Lp rfl (p_pick_f rfl rfl g1 rfl) ?_
 refine L_then (kp [2, 3, 4, 6, 7, 21] rfl) ?_
 refine V_cond_f rfl rfl ?_
 refine V_exit (then_e (then_e (blk_e rfl (then_n ?_))))
 refine Vs rfl ?_
 refine Lp rfl (p_build (r := [_, _, _, _, _, _, _, _, _, _, _, _, _]) pl28 zr28 rfl rfl rfl) ?_
 refine Ls (cs' := [_, _, _, _, _, _, _, _, _, _, _, _, _]) rfl sz28 rfl rfl rfl rfl rfl rfl rfl ?_
 iterate 2 refine La rfl rfl rfl ?_
 refine L_then (kp [6, 7, 8] rfl) ?_
 refine V_ret ?_
 refine Leave.nil (.cellA (us := [_, _, _, _, _, _, _, _, _, _, _, _, _]) rfl ag28 sz28 (by repeat first | exact mH | apply mT) rfl (.tmp rfl (.tmp rfl .nil))) ?_
 rw [hu, usedW_stop _ (by omega)]; rfl
theorem dUsed_c (now : Int) (p : De.Plan) (pv : Value) (w : World) (hp : PlanR w pv p) (t : Task) (tv qv : Value) (ht : TaskR w (.agg #[.int .i64 t.frm, .int .i64 t.speed, .int .i64 t.accel, tv, qv]) t) : FnP Tryz.prog 13 [pv, .agg #[.int .i64 t.frm, .int .i64 t.speed, .int .i64 t.accel, tv, qv], .int .i64 now] w (.tuple #[.agg (Box.cells (usedP p t now).1).toArray, .int .i64 (usedP p t now).2, .int .i64 (usedE p t now)]) := by
 have hP := hp
 obtain ⟨lv, rfl, hls⟩ := hp.ex
 have hlen := hp.len
 have hT := ht
 refine fn_pure Tryz.func13 rfl (by kernel_rfl) Tryz.ntmps13 Tryz.results13 rfl ?_
 refine Vs rfl ?_
 refine Lw rfl (w_box rfl rfl) ?_
 rintro _ _ ⟨b1, hb1, rfl, rfl⟩
 refine Lw rfl (w_box rfl rfl) ?_
 rintro _ _ ⟨b2, hb2, rfl, rfl⟩
 refine Lw rfl (w_alloc zr28 rfl) ?_
 rintro _ _ ⟨b3, hb3, rfl, rfl⟩
 iterate 2 refine La rfl rfl rfl ?_
 refine L_then (kp [2, 3, 4, 6] rfl) ?_
 refine V_seq ?_
 refine Vs rfl ?_
 refine Lr rfl (rlA (vs := [_, _, _, _, _]) ag26 sz26 rfl rfl rfl) ?_
 refine Lr rfl (rlA (vs := [_, _, _, _, _]) ag39 sz39 rfl rfl rfl) ?_
 refine Lm rfl rfl rfl ?_
 refine Lw rfl (w_slice (r := [_]) un53 sz3 zr3 rfl (by decide) rfl (by decide) rfl rfl) ?_
 rintro _ _ ⟨b4, hb4, rfl, rfl⟩
 refine Lc rfl rfl rfl rfl (fun w hg => dat_c p _ w (hP.good hg) t _ _ (hT.good hg) [now] _ (own_ints (l := [now]) (hg.own (b4, _) (by repeat first | exact mH | apply mT)) rfl (by decide)) (by simp)) ?_
 refine La rfl rfl rfl ?_
 refine L_then (kp [2, 3, 4, 6, 8] rfl) ?_
 refine Vs rfl ?_
 refine Lm rfl rfl rfl ?_
 refine Lp rfl (p_neq rfl rfl rfl) ?_
 refine L_then (kp [2, 3, 4, 6, 8, 16] rfl) ?_
 refine V_cond rfl ?_ ?_
 ·intro c1; try simp only [td] at c1
  have he : usedE p t now = ticksE p t [now] := by unfold usedE; rw [if_pos c1]
  refine Vs rfl ?_
  refine Lp rfl (p_build (r := [_, _, _, _, _, _, _, _, _, _, _, _, _]) pl28 zr28 rfl rfl rfl) ?_
  refine Lm rfl rfl rfl ?_
  refine Ls (cs' := [_, _, _, _, _, _, _, _, _, _, _, _, _]) rfl sz28 rfl rfl rfl rfl rfl rfl rfl ?_
  iterate 2 refine La rfl rfl rfl ?_
  refine L_then (kp [6, 7, 8] rfl) ?_
  refine V_ret (then_r ?_)
  refine Leave.nil (.cellA (us := [_, _, _, _, _, _, _, _, _, _, _, _, _]) rfl ag28 sz28 (by repeat first | exact mH | apply mT) rfl (.tmp rfl (.tmp rfl .nil))) ?_
  have h2 : usedP p t now = (boxZ, 0) := by unfold usedP; rw [if_pos (by omega)]
  rw [h2, he]; rfl
 intro c1; try simp only [td] at c1
 have hz := ticks_zero c1
 have h0 := c1
 refine V_skip (then_n ?_)
 refine Vs rfl ?_
 refine Lr rfl (rlA (vs := [_, _, _, _, _]) ag26 sz26 rfl rfl rfl) ?_
 refine Lr rfl (rlA (vs := [_, _, _, _, _]) ag39 sz39 rfl rfl rfl) ?_
 refine Lm rfl rfl rfl ?_
 refine Lc rfl rfl rfl rfl (fun w hg => dused_c now (hz.2.2 now (.head _)) p _ w (hP.good hg) hz.1 t _ _ (hT.good hg) hz.2.1) ?_
 refine Lm rfl rfl rfl ?_
 iterate 3 refine Lp rfl (p_ext rfl rfl rfl) ?_
 refine Ls (cs' := [_, _, _, _, _, _, _, _, _, _, _, _, _]) rfl sz28 rfl rfl rfl rfl rfl rfl rfl ?_
 iterate 2 refine La rfl rfl rfl ?_
 refine L_then (kp [6, 7, 9] rfl) ?_
 refine V_seq ?_
 refine Vs rfl ?_
 refine Lm rfl rfl rfl ?_
 refine Lp rfl (p_not rfl rfl) ?_
 refine L_then (kp [6, 7, 28] rfl) ?_
 refine V_cond rfl ?_ ?_
 ·intro c2; try simp only [td] at c2
  have hu := usedQ_f c2
  have he : usedE p t now = 9 := by unfold usedE; rw [if_neg (by omega), hu]; rfl
  refine Vs rfl ?_
  refine Lp rfl (p_build (r := [_, _, _, _, _, _, _, _, _, _, _, _, _]) pl28 zr28 rfl rfl rfl) ?_
  refine Ls (cs' := [_, _, _, _, _, _, _, _, _, _, _, _, _]) rfl sz28 rfl rfl rfl rfl rfl rfl rfl ?_
  iterate 2 refine La rfl rfl rfl ?_
  refine L_then (kp [6, 7, 8] rfl) ?_
  refine V_ret (then_r ?_)
  refine Leave.nil (.cellA (us := [_, _, _, _, _, _, _, _, _, _, _, _, _]) rfl ag28 sz28 (by repeat first | exact mH | apply mT) rfl (.tmp rfl (.tmp rfl .nil))) ?_
  have h2 : usedP p t now = (boxZ, 0) := by unfold usedP; rw [if_pos (by omega)]
  rw [h2, he]; rfl
 intro c2; try simp only [td] at c2
 have hu := usedQ_t c2
 have he : usedE p t now = 0 := by unfold usedE; rw [if_neg (by omega), hu]; rfl
 refine V_skip (then_n ?_)
 refine Vs rfl ?_
 refine Lr rfl (rlA (vs := [_, _, _, _, _, _, _, _, _, _, _, _, _]) ag28 sz28 rfl rfl rfl) ?_
 refine Lm rfl rfl rfl ?_
 refine Ls (cs' := [_, _, _, _, _, _, _, _, _, _, _, _, _]) rfl sz28 rfl rfl rfl rfl rfl rfl rfl ?_
 iterate 2 refine La rfl rfl rfl ?_
 refine L_then (kp [6, 7, 8] rfl) ?_
 refine V_ret ?_
 refine Leave.nil (.cellA (us := [_, _, _, _, _, _, _, _, _, _, _, _, _]) rfl ag28 sz28 (by repeat first | exact mH | apply mT) rfl (.tmp rfl (.tmp rfl .nil))) ?_
 have h2 : usedP p t now = ((usedQ p t now).1, (usedQ p t now).2.1) := by unfold usedP; rw [if_neg (by omega), hu]; rfl
 rw [h2, he]; rfl
theorem dkeeps1_c (x y : Span) (l : De.Line) (hl : LnB l) (hx : offS x = false) (hy : offS y = false) (b ty : Nat) (fr : Nat × Nat) (w : World) (hb : w.heap[b]? = some (.cells #[.int .i64 x.lo, .int .i64 x.hi, .int .i64 y.lo, .int .i64 y.hi] ty fr)) : FnP Tryz.prog 47 [.agg (De.Line.cells l).toArray, .pointer (some ⟨b, 0, none⟩)] w (.bool (decide (l.keep < mostL l x y))) := by
 refine fn_pure Tryz.func47 rfl (by kernel_rfl) Tryz.ntmps47 Tryz.results47 rfl ?_
 refine Vs rfl ?_
 refine Lw rfl (w_box rfl rfl) ?_
 rintro _ _ ⟨b1, hb1, rfl, rfl⟩
 refine La rfl rfl rfl ?_
 refine L_then (kp [1, 2] rfl) ?_
 refine Vs rfl ?_
 refine Lr rfl (rlA (vs := [_, _, _, _]) ag68 sz68 rfl rfl rfl) ?_
 refine Lr rfl (r_loadBA (vs := [_, _, _, _]) ag30 sz30 rfl rfl (own_slice (n := 4) (vs := [_, _, _, _]) hb rfl).1 rfl List.not_mem_nil) ?_
 refine Lc rfl rfl rfl rfl (fun w hg => dmeas_c l x y hl hx hy w) ?_
 refine Lm rfl rfl rfl ?_
 iterate 2 refine Lp rfl (p_ext rfl rfl rfl) ?_
 iterate 2 refine La rfl rfl rfl ?_
 refine L_then (kp [2, 5] rfl) ?_
 refine Vs rfl ?_
 refine Lm rfl rfl rfl ?_
 refine Lp rfl (p_fieldo fo68_2 rfl rfl) ?_
 refine Lr rfl (rl ag3 rfl rfl rfl) ?_
 refine Lp rfl (p_gtr rfl rfl rfl) ?_
 refine La rfl rfl rfl ?_
 refine L_then (kp [3] rfl) ?_
 refine V_ret ?_
 refine Leave.nil (.tmp rfl .nil) ?_
 rfl
theorem dkeeps_c (x y : Span) (p : De.Plan) (pv : Value) (w : World) (hp : PlanR w pv p) : FnP Tryz.prog 20 [pv, .agg #[.int .i64 x.lo, .int .i64 x.hi, .int .i64 y.lo, .int .i64 y.hi]] w (.tuple #[.bool (keepsB p x y), .int .i64 (areaE p x y)]) := by
 have hP := hp
 obtain ⟨lv, rfl, hls⟩ := hp.ex
 have hlen := hp.len
 refine fn_pure Tryz.func20 rfl (by kernel_rfl) Tryz.ntmps20 Tryz.results20 rfl ?_
 refine Vs rfl ?_
 refine Lw rfl (w_box rfl rfl) ?_
 rintro _ _ ⟨b1, hb1, rfl, rfl⟩
 refine Lw rfl (w_box rfl rfl) ?_
 rintro _ _ ⟨b2, hb2, rfl, rfl⟩
 iterate 2 refine La rfl rfl rfl ?_
 refine L_then (kp [2, 3] rfl) ?_
 refine V_seq ?_
 refine Vs rfl ?_
 refine Lr rfl (rlA (vs := [_, _, _, _, _]) ag26 sz26 rfl rfl rfl) ?_
 refine Lr rfl (rlA (vs := [_, _, _, _]) ag30 sz30 rfl rfl rfl) ?_
 refine Lc rfl rfl rfl rfl (fun w hg => dasked_c x y p _ w (hP.good hg)) ?_
 refine La rfl rfl rfl ?_
 refine L_then (kp [2, 3, 6] rfl) ?_
 refine Vs rfl ?_
 refine Lm rfl rfl rfl ?_
 refine Lp rfl (p_neq rfl rfl rfl) ?_
 refine L_then (kp [2, 3, 6, 12] rfl) ?_
 refine V_cond rfl ?_ ?_
 ·intro c1; try simp only [td] at c1
  refine Vs rfl ?_
  refine Lm rfl rfl rfl ?_
  iterate 2 refine La rfl rfl rfl ?_
  refine L_then (kp [4, 5] rfl) ?_
  refine V_ret (then_r ?_)
  refine Leave.nil (.tmp rfl (.tmp rfl .nil)) ?_
  have e : keepsB p x y = false := if_pos c1
  rw [e]; rfl
 intro c1; try simp only [td] at c1
 have hz := area_zero c1
 have hln := hz.1.nums.1
 refine V_skip (then_n ?_)
 refine Vs rfl ?_
 refine Lp rfl (p_func rfl rfl rfl) ?_
 refine La rfl rfl rfl ?_
 refine L_then (kp [2, 7] rfl) ?_
 refine Vs rfl ?_
 refine Lp rfl (p_fieldo fo26_0 rfl rfl) ?_
 refine Lr rfl (rl ag22 rfl rfl rfl) ?_
 refine Lm rfl rfl rfl ?_
 refine Lc rfl rfl rfl rfl (fun w hg => contLn_c p.lines _ _ _ (fun l => decide (l.keep < mostL l x y)) w (hls.good hg) (by omega) (fun j hj w' he => dkeeps1_c x y _ (hz.1.ln_at hj) hz.2.1 hz.2.2 _ _ _ w' (he.heap (hg.own (b2, _) (by repeat first | exact mH | apply mT))))) ?_
 refine Lp rfl (p_not rfl rfl) ?_
 iterate 2 refine La rfl rfl rfl ?_
 refine L_then (kp [4, 5] rfl) ?_
 refine V_ret ?_
 refine Leave.nil (.tmp rfl (.tmp rfl .nil)) ?_
 have e : keepsB p x y = !(p.lines.any fun l => decide (l.keep < mostL l x y)) := if_neg (by omega)
 rw [e, c1]; rfl
set_option maxHeartbeats 4000000 in
theorem dside_c (x y : Span) (p : De.Plan) (pv : Value) (w : World) (hp : PlanR w pv p) : FnC Tryz.prog 17 [pv, .agg #[.int .i64 x.lo, .int .i64 x.hi, .int .i64 y.lo, .int .i64 y.hi]] w fun v w' => ∃ Hc, Vc.Good w [] Hc w' ∧ ∃ A G, Hc = A ++ G ∧ ListOut 3 (sideL p x y) (fun sv => .tuple #[sv, .int .i64 (areaE p x y)]) v A G := by
 have hP := hp
 obtain ⟨lv, rfl, hls⟩ := hp.ex
 have hlen := hp.len
 obtain ⟨la, lc, rfl, hlc, hle⟩ := hls.ex
 simp only [List.length_map] at hP hlc ⊢
 refine fn_new Tryz.func17 rfl (by kernel_rfl) Tryz.ntmps17 Tryz.results17 rfl ?_
 refine Vs rfl ?_
 refine Lw rfl (w_box rfl rfl) ?_
 rintro _ _ ⟨b1, hb1, rfl, rfl⟩
 refine Lw rfl (w_box rfl rfl) ?_
 rintro _ _ ⟨b2, hb2, rfl, rfl⟩
 iterate 2 refine La rfl rfl rfl ?_
 refine L_then (kp [2, 3, 4] rfl) ?_
 refine V_seq ?_
 refine Vs rfl ?_
 refine Lr rfl (rlA (vs := [_, _, _, _, _]) ag26 sz26 rfl rfl rfl) ?_
 refine Lr rfl (rlA (vs := [_, _, _, _]) ag30 sz30 rfl rfl rfl) ?_
 refine Lc rfl rfl rfl rfl (fun w hg => dasked_c x y p _ w (hP.good hg)) ?_
 refine La rfl rfl rfl ?_
 refine L_then (kp [2, 3, 4, 5] rfl) ?_
 refine Vs rfl ?_
 refine Lm rfl rfl rfl ?_
 refine Lp rfl (p_neq rfl rfl rfl) ?_
 refine L_then (kp [2, 3, 4, 5, 14] rfl) ?_
 refine V_cond rfl ?_ ?_
 ·intro c1; try simp only [td] at c1
  refine Vs rfl ?_
  refine Lm rfl rfl rfl ?_
  iterate 2 refine La rfl rfl rfl ?_
  refine L_then (kp [4, 5] rfl) ?_
  refine V_ret (then_r ?_)
  refine Leave.nil (.tmp rfl (.tmp rfl .nil)) ?_
  refine ⟨[], HSub.nil _, [], [], rfl, .slice none 0 0, rfl, rfl, ?_⟩
  rw [sideL_bad c1]; exact .nil
 intro c1; try simp only [td] at c1
 have hz := area_zero c1
 have h0 := c1
 have hln := hz.1.nums.1
 refine V_skip (then_n ?_)
 refine V_seq ?_
 refine Vs rfl ?_
 refine Lp rfl (p_fieldo fo26_0 rfl rfl) ?_
 refine Lr rfl (rl ag22 rfl rfl rfl) ?_
 refine Lp rfl (p_len isl22 rfl rfl) ?_
 refine Lm rfl rfl rfl ?_
 refine L_then (kp [3, 4, 17, 18, 19] rfl) ?_
 refine V_block ?_
 refine V_loop1 (γ := Int × Value × Heap) (kp [3, 17, 18] rfl) (fun (k, sv, G) => [(19, .int .i64 k), (4, sv)]) (fun (k, sv, G) => (b2, .cells #[.int .i64 x.lo, .int .i64 x.hi, .int .i64 y.lo, .int .i64 y.hi] 30) :: (b1, .cells #[.slice la p.lines.length lc, .int .i64 p.grav.lo, .int .i64 p.grav.hi, .int .i64 p.wait, .int .i64 p.blind] 26) :: G) (fun (k, sv, G) => 0 ≤ k ∧ k ≤ p.lines.length ∧ Grow 3 1 sv (sideN p x y k.toNat).length (iiL (sideN p x y k.toNat)) G) (fun (k, sv, G) => (p.lines.length - k).toNat) ((0, .slice none 0 0, [])) (.cons rfl (.cons rfl (.nil _))) (by repeat (first | exact List.Sublist.refl _ | apply List.Sublist.cons_cons | apply List.Sublist.cons)) (⟨by omega, by omega, .nil⟩) ?_
 rintro ⟨k, sv, G⟩ hi
 obtain ⟨hk0, hk1, hgr⟩ := hi
 have hkl : (sideN p x y k.toNat).length ≤ 8 := by simp only [sideN, List.length_map, List.length_take]; omega
 refine Vs rfl ?_
 refine Lp rfl (p_lss rfl rfl rfl) ?_
 refine L_then (kp [3, 4, 17, 18, 19, 20] rfl) ?_
 refine V_seq ?_
 refine V_cond rfl ?_ ?_
 ·intro c2; try simp only [td] at c2
  obtain ⟨tb, rfl, hc⟩ := hle k.toNat _ (getD_cells (d := lnZ) (by omega))
  have hlb := hz.1.ln_at (i := k.toNat) (by omega)
  have hmb := most_bnd hlb hz.2.1 hz.2.2
  have hl3 := hlb.line
  have hl4 := hlb.keep
  simp only [Plan.ln] at hl3 hl4
  refine V_skip (then_n ?_)
  refine V_seq ?_
  refine V_block ?_
  refine Vs rfl ?_
  refine Lp rfl (p_idx es22 rfl rfl rfl (by omega) (by omega)) ?_
  refine Lr rfl (r_loadBA ag68 sz68 rfl rfl hc rfl List.not_mem_nil) ?_
  refine Lw rfl (w_alloc zr68 rfl) ?_
  rintro _ _ ⟨b3, hb3, rfl, rfl⟩
  refine Ls (cs' := [_, _, _, _]) rfl sz68 rfl rfl rfl rfl rfl rfl rfl ?_
  refine L_then (kp [3, 4, 7, 17, 18, 19] rfl) ?_
  refine Vs rfl ?_
  refine Lr rfl (rlA (vs := [_, _, _, _]) ag68 sz68 rfl rfl rfl) ?_
  refine Lr rfl (rlA (vs := [_, _, _, _]) ag30 sz30 rfl rfl rfl) ?_
  refine Lc rfl rfl rfl rfl (fun w hg => dmeas_c (p.ln k.toNat) x y (hz.1.ln_at (by omega)) hz.2.1 hz.2.2 w) ?_
  refine Lm rfl rfl rfl ?_
  iterate 2 refine Lp rfl (p_ext rfl rfl rfl) ?_
  iterate 2 refine La rfl rfl rfl ?_
  refine L_then (kp [3, 4, 7, 9, 17, 18, 19] rfl) ?_
  refine V_region rfl ?_
  refine Lm rfl rfl rfl ?_
  refine Lp rfl (p_fieldo fo68_3 rfl rfl) ?_
  refine Lr rfl (rl ag3 rfl rfl rfl) ?_
  refine Lm rfl rfl rfl ?_
  first | refine Lp rfl (p_sub' rfl rfl rfl (by unfold InI; omega)) ?_ | refine Lp rfl (p_sub rfl rfl rfl) ?_
  refine Lw rfl (w_slice (r := [_]) un53 sz3 zr3 rfl (by decide) rfl (by decide) rfl rfl) ?_
  rintro _ _ ⟨b4, hb4, rfl, rfl⟩
  refine Lw rfl (w_app (pre := [_, _, _, _]) (G := G) (post := []) ap53 rfl rfl rfl hgr (by rw [List.append_nil]; rfl) rfl (news_own (by repeat first | exact mH | apply mT)) (by simp [Value.oneCell']) (by omega) (by simp only [maxLen]; omega)) ?_
  rintro _ _ ⟨G1a, G1c, G1, rfl, rfl, hgr1⟩
  try simp only [List.cons_append, List.nil_append, List.append_nil]
  refine La rfl rfl rfl ?_
  refine L_keep (kp [3, 4, 17, 18, 19] rfl) (blk_n (then_n ?_))
  refine V_region rfl ?_
  first | refine Lp rfl (p_add' rfl rfl rfl (by unfold InI; omega)) ?_ | refine Lp rfl (p_add rfl rfl rfl) ?_
  refine Lm rfl rfl rfl ?_
  refine L_keep (kp [3, 4, 17, 18, 19] rfl) (then_n ?_)
  refine ⟨(k + 1, _, G1), ?_, ?_, (.cons rfl (.cons rfl (.cons rfl (.cons rfl (.cons rfl (.nil _)))))), (by repeat (first | exact List.Sublist.refl _ | apply List.Sublist.cons_cons | apply List.Sublist.cons | apply List.sublist_append_of_sublist_right)), rfl⟩
  ·refine ⟨by omega, by omega, ?_⟩
   rw [show (k + 1).toNat = k.toNat + 1 by omega, sideN_succ (by omega), List.length_append, iiL, List.map_append]; exact hgr1
  dsimp only; omega
 intro c2; try simp only [td] at c2
 refine V_exit (then_e (then_e (blk_e rfl (then_n ?_))))
 refine Vs rfl ?_
 refine Lm rfl rfl rfl ?_
 iterate 2 refine La rfl rfl rfl ?_
 refine L_then (kp [4, 5] rfl) ?_
 refine V_ret ?_
 refine Leave.nil (.tmp rfl (.tmp rfl .nil)) ?_
 have ek : k.toNat = p.lines.length := by omega
 rw [ek, sideN_all h0] at hgr
 refine ⟨G, (by (try dsimp only); repeat (first | exact HSub.nil _ | refine HSub.take (by repeat first | exact Take.head | apply Take.tail) ?_ | exact HSub.refl _ | refine HSub.drop ?_ | refine HSub.app ?_)), [], G, rfl, sv, rfl, ?_, hgr⟩
 rw [h0]; rfl

end Go.Proofs.YtlcccpeelombbaaGreatDoor

/- YtlcccpeelombbaaGreatDoor: looks. -/
set_option linter.all false
namespace Go.Proofs.YtlcccpeelombbaaGreatDoor
open Go.Vc Go.Tk Go.De
set_option maxRecDepth 100000
theorem errV_neq (aF aL : Addr) {e : Int} (he : e = 0 ∨ e = 3 ∨ e = 9) (w : World) : (binOp .neq 72 (errV 194 aF aL e) .nilIface).run Tryz.prog w = .ok (.bool (decide (e ≠ 0))) w := by
 rcases he with rfl | rfl | rfl
 ·exact neq_nil Tryz.underlying72 w
 ·exact neq_some _ _ Tryz.underlying72 w
 exact neq_some _ _ Tryz.underlying72 w
theorem errV_guard (aF aL : Addr) {e : Int} (he : e = 0 ∨ e = 3 ∨ e = 9) {x : Operand} (w : World) : (eqGuard .neq 72 x (.const .nilIface) (errV 194 aF aL e) .nilIface).run Tryz.prog w = .ok () w := by
 rcases he with rfl | rfl | rfl <;> cases x <;> rfl
def lookB (q : Box × Int × Bool) : Box := if q.2.2 = true then q.1 else boxZ
set_option maxHeartbeats 4000000 in
theorem dlook1_c (p : De.Plan) (lv : Value) (hgp : GoodP p) (t : Task) (tv qv : Value) (hG : GoodT t) (now : Int) (hn : 0 ≤ now ∧ now ≤ 100000) (B : Box) (x y a : Span) (why line : Int) (b1 b2 b3 b4 : Nat) (w0 : World) (hp : PlanR w0 (PlanV p lv) p) (ht : TaskR w0 (.agg #[.int .i64 t.frm, .int .i64 t.speed, .int .i64 t.accel, tv, qv]) t) (w : World) (hg0 : Vc.Good w0 [] ([(b4, .cells #[.int .i64 (B).at_, .int .i64 (B).x.lo, .int .i64 (B).x.hi, .int .i64 (B).y.lo, .int .i64 (B).y.hi, .int .i64 (B).z.lo, .int .i64 (B).z.hi, .int .i64 (B).vx.lo, .int .i64 (B).vx.hi, .int .i64 (B).vy.lo, .int .i64 (B).vy.hi, .int .i64 (B).vz.lo, .int .i64 (B).vz.hi, .int .i64 (x).lo, .int .i64 (x).hi, .int .i64 (y).lo, .int .i64 (y).hi, .int .i64 (a).lo, .int .i64 (a).hi, .int .i64 (why), .int .i64 (line)] 49), (b3, .cells #[.int .i64 now] 3), (b2, t.obj tv qv 39), (b1, .cells #[lv, .int .i64 p.grav.lo, .int .i64 p.grav.hi, .int .i64 p.wait, .int .i64 p.blind] 26)]) w) : FnC Tryz.prog 73 [.pointer (some ⟨b1, 0, none⟩), .pointer (some ⟨b2, 0, none⟩), .pointer (some ⟨b3, 0, none⟩), .pointer (some ⟨b4, 0, none⟩)] w fun v w' => ∃ Hc, Vc.Good w0 [] Hc w' ∧ (v = .bool (!(usedQ p t now).2.2) ∧ Hc = [(b4, .cells #[.int .i64 (lookB (usedQ p t now)).at_, .int .i64 (lookB (usedQ p t now)).x.lo, .int .i64 (lookB (usedQ p t now)).x.hi, .int .i64 (lookB (usedQ p t now)).y.lo, .int .i64 (lookB (usedQ p t now)).y.hi, .int .i64 (lookB (usedQ p t now)).z.lo, .int .i64 (lookB (usedQ p t now)).z.hi, .int .i64 (lookB (usedQ p t now)).vx.lo, .int .i64 (lookB (usedQ p t now)).vx.hi, .int .i64 (lookB (usedQ p t now)).vy.lo, .int .i64 (lookB (usedQ p t now)).vy.hi, .int .i64 (lookB (usedQ p t now)).vz.lo, .int .i64 (lookB (usedQ p t now)).vz.hi, .int .i64 (x).lo, .int .i64 (x).hi, .int .i64 (y).lo, .int .i64 (y).hi, .int .i64 (a).lo, .int .i64 (a).hi, .int .i64 (if (usedQ p t now).2.2 = true then why else 2), .int .i64 (line)] 49), (b3, .cells #[.int .i64 now] 3), (b2, t.obj tv qv 39), (b1, .cells #[lv, .int .i64 p.grav.lo, .int .i64 p.grav.hi, .int .i64 p.wait, .int .i64 p.blind] 26)]) := by
 refine fn_over (M := []) (H0 := [(b4, .cells #[.int .i64 (B).at_, .int .i64 (B).x.lo, .int .i64 (B).x.hi, .int .i64 (B).y.lo, .int .i64 (B).y.hi, .int .i64 (B).z.lo, .int .i64 (B).z.hi, .int .i64 (B).vx.lo, .int .i64 (B).vx.hi, .int .i64 (B).vy.lo, .int .i64 (B).vy.hi, .int .i64 (B).vz.lo, .int .i64 (B).vz.hi, .int .i64 (x).lo, .int .i64 (x).hi, .int .i64 (y).lo, .int .i64 (y).hi, .int .i64 (a).lo, .int .i64 (a).hi, .int .i64 (why), .int .i64 (line)] 49), (b3, .cells #[.int .i64 now] 3), (b2, t.obj tv qv 39), (b1, .cells #[lv, .int .i64 p.grav.lo, .int .i64 p.grav.hi, .int .i64 p.wait, .int .i64 p.blind] 26)]) Tryz.func73 rfl (by kernel_rfl) Tryz.ntmps73 Tryz.results73 rfl hg0 ?_
 refine Vs rfl ?_
 refine La rfl rfl rfl ?_
 refine L_then (kp [0, 1, 2, 3] rfl) ?_
 refine Vs rfl ?_
 refine Lr rfl (rlA (vs := [_, _, _, _, _]) ag26 sz26 rfl rfl rfl) ?_
 refine Lr rfl (rlA (vs := [_, _, _, _, _]) ag39 sz39 rfl rfl rfl) ?_
 refine Lr rfl (rl ag3 rfl rfl rfl) ?_
 refine Lc rfl rfl rfl rfl (fun w hg => dused_c now hn p _ w (hp.good hg) hgp t _ _ (ht.good hg) hG) ?_
 refine Lm rfl rfl rfl ?_
 iterate 3 refine Lp rfl (p_ext rfl rfl rfl) ?_
 refine Lp rfl (p_fieldo fo49_0 rfl rfl) ?_
 refine Ls (cs' := [_, _, _, _, _, _, _, _, _, _, _, _, _, _, _, _, _, _, _, _, _]) rfl sz28 rfl rfl rfl rfl rfl rfl rfl ?_
 refine La rfl rfl rfl ?_
 refine L_then (kp [3, 4] rfl) ?_
 refine V_seq ?_
 refine Vs rfl ?_
 refine Lm rfl rfl rfl ?_
 refine Lp rfl (p_not rfl rfl) ?_
 refine L_then (kp [3, 4, 15] rfl) ?_
 refine V_cond rfl ?_ ?_
 ·intro c1; try simp only [td] at c1
  have hq := c1
  refine V_region rfl ?_
  refine Lp rfl (p_build (r := [_, _, _, _, _, _, _, _, _, _, _, _, _]) pl28 zr28 rfl rfl rfl) ?_
  refine Lp rfl (p_fieldo fo49_0 rfl rfl) ?_
  refine Ls (cs' := [_, _, _, _, _, _, _, _, _, _, _, _, _, _, _, _, _, _, _, _, _]) rfl sz28 rfl rfl rfl rfl rfl rfl rfl ?_
  refine Lp rfl (p_fieldo fo49_3 rfl rfl) ?_
  refine Ls (cs' := [_, _, _, _, _, _, _, _, _, _, _, _, _, _, _, _, _, _, _, _, _]) rfl sz3 rfl rfl rfl rfl rfl rfl rfl ?_
  refine L_then (kp [4] rfl) ?_
  refine Vs rfl ?_
  refine Lm rfl rfl rfl ?_
  refine Lp rfl (p_not rfl rfl) ?_
  refine La rfl rfl rfl ?_
  refine L_then (kp [4] rfl) ?_
  refine V_ret ?_
  refine Leave.nil (.tmp rfl .nil) ?_
  have e : lookB (usedQ p t now) = boxZ := by unfold lookB; rw [hq]; rfl
  rw [e, if_neg (by rw [hq]; decide)]
  exact ⟨_, (by (try dsimp only); repeat (first | exact HSub.nil _ | refine HSub.take (by repeat first | exact Take.head | apply Take.tail) ?_ | exact HSub.refl _ | refine HSub.drop ?_ | refine HSub.app ?_)), rfl, rfl⟩
 intro c1; try simp only [td] at c1
 have hq := c1
 refine V_skip (then_n ?_)
 refine Vs rfl ?_
 refine Lm rfl rfl rfl ?_
 refine Lp rfl (p_not rfl rfl) ?_
 refine La rfl rfl rfl ?_
 refine L_then (kp [4] rfl) ?_
 refine V_ret ?_
 refine Leave.nil (.tmp rfl .nil) ?_
 have e : lookB (usedQ p t now) = (usedQ p t now).1 := by unfold lookB; rw [hq]; rfl
 rw [e, if_pos hq]
 exact ⟨_, (by (try dsimp only); repeat (first | exact HSub.nil _ | refine HSub.take (by repeat first | exact Take.head | apply Take.tail) ?_ | exact HSub.refl _ | refine HSub.drop ?_ | refine HSub.app ?_)), rfl, rfl⟩
set_option maxHeartbeats 4000000 in
theorem dlook2_c (p : De.Plan) (lv : Value) (hgp : GoodP p) (t : Task) (tv qv : Value) (hG : GoodT t) (now : Int) (hn : 0 ≤ now ∧ now ≤ 100000) (B : Box) (x y a : Span) (why line : Int) (b1 b2 b3 b4 : Nat) (w0 : World) (hp : PlanR w0 (PlanV p lv) p) (ht : TaskR w0 (.agg #[.int .i64 t.frm, .int .i64 t.speed, .int .i64 t.accel, tv, qv]) t) (hb : FallB 0 B) (aF aL : Addr) (hE : ErrR w0 0 1 194 aF aL) (w : World) (hg0 : Vc.Good w0 [] ([(b4, .cells #[.int .i64 (B).at_, .int .i64 (B).x.lo, .int .i64 (B).x.hi, .int .i64 (B).y.lo, .int .i64 (B).y.hi, .int .i64 (B).z.lo, .int .i64 (B).z.hi, .int .i64 (B).vx.lo, .int .i64 (B).vx.hi, .int .i64 (B).vy.lo, .int .i64 (B).vy.hi, .int .i64 (B).vz.lo, .int .i64 (B).vz.hi, .int .i64 (x).lo, .int .i64 (x).hi, .int .i64 (y).lo, .int .i64 (y).hi, .int .i64 (a).lo, .int .i64 (a).hi, .int .i64 (why), .int .i64 (line)] 49), (b3, .cells #[.int .i64 now] 3), (b2, t.obj tv qv 39), (b1, .cells #[lv, .int .i64 p.grav.lo, .int .i64 p.grav.hi, .int .i64 p.wait, .int .i64 p.blind] 26)]) w) : FnC Tryz.prog 74 [.pointer (some ⟨b4, 0, none⟩), .pointer (some ⟨b1, 0, none⟩)] w fun v w' => ∃ Hc, Vc.Good w0 [] Hc w' ∧ (v = .bool (decide ((fallT p.grav B).e ≠ 0)) ∧ Hc = [(b4, .cells #[.int .i64 (B).at_, .int .i64 (B).x.lo, .int .i64 (B).x.hi, .int .i64 (B).y.lo, .int .i64 (B).y.hi, .int .i64 (B).z.lo, .int .i64 (B).z.hi, .int .i64 (B).vx.lo, .int .i64 (B).vx.hi, .int .i64 (B).vy.lo, .int .i64 (B).vy.hi, .int .i64 (B).vz.lo, .int .i64 (B).vz.hi, .int .i64 ((fallT p.grav B).x).lo, .int .i64 ((fallT p.grav B).x).hi, .int .i64 ((fallT p.grav B).y).lo, .int .i64 ((fallT p.grav B).y).hi, .int .i64 ((fallT p.grav B).at_).lo, .int .i64 ((fallT p.grav B).at_).hi, .int .i64 (if (fallT p.grav B).e ≠ 0 then 3 else why), .int .i64 (line)] 49), (b3, .cells #[.int .i64 now] 3), (b2, t.obj tv qv 39), (b1, .cells #[lv, .int .i64 p.grav.lo, .int .i64 p.grav.hi, .int .i64 p.wait, .int .i64 p.blind] 26)]) := by
 refine fn_over (M := []) (H0 := [(b4, .cells #[.int .i64 (B).at_, .int .i64 (B).x.lo, .int .i64 (B).x.hi, .int .i64 (B).y.lo, .int .i64 (B).y.hi, .int .i64 (B).z.lo, .int .i64 (B).z.hi, .int .i64 (B).vx.lo, .int .i64 (B).vx.hi, .int .i64 (B).vy.lo, .int .i64 (B).vy.hi, .int .i64 (B).vz.lo, .int .i64 (B).vz.hi, .int .i64 (x).lo, .int .i64 (x).hi, .int .i64 (y).lo, .int .i64 (y).hi, .int .i64 (a).lo, .int .i64 (a).hi, .int .i64 (why), .int .i64 (line)] 49), (b3, .cells #[.int .i64 now] 3), (b2, t.obj tv qv 39), (b1, .cells #[lv, .int .i64 p.grav.lo, .int .i64 p.grav.hi, .int .i64 p.wait, .int .i64 p.blind] 26)]) Tryz.func74 rfl (by kernel_rfl) Tryz.ntmps74 Tryz.results74 rfl hg0 ?_
 refine Vs rfl ?_
 refine La rfl rfl rfl ?_
 refine L_then (kp [0, 1] rfl) ?_
 refine Vs rfl ?_
 refine Lp rfl (p_fieldo fo49_0 rfl rfl) ?_
 refine Lr rfl (rlA (vs := [_, _, _, _, _, _, _, _, _, _, _, _, _]) ag28 sz28 rfl rfl rfl) ?_
 refine Lp rfl (p_fieldo fo26_1 rfl rfl) ?_
 refine Lr rfl (rlA (vs := [_, _]) ag24 sz24 rfl rfl rfl) ?_
 refine Lc rfl rfl rfl rfl (fun w hg => dfall_c B p.grav hb hgp.nums.2.1 aF aL w (hE.good hg)) ?_
 refine Lm rfl rfl rfl ?_
 iterate 3 refine Lp rfl (p_ext rfl rfl rfl) ?_
 refine Lw rfl (w_alloc zr30 rfl) ?_
 rintro _ _ ⟨b1, hb1, rfl, rfl⟩
 refine Lw rfl (w_alloc zr24 rfl) ?_
 rintro _ _ ⟨b2, hb2, rfl, rfl⟩
 refine Ls (cs' := [_, _, _, _]) rfl sz30 rfl rfl rfl rfl rfl rfl rfl ?_
 refine Ls (cs' := [_, _]) rfl sz24 rfl rfl rfl rfl rfl rfl rfl ?_
 refine La rfl rfl rfl ?_
 refine L_then (kp [0, 3, 4, 5] rfl) ?_
 refine V_seq ?_
 refine V_seq (V_draw (.rd 0 (.rd 1 (.rd 2 (.wr 3 [1] (.rd 4 (.wr 5 [] .done)))))) mixed (by kernel_rfl) rfl ?_)
 refine Dr rfl rfl (rlA (vs := [_, _, _, _]) ag30 sz30 rfl rfl rfl) ?_
 refine Dr rfl rfl (rlA (vs := [_, _]) ag24 sz24 rfl rfl rfl) ?_
 refine Dp rfl rfl (p_fieldo fo49_1 rfl rfl) ?_
 refine D_wr (.go (E' := [(1, _)]) rfl (.plain rfl) (ws (cs' := [_, _, _, _, _, _, _, _, _, _, _, _, _, _, _, _, _, _, _, _, _]) sz30 rfl rfl rfl rfl rfl rfl rfl) rfl ?_)
 rintro _ _ ⟨rfl, rfl⟩
 refine ⟨(.cons rfl (.plain rfl) (rlA (vs := [_, _]) ag24 sz24 rfl rfl rfl) .nil), ?_⟩
 refine Dp rfl rfl (p_fieldo fo49_2 rfl rfl) ?_
 refine D_wr (.go (E' := []) rfl (.plain rfl) (ws (cs' := [_, _, _, _, _, _, _, _, _, _, _, _, _, _, _, _, _, _, _, _, _]) sz24 rfl rfl rfl rfl rfl rfl rfl) rfl ?_)
 rintro _ _ ⟨rfl, rfl⟩
 refine ⟨.nil, ?_⟩
 refine D_then (kp [0, 5] rfl) ?_
 refine Vs rfl ?_
 refine Lm rfl rfl rfl ?_
 refine Lp rfl (p_cmp rfl rfl rfl (fun _ => errV_guard aF aL (fallT_e _ _) _) (fun w => errV_neq aF aL (fallT_e _ _) w)) ?_
 refine L_then (kp [0, 5, 20] rfl) ?_
 refine V_cond rfl ?_ ?_
 ·intro c1; try simp only [td] at c1
  refine V_region rfl ?_
  refine Lp rfl (p_fieldo fo49_3 rfl rfl) ?_
  refine Ls (cs' := [_, _, _, _, _, _, _, _, _, _, _, _, _, _, _, _, _, _, _, _, _]) rfl sz3 rfl rfl rfl rfl rfl rfl rfl ?_
  refine L_then (kp [5] rfl) ?_
  refine Vs rfl ?_
  refine Lm rfl rfl rfl ?_
  refine Lp rfl (p_cmp rfl rfl rfl (fun _ => errV_guard aF aL (fallT_e _ _) _) (fun w => errV_neq aF aL (fallT_e _ _) w)) ?_
  refine La rfl rfl rfl ?_
  refine L_then (kp [2] rfl) ?_
  refine V_ret ?_
  refine Leave.nil (.tmp rfl .nil) ?_
  rw [if_pos c1]
  exact ⟨_, (by (try dsimp only); repeat (first | exact HSub.nil _ | refine HSub.take (by repeat first | exact Take.head | apply Take.tail) ?_ | exact HSub.refl _ | refine HSub.drop ?_ | refine HSub.app ?_)), rfl, rfl⟩
 intro c1; try simp only [td] at c1
 refine V_skip (then_n ?_)
 refine Vs rfl ?_
 refine Lm rfl rfl rfl ?_
 refine Lp rfl (p_cmp rfl rfl rfl (fun _ => errV_guard aF aL (fallT_e _ _) _) (fun w => errV_neq aF aL (fallT_e _ _) w)) ?_
 refine La rfl rfl rfl ?_
 refine L_then (kp [2] rfl) ?_
 refine V_ret ?_
 refine Leave.nil (.tmp rfl .nil) ?_
 rw [if_neg (by omega)]
 exact ⟨_, (by (try dsimp only); repeat (first | exact HSub.nil _ | refine HSub.take (by repeat first | exact Take.head | apply Take.tail) ?_ | exact HSub.refl _ | refine HSub.drop ?_ | refine HSub.app ?_)), rfl, rfl⟩
set_option maxHeartbeats 4000000 in
theorem dlook3_c (p : De.Plan) (lv : Value) (hgp : GoodP p) (t : Task) (tv qv : Value) (hG : GoodT t) (now : Int) (hn : 0 ≤ now ∧ now ≤ 100000) (B : Box) (x y a : Span) (why line : Int) (b1 b2 b3 b4 : Nat) (w0 : World) (hp : PlanR w0 (PlanV p lv) p) (ht : TaskR w0 (.agg #[.int .i64 t.frm, .int .i64 t.speed, .int .i64 t.accel, tv, qv]) t) (hx : offS x = false) (hy : offS y = false) (w : World) (hg0 : Vc.Good w0 [] ([(b4, .cells #[.int .i64 (B).at_, .int .i64 (B).x.lo, .int .i64 (B).x.hi, .int .i64 (B).y.lo, .int .i64 (B).y.hi, .int .i64 (B).z.lo, .int .i64 (B).z.hi, .int .i64 (B).vx.lo, .int .i64 (B).vx.hi, .int .i64 (B).vy.lo, .int .i64 (B).vy.hi, .int .i64 (B).vz.lo, .int .i64 (B).vz.hi, .int .i64 (x).lo, .int .i64 (x).hi, .int .i64 (y).lo, .int .i64 (y).hi, .int .i64 (a).lo, .int .i64 (a).hi, .int .i64 (why), .int .i64 (line)] 49), (b3, .cells #[.int .i64 now] 3), (b2, t.obj tv qv 39), (b1, .cells #[lv, .int .i64 p.grav.lo, .int .i64 p.grav.hi, .int .i64 p.wait, .int .i64 p.blind] 26)]) w) : FnC Tryz.prog 75 [.pointer (some ⟨b1, 0, none⟩), .pointer (some ⟨b4, 0, none⟩)] w fun v w' => ∃ Hc, Vc.Good w0 [] Hc w' ∧ (v = .bool (decide (0 ≤ (overI p x y))) ∧ Hc = [(b4, .cells #[.int .i64 (B).at_, .int .i64 (B).x.lo, .int .i64 (B).x.hi, .int .i64 (B).y.lo, .int .i64 (B).y.hi, .int .i64 (B).z.lo, .int .i64 (B).z.hi, .int .i64 (B).vx.lo, .int .i64 (B).vx.hi, .int .i64 (B).vy.lo, .int .i64 (B).vy.hi, .int .i64 (B).vz.lo, .int .i64 (B).vz.hi, .int .i64 (x).lo, .int .i64 (x).hi, .int .i64 (y).lo, .int .i64 (y).hi, .int .i64 (a).lo, .int .i64 (a).hi, .int .i64 (if 0 ≤ (overI p x y) then 1 else why), .int .i64 (if 0 ≤ (overI p x y) then (overI p x y) else line)] 49), (b3, .cells #[.int .i64 now] 3), (b2, t.obj tv qv 39), (b1, .cells #[lv, .int .i64 p.grav.lo, .int .i64 p.grav.hi, .int .i64 p.wait, .int .i64 p.blind] 26)]) := by
 have hln := hgp.nums.1
 obtain ⟨lv0, e0, hls⟩ := hp.ex
 injection e0 with e0; injection e0 with e0; injection e0 with e0; subst e0
 obtain ⟨la, lc, rfl, hlc, hle⟩ := hls.ex
 simp only [List.length_map] at hp hlc hg0 ⊢
 refine fn_over (M := []) (H0 := [(b4, .cells #[.int .i64 (B).at_, .int .i64 (B).x.lo, .int .i64 (B).x.hi, .int .i64 (B).y.lo, .int .i64 (B).y.hi, .int .i64 (B).z.lo, .int .i64 (B).z.hi, .int .i64 (B).vx.lo, .int .i64 (B).vx.hi, .int .i64 (B).vy.lo, .int .i64 (B).vy.hi, .int .i64 (B).vz.lo, .int .i64 (B).vz.hi, .int .i64 (x).lo, .int .i64 (x).hi, .int .i64 (y).lo, .int .i64 (y).hi, .int .i64 (a).lo, .int .i64 (a).hi, .int .i64 (why), .int .i64 (line)] 49), (b3, .cells #[.int .i64 now] 3), (b2, t.obj tv qv 39), (b1, .cells #[(.slice la p.lines.length lc), .int .i64 p.grav.lo, .int .i64 p.grav.hi, .int .i64 p.wait, .int .i64 p.blind] 26)]) Tryz.func75 rfl (by kernel_rfl) Tryz.ntmps75 Tryz.results75 rfl hg0 ?_
 refine Vs rfl ?_
 refine La rfl rfl rfl ?_
 refine L_then (kp [0, 1] rfl) ?_
 refine V_seq ?_
 refine Vs rfl ?_
 refine Lp rfl (p_fieldo fo26_0 rfl rfl) ?_
 refine Lr rfl (rl ag22 rfl rfl rfl) ?_
 refine Lp rfl (p_len isl22 rfl rfl) ?_
 refine Lm rfl rfl rfl ?_
 refine L_then (kp [1, 8, 9, 10] rfl) ?_
 refine V_block ?_
 refine V_loop0 (γ := Int) (kp [1, 8, 9] rfl) (fun k => [(10, .int .i64 k)]) (fun k => 0 ≤ k ∧ k ≤ p.lines.length ∧ ∀ j : Nat, (j : Int) < k → mostL (p.ln j) x y ≤ (p.ln j).line) (fun k => (p.lines.length - k).toNat) (0) (.cons rfl (.nil _)) (⟨by omega, by omega, fun j hj => by omega⟩) ?_
 rintro k hi
 obtain ⟨hk0, hk1, hkp⟩ := hi
 refine Vs rfl ?_
 refine Lp rfl (p_lss rfl rfl rfl) ?_
 refine L_then (kp [1, 8, 9, 10, 11] rfl) ?_
 refine V_seq ?_
 refine V_cond rfl ?_ ?_
 ·intro c1; try simp only [td] at c1
  obtain ⟨tb, rfl, hc⟩ := hle k.toNat _ (getD_cells (d := lnZ) (by omega))
  refine V_skip (then_n ?_)
  refine V_seq ?_
  refine V_block ?_
  refine Vs rfl ?_
  refine Lm rfl rfl rfl ?_
  refine Lp rfl (p_idx es22 rfl rfl rfl (by omega) (by omega)) ?_
  refine Lr rfl (r_loadBA ag68 sz68 rfl rfl hc rfl List.not_mem_nil) ?_
  refine Lw rfl (w_alloc zr68 rfl) ?_
  rintro _ _ ⟨b1, hb1, rfl, rfl⟩
  refine La rfl rfl rfl ?_
  refine Ls (cs' := [_, _, _, _]) rfl sz68 rfl rfl rfl rfl rfl rfl rfl ?_
  refine L_then (kp [1, 3, 4, 8, 9, 10] rfl) ?_
  refine Vs rfl ?_
  refine Lr rfl (rlA (vs := [_, _, _, _]) ag68 sz68 rfl rfl rfl) ?_
  refine Lp rfl (p_fieldo fo49_1 rfl rfl) ?_
  refine Lr rfl (rlA (vs := [_, _, _, _]) ag30 sz30 rfl rfl rfl) ?_
  refine Lc rfl rfl rfl rfl (fun w hg => dmeas_c (p.ln k.toNat) x y (hgp.ln_at (by omega)) hx hy w) ?_
  refine Lm rfl rfl rfl ?_
  iterate 2 refine Lp rfl (p_ext rfl rfl rfl) ?_
  iterate 2 refine La rfl rfl rfl ?_
  refine L_then (kp [1, 3, 4, 6, 8, 9, 10] rfl) ?_
  refine Vs rfl ?_
  refine Lm rfl rfl rfl ?_
  refine Lp rfl (p_fieldo fo68_3 rfl rfl) ?_
  refine Lr rfl (rl ag3 rfl rfl rfl) ?_
  refine Lp rfl (p_gtr rfl rfl rfl) ?_
  refine L_then (kp [1, 3, 8, 9, 10, 25] rfl) ?_
  refine V_cond rfl ?_ ?_
  ·intro c2; try simp only [td] at c2
   have ho : (p.ln k.toNat).line < mostL (p.ln k.toNat) x y := c2
   refine Vs rfl ?_
   refine Lm rfl rfl rfl ?_
   refine Lp rfl (p_fieldo fo49_3 rfl rfl) ?_
   refine Ls (cs' := [_, _, _, _, _, _, _, _, _, _, _, _, _, _, _, _, _, _, _, _, _]) rfl sz3 rfl rfl rfl rfl rfl rfl rfl ?_
   refine Lp rfl (p_fieldo fo49_4 rfl rfl) ?_
   refine Ls (cs' := [_, _, _, _, _, _, _, _, _, _, _, _, _, _, _, _, _, _, _, _, _]) rfl sz3 rfl rfl rfl rfl rfl rfl rfl ?_
   refine L_then .nil ?_
   refine Vs rfl ?_
   refine La rfl rfl rfl ?_
   refine L_then (kp [2] rfl) ?_
   refine V_ret (blk_r (then_r (then_r (blk_r (then_r ?_)))))
   refine Leave.nil (.tmp rfl .nil) ?_
   have e := over_hit hk0 (by omega) hkp ho
   rw [e, if_pos hk0, if_pos hk0, decide_eq_true hk0]
   exact ⟨_, (by (try dsimp only); repeat (first | exact HSub.nil _ | refine HSub.take (by repeat first | exact Take.head | apply Take.tail) ?_ | exact HSub.refl _ | refine HSub.drop ?_ | refine HSub.app ?_)), rfl, rfl⟩
  intro c2; try simp only [td] at c2
  have ho : mostL (p.ln k.toNat) x y ≤ (p.lines.getD k.toNat lnZ).line := by omega
  refine V_skip (blk_n (then_n ?_))
  refine V_region rfl ?_
  first | refine Lp rfl (p_add' rfl rfl rfl (by unfold InI; omega)) ?_ | refine Lp rfl (p_add rfl rfl rfl) ?_
  refine Lm rfl rfl rfl ?_
  refine L_keep (kp [1, 8, 9, 10] rfl) (then_n ?_)
  refine ⟨k + 1, ?_, ?_, (.cons rfl (.cons rfl (.cons rfl (.cons rfl (.nil _))))), (by repeat (first | exact List.Sublist.refl _ | apply List.Sublist.cons_cons | apply List.Sublist.cons | apply List.sublist_append_of_sublist_right)), rfl⟩
  ·refine ⟨by omega, by omega, fun j hj => ?_⟩; by_cases e : (j : Int) < k
   ·exact hkp j e
   have ej : j = k.toNat := by omega
   rw [ej]; exact ho
  omega
 intro c1; try simp only [td] at c1
 refine V_exit (then_e (then_e (blk_e rfl (then_n ?_))))
 refine Vs rfl ?_
 refine La rfl rfl rfl ?_
 refine L_then (kp [2] rfl) ?_
 refine V_ret ?_
 refine Leave.nil (.tmp rfl .nil) ?_
 have e := over_no (p := p) (x := x) (y := y) (fun j hj => hkp j (by omega))
 rw [e, if_neg (by decide), if_neg (by decide)]
 exact ⟨_, (by (try dsimp only); repeat (first | exact HSub.nil _ | refine HSub.take (by repeat first | exact Take.head | apply Take.tail) ?_ | exact HSub.refl _ | refine HSub.drop ?_ | refine HSub.app ?_)), rfl, rfl⟩
set_option maxHeartbeats 3000000 in
theorem dlook_c (now : Int) (hn : 0 ≤ now ∧ now ≤ 100000) (p : De.Plan) (pv : Value) (hgp : GoodP p) (aF aL : Addr) (w : World) (hE : ErrR w 0 1 194 aF aL)  (hp : PlanR w pv p) (t : Task) (tv qv : Value) (ht : TaskR w (.agg #[.int .i64 t.frm, .int .i64 t.speed, .int .i64 t.accel, tv, qv]) t) (hG : GoodT t) : FnP Tryz.prog 37 [pv, .agg #[.int .i64 t.frm, .int .i64 t.speed, .int .i64 t.accel, tv, qv], .int .i64 now] w (.agg (De.Look.cells (lookT p t now)).toArray) := by
 have hP := hp
 obtain ⟨lv, rfl, hls⟩ := hp.ex
 have hlen := hp.len
 have hT := ht
 refine fn_pure Tryz.func37 rfl (by kernel_rfl) Tryz.ntmps37 Tryz.results37 rfl ?_
 refine Vs rfl ?_
 refine Lw rfl (w_box rfl rfl) ?_
 rintro _ _ ⟨b1, hb1, rfl, rfl⟩
 refine Lw rfl (w_box rfl rfl) ?_
 rintro _ _ ⟨b2, hb2, rfl, rfl⟩
 refine Lw rfl (w_box rfl rfl) ?_
 rintro _ _ ⟨b3, hb3, rfl, rfl⟩
 refine Lw rfl (w_alloc zr49 rfl) ?_
 rintro _ _ ⟨b4, hb4, rfl, rfl⟩
 refine L_then (kp [3, 4, 5, 6] rfl) ?_
 refine V_scope ?_
 refine Vs rfl ?_
 refine Lp rfl (p_fieldo fo49_4 rfl rfl) ?_
 refine Ls (cs' := [_, _, _, _, _, _, _, _, _, _, _, _, _, _, _, _, _, _, _, _, _]) rfl sz3 rfl rfl rfl rfl rfl rfl rfl ?_
 refine L_then (kp [3, 4, 5, 6] rfl) ?_
 refine Vs rfl ?_
 refine Lp rfl (p_func rfl rfl rfl) ?_
 refine La rfl rfl rfl ?_
 refine L_then (kp [3, 6, 7] rfl) ?_
 refine Vs rfl ?_
 refine Lp rfl (p_func rfl rfl rfl) ?_
 refine La rfl rfl rfl ?_
 refine L_then (kp [3, 6, 7, 8] rfl) ?_
 refine Vs rfl ?_
 refine Lp rfl (p_func rfl rfl rfl) ?_
 refine La rfl rfl rfl ?_
 refine L_then (kp [6, 7, 8, 9] rfl) ?_
 refine V_seq ?_
 refine V_label (then_n ?_)
 refine V_seq ?_
 refine Vs rfl ?_
 iterate 3 refine Lm rfl rfl rfl ?_
 refine Lp rfl (p_buildA (r := [_, _, _]) ar113 zr113 rfl rfl rfl) ?_
 refine Lm rfl rfl rfl ?_
 refine L_then (kp [6, 19, 20] rfl) ?_
 refine V_block ?_
 refine V_loopU ?_
 refine LU_step ?_
 refine Vs rfl ?_
 refine Lp rfl (p_lss rfl rfl rfl) ?_
 refine L_then (kp [6, 19, 20, 21] rfl) ?_
 refine V_seq ?_
 refine V_cond_t rfl rfl ?_
 refine V_skip (then_n ?_)
 refine V_seq ?_
 refine V_block ?_
 refine Vs rfl ?_
 refine Lp rfl (p_at un113 ag34 sz34 rfl rfl rfl (by omega) (by omega) rfl) ?_
 refine La rfl rfl rfl ?_
 refine L_then (kp [6, 11, 19, 20] rfl) ?_
 refine Vs rfl ?_
 refine Lm rfl rfl rfl ?_
 refine Lw rfl (wr_call rfl rfl rfl (fun w hg => by exact dlook1_c p _ hgp t _ _ hG now hn boxZ spZ spZ spZ 0 (-1) b1 b2 b3 b4 _ hP hT w hg)) ?_
 rintro _ _ ⟨rfl, rfl⟩
 generalize hB : lookB (usedQ p t now) = B1
 generalize hW : (if (usedQ p t now).2.2 = true then (0 : Int) else 2) = W1
 refine L_then (kp [6, 19, 20, 24] rfl) ?_
 refine V_cond rfl ?_ ?_
 ·intro c1; try simp only [td] at c1
  have hu := usedQ_f c1
  refine V_exit (blk_o rfl (then_e (then_e (blk_e rfl (then_n ?_)))))
  refine Vs rfl ?_
  refine Lr rfl (rlA (vs := [_, _, _, _, _, _, _, _, _, _, _, _, _, _, _, _, _, _, _, _, _]) ag49 sz49 rfl rfl rfl) ?_
  refine Lw rfl (w_storeAll (cs' := [_, _, _, _, _, _, _, _, _, _, _, _, _, _, _, _, _, _, _, _, _]) sz49 rfl rfl rfl rfl rfl rfl (by repeat first | exact .head | apply SetAt.tail) rfl) ?_
  rintro _ _ ⟨rfl, rfl⟩
  refine L_then (kp [6] rfl) ?_
  refine V_ret (sc_r ?_)
  refine Leave.nil (.cellA (us := [_, _, _, _, _, _, _, _, _, _, _, _, _, _, _, _, _, _, _, _, _]) rfl ag49 sz49 (by repeat first | exact mH | apply mT) rfl .nil) ?_
  have e1 : lookT p t now = ⟨boxZ, spZ, spZ, spZ, 2, -1⟩ := by unfold lookT; rw [hu]
  have e2 : B1 = boxZ := by rw [← hB]; exact if_neg (by rw [c1]; decide)
  have e3 : W1 = 2 := by rw [← hW]; exact if_neg (by rw [c1]; decide)
  rw [e1, e2, e3]; rfl
 intro c1; try simp only [td] at c1
 have hu := usedQ_t c1
 have hlb : B1 = (usedQ p t now).1 := by rw [← hB]; exact if_pos c1
 have hw1 : W1 = 0 := by rw [← hW]; exact if_pos c1
 have hbb : FallB 0 B1 := by rw [hlb]; exact fallB_0 (used_ok (usedT_is hu))
 refine V_skip (blk_n (then_n ?_))
 refine V_region rfl ?_
 first | refine Lp rfl (p_add' rfl rfl rfl (by unfold InI; omega)) ?_ | refine Lp rfl (p_add rfl rfl rfl) ?_
 refine Lm rfl rfl rfl ?_
 refine L_keep (kp [6, 19, 20] rfl) (then_n ?_)
 refine LU_step ?_
 refine Vs rfl ?_
 refine Lp rfl (p_lss rfl rfl rfl) ?_
 refine L_then (kp [6, 19, 20, 21] rfl) ?_
 refine V_seq ?_
 refine V_cond_t rfl rfl ?_
 refine V_skip (then_n ?_)
 refine V_seq ?_
 refine V_block ?_
 refine Vs rfl ?_
 refine Lp rfl (p_at un113 ag34 sz34 rfl rfl rfl (by omega) (by omega) rfl) ?_
 refine La rfl rfl rfl ?_
 refine L_then (kp [6, 11, 19, 20] rfl) ?_
 refine Vs rfl ?_
 refine Lm rfl rfl rfl ?_
 refine Lw rfl (wr_call rfl rfl rfl (fun w hg => by exact dlook2_c p _ hgp t _ _ hG now hn B1 spZ spZ spZ W1 (-1) b1 b2 b3 b4 _ hP hT hbb aF aL hE w hg)) ?_
 rintro _ _ ⟨rfl, rfl⟩
 generalize hF : fallT p.grav B1 = F1
 generalize hW2 : (if F1.e ≠ 0 then (3 : Int) else W1) = W2
 refine L_then (kp [6, 19, 20, 24] rfl) ?_
 refine V_cond rfl ?_ ?_
 ·intro c2; try simp only [td] at c2
  have he := c2
  refine V_exit (blk_o rfl (then_e (then_e (blk_e rfl (then_n ?_)))))
  refine Vs rfl ?_
  refine Lr rfl (rlA (vs := [_, _, _, _, _, _, _, _, _, _, _, _, _, _, _, _, _, _, _, _, _]) ag49 sz49 rfl rfl rfl) ?_
  refine Lw rfl (w_storeAll (cs' := [_, _, _, _, _, _, _, _, _, _, _, _, _, _, _, _, _, _, _, _, _]) sz49 rfl rfl rfl rfl rfl rfl (by repeat first | exact .head | apply SetAt.tail) rfl) ?_
  rintro _ _ ⟨rfl, rfl⟩
  refine L_then (kp [6] rfl) ?_
  refine V_ret (sc_r ?_)
  refine Leave.nil (.cellA (us := [_, _, _, _, _, _, _, _, _, _, _, _, _, _, _, _, _, _, _, _, _]) rfl ag49 sz49 (by repeat first | exact mH | apply mT) rfl .nil) ?_
  obtain ⟨hx, hy, ha⟩ := fallT_bad (g := p.grav) (b := B1) (by rw [hF]; exact he)
  rw [hF] at hx hy ha
  have e3 : W2 = 3 := by rw [← hW2]; exact if_pos he
  rw [lookT_of hu, ← hlb, hF, lookF, if_pos he, hx, hy, ha, e3]; rfl
 intro c2; try simp only [td] at c2
 have he := c2
 have harea := area_fall (g := p.grav) (b := B1) (by rw [hF]; exact he)
 rw [hF] at harea
 refine V_skip (blk_n (then_n ?_))
 refine V_region rfl ?_
 first | refine Lp rfl (p_add' rfl rfl rfl (by unfold InI; omega)) ?_ | refine Lp rfl (p_add rfl rfl rfl) ?_
 refine Lm rfl rfl rfl ?_
 refine L_keep (kp [6, 19, 20] rfl) (then_n ?_)
 refine LU_step ?_
 refine Vs rfl ?_
 refine Lp rfl (p_lss rfl rfl rfl) ?_
 refine L_then (kp [6, 19, 20, 21] rfl) ?_
 refine V_seq ?_
 refine V_cond_t rfl rfl ?_
 refine V_skip (then_n ?_)
 refine V_seq ?_
 refine V_block ?_
 refine Vs rfl ?_
 refine Lp rfl (p_at un113 ag34 sz34 rfl rfl rfl (by omega) (by omega) rfl) ?_
 refine La rfl rfl rfl ?_
 refine L_then (kp [6, 11, 19, 20] rfl) ?_
 refine Vs rfl ?_
 refine Lm rfl rfl rfl ?_
 refine Lw rfl (wr_call rfl rfl rfl (fun w hg => by exact dlook3_c p _ hgp t _ _ hG now hn B1 F1.x F1.y F1.at_ W2 (-1) b1 b2 b3 b4 _ hP hT harea.1 harea.2 w hg)) ?_
 rintro _ _ ⟨rfl, rfl⟩
 generalize hO : overI p F1.x F1.y = O1
 generalize hW3 : (if 0 ≤ O1 then (1 : Int) else W2) = W3
 generalize hL3 : (if 0 ≤ O1 then O1 else (-1 : Int)) = L3
 refine L_then (kp [6, 19, 20, 24] rfl) ?_
 refine V_cond rfl ?_ ?_
 ·intro c3; try simp only [td] at c3
  refine V_exit (blk_o rfl (then_e (then_e (blk_e rfl (then_n ?_)))))
  refine Vs rfl ?_
  refine Lr rfl (rlA (vs := [_, _, _, _, _, _, _, _, _, _, _, _, _, _, _, _, _, _, _, _, _]) ag49 sz49 rfl rfl rfl) ?_
  refine Lw rfl (w_storeAll (cs' := [_, _, _, _, _, _, _, _, _, _, _, _, _, _, _, _, _, _, _, _, _]) sz49 rfl rfl rfl rfl rfl rfl (by repeat first | exact .head | apply SetAt.tail) rfl) ?_
  rintro _ _ ⟨rfl, rfl⟩
  refine L_then (kp [6] rfl) ?_
  refine V_ret (sc_r ?_)
  refine Leave.nil (.cellA (us := [_, _, _, _, _, _, _, _, _, _, _, _, _, _, _, _, _, _, _, _, _]) rfl ag49 sz49 (by repeat first | exact mH | apply mT) rfl .nil) ?_
  have e3 : W3 = 1 := by rw [← hW3]; exact if_pos c3
  have e4 : L3 = O1 := by rw [← hL3]; exact if_pos c3
  rw [lookT_of hu, ← hlb, hF, lookF, if_neg (fun h => h he), hO, if_pos c3, e3, e4]; rfl
 intro c3; try simp only [td] at c3
 refine V_skip (blk_n (then_n ?_))
 refine V_region rfl ?_
 first | refine Lp rfl (p_add' rfl rfl rfl (by unfold InI; omega)) ?_ | refine Lp rfl (p_add rfl rfl rfl) ?_
 refine Lm rfl rfl rfl ?_
 refine L_keep (kp [6, 19, 20] rfl) (then_n ?_)
 refine LU_step ?_
 refine Vs rfl ?_
 refine Lp rfl (p_lss rfl rfl rfl) ?_
 refine L_then (kp [6, 19, 20, 21] rfl) ?_
 refine V_seq ?_
 refine V_cond_f rfl rfl ?_
 refine V_exit (then_e (then_e (blk_e rfl (then_n ?_))))
 refine Vs rfl ?_
 refine Lr rfl (rlA (vs := [_, _, _, _, _, _, _, _, _, _, _, _, _, _, _, _, _, _, _, _, _]) ag49 sz49 rfl rfl rfl) ?_
 refine Lw rfl (w_storeAll (cs' := [_, _, _, _, _, _, _, _, _, _, _, _, _, _, _, _, _, _, _, _, _]) sz49 rfl rfl rfl rfl rfl rfl (by repeat first | exact .head | apply SetAt.tail) rfl) ?_
 rintro _ _ ⟨rfl, rfl⟩
 refine L_then (kp [6] rfl) ?_
 refine V_ret (sc_r ?_)
 refine Leave.nil (.cellA (us := [_, _, _, _, _, _, _, _, _, _, _, _, _, _, _, _, _, _, _, _, _]) rfl ag49 sz49 (by repeat first | exact mH | apply mT) rfl .nil) ?_
 have ho : O1 = -1 := by rw [← hO]; exact over_neg (by rw [hO]; omega)
 have e3 : W3 = 0 := by rw [← hW3, if_neg (by omega), ← hW2, if_neg (fun h => h he), hw1]
 have e4 : L3 = -1 := by rw [← hL3, if_neg (by omega)]
 rw [lookT_of hu, ← hlb, hF, lookF, if_neg (fun h => h he), hO, if_neg (by omega), e3, e4, ho]; rfl

end Go.Proofs.YtlcccpeelombbaaGreatDoor

/- YtlcccpeelombbaaGreatDoor: looks and decisions. -/
set_option linter.all false
namespace Go.Proofs.YtlcccpeelombbaaGreatDoor
open Go.Vc Go.Tk Go.De
set_option maxRecDepth 100000
theorem dLook_c (now : Int) (p : De.Plan) (pv : Value) (aF aL : Addr) (w : World) (hE : ErrR w 0 1 194 aF aL)  (hp : PlanR w pv p) (t : Task) (tv qv : Value) (ht : TaskR w (.agg #[.int .i64 t.frm, .int .i64 t.speed, .int .i64 t.accel, tv, qv]) t) : FnP Tryz.prog 15 [pv, .agg #[.int .i64 t.frm, .int .i64 t.speed, .int .i64 t.accel, tv, qv], .int .i64 now] w (.tuple #[.agg (De.Look.cells (lookP p t now).1).toArray, .int .i64 (lookP p t now).2]) := by
 have hP := hp
 obtain ⟨lv, rfl, hls⟩ := hp.ex
 have hlen := hp.len
 have hT := ht
 refine fn_pure Tryz.func15 rfl (by kernel_rfl) Tryz.ntmps15 Tryz.results15 rfl ?_
 refine Vs rfl ?_
 refine Lw rfl (w_box rfl rfl) ?_
 rintro _ _ ⟨b1, hb1, rfl, rfl⟩
 refine Lw rfl (w_box rfl rfl) ?_
 rintro _ _ ⟨b2, hb2, rfl, rfl⟩
 refine Lw rfl (w_alloc zr49 rfl) ?_
 rintro _ _ ⟨b3, hb3, rfl, rfl⟩
 refine La rfl rfl rfl ?_
 refine L_then (kp [2, 3, 4, 6] rfl) ?_
 refine V_seq ?_
 refine Vs rfl ?_
 refine Lr rfl (rlA (vs := [_, _, _, _, _]) ag26 sz26 rfl rfl rfl) ?_
 refine Lr rfl (rlA (vs := [_, _, _, _, _]) ag39 sz39 rfl rfl rfl) ?_
 refine Lm rfl rfl rfl ?_
 refine Lw rfl (w_slice (r := [_]) un53 sz3 zr3 rfl (by decide) rfl (by decide) rfl rfl) ?_
 rintro _ _ ⟨b4, hb4, rfl, rfl⟩
 refine Lc rfl rfl rfl rfl (fun w hg => dat_c p _ w (hP.good hg) t _ _ (hT.good hg) [now] _ (own_ints (l := [now]) (hg.own (b4, _) (by repeat first | exact mH | apply mT)) rfl (by decide)) (by simp)) ?_
 refine La rfl rfl rfl ?_
 refine L_then (kp [2, 3, 4, 6, 8] rfl) ?_
 refine Vs rfl ?_
 refine Lm rfl rfl rfl ?_
 refine Lp rfl (p_neq rfl rfl rfl) ?_
 refine L_then (kp [2, 3, 4, 6, 8, 15] rfl) ?_
 refine V_cond rfl ?_ ?_
 ·intro c1; try simp only [td] at c1
  have hl := lookP_1 c1
  refine Vs rfl ?_
  refine Lp rfl (p_build (r := [_, _, _, _, _, _, _, _, _, _, _, _, _, _, _, _, _, _, _, _, _]) pl49 zr49 rfl rfl rfl) ?_
  refine Lm rfl rfl rfl ?_
  refine Lw rfl (w_storeAll (cs' := [_, _, _, _, _, _, _, _, _, _, _, _, _, _, _, _, _, _, _, _, _]) sz49 rfl rfl rfl rfl rfl rfl (by repeat first | exact .head | apply SetAt.tail) rfl) ?_
  rintro _ _ ⟨rfl, rfl⟩
  refine La rfl rfl rfl ?_
  refine L_then (kp [6, 7] rfl) ?_
  refine V_ret (then_r ?_)
  refine Leave.nil (.cellA (us := [_, _, _, _, _, _, _, _, _, _, _, _, _, _, _, _, _, _, _, _, _]) rfl ag49 sz49 (by repeat first | exact mH | apply mT) rfl (.tmp rfl .nil)) ?_
  rw [hl]; rfl
 intro c1; try simp only [td] at c1
 have hz := ticks_zero c1
 have hl := lookP_2 c1
 refine V_skip (then_n ?_)
 refine Vs rfl ?_
 refine Lr rfl (rlA (vs := [_, _, _, _, _]) ag26 sz26 rfl rfl rfl) ?_
 refine Lr rfl (rlA (vs := [_, _, _, _, _]) ag39 sz39 rfl rfl rfl) ?_
 refine Lm rfl rfl rfl ?_
 refine Lc rfl rfl rfl rfl (fun w hg => dlook_c now (hz.2.2 _ (.head _)) p _ hz.1 aF aL w (hE.good hg) (hP.good hg) t _ _ (hT.good hg) hz.2.1) ?_
 refine Lw rfl (w_storeAll (cs' := [_, _, _, _, _, _, _, _, _, _, _, _, _, _, _, _, _, _, _, _, _]) sz49 rfl rfl rfl rfl rfl rfl (by repeat first | exact .head | apply SetAt.tail) rfl) ?_
 rintro _ _ ⟨rfl, rfl⟩
 refine La rfl rfl rfl ?_
 refine L_then (kp [6, 7] rfl) ?_
 refine V_ret ?_
 refine Leave.nil (.cellA (us := [_, _, _, _, _, _, _, _, _, _, _, _, _, _, _, _, _, _, _, _, _]) rfl ag49 sz49 (by repeat first | exact mH | apply mT) rfl (.tmp rfl .nil)) ?_
 rw [hl]; rfl
set_option maxHeartbeats 4000000 in
theorem dDecide_c (a b : Int) (p : De.Plan) (pv : Value) (aF aL : Addr) (w : World) (hE : ErrR w 0 1 194 aF aL)  (hp : PlanR w pv p) (t : Task) (tv qv : Value) (ht : TaskR w (.agg #[.int .i64 t.frm, .int .i64 t.speed, .int .i64 t.accel, tv, qv]) t) : FnP Tryz.prog 11 [pv, .agg #[.int .i64 t.frm, .int .i64 t.speed, .int .i64 t.accel, tv, qv], .int .i64 a, .int .i64 b] w (.tuple #[.agg #[.int .i64 (decP p t a b).1.tick, .int .i64 (decP p t a b).1.why, .int .i64 (decP p t a b).1.line], .int .i64 (decP p t a b).2]) := by
 have hP := hp
 obtain ⟨lv, rfl, hls⟩ := hp.ex
 have hlen := hp.len
 have hT := ht
 refine fn_pure Tryz.func11 rfl (by kernel_rfl) Tryz.ntmps11 Tryz.results11 rfl ?_
 refine Vs rfl ?_
 refine Lw rfl (w_box rfl rfl) ?_
 rintro _ _ ⟨b1, hb1, rfl, rfl⟩
 refine Lw rfl (w_box rfl rfl) ?_
 rintro _ _ ⟨b2, hb2, rfl, rfl⟩
 refine Lw rfl (w_alloc zr42 rfl) ?_
 rintro _ _ ⟨b3, hb3, rfl, rfl⟩
 refine La rfl rfl rfl ?_
 refine L_then (kp [2, 3, 4, 5, 8] rfl) ?_
 refine Vs rfl ?_
 refine Lr rfl (rlA (vs := [_, _, _, _, _]) ag26 sz26 rfl rfl rfl) ?_
 refine Lr rfl (rlA (vs := [_, _, _, _, _]) ag39 sz39 rfl rfl rfl) ?_
 iterate 2 refine Lm rfl rfl rfl ?_
 refine Lw rfl (w_slice (r := [_, _]) un53 sz3 zr3 rfl (by decide) rfl (by decide) rfl rfl) ?_
 rintro _ _ ⟨b4, hb4, rfl, rfl⟩
 refine Lc rfl rfl rfl rfl (fun w hg => dat_c p _ w (hP.good hg) t _ _ (hT.good hg) [a, b] _ (own_ints (l := [a, b]) (hg.own (b4, _) (by repeat first | exact mH | apply mT)) rfl (by decide)) (by simp)) ?_
 refine La rfl rfl rfl ?_
 refine L_then (kp [2, 3, 4, 5, 8, 10] rfl) ?_
 refine V_seq ?_
 refine V_block ?_
 refine Vs rfl ?_
 refine Lm rfl rfl rfl ?_
 refine Lp rfl (p_neq rfl rfl rfl) ?_
 refine La rfl rfl rfl ?_
 refine L_then (kp [2, 3, 4, 5, 8, 10, 19] rfl) ?_
 refine V_cond rfl ?_ ?_
 ·intro c1; try simp only [td] at c1
  have hl := decP_1 c1
  refine Vs rfl ?_
  refine Lp rfl (p_build (r := [_, _, _]) pl42 zr42 rfl rfl rfl) ?_
  refine Lm rfl rfl rfl ?_
  refine Ls (cs' := [_, _, _]) rfl sz42 rfl rfl rfl rfl rfl rfl rfl ?_
  refine La rfl rfl rfl ?_
  refine L_then (kp [8, 9] rfl) ?_
  refine V_ret (blk_r (then_r ?_))
  refine Leave.nil (.cellA (us := [_, _, _]) rfl ag42 sz42 (by repeat first | exact mH | apply mT) rfl (.tmp rfl .nil)) ?_
  rw [hl]; rfl
 intro c1; try simp only [td] at c1
 have h0 := c1
 have hz := ticks_zero c1
 have ha := hz.2.2 a (.head _)
 have hb := hz.2.2 b (.tail _ (.head _))
 refine Vs rfl ?_
 iterate 2 refine Lm rfl rfl rfl ?_
 refine Lp rfl (p_gtr rfl rfl rfl) ?_
 refine La rfl rfl rfl ?_
 refine L_then (kp [2, 3, 4, 5, 8, 24] rfl) ?_
 refine V_cond rfl ?_ ?_
 ·intro c2; try simp only [td] at c2
  have hl := decP_2 h0 c2
  refine Vs rfl ?_
  refine Lp rfl (p_build (r := [_, _, _]) pl42 zr42 rfl rfl rfl) ?_
  refine Ls (cs' := [_, _, _]) rfl sz42 rfl rfl rfl rfl rfl rfl rfl ?_
  refine La rfl rfl rfl ?_
  refine L_then (kp [8, 9] rfl) ?_
  refine V_ret (blk_r (then_r ?_))
  refine Leave.nil (.cellA (us := [_, _, _]) rfl ag42 sz42 (by repeat first | exact mH | apply mT) rfl (.tmp rfl .nil)) ?_
  rw [hl]; rfl
 intro c2; try simp only [td] at c2
 have hab := c2
 refine Vs rfl ?_
 iterate 2 refine Lm rfl rfl rfl ?_
 first | refine Lp rfl (p_sub' rfl rfl rfl (by unfold InI; omega)) ?_ | refine Lp rfl (p_sub rfl rfl rfl) ?_
 refine Lp rfl (p_geq rfl rfl rfl) ?_
 refine La rfl rfl rfl ?_
 refine L_then (kp [2, 3, 4, 5, 8, 29] rfl) ?_
 refine V_cond rfl ?_ ?_
 ·intro c3; try simp only [td] at c3
  have hl := decP_3 h0 hab c3
  refine Vs rfl ?_
  refine Lp rfl (p_build (r := [_, _, _]) pl42 zr42 rfl rfl rfl) ?_
  refine Ls (cs' := [_, _, _]) rfl sz42 rfl rfl rfl rfl rfl rfl rfl ?_
  refine La rfl rfl rfl ?_
  refine L_then (kp [8, 9] rfl) ?_
  refine V_ret (blk_r (then_r ?_))
  refine Leave.nil (.cellA (us := [_, _, _]) rfl ag42 sz42 (by repeat first | exact mH | apply mT) rfl (.tmp rfl .nil)) ?_
  rw [hl]; rfl
 intro c3; try simp only [td] at c3
 have hl := decP_4 h0 hab c3
 refine V_skip (blk_n (then_n ?_))
 refine V_seq ?_
 refine Vs rfl ?_
 refine Lm rfl rfl rfl ?_
 refine La rfl rfl rfl ?_
 refine L_then (kp [3, 4, 5, 8, 11] rfl) ?_
 refine V_block ?_
 refine V_loop0 (γ := Int) (kp [3, 4, 5, 8] rfl) (fun k => [(11, .int .i64 k)]) (fun k => a ≤ k ∧ k ≤ b + 1 ∧ decN p t (b - a + 1).toNat a = decN p t (b - k + 1).toNat k) (fun k => (b + 1 - k).toNat) (a) (.cons rfl (.nil _)) (⟨by omega, by omega, rfl⟩) ?_
 rintro k hi
 obtain ⟨hk0, hk1, hd⟩ := hi
 refine V_seq ?_
 refine Vs rfl ?_
 iterate 2 refine Lm rfl rfl rfl ?_
 refine Lp rfl (p_leq rfl rfl rfl) ?_
 refine L_then (kp [3, 4, 5, 8, 11, 38] rfl) ?_
 refine V_cond rfl ?_ ?_
 ·intro c4; try simp only [td] at c4
  refine V_skip (then_n ?_)
  refine V_seq ?_
  refine V_block ?_
  refine Vs rfl ?_
  refine Lr rfl (rlA (vs := [_, _, _, _, _]) ag26 sz26 rfl rfl rfl) ?_
  refine Lr rfl (rlA (vs := [_, _, _, _, _]) ag39 sz39 rfl rfl rfl) ?_
  refine Lm rfl rfl rfl ?_
  refine Lc rfl rfl rfl rfl (fun w hg => dlook_c k (by omega) p _ hz.1 aF aL w (hE.good hg) (hP.good hg) t _ _ (hT.good hg) hz.2.1) ?_
  refine Lw rfl (w_alloc zr49 rfl) ?_
  rintro _ _ ⟨b5, hb5, rfl, rfl⟩
  refine Lw rfl (w_storeAll (cs' := [_, _, _, _, _, _, _, _, _, _, _, _, _, _, _, _, _, _, _, _, _]) sz49 rfl rfl rfl rfl rfl rfl (by repeat first | exact .head | apply SetAt.tail) rfl) ?_
  rintro _ _ ⟨rfl, rfl⟩
  refine L_then (kp [3, 4, 5, 8, 11, 12] rfl) ?_
  refine Vs rfl ?_
  refine Lp rfl (p_fieldo fo49_3 rfl rfl) ?_
  refine Lr rfl (rl ag3 rfl rfl rfl) ?_
  refine Lp rfl (p_neq rfl rfl rfl) ?_
  refine L_then (kp [3, 4, 5, 8, 11, 12, 47] rfl) ?_
  refine V_cond rfl ?_ ?_
  ·intro c5; try simp only [td] at c5
   have hw := c5
   refine Vs rfl ?_
   refine Lm rfl rfl rfl ?_
   refine Lp rfl (p_fieldo fo49_3 rfl rfl) ?_
   refine Lr rfl (rl ag3 rfl rfl rfl) ?_
   refine Lp rfl (p_fieldo fo49_4 rfl rfl) ?_
   refine Lr rfl (rl ag3 rfl rfl rfl) ?_
   refine Lp rfl (p_build (r := [_, _, _]) pl42 zr42 rfl rfl rfl) ?_
   refine Ls (cs' := [_, _, _]) rfl sz42 rfl rfl rfl rfl rfl rfl rfl ?_
   refine La rfl rfl rfl ?_
   refine L_then (kp [8, 9] rfl) ?_
   refine V_ret (blk_r (then_r (then_r (blk_r (then_r ?_)))))
   refine Leave.nil (.cellA (us := [_, _, _]) rfl ag42 sz42 (by repeat first | exact mH | apply mT) rfl (.tmp rfl .nil)) ?_
   rw [hl, hd, decN_hit (by omega) hw]; rfl
  intro c5; try simp only [td] at c5
  have hw := c5
  refine V_skip (blk_n (then_n ?_))
  refine V_region rfl ?_
  refine Lm rfl rfl rfl ?_
  first | refine Lp rfl (p_add' rfl rfl rfl (by unfold InI; omega)) ?_ | refine Lp rfl (p_add rfl rfl rfl) ?_
  refine La rfl rfl rfl ?_
  refine L_keep (kp [3, 4, 5, 8, 11] rfl) (then_n ?_)
  refine ⟨k + 1, ?_, ?_, (.cons rfl (.cons rfl (.cons rfl (.cons rfl (.cons rfl (.nil _)))))), (by repeat (first | exact List.nil_sublist _ | exact List.Sublist.refl _ | apply List.Sublist.cons_cons | apply List.Sublist.cons | apply List.sublist_append_of_sublist_right)), rfl⟩
  ·exact ⟨by omega, by omega, hd.trans (decN_go (by omega) hw)⟩
  omega
 intro c4; try simp only [td] at c4
 refine V_exit (then_e (then_e (blk_e rfl (then_n ?_))))
 refine Vs rfl ?_
 refine Lp rfl (p_build (r := [_, _, _]) pl42 zr42 rfl rfl rfl) ?_
 refine Ls (cs' := [_, _, _]) rfl sz42 rfl rfl rfl rfl rfl rfl rfl ?_
 refine La rfl rfl rfl ?_
 refine L_then (kp [8, 9] rfl) ?_
 refine V_ret ?_
 refine Leave.nil (.cellA (us := [_, _, _]) rfl ag42 sz42 (by repeat first | exact mH | apply mT) rfl (.tmp rfl .nil)) ?_
 rw [hl, hd, decN_end (by omega)]; rfl
theorem dsure1_c (x y : Span) (l : De.Line) (hl : LnB l) (hx : offS x = false) (hy : offS y = false) (b ty : Nat) (fr : Nat × Nat) (w : World) (hb : w.heap[b]? = some (.cells #[.int .i64 x.lo, .int .i64 x.hi, .int .i64 y.lo, .int .i64 y.hi] ty fr)) : FnP Tryz.prog 50 [.agg (De.Line.cells l).toArray, .pointer (some ⟨b, 0, none⟩)] w (.bool (decide (l.line < leastL l x y))) := by
 refine fn_pure Tryz.func50 rfl (by kernel_rfl) Tryz.ntmps50 Tryz.results50 rfl ?_
 refine Vs rfl ?_
 refine Lw rfl (w_box rfl rfl) ?_
 rintro _ _ ⟨b1, hb1, rfl, rfl⟩
 refine La rfl rfl rfl ?_
 refine L_then (kp [1, 2] rfl) ?_
 refine Vs rfl ?_
 refine Lr rfl (rlA (vs := [_, _, _, _]) ag68 sz68 rfl rfl rfl) ?_
 refine Lr rfl (r_loadBA (vs := [_, _, _, _]) ag30 sz30 rfl rfl (own_slice (n := 4) (vs := [_, _, _, _]) hb rfl).1 rfl List.not_mem_nil) ?_
 refine Lc rfl rfl rfl rfl (fun w hg => dmeas_c l x y hl hx hy w) ?_
 refine Lm rfl rfl rfl ?_
 iterate 2 refine Lp rfl (p_ext rfl rfl rfl) ?_
 iterate 2 refine La rfl rfl rfl ?_
 refine L_then (kp [2, 4] rfl) ?_
 refine Vs rfl ?_
 refine Lm rfl rfl rfl ?_
 refine Lp rfl (p_fieldo fo68_3 rfl rfl) ?_
 refine Lr rfl (rl ag3 rfl rfl rfl) ?_
 refine Lp rfl (p_gtr rfl rfl rfl) ?_
 refine La rfl rfl rfl ?_
 refine L_then (kp [3] rfl) ?_
 refine V_ret ?_
 refine Leave.nil (.tmp rfl .nil) ?_
 rfl
theorem dsure_c (x y : Span) (p : De.Plan) (pv : Value) (w : World) (hp : PlanR w pv p) : FnP Tryz.prog 22 [pv, .agg #[.int .i64 x.lo, .int .i64 x.hi, .int .i64 y.lo, .int .i64 y.hi]] w (.tuple #[.bool (sureB p x y), .int .i64 (sureI p x y), .int .i64 (areaE p x y)]) := by
 have hP := hp
 obtain ⟨lv, rfl, hls⟩ := hp.ex
 have hlen := hp.len
 refine fn_pure Tryz.func22 rfl (by kernel_rfl) Tryz.ntmps22 Tryz.results22 rfl ?_
 refine Vs rfl ?_
 refine Lw rfl (w_box rfl rfl) ?_
 rintro _ _ ⟨b1, hb1, rfl, rfl⟩
 refine Lw rfl (w_box rfl rfl) ?_
 rintro _ _ ⟨b2, hb2, rfl, rfl⟩
 iterate 3 refine La rfl rfl rfl ?_
 refine L_then (kp [2, 3] rfl) ?_
 refine V_seq ?_
 refine Vs rfl ?_
 refine Lr rfl (rlA (vs := [_, _, _, _, _]) ag26 sz26 rfl rfl rfl) ?_
 refine Lr rfl (rlA (vs := [_, _, _, _]) ag30 sz30 rfl rfl rfl) ?_
 refine Lc rfl rfl rfl rfl (fun w hg => dasked_c x y p _ w (hP.good hg)) ?_
 refine La rfl rfl rfl ?_
 refine L_then (kp [2, 3, 7] rfl) ?_
 refine Vs rfl ?_
 refine Lm rfl rfl rfl ?_
 refine Lp rfl (p_neq rfl rfl rfl) ?_
 refine L_then (kp [2, 3, 7, 13] rfl) ?_
 refine V_cond rfl ?_ ?_
 ·intro c1; try simp only [td] at c1
  refine Vs rfl ?_
  refine Lm rfl rfl rfl ?_
  iterate 3 refine La rfl rfl rfl ?_
  refine L_then (kp [4, 5, 6] rfl) ?_
  refine V_ret (then_r ?_)
  refine Leave.nil (.tmp rfl (.tmp rfl (.tmp rfl .nil))) ?_
  have e : sureB p x y = false := if_pos c1
  have e2 : sureI p x y = 0 := if_pos c1
  rw [e, e2]; rfl
 intro c1; try simp only [td] at c1
 have hz := area_zero c1
 have hln := hz.1.nums.1
 refine V_skip (then_n ?_)
 refine Vs rfl ?_
 refine Lp rfl (p_fieldo fo26_0 rfl rfl) ?_
 refine Lr rfl (rl ag22 rfl rfl rfl) ?_
 refine Lp rfl (p_func rfl rfl rfl) ?_
 refine Lc rfl rfl rfl rfl (fun w hg => idxLn_c p.lines _ _ _ (fun l => decide (l.line < leastL l x y)) w (hls.good hg) (by omega) (fun j hj w' he => dsure1_c x y _ (hz.1.ln_at hj) hz.2.1 hz.2.2 _ _ _ w' (he.heap (hg.own (b2, _) (by repeat first | exact mH | apply mT))))) ?_
 refine La rfl rfl rfl ?_
 refine L_then (kp [8] rfl) ?_
 refine Vs rfl ?_
 refine Lm rfl rfl rfl ?_
 refine Lp rfl (p_geq rfl rfl rfl) ?_
 refine Lm rfl rfl rfl ?_
 iterate 3 refine La rfl rfl rfl ?_
 refine L_then (kp [4, 5, 6] rfl) ?_
 refine V_ret ?_
 refine Leave.nil (.tmp rfl (.tmp rfl (.tmp rfl .nil))) ?_
 have e2 : sureI p x y = Tk.firstIdx (fun i => decide ((p.ln i).line < leastL (p.ln i) x y)) 0 p.lines.length := if_neg (by omega)
 have e : sureB p x y = decide (0 ≤ sureI p x y) := if_neg (by omega)
 rw [e, e2, c1]; rfl

end Go.Proofs.YtlcccpeelombbaaGreatDoor

/- YtlcccpeelombbaaGreatDoor: the examples of the statements. -/
set_option linter.all false
namespace Go.Proofs.YtlcccpeelombbaaGreatDoor
open Go.Vc Go.Tk Go.De
set_option maxRecDepth 100000
theorem lspan6_c (lo hi : Int) (w : World) : FnP Tryz.prog 26 [.int .i64 lo, .int .i64 hi] w (.agg #[.int .i64 lo, .int .i64 hi]) := by
 refine fn_pure Tryz.func26 rfl (by kernel_rfl) Tryz.ntmps26 Tryz.results26 rfl ?_
 refine Vs rfl ?_
 refine Lw rfl (w_alloc zr24 rfl) ?_
 rintro _ _ ⟨b1, hb1, rfl, rfl⟩
 refine L_then (kp [0, 1, 4] rfl) ?_
 refine Vs rfl ?_
 iterate 2 refine Lm rfl rfl rfl ?_
 refine Lp rfl (p_build (r := [_, _]) pl24 zr24 rfl rfl rfl) ?_
 refine Ls (cs' := [_, _]) rfl sz24 rfl rfl rfl rfl rfl rfl rfl ?_
 refine L_then (kp [4] rfl) ?_
 refine V_ret ?_
 refine Leave.nil (.cellA (us := [_, _]) rfl ag24 sz24 (by repeat first | exact mH | apply mT) rfl .nil) ?_
 rfl
theorem larea_c (a b c d : Int) (w : World) : FnP Tryz.prog 27 [.int .i64 a, .int .i64 b, .int .i64 c, .int .i64 d] w (.agg #[.int .i64 a, .int .i64 b, .int .i64 c, .int .i64 d]) := by
 refine fn_pure Tryz.func27 rfl (by kernel_rfl) Tryz.ntmps27 Tryz.results27 rfl ?_
 refine Vs rfl ?_
 refine Lw rfl (w_alloc zr30 rfl) ?_
 rintro _ _ ⟨b1, hb1, rfl, rfl⟩
 refine L_then (kp [0, 1, 2, 3, 8] rfl) ?_
 refine Vs rfl ?_
 iterate 2 refine Lm rfl rfl rfl ?_
 refine Lc rfl rfl rfl rfl (fun w hg => lspan6_c _ _ w) ?_
 iterate 2 refine Lm rfl rfl rfl ?_
 refine Lc rfl rfl rfl rfl (fun w hg => lspan6_c _ _ w) ?_
 refine Lp rfl (p_build (r := [_, _, _, _]) pl30 zr30 rfl rfl rfl) ?_
 refine Ls (cs' := [_, _, _, _]) rfl sz30 rfl rfl rfl rfl rfl rfl rfl ?_
 refine L_then (kp [8] rfl) ?_
 refine V_ret ?_
 refine Leave.nil (.cellA (us := [_, _, _, _]) rfl ag30 sz30 (by repeat first | exact mH | apply mT) rfl .nil) ?_
 rfl
theorem lplan_c (w : World) : FnC Tryz.prog 24 [] w fun v w' => ∃ Hc, Vc.Good w [] Hc w' ∧ ∃ b1, v = exPV b1 ∧ Hc = [(b1, exPO 68)] := by
 refine fn_new Tryz.func24 rfl (by kernel_rfl) Tryz.ntmps24 Tryz.results24 rfl ?_
 refine Vs rfl ?_
 refine Lw rfl (w_alloc zr26 rfl) ?_
 rintro _ _ ⟨b1, hb1, rfl, rfl⟩
 refine L_then (kp [0] rfl) ?_
 refine Vs rfl ?_
 iterate 2 refine Lp rfl (p_build (r := [_, _, _, _]) pl68 zr68 rfl rfl rfl) ?_
 refine Lw rfl (w_slice (r := [_, _, _, _, _, _, _, _]) un22 sz68 zr68 rfl (by decide) rfl (by decide) rfl rfl) ?_
 rintro _ _ ⟨b2, hb2, rfl, rfl⟩
 refine Lc rfl rfl rfl rfl (fun w hg => lspan6_c _ _ w) ?_
 refine Lp rfl (p_build (r := [_, _, _, _, _]) pl26 zr26 rfl rfl rfl) ?_
 refine Ls (cs' := [_, _, _, _, _]) rfl sz26 rfl rfl rfl rfl rfl rfl rfl ?_
 refine L_then (kp [0] rfl) ?_
 refine V_ret ?_
 refine Leave.nil (.cellA (us := [_, _, _, _, _]) rfl ag26 sz26 (by repeat first | exact mH | apply mT) rfl .nil) ?_
 exact ⟨[(b2, _)], (by (try dsimp only); repeat (first | exact HSub.nil _ | refine HSub.take (by repeat first | exact Take.head | apply Take.tail) ?_ | exact HSub.refl _ | refine HSub.drop ?_ | refine HSub.app ?_)), b2, rfl, rfl⟩
theorem lbox_c (w : World) : FnP Tryz.prog 25 [] w (.agg (Box.cells exBx).toArray) := by
 refine fn_pure Tryz.func25 rfl (by kernel_rfl) Tryz.ntmps25 Tryz.results25 rfl ?_
 refine Vs rfl ?_
 refine Lw rfl (w_alloc zr28 rfl) ?_
 rintro _ _ ⟨b1, hb1, rfl, rfl⟩
 refine L_then (kp [0] rfl) ?_
 refine Vs rfl ?_
 iterate 4 refine Lc rfl rfl rfl rfl (fun w hg => lspan6_c _ _ w) ?_
 refine Lp rfl (p_build (r := [_, _, _, _, _, _, _, _, _, _, _, _, _]) pl28 zr28 rfl rfl rfl) ?_
 refine Ls (cs' := [_, _, _, _, _, _, _, _, _, _, _, _, _]) rfl sz28 rfl rfl rfl rfl rfl rfl rfl ?_
 refine L_then (kp [0] rfl) ?_
 refine V_ret ?_
 refine Leave.nil (.cellA (us := [_, _, _, _, _, _, _, _, _, _, _, _, _]) rfl ag28 sz28 (by repeat first | exact mH | apply mT) rfl .nil) ?_
 rfl
theorem ltask_c (w : World) : FnP Tryz.prog 28 [] w exTV := by
 refine fn_pure Tryz.func28 rfl (by kernel_rfl) Tryz.ntmps28 Tryz.results28 rfl ?_
 refine Vs rfl ?_
 refine Lw rfl (w_alloc zr39 rfl) ?_
 rintro _ _ ⟨b1, hb1, rfl, rfl⟩
 refine L_then (kp [0] rfl) ?_
 refine Vs rfl ?_
 refine Lp rfl (p_build (r := [_, _, _, _, _]) pl39 zr39 rfl rfl rfl) ?_
 refine Ls (cs' := [_, _, _, _, _]) rfl sz39 rfl rfl rfl rfl rfl rfl rfl ?_
 refine L_then (kp [0] rfl) ?_
 refine V_ret ?_
 refine Leave.nil (.cellA (us := [_, _, _, _, _]) rfl ag39 sz39 (by repeat first | exact mH | apply mT) rfl .nil) ?_
 rfl
theorem exa_fall (w : World) (b1 : Nat) (aF aL : Addr) (hE : ErrR w 0 1 194 aF aL) (h : PlanR w (exPV b1) exPl) : FnP Tryz.prog 8 [exPV b1, .agg (Box.cells exBx).toArray] w (.tuple #[.agg #[.int .i64 600, .int .i64 670, .int .i64 (-30), .int .i64 30], .agg #[.int .i64 56, .int .i64 56], .int .i64 0]) := by
 have h1 := dFall_c exBx exPl _ aF aL w hE h
 rw [ex_fall] at h1
 exact h1
theorem exa_look (w : World) (b1 : Nat) (aF aL : Addr) (hE : ErrR w 0 1 194 aF aL) (h : PlanR w (exPV b1) exPl) : FnP Tryz.prog 15 [exPV b1, exTV, .int .i64 0] w (.tuple #[.agg (De.Look.cells exLk).toArray, .int .i64 0]) := by
 have h1 := dLook_c 0 exPl _ aF aL w hE h exTk _ _ (exTkR w)
 rw [ex_look] at h1
 exact h1
theorem exa_dec (w : World) (b1 : Nat) (aF aL : Addr) (hE : ErrR w 0 1 194 aF aL) (h : PlanR w (exPV b1) exPl) : FnP Tryz.prog 11 [exPV b1, exTV, .int .i64 0, .int .i64 200] w (.tuple #[.agg #[.int .i64 0, .int .i64 0, .int .i64 0], .int .i64 3]) := by
 have h1 := dDecide_c 0 200 exPl _ aF aL w hE h exTk _ _ (exTkR w)
 rw [ex_dec] at h1
 exact h1
theorem exa_side (w : World) (b1 : Nat) (h : PlanR w (exPV b1) exPl) : FnC Tryz.prog 17 [exPV b1, .agg #[.int .i64 1, .int .i64 0, .int .i64 0, .int .i64 0]] w fun v w' => ∃ Hc, Vc.Good w [] Hc w' ∧ ∃ A G, Hc = A ++ G ∧ ListOut 3 [] (fun sv => .tuple #[sv, .int .i64 7]) v A G := by
 have h1 := dside_c ⟨1, 0⟩ ⟨0, 0⟩ exPl _ w h
 rw [ex_side, ex_sideL] at h1
 exact h1
set_option maxHeartbeats 4000000 in
theorem dawake_c (aF aL : Addr) (w : World) (hE : ErrR w 0 1 194 aF aL) : FnP Tryz.prog 10 [] w (.bool true) := by
 refine fn_pure Tryz.func10 rfl (by kernel_rfl) Tryz.ntmps10 Tryz.results10 rfl ?_
 refine Vs rfl ?_
 refine La rfl rfl rfl ?_
 refine L_then .nil ?_
 refine Vs rfl ?_
 refine Lw rfl (w_callN rfl rfl rfl (fun w hg => lplan_c w)) ?_
 rintro _ _ ⟨_, rfl, _, x1, rfl, rfl⟩
 refine Lc rfl rfl rfl rfl (fun w hg => lbox_c w) ?_
 refine Lc rfl rfl rfl rfl (fun w hg => exa_fall w _ aF aL (hE.good hg) (exPlR (hg.own (x1, _) (by repeat first | exact mH | apply mT | apply List.mem_append_right)))) ?_
 refine Lm rfl rfl rfl ?_
 iterate 3 refine Lp rfl (p_ext rfl rfl rfl) ?_
 refine Lw rfl (w_alloc zr30 rfl) ?_
 rintro _ _ ⟨b2, hb2, rfl, rfl⟩
 refine Lw rfl (w_alloc zr24 rfl) ?_
 rintro _ _ ⟨b3, hb3, rfl, rfl⟩
 refine Ls (cs' := [_, _, _, _]) rfl sz30 rfl rfl rfl rfl rfl rfl rfl ?_
 refine Ls (cs' := [_, _]) rfl sz24 rfl rfl rfl rfl rfl rfl rfl ?_
 refine La rfl rfl rfl ?_
 refine L_then (kp [1, 2, 3] rfl) ?_
 refine Vs rfl ?_
 refine Lw rfl (w_callN rfl rfl rfl (fun w hg => lplan_c w)) ?_
 rintro _ _ ⟨_, rfl, _, x4, rfl, rfl⟩
 refine Lc rfl rfl rfl rfl (fun w hg => ltask_c w) ?_
 refine Lc rfl rfl rfl rfl (fun w hg => exa_look w _ aF aL (hE.good hg) (exPlR (hg.own (x4, _) (by repeat first | exact mH | apply mT | apply List.mem_append_right)))) ?_
 refine Lm rfl rfl rfl ?_
 iterate 2 refine Lp rfl (p_ext rfl rfl rfl) ?_
 refine Lw rfl (w_alloc zr49 rfl) ?_
 rintro _ _ ⟨b5, hb5, rfl, rfl⟩
 refine Lw rfl (w_storeAll (cs' := [_, _, _, _, _, _, _, _, _, _, _, _, _, _, _, _, _, _, _, _, _]) sz49 rfl rfl rfl rfl rfl rfl (by repeat first | exact .head | apply SetAt.tail) rfl) ?_
 rintro _ _ ⟨rfl, rfl⟩
 refine La rfl rfl rfl ?_
 refine L_then (kp [1, 2, 3, 4, 5] rfl) ?_
 refine Vs rfl ?_
 refine Lw rfl (w_callN rfl rfl rfl (fun w hg => lplan_c w)) ?_
 rintro _ _ ⟨_, rfl, _, x6, rfl, rfl⟩
 refine Lc rfl rfl rfl rfl (fun w hg => larea_c _ _ _ _ w) ?_
 refine Lw rfl (w_callG (pre := [_, _, _, _, _, _]) rfl rfl rfl rfl (fun w hg => exa_side w _ (exPlR (hg.own (x6, _) (by repeat first | exact mH | apply mT | apply List.mem_append_right))))) ?_
 rintro _ _ ⟨_, G7, rfl, hfr7, sv7, rfl, rfl, hgr7⟩
 try simp only [List.cons_append, List.nil_append, List.append_nil]
 refine Lm rfl rfl rfl ?_
 iterate 2 refine Lp rfl (p_ext rfl rfl rfl) ?_
 iterate 2 refine La rfl rfl rfl ?_
 refine L_then (kp [1, 2, 3, 4, 5, 7] rfl) ?_
 refine Vs rfl ?_
 refine Lw rfl (w_callN rfl rfl rfl (fun w hg => lplan_c w)) ?_
 rintro _ _ ⟨_, rfl, _, x8, rfl, rfl⟩
 refine Lc rfl rfl rfl rfl (fun w hg => ltask_c w) ?_
 refine Lc rfl rfl rfl rfl (fun w hg => exa_dec w _ aF aL (hE.good hg) (exPlR (hg.own (x8, _) (by repeat first | exact mH | apply mT | apply List.mem_append_right)))) ?_
 refine Lm rfl rfl rfl ?_
 iterate 2 refine Lp rfl (p_ext rfl rfl rfl) ?_
 refine Lw rfl (w_alloc zr42 rfl) ?_
 rintro _ _ ⟨b9, hb9, rfl, rfl⟩
 refine Ls (cs' := [_, _, _]) rfl sz42 rfl rfl rfl rfl rfl rfl rfl ?_
 refine La rfl rfl rfl ?_
 refine L_then (kp [1, 2, 3, 4, 5, 7, 9] rfl) ?_
 refine V_seq (V_draw (.rd 0 (.rd 1 (.rd 2 (.rd 3 (.rd 4 (.rd 5 (.rd 6 (.rd 7 (.rd 8 (.rd 9 (.rd 10 (.rd 11 (.rd 12 (.rd 13 (.rd 14 (.rd 15 (.wr 16 [15, 13, 12, 11, 10, 9, 8, 7, 6, 5, 4, 3, 2, 1, 0] (.rd 17 (.rd 18 (.rd 19 (.rd 20 (.wr 21 [20, 18, 17, 15, 14, 13, 12, 11, 10, 9, 8, 7, 6, 5, 4, 3, 2, 1, 0] (.rd 22 (.rd 23 (.rd 24 (.rd 25 (.rd 26 (.wr 27 [26, 25, 23, 22, 20, 19, 18, 17, 15, 14, 13, 12, 11, 10, 9, 8, 7, 6, 5, 4, 3, 2, 1, 0] (.rd 28 (.rd 29 (.rd 30 (.rd 31 (.rd 32 (.rd 33 (.rd 34 (.rd 35 (.rd 36 (.rd 37 (.rd 38 (.rd 39 (.rd 40 .done))))))))))))))))))))))))))))))))))))))))) mixed (by kernel_rfl) rfl ?_)
 refine Dm rfl rfl rfl rfl ?_
 refine Dp rfl rfl (p_eql rfl rfl rfl) ?_
 refine Dm rfl rfl rfl rfl ?_
 refine D_p rfl (.yes rfl rfl rfl (by first | rfl | simp | decide)) (p_move rfl rfl) ?_
 refine D_p rfl (.yes rfl rfl rfl (by first | rfl | simp | decide)) (p_eql rfl rfl rfl) ?_
 refine Dp rfl rfl (p_pick_t rfl rfl (by first | rfl | simp | decide) rfl) ?_
 refine Dm rfl rfl rfl rfl ?_
 refine D_p rfl (.yes rfl rfl rfl (by first | rfl | simp | decide)) (p_move rfl rfl) ?_
 refine D_p rfl (.yes rfl rfl rfl (by first | rfl | simp | decide)) (p_eql rfl rfl rfl) ?_
 refine Dp rfl rfl (p_pick_t rfl rfl (by first | rfl | simp | decide) rfl) ?_
 refine Dm rfl rfl rfl rfl ?_
 refine D_p rfl (.yes rfl rfl rfl (by first | rfl | simp | decide)) (p_move rfl rfl) ?_
 refine D_p rfl (.yes rfl rfl rfl (by first | rfl | simp | decide)) (p_eql rfl rfl rfl) ?_
 refine Dp rfl rfl (p_pick_t rfl rfl (by first | rfl | simp | decide) rfl) ?_
 refine Dm rfl rfl rfl rfl ?_
 refine D_rd rfl (.yes rfl rfl rfl (by first | rfl | simp | decide)) (rlA (vs := [_, _, _, _]) ag30 sz30 rfl rfl rfl) ?_
 refine D_wr (.go (E' := [(15, _)]) rfl (.yes rfl rfl rfl (by first | rfl | simp | decide)) (w_callP rfl rfl rfl (fun w hg => larea_c _ _ _ _ w)) rfl ?_)
 rintro _ _ ⟨rfl, rfl⟩
 refine ⟨(.cons rfl (.yes rfl rfl rfl (by first | rfl | simp | decide)) (rlA (vs := [_, _, _, _]) ag30 sz30 rfl rfl rfl) .nil), ?_⟩
 refine D_p rfl (.yes rfl rfl rfl (by first | rfl | simp | decide)) (p_eqS lv30 ag30 eg30 rfl rfl rfl rfl rfl) ?_
 refine Dp rfl rfl (p_pick_t rfl rfl (by first | rfl | simp | decide) rfl) ?_
 refine Dm rfl rfl rfl rfl ?_
 refine D_rd rfl (.yes rfl rfl rfl (by first | rfl | (simp; done) | (simp [eqL, eqv, Box.cells]; done) | decide)) (rlA (vs := [_, _]) ag24 sz24 rfl rfl rfl) ?_
 refine D_wr (.go (E' := [(20, _), (15, _)]) rfl (.yes rfl rfl rfl (by first | rfl | (simp; done) | (simp [eqL, eqv, Box.cells]; done) | decide)) (w_callP rfl rfl rfl (fun w hg => lspan6_c _ _ w)) rfl ?_)
 rintro _ _ ⟨rfl, rfl⟩
 refine ⟨(.cons rfl (.yes rfl rfl rfl (by first | rfl | (simp; done) | (simp [eqL, eqv, Box.cells]; done) | decide)) (rlA (vs := [_, _]) ag24 sz24 rfl rfl rfl) (.cons rfl (.yes rfl rfl rfl (by first | rfl | simp | decide)) (rlA (vs := [_, _, _, _]) ag30 sz30 rfl rfl rfl) .nil)), ?_⟩
 refine D_p rfl (.yes rfl rfl rfl (by first | rfl | (simp; done) | (simp [eqL, eqv, Box.cells]; done) | decide)) (p_eqS lv24 ag24 eg24 rfl rfl rfl rfl rfl) ?_
 refine Dp rfl rfl (p_pick_t rfl rfl (by first | rfl | (simp; done) | (simp [eqL, eqv, Box.cells]; done) | decide) rfl) ?_
 refine Dm rfl rfl rfl rfl ?_
 refine D_p rfl (.yes rfl rfl rfl (by first | rfl | (simp; done) | (simp [eqL, eqv, Box.cells]; done) | decide)) (p_fieldo fo49_1 rfl rfl) ?_
 refine D_rd rfl (.yes rfl rfl rfl (by first | rfl | (simp; done) | (simp [eqL, eqv, Box.cells]; done) | decide)) (rlA (vs := [_, _, _, _]) ag30 sz30 rfl rfl rfl) ?_
 refine D_wr (.go (E' := [(26, _), (20, _), (15, _)]) rfl (.yes rfl rfl rfl (by first | rfl | (simp; done) | (simp [eqL, eqv, Box.cells]; done) | decide)) (w_callP rfl rfl rfl (fun w hg => larea_c _ _ _ _ w)) rfl ?_)
 rintro _ _ ⟨rfl, rfl⟩
 refine ⟨(.cons rfl (.yes rfl rfl rfl (by first | rfl | (simp; done) | (simp [eqL, eqv, Box.cells]; done) | decide)) (rlA (vs := [_, _, _, _]) ag30 sz30 rfl rfl rfl) (.cons rfl (.yes rfl rfl rfl (by first | rfl | (simp; done) | (simp [eqL, eqv, Box.cells]; done) | decide)) (rlA (vs := [_, _]) ag24 sz24 rfl rfl rfl) (.cons rfl (.yes rfl rfl rfl (by first | rfl | simp | decide)) (rlA (vs := [_, _, _, _]) ag30 sz30 rfl rfl rfl) .nil))), ?_⟩
 refine D_p rfl (.yes rfl rfl rfl (by first | rfl | (simp; done) | (simp [eqL, eqv, Box.cells]; done) | decide)) (p_eqS lv30 ag30 eg30 rfl rfl rfl rfl rfl) ?_
 refine Dp rfl rfl (p_pick_t rfl rfl (by first | rfl | (simp; done) | (simp [eqL, eqv, Box.cells]; done) | decide) rfl) ?_
 refine Dm rfl rfl rfl rfl ?_
 refine D_p rfl (.yes rfl rfl rfl (by first | rfl | (simp; done) | (simp [eqL, eqv, Box.cells]; done) | decide)) (p_fieldo fo49_4 rfl rfl) ?_
 refine D_rd rfl (.yes rfl rfl rfl (by first | rfl | (simp; done) | (simp [eqL, eqv, Box.cells]; done) | decide)) (rl ag3 rfl rfl rfl) ?_
 refine D_p rfl (.yes rfl rfl rfl (by first | rfl | (simp; done) | (simp [eqL, eqv, Box.cells]; done) | decide)) (p_eql rfl rfl rfl) ?_
 refine Dp rfl rfl (p_pick_t rfl rfl (by first | rfl | (simp; done) | (simp [eqL, eqv, Box.cells]; done) | decide) rfl) ?_
 refine Dm rfl rfl rfl rfl ?_
 refine D_p rfl (.yes rfl rfl rfl (by first | rfl | simp | decide)) (p_fieldo fo49_3 rfl rfl) ?_
 refine D_rd rfl (.yes rfl rfl rfl (by first | rfl | simp | decide)) (rl ag3 rfl rfl rfl) ?_
 refine D_p rfl (.yes rfl rfl rfl (by first | rfl | simp | decide)) (p_eql rfl rfl rfl) ?_
 refine Dp rfl rfl (p_pick_t rfl rfl (by first | rfl | simp | decide) rfl) ?_
 refine Dp rfl rfl (p_assign rfl rfl) ?_
 refine D_then (kp [0] rfl) ?_
 refine V_ret ?_
 refine Leave.nil (.tmp rfl .nil) ?_
 rfl

end Go.Proofs.YtlcccpeelombbaaGreatDoor
