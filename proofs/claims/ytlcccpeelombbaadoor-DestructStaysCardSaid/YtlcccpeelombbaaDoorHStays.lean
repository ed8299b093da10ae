/- YtlcccpeelombbaaDoor: DestructStays is proved: for any plan, task, tick and place (no condition but what the card ties) it returns true. -/
import Derived.Test.YtlcccpeelombbaaDoorRows
import Derived.Test.YtlcccpeelombbaaDoorCards
import Derived.Test.YtlcccpeelombbaaDoorTie
import Derived.Test.YtlcccpeelombbaaDoorZan
import Derived.Test.YtlcccpeelombbaaDoorZaj
import Derived.Test.YtlcccpeelombbaaDoorZah
import Derived.ProofKit
import Derived.LaidMore
import Derived.Stop.Joined
import Derived.Stop.LaidTwo
import Derived.SevenTiedAt
set_option linter.all false
namespace Go.Proofs.YtlcccpeelombbaaDoor
open Go.Vc Go.Tk Go.De Go.ChangeShapes Go.WideShapes Go.ChangeAt Go.RowKit
set_option maxRecDepth 100000
set_option maxHeartbeats 8000000 in
theorem destructStays_c (x a b : Int) (ha : 0 ≤ a ∧ a ≤ 255) (hb : 0 ≤ b ∧ b ≤ 255) (p : De.Plan) (pv : Value) (aF aL : Addr) (w : World) (hE : ErrR w 0 1 188 aF aL)  (hp : PlanR w pv p) (t : Task) (tv qv : Value) (ht : TaskR w (.agg #[.int .i64 t.frm, .int .i64 t.speed, .int .i64 t.accel, tv, qv]) t) : FnP Tryd.prog 8 [pv, .agg #[.int .i64 t.frm, .int .i64 t.speed, .int .i64 t.accel, tv, qv], .agg #[.int .i64 x, .int .u8 a, .int .u8 b]] w (.bool true) := by
 have hP := hp
 obtain ⟨lv, rfl, hls⟩ := hp.ex
 have hlen := hp.len
 obtain ⟨la, lc, rfl, hlc, hle⟩ := hls.ex
 simp only [List.length_map] at hP hlc ⊢
 have hT := ht
 refine fn_pure Tryd.func8 rfl (by kernel_rfl) Tryd.ntmps8 Tryd.results8 rfl ?_
 refine Vs rfl ?_
 refine Lw rfl (w_box rfl rfl) ?_
 rintro _ _ ⟨b1, hb1, rfl, rfl⟩
 refine Lw rfl (w_box rfl rfl) ?_
 rintro _ _ ⟨b2, hb2, rfl, rfl⟩
 refine Lw rfl (w_box rfl rfl) ?_
 rintro _ _ ⟨b3, hb3, rfl, rfl⟩
 refine La rfl rfl rfl ?_
 refine L_then (kp [3, 4, 5] rfl) ?_
 refine Vs rfl ?_
 refine Lr rfl (rlA (vs := [_, _, _, _, _]) ag26 sz26 rfl rfl rfl) ?_
 refine Lr rfl (rlA (vs := [_, _, _, _, _]) ag54 sz54 rfl rfl rfl) ?_
 refine Lp rfl (p_fieldo fo72_0 rfl rfl) ?_
 refine Lr rfl (rl ag3 rfl rfl rfl) ?_
 refine Lc rfl rfl rfl rfl (fun w hg => dLook_c x p _ aF aL w (hE.good hg) (hP.good hg) t _ _ (hT.good hg)) ?_
 refine Lm rfl rfl rfl ?_
 refine Lp rfl (p_ext rfl rfl rfl) ?_
 refine Lp rfl (p_ext rfl rfl rfl) ?_
 refine Lw rfl (w_alloc zr56 rfl) ?_
 rintro _ _ ⟨b4, hb4, rfl, rfl⟩
 refine Lw rfl (w_storeAll (cs' := [_, _, _, _, _, _, _, _, _, _, _, _, _, _, _, _, _, _, _, _, _]) sz56 rfl rfl rfl rfl rfl rfl (by repeat first | exact .head | apply SetAt.tail) rfl) ?_
 rintro _ _ ⟨rfl, rfl⟩
 refine La rfl rfl rfl ?_
 refine L_then (kp [3, 5, 7, 8] rfl) ?_
 refine V_seq ?_
 refine Vs rfl ?_
 refine Lm rfl rfl rfl ?_
 refine Lp rfl (p_neq rfl rfl rfl) ?_
 refine Lm rfl rfl rfl ?_
 refine L_cases (d := 25) rfl ?_ ?_
 ·intro g1; have g1' := g1; try simp only [td] at g1'
  refine L_no rfl rfl rfl g1 ?_
  refine L_no rfl rfl rfl g1 ?_
  refine L_no rfl rfl rfl g1 ?_
  refine Lp rfl (p_pick_t rfl rfl g1 rfl) ?_
  refine Lm rfl rfl rfl ?_
  refine L_no rfl rfl rfl rfl ?_
  refine L_no rfl rfl rfl rfl ?_
  refine L_no rfl rfl rfl rfl ?_
  refine Lp rfl (p_pick_t rfl rfl rfl rfl) ?_
  refine L_then (kp [3, 5, 7, 34] rfl) ?_
  refine V_cond_t rfl rfl ?_
  refine Vs rfl ?_
  refine Lc rfl rfl rfl rfl (fun w hg => dawake_c aF aL w (hE.good hg)) ?_
  refine La rfl rfl rfl ?_
  refine L_then (kp [6] rfl) ?_
  refine V_ret (then_r ?_)
  refine Leave.nil (.tmp rfl .nil) ?_
  rfl
 ·intro g1; have g1' := g1; try simp only [td] at g1'
  have hlk := g1'
  refine L_yes rfl rfl rfl g1 (X_p (p_fieldo fo56_3 rfl rfl) ?_)
  refine L_yes rfl rfl rfl g1 (X_rd (rl ag3 rfl rfl rfl) ?_)
  refine L_yes rfl rfl rfl g1 (X_p (p_eql rfl rfl rfl) ?_)
  refine Lp rfl (p_pick_f rfl rfl g1 rfl) ?_
  refine Lm rfl rfl rfl ?_
  refine L_cases (d := 30) rfl ?_ ?_
  ·intro g2; have g2' := g2; try simp only [td] at g2'
   refine L_no rfl rfl rfl g2 ?_
   refine L_no rfl rfl rfl g2 ?_
   refine L_no rfl rfl rfl g2 ?_
   refine Lp rfl (p_pick_t rfl rfl g2 rfl) ?_
   refine L_then (kp [3, 5, 7, 34] rfl) ?_
   refine V_cond_t rfl rfl ?_
   refine Vs rfl ?_
   refine Lc rfl rfl rfl rfl (fun w hg => dawake_c aF aL w (hE.good hg)) ?_
   refine La rfl rfl rfl ?_
   refine L_then (kp [6] rfl) ?_
   refine V_ret (then_r ?_)
   refine Leave.nil (.tmp rfl .nil) ?_
   rfl
  ·intro g2; have g2' := g2; try simp only [td] at g2'
   have hw2 := g2'
   refine L_yes rfl rfl rfl g2 (X_p (p_fieldo fo56_3 rfl rfl) ?_)
   refine L_yes rfl rfl rfl g2 (X_rd (rl ag3 rfl rfl rfl) ?_)
   refine L_yes rfl rfl rfl g2 (X_p (p_eql rfl rfl rfl) ?_)
   refine Lp rfl (p_pick_f rfl rfl g2 rfl) ?_
   refine L_then (kp [3, 5, 7, 34] rfl) ?_
   refine V_cond rfl ?_ ?_
   ·intro c1; have c1r := c1; try simp only [td] at c1
    refine Vs rfl ?_
    refine Lc rfl rfl rfl rfl (fun w hg => dawake_c aF aL w (hE.good hg)) ?_
    refine La rfl rfl rfl ?_
    refine L_then (kp [6] rfl) ?_
    refine V_ret (then_r ?_)
    refine Leave.nil (.tmp rfl .nil) ?_
    rfl
   ·intro c1; have c1r := c1; try simp only [td] at c1
    have hw3 := c1
    have hz := ticks_of_look hlk
    obtain ⟨hgp, hGt, _⟩ := ticks_zero hz
    have hn8 := hgp.nums.1
    have hLI : LookIs p t x (lookP p t x).1 := by
     have e := lookP_2 hz
     rw [e] at hw2 hw3 ⊢
     exact look_is hw2 hw3
    obtain ⟨hox, hoy⟩ := area_of hLI
    have hbx := off_false.1 hox
    have hby := off_false.1 hoy
    obtain ⟨hx1, hx2⟩ := share_nums (s := (lookP p t x).1.x) (by omega) ha
    obtain ⟨hy1, hy2⟩ := share_nums (s := (lookP p t x).1.y) (by omega) hb
    have hsx := share_in (s := (lookP p t x).1.x) hbx.2.1 ha
    have hsy := share_in (s := (lookP p t x).1.y) hby.2.1 hb
    simp only [shareI] at hsx hsy
    have hqa : areaE p ⟨((lookP p t x).1.x.lo + (((lookP p t x).1.x.hi - (lookP p t x).1.x.lo) * a).tdiv 255), ((lookP p t x).1.x.lo + (((lookP p t x).1.x.hi - (lookP p t x).1.x.lo) * a).tdiv 255)⟩ ⟨((lookP p t x).1.y.lo + (((lookP p t x).1.y.hi - (lookP p t x).1.y.lo) * b).tdiv 255), ((lookP p t x).1.y.lo + (((lookP p t x).1.y.hi - (lookP p t x).1.y.lo) * b).tdiv 255)⟩ = 0 := area_ok hgp (off_false.2 (by dsimp only; omega)) (off_false.2 (by dsimp only; omega))
    have hla : areaE p (lookP p t x).1.x (lookP p t x).1.y = 0 := area_ok hgp hox hoy
    have hsl : (sideL p (lookP p t x).1.x (lookP p t x).1.y).length = p.lines.length := by rw [sideL_ok hla, List.length_map]
    refine V_skip (then_n ?_)
    refine Vs rfl ?_
    refine Lp rfl (p_fieldo fo56_1 rfl rfl) ?_
    refine Lp rfl (p_fieldo fo36_0 rfl rfl) ?_
    refine Lp rfl (p_fieldo fo24_0 rfl rfl) ?_
    refine Lr rfl (rl ag3 rfl rfl rfl) ?_
    refine Lp rfl (p_fieldo fo56_1 rfl rfl) ?_
    refine Lp rfl (p_fieldo fo36_0 rfl rfl) ?_
    refine Lp rfl (p_fieldo fo24_1 rfl rfl) ?_
    refine Lr rfl (rl ag3 rfl rfl rfl) ?_
    refine Lp rfl (p_fieldo fo56_1 rfl rfl) ?_
    refine Lp rfl (p_fieldo fo36_0 rfl rfl) ?_
    refine Lp rfl (p_fieldo fo24_0 rfl rfl) ?_
    refine Lr rfl (rl ag3 rfl rfl rfl) ?_
    first | refine Lp rfl (p_sub' rfl rfl rfl (by unfold InI; omega)) ?_ | refine Lp rfl (p_sub rfl rfl rfl) ?_
    refine Lp rfl (p_fieldo fo72_1 rfl rfl) ?_
    refine Lr rfl (rl ag5 rfl rfl rfl) ?_
    refine Lp rfl (p_convI un5 un3 rfl rfl (by unfold InI; omega)) ?_
    refine Lp rfl (p_mul' rfl rfl rfl (by unfold InI; omega)) ?_
    refine Lp rfl (p_quo' rfl rfl rfl (by first | decide | omega) (by unfold InI; omega)) ?_
    first | refine Lp rfl (p_add' rfl rfl rfl (by unfold InI; omega)) ?_ | refine Lp rfl (p_add rfl rfl rfl) ?_
    refine Lp rfl (p_fieldo fo56_1 rfl rfl) ?_
    refine Lp rfl (p_fieldo fo36_1 rfl rfl) ?_
    refine Lp rfl (p_fieldo fo24_0 rfl rfl) ?_
    refine Lr rfl (rl ag3 rfl rfl rfl) ?_
    refine Lp rfl (p_fieldo fo56_1 rfl rfl) ?_
    refine Lp rfl (p_fieldo fo36_1 rfl rfl) ?_
    refine Lp rfl (p_fieldo fo24_1 rfl rfl) ?_
    refine Lr rfl (rl ag3 rfl rfl rfl) ?_
    refine Lp rfl (p_fieldo fo56_1 rfl rfl) ?_
    refine Lp rfl (p_fieldo fo36_1 rfl rfl) ?_
    refine Lp rfl (p_fieldo fo24_0 rfl rfl) ?_
    refine Lr rfl (rl ag3 rfl rfl rfl) ?_
    first | refine Lp rfl (p_sub' rfl rfl rfl (by unfold InI; omega)) ?_ | refine Lp rfl (p_sub rfl rfl rfl) ?_
    refine Lp rfl (p_fieldo fo72_2 rfl rfl) ?_
    refine Lr rfl (rl ag5 rfl rfl rfl) ?_
    refine Lp rfl (p_convI un5 un3 rfl rfl (by unfold InI; omega)) ?_
    refine Lp rfl (p_mul' rfl rfl rfl (by unfold InI; omega)) ?_
    refine Lp rfl (p_quo' rfl rfl rfl (by first | decide | omega) (by unfold InI; omega)) ?_
    first | refine Lp rfl (p_add' rfl rfl rfl (by unfold InI; omega)) ?_ | refine Lp rfl (p_add rfl rfl rfl) ?_
    refine Lp rfl (p_build (r := [_, _]) pl42 zr42 rfl rfl rfl) ?_
    refine Lw rfl (w_alloc zr42 rfl) ?_
    rintro _ _ ⟨b5, hb5, rfl, rfl⟩
    refine Ls (cs' := [_, _]) rfl sz42 rfl rfl rfl rfl rfl rfl rfl ?_
    refine L_then (kp [3, 7, 9] rfl) ?_
    refine V_seq (V_draw (.rd 0 (.rd 1 (.rd 2 (.rd 3 (.rd 4 (.rd 5 (.rd 6 (.rd 7 (.rd 8 (.wr 9 [7, 5, 3, 1, 0] (.wr 10 [8, 7, 6, 5, 4, 3, 2, 1] (.rd 11 (.rd 12 (.rd 13 (.rd 14 (.rd 15 .done)))))))))))))))) mixed (by kernel_rfl) rfl ?_)
    refine Dr rfl rfl (rlA (vs := [_, _, _, _, _]) ag26 sz26 rfl rfl rfl) ?_
    refine Dp rfl rfl (p_fieldo fo42_0 rfl rfl) ?_
    refine Dr rfl rfl (rl ag3 rfl rfl rfl) ?_
    refine Dp rfl rfl (p_fieldo fo42_0 rfl rfl) ?_
    refine Dr rfl rfl (rl ag3 rfl rfl rfl) ?_
    refine Dp rfl rfl (p_fieldo fo42_1 rfl rfl) ?_
    refine Dr rfl rfl (rl ag3 rfl rfl rfl) ?_
    refine Dp rfl rfl (p_fieldo fo42_1 rfl rfl) ?_
    refine Dr rfl rfl (rl ag3 rfl rfl rfl) ?_
    refine D_wr (.go (E' := [(0, _)]) rfl (.plain rfl) (w_callP rfl rfl rfl (fun w hg => larea_c _ _ _ _ w)) rfl ?_)
    rintro _ _ ⟨rfl, rfl⟩
    refine ⟨(.cons rfl (.plain rfl) (rlA (vs := [_, _, _, _, _]) ag26 sz26 rfl rfl rfl) .nil), ?_⟩
    refine D_wr (.go (E' := []) rfl (.plain rfl) (w_callP rfl rfl rfl (fun w hg => dkeeps_c ⟨((lookP p t x).1.x.lo + (((lookP p t x).1.x.hi - (lookP p t x).1.x.lo) * a).tdiv 255), ((lookP p t x).1.x.lo + (((lookP p t x).1.x.hi - (lookP p t x).1.x.lo) * a).tdiv 255)⟩ ⟨((lookP p t x).1.y.lo + (((lookP p t x).1.y.hi - (lookP p t x).1.y.lo) * b).tdiv 255), ((lookP p t x).1.y.lo + (((lookP p t x).1.y.hi - (lookP p t x).1.y.lo) * b).tdiv 255)⟩ p _ w (hP.good hg))) rfl ?_)
    rintro _ _ ⟨rfl, rfl⟩
    refine ⟨.nil, ?_⟩
    refine Dm rfl rfl rfl rfl ?_
    refine Dp rfl rfl (p_ext rfl rfl rfl) ?_
    refine Dp rfl rfl (p_ext rfl rfl rfl) ?_
    refine Dp rfl rfl (p_assign rfl rfl) ?_
    refine Dp rfl rfl (p_assign rfl rfl) ?_
    refine D_then (kp [3, 7, 8, 9, 10] rfl) ?_
    refine Vs rfl ?_
    refine Lr rfl (rlA (vs := [_, _, _, _, _]) ag26 sz26 rfl rfl rfl) ?_
    refine Lp rfl (p_fieldo fo56_1 rfl rfl) ?_
    refine Lr rfl (rlA (vs := [_, _, _, _]) ag36 sz36 rfl rfl rfl) ?_
    refine Lw rfl (w_callG (pre := [_, _, _, _, _]) rfl rfl rfl rfl (fun w hg => dside_c (lookP p t x).1.x (lookP p t x).1.y p _ w (hP.good hg))) ?_
    rintro _ _ ⟨_, G1, rfl, hfr1, sv1, rfl, rfl, hgr1⟩
    obtain ⟨sa1, sc1, rfl⟩ := Grow.form hgr1
    try simp only [List.cons_append, List.nil_append, List.append_nil]
    refine Lm rfl rfl rfl ?_
    refine Lp rfl (p_ext rfl rfl rfl) ?_
    refine Lp rfl (p_ext rfl rfl rfl) ?_
    refine La rfl rfl rfl ?_
    refine La rfl rfl rfl ?_
    refine L_then (kp [3, 7, 8, 9, 10, 11, 12] rfl) ?_
    refine V_seq ?_
    refine Vs rfl ?_
    refine Lm rfl rfl rfl ?_
    refine Lp rfl (p_neq rfl rfl rfl) ?_
    refine Lm rfl rfl rfl ?_
    refine L_yes rfl rfl rfl (decide_eq_false (by rw [hqa]; decide)) (X_p (p_move rfl rfl) ?_)
    refine L_yes rfl rfl rfl (decide_eq_false (by rw [hqa]; decide)) (X_p (p_neq rfl rfl rfl) ?_)
    refine Lp rfl (p_pick_f rfl rfl (decide_eq_false (by rw [hqa]; decide)) rfl) ?_
    refine Lm rfl rfl rfl ?_
    refine L_yes rfl rfl rfl (decide_eq_false (by rw [hla]; decide)) (X_p (p_move rfl rfl) ?_)
    refine L_yes rfl rfl rfl (decide_eq_false (by rw [hla]; decide)) (X_p (p_len isl66 rfl rfl) ?_)
    refine L_yes rfl rfl rfl (decide_eq_false (by rw [hla]; decide)) (X_p (p_fieldo fo26_0 rfl rfl) ?_)
    refine L_yes rfl rfl rfl (decide_eq_false (by rw [hla]; decide)) (X_rd (rl ag22 rfl rfl rfl) ?_)
    refine L_yes rfl rfl rfl (decide_eq_false (by rw [hla]; decide)) (X_p (p_len isl22 rfl rfl) ?_)
    refine L_yes rfl rfl rfl (decide_eq_false (by rw [hla]; decide)) (X_p (p_neq rfl rfl rfl) ?_)
    refine Lp rfl (p_pick_f rfl rfl (decide_eq_false (by rw [hla]; decide)) rfl) ?_
    refine L_then (kp [3, 7, 9, 10, 11, 109] rfl) ?_
    refine V_cond_f rfl (decide_eq_false (by rw [hsl]; simp)) ?_
    refine V_skip (then_n ?_)
    refine Vs rfl ?_
    refine La rfl rfl rfl ?_
    refine L_then (kp [3, 7, 9, 10, 11, 13] rfl) ?_
    refine V_seq ?_
    refine Vs rfl ?_
    refine La rfl rfl rfl ?_
    refine L_then (kp [3, 7, 9, 10, 11, 13, 14] rfl) ?_
    refine V_block ?_
    refine V_loop0 (γ := Int × Bool) (kp [3, 7, 9, 10, 11] rfl) (fun (k, nb) => [(14, .int .i64 k), (13, .bool nb)]) (fun (k, nb) => 0 ≤ k ∧ k ≤ p.lines.length ∧ nb = (p.lines.take k.toNat).all (nearL (lookP p t x).1.x (lookP p t x).1.y ((lookP p t x).1.x.lo + (((lookP p t x).1.x.hi - (lookP p t x).1.x.lo) * a).tdiv 255) ((lookP p t x).1.y.lo + (((lookP p t x).1.y.hi - (lookP p t x).1.y.lo) * b).tdiv 255))) (fun (k, nb) => (p.lines.length - k).toNat) ((0, true)) (.cons rfl (.cons rfl (.nil _))) (⟨by omega, by omega, rfl⟩) ?_
    rintro ⟨k, nb⟩ hi
    obtain ⟨hk0, hk1, hnb⟩ := hi
    dsimp only at hk0 hk1 hnb ⊢
    refine V_seq ?_
    refine Vs rfl ?_
    refine Lm rfl rfl rfl ?_
    refine Lm rfl rfl rfl ?_
    refine Lp rfl (p_len isl66 rfl rfl) ?_
    refine Lp rfl (p_lss rfl rfl rfl) ?_
    refine L_then (kp [3, 7, 9, 10, 11, 13, 14, 113] rfl) ?_
    refine V_cond rfl ?_ ?_
    ·intro c2; have c2r := c2; try simp only [td] at c2
     obtain ⟨lb, rfl, hc⟩ := hle k.toNat _ (getD_cells (d := lnZ) (by omega))
     obtain ⟨gb1, cur1, rfl, rfl, hcur1, hcs1, hgn1, hgm1⟩ := Grow.form2 hgr1 (by omega)
     have hlk2 : LnB (p.lines.getD k.toNat lnZ) := hgp.ln_at (i := k.toNat) (by omega)
     have hsd := side_at hla (k := k.toNat) (by omega)
     have hmb := most_bnd hlk2 hox hoy
     have hl3 := hlk2.line
     have hl4 := hlk2.keep
     have hms := most_bnd (x := ⟨((lookP p t x).1.x.lo + (((lookP p t x).1.x.hi - (lookP p t x).1.x.lo) * a).tdiv 255), ((lookP p t x).1.x.lo + (((lookP p t x).1.x.hi - (lookP p t x).1.x.lo) * a).tdiv 255)⟩) (y := ⟨((lookP p t x).1.y.lo + (((lookP p t x).1.y.hi - (lookP p t x).1.y.lo) * b).tdiv 255), ((lookP p t x).1.y.lo + (((lookP p t x).1.y.hi - (lookP p t x).1.y.lo) * b).tdiv 255)⟩) hlk2 (off_false.2 (by dsimp only; omega)) (off_false.2 (by dsimp only; omega))
     rw [most_one] at hms
     refine V_skip (then_n ?_)
     refine V_seq ?_
     refine V_block ?_
     refine V_draw (.rd 0 (.rd 1 (.rd 2 (.rd 3 (.rd 4 (.rd 5 (.rd 6 (.rd 7 (.rd 8 (.rd 9 (.rd 10 (.rd 11 (.rd 12 (.rd 13 (.rd 14 (.rd 15 (.rd 16 (.rd 17 (.rd 18 (.rd 21 (.rd 22 (.rd 23 (.rd 24 (.rd 25 (.rd 26 (.rd 27 (.rd 28 (.rd 29 (.rd 30 (.rd 31 (.rd 32 (.rd 33 (.wr 19 [33, 32, 31, 30, 29, 28, 27, 26, 25, 24, 23, 22, 21, 16, 15, 14, 13, 12, 11, 10, 9, 8, 7, 6, 5, 4, 3, 2, 0] (.rd 20 (.rd 34 (.rd 35 (.wr 36 [] .done))))))))))))))))))))))))))))))))))))) mixed (by kernel_rfl) rfl ?_
     refine Dm rfl rfl rfl rfl ?_
     refine Dm rfl rfl rfl rfl ?_
     refine D_cases (d := 117) rfl ?_ ?_
     ·intro g3; have g3' := g3; try simp only [td] at g3'
      have hnt := g3'
      refine D_p rfl (.yes rfl rfl rfl g3) (p_fieldo fo26_0 rfl rfl) ?_
      refine D_rd rfl (.yes rfl rfl rfl g3) (rl ag22 rfl rfl rfl) ?_
      refine D_p rfl (.yes rfl rfl rfl g3) (p_move rfl rfl) ?_
      refine D_p rfl (.yes rfl rfl rfl g3) (p_idx es22 rfl rfl rfl (by omega) (by omega)) ?_
      refine D_p rfl (.yes rfl rfl rfl g3) (p_field fo60_3 rfl rfl) ?_
      refine D_rd rfl (.yes rfl rfl rfl g3) (r_loadB ag3 rfl rfl (hc 3 _ rfl) List.not_mem_nil) ?_
      refine D_p rfl (.yes rfl rfl rfl g3) (p_move rfl rfl) ?_
      refine D_p rfl (.yes rfl rfl rfl g3) (p_move rfl rfl) ?_
      refine D_p rfl (.yes rfl rfl rfl g3) (p_idxo es66 rfl rfl rfl (by omega) (by omega)) ?_
      refine D_rd rfl (.yes rfl rfl rfl g3) (r_load ag3 rfl rfl (by repeat first | exact mH | apply mT | apply List.mem_append_right) (v := .int .i64 ((sideL p (lookP p t x).1.x (lookP p t x).1.y).getD k.toNat 0)) (cur_at hcur1 (ii_at (by omega) (by omega)))) ?_
      first | refine D_p rfl (.yes rfl rfl rfl g3) (p_sub' rfl rfl rfl (by unfold InI; omega)) ?_ | refine D_p rfl (.yes rfl rfl rfl g3) (p_sub rfl rfl rfl) ?_
      refine D_p rfl (.yes rfl rfl rfl g3) (p_fieldo fo26_0 rfl rfl) ?_
      refine D_rd rfl (.yes rfl rfl rfl g3) (rl ag22 rfl rfl rfl) ?_
      refine D_p rfl (.yes rfl rfl rfl g3) (p_move rfl rfl) ?_
      refine D_p rfl (.yes rfl rfl rfl g3) (p_idx es22 rfl rfl rfl (by omega) (by omega)) ?_
      refine D_rd rfl (.yes rfl rfl rfl g3) (r_loadBA ag60 sz60 rfl rfl hc rfl List.not_mem_nil) ?_
      refine D_rd rfl (.yes rfl rfl rfl g3) (rlA (vs := [_, _]) ag42 sz42 rfl rfl rfl) ?_
      refine D_p rfl (.yes rfl rfl rfl g3) (p_fieldo fo26_0 rfl rfl) ?_
      refine D_rd rfl (.yes rfl rfl rfl g3) (rl ag22 rfl rfl rfl) ?_
      refine D_p rfl (.yes rfl rfl rfl g3) (p_move rfl rfl) ?_
      refine D_p rfl (.yes rfl rfl rfl g3) (p_idx es22 rfl rfl rfl (by omega) (by omega)) ?_
      refine D_p rfl (.yes rfl rfl rfl g3) (p_field fo60_3 rfl rfl) ?_
      refine D_rd rfl (.yes rfl rfl rfl g3) (r_loadB ag3 rfl rfl (hc 3 _ rfl) List.not_mem_nil) ?_
      refine D_p rfl (.yes rfl rfl rfl g3) (p_fieldo fo26_0 rfl rfl) ?_
      refine D_rd rfl (.yes rfl rfl rfl g3) (rl ag22 rfl rfl rfl) ?_
      refine D_p rfl (.yes rfl rfl rfl g3) (p_move rfl rfl) ?_
      refine D_p rfl (.yes rfl rfl rfl g3) (p_idx es22 rfl rfl rfl (by omega) (by omega)) ?_
      refine D_p rfl (.yes rfl rfl rfl g3) (p_field fo60_2 rfl rfl) ?_
      refine D_rd rfl (.yes rfl rfl rfl g3) (r_loadB ag3 rfl rfl (hc 2 _ rfl) List.not_mem_nil) ?_
      first | refine D_p rfl (.yes rfl rfl rfl g3) (p_sub' rfl rfl rfl (by unfold InI; omega)) ?_ | refine D_p rfl (.yes rfl rfl rfl g3) (p_sub rfl rfl rfl) ?_
      refine D_wr (.go (E' := [(32, _), (28, _), (26, _), (22, _), (14, _), (11, _), (7, _), (3, _)]) rfl (.yes rfl rfl rfl g3) (w_callP rfl rfl rfl (fun w hg => lmeasure_c (p.lines.getD k.toNat lnZ) ((lookP p t x).1.x.lo + (((lookP p t x).1.x.hi - (lookP p t x).1.x.lo) * a).tdiv 255) ((lookP p t x).1.y.lo + (((lookP p t x).1.y.hi - (lookP p t x).1.y.lo) * b).tdiv 255) hlk2 (by omega) (by omega) w)) rfl ?_)
      rintro _ _ ⟨rfl, rfl⟩
      refine ⟨(.cons rfl (.yes rfl rfl rfl g3) (r_loadB ag3 rfl rfl (hc 2 _ rfl) List.not_mem_nil) (.cons rfl (.yes rfl rfl rfl g3) (rl ag22 rfl rfl rfl) (.cons rfl (.yes rfl rfl rfl g3) (r_loadB ag3 rfl rfl (hc 3 _ rfl) List.not_mem_nil) (.cons rfl (.yes rfl rfl rfl g3) (rl ag22 rfl rfl rfl) (.cons rfl (.yes rfl rfl rfl g3) (rl ag22 rfl rfl rfl) (.cons rfl (.yes rfl rfl rfl g3) (r_load ag3 rfl rfl (by repeat first | exact mH | apply mT | apply List.mem_append_right) (v := .int .i64 ((sideL p (lookP p t x).1.x (lookP p t x).1.y).getD k.toNat 0)) (cur_at hcur1 (ii_at (by omega) (by omega)))) (.cons rfl (.yes rfl rfl rfl g3) (r_loadB ag3 rfl rfl (hc 3 _ rfl) List.not_mem_nil) (.cons rfl (.yes rfl rfl rfl g3) (rl ag22 rfl rfl rfl) .nil)))))))), ?_⟩
      first | refine D_p rfl (.yes rfl rfl rfl g3) (p_sub' rfl rfl rfl (by unfold InI; omega)) ?_ | refine D_p rfl (.yes rfl rfl rfl g3) (p_sub rfl rfl rfl) ?_
      refine D_p rfl (.yes rfl rfl rfl g3) (p_leq rfl rfl rfl) ?_
      refine Dp rfl rfl (p_pick_t rfl rfl g3 rfl) ?_
      refine D_wr (.go (E' := []) rfl (.plain rfl) (rd_wr (RdP.rd (p_assign rfl rfl))) rfl ?_)
      rintro _ _ ⟨rfl, rfl⟩
      refine ⟨.nil, ?_⟩
      refine D_keep (kp [3, 7, 9, 10, 11, 13, 14] rfl) (blk_n (then_n ?_))
      refine V_region rfl ?_
      refine Lm rfl rfl rfl ?_
      first | refine Lp rfl (p_add' rfl rfl rfl (by unfold InI; omega)) ?_ | refine Lp rfl (p_add rfl rfl rfl) ?_
      refine La rfl rfl rfl ?_
      refine L_keep (kp [3, 7, 9, 10, 11, 13, 14] rfl) (then_n ?_)
      refine ⟨(k + 1, _), ?_, ?_, (.cons rfl (.cons rfl (.cons rfl (.cons rfl (.cons rfl (.cons rfl (.cons rfl (.nil _)))))))), (by repeat (first | exact List.nil_sublist _ | exact List.Sublist.refl _ | apply List.Sublist.cons_cons | apply List.Sublist.cons | apply List.sublist_append_of_sublist_right)), rfl⟩
      ·refine ⟨by omega, by omega, ?_⟩
       rw [all_snoc (d := lnZ) hk0 (by omega), ← hnb, hnt, Bool.true_and, nearL, hsd]
       rfl
      ·dsimp only; omega
     ·intro g3; have g3' := g3; try simp only [td] at g3'
      refine D_no rfl (.mk' rfl rfl rfl g3) ?_
      refine D_no rfl (.mk' rfl rfl rfl g3) ?_
      refine D_no rfl (.mk' rfl rfl rfl g3) ?_
      refine D_no rfl (.mk' rfl rfl rfl g3) ?_
      refine D_no rfl (.mk' rfl rfl rfl g3) ?_
      refine D_no rfl (.mk' rfl rfl rfl g3) ?_
      refine D_no rfl (.mk' rfl rfl rfl g3) ?_
      refine D_no rfl (.mk' rfl rfl rfl g3) ?_
      refine D_no rfl (.mk' rfl rfl rfl g3) ?_
      refine D_no rfl (.mk' rfl rfl rfl g3) ?_
      refine D_no rfl (.mk' rfl rfl rfl g3) ?_
      refine D_no rfl (.mk' rfl rfl rfl g3) ?_
      refine D_no rfl (.mk' rfl rfl rfl g3) ?_
      refine D_no rfl (.mk' rfl rfl rfl g3) ?_
      refine D_no rfl (.mk' rfl rfl rfl g3) ?_
      refine D_no rfl (.mk' rfl rfl rfl g3) ?_
      refine D_no rfl (.mk' rfl rfl rfl g3) ?_
      refine D_no rfl (.mk' rfl rfl rfl g3) ?_
      refine D_no rfl (.mk' rfl rfl rfl g3) ?_
      refine D_no rfl (.mk' rfl rfl rfl g3) ?_
      refine D_no rfl (.mk' rfl rfl rfl g3) ?_
      refine D_no rfl (.mk' rfl rfl rfl g3) ?_
      refine D_no rfl (.mk' rfl rfl rfl g3) ?_
      refine D_no rfl (.mk' rfl rfl rfl g3) ?_
      refine D_no rfl (.mk' rfl rfl rfl g3) ?_
      refine D_no rfl (.mk' rfl rfl rfl g3) ?_
      refine D_no rfl (.mk' rfl rfl rfl g3) ?_
      refine D_no rfl (.mk' rfl rfl rfl g3) ?_
      refine D_no rfl (.mk' rfl rfl rfl g3) ?_
      refine D_no rfl (.mk' rfl rfl rfl g3) ?_
      refine D_wr (.pass (E' := []) rfl (.mk' rfl rfl rfl g3) rfl ⟨.nil, ?_⟩)
      refine D_no rfl (.mk' rfl rfl rfl g3) ?_
      refine D_no rfl (.mk' rfl rfl rfl g3) ?_
      refine Dp rfl rfl (p_pick_f rfl rfl g3 rfl) ?_
      refine D_wr (.go (E' := []) rfl (.plain rfl) (rd_wr (RdP.rd (p_assign rfl rfl))) rfl ?_)
      rintro _ _ ⟨rfl, rfl⟩
      refine ⟨.nil, ?_⟩
      refine D_keep (kp [3, 7, 9, 10, 11, 13, 14] rfl) (blk_n (then_n ?_))
      refine V_region rfl ?_
      refine Lm rfl rfl rfl ?_
      first | refine Lp rfl (p_add' rfl rfl rfl (by unfold InI; omega)) ?_ | refine Lp rfl (p_add rfl rfl rfl) ?_
      refine La rfl rfl rfl ?_
      refine L_keep (kp [3, 7, 9, 10, 11, 13, 14] rfl) (then_n ?_)
      refine ⟨(k + 1, false), ?_, ?_, (.cons rfl (.cons rfl (.cons rfl (.cons rfl (.cons rfl (.cons rfl (.cons rfl (.nil _)))))))), (by repeat (first | exact List.nil_sublist _ | exact List.Sublist.refl _ | apply List.Sublist.cons_cons | apply List.Sublist.cons | apply List.sublist_append_of_sublist_right)), rfl⟩
      ·refine ⟨by omega, by omega, ?_⟩
       have hnf : nb = false := by simpa using g3'
       rw [all_snoc (d := lnZ) hk0 (by omega), ← hnb, hnf, Bool.false_and]
      ·dsimp only; omega
    ·intro c2; have c2r := c2; try simp only [td] at c2
     have ek : k.toNat = p.lines.length := by omega
     have hfin : keepsB p ⟨((lookP p t x).1.x.lo + (((lookP p t x).1.x.hi - (lookP p t x).1.x.lo) * a).tdiv 255), ((lookP p t x).1.x.lo + (((lookP p t x).1.x.hi - (lookP p t x).1.x.lo) * a).tdiv 255)⟩ ⟨((lookP p t x).1.y.lo + (((lookP p t x).1.y.hi - (lookP p t x).1.y.lo) * b).tdiv 255), ((lookP p t x).1.y.lo + (((lookP p t x).1.y.hi - (lookP p t x).1.y.lo) * b).tdiv 255)⟩ = true → nb = true → (lookP p t x).1.why = 0 := fun h1 h2 => by
      rw [hnb, ek, List.take_length] at h2
      exact stay_why hLI h1 h2
     refine V_exit (then_e (then_e (blk_e rfl (then_n ?_))))
     refine Vs rfl ?_
     refine Lm rfl rfl rfl ?_
     refine Lp rfl (p_not rfl rfl) ?_
     refine Lm rfl rfl rfl ?_
     refine L_cases (d := 154) rfl ?_ ?_
     ·intro g4; have g4' := g4; try simp only [td] at g4'
      refine L_no rfl rfl rfl g4 ?_
      refine L_no rfl rfl rfl g4 ?_
      refine Lp rfl (p_pick_t rfl rfl g4 rfl) ?_
      refine Lm rfl rfl rfl ?_
      refine L_no rfl rfl rfl rfl ?_
      refine L_no rfl rfl rfl rfl ?_
      refine L_no rfl rfl rfl rfl ?_
      refine Lp rfl (p_pick_t rfl rfl rfl rfl) ?_
      refine Lm rfl rfl rfl ?_
      refine L_yes rfl rfl rfl rfl (X_wr (w_callP rfl rfl rfl (fun w hg => dawake_c aF aL w (hE.good hg))) ?_)
      rintro _ _ ⟨rfl, rfl⟩
      refine Lp rfl (p_pick_t rfl rfl rfl rfl) ?_
      refine La rfl rfl rfl ?_
      refine L_then (kp [6] rfl) ?_
      refine V_ret ?_
      refine Leave.nil (.tmp rfl .nil) ?_
      rfl
     ·intro g4; have g4' := g4; try simp only [td] at g4'
      have hkp := g4'
      refine L_yes rfl rfl rfl g4 (X_p (p_move rfl rfl) ?_)
      refine L_yes rfl rfl rfl g4 (X_p (p_not rfl rfl) ?_)
      refine Lp rfl (p_pick_f rfl rfl g4 rfl) ?_
      refine Lm rfl rfl rfl ?_
      refine L_cases (d := 158) rfl ?_ ?_
      ·intro g5; have g5' := g5; try simp only [td] at g5'
       refine L_no rfl rfl rfl g5 ?_
       refine L_no rfl rfl rfl g5 ?_
       refine L_no rfl rfl rfl g5 ?_
       refine Lp rfl (p_pick_t rfl rfl g5 rfl) ?_
       refine Lm rfl rfl rfl ?_
       refine L_yes rfl rfl rfl rfl (X_wr (w_callP rfl rfl rfl (fun w hg => dawake_c aF aL w (hE.good hg))) ?_)
       rintro _ _ ⟨rfl, rfl⟩
       refine Lp rfl (p_pick_t rfl rfl rfl rfl) ?_
       refine La rfl rfl rfl ?_
       refine L_then (kp [6] rfl) ?_
       refine V_ret ?_
       refine Leave.nil (.tmp rfl .nil) ?_
       rfl
      ·intro g5; have g5' := g5; try simp only [td] at g5'
       have hnr := g5'
       refine L_yes rfl rfl rfl g5 (X_p (p_fieldo fo56_3 rfl rfl) ?_)
       refine L_yes rfl rfl rfl g5 (X_rd (rl ag3 rfl rfl rfl) ?_)
       refine L_yes rfl rfl rfl g5 (X_p (p_eql rfl rfl rfl) ?_)
       refine Lp rfl (p_pick_f rfl rfl g5 rfl) ?_
       refine Lm rfl rfl rfl ?_
       refine L_yes rfl rfl rfl (decide_eq_true (hfin hkp hnr)) (X_wr (w_callP rfl rfl rfl (fun w hg => dawake_c aF aL w (hE.good hg))) ?_)
       rintro _ _ ⟨rfl, rfl⟩
       refine Lp rfl (p_pick_t rfl rfl (decide_eq_true (hfin hkp hnr)) rfl) ?_
       refine La rfl rfl rfl ?_
       refine L_then (kp [6] rfl) ?_
       refine V_ret ?_
       refine Leave.nil (.tmp rfl .nil) ?_
       rfl

theorem own_ : ownKnob Tryd.prog.godebug = none := by kernel_rfl
def laidE : List (String × DataW Unit) := [("hangfire/destruct.errFar", Rows.laid_hangfire_destruct_errFar), ("hangfire/destruct.errLong", Rows.laid_hangfire_destruct_errLong)]
theorem gFar : Tryd.prog.globalNamed "hangfire/destruct.errFar" = some 0 := by kernel_rfl
theorem gLong : Tryd.prog.globalNamed "hangfire/destruct.errLong" = some 1 := by kernel_rfl
theorem tFar : (Tryd.prog.globals[0]?).map (·.type) = some 92 := by kernel_rfl
theorem tLong : (Tryd.prog.globals[1]?).map (·.type) = some 92 := by kernel_rfl
theorem door_met (os : Os) (args : Array Value) : laidMetH Tryd.prog laidE ((World.doorLaid Tryd.prog 400 os).forCall (fun _ _ => 0) ⟨#[], args, []⟩).memory :=
 laidMetH_of_parts3 (fuel := 8) (laidMet_of_run' 8 (by kernel_rfl) (by kernel_rfl)) (by kernel_rfl) (by kernel_rfl)
theorem of_laid {W : World} (h : laidMetH Tryd.prog laidE W) : ∃ aF aL, ErrR W 0 1 188 aF aL := by
 rw [MakeChecks.laidMetH_plain _ _ _ (by kernel_rfl)] at h
 have hr : ∀ u, Tryd.prog.typeName? 3 u = some "*errors.errorString" → u = 188 := fun u hu =>
  typeName_ptr_named (nm := "errors.errorString") (by kernel_rfl) (by kernel_rfl) (by decide) u hu
 obtain ⟨a0, a1, s0, s1, c0, c1, t0, t1, hv0, hv1, _, _, _, _, _, _, hne, hb0, hb1⟩ := laid_sentinels2 h gFar tFar gLong tLong Tryd.underlying92 hr Tryd.underlying188 Tryd.underlying214 rfl rfl Tryd.underlying9 (by kernel_rfl) (by kernel_rfl)
 exact ⟨a0, a1, by simpa using World.var?_cell gFar hv0 0, by simpa using World.var?_cell gLong hv1 0, hne, ⟨c0, t0, hb0⟩, ⟨c1, t1, hb1⟩⟩

theorem destructStays_lifted (os : Os) (started : os.Started) (H : Type) (enc : TypeId × Value → H) :
  ReturnsInHanded {} Tryd.checked os 8 .any (fun w args => (Rows.destructStaysSpec.pre enc Tryd.prog Tryd.f8 Rows.destructStaysRow.domain false w args ∧ laidMetH Tryd.prog laidE w) ∧ sizedMet enc Tryd.prog Tryd.f8 (OpenSpec.ofChange Rows.destructStaysSpec) false w args)
   (Rows.destructStaysSpec.post enc Tryd.prog Tryd.f8 false true false false) := by
 refine returnsInHanded_of_change_and (C := Tryd.checked) (X := fun w _ => laidMetH Tryd.prog laidE w) (fun _ _ _ hh h => h.of_heap hh) own_ started (by kernel_rfl) Tryd.func8
  (ChangeSpec.witness_shaped (enc := enc) (C := Tryd.checked) (os := os) (X := fun w _ => laidMetH Tryd.prog laidE w) false (World.doorLaid Tryd.prog 400 os) #[.agg #[.slice none 0 0, .int .i64 0, .int .i64 0, .int .i64 0, .int .i64 0], .agg #[.int .i64 0, .int .i64 0, .int .i64 0, .slice none 0 0, .slice none 0 0], .agg #[.int .i64 0, .int .u8 0, .int .u8 0]] 8 rfl (World.shaped_of_RefB (by kernel_rfl) (by kernel_rfl)) (by kernel_rfl) (by kernel_rfl) (by kernel_rfl) (door_met os _)) ?_
 intro W base args ds gs before hval0 hW _ _ hL _
 have hval : ∀ (j : Nat) t v, Tryd.f8.params[j]? = some t → args[j]? = some v → Value.okWide Tryd.prog W .any base t v := hval0
 have hW' := hW
 obtain ⟨pA, pB, hA0, hV, rfl, _, _⟩ := hW
 have hA : DataW.TrodAll enc Tryd.prog W 0 (fun _ => true) true Tryd.f8.params.toList args.toList ds pA := hA0
 clear hA0 hval0
 rw [Tryd.params8] at hA hval
 obtain ⟨rfl, rfl⟩ := trodVars_none hV
 obtain ⟨v0, vs0, d0, ds0, p0, q0, ea0, rfl, rfl, h0, hA0⟩ := trodAll_cons hA
 obtain ⟨v1, vs1, d1, ds1, p1, q1, ea1, rfl, rfl, h1, hA1⟩ := trodAll_cons hA0
 obtain ⟨v2, vs2, d2, ds2, p2, q2, ea2, rfl, rfl, h2, hA2⟩ := trodAll_cons hA1
 obtain ⟨rfl, rfl, rfl⟩ := trodAll_nil hA2
 subst ea2
 subst ea1
 have ea : args = #[v0, v1, v2] := Array.toList_inj.1 ea0
 subst ea
 have k0 := hval 0 _ v0 rfl rfl
 have k1 := hval 1 _ v1 rfl rfl
 have k2 := hval 2 _ v2 rfl rfl
 obtain ⟨aF, aL, hE⟩ := of_laid hL
 obtain ⟨p, hP⟩ := open_plan (P := Tryd.prog) (by kernel_rfl) k0 h0
 obtain ⟨t, tv, qv, rfl, hT⟩ := open_task (P := Tryd.prog) (by kernel_rfl) k1 h1
 obtain ⟨x, a, b, rfl, _, ha, hb⟩ := open_place (P := Tryd.prog) (by kernel_rfl) k2 h2
 refine (calls_of (destructStays_c x a b ha hb p _ aF aL W hE hP t _ _ hT)).mono ?_
 rintro _ W' ⟨_, rfl, rfl, hX⟩
 exact ⟨_, rfl, post_true hW' rfl hX (by kernel_rfl) (by kernel_rfl) rfl rfl rfl (by kernel_rfl) Tryd.underlying4⟩

theorem destructStays_row : Rows.DestructStaysSaid :=
 OpenClaim.holds_of_wide 8 Tryd.f8 rfl rfl rfl rfl rfl rfl rfl ⟨rfl, rfl, rfl, rfl, rfl⟩ rfl rfl rfl rfl rfl (by kernel_rfl) Tryd.func8 (by kernel_rfl)
  (of_decide_eq_true (by kernel_rfl)) (by unfold Func.isWrapper; first | (rw [if_pos (by decide +kernel)]; kernel_rfl) | (rw [if_neg (by decide +kernel)]; exact ⟨rfl, rfl⟩))
  (fun os started H enc _ => destructStays_lifted os started H enc)

theorem destructStays_holds : Rows.DestructStaysCardSaid :=
 Claim7.holds_tied_plain_at .later [] [.sentinel, .sentinel] true (true, "48260a2a5b0eb76944b9e5d1a832da4a10ca173671f6f4086f1a5fa8eb5135c9") true
  destructStays_row (fun _ h => by cases h) (by kernel_rfl) (fun _ h => by cases h) destructStays_row_tie rfl ⟨rfl, rfl⟩ (by kernel_rfl) rfl
  (fun f fn hf hfn => by
   obtain rfl : f = 8 := Option.some.inj ((show Tryd.prog.funcNamed "hangfire/hangfirelaw06.DestructStays" = some 8 by kernel_rfl).symm.trans hf) |>.symm
   obtain rfl : fn = Tryd.f8 := (Option.some.inj (Tryd.func8.symm.trans hfn)).symm
   exact ⟨by kernel_rfl, fun j t ht => by
    rw [Tryd.params8] at ht
    have hm : t ∈ [26, 54, 72] := by simpa using Array.mem_of_getElem? ht
    have hall : ([26, 54, 72].all fun u => !Tryd.prog.wantsStandIn u) = true := by kernel_rfl
    exact (show Tryd.prog.wantsStandIn t = false by simpa using List.all_eq_true.1 hall t hm)⟩)
  (by kernel_rfl)
#print axioms destructStays_holds

end Go.Proofs.YtlcccpeelombbaaDoor
