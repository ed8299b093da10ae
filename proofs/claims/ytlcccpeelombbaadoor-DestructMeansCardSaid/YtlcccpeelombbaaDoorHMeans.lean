/- YtlcccpeelombbaaDoor: DestructMeans is proved: for any plan, task and tick (no condition but what the card ties) it returns true. -/
import Derived.Test.YtlcccpeelombbaaDoorRows
import Derived.Test.YtlcccpeelombbaaDoorCards
import Derived.Test.YtlcccpeelombbaaDoorTie
import Derived.Test.YtlcccpeelombbaaDoorZan
import Derived.Test.YtlcccpeelombbaaDoorZaj
import Derived.Test.YtlcccpeelombbaaDoorZah
import Derived.ProofKit
import Derived.LaidMore
import Derived.Stop.Joined
import Derived.Stop.LaidTwo
import Derived.SevenTiedAt
set_option linter.all false
namespace Go.Proofs.YtlcccpeelombbaaDoor
open Go.Vc Go.Tk Go.De Go.ChangeShapes Go.WideShapes Go.ChangeAt Go.RowKit
set_option maxRecDepth 100000
set_option maxHeartbeats 8000000 in
theorem destructMeans_c (x : Int) (hxi : InI x) (p : De.Plan) (pv : Value) (aF aL : Addr) (w : World) (hE : ErrR w 0 1 188 aF aL)  (hp : PlanR w pv p) (t : Task) (tv qv : Value) (ht : TaskR w (.agg #[.int .i64 t.frm, .int .i64 t.speed, .int .i64 t.accel, tv, qv]) t) : FnP Tryd.prog 9 [pv, .agg #[.int .i64 t.frm, .int .i64 t.speed, .int .i64 t.accel, tv, qv], .int .i64 x] w (.bool true) := by
 have hP := hp
 obtain ⟨lv, rfl, hls⟩ := hp.ex
 have hlen := hp.len
 have hT := ht
 refine fn_pure Tryd.func9 rfl (by kernel_rfl) Tryd.ntmps9 Tryd.results9 rfl ?_
 refine Vs rfl ?_
 refine Lw rfl (w_box rfl rfl) ?_
 rintro _ _ ⟨b1, hb1, rfl, rfl⟩
 refine Lw rfl (w_box rfl rfl) ?_
 rintro _ _ ⟨b2, hb2, rfl, rfl⟩
 refine La rfl rfl rfl ?_
 refine L_then (kp [2, 3, 4] rfl) ?_
 refine Vs rfl ?_
 refine Lr rfl (rlA (vs := [_, _, _, _, _]) ag26 sz26 rfl rfl rfl) ?_
 refine Lr rfl (rlA (vs := [_, _, _, _, _]) ag54 sz54 rfl rfl rfl) ?_
 refine Lm rfl rfl rfl ?_
 refine Lc rfl rfl rfl rfl (fun w hg => dLook_c x p _ aF aL w (hE.good hg) (hP.good hg) t _ _ (hT.good hg)) ?_
 refine Lm rfl rfl rfl ?_
 refine Lp rfl (p_ext rfl rfl rfl) ?_
 refine Lp rfl (p_ext rfl rfl rfl) ?_
 refine Lw rfl (w_alloc zr56 rfl) ?_
 rintro _ _ ⟨b3, hb3, rfl, rfl⟩
 refine Lw rfl (w_storeAll (cs' := [_, _, _, _, _, _, _, _, _, _, _, _, _, _, _, _, _, _, _, _, _]) sz56 rfl rfl rfl rfl rfl rfl (by repeat first | exact .head | apply SetAt.tail) rfl) ?_
 rintro _ _ ⟨rfl, rfl⟩
 refine La rfl rfl rfl ?_
 refine L_then (kp [2, 3, 4, 7, 8] rfl) ?_
 refine V_seq ?_
 refine Vs rfl ?_
 refine Lm rfl rfl rfl ?_
 refine Lp rfl (p_neq rfl rfl rfl) ?_
 refine L_then (kp [2, 3, 4, 7, 28] rfl) ?_
 refine V_cond rfl ?_ ?_
 ·intro c1; try simp only [td] at c1
  refine Vs rfl ?_
  refine Lc rfl rfl rfl rfl (fun w hg => dawake_c aF aL w (hE.good hg)) ?_
  refine La rfl rfl rfl ?_
  refine L_then (kp [6] rfl) ?_
  refine V_ret (then_r ?_)
  refine Leave.nil (.tmp rfl .nil) ?_
  rfl
 ·intro c1; try simp only [td] at c1
  have hlk := c1
  have hz := ticks_of_look hlk
  obtain ⟨hgp, hGt, hxn⟩ := ticks_zero hz
  have hx5 := hxn x (.head _)
  obtain ⟨hn8, hgr, hwt, hbl⟩ := hgp.nums
  refine V_skip (then_n ?_)
  refine Vs rfl ?_
  refine Lr rfl (rlA (vs := [_, _, _, _, _]) ag26 sz26 rfl rfl rfl) ?_
  refine Lr rfl (rlA (vs := [_, _, _, _, _]) ag54 sz54 rfl rfl rfl) ?_
  refine Lm rfl rfl rfl ?_
  refine Lc rfl rfl rfl rfl (fun w hg => dUsed_c x p _ w (hP.good hg) t _ _ (hT.good hg)) ?_
  refine Lm rfl rfl rfl ?_
  refine Lp rfl (p_ext rfl rfl rfl) ?_
  refine Lp rfl (p_ext rfl rfl rfl) ?_
  refine Lp rfl (p_ext rfl rfl rfl) ?_
  refine Lw rfl (w_alloc zr33 rfl) ?_
  rintro _ _ ⟨b4, hb4, rfl, rfl⟩
  refine Ls (cs' := [_, _, _, _, _, _, _, _, _, _, _, _, _]) rfl sz33 rfl rfl rfl rfl rfl rfl rfl ?_
  refine La rfl rfl rfl ?_
  refine La rfl rfl rfl ?_
  refine L_then (kp [2, 3, 4, 7, 9, 10, 11] rfl) ?_
  refine V_seq ?_
  refine Vs rfl ?_
  refine Lm rfl rfl rfl ?_
  refine Lp rfl (p_neq rfl rfl rfl) ?_
  refine L_then (kp [2, 3, 4, 7, 9, 10, 39] rfl) ?_
  refine V_cond rfl ?_ ?_
  ·intro c2; try simp only [td] at c2
   have hLn := used_none hz c2
   refine Vs rfl ?_
   refine Lr rfl (rlA (vs := [_, _, _, _, _, _, _, _, _, _, _, _, _, _, _, _, _, _, _, _, _]) ag56 sz56 rfl rfl rfl) ?_
   refine Lp rfl (p_build (r := [_, _, _, _, _, _, _, _, _, _, _, _, _, _, _, _, _, _, _, _, _]) pl56 zr56 rfl rfl rfl) ?_
   refine Lp rfl (p_eqS lv56 ag56 eg56 rfl rfl rfl rfl rfl) ?_
   refine Lm rfl rfl rfl ?_
   refine L_yes rfl rfl rfl (by rw [hLn]; simp [eqL, eqv, Box.cells, boxZ, spZ]) (X_wr (w_callP rfl rfl rfl (fun w hg => dawake_c aF aL w (hE.good hg))) ?_)
   rintro _ _ ⟨rfl, rfl⟩
   refine Lp rfl (p_pick_t rfl rfl (by rw [hLn]; simp [eqL, eqv, Box.cells, boxZ, spZ]) rfl) ?_
   refine La rfl rfl rfl ?_
   refine L_then (kp [6] rfl) ?_
   refine V_ret (then_r ?_)
   refine Leave.nil (.tmp rfl .nil) ?_
   rfl
  ·intro c2; try simp only [td] at c2
   obtain ⟨hui, hLu⟩ := used_some hz c2
   have hbk := used_ok hui
   have hfe := fallP_at hgp hbk
   have hge := hui.ge
   have hle2 := hui.le
   have hbx : (lookP p t x).1.box = (usedP p t x).1 := by rw [hLu]; unfold lookF; split <;> rfl
   refine V_skip (then_n ?_)
   refine Vs rfl ?_
   refine Lr rfl (rlA (vs := [_, _, _, _, _]) ag54 sz54 rfl rfl rfl) ?_
   refine Lm rfl rfl rfl ?_
   refine Lm rfl rfl rfl ?_
   refine Lc rfl rfl rfl rfl (fun w hg => (show FnP _ _ _ w (.tuple #[.agg (Box.cells (spareP t (usedP p t x).2 x).1).toArray, .int .i64 0]) from by have h1 := spareR_c t _ _ (usedP p t x).2 x w (hT.good hg); rw [spareR_eq, hui.spare] at h1; exact h1)) ?_
   refine Lm rfl rfl rfl ?_
   refine Lp rfl (p_ext rfl rfl rfl) ?_
   refine Lp rfl (p_ext rfl rfl rfl) ?_
   refine Lw rfl (w_alloc zr33 rfl) ?_
   rintro _ _ ⟨b5, hb5, rfl, rfl⟩
   refine Ls (cs' := [_, _, _, _, _, _, _, _, _, _, _, _, _]) rfl sz33 rfl rfl rfl rfl rfl rfl rfl ?_
   refine La rfl rfl rfl ?_
   refine L_then (kp [2, 3, 4, 7, 8, 9, 10, 12] rfl) ?_
   refine Vs rfl ?_
   refine Lr rfl (rlA (vs := [_, _, _, _, _]) ag54 sz54 rfl rfl rfl) ?_
   refine Lr rfl (rlA (vs := [_, _, _, _, _, _, _, _, _, _, _, _, _]) ag33 sz33 rfl rfl rfl) ?_
   refine Lm rfl rfl rfl ?_
   refine Lm rfl rfl rfl ?_
   first | refine Lp rfl (p_sub' rfl rfl rfl (by unfold InI; omega)) ?_ | refine Lp rfl (p_sub rfl rfl rfl) ?_
   refine Lp rfl (p_fieldo fo26_2 rfl rfl) ?_
   refine Lr rfl (rl ag3 rfl rfl rfl) ?_
   first | refine Lp rfl (p_add' rfl rfl rfl (by unfold InI; omega)) ?_ | refine Lp rfl (p_add rfl rfl rfl) ?_
   first | refine Lp rfl (p_add' rfl rfl rfl (by unfold InI; omega)) ?_ | refine Lp rfl (p_add rfl rfl rfl) ?_
   refine Lc rfl rfl rfl rfl (fun w hg => (show FnP _ _ _ w (.tuple #[.agg (Box.cells (usedP p t x).1).toArray, .int .i64 0]) from by have h1 := ahead_c (spareP t (usedP p t x).2 x).1 t _ _ (x - (usedP p t x).2 + p.wait + 1) w (hT.good hg); rw [hui.ahead] at h1; exact h1)) ?_
   refine Lm rfl rfl rfl ?_
   refine Lp rfl (p_ext rfl rfl rfl) ?_
   refine Lp rfl (p_ext rfl rfl rfl) ?_
   refine Lw rfl (w_alloc zr33 rfl) ?_
   rintro _ _ ⟨b6, hb6, rfl, rfl⟩
   refine Ls (cs' := [_, _, _, _, _, _, _, _, _, _, _, _, _]) rfl sz33 rfl rfl rfl rfl rfl rfl rfl ?_
   refine La rfl rfl rfl ?_
   refine L_then (kp [2, 3, 4, 7, 8, 9, 10, 11, 13] rfl) ?_
   refine V_seq ?_
   refine Vs rfl ?_
   refine Lm rfl rfl rfl ?_
   refine Lp rfl (p_neq rfl rfl rfl) ?_
   refine Lm rfl rfl rfl ?_
   refine L_yes rfl rfl rfl rfl (X_p (p_move rfl rfl) ?_)
   refine L_yes rfl rfl rfl rfl (X_p (p_neq rfl rfl rfl) ?_)
   refine Lp rfl (p_pick_f rfl rfl rfl rfl) ?_
   refine Lm rfl rfl rfl ?_
   refine L_yes rfl rfl rfl rfl (X_rd (rlA (vs := [_, _, _, _, _, _, _, _, _, _, _, _, _]) ag33 sz33 rfl rfl rfl) ?_)
   refine L_yes rfl rfl rfl rfl (X_rd (rlA (vs := [_, _, _, _, _, _, _, _, _, _, _, _, _]) ag33 sz33 rfl rfl rfl) ?_)
   refine L_yes rfl rfl rfl rfl (X_p (p_neS lv33 ag33 eg33 rfl rfl rfl rfl rfl) ?_)
   refine Lp rfl (p_pick_f rfl rfl rfl rfl) ?_
   refine Lm rfl rfl rfl ?_
   refine L_yes rfl rfl rfl (by simp [eqL, eqv, Box.cells]) (X_p (p_fieldo fo56_0 rfl rfl) ?_)
   refine L_yes rfl rfl rfl (by simp [eqL, eqv, Box.cells]) (X_rd (rlA (vs := [_, _, _, _, _, _, _, _, _, _, _, _, _]) ag33 sz33 rfl rfl rfl) ?_)
   refine L_yes rfl rfl rfl (by simp [eqL, eqv, Box.cells]) (X_rd (rlA (vs := [_, _, _, _, _, _, _, _, _, _, _, _, _]) ag33 sz33 rfl rfl rfl) ?_)
   refine L_yes rfl rfl rfl (by simp [eqL, eqv, Box.cells]) (X_p (p_neS lv33 ag33 eg33 rfl rfl rfl rfl rfl) ?_)
   refine Lp rfl (p_pick_f rfl rfl (by simp [eqL, eqv, Box.cells]) rfl) ?_
   refine Lm rfl rfl rfl ?_
   refine L_yes rfl rfl rfl (by rw [hbx]; simp [eqL, eqv, Box.cells, boxZ, spZ]) (X_p (p_move rfl rfl) ?_)
   refine L_yes rfl rfl rfl (by rw [hbx]; simp [eqL, eqv, Box.cells, boxZ, spZ]) (X_p (p_move rfl rfl) ?_)
   refine L_yes rfl rfl rfl (by rw [hbx]; simp [eqL, eqv, Box.cells, boxZ, spZ]) (X_p (p_gtr rfl rfl rfl) ?_)
   refine Lp rfl (p_pick_f rfl rfl (by rw [hbx]; simp [eqL, eqv, Box.cells, boxZ, spZ]) rfl) ?_
   refine Lm rfl rfl rfl ?_
   refine L_yes rfl rfl rfl (decide_eq_false (by omega)) (X_p (p_move rfl rfl) ?_)
   refine L_yes rfl rfl rfl (decide_eq_false (by omega)) (X_p (p_move rfl rfl) ?_)
   refine L_yes rfl rfl rfl (decide_eq_false (by omega)) (X_p (p_fieldo fo26_3 rfl rfl) ?_)
   refine L_yes rfl rfl rfl (decide_eq_false (by omega)) (X_rd (rl ag3 rfl rfl rfl) ?_)
   first | refine L_yes rfl rfl rfl (decide_eq_false (by omega)) (X_p (p_sub' rfl rfl rfl (by unfold InI; omega)) ?_) | refine L_yes rfl rfl rfl (decide_eq_false (by omega)) (X_p (p_sub rfl rfl rfl) ?_)
   refine L_yes rfl rfl rfl (decide_eq_false (by omega)) (X_p (p_lss rfl rfl rfl) ?_)
   refine Lp rfl (p_pick_f rfl rfl (decide_eq_false (by omega)) rfl) ?_
   refine L_then (kp [2, 3, 4, 7, 9, 10, 95] rfl) ?_
   refine V_cond_f rfl (decide_eq_false (by omega)) ?_
   refine V_skip (then_n ?_)
   refine V_seq ?_
   refine Vs rfl ?_
   refine Lm rfl rfl rfl ?_
   refine Lm rfl rfl rfl ?_
   refine Lp rfl (p_lss rfl rfl rfl) ?_
   refine L_then (kp [2, 3, 4, 7, 9, 10, 98] rfl) ?_
   refine V_cond rfl ?_ ?_
   ·intro c3; try simp only [td] at c3
    have hnx := hui.next c3
    refine Vs rfl ?_
    refine Lr rfl (rlA (vs := [_, _, _, _, _]) ag54 sz54 rfl rfl rfl) ?_
    refine Lm rfl rfl rfl ?_
    first | refine Lp rfl (p_add' rfl rfl rfl (by unfold InI; omega)) ?_ | refine Lp rfl (p_add rfl rfl rfl) ?_
    refine Lm rfl rfl rfl ?_
    refine Lc rfl rfl rfl rfl (fun w hg => (show FnP _ _ _ w (.tuple #[.agg (Box.cells (spareP t ((usedP p t x).2 + 1) x).1).toArray, .int .i64 (spareP t ((usedP p t x).2 + 1) x).2]) from by have h1 := spareR_c t _ _ ((usedP p t x).2 + 1) x w (hT.good hg); rw [spareR_eq] at h1; exact h1)) ?_
    refine Lm rfl rfl rfl ?_
    refine Lp rfl (p_ext rfl rfl rfl) ?_
    refine Lp rfl (p_ext rfl rfl rfl) ?_
    refine La rfl rfl rfl ?_
    refine L_then (kp [3, 7, 8, 9] rfl) ?_
    refine Vs rfl ?_
    refine Lm rfl rfl rfl ?_
    refine Lp rfl (p_eql rfl rfl rfl) ?_
    refine L_then (kp [3, 7, 9, 108] rfl) ?_
    refine V_cond_f rfl (decide_eq_false hnx) ?_
    refine V_skip (then_n ?_)
    refine Vs rfl ?_
    refine Lr rfl (rlA (vs := [_, _, _, _, _]) ag26 sz26 rfl rfl rfl) ?_
    refine Lr rfl (rlA (vs := [_, _, _, _, _, _, _, _, _, _, _, _, _]) ag33 sz33 rfl rfl rfl) ?_
    refine Lc rfl rfl rfl rfl (fun w hg => (show FnP _ _ _ w (.tuple #[.agg #[.int .i64 (fallT p.grav (usedP p t x).1).x.lo, .int .i64 (fallT p.grav (usedP p t x).1).x.hi, .int .i64 (fallT p.grav (usedP p t x).1).y.lo, .int .i64 (fallT p.grav (usedP p t x).1).y.hi], .agg #[.int .i64 (fallT p.grav (usedP p t x).1).at_.lo, .int .i64 (fallT p.grav (usedP p t x).1).at_.hi], .int .i64 (fallT p.grav (usedP p t x).1).e]) from by have h1 := dFall_c (usedP p t x).1 p _ aF aL w (hE.good hg) (hP.good hg); rw [hfe] at h1; exact h1)) ?_
    refine Lm rfl rfl rfl ?_
    refine Lp rfl (p_ext rfl rfl rfl) ?_
    refine Lp rfl (p_ext rfl rfl rfl) ?_
    refine Lp rfl (p_ext rfl rfl rfl) ?_
    refine Lw rfl (w_alloc zr36 rfl) ?_
    rintro _ _ ⟨b7, hb7, rfl, rfl⟩
    refine Lw rfl (w_alloc zr24 rfl) ?_
    rintro _ _ ⟨b8, hb8, rfl, rfl⟩
    refine Ls (cs' := [_, _, _, _]) rfl sz36 rfl rfl rfl rfl rfl rfl rfl ?_
    refine Ls (cs' := [_, _]) rfl sz24 rfl rfl rfl rfl rfl rfl rfl ?_
    refine La rfl rfl rfl ?_
    refine L_then (kp [3, 7, 8, 9, 14, 15] rfl) ?_
    refine V_seq ?_
    refine Vs rfl ?_
    refine Lm rfl rfl rfl ?_
    refine Lp rfl (p_neq rfl rfl rfl) ?_
    refine L_then (kp [3, 7, 9, 14, 15, 117] rfl) ?_
    refine V_cond rfl ?_ ?_
    ·intro c4; try simp only [td] at c4
     have hLb := hLu.trans (look_bad c4)
     refine Vs rfl ?_
     refine Lr rfl (rlA (vs := [_, _, _, _, _, _, _, _, _, _, _, _, _, _, _, _, _, _, _, _, _]) ag56 sz56 rfl rfl rfl) ?_
     refine Lr rfl (rlA (vs := [_, _, _, _, _, _, _, _, _, _, _, _, _]) ag33 sz33 rfl rfl rfl) ?_
     refine Lp rfl (p_build (r := [_, _, _, _, _, _, _, _, _, _, _, _, _, _, _, _, _, _, _, _, _]) pl56 zr56 rfl rfl rfl) ?_
     refine Lp rfl (p_eqS lv56 ag56 eg56 rfl rfl rfl rfl rfl) ?_
     refine Lm rfl rfl rfl ?_
     refine L_yes rfl rfl rfl (by rw [hLb]; simp [eqL, eqv, Box.cells, boxZ, spZ]) (X_wr (w_callP rfl rfl rfl (fun w hg => dawake_c aF aL w (hE.good hg))) ?_)
     rintro _ _ ⟨rfl, rfl⟩
     refine Lp rfl (p_pick_t rfl rfl (by rw [hLb]; simp [eqL, eqv, Box.cells, boxZ, spZ]) rfl) ?_
     refine La rfl rfl rfl ?_
     refine L_then (kp [6] rfl) ?_
     refine V_ret (then_r ?_)
     refine Leave.nil (.tmp rfl .nil) ?_
     rfl
    ·intro c4; try simp only [td] at c4
     have hLg := hLu.trans (look_good c4)
     obtain ⟨hox, hoy⟩ := area_fall c4
     have hra := area_ok hgp hox hoy
     have hsl : (sideL p (fallT p.grav (usedP p t x).1).x (fallT p.grav (usedP p t x).1).y).length = p.lines.length := by rw [sideL_ok hra, List.length_map]
     refine V_skip (then_n ?_)
     refine Vs rfl ?_
     refine Lr rfl (rlA (vs := [_, _, _, _, _]) ag26 sz26 rfl rfl rfl) ?_
     refine Lr rfl (rlA (vs := [_, _, _, _]) ag36 sz36 rfl rfl rfl) ?_
     refine Lw rfl (w_callG (pre := [_, _, _, _, _, _, _, _]) rfl rfl rfl rfl (fun w hg => dside_c (fallT p.grav (usedP p t x).1).x (fallT p.grav (usedP p t x).1).y p _ w (hP.good hg))) ?_
     rintro _ _ ⟨_, G1, rfl, hfr1, sv1, rfl, rfl, hgr1⟩
     obtain ⟨sa1, sc1, rfl⟩ := Grow.form hgr1
     try simp only [List.cons_append, List.nil_append, List.append_nil]
     refine Lm rfl rfl rfl ?_
     refine Lp rfl (p_ext rfl rfl rfl) ?_
     refine Lp rfl (p_ext rfl rfl rfl) ?_
     refine La rfl rfl rfl ?_
     refine La rfl rfl rfl ?_
     refine L_then (kp [7, 8, 14, 15, 16] rfl) ?_
     refine V_seq ?_
     refine Vs rfl ?_
     refine Lm rfl rfl rfl ?_
     refine Lp rfl (p_neq rfl rfl rfl) ?_
     refine Lm rfl rfl rfl ?_
     refine L_yes rfl rfl rfl (decide_eq_false (by rw [hra]; decide)) (X_p (p_fieldo fo56_1 rfl rfl) ?_)
     refine L_yes rfl rfl rfl (decide_eq_false (by rw [hra]; decide)) (X_rd (rlA (vs := [_, _, _, _]) ag36 sz36 rfl rfl rfl) ?_)
     refine L_yes rfl rfl rfl (decide_eq_false (by rw [hra]; decide)) (X_rd (rlA (vs := [_, _, _, _]) ag36 sz36 rfl rfl rfl) ?_)
     refine L_yes rfl rfl rfl (decide_eq_false (by rw [hra]; decide)) (X_p (p_neS lv36 ag36 eg36 rfl rfl rfl rfl rfl) ?_)
     refine Lp rfl (p_pick_f rfl rfl (decide_eq_false (by rw [hra]; decide)) rfl) ?_
     refine Lm rfl rfl rfl ?_
     refine L_yes rfl rfl rfl (by rw [hLg]; simp [eqL, eqv, Box.cells, boxZ, spZ]) (X_p (p_fieldo fo56_2 rfl rfl) ?_)
     refine L_yes rfl rfl rfl (by rw [hLg]; simp [eqL, eqv, Box.cells, boxZ, spZ]) (X_rd (rlA (vs := [_, _]) ag24 sz24 rfl rfl rfl) ?_)
     refine L_yes rfl rfl rfl (by rw [hLg]; simp [eqL, eqv, Box.cells, boxZ, spZ]) (X_rd (rlA (vs := [_, _]) ag24 sz24 rfl rfl rfl) ?_)
     refine L_yes rfl rfl rfl (by rw [hLg]; simp [eqL, eqv, Box.cells, boxZ, spZ]) (X_p (p_neS lv24 ag24 eg24 rfl rfl rfl rfl rfl) ?_)
     refine Lp rfl (p_pick_f rfl rfl (by rw [hLg]; simp [eqL, eqv, Box.cells, boxZ, spZ]) rfl) ?_
     refine L_then (kp [7, 16, 144] rfl) ?_
     refine V_cond_f rfl (by rw [hLg]; simp [eqL, eqv, Box.cells, boxZ, spZ]) ?_
     refine V_skip (then_n ?_)
     refine Vs rfl ?_
     refine La rfl rfl rfl ?_
     refine La rfl rfl rfl ?_
     refine L_then (kp [7, 16, 17, 18] rfl) ?_
     refine V_seq ?_
     refine Vs rfl ?_
     refine La rfl rfl rfl ?_
     refine L_then (kp [7, 16, 17, 18, 19] rfl) ?_
     refine V_block ?_
     refine V_loop0 (γ := Int × Int × Int) (kp [7, 16] rfl) (fun (k, ln, wy) => [(19, .int .i64 k), (17, .int .i64 ln), (18, .int .i64 wy)]) (fun (k, ln, wy) => 0 ≤ k ∧ k ≤ p.lines.length ∧ ln = (lowI p (fallT p.grav (usedP p t x).1).x (fallT p.grav (usedP p t x).1).y k.toNat) ∧ wy = (if 0 ≤ ln then 1 else 0)) (fun (k, ln, wy) => (p.lines.length - k).toNat) ((0, -1, 0)) (.cons rfl (.cons rfl (.cons rfl (.nil _)))) (⟨by omega, by omega, rfl, rfl⟩) ?_
     rintro ⟨k, ln, wy⟩ hi
     obtain ⟨hk0, hk1, hln, hwy⟩ := hi
     dsimp only at hk0 hk1 hln hwy ⊢
     refine V_seq ?_
     refine Vs rfl ?_
     refine Lm rfl rfl rfl ?_
     refine Lm rfl rfl rfl ?_
     refine Lp rfl (p_len isl66 rfl rfl) ?_
     refine Lp rfl (p_lss rfl rfl rfl) ?_
     refine L_then (kp [7, 16, 17, 18, 19, 148] rfl) ?_
     refine V_cond rfl ?_ ?_
     ·intro c5; try simp only [td] at c5
      obtain ⟨gb1, cur1, rfl, rfl, hcur1, hcs1, hgn1, hgm1⟩ := Grow.form2 hgr1 (by omega)
      refine V_skip (then_n ?_)
      refine V_seq ?_
      refine V_block ?_
      refine Vs rfl ?_
      refine Lm rfl rfl rfl ?_
      refine Lm rfl rfl rfl ?_
      refine Lp rfl (p_idxo es66 rfl rfl rfl (by omega) (by omega)) ?_
      refine Lr rfl (r_load ag3 rfl rfl (by repeat first | exact mH | apply mT | apply List.mem_append_right) (v := .int .i64 ((sideL p (fallT p.grav (usedP p t x).1).x (fallT p.grav (usedP p t x).1).y).getD k.toNat 0)) (cur_at hcur1 (ii_at (by omega) (by omega)))) ?_
      refine Lp rfl (p_lss rfl rfl rfl) ?_
      refine Lm rfl rfl rfl ?_
      refine L_cases (d := 156) rfl ?_ ?_
      ·intro g1; have g1' := g1; try simp only [td] at g1'
       have hs1 := g1'
       refine L_yes rfl rfl rfl g1 (X_p (p_move rfl rfl) ?_)
       refine L_yes rfl rfl rfl g1 (X_p (p_lss rfl rfl rfl) ?_)
       refine Lp rfl (p_pick_t rfl rfl g1 rfl) ?_
       refine L_then (kp [7, 16, 17, 18, 19, 159] rfl) ?_
       refine V_cond rfl ?_ ?_
       ·intro c6; try simp only [td] at c6
        have hs2 := c6
        refine V_region rfl ?_
        refine Lm rfl rfl rfl ?_
        refine La rfl rfl rfl ?_
        refine La rfl rfl rfl ?_
        refine L_keep (kp [7, 16, 17, 18, 19] rfl) (blk_n (then_n ?_))
        refine V_region rfl ?_
        refine Lm rfl rfl rfl ?_
        first | refine Lp rfl (p_add' rfl rfl rfl (by unfold InI; omega)) ?_ | refine Lp rfl (p_add rfl rfl rfl) ?_
        refine La rfl rfl rfl ?_
        refine L_keep (kp [7, 16, 17, 18, 19] rfl) (then_n ?_)
        refine ⟨(k + 1, k, 1), ?_, ?_, (.cons rfl (.cons rfl (.cons rfl (.cons rfl (.cons rfl (.nil _)))))), (by repeat (first | exact List.nil_sublist _ | exact List.Sublist.refl _ | apply List.Sublist.cons_cons | apply List.Sublist.cons | apply List.sublist_append_of_sublist_right)), rfl⟩
        ·exact ⟨by omega, by omega, by rw [low_step hk0, if_pos ⟨hs1, by rw [← hln]; exact hs2⟩], by rw [if_pos hk0]⟩
        ·dsimp only; omega
       ·intro c6; try simp only [td] at c6
        have hs2 := c6
        refine V_skip (blk_n (then_n ?_))
        refine V_region rfl ?_
        refine Lm rfl rfl rfl ?_
        first | refine Lp rfl (p_add' rfl rfl rfl (by unfold InI; omega)) ?_ | refine Lp rfl (p_add rfl rfl rfl) ?_
        refine La rfl rfl rfl ?_
        refine L_keep (kp [7, 16, 17, 18, 19] rfl) (then_n ?_)
        refine ⟨(k + 1, ln, wy), ?_, ?_, (.cons rfl (.cons rfl (.cons rfl (.cons rfl (.cons rfl (.nil _)))))), (by repeat (first | exact List.nil_sublist _ | exact List.Sublist.refl _ | apply List.Sublist.cons_cons | apply List.Sublist.cons | apply List.sublist_append_of_sublist_right)), rfl⟩
        ·exact ⟨by omega, by omega, by rw [low_step hk0, if_neg (fun h => by have := h.2; omega)]; exact hln, hwy⟩
        ·dsimp only; omega
      ·intro g1; have g1' := g1; try simp only [td] at g1'
       have hs1 := g1'
       refine L_no rfl rfl rfl g1 ?_
       refine L_no rfl rfl rfl g1 ?_
       refine Lp rfl (p_pick_f rfl rfl g1 rfl) ?_
       refine L_then (kp [7, 16, 17, 18, 19, 159] rfl) ?_
       refine V_cond_f rfl rfl ?_
       refine V_skip (blk_n (then_n ?_))
       refine V_region rfl ?_
       refine Lm rfl rfl rfl ?_
       first | refine Lp rfl (p_add' rfl rfl rfl (by unfold InI; omega)) ?_ | refine Lp rfl (p_add rfl rfl rfl) ?_
       refine La rfl rfl rfl ?_
       refine L_keep (kp [7, 16, 17, 18, 19] rfl) (then_n ?_)
       refine ⟨(k + 1, ln, wy), ?_, ?_, (.cons rfl (.cons rfl (.cons rfl (.cons rfl (.cons rfl (.nil _)))))), (by repeat (first | exact List.nil_sublist _ | exact List.Sublist.refl _ | apply List.Sublist.cons_cons | apply List.Sublist.cons | apply List.sublist_append_of_sublist_right)), rfl⟩
       ·exact ⟨by omega, by omega, by rw [low_step hk0, if_neg (fun h => by have := h.1; omega)]; exact hln, hwy⟩
       ·dsimp only; omega
     ·intro c5; try simp only [td] at c5
      have ek : k.toNat = p.lines.length := by omega
      have hend : (lowI p (fallT p.grav (usedP p t x).1).x (fallT p.grav (usedP p t x).1).y k.toNat) = overI p (fallT p.grav (usedP p t x).1).x (fallT p.grav (usedP p t x).1).y := by rw [ek]; exact low_all hra
      refine V_exit (then_e (then_e (blk_e rfl (then_n ?_))))
      refine Vs rfl ?_
      refine Lp rfl (p_fieldo fo56_4 rfl rfl) ?_
      refine Lr rfl (rl ag3 rfl rfl rfl) ?_
      refine Lm rfl rfl rfl ?_
      refine Lp rfl (p_eql rfl rfl rfl) ?_
      refine Lm rfl rfl rfl ?_
      refine L_yes rfl rfl rfl (decide_eq_true (by rw [hLg, hln, hend])) (X_p (p_fieldo fo56_3 rfl rfl) ?_)
      refine L_yes rfl rfl rfl (decide_eq_true (by rw [hLg, hln, hend])) (X_rd (rl ag3 rfl rfl rfl) ?_)
      refine L_yes rfl rfl rfl (decide_eq_true (by rw [hLg, hln, hend])) (X_p (p_move rfl rfl) ?_)
      refine L_yes rfl rfl rfl (decide_eq_true (by rw [hLg, hln, hend])) (X_p (p_eql rfl rfl rfl) ?_)
      refine Lp rfl (p_pick_t rfl rfl (decide_eq_true (by rw [hLg, hln, hend])) rfl) ?_
      refine Lm rfl rfl rfl ?_
      refine L_yes rfl rfl rfl (decide_eq_true (by rw [hLg, hwy, hln, hend])) (X_wr (w_callP rfl rfl rfl (fun w hg => dawake_c aF aL w (hE.good hg))) ?_)
      rintro _ _ ⟨rfl, rfl⟩
      refine Lp rfl (p_pick_t rfl rfl (decide_eq_true (by rw [hLg, hwy, hln, hend])) rfl) ?_
      refine La rfl rfl rfl ?_
      refine L_then (kp [6] rfl) ?_
      refine V_ret ?_
      refine Leave.nil (.tmp rfl .nil) ?_
      rfl
   ·intro c3; try simp only [td] at c3
    refine V_skip (then_n ?_)
    refine Vs rfl ?_
    refine Lr rfl (rlA (vs := [_, _, _, _, _]) ag26 sz26 rfl rfl rfl) ?_
    refine Lr rfl (rlA (vs := [_, _, _, _, _, _, _, _, _, _, _, _, _]) ag33 sz33 rfl rfl rfl) ?_
    refine Lc rfl rfl rfl rfl (fun w hg => (show FnP _ _ _ w (.tuple #[.agg #[.int .i64 (fallT p.grav (usedP p t x).1).x.lo, .int .i64 (fallT p.grav (usedP p t x).1).x.hi, .int .i64 (fallT p.grav (usedP p t x).1).y.lo, .int .i64 (fallT p.grav (usedP p t x).1).y.hi], .agg #[.int .i64 (fallT p.grav (usedP p t x).1).at_.lo, .int .i64 (fallT p.grav (usedP p t x).1).at_.hi], .int .i64 (fallT p.grav (usedP p t x).1).e]) from by have h1 := dFall_c (usedP p t x).1 p _ aF aL w (hE.good hg) (hP.good hg); rw [hfe] at h1; exact h1)) ?_
    refine Lm rfl rfl rfl ?_
    refine Lp rfl (p_ext rfl rfl rfl) ?_
    refine Lp rfl (p_ext rfl rfl rfl) ?_
    refine Lp rfl (p_ext rfl rfl rfl) ?_
    refine Lw rfl (w_alloc zr36 rfl) ?_
    rintro _ _ ⟨b7, hb7, rfl, rfl⟩
    refine Lw rfl (w_alloc zr24 rfl) ?_
    rintro _ _ ⟨b8, hb8, rfl, rfl⟩
    refine Ls (cs' := [_, _, _, _]) rfl sz36 rfl rfl rfl rfl rfl rfl rfl ?_
    refine Ls (cs' := [_, _]) rfl sz24 rfl rfl rfl rfl rfl rfl rfl ?_
    refine La rfl rfl rfl ?_
    refine L_then (kp [3, 7, 8, 9, 14, 15] rfl) ?_
    refine V_seq ?_
    refine Vs rfl ?_
    refine Lm rfl rfl rfl ?_
    refine Lp rfl (p_neq rfl rfl rfl) ?_
    refine L_then (kp [3, 7, 9, 14, 15, 117] rfl) ?_
    refine V_cond rfl ?_ ?_
    ·intro c7; try simp only [td] at c7
     have hLb := hLu.trans (look_bad c7)
     refine Vs rfl ?_
     refine Lr rfl (rlA (vs := [_, _, _, _, _, _, _, _, _, _, _, _, _, _, _, _, _, _, _, _, _]) ag56 sz56 rfl rfl rfl) ?_
     refine Lr rfl (rlA (vs := [_, _, _, _, _, _, _, _, _, _, _, _, _]) ag33 sz33 rfl rfl rfl) ?_
     refine Lp rfl (p_build (r := [_, _, _, _, _, _, _, _, _, _, _, _, _, _, _, _, _, _, _, _, _]) pl56 zr56 rfl rfl rfl) ?_
     refine Lp rfl (p_eqS lv56 ag56 eg56 rfl rfl rfl rfl rfl) ?_
     refine Lm rfl rfl rfl ?_
     refine L_yes rfl rfl rfl (by rw [hLb]; simp [eqL, eqv, Box.cells, boxZ, spZ]) (X_wr (w_callP rfl rfl rfl (fun w hg => dawake_c aF aL w (hE.good hg))) ?_)
     rintro _ _ ⟨rfl, rfl⟩
     refine Lp rfl (p_pick_t rfl rfl (by rw [hLb]; simp [eqL, eqv, Box.cells, boxZ, spZ]) rfl) ?_
     refine La rfl rfl rfl ?_
     refine L_then (kp [6] rfl) ?_
     refine V_ret (then_r ?_)
     refine Leave.nil (.tmp rfl .nil) ?_
     rfl
    ·intro c7; try simp only [td] at c7
     have hLg := hLu.trans (look_good c7)
     obtain ⟨hox, hoy⟩ := area_fall c7
     have hra := area_ok hgp hox hoy
     have hsl : (sideL p (fallT p.grav (usedP p t x).1).x (fallT p.grav (usedP p t x).1).y).length = p.lines.length := by rw [sideL_ok hra, List.length_map]
     refine V_skip (then_n ?_)
     refine Vs rfl ?_
     refine Lr rfl (rlA (vs := [_, _, _, _, _]) ag26 sz26 rfl rfl rfl) ?_
     refine Lr rfl (rlA (vs := [_, _, _, _]) ag36 sz36 rfl rfl rfl) ?_
     refine Lw rfl (w_callG (pre := [_, _, _, _, _, _, _, _]) rfl rfl rfl rfl (fun w hg => dside_c (fallT p.grav (usedP p t x).1).x (fallT p.grav (usedP p t x).1).y p _ w (hP.good hg))) ?_
     rintro _ _ ⟨_, G1, rfl, hfr1, sv1, rfl, rfl, hgr1⟩
     obtain ⟨sa1, sc1, rfl⟩ := Grow.form hgr1
     try simp only [List.cons_append, List.nil_append, List.append_nil]
     refine Lm rfl rfl rfl ?_
     refine Lp rfl (p_ext rfl rfl rfl) ?_
     refine Lp rfl (p_ext rfl rfl rfl) ?_
     refine La rfl rfl rfl ?_
     refine La rfl rfl rfl ?_
     refine L_then (kp [7, 8, 14, 15, 16] rfl) ?_
     refine V_seq ?_
     refine Vs rfl ?_
     refine Lm rfl rfl rfl ?_
     refine Lp rfl (p_neq rfl rfl rfl) ?_
     refine Lm rfl rfl rfl ?_
     refine L_yes rfl rfl rfl (decide_eq_false (by rw [hra]; decide)) (X_p (p_fieldo fo56_1 rfl rfl) ?_)
     refine L_yes rfl rfl rfl (decide_eq_false (by rw [hra]; decide)) (X_rd (rlA (vs := [_, _, _, _]) ag36 sz36 rfl rfl rfl) ?_)
     refine L_yes rfl rfl rfl (decide_eq_false (by rw [hra]; decide)) (X_rd (rlA (vs := [_, _, _, _]) ag36 sz36 rfl rfl rfl) ?_)
     refine L_yes rfl rfl rfl (decide_eq_false (by rw [hra]; decide)) (X_p (p_neS lv36 ag36 eg36 rfl rfl rfl rfl rfl) ?_)
     refine Lp rfl (p_pick_f rfl rfl (decide_eq_false (by rw [hra]; decide)) rfl) ?_
     refine Lm rfl rfl rfl ?_
     refine L_yes rfl rfl rfl (by rw [hLg]; simp [eqL, eqv, Box.cells, boxZ, spZ]) (X_p (p_fieldo fo56_2 rfl rfl) ?_)
     refine L_yes rfl rfl rfl (by rw [hLg]; simp [eqL, eqv, Box.cells, boxZ, spZ]) (X_rd (rlA (vs := [_, _]) ag24 sz24 rfl rfl rfl) ?_)
     refine L_yes rfl rfl rfl (by rw [hLg]; simp [eqL, eqv, Box.cells, boxZ, spZ]) (X_rd (rlA (vs := [_, _]) ag24 sz24 rfl rfl rfl) ?_)
     refine L_yes rfl rfl rfl (by rw [hLg]; simp [eqL, eqv, Box.cells, boxZ, spZ]) (X_p (p_neS lv24 ag24 eg24 rfl rfl rfl rfl rfl) ?_)
     refine Lp rfl (p_pick_f rfl rfl (by rw [hLg]; simp [eqL, eqv, Box.cells, boxZ, spZ]) rfl) ?_
     refine L_then (kp [7, 16, 144] rfl) ?_
     refine V_cond_f rfl (by rw [hLg]; simp [eqL, eqv, Box.cells, boxZ, spZ]) ?_
     refine V_skip (then_n ?_)
     refine Vs rfl ?_
     refine La rfl rfl rfl ?_
     refine La rfl rfl rfl ?_
     refine L_then (kp [7, 16, 17, 18] rfl) ?_
     refine V_seq ?_
     refine Vs rfl ?_
     refine La rfl rfl rfl ?_
     refine L_then (kp [7, 16, 17, 18, 19] rfl) ?_
     refine V_block ?_
     refine V_loop0 (γ := Int × Int × Int) (kp [7, 16] rfl) (fun (k, ln, wy) => [(19, .int .i64 k), (17, .int .i64 ln), (18, .int .i64 wy)]) (fun (k, ln, wy) => 0 ≤ k ∧ k ≤ p.lines.length ∧ ln = (lowI p (fallT p.grav (usedP p t x).1).x (fallT p.grav (usedP p t x).1).y k.toNat) ∧ wy = (if 0 ≤ ln then 1 else 0)) (fun (k, ln, wy) => (p.lines.length - k).toNat) ((0, -1, 0)) (.cons rfl (.cons rfl (.cons rfl (.nil _)))) (⟨by omega, by omega, rfl, rfl⟩) ?_
     rintro ⟨k, ln, wy⟩ hi
     obtain ⟨hk0, hk1, hln, hwy⟩ := hi
     dsimp only at hk0 hk1 hln hwy ⊢
     refine V_seq ?_
     refine Vs rfl ?_
     refine Lm rfl rfl rfl ?_
     refine Lm rfl rfl rfl ?_
     refine Lp rfl (p_len isl66 rfl rfl) ?_
     refine Lp rfl (p_lss rfl rfl rfl) ?_
     refine L_then (kp [7, 16, 17, 18, 19, 148] rfl) ?_
     refine V_cond rfl ?_ ?_
     ·intro c8; try simp only [td] at c8
      obtain ⟨gb1, cur1, rfl, rfl, hcur1, hcs1, hgn1, hgm1⟩ := Grow.form2 hgr1 (by omega)
      refine V_skip (then_n ?_)
      refine V_seq ?_
      refine V_block ?_
      refine Vs rfl ?_
      refine Lm rfl rfl rfl ?_
      refine Lm rfl rfl rfl ?_
      refine Lp rfl (p_idxo es66 rfl rfl rfl (by omega) (by omega)) ?_
      refine Lr rfl (r_load ag3 rfl rfl (by repeat first | exact mH | apply mT | apply List.mem_append_right) (v := .int .i64 ((sideL p (fallT p.grav (usedP p t x).1).x (fallT p.grav (usedP p t x).1).y).getD k.toNat 0)) (cur_at hcur1 (ii_at (by omega) (by omega)))) ?_
      refine Lp rfl (p_lss rfl rfl rfl) ?_
      refine Lm rfl rfl rfl ?_
      refine L_cases (d := 156) rfl ?_ ?_
      ·intro g2; have g2' := g2; try simp only [td] at g2'
       have hs1 := g2'
       refine L_yes rfl rfl rfl g2 (X_p (p_move rfl rfl) ?_)
       refine L_yes rfl rfl rfl g2 (X_p (p_lss rfl rfl rfl) ?_)
       refine Lp rfl (p_pick_t rfl rfl g2 rfl) ?_
       refine L_then (kp [7, 16, 17, 18, 19, 159] rfl) ?_
       refine V_cond rfl ?_ ?_
       ·intro c9; try simp only [td] at c9
        have hs2 := c9
        refine V_region rfl ?_
        refine Lm rfl rfl rfl ?_
        refine La rfl rfl rfl ?_
        refine La rfl rfl rfl ?_
        refine L_keep (kp [7, 16, 17, 18, 19] rfl) (blk_n (then_n ?_))
        refine V_region rfl ?_
        refine Lm rfl rfl rfl ?_
        first | refine Lp rfl (p_add' rfl rfl rfl (by unfold InI; omega)) ?_ | refine Lp rfl (p_add rfl rfl rfl) ?_
        refine La rfl rfl rfl ?_
        refine L_keep (kp [7, 16, 17, 18, 19] rfl) (then_n ?_)
        refine ⟨(k + 1, k, 1), ?_, ?_, (.cons rfl (.cons rfl (.cons rfl (.cons rfl (.cons rfl (.nil _)))))), (by repeat (first | exact List.nil_sublist _ | exact List.Sublist.refl _ | apply List.Sublist.cons_cons | apply List.Sublist.cons | apply List.sublist_append_of_sublist_right)), rfl⟩
        ·exact ⟨by omega, by omega, by rw [low_step hk0, if_pos ⟨hs1, by rw [← hln]; exact hs2⟩], by rw [if_pos hk0]⟩
        ·dsimp only; omega
       ·intro c9; try simp only [td] at c9
        have hs2 := c9
        refine V_skip (blk_n (then_n ?_))
        refine V_region rfl ?_
        refine Lm rfl rfl rfl ?_
        first | refine Lp rfl (p_add' rfl rfl rfl (by unfold InI; omega)) ?_ | refine Lp rfl (p_add rfl rfl rfl) ?_
        refine La rfl rfl rfl ?_
        refine L_keep (kp [7, 16, 17, 18, 19] rfl) (then_n ?_)
        refine ⟨(k + 1, ln, wy), ?_, ?_, (.cons rfl (.cons rfl (.cons rfl (.cons rfl (.cons rfl (.nil _)))))), (by repeat (first | exact List.nil_sublist _ | exact List.Sublist.refl _ | apply List.Sublist.cons_cons | apply List.Sublist.cons | apply List.sublist_append_of_sublist_right)), rfl⟩
        ·exact ⟨by omega, by omega, by rw [low_step hk0, if_neg (fun h => by have := h.2; omega)]; exact hln, hwy⟩
        ·dsimp only; omega
      ·intro g2; have g2' := g2; try simp only [td] at g2'
       have hs1 := g2'
       refine L_no rfl rfl rfl g2 ?_
       refine L_no rfl rfl rfl g2 ?_
       refine Lp rfl (p_pick_f rfl rfl g2 rfl) ?_
       refine L_then (kp [7, 16, 17, 18, 19, 159] rfl) ?_
       refine V_cond_f rfl rfl ?_
       refine V_skip (blk_n (then_n ?_))
       refine V_region rfl ?_
       refine Lm rfl rfl rfl ?_
       first | refine Lp rfl (p_add' rfl rfl rfl (by unfold InI; omega)) ?_ | refine Lp rfl (p_add rfl rfl rfl) ?_
       refine La rfl rfl rfl ?_
       refine L_keep (kp [7, 16, 17, 18, 19] rfl) (then_n ?_)
       refine ⟨(k + 1, ln, wy), ?_, ?_, (.cons rfl (.cons rfl (.cons rfl (.cons rfl (.cons rfl (.nil _)))))), (by repeat (first | exact List.nil_sublist _ | exact List.Sublist.refl _ | apply List.Sublist.cons_cons | apply List.Sublist.cons | apply List.sublist_append_of_sublist_right)), rfl⟩
       ·exact ⟨by omega, by omega, by rw [low_step hk0, if_neg (fun h => by have := h.1; omega)]; exact hln, hwy⟩
       ·dsimp only; omega
     ·intro c8; try simp only [td] at c8
      have ek : k.toNat = p.lines.length := by omega
      have hend : (lowI p (fallT p.grav (usedP p t x).1).x (fallT p.grav (usedP p t x).1).y k.toNat) = overI p (fallT p.grav (usedP p t x).1).x (fallT p.grav (usedP p t x).1).y := by rw [ek]; exact low_all hra
      refine V_exit (then_e (then_e (blk_e rfl (then_n ?_))))
      refine Vs rfl ?_
      refine Lp rfl (p_fieldo fo56_4 rfl rfl) ?_
      refine Lr rfl (rl ag3 rfl rfl rfl) ?_
      refine Lm rfl rfl rfl ?_
      refine Lp rfl (p_eql rfl rfl rfl) ?_
      refine Lm rfl rfl rfl ?_
      refine L_yes rfl rfl rfl (decide_eq_true (by rw [hLg, hln, hend])) (X_p (p_fieldo fo56_3 rfl rfl) ?_)
      refine L_yes rfl rfl rfl (decide_eq_true (by rw [hLg, hln, hend])) (X_rd (rl ag3 rfl rfl rfl) ?_)
      refine L_yes rfl rfl rfl (decide_eq_true (by rw [hLg, hln, hend])) (X_p (p_move rfl rfl) ?_)
      refine L_yes rfl rfl rfl (decide_eq_true (by rw [hLg, hln, hend])) (X_p (p_eql rfl rfl rfl) ?_)
      refine Lp rfl (p_pick_t rfl rfl (decide_eq_true (by rw [hLg, hln, hend])) rfl) ?_
      refine Lm rfl rfl rfl ?_
      refine L_yes rfl rfl rfl (decide_eq_true (by rw [hLg, hwy, hln, hend])) (X_wr (w_callP rfl rfl rfl (fun w hg => dawake_c aF aL w (hE.good hg))) ?_)
      rintro _ _ ⟨rfl, rfl⟩
      refine Lp rfl (p_pick_t rfl rfl (decide_eq_true (by rw [hLg, hwy, hln, hend])) rfl) ?_
      refine La rfl rfl rfl ?_
      refine L_then (kp [6] rfl) ?_
      refine V_ret ?_
      refine Leave.nil (.tmp rfl .nil) ?_
      rfl

theorem own_ : ownKnob Tryd.prog.godebug = none := by kernel_rfl
def laidE : List (String × DataW Unit) := [("hangfire/destruct.errFar", Rows.laid_hangfire_destruct_errFar), ("hangfire/destruct.errLong", Rows.laid_hangfire_destruct_errLong)]
theorem gFar : Tryd.prog.globalNamed "hangfire/destruct.errFar" = some 0 := by kernel_rfl
theorem gLong : Tryd.prog.globalNamed "hangfire/destruct.errLong" = some 1 := by kernel_rfl
theorem tFar : (Tryd.prog.globals[0]?).map (·.type) = some 92 := by kernel_rfl
theorem tLong : (Tryd.prog.globals[1]?).map (·.type) = some 92 := by kernel_rfl
theorem door_met (os : Os) (args : Array Value) : laidMetH Tryd.prog laidE ((World.doorLaid Tryd.prog 400 os).forCall (fun _ _ => 0) ⟨#[], args, []⟩).memory :=
 laidMetH_of_parts3 (fuel := 8) (laidMet_of_run' 8 (by kernel_rfl) (by kernel_rfl)) (by kernel_rfl) (by kernel_rfl)
theorem of_laid {W : World} (h : laidMetH Tryd.prog laidE W) : ∃ aF aL, ErrR W 0 1 188 aF aL := by
 rw [MakeChecks.laidMetH_plain _ _ _ (by kernel_rfl)] at h
 have hr : ∀ u, Tryd.prog.typeName? 3 u = some "*errors.errorString" → u = 188 := fun u hu =>
  typeName_ptr_named (nm := "errors.errorString") (by kernel_rfl) (by kernel_rfl) (by decide) u hu
 obtain ⟨a0, a1, s0, s1, c0, c1, t0, t1, hv0, hv1, _, _, _, _, _, _, hne, hb0, hb1⟩ := laid_sentinels2 h gFar tFar gLong tLong Tryd.underlying92 hr Tryd.underlying188 Tryd.underlying214 rfl rfl Tryd.underlying9 (by kernel_rfl) (by kernel_rfl)
 exact ⟨a0, a1, by simpa using World.var?_cell gFar hv0 0, by simpa using World.var?_cell gLong hv1 0, hne, ⟨c0, t0, hb0⟩, ⟨c1, t1, hb1⟩⟩

theorem destructMeans_lifted (os : Os) (started : os.Started) (H : Type) (enc : TypeId × Value → H) :
  ReturnsInHanded {} Tryd.checked os 9 .any (fun w args => (Rows.destructMeansSpec.pre enc Tryd.prog Tryd.f9 Rows.destructMeansRow.domain false w args ∧ laidMetH Tryd.prog laidE w) ∧ sizedMet enc Tryd.prog Tryd.f9 (OpenSpec.ofChange Rows.destructMeansSpec) false w args)
   (Rows.destructMeansSpec.post enc Tryd.prog Tryd.f9 false true false false) := by
 refine returnsInHanded_of_change_and (C := Tryd.checked) (X := fun w _ => laidMetH Tryd.prog laidE w) (fun _ _ _ hh h => h.of_heap hh) own_ started (by kernel_rfl) Tryd.func9
  (ChangeSpec.witness_shaped (enc := enc) (C := Tryd.checked) (os := os) (X := fun w _ => laidMetH Tryd.prog laidE w) false (World.doorLaid Tryd.prog 400 os) #[.agg #[.slice none 0 0, .int .i64 0, .int .i64 0, .int .i64 0, .int .i64 0], .agg #[.int .i64 0, .int .i64 0, .int .i64 0, .slice none 0 0, .slice none 0 0], .int .i64 0] 8 rfl (World.shaped_of_RefB (by kernel_rfl) (by kernel_rfl)) (by kernel_rfl) (by kernel_rfl) (by kernel_rfl) (door_met os _)) ?_
 intro W base args ds gs before hval0 hW _ _ hL _
 have hval : ∀ (j : Nat) t v, Tryd.f9.params[j]? = some t → args[j]? = some v → Value.okWide Tryd.prog W .any base t v := hval0
 have hW' := hW
 obtain ⟨pA, pB, hA0, hV, rfl, _, _⟩ := hW
 have hA : DataW.TrodAll enc Tryd.prog W 0 (fun _ => true) true Tryd.f9.params.toList args.toList ds pA := hA0
 clear hA0 hval0
 rw [Tryd.params9] at hA hval
 obtain ⟨rfl, rfl⟩ := trodVars_none hV
 obtain ⟨v0, vs0, d0, ds0, p0, q0, ea0, rfl, rfl, h0, hA0⟩ := trodAll_cons hA
 obtain ⟨v1, vs1, d1, ds1, p1, q1, ea1, rfl, rfl, h1, hA1⟩ := trodAll_cons hA0
 obtain ⟨v2, vs2, d2, ds2, p2, q2, ea2, rfl, rfl, h2, hA2⟩ := trodAll_cons hA1
 obtain ⟨rfl, rfl, rfl⟩ := trodAll_nil hA2
 subst ea2
 subst ea1
 have ea : args = #[v0, v1, v2] := Array.toList_inj.1 ea0
 subst ea
 have k0 := hval 0 _ v0 rfl rfl
 have k1 := hval 1 _ v1 rfl rfl
 have k2 := hval 2 _ v2 rfl rfl
 obtain ⟨aF, aL, hE⟩ := of_laid hL
 obtain ⟨p, hP⟩ := open_plan (P := Tryd.prog) (by kernel_rfl) k0 h0
 obtain ⟨t, tv, qv, rfl, hT⟩ := open_task (P := Tryd.prog) (by kernel_rfl) k1 h1
 obtain ⟨x, rfl, hx⟩ := open_i64 (P := Tryd.prog) (by kernel_rfl) k2 h2
 refine (calls_of (destructMeans_c x hx p _ aF aL W hE hP t _ _ hT)).mono ?_
 rintro _ W' ⟨_, rfl, rfl, hX⟩
 exact ⟨_, rfl, post_true hW' rfl hX (by kernel_rfl) (by kernel_rfl) rfl rfl rfl (by kernel_rfl) Tryd.underlying4⟩

theorem destructMeans_row : Rows.DestructMeansSaid :=
 OpenClaim.holds_of_wide 9 Tryd.f9 rfl rfl rfl rfl rfl rfl rfl ⟨rfl, rfl, rfl, rfl, rfl⟩ rfl rfl rfl rfl rfl (by kernel_rfl) Tryd.func9 (by kernel_rfl)
  (of_decide_eq_true (by kernel_rfl)) (by unfold Func.isWrapper; first | (rw [if_pos (by decide +kernel)]; kernel_rfl) | (rw [if_neg (by decide +kernel)]; exact ⟨rfl, rfl⟩))
  (fun os started H enc _ => destructMeans_lifted os started H enc)

theorem destructMeans_holds : Rows.DestructMeansCardSaid :=
 Claim7.holds_tied_plain_at .later [] [.sentinel, .sentinel] true (true, "48260a2a5b0eb76944b9e5d1a832da4a10ca173671f6f4086f1a5fa8eb5135c9") true
  destructMeans_row (fun _ h => by cases h) (by kernel_rfl) (fun _ h => by cases h) destructMeans_row_tie rfl ⟨rfl, rfl⟩ (by kernel_rfl) rfl
  (fun f fn hf hfn => by
   obtain rfl : f = 9 := Option.some.inj ((show Tryd.prog.funcNamed "hangfire/hangfirelaw06.DestructMeans" = some 9 by kernel_rfl).symm.trans hf) |>.symm
   obtain rfl : fn = Tryd.f9 := (Option.some.inj (Tryd.func9.symm.trans hfn)).symm
   exact ⟨by kernel_rfl, fun j t ht => by
    rw [Tryd.params9] at ht
    have hm : t ∈ [26, 54, 3] := by simpa using Array.mem_of_getElem? ht
    have hall : ([26, 54, 3].all fun u => !Tryd.prog.wantsStandIn u) = true := by kernel_rfl
    exact (show Tryd.prog.wantsStandIn t = false by simpa using List.all_eq_true.1 hall t hm)⟩)
  (by kernel_rfl)
#print axioms destructMeans_holds

end Go.Proofs.YtlcccpeelombbaaDoor
