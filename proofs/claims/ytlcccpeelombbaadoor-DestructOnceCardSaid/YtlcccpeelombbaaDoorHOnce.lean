/- YtlcccpeelombbaaDoor: DestructOnce is proved: for any plan, task and numbers (no condition but what the card ties) it returns true. -/
import Derived.Test.YtlcccpeelombbaaDoorRows
import Derived.Test.YtlcccpeelombbaaDoorCards
import Derived.Test.YtlcccpeelombbaaDoorTie
import Derived.Test.YtlcccpeelombbaaDoorZan
import Derived.Test.YtlcccpeelombbaaDoorZaj
import Derived.Test.YtlcccpeelombbaaDoorZaf
import Derived.Test.YtlcccpeelombbaaDoorZah
import Derived.ProofKit
import Derived.LaidMore
import Derived.Stop.Joined
import Derived.Stop.LaidTwo
import Derived.SevenTiedAt
set_option linter.all false
namespace Go.Proofs.YtlcccpeelombbaaDoor
open Go.Vc Go.Tk Go.De Go.ChangeShapes Go.WideShapes Go.ChangeAt Go.RowKit
set_option maxRecDepth 100000
set_option maxHeartbeats 8000000 in
theorem destructOnce_c (x0 x1 x2 : Int) (p : De.Plan) (pv : Value) (aF aL : Addr) (w : World) (hE : ErrR w 0 1 188 aF aL)  (hp : PlanR w pv p) (t : Task) (tv qv : Value) (ht : TaskR w (.agg #[.int .i64 t.frm, .int .i64 t.speed, .int .i64 t.accel, tv, qv]) t) : FnP Tryd.prog 7 [pv, .agg #[.int .i64 t.frm, .int .i64 t.speed, .int .i64 t.accel, tv, qv], .agg #[.int .i64 x0, .int .i64 x1, .int .i64 x2]] w (.bool true) := by
 have hP := hp
 obtain ⟨lv, rfl, hls⟩ := hp.ex
 have hlen := hp.len
 have hT := ht
 obtain ⟨_, _, _, htr, hpl⟩ := ht.lit
 obtain ⟨ta, tc, rfl, htc, hte⟩ := htr.ex
 obtain ⟨pa, pc, rfl, hpc, hpe⟩ := hpl.ex
 simp only [List.length_map] at hT hpl hpc htc ⊢
 refine fn_pure Tryd.func7 rfl (by kernel_rfl) Tryd.ntmps7 Tryd.results7 rfl ?_
 refine Vs rfl ?_
 refine Lw rfl (w_box rfl rfl) ?_
 rintro _ _ ⟨b1, hb1, rfl, rfl⟩
 refine Lw rfl (w_box rfl rfl) ?_
 rintro _ _ ⟨b2, hb2, rfl, rfl⟩
 refine Lw rfl (w_box rfl rfl) ?_
 rintro _ _ ⟨b3, hb3, rfl, rfl⟩
 refine La rfl rfl rfl ?_
 refine L_then (kp [3, 4, 5] rfl) ?_
 refine Vs rfl ?_
 refine Lr rfl (rlA (vs := [_, _, _, _, _]) ag26 sz26 rfl rfl rfl) ?_
 refine Lr rfl (rlA (vs := [_, _, _, _, _]) ag54 sz54 rfl rfl rfl) ?_
 refine Lp rfl (p_idxao ar40 rfl rfl rfl (by omega) (by omega)) ?_
 refine Lr rfl (rl ag3 rfl rfl rfl) ?_
 refine Lp rfl (p_idxao ar40 rfl rfl rfl (by omega) (by omega)) ?_
 refine Lr rfl (rl ag3 rfl rfl rfl) ?_
 refine Lc rfl rfl rfl rfl (fun w hg => dDecide_c x0 x1 p _ aF aL w (hE.good hg) (hP.good hg) t _ _ (hT.good hg)) ?_
 refine Lm rfl rfl rfl ?_
 refine Lp rfl (p_ext rfl rfl rfl) ?_
 refine Lp rfl (p_ext rfl rfl rfl) ?_
 refine Lw rfl (w_alloc zr63 rfl) ?_
 rintro _ _ ⟨b4, hb4, rfl, rfl⟩
 refine Ls (cs' := [_, _, _]) rfl sz63 rfl rfl rfl rfl rfl rfl rfl ?_
 refine La rfl rfl rfl ?_
 refine L_then (kp [3, 4, 5, 7, 8] rfl) ?_
 refine V_seq ?_
 refine Vs rfl ?_
 refine Lm rfl rfl rfl ?_
 refine Lp rfl (p_neq rfl rfl rfl) ?_
 refine L_then (kp [3, 4, 5, 7, 30] rfl) ?_
 refine V_cond rfl ?_ ?_
 ·intro c1; have c1r := c1; try simp only [td] at c1
  refine Vs rfl ?_
  refine Lc rfl rfl rfl rfl (fun w hg => dawake_c aF aL w (hE.good hg)) ?_
  refine La rfl rfl rfl ?_
  refine L_then (kp [6] rfl) ?_
  refine V_ret (then_r ?_)
  refine Leave.nil (.tmp rfl .nil) ?_
  rfl
 ·intro c1; have c1r := c1; try simp only [td] at c1
  have he := c1
  refine V_skip (then_n ?_)
  refine Vs rfl ?_
  refine Lp rfl (p_idxao ar40 rfl rfl rfl (by omega) (by omega)) ?_
  refine Lr rfl (rl ag3 rfl rfl rfl) ?_
  refine La rfl rfl rfl ?_
  refine L_then (kp [3, 4, 5, 7, 9] rfl) ?_
  refine V_seq ?_
  refine Vs rfl ?_
  refine Lp rfl (p_fieldo fo63_0 rfl rfl) ?_
  refine Lr rfl (rl ag3 rfl rfl rfl) ?_
  refine Lp rfl (p_geq rfl rfl rfl) ?_
  refine L_then (kp [3, 4, 5, 7, 9, 36] rfl) ?_
  refine V_midT (γ := Int) (kp [3, 4, 5, 7] rfl) (fun nw => [(9, .int .i64 nw)]) (fun nw => (b4, .cells #[.int .i64 (decP p t x0 x1).1.tick, .int .i64 (decP p t x0 x1).1.why, .int .i64 (decP p t x0 x1).1.line] 63) :: (b3, .cells #[.int .i64 x0, .int .i64 x1, .int .i64 x2] 40) :: (b2, t.obj (.slice ta t.trackers.length tc) (.slice pa t.plots.length pc) 54) :: (b1, .cells #[lv, .int .i64 p.grav.lo, .int .i64 p.grav.hi, .int .i64 p.wait, .int .i64 p.blind] 26) :: []) (fun nw => nw = (if 0 ≤ (decP p t x0 x1).1.tick then (decP p t x0 x1).1.tick else x1)) ?_ ?_
  ·refine V_cond rfl ?_ ?_
   ·intro c2; have c2r := c2; try simp only [td] at c2
    refine V_region rfl ?_
    refine Lp rfl (p_fieldo fo63_0 rfl rfl) ?_
    refine Lr rfl (rl ag3 rfl rfl rfl) ?_
    refine La rfl rfl rfl ?_
    refine L_then (kp [3, 4, 5, 7, 9] rfl) ?_
    refine ⟨_, ?_, (.cons rfl (.cons rfl (.cons rfl (.cons rfl (.cons rfl (.nil _)))))), (by (try dsimp only); repeat (first | exact HSub.nil _ | refine HSub.take (by repeat first | exact Take.head | apply Take.tail) ?_ | exact HSub.refl _ | refine HSub.drop ?_ | refine HSub.app ?_)), rfl⟩
    exact (if_pos c2).symm
   ·intro c2; have c2r := c2; try simp only [td] at c2
    refine V_skip (then_n ?_)
    refine ⟨_, ?_, (.cons rfl (.cons rfl (.cons rfl (.cons rfl (.cons rfl (.nil _)))))), (by (try dsimp only); repeat (first | exact HSub.nil _ | refine HSub.take (by repeat first | exact Take.head | apply Take.tail) ?_ | exact HSub.refl _ | refine HSub.drop ?_ | refine HSub.app ?_)), rfl⟩
    exact (if_neg (by omega)).symm
  ·rintro nw hnw
   obtain ⟨hdl, hnb, hgp, hG⟩ := dec_last he
   rw [← hnw] at hdl hnb
   have hpl60 := hG.h2
   have e1 : knownL t nw = (knownN t nw t.plots.length) := by rw [knownL_ok (asked_in hG hnb), byT_all]
   have e2 := asked_in hG hnb
   have hF : ∀ w', TaskR w' (.agg #[.int .i64 t.frm, .int .i64 t.speed, .int .i64 t.accel, .slice ta t.trackers.length tc, .slice pa t.plots.length pc]) t → FnC Tryd.prog 21 [.agg #[.int .i64 t.frm, .int .i64 t.speed, .int .i64 t.accel, .slice ta t.trackers.length tc, .slice pa t.plots.length pc], .int .i64 nw] w' (fun v w'' => ∃ Hc, Vc.Good w' [] Hc w'' ∧ ∃ A G, Hc = A ++ G ∧ ListOut 3 ((knownN t nw t.plots.length)) (fun sv => .tuple #[sv, .int .i64 0]) v A G) := fun w' h => by
    have h1 := knownR_c t _ _ nw w' h
    rw [e1, e2] at h1
    exact h1
   have hkn60 := knownN_len (t := t) (now := nw) t.plots.length
   refine Vs rfl ?_
   refine Lr rfl (rlA (vs := [_, _, _, _, _]) ag54 sz54 rfl rfl rfl) ?_
   refine Lm rfl rfl rfl ?_
   refine Lw rfl (w_callG (pre := [_, _, _, _]) rfl rfl rfl rfl (fun w hg => hF w (hT.good hg))) ?_
   rintro _ _ ⟨_, G1, rfl, hfr1, sv1, rfl, rfl, hgr1⟩
   obtain ⟨sa1, sc1, rfl⟩ := Grow.form hgr1
   try simp only [List.cons_append, List.nil_append, List.append_nil]
   refine Lm rfl rfl rfl ?_
   refine Lp rfl (p_ext rfl rfl rfl) ?_
   refine Lp rfl (p_ext rfl rfl rfl) ?_
   refine La rfl rfl rfl ?_
   refine La rfl rfl rfl ?_
   refine L_then (kp [3, 4, 5, 7, 8, 9, 10] rfl) ?_
   refine V_seq ?_
   refine Vs rfl ?_
   refine Lm rfl rfl rfl ?_
   refine Lp rfl (p_neq rfl rfl rfl) ?_
   refine L_then (kp [3, 4, 5, 7, 9, 10, 46] rfl) ?_
   refine V_cond_f rfl rfl ?_
   refine V_skip (then_n ?_)
   refine V_mid (γ := Nat × Nat) (kp [3, 4, 5, 7, 9, 10] rfl) (fun (y5, y6) => [(11, .pointer (some ⟨y5, 0, none⟩)), (12, .pointer (some ⟨y6, 0, none⟩))]) (fun (y5, y6) => (y6, t.obj (.slice ta t.trackers.length tc) (.slice pa t.plots.length pc) 54) :: (y5, t.obj (.slice ta t.trackers.length tc) (.slice pa t.plots.length pc) 54) :: (b4, .cells #[.int .i64 (decP p t x0 x1).1.tick, .int .i64 (decP p t x0 x1).1.why, .int .i64 (decP p t x0 x1).1.line] 63) :: (b3, .cells #[.int .i64 x0, .int .i64 x1, .int .i64 x2] 40) :: (b2, t.obj (.slice ta t.trackers.length tc) (.slice pa t.plots.length pc) 54) :: (b1, .cells #[lv, .int .i64 p.grav.lo, .int .i64 p.grav.hi, .int .i64 p.wait, .int .i64 p.blind] 26) :: G1) (fun (y5, y6) => True) ?_ ?_
   ·refine V_draw (.rd 0 (.rd 1 (.wr2 2 [1, 0] (.wr 3 [1, 0] (.wr 4 [1] (.wr 5 [] .done))) 3 [1, 0] (.wr 2 [1, 0] (.wr 4 [1] (.wr 5 [] .done)))))) mixed (by kernel_rfl) rfl ?_
    refine Dr rfl rfl (rlA (vs := [_, _, _, _, _]) ag54 sz54 rfl rfl rfl) ?_
    refine Dr rfl rfl (rlA (vs := [_, _, _, _, _]) ag54 sz54 rfl rfl rfl) ?_
    refine D_wr2 rfl ?_ ?_
    ·refine (.go (E' := [(1, _), (0, _)]) rfl (.plain rfl) (w_alloc zr54 rfl) rfl ?_)
     rintro _ _ ⟨b6, hb6, rfl, rfl⟩
     refine ⟨(.cons rfl (.plain rfl) (rlA (vs := [_, _, _, _, _]) ag54 sz54 rfl rfl rfl) (.cons rfl (.plain rfl) (rlA (vs := [_, _, _, _, _]) ag54 sz54 rfl rfl rfl) .nil)), ?_⟩
     refine D_wr (.go (E' := [(1, _), (0, _)]) rfl (.plain rfl) (w_alloc zr54 rfl) rfl ?_)
     rintro _ _ ⟨b7, hb7, rfl, rfl⟩
     refine ⟨(.cons rfl (.plain rfl) (rlA (vs := [_, _, _, _, _]) ag54 sz54 rfl rfl rfl) (.cons rfl (.plain rfl) (rlA (vs := [_, _, _, _, _]) ag54 sz54 rfl rfl rfl) .nil)), ?_⟩
     refine D_wr (.go (E' := [(1, _)]) rfl (.plain rfl) (ws (cs' := [_, _, _, _, _]) sz54 rfl rfl rfl rfl rfl rfl rfl) rfl ?_)
     rintro _ _ ⟨rfl, rfl⟩
     refine ⟨(.cons rfl (.plain rfl) (rlA (vs := [_, _, _, _, _]) ag54 sz54 rfl rfl rfl) .nil), ?_⟩
     refine D_wr (.go (E' := []) rfl (.plain rfl) (ws (cs' := [_, _, _, _, _]) sz54 rfl rfl rfl rfl rfl rfl rfl) rfl ?_)
     rintro _ _ ⟨rfl, rfl⟩
     refine ⟨.nil, ?_⟩
     refine D_then (kp [3, 4, 5, 7, 9, 10, 11, 12] rfl) ?_
     refine ⟨(b6, b7), trivial, (.cons rfl (.cons rfl (.cons rfl (.cons rfl (.cons rfl (.cons rfl (.cons rfl (.cons rfl (.nil _))))))))), (by (try dsimp only); repeat (first | exact HSub.nil _ | refine HSub.take (by repeat first | exact Take.head | apply Take.tail) ?_ | exact HSub.refl _ | refine HSub.drop ?_ | refine HSub.app ?_)), rfl⟩
    ·refine (.go (E' := [(1, _), (0, _)]) rfl (.plain rfl) (w_alloc zr54 rfl) rfl ?_)
     rintro _ _ ⟨b6, hb6, rfl, rfl⟩
     refine ⟨(.cons rfl (.plain rfl) (rlA (vs := [_, _, _, _, _]) ag54 sz54 rfl rfl rfl) (.cons rfl (.plain rfl) (rlA (vs := [_, _, _, _, _]) ag54 sz54 rfl rfl rfl) .nil)), ?_⟩
     refine D_wr (.go (E' := [(1, _), (0, _)]) rfl (.plain rfl) (w_alloc zr54 rfl) rfl ?_)
     rintro _ _ ⟨b7, hb7, rfl, rfl⟩
     refine ⟨(.cons rfl (.plain rfl) (rlA (vs := [_, _, _, _, _]) ag54 sz54 rfl rfl rfl) (.cons rfl (.plain rfl) (rlA (vs := [_, _, _, _, _]) ag54 sz54 rfl rfl rfl) .nil)), ?_⟩
     refine D_wr (.go (E' := [(1, _)]) rfl (.plain rfl) (ws (cs' := [_, _, _, _, _]) sz54 rfl rfl rfl rfl rfl rfl rfl) rfl ?_)
     rintro _ _ ⟨rfl, rfl⟩
     refine ⟨(.cons rfl (.plain rfl) (rlA (vs := [_, _, _, _, _]) ag54 sz54 rfl rfl rfl) .nil), ?_⟩
     refine D_wr (.go (E' := []) rfl (.plain rfl) (ws (cs' := [_, _, _, _, _]) sz54 rfl rfl rfl rfl rfl rfl rfl) rfl ?_)
     rintro _ _ ⟨rfl, rfl⟩
     refine ⟨.nil, ?_⟩
     refine D_then (kp [3, 4, 5, 7, 9, 10, 11, 12] rfl) ?_
     refine ⟨(b7, b6), trivial, (.cons rfl (.cons rfl (.cons rfl (.cons rfl (.cons rfl (.cons rfl (.cons rfl (.cons rfl (.nil _))))))))), (by (try dsimp only); repeat (first | exact HSub.nil _ | refine HSub.take (by repeat first | exact Take.head | apply Take.tail) ?_ | exact HSub.refl _ | refine HSub.drop ?_ | refine HSub.app ?_)), rfl⟩
   ·rintro ⟨y5, y6⟩ _
    refine Vs rfl ?_
    refine Lw rfl (w_slice (r := []) un52 sz70 zr70 rfl (by decide) rfl (by decide) rfl rfl) ?_
    rintro _ _ ⟨b6, hb6, rfl, rfl⟩
    refine Lp rfl (p_fieldo fo54_4 rfl rfl) ?_
    refine Lr rfl (rl ag52 rfl rfl rfl) ?_
    refine Lw rfl (w_appT (pre := []) (G := [_]) ap52 rfl rfl rfl (Grow.row (cur := #[]) (by decide) (by decide) rfl rfl rfl) rfl (by rw [pl_flat_len]) (news_slice (els := t.plots.map Plot.cells) rfl hpl pl_len (by decide)) pl_one (by omega) (by simp only [maxLen]; omega)) ?_
    rintro _ _ ⟨GSa, GSc, GS, rfl, rfl, hgs⟩
    try simp only [List.cons_append, List.nil_append, List.append_nil]
    simp only [Nat.zero_add] at hgs ⊢
    refine Lp rfl (p_fieldo fo54_4 rfl rfl) ?_
    refine Ls (cs' := [_, _, _, _, _]) rfl sz52 rfl rfl rfl rfl rfl rfl rfl ?_
    refine Lp rfl (p_fieldo fo54_4 rfl rfl) ?_
    refine Ls (cs' := [_, _, _, _, _]) rfl sz52 rfl rfl rfl rfl rfl rfl rfl ?_
    refine L_then (kp [3, 4, 5, 7, 9, 10, 11, 12] rfl) ?_
    refine V_seq ?_
    refine Vs rfl ?_
    refine La rfl rfl rfl ?_
    refine L_then (kp [3, 4, 5, 7, 9, 10, 11, 12, 13] rfl) ?_
    refine V_block ?_
    refine V_loop1 (γ := Int × Nat × Option Addr × Nat × Heap × Heap) (kp [3, 4, 5, 7, 9, 10, 11, 12] rfl) (fun (k, n, la, lc, GL, GS) => [(13, .int .i64 k)]) (fun (k, n, la, lc, GL, GS) => (y6, t.obj (.slice ta t.trackers.length tc) (.slice GSa t.plots.length GSc) 54) :: (y5, t.obj (.slice ta t.trackers.length tc) (.slice la n lc) 54) :: (b4, .cells #[.int .i64 (decP p t x0 x1).1.tick, .int .i64 (decP p t x0 x1).1.why, .int .i64 (decP p t x0 x1).1.line] 63) :: (b3, .cells #[.int .i64 x0, .int .i64 x1, .int .i64 x2] 40) :: (b2, t.obj (.slice ta t.trackers.length tc) (.slice pa t.plots.length pc) 54) :: (b1, .cells #[lv, .int .i64 p.grav.lo, .int .i64 p.grav.hi, .int .i64 p.wait, .int .i64 p.blind] 26) :: (GL ++ (G1 ++ GS))) (fun (k, n, la, lc, GL, GS) => 0 ≤ k ∧ k ≤ t.plots.length ∧ n = (lessL t nw k.toNat).length ∧ Grow 70 5 (.slice la n lc) n ((lessL t nw k.toNat).map Plot.cells).flatten GL ∧ Grow 70 5 (.slice GSa t.plots.length GSc) t.plots.length ((saidXL t nw (x2.tmod 2000000000) k.toNat).map Plot.cells).flatten GS) (fun (k, n, la, lc, GL, GS) => (t.plots.length - k).toNat) ((0, 0, none, 0, [], GS)) (.cons rfl (.nil _)) (by repeat (first | exact List.nil_sublist _ | exact List.Sublist.refl _ | apply List.Sublist.cons_cons | apply List.Sublist.cons)) (⟨by omega, by omega, rfl, .nil, by rw [show (0 : Int).toNat = 0 from rfl, saidXL_zero]; exact hgs⟩) ?_
    rintro ⟨k, n, la, lc, GL, GS⟩ hi
    clear hgs
    obtain ⟨hk0, hk1, hln, hgl, hgs⟩ := hi
    have hll := lessL_len (t := t) (now := nw) k.toNat
    refine V_seq ?_
    refine Vs rfl ?_
    refine Lm rfl rfl rfl ?_
    refine Lp rfl (p_fieldo fo54_4 rfl rfl) ?_
    refine Lr rfl (rl ag52 rfl rfl rfl) ?_
    refine Lp rfl (p_len isl52 rfl rfl) ?_
    refine Lp rfl (p_lss rfl rfl rfl) ?_
    refine L_then (kp [3, 4, 5, 7, 9, 10, 11, 12, 13, 59] rfl) ?_
    refine V_cond rfl ?_ ?_
    ·intro c3; have c3r := c3; try simp only [td] at c3
     obtain ⟨gb, cur, rfl, rfl, hcur, hcs, hgn, hgm⟩ := Grow.form2 hgs (by omega)
     refine V_skip (then_n ?_)
     refine V_seq ?_
     refine V_block ?_
     refine Vs rfl ?_
     refine La rfl rfl rfl ?_
     refine L_then (kp [3, 4, 5, 7, 9, 10, 11, 12, 13, 14] rfl) ?_
     refine V_seq ?_
     refine Vs rfl ?_
     refine La rfl rfl rfl ?_
     refine L_then (kp [3, 4, 5, 7, 9, 10, 11, 12, 13, 14, 15] rfl) ?_
     refine V_block ?_
     refine V_loop1 (γ := Int × Bool) (kp [3, 4, 5, 7, 9, 10, 11, 12, 13] rfl) (fun (m, kn) => [(14, .bool kn), (15, .int .i64 m)]) (fun (m, kn) => (y6, t.obj (.slice ta t.trackers.length tc) (.slice (some ⟨gb, 0, none⟩) t.plots.length GSc) 54) :: (y5, t.obj (.slice ta t.trackers.length tc) (.slice la n lc) 54) :: (b4, .cells #[.int .i64 (decP p t x0 x1).1.tick, .int .i64 (decP p t x0 x1).1.why, .int .i64 (decP p t x0 x1).1.line] 63) :: (b3, .cells #[.int .i64 x0, .int .i64 x1, .int .i64 x2] 40) :: (b2, t.obj (.slice ta t.trackers.length tc) (.slice pa t.plots.length pc) 54) :: (b1, .cells #[lv, .int .i64 p.grav.lo, .int .i64 p.grav.hi, .int .i64 p.wait, .int .i64 p.blind] 26) :: (GL ++ (G1 ++ [(gb, .cells cur 70)]))) (fun (m, kn) => 0 ≤ m ∧ m ≤ (knownN t nw t.plots.length).length ∧ kn = ((knownN t nw t.plots.length).take m.toNat).any fun i => decide (i = k)) (fun (m, kn) => ((knownN t nw t.plots.length).length - m).toNat) ((0, false)) (.cons rfl (.cons rfl (.nil _))) (by repeat (first | exact List.nil_sublist _ | exact List.Sublist.refl _ | apply List.Sublist.cons_cons | apply List.Sublist.cons)) (⟨by omega, by omega, rfl⟩) ?_
     rintro ⟨m, kn⟩ hi
     obtain ⟨hm0, hm1, hkn⟩ := hi
     refine V_seq ?_
     refine Vs rfl ?_
     refine Lm rfl rfl rfl ?_
     refine Lm rfl rfl rfl ?_
     refine Lp rfl (p_len isl66 rfl rfl) ?_
     refine Lp rfl (p_lss rfl rfl rfl) ?_
     refine L_then (kp [3, 4, 5, 7, 9, 10, 11, 12, 13, 14, 15, 65] rfl) ?_
     refine V_cond rfl ?_ ?_
     ·intro c4; have c4r := c4; try simp only [td] at c4
      obtain ⟨gb1, cur1, rfl, rfl, hcur1, hcs1, hgn1, hgm1⟩ := Grow.form2 hgr1 (by omega)
      refine V_skip (then_n ?_)
      refine V_seq ?_
      refine V_block ?_
      refine V_region rfl ?_
      refine Lm rfl rfl rfl ?_
      refine Lm rfl rfl rfl ?_
      refine L_cases (d := 69) rfl ?_ ?_
      ·intro g1; have g1' := g1; try simp only [td] at g1'
       refine L_no rfl rfl rfl g1 ?_
       refine L_no rfl rfl rfl g1 ?_
       refine L_no rfl rfl rfl g1 ?_
       refine L_no rfl rfl rfl g1 ?_
       refine L_no rfl rfl rfl g1 ?_
       refine L_no rfl rfl rfl g1 ?_
       refine Lp rfl (p_pick_t rfl rfl g1 rfl) ?_
       refine La rfl rfl rfl ?_
       refine L_keep (kp [3, 4, 5, 7, 9, 10, 11, 12, 13, 14, 15] rfl) (blk_n (then_n ?_))
       refine V_region rfl ?_
       refine Lm rfl rfl rfl ?_
       first | refine Lp rfl (p_add' rfl rfl rfl (by unfold InI; omega)) ?_ | refine Lp rfl (p_add rfl rfl rfl) ?_
       refine La rfl rfl rfl ?_
       refine L_keep (kp [3, 4, 5, 7, 9, 10, 11, 12, 13, 14, 15] rfl) (then_n ?_)
       refine ⟨(m + 1, true), ?_, ?_, (.cons rfl (.cons rfl (.cons rfl (.cons rfl (.cons rfl (.cons rfl (.cons rfl (.cons rfl (.cons rfl (.cons rfl (.cons rfl (.nil _)))))))))))), (by repeat (first | exact List.nil_sublist _ | exact List.Sublist.refl _ | apply List.Sublist.cons_cons | apply List.Sublist.cons | apply List.sublist_append_of_sublist_right)), rfl⟩
       ·refine ⟨by omega, by omega, ?_⟩
        rw [any_snoc hm0 (by omega), ← hkn, g1', Bool.true_or]
       ·dsimp only; omega
      ·intro g1; have g1' := g1; try simp only [td] at g1'
       refine L_yes rfl rfl rfl g1 (X_p (p_move rfl rfl) ?_)
       refine L_yes rfl rfl rfl g1 (X_p (p_move rfl rfl) ?_)
       refine L_yes rfl rfl rfl g1 (X_p (p_idxo es66 rfl rfl rfl (by omega) (by omega)) ?_)
       refine L_yes rfl rfl rfl g1 (X_rd (r_load ag3 rfl rfl (by repeat first | exact mH | apply mT | apply List.mem_append_right) (v := .int .i64 ((knownN t nw t.plots.length).getD m.toNat 0)) (cur_at hcur1 (ii_at (by omega) (by omega)))) ?_)
       refine L_yes rfl rfl rfl g1 (X_p (p_move rfl rfl) ?_)
       refine L_yes rfl rfl rfl g1 (X_p (p_eql rfl rfl rfl) ?_)
       refine Lp rfl (p_pick_f rfl rfl g1 rfl) ?_
       refine La rfl rfl rfl ?_
       refine L_keep (kp [3, 4, 5, 7, 9, 10, 11, 12, 13, 14, 15] rfl) (blk_n (then_n ?_))
       refine V_region rfl ?_
       refine Lm rfl rfl rfl ?_
       first | refine Lp rfl (p_add' rfl rfl rfl (by unfold InI; omega)) ?_ | refine Lp rfl (p_add rfl rfl rfl) ?_
       refine La rfl rfl rfl ?_
       refine L_keep (kp [3, 4, 5, 7, 9, 10, 11, 12, 13, 14, 15] rfl) (then_n ?_)
       refine ⟨(m + 1, decide ((knownN t nw t.plots.length).getD m.toNat 0 = k)), ?_, ?_, (.cons rfl (.cons rfl (.cons rfl (.cons rfl (.cons rfl (.cons rfl (.cons rfl (.cons rfl (.cons rfl (.cons rfl (.cons rfl (.nil _)))))))))))), (by repeat (first | exact List.nil_sublist _ | exact List.Sublist.refl _ | apply List.Sublist.cons_cons | apply List.Sublist.cons | apply List.sublist_append_of_sublist_right)), rfl⟩
       ·refine ⟨by omega, by omega, ?_⟩
        rw [any_snoc hm0 (by omega), ← hkn, g1', Bool.false_or]
       ·dsimp only; omega
     ·intro c4; have c4r := c4; try simp only [td] at c4
      have hkb : kn = knownB t nw k.toNat := by rw [hkn, List.take_of_length_le (by omega)]; exact known_any hk0 (by omega)
      refine V_exit (then_e (then_e (blk_e rfl (then_n ?_))))
      refine Vs rfl ?_
      refine Lm rfl rfl rfl ?_
      refine L_then (kp [3, 4, 5, 7, 9, 10, 11, 12, 13, 77] rfl) ?_
      refine V_cond rfl ?_ ?_
      ·intro c5; have c5r := c5; try simp only [td] at c5
       have hkt : knownB t nw k.toNat = true := by rw [← hkb]; exact c5r
       obtain ⟨pb, rfl, hcp⟩ := hpe k.toNat _ (getD_cells (d := plZ) (by omega))
       refine V_draw (.rd 0 (.rd 1 (.rd 2 (.rd 3 (.rd 4 (.rd 5 (.rd 6 (.wr 7 [5, 4, 3, 2, 1, 0] (.wr 8 [6, 5, 4, 3, 2, 0] (.rd 9 (.wr 10 [] .done))))))))))) mixed (by kernel_rfl) rfl ?_
       refine Dp rfl rfl (p_fieldo fo54_4 rfl rfl) ?_
       refine Dr rfl rfl (rl ag52 rfl rfl rfl) ?_
       refine Dp rfl rfl (p_fieldo fo54_4 rfl rfl) ?_
       refine Dr rfl rfl (rl ag52 rfl rfl rfl) ?_
       refine Dm rfl rfl rfl rfl ?_
       refine Dp rfl rfl (p_idx es52 rfl rfl rfl (by omega) (by omega)) ?_
       refine Dr rfl rfl (r_loadBA ag70 sz70 rfl rfl hcp rfl List.not_mem_nil) ?_
       refine D_wr (.go (E' := [(3, _), (1, _)]) rfl (.plain rfl) (w_slice (r := [_, _, _, _, _]) un52 sz70 zr70 rfl (by decide) rfl (by decide) rfl rfl) rfl ?_)
       rintro _ _ ⟨b7, hb7, rfl, rfl⟩
       refine ⟨(.cons rfl (.plain rfl) (rl ag52 rfl rfl rfl) (.cons rfl (.plain rfl) (rl ag52 rfl rfl rfl) .nil)), ?_⟩
       refine D_wr (.go (E' := [(3, _)]) rfl (.plain rfl) (w_app (pre := [_, _, _, _, _, _, _]) (G := GL) ap52 rfl rfl rfl hgl rfl rfl (news_own (by repeat first | exact mH | apply mT | apply List.mem_append_right)) (pl_one (l := [t.pl k.toNat])) (by omega) (by simp only [maxLen]; omega)) rfl ?_)
       rintro _ _ ⟨GL1a, GL1c, GL1, rfl, rfl, hgl1⟩
       try simp only [List.cons_append, List.nil_append, List.append_nil]
       refine ⟨(.cons rfl (.plain rfl) (rl ag52 rfl rfl rfl) .nil), ?_⟩
       refine Dp rfl rfl (p_fieldo fo54_4 rfl rfl) ?_
       refine D_wr (.go (E' := []) rfl (.plain rfl) (ws (cs' := [_, _, _, _, _]) sz52 rfl rfl rfl rfl rfl rfl rfl) rfl ?_)
       rintro _ _ ⟨rfl, rfl⟩
       refine ⟨.nil, ?_⟩
       refine D_keep (kp [3, 4, 5, 7, 9, 10, 11, 12, 13] rfl) (blk_n (then_n ?_))
       refine V_region rfl ?_
       refine Lm rfl rfl rfl ?_
       first | refine Lp rfl (p_add' rfl rfl rfl (by unfold InI; omega)) ?_ | refine Lp rfl (p_add rfl rfl rfl) ?_
       refine La rfl rfl rfl ?_
       refine L_keep (kp [3, 4, 5, 7, 9, 10, 11, 12, 13] rfl) (then_n ?_)
       refine ⟨(k + 1, n + 1, _, _, GL1, [(gb, .cells cur 70)]), ?_, ?_, (.cons rfl (.cons rfl (.cons rfl (.cons rfl (.cons rfl (.cons rfl (.cons rfl (.cons rfl (.cons rfl (.nil _)))))))))), (by repeat (first | exact List.nil_sublist _ | exact List.Sublist.refl _ | apply List.Sublist.cons_cons | apply List.Sublist.cons | apply List.sublist_append_of_sublist_right)), rfl⟩
       ·refine ⟨by omega, by omega, ?_, ?_, ?_⟩
        ·rw [lessL_yes hk0 hkt, List.length_append, hln]; rfl
        ·rw [lessL_yes hk0 hkt, List.map_append, List.flatten_append]; exact hgl1
        ·rw [saidXL_yes hk0 hkt]; exact .row hgn hgm hcs hcur (by rw [pl_flat_len, saidXL_len])
       ·dsimp only; omega
      ·intro c5; have c5r := c5; try simp only [td] at c5
       have hkf : knownB t nw k.toNat = false := by rw [← hkb]; exact c5r
       refine V_region rfl ?_
       refine Lp rfl (p_fieldo fo54_4 rfl rfl) ?_
       refine Lr rfl (rl ag52 rfl rfl rfl) ?_
       refine Lm rfl rfl rfl ?_
       refine Lp rfl (p_idxao ar40 rfl rfl rfl (by omega) (by omega)) ?_
       refine Lr rfl (rl ag3 rfl rfl rfl) ?_
       refine Lp rfl (p_rem rfl rfl rfl (by first | decide | omega)) ?_
       refine Lp rfl (p_idxo es52 rfl rfl rfl (by omega) (by omega)) ?_
       refine Lp rfl (p_fieldo fo70_2 rfl rfl) ?_
       refine Lw rfl (w_store (cs' := cur.toList.set (0 + k.toNat * 5 + 2) (.int .i64 (x2.tmod 2000000000))) sz3 rfl rfl rfl rfl rfl (by repeat first | exact .head | apply SetAt.tail | apply SetAt.app) (by simp only [Array.length_toList, hcs]; omega) rfl) ?_
       rintro _ _ ⟨rfl, rfl⟩
       refine L_keep (kp [3, 4, 5, 7, 9, 10, 11, 12, 13] rfl) (blk_n (then_n ?_))
       refine V_region rfl ?_
       refine Lm rfl rfl rfl ?_
       first | refine Lp rfl (p_add' rfl rfl rfl (by unfold InI; omega)) ?_ | refine Lp rfl (p_add rfl rfl rfl) ?_
       refine La rfl rfl rfl ?_
       refine L_keep (kp [3, 4, 5, 7, 9, 10, 11, 12, 13] rfl) (then_n ?_)
       refine ⟨(k + 1, n, la, lc, GL, [(gb, _)]), ?_, ?_, (.cons rfl (.cons rfl (.cons rfl (.cons rfl (.cons rfl (.cons rfl (.cons rfl (.cons rfl (.cons rfl (.nil _)))))))))), (by repeat (first | exact List.nil_sublist _ | exact List.Sublist.refl _ | apply List.Sublist.cons_cons | apply List.Sublist.cons | apply List.sublist_append_of_sublist_right)), rfl⟩
       ·obtain ⟨e1, e2⟩ := saidXL_no (a := (x2.tmod 2000000000)) hk0 (by omega) hkf
        refine ⟨by omega, by omega, by rw [lessL_no hk0 hkf]; exact hln, by rw [lessL_no hk0 hkf]; exact hgl, ?_⟩
        have h3 := Grow.setX (el := 70) (b := gb) (i := k.toNat) (x := (x2.tmod 2000000000)) hgn hgm hcs hcur (saidXL_len _).symm (by rw [saidXL_len]; omega)
        rw [e2, ← e1] at h3
        exact h3
       ·dsimp only; omega
    ·intro c3; have c3r := c3; try simp only [td] at c3
     have ek : k.toNat = t.plots.length := by omega
     rw [ek] at hgl hgs hln
     refine V_exit (then_e (then_e (blk_e rfl (then_n ?_))))
     refine Vs rfl ?_
     refine Lr rfl (rlA (vs := [_, _, _, _, _]) ag26 sz26 rfl rfl rfl) ?_
     refine Lr rfl (rlA (vs := [_, _, _, _, _]) ag54 sz54 rfl rfl rfl) ?_
     refine Lp rfl (p_idxao ar40 rfl rfl rfl (by omega) (by omega)) ?_
     refine Lr rfl (rl ag3 rfl rfl rfl) ?_
     refine Lm rfl rfl rfl ?_
     refine Lc rfl rfl rfl rfl (fun w hg => (show FnP _ _ _ w (.tuple #[.agg #[.int .i64 (decP p t x0 x1).1.tick, .int .i64 (decP p t x0 x1).1.why, .int .i64 (decP p t x0 x1).1.line], .int .i64 (decP p t x0 x1).2]) from by have h1 := dDecide_c x0 nw p _ aF aL w (hE.good hg) (hP.good hg) (lessT t nw) _ _ (TaskR.withPlots (t := t) (hT.good hg) (Grow.rows (els := (lessT t nw).plots.map Plot.cells) hgl pl_len (by rw [List.length_map]; exact hln) (fun p hp => hg.own p (by repeat first | exact hp | exact List.mem_append_left _ hp | apply List.mem_append_right | apply mT))) (by show ((lessL t nw t.plots.length).length : Int) ≤ _; have := lessL_len (t := t) (now := nw) t.plots.length; omega)); rw [less_dec hG, hdl] at h1; exact h1)) ?_
     refine Lm rfl rfl rfl ?_
     refine Lp rfl (p_ext rfl rfl rfl) ?_
     refine Lp rfl (p_ext rfl rfl rfl) ?_
     refine Lw rfl (w_alloc zr63 rfl) ?_
     rintro _ _ ⟨b7, hb7, rfl, rfl⟩
     refine Ls (cs' := [_, _, _]) rfl sz63 rfl rfl rfl rfl rfl rfl rfl ?_
     refine La rfl rfl rfl ?_
     refine L_then (kp [3, 5, 7, 8, 9, 12, 16] rfl) ?_
     refine Vs rfl ?_
     refine Lr rfl (rlA (vs := [_, _, _, _, _]) ag26 sz26 rfl rfl rfl) ?_
     refine Lr rfl (rlA (vs := [_, _, _, _, _]) ag54 sz54 rfl rfl rfl) ?_
     refine Lp rfl (p_idxao ar40 rfl rfl rfl (by omega) (by omega)) ?_
     refine Lr rfl (rl ag3 rfl rfl rfl) ?_
     refine Lm rfl rfl rfl ?_
     refine Lc rfl rfl rfl rfl (fun w hg => (show FnP _ _ _ w (.tuple #[.agg #[.int .i64 (decP p t x0 x1).1.tick, .int .i64 (decP p t x0 x1).1.why, .int .i64 (decP p t x0 x1).1.line], .int .i64 (decP p t x0 x1).2]) from by have h1 := dDecide_c x0 nw p _ aF aL w (hE.good hg) (hP.good hg) (saidXT t nw (x2.tmod 2000000000)) _ _ (TaskR.withPlots (t := t) (hT.good hg) (Grow.rows (els := (saidXT t nw (x2.tmod 2000000000)).plots.map Plot.cells) hgs pl_len (by rw [List.length_map]; exact (saidXL_len _).symm) (fun p hp => hg.own p (by repeat first | exact hp | exact List.mem_append_left _ hp | apply List.mem_append_right | apply mT))) (by show ((saidXL t nw (x2.tmod 2000000000) t.plots.length).length : Int) ≤ _; have := saidXL_len (t := t) (now := nw) (a := (x2.tmod 2000000000)) t.plots.length; omega)); rw [said_dec hG (tmod_place x2), hdl] at h1; exact h1)) ?_
     refine Lm rfl rfl rfl ?_
     refine Lp rfl (p_ext rfl rfl rfl) ?_
     refine Lp rfl (p_ext rfl rfl rfl) ?_
     refine Lw rfl (w_alloc zr63 rfl) ?_
     rintro _ _ ⟨b8, hb8, rfl, rfl⟩
     refine Ls (cs' := [_, _, _]) rfl sz63 rfl rfl rfl rfl rfl rfl rfl ?_
     refine La rfl rfl rfl ?_
     refine L_then (kp [7, 8, 16, 17, 18] rfl) ?_
     refine Vs rfl ?_
     refine Lm rfl rfl rfl ?_
     refine Lp rfl (p_eql rfl rfl rfl) ?_
     refine Lm rfl rfl rfl ?_
     refine L_yes rfl rfl rfl (decide_eq_true he) (X_p (p_move rfl rfl) ?_)
     refine L_yes rfl rfl rfl (decide_eq_true he) (X_p (p_eql rfl rfl rfl) ?_)
     refine Lp rfl (p_pick_t rfl rfl (decide_eq_true he) rfl) ?_
     refine Lm rfl rfl rfl ?_
     refine L_yes rfl rfl rfl (decide_eq_true he) (X_rd (rlA (vs := [_, _, _]) ag63 sz63 rfl rfl rfl) ?_)
     refine L_yes rfl rfl rfl (decide_eq_true he) (X_rd (rlA (vs := [_, _, _]) ag63 sz63 rfl rfl rfl) ?_)
     refine L_yes rfl rfl rfl (decide_eq_true he) (X_p (p_eqS lv63 ag63 eg63 rfl rfl rfl rfl rfl) ?_)
     refine Lp rfl (p_pick_t rfl rfl (decide_eq_true he) rfl) ?_
     refine Lm rfl rfl rfl ?_
     refine L_yes rfl rfl rfl (by simp [eqL, eqv]) (X_rd (rlA (vs := [_, _, _]) ag63 sz63 rfl rfl rfl) ?_)
     refine L_yes rfl rfl rfl (by simp [eqL, eqv]) (X_rd (rlA (vs := [_, _, _]) ag63 sz63 rfl rfl rfl) ?_)
     refine L_yes rfl rfl rfl (by simp [eqL, eqv]) (X_p (p_eqS lv63 ag63 eg63 rfl rfl rfl rfl rfl) ?_)
     refine Lp rfl (p_pick_t rfl rfl (by simp [eqL, eqv]) rfl) ?_
     refine Lm rfl rfl rfl ?_
     refine L_yes rfl rfl rfl (by simp [eqL, eqv]) (X_wr (w_callP rfl rfl rfl (fun w hg => dawake_c aF aL w (hE.good hg))) ?_)
     rintro _ _ ⟨rfl, rfl⟩
     refine Lp rfl (p_pick_t rfl rfl (by simp [eqL, eqv]) rfl) ?_
     refine La rfl rfl rfl ?_
     refine L_then (kp [6] rfl) ?_
     refine V_ret ?_
     refine Leave.nil (.tmp rfl .nil) ?_
     rfl

theorem own_ : ownKnob Tryd.prog.godebug = none := by kernel_rfl
def laidE : List (String × DataW Unit) := [("hangfire/destruct.errFar", Rows.laid_hangfire_destruct_errFar), ("hangfire/destruct.errLong", Rows.laid_hangfire_destruct_errLong)]
theorem gFar : Tryd.prog.globalNamed "hangfire/destruct.errFar" = some 0 := by kernel_rfl
theorem gLong : Tryd.prog.globalNamed "hangfire/destruct.errLong" = some 1 := by kernel_rfl
theorem tFar : (Tryd.prog.globals[0]?).map (·.type) = some 92 := by kernel_rfl
theorem tLong : (Tryd.prog.globals[1]?).map (·.type) = some 92 := by kernel_rfl
theorem door_met (os : Os) (args : Array Value) : laidMetH Tryd.prog laidE ((World.doorLaid Tryd.prog 400 os).forCall (fun _ _ => 0) ⟨#[], args, []⟩).memory :=
 laidMetH_of_parts3 (fuel := 8) (laidMet_of_run' 8 (by kernel_rfl) (by kernel_rfl)) (by kernel_rfl) (by kernel_rfl)
theorem of_laid {W : World} (h : laidMetH Tryd.prog laidE W) : ∃ aF aL, ErrR W 0 1 188 aF aL := by
 rw [MakeChecks.laidMetH_plain _ _ _ (by kernel_rfl)] at h
 have hr : ∀ u, Tryd.prog.typeName? 3 u = some "*errors.errorString" → u = 188 := fun u hu =>
  typeName_ptr_named (nm := "errors.errorString") (by kernel_rfl) (by kernel_rfl) (by decide) u hu
 obtain ⟨a0, a1, s0, s1, c0, c1, t0, t1, hv0, hv1, _, _, _, _, _, _, hne, hb0, hb1⟩ := laid_sentinels2 h gFar tFar gLong tLong Tryd.underlying92 hr Tryd.underlying188 Tryd.underlying214 rfl rfl Tryd.underlying9 (by kernel_rfl) (by kernel_rfl)
 exact ⟨a0, a1, by simpa using World.var?_cell gFar hv0 0, by simpa using World.var?_cell gLong hv1 0, hne, ⟨c0, t0, hb0⟩, ⟨c1, t1, hb1⟩⟩

theorem destructOnce_lifted (os : Os) (started : os.Started) (H : Type) (enc : TypeId × Value → H) :
  ReturnsInHanded {} Tryd.checked os 7 .any (fun w args => (Rows.destructOnceSpec.pre enc Tryd.prog Tryd.f7 Rows.destructOnceRow.domain false w args ∧ laidMetH Tryd.prog laidE w) ∧ sizedMet enc Tryd.prog Tryd.f7 (OpenSpec.ofChange Rows.destructOnceSpec) false w args)
   (Rows.destructOnceSpec.post enc Tryd.prog Tryd.f7 false true false false) := by
 refine returnsInHanded_of_change_and (C := Tryd.checked) (X := fun w _ => laidMetH Tryd.prog laidE w) (fun _ _ _ hh h => h.of_heap hh) own_ started (by kernel_rfl) Tryd.func7
  (ChangeSpec.witness_shaped (enc := enc) (C := Tryd.checked) (os := os) (X := fun w _ => laidMetH Tryd.prog laidE w) false (World.doorLaid Tryd.prog 400 os) #[.agg #[.slice none 0 0, .int .i64 0, .int .i64 0, .int .i64 0, .int .i64 0], .agg #[.int .i64 0, .int .i64 0, .int .i64 0, .slice none 0 0, .slice none 0 0], .agg #[.int .i64 0, .int .i64 0, .int .i64 0]] 8 rfl (World.shaped_of_RefB (by kernel_rfl) (by kernel_rfl)) (by kernel_rfl) (by kernel_rfl) (by kernel_rfl) (door_met os _)) ?_
 intro W base args ds gs before hval0 hW _ _ hL _
 have hval : ∀ (j : Nat) t v, Tryd.f7.params[j]? = some t → args[j]? = some v → Value.okWide Tryd.prog W .any base t v := hval0
 have hW' := hW
 obtain ⟨pA, pB, hA0, hV, rfl, _, _⟩ := hW
 have hA : DataW.TrodAll enc Tryd.prog W 0 (fun _ => true) true Tryd.f7.params.toList args.toList ds pA := hA0
 clear hA0 hval0
 rw [Tryd.params7] at hA hval
 obtain ⟨rfl, rfl⟩ := trodVars_none hV
 obtain ⟨v0, vs0, d0, ds0, p0, q0, ea0, rfl, rfl, h0, hA0⟩ := trodAll_cons hA
 obtain ⟨v1, vs1, d1, ds1, p1, q1, ea1, rfl, rfl, h1, hA1⟩ := trodAll_cons hA0
 obtain ⟨v2, vs2, d2, ds2, p2, q2, ea2, rfl, rfl, h2, hA2⟩ := trodAll_cons hA1
 obtain ⟨rfl, rfl, rfl⟩ := trodAll_nil hA2
 subst ea2
 subst ea1
 have ea : args = #[v0, v1, v2] := Array.toList_inj.1 ea0
 subst ea
 have k0 := hval 0 _ v0 rfl rfl
 have k1 := hval 1 _ v1 rfl rfl
 have k2 := hval 2 _ v2 rfl rfl
 obtain ⟨aF, aL, hE⟩ := of_laid hL
 obtain ⟨p, hP⟩ := open_plan (P := Tryd.prog) (by kernel_rfl) k0 h0
 obtain ⟨t, tv, qv, rfl, hT⟩ := open_task (P := Tryd.prog) (by kernel_rfl) k1 h1
 obtain ⟨x0, x1, x2, rfl⟩ := open_ints3 (P := Tryd.prog) (by kernel_rfl) k2 h2
 refine (calls_of (destructOnce_c x0 x1 x2 p _ aF aL W hE hP t _ _ hT)).mono ?_
 rintro _ W' ⟨_, rfl, rfl, hX⟩
 exact ⟨_, rfl, post_true hW' rfl hX (by kernel_rfl) (by kernel_rfl) rfl rfl rfl (by kernel_rfl) Tryd.underlying4⟩

theorem destructOnce_row : Rows.DestructOnceSaid :=
 OpenClaim.holds_of_wide 7 Tryd.f7 rfl rfl rfl rfl rfl rfl rfl ⟨rfl, rfl, rfl, rfl, rfl⟩ rfl rfl rfl rfl rfl (by kernel_rfl) Tryd.func7 (by kernel_rfl)
  (of_decide_eq_true (by kernel_rfl)) (by unfold Func.isWrapper; first | (rw [if_pos (by decide +kernel)]; kernel_rfl) | (rw [if_neg (by decide +kernel)]; exact ⟨rfl, rfl⟩))
  (fun os started H enc _ => destructOnce_lifted os started H enc)

theorem destructOnce_holds : Rows.DestructOnceCardSaid :=
 Claim7.holds_tied_plain_at .later [] [.sentinel, .sentinel] true (true, "48260a2a5b0eb76944b9e5d1a832da4a10ca173671f6f4086f1a5fa8eb5135c9") true
  destructOnce_row (fun _ h => by cases h) (by kernel_rfl) (fun _ h => by cases h) destructOnce_row_tie rfl ⟨rfl, rfl⟩ (by kernel_rfl) rfl
  (fun f fn hf hfn => by
   obtain rfl : f = 7 := Option.some.inj ((show Tryd.prog.funcNamed "hangfire/hangfirelaw06.DestructOnce" = some 7 by kernel_rfl).symm.trans hf) |>.symm
   obtain rfl : fn = Tryd.f7 := (Option.some.inj (Tryd.func7.symm.trans hfn)).symm
   exact ⟨by kernel_rfl, fun j t ht => by
    rw [Tryd.params7] at ht
    have hm : t ∈ [26, 54, 40] := by simpa using Array.mem_of_getElem? ht
    have hall : ([26, 54, 40].all fun u => !Tryd.prog.wantsStandIn u) = true := by kernel_rfl
    exact (show Tryd.prog.wantsStandIn t = false by simpa using List.all_eq_true.1 hall t hm)⟩)
  (by kernel_rfl)
#print axioms destructOnce_holds

end Go.Proofs.YtlcccpeelombbaaDoor
