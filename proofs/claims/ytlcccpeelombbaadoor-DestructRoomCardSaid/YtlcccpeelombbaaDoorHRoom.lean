/- YtlcccpeelombbaaDoor: DestructRoom is proved: for any plan, task and numbers (no condition but what the card ties) it returns true. -/
import Derived.Test.YtlcccpeelombbaaDoorRows
import Derived.Test.YtlcccpeelombbaaDoorCards
import Derived.Test.YtlcccpeelombbaaDoorTie
import Derived.Test.YtlcccpeelombbaaDoorZan
import Derived.Test.YtlcccpeelombbaaDoorZaj
import Derived.Test.YtlcccpeelombbaaDoorZah
import Derived.ProofKit
import Derived.LaidMore
import Derived.Stop.Joined
import Derived.Stop.LaidTwo
import Derived.SevenTiedAt
set_option linter.all false
namespace Go.Proofs.YtlcccpeelombbaaDoor
open Go.Vc Go.Tk Go.De Go.ChangeShapes Go.WideShapes Go.ChangeAt Go.RowKit
set_option maxRecDepth 100000
set_option maxHeartbeats 8000000 in
theorem destructRoom_c (x0 x1 x2 : Int) (p : De.Plan) (pv : Value) (aF aL : Addr) (w : World) (hE : ErrR w 0 1 188 aF aL)  (hp : PlanR w pv p) (t : Task) (tv qv : Value) (ht : TaskR w (.agg #[.int .i64 t.frm, .int .i64 t.speed, .int .i64 t.accel, tv, qv]) t) : FnP Tryd.prog 6 [pv, .agg #[.int .i64 t.frm, .int .i64 t.speed, .int .i64 t.accel, tv, qv], .agg #[.int .i64 x0, .int .i64 x1, .int .i64 x2]] w (.bool true) := by
 have hP := hp
 obtain ⟨lv, rfl, hls⟩ := hp.ex
 have hlen := hp.len
 obtain ⟨la, lc, rfl, hlc, hle⟩ := hls.ex
 simp only [List.length_map] at hP hlc hls ⊢
 have hT := ht
 refine fn_pure Tryd.func6 rfl (by kernel_rfl) Tryd.ntmps6 Tryd.results6 rfl ?_
 refine Vs rfl ?_
 refine Lw rfl (w_box rfl rfl) ?_
 rintro _ _ ⟨b1, hb1, rfl, rfl⟩
 refine Lw rfl (w_box rfl rfl) ?_
 rintro _ _ ⟨b2, hb2, rfl, rfl⟩
 refine Lw rfl (w_box rfl rfl) ?_
 rintro _ _ ⟨b3, hb3, rfl, rfl⟩
 refine La rfl rfl rfl ?_
 refine L_then (kp [3, 4, 5] rfl) ?_
 refine Vs rfl ?_
 refine Lr rfl (rlA (vs := [_, _, _, _, _]) ag26 sz26 rfl rfl rfl) ?_
 refine Lr rfl (rlA (vs := [_, _, _, _, _]) ag54 sz54 rfl rfl rfl) ?_
 refine Lp rfl (p_idxao ar40 rfl rfl rfl (by omega) (by omega)) ?_
 refine Lr rfl (rl ag3 rfl rfl rfl) ?_
 refine Lc rfl rfl rfl rfl (fun w hg => dLook_c x0 p _ aF aL w (hE.good hg) (hP.good hg) t _ _ (hT.good hg)) ?_
 refine Lm rfl rfl rfl ?_
 refine Lp rfl (p_ext rfl rfl rfl) ?_
 refine Lp rfl (p_ext rfl rfl rfl) ?_
 refine Lw rfl (w_alloc zr56 rfl) ?_
 rintro _ _ ⟨b4, hb4, rfl, rfl⟩
 refine Lw rfl (w_storeAll (cs' := [_, _, _, _, _, _, _, _, _, _, _, _, _, _, _, _, _, _, _, _, _]) sz56 rfl rfl rfl rfl rfl rfl (by repeat first | exact .head | apply SetAt.tail) rfl) ?_
 rintro _ _ ⟨rfl, rfl⟩
 refine La rfl rfl rfl ?_
 refine L_then (kp [3, 4, 5, 7, 8] rfl) ?_
 refine V_seq ?_
 refine Vs rfl ?_
 refine Lm rfl rfl rfl ?_
 refine Lp rfl (p_neq rfl rfl rfl) ?_
 refine Lm rfl rfl rfl ?_
 refine L_cases (d := 22) rfl ?_ ?_
 ·intro g1; have g1' := g1; try simp only [td] at g1'
  refine L_no rfl rfl rfl g1 ?_
  refine L_no rfl rfl rfl g1 ?_
  refine L_no rfl rfl rfl g1 ?_
  refine Lp rfl (p_pick_t rfl rfl g1 rfl) ?_
  refine Lm rfl rfl rfl ?_
  refine L_no rfl rfl rfl rfl ?_
  refine L_no rfl rfl rfl rfl ?_
  refine L_no rfl rfl rfl rfl ?_
  refine L_no rfl rfl rfl rfl ?_
  refine Lp rfl (p_pick_t rfl rfl rfl rfl) ?_
  refine L_then (kp [3, 4, 5, 7, 32] rfl) ?_
  refine V_cond_t rfl rfl ?_
  refine Vs rfl ?_
  refine Lc rfl rfl rfl rfl (fun w hg => dawake_c aF aL w (hE.good hg)) ?_
  refine La rfl rfl rfl ?_
  refine L_then (kp [6] rfl) ?_
  refine V_ret (then_r ?_)
  refine Leave.nil (.tmp rfl .nil) ?_
  rfl
 ·intro g1; have g1' := g1; try simp only [td] at g1'
  have hlk := g1'
  refine L_yes rfl rfl rfl g1 (X_p (p_fieldo fo56_3 rfl rfl) ?_)
  refine L_yes rfl rfl rfl g1 (X_rd (rl ag3 rfl rfl rfl) ?_)
  refine L_yes rfl rfl rfl g1 (X_p (p_neq rfl rfl rfl) ?_)
  refine Lp rfl (p_pick_f rfl rfl g1 rfl) ?_
  refine Lm rfl rfl rfl ?_
  refine L_cases (d := 27) rfl ?_ ?_
  ·intro g2; have g2' := g2; try simp only [td] at g2'
   refine L_no rfl rfl rfl g2 ?_
   refine L_no rfl rfl rfl g2 ?_
   refine L_no rfl rfl rfl g2 ?_
   refine L_no rfl rfl rfl g2 ?_
   refine Lp rfl (p_pick_t rfl rfl g2 rfl) ?_
   refine L_then (kp [3, 4, 5, 7, 32] rfl) ?_
   refine V_cond_t rfl rfl ?_
   refine Vs rfl ?_
   refine Lc rfl rfl rfl rfl (fun w hg => dawake_c aF aL w (hE.good hg)) ?_
   refine La rfl rfl rfl ?_
   refine L_then (kp [6] rfl) ?_
   refine V_ret (then_r ?_)
   refine Leave.nil (.tmp rfl .nil) ?_
   rfl
  ·intro g2; have g2' := g2; try simp only [td] at g2'
   have hwy := g2'
   refine L_yes rfl rfl rfl g2 (X_p (p_fieldo fo26_0 rfl rfl) ?_)
   refine L_yes rfl rfl rfl g2 (X_rd (rl ag22 rfl rfl rfl) ?_)
   refine L_yes rfl rfl rfl g2 (X_p (p_len isl22 rfl rfl) ?_)
   refine L_yes rfl rfl rfl g2 (X_p (p_eql rfl rfl rfl) ?_)
   refine Lp rfl (p_pick_f rfl rfl g2 rfl) ?_
   refine L_then (kp [3, 4, 5, 7, 32] rfl) ?_
   refine V_cond rfl ?_ ?_
   ·intro c1; try simp only [td] at c1
    refine Vs rfl ?_
    refine Lc rfl rfl rfl rfl (fun w hg => dawake_c aF aL w (hE.good hg)) ?_
    refine La rfl rfl rfl ?_
    refine L_then (kp [6] rfl) ?_
    refine V_ret (then_r ?_)
    refine Leave.nil (.tmp rfl .nil) ?_
    rfl
   ·intro c1; try simp only [td] at c1
    have hgp := (ticks_zero (ticks_of_look hlk)).1
    have hn8 := hgp.nums.1
    have hk0 : 0 ≤ (max 0 (x1.tmod (p.lines.length : Int))) ∧ (max 0 (x1.tmod (p.lines.length : Int))) < p.lines.length := by have := Int.tmod_lt_of_pos x1 (show (0 : Int) < p.lines.length by omega); omega
    have hm := more_law (x := x2) hlk hwy (i := (max 0 (x1.tmod (p.lines.length : Int))).toNat) (by omega)
    have hlb := (ln_zero (hgp.ln (max 0 (x1.tmod (p.lines.length : Int))).toNat (by omega)))
    have hlb3 := hlb.line
    have hlb4 := hlb.keep
    simp only [Plan.ln] at hlb3 hlb4
    have hx3 : x2.tmod 1000000000 < 1000000000 := Int.tmod_lt_of_pos _ (by decide)
    refine V_skip (then_n ?_)
    refine Vs rfl ?_
    refine Lr rfl (rlA (vs := [_, _, _, _, _]) ag26 sz26 rfl rfl rfl) ?_
    refine Lw rfl (w_alloc zr26 rfl) ?_
    rintro _ _ ⟨b5, hb5, rfl, rfl⟩
    refine Ls (cs' := [_, _, _, _, _]) rfl sz26 rfl rfl rfl rfl rfl rfl rfl ?_
    refine L_then (kp [3, 4, 5, 7, 9] rfl) ?_
    refine Vs rfl ?_
    refine Lw rfl (w_slice (r := []) un22 sz60 zr60 rfl (by decide) rfl (by decide) rfl rfl) ?_
    rintro _ _ ⟨b6, hb6, rfl, rfl⟩
    refine Lp rfl (p_fieldo fo26_0 rfl rfl) ?_
    refine Lr rfl (rl ag22 rfl rfl rfl) ?_
    refine Lw rfl (w_appT (pre := []) (G := [_]) ap22 rfl rfl rfl (Grow.row (cur := #[]) (by decide) (by decide) rfl rfl rfl) rfl (by rw [ln_flat_len]) (news_slice (els := p.lines.map De.Line.cells) rfl hls ln_len (by decide)) ln_one (by omega) (by simp only [maxLen]; omega)) ?_
    rintro _ _ ⟨GSa, GSc, GS, rfl, rfl, hgs⟩
    try simp only [List.cons_append, List.nil_append, List.append_nil]
    simp only [Nat.zero_add, List.nil_append] at hgs ⊢
    refine Lp rfl (p_fieldo fo26_0 rfl rfl) ?_
    refine Ls (cs' := [_, _, _, _, _]) rfl sz22 rfl rfl rfl rfl rfl rfl rfl ?_
    refine L_then (kp [3, 4, 5, 7, 9] rfl) ?_
    refine Vs rfl ?_
    obtain ⟨gb, cur, rfl, rfl, hcur, hcs, hgn, hgm⟩ := Grow.form2 hgs (by omega)
    have hf3 := ln_at (l := p.lines) (i := (max 0 (x1.tmod (p.lines.length : Int))).toNat) (by omega)
    refine Lp rfl (p_idxao ar40 rfl rfl rfl (by omega) (by omega)) ?_
    refine Lr rfl (rl ag3 rfl rfl rfl) ?_
    refine Lp rfl (p_fieldo fo26_0 rfl rfl) ?_
    refine Lr rfl (rl ag22 rfl rfl rfl) ?_
    refine Lp rfl (p_len isl22 rfl rfl) ?_
    refine Lp rfl (p_rem rfl rfl rfl (by first | decide | omega)) ?_
    refine Lp rfl (p_max rfl rfl rfl) ?_
    refine La rfl rfl rfl ?_
    refine L_then (kp [3, 4, 5, 7, 9, 10] rfl) ?_
    refine V_seq (V_draw (.rd 0 (.rd 1 (.rd 2 (.rd 3 (.rd 4 (.rd 5 (.rd 6 (.rd 7 (.rd 8 (.rd 9 (.rd 10 (.rd 11 (.rd 12 (.rd 13 (.rd 14 (.rd 15 (.rd 16 (.wr 17 [15] .done)))))))))))))))))) mixed (by kernel_rfl) rfl ?_)
    refine Dp rfl rfl (p_fieldo fo26_0 rfl rfl) ?_
    refine Dr rfl rfl (rl ag22 rfl rfl rfl) ?_
    refine Dm rfl rfl rfl rfl ?_
    refine Dp rfl rfl (p_fieldo fo26_0 rfl rfl) ?_
    refine Dr rfl rfl (rl ag22 rfl rfl rfl) ?_
    refine Dm rfl rfl rfl rfl ?_
    refine Dp rfl rfl (p_idxo es22 rfl rfl rfl (by omega) (by omega)) ?_
    refine Dp rfl rfl (p_fieldo fo60_3 rfl rfl) ?_
    refine Dr rfl rfl (r_load ag3 rfl rfl (by repeat first | exact mH | apply mT | apply List.mem_append_right) (v := .int .i64 (p.lines.getD (max 0 (x1.tmod (p.lines.length : Int))).toNat lnZ).line) (cur_at hcur hf3)) ?_
    refine Dp rfl rfl (p_idxao ar40 rfl rfl rfl (by omega) (by omega)) ?_
    refine Dr rfl rfl (rl ag3 rfl rfl rfl) ?_
    refine Dp rfl rfl (p_rem rfl rfl rfl (by first | decide | omega)) ?_
    refine Dp rfl rfl (p_max rfl rfl rfl) ?_
    first | refine Dp rfl rfl (p_add' rfl rfl rfl (by unfold InI; omega)) ?_ | refine Dp rfl rfl (p_add rfl rfl rfl) ?_
    refine Dp rfl rfl (p_min rfl rfl rfl) ?_
    refine Dp rfl rfl (p_idxo es22 rfl rfl rfl (by omega) (by omega)) ?_
    refine Dp rfl rfl (p_fieldo fo60_3 rfl rfl) ?_
    refine D_wr (.go (E' := []) rfl (.plain rfl) (w_store (cs' := cur.toList.set (0 + (max 0 (x1.tmod (p.lines.length : Int))).toNat * 4 + 3) (.int .i64 (min 4000000000000 ((p.lines.getD (max 0 (x1.tmod (p.lines.length : Int))).toNat lnZ).line + max 0 (x2.tmod 1000000000))))) sz3 rfl rfl rfl rfl rfl (by repeat first | exact .head | apply SetAt.tail | apply SetAt.app) (by simp only [Array.length_toList, hcs]; omega) rfl) rfl ?_)
    rintro _ _ ⟨rfl, rfl⟩
    refine ⟨.nil, ?_⟩
    have hgs1 := Grow.setln (el := 60) (b := gb) (i := (max 0 (x1.tmod (p.lines.length : Int))).toNat) (v := (min 4000000000000 ((p.lines.getD (max 0 (x1.tmod (p.lines.length : Int))).toNat lnZ).line + max 0 (x2.tmod 1000000000)))) hgn hgm hcs hcur rfl (by omega)
    refine D_then (kp [3, 4, 5, 7, 9, 10] rfl) ?_
    refine Vs rfl ?_
    refine Lr rfl (rlA (vs := [_, _, _, _, _]) ag26 sz26 rfl rfl rfl) ?_
    refine Lr rfl (rlA (vs := [_, _, _, _, _]) ag54 sz54 rfl rfl rfl) ?_
    refine Lp rfl (p_idxao ar40 rfl rfl rfl (by omega) (by omega)) ?_
    refine Lr rfl (rl ag3 rfl rfl rfl) ?_
    refine Lc rfl rfl rfl rfl (fun w hg => dLook_c x0 (moreP p (max 0 (x1.tmod (p.lines.length : Int))).toNat x2) _ aF aL w (hE.good hg) (⟨by show ((setLn _ _ _).length : Int) ≤ _; rw [setLn_len]; omega, _, rfl, Grow.rows (els := (moreP p (max 0 (x1.tmod (p.lines.length : Int))).toNat x2).lines.map De.Line.cells) hgs1 ln_len (by rw [List.length_map]; exact (setLn_len _ _ _).symm) (fun p hp => hg.own p (by repeat first | exact hp | exact List.mem_append_left _ hp | apply List.mem_append_right | apply mT))⟩ : PlanR w _ (moreP p (max 0 (x1.tmod (p.lines.length : Int))).toNat x2)) t _ _ (hT.good hg)) ?_
    refine Lm rfl rfl rfl ?_
    refine Lp rfl (p_ext rfl rfl rfl) ?_
    refine Lp rfl (p_ext rfl rfl rfl) ?_
    refine Lw rfl (w_alloc zr56 rfl) ?_
    rintro _ _ ⟨b7, hb7, rfl, rfl⟩
    refine Lw rfl (w_storeAll (cs' := [_, _, _, _, _, _, _, _, _, _, _, _, _, _, _, _, _, _, _, _, _]) sz56 rfl rfl rfl rfl rfl rfl (by repeat first | exact .head | apply SetAt.tail) rfl) ?_
    rintro _ _ ⟨rfl, rfl⟩
    refine La rfl rfl rfl ?_
    refine L_then (kp [3, 4, 5, 7, 8, 9, 10, 11] rfl) ?_
    refine V_seq ?_
    refine Vs rfl ?_
    refine Lm rfl rfl rfl ?_
    refine Lp rfl (p_neq rfl rfl rfl) ?_
    refine Lm rfl rfl rfl ?_
    refine L_yes rfl rfl rfl (decide_eq_false (by simp [hm.1])) (X_p (p_fieldo fo56_3 rfl rfl) ?_)
    refine L_yes rfl rfl rfl (decide_eq_false (by simp [hm.1])) (X_rd (rl ag3 rfl rfl rfl) ?_)
    refine L_yes rfl rfl rfl (decide_eq_false (by simp [hm.1])) (X_p (p_neq rfl rfl rfl) ?_)
    refine Lp rfl (p_pick_f rfl rfl (decide_eq_false (by simp [hm.1])) rfl) ?_
    refine Lm rfl rfl rfl ?_
    refine L_yes rfl rfl rfl (decide_eq_false (by simp [hm.2.1])) (X_p (p_fieldo fo56_1 rfl rfl) ?_)
    refine L_yes rfl rfl rfl (decide_eq_false (by simp [hm.2.1])) (X_rd (rlA (vs := [_, _, _, _]) ag36 sz36 rfl rfl rfl) ?_)
    refine L_yes rfl rfl rfl (decide_eq_false (by simp [hm.2.1])) (X_p (p_fieldo fo56_1 rfl rfl) ?_)
    refine L_yes rfl rfl rfl (decide_eq_false (by simp [hm.2.1])) (X_rd (rlA (vs := [_, _, _, _]) ag36 sz36 rfl rfl rfl) ?_)
    refine L_yes rfl rfl rfl (decide_eq_false (by simp [hm.2.1])) (X_p (p_neS lv36 ag36 eg36 rfl rfl rfl rfl rfl) ?_)
    refine Lp rfl (p_pick_f rfl rfl (decide_eq_false (by simp [hm.2.1])) rfl) ?_
    refine L_then (kp [3, 4, 5, 7, 9, 10, 11, 85] rfl) ?_
    refine V_cond_f rfl (by rw [hm.2.2.1, hm.2.2.2]; simp [eqL, eqv]) ?_
    refine V_skip (then_n ?_)
    refine V_seq ?_
    refine Vs rfl ?_
    refine Lp rfl (p_fieldo fo26_0 rfl rfl) ?_
    refine Lr rfl (rl ag22 rfl rfl rfl) ?_
    refine Lp rfl (p_len isl22 rfl rfl) ?_
    refine Lp rfl (p_lss rfl rfl rfl) ?_
    refine L_then (kp [3, 4, 5, 7, 9, 10, 11, 89] rfl) ?_
    refine V_cond rfl ?_ ?_
    ·intro c2; try simp only [td] at c2
     refine Vs rfl ?_
     refine Lc rfl rfl rfl rfl (fun w hg => dawake_c aF aL w (hE.good hg)) ?_
     refine La rfl rfl rfl ?_
     refine L_then (kp [6] rfl) ?_
     refine V_ret (then_r ?_)
     refine Leave.nil (.tmp rfl .nil) ?_
     rfl
    ·intro c2; try simp only [td] at c2
     have hd := drop_law hlk hwy (i := (max 0 (x1.tmod (p.lines.length : Int))).toNat) (by omega) (by omega)
     have hdl : (dropP p (max 0 (x1.tmod (p.lines.length : Int))).toNat).lines.length = p.lines.length - 1 := by simp only [dropP, List.length_append, List.length_take, List.length_drop]; omega
     have hds : ([] ++ ((p.lines.take (max 0 (x1.tmod (p.lines.length : Int))).toNat).map De.Line.cells).flatten) ++ ((p.lines.drop ((max 0 (x1.tmod (p.lines.length : Int))) + 1).toNat).map De.Line.cells).flatten = ((dropP p (max 0 (x1.tmod (p.lines.length : Int))).toNat).lines.map De.Line.cells).flatten := by
      have e : ((max 0 (x1.tmod (p.lines.length : Int))) + 1).toNat = (max 0 (x1.tmod (p.lines.length : Int))).toNat + 1 := by omega
      rw [e, List.nil_append, dropP, List.map_append, List.flatten_append]
     refine V_skip (then_n ?_)
     refine V_seq (V_draw (.rd 1 (.rd 2 (.rd 3 (.rd 4 (.rd 6 (.rd 7 (.rd 8 (.rd 9 (.rd 10 (.wr 0 [10, 9, 8, 7, 6, 4, 3, 2, 1] (.wr 5 [10, 9, 8, 7, 6, 3, 2, 1] (.wr 11 [9, 8, 7, 6, 4, 3, 2, 1] (.rd 12 (.wr 13 [] .done)))))))))))))) mixed (by kernel_rfl) rfl ?_)
     refine Dp rfl rfl (p_fieldo fo26_0 rfl rfl) ?_
     refine Dr rfl rfl (rl ag22 rfl rfl rfl) ?_
     refine Dm rfl rfl rfl rfl ?_
     refine Dp rfl rfl (p_slTo es22 rfl rfl rfl (by omega) (by omega)) ?_
     refine Dp rfl rfl (p_fieldo fo26_0 rfl rfl) ?_
     refine Dr rfl rfl (rl ag22 rfl rfl rfl) ?_
     refine Dm rfl rfl rfl rfl ?_
     first | refine Dp rfl rfl (p_add' rfl rfl rfl (by unfold InI; omega)) ?_ | refine Dp rfl rfl (p_add rfl rfl rfl) ?_
     refine Dp rfl rfl (p_slFrom es22 rfl rfl rfl (by omega) (by omega) (by omega)) ?_
     refine D_wr (.go (E' := [(7, _), (2, _)]) rfl (.plain rfl) (w_slice (r := []) un22 sz60 zr60 rfl (by decide) rfl (by decide) rfl rfl) rfl ?_)
     rintro _ _ ⟨b8, hb8, rfl, rfl⟩
     refine ⟨(.cons rfl (.plain rfl) (rl ag22 rfl rfl rfl) (.cons rfl (.plain rfl) (rl ag22 rfl rfl rfl) .nil)), ?_⟩
     refine D_wr (.go (E' := [(7, _), (2, _)]) rfl (.plain rfl) (w_appT (pre := []) (G := [_]) ap22 rfl rfl rfl (Grow.row (cur := #[]) (by decide) (by decide) rfl rfl rfl) rfl (by rw [ln_flat_len, List.length_take]; congr 1; omega) (news_slice (els := (p.lines.take (max 0 (x1.tmod (p.lines.length : Int))).toNat).map De.Line.cells) rfl (SliceR.takeM hls (by omega)) ln_len (by decide)) ln_one (by omega) (by simp only [maxLen]; omega)) rfl ?_)
     rintro _ _ ⟨G1a, G1c, G1, rfl, rfl, hgr1⟩
     try simp only [List.cons_append, List.nil_append, List.append_nil]
     refine ⟨(.cons rfl (.plain rfl) (rl ag22 rfl rfl rfl) (.cons rfl (.plain rfl) (rl ag22 rfl rfl rfl) .nil)), ?_⟩
     refine D_wr (.go (E' := [(7, _), (2, _)]) rfl (.plain rfl) (w_appT (pre := [_, _, _, _, _, _, _]) (G := G1) (post := []) ap22 rfl rfl rfl hgr1 (by rw [List.append_nil]; rfl) (by rw [ln_flat_len, List.length_drop]) (news_slice (els := (p.lines.drop ((max 0 (x1.tmod (p.lines.length : Int))) + 1).toNat).map De.Line.cells) rfl (SliceR.dropM hls (by omega)) ln_len (by decide)) ln_one (by omega) (by simp only [maxLen]; omega)) rfl ?_)
     rintro _ _ ⟨G2a, G2c, G2, rfl, rfl, hgr2⟩
     try simp only [List.cons_append, List.nil_append, List.append_nil]
     refine ⟨(.cons rfl (.plain rfl) (rl ag22 rfl rfl rfl) (.cons rfl (.plain rfl) (rl ag22 rfl rfl rfl) .nil)), ?_⟩
     refine Dp rfl rfl (p_fieldo fo26_0 rfl rfl) ?_
     refine D_wr (.go (E' := []) rfl (.plain rfl) (ws (cs' := [_, _, _, _, _]) sz22 rfl rfl rfl rfl rfl rfl rfl) rfl ?_)
     rintro _ _ ⟨rfl, rfl⟩
     refine ⟨.nil, ?_⟩
     refine D_then (kp [4, 5, 7, 9, 11] rfl) ?_
     refine Vs rfl ?_
     refine Lr rfl (rlA (vs := [_, _, _, _, _]) ag26 sz26 rfl rfl rfl) ?_
     refine Lr rfl (rlA (vs := [_, _, _, _, _]) ag54 sz54 rfl rfl rfl) ?_
     refine Lp rfl (p_idxao ar40 rfl rfl rfl (by omega) (by omega)) ?_
     refine Lr rfl (rl ag3 rfl rfl rfl) ?_
     refine Lc rfl rfl rfl rfl (fun w hg => dLook_c x0 (dropP p (max 0 (x1.tmod (p.lines.length : Int))).toNat) _ aF aL w (hE.good hg) (⟨by show ((dropP p (max 0 (x1.tmod (p.lines.length : Int))).toNat).lines.length : Int) ≤ _; rw [hdl]; omega, _, rfl, Grow.rows (els := (dropP p (max 0 (x1.tmod (p.lines.length : Int))).toNat).lines.map De.Line.cells) (by rw [← hds]; exact hgr2) ln_len (by rw [List.length_map, hdl]; omega) (fun p hp => hg.own p (by repeat first | exact hp | exact List.mem_append_left _ hp | apply List.mem_append_right | apply mT))⟩ : PlanR w _ (dropP p (max 0 (x1.tmod (p.lines.length : Int))).toNat)) t _ _ (hT.good hg)) ?_
     refine Lm rfl rfl rfl ?_
     refine Lp rfl (p_ext rfl rfl rfl) ?_
     refine Lp rfl (p_ext rfl rfl rfl) ?_
     refine Lw rfl (w_storeAll (cs' := [_, _, _, _, _, _, _, _, _, _, _, _, _, _, _, _, _, _, _, _, _]) sz56 rfl rfl rfl rfl rfl rfl (by repeat first | exact .head | apply SetAt.tail) rfl) ?_
     rintro _ _ ⟨rfl, rfl⟩
     refine La rfl rfl rfl ?_
     refine L_then (kp [7, 8, 11] rfl) ?_
     refine Vs rfl ?_
     refine Lm rfl rfl rfl ?_
     refine Lp rfl (p_eql rfl rfl rfl) ?_
     refine Lm rfl rfl rfl ?_
     refine L_yes rfl rfl rfl (decide_eq_true (by simp [hd.1])) (X_p (p_fieldo fo56_3 rfl rfl) ?_)
     refine L_yes rfl rfl rfl (decide_eq_true (by simp [hd.1])) (X_rd (rl ag3 rfl rfl rfl) ?_)
     refine L_yes rfl rfl rfl (decide_eq_true (by simp [hd.1])) (X_p (p_eql rfl rfl rfl) ?_)
     refine Lp rfl (p_pick_t rfl rfl (decide_eq_true (by simp [hd.1])) rfl) ?_
     refine Lm rfl rfl rfl ?_
     refine L_yes rfl rfl rfl (decide_eq_true (by simp [hd.2.1])) (X_p (p_fieldo fo56_1 rfl rfl) ?_)
     refine L_yes rfl rfl rfl (decide_eq_true (by simp [hd.2.1])) (X_rd (rlA (vs := [_, _, _, _]) ag36 sz36 rfl rfl rfl) ?_)
     refine L_yes rfl rfl rfl (decide_eq_true (by simp [hd.2.1])) (X_p (p_fieldo fo56_1 rfl rfl) ?_)
     refine L_yes rfl rfl rfl (decide_eq_true (by simp [hd.2.1])) (X_rd (rlA (vs := [_, _, _, _]) ag36 sz36 rfl rfl rfl) ?_)
     refine L_yes rfl rfl rfl (decide_eq_true (by simp [hd.2.1])) (X_p (p_eqS lv36 ag36 eg36 rfl rfl rfl rfl rfl) ?_)
     refine Lp rfl (p_pick_t rfl rfl (decide_eq_true (by simp [hd.2.1])) rfl) ?_
     refine Lm rfl rfl rfl ?_
     refine L_yes rfl rfl rfl (by rw [hd.2.2.1, hd.2.2.2]; simp [eqL, eqv]) (X_wr (w_callP rfl rfl rfl (fun w hg => dawake_c aF aL w (hE.good hg))) ?_)
     rintro _ _ ⟨rfl, rfl⟩
     refine Lp rfl (p_pick_t rfl rfl (by rw [hd.2.2.1, hd.2.2.2]; simp [eqL, eqv]) rfl) ?_
     refine La rfl rfl rfl ?_
     refine L_then (kp [6] rfl) ?_
     refine V_ret ?_
     refine Leave.nil (.tmp rfl .nil) ?_
     rfl

theorem own_ : ownKnob Tryd.prog.godebug = none := by kernel_rfl
def laidE : List (String × DataW Unit) := [("hangfire/destruct.errFar", Rows.laid_hangfire_destruct_errFar), ("hangfire/destruct.errLong", Rows.laid_hangfire_destruct_errLong)]
theorem gFar : Tryd.prog.globalNamed "hangfire/destruct.errFar" = some 0 := by kernel_rfl
theorem gLong : Tryd.prog.globalNamed "hangfire/destruct.errLong" = some 1 := by kernel_rfl
theorem tFar : (Tryd.prog.globals[0]?).map (·.type) = some 92 := by kernel_rfl
theorem tLong : (Tryd.prog.globals[1]?).map (·.type) = some 92 := by kernel_rfl
theorem door_met (os : Os) (args : Array Value) : laidMetH Tryd.prog laidE ((World.doorLaid Tryd.prog 400 os).forCall (fun _ _ => 0) ⟨#[], args, []⟩).memory :=
 laidMetH_of_parts3 (fuel := 8) (laidMet_of_run' 8 (by kernel_rfl) (by kernel_rfl)) (by kernel_rfl) (by kernel_rfl)
theorem of_laid {W : World} (h : laidMetH Tryd.prog laidE W) : ∃ aF aL, ErrR W 0 1 188 aF aL := by
 rw [MakeChecks.laidMetH_plain _ _ _ (by kernel_rfl)] at h
 have hr : ∀ u, Tryd.prog.typeName? 3 u = some "*errors.errorString" → u = 188 := fun u hu =>
  typeName_ptr_named (nm := "errors.errorString") (by kernel_rfl) (by kernel_rfl) (by decide) u hu
 obtain ⟨a0, a1, s0, s1, c0, c1, t0, t1, hv0, hv1, _, _, _, _, _, _, hne, hb0, hb1⟩ := laid_sentinels2 h gFar tFar gLong tLong Tryd.underlying92 hr Tryd.underlying188 Tryd.underlying214 rfl rfl Tryd.underlying9 (by kernel_rfl) (by kernel_rfl)
 exact ⟨a0, a1, by simpa using World.var?_cell gFar hv0 0, by simpa using World.var?_cell gLong hv1 0, hne, ⟨c0, t0, hb0⟩, ⟨c1, t1, hb1⟩⟩

theorem destructRoom_lifted (os : Os) (started : os.Started) (H : Type) (enc : TypeId × Value → H) :
  ReturnsInHanded {} Tryd.checked os 6 .any (fun w args => (Rows.destructRoomSpec.pre enc Tryd.prog Tryd.f6 Rows.destructRoomRow.domain false w args ∧ laidMetH Tryd.prog laidE w) ∧ sizedMet enc Tryd.prog Tryd.f6 (OpenSpec.ofChange Rows.destructRoomSpec) false w args)
   (Rows.destructRoomSpec.post enc Tryd.prog Tryd.f6 false true false false) := by
 refine returnsInHanded_of_change_and (C := Tryd.checked) (X := fun w _ => laidMetH Tryd.prog laidE w) (fun _ _ _ hh h => h.of_heap hh) own_ started (by kernel_rfl) Tryd.func6
  (ChangeSpec.witness_shaped (enc := enc) (C := Tryd.checked) (os := os) (X := fun w _ => laidMetH Tryd.prog laidE w) false (World.doorLaid Tryd.prog 400 os) #[.agg #[.slice none 0 0, .int .i64 0, .int .i64 0, .int .i64 0, .int .i64 0], .agg #[.int .i64 0, .int .i64 0, .int .i64 0, .slice none 0 0, .slice none 0 0], .agg #[.int .i64 0, .int .i64 0, .int .i64 0]] 8 rfl (World.shaped_of_RefB (by kernel_rfl) (by kernel_rfl)) (by kernel_rfl) (by kernel_rfl) (by kernel_rfl) (door_met os _)) ?_
 intro W base args ds gs before hval0 hW _ _ hL _
 have hval : ∀ (j : Nat) t v, Tryd.f6.params[j]? = some t → args[j]? = some v → Value.okWide Tryd.prog W .any base t v := hval0
 have hW' := hW
 obtain ⟨pA, pB, hA0, hV, rfl, _, _⟩ := hW
 have hA : DataW.TrodAll enc Tryd.prog W 0 (fun _ => true) true Tryd.f6.params.toList args.toList ds pA := hA0
 clear hA0 hval0
 rw [Tryd.params6] at hA hval
 obtain ⟨rfl, rfl⟩ := trodVars_none hV
 obtain ⟨v0, vs0, d0, ds0, p0, q0, ea0, rfl, rfl, h0, hA0⟩ := trodAll_cons hA
 obtain ⟨v1, vs1, d1, ds1, p1, q1, ea1, rfl, rfl, h1, hA1⟩ := trodAll_cons hA0
 obtain ⟨v2, vs2, d2, ds2, p2, q2, ea2, rfl, rfl, h2, hA2⟩ := trodAll_cons hA1
 obtain ⟨rfl, rfl, rfl⟩ := trodAll_nil hA2
 subst ea2
 subst ea1
 have ea : args = #[v0, v1, v2] := Array.toList_inj.1 ea0
 subst ea
 have k0 := hval 0 _ v0 rfl rfl
 have k1 := hval 1 _ v1 rfl rfl
 have k2 := hval 2 _ v2 rfl rfl
 obtain ⟨aF, aL, hE⟩ := of_laid hL
 obtain ⟨p, hP⟩ := open_plan (P := Tryd.prog) (by kernel_rfl) k0 h0
 obtain ⟨t, tv, qv, rfl, hT⟩ := open_task (P := Tryd.prog) (by kernel_rfl) k1 h1
 obtain ⟨x0, x1, x2, rfl⟩ := open_ints3 (P := Tryd.prog) (by kernel_rfl) k2 h2
 refine (calls_of (destructRoom_c x0 x1 x2 p _ aF aL W hE hP t _ _ hT)).mono ?_
 rintro _ W' ⟨_, rfl, rfl, hX⟩
 exact ⟨_, rfl, post_true hW' rfl hX (by kernel_rfl) (by kernel_rfl) rfl rfl rfl (by kernel_rfl) Tryd.underlying4⟩

theorem destructRoom_row : Rows.DestructRoomSaid :=
 OpenClaim.holds_of_wide 6 Tryd.f6 rfl rfl rfl rfl rfl rfl rfl ⟨rfl, rfl, rfl, rfl, rfl⟩ rfl rfl rfl rfl rfl (by kernel_rfl) Tryd.func6 (by kernel_rfl)
  (of_decide_eq_true (by kernel_rfl)) (by unfold Func.isWrapper; first | (rw [if_pos (by decide +kernel)]; kernel_rfl) | (rw [if_neg (by decide +kernel)]; exact ⟨rfl, rfl⟩))
  (fun os started H enc _ => destructRoom_lifted os started H enc)

theorem destructRoom_holds : Rows.DestructRoomCardSaid :=
 Claim7.holds_tied_plain_at .later [] [.sentinel, .sentinel] true (true, "48260a2a5b0eb76944b9e5d1a832da4a10ca173671f6f4086f1a5fa8eb5135c9") true
  destructRoom_row (fun _ h => by cases h) (by kernel_rfl) (fun _ h => by cases h) destructRoom_row_tie rfl ⟨rfl, rfl⟩ (by kernel_rfl) rfl
  (fun f fn hf hfn => by
   obtain rfl : f = 6 := Option.some.inj ((show Tryd.prog.funcNamed "hangfire/hangfirelaw06.DestructRoom" = some 6 by kernel_rfl).symm.trans hf) |>.symm
   obtain rfl : fn = Tryd.f6 := (Option.some.inj (Tryd.func6.symm.trans hfn)).symm
   exact ⟨by kernel_rfl, fun j t ht => by
    rw [Tryd.params6] at ht
    have hm : t ∈ [26, 54, 40] := by simpa using Array.mem_of_getElem? ht
    have hall : ([26, 54, 40].all fun u => !Tryd.prog.wantsStandIn u) = true := by kernel_rfl
    exact (show Tryd.prog.wantsStandIn t = false by simpa using List.all_eq_true.1 hall t hm)⟩)
  (by kernel_rfl)
#print axioms destructRoom_holds

end Go.Proofs.YtlcccpeelombbaaDoor
