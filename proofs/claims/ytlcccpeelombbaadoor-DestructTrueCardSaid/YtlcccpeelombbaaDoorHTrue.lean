/- YtlcccpeelombbaaDoor: DestructTrue is proved: for any plan, box and shares (no condition but what the card ties) it returns true. -/
import Derived.Test.YtlcccpeelombbaaDoorRows
import Derived.Test.YtlcccpeelombbaaDoorCards
import Derived.Test.YtlcccpeelombbaaDoorTie
import Derived.Test.YtlcccpeelombbaaDoorZan
import Derived.Test.YtlcccpeelombbaaDoorZah
import Derived.ProofKit
import Derived.LaidMore
import Derived.Stop.Joined
import Derived.Stop.LaidTwo
import Derived.SevenTiedAt
set_option linter.all false
namespace Go.Proofs.YtlcccpeelombbaaDoor
open Go.Vc Go.Tk Go.De Go.ChangeShapes Go.WideShapes Go.ChangeAt Go.RowKit
set_option maxRecDepth 100000
set_option maxHeartbeats 4000000 in
theorem destructTrue_c (p : De.Plan) (pv : Value) (aF aL : Addr) (w : World) (hE : ErrR w 0 1 188 aF aL)  (hp : PlanR w pv p) (b : Box) (l : List Int) (sv : Value) (hl8 : ∀ n ∈ l, 0 ≤ n ∧ n ≤ 255) (hll : (l.length : Int) ≤ 9223372036854775807) (hS : SliceR w 1 sv (l.map fun n => [Value.int .u8 n])) : FnP Tryd.prog 4 [pv, .agg (Box.cells b).toArray, sv] w (.bool true) := by
 have hP := hp
 obtain ⟨lv, rfl, hls⟩ := hp.ex
 have hlen := hp.len
 refine fn_pure Tryd.func4 rfl (by kernel_rfl) Tryd.ntmps4 Tryd.results4 rfl ?_
 refine Vs rfl ?_
 refine Lw rfl (w_box rfl rfl) ?_
 rintro _ _ ⟨b1, hb1, rfl, rfl⟩
 refine Lw rfl (w_box rfl rfl) ?_
 rintro _ _ ⟨b2, hb2, rfl, rfl⟩
 refine La rfl rfl rfl ?_
 refine L_then (kp [2, 3, 4] rfl) ?_
 refine Vs rfl ?_
 refine Lr rfl (rlA (vs := [_, _, _, _, _]) ag26 sz26 rfl rfl rfl) ?_
 refine Lr rfl (rlA (vs := [_, _, _, _, _, _, _, _, _, _, _, _, _]) ag33 sz33 rfl rfl rfl) ?_
 refine Lc rfl rfl rfl rfl (fun w hg => dFall_c b p _ aF aL w (hE.good hg) (hP.good hg)) ?_
 refine Lm rfl rfl rfl ?_
 refine Lp rfl (p_ext rfl rfl rfl) ?_
 refine Lp rfl (p_ext rfl rfl rfl) ?_
 refine Lp rfl (p_ext rfl rfl rfl) ?_
 refine Lw rfl (w_alloc zr36 rfl) ?_
 rintro _ _ ⟨b3, hb3, rfl, rfl⟩
 refine Lw rfl (w_alloc zr24 rfl) ?_
 rintro _ _ ⟨b4, hb4, rfl, rfl⟩
 refine Ls (cs' := [_, _, _, _]) rfl sz36 rfl rfl rfl rfl rfl rfl rfl ?_
 refine Ls (cs' := [_, _]) rfl sz24 rfl rfl rfl rfl rfl rfl rfl ?_
 refine La rfl rfl rfl ?_
 refine L_then (kp [2, 3, 4, 7, 8, 9] rfl) ?_
 refine V_seq ?_
 refine Vs rfl ?_
 refine Lm rfl rfl rfl ?_
 refine Lp rfl (p_neq rfl rfl rfl) ?_
 refine L_then (kp [2, 3, 4, 7, 8, 23] rfl) ?_
 refine V_cond rfl ?_ ?_
 ·intro c1; try simp only [td] at c1
  refine Vs rfl ?_
  refine Lc rfl rfl rfl rfl (fun w hg => dawake_c aF aL w (hE.good hg)) ?_
  refine La rfl rfl rfl ?_
  refine L_then (kp [6] rfl) ?_
  refine V_ret (then_r ?_)
  refine Leave.nil (.tmp rfl .nil) ?_
  rfl
 ·intro c1; try simp only [td] at c1
  have he := c1
  obtain ⟨hgp, hbk, hfe, _⟩ := fallP_ok he
  obtain ⟨⟨m, hm1, hm2, hmz, hmb⟩, hat, hx, hy, hk3⟩ := true_law hl8 he
  have hgr := hgp.nums.2.1
  unfold BoxOk okS at hbk
  simp only [comeT, runS] at hat hx hy hk3 hmz hmb
  refine V_skip (then_n ?_)
  refine V_seq (V_draw (.rd 0 (.rd 1 (.rd 2 (.rd 4 (.rd 5 (.rd 6 (.rd 8 (.rd 9 (.rd 10 (.wr2 3 [10, 9, 8, 6, 5, 4, 0] (.wr2 7 [10, 9, 8, 4, 2, 1, 0] (.wr2 11 [8, 6, 5, 4, 2, 1, 0] (.rd 12 (.wr 13 [12, 10, 9, 8, 6, 5, 4, 2, 1, 0] (.wr 14 [] .done))) 13 [10, 9, 8, 6, 5, 4, 2, 1, 0] (.wr 11 [8, 6, 5, 4, 2, 1, 0] (.rd 12 (.wr 14 [] .done)))) 13 [10, 9, 8, 6, 5, 4, 2, 1, 0] (.wr 7 [10, 9, 8, 4, 2, 1, 0] (.wr 11 [8, 6, 5, 4, 2, 1, 0] (.rd 12 (.wr 14 [] .done))))) 13 [10, 9, 8, 6, 5, 4, 2, 1, 0] (.wr 3 [10, 9, 8, 6, 5, 4, 0] (.wr 7 [10, 9, 8, 4, 2, 1, 0] (.wr 11 [8, 6, 5, 4, 2, 1, 0] (.rd 12 (.wr 14 [] .done))))))))))))))) mixed (by kernel_rfl) rfl ?_)
  refine Dp rfl rfl (p_fieldo fo33_1 rfl rfl) ?_
  refine Dr rfl rfl (rlA (vs := [_, _]) ag24 sz24 rfl rfl rfl) ?_
  refine Dm rfl rfl rfl rfl ?_
  refine Dp rfl rfl (p_fieldo fo33_2 rfl rfl) ?_
  refine Dr rfl rfl (rlA (vs := [_, _]) ag24 sz24 rfl rfl rfl) ?_
  refine Dm rfl rfl rfl rfl ?_
  refine Dp rfl rfl (p_fieldo fo33_3 rfl rfl) ?_
  refine Dr rfl rfl (rlA (vs := [_, _]) ag24 sz24 rfl rfl rfl) ?_
  refine Dm rfl rfl rfl rfl ?_
  refine D_wr2 rfl ?_ ?_
  ·refine (.go (E' := [(9, _), (5, _)]) rfl (.plain rfl) (w_callP rfl rfl rfl (fun w hg => lpick_c b.x (by omega) l _ hl8 hll 0 (by omega) w (hS.good hg))) rfl ?_)
   rintro _ _ ⟨rfl, rfl⟩
   refine ⟨(.cons rfl (.plain rfl) (rlA (vs := [_, _]) ag24 sz24 rfl rfl rfl) (.cons rfl (.plain rfl) (rlA (vs := [_, _]) ag24 sz24 rfl rfl rfl) .nil)), ?_⟩
   refine D_wr2 rfl ?_ ?_
   ·refine (.go (E' := [(9, _)]) rfl (.plain rfl) (w_callP rfl rfl rfl (fun w hg => lpick_c b.y (by omega) l _ hl8 hll 1 (by omega) w (hS.good hg))) rfl ?_)
    rintro _ _ ⟨rfl, rfl⟩
    refine ⟨(.cons rfl (.plain rfl) (rlA (vs := [_, _]) ag24 sz24 rfl rfl rfl) .nil), ?_⟩
    refine D_wr2 rfl ?_ ?_
    ·refine (.go (E' := []) rfl (.plain rfl) (w_callP rfl rfl rfl (fun w hg => lpick_c b.z (by omega) l _ hl8 hll 2 (by omega) w (hS.good hg))) rfl ?_)
     rintro _ _ ⟨rfl, rfl⟩
     refine ⟨.nil, ?_⟩
     refine Dp rfl rfl (p_buildA (r := [_, _, _]) ar40 zr40 rfl rfl rfl) ?_
     refine D_wr (.go (E' := []) rfl (.plain rfl) (w_alloc zr40 rfl) rfl ?_)
     rintro _ _ ⟨b5, hb5, rfl, rfl⟩
     refine ⟨.nil, ?_⟩
     refine D_wr (.go (E' := []) rfl (.plain rfl) (ws (cs' := [_, _, _]) sz40 rfl rfl rfl rfl rfl rfl rfl) rfl ?_)
     rintro _ _ ⟨rfl, rfl⟩
     refine ⟨.nil, ?_⟩
     refine D_then (kp [2, 3, 4, 7, 8, 10] rfl) ?_
     refine V_seq (V_draw (.rd 0 (.rd 1 (.rd 2 (.rd 4 (.rd 5 (.rd 6 (.rd 8 (.rd 9 (.rd 10 (.wr2 3 [10, 9, 8, 6, 5, 4, 0] (.wr2 7 [10, 9, 8, 4, 2, 1, 0] (.wr2 11 [8, 6, 5, 4, 2, 1, 0] (.rd 12 (.wr 13 [12, 10, 9, 8, 6, 5, 4, 2, 1, 0] (.wr 14 [] .done))) 13 [10, 9, 8, 6, 5, 4, 2, 1, 0] (.wr 11 [8, 6, 5, 4, 2, 1, 0] (.rd 12 (.wr 14 [] .done)))) 13 [10, 9, 8, 6, 5, 4, 2, 1, 0] (.wr 7 [10, 9, 8, 4, 2, 1, 0] (.wr 11 [8, 6, 5, 4, 2, 1, 0] (.rd 12 (.wr 14 [] .done))))) 13 [10, 9, 8, 6, 5, 4, 2, 1, 0] (.wr 3 [10, 9, 8, 6, 5, 4, 0] (.wr 7 [10, 9, 8, 4, 2, 1, 0] (.wr 11 [8, 6, 5, 4, 2, 1, 0] (.rd 12 (.wr 14 [] .done))))))))))))))) mixed (by kernel_rfl) rfl ?_)
     refine Dp rfl rfl (p_fieldo fo33_4 rfl rfl) ?_
     refine Dr rfl rfl (rlA (vs := [_, _]) ag24 sz24 rfl rfl rfl) ?_
     refine Dm rfl rfl rfl rfl ?_
     refine Dp rfl rfl (p_fieldo fo33_5 rfl rfl) ?_
     refine Dr rfl rfl (rlA (vs := [_, _]) ag24 sz24 rfl rfl rfl) ?_
     refine Dm rfl rfl rfl rfl ?_
     refine Dp rfl rfl (p_fieldo fo33_6 rfl rfl) ?_
     refine Dr rfl rfl (rlA (vs := [_, _]) ag24 sz24 rfl rfl rfl) ?_
     refine Dm rfl rfl rfl rfl ?_
     refine D_wr2 rfl ?_ ?_
     ·refine (.go (E' := [(9, _), (5, _)]) rfl (.plain rfl) (w_callP rfl rfl rfl (fun w hg => lpick_c b.vx (by omega) l _ hl8 hll 3 (by omega) w (hS.good hg))) rfl ?_)
      rintro _ _ ⟨rfl, rfl⟩
      refine ⟨(.cons rfl (.plain rfl) (rlA (vs := [_, _]) ag24 sz24 rfl rfl rfl) (.cons rfl (.plain rfl) (rlA (vs := [_, _]) ag24 sz24 rfl rfl rfl) .nil)), ?_⟩
      refine D_wr2 rfl ?_ ?_
      ·refine (.go (E' := [(9, _)]) rfl (.plain rfl) (w_callP rfl rfl rfl (fun w hg => lpick_c b.vy (by omega) l _ hl8 hll 4 (by omega) w (hS.good hg))) rfl ?_)
       rintro _ _ ⟨rfl, rfl⟩
       refine ⟨(.cons rfl (.plain rfl) (rlA (vs := [_, _]) ag24 sz24 rfl rfl rfl) .nil), ?_⟩
       refine D_wr2 rfl ?_ ?_
       ·refine (.go (E' := []) rfl (.plain rfl) (w_callP rfl rfl rfl (fun w hg => lpick_c b.vz (by omega) l _ hl8 hll 5 (by omega) w (hS.good hg))) rfl ?_)
        rintro _ _ ⟨rfl, rfl⟩
        refine ⟨.nil, ?_⟩
        refine Dp rfl rfl (p_buildA (r := [_, _, _]) ar40 zr40 rfl rfl rfl) ?_
        refine D_wr (.go (E' := []) rfl (.plain rfl) (w_alloc zr40 rfl) rfl ?_)
        rintro _ _ ⟨b6, hb6, rfl, rfl⟩
        refine ⟨.nil, ?_⟩
        refine D_wr (.go (E' := []) rfl (.plain rfl) (ws (cs' := [_, _, _]) sz40 rfl rfl rfl rfl rfl rfl rfl) rfl ?_)
        rintro _ _ ⟨rfl, rfl⟩
        refine ⟨.nil, ?_⟩
        refine D_then (kp [2, 3, 4, 7, 8, 10, 11] rfl) ?_
        refine Vs rfl ?_
        refine Lr rfl (rlA (vs := [_, _, _]) ag40 sz40 rfl rfl rfl) ?_
        refine Lr rfl (rlA (vs := [_, _, _]) ag40 sz40 rfl rfl rfl) ?_
        refine Lp rfl (p_fieldo fo26_1 rfl rfl) ?_
        refine Lr rfl (rlA (vs := [_, _]) ag24 sz24 rfl rfl rfl) ?_
        refine Lm rfl rfl rfl ?_
        refine Lc rfl rfl rfl rfl (fun w hg => lfalls_c (startP b l) p.grav hgr l _ hl8 hll m hm1 hm2 hmz hmb w (hS.good hg)) ?_
        refine Lm rfl rfl rfl ?_
        refine Lp rfl (p_ext rfl rfl rfl) ?_
        refine Lp rfl (p_ext rfl rfl rfl) ?_
        refine Lp rfl (p_ext rfl rfl rfl) ?_
        refine Lw rfl (w_alloc zr42 rfl) ?_
        rintro _ _ ⟨b7, hb7, rfl, rfl⟩
        refine Ls (cs' := [_, _]) rfl sz42 rfl rfl rfl rfl rfl rfl rfl ?_
        refine La rfl rfl rfl ?_
        refine La rfl rfl rfl ?_
        refine L_then (kp [4, 7, 8, 12, 13, 14] rfl) ?_
        refine Vs rfl ?_
        refine Lm rfl rfl rfl ?_
        refine Lm rfl rfl rfl ?_
        refine L_yes rfl rfl rfl rfl (X_rd (rlA (vs := [_, _]) ag24 sz24 rfl rfl rfl) ?_)
        refine L_yes rfl rfl rfl rfl (X_p (p_fieldo fo33_0 rfl rfl) ?_)
        refine L_yes rfl rfl rfl rfl (X_rd (rl ag3 rfl rfl rfl) ?_)
        refine L_yes rfl rfl rfl rfl (X_p (p_move rfl rfl) ?_)
        first | refine L_yes rfl rfl rfl rfl (X_p (p_add' rfl rfl rfl (by unfold InI; omega)) ?_) | refine L_yes rfl rfl rfl rfl (X_p (p_add rfl rfl rfl) ?_)
        refine L_yes rfl rfl rfl rfl (X_wr (w_callP rfl rfl rfl (fun w hg => lhas_c (De.fallP p b).at_ _ hat w)) ?_)
        rintro _ _ ⟨rfl, rfl⟩
        refine Lp rfl (p_pick_t rfl rfl rfl rfl) ?_
        refine Lm rfl rfl rfl ?_
        refine L_yes rfl rfl rfl rfl (X_p (p_fieldo fo36_0 rfl rfl) ?_)
        refine L_yes rfl rfl rfl rfl (X_rd (rlA (vs := [_, _]) ag24 sz24 rfl rfl rfl) ?_)
        refine L_yes rfl rfl rfl rfl (X_p (p_fieldo fo42_0 rfl rfl) ?_)
        refine L_yes rfl rfl rfl rfl (X_rd (rl ag3 rfl rfl rfl) ?_)
        refine L_yes rfl rfl rfl rfl (X_wr (w_callP rfl rfl rfl (fun w hg => lhas_c (De.fallP p b).x _ hx w)) ?_)
        rintro _ _ ⟨rfl, rfl⟩
        refine Lp rfl (p_pick_t rfl rfl rfl rfl) ?_
        refine Lm rfl rfl rfl ?_
        refine L_yes rfl rfl rfl rfl (X_p (p_fieldo fo36_1 rfl rfl) ?_)
        refine L_yes rfl rfl rfl rfl (X_rd (rlA (vs := [_, _]) ag24 sz24 rfl rfl rfl) ?_)
        refine L_yes rfl rfl rfl rfl (X_p (p_fieldo fo42_1 rfl rfl) ?_)
        refine L_yes rfl rfl rfl rfl (X_rd (rl ag3 rfl rfl rfl) ?_)
        refine L_yes rfl rfl rfl rfl (X_wr (w_callP rfl rfl rfl (fun w hg => lhas_c (De.fallP p b).y _ hy w)) ?_)
        rintro _ _ ⟨rfl, rfl⟩
        refine Lp rfl (p_pick_t rfl rfl rfl rfl) ?_
        refine Lm rfl rfl rfl ?_
        refine L_yes rfl rfl rfl rfl (X_wr (w_callP rfl rfl rfl (fun w hg => dawake_c aF aL w (hE.good hg))) ?_)
        rintro _ _ ⟨rfl, rfl⟩
        refine Lp rfl (p_pick_t rfl rfl rfl rfl) ?_
        refine La rfl rfl rfl ?_
        refine L_then (kp [6] rfl) ?_
        refine V_ret ?_
        refine Leave.nil (.tmp rfl .nil) ?_
        rfl
       ·refine (.go (E' := [(9, _)]) rfl (.plain rfl) (w_alloc zr40 rfl) rfl ?_)
        rintro _ _ ⟨b6, hb6, rfl, rfl⟩
        refine ⟨(.cons rfl (.plain rfl) (rlA (vs := [_, _]) ag24 sz24 rfl rfl rfl) .nil), ?_⟩
        refine D_wr (.go (E' := []) rfl (.plain rfl) (w_callP rfl rfl rfl (fun w hg => lpick_c b.vz (by omega) l _ hl8 hll 5 (by omega) w (hS.good hg))) rfl ?_)
        rintro _ _ ⟨rfl, rfl⟩
        refine ⟨.nil, ?_⟩
        refine Dp rfl rfl (p_buildA (r := [_, _, _]) ar40 zr40 rfl rfl rfl) ?_
        refine D_wr (.go (E' := []) rfl (.plain rfl) (ws (cs' := [_, _, _]) sz40 rfl rfl rfl rfl rfl rfl rfl) rfl ?_)
        rintro _ _ ⟨rfl, rfl⟩
        refine ⟨.nil, ?_⟩
        refine D_then (kp [2, 3, 4, 7, 8, 10, 11] rfl) ?_
        refine Vs rfl ?_
        refine Lr rfl (rlA (vs := [_, _, _]) ag40 sz40 rfl rfl rfl) ?_
        refine Lr rfl (rlA (vs := [_, _, _]) ag40 sz40 rfl rfl rfl) ?_
        refine Lp rfl (p_fieldo fo26_1 rfl rfl) ?_
        refine Lr rfl (rlA (vs := [_, _]) ag24 sz24 rfl rfl rfl) ?_
        refine Lm rfl rfl rfl ?_
        refine Lc rfl rfl rfl rfl (fun w hg => lfalls_c (startP b l) p.grav hgr l _ hl8 hll m hm1 hm2 hmz hmb w (hS.good hg)) ?_
        refine Lm rfl rfl rfl ?_
        refine Lp rfl (p_ext rfl rfl rfl) ?_
        refine Lp rfl (p_ext rfl rfl rfl) ?_
        refine Lp rfl (p_ext rfl rfl rfl) ?_
        refine Lw rfl (w_alloc zr42 rfl) ?_
        rintro _ _ ⟨b7, hb7, rfl, rfl⟩
        refine Ls (cs' := [_, _]) rfl sz42 rfl rfl rfl rfl rfl rfl rfl ?_
        refine La rfl rfl rfl ?_
        refine La rfl rfl rfl ?_
        refine L_then (kp [4, 7, 8, 12, 13, 14] rfl) ?_
        refine Vs rfl ?_
        refine Lm rfl rfl rfl ?_
        refine Lm rfl rfl rfl ?_
        refine L_yes rfl rfl rfl rfl (X_rd (rlA (vs := [_, _]) ag24 sz24 rfl rfl rfl) ?_)
        refine L_yes rfl rfl rfl rfl (X_p (p_fieldo fo33_0 rfl rfl) ?_)
        refine L_yes rfl rfl rfl rfl (X_rd (rl ag3 rfl rfl rfl) ?_)
        refine L_yes rfl rfl rfl rfl (X_p (p_move rfl rfl) ?_)
        first | refine L_yes rfl rfl rfl rfl (X_p (p_add' rfl rfl rfl (by unfold InI; omega)) ?_) | refine L_yes rfl rfl rfl rfl (X_p (p_add rfl rfl rfl) ?_)
        refine L_yes rfl rfl rfl rfl (X_wr (w_callP rfl rfl rfl (fun w hg => lhas_c (De.fallP p b).at_ _ hat w)) ?_)
        rintro _ _ ⟨rfl, rfl⟩
        refine Lp rfl (p_pick_t rfl rfl rfl rfl) ?_
        refine Lm rfl rfl rfl ?_
        refine L_yes rfl rfl rfl rfl (X_p (p_fieldo fo36_0 rfl rfl) ?_)
        refine L_yes rfl rfl rfl rfl (X_rd (rlA (vs := [_, _]) ag24 sz24 rfl rfl rfl) ?_)
        refine L_yes rfl rfl rfl rfl (X_p (p_fieldo fo42_0 rfl rfl) ?_)
        refine L_yes rfl rfl rfl rfl (X_rd (rl ag3 rfl rfl rfl) ?_)
        refine L_yes rfl rfl rfl rfl (X_wr (w_callP rfl rfl rfl (fun w hg => lhas_c (De.fallP p b).x _ hx w)) ?_)
        rintro _ _ ⟨rfl, rfl⟩
        refine Lp rfl (p_pick_t rfl rfl rfl rfl) ?_
        refine Lm rfl rfl rfl ?_
        refine L_yes rfl rfl rfl rfl (X_p (p_fieldo fo36_1 rfl rfl) ?_)
        refine L_yes rfl rfl rfl rfl (X_rd (rlA (vs := [_, _]) ag24 sz24 rfl rfl rfl) ?_)
        refine L_yes rfl rfl rfl rfl (X_p (p_fieldo fo42_1 rfl rfl) ?_)
        refine L_yes rfl rfl rfl rfl (X_rd (rl ag3 rfl rfl rfl) ?_)
        refine L_yes rfl rfl rfl rfl (X_wr (w_callP rfl rfl rfl (fun w hg => lhas_c (De.fallP p b).y _ hy w)) ?_)
        rintro _ _ ⟨rfl, rfl⟩
        refine Lp rfl (p_pick_t rfl rfl rfl rfl) ?_
        refine Lm rfl rfl rfl ?_
        refine L_yes rfl rfl rfl rfl (X_wr (w_callP rfl rfl rfl (fun w hg => dawake_c aF aL w (hE.good hg))) ?_)
        rintro _ _ ⟨rfl, rfl⟩
        refine Lp rfl (p_pick_t rfl rfl rfl rfl) ?_
        refine La rfl rfl rfl ?_
        refine L_then (kp [6] rfl) ?_
        refine V_ret ?_
        refine Leave.nil (.tmp rfl .nil) ?_
        rfl
      ·refine (.go (E' := [(9, _), (5, _)]) rfl (.plain rfl) (w_alloc zr40 rfl) rfl ?_)
       rintro _ _ ⟨b6, hb6, rfl, rfl⟩
       refine ⟨(.cons rfl (.plain rfl) (rlA (vs := [_, _]) ag24 sz24 rfl rfl rfl) (.cons rfl (.plain rfl) (rlA (vs := [_, _]) ag24 sz24 rfl rfl rfl) .nil)), ?_⟩
       refine D_wr (.go (E' := [(9, _)]) rfl (.plain rfl) (w_callP rfl rfl rfl (fun w hg => lpick_c b.vy (by omega) l _ hl8 hll 4 (by omega) w (hS.good hg))) rfl ?_)
       rintro _ _ ⟨rfl, rfl⟩
       refine ⟨(.cons rfl (.plain rfl) (rlA (vs := [_, _]) ag24 sz24 rfl rfl rfl) .nil), ?_⟩
       refine D_wr (.go (E' := []) rfl (.plain rfl) (w_callP rfl rfl rfl (fun w hg => lpick_c b.vz (by omega) l _ hl8 hll 5 (by omega) w (hS.good hg))) rfl ?_)
       rintro _ _ ⟨rfl, rfl⟩
       refine ⟨.nil, ?_⟩
       refine Dp rfl rfl (p_buildA (r := [_, _, _]) ar40 zr40 rfl rfl rfl) ?_
       refine D_wr (.go (E' := []) rfl (.plain rfl) (ws (cs' := [_, _, _]) sz40 rfl rfl rfl rfl rfl rfl rfl) rfl ?_)
       rintro _ _ ⟨rfl, rfl⟩
       refine ⟨.nil, ?_⟩
       refine D_then (kp [2, 3, 4, 7, 8, 10, 11] rfl) ?_
       refine Vs rfl ?_
       refine Lr rfl (rlA (vs := [_, _, _]) ag40 sz40 rfl rfl rfl) ?_
       refine Lr rfl (rlA (vs := [_, _, _]) ag40 sz40 rfl rfl rfl) ?_
       refine Lp rfl (p_fieldo fo26_1 rfl rfl) ?_
       refine Lr rfl (rlA (vs := [_, _]) ag24 sz24 rfl rfl rfl) ?_
       refine Lm rfl rfl rfl ?_
       refine Lc rfl rfl rfl rfl (fun w hg => lfalls_c (startP b l) p.grav hgr l _ hl8 hll m hm1 hm2 hmz hmb w (hS.good hg)) ?_
       refine Lm rfl rfl rfl ?_
       refine Lp rfl (p_ext rfl rfl rfl) ?_
       refine Lp rfl (p_ext rfl rfl rfl) ?_
       refine Lp rfl (p_ext rfl rfl rfl) ?_
       refine Lw rfl (w_alloc zr42 rfl) ?_
       rintro _ _ ⟨b7, hb7, rfl, rfl⟩
       refine Ls (cs' := [_, _]) rfl sz42 rfl rfl rfl rfl rfl rfl rfl ?_
       refine La rfl rfl rfl ?_
       refine La rfl rfl rfl ?_
       refine L_then (kp [4, 7, 8, 12, 13, 14] rfl) ?_
       refine Vs rfl ?_
       refine Lm rfl rfl rfl ?_
       refine Lm rfl rfl rfl ?_
       refine L_yes rfl rfl rfl rfl (X_rd (rlA (vs := [_, _]) ag24 sz24 rfl rfl rfl) ?_)
       refine L_yes rfl rfl rfl rfl (X_p (p_fieldo fo33_0 rfl rfl) ?_)
       refine L_yes rfl rfl rfl rfl (X_rd (rl ag3 rfl rfl rfl) ?_)
       refine L_yes rfl rfl rfl rfl (X_p (p_move rfl rfl) ?_)
       first | refine L_yes rfl rfl rfl rfl (X_p (p_add' rfl rfl rfl (by unfold InI; omega)) ?_) | refine L_yes rfl rfl rfl rfl (X_p (p_add rfl rfl rfl) ?_)
       refine L_yes rfl rfl rfl rfl (X_wr (w_callP rfl rfl rfl (fun w hg => lhas_c (De.fallP p b).at_ _ hat w)) ?_)
       rintro _ _ ⟨rfl, rfl⟩
       refine Lp rfl (p_pick_t rfl rfl rfl rfl) ?_
       refine Lm rfl rfl rfl ?_
       refine L_yes rfl rfl rfl rfl (X_p (p_fieldo fo36_0 rfl rfl) ?_)
       refine L_yes rfl rfl rfl rfl (X_rd (rlA (vs := [_, _]) ag24 sz24 rfl rfl rfl) ?_)
       refine L_yes rfl rfl rfl rfl (X_p (p_fieldo fo42_0 rfl rfl) ?_)
       refine L_yes rfl rfl rfl rfl (X_rd (rl ag3 rfl rfl rfl) ?_)
       refine L_yes rfl rfl rfl rfl (X_wr (w_callP rfl rfl rfl (fun w hg => lhas_c (De.fallP p b).x _ hx w)) ?_)
       rintro _ _ ⟨rfl, rfl⟩
       refine Lp rfl (p_pick_t rfl rfl rfl rfl) ?_
       refine Lm rfl rfl rfl ?_
       refine L_yes rfl rfl rfl rfl (X_p (p_fieldo fo36_1 rfl rfl) ?_)
       refine L_yes rfl rfl rfl rfl (X_rd (rlA (vs := [_, _]) ag24 sz24 rfl rfl rfl) ?_)
       refine L_yes rfl rfl rfl rfl (X_p (p_fieldo fo42_1 rfl rfl) ?_)
       refine L_yes rfl rfl rfl rfl (X_rd (rl ag3 rfl rfl rfl) ?_)
       refine L_yes rfl rfl rfl rfl (X_wr (w_callP rfl rfl rfl (fun w hg => lhas_c (De.fallP p b).y _ hy w)) ?_)
       rintro _ _ ⟨rfl, rfl⟩
       refine Lp rfl (p_pick_t rfl rfl rfl rfl) ?_
       refine Lm rfl rfl rfl ?_
       refine L_yes rfl rfl rfl rfl (X_wr (w_callP rfl rfl rfl (fun w hg => dawake_c aF aL w (hE.good hg))) ?_)
       rintro _ _ ⟨rfl, rfl⟩
       refine Lp rfl (p_pick_t rfl rfl rfl rfl) ?_
       refine La rfl rfl rfl ?_
       refine L_then (kp [6] rfl) ?_
       refine V_ret ?_
       refine Leave.nil (.tmp rfl .nil) ?_
       rfl
     ·refine (.go (E' := [(9, _), (5, _), (1, _)]) rfl (.plain rfl) (w_alloc zr40 rfl) rfl ?_)
      rintro _ _ ⟨b6, hb6, rfl, rfl⟩
      refine ⟨(.cons rfl (.plain rfl) (rlA (vs := [_, _]) ag24 sz24 rfl rfl rfl) (.cons rfl (.plain rfl) (rlA (vs := [_, _]) ag24 sz24 rfl rfl rfl) (.cons rfl (.plain rfl) (rlA (vs := [_, _]) ag24 sz24 rfl rfl rfl) .nil))), ?_⟩
      refine D_wr (.go (E' := [(9, _), (5, _)]) rfl (.plain rfl) (w_callP rfl rfl rfl (fun w hg => lpick_c b.vx (by omega) l _ hl8 hll 3 (by omega) w (hS.good hg))) rfl ?_)
      rintro _ _ ⟨rfl, rfl⟩
      refine ⟨(.cons rfl (.plain rfl) (rlA (vs := [_, _]) ag24 sz24 rfl rfl rfl) (.cons rfl (.plain rfl) (rlA (vs := [_, _]) ag24 sz24 rfl rfl rfl) .nil)), ?_⟩
      refine D_wr (.go (E' := [(9, _)]) rfl (.plain rfl) (w_callP rfl rfl rfl (fun w hg => lpick_c b.vy (by omega) l _ hl8 hll 4 (by omega) w (hS.good hg))) rfl ?_)
      rintro _ _ ⟨rfl, rfl⟩
      refine ⟨(.cons rfl (.plain rfl) (rlA (vs := [_, _]) ag24 sz24 rfl rfl rfl) .nil), ?_⟩
      refine D_wr (.go (E' := []) rfl (.plain rfl) (w_callP rfl rfl rfl (fun w hg => lpick_c b.vz (by omega) l _ hl8 hll 5 (by omega) w (hS.good hg))) rfl ?_)
      rintro _ _ ⟨rfl, rfl⟩
      refine ⟨.nil, ?_⟩
      refine Dp rfl rfl (p_buildA (r := [_, _, _]) ar40 zr40 rfl rfl rfl) ?_
      refine D_wr (.go (E' := []) rfl (.plain rfl) (ws (cs' := [_, _, _]) sz40 rfl rfl rfl rfl rfl rfl rfl) rfl ?_)
      rintro _ _ ⟨rfl, rfl⟩
      refine ⟨.nil, ?_⟩
      refine D_then (kp [2, 3, 4, 7, 8, 10, 11] rfl) ?_
      refine Vs rfl ?_
      refine Lr rfl (rlA (vs := [_, _, _]) ag40 sz40 rfl rfl rfl) ?_
      refine Lr rfl (rlA (vs := [_, _, _]) ag40 sz40 rfl rfl rfl) ?_
      refine Lp rfl (p_fieldo fo26_1 rfl rfl) ?_
      refine Lr rfl (rlA (vs := [_, _]) ag24 sz24 rfl rfl rfl) ?_
      refine Lm rfl rfl rfl ?_
      refine Lc rfl rfl rfl rfl (fun w hg => lfalls_c (startP b l) p.grav hgr l _ hl8 hll m hm1 hm2 hmz hmb w (hS.good hg)) ?_
      refine Lm rfl rfl rfl ?_
      refine Lp rfl (p_ext rfl rfl rfl) ?_
      refine Lp rfl (p_ext rfl rfl rfl) ?_
      refine Lp rfl (p_ext rfl rfl rfl) ?_
      refine Lw rfl (w_alloc zr42 rfl) ?_
      rintro _ _ ⟨b7, hb7, rfl, rfl⟩
      refine Ls (cs' := [_, _]) rfl sz42 rfl rfl rfl rfl rfl rfl rfl ?_
      refine La rfl rfl rfl ?_
      refine La rfl rfl rfl ?_
      refine L_then (kp [4, 7, 8, 12, 13, 14] rfl) ?_
      refine Vs rfl ?_
      refine Lm rfl rfl rfl ?_
      refine Lm rfl rfl rfl ?_
      refine L_yes rfl rfl rfl rfl (X_rd (rlA (vs := [_, _]) ag24 sz24 rfl rfl rfl) ?_)
      refine L_yes rfl rfl rfl rfl (X_p (p_fieldo fo33_0 rfl rfl) ?_)
      refine L_yes rfl rfl rfl rfl (X_rd (rl ag3 rfl rfl rfl) ?_)
      refine L_yes rfl rfl rfl rfl (X_p (p_move rfl rfl) ?_)
      first | refine L_yes rfl rfl rfl rfl (X_p (p_add' rfl rfl rfl (by unfold InI; omega)) ?_) | refine L_yes rfl rfl rfl rfl (X_p (p_add rfl rfl rfl) ?_)
      refine L_yes rfl rfl rfl rfl (X_wr (w_callP rfl rfl rfl (fun w hg => lhas_c (De.fallP p b).at_ _ hat w)) ?_)
      rintro _ _ ⟨rfl, rfl⟩
      refine Lp rfl (p_pick_t rfl rfl rfl rfl) ?_
      refine Lm rfl rfl rfl ?_
      refine L_yes rfl rfl rfl rfl (X_p (p_fieldo fo36_0 rfl rfl) ?_)
      refine L_yes rfl rfl rfl rfl (X_rd (rlA (vs := [_, _]) ag24 sz24 rfl rfl rfl) ?_)
      refine L_yes rfl rfl rfl rfl (X_p (p_fieldo fo42_0 rfl rfl) ?_)
      refine L_yes rfl rfl rfl rfl (X_rd (rl ag3 rfl rfl rfl) ?_)
      refine L_yes rfl rfl rfl rfl (X_wr (w_callP rfl rfl rfl (fun w hg => lhas_c (De.fallP p b).x _ hx w)) ?_)
      rintro _ _ ⟨rfl, rfl⟩
      refine Lp rfl (p_pick_t rfl rfl rfl rfl) ?_
      refine Lm rfl rfl rfl ?_
      refine L_yes rfl rfl rfl rfl (X_p (p_fieldo fo36_1 rfl rfl) ?_)
      refine L_yes rfl rfl rfl rfl (X_rd (rlA (vs := [_, _]) ag24 sz24 rfl rfl rfl) ?_)
      refine L_yes rfl rfl rfl rfl (X_p (p_fieldo fo42_1 rfl rfl) ?_)
      refine L_yes rfl rfl rfl rfl (X_rd (rl ag3 rfl rfl rfl) ?_)
      refine L_yes rfl rfl rfl rfl (X_wr (w_callP rfl rfl rfl (fun w hg => lhas_c (De.fallP p b).y _ hy w)) ?_)
      rintro _ _ ⟨rfl, rfl⟩
      refine Lp rfl (p_pick_t rfl rfl rfl rfl) ?_
      refine Lm rfl rfl rfl ?_
      refine L_yes rfl rfl rfl rfl (X_wr (w_callP rfl rfl rfl (fun w hg => dawake_c aF aL w (hE.good hg))) ?_)
      rintro _ _ ⟨rfl, rfl⟩
      refine Lp rfl (p_pick_t rfl rfl rfl rfl) ?_
      refine La rfl rfl rfl ?_
      refine L_then (kp [6] rfl) ?_
      refine V_ret ?_
      refine Leave.nil (.tmp rfl .nil) ?_
      rfl
    ·refine (.go (E' := [(9, _)]) rfl (.plain rfl) (w_alloc zr40 rfl) rfl ?_)
     rintro _ _ ⟨b5, hb5, rfl, rfl⟩
     refine ⟨(.cons rfl (.plain rfl) (rlA (vs := [_, _]) ag24 sz24 rfl rfl rfl) .nil), ?_⟩
     refine D_wr (.go (E' := []) rfl (.plain rfl) (w_callP rfl rfl rfl (fun w hg => lpick_c b.z (by omega) l _ hl8 hll 2 (by omega) w (hS.good hg))) rfl ?_)
     rintro _ _ ⟨rfl, rfl⟩
     refine ⟨.nil, ?_⟩
     refine Dp rfl rfl (p_buildA (r := [_, _, _]) ar40 zr40 rfl rfl rfl) ?_
     refine D_wr (.go (E' := []) rfl (.plain rfl) (ws (cs' := [_, _, _]) sz40 rfl rfl rfl rfl rfl rfl rfl) rfl ?_)
     rintro _ _ ⟨rfl, rfl⟩
     refine ⟨.nil, ?_⟩
     refine D_then (kp [2, 3, 4, 7, 8, 10] rfl) ?_
     refine V_seq (V_draw (.rd 0 (.rd 1 (.rd 2 (.rd 4 (.rd 5 (.rd 6 (.rd 8 (.rd 9 (.rd 10 (.wr2 3 [10, 9, 8, 6, 5, 4, 0] (.wr2 7 [10, 9, 8, 4, 2, 1, 0] (.wr2 11 [8, 6, 5, 4, 2, 1, 0] (.rd 12 (.wr 13 [12, 10, 9, 8, 6, 5, 4, 2, 1, 0] (.wr 14 [] .done))) 13 [10, 9, 8, 6, 5, 4, 2, 1, 0] (.wr 11 [8, 6, 5, 4, 2, 1, 0] (.rd 12 (.wr 14 [] .done)))) 13 [10, 9, 8, 6, 5, 4, 2, 1, 0] (.wr 7 [10, 9, 8, 4, 2, 1, 0] (.wr 11 [8, 6, 5, 4, 2, 1, 0] (.rd 12 (.wr 14 [] .done))))) 13 [10, 9, 8, 6, 5, 4, 2, 1, 0] (.wr 3 [10, 9, 8, 6, 5, 4, 0] (.wr 7 [10, 9, 8, 4, 2, 1, 0] (.wr 11 [8, 6, 5, 4, 2, 1, 0] (.rd 12 (.wr 14 [] .done))))))))))))))) mixed (by kernel_rfl) rfl ?_)
     refine Dp rfl rfl (p_fieldo fo33_4 rfl rfl) ?_
     refine Dr rfl rfl (rlA (vs := [_, _]) ag24 sz24 rfl rfl rfl) ?_
     refine Dm rfl rfl rfl rfl ?_
     refine Dp rfl rfl (p_fieldo fo33_5 rfl rfl) ?_
     refine Dr rfl rfl (rlA (vs := [_, _]) ag24 sz24 rfl rfl rfl) ?_
     refine Dm rfl rfl rfl rfl ?_
     refine Dp rfl rfl (p_fieldo fo33_6 rfl rfl) ?_
     refine Dr rfl rfl (rlA (vs := [_, _]) ag24 sz24 rfl rfl rfl) ?_
     refine Dm rfl rfl rfl rfl ?_
     refine D_wr2 rfl ?_ ?_
     ·refine (.go (E' := [(9, _), (5, _)]) rfl (.plain rfl) (w_callP rfl rfl rfl (fun w hg => lpick_c b.vx (by omega) l _ hl8 hll 3 (by omega) w (hS.good hg))) rfl ?_)
      rintro _ _ ⟨rfl, rfl⟩
      refine ⟨(.cons rfl (.plain rfl) (rlA (vs := [_, _]) ag24 sz24 rfl rfl rfl) (.cons rfl (.plain rfl) (rlA (vs := [_, _]) ag24 sz24 rfl rfl rfl) .nil)), ?_⟩
      refine D_wr2 rfl ?_ ?_
      ·refine (.go (E' := [(9, _)]) rfl (.plain rfl) (w_callP rfl rfl rfl (fun w hg => lpick_c b.vy (by omega) l _ hl8 hll 4 (by omega) w (hS.good hg))) rfl ?_)
       rintro _ _ ⟨rfl, rfl⟩
       refine ⟨(.cons rfl (.plain rfl) (rlA (vs := [_, _]) ag24 sz24 rfl rfl rfl) .nil), ?_⟩
       refine D_wr2 rfl ?_ ?_
       ·refine (.go (E' := []) rfl (.plain rfl) (w_callP rfl rfl rfl (fun w hg => lpick_c b.vz (by omega) l _ hl8 hll 5 (by omega) w (hS.good hg))) rfl ?_)
        rintro _ _ ⟨rfl, rfl⟩
        refine ⟨.nil, ?_⟩
        refine Dp rfl rfl (p_buildA (r := [_, _, _]) ar40 zr40 rfl rfl rfl) ?_
        refine D_wr (.go (E' := []) rfl (.plain rfl) (w_alloc zr40 rfl) rfl ?_)
        rintro _ _ ⟨b6, hb6, rfl, rfl⟩
        refine ⟨.nil, ?_⟩
        refine D_wr (.go (E' := []) rfl (.plain rfl) (ws (cs' := [_, _, _]) sz40 rfl rfl rfl rfl rfl rfl rfl) rfl ?_)
        rintro _ _ ⟨rfl, rfl⟩
        refine ⟨.nil, ?_⟩
        refine D_then (kp [2, 3, 4, 7, 8, 10, 11] rfl) ?_
        refine Vs rfl ?_
        refine Lr rfl (rlA (vs := [_, _, _]) ag40 sz40 rfl rfl rfl) ?_
        refine Lr rfl (rlA (vs := [_, _, _]) ag40 sz40 rfl rfl rfl) ?_
        refine Lp rfl (p_fieldo fo26_1 rfl rfl) ?_
        refine Lr rfl (rlA (vs := [_, _]) ag24 sz24 rfl rfl rfl) ?_
        refine Lm rfl rfl rfl ?_
        refine Lc rfl rfl rfl rfl (fun w hg => lfalls_c (startP b l) p.grav hgr l _ hl8 hll m hm1 hm2 hmz hmb w (hS.good hg)) ?_
        refine Lm rfl rfl rfl ?_
        refine Lp rfl (p_ext rfl rfl rfl) ?_
        refine Lp rfl (p_ext rfl rfl rfl) ?_
        refine Lp rfl (p_ext rfl rfl rfl) ?_
        refine Lw rfl (w_alloc zr42 rfl) ?_
        rintro _ _ ⟨b7, hb7, rfl, rfl⟩
        refine Ls (cs' := [_, _]) rfl sz42 rfl rfl rfl rfl rfl rfl rfl ?_
        refine La rfl rfl rfl ?_
        refine La rfl rfl rfl ?_
        refine L_then (kp [4, 7, 8, 12, 13, 14] rfl) ?_
        refine Vs rfl ?_
        refine Lm rfl rfl rfl ?_
        refine Lm rfl rfl rfl ?_
        refine L_yes rfl rfl rfl rfl (X_rd (rlA (vs := [_, _]) ag24 sz24 rfl rfl rfl) ?_)
        refine L_yes rfl rfl rfl rfl (X_p (p_fieldo fo33_0 rfl rfl) ?_)
        refine L_yes rfl rfl rfl rfl (X_rd (rl ag3 rfl rfl rfl) ?_)
        refine L_yes rfl rfl rfl rfl (X_p (p_move rfl rfl) ?_)
        first | refine L_yes rfl rfl rfl rfl (X_p (p_add' rfl rfl rfl (by unfold InI; omega)) ?_) | refine L_yes rfl rfl rfl rfl (X_p (p_add rfl rfl rfl) ?_)
        refine L_yes rfl rfl rfl rfl (X_wr (w_callP rfl rfl rfl (fun w hg => lhas_c (De.fallP p b).at_ _ hat w)) ?_)
        rintro _ _ ⟨rfl, rfl⟩
        refine Lp rfl (p_pick_t rfl rfl rfl rfl) ?_
        refine Lm rfl rfl rfl ?_
        refine L_yes rfl rfl rfl rfl (X_p (p_fieldo fo36_0 rfl rfl) ?_)
        refine L_yes rfl rfl rfl rfl (X_rd (rlA (vs := [_, _]) ag24 sz24 rfl rfl rfl) ?_)
        refine L_yes rfl rfl rfl rfl (X_p (p_fieldo fo42_0 rfl rfl) ?_)
        refine L_yes rfl rfl rfl rfl (X_rd (rl ag3 rfl rfl rfl) ?_)
        refine L_yes rfl rfl rfl rfl (X_wr (w_callP rfl rfl rfl (fun w hg => lhas_c (De.fallP p b).x _ hx w)) ?_)
        rintro _ _ ⟨rfl, rfl⟩
        refine Lp rfl (p_pick_t rfl rfl rfl rfl) ?_
        refine Lm rfl rfl rfl ?_
        refine L_yes rfl rfl rfl rfl (X_p (p_fieldo fo36_1 rfl rfl) ?_)
        refine L_yes rfl rfl rfl rfl (X_rd (rlA (vs := [_, _]) ag24 sz24 rfl rfl rfl) ?_)
        refine L_yes rfl rfl rfl rfl (X_p (p_fieldo fo42_1 rfl rfl) ?_)
        refine L_yes rfl rfl rfl rfl (X_rd (rl ag3 rfl rfl rfl) ?_)
        refine L_yes rfl rfl rfl rfl (X_wr (w_callP rfl rfl rfl (fun w hg => lhas_c (De.fallP p b).y _ hy w)) ?_)
        rintro _ _ ⟨rfl, rfl⟩
        refine Lp rfl (p_pick_t rfl rfl rfl rfl) ?_
        refine Lm rfl rfl rfl ?_
        refine L_yes rfl rfl rfl rfl (X_wr (w_callP rfl rfl rfl (fun w hg => dawake_c aF aL w (hE.good hg))) ?_)
        rintro _ _ ⟨rfl, rfl⟩
        refine Lp rfl (p_pick_t rfl rfl rfl rfl) ?_
        refine La rfl rfl rfl ?_
        refine L_then (kp [6] rfl) ?_
        refine V_ret ?_
        refine Leave.nil (.tmp rfl .nil) ?_
        rfl
       ·refine (.go (E' := [(9, _)]) rfl (.plain rfl) (w_alloc zr40 rfl) rfl ?_)
        rintro _ _ ⟨b6, hb6, rfl, rfl⟩
        refine ⟨(.cons rfl (.plain rfl) (rlA (vs := [_, _]) ag24 sz24 rfl rfl rfl) .nil), ?_⟩
        refine D_wr (.go (E' := []) rfl (.plain rfl) (w_callP rfl rfl rfl (fun w hg => lpick_c b.vz (by omega) l _ hl8 hll 5 (by omega) w (hS.good hg))) rfl ?_)
        rintro _ _ ⟨rfl, rfl⟩
        refine ⟨.nil, ?_⟩
        refine Dp rfl rfl (p_buildA (r := [_, _, _]) ar40 zr40 rfl rfl rfl) ?_
        refine D_wr (.go (E' := []) rfl (.plain rfl) (ws (cs' := [_, _, _]) sz40 rfl rfl rfl rfl rfl rfl rfl) rfl ?_)
        rintro _ _ ⟨rfl, rfl⟩
        refine ⟨.nil, ?_⟩
        refine D_then (kp [2, 3, 4, 7, 8, 10, 11] rfl) ?_
        refine Vs rfl ?_
        refine Lr rfl (rlA (vs := [_, _, _]) ag40 sz40 rfl rfl rfl) ?_
        refine Lr rfl (rlA (vs := [_, _, _]) ag40 sz40 rfl rfl rfl) ?_
        refine Lp rfl (p_fieldo fo26_1 rfl rfl) ?_
        refine Lr rfl (rlA (vs := [_, _]) ag24 sz24 rfl rfl rfl) ?_
        refine Lm rfl rfl rfl ?_
        refine Lc rfl rfl rfl rfl (fun w hg => lfalls_c (startP b l) p.grav hgr l _ hl8 hll m hm1 hm2 hmz hmb w (hS.good hg)) ?_
        refine Lm rfl rfl rfl ?_
        refine Lp rfl (p_ext rfl rfl rfl) ?_
        refine Lp rfl (p_ext rfl rfl rfl) ?_
        refine Lp rfl (p_ext rfl rfl rfl) ?_
        refine Lw rfl (w_alloc zr42 rfl) ?_
        rintro _ _ ⟨b7, hb7, rfl, rfl⟩
        refine Ls (cs' := [_, _]) rfl sz42 rfl rfl rfl rfl rfl rfl rfl ?_
        refine La rfl rfl rfl ?_
        refine La rfl rfl rfl ?_
        refine L_then (kp [4, 7, 8, 12, 13, 14] rfl) ?_
        refine Vs rfl ?_
        refine Lm rfl rfl rfl ?_
        refine Lm rfl rfl rfl ?_
        refine L_yes rfl rfl rfl rfl (X_rd (rlA (vs := [_, _]) ag24 sz24 rfl rfl rfl) ?_)
        refine L_yes rfl rfl rfl rfl (X_p (p_fieldo fo33_0 rfl rfl) ?_)
        refine L_yes rfl rfl rfl rfl (X_rd (rl ag3 rfl rfl rfl) ?_)
        refine L_yes rfl rfl rfl rfl (X_p (p_move rfl rfl) ?_)
        first | refine L_yes rfl rfl rfl rfl (X_p (p_add' rfl rfl rfl (by unfold InI; omega)) ?_) | refine L_yes rfl rfl rfl rfl (X_p (p_add rfl rfl rfl) ?_)
        refine L_yes rfl rfl rfl rfl (X_wr (w_callP rfl rfl rfl (fun w hg => lhas_c (De.fallP p b).at_ _ hat w)) ?_)
        rintro _ _ ⟨rfl, rfl⟩
        refine Lp rfl (p_pick_t rfl rfl rfl rfl) ?_
        refine Lm rfl rfl rfl ?_
        refine L_yes rfl rfl rfl rfl (X_p (p_fieldo fo36_0 rfl rfl) ?_)
        refine L_yes rfl rfl rfl rfl (X_rd (rlA (vs := [_, _]) ag24 sz24 rfl rfl rfl) ?_)
        refine L_yes rfl rfl rfl rfl (X_p (p_fieldo fo42_0 rfl rfl) ?_)
        refine L_yes rfl rfl rfl rfl (X_rd (rl ag3 rfl rfl rfl) ?_)
        refine L_yes rfl rfl rfl rfl (X_wr (w_callP rfl rfl rfl (fun w hg => lhas_c (De.fallP p b).x _ hx w)) ?_)
        rintro _ _ ⟨rfl, rfl⟩
        refine Lp rfl (p_pick_t rfl rfl rfl rfl) ?_
        refine Lm rfl rfl rfl ?_
        refine L_yes rfl rfl rfl rfl (X_p (p_fieldo fo36_1 rfl rfl) ?_)
        refine L_yes rfl rfl rfl rfl (X_rd (rlA (vs := [_, _]) ag24 sz24 rfl rfl rfl) ?_)
        refine L_yes rfl rfl rfl rfl (X_p (p_fieldo fo42_1 rfl rfl) ?_)
        refine L_yes rfl rfl rfl rfl (X_rd (rl ag3 rfl rfl rfl) ?_)
        refine L_yes rfl rfl rfl rfl (X_wr (w_callP rfl rfl rfl (fun w hg => lhas_c (De.fallP p b).y _ hy w)) ?_)
        rintro _ _ ⟨rfl, rfl⟩
        refine Lp rfl (p_pick_t rfl rfl rfl rfl) ?_
        refine Lm rfl rfl rfl ?_
        refine L_yes rfl rfl rfl rfl (X_wr (w_callP rfl rfl rfl (fun w hg => dawake_c aF aL w (hE.good hg))) ?_)
        rintro _ _ ⟨rfl, rfl⟩
        refine Lp rfl (p_pick_t rfl rfl rfl rfl) ?_
        refine La rfl rfl rfl ?_
        refine L_then (kp [6] rfl) ?_
        refine V_ret ?_
        refine Leave.nil (.tmp rfl .nil) ?_
        rfl
      ·refine (.go (E' := [(9, _), (5, _)]) rfl (.plain rfl) (w_alloc zr40 rfl) rfl ?_)
       rintro _ _ ⟨b6, hb6, rfl, rfl⟩
       refine ⟨(.cons rfl (.plain rfl) (rlA (vs := [_, _]) ag24 sz24 rfl rfl rfl) (.cons rfl (.plain rfl) (rlA (vs := [_, _]) ag24 sz24 rfl rfl rfl) .nil)), ?_⟩
       refine D_wr (.go (E' := [(9, _)]) rfl (.plain rfl) (w_callP rfl rfl rfl (fun w hg => lpick_c b.vy (by omega) l _ hl8 hll 4 (by omega) w (hS.good hg))) rfl ?_)
       rintro _ _ ⟨rfl, rfl⟩
       refine ⟨(.cons rfl (.plain rfl) (rlA (vs := [_, _]) ag24 sz24 rfl rfl rfl) .nil), ?_⟩
       refine D_wr (.go (E' := []) rfl (.plain rfl) (w_callP rfl rfl rfl (fun w hg => lpick_c b.vz (by omega) l _ hl8 hll 5 (by omega) w (hS.good hg))) rfl ?_)
       rintro _ _ ⟨rfl, rfl⟩
       refine ⟨.nil, ?_⟩
       refine Dp rfl rfl (p_buildA (r := [_, _, _]) ar40 zr40 rfl rfl rfl) ?_
       refine D_wr (.go (E' := []) rfl (.plain rfl) (ws (cs' := [_, _, _]) sz40 rfl rfl rfl rfl rfl rfl rfl) rfl ?_)
       rintro _ _ ⟨rfl, rfl⟩
       refine ⟨.nil, ?_⟩
       refine D_then (kp [2, 3, 4, 7, 8, 10, 11] rfl) ?_
       refine Vs rfl ?_
       refine Lr rfl (rlA (vs := [_, _, _]) ag40 sz40 rfl rfl rfl) ?_
       refine Lr rfl (rlA (vs := [_, _, _]) ag40 sz40 rfl rfl rfl) ?_
       refine Lp rfl (p_fieldo fo26_1 rfl rfl) ?_
       refine Lr rfl (rlA (vs := [_, _]) ag24 sz24 rfl rfl rfl) ?_
       refine Lm rfl rfl rfl ?_
       refine Lc rfl rfl rfl rfl (fun w hg => lfalls_c (startP b l) p.grav hgr l _ hl8 hll m hm1 hm2 hmz hmb w (hS.good hg)) ?_
       refine Lm rfl rfl rfl ?_
       refine Lp rfl (p_ext rfl rfl rfl) ?_
       refine Lp rfl (p_ext rfl rfl rfl) ?_
       refine Lp rfl (p_ext rfl rfl rfl) ?_
       refine Lw rfl (w_alloc zr42 rfl) ?_
       rintro _ _ ⟨b7, hb7, rfl, rfl⟩
       refine Ls (cs' := [_, _]) rfl sz42 rfl rfl rfl rfl rfl rfl rfl ?_
       refine La rfl rfl rfl ?_
       refine La rfl rfl rfl ?_
       refine L_then (kp [4, 7, 8, 12, 13, 14] rfl) ?_
       refine Vs rfl ?_
       refine Lm rfl rfl rfl ?_
       refine Lm rfl rfl rfl ?_
       refine L_yes rfl rfl rfl rfl (X_rd (rlA (vs := [_, _]) ag24 sz24 rfl rfl rfl) ?_)
       refine L_yes rfl rfl rfl rfl (X_p (p_fieldo fo33_0 rfl rfl) ?_)
       refine L_yes rfl rfl rfl rfl (X_rd (rl ag3 rfl rfl rfl) ?_)
       refine L_yes rfl rfl rfl rfl (X_p (p_move rfl rfl) ?_)
       first | refine L_yes rfl rfl rfl rfl (X_p (p_add' rfl rfl rfl (by unfold InI; omega)) ?_) | refine L_yes rfl rfl rfl rfl (X_p (p_add rfl rfl rfl) ?_)
       refine L_yes rfl rfl rfl rfl (X_wr (w_callP rfl rfl rfl (fun w hg => lhas_c (De.fallP p b).at_ _ hat w)) ?_)
       rintro _ _ ⟨rfl, rfl⟩
       refine Lp rfl (p_pick_t rfl rfl rfl rfl) ?_
       refine Lm rfl rfl rfl ?_
       refine L_yes rfl rfl rfl rfl (X_p (p_fieldo fo36_0 rfl rfl) ?_)
       refine L_yes rfl rfl rfl rfl (X_rd (rlA (vs := [_, _]) ag24 sz24 rfl rfl rfl) ?_)
       refine L_yes rfl rfl rfl rfl (X_p (p_fieldo fo42_0 rfl rfl) ?_)
       refine L_yes rfl rfl rfl rfl (X_rd (rl ag3 rfl rfl rfl) ?_)
       refine L_yes rfl rfl rfl rfl (X_wr (w_callP rfl rfl rfl (fun w hg => lhas_c (De.fallP p b).x _ hx w)) ?_)
       rintro _ _ ⟨rfl, rfl⟩
       refine Lp rfl (p_pick_t rfl rfl rfl rfl) ?_
       refine Lm rfl rfl rfl ?_
       refine L_yes rfl rfl rfl rfl (X_p (p_fieldo fo36_1 rfl rfl) ?_)
       refine L_yes rfl rfl rfl rfl (X_rd (rlA (vs := [_, _]) ag24 sz24 rfl rfl rfl) ?_)
       refine L_yes rfl rfl rfl rfl (X_p (p_fieldo fo42_1 rfl rfl) ?_)
       refine L_yes rfl rfl rfl rfl (X_rd (rl ag3 rfl rfl rfl) ?_)
       refine L_yes rfl rfl rfl rfl (X_wr (w_callP rfl rfl rfl (fun w hg => lhas_c (De.fallP p b).y _ hy w)) ?_)
       rintro _ _ ⟨rfl, rfl⟩
       refine Lp rfl (p_pick_t rfl rfl rfl rfl) ?_
       refine Lm rfl rfl rfl ?_
       refine L_yes rfl rfl rfl rfl (X_wr (w_callP rfl rfl rfl (fun w hg => dawake_c aF aL w (hE.good hg))) ?_)
       rintro _ _ ⟨rfl, rfl⟩
       refine Lp rfl (p_pick_t rfl rfl rfl rfl) ?_
       refine La rfl rfl rfl ?_
       refine L_then (kp [6] rfl) ?_
       refine V_ret ?_
       refine Leave.nil (.tmp rfl .nil) ?_
       rfl
     ·refine (.go (E' := [(9, _), (5, _), (1, _)]) rfl (.plain rfl) (w_alloc zr40 rfl) rfl ?_)
      rintro _ _ ⟨b6, hb6, rfl, rfl⟩
      refine ⟨(.cons rfl (.plain rfl) (rlA (vs := [_, _]) ag24 sz24 rfl rfl rfl) (.cons rfl (.plain rfl) (rlA (vs := [_, _]) ag24 sz24 rfl rfl rfl) (.cons rfl (.plain rfl) (rlA (vs := [_, _]) ag24 sz24 rfl rfl rfl) .nil))), ?_⟩
      refine D_wr (.go (E' := [(9, _), (5, _)]) rfl (.plain rfl) (w_callP rfl rfl rfl (fun w hg => lpick_c b.vx (by omega) l _ hl8 hll 3 (by omega) w (hS.good hg))) rfl ?_)
      rintro _ _ ⟨rfl, rfl⟩
      refine ⟨(.cons rfl (.plain rfl) (rlA (vs := [_, _]) ag24 sz24 rfl rfl rfl) (.cons rfl (.plain rfl) (rlA (vs := [_, _]) ag24 sz24 rfl rfl rfl) .nil)), ?_⟩
      refine D_wr (.go (E' := [(9, _)]) rfl (.plain rfl) (w_callP rfl rfl rfl (fun w hg => lpick_c b.vy (by omega) l _ hl8 hll 4 (by omega) w (hS.good hg))) rfl ?_)
      rintro _ _ ⟨rfl, rfl⟩
      refine ⟨(.cons rfl (.plain rfl) (rlA (vs := [_, _]) ag24 sz24 rfl rfl rfl) .nil), ?_⟩
      refine D_wr (.go (E' := []) rfl (.plain rfl) (w_callP rfl rfl rfl (fun w hg => lpick_c b.vz (by omega) l _ hl8 hll 5 (by omega) w (hS.good hg))) rfl ?_)
      rintro _ _ ⟨rfl, rfl⟩
      refine ⟨.nil, ?_⟩
      refine Dp rfl rfl (p_buildA (r := [_, _, _]) ar40 zr40 rfl rfl rfl) ?_
      refine D_wr (.go (E' := []) rfl (.plain rfl) (ws (cs' := [_, _, _]) sz40 rfl rfl rfl rfl rfl rfl rfl) rfl ?_)
      rintro _ _ ⟨rfl, rfl⟩
      refine ⟨.nil, ?_⟩
      refine D_then (kp [2, 3, 4, 7, 8, 10, 11] rfl) ?_
      refine Vs rfl ?_
      refine Lr rfl (rlA (vs := [_, _, _]) ag40 sz40 rfl rfl rfl) ?_
      refine Lr rfl (rlA (vs := [_, _, _]) ag40 sz40 rfl rfl rfl) ?_
      refine Lp rfl (p_fieldo fo26_1 rfl rfl) ?_
      refine Lr rfl (rlA (vs := [_, _]) ag24 sz24 rfl rfl rfl) ?_
      refine Lm rfl rfl rfl ?_
      refine Lc rfl rfl rfl rfl (fun w hg => lfalls_c (startP b l) p.grav hgr l _ hl8 hll m hm1 hm2 hmz hmb w (hS.good hg)) ?_
      refine Lm rfl rfl rfl ?_
      refine Lp rfl (p_ext rfl rfl rfl) ?_
      refine Lp rfl (p_ext rfl rfl rfl) ?_
      refine Lp rfl (p_ext rfl rfl rfl) ?_
      refine Lw rfl (w_alloc zr42 rfl) ?_
      rintro _ _ ⟨b7, hb7, rfl, rfl⟩
      refine Ls (cs' := [_, _]) rfl sz42 rfl rfl rfl rfl rfl rfl rfl ?_
      refine La rfl rfl rfl ?_
      refine La rfl rfl rfl ?_
      refine L_then (kp [4, 7, 8, 12, 13, 14] rfl) ?_
      refine Vs rfl ?_
      refine Lm rfl rfl rfl ?_
      refine Lm rfl rfl rfl ?_
      refine L_yes rfl rfl rfl rfl (X_rd (rlA (vs := [_, _]) ag24 sz24 rfl rfl rfl) ?_)
      refine L_yes rfl rfl rfl rfl (X_p (p_fieldo fo33_0 rfl rfl) ?_)
      refine L_yes rfl rfl rfl rfl (X_rd (rl ag3 rfl rfl rfl) ?_)
      refine L_yes rfl rfl rfl rfl (X_p (p_move rfl rfl) ?_)
      first | refine L_yes rfl rfl rfl rfl (X_p (p_add' rfl rfl rfl (by unfold InI; omega)) ?_) | refine L_yes rfl rfl rfl rfl (X_p (p_add rfl rfl rfl) ?_)
      refine L_yes rfl rfl rfl rfl (X_wr (w_callP rfl rfl rfl (fun w hg => lhas_c (De.fallP p b).at_ _ hat w)) ?_)
      rintro _ _ ⟨rfl, rfl⟩
      refine Lp rfl (p_pick_t rfl rfl rfl rfl) ?_
      refine Lm rfl rfl rfl ?_
      refine L_yes rfl rfl rfl rfl (X_p (p_fieldo fo36_0 rfl rfl) ?_)
      refine L_yes rfl rfl rfl rfl (X_rd (rlA (vs := [_, _]) ag24 sz24 rfl rfl rfl) ?_)
      refine L_yes rfl rfl rfl rfl (X_p (p_fieldo fo42_0 rfl rfl) ?_)
      refine L_yes rfl rfl rfl rfl (X_rd (rl ag3 rfl rfl rfl) ?_)
      refine L_yes rfl rfl rfl rfl (X_wr (w_callP rfl rfl rfl (fun w hg => lhas_c (De.fallP p b).x _ hx w)) ?_)
      rintro _ _ ⟨rfl, rfl⟩
      refine Lp rfl (p_pick_t rfl rfl rfl rfl) ?_
      refine Lm rfl rfl rfl ?_
      refine L_yes rfl rfl rfl rfl (X_p (p_fieldo fo36_1 rfl rfl) ?_)
      refine L_yes rfl rfl rfl rfl (X_rd (rlA (vs := [_, _]) ag24 sz24 rfl rfl rfl) ?_)
      refine L_yes rfl rfl rfl rfl (X_p (p_fieldo fo42_1 rfl rfl) ?_)
      refine L_yes rfl rfl rfl rfl (X_rd (rl ag3 rfl rfl rfl) ?_)
      refine L_yes rfl rfl rfl rfl (X_wr (w_callP rfl rfl rfl (fun w hg => lhas_c (De.fallP p b).y _ hy w)) ?_)
      rintro _ _ ⟨rfl, rfl⟩
      refine Lp rfl (p_pick_t rfl rfl rfl rfl) ?_
      refine Lm rfl rfl rfl ?_
      refine L_yes rfl rfl rfl rfl (X_wr (w_callP rfl rfl rfl (fun w hg => dawake_c aF aL w (hE.good hg))) ?_)
      rintro _ _ ⟨rfl, rfl⟩
      refine Lp rfl (p_pick_t rfl rfl rfl rfl) ?_
      refine La rfl rfl rfl ?_
      refine L_then (kp [6] rfl) ?_
      refine V_ret ?_
      refine Leave.nil (.tmp rfl .nil) ?_
      rfl
   ·refine (.go (E' := [(9, _), (5, _)]) rfl (.plain rfl) (w_alloc zr40 rfl) rfl ?_)
    rintro _ _ ⟨b5, hb5, rfl, rfl⟩
    refine ⟨(.cons rfl (.plain rfl) (rlA (vs := [_, _]) ag24 sz24 rfl rfl rfl) (.cons rfl (.plain rfl) (rlA (vs := [_, _]) ag24 sz24 rfl rfl rfl) .nil)), ?_⟩
    refine D_wr (.go (E' := [(9, _)]) rfl (.plain rfl) (w_callP rfl rfl rfl (fun w hg => lpick_c b.y (by omega) l _ hl8 hll 1 (by omega) w (hS.good hg))) rfl ?_)
    rintro _ _ ⟨rfl, rfl⟩
    refine ⟨(.cons rfl (.plain rfl) (rlA (vs := [_, _]) ag24 sz24 rfl rfl rfl) .nil), ?_⟩
    refine D_wr (.go (E' := []) rfl (.plain rfl) (w_callP rfl rfl rfl (fun w hg => lpick_c b.z (by omega) l _ hl8 hll 2 (by omega) w (hS.good hg))) rfl ?_)
    rintro _ _ ⟨rfl, rfl⟩
    refine ⟨.nil, ?_⟩
    refine Dp rfl rfl (p_buildA (r := [_, _, _]) ar40 zr40 rfl rfl rfl) ?_
    refine D_wr (.go (E' := []) rfl (.plain rfl) (ws (cs' := [_, _, _]) sz40 rfl rfl rfl rfl rfl rfl rfl) rfl ?_)
    rintro _ _ ⟨rfl, rfl⟩
    refine ⟨.nil, ?_⟩
    refine D_then (kp [2, 3, 4, 7, 8, 10] rfl) ?_
    refine V_seq (V_draw (.rd 0 (.rd 1 (.rd 2 (.rd 4 (.rd 5 (.rd 6 (.rd 8 (.rd 9 (.rd 10 (.wr2 3 [10, 9, 8, 6, 5, 4, 0] (.wr2 7 [10, 9, 8, 4, 2, 1, 0] (.wr2 11 [8, 6, 5, 4, 2, 1, 0] (.rd 12 (.wr 13 [12, 10, 9, 8, 6, 5, 4, 2, 1, 0] (.wr 14 [] .done))) 13 [10, 9, 8, 6, 5, 4, 2, 1, 0] (.wr 11 [8, 6, 5, 4, 2, 1, 0] (.rd 12 (.wr 14 [] .done)))) 13 [10, 9, 8, 6, 5, 4, 2, 1, 0] (.wr 7 [10, 9, 8, 4, 2, 1, 0] (.wr 11 [8, 6, 5, 4, 2, 1, 0] (.rd 12 (.wr 14 [] .done))))) 13 [10, 9, 8, 6, 5, 4, 2, 1, 0] (.wr 3 [10, 9, 8, 6, 5, 4, 0] (.wr 7 [10, 9, 8, 4, 2, 1, 0] (.wr 11 [8, 6, 5, 4, 2, 1, 0] (.rd 12 (.wr 14 [] .done))))))))))))))) mixed (by kernel_rfl) rfl ?_)
    refine Dp rfl rfl (p_fieldo fo33_4 rfl rfl) ?_
    refine Dr rfl rfl (rlA (vs := [_, _]) ag24 sz24 rfl rfl rfl) ?_
    refine Dm rfl rfl rfl rfl ?_
    refine Dp rfl rfl (p_fieldo fo33_5 rfl rfl) ?_
    refine Dr rfl rfl (rlA (vs := [_, _]) ag24 sz24 rfl rfl rfl) ?_
    refine Dm rfl rfl rfl rfl ?_
    refine Dp rfl rfl (p_fieldo fo33_6 rfl rfl) ?_
    refine Dr rfl rfl (rlA (vs := [_, _]) ag24 sz24 rfl rfl rfl) ?_
    refine Dm rfl rfl rfl rfl ?_
    refine D_wr2 rfl ?_ ?_
    ·refine (.go (E' := [(9, _), (5, _)]) rfl (.plain rfl) (w_callP rfl rfl rfl (fun w hg => lpick_c b.vx (by omega) l _ hl8 hll 3 (by omega) w (hS.good hg))) rfl ?_)
     rintro _ _ ⟨rfl, rfl⟩
     refine ⟨(.cons rfl (.plain rfl) (rlA (vs := [_, _]) ag24 sz24 rfl rfl rfl) (.cons rfl (.plain rfl) (rlA (vs := [_, _]) ag24 sz24 rfl rfl rfl) .nil)), ?_⟩
     refine D_wr2 rfl ?_ ?_
     ·refine (.go (E' := [(9, _)]) rfl (.plain rfl) (w_callP rfl rfl rfl (fun w hg => lpick_c b.vy (by omega) l _ hl8 hll 4 (by omega) w (hS.good hg))) rfl ?_)
      rintro _ _ ⟨rfl, rfl⟩
      refine ⟨(.cons rfl (.plain rfl) (rlA (vs := [_, _]) ag24 sz24 rfl rfl rfl) .nil), ?_⟩
      refine D_wr2 rfl ?_ ?_
      ·refine (.go (E' := []) rfl (.plain rfl) (w_callP rfl rfl rfl (fun w hg => lpick_c b.vz (by omega) l _ hl8 hll 5 (by omega) w (hS.good hg))) rfl ?_)
       rintro _ _ ⟨rfl, rfl⟩
       refine ⟨.nil, ?_⟩
       refine Dp rfl rfl (p_buildA (r := [_, _, _]) ar40 zr40 rfl rfl rfl) ?_
       refine D_wr (.go (E' := []) rfl (.plain rfl) (w_alloc zr40 rfl) rfl ?_)
       rintro _ _ ⟨b6, hb6, rfl, rfl⟩
       refine ⟨.nil, ?_⟩
       refine D_wr (.go (E' := []) rfl (.plain rfl) (ws (cs' := [_, _, _]) sz40 rfl rfl rfl rfl rfl rfl rfl) rfl ?_)
       rintro _ _ ⟨rfl, rfl⟩
       refine ⟨.nil, ?_⟩
       refine D_then (kp [2, 3, 4, 7, 8, 10, 11] rfl) ?_
       refine Vs rfl ?_
       refine Lr rfl (rlA (vs := [_, _, _]) ag40 sz40 rfl rfl rfl) ?_
       refine Lr rfl (rlA (vs := [_, _, _]) ag40 sz40 rfl rfl rfl) ?_
       refine Lp rfl (p_fieldo fo26_1 rfl rfl) ?_
       refine Lr rfl (rlA (vs := [_, _]) ag24 sz24 rfl rfl rfl) ?_
       refine Lm rfl rfl rfl ?_
       refine Lc rfl rfl rfl rfl (fun w hg => lfalls_c (startP b l) p.grav hgr l _ hl8 hll m hm1 hm2 hmz hmb w (hS.good hg)) ?_
       refine Lm rfl rfl rfl ?_
       refine Lp rfl (p_ext rfl rfl rfl) ?_
       refine Lp rfl (p_ext rfl rfl rfl) ?_
       refine Lp rfl (p_ext rfl rfl rfl) ?_
       refine Lw rfl (w_alloc zr42 rfl) ?_
       rintro _ _ ⟨b7, hb7, rfl, rfl⟩
       refine Ls (cs' := [_, _]) rfl sz42 rfl rfl rfl rfl rfl rfl rfl ?_
       refine La rfl rfl rfl ?_
       refine La rfl rfl rfl ?_
       refine L_then (kp [4, 7, 8, 12, 13, 14] rfl) ?_
       refine Vs rfl ?_
       refine Lm rfl rfl rfl ?_
       refine Lm rfl rfl rfl ?_
       refine L_yes rfl rfl rfl rfl (X_rd (rlA (vs := [_, _]) ag24 sz24 rfl rfl rfl) ?_)
       refine L_yes rfl rfl rfl rfl (X_p (p_fieldo fo33_0 rfl rfl) ?_)
       refine L_yes rfl rfl rfl rfl (X_rd (rl ag3 rfl rfl rfl) ?_)
       refine L_yes rfl rfl rfl rfl (X_p (p_move rfl rfl) ?_)
       first | refine L_yes rfl rfl rfl rfl (X_p (p_add' rfl rfl rfl (by unfold InI; omega)) ?_) | refine L_yes rfl rfl rfl rfl (X_p (p_add rfl rfl rfl) ?_)
       refine L_yes rfl rfl rfl rfl (X_wr (w_callP rfl rfl rfl (fun w hg => lhas_c (De.fallP p b).at_ _ hat w)) ?_)
       rintro _ _ ⟨rfl, rfl⟩
       refine Lp rfl (p_pick_t rfl rfl rfl rfl) ?_
       refine Lm rfl rfl rfl ?_
       refine L_yes rfl rfl rfl rfl (X_p (p_fieldo fo36_0 rfl rfl) ?_)
       refine L_yes rfl rfl rfl rfl (X_rd (rlA (vs := [_, _]) ag24 sz24 rfl rfl rfl) ?_)
       refine L_yes rfl rfl rfl rfl (X_p (p_fieldo fo42_0 rfl rfl) ?_)
       refine L_yes rfl rfl rfl rfl (X_rd (rl ag3 rfl rfl rfl) ?_)
       refine L_yes rfl rfl rfl rfl (X_wr (w_callP rfl rfl rfl (fun w hg => lhas_c (De.fallP p b).x _ hx w)) ?_)
       rintro _ _ ⟨rfl, rfl⟩
       refine Lp rfl (p_pick_t rfl rfl rfl rfl) ?_
       refine Lm rfl rfl rfl ?_
       refine L_yes rfl rfl rfl rfl (X_p (p_fieldo fo36_1 rfl rfl) ?_)
       refine L_yes rfl rfl rfl rfl (X_rd (rlA (vs := [_, _]) ag24 sz24 rfl rfl rfl) ?_)
       refine L_yes rfl rfl rfl rfl (X_p (p_fieldo fo42_1 rfl rfl) ?_)
       refine L_yes rfl rfl rfl rfl (X_rd (rl ag3 rfl rfl rfl) ?_)
       refine L_yes rfl rfl rfl rfl (X_wr (w_callP rfl rfl rfl (fun w hg => lhas_c (De.fallP p b).y _ hy w)) ?_)
       rintro _ _ ⟨rfl, rfl⟩
       refine Lp rfl (p_pick_t rfl rfl rfl rfl) ?_
       refine Lm rfl rfl rfl ?_
       refine L_yes rfl rfl rfl rfl (X_wr (w_callP rfl rfl rfl (fun w hg => dawake_c aF aL w (hE.good hg))) ?_)
       rintro _ _ ⟨rfl, rfl⟩
       refine Lp rfl (p_pick_t rfl rfl rfl rfl) ?_
       refine La rfl rfl rfl ?_
       refine L_then (kp [6] rfl) ?_
       refine V_ret ?_
       refine Leave.nil (.tmp rfl .nil) ?_
       rfl
      ·refine (.go (E' := [(9, _)]) rfl (.plain rfl) (w_alloc zr40 rfl) rfl ?_)
       rintro _ _ ⟨b6, hb6, rfl, rfl⟩
       refine ⟨(.cons rfl (.plain rfl) (rlA (vs := [_, _]) ag24 sz24 rfl rfl rfl) .nil), ?_⟩
       refine D_wr (.go (E' := []) rfl (.plain rfl) (w_callP rfl rfl rfl (fun w hg => lpick_c b.vz (by omega) l _ hl8 hll 5 (by omega) w (hS.good hg))) rfl ?_)
       rintro _ _ ⟨rfl, rfl⟩
       refine ⟨.nil, ?_⟩
       refine Dp rfl rfl (p_buildA (r := [_, _, _]) ar40 zr40 rfl rfl rfl) ?_
       refine D_wr (.go (E' := []) rfl (.plain rfl) (ws (cs' := [_, _, _]) sz40 rfl rfl rfl rfl rfl rfl rfl) rfl ?_)
       rintro _ _ ⟨rfl, rfl⟩
       refine ⟨.nil, ?_⟩
       refine D_then (kp [2, 3, 4, 7, 8, 10, 11] rfl) ?_
       refine Vs rfl ?_
       refine Lr rfl (rlA (vs := [_, _, _]) ag40 sz40 rfl rfl rfl) ?_
       refine Lr rfl (rlA (vs := [_, _, _]) ag40 sz40 rfl rfl rfl) ?_
       refine Lp rfl (p_fieldo fo26_1 rfl rfl) ?_
       refine Lr rfl (rlA (vs := [_, _]) ag24 sz24 rfl rfl rfl) ?_
       refine Lm rfl rfl rfl ?_
       refine Lc rfl rfl rfl rfl (fun w hg => lfalls_c (startP b l) p.grav hgr l _ hl8 hll m hm1 hm2 hmz hmb w (hS.good hg)) ?_
       refine Lm rfl rfl rfl ?_
       refine Lp rfl (p_ext rfl rfl rfl) ?_
       refine Lp rfl (p_ext rfl rfl rfl) ?_
       refine Lp rfl (p_ext rfl rfl rfl) ?_
       refine Lw rfl (w_alloc zr42 rfl) ?_
       rintro _ _ ⟨b7, hb7, rfl, rfl⟩
       refine Ls (cs' := [_, _]) rfl sz42 rfl rfl rfl rfl rfl rfl rfl ?_
       refine La rfl rfl rfl ?_
       refine La rfl rfl rfl ?_
       refine L_then (kp [4, 7, 8, 12, 13, 14] rfl) ?_
       refine Vs rfl ?_
       refine Lm rfl rfl rfl ?_
       refine Lm rfl rfl rfl ?_
       refine L_yes rfl rfl rfl rfl (X_rd (rlA (vs := [_, _]) ag24 sz24 rfl rfl rfl) ?_)
       refine L_yes rfl rfl rfl rfl (X_p (p_fieldo fo33_0 rfl rfl) ?_)
       refine L_yes rfl rfl rfl rfl (X_rd (rl ag3 rfl rfl rfl) ?_)
       refine L_yes rfl rfl rfl rfl (X_p (p_move rfl rfl) ?_)
       first | refine L_yes rfl rfl rfl rfl (X_p (p_add' rfl rfl rfl (by unfold InI; omega)) ?_) | refine L_yes rfl rfl rfl rfl (X_p (p_add rfl rfl rfl) ?_)
       refine L_yes rfl rfl rfl rfl (X_wr (w_callP rfl rfl rfl (fun w hg => lhas_c (De.fallP p b).at_ _ hat w)) ?_)
       rintro _ _ ⟨rfl, rfl⟩
       refine Lp rfl (p_pick_t rfl rfl rfl rfl) ?_
       refine Lm rfl rfl rfl ?_
       refine L_yes rfl rfl rfl rfl (X_p (p_fieldo fo36_0 rfl rfl) ?_)
       refine L_yes rfl rfl rfl rfl (X_rd (rlA (vs := [_, _]) ag24 sz24 rfl rfl rfl) ?_)
       refine L_yes rfl rfl rfl rfl (X_p (p_fieldo fo42_0 rfl rfl) ?_)
       refine L_yes rfl rfl rfl rfl (X_rd (rl ag3 rfl rfl rfl) ?_)
       refine L_yes rfl rfl rfl rfl (X_wr (w_callP rfl rfl rfl (fun w hg => lhas_c (De.fallP p b).x _ hx w)) ?_)
       rintro _ _ ⟨rfl, rfl⟩
       refine Lp rfl (p_pick_t rfl rfl rfl rfl) ?_
       refine Lm rfl rfl rfl ?_
       refine L_yes rfl rfl rfl rfl (X_p (p_fieldo fo36_1 rfl rfl) ?_)
       refine L_yes rfl rfl rfl rfl (X_rd (rlA (vs := [_, _]) ag24 sz24 rfl rfl rfl) ?_)
       refine L_yes rfl rfl rfl rfl (X_p (p_fieldo fo42_1 rfl rfl) ?_)
       refine L_yes rfl rfl rfl rfl (X_rd (rl ag3 rfl rfl rfl) ?_)
       refine L_yes rfl rfl rfl rfl (X_wr (w_callP rfl rfl rfl (fun w hg => lhas_c (De.fallP p b).y _ hy w)) ?_)
       rintro _ _ ⟨rfl, rfl⟩
       refine Lp rfl (p_pick_t rfl rfl rfl rfl) ?_
       refine Lm rfl rfl rfl ?_
       refine L_yes rfl rfl rfl rfl (X_wr (w_callP rfl rfl rfl (fun w hg => dawake_c aF aL w (hE.good hg))) ?_)
       rintro _ _ ⟨rfl, rfl⟩
       refine Lp rfl (p_pick_t rfl rfl rfl rfl) ?_
       refine La rfl rfl rfl ?_
       refine L_then (kp [6] rfl) ?_
       refine V_ret ?_
       refine Leave.nil (.tmp rfl .nil) ?_
       rfl
     ·refine (.go (E' := [(9, _), (5, _)]) rfl (.plain rfl) (w_alloc zr40 rfl) rfl ?_)
      rintro _ _ ⟨b6, hb6, rfl, rfl⟩
      refine ⟨(.cons rfl (.plain rfl) (rlA (vs := [_, _]) ag24 sz24 rfl rfl rfl) (.cons rfl (.plain rfl) (rlA (vs := [_, _]) ag24 sz24 rfl rfl rfl) .nil)), ?_⟩
      refine D_wr (.go (E' := [(9, _)]) rfl (.plain rfl) (w_callP rfl rfl rfl (fun w hg => lpick_c b.vy (by omega) l _ hl8 hll 4 (by omega) w (hS.good hg))) rfl ?_)
      rintro _ _ ⟨rfl, rfl⟩
      refine ⟨(.cons rfl (.plain rfl) (rlA (vs := [_, _]) ag24 sz24 rfl rfl rfl) .nil), ?_⟩
      refine D_wr (.go (E' := []) rfl (.plain rfl) (w_callP rfl rfl rfl (fun w hg => lpick_c b.vz (by omega) l _ hl8 hll 5 (by omega) w (hS.good hg))) rfl ?_)
      rintro _ _ ⟨rfl, rfl⟩
      refine ⟨.nil, ?_⟩
      refine Dp rfl rfl (p_buildA (r := [_, _, _]) ar40 zr40 rfl rfl rfl) ?_
      refine D_wr (.go (E' := []) rfl (.plain rfl) (ws (cs' := [_, _, _]) sz40 rfl rfl rfl rfl rfl rfl rfl) rfl ?_)
      rintro _ _ ⟨rfl, rfl⟩
      refine ⟨.nil, ?_⟩
      refine D_then (kp [2, 3, 4, 7, 8, 10, 11] rfl) ?_
      refine Vs rfl ?_
      refine Lr rfl (rlA (vs := [_, _, _]) ag40 sz40 rfl rfl rfl) ?_
      refine Lr rfl (rlA (vs := [_, _, _]) ag40 sz40 rfl rfl rfl) ?_
      refine Lp rfl (p_fieldo fo26_1 rfl rfl) ?_
      refine Lr rfl (rlA (vs := [_, _]) ag24 sz24 rfl rfl rfl) ?_
      refine Lm rfl rfl rfl ?_
      refine Lc rfl rfl rfl rfl (fun w hg => lfalls_c (startP b l) p.grav hgr l _ hl8 hll m hm1 hm2 hmz hmb w (hS.good hg)) ?_
      refine Lm rfl rfl rfl ?_
      refine Lp rfl (p_ext rfl rfl rfl) ?_
      refine Lp rfl (p_ext rfl rfl rfl) ?_
      refine Lp rfl (p_ext rfl rfl rfl) ?_
      refine Lw rfl (w_alloc zr42 rfl) ?_
      rintro _ _ ⟨b7, hb7, rfl, rfl⟩
      refine Ls (cs' := [_, _]) rfl sz42 rfl rfl rfl rfl rfl rfl rfl ?_
      refine La rfl rfl rfl ?_
      refine La rfl rfl rfl ?_
      refine L_then (kp [4, 7, 8, 12, 13, 14] rfl) ?_
      refine Vs rfl ?_
      refine Lm rfl rfl rfl ?_
      refine Lm rfl rfl rfl ?_
      refine L_yes rfl rfl rfl rfl (X_rd (rlA (vs := [_, _]) ag24 sz24 rfl rfl rfl) ?_)
      refine L_yes rfl rfl rfl rfl (X_p (p_fieldo fo33_0 rfl rfl) ?_)
      refine L_yes rfl rfl rfl rfl (X_rd (rl ag3 rfl rfl rfl) ?_)
      refine L_yes rfl rfl rfl rfl (X_p (p_move rfl rfl) ?_)
      first | refine L_yes rfl rfl rfl rfl (X_p (p_add' rfl rfl rfl (by unfold InI; omega)) ?_) | refine L_yes rfl rfl rfl rfl (X_p (p_add rfl rfl rfl) ?_)
      refine L_yes rfl rfl rfl rfl (X_wr (w_callP rfl rfl rfl (fun w hg => lhas_c (De.fallP p b).at_ _ hat w)) ?_)
      rintro _ _ ⟨rfl, rfl⟩
      refine Lp rfl (p_pick_t rfl rfl rfl rfl) ?_
      refine Lm rfl rfl rfl ?_
      refine L_yes rfl rfl rfl rfl (X_p (p_fieldo fo36_0 rfl rfl) ?_)
      refine L_yes rfl rfl rfl rfl (X_rd (rlA (vs := [_, _]) ag24 sz24 rfl rfl rfl) ?_)
      refine L_yes rfl rfl rfl rfl (X_p (p_fieldo fo42_0 rfl rfl) ?_)
      refine L_yes rfl rfl rfl rfl (X_rd (rl ag3 rfl rfl rfl) ?_)
      refine L_yes rfl rfl rfl rfl (X_wr (w_callP rfl rfl rfl (fun w hg => lhas_c (De.fallP p b).x _ hx w)) ?_)
      rintro _ _ ⟨rfl, rfl⟩
      refine Lp rfl (p_pick_t rfl rfl rfl rfl) ?_
      refine Lm rfl rfl rfl ?_
      refine L_yes rfl rfl rfl rfl (X_p (p_fieldo fo36_1 rfl rfl) ?_)
      refine L_yes rfl rfl rfl rfl (X_rd (rlA (vs := [_, _]) ag24 sz24 rfl rfl rfl) ?_)
      refine L_yes rfl rfl rfl rfl (X_p (p_fieldo fo42_1 rfl rfl) ?_)
      refine L_yes rfl rfl rfl rfl (X_rd (rl ag3 rfl rfl rfl) ?_)
      refine L_yes rfl rfl rfl rfl (X_wr (w_callP rfl rfl rfl (fun w hg => lhas_c (De.fallP p b).y _ hy w)) ?_)
      rintro _ _ ⟨rfl, rfl⟩
      refine Lp rfl (p_pick_t rfl rfl rfl rfl) ?_
      refine Lm rfl rfl rfl ?_
      refine L_yes rfl rfl rfl rfl (X_wr (w_callP rfl rfl rfl (fun w hg => dawake_c aF aL w (hE.good hg))) ?_)
      rintro _ _ ⟨rfl, rfl⟩
      refine Lp rfl (p_pick_t rfl rfl rfl rfl) ?_
      refine La rfl rfl rfl ?_
      refine L_then (kp [6] rfl) ?_
      refine V_ret ?_
      refine Leave.nil (.tmp rfl .nil) ?_
      rfl
    ·refine (.go (E' := [(9, _), (5, _), (1, _)]) rfl (.plain rfl) (w_alloc zr40 rfl) rfl ?_)
     rintro _ _ ⟨b6, hb6, rfl, rfl⟩
     refine ⟨(.cons rfl (.plain rfl) (rlA (vs := [_, _]) ag24 sz24 rfl rfl rfl) (.cons rfl (.plain rfl) (rlA (vs := [_, _]) ag24 sz24 rfl rfl rfl) (.cons rfl (.plain rfl) (rlA (vs := [_, _]) ag24 sz24 rfl rfl rfl) .nil))), ?_⟩
     refine D_wr (.go (E' := [(9, _), (5, _)]) rfl (.plain rfl) (w_callP rfl rfl rfl (fun w hg => lpick_c b.vx (by omega) l _ hl8 hll 3 (by omega) w (hS.good hg))) rfl ?_)
     rintro _ _ ⟨rfl, rfl⟩
     refine ⟨(.cons rfl (.plain rfl) (rlA (vs := [_, _]) ag24 sz24 rfl rfl rfl) (.cons rfl (.plain rfl) (rlA (vs := [_, _]) ag24 sz24 rfl rfl rfl) .nil)), ?_⟩
     refine D_wr (.go (E' := [(9, _)]) rfl (.plain rfl) (w_callP rfl rfl rfl (fun w hg => lpick_c b.vy (by omega) l _ hl8 hll 4 (by omega) w (hS.good hg))) rfl ?_)
     rintro _ _ ⟨rfl, rfl⟩
     refine ⟨(.cons rfl (.plain rfl) (rlA (vs := [_, _]) ag24 sz24 rfl rfl rfl) .nil), ?_⟩
     refine D_wr (.go (E' := []) rfl (.plain rfl) (w_callP rfl rfl rfl (fun w hg => lpick_c b.vz (by omega) l _ hl8 hll 5 (by omega) w (hS.good hg))) rfl ?_)
     rintro _ _ ⟨rfl, rfl⟩
     refine ⟨.nil, ?_⟩
     refine Dp rfl rfl (p_buildA (r := [_, _, _]) ar40 zr40 rfl rfl rfl) ?_
     refine D_wr (.go (E' := []) rfl (.plain rfl) (ws (cs' := [_, _, _]) sz40 rfl rfl rfl rfl rfl rfl rfl) rfl ?_)
     rintro _ _ ⟨rfl, rfl⟩
     refine ⟨.nil, ?_⟩
     refine D_then (kp [2, 3, 4, 7, 8, 10, 11] rfl) ?_
     refine Vs rfl ?_
     refine Lr rfl (rlA (vs := [_, _, _]) ag40 sz40 rfl rfl rfl) ?_
     refine Lr rfl (rlA (vs := [_, _, _]) ag40 sz40 rfl rfl rfl) ?_
     refine Lp rfl (p_fieldo fo26_1 rfl rfl) ?_
     refine Lr rfl (rlA (vs := [_, _]) ag24 sz24 rfl rfl rfl) ?_
     refine Lm rfl rfl rfl ?_
     refine Lc rfl rfl rfl rfl (fun w hg => lfalls_c (startP b l) p.grav hgr l _ hl8 hll m hm1 hm2 hmz hmb w (hS.good hg)) ?_
     refine Lm rfl rfl rfl ?_
     refine Lp rfl (p_ext rfl rfl rfl) ?_
     refine Lp rfl (p_ext rfl rfl rfl) ?_
     refine Lp rfl (p_ext rfl rfl rfl) ?_
     refine Lw rfl (w_alloc zr42 rfl) ?_
     rintro _ _ ⟨b7, hb7, rfl, rfl⟩
     refine Ls (cs' := [_, _]) rfl sz42 rfl rfl rfl rfl rfl rfl rfl ?_
     refine La rfl rfl rfl ?_
     refine La rfl rfl rfl ?_
     refine L_then (kp [4, 7, 8, 12, 13, 14] rfl) ?_
     refine Vs rfl ?_
     refine Lm rfl rfl rfl ?_
     refine Lm rfl rfl rfl ?_
     refine L_yes rfl rfl rfl rfl (X_rd (rlA (vs := [_, _]) ag24 sz24 rfl rfl rfl) ?_)
     refine L_yes rfl rfl rfl rfl (X_p (p_fieldo fo33_0 rfl rfl) ?_)
     refine L_yes rfl rfl rfl rfl (X_rd (rl ag3 rfl rfl rfl) ?_)
     refine L_yes rfl rfl rfl rfl (X_p (p_move rfl rfl) ?_)
     first | refine L_yes rfl rfl rfl rfl (X_p (p_add' rfl rfl rfl (by unfold InI; omega)) ?_) | refine L_yes rfl rfl rfl rfl (X_p (p_add rfl rfl rfl) ?_)
     refine L_yes rfl rfl rfl rfl (X_wr (w_callP rfl rfl rfl (fun w hg => lhas_c (De.fallP p b).at_ _ hat w)) ?_)
     rintro _ _ ⟨rfl, rfl⟩
     refine Lp rfl (p_pick_t rfl rfl rfl rfl) ?_
     refine Lm rfl rfl rfl ?_
     refine L_yes rfl rfl rfl rfl (X_p (p_fieldo fo36_0 rfl rfl) ?_)
     refine L_yes rfl rfl rfl rfl (X_rd (rlA (vs := [_, _]) ag24 sz24 rfl rfl rfl) ?_)
     refine L_yes rfl rfl rfl rfl (X_p (p_fieldo fo42_0 rfl rfl) ?_)
     refine L_yes rfl rfl rfl rfl (X_rd (rl ag3 rfl rfl rfl) ?_)
     refine L_yes rfl rfl rfl rfl (X_wr (w_callP rfl rfl rfl (fun w hg => lhas_c (De.fallP p b).x _ hx w)) ?_)
     rintro _ _ ⟨rfl, rfl⟩
     refine Lp rfl (p_pick_t rfl rfl rfl rfl) ?_
     refine Lm rfl rfl rfl ?_
     refine L_yes rfl rfl rfl rfl (X_p (p_fieldo fo36_1 rfl rfl) ?_)
     refine L_yes rfl rfl rfl rfl (X_rd (rlA (vs := [_, _]) ag24 sz24 rfl rfl rfl) ?_)
     refine L_yes rfl rfl rfl rfl (X_p (p_fieldo fo42_1 rfl rfl) ?_)
     refine L_yes rfl rfl rfl rfl (X_rd (rl ag3 rfl rfl rfl) ?_)
     refine L_yes rfl rfl rfl rfl (X_wr (w_callP rfl rfl rfl (fun w hg => lhas_c (De.fallP p b).y _ hy w)) ?_)
     rintro _ _ ⟨rfl, rfl⟩
     refine Lp rfl (p_pick_t rfl rfl rfl rfl) ?_
     refine Lm rfl rfl rfl ?_
     refine L_yes rfl rfl rfl rfl (X_wr (w_callP rfl rfl rfl (fun w hg => dawake_c aF aL w (hE.good hg))) ?_)
     rintro _ _ ⟨rfl, rfl⟩
     refine Lp rfl (p_pick_t rfl rfl rfl rfl) ?_
     refine La rfl rfl rfl ?_
     refine L_then (kp [6] rfl) ?_
     refine V_ret ?_
     refine Leave.nil (.tmp rfl .nil) ?_
     rfl
  ·refine (.go (E' := [(9, _), (5, _), (1, _)]) rfl (.plain rfl) (w_alloc zr40 rfl) rfl ?_)
   rintro _ _ ⟨b5, hb5, rfl, rfl⟩
   refine ⟨(.cons rfl (.plain rfl) (rlA (vs := [_, _]) ag24 sz24 rfl rfl rfl) (.cons rfl (.plain rfl) (rlA (vs := [_, _]) ag24 sz24 rfl rfl rfl) (.cons rfl (.plain rfl) (rlA (vs := [_, _]) ag24 sz24 rfl rfl rfl) .nil))), ?_⟩
   refine D_wr (.go (E' := [(9, _), (5, _)]) rfl (.plain rfl) (w_callP rfl rfl rfl (fun w hg => lpick_c b.x (by omega) l _ hl8 hll 0 (by omega) w (hS.good hg))) rfl ?_)
   rintro _ _ ⟨rfl, rfl⟩
   refine ⟨(.cons rfl (.plain rfl) (rlA (vs := [_, _]) ag24 sz24 rfl rfl rfl) (.cons rfl (.plain rfl) (rlA (vs := [_, _]) ag24 sz24 rfl rfl rfl) .nil)), ?_⟩
   refine D_wr (.go (E' := [(9, _)]) rfl (.plain rfl) (w_callP rfl rfl rfl (fun w hg => lpick_c b.y (by omega) l _ hl8 hll 1 (by omega) w (hS.good hg))) rfl ?_)
   rintro _ _ ⟨rfl, rfl⟩
   refine ⟨(.cons rfl (.plain rfl) (rlA (vs := [_, _]) ag24 sz24 rfl rfl rfl) .nil), ?_⟩
   refine D_wr (.go (E' := []) rfl (.plain rfl) (w_callP rfl rfl rfl (fun w hg => lpick_c b.z (by omega) l _ hl8 hll 2 (by omega) w (hS.good hg))) rfl ?_)
   rintro _ _ ⟨rfl, rfl⟩
   refine ⟨.nil, ?_⟩
   refine Dp rfl rfl (p_buildA (r := [_, _, _]) ar40 zr40 rfl rfl rfl) ?_
   refine D_wr (.go (E' := []) rfl (.plain rfl) (ws (cs' := [_, _, _]) sz40 rfl rfl rfl rfl rfl rfl rfl) rfl ?_)
   rintro _ _ ⟨rfl, rfl⟩
   refine ⟨.nil, ?_⟩
   refine D_then (kp [2, 3, 4, 7, 8, 10] rfl) ?_
   refine V_seq (V_draw (.rd 0 (.rd 1 (.rd 2 (.rd 4 (.rd 5 (.rd 6 (.rd 8 (.rd 9 (.rd 10 (.wr2 3 [10, 9, 8, 6, 5, 4, 0] (.wr2 7 [10, 9, 8, 4, 2, 1, 0] (.wr2 11 [8, 6, 5, 4, 2, 1, 0] (.rd 12 (.wr 13 [12, 10, 9, 8, 6, 5, 4, 2, 1, 0] (.wr 14 [] .done))) 13 [10, 9, 8, 6, 5, 4, 2, 1, 0] (.wr 11 [8, 6, 5, 4, 2, 1, 0] (.rd 12 (.wr 14 [] .done)))) 13 [10, 9, 8, 6, 5, 4, 2, 1, 0] (.wr 7 [10, 9, 8, 4, 2, 1, 0] (.wr 11 [8, 6, 5, 4, 2, 1, 0] (.rd 12 (.wr 14 [] .done))))) 13 [10, 9, 8, 6, 5, 4, 2, 1, 0] (.wr 3 [10, 9, 8, 6, 5, 4, 0] (.wr 7 [10, 9, 8, 4, 2, 1, 0] (.wr 11 [8, 6, 5, 4, 2, 1, 0] (.rd 12 (.wr 14 [] .done))))))))))))))) mixed (by kernel_rfl) rfl ?_)
   refine Dp rfl rfl (p_fieldo fo33_4 rfl rfl) ?_
   refine Dr rfl rfl (rlA (vs := [_, _]) ag24 sz24 rfl rfl rfl) ?_
   refine Dm rfl rfl rfl rfl ?_
   refine Dp rfl rfl (p_fieldo fo33_5 rfl rfl) ?_
   refine Dr rfl rfl (rlA (vs := [_, _]) ag24 sz24 rfl rfl rfl) ?_
   refine Dm rfl rfl rfl rfl ?_
   refine Dp rfl rfl (p_fieldo fo33_6 rfl rfl) ?_
   refine Dr rfl rfl (rlA (vs := [_, _]) ag24 sz24 rfl rfl rfl) ?_
   refine Dm rfl rfl rfl rfl ?_
   refine D_wr2 rfl ?_ ?_
   ·refine (.go (E' := [(9, _), (5, _)]) rfl (.plain rfl) (w_callP rfl rfl rfl (fun w hg => lpick_c b.vx (by omega) l _ hl8 hll 3 (by omega) w (hS.good hg))) rfl ?_)
    rintro _ _ ⟨rfl, rfl⟩
    refine ⟨(.cons rfl (.plain rfl) (rlA (vs := [_, _]) ag24 sz24 rfl rfl rfl) (.cons rfl (.plain rfl) (rlA (vs := [_, _]) ag24 sz24 rfl rfl rfl) .nil)), ?_⟩
    refine D_wr2 rfl ?_ ?_
    ·refine (.go (E' := [(9, _)]) rfl (.plain rfl) (w_callP rfl rfl rfl (fun w hg => lpick_c b.vy (by omega) l _ hl8 hll 4 (by omega) w (hS.good hg))) rfl ?_)
     rintro _ _ ⟨rfl, rfl⟩
     refine ⟨(.cons rfl (.plain rfl) (rlA (vs := [_, _]) ag24 sz24 rfl rfl rfl) .nil), ?_⟩
     refine D_wr2 rfl ?_ ?_
     ·refine (.go (E' := []) rfl (.plain rfl) (w_callP rfl rfl rfl (fun w hg => lpick_c b.vz (by omega) l _ hl8 hll 5 (by omega) w (hS.good hg))) rfl ?_)
      rintro _ _ ⟨rfl, rfl⟩
      refine ⟨.nil, ?_⟩
      refine Dp rfl rfl (p_buildA (r := [_, _, _]) ar40 zr40 rfl rfl rfl) ?_
      refine D_wr (.go (E' := []) rfl (.plain rfl) (w_alloc zr40 rfl) rfl ?_)
      rintro _ _ ⟨b6, hb6, rfl, rfl⟩
      refine ⟨.nil, ?_⟩
      refine D_wr (.go (E' := []) rfl (.plain rfl) (ws (cs' := [_, _, _]) sz40 rfl rfl rfl rfl rfl rfl rfl) rfl ?_)
      rintro _ _ ⟨rfl, rfl⟩
      refine ⟨.nil, ?_⟩
      refine D_then (kp [2, 3, 4, 7, 8, 10, 11] rfl) ?_
      refine Vs rfl ?_
      refine Lr rfl (rlA (vs := [_, _, _]) ag40 sz40 rfl rfl rfl) ?_
      refine Lr rfl (rlA (vs := [_, _, _]) ag40 sz40 rfl rfl rfl) ?_
      refine Lp rfl (p_fieldo fo26_1 rfl rfl) ?_
      refine Lr rfl (rlA (vs := [_, _]) ag24 sz24 rfl rfl rfl) ?_
      refine Lm rfl rfl rfl ?_
      refine Lc rfl rfl rfl rfl (fun w hg => lfalls_c (startP b l) p.grav hgr l _ hl8 hll m hm1 hm2 hmz hmb w (hS.good hg)) ?_
      refine Lm rfl rfl rfl ?_
      refine Lp rfl (p_ext rfl rfl rfl) ?_
      refine Lp rfl (p_ext rfl rfl rfl) ?_
      refine Lp rfl (p_ext rfl rfl rfl) ?_
      refine Lw rfl (w_alloc zr42 rfl) ?_
      rintro _ _ ⟨b7, hb7, rfl, rfl⟩
      refine Ls (cs' := [_, _]) rfl sz42 rfl rfl rfl rfl rfl rfl rfl ?_
      refine La rfl rfl rfl ?_
      refine La rfl rfl rfl ?_
      refine L_then (kp [4, 7, 8, 12, 13, 14] rfl) ?_
      refine Vs rfl ?_
      refine Lm rfl rfl rfl ?_
      refine Lm rfl rfl rfl ?_
      refine L_yes rfl rfl rfl rfl (X_rd (rlA (vs := [_, _]) ag24 sz24 rfl rfl rfl) ?_)
      refine L_yes rfl rfl rfl rfl (X_p (p_fieldo fo33_0 rfl rfl) ?_)
      refine L_yes rfl rfl rfl rfl (X_rd (rl ag3 rfl rfl rfl) ?_)
      refine L_yes rfl rfl rfl rfl (X_p (p_move rfl rfl) ?_)
      first | refine L_yes rfl rfl rfl rfl (X_p (p_add' rfl rfl rfl (by unfold InI; omega)) ?_) | refine L_yes rfl rfl rfl rfl (X_p (p_add rfl rfl rfl) ?_)
      refine L_yes rfl rfl rfl rfl (X_wr (w_callP rfl rfl rfl (fun w hg => lhas_c (De.fallP p b).at_ _ hat w)) ?_)
      rintro _ _ ⟨rfl, rfl⟩
      refine Lp rfl (p_pick_t rfl rfl rfl rfl) ?_
      refine Lm rfl rfl rfl ?_
      refine L_yes rfl rfl rfl rfl (X_p (p_fieldo fo36_0 rfl rfl) ?_)
      refine L_yes rfl rfl rfl rfl (X_rd (rlA (vs := [_, _]) ag24 sz24 rfl rfl rfl) ?_)
      refine L_yes rfl rfl rfl rfl (X_p (p_fieldo fo42_0 rfl rfl) ?_)
      refine L_yes rfl rfl rfl rfl (X_rd (rl ag3 rfl rfl rfl) ?_)
      refine L_yes rfl rfl rfl rfl (X_wr (w_callP rfl rfl rfl (fun w hg => lhas_c (De.fallP p b).x _ hx w)) ?_)
      rintro _ _ ⟨rfl, rfl⟩
      refine Lp rfl (p_pick_t rfl rfl rfl rfl) ?_
      refine Lm rfl rfl rfl ?_
      refine L_yes rfl rfl rfl rfl (X_p (p_fieldo fo36_1 rfl rfl) ?_)
      refine L_yes rfl rfl rfl rfl (X_rd (rlA (vs := [_, _]) ag24 sz24 rfl rfl rfl) ?_)
      refine L_yes rfl rfl rfl rfl (X_p (p_fieldo fo42_1 rfl rfl) ?_)
      refine L_yes rfl rfl rfl rfl (X_rd (rl ag3 rfl rfl rfl) ?_)
      refine L_yes rfl rfl rfl rfl (X_wr (w_callP rfl rfl rfl (fun w hg => lhas_c (De.fallP p b).y _ hy w)) ?_)
      rintro _ _ ⟨rfl, rfl⟩
      refine Lp rfl (p_pick_t rfl rfl rfl rfl) ?_
      refine Lm rfl rfl rfl ?_
      refine L_yes rfl rfl rfl rfl (X_wr (w_callP rfl rfl rfl (fun w hg => dawake_c aF aL w (hE.good hg))) ?_)
      rintro _ _ ⟨rfl, rfl⟩
      refine Lp rfl (p_pick_t rfl rfl rfl rfl) ?_
      refine La rfl rfl rfl ?_
      refine L_then (kp [6] rfl) ?_
      refine V_ret ?_
      refine Leave.nil (.tmp rfl .nil) ?_
      rfl
     ·refine (.go (E' := [(9, _)]) rfl (.plain rfl) (w_alloc zr40 rfl) rfl ?_)
      rintro _ _ ⟨b6, hb6, rfl, rfl⟩
      refine ⟨(.cons rfl (.plain rfl) (rlA (vs := [_, _]) ag24 sz24 rfl rfl rfl) .nil), ?_⟩
      refine D_wr (.go (E' := []) rfl (.plain rfl) (w_callP rfl rfl rfl (fun w hg => lpick_c b.vz (by omega) l _ hl8 hll 5 (by omega) w (hS.good hg))) rfl ?_)
      rintro _ _ ⟨rfl, rfl⟩
      refine ⟨.nil, ?_⟩
      refine Dp rfl rfl (p_buildA (r := [_, _, _]) ar40 zr40 rfl rfl rfl) ?_
      refine D_wr (.go (E' := []) rfl (.plain rfl) (ws (cs' := [_, _, _]) sz40 rfl rfl rfl rfl rfl rfl rfl) rfl ?_)
      rintro _ _ ⟨rfl, rfl⟩
      refine ⟨.nil, ?_⟩
      refine D_then (kp [2, 3, 4, 7, 8, 10, 11] rfl) ?_
      refine Vs rfl ?_
      refine Lr rfl (rlA (vs := [_, _, _]) ag40 sz40 rfl rfl rfl) ?_
      refine Lr rfl (rlA (vs := [_, _, _]) ag40 sz40 rfl rfl rfl) ?_
      refine Lp rfl (p_fieldo fo26_1 rfl rfl) ?_
      refine Lr rfl (rlA (vs := [_, _]) ag24 sz24 rfl rfl rfl) ?_
      refine Lm rfl rfl rfl ?_
      refine Lc rfl rfl rfl rfl (fun w hg => lfalls_c (startP b l) p.grav hgr l _ hl8 hll m hm1 hm2 hmz hmb w (hS.good hg)) ?_
      refine Lm rfl rfl rfl ?_
      refine Lp rfl (p_ext rfl rfl rfl) ?_
      refine Lp rfl (p_ext rfl rfl rfl) ?_
      refine Lp rfl (p_ext rfl rfl rfl) ?_
      refine Lw rfl (w_alloc zr42 rfl) ?_
      rintro _ _ ⟨b7, hb7, rfl, rfl⟩
      refine Ls (cs' := [_, _]) rfl sz42 rfl rfl rfl rfl rfl rfl rfl ?_
      refine La rfl rfl rfl ?_
      refine La rfl rfl rfl ?_
      refine L_then (kp [4, 7, 8, 12, 13, 14] rfl) ?_
      refine Vs rfl ?_
      refine Lm rfl rfl rfl ?_
      refine Lm rfl rfl rfl ?_
      refine L_yes rfl rfl rfl rfl (X_rd (rlA (vs := [_, _]) ag24 sz24 rfl rfl rfl) ?_)
      refine L_yes rfl rfl rfl rfl (X_p (p_fieldo fo33_0 rfl rfl) ?_)
      refine L_yes rfl rfl rfl rfl (X_rd (rl ag3 rfl rfl rfl) ?_)
      refine L_yes rfl rfl rfl rfl (X_p (p_move rfl rfl) ?_)
      first | refine L_yes rfl rfl rfl rfl (X_p (p_add' rfl rfl rfl (by unfold InI; omega)) ?_) | refine L_yes rfl rfl rfl rfl (X_p (p_add rfl rfl rfl) ?_)
      refine L_yes rfl rfl rfl rfl (X_wr (w_callP rfl rfl rfl (fun w hg => lhas_c (De.fallP p b).at_ _ hat w)) ?_)
      rintro _ _ ⟨rfl, rfl⟩
      refine Lp rfl (p_pick_t rfl rfl rfl rfl) ?_
      refine Lm rfl rfl rfl ?_
      refine L_yes rfl rfl rfl rfl (X_p (p_fieldo fo36_0 rfl rfl) ?_)
      refine L_yes rfl rfl rfl rfl (X_rd (rlA (vs := [_, _]) ag24 sz24 rfl rfl rfl) ?_)
      refine L_yes rfl rfl rfl rfl (X_p (p_fieldo fo42_0 rfl rfl) ?_)
      refine L_yes rfl rfl rfl rfl (X_rd (rl ag3 rfl rfl rfl) ?_)
      refine L_yes rfl rfl rfl rfl (X_wr (w_callP rfl rfl rfl (fun w hg => lhas_c (De.fallP p b).x _ hx w)) ?_)
      rintro _ _ ⟨rfl, rfl⟩
      refine Lp rfl (p_pick_t rfl rfl rfl rfl) ?_
      refine Lm rfl rfl rfl ?_
      refine L_yes rfl rfl rfl rfl (X_p (p_fieldo fo36_1 rfl rfl) ?_)
      refine L_yes rfl rfl rfl rfl (X_rd (rlA (vs := [_, _]) ag24 sz24 rfl rfl rfl) ?_)
      refine L_yes rfl rfl rfl rfl (X_p (p_fieldo fo42_1 rfl rfl) ?_)
      refine L_yes rfl rfl rfl rfl (X_rd (rl ag3 rfl rfl rfl) ?_)
      refine L_yes rfl rfl rfl rfl (X_wr (w_callP rfl rfl rfl (fun w hg => lhas_c (De.fallP p b).y _ hy w)) ?_)
      rintro _ _ ⟨rfl, rfl⟩
      refine Lp rfl (p_pick_t rfl rfl rfl rfl) ?_
      refine Lm rfl rfl rfl ?_
      refine L_yes rfl rfl rfl rfl (X_wr (w_callP rfl rfl rfl (fun w hg => dawake_c aF aL w (hE.good hg))) ?_)
      rintro _ _ ⟨rfl, rfl⟩
      refine Lp rfl (p_pick_t rfl rfl rfl rfl) ?_
      refine La rfl rfl rfl ?_
      refine L_then (kp [6] rfl) ?_
      refine V_ret ?_
      refine Leave.nil (.tmp rfl .nil) ?_
      rfl
    ·refine (.go (E' := [(9, _), (5, _)]) rfl (.plain rfl) (w_alloc zr40 rfl) rfl ?_)
     rintro _ _ ⟨b6, hb6, rfl, rfl⟩
     refine ⟨(.cons rfl (.plain rfl) (rlA (vs := [_, _]) ag24 sz24 rfl rfl rfl) (.cons rfl (.plain rfl) (rlA (vs := [_, _]) ag24 sz24 rfl rfl rfl) .nil)), ?_⟩
     refine D_wr (.go (E' := [(9, _)]) rfl (.plain rfl) (w_callP rfl rfl rfl (fun w hg => lpick_c b.vy (by omega) l _ hl8 hll 4 (by omega) w (hS.good hg))) rfl ?_)
     rintro _ _ ⟨rfl, rfl⟩
     refine ⟨(.cons rfl (.plain rfl) (rlA (vs := [_, _]) ag24 sz24 rfl rfl rfl) .nil), ?_⟩
     refine D_wr (.go (E' := []) rfl (.plain rfl) (w_callP rfl rfl rfl (fun w hg => lpick_c b.vz (by omega) l _ hl8 hll 5 (by omega) w (hS.good hg))) rfl ?_)
     rintro _ _ ⟨rfl, rfl⟩
     refine ⟨.nil, ?_⟩
     refine Dp rfl rfl (p_buildA (r := [_, _, _]) ar40 zr40 rfl rfl rfl) ?_
     refine D_wr (.go (E' := []) rfl (.plain rfl) (ws (cs' := [_, _, _]) sz40 rfl rfl rfl rfl rfl rfl rfl) rfl ?_)
     rintro _ _ ⟨rfl, rfl⟩
     refine ⟨.nil, ?_⟩
     refine D_then (kp [2, 3, 4, 7, 8, 10, 11] rfl) ?_
     refine Vs rfl ?_
     refine Lr rfl (rlA (vs := [_, _, _]) ag40 sz40 rfl rfl rfl) ?_
     refine Lr rfl (rlA (vs := [_, _, _]) ag40 sz40 rfl rfl rfl) ?_
     refine Lp rfl (p_fieldo fo26_1 rfl rfl) ?_
     refine Lr rfl (rlA (vs := [_, _]) ag24 sz24 rfl rfl rfl) ?_
     refine Lm rfl rfl rfl ?_
     refine Lc rfl rfl rfl rfl (fun w hg => lfalls_c (startP b l) p.grav hgr l _ hl8 hll m hm1 hm2 hmz hmb w (hS.good hg)) ?_
     refine Lm rfl rfl rfl ?_
     refine Lp rfl (p_ext rfl rfl rfl) ?_
     refine Lp rfl (p_ext rfl rfl rfl) ?_
     refine Lp rfl (p_ext rfl rfl rfl) ?_
     refine Lw rfl (w_alloc zr42 rfl) ?_
     rintro _ _ ⟨b7, hb7, rfl, rfl⟩
     refine Ls (cs' := [_, _]) rfl sz42 rfl rfl rfl rfl rfl rfl rfl ?_
     refine La rfl rfl rfl ?_
     refine La rfl rfl rfl ?_
     refine L_then (kp [4, 7, 8, 12, 13, 14] rfl) ?_
     refine Vs rfl ?_
     refine Lm rfl rfl rfl ?_
     refine Lm rfl rfl rfl ?_
     refine L_yes rfl rfl rfl rfl (X_rd (rlA (vs := [_, _]) ag24 sz24 rfl rfl rfl) ?_)
     refine L_yes rfl rfl rfl rfl (X_p (p_fieldo fo33_0 rfl rfl) ?_)
     refine L_yes rfl rfl rfl rfl (X_rd (rl ag3 rfl rfl rfl) ?_)
     refine L_yes rfl rfl rfl rfl (X_p (p_move rfl rfl) ?_)
     first | refine L_yes rfl rfl rfl rfl (X_p (p_add' rfl rfl rfl (by unfold InI; omega)) ?_) | refine L_yes rfl rfl rfl rfl (X_p (p_add rfl rfl rfl) ?_)
     refine L_yes rfl rfl rfl rfl (X_wr (w_callP rfl rfl rfl (fun w hg => lhas_c (De.fallP p b).at_ _ hat w)) ?_)
     rintro _ _ ⟨rfl, rfl⟩
     refine Lp rfl (p_pick_t rfl rfl rfl rfl) ?_
     refine Lm rfl rfl rfl ?_
     refine L_yes rfl rfl rfl rfl (X_p (p_fieldo fo36_0 rfl rfl) ?_)
     refine L_yes rfl rfl rfl rfl (X_rd (rlA (vs := [_, _]) ag24 sz24 rfl rfl rfl) ?_)
     refine L_yes rfl rfl rfl rfl (X_p (p_fieldo fo42_0 rfl rfl) ?_)
     refine L_yes rfl rfl rfl rfl (X_rd (rl ag3 rfl rfl rfl) ?_)
     refine L_yes rfl rfl rfl rfl (X_wr (w_callP rfl rfl rfl (fun w hg => lhas_c (De.fallP p b).x _ hx w)) ?_)
     rintro _ _ ⟨rfl, rfl⟩
     refine Lp rfl (p_pick_t rfl rfl rfl rfl) ?_
     refine Lm rfl rfl rfl ?_
     refine L_yes rfl rfl rfl rfl (X_p (p_fieldo fo36_1 rfl rfl) ?_)
     refine L_yes rfl rfl rfl rfl (X_rd (rlA (vs := [_, _]) ag24 sz24 rfl rfl rfl) ?_)
     refine L_yes rfl rfl rfl rfl (X_p (p_fieldo fo42_1 rfl rfl) ?_)
     refine L_yes rfl rfl rfl rfl (X_rd (rl ag3 rfl rfl rfl) ?_)
     refine L_yes rfl rfl rfl rfl (X_wr (w_callP rfl rfl rfl (fun w hg => lhas_c (De.fallP p b).y _ hy w)) ?_)
     rintro _ _ ⟨rfl, rfl⟩
     refine Lp rfl (p_pick_t rfl rfl rfl rfl) ?_
     refine Lm rfl rfl rfl ?_
     refine L_yes rfl rfl rfl rfl (X_wr (w_callP rfl rfl rfl (fun w hg => dawake_c aF aL w (hE.good hg))) ?_)
     rintro _ _ ⟨rfl, rfl⟩
     refine Lp rfl (p_pick_t rfl rfl rfl rfl) ?_
     refine La rfl rfl rfl ?_
     refine L_then (kp [6] rfl) ?_
     refine V_ret ?_
     refine Leave.nil (.tmp rfl .nil) ?_
     rfl
   ·refine (.go (E' := [(9, _), (5, _), (1, _)]) rfl (.plain rfl) (w_alloc zr40 rfl) rfl ?_)
    rintro _ _ ⟨b6, hb6, rfl, rfl⟩
    refine ⟨(.cons rfl (.plain rfl) (rlA (vs := [_, _]) ag24 sz24 rfl rfl rfl) (.cons rfl (.plain rfl) (rlA (vs := [_, _]) ag24 sz24 rfl rfl rfl) (.cons rfl (.plain rfl) (rlA (vs := [_, _]) ag24 sz24 rfl rfl rfl) .nil))), ?_⟩
    refine D_wr (.go (E' := [(9, _), (5, _)]) rfl (.plain rfl) (w_callP rfl rfl rfl (fun w hg => lpick_c b.vx (by omega) l _ hl8 hll 3 (by omega) w (hS.good hg))) rfl ?_)
    rintro _ _ ⟨rfl, rfl⟩
    refine ⟨(.cons rfl (.plain rfl) (rlA (vs := [_, _]) ag24 sz24 rfl rfl rfl) (.cons rfl (.plain rfl) (rlA (vs := [_, _]) ag24 sz24 rfl rfl rfl) .nil)), ?_⟩
    refine D_wr (.go (E' := [(9, _)]) rfl (.plain rfl) (w_callP rfl rfl rfl (fun w hg => lpick_c b.vy (by omega) l _ hl8 hll 4 (by omega) w (hS.good hg))) rfl ?_)
    rintro _ _ ⟨rfl, rfl⟩
    refine ⟨(.cons rfl (.plain rfl) (rlA (vs := [_, _]) ag24 sz24 rfl rfl rfl) .nil), ?_⟩
    refine D_wr (.go (E' := []) rfl (.plain rfl) (w_callP rfl rfl rfl (fun w hg => lpick_c b.vz (by omega) l _ hl8 hll 5 (by omega) w (hS.good hg))) rfl ?_)
    rintro _ _ ⟨rfl, rfl⟩
    refine ⟨.nil, ?_⟩
    refine Dp rfl rfl (p_buildA (r := [_, _, _]) ar40 zr40 rfl rfl rfl) ?_
    refine D_wr (.go (E' := []) rfl (.plain rfl) (ws (cs' := [_, _, _]) sz40 rfl rfl rfl rfl rfl rfl rfl) rfl ?_)
    rintro _ _ ⟨rfl, rfl⟩
    refine ⟨.nil, ?_⟩
    refine D_then (kp [2, 3, 4, 7, 8, 10, 11] rfl) ?_
    refine Vs rfl ?_
    refine Lr rfl (rlA (vs := [_, _, _]) ag40 sz40 rfl rfl rfl) ?_
    refine Lr rfl (rlA (vs := [_, _, _]) ag40 sz40 rfl rfl rfl) ?_
    refine Lp rfl (p_fieldo fo26_1 rfl rfl) ?_
    refine Lr rfl (rlA (vs := [_, _]) ag24 sz24 rfl rfl rfl) ?_
    refine Lm rfl rfl rfl ?_
    refine Lc rfl rfl rfl rfl (fun w hg => lfalls_c (startP b l) p.grav hgr l _ hl8 hll m hm1 hm2 hmz hmb w (hS.good hg)) ?_
    refine Lm rfl rfl rfl ?_
    refine Lp rfl (p_ext rfl rfl rfl) ?_
    refine Lp rfl (p_ext rfl rfl rfl) ?_
    refine Lp rfl (p_ext rfl rfl rfl) ?_
    refine Lw rfl (w_alloc zr42 rfl) ?_
    rintro _ _ ⟨b7, hb7, rfl, rfl⟩
    refine Ls (cs' := [_, _]) rfl sz42 rfl rfl rfl rfl rfl rfl rfl ?_
    refine La rfl rfl rfl ?_
    refine La rfl rfl rfl ?_
    refine L_then (kp [4, 7, 8, 12, 13, 14] rfl) ?_
    refine Vs rfl ?_
    refine Lm rfl rfl rfl ?_
    refine Lm rfl rfl rfl ?_
    refine L_yes rfl rfl rfl rfl (X_rd (rlA (vs := [_, _]) ag24 sz24 rfl rfl rfl) ?_)
    refine L_yes rfl rfl rfl rfl (X_p (p_fieldo fo33_0 rfl rfl) ?_)
    refine L_yes rfl rfl rfl rfl (X_rd (rl ag3 rfl rfl rfl) ?_)
    refine L_yes rfl rfl rfl rfl (X_p (p_move rfl rfl) ?_)
    first | refine L_yes rfl rfl rfl rfl (X_p (p_add' rfl rfl rfl (by unfold InI; omega)) ?_) | refine L_yes rfl rfl rfl rfl (X_p (p_add rfl rfl rfl) ?_)
    refine L_yes rfl rfl rfl rfl (X_wr (w_callP rfl rfl rfl (fun w hg => lhas_c (De.fallP p b).at_ _ hat w)) ?_)
    rintro _ _ ⟨rfl, rfl⟩
    refine Lp rfl (p_pick_t rfl rfl rfl rfl) ?_
    refine Lm rfl rfl rfl ?_
    refine L_yes rfl rfl rfl rfl (X_p (p_fieldo fo36_0 rfl rfl) ?_)
    refine L_yes rfl rfl rfl rfl (X_rd (rlA (vs := [_, _]) ag24 sz24 rfl rfl rfl) ?_)
    refine L_yes rfl rfl rfl rfl (X_p (p_fieldo fo42_0 rfl rfl) ?_)
    refine L_yes rfl rfl rfl rfl (X_rd (rl ag3 rfl rfl rfl) ?_)
    refine L_yes rfl rfl rfl rfl (X_wr (w_callP rfl rfl rfl (fun w hg => lhas_c (De.fallP p b).x _ hx w)) ?_)
    rintro _ _ ⟨rfl, rfl⟩
    refine Lp rfl (p_pick_t rfl rfl rfl rfl) ?_
    refine Lm rfl rfl rfl ?_
    refine L_yes rfl rfl rfl rfl (X_p (p_fieldo fo36_1 rfl rfl) ?_)
    refine L_yes rfl rfl rfl rfl (X_rd (rlA (vs := [_, _]) ag24 sz24 rfl rfl rfl) ?_)
    refine L_yes rfl rfl rfl rfl (X_p (p_fieldo fo42_1 rfl rfl) ?_)
    refine L_yes rfl rfl rfl rfl (X_rd (rl ag3 rfl rfl rfl) ?_)
    refine L_yes rfl rfl rfl rfl (X_wr (w_callP rfl rfl rfl (fun w hg => lhas_c (De.fallP p b).y _ hy w)) ?_)
    rintro _ _ ⟨rfl, rfl⟩
    refine Lp rfl (p_pick_t rfl rfl rfl rfl) ?_
    refine Lm rfl rfl rfl ?_
    refine L_yes rfl rfl rfl rfl (X_wr (w_callP rfl rfl rfl (fun w hg => dawake_c aF aL w (hE.good hg))) ?_)
    rintro _ _ ⟨rfl, rfl⟩
    refine Lp rfl (p_pick_t rfl rfl rfl rfl) ?_
    refine La rfl rfl rfl ?_
    refine L_then (kp [6] rfl) ?_
    refine V_ret ?_
    refine Leave.nil (.tmp rfl .nil) ?_
    rfl

theorem own_ : ownKnob Tryd.prog.godebug = none := by kernel_rfl
def laidE : List (String × DataW Unit) := [("hangfire/destruct.errFar", Rows.laid_hangfire_destruct_errFar), ("hangfire/destruct.errLong", Rows.laid_hangfire_destruct_errLong)]
theorem gFar : Tryd.prog.globalNamed "hangfire/destruct.errFar" = some 0 := by kernel_rfl
theorem gLong : Tryd.prog.globalNamed "hangfire/destruct.errLong" = some 1 := by kernel_rfl
theorem tFar : (Tryd.prog.globals[0]?).map (·.type) = some 92 := by kernel_rfl
theorem tLong : (Tryd.prog.globals[1]?).map (·.type) = some 92 := by kernel_rfl
theorem door_met (os : Os) (args : Array Value) : laidMetH Tryd.prog laidE ((World.doorLaid Tryd.prog 400 os).forCall (fun _ _ => 0) ⟨#[], args, []⟩).memory :=
 laidMetH_of_parts3 (fuel := 8) (laidMet_of_run' 8 (by kernel_rfl) (by kernel_rfl)) (by kernel_rfl) (by kernel_rfl)
theorem of_laid {W : World} (h : laidMetH Tryd.prog laidE W) : ∃ aF aL, ErrR W 0 1 188 aF aL := by
 rw [MakeChecks.laidMetH_plain _ _ _ (by kernel_rfl)] at h
 have hr : ∀ u, Tryd.prog.typeName? 3 u = some "*errors.errorString" → u = 188 := fun u hu =>
  typeName_ptr_named (nm := "errors.errorString") (by kernel_rfl) (by kernel_rfl) (by decide) u hu
 obtain ⟨a0, a1, s0, s1, c0, c1, t0, t1, hv0, hv1, _, _, _, _, _, _, hne, hb0, hb1⟩ := laid_sentinels2 h gFar tFar gLong tLong Tryd.underlying92 hr Tryd.underlying188 Tryd.underlying214 rfl rfl Tryd.underlying9 (by kernel_rfl) (by kernel_rfl)
 exact ⟨a0, a1, by simpa using World.var?_cell gFar hv0 0, by simpa using World.var?_cell gLong hv1 0, hne, ⟨c0, t0, hb0⟩, ⟨c1, t1, hb1⟩⟩

theorem destructTrue_lifted (os : Os) (started : os.Started) (H : Type) (enc : TypeId × Value → H) :
  ReturnsInHanded {} Tryd.checked os 4 .any (fun w args => (Rows.destructTrueSpec.pre enc Tryd.prog Tryd.f4 Rows.destructTrueRow.domain false w args ∧ laidMetH Tryd.prog laidE w) ∧ sizedMet enc Tryd.prog Tryd.f4 (OpenSpec.ofChange Rows.destructTrueSpec) false w args)
   (Rows.destructTrueSpec.post enc Tryd.prog Tryd.f4 false true false false) := by
 refine returnsInHanded_of_change_and (C := Tryd.checked) (X := fun w _ => laidMetH Tryd.prog laidE w) (fun _ _ _ hh h => h.of_heap hh) own_ started (by kernel_rfl) Tryd.func4
  (ChangeSpec.witness_shaped (enc := enc) (C := Tryd.checked) (os := os) (X := fun w _ => laidMetH Tryd.prog laidE w) false (World.doorLaid Tryd.prog 400 os) #[.agg #[.slice none 0 0, .int .i64 0, .int .i64 0, .int .i64 0, .int .i64 0], .agg #[.int .i64 0, .int .i64 0, .int .i64 0, .int .i64 0, .int .i64 0, .int .i64 0, .int .i64 0, .int .i64 0, .int .i64 0, .int .i64 0, .int .i64 0, .int .i64 0, .int .i64 0], .slice none 0 0] 8 rfl (World.shaped_of_RefB (by kernel_rfl) (by kernel_rfl)) (by kernel_rfl) (by kernel_rfl) (by kernel_rfl) (door_met os _)) ?_
 intro W base args ds gs before hval0 hW _ _ hL _
 have hval : ∀ (j : Nat) t v, Tryd.f4.params[j]? = some t → args[j]? = some v → Value.okWide Tryd.prog W .any base t v := hval0
 have hW' := hW
 obtain ⟨pA, pB, hA0, hV, rfl, _, _⟩ := hW
 have hA : DataW.TrodAll enc Tryd.prog W 0 (fun _ => true) true Tryd.f4.params.toList args.toList ds pA := hA0
 clear hA0 hval0
 rw [Tryd.params4] at hA hval
 obtain ⟨rfl, rfl⟩ := trodVars_none hV
 obtain ⟨v0, vs0, d0, ds0, p0, q0, ea0, rfl, rfl, h0, hA0⟩ := trodAll_cons hA
 obtain ⟨v1, vs1, d1, ds1, p1, q1, ea1, rfl, rfl, h1, hA1⟩ := trodAll_cons hA0
 obtain ⟨v2, vs2, d2, ds2, p2, q2, ea2, rfl, rfl, h2, hA2⟩ := trodAll_cons hA1
 obtain ⟨rfl, rfl, rfl⟩ := trodAll_nil hA2
 subst ea2
 subst ea1
 have ea : args = #[v0, v1, v2] := Array.toList_inj.1 ea0
 subst ea
 have k0 := hval 0 _ v0 rfl rfl
 have k1 := hval 1 _ v1 rfl rfl
 have k2 := hval 2 _ v2 rfl rfl
 obtain ⟨aF, aL, hE⟩ := of_laid hL
 obtain ⟨p, hP⟩ := open_plan (P := Tryd.prog) (by kernel_rfl) k0 h0
 obtain ⟨b, rfl, hI⟩ := open_box (P := Tryd.prog) (by kernel_rfl) k1 h1
 obtain ⟨l, hS, hl8, hll⟩ := open_u8s (P := Tryd.prog) (by kernel_rfl) k2 h2
 refine (calls_of (destructTrue_c p _ aF aL W hE hP b l _ hl8 hll hS)).mono ?_
 rintro _ W' ⟨_, rfl, rfl, hX⟩
 exact ⟨_, rfl, post_true hW' rfl hX (by kernel_rfl) (by kernel_rfl) rfl rfl rfl (by kernel_rfl) Tryd.underlying4⟩

theorem destructTrue_row : Rows.DestructTrueSaid :=
 OpenClaim.holds_of_wide 4 Tryd.f4 rfl rfl rfl rfl rfl rfl rfl ⟨rfl, rfl, rfl, rfl, rfl⟩ rfl rfl rfl rfl rfl (by kernel_rfl) Tryd.func4 (by kernel_rfl)
  (of_decide_eq_true (by kernel_rfl)) (by unfold Func.isWrapper; first | (rw [if_pos (by decide +kernel)]; kernel_rfl) | (rw [if_neg (by decide +kernel)]; exact ⟨rfl, rfl⟩))
  (fun os started H enc _ => destructTrue_lifted os started H enc)

theorem destructTrue_holds : Rows.DestructTrueCardSaid :=
 Claim7.holds_tied_plain_at .later [] [.sentinel, .sentinel] true (true, "48260a2a5b0eb76944b9e5d1a832da4a10ca173671f6f4086f1a5fa8eb5135c9") true
  destructTrue_row (fun _ h => by cases h) (by kernel_rfl) (fun _ h => by cases h) destructTrue_row_tie rfl ⟨rfl, rfl⟩ (by kernel_rfl) rfl
  (fun f fn hf hfn => by
   obtain rfl : f = 4 := Option.some.inj ((show Tryd.prog.funcNamed "hangfire/hangfirelaw06.DestructTrue" = some 4 by kernel_rfl).symm.trans hf) |>.symm
   obtain rfl : fn = Tryd.f4 := (Option.some.inj (Tryd.func4.symm.trans hfn)).symm
   exact ⟨by kernel_rfl, fun j t ht => by
    rw [Tryd.params4] at ht
    have hm : t ∈ [26, 33, 34] := by simpa using Array.mem_of_getElem? ht
    have hall : ([26, 33, 34].all fun u => !Tryd.prog.wantsStandIn u) = true := by kernel_rfl
    exact (show Tryd.prog.wantsStandIn t = false by simpa using List.all_eq_true.1 hall t hm)⟩)
  (by kernel_rfl)
#print axioms destructTrue_holds

end Go.Proofs.YtlcccpeelombbaaDoor
