/- YtlcccpeelombbaaGreatDoor: DestructKnown is proved (no condition but what the card ties): it returns true. -/
import Derived.Test.YtlcccpeelombbaaGreatDoorRows
import Derived.Test.YtlcccpeelombbaaGreatDoorCards
import Derived.Test.YtlcccpeelombbaaGreatDoorTie
import Derived.Test.YtlcccpeelombbaaGreatDoorZan
import Derived.Test.YtlcccpeelombbaaGreatDoorZad
import Derived.Test.YtlcccpeelombbaaGreatDoorZah
import Derived.ProofKit
import Derived.LaidMore
import Derived.Stop.Joined
import Derived.Stop.LaidTwo
import Derived.SevenTiedAt
set_option linter.all false
namespace Go.Proofs.YtlcccpeelombbaaGreatDoor
open Go.Vc Go.Tk Go.De Go.ChangeShapes Go.WideShapes Go.ChangeAt Go.RowKit
set_option maxRecDepth 100000
theorem lints_c (a b : List Int) (va vb : Value) (w : World) (ha : SliceR w 1 va (a.map fun n => [Value.int .i64 n])) (hb : SliceR w 1 vb (b.map fun n => [Value.int .i64 n])) (hl : (a.length : Int) ≤ 9223372036854775806) (hl2 : (b.length : Int) ≤ 9223372036854775806) : FnP Tryz.prog 19 [va, vb] w (.bool (decide (a = b))) := by
 obtain ⟨aa, ca, rfl, hca, hae⟩ := ha.ex
 obtain ⟨ab, cb, rfl, hcb, hbe⟩ := hb.ex
 simp only [List.length_map] at hca hcb ⊢
 refine fn_pure Tryz.func19 rfl (by kernel_rfl) Tryz.ntmps19 Tryz.results19 rfl ?_
 refine Vs rfl ?_
 refine La rfl rfl rfl ?_
 refine L_then (kp [0, 1] rfl) ?_
 refine V_seq ?_
 refine Vs rfl ?_
 refine Lm rfl rfl rfl ?_
 refine Lp rfl (p_len isl53 rfl rfl) ?_
 refine Lm rfl rfl rfl ?_
 refine Lp rfl (p_len isl53 rfl rfl) ?_
 refine Lp rfl (p_neq rfl rfl rfl) ?_
 refine L_then (kp [0, 1, 10] rfl) ?_
 refine V_cond rfl ?_ ?_
 ·intro c1; try simp only [td] at c1
  refine Vs rfl ?_
  refine La rfl rfl rfl ?_
  refine L_then (kp [4] rfl) ?_
  refine V_ret (then_r ?_)
  refine Leave.nil (.tmp rfl .nil) ?_
  have e : decide (a = b) = false := decide_eq_false (by rintro rfl; omega)
  rw [e]; rfl
 intro c1; try simp only [td] at c1
 refine V_skip (then_n ?_)
 refine V_seq ?_
 refine Vs rfl ?_
 refine La rfl rfl rfl ?_
 refine L_then (kp [0, 1, 5] rfl) ?_
 refine V_block ?_
 refine V_loop0 (γ := Int) (kp [0, 1] rfl) (fun k => [(5, .int .i64 k)]) (fun k => 0 ≤ k ∧ k ≤ a.length ∧ ∀ j : Nat, (j : Int) < k → a.getD j 0 = b.getD j 0) (fun k => (a.length - k).toNat) (0) (.cons rfl (.nil _)) (⟨by omega, by omega, fun j hj => by omega⟩) ?_
 rintro k hi
 obtain ⟨hk0, hk1, hkp⟩ := hi
 refine V_seq ?_
 refine Vs rfl ?_
 iterate 2 refine Lm rfl rfl rfl ?_
 refine Lp rfl (p_len isl53 rfl rfl) ?_
 refine Lp rfl (p_lss rfl rfl rfl) ?_
 refine L_then (kp [0, 1, 5, 14] rfl) ?_
 refine V_cond rfl ?_ ?_
 ·intro c2; try simp only [td] at c2
  obtain ⟨xa, rfl, hxa⟩ := hae k.toNat _ (getD_cells (f := fun n : Int => [Value.int .i64 n]) (d := 0) (by omega))
  obtain ⟨xb, rfl, hxb⟩ := hbe k.toNat _ (getD_cells (f := fun n : Int => [Value.int .i64 n]) (d := 0) (by omega))
  refine V_skip (then_n ?_)
  refine V_seq ?_
  refine V_block ?_
  refine V_seq (V_draw (.rd 0 (.rd 1 (.rd 2 (.rd 3 (.rd 4 (.rd 5 (.rd 6 (.rd 7 (.rd 8 .done))))))))) mixed (by kernel_rfl) rfl ?_)
  iterate 2 refine Dm rfl rfl rfl rfl ?_
  refine Dp rfl rfl (p_idx es53 rfl rfl rfl (by omega) (by omega)) ?_
  refine Dr rfl rfl (r_loadB ag3 rfl rfl (hxa.zero) List.not_mem_nil) ?_
  iterate 2 refine Dm rfl rfl rfl rfl ?_
  refine Dp rfl rfl (p_idx es53 rfl rfl rfl (by omega) (by omega)) ?_
  refine Dr rfl rfl (r_loadB ag3 rfl rfl (hxb.zero) List.not_mem_nil) ?_
  refine Dp rfl rfl (p_neq rfl rfl rfl) ?_
  refine D_then (kp [0, 1, 5, 25] rfl) ?_
  refine V_cond rfl ?_ ?_
  ·intro c3; try simp only [td] at c3
   refine Vs rfl ?_
   refine La rfl rfl rfl ?_
   refine L_then (kp [4] rfl) ?_
   refine V_ret (blk_r (then_r (then_r (blk_r (then_r ?_)))))
   refine Leave.nil (.tmp rfl .nil) ?_
   rw [ints_ne c3]; rfl
  intro c3; try simp only [td] at c3
  refine V_skip (blk_n (then_n ?_))
  refine V_region rfl ?_
  refine Lm rfl rfl rfl ?_
  first | refine Lp rfl (p_add' rfl rfl rfl (by unfold InI; omega)) ?_ | refine Lp rfl (p_add rfl rfl rfl) ?_
  refine La rfl rfl rfl ?_
  refine L_keep (kp [0, 1, 5] rfl) (then_n ?_)
  refine ⟨k + 1, ?_, ?_, (.cons rfl (.cons rfl (.cons rfl (.nil _)))), (by repeat (first | exact List.Sublist.refl _ | apply List.Sublist.cons_cons | apply List.Sublist.cons | apply List.sublist_append_of_sublist_right)), rfl⟩
  ·refine ⟨by omega, by omega, fun j hj => ?_⟩; by_cases e : (j : Int) < k
   ·exact hkp j e
   have ej : j = k.toNat := by omega
   rw [ej]; exact c3
  omega
 intro c2; try simp only [td] at c2
 refine V_exit (then_e (then_e (blk_e rfl (then_n ?_))))
 refine Vs rfl ?_
 refine La rfl rfl rfl ?_
 refine L_then (kp [4] rfl) ?_
 refine V_ret ?_
 refine Leave.nil (.tmp rfl .nil) ?_
 have e : a = b := ints_eq (by omega) (fun j hj => hkp j (by omega))
 rw [decide_eq_true e]; rfl
theorem lints_same (a : List Int) (va vb : Value) (w : World) (ha : SliceR w 1 va (a.map fun n => [Value.int .i64 n])) (hb : SliceR w 1 vb (a.map fun n => [Value.int .i64 n])) (hl : (a.length : Int) ≤ 9223372036854775806) : FnP Tryz.prog 19 [va, vb] w (.bool true) := by
 have h := lints_c a a va vb w ha hb hl hl
 rwa [decide_eq_true rfl] at h

def exBx2 : Box := ⟨50, ⟨0, 10⟩, ⟨0, 0⟩, ⟨1000, 1500⟩, ⟨100, 110⟩, ⟨-5, 5⟩, ⟨0, 0⟩⟩
def exPl2 : De.Plan := ⟨[⟨1, 0, 0, 4999⟩, ⟨0, -1, 50000, 80000⟩], ⟨98, 98⟩, 2, 10⟩
theorem exk_R2 {w : World} {b ty : Nat} {fr : Nat × Nat} (h : w.heap[b]? = some (.cells ((exPl2.lines.map Line.cells).flatten).toArray ty fr)) : PlanR w (exPV b) exPl2 := by
 refine ⟨by decide, _, rfl, own_rows h rfl ?_ rfl (by decide)⟩
 intro e he; obtain ⟨x, _, rfl⟩ := List.mem_map.1 he; rfl
theorem exk_fall (w : World) (b1 : Nat) (aF aL : Addr) (hE : ErrR w 0 1 194 aF aL) (h : PlanR w (exPV b1) exPl) : FnP Tryz.prog 8 [exPV b1, .agg (Box.cells exBx2).toArray] w (.tuple #[.agg #[.int .i64 (600), .int .i64 (780), .int .i64 (-35), .int .i64 (35)], .agg #[.int .i64 (56), .int .i64 (57)], .int .i64 0]) := by
 have e0 : De.fallP exPl exBx2 = ⟨⟨600, 780⟩, ⟨-35, 35⟩, ⟨56, 57⟩, 0⟩ := by kernel_rfl
 have h1 := dFall_c exBx2 exPl _ aF aL w hE h
 simp only [e0] at h1
 exact h1
theorem exk_keeps (w : World) (b1 : Nat) (h : PlanR w (exPV b1) exPl) : FnP Tryz.prog 20 [exPV b1, .agg #[.int .i64 (600), .int .i64 (670), .int .i64 (-30), .int .i64 (30)]] w (.tuple #[.bool true, .int .i64 0]) := by
 have e0 : keepsB exPl ⟨600, 670⟩ ⟨-30, 30⟩ = true := by kernel_rfl
 have e1 : areaE exPl ⟨600, 670⟩ ⟨-30, 30⟩ = 0 := by kernel_rfl
 have h1 := dkeeps_c ⟨600, 670⟩ ⟨-30, 30⟩ exPl _ w h
 simp only [e0, e1] at h1
 exact h1
theorem exk_sure0 (w : World) (b1 : Nat) (h : PlanR w (exPV b1) exPl) : FnP Tryz.prog 22 [exPV b1, .agg #[.int .i64 (200001), .int .i64 (200005), .int .i64 (0), .int .i64 (0)]] w (.tuple #[.bool true, .int .i64 (0), .int .i64 0]) := by
 have e0 : sureB exPl ⟨200001, 200005⟩ ⟨0, 0⟩ = true := by kernel_rfl
 have e1 : sureI exPl ⟨200001, 200005⟩ ⟨0, 0⟩ = 0 := by kernel_rfl
 have e2 : areaE exPl ⟨200001, 200005⟩ ⟨0, 0⟩ = 0 := by kernel_rfl
 have h1 := dsure_c ⟨200001, 200005⟩ ⟨0, 0⟩ exPl _ w h
 simp only [e0, e1, e2] at h1
 exact h1
theorem exk_sure1 (w : World) (b1 : Nat) (h : PlanR w (exPV b1) exPl) : FnP Tryz.prog 22 [exPV b1, .agg #[.int .i64 (200000), .int .i64 (200005), .int .i64 (0), .int .i64 (0)]] w (.tuple #[.bool false, .int .i64 (-1), .int .i64 0]) := by
 have e0 : sureB exPl ⟨200000, 200005⟩ ⟨0, 0⟩ = false := by kernel_rfl
 have e1 : sureI exPl ⟨200000, 200005⟩ ⟨0, 0⟩ = -1 := by kernel_rfl
 have e2 : areaE exPl ⟨200000, 200005⟩ ⟨0, 0⟩ = 0 := by kernel_rfl
 have h1 := dsure_c ⟨200000, 200005⟩ ⟨0, 0⟩ exPl _ w h
 simp only [e0, e1, e2] at h1
 exact h1
theorem exk_used (w : World) (b1 : Nat) (h : PlanR w (exPV b1) exPl) : FnP Tryz.prog 13 [exPV b1, exTV, .int .i64 0] w (.tuple #[.agg #[.int .i64 (3), .int .i64 (-600), .int .i64 (600), .int .i64 (-600), .int .i64 (600), .int .i64 (-600), .int .i64 (600), .int .i64 (-400), .int .i64 (400), .int .i64 (-400), .int .i64 (400), .int .i64 (-400), .int .i64 (400)], .int .i64 0, .int .i64 0]) := by
 have e0 : usedP exPl exTk 0 = (⟨3, ⟨-600, 600⟩, ⟨-600, 600⟩, ⟨-600, 600⟩, ⟨-400, 400⟩, ⟨-400, 400⟩, ⟨-400, 400⟩⟩, 0) := by kernel_rfl
 have e1 : usedE exPl exTk 0 = 0 := by kernel_rfl
 have h1 := dUsed_c 0 exPl _ w h exTk _ _ (exTkR w)
 simp only [e0, e1] at h1
 exact h1
theorem exk_side (w : World) (b1 : Nat) (h : PlanR w (exPV b1) exPl) : FnC Tryz.prog 17 [exPV b1, .agg #[.int .i64 (600), .int .i64 (670), .int .i64 (-30), .int .i64 (30)]] w fun v w' => ∃ Hc, Vc.Good w [] Hc w' ∧ ∃ A G, Hc = A ++ G ∧ ListOut 3 [199330, 79970] (fun sv => .tuple #[sv, .int .i64 0]) v A G := by
 have e1 : areaE exPl ⟨600, 670⟩ ⟨-30, 30⟩ = 0 := by kernel_rfl
 have e2 : sideL exPl ⟨600, 670⟩ ⟨-30, 30⟩ = [199330, 79970] := by kernel_rfl
 have h1 := dside_c ⟨600, 670⟩ ⟨-30, 30⟩ exPl _ w h
 rw [e1, e2] at h1
 exact h1
theorem exk_dec (w : World) (b1 : Nat) (aF aL : Addr) (hE : ErrR w 0 1 194 aF aL) (h : PlanR w (exPV b1) exPl2) : FnP Tryz.prog 11 [exPV b1, exTV, .int .i64 0, .int .i64 5] w (.tuple #[.agg #[.int .i64 0, .int .i64 1, .int .i64 0], .int .i64 0]) := by
 have e : decP exPl2 exTk 0 5 = (⟨0, 1, 0⟩, 0) := by kernel_rfl
 have h1 := dDecide_c 0 5 exPl2 _ aF aL w hE h exTk _ _ (exTkR w)
 simp only [e] at h1
 exact h1
set_option maxHeartbeats 8000000 in
theorem destructKnown_c (aF aL : Addr) (w : World) (hE : ErrR w 0 1 194 aF aL) : FnP Tryz.prog 7 [] w (.bool true) := by
 refine fn_pure Tryz.func7 rfl (by kernel_rfl) Tryz.ntmps7 Tryz.results7 rfl ?_
 refine Vs rfl ?_
 refine La rfl rfl rfl ?_
 refine L_then .nil ?_
 refine Vs rfl ?_
 refine Lw rfl (w_callN rfl rfl rfl (fun w hg => lplan_c w)) ?_
 rintro _ _ ⟨_, rfl, _, x1, rfl, rfl⟩
 refine Lc rfl rfl rfl rfl (fun w hg => lbox_c w) ?_
 refine Lw rfl (w_alloc zr26 rfl) ?_
 rintro _ _ ⟨b2, hb2, rfl, rfl⟩
 refine Lw rfl (w_alloc zr28 rfl) ?_
 rintro _ _ ⟨b3, hb3, rfl, rfl⟩
 refine Ls (cs' := [_, _, _, _, _]) rfl sz26 rfl rfl rfl rfl rfl rfl rfl ?_
 refine Ls (cs' := [_, _, _, _, _, _, _, _, _, _, _, _, _]) rfl sz28 rfl rfl rfl rfl rfl rfl rfl ?_
 refine L_then (kp [1, 2] rfl) ?_
 refine Vs rfl ?_
 refine Lc rfl rfl rfl rfl (fun w hg => lspan6_c _ _ w) ?_
 refine Lp rfl (p_fieldo fo28_3 rfl rfl) ?_
 refine Ls (cs' := [_, _, _, _, _, _, _, _, _, _, _, _, _]) rfl sz24 rfl rfl rfl rfl rfl rfl rfl ?_
 refine L_then (kp [1, 2] rfl) ?_
 refine Vs rfl ?_
 refine Lr rfl (rlA (vs := [_, _, _, _, _]) ag26 sz26 rfl rfl rfl) ?_
 refine Lr rfl (rlA (vs := [_, _, _, _, _, _, _, _, _, _, _, _, _]) ag28 sz28 rfl rfl rfl) ?_
 refine Lc rfl rfl rfl rfl (fun w hg => exk_fall w _ aF aL (hE.good hg) (exPlR (hg.own (x1, _) (by repeat first | exact mH | apply mT | apply List.mem_append_right)))) ?_
 refine Lm rfl rfl rfl ?_
 iterate 3 refine Lp rfl (p_ext rfl rfl rfl) ?_
 refine Lw rfl (w_alloc zr30 rfl) ?_
 rintro _ _ ⟨b4, hb4, rfl, rfl⟩
 refine Lw rfl (w_alloc zr24 rfl) ?_
 rintro _ _ ⟨b5, hb5, rfl, rfl⟩
 refine Ls (cs' := [_, _, _, _]) rfl sz30 rfl rfl rfl rfl rfl rfl rfl ?_
 refine Ls (cs' := [_, _]) rfl sz24 rfl rfl rfl rfl rfl rfl rfl ?_
 refine La rfl rfl rfl ?_
 refine L_then (kp [1, 3, 4, 5] rfl) ?_
 refine V_seq (V_draw (.rd 0 (.wr 1 [0] (.wr 2 [] (.rd 3 (.rd 4 (.rd 5 (.rd 6 (.rd 7 .done)))))))) mixed (by kernel_rfl) rfl ?_)
 refine Dr rfl rfl (rlA (vs := [_, _, _, _, _]) ag26 sz26 rfl rfl rfl) ?_
 refine D_wr (.go (E' := [(0, _)]) rfl (.plain rfl) (w_callP rfl rfl rfl (fun w hg => larea_c _ _ _ _ w)) rfl ?_)
 rintro _ _ ⟨rfl, rfl⟩
 refine ⟨(.cons rfl (.plain rfl) (rlA (vs := [_, _, _, _, _]) ag26 sz26 rfl rfl rfl) .nil), ?_⟩
 refine D_wr (.go (E' := []) rfl (.plain rfl) (w_callG (pre := [_, _, _, _, _]) rfl rfl rfl rfl (fun w hg => exk_side w _ (exPlR (hg.own (x1, _) (by repeat first | exact mH | apply mT | apply List.mem_append_right))))) rfl ?_)
 rintro _ _ ⟨_, G6, rfl, hfr6, sv6, rfl, rfl, hgr6⟩
 try simp only [List.cons_append, List.nil_append, List.append_nil]
 refine ⟨.nil, ?_⟩
 refine Dm rfl rfl rfl rfl ?_
 iterate 2 refine Dp rfl rfl (p_ext rfl rfl rfl) ?_
 iterate 2 refine Dp rfl rfl (p_assign rfl rfl) ?_
 refine D_then (kp [1, 3, 4, 5, 6, 7] rfl) ?_
 refine V_seq (V_draw (.rd 0 (.wr 1 [0] (.wr 2 [] (.rd 3 (.rd 4 (.rd 5 (.rd 6 (.rd 7 .done)))))))) mixed (by kernel_rfl) rfl ?_)
 refine Dr rfl rfl (rlA (vs := [_, _, _, _, _]) ag26 sz26 rfl rfl rfl) ?_
 refine D_wr (.go (E' := [(0, _)]) rfl (.plain rfl) (w_callP rfl rfl rfl (fun w hg => larea_c _ _ _ _ w)) rfl ?_)
 rintro _ _ ⟨rfl, rfl⟩
 refine ⟨(.cons rfl (.plain rfl) (rlA (vs := [_, _, _, _, _]) ag26 sz26 rfl rfl rfl) .nil), ?_⟩
 refine D_wr (.go (E' := []) rfl (.plain rfl) (w_callP rfl rfl rfl (fun w hg => exk_keeps w _ (exPlR (hg.own (x1, _) (by repeat first | exact mH | apply mT | apply List.mem_append_right))))) rfl ?_)
 rintro _ _ ⟨rfl, rfl⟩
 refine ⟨.nil, ?_⟩
 refine Dm rfl rfl rfl rfl ?_
 iterate 2 refine Dp rfl rfl (p_ext rfl rfl rfl) ?_
 iterate 2 refine Dp rfl rfl (p_assign rfl rfl) ?_
 refine D_then (kp [1, 3, 4, 5, 6, 7, 8, 9] rfl) ?_
 refine V_seq ?_
 refine V_seq (V_draw (.rd 0 (.rd 1 (.rd 2 (.rd 3 (.rd 4 (.rd 5 (.rd 6 (.rd 7 (.rd 8 (.rd 9 (.rd 10 (.rd 11 (.wr 12 [11, 9, 8, 7, 6, 5, 4, 3, 2, 1, 0] (.rd 13 (.rd 14 (.rd 15 (.rd 16 (.wr 17 [16, 14, 13, 11, 10, 9, 8, 7, 6, 5, 4, 3, 2, 1, 0] (.rd 18 (.rd 19 (.rd 20 (.rd 21 (.wr 22 [21, 19, 18, 16, 15, 14, 13, 11, 10, 9, 8, 7, 6, 5, 4, 3, 2, 1, 0] (.wr 23 [19, 18, 16, 15, 14, 13, 11, 10, 9, 8, 7, 6, 5, 4, 3, 2, 1, 0] (.rd 24 (.rd 25 (.rd 26 (.rd 27 (.rd 28 (.rd 29 .done)))))))))))))))))))))))))))))) mixed (by kernel_rfl) rfl ?_)
 refine Dm rfl rfl rfl rfl ?_
 refine Dp rfl rfl (p_neq rfl rfl rfl) ?_
 refine Dm rfl rfl rfl rfl ?_
 refine D_p rfl (.yes rfl rfl rfl (by first | rfl | simp | decide)) (p_move rfl rfl) ?_
 refine D_p rfl (.yes rfl rfl rfl (by first | rfl | simp | decide)) (p_neq rfl rfl rfl) ?_
 refine Dp rfl rfl (p_pick_f rfl rfl (by first | rfl | simp | decide) rfl) ?_
 refine Dm rfl rfl rfl rfl ?_
 refine D_p rfl (.yes rfl rfl rfl (by first | rfl | simp | decide)) (p_move rfl rfl) ?_
 refine D_p rfl (.yes rfl rfl rfl (by first | rfl | simp | decide)) (p_neq rfl rfl rfl) ?_
 refine Dp rfl rfl (p_pick_f rfl rfl (by first | rfl | simp | decide) rfl) ?_
 refine Dm rfl rfl rfl rfl ?_
 refine D_rd rfl (.yes rfl rfl rfl (by first | rfl | simp | decide)) (rlA (vs := [_, _, _, _]) ag30 sz30 rfl rfl rfl) ?_
 refine D_wr (.go (E' := [(11, _)]) rfl (.yes rfl rfl rfl (by first | rfl | simp | decide)) (w_callP rfl rfl rfl (fun w hg => larea_c _ _ _ _ w)) rfl ?_)
 rintro _ _ ⟨rfl, rfl⟩
 refine ⟨(.cons rfl (.yes rfl rfl rfl (by first | rfl | simp | decide)) (rlA (vs := [_, _, _, _]) ag30 sz30 rfl rfl rfl) .nil), ?_⟩
 refine D_p rfl (.yes rfl rfl rfl (by first | rfl | simp | decide)) (p_neS lv30 ag30 eg30 rfl rfl rfl rfl rfl) ?_
 refine Dp rfl rfl (p_pick_f rfl rfl (by first | rfl | simp | decide) rfl) ?_
 refine Dm rfl rfl rfl rfl ?_
 refine D_rd rfl (.yes rfl rfl rfl (by first | rfl | (simp; done) | (simp [eqL, eqv, Box.cells]; done) | decide)) (rlA (vs := [_, _]) ag24 sz24 rfl rfl rfl) ?_
 refine D_wr (.go (E' := [(16, _), (11, _)]) rfl (.yes rfl rfl rfl (by first | rfl | (simp; done) | (simp [eqL, eqv, Box.cells]; done) | decide)) (w_callP rfl rfl rfl (fun w hg => lspan6_c _ _ w)) rfl ?_)
 rintro _ _ ⟨rfl, rfl⟩
 refine ⟨(.cons rfl (.yes rfl rfl rfl (by first | rfl | (simp; done) | (simp [eqL, eqv, Box.cells]; done) | decide)) (rlA (vs := [_, _]) ag24 sz24 rfl rfl rfl) (.cons rfl (.yes rfl rfl rfl (by first | rfl | simp | decide)) (rlA (vs := [_, _, _, _]) ag30 sz30 rfl rfl rfl) .nil)), ?_⟩
 refine D_p rfl (.yes rfl rfl rfl (by first | rfl | (simp; done) | (simp [eqL, eqv, Box.cells]; done) | decide)) (p_neS lv24 ag24 eg24 rfl rfl rfl rfl rfl) ?_
 refine Dp rfl rfl (p_pick_f rfl rfl (by first | rfl | (simp; done) | (simp [eqL, eqv, Box.cells]; done) | decide) rfl) ?_
 refine Dm rfl rfl rfl rfl ?_
 refine D_p rfl (.yes rfl rfl rfl (by first | rfl | (simp; done) | (simp [eqL, eqv, Box.cells]; done) | decide)) (p_move rfl rfl) ?_
 refine D_wr (.go (E' := [(16, _), (11, _)]) rfl (.yes rfl rfl rfl (by first | rfl | (simp; done) | (simp [eqL, eqv, Box.cells]; done) | decide)) (w_slice (r := [_, _]) un53 sz3 zr3 rfl (by decide) rfl (by decide) rfl rfl) rfl ?_)
 rintro _ _ ⟨b7, hb7, rfl, rfl⟩
 refine ⟨(.cons rfl (.yes rfl rfl rfl (by first | rfl | (simp; done) | (simp [eqL, eqv, Box.cells]; done) | decide)) (rlA (vs := [_, _]) ag24 sz24 rfl rfl rfl) (.cons rfl (.yes rfl rfl rfl (by first | rfl | simp | decide)) (rlA (vs := [_, _, _, _]) ag30 sz30 rfl rfl rfl) .nil)), ?_⟩
 refine D_wr (.go (E' := [(16, _), (11, _)]) rfl (.yes rfl rfl rfl (by first | rfl | (simp; done) | (simp [eqL, eqv, Box.cells]; done) | decide)) (w_callP rfl rfl rfl (fun w hg => lints_same [199330, 79970] _ _ w (Grow.slice hgr6 (fun p hp => hg.own p (by repeat first | exact hp | exact List.mem_append_left _ hp | apply List.mem_append_right | apply mT))) (own_ints (l := [199330, 79970]) (hg.own (b7, _) (by repeat first | exact mH | apply mT | apply List.mem_append_right)) rfl (by decide)) (by decide))) rfl ?_)
 rintro _ _ ⟨rfl, rfl⟩
 refine ⟨(.cons rfl (.yes rfl rfl rfl (by first | rfl | (simp; done) | (simp [eqL, eqv, Box.cells]; done) | decide)) (rlA (vs := [_, _]) ag24 sz24 rfl rfl rfl) (.cons rfl (.yes rfl rfl rfl (by first | rfl | simp | decide)) (rlA (vs := [_, _, _, _]) ag30 sz30 rfl rfl rfl) .nil)), ?_⟩
 refine D_p rfl (.yes rfl rfl rfl (by first | rfl | (simp; done) | (simp [eqL, eqv, Box.cells]; done) | decide)) (p_not rfl rfl) ?_
 refine Dp rfl rfl (p_pick_f rfl rfl (by first | rfl | (simp; done) | (simp [eqL, eqv, Box.cells]; done) | decide) rfl) ?_
 refine Dm rfl rfl rfl rfl ?_
 refine D_p rfl (.yes rfl rfl rfl rfl) (p_move rfl rfl) ?_
 refine D_p rfl (.yes rfl rfl rfl rfl) (p_not rfl rfl) ?_
 refine Dp rfl rfl (p_pick_f rfl rfl rfl rfl) ?_
 refine D_then (kp [1, 73] rfl) ?_
 refine V_cond_f rfl rfl ?_
 refine V_skip (then_n ?_)
 refine V_seq (V_draw (.rd 0 (.wr 1 [0] (.wr 2 [] (.rd 3 (.rd 4 (.rd 5 (.rd 6 (.rd 7 (.rd 8 (.rd 9 .done)))))))))) mixed (by kernel_rfl) rfl ?_)
 refine Dr rfl rfl (rlA (vs := [_, _, _, _, _]) ag26 sz26 rfl rfl rfl) ?_
 refine D_wr (.go (E' := [(0, _)]) rfl (.plain rfl) (w_callP rfl rfl rfl (fun w hg => larea_c _ _ _ _ w)) rfl ?_)
 rintro _ _ ⟨rfl, rfl⟩
 refine ⟨(.cons rfl (.plain rfl) (rlA (vs := [_, _, _, _, _]) ag26 sz26 rfl rfl rfl) .nil), ?_⟩
 refine D_wr (.go (E' := []) rfl (.plain rfl) (w_callP rfl rfl rfl (fun w hg => exk_sure0 w _ (exPlR (hg.own (x1, _) (by repeat first | exact mH | apply mT | apply List.mem_append_right))))) rfl ?_)
 rintro _ _ ⟨rfl, rfl⟩
 refine ⟨.nil, ?_⟩
 refine Dm rfl rfl rfl rfl ?_
 iterate 3 refine Dp rfl rfl (p_ext rfl rfl rfl) ?_
 iterate 3 refine Dp rfl rfl (p_assign rfl rfl) ?_
 refine D_then (kp [1, 5, 10, 11] rfl) ?_
 refine V_seq (V_draw (.rd 0 (.wr 1 [0] (.wr 2 [] (.rd 3 (.rd 4 (.rd 5 (.rd 6 (.rd 7 (.rd 8 (.rd 9 .done)))))))))) mixed (by kernel_rfl) rfl ?_)
 refine Dr rfl rfl (rlA (vs := [_, _, _, _, _]) ag26 sz26 rfl rfl rfl) ?_
 refine D_wr (.go (E' := [(0, _)]) rfl (.plain rfl) (w_callP rfl rfl rfl (fun w hg => larea_c _ _ _ _ w)) rfl ?_)
 rintro _ _ ⟨rfl, rfl⟩
 refine ⟨(.cons rfl (.plain rfl) (rlA (vs := [_, _, _, _, _]) ag26 sz26 rfl rfl rfl) .nil), ?_⟩
 refine D_wr (.go (E' := []) rfl (.plain rfl) (w_callP rfl rfl rfl (fun w hg => exk_sure1 w _ (exPlR (hg.own (x1, _) (by repeat first | exact mH | apply mT | apply List.mem_append_right))))) rfl ?_)
 rintro _ _ ⟨rfl, rfl⟩
 refine ⟨.nil, ?_⟩
 refine Dm rfl rfl rfl rfl ?_
 iterate 3 refine Dp rfl rfl (p_ext rfl rfl rfl) ?_
 iterate 3 refine Dp rfl rfl (p_assign rfl rfl) ?_
 refine D_then (kp [1, 5, 7, 10, 11, 12, 13] rfl) ?_
 refine V_seq (V_draw (.rd 0 (.wr2 1 [0] (.wr2 2 [] (.rd 3 (.rd 4 (.rd 5 (.rd 6 (.wr 7 [6, 5, 4, 3, 0] (.wr 8 [6, 5] (.rd 9 (.rd 10 .done)))))))) 7 [0] (.wr 2 [] (.rd 3 (.rd 4 (.rd 5 (.rd 6 (.wr 8 [6, 5] (.rd 9 (.rd 10 .done))))))))) 7 [0] (.wr 1 [0] (.wr 2 [] (.rd 3 (.rd 4 (.rd 5 (.rd 6 (.wr 8 [6, 5] (.rd 9 (.rd 10 .done))))))))))) mixed (by kernel_rfl) rfl ?_)
 refine Dr rfl rfl (rlA (vs := [_, _, _, _, _]) ag26 sz26 rfl rfl rfl) ?_
 refine D_wr2 rfl ?_ ?_
 ·refine (.go (E' := [(0, _)]) rfl (.plain rfl) (w_callP rfl rfl rfl (fun w hg => ltask_c w)) rfl ?_)
  rintro _ _ ⟨rfl, rfl⟩
  refine ⟨(.cons rfl (.plain rfl) (rlA (vs := [_, _, _, _, _]) ag26 sz26 rfl rfl rfl) .nil), ?_⟩
  refine D_wr2 rfl ?_ ?_
  ·refine (.go (E' := []) rfl (.plain rfl) (w_callP rfl rfl rfl (fun w hg => exk_used w _ (exPlR (hg.own (x1, _) (by repeat first | exact mH | apply mT | apply List.mem_append_right))))) rfl ?_)
   rintro _ _ ⟨rfl, rfl⟩
   refine ⟨.nil, ?_⟩
   refine Dm rfl rfl rfl rfl ?_
   iterate 3 refine Dp rfl rfl (p_ext rfl rfl rfl) ?_
   refine D_wr (.go (E' := []) rfl (.plain rfl) (w_alloc zr28 rfl) rfl ?_)
   rintro _ _ ⟨b8, hb8, rfl, rfl⟩
   refine ⟨.nil, ?_⟩
   refine D_wr (.go (E' := []) rfl (.plain rfl) (ws (cs' := [_, _, _, _, _, _, _, _, _, _, _, _, _]) sz28 rfl rfl rfl rfl rfl rfl rfl) rfl ?_)
   rintro _ _ ⟨rfl, rfl⟩
   refine ⟨.nil, ?_⟩
   iterate 2 refine Dp rfl rfl (p_assign rfl rfl) ?_
   refine D_then (kp [1, 5, 7, 9, 10, 11, 12, 13, 14, 15] rfl) ?_
   refine V_seq (V_draw (.rd 0 (.wr2 1 [0] (.wr2 2 [] (.rd 3 (.rd 4 (.rd 5 (.wr 6 [5, 4, 3, 0] (.wr 7 [5] (.rd 8 .done)))))) 6 [0] (.wr 2 [] (.rd 3 (.rd 4 (.rd 5 (.wr 7 [5] (.rd 8 .done))))))) 6 [0] (.wr 1 [0] (.wr 2 [] (.rd 3 (.rd 4 (.rd 5 (.wr 7 [5] (.rd 8 .done))))))))) mixed (by kernel_rfl) rfl ?_)
   refine Dr rfl rfl (rlA (vs := [_, _, _, _, _]) ag26 sz26 rfl rfl rfl) ?_
   refine D_wr2 rfl ?_ ?_
   ·refine (.go (E' := [(0, _)]) rfl (.plain rfl) (w_callP rfl rfl rfl (fun w hg => ltask_c w)) rfl ?_)
    rintro _ _ ⟨rfl, rfl⟩
    refine ⟨(.cons rfl (.plain rfl) (rlA (vs := [_, _, _, _, _]) ag26 sz26 rfl rfl rfl) .nil), ?_⟩
    refine D_wr2 rfl ?_ ?_
    ·refine (.go (E' := []) rfl (.plain rfl) (w_callP rfl rfl rfl (fun w hg => exa_look w _ aF aL (hE.good hg) (exPlR (hg.own (x1, _) (by repeat first | exact mH | apply mT | apply List.mem_append_right))))) rfl ?_)
     rintro _ _ ⟨rfl, rfl⟩
     refine ⟨.nil, ?_⟩
     refine Dm rfl rfl rfl rfl ?_
     iterate 2 refine Dp rfl rfl (p_ext rfl rfl rfl) ?_
     refine D_wr (.go (E' := []) rfl (.plain rfl) (w_alloc zr49 rfl) rfl ?_)
     rintro _ _ ⟨b9, hb9, rfl, rfl⟩
     refine ⟨.nil, ?_⟩
     refine D_wr (.go (E' := []) rfl (.plain rfl) (w_storeAll (cs' := [_, _, _, _, _, _, _, _, _, _, _, _, _, _, _, _, _, _, _, _, _]) sz49 rfl rfl rfl rfl rfl rfl (by repeat first | exact .head | apply SetAt.tail) rfl) rfl ?_)
     rintro _ _ ⟨rfl, rfl⟩
     refine ⟨.nil, ?_⟩
     refine Dp rfl rfl (p_assign rfl rfl) ?_
     refine D_then (kp [1, 5, 7, 9, 10, 11, 12, 13, 14, 15, 16, 17] rfl) ?_
     refine V_seq ?_
     refine Vs rfl ?_
     refine Lm rfl rfl rfl ?_
     refine Lp rfl (p_neq rfl rfl rfl) ?_
     refine Lm rfl rfl rfl ?_
     refine L_yes rfl rfl rfl (by first | rfl | simp | decide) (X_p (p_move rfl rfl) ?_)
     refine L_yes rfl rfl rfl (by first | rfl | simp | decide) (X_p (p_neq rfl rfl rfl) ?_)
     refine Lp rfl (p_pick_f rfl rfl (by first | rfl | simp | decide) rfl) ?_
     refine Lm rfl rfl rfl ?_
     refine L_yes rfl rfl rfl (by first | rfl | simp | decide) (X_p (p_move rfl rfl) ?_)
     refine L_yes rfl rfl rfl (by first | rfl | simp | decide) (X_p (p_neq rfl rfl rfl) ?_)
     refine Lp rfl (p_pick_f rfl rfl (by first | rfl | simp | decide) rfl) ?_
     refine Lm rfl rfl rfl ?_
     refine L_yes rfl rfl rfl (by first | rfl | simp | decide) (X_p (p_move rfl rfl) ?_)
     refine L_yes rfl rfl rfl (by first | rfl | simp | decide) (X_p (p_neq rfl rfl rfl) ?_)
     refine Lp rfl (p_pick_f rfl rfl (by first | rfl | simp | decide) rfl) ?_
     refine Lm rfl rfl rfl ?_
     refine L_yes rfl rfl rfl (by first | rfl | simp | decide) (X_p (p_move rfl rfl) ?_)
     refine L_yes rfl rfl rfl (by first | rfl | simp | decide) (X_p (p_not rfl rfl) ?_)
     refine Lp rfl (p_pick_f rfl rfl (by first | rfl | simp | decide) rfl) ?_
     refine Lm rfl rfl rfl ?_
     refine L_yes rfl rfl rfl rfl (X_p (p_move rfl rfl) ?_)
     refine L_yes rfl rfl rfl rfl (X_p (p_neq rfl rfl rfl) ?_)
     refine Lp rfl (p_pick_f rfl rfl rfl rfl) ?_
     refine Lm rfl rfl rfl ?_
     refine L_yes rfl rfl rfl (by first | rfl | simp | decide) (X_p (p_move rfl rfl) ?_)
     refine Lp rfl (p_pick_f rfl rfl (by first | rfl | simp | decide) rfl) ?_
     refine Lm rfl rfl rfl ?_
     refine L_yes rfl rfl rfl rfl (X_p (p_move rfl rfl) ?_)
     refine L_yes rfl rfl rfl rfl (X_p (p_neq rfl rfl rfl) ?_)
     refine Lp rfl (p_pick_f rfl rfl rfl rfl) ?_
     refine Lm rfl rfl rfl ?_
     refine L_yes rfl rfl rfl (by first | rfl | simp | decide) (X_p (p_move rfl rfl) ?_)
     refine L_yes rfl rfl rfl (by first | rfl | simp | decide) (X_p (p_neq rfl rfl rfl) ?_)
     refine Lp rfl (p_pick_f rfl rfl (by first | rfl | simp | decide) rfl) ?_
     refine L_then (kp [1, 14, 16, 133] rfl) ?_
     refine V_cond_f rfl (by first | rfl | simp | decide) ?_
     refine V_skip (then_n ?_)
     refine Vs rfl ?_
     iterate 2 refine Lc rfl rfl rfl rfl (fun w hg => lspan6_c _ _ w) ?_
     refine Lw rfl (w_alloc zr24 rfl) ?_
     rintro _ _ ⟨b10, hb10, rfl, rfl⟩
     refine Lw rfl (w_alloc zr24 rfl) ?_
     rintro _ _ ⟨b11, hb11, rfl, rfl⟩
     iterate 2 refine Ls (cs' := [_, _]) rfl sz24 rfl rfl rfl rfl rfl rfl rfl ?_
     refine L_then (kp [1, 14, 16, 18, 19] rfl) ?_
     refine V_seq ?_
     refine V_seq (V_draw (.rd 0 (.rd 1 (.rd 2 (.rd 3 (.rd 4 (.rd 5 (.rd 6 (.rd 7 (.rd 8 (.rd 9 (.rd 10 (.rd 11 (.wr 12 [11, 10, 8, 7, 6, 5, 4, 3, 2, 1, 0] (.wr 13 [11, 10, 8, 7, 6, 5, 4, 3, 2, 1, 0] (.rd 14 (.rd 15 (.rd 16 .done))))))))))))))))) mixed (by kernel_rfl) rfl ?_)
     refine Dr rfl rfl (rlA (vs := [_, _, _, _, _, _, _, _, _, _, _, _, _]) ag28 sz28 rfl rfl rfl) ?_
     iterate 6 refine Dr rfl rfl (rlA (vs := [_, _]) ag24 sz24 rfl rfl rfl) ?_
     refine Dp rfl rfl (p_build (r := [_, _, _, _, _, _, _, _, _, _, _, _, _]) pl28 zr28 rfl rfl rfl) ?_
     refine Dp rfl rfl (p_neS lv28 ag28 eg28 rfl rfl rfl rfl rfl) ?_
     refine Dm rfl rfl rfl rfl ?_
     refine D_rd rfl (.yes rfl rfl rfl (by first | rfl | (simp; done) | (simp [eqL, eqv, Box.cells]; done) | decide)) (rlA (vs := [_, _, _, _, _, _, _, _, _, _, _, _, _, _, _, _, _, _, _, _, _]) ag49 sz49 rfl rfl rfl) ?_
     refine D_rd rfl (.yes rfl rfl rfl (by first | rfl | (simp; done) | (simp [eqL, eqv, Box.cells]; done) | decide)) (rlA (vs := [_, _, _, _, _, _, _, _, _, _, _, _, _]) ag28 sz28 rfl rfl rfl) ?_
     refine D_wr (.go (E' := [(11, _), (10, _), (6, _), (5, _), (4, _), (3, _), (2, _), (1, _), (0, _)]) rfl (.yes rfl rfl rfl (by first | rfl | (simp; done) | (simp [eqL, eqv, Box.cells]; done) | decide)) (w_callP rfl rfl rfl (fun w hg => larea_c _ _ _ _ w)) rfl ?_)
     rintro _ _ ⟨rfl, rfl⟩
     refine ⟨(.cons rfl (.yes rfl rfl rfl (by first | rfl | (simp; done) | (simp [eqL, eqv, Box.cells]; done) | decide)) (rlA (vs := [_, _, _, _, _, _, _, _, _, _, _, _, _]) ag28 sz28 rfl rfl rfl) (.cons rfl (.yes rfl rfl rfl (by first | rfl | (simp; done) | (simp [eqL, eqv, Box.cells]; done) | decide)) (rlA (vs := [_, _, _, _, _, _, _, _, _, _, _, _, _, _, _, _, _, _, _, _, _]) ag49 sz49 rfl rfl rfl) (.cons rfl (.plain rfl) (rlA (vs := [_, _]) ag24 sz24 rfl rfl rfl) (.cons rfl (.plain rfl) (rlA (vs := [_, _]) ag24 sz24 rfl rfl rfl) (.cons rfl (.plain rfl) (rlA (vs := [_, _]) ag24 sz24 rfl rfl rfl) (.cons rfl (.plain rfl) (rlA (vs := [_, _]) ag24 sz24 rfl rfl rfl) (.cons rfl (.plain rfl) (rlA (vs := [_, _]) ag24 sz24 rfl rfl rfl) (.cons rfl (.plain rfl) (rlA (vs := [_, _]) ag24 sz24 rfl rfl rfl) (.cons rfl (.plain rfl) (rlA (vs := [_, _, _, _, _, _, _, _, _, _, _, _, _]) ag28 sz28 rfl rfl rfl) .nil))))))))), ?_⟩
     refine D_wr (.go (E' := [(11, _), (10, _), (6, _), (5, _), (4, _), (3, _), (2, _), (1, _), (0, _)]) rfl (.yes rfl rfl rfl (by first | rfl | (simp; done) | (simp [eqL, eqv, Box.cells]; done) | decide)) (w_callP rfl rfl rfl (fun w hg => lspan6_c _ _ w)) rfl ?_)
     rintro _ _ ⟨rfl, rfl⟩
     refine ⟨(.cons rfl (.yes rfl rfl rfl (by first | rfl | (simp; done) | (simp [eqL, eqv, Box.cells]; done) | decide)) (rlA (vs := [_, _, _, _, _, _, _, _, _, _, _, _, _]) ag28 sz28 rfl rfl rfl) (.cons rfl (.yes rfl rfl rfl (by first | rfl | (simp; done) | (simp [eqL, eqv, Box.cells]; done) | decide)) (rlA (vs := [_, _, _, _, _, _, _, _, _, _, _, _, _, _, _, _, _, _, _, _, _]) ag49 sz49 rfl rfl rfl) (.cons rfl (.plain rfl) (rlA (vs := [_, _]) ag24 sz24 rfl rfl rfl) (.cons rfl (.plain rfl) (rlA (vs := [_, _]) ag24 sz24 rfl rfl rfl) (.cons rfl (.plain rfl) (rlA (vs := [_, _]) ag24 sz24 rfl rfl rfl) (.cons rfl (.plain rfl) (rlA (vs := [_, _]) ag24 sz24 rfl rfl rfl) (.cons rfl (.plain rfl) (rlA (vs := [_, _]) ag24 sz24 rfl rfl rfl) (.cons rfl (.plain rfl) (rlA (vs := [_, _]) ag24 sz24 rfl rfl rfl) (.cons rfl (.plain rfl) (rlA (vs := [_, _, _, _, _, _, _, _, _, _, _, _, _]) ag28 sz28 rfl rfl rfl) .nil))))))))), ?_⟩
     refine D_p rfl (.yes rfl rfl rfl (by first | rfl | (simp; done) | (simp [eqL, eqv, Box.cells]; done) | decide)) (p_build (r := [_, _, _, _, _, _, _, _, _, _, _, _, _, _, _, _, _, _, _, _, _]) pl49 zr49 rfl rfl rfl) ?_
     refine D_p rfl (.yes rfl rfl rfl (by first | rfl | (simp; done) | (simp [eqL, eqv, Box.cells]; done) | decide)) (p_neS lv49 ag49 eg49 rfl rfl rfl rfl rfl) ?_
     refine Dp rfl rfl (p_pick_f rfl rfl (by first | rfl | (simp; done) | (simp [eqL, eqv, Box.cells]; done) | decide) rfl) ?_
     refine D_then (kp [1, 152] rfl) ?_
     refine V_cond_f rfl (by first | rfl | (simp; done) | (simp [eqL, eqv, Box.cells]; done) | decide) ?_
     refine V_skip (then_n ?_)
     refine Vs rfl ?_
     refine Lp rfl (p_fieldo fo26_0 rfl rfl) ?_
     refine Lr rfl (rl ag22 rfl rfl rfl) ?_
     refine Lp rfl (p_build (r := [_, _, _, _]) pl68 zr68 rfl rfl rfl) ?_
     refine Lp rfl (p_idxo es22 rfl rfl rfl (by omega) (by omega)) ?_
     refine Lw rfl (w_store (cs' := (exPl2.lines.map Line.cells).flatten) sz68 rfl rfl rfl rfl rfl (by repeat first | exact .head | apply SetAt.tail) (by decide) rfl) ?_
     rintro _ _ ⟨rfl, rfl⟩
     refine L_then (kp [1] rfl) ?_
     refine V_seq (V_draw (.rd 0 (.wr2 1 [0] (.wr2 2 [] (.rd 3 (.rd 4 (.rd 5 (.wr 6 [5, 4, 3, 0] (.wr 7 [5] (.rd 8 .done)))))) 6 [0] (.wr 2 [] (.rd 3 (.rd 4 (.rd 5 (.wr 7 [5] (.rd 8 .done))))))) 6 [0] (.wr 1 [0] (.wr 2 [] (.rd 3 (.rd 4 (.rd 5 (.wr 7 [5] (.rd 8 .done))))))))) mixed (by kernel_rfl) rfl ?_)
     refine Dr rfl rfl (rlA (vs := [_, _, _, _, _]) ag26 sz26 rfl rfl rfl) ?_
     refine D_wr2 rfl ?_ ?_
     ·refine (.go (E' := [(0, _)]) rfl (.plain rfl) (w_callP rfl rfl rfl (fun w hg => ltask_c w)) rfl ?_)
      rintro _ _ ⟨rfl, rfl⟩
      refine ⟨(.cons rfl (.plain rfl) (rlA (vs := [_, _, _, _, _]) ag26 sz26 rfl rfl rfl) .nil), ?_⟩
      refine D_wr2 rfl ?_ ?_
      ·refine (.go (E' := []) rfl (.plain rfl) (w_callP rfl rfl rfl (fun w hg => exk_dec w _ aF aL (hE.good hg) (exk_R2 (hg.own (x1, _) (by repeat first | exact mH | apply mT | apply List.mem_append_right))))) rfl ?_)
       rintro _ _ ⟨rfl, rfl⟩
       refine ⟨.nil, ?_⟩
       refine Dm rfl rfl rfl rfl ?_
       iterate 2 refine Dp rfl rfl (p_ext rfl rfl rfl) ?_
       refine D_wr (.go (E' := []) rfl (.plain rfl) (w_alloc zr42 rfl) rfl ?_)
       rintro _ _ ⟨b12, hb12, rfl, rfl⟩
       refine ⟨.nil, ?_⟩
       refine D_wr (.go (E' := []) rfl (.plain rfl) (ws (cs' := [_, _, _]) sz42 rfl rfl rfl rfl rfl rfl rfl) rfl ?_)
       rintro _ _ ⟨rfl, rfl⟩
       refine ⟨.nil, ?_⟩
       refine Dp rfl rfl (p_assign rfl rfl) ?_
       refine D_then (kp [5, 20] rfl) ?_
       refine Vs rfl ?_
       refine Lm rfl rfl rfl ?_
       refine Lp rfl (p_eql rfl rfl rfl) ?_
       refine Lm rfl rfl rfl ?_
       refine L_yes rfl rfl rfl (by first | rfl | simp | decide) (X_rd (rlA (vs := [_, _, _]) ag42 sz42 rfl rfl rfl) ?_)
       refine L_yes rfl rfl rfl (by first | rfl | simp | decide) (X_p (p_build (r := [_, _, _]) pl42 zr42 rfl rfl rfl) ?_)
       refine L_yes rfl rfl rfl (by first | rfl | simp | decide) (X_p (p_eqS lv42 ag42 eg42 rfl rfl rfl rfl rfl) ?_)
       refine Lp rfl (p_pick_t rfl rfl (by first | rfl | simp | decide) rfl) ?_
       refine Lm rfl rfl rfl ?_
       refine L_yes rfl rfl rfl (by first | rfl | (simp; done) | (simp [eqL, eqv, Box.cells]; done) | decide) (X_wr (w_callP rfl rfl rfl (fun w hg => dawake_c aF aL w (hE.good hg))) ?_)
       rintro _ _ ⟨rfl, rfl⟩
       refine Lp rfl (p_pick_t rfl rfl (by first | rfl | (simp; done) | (simp [eqL, eqv, Box.cells]; done) | decide) rfl) ?_
       refine La rfl rfl rfl ?_
       refine L_then (kp [0] rfl) ?_
       refine V_ret ?_
       refine Leave.nil (.tmp rfl .nil) ?_
       rfl
      refine (.go (E' := [(0, _)]) rfl (.plain rfl) (w_alloc zr42 rfl) rfl ?_)
      rintro _ _ ⟨b12, hb12, rfl, rfl⟩
      refine ⟨(.cons rfl (.plain rfl) (rlA (vs := [_, _, _, _, _]) ag26 sz26 rfl rfl rfl) .nil), ?_⟩
      refine D_wr (.go (E' := []) rfl (.plain rfl) (w_callP rfl rfl rfl (fun w hg => exk_dec w _ aF aL (hE.good hg) (exk_R2 (hg.own (x1, _) (by repeat first | exact mH | apply mT | apply List.mem_append_right))))) rfl ?_)
      rintro _ _ ⟨rfl, rfl⟩
      refine ⟨.nil, ?_⟩
      refine Dm rfl rfl rfl rfl ?_
      iterate 2 refine Dp rfl rfl (p_ext rfl rfl rfl) ?_
      refine D_wr (.go (E' := []) rfl (.plain rfl) (ws (cs' := [_, _, _]) sz42 rfl rfl rfl rfl rfl rfl rfl) rfl ?_)
      rintro _ _ ⟨rfl, rfl⟩
      refine ⟨.nil, ?_⟩
      refine Dp rfl rfl (p_assign rfl rfl) ?_
      refine D_then (kp [5, 20] rfl) ?_
      refine Vs rfl ?_
      refine Lm rfl rfl rfl ?_
      refine Lp rfl (p_eql rfl rfl rfl) ?_
      refine Lm rfl rfl rfl ?_
      refine L_yes rfl rfl rfl (by first | rfl | simp | decide) (X_rd (rlA (vs := [_, _, _]) ag42 sz42 rfl rfl rfl) ?_)
      refine L_yes rfl rfl rfl (by first | rfl | simp | decide) (X_p (p_build (r := [_, _, _]) pl42 zr42 rfl rfl rfl) ?_)
      refine L_yes rfl rfl rfl (by first | rfl | simp | decide) (X_p (p_eqS lv42 ag42 eg42 rfl rfl rfl rfl rfl) ?_)
      refine Lp rfl (p_pick_t rfl rfl (by first | rfl | simp | decide) rfl) ?_
      refine Lm rfl rfl rfl ?_
      refine L_yes rfl rfl rfl (by first | rfl | (simp; done) | (simp [eqL, eqv, Box.cells]; done) | decide) (X_wr (w_callP rfl rfl rfl (fun w hg => dawake_c aF aL w (hE.good hg))) ?_)
      rintro _ _ ⟨rfl, rfl⟩
      refine Lp rfl (p_pick_t rfl rfl (by first | rfl | (simp; done) | (simp [eqL, eqv, Box.cells]; done) | decide) rfl) ?_
      refine La rfl rfl rfl ?_
      refine L_then (kp [0] rfl) ?_
      refine V_ret ?_
      refine Leave.nil (.tmp rfl .nil) ?_
      rfl
     refine (.go (E' := [(0, _)]) rfl (.plain rfl) (w_alloc zr42 rfl) rfl ?_)
     rintro _ _ ⟨b12, hb12, rfl, rfl⟩
     refine ⟨(.cons rfl (.plain rfl) (rlA (vs := [_, _, _, _, _]) ag26 sz26 rfl rfl rfl) .nil), ?_⟩
     refine D_wr (.go (E' := [(0, _)]) rfl (.plain rfl) (w_callP rfl rfl rfl (fun w hg => ltask_c w)) rfl ?_)
     rintro _ _ ⟨rfl, rfl⟩
     refine ⟨(.cons rfl (.plain rfl) (rlA (vs := [_, _, _, _, _]) ag26 sz26 rfl rfl rfl) .nil), ?_⟩
     refine D_wr (.go (E' := []) rfl (.plain rfl) (w_callP rfl rfl rfl (fun w hg => exk_dec w _ aF aL (hE.good hg) (exk_R2 (hg.own (x1, _) (by repeat first | exact mH | apply mT | apply List.mem_append_right))))) rfl ?_)
     rintro _ _ ⟨rfl, rfl⟩
     refine ⟨.nil, ?_⟩
     refine Dm rfl rfl rfl rfl ?_
     iterate 2 refine Dp rfl rfl (p_ext rfl rfl rfl) ?_
     refine D_wr (.go (E' := []) rfl (.plain rfl) (ws (cs' := [_, _, _]) sz42 rfl rfl rfl rfl rfl rfl rfl) rfl ?_)
     rintro _ _ ⟨rfl, rfl⟩
     refine ⟨.nil, ?_⟩
     refine Dp rfl rfl (p_assign rfl rfl) ?_
     refine D_then (kp [5, 20] rfl) ?_
     refine Vs rfl ?_
     refine Lm rfl rfl rfl ?_
     refine Lp rfl (p_eql rfl rfl rfl) ?_
     refine Lm rfl rfl rfl ?_
     refine L_yes rfl rfl rfl (by first | rfl | simp | decide) (X_rd (rlA (vs := [_, _, _]) ag42 sz42 rfl rfl rfl) ?_)
     refine L_yes rfl rfl rfl (by first | rfl | simp | decide) (X_p (p_build (r := [_, _, _]) pl42 zr42 rfl rfl rfl) ?_)
     refine L_yes rfl rfl rfl (by first | rfl | simp | decide) (X_p (p_eqS lv42 ag42 eg42 rfl rfl rfl rfl rfl) ?_)
     refine Lp rfl (p_pick_t rfl rfl (by first | rfl | simp | decide) rfl) ?_
     refine Lm rfl rfl rfl ?_
     refine L_yes rfl rfl rfl (by first | rfl | (simp; done) | (simp [eqL, eqv, Box.cells]; done) | decide) (X_wr (w_callP rfl rfl rfl (fun w hg => dawake_c aF aL w (hE.good hg))) ?_)
     rintro _ _ ⟨rfl, rfl⟩
     refine Lp rfl (p_pick_t rfl rfl (by first | rfl | (simp; done) | (simp [eqL, eqv, Box.cells]; done) | decide) rfl) ?_
     refine La rfl rfl rfl ?_
     refine L_then (kp [0] rfl) ?_
     refine V_ret ?_
     refine Leave.nil (.tmp rfl .nil) ?_
     rfl
    refine (.go (E' := [(0, _)]) rfl (.plain rfl) (w_alloc zr49 rfl) rfl ?_)
    rintro _ _ ⟨b9, hb9, rfl, rfl⟩
    refine ⟨(.cons rfl (.plain rfl) (rlA (vs := [_, _, _, _, _]) ag26 sz26 rfl rfl rfl) .nil), ?_⟩
    refine D_wr (.go (E' := []) rfl (.plain rfl) (w_callP rfl rfl rfl (fun w hg => exa_look w _ aF aL (hE.good hg) (exPlR (hg.own (x1, _) (by repeat first | exact mH | apply mT | apply List.mem_append_right))))) rfl ?_)
    rintro _ _ ⟨rfl, rfl⟩
    refine ⟨.nil, ?_⟩
    refine Dm rfl rfl rfl rfl ?_
    iterate 2 refine Dp rfl rfl (p_ext rfl rfl rfl) ?_
    refine D_wr (.go (E' := []) rfl (.plain rfl) (w_storeAll (cs' := [_, _, _, _, _, _, _, _, _, _, _, _, _, _, _, _, _, _, _, _, _]) sz49 rfl rfl rfl rfl rfl rfl (by repeat first | exact .head | apply SetAt.tail) rfl) rfl ?_)
    rintro _ _ ⟨rfl, rfl⟩
    refine ⟨.nil, ?_⟩
    refine Dp rfl rfl (p_assign rfl rfl) ?_
    refine D_then (kp [1, 5, 7, 9, 10, 11, 12, 13, 14, 15, 16, 17] rfl) ?_
    refine V_seq ?_
    refine Vs rfl ?_
    refine Lm rfl rfl rfl ?_
    refine Lp rfl (p_neq rfl rfl rfl) ?_
    refine Lm rfl rfl rfl ?_
    refine L_yes rfl rfl rfl (by first | rfl | simp | decide) (X_p (p_move rfl rfl) ?_)
    refine L_yes rfl rfl rfl (by first | rfl | simp | decide) (X_p (p_neq rfl rfl rfl) ?_)
    refine Lp rfl (p_pick_f rfl rfl (by first | rfl | simp | decide) rfl) ?_
    refine Lm rfl rfl rfl ?_
    refine L_yes rfl rfl rfl (by first | rfl | simp | decide) (X_p (p_move rfl rfl) ?_)
    refine L_yes rfl rfl rfl (by first | rfl | simp | decide) (X_p (p_neq rfl rfl rfl) ?_)
    refine Lp rfl (p_pick_f rfl rfl (by first | rfl | simp | decide) rfl) ?_
    refine Lm rfl rfl rfl ?_
    refine L_yes rfl rfl rfl (by first | rfl | simp | decide) (X_p (p_move rfl rfl) ?_)
    refine L_yes rfl rfl rfl (by first | rfl | simp | decide) (X_p (p_neq rfl rfl rfl) ?_)
    refine Lp rfl (p_pick_f rfl rfl (by first | rfl | simp | decide) rfl) ?_
    refine Lm rfl rfl rfl ?_
    refine L_yes rfl rfl rfl (by first | rfl | simp | decide) (X_p (p_move rfl rfl) ?_)
    refine L_yes rfl rfl rfl (by first | rfl | simp | decide) (X_p (p_not rfl rfl) ?_)
    refine Lp rfl (p_pick_f rfl rfl (by first | rfl | simp | decide) rfl) ?_
    refine Lm rfl rfl rfl ?_
    refine L_yes rfl rfl rfl rfl (X_p (p_move rfl rfl) ?_)
    refine L_yes rfl rfl rfl rfl (X_p (p_neq rfl rfl rfl) ?_)
    refine Lp rfl (p_pick_f rfl rfl rfl rfl) ?_
    refine Lm rfl rfl rfl ?_
    refine L_yes rfl rfl rfl (by first | rfl | simp | decide) (X_p (p_move rfl rfl) ?_)
    refine Lp rfl (p_pick_f rfl rfl (by first | rfl | simp | decide) rfl) ?_
    refine Lm rfl rfl rfl ?_
    refine L_yes rfl rfl rfl rfl (X_p (p_move rfl rfl) ?_)
    refine L_yes rfl rfl rfl rfl (X_p (p_neq rfl rfl rfl) ?_)
    refine Lp rfl (p_pick_f rfl rfl rfl rfl) ?_
    refine Lm rfl rfl rfl ?_
    refine L_yes rfl rfl rfl (by first | rfl | simp | decide) (X_p (p_move rfl rfl) ?_)
    refine L_yes rfl rfl rfl (by first | rfl | simp | decide) (X_p (p_neq rfl rfl rfl) ?_)
    refine Lp rfl (p_pick_f rfl rfl (by first | rfl | simp | decide) rfl) ?_
    refine L_then (kp [1, 14, 16, 133] rfl) ?_
    refine V_cond_f rfl (by first | rfl | simp | decide) ?_
    refine V_skip (then_n ?_)
    refine Vs rfl ?_
    iterate 2 refine Lc rfl rfl rfl rfl (fun w hg => lspan6_c _ _ w) ?_
    refine Lw rfl (w_alloc zr24 rfl) ?_
    rintro _ _ ⟨b10, hb10, rfl, rfl⟩
    refine Lw rfl (w_alloc zr24 rfl) ?_
    rintro _ _ ⟨b11, hb11, rfl, rfl⟩
    iterate 2 refine Ls (cs' := [_, _]) rfl sz24 rfl rfl rfl rfl rfl rfl rfl ?_
    refine L_then (kp [1, 14, 16, 18, 19] rfl) ?_
    refine V_seq ?_
    refine V_seq (V_draw (.rd 0 (.rd 1 (.rd 2 (.rd 3 (.rd 4 (.rd 5 (.rd 6 (.rd 7 (.rd 8 (.rd 9 (.rd 10 (.rd 11 (.wr 12 [11, 10, 8, 7, 6, 5, 4, 3, 2, 1, 0] (.wr 13 [11, 10, 8, 7, 6, 5, 4, 3, 2, 1, 0] (.rd 14 (.rd 15 (.rd 16 .done))))))))))))))))) mixed (by kernel_rfl) rfl ?_)
    refine Dr rfl rfl (rlA (vs := [_, _, _, _, _, _, _, _, _, _, _, _, _]) ag28 sz28 rfl rfl rfl) ?_
    iterate 6 refine Dr rfl rfl (rlA (vs := [_, _]) ag24 sz24 rfl rfl rfl) ?_
    refine Dp rfl rfl (p_build (r := [_, _, _, _, _, _, _, _, _, _, _, _, _]) pl28 zr28 rfl rfl rfl) ?_
    refine Dp rfl rfl (p_neS lv28 ag28 eg28 rfl rfl rfl rfl rfl) ?_
    refine Dm rfl rfl rfl rfl ?_
    refine D_rd rfl (.yes rfl rfl rfl (by first | rfl | (simp; done) | (simp [eqL, eqv, Box.cells]; done) | decide)) (rlA (vs := [_, _, _, _, _, _, _, _, _, _, _, _, _, _, _, _, _, _, _, _, _]) ag49 sz49 rfl rfl rfl) ?_
    refine D_rd rfl (.yes rfl rfl rfl (by first | rfl | (simp; done) | (simp [eqL, eqv, Box.cells]; done) | decide)) (rlA (vs := [_, _, _, _, _, _, _, _, _, _, _, _, _]) ag28 sz28 rfl rfl rfl) ?_
    refine D_wr (.go (E' := [(11, _), (10, _), (6, _), (5, _), (4, _), (3, _), (2, _), (1, _), (0, _)]) rfl (.yes rfl rfl rfl (by first | rfl | (simp; done) | (simp [eqL, eqv, Box.cells]; done) | decide)) (w_callP rfl rfl rfl (fun w hg => larea_c _ _ _ _ w)) rfl ?_)
    rintro _ _ ⟨rfl, rfl⟩
    refine ⟨(.cons rfl (.yes rfl rfl rfl (by first | rfl | (simp; done) | (simp [eqL, eqv, Box.cells]; done) | decide)) (rlA (vs := [_, _, _, _, _, _, _, _, _, _, _, _, _]) ag28 sz28 rfl rfl rfl) (.cons rfl (.yes rfl rfl rfl (by first | rfl | (simp; done) | (simp [eqL, eqv, Box.cells]; done) | decide)) (rlA (vs := [_, _, _, _, _, _, _, _, _, _, _, _, _, _, _, _, _, _, _, _, _]) ag49 sz49 rfl rfl rfl) (.cons rfl (.plain rfl) (rlA (vs := [_, _]) ag24 sz24 rfl rfl rfl) (.cons rfl (.plain rfl) (rlA (vs := [_, _]) ag24 sz24 rfl rfl rfl) (.cons rfl (.plain rfl) (rlA (vs := [_, _]) ag24 sz24 rfl rfl rfl) (.cons rfl (.plain rfl) (rlA (vs := [_, _]) ag24 sz24 rfl rfl rfl) (.cons rfl (.plain rfl) (rlA (vs := [_, _]) ag24 sz24 rfl rfl rfl) (.cons rfl (.plain rfl) (rlA (vs := [_, _]) ag24 sz24 rfl rfl rfl) (.cons rfl (.plain rfl) (rlA (vs := [_, _, _, _, _, _, _, _, _, _, _, _, _]) ag28 sz28 rfl rfl rfl) .nil))))))))), ?_⟩
    refine D_wr (.go (E' := [(11, _), (10, _), (6, _), (5, _), (4, _), (3, _), (2, _), (1, _), (0, _)]) rfl (.yes rfl rfl rfl (by first | rfl | (simp; done) | (simp [eqL, eqv, Box.cells]; done) | decide)) (w_callP rfl rfl rfl (fun w hg => lspan6_c _ _ w)) rfl ?_)
    rintro _ _ ⟨rfl, rfl⟩
    refine ⟨(.cons rfl (.yes rfl rfl rfl (by first | rfl | (simp; done) | (simp [eqL, eqv, Box.cells]; done) | decide)) (rlA (vs := [_, _, _, _, _, _, _, _, _, _, _, _, _]) ag28 sz28 rfl rfl rfl) (.cons rfl (.yes rfl rfl rfl (by first | rfl | (simp; done) | (simp [eqL, eqv, Box.cells]; done) | decide)) (rlA (vs := [_, _, _, _, _, _, _, _, _, _, _, _, _, _, _, _, _, _, _, _, _]) ag49 sz49 rfl rfl rfl) (.cons rfl (.plain rfl) (rlA (vs := [_, _]) ag24 sz24 rfl rfl rfl) (.cons rfl (.plain rfl) (rlA (vs := [_, _]) ag24 sz24 rfl rfl rfl) (.cons rfl (.plain rfl) (rlA (vs := [_, _]) ag24 sz24 rfl rfl rfl) (.cons rfl (.plain rfl) (rlA (vs := [_, _]) ag24 sz24 rfl rfl rfl) (.cons rfl (.plain rfl) (rlA (vs := [_, _]) ag24 sz24 rfl rfl rfl) (.cons rfl (.plain rfl) (rlA (vs := [_, _]) ag24 sz24 rfl rfl rfl) (.cons rfl (.plain rfl) (rlA (vs := [_, _, _, _, _, _, _, _, _, _, _, _, _]) ag28 sz28 rfl rfl rfl) .nil))))))))), ?_⟩
    refine D_p rfl (.yes rfl rfl rfl (by first | rfl | (simp; done) | (simp [eqL, eqv, Box.cells]; done) | decide)) (p_build (r := [_, _, _, _, _, _, _, _, _, _, _, _, _, _, _, _, _, _, _, _, _]) pl49 zr49 rfl rfl rfl) ?_
    refine D_p rfl (.yes rfl rfl rfl (by first | rfl | (simp; done) | (simp [eqL, eqv, Box.cells]; done) | decide)) (p_neS lv49 ag49 eg49 rfl rfl rfl rfl rfl) ?_
    refine Dp rfl rfl (p_pick_f rfl rfl (by first | rfl | (simp; done) | (simp [eqL, eqv, Box.cells]; done) | decide) rfl) ?_
    refine D_then (kp [1, 152] rfl) ?_
    refine V_cond_f rfl (by first | rfl | (simp; done) | (simp [eqL, eqv, Box.cells]; done) | decide) ?_
    refine V_skip (then_n ?_)
    refine Vs rfl ?_
    refine Lp rfl (p_fieldo fo26_0 rfl rfl) ?_
    refine Lr rfl (rl ag22 rfl rfl rfl) ?_
    refine Lp rfl (p_build (r := [_, _, _, _]) pl68 zr68 rfl rfl rfl) ?_
    refine Lp rfl (p_idxo es22 rfl rfl rfl (by omega) (by omega)) ?_
    refine Lw rfl (w_store (cs' := (exPl2.lines.map Line.cells).flatten) sz68 rfl rfl rfl rfl rfl (by repeat first | exact .head | apply SetAt.tail) (by decide) rfl) ?_
    rintro _ _ ⟨rfl, rfl⟩
    refine L_then (kp [1] rfl) ?_
    refine V_seq (V_draw (.rd 0 (.wr2 1 [0] (.wr2 2 [] (.rd 3 (.rd 4 (.rd 5 (.wr 6 [5, 4, 3, 0] (.wr 7 [5] (.rd 8 .done)))))) 6 [0] (.wr 2 [] (.rd 3 (.rd 4 (.rd 5 (.wr 7 [5] (.rd 8 .done))))))) 6 [0] (.wr 1 [0] (.wr 2 [] (.rd 3 (.rd 4 (.rd 5 (.wr 7 [5] (.rd 8 .done))))))))) mixed (by kernel_rfl) rfl ?_)
    refine Dr rfl rfl (rlA (vs := [_, _, _, _, _]) ag26 sz26 rfl rfl rfl) ?_
    refine D_wr2 rfl ?_ ?_
    ·refine (.go (E' := [(0, _)]) rfl (.plain rfl) (w_callP rfl rfl rfl (fun w hg => ltask_c w)) rfl ?_)
     rintro _ _ ⟨rfl, rfl⟩
     refine ⟨(.cons rfl (.plain rfl) (rlA (vs := [_, _, _, _, _]) ag26 sz26 rfl rfl rfl) .nil), ?_⟩
     refine D_wr2 rfl ?_ ?_
     ·refine (.go (E' := []) rfl (.plain rfl) (w_callP rfl rfl rfl (fun w hg => exk_dec w _ aF aL (hE.good hg) (exk_R2 (hg.own (x1, _) (by repeat first | exact mH | apply mT | apply List.mem_append_right))))) rfl ?_)
      rintro _ _ ⟨rfl, rfl⟩
      refine ⟨.nil, ?_⟩
      refine Dm rfl rfl rfl rfl ?_
      iterate 2 refine Dp rfl rfl (p_ext rfl rfl rfl) ?_
      refine D_wr (.go (E' := []) rfl (.plain rfl) (w_alloc zr42 rfl) rfl ?_)
      rintro _ _ ⟨b12, hb12, rfl, rfl⟩
      refine ⟨.nil, ?_⟩
      refine D_wr (.go (E' := []) rfl (.plain rfl) (ws (cs' := [_, _, _]) sz42 rfl rfl rfl rfl rfl rfl rfl) rfl ?_)
      rintro _ _ ⟨rfl, rfl⟩
      refine ⟨.nil, ?_⟩
      refine Dp rfl rfl (p_assign rfl rfl) ?_
      refine D_then (kp [5, 20] rfl) ?_
      refine Vs rfl ?_
      refine Lm rfl rfl rfl ?_
      refine Lp rfl (p_eql rfl rfl rfl) ?_
      refine Lm rfl rfl rfl ?_
      refine L_yes rfl rfl rfl (by first | rfl | simp | decide) (X_rd (rlA (vs := [_, _, _]) ag42 sz42 rfl rfl rfl) ?_)
      refine L_yes rfl rfl rfl (by first | rfl | simp | decide) (X_p (p_build (r := [_, _, _]) pl42 zr42 rfl rfl rfl) ?_)
      refine L_yes rfl rfl rfl (by first | rfl | simp | decide) (X_p (p_eqS lv42 ag42 eg42 rfl rfl rfl rfl rfl) ?_)
      refine Lp rfl (p_pick_t rfl rfl (by first | rfl | simp | decide) rfl) ?_
      refine Lm rfl rfl rfl ?_
      refine L_yes rfl rfl rfl (by first | rfl | (simp; done) | (simp [eqL, eqv, Box.cells]; done) | decide) (X_wr (w_callP rfl rfl rfl (fun w hg => dawake_c aF aL w (hE.good hg))) ?_)
      rintro _ _ ⟨rfl, rfl⟩
      refine Lp rfl (p_pick_t rfl rfl (by first | rfl | (simp; done) | (simp [eqL, eqv, Box.cells]; done) | decide) rfl) ?_
      refine La rfl rfl rfl ?_
      refine L_then (kp [0] rfl) ?_
      refine V_ret ?_
      refine Leave.nil (.tmp rfl .nil) ?_
      rfl
     refine (.go (E' := [(0, _)]) rfl (.plain rfl) (w_alloc zr42 rfl) rfl ?_)
     rintro _ _ ⟨b12, hb12, rfl, rfl⟩
     refine ⟨(.cons rfl (.plain rfl) (rlA (vs := [_, _, _, _, _]) ag26 sz26 rfl rfl rfl) .nil), ?_⟩
     refine D_wr (.go (E' := []) rfl (.plain rfl) (w_callP rfl rfl rfl (fun w hg => exk_dec w _ aF aL (hE.good hg) (exk_R2 (hg.own (x1, _) (by repeat first | exact mH | apply mT | apply List.mem_append_right))))) rfl ?_)
     rintro _ _ ⟨rfl, rfl⟩
     refine ⟨.nil, ?_⟩
     refine Dm rfl rfl rfl rfl ?_
     iterate 2 refine Dp rfl rfl (p_ext rfl rfl rfl) ?_
     refine D_wr (.go (E' := []) rfl (.plain rfl) (ws (cs' := [_, _, _]) sz42 rfl rfl rfl rfl rfl rfl rfl) rfl ?_)
     rintro _ _ ⟨rfl, rfl⟩
     refine ⟨.nil, ?_⟩
     refine Dp rfl rfl (p_assign rfl rfl) ?_
     refine D_then (kp [5, 20] rfl) ?_
     refine Vs rfl ?_
     refine Lm rfl rfl rfl ?_
     refine Lp rfl (p_eql rfl rfl rfl) ?_
     refine Lm rfl rfl rfl ?_
     refine L_yes rfl rfl rfl (by first | rfl | simp | decide) (X_rd (rlA (vs := [_, _, _]) ag42 sz42 rfl rfl rfl) ?_)
     refine L_yes rfl rfl rfl (by first | rfl | simp | decide) (X_p (p_build (r := [_, _, _]) pl42 zr42 rfl rfl rfl) ?_)
     refine L_yes rfl rfl rfl (by first | rfl | simp | decide) (X_p (p_eqS lv42 ag42 eg42 rfl rfl rfl rfl rfl) ?_)
     refine Lp rfl (p_pick_t rfl rfl (by first | rfl | simp | decide) rfl) ?_
     refine Lm rfl rfl rfl ?_
     refine L_yes rfl rfl rfl (by first | rfl | (simp; done) | (simp [eqL, eqv, Box.cells]; done) | decide) (X_wr (w_callP rfl rfl rfl (fun w hg => dawake_c aF aL w (hE.good hg))) ?_)
     rintro _ _ ⟨rfl, rfl⟩
     refine Lp rfl (p_pick_t rfl rfl (by first | rfl | (simp; done) | (simp [eqL, eqv, Box.cells]; done) | decide) rfl) ?_
     refine La rfl rfl rfl ?_
     refine L_then (kp [0] rfl) ?_
     refine V_ret ?_
     refine Leave.nil (.tmp rfl .nil) ?_
     rfl
    refine (.go (E' := [(0, _)]) rfl (.plain rfl) (w_alloc zr42 rfl) rfl ?_)
    rintro _ _ ⟨b12, hb12, rfl, rfl⟩
    refine ⟨(.cons rfl (.plain rfl) (rlA (vs := [_, _, _, _, _]) ag26 sz26 rfl rfl rfl) .nil), ?_⟩
    refine D_wr (.go (E' := [(0, _)]) rfl (.plain rfl) (w_callP rfl rfl rfl (fun w hg => ltask_c w)) rfl ?_)
    rintro _ _ ⟨rfl, rfl⟩
    refine ⟨(.cons rfl (.plain rfl) (rlA (vs := [_, _, _, _, _]) ag26 sz26 rfl rfl rfl) .nil), ?_⟩
    refine D_wr (.go (E' := []) rfl (.plain rfl) (w_callP rfl rfl rfl (fun w hg => exk_dec w _ aF aL (hE.good hg) (exk_R2 (hg.own (x1, _) (by repeat first | exact mH | apply mT | apply List.mem_append_right))))) rfl ?_)
    rintro _ _ ⟨rfl, rfl⟩
    refine ⟨.nil, ?_⟩
    refine Dm rfl rfl rfl rfl ?_
    iterate 2 refine Dp rfl rfl (p_ext rfl rfl rfl) ?_
    refine D_wr (.go (E' := []) rfl (.plain rfl) (ws (cs' := [_, _, _]) sz42 rfl rfl rfl rfl rfl rfl rfl) rfl ?_)
    rintro _ _ ⟨rfl, rfl⟩
    refine ⟨.nil, ?_⟩
    refine Dp rfl rfl (p_assign rfl rfl) ?_
    refine D_then (kp [5, 20] rfl) ?_
    refine Vs rfl ?_
    refine Lm rfl rfl rfl ?_
    refine Lp rfl (p_eql rfl rfl rfl) ?_
    refine Lm rfl rfl rfl ?_
    refine L_yes rfl rfl rfl (by first | rfl | simp | decide) (X_rd (rlA (vs := [_, _, _]) ag42 sz42 rfl rfl rfl) ?_)
    refine L_yes rfl rfl rfl (by first | rfl | simp | decide) (X_p (p_build (r := [_, _, _]) pl42 zr42 rfl rfl rfl) ?_)
    refine L_yes rfl rfl rfl (by first | rfl | simp | decide) (X_p (p_eqS lv42 ag42 eg42 rfl rfl rfl rfl rfl) ?_)
    refine Lp rfl (p_pick_t rfl rfl (by first | rfl | simp | decide) rfl) ?_
    refine Lm rfl rfl rfl ?_
    refine L_yes rfl rfl rfl (by first | rfl | (simp; done) | (simp [eqL, eqv, Box.cells]; done) | decide) (X_wr (w_callP rfl rfl rfl (fun w hg => dawake_c aF aL w (hE.good hg))) ?_)
    rintro _ _ ⟨rfl, rfl⟩
    refine Lp rfl (p_pick_t rfl rfl (by first | rfl | (simp; done) | (simp [eqL, eqv, Box.cells]; done) | decide) rfl) ?_
    refine La rfl rfl rfl ?_
    refine L_then (kp [0] rfl) ?_
    refine V_ret ?_
    refine Leave.nil (.tmp rfl .nil) ?_
    rfl
   refine (.go (E' := [(0, _)]) rfl (.plain rfl) (w_alloc zr49 rfl) rfl ?_)
   rintro _ _ ⟨b9, hb9, rfl, rfl⟩
   refine ⟨(.cons rfl (.plain rfl) (rlA (vs := [_, _, _, _, _]) ag26 sz26 rfl rfl rfl) .nil), ?_⟩
   refine D_wr (.go (E' := [(0, _)]) rfl (.plain rfl) (w_callP rfl rfl rfl (fun w hg => ltask_c w)) rfl ?_)
   rintro _ _ ⟨rfl, rfl⟩
   refine ⟨(.cons rfl (.plain rfl) (rlA (vs := [_, _, _, _, _]) ag26 sz26 rfl rfl rfl) .nil), ?_⟩
   refine D_wr (.go (E' := []) rfl (.plain rfl) (w_callP rfl rfl rfl (fun w hg => exa_look w _ aF aL (hE.good hg) (exPlR (hg.own (x1, _) (by repeat first | exact mH | apply mT | apply List.mem_append_right))))) rfl ?_)
   rintro _ _ ⟨rfl, rfl⟩
   refine ⟨.nil, ?_⟩
   refine Dm rfl rfl rfl rfl ?_
   iterate 2 refine Dp rfl rfl (p_ext rfl rfl rfl) ?_
   refine D_wr (.go (E' := []) rfl (.plain rfl) (w_storeAll (cs' := [_, _, _, _, _, _, _, _, _, _, _, _, _, _, _, _, _, _, _, _, _]) sz49 rfl rfl rfl rfl rfl rfl (by repeat first | exact .head | apply SetAt.tail) rfl) rfl ?_)
   rintro _ _ ⟨rfl, rfl⟩
   refine ⟨.nil, ?_⟩
   refine Dp rfl rfl (p_assign rfl rfl) ?_
   refine D_then (kp [1, 5, 7, 9, 10, 11, 12, 13, 14, 15, 16, 17] rfl) ?_
   refine V_seq ?_
   refine Vs rfl ?_
   refine Lm rfl rfl rfl ?_
   refine Lp rfl (p_neq rfl rfl rfl) ?_
   refine Lm rfl rfl rfl ?_
   refine L_yes rfl rfl rfl (by first | rfl | simp | decide) (X_p (p_move rfl rfl) ?_)
   refine L_yes rfl rfl rfl (by first | rfl | simp | decide) (X_p (p_neq rfl rfl rfl) ?_)
   refine Lp rfl (p_pick_f rfl rfl (by first | rfl | simp | decide) rfl) ?_
   refine Lm rfl rfl rfl ?_
   refine L_yes rfl rfl rfl (by first | rfl | simp | decide) (X_p (p_move rfl rfl) ?_)
   refine L_yes rfl rfl rfl (by first | rfl | simp | decide) (X_p (p_neq rfl rfl rfl) ?_)
   refine Lp rfl (p_pick_f rfl rfl (by first | rfl | simp | decide) rfl) ?_
   refine Lm rfl rfl rfl ?_
   refine L_yes rfl rfl rfl (by first | rfl | simp | decide) (X_p (p_move rfl rfl) ?_)
   refine L_yes rfl rfl rfl (by first | rfl | simp | decide) (X_p (p_neq rfl rfl rfl) ?_)
   refine Lp rfl (p_pick_f rfl rfl (by first | rfl | simp | decide) rfl) ?_
   refine Lm rfl rfl rfl ?_
   refine L_yes rfl rfl rfl (by first | rfl | simp | decide) (X_p (p_move rfl rfl) ?_)
   refine L_yes rfl rfl rfl (by first | rfl | simp | decide) (X_p (p_not rfl rfl) ?_)
   refine Lp rfl (p_pick_f rfl rfl (by first | rfl | simp | decide) rfl) ?_
   refine Lm rfl rfl rfl ?_
   refine L_yes rfl rfl rfl rfl (X_p (p_move rfl rfl) ?_)
   refine L_yes rfl rfl rfl rfl (X_p (p_neq rfl rfl rfl) ?_)
   refine Lp rfl (p_pick_f rfl rfl rfl rfl) ?_
   refine Lm rfl rfl rfl ?_
   refine L_yes rfl rfl rfl (by first | rfl | simp | decide) (X_p (p_move rfl rfl) ?_)
   refine Lp rfl (p_pick_f rfl rfl (by first | rfl | simp | decide) rfl) ?_
   refine Lm rfl rfl rfl ?_
   refine L_yes rfl rfl rfl rfl (X_p (p_move rfl rfl) ?_)
   refine L_yes rfl rfl rfl rfl (X_p (p_neq rfl rfl rfl) ?_)
   refine Lp rfl (p_pick_f rfl rfl rfl rfl) ?_
   refine Lm rfl rfl rfl ?_
   refine L_yes rfl rfl rfl (by first | rfl | simp | decide) (X_p (p_move rfl rfl) ?_)
   refine L_yes rfl rfl rfl (by first | rfl | simp | decide) (X_p (p_neq rfl rfl rfl) ?_)
   refine Lp rfl (p_pick_f rfl rfl (by first | rfl | simp | decide) rfl) ?_
   refine L_then (kp [1, 14, 16, 133] rfl) ?_
   refine V_cond_f rfl (by first | rfl | simp | decide) ?_
   refine V_skip (then_n ?_)
   refine Vs rfl ?_
   iterate 2 refine Lc rfl rfl rfl rfl (fun w hg => lspan6_c _ _ w) ?_
   refine Lw rfl (w_alloc zr24 rfl) ?_
   rintro _ _ ⟨b10, hb10, rfl, rfl⟩
   refine Lw rfl (w_alloc zr24 rfl) ?_
   rintro _ _ ⟨b11, hb11, rfl, rfl⟩
   iterate 2 refine Ls (cs' := [_, _]) rfl sz24 rfl rfl rfl rfl rfl rfl rfl ?_
   refine L_then (kp [1, 14, 16, 18, 19] rfl) ?_
   refine V_seq ?_
   refine V_seq (V_draw (.rd 0 (.rd 1 (.rd 2 (.rd 3 (.rd 4 (.rd 5 (.rd 6 (.rd 7 (.rd 8 (.rd 9 (.rd 10 (.rd 11 (.wr 12 [11, 10, 8, 7, 6, 5, 4, 3, 2, 1, 0] (.wr 13 [11, 10, 8, 7, 6, 5, 4, 3, 2, 1, 0] (.rd 14 (.rd 15 (.rd 16 .done))))))))))))))))) mixed (by kernel_rfl) rfl ?_)
   refine Dr rfl rfl (rlA (vs := [_, _, _, _, _, _, _, _, _, _, _, _, _]) ag28 sz28 rfl rfl rfl) ?_
   iterate 6 refine Dr rfl rfl (rlA (vs := [_, _]) ag24 sz24 rfl rfl rfl) ?_
   refine Dp rfl rfl (p_build (r := [_, _, _, _, _, _, _, _, _, _, _, _, _]) pl28 zr28 rfl rfl rfl) ?_
   refine Dp rfl rfl (p_neS lv28 ag28 eg28 rfl rfl rfl rfl rfl) ?_
   refine Dm rfl rfl rfl rfl ?_
   refine D_rd rfl (.yes rfl rfl rfl (by first | rfl | (simp; done) | (simp [eqL, eqv, Box.cells]; done) | decide)) (rlA (vs := [_, _, _, _, _, _, _, _, _, _, _, _, _, _, _, _, _, _, _, _, _]) ag49 sz49 rfl rfl rfl) ?_
   refine D_rd rfl (.yes rfl rfl rfl (by first | rfl | (simp; done) | (simp [eqL, eqv, Box.cells]; done) | decide)) (rlA (vs := [_, _, _, _, _, _, _, _, _, _, _, _, _]) ag28 sz28 rfl rfl rfl) ?_
   refine D_wr (.go (E' := [(11, _), (10, _), (6, _), (5, _), (4, _), (3, _), (2, _), (1, _), (0, _)]) rfl (.yes rfl rfl rfl (by first | rfl | (simp; done) | (simp [eqL, eqv, Box.cells]; done) | decide)) (w_callP rfl rfl rfl (fun w hg => larea_c _ _ _ _ w)) rfl ?_)
   rintro _ _ ⟨rfl, rfl⟩
   refine ⟨(.cons rfl (.yes rfl rfl rfl (by first | rfl | (simp; done) | (simp [eqL, eqv, Box.cells]; done) | decide)) (rlA (vs := [_, _, _, _, _, _, _, _, _, _, _, _, _]) ag28 sz28 rfl rfl rfl) (.cons rfl (.yes rfl rfl rfl (by first | rfl | (simp; done) | (simp [eqL, eqv, Box.cells]; done) | decide)) (rlA (vs := [_, _, _, _, _, _, _, _, _, _, _, _, _, _, _, _, _, _, _, _, _]) ag49 sz49 rfl rfl rfl) (.cons rfl (.plain rfl) (rlA (vs := [_, _]) ag24 sz24 rfl rfl rfl) (.cons rfl (.plain rfl) (rlA (vs := [_, _]) ag24 sz24 rfl rfl rfl) (.cons rfl (.plain rfl) (rlA (vs := [_, _]) ag24 sz24 rfl rfl rfl) (.cons rfl (.plain rfl) (rlA (vs := [_, _]) ag24 sz24 rfl rfl rfl) (.cons rfl (.plain rfl) (rlA (vs := [_, _]) ag24 sz24 rfl rfl rfl) (.cons rfl (.plain rfl) (rlA (vs := [_, _]) ag24 sz24 rfl rfl rfl) (.cons rfl (.plain rfl) (rlA (vs := [_, _, _, _, _, _, _, _, _, _, _, _, _]) ag28 sz28 rfl rfl rfl) .nil))))))))), ?_⟩
   refine D_wr (.go (E' := [(11, _), (10, _), (6, _), (5, _), (4, _), (3, _), (2, _), (1, _), (0, _)]) rfl (.yes rfl rfl rfl (by first | rfl | (simp; done) | (simp [eqL, eqv, Box.cells]; done) | decide)) (w_callP rfl rfl rfl (fun w hg => lspan6_c _ _ w)) rfl ?_)
   rintro _ _ ⟨rfl, rfl⟩
   refine ⟨(.cons rfl (.yes rfl rfl rfl (by first | rfl | (simp; done) | (simp [eqL, eqv, Box.cells]; done) | decide)) (rlA (vs := [_, _, _, _, _, _, _, _, _, _, _, _, _]) ag28 sz28 rfl rfl rfl) (.cons rfl (.yes rfl rfl rfl (by first | rfl | (simp; done) | (simp [eqL, eqv, Box.cells]; done) | decide)) (rlA (vs := [_, _, _, _, _, _, _, _, _, _, _, _, _, _, _, _, _, _, _, _, _]) ag49 sz49 rfl rfl rfl) (.cons rfl (.plain rfl) (rlA (vs := [_, _]) ag24 sz24 rfl rfl rfl) (.cons rfl (.plain rfl) (rlA (vs := [_, _]) ag24 sz24 rfl rfl rfl) (.cons rfl (.plain rfl) (rlA (vs := [_, _]) ag24 sz24 rfl rfl rfl) (.cons rfl (.plain rfl) (rlA (vs := [_, _]) ag24 sz24 rfl rfl rfl) (.cons rfl (.plain rfl) (rlA (vs := [_, _]) ag24 sz24 rfl rfl rfl) (.cons rfl (.plain rfl) (rlA (vs := [_, _]) ag24 sz24 rfl rfl rfl) (.cons rfl (.plain rfl) (rlA (vs := [_, _, _, _, _, _, _, _, _, _, _, _, _]) ag28 sz28 rfl rfl rfl) .nil))))))))), ?_⟩
   refine D_p rfl (.yes rfl rfl rfl (by first | rfl | (simp; done) | (simp [eqL, eqv, Box.cells]; done) | decide)) (p_build (r := [_, _, _, _, _, _, _, _, _, _, _, _, _, _, _, _, _, _, _, _, _]) pl49 zr49 rfl rfl rfl) ?_
   refine D_p rfl (.yes rfl rfl rfl (by first | rfl | (simp; done) | (simp [eqL, eqv, Box.cells]; done) | decide)) (p_neS lv49 ag49 eg49 rfl rfl rfl rfl rfl) ?_
   refine Dp rfl rfl (p_pick_f rfl rfl (by first | rfl | (simp; done) | (simp [eqL, eqv, Box.cells]; done) | decide) rfl) ?_
   refine D_then (kp [1, 152] rfl) ?_
   refine V_cond_f rfl (by first | rfl | (simp; done) | (simp [eqL, eqv, Box.cells]; done) | decide) ?_
   refine V_skip (then_n ?_)
   refine Vs rfl ?_
   refine Lp rfl (p_fieldo fo26_0 rfl rfl) ?_
   refine Lr rfl (rl ag22 rfl rfl rfl) ?_
   refine Lp rfl (p_build (r := [_, _, _, _]) pl68 zr68 rfl rfl rfl) ?_
   refine Lp rfl (p_idxo es22 rfl rfl rfl (by omega) (by omega)) ?_
   refine Lw rfl (w_store (cs' := (exPl2.lines.map Line.cells).flatten) sz68 rfl rfl rfl rfl rfl (by repeat first | exact .head | apply SetAt.tail) (by decide) rfl) ?_
   rintro _ _ ⟨rfl, rfl⟩
   refine L_then (kp [1] rfl) ?_
   refine V_seq (V_draw (.rd 0 (.wr2 1 [0] (.wr2 2 [] (.rd 3 (.rd 4 (.rd 5 (.wr 6 [5, 4, 3, 0] (.wr 7 [5] (.rd 8 .done)))))) 6 [0] (.wr 2 [] (.rd 3 (.rd 4 (.rd 5 (.wr 7 [5] (.rd 8 .done))))))) 6 [0] (.wr 1 [0] (.wr 2 [] (.rd 3 (.rd 4 (.rd 5 (.wr 7 [5] (.rd 8 .done))))))))) mixed (by kernel_rfl) rfl ?_)
   refine Dr rfl rfl (rlA (vs := [_, _, _, _, _]) ag26 sz26 rfl rfl rfl) ?_
   refine D_wr2 rfl ?_ ?_
   ·refine (.go (E' := [(0, _)]) rfl (.plain rfl) (w_callP rfl rfl rfl (fun w hg => ltask_c w)) rfl ?_)
    rintro _ _ ⟨rfl, rfl⟩
    refine ⟨(.cons rfl (.plain rfl) (rlA (vs := [_, _, _, _, _]) ag26 sz26 rfl rfl rfl) .nil), ?_⟩
    refine D_wr2 rfl ?_ ?_
    ·refine (.go (E' := []) rfl (.plain rfl) (w_callP rfl rfl rfl (fun w hg => exk_dec w _ aF aL (hE.good hg) (exk_R2 (hg.own (x1, _) (by repeat first | exact mH | apply mT | apply List.mem_append_right))))) rfl ?_)
     rintro _ _ ⟨rfl, rfl⟩
     refine ⟨.nil, ?_⟩
     refine Dm rfl rfl rfl rfl ?_
     iterate 2 refine Dp rfl rfl (p_ext rfl rfl rfl) ?_
     refine D_wr (.go (E' := []) rfl (.plain rfl) (w_alloc zr42 rfl) rfl ?_)
     rintro _ _ ⟨b12, hb12, rfl, rfl⟩
     refine ⟨.nil, ?_⟩
     refine D_wr (.go (E' := []) rfl (.plain rfl) (ws (cs' := [_, _, _]) sz42 rfl rfl rfl rfl rfl rfl rfl) rfl ?_)
     rintro _ _ ⟨rfl, rfl⟩
     refine ⟨.nil, ?_⟩
     refine Dp rfl rfl (p_assign rfl rfl) ?_
     refine D_then (kp [5, 20] rfl) ?_
     refine Vs rfl ?_
     refine Lm rfl rfl rfl ?_
     refine Lp rfl (p_eql rfl rfl rfl) ?_
     refine Lm rfl rfl rfl ?_
     refine L_yes rfl rfl rfl (by first | rfl | simp | decide) (X_rd (rlA (vs := [_, _, _]) ag42 sz42 rfl rfl rfl) ?_)
     refine L_yes rfl rfl rfl (by first | rfl | simp | decide) (X_p (p_build (r := [_, _, _]) pl42 zr42 rfl rfl rfl) ?_)
     refine L_yes rfl rfl rfl (by first | rfl | simp | decide) (X_p (p_eqS lv42 ag42 eg42 rfl rfl rfl rfl rfl) ?_)
     refine Lp rfl (p_pick_t rfl rfl (by first | rfl | simp | decide) rfl) ?_
     refine Lm rfl rfl rfl ?_
     refine L_yes rfl rfl rfl (by first | rfl | (simp; done) | (simp [eqL, eqv, Box.cells]; done) | decide) (X_wr (w_callP rfl rfl rfl (fun w hg => dawake_c aF aL w (hE.good hg))) ?_)
     rintro _ _ ⟨rfl, rfl⟩
     refine Lp rfl (p_pick_t rfl rfl (by first | rfl | (simp; done) | (simp [eqL, eqv, Box.cells]; done) | decide) rfl) ?_
     refine La rfl rfl rfl ?_
     refine L_then (kp [0] rfl) ?_
     refine V_ret ?_
     refine Leave.nil (.tmp rfl .nil) ?_
     rfl
    refine (.go (E' := [(0, _)]) rfl (.plain rfl) (w_alloc zr42 rfl) rfl ?_)
    rintro _ _ ⟨b12, hb12, rfl, rfl⟩
    refine ⟨(.cons rfl (.plain rfl) (rlA (vs := [_, _, _, _, _]) ag26 sz26 rfl rfl rfl) .nil), ?_⟩
    refine D_wr (.go (E' := []) rfl (.plain rfl) (w_callP rfl rfl rfl (fun w hg => exk_dec w _ aF aL (hE.good hg) (exk_R2 (hg.own (x1, _) (by repeat first | exact mH | apply mT | apply List.mem_append_right))))) rfl ?_)
    rintro _ _ ⟨rfl, rfl⟩
    refine ⟨.nil, ?_⟩
    refine Dm rfl rfl rfl rfl ?_
    iterate 2 refine Dp rfl rfl (p_ext rfl rfl rfl) ?_
    refine D_wr (.go (E' := []) rfl (.plain rfl) (ws (cs' := [_, _, _]) sz42 rfl rfl rfl rfl rfl rfl rfl) rfl ?_)
    rintro _ _ ⟨rfl, rfl⟩
    refine ⟨.nil, ?_⟩
    refine Dp rfl rfl (p_assign rfl rfl) ?_
    refine D_then (kp [5, 20] rfl) ?_
    refine Vs rfl ?_
    refine Lm rfl rfl rfl ?_
    refine Lp rfl (p_eql rfl rfl rfl) ?_
    refine Lm rfl rfl rfl ?_
    refine L_yes rfl rfl rfl (by first | rfl | simp | decide) (X_rd (rlA (vs := [_, _, _]) ag42 sz42 rfl rfl rfl) ?_)
    refine L_yes rfl rfl rfl (by first | rfl | simp | decide) (X_p (p_build (r := [_, _, _]) pl42 zr42 rfl rfl rfl) ?_)
    refine L_yes rfl rfl rfl (by first | rfl | simp | decide) (X_p (p_eqS lv42 ag42 eg42 rfl rfl rfl rfl rfl) ?_)
    refine Lp rfl (p_pick_t rfl rfl (by first | rfl | simp | decide) rfl) ?_
    refine Lm rfl rfl rfl ?_
    refine L_yes rfl rfl rfl (by first | rfl | (simp; done) | (simp [eqL, eqv, Box.cells]; done) | decide) (X_wr (w_callP rfl rfl rfl (fun w hg => dawake_c aF aL w (hE.good hg))) ?_)
    rintro _ _ ⟨rfl, rfl⟩
    refine Lp rfl (p_pick_t rfl rfl (by first | rfl | (simp; done) | (simp [eqL, eqv, Box.cells]; done) | decide) rfl) ?_
    refine La rfl rfl rfl ?_
    refine L_then (kp [0] rfl) ?_
    refine V_ret ?_
    refine Leave.nil (.tmp rfl .nil) ?_
    rfl
   refine (.go (E' := [(0, _)]) rfl (.plain rfl) (w_alloc zr42 rfl) rfl ?_)
   rintro _ _ ⟨b12, hb12, rfl, rfl⟩
   refine ⟨(.cons rfl (.plain rfl) (rlA (vs := [_, _, _, _, _]) ag26 sz26 rfl rfl rfl) .nil), ?_⟩
   refine D_wr (.go (E' := [(0, _)]) rfl (.plain rfl) (w_callP rfl rfl rfl (fun w hg => ltask_c w)) rfl ?_)
   rintro _ _ ⟨rfl, rfl⟩
   refine ⟨(.cons rfl (.plain rfl) (rlA (vs := [_, _, _, _, _]) ag26 sz26 rfl rfl rfl) .nil), ?_⟩
   refine D_wr (.go (E' := []) rfl (.plain rfl) (w_callP rfl rfl rfl (fun w hg => exk_dec w _ aF aL (hE.good hg) (exk_R2 (hg.own (x1, _) (by repeat first | exact mH | apply mT | apply List.mem_append_right))))) rfl ?_)
   rintro _ _ ⟨rfl, rfl⟩
   refine ⟨.nil, ?_⟩
   refine Dm rfl rfl rfl rfl ?_
   iterate 2 refine Dp rfl rfl (p_ext rfl rfl rfl) ?_
   refine D_wr (.go (E' := []) rfl (.plain rfl) (ws (cs' := [_, _, _]) sz42 rfl rfl rfl rfl rfl rfl rfl) rfl ?_)
   rintro _ _ ⟨rfl, rfl⟩
   refine ⟨.nil, ?_⟩
   refine Dp rfl rfl (p_assign rfl rfl) ?_
   refine D_then (kp [5, 20] rfl) ?_
   refine Vs rfl ?_
   refine Lm rfl rfl rfl ?_
   refine Lp rfl (p_eql rfl rfl rfl) ?_
   refine Lm rfl rfl rfl ?_
   refine L_yes rfl rfl rfl (by first | rfl | simp | decide) (X_rd (rlA (vs := [_, _, _]) ag42 sz42 rfl rfl rfl) ?_)
   refine L_yes rfl rfl rfl (by first | rfl | simp | decide) (X_p (p_build (r := [_, _, _]) pl42 zr42 rfl rfl rfl) ?_)
   refine L_yes rfl rfl rfl (by first | rfl | simp | decide) (X_p (p_eqS lv42 ag42 eg42 rfl rfl rfl rfl rfl) ?_)
   refine Lp rfl (p_pick_t rfl rfl (by first | rfl | simp | decide) rfl) ?_
   refine Lm rfl rfl rfl ?_
   refine L_yes rfl rfl rfl (by first | rfl | (simp; done) | (simp [eqL, eqv, Box.cells]; done) | decide) (X_wr (w_callP rfl rfl rfl (fun w hg => dawake_c aF aL w (hE.good hg))) ?_)
   rintro _ _ ⟨rfl, rfl⟩
   refine Lp rfl (p_pick_t rfl rfl (by first | rfl | (simp; done) | (simp [eqL, eqv, Box.cells]; done) | decide) rfl) ?_
   refine La rfl rfl rfl ?_
   refine L_then (kp [0] rfl) ?_
   refine V_ret ?_
   refine Leave.nil (.tmp rfl .nil) ?_
   rfl
  refine (.go (E' := [(0, _)]) rfl (.plain rfl) (w_alloc zr28 rfl) rfl ?_)
  rintro _ _ ⟨b8, hb8, rfl, rfl⟩
  refine ⟨(.cons rfl (.plain rfl) (rlA (vs := [_, _, _, _, _]) ag26 sz26 rfl rfl rfl) .nil), ?_⟩
  refine D_wr (.go (E' := []) rfl (.plain rfl) (w_callP rfl rfl rfl (fun w hg => exk_used w _ (exPlR (hg.own (x1, _) (by repeat first | exact mH | apply mT | apply List.mem_append_right))))) rfl ?_)
  rintro _ _ ⟨rfl, rfl⟩
  refine ⟨.nil, ?_⟩
  refine Dm rfl rfl rfl rfl ?_
  iterate 3 refine Dp rfl rfl (p_ext rfl rfl rfl) ?_
  refine D_wr (.go (E' := []) rfl (.plain rfl) (ws (cs' := [_, _, _, _, _, _, _, _, _, _, _, _, _]) sz28 rfl rfl rfl rfl rfl rfl rfl) rfl ?_)
  rintro _ _ ⟨rfl, rfl⟩
  refine ⟨.nil, ?_⟩
  iterate 2 refine Dp rfl rfl (p_assign rfl rfl) ?_
  refine D_then (kp [1, 5, 7, 9, 10, 11, 12, 13, 14, 15] rfl) ?_
  refine V_seq (V_draw (.rd 0 (.wr2 1 [0] (.wr2 2 [] (.rd 3 (.rd 4 (.rd 5 (.wr 6 [5, 4, 3, 0] (.wr 7 [5] (.rd 8 .done)))))) 6 [0] (.wr 2 [] (.rd 3 (.rd 4 (.rd 5 (.wr 7 [5] (.rd 8 .done))))))) 6 [0] (.wr 1 [0] (.wr 2 [] (.rd 3 (.rd 4 (.rd 5 (.wr 7 [5] (.rd 8 .done))))))))) mixed (by kernel_rfl) rfl ?_)
  refine Dr rfl rfl (rlA (vs := [_, _, _, _, _]) ag26 sz26 rfl rfl rfl) ?_
  refine D_wr2 rfl ?_ ?_
  ·refine (.go (E' := [(0, _)]) rfl (.plain rfl) (w_callP rfl rfl rfl (fun w hg => ltask_c w)) rfl ?_)
   rintro _ _ ⟨rfl, rfl⟩
   refine ⟨(.cons rfl (.plain rfl) (rlA (vs := [_, _, _, _, _]) ag26 sz26 rfl rfl rfl) .nil), ?_⟩
   refine D_wr2 rfl ?_ ?_
   ·refine (.go (E' := []) rfl (.plain rfl) (w_callP rfl rfl rfl (fun w hg => exa_look w _ aF aL (hE.good hg) (exPlR (hg.own (x1, _) (by repeat first | exact mH | apply mT | apply List.mem_append_right))))) rfl ?_)
    rintro _ _ ⟨rfl, rfl⟩
    refine ⟨.nil, ?_⟩
    refine Dm rfl rfl rfl rfl ?_
    iterate 2 refine Dp rfl rfl (p_ext rfl rfl rfl) ?_
    refine D_wr (.go (E' := []) rfl (.plain rfl) (w_alloc zr49 rfl) rfl ?_)
    rintro _ _ ⟨b9, hb9, rfl, rfl⟩
    refine ⟨.nil, ?_⟩
    refine D_wr (.go (E' := []) rfl (.plain rfl) (w_storeAll (cs' := [_, _, _, _, _, _, _, _, _, _, _, _, _, _, _, _, _, _, _, _, _]) sz49 rfl rfl rfl rfl rfl rfl (by repeat first | exact .head | apply SetAt.tail) rfl) rfl ?_)
    rintro _ _ ⟨rfl, rfl⟩
    refine ⟨.nil, ?_⟩
    refine Dp rfl rfl (p_assign rfl rfl) ?_
    refine D_then (kp [1, 5, 7, 9, 10, 11, 12, 13, 14, 15, 16, 17] rfl) ?_
    refine V_seq ?_
    refine Vs rfl ?_
    refine Lm rfl rfl rfl ?_
    refine Lp rfl (p_neq rfl rfl rfl) ?_
    refine Lm rfl rfl rfl ?_
    refine L_yes rfl rfl rfl (by first | rfl | simp | decide) (X_p (p_move rfl rfl) ?_)
    refine L_yes rfl rfl rfl (by first | rfl | simp | decide) (X_p (p_neq rfl rfl rfl) ?_)
    refine Lp rfl (p_pick_f rfl rfl (by first | rfl | simp | decide) rfl) ?_
    refine Lm rfl rfl rfl ?_
    refine L_yes rfl rfl rfl (by first | rfl | simp | decide) (X_p (p_move rfl rfl) ?_)
    refine L_yes rfl rfl rfl (by first | rfl | simp | decide) (X_p (p_neq rfl rfl rfl) ?_)
    refine Lp rfl (p_pick_f rfl rfl (by first | rfl | simp | decide) rfl) ?_
    refine Lm rfl rfl rfl ?_
    refine L_yes rfl rfl rfl (by first | rfl | simp | decide) (X_p (p_move rfl rfl) ?_)
    refine L_yes rfl rfl rfl (by first | rfl | simp | decide) (X_p (p_neq rfl rfl rfl) ?_)
    refine Lp rfl (p_pick_f rfl rfl (by first | rfl | simp | decide) rfl) ?_
    refine Lm rfl rfl rfl ?_
    refine L_yes rfl rfl rfl (by first | rfl | simp | decide) (X_p (p_move rfl rfl) ?_)
    refine L_yes rfl rfl rfl (by first | rfl | simp | decide) (X_p (p_not rfl rfl) ?_)
    refine Lp rfl (p_pick_f rfl rfl (by first | rfl | simp | decide) rfl) ?_
    refine Lm rfl rfl rfl ?_
    refine L_yes rfl rfl rfl rfl (X_p (p_move rfl rfl) ?_)
    refine L_yes rfl rfl rfl rfl (X_p (p_neq rfl rfl rfl) ?_)
    refine Lp rfl (p_pick_f rfl rfl rfl rfl) ?_
    refine Lm rfl rfl rfl ?_
    refine L_yes rfl rfl rfl (by first | rfl | simp | decide) (X_p (p_move rfl rfl) ?_)
    refine Lp rfl (p_pick_f rfl rfl (by first | rfl | simp | decide) rfl) ?_
    refine Lm rfl rfl rfl ?_
    refine L_yes rfl rfl rfl rfl (X_p (p_move rfl rfl) ?_)
    refine L_yes rfl rfl rfl rfl (X_p (p_neq rfl rfl rfl) ?_)
    refine Lp rfl (p_pick_f rfl rfl rfl rfl) ?_
    refine Lm rfl rfl rfl ?_
    refine L_yes rfl rfl rfl (by first | rfl | simp | decide) (X_p (p_move rfl rfl) ?_)
    refine L_yes rfl rfl rfl (by first | rfl | simp | decide) (X_p (p_neq rfl rfl rfl) ?_)
    refine Lp rfl (p_pick_f rfl rfl (by first | rfl | simp | decide) rfl) ?_
    refine L_then (kp [1, 14, 16, 133] rfl) ?_
    refine V_cond_f rfl (by first | rfl | simp | decide) ?_
    refine V_skip (then_n ?_)
    refine Vs rfl ?_
    iterate 2 refine Lc rfl rfl rfl rfl (fun w hg => lspan6_c _ _ w) ?_
    refine Lw rfl (w_alloc zr24 rfl) ?_
    rintro _ _ ⟨b10, hb10, rfl, rfl⟩
    refine Lw rfl (w_alloc zr24 rfl) ?_
    rintro _ _ ⟨b11, hb11, rfl, rfl⟩
    iterate 2 refine Ls (cs' := [_, _]) rfl sz24 rfl rfl rfl rfl rfl rfl rfl ?_
    refine L_then (kp [1, 14, 16, 18, 19] rfl) ?_
    refine V_seq ?_
    refine V_seq (V_draw (.rd 0 (.rd 1 (.rd 2 (.rd 3 (.rd 4 (.rd 5 (.rd 6 (.rd 7 (.rd 8 (.rd 9 (.rd 10 (.rd 11 (.wr 12 [11, 10, 8, 7, 6, 5, 4, 3, 2, 1, 0] (.wr 13 [11, 10, 8, 7, 6, 5, 4, 3, 2, 1, 0] (.rd 14 (.rd 15 (.rd 16 .done))))))))))))))))) mixed (by kernel_rfl) rfl ?_)
    refine Dr rfl rfl (rlA (vs := [_, _, _, _, _, _, _, _, _, _, _, _, _]) ag28 sz28 rfl rfl rfl) ?_
    iterate 6 refine Dr rfl rfl (rlA (vs := [_, _]) ag24 sz24 rfl rfl rfl) ?_
    refine Dp rfl rfl (p_build (r := [_, _, _, _, _, _, _, _, _, _, _, _, _]) pl28 zr28 rfl rfl rfl) ?_
    refine Dp rfl rfl (p_neS lv28 ag28 eg28 rfl rfl rfl rfl rfl) ?_
    refine Dm rfl rfl rfl rfl ?_
    refine D_rd rfl (.yes rfl rfl rfl (by first | rfl | (simp; done) | (simp [eqL, eqv, Box.cells]; done) | decide)) (rlA (vs := [_, _, _, _, _, _, _, _, _, _, _, _, _, _, _, _, _, _, _, _, _]) ag49 sz49 rfl rfl rfl) ?_
    refine D_rd rfl (.yes rfl rfl rfl (by first | rfl | (simp; done) | (simp [eqL, eqv, Box.cells]; done) | decide)) (rlA (vs := [_, _, _, _, _, _, _, _, _, _, _, _, _]) ag28 sz28 rfl rfl rfl) ?_
    refine D_wr (.go (E' := [(11, _), (10, _), (6, _), (5, _), (4, _), (3, _), (2, _), (1, _), (0, _)]) rfl (.yes rfl rfl rfl (by first | rfl | (simp; done) | (simp [eqL, eqv, Box.cells]; done) | decide)) (w_callP rfl rfl rfl (fun w hg => larea_c _ _ _ _ w)) rfl ?_)
    rintro _ _ ⟨rfl, rfl⟩
    refine ⟨(.cons rfl (.yes rfl rfl rfl (by first | rfl | (simp; done) | (simp [eqL, eqv, Box.cells]; done) | decide)) (rlA (vs := [_, _, _, _, _, _, _, _, _, _, _, _, _]) ag28 sz28 rfl rfl rfl) (.cons rfl (.yes rfl rfl rfl (by first | rfl | (simp; done) | (simp [eqL, eqv, Box.cells]; done) | decide)) (rlA (vs := [_, _, _, _, _, _, _, _, _, _, _, _, _, _, _, _, _, _, _, _, _]) ag49 sz49 rfl rfl rfl) (.cons rfl (.plain rfl) (rlA (vs := [_, _]) ag24 sz24 rfl rfl rfl) (.cons rfl (.plain rfl) (rlA (vs := [_, _]) ag24 sz24 rfl rfl rfl) (.cons rfl (.plain rfl) (rlA (vs := [_, _]) ag24 sz24 rfl rfl rfl) (.cons rfl (.plain rfl) (rlA (vs := [_, _]) ag24 sz24 rfl rfl rfl) (.cons rfl (.plain rfl) (rlA (vs := [_, _]) ag24 sz24 rfl rfl rfl) (.cons rfl (.plain rfl) (rlA (vs := [_, _]) ag24 sz24 rfl rfl rfl) (.cons rfl (.plain rfl) (rlA (vs := [_, _, _, _, _, _, _, _, _, _, _, _, _]) ag28 sz28 rfl rfl rfl) .nil))))))))), ?_⟩
    refine D_wr (.go (E' := [(11, _), (10, _), (6, _), (5, _), (4, _), (3, _), (2, _), (1, _), (0, _)]) rfl (.yes rfl rfl rfl (by first | rfl | (simp; done) | (simp [eqL, eqv, Box.cells]; done) | decide)) (w_callP rfl rfl rfl (fun w hg => lspan6_c _ _ w)) rfl ?_)
    rintro _ _ ⟨rfl, rfl⟩
    refine ⟨(.cons rfl (.yes rfl rfl rfl (by first | rfl | (simp; done) | (simp [eqL, eqv, Box.cells]; done) | decide)) (rlA (vs := [_, _, _, _, _, _, _, _, _, _, _, _, _]) ag28 sz28 rfl rfl rfl) (.cons rfl (.yes rfl rfl rfl (by first | rfl | (simp; done) | (simp [eqL, eqv, Box.cells]; done) | decide)) (rlA (vs := [_, _, _, _, _, _, _, _, _, _, _, _, _, _, _, _, _, _, _, _, _]) ag49 sz49 rfl rfl rfl) (.cons rfl (.plain rfl) (rlA (vs := [_, _]) ag24 sz24 rfl rfl rfl) (.cons rfl (.plain rfl) (rlA (vs := [_, _]) ag24 sz24 rfl rfl rfl) (.cons rfl (.plain rfl) (rlA (vs := [_, _]) ag24 sz24 rfl rfl rfl) (.cons rfl (.plain rfl) (rlA (vs := [_, _]) ag24 sz24 rfl rfl rfl) (.cons rfl (.plain rfl) (rlA (vs := [_, _]) ag24 sz24 rfl rfl rfl) (.cons rfl (.plain rfl) (rlA (vs := [_, _]) ag24 sz24 rfl rfl rfl) (.cons rfl (.plain rfl) (rlA (vs := [_, _, _, _, _, _, _, _, _, _, _, _, _]) ag28 sz28 rfl rfl rfl) .nil))))))))), ?_⟩
    refine D_p rfl (.yes rfl rfl rfl (by first | rfl | (simp; done) | (simp [eqL, eqv, Box.cells]; done) | decide)) (p_build (r := [_, _, _, _, _, _, _, _, _, _, _, _, _, _, _, _, _, _, _, _, _]) pl49 zr49 rfl rfl rfl) ?_
    refine D_p rfl (.yes rfl rfl rfl (by first | rfl | (simp; done) | (simp [eqL, eqv, Box.cells]; done) | decide)) (p_neS lv49 ag49 eg49 rfl rfl rfl rfl rfl) ?_
    refine Dp rfl rfl (p_pick_f rfl rfl (by first | rfl | (simp; done) | (simp [eqL, eqv, Box.cells]; done) | decide) rfl) ?_
    refine D_then (kp [1, 152] rfl) ?_
    refine V_cond_f rfl (by first | rfl | (simp; done) | (simp [eqL, eqv, Box.cells]; done) | decide) ?_
    refine V_skip (then_n ?_)
    refine Vs rfl ?_
    refine Lp rfl (p_fieldo fo26_0 rfl rfl) ?_
    refine Lr rfl (rl ag22 rfl rfl rfl) ?_
    refine Lp rfl (p_build (r := [_, _, _, _]) pl68 zr68 rfl rfl rfl) ?_
    refine Lp rfl (p_idxo es22 rfl rfl rfl (by omega) (by omega)) ?_
    refine Lw rfl (w_store (cs' := (exPl2.lines.map Line.cells).flatten) sz68 rfl rfl rfl rfl rfl (by repeat first | exact .head | apply SetAt.tail) (by decide) rfl) ?_
    rintro _ _ ⟨rfl, rfl⟩
    refine L_then (kp [1] rfl) ?_
    refine V_seq (V_draw (.rd 0 (.wr2 1 [0] (.wr2 2 [] (.rd 3 (.rd 4 (.rd 5 (.wr 6 [5, 4, 3, 0] (.wr 7 [5] (.rd 8 .done)))))) 6 [0] (.wr 2 [] (.rd 3 (.rd 4 (.rd 5 (.wr 7 [5] (.rd 8 .done))))))) 6 [0] (.wr 1 [0] (.wr 2 [] (.rd 3 (.rd 4 (.rd 5 (.wr 7 [5] (.rd 8 .done))))))))) mixed (by kernel_rfl) rfl ?_)
    refine Dr rfl rfl (rlA (vs := [_, _, _, _, _]) ag26 sz26 rfl rfl rfl) ?_
    refine D_wr2 rfl ?_ ?_
    ·refine (.go (E' := [(0, _)]) rfl (.plain rfl) (w_callP rfl rfl rfl (fun w hg => ltask_c w)) rfl ?_)
     rintro _ _ ⟨rfl, rfl⟩
     refine ⟨(.cons rfl (.plain rfl) (rlA (vs := [_, _, _, _, _]) ag26 sz26 rfl rfl rfl) .nil), ?_⟩
     refine D_wr2 rfl ?_ ?_
     ·refine (.go (E' := []) rfl (.plain rfl) (w_callP rfl rfl rfl (fun w hg => exk_dec w _ aF aL (hE.good hg) (exk_R2 (hg.own (x1, _) (by repeat first | exact mH | apply mT | apply List.mem_append_right))))) rfl ?_)
      rintro _ _ ⟨rfl, rfl⟩
      refine ⟨.nil, ?_⟩
      refine Dm rfl rfl rfl rfl ?_
      iterate 2 refine Dp rfl rfl (p_ext rfl rfl rfl) ?_
      refine D_wr (.go (E' := []) rfl (.plain rfl) (w_alloc zr42 rfl) rfl ?_)
      rintro _ _ ⟨b12, hb12, rfl, rfl⟩
      refine ⟨.nil, ?_⟩
      refine D_wr (.go (E' := []) rfl (.plain rfl) (ws (cs' := [_, _, _]) sz42 rfl rfl rfl rfl rfl rfl rfl) rfl ?_)
      rintro _ _ ⟨rfl, rfl⟩
      refine ⟨.nil, ?_⟩
      refine Dp rfl rfl (p_assign rfl rfl) ?_
      refine D_then (kp [5, 20] rfl) ?_
      refine Vs rfl ?_
      refine Lm rfl rfl rfl ?_
      refine Lp rfl (p_eql rfl rfl rfl) ?_
      refine Lm rfl rfl rfl ?_
      refine L_yes rfl rfl rfl (by first | rfl | simp | decide) (X_rd (rlA (vs := [_, _, _]) ag42 sz42 rfl rfl rfl) ?_)
      refine L_yes rfl rfl rfl (by first | rfl | simp | decide) (X_p (p_build (r := [_, _, _]) pl42 zr42 rfl rfl rfl) ?_)
      refine L_yes rfl rfl rfl (by first | rfl | simp | decide) (X_p (p_eqS lv42 ag42 eg42 rfl rfl rfl rfl rfl) ?_)
      refine Lp rfl (p_pick_t rfl rfl (by first | rfl | simp | decide) rfl) ?_
      refine Lm rfl rfl rfl ?_
      refine L_yes rfl rfl rfl (by first | rfl | (simp; done) | (simp [eqL, eqv, Box.cells]; done) | decide) (X_wr (w_callP rfl rfl rfl (fun w hg => dawake_c aF aL w (hE.good hg))) ?_)
      rintro _ _ ⟨rfl, rfl⟩
      refine Lp rfl (p_pick_t rfl rfl (by first | rfl | (simp; done) | (simp [eqL, eqv, Box.cells]; done) | decide) rfl) ?_
      refine La rfl rfl rfl ?_
      refine L_then (kp [0] rfl) ?_
      refine V_ret ?_
      refine Leave.nil (.tmp rfl .nil) ?_
      rfl
     refine (.go (E' := [(0, _)]) rfl (.plain rfl) (w_alloc zr42 rfl) rfl ?_)
     rintro _ _ ⟨b12, hb12, rfl, rfl⟩
     refine ⟨(.cons rfl (.plain rfl) (rlA (vs := [_, _, _, _, _]) ag26 sz26 rfl rfl rfl) .nil), ?_⟩
     refine D_wr (.go (E' := []) rfl (.plain rfl) (w_callP rfl rfl rfl (fun w hg => exk_dec w _ aF aL (hE.good hg) (exk_R2 (hg.own (x1, _) (by repeat first | exact mH | apply mT | apply List.mem_append_right))))) rfl ?_)
     rintro _ _ ⟨rfl, rfl⟩
     refine ⟨.nil, ?_⟩
     refine Dm rfl rfl rfl rfl ?_
     iterate 2 refine Dp rfl rfl (p_ext rfl rfl rfl) ?_
     refine D_wr (.go (E' := []) rfl (.plain rfl) (ws (cs' := [_, _, _]) sz42 rfl rfl rfl rfl rfl rfl rfl) rfl ?_)
     rintro _ _ ⟨rfl, rfl⟩
     refine ⟨.nil, ?_⟩
     refine Dp rfl rfl (p_assign rfl rfl) ?_
     refine D_then (kp [5, 20] rfl) ?_
     refine Vs rfl ?_
     refine Lm rfl rfl rfl ?_
     refine Lp rfl (p_eql rfl rfl rfl) ?_
     refine Lm rfl rfl rfl ?_
     refine L_yes rfl rfl rfl (by first | rfl | simp | decide) (X_rd (rlA (vs := [_, _, _]) ag42 sz42 rfl rfl rfl) ?_)
     refine L_yes rfl rfl rfl (by first | rfl | simp | decide) (X_p (p_build (r := [_, _, _]) pl42 zr42 rfl rfl rfl) ?_)
     refine L_yes rfl rfl rfl (by first | rfl | simp | decide) (X_p (p_eqS lv42 ag42 eg42 rfl rfl rfl rfl rfl) ?_)
     refine Lp rfl (p_pick_t rfl rfl (by first | rfl | simp | decide) rfl) ?_
     refine Lm rfl rfl rfl ?_
     refine L_yes rfl rfl rfl (by first | rfl | (simp; done) | (simp [eqL, eqv, Box.cells]; done) | decide) (X_wr (w_callP rfl rfl rfl (fun w hg => dawake_c aF aL w (hE.good hg))) ?_)
     rintro _ _ ⟨rfl, rfl⟩
     refine Lp rfl (p_pick_t rfl rfl (by first | rfl | (simp; done) | (simp [eqL, eqv, Box.cells]; done) | decide) rfl) ?_
     refine La rfl rfl rfl ?_
     refine L_then (kp [0] rfl) ?_
     refine V_ret ?_
     refine Leave.nil (.tmp rfl .nil) ?_
     rfl
    refine (.go (E' := [(0, _)]) rfl (.plain rfl) (w_alloc zr42 rfl) rfl ?_)
    rintro _ _ ⟨b12, hb12, rfl, rfl⟩
    refine ⟨(.cons rfl (.plain rfl) (rlA (vs := [_, _, _, _, _]) ag26 sz26 rfl rfl rfl) .nil), ?_⟩
    refine D_wr (.go (E' := [(0, _)]) rfl (.plain rfl) (w_callP rfl rfl rfl (fun w hg => ltask_c w)) rfl ?_)
    rintro _ _ ⟨rfl, rfl⟩
    refine ⟨(.cons rfl (.plain rfl) (rlA (vs := [_, _, _, _, _]) ag26 sz26 rfl rfl rfl) .nil), ?_⟩
    refine D_wr (.go (E' := []) rfl (.plain rfl) (w_callP rfl rfl rfl (fun w hg => exk_dec w _ aF aL (hE.good hg) (exk_R2 (hg.own (x1, _) (by repeat first | exact mH | apply mT | apply List.mem_append_right))))) rfl ?_)
    rintro _ _ ⟨rfl, rfl⟩
    refine ⟨.nil, ?_⟩
    refine Dm rfl rfl rfl rfl ?_
    iterate 2 refine Dp rfl rfl (p_ext rfl rfl rfl) ?_
    refine D_wr (.go (E' := []) rfl (.plain rfl) (ws (cs' := [_, _, _]) sz42 rfl rfl rfl rfl rfl rfl rfl) rfl ?_)
    rintro _ _ ⟨rfl, rfl⟩
    refine ⟨.nil, ?_⟩
    refine Dp rfl rfl (p_assign rfl rfl) ?_
    refine D_then (kp [5, 20] rfl) ?_
    refine Vs rfl ?_
    refine Lm rfl rfl rfl ?_
    refine Lp rfl (p_eql rfl rfl rfl) ?_
    refine Lm rfl rfl rfl ?_
    refine L_yes rfl rfl rfl (by first | rfl | simp | decide) (X_rd (rlA (vs := [_, _, _]) ag42 sz42 rfl rfl rfl) ?_)
    refine L_yes rfl rfl rfl (by first | rfl | simp | decide) (X_p (p_build (r := [_, _, _]) pl42 zr42 rfl rfl rfl) ?_)
    refine L_yes rfl rfl rfl (by first | rfl | simp | decide) (X_p (p_eqS lv42 ag42 eg42 rfl rfl rfl rfl rfl) ?_)
    refine Lp rfl (p_pick_t rfl rfl (by first | rfl | simp | decide) rfl) ?_
    refine Lm rfl rfl rfl ?_
    refine L_yes rfl rfl rfl (by first | rfl | (simp; done) | (simp [eqL, eqv, Box.cells]; done) | decide) (X_wr (w_callP rfl rfl rfl (fun w hg => dawake_c aF aL w (hE.good hg))) ?_)
    rintro _ _ ⟨rfl, rfl⟩
    refine Lp rfl (p_pick_t rfl rfl (by first | rfl | (simp; done) | (simp [eqL, eqv, Box.cells]; done) | decide) rfl) ?_
    refine La rfl rfl rfl ?_
    refine L_then (kp [0] rfl) ?_
    refine V_ret ?_
    refine Leave.nil (.tmp rfl .nil) ?_
    rfl
   refine (.go (E' := [(0, _)]) rfl (.plain rfl) (w_alloc zr49 rfl) rfl ?_)
   rintro _ _ ⟨b9, hb9, rfl, rfl⟩
   refine ⟨(.cons rfl (.plain rfl) (rlA (vs := [_, _, _, _, _]) ag26 sz26 rfl rfl rfl) .nil), ?_⟩
   refine D_wr (.go (E' := []) rfl (.plain rfl) (w_callP rfl rfl rfl (fun w hg => exa_look w _ aF aL (hE.good hg) (exPlR (hg.own (x1, _) (by repeat first | exact mH | apply mT | apply List.mem_append_right))))) rfl ?_)
   rintro _ _ ⟨rfl, rfl⟩
   refine ⟨.nil, ?_⟩
   refine Dm rfl rfl rfl rfl ?_
   iterate 2 refine Dp rfl rfl (p_ext rfl rfl rfl) ?_
   refine D_wr (.go (E' := []) rfl (.plain rfl) (w_storeAll (cs' := [_, _, _, _, _, _, _, _, _, _, _, _, _, _, _, _, _, _, _, _, _]) sz49 rfl rfl rfl rfl rfl rfl (by repeat first | exact .head | apply SetAt.tail) rfl) rfl ?_)
   rintro _ _ ⟨rfl, rfl⟩
   refine ⟨.nil, ?_⟩
   refine Dp rfl rfl (p_assign rfl rfl) ?_
   refine D_then (kp [1, 5, 7, 9, 10, 11, 12, 13, 14, 15, 16, 17] rfl) ?_
   refine V_seq ?_
   refine Vs rfl ?_
   refine Lm rfl rfl rfl ?_
   refine Lp rfl (p_neq rfl rfl rfl) ?_
   refine Lm rfl rfl rfl ?_
   refine L_yes rfl rfl rfl (by first | rfl | simp | decide) (X_p (p_move rfl rfl) ?_)
   refine L_yes rfl rfl rfl (by first | rfl | simp | decide) (X_p (p_neq rfl rfl rfl) ?_)
   refine Lp rfl (p_pick_f rfl rfl (by first | rfl | simp | decide) rfl) ?_
   refine Lm rfl rfl rfl ?_
   refine L_yes rfl rfl rfl (by first | rfl | simp | decide) (X_p (p_move rfl rfl) ?_)
   refine L_yes rfl rfl rfl (by first | rfl | simp | decide) (X_p (p_neq rfl rfl rfl) ?_)
   refine Lp rfl (p_pick_f rfl rfl (by first | rfl | simp | decide) rfl) ?_
   refine Lm rfl rfl rfl ?_
   refine L_yes rfl rfl rfl (by first | rfl | simp | decide) (X_p (p_move rfl rfl) ?_)
   refine L_yes rfl rfl rfl (by first | rfl | simp | decide) (X_p (p_neq rfl rfl rfl) ?_)
   refine Lp rfl (p_pick_f rfl rfl (by first | rfl | simp | decide) rfl) ?_
   refine Lm rfl rfl rfl ?_
   refine L_yes rfl rfl rfl (by first | rfl | simp | decide) (X_p (p_move rfl rfl) ?_)
   refine L_yes rfl rfl rfl (by first | rfl | simp | decide) (X_p (p_not rfl rfl) ?_)
   refine Lp rfl (p_pick_f rfl rfl (by first | rfl | simp | decide) rfl) ?_
   refine Lm rfl rfl rfl ?_
   refine L_yes rfl rfl rfl rfl (X_p (p_move rfl rfl) ?_)
   refine L_yes rfl rfl rfl rfl (X_p (p_neq rfl rfl rfl) ?_)
   refine Lp rfl (p_pick_f rfl rfl rfl rfl) ?_
   refine Lm rfl rfl rfl ?_
   refine L_yes rfl rfl rfl (by first | rfl | simp | decide) (X_p (p_move rfl rfl) ?_)
   refine Lp rfl (p_pick_f rfl rfl (by first | rfl | simp | decide) rfl) ?_
   refine Lm rfl rfl rfl ?_
   refine L_yes rfl rfl rfl rfl (X_p (p_move rfl rfl) ?_)
   refine L_yes rfl rfl rfl rfl (X_p (p_neq rfl rfl rfl) ?_)
   refine Lp rfl (p_pick_f rfl rfl rfl rfl) ?_
   refine Lm rfl rfl rfl ?_
   refine L_yes rfl rfl rfl (by first | rfl | simp | decide) (X_p (p_move rfl rfl) ?_)
   refine L_yes rfl rfl rfl (by first | rfl | simp | decide) (X_p (p_neq rfl rfl rfl) ?_)
   refine Lp rfl (p_pick_f rfl rfl (by first | rfl | simp | decide) rfl) ?_
   refine L_then (kp [1, 14, 16, 133] rfl) ?_
   refine V_cond_f rfl (by first | rfl | simp | decide) ?_
   refine V_skip (then_n ?_)
   refine Vs rfl ?_
   iterate 2 refine Lc rfl rfl rfl rfl (fun w hg => lspan6_c _ _ w) ?_
   refine Lw rfl (w_alloc zr24 rfl) ?_
   rintro _ _ ⟨b10, hb10, rfl, rfl⟩
   refine Lw rfl (w_alloc zr24 rfl) ?_
   rintro _ _ ⟨b11, hb11, rfl, rfl⟩
   iterate 2 refine Ls (cs' := [_, _]) rfl sz24 rfl rfl rfl rfl rfl rfl rfl ?_
   refine L_then (kp [1, 14, 16, 18, 19] rfl) ?_
   refine V_seq ?_
   refine V_seq (V_draw (.rd 0 (.rd 1 (.rd 2 (.rd 3 (.rd 4 (.rd 5 (.rd 6 (.rd 7 (.rd 8 (.rd 9 (.rd 10 (.rd 11 (.wr 12 [11, 10, 8, 7, 6, 5, 4, 3, 2, 1, 0] (.wr 13 [11, 10, 8, 7, 6, 5, 4, 3, 2, 1, 0] (.rd 14 (.rd 15 (.rd 16 .done))))))))))))))))) mixed (by kernel_rfl) rfl ?_)
   refine Dr rfl rfl (rlA (vs := [_, _, _, _, _, _, _, _, _, _, _, _, _]) ag28 sz28 rfl rfl rfl) ?_
   iterate 6 refine Dr rfl rfl (rlA (vs := [_, _]) ag24 sz24 rfl rfl rfl) ?_
   refine Dp rfl rfl (p_build (r := [_, _, _, _, _, _, _, _, _, _, _, _, _]) pl28 zr28 rfl rfl rfl) ?_
   refine Dp rfl rfl (p_neS lv28 ag28 eg28 rfl rfl rfl rfl rfl) ?_
   refine Dm rfl rfl rfl rfl ?_
   refine D_rd rfl (.yes rfl rfl rfl (by first | rfl | (simp; done) | (simp [eqL, eqv, Box.cells]; done) | decide)) (rlA (vs := [_, _, _, _, _, _, _, _, _, _, _, _, _, _, _, _, _, _, _, _, _]) ag49 sz49 rfl rfl rfl) ?_
   refine D_rd rfl (.yes rfl rfl rfl (by first | rfl | (simp; done) | (simp [eqL, eqv, Box.cells]; done) | decide)) (rlA (vs := [_, _, _, _, _, _, _, _, _, _, _, _, _]) ag28 sz28 rfl rfl rfl) ?_
   refine D_wr (.go (E' := [(11, _), (10, _), (6, _), (5, _), (4, _), (3, _), (2, _), (1, _), (0, _)]) rfl (.yes rfl rfl rfl (by first | rfl | (simp; done) | (simp [eqL, eqv, Box.cells]; done) | decide)) (w_callP rfl rfl rfl (fun w hg => larea_c _ _ _ _ w)) rfl ?_)
   rintro _ _ ⟨rfl, rfl⟩
   refine ⟨(.cons rfl (.yes rfl rfl rfl (by first | rfl | (simp; done) | (simp [eqL, eqv, Box.cells]; done) | decide)) (rlA (vs := [_, _, _, _, _, _, _, _, _, _, _, _, _]) ag28 sz28 rfl rfl rfl) (.cons rfl (.yes rfl rfl rfl (by first | rfl | (simp; done) | (simp [eqL, eqv, Box.cells]; done) | decide)) (rlA (vs := [_, _, _, _, _, _, _, _, _, _, _, _, _, _, _, _, _, _, _, _, _]) ag49 sz49 rfl rfl rfl) (.cons rfl (.plain rfl) (rlA (vs := [_, _]) ag24 sz24 rfl rfl rfl) (.cons rfl (.plain rfl) (rlA (vs := [_, _]) ag24 sz24 rfl rfl rfl) (.cons rfl (.plain rfl) (rlA (vs := [_, _]) ag24 sz24 rfl rfl rfl) (.cons rfl (.plain rfl) (rlA (vs := [_, _]) ag24 sz24 rfl rfl rfl) (.cons rfl (.plain rfl) (rlA (vs := [_, _]) ag24 sz24 rfl rfl rfl) (.cons rfl (.plain rfl) (rlA (vs := [_, _]) ag24 sz24 rfl rfl rfl) (.cons rfl (.plain rfl) (rlA (vs := [_, _, _, _, _, _, _, _, _, _, _, _, _]) ag28 sz28 rfl rfl rfl) .nil))))))))), ?_⟩
   refine D_wr (.go (E' := [(11, _), (10, _), (6, _), (5, _), (4, _), (3, _), (2, _), (1, _), (0, _)]) rfl (.yes rfl rfl rfl (by first | rfl | (simp; done) | (simp [eqL, eqv, Box.cells]; done) | decide)) (w_callP rfl rfl rfl (fun w hg => lspan6_c _ _ w)) rfl ?_)
   rintro _ _ ⟨rfl, rfl⟩
   refine ⟨(.cons rfl (.yes rfl rfl rfl (by first | rfl | (simp; done) | (simp [eqL, eqv, Box.cells]; done) | decide)) (rlA (vs := [_, _, _, _, _, _, _, _, _, _, _, _, _]) ag28 sz28 rfl rfl rfl) (.cons rfl (.yes rfl rfl rfl (by first | rfl | (simp; done) | (simp [eqL, eqv, Box.cells]; done) | decide)) (rlA (vs := [_, _, _, _, _, _, _, _, _, _, _, _, _, _, _, _, _, _, _, _, _]) ag49 sz49 rfl rfl rfl) (.cons rfl (.plain rfl) (rlA (vs := [_, _]) ag24 sz24 rfl rfl rfl) (.cons rfl (.plain rfl) (rlA (vs := [_, _]) ag24 sz24 rfl rfl rfl) (.cons rfl (.plain rfl) (rlA (vs := [_, _]) ag24 sz24 rfl rfl rfl) (.cons rfl (.plain rfl) (rlA (vs := [_, _]) ag24 sz24 rfl rfl rfl) (.cons rfl (.plain rfl) (rlA (vs := [_, _]) ag24 sz24 rfl rfl rfl) (.cons rfl (.plain rfl) (rlA (vs := [_, _]) ag24 sz24 rfl rfl rfl) (.cons rfl (.plain rfl) (rlA (vs := [_, _, _, _, _, _, _, _, _, _, _, _, _]) ag28 sz28 rfl rfl rfl) .nil))))))))), ?_⟩
   refine D_p rfl (.yes rfl rfl rfl (by first | rfl | (simp; done) | (simp [eqL, eqv, Box.cells]; done) | decide)) (p_build (r := [_, _, _, _, _, _, _, _, _, _, _, _, _, _, _, _, _, _, _, _, _]) pl49 zr49 rfl rfl rfl) ?_
   refine D_p rfl (.yes rfl rfl rfl (by first | rfl | (simp; done) | (simp [eqL, eqv, Box.cells]; done) | decide)) (p_neS lv49 ag49 eg49 rfl rfl rfl rfl rfl) ?_
   refine Dp rfl rfl (p_pick_f rfl rfl (by first | rfl | (simp; done) | (simp [eqL, eqv, Box.cells]; done) | decide) rfl) ?_
   refine D_then (kp [1, 152] rfl) ?_
   refine V_cond_f rfl (by first | rfl | (simp; done) | (simp [eqL, eqv, Box.cells]; done) | decide) ?_
   refine V_skip (then_n ?_)
   refine Vs rfl ?_
   refine Lp rfl (p_fieldo fo26_0 rfl rfl) ?_
   refine Lr rfl (rl ag22 rfl rfl rfl) ?_
   refine Lp rfl (p_build (r := [_, _, _, _]) pl68 zr68 rfl rfl rfl) ?_
   refine Lp rfl (p_idxo es22 rfl rfl rfl (by omega) (by omega)) ?_
   refine Lw rfl (w_store (cs' := (exPl2.lines.map Line.cells).flatten) sz68 rfl rfl rfl rfl rfl (by repeat first | exact .head | apply SetAt.tail) (by decide) rfl) ?_
   rintro _ _ ⟨rfl, rfl⟩
   refine L_then (kp [1] rfl) ?_
   refine V_seq (V_draw (.rd 0 (.wr2 1 [0] (.wr2 2 [] (.rd 3 (.rd 4 (.rd 5 (.wr 6 [5, 4, 3, 0] (.wr 7 [5] (.rd 8 .done)))))) 6 [0] (.wr 2 [] (.rd 3 (.rd 4 (.rd 5 (.wr 7 [5] (.rd 8 .done))))))) 6 [0] (.wr 1 [0] (.wr 2 [] (.rd 3 (.rd 4 (.rd 5 (.wr 7 [5] (.rd 8 .done))))))))) mixed (by kernel_rfl) rfl ?_)
   refine Dr rfl rfl (rlA (vs := [_, _, _, _, _]) ag26 sz26 rfl rfl rfl) ?_
   refine D_wr2 rfl ?_ ?_
   ·refine (.go (E' := [(0, _)]) rfl (.plain rfl) (w_callP rfl rfl rfl (fun w hg => ltask_c w)) rfl ?_)
    rintro _ _ ⟨rfl, rfl⟩
    refine ⟨(.cons rfl (.plain rfl) (rlA (vs := [_, _, _, _, _]) ag26 sz26 rfl rfl rfl) .nil), ?_⟩
    refine D_wr2 rfl ?_ ?_
    ·refine (.go (E' := []) rfl (.plain rfl) (w_callP rfl rfl rfl (fun w hg => exk_dec w _ aF aL (hE.good hg) (exk_R2 (hg.own (x1, _) (by repeat first | exact mH | apply mT | apply List.mem_append_right))))) rfl ?_)
     rintro _ _ ⟨rfl, rfl⟩
     refine ⟨.nil, ?_⟩
     refine Dm rfl rfl rfl rfl ?_
     iterate 2 refine Dp rfl rfl (p_ext rfl rfl rfl) ?_
     refine D_wr (.go (E' := []) rfl (.plain rfl) (w_alloc zr42 rfl) rfl ?_)
     rintro _ _ ⟨b12, hb12, rfl, rfl⟩
     refine ⟨.nil, ?_⟩
     refine D_wr (.go (E' := []) rfl (.plain rfl) (ws (cs' := [_, _, _]) sz42 rfl rfl rfl rfl rfl rfl rfl) rfl ?_)
     rintro _ _ ⟨rfl, rfl⟩
     refine ⟨.nil, ?_⟩
     refine Dp rfl rfl (p_assign rfl rfl) ?_
     refine D_then (kp [5, 20] rfl) ?_
     refine Vs rfl ?_
     refine Lm rfl rfl rfl ?_
     refine Lp rfl (p_eql rfl rfl rfl) ?_
     refine Lm rfl rfl rfl ?_
     refine L_yes rfl rfl rfl (by first | rfl | simp | decide) (X_rd (rlA (vs := [_, _, _]) ag42 sz42 rfl rfl rfl) ?_)
     refine L_yes rfl rfl rfl (by first | rfl | simp | decide) (X_p (p_build (r := [_, _, _]) pl42 zr42 rfl rfl rfl) ?_)
     refine L_yes rfl rfl rfl (by first | rfl | simp | decide) (X_p (p_eqS lv42 ag42 eg42 rfl rfl rfl rfl rfl) ?_)
     refine Lp rfl (p_pick_t rfl rfl (by first | rfl | simp | decide) rfl) ?_
     refine Lm rfl rfl rfl ?_
     refine L_yes rfl rfl rfl (by first | rfl | (simp; done) | (simp [eqL, eqv, Box.cells]; done) | decide) (X_wr (w_callP rfl rfl rfl (fun w hg => dawake_c aF aL w (hE.good hg))) ?_)
     rintro _ _ ⟨rfl, rfl⟩
     refine Lp rfl (p_pick_t rfl rfl (by first | rfl | (simp; done) | (simp [eqL, eqv, Box.cells]; done) | decide) rfl) ?_
     refine La rfl rfl rfl ?_
     refine L_then (kp [0] rfl) ?_
     refine V_ret ?_
     refine Leave.nil (.tmp rfl .nil) ?_
     rfl
    refine (.go (E' := [(0, _)]) rfl (.plain rfl) (w_alloc zr42 rfl) rfl ?_)
    rintro _ _ ⟨b12, hb12, rfl, rfl⟩
    refine ⟨(.cons rfl (.plain rfl) (rlA (vs := [_, _, _, _, _]) ag26 sz26 rfl rfl rfl) .nil), ?_⟩
    refine D_wr (.go (E' := []) rfl (.plain rfl) (w_callP rfl rfl rfl (fun w hg => exk_dec w _ aF aL (hE.good hg) (exk_R2 (hg.own (x1, _) (by repeat first | exact mH | apply mT | apply List.mem_append_right))))) rfl ?_)
    rintro _ _ ⟨rfl, rfl⟩
    refine ⟨.nil, ?_⟩
    refine Dm rfl rfl rfl rfl ?_
    iterate 2 refine Dp rfl rfl (p_ext rfl rfl rfl) ?_
    refine D_wr (.go (E' := []) rfl (.plain rfl) (ws (cs' := [_, _, _]) sz42 rfl rfl rfl rfl rfl rfl rfl) rfl ?_)
    rintro _ _ ⟨rfl, rfl⟩
    refine ⟨.nil, ?_⟩
    refine Dp rfl rfl (p_assign rfl rfl) ?_
    refine D_then (kp [5, 20] rfl) ?_
    refine Vs rfl ?_
    refine Lm rfl rfl rfl ?_
    refine Lp rfl (p_eql rfl rfl rfl) ?_
    refine Lm rfl rfl rfl ?_
    refine L_yes rfl rfl rfl (by first | rfl | simp | decide) (X_rd (rlA (vs := [_, _, _]) ag42 sz42 rfl rfl rfl) ?_)
    refine L_yes rfl rfl rfl (by first | rfl | simp | decide) (X_p (p_build (r := [_, _, _]) pl42 zr42 rfl rfl rfl) ?_)
    refine L_yes rfl rfl rfl (by first | rfl | simp | decide) (X_p (p_eqS lv42 ag42 eg42 rfl rfl rfl rfl rfl) ?_)
    refine Lp rfl (p_pick_t rfl rfl (by first | rfl | simp | decide) rfl) ?_
    refine Lm rfl rfl rfl ?_
    refine L_yes rfl rfl rfl (by first | rfl | (simp; done) | (simp [eqL, eqv, Box.cells]; done) | decide) (X_wr (w_callP rfl rfl rfl (fun w hg => dawake_c aF aL w (hE.good hg))) ?_)
    rintro _ _ ⟨rfl, rfl⟩
    refine Lp rfl (p_pick_t rfl rfl (by first | rfl | (simp; done) | (simp [eqL, eqv, Box.cells]; done) | decide) rfl) ?_
    refine La rfl rfl rfl ?_
    refine L_then (kp [0] rfl) ?_
    refine V_ret ?_
    refine Leave.nil (.tmp rfl .nil) ?_
    rfl
   refine (.go (E' := [(0, _)]) rfl (.plain rfl) (w_alloc zr42 rfl) rfl ?_)
   rintro _ _ ⟨b12, hb12, rfl, rfl⟩
   refine ⟨(.cons rfl (.plain rfl) (rlA (vs := [_, _, _, _, _]) ag26 sz26 rfl rfl rfl) .nil), ?_⟩
   refine D_wr (.go (E' := [(0, _)]) rfl (.plain rfl) (w_callP rfl rfl rfl (fun w hg => ltask_c w)) rfl ?_)
   rintro _ _ ⟨rfl, rfl⟩
   refine ⟨(.cons rfl (.plain rfl) (rlA (vs := [_, _, _, _, _]) ag26 sz26 rfl rfl rfl) .nil), ?_⟩
   refine D_wr (.go (E' := []) rfl (.plain rfl) (w_callP rfl rfl rfl (fun w hg => exk_dec w _ aF aL (hE.good hg) (exk_R2 (hg.own (x1, _) (by repeat first | exact mH | apply mT | apply List.mem_append_right))))) rfl ?_)
   rintro _ _ ⟨rfl, rfl⟩
   refine ⟨.nil, ?_⟩
   refine Dm rfl rfl rfl rfl ?_
   iterate 2 refine Dp rfl rfl (p_ext rfl rfl rfl) ?_
   refine D_wr (.go (E' := []) rfl (.plain rfl) (ws (cs' := [_, _, _]) sz42 rfl rfl rfl rfl rfl rfl rfl) rfl ?_)
   rintro _ _ ⟨rfl, rfl⟩
   refine ⟨.nil, ?_⟩
   refine Dp rfl rfl (p_assign rfl rfl) ?_
   refine D_then (kp [5, 20] rfl) ?_
   refine Vs rfl ?_
   refine Lm rfl rfl rfl ?_
   refine Lp rfl (p_eql rfl rfl rfl) ?_
   refine Lm rfl rfl rfl ?_
   refine L_yes rfl rfl rfl (by first | rfl | simp | decide) (X_rd (rlA (vs := [_, _, _]) ag42 sz42 rfl rfl rfl) ?_)
   refine L_yes rfl rfl rfl (by first | rfl | simp | decide) (X_p (p_build (r := [_, _, _]) pl42 zr42 rfl rfl rfl) ?_)
   refine L_yes rfl rfl rfl (by first | rfl | simp | decide) (X_p (p_eqS lv42 ag42 eg42 rfl rfl rfl rfl rfl) ?_)
   refine Lp rfl (p_pick_t rfl rfl (by first | rfl | simp | decide) rfl) ?_
   refine Lm rfl rfl rfl ?_
   refine L_yes rfl rfl rfl (by first | rfl | (simp; done) | (simp [eqL, eqv, Box.cells]; done) | decide) (X_wr (w_callP rfl rfl rfl (fun w hg => dawake_c aF aL w (hE.good hg))) ?_)
   rintro _ _ ⟨rfl, rfl⟩
   refine Lp rfl (p_pick_t rfl rfl (by first | rfl | (simp; done) | (simp [eqL, eqv, Box.cells]; done) | decide) rfl) ?_
   refine La rfl rfl rfl ?_
   refine L_then (kp [0] rfl) ?_
   refine V_ret ?_
   refine Leave.nil (.tmp rfl .nil) ?_
   rfl
  refine (.go (E' := [(0, _)]) rfl (.plain rfl) (w_alloc zr49 rfl) rfl ?_)
  rintro _ _ ⟨b9, hb9, rfl, rfl⟩
  refine ⟨(.cons rfl (.plain rfl) (rlA (vs := [_, _, _, _, _]) ag26 sz26 rfl rfl rfl) .nil), ?_⟩
  refine D_wr (.go (E' := [(0, _)]) rfl (.plain rfl) (w_callP rfl rfl rfl (fun w hg => ltask_c w)) rfl ?_)
  rintro _ _ ⟨rfl, rfl⟩
  refine ⟨(.cons rfl (.plain rfl) (rlA (vs := [_, _, _, _, _]) ag26 sz26 rfl rfl rfl) .nil), ?_⟩
  refine D_wr (.go (E' := []) rfl (.plain rfl) (w_callP rfl rfl rfl (fun w hg => exa_look w _ aF aL (hE.good hg) (exPlR (hg.own (x1, _) (by repeat first | exact mH | apply mT | apply List.mem_append_right))))) rfl ?_)
  rintro _ _ ⟨rfl, rfl⟩
  refine ⟨.nil, ?_⟩
  refine Dm rfl rfl rfl rfl ?_
  iterate 2 refine Dp rfl rfl (p_ext rfl rfl rfl) ?_
  refine D_wr (.go (E' := []) rfl (.plain rfl) (w_storeAll (cs' := [_, _, _, _, _, _, _, _, _, _, _, _, _, _, _, _, _, _, _, _, _]) sz49 rfl rfl rfl rfl rfl rfl (by repeat first | exact .head | apply SetAt.tail) rfl) rfl ?_)
  rintro _ _ ⟨rfl, rfl⟩
  refine ⟨.nil, ?_⟩
  refine Dp rfl rfl (p_assign rfl rfl) ?_
  refine D_then (kp [1, 5, 7, 9, 10, 11, 12, 13, 14, 15, 16, 17] rfl) ?_
  refine V_seq ?_
  refine Vs rfl ?_
  refine Lm rfl rfl rfl ?_
  refine Lp rfl (p_neq rfl rfl rfl) ?_
  refine Lm rfl rfl rfl ?_
  refine L_yes rfl rfl rfl (by first | rfl | simp | decide) (X_p (p_move rfl rfl) ?_)
  refine L_yes rfl rfl rfl (by first | rfl | simp | decide) (X_p (p_neq rfl rfl rfl) ?_)
  refine Lp rfl (p_pick_f rfl rfl (by first | rfl | simp | decide) rfl) ?_
  refine Lm rfl rfl rfl ?_
  refine L_yes rfl rfl rfl (by first | rfl | simp | decide) (X_p (p_move rfl rfl) ?_)
  refine L_yes rfl rfl rfl (by first | rfl | simp | decide) (X_p (p_neq rfl rfl rfl) ?_)
  refine Lp rfl (p_pick_f rfl rfl (by first | rfl | simp | decide) rfl) ?_
  refine Lm rfl rfl rfl ?_
  refine L_yes rfl rfl rfl (by first | rfl | simp | decide) (X_p (p_move rfl rfl) ?_)
  refine L_yes rfl rfl rfl (by first | rfl | simp | decide) (X_p (p_neq rfl rfl rfl) ?_)
  refine Lp rfl (p_pick_f rfl rfl (by first | rfl | simp | decide) rfl) ?_
  refine Lm rfl rfl rfl ?_
  refine L_yes rfl rfl rfl (by first | rfl | simp | decide) (X_p (p_move rfl rfl) ?_)
  refine L_yes rfl rfl rfl (by first | rfl | simp | decide) (X_p (p_not rfl rfl) ?_)
  refine Lp rfl (p_pick_f rfl rfl (by first | rfl | simp | decide) rfl) ?_
  refine Lm rfl rfl rfl ?_
  refine L_yes rfl rfl rfl rfl (X_p (p_move rfl rfl) ?_)
  refine L_yes rfl rfl rfl rfl (X_p (p_neq rfl rfl rfl) ?_)
  refine Lp rfl (p_pick_f rfl rfl rfl rfl) ?_
  refine Lm rfl rfl rfl ?_
  refine L_yes rfl rfl rfl (by first | rfl | simp | decide) (X_p (p_move rfl rfl) ?_)
  refine Lp rfl (p_pick_f rfl rfl (by first | rfl | simp | decide) rfl) ?_
  refine Lm rfl rfl rfl ?_
  refine L_yes rfl rfl rfl rfl (X_p (p_move rfl rfl) ?_)
  refine L_yes rfl rfl rfl rfl (X_p (p_neq rfl rfl rfl) ?_)
  refine Lp rfl (p_pick_f rfl rfl rfl rfl) ?_
  refine Lm rfl rfl rfl ?_
  refine L_yes rfl rfl rfl (by first | rfl | simp | decide) (X_p (p_move rfl rfl) ?_)
  refine L_yes rfl rfl rfl (by first | rfl | simp | decide) (X_p (p_neq rfl rfl rfl) ?_)
  refine Lp rfl (p_pick_f rfl rfl (by first | rfl | simp | decide) rfl) ?_
  refine L_then (kp [1, 14, 16, 133] rfl) ?_
  refine V_cond_f rfl (by first | rfl | simp | decide) ?_
  refine V_skip (then_n ?_)
  refine Vs rfl ?_
  iterate 2 refine Lc rfl rfl rfl rfl (fun w hg => lspan6_c _ _ w) ?_
  refine Lw rfl (w_alloc zr24 rfl) ?_
  rintro _ _ ⟨b10, hb10, rfl, rfl⟩
  refine Lw rfl (w_alloc zr24 rfl) ?_
  rintro _ _ ⟨b11, hb11, rfl, rfl⟩
  iterate 2 refine Ls (cs' := [_, _]) rfl sz24 rfl rfl rfl rfl rfl rfl rfl ?_
  refine L_then (kp [1, 14, 16, 18, 19] rfl) ?_
  refine V_seq ?_
  refine V_seq (V_draw (.rd 0 (.rd 1 (.rd 2 (.rd 3 (.rd 4 (.rd 5 (.rd 6 (.rd 7 (.rd 8 (.rd 9 (.rd 10 (.rd 11 (.wr 12 [11, 10, 8, 7, 6, 5, 4, 3, 2, 1, 0] (.wr 13 [11, 10, 8, 7, 6, 5, 4, 3, 2, 1, 0] (.rd 14 (.rd 15 (.rd 16 .done))))))))))))))))) mixed (by kernel_rfl) rfl ?_)
  refine Dr rfl rfl (rlA (vs := [_, _, _, _, _, _, _, _, _, _, _, _, _]) ag28 sz28 rfl rfl rfl) ?_
  iterate 6 refine Dr rfl rfl (rlA (vs := [_, _]) ag24 sz24 rfl rfl rfl) ?_
  refine Dp rfl rfl (p_build (r := [_, _, _, _, _, _, _, _, _, _, _, _, _]) pl28 zr28 rfl rfl rfl) ?_
  refine Dp rfl rfl (p_neS lv28 ag28 eg28 rfl rfl rfl rfl rfl) ?_
  refine Dm rfl rfl rfl rfl ?_
  refine D_rd rfl (.yes rfl rfl rfl (by first | rfl | (simp; done) | (simp [eqL, eqv, Box.cells]; done) | decide)) (rlA (vs := [_, _, _, _, _, _, _, _, _, _, _, _, _, _, _, _, _, _, _, _, _]) ag49 sz49 rfl rfl rfl) ?_
  refine D_rd rfl (.yes rfl rfl rfl (by first | rfl | (simp; done) | (simp [eqL, eqv, Box.cells]; done) | decide)) (rlA (vs := [_, _, _, _, _, _, _, _, _, _, _, _, _]) ag28 sz28 rfl rfl rfl) ?_
  refine D_wr (.go (E' := [(11, _), (10, _), (6, _), (5, _), (4, _), (3, _), (2, _), (1, _), (0, _)]) rfl (.yes rfl rfl rfl (by first | rfl | (simp; done) | (simp [eqL, eqv, Box.cells]; done) | decide)) (w_callP rfl rfl rfl (fun w hg => larea_c _ _ _ _ w)) rfl ?_)
  rintro _ _ ⟨rfl, rfl⟩
  refine ⟨(.cons rfl (.yes rfl rfl rfl (by first | rfl | (simp; done) | (simp [eqL, eqv, Box.cells]; done) | decide)) (rlA (vs := [_, _, _, _, _, _, _, _, _, _, _, _, _]) ag28 sz28 rfl rfl rfl) (.cons rfl (.yes rfl rfl rfl (by first | rfl | (simp; done) | (simp [eqL, eqv, Box.cells]; done) | decide)) (rlA (vs := [_, _, _, _, _, _, _, _, _, _, _, _, _, _, _, _, _, _, _, _, _]) ag49 sz49 rfl rfl rfl) (.cons rfl (.plain rfl) (rlA (vs := [_, _]) ag24 sz24 rfl rfl rfl) (.cons rfl (.plain rfl) (rlA (vs := [_, _]) ag24 sz24 rfl rfl rfl) (.cons rfl (.plain rfl) (rlA (vs := [_, _]) ag24 sz24 rfl rfl rfl) (.cons rfl (.plain rfl) (rlA (vs := [_, _]) ag24 sz24 rfl rfl rfl) (.cons rfl (.plain rfl) (rlA (vs := [_, _]) ag24 sz24 rfl rfl rfl) (.cons rfl (.plain rfl) (rlA (vs := [_, _]) ag24 sz24 rfl rfl rfl) (.cons rfl (.plain rfl) (rlA (vs := [_, _, _, _, _, _, _, _, _, _, _, _, _]) ag28 sz28 rfl rfl rfl) .nil))))))))), ?_⟩
  refine D_wr (.go (E' := [(11, _), (10, _), (6, _), (5, _), (4, _), (3, _), (2, _), (1, _), (0, _)]) rfl (.yes rfl rfl rfl (by first | rfl | (simp; done) | (simp [eqL, eqv, Box.cells]; done) | decide)) (w_callP rfl rfl rfl (fun w hg => lspan6_c _ _ w)) rfl ?_)
  rintro _ _ ⟨rfl, rfl⟩
  refine ⟨(.cons rfl (.yes rfl rfl rfl (by first | rfl | (simp; done) | (simp [eqL, eqv, Box.cells]; done) | decide)) (rlA (vs := [_, _, _, _, _, _, _, _, _, _, _, _, _]) ag28 sz28 rfl rfl rfl) (.cons rfl (.yes rfl rfl rfl (by first | rfl | (simp; done) | (simp [eqL, eqv, Box.cells]; done) | decide)) (rlA (vs := [_, _, _, _, _, _, _, _, _, _, _, _, _, _, _, _, _, _, _, _, _]) ag49 sz49 rfl rfl rfl) (.cons rfl (.plain rfl) (rlA (vs := [_, _]) ag24 sz24 rfl rfl rfl) (.cons rfl (.plain rfl) (rlA (vs := [_, _]) ag24 sz24 rfl rfl rfl) (.cons rfl (.plain rfl) (rlA (vs := [_, _]) ag24 sz24 rfl rfl rfl) (.cons rfl (.plain rfl) (rlA (vs := [_, _]) ag24 sz24 rfl rfl rfl) (.cons rfl (.plain rfl) (rlA (vs := [_, _]) ag24 sz24 rfl rfl rfl) (.cons rfl (.plain rfl) (rlA (vs := [_, _]) ag24 sz24 rfl rfl rfl) (.cons rfl (.plain rfl) (rlA (vs := [_, _, _, _, _, _, _, _, _, _, _, _, _]) ag28 sz28 rfl rfl rfl) .nil))))))))), ?_⟩
  refine D_p rfl (.yes rfl rfl rfl (by first | rfl | (simp; done) | (simp [eqL, eqv, Box.cells]; done) | decide)) (p_build (r := [_, _, _, _, _, _, _, _, _, _, _, _, _, _, _, _, _, _, _, _, _]) pl49 zr49 rfl rfl rfl) ?_
  refine D_p rfl (.yes rfl rfl rfl (by first | rfl | (simp; done) | (simp [eqL, eqv, Box.cells]; done) | decide)) (p_neS lv49 ag49 eg49 rfl rfl rfl rfl rfl) ?_
  refine Dp rfl rfl (p_pick_f rfl rfl (by first | rfl | (simp; done) | (simp [eqL, eqv, Box.cells]; done) | decide) rfl) ?_
  refine D_then (kp [1, 152] rfl) ?_
  refine V_cond_f rfl (by first | rfl | (simp; done) | (simp [eqL, eqv, Box.cells]; done) | decide) ?_
  refine V_skip (then_n ?_)
  refine Vs rfl ?_
  refine Lp rfl (p_fieldo fo26_0 rfl rfl) ?_
  refine Lr rfl (rl ag22 rfl rfl rfl) ?_
  refine Lp rfl (p_build (r := [_, _, _, _]) pl68 zr68 rfl rfl rfl) ?_
  refine Lp rfl (p_idxo es22 rfl rfl rfl (by omega) (by omega)) ?_
  refine Lw rfl (w_store (cs' := (exPl2.lines.map Line.cells).flatten) sz68 rfl rfl rfl rfl rfl (by repeat first | exact .head | apply SetAt.tail) (by decide) rfl) ?_
  rintro _ _ ⟨rfl, rfl⟩
  refine L_then (kp [1] rfl) ?_
  refine V_seq (V_draw (.rd 0 (.wr2 1 [0] (.wr2 2 [] (.rd 3 (.rd 4 (.rd 5 (.wr 6 [5, 4, 3, 0] (.wr 7 [5] (.rd 8 .done)))))) 6 [0] (.wr 2 [] (.rd 3 (.rd 4 (.rd 5 (.wr 7 [5] (.rd 8 .done))))))) 6 [0] (.wr 1 [0] (.wr 2 [] (.rd 3 (.rd 4 (.rd 5 (.wr 7 [5] (.rd 8 .done))))))))) mixed (by kernel_rfl) rfl ?_)
  refine Dr rfl rfl (rlA (vs := [_, _, _, _, _]) ag26 sz26 rfl rfl rfl) ?_
  refine D_wr2 rfl ?_ ?_
  ·refine (.go (E' := [(0, _)]) rfl (.plain rfl) (w_callP rfl rfl rfl (fun w hg => ltask_c w)) rfl ?_)
   rintro _ _ ⟨rfl, rfl⟩
   refine ⟨(.cons rfl (.plain rfl) (rlA (vs := [_, _, _, _, _]) ag26 sz26 rfl rfl rfl) .nil), ?_⟩
   refine D_wr2 rfl ?_ ?_
   ·refine (.go (E' := []) rfl (.plain rfl) (w_callP rfl rfl rfl (fun w hg => exk_dec w _ aF aL (hE.good hg) (exk_R2 (hg.own (x1, _) (by repeat first | exact mH | apply mT | apply List.mem_append_right))))) rfl ?_)
    rintro _ _ ⟨rfl, rfl⟩
    refine ⟨.nil, ?_⟩
    refine Dm rfl rfl rfl rfl ?_
    iterate 2 refine Dp rfl rfl (p_ext rfl rfl rfl) ?_
    refine D_wr (.go (E' := []) rfl (.plain rfl) (w_alloc zr42 rfl) rfl ?_)
    rintro _ _ ⟨b12, hb12, rfl, rfl⟩
    refine ⟨.nil, ?_⟩
    refine D_wr (.go (E' := []) rfl (.plain rfl) (ws (cs' := [_, _, _]) sz42 rfl rfl rfl rfl rfl rfl rfl) rfl ?_)
    rintro _ _ ⟨rfl, rfl⟩
    refine ⟨.nil, ?_⟩
    refine Dp rfl rfl (p_assign rfl rfl) ?_
    refine D_then (kp [5, 20] rfl) ?_
    refine Vs rfl ?_
    refine Lm rfl rfl rfl ?_
    refine Lp rfl (p_eql rfl rfl rfl) ?_
    refine Lm rfl rfl rfl ?_
    refine L_yes rfl rfl rfl (by first | rfl | simp | decide) (X_rd (rlA (vs := [_, _, _]) ag42 sz42 rfl rfl rfl) ?_)
    refine L_yes rfl rfl rfl (by first | rfl | simp | decide) (X_p (p_build (r := [_, _, _]) pl42 zr42 rfl rfl rfl) ?_)
    refine L_yes rfl rfl rfl (by first | rfl | simp | decide) (X_p (p_eqS lv42 ag42 eg42 rfl rfl rfl rfl rfl) ?_)
    refine Lp rfl (p_pick_t rfl rfl (by first | rfl | simp | decide) rfl) ?_
    refine Lm rfl rfl rfl ?_
    refine L_yes rfl rfl rfl (by first | rfl | (simp; done) | (simp [eqL, eqv, Box.cells]; done) | decide) (X_wr (w_callP rfl rfl rfl (fun w hg => dawake_c aF aL w (hE.good hg))) ?_)
    rintro _ _ ⟨rfl, rfl⟩
    refine Lp rfl (p_pick_t rfl rfl (by first | rfl | (simp; done) | (simp [eqL, eqv, Box.cells]; done) | decide) rfl) ?_
    refine La rfl rfl rfl ?_
    refine L_then (kp [0] rfl) ?_
    refine V_ret ?_
    refine Leave.nil (.tmp rfl .nil) ?_
    rfl
   refine (.go (E' := [(0, _)]) rfl (.plain rfl) (w_alloc zr42 rfl) rfl ?_)
   rintro _ _ ⟨b12, hb12, rfl, rfl⟩
   refine ⟨(.cons rfl (.plain rfl) (rlA (vs := [_, _, _, _, _]) ag26 sz26 rfl rfl rfl) .nil), ?_⟩
   refine D_wr (.go (E' := []) rfl (.plain rfl) (w_callP rfl rfl rfl (fun w hg => exk_dec w _ aF aL (hE.good hg) (exk_R2 (hg.own (x1, _) (by repeat first | exact mH | apply mT | apply List.mem_append_right))))) rfl ?_)
   rintro _ _ ⟨rfl, rfl⟩
   refine ⟨.nil, ?_⟩
   refine Dm rfl rfl rfl rfl ?_
   iterate 2 refine Dp rfl rfl (p_ext rfl rfl rfl) ?_
   refine D_wr (.go (E' := []) rfl (.plain rfl) (ws (cs' := [_, _, _]) sz42 rfl rfl rfl rfl rfl rfl rfl) rfl ?_)
   rintro _ _ ⟨rfl, rfl⟩
   refine ⟨.nil, ?_⟩
   refine Dp rfl rfl (p_assign rfl rfl) ?_
   refine D_then (kp [5, 20] rfl) ?_
   refine Vs rfl ?_
   refine Lm rfl rfl rfl ?_
   refine Lp rfl (p_eql rfl rfl rfl) ?_
   refine Lm rfl rfl rfl ?_
   refine L_yes rfl rfl rfl (by first | rfl | simp | decide) (X_rd (rlA (vs := [_, _, _]) ag42 sz42 rfl rfl rfl) ?_)
   refine L_yes rfl rfl rfl (by first | rfl | simp | decide) (X_p (p_build (r := [_, _, _]) pl42 zr42 rfl rfl rfl) ?_)
   refine L_yes rfl rfl rfl (by first | rfl | simp | decide) (X_p (p_eqS lv42 ag42 eg42 rfl rfl rfl rfl rfl) ?_)
   refine Lp rfl (p_pick_t rfl rfl (by first | rfl | simp | decide) rfl) ?_
   refine Lm rfl rfl rfl ?_
   refine L_yes rfl rfl rfl (by first | rfl | (simp; done) | (simp [eqL, eqv, Box.cells]; done) | decide) (X_wr (w_callP rfl rfl rfl (fun w hg => dawake_c aF aL w (hE.good hg))) ?_)
   rintro _ _ ⟨rfl, rfl⟩
   refine Lp rfl (p_pick_t rfl rfl (by first | rfl | (simp; done) | (simp [eqL, eqv, Box.cells]; done) | decide) rfl) ?_
   refine La rfl rfl rfl ?_
   refine L_then (kp [0] rfl) ?_
   refine V_ret ?_
   refine Leave.nil (.tmp rfl .nil) ?_
   rfl
  refine (.go (E' := [(0, _)]) rfl (.plain rfl) (w_alloc zr42 rfl) rfl ?_)
  rintro _ _ ⟨b12, hb12, rfl, rfl⟩
  refine ⟨(.cons rfl (.plain rfl) (rlA (vs := [_, _, _, _, _]) ag26 sz26 rfl rfl rfl) .nil), ?_⟩
  refine D_wr (.go (E' := [(0, _)]) rfl (.plain rfl) (w_callP rfl rfl rfl (fun w hg => ltask_c w)) rfl ?_)
  rintro _ _ ⟨rfl, rfl⟩
  refine ⟨(.cons rfl (.plain rfl) (rlA (vs := [_, _, _, _, _]) ag26 sz26 rfl rfl rfl) .nil), ?_⟩
  refine D_wr (.go (E' := []) rfl (.plain rfl) (w_callP rfl rfl rfl (fun w hg => exk_dec w _ aF aL (hE.good hg) (exk_R2 (hg.own (x1, _) (by repeat first | exact mH | apply mT | apply List.mem_append_right))))) rfl ?_)
  rintro _ _ ⟨rfl, rfl⟩
  refine ⟨.nil, ?_⟩
  refine Dm rfl rfl rfl rfl ?_
  iterate 2 refine Dp rfl rfl (p_ext rfl rfl rfl) ?_
  refine D_wr (.go (E' := []) rfl (.plain rfl) (ws (cs' := [_, _, _]) sz42 rfl rfl rfl rfl rfl rfl rfl) rfl ?_)
  rintro _ _ ⟨rfl, rfl⟩
  refine ⟨.nil, ?_⟩
  refine Dp rfl rfl (p_assign rfl rfl) ?_
  refine D_then (kp [5, 20] rfl) ?_
  refine Vs rfl ?_
  refine Lm rfl rfl rfl ?_
  refine Lp rfl (p_eql rfl rfl rfl) ?_
  refine Lm rfl rfl rfl ?_
  refine L_yes rfl rfl rfl (by first | rfl | simp | decide) (X_rd (rlA (vs := [_, _, _]) ag42 sz42 rfl rfl rfl) ?_)
  refine L_yes rfl rfl rfl (by first | rfl | simp | decide) (X_p (p_build (r := [_, _, _]) pl42 zr42 rfl rfl rfl) ?_)
  refine L_yes rfl rfl rfl (by first | rfl | simp | decide) (X_p (p_eqS lv42 ag42 eg42 rfl rfl rfl rfl rfl) ?_)
  refine Lp rfl (p_pick_t rfl rfl (by first | rfl | simp | decide) rfl) ?_
  refine Lm rfl rfl rfl ?_
  refine L_yes rfl rfl rfl (by first | rfl | (simp; done) | (simp [eqL, eqv, Box.cells]; done) | decide) (X_wr (w_callP rfl rfl rfl (fun w hg => dawake_c aF aL w (hE.good hg))) ?_)
  rintro _ _ ⟨rfl, rfl⟩
  refine Lp rfl (p_pick_t rfl rfl (by first | rfl | (simp; done) | (simp [eqL, eqv, Box.cells]; done) | decide) rfl) ?_
  refine La rfl rfl rfl ?_
  refine L_then (kp [0] rfl) ?_
  refine V_ret ?_
  refine Leave.nil (.tmp rfl .nil) ?_
  rfl
 refine (.go (E' := [(0, _)]) rfl (.plain rfl) (w_alloc zr28 rfl) rfl ?_)
 rintro _ _ ⟨b8, hb8, rfl, rfl⟩
 refine ⟨(.cons rfl (.plain rfl) (rlA (vs := [_, _, _, _, _]) ag26 sz26 rfl rfl rfl) .nil), ?_⟩
 refine D_wr (.go (E' := [(0, _)]) rfl (.plain rfl) (w_callP rfl rfl rfl (fun w hg => ltask_c w)) rfl ?_)
 rintro _ _ ⟨rfl, rfl⟩
 refine ⟨(.cons rfl (.plain rfl) (rlA (vs := [_, _, _, _, _]) ag26 sz26 rfl rfl rfl) .nil), ?_⟩
 refine D_wr (.go (E' := []) rfl (.plain rfl) (w_callP rfl rfl rfl (fun w hg => exk_used w _ (exPlR (hg.own (x1, _) (by repeat first | exact mH | apply mT | apply List.mem_append_right))))) rfl ?_)
 rintro _ _ ⟨rfl, rfl⟩
 refine ⟨.nil, ?_⟩
 refine Dm rfl rfl rfl rfl ?_
 iterate 3 refine Dp rfl rfl (p_ext rfl rfl rfl) ?_
 refine D_wr (.go (E' := []) rfl (.plain rfl) (ws (cs' := [_, _, _, _, _, _, _, _, _, _, _, _, _]) sz28 rfl rfl rfl rfl rfl rfl rfl) rfl ?_)
 rintro _ _ ⟨rfl, rfl⟩
 refine ⟨.nil, ?_⟩
 iterate 2 refine Dp rfl rfl (p_assign rfl rfl) ?_
 refine D_then (kp [1, 5, 7, 9, 10, 11, 12, 13, 14, 15] rfl) ?_
 refine V_seq (V_draw (.rd 0 (.wr2 1 [0] (.wr2 2 [] (.rd 3 (.rd 4 (.rd 5 (.wr 6 [5, 4, 3, 0] (.wr 7 [5] (.rd 8 .done)))))) 6 [0] (.wr 2 [] (.rd 3 (.rd 4 (.rd 5 (.wr 7 [5] (.rd 8 .done))))))) 6 [0] (.wr 1 [0] (.wr 2 [] (.rd 3 (.rd 4 (.rd 5 (.wr 7 [5] (.rd 8 .done))))))))) mixed (by kernel_rfl) rfl ?_)
 refine Dr rfl rfl (rlA (vs := [_, _, _, _, _]) ag26 sz26 rfl rfl rfl) ?_
 refine D_wr2 rfl ?_ ?_
 ·refine (.go (E' := [(0, _)]) rfl (.plain rfl) (w_callP rfl rfl rfl (fun w hg => ltask_c w)) rfl ?_)
  rintro _ _ ⟨rfl, rfl⟩
  refine ⟨(.cons rfl (.plain rfl) (rlA (vs := [_, _, _, _, _]) ag26 sz26 rfl rfl rfl) .nil), ?_⟩
  refine D_wr2 rfl ?_ ?_
  ·refine (.go (E' := []) rfl (.plain rfl) (w_callP rfl rfl rfl (fun w hg => exa_look w _ aF aL (hE.good hg) (exPlR (hg.own (x1, _) (by repeat first | exact mH | apply mT | apply List.mem_append_right))))) rfl ?_)
   rintro _ _ ⟨rfl, rfl⟩
   refine ⟨.nil, ?_⟩
   refine Dm rfl rfl rfl rfl ?_
   iterate 2 refine Dp rfl rfl (p_ext rfl rfl rfl) ?_
   refine D_wr (.go (E' := []) rfl (.plain rfl) (w_alloc zr49 rfl) rfl ?_)
   rintro _ _ ⟨b9, hb9, rfl, rfl⟩
   refine ⟨.nil, ?_⟩
   refine D_wr (.go (E' := []) rfl (.plain rfl) (w_storeAll (cs' := [_, _, _, _, _, _, _, _, _, _, _, _, _, _, _, _, _, _, _, _, _]) sz49 rfl rfl rfl rfl rfl rfl (by repeat first | exact .head | apply SetAt.tail) rfl) rfl ?_)
   rintro _ _ ⟨rfl, rfl⟩
   refine ⟨.nil, ?_⟩
   refine Dp rfl rfl (p_assign rfl rfl) ?_
   refine D_then (kp [1, 5, 7, 9, 10, 11, 12, 13, 14, 15, 16, 17] rfl) ?_
   refine V_seq ?_
   refine Vs rfl ?_
   refine Lm rfl rfl rfl ?_
   refine Lp rfl (p_neq rfl rfl rfl) ?_
   refine Lm rfl rfl rfl ?_
   refine L_yes rfl rfl rfl (by first | rfl | simp | decide) (X_p (p_move rfl rfl) ?_)
   refine L_yes rfl rfl rfl (by first | rfl | simp | decide) (X_p (p_neq rfl rfl rfl) ?_)
   refine Lp rfl (p_pick_f rfl rfl (by first | rfl | simp | decide) rfl) ?_
   refine Lm rfl rfl rfl ?_
   refine L_yes rfl rfl rfl (by first | rfl | simp | decide) (X_p (p_move rfl rfl) ?_)
   refine L_yes rfl rfl rfl (by first | rfl | simp | decide) (X_p (p_neq rfl rfl rfl) ?_)
   refine Lp rfl (p_pick_f rfl rfl (by first | rfl | simp | decide) rfl) ?_
   refine Lm rfl rfl rfl ?_
   refine L_yes rfl rfl rfl (by first | rfl | simp | decide) (X_p (p_move rfl rfl) ?_)
   refine L_yes rfl rfl rfl (by first | rfl | simp | decide) (X_p (p_neq rfl rfl rfl) ?_)
   refine Lp rfl (p_pick_f rfl rfl (by first | rfl | simp | decide) rfl) ?_
   refine Lm rfl rfl rfl ?_
   refine L_yes rfl rfl rfl (by first | rfl | simp | decide) (X_p (p_move rfl rfl) ?_)
   refine L_yes rfl rfl rfl (by first | rfl | simp | decide) (X_p (p_not rfl rfl) ?_)
   refine Lp rfl (p_pick_f rfl rfl (by first | rfl | simp | decide) rfl) ?_
   refine Lm rfl rfl rfl ?_
   refine L_yes rfl rfl rfl rfl (X_p (p_move rfl rfl) ?_)
   refine L_yes rfl rfl rfl rfl (X_p (p_neq rfl rfl rfl) ?_)
   refine Lp rfl (p_pick_f rfl rfl rfl rfl) ?_
   refine Lm rfl rfl rfl ?_
   refine L_yes rfl rfl rfl (by first | rfl | simp | decide) (X_p (p_move rfl rfl) ?_)
   refine Lp rfl (p_pick_f rfl rfl (by first | rfl | simp | decide) rfl) ?_
   refine Lm rfl rfl rfl ?_
   refine L_yes rfl rfl rfl rfl (X_p (p_move rfl rfl) ?_)
   refine L_yes rfl rfl rfl rfl (X_p (p_neq rfl rfl rfl) ?_)
   refine Lp rfl (p_pick_f rfl rfl rfl rfl) ?_
   refine Lm rfl rfl rfl ?_
   refine L_yes rfl rfl rfl (by first | rfl | simp | decide) (X_p (p_move rfl rfl) ?_)
   refine L_yes rfl rfl rfl (by first | rfl | simp | decide) (X_p (p_neq rfl rfl rfl) ?_)
   refine Lp rfl (p_pick_f rfl rfl (by first | rfl | simp | decide) rfl) ?_
   refine L_then (kp [1, 14, 16, 133] rfl) ?_
   refine V_cond_f rfl (by first | rfl | simp | decide) ?_
   refine V_skip (then_n ?_)
   refine Vs rfl ?_
   iterate 2 refine Lc rfl rfl rfl rfl (fun w hg => lspan6_c _ _ w) ?_
   refine Lw rfl (w_alloc zr24 rfl) ?_
   rintro _ _ ⟨b10, hb10, rfl, rfl⟩
   refine Lw rfl (w_alloc zr24 rfl) ?_
   rintro _ _ ⟨b11, hb11, rfl, rfl⟩
   iterate 2 refine Ls (cs' := [_, _]) rfl sz24 rfl rfl rfl rfl rfl rfl rfl ?_
   refine L_then (kp [1, 14, 16, 18, 19] rfl) ?_
   refine V_seq ?_
   refine V_seq (V_draw (.rd 0 (.rd 1 (.rd 2 (.rd 3 (.rd 4 (.rd 5 (.rd 6 (.rd 7 (.rd 8 (.rd 9 (.rd 10 (.rd 11 (.wr 12 [11, 10, 8, 7, 6, 5, 4, 3, 2, 1, 0] (.wr 13 [11, 10, 8, 7, 6, 5, 4, 3, 2, 1, 0] (.rd 14 (.rd 15 (.rd 16 .done))))))))))))))))) mixed (by kernel_rfl) rfl ?_)
   refine Dr rfl rfl (rlA (vs := [_, _, _, _, _, _, _, _, _, _, _, _, _]) ag28 sz28 rfl rfl rfl) ?_
   iterate 6 refine Dr rfl rfl (rlA (vs := [_, _]) ag24 sz24 rfl rfl rfl) ?_
   refine Dp rfl rfl (p_build (r := [_, _, _, _, _, _, _, _, _, _, _, _, _]) pl28 zr28 rfl rfl rfl) ?_
   refine Dp rfl rfl (p_neS lv28 ag28 eg28 rfl rfl rfl rfl rfl) ?_
   refine Dm rfl rfl rfl rfl ?_
   refine D_rd rfl (.yes rfl rfl rfl (by first | rfl | (simp; done) | (simp [eqL, eqv, Box.cells]; done) | decide)) (rlA (vs := [_, _, _, _, _, _, _, _, _, _, _, _, _, _, _, _, _, _, _, _, _]) ag49 sz49 rfl rfl rfl) ?_
   refine D_rd rfl (.yes rfl rfl rfl (by first | rfl | (simp; done) | (simp [eqL, eqv, Box.cells]; done) | decide)) (rlA (vs := [_, _, _, _, _, _, _, _, _, _, _, _, _]) ag28 sz28 rfl rfl rfl) ?_
   refine D_wr (.go (E' := [(11, _), (10, _), (6, _), (5, _), (4, _), (3, _), (2, _), (1, _), (0, _)]) rfl (.yes rfl rfl rfl (by first | rfl | (simp; done) | (simp [eqL, eqv, Box.cells]; done) | decide)) (w_callP rfl rfl rfl (fun w hg => larea_c _ _ _ _ w)) rfl ?_)
   rintro _ _ ⟨rfl, rfl⟩
   refine ⟨(.cons rfl (.yes rfl rfl rfl (by first | rfl | (simp; done) | (simp [eqL, eqv, Box.cells]; done) | decide)) (rlA (vs := [_, _, _, _, _, _, _, _, _, _, _, _, _]) ag28 sz28 rfl rfl rfl) (.cons rfl (.yes rfl rfl rfl (by first | rfl | (simp; done) | (simp [eqL, eqv, Box.cells]; done) | decide)) (rlA (vs := [_, _, _, _, _, _, _, _, _, _, _, _, _, _, _, _, _, _, _, _, _]) ag49 sz49 rfl rfl rfl) (.cons rfl (.plain rfl) (rlA (vs := [_, _]) ag24 sz24 rfl rfl rfl) (.cons rfl (.plain rfl) (rlA (vs := [_, _]) ag24 sz24 rfl rfl rfl) (.cons rfl (.plain rfl) (rlA (vs := [_, _]) ag24 sz24 rfl rfl rfl) (.cons rfl (.plain rfl) (rlA (vs := [_, _]) ag24 sz24 rfl rfl rfl) (.cons rfl (.plain rfl) (rlA (vs := [_, _]) ag24 sz24 rfl rfl rfl) (.cons rfl (.plain rfl) (rlA (vs := [_, _]) ag24 sz24 rfl rfl rfl) (.cons rfl (.plain rfl) (rlA (vs := [_, _, _, _, _, _, _, _, _, _, _, _, _]) ag28 sz28 rfl rfl rfl) .nil))))))))), ?_⟩
   refine D_wr (.go (E' := [(11, _), (10, _), (6, _), (5, _), (4, _), (3, _), (2, _), (1, _), (0, _)]) rfl (.yes rfl rfl rfl (by first | rfl | (simp; done) | (simp [eqL, eqv, Box.cells]; done) | decide)) (w_callP rfl rfl rfl (fun w hg => lspan6_c _ _ w)) rfl ?_)
   rintro _ _ ⟨rfl, rfl⟩
   refine ⟨(.cons rfl (.yes rfl rfl rfl (by first | rfl | (simp; done) | (simp [eqL, eqv, Box.cells]; done) | decide)) (rlA (vs := [_, _, _, _, _, _, _, _, _, _, _, _, _]) ag28 sz28 rfl rfl rfl) (.cons rfl (.yes rfl rfl rfl (by first | rfl | (simp; done) | (simp [eqL, eqv, Box.cells]; done) | decide)) (rlA (vs := [_, _, _, _, _, _, _, _, _, _, _, _, _, _, _, _, _, _, _, _, _]) ag49 sz49 rfl rfl rfl) (.cons rfl (.plain rfl) (rlA (vs := [_, _]) ag24 sz24 rfl rfl rfl) (.cons rfl (.plain rfl) (rlA (vs := [_, _]) ag24 sz24 rfl rfl rfl) (.cons rfl (.plain rfl) (rlA (vs := [_, _]) ag24 sz24 rfl rfl rfl) (.cons rfl (.plain rfl) (rlA (vs := [_, _]) ag24 sz24 rfl rfl rfl) (.cons rfl (.plain rfl) (rlA (vs := [_, _]) ag24 sz24 rfl rfl rfl) (.cons rfl (.plain rfl) (rlA (vs := [_, _]) ag24 sz24 rfl rfl rfl) (.cons rfl (.plain rfl) (rlA (vs := [_, _, _, _, _, _, _, _, _, _, _, _, _]) ag28 sz28 rfl rfl rfl) .nil))))))))), ?_⟩
   refine D_p rfl (.yes rfl rfl rfl (by first | rfl | (simp; done) | (simp [eqL, eqv, Box.cells]; done) | decide)) (p_build (r := [_, _, _, _, _, _, _, _, _, _, _, _, _, _, _, _, _, _, _, _, _]) pl49 zr49 rfl rfl rfl) ?_
   refine D_p rfl (.yes rfl rfl rfl (by first | rfl | (simp; done) | (simp [eqL, eqv, Box.cells]; done) | decide)) (p_neS lv49 ag49 eg49 rfl rfl rfl rfl rfl) ?_
   refine Dp rfl rfl (p_pick_f rfl rfl (by first | rfl | (simp; done) | (simp [eqL, eqv, Box.cells]; done) | decide) rfl) ?_
   refine D_then (kp [1, 152] rfl) ?_
   refine V_cond_f rfl (by first | rfl | (simp; done) | (simp [eqL, eqv, Box.cells]; done) | decide) ?_
   refine V_skip (then_n ?_)
   refine Vs rfl ?_
   refine Lp rfl (p_fieldo fo26_0 rfl rfl) ?_
   refine Lr rfl (rl ag22 rfl rfl rfl) ?_
   refine Lp rfl (p_build (r := [_, _, _, _]) pl68 zr68 rfl rfl rfl) ?_
   refine Lp rfl (p_idxo es22 rfl rfl rfl (by omega) (by omega)) ?_
   refine Lw rfl (w_store (cs' := (exPl2.lines.map Line.cells).flatten) sz68 rfl rfl rfl rfl rfl (by repeat first | exact .head | apply SetAt.tail) (by decide) rfl) ?_
   rintro _ _ ⟨rfl, rfl⟩
   refine L_then (kp [1] rfl) ?_
   refine V_seq (V_draw (.rd 0 (.wr2 1 [0] (.wr2 2 [] (.rd 3 (.rd 4 (.rd 5 (.wr 6 [5, 4, 3, 0] (.wr 7 [5] (.rd 8 .done)))))) 6 [0] (.wr 2 [] (.rd 3 (.rd 4 (.rd 5 (.wr 7 [5] (.rd 8 .done))))))) 6 [0] (.wr 1 [0] (.wr 2 [] (.rd 3 (.rd 4 (.rd 5 (.wr 7 [5] (.rd 8 .done))))))))) mixed (by kernel_rfl) rfl ?_)
   refine Dr rfl rfl (rlA (vs := [_, _, _, _, _]) ag26 sz26 rfl rfl rfl) ?_
   refine D_wr2 rfl ?_ ?_
   ·refine (.go (E' := [(0, _)]) rfl (.plain rfl) (w_callP rfl rfl rfl (fun w hg => ltask_c w)) rfl ?_)
    rintro _ _ ⟨rfl, rfl⟩
    refine ⟨(.cons rfl (.plain rfl) (rlA (vs := [_, _, _, _, _]) ag26 sz26 rfl rfl rfl) .nil), ?_⟩
    refine D_wr2 rfl ?_ ?_
    ·refine (.go (E' := []) rfl (.plain rfl) (w_callP rfl rfl rfl (fun w hg => exk_dec w _ aF aL (hE.good hg) (exk_R2 (hg.own (x1, _) (by repeat first | exact mH | apply mT | apply List.mem_append_right))))) rfl ?_)
     rintro _ _ ⟨rfl, rfl⟩
     refine ⟨.nil, ?_⟩
     refine Dm rfl rfl rfl rfl ?_
     iterate 2 refine Dp rfl rfl (p_ext rfl rfl rfl) ?_
     refine D_wr (.go (E' := []) rfl (.plain rfl) (w_alloc zr42 rfl) rfl ?_)
     rintro _ _ ⟨b12, hb12, rfl, rfl⟩
     refine ⟨.nil, ?_⟩
     refine D_wr (.go (E' := []) rfl (.plain rfl) (ws (cs' := [_, _, _]) sz42 rfl rfl rfl rfl rfl rfl rfl) rfl ?_)
     rintro _ _ ⟨rfl, rfl⟩
     refine ⟨.nil, ?_⟩
     refine Dp rfl rfl (p_assign rfl rfl) ?_
     refine D_then (kp [5, 20] rfl) ?_
     refine Vs rfl ?_
     refine Lm rfl rfl rfl ?_
     refine Lp rfl (p_eql rfl rfl rfl) ?_
     refine Lm rfl rfl rfl ?_
     refine L_yes rfl rfl rfl (by first | rfl | simp | decide) (X_rd (rlA (vs := [_, _, _]) ag42 sz42 rfl rfl rfl) ?_)
     refine L_yes rfl rfl rfl (by first | rfl | simp | decide) (X_p (p_build (r := [_, _, _]) pl42 zr42 rfl rfl rfl) ?_)
     refine L_yes rfl rfl rfl (by first | rfl | simp | decide) (X_p (p_eqS lv42 ag42 eg42 rfl rfl rfl rfl rfl) ?_)
     refine Lp rfl (p_pick_t rfl rfl (by first | rfl | simp | decide) rfl) ?_
     refine Lm rfl rfl rfl ?_
     refine L_yes rfl rfl rfl (by first | rfl | (simp; done) | (simp [eqL, eqv, Box.cells]; done) | decide) (X_wr (w_callP rfl rfl rfl (fun w hg => dawake_c aF aL w (hE.good hg))) ?_)
     rintro _ _ ⟨rfl, rfl⟩
     refine Lp rfl (p_pick_t rfl rfl (by first | rfl | (simp; done) | (simp [eqL, eqv, Box.cells]; done) | decide) rfl) ?_
     refine La rfl rfl rfl ?_
     refine L_then (kp [0] rfl) ?_
     refine V_ret ?_
     refine Leave.nil (.tmp rfl .nil) ?_
     rfl
    refine (.go (E' := [(0, _)]) rfl (.plain rfl) (w_alloc zr42 rfl) rfl ?_)
    rintro _ _ ⟨b12, hb12, rfl, rfl⟩
    refine ⟨(.cons rfl (.plain rfl) (rlA (vs := [_, _, _, _, _]) ag26 sz26 rfl rfl rfl) .nil), ?_⟩
    refine D_wr (.go (E' := []) rfl (.plain rfl) (w_callP rfl rfl rfl (fun w hg => exk_dec w _ aF aL (hE.good hg) (exk_R2 (hg.own (x1, _) (by repeat first | exact mH | apply mT | apply List.mem_append_right))))) rfl ?_)
    rintro _ _ ⟨rfl, rfl⟩
    refine ⟨.nil, ?_⟩
    refine Dm rfl rfl rfl rfl ?_
    iterate 2 refine Dp rfl rfl (p_ext rfl rfl rfl) ?_
    refine D_wr (.go (E' := []) rfl (.plain rfl) (ws (cs' := [_, _, _]) sz42 rfl rfl rfl rfl rfl rfl rfl) rfl ?_)
    rintro _ _ ⟨rfl, rfl⟩
    refine ⟨.nil, ?_⟩
    refine Dp rfl rfl (p_assign rfl rfl) ?_
    refine D_then (kp [5, 20] rfl) ?_
    refine Vs rfl ?_
    refine Lm rfl rfl rfl ?_
    refine Lp rfl (p_eql rfl rfl rfl) ?_
    refine Lm rfl rfl rfl ?_
    refine L_yes rfl rfl rfl (by first | rfl | simp | decide) (X_rd (rlA (vs := [_, _, _]) ag42 sz42 rfl rfl rfl) ?_)
    refine L_yes rfl rfl rfl (by first | rfl | simp | decide) (X_p (p_build (r := [_, _, _]) pl42 zr42 rfl rfl rfl) ?_)
    refine L_yes rfl rfl rfl (by first | rfl | simp | decide) (X_p (p_eqS lv42 ag42 eg42 rfl rfl rfl rfl rfl) ?_)
    refine Lp rfl (p_pick_t rfl rfl (by first | rfl | simp | decide) rfl) ?_
    refine Lm rfl rfl rfl ?_
    refine L_yes rfl rfl rfl (by first | rfl | (simp; done) | (simp [eqL, eqv, Box.cells]; done) | decide) (X_wr (w_callP rfl rfl rfl (fun w hg => dawake_c aF aL w (hE.good hg))) ?_)
    rintro _ _ ⟨rfl, rfl⟩
    refine Lp rfl (p_pick_t rfl rfl (by first | rfl | (simp; done) | (simp [eqL, eqv, Box.cells]; done) | decide) rfl) ?_
    refine La rfl rfl rfl ?_
    refine L_then (kp [0] rfl) ?_
    refine V_ret ?_
    refine Leave.nil (.tmp rfl .nil) ?_
    rfl
   refine (.go (E' := [(0, _)]) rfl (.plain rfl) (w_alloc zr42 rfl) rfl ?_)
   rintro _ _ ⟨b12, hb12, rfl, rfl⟩
   refine ⟨(.cons rfl (.plain rfl) (rlA (vs := [_, _, _, _, _]) ag26 sz26 rfl rfl rfl) .nil), ?_⟩
   refine D_wr (.go (E' := [(0, _)]) rfl (.plain rfl) (w_callP rfl rfl rfl (fun w hg => ltask_c w)) rfl ?_)
   rintro _ _ ⟨rfl, rfl⟩
   refine ⟨(.cons rfl (.plain rfl) (rlA (vs := [_, _, _, _, _]) ag26 sz26 rfl rfl rfl) .nil), ?_⟩
   refine D_wr (.go (E' := []) rfl (.plain rfl) (w_callP rfl rfl rfl (fun w hg => exk_dec w _ aF aL (hE.good hg) (exk_R2 (hg.own (x1, _) (by repeat first | exact mH | apply mT | apply List.mem_append_right))))) rfl ?_)
   rintro _ _ ⟨rfl, rfl⟩
   refine ⟨.nil, ?_⟩
   refine Dm rfl rfl rfl rfl ?_
   iterate 2 refine Dp rfl rfl (p_ext rfl rfl rfl) ?_
   refine D_wr (.go (E' := []) rfl (.plain rfl) (ws (cs' := [_, _, _]) sz42 rfl rfl rfl rfl rfl rfl rfl) rfl ?_)
   rintro _ _ ⟨rfl, rfl⟩
   refine ⟨.nil, ?_⟩
   refine Dp rfl rfl (p_assign rfl rfl) ?_
   refine D_then (kp [5, 20] rfl) ?_
   refine Vs rfl ?_
   refine Lm rfl rfl rfl ?_
   refine Lp rfl (p_eql rfl rfl rfl) ?_
   refine Lm rfl rfl rfl ?_
   refine L_yes rfl rfl rfl (by first | rfl | simp | decide) (X_rd (rlA (vs := [_, _, _]) ag42 sz42 rfl rfl rfl) ?_)
   refine L_yes rfl rfl rfl (by first | rfl | simp | decide) (X_p (p_build (r := [_, _, _]) pl42 zr42 rfl rfl rfl) ?_)
   refine L_yes rfl rfl rfl (by first | rfl | simp | decide) (X_p (p_eqS lv42 ag42 eg42 rfl rfl rfl rfl rfl) ?_)
   refine Lp rfl (p_pick_t rfl rfl (by first | rfl | simp | decide) rfl) ?_
   refine Lm rfl rfl rfl ?_
   refine L_yes rfl rfl rfl (by first | rfl | (simp; done) | (simp [eqL, eqv, Box.cells]; done) | decide) (X_wr (w_callP rfl rfl rfl (fun w hg => dawake_c aF aL w (hE.good hg))) ?_)
   rintro _ _ ⟨rfl, rfl⟩
   refine Lp rfl (p_pick_t rfl rfl (by first | rfl | (simp; done) | (simp [eqL, eqv, Box.cells]; done) | decide) rfl) ?_
   refine La rfl rfl rfl ?_
   refine L_then (kp [0] rfl) ?_
   refine V_ret ?_
   refine Leave.nil (.tmp rfl .nil) ?_
   rfl
  refine (.go (E' := [(0, _)]) rfl (.plain rfl) (w_alloc zr49 rfl) rfl ?_)
  rintro _ _ ⟨b9, hb9, rfl, rfl⟩
  refine ⟨(.cons rfl (.plain rfl) (rlA (vs := [_, _, _, _, _]) ag26 sz26 rfl rfl rfl) .nil), ?_⟩
  refine D_wr (.go (E' := []) rfl (.plain rfl) (w_callP rfl rfl rfl (fun w hg => exa_look w _ aF aL (hE.good hg) (exPlR (hg.own (x1, _) (by repeat first | exact mH | apply mT | apply List.mem_append_right))))) rfl ?_)
  rintro _ _ ⟨rfl, rfl⟩
  refine ⟨.nil, ?_⟩
  refine Dm rfl rfl rfl rfl ?_
  iterate 2 refine Dp rfl rfl (p_ext rfl rfl rfl) ?_
  refine D_wr (.go (E' := []) rfl (.plain rfl) (w_storeAll (cs' := [_, _, _, _, _, _, _, _, _, _, _, _, _, _, _, _, _, _, _, _, _]) sz49 rfl rfl rfl rfl rfl rfl (by repeat first | exact .head | apply SetAt.tail) rfl) rfl ?_)
  rintro _ _ ⟨rfl, rfl⟩
  refine ⟨.nil, ?_⟩
  refine Dp rfl rfl (p_assign rfl rfl) ?_
  refine D_then (kp [1, 5, 7, 9, 10, 11, 12, 13, 14, 15, 16, 17] rfl) ?_
  refine V_seq ?_
  refine Vs rfl ?_
  refine Lm rfl rfl rfl ?_
  refine Lp rfl (p_neq rfl rfl rfl) ?_
  refine Lm rfl rfl rfl ?_
  refine L_yes rfl rfl rfl (by first | rfl | simp | decide) (X_p (p_move rfl rfl) ?_)
  refine L_yes rfl rfl rfl (by first | rfl | simp | decide) (X_p (p_neq rfl rfl rfl) ?_)
  refine Lp rfl (p_pick_f rfl rfl (by first | rfl | simp | decide) rfl) ?_
  refine Lm rfl rfl rfl ?_
  refine L_yes rfl rfl rfl (by first | rfl | simp | decide) (X_p (p_move rfl rfl) ?_)
  refine L_yes rfl rfl rfl (by first | rfl | simp | decide) (X_p (p_neq rfl rfl rfl) ?_)
  refine Lp rfl (p_pick_f rfl rfl (by first | rfl | simp | decide) rfl) ?_
  refine Lm rfl rfl rfl ?_
  refine L_yes rfl rfl rfl (by first | rfl | simp | decide) (X_p (p_move rfl rfl) ?_)
  refine L_yes rfl rfl rfl (by first | rfl | simp | decide) (X_p (p_neq rfl rfl rfl) ?_)
  refine Lp rfl (p_pick_f rfl rfl (by first | rfl | simp | decide) rfl) ?_
  refine Lm rfl rfl rfl ?_
  refine L_yes rfl rfl rfl (by first | rfl | simp | decide) (X_p (p_move rfl rfl) ?_)
  refine L_yes rfl rfl rfl (by first | rfl | simp | decide) (X_p (p_not rfl rfl) ?_)
  refine Lp rfl (p_pick_f rfl rfl (by first | rfl | simp | decide) rfl) ?_
  refine Lm rfl rfl rfl ?_
  refine L_yes rfl rfl rfl rfl (X_p (p_move rfl rfl) ?_)
  refine L_yes rfl rfl rfl rfl (X_p (p_neq rfl rfl rfl) ?_)
  refine Lp rfl (p_pick_f rfl rfl rfl rfl) ?_
  refine Lm rfl rfl rfl ?_
  refine L_yes rfl rfl rfl (by first | rfl | simp | decide) (X_p (p_move rfl rfl) ?_)
  refine Lp rfl (p_pick_f rfl rfl (by first | rfl | simp | decide) rfl) ?_
  refine Lm rfl rfl rfl ?_
  refine L_yes rfl rfl rfl rfl (X_p (p_move rfl rfl) ?_)
  refine L_yes rfl rfl rfl rfl (X_p (p_neq rfl rfl rfl) ?_)
  refine Lp rfl (p_pick_f rfl rfl rfl rfl) ?_
  refine Lm rfl rfl rfl ?_
  refine L_yes rfl rfl rfl (by first | rfl | simp | decide) (X_p (p_move rfl rfl) ?_)
  refine L_yes rfl rfl rfl (by first | rfl | simp | decide) (X_p (p_neq rfl rfl rfl) ?_)
  refine Lp rfl (p_pick_f rfl rfl (by first | rfl | simp | decide) rfl) ?_
  refine L_then (kp [1, 14, 16, 133] rfl) ?_
  refine V_cond_f rfl (by first | rfl | simp | decide) ?_
  refine V_skip (then_n ?_)
  refine Vs rfl ?_
  iterate 2 refine Lc rfl rfl rfl rfl (fun w hg => lspan6_c _ _ w) ?_
  refine Lw rfl (w_alloc zr24 rfl) ?_
  rintro _ _ ⟨b10, hb10, rfl, rfl⟩
  refine Lw rfl (w_alloc zr24 rfl) ?_
  rintro _ _ ⟨b11, hb11, rfl, rfl⟩
  iterate 2 refine Ls (cs' := [_, _]) rfl sz24 rfl rfl rfl rfl rfl rfl rfl ?_
  refine L_then (kp [1, 14, 16, 18, 19] rfl) ?_
  refine V_seq ?_
  refine V_seq (V_draw (.rd 0 (.rd 1 (.rd 2 (.rd 3 (.rd 4 (.rd 5 (.rd 6 (.rd 7 (.rd 8 (.rd 9 (.rd 10 (.rd 11 (.wr 12 [11, 10, 8, 7, 6, 5, 4, 3, 2, 1, 0] (.wr 13 [11, 10, 8, 7, 6, 5, 4, 3, 2, 1, 0] (.rd 14 (.rd 15 (.rd 16 .done))))))))))))))))) mixed (by kernel_rfl) rfl ?_)
  refine Dr rfl rfl (rlA (vs := [_, _, _, _, _, _, _, _, _, _, _, _, _]) ag28 sz28 rfl rfl rfl) ?_
  iterate 6 refine Dr rfl rfl (rlA (vs := [_, _]) ag24 sz24 rfl rfl rfl) ?_
  refine Dp rfl rfl (p_build (r := [_, _, _, _, _, _, _, _, _, _, _, _, _]) pl28 zr28 rfl rfl rfl) ?_
  refine Dp rfl rfl (p_neS lv28 ag28 eg28 rfl rfl rfl rfl rfl) ?_
  refine Dm rfl rfl rfl rfl ?_
  refine D_rd rfl (.yes rfl rfl rfl (by first | rfl | (simp; done) | (simp [eqL, eqv, Box.cells]; done) | decide)) (rlA (vs := [_, _, _, _, _, _, _, _, _, _, _, _, _, _, _, _, _, _, _, _, _]) ag49 sz49 rfl rfl rfl) ?_
  refine D_rd rfl (.yes rfl rfl rfl (by first | rfl | (simp; done) | (simp [eqL, eqv, Box.cells]; done) | decide)) (rlA (vs := [_, _, _, _, _, _, _, _, _, _, _, _, _]) ag28 sz28 rfl rfl rfl) ?_
  refine D_wr (.go (E' := [(11, _), (10, _), (6, _), (5, _), (4, _), (3, _), (2, _), (1, _), (0, _)]) rfl (.yes rfl rfl rfl (by first | rfl | (simp; done) | (simp [eqL, eqv, Box.cells]; done) | decide)) (w_callP rfl rfl rfl (fun w hg => larea_c _ _ _ _ w)) rfl ?_)
  rintro _ _ ⟨rfl, rfl⟩
  refine ⟨(.cons rfl (.yes rfl rfl rfl (by first | rfl | (simp; done) | (simp [eqL, eqv, Box.cells]; done) | decide)) (rlA (vs := [_, _, _, _, _, _, _, _, _, _, _, _, _]) ag28 sz28 rfl rfl rfl) (.cons rfl (.yes rfl rfl rfl (by first | rfl | (simp; done) | (simp [eqL, eqv, Box.cells]; done) | decide)) (rlA (vs := [_, _, _, _, _, _, _, _, _, _, _, _, _, _, _, _, _, _, _, _, _]) ag49 sz49 rfl rfl rfl) (.cons rfl (.plain rfl) (rlA (vs := [_, _]) ag24 sz24 rfl rfl rfl) (.cons rfl (.plain rfl) (rlA (vs := [_, _]) ag24 sz24 rfl rfl rfl) (.cons rfl (.plain rfl) (rlA (vs := [_, _]) ag24 sz24 rfl rfl rfl) (.cons rfl (.plain rfl) (rlA (vs := [_, _]) ag24 sz24 rfl rfl rfl) (.cons rfl (.plain rfl) (rlA (vs := [_, _]) ag24 sz24 rfl rfl rfl) (.cons rfl (.plain rfl) (rlA (vs := [_, _]) ag24 sz24 rfl rfl rfl) (.cons rfl (.plain rfl) (rlA (vs := [_, _, _, _, _, _, _, _, _, _, _, _, _]) ag28 sz28 rfl rfl rfl) .nil))))))))), ?_⟩
  refine D_wr (.go (E' := [(11, _), (10, _), (6, _), (5, _), (4, _), (3, _), (2, _), (1, _), (0, _)]) rfl (.yes rfl rfl rfl (by first | rfl | (simp; done) | (simp [eqL, eqv, Box.cells]; done) | decide)) (w_callP rfl rfl rfl (fun w hg => lspan6_c _ _ w)) rfl ?_)
  rintro _ _ ⟨rfl, rfl⟩
  refine ⟨(.cons rfl (.yes rfl rfl rfl (by first | rfl | (simp; done) | (simp [eqL, eqv, Box.cells]; done) | decide)) (rlA (vs := [_, _, _, _, _, _, _, _, _, _, _, _, _]) ag28 sz28 rfl rfl rfl) (.cons rfl (.yes rfl rfl rfl (by first | rfl | (simp; done) | (simp [eqL, eqv, Box.cells]; done) | decide)) (rlA (vs := [_, _, _, _, _, _, _, _, _, _, _, _, _, _, _, _, _, _, _, _, _]) ag49 sz49 rfl rfl rfl) (.cons rfl (.plain rfl) (rlA (vs := [_, _]) ag24 sz24 rfl rfl rfl) (.cons rfl (.plain rfl) (rlA (vs := [_, _]) ag24 sz24 rfl rfl rfl) (.cons rfl (.plain rfl) (rlA (vs := [_, _]) ag24 sz24 rfl rfl rfl) (.cons rfl (.plain rfl) (rlA (vs := [_, _]) ag24 sz24 rfl rfl rfl) (.cons rfl (.plain rfl) (rlA (vs := [_, _]) ag24 sz24 rfl rfl rfl) (.cons rfl (.plain rfl) (rlA (vs := [_, _]) ag24 sz24 rfl rfl rfl) (.cons rfl (.plain rfl) (rlA (vs := [_, _, _, _, _, _, _, _, _, _, _, _, _]) ag28 sz28 rfl rfl rfl) .nil))))))))), ?_⟩
  refine D_p rfl (.yes rfl rfl rfl (by first | rfl | (simp; done) | (simp [eqL, eqv, Box.cells]; done) | decide)) (p_build (r := [_, _, _, _, _, _, _, _, _, _, _, _, _, _, _, _, _, _, _, _, _]) pl49 zr49 rfl rfl rfl) ?_
  refine D_p rfl (.yes rfl rfl rfl (by first | rfl | (simp; done) | (simp [eqL, eqv, Box.cells]; done) | decide)) (p_neS lv49 ag49 eg49 rfl rfl rfl rfl rfl) ?_
  refine Dp rfl rfl (p_pick_f rfl rfl (by first | rfl | (simp; done) | (simp [eqL, eqv, Box.cells]; done) | decide) rfl) ?_
  refine D_then (kp [1, 152] rfl) ?_
  refine V_cond_f rfl (by first | rfl | (simp; done) | (simp [eqL, eqv, Box.cells]; done) | decide) ?_
  refine V_skip (then_n ?_)
  refine Vs rfl ?_
  refine Lp rfl (p_fieldo fo26_0 rfl rfl) ?_
  refine Lr rfl (rl ag22 rfl rfl rfl) ?_
  refine Lp rfl (p_build (r := [_, _, _, _]) pl68 zr68 rfl rfl rfl) ?_
  refine Lp rfl (p_idxo es22 rfl rfl rfl (by omega) (by omega)) ?_
  refine Lw rfl (w_store (cs' := (exPl2.lines.map Line.cells).flatten) sz68 rfl rfl rfl rfl rfl (by repeat first | exact .head | apply SetAt.tail) (by decide) rfl) ?_
  rintro _ _ ⟨rfl, rfl⟩
  refine L_then (kp [1] rfl) ?_
  refine V_seq (V_draw (.rd 0 (.wr2 1 [0] (.wr2 2 [] (.rd 3 (.rd 4 (.rd 5 (.wr 6 [5, 4, 3, 0] (.wr 7 [5] (.rd 8 .done)))))) 6 [0] (.wr 2 [] (.rd 3 (.rd 4 (.rd 5 (.wr 7 [5] (.rd 8 .done))))))) 6 [0] (.wr 1 [0] (.wr 2 [] (.rd 3 (.rd 4 (.rd 5 (.wr 7 [5] (.rd 8 .done))))))))) mixed (by kernel_rfl) rfl ?_)
  refine Dr rfl rfl (rlA (vs := [_, _, _, _, _]) ag26 sz26 rfl rfl rfl) ?_
  refine D_wr2 rfl ?_ ?_
  ·refine (.go (E' := [(0, _)]) rfl (.plain rfl) (w_callP rfl rfl rfl (fun w hg => ltask_c w)) rfl ?_)
   rintro _ _ ⟨rfl, rfl⟩
   refine ⟨(.cons rfl (.plain rfl) (rlA (vs := [_, _, _, _, _]) ag26 sz26 rfl rfl rfl) .nil), ?_⟩
   refine D_wr2 rfl ?_ ?_
   ·refine (.go (E' := []) rfl (.plain rfl) (w_callP rfl rfl rfl (fun w hg => exk_dec w _ aF aL (hE.good hg) (exk_R2 (hg.own (x1, _) (by repeat first | exact mH | apply mT | apply List.mem_append_right))))) rfl ?_)
    rintro _ _ ⟨rfl, rfl⟩
    refine ⟨.nil, ?_⟩
    refine Dm rfl rfl rfl rfl ?_
    iterate 2 refine Dp rfl rfl (p_ext rfl rfl rfl) ?_
    refine D_wr (.go (E' := []) rfl (.plain rfl) (w_alloc zr42 rfl) rfl ?_)
    rintro _ _ ⟨b12, hb12, rfl, rfl⟩
    refine ⟨.nil, ?_⟩
    refine D_wr (.go (E' := []) rfl (.plain rfl) (ws (cs' := [_, _, _]) sz42 rfl rfl rfl rfl rfl rfl rfl) rfl ?_)
    rintro _ _ ⟨rfl, rfl⟩
    refine ⟨.nil, ?_⟩
    refine Dp rfl rfl (p_assign rfl rfl) ?_
    refine D_then (kp [5, 20] rfl) ?_
    refine Vs rfl ?_
    refine Lm rfl rfl rfl ?_
    refine Lp rfl (p_eql rfl rfl rfl) ?_
    refine Lm rfl rfl rfl ?_
    refine L_yes rfl rfl rfl (by first | rfl | simp | decide) (X_rd (rlA (vs := [_, _, _]) ag42 sz42 rfl rfl rfl) ?_)
    refine L_yes rfl rfl rfl (by first | rfl | simp | decide) (X_p (p_build (r := [_, _, _]) pl42 zr42 rfl rfl rfl) ?_)
    refine L_yes rfl rfl rfl (by first | rfl | simp | decide) (X_p (p_eqS lv42 ag42 eg42 rfl rfl rfl rfl rfl) ?_)
    refine Lp rfl (p_pick_t rfl rfl (by first | rfl | simp | decide) rfl) ?_
    refine Lm rfl rfl rfl ?_
    refine L_yes rfl rfl rfl (by first | rfl | (simp; done) | (simp [eqL, eqv, Box.cells]; done) | decide) (X_wr (w_callP rfl rfl rfl (fun w hg => dawake_c aF aL w (hE.good hg))) ?_)
    rintro _ _ ⟨rfl, rfl⟩
    refine Lp rfl (p_pick_t rfl rfl (by first | rfl | (simp; done) | (simp [eqL, eqv, Box.cells]; done) | decide) rfl) ?_
    refine La rfl rfl rfl ?_
    refine L_then (kp [0] rfl) ?_
    refine V_ret ?_
    refine Leave.nil (.tmp rfl .nil) ?_
    rfl
   refine (.go (E' := [(0, _)]) rfl (.plain rfl) (w_alloc zr42 rfl) rfl ?_)
   rintro _ _ ⟨b12, hb12, rfl, rfl⟩
   refine ⟨(.cons rfl (.plain rfl) (rlA (vs := [_, _, _, _, _]) ag26 sz26 rfl rfl rfl) .nil), ?_⟩
   refine D_wr (.go (E' := []) rfl (.plain rfl) (w_callP rfl rfl rfl (fun w hg => exk_dec w _ aF aL (hE.good hg) (exk_R2 (hg.own (x1, _) (by repeat first | exact mH | apply mT | apply List.mem_append_right))))) rfl ?_)
   rintro _ _ ⟨rfl, rfl⟩
   refine ⟨.nil, ?_⟩
   refine Dm rfl rfl rfl rfl ?_
   iterate 2 refine Dp rfl rfl (p_ext rfl rfl rfl) ?_
   refine D_wr (.go (E' := []) rfl (.plain rfl) (ws (cs' := [_, _, _]) sz42 rfl rfl rfl rfl rfl rfl rfl) rfl ?_)
   rintro _ _ ⟨rfl, rfl⟩
   refine ⟨.nil, ?_⟩
   refine Dp rfl rfl (p_assign rfl rfl) ?_
   refine D_then (kp [5, 20] rfl) ?_
   refine Vs rfl ?_
   refine Lm rfl rfl rfl ?_
   refine Lp rfl (p_eql rfl rfl rfl) ?_
   refine Lm rfl rfl rfl ?_
   refine L_yes rfl rfl rfl (by first | rfl | simp | decide) (X_rd (rlA (vs := [_, _, _]) ag42 sz42 rfl rfl rfl) ?_)
   refine L_yes rfl rfl rfl (by first | rfl | simp | decide) (X_p (p_build (r := [_, _, _]) pl42 zr42 rfl rfl rfl) ?_)
   refine L_yes rfl rfl rfl (by first | rfl | simp | decide) (X_p (p_eqS lv42 ag42 eg42 rfl rfl rfl rfl rfl) ?_)
   refine Lp rfl (p_pick_t rfl rfl (by first | rfl | simp | decide) rfl) ?_
   refine Lm rfl rfl rfl ?_
   refine L_yes rfl rfl rfl (by first | rfl | (simp; done) | (simp [eqL, eqv, Box.cells]; done) | decide) (X_wr (w_callP rfl rfl rfl (fun w hg => dawake_c aF aL w (hE.good hg))) ?_)
   rintro _ _ ⟨rfl, rfl⟩
   refine Lp rfl (p_pick_t rfl rfl (by first | rfl | (simp; done) | (simp [eqL, eqv, Box.cells]; done) | decide) rfl) ?_
   refine La rfl rfl rfl ?_
   refine L_then (kp [0] rfl) ?_
   refine V_ret ?_
   refine Leave.nil (.tmp rfl .nil) ?_
   rfl
  refine (.go (E' := [(0, _)]) rfl (.plain rfl) (w_alloc zr42 rfl) rfl ?_)
  rintro _ _ ⟨b12, hb12, rfl, rfl⟩
  refine ⟨(.cons rfl (.plain rfl) (rlA (vs := [_, _, _, _, _]) ag26 sz26 rfl rfl rfl) .nil), ?_⟩
  refine D_wr (.go (E' := [(0, _)]) rfl (.plain rfl) (w_callP rfl rfl rfl (fun w hg => ltask_c w)) rfl ?_)
  rintro _ _ ⟨rfl, rfl⟩
  refine ⟨(.cons rfl (.plain rfl) (rlA (vs := [_, _, _, _, _]) ag26 sz26 rfl rfl rfl) .nil), ?_⟩
  refine D_wr (.go (E' := []) rfl (.plain rfl) (w_callP rfl rfl rfl (fun w hg => exk_dec w _ aF aL (hE.good hg) (exk_R2 (hg.own (x1, _) (by repeat first | exact mH | apply mT | apply List.mem_append_right))))) rfl ?_)
  rintro _ _ ⟨rfl, rfl⟩
  refine ⟨.nil, ?_⟩
  refine Dm rfl rfl rfl rfl ?_
  iterate 2 refine Dp rfl rfl (p_ext rfl rfl rfl) ?_
  refine D_wr (.go (E' := []) rfl (.plain rfl) (ws (cs' := [_, _, _]) sz42 rfl rfl rfl rfl rfl rfl rfl) rfl ?_)
  rintro _ _ ⟨rfl, rfl⟩
  refine ⟨.nil, ?_⟩
  refine Dp rfl rfl (p_assign rfl rfl) ?_
  refine D_then (kp [5, 20] rfl) ?_
  refine Vs rfl ?_
  refine Lm rfl rfl rfl ?_
  refine Lp rfl (p_eql rfl rfl rfl) ?_
  refine Lm rfl rfl rfl ?_
  refine L_yes rfl rfl rfl (by first | rfl | simp | decide) (X_rd (rlA (vs := [_, _, _]) ag42 sz42 rfl rfl rfl) ?_)
  refine L_yes rfl rfl rfl (by first | rfl | simp | decide) (X_p (p_build (r := [_, _, _]) pl42 zr42 rfl rfl rfl) ?_)
  refine L_yes rfl rfl rfl (by first | rfl | simp | decide) (X_p (p_eqS lv42 ag42 eg42 rfl rfl rfl rfl rfl) ?_)
  refine Lp rfl (p_pick_t rfl rfl (by first | rfl | simp | decide) rfl) ?_
  refine Lm rfl rfl rfl ?_
  refine L_yes rfl rfl rfl (by first | rfl | (simp; done) | (simp [eqL, eqv, Box.cells]; done) | decide) (X_wr (w_callP rfl rfl rfl (fun w hg => dawake_c aF aL w (hE.good hg))) ?_)
  rintro _ _ ⟨rfl, rfl⟩
  refine Lp rfl (p_pick_t rfl rfl (by first | rfl | (simp; done) | (simp [eqL, eqv, Box.cells]; done) | decide) rfl) ?_
  refine La rfl rfl rfl ?_
  refine L_then (kp [0] rfl) ?_
  refine V_ret ?_
  refine Leave.nil (.tmp rfl .nil) ?_
  rfl
 refine (.go (E' := [(0, _)]) rfl (.plain rfl) (w_alloc zr49 rfl) rfl ?_)
 rintro _ _ ⟨b9, hb9, rfl, rfl⟩
 refine ⟨(.cons rfl (.plain rfl) (rlA (vs := [_, _, _, _, _]) ag26 sz26 rfl rfl rfl) .nil), ?_⟩
 refine D_wr (.go (E' := [(0, _)]) rfl (.plain rfl) (w_callP rfl rfl rfl (fun w hg => ltask_c w)) rfl ?_)
 rintro _ _ ⟨rfl, rfl⟩
 refine ⟨(.cons rfl (.plain rfl) (rlA (vs := [_, _, _, _, _]) ag26 sz26 rfl rfl rfl) .nil), ?_⟩
 refine D_wr (.go (E' := []) rfl (.plain rfl) (w_callP rfl rfl rfl (fun w hg => exa_look w _ aF aL (hE.good hg) (exPlR (hg.own (x1, _) (by repeat first | exact mH | apply mT | apply List.mem_append_right))))) rfl ?_)
 rintro _ _ ⟨rfl, rfl⟩
 refine ⟨.nil, ?_⟩
 refine Dm rfl rfl rfl rfl ?_
 iterate 2 refine Dp rfl rfl (p_ext rfl rfl rfl) ?_
 refine D_wr (.go (E' := []) rfl (.plain rfl) (w_storeAll (cs' := [_, _, _, _, _, _, _, _, _, _, _, _, _, _, _, _, _, _, _, _, _]) sz49 rfl rfl rfl rfl rfl rfl (by repeat first | exact .head | apply SetAt.tail) rfl) rfl ?_)
 rintro _ _ ⟨rfl, rfl⟩
 refine ⟨.nil, ?_⟩
 refine Dp rfl rfl (p_assign rfl rfl) ?_
 refine D_then (kp [1, 5, 7, 9, 10, 11, 12, 13, 14, 15, 16, 17] rfl) ?_
 refine V_seq ?_
 refine Vs rfl ?_
 refine Lm rfl rfl rfl ?_
 refine Lp rfl (p_neq rfl rfl rfl) ?_
 refine Lm rfl rfl rfl ?_
 refine L_yes rfl rfl rfl (by first | rfl | simp | decide) (X_p (p_move rfl rfl) ?_)
 refine L_yes rfl rfl rfl (by first | rfl | simp | decide) (X_p (p_neq rfl rfl rfl) ?_)
 refine Lp rfl (p_pick_f rfl rfl (by first | rfl | simp | decide) rfl) ?_
 refine Lm rfl rfl rfl ?_
 refine L_yes rfl rfl rfl (by first | rfl | simp | decide) (X_p (p_move rfl rfl) ?_)
 refine L_yes rfl rfl rfl (by first | rfl | simp | decide) (X_p (p_neq rfl rfl rfl) ?_)
 refine Lp rfl (p_pick_f rfl rfl (by first | rfl | simp | decide) rfl) ?_
 refine Lm rfl rfl rfl ?_
 refine L_yes rfl rfl rfl (by first | rfl | simp | decide) (X_p (p_move rfl rfl) ?_)
 refine L_yes rfl rfl rfl (by first | rfl | simp | decide) (X_p (p_neq rfl rfl rfl) ?_)
 refine Lp rfl (p_pick_f rfl rfl (by first | rfl | simp | decide) rfl) ?_
 refine Lm rfl rfl rfl ?_
 refine L_yes rfl rfl rfl (by first | rfl | simp | decide) (X_p (p_move rfl rfl) ?_)
 refine L_yes rfl rfl rfl (by first | rfl | simp | decide) (X_p (p_not rfl rfl) ?_)
 refine Lp rfl (p_pick_f rfl rfl (by first | rfl | simp | decide) rfl) ?_
 refine Lm rfl rfl rfl ?_
 refine L_yes rfl rfl rfl rfl (X_p (p_move rfl rfl) ?_)
 refine L_yes rfl rfl rfl rfl (X_p (p_neq rfl rfl rfl) ?_)
 refine Lp rfl (p_pick_f rfl rfl rfl rfl) ?_
 refine Lm rfl rfl rfl ?_
 refine L_yes rfl rfl rfl (by first | rfl | simp | decide) (X_p (p_move rfl rfl) ?_)
 refine Lp rfl (p_pick_f rfl rfl (by first | rfl | simp | decide) rfl) ?_
 refine Lm rfl rfl rfl ?_
 refine L_yes rfl rfl rfl rfl (X_p (p_move rfl rfl) ?_)
 refine L_yes rfl rfl rfl rfl (X_p (p_neq rfl rfl rfl) ?_)
 refine Lp rfl (p_pick_f rfl rfl rfl rfl) ?_
 refine Lm rfl rfl rfl ?_
 refine L_yes rfl rfl rfl (by first | rfl | simp | decide) (X_p (p_move rfl rfl) ?_)
 refine L_yes rfl rfl rfl (by first | rfl | simp | decide) (X_p (p_neq rfl rfl rfl) ?_)
 refine Lp rfl (p_pick_f rfl rfl (by first | rfl | simp | decide) rfl) ?_
 refine L_then (kp [1, 14, 16, 133] rfl) ?_
 refine V_cond_f rfl (by first | rfl | simp | decide) ?_
 refine V_skip (then_n ?_)
 refine Vs rfl ?_
 iterate 2 refine Lc rfl rfl rfl rfl (fun w hg => lspan6_c _ _ w) ?_
 refine Lw rfl (w_alloc zr24 rfl) ?_
 rintro _ _ ⟨b10, hb10, rfl, rfl⟩
 refine Lw rfl (w_alloc zr24 rfl) ?_
 rintro _ _ ⟨b11, hb11, rfl, rfl⟩
 iterate 2 refine Ls (cs' := [_, _]) rfl sz24 rfl rfl rfl rfl rfl rfl rfl ?_
 refine L_then (kp [1, 14, 16, 18, 19] rfl) ?_
 refine V_seq ?_
 refine V_seq (V_draw (.rd 0 (.rd 1 (.rd 2 (.rd 3 (.rd 4 (.rd 5 (.rd 6 (.rd 7 (.rd 8 (.rd 9 (.rd 10 (.rd 11 (.wr 12 [11, 10, 8, 7, 6, 5, 4, 3, 2, 1, 0] (.wr 13 [11, 10, 8, 7, 6, 5, 4, 3, 2, 1, 0] (.rd 14 (.rd 15 (.rd 16 .done))))))))))))))))) mixed (by kernel_rfl) rfl ?_)
 refine Dr rfl rfl (rlA (vs := [_, _, _, _, _, _, _, _, _, _, _, _, _]) ag28 sz28 rfl rfl rfl) ?_
 iterate 6 refine Dr rfl rfl (rlA (vs := [_, _]) ag24 sz24 rfl rfl rfl) ?_
 refine Dp rfl rfl (p_build (r := [_, _, _, _, _, _, _, _, _, _, _, _, _]) pl28 zr28 rfl rfl rfl) ?_
 refine Dp rfl rfl (p_neS lv28 ag28 eg28 rfl rfl rfl rfl rfl) ?_
 refine Dm rfl rfl rfl rfl ?_
 refine D_rd rfl (.yes rfl rfl rfl (by first | rfl | (simp; done) | (simp [eqL, eqv, Box.cells]; done) | decide)) (rlA (vs := [_, _, _, _, _, _, _, _, _, _, _, _, _, _, _, _, _, _, _, _, _]) ag49 sz49 rfl rfl rfl) ?_
 refine D_rd rfl (.yes rfl rfl rfl (by first | rfl | (simp; done) | (simp [eqL, eqv, Box.cells]; done) | decide)) (rlA (vs := [_, _, _, _, _, _, _, _, _, _, _, _, _]) ag28 sz28 rfl rfl rfl) ?_
 refine D_wr (.go (E' := [(11, _), (10, _), (6, _), (5, _), (4, _), (3, _), (2, _), (1, _), (0, _)]) rfl (.yes rfl rfl rfl (by first | rfl | (simp; done) | (simp [eqL, eqv, Box.cells]; done) | decide)) (w_callP rfl rfl rfl (fun w hg => larea_c _ _ _ _ w)) rfl ?_)
 rintro _ _ ⟨rfl, rfl⟩
 refine ⟨(.cons rfl (.yes rfl rfl rfl (by first | rfl | (simp; done) | (simp [eqL, eqv, Box.cells]; done) | decide)) (rlA (vs := [_, _, _, _, _, _, _, _, _, _, _, _, _]) ag28 sz28 rfl rfl rfl) (.cons rfl (.yes rfl rfl rfl (by first | rfl | (simp; done) | (simp [eqL, eqv, Box.cells]; done) | decide)) (rlA (vs := [_, _, _, _, _, _, _, _, _, _, _, _, _, _, _, _, _, _, _, _, _]) ag49 sz49 rfl rfl rfl) (.cons rfl (.plain rfl) (rlA (vs := [_, _]) ag24 sz24 rfl rfl rfl) (.cons rfl (.plain rfl) (rlA (vs := [_, _]) ag24 sz24 rfl rfl rfl) (.cons rfl (.plain rfl) (rlA (vs := [_, _]) ag24 sz24 rfl rfl rfl) (.cons rfl (.plain rfl) (rlA (vs := [_, _]) ag24 sz24 rfl rfl rfl) (.cons rfl (.plain rfl) (rlA (vs := [_, _]) ag24 sz24 rfl rfl rfl) (.cons rfl (.plain rfl) (rlA (vs := [_, _]) ag24 sz24 rfl rfl rfl) (.cons rfl (.plain rfl) (rlA (vs := [_, _, _, _, _, _, _, _, _, _, _, _, _]) ag28 sz28 rfl rfl rfl) .nil))))))))), ?_⟩
 refine D_wr (.go (E' := [(11, _), (10, _), (6, _), (5, _), (4, _), (3, _), (2, _), (1, _), (0, _)]) rfl (.yes rfl rfl rfl (by first | rfl | (simp; done) | (simp [eqL, eqv, Box.cells]; done) | decide)) (w_callP rfl rfl rfl (fun w hg => lspan6_c _ _ w)) rfl ?_)
 rintro _ _ ⟨rfl, rfl⟩
 refine ⟨(.cons rfl (.yes rfl rfl rfl (by first | rfl | (simp; done) | (simp [eqL, eqv, Box.cells]; done) | decide)) (rlA (vs := [_, _, _, _, _, _, _, _, _, _, _, _, _]) ag28 sz28 rfl rfl rfl) (.cons rfl (.yes rfl rfl rfl (by first | rfl | (simp; done) | (simp [eqL, eqv, Box.cells]; done) | decide)) (rlA (vs := [_, _, _, _, _, _, _, _, _, _, _, _, _, _, _, _, _, _, _, _, _]) ag49 sz49 rfl rfl rfl) (.cons rfl (.plain rfl) (rlA (vs := [_, _]) ag24 sz24 rfl rfl rfl) (.cons rfl (.plain rfl) (rlA (vs := [_, _]) ag24 sz24 rfl rfl rfl) (.cons rfl (.plain rfl) (rlA (vs := [_, _]) ag24 sz24 rfl rfl rfl) (.cons rfl (.plain rfl) (rlA (vs := [_, _]) ag24 sz24 rfl rfl rfl) (.cons rfl (.plain rfl) (rlA (vs := [_, _]) ag24 sz24 rfl rfl rfl) (.cons rfl (.plain rfl) (rlA (vs := [_, _]) ag24 sz24 rfl rfl rfl) (.cons rfl (.plain rfl) (rlA (vs := [_, _, _, _, _, _, _, _, _, _, _, _, _]) ag28 sz28 rfl rfl rfl) .nil))))))))), ?_⟩
 refine D_p rfl (.yes rfl rfl rfl (by first | rfl | (simp; done) | (simp [eqL, eqv, Box.cells]; done) | decide)) (p_build (r := [_, _, _, _, _, _, _, _, _, _, _, _, _, _, _, _, _, _, _, _, _]) pl49 zr49 rfl rfl rfl) ?_
 refine D_p rfl (.yes rfl rfl rfl (by first | rfl | (simp; done) | (simp [eqL, eqv, Box.cells]; done) | decide)) (p_neS lv49 ag49 eg49 rfl rfl rfl rfl rfl) ?_
 refine Dp rfl rfl (p_pick_f rfl rfl (by first | rfl | (simp; done) | (simp [eqL, eqv, Box.cells]; done) | decide) rfl) ?_
 refine D_then (kp [1, 152] rfl) ?_
 refine V_cond_f rfl (by first | rfl | (simp; done) | (simp [eqL, eqv, Box.cells]; done) | decide) ?_
 refine V_skip (then_n ?_)
 refine Vs rfl ?_
 refine Lp rfl (p_fieldo fo26_0 rfl rfl) ?_
 refine Lr rfl (rl ag22 rfl rfl rfl) ?_
 refine Lp rfl (p_build (r := [_, _, _, _]) pl68 zr68 rfl rfl rfl) ?_
 refine Lp rfl (p_idxo es22 rfl rfl rfl (by omega) (by omega)) ?_
 refine Lw rfl (w_store (cs' := (exPl2.lines.map Line.cells).flatten) sz68 rfl rfl rfl rfl rfl (by repeat first | exact .head | apply SetAt.tail) (by decide) rfl) ?_
 rintro _ _ ⟨rfl, rfl⟩
 refine L_then (kp [1] rfl) ?_
 refine V_seq (V_draw (.rd 0 (.wr2 1 [0] (.wr2 2 [] (.rd 3 (.rd 4 (.rd 5 (.wr 6 [5, 4, 3, 0] (.wr 7 [5] (.rd 8 .done)))))) 6 [0] (.wr 2 [] (.rd 3 (.rd 4 (.rd 5 (.wr 7 [5] (.rd 8 .done))))))) 6 [0] (.wr 1 [0] (.wr 2 [] (.rd 3 (.rd 4 (.rd 5 (.wr 7 [5] (.rd 8 .done))))))))) mixed (by kernel_rfl) rfl ?_)
 refine Dr rfl rfl (rlA (vs := [_, _, _, _, _]) ag26 sz26 rfl rfl rfl) ?_
 refine D_wr2 rfl ?_ ?_
 ·refine (.go (E' := [(0, _)]) rfl (.plain rfl) (w_callP rfl rfl rfl (fun w hg => ltask_c w)) rfl ?_)
  rintro _ _ ⟨rfl, rfl⟩
  refine ⟨(.cons rfl (.plain rfl) (rlA (vs := [_, _, _, _, _]) ag26 sz26 rfl rfl rfl) .nil), ?_⟩
  refine D_wr2 rfl ?_ ?_
  ·refine (.go (E' := []) rfl (.plain rfl) (w_callP rfl rfl rfl (fun w hg => exk_dec w _ aF aL (hE.good hg) (exk_R2 (hg.own (x1, _) (by repeat first | exact mH | apply mT | apply List.mem_append_right))))) rfl ?_)
   rintro _ _ ⟨rfl, rfl⟩
   refine ⟨.nil, ?_⟩
   refine Dm rfl rfl rfl rfl ?_
   iterate 2 refine Dp rfl rfl (p_ext rfl rfl rfl) ?_
   refine D_wr (.go (E' := []) rfl (.plain rfl) (w_alloc zr42 rfl) rfl ?_)
   rintro _ _ ⟨b12, hb12, rfl, rfl⟩
   refine ⟨.nil, ?_⟩
   refine D_wr (.go (E' := []) rfl (.plain rfl) (ws (cs' := [_, _, _]) sz42 rfl rfl rfl rfl rfl rfl rfl) rfl ?_)
   rintro _ _ ⟨rfl, rfl⟩
   refine ⟨.nil, ?_⟩
   refine Dp rfl rfl (p_assign rfl rfl) ?_
   refine D_then (kp [5, 20] rfl) ?_
   refine Vs rfl ?_
   refine Lm rfl rfl rfl ?_
   refine Lp rfl (p_eql rfl rfl rfl) ?_
   refine Lm rfl rfl rfl ?_
   refine L_yes rfl rfl rfl (by first | rfl | simp | decide) (X_rd (rlA (vs := [_, _, _]) ag42 sz42 rfl rfl rfl) ?_)
   refine L_yes rfl rfl rfl (by first | rfl | simp | decide) (X_p (p_build (r := [_, _, _]) pl42 zr42 rfl rfl rfl) ?_)
   refine L_yes rfl rfl rfl (by first | rfl | simp | decide) (X_p (p_eqS lv42 ag42 eg42 rfl rfl rfl rfl rfl) ?_)
   refine Lp rfl (p_pick_t rfl rfl (by first | rfl | simp | decide) rfl) ?_
   refine Lm rfl rfl rfl ?_
   refine L_yes rfl rfl rfl (by first | rfl | (simp; done) | (simp [eqL, eqv, Box.cells]; done) | decide) (X_wr (w_callP rfl rfl rfl (fun w hg => dawake_c aF aL w (hE.good hg))) ?_)
   rintro _ _ ⟨rfl, rfl⟩
   refine Lp rfl (p_pick_t rfl rfl (by first | rfl | (simp; done) | (simp [eqL, eqv, Box.cells]; done) | decide) rfl) ?_
   refine La rfl rfl rfl ?_
   refine L_then (kp [0] rfl) ?_
   refine V_ret ?_
   refine Leave.nil (.tmp rfl .nil) ?_
   rfl
  refine (.go (E' := [(0, _)]) rfl (.plain rfl) (w_alloc zr42 rfl) rfl ?_)
  rintro _ _ ⟨b12, hb12, rfl, rfl⟩
  refine ⟨(.cons rfl (.plain rfl) (rlA (vs := [_, _, _, _, _]) ag26 sz26 rfl rfl rfl) .nil), ?_⟩
  refine D_wr (.go (E' := []) rfl (.plain rfl) (w_callP rfl rfl rfl (fun w hg => exk_dec w _ aF aL (hE.good hg) (exk_R2 (hg.own (x1, _) (by repeat first | exact mH | apply mT | apply List.mem_append_right))))) rfl ?_)
  rintro _ _ ⟨rfl, rfl⟩
  refine ⟨.nil, ?_⟩
  refine Dm rfl rfl rfl rfl ?_
  iterate 2 refine Dp rfl rfl (p_ext rfl rfl rfl) ?_
  refine D_wr (.go (E' := []) rfl (.plain rfl) (ws (cs' := [_, _, _]) sz42 rfl rfl rfl rfl rfl rfl rfl) rfl ?_)
  rintro _ _ ⟨rfl, rfl⟩
  refine ⟨.nil, ?_⟩
  refine Dp rfl rfl (p_assign rfl rfl) ?_
  refine D_then (kp [5, 20] rfl) ?_
  refine Vs rfl ?_
  refine Lm rfl rfl rfl ?_
  refine Lp rfl (p_eql rfl rfl rfl) ?_
  refine Lm rfl rfl rfl ?_
  refine L_yes rfl rfl rfl (by first | rfl | simp | decide) (X_rd (rlA (vs := [_, _, _]) ag42 sz42 rfl rfl rfl) ?_)
  refine L_yes rfl rfl rfl (by first | rfl | simp | decide) (X_p (p_build (r := [_, _, _]) pl42 zr42 rfl rfl rfl) ?_)
  refine L_yes rfl rfl rfl (by first | rfl | simp | decide) (X_p (p_eqS lv42 ag42 eg42 rfl rfl rfl rfl rfl) ?_)
  refine Lp rfl (p_pick_t rfl rfl (by first | rfl | simp | decide) rfl) ?_
  refine Lm rfl rfl rfl ?_
  refine L_yes rfl rfl rfl (by first | rfl | (simp; done) | (simp [eqL, eqv, Box.cells]; done) | decide) (X_wr (w_callP rfl rfl rfl (fun w hg => dawake_c aF aL w (hE.good hg))) ?_)
  rintro _ _ ⟨rfl, rfl⟩
  refine Lp rfl (p_pick_t rfl rfl (by first | rfl | (simp; done) | (simp [eqL, eqv, Box.cells]; done) | decide) rfl) ?_
  refine La rfl rfl rfl ?_
  refine L_then (kp [0] rfl) ?_
  refine V_ret ?_
  refine Leave.nil (.tmp rfl .nil) ?_
  rfl
 refine (.go (E' := [(0, _)]) rfl (.plain rfl) (w_alloc zr42 rfl) rfl ?_)
 rintro _ _ ⟨b12, hb12, rfl, rfl⟩
 refine ⟨(.cons rfl (.plain rfl) (rlA (vs := [_, _, _, _, _]) ag26 sz26 rfl rfl rfl) .nil), ?_⟩
 refine D_wr (.go (E' := [(0, _)]) rfl (.plain rfl) (w_callP rfl rfl rfl (fun w hg => ltask_c w)) rfl ?_)
 rintro _ _ ⟨rfl, rfl⟩
 refine ⟨(.cons rfl (.plain rfl) (rlA (vs := [_, _, _, _, _]) ag26 sz26 rfl rfl rfl) .nil), ?_⟩
 refine D_wr (.go (E' := []) rfl (.plain rfl) (w_callP rfl rfl rfl (fun w hg => exk_dec w _ aF aL (hE.good hg) (exk_R2 (hg.own (x1, _) (by repeat first | exact mH | apply mT | apply List.mem_append_right))))) rfl ?_)
 rintro _ _ ⟨rfl, rfl⟩
 refine ⟨.nil, ?_⟩
 refine Dm rfl rfl rfl rfl ?_
 iterate 2 refine Dp rfl rfl (p_ext rfl rfl rfl) ?_
 refine D_wr (.go (E' := []) rfl (.plain rfl) (ws (cs' := [_, _, _]) sz42 rfl rfl rfl rfl rfl rfl rfl) rfl ?_)
 rintro _ _ ⟨rfl, rfl⟩
 refine ⟨.nil, ?_⟩
 refine Dp rfl rfl (p_assign rfl rfl) ?_
 refine D_then (kp [5, 20] rfl) ?_
 refine Vs rfl ?_
 refine Lm rfl rfl rfl ?_
 refine Lp rfl (p_eql rfl rfl rfl) ?_
 refine Lm rfl rfl rfl ?_
 refine L_yes rfl rfl rfl (by first | rfl | simp | decide) (X_rd (rlA (vs := [_, _, _]) ag42 sz42 rfl rfl rfl) ?_)
 refine L_yes rfl rfl rfl (by first | rfl | simp | decide) (X_p (p_build (r := [_, _, _]) pl42 zr42 rfl rfl rfl) ?_)
 refine L_yes rfl rfl rfl (by first | rfl | simp | decide) (X_p (p_eqS lv42 ag42 eg42 rfl rfl rfl rfl rfl) ?_)
 refine Lp rfl (p_pick_t rfl rfl (by first | rfl | simp | decide) rfl) ?_
 refine Lm rfl rfl rfl ?_
 refine L_yes rfl rfl rfl (by first | rfl | (simp; done) | (simp [eqL, eqv, Box.cells]; done) | decide) (X_wr (w_callP rfl rfl rfl (fun w hg => dawake_c aF aL w (hE.good hg))) ?_)
 rintro _ _ ⟨rfl, rfl⟩
 refine Lp rfl (p_pick_t rfl rfl (by first | rfl | (simp; done) | (simp [eqL, eqv, Box.cells]; done) | decide) rfl) ?_
 refine La rfl rfl rfl ?_
 refine L_then (kp [0] rfl) ?_
 refine V_ret ?_
 refine Leave.nil (.tmp rfl .nil) ?_
 rfl

theorem own_ : ownKnob Tryz.prog.godebug = none := by kernel_rfl
def laidE : List (String × DataW Unit) := [("hangfire/destruct.errFar", Rows.laid_hangfire_destruct_errFar), ("hangfire/destruct.errLong", Rows.laid_hangfire_destruct_errLong)]
theorem gFar : Tryz.prog.globalNamed "hangfire/destruct.errFar" = some 0 := by kernel_rfl
theorem gLong : Tryz.prog.globalNamed "hangfire/destruct.errLong" = some 1 := by kernel_rfl
theorem tFar : (Tryz.prog.globals[0]?).map (·.type) = some 72 := by kernel_rfl
theorem tLong : (Tryz.prog.globals[1]?).map (·.type) = some 72 := by kernel_rfl
theorem door_met (os : Os) (args : Array Value) : laidMetH Tryz.prog laidE ((World.doorLaid Tryz.prog 400 os).forCall (fun _ _ => 0) ⟨#[], args, []⟩).memory :=
 laidMetH_of_parts3 (fuel := 8) (laidMet_of_run' 8 (by kernel_rfl) (by kernel_rfl)) (by kernel_rfl) (by kernel_rfl)
theorem of_laid {W : World} (h : laidMetH Tryz.prog laidE W) : ∃ aF aL, ErrR W 0 1 194 aF aL := by
 rw [MakeChecks.laidMetH_plain _ _ _ (by kernel_rfl)] at h
 have hr : ∀ u, Tryz.prog.typeName? 3 u = some "*errors.errorString" → u = 194 := fun u hu =>
  typeName_ptr_named (nm := "errors.errorString") (by kernel_rfl) (by kernel_rfl) (by decide) u hu
 obtain ⟨a0, a1, s0, s1, c0, c1, t0, t1, hv0, hv1, _, _, _, _, _, _, hne, hb0, hb1⟩ := laid_sentinels2 h gFar tFar gLong tLong Tryz.underlying72 hr Tryz.underlying194 Tryz.underlying220 rfl rfl Tryz.underlying9 (by kernel_rfl) (by kernel_rfl)
 exact ⟨a0, a1, by simpa using World.var?_cell gFar hv0 0, by simpa using World.var?_cell gLong hv1 0, hne, ⟨c0, t0, hb0⟩, ⟨c1, t1, hb1⟩⟩

theorem destructKnown_lifted (os : Os) (started : os.Started) (H : Type) (enc : TypeId × Value → H) :
  ReturnsInHanded {} Tryz.checked os 7 .any (fun w args => (Rows.destructKnownSpec.pre enc Tryz.prog Tryz.f7 Rows.destructKnownRow.domain false w args ∧ laidMetH Tryz.prog laidE w) ∧ sizedMet enc Tryz.prog Tryz.f7 (OpenSpec.ofChange Rows.destructKnownSpec) false w args)
   (Rows.destructKnownSpec.post enc Tryz.prog Tryz.f7 false true false false) := by
 refine returnsInHanded_of_change_and (C := Tryz.checked) (X := fun w _ => laidMetH Tryz.prog laidE w) (fun _ _ _ hh h => h.of_heap hh) own_ started (by kernel_rfl) Tryz.func7
  (ChangeSpec.witness_shaped (enc := enc) (C := Tryz.checked) (os := os) (X := fun w _ => laidMetH Tryz.prog laidE w) false (World.doorLaid Tryz.prog 400 os) #[] 8 rfl (World.shaped_of_RefB (by kernel_rfl) (by kernel_rfl)) (by kernel_rfl) (by kernel_rfl) (by kernel_rfl) (door_met os _)) ?_
 intro W base args ds gs before hval0 hW _ _ hL _
 have hval : ∀ (j : Nat) t v, Tryz.f7.params[j]? = some t → args[j]? = some v → Value.okWide Tryz.prog W .any base t v := hval0
 have hW' := hW
 obtain ⟨pA, pB, hA0, hV, rfl, _, _⟩ := hW
 have hA : DataW.TrodAll enc Tryz.prog W 0 (fun _ => true) true Tryz.f7.params.toList args.toList ds pA := hA0
 clear hA0 hval0
 rw [Tryz.params7] at hA hval
 obtain ⟨rfl, rfl⟩ := trodVars_none hV
 obtain ⟨ea0, rfl, rfl⟩ := trodAll_nil hA
 have ea : args = #[] := Array.toList_inj.1 ea0
 subst ea
 obtain ⟨aF, aL, hE⟩ := of_laid hL

 refine (calls_of (destructKnown_c aF aL W hE)).mono ?_
 rintro _ W' ⟨_, rfl, rfl, hX⟩
 exact ⟨_, rfl, post_true hW' rfl hX (by kernel_rfl) (by kernel_rfl) rfl rfl rfl (by kernel_rfl) Tryz.underlying4⟩

theorem destructKnown_row : Rows.DestructKnownSaid :=
 OpenClaim.holds_of_wide 7 Tryz.f7 rfl rfl rfl rfl rfl rfl rfl ⟨rfl, rfl, rfl, rfl, rfl⟩ rfl rfl rfl rfl rfl (by kernel_rfl) Tryz.func7 (by kernel_rfl)
  (of_decide_eq_true (by kernel_rfl)) (by unfold Func.isWrapper; first | (rw [if_pos (by decide +kernel)]; kernel_rfl) | (rw [if_neg (by decide +kernel)]; exact ⟨rfl, rfl⟩))
  (fun os started H enc _ => destructKnown_lifted os started H enc)

theorem destructKnown_holds : Rows.DestructKnownCardSaid :=
 Claim7.holds_tied_plain_at .later [] [.sentinel, .sentinel] true (true, "45daf5a72e1417c27e7b53707ddfea4b3edd868a729209c8431d788981e9d69c") true
  destructKnown_row (fun _ h => by cases h) (by kernel_rfl) (fun _ h => by cases h) destructKnown_row_tie rfl ⟨rfl, rfl⟩ (by kernel_rfl) rfl
  (fun f fn hf hfn => by
   obtain rfl : f = 7 := Option.some.inj ((show Tryz.prog.funcNamed "hangfire/hangfirelaw06.DestructKnown" = some 7 by kernel_rfl).symm.trans hf) |>.symm
   obtain rfl : fn = Tryz.f7 := (Option.some.inj (Tryz.func7.symm.trans hfn)).symm
   exact ⟨by kernel_rfl, fun j t ht => by
    rw [Tryz.params7] at ht
    have hm : t ∈ [] := by simpa using Array.mem_of_getElem? ht
    have hall : ([].all fun u => !Tryz.prog.wantsStandIn u) = true := by kernel_rfl
    exact (show Tryz.prog.wantsStandIn t = false by simpa using List.all_eq_true.1 hall t hm)⟩)
  (by kernel_rfl)
#print axioms destructKnown_holds

end Go.Proofs.YtlcccpeelombbaaGreatDoor
