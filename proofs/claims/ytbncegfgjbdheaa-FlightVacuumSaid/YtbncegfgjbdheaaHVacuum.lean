/- Ytbncegfgjbdheaa: FlightVacuum is proved: for any pushes, gravity and ticks (no condition) it returns true. -/
import Derived.Test.YtbncegfgjbdheaaRows
import Derived.Test.YtbncegfgjbdheaaZan
import Derived.Test.YtbncegfgjbdheaaZaf
import Derived.Test.YtbncegfgjbdheaaZam
import Derived.Test.YtbncegfgjbdheaaZao
import Derived.ProofKit
set_option linter.all false
namespace Go.Proofs.Ytbncegfgjbdheaa
open Go.Vc Go.Tk Go.Fl Go.ChangeShapes Go.WideShapes Go.ChangeAt Go.RowKit
set_option maxRecDepth 100000
theorem flightVacuumA (ps : List (Int × Int)) (y n g : Int) (pv : Value) (hy : 0 ≤ y ∧ y ≤ 255) (hgm : y.tmod 201 = g) (hg0 : 0 ≤ g ∧ g ≤ 200) (hn : 0 ≤ n ∧ n ≤ 255) (hb : ∀ x ∈ ps, (0 ≤ x.1 ∧ x.1 ≤ 65535) ∧ 0 ≤ x.2 ∧ x.2 ≤ 65535) (w : World) (hp : SliceR w 2 pv (ps.map pwC)) (h : (ps.length : Int) = 0 ∨ 12 < (ps.length : Int)) : FnP Try.prog 5 [pv, .int .u8 y, .int .u8 n] w (.bool true) := by
 obtain ⟨pa, pc, rfl, hpc, hpe⟩ := hp.ex
 simp only [List.length_map] at hpc ⊢
 refine fn_pure Try.func5 rfl (by kernel_rfl) Try.ntmps5 Try.results5 rfl ?_
 refine Vs rfl ?_
 refine La rfl rfl rfl ?_
 refine L_then (kp [0, 1, 2] rfl) ?_
 refine V_seq ?_
 refine Vs rfl ?_
 refine Lm rfl rfl rfl ?_
 refine Lp rfl (p_len isl64 rfl rfl) ?_
 refine Lp rfl (p_eql rfl rfl rfl) ?_
 refine Lm rfl rfl rfl ?_
 refine L_cases (d := 22) rfl ?_ ?_
 ·intro g1; have g1' := g1; try simp only [td] at g1'
  iterate 3 refine L_no rfl rfl rfl g1 ?_
  refine Lp rfl (p_pick_t rfl rfl g1 rfl) ?_
  refine L_then (kp [0, 1, 2, 26] rfl) ?_
  refine V_cond_t rfl rfl ?_
  refine Vs rfl ?_
  refine Lc rfl rfl rfl rfl (fun w hg => lAwake_c w) ?_
  refine La rfl rfl rfl ?_
  refine L_then (kp [6] rfl) ?_
  refine V_ret (then_r ?_)
  refine Leave.nil (.tmp rfl .nil) ?_
  rfl
 intro g1; have g1' := g1; try simp only [td] at g1'
 refine L_yes rfl rfl rfl g1 (X_p (p_move rfl rfl) ?_)
 refine L_yes rfl rfl rfl g1 (X_p (p_len isl64 rfl rfl) ?_)
 refine L_yes rfl rfl rfl g1 (X_p (p_gtr rfl rfl rfl) ?_)
 refine Lp rfl (p_pick_f rfl rfl g1 rfl) ?_
 refine L_then (kp [0, 1, 2, 26] rfl) ?_
 refine V_cond rfl ?_ ?_
 ·intro c1; try simp only [td] at c1
  refine Vs rfl ?_
  refine Lc rfl rfl rfl rfl (fun w hg => lAwake_c w) ?_
  refine La rfl rfl rfl ?_
  refine L_then (kp [6] rfl) ?_
  refine V_ret (then_r ?_)
  refine Leave.nil (.tmp rfl .nil) ?_
  rfl
 intro c1; try simp only [td] at c1
 exfalso; omega
set_option maxHeartbeats 8000000 in
theorem flightVacuumE (ps : List (Int × Int)) (y n g : Int) (pv : Value) (hy : 0 ≤ y ∧ y ≤ 255) (hgm : y.tmod 201 = g) (hg0 : 0 ≤ g ∧ g ≤ 200) (hn : 0 ≤ n ∧ n ≤ 255) (hb : ∀ x ∈ ps, (0 ≤ x.1 ∧ x.1 ≤ 65535) ∧ 0 ≤ x.2 ∧ x.2 ≤ 65535) (w : World) (hp : SliceR w 2 pv (ps.map pwC)) (hl : 1 ≤ ps.length ∧ ps.length ≤ 12) (h : flyE (vacV ⟨#[118]⟩ g ps) upD exB n ≠ 0) : FnP Try.prog 5 [pv, .int .u8 y, .int .u8 n] w (.bool true) := by
 obtain ⟨pa, pc, rfl, hpc, hpe⟩ := hp.ex
 simp only [List.length_map] at hpc ⊢
 have ha : askedF (vacV ⟨#[118]⟩ g ps) upD exB = 0 := vac_asked (by decide) hg0 (by omega) hb
 have h3 := fly_3 ha (n := n) (by omega) h
 refine fn_pure Try.func5 rfl (by kernel_rfl) Try.ntmps5 Try.results5 rfl ?_
 refine Vs rfl ?_
 refine La rfl rfl rfl ?_
 refine L_then (kp [0, 1, 2] rfl) ?_
 refine V_seq ?_
 refine Vs rfl ?_
 refine Lm rfl rfl rfl ?_
 refine Lp rfl (p_len isl64 rfl rfl) ?_
 refine Lp rfl (p_eql rfl rfl rfl) ?_
 refine Lm rfl rfl rfl ?_
 refine L_cases (d := 22) rfl ?_ ?_
 ·intro g1; have g1' := g1; try simp only [td] at g1'
  exfalso; omega
 intro g1; have g1' := g1; try simp only [td] at g1'
 refine L_yes rfl rfl rfl g1 (X_p (p_move rfl rfl) ?_)
 refine L_yes rfl rfl rfl g1 (X_p (p_len isl64 rfl rfl) ?_)
 refine L_yes rfl rfl rfl g1 (X_p (p_gtr rfl rfl rfl) ?_)
 refine Lp rfl (p_pick_f rfl rfl g1 rfl) ?_
 refine L_then (kp [0, 1, 2, 26] rfl) ?_
 refine V_cond rfl ?_ ?_
 ·intro c1; try simp only [td] at c1
  exfalso; omega
 intro c1; try simp only [td] at c1
 refine V_skip (then_n ?_)
 refine Vs rfl ?_
 refine Lm rfl rfl rfl ?_
 refine Lp rfl (p_convI un5 un3 rfl rfl (by unfold InI; omega)) ?_
 refine Lp rfl (p_rem rfl rfl rfl (by first | decide | omega)) ?_
 rw [hgm]
 refine La rfl rfl rfl ?_
 refine L_then (kp [0, 2, 7] rfl) ?_
 refine Vs rfl ?_
 iterate 2 refine Lm rfl rfl rfl ?_
 refine Lc rfl rfl rfl rfl (fun w hg => lspan_c _ _ w) ?_
 refine Lp rfl (p_build (r := [_, _, _, _, _, _]) pl28 zr28 rfl rfl rfl) ?_
 refine Lw rfl (w_alloc zr28 rfl) ?_
 rintro _ _ ⟨b1, hb1, rfl, rfl⟩
 refine Ls (cs' := [_, _, _, _, _, _]) rfl sz28 rfl rfl rfl rfl rfl rfl rfl ?_
 refine L_then (kp [0, 2, 7, 8] rfl) ?_
 refine V_seq ?_
 refine Vs rfl ?_
 refine La rfl rfl rfl ?_
 refine L_then (kp [0, 2, 7, 8, 9] rfl) ?_
 refine V_block ?_
 refine V_loop1 (γ := Int × Value × Heap) (kp [0, 2, 7, 8] rfl) (fun (k, sv, GP) => [(9, .int .i64 k)]) (fun (k, sv, GP) => (b1, .cells #[.string ⟨#[118]⟩, .int .i64 g, .int .i64 g, .slice none 0 0, sv, .slice none 0 0] 28) :: GP) (fun (k, sv, GP) => 0 ≤ k ∧ k ≤ ps.length ∧ Grow 46 13 sv k.toNat (phL ((ps.map vacP).take k.toNat)) GP) (fun (k, sv, GP) => (ps.length - k).toNat) ((0, .slice none 0 0, [])) (.cons rfl (.nil _)) (by repeat (first | exact List.nil_sublist _ | exact List.Sublist.refl _ | apply List.Sublist.cons_cons | apply List.Sublist.cons)) (⟨by omega, by omega, .nil⟩) ?_
 rintro ⟨k, sv, GP⟩ hi
 obtain ⟨hk0, hk1, hgp⟩ := hi
 dsimp only at hk0 hk1 hgp ⊢
 obtain ⟨sap, scp, rfl⟩ := Grow.form hgp
 refine V_seq ?_
 refine Vs rfl ?_
 iterate 2 refine Lm rfl rfl rfl ?_
 refine Lp rfl (p_len isl64 rfl rfl) ?_
 refine Lp rfl (p_lss rfl rfl rfl) ?_
 refine L_then (kp [0, 2, 7, 8, 9, 38] rfl) ?_
 refine V_cond rfl ?_ ?_
 ·intro c2; try simp only [td] at c2
  obtain ⟨tb, etb, hc0⟩ := hpe k.toNat _ (getD_cells (d := ((0 : Int), (0 : Int))) (by omega))
  subst etb
  have hc : cellsAt w (tb.add (k.toNat * 2)) (pwC (pwAt ps k.toNat)) := hc0
  have hpb := pw_at hb (i := k.toNat) (by omega)
  refine V_skip (then_n ?_)
  refine V_seq ?_
  refine V_block ?_
  refine Vs rfl ?_
  iterate 2 refine Lm rfl rfl rfl ?_
  refine Lp rfl (p_idx es64 rfl rfl rfl (by omega) (by omega)) ?_
  refine Lp rfl (p_idxa ar67 rfl rfl rfl (by omega) (by omega)) ?_
  refine Lr rfl (r_loadB ag66 rfl rfl (hc 1 _ rfl) List.not_mem_nil) ?_
  refine Lp rfl (p_convI un66 un3 rfl rfl (by unfold InI; omega)) ?_
  first | refine Lp rfl (p_add' rfl rfl rfl (by unfold InI; omega)) ?_ | refine Lp rfl (p_add rfl rfl rfl) ?_
  refine La rfl rfl rfl ?_
  refine L_then (kp [0, 2, 7, 8, 9, 10] rfl) ?_
  refine V_draw (.rd 0 (.rd 1 (.rd 2 (.rd 3 (.rd 4 (.rd 5 (.rd 6 (.rd 7 (.rd 8 (.rd 9 (.rd 10 (.rd 11 (.rd 12 (.rd 13 (.rd 15 (.rd 16 (.wr 14 [16, 15, 12, 11, 10, 9, 8, 6, 5, 4, 3, 2, 1, 0] (.wr 17 [13, 12, 11, 10, 9, 8, 7, 6, 5, 4, 3, 2, 1, 0] (.rd 18 (.wr 19 [16, 15, 13, 12, 11, 10, 9, 8, 7, 6, 5, 4, 3, 2, 1, 0] (.wr 20 [18, 16, 15, 13, 12, 11, 10, 9, 8, 7, 6, 5, 4, 3, 2, 0] (.rd 21 (.wr 22 [] .done))))))))))))))))))))))) mixed (by kernel_rfl) rfl ?_
  refine Dp rfl rfl (p_fieldo fo28_3 rfl rfl) ?_
  refine Dr rfl rfl (rl ag25 rfl rfl rfl) ?_
  iterate 2 refine Dm rfl rfl rfl rfl ?_
  refine Dp rfl rfl (p_idx es64 rfl rfl rfl (by omega) (by omega)) ?_
  refine Dp rfl rfl (p_idxa ar67 rfl rfl rfl (by omega) (by omega)) ?_
  refine Dr rfl rfl (r_loadB ag66 rfl rfl (hc 0 _ rfl) List.not_mem_nil) ?_
  refine Dp rfl rfl (p_convI un66 un3 rfl rfl (by unfold InI; omega)) ?_
  iterate 2 refine Dm rfl rfl rfl rfl ?_
  refine Dp rfl rfl (p_idx es64 rfl rfl rfl (by omega) (by omega)) ?_
  refine Dp rfl rfl (p_idxa ar67 rfl rfl rfl (by omega) (by omega)) ?_
  refine Dr rfl rfl (r_loadB ag66 rfl rfl (hc 0 _ rfl) List.not_mem_nil) ?_
  refine Dp rfl rfl (p_convI un66 un3 rfl rfl (by unfold InI; omega)) ?_
  iterate 2 refine Dm rfl rfl rfl rfl ?_
  refine D_wr (.go (E' := [(12, _), (6, _), (1, _)]) rfl (.plain rfl) (w_callP rfl rfl rfl (fun w hg => lspan_c _ _ w)) rfl ?_)
  rintro _ _ ⟨rfl, rfl⟩
  refine ⟨(.cons rfl (.plain rfl) (r_loadB ag66 rfl rfl (hc 0 _ rfl) List.not_mem_nil) (.cons rfl (.plain rfl) (r_loadB ag66 rfl rfl (hc 0 _ rfl) List.not_mem_nil) (.cons rfl (.plain rfl) (rl ag25 rfl rfl rfl) .nil))), ?_⟩
  refine D_wr (.go (E' := [(12, _), (6, _), (1, _)]) rfl (.plain rfl) (w_callP rfl rfl rfl (fun w hg => lspan_c _ _ w)) rfl ?_)
  rintro _ _ ⟨rfl, rfl⟩
  refine ⟨(.cons rfl (.plain rfl) (r_loadB ag66 rfl rfl (hc 0 _ rfl) List.not_mem_nil) (.cons rfl (.plain rfl) (r_loadB ag66 rfl rfl (hc 0 _ rfl) List.not_mem_nil) (.cons rfl (.plain rfl) (rl ag25 rfl rfl rfl) .nil))), ?_⟩
  refine Dp rfl rfl (p_build (r := [_, _, _, _, _, _, _, _, _, _, _, _, _]) pl46 zr46 rfl rfl rfl) ?_
  refine D_wr (.go (E' := [(12, _), (6, _), (1, _)]) rfl (.plain rfl) (w_slice (r := [_, _, _, _, _, _, _, _, _, _, _, _, _]) un25 sz46 zr46 rfl (by decide) rfl (by decide) rfl rfl) rfl ?_)
  rintro _ _ ⟨b2, hb2, rfl, rfl⟩
  refine ⟨(.cons rfl (.plain rfl) (r_loadB ag66 rfl rfl (hc 0 _ rfl) List.not_mem_nil) (.cons rfl (.plain rfl) (r_loadB ag66 rfl rfl (hc 0 _ rfl) List.not_mem_nil) (.cons rfl (.plain rfl) (rl ag25 rfl rfl rfl) .nil))), ?_⟩
  refine D_wr (.go (E' := [(12, _), (6, _)]) rfl (.plain rfl) (w_app (pre := [_, _]) (G := GP) (post := []) ap25 rfl rfl rfl hgp (by rw [List.append_nil]; rfl) rfl (news_own (by repeat first | exact mH | apply mT | apply List.mem_append_right)) (by intro u hu; simp only [List.mem_cons, List.not_mem_nil, or_false] at hu; rcases hu with rfl | rfl | rfl | rfl | rfl | rfl | rfl | rfl | rfl | rfl | rfl | rfl | rfl <;> rfl) (by omega) (by simp only [maxLen]; omega)) rfl ?_)
  rintro _ _ ⟨GP2a, GP2c, GP2, rfl, rfl, hgp2⟩
  try simp only [List.cons_append, List.nil_append, List.append_nil]
  refine ⟨(.cons rfl (.plain rfl) (r_loadB ag66 rfl rfl (hc 0 _ rfl) List.not_mem_nil) (.cons rfl (.plain rfl) (r_loadB ag66 rfl rfl (hc 0 _ rfl) List.not_mem_nil) .nil)), ?_⟩
  refine Dp rfl rfl (p_fieldo fo28_3 rfl rfl) ?_
  refine D_wr (.go (E' := []) rfl (.plain rfl) (ws (cs' := [_, _, _, _, _, _]) sz25 rfl rfl rfl rfl rfl rfl rfl) rfl ?_)
  rintro _ _ ⟨rfl, rfl⟩
  refine ⟨.nil, ?_⟩
  refine D_keep (kp [0, 2, 7, 8, 9] rfl) (blk_n (then_n ?_))
  refine V_region rfl ?_
  refine Lm rfl rfl rfl ?_
  first | refine Lp rfl (p_add' rfl rfl rfl (by unfold InI; omega)) ?_ | refine Lp rfl (p_add rfl rfl rfl) ?_
  refine La rfl rfl rfl ?_
  refine L_keep (kp [0, 2, 7, 8, 9] rfl) (then_n ?_)
  refine ⟨(k + 1, _, GP2), ?_, ?_, (.cons rfl (.cons rfl (.cons rfl (.cons rfl (.cons rfl (.nil _)))))), (by repeat (first | exact List.nil_sublist _ | exact List.Sublist.refl _ | apply List.Sublist.cons_cons | apply List.Sublist.cons | apply List.sublist_append_of_sublist_right)), rfl⟩
  ·have ek : (k + 1).toNat = k.toNat + 1 := by omega
   refine ⟨by omega, by omega, ?_⟩
   have ex : (ps.map vacP).getD k.toNat phZ = vacP (pwAt ps k.toNat) := getD_map vacP (0, 0) phZ ps (by omega)
   rw [ek, take_succ_getD phZ (ps.map vacP) (by rw [List.length_map]; omega), phL_s, ex]; exact hgp2
  dsimp only; omega
 intro c2; try simp only [td] at c2
 have ek : k.toNat = ps.length := by omega
 rw [List.take_of_length_le (by rw [List.length_map]; omega)] at hgp
 refine V_exit (then_e (then_e (blk_e rfl (then_n ?_))))
 refine V_seq (V_draw (.rd 0 (.rd 3 (.rd 4 (.wr 1 [4, 3, 0] (.wr 2 [4, 3, 0] (.wr 5 [3] (.rd 6 (.rd 7 (.rd 8 (.rd 9 (.rd 10 .done))))))))))) mixed (by kernel_rfl) rfl ?_)
 refine Dr rfl rfl (rlA (vs := [_, _, _, _, _, _]) ag28 sz28 rfl rfl rfl) ?_
 refine Dm rfl rfl rfl rfl ?_
 refine Dp rfl rfl (p_convI un5 un3 rfl rfl (by unfold InI; omega)) ?_
 refine D_wr (.go (E' := [(0, _)]) rfl (.plain rfl) (w_callP rfl rfl rfl (fun w hg => lUp_c w)) rfl ?_)
 rintro _ _ ⟨rfl, rfl⟩
 refine ⟨(.cons rfl (.plain rfl) (rlA (vs := [_, _, _, _, _, _]) ag28 sz28 rfl rfl rfl) .nil), ?_⟩
 refine D_wr (.go (E' := [(0, _)]) rfl (.plain rfl) (w_callN rfl rfl rfl (fun w hg => lBands_c w)) rfl ?_)
 rintro _ _ ⟨_, rfl, _, x2, rfl, rfl⟩
 refine ⟨(.cons rfl (.plain rfl) (rlA (vs := [_, _, _, _, _, _]) ag28 sz28 rfl rfl rfl) .nil), ?_⟩
 refine D_wr (.go (E' := []) rfl (.plain rfl) (w_callG (pre := [_, _]) rfl rfl rfl rfl (fun w hg => eFly_c (vacV ⟨#[118]⟩ g ps) upD exB _ _ _ _ w (vac_R hgp ek (by omega) (fun p hp => hg.own p (by repeat first | exact hp | exact List.mem_append_left _ hp | apply List.mem_append_right | apply mT))) (exB_R (hg.own (x2, _) (by repeat first | exact mH | apply mT | apply List.mem_append_right))) n h)) rfl ?_)
 rintro _ _ ⟨_, G1, rfl, hfr1, rfl, sv1, rfl, hgr1⟩
 obtain ⟨sa1, sc1, rfl⟩ := Grow.form hgr1
 try simp only [List.cons_append, List.nil_append, List.append_nil]
 refine ⟨.nil, ?_⟩
 refine Dm rfl rfl rfl rfl ?_
 iterate 2 refine Dp rfl rfl (p_ext rfl rfl rfl) ?_
 iterate 2 refine Dp rfl rfl (p_assign rfl rfl) ?_
 refine D_then (kp [0, 2, 7, 11, 12] rfl) ?_
 refine V_seq ?_
 refine Vs rfl ?_
 refine Lm rfl rfl rfl ?_
 refine Lp rfl (p_neq rfl rfl rfl) ?_
 refine Lm rfl rfl rfl ?_
 iterate 6 refine L_no rfl rfl rfl (decide_eq_true h) ?_
 refine Lp rfl (p_pick_t rfl rfl (decide_eq_true h) rfl) ?_
 refine L_then (kp [0, 7, 11, 12, 88] rfl) ?_
 refine V_cond_t rfl rfl ?_
 refine Vs rfl ?_
 refine Lm rfl rfl rfl ?_
 refine Lp rfl (p_eql rfl rfl rfl) ?_
 refine Lm rfl rfl rfl ?_
 refine L_yes rfl rfl rfl (decide_eq_true h3) (X_wr (w_callP rfl rfl rfl (fun w hg => lAwake_c w)) ?_)
 rintro _ _ ⟨rfl, rfl⟩
 refine Lp rfl (p_pick_t rfl rfl (decide_eq_true h3) rfl) ?_
 refine La rfl rfl rfl ?_
 refine L_then (kp [6] rfl) ?_
 refine V_ret (then_r ?_)
 refine Leave.nil (.tmp rfl .nil) ?_
 rfl
set_option maxHeartbeats 8000000 in
theorem flightVacuumO (ps : List (Int × Int)) (y n g : Int) (pv : Value) (hy : 0 ≤ y ∧ y ≤ 255) (hgm : y.tmod 201 = g) (hg0 : 0 ≤ g ∧ g ≤ 200) (hn : 0 ≤ n ∧ n ≤ 255) (hb : ∀ x ∈ ps, (0 ≤ x.1 ∧ x.1 ≤ 65535) ∧ 0 ≤ x.2 ∧ x.2 ≤ 65535) (w : World) (hp : SliceR w 2 pv (ps.map pwC)) (hl : 1 ≤ ps.length ∧ ps.length ≤ 12) (h : flyE (vacV ⟨#[118]⟩ g ps) upD exB n = 0) : FnP Try.prog 5 [pv, .int .u8 y, .int .u8 n] w (.bool true) := by
 obtain ⟨pa, pc, rfl, hpc, hpe⟩ := hp.ex
 simp only [List.length_map] at hpc ⊢
 have ha : askedF (vacV ⟨#[118]⟩ g ps) upD exB = 0 := vac_asked (by decide) hg0 (by omega) hb
 obtain ⟨_, hn9, hfar⟩ := fly_ok h
 have hrw : rowS (Fl.stT (vacV ⟨#[118]⟩ g ps) upD exB) n.toNat = rowS (Fl.wantS g ps) n.toNat := rowS_congr (fun j _ => vac_st (by omega) (fun x hx => (hb x hx).2.1) j)
 refine fn_pure Try.func5 rfl (by kernel_rfl) Try.ntmps5 Try.results5 rfl ?_
 refine Vs rfl ?_
 refine La rfl rfl rfl ?_
 refine L_then (kp [0, 1, 2] rfl) ?_
 refine V_seq ?_
 refine Vs rfl ?_
 refine Lm rfl rfl rfl ?_
 refine Lp rfl (p_len isl64 rfl rfl) ?_
 refine Lp rfl (p_eql rfl rfl rfl) ?_
 refine Lm rfl rfl rfl ?_
 refine L_cases (d := 22) rfl ?_ ?_
 ·intro g1; have g1' := g1; try simp only [td] at g1'
  exfalso; omega
 intro g1; have g1' := g1; try simp only [td] at g1'
 refine L_yes rfl rfl rfl g1 (X_p (p_move rfl rfl) ?_)
 refine L_yes rfl rfl rfl g1 (X_p (p_len isl64 rfl rfl) ?_)
 refine L_yes rfl rfl rfl g1 (X_p (p_gtr rfl rfl rfl) ?_)
 refine Lp rfl (p_pick_f rfl rfl g1 rfl) ?_
 refine L_then (kp [0, 1, 2, 26] rfl) ?_
 refine V_cond rfl ?_ ?_
 ·intro c1; try simp only [td] at c1
  exfalso; omega
 intro c1; try simp only [td] at c1
 refine V_skip (then_n ?_)
 refine Vs rfl ?_
 refine Lm rfl rfl rfl ?_
 refine Lp rfl (p_convI un5 un3 rfl rfl (by unfold InI; omega)) ?_
 refine Lp rfl (p_rem rfl rfl rfl (by first | decide | omega)) ?_
 rw [hgm]
 refine La rfl rfl rfl ?_
 refine L_then (kp [0, 2, 7] rfl) ?_
 refine Vs rfl ?_
 iterate 2 refine Lm rfl rfl rfl ?_
 refine Lc rfl rfl rfl rfl (fun w hg => lspan_c _ _ w) ?_
 refine Lp rfl (p_build (r := [_, _, _, _, _, _]) pl28 zr28 rfl rfl rfl) ?_
 refine Lw rfl (w_alloc zr28 rfl) ?_
 rintro _ _ ⟨b1, hb1, rfl, rfl⟩
 refine Ls (cs' := [_, _, _, _, _, _]) rfl sz28 rfl rfl rfl rfl rfl rfl rfl ?_
 refine L_then (kp [0, 2, 7, 8] rfl) ?_
 refine V_seq ?_
 refine Vs rfl ?_
 refine La rfl rfl rfl ?_
 refine L_then (kp [0, 2, 7, 8, 9] rfl) ?_
 refine V_block ?_
 refine V_loop1 (γ := Int × Value × Heap) (kp [0, 2, 7, 8] rfl) (fun (k, sv, GP) => [(9, .int .i64 k)]) (fun (k, sv, GP) => (b1, .cells #[.string ⟨#[118]⟩, .int .i64 g, .int .i64 g, .slice none 0 0, sv, .slice none 0 0] 28) :: GP) (fun (k, sv, GP) => 0 ≤ k ∧ k ≤ ps.length ∧ Grow 46 13 sv k.toNat (phL ((ps.map vacP).take k.toNat)) GP) (fun (k, sv, GP) => (ps.length - k).toNat) ((0, .slice none 0 0, [])) (.cons rfl (.nil _)) (by repeat (first | exact List.nil_sublist _ | exact List.Sublist.refl _ | apply List.Sublist.cons_cons | apply List.Sublist.cons)) (⟨by omega, by omega, .nil⟩) ?_
 rintro ⟨k, sv, GP⟩ hi
 obtain ⟨hk0, hk1, hgp⟩ := hi
 dsimp only at hk0 hk1 hgp ⊢
 obtain ⟨sap, scp, rfl⟩ := Grow.form hgp
 refine V_seq ?_
 refine Vs rfl ?_
 iterate 2 refine Lm rfl rfl rfl ?_
 refine Lp rfl (p_len isl64 rfl rfl) ?_
 refine Lp rfl (p_lss rfl rfl rfl) ?_
 refine L_then (kp [0, 2, 7, 8, 9, 38] rfl) ?_
 refine V_cond rfl ?_ ?_
 ·intro c2; try simp only [td] at c2
  obtain ⟨tb, etb, hc0⟩ := hpe k.toNat _ (getD_cells (d := ((0 : Int), (0 : Int))) (by omega))
  subst etb
  have hc : cellsAt w (tb.add (k.toNat * 2)) (pwC (pwAt ps k.toNat)) := hc0
  have hpb := pw_at hb (i := k.toNat) (by omega)
  refine V_skip (then_n ?_)
  refine V_seq ?_
  refine V_block ?_
  refine Vs rfl ?_
  iterate 2 refine Lm rfl rfl rfl ?_
  refine Lp rfl (p_idx es64 rfl rfl rfl (by omega) (by omega)) ?_
  refine Lp rfl (p_idxa ar67 rfl rfl rfl (by omega) (by omega)) ?_
  refine Lr rfl (r_loadB ag66 rfl rfl (hc 1 _ rfl) List.not_mem_nil) ?_
  refine Lp rfl (p_convI un66 un3 rfl rfl (by unfold InI; omega)) ?_
  first | refine Lp rfl (p_add' rfl rfl rfl (by unfold InI; omega)) ?_ | refine Lp rfl (p_add rfl rfl rfl) ?_
  refine La rfl rfl rfl ?_
  refine L_then (kp [0, 2, 7, 8, 9, 10] rfl) ?_
  refine V_draw (.rd 0 (.rd 1 (.rd 2 (.rd 3 (.rd 4 (.rd 5 (.rd 6 (.rd 7 (.rd 8 (.rd 9 (.rd 10 (.rd 11 (.rd 12 (.rd 13 (.rd 15 (.rd 16 (.wr 14 [16, 15, 12, 11, 10, 9, 8, 6, 5, 4, 3, 2, 1, 0] (.wr 17 [13, 12, 11, 10, 9, 8, 7, 6, 5, 4, 3, 2, 1, 0] (.rd 18 (.wr 19 [16, 15, 13, 12, 11, 10, 9, 8, 7, 6, 5, 4, 3, 2, 1, 0] (.wr 20 [18, 16, 15, 13, 12, 11, 10, 9, 8, 7, 6, 5, 4, 3, 2, 0] (.rd 21 (.wr 22 [] .done))))))))))))))))))))))) mixed (by kernel_rfl) rfl ?_
  refine Dp rfl rfl (p_fieldo fo28_3 rfl rfl) ?_
  refine Dr rfl rfl (rl ag25 rfl rfl rfl) ?_
  iterate 2 refine Dm rfl rfl rfl rfl ?_
  refine Dp rfl rfl (p_idx es64 rfl rfl rfl (by omega) (by omega)) ?_
  refine Dp rfl rfl (p_idxa ar67 rfl rfl rfl (by omega) (by omega)) ?_
  refine Dr rfl rfl (r_loadB ag66 rfl rfl (hc 0 _ rfl) List.not_mem_nil) ?_
  refine Dp rfl rfl (p_convI un66 un3 rfl rfl (by unfold InI; omega)) ?_
  iterate 2 refine Dm rfl rfl rfl rfl ?_
  refine Dp rfl rfl (p_idx es64 rfl rfl rfl (by omega) (by omega)) ?_
  refine Dp rfl rfl (p_idxa ar67 rfl rfl rfl (by omega) (by omega)) ?_
  refine Dr rfl rfl (r_loadB ag66 rfl rfl (hc 0 _ rfl) List.not_mem_nil) ?_
  refine Dp rfl rfl (p_convI un66 un3 rfl rfl (by unfold InI; omega)) ?_
  iterate 2 refine Dm rfl rfl rfl rfl ?_
  refine D_wr (.go (E' := [(12, _), (6, _), (1, _)]) rfl (.plain rfl) (w_callP rfl rfl rfl (fun w hg => lspan_c _ _ w)) rfl ?_)
  rintro _ _ ⟨rfl, rfl⟩
  refine ⟨(.cons rfl (.plain rfl) (r_loadB ag66 rfl rfl (hc 0 _ rfl) List.not_mem_nil) (.cons rfl (.plain rfl) (r_loadB ag66 rfl rfl (hc 0 _ rfl) List.not_mem_nil) (.cons rfl (.plain rfl) (rl ag25 rfl rfl rfl) .nil))), ?_⟩
  refine D_wr (.go (E' := [(12, _), (6, _), (1, _)]) rfl (.plain rfl) (w_callP rfl rfl rfl (fun w hg => lspan_c _ _ w)) rfl ?_)
  rintro _ _ ⟨rfl, rfl⟩
  refine ⟨(.cons rfl (.plain rfl) (r_loadB ag66 rfl rfl (hc 0 _ rfl) List.not_mem_nil) (.cons rfl (.plain rfl) (r_loadB ag66 rfl rfl (hc 0 _ rfl) List.not_mem_nil) (.cons rfl (.plain rfl) (rl ag25 rfl rfl rfl) .nil))), ?_⟩
  refine Dp rfl rfl (p_build (r := [_, _, _, _, _, _, _, _, _, _, _, _, _]) pl46 zr46 rfl rfl rfl) ?_
  refine D_wr (.go (E' := [(12, _), (6, _), (1, _)]) rfl (.plain rfl) (w_slice (r := [_, _, _, _, _, _, _, _, _, _, _, _, _]) un25 sz46 zr46 rfl (by decide) rfl (by decide) rfl rfl) rfl ?_)
  rintro _ _ ⟨b2, hb2, rfl, rfl⟩
  refine ⟨(.cons rfl (.plain rfl) (r_loadB ag66 rfl rfl (hc 0 _ rfl) List.not_mem_nil) (.cons rfl (.plain rfl) (r_loadB ag66 rfl rfl (hc 0 _ rfl) List.not_mem_nil) (.cons rfl (.plain rfl) (rl ag25 rfl rfl rfl) .nil))), ?_⟩
  refine D_wr (.go (E' := [(12, _), (6, _)]) rfl (.plain rfl) (w_app (pre := [_, _]) (G := GP) (post := []) ap25 rfl rfl rfl hgp (by rw [List.append_nil]; rfl) rfl (news_own (by repeat first | exact mH | apply mT | apply List.mem_append_right)) (by intro u hu; simp only [List.mem_cons, List.not_mem_nil, or_false] at hu; rcases hu with rfl | rfl | rfl | rfl | rfl | rfl | rfl | rfl | rfl | rfl | rfl | rfl | rfl <;> rfl) (by omega) (by simp only [maxLen]; omega)) rfl ?_)
  rintro _ _ ⟨GP2a, GP2c, GP2, rfl, rfl, hgp2⟩
  try simp only [List.cons_append, List.nil_append, List.append_nil]
  refine ⟨(.cons rfl (.plain rfl) (r_loadB ag66 rfl rfl (hc 0 _ rfl) List.not_mem_nil) (.cons rfl (.plain rfl) (r_loadB ag66 rfl rfl (hc 0 _ rfl) List.not_mem_nil) .nil)), ?_⟩
  refine Dp rfl rfl (p_fieldo fo28_3 rfl rfl) ?_
  refine D_wr (.go (E' := []) rfl (.plain rfl) (ws (cs' := [_, _, _, _, _, _]) sz25 rfl rfl rfl rfl rfl rfl rfl) rfl ?_)
  rintro _ _ ⟨rfl, rfl⟩
  refine ⟨.nil, ?_⟩
  refine D_keep (kp [0, 2, 7, 8, 9] rfl) (blk_n (then_n ?_))
  refine V_region rfl ?_
  refine Lm rfl rfl rfl ?_
  first | refine Lp rfl (p_add' rfl rfl rfl (by unfold InI; omega)) ?_ | refine Lp rfl (p_add rfl rfl rfl) ?_
  refine La rfl rfl rfl ?_
  refine L_keep (kp [0, 2, 7, 8, 9] rfl) (then_n ?_)
  refine ⟨(k + 1, _, GP2), ?_, ?_, (.cons rfl (.cons rfl (.cons rfl (.cons rfl (.cons rfl (.nil _)))))), (by repeat (first | exact List.nil_sublist _ | exact List.Sublist.refl _ | apply List.Sublist.cons_cons | apply List.Sublist.cons | apply List.sublist_append_of_sublist_right)), rfl⟩
  ·have ek : (k + 1).toNat = k.toNat + 1 := by omega
   refine ⟨by omega, by omega, ?_⟩
   have ex : (ps.map vacP).getD k.toNat phZ = vacP (pwAt ps k.toNat) := getD_map vacP (0, 0) phZ ps (by omega)
   rw [ek, take_succ_getD phZ (ps.map vacP) (by rw [List.length_map]; omega), phL_s, ex]; exact hgp2
  dsimp only; omega
 intro c2; try simp only [td] at c2
 have ek : k.toNat = ps.length := by omega
 rw [List.take_of_length_le (by rw [List.length_map]; omega)] at hgp
 refine V_exit (then_e (then_e (blk_e rfl (then_n ?_))))
 refine V_seq (V_draw (.rd 0 (.rd 3 (.rd 4 (.wr 1 [4, 3, 0] (.wr 2 [4, 3, 0] (.wr 5 [3] (.rd 6 (.rd 7 (.rd 8 (.rd 9 (.rd 10 .done))))))))))) mixed (by kernel_rfl) rfl ?_)
 refine Dr rfl rfl (rlA (vs := [_, _, _, _, _, _]) ag28 sz28 rfl rfl rfl) ?_
 refine Dm rfl rfl rfl rfl ?_
 refine Dp rfl rfl (p_convI un5 un3 rfl rfl (by unfold InI; omega)) ?_
 refine D_wr (.go (E' := [(0, _)]) rfl (.plain rfl) (w_callP rfl rfl rfl (fun w hg => lUp_c w)) rfl ?_)
 rintro _ _ ⟨rfl, rfl⟩
 refine ⟨(.cons rfl (.plain rfl) (rlA (vs := [_, _, _, _, _, _]) ag28 sz28 rfl rfl rfl) .nil), ?_⟩
 refine D_wr (.go (E' := [(0, _)]) rfl (.plain rfl) (w_callN rfl rfl rfl (fun w hg => lBands_c w)) rfl ?_)
 rintro _ _ ⟨_, rfl, _, x2, rfl, rfl⟩
 refine ⟨(.cons rfl (.plain rfl) (rlA (vs := [_, _, _, _, _, _]) ag28 sz28 rfl rfl rfl) .nil), ?_⟩
 refine D_wr (.go (E' := []) rfl (.plain rfl) (w_callG (pre := [_, _]) rfl rfl rfl rfl (fun w hg => gFly_c (vacV ⟨#[118]⟩ g ps) upD exB _ _ _ _ w (vac_R hgp ek (by omega) (fun p hp => hg.own p (by repeat first | exact hp | exact List.mem_append_left _ hp | apply List.mem_append_right | apply mT))) (exB_R (hg.own (x2, _) (by repeat first | exact mH | apply mT | apply List.mem_append_right))) n h)) rfl ?_)
 rintro _ _ ⟨_, G1, rfl, hfr1, rfl, sv1, rfl, hgr1⟩
 rw [hrw] at hgr1
 obtain ⟨sa1, sc1, rfl⟩ := Grow.form hgr1
 obtain ⟨gb1, cur1, rfl, rfl, hcur1, _, _⟩ := Grow.form2 hgr1 (by omega)
 try simp only [List.cons_append, List.nil_append, List.append_nil]
 refine ⟨.nil, ?_⟩
 refine Dm rfl rfl rfl rfl ?_
 iterate 2 refine Dp rfl rfl (p_ext rfl rfl rfl) ?_
 iterate 2 refine Dp rfl rfl (p_assign rfl rfl) ?_
 refine D_then (kp [0, 2, 7, 11, 12] rfl) ?_
 refine V_seq ?_
 refine Vs rfl ?_
 refine Lm rfl rfl rfl ?_
 refine Lp rfl (p_neq rfl rfl rfl) ?_
 refine Lm rfl rfl rfl ?_
 refine L_yes rfl rfl rfl rfl (X_p (p_move rfl rfl) ?_)
 refine L_yes rfl rfl rfl rfl (X_p (p_len isl40 rfl rfl) ?_)
 refine L_yes rfl rfl rfl rfl (X_p (p_move rfl rfl) ?_)
 refine L_yes rfl rfl rfl rfl (X_p (p_convI un5 un3 rfl rfl (by unfold InI; omega)) ?_)
 first | refine L_yes rfl rfl rfl rfl (X_p (p_add' rfl rfl rfl (by unfold InI; omega)) ?_) | refine L_yes rfl rfl rfl rfl (X_p (p_add rfl rfl rfl) ?_)
 refine L_yes rfl rfl rfl rfl (X_p (p_neq rfl rfl rfl) ?_)
 refine Lp rfl (p_pick_f rfl rfl rfl rfl) ?_
 refine L_then (kp [0, 7, 11, 12, 88] rfl) ?_
 refine V_cond_f rfl (decide_eq_false (by omega)) ?_
 refine V_skip (then_n ?_)
 refine Vs rfl ?_
 refine Lp rfl (p_build (r := [_, _, _, _, _, _, _, _, _, _, _, _]) pl54 zr54 rfl rfl rfl) ?_
 refine Lw rfl (w_alloc zr54 rfl) ?_
 rintro _ _ ⟨b4, hb4, rfl, rfl⟩
 refine Ls (cs' := [_, _, _, _, _, _, _, _, _, _, _, _]) rfl sz54 rfl rfl rfl rfl rfl rfl rfl ?_
 refine L_then (kp [0, 7, 11, 13] rfl) ?_
 refine V_seq ?_
 refine Vs rfl ?_
 refine La rfl rfl rfl ?_
 refine L_then (kp [0, 7, 11, 13, 14] rfl) ?_
 refine V_block ?_
 refine V_loop1 (γ := Int × Span × Span) (kp [0, 7, 11, 13] rfl) (fun (k, A, B) => [(14, .int .i64 k)]) (fun (k, A, B) => (b4, .cells #[.int .i64 0, .int .i64 0, .int .i64 0, .int .i64 0, .int .i64 A.lo, .int .i64 A.hi, .int .i64 0, .int .i64 0, .int .i64 0, .int .i64 0, .int .i64 B.lo, .int .i64 B.hi] 54) :: [(gb1, .cells cur1 54)]) (fun (k, A, B) => 0 ≤ k ∧ k ≤ n + 1 ∧ (A, B) = wantN g ps k.toNat) (fun (k, A, B) => (n + 1 - k).toNat) ((0, Fl.spZ, Fl.spZ)) (.cons rfl (.nil _)) (by repeat (first | exact List.nil_sublist _ | exact List.Sublist.refl _ | apply List.Sublist.cons_cons | apply List.Sublist.cons)) (⟨by omega, by omega, rfl⟩) ?_
 rintro ⟨k, A, B⟩ hi
 obtain ⟨hk0, hk1, hW⟩ := hi
 dsimp only at hk0 hk1 hW ⊢
 have hsW : Fl.wantS g ps k.toNat = (⟨⟨Fl.spZ, Fl.spZ, A⟩, ⟨Fl.spZ, Fl.spZ, B⟩⟩ : St) := by unfold Fl.wantS; rw [← hW]
 refine V_seq ?_
 refine Vs rfl ?_
 iterate 2 refine Lm rfl rfl rfl ?_
 refine Lp rfl (p_len isl40 rfl rfl) ?_
 refine Lp rfl (p_lss rfl rfl rfl) ?_
 refine L_then (kp [0, 7, 11, 13, 14, 98] rfl) ?_
 refine V_cond rfl ?_ ?_
 ·intro c3; try simp only [td] at c3
  have hfk := far_false.1 (hfar k.toNat (by omega))
  rw [vac_st (by omega) (fun x hx => (hb x hx).2.1), hsW] at hfk
  obtain ⟨⟨_, _, ⟨z1, z2, z3⟩⟩, _, _, ⟨u1, u2, u3⟩⟩ := hfk
  dsimp only at z1 z2 z3 u1 u2 u3
  refine V_skip (then_n ?_)
  refine V_seq ?_
  refine V_block ?_
  refine V_seq ?_
  refine V_seq (V_draw (.rd 0 (.rd 1 (.rd 2 (.rd 3 (.rd 4 (.rd 5 .done)))))) mixed (by kernel_rfl) rfl ?_)
  iterate 2 refine Dm rfl rfl rfl rfl ?_
  refine Dp rfl rfl (p_idxo es40 rfl rfl rfl (by omega) (by omega)) ?_
  refine Dr rfl rfl (r_loadA (vs := St.cells (⟨⟨Fl.spZ, Fl.spZ, A⟩, ⟨Fl.spZ, Fl.spZ, B⟩⟩ : St)) ag54 sz54 rfl rfl (by repeat first | exact mH | apply mT | apply List.mem_append_right) (by rw [← hsW]; exact row_st (f := Fl.wantS g ps) hcur1 rfl (by omega))) ?_
  refine Dr rfl rfl (rlA (vs := [_, _, _, _, _, _, _, _, _, _, _, _]) ag54 sz54 rfl rfl rfl) ?_
  refine Dp rfl rfl (p_neS lv54 ag54 eg54 rfl rfl rfl rfl rfl) ?_
  refine D_then (kp [0, 7, 11, 13, 14, 106] rfl) ?_
  refine V_cond_f rfl (st_ne (⟨⟨Fl.spZ, Fl.spZ, A⟩, ⟨Fl.spZ, Fl.spZ, B⟩⟩ : St)) ?_
  refine V_skip (then_n ?_)
  refine Vs rfl ?_
  iterate 2 refine La rfl rfl rfl ?_
  refine L_then (kp [0, 7, 11, 13, 14, 15, 16] rfl) ?_
  refine V_seq ?_
  refine Vs rfl ?_
  iterate 2 refine Lm rfl rfl rfl ?_
  refine Lp rfl (p_len isl64 rfl rfl) ?_
  refine Lp rfl (p_lss rfl rfl rfl) ?_
  refine L_then (kp [0, 7, 11, 13, 14, 15, 16, 110] rfl) ?_
  refine V_cond rfl ?_ ?_
  ·intro c4; try simp only [td] at c4
   obtain ⟨tb, etb, hc0⟩ := hpe k.toNat _ (getD_cells (d := ((0 : Int), (0 : Int))) (by omega))
   subst etb
   have hc : cellsAt w (tb.add (k.toNat * 2)) (pwC (pwAt ps k.toNat)) := hc0
   have hpb := pw_at hb (i := k.toNat) (by omega)
   obtain ⟨hv1, hv2⟩ := vac_div (p := (pwAt ps k.toNat).1) (m := (pwAt ps k.toNat).2) hpb.1 hpb.2
   refine V_seq (V_draw (.rd 0 (.rd 1 (.rd 2 (.rd 3 (.rd 4 (.rd 5 (.rd 6 (.rd 7 (.rd 8 (.rd 9 (.rd 10 (.rd 11 (.rd 12 (.rd 13 (.rd 14 (.rd 15 .done)))))))))))))))) mixed (by kernel_rfl) rfl ?_)
   iterate 2 refine Dm rfl rfl rfl rfl ?_
   refine Dp rfl rfl (p_idx es64 rfl rfl rfl (by omega) (by omega)) ?_
   refine Dp rfl rfl (p_idxa ar67 rfl rfl rfl (by omega) (by omega)) ?_
   refine Dr rfl rfl (r_loadB ag66 rfl rfl (hc 0 _ rfl) List.not_mem_nil) ?_
   refine Dp rfl rfl (p_convI un66 un3 rfl rfl (by unfold InI; omega)) ?_
   first | refine Dp rfl rfl (p_mul' rfl rfl rfl (by unfold InI; omega)) ?_ | refine Dp rfl rfl (p_mul rfl rfl rfl) ?_
   iterate 2 refine Dm rfl rfl rfl rfl ?_
   refine Dp rfl rfl (p_idx es64 rfl rfl rfl (by omega) (by omega)) ?_
   refine Dp rfl rfl (p_idxa ar67 rfl rfl rfl (by omega) (by omega)) ?_
   refine Dr rfl rfl (r_loadB ag66 rfl rfl (hc 1 _ rfl) List.not_mem_nil) ?_
   refine Dp rfl rfl (p_convI un66 un3 rfl rfl (by unfold InI; omega)) ?_
   first | refine Dp rfl rfl (p_add' rfl rfl rfl (by unfold InI; omega)) ?_ | refine Dp rfl rfl (p_add rfl rfl rfl) ?_
   iterate 2 refine Dp rfl rfl (p_assign rfl rfl) ?_
   refine D_then (kp [0, 7, 11, 13, 14, 17, 18] rfl) ?_
   refine V_draw (.rd 0 (.rd 1 (.rd 2 (.rd 3 (.rd 4 (.rd 5 (.rd 6 (.rd 7 (.rd 8 (.rd 9 (.rd 10 .done))))))))))) mixed (by kernel_rfl) rfl ?_
   iterate 2 refine Dm rfl rfl rfl rfl ?_
   refine Dp rfl rfl (p_quo' rfl rfl rfl (by first | decide | omega) (by rw [hv1.1]; unfold InI; omega)) ?_
   iterate 2 refine Dm rfl rfl rfl rfl ?_
   first | refine Dp rfl rfl (p_add' rfl rfl rfl (by unfold InI; omega)) ?_ | refine Dp rfl rfl (p_add rfl rfl rfl) ?_
   first | refine Dp rfl rfl (p_sub' rfl rfl rfl (by unfold InI; omega)) ?_ | refine Dp rfl rfl (p_sub rfl rfl rfl) ?_
   refine Dm rfl rfl rfl rfl ?_
   refine Dp rfl rfl (p_quo' rfl rfl rfl (by first | decide | omega) (by rw [hv2.1]; unfold InI; omega)) ?_
   iterate 2 refine Dp rfl rfl (p_assign rfl rfl) ?_
   refine D_then (kp [0, 7, 11, 13, 14, 15, 16] rfl) ?_
   refine Vs rfl ?_
   refine Lp rfl (p_fieldo fo54_5 rfl rfl) ?_
   refine Lp rfl (p_fieldo fo23_0 rfl rfl) ?_
   refine Lr rfl (rl ag3 rfl rfl rfl) ?_
   refine Lm rfl rfl rfl ?_
   first | refine Lp rfl (p_add' rfl rfl rfl (by unfold InI; omega)) ?_ | refine Lp rfl (p_add rfl rfl rfl) ?_
   refine Lm rfl rfl rfl ?_
   first | refine Lp rfl (p_sub' rfl rfl rfl (by unfold InI; omega)) ?_ | refine Lp rfl (p_sub rfl rfl rfl) ?_
   refine Lp rfl (p_fieldo fo54_5 rfl rfl) ?_
   refine Lp rfl (p_fieldo fo23_1 rfl rfl) ?_
   refine Lr rfl (rl ag3 rfl rfl rfl) ?_
   refine Lm rfl rfl rfl ?_
   first | refine Lp rfl (p_add' rfl rfl rfl (by unfold InI; omega)) ?_ | refine Lp rfl (p_add rfl rfl rfl) ?_
   refine Lm rfl rfl rfl ?_
   first | refine Lp rfl (p_sub' rfl rfl rfl (by unfold InI; omega)) ?_ | refine Lp rfl (p_sub rfl rfl rfl) ?_
   refine Lc rfl rfl rfl rfl (fun w hg => lspan_c _ _ w) ?_
   try dsimp only
   refine Lp rfl (p_fieldo fo54_5 rfl rfl) ?_
   refine Ls (cs' := [_, _, _, _, _, _, _, _, _, _, _, _]) rfl sz23 rfl rfl rfl rfl rfl rfl rfl ?_
   refine L_then (kp [0, 7, 11, 13, 14] rfl) ?_
   refine V_region rfl ?_
   refine Lp rfl (p_fieldo fo54_2 rfl rfl) ?_
   refine Lp rfl (p_fieldo fo23_0 rfl rfl) ?_
   refine Lr rfl (rl ag3 rfl rfl rfl) ?_
   refine Lp rfl (p_fieldo fo54_5 rfl rfl) ?_
   refine Lp rfl (p_fieldo fo23_0 rfl rfl) ?_
   refine Lr rfl (rl ag3 rfl rfl rfl) ?_
   first | refine Lp rfl (p_add' rfl rfl rfl (by unfold InI; omega)) ?_ | refine Lp rfl (p_add rfl rfl rfl) ?_
   refine Lp rfl (p_fieldo fo54_2 rfl rfl) ?_
   refine Lp rfl (p_fieldo fo23_1 rfl rfl) ?_
   refine Lr rfl (rl ag3 rfl rfl rfl) ?_
   refine Lp rfl (p_fieldo fo54_5 rfl rfl) ?_
   refine Lp rfl (p_fieldo fo23_1 rfl rfl) ?_
   refine Lr rfl (rl ag3 rfl rfl rfl) ?_
   first | refine Lp rfl (p_add' rfl rfl rfl (by unfold InI; omega)) ?_ | refine Lp rfl (p_add rfl rfl rfl) ?_
   refine Lc rfl rfl rfl rfl (fun w hg => lspan_c _ _ w) ?_
   refine Lp rfl (p_fieldo fo54_2 rfl rfl) ?_
   refine Ls (cs' := [_, _, _, _, _, _, _, _, _, _, _, _]) rfl sz23 rfl rfl rfl rfl rfl rfl rfl ?_
   refine L_keep (kp [0, 7, 11, 13, 14] rfl) (blk_n (then_n ?_))
   refine V_region rfl ?_
   refine Lm rfl rfl rfl ?_
   first | refine Lp rfl (p_add' rfl rfl rfl (by unfold InI; omega)) ?_ | refine Lp rfl (p_add rfl rfl rfl) ?_
   refine La rfl rfl rfl ?_
   refine L_keep (kp [0, 7, 11, 13, 14] rfl) (then_n ?_)
   refine ⟨(k + 1, ⟨A.lo + (B.lo + ((10 * (pwAt ps k.toNat).1).tdiv (1 + (pwAt ps k.toNat).2)) - g), A.hi + (B.hi + ((10 * (pwAt ps k.toNat).1 + (1 + (pwAt ps k.toNat).2) - 1).tdiv (1 + (pwAt ps k.toNat).2)) - g)⟩, ⟨B.lo + ((10 * (pwAt ps k.toNat).1).tdiv (1 + (pwAt ps k.toNat).2)) - g, B.hi + ((10 * (pwAt ps k.toNat).1 + (1 + (pwAt ps k.toNat).2) - 1).tdiv (1 + (pwAt ps k.toNat).2)) - g⟩), ?_, ?_, (.cons rfl (.cons rfl (.cons rfl (.cons rfl (.cons rfl (.nil _)))))), (by repeat (first | exact List.nil_sublist _ | exact List.Sublist.refl _ | apply List.Sublist.cons_cons | apply List.Sublist.cons | apply List.sublist_append_of_sublist_right)), rfl⟩
   ·have ek : (k + 1).toNat = k.toNat + 1 := by omega
    refine ⟨by omega, by omega, ?_⟩
    dsimp only
    rw [ek, want_s hW]
    unfold vacLo vacHi
    rw [if_pos (by omega), if_pos (by omega), hv1.1, hv2.1]
   dsimp only; omega
  intro c4; try simp only [td] at c4
  refine V_skip (then_n ?_)
  refine Vs rfl ?_
  refine Lp rfl (p_fieldo fo54_5 rfl rfl) ?_
  refine Lp rfl (p_fieldo fo23_0 rfl rfl) ?_
  refine Lr rfl (rl ag3 rfl rfl rfl) ?_
  refine Lm rfl rfl rfl ?_
  first | refine Lp rfl (p_add' rfl rfl rfl (by unfold InI; omega)) ?_ | refine Lp rfl (p_add rfl rfl rfl) ?_
  refine Lm rfl rfl rfl ?_
  first | refine Lp rfl (p_sub' rfl rfl rfl (by unfold InI; omega)) ?_ | refine Lp rfl (p_sub rfl rfl rfl) ?_
  refine Lp rfl (p_fieldo fo54_5 rfl rfl) ?_
  refine Lp rfl (p_fieldo fo23_1 rfl rfl) ?_
  refine Lr rfl (rl ag3 rfl rfl rfl) ?_
  refine Lm rfl rfl rfl ?_
  first | refine Lp rfl (p_add' rfl rfl rfl (by unfold InI; omega)) ?_ | refine Lp rfl (p_add rfl rfl rfl) ?_
  refine Lm rfl rfl rfl ?_
  first | refine Lp rfl (p_sub' rfl rfl rfl (by unfold InI; omega)) ?_ | refine Lp rfl (p_sub rfl rfl rfl) ?_
  refine Lc rfl rfl rfl rfl (fun w hg => lspan_c _ _ w) ?_
  try dsimp only
  refine Lp rfl (p_fieldo fo54_5 rfl rfl) ?_
  refine Ls (cs' := [_, _, _, _, _, _, _, _, _, _, _, _]) rfl sz23 rfl rfl rfl rfl rfl rfl rfl ?_
  refine L_then (kp [0, 7, 11, 13, 14] rfl) ?_
  refine V_region rfl ?_
  refine Lp rfl (p_fieldo fo54_2 rfl rfl) ?_
  refine Lp rfl (p_fieldo fo23_0 rfl rfl) ?_
  refine Lr rfl (rl ag3 rfl rfl rfl) ?_
  refine Lp rfl (p_fieldo fo54_5 rfl rfl) ?_
  refine Lp rfl (p_fieldo fo23_0 rfl rfl) ?_
  refine Lr rfl (rl ag3 rfl rfl rfl) ?_
  first | refine Lp rfl (p_add' rfl rfl rfl (by unfold InI; omega)) ?_ | refine Lp rfl (p_add rfl rfl rfl) ?_
  refine Lp rfl (p_fieldo fo54_2 rfl rfl) ?_
  refine Lp rfl (p_fieldo fo23_1 rfl rfl) ?_
  refine Lr rfl (rl ag3 rfl rfl rfl) ?_
  refine Lp rfl (p_fieldo fo54_5 rfl rfl) ?_
  refine Lp rfl (p_fieldo fo23_1 rfl rfl) ?_
  refine Lr rfl (rl ag3 rfl rfl rfl) ?_
  first | refine Lp rfl (p_add' rfl rfl rfl (by unfold InI; omega)) ?_ | refine Lp rfl (p_add rfl rfl rfl) ?_
  refine Lc rfl rfl rfl rfl (fun w hg => lspan_c _ _ w) ?_
  refine Lp rfl (p_fieldo fo54_2 rfl rfl) ?_
  refine Ls (cs' := [_, _, _, _, _, _, _, _, _, _, _, _]) rfl sz23 rfl rfl rfl rfl rfl rfl rfl ?_
  refine L_keep (kp [0, 7, 11, 13, 14] rfl) (blk_n (then_n ?_))
  refine V_region rfl ?_
  refine Lm rfl rfl rfl ?_
  first | refine Lp rfl (p_add' rfl rfl rfl (by unfold InI; omega)) ?_ | refine Lp rfl (p_add rfl rfl rfl) ?_
  refine La rfl rfl rfl ?_
  refine L_keep (kp [0, 7, 11, 13, 14] rfl) (then_n ?_)
  refine ⟨(k + 1, ⟨A.lo + (B.lo + 0 - g), A.hi + (B.hi + 0 - g)⟩, ⟨B.lo + 0 - g, B.hi + 0 - g⟩), ?_, ?_, (.cons rfl (.cons rfl (.cons rfl (.cons rfl (.cons rfl (.nil _)))))), (by repeat (first | exact List.nil_sublist _ | exact List.Sublist.refl _ | apply List.Sublist.cons_cons | apply List.Sublist.cons | apply List.sublist_append_of_sublist_right)), rfl⟩
  ·have ek : (k + 1).toNat = k.toNat + 1 := by omega
   refine ⟨by omega, by omega, ?_⟩
   dsimp only
   rw [ek, want_s hW]
   unfold vacLo vacHi
   rw [if_neg (by omega), if_neg (by omega)]
  dsimp only; omega
 intro c3; try simp only [td] at c3
 refine V_exit (then_e (then_e (blk_e rfl (then_n ?_))))
 refine Vs rfl ?_
 refine Lc rfl rfl rfl rfl (fun w hg => lAwake_c w) ?_
 refine La rfl rfl rfl ?_
 refine L_then (kp [6] rfl) ?_
 refine V_ret ?_
 refine Leave.nil (.tmp rfl .nil) ?_
 rfl
theorem flightVacuum_c (ps : List (Int × Int)) (y n g : Int) (pv : Value) (hy : 0 ≤ y ∧ y ≤ 255) (hgm : y.tmod 201 = g) (hg0 : 0 ≤ g ∧ g ≤ 200) (hn : 0 ≤ n ∧ n ≤ 255) (hb : ∀ x ∈ ps, (0 ≤ x.1 ∧ x.1 ≤ 65535) ∧ 0 ≤ x.2 ∧ x.2 ≤ 65535) (w : World) (hp : SliceR w 2 pv (ps.map pwC)) : FnP Try.prog 5 [pv, .int .u8 y, .int .u8 n] w (.bool true) := by
 by_cases hl : 1 ≤ ps.length ∧ ps.length ≤ 12
 ·by_cases h : flyE (vacV ⟨#[118]⟩ g ps) upD exB n = 0
  ·exact flightVacuumO ps y n g pv hy hgm hg0 hn hb w hp hl h
  exact flightVacuumE ps y n g pv hy hgm hg0 hn hb w hp hl h
 exact flightVacuumA ps y n g pv hy hgm hg0 hn hb w hp (by omega)

theorem own_ : ownKnob Try.prog.godebug = none := by kernel_rfl

theorem flightVacuum_lifted (os : Os) (started : os.Started) (H : Type) (enc : TypeId × Value → H) :
  ReturnsInHanded {} Try.checked os 5 .any (Rows.flightVacuumSpec.pre6 enc Try.prog Try.f5 Rows.flightVacuumRow.domain false) (Rows.flightVacuumSpec.post enc Try.prog Try.f5 false true false false) := by
 refine returnsInHanded_of_change (C := Try.checked) own_ started (by kernel_rfl) Try.func5
  (ChangeSpec.witness6 (enc := enc) (C := Try.checked) false ⟨#[], #[.slice none 0 0, .int .u8 0, .int .u8 0], []⟩ 8 (by kernel_rfl) (by kernel_rfl) (by kernel_rfl) (by kernel_rfl)) ?_
 intro W base args ds gs before hval0 hW hcnd _
 have hval : ∀ (j : Nat) t v, Try.f5.params[j]? = some t → args[j]? = some v → Value.okWide Try.prog W .any base t v := hval0
 have hW' := hW
 obtain ⟨pA, pB, hA0, hV, rfl, _, _⟩ := hW
 have hA : DataW.TrodAll enc Try.prog W 0 (fun _ => true) true Try.f5.params.toList args.toList ds pA := hA0
 clear hA0 hval0
 rw [Try.params5] at hA hval
 obtain ⟨rfl, rfl⟩ := trodVars_none hV
 obtain ⟨v0, vs0, d0, ds0, p0, q0, ea0, rfl, rfl, h0, hA0⟩ := trodAll_cons hA
 obtain ⟨v1, vs1, d1, ds1, p1, q1, ea1, rfl, rfl, h1, hA1⟩ := trodAll_cons hA0
 obtain ⟨v2, vs2, d2, ds2, p2, q2, ea2, rfl, rfl, h2, hA2⟩ := trodAll_cons hA1
 obtain ⟨rfl, rfl, rfl⟩ := trodAll_nil hA2
 subst ea2
 subst ea1
 have ea : args = #[v0, v1, v2] := Array.toList_inj.1 ea0
 subst ea
 have k0 := hval 0 _ v0 rfl rfl
 have k1 := hval 1 _ v1 rfl rfl
 have k2 := hval 2 _ v2 rfl rfl
 obtain ⟨l, hl, hb, _⟩ := open_pws (P := Try.prog) (by kernel_rfl) k0 h0
 obtain ⟨y, rfl, hy⟩ := open_u8 (P := Try.prog) (by kernel_rfl) k1 h1
 obtain ⟨n, rfl, hn⟩ := open_u8 (P := Try.prog) (by kernel_rfl) k2 h2
 refine (calls_of (flightVacuum_c l y n _ _ hy rfl (by have h1 := Int.tmod_nonneg (201 : Int) hy.1; have h2 := Int.tmod_lt_of_pos y (show (0 : Int) < 201 by decide); omega) hn hb W hl)).mono ?_
 rintro _ W' ⟨_, rfl, rfl, hE⟩
 exact ⟨_, rfl, post_true hW' rfl hE (by kernel_rfl) (by kernel_rfl) rfl rfl rfl (by kernel_rfl) Try.underlying4⟩

theorem flightVacuum_holds : Rows.FlightVacuumSaid :=
 OpenClaim.holds_of_wide 5 Try.f5 rfl rfl rfl rfl rfl rfl rfl ⟨rfl, rfl, rfl, rfl, rfl⟩ rfl rfl rfl rfl rfl (by kernel_rfl) Try.func5 (by kernel_rfl)
  (of_decide_eq_true (by kernel_rfl)) (by unfold Func.isWrapper; first | (rw [if_pos (by decide +kernel)]; kernel_rfl) | (rw [if_neg (by decide +kernel)]; exact ⟨rfl, rfl⟩))
  (fun os started H enc _ => flightVacuum_lifted os started H enc)
#print axioms flightVacuum_holds

end Go.Proofs.Ytbncegfgjbdheaa
