/- Ytbncegfgjbdheaa: FlightComes is proved: for any vehicle and shot (no condition) it returns true. -/
import Derived.Test.YtbncegfgjbdheaaRows
import Derived.Test.YtbncegfgjbdheaaZan
import Derived.Test.YtbncegfgjbdheaaZaf
import Derived.Test.YtbncegfgjbdheaaZam
import Derived.ProofKit
set_option linter.all false
namespace Go.Proofs.Ytbncegfgjbdheaa
open Go.Vc Go.Tk Go.Fl Go.ChangeShapes Go.WideShapes Go.ChangeAt Go.RowKit
set_option maxRecDepth 100000
theorem flightComesE (v : Veh) (d : Dir) (l : List Fl.Band) (av pv qv bv : Value) (n m : Int) (w : World) (hv : VehR w (VehV v av pv qv) v) (hl : BdsR w bv l) (h : impsE v d l ≠ 0) : FnP Try.prog 7 [VehV v av pv qv, .agg #[.int .i64 d.x, .int .i64 d.y, .int .i64 d.z, bv, .int .i64 n, .int .i64 m]] w (.bool true) := by
 have hL := hl
 obtain ⟨ba, bc, rfl, hbc, hbe⟩ := hl.sl.ex
 simp only [List.length_map] at hL ⊢
 refine fn_pure Try.func7 rfl (by kernel_rfl) Try.ntmps7 Try.results7 rfl ?_
 refine Vs rfl ?_
 refine Lw rfl (w_box rfl rfl) ?_
 rintro _ _ ⟨b1, hb1, rfl, rfl⟩
 refine Lw rfl (w_box rfl rfl) ?_
 rintro _ _ ⟨b2, hb2, rfl, rfl⟩
 refine La rfl rfl rfl ?_
 refine L_then (kp [2, 3] rfl) ?_
 refine Vs rfl ?_
 refine Lr rfl (rlA (vs := [_, _, _, _, _, _]) ag28 sz28 rfl rfl rfl) ?_
 refine Lp rfl (p_fieldo fo39_0 rfl rfl) ?_
 refine Lr rfl (rlA (vs := [_, _, _]) ag30 sz30 rfl rfl rfl) ?_
 refine Lp rfl (p_fieldo fo39_1 rfl rfl) ?_
 refine Lr rfl (rl ag37 rfl rfl rfl) ?_
 refine Lw rfl (w_callG (pre := [_, _]) rfl rfl rfl rfl (fun w hg => eImpacts_c v d l av pv qv _ w (hv.good hg) (hL.good hg) h)) ?_
 rintro _ _ ⟨_, G1, rfl, hfr1, rfl, sv1, rfl, hgr1⟩
 obtain ⟨sa1, sc1, rfl⟩ := Grow.form hgr1
 try simp only [List.cons_append, List.nil_append, List.append_nil]
 refine Lm rfl rfl rfl ?_
 iterate 2 refine Lp rfl (p_ext rfl rfl rfl) ?_
 iterate 2 refine La rfl rfl rfl ?_
 refine L_then (kp [2, 3, 5, 6] rfl) ?_
 refine V_seq ?_
 refine Vs rfl ?_
 refine Lm rfl rfl rfl ?_
 refine Lp rfl (p_neq rfl rfl rfl) ?_
 refine Lm rfl rfl rfl ?_
 iterate 7 refine L_no rfl rfl rfl (decide_eq_true h) ?_
 refine Lp rfl (p_pick_t rfl rfl (decide_eq_true h) rfl) ?_
 refine L_then (kp [2, 3, 5, 6, 34] rfl) ?_
 refine V_cond_t rfl rfl ?_
 refine Vs rfl ?_
 refine Lm rfl rfl rfl ?_
 refine Lp rfl (p_neq rfl rfl rfl) ?_
 refine Lm rfl rfl rfl ?_
 refine L_yes rfl rfl rfl (decide_eq_true h) (X_wr (w_callP rfl rfl rfl (fun w hg => lAwake_c w)) ?_)
 rintro _ _ ⟨rfl, rfl⟩
 refine Lp rfl (p_pick_t rfl rfl (decide_eq_true h) rfl) ?_
 refine La rfl rfl rfl ?_
 refine L_then (kp [4] rfl) ?_
 refine V_ret (then_r ?_)
 refine Leave.nil (.tmp rfl .nil) ?_
 rfl
set_option maxHeartbeats 8000000 in
theorem flightComesO (v : Veh) (d : Dir) (l : List Fl.Band) (av pv qv bv : Value) (n m : Int) (w : World) (hv : VehR w (VehV v av pv qv) v) (hl : BdsR w bv l) (h : impsE v d l = 0) : FnP Try.prog 7 [VehV v av pv qv, .agg #[.int .i64 d.x, .int .i64 d.y, .int .i64 d.z, bv, .int .i64 n, .int .i64 m]] w (.bool true) := by
 have hL := hl
 obtain ⟨ba, bc, rfl, hbc, hbe⟩ := hl.sl.ex
 simp only [List.length_map] at hL ⊢
 obtain ⟨qa, qc, rfl, hqc, hqe⟩ := hv.sl.2.2.ex
 simp only [List.length_map] at hqc hv ⊢
 obtain ⟨hA, himp⟩ := imps_ok h
 have hGV := (asked_good hA).1
 have h6 := hGV.pc6
 refine fn_pure Try.func7 rfl (by kernel_rfl) Try.ntmps7 Try.results7 rfl ?_
 refine Vs rfl ?_
 refine Lw rfl (w_box rfl rfl) ?_
 rintro _ _ ⟨b1, hb1, rfl, rfl⟩
 refine Lw rfl (w_box rfl rfl) ?_
 rintro _ _ ⟨b2, hb2, rfl, rfl⟩
 refine La rfl rfl rfl ?_
 refine L_then (kp [2, 3] rfl) ?_
 refine Vs rfl ?_
 refine Lr rfl (rlA (vs := [_, _, _, _, _, _]) ag28 sz28 rfl rfl rfl) ?_
 refine Lp rfl (p_fieldo fo39_0 rfl rfl) ?_
 refine Lr rfl (rlA (vs := [_, _, _]) ag30 sz30 rfl rfl rfl) ?_
 refine Lp rfl (p_fieldo fo39_1 rfl rfl) ?_
 refine Lr rfl (rl ag37 rfl rfl rfl) ?_
 refine Lw rfl (w_callG (pre := [_, _]) rfl rfl rfl rfl (fun w hg => gImpacts_c v d l av pv _ _ w (hv.good hg) (hL.good hg) h)) ?_
 rintro _ _ ⟨_, G1, rfl, hfr1, rfl, sv1, rfl, hgr1⟩
 obtain ⟨sa1, sc1, rfl⟩ := Grow.form hgr1
 obtain ⟨gb1, cur1, rfl, rfl, hcur1, _, _⟩ := Grow.form2 hgr1 (by omega)
 try simp only [List.cons_append, List.nil_append, List.append_nil]
 refine Lm rfl rfl rfl ?_
 iterate 2 refine Lp rfl (p_ext rfl rfl rfl) ?_
 iterate 2 refine La rfl rfl rfl ?_
 refine L_then (kp [2, 3, 5, 6] rfl) ?_
 refine V_seq ?_
 refine Vs rfl ?_
 refine Lm rfl rfl rfl ?_
 refine Lp rfl (p_neq rfl rfl rfl) ?_
 refine Lm rfl rfl rfl ?_
 refine L_yes rfl rfl rfl rfl (X_p (p_move rfl rfl) ?_)
 refine L_yes rfl rfl rfl rfl (X_p (p_len isl56 rfl rfl) ?_)
 refine L_yes rfl rfl rfl rfl (X_p (p_fieldo fo28_4 rfl rfl) ?_)
 refine L_yes rfl rfl rfl rfl (X_rd (rl ag26 rfl rfl rfl) ?_)
 refine L_yes rfl rfl rfl rfl (X_p (p_len isl26 rfl rfl) ?_)
 first | refine L_yes rfl rfl rfl rfl (X_p (p_add' rfl rfl rfl (by unfold InI; omega)) ?_) | refine L_yes rfl rfl rfl rfl (X_p (p_add rfl rfl rfl) ?_)
 refine L_yes rfl rfl rfl rfl (X_p (p_neq rfl rfl rfl) ?_)
 refine Lp rfl (p_pick_f rfl rfl rfl rfl) ?_
 refine L_then (kp [2, 3, 5, 6, 34] rfl) ?_
 refine V_cond_f rfl (decide_eq_false (by omega)) ?_
 refine V_skip (then_n ?_)
 refine V_seq ?_
 refine Vs rfl ?_
 refine La rfl rfl rfl ?_
 refine L_then (kp [2, 3, 5, 7] rfl) ?_
 refine V_block ?_
 refine V_loop1 (γ := Int) (kp [2, 3, 5] rfl) (fun k => [(7, .int .i64 k)]) (fun k => (b2, .cells #[.int .i64 d.x, .int .i64 d.y, .int .i64 d.z, .slice ba l.length bc, .int .i64 n, .int .i64 m] 39) :: (b1, .cells #[.string v.name, .int .i64 v.gravity.lo, .int .i64 v.gravity.hi, av, pv, .slice qa v.pieces.length qc] 28) :: [(gb1, .cells cur1 62)]) (fun k => 0 ≤ k ∧ k ≤ v.pieces.length + 1) (fun k => (v.pieces.length + 1 - k).toNat) (0) (.cons rfl (.nil _)) (by repeat (first | exact List.nil_sublist _ | exact List.Sublist.refl _ | apply List.Sublist.cons_cons | apply List.Sublist.cons)) (⟨by omega, by omega⟩) ?_
 rintro k hi
 obtain ⟨hk0, hk1⟩ := hi
 refine V_seq ?_
 refine Vs rfl ?_
 iterate 2 refine Lm rfl rfl rfl ?_
 refine Lp rfl (p_len isl56 rfl rfl) ?_
 refine Lp rfl (p_lss rfl rfl rfl) ?_
 refine L_then (kp [2, 3, 5, 7, 43] rfl) ?_
 refine V_cond rfl ?_ ?_
 ·intro c1; try simp only [td] at c1
  obtain ⟨a, b, hI, hfr0, hb3, hf3⟩ := imp_is (d := d) (l := l) hGV (i := k.toNat) (himp k.toNat (by omega))
  have ha1 := hI.a1
  have hab := hI.ab
  have hilen := impsL_len h
  have efr : k < v.pieces.length → (frmI v k.toNat) = (v.pc k.toNat).at_ := fun h => if_pos (by omega)
  have efl : k < v.pieces.length → (flrI v k.toNat) = (v.pc k.toNat).floor := fun h => if_pos (by omega)
  have efr2 : ¬ k < v.pieces.length → (frmI v k.toNat) = 0 := fun h => if_neg (by omega)
  have efl2 : ¬ k < v.pieces.length → (flrI v k.toNat) = 0 := fun h => if_neg (by omega)
  refine V_skip (then_n ?_)
  refine V_seq ?_
  refine V_block ?_
  refine Vs rfl ?_
  iterate 2 refine La rfl rfl rfl ?_
  refine L_then (kp [2, 3, 5, 7, 8, 9] rfl) ?_
  refine V_seq (V_draw (.rd 0 (.rd 1 (.rd 2 (.rd 3 (.rd 4 (.rd 5 (.rd 6 (.rd 7 (.rd 8 (.rd 9 (.rd 10 (.wr 11 [9, 8, 7, 6, 5, 3, 1] (.rd 12 (.rd 13 (.rd 14 (.rd 15 (.rd 16 .done))))))))))))))))) mixed (by kernel_rfl) rfl ?_)
  refine Dr rfl rfl (rlA (vs := [_, _, _, _, _, _]) ag28 sz28 rfl rfl rfl) ?_
  refine Dp rfl rfl (p_fieldo fo39_0 rfl rfl) ?_
  refine Dr rfl rfl (rlA (vs := [_, _, _]) ag30 sz30 rfl rfl rfl) ?_
  refine Dp rfl rfl (p_fieldo fo39_1 rfl rfl) ?_
  refine Dr rfl rfl (rl ag37 rfl rfl rfl) ?_
  iterate 2 refine Dm rfl rfl rfl rfl ?_
  refine Dp rfl rfl (p_idxo es56 rfl rfl rfl (by omega) (by omega)) ?_
  refine Dp rfl rfl (p_fieldo fo62_2 rfl rfl) ?_
  refine Dp rfl rfl (p_fieldo fo23_1 rfl rfl) ?_
  refine Dr rfl rfl (r_load ag3 rfl rfl (by repeat first | exact mH | apply mT | apply List.mem_append_right) (v := .int .i64 ((frmI v k.toNat) + (b : Int))) (cur_cell (im_row (k := k.toNat) hcur1 (impsL_len h).symm (by rw [impsL_len h]; omega) (impsL_at h (by omega))) (idx := 6) (by omega) (by show some (Value.int .i64 (impT v d l k.toNat).1.at_.hi) = _; rw [hI.at_]))) ?_
  refine D_wr (.go (E' := []) rfl (.plain rfl) (w_callG (pre := [_, _]) rfl rfl rfl rfl (fun w hg => fFly_c v d l av pv _ _ w (hv.good hg) (hL.good hg) ((frmI v k.toNat) + (b : Int)))) rfl ?_)
  rintro _ _ ⟨_, G2, rfl, hfr2, rfl, sv2, rfl, hgr2⟩
  obtain ⟨sa2, sc2, rfl⟩ := Grow.form hgr2
  try simp only [List.cons_append, List.nil_append, List.append_nil]
  refine ⟨.nil, ?_⟩
  refine Dm rfl rfl rfl rfl ?_
  iterate 2 refine Dp rfl rfl (p_ext rfl rfl rfl) ?_
  iterate 2 refine Dp rfl rfl (p_assign rfl rfl) ?_
  refine D_then (kp [2, 3, 5, 7, 8, 9, 10, 11] rfl) ?_
  refine V_seq ?_
  refine Vs rfl ?_
  skip
  refine Lm rfl rfl rfl ?_
  refine Lp rfl (p_fieldo fo28_4 rfl rfl) ?_
  refine Lr rfl (rl ag26 rfl rfl rfl) ?_
  refine Lp rfl (p_len isl26 rfl rfl) ?_
  refine Lp rfl (p_lss rfl rfl rfl) ?_
  refine L_then (kp [2, 3, 5, 7, 8, 9, 10, 11, 65] rfl) ?_
  refine V_midT (γ := Nat × Array Value × Nat × Int × Int × Int) (kp [2, 3, 5, 7] rfl) (fun (gb3, cur3, sc3, fr, fl, ee) => [(8, .int .i64 fr), (9, .int .i64 fl), (10, .slice (some ⟨gb3, 0, none⟩) (b + 1) sc3), (11, .int .i64 ee)]) (fun (gb3, cur3, sc3, fr, fl, ee) => (b2, .cells #[.int .i64 d.x, .int .i64 d.y, .int .i64 d.z, .slice ba l.length bc, .int .i64 n, .int .i64 m] 39) :: (b1, .cells #[.string v.name, .int .i64 v.gravity.lo, .int .i64 v.gravity.hi, av, pv, .slice qa v.pieces.length qc] 28) :: (gb3, .cells cur3 54) :: [(gb1, .cells cur1 62)]) (fun (gb3, cur3, sc3, fr, fl, ee) => cur3.toList.take ((b + 1) * 12) = stL (rowS (ofI v d l k.toNat) b) ∧ fr = (frmI v k.toNat) ∧ fl = (flrI v k.toNat) ∧ ee = 0) ?_ ?_
  ·refine V_cond rfl ?_ ?_
   ·intro c2; try simp only [td] at c2
    obtain ⟨tb, etb, hc⟩ := hqe k.toNat _ (getD_cells (d := pcZ) (by omega))
    subst etb
    have hpc9 := (pc_zero (hGV.pc k.toNat (by omega))).at_
    have e3 := efr (by omega)
    simp only [Veh.pc] at hpc9 e3
    have eo : (ofI v d l k.toNat) = Fl.pcT v d l (v.pc k.toNat) := if_pos (by omega)
    
    refine V_seq (V_draw (.rd 0 (.rd 1 (.rd 2 (.rd 3 (.rd 4 (.rd 5 (.rd 6 (.rd 7 (.rd 8 (.rd 9 (.rd 10 (.rd 11 (.rd 12 (.rd 13 .done)))))))))))))) mixed (by kernel_rfl) rfl ?_)
    refine Dp rfl rfl (p_fieldo fo28_4 rfl rfl) ?_
    refine Dr rfl rfl (rl ag26 rfl rfl rfl) ?_
    refine Dm rfl rfl rfl rfl ?_
    refine Dp rfl rfl (p_idx es26 rfl rfl rfl (by omega) (by omega)) ?_
    refine Dp rfl rfl (p_field fo49_1 rfl rfl) ?_
    refine Dr rfl rfl (r_loadB ag3 rfl rfl (hc 1 _ rfl) List.not_mem_nil) ?_
    refine Dp rfl rfl (p_fieldo fo28_4 rfl rfl) ?_
    refine Dr rfl rfl (rl ag26 rfl rfl rfl) ?_
    refine Dm rfl rfl rfl rfl ?_
    refine Dp rfl rfl (p_idx es26 rfl rfl rfl (by omega) (by omega)) ?_
    refine Dp rfl rfl (p_field fo49_5 rfl rfl) ?_
    refine Dr rfl rfl (r_loadB ag3 rfl rfl (hc 12 _ rfl) List.not_mem_nil) ?_
    iterate 2 refine Dp rfl rfl (p_assign rfl rfl) ?_
    refine D_then (kp [2, 3, 5, 7, 8, 9] rfl) ?_
    refine V_draw (.rd 0 (.rd 1 (.rd 2 (.rd 3 (.rd 4 (.rd 5 (.rd 6 (.rd 7 (.rd 8 (.rd 9 (.rd 10 (.rd 11 (.rd 12 (.rd 13 (.wr 14 [12, 11, 10, 9, 8, 7, 6, 3, 1] (.rd 15 (.rd 16 (.rd 17 (.rd 18 (.rd 19 .done)))))))))))))))))))) mixed (by kernel_rfl) rfl ?_
    refine Dr rfl rfl (rlA (vs := [_, _, _, _, _, _]) ag28 sz28 rfl rfl rfl) ?_
    refine Dp rfl rfl (p_fieldo fo39_0 rfl rfl) ?_
    refine Dr rfl rfl (rlA (vs := [_, _, _]) ag30 sz30 rfl rfl rfl) ?_
    refine Dp rfl rfl (p_fieldo fo39_1 rfl rfl) ?_
    refine Dr rfl rfl (rl ag37 rfl rfl rfl) ?_
    iterate 3 refine Dm rfl rfl rfl rfl ?_
    refine Dp rfl rfl (p_idxo es56 rfl rfl rfl (by omega) (by omega)) ?_
    refine Dp rfl rfl (p_fieldo fo62_2 rfl rfl) ?_
    refine Dp rfl rfl (p_fieldo fo23_1 rfl rfl) ?_
    refine Dr rfl rfl (r_load ag3 rfl rfl (by repeat first | exact mH | apply mT | apply List.mem_append_right) (v := .int .i64 ((frmI v k.toNat) + (b : Int))) (cur_cell (im_row (k := k.toNat) hcur1 (impsL_len h).symm (by rw [impsL_len h]; omega) (impsL_at h (by omega))) (idx := 6) (by omega) (by show some (Value.int .i64 (impT v d l k.toNat).1.at_.hi) = _; rw [hI.at_]))) ?_
    refine Dm rfl rfl rfl rfl ?_
    first | refine Dp rfl rfl (p_sub' rfl rfl rfl (by unfold InI; omega)) ?_ | refine Dp rfl rfl (p_sub rfl rfl rfl) ?_
    rw [show (frmI v k.toNat) + (b : Int) - (v.pieces.getD k.toNat pcZ).at_ = (b : Int) by show _ - (v.pc k.toNat).at_ = _; have := efr (by omega); omega]
    refine D_wr (.go (E' := [(11, _)]) rfl (.plain rfl) (w_callG (pre := [_, _]) rfl rfl rfl rfl (fun w hg => gPiece_c v d l av pv _ _ w (hv.good hg) (hL.good hg) k (b : Int) (by rw [show (k : Int) = ((k.toNat : Nat) : Int) by omega]; exact come_piece hGV hA (by omega) hI hb3 (hf3 (by omega))))) rfl ?_)
    rintro _ _ ⟨_, G3, rfl, hfr3, rfl, sv3, rfl, hgr3⟩
    obtain ⟨sa3, sc3, rfl⟩ := Grow.form hgr3
    obtain ⟨gb3, cur3, rfl, rfl, hcur3, _, _⟩ := Grow.form2 hgr3 (by omega)
    try simp only [List.cons_append, List.nil_append, List.append_nil]
    refine ⟨(.cons rfl (.plain rfl) (r_load ag3 rfl rfl (by repeat first | exact mH | apply mT | apply List.mem_append_right) (v := .int .i64 ((frmI v k.toNat) + (b : Int))) (cur_cell (im_row (k := k.toNat) hcur1 (impsL_len h).symm (by rw [impsL_len h]; omega) (impsL_at h (by omega))) (idx := 6) (by omega) (by show some (Value.int .i64 (impT v d l k.toNat).1.at_.hi) = _; rw [hI.at_]))) .nil), ?_⟩
    refine Dm rfl rfl rfl rfl ?_
    iterate 2 refine Dp rfl rfl (p_ext rfl rfl rfl) ?_
    iterate 2 refine Dp rfl rfl (p_assign rfl rfl) ?_
    refine D_then (kp [2, 3, 5, 7, 8, 9, 10, 11] rfl) ?_
    refine ⟨(gb3, cur3, _, (v.pc k.toNat).at_, (v.pc k.toNat).floor, 0), ?_, (.cons rfl (.cons rfl (.cons rfl (.cons rfl (.cons rfl (.cons rfl (.cons rfl (.cons rfl (.nil _))))))))), (by (try dsimp only); repeat (first | exact HSub.nil _ | refine HSub.take (by repeat first | exact Take.head | apply Take.tail) ?_ | exact HSub.refl _ | refine HSub.drop ?_ | refine HSub.app ?_)), rfl⟩
    exact ⟨by rw [eo]; exact hcur3, (efr (by omega)).symm, (efl (by omega)).symm, rfl⟩
   intro c2; try simp only [td] at c2
   have e2 := efr2 (by omega)
   have eo : (ofI v d l k.toNat) = Fl.stT v d l := if_neg (by omega)
   have e0 := come_fly hGV hA (by omega) hI hb3
   have e9 : flyE v d l ((frmI v k.toNat) + (b : Int)) = 0 := by rw [e2, Int.zero_add]; exact e0
   have e7 : flyL v d l ((frmI v k.toNat) + (b : Int)) = rowS (ofI v d l k.toNat) b := by rw [e2, Int.zero_add, flyL_ok e0, eo]; rfl
   have e8 : (flyL v d l ((frmI v k.toNat) + (b : Int))).length = b + 1 := by rw [e7, rowS_len]
   have hgr4 := hgr2
   rw [e8, e7] at hgr4
   rw [e8]
   obtain ⟨gb2, cur2, rfl, rfl, hcur2, _, _⟩ := Grow.form2 hgr4 (by omega)
   refine V_skip (then_n ?_)
   refine ⟨(gb2, cur2, _, 0, 0, flyE v d l ((frmI v k.toNat) + (b : Int))), ?_, (.cons rfl (.cons rfl (.cons rfl (.cons rfl (.cons rfl (.cons rfl (.cons rfl (.cons rfl (.nil _))))))))), (by (try dsimp only); repeat (first | exact HSub.nil _ | refine HSub.take (by repeat first | exact Take.head | apply Take.tail) ?_ | exact HSub.refl _ | refine HSub.drop ?_ | refine HSub.app ?_)), rfl⟩
   exact ⟨hcur2, e2.symm, (efl2 (by omega)).symm, e9⟩
  rintro ⟨gb3, cur3, sc3, fr, fl, ee⟩ hm9
  obtain ⟨hcur3, rfl, rfl, rfl⟩ := hm9
  refine Vs rfl ?_
  iterate 2 refine Lm rfl rfl rfl ?_
  refine Lp rfl (p_idxo es56 rfl rfl rfl (by omega) (by omega)) ?_
  refine Lp rfl (p_fieldo fo62_2 rfl rfl) ?_
  refine Lp rfl (p_fieldo fo23_1 rfl rfl) ?_
  refine Lr rfl (r_load ag3 rfl rfl (by repeat first | exact mH | apply mT | apply List.mem_append_right) (v := .int .i64 ((frmI v k.toNat) + (b : Int))) (cur_cell (im_row (k := k.toNat) hcur1 (impsL_len h).symm (by rw [impsL_len h]; omega) (impsL_at h (by omega))) (idx := 6) (by omega) (by show some (Value.int .i64 (impT v d l k.toNat).1.at_.hi) = _; rw [hI.at_]))) ?_
  refine Lm rfl rfl rfl ?_
  first | refine Lp rfl (p_sub' rfl rfl rfl (by unfold InI; omega)) ?_ | refine Lp rfl (p_sub rfl rfl rfl) ?_
  rw [show (frmI v k.toNat) + (b : Int) - (frmI v k.toNat) = (b : Int) by omega]
  refine La rfl rfl rfl ?_
  refine L_then (kp [2, 3, 5, 7, 8, 9, 10, 11, 12] rfl) ?_
  refine V_seq ?_
  refine V_seq (V_draw (.rd 0 (.rd 1 (.rd 2 (.rd 3 (.rd 4 (.rd 5 (.rd 6 (.rd 7 (.rd 8 (.rd 9 (.rd 10 (.rd 11 (.rd 12 (.rd 13 (.rd 14 (.rd 15 (.rd 16 (.rd 17 (.rd 18 (.rd 19 (.rd 20 (.rd 21 (.rd 22 (.rd 23 (.rd 24 (.rd 25 (.rd 26 (.rd 27 (.rd 28 (.rd 29 (.rd 30 (.rd 31 (.rd 32 (.rd 33 (.rd 34 (.rd 35 (.rd 36 (.rd 37 (.rd 38 (.rd 39 (.rd 40 (.rd 41 (.rd 42 (.rd 43 (.rd 44 (.rd 45 (.rd 46 .done))))))))))))))))))))))))))))))))))))))))))))))) mixed (by kernel_rfl) rfl ?_)
  refine Dm rfl rfl rfl rfl ?_
  refine Dp rfl rfl (p_neq rfl rfl rfl) ?_
  refine Dm rfl rfl rfl rfl ?_
  iterate 2 refine D_p rfl (.yes rfl rfl rfl rfl) (p_move rfl rfl) ?_
  refine D_p rfl (.yes rfl rfl rfl rfl) (p_idxo es56 rfl rfl rfl (by omega) (by omega)) ?_
  refine D_p rfl (.yes rfl rfl rfl rfl) (p_fieldo fo62_0 rfl rfl) ?_
  refine D_rd rfl (.yes rfl rfl rfl rfl) (r_load ag3 rfl rfl (by repeat first | exact mH | apply mT | apply List.mem_append_right) (v := .int .i64 k) (cur_cell (im_row (k := k.toNat) hcur1 (impsL_len h).symm (by rw [impsL_len h]; omega) (impsL_at h (by omega))) (idx := 0) (by omega) (by show some (Value.int .i64 (impT v d l k.toNat).1.piece) = _; rw [hI.pc, Int.toNat_of_nonneg hk0]))) ?_
  refine D_p rfl (.yes rfl rfl rfl rfl) (p_move rfl rfl) ?_
  refine D_p rfl (.yes rfl rfl rfl rfl) (p_neq rfl rfl rfl) ?_
  refine Dp rfl rfl (p_pick_f rfl rfl rfl rfl) ?_
  refine Dm rfl rfl rfl rfl ?_
  refine D_p rfl (.yes rfl rfl rfl (by simp)) (p_move rfl rfl) ?_
  refine D_p rfl (.yes rfl rfl rfl (by simp)) (p_lss rfl rfl rfl) ?_
  refine Dp rfl rfl (p_pick_f rfl rfl (by simp) rfl) ?_
  refine Dm rfl rfl rfl rfl ?_
  refine D_cases (d := 119) rfl ?_ ?_
  ·intro g1; have g1' := g1; try simp only [td] at g1'
   exfalso; omega
  intro g1; have g1' := g1; try simp only [td] at g1'
  refine D_p rfl (.yes rfl rfl rfl g1) (p_move rfl rfl) ?_
  refine D_p rfl (.yes rfl rfl rfl g1) (p_len isl40 rfl rfl) ?_
  refine D_p rfl (.yes rfl rfl rfl g1) (p_move rfl rfl) ?_
  first | refine D_p rfl (.yes rfl rfl rfl g1) (p_add' rfl rfl rfl (by unfold InI; omega)) ?_ | refine D_p rfl (.yes rfl rfl rfl g1) (p_add rfl rfl rfl) ?_
  refine D_p rfl (.yes rfl rfl rfl g1) (p_neq rfl rfl rfl) ?_
  refine Dp rfl rfl (p_pick_f rfl rfl g1 rfl) ?_
  refine Dm rfl rfl rfl rfl ?_
  iterate 2 refine D_p rfl (.yes rfl rfl rfl (decide_eq_false (by omega))) (p_move rfl rfl) ?_
  refine D_p rfl (.yes rfl rfl rfl (decide_eq_false (by omega))) (p_idxo es56 rfl rfl rfl (by omega) (by omega)) ?_
  refine D_p rfl (.yes rfl rfl rfl (decide_eq_false (by omega))) (p_fieldo fo62_2 rfl rfl) ?_
  refine D_p rfl (.yes rfl rfl rfl (decide_eq_false (by omega))) (p_fieldo fo23_0 rfl rfl) ?_
  refine D_rd rfl (.yes rfl rfl rfl (decide_eq_false (by omega))) (r_load ag3 rfl rfl (by repeat first | exact mH | apply mT | apply List.mem_append_right) (v := .int .i64 ((frmI v k.toNat) + (a : Int))) (cur_cell (im_row (k := k.toNat) hcur1 (impsL_len h).symm (by rw [impsL_len h]; omega) (impsL_at h (by omega))) (idx := 5) (by omega) (by show some (Value.int .i64 (impT v d l k.toNat).1.at_.lo) = _; rw [hI.at_]))) ?_
  refine D_p rfl (.yes rfl rfl rfl (decide_eq_false (by omega))) (p_move rfl rfl) ?_
  refine D_p rfl (.yes rfl rfl rfl (decide_eq_false (by omega))) (p_leq rfl rfl rfl) ?_
  refine Dp rfl rfl (p_pick_f rfl rfl (decide_eq_false (by omega)) rfl) ?_
  refine Dm rfl rfl rfl rfl ?_
  refine D_cases (d := 136) rfl ?_ ?_
  ·intro g2; have g2' := g2; try simp only [td] at g2'
   exfalso; omega
  intro g2; have g2' := g2; try simp only [td] at g2'
  iterate 2 refine D_p rfl (.yes rfl rfl rfl g2) (p_move rfl rfl) ?_
  refine D_p rfl (.yes rfl rfl rfl g2) (p_idxo es56 rfl rfl rfl (by omega) (by omega)) ?_
  refine D_p rfl (.yes rfl rfl rfl g2) (p_fieldo fo62_2 rfl rfl) ?_
  refine D_p rfl (.yes rfl rfl rfl g2) (p_fieldo fo23_0 rfl rfl) ?_
  refine D_rd rfl (.yes rfl rfl rfl g2) (r_load ag3 rfl rfl (by repeat first | exact mH | apply mT | apply List.mem_append_right) (v := .int .i64 ((frmI v k.toNat) + (a : Int))) (cur_cell (im_row (k := k.toNat) hcur1 (impsL_len h).symm (by rw [impsL_len h]; omega) (impsL_at h (by omega))) (idx := 5) (by omega) (by show some (Value.int .i64 (impT v d l k.toNat).1.at_.lo) = _; rw [hI.at_]))) ?_
  iterate 2 refine D_p rfl (.yes rfl rfl rfl g2) (p_move rfl rfl) ?_
  refine D_p rfl (.yes rfl rfl rfl g2) (p_idxo es56 rfl rfl rfl (by omega) (by omega)) ?_
  refine D_p rfl (.yes rfl rfl rfl g2) (p_fieldo fo62_2 rfl rfl) ?_
  refine D_p rfl (.yes rfl rfl rfl g2) (p_fieldo fo23_1 rfl rfl) ?_
  refine D_rd rfl (.yes rfl rfl rfl g2) (r_load ag3 rfl rfl (by repeat first | exact mH | apply mT | apply List.mem_append_right) (v := .int .i64 ((frmI v k.toNat) + (b : Int))) (cur_cell (im_row (k := k.toNat) hcur1 (impsL_len h).symm (by rw [impsL_len h]; omega) (impsL_at h (by omega))) (idx := 6) (by omega) (by show some (Value.int .i64 (impT v d l k.toNat).1.at_.hi) = _; rw [hI.at_]))) ?_
  refine D_p rfl (.yes rfl rfl rfl g2) (p_gtr rfl rfl rfl) ?_
  refine Dp rfl rfl (p_pick_f rfl rfl g2 rfl) ?_
  refine D_then (kp [2, 3, 5, 7, 8, 9, 10, 12, 150] rfl) ?_
  refine V_cond rfl ?_ ?_
  ·intro c3; try simp only [td] at c3
   exfalso; omega
  intro c3; try simp only [td] at c3
  refine V_skip (then_n ?_)
  refine Vs rfl ?_
  refine Lw rfl (w_alloc zr60 rfl) ?_
  rintro _ _ ⟨b5, hb5, rfl, rfl⟩
  refine L_then (kp [2, 3, 5, 7, 8, 9, 10, 12, 13] rfl) ?_
  refine V_seq ?_
  refine Vs rfl ?_
  refine La rfl rfl rfl ?_
  refine L_then (kp [2, 3, 5, 7, 8, 9, 10, 12, 13, 14] rfl) ?_
  refine V_block ?_
  refine V_loop1 (γ := Nat × (Span × Span)) (kp [2, 3, 5, 7, 8, 9, 10, 12, 13] rfl) (fun (j, A) => [(14, .int .i64 ((j : Int) + 1))]) (fun (j, A) => (b5, .cells #[.int .i64 A.1.lo, .int .i64 A.1.hi, .int .i64 A.2.lo, .int .i64 A.2.hi] 60) :: (b2, .cells #[.int .i64 d.x, .int .i64 d.y, .int .i64 d.z, .slice ba l.length bc, .int .i64 n, .int .i64 m] 39) :: (b1, .cells #[.string v.name, .int .i64 v.gravity.lo, .int .i64 v.gravity.hi, av, pv, .slice qa v.pieces.length qc] 28) :: ((gb3, .cells cur3 54) :: [(gb1, .cells cur1 62)])) (fun (j, A) => j ≤ b ∧ A = comeA (ofI v d l k.toNat) a j) (fun (j, A) => b - j) ((0, (Fl.spZ, Fl.spZ))) (.cons rfl (.nil _)) (by repeat (first | exact List.nil_sublist _ | exact List.Sublist.refl _ | apply List.Sublist.cons_cons | apply List.Sublist.cons)) (⟨by omega, (comeA_lt (by omega)).symm⟩) ?_
  rintro ⟨j, A⟩ hi
  obtain ⟨hj1, hA2⟩ := hi
  dsimp only at hj1 hA2 ⊢
  refine V_seq ?_
  refine Vs rfl ?_
  iterate 2 refine Lm rfl rfl rfl ?_
  refine Lp rfl (p_leq rfl rfl rfl) ?_
  refine L_then (kp [2, 3, 5, 7, 8, 9, 10, 12, 13, 14, 153] rfl) ?_
  refine V_cond rfl ?_ ?_
  ·intro c4; try simp only [td] at c4
   have q1 : j + 1 < a → (flrI v k.toNat) < ((ofI v d l k.toNat) (j + 1)).p.z.lo := hI.above (j + 1) (by omega)
   have q2 : j + 1 < b → (flrI v k.toNat) < ((ofI v d l k.toNat) (j + 1)).p.z.hi := hI.up (j + 1) (by omega)
   have q3 : j + 1 = a → ((ofI v d l k.toNat) (j + 1)).p.z.lo ≤ (flrI v k.toNat) := fun e => by rw [e]; exact hI.low
   have q4 : j + 1 = b → ((ofI v d l k.toNat) (j + 1)).p.z.hi ≤ (flrI v k.toNat) := fun e => by rw [e]; exact hI.down
   have hzz : (((ofI v d l k.toNat) (j + 1)).p.z.hi ≤ (flrI v k.toNat)) ↔ ((j : Int) + 1 = (b : Int)) := by omega
   refine V_skip (then_n ?_)
   refine V_seq ?_
   refine V_block ?_
   refine V_seq ?_
   refine Vs rfl ?_
   iterate 2 refine Lm rfl rfl rfl ?_
   refine Lp rfl (p_idxo es40 rfl rfl rfl (by omega) (by omega)) ?_
   refine Lp rfl (p_fieldo fo54_2 rfl rfl) ?_
   refine Lp rfl (p_fieldo fo23_0 rfl rfl) ?_
   refine Lr rfl (r_load ag3 rfl rfl (by repeat first | exact mH | apply mT | apply List.mem_append_right) (v := .int .i64 ((ofI v d l k.toNat) (j + 1)).p.z.lo) (st_cell (f := (ofI v d l k.toNat)) (k := j + 1) hcur3 rfl (by omega) (idx := 4) (by omega) rfl)) ?_
   refine Lm rfl rfl rfl ?_
   refine Lp rfl (p_leq rfl rfl rfl) ?_
   refine Lm rfl rfl rfl ?_
   refine L_cases (d := 164) rfl ?_ ?_
   ·intro g3; have g3' := g3; try simp only [td] at g3'
    refine L_yes rfl rfl rfl g3 (X_p (p_move rfl rfl) ?_)
    refine L_yes rfl rfl rfl g3 (X_p (p_move rfl rfl) ?_)
    first | refine L_yes rfl rfl rfl g3 (X_p (p_add' rfl rfl rfl (by unfold InI; omega)) ?_) | refine L_yes rfl rfl rfl g3 (X_p (p_add rfl rfl rfl) ?_)
    refine L_yes rfl rfl rfl g3 (X_p (p_move rfl rfl) ?_)
    refine L_yes rfl rfl rfl g3 (X_p (p_move rfl rfl) ?_)
    refine L_yes rfl rfl rfl g3 (X_p (p_idxo es56 rfl rfl rfl (by omega) (by omega)) ?_)
    refine L_yes rfl rfl rfl g3 (X_p (p_fieldo fo62_2 rfl rfl) ?_)
    refine L_yes rfl rfl rfl g3 (X_p (p_fieldo fo23_0 rfl rfl) ?_)
    refine L_yes rfl rfl rfl g3 (X_rd (r_load ag3 rfl rfl (by repeat first | exact mH | apply mT | apply List.mem_append_right) (v := .int .i64 ((frmI v k.toNat) + (a : Int))) (cur_cell (im_row (k := k.toNat) hcur1 (impsL_len h).symm (by rw [impsL_len h]; omega) (impsL_at h (by omega))) (idx := 5) (by omega) (by show some (Value.int .i64 (impT v d l k.toNat).1.at_.lo) = _; rw [hI.at_]))) ?_)
    refine L_yes rfl rfl rfl g3 (X_p (p_lss rfl rfl rfl) ?_)
    refine Lp rfl (p_pick_t rfl rfl g3 rfl) ?_
    refine Lm rfl rfl rfl ?_
    refine L_cases (d := 176) rfl ?_ ?_
    ·intro g4; have g4' := g4; try simp only [td] at g4'
     exfalso; omega
    intro g4; have g4' := g4; try simp only [td] at g4'
    refine L_yes rfl rfl rfl g4 (X_p (p_move rfl rfl) ?_)
    refine L_yes rfl rfl rfl g4 (X_p (p_move rfl rfl) ?_)
    refine L_yes rfl rfl rfl g4 (X_p (p_idxo es40 rfl rfl rfl (by omega) (by omega)) ?_)
    refine L_yes rfl rfl rfl g4 (X_p (p_fieldo fo54_2 rfl rfl) ?_)
    refine L_yes rfl rfl rfl g4 (X_p (p_fieldo fo23_1 rfl rfl) ?_)
    refine L_yes rfl rfl rfl g4 (X_rd (r_load ag3 rfl rfl (by repeat first | exact mH | apply mT | apply List.mem_append_right) (v := .int .i64 ((ofI v d l k.toNat) (j + 1)).p.z.hi) (st_cell (f := (ofI v d l k.toNat)) (k := j + 1) hcur3 rfl (by omega) (idx := 5) (by omega) rfl)) ?_)
    refine L_yes rfl rfl rfl g4 (X_p (p_move rfl rfl) ?_)
    refine L_yes rfl rfl rfl g4 (X_p (p_leq rfl rfl rfl) ?_)
    refine L_yes rfl rfl rfl g4 (X_p (p_move rfl rfl) ?_)
    refine L_yes rfl rfl rfl g4 (X_p (p_move rfl rfl) ?_)
    refine L_yes rfl rfl rfl g4 (X_p (p_eql rfl rfl rfl) ?_)
    refine L_yes rfl rfl rfl g4 (X_p (p_neqb un4 rfl rfl rfl) ?_)
    refine Lp rfl (p_pick_f rfl rfl g4 rfl) ?_
    refine L_then (kp [2, 3, 5, 7, 8, 9, 10, 12, 13, 14, 189] rfl) ?_
    refine V_cond_f rfl (by rw [show decide (((ofI v d l k.toNat) (j + 1)).p.z.hi ≤ (flrI v k.toNat)) = decide ((j : Int) + 1 = (b : Int)) from decide_eq_decide.2 hzz]; simp) ?_
    refine V_skip (then_n ?_)
    refine V_seq ?_
    refine Vs rfl ?_
    iterate 2 refine Lm rfl rfl rfl ?_
    first | refine Lp rfl (p_add' rfl rfl rfl (by unfold InI; omega)) ?_ | refine Lp rfl (p_add rfl rfl rfl) ?_
    iterate 2 refine Lm rfl rfl rfl ?_
    refine Lp rfl (p_idxo es56 rfl rfl rfl (by omega) (by omega)) ?_
    refine Lp rfl (p_fieldo fo62_2 rfl rfl) ?_
    refine Lp rfl (p_fieldo fo23_0 rfl rfl) ?_
    refine Lr rfl (r_load ag3 rfl rfl (by repeat first | exact mH | apply mT | apply List.mem_append_right) (v := .int .i64 ((frmI v k.toNat) + (a : Int))) (cur_cell (im_row (k := k.toNat) hcur1 (impsL_len h).symm (by rw [impsL_len h]; omega) (impsL_at h (by omega))) (idx := 5) (by omega) (by show some (Value.int .i64 (impT v d l k.toNat).1.at_.lo) = _; rw [hI.at_]))) ?_
    refine Lp rfl (p_eql rfl rfl rfl) ?_
    refine L_then (kp [2, 3, 5, 7, 8, 9, 10, 12, 13, 14, 199] rfl) ?_
    refine V_cond rfl ?_ ?_
    ·intro c5; try simp only [td] at c5
     refine V_seq (V_draw (.rd 0 (.rd 1 (.rd 2 (.rd 3 (.rd 4 (.rd 5 (.rd 6 (.rd 7 (.rd 8 (.rd 9 (.rd 10 (.wr 11 [] .done)))))))))))) mixed (by kernel_rfl) rfl ?_)
     iterate 2 refine Dm rfl rfl rfl rfl ?_
     refine Dp rfl rfl (p_idxo es40 rfl rfl rfl (by omega) (by omega)) ?_
     refine Dp rfl rfl (p_fieldo fo54_0 rfl rfl) ?_
     refine Dr rfl rfl (r_loadA (vs := [.int .i64 ((ofI v d l k.toNat) (j + 1)).p.x.lo, .int .i64 ((ofI v d l k.toNat) (j + 1)).p.x.hi]) ag23 sz23 rfl rfl (by repeat first | exact mH | apply mT | apply List.mem_append_right) (st_sub (f := (ofI v d l k.toNat)) (k := j + 1) hcur3 rfl (by omega) (idx := 0) (by omega) (by decide) rfl)) ?_
     iterate 2 refine Dm rfl rfl rfl rfl ?_
     refine Dp rfl rfl (p_idxo es40 rfl rfl rfl (by omega) (by omega)) ?_
     refine Dp rfl rfl (p_fieldo fo54_1 rfl rfl) ?_
     refine Dr rfl rfl (r_loadA (vs := [.int .i64 ((ofI v d l k.toNat) (j + 1)).p.y.lo, .int .i64 ((ofI v d l k.toNat) (j + 1)).p.y.hi]) ag23 sz23 rfl rfl (by repeat first | exact mH | apply mT | apply List.mem_append_right) (st_sub (f := (ofI v d l k.toNat)) (k := j + 1) hcur3 rfl (by omega) (idx := 2) (by omega) (by decide) rfl)) ?_
     refine Dp rfl rfl (p_build (r := [_, _, _, _]) pl60 zr60 rfl rfl rfl) ?_
     refine D_wr (.go (E' := []) rfl (.plain rfl) (ws (cs' := [_, _, _, _]) sz60 rfl rfl rfl rfl rfl rfl rfl) rfl ?_)
     rintro _ _ ⟨rfl, rfl⟩
     refine ⟨.nil, ?_⟩
     refine D_then (kp [2, 3, 5, 7, 8, 9, 10, 12, 13, 14] rfl) ?_
     refine Vs rfl ?_
     iterate 2 refine Lm rfl rfl rfl ?_
     refine Lp rfl (p_idxo es40 rfl rfl rfl (by omega) (by omega)) ?_
     refine Lp rfl (p_fieldo fo54_2 rfl rfl) ?_
     refine Lp rfl (p_fieldo fo23_0 rfl rfl) ?_
     refine Lr rfl (r_load ag3 rfl rfl (by repeat first | exact mH | apply mT | apply List.mem_append_right) (v := .int .i64 ((ofI v d l k.toNat) (j + 1)).p.z.lo) (st_cell (f := (ofI v d l k.toNat)) (k := j + 1) hcur3 rfl (by omega) (idx := 4) (by omega) rfl)) ?_
     refine Lm rfl rfl rfl ?_
     refine Lp rfl (p_gtr rfl rfl rfl) ?_
     refine L_then (kp [2, 3, 5, 7, 8, 9, 10, 12, 13, 14, 218] rfl) ?_
     refine V_cond rfl ?_ ?_
     ·intro c6; try simp only [td] at c6
      exfalso; omega
     intro c6; try simp only [td] at c6
     refine V_skip (then_n ?_)
     refine Vs rfl ?_
     iterate 2 refine Lm rfl rfl rfl ?_
     first | refine Lp rfl (p_add' rfl rfl rfl (by unfold InI; omega)) ?_ | refine Lp rfl (p_add rfl rfl rfl) ?_
     iterate 2 refine Lm rfl rfl rfl ?_
     refine Lp rfl (p_idxo es56 rfl rfl rfl (by omega) (by omega)) ?_
     refine Lp rfl (p_fieldo fo62_2 rfl rfl) ?_
     refine Lp rfl (p_fieldo fo23_0 rfl rfl) ?_
     refine Lr rfl (r_load ag3 rfl rfl (by repeat first | exact mH | apply mT | apply List.mem_append_right) (v := .int .i64 ((frmI v k.toNat) + (a : Int))) (cur_cell (im_row (k := k.toNat) hcur1 (impsL_len h).symm (by rw [impsL_len h]; omega) (impsL_at h (by omega))) (idx := 5) (by omega) (by show some (Value.int .i64 (impT v d l k.toNat).1.at_.lo) = _; rw [hI.at_]))) ?_
     refine Lp rfl (p_geq rfl rfl rfl) ?_
     refine L_then (kp [2, 3, 5, 7, 8, 9, 10, 12, 13, 14, 228] rfl) ?_
     refine V_cond rfl ?_ ?_
     ·intro c7; try simp only [td] at c7
      refine V_draw (.rd 0 (.rd 1 (.rd 2 (.rd 3 (.rd 4 (.rd 5 (.rd 6 (.rd 7 (.rd 8 (.rd 9 (.rd 10 (.rd 11 (.rd 12 (.rd 13 (.rd 14 (.rd 15 (.rd 16 (.rd 17 (.rd 18 (.rd 19 (.rd 21 (.rd 22 (.rd 23 (.rd 24 (.rd 25 (.rd 26 (.rd 27 (.rd 28 (.rd 29 (.rd 30 (.rd 31 (.rd 32 (.rd 33 (.rd 34 (.rd 35 (.rd 36 (.rd 37 (.rd 38 (.rd 39 (.rd 40 (.wr 20 [40, 39, 38, 37, 36, 35, 34, 33, 32, 31, 30, 29, 28, 27, 26, 25, 24, 23, 22, 21, 18, 17, 16, 15, 14, 13, 12, 11, 10, 8, 7, 6, 5, 4, 3, 2, 1, 0] (.wr 41 [39, 38, 37, 36, 35, 34, 33, 32, 31, 29, 28, 27, 26, 25, 24, 23, 22, 21, 19, 18, 17, 16, 15, 14, 13, 12, 11, 10, 9, 8, 7, 6, 5, 4, 3, 2, 1, 0] (.rd 42 (.wr 43 [] .done)))))))))))))))))))))))))))))))))))))))))))) mixed (by kernel_rfl) rfl ?_
      refine Dp rfl rfl (p_fieldo fo60_0 rfl rfl) ?_
      refine Dp rfl rfl (p_fieldo fo23_0 rfl rfl) ?_
      refine Dr rfl rfl (rl ag3 rfl rfl rfl) ?_
      iterate 2 refine Dm rfl rfl rfl rfl ?_
      refine Dp rfl rfl (p_idxo es40 rfl rfl rfl (by omega) (by omega)) ?_
      refine Dp rfl rfl (p_fieldo fo54_0 rfl rfl) ?_
      refine Dp rfl rfl (p_fieldo fo23_0 rfl rfl) ?_
      refine Dr rfl rfl (r_load ag3 rfl rfl (by repeat first | exact mH | apply mT | apply List.mem_append_right) (v := .int .i64 ((ofI v d l k.toNat) (j + 1)).p.x.lo) (st_cell (f := (ofI v d l k.toNat)) (k := j + 1) hcur3 rfl (by omega) (idx := 0) (by omega) rfl)) ?_
      refine Dp rfl rfl (p_min rfl rfl rfl) ?_
      refine Dp rfl rfl (p_fieldo fo60_0 rfl rfl) ?_
      refine Dp rfl rfl (p_fieldo fo23_1 rfl rfl) ?_
      refine Dr rfl rfl (rl ag3 rfl rfl rfl) ?_
      iterate 2 refine Dm rfl rfl rfl rfl ?_
      refine Dp rfl rfl (p_idxo es40 rfl rfl rfl (by omega) (by omega)) ?_
      refine Dp rfl rfl (p_fieldo fo54_0 rfl rfl) ?_
      refine Dp rfl rfl (p_fieldo fo23_1 rfl rfl) ?_
      refine Dr rfl rfl (r_load ag3 rfl rfl (by repeat first | exact mH | apply mT | apply List.mem_append_right) (v := .int .i64 ((ofI v d l k.toNat) (j + 1)).p.x.hi) (st_cell (f := (ofI v d l k.toNat)) (k := j + 1) hcur3 rfl (by omega) (idx := 1) (by omega) rfl)) ?_
      refine Dp rfl rfl (p_max rfl rfl rfl) ?_
      refine Dp rfl rfl (p_fieldo fo60_1 rfl rfl) ?_
      refine Dp rfl rfl (p_fieldo fo23_0 rfl rfl) ?_
      refine Dr rfl rfl (rl ag3 rfl rfl rfl) ?_
      iterate 2 refine Dm rfl rfl rfl rfl ?_
      refine Dp rfl rfl (p_idxo es40 rfl rfl rfl (by omega) (by omega)) ?_
      refine Dp rfl rfl (p_fieldo fo54_1 rfl rfl) ?_
      refine Dp rfl rfl (p_fieldo fo23_0 rfl rfl) ?_
      refine Dr rfl rfl (r_load ag3 rfl rfl (by repeat first | exact mH | apply mT | apply List.mem_append_right) (v := .int .i64 ((ofI v d l k.toNat) (j + 1)).p.y.lo) (st_cell (f := (ofI v d l k.toNat)) (k := j + 1) hcur3 rfl (by omega) (idx := 2) (by omega) rfl)) ?_
      refine Dp rfl rfl (p_min rfl rfl rfl) ?_
      refine Dp rfl rfl (p_fieldo fo60_1 rfl rfl) ?_
      refine Dp rfl rfl (p_fieldo fo23_1 rfl rfl) ?_
      refine Dr rfl rfl (rl ag3 rfl rfl rfl) ?_
      iterate 2 refine Dm rfl rfl rfl rfl ?_
      refine Dp rfl rfl (p_idxo es40 rfl rfl rfl (by omega) (by omega)) ?_
      refine Dp rfl rfl (p_fieldo fo54_1 rfl rfl) ?_
      refine Dp rfl rfl (p_fieldo fo23_1 rfl rfl) ?_
      refine Dr rfl rfl (r_load ag3 rfl rfl (by repeat first | exact mH | apply mT | apply List.mem_append_right) (v := .int .i64 ((ofI v d l k.toNat) (j + 1)).p.y.hi) (st_cell (f := (ofI v d l k.toNat)) (k := j + 1) hcur3 rfl (by omega) (idx := 3) (by omega) rfl)) ?_
      refine Dp rfl rfl (p_max rfl rfl rfl) ?_
      refine D_wr (.go (E' := [(39, _), (33, _), (29, _), (23, _), (18, _), (12, _), (8, _), (2, _)]) rfl (.plain rfl) (w_callP rfl rfl rfl (fun w hg => lspan_c _ _ w)) rfl ?_)
      rintro _ _ ⟨rfl, rfl⟩
      refine ⟨(.cons rfl (.plain rfl) (r_load ag3 rfl rfl (by repeat first | exact mH | apply mT | apply List.mem_append_right) (v := .int .i64 ((ofI v d l k.toNat) (j + 1)).p.y.hi) (st_cell (f := (ofI v d l k.toNat)) (k := j + 1) hcur3 rfl (by omega) (idx := 3) (by omega) rfl)) (.cons rfl (.plain rfl) (rl ag3 rfl rfl rfl) (.cons rfl (.plain rfl) (r_load ag3 rfl rfl (by repeat first | exact mH | apply mT | apply List.mem_append_right) (v := .int .i64 ((ofI v d l k.toNat) (j + 1)).p.y.lo) (st_cell (f := (ofI v d l k.toNat)) (k := j + 1) hcur3 rfl (by omega) (idx := 2) (by omega) rfl)) (.cons rfl (.plain rfl) (rl ag3 rfl rfl rfl) (.cons rfl (.plain rfl) (r_load ag3 rfl rfl (by repeat first | exact mH | apply mT | apply List.mem_append_right) (v := .int .i64 ((ofI v d l k.toNat) (j + 1)).p.x.hi) (st_cell (f := (ofI v d l k.toNat)) (k := j + 1) hcur3 rfl (by omega) (idx := 1) (by omega) rfl)) (.cons rfl (.plain rfl) (rl ag3 rfl rfl rfl) (.cons rfl (.plain rfl) (r_load ag3 rfl rfl (by repeat first | exact mH | apply mT | apply List.mem_append_right) (v := .int .i64 ((ofI v d l k.toNat) (j + 1)).p.x.lo) (st_cell (f := (ofI v d l k.toNat)) (k := j + 1) hcur3 rfl (by omega) (idx := 0) (by omega) rfl)) (.cons rfl (.plain rfl) (rl ag3 rfl rfl rfl) .nil)))))))), ?_⟩
      refine D_wr (.go (E' := [(39, _), (33, _), (29, _), (23, _), (18, _), (12, _), (8, _), (2, _)]) rfl (.plain rfl) (w_callP rfl rfl rfl (fun w hg => lspan_c _ _ w)) rfl ?_)
      rintro _ _ ⟨rfl, rfl⟩
      refine ⟨(.cons rfl (.plain rfl) (r_load ag3 rfl rfl (by repeat first | exact mH | apply mT | apply List.mem_append_right) (v := .int .i64 ((ofI v d l k.toNat) (j + 1)).p.y.hi) (st_cell (f := (ofI v d l k.toNat)) (k := j + 1) hcur3 rfl (by omega) (idx := 3) (by omega) rfl)) (.cons rfl (.plain rfl) (rl ag3 rfl rfl rfl) (.cons rfl (.plain rfl) (r_load ag3 rfl rfl (by repeat first | exact mH | apply mT | apply List.mem_append_right) (v := .int .i64 ((ofI v d l k.toNat) (j + 1)).p.y.lo) (st_cell (f := (ofI v d l k.toNat)) (k := j + 1) hcur3 rfl (by omega) (idx := 2) (by omega) rfl)) (.cons rfl (.plain rfl) (rl ag3 rfl rfl rfl) (.cons rfl (.plain rfl) (r_load ag3 rfl rfl (by repeat first | exact mH | apply mT | apply List.mem_append_right) (v := .int .i64 ((ofI v d l k.toNat) (j + 1)).p.x.hi) (st_cell (f := (ofI v d l k.toNat)) (k := j + 1) hcur3 rfl (by omega) (idx := 1) (by omega) rfl)) (.cons rfl (.plain rfl) (rl ag3 rfl rfl rfl) (.cons rfl (.plain rfl) (r_load ag3 rfl rfl (by repeat first | exact mH | apply mT | apply List.mem_append_right) (v := .int .i64 ((ofI v d l k.toNat) (j + 1)).p.x.lo) (st_cell (f := (ofI v d l k.toNat)) (k := j + 1) hcur3 rfl (by omega) (idx := 0) (by omega) rfl)) (.cons rfl (.plain rfl) (rl ag3 rfl rfl rfl) .nil)))))))), ?_⟩
      refine Dp rfl rfl (p_build (r := [_, _, _, _]) pl60 zr60 rfl rfl rfl) ?_
      refine D_wr (.go (E' := []) rfl (.plain rfl) (ws (cs' := [_, _, _, _]) sz60 rfl rfl rfl rfl rfl rfl rfl) rfl ?_)
      rintro _ _ ⟨rfl, rfl⟩
      refine ⟨.nil, ?_⟩
      refine D_keep (kp [2, 3, 5, 7, 8, 9, 10, 12, 13, 14] rfl) (blk_n (then_n ?_))
      refine V_region rfl ?_
      refine Lm rfl rfl rfl ?_
      first | refine Lp rfl (p_add' rfl rfl rfl (by unfold InI; omega)) ?_ | refine Lp rfl (p_add rfl rfl rfl) ?_
      refine La rfl rfl rfl ?_
      refine L_keep (kp [2, 3, 5, 7, 8, 9, 10, 12, 13, 14] rfl) (then_n ?_)
      refine ⟨(j + 1, (Fl.hullS ((ofI v d l k.toNat) (j + 1)).p.x ((ofI v d l k.toNat) (j + 1)).p.x, Fl.hullS ((ofI v d l k.toNat) (j + 1)).p.y ((ofI v d l k.toNat) (j + 1)).p.y)), ?_, ?_, (.cons rfl (.cons rfl (.cons rfl (.cons rfl (.cons rfl (.cons rfl (.cons rfl (.cons rfl (.cons rfl (.cons rfl (.nil _))))))))))), (by repeat (first | exact List.nil_sublist _ | exact List.Sublist.refl _ | apply List.Sublist.cons_cons | apply List.Sublist.cons | apply List.sublist_append_of_sublist_right)), rfl⟩
      ·have ea : a = j + 1 := by omega
       refine ⟨by omega, ?_⟩
       rw [hullS_self, hullS_self]
       dsimp only
       rw [ea, comeA_at]
      dsimp only; omega
     intro c7; try simp only [td] at c7
     exfalso; omega
    intro c5; try simp only [td] at c5
    refine V_skip (then_n ?_)
    refine Vs rfl ?_
    iterate 2 refine Lm rfl rfl rfl ?_
    first | refine Lp rfl (p_add' rfl rfl rfl (by unfold InI; omega)) ?_ | refine Lp rfl (p_add rfl rfl rfl) ?_
    iterate 2 refine Lm rfl rfl rfl ?_
    refine Lp rfl (p_idxo es56 rfl rfl rfl (by omega) (by omega)) ?_
    refine Lp rfl (p_fieldo fo62_2 rfl rfl) ?_
    refine Lp rfl (p_fieldo fo23_0 rfl rfl) ?_
    refine Lr rfl (r_load ag3 rfl rfl (by repeat first | exact mH | apply mT | apply List.mem_append_right) (v := .int .i64 ((frmI v k.toNat) + (a : Int))) (cur_cell (im_row (k := k.toNat) hcur1 (impsL_len h).symm (by rw [impsL_len h]; omega) (impsL_at h (by omega))) (idx := 5) (by omega) (by show some (Value.int .i64 (impT v d l k.toNat).1.at_.lo) = _; rw [hI.at_]))) ?_
    refine Lp rfl (p_geq rfl rfl rfl) ?_
    refine L_then (kp [2, 3, 5, 7, 8, 9, 10, 12, 13, 14, 228] rfl) ?_
    refine V_cond rfl ?_ ?_
    ·intro c8; try simp only [td] at c8
     refine V_draw (.rd 0 (.rd 1 (.rd 2 (.rd 3 (.rd 4 (.rd 5 (.rd 6 (.rd 7 (.rd 8 (.rd 9 (.rd 10 (.rd 11 (.rd 12 (.rd 13 (.rd 14 (.rd 15 (.rd 16 (.rd 17 (.rd 18 (.rd 19 (.rd 21 (.rd 22 (.rd 23 (.rd 24 (.rd 25 (.rd 26 (.rd 27 (.rd 28 (.rd 29 (.rd 30 (.rd 31 (.rd 32 (.rd 33 (.rd 34 (.rd 35 (.rd 36 (.rd 37 (.rd 38 (.rd 39 (.rd 40 (.wr 20 [40, 39, 38, 37, 36, 35, 34, 33, 32, 31, 30, 29, 28, 27, 26, 25, 24, 23, 22, 21, 18, 17, 16, 15, 14, 13, 12, 11, 10, 8, 7, 6, 5, 4, 3, 2, 1, 0] (.wr 41 [39, 38, 37, 36, 35, 34, 33, 32, 31, 29, 28, 27, 26, 25, 24, 23, 22, 21, 19, 18, 17, 16, 15, 14, 13, 12, 11, 10, 9, 8, 7, 6, 5, 4, 3, 2, 1, 0] (.rd 42 (.wr 43 [] .done)))))))))))))))))))))))))))))))))))))))))))) mixed (by kernel_rfl) rfl ?_
     refine Dp rfl rfl (p_fieldo fo60_0 rfl rfl) ?_
     refine Dp rfl rfl (p_fieldo fo23_0 rfl rfl) ?_
     refine Dr rfl rfl (rl ag3 rfl rfl rfl) ?_
     iterate 2 refine Dm rfl rfl rfl rfl ?_
     refine Dp rfl rfl (p_idxo es40 rfl rfl rfl (by omega) (by omega)) ?_
     refine Dp rfl rfl (p_fieldo fo54_0 rfl rfl) ?_
     refine Dp rfl rfl (p_fieldo fo23_0 rfl rfl) ?_
     refine Dr rfl rfl (r_load ag3 rfl rfl (by repeat first | exact mH | apply mT | apply List.mem_append_right) (v := .int .i64 ((ofI v d l k.toNat) (j + 1)).p.x.lo) (st_cell (f := (ofI v d l k.toNat)) (k := j + 1) hcur3 rfl (by omega) (idx := 0) (by omega) rfl)) ?_
     refine Dp rfl rfl (p_min rfl rfl rfl) ?_
     refine Dp rfl rfl (p_fieldo fo60_0 rfl rfl) ?_
     refine Dp rfl rfl (p_fieldo fo23_1 rfl rfl) ?_
     refine Dr rfl rfl (rl ag3 rfl rfl rfl) ?_
     iterate 2 refine Dm rfl rfl rfl rfl ?_
     refine Dp rfl rfl (p_idxo es40 rfl rfl rfl (by omega) (by omega)) ?_
     refine Dp rfl rfl (p_fieldo fo54_0 rfl rfl) ?_
     refine Dp rfl rfl (p_fieldo fo23_1 rfl rfl) ?_
     refine Dr rfl rfl (r_load ag3 rfl rfl (by repeat first | exact mH | apply mT | apply List.mem_append_right) (v := .int .i64 ((ofI v d l k.toNat) (j + 1)).p.x.hi) (st_cell (f := (ofI v d l k.toNat)) (k := j + 1) hcur3 rfl (by omega) (idx := 1) (by omega) rfl)) ?_
     refine Dp rfl rfl (p_max rfl rfl rfl) ?_
     refine Dp rfl rfl (p_fieldo fo60_1 rfl rfl) ?_
     refine Dp rfl rfl (p_fieldo fo23_0 rfl rfl) ?_
     refine Dr rfl rfl (rl ag3 rfl rfl rfl) ?_
     iterate 2 refine Dm rfl rfl rfl rfl ?_
     refine Dp rfl rfl (p_idxo es40 rfl rfl rfl (by omega) (by omega)) ?_
     refine Dp rfl rfl (p_fieldo fo54_1 rfl rfl) ?_
     refine Dp rfl rfl (p_fieldo fo23_0 rfl rfl) ?_
     refine Dr rfl rfl (r_load ag3 rfl rfl (by repeat first | exact mH | apply mT | apply List.mem_append_right) (v := .int .i64 ((ofI v d l k.toNat) (j + 1)).p.y.lo) (st_cell (f := (ofI v d l k.toNat)) (k := j + 1) hcur3 rfl (by omega) (idx := 2) (by omega) rfl)) ?_
     refine Dp rfl rfl (p_min rfl rfl rfl) ?_
     refine Dp rfl rfl (p_fieldo fo60_1 rfl rfl) ?_
     refine Dp rfl rfl (p_fieldo fo23_1 rfl rfl) ?_
     refine Dr rfl rfl (rl ag3 rfl rfl rfl) ?_
     iterate 2 refine Dm rfl rfl rfl rfl ?_
     refine Dp rfl rfl (p_idxo es40 rfl rfl rfl (by omega) (by omega)) ?_
     refine Dp rfl rfl (p_fieldo fo54_1 rfl rfl) ?_
     refine Dp rfl rfl (p_fieldo fo23_1 rfl rfl) ?_
     refine Dr rfl rfl (r_load ag3 rfl rfl (by repeat first | exact mH | apply mT | apply List.mem_append_right) (v := .int .i64 ((ofI v d l k.toNat) (j + 1)).p.y.hi) (st_cell (f := (ofI v d l k.toNat)) (k := j + 1) hcur3 rfl (by omega) (idx := 3) (by omega) rfl)) ?_
     refine Dp rfl rfl (p_max rfl rfl rfl) ?_
     refine D_wr (.go (E' := [(39, _), (33, _), (29, _), (23, _), (18, _), (12, _), (8, _), (2, _)]) rfl (.plain rfl) (w_callP rfl rfl rfl (fun w hg => lspan_c _ _ w)) rfl ?_)
     rintro _ _ ⟨rfl, rfl⟩
     refine ⟨(.cons rfl (.plain rfl) (r_load ag3 rfl rfl (by repeat first | exact mH | apply mT | apply List.mem_append_right) (v := .int .i64 ((ofI v d l k.toNat) (j + 1)).p.y.hi) (st_cell (f := (ofI v d l k.toNat)) (k := j + 1) hcur3 rfl (by omega) (idx := 3) (by omega) rfl)) (.cons rfl (.plain rfl) (rl ag3 rfl rfl rfl) (.cons rfl (.plain rfl) (r_load ag3 rfl rfl (by repeat first | exact mH | apply mT | apply List.mem_append_right) (v := .int .i64 ((ofI v d l k.toNat) (j + 1)).p.y.lo) (st_cell (f := (ofI v d l k.toNat)) (k := j + 1) hcur3 rfl (by omega) (idx := 2) (by omega) rfl)) (.cons rfl (.plain rfl) (rl ag3 rfl rfl rfl) (.cons rfl (.plain rfl) (r_load ag3 rfl rfl (by repeat first | exact mH | apply mT | apply List.mem_append_right) (v := .int .i64 ((ofI v d l k.toNat) (j + 1)).p.x.hi) (st_cell (f := (ofI v d l k.toNat)) (k := j + 1) hcur3 rfl (by omega) (idx := 1) (by omega) rfl)) (.cons rfl (.plain rfl) (rl ag3 rfl rfl rfl) (.cons rfl (.plain rfl) (r_load ag3 rfl rfl (by repeat first | exact mH | apply mT | apply List.mem_append_right) (v := .int .i64 ((ofI v d l k.toNat) (j + 1)).p.x.lo) (st_cell (f := (ofI v d l k.toNat)) (k := j + 1) hcur3 rfl (by omega) (idx := 0) (by omega) rfl)) (.cons rfl (.plain rfl) (rl ag3 rfl rfl rfl) .nil)))))))), ?_⟩
     refine D_wr (.go (E' := [(39, _), (33, _), (29, _), (23, _), (18, _), (12, _), (8, _), (2, _)]) rfl (.plain rfl) (w_callP rfl rfl rfl (fun w hg => lspan_c _ _ w)) rfl ?_)
     rintro _ _ ⟨rfl, rfl⟩
     refine ⟨(.cons rfl (.plain rfl) (r_load ag3 rfl rfl (by repeat first | exact mH | apply mT | apply List.mem_append_right) (v := .int .i64 ((ofI v d l k.toNat) (j + 1)).p.y.hi) (st_cell (f := (ofI v d l k.toNat)) (k := j + 1) hcur3 rfl (by omega) (idx := 3) (by omega) rfl)) (.cons rfl (.plain rfl) (rl ag3 rfl rfl rfl) (.cons rfl (.plain rfl) (r_load ag3 rfl rfl (by repeat first | exact mH | apply mT | apply List.mem_append_right) (v := .int .i64 ((ofI v d l k.toNat) (j + 1)).p.y.lo) (st_cell (f := (ofI v d l k.toNat)) (k := j + 1) hcur3 rfl (by omega) (idx := 2) (by omega) rfl)) (.cons rfl (.plain rfl) (rl ag3 rfl rfl rfl) (.cons rfl (.plain rfl) (r_load ag3 rfl rfl (by repeat first | exact mH | apply mT | apply List.mem_append_right) (v := .int .i64 ((ofI v d l k.toNat) (j + 1)).p.x.hi) (st_cell (f := (ofI v d l k.toNat)) (k := j + 1) hcur3 rfl (by omega) (idx := 1) (by omega) rfl)) (.cons rfl (.plain rfl) (rl ag3 rfl rfl rfl) (.cons rfl (.plain rfl) (r_load ag3 rfl rfl (by repeat first | exact mH | apply mT | apply List.mem_append_right) (v := .int .i64 ((ofI v d l k.toNat) (j + 1)).p.x.lo) (st_cell (f := (ofI v d l k.toNat)) (k := j + 1) hcur3 rfl (by omega) (idx := 0) (by omega) rfl)) (.cons rfl (.plain rfl) (rl ag3 rfl rfl rfl) .nil)))))))), ?_⟩
     refine Dp rfl rfl (p_build (r := [_, _, _, _]) pl60 zr60 rfl rfl rfl) ?_
     refine D_wr (.go (E' := []) rfl (.plain rfl) (ws (cs' := [_, _, _, _]) sz60 rfl rfl rfl rfl rfl rfl rfl) rfl ?_)
     rintro _ _ ⟨rfl, rfl⟩
     refine ⟨.nil, ?_⟩
     refine D_keep (kp [2, 3, 5, 7, 8, 9, 10, 12, 13, 14] rfl) (blk_n (then_n ?_))
     refine V_region rfl ?_
     refine Lm rfl rfl rfl ?_
     first | refine Lp rfl (p_add' rfl rfl rfl (by unfold InI; omega)) ?_ | refine Lp rfl (p_add rfl rfl rfl) ?_
     refine La rfl rfl rfl ?_
     refine L_keep (kp [2, 3, 5, 7, 8, 9, 10, 12, 13, 14] rfl) (then_n ?_)
     refine ⟨(j + 1, (Fl.hullS A.1 ((ofI v d l k.toNat) (j + 1)).p.x, Fl.hullS A.2 ((ofI v d l k.toNat) (j + 1)).p.y)), ?_, ?_, (.cons rfl (.cons rfl (.cons rfl (.cons rfl (.cons rfl (.cons rfl (.cons rfl (.cons rfl (.cons rfl (.cons rfl (.nil _))))))))))), (by repeat (first | exact List.nil_sublist _ | exact List.Sublist.refl _ | apply List.Sublist.cons_cons | apply List.Sublist.cons | apply List.sublist_append_of_sublist_right)), rfl⟩
     ·refine ⟨by omega, ?_⟩
      dsimp only
      rw [comeA_s (by omega), ← hA2]
     dsimp only; omega
    intro c8; try simp only [td] at c8
    refine V_skip (blk_n (then_n ?_))
    refine V_region rfl ?_
    refine Lm rfl rfl rfl ?_
    first | refine Lp rfl (p_add' rfl rfl rfl (by unfold InI; omega)) ?_ | refine Lp rfl (p_add rfl rfl rfl) ?_
    refine La rfl rfl rfl ?_
    refine L_keep (kp [2, 3, 5, 7, 8, 9, 10, 12, 13, 14] rfl) (then_n ?_)
    refine ⟨(j + 1, A), ?_, ?_, (.cons rfl (.cons rfl (.cons rfl (.cons rfl (.cons rfl (.cons rfl (.cons rfl (.cons rfl (.cons rfl (.cons rfl (.nil _))))))))))), (by repeat (first | exact List.nil_sublist _ | exact List.Sublist.refl _ | apply List.Sublist.cons_cons | apply List.Sublist.cons | apply List.sublist_append_of_sublist_right)), rfl⟩
    ·refine ⟨by omega, ?_⟩
     dsimp only
     rw [hA2, comeA_lt (by omega), comeA_lt (by omega)]
    dsimp only; omega
   intro g3; have g3' := g3; try simp only [td] at g3'
   iterate 10 refine L_no rfl rfl rfl g3 ?_
   refine Lp rfl (p_pick_f rfl rfl g3 rfl) ?_
   refine Lm rfl rfl rfl ?_
   refine L_yes rfl rfl rfl rfl (X_p (p_move rfl rfl) ?_)
   refine L_yes rfl rfl rfl rfl (X_p (p_move rfl rfl) ?_)
   refine L_yes rfl rfl rfl rfl (X_p (p_idxo es40 rfl rfl rfl (by omega) (by omega)) ?_)
   refine L_yes rfl rfl rfl rfl (X_p (p_fieldo fo54_2 rfl rfl) ?_)
   refine L_yes rfl rfl rfl rfl (X_p (p_fieldo fo23_1 rfl rfl) ?_)
   refine L_yes rfl rfl rfl rfl (X_rd (r_load ag3 rfl rfl (by repeat first | exact mH | apply mT | apply List.mem_append_right) (v := .int .i64 ((ofI v d l k.toNat) (j + 1)).p.z.hi) (st_cell (f := (ofI v d l k.toNat)) (k := j + 1) hcur3 rfl (by omega) (idx := 5) (by omega) rfl)) ?_)
   refine L_yes rfl rfl rfl rfl (X_p (p_move rfl rfl) ?_)
   refine L_yes rfl rfl rfl rfl (X_p (p_leq rfl rfl rfl) ?_)
   refine L_yes rfl rfl rfl rfl (X_p (p_move rfl rfl) ?_)
   refine L_yes rfl rfl rfl rfl (X_p (p_move rfl rfl) ?_)
   refine L_yes rfl rfl rfl rfl (X_p (p_eql rfl rfl rfl) ?_)
   refine L_yes rfl rfl rfl rfl (X_p (p_neqb un4 rfl rfl rfl) ?_)
   refine Lp rfl (p_pick_f rfl rfl rfl rfl) ?_
   refine L_then (kp [2, 3, 5, 7, 8, 9, 10, 12, 13, 14, 189] rfl) ?_
   refine V_cond_f rfl (by rw [show decide (((ofI v d l k.toNat) (j + 1)).p.z.hi ≤ (flrI v k.toNat)) = decide ((j : Int) + 1 = (b : Int)) from decide_eq_decide.2 hzz]; simp) ?_
   refine V_skip (then_n ?_)
   refine V_seq ?_
   refine Vs rfl ?_
   iterate 2 refine Lm rfl rfl rfl ?_
   first | refine Lp rfl (p_add' rfl rfl rfl (by unfold InI; omega)) ?_ | refine Lp rfl (p_add rfl rfl rfl) ?_
   iterate 2 refine Lm rfl rfl rfl ?_
   refine Lp rfl (p_idxo es56 rfl rfl rfl (by omega) (by omega)) ?_
   refine Lp rfl (p_fieldo fo62_2 rfl rfl) ?_
   refine Lp rfl (p_fieldo fo23_0 rfl rfl) ?_
   refine Lr rfl (r_load ag3 rfl rfl (by repeat first | exact mH | apply mT | apply List.mem_append_right) (v := .int .i64 ((frmI v k.toNat) + (a : Int))) (cur_cell (im_row (k := k.toNat) hcur1 (impsL_len h).symm (by rw [impsL_len h]; omega) (impsL_at h (by omega))) (idx := 5) (by omega) (by show some (Value.int .i64 (impT v d l k.toNat).1.at_.lo) = _; rw [hI.at_]))) ?_
   refine Lp rfl (p_eql rfl rfl rfl) ?_
   refine L_then (kp [2, 3, 5, 7, 8, 9, 10, 12, 13, 14, 199] rfl) ?_
   refine V_cond rfl ?_ ?_
   ·intro c9; try simp only [td] at c9
    refine V_seq (V_draw (.rd 0 (.rd 1 (.rd 2 (.rd 3 (.rd 4 (.rd 5 (.rd 6 (.rd 7 (.rd 8 (.rd 9 (.rd 10 (.wr 11 [] .done)))))))))))) mixed (by kernel_rfl) rfl ?_)
    iterate 2 refine Dm rfl rfl rfl rfl ?_
    refine Dp rfl rfl (p_idxo es40 rfl rfl rfl (by omega) (by omega)) ?_
    refine Dp rfl rfl (p_fieldo fo54_0 rfl rfl) ?_
    refine Dr rfl rfl (r_loadA (vs := [.int .i64 ((ofI v d l k.toNat) (j + 1)).p.x.lo, .int .i64 ((ofI v d l k.toNat) (j + 1)).p.x.hi]) ag23 sz23 rfl rfl (by repeat first | exact mH | apply mT | apply List.mem_append_right) (st_sub (f := (ofI v d l k.toNat)) (k := j + 1) hcur3 rfl (by omega) (idx := 0) (by omega) (by decide) rfl)) ?_
    iterate 2 refine Dm rfl rfl rfl rfl ?_
    refine Dp rfl rfl (p_idxo es40 rfl rfl rfl (by omega) (by omega)) ?_
    refine Dp rfl rfl (p_fieldo fo54_1 rfl rfl) ?_
    refine Dr rfl rfl (r_loadA (vs := [.int .i64 ((ofI v d l k.toNat) (j + 1)).p.y.lo, .int .i64 ((ofI v d l k.toNat) (j + 1)).p.y.hi]) ag23 sz23 rfl rfl (by repeat first | exact mH | apply mT | apply List.mem_append_right) (st_sub (f := (ofI v d l k.toNat)) (k := j + 1) hcur3 rfl (by omega) (idx := 2) (by omega) (by decide) rfl)) ?_
    refine Dp rfl rfl (p_build (r := [_, _, _, _]) pl60 zr60 rfl rfl rfl) ?_
    refine D_wr (.go (E' := []) rfl (.plain rfl) (ws (cs' := [_, _, _, _]) sz60 rfl rfl rfl rfl rfl rfl rfl) rfl ?_)
    rintro _ _ ⟨rfl, rfl⟩
    refine ⟨.nil, ?_⟩
    refine D_then (kp [2, 3, 5, 7, 8, 9, 10, 12, 13, 14] rfl) ?_
    refine Vs rfl ?_
    iterate 2 refine Lm rfl rfl rfl ?_
    refine Lp rfl (p_idxo es40 rfl rfl rfl (by omega) (by omega)) ?_
    refine Lp rfl (p_fieldo fo54_2 rfl rfl) ?_
    refine Lp rfl (p_fieldo fo23_0 rfl rfl) ?_
    refine Lr rfl (r_load ag3 rfl rfl (by repeat first | exact mH | apply mT | apply List.mem_append_right) (v := .int .i64 ((ofI v d l k.toNat) (j + 1)).p.z.lo) (st_cell (f := (ofI v d l k.toNat)) (k := j + 1) hcur3 rfl (by omega) (idx := 4) (by omega) rfl)) ?_
    refine Lm rfl rfl rfl ?_
    refine Lp rfl (p_gtr rfl rfl rfl) ?_
    refine L_then (kp [2, 3, 5, 7, 8, 9, 10, 12, 13, 14, 218] rfl) ?_
    refine V_cond rfl ?_ ?_
    ·intro c10; try simp only [td] at c10
     exfalso; omega
    intro c10; try simp only [td] at c10
    refine V_skip (then_n ?_)
    refine Vs rfl ?_
    iterate 2 refine Lm rfl rfl rfl ?_
    first | refine Lp rfl (p_add' rfl rfl rfl (by unfold InI; omega)) ?_ | refine Lp rfl (p_add rfl rfl rfl) ?_
    iterate 2 refine Lm rfl rfl rfl ?_
    refine Lp rfl (p_idxo es56 rfl rfl rfl (by omega) (by omega)) ?_
    refine Lp rfl (p_fieldo fo62_2 rfl rfl) ?_
    refine Lp rfl (p_fieldo fo23_0 rfl rfl) ?_
    refine Lr rfl (r_load ag3 rfl rfl (by repeat first | exact mH | apply mT | apply List.mem_append_right) (v := .int .i64 ((frmI v k.toNat) + (a : Int))) (cur_cell (im_row (k := k.toNat) hcur1 (impsL_len h).symm (by rw [impsL_len h]; omega) (impsL_at h (by omega))) (idx := 5) (by omega) (by show some (Value.int .i64 (impT v d l k.toNat).1.at_.lo) = _; rw [hI.at_]))) ?_
    refine Lp rfl (p_geq rfl rfl rfl) ?_
    refine L_then (kp [2, 3, 5, 7, 8, 9, 10, 12, 13, 14, 228] rfl) ?_
    refine V_cond rfl ?_ ?_
    ·intro c11; try simp only [td] at c11
     refine V_draw (.rd 0 (.rd 1 (.rd 2 (.rd 3 (.rd 4 (.rd 5 (.rd 6 (.rd 7 (.rd 8 (.rd 9 (.rd 10 (.rd 11 (.rd 12 (.rd 13 (.rd 14 (.rd 15 (.rd 16 (.rd 17 (.rd 18 (.rd 19 (.rd 21 (.rd 22 (.rd 23 (.rd 24 (.rd 25 (.rd 26 (.rd 27 (.rd 28 (.rd 29 (.rd 30 (.rd 31 (.rd 32 (.rd 33 (.rd 34 (.rd 35 (.rd 36 (.rd 37 (.rd 38 (.rd 39 (.rd 40 (.wr 20 [40, 39, 38, 37, 36, 35, 34, 33, 32, 31, 30, 29, 28, 27, 26, 25, 24, 23, 22, 21, 18, 17, 16, 15, 14, 13, 12, 11, 10, 8, 7, 6, 5, 4, 3, 2, 1, 0] (.wr 41 [39, 38, 37, 36, 35, 34, 33, 32, 31, 29, 28, 27, 26, 25, 24, 23, 22, 21, 19, 18, 17, 16, 15, 14, 13, 12, 11, 10, 9, 8, 7, 6, 5, 4, 3, 2, 1, 0] (.rd 42 (.wr 43 [] .done)))))))))))))))))))))))))))))))))))))))))))) mixed (by kernel_rfl) rfl ?_
     refine Dp rfl rfl (p_fieldo fo60_0 rfl rfl) ?_
     refine Dp rfl rfl (p_fieldo fo23_0 rfl rfl) ?_
     refine Dr rfl rfl (rl ag3 rfl rfl rfl) ?_
     iterate 2 refine Dm rfl rfl rfl rfl ?_
     refine Dp rfl rfl (p_idxo es40 rfl rfl rfl (by omega) (by omega)) ?_
     refine Dp rfl rfl (p_fieldo fo54_0 rfl rfl) ?_
     refine Dp rfl rfl (p_fieldo fo23_0 rfl rfl) ?_
     refine Dr rfl rfl (r_load ag3 rfl rfl (by repeat first | exact mH | apply mT | apply List.mem_append_right) (v := .int .i64 ((ofI v d l k.toNat) (j + 1)).p.x.lo) (st_cell (f := (ofI v d l k.toNat)) (k := j + 1) hcur3 rfl (by omega) (idx := 0) (by omega) rfl)) ?_
     refine Dp rfl rfl (p_min rfl rfl rfl) ?_
     refine Dp rfl rfl (p_fieldo fo60_0 rfl rfl) ?_
     refine Dp rfl rfl (p_fieldo fo23_1 rfl rfl) ?_
     refine Dr rfl rfl (rl ag3 rfl rfl rfl) ?_
     iterate 2 refine Dm rfl rfl rfl rfl ?_
     refine Dp rfl rfl (p_idxo es40 rfl rfl rfl (by omega) (by omega)) ?_
     refine Dp rfl rfl (p_fieldo fo54_0 rfl rfl) ?_
     refine Dp rfl rfl (p_fieldo fo23_1 rfl rfl) ?_
     refine Dr rfl rfl (r_load ag3 rfl rfl (by repeat first | exact mH | apply mT | apply List.mem_append_right) (v := .int .i64 ((ofI v d l k.toNat) (j + 1)).p.x.hi) (st_cell (f := (ofI v d l k.toNat)) (k := j + 1) hcur3 rfl (by omega) (idx := 1) (by omega) rfl)) ?_
     refine Dp rfl rfl (p_max rfl rfl rfl) ?_
     refine Dp rfl rfl (p_fieldo fo60_1 rfl rfl) ?_
     refine Dp rfl rfl (p_fieldo fo23_0 rfl rfl) ?_
     refine Dr rfl rfl (rl ag3 rfl rfl rfl) ?_
     iterate 2 refine Dm rfl rfl rfl rfl ?_
     refine Dp rfl rfl (p_idxo es40 rfl rfl rfl (by omega) (by omega)) ?_
     refine Dp rfl rfl (p_fieldo fo54_1 rfl rfl) ?_
     refine Dp rfl rfl (p_fieldo fo23_0 rfl rfl) ?_
     refine Dr rfl rfl (r_load ag3 rfl rfl (by repeat first | exact mH | apply mT | apply List.mem_append_right) (v := .int .i64 ((ofI v d l k.toNat) (j + 1)).p.y.lo) (st_cell (f := (ofI v d l k.toNat)) (k := j + 1) hcur3 rfl (by omega) (idx := 2) (by omega) rfl)) ?_
     refine Dp rfl rfl (p_min rfl rfl rfl) ?_
     refine Dp rfl rfl (p_fieldo fo60_1 rfl rfl) ?_
     refine Dp rfl rfl (p_fieldo fo23_1 rfl rfl) ?_
     refine Dr rfl rfl (rl ag3 rfl rfl rfl) ?_
     iterate 2 refine Dm rfl rfl rfl rfl ?_
     refine Dp rfl rfl (p_idxo es40 rfl rfl rfl (by omega) (by omega)) ?_
     refine Dp rfl rfl (p_fieldo fo54_1 rfl rfl) ?_
     refine Dp rfl rfl (p_fieldo fo23_1 rfl rfl) ?_
     refine Dr rfl rfl (r_load ag3 rfl rfl (by repeat first | exact mH | apply mT | apply List.mem_append_right) (v := .int .i64 ((ofI v d l k.toNat) (j + 1)).p.y.hi) (st_cell (f := (ofI v d l k.toNat)) (k := j + 1) hcur3 rfl (by omega) (idx := 3) (by omega) rfl)) ?_
     refine Dp rfl rfl (p_max rfl rfl rfl) ?_
     refine D_wr (.go (E' := [(39, _), (33, _), (29, _), (23, _), (18, _), (12, _), (8, _), (2, _)]) rfl (.plain rfl) (w_callP rfl rfl rfl (fun w hg => lspan_c _ _ w)) rfl ?_)
     rintro _ _ ⟨rfl, rfl⟩
     refine ⟨(.cons rfl (.plain rfl) (r_load ag3 rfl rfl (by repeat first | exact mH | apply mT | apply List.mem_append_right) (v := .int .i64 ((ofI v d l k.toNat) (j + 1)).p.y.hi) (st_cell (f := (ofI v d l k.toNat)) (k := j + 1) hcur3 rfl (by omega) (idx := 3) (by omega) rfl)) (.cons rfl (.plain rfl) (rl ag3 rfl rfl rfl) (.cons rfl (.plain rfl) (r_load ag3 rfl rfl (by repeat first | exact mH | apply mT | apply List.mem_append_right) (v := .int .i64 ((ofI v d l k.toNat) (j + 1)).p.y.lo) (st_cell (f := (ofI v d l k.toNat)) (k := j + 1) hcur3 rfl (by omega) (idx := 2) (by omega) rfl)) (.cons rfl (.plain rfl) (rl ag3 rfl rfl rfl) (.cons rfl (.plain rfl) (r_load ag3 rfl rfl (by repeat first | exact mH | apply mT | apply List.mem_append_right) (v := .int .i64 ((ofI v d l k.toNat) (j + 1)).p.x.hi) (st_cell (f := (ofI v d l k.toNat)) (k := j + 1) hcur3 rfl (by omega) (idx := 1) (by omega) rfl)) (.cons rfl (.plain rfl) (rl ag3 rfl rfl rfl) (.cons rfl (.plain rfl) (r_load ag3 rfl rfl (by repeat first | exact mH | apply mT | apply List.mem_append_right) (v := .int .i64 ((ofI v d l k.toNat) (j + 1)).p.x.lo) (st_cell (f := (ofI v d l k.toNat)) (k := j + 1) hcur3 rfl (by omega) (idx := 0) (by omega) rfl)) (.cons rfl (.plain rfl) (rl ag3 rfl rfl rfl) .nil)))))))), ?_⟩
     refine D_wr (.go (E' := [(39, _), (33, _), (29, _), (23, _), (18, _), (12, _), (8, _), (2, _)]) rfl (.plain rfl) (w_callP rfl rfl rfl (fun w hg => lspan_c _ _ w)) rfl ?_)
     rintro _ _ ⟨rfl, rfl⟩
     refine ⟨(.cons rfl (.plain rfl) (r_load ag3 rfl rfl (by repeat first | exact mH | apply mT | apply List.mem_append_right) (v := .int .i64 ((ofI v d l k.toNat) (j + 1)).p.y.hi) (st_cell (f := (ofI v d l k.toNat)) (k := j + 1) hcur3 rfl (by omega) (idx := 3) (by omega) rfl)) (.cons rfl (.plain rfl) (rl ag3 rfl rfl rfl) (.cons rfl (.plain rfl) (r_load ag3 rfl rfl (by repeat first | exact mH | apply mT | apply List.mem_append_right) (v := .int .i64 ((ofI v d l k.toNat) (j + 1)).p.y.lo) (st_cell (f := (ofI v d l k.toNat)) (k := j + 1) hcur3 rfl (by omega) (idx := 2) (by omega) rfl)) (.cons rfl (.plain rfl) (rl ag3 rfl rfl rfl) (.cons rfl (.plain rfl) (r_load ag3 rfl rfl (by repeat first | exact mH | apply mT | apply List.mem_append_right) (v := .int .i64 ((ofI v d l k.toNat) (j + 1)).p.x.hi) (st_cell (f := (ofI v d l k.toNat)) (k := j + 1) hcur3 rfl (by omega) (idx := 1) (by omega) rfl)) (.cons rfl (.plain rfl) (rl ag3 rfl rfl rfl) (.cons rfl (.plain rfl) (r_load ag3 rfl rfl (by repeat first | exact mH | apply mT | apply List.mem_append_right) (v := .int .i64 ((ofI v d l k.toNat) (j + 1)).p.x.lo) (st_cell (f := (ofI v d l k.toNat)) (k := j + 1) hcur3 rfl (by omega) (idx := 0) (by omega) rfl)) (.cons rfl (.plain rfl) (rl ag3 rfl rfl rfl) .nil)))))))), ?_⟩
     refine Dp rfl rfl (p_build (r := [_, _, _, _]) pl60 zr60 rfl rfl rfl) ?_
     refine D_wr (.go (E' := []) rfl (.plain rfl) (ws (cs' := [_, _, _, _]) sz60 rfl rfl rfl rfl rfl rfl rfl) rfl ?_)
     rintro _ _ ⟨rfl, rfl⟩
     refine ⟨.nil, ?_⟩
     refine D_keep (kp [2, 3, 5, 7, 8, 9, 10, 12, 13, 14] rfl) (blk_n (then_n ?_))
     refine V_region rfl ?_
     refine Lm rfl rfl rfl ?_
     first | refine Lp rfl (p_add' rfl rfl rfl (by unfold InI; omega)) ?_ | refine Lp rfl (p_add rfl rfl rfl) ?_
     refine La rfl rfl rfl ?_
     refine L_keep (kp [2, 3, 5, 7, 8, 9, 10, 12, 13, 14] rfl) (then_n ?_)
     refine ⟨(j + 1, (Fl.hullS ((ofI v d l k.toNat) (j + 1)).p.x ((ofI v d l k.toNat) (j + 1)).p.x, Fl.hullS ((ofI v d l k.toNat) (j + 1)).p.y ((ofI v d l k.toNat) (j + 1)).p.y)), ?_, ?_, (.cons rfl (.cons rfl (.cons rfl (.cons rfl (.cons rfl (.cons rfl (.cons rfl (.cons rfl (.cons rfl (.cons rfl (.nil _))))))))))), (by repeat (first | exact List.nil_sublist _ | exact List.Sublist.refl _ | apply List.Sublist.cons_cons | apply List.Sublist.cons | apply List.sublist_append_of_sublist_right)), rfl⟩
     ·have ea : a = j + 1 := by omega
      refine ⟨by omega, ?_⟩
      rw [hullS_self, hullS_self]
      dsimp only
      rw [ea, comeA_at]
     dsimp only; omega
    intro c11; try simp only [td] at c11
    exfalso; omega
   intro c9; try simp only [td] at c9
   refine V_skip (then_n ?_)
   refine Vs rfl ?_
   iterate 2 refine Lm rfl rfl rfl ?_
   first | refine Lp rfl (p_add' rfl rfl rfl (by unfold InI; omega)) ?_ | refine Lp rfl (p_add rfl rfl rfl) ?_
   iterate 2 refine Lm rfl rfl rfl ?_
   refine Lp rfl (p_idxo es56 rfl rfl rfl (by omega) (by omega)) ?_
   refine Lp rfl (p_fieldo fo62_2 rfl rfl) ?_
   refine Lp rfl (p_fieldo fo23_0 rfl rfl) ?_
   refine Lr rfl (r_load ag3 rfl rfl (by repeat first | exact mH | apply mT | apply List.mem_append_right) (v := .int .i64 ((frmI v k.toNat) + (a : Int))) (cur_cell (im_row (k := k.toNat) hcur1 (impsL_len h).symm (by rw [impsL_len h]; omega) (impsL_at h (by omega))) (idx := 5) (by omega) (by show some (Value.int .i64 (impT v d l k.toNat).1.at_.lo) = _; rw [hI.at_]))) ?_
   refine Lp rfl (p_geq rfl rfl rfl) ?_
   refine L_then (kp [2, 3, 5, 7, 8, 9, 10, 12, 13, 14, 228] rfl) ?_
   refine V_cond rfl ?_ ?_
   ·intro c12; try simp only [td] at c12
    refine V_draw (.rd 0 (.rd 1 (.rd 2 (.rd 3 (.rd 4 (.rd 5 (.rd 6 (.rd 7 (.rd 8 (.rd 9 (.rd 10 (.rd 11 (.rd 12 (.rd 13 (.rd 14 (.rd 15 (.rd 16 (.rd 17 (.rd 18 (.rd 19 (.rd 21 (.rd 22 (.rd 23 (.rd 24 (.rd 25 (.rd 26 (.rd 27 (.rd 28 (.rd 29 (.rd 30 (.rd 31 (.rd 32 (.rd 33 (.rd 34 (.rd 35 (.rd 36 (.rd 37 (.rd 38 (.rd 39 (.rd 40 (.wr 20 [40, 39, 38, 37, 36, 35, 34, 33, 32, 31, 30, 29, 28, 27, 26, 25, 24, 23, 22, 21, 18, 17, 16, 15, 14, 13, 12, 11, 10, 8, 7, 6, 5, 4, 3, 2, 1, 0] (.wr 41 [39, 38, 37, 36, 35, 34, 33, 32, 31, 29, 28, 27, 26, 25, 24, 23, 22, 21, 19, 18, 17, 16, 15, 14, 13, 12, 11, 10, 9, 8, 7, 6, 5, 4, 3, 2, 1, 0] (.rd 42 (.wr 43 [] .done)))))))))))))))))))))))))))))))))))))))))))) mixed (by kernel_rfl) rfl ?_
    refine Dp rfl rfl (p_fieldo fo60_0 rfl rfl) ?_
    refine Dp rfl rfl (p_fieldo fo23_0 rfl rfl) ?_
    refine Dr rfl rfl (rl ag3 rfl rfl rfl) ?_
    iterate 2 refine Dm rfl rfl rfl rfl ?_
    refine Dp rfl rfl (p_idxo es40 rfl rfl rfl (by omega) (by omega)) ?_
    refine Dp rfl rfl (p_fieldo fo54_0 rfl rfl) ?_
    refine Dp rfl rfl (p_fieldo fo23_0 rfl rfl) ?_
    refine Dr rfl rfl (r_load ag3 rfl rfl (by repeat first | exact mH | apply mT | apply List.mem_append_right) (v := .int .i64 ((ofI v d l k.toNat) (j + 1)).p.x.lo) (st_cell (f := (ofI v d l k.toNat)) (k := j + 1) hcur3 rfl (by omega) (idx := 0) (by omega) rfl)) ?_
    refine Dp rfl rfl (p_min rfl rfl rfl) ?_
    refine Dp rfl rfl (p_fieldo fo60_0 rfl rfl) ?_
    refine Dp rfl rfl (p_fieldo fo23_1 rfl rfl) ?_
    refine Dr rfl rfl (rl ag3 rfl rfl rfl) ?_
    iterate 2 refine Dm rfl rfl rfl rfl ?_
    refine Dp rfl rfl (p_idxo es40 rfl rfl rfl (by omega) (by omega)) ?_
    refine Dp rfl rfl (p_fieldo fo54_0 rfl rfl) ?_
    refine Dp rfl rfl (p_fieldo fo23_1 rfl rfl) ?_
    refine Dr rfl rfl (r_load ag3 rfl rfl (by repeat first | exact mH | apply mT | apply List.mem_append_right) (v := .int .i64 ((ofI v d l k.toNat) (j + 1)).p.x.hi) (st_cell (f := (ofI v d l k.toNat)) (k := j + 1) hcur3 rfl (by omega) (idx := 1) (by omega) rfl)) ?_
    refine Dp rfl rfl (p_max rfl rfl rfl) ?_
    refine Dp rfl rfl (p_fieldo fo60_1 rfl rfl) ?_
    refine Dp rfl rfl (p_fieldo fo23_0 rfl rfl) ?_
    refine Dr rfl rfl (rl ag3 rfl rfl rfl) ?_
    iterate 2 refine Dm rfl rfl rfl rfl ?_
    refine Dp rfl rfl (p_idxo es40 rfl rfl rfl (by omega) (by omega)) ?_
    refine Dp rfl rfl (p_fieldo fo54_1 rfl rfl) ?_
    refine Dp rfl rfl (p_fieldo fo23_0 rfl rfl) ?_
    refine Dr rfl rfl (r_load ag3 rfl rfl (by repeat first | exact mH | apply mT | apply List.mem_append_right) (v := .int .i64 ((ofI v d l k.toNat) (j + 1)).p.y.lo) (st_cell (f := (ofI v d l k.toNat)) (k := j + 1) hcur3 rfl (by omega) (idx := 2) (by omega) rfl)) ?_
    refine Dp rfl rfl (p_min rfl rfl rfl) ?_
    refine Dp rfl rfl (p_fieldo fo60_1 rfl rfl) ?_
    refine Dp rfl rfl (p_fieldo fo23_1 rfl rfl) ?_
    refine Dr rfl rfl (rl ag3 rfl rfl rfl) ?_
    iterate 2 refine Dm rfl rfl rfl rfl ?_
    refine Dp rfl rfl (p_idxo es40 rfl rfl rfl (by omega) (by omega)) ?_
    refine Dp rfl rfl (p_fieldo fo54_1 rfl rfl) ?_
    refine Dp rfl rfl (p_fieldo fo23_1 rfl rfl) ?_
    refine Dr rfl rfl (r_load ag3 rfl rfl (by repeat first | exact mH | apply mT | apply List.mem_append_right) (v := .int .i64 ((ofI v d l k.toNat) (j + 1)).p.y.hi) (st_cell (f := (ofI v d l k.toNat)) (k := j + 1) hcur3 rfl (by omega) (idx := 3) (by omega) rfl)) ?_
    refine Dp rfl rfl (p_max rfl rfl rfl) ?_
    refine D_wr (.go (E' := [(39, _), (33, _), (29, _), (23, _), (18, _), (12, _), (8, _), (2, _)]) rfl (.plain rfl) (w_callP rfl rfl rfl (fun w hg => lspan_c _ _ w)) rfl ?_)
    rintro _ _ ⟨rfl, rfl⟩
    refine ⟨(.cons rfl (.plain rfl) (r_load ag3 rfl rfl (by repeat first | exact mH | apply mT | apply List.mem_append_right) (v := .int .i64 ((ofI v d l k.toNat) (j + 1)).p.y.hi) (st_cell (f := (ofI v d l k.toNat)) (k := j + 1) hcur3 rfl (by omega) (idx := 3) (by omega) rfl)) (.cons rfl (.plain rfl) (rl ag3 rfl rfl rfl) (.cons rfl (.plain rfl) (r_load ag3 rfl rfl (by repeat first | exact mH | apply mT | apply List.mem_append_right) (v := .int .i64 ((ofI v d l k.toNat) (j + 1)).p.y.lo) (st_cell (f := (ofI v d l k.toNat)) (k := j + 1) hcur3 rfl (by omega) (idx := 2) (by omega) rfl)) (.cons rfl (.plain rfl) (rl ag3 rfl rfl rfl) (.cons rfl (.plain rfl) (r_load ag3 rfl rfl (by repeat first | exact mH | apply mT | apply List.mem_append_right) (v := .int .i64 ((ofI v d l k.toNat) (j + 1)).p.x.hi) (st_cell (f := (ofI v d l k.toNat)) (k := j + 1) hcur3 rfl (by omega) (idx := 1) (by omega) rfl)) (.cons rfl (.plain rfl) (rl ag3 rfl rfl rfl) (.cons rfl (.plain rfl) (r_load ag3 rfl rfl (by repeat first | exact mH | apply mT | apply List.mem_append_right) (v := .int .i64 ((ofI v d l k.toNat) (j + 1)).p.x.lo) (st_cell (f := (ofI v d l k.toNat)) (k := j + 1) hcur3 rfl (by omega) (idx := 0) (by omega) rfl)) (.cons rfl (.plain rfl) (rl ag3 rfl rfl rfl) .nil)))))))), ?_⟩
    refine D_wr (.go (E' := [(39, _), (33, _), (29, _), (23, _), (18, _), (12, _), (8, _), (2, _)]) rfl (.plain rfl) (w_callP rfl rfl rfl (fun w hg => lspan_c _ _ w)) rfl ?_)
    rintro _ _ ⟨rfl, rfl⟩
    refine ⟨(.cons rfl (.plain rfl) (r_load ag3 rfl rfl (by repeat first | exact mH | apply mT | apply List.mem_append_right) (v := .int .i64 ((ofI v d l k.toNat) (j + 1)).p.y.hi) (st_cell (f := (ofI v d l k.toNat)) (k := j + 1) hcur3 rfl (by omega) (idx := 3) (by omega) rfl)) (.cons rfl (.plain rfl) (rl ag3 rfl rfl rfl) (.cons rfl (.plain rfl) (r_load ag3 rfl rfl (by repeat first | exact mH | apply mT | apply List.mem_append_right) (v := .int .i64 ((ofI v d l k.toNat) (j + 1)).p.y.lo) (st_cell (f := (ofI v d l k.toNat)) (k := j + 1) hcur3 rfl (by omega) (idx := 2) (by omega) rfl)) (.cons rfl (.plain rfl) (rl ag3 rfl rfl rfl) (.cons rfl (.plain rfl) (r_load ag3 rfl rfl (by repeat first | exact mH | apply mT | apply List.mem_append_right) (v := .int .i64 ((ofI v d l k.toNat) (j + 1)).p.x.hi) (st_cell (f := (ofI v d l k.toNat)) (k := j + 1) hcur3 rfl (by omega) (idx := 1) (by omega) rfl)) (.cons rfl (.plain rfl) (rl ag3 rfl rfl rfl) (.cons rfl (.plain rfl) (r_load ag3 rfl rfl (by repeat first | exact mH | apply mT | apply List.mem_append_right) (v := .int .i64 ((ofI v d l k.toNat) (j + 1)).p.x.lo) (st_cell (f := (ofI v d l k.toNat)) (k := j + 1) hcur3 rfl (by omega) (idx := 0) (by omega) rfl)) (.cons rfl (.plain rfl) (rl ag3 rfl rfl rfl) .nil)))))))), ?_⟩
    refine Dp rfl rfl (p_build (r := [_, _, _, _]) pl60 zr60 rfl rfl rfl) ?_
    refine D_wr (.go (E' := []) rfl (.plain rfl) (ws (cs' := [_, _, _, _]) sz60 rfl rfl rfl rfl rfl rfl rfl) rfl ?_)
    rintro _ _ ⟨rfl, rfl⟩
    refine ⟨.nil, ?_⟩
    refine D_keep (kp [2, 3, 5, 7, 8, 9, 10, 12, 13, 14] rfl) (blk_n (then_n ?_))
    refine V_region rfl ?_
    refine Lm rfl rfl rfl ?_
    first | refine Lp rfl (p_add' rfl rfl rfl (by unfold InI; omega)) ?_ | refine Lp rfl (p_add rfl rfl rfl) ?_
    refine La rfl rfl rfl ?_
    refine L_keep (kp [2, 3, 5, 7, 8, 9, 10, 12, 13, 14] rfl) (then_n ?_)
    refine ⟨(j + 1, (Fl.hullS A.1 ((ofI v d l k.toNat) (j + 1)).p.x, Fl.hullS A.2 ((ofI v d l k.toNat) (j + 1)).p.y)), ?_, ?_, (.cons rfl (.cons rfl (.cons rfl (.cons rfl (.cons rfl (.cons rfl (.cons rfl (.cons rfl (.cons rfl (.cons rfl (.nil _))))))))))), (by repeat (first | exact List.nil_sublist _ | exact List.Sublist.refl _ | apply List.Sublist.cons_cons | apply List.Sublist.cons | apply List.sublist_append_of_sublist_right)), rfl⟩
    ·refine ⟨by omega, ?_⟩
     dsimp only
     rw [comeA_s (by omega), ← hA2]
    dsimp only; omega
   intro c12; try simp only [td] at c12
   refine V_skip (blk_n (then_n ?_))
   refine V_region rfl ?_
   refine Lm rfl rfl rfl ?_
   first | refine Lp rfl (p_add' rfl rfl rfl (by unfold InI; omega)) ?_ | refine Lp rfl (p_add rfl rfl rfl) ?_
   refine La rfl rfl rfl ?_
   refine L_keep (kp [2, 3, 5, 7, 8, 9, 10, 12, 13, 14] rfl) (then_n ?_)
   refine ⟨(j + 1, A), ?_, ?_, (.cons rfl (.cons rfl (.cons rfl (.cons rfl (.cons rfl (.cons rfl (.cons rfl (.cons rfl (.cons rfl (.cons rfl (.nil _))))))))))), (by repeat (first | exact List.nil_sublist _ | exact List.Sublist.refl _ | apply List.Sublist.cons_cons | apply List.Sublist.cons | apply List.sublist_append_of_sublist_right)), rfl⟩
   ·refine ⟨by omega, ?_⟩
    dsimp only
    rw [hA2, comeA_lt (by omega), comeA_lt (by omega)]
   dsimp only; omega
  intro c4; try simp only [td] at c4
  have ej : j = b := by omega
  have eA : A = ((impT v d l k.toNat).1.x, (impT v d l k.toNat).1.y) := by
   rw [hA2, ej, hI.x, hI.y]; unfold comeA; rw [if_neg (by omega)]
  subst eA
  refine V_exit (then_e (then_e (blk_e rfl (then_n ?_))))
  refine V_seq (V_draw (.rd 0 (.rd 1 (.rd 2 (.rd 3 (.rd 4 (.rd 5 (.rd 6 .done))))))) mixed (by kernel_rfl) rfl ?_)
  refine Dr rfl rfl (rlA (vs := [_, _, _, _]) ag60 sz60 rfl rfl rfl) ?_
  iterate 2 refine Dm rfl rfl rfl rfl ?_
  refine Dp rfl rfl (p_idxo es56 rfl rfl rfl (by omega) (by omega)) ?_
  refine Dp rfl rfl (p_fieldo fo62_1 rfl rfl) ?_
  refine Dr rfl rfl (r_loadA (vs := [.int .i64 (impT v d l k.toNat).1.x.lo, .int .i64 (impT v d l k.toNat).1.x.hi, .int .i64 (impT v d l k.toNat).1.y.lo, .int .i64 (impT v d l k.toNat).1.y.hi]) ag60 sz60 rfl rfl (by repeat first | exact mH | apply mT | apply List.mem_append_right) (cur_sub (im_row (k := k.toNat) hcur1 (impsL_len h).symm (by rw [impsL_len h]; omega) (impsL_at h (by omega))) (idx := 1) (by omega) (by decide) rfl)) ?_
  refine Dp rfl rfl (p_neS lv60 ag60 eg60 rfl rfl rfl rfl rfl) ?_
  refine D_then (kp [2, 3, 5, 7, 278] rfl) ?_
  refine V_cond_f rfl (by simp [eqL, eqv]) ?_
  refine V_skip (blk_n (then_n ?_))
  refine V_region rfl ?_
  refine Lm rfl rfl rfl ?_
  first | refine Lp rfl (p_add' rfl rfl rfl (by unfold InI; omega)) ?_ | refine Lp rfl (p_add rfl rfl rfl) ?_
  refine La rfl rfl rfl ?_
  refine L_keep (kp [2, 3, 5, 7] rfl) (then_n ?_)
  refine ⟨k + 1, ?_, ?_, (.cons rfl (.cons rfl (.cons rfl (.cons rfl (.nil _))))), (by repeat (first | exact List.nil_sublist _ | exact List.Sublist.refl _ | apply List.Sublist.cons_cons | apply List.Sublist.cons | apply List.sublist_append_of_sublist_right)), rfl⟩
  ·exact ⟨by omega, by omega⟩
  omega
 intro c1; try simp only [td] at c1
 refine V_exit (then_e (then_e (blk_e rfl (then_n ?_))))
 refine Vs rfl ?_
 refine Lc rfl rfl rfl rfl (fun w hg => lAwake_c w) ?_
 refine La rfl rfl rfl ?_
 refine L_then (kp [4] rfl) ?_
 refine V_ret ?_
 refine Leave.nil (.tmp rfl .nil) ?_
 rfl
theorem flightComes_c (v : Veh) (d : Dir) (l : List Fl.Band) (av pv qv bv : Value) (n m : Int) (w : World) (hv : VehR w (VehV v av pv qv) v) (hl : BdsR w bv l) : FnP Try.prog 7 [VehV v av pv qv, .agg #[.int .i64 d.x, .int .i64 d.y, .int .i64 d.z, bv, .int .i64 n, .int .i64 m]] w (.bool true) := by
 by_cases h : impsE v d l = 0
 ·exact flightComesO v d l av pv qv bv n m w hv hl h
 exact flightComesE v d l av pv qv bv n m w hv hl h

theorem own_ : ownKnob Try.prog.godebug = none := by kernel_rfl

theorem flightComes_lifted (os : Os) (started : os.Started) (H : Type) (enc : TypeId × Value → H) :
  ReturnsInHanded {} Try.checked os 7 .any (Rows.flightComesSpec.pre6 enc Try.prog Try.f7 Rows.flightComesRow.domain false) (Rows.flightComesSpec.post enc Try.prog Try.f7 false true false false) := by
 refine returnsInHanded_of_change (C := Try.checked) own_ started (by kernel_rfl) Try.func7
  (ChangeSpec.witness6 (enc := enc) (C := Try.checked) false ⟨#[], #[.agg #[.string ByteArray.empty, .int .i64 0, .int .i64 0, .slice none 0 0, .slice none 0 0, .slice none 0 0], .agg #[.int .i64 0, .int .i64 0, .int .i64 0, .slice none 0 0, .int .i64 0, .int .i64 0]], []⟩ 8 (by kernel_rfl) (by kernel_rfl) (by kernel_rfl) (by kernel_rfl)) ?_
 intro W base args ds gs before hval0 hW hcnd _
 have hval : ∀ (j : Nat) t v, Try.f7.params[j]? = some t → args[j]? = some v → Value.okWide Try.prog W .any base t v := hval0
 have hW' := hW
 obtain ⟨pA, pB, hA0, hV, rfl, _, _⟩ := hW
 have hA : DataW.TrodAll enc Try.prog W 0 (fun _ => true) true Try.f7.params.toList args.toList ds pA := hA0
 clear hA0 hval0
 rw [Try.params7] at hA hval
 obtain ⟨rfl, rfl⟩ := trodVars_none hV
 obtain ⟨v0, vs0, d0, ds0, p0, q0, ea0, rfl, rfl, h0, hA0⟩ := trodAll_cons hA
 obtain ⟨v1, vs1, d1, ds1, p1, q1, ea1, rfl, rfl, h1, hA1⟩ := trodAll_cons hA0
 obtain ⟨rfl, rfl, rfl⟩ := trodAll_nil hA1
 subst ea1
 have ea : args = #[v0, v1] := Array.toList_inj.1 ea0
 subst ea
 have k0 := hval 0 _ v0 rfl rfl
 have k1 := hval 1 _ v1 rfl rfl
 obtain ⟨v, hv⟩ := open_veh (P := Try.prog) (by kernel_rfl) k0 h0
 obtain ⟨av, pv, qv, rfl, _⟩ := hv.ex
 obtain ⟨x0, x1, x2, l, lv, n, m, rfl, _, hl⟩ := open_shot (P := Try.prog) (by kernel_rfl) k1 h1
 refine (calls_of (flightComes_c v ⟨x0, x1, x2⟩ l av pv qv _ n m W hv hl)).mono ?_
 rintro _ W' ⟨_, rfl, rfl, hE⟩
 exact ⟨_, rfl, post_true hW' rfl hE (by kernel_rfl) (by kernel_rfl) rfl rfl rfl (by kernel_rfl) Try.underlying4⟩

theorem flightComes_holds : Rows.FlightComesSaid :=
 OpenClaim.holds_of_wide 7 Try.f7 rfl rfl rfl rfl rfl rfl rfl ⟨rfl, rfl, rfl, rfl, rfl⟩ rfl rfl rfl rfl rfl (by kernel_rfl) Try.func7 (by kernel_rfl)
  (of_decide_eq_true (by kernel_rfl)) (by unfold Func.isWrapper; first | (rw [if_pos (by decide +kernel)]; kernel_rfl) | (rw [if_neg (by decide +kernel)]; exact ⟨rfl, rfl⟩))
  (fun os started H enc _ => flightComes_lifted os started H enc)
#print axioms flightComes_holds

end Go.Proofs.Ytbncegfgjbdheaa
