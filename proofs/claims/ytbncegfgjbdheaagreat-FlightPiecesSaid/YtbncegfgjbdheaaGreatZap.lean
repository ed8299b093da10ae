/- Joined texts. -/
import Derived.Test.YtbncegfgjbdheaaGreatZao
import Derived.Test.YtbncegfgjbdheaaGreatZan
/- YtbncegfgjbdheaaGreat: the reference: lists compared; Fly, Top. -/
set_option linter.all false
namespace Go.Proofs.YtbncegfgjbdheaaGreat
open Go.Vc Go.Tk Go.Fl
set_option maxRecDepth 100000
theorem rSameStates_c (l : List St) (va vb : Value) (w : World) (ha : SliceR w 12 va (l.map St.cells)) (hb : SliceR w 12 vb (l.map St.cells)) (hl : (l.length : Int) ≤ 9223372036854775806) : FnP Tryz.prog 15 [va, vb] w (.bool true) := by
 obtain ⟨aa, ca, rfl, hca, hae⟩ := ha.ex
 obtain ⟨ab, cb, rfl, hcb, hbe⟩ := hb.ex
 simp only [List.length_map] at hca hcb ⊢
 refine fn_pure Tryz.func15 rfl (by kernel_rfl) Tryz.ntmps15 Tryz.results15 rfl ?_
 refine Vs rfl ?_
 refine La rfl rfl rfl ?_
 refine L_then (kp [0, 1] rfl) ?_
 refine V_seq ?_
 refine Vs rfl ?_
 refine Lm rfl rfl rfl ?_
 refine Lp rfl (p_len isl50 rfl rfl) ?_
 refine Lm rfl rfl rfl ?_
 refine Lp rfl (p_len isl50 rfl rfl) ?_
 refine Lp rfl (p_neq rfl rfl rfl) ?_
 refine L_then (kp [0, 1, 10] rfl) ?_
 refine V_cond_f rfl (decide_eq_false (by omega)) ?_
 refine V_skip (then_n ?_)
 refine V_seq ?_
 refine Vs rfl ?_
 refine La rfl rfl rfl ?_
 refine L_then (kp [0, 1, 5] rfl) ?_
 refine V_block ?_
 refine V_loop0 (γ := Int) (kp [0, 1] rfl) (fun k => [(5, .int .i64 k)]) (fun k => 0 ≤ k ∧ k ≤ l.length) (fun k => (l.length - k).toNat) (0) (.cons rfl (.nil _)) (⟨by omega, by omega⟩) ?_
 rintro k hi
 obtain ⟨hk0, hk1⟩ := hi
 refine V_seq ?_
 refine Vs rfl ?_
 iterate 2 refine Lm rfl rfl rfl ?_
 refine Lp rfl (p_len isl50 rfl rfl) ?_
 refine Lp rfl (p_lss rfl rfl rfl) ?_
 refine L_then (kp [0, 1, 5, 14] rfl) ?_
 refine V_cond rfl ?_ ?_
 ·intro c1; try simp only [td] at c1
  obtain ⟨xa, rfl, hxa⟩ := hae k.toNat _ (getD_cells (f := St.cells) (d := Fl.stZ) (by omega))
  obtain ⟨xb, rfl, hxb⟩ := hbe k.toNat _ (getD_cells (f := St.cells) (d := Fl.stZ) (by omega))
  refine V_skip (then_n ?_)
  refine V_seq ?_
  refine V_block ?_
  refine V_seq (V_draw (.rd 0 (.rd 1 (.rd 2 (.rd 3 (.rd 4 (.rd 5 (.rd 6 (.rd 7 (.rd 8 .done))))))))) mixed (by kernel_rfl) rfl ?_)
  iterate 2 refine Dm rfl rfl rfl rfl ?_
  refine Dp rfl rfl (p_idx es50 rfl rfl rfl (by omega) (by omega)) ?_
  refine Dr rfl rfl (r_loadBA ag33 sz33 rfl rfl hxa rfl List.not_mem_nil) ?_
  iterate 2 refine Dm rfl rfl rfl rfl ?_
  refine Dp rfl rfl (p_idx es50 rfl rfl rfl (by omega) (by omega)) ?_
  refine Dr rfl rfl (r_loadBA ag33 sz33 rfl rfl hxb rfl List.not_mem_nil) ?_
  refine Dp rfl rfl (p_neS lv33 ag33 eg33 rfl rfl rfl rfl rfl) ?_
  refine D_then (kp [0, 1, 5, 25] rfl) ?_
  refine V_cond_f rfl (st_ne _) ?_
  refine V_skip (blk_n (then_n ?_))
  refine V_region rfl ?_
  refine Lm rfl rfl rfl ?_
  first | refine Lp rfl (p_add' rfl rfl rfl (by unfold InI; omega)) ?_ | refine Lp rfl (p_add rfl rfl rfl) ?_
  refine La rfl rfl rfl ?_
  refine L_keep (kp [0, 1, 5] rfl) (then_n ?_)
  refine ⟨k + 1, ?_, ?_, (.cons rfl (.cons rfl (.cons rfl (.nil _)))), (by repeat (first | exact List.Sublist.refl _ | apply List.Sublist.cons_cons | apply List.Sublist.cons | apply List.sublist_append_of_sublist_right)), rfl⟩
  ·exact ⟨by omega, by omega⟩
  omega
 intro c1; try simp only [td] at c1
 refine V_exit (then_e (then_e (blk_e rfl (then_n ?_))))
 refine Vs rfl ?_
 refine La rfl rfl rfl ?_
 refine L_then (kp [4] rfl) ?_
 refine V_ret ?_
 refine Leave.nil (.tmp rfl .nil) ?_
 rfl
set_option maxHeartbeats 8000000 in
theorem rflown_c (v : Veh) (d : Dir) (l : List Fl.Band) (av pv qv bv : Value) (w : World) (hv : VehR w (VehV v av pv qv) v) (hl : BdsR w bv l) (hGV : GoodV v) (hd : dirE d = 0) (hB : GoodB l) (n : Int) (hn : 0 ≤ n ∧ n ≤ 3000) : FnC Tryz.prog 40 [VehV v av pv qv, .agg #[.int .i64 d.x, .int .i64 d.y, .int .i64 d.z], bv, .int .i64 n] w fun u w' => ∃ Hc, Vc.Good w [] Hc w' ∧ ∃ A G, Hc = A ++ G ∧ ∃ m : Nat, (m ≤ n.toNat ∧ (∀ j, j < m → farS ((Fl.stT v d l) j) = false) ∧ (m = n.toNat ∨ farS ((Fl.stT v d l) m) = true)) ∧ LstOut 33 12 (m + 1) (stL (rowS (Fl.stT v d l) m)) (fun sv => sv) u A G := by
 have hL := hl
 obtain ⟨ba, bc, rfl, hbc, hbe⟩ := hl.sl.ex
 simp only [List.length_map] at hL ⊢
 refine fn_new Tryz.func40 rfl (by kernel_rfl) Tryz.ntmps40 Tryz.results40 rfl ?_
 refine Vs rfl ?_
 refine Lw rfl (w_box rfl rfl) ?_
 rintro _ _ ⟨b1, hb1, rfl, rfl⟩
 refine Lw rfl (w_box rfl rfl) ?_
 rintro _ _ ⟨b2, hb2, rfl, rfl⟩
 refine La rfl rfl rfl ?_
 refine L_then (kp [2, 3, 4, 5] rfl) ?_
 refine Vs rfl ?_
 refine Lp rfl (p_build (r := [_, _, _, _, _, _, _, _, _, _, _, _]) pl33 zr33 rfl rfl rfl) ?_
 refine Lw rfl (w_slice (r := [_, _, _, _, _, _, _, _, _, _, _, _]) un50 sz33 zr33 rfl (by decide) rfl (by decide) rfl rfl) ?_
 rintro _ _ ⟨b3, hb3, rfl, rfl⟩
 refine La rfl rfl rfl ?_
 refine L_then (kp [2, 3, 4, 5, 9] rfl) ?_
 refine V_seq ?_
 refine Vs rfl ?_
 refine La rfl rfl rfl ?_
 refine L_then (kp [2, 3, 4, 5, 9, 10] rfl) ?_
 refine V_block ?_
 refine V_hs (H' := (fun (k, sv, G) => (b2, .cells #[.int .i64 d.x, .int .i64 d.y, .int .i64 d.z] 30) :: (b1, .cells #[.string v.name, .int .i64 v.gravity.lo, .int .i64 v.gravity.hi, av, pv, qv] 28) :: G : (Nat × Value × Heap) → Heap) (0, .slice (some ⟨b3, 0, none⟩) 1 1, [(b3, .cells #[.int .i64 0, .int .i64 0, .int .i64 0, .int .i64 0, .int .i64 0, .int .i64 0, .int .i64 0, .int .i64 0, .int .i64 0, .int .i64 0, .int .i64 0, .int .i64 0] 33)])) (by (try dsimp only); repeat (first | exact HSub.nil _ | refine HSub.take (by repeat first | exact Take.head | apply Take.tail) ?_ | exact HSub.refl _ | refine HSub.drop ?_ | refine HSub.app ?_)) ?_
 refine V_loop1 (γ := Nat × Value × Heap) (kp [2, 3, 4, 5] rfl) (fun (k, sv, G) => [(10, .int .i64 (k : Int)), (9, sv)]) (fun (k, sv, G) => (b2, .cells #[.int .i64 d.x, .int .i64 d.y, .int .i64 d.z] 30) :: (b1, .cells #[.string v.name, .int .i64 v.gravity.lo, .int .i64 v.gravity.hi, av, pv, qv] 28) :: G) (fun (k, sv, G) => k ≤ n.toNat ∧ Grow 33 12 sv (k + 1) (stL (rowS (Fl.stT v d l) k)) G ∧ ∀ j, j < k → farS ((Fl.stT v d l) j) = false) (fun (k, sv, G) => n.toNat - k) ((0, .slice (some ⟨b3, 0, none⟩) 1 1, [(b3, .cells #[.int .i64 0, .int .i64 0, .int .i64 0, .int .i64 0, .int .i64 0, .int .i64 0, .int .i64 0, .int .i64 0, .int .i64 0, .int .i64 0, .int .i64 0, .int .i64 0] 33)])) (.cons rfl (.cons rfl (.nil _))) (by repeat (first | exact List.nil_sublist _ | exact List.Sublist.refl _ | apply List.Sublist.cons_cons | apply List.Sublist.cons)) (⟨Nat.zero_le _, Grow.row (cur := #[.int .i64 0, .int .i64 0, .int .i64 0, .int .i64 0, .int .i64 0, .int .i64 0, .int .i64 0, .int .i64 0, .int .i64 0, .int .i64 0, .int .i64 0, .int .i64 0]) (by decide) (by decide) rfl rfl rfl, fun j hj => absurd hj (Nat.not_lt_zero _)⟩) ?_
 rintro ⟨k, sv, G⟩ hi
 obtain ⟨hk1, hgr, hall⟩ := hi
 dsimp only at hk1 hgr hall ⊢
 obtain ⟨sa, sc, rfl⟩ := Grow.form hgr
 obtain ⟨gb, cur, rfl, rfl, hcur, _, _⟩ := Grow.form2 hgr (by omega)
 refine V_seq ?_
 refine Vs rfl ?_
 iterate 2 refine Lm rfl rfl rfl ?_
 refine Lp rfl (p_lss rfl rfl rfl) ?_
 refine Lm rfl rfl rfl ?_
 refine L_cases (d := 16) rfl ?_ ?_
 ·intro g1; have g1' := g1; try simp only [td] at g1'
  refine L_yes rfl rfl rfl g1 (X_p (p_move rfl rfl) ?_)
  refine L_yes rfl rfl rfl g1 (X_p (p_move rfl rfl) ?_)
  refine L_yes rfl rfl rfl g1 (X_p (p_idxo es50 rfl rfl rfl (by omega) (by omega)) ?_)
  refine L_yes rfl rfl rfl g1 (X_rd (r_loadA (vs := St.cells ((Fl.stT v d l) k)) ag33 sz33 rfl rfl (by repeat first | exact mH | apply mT) (row_st (f := (Fl.stT v d l)) hcur rfl (by omega))) ?_)
  refine L_yes rfl rfl rfl g1 (X_wr (w_callP rfl rfl rfl (fun w hg => rfar_c ((Fl.stT v d l) k) w)) ?_)
  rintro _ _ ⟨rfl, rfl⟩
  refine L_yes rfl rfl rfl g1 (X_p (p_not rfl rfl) ?_)
  refine Lp rfl (p_pick_t rfl rfl g1 rfl) ?_
  refine L_then (kp [2, 3, 4, 5, 9, 10, 23] rfl) ?_
  refine V_cond rfl ?_ ?_
  ·intro c1; try simp only [td] at c1
   have hfk : farS ((Fl.stT v d l) k) = false := by simpa using c1
   refine V_skip (then_n ?_)
   refine V_seq ?_
   refine V_block ?_
   refine V_draw (.rd 0 (.rd 1 (.rd 2 (.rd 3 (.rd 4 (.rd 5 (.rd 6 (.rd 7 (.rd 8 (.rd 9 (.rd 11 (.rd 12 (.rd 13 (.rd 14 (.wr 10 [14, 13, 12, 11, 7, 6, 5, 4, 3, 2, 1, 0] (.wr 15 [13, 12, 11, 9, 8, 4, 3, 2, 1, 0] (.wr 16 [14, 13, 12, 11, 9, 8, 7, 6, 5, 3, 2, 1, 0] (.wr 17 [14, 13, 12, 11, 9, 8, 7, 6, 5, 4, 3, 2, 1, 0] (.wr 18 [14, 13, 12, 11, 9, 8, 7, 6, 5, 4, 3, 2, 1] (.wr 19 [] .done)))))))))))))))))))) mixed (by kernel_rfl) rfl ?_
   iterate 3 refine Dm rfl rfl rfl rfl ?_
   refine Dp rfl rfl (p_idxo es50 rfl rfl rfl (by omega) (by omega)) ?_
   refine Dr rfl rfl (r_loadA (vs := St.cells ((Fl.stT v d l) k)) ag33 sz33 rfl rfl (by repeat first | exact mH | apply mT) (row_st (f := (Fl.stT v d l)) hcur rfl (by omega))) ?_
   refine Dr rfl rfl (rlA (vs := [_, _, _, _, _, _]) ag28 sz28 rfl rfl rfl) ?_
   refine Dr rfl rfl (rlA (vs := [_, _, _]) ag30 sz30 rfl rfl rfl) ?_
   refine Dm rfl rfl rfl rfl ?_
   refine Dr rfl rfl (rlA (vs := [_, _, _, _, _, _]) ag28 sz28 rfl rfl rfl) ?_
   iterate 3 refine Dm rfl rfl rfl rfl ?_
   refine Dp rfl rfl (p_idxo es50 rfl rfl rfl (by omega) (by omega)) ?_
   refine Dr rfl rfl (r_loadA (vs := St.cells ((Fl.stT v d l) k)) ag33 sz33 rfl rfl (by repeat first | exact mH | apply mT) (row_st (f := (Fl.stT v d l)) hcur rfl (by omega))) ?_
   refine D_wr (.go (E' := [(14, _), (6, _), (5, _), (4, _)]) rfl (.plain rfl) (w_callP rfl rfl rfl (fun w hg => rnow_c k (by omega) v _ hGV w (hv.good hg))) rfl ?_)
   rintro _ _ ⟨rfl, rfl⟩
   refine ⟨(.cons rfl (.plain rfl) (r_loadA (vs := St.cells ((Fl.stT v d l) k)) ag33 sz33 rfl rfl (by repeat first | exact mH | apply mT) (row_st (f := (Fl.stT v d l)) hcur rfl (by omega))) (.cons rfl (.plain rfl) (rlA (vs := [_, _, _]) ag30 sz30 rfl rfl rfl) (.cons rfl (.plain rfl) (rlA (vs := [_, _, _, _, _, _]) ag28 sz28 rfl rfl rfl) (.cons rfl (.plain rfl) (r_loadA (vs := St.cells ((Fl.stT v d l) k)) ag33 sz33 rfl rfl (by repeat first | exact mH | apply mT) (row_st (f := (Fl.stT v d l)) hcur rfl (by omega))) .nil)))), ?_⟩
   refine D_wr (.go (E' := [(4, _)]) rfl (.plain rfl) (w_callP rfl rfl rfl (fun w hg => rforce_c d l _ (nowT v (k : Int)) ((Fl.stT v d l) k) v _ w (hv.good hg) hGV hd hB (now_ph hGV k) hfk (hL.good hg))) rfl ?_)
   rintro _ _ ⟨rfl, rfl⟩
   refine ⟨(.cons rfl (.plain rfl) (r_loadA (vs := St.cells ((Fl.stT v d l) k)) ag33 sz33 rfl rfl (by repeat first | exact mH | apply mT) (row_st (f := (Fl.stT v d l)) hcur rfl (by omega))) .nil), ?_⟩
   refine D_wr (.go (E' := []) rfl (.plain rfl) (w_callP rfl rfl rfl (fun w hg => rnext_c ((Fl.stT v d l) k) (forceT v d l (nowT v (k : Int)) ((Fl.stT v d l) k)) hfk (force_bnd hGV hd hB (now_ph hGV k) (far_false.1 hfk).2) w)) rfl ?_)
   rintro _ _ ⟨rfl, rfl⟩
   refine ⟨.nil, ?_⟩
   refine D_wr (.go (E' := []) rfl (.plain rfl) (w_slice (r := [_, _, _, _, _, _, _, _, _, _, _, _]) un50 sz33 zr33 rfl (by decide) rfl (by decide) rfl rfl) rfl ?_)
   rintro _ _ ⟨b4, hb4, rfl, rfl⟩
   refine ⟨.nil, ?_⟩
   refine D_wr (.go (E' := []) rfl (.plain rfl) (w_app (pre := [_, _, _]) (G := [_]) ap50 rfl rfl rfl hgr rfl rfl (news_own (by repeat first | exact mH | apply mT)) (by intro u hu; simp only [St.cells, nextS, List.mem_cons, List.not_mem_nil, or_false] at hu; rcases hu with rfl | rfl | rfl | rfl | rfl | rfl | rfl | rfl | rfl | rfl | rfl | rfl <;> rfl) (by omega) (by simp only [maxLen]; omega)) rfl ?_)
   rintro _ _ ⟨G1a, G1c, G1, rfl, rfl, hgr1⟩
   try simp only [List.cons_append, List.nil_append, List.append_nil]
   refine ⟨.nil, ?_⟩
   refine D_wr (.go (E' := []) rfl (.plain rfl) (rd_wr (RdP.rd (p_assign rfl rfl))) rfl ?_)
   rintro _ _ ⟨rfl, rfl⟩
   refine ⟨.nil, ?_⟩
   refine D_keep (kp [2, 3, 4, 5, 9, 10] rfl) (blk_n (then_n ?_))
   refine V_region rfl ?_
   refine Lm rfl rfl rfl ?_
   first | refine Lp rfl (p_add' rfl rfl rfl (by unfold InI; omega)) ?_ | refine Lp rfl (p_add rfl rfl rfl) ?_
   refine La rfl rfl rfl ?_
   refine L_keep (kp [2, 3, 4, 5, 9, 10] rfl) (then_n ?_)
   refine ⟨(k + 1, _, G1), ?_, ?_, (.cons rfl (.cons rfl (.cons rfl (.cons rfl (.cons rfl (.cons rfl (.nil _))))))), (by repeat (first | exact List.nil_sublist _ | exact List.Sublist.refl _ | apply List.Sublist.cons_cons | apply List.Sublist.cons | apply List.sublist_append_of_sublist_right)), rfl⟩
   ·refine ⟨by dsimp only; omega, ?_, fun j hj => ?_⟩
    ·have e : stL (rowS (Fl.stT v d l) (k + 1)) = stL (rowS (Fl.stT v d l) k) ++ ((Fl.stT v d l) (k + 1)).cells := runL_s (Fl.stT v d l) (k + 1)
     dsimp only
     rw [e]; exact hgr1
    by_cases e : j < k
    ·exact hall j e
    have ej : j = k := by dsimp only at hj; omega
    rw [ej]; exact hfk
   dsimp only; omega
  intro c1; try simp only [td] at c1
  have hfk : farS ((Fl.stT v d l) k) = true := by simpa using c1
  refine V_exit (then_e (then_e (blk_e rfl (then_n ?_))))
  refine Vs rfl ?_
  refine Lm rfl rfl rfl ?_
  refine La rfl rfl rfl ?_
  refine L_then (kp [8] rfl) ?_
  refine V_ret ?_
  refine Leave.nil (.tmp rfl .nil) ?_
  exact ⟨_, (by (try dsimp only); repeat (first | exact HSub.nil _ | refine HSub.take (by repeat first | exact Take.head | apply Take.tail) ?_ | exact HSub.refl _ | refine HSub.drop ?_ | refine HSub.app ?_)), [], _, rfl, k, ⟨by omega, hall, .inr hfk⟩, rfl, _, rfl, hgr⟩
 intro g1; have g1' := g1; try simp only [td] at g1'
 iterate 6 refine L_no rfl rfl rfl g1 ?_
 refine Lp rfl (p_pick_f rfl rfl g1 rfl) ?_
 refine L_then (kp [2, 3, 4, 5, 9, 10, 23] rfl) ?_
 refine V_cond_f rfl rfl ?_
 refine V_exit (then_e (then_e (blk_e rfl (then_n ?_))))
 refine Vs rfl ?_
 refine Lm rfl rfl rfl ?_
 refine La rfl rfl rfl ?_
 refine L_then (kp [8] rfl) ?_
 refine V_ret ?_
 refine Leave.nil (.tmp rfl .nil) ?_
 exact ⟨_, (by (try dsimp only); repeat (first | exact HSub.nil _ | refine HSub.take (by repeat first | exact Take.head | apply Take.tail) ?_ | exact HSub.refl _ | refine HSub.drop ?_ | refine HSub.app ?_)), [], _, rfl, k, ⟨by omega, hall, .inl (by omega)⟩, rfl, _, rfl, hgr⟩
end Go.Proofs.YtbncegfgjbdheaaGreat

/- YtbncegfgjbdheaaGreat: the reference: Piece. -/
set_option linter.all false
namespace Go.Proofs.YtbncegfgjbdheaaGreat
open Go.Vc Go.Tk Go.Fl
set_option maxRecDepth 100000
set_option maxHeartbeats 8000000 in
theorem rparted_c (v : Veh) (d : Dir) (l : List Fl.Band) (av pv qv bv : Value) (w : World) (hv : VehR w (VehV v av pv qv) v) (hl : BdsR w bv l) (hGV : GoodV v) (hd : dirE d = 0) (hB : GoodB l) (i n : Int) (x : Fl.Piece) (hx : v.pieces.getD i.toNat pcZ = x) (hib : 0 ≤ i ∧ i < v.pieces.length) (hn : 0 ≤ n ∧ n ≤ 3000) : FnC Tryz.prog 41 [VehV v av pv qv, .agg #[.int .i64 d.x, .int .i64 d.y, .int .i64 d.z], bv, .int .i64 i, .int .i64 n] w fun u w' => ∃ Hc, Vc.Good w [] Hc w' ∧ ∃ A G, Hc = A ++ G ∧ ∃ (f : Nat → St) (m : Nat), PtdI v d l x n.toNat f m ∧ LstOut 33 12 (m + 1) (stL (rowS f m)) (fun sv => sv) u A G := by
 have hL := hl
 obtain ⟨ba, bc, rfl, hbc, hbe⟩ := hl.sl.ex
 simp only [List.length_map] at hL ⊢
 obtain ⟨qa, qc, rfl, hqc, hqe⟩ := hv.sl.2.2.ex
 simp only [List.length_map] at hqc hv ⊢
 have hpx := pc_zero (hGV.pc i.toNat (by omega))
 rw [show v.pc i.toNat = x from hx] at hpx
 have hpx1 := hpx.at_
 obtain ⟨⟨k1, k2, k3⟩, ⟨k4, k5, k6⟩, ⟨k7, k8, k9⟩⟩ := hpx.kick
 obtain ⟨tb, etb, hc⟩ := hqe i.toNat _ (getD_cells (d := pcZ) (by omega))
 subst etb
 rw [hx] at hc
 refine fn_new Tryz.func41 rfl (by kernel_rfl) Tryz.ntmps41 Tryz.results41 rfl ?_
 refine Vs rfl ?_
 refine Lw rfl (w_box rfl rfl) ?_
 rintro _ _ ⟨b1, hb1, rfl, rfl⟩
 refine Lw rfl (w_box rfl rfl) ?_
 rintro _ _ ⟨b2, hb2, rfl, rfl⟩
 refine La rfl rfl rfl ?_
 refine L_then (kp [2, 3, 4, 5, 6] rfl) ?_
 refine Vs rfl ?_
 refine Lp rfl (p_fieldo fo28_4 rfl rfl) ?_
 refine Lr rfl (rl ag26 rfl rfl rfl) ?_
 refine Lm rfl rfl rfl ?_
 refine Lp rfl (p_idx es26 rfl rfl rfl (by omega) (by omega)) ?_
 refine Lr rfl (r_loadBA ag93 sz93 rfl rfl hc rfl List.not_mem_nil) ?_
 refine Lw rfl (w_alloc zr93 rfl) ?_
 rintro _ _ ⟨b3, hb3, rfl, rfl⟩
 refine Ls (cs' := [_, _, _, _, _, _, _, _, _, _, _, _, _]) rfl sz93 rfl rfl rfl rfl rfl rfl rfl ?_
 refine L_then (kp [2, 4, 5, 6, 11] rfl) ?_
 refine Vs rfl ?_
 refine Lr rfl (rlA (vs := [_, _, _, _, _, _]) ag28 sz28 rfl rfl rfl) ?_
 refine Lr rfl (rlA (vs := [_, _, _]) ag30 sz30 rfl rfl rfl) ?_
 refine Lm rfl rfl rfl ?_
 refine Lp rfl (p_fieldo fo93_1 rfl rfl) ?_
 refine Lr rfl (rl ag3 rfl rfl rfl) ?_
 refine Lw rfl (w_callG (pre := [_, _, _]) rfl rfl rfl rfl (fun w hg => rflown_c v d l av pv _ _ w (hv.good hg) (hL.good hg) hGV hd hB x.at_ (by omega))) ?_
 rintro _ _ ⟨_, G0, rfl, hfr1, J, ⟨hm1, hm2, hm3⟩, rfl, sv1, rfl, hgr0⟩
 obtain ⟨sa, sc, rfl⟩ := Grow.form hgr0
 obtain ⟨gb, cur, rfl, rfl, hcur, _, _⟩ := Grow.form2 hgr0 (by omega)
 try simp only [List.cons_append, List.nil_append, List.append_nil]
 refine La rfl rfl rfl ?_
 refine L_then (kp [2, 4, 5, 6, 11, 12] rfl) ?_
 refine Vs rfl ?_
 iterate 2 refine Lm rfl rfl rfl ?_
 refine Lp rfl (p_len isl50 rfl rfl) ?_
 first | refine Lp rfl (p_sub' rfl rfl rfl (by unfold InI; omega)) ?_ | refine Lp rfl (p_sub rfl rfl rfl) ?_
 refine Lp rfl (p_idxo es50 rfl rfl rfl (by omega) (by omega)) ?_
 refine Lr rfl (r_loadA (vs := St.cells ((Fl.stT v d l) J)) ag33 sz33 rfl rfl (by repeat first | exact mH | apply mT) (cur_sub (row_st (f := (Fl.stT v d l)) (k := J) hcur rfl (Nat.le_refl _)) (idx := 0) (by omega) (by decide) rfl)) ?_
 refine Lw rfl (w_alloc zr33 rfl) ?_
 rintro _ _ ⟨b5, hb5, rfl, rfl⟩
 refine Ls (cs' := [_, _, _, _, _, _, _, _, _, _, _, _]) rfl sz33 rfl rfl rfl rfl rfl rfl rfl ?_
 refine L_then (kp [2, 4, 5, 6, 11, 13] rfl) ?_
 refine V_seq ?_
 refine Vs rfl ?_
 refine Lr rfl (rlA (vs := [_, _, _, _, _, _, _, _, _, _, _, _]) ag33 sz33 rfl rfl rfl) ?_
 refine Lc rfl rfl rfl rfl (fun w hg => rfar_c ((Fl.stT v d l) J) w) ?_
 refine L_then (kp [2, 4, 5, 6, 11, 13, 35] rfl) ?_
 refine V_cond rfl ?_ ?_
 ·intro c1; try simp only [td] at c1
  have hfJ : farS ((Fl.stT v d l) J) = true := c1
  refine Vs rfl ?_
  refine Lr rfl (rlA (vs := [_, _, _, _, _, _, _, _, _, _, _, _]) ag33 sz33 rfl rfl rfl) ?_
  refine Lw rfl (w_slice (r := [_, _, _, _, _, _, _, _, _, _, _, _]) un50 sz33 zr33 rfl (by decide) rfl (by decide) rfl rfl) ?_
  rintro _ _ ⟨b6, hb6, rfl, rfl⟩
  refine La rfl rfl rfl ?_
  refine L_then (kp [10] rfl) ?_
  refine V_ret (then_r ?_)
  refine Leave.nil (.tmp rfl .nil) ?_
  exact ⟨_, (by (try dsimp only); repeat (first | exact HSub.nil _ | refine HSub.take (by repeat first | exact Take.head | apply Take.tail) ?_ | exact HSub.refl _ | refine HSub.drop ?_ | refine HSub.app ?_)), [], _, rfl, _, 0, .inl ⟨J, hm1, rfl, rfl, hfJ⟩, rfl, _, rfl, Grow.row (el := 33) (cur := #[.int .i64 ((Fl.stT v d l) J).p.x.lo, .int .i64 ((Fl.stT v d l) J).p.x.hi, .int .i64 ((Fl.stT v d l) J).p.y.lo, .int .i64 ((Fl.stT v d l) J).p.y.hi, .int .i64 ((Fl.stT v d l) J).p.z.lo, .int .i64 ((Fl.stT v d l) J).p.z.hi, .int .i64 ((Fl.stT v d l) J).v.x.lo, .int .i64 ((Fl.stT v d l) J).v.x.hi, .int .i64 ((Fl.stT v d l) J).v.y.lo, .int .i64 ((Fl.stT v d l) J).v.y.hi, .int .i64 ((Fl.stT v d l) J).v.z.lo, .int .i64 ((Fl.stT v d l) J).v.z.hi]) (by decide) (by decide) rfl rfl rfl⟩
 intro c1; try simp only [td] at c1
 have hfJ : farS ((Fl.stT v d l) J) = false := c1
 have heJ : J = x.at_.toNat := hm3.resolve_right (by rw [hfJ]; decide)
 have hallJ : ∀ j, j ≤ x.at_.toNat → farS (Fl.stT v d l j) = false := fun j hj => by
  by_cases e : j = J
  ·rw [e]; exact hfJ
  exact hm2 j (by omega)
 obtain ⟨⟨⟨p1, p2, p3⟩, ⟨p4, p5, p6⟩, ⟨p7, p8, p9⟩⟩, ⟨v1, v2, v3⟩, ⟨v4, v5, v6⟩, ⟨v7, v8, v9⟩⟩ := far_false.1 hfJ
 refine V_skip (then_n ?_)
 refine V_seq (V_draw (.rd 0 (.rd 1 (.rd 2 (.rd 3 (.rd 4 (.rd 6 (.rd 7 (.rd 8 (.rd 9 (.rd 10 (.rd 12 (.rd 13 (.rd 14 (.rd 15 (.rd 16 (.wr 5 [16, 15, 14, 13, 12, 10, 9, 8, 7, 6, 3, 2, 0] (.rd 18 (.wr 11 [18, 16, 15, 14, 13, 12, 9, 8, 6, 4, 3, 2, 1, 0] (.wr 17 [18, 15, 14, 12, 10, 9, 8, 7, 6, 4, 3, 2, 1, 0] (.wr 19 [16, 15, 14, 10, 9, 8] (.rd 20 (.wr 21 [16, 15, 14] (.rd 22 (.wr 23 [] .done)))))))))))))))))))))))) mixed (by kernel_rfl) rfl ?_)
 refine Dp rfl rfl (p_fieldo fo33_3 rfl rfl) ?_
 refine Dr rfl rfl (rlA (vs := [_, _]) ag23 sz23 rfl rfl rfl) ?_
 refine Dp rfl rfl (p_fieldo fo93_4 rfl rfl) ?_
 refine Dp rfl rfl (p_fieldo fo74_0 rfl rfl) ?_
 refine Dr rfl rfl (rlA (vs := [_, _]) ag23 sz23 rfl rfl rfl) ?_
 refine Dp rfl rfl (p_fieldo fo33_4 rfl rfl) ?_
 refine Dr rfl rfl (rlA (vs := [_, _]) ag23 sz23 rfl rfl rfl) ?_
 refine Dp rfl rfl (p_fieldo fo93_4 rfl rfl) ?_
 refine Dp rfl rfl (p_fieldo fo74_1 rfl rfl) ?_
 refine Dr rfl rfl (rlA (vs := [_, _]) ag23 sz23 rfl rfl rfl) ?_
 refine Dp rfl rfl (p_fieldo fo33_5 rfl rfl) ?_
 refine Dr rfl rfl (rlA (vs := [_, _]) ag23 sz23 rfl rfl rfl) ?_
 refine Dp rfl rfl (p_fieldo fo93_4 rfl rfl) ?_
 refine Dp rfl rfl (p_fieldo fo74_2 rfl rfl) ?_
 refine Dr rfl rfl (rlA (vs := [_, _]) ag23 sz23 rfl rfl rfl) ?_
 refine D_wr (.go (E' := [(16, _), (13, _), (10, _), (7, _)]) rfl (.plain rfl) (w_callP rfl rfl rfl (fun w hg => radd_c ((Fl.stT v d l) J).v.x x.kick.x (by omega) w)) rfl ?_)
 rintro _ _ ⟨rfl, rfl⟩
 refine ⟨(.cons rfl (.plain rfl) (rlA (vs := [_, _]) ag23 sz23 rfl rfl rfl) (.cons rfl (.plain rfl) (rlA (vs := [_, _]) ag23 sz23 rfl rfl rfl) (.cons rfl (.plain rfl) (rlA (vs := [_, _]) ag23 sz23 rfl rfl rfl) (.cons rfl (.plain rfl) (rlA (vs := [_, _]) ag23 sz23 rfl rfl rfl) .nil)))), ?_⟩
 refine Dp rfl rfl (p_fieldo fo33_3 rfl rfl) ?_
 refine D_wr (.go (E' := [(16, _), (13, _)]) rfl (.plain rfl) (w_callP rfl rfl rfl (fun w hg => radd_c ((Fl.stT v d l) J).v.y x.kick.y (by omega) w)) rfl ?_)
 rintro _ _ ⟨rfl, rfl⟩
 refine ⟨(.cons rfl (.plain rfl) (rlA (vs := [_, _]) ag23 sz23 rfl rfl rfl) (.cons rfl (.plain rfl) (rlA (vs := [_, _]) ag23 sz23 rfl rfl rfl) .nil)), ?_⟩
 refine D_wr (.go (E' := []) rfl (.plain rfl) (w_callP rfl rfl rfl (fun w hg => radd_c ((Fl.stT v d l) J).v.z x.kick.z (by omega) w)) rfl ?_)
 rintro _ _ ⟨rfl, rfl⟩
 refine ⟨.nil, ?_⟩
 refine D_wr (.go (E' := []) rfl (.plain rfl) (ws (cs' := [_, _, _, _, _, _, _, _, _, _, _, _]) sz23 rfl rfl rfl rfl rfl rfl rfl) rfl ?_)
 rintro _ _ ⟨rfl, rfl⟩
 refine ⟨.nil, ?_⟩
 refine Dp rfl rfl (p_fieldo fo33_4 rfl rfl) ?_
 refine D_wr (.go (E' := []) rfl (.plain rfl) (ws (cs' := [_, _, _, _, _, _, _, _, _, _, _, _]) sz23 rfl rfl rfl rfl rfl rfl rfl) rfl ?_)
 rintro _ _ ⟨rfl, rfl⟩
 refine ⟨.nil, ?_⟩
 refine Dp rfl rfl (p_fieldo fo33_5 rfl rfl) ?_
 refine D_wr (.go (E' := []) rfl (.plain rfl) (ws (cs' := [_, _, _, _, _, _, _, _, _, _, _, _]) sz23 rfl rfl rfl rfl rfl rfl rfl) rfl ?_)
 rintro _ _ ⟨rfl, rfl⟩
 refine ⟨.nil, ?_⟩
 refine D_then (kp [2, 4, 5, 6, 11, 13] rfl) ?_
 refine Vs rfl ?_
 refine Lp rfl (p_fieldo fo93_2 rfl rfl) ?_
 refine Lr rfl (rlA (vs := [_, _]) ag23 sz23 rfl rfl rfl) ?_
 refine Lp rfl (p_fieldo fo93_3 rfl rfl) ?_
 refine Lr rfl (rlA (vs := [_, _]) ag23 sz23 rfl rfl rfl) ?_
 refine Lp rfl (p_build (r := [_, _, _, _, _, _, _, _, _, _, _, _, _]) pl76 zr76 rfl rfl rfl) ?_
 refine Lw rfl (w_alloc zr76 rfl) ?_
 rintro _ _ ⟨b6, hb6, rfl, rfl⟩
 refine Ls (cs' := [_, _, _, _, _, _, _, _, _, _, _, _, _]) rfl sz76 rfl rfl rfl rfl rfl rfl rfl ?_
 refine L_then (kp [2, 4, 5, 6, 13, 14] rfl) ?_
 refine Vs rfl ?_
 refine Lr rfl (rlA (vs := [_, _, _, _, _, _, _, _, _, _, _, _]) ag33 sz33 rfl rfl rfl) ?_
 refine Lw rfl (w_slice (r := [_, _, _, _, _, _, _, _, _, _, _, _]) un50 sz33 zr33 rfl (by decide) rfl (by decide) rfl rfl) ?_
 rintro _ _ ⟨b7, hb7, rfl, rfl⟩
 refine La rfl rfl rfl ?_
 refine L_then (kp [2, 4, 5, 6, 14, 15] rfl) ?_
 refine V_seq ?_
 refine Vs rfl ?_
 refine La rfl rfl rfl ?_
 refine L_then (kp [2, 4, 5, 6, 14, 15, 16] rfl) ?_
 refine V_block ?_
 refine V_hs (H' := (fun (k, sv, G) => (b6, .cells #[.int .i64 0, .int .i64 0, .int .i64 0, .int .i64 x.mass.lo, .int .i64 x.mass.hi, .int .i64 x.drag.lo, .int .i64 x.drag.hi, .int .i64 0, .int .i64 0, .int .i64 0, .int .i64 0, .int .i64 0, .int .i64 0] 76) :: (b2, .cells #[.int .i64 d.x, .int .i64 d.y, .int .i64 d.z] 30) :: (b1, .cells #[.string v.name, .int .i64 v.gravity.lo, .int .i64 v.gravity.hi, av, pv, .slice (some tb) v.pieces.length qc] 28) :: G : (Nat × Value × Heap) → Heap) (0, .slice (some ⟨b7, 0, none⟩) 1 1, [(b7, .cells #[.int .i64 ((Fl.stT v d l) J).p.x.lo, .int .i64 ((Fl.stT v d l) J).p.x.hi, .int .i64 ((Fl.stT v d l) J).p.y.lo, .int .i64 ((Fl.stT v d l) J).p.y.hi, .int .i64 ((Fl.stT v d l) J).p.z.lo, .int .i64 ((Fl.stT v d l) J).p.z.hi, .int .i64 (Fl.addS ((Fl.stT v d l) J).v.x x.kick.x).lo, .int .i64 (Fl.addS ((Fl.stT v d l) J).v.x x.kick.x).hi, .int .i64 (Fl.addS ((Fl.stT v d l) J).v.y x.kick.y).lo, .int .i64 (Fl.addS ((Fl.stT v d l) J).v.y x.kick.y).hi, .int .i64 (Fl.addS ((Fl.stT v d l) J).v.z x.kick.z).lo, .int .i64 (Fl.addS ((Fl.stT v d l) J).v.z x.kick.z).hi] 33)])) (by (try dsimp only); repeat (first | exact HSub.nil _ | refine HSub.take (by repeat first | exact Take.head | apply Take.tail) ?_ | exact HSub.refl _ | refine HSub.drop ?_ | refine HSub.app ?_)) ?_
 refine V_loop1 (γ := Nat × Value × Heap) (kp [2, 4, 5, 6, 14] rfl) (fun (k, sv, G) => [(16, .int .i64 (k : Int)), (15, sv)]) (fun (k, sv, G) => (b6, .cells #[.int .i64 0, .int .i64 0, .int .i64 0, .int .i64 x.mass.lo, .int .i64 x.mass.hi, .int .i64 x.drag.lo, .int .i64 x.drag.hi, .int .i64 0, .int .i64 0, .int .i64 0, .int .i64 0, .int .i64 0, .int .i64 0] 76) :: (b2, .cells #[.int .i64 d.x, .int .i64 d.y, .int .i64 d.z] 30) :: (b1, .cells #[.string v.name, .int .i64 v.gravity.lo, .int .i64 v.gravity.hi, av, pv, .slice (some tb) v.pieces.length qc] 28) :: G) (fun (k, sv, G) => k ≤ n.toNat ∧ Grow 33 12 sv (k + 1) (stL (rowS (Fl.pcT v d l x) k)) G ∧ ∀ j, j < k → farS ((Fl.pcT v d l x) j) = false) (fun (k, sv, G) => n.toNat - k) ((0, .slice (some ⟨b7, 0, none⟩) 1 1, [(b7, .cells #[.int .i64 ((Fl.stT v d l) J).p.x.lo, .int .i64 ((Fl.stT v d l) J).p.x.hi, .int .i64 ((Fl.stT v d l) J).p.y.lo, .int .i64 ((Fl.stT v d l) J).p.y.hi, .int .i64 ((Fl.stT v d l) J).p.z.lo, .int .i64 ((Fl.stT v d l) J).p.z.hi, .int .i64 (Fl.addS ((Fl.stT v d l) J).v.x x.kick.x).lo, .int .i64 (Fl.addS ((Fl.stT v d l) J).v.x x.kick.x).hi, .int .i64 (Fl.addS ((Fl.stT v d l) J).v.y x.kick.y).lo, .int .i64 (Fl.addS ((Fl.stT v d l) J).v.y x.kick.y).hi, .int .i64 (Fl.addS ((Fl.stT v d l) J).v.z x.kick.z).lo, .int .i64 (Fl.addS ((Fl.stT v d l) J).v.z x.kick.z).hi] 33)])) (.cons rfl (.cons rfl (.nil _))) (by repeat (first | exact List.nil_sublist _ | exact List.Sublist.refl _ | apply List.Sublist.cons_cons | apply List.Sublist.cons)) (⟨Nat.zero_le _, Grow.row (cur := #[.int .i64 ((Fl.stT v d l) J).p.x.lo, .int .i64 ((Fl.stT v d l) J).p.x.hi, .int .i64 ((Fl.stT v d l) J).p.y.lo, .int .i64 ((Fl.stT v d l) J).p.y.hi, .int .i64 ((Fl.stT v d l) J).p.z.lo, .int .i64 ((Fl.stT v d l) J).p.z.hi, .int .i64 (Fl.addS ((Fl.stT v d l) J).v.x x.kick.x).lo, .int .i64 (Fl.addS ((Fl.stT v d l) J).v.x x.kick.x).hi, .int .i64 (Fl.addS ((Fl.stT v d l) J).v.y x.kick.y).lo, .int .i64 (Fl.addS ((Fl.stT v d l) J).v.y x.kick.y).hi, .int .i64 (Fl.addS ((Fl.stT v d l) J).v.z x.kick.z).lo, .int .i64 (Fl.addS ((Fl.stT v d l) J).v.z x.kick.z).hi]) (by decide) (by decide) rfl (by rw [heJ]; rfl) rfl, fun j hj => absurd hj (Nat.not_lt_zero _)⟩) ?_
 rintro ⟨k, sv, G⟩ hi
 obtain ⟨hk1, hgr, hall⟩ := hi
 dsimp only at hk1 hgr hall ⊢
 obtain ⟨sa, sc, rfl⟩ := Grow.form hgr
 obtain ⟨gb, cur, rfl, rfl, hcur, _, _⟩ := Grow.form2 hgr (by omega)
 refine V_seq ?_
 refine Vs rfl ?_
 iterate 2 refine Lm rfl rfl rfl ?_
 refine Lp rfl (p_lss rfl rfl rfl) ?_
 refine Lm rfl rfl rfl ?_
 refine L_cases (d := 69) rfl ?_ ?_
 ·intro g1; have g1' := g1; try simp only [td] at g1'
  refine L_yes rfl rfl rfl g1 (X_p (p_move rfl rfl) ?_)
  refine L_yes rfl rfl rfl g1 (X_p (p_move rfl rfl) ?_)
  refine L_yes rfl rfl rfl g1 (X_p (p_idxo es50 rfl rfl rfl (by omega) (by omega)) ?_)
  refine L_yes rfl rfl rfl g1 (X_rd (r_loadA (vs := St.cells ((Fl.pcT v d l x) k)) ag33 sz33 rfl rfl (by repeat first | exact mH | apply mT) (row_st (f := (Fl.pcT v d l x)) hcur rfl (by omega))) ?_)
  refine L_yes rfl rfl rfl g1 (X_wr (w_callP rfl rfl rfl (fun w hg => rfar_c ((Fl.pcT v d l x) k) w)) ?_)
  rintro _ _ ⟨rfl, rfl⟩
  refine L_yes rfl rfl rfl g1 (X_p (p_not rfl rfl) ?_)
  refine Lp rfl (p_pick_t rfl rfl g1 rfl) ?_
  refine L_then (kp [2, 4, 5, 6, 14, 15, 16, 76] rfl) ?_
  refine V_cond rfl ?_ ?_
  ·intro c2; try simp only [td] at c2
   have hfk : farS ((Fl.pcT v d l x) k) = false := by simpa using c2
   refine V_skip (then_n ?_)
   refine V_seq ?_
   refine V_block ?_
   refine V_draw (.rd 0 (.rd 1 (.rd 2 (.rd 3 (.rd 4 (.rd 5 (.rd 6 (.rd 7 (.rd 8 (.rd 9 (.rd 10 (.rd 11 (.rd 12 (.wr 13 [11, 10, 9, 4, 3, 2, 1, 0] (.wr 14 [12, 11, 10, 9, 8, 7, 6, 5, 3, 2, 1, 0] (.wr 15 [12, 11, 10, 9, 8, 7, 6, 5, 4, 3, 2, 1, 0] (.wr 16 [12, 11, 10, 9, 8, 7, 6, 5, 4, 3, 2, 1] (.wr 17 [] .done)))))))))))))))))) mixed (by kernel_rfl) rfl ?_
   iterate 3 refine Dm rfl rfl rfl rfl ?_
   refine Dp rfl rfl (p_idxo es50 rfl rfl rfl (by omega) (by omega)) ?_
   refine Dr rfl rfl (r_loadA (vs := St.cells ((Fl.pcT v d l x) k)) ag33 sz33 rfl rfl (by repeat first | exact mH | apply mT) (row_st (f := (Fl.pcT v d l x)) hcur rfl (by omega))) ?_
   refine Dr rfl rfl (rlA (vs := [_, _, _, _, _, _]) ag28 sz28 rfl rfl rfl) ?_
   refine Dr rfl rfl (rlA (vs := [_, _, _]) ag30 sz30 rfl rfl rfl) ?_
   refine Dm rfl rfl rfl rfl ?_
   refine Dr rfl rfl (rlA (vs := [_, _, _, _, _, _, _, _, _, _, _, _, _]) ag76 sz76 rfl rfl rfl) ?_
   iterate 2 refine Dm rfl rfl rfl rfl ?_
   refine Dp rfl rfl (p_idxo es50 rfl rfl rfl (by omega) (by omega)) ?_
   refine Dr rfl rfl (r_loadA (vs := St.cells ((Fl.pcT v d l x) k)) ag33 sz33 rfl rfl (by repeat first | exact mH | apply mT) (row_st (f := (Fl.pcT v d l x)) hcur rfl (by omega))) ?_
   refine D_wr (.go (E' := [(4, _)]) rfl (.plain rfl) (w_callP rfl rfl rfl (fun w hg => rforce_c d l _ (pcPh x) ((Fl.pcT v d l x) k) v _ w (hv.good hg) hGV hd hB (PcB.ph hpx) hfk (hL.good hg))) rfl ?_)
   rintro _ _ ⟨rfl, rfl⟩
   refine ⟨(.cons rfl (.plain rfl) (r_loadA (vs := St.cells ((Fl.pcT v d l x) k)) ag33 sz33 rfl rfl (by repeat first | exact mH | apply mT) (row_st (f := (Fl.pcT v d l x)) hcur rfl (by omega))) .nil), ?_⟩
   refine D_wr (.go (E' := []) rfl (.plain rfl) (w_callP rfl rfl rfl (fun w hg => rnext_c ((Fl.pcT v d l x) k) (forceT v d l (pcPh x) ((Fl.pcT v d l x) k)) hfk (force_bnd hGV hd hB (PcB.ph hpx) (far_false.1 hfk).2) w)) rfl ?_)
   rintro _ _ ⟨rfl, rfl⟩
   refine ⟨.nil, ?_⟩
   refine D_wr (.go (E' := []) rfl (.plain rfl) (w_slice (r := [_, _, _, _, _, _, _, _, _, _, _, _]) un50 sz33 zr33 rfl (by decide) rfl (by decide) rfl rfl) rfl ?_)
   rintro _ _ ⟨b8, hb8, rfl, rfl⟩
   refine ⟨.nil, ?_⟩
   refine D_wr (.go (E' := []) rfl (.plain rfl) (w_app (pre := [_, _, _, _]) (G := [_]) ap50 rfl rfl rfl hgr rfl rfl (news_own (by repeat first | exact mH | apply mT)) (by intro u hu; simp only [St.cells, nextS, List.mem_cons, List.not_mem_nil, or_false] at hu; rcases hu with rfl | rfl | rfl | rfl | rfl | rfl | rfl | rfl | rfl | rfl | rfl | rfl <;> rfl) (by omega) (by simp only [maxLen]; omega)) rfl ?_)
   rintro _ _ ⟨G1a, G1c, G1, rfl, rfl, hgr1⟩
   try simp only [List.cons_append, List.nil_append, List.append_nil]
   refine ⟨.nil, ?_⟩
   refine D_wr (.go (E' := []) rfl (.plain rfl) (rd_wr (RdP.rd (p_assign rfl rfl))) rfl ?_)
   rintro _ _ ⟨rfl, rfl⟩
   refine ⟨.nil, ?_⟩
   refine D_keep (kp [2, 4, 5, 6, 14, 15, 16] rfl) (blk_n (then_n ?_))
   refine V_region rfl ?_
   refine Lm rfl rfl rfl ?_
   first | refine Lp rfl (p_add' rfl rfl rfl (by unfold InI; omega)) ?_ | refine Lp rfl (p_add rfl rfl rfl) ?_
   refine La rfl rfl rfl ?_
   refine L_keep (kp [2, 4, 5, 6, 14, 15, 16] rfl) (then_n ?_)
   refine ⟨(k + 1, _, G1), ?_, ?_, (.cons rfl (.cons rfl (.cons rfl (.cons rfl (.cons rfl (.cons rfl (.cons rfl (.nil _)))))))), (by repeat (first | exact List.nil_sublist _ | exact List.Sublist.refl _ | apply List.Sublist.cons_cons | apply List.Sublist.cons | apply List.sublist_append_of_sublist_right)), rfl⟩
   ·refine ⟨by dsimp only; omega, ?_, fun j hj => ?_⟩
    ·have e : stL (rowS (Fl.pcT v d l x) (k + 1)) = stL (rowS (Fl.pcT v d l x) k) ++ ((Fl.pcT v d l x) (k + 1)).cells := runL_s (Fl.pcT v d l x) (k + 1)
     dsimp only
     rw [e]; exact hgr1
    by_cases e : j < k
    ·exact hall j e
    have ej : j = k := by dsimp only at hj; omega
    rw [ej]; exact hfk
   dsimp only; omega
  intro c2; try simp only [td] at c2
  have hfk : farS ((Fl.pcT v d l x) k) = true := by simpa using c2
  refine V_exit (then_e (then_e (blk_e rfl (then_n ?_))))
  refine Vs rfl ?_
  refine Lm rfl rfl rfl ?_
  refine La rfl rfl rfl ?_
  refine L_then (kp [10] rfl) ?_
  refine V_ret ?_
  refine Leave.nil (.tmp rfl .nil) ?_
  exact ⟨_, (by (try dsimp only); repeat (first | exact HSub.nil _ | refine HSub.take (by repeat first | exact Take.head | apply Take.tail) ?_ | exact HSub.refl _ | refine HSub.drop ?_ | refine HSub.app ?_)), [], _, rfl, _, k, .inr ⟨rfl, hallJ, by omega, hall, .inr hfk⟩, rfl, _, rfl, hgr⟩
 intro g1; have g1' := g1; try simp only [td] at g1'
 iterate 6 refine L_no rfl rfl rfl g1 ?_
 refine Lp rfl (p_pick_f rfl rfl g1 rfl) ?_
 refine L_then (kp [2, 4, 5, 6, 14, 15, 16, 76] rfl) ?_
 refine V_cond_f rfl rfl ?_
 refine V_exit (then_e (then_e (blk_e rfl (then_n ?_))))
 refine Vs rfl ?_
 refine Lm rfl rfl rfl ?_
 refine La rfl rfl rfl ?_
 refine L_then (kp [10] rfl) ?_
 refine V_ret ?_
 refine Leave.nil (.tmp rfl .nil) ?_
 exact ⟨_, (by (try dsimp only); repeat (first | exact HSub.nil _ | refine HSub.take (by repeat first | exact Take.head | apply Take.tail) ?_ | exact HSub.refl _ | refine HSub.drop ?_ | refine HSub.app ?_)), [], _, rfl, _, k, .inr ⟨rfl, hallJ, by omega, hall, .inl (by omega)⟩, rfl, _, rfl, hgr⟩
set_option maxHeartbeats 4000000 in
theorem rPiece_c (v : Veh) (d : Dir) (l : List Fl.Band) (av pv qv bv : Value) (w : World) (hv : VehR w (VehV v av pv qv) v) (hl : BdsR w bv l) (i n : Int) : FnC Tryz.prog 19 [VehV v av pv qv, .agg #[.int .i64 d.x, .int .i64 d.y, .int .i64 d.z], bv, .int .i64 i, .int .i64 n] w fun u w' => ∃ Hc, Vc.Good w [] Hc w' ∧ ∃ A G, Hc = A ++ G ∧ LstOut 33 12 (pieceL v d l i n).length (stL (pieceL v d l i n)) (fun sv => .tuple #[sv, .int .i64 (pieceE v d l i n)]) u A G := by
 have hL := hl
 obtain ⟨ba, bc, rfl, hbc, hbe⟩ := hl.sl.ex
 simp only [List.length_map] at hL ⊢
 obtain ⟨qa, qc, rfl, hqc, hqe⟩ := hv.sl.2.2.ex
 simp only [List.length_map] at hqc hv ⊢
 have hql := hv.lq
 refine fn_new Tryz.func19 rfl (by kernel_rfl) Tryz.ntmps19 Tryz.results19 rfl ?_
 refine Vs rfl ?_
 refine Lw rfl (w_box rfl rfl) ?_
 rintro _ _ ⟨b1, hb1, rfl, rfl⟩
 refine Lw rfl (w_box rfl rfl) ?_
 rintro _ _ ⟨b2, hb2, rfl, rfl⟩
 iterate 2 refine La rfl rfl rfl ?_
 refine L_then (kp [2, 3, 4, 5, 6] rfl) ?_
 refine Vs rfl ?_
 refine Lr rfl (rlA (vs := [_, _, _, _, _, _]) ag28 sz28 rfl rfl rfl) ?_
 refine Lr rfl (rlA (vs := [_, _, _]) ag30 sz30 rfl rfl rfl) ?_
 refine Lm rfl rfl rfl ?_
 refine Lc rfl rfl rfl rfl (fun w hg => rasked_c v d l _ _ w (hv.good hg) (hL.good hg)) ?_
 refine La rfl rfl rfl ?_
 refine L_then (kp [2, 3, 4, 5, 6, 12] rfl) ?_
 refine V_seq ?_
 refine Vs rfl ?_
 refine Lm rfl rfl rfl ?_
 refine Lp rfl (p_eql rfl rfl rfl) ?_
 refine Lm rfl rfl rfl ?_
 refine L_cases (d := 20) rfl ?_ ?_
 ·intro g1; have g1' := g1; try simp only [td] at g1'
  refine L_yes rfl rfl rfl g1 (X_p (p_move rfl rfl) ?_)
  refine L_yes rfl rfl rfl g1 (X_p (p_fieldo fo28_4 rfl rfl) ?_)
  refine L_yes rfl rfl rfl g1 (X_rd (rl ag26 rfl rfl rfl) ?_)
  refine L_yes rfl rfl rfl g1 (X_p (p_len isl26 rfl rfl) ?_)
  first | refine L_yes rfl rfl rfl g1 (X_p (p_sub' rfl rfl rfl (by unfold InI; omega)) ?_) | refine L_yes rfl rfl rfl g1 (X_p (p_sub rfl rfl rfl) ?_)
  refine L_yes rfl rfl rfl g1 (X_wr (w_callP rfl rfl rfl (fun w hg => r2in_c _ _ _ w)) ?_)
  rintro _ _ ⟨rfl, rfl⟩
  refine L_yes rfl rfl rfl g1 (X_p (p_not rfl rfl) ?_)
  refine Lp rfl (p_pick_t rfl rfl g1 rfl) ?_
  refine L_then (kp [2, 3, 4, 5, 6, 12, 28] rfl) ?_
  refine V_cond rfl ?_ ?_
  ·intro c1; try simp only [td] at c1
   refine V_region rfl ?_
   refine La rfl rfl rfl ?_
   refine L_then (kp [2, 3, 4, 5, 6, 12] rfl) ?_
   refine V_seq ?_
   refine Vs rfl ?_
   refine Lm rfl rfl rfl ?_
   refine Lp rfl (p_eql rfl rfl rfl) ?_
   refine Lm rfl rfl rfl ?_
   iterate 10 refine L_no rfl rfl rfl rfl ?_
   refine Lp rfl (p_pick_f rfl rfl rfl rfl) ?_
   refine L_then (kp [2, 3, 4, 5, 6, 12, 42] rfl) ?_
   refine V_cond_f rfl rfl ?_
   refine V_skip (then_n ?_)
   refine V_seq ?_
   refine Vs rfl ?_
   refine Lm rfl rfl rfl ?_
   refine Lp rfl (p_neq rfl rfl rfl) ?_
   refine L_then (kp [2, 3, 4, 5, 6, 12, 44] rfl) ?_
   refine V_cond_t rfl rfl ?_
   refine Vs rfl ?_
   refine Lm rfl rfl rfl ?_
   iterate 2 refine La rfl rfl rfl ?_
   refine L_then (kp [10, 11] rfl) ?_
   refine V_ret (then_r ?_)
   refine Leave.nil (.tmp rfl (.tmp rfl .nil)) ?_
   first | (exfalso; omega) | (have hgr9 : Grow 33 12 (.slice (some ⟨gb, 0, none⟩) (m + 1) sc) (pieceL v d l i n).length (stL (pieceL v d l i n)) _ := (by rw [h8, rowS_len]; exact hgr); exact ⟨_, (by (try dsimp only); repeat (first | exact HSub.nil _ | refine HSub.take (by repeat first | exact Take.head | apply Take.tail) ?_ | exact HSub.refl _ | refine HSub.drop ?_ | refine HSub.app ?_)), [], _, rfl, rfl, _, by rw [h9]; rfl, hgr9⟩) | (refine ⟨[], HSub.nil _, [], [], rfl, rfl, .slice none 0 0, by rw [h9]; rfl, ?_⟩; rw [pieceL_bad (by rw [h9]; first | assumption | decide)]; exact .nil) | (have h9 := piece_asked (v := v) (d := d) (l := l) (i := i) (n := n) (by first | assumption | (intro hx; simp_all)); refine ⟨[], HSub.nil _, [], [], rfl, rfl, .slice none 0 0, by rw [h9]; rfl, ?_⟩; rw [pieceL_bad (by rw [h9]; first | assumption | decide)]; exact .nil) | (have h9 := piece_none (v := v) (d := d) (l := l) (i := i) (n := n) (by first | assumption | omega) (by assumption); refine ⟨[], HSub.nil _, [], [], rfl, rfl, .slice none 0 0, by rw [h9]; rfl, ?_⟩; rw [pieceL_bad (by rw [h9]; first | assumption | decide)]; exact .nil) | (have h9 := piece_range (v := v) (d := d) (l := l) (i := i) (n := n) (by first | assumption | omega) (by assumption) (by assumption); refine ⟨[], HSub.nil _, [], [], rfl, rfl, .slice none 0 0, by rw [h9]; rfl, ?_⟩; rw [pieceL_bad (by rw [h9]; first | assumption | decide)]; exact .nil)
  intro c1; try simp only [td] at c1
  refine V_skip (then_n ?_)
  refine V_seq ?_
  refine Vs rfl ?_
  refine Lm rfl rfl rfl ?_
  refine Lp rfl (p_eql rfl rfl rfl) ?_
  refine Lm rfl rfl rfl ?_
  refine L_cases (d := 31) rfl ?_ ?_
  ·intro g2; have g2' := g2; try simp only [td] at g2'
   have hio : 0 ≤ i ∧ i ≤ v.pieces.length - 1 := by first | exact oP_false.1 (show oP i 0 (v.pieces.length - 1) = false by assumption) | (exfalso; omega)
   obtain ⟨tb, etb, hc⟩ := hqe i.toNat _ (getD_cells (d := pcZ) (by omega))
   subst etb
   have hpx := pc_zero ((Fl.asked_good (d := d) (l := l) (by first | assumption | omega)).1.pc i.toNat (by omega))
   have hpx1 := hpx.at_
   simp only [Veh.pc] at hpx1
   refine L_yes rfl rfl rfl g2 (X_p (p_move rfl rfl) ?_)
   refine L_yes rfl rfl rfl g2 (X_p (p_fieldo fo28_4 rfl rfl) ?_)
   refine L_yes rfl rfl rfl g2 (X_rd (rl ag26 rfl rfl rfl) ?_)
   refine L_yes rfl rfl rfl g2 (X_p (p_move rfl rfl) ?_)
   refine L_yes rfl rfl rfl g2 (X_p (p_idx es26 rfl rfl rfl (by omega) (by omega)) ?_)
   refine L_yes rfl rfl rfl g2 (X_p (p_field fo93_1 rfl rfl) ?_)
   refine L_yes rfl rfl rfl g2 (X_rd (r_loadB ag3 rfl rfl (hc 1 _ rfl) List.not_mem_nil) ?_)
   first | refine L_yes rfl rfl rfl g2 (X_p (p_sub' rfl rfl rfl (by unfold InI; omega)) ?_) | refine L_yes rfl rfl rfl g2 (X_p (p_sub rfl rfl rfl) ?_)
   refine L_yes rfl rfl rfl g2 (X_wr (w_callP rfl rfl rfl (fun w hg => r2in_c _ _ _ w)) ?_)
   rintro _ _ ⟨rfl, rfl⟩
   refine L_yes rfl rfl rfl g2 (X_p (p_not rfl rfl) ?_)
   refine Lp rfl (p_pick_t rfl rfl g2 rfl) ?_
   refine L_then (kp [2, 3, 4, 5, 6, 12, 42] rfl) ?_
   refine V_cond rfl ?_ ?_
   ·intro c2; try simp only [td] at c2
    refine V_region rfl ?_
    refine La rfl rfl rfl ?_
    refine L_then (kp [2, 3, 4, 5, 6, 12] rfl) ?_
    refine V_seq ?_
    refine Vs rfl ?_
    refine Lm rfl rfl rfl ?_
    refine Lp rfl (p_neq rfl rfl rfl) ?_
    refine L_then (kp [2, 3, 4, 5, 6, 12, 44] rfl) ?_
    refine V_cond_t rfl rfl ?_
    refine Vs rfl ?_
    refine Lm rfl rfl rfl ?_
    iterate 2 refine La rfl rfl rfl ?_
    refine L_then (kp [10, 11] rfl) ?_
    refine V_ret (then_r ?_)
    refine Leave.nil (.tmp rfl (.tmp rfl .nil)) ?_
    first | (exfalso; omega) | (have hgr9 : Grow 33 12 (.slice (some ⟨gb, 0, none⟩) (m + 1) sc) (pieceL v d l i n).length (stL (pieceL v d l i n)) _ := (by rw [h8, rowS_len]; exact hgr); exact ⟨_, (by (try dsimp only); repeat (first | exact HSub.nil _ | refine HSub.take (by repeat first | exact Take.head | apply Take.tail) ?_ | exact HSub.refl _ | refine HSub.drop ?_ | refine HSub.app ?_)), [], _, rfl, rfl, _, by rw [h9]; rfl, hgr9⟩) | (refine ⟨[], HSub.nil _, [], [], rfl, rfl, .slice none 0 0, by rw [h9]; rfl, ?_⟩; rw [pieceL_bad (by rw [h9]; first | assumption | decide)]; exact .nil) | (have h9 := piece_asked (v := v) (d := d) (l := l) (i := i) (n := n) (by first | assumption | (intro hx; simp_all)); refine ⟨[], HSub.nil _, [], [], rfl, rfl, .slice none 0 0, by rw [h9]; rfl, ?_⟩; rw [pieceL_bad (by rw [h9]; first | assumption | decide)]; exact .nil) | (have h9 := piece_none (v := v) (d := d) (l := l) (i := i) (n := n) (by first | assumption | omega) (by assumption); refine ⟨[], HSub.nil _, [], [], rfl, rfl, .slice none 0 0, by rw [h9]; rfl, ?_⟩; rw [pieceL_bad (by rw [h9]; first | assumption | decide)]; exact .nil) | (have h9 := piece_range (v := v) (d := d) (l := l) (i := i) (n := n) (by first | assumption | omega) (by assumption) (by assumption); refine ⟨[], HSub.nil _, [], [], rfl, rfl, .slice none 0 0, by rw [h9]; rfl, ?_⟩; rw [pieceL_bad (by rw [h9]; first | assumption | decide)]; exact .nil)
   intro c2; try simp only [td] at c2
   refine V_skip (then_n ?_)
   refine V_seq ?_
   refine Vs rfl ?_
   refine Lm rfl rfl rfl ?_
   refine Lp rfl (p_neq rfl rfl rfl) ?_
   refine L_then (kp [2, 3, 4, 5, 6, 12, 44] rfl) ?_
   refine V_cond rfl ?_ ?_
   ·intro c3; try simp only [td] at c3
    refine Vs rfl ?_
    refine Lm rfl rfl rfl ?_
    iterate 2 refine La rfl rfl rfl ?_
    refine L_then (kp [10, 11] rfl) ?_
    refine V_ret (then_r ?_)
    refine Leave.nil (.tmp rfl (.tmp rfl .nil)) ?_
    first | (exfalso; omega) | (have hgr9 : Grow 33 12 (.slice (some ⟨gb, 0, none⟩) (m + 1) sc) (pieceL v d l i n).length (stL (pieceL v d l i n)) _ := (by rw [h8, rowS_len]; exact hgr); exact ⟨_, (by (try dsimp only); repeat (first | exact HSub.nil _ | refine HSub.take (by repeat first | exact Take.head | apply Take.tail) ?_ | exact HSub.refl _ | refine HSub.drop ?_ | refine HSub.app ?_)), [], _, rfl, rfl, _, by rw [h9]; rfl, hgr9⟩) | (refine ⟨[], HSub.nil _, [], [], rfl, rfl, .slice none 0 0, by rw [h9]; rfl, ?_⟩; rw [pieceL_bad (by rw [h9]; first | assumption | decide)]; exact .nil) | (have h9 := piece_asked (v := v) (d := d) (l := l) (i := i) (n := n) (by first | assumption | (intro hx; simp_all)); refine ⟨[], HSub.nil _, [], [], rfl, rfl, .slice none 0 0, by rw [h9]; rfl, ?_⟩; rw [pieceL_bad (by rw [h9]; first | assumption | decide)]; exact .nil) | (have h9 := piece_none (v := v) (d := d) (l := l) (i := i) (n := n) (by first | assumption | omega) (by assumption); refine ⟨[], HSub.nil _, [], [], rfl, rfl, .slice none 0 0, by rw [h9]; rfl, ?_⟩; rw [pieceL_bad (by rw [h9]; first | assumption | decide)]; exact .nil) | (have h9 := piece_range (v := v) (d := d) (l := l) (i := i) (n := n) (by first | assumption | omega) (by assumption) (by assumption); refine ⟨[], HSub.nil _, [], [], rfl, rfl, .slice none 0 0, by rw [h9]; rfl, ?_⟩; rw [pieceL_bad (by rw [h9]; first | assumption | decide)]; exact .nil)
   intro c3; try simp only [td] at c3
   have h0 : askedF v d l = 0 := by first | assumption | omega
   have hGG := Fl.asked_good h0
   have hGV := hGG.1
   have hdd := hGG.2.1
   have hGB := hGG.2.2
   have hot : oP i 0 (v.pieces.length - 1) = false := by first | assumption | (exfalso; omega)
   have hon : oP n 0 (3000 - (v.pc i.toNat).at_) = false := by first | assumption | (exfalso; omega)
   have hir := oP_false.1 hot
   have hnr := oP_false.1 hon
   simp only [Veh.pc] at hnr
   refine V_skip (then_n ?_)
   refine Vs rfl ?_
   refine Lr rfl (rlA (vs := [_, _, _, _, _, _]) ag28 sz28 rfl rfl rfl) ?_
   refine Lr rfl (rlA (vs := [_, _, _]) ag30 sz30 rfl rfl rfl) ?_
   iterate 3 refine Lm rfl rfl rfl ?_
   refine Lw rfl (w_callG (pre := [_, _]) rfl rfl rfl rfl (fun w hg => rparted_c v d l av pv _ _ w (hv.good hg) (hL.good hg) hGV hdd hGB i n _ rfl (by omega) (by omega))) ?_
   rintro _ _ ⟨_, G, rfl, hfr1, f, m, hP, rfl, sv1, rfl, hgr⟩
   have hml := hP.le
   obtain ⟨sa, sc, rfl⟩ := Grow.form hgr
   obtain ⟨gb, cur, rfl, rfl, hcur, _, _⟩ := Grow.form2 hgr (by omega)
   try simp only [List.cons_append, List.nil_append, List.append_nil]
   refine La rfl rfl rfl ?_
   refine L_then (kp [13] rfl) ?_
   refine V_seq ?_
   refine Vs rfl ?_
   iterate 2 refine Lm rfl rfl rfl ?_
   refine Lp rfl (p_len isl50 rfl rfl) ?_
   first | refine Lp rfl (p_sub' rfl rfl rfl (by unfold InI; omega)) ?_ | refine Lp rfl (p_sub rfl rfl rfl) ?_
   refine Lp rfl (p_idxo es50 rfl rfl rfl (by omega) (by omega)) ?_
   refine Lr rfl (r_loadA (vs := St.cells (f m)) ag33 sz33 rfl rfl (by repeat first | exact mH | apply mT) (cur_sub (row_st (f := f) (k := m) hcur rfl (Nat.le_refl _)) (idx := 0) (by omega) (by decide) rfl)) ?_
   refine Lc rfl rfl rfl rfl (fun w hg => rfar_c (f m) w) ?_
   refine L_then (kp [13, 58] rfl) ?_
   refine V_cond rfl ?_ ?_
   ·intro c4; try simp only [td] at c4
    have h9 : (pieceE v d l i n) = 3 := ptd_bad h0 hot hon hP c4
    refine Vs rfl ?_
    iterate 2 refine La rfl rfl rfl ?_
    refine L_then (kp [10, 11] rfl) ?_
    refine V_ret (then_r ?_)
    refine Leave.nil (.tmp rfl (.tmp rfl .nil)) ?_
    first | (exfalso; omega) | (have hgr9 : Grow 33 12 (.slice (some ⟨gb, 0, none⟩) (m + 1) sc) (pieceL v d l i n).length (stL (pieceL v d l i n)) _ := (by rw [h8, rowS_len]; exact hgr); exact ⟨_, (by (try dsimp only); repeat (first | exact HSub.nil _ | refine HSub.take (by repeat first | exact Take.head | apply Take.tail) ?_ | exact HSub.refl _ | refine HSub.drop ?_ | refine HSub.app ?_)), [], _, rfl, rfl, _, by rw [h9]; rfl, hgr9⟩) | (refine ⟨[], HSub.nil _, [], [], rfl, rfl, .slice none 0 0, by rw [h9]; rfl, ?_⟩; rw [pieceL_bad (by rw [h9]; first | assumption | decide)]; exact .nil) | (have h9 := piece_asked (v := v) (d := d) (l := l) (i := i) (n := n) (by first | assumption | (intro hx; simp_all)); refine ⟨[], HSub.nil _, [], [], rfl, rfl, .slice none 0 0, by rw [h9]; rfl, ?_⟩; rw [pieceL_bad (by rw [h9]; first | assumption | decide)]; exact .nil) | (have h9 := piece_none (v := v) (d := d) (l := l) (i := i) (n := n) (by first | assumption | omega) (by assumption); refine ⟨[], HSub.nil _, [], [], rfl, rfl, .slice none 0 0, by rw [h9]; rfl, ?_⟩; rw [pieceL_bad (by rw [h9]; first | assumption | decide)]; exact .nil) | (have h9 := piece_range (v := v) (d := d) (l := l) (i := i) (n := n) (by first | assumption | omega) (by assumption) (by assumption); refine ⟨[], HSub.nil _, [], [], rfl, rfl, .slice none 0 0, by rw [h9]; rfl, ?_⟩; rw [pieceL_bad (by rw [h9]; first | assumption | decide)]; exact .nil)
   intro c4; try simp only [td] at c4
   obtain ⟨h9, h8, h7⟩ := ptd_ok h0 hot hon hP c4
   refine V_skip (then_n ?_)
   refine Vs rfl ?_
   refine Lm rfl rfl rfl ?_
   iterate 2 refine La rfl rfl rfl ?_
   refine L_then (kp [10, 11] rfl) ?_
   refine V_ret ?_
   refine Leave.nil (.tmp rfl (.tmp rfl .nil)) ?_
   first | (exfalso; omega) | (have hgr9 : Grow 33 12 (.slice (some ⟨gb, 0, none⟩) (m + 1) sc) (pieceL v d l i n).length (stL (pieceL v d l i n)) _ := (by rw [h8, rowS_len]; exact hgr); exact ⟨_, (by (try dsimp only); repeat (first | exact HSub.nil _ | refine HSub.take (by repeat first | exact Take.head | apply Take.tail) ?_ | exact HSub.refl _ | refine HSub.drop ?_ | refine HSub.app ?_)), [], _, rfl, rfl, _, by rw [h9]; rfl, hgr9⟩) | (refine ⟨[], HSub.nil _, [], [], rfl, rfl, .slice none 0 0, by rw [h9]; rfl, ?_⟩; rw [pieceL_bad (by rw [h9]; first | assumption | decide)]; exact .nil) | (have h9 := piece_asked (v := v) (d := d) (l := l) (i := i) (n := n) (by first | assumption | (intro hx; simp_all)); refine ⟨[], HSub.nil _, [], [], rfl, rfl, .slice none 0 0, by rw [h9]; rfl, ?_⟩; rw [pieceL_bad (by rw [h9]; first | assumption | decide)]; exact .nil) | (have h9 := piece_none (v := v) (d := d) (l := l) (i := i) (n := n) (by first | assumption | omega) (by assumption); refine ⟨[], HSub.nil _, [], [], rfl, rfl, .slice none 0 0, by rw [h9]; rfl, ?_⟩; rw [pieceL_bad (by rw [h9]; first | assumption | decide)]; exact .nil) | (have h9 := piece_range (v := v) (d := d) (l := l) (i := i) (n := n) (by first | assumption | omega) (by assumption) (by assumption); refine ⟨[], HSub.nil _, [], [], rfl, rfl, .slice none 0 0, by rw [h9]; rfl, ?_⟩; rw [pieceL_bad (by rw [h9]; first | assumption | decide)]; exact .nil)
  intro g2; have g2' := g2; try simp only [td] at g2'
  iterate 10 refine L_no rfl rfl rfl g2 ?_
  refine Lp rfl (p_pick_f rfl rfl g2 rfl) ?_
  refine L_then (kp [2, 3, 4, 5, 6, 12, 42] rfl) ?_
  refine V_cond_f rfl rfl ?_
  refine V_skip (then_n ?_)
  refine V_seq ?_
  refine Vs rfl ?_
  refine Lm rfl rfl rfl ?_
  refine Lp rfl (p_neq rfl rfl rfl) ?_
  refine L_then (kp [2, 3, 4, 5, 6, 12, 44] rfl) ?_
  refine V_cond rfl ?_ ?_
  ·intro c5; try simp only [td] at c5
   refine Vs rfl ?_
   refine Lm rfl rfl rfl ?_
   iterate 2 refine La rfl rfl rfl ?_
   refine L_then (kp [10, 11] rfl) ?_
   refine V_ret (then_r ?_)
   refine Leave.nil (.tmp rfl (.tmp rfl .nil)) ?_
   first | (exfalso; omega) | (have hgr9 : Grow 33 12 (.slice (some ⟨gb, 0, none⟩) (m + 1) sc) (pieceL v d l i n).length (stL (pieceL v d l i n)) _ := (by rw [h8, rowS_len]; exact hgr); exact ⟨_, (by (try dsimp only); repeat (first | exact HSub.nil _ | refine HSub.take (by repeat first | exact Take.head | apply Take.tail) ?_ | exact HSub.refl _ | refine HSub.drop ?_ | refine HSub.app ?_)), [], _, rfl, rfl, _, by rw [h9]; rfl, hgr9⟩) | (refine ⟨[], HSub.nil _, [], [], rfl, rfl, .slice none 0 0, by rw [h9]; rfl, ?_⟩; rw [pieceL_bad (by rw [h9]; first | assumption | decide)]; exact .nil) | (have h9 := piece_asked (v := v) (d := d) (l := l) (i := i) (n := n) (by first | assumption | (intro hx; simp_all)); refine ⟨[], HSub.nil _, [], [], rfl, rfl, .slice none 0 0, by rw [h9]; rfl, ?_⟩; rw [pieceL_bad (by rw [h9]; first | assumption | decide)]; exact .nil) | (have h9 := piece_none (v := v) (d := d) (l := l) (i := i) (n := n) (by first | assumption | omega) (by assumption); refine ⟨[], HSub.nil _, [], [], rfl, rfl, .slice none 0 0, by rw [h9]; rfl, ?_⟩; rw [pieceL_bad (by rw [h9]; first | assumption | decide)]; exact .nil) | (have h9 := piece_range (v := v) (d := d) (l := l) (i := i) (n := n) (by first | assumption | omega) (by assumption) (by assumption); refine ⟨[], HSub.nil _, [], [], rfl, rfl, .slice none 0 0, by rw [h9]; rfl, ?_⟩; rw [pieceL_bad (by rw [h9]; first | assumption | decide)]; exact .nil)
  intro c5; try simp only [td] at c5
  have h0 : askedF v d l = 0 := by first | assumption | omega
  have hGG := Fl.asked_good h0
  have hGV := hGG.1
  have hdd := hGG.2.1
  have hGB := hGG.2.2
  have hot : oP i 0 (v.pieces.length - 1) = false := by first | assumption | (exfalso; omega)
  have hon : oP n 0 (3000 - (v.pc i.toNat).at_) = false := by first | assumption | (exfalso; omega)
  have hir := oP_false.1 hot
  have hnr := oP_false.1 hon
  simp only [Veh.pc] at hnr
  refine V_skip (then_n ?_)
  refine Vs rfl ?_
  refine Lr rfl (rlA (vs := [_, _, _, _, _, _]) ag28 sz28 rfl rfl rfl) ?_
  refine Lr rfl (rlA (vs := [_, _, _]) ag30 sz30 rfl rfl rfl) ?_
  iterate 3 refine Lm rfl rfl rfl ?_
  refine Lw rfl (w_callG (pre := [_, _]) rfl rfl rfl rfl (fun w hg => rparted_c v d l av pv _ _ w (hv.good hg) (hL.good hg) hGV hdd hGB i n _ rfl (by omega) (by omega))) ?_
  rintro _ _ ⟨_, G, rfl, hfr1, f, m, hP, rfl, sv1, rfl, hgr⟩
  have hml := hP.le
  obtain ⟨sa, sc, rfl⟩ := Grow.form hgr
  obtain ⟨gb, cur, rfl, rfl, hcur, _, _⟩ := Grow.form2 hgr (by omega)
  try simp only [List.cons_append, List.nil_append, List.append_nil]
  refine La rfl rfl rfl ?_
  refine L_then (kp [13] rfl) ?_
  refine V_seq ?_
  refine Vs rfl ?_
  iterate 2 refine Lm rfl rfl rfl ?_
  refine Lp rfl (p_len isl50 rfl rfl) ?_
  first | refine Lp rfl (p_sub' rfl rfl rfl (by unfold InI; omega)) ?_ | refine Lp rfl (p_sub rfl rfl rfl) ?_
  refine Lp rfl (p_idxo es50 rfl rfl rfl (by omega) (by omega)) ?_
  refine Lr rfl (r_loadA (vs := St.cells (f m)) ag33 sz33 rfl rfl (by repeat first | exact mH | apply mT) (cur_sub (row_st (f := f) (k := m) hcur rfl (Nat.le_refl _)) (idx := 0) (by omega) (by decide) rfl)) ?_
  refine Lc rfl rfl rfl rfl (fun w hg => rfar_c (f m) w) ?_
  refine L_then (kp [13, 58] rfl) ?_
  refine V_cond rfl ?_ ?_
  ·intro c6; try simp only [td] at c6
   have h9 : (pieceE v d l i n) = 3 := ptd_bad h0 hot hon hP c6
   refine Vs rfl ?_
   iterate 2 refine La rfl rfl rfl ?_
   refine L_then (kp [10, 11] rfl) ?_
   refine V_ret (then_r ?_)
   refine Leave.nil (.tmp rfl (.tmp rfl .nil)) ?_
   first | (exfalso; omega) | (have hgr9 : Grow 33 12 (.slice (some ⟨gb, 0, none⟩) (m + 1) sc) (pieceL v d l i n).length (stL (pieceL v d l i n)) _ := (by rw [h8, rowS_len]; exact hgr); exact ⟨_, (by (try dsimp only); repeat (first | exact HSub.nil _ | refine HSub.take (by repeat first | exact Take.head | apply Take.tail) ?_ | exact HSub.refl _ | refine HSub.drop ?_ | refine HSub.app ?_)), [], _, rfl, rfl, _, by rw [h9]; rfl, hgr9⟩) | (refine ⟨[], HSub.nil _, [], [], rfl, rfl, .slice none 0 0, by rw [h9]; rfl, ?_⟩; rw [pieceL_bad (by rw [h9]; first | assumption | decide)]; exact .nil) | (have h9 := piece_asked (v := v) (d := d) (l := l) (i := i) (n := n) (by first | assumption | (intro hx; simp_all)); refine ⟨[], HSub.nil _, [], [], rfl, rfl, .slice none 0 0, by rw [h9]; rfl, ?_⟩; rw [pieceL_bad (by rw [h9]; first | assumption | decide)]; exact .nil) | (have h9 := piece_none (v := v) (d := d) (l := l) (i := i) (n := n) (by first | assumption | omega) (by assumption); refine ⟨[], HSub.nil _, [], [], rfl, rfl, .slice none 0 0, by rw [h9]; rfl, ?_⟩; rw [pieceL_bad (by rw [h9]; first | assumption | decide)]; exact .nil) | (have h9 := piece_range (v := v) (d := d) (l := l) (i := i) (n := n) (by first | assumption | omega) (by assumption) (by assumption); refine ⟨[], HSub.nil _, [], [], rfl, rfl, .slice none 0 0, by rw [h9]; rfl, ?_⟩; rw [pieceL_bad (by rw [h9]; first | assumption | decide)]; exact .nil)
  intro c6; try simp only [td] at c6
  obtain ⟨h9, h8, h7⟩ := ptd_ok h0 hot hon hP c6
  refine V_skip (then_n ?_)
  refine Vs rfl ?_
  refine Lm rfl rfl rfl ?_
  iterate 2 refine La rfl rfl rfl ?_
  refine L_then (kp [10, 11] rfl) ?_
  refine V_ret ?_
  refine Leave.nil (.tmp rfl (.tmp rfl .nil)) ?_
  first | (exfalso; omega) | (have hgr9 : Grow 33 12 (.slice (some ⟨gb, 0, none⟩) (m + 1) sc) (pieceL v d l i n).length (stL (pieceL v d l i n)) _ := (by rw [h8, rowS_len]; exact hgr); exact ⟨_, (by (try dsimp only); repeat (first | exact HSub.nil _ | refine HSub.take (by repeat first | exact Take.head | apply Take.tail) ?_ | exact HSub.refl _ | refine HSub.drop ?_ | refine HSub.app ?_)), [], _, rfl, rfl, _, by rw [h9]; rfl, hgr9⟩) | (refine ⟨[], HSub.nil _, [], [], rfl, rfl, .slice none 0 0, by rw [h9]; rfl, ?_⟩; rw [pieceL_bad (by rw [h9]; first | assumption | decide)]; exact .nil) | (have h9 := piece_asked (v := v) (d := d) (l := l) (i := i) (n := n) (by first | assumption | (intro hx; simp_all)); refine ⟨[], HSub.nil _, [], [], rfl, rfl, .slice none 0 0, by rw [h9]; rfl, ?_⟩; rw [pieceL_bad (by rw [h9]; first | assumption | decide)]; exact .nil) | (have h9 := piece_none (v := v) (d := d) (l := l) (i := i) (n := n) (by first | assumption | omega) (by assumption); refine ⟨[], HSub.nil _, [], [], rfl, rfl, .slice none 0 0, by rw [h9]; rfl, ?_⟩; rw [pieceL_bad (by rw [h9]; first | assumption | decide)]; exact .nil) | (have h9 := piece_range (v := v) (d := d) (l := l) (i := i) (n := n) (by first | assumption | omega) (by assumption) (by assumption); refine ⟨[], HSub.nil _, [], [], rfl, rfl, .slice none 0 0, by rw [h9]; rfl, ?_⟩; rw [pieceL_bad (by rw [h9]; first | assumption | decide)]; exact .nil)
 intro g1; have g1' := g1; try simp only [td] at g1'
 iterate 7 refine L_no rfl rfl rfl g1 ?_
 refine Lp rfl (p_pick_f rfl rfl g1 rfl) ?_
 refine L_then (kp [2, 3, 4, 5, 6, 12, 28] rfl) ?_
 refine V_cond_f rfl rfl ?_
 refine V_skip (then_n ?_)
 refine V_seq ?_
 refine Vs rfl ?_
 refine Lm rfl rfl rfl ?_
 refine Lp rfl (p_eql rfl rfl rfl) ?_
 refine Lm rfl rfl rfl ?_
 refine L_cases (d := 31) rfl ?_ ?_
 ·intro g3; have g3' := g3; try simp only [td] at g3'
  have hio : 0 ≤ i ∧ i ≤ v.pieces.length - 1 := by first | exact oP_false.1 (show oP i 0 (v.pieces.length - 1) = false by assumption) | (exfalso; omega)
  obtain ⟨tb, etb, hc⟩ := hqe i.toNat _ (getD_cells (d := pcZ) (by omega))
  subst etb
  have hpx := pc_zero ((Fl.asked_good (d := d) (l := l) (by first | assumption | omega)).1.pc i.toNat (by omega))
  have hpx1 := hpx.at_
  simp only [Veh.pc] at hpx1
  refine L_yes rfl rfl rfl g3 (X_p (p_move rfl rfl) ?_)
  refine L_yes rfl rfl rfl g3 (X_p (p_fieldo fo28_4 rfl rfl) ?_)
  refine L_yes rfl rfl rfl g3 (X_rd (rl ag26 rfl rfl rfl) ?_)
  refine L_yes rfl rfl rfl g3 (X_p (p_move rfl rfl) ?_)
  refine L_yes rfl rfl rfl g3 (X_p (p_idx es26 rfl rfl rfl (by omega) (by omega)) ?_)
  refine L_yes rfl rfl rfl g3 (X_p (p_field fo93_1 rfl rfl) ?_)
  refine L_yes rfl rfl rfl g3 (X_rd (r_loadB ag3 rfl rfl (hc 1 _ rfl) List.not_mem_nil) ?_)
  first | refine L_yes rfl rfl rfl g3 (X_p (p_sub' rfl rfl rfl (by unfold InI; omega)) ?_) | refine L_yes rfl rfl rfl g3 (X_p (p_sub rfl rfl rfl) ?_)
  refine L_yes rfl rfl rfl g3 (X_wr (w_callP rfl rfl rfl (fun w hg => r2in_c _ _ _ w)) ?_)
  rintro _ _ ⟨rfl, rfl⟩
  refine L_yes rfl rfl rfl g3 (X_p (p_not rfl rfl) ?_)
  refine Lp rfl (p_pick_t rfl rfl g3 rfl) ?_
  refine L_then (kp [2, 3, 4, 5, 6, 12, 42] rfl) ?_
  refine V_cond rfl ?_ ?_
  ·intro c7; try simp only [td] at c7
   refine V_region rfl ?_
   refine La rfl rfl rfl ?_
   refine L_then (kp [2, 3, 4, 5, 6, 12] rfl) ?_
   refine V_seq ?_
   refine Vs rfl ?_
   refine Lm rfl rfl rfl ?_
   refine Lp rfl (p_neq rfl rfl rfl) ?_
   refine L_then (kp [2, 3, 4, 5, 6, 12, 44] rfl) ?_
   refine V_cond_t rfl rfl ?_
   refine Vs rfl ?_
   refine Lm rfl rfl rfl ?_
   iterate 2 refine La rfl rfl rfl ?_
   refine L_then (kp [10, 11] rfl) ?_
   refine V_ret (then_r ?_)
   refine Leave.nil (.tmp rfl (.tmp rfl .nil)) ?_
   first | (exfalso; omega) | (have hgr9 : Grow 33 12 (.slice (some ⟨gb, 0, none⟩) (m + 1) sc) (pieceL v d l i n).length (stL (pieceL v d l i n)) _ := (by rw [h8, rowS_len]; exact hgr); exact ⟨_, (by (try dsimp only); repeat (first | exact HSub.nil _ | refine HSub.take (by repeat first | exact Take.head | apply Take.tail) ?_ | exact HSub.refl _ | refine HSub.drop ?_ | refine HSub.app ?_)), [], _, rfl, rfl, _, by rw [h9]; rfl, hgr9⟩) | (refine ⟨[], HSub.nil _, [], [], rfl, rfl, .slice none 0 0, by rw [h9]; rfl, ?_⟩; rw [pieceL_bad (by rw [h9]; first | assumption | decide)]; exact .nil) | (have h9 := piece_asked (v := v) (d := d) (l := l) (i := i) (n := n) (by first | assumption | (intro hx; simp_all)); refine ⟨[], HSub.nil _, [], [], rfl, rfl, .slice none 0 0, by rw [h9]; rfl, ?_⟩; rw [pieceL_bad (by rw [h9]; first | assumption | decide)]; exact .nil) | (have h9 := piece_none (v := v) (d := d) (l := l) (i := i) (n := n) (by first | assumption | omega) (by assumption); refine ⟨[], HSub.nil _, [], [], rfl, rfl, .slice none 0 0, by rw [h9]; rfl, ?_⟩; rw [pieceL_bad (by rw [h9]; first | assumption | decide)]; exact .nil) | (have h9 := piece_range (v := v) (d := d) (l := l) (i := i) (n := n) (by first | assumption | omega) (by assumption) (by assumption); refine ⟨[], HSub.nil _, [], [], rfl, rfl, .slice none 0 0, by rw [h9]; rfl, ?_⟩; rw [pieceL_bad (by rw [h9]; first | assumption | decide)]; exact .nil)
  intro c7; try simp only [td] at c7
  refine V_skip (then_n ?_)
  refine V_seq ?_
  refine Vs rfl ?_
  refine Lm rfl rfl rfl ?_
  refine Lp rfl (p_neq rfl rfl rfl) ?_
  refine L_then (kp [2, 3, 4, 5, 6, 12, 44] rfl) ?_
  refine V_cond rfl ?_ ?_
  ·intro c8; try simp only [td] at c8
   refine Vs rfl ?_
   refine Lm rfl rfl rfl ?_
   iterate 2 refine La rfl rfl rfl ?_
   refine L_then (kp [10, 11] rfl) ?_
   refine V_ret (then_r ?_)
   refine Leave.nil (.tmp rfl (.tmp rfl .nil)) ?_
   first | (exfalso; omega) | (have hgr9 : Grow 33 12 (.slice (some ⟨gb, 0, none⟩) (m + 1) sc) (pieceL v d l i n).length (stL (pieceL v d l i n)) _ := (by rw [h8, rowS_len]; exact hgr); exact ⟨_, (by (try dsimp only); repeat (first | exact HSub.nil _ | refine HSub.take (by repeat first | exact Take.head | apply Take.tail) ?_ | exact HSub.refl _ | refine HSub.drop ?_ | refine HSub.app ?_)), [], _, rfl, rfl, _, by rw [h9]; rfl, hgr9⟩) | (refine ⟨[], HSub.nil _, [], [], rfl, rfl, .slice none 0 0, by rw [h9]; rfl, ?_⟩; rw [pieceL_bad (by rw [h9]; first | assumption | decide)]; exact .nil) | (have h9 := piece_asked (v := v) (d := d) (l := l) (i := i) (n := n) (by first | assumption | (intro hx; simp_all)); refine ⟨[], HSub.nil _, [], [], rfl, rfl, .slice none 0 0, by rw [h9]; rfl, ?_⟩; rw [pieceL_bad (by rw [h9]; first | assumption | decide)]; exact .nil) | (have h9 := piece_none (v := v) (d := d) (l := l) (i := i) (n := n) (by first | assumption | omega) (by assumption); refine ⟨[], HSub.nil _, [], [], rfl, rfl, .slice none 0 0, by rw [h9]; rfl, ?_⟩; rw [pieceL_bad (by rw [h9]; first | assumption | decide)]; exact .nil) | (have h9 := piece_range (v := v) (d := d) (l := l) (i := i) (n := n) (by first | assumption | omega) (by assumption) (by assumption); refine ⟨[], HSub.nil _, [], [], rfl, rfl, .slice none 0 0, by rw [h9]; rfl, ?_⟩; rw [pieceL_bad (by rw [h9]; first | assumption | decide)]; exact .nil)
  intro c8; try simp only [td] at c8
  have h0 : askedF v d l = 0 := by first | assumption | omega
  have hGG := Fl.asked_good h0
  have hGV := hGG.1
  have hdd := hGG.2.1
  have hGB := hGG.2.2
  have hot : oP i 0 (v.pieces.length - 1) = false := by first | assumption | (exfalso; omega)
  have hon : oP n 0 (3000 - (v.pc i.toNat).at_) = false := by first | assumption | (exfalso; omega)
  have hir := oP_false.1 hot
  have hnr := oP_false.1 hon
  simp only [Veh.pc] at hnr
  refine V_skip (then_n ?_)
  refine Vs rfl ?_
  refine Lr rfl (rlA (vs := [_, _, _, _, _, _]) ag28 sz28 rfl rfl rfl) ?_
  refine Lr rfl (rlA (vs := [_, _, _]) ag30 sz30 rfl rfl rfl) ?_
  iterate 3 refine Lm rfl rfl rfl ?_
  refine Lw rfl (w_callG (pre := [_, _]) rfl rfl rfl rfl (fun w hg => rparted_c v d l av pv _ _ w (hv.good hg) (hL.good hg) hGV hdd hGB i n _ rfl (by omega) (by omega))) ?_
  rintro _ _ ⟨_, G, rfl, hfr1, f, m, hP, rfl, sv1, rfl, hgr⟩
  have hml := hP.le
  obtain ⟨sa, sc, rfl⟩ := Grow.form hgr
  obtain ⟨gb, cur, rfl, rfl, hcur, _, _⟩ := Grow.form2 hgr (by omega)
  try simp only [List.cons_append, List.nil_append, List.append_nil]
  refine La rfl rfl rfl ?_
  refine L_then (kp [13] rfl) ?_
  refine V_seq ?_
  refine Vs rfl ?_
  iterate 2 refine Lm rfl rfl rfl ?_
  refine Lp rfl (p_len isl50 rfl rfl) ?_
  first | refine Lp rfl (p_sub' rfl rfl rfl (by unfold InI; omega)) ?_ | refine Lp rfl (p_sub rfl rfl rfl) ?_
  refine Lp rfl (p_idxo es50 rfl rfl rfl (by omega) (by omega)) ?_
  refine Lr rfl (r_loadA (vs := St.cells (f m)) ag33 sz33 rfl rfl (by repeat first | exact mH | apply mT) (cur_sub (row_st (f := f) (k := m) hcur rfl (Nat.le_refl _)) (idx := 0) (by omega) (by decide) rfl)) ?_
  refine Lc rfl rfl rfl rfl (fun w hg => rfar_c (f m) w) ?_
  refine L_then (kp [13, 58] rfl) ?_
  refine V_cond rfl ?_ ?_
  ·intro c9; try simp only [td] at c9
   have h9 : (pieceE v d l i n) = 3 := ptd_bad h0 hot hon hP c9
   refine Vs rfl ?_
   iterate 2 refine La rfl rfl rfl ?_
   refine L_then (kp [10, 11] rfl) ?_
   refine V_ret (then_r ?_)
   refine Leave.nil (.tmp rfl (.tmp rfl .nil)) ?_
   first | (exfalso; omega) | (have hgr9 : Grow 33 12 (.slice (some ⟨gb, 0, none⟩) (m + 1) sc) (pieceL v d l i n).length (stL (pieceL v d l i n)) _ := (by rw [h8, rowS_len]; exact hgr); exact ⟨_, (by (try dsimp only); repeat (first | exact HSub.nil _ | refine HSub.take (by repeat first | exact Take.head | apply Take.tail) ?_ | exact HSub.refl _ | refine HSub.drop ?_ | refine HSub.app ?_)), [], _, rfl, rfl, _, by rw [h9]; rfl, hgr9⟩) | (refine ⟨[], HSub.nil _, [], [], rfl, rfl, .slice none 0 0, by rw [h9]; rfl, ?_⟩; rw [pieceL_bad (by rw [h9]; first | assumption | decide)]; exact .nil) | (have h9 := piece_asked (v := v) (d := d) (l := l) (i := i) (n := n) (by first | assumption | (intro hx; simp_all)); refine ⟨[], HSub.nil _, [], [], rfl, rfl, .slice none 0 0, by rw [h9]; rfl, ?_⟩; rw [pieceL_bad (by rw [h9]; first | assumption | decide)]; exact .nil) | (have h9 := piece_none (v := v) (d := d) (l := l) (i := i) (n := n) (by first | assumption | omega) (by assumption); refine ⟨[], HSub.nil _, [], [], rfl, rfl, .slice none 0 0, by rw [h9]; rfl, ?_⟩; rw [pieceL_bad (by rw [h9]; first | assumption | decide)]; exact .nil) | (have h9 := piece_range (v := v) (d := d) (l := l) (i := i) (n := n) (by first | assumption | omega) (by assumption) (by assumption); refine ⟨[], HSub.nil _, [], [], rfl, rfl, .slice none 0 0, by rw [h9]; rfl, ?_⟩; rw [pieceL_bad (by rw [h9]; first | assumption | decide)]; exact .nil)
  intro c9; try simp only [td] at c9
  obtain ⟨h9, h8, h7⟩ := ptd_ok h0 hot hon hP c9
  refine V_skip (then_n ?_)
  refine Vs rfl ?_
  refine Lm rfl rfl rfl ?_
  iterate 2 refine La rfl rfl rfl ?_
  refine L_then (kp [10, 11] rfl) ?_
  refine V_ret ?_
  refine Leave.nil (.tmp rfl (.tmp rfl .nil)) ?_
  first | (exfalso; omega) | (have hgr9 : Grow 33 12 (.slice (some ⟨gb, 0, none⟩) (m + 1) sc) (pieceL v d l i n).length (stL (pieceL v d l i n)) _ := (by rw [h8, rowS_len]; exact hgr); exact ⟨_, (by (try dsimp only); repeat (first | exact HSub.nil _ | refine HSub.take (by repeat first | exact Take.head | apply Take.tail) ?_ | exact HSub.refl _ | refine HSub.drop ?_ | refine HSub.app ?_)), [], _, rfl, rfl, _, by rw [h9]; rfl, hgr9⟩) | (refine ⟨[], HSub.nil _, [], [], rfl, rfl, .slice none 0 0, by rw [h9]; rfl, ?_⟩; rw [pieceL_bad (by rw [h9]; first | assumption | decide)]; exact .nil) | (have h9 := piece_asked (v := v) (d := d) (l := l) (i := i) (n := n) (by first | assumption | (intro hx; simp_all)); refine ⟨[], HSub.nil _, [], [], rfl, rfl, .slice none 0 0, by rw [h9]; rfl, ?_⟩; rw [pieceL_bad (by rw [h9]; first | assumption | decide)]; exact .nil) | (have h9 := piece_none (v := v) (d := d) (l := l) (i := i) (n := n) (by first | assumption | omega) (by assumption); refine ⟨[], HSub.nil _, [], [], rfl, rfl, .slice none 0 0, by rw [h9]; rfl, ?_⟩; rw [pieceL_bad (by rw [h9]; first | assumption | decide)]; exact .nil) | (have h9 := piece_range (v := v) (d := d) (l := l) (i := i) (n := n) (by first | assumption | omega) (by assumption) (by assumption); refine ⟨[], HSub.nil _, [], [], rfl, rfl, .slice none 0 0, by rw [h9]; rfl, ?_⟩; rw [pieceL_bad (by rw [h9]; first | assumption | decide)]; exact .nil)
 intro g3; have g3' := g3; try simp only [td] at g3'
 iterate 10 refine L_no rfl rfl rfl g3 ?_
 refine Lp rfl (p_pick_f rfl rfl g3 rfl) ?_
 refine L_then (kp [2, 3, 4, 5, 6, 12, 42] rfl) ?_
 refine V_cond_f rfl rfl ?_
 refine V_skip (then_n ?_)
 refine V_seq ?_
 refine Vs rfl ?_
 refine Lm rfl rfl rfl ?_
 refine Lp rfl (p_neq rfl rfl rfl) ?_
 refine L_then (kp [2, 3, 4, 5, 6, 12, 44] rfl) ?_
 refine V_cond rfl ?_ ?_
 ·intro c10; try simp only [td] at c10
  refine Vs rfl ?_
  refine Lm rfl rfl rfl ?_
  iterate 2 refine La rfl rfl rfl ?_
  refine L_then (kp [10, 11] rfl) ?_
  refine V_ret (then_r ?_)
  refine Leave.nil (.tmp rfl (.tmp rfl .nil)) ?_
  first | (exfalso; omega) | (have hgr9 : Grow 33 12 (.slice (some ⟨gb, 0, none⟩) (m + 1) sc) (pieceL v d l i n).length (stL (pieceL v d l i n)) _ := (by rw [h8, rowS_len]; exact hgr); exact ⟨_, (by (try dsimp only); repeat (first | exact HSub.nil _ | refine HSub.take (by repeat first | exact Take.head | apply Take.tail) ?_ | exact HSub.refl _ | refine HSub.drop ?_ | refine HSub.app ?_)), [], _, rfl, rfl, _, by rw [h9]; rfl, hgr9⟩) | (refine ⟨[], HSub.nil _, [], [], rfl, rfl, .slice none 0 0, by rw [h9]; rfl, ?_⟩; rw [pieceL_bad (by rw [h9]; first | assumption | decide)]; exact .nil) | (have h9 := piece_asked (v := v) (d := d) (l := l) (i := i) (n := n) (by first | assumption | (intro hx; simp_all)); refine ⟨[], HSub.nil _, [], [], rfl, rfl, .slice none 0 0, by rw [h9]; rfl, ?_⟩; rw [pieceL_bad (by rw [h9]; first | assumption | decide)]; exact .nil) | (have h9 := piece_none (v := v) (d := d) (l := l) (i := i) (n := n) (by first | assumption | omega) (by assumption); refine ⟨[], HSub.nil _, [], [], rfl, rfl, .slice none 0 0, by rw [h9]; rfl, ?_⟩; rw [pieceL_bad (by rw [h9]; first | assumption | decide)]; exact .nil) | (have h9 := piece_range (v := v) (d := d) (l := l) (i := i) (n := n) (by first | assumption | omega) (by assumption) (by assumption); refine ⟨[], HSub.nil _, [], [], rfl, rfl, .slice none 0 0, by rw [h9]; rfl, ?_⟩; rw [pieceL_bad (by rw [h9]; first | assumption | decide)]; exact .nil)
 intro c10; try simp only [td] at c10
 have h0 : askedF v d l = 0 := by first | assumption | omega
 have hGG := Fl.asked_good h0
 have hGV := hGG.1
 have hdd := hGG.2.1
 have hGB := hGG.2.2
 have hot : oP i 0 (v.pieces.length - 1) = false := by first | assumption | (exfalso; omega)
 have hon : oP n 0 (3000 - (v.pc i.toNat).at_) = false := by first | assumption | (exfalso; omega)
 have hir := oP_false.1 hot
 have hnr := oP_false.1 hon
 simp only [Veh.pc] at hnr
 refine V_skip (then_n ?_)
 refine Vs rfl ?_
 refine Lr rfl (rlA (vs := [_, _, _, _, _, _]) ag28 sz28 rfl rfl rfl) ?_
 refine Lr rfl (rlA (vs := [_, _, _]) ag30 sz30 rfl rfl rfl) ?_
 iterate 3 refine Lm rfl rfl rfl ?_
 refine Lw rfl (w_callG (pre := [_, _]) rfl rfl rfl rfl (fun w hg => rparted_c v d l av pv _ _ w (hv.good hg) (hL.good hg) hGV hdd hGB i n _ rfl (by omega) (by omega))) ?_
 rintro _ _ ⟨_, G, rfl, hfr1, f, m, hP, rfl, sv1, rfl, hgr⟩
 have hml := hP.le
 obtain ⟨sa, sc, rfl⟩ := Grow.form hgr
 obtain ⟨gb, cur, rfl, rfl, hcur, _, _⟩ := Grow.form2 hgr (by omega)
 try simp only [List.cons_append, List.nil_append, List.append_nil]
 refine La rfl rfl rfl ?_
 refine L_then (kp [13] rfl) ?_
 refine V_seq ?_
 refine Vs rfl ?_
 iterate 2 refine Lm rfl rfl rfl ?_
 refine Lp rfl (p_len isl50 rfl rfl) ?_
 first | refine Lp rfl (p_sub' rfl rfl rfl (by unfold InI; omega)) ?_ | refine Lp rfl (p_sub rfl rfl rfl) ?_
 refine Lp rfl (p_idxo es50 rfl rfl rfl (by omega) (by omega)) ?_
 refine Lr rfl (r_loadA (vs := St.cells (f m)) ag33 sz33 rfl rfl (by repeat first | exact mH | apply mT) (cur_sub (row_st (f := f) (k := m) hcur rfl (Nat.le_refl _)) (idx := 0) (by omega) (by decide) rfl)) ?_
 refine Lc rfl rfl rfl rfl (fun w hg => rfar_c (f m) w) ?_
 refine L_then (kp [13, 58] rfl) ?_
 refine V_cond rfl ?_ ?_
 ·intro c11; try simp only [td] at c11
  have h9 : (pieceE v d l i n) = 3 := ptd_bad h0 hot hon hP c11
  refine Vs rfl ?_
  iterate 2 refine La rfl rfl rfl ?_
  refine L_then (kp [10, 11] rfl) ?_
  refine V_ret (then_r ?_)
  refine Leave.nil (.tmp rfl (.tmp rfl .nil)) ?_
  first | (exfalso; omega) | (have hgr9 : Grow 33 12 (.slice (some ⟨gb, 0, none⟩) (m + 1) sc) (pieceL v d l i n).length (stL (pieceL v d l i n)) _ := (by rw [h8, rowS_len]; exact hgr); exact ⟨_, (by (try dsimp only); repeat (first | exact HSub.nil _ | refine HSub.take (by repeat first | exact Take.head | apply Take.tail) ?_ | exact HSub.refl _ | refine HSub.drop ?_ | refine HSub.app ?_)), [], _, rfl, rfl, _, by rw [h9]; rfl, hgr9⟩) | (refine ⟨[], HSub.nil _, [], [], rfl, rfl, .slice none 0 0, by rw [h9]; rfl, ?_⟩; rw [pieceL_bad (by rw [h9]; first | assumption | decide)]; exact .nil) | (have h9 := piece_asked (v := v) (d := d) (l := l) (i := i) (n := n) (by first | assumption | (intro hx; simp_all)); refine ⟨[], HSub.nil _, [], [], rfl, rfl, .slice none 0 0, by rw [h9]; rfl, ?_⟩; rw [pieceL_bad (by rw [h9]; first | assumption | decide)]; exact .nil) | (have h9 := piece_none (v := v) (d := d) (l := l) (i := i) (n := n) (by first | assumption | omega) (by assumption); refine ⟨[], HSub.nil _, [], [], rfl, rfl, .slice none 0 0, by rw [h9]; rfl, ?_⟩; rw [pieceL_bad (by rw [h9]; first | assumption | decide)]; exact .nil) | (have h9 := piece_range (v := v) (d := d) (l := l) (i := i) (n := n) (by first | assumption | omega) (by assumption) (by assumption); refine ⟨[], HSub.nil _, [], [], rfl, rfl, .slice none 0 0, by rw [h9]; rfl, ?_⟩; rw [pieceL_bad (by rw [h9]; first | assumption | decide)]; exact .nil)
 intro c11; try simp only [td] at c11
 obtain ⟨h9, h8, h7⟩ := ptd_ok h0 hot hon hP c11
 refine V_skip (then_n ?_)
 refine Vs rfl ?_
 refine Lm rfl rfl rfl ?_
 iterate 2 refine La rfl rfl rfl ?_
 refine L_then (kp [10, 11] rfl) ?_
 refine V_ret ?_
 refine Leave.nil (.tmp rfl (.tmp rfl .nil)) ?_
 first | (exfalso; omega) | (have hgr9 : Grow 33 12 (.slice (some ⟨gb, 0, none⟩) (m + 1) sc) (pieceL v d l i n).length (stL (pieceL v d l i n)) _ := (by rw [h8, rowS_len]; exact hgr); exact ⟨_, (by (try dsimp only); repeat (first | exact HSub.nil _ | refine HSub.take (by repeat first | exact Take.head | apply Take.tail) ?_ | exact HSub.refl _ | refine HSub.drop ?_ | refine HSub.app ?_)), [], _, rfl, rfl, _, by rw [h9]; rfl, hgr9⟩) | (refine ⟨[], HSub.nil _, [], [], rfl, rfl, .slice none 0 0, by rw [h9]; rfl, ?_⟩; rw [pieceL_bad (by rw [h9]; first | assumption | decide)]; exact .nil) | (have h9 := piece_asked (v := v) (d := d) (l := l) (i := i) (n := n) (by first | assumption | (intro hx; simp_all)); refine ⟨[], HSub.nil _, [], [], rfl, rfl, .slice none 0 0, by rw [h9]; rfl, ?_⟩; rw [pieceL_bad (by rw [h9]; first | assumption | decide)]; exact .nil) | (have h9 := piece_none (v := v) (d := d) (l := l) (i := i) (n := n) (by first | assumption | omega) (by assumption); refine ⟨[], HSub.nil _, [], [], rfl, rfl, .slice none 0 0, by rw [h9]; rfl, ?_⟩; rw [pieceL_bad (by rw [h9]; first | assumption | decide)]; exact .nil) | (have h9 := piece_range (v := v) (d := d) (l := l) (i := i) (n := n) (by first | assumption | omega) (by assumption) (by assumption); refine ⟨[], HSub.nil _, [], [], rfl, rfl, .slice none 0 0, by rw [h9]; rfl, ?_⟩; rw [pieceL_bad (by rw [h9]; first | assumption | decide)]; exact .nil)

end Go.Proofs.YtbncegfgjbdheaaGreat
