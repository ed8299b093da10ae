/- Joined texts. -/
import Derived.Test.YtbncegfgjbdheaaGreatZao
import Derived.Test.YtbncegfgjbdheaaGreatZan
/- YtbncegfgjbdheaaGreat: the reference: lists compared; Fly, Top. -/
set_option linter.all false
namespace Go.Proofs.YtbncegfgjbdheaaGreat
open Go.Vc Go.Tk Go.Fl
set_option maxRecDepth 100000
theorem rSameImpacts_c (l : List Fl.Imp) (va vb : Value) (w : World) (ha : SliceR w 7 va (l.map Imp.cells)) (hb : SliceR w 7 vb (l.map Imp.cells)) (hl : (l.length : Int) ≤ 9223372036854775806) : FnP Tryz.prog 12 [va, vb] w (.bool true) := by
 obtain ⟨aa, ca, rfl, hca, hae⟩ := ha.ex
 obtain ⟨ab, cb, rfl, hcb, hbe⟩ := hb.ex
 simp only [List.length_map] at hca hcb ⊢
 refine fn_pure Tryz.func12 rfl (by kernel_rfl) Tryz.ntmps12 Tryz.results12 rfl ?_
 refine Vs rfl ?_
 refine La rfl rfl rfl ?_
 refine L_then (kp [0, 1] rfl) ?_
 refine V_seq ?_
 refine Vs rfl ?_
 refine Lm rfl rfl rfl ?_
 refine Lp rfl (p_len isl45 rfl rfl) ?_
 refine Lm rfl rfl rfl ?_
 refine Lp rfl (p_len isl45 rfl rfl) ?_
 refine Lp rfl (p_neq rfl rfl rfl) ?_
 refine L_then (kp [0, 1, 10] rfl) ?_
 refine V_cond_f rfl (decide_eq_false (by omega)) ?_
 refine V_skip (then_n ?_)
 refine V_seq ?_
 refine Vs rfl ?_
 refine La rfl rfl rfl ?_
 refine L_then (kp [0, 1, 5] rfl) ?_
 refine V_block ?_
 refine V_loop0 (γ := Int) (kp [0, 1] rfl) (fun k => [(5, .int .i64 k)]) (fun k => 0 ≤ k ∧ k ≤ l.length) (fun k => (l.length - k).toNat) (0) (.cons rfl (.nil _)) (⟨by omega, by omega⟩) ?_
 rintro k hi
 obtain ⟨hk0, hk1⟩ := hi
 refine V_seq ?_
 refine Vs rfl ?_
 iterate 2 refine Lm rfl rfl rfl ?_
 refine Lp rfl (p_len isl45 rfl rfl) ?_
 refine Lp rfl (p_lss rfl rfl rfl) ?_
 refine L_then (kp [0, 1, 5, 14] rfl) ?_
 refine V_cond rfl ?_ ?_
 ·intro c1; try simp only [td] at c1
  obtain ⟨xa, rfl, hxa⟩ := hae k.toNat _ (getD_cells (f := Imp.cells) (d := Fl.imZ) (by omega))
  obtain ⟨xb, rfl, hxb⟩ := hbe k.toNat _ (getD_cells (f := Imp.cells) (d := Fl.imZ) (by omega))
  refine V_skip (then_n ?_)
  refine V_seq ?_
  refine V_block ?_
  refine V_seq (V_draw (.rd 0 (.rd 1 (.rd 2 (.rd 3 (.rd 4 (.rd 5 (.rd 6 (.rd 7 (.rd 8 .done))))))))) mixed (by kernel_rfl) rfl ?_)
  iterate 2 refine Dm rfl rfl rfl rfl ?_
  refine Dp rfl rfl (p_idx es45 rfl rfl rfl (by omega) (by omega)) ?_
  refine Dr rfl rfl (r_loadBA ag86 sz86 rfl rfl hxa rfl List.not_mem_nil) ?_
  iterate 2 refine Dm rfl rfl rfl rfl ?_
  refine Dp rfl rfl (p_idx es45 rfl rfl rfl (by omega) (by omega)) ?_
  refine Dr rfl rfl (r_loadBA ag86 sz86 rfl rfl hxb rfl List.not_mem_nil) ?_
  refine Dp rfl rfl (p_neS lv86 ag86 eg86 rfl rfl rfl rfl rfl) ?_
  refine D_then (kp [0, 1, 5, 25] rfl) ?_
  refine V_cond_f rfl (im_ne _) ?_
  refine V_skip (blk_n (then_n ?_))
  refine V_region rfl ?_
  refine Lm rfl rfl rfl ?_
  first | refine Lp rfl (p_add' rfl rfl rfl (by unfold InI; omega)) ?_ | refine Lp rfl (p_add rfl rfl rfl) ?_
  refine La rfl rfl rfl ?_
  refine L_keep (kp [0, 1, 5] rfl) (then_n ?_)
  refine ⟨k + 1, ?_, ?_, (.cons rfl (.cons rfl (.cons rfl (.nil _)))), (by repeat (first | exact List.Sublist.refl _ | apply List.Sublist.cons_cons | apply List.Sublist.cons | apply List.sublist_append_of_sublist_right)), rfl⟩
  ·exact ⟨by omega, by omega⟩
  omega
 intro c1; try simp only [td] at c1
 refine V_exit (then_e (then_e (blk_e rfl (then_n ?_))))
 refine Vs rfl ?_
 refine La rfl rfl rfl ?_
 refine L_then (kp [4] rfl) ?_
 refine V_ret ?_
 refine Leave.nil (.tmp rfl .nil) ?_
 rfl
set_option maxHeartbeats 8000000 in
theorem rflown_c (v : Veh) (d : Dir) (l : List Fl.Band) (av pv qv bv : Value) (w : World) (hv : VehR w (VehV v av pv qv) v) (hl : BdsR w bv l) (hGV : GoodV v) (hd : dirE d = 0) (hB : GoodB l) (n : Int) (hn : 0 ≤ n ∧ n ≤ 3000) : FnC Tryz.prog 40 [VehV v av pv qv, .agg #[.int .i64 d.x, .int .i64 d.y, .int .i64 d.z], bv, .int .i64 n] w fun u w' => ∃ Hc, Vc.Good w [] Hc w' ∧ ∃ A G, Hc = A ++ G ∧ ∃ m : Nat, (m ≤ n.toNat ∧ (∀ j, j < m → farS ((Fl.stT v d l) j) = false) ∧ (m = n.toNat ∨ farS ((Fl.stT v d l) m) = true)) ∧ LstOut 33 12 (m + 1) (stL (rowS (Fl.stT v d l) m)) (fun sv => sv) u A G := by
 have hL := hl
 obtain ⟨ba, bc, rfl, hbc, hbe⟩ := hl.sl.ex
 simp only [List.length_map] at hL ⊢
 refine fn_new Tryz.func40 rfl (by kernel_rfl) Tryz.ntmps40 Tryz.results40 rfl ?_
 refine Vs rfl ?_
 refine Lw rfl (w_box rfl rfl) ?_
 rintro _ _ ⟨b1, hb1, rfl, rfl⟩
 refine Lw rfl (w_box rfl rfl) ?_
 rintro _ _ ⟨b2, hb2, rfl, rfl⟩
 refine La rfl rfl rfl ?_
 refine L_then (kp [2, 3, 4, 5] rfl) ?_
 refine Vs rfl ?_
 refine Lp rfl (p_build (r := [_, _, _, _, _, _, _, _, _, _, _, _]) pl33 zr33 rfl rfl rfl) ?_
 refine Lw rfl (w_slice (r := [_, _, _, _, _, _, _, _, _, _, _, _]) un50 sz33 zr33 rfl (by decide) rfl (by decide) rfl rfl) ?_
 rintro _ _ ⟨b3, hb3, rfl, rfl⟩
 refine La rfl rfl rfl ?_
 refine L_then (kp [2, 3, 4, 5, 9] rfl) ?_
 refine V_seq ?_
 refine Vs rfl ?_
 refine La rfl rfl rfl ?_
 refine L_then (kp [2, 3, 4, 5, 9, 10] rfl) ?_
 refine V_block ?_
 refine V_hs (H' := (fun (k, sv, G) => (b2, .cells #[.int .i64 d.x, .int .i64 d.y, .int .i64 d.z] 30) :: (b1, .cells #[.string v.name, .int .i64 v.gravity.lo, .int .i64 v.gravity.hi, av, pv, qv] 28) :: G : (Nat × Value × Heap) → Heap) (0, .slice (some ⟨b3, 0, none⟩) 1 1, [(b3, .cells #[.int .i64 0, .int .i64 0, .int .i64 0, .int .i64 0, .int .i64 0, .int .i64 0, .int .i64 0, .int .i64 0, .int .i64 0, .int .i64 0, .int .i64 0, .int .i64 0] 33)])) (by (try dsimp only); repeat (first | exact HSub.nil _ | refine HSub.take (by repeat first | exact Take.head | apply Take.tail) ?_ | exact HSub.refl _ | refine HSub.drop ?_ | refine HSub.app ?_)) ?_
 refine V_loop1 (γ := Nat × Value × Heap) (kp [2, 3, 4, 5] rfl) (fun (k, sv, G) => [(10, .int .i64 (k : Int)), (9, sv)]) (fun (k, sv, G) => (b2, .cells #[.int .i64 d.x, .int .i64 d.y, .int .i64 d.z] 30) :: (b1, .cells #[.string v.name, .int .i64 v.gravity.lo, .int .i64 v.gravity.hi, av, pv, qv] 28) :: G) (fun (k, sv, G) => k ≤ n.toNat ∧ Grow 33 12 sv (k + 1) (stL (rowS (Fl.stT v d l) k)) G ∧ ∀ j, j < k → farS ((Fl.stT v d l) j) = false) (fun (k, sv, G) => n.toNat - k) ((0, .slice (some ⟨b3, 0, none⟩) 1 1, [(b3, .cells #[.int .i64 0, .int .i64 0, .int .i64 0, .int .i64 0, .int .i64 0, .int .i64 0, .int .i64 0, .int .i64 0, .int .i64 0, .int .i64 0, .int .i64 0, .int .i64 0] 33)])) (.cons rfl (.cons rfl (.nil _))) (by repeat (first | exact List.nil_sublist _ | exact List.Sublist.refl _ | apply List.Sublist.cons_cons | apply List.Sublist.cons)) (⟨Nat.zero_le _, Grow.row (cur := #[.int .i64 0, .int .i64 0, .int .i64 0, .int .i64 0, .int .i64 0, .int .i64 0, .int .i64 0, .int .i64 0, .int .i64 0, .int .i64 0, .int .i64 0, .int .i64 0]) (by decide) (by decide) rfl rfl rfl, fun j hj => absurd hj (Nat.not_lt_zero _)⟩) ?_
 rintro ⟨k, sv, G⟩ hi
 obtain ⟨hk1, hgr, hall⟩ := hi
 dsimp only at hk1 hgr hall ⊢
 obtain ⟨sa, sc, rfl⟩ := Grow.form hgr
 obtain ⟨gb, cur, rfl, rfl, hcur, _, _⟩ := Grow.form2 hgr (by omega)
 refine V_seq ?_
 refine Vs rfl ?_
 iterate 2 refine Lm rfl rfl rfl ?_
 refine Lp rfl (p_lss rfl rfl rfl) ?_
 refine Lm rfl rfl rfl ?_
 refine L_cases (d := 16) rfl ?_ ?_
 ·intro g1; have g1' := g1; try simp only [td] at g1'
  refine L_yes rfl rfl rfl g1 (X_p (p_move rfl rfl) ?_)
  refine L_yes rfl rfl rfl g1 (X_p (p_move rfl rfl) ?_)
  refine L_yes rfl rfl rfl g1 (X_p (p_idxo es50 rfl rfl rfl (by omega) (by omega)) ?_)
  refine L_yes rfl rfl rfl g1 (X_rd (r_loadA (vs := St.cells ((Fl.stT v d l) k)) ag33 sz33 rfl rfl (by repeat first | exact mH | apply mT) (row_st (f := (Fl.stT v d l)) hcur rfl (by omega))) ?_)
  refine L_yes rfl rfl rfl g1 (X_wr (w_callP rfl rfl rfl (fun w hg => rfar_c ((Fl.stT v d l) k) w)) ?_)
  rintro _ _ ⟨rfl, rfl⟩
  refine L_yes rfl rfl rfl g1 (X_p (p_not rfl rfl) ?_)
  refine Lp rfl (p_pick_t rfl rfl g1 rfl) ?_
  refine L_then (kp [2, 3, 4, 5, 9, 10, 23] rfl) ?_
  refine V_cond rfl ?_ ?_
  ·intro c1; try simp only [td] at c1
   have hfk : farS ((Fl.stT v d l) k) = false := by simpa using c1
   refine V_skip (then_n ?_)
   refine V_seq ?_
   refine V_block ?_
   refine V_draw (.rd 0 (.rd 1 (.rd 2 (.rd 3 (.rd 4 (.rd 5 (.rd 6 (.rd 7 (.rd 8 (.rd 9 (.rd 11 (.rd 12 (.rd 13 (.rd 14 (.wr 10 [14, 13, 12, 11, 7, 6, 5, 4, 3, 2, 1, 0] (.wr 15 [13, 12, 11, 9, 8, 4, 3, 2, 1, 0] (.wr 16 [14, 13, 12, 11, 9, 8, 7, 6, 5, 3, 2, 1, 0] (.wr 17 [14, 13, 12, 11, 9, 8, 7, 6, 5, 4, 3, 2, 1, 0] (.wr 18 [14, 13, 12, 11, 9, 8, 7, 6, 5, 4, 3, 2, 1] (.wr 19 [] .done)))))))))))))))))))) mixed (by kernel_rfl) rfl ?_
   iterate 3 refine Dm rfl rfl rfl rfl ?_
   refine Dp rfl rfl (p_idxo es50 rfl rfl rfl (by omega) (by omega)) ?_
   refine Dr rfl rfl (r_loadA (vs := St.cells ((Fl.stT v d l) k)) ag33 sz33 rfl rfl (by repeat first | exact mH | apply mT) (row_st (f := (Fl.stT v d l)) hcur rfl (by omega))) ?_
   refine Dr rfl rfl (rlA (vs := [_, _, _, _, _, _]) ag28 sz28 rfl rfl rfl) ?_
   refine Dr rfl rfl (rlA (vs := [_, _, _]) ag30 sz30 rfl rfl rfl) ?_
   refine Dm rfl rfl rfl rfl ?_
   refine Dr rfl rfl (rlA (vs := [_, _, _, _, _, _]) ag28 sz28 rfl rfl rfl) ?_
   iterate 3 refine Dm rfl rfl rfl rfl ?_
   refine Dp rfl rfl (p_idxo es50 rfl rfl rfl (by omega) (by omega)) ?_
   refine Dr rfl rfl (r_loadA (vs := St.cells ((Fl.stT v d l) k)) ag33 sz33 rfl rfl (by repeat first | exact mH | apply mT) (row_st (f := (Fl.stT v d l)) hcur rfl (by omega))) ?_
   refine D_wr (.go (E' := [(14, _), (6, _), (5, _), (4, _)]) rfl (.plain rfl) (w_callP rfl rfl rfl (fun w hg => rnow_c k (by omega) v _ hGV w (hv.good hg))) rfl ?_)
   rintro _ _ ⟨rfl, rfl⟩
   refine ⟨(.cons rfl (.plain rfl) (r_loadA (vs := St.cells ((Fl.stT v d l) k)) ag33 sz33 rfl rfl (by repeat first | exact mH | apply mT) (row_st (f := (Fl.stT v d l)) hcur rfl (by omega))) (.cons rfl (.plain rfl) (rlA (vs := [_, _, _]) ag30 sz30 rfl rfl rfl) (.cons rfl (.plain rfl) (rlA (vs := [_, _, _, _, _, _]) ag28 sz28 rfl rfl rfl) (.cons rfl (.plain rfl) (r_loadA (vs := St.cells ((Fl.stT v d l) k)) ag33 sz33 rfl rfl (by repeat first | exact mH | apply mT) (row_st (f := (Fl.stT v d l)) hcur rfl (by omega))) .nil)))), ?_⟩
   refine D_wr (.go (E' := [(4, _)]) rfl (.plain rfl) (w_callP rfl rfl rfl (fun w hg => rforce_c d l _ (nowT v (k : Int)) ((Fl.stT v d l) k) v _ w (hv.good hg) hGV hd hB (now_ph hGV k) hfk (hL.good hg))) rfl ?_)
   rintro _ _ ⟨rfl, rfl⟩
   refine ⟨(.cons rfl (.plain rfl) (r_loadA (vs := St.cells ((Fl.stT v d l) k)) ag33 sz33 rfl rfl (by repeat first | exact mH | apply mT) (row_st (f := (Fl.stT v d l)) hcur rfl (by omega))) .nil), ?_⟩
   refine D_wr (.go (E' := []) rfl (.plain rfl) (w_callP rfl rfl rfl (fun w hg => rnext_c ((Fl.stT v d l) k) (forceT v d l (nowT v (k : Int)) ((Fl.stT v d l) k)) hfk (force_bnd hGV hd hB (now_ph hGV k) (far_false.1 hfk).2) w)) rfl ?_)
   rintro _ _ ⟨rfl, rfl⟩
   refine ⟨.nil, ?_⟩
   refine D_wr (.go (E' := []) rfl (.plain rfl) (w_slice (r := [_, _, _, _, _, _, _, _, _, _, _, _]) un50 sz33 zr33 rfl (by decide) rfl (by decide) rfl rfl) rfl ?_)
   rintro _ _ ⟨b4, hb4, rfl, rfl⟩
   refine ⟨.nil, ?_⟩
   refine D_wr (.go (E' := []) rfl (.plain rfl) (w_app (pre := [_, _, _]) (G := [_]) ap50 rfl rfl rfl hgr rfl rfl (news_own (by repeat first | exact mH | apply mT)) (by intro u hu; simp only [St.cells, nextS, List.mem_cons, List.not_mem_nil, or_false] at hu; rcases hu with rfl | rfl | rfl | rfl | rfl | rfl | rfl | rfl | rfl | rfl | rfl | rfl <;> rfl) (by omega) (by simp only [maxLen]; omega)) rfl ?_)
   rintro _ _ ⟨G1a, G1c, G1, rfl, rfl, hgr1⟩
   try simp only [List.cons_append, List.nil_append, List.append_nil]
   refine ⟨.nil, ?_⟩
   refine D_wr (.go (E' := []) rfl (.plain rfl) (rd_wr (RdP.rd (p_assign rfl rfl))) rfl ?_)
   rintro _ _ ⟨rfl, rfl⟩
   refine ⟨.nil, ?_⟩
   refine D_keep (kp [2, 3, 4, 5, 9, 10] rfl) (blk_n (then_n ?_))
   refine V_region rfl ?_
   refine Lm rfl rfl rfl ?_
   first | refine Lp rfl (p_add' rfl rfl rfl (by unfold InI; omega)) ?_ | refine Lp rfl (p_add rfl rfl rfl) ?_
   refine La rfl rfl rfl ?_
   refine L_keep (kp [2, 3, 4, 5, 9, 10] rfl) (then_n ?_)
   refine ⟨(k + 1, _, G1), ?_, ?_, (.cons rfl (.cons rfl (.cons rfl (.cons rfl (.cons rfl (.cons rfl (.nil _))))))), (by repeat (first | exact List.nil_sublist _ | exact List.Sublist.refl _ | apply List.Sublist.cons_cons | apply List.Sublist.cons | apply List.sublist_append_of_sublist_right)), rfl⟩
   ·refine ⟨by dsimp only; omega, ?_, fun j hj => ?_⟩
    ·have e : stL (rowS (Fl.stT v d l) (k + 1)) = stL (rowS (Fl.stT v d l) k) ++ ((Fl.stT v d l) (k + 1)).cells := runL_s (Fl.stT v d l) (k + 1)
     dsimp only
     rw [e]; exact hgr1
    by_cases e : j < k
    ·exact hall j e
    have ej : j = k := by dsimp only at hj; omega
    rw [ej]; exact hfk
   dsimp only; omega
  intro c1; try simp only [td] at c1
  have hfk : farS ((Fl.stT v d l) k) = true := by simpa using c1
  refine V_exit (then_e (then_e (blk_e rfl (then_n ?_))))
  refine Vs rfl ?_
  refine Lm rfl rfl rfl ?_
  refine La rfl rfl rfl ?_
  refine L_then (kp [8] rfl) ?_
  refine V_ret ?_
  refine Leave.nil (.tmp rfl .nil) ?_
  exact ⟨_, (by (try dsimp only); repeat (first | exact HSub.nil _ | refine HSub.take (by repeat first | exact Take.head | apply Take.tail) ?_ | exact HSub.refl _ | refine HSub.drop ?_ | refine HSub.app ?_)), [], _, rfl, k, ⟨by omega, hall, .inr hfk⟩, rfl, _, rfl, hgr⟩
 intro g1; have g1' := g1; try simp only [td] at g1'
 iterate 6 refine L_no rfl rfl rfl g1 ?_
 refine Lp rfl (p_pick_f rfl rfl g1 rfl) ?_
 refine L_then (kp [2, 3, 4, 5, 9, 10, 23] rfl) ?_
 refine V_cond_f rfl rfl ?_
 refine V_exit (then_e (then_e (blk_e rfl (then_n ?_))))
 refine Vs rfl ?_
 refine Lm rfl rfl rfl ?_
 refine La rfl rfl rfl ?_
 refine L_then (kp [8] rfl) ?_
 refine V_ret ?_
 refine Leave.nil (.tmp rfl .nil) ?_
 exact ⟨_, (by (try dsimp only); repeat (first | exact HSub.nil _ | refine HSub.take (by repeat first | exact Take.head | apply Take.tail) ?_ | exact HSub.refl _ | refine HSub.drop ?_ | refine HSub.app ?_)), [], _, rfl, k, ⟨by omega, hall, .inl (by omega)⟩, rfl, _, rfl, hgr⟩
end Go.Proofs.YtbncegfgjbdheaaGreat

/- YtbncegfgjbdheaaGreat: the reference: Piece. -/
set_option linter.all false
namespace Go.Proofs.YtbncegfgjbdheaaGreat
open Go.Vc Go.Tk Go.Fl
set_option maxRecDepth 100000
set_option maxHeartbeats 8000000 in
theorem rparted_c (v : Veh) (d : Dir) (l : List Fl.Band) (av pv qv bv : Value) (w : World) (hv : VehR w (VehV v av pv qv) v) (hl : BdsR w bv l) (hGV : GoodV v) (hd : dirE d = 0) (hB : GoodB l) (i n : Int) (x : Fl.Piece) (hx : v.pieces.getD i.toNat pcZ = x) (hib : 0 ≤ i ∧ i < v.pieces.length) (hn : 0 ≤ n ∧ n ≤ 3000) : FnC Tryz.prog 41 [VehV v av pv qv, .agg #[.int .i64 d.x, .int .i64 d.y, .int .i64 d.z], bv, .int .i64 i, .int .i64 n] w fun u w' => ∃ Hc, Vc.Good w [] Hc w' ∧ ∃ A G, Hc = A ++ G ∧ ∃ (f : Nat → St) (m : Nat), PtdI v d l x n.toNat f m ∧ LstOut 33 12 (m + 1) (stL (rowS f m)) (fun sv => sv) u A G := by
 have hL := hl
 obtain ⟨ba, bc, rfl, hbc, hbe⟩ := hl.sl.ex
 simp only [List.length_map] at hL ⊢
 obtain ⟨qa, qc, rfl, hqc, hqe⟩ := hv.sl.2.2.ex
 simp only [List.length_map] at hqc hv ⊢
 have hpx := pc_zero (hGV.pc i.toNat (by omega))
 rw [show v.pc i.toNat = x from hx] at hpx
 have hpx1 := hpx.at_
 obtain ⟨⟨k1, k2, k3⟩, ⟨k4, k5, k6⟩, ⟨k7, k8, k9⟩⟩ := hpx.kick
 obtain ⟨tb, etb, hc⟩ := hqe i.toNat _ (getD_cells (d := pcZ) (by omega))
 subst etb
 rw [hx] at hc
 refine fn_new Tryz.func41 rfl (by kernel_rfl) Tryz.ntmps41 Tryz.results41 rfl ?_
 refine Vs rfl ?_
 refine Lw rfl (w_box rfl rfl) ?_
 rintro _ _ ⟨b1, hb1, rfl, rfl⟩
 refine Lw rfl (w_box rfl rfl) ?_
 rintro _ _ ⟨b2, hb2, rfl, rfl⟩
 refine La rfl rfl rfl ?_
 refine L_then (kp [2, 3, 4, 5, 6] rfl) ?_
 refine Vs rfl ?_
 refine Lp rfl (p_fieldo fo28_4 rfl rfl) ?_
 refine Lr rfl (rl ag26 rfl rfl rfl) ?_
 refine Lm rfl rfl rfl ?_
 refine Lp rfl (p_idx es26 rfl rfl rfl (by omega) (by omega)) ?_
 refine Lr rfl (r_loadBA ag93 sz93 rfl rfl hc rfl List.not_mem_nil) ?_
 refine Lw rfl (w_alloc zr93 rfl) ?_
 rintro _ _ ⟨b3, hb3, rfl, rfl⟩
 refine Ls (cs' := [_, _, _, _, _, _, _, _, _, _, _, _, _]) rfl sz93 rfl rfl rfl rfl rfl rfl rfl ?_
 refine L_then (kp [2, 4, 5, 6, 11] rfl) ?_
 refine Vs rfl ?_
 refine Lr rfl (rlA (vs := [_, _, _, _, _, _]) ag28 sz28 rfl rfl rfl) ?_
 refine Lr rfl (rlA (vs := [_, _, _]) ag30 sz30 rfl rfl rfl) ?_
 refine Lm rfl rfl rfl ?_
 refine Lp rfl (p_fieldo fo93_1 rfl rfl) ?_
 refine Lr rfl (rl ag3 rfl rfl rfl) ?_
 refine Lw rfl (w_callG (pre := [_, _, _]) rfl rfl rfl rfl (fun w hg => rflown_c v d l av pv _ _ w (hv.good hg) (hL.good hg) hGV hd hB x.at_ (by omega))) ?_
 rintro _ _ ⟨_, G0, rfl, hfr1, J, ⟨hm1, hm2, hm3⟩, rfl, sv1, rfl, hgr0⟩
 obtain ⟨sa, sc, rfl⟩ := Grow.form hgr0
 obtain ⟨gb, cur, rfl, rfl, hcur, _, _⟩ := Grow.form2 hgr0 (by omega)
 try simp only [List.cons_append, List.nil_append, List.append_nil]
 refine La rfl rfl rfl ?_
 refine L_then (kp [2, 4, 5, 6, 11, 12] rfl) ?_
 refine Vs rfl ?_
 iterate 2 refine Lm rfl rfl rfl ?_
 refine Lp rfl (p_len isl50 rfl rfl) ?_
 first | refine Lp rfl (p_sub' rfl rfl rfl (by unfold InI; omega)) ?_ | refine Lp rfl (p_sub rfl rfl rfl) ?_
 refine Lp rfl (p_idxo es50 rfl rfl rfl (by omega) (by omega)) ?_
 refine Lr rfl (r_loadA (vs := St.cells ((Fl.stT v d l) J)) ag33 sz33 rfl rfl (by repeat first | exact mH | apply mT) (cur_sub (row_st (f := (Fl.stT v d l)) (k := J) hcur rfl (Nat.le_refl _)) (idx := 0) (by omega) (by decide) rfl)) ?_
 refine Lw rfl (w_alloc zr33 rfl) ?_
 rintro _ _ ⟨b5, hb5, rfl, rfl⟩
 refine Ls (cs' := [_, _, _, _, _, _, _, _, _, _, _, _]) rfl sz33 rfl rfl rfl rfl rfl rfl rfl ?_
 refine L_then (kp [2, 4, 5, 6, 11, 13] rfl) ?_
 refine V_seq ?_
 refine Vs rfl ?_
 refine Lr rfl (rlA (vs := [_, _, _, _, _, _, _, _, _, _, _, _]) ag33 sz33 rfl rfl rfl) ?_
 refine Lc rfl rfl rfl rfl (fun w hg => rfar_c ((Fl.stT v d l) J) w) ?_
 refine L_then (kp [2, 4, 5, 6, 11, 13, 35] rfl) ?_
 refine V_cond rfl ?_ ?_
 ·intro c1; try simp only [td] at c1
  have hfJ : farS ((Fl.stT v d l) J) = true := c1
  refine Vs rfl ?_
  refine Lr rfl (rlA (vs := [_, _, _, _, _, _, _, _, _, _, _, _]) ag33 sz33 rfl rfl rfl) ?_
  refine Lw rfl (w_slice (r := [_, _, _, _, _, _, _, _, _, _, _, _]) un50 sz33 zr33 rfl (by decide) rfl (by decide) rfl rfl) ?_
  rintro _ _ ⟨b6, hb6, rfl, rfl⟩
  refine La rfl rfl rfl ?_
  refine L_then (kp [10] rfl) ?_
  refine V_ret (then_r ?_)
  refine Leave.nil (.tmp rfl .nil) ?_
  exact ⟨_, (by (try dsimp only); repeat (first | exact HSub.nil _ | refine HSub.take (by repeat first | exact Take.head | apply Take.tail) ?_ | exact HSub.refl _ | refine HSub.drop ?_ | refine HSub.app ?_)), [], _, rfl, _, 0, .inl ⟨J, hm1, rfl, rfl, hfJ⟩, rfl, _, rfl, Grow.row (el := 33) (cur := #[.int .i64 ((Fl.stT v d l) J).p.x.lo, .int .i64 ((Fl.stT v d l) J).p.x.hi, .int .i64 ((Fl.stT v d l) J).p.y.lo, .int .i64 ((Fl.stT v d l) J).p.y.hi, .int .i64 ((Fl.stT v d l) J).p.z.lo, .int .i64 ((Fl.stT v d l) J).p.z.hi, .int .i64 ((Fl.stT v d l) J).v.x.lo, .int .i64 ((Fl.stT v d l) J).v.x.hi, .int .i64 ((Fl.stT v d l) J).v.y.lo, .int .i64 ((Fl.stT v d l) J).v.y.hi, .int .i64 ((Fl.stT v d l) J).v.z.lo, .int .i64 ((Fl.stT v d l) J).v.z.hi]) (by decide) (by decide) rfl rfl rfl⟩
 intro c1; try simp only [td] at c1
 have hfJ : farS ((Fl.stT v d l) J) = false := c1
 have heJ : J = x.at_.toNat := hm3.resolve_right (by rw [hfJ]; decide)
 have hallJ : ∀ j, j ≤ x.at_.toNat → farS (Fl.stT v d l j) = false := fun j hj => by
  by_cases e : j = J
  ·rw [e]; exact hfJ
  exact hm2 j (by omega)
 obtain ⟨⟨⟨p1, p2, p3⟩, ⟨p4, p5, p6⟩, ⟨p7, p8, p9⟩⟩, ⟨v1, v2, v3⟩, ⟨v4, v5, v6⟩, ⟨v7, v8, v9⟩⟩ := far_false.1 hfJ
 refine V_skip (then_n ?_)
 refine V_seq (V_draw (.rd 0 (.rd 1 (.rd 2 (.rd 3 (.rd 4 (.rd 6 (.rd 7 (.rd 8 (.rd 9 (.rd 10 (.rd 12 (.rd 13 (.rd 14 (.rd 15 (.rd 16 (.wr 5 [16, 15, 14, 13, 12, 10, 9, 8, 7, 6, 3, 2, 0] (.rd 18 (.wr 11 [18, 16, 15, 14, 13, 12, 9, 8, 6, 4, 3, 2, 1, 0] (.wr 17 [18, 15, 14, 12, 10, 9, 8, 7, 6, 4, 3, 2, 1, 0] (.wr 19 [16, 15, 14, 10, 9, 8] (.rd 20 (.wr 21 [16, 15, 14] (.rd 22 (.wr 23 [] .done)))))))))))))))))))))))) mixed (by kernel_rfl) rfl ?_)
 refine Dp rfl rfl (p_fieldo fo33_3 rfl rfl) ?_
 refine Dr rfl rfl (rlA (vs := [_, _]) ag23 sz23 rfl rfl rfl) ?_
 refine Dp rfl rfl (p_fieldo fo93_4 rfl rfl) ?_
 refine Dp rfl rfl (p_fieldo fo74_0 rfl rfl) ?_
 refine Dr rfl rfl (rlA (vs := [_, _]) ag23 sz23 rfl rfl rfl) ?_
 refine Dp rfl rfl (p_fieldo fo33_4 rfl rfl) ?_
 refine Dr rfl rfl (rlA (vs := [_, _]) ag23 sz23 rfl rfl rfl) ?_
 refine Dp rfl rfl (p_fieldo fo93_4 rfl rfl) ?_
 refine Dp rfl rfl (p_fieldo fo74_1 rfl rfl) ?_
 refine Dr rfl rfl (rlA (vs := [_, _]) ag23 sz23 rfl rfl rfl) ?_
 refine Dp rfl rfl (p_fieldo fo33_5 rfl rfl) ?_
 refine Dr rfl rfl (rlA (vs := [_, _]) ag23 sz23 rfl rfl rfl) ?_
 refine Dp rfl rfl (p_fieldo fo93_4 rfl rfl) ?_
 refine Dp rfl rfl (p_fieldo fo74_2 rfl rfl) ?_
 refine Dr rfl rfl (rlA (vs := [_, _]) ag23 sz23 rfl rfl rfl) ?_
 refine D_wr (.go (E' := [(16, _), (13, _), (10, _), (7, _)]) rfl (.plain rfl) (w_callP rfl rfl rfl (fun w hg => radd_c ((Fl.stT v d l) J).v.x x.kick.x (by omega) w)) rfl ?_)
 rintro _ _ ⟨rfl, rfl⟩
 refine ⟨(.cons rfl (.plain rfl) (rlA (vs := [_, _]) ag23 sz23 rfl rfl rfl) (.cons rfl (.plain rfl) (rlA (vs := [_, _]) ag23 sz23 rfl rfl rfl) (.cons rfl (.plain rfl) (rlA (vs := [_, _]) ag23 sz23 rfl rfl rfl) (.cons rfl (.plain rfl) (rlA (vs := [_, _]) ag23 sz23 rfl rfl rfl) .nil)))), ?_⟩
 refine Dp rfl rfl (p_fieldo fo33_3 rfl rfl) ?_
 refine D_wr (.go (E' := [(16, _), (13, _)]) rfl (.plain rfl) (w_callP rfl rfl rfl (fun w hg => radd_c ((Fl.stT v d l) J).v.y x.kick.y (by omega) w)) rfl ?_)
 rintro _ _ ⟨rfl, rfl⟩
 refine ⟨(.cons rfl (.plain rfl) (rlA (vs := [_, _]) ag23 sz23 rfl rfl rfl) (.cons rfl (.plain rfl) (rlA (vs := [_, _]) ag23 sz23 rfl rfl rfl) .nil)), ?_⟩
 refine D_wr (.go (E' := []) rfl (.plain rfl) (w_callP rfl rfl rfl (fun w hg => radd_c ((Fl.stT v d l) J).v.z x.kick.z (by omega) w)) rfl ?_)
 rintro _ _ ⟨rfl, rfl⟩
 refine ⟨.nil, ?_⟩
 refine D_wr (.go (E' := []) rfl (.plain rfl) (ws (cs' := [_, _, _, _, _, _, _, _, _, _, _, _]) sz23 rfl rfl rfl rfl rfl rfl rfl) rfl ?_)
 rintro _ _ ⟨rfl, rfl⟩
 refine ⟨.nil, ?_⟩
 refine Dp rfl rfl (p_fieldo fo33_4 rfl rfl) ?_
 refine D_wr (.go (E' := []) rfl (.plain rfl) (ws (cs' := [_, _, _, _, _, _, _, _, _, _, _, _]) sz23 rfl rfl rfl rfl rfl rfl rfl) rfl ?_)
 rintro _ _ ⟨rfl, rfl⟩
 refine ⟨.nil, ?_⟩
 refine Dp rfl rfl (p_fieldo fo33_5 rfl rfl) ?_
 refine D_wr (.go (E' := []) rfl (.plain rfl) (ws (cs' := [_, _, _, _, _, _, _, _, _, _, _, _]) sz23 rfl rfl rfl rfl rfl rfl rfl) rfl ?_)
 rintro _ _ ⟨rfl, rfl⟩
 refine ⟨.nil, ?_⟩
 refine D_then (kp [2, 4, 5, 6, 11, 13] rfl) ?_
 refine Vs rfl ?_
 refine Lp rfl (p_fieldo fo93_2 rfl rfl) ?_
 refine Lr rfl (rlA (vs := [_, _]) ag23 sz23 rfl rfl rfl) ?_
 refine Lp rfl (p_fieldo fo93_3 rfl rfl) ?_
 refine Lr rfl (rlA (vs := [_, _]) ag23 sz23 rfl rfl rfl) ?_
 refine Lp rfl (p_build (r := [_, _, _, _, _, _, _, _, _, _, _, _, _]) pl76 zr76 rfl rfl rfl) ?_
 refine Lw rfl (w_alloc zr76 rfl) ?_
 rintro _ _ ⟨b6, hb6, rfl, rfl⟩
 refine Ls (cs' := [_, _, _, _, _, _, _, _, _, _, _, _, _]) rfl sz76 rfl rfl rfl rfl rfl rfl rfl ?_
 refine L_then (kp [2, 4, 5, 6, 13, 14] rfl) ?_
 refine Vs rfl ?_
 refine Lr rfl (rlA (vs := [_, _, _, _, _, _, _, _, _, _, _, _]) ag33 sz33 rfl rfl rfl) ?_
 refine Lw rfl (w_slice (r := [_, _, _, _, _, _, _, _, _, _, _, _]) un50 sz33 zr33 rfl (by decide) rfl (by decide) rfl rfl) ?_
 rintro _ _ ⟨b7, hb7, rfl, rfl⟩
 refine La rfl rfl rfl ?_
 refine L_then (kp [2, 4, 5, 6, 14, 15] rfl) ?_
 refine V_seq ?_
 refine Vs rfl ?_
 refine La rfl rfl rfl ?_
 refine L_then (kp [2, 4, 5, 6, 14, 15, 16] rfl) ?_
 refine V_block ?_
 refine V_hs (H' := (fun (k, sv, G) => (b6, .cells #[.int .i64 0, .int .i64 0, .int .i64 0, .int .i64 x.mass.lo, .int .i64 x.mass.hi, .int .i64 x.drag.lo, .int .i64 x.drag.hi, .int .i64 0, .int .i64 0, .int .i64 0, .int .i64 0, .int .i64 0, .int .i64 0] 76) :: (b2, .cells #[.int .i64 d.x, .int .i64 d.y, .int .i64 d.z] 30) :: (b1, .cells #[.string v.name, .int .i64 v.gravity.lo, .int .i64 v.gravity.hi, av, pv, .slice (some tb) v.pieces.length qc] 28) :: G : (Nat × Value × Heap) → Heap) (0, .slice (some ⟨b7, 0, none⟩) 1 1, [(b7, .cells #[.int .i64 ((Fl.stT v d l) J).p.x.lo, .int .i64 ((Fl.stT v d l) J).p.x.hi, .int .i64 ((Fl.stT v d l) J).p.y.lo, .int .i64 ((Fl.stT v d l) J).p.y.hi, .int .i64 ((Fl.stT v d l) J).p.z.lo, .int .i64 ((Fl.stT v d l) J).p.z.hi, .int .i64 (Fl.addS ((Fl.stT v d l) J).v.x x.kick.x).lo, .int .i64 (Fl.addS ((Fl.stT v d l) J).v.x x.kick.x).hi, .int .i64 (Fl.addS ((Fl.stT v d l) J).v.y x.kick.y).lo, .int .i64 (Fl.addS ((Fl.stT v d l) J).v.y x.kick.y).hi, .int .i64 (Fl.addS ((Fl.stT v d l) J).v.z x.kick.z).lo, .int .i64 (Fl.addS ((Fl.stT v d l) J).v.z x.kick.z).hi] 33)])) (by (try dsimp only); repeat (first | exact HSub.nil _ | refine HSub.take (by repeat first | exact Take.head | apply Take.tail) ?_ | exact HSub.refl _ | refine HSub.drop ?_ | refine HSub.app ?_)) ?_
 refine V_loop1 (γ := Nat × Value × Heap) (kp [2, 4, 5, 6, 14] rfl) (fun (k, sv, G) => [(16, .int .i64 (k : Int)), (15, sv)]) (fun (k, sv, G) => (b6, .cells #[.int .i64 0, .int .i64 0, .int .i64 0, .int .i64 x.mass.lo, .int .i64 x.mass.hi, .int .i64 x.drag.lo, .int .i64 x.drag.hi, .int .i64 0, .int .i64 0, .int .i64 0, .int .i64 0, .int .i64 0, .int .i64 0] 76) :: (b2, .cells #[.int .i64 d.x, .int .i64 d.y, .int .i64 d.z] 30) :: (b1, .cells #[.string v.name, .int .i64 v.gravity.lo, .int .i64 v.gravity.hi, av, pv, .slice (some tb) v.pieces.length qc] 28) :: G) (fun (k, sv, G) => k ≤ n.toNat ∧ Grow 33 12 sv (k + 1) (stL (rowS (Fl.pcT v d l x) k)) G ∧ ∀ j, j < k → farS ((Fl.pcT v d l x) j) = false) (fun (k, sv, G) => n.toNat - k) ((0, .slice (some ⟨b7, 0, none⟩) 1 1, [(b7, .cells #[.int .i64 ((Fl.stT v d l) J).p.x.lo, .int .i64 ((Fl.stT v d l) J).p.x.hi, .int .i64 ((Fl.stT v d l) J).p.y.lo, .int .i64 ((Fl.stT v d l) J).p.y.hi, .int .i64 ((Fl.stT v d l) J).p.z.lo, .int .i64 ((Fl.stT v d l) J).p.z.hi, .int .i64 (Fl.addS ((Fl.stT v d l) J).v.x x.kick.x).lo, .int .i64 (Fl.addS ((Fl.stT v d l) J).v.x x.kick.x).hi, .int .i64 (Fl.addS ((Fl.stT v d l) J).v.y x.kick.y).lo, .int .i64 (Fl.addS ((Fl.stT v d l) J).v.y x.kick.y).hi, .int .i64 (Fl.addS ((Fl.stT v d l) J).v.z x.kick.z).lo, .int .i64 (Fl.addS ((Fl.stT v d l) J).v.z x.kick.z).hi] 33)])) (.cons rfl (.cons rfl (.nil _))) (by repeat (first | exact List.nil_sublist _ | exact List.Sublist.refl _ | apply List.Sublist.cons_cons | apply List.Sublist.cons)) (⟨Nat.zero_le _, Grow.row (cur := #[.int .i64 ((Fl.stT v d l) J).p.x.lo, .int .i64 ((Fl.stT v d l) J).p.x.hi, .int .i64 ((Fl.stT v d l) J).p.y.lo, .int .i64 ((Fl.stT v d l) J).p.y.hi, .int .i64 ((Fl.stT v d l) J).p.z.lo, .int .i64 ((Fl.stT v d l) J).p.z.hi, .int .i64 (Fl.addS ((Fl.stT v d l) J).v.x x.kick.x).lo, .int .i64 (Fl.addS ((Fl.stT v d l) J).v.x x.kick.x).hi, .int .i64 (Fl.addS ((Fl.stT v d l) J).v.y x.kick.y).lo, .int .i64 (Fl.addS ((Fl.stT v d l) J).v.y x.kick.y).hi, .int .i64 (Fl.addS ((Fl.stT v d l) J).v.z x.kick.z).lo, .int .i64 (Fl.addS ((Fl.stT v d l) J).v.z x.kick.z).hi]) (by decide) (by decide) rfl (by rw [heJ]; rfl) rfl, fun j hj => absurd hj (Nat.not_lt_zero _)⟩) ?_
 rintro ⟨k, sv, G⟩ hi
 obtain ⟨hk1, hgr, hall⟩ := hi
 dsimp only at hk1 hgr hall ⊢
 obtain ⟨sa, sc, rfl⟩ := Grow.form hgr
 obtain ⟨gb, cur, rfl, rfl, hcur, _, _⟩ := Grow.form2 hgr (by omega)
 refine V_seq ?_
 refine Vs rfl ?_
 iterate 2 refine Lm rfl rfl rfl ?_
 refine Lp rfl (p_lss rfl rfl rfl) ?_
 refine Lm rfl rfl rfl ?_
 refine L_cases (d := 69) rfl ?_ ?_
 ·intro g1; have g1' := g1; try simp only [td] at g1'
  refine L_yes rfl rfl rfl g1 (X_p (p_move rfl rfl) ?_)
  refine L_yes rfl rfl rfl g1 (X_p (p_move rfl rfl) ?_)
  refine L_yes rfl rfl rfl g1 (X_p (p_idxo es50 rfl rfl rfl (by omega) (by omega)) ?_)
  refine L_yes rfl rfl rfl g1 (X_rd (r_loadA (vs := St.cells ((Fl.pcT v d l x) k)) ag33 sz33 rfl rfl (by repeat first | exact mH | apply mT) (row_st (f := (Fl.pcT v d l x)) hcur rfl (by omega))) ?_)
  refine L_yes rfl rfl rfl g1 (X_wr (w_callP rfl rfl rfl (fun w hg => rfar_c ((Fl.pcT v d l x) k) w)) ?_)
  rintro _ _ ⟨rfl, rfl⟩
  refine L_yes rfl rfl rfl g1 (X_p (p_not rfl rfl) ?_)
  refine Lp rfl (p_pick_t rfl rfl g1 rfl) ?_
  refine L_then (kp [2, 4, 5, 6, 14, 15, 16, 76] rfl) ?_
  refine V_cond rfl ?_ ?_
  ·intro c2; try simp only [td] at c2
   have hfk : farS ((Fl.pcT v d l x) k) = false := by simpa using c2
   refine V_skip (then_n ?_)
   refine V_seq ?_
   refine V_block ?_
   refine V_draw (.rd 0 (.rd 1 (.rd 2 (.rd 3 (.rd 4 (.rd 5 (.rd 6 (.rd 7 (.rd 8 (.rd 9 (.rd 10 (.rd 11 (.rd 12 (.wr 13 [11, 10, 9, 4, 3, 2, 1, 0] (.wr 14 [12, 11, 10, 9, 8, 7, 6, 5, 3, 2, 1, 0] (.wr 15 [12, 11, 10, 9, 8, 7, 6, 5, 4, 3, 2, 1, 0] (.wr 16 [12, 11, 10, 9, 8, 7, 6, 5, 4, 3, 2, 1] (.wr 17 [] .done)))))))))))))))))) mixed (by kernel_rfl) rfl ?_
   iterate 3 refine Dm rfl rfl rfl rfl ?_
   refine Dp rfl rfl (p_idxo es50 rfl rfl rfl (by omega) (by omega)) ?_
   refine Dr rfl rfl (r_loadA (vs := St.cells ((Fl.pcT v d l x) k)) ag33 sz33 rfl rfl (by repeat first | exact mH | apply mT) (row_st (f := (Fl.pcT v d l x)) hcur rfl (by omega))) ?_
   refine Dr rfl rfl (rlA (vs := [_, _, _, _, _, _]) ag28 sz28 rfl rfl rfl) ?_
   refine Dr rfl rfl (rlA (vs := [_, _, _]) ag30 sz30 rfl rfl rfl) ?_
   refine Dm rfl rfl rfl rfl ?_
   refine Dr rfl rfl (rlA (vs := [_, _, _, _, _, _, _, _, _, _, _, _, _]) ag76 sz76 rfl rfl rfl) ?_
   iterate 2 refine Dm rfl rfl rfl rfl ?_
   refine Dp rfl rfl (p_idxo es50 rfl rfl rfl (by omega) (by omega)) ?_
   refine Dr rfl rfl (r_loadA (vs := St.cells ((Fl.pcT v d l x) k)) ag33 sz33 rfl rfl (by repeat first | exact mH | apply mT) (row_st (f := (Fl.pcT v d l x)) hcur rfl (by omega))) ?_
   refine D_wr (.go (E' := [(4, _)]) rfl (.plain rfl) (w_callP rfl rfl rfl (fun w hg => rforce_c d l _ (pcPh x) ((Fl.pcT v d l x) k) v _ w (hv.good hg) hGV hd hB (PcB.ph hpx) hfk (hL.good hg))) rfl ?_)
   rintro _ _ ⟨rfl, rfl⟩
   refine ⟨(.cons rfl (.plain rfl) (r_loadA (vs := St.cells ((Fl.pcT v d l x) k)) ag33 sz33 rfl rfl (by repeat first | exact mH | apply mT) (row_st (f := (Fl.pcT v d l x)) hcur rfl (by omega))) .nil), ?_⟩
   refine D_wr (.go (E' := []) rfl (.plain rfl) (w_callP rfl rfl rfl (fun w hg => rnext_c ((Fl.pcT v d l x) k) (forceT v d l (pcPh x) ((Fl.pcT v d l x) k)) hfk (force_bnd hGV hd hB (PcB.ph hpx) (far_false.1 hfk).2) w)) rfl ?_)
   rintro _ _ ⟨rfl, rfl⟩
   refine ⟨.nil, ?_⟩
   refine D_wr (.go (E' := []) rfl (.plain rfl) (w_slice (r := [_, _, _, _, _, _, _, _, _, _, _, _]) un50 sz33 zr33 rfl (by decide) rfl (by decide) rfl rfl) rfl ?_)
   rintro _ _ ⟨b8, hb8, rfl, rfl⟩
   refine ⟨.nil, ?_⟩
   refine D_wr (.go (E' := []) rfl (.plain rfl) (w_app (pre := [_, _, _, _]) (G := [_]) ap50 rfl rfl rfl hgr rfl rfl (news_own (by repeat first | exact mH | apply mT)) (by intro u hu; simp only [St.cells, nextS, List.mem_cons, List.not_mem_nil, or_false] at hu; rcases hu with rfl | rfl | rfl | rfl | rfl | rfl | rfl | rfl | rfl | rfl | rfl | rfl <;> rfl) (by omega) (by simp only [maxLen]; omega)) rfl ?_)
   rintro _ _ ⟨G1a, G1c, G1, rfl, rfl, hgr1⟩
   try simp only [List.cons_append, List.nil_append, List.append_nil]
   refine ⟨.nil, ?_⟩
   refine D_wr (.go (E' := []) rfl (.plain rfl) (rd_wr (RdP.rd (p_assign rfl rfl))) rfl ?_)
   rintro _ _ ⟨rfl, rfl⟩
   refine ⟨.nil, ?_⟩
   refine D_keep (kp [2, 4, 5, 6, 14, 15, 16] rfl) (blk_n (then_n ?_))
   refine V_region rfl ?_
   refine Lm rfl rfl rfl ?_
   first | refine Lp rfl (p_add' rfl rfl rfl (by unfold InI; omega)) ?_ | refine Lp rfl (p_add rfl rfl rfl) ?_
   refine La rfl rfl rfl ?_
   refine L_keep (kp [2, 4, 5, 6, 14, 15, 16] rfl) (then_n ?_)
   refine ⟨(k + 1, _, G1), ?_, ?_, (.cons rfl (.cons rfl (.cons rfl (.cons rfl (.cons rfl (.cons rfl (.cons rfl (.nil _)))))))), (by repeat (first | exact List.nil_sublist _ | exact List.Sublist.refl _ | apply List.Sublist.cons_cons | apply List.Sublist.cons | apply List.sublist_append_of_sublist_right)), rfl⟩
   ·refine ⟨by dsimp only; omega, ?_, fun j hj => ?_⟩
    ·have e : stL (rowS (Fl.pcT v d l x) (k + 1)) = stL (rowS (Fl.pcT v d l x) k) ++ ((Fl.pcT v d l x) (k + 1)).cells := runL_s (Fl.pcT v d l x) (k + 1)
     dsimp only
     rw [e]; exact hgr1
    by_cases e : j < k
    ·exact hall j e
    have ej : j = k := by dsimp only at hj; omega
    rw [ej]; exact hfk
   dsimp only; omega
  intro c2; try simp only [td] at c2
  have hfk : farS ((Fl.pcT v d l x) k) = true := by simpa using c2
  refine V_exit (then_e (then_e (blk_e rfl (then_n ?_))))
  refine Vs rfl ?_
  refine Lm rfl rfl rfl ?_
  refine La rfl rfl rfl ?_
  refine L_then (kp [10] rfl) ?_
  refine V_ret ?_
  refine Leave.nil (.tmp rfl .nil) ?_
  exact ⟨_, (by (try dsimp only); repeat (first | exact HSub.nil _ | refine HSub.take (by repeat first | exact Take.head | apply Take.tail) ?_ | exact HSub.refl _ | refine HSub.drop ?_ | refine HSub.app ?_)), [], _, rfl, _, k, .inr ⟨rfl, hallJ, by omega, hall, .inr hfk⟩, rfl, _, rfl, hgr⟩
 intro g1; have g1' := g1; try simp only [td] at g1'
 iterate 6 refine L_no rfl rfl rfl g1 ?_
 refine Lp rfl (p_pick_f rfl rfl g1 rfl) ?_
 refine L_then (kp [2, 4, 5, 6, 14, 15, 16, 76] rfl) ?_
 refine V_cond_f rfl rfl ?_
 refine V_exit (then_e (then_e (blk_e rfl (then_n ?_))))
 refine Vs rfl ?_
 refine Lm rfl rfl rfl ?_
 refine La rfl rfl rfl ?_
 refine L_then (kp [10] rfl) ?_
 refine V_ret ?_
 refine Leave.nil (.tmp rfl .nil) ?_
 exact ⟨_, (by (try dsimp only); repeat (first | exact HSub.nil _ | refine HSub.take (by repeat first | exact Take.head | apply Take.tail) ?_ | exact HSub.refl _ | refine HSub.drop ?_ | refine HSub.app ?_)), [], _, rfl, _, k, .inr ⟨rfl, hallJ, by omega, hall, .inl (by omega)⟩, rfl, _, rfl, hgr⟩
end Go.Proofs.YtbncegfgjbdheaaGreat

/- YtbncegfgjbdheaaGreat: the reference: Impacts. -/
set_option linter.all false
namespace Go.Proofs.YtbncegfgjbdheaaGreat
open Go.Vc Go.Tk Go.Fl
set_option maxRecDepth 100000
theorem impsL_le (v : Veh) (d : Dir) (l : List Fl.Band) : (impsL v d l).length ≤ 100 := by
 by_cases h : impsE v d l = 0
 ·have h6 := (Fl.asked_good (imps_ok h).1).1.pc6
  rw [impsL_len h]; omega
 rw [impsL_bad h]; exact Nat.zero_le _
set_option maxHeartbeats 8000000 in
theorem rimpact_c (f : Nat → St) (m : Nat) (va : Value) (frm floor pc : Int) (I : Fl.Imp × Int) (hI : impN f frm floor m 0 ⟨pc, Fl.spZ, Fl.spZ, Fl.spZ⟩ = I) (w : World) (ha : SliceR w 12 va ((rowS f m).map St.cells)) (hm : m ≤ 3000) (hf0 : 0 ≤ frm ∧ frm ≤ 3000) : FnP Tryz.prog 42 [va, .int .i64 frm, .int .i64 floor, .int .i64 pc] w (.tuple #[.agg #[.int .i64 I.1.piece, .int .i64 I.1.x.lo, .int .i64 I.1.x.hi, .int .i64 I.1.y.lo, .int .i64 I.1.y.hi, .int .i64 I.1.at_.lo, .int .i64 I.1.at_.hi], .int .i64 I.2]) := by
 obtain ⟨aa, ca, rfl, hca, hae⟩ := ha.ex
 simp only [List.length_map, rowS_len] at hca ⊢
 refine fn_pure Tryz.func42 rfl (by kernel_rfl) Tryz.ntmps42 Tryz.results42 rfl ?_
 refine Vs rfl ?_
 refine Lw rfl (w_alloc zr86 rfl) ?_
 rintro _ _ ⟨b1, hb1, rfl, rfl⟩
 refine La rfl rfl rfl ?_
 refine L_then (kp [0, 1, 2, 3, 8] rfl) ?_
 refine Vs rfl ?_
 refine Lm rfl rfl rfl ?_
 refine Lp rfl (p_build (r := [_, _, _, _, _, _, _]) pl86 zr86 rfl rfl rfl) ?_
 refine Lw rfl (w_alloc zr86 rfl) ?_
 rintro _ _ ⟨b2, hb2, rfl, rfl⟩
 refine Ls (cs' := [_, _, _, _, _, _, _]) rfl sz86 rfl rfl rfl rfl rfl rfl rfl ?_
 refine L_then (kp [0, 1, 2, 8, 10] rfl) ?_
 refine Vs rfl ?_
 refine La rfl rfl rfl ?_
 refine L_then (kp [0, 1, 2, 8, 10, 11] rfl) ?_
 refine V_seq ?_
 refine Vs rfl ?_
 refine La rfl rfl rfl ?_
 refine L_then (kp [0, 1, 2, 8, 10, 11, 12] rfl) ?_
 refine V_block ?_
 refine V_loop1 (γ := Int × Bool × Span × Span × Int) (kp [0, 1, 2, 8, 10] rfl) (fun (k, sm, X, Y, a) => [(12, .int .i64 k), (11, .bool sm)]) (fun (k, sm, X, Y, a) => [(b2, .cells #[.int .i64 pc, .int .i64 X.lo, .int .i64 X.hi, .int .i64 Y.lo, .int .i64 Y.hi, .int .i64 a, .int .i64 0] 86), (b1, .cells #[.int .i64 0, .int .i64 0, .int .i64 0, .int .i64 0, .int .i64 0, .int .i64 0, .int .i64 0] 86)]) (fun (k, sm, X, Y, a) => 0 ≤ k ∧ k ≤ m + 1 ∧ AtI f frm floor pc m k.toNat (⟨pc, X, Y, ⟨a, 0⟩⟩, sm)) (fun (k, sm, X, Y, a) => (m + 1 - k).toNat) ((0, false, Fl.spZ, Fl.spZ, 0)) (.cons rfl (.cons rfl (.nil _))) (by repeat (first | exact List.nil_sublist _ | exact List.Sublist.refl _ | apply List.Sublist.cons_cons | apply List.Sublist.cons)) (⟨by omega, by omega, AtI.zero⟩) ?_
 rintro ⟨k, sm, X, Y, a⟩ hi
 obtain ⟨hk0, hk1, hA⟩ := hi
 dsimp only at hk0 hk1 hA ⊢
 refine V_seq ?_
 refine Vs rfl ?_
 iterate 2 refine Lm rfl rfl rfl ?_
 refine Lp rfl (p_len isl50 rfl rfl) ?_
 refine Lp rfl (p_lss rfl rfl rfl) ?_
 refine L_then (kp [0, 1, 2, 8, 10, 11, 12, 19] rfl) ?_
 refine V_cond rfl ?_ ?_
 ·intro c1; try simp only [td] at c1
  obtain ⟨xa, rfl, hxa⟩ := hae k.toNat _ (rowS_at (f := f) (n := m) (by omega))
  refine V_skip (then_n ?_)
  refine V_seq ?_
  refine V_block ?_
  refine V_seq ?_
  refine Vs rfl ?_
  iterate 2 refine Lm rfl rfl rfl ?_
  refine Lp rfl (p_idx es50 rfl rfl rfl (by omega) (by omega)) ?_
  refine Lr rfl (r_loadBA ag33 sz33 rfl rfl hxa rfl List.not_mem_nil) ?_
  refine Lc rfl rfl rfl rfl (fun w hg => rfar_c (f k.toNat) w) ?_
  refine L_then (kp [0, 1, 2, 8, 10, 11, 12, 26] rfl) ?_
  refine V_cond rfl ?_ ?_
  ·intro c2; try simp only [td] at c2
   have hfk : farS (f k.toNat) = true := c2
   refine Vs rfl ?_
   refine Lp rfl (p_build (r := [_, _, _, _, _, _, _]) pl86 zr86 rfl rfl rfl) ?_
   refine Ls (cs' := [_, _, _, _, _, _, _]) rfl sz86 rfl rfl rfl rfl rfl rfl rfl ?_
   refine La rfl rfl rfl ?_
   refine L_then (kp [8, 9] rfl) ?_
   refine V_ret (then_r (blk_r (then_r (then_r (blk_r (then_r ?_))))))
   refine Leave.nil (.cellA (us := [_, _, _, _, _, _, _]) rfl ag86 sz86 (by repeat first | exact mH | apply mT) rfl (.tmp rfl .nil)) ?_
   first | (rw [← hI, hA.far (by omega) (by assumption)]; rfl) | (rw [← hI, hA.end]; rfl) | (have hc : ¬(k.toNat = 0 ∨ (floor < (f k.toNat).p.z.lo ∧ sm = false)) := fun h => h.elim (fun h => by omega) (fun h => by have h1 := h.1; have h2 := h.2; first | omega | (rw [hsm] at h2; cases h2; done) | (exfalso; simp_all; done)); have e9 : impN f frm floor m 0 ⟨pc, Fl.spZ, Fl.spZ, Fl.spZ⟩ = (⟨pc, Fl.hullS X (f k.toNat).p.x, Fl.hullS Y (f k.toNat).p.y, ⟨a, frm + k⟩⟩, 0) := (by rw [hA.hit hf0.1 (by omega) hfk hc (by omega)]; unfold refN; dsimp only; rw [if_neg hc]; simp only [hsm, if_true, Int.toNat_of_nonneg hk0]); rw [← hI, e9]; rfl) | (have hc : ¬(k.toNat = 0 ∨ (floor < (f k.toNat).p.z.lo ∧ sm = false)) := fun h => h.elim (fun h => by omega) (fun h => by have h1 := h.1; have h2 := h.2; first | omega | (rw [hsm] at h2; cases h2; done) | (exfalso; simp_all; done)); have e9 : impN f frm floor m 0 ⟨pc, Fl.spZ, Fl.spZ, Fl.spZ⟩ = (⟨pc, (f k.toNat).p.x, (f k.toNat).p.y, ⟨frm + k, frm + k⟩⟩, 0) := (by rw [hA.hit hf0.1 (by omega) hfk hc (by omega)]; unfold refN; dsimp only; rw [if_neg hc]; simp only [hsm, Bool.false_eq_true, if_false, Int.toNat_of_nonneg hk0]); rw [← hI, e9]; rfl)
  intro c2; try simp only [td] at c2
  have hfk : farS (f k.toNat) = false := c2
  refine V_skip (then_n ?_)
  refine V_seq ?_
  refine Vs rfl ?_
  refine Lm rfl rfl rfl ?_
  refine Lp rfl (p_eql rfl rfl rfl) ?_
  refine Lm rfl rfl rfl ?_
  refine L_cases (d := 30) rfl ?_ ?_
  ·intro g1; have g1' := g1; try simp only [td] at g1'
   iterate 9 refine L_no rfl rfl rfl g1 ?_
   iterate 2 refine L_nou rfl rfl rfl ?_
   refine L_no rfl rfl rfl g1 ?_
   refine Lp rfl (p_pick_t rfl rfl g1 rfl) ?_
   refine L_then (kp [0, 1, 2, 8, 10, 11, 12, 43] rfl) ?_
   refine V_cond_t rfl rfl ?_
   refine V_exit (then_e (blk_e rfl (then_n ?_)))
   refine V_region rfl ?_
   refine Lm rfl rfl rfl ?_
   first | refine Lp rfl (p_add' rfl rfl rfl (by unfold InI; omega)) ?_ | refine Lp rfl (p_add rfl rfl rfl) ?_
   refine La rfl rfl rfl ?_
   refine L_keep (kp [0, 1, 2, 8, 10, 11, 12] rfl) (then_n ?_)
   refine ⟨(k + 1, sm, X, Y, a), ?_, ?_, (.cons rfl (.cons rfl (.cons rfl (.cons rfl (.cons rfl (.cons rfl (.cons rfl (.nil _)))))))), (by repeat (first | exact List.nil_sublist _ | exact List.Sublist.refl _ | apply List.Sublist.cons_cons | apply List.Sublist.cons | apply List.sublist_append_of_sublist_right)), rfl⟩
   ·exact ⟨by omega, by omega, by rw [show (k + 1).toNat = k.toNat + 1 by omega]; exact hA.skip (by omega) hfk (by first | exact .inl (by omega) | exact .inr ⟨by omega, by first | assumption | simp_all⟩)⟩
   dsimp only; omega
  intro g1; have g1' := g1; try simp only [td] at g1'
  refine L_yes rfl rfl rfl g1 (X_p (p_move rfl rfl) ?_)
  refine L_yes rfl rfl rfl g1 (X_p (p_move rfl rfl) ?_)
  refine L_yes rfl rfl rfl g1 (X_p (p_idx es50 rfl rfl rfl (by omega) (by omega)) ?_)
  refine L_yes rfl rfl rfl g1 (X_p (p_field fo33_2 rfl rfl) ?_)
  refine L_yes rfl rfl rfl g1 (X_p (p_field fo23_0 rfl rfl) ?_)
  refine L_yes rfl rfl rfl g1 (X_rd (r_loadB ag3 rfl rfl (hxa 4 _ rfl) List.not_mem_nil) ?_)
  refine L_yes rfl rfl rfl g1 (X_p (p_move rfl rfl) ?_)
  refine L_yes rfl rfl rfl g1 (X_p (p_gtr rfl rfl rfl) ?_)
  refine L_yes rfl rfl rfl g1 (X_p (p_move rfl rfl) ?_)
  refine L_cases (d := 39) rfl ?_ ?_
  ·intro g2; have g2' := g2; try simp only [td] at g2'
   refine L_yes rfl rfl rfl g2 (X_p (p_move rfl rfl) ?_)
   refine L_yes rfl rfl rfl g2 (X_p (p_not rfl rfl) ?_)
   refine L_yes rfl rfl rfl g1 (X_p (p_pick_t rfl rfl g2 rfl) ?_)
   refine Lp rfl (p_pick_f rfl rfl g1 rfl) ?_
   refine L_then (kp [0, 1, 2, 8, 10, 11, 12, 43] rfl) ?_
   refine V_cond rfl ?_ ?_
   ·intro c3; try simp only [td] at c3
    refine V_exit (then_e (blk_e rfl (then_n ?_)))
    refine V_region rfl ?_
    refine Lm rfl rfl rfl ?_
    first | refine Lp rfl (p_add' rfl rfl rfl (by unfold InI; omega)) ?_ | refine Lp rfl (p_add rfl rfl rfl) ?_
    refine La rfl rfl rfl ?_
    refine L_keep (kp [0, 1, 2, 8, 10, 11, 12] rfl) (then_n ?_)
    refine ⟨(k + 1, sm, X, Y, a), ?_, ?_, (.cons rfl (.cons rfl (.cons rfl (.cons rfl (.cons rfl (.cons rfl (.cons rfl (.nil _)))))))), (by repeat (first | exact List.nil_sublist _ | exact List.Sublist.refl _ | apply List.Sublist.cons_cons | apply List.Sublist.cons | apply List.sublist_append_of_sublist_right)), rfl⟩
    ·exact ⟨by omega, by omega, by rw [show (k + 1).toNat = k.toNat + 1 by omega]; exact hA.skip (by omega) hfk (by first | exact .inl (by omega) | exact .inr ⟨by omega, by first | assumption | simp_all⟩)⟩
    dsimp only; omega
   intro c3; try simp only [td] at c3
   refine V_skip (then_n ?_)
   refine V_seq (V_draw (.rd 0 (.rd 1 (.rd 2 (.rd 3 (.rd 4 (.rd 5 (.rd 6 (.rd 7 (.rd 8 (.rd 9 (.rd 10 (.wr 11 [10, 9, 8, 7, 6, 5, 4, 3, 2, 1, 0] (.wr 12 [] .done))))))))))))) mixed (by kernel_rfl) rfl ?_)
   iterate 2 refine Dm rfl rfl rfl rfl ?_
   refine Dp rfl rfl (p_idx es50 rfl rfl rfl (by omega) (by omega)) ?_
   refine Dp rfl rfl (p_field fo33_0 rfl rfl) ?_
   refine Dr rfl rfl (r_loadBA ag23 sz23 rfl rfl (hxa.sub 0 2) rfl List.not_mem_nil) ?_
   iterate 2 refine Dm rfl rfl rfl rfl ?_
   refine Dp rfl rfl (p_idx es50 rfl rfl rfl (by omega) (by omega)) ?_
   refine Dp rfl rfl (p_field fo33_1 rfl rfl) ?_
   refine Dr rfl rfl (r_loadBA ag23 sz23 rfl rfl (hxa.sub 2 2) rfl List.not_mem_nil) ?_
   refine Dp rfl rfl (p_build (r := [_, _, _, _]) pl84 zr84 rfl rfl rfl) ?_
   refine D_wr (.go (E' := [(9, _), (4, _)]) rfl (.plain rfl) (w_alloc zr84 rfl) rfl ?_)
   rintro _ _ ⟨b3, hb3, rfl, rfl⟩
   refine ⟨(.cons rfl (.plain rfl) (r_loadBA ag23 sz23 rfl rfl (hxa.sub 2 2) rfl List.not_mem_nil) (.cons rfl (.plain rfl) (r_loadBA ag23 sz23 rfl rfl (hxa.sub 0 2) rfl List.not_mem_nil) .nil)), ?_⟩
   refine D_wr (.go (E' := []) rfl (.plain rfl) (ws (cs' := [_, _, _, _]) sz84 rfl rfl rfl rfl rfl rfl rfl) rfl ?_)
   rintro _ _ ⟨rfl, rfl⟩
   refine ⟨.nil, ?_⟩
   refine D_then (kp [0, 1, 2, 8, 10, 11, 12, 13] rfl) ?_
   refine V_seq ?_
   refine Vs rfl ?_
   refine Lm rfl rfl rfl ?_
   refine L_then (kp [0, 1, 2, 8, 10, 12, 13, 55] rfl) ?_
   refine V_cond rfl ?_ ?_
   ·intro c4; try simp only [td] at c4
    have hsm : sm = true := c4
    refine V_region rfl ?_
    refine Lp rfl (p_fieldo fo86_1 rfl rfl) ?_
    iterate 2 refine Lr rfl (rlA (vs := [_, _, _, _]) ag84 sz84 rfl rfl rfl) ?_
    refine Lc rfl rfl rfl rfl (fun w hg => rboth_c X Y (f k.toNat).p.x (f k.toNat).p.y w) ?_
    refine Ls (cs' := [_, _, _, _]) rfl sz84 rfl rfl rfl rfl rfl rfl rfl ?_
    refine L_then (kp [0, 1, 2, 8, 10, 12, 13] rfl) ?_
    refine Vs rfl ?_
    refine Lr rfl (rlA (vs := [_, _, _, _]) ag84 sz84 rfl rfl rfl) ?_
    refine Lp rfl (p_fieldo fo86_1 rfl rfl) ?_
    refine Ls (cs' := [_, _, _, _, _, _, _]) rfl sz84 rfl rfl rfl rfl rfl rfl rfl ?_
    refine La rfl rfl rfl ?_
    refine L_then (kp [0, 1, 2, 8, 10, 11, 12] rfl) ?_
    refine Vs rfl ?_
    iterate 2 refine Lm rfl rfl rfl ?_
    refine Lp rfl (p_idx es50 rfl rfl rfl (by omega) (by omega)) ?_
    refine Lp rfl (p_field fo33_2 rfl rfl) ?_
    refine Lp rfl (p_field fo23_1 rfl rfl) ?_
    refine Lr rfl (r_loadB ag3 rfl rfl (hxa 5 _ rfl) List.not_mem_nil) ?_
    refine Lm rfl rfl rfl ?_
    refine Lp rfl (p_leq rfl rfl rfl) ?_
    refine L_then (kp [0, 1, 2, 8, 10, 11, 12, 74] rfl) ?_
    refine V_cond rfl ?_ ?_
    ·intro c5; try simp only [td] at c5
     refine Vs rfl ?_
     iterate 2 refine Lm rfl rfl rfl ?_
     first | refine Lp rfl (p_add' rfl rfl rfl (by unfold InI; omega)) ?_ | refine Lp rfl (p_add rfl rfl rfl) ?_
     refine Lp rfl (p_fieldo fo86_2 rfl rfl) ?_
     refine Lp rfl (p_fieldo fo23_1 rfl rfl) ?_
     refine Ls (cs' := [_, _, _, _, _, _, _]) rfl sz3 rfl rfl rfl rfl rfl rfl rfl ?_
     refine L_then (kp [8, 10] rfl) ?_
     refine Vs rfl ?_
     refine Lr rfl (rlA (vs := [_, _, _, _, _, _, _]) ag86 sz86 rfl rfl rfl) ?_
     refine Ls (cs' := [_, _, _, _, _, _, _]) rfl sz86 rfl rfl rfl rfl rfl rfl rfl ?_
     refine La rfl rfl rfl ?_
     refine L_then (kp [8, 9] rfl) ?_
     refine V_ret (blk_r (then_r (then_r (blk_r (then_r ?_)))))
     refine Leave.nil (.cellA (us := [_, _, _, _, _, _, _]) rfl ag86 sz86 (by repeat first | exact mH | apply mT) rfl (.tmp rfl .nil)) ?_
     first | (rw [← hI, hA.far (by omega) (by assumption)]; rfl) | (rw [← hI, hA.end]; rfl) | (have hc : ¬(k.toNat = 0 ∨ (floor < (f k.toNat).p.z.lo ∧ sm = false)) := fun h => h.elim (fun h => by omega) (fun h => by have h1 := h.1; have h2 := h.2; first | omega | (rw [hsm] at h2; cases h2; done) | (exfalso; simp_all; done)); have e9 : impN f frm floor m 0 ⟨pc, Fl.spZ, Fl.spZ, Fl.spZ⟩ = (⟨pc, Fl.hullS X (f k.toNat).p.x, Fl.hullS Y (f k.toNat).p.y, ⟨a, frm + k⟩⟩, 0) := (by rw [hA.hit hf0.1 (by omega) hfk hc (by omega)]; unfold refN; dsimp only; rw [if_neg hc]; simp only [hsm, if_true, Int.toNat_of_nonneg hk0]); rw [← hI, e9]; rfl) | (have hc : ¬(k.toNat = 0 ∨ (floor < (f k.toNat).p.z.lo ∧ sm = false)) := fun h => h.elim (fun h => by omega) (fun h => by have h1 := h.1; have h2 := h.2; first | omega | (rw [hsm] at h2; cases h2; done) | (exfalso; simp_all; done)); have e9 : impN f frm floor m 0 ⟨pc, Fl.spZ, Fl.spZ, Fl.spZ⟩ = (⟨pc, (f k.toNat).p.x, (f k.toNat).p.y, ⟨frm + k, frm + k⟩⟩, 0) := (by rw [hA.hit hf0.1 (by omega) hfk hc (by omega)]; unfold refN; dsimp only; rw [if_neg hc]; simp only [hsm, Bool.false_eq_true, if_false, Int.toNat_of_nonneg hk0]); rw [← hI, e9]; rfl)
    intro c5; try simp only [td] at c5
    refine V_skip (blk_n (then_n ?_))
    refine V_region rfl ?_
    refine Lm rfl rfl rfl ?_
    first | refine Lp rfl (p_add' rfl rfl rfl (by unfold InI; omega)) ?_ | refine Lp rfl (p_add rfl rfl rfl) ?_
    refine La rfl rfl rfl ?_
    refine L_keep (kp [0, 1, 2, 8, 10, 11, 12] rfl) (then_n ?_)
    refine ⟨(k + 1, true, Fl.hullS X (f k.toNat).p.x, Fl.hullS Y (f k.toNat).p.y, a), ?_, ?_, (.cons rfl (.cons rfl (.cons rfl (.cons rfl (.cons rfl (.cons rfl (.cons rfl (.nil _)))))))), (by repeat (first | exact List.nil_sublist _ | exact List.Sublist.refl _ | apply List.Sublist.cons_cons | apply List.Sublist.cons | apply List.sublist_append_of_sublist_right)), rfl⟩
    ·refine ⟨by omega, by omega, ?_⟩
     have hc : ¬(k.toNat = 0 ∨ (floor < (f k.toNat).p.z.lo ∧ sm = false)) := fun h => h.elim (fun h => by omega) (fun h => by have h1 := h.1; have h2 := h.2; first | omega | (rw [hsm] at h2; cases h2; done) | (exfalso; simp_all; done))
     rw [show (k + 1).toNat = k.toNat + 1 by omega]
     have h9 := hA.more hf0.1 (by omega) hfk hc (by omega)
     unfold refN at h9
     dsimp only at h9
     rw [if_neg hc] at h9
     simp only [hsm, if_true, Int.toNat_of_nonneg hk0] at h9
     exact h9
    dsimp only; omega
   intro c4; try simp only [td] at c4
   have hsm : sm = false := c4
   refine V_region rfl ?_
   iterate 2 refine Lm rfl rfl rfl ?_
   first | refine Lp rfl (p_add' rfl rfl rfl (by unfold InI; omega)) ?_ | refine Lp rfl (p_add rfl rfl rfl) ?_
   refine Lp rfl (p_fieldo fo86_2 rfl rfl) ?_
   refine Lp rfl (p_fieldo fo23_0 rfl rfl) ?_
   refine Ls (cs' := [_, _, _, _, _, _, _]) rfl sz3 rfl rfl rfl rfl rfl rfl rfl ?_
   refine L_then (kp [0, 1, 2, 8, 10, 12, 13] rfl) ?_
   refine Vs rfl ?_
   refine Lr rfl (rlA (vs := [_, _, _, _]) ag84 sz84 rfl rfl rfl) ?_
   refine Lp rfl (p_fieldo fo86_1 rfl rfl) ?_
   refine Ls (cs' := [_, _, _, _, _, _, _]) rfl sz84 rfl rfl rfl rfl rfl rfl rfl ?_
   refine La rfl rfl rfl ?_
   refine L_then (kp [0, 1, 2, 8, 10, 11, 12] rfl) ?_
   refine Vs rfl ?_
   iterate 2 refine Lm rfl rfl rfl ?_
   refine Lp rfl (p_idx es50 rfl rfl rfl (by omega) (by omega)) ?_
   refine Lp rfl (p_field fo33_2 rfl rfl) ?_
   refine Lp rfl (p_field fo23_1 rfl rfl) ?_
   refine Lr rfl (r_loadB ag3 rfl rfl (hxa 5 _ rfl) List.not_mem_nil) ?_
   refine Lm rfl rfl rfl ?_
   refine Lp rfl (p_leq rfl rfl rfl) ?_
   refine L_then (kp [0, 1, 2, 8, 10, 11, 12, 74] rfl) ?_
   refine V_cond rfl ?_ ?_
   ·intro c6; try simp only [td] at c6
    refine Vs rfl ?_
    iterate 2 refine Lm rfl rfl rfl ?_
    first | refine Lp rfl (p_add' rfl rfl rfl (by unfold InI; omega)) ?_ | refine Lp rfl (p_add rfl rfl rfl) ?_
    refine Lp rfl (p_fieldo fo86_2 rfl rfl) ?_
    refine Lp rfl (p_fieldo fo23_1 rfl rfl) ?_
    refine Ls (cs' := [_, _, _, _, _, _, _]) rfl sz3 rfl rfl rfl rfl rfl rfl rfl ?_
    refine L_then (kp [8, 10] rfl) ?_
    refine Vs rfl ?_
    refine Lr rfl (rlA (vs := [_, _, _, _, _, _, _]) ag86 sz86 rfl rfl rfl) ?_
    refine Ls (cs' := [_, _, _, _, _, _, _]) rfl sz86 rfl rfl rfl rfl rfl rfl rfl ?_
    refine La rfl rfl rfl ?_
    refine L_then (kp [8, 9] rfl) ?_
    refine V_ret (blk_r (then_r (then_r (blk_r (then_r ?_)))))
    refine Leave.nil (.cellA (us := [_, _, _, _, _, _, _]) rfl ag86 sz86 (by repeat first | exact mH | apply mT) rfl (.tmp rfl .nil)) ?_
    first | (rw [← hI, hA.far (by omega) (by assumption)]; rfl) | (rw [← hI, hA.end]; rfl) | (have hc : ¬(k.toNat = 0 ∨ (floor < (f k.toNat).p.z.lo ∧ sm = false)) := fun h => h.elim (fun h => by omega) (fun h => by have h1 := h.1; have h2 := h.2; first | omega | (rw [hsm] at h2; cases h2; done) | (exfalso; simp_all; done)); have e9 : impN f frm floor m 0 ⟨pc, Fl.spZ, Fl.spZ, Fl.spZ⟩ = (⟨pc, Fl.hullS X (f k.toNat).p.x, Fl.hullS Y (f k.toNat).p.y, ⟨a, frm + k⟩⟩, 0) := (by rw [hA.hit hf0.1 (by omega) hfk hc (by omega)]; unfold refN; dsimp only; rw [if_neg hc]; simp only [hsm, if_true, Int.toNat_of_nonneg hk0]); rw [← hI, e9]; rfl) | (have hc : ¬(k.toNat = 0 ∨ (floor < (f k.toNat).p.z.lo ∧ sm = false)) := fun h => h.elim (fun h => by omega) (fun h => by have h1 := h.1; have h2 := h.2; first | omega | (rw [hsm] at h2; cases h2; done) | (exfalso; simp_all; done)); have e9 : impN f frm floor m 0 ⟨pc, Fl.spZ, Fl.spZ, Fl.spZ⟩ = (⟨pc, (f k.toNat).p.x, (f k.toNat).p.y, ⟨frm + k, frm + k⟩⟩, 0) := (by rw [hA.hit hf0.1 (by omega) hfk hc (by omega)]; unfold refN; dsimp only; rw [if_neg hc]; simp only [hsm, Bool.false_eq_true, if_false, Int.toNat_of_nonneg hk0]); rw [← hI, e9]; rfl)
   intro c6; try simp only [td] at c6
   refine V_skip (blk_n (then_n ?_))
   refine V_region rfl ?_
   refine Lm rfl rfl rfl ?_
   first | refine Lp rfl (p_add' rfl rfl rfl (by unfold InI; omega)) ?_ | refine Lp rfl (p_add rfl rfl rfl) ?_
   refine La rfl rfl rfl ?_
   refine L_keep (kp [0, 1, 2, 8, 10, 11, 12] rfl) (then_n ?_)
   refine ⟨(k + 1, true, (f k.toNat).p.x, (f k.toNat).p.y, frm + k), ?_, ?_, (.cons rfl (.cons rfl (.cons rfl (.cons rfl (.cons rfl (.cons rfl (.cons rfl (.nil _)))))))), (by repeat (first | exact List.nil_sublist _ | exact List.Sublist.refl _ | apply List.Sublist.cons_cons | apply List.Sublist.cons | apply List.sublist_append_of_sublist_right)), rfl⟩
   ·refine ⟨by omega, by omega, ?_⟩
    have hc : ¬(k.toNat = 0 ∨ (floor < (f k.toNat).p.z.lo ∧ sm = false)) := fun h => h.elim (fun h => by omega) (fun h => by have h1 := h.1; have h2 := h.2; first | omega | (rw [hsm] at h2; cases h2; done) | (exfalso; simp_all; done))
    rw [show (k + 1).toNat = k.toNat + 1 by omega]
    have h9 := hA.more hf0.1 (by omega) hfk hc (by omega)
    unfold refN at h9
    dsimp only at h9
    rw [if_neg hc] at h9
    simp only [hsm, Bool.false_eq_true, if_false, Int.toNat_of_nonneg hk0] at h9
    exact h9
   dsimp only; omega
  intro g2; have g2' := g2; try simp only [td] at g2'
  iterate 2 refine L_no rfl rfl rfl g2 ?_
  refine L_yes rfl rfl rfl g1 (X_p (p_pick_f rfl rfl g2 rfl) ?_)
  refine Lp rfl (p_pick_f rfl rfl g1 rfl) ?_
  refine L_then (kp [0, 1, 2, 8, 10, 11, 12, 43] rfl) ?_
  refine V_cond_f rfl rfl ?_
  refine V_skip (then_n ?_)
  refine V_seq (V_draw (.rd 0 (.rd 1 (.rd 2 (.rd 3 (.rd 4 (.rd 5 (.rd 6 (.rd 7 (.rd 8 (.rd 9 (.rd 10 (.wr 11 [10, 9, 8, 7, 6, 5, 4, 3, 2, 1, 0] (.wr 12 [] .done))))))))))))) mixed (by kernel_rfl) rfl ?_)
  iterate 2 refine Dm rfl rfl rfl rfl ?_
  refine Dp rfl rfl (p_idx es50 rfl rfl rfl (by omega) (by omega)) ?_
  refine Dp rfl rfl (p_field fo33_0 rfl rfl) ?_
  refine Dr rfl rfl (r_loadBA ag23 sz23 rfl rfl (hxa.sub 0 2) rfl List.not_mem_nil) ?_
  iterate 2 refine Dm rfl rfl rfl rfl ?_
  refine Dp rfl rfl (p_idx es50 rfl rfl rfl (by omega) (by omega)) ?_
  refine Dp rfl rfl (p_field fo33_1 rfl rfl) ?_
  refine Dr rfl rfl (r_loadBA ag23 sz23 rfl rfl (hxa.sub 2 2) rfl List.not_mem_nil) ?_
  refine Dp rfl rfl (p_build (r := [_, _, _, _]) pl84 zr84 rfl rfl rfl) ?_
  refine D_wr (.go (E' := [(9, _), (4, _)]) rfl (.plain rfl) (w_alloc zr84 rfl) rfl ?_)
  rintro _ _ ⟨b3, hb3, rfl, rfl⟩
  refine ⟨(.cons rfl (.plain rfl) (r_loadBA ag23 sz23 rfl rfl (hxa.sub 2 2) rfl List.not_mem_nil) (.cons rfl (.plain rfl) (r_loadBA ag23 sz23 rfl rfl (hxa.sub 0 2) rfl List.not_mem_nil) .nil)), ?_⟩
  refine D_wr (.go (E' := []) rfl (.plain rfl) (ws (cs' := [_, _, _, _]) sz84 rfl rfl rfl rfl rfl rfl rfl) rfl ?_)
  rintro _ _ ⟨rfl, rfl⟩
  refine ⟨.nil, ?_⟩
  refine D_then (kp [0, 1, 2, 8, 10, 11, 12, 13] rfl) ?_
  refine V_seq ?_
  refine Vs rfl ?_
  refine Lm rfl rfl rfl ?_
  refine L_then (kp [0, 1, 2, 8, 10, 12, 13, 55] rfl) ?_
  refine V_cond rfl ?_ ?_
  ·intro c7; try simp only [td] at c7
   have hsm : sm = true := c7
   refine V_region rfl ?_
   refine Lp rfl (p_fieldo fo86_1 rfl rfl) ?_
   iterate 2 refine Lr rfl (rlA (vs := [_, _, _, _]) ag84 sz84 rfl rfl rfl) ?_
   refine Lc rfl rfl rfl rfl (fun w hg => rboth_c X Y (f k.toNat).p.x (f k.toNat).p.y w) ?_
   refine Ls (cs' := [_, _, _, _]) rfl sz84 rfl rfl rfl rfl rfl rfl rfl ?_
   refine L_then (kp [0, 1, 2, 8, 10, 12, 13] rfl) ?_
   refine Vs rfl ?_
   refine Lr rfl (rlA (vs := [_, _, _, _]) ag84 sz84 rfl rfl rfl) ?_
   refine Lp rfl (p_fieldo fo86_1 rfl rfl) ?_
   refine Ls (cs' := [_, _, _, _, _, _, _]) rfl sz84 rfl rfl rfl rfl rfl rfl rfl ?_
   refine La rfl rfl rfl ?_
   refine L_then (kp [0, 1, 2, 8, 10, 11, 12] rfl) ?_
   refine Vs rfl ?_
   iterate 2 refine Lm rfl rfl rfl ?_
   refine Lp rfl (p_idx es50 rfl rfl rfl (by omega) (by omega)) ?_
   refine Lp rfl (p_field fo33_2 rfl rfl) ?_
   refine Lp rfl (p_field fo23_1 rfl rfl) ?_
   refine Lr rfl (r_loadB ag3 rfl rfl (hxa 5 _ rfl) List.not_mem_nil) ?_
   refine Lm rfl rfl rfl ?_
   refine Lp rfl (p_leq rfl rfl rfl) ?_
   refine L_then (kp [0, 1, 2, 8, 10, 11, 12, 74] rfl) ?_
   refine V_cond rfl ?_ ?_
   ·intro c8; try simp only [td] at c8
    refine Vs rfl ?_
    iterate 2 refine Lm rfl rfl rfl ?_
    first | refine Lp rfl (p_add' rfl rfl rfl (by unfold InI; omega)) ?_ | refine Lp rfl (p_add rfl rfl rfl) ?_
    refine Lp rfl (p_fieldo fo86_2 rfl rfl) ?_
    refine Lp rfl (p_fieldo fo23_1 rfl rfl) ?_
    refine Ls (cs' := [_, _, _, _, _, _, _]) rfl sz3 rfl rfl rfl rfl rfl rfl rfl ?_
    refine L_then (kp [8, 10] rfl) ?_
    refine Vs rfl ?_
    refine Lr rfl (rlA (vs := [_, _, _, _, _, _, _]) ag86 sz86 rfl rfl rfl) ?_
    refine Ls (cs' := [_, _, _, _, _, _, _]) rfl sz86 rfl rfl rfl rfl rfl rfl rfl ?_
    refine La rfl rfl rfl ?_
    refine L_then (kp [8, 9] rfl) ?_
    refine V_ret (blk_r (then_r (then_r (blk_r (then_r ?_)))))
    refine Leave.nil (.cellA (us := [_, _, _, _, _, _, _]) rfl ag86 sz86 (by repeat first | exact mH | apply mT) rfl (.tmp rfl .nil)) ?_
    first | (rw [← hI, hA.far (by omega) (by assumption)]; rfl) | (rw [← hI, hA.end]; rfl) | (have hc : ¬(k.toNat = 0 ∨ (floor < (f k.toNat).p.z.lo ∧ sm = false)) := fun h => h.elim (fun h => by omega) (fun h => by have h1 := h.1; have h2 := h.2; first | omega | (rw [hsm] at h2; cases h2; done) | (exfalso; simp_all; done)); have e9 : impN f frm floor m 0 ⟨pc, Fl.spZ, Fl.spZ, Fl.spZ⟩ = (⟨pc, Fl.hullS X (f k.toNat).p.x, Fl.hullS Y (f k.toNat).p.y, ⟨a, frm + k⟩⟩, 0) := (by rw [hA.hit hf0.1 (by omega) hfk hc (by omega)]; unfold refN; dsimp only; rw [if_neg hc]; simp only [hsm, if_true, Int.toNat_of_nonneg hk0]); rw [← hI, e9]; rfl) | (have hc : ¬(k.toNat = 0 ∨ (floor < (f k.toNat).p.z.lo ∧ sm = false)) := fun h => h.elim (fun h => by omega) (fun h => by have h1 := h.1; have h2 := h.2; first | omega | (rw [hsm] at h2; cases h2; done) | (exfalso; simp_all; done)); have e9 : impN f frm floor m 0 ⟨pc, Fl.spZ, Fl.spZ, Fl.spZ⟩ = (⟨pc, (f k.toNat).p.x, (f k.toNat).p.y, ⟨frm + k, frm + k⟩⟩, 0) := (by rw [hA.hit hf0.1 (by omega) hfk hc (by omega)]; unfold refN; dsimp only; rw [if_neg hc]; simp only [hsm, Bool.false_eq_true, if_false, Int.toNat_of_nonneg hk0]); rw [← hI, e9]; rfl)
   intro c8; try simp only [td] at c8
   refine V_skip (blk_n (then_n ?_))
   refine V_region rfl ?_
   refine Lm rfl rfl rfl ?_
   first | refine Lp rfl (p_add' rfl rfl rfl (by unfold InI; omega)) ?_ | refine Lp rfl (p_add rfl rfl rfl) ?_
   refine La rfl rfl rfl ?_
   refine L_keep (kp [0, 1, 2, 8, 10, 11, 12] rfl) (then_n ?_)
   refine ⟨(k + 1, true, Fl.hullS X (f k.toNat).p.x, Fl.hullS Y (f k.toNat).p.y, a), ?_, ?_, (.cons rfl (.cons rfl (.cons rfl (.cons rfl (.cons rfl (.cons rfl (.cons rfl (.nil _)))))))), (by repeat (first | exact List.nil_sublist _ | exact List.Sublist.refl _ | apply List.Sublist.cons_cons | apply List.Sublist.cons | apply List.sublist_append_of_sublist_right)), rfl⟩
   ·refine ⟨by omega, by omega, ?_⟩
    have hc : ¬(k.toNat = 0 ∨ (floor < (f k.toNat).p.z.lo ∧ sm = false)) := fun h => h.elim (fun h => by omega) (fun h => by have h1 := h.1; have h2 := h.2; first | omega | (rw [hsm] at h2; cases h2; done) | (exfalso; simp_all; done))
    rw [show (k + 1).toNat = k.toNat + 1 by omega]
    have h9 := hA.more hf0.1 (by omega) hfk hc (by omega)
    unfold refN at h9
    dsimp only at h9
    rw [if_neg hc] at h9
    simp only [hsm, if_true, Int.toNat_of_nonneg hk0] at h9
    exact h9
   dsimp only; omega
  intro c7; try simp only [td] at c7
  have hsm : sm = false := c7
  refine V_region rfl ?_
  iterate 2 refine Lm rfl rfl rfl ?_
  first | refine Lp rfl (p_add' rfl rfl rfl (by unfold InI; omega)) ?_ | refine Lp rfl (p_add rfl rfl rfl) ?_
  refine Lp rfl (p_fieldo fo86_2 rfl rfl) ?_
  refine Lp rfl (p_fieldo fo23_0 rfl rfl) ?_
  refine Ls (cs' := [_, _, _, _, _, _, _]) rfl sz3 rfl rfl rfl rfl rfl rfl rfl ?_
  refine L_then (kp [0, 1, 2, 8, 10, 12, 13] rfl) ?_
  refine Vs rfl ?_
  refine Lr rfl (rlA (vs := [_, _, _, _]) ag84 sz84 rfl rfl rfl) ?_
  refine Lp rfl (p_fieldo fo86_1 rfl rfl) ?_
  refine Ls (cs' := [_, _, _, _, _, _, _]) rfl sz84 rfl rfl rfl rfl rfl rfl rfl ?_
  refine La rfl rfl rfl ?_
  refine L_then (kp [0, 1, 2, 8, 10, 11, 12] rfl) ?_
  refine Vs rfl ?_
  iterate 2 refine Lm rfl rfl rfl ?_
  refine Lp rfl (p_idx es50 rfl rfl rfl (by omega) (by omega)) ?_
  refine Lp rfl (p_field fo33_2 rfl rfl) ?_
  refine Lp rfl (p_field fo23_1 rfl rfl) ?_
  refine Lr rfl (r_loadB ag3 rfl rfl (hxa 5 _ rfl) List.not_mem_nil) ?_
  refine Lm rfl rfl rfl ?_
  refine Lp rfl (p_leq rfl rfl rfl) ?_
  refine L_then (kp [0, 1, 2, 8, 10, 11, 12, 74] rfl) ?_
  refine V_cond rfl ?_ ?_
  ·intro c9; try simp only [td] at c9
   refine Vs rfl ?_
   iterate 2 refine Lm rfl rfl rfl ?_
   first | refine Lp rfl (p_add' rfl rfl rfl (by unfold InI; omega)) ?_ | refine Lp rfl (p_add rfl rfl rfl) ?_
   refine Lp rfl (p_fieldo fo86_2 rfl rfl) ?_
   refine Lp rfl (p_fieldo fo23_1 rfl rfl) ?_
   refine Ls (cs' := [_, _, _, _, _, _, _]) rfl sz3 rfl rfl rfl rfl rfl rfl rfl ?_
   refine L_then (kp [8, 10] rfl) ?_
   refine Vs rfl ?_
   refine Lr rfl (rlA (vs := [_, _, _, _, _, _, _]) ag86 sz86 rfl rfl rfl) ?_
   refine Ls (cs' := [_, _, _, _, _, _, _]) rfl sz86 rfl rfl rfl rfl rfl rfl rfl ?_
   refine La rfl rfl rfl ?_
   refine L_then (kp [8, 9] rfl) ?_
   refine V_ret (blk_r (then_r (then_r (blk_r (then_r ?_)))))
   refine Leave.nil (.cellA (us := [_, _, _, _, _, _, _]) rfl ag86 sz86 (by repeat first | exact mH | apply mT) rfl (.tmp rfl .nil)) ?_
   first | (rw [← hI, hA.far (by omega) (by assumption)]; rfl) | (rw [← hI, hA.end]; rfl) | (have hc : ¬(k.toNat = 0 ∨ (floor < (f k.toNat).p.z.lo ∧ sm = false)) := fun h => h.elim (fun h => by omega) (fun h => by have h1 := h.1; have h2 := h.2; first | omega | (rw [hsm] at h2; cases h2; done) | (exfalso; simp_all; done)); have e9 : impN f frm floor m 0 ⟨pc, Fl.spZ, Fl.spZ, Fl.spZ⟩ = (⟨pc, Fl.hullS X (f k.toNat).p.x, Fl.hullS Y (f k.toNat).p.y, ⟨a, frm + k⟩⟩, 0) := (by rw [hA.hit hf0.1 (by omega) hfk hc (by omega)]; unfold refN; dsimp only; rw [if_neg hc]; simp only [hsm, if_true, Int.toNat_of_nonneg hk0]); rw [← hI, e9]; rfl) | (have hc : ¬(k.toNat = 0 ∨ (floor < (f k.toNat).p.z.lo ∧ sm = false)) := fun h => h.elim (fun h => by omega) (fun h => by have h1 := h.1; have h2 := h.2; first | omega | (rw [hsm] at h2; cases h2; done) | (exfalso; simp_all; done)); have e9 : impN f frm floor m 0 ⟨pc, Fl.spZ, Fl.spZ, Fl.spZ⟩ = (⟨pc, (f k.toNat).p.x, (f k.toNat).p.y, ⟨frm + k, frm + k⟩⟩, 0) := (by rw [hA.hit hf0.1 (by omega) hfk hc (by omega)]; unfold refN; dsimp only; rw [if_neg hc]; simp only [hsm, Bool.false_eq_true, if_false, Int.toNat_of_nonneg hk0]); rw [← hI, e9]; rfl)
  intro c9; try simp only [td] at c9
  refine V_skip (blk_n (then_n ?_))
  refine V_region rfl ?_
  refine Lm rfl rfl rfl ?_
  first | refine Lp rfl (p_add' rfl rfl rfl (by unfold InI; omega)) ?_ | refine Lp rfl (p_add rfl rfl rfl) ?_
  refine La rfl rfl rfl ?_
  refine L_keep (kp [0, 1, 2, 8, 10, 11, 12] rfl) (then_n ?_)
  refine ⟨(k + 1, true, (f k.toNat).p.x, (f k.toNat).p.y, frm + k), ?_, ?_, (.cons rfl (.cons rfl (.cons rfl (.cons rfl (.cons rfl (.cons rfl (.cons rfl (.nil _)))))))), (by repeat (first | exact List.nil_sublist _ | exact List.Sublist.refl _ | apply List.Sublist.cons_cons | apply List.Sublist.cons | apply List.sublist_append_of_sublist_right)), rfl⟩
  ·refine ⟨by omega, by omega, ?_⟩
   have hc : ¬(k.toNat = 0 ∨ (floor < (f k.toNat).p.z.lo ∧ sm = false)) := fun h => h.elim (fun h => by omega) (fun h => by have h1 := h.1; have h2 := h.2; first | omega | (rw [hsm] at h2; cases h2; done) | (exfalso; simp_all; done))
   rw [show (k + 1).toNat = k.toNat + 1 by omega]
   have h9 := hA.more hf0.1 (by omega) hfk hc (by omega)
   unfold refN at h9
   dsimp only at h9
   rw [if_neg hc] at h9
   simp only [hsm, Bool.false_eq_true, if_false, Int.toNat_of_nonneg hk0] at h9
   exact h9
  dsimp only; omega
 intro c1; try simp only [td] at c1
 have ek : k.toNat = m + 1 := by omega
 rw [ek] at hA
 refine V_exit (then_e (then_e (blk_e rfl (then_n ?_))))
 refine Vs rfl ?_
 refine Lp rfl (p_build (r := [_, _, _, _, _, _, _]) pl86 zr86 rfl rfl rfl) ?_
 refine Ls (cs' := [_, _, _, _, _, _, _]) rfl sz86 rfl rfl rfl rfl rfl rfl rfl ?_
 refine La rfl rfl rfl ?_
 refine L_then (kp [8, 9] rfl) ?_
 refine V_ret ?_
 refine Leave.nil (.cellA (us := [_, _, _, _, _, _, _]) rfl ag86 sz86 (by repeat first | exact mH | apply mT) rfl (.tmp rfl .nil)) ?_
 first | (rw [← hI, hA.far (by omega) (by assumption)]; rfl) | (rw [← hI, hA.end]; rfl) | (have hc : ¬(k.toNat = 0 ∨ (floor < (f k.toNat).p.z.lo ∧ sm = false)) := fun h => h.elim (fun h => by omega) (fun h => by have h1 := h.1; have h2 := h.2; first | omega | (rw [hsm] at h2; cases h2; done) | (exfalso; simp_all; done)); have e9 : impN f frm floor m 0 ⟨pc, Fl.spZ, Fl.spZ, Fl.spZ⟩ = (⟨pc, Fl.hullS X (f k.toNat).p.x, Fl.hullS Y (f k.toNat).p.y, ⟨a, frm + k⟩⟩, 0) := (by rw [hA.hit hf0.1 (by omega) hfk hc (by omega)]; unfold refN; dsimp only; rw [if_neg hc]; simp only [hsm, if_true, Int.toNat_of_nonneg hk0]); rw [← hI, e9]; rfl) | (have hc : ¬(k.toNat = 0 ∨ (floor < (f k.toNat).p.z.lo ∧ sm = false)) := fun h => h.elim (fun h => by omega) (fun h => by have h1 := h.1; have h2 := h.2; first | omega | (rw [hsm] at h2; cases h2; done) | (exfalso; simp_all; done)); have e9 : impN f frm floor m 0 ⟨pc, Fl.spZ, Fl.spZ, Fl.spZ⟩ = (⟨pc, (f k.toNat).p.x, (f k.toNat).p.y, ⟨frm + k, frm + k⟩⟩, 0) := (by rw [hA.hit hf0.1 (by omega) hfk hc (by omega)]; unfold refN; dsimp only; rw [if_neg hc]; simp only [hsm, Bool.false_eq_true, if_false, Int.toNat_of_nonneg hk0]); rw [← hI, e9]; rfl)
set_option maxHeartbeats 8000000 in
theorem rImpacts_c (v : Veh) (d : Dir) (l : List Fl.Band) (av pv qv bv : Value) (w : World) (hv : VehR w (VehV v av pv qv) v) (hl : BdsR w bv l) : FnC Tryz.prog 11 [VehV v av pv qv, .agg #[.int .i64 d.x, .int .i64 d.y, .int .i64 d.z], bv] w fun u w' => ∃ Hc, Vc.Good w [] Hc w' ∧ ∃ A G, Hc = A ++ G ∧ LstOut 86 7 (impsL v d l).length (imL (impsL v d l)) (fun sv => .tuple #[sv, .int .i64 (impsE v d l)]) u A G := by
 have hL := hl
 obtain ⟨ba, bc, rfl, hbc, hbe⟩ := hl.sl.ex
 simp only [List.length_map] at hL ⊢
 obtain ⟨qa, qc, rfl, hqc, hqe⟩ := hv.sl.2.2.ex
 simp only [List.length_map] at hqc hv ⊢
 have hql := hv.lq
 refine fn_new Tryz.func11 rfl (by kernel_rfl) Tryz.ntmps11 Tryz.results11 rfl ?_
 refine Vs rfl ?_
 refine Lw rfl (w_box rfl rfl) ?_
 rintro _ _ ⟨b1, hb1, rfl, rfl⟩
 refine Lw rfl (w_box rfl rfl) ?_
 rintro _ _ ⟨b2, hb2, rfl, rfl⟩
 iterate 2 refine La rfl rfl rfl ?_
 refine L_then (kp [2, 3, 4] rfl) ?_
 refine Vs rfl ?_
 refine Lr rfl (rlA (vs := [_, _, _, _, _, _]) ag28 sz28 rfl rfl rfl) ?_
 refine Lr rfl (rlA (vs := [_, _, _]) ag30 sz30 rfl rfl rfl) ?_
 refine Lm rfl rfl rfl ?_
 refine Lc rfl rfl rfl rfl (fun w hg => rasked_c v d l _ _ w (hv.good hg) (hL.good hg)) ?_
 refine La rfl rfl rfl ?_
 refine L_then (kp [2, 3, 4, 8] rfl) ?_
 refine V_seq ?_
 refine Vs rfl ?_
 refine Lm rfl rfl rfl ?_
 refine Lp rfl (p_neq rfl rfl rfl) ?_
 refine L_then (kp [2, 3, 4, 8, 21] rfl) ?_
 refine V_cond rfl ?_ ?_
 ·intro c1; try simp only [td] at c1
  refine Vs rfl ?_
  refine Lm rfl rfl rfl ?_
  iterate 2 refine La rfl rfl rfl ?_
  refine L_then (kp [6, 7] rfl) ?_
  refine V_ret (then_r ?_)
  refine Leave.nil (.tmp rfl (.tmp rfl .nil)) ?_
  first | (exfalso; omega) | (have h9 := imps_asked (v := v) (d := d) (l := l) (by assumption); refine ⟨[], HSub.nil _, [], [], rfl, rfl, .slice none 0 0, by rw [h9]; rfl, ?_⟩; rw [impsL_bad (by rw [h9]; assumption)]; exact .nil) | (have h9 := imps_err (v := v) (d := d) (l := l) (i := k.toNat) (fun j hj => hall j (by omega)) (by omega) (by assumption) h0; refine ⟨[], HSub.nil _, [], [], rfl, rfl, .slice none 0 0, by rw [h9]; rfl, ?_⟩; rw [impsL_bad (by rw [h9]; assumption)]; exact .nil) | (have h9 := imps_all (v := v) (d := d) (l := l) (fun j hj => hall j (by omega)) h0; have ek : k.toNat = v.pieces.length + 1 := (by omega); have h8 := impsL_all h9; have hgr9 : Grow 86 7 _ (impsL v d l).length (imL (impsL v d l)) _ := (by rw [impsL_len h9, h8, ← ek]; exact hgo); exact ⟨_, (by (try dsimp only); repeat (first | exact HSub.nil _ | refine HSub.take (by repeat first | exact Take.head | apply Take.tail) ?_ | exact HSub.refl _ | refine HSub.drop ?_ | refine HSub.app ?_)), [], _, rfl, rfl, _, by rw [h9]; rfl, hgr9⟩)
 intro c1; try simp only [td] at c1
 have h0 : askedF v d l = 0 := by first | assumption | omega
 have hGG := Fl.asked_good h0
 have hGV := hGG.1
 have hdd := hGG.2.1
 have hGB := hGG.2.2
 have h6 := hGV.pc6
 refine V_skip (then_n ?_)
 refine Vs rfl ?_
 refine La rfl rfl rfl ?_
 refine L_then (kp [2, 3, 4, 9] rfl) ?_
 refine V_seq ?_
 refine Vs rfl ?_
 refine La rfl rfl rfl ?_
 refine L_then (kp [2, 3, 4, 9, 10] rfl) ?_
 refine V_block ?_
 refine V_loop1 (γ := Int × Value × Heap) (kp [2, 3, 4] rfl) (fun (k, svo, GO) => [(10, .int .i64 k), (9, svo)]) (fun (k, svo, GO) => (b2, .cells #[.int .i64 d.x, .int .i64 d.y, .int .i64 d.z] 30) :: (b1, .cells #[.string v.name, .int .i64 v.gravity.lo, .int .i64 v.gravity.hi, av, pv, .slice qa v.pieces.length qc] 28) :: GO) (fun (k, svo, GO) => 0 ≤ k ∧ k ≤ v.pieces.length + 1 ∧ (∀ j : Nat, (j : Int) < k → (impT v d l j).2 = 0) ∧ Grow 86 7 svo k.toNat (imL (impL v d l k.toNat)) GO) (fun (k, svo, GO) => (v.pieces.length + 1 - k).toNat) ((0, .slice none 0 0, [])) (.cons rfl (.cons rfl (.nil _))) (by repeat (first | exact List.nil_sublist _ | exact List.Sublist.refl _ | apply List.Sublist.cons_cons | apply List.Sublist.cons)) (⟨by omega, by omega, fun j hj => by omega, .nil⟩) ?_
 rintro ⟨k, svo, GO⟩ hi
 obtain ⟨hk0, hk1, hall, hgo⟩ := hi
 dsimp only at hk0 hk1 hall hgo ⊢
 obtain ⟨sao, sco, rfl⟩ := Grow.form hgo
 refine V_seq ?_
 refine Vs rfl ?_
 refine Lm rfl rfl rfl ?_
 refine Lp rfl (p_fieldo fo28_4 rfl rfl) ?_
 refine Lr rfl (rl ag26 rfl rfl rfl) ?_
 refine Lp rfl (p_len isl26 rfl rfl) ?_
 refine Lp rfl (p_leq rfl rfl rfl) ?_
 refine L_then (kp [2, 3, 4, 9, 10, 27] rfl) ?_
 refine V_cond rfl ?_ ?_
 ·intro c2; try simp only [td] at c2
  refine V_skip (then_n ?_)
  refine V_seq ?_
  refine V_block ?_
  refine Vs rfl ?_
  refine Lr rfl (rlA (vs := [_, _, _, _, _, _]) ag28 sz28 rfl rfl rfl) ?_
  refine Lr rfl (rlA (vs := [_, _, _]) ag30 sz30 rfl rfl rfl) ?_
  refine Lm rfl rfl rfl ?_
  refine Lw rfl (w_callG (pre := [_, _]) rfl rfl rfl rfl (fun w hg => rflown_c v d l av pv _ _ w (hv.good hg) (hL.good hg) hGV hdd hGB 3000 (by omega))) ?_
  rintro _ _ ⟨_, G1, rfl, hfr1, m1, ⟨hm1, hm2, hm3⟩, rfl, sv1, rfl, hgr1⟩
  obtain ⟨sa1, sc1, rfl⟩ := Grow.form hgr1
  obtain ⟨gb1, cur1, rfl, rfl, hcur1, _, _⟩ := Grow.form2 hgr1 (by omega)
  try simp only [List.cons_append, List.nil_append, List.append_nil]
  iterate 3 refine La rfl rfl rfl ?_
  refine L_then (kp [2, 3, 4, 9, 10, 11, 12, 13] rfl) ?_
  refine V_seq ?_
  refine Vs rfl ?_
  refine Lm rfl rfl rfl ?_
  refine Lp rfl (p_fieldo fo28_4 rfl rfl) ?_
  refine Lr rfl (rl ag26 rfl rfl rfl) ?_
  refine Lp rfl (p_len isl26 rfl rfl) ?_
  refine Lp rfl (p_lss rfl rfl rfl) ?_
  refine L_then (kp [2, 3, 4, 9, 10, 11, 12, 13, 38] rfl) ?_
  refine V_midT (γ := (Nat → St) × Nat × Nat × Array Value × Nat × Int × Int) (kp [2, 3, 4, 9, 10] rfl) (fun (f, m, gb, cur, sc, fr, fl) => [(11, .slice (some ⟨gb, 0, none⟩) (m + 1) sc), (12, .int .i64 fr), (13, .int .i64 fl)]) (fun (f, m, gb, cur, sc, fr, fl) => (gb, .cells cur 33) :: (b2, .cells #[.int .i64 d.x, .int .i64 d.y, .int .i64 d.z] 30) :: (b1, .cells #[.string v.name, .int .i64 v.gravity.lo, .int .i64 v.gravity.hi, av, pv, .slice qa v.pieces.length qc] 28) :: GO) (fun (f, m, gb, cur, sc, fr, fl) => m ≤ 3000 ∧ (0 ≤ fr ∧ fr ≤ 3000) ∧ impN f fr fl m 0 ⟨k, Fl.spZ, Fl.spZ, Fl.spZ⟩ = impT v d l k.toNat ∧ Grow 33 12 (.slice (some ⟨gb, 0, none⟩) (m + 1) sc) (m + 1) (stL (rowS f m)) [(gb, .cells cur 33)]) ?_ ?_
  ·refine V_cond rfl ?_ ?_
   ·intro c3; try simp only [td] at c3
    obtain ⟨tb, etb, hc⟩ := hqe k.toNat _ (getD_cells (d := pcZ) (by omega))
    subst etb
    have hpx1 := (pc_zero (hGV.pc k.toNat (by omega))).at_
    simp only [Veh.pc] at hpx1
    refine V_seq (V_draw (.rd 0 (.rd 1 (.rd 2 (.rd 3 (.rd 4 (.rd 5 (.rd 6 (.rd 7 (.rd 8 (.rd 9 (.rd 10 (.rd 11 (.rd 12 (.rd 13 .done)))))))))))))) mixed (by kernel_rfl) rfl ?_)
    refine Dp rfl rfl (p_fieldo fo28_4 rfl rfl) ?_
    refine Dr rfl rfl (rl ag26 rfl rfl rfl) ?_
    refine Dm rfl rfl rfl rfl ?_
    refine Dp rfl rfl (p_idx es26 rfl rfl rfl (by omega) (by omega)) ?_
    refine Dp rfl rfl (p_field fo93_1 rfl rfl) ?_
    refine Dr rfl rfl (r_loadB ag3 rfl rfl (hc 1 _ rfl) List.not_mem_nil) ?_
    refine Dp rfl rfl (p_fieldo fo28_4 rfl rfl) ?_
    refine Dr rfl rfl (rl ag26 rfl rfl rfl) ?_
    refine Dm rfl rfl rfl rfl ?_
    refine Dp rfl rfl (p_idx es26 rfl rfl rfl (by omega) (by omega)) ?_
    refine Dp rfl rfl (p_field fo93_5 rfl rfl) ?_
    refine Dr rfl rfl (r_loadB ag3 rfl rfl (hc 12 _ rfl) List.not_mem_nil) ?_
    iterate 2 refine Dp rfl rfl (p_assign rfl rfl) ?_
    refine D_then (kp [2, 3, 4, 9, 10, 12, 13] rfl) ?_
    refine V_region rfl ?_
    refine Lr rfl (rlA (vs := [_, _, _, _, _, _]) ag28 sz28 rfl rfl rfl) ?_
    refine Lr rfl (rlA (vs := [_, _, _]) ag30 sz30 rfl rfl rfl) ?_
    iterate 3 refine Lm rfl rfl rfl ?_
    first | refine Lp rfl (p_sub' rfl rfl rfl (by unfold InI; omega)) ?_ | refine Lp rfl (p_sub rfl rfl rfl) ?_
    refine Lw rfl (w_callG (pre := [_, _]) rfl rfl rfl rfl (fun w hg => rparted_c v d l av pv _ _ w (hv.good hg) (hL.good hg) hGV hdd hGB k (3000 - (v.pieces.getD k.toNat pcZ).at_) _ rfl (by omega) (by omega))) ?_
    rintro _ _ ⟨_, G2, rfl, hfr2, f2, m2, hP, rfl, sv2, rfl, hgr2⟩
    have hml := hP.le
    obtain ⟨sa2, sc2, rfl⟩ := Grow.form hgr2
    obtain ⟨gb2, cur2, rfl, rfl, hcur2, _, _⟩ := Grow.form2 hgr2 (by omega)
    try simp only [List.cons_append, List.nil_append, List.append_nil]
    refine La rfl rfl rfl ?_
    refine L_then (kp [2, 3, 4, 9, 10, 11, 12, 13] rfl) ?_
    refine ⟨(f2, m2, gb2, cur2, _, (v.pieces.getD k.toNat pcZ).at_, (v.pieces.getD k.toNat pcZ).floor), ?_, (.cons rfl (.cons rfl (.cons rfl (.cons rfl (.cons rfl (.cons rfl (.cons rfl (.cons rfl (.nil _))))))))), (by (try dsimp only); repeat (first | exact HSub.nil _ | refine HSub.take (by repeat first | exact Take.head | apply Take.tail) ?_ | exact HSub.refl _ | refine HSub.drop ?_ | refine HSub.app ?_)), rfl⟩
    dsimp only
    refine ⟨by omega, by omega, ?_, hgr2⟩
    have h9 := ptd_imp (v := v) (d := d) (l := l) (i := k.toNat) (by omega) hP
    rw [Int.toNat_of_nonneg hk0] at h9
    exact h9
   intro c3; try simp only [td] at c3
   refine V_skip (then_n ?_)
   refine ⟨(Fl.stT v d l, m1, gb1, cur1, _, 0, 0), ?_, (.cons rfl (.cons rfl (.cons rfl (.cons rfl (.cons rfl (.cons rfl (.cons rfl (.cons rfl (.nil _))))))))), (by (try dsimp only); repeat (first | exact HSub.nil _ | refine HSub.take (by repeat first | exact Take.head | apply Take.tail) ?_ | exact HSub.refl _ | refine HSub.drop ?_ | refine HSub.app ?_)), rfl⟩
   dsimp only
   refine ⟨by omega, by omega, ?_, hgr1⟩
   have h9 := ptd_veh (v := v) (d := d) (l := l) (m := m1) (i := k.toNat) (by omega) (by omega) (by simpa using hm3)
   rw [Int.toNat_of_nonneg hk0] at h9
   exact h9
  rintro ⟨f, m, gb, cur, sc, fr, fl⟩ hm9
  obtain ⟨hm30, hfr, hIm, hgrm⟩ := hm9
  dsimp only at hm30 hfr hIm hgrm ⊢
  refine Vs rfl ?_
  iterate 4 refine Lm rfl rfl rfl ?_
  refine Lc rfl rfl rfl rfl (fun w hg => rimpact_c f m _ fr fl k (impT v d l k.toNat) hIm w (stL_rows2 hgrm (rowS_len f m).symm (fun p hp => hg.own p (by repeat first | exact hp | exact List.mem_append_left _ hp | apply List.mem_append_right | apply mT))) (by omega) hfr) ?_
  refine Lm rfl rfl rfl ?_
  iterate 2 refine Lp rfl (p_ext rfl rfl rfl) ?_
  refine Lw rfl (w_alloc zr86 rfl) ?_
  rintro _ _ ⟨b4, hb4, rfl, rfl⟩
  refine Ls (cs' := [_, _, _, _, _, _, _]) rfl sz86 rfl rfl rfl rfl rfl rfl rfl ?_
  refine La rfl rfl rfl ?_
  refine L_then (kp [2, 3, 4, 9, 10, 14, 15] rfl) ?_
  refine V_seq ?_
  refine Vs rfl ?_
  refine Lm rfl rfl rfl ?_
  refine Lp rfl (p_neq rfl rfl rfl) ?_
  refine L_then (kp [2, 3, 4, 9, 10, 14, 15, 67] rfl) ?_
  refine V_cond rfl ?_ ?_
  ·intro c4; try simp only [td] at c4
   refine Vs rfl ?_
   refine Lm rfl rfl rfl ?_
   iterate 2 refine La rfl rfl rfl ?_
   refine L_then (kp [6, 7] rfl) ?_
   refine V_ret (then_r (blk_r (then_r (then_r (blk_r (then_r ?_))))))
   refine Leave.nil (.tmp rfl (.tmp rfl .nil)) ?_
   first | (exfalso; omega) | (have h9 := imps_asked (v := v) (d := d) (l := l) (by assumption); refine ⟨[], HSub.nil _, [], [], rfl, rfl, .slice none 0 0, by rw [h9]; rfl, ?_⟩; rw [impsL_bad (by rw [h9]; assumption)]; exact .nil) | (have h9 := imps_err (v := v) (d := d) (l := l) (i := k.toNat) (fun j hj => hall j (by omega)) (by omega) (by assumption) h0; refine ⟨[], HSub.nil _, [], [], rfl, rfl, .slice none 0 0, by rw [h9]; rfl, ?_⟩; rw [impsL_bad (by rw [h9]; assumption)]; exact .nil) | (have h9 := imps_all (v := v) (d := d) (l := l) (fun j hj => hall j (by omega)) h0; have ek : k.toNat = v.pieces.length + 1 := (by omega); have h8 := impsL_all h9; have hgr9 : Grow 86 7 _ (impsL v d l).length (imL (impsL v d l)) _ := (by rw [impsL_len h9, h8, ← ek]; exact hgo); exact ⟨_, (by (try dsimp only); repeat (first | exact HSub.nil _ | refine HSub.take (by repeat first | exact Take.head | apply Take.tail) ?_ | exact HSub.refl _ | refine HSub.drop ?_ | refine HSub.app ?_)), [], _, rfl, rfl, _, by rw [h9]; rfl, hgr9⟩)
  intro c4; try simp only [td] at c4
  refine V_skip (then_n ?_)
  refine V_region rfl ?_
  refine Lm rfl rfl rfl ?_
  refine Lr rfl (rlA (vs := [_, _, _, _, _, _, _]) ag86 sz86 rfl rfl rfl) ?_
  refine Lw rfl (w_slice (r := [_, _, _, _, _, _, _]) un45 sz86 zr86 rfl (by decide) rfl (by decide) rfl rfl) ?_
  rintro _ _ ⟨b5, hb5, rfl, rfl⟩
  refine Lw rfl (w_app (pre := [_, _, _, _, _]) (G := GO) (post := []) ap45 rfl rfl rfl hgo (by rw [List.append_nil]; rfl) rfl (news_own (by repeat first | exact mH | apply mT)) (by intro u hu; simp only [Imp.cells, List.mem_cons, List.not_mem_nil, or_false] at hu; rcases hu with rfl | rfl | rfl | rfl | rfl | rfl | rfl <;> rfl) (by omega) (by simp only [maxLen]; omega)) ?_
  rintro _ _ ⟨GO2a, GO2c, GO2, rfl, rfl, hgo2⟩
  try simp only [List.cons_append, List.nil_append, List.append_nil]
  refine La rfl rfl rfl ?_
  refine L_keep (kp [2, 3, 4, 9, 10] rfl) (blk_n (then_n ?_))
  refine V_region rfl ?_
  refine Lm rfl rfl rfl ?_
  first | refine Lp rfl (p_add' rfl rfl rfl (by unfold InI; omega)) ?_ | refine Lp rfl (p_add rfl rfl rfl) ?_
  refine La rfl rfl rfl ?_
  refine L_keep (kp [2, 3, 4, 9, 10] rfl) (then_n ?_)
  refine ⟨(k + 1, _, GO2), ?_, ?_, (.cons rfl (.cons rfl (.cons rfl (.cons rfl (.cons rfl (.nil _)))))), (by repeat (first | exact List.nil_sublist _ | exact List.Sublist.refl _ | apply List.Sublist.cons_cons | apply List.Sublist.cons | apply List.sublist_append_of_sublist_right)), rfl⟩
  ·have ek : (k + 1).toNat = k.toNat + 1 := by omega
   refine ⟨by omega, by omega, fun j hj => ?_, ?_⟩
   ·by_cases e : (j : Int) < k
    ·exact hall j e
    have ej : j = k.toNat := by dsimp only at hj; omega
    rw [ej]; omega
   dsimp only
   rw [ek, impL_s, imL_s]; exact hgo2
  dsimp only; omega
 intro c2; try simp only [td] at c2
 refine V_exit (then_e (then_e (blk_e rfl (then_n ?_))))
 refine Vs rfl ?_
 refine Lm rfl rfl rfl ?_
 iterate 2 refine La rfl rfl rfl ?_
 refine L_then (kp [6, 7] rfl) ?_
 refine V_ret ?_
 refine Leave.nil (.tmp rfl (.tmp rfl .nil)) ?_
 first | (exfalso; omega) | (have h9 := imps_asked (v := v) (d := d) (l := l) (by assumption); refine ⟨[], HSub.nil _, [], [], rfl, rfl, .slice none 0 0, by rw [h9]; rfl, ?_⟩; rw [impsL_bad (by rw [h9]; assumption)]; exact .nil) | (have h9 := imps_err (v := v) (d := d) (l := l) (i := k.toNat) (fun j hj => hall j (by omega)) (by omega) (by assumption) h0; refine ⟨[], HSub.nil _, [], [], rfl, rfl, .slice none 0 0, by rw [h9]; rfl, ?_⟩; rw [impsL_bad (by rw [h9]; assumption)]; exact .nil) | (have h9 := imps_all (v := v) (d := d) (l := l) (fun j hj => hall j (by omega)) h0; have ek : k.toNat = v.pieces.length + 1 := (by omega); have h8 := impsL_all h9; have hgr9 : Grow 86 7 _ (impsL v d l).length (imL (impsL v d l)) _ := (by rw [impsL_len h9, h8, ← ek]; exact hgo); exact ⟨_, (by (try dsimp only); repeat (first | exact HSub.nil _ | refine HSub.take (by repeat first | exact Take.head | apply Take.tail) ?_ | exact HSub.refl _ | refine HSub.drop ?_ | refine HSub.app ?_)), [], _, rfl, rfl, _, by rw [h9]; rfl, hgr9⟩)

end Go.Proofs.YtbncegfgjbdheaaGreat
