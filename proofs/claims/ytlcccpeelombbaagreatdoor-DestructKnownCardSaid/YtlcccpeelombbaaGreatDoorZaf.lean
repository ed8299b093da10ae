/- Joined texts. -/
import Derived.Test.YtlcccpeelombbaaGreatDoorZae
import Derived.Test.YtlcccpeelombbaaGreatDoorZad
/- YtlcccpeelombbaaGreatDoor: the boxes of all trackers but one. -/
set_option linter.all false
namespace Go.Proofs.YtlcccpeelombbaaGreatDoor
open Go.Vc Go.Tk
set_option maxRecDepth 100000
theorem others11_c (x i : Int) (b ty : Nat) (fr : Nat × Nat) (w : World) (hb : w.heap[b]? = some (.cells #[.int .i64 i] ty fr)) : FnP Tryz.prog 126 [.int .i64 x, .pointer (some ⟨b, 0, none⟩)] w (.bool (decide (x ≠ i))) := by
 refine fn_pure Tryz.func126 rfl (by kernel_rfl) Tryz.ntmps126 Tryz.results126 rfl ?_
 refine Vs rfl ?_
 refine La rfl rfl rfl ?_
 refine L_then (kp [0, 1] rfl) ?_
 refine Vs rfl ?_
 refine Lm rfl rfl rfl ?_
 refine Lr rfl (r_loadB ag3 rfl rfl (own_cell hb 0) List.not_mem_nil) ?_
 refine Lp rfl (p_neq rfl rfl rfl) ?_
 refine La rfl rfl rfl ?_
 refine L_then (kp [3] rfl) ?_
 refine V_ret ?_
 refine Leave.nil (.tmp rfl .nil) ?_
 simp [tup]
theorem others_c (t : Task) (tv pv : Value) (u now : Int) (w : World) : FnC Tryz.prog 115 [.agg #[.int .i64 t.frm, .int .i64 t.speed, .int .i64 t.accel, tv, pv], .int .i64 u, .int .i64 now] w fun v w' => ∃ Hc, Vc.Good w [] Hc w' ∧ ∃ c1 c2 c3, v = .func (.func 125) #[] #[.pointer (some ⟨c1, 0, none⟩), .pointer (some ⟨c2, 0, none⟩), .pointer (some ⟨c3, 0, none⟩)] ∧ Hc = [(c2, .cells #[.int .i64 now] 3), (c3, .cells #[.int .i64 u] 3), (c1, t.obj tv pv 39)] := by
 refine fn_new Tryz.func115 rfl (by kernel_rfl) Tryz.ntmps115 Tryz.results115 rfl ?_
 refine Vs rfl ?_
 refine Lw rfl (w_box rfl rfl) ?_
 rintro _ _ ⟨b1, hb1, rfl, rfl⟩
 refine Lw rfl (w_box rfl rfl) ?_
 rintro _ _ ⟨b2, hb2, rfl, rfl⟩
 refine Lw rfl (w_box rfl rfl) ?_
 rintro _ _ ⟨b3, hb3, rfl, rfl⟩
 refine La rfl rfl rfl ?_
 refine L_then (kp [3, 4, 5] rfl) ?_
 refine Vs rfl ?_
 refine Lp rfl (p_func rfl rfl rfl) ?_
 refine La rfl rfl rfl ?_
 refine L_then (kp [6] rfl) ?_
 refine V_ret ?_
 refine Leave.nil (.tmp rfl .nil) ?_
 exact ⟨_, HSub.refl _, _, _, _, rfl, rfl⟩
theorem others1_c (t : Task) (hG : GoodT t) (u now : Int) (hu : 0 ≤ u ∧ u ≤ 100000) (w0 : World) (l c1 c2 c3 : Nat) (ta : Option Addr) (tc : Nat) (pv : Value) (I : List (List Value) → Heap → Prop) (hT : TaskR w0 (.agg #[.int .i64 t.frm, .int .i64 t.speed, .int .i64 t.accel, .slice ta t.trackers.length tc, pv]) t) (hY : RoundOk Tryz.prog w0 [] l (fun done x => done.length < t.trackers.length ∧ ∃ p : Int × Box, x = ov p) I) (hI : ∀ done Hs, I done Hs → (c1, t.obj (.slice ta t.trackers.length tc) pv 39) ∈ Hs ∧ (c2, Obj.cells #[.int .i64 now] 3) ∈ Hs ∧ (c3, Obj.cells #[.int .i64 u] 3) ∈ Hs) (w : World) (Hs0 : Heap) (h0 : I [] Hs0) (hg0 : Vc.Good w0 [] Hs0 w) : FnC Tryz.prog 125 [.func (.yield l) #[] #[], .pointer (some ⟨c1, 0, none⟩), .pointer (some ⟨c2, 0, none⟩), .pointer (some ⟨c3, 0, none⟩)] w fun _ w' => ∃ Hs, Vc.Good w0 [] Hs w' ∧ I ((othersV t u now t.trackers.length).map ov) Hs := by
 have htl := hG.h1
 obtain ⟨hm1, hm2, hm3⟩ := hI _ _ h0
 refine fn_over (M := []) (H0 := Hs0) Tryz.func125 rfl (by kernel_rfl) Tryz.ntmps125 Tryz.results125 rfl hg0 ?_
 refine Vs rfl ?_
 refine Lp rfl (p_fieldo fo39_3 rfl rfl) ?_
 refine Lr rfl (r_load ag36 rfl rfl (by repeat first | exact hm1 | exact (List.mem_append_right _ hm1) | exact hm2 | exact (List.mem_append_right _ hm2) | exact hm3 | exact (List.mem_append_right _ hm3) | exact mH | apply mT) rfl) ?_
 refine Lp rfl (p_len isl36 rfl rfl) ?_
 refine Lm rfl rfl rfl ?_
 refine L_then (kp [0, 1, 2, 3, 10, 11] rfl) ?_
 refine V_block ?_
 refine V_loop1 (γ := Int × Heap) (kp [0, 1, 2, 3, 10] rfl) (fun (k, Hs) => [(11, .int .i64 k)]) (fun (k, Hs) => Hs) (fun (k, Hs) => 0 ≤ k ∧ k ≤ t.trackers.length ∧ I ((othersV t u now k.toNat).map ov) Hs) (fun (k, Hs) => (t.trackers.length - k).toNat) ((0, Hs0)) (.cons rfl (.nil _)) (by repeat (first | exact List.Sublist.refl _ | apply List.Sublist.cons_cons | apply List.Sublist.cons)) (⟨by omega, by omega, h0⟩) ?_
 rintro ⟨k, Hs⟩ hi
 obtain ⟨hk0, hk1, hik⟩ := hi
 obtain ⟨hm1, hm2, hm3⟩ := hI _ _ hik
 refine Vs rfl ?_
 refine Lp rfl (p_lss rfl rfl rfl) ?_
 refine L_then (kp [0, 1, 2, 3, 10, 11, 12] rfl) ?_
 refine V_seq ?_
 refine V_cond rfl ?_ ?_
 ·intro c1; try simp only [td] at c1
  refine V_skip (then_n ?_)
  refine V_seq ?_
  refine V_block ?_
  refine Vs rfl ?_
  refine Lm rfl rfl rfl ?_
  refine Lw rfl (w_alloc zr3 rfl) ?_
  rintro _ _ ⟨b1, hb1, rfl, rfl⟩
  refine Ls (cs' := [_]) rfl sz3 rfl rfl rfl rfl rfl rfl rfl ?_
  refine L_then (kp [0, 1, 2, 3, 5, 10, 11] rfl) ?_
  refine V_mid (γ := Nat) (kp [0, 1, 2, 3, 5, 10, 11] rfl) (fun x6 => [(6, .pointer (some ⟨x6, 0, none⟩)), (7, .bool (boxT t (byT t now (fun x => decide (x ≠ k))) u).isSome)]) (fun x6 => (x6, .cells (Box.cells ((boxT t (byT t now (fun x => decide (x ≠ k))) u).getD boxZ)).toArray 28) :: (b1, .cells #[.int .i64 k] 3) :: Hs) (fun x6 => True) ?_ ?_
  ·refine V_draw (.rd 0 (.rd 1 (.rd 2 (.rd 4 (.wr2 3 [4] (.wr2 5 [2, 1, 0] (.rd 6 (.rd 7 (.rd 8 (.wr 9 [8, 7, 6, 4, 2, 1, 0] (.wr 10 [8] (.rd 11 .done)))))) 9 [4, 2, 1, 0] (.wr 5 [2, 1, 0] (.rd 6 (.rd 7 (.rd 8 (.wr 10 [8] (.rd 11 .done))))))) 9 [4, 2, 1, 0] (.wr 3 [4] (.wr 5 [2, 1, 0] (.rd 6 (.rd 7 (.rd 8 (.wr 10 [8] (.rd 11 .done)))))))))))) mixed (by kernel_rfl) rfl ?_
   refine Dr rfl rfl (r_loadA (vs := [_, _, _, _, _]) ag39 sz39 rfl rfl (by repeat first | exact hm1 | exact (List.mem_append_right _ hm1) | exact hm2 | exact (List.mem_append_right _ hm2) | exact hm3 | exact (List.mem_append_right _ hm3) | exact mH | apply mT) rfl) ?_
   refine Dr rfl rfl (r_load ag3 rfl rfl (by repeat first | exact hm1 | exact (List.mem_append_right _ hm1) | exact hm2 | exact (List.mem_append_right _ hm2) | exact hm3 | exact (List.mem_append_right _ hm3) | exact mH | apply mT) rfl) ?_
   refine Dp rfl rfl (p_func rfl rfl rfl) ?_
   refine Dr rfl rfl (r_load ag3 rfl rfl (by repeat first | exact hm1 | exact (List.mem_append_right _ hm1) | exact hm2 | exact (List.mem_append_right _ hm2) | exact hm3 | exact (List.mem_append_right _ hm3) | exact mH | apply mT) rfl) ?_
   refine D_wr2 rfl ?_ ?_
   ·refine (.go (E' := [(4, _)]) rfl (.plain rfl) (w_callG (pre := [_]) rfl rfl rfl rfl (fun w hg => pickOf_c t hG _ _ now (fun x => decide (x ≠ k)) _ _ w (hT.good hg) (fun x w' he => others11_c x k b1 _ _ w' (he.heap (hg.own (b1, _) (by repeat first | exact hm1 | exact (List.mem_append_right _ hm1) | exact hm2 | exact (List.mem_append_right _ hm2) | exact hm3 | exact (List.mem_append_right _ hm3) | exact mH | apply mT)))))) rfl ?_)
    rintro _ _ ⟨_, G, rfl, hfr, bp, bm, sv, clk, rfl, rfl, hgr⟩
    try simp only [List.cons_append, List.nil_append, List.append_nil]
    refine ⟨(.cons rfl (.plain rfl) (r_load ag3 rfl rfl (by repeat first | exact hm1 | exact (List.mem_append_right _ hm1) | exact hm2 | exact (List.mem_append_right _ hm2) | exact hm3 | exact (List.mem_append_right _ hm3) | exact mH | apply mT) rfl) .nil), ?_⟩
    refine D_wr2 rfl ?_ ?_
    ·refine (.go (E' := []) rfl (.plain rfl) (w_callM rfl rfl rfl (fun o' => (by repeat first | exact .head | apply SetAt.tail)) (fun w hg => box_c bp bm #[] clk t _ u hu w (PickR.own hg hG hT (hfr _ (.tail _ (.head _))) (by repeat first | exact hm1 | exact (List.mem_append_right _ hm1) | exact hm2 | exact (List.mem_append_right _ hm2) | exact hm3 | exact (List.mem_append_right _ hm3) | exact mH | apply mT) (by repeat first | exact hm1 | exact (List.mem_append_right _ hm1) | exact hm2 | exact (List.mem_append_right _ hm2) | exact hm3 | exact (List.mem_append_right _ hm3) | exact mH | apply mT) (fun p hp => by repeat first | exact hp | exact List.mem_append_left _ hp | apply List.mem_append_right | apply mT) hgr) (Cache.nil _ _) (hg.own (bm, _) (by repeat first | exact hm1 | exact (List.mem_append_right _ hm1) | exact hm2 | exact (List.mem_append_right _ hm2) | exact hm3 | exact (List.mem_append_right _ hm3) | exact mH | apply mT)))) rfl ?_)
     rintro _ _ ⟨_, rfl, rfl, es2, clk2, rfl, _⟩
     refine ⟨.nil, ?_⟩
     refine Dm rfl rfl rfl rfl ?_
     iterate 2 refine Dp rfl rfl (p_ext rfl rfl rfl) ?_
     refine D_wr (.go (E' := []) rfl (.plain rfl) (w_alloc zr28 rfl) rfl ?_)
     rintro _ _ ⟨b3, hb3, rfl, rfl⟩
     refine ⟨.nil, ?_⟩
     refine D_wr (.go (E' := []) rfl (.plain rfl) (ws (cs' := [_, _, _, _, _, _, _, _, _, _, _, _, _]) sz28 rfl rfl rfl rfl rfl rfl rfl) rfl ?_)
     rintro _ _ ⟨rfl, rfl⟩
     refine ⟨.nil, ?_⟩
     refine Dp rfl rfl (p_assign rfl rfl) ?_
     refine D_then (kp [0, 1, 2, 3, 5, 6, 7, 10, 11] rfl) ?_
     refine ⟨b3, trivial, (.cons rfl (.cons rfl (.cons rfl (.cons rfl (.cons rfl (.cons rfl (.cons rfl (.cons rfl (.cons rfl (.nil _)))))))))), (by (try dsimp only); repeat (first | exact HSub.nil _ | refine HSub.take (by repeat first | exact Take.head | apply Take.tail) ?_ | exact HSub.refl _ | refine HSub.drop ?_ | refine HSub.app ?_)), rfl⟩
    refine (.go (E' := [(4, _)]) rfl (.plain rfl) (w_alloc zr28 rfl) rfl ?_)
    rintro _ _ ⟨b3, hb3, rfl, rfl⟩
    refine ⟨(.cons rfl (.plain rfl) (r_load ag3 rfl rfl (by repeat first | exact hm1 | exact (List.mem_append_right _ hm1) | exact hm2 | exact (List.mem_append_right _ hm2) | exact hm3 | exact (List.mem_append_right _ hm3) | exact mH | apply mT) rfl) .nil), ?_⟩
    refine D_wr (.go (E' := []) rfl (.plain rfl) (w_callM rfl rfl rfl (fun o' => (by repeat first | exact .head | apply SetAt.tail)) (fun w hg => box_c bp bm #[] clk t _ u hu w (PickR.own hg hG hT (hfr _ (.tail _ (.head _))) (by repeat first | exact hm1 | exact (List.mem_append_right _ hm1) | exact hm2 | exact (List.mem_append_right _ hm2) | exact hm3 | exact (List.mem_append_right _ hm3) | exact mH | apply mT) (by repeat first | exact hm1 | exact (List.mem_append_right _ hm1) | exact hm2 | exact (List.mem_append_right _ hm2) | exact hm3 | exact (List.mem_append_right _ hm3) | exact mH | apply mT) (fun p hp => by repeat first | exact hp | exact List.mem_append_left _ hp | apply List.mem_append_right | apply mT) hgr) (Cache.nil _ _) (hg.own (bm, _) (by repeat first | exact hm1 | exact (List.mem_append_right _ hm1) | exact hm2 | exact (List.mem_append_right _ hm2) | exact hm3 | exact (List.mem_append_right _ hm3) | exact mH | apply mT)))) rfl ?_)
    rintro _ _ ⟨_, rfl, rfl, es2, clk2, rfl, _⟩
    refine ⟨.nil, ?_⟩
    refine Dm rfl rfl rfl rfl ?_
    iterate 2 refine Dp rfl rfl (p_ext rfl rfl rfl) ?_
    refine D_wr (.go (E' := []) rfl (.plain rfl) (ws (cs' := [_, _, _, _, _, _, _, _, _, _, _, _, _]) sz28 rfl rfl rfl rfl rfl rfl rfl) rfl ?_)
    rintro _ _ ⟨rfl, rfl⟩
    refine ⟨.nil, ?_⟩
    refine Dp rfl rfl (p_assign rfl rfl) ?_
    refine D_then (kp [0, 1, 2, 3, 5, 6, 7, 10, 11] rfl) ?_
    refine ⟨b3, trivial, (.cons rfl (.cons rfl (.cons rfl (.cons rfl (.cons rfl (.cons rfl (.cons rfl (.cons rfl (.cons rfl (.nil _)))))))))), (by (try dsimp only); repeat (first | exact HSub.nil _ | refine HSub.take (by repeat first | exact Take.head | apply Take.tail) ?_ | exact HSub.refl _ | refine HSub.drop ?_ | refine HSub.app ?_)), rfl⟩
   refine (.go (E' := [(4, _), (1, _), (0, _)]) rfl (.plain rfl) (w_alloc zr28 rfl) rfl ?_)
   rintro _ _ ⟨b2, hb2, rfl, rfl⟩
   refine ⟨(.cons rfl (.plain rfl) (r_load ag3 rfl rfl (by repeat first | exact hm1 | exact (List.mem_append_right _ hm1) | exact hm2 | exact (List.mem_append_right _ hm2) | exact hm3 | exact (List.mem_append_right _ hm3) | exact mH | apply mT) rfl) (.cons rfl (.plain rfl) (r_load ag3 rfl rfl (by repeat first | exact hm1 | exact (List.mem_append_right _ hm1) | exact hm2 | exact (List.mem_append_right _ hm2) | exact hm3 | exact (List.mem_append_right _ hm3) | exact mH | apply mT) rfl) (.cons rfl (.plain rfl) (r_loadA (vs := [_, _, _, _, _]) ag39 sz39 rfl rfl (by repeat first | exact hm1 | exact (List.mem_append_right _ hm1) | exact hm2 | exact (List.mem_append_right _ hm2) | exact hm3 | exact (List.mem_append_right _ hm3) | exact mH | apply mT) rfl) .nil))), ?_⟩
   refine D_wr (.go (E' := [(4, _)]) rfl (.plain rfl) (w_callG (pre := [_, _]) rfl rfl rfl rfl (fun w hg => pickOf_c t hG _ _ now (fun x => decide (x ≠ k)) _ _ w (hT.good hg) (fun x w' he => others11_c x k b1 _ _ w' (he.heap (hg.own (b1, _) (by repeat first | exact hm1 | exact (List.mem_append_right _ hm1) | exact hm2 | exact (List.mem_append_right _ hm2) | exact hm3 | exact (List.mem_append_right _ hm3) | exact mH | apply mT)))))) rfl ?_)
   rintro _ _ ⟨_, G, rfl, hfr, bp, bm, sv, clk, rfl, rfl, hgr⟩
   try simp only [List.cons_append, List.nil_append, List.append_nil]
   refine ⟨(.cons rfl (.plain rfl) (r_load ag3 rfl rfl (by repeat first | exact hm1 | exact (List.mem_append_right _ hm1) | exact hm2 | exact (List.mem_append_right _ hm2) | exact hm3 | exact (List.mem_append_right _ hm3) | exact mH | apply mT) rfl) .nil), ?_⟩
   refine D_wr (.go (E' := []) rfl (.plain rfl) (w_callM rfl rfl rfl (fun o' => (by repeat first | exact .head | apply SetAt.tail)) (fun w hg => box_c bp bm #[] clk t _ u hu w (PickR.own hg hG hT (hfr _ (.tail _ (.head _))) (by repeat first | exact hm1 | exact (List.mem_append_right _ hm1) | exact hm2 | exact (List.mem_append_right _ hm2) | exact hm3 | exact (List.mem_append_right _ hm3) | exact mH | apply mT) (by repeat first | exact hm1 | exact (List.mem_append_right _ hm1) | exact hm2 | exact (List.mem_append_right _ hm2) | exact hm3 | exact (List.mem_append_right _ hm3) | exact mH | apply mT) (fun p hp => by repeat first | exact hp | exact List.mem_append_left _ hp | apply List.mem_append_right | apply mT) hgr) (Cache.nil _ _) (hg.own (bm, _) (by repeat first | exact hm1 | exact (List.mem_append_right _ hm1) | exact hm2 | exact (List.mem_append_right _ hm2) | exact hm3 | exact (List.mem_append_right _ hm3) | exact mH | apply mT)))) rfl ?_)
   rintro _ _ ⟨_, rfl, rfl, es2, clk2, rfl, _⟩
   refine ⟨.nil, ?_⟩
   refine Dm rfl rfl rfl rfl ?_
   iterate 2 refine Dp rfl rfl (p_ext rfl rfl rfl) ?_
   refine D_wr (.go (E' := []) rfl (.plain rfl) (ws (cs' := [_, _, _, _, _, _, _, _, _, _, _, _, _]) sz28 rfl rfl rfl rfl rfl rfl rfl) rfl ?_)
   rintro _ _ ⟨rfl, rfl⟩
   refine ⟨.nil, ?_⟩
   refine Dp rfl rfl (p_assign rfl rfl) ?_
   refine D_then (kp [0, 1, 2, 3, 5, 6, 7, 10, 11] rfl) ?_
   refine ⟨b2, trivial, (.cons rfl (.cons rfl (.cons rfl (.cons rfl (.cons rfl (.cons rfl (.cons rfl (.cons rfl (.cons rfl (.nil _)))))))))), (by (try dsimp only); repeat (first | exact HSub.nil _ | refine HSub.take (by repeat first | exact Take.head | apply Take.tail) ?_ | exact HSub.refl _ | refine HSub.drop ?_ | refine HSub.app ?_)), rfl⟩
  rintro x6 _
  refine Vs rfl ?_
  iterate 2 refine Lm rfl rfl rfl ?_
  refine L_cases (d := 24) rfl ?_ ?_
  ·intro g1; have g1' := g1; try simp only [td] at g1'
   refine L_yes rfl rfl rfl g1 (X_p (p_move rfl rfl) ?_)
   refine L_yes rfl rfl rfl g1 (X_rd (r_load ag3 rfl rfl (by repeat first | exact hm1 | exact (List.mem_append_right _ hm1) | exact hm2 | exact (List.mem_append_right _ hm2) | exact hm3 | exact (List.mem_append_right _ hm3) | exact mH | apply mT) rfl) ?_)
   refine L_yes rfl rfl rfl g1 (X_rd (r_loadA (vs := [_, _, _, _, _, _, _, _, _, _, _, _, _]) ag28 sz28 rfl rfl (by repeat first | exact hm1 | exact (List.mem_append_right _ hm1) | exact hm2 | exact (List.mem_append_right _ hm2) | exact hm3 | exact (List.mem_append_right _ hm3) | exact mH | apply mT) rfl) ?_)
   refine L_yes rfl rfl rfl g1 (X_wr (w_yield (own := [_, _]) rfl rfl rfl hY ⟨Nat.lt_of_le_of_lt othersV_len (by omega), (k, (boxT t (byT t now (fun x => decide (x ≠ k))) u).getD boxZ), rfl⟩ hik rfl) ?_)
   rintro _ _ ⟨Hs1, rfl, rfl, hI1⟩; obtain ⟨hm1, hm2, hm3⟩ := hI _ _ hI1
   refine L_yes rfl rfl rfl g1 (X_p (p_not rfl rfl) ?_)
   refine Lp rfl (p_pick_t rfl rfl g1 rfl) ?_
   refine L_then (kp [0, 1, 2, 3, 10, 11, 30] rfl) ?_
   refine V_cond_f rfl rfl ?_
   refine V_skip (blk_n (then_n ?_))
   refine V_region rfl ?_
   first | refine Lp rfl (p_add' rfl rfl rfl (by unfold InI; omega)) ?_ | refine Lp rfl (p_add rfl rfl rfl) ?_
   refine Lm rfl rfl rfl ?_
   refine L_keep (kp [0, 1, 2, 3, 10, 11] rfl) (then_n ?_)
   refine ⟨(k + 1, Hs1), ?_, ?_, (.cons rfl (.cons rfl (.cons rfl (.cons rfl (.cons rfl (.cons rfl (.nil _))))))), (by repeat (first | exact List.Sublist.refl _ | apply List.Sublist.cons_cons | apply List.Sublist.cons | apply List.sublist_append_of_sublist_right)), rfl⟩
   ·refine ⟨by omega, by omega, ?_⟩
    rw [othersV_yes hk0 (isSome_get g1), List.map_append]; exact hI1
   dsimp only; omega
  intro g1; have g1' := g1; try simp only [td] at g1'
  iterate 5 refine L_no rfl rfl rfl g1 ?_
  refine Lp rfl (p_pick_f rfl rfl g1 rfl) ?_
  refine L_then (kp [0, 1, 2, 3, 10, 11, 30] rfl) ?_
  refine V_cond_f rfl rfl ?_
  refine V_skip (blk_n (then_n ?_))
  refine V_region rfl ?_
  first | refine Lp rfl (p_add' rfl rfl rfl (by unfold InI; omega)) ?_ | refine Lp rfl (p_add rfl rfl rfl) ?_
  refine Lm rfl rfl rfl ?_
  refine L_keep (kp [0, 1, 2, 3, 10, 11] rfl) (then_n ?_)
  refine ⟨(k + 1, Hs), ?_, ?_, (.cons rfl (.cons rfl (.cons rfl (.cons rfl (.cons rfl (.cons rfl (.nil _))))))), (by repeat (first | exact List.Sublist.refl _ | apply List.Sublist.cons_cons | apply List.Sublist.cons | apply List.sublist_append_of_sublist_right)), rfl⟩
  ·refine ⟨by omega, by omega, ?_⟩
   rw [othersV_no hk0 (isSome_none g1)]; exact hik
  dsimp only; omega
 intro c1; try simp only [td] at c1
 refine V_exit (then_e (then_e (blk_e rfl ?_)))
 refine Leave.nil .nil ?_
 have e : k.toNat = t.trackers.length := by omega
 rw [e] at hik
 exact ⟨Hs, HSub.refl _, hik⟩

end Go.Proofs.YtlcccpeelombbaaGreatDoor

/- YtlcccpeelombbaaGreatDoor: spare boxes. -/
set_option linter.all false
namespace Go.Proofs.YtlcccpeelombbaaGreatDoor
open Go.Vc Go.Tk
set_option maxRecDepth 100000
theorem all_c (x : Int) (w : World) : FnP Tryz.prog 113 [.int .i64 x] w (.bool true) := by
 refine fn_pure Tryz.func113 rfl (by kernel_rfl) Tryz.ntmps113 Tryz.results113 rfl ?_
 refine Vs rfl ?_
 refine La rfl rfl rfl ?_
 refine L_then .nil ?_
 refine Vs rfl ?_
 refine La rfl rfl rfl ?_
 refine L_then (kp [2] rfl) ?_
 refine V_ret ?_
 refine Leave.nil (.tmp rfl .nil) ?_
 rfl
set_option maxHeartbeats 4000000 in
theorem spare_c (t : Task) (hG : GoodT t) (tv pv : Value) (u now : Int) (hu : 0 ≤ u ∧ u ≤ 100000) (w : World) (ht : TaskR w (.agg #[.int .i64 t.frm, .int .i64 t.speed, .int .i64 t.accel, tv, pv]) t) : FnP Tryz.prog 100 [.agg #[.int .i64 t.frm, .int .i64 t.speed, .int .i64 t.accel, tv, pv], .int .i64 u, .int .i64 now] w (boxV (spareT t u now)) := by
 have hT := ht
 obtain ⟨_, _, _, htr, hpl⟩ := ht.lit
 obtain ⟨ta, tc, rfl, htc, hte⟩ := htr.ex
 have htl := hG.h1
 simp only [List.length_map] at hT htc htr ⊢
 refine fn_pure Tryz.func100 rfl (by kernel_rfl) Tryz.ntmps100 Tryz.results100 rfl ?_
 refine Vs rfl ?_
 refine Lw rfl (w_box rfl rfl) ?_
 rintro _ _ ⟨b1, hb1, rfl, rfl⟩
 refine Lw rfl (w_alloc zr28 rfl) ?_
 rintro _ _ ⟨b2, hb2, rfl, rfl⟩
 refine Lw rfl (w_alloc zr4 rfl) ?_
 rintro _ _ ⟨b3, hb3, rfl, rfl⟩
 refine L_then (kp [1, 2, 3, 6, 7] rfl) ?_
 refine V_seq ?_
 refine Vs rfl ?_
 refine Lp rfl (p_fieldo fo39_3 rfl rfl) ?_
 refine Lr rfl (rl ag36 rfl rfl rfl) ?_
 refine Lp rfl (p_len isl36 rfl rfl) ?_
 refine Lp rfl (p_eql rfl rfl rfl) ?_
 refine L_then (kp [1, 2, 3, 6, 7, 16] rfl) ?_
 refine V_cond rfl ?_ ?_
 ·intro c1; try simp only [td] at c1
  refine Vs rfl ?_
  refine Lr rfl (rlA (vs := [_, _, _, _, _]) ag39 sz39 rfl rfl rfl) ?_
  refine Lm rfl rfl rfl ?_
  refine Lw rfl (w_callG (pre := [_, _, _]) (post := []) rfl rfl rfl (by rw [List.append_nil]) (fun w hg => pickOf_c t hG _ _ now (fun _ => true) _ _ w (hT.good hg) (fun x w' he => all_c x w'))) ?_
  rintro _ _ ⟨_, G, rfl, hfr, bp, bm, sv, clk, rfl, rfl, hgr⟩
  try simp only [List.cons_append, List.nil_append, List.append_nil]
  refine Lm rfl rfl rfl ?_
  refine Lw rfl (w_callM rfl rfl rfl (fun o' => (by repeat first | exact .head | apply SetAt.tail)) (fun w hg => box_c bp bm #[] clk t _ u hu w (PickR.own hg hG hT (hfr _ (.tail _ (.head _))) (by repeat first | exact mH | apply mT) (by repeat first | exact mH | apply mT) (fun p hp => by repeat first | exact hp | exact List.mem_append_left _ hp | apply List.mem_append_right | apply mT) hgr) (Cache.nil _ _) (hg.own (bm, _) (by repeat first | exact mH | apply mT)))) ?_
  rintro _ _ ⟨_, rfl, rfl, es2, clk2, rfl, _⟩
  iterate 2 refine Lp rfl (p_ext rfl rfl rfl) ?_
  refine Ls (cs' := [_, _, _, _, _, _, _, _, _, _, _, _, _]) rfl sz28 rfl rfl rfl rfl rfl rfl rfl ?_
  refine Ls (cs' := [_]) rfl sz4 rfl rfl rfl rfl rfl rfl rfl ?_
  refine L_then (kp [6, 7] rfl) ?_
  refine V_ret (then_r ?_)
  refine Leave.nil (.cellA (us := [_, _, _, _, _, _, _, _, _, _, _, _, _]) rfl ag28 sz28 (by repeat first | exact mH | apply mT) rfl (.cell rfl ag4 (by repeat first | exact mH | apply mT) rfl .nil)) ?_
  have e : spareT t u now = boxT t (byT t now fun _ => true) u := if_pos (by omega)
  rw [e]; rfl
 intro c1; try simp only [td] at c1
 refine V_skip (then_n ?_)
 refine V_seq ?_
 refine Vs rfl ?_
 refine Lr rfl (rlA (vs := [_, _, _, _, _]) ag39 sz39 rfl rfl rfl) ?_
 iterate 2 refine Lm rfl rfl rfl ?_
 refine Lw rfl (w_callN rfl rfl rfl (fun w hg => others_c t _ _ u now w)) ?_
 rintro _ _ ⟨_, rfl, _, y1, y2, y3, rfl, rfl⟩
 refine L_then (kp [6, 7, 27] rfl) ?_
 refine V_block ?_
 refine V_range (L := (othersV t u now t.trackers.length).map ov) rfl (kp [6, 7, 27] rfl) rfl rfl (fun done x => done.length < t.trackers.length ∧ ∃ p : Int × Box, x = ov p) (fun done Hs => ∃ qs : List (Int × Box), done = qs.map ov ∧ Hs = (y2, .cells #[.int .i64 now] 3) :: (y3, .cells #[.int .i64 u] 3) :: (y1, t.obj (.slice ta t.trackers.length tc) pv 39) :: (b3, .cells #[.bool (foldB qs).isSome] 4) :: (b2, .cells (Box.cells ((foldB qs).getD boxZ)).toArray 28) :: (b1, t.obj (.slice ta t.trackers.length tc) pv 39) :: []) (by rintro done vs ⟨_, p, rfl⟩; rfl) (by repeat (first | exact List.Sublist.refl _ | apply List.Sublist.cons_cons | apply List.Sublist.cons)) (⟨[], rfl, rfl⟩) ?_ ?_ ?_
 ·intro l1 D1 r1 done vs Hr own hp hJ
  obtain ⟨hdl, p, rfl⟩ := hp
  obtain ⟨qs, rfl, rfl⟩ := hJ
  have hsn := foldB_snoc qs p
  generalize foldB qs = acc at hsn
  refine V_region rfl ?_
  refine Lw rfl (w_alloc zr28 rfl) ?_
  rintro _ _ ⟨b5, hb5, rfl, rfl⟩
  refine Ls (cs' := [_, _, _, _, _, _, _, _, _, _, _, _, _]) rfl sz28 rfl rfl rfl rfl rfl rfl rfl ?_
  refine L_keep (kp [6, 7, 9, 27] rfl) ?_
  refine asgI (by repeat first | exact .head | apply SetAt.tail) ?_
  refine V_block ?_
  refine V_seq ?_
  refine Vs rfl ?_
  refine Lr rfl (rl ag4 rfl rfl rfl) ?_
  refine Lp rfl (p_not rfl rfl) ?_
  refine L_then (kp [6, 7, 9, 31] rfl) ?_
  refine V_cond rfl ?_ ?_
  ·intro c2; try simp only [td] at c2
   refine Vs rfl ?_
   refine Lr rfl (rlA (vs := [_, _, _, _, _, _, _, _, _, _, _, _, _]) ag28 sz28 rfl rfl rfl) ?_
   refine Ls (cs' := [_, _, _, _, _, _, _, _, _, _, _, _, _]) rfl sz28 rfl rfl rfl rfl rfl rfl rfl ?_
   refine Ls (cs' := [_]) rfl sz4 rfl rfl rfl rfl rfl rfl rfl ?_
   refine L_then .nil ?_
   refine V_exit (then_e (blk_e rfl ?_))
   refine endI (by repeat first | exact .head | apply SetAt.tail) ?_
   refine ⟨(y2, .cells #[.int .i64 now] 3) :: (y3, .cells #[.int .i64 u] 3) :: (y1, t.obj (.slice ta t.trackers.length tc) pv 39) :: (b3, .cells #[.bool true] 4) :: (b2, .cells (Box.cells p.2).toArray 28) :: (b1, t.obj (.slice ta t.trackers.length tc) pv 39) :: [], (by (try dsimp only); repeat (first | exact HSub.nil _ | refine HSub.take (by repeat first | exact Take.head | apply Take.tail) ?_ | exact HSub.refl _ | refine HSub.drop ?_ | refine HSub.app ?_)), ?_⟩
   have e : acc = none := isSome_none c2
   subst e
   refine ⟨qs ++ [p], by rw [List.map_append]; rfl, ?_⟩
   rw [hsn]; rfl
  intro c2; try simp only [td] at c2
  refine V_skip (then_n ?_)
  refine Vs rfl ?_
  refine Lc rfl rfl rfl rfl (fun w hg => parts_c b2 w) ?_
  refine Lw rfl (w_alloc zr93 rfl) ?_
  rintro _ _ ⟨b6, hb6, rfl, rfl⟩
  refine Ls (cs' := [_, _, _, _, _, _]) rfl sz93 rfl rfl rfl rfl rfl rfl rfl ?_
  refine L_then (kp [9, 10] rfl) ?_
  refine Vs rfl ?_
  refine Lc rfl rfl rfl rfl (fun w hg => parts_c b5 w) ?_
  refine Lm rfl rfl rfl ?_
  refine L_then (kp [10, 34, 35] rfl) ?_
  refine V_block ?_
  refine V_loopU ?_
  refine LU_step ?_
  refine Vs rfl ?_
  refine Lp rfl (p_lss rfl rfl rfl) ?_
  refine L_then (kp [10, 34, 35, 36] rfl) ?_
  refine V_seq ?_
  refine V_cond_t rfl rfl ?_
  refine V_skip (then_n ?_)
  refine V_seq ?_
  refine V_block ?_
  refine Vs rfl ?_
  refine Lm rfl rfl rfl ?_
  refine Lp rfl (p_at un93 ag92 sz92 rfl rfl rfl (by omega) (by omega) rfl) ?_
  iterate 2 refine La rfl rfl rfl ?_
  refine L_then (kp [10, 11, 12, 34, 35] rfl) ?_
  refine V_draw (.rd 0 (.rd 1 (.rd 2 (.rd 3 (.rd 4 (.rd 5 (.rd 6 (.rd 7 (.rd 8 (.rd 9 (.rd 10 (.rd 11 (.rd 12 (.rd 13 (.rd 14 (.rd 15 (.rd 16 (.rd 17 (.rd 18 (.rd 19 (.rd 20 (.rd 21 (.rd 22 (.rd 23 (.rd 24 (.rd 25 (.rd 26 (.rd 27 (.rd 28 (.rd 29 (.wr 30 [28, 27, 25, 24, 23, 21, 20, 19, 18, 17, 5, 4, 3] (.rd 31 (.rd 32 (.wr 33 [31] .done)))))))))))))))))))))))))))))))))) mixed (by kernel_rfl) rfl ?_
  refine Dm rfl rfl rfl rfl ?_
  refine Dp rfl rfl (p_idxao ar93 rfl rfl rfl (by omega) (by omega)) ?_
  refine Dr rfl rfl (rl ag92 rfl rfl rfl) ?_
  refine Dm rfl rfl rfl rfl ?_
  refine Dp rfl rfl (p_idxao ar93 rfl rfl rfl (by omega) (by omega)) ?_
  refine Dr rfl rfl (rl ag92 rfl rfl rfl) ?_
  refine Dm rfl rfl rfl rfl ?_
  refine Dp rfl rfl (p_idxao ar93 rfl rfl rfl (by omega) (by omega)) ?_
  refine Dr rfl rfl (rl ag92 rfl rfl rfl) ?_
  refine Dp rfl rfl (p_nil rfl rfl) ?_
  refine Dp rfl rfl (p_fieldo fo24_0 rfl rfl) ?_
  refine Dr rfl rfl (rl ag3 rfl rfl rfl) ?_
  refine Dm rfl rfl rfl rfl ?_
  refine Dp rfl rfl (p_nil rfl rfl) ?_
  refine Dp rfl rfl (p_fieldo fo24_0 rfl rfl) ?_
  refine Dr rfl rfl (rl ag3 rfl rfl rfl) ?_
  refine Dp rfl rfl (p_min rfl rfl rfl) ?_
  refine Dm rfl rfl rfl rfl ?_
  refine Dp rfl rfl (p_idxao ar93 rfl rfl rfl (by omega) (by omega)) ?_
  refine Dr rfl rfl (rl ag92 rfl rfl rfl) ?_
  refine Dp rfl rfl (p_nil rfl rfl) ?_
  refine Dp rfl rfl (p_fieldo fo24_1 rfl rfl) ?_
  refine Dr rfl rfl (rl ag3 rfl rfl rfl) ?_
  refine Dm rfl rfl rfl rfl ?_
  refine Dp rfl rfl (p_nil rfl rfl) ?_
  refine Dp rfl rfl (p_fieldo fo24_1 rfl rfl) ?_
  refine Dr rfl rfl (rl ag3 rfl rfl rfl) ?_
  refine Dp rfl rfl (p_max rfl rfl rfl) ?_
  refine Dp rfl rfl (p_nil rfl rfl) ?_
  refine Dp rfl rfl (p_fieldo fo24_0 rfl rfl) ?_
  refine D_wr (.go (E' := [(19, _), (5, _)]) rfl (.plain rfl) (ws (cs' := [_, _, _, _, _, _, _, _, _, _, _, _, _]) sz3 rfl rfl rfl rfl rfl rfl rfl) rfl ?_)
  rintro _ _ ⟨rfl, rfl⟩
  refine ⟨(.cons rfl (.plain rfl) (rl ag92 rfl rfl rfl) (.cons rfl (.plain rfl) (rl ag92 rfl rfl rfl) .nil)), ?_⟩
  refine Dp rfl rfl (p_nil rfl rfl) ?_
  refine Dp rfl rfl (p_fieldo fo24_1 rfl rfl) ?_
  refine D_wr (.go (E' := []) rfl (.plain rfl) (ws (cs' := [_, _, _, _, _, _, _, _, _, _, _, _, _]) sz3 rfl rfl rfl rfl rfl rfl rfl) rfl ?_)
  rintro _ _ ⟨rfl, rfl⟩
  refine ⟨.nil, ?_⟩
  refine D_keep (kp [10, 34, 35] rfl) (blk_n (then_n ?_))
  refine V_region rfl ?_
  first | refine Lp rfl (p_add' rfl rfl rfl (by unfold InI; omega)) ?_ | refine Lp rfl (p_add rfl rfl rfl) ?_
  refine Lm rfl rfl rfl ?_
  refine L_keep (kp [10, 34, 35] rfl) (then_n ?_)
  refine LU_step ?_
  refine Vs rfl ?_
  refine Lp rfl (p_lss rfl rfl rfl) ?_
  refine L_then (kp [10, 34, 35, 36] rfl) ?_
  refine V_seq ?_
  refine V_cond_t rfl rfl ?_
  refine V_skip (then_n ?_)
  refine V_seq ?_
  refine V_block ?_
  refine Vs rfl ?_
  refine Lm rfl rfl rfl ?_
  refine Lp rfl (p_at un93 ag92 sz92 rfl rfl rfl (by omega) (by omega) rfl) ?_
  iterate 2 refine La rfl rfl rfl ?_
  refine L_then (kp [10, 11, 12, 34, 35] rfl) ?_
  refine V_draw (.rd 0 (.rd 1 (.rd 2 (.rd 3 (.rd 4 (.rd 5 (.rd 6 (.rd 7 (.rd 8 (.rd 9 (.rd 10 (.rd 11 (.rd 12 (.rd 13 (.rd 14 (.rd 15 (.rd 16 (.rd 17 (.rd 18 (.rd 19 (.rd 20 (.rd 21 (.rd 22 (.rd 23 (.rd 24 (.rd 25 (.rd 26 (.rd 27 (.rd 28 (.rd 29 (.wr 30 [28, 27, 25, 24, 23, 21, 20, 19, 18, 17, 5, 4, 3] (.rd 31 (.rd 32 (.wr 33 [31] .done)))))))))))))))))))))))))))))))))) mixed (by kernel_rfl) rfl ?_
  refine Dm rfl rfl rfl rfl ?_
  refine Dp rfl rfl (p_idxao ar93 rfl rfl rfl (by omega) (by omega)) ?_
  refine Dr rfl rfl (rl ag92 rfl rfl rfl) ?_
  refine Dm rfl rfl rfl rfl ?_
  refine Dp rfl rfl (p_idxao ar93 rfl rfl rfl (by omega) (by omega)) ?_
  refine Dr rfl rfl (rl ag92 rfl rfl rfl) ?_
  refine Dm rfl rfl rfl rfl ?_
  refine Dp rfl rfl (p_idxao ar93 rfl rfl rfl (by omega) (by omega)) ?_
  refine Dr rfl rfl (rl ag92 rfl rfl rfl) ?_
  refine Dp rfl rfl (p_nil rfl rfl) ?_
  refine Dp rfl rfl (p_fieldo fo24_0 rfl rfl) ?_
  refine Dr rfl rfl (rl ag3 rfl rfl rfl) ?_
  refine Dm rfl rfl rfl rfl ?_
  refine Dp rfl rfl (p_nil rfl rfl) ?_
  refine Dp rfl rfl (p_fieldo fo24_0 rfl rfl) ?_
  refine Dr rfl rfl (rl ag3 rfl rfl rfl) ?_
  refine Dp rfl rfl (p_min rfl rfl rfl) ?_
  refine Dm rfl rfl rfl rfl ?_
  refine Dp rfl rfl (p_idxao ar93 rfl rfl rfl (by omega) (by omega)) ?_
  refine Dr rfl rfl (rl ag92 rfl rfl rfl) ?_
  refine Dp rfl rfl (p_nil rfl rfl) ?_
  refine Dp rfl rfl (p_fieldo fo24_1 rfl rfl) ?_
  refine Dr rfl rfl (rl ag3 rfl rfl rfl) ?_
  refine Dm rfl rfl rfl rfl ?_
  refine Dp rfl rfl (p_nil rfl rfl) ?_
  refine Dp rfl rfl (p_fieldo fo24_1 rfl rfl) ?_
  refine Dr rfl rfl (rl ag3 rfl rfl rfl) ?_
  refine Dp rfl rfl (p_max rfl rfl rfl) ?_
  refine Dp rfl rfl (p_nil rfl rfl) ?_
  refine Dp rfl rfl (p_fieldo fo24_0 rfl rfl) ?_
  refine D_wr (.go (E' := [(19, _), (5, _)]) rfl (.plain rfl) (ws (cs' := [_, _, _, _, _, _, _, _, _, _, _, _, _]) sz3 rfl rfl rfl rfl rfl rfl rfl) rfl ?_)
  rintro _ _ ⟨rfl, rfl⟩
  refine ⟨(.cons rfl (.plain rfl) (rl ag92 rfl rfl rfl) (.cons rfl (.plain rfl) (rl ag92 rfl rfl rfl) .nil)), ?_⟩
  refine Dp rfl rfl (p_nil rfl rfl) ?_
  refine Dp rfl rfl (p_fieldo fo24_1 rfl rfl) ?_
  refine D_wr (.go (E' := []) rfl (.plain rfl) (ws (cs' := [_, _, _, _, _, _, _, _, _, _, _, _, _]) sz3 rfl rfl rfl rfl rfl rfl rfl) rfl ?_)
  rintro _ _ ⟨rfl, rfl⟩
  refine ⟨.nil, ?_⟩
  refine D_keep (kp [10, 34, 35] rfl) (blk_n (then_n ?_))
  refine V_region rfl ?_
  first | refine Lp rfl (p_add' rfl rfl rfl (by unfold InI; omega)) ?_ | refine Lp rfl (p_add rfl rfl rfl) ?_
  refine Lm rfl rfl rfl ?_
  refine L_keep (kp [10, 34, 35] rfl) (then_n ?_)
  refine LU_step ?_
  refine Vs rfl ?_
  refine Lp rfl (p_lss rfl rfl rfl) ?_
  refine L_then (kp [10, 34, 35, 36] rfl) ?_
  refine V_seq ?_
  refine V_cond_t rfl rfl ?_
  refine V_skip (then_n ?_)
  refine V_seq ?_
  refine V_block ?_
  refine Vs rfl ?_
  refine Lm rfl rfl rfl ?_
  refine Lp rfl (p_at un93 ag92 sz92 rfl rfl rfl (by omega) (by omega) rfl) ?_
  iterate 2 refine La rfl rfl rfl ?_
  refine L_then (kp [10, 11, 12, 34, 35] rfl) ?_
  refine V_draw (.rd 0 (.rd 1 (.rd 2 (.rd 3 (.rd 4 (.rd 5 (.rd 6 (.rd 7 (.rd 8 (.rd 9 (.rd 10 (.rd 11 (.rd 12 (.rd 13 (.rd 14 (.rd 15 (.rd 16 (.rd 17 (.rd 18 (.rd 19 (.rd 20 (.rd 21 (.rd 22 (.rd 23 (.rd 24 (.rd 25 (.rd 26 (.rd 27 (.rd 28 (.rd 29 (.wr 30 [28, 27, 25, 24, 23, 21, 20, 19, 18, 17, 5, 4, 3] (.rd 31 (.rd 32 (.wr 33 [31] .done)))))))))))))))))))))))))))))))))) mixed (by kernel_rfl) rfl ?_
  refine Dm rfl rfl rfl rfl ?_
  refine Dp rfl rfl (p_idxao ar93 rfl rfl rfl (by omega) (by omega)) ?_
  refine Dr rfl rfl (rl ag92 rfl rfl rfl) ?_
  refine Dm rfl rfl rfl rfl ?_
  refine Dp rfl rfl (p_idxao ar93 rfl rfl rfl (by omega) (by omega)) ?_
  refine Dr rfl rfl (rl ag92 rfl rfl rfl) ?_
  refine Dm rfl rfl rfl rfl ?_
  refine Dp rfl rfl (p_idxao ar93 rfl rfl rfl (by omega) (by omega)) ?_
  refine Dr rfl rfl (rl ag92 rfl rfl rfl) ?_
  refine Dp rfl rfl (p_nil rfl rfl) ?_
  refine Dp rfl rfl (p_fieldo fo24_0 rfl rfl) ?_
  refine Dr rfl rfl (rl ag3 rfl rfl rfl) ?_
  refine Dm rfl rfl rfl rfl ?_
  refine Dp rfl rfl (p_nil rfl rfl) ?_
  refine Dp rfl rfl (p_fieldo fo24_0 rfl rfl) ?_
  refine Dr rfl rfl (rl ag3 rfl rfl rfl) ?_
  refine Dp rfl rfl (p_min rfl rfl rfl) ?_
  refine Dm rfl rfl rfl rfl ?_
  refine Dp rfl rfl (p_idxao ar93 rfl rfl rfl (by omega) (by omega)) ?_
  refine Dr rfl rfl (rl ag92 rfl rfl rfl) ?_
  refine Dp rfl rfl (p_nil rfl rfl) ?_
  refine Dp rfl rfl (p_fieldo fo24_1 rfl rfl) ?_
  refine Dr rfl rfl (rl ag3 rfl rfl rfl) ?_
  refine Dm rfl rfl rfl rfl ?_
  refine Dp rfl rfl (p_nil rfl rfl) ?_
  refine Dp rfl rfl (p_fieldo fo24_1 rfl rfl) ?_
  refine Dr rfl rfl (rl ag3 rfl rfl rfl) ?_
  refine Dp rfl rfl (p_max rfl rfl rfl) ?_
  refine Dp rfl rfl (p_nil rfl rfl) ?_
  refine Dp rfl rfl (p_fieldo fo24_0 rfl rfl) ?_
  refine D_wr (.go (E' := [(19, _), (5, _)]) rfl (.plain rfl) (ws (cs' := [_, _, _, _, _, _, _, _, _, _, _, _, _]) sz3 rfl rfl rfl rfl rfl rfl rfl) rfl ?_)
  rintro _ _ ⟨rfl, rfl⟩
  refine ⟨(.cons rfl (.plain rfl) (rl ag92 rfl rfl rfl) (.cons rfl (.plain rfl) (rl ag92 rfl rfl rfl) .nil)), ?_⟩
  refine Dp rfl rfl (p_nil rfl rfl) ?_
  refine Dp rfl rfl (p_fieldo fo24_1 rfl rfl) ?_
  refine D_wr (.go (E' := []) rfl (.plain rfl) (ws (cs' := [_, _, _, _, _, _, _, _, _, _, _, _, _]) sz3 rfl rfl rfl rfl rfl rfl rfl) rfl ?_)
  rintro _ _ ⟨rfl, rfl⟩
  refine ⟨.nil, ?_⟩
  refine D_keep (kp [10, 34, 35] rfl) (blk_n (then_n ?_))
  refine V_region rfl ?_
  first | refine Lp rfl (p_add' rfl rfl rfl (by unfold InI; omega)) ?_ | refine Lp rfl (p_add rfl rfl rfl) ?_
  refine Lm rfl rfl rfl ?_
  refine L_keep (kp [10, 34, 35] rfl) (then_n ?_)
  refine LU_step ?_
  refine Vs rfl ?_
  refine Lp rfl (p_lss rfl rfl rfl) ?_
  refine L_then (kp [10, 34, 35, 36] rfl) ?_
  refine V_seq ?_
  refine V_cond_t rfl rfl ?_
  refine V_skip (then_n ?_)
  refine V_seq ?_
  refine V_block ?_
  refine Vs rfl ?_
  refine Lm rfl rfl rfl ?_
  refine Lp rfl (p_at un93 ag92 sz92 rfl rfl rfl (by omega) (by omega) rfl) ?_
  iterate 2 refine La rfl rfl rfl ?_
  refine L_then (kp [10, 11, 12, 34, 35] rfl) ?_
  refine V_draw (.rd 0 (.rd 1 (.rd 2 (.rd 3 (.rd 4 (.rd 5 (.rd 6 (.rd 7 (.rd 8 (.rd 9 (.rd 10 (.rd 11 (.rd 12 (.rd 13 (.rd 14 (.rd 15 (.rd 16 (.rd 17 (.rd 18 (.rd 19 (.rd 20 (.rd 21 (.rd 22 (.rd 23 (.rd 24 (.rd 25 (.rd 26 (.rd 27 (.rd 28 (.rd 29 (.wr 30 [28, 27, 25, 24, 23, 21, 20, 19, 18, 17, 5, 4, 3] (.rd 31 (.rd 32 (.wr 33 [31] .done)))))))))))))))))))))))))))))))))) mixed (by kernel_rfl) rfl ?_
  refine Dm rfl rfl rfl rfl ?_
  refine Dp rfl rfl (p_idxao ar93 rfl rfl rfl (by omega) (by omega)) ?_
  refine Dr rfl rfl (rl ag92 rfl rfl rfl) ?_
  refine Dm rfl rfl rfl rfl ?_
  refine Dp rfl rfl (p_idxao ar93 rfl rfl rfl (by omega) (by omega)) ?_
  refine Dr rfl rfl (rl ag92 rfl rfl rfl) ?_
  refine Dm rfl rfl rfl rfl ?_
  refine Dp rfl rfl (p_idxao ar93 rfl rfl rfl (by omega) (by omega)) ?_
  refine Dr rfl rfl (rl ag92 rfl rfl rfl) ?_
  refine Dp rfl rfl (p_nil rfl rfl) ?_
  refine Dp rfl rfl (p_fieldo fo24_0 rfl rfl) ?_
  refine Dr rfl rfl (rl ag3 rfl rfl rfl) ?_
  refine Dm rfl rfl rfl rfl ?_
  refine Dp rfl rfl (p_nil rfl rfl) ?_
  refine Dp rfl rfl (p_fieldo fo24_0 rfl rfl) ?_
  refine Dr rfl rfl (rl ag3 rfl rfl rfl) ?_
  refine Dp rfl rfl (p_min rfl rfl rfl) ?_
  refine Dm rfl rfl rfl rfl ?_
  refine Dp rfl rfl (p_idxao ar93 rfl rfl rfl (by omega) (by omega)) ?_
  refine Dr rfl rfl (rl ag92 rfl rfl rfl) ?_
  refine Dp rfl rfl (p_nil rfl rfl) ?_
  refine Dp rfl rfl (p_fieldo fo24_1 rfl rfl) ?_
  refine Dr rfl rfl (rl ag3 rfl rfl rfl) ?_
  refine Dm rfl rfl rfl rfl ?_
  refine Dp rfl rfl (p_nil rfl rfl) ?_
  refine Dp rfl rfl (p_fieldo fo24_1 rfl rfl) ?_
  refine Dr rfl rfl (rl ag3 rfl rfl rfl) ?_
  refine Dp rfl rfl (p_max rfl rfl rfl) ?_
  refine Dp rfl rfl (p_nil rfl rfl) ?_
  refine Dp rfl rfl (p_fieldo fo24_0 rfl rfl) ?_
  refine D_wr (.go (E' := [(19, _), (5, _)]) rfl (.plain rfl) (ws (cs' := [_, _, _, _, _, _, _, _, _, _, _, _, _]) sz3 rfl rfl rfl rfl rfl rfl rfl) rfl ?_)
  rintro _ _ ⟨rfl, rfl⟩
  refine ⟨(.cons rfl (.plain rfl) (rl ag92 rfl rfl rfl) (.cons rfl (.plain rfl) (rl ag92 rfl rfl rfl) .nil)), ?_⟩
  refine Dp rfl rfl (p_nil rfl rfl) ?_
  refine Dp rfl rfl (p_fieldo fo24_1 rfl rfl) ?_
  refine D_wr (.go (E' := []) rfl (.plain rfl) (ws (cs' := [_, _, _, _, _, _, _, _, _, _, _, _, _]) sz3 rfl rfl rfl rfl rfl rfl rfl) rfl ?_)
  rintro _ _ ⟨rfl, rfl⟩
  refine ⟨.nil, ?_⟩
  refine D_keep (kp [10, 34, 35] rfl) (blk_n (then_n ?_))
  refine V_region rfl ?_
  first | refine Lp rfl (p_add' rfl rfl rfl (by unfold InI; omega)) ?_ | refine Lp rfl (p_add rfl rfl rfl) ?_
  refine Lm rfl rfl rfl ?_
  refine L_keep (kp [10, 34, 35] rfl) (then_n ?_)
  refine LU_step ?_
  refine Vs rfl ?_
  refine Lp rfl (p_lss rfl rfl rfl) ?_
  refine L_then (kp [10, 34, 35, 36] rfl) ?_
  refine V_seq ?_
  refine V_cond_t rfl rfl ?_
  refine V_skip (then_n ?_)
  refine V_seq ?_
  refine V_block ?_
  refine Vs rfl ?_
  refine Lm rfl rfl rfl ?_
  refine Lp rfl (p_at un93 ag92 sz92 rfl rfl rfl (by omega) (by omega) rfl) ?_
  iterate 2 refine La rfl rfl rfl ?_
  refine L_then (kp [10, 11, 12, 34, 35] rfl) ?_
  refine V_draw (.rd 0 (.rd 1 (.rd 2 (.rd 3 (.rd 4 (.rd 5 (.rd 6 (.rd 7 (.rd 8 (.rd 9 (.rd 10 (.rd 11 (.rd 12 (.rd 13 (.rd 14 (.rd 15 (.rd 16 (.rd 17 (.rd 18 (.rd 19 (.rd 20 (.rd 21 (.rd 22 (.rd 23 (.rd 24 (.rd 25 (.rd 26 (.rd 27 (.rd 28 (.rd 29 (.wr 30 [28, 27, 25, 24, 23, 21, 20, 19, 18, 17, 5, 4, 3] (.rd 31 (.rd 32 (.wr 33 [31] .done)))))))))))))))))))))))))))))))))) mixed (by kernel_rfl) rfl ?_
  refine Dm rfl rfl rfl rfl ?_
  refine Dp rfl rfl (p_idxao ar93 rfl rfl rfl (by omega) (by omega)) ?_
  refine Dr rfl rfl (rl ag92 rfl rfl rfl) ?_
  refine Dm rfl rfl rfl rfl ?_
  refine Dp rfl rfl (p_idxao ar93 rfl rfl rfl (by omega) (by omega)) ?_
  refine Dr rfl rfl (rl ag92 rfl rfl rfl) ?_
  refine Dm rfl rfl rfl rfl ?_
  refine Dp rfl rfl (p_idxao ar93 rfl rfl rfl (by omega) (by omega)) ?_
  refine Dr rfl rfl (rl ag92 rfl rfl rfl) ?_
  refine Dp rfl rfl (p_nil rfl rfl) ?_
  refine Dp rfl rfl (p_fieldo fo24_0 rfl rfl) ?_
  refine Dr rfl rfl (rl ag3 rfl rfl rfl) ?_
  refine Dm rfl rfl rfl rfl ?_
  refine Dp rfl rfl (p_nil rfl rfl) ?_
  refine Dp rfl rfl (p_fieldo fo24_0 rfl rfl) ?_
  refine Dr rfl rfl (rl ag3 rfl rfl rfl) ?_
  refine Dp rfl rfl (p_min rfl rfl rfl) ?_
  refine Dm rfl rfl rfl rfl ?_
  refine Dp rfl rfl (p_idxao ar93 rfl rfl rfl (by omega) (by omega)) ?_
  refine Dr rfl rfl (rl ag92 rfl rfl rfl) ?_
  refine Dp rfl rfl (p_nil rfl rfl) ?_
  refine Dp rfl rfl (p_fieldo fo24_1 rfl rfl) ?_
  refine Dr rfl rfl (rl ag3 rfl rfl rfl) ?_
  refine Dm rfl rfl rfl rfl ?_
  refine Dp rfl rfl (p_nil rfl rfl) ?_
  refine Dp rfl rfl (p_fieldo fo24_1 rfl rfl) ?_
  refine Dr rfl rfl (rl ag3 rfl rfl rfl) ?_
  refine Dp rfl rfl (p_max rfl rfl rfl) ?_
  refine Dp rfl rfl (p_nil rfl rfl) ?_
  refine Dp rfl rfl (p_fieldo fo24_0 rfl rfl) ?_
  refine D_wr (.go (E' := [(19, _), (5, _)]) rfl (.plain rfl) (ws (cs' := [_, _, _, _, _, _, _, _, _, _, _, _, _]) sz3 rfl rfl rfl rfl rfl rfl rfl) rfl ?_)
  rintro _ _ ⟨rfl, rfl⟩
  refine ⟨(.cons rfl (.plain rfl) (rl ag92 rfl rfl rfl) (.cons rfl (.plain rfl) (rl ag92 rfl rfl rfl) .nil)), ?_⟩
  refine Dp rfl rfl (p_nil rfl rfl) ?_
  refine Dp rfl rfl (p_fieldo fo24_1 rfl rfl) ?_
  refine D_wr (.go (E' := []) rfl (.plain rfl) (ws (cs' := [_, _, _, _, _, _, _, _, _, _, _, _, _]) sz3 rfl rfl rfl rfl rfl rfl rfl) rfl ?_)
  rintro _ _ ⟨rfl, rfl⟩
  refine ⟨.nil, ?_⟩
  refine D_keep (kp [10, 34, 35] rfl) (blk_n (then_n ?_))
  refine V_region rfl ?_
  first | refine Lp rfl (p_add' rfl rfl rfl (by unfold InI; omega)) ?_ | refine Lp rfl (p_add rfl rfl rfl) ?_
  refine Lm rfl rfl rfl ?_
  refine L_keep (kp [10, 34, 35] rfl) (then_n ?_)
  refine LU_step ?_
  refine Vs rfl ?_
  refine Lp rfl (p_lss rfl rfl rfl) ?_
  refine L_then (kp [10, 34, 35, 36] rfl) ?_
  refine V_seq ?_
  refine V_cond_t rfl rfl ?_
  refine V_skip (then_n ?_)
  refine V_seq ?_
  refine V_block ?_
  refine Vs rfl ?_
  refine Lm rfl rfl rfl ?_
  refine Lp rfl (p_at un93 ag92 sz92 rfl rfl rfl (by omega) (by omega) rfl) ?_
  iterate 2 refine La rfl rfl rfl ?_
  refine L_then (kp [10, 11, 12, 34, 35] rfl) ?_
  refine V_draw (.rd 0 (.rd 1 (.rd 2 (.rd 3 (.rd 4 (.rd 5 (.rd 6 (.rd 7 (.rd 8 (.rd 9 (.rd 10 (.rd 11 (.rd 12 (.rd 13 (.rd 14 (.rd 15 (.rd 16 (.rd 17 (.rd 18 (.rd 19 (.rd 20 (.rd 21 (.rd 22 (.rd 23 (.rd 24 (.rd 25 (.rd 26 (.rd 27 (.rd 28 (.rd 29 (.wr 30 [28, 27, 25, 24, 23, 21, 20, 19, 18, 17, 5, 4, 3] (.rd 31 (.rd 32 (.wr 33 [31] .done)))))))))))))))))))))))))))))))))) mixed (by kernel_rfl) rfl ?_
  refine Dm rfl rfl rfl rfl ?_
  refine Dp rfl rfl (p_idxao ar93 rfl rfl rfl (by omega) (by omega)) ?_
  refine Dr rfl rfl (rl ag92 rfl rfl rfl) ?_
  refine Dm rfl rfl rfl rfl ?_
  refine Dp rfl rfl (p_idxao ar93 rfl rfl rfl (by omega) (by omega)) ?_
  refine Dr rfl rfl (rl ag92 rfl rfl rfl) ?_
  refine Dm rfl rfl rfl rfl ?_
  refine Dp rfl rfl (p_idxao ar93 rfl rfl rfl (by omega) (by omega)) ?_
  refine Dr rfl rfl (rl ag92 rfl rfl rfl) ?_
  refine Dp rfl rfl (p_nil rfl rfl) ?_
  refine Dp rfl rfl (p_fieldo fo24_0 rfl rfl) ?_
  refine Dr rfl rfl (rl ag3 rfl rfl rfl) ?_
  refine Dm rfl rfl rfl rfl ?_
  refine Dp rfl rfl (p_nil rfl rfl) ?_
  refine Dp rfl rfl (p_fieldo fo24_0 rfl rfl) ?_
  refine Dr rfl rfl (rl ag3 rfl rfl rfl) ?_
  refine Dp rfl rfl (p_min rfl rfl rfl) ?_
  refine Dm rfl rfl rfl rfl ?_
  refine Dp rfl rfl (p_idxao ar93 rfl rfl rfl (by omega) (by omega)) ?_
  refine Dr rfl rfl (rl ag92 rfl rfl rfl) ?_
  refine Dp rfl rfl (p_nil rfl rfl) ?_
  refine Dp rfl rfl (p_fieldo fo24_1 rfl rfl) ?_
  refine Dr rfl rfl (rl ag3 rfl rfl rfl) ?_
  refine Dm rfl rfl rfl rfl ?_
  refine Dp rfl rfl (p_nil rfl rfl) ?_
  refine Dp rfl rfl (p_fieldo fo24_1 rfl rfl) ?_
  refine Dr rfl rfl (rl ag3 rfl rfl rfl) ?_
  refine Dp rfl rfl (p_max rfl rfl rfl) ?_
  refine Dp rfl rfl (p_nil rfl rfl) ?_
  refine Dp rfl rfl (p_fieldo fo24_0 rfl rfl) ?_
  refine D_wr (.go (E' := [(19, _), (5, _)]) rfl (.plain rfl) (ws (cs' := [_, _, _, _, _, _, _, _, _, _, _, _, _]) sz3 rfl rfl rfl rfl rfl rfl rfl) rfl ?_)
  rintro _ _ ⟨rfl, rfl⟩
  refine ⟨(.cons rfl (.plain rfl) (rl ag92 rfl rfl rfl) (.cons rfl (.plain rfl) (rl ag92 rfl rfl rfl) .nil)), ?_⟩
  refine Dp rfl rfl (p_nil rfl rfl) ?_
  refine Dp rfl rfl (p_fieldo fo24_1 rfl rfl) ?_
  refine D_wr (.go (E' := []) rfl (.plain rfl) (ws (cs' := [_, _, _, _, _, _, _, _, _, _, _, _, _]) sz3 rfl rfl rfl rfl rfl rfl rfl) rfl ?_)
  rintro _ _ ⟨rfl, rfl⟩
  refine ⟨.nil, ?_⟩
  refine D_keep (kp [10, 34, 35] rfl) (blk_n (then_n ?_))
  refine V_region rfl ?_
  first | refine Lp rfl (p_add' rfl rfl rfl (by unfold InI; omega)) ?_ | refine Lp rfl (p_add rfl rfl rfl) ?_
  refine Lm rfl rfl rfl ?_
  refine L_keep (kp [10, 34, 35] rfl) (then_n ?_)
  refine LU_step ?_
  refine Vs rfl ?_
  refine Lp rfl (p_lss rfl rfl rfl) ?_
  refine L_then (kp [10, 34, 35, 36] rfl) ?_
  refine V_seq ?_
  refine V_cond_f rfl rfl ?_
  refine V_exit (then_e (then_e (blk_e rfl (blk_n ?_))))
  refine endI (by repeat first | exact .head | apply SetAt.tail) ?_
  refine ⟨(y2, .cells #[.int .i64 now] 3) :: (y3, .cells #[.int .i64 u] 3) :: (y1, t.obj (.slice ta t.trackers.length tc) pv 39) :: (b3, .cells #[.bool acc.isSome] 4) :: (b2, .cells (Box.cells (joinB (acc.getD boxZ) p.2)).toArray 28) :: (b1, t.obj (.slice ta t.trackers.length tc) pv 39) :: [], (by (try dsimp only); repeat (first | exact HSub.nil _ | refine HSub.take (by repeat first | exact Take.head | apply Take.tail) ?_ | exact HSub.refl _ | refine HSub.drop ?_ | refine HSub.app ?_)), ?_⟩
  have e : acc = some (acc.getD boxZ) := isSome_get c2
  refine ⟨qs ++ [p], by rw [List.map_append]; rfl, ?_⟩
  rw [hsn]; revert e; generalize acc.getD boxZ = bb; rintro rfl; rfl
 ·intro l1 D1 r1 w1 hY hgi
  refine (others1_c t hG u now hu w l1 y1 y2 y3 ta tc pv _ hT hY ?_ w1 _ ⟨_, rfl, [], rfl, rfl⟩ hgi).mono (fun _ w2 ⟨Hs, hg2, Hr, e, hJ⟩ => ⟨Hr, e ▸ hg2, hJ⟩)
  rintro done _ ⟨Hr, rfl, qs, rfl, rfl⟩
  exact ⟨.tail _ (.tail _ (.tail _ (.tail _ (.head _)))), .tail _ (.tail _ (.head _)), .tail _ (.tail _ (.tail _ (.head _)))⟩
 intro l1 D1 ob1 Hr hJ
 obtain ⟨qs, hL, rfl⟩ := hJ
 have hqs := ov_inj hL
 refine (blk_n (then_n ?_))
 refine V_seq (V_draw (.rd 0 (.rd 1 (.wr 2 [1] (.wr 3 [] .done)))) mixed (by kernel_rfl) rfl ?_)
 refine Dr rfl rfl (rlA (vs := [_, _, _, _, _, _, _, _, _, _, _, _, _]) ag28 sz28 rfl rfl rfl) ?_
 refine Dr rfl rfl (rl ag4 rfl rfl rfl) ?_
 refine D_wr (.go (E' := [(1, _)]) rfl (.plain rfl) (ws (cs' := [_, _, _, _, _, _, _, _, _, _, _, _, _]) sz28 rfl rfl rfl rfl rfl rfl rfl) rfl ?_)
 rintro _ _ ⟨rfl, rfl⟩
 refine ⟨(.cons rfl (.plain rfl) (rl ag4 rfl rfl rfl) .nil), ?_⟩
 refine D_wr (.go (E' := []) rfl (.plain rfl) (ws (cs' := [_]) sz4 rfl rfl rfl rfl rfl rfl rfl) rfl ?_)
 rintro _ _ ⟨rfl, rfl⟩
 refine ⟨.nil, ?_⟩
 refine D_then (kp [6, 7] rfl) ?_
 refine V_ret ?_
 refine Leave.mark (by repeat first | exact .head | apply SetAt.tail) (Leave.nil (.cellA (us := [_, _, _, _, _, _, _, _, _, _, _, _, _]) rfl ag28 sz28 (by repeat first | exact mH | apply mT) rfl (.cell rfl ag4 (by repeat first | exact mH | apply mT) rfl .nil)) ?_)
 have e : spareT t u now = foldB qs := by rw [spareT, if_neg (by omega), hqs]
 rw [e]; rfl

end Go.Proofs.YtlcccpeelombbaaGreatDoor

/- YtlcccpeelombbaaGreatDoor: the exported functions of package track. -/
set_option linter.all false
namespace Go.Proofs.YtlcccpeelombbaaGreatDoor
open Go.Vc Go.Tk
set_option maxRecDepth 100000
theorem spareR_c (t : Task) (tv pv : Value) (u now : Int) (w : World) (ht : TaskR w (.agg #[.int .i64 t.frm, .int .i64 t.speed, .int .i64 t.accel, tv, pv]) t) : FnP Tryz.prog 78 [.agg #[.int .i64 t.frm, .int .i64 t.speed, .int .i64 t.accel, tv, pv], .int .i64 u, .int .i64 now] w (spareR t u now) := by
 have hT := ht
 refine fn_pure Tryz.func78 rfl (by kernel_rfl) Tryz.ntmps78 Tryz.results78 rfl ?_
 refine Vs rfl ?_
 refine Lw rfl (w_box rfl rfl) ?_
 rintro _ _ ⟨b1, hb1, rfl, rfl⟩
 refine Lw rfl (w_alloc zr28 rfl) ?_
 rintro _ _ ⟨b2, hb2, rfl, rfl⟩
 refine La rfl rfl rfl ?_
 refine L_then (kp [1, 2, 3, 6] rfl) ?_
 refine V_seq ?_
 refine Vs rfl ?_
 refine Lr rfl (rlA (vs := [_, _, _, _, _]) ag39 sz39 rfl rfl rfl) ?_
 iterate 2 refine Lm rfl rfl rfl ?_
 refine Lw rfl (w_slice (r := [_, _]) un53 sz3 zr3 rfl (by decide) rfl (by decide) rfl rfl) ?_
 rintro _ _ ⟨b3, hb3, rfl, rfl⟩
 refine Lc rfl rfl rfl rfl (fun w hg => asked_c t [u, now] _ _ w (hT.good hg) (own_ints (l := [u, now]) (hg.own (b3, _) (by repeat first | exact mH | apply mT)) rfl (by decide)) (by simp)) ?_
 refine La rfl rfl rfl ?_
 refine L_then (kp [1, 2, 3, 6, 8] rfl) ?_
 refine Vs rfl ?_
 refine Lm rfl rfl rfl ?_
 refine Lp rfl (p_neq rfl rfl rfl) ?_
 refine L_then (kp [1, 2, 3, 6, 8, 15] rfl) ?_
 refine V_cond rfl ?_ ?_
 ·intro c1; try simp only [td] at c1
  refine Vs rfl ?_
  refine Lp rfl (p_build (r := [_, _, _, _, _, _, _, _, _, _, _, _, _]) pl28 zr28 rfl rfl rfl) ?_
  refine Lm rfl rfl rfl ?_
  refine Ls (cs' := [_, _, _, _, _, _, _, _, _, _, _, _, _]) rfl sz28 rfl rfl rfl rfl rfl rfl rfl ?_
  refine La rfl rfl rfl ?_
  refine L_then (kp [6, 7] rfl) ?_
  refine V_ret (then_r ?_)
  refine Leave.nil (.cellA (us := [_, _, _, _, _, _, _, _, _, _, _, _, _]) rfl ag28 sz28 (by repeat first | exact mH | apply mT) rfl (.tmp rfl .nil)) ?_
  rw [spareR, if_pos c1]; rfl
 intro c1; try simp only [td] at c1
 obtain ⟨hG, hn⟩ := asked_zero c1
 refine V_skip (then_n ?_)
 refine Vs rfl ?_
 refine Lr rfl (rlA (vs := [_, _, _, _, _]) ag39 sz39 rfl rfl rfl) ?_
 iterate 2 refine Lm rfl rfl rfl ?_
 refine Lc rfl rfl rfl rfl (fun w hg => spare_c t hG _ _ u now (hn u (.head _)) w (hT.good hg)) ?_
 iterate 2 refine Lp rfl (p_ext rfl rfl rfl) ?_
 refine Lc rfl rfl rfl rfl (fun w hg => found_c _ w) ?_
 iterate 2 refine Lp rfl (p_ext rfl rfl rfl) ?_
 refine Ls (cs' := [_, _, _, _, _, _, _, _, _, _, _, _, _]) rfl sz28 rfl rfl rfl rfl rfl rfl rfl ?_
 refine La rfl rfl rfl ?_
 refine L_then (kp [6, 7] rfl) ?_
 refine V_ret ?_
 refine Leave.nil (.cellA (us := [_, _, _, _, _, _, _, _, _, _, _, _, _]) rfl ag28 sz28 (by repeat first | exact mH | apply mT) rfl (.tmp rfl .nil)) ?_
 have e : spareR t u now = foundT (spareT t u now) := if_neg (fun h => h c1)
 rw [e]; rfl

end Go.Proofs.YtlcccpeelombbaaGreatDoor
